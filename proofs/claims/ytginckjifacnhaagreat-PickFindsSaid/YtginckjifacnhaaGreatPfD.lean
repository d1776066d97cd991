/-
  Part 4 of the base of the proofs: a logic of our own over the calculus, the contracts of the functions
-/
import Derived.Test.YtginckjifacnhaaGreatPfC
set_option linter.unusedVariables false
namespace Go.FL
open Go Go.Proofs
def Ie (a0:RT) (a1:RT) : Option (Int):=((Fw ([a0,a1])).bind fun x1=>(if x1=true then ((Iv a0).bind fun x2=>((Iv a1).bind fun x3=>(if ((!(decide (x2=x3)))&&(decide (x2<x3)))=true then (some ((-1))) else (if x2=x3 then ((Lq a0).bind fun x4=>((Lq a1).bind fun x5=>((M0 x4.1 x5.1).bind fun x6=>((Lq a1).bind fun x7=>((Lq a0).bind fun x8=>((M0 x7.1 x8.1).bind fun x9=>((RD x6 x9).bind fun x10=>(some ((w64 (x2 * x10))))))))))) else (some (1)))))) else (some (0))))
theorem Ng {a0:RT} {a1:RT} {r:Int} (h:Ie a0 a1=some r) :
  Fn Tryz.prog 138 [.ag [.b a0.1,.sl (L a0.2.1),.sl (L a0.2.2)],.ag [.b a1.1,.sl (L a1.2.1),.sl (L a1.2.2)]] (.d (.i .i64 r)):=by
 unfold Ie at h
 refine Fn.o1 4 46 Tryz.func138 ?_;refine .sr<|kK vbx<|kK vbx<|kR [2,3,4] zj<|.seq<|.sr<|kK (Ap AU AD)<|kK (Ap AU AD)<|kK ((GN (Gr [a0,a1]) Ik).deep) ?_
 obtain ⟨x1,g1,h⟩:=bnd h
 refine kK (Ag (EK g1) Tryz.call188)<|kK vnt<|rk [2,3,4,11] ?_
 rcases brc h with ⟨hc,h⟩|⟨hc,h⟩
 ·refine cnf (ntf hc) ?_
  refine .sk ?_;refine .seq<|.drawn 4 AS (by kernel_rfl) ?_;refine kV (Ap AU AD) ?_
  obtain ⟨x2,g2,h⟩:=bnd h
  refine kV (Ag (H7 g2) Tryz.call90)<|kV (Ap AU AD) ?_
  obtain ⟨x3,g3,h⟩:=bnd h
  refine kV (Ag (H7 g3) Tryz.call90)<|dz ?_;refine kD zj<|kR [2,3,4,5,6] zj<|.seq<|.block<|.seq<|AW.mr (σ:=Unit) (fun _=>True) (fun _=>[(2,.d (.ptr [.b a0.1,.sl (L a0.2.1),.sl (L a0.2.2)])),(3,.d (.ptr [.b a1.1,.sl (L a1.2.1),.sl (L a1.2.2)])),(4,.d (.i .i64 0)),(5,.d (.i .i64 x2)),(6,.d (.i .i64 x3)),(16,.d (.b ((!(decide (x2=x3)))&&(decide (x2<x3)))))]) (fun _=>[]) ?_ ?_
  ·skip
   refine .region<|kA zj<|kA zj<|kB zj ?_
   by_cases hc:x2=x3
   ·have hb0:(!(decide (x2=x3)))=false:=(ntf (dT hc))
    refine kC zj hb0<|gf3 ?_;refine kK Ao<|kD zj<|RL.gk [2,3,4,5,6,16]<|.nil ?_
    exact jr () trivial (by simp only [hb0];rfl)
   have hb0:(!(decide (x2=x3)))=true:=(ntt (dF hc))
   refine kC zj hb0<|kA zj<|kA zj<|kB zj<|kK Ao<|kD zj<|RL.gk [2,3,4,5,6,16]<|.nil ?_
   exact jr () trivial (by simp only [hb0];rfl)
  rintro _ _
  rcases brc h with ⟨hc,h⟩|⟨hc,h⟩
  ·refine cnt hc ?_
   refine .sr<|kR [2,3,4,5] zj<|.ret ?_
   cases h
   exact ⟨rfl,rfl⟩
  refine cnf (bf hc) ?_;refine .sr<|kA zj<|kA zj<|kB zj<|kR [2,3,4,5,25] zj ?_
  rcases brc h with ⟨hc,h⟩|⟨hc,h⟩
  ·refine cnf (ntf (dT hc)) ?_
   refine .sk ?_;refine .seq<|.drawn 17 AS (by kernel_rfl) ?_;refine kV Ac<|kV (Ap AU AD) ?_
   obtain ⟨x4,g4,h⟩:=bnd h
   refine kV (Ag (F7 g4) Tryz.call190)<|kV (Xp Py Pm)<|kV (Ap AU AD) ?_
   obtain ⟨x5,g5,h⟩:=bnd h
   refine kV (Ag (F7 g5) Tryz.call190)<|kV (Xp Py Pm) ?_
   obtain ⟨x6,g6,h⟩:=bnd h
   refine kV (Ag (LK g6) Tryz.call191)<|kV (Ap AU AD) ?_
   obtain ⟨x7,g7,h⟩:=bnd h
   refine kV (Ag (F7 g7) Tryz.call190)<|kV (Xp Py Pm)<|kV (Ap AU AD) ?_
   obtain ⟨x8,g8,h⟩:=bnd h
   refine kV (Ag (F7 g8) Tryz.call190)<|kV (Xp Py Pm) ?_
   obtain ⟨x9,g9,h⟩:=bnd h
   refine dv (Ag (LK g9) Tryz.call191) ?_
   obtain ⟨x10,g10,h⟩:=bnd h
   refine kV (Ag (QT g10) Tryz.call189)<|kV vbi<|dz ?_;refine kR [4] zj<|.ret ?_
   cases h
   exact ⟨rfl,rfl⟩
  refine cnt (ntt (dF hc)) ?_;refine .sr<|kR [2,3,4,5] zj<|.ret ?_
  cases h
  exact ⟨rfl,rfl⟩
 refine cnt (ntt (bf hc)) ?_;refine .sr<|kR [2,3,4] zj<|.ret ?_
 cases h
 exact ⟨rfl,rfl⟩
def IJ (a0:RT) (a1:RT) : Option (RT×Int):=((Fw ([a0,a1])).bind fun x1=>(if x1=true then (if ((List.length a0.2.1:Nat) : Int)=0 then ((JL a1 a1.1).bind fun x2=>(some (x2.1,x2.2))) else ((Mf a1 a0).bind fun x3=>(if x3.2=0 then ((KG x3.1).bind fun x4=>(if x4.2=0 then ((SG ([a0,x4.1])).bind fun x5=>(if x5.2=0 then ((Hq a1 x5.1).bind fun x6=>(some (x6.1,x6.2))) else (some ((false,[],[]),x5.2)))) else (if x4.2=0 then ((Hq a1 x4.1).bind fun x7=>(some (x7.1,x7.2))) else (some ((false,[],[]),x4.2))))) else (if x3.2=0 then ((SG ([a0,x3.1])).bind fun x8=>(if x8.2=0 then ((Hq a1 x8.1).bind fun x9=>(some (x9.1,x9.2))) else (some ((false,[],[]),x8.2)))) else (if x3.2=0 then ((Hq a1 x3.1).bind fun x10=>(some (x10.1,x10.2))) else (some ((false,[],[]),x3.2))))))) else (some ((false,[],[]),22))))
theorem MJ {a0:RT} {a1:RT} {r:RT×Int} (h:IJ a0 a1=some r) :
  Fn Tryz.prog 147 [.ag [.b a0.1,.sl (L a0.2.1),.sl (L a0.2.2)],.ag [.b a1.1,.sl (L a1.2.1),.sl (L a1.2.2)]] (.tup [.d (.ag [.b r.1.1,.sl (L r.1.2.1),.sl (L r.1.2.2)]),.d (.i .i64 r.2)]):=by
 unfold IJ at h
 refine Fn.ofC (rs:=[.cell 4 33,.tmp 5]) (nt:=57) Tryz.func147 rfl rfl rfl (by simp) rfl ?_;refine .sr<|kK vbx<|kK vbx<|kK (van (Ae Fv) Fq)<|kR [2,3,4,5] zj<|.seq<|.block<|.sr<|kK (Ap AU AD)<|kK (Ap AU AD)<|kK ((GN (Gr [a0,a1]) Ik).deep) ?_
 obtain ⟨x1,g1,h⟩:=bnd h
 refine kK (Ag (EK g1) Tryz.call188)<|kK vnt<|kR [2,3,4,5,8] zj ?_
 rcases brc h with ⟨hc,h⟩|⟨hc,h⟩
 ·refine cnf (ntf hc) ?_
  refine .sr<|kK (vfa D2)<|kK (Al EG)<|kK (AX (Aa _) (BY _) RC)<|kB zj<|kR [2,3,4,5,15] zj ?_
  rcases brc h with ⟨hc,h⟩|⟨hc,h⟩
  ·refine cnt (dT hc) ?_
   refine .sr<|kK (Ap AU AD)<|kK (vfa Em)<|kK (Al Dd) ?_
   obtain ⟨x2,g2,h⟩:=bnd h
   refine kK (VOK.tupd (vs:=[.ag [.b x2.1.1,.sl (L x2.1.2.1),.sl (L x2.1.2.2)],.i .i64 x2.2]) (Ag (ND g2) Tryz.call196))<|kK vex<|kK vex ?_
   refine stn ?_ AD (by decide)
   refine kR [2,3,4,5] zj<|.ret ?_
   cases h
   exact ⟨_,_,⟨.inr rfl,AU,AD,p3⟩,rfl,rfl⟩
  refine cnf (dF hc) ?_;refine .sk ?_;refine .sr<|kK (Ap AU AD)<|kK (Ap AU AD) ?_
  obtain ⟨x3,g3,h⟩:=bnd h
  refine kK (VOK.tupd (vs:=[.ag [.b x3.1.1,.sl (L x3.1.2.1),.sl (L x3.1.2.2)],.i .i64 x3.2]) (Ag (M5 g3) Tryz.call149))<|kA zj<|kK vex<|kK vex<|kK (van (Ae Fv) Fq) ?_
  refine stn ?_ AD (by decide)
  refine kR [2,3,4,5,6,7] zj<|.seq<|.sr<|kA zj<|kB zj<|rk [2,3,4,5,6,7,33] ?_
  rcases brc h with ⟨hc,h⟩|⟨hc,h⟩
  ·refine cnt (dT hc) ?_
   refine .region<|kK (Dv AU AD) ?_
   obtain ⟨x4,g4,h⟩:=bnd h
   refine kK (VOK.tupd (vs:=[.ag [.b x4.1.1,.sl (L x4.1.2.1),.sl (L x4.1.2.2)],.i .i64 x4.2]) (Ag (O8 g4) Tryz.call197))<|kA zj<|kK vex<|kK vex ?_
   refine stn ?_ AD (by decide)
   refine kR [2,3,4,5,6,7] zj<|.seq<|.sr<|kA zj<|kB zj<|rk [2,3,4,5,6,7,40] ?_
   rcases brc h with ⟨hc,h⟩|⟨hc,h⟩
   ·refine cnt (dT hc) ?_
    refine .region<|kK (Ap AU AD)<|kK (Dv AU AD)<|kK ((GN (Gr [a0,x4.1]) Ik).deep) ?_
    obtain ⟨x5,g5,h⟩:=bnd h
    refine kK (VOK.tupd (vs:=[.ag [.b x5.1.1,.sl (L x5.1.2.1),.sl (L x5.1.2.2)],.i .i64 x5.2]) (Ag (Og g5) Tryz.call98))<|kA zj<|kK vex<|kK vex ?_
    refine stn ?_ AD (by decide)
    refine kR [3,4,5,6,7] zj<|.seq<|.sr<|kA zj<|kB zj<|rk [3,4,5,6,7,49] ?_
    rcases brc h with ⟨hc,h⟩|⟨hc,h⟩
    ·refine cnf (ntf (dT hc)) ?_
     refine .sk ?_;refine .sr<|kK (Ap AU AD)<|kK (Dv AU AD) ?_
     obtain ⟨x6,g6,h⟩:=bnd h
     refine kK (VOK.tupd (vs:=[.ag [.b x6.1.1,.sl (L x6.1.2.1),.sl (L x6.1.2.2)],.i .i64 x6.2]) (Ag (Gi g6) Tryz.call148))<|kK vex<|kK vex ?_
     refine stn ?_ AD (by decide)
     refine kR [4,5] zj<|.ret ?_
     cases h
     exact ⟨_,_,⟨.inr rfl,AU,AD,p3⟩,rfl,rfl⟩
    refine cnt (ntt (dF hc)) ?_;refine .sr<|kK (vbd KO Fv Fq)<|kA zj ?_
    refine stn ?_ AD (by decide)
    refine kR [3,4,5,6] zj<|.ret ?_
    cases h
    exact ⟨_,_,⟨.inr rfl,AU,AD,p3⟩,rfl,rfl⟩
   refine cnf (dF hc) ?_;refine .sk ?_;refine .seq<|.sr<|kA zj<|kB zj<|rk [3,4,5,6,7,49] ?_
   rcases brc h with ⟨hc,h⟩|⟨hc,h⟩
   ·refine cnf (ntf (dT hc)) ?_
    refine .sk ?_;refine .sr<|kK (Ap AU AD)<|kK (Dv AU AD) ?_
    obtain ⟨x7,g7,h⟩:=bnd h
    refine kK (VOK.tupd (vs:=[.ag [.b x7.1.1,.sl (L x7.1.2.1),.sl (L x7.1.2.2)],.i .i64 x7.2]) (Ag (Gi g7) Tryz.call148))<|kK vex<|kK vex ?_
    refine stn ?_ AD (by decide)
    refine kR [4,5] zj<|.ret ?_
    cases h
    exact ⟨_,_,⟨.inr rfl,AU,AD,p3⟩,rfl,rfl⟩
   refine cnt (ntt (dF hc)) ?_;refine .sr<|kK (vbd KO Fv Fq)<|kA zj ?_
   refine stn ?_ AD (by decide)
   refine kR [3,4,5,6] zj<|.ret ?_
   cases h
   exact ⟨_,_,⟨.inr rfl,AU,AD,p3⟩,rfl,rfl⟩
  refine cnf (dF hc) ?_;refine .sk ?_;refine .seq<|.sr<|kA zj<|kB zj<|rk [2,3,4,5,6,7,40] ?_
  rcases brc h with ⟨hc,h⟩|⟨hc,h⟩
  ·refine cnt (dT hc) ?_
   refine .region<|kK (Ap AU AD)<|kK (Dv AU AD)<|kK ((GN (Gr [a0,x3.1]) Ik).deep) ?_
   obtain ⟨x8,g8,h⟩:=bnd h
   refine kK (VOK.tupd (vs:=[.ag [.b x8.1.1,.sl (L x8.1.2.1),.sl (L x8.1.2.2)],.i .i64 x8.2]) (Ag (Og g8) Tryz.call98))<|kA zj<|kK vex<|kK vex ?_
   refine stn ?_ AD (by decide)
   refine kR [3,4,5,6,7] zj<|.seq<|.sr<|kA zj<|kB zj<|rk [3,4,5,6,7,49] ?_
   rcases brc h with ⟨hc,h⟩|⟨hc,h⟩
   ·refine cnf (ntf (dT hc)) ?_
    refine .sk ?_;refine .sr<|kK (Ap AU AD)<|kK (Dv AU AD) ?_
    obtain ⟨x9,g9,h⟩:=bnd h
    refine kK (VOK.tupd (vs:=[.ag [.b x9.1.1,.sl (L x9.1.2.1),.sl (L x9.1.2.2)],.i .i64 x9.2]) (Ag (Gi g9) Tryz.call148))<|kK vex<|kK vex ?_
    refine stn ?_ AD (by decide)
    refine kR [4,5] zj<|.ret ?_
    cases h
    exact ⟨_,_,⟨.inr rfl,AU,AD,p3⟩,rfl,rfl⟩
   refine cnt (ntt (dF hc)) ?_;refine .sr<|kK (vbd KO Fv Fq)<|kA zj ?_
   refine stn ?_ AD (by decide)
   refine kR [3,4,5,6] zj<|.ret ?_
   cases h
   exact ⟨_,_,⟨.inr rfl,AU,AD,p3⟩,rfl,rfl⟩
  refine cnf (dF hc) ?_;refine .sk ?_;refine .seq<|.sr<|kA zj<|kB zj<|rk [3,4,5,6,7,49] ?_
  rcases brc h with ⟨hc,h⟩|⟨hc,h⟩
  ·refine cnf (ntf (dT hc)) ?_
   refine .sk ?_;refine .sr<|kK (Ap AU AD)<|kK (Dv AU AD) ?_
   obtain ⟨x10,g10,h⟩:=bnd h
   refine kK (VOK.tupd (vs:=[.ag [.b x10.1.1,.sl (L x10.1.2.1),.sl (L x10.1.2.2)],.i .i64 x10.2]) (Ag (Gi g10) Tryz.call148))<|kK vex<|kK vex ?_
   refine stn ?_ AD (by decide)
   refine kR [4,5] zj<|.ret ?_
   cases h
   exact ⟨_,_,⟨.inr rfl,AU,AD,p3⟩,rfl,rfl⟩
  refine cnt (ntt (dF hc)) ?_;refine .sr<|kK (vbd KO Fv Fq)<|kA zj ?_
  refine stn ?_ AD (by decide)
  refine kR [3,4,5,6] zj<|.ret ?_
  cases h
  exact ⟨_,_,⟨.inr rfl,AU,AD,p3⟩,rfl,rfl⟩
 refine cnt (ntt (bf hc)) ?_;refine .sr<|kK (vbd KO Fv Fq) ?_
 refine stn ?_ AD (by decide)
 refine kR [2,3,4,5] zj<|.ret ?_
 cases h
 exact ⟨_,_,⟨.inr rfl,AU,AD,p3⟩,rfl,rfl⟩
def Ew (a0:RT) : Option (ByteArray):=((Fl a0).bind fun x1=>(if x1=true then ((IC a0.2.1).bind fun x2=>(if a0.1=true then ((FF (⟨#[194,175]⟩ : ByteArray) x2).bind fun x3=>(Ir.bind fun x4=>((Fa a0.2.2 x4).bind fun x5=>(if x5=true then (some (x3)) else ((IC a0.2.2).bind fun x6=>((FF (⟨#[114]⟩ : ByteArray) x6).bind fun x7=>((FF x3 x7).bind fun x8=>(some (x8))))))))) else (Ir.bind fun x9=>((Fa a0.2.2 x9).bind fun x10=>(if x10=true then (some (x2)) else ((IC a0.2.2).bind fun x11=>((FF (⟨#[114]⟩ : ByteArray) x11).bind fun x12=>((FF x2 x12).bind fun x13=>(some (x13)))))))))) else (some ((⟨#[]⟩ : ByteArray)))))
theorem Kc {a0:RT} {r:ByteArray} (h:Ew a0=some r) :
  Fn Tryz.prog 154 [.ag [.b a0.1,.sl (L a0.2.1),.sl (L a0.2.2)]] (.d (.s r)):=by
 unfold Ew at h
 refine Fn.o1 2 26 Tryz.func154 ?_;refine .sr<|kK vbx<|kR [1,2] zj<|.seq<|.sr<|kK (Ap AU AD) ?_
 obtain ⟨x1,g1,h⟩:=bnd h
 refine kK (Ag (Es g1) Tryz.call112)<|kK vnt<|rk [1,2,6] ?_
 rcases brc h with ⟨hc,h⟩|⟨hc,h⟩
 ·refine cnf (ntf hc) ?_
  refine .sk ?_;refine .sr<|kK (vfa D2)<|kK (Al EG) ?_
  obtain ⟨x2,g2,h⟩:=bnd h
  refine kK (Ag (Lg g2) Tryz.call203)<|kR [1,2,3] zj<|.seq<|.sr<|kK (vfa Em)<|kK (Al Dd)<|rk [1,2,3,11] ?_
  rcases brc h with ⟨hc,h⟩|⟨hc,h⟩
  ·refine cnt hc ?_
   refine .region<|kA zj ?_
   obtain ⟨x3,g3,h⟩:=bnd h
   refine kK (vsa g3)<|kR [1,2,3] zj<|.seq<|.seq<|.drawn 5 AS (by kernel_rfl) ?_;refine kV (vfa E3)<|kV (Al EG) ?_
   obtain ⟨x4,g4,h⟩:=bnd h
   refine dv ((Ag (FZ g4) Tryz.call116).deep) ?_
   obtain ⟨x5,g5,h⟩:=bnd h
   refine kV (Ag (Gl g5) Tryz.call121)<|kV vnt<|dz ?_;refine rk [1,2,3,18] ?_
   rcases brc h with ⟨hc,h⟩|⟨hc,h⟩
   ·refine cnf (ntf hc) ?_
    refine .sk ?_;refine .sr<|kA zj<|kR [2] zj<|.ret ?_
    cases h
    exact ⟨rfl,rfl⟩
   refine cnt (ntt (bf hc)) ?_;refine .region<|kA zj<|kK (vfa E3)<|kK (Al EG) ?_
   obtain ⟨x6,g6,h⟩:=bnd h
   refine vk (Ag (Lg g6) Tryz.call203) ?_
   obtain ⟨x7,g7,h⟩:=bnd h
   refine vk (vsa g7) ?_
   obtain ⟨x8,g8,h⟩:=bnd h
   refine kK (vsa g8)<|kR [2,3] zj<|.sr<|kA zj<|kR [2] zj<|.ret ?_
   cases h
   exact ⟨rfl,rfl⟩
  refine cnf (bf hc) ?_;refine .sk ?_;refine .seq<|.seq<|.drawn 5 AS (by kernel_rfl) ?_;refine kV (vfa E3)<|kV (Al EG) ?_
  obtain ⟨x9,g9,h⟩:=bnd h
  refine dv ((Ag (FZ g9) Tryz.call116).deep) ?_
  obtain ⟨x10,g10,h⟩:=bnd h
  refine kV (Ag (Gl g10) Tryz.call121)<|kV vnt<|dz ?_;refine rk [1,2,3,18] ?_
  rcases brc h with ⟨hc,h⟩|⟨hc,h⟩
  ·refine cnf (ntf hc) ?_
   refine .sk ?_;refine .sr<|kA zj<|kR [2] zj<|.ret ?_
   cases h
   exact ⟨rfl,rfl⟩
  refine cnt (ntt (bf hc)) ?_;refine .region<|kA zj<|kK (vfa E3)<|kK (Al EG) ?_
  obtain ⟨x11,g11,h⟩:=bnd h
  refine vk (Ag (Lg g11) Tryz.call203) ?_
  obtain ⟨x12,g12,h⟩:=bnd h
  refine vk (vsa g12) ?_
  obtain ⟨x13,g13,h⟩:=bnd h
  refine kK (vsa g13)<|kR [2,3] zj<|.sr<|kA zj<|kR [2] zj<|.ret ?_
  cases h
  exact ⟨rfl,rfl⟩
 refine cnt (ntt (bf hc)) ?_;refine .sr<|kR [1,2] zj<|.ret ?_
 cases h
 exact ⟨rfl,rfl⟩
theorem EH {z:Int} (h1:-9223372036854775808≤z) (h2:z≤9223372036854775807) : w64 z=z:=GO h1 h2
theorem IE {r:RT} (h:Je r=true) : Fl r=some (BM r):=if_pos h
theorem N2 : Ir=some [1]:=if_pos trivial
theorem PH {z:Int} (h1:-9223372036854775808≤z) (h2:z≤9223372036854775807) : DG z=some (ofQ z):=by
 have:DG z=some (decide (z<0),Af z.natAbs,[1]):=if_pos ⟨h1,h2⟩
 rw [this]
 show _=some (decide (z<0),Af z.natAbs,Af 1)
 rw [Kv]
theorem Vb {z:Int} (h1:-9223372036854775808≤z) (h2:z≤9223372036854775808) : KS (z:Rat):=by
 constructor
 ·show (Af z.natAbs).length≤32
  exact nT (Cv (k:=3) (by omega)) (by decide)
 ·show (Af 1).length≤32
  rw [Kv];decide
mutual
def okI : Itm→Prop
 | .mk k n c b=>(0≤k∧k<256)∧Je n=true∧(-2147483648≤c∧c<2147483648)∧b.length≤2932031007402∧okAs b
def okAr : Arr→Prop
 | .mk s i=>(∀ z∈s,-9223372036854775808≤z∧z≤9223372036854775807)∧s.length≤17592186044416∧i.length≤1466015503701∧okIs i
def okIs : List Itm→Prop
 | []=>True
 | x::xs=>okI x∧okIs xs
def okAs : List Arr→Prop
 | []=>True
 | x::xs=>okAr x∧okAs xs
end
theorem Qc : ∀ {xs:List Itm},okIs xs↔∀ x∈xs,okI x
 | []=>by simp [okIs]
 | x::xs=>by simp [okIs,Qc (xs:=xs)]
theorem Qn : ∀ {xs:List Arr},okAs xs↔∀ x∈xs,okAr x
 | []=>by simp [okAs]
 | x::xs=>by simp [okAs,Qn (xs:=xs)]
theorem Eb (x:Itm) : okI x↔(0≤x.kind∧x.kind<256)∧Je x.num=true∧(-2147483648≤x.char∧x.char<2147483648)∧x.box.length≤2932031007402∧∀ a∈x.box,okAr a:=by
 cases x;simp only [okI,Qn,Itm.kind,Itm.num,Itm.char,Itm.box]
theorem Ce (a:Arr) : okAr a↔(∀ z∈a.shape,-9223372036854775808≤z∧z≤9223372036854775807)∧a.shape.length≤17592186044416∧a.items.length≤1466015503701∧∀ x∈a.items,okI x:=by
 cases a;simp only [okAr,Qc,Arr.shape,Arr.items]
theorem Om : ∀ {xs:List Itm} {x:Itm},x∈xs→x.size≤itsSize xs
 | y::xs,x,h=>by
  rw [itsSize]
  rcases List.mem_cons.1 h with rfl|h
  ·omega
  ·have:=Om h;omega
theorem QP : ∀ {xs:List Arr} {x:Arr},x∈xs→x.size≤arsSize xs
 | y::xs,x,h=>by
  rw [arsSize]
  rcases List.mem_cons.1 h with rfl|h
  ·omega
  ·have:=QP h;omega
theorem FI {a:Arr} {x:Itm} (h:x∈a.items) : x.size<a.size:=by
 cases a;have:=Om (xs:=_) h;simp only [Arr.size,Arr.items] at *;omega
theorem EO {x:Itm} {a:Arr} (h:a∈x.box) : a.size<x.size:=by
 cases x;have:=QP (xs:=_) h;simp only [Itm.size,Itm.box] at *;omega
theorem CE {n:Nat} (h:n≤140737488355328) : n<AH:=by unfold AH;omega
theorem Cz {i:Nat} (h:i≤9223372036854775806) : w64 ((i:Int)+1)=((i+1:Nat) : Int):=by rw [EH (by omega) (by omega)];omega
theorem Aa6 {α:Type} {xs:List α} {i:Nat} {x:α} (h:xs[i]?=some x) : rd? xs (i:Int)=some x:=by
 rw [rd?,if_pos (by omega)];simpa using h
theorem Ci {α:Type} {xs:List α} {i:Nat} (h:i<xs.length) : rd? xs (i:Int)=some xs[i]:=Aa6 (lG h)
theorem Lv {α:Type} {m:Nat} {xs ys:List α} (h:xs.length+ys.length≤m) : ap? m xs ys=some (xs++ys):=if_pos h
theorem LQ {α:Type} {x:α} {xs:List α} : rd? (x::xs) 0=some x:=rfl
theorem Lr {xs:List Int} {f:B6} {p:Int→Bool} (hf:∀ x∈xs,f.g x=some (p x)) (K:Int→Option Int) (hl:xs.length≤17592186044416) : ∀ (n i k:Nat) (s:Int),n=xs.length-i→i≤xs.length→n<k →
  AN xs f K k s (i:Int)=match (xs.drop i).findIdx? p with|some j=>some (((i+j:Nat)):Int)|none=>K s
 | n,i,0,s,_,_,h=>by omega
 | n,i,k+1,s,hn,hi,hk=>by
  rw [AN]
  by_cases hlt:i<xs.length
  ·rw [if_pos (by omega),Ci hlt,oB,hf _ (List.getElem_mem _),oB,lC hlt,List.findIdx?_cons]
   by_cases hp:p xs[i]=true
   ·rw [if_pos hp,if_pos hp];rfl
   ·rw [if_neg hp,if_neg hp,Cz (by omega),Lr hf K hl (n-1) (i+1) k s (by omega) (by omega) (by omega)]
    cases (xs.drop (i+1)).findIdx? p with
    | none=>rfl
    | some j=>simp only [Option.map_some];congr 1;omega
  ·rw [if_neg (by omega),List.drop_of_length_le (by omega)];rfl
theorem HX {xs:List Int} {f:B6} {p:Int→Bool} (hf:∀ x∈xs,f.g x=some (p x)) (hl:xs.length≤17592186044416) : A3 xs f=some (xs.any p):=by
 unfold A3 B8
 simp only [jn]
 have:=Lr hf (fun _=>some (-1)) hl xs.length 0 AH 0 rfl (Nat.zero_le _) (CE (by omega))
 rw [List.drop_zero] at this
 rw [show ((0:Nat):Int)=0 from rfl] at this
 rw [this]
 cases h:xs.findIdx? p with
 | none =>
  rw [oB]
  rw [List.findIdx?_eq_none_iff] at h
  rw [show (xs.any p)=false by rw [List.any_eq_false];intro x hx;simp [h x hx]]
  rfl
 | some j =>
  rw [oB]
  rw [List.findIdx?_eq_some_iff_getElem] at h
  obtain ⟨hj,h1,_⟩:=h
  rw [show (xs.any p)=true by rw [List.any_eq_true];exact ⟨_,List.getElem_mem hj,h1⟩]
  simp
theorem Ky {xs:List Int} {v:Int} (K:Int→Option Int) (hl:xs.length≤17592186044416) : ∀ (n i k:Nat) (s:Int),n=xs.length-i→i≤xs.length→n<k →
  A9 xs v K k s (i:Int)=match (xs.drop i).findIdx? (fun x=>decide (v=x)) with|some j=>some (((i+j:Nat)):Int)|none=>K s
 | n,i,0,s,_,_,h=>by omega
 | n,i,k+1,s,hn,hi,hk=>by
  rw [A9]
  by_cases hlt:i<xs.length
  ·rw [if_pos (by omega),Ci hlt,oB,lC hlt,List.findIdx?_cons]
   by_cases hp:v=xs[i]
   ·rw [if_pos hp,if_pos (dT hp)];rfl
   ·rw [if_neg hp,if_neg (by simp [hp]),Cz (by omega),Ky K hl (n-1) (i+1) k s (by omega) (by omega) (by omega)]
    cases (xs.drop (i+1)).findIdx? (fun x=>decide (v=x)) with
    | none=>rfl
    | some j=>simp only [Option.map_some];congr 1;omega
  ·rw [if_neg (by omega),List.drop_of_length_le (by omega)];rfl
theorem QH {xs:List Int} {v:Int} (hl:xs.length≤17592186044416) : BF xs v=some (decide (v∈xs)):=by
 unfold BF CD
 simp only [jn]
 have:=Ky (v:=v) (fun _=>some (-1)) hl xs.length 0 AH 0 rfl (Nat.zero_le _) (CE (by omega))
 rw [List.drop_zero] at this
 rw [show ((0:Nat):Int)=0 from rfl] at this
 rw [this]
 cases h:xs.findIdx? (fun x=>decide (v=x)) with
 | none =>
  rw [oB]
  rw [List.findIdx?_eq_none_iff] at h
  rw [show decide (v∈xs)=false by rw [decide_eq_false_iff_not];intro hx;have:=h v hx;simp at this]
  rfl
 | some j =>
  rw [oB]
  rw [List.findIdx?_eq_some_iff_getElem] at h
  obtain ⟨hj,h1,_⟩:=h
  rw [show decide (v∈xs)=true by rw [decide_eq_true_eq];rw [decide_eq_true_eq] at h1;rw [h1];exact List.getElem_mem hj]
  simp
def GJ (s:List Int) : Int:=s.foldl (· * ·) 1
def szP (s:List Int) : Int×Int :=
 if 8<s.length then (0,4) else if s.any (fun n=>decide (n<0)) then (0,3) else if s.any (fun n=>decide (4096<n)) then (0,8) else if 0∈s then (0,0) else if GJ s≤4096 then (GJ s,0) else (0,8)
theorem OD (s:List Int) : ∀ n : Int,s.foldl (· * ·) n=n * s.foldl (· * ·) 1:=by
 induction s with
 | nil=>intro n;simp
 | cons x xs ih=>intro n;rw [List.foldl_cons,List.foldl_cons,ih (n * x),ih (1 * x),Int.one_mul,Int.mul_assoc]
theorem Ov {s:List Int} (h:∀ x∈s,1≤x) : 1≤GJ s:=by
 induction s with
 | nil=>exact Int.le_refl _
 | cons x xs ih =>
  have h1:=h x (by simp)
  have h2:=ih fun y hy=>h y (by simp [hy])
  unfold GJ at *
  rw [List.foldl_cons,OD,Int.one_mul]
  exact Int.le_trans (by omega:(1:Int)≤1 * 1) (Int.mul_le_mul h1 h2 (by omega) (by omega))
theorem Oh {s:List Int} (hl:s.length≤8) (hp:∀ x∈s,1≤x∧x≤4096) (K:Int→Int→Int→Option (Int×Int)) : ∀ (n i k:Nat) (a b m:Int),n=s.length-i→i≤s.length→n<k→1≤m→m≤4096 →
  CO s K k a b m (i:Int)=if m * GJ (s.drop i)≤4096 then K a b (m * GJ (s.drop i)) else some (0,8)
 | n,i,0,a,b,m,_,_,h,_,_=>by omega
 | n,i,k+1,a,b,m,hn,hi,hk,h1,h2=>by
  rw [CO]
  by_cases hlt:i<s.length
  ·rw [if_pos (by omega),Ci hlt,oB,Gk,if_pos (by omega),oB,lC hlt]
   have hx:=hp s[i] (List.getElem_mem _)
   have hq0:0≤Int.tdiv 4096 m:=Int.tdiv_nonneg (by omega) (by omega)
   have hq1:Int.tdiv 4096 m≤4096:=by rw [Int.tdiv_eq_ediv_of_nonneg (by omega)];exact Int.ediv_le_self _ (by omega)
   rw [EH (by omega) (by omega)]
   have hpos:1≤GJ (s.drop (i+1)):=Ov fun x hx=>(hp x (List.mem_of_mem_drop hx)).1
   have hprod:GJ (s[i]::s.drop (i+1))=s[i] * GJ (s.drop (i+1)):=by unfold GJ;rw [List.foldl_cons,OD,Int.one_mul]
   have hdiv:Int.tdiv 4096 m<s[i]↔4096<m * s[i]:=by
    rw [Int.tdiv_eq_ediv_of_nonneg (by omega),Int.ediv_lt_iff_lt_mul (by omega),Int.mul_comm]
   rw [hprod,← Int.mul_assoc]
   by_cases hc:4096<m * s[i]
   ·rw [if_pos (hdiv.2 hc),if_neg]
    have:m * s[i] * 1≤m * s[i] * GJ (s.drop (i+1)):=Int.mul_le_mul_of_nonneg_left hpos (by omega)
    omega
   ·have hm1:1≤m * s[i]:=Int.le_trans (by omega:(1:Int)≤1 * 1) (Int.mul_le_mul h1 hx.1 (by omega) (by omega))
    rw [if_neg (fun h=>hc (hdiv.1 h)),Cz (by omega),EH (by omega) (by omega)]
    exact Oh hl hp K (n-1) (i+1) k a b (m * s[i]) (by omega) (by omega) (by omega) hm1 (by omega)
  ·rw [if_neg (by omega),List.drop_of_length_le (by omega)]
   rw [show GJ []=1 from rfl,Int.mul_one,if_pos h2]
theorem Ma {s:List Int} (hl:s.length≤17592186044416) : Df s=some (szP s):=by
 unfold Df szP
 by_cases h8:8<s.length
 ·rw [if_pos (by omega),if_pos h8]
 rw [if_neg (by omega),if_neg h8]
 rw [HX (p:=fun n=>decide (n<0)) (fun x _=>rfl) hl,oB]
 by_cases h0:s.any (fun n=>decide (n<0))=true
 ·rw [if_pos h0,if_pos h0]
 rw [if_neg h0,if_neg h0]
 rw [HX (p:=fun n=>decide (4096<n)) (fun x _=>rfl) hl,oB]
 by_cases h1:s.any (fun n=>decide (4096<n))=true
 ·rw [if_pos h1,if_pos h1]
 rw [if_neg h1,if_neg h1,QH hl,oB]
 by_cases h2:0∈s
 ·rw [if_pos (dT h2),if_pos h2]
 rw [if_neg (by simp [h2]),if_neg h2]
 have hp:∀ x∈s,1≤x∧x≤4096:=fun x hx=>by
  simp only [List.any_eq_true,decide_eq_true_eq,not_exists,not_and] at h0 h1
  have a:=h0 x hx
  have b:=h1 x hx
  have c:x≠0:=fun e=>h2 (e▸hx)
  omega
 have:=Oh (by omega) hp (fun z4 z5 z6=>some (z6,0)) s.length 0 AH 0 0 1 rfl (Nat.zero_le _) (CE (by omega)) (by omega) (by omega)
 rw [List.drop_zero,Int.one_mul,show ((0:Nat):Int)=0 from rfl] at this
 simp only [jn]
 rw [this]
 split<;>rfl
theorem Pv (s:List Int) : 0≤(szP s).1∧(szP s).1≤4096:=by
 unfold szP
 split
 ·exact ⟨by decide,by decide⟩
 split
 ·exact ⟨by decide,by decide⟩
 split
 ·exact ⟨by decide,by decide⟩
 split
 ·exact ⟨by decide,by decide⟩
 split
 ·rename_i h8 h0 h1 h2 h3
  refine ⟨?_,h3⟩
  have:1≤GJ s:=Ov fun x hx=>by
   simp only [List.any_eq_true,decide_eq_true_eq,not_exists,not_and] at h0 h1
   have a:=h0 x hx
   have c:x≠0:=fun e=>h2 (e▸hx)
   omega
  omega
 ·exact ⟨by decide,by decide⟩
def Bj (rc_ref03_Same:Arr→Arr→Option (Bool)) (a0:Itm) (a1:Itm) (K0:Bool→Option (Bool)) : Nat→Bool→Int→Option (Bool)
 | 0,_,_=>none
 | k+1,s4,s5=>(if s5<((List.length a0.box:Nat):Int) then ((rd? a0.box s5).bind fun x6=>((rd? a1.box s5).bind fun x7=>((rc_ref03_Same x6 x7).bind fun x8=>(if x8=true then (Bj rc_ref03_Same a0 a1 K0 k s4 (w64 (s5+1))) else (some (false)))))) else (K0 s4))
def BT (rc_ref03_Same:Arr→Arr→Option (Bool)) (a0:Itm) (a1:Itm) : Option (Bool):=(Option.bind ((if a0.kind=a1.kind then (if a0.char=a1.char then ((J9 a0.num a1.num).bind fun x2=>(if x2=true then (some (!(decide (((List.length a0.box:Nat) : Int)=((List.length a1.box:Nat) : Int))))) else (some true))) else (some true)) else (some true)) : Option (Bool)) fun (z1:Bool)=>(if z1=true then (some (false)) else (jn (fun (z3:Bool)=>(some (true))) fun K0=>(Bj rc_ref03_Same a0 a1 K0 AH false 0))))
theorem JU {rc_ref03_Same:Arr→Arr→Option (Bool)} (orc_ref03_Same:∀ x0 x1 r,rc_ref03_Same x0 x1=some r→Fn Tryz.prog 10 [.ag [.sl (Is x0.shape),.sl (Its x0.items)],.ag [.sl (Is x1.shape),.sl (Its x1.items)]] (.d (.b r))) {a0:Itm} {a1:Itm} {r:Bool} (h:BT rc_ref03_Same a0 a1=some r) :
  Fn Tryz.prog 16 [.ag [.i .u8 a0.kind,.b a0.num.1,.sl (L a0.num.2.1),.sl (L a0.num.2.2),.i .i32 a0.char,.sl (Ars a0.box)],.ag [.i .u8 a1.kind,.b a1.num.1,.sl (L a1.num.2.1),.sl (L a1.num.2.2),.i .i32 a1.char,.sl (Ars a1.box)]] (.d (.b r)):=by
 unfold BT at h
 refine Fn.o1 4 54 Tryz.func16 ?_;refine .sr<|kK vbx<|kK vbx<|kR [2,3,4] zj<|.seq<|.seq ?_
 obtain ⟨z1,hz,h⟩:=bnd h
 refine AW.mr (σ:=Unit) (fun _=>True) (fun _=>[(2,.d (.ptr [.i .u8 a0.kind,.b a0.num.1,.sl (L a0.num.2.1),.sl (L a0.num.2.2),.i .i32 a0.char,.sl (Ars a0.box)])),(3,.d (.ptr [.i .u8 a1.kind,.b a1.num.1,.sl (L a1.num.2.1),.sl (L a1.num.2.2),.i .i32 a1.char,.sl (Ars a1.box)])),(4,.d (.b false)),(34,.d (.b z1))]) (fun _=>[]) ?_ ?_
 ·skip
  refine .region<|kK (vfa BS)<|kK (Al AY)<|kK (vfa BS)<|kK (Al AY)<|kB zj ?_
  rcases brc hz with ⟨hc,hz⟩|⟨hc,hz⟩
  ·have hb0:(!(decide (a0.kind=a1.kind)))=false:=(ntf (dT hc))
   refine kC zj hb0<|kK (vfa CU)<|kK (Al CT)<|kK (vfa CU)<|kK (Al CT)<|kB zj<|kK Ao ?_
   rcases brc hz with ⟨hc,hz⟩|⟨hc,hz⟩
   ·have hb1:(!(decide (a0.char=a1.char)))=false:=(ntf (dT hc))
    refine kC zj hb1<|kK (vfa BJ)<|kK (Ap AU AD)<|kK (vfa BJ)<|kK (Ap AU AD) ?_
    obtain ⟨x2,g2,hz⟩:=bnd hz
    refine kK (Ag (LC g2) Tryz.call12)<|kK vnt<|kK Ao ?_
    rcases brc hz with ⟨hc,hz⟩|⟨hc,hz⟩
    ·have hb2:(!x2)=false:=(ntf hc)
     refine kC zj hb2<|kK (vfa A5)<|kK (Al B2)<|kK (AX (Bu _) (Ek _) Ei)<|kK (vfa A5)<|kK (Al B2)<|kK (AX (Bu _) (Ek _) Ei)<|kB zj<|kK Ao<|RL.gk [2,3,4,34]<|.nil ?_
     cases hz
     exact jr () trivial
    have hb2:(!x2)=true:=(ntt (bf hc))
    refine kC zj hb2<|gf4 ?_;refine gf3 ?_;refine kK Ao<|RL.gk [2,3,4,34]<|.nil ?_
    cases hz
    exact jr () trivial
   have hb1:(!(decide (a0.char=a1.char)))=true:=(ntt (dF hc))
   refine kC zj hb1<|gf4 ?_;refine gf2 ?_;refine kK Ao<|kA zj<|gf4 ?_;refine gf3 ?_;refine kK Ao<|RL.gk [2,3,4,34]<|.nil ?_
   cases hz
   exact jr () trivial
  have hb0:(!(decide (a0.kind=a1.kind)))=true:=(ntt (dF hc))
  refine kC zj hb0<|gf4 ?_;refine kG<|kK Ao<|kA zj<|gf4 ?_;refine gf2 ?_;refine kK Ao<|kA zj<|gf4 ?_;refine gf3 ?_;refine kK Ao<|RL.gk [2,3,4,34]<|.nil ?_
  cases hz
  exact jr () trivial
 rintro _ _
 rcases brc h with ⟨hc,h⟩|⟨hc,h⟩
 ·refine cnt hc ?_
  refine .sr<|kR [2,3,4] zj<|.ret ?_
  cases h
  exact ⟨rfl,rfl⟩
 refine cnf (bf hc) ?_;refine .sk ?_;refine .seq<|.sr<|kR [2,3,4,5] zj ?_
 obtain ⟨K0,hK0,h⟩:=A1 h
 refine AW.mr (σ:=Bool) (fun p=>K0 p=some r) (fun p=>[(4,.d (.b p))]) (fun p=>[]) ?_ ?_
 ·skip
  refine .block ?_
  refine .loop (.gk [2,3,4,5] ?_)
  refine AL.ind (σ:=Nat×Bool×Int) (m:=fun p=>p.1) (e:=fun p=>[(2,.d (.ptr [.i .u8 a0.kind,.b a0.num.1,.sl (L a0.num.2.1),.sl (L a0.num.2.2),.i .i32 a0.char,.sl (Ars a0.box)])),(3,.d (.ptr [.i .u8 a1.kind,.b a1.num.1,.sl (L a1.num.2.1),.sl (L a1.num.2.2),.i .i32 a1.char,.sl (Ars a1.box)])),(4,.d (.b p.2.1)),(5,.d (.i .i64 p.2.2))]) (h:=fun p=>[]) (I:=fun p=>Bj rc_ref03_Same a0 a1 K0 p.1 p.2.1 p.2.2=some r) ?_ (AH,false,0) h
  rintro ⟨k,s4,s5⟩ h ih
  dsimp only at h ih ⊢
  rcases k with _|k
  ·rw [Bj] at h;cases h
  rw [Bj] at h
  refine .seq<|.sr<|kA zj<|kK (vfa A5)<|kK (Al B2)<|kK (AX (Bu _) (Ek _) Ei)<|kB zj<|rk [2,3,4,5,39] ?_
  rcases brc h with ⟨hc,h⟩|⟨hc,h⟩
  ·refine cnt (dT hc) ?_
   refine .sk ?_;refine .seq<|.block<|.seq<|.drawn 12 AS (by kernel_rfl) ?_;refine kV (vfa A5)<|kV (Al B2)<|kV Ac ?_
   obtain ⟨x6,g6,h⟩:=bnd h
   obtain ⟨n6,p06,q6⟩:=Aq g6
   refine kV (vix n6 p06 (Dr q6) rfl Du)<|kV (Ap Ah Ad)<|kV (vfa A5)<|kV (Al B2)<|kV Ac ?_
   obtain ⟨x7,g7,h⟩:=bnd h
   obtain ⟨n7,p07,q7⟩:=Aq g7
   refine kV (vix n7 p07 (Dr q7) rfl Du)<|kV (Ap Ah Ad) ?_
   obtain ⟨x8,g8,h⟩:=bnd h
   refine kV (Ag (orc_ref03_Same _ _ _ g8) Tryz.call10)<|kV vnt<|dz ?_;refine rk [2,3,4,5,53] ?_
   rcases brc h with ⟨hc,h⟩|⟨hc,h⟩
   ·refine cnf (ntf hc) ?_
    refine .sk ?_;refine .region<|kA zj<|kB zj<|kD zj<|.nil ?_;refine AL.gk [2,3,4,5] ?_
    exact ih (k,s4,(w64 (s5+1))) h (Nat.lt_succ_self _)
   refine cnt (ntt (bf hc)) ?_;refine .sr<|kR [2,3,4,5] zj<|.ret ?_
   cases h
   exact ⟨rfl,rfl⟩
  refine cnf (dF hc) ?_;refine .gk [4]<|.exit ?_
  exact jr (s4) h
 rintro z3 h
 try dsimp only at h ⊢
 subst hK0
 refine aw<|.sr<|kR [4] zj<|.ret ?_
 cases h
 exact ⟨rfl,rfl⟩
def CN (a0:Arr) (a1:Arr) (K0:Bool→Option (Bool)) : Nat→Bool→Int→Option (Bool)
 | 0,_,_=>none
 | k+1,s2,s3=>(if s3<((List.length a0.shape:Nat):Int) then ((rd? a0.shape s3).bind fun x4=>((rd? a1.shape s3).bind fun x5=>(if x4=x5 then (CN a0 a1 K0 k s2 (w64 (s3+1))) else (some (false))))) else (K0 s2))
def Cr (rc_ref03_Same:Arr→Arr→Option (Bool)) (a0:Arr) (a1:Arr) (K2:Bool→Option (Bool)) : Nat→Bool→Int→Option (Bool)
 | 0,_,_=>none
 | k+1,s7,s8=>(if s8<((List.length a0.items:Nat):Int) then ((rd? a0.items s8).bind fun x9=>((rd? a1.items s8).bind fun x10=>((BT rc_ref03_Same x9 x10).bind fun x11=>(if x11=true then (Cr rc_ref03_Same a0 a1 K2 k s7 (w64 (s8+1))) else (some (false)))))) else (K2 s7))
def EV (rc_ref03_Same:Arr→Arr→Option (Bool)) (a0:Arr) (a1:Arr) : Option (Bool):=(if ((!(decide (((List.length a0.shape:Nat) : Int)=((List.length a1.shape:Nat) : Int))))||(!(decide (((List.length a0.items:Nat) : Int)=((List.length a1.items:Nat) : Int)))))=true then (some (false)) else (jn (fun (z1:Bool)=>(jn (fun (z6:Bool)=>(some (true))) fun K2=>(Cr rc_ref03_Same a0 a1 K2 AH z1 0))) fun K0=>(CN a0 a1 K0 AH false 0)))
theorem NH {rc_ref03_Same:Arr→Arr→Option (Bool)} (orc_ref03_Same:∀ x0 x1 r,rc_ref03_Same x0 x1=some r→Fn Tryz.prog 10 [.ag [.sl (Is x0.shape),.sl (Its x0.items)],.ag [.sl (Is x1.shape),.sl (Its x1.items)]] (.d (.b r))) {a0:Arr} {a1:Arr} {r:Bool} (h:EV rc_ref03_Same a0 a1=some r) :
  Fn Tryz.prog 10 [.ag [.sl (Is a0.shape),.sl (Its a0.items)],.ag [.sl (Is a1.shape),.sl (Its a1.items)]] (.d (.b r)):=by
 unfold EV at h
 refine Fn.o1 4 60 Tryz.func10 ?_;refine .sr<|kK vbx<|kK vbx<|kR [2,3,4] zj<|.seq<|.seq<|AW.mr (σ:=Unit) (fun _=>True) (fun _=>[(2,.d (.ptr [.sl (Is a0.shape),.sl (Its a0.items)])),(3,.d (.ptr [.sl (Is a1.shape),.sl (Its a1.items)])),(4,.d (.b false)),(22,.d (.b ((!(decide (((List.length a0.shape:Nat):Int)=((List.length a1.shape:Nat):Int))))||(!(decide (((List.length a0.items:Nat):Int)=((List.length a1.items:Nat):Int)))))))]) (fun _=>[]) ?_ ?_
 ·skip
  refine .region<|kK (vfa A6)<|kK (Al Cy)<|kK (AX (Az _) (C7 _) CQ)<|kK (vfa A6)<|kK (Al Cy)<|kK (AX (Az _) (C7 _) CQ)<|kB zj ?_
  by_cases hc:((List.length a0.shape:Nat):Int)=((List.length a1.shape:Nat):Int)
  ·have hb0:(!(decide (((List.length a0.shape:Nat):Int)=((List.length a1.shape:Nat):Int))))=false:=(ntf (dT hc))
   refine kC zj hb0<|kK (vfa AM)<|kK (Al Bl)<|kK (AX (Ai _) (Bg _) Ba)<|kK (vfa AM)<|kK (Al Bl)<|kK (AX (Ai _) (Bg _) Ba)<|kB zj<|kK Ao<|RL.gk [2,3,4,22]<|.nil ?_
   exact jr () trivial (by simp only [hb0];rfl)
  have hb0:(!(decide (((List.length a0.shape:Nat):Int)=((List.length a1.shape:Nat):Int))))=true:=(ntt (dF hc))
  refine kC zj hb0<|gf4 ?_;refine gf3 ?_;refine kK Ao<|RL.gk [2,3,4,22]<|.nil ?_
  exact jr () trivial (by simp only [hb0];rfl)
 rintro _ _
 rcases brc h with ⟨hc,h⟩|⟨hc,h⟩
 ·refine cnt hc ?_
  refine .sr<|kR [2,3,4] zj<|.ret ?_
  cases h
  exact ⟨rfl,rfl⟩
 refine cnf (bf hc) ?_;refine .sk ?_;refine .seq<|.sr<|kR [2,3,4,5] zj ?_
 obtain ⟨K0,hK0,h⟩:=A1 h
 refine AW.mr (σ:=Bool) (fun p=>K0 p=some r) (fun p=>[(2,.d (.ptr [.sl (Is a0.shape),.sl (Its a0.items)])),(3,.d (.ptr [.sl (Is a1.shape),.sl (Its a1.items)])),(4,.d (.b p))]) (fun p=>[]) ?_ ?_
 ·skip
  refine .block ?_
  refine .loop (.gk [2,3,4,5] ?_)
  refine AL.ind (σ:=Nat×Bool×Int) (m:=fun p=>p.1) (e:=fun p=>[(2,.d (.ptr [.sl (Is a0.shape),.sl (Its a0.items)])),(3,.d (.ptr [.sl (Is a1.shape),.sl (Its a1.items)])),(4,.d (.b p.2.1)),(5,.d (.i .i64 p.2.2))]) (h:=fun p=>[]) (I:=fun p=>CN a0 a1 K0 p.1 p.2.1 p.2.2=some r) ?_ (AH,false,0) h
  rintro ⟨k,s2,s3⟩ h ih
  dsimp only at h ih ⊢
  rcases k with _|k
  ·rw [CN] at h;cases h
  rw [CN] at h
  refine .seq<|.sr<|kA zj<|kK (vfa A6)<|kK (Al Cy)<|kK (AX (Az _) (C7 _) CQ)<|kB zj<|rk [2,3,4,5,27] ?_
  rcases brc h with ⟨hc,h⟩|⟨hc,h⟩
  ·refine cnt (dT hc) ?_
   refine .sk ?_;refine .seq<|.block<|.seq<|.drawn 11 AS (by kernel_rfl) ?_;refine kV (vfa A6)<|kV (Al Cy)<|kV Ac ?_
   obtain ⟨x4,g4,h⟩:=bnd h
   obtain ⟨n4,p04,q4⟩:=Aq g4
   refine kV (vix n4 p04 (Ep q4) rfl Dw)<|kV (Al Bh)<|kV (vfa A6)<|kV (Al Cy)<|kV Ac ?_
   obtain ⟨x5,g5,h⟩:=bnd h
   obtain ⟨n5,p05,q5⟩:=Aq g5
   refine kV (vix n5 p05 (Ep q5) rfl Dw)<|kV (Al Bh)<|kV vbi<|dz ?_;refine rk [2,3,4,5,40] ?_
   rcases brc h with ⟨hc,h⟩|⟨hc,h⟩
   ·refine cnf (ntf (dT hc)) ?_
    refine .sk ?_;refine .region<|kA zj<|kB zj<|kD zj<|.nil ?_;refine AL.gk [2,3,4,5] ?_
    exact ih (k,s2,(w64 (s3+1))) h (Nat.lt_succ_self _)
   refine cnt (ntt (dF hc)) ?_;refine .sr<|kR [2,3,4,5] zj<|.ret ?_
   cases h
   exact ⟨rfl,rfl⟩
  refine cnf (dF hc) ?_;refine .gk [2,3,4]<|.exit ?_
  exact jr (s2) h
 rintro z1 h
 try dsimp only at h ⊢
 subst hK0
 refine aw<|.seq<|.sr<|kR [2,3,4,6] zj ?_
 obtain ⟨K2,hK2,h⟩:=A1 h
 refine AW.mr (σ:=Bool) (fun p=>K2 p=some r) (fun p=>[(4,.d (.b p))]) (fun p=>[]) ?_ ?_
 ·skip
  refine .block ?_
  refine .loop (.gk [2,3,4,6] ?_)
  refine AL.ind (σ:=Nat×Bool×Int) (m:=fun p=>p.1) (e:=fun p=>[(2,.d (.ptr [.sl (Is a0.shape),.sl (Its a0.items)])),(3,.d (.ptr [.sl (Is a1.shape),.sl (Its a1.items)])),(4,.d (.b p.2.1)),(6,.d (.i .i64 p.2.2))]) (h:=fun p=>[]) (I:=fun p=>Cr rc_ref03_Same a0 a1 K2 p.1 p.2.1 p.2.2=some r) ?_ (AH,z1,0) h
  rintro ⟨k,s7,s8⟩ h ih
  dsimp only at h ih ⊢
  rcases k with _|k
  ·rw [Cr] at h;cases h
  rw [Cr] at h
  refine .seq<|.sr<|kA zj<|kK (vfa AM)<|kK (Al Bl)<|kK (AX (Ai _) (Bg _) Ba)<|kB zj<|rk [2,3,4,6,45] ?_
  rcases brc h with ⟨hc,h⟩|⟨hc,h⟩
  ·refine cnt (dT hc) ?_
   refine .sk ?_;refine .seq<|.block<|.seq<|.drawn 12 AS (by kernel_rfl) ?_;refine kV (vfa AM)<|kV (Al Bl)<|kV Ac ?_
   obtain ⟨x9,g9,h⟩:=bnd h
   obtain ⟨n9,p09,q9⟩:=Aq g9
   refine kV (vix n9 p09 (BC q9) rfl Bs)<|kV (Ap AE Am)<|kV (vfa AM)<|kV (Al Bl)<|kV Ac ?_
   obtain ⟨x10,g10,h⟩:=bnd h
   obtain ⟨n10,p010,q10⟩:=Aq g10
   refine kV (vix n10 p010 (BC q10) rfl Bs)<|kV (Ap AE Am) ?_
   obtain ⟨x11,g11,h⟩:=bnd h
   refine kV (Ag (JU orc_ref03_Same g11) Tryz.call16)<|kV vnt<|dz ?_;refine rk [2,3,4,6,59] ?_
   rcases brc h with ⟨hc,h⟩|⟨hc,h⟩
   ·refine cnf (ntf hc) ?_
    refine .sk ?_;refine .region<|kA zj<|kB zj<|kD zj<|.nil ?_;refine AL.gk [2,3,4,6] ?_
    exact ih (k,s7,(w64 (s8+1))) h (Nat.lt_succ_self _)
   refine cnt (ntt (bf hc)) ?_;refine .sr<|kR [2,3,4,6] zj<|.ret ?_
   cases h
   exact ⟨rfl,rfl⟩
  refine cnf (dF hc) ?_;refine .gk [4]<|.exit ?_
  exact jr (s7) h
 rintro z6 h
 try dsimp only at h ⊢
 subst hK2
 refine aw<|.sr<|kR [4] zj<|.ret ?_
 cases h
 exact ⟨rfl,rfl⟩
def Er : Nat→Arr→Arr→Option (Bool)
 | 0,_,_=>none
 | k+1,a0,a1=>EV (Er k) a0 a1
theorem Ig : ∀ (k:Nat) (a0:Arr) (a1:Arr) (r:Bool),Er k a0 a1=some r→Fn Tryz.prog 10 [.ag [.sl (Is a0.shape),.sl (Its a0.items)],.ag [.sl (Is a1.shape),.sl (Its a1.items)]] (.d (.b r))
 | 0,_,_,_,h=>by cases h
 | k+1,a0,a1,_,h=>NH (Ig k) (show EV (Er k) a0 a1=some _ from h)
def Hd (a0:Arr) (a1:Arr) : Option (Bool):=Er (a0.size+1) a0 a1
theorem PC {a0:Arr} {a1:Arr} {r:Bool} (h:Hd a0 a1=some r) : Fn Tryz.prog 10 [.ag [.sl (Is a0.shape),.sl (Its a0.items)],.ag [.sl (Is a1.shape),.sl (Its a1.items)]] (.d (.b r)):=Ig _ a0 a1 r h
def Tells (x:Option Bool) (p:Prop) : Prop:=∃ r,x=some r∧(r=true↔p)
theorem Tells.of {x:Option Bool} {p q:Prop} (h:Tells x p) (e:p↔q) : Tells x q:=by
 obtain ⟨r,h1,h2⟩:=h;exact ⟨r,h1,h2.trans e⟩
theorem Tells.yes {x:Option Bool} {p:Prop} (h:Tells x p) (hp:p) : x=some true:=by
 obtain ⟨r,h1,h2⟩:=h;rw [h1,h2.2 hp]
theorem DA {α β:Type} (k:α) (b:α→β) : jn k b=b k:=rfl
theorem OC {s:List Int} (h:s.length≤17592186044416) : E0 s=some s:=by unfold E0;rw [Lv (by simpa using h),List.nil_append]
theorem J5 {r:RT} (h:Je r=true) : CC r=some r:=by
 have h1:=JS.1 h
 unfold CC
 rw [FK,if_pos h1.2.2.1,oB,FK,if_pos h1.2.2.2,oB]
theorem Q4 {r:RT} (h:Je r=true) : Co r=some (.mk 1 r 0 []):=by
 unfold Co;rw [J5 h,oB]
theorem LA {a:Arr} {f:BV} {h:Itm→Itm} (hf:∀ x∈a.items,f.g x=some (h x)) (K:List Int→List Itm→Option Arr) (hl:a.items.length≤1466015503701) : ∀ (n i k:Nat) (s:List Int) (t:List Itm),n=a.items.length-i→i≤a.items.length→n<k→t.length=i →
  Bp a f K k (i:Int) s t=K s (t++(a.items.drop i).map h)
 | n,i,0,s,t,_,_,h,_=>by omega
 | n,i,k+1,s,t,hn,hi,hk,ht=>by
  rw [Bp]
  by_cases hlt:i<a.items.length
  ·rw [if_pos (by omega),Ci hlt,oB,hf _ (List.getElem_mem _),oB,Lv (by simp;omega),oB,Cz (by omega),
    LA hf K hl (n-1) (i+1) k s _ (by omega) (by omega) (by omega) (by simp [ht]),lC hlt,List.map_cons,List.append_assoc]
   rfl
  ·rw [if_neg (by omega),List.drop_of_length_le (by omega)];simp
theorem K7 {a:Arr} {f:BV} {h:Itm→Itm} (hf:∀ x∈a.items,f.g x=some (h x)) (hs:a.shape.length≤17592186044416) (hl:a.items.length≤1466015503701) : BP a f=some (.mk a.shape (a.items.map h)):=by
 unfold BP
 rw [OC hs,oB]
 simp only [jn]
 have:=LA hf (fun z2 z3=>some (Arr.mk z2 z3)) hl a.items.length 0 AH a.shape [] rfl (Nat.zero_le _) (CE (by omega)) rfl
 rw [List.drop_zero,show ((0:Nat):Int)=0 from rfl,List.nil_append] at this
 exact this
theorem MC {rc:Itm→Option Itm} {x:Itm} (hb:∀ a∈x.box,okAr a) (hrc:∀ a∈x.box,∀ y∈a.items,rc y=some y) (K:Int→Bool→List Nat→List Nat→Int→List Arr→Option Itm) (hl:x.box.length≤2932031007402) : ∀ (n i k:Nat) (s1:Int) (s2:Bool) (s3 s4:List Nat) (s5:Int) (t:List Arr),n=x.box.length-i→i≤x.box.length→n<k→t.length=i →
  DC rc x K k (i:Int) s1 s2 s3 s4 s5 t=K s1 s2 s3 s4 s5 (t++x.box.drop i)
 | n,i,0,s1,s2,s3,s4,s5,t,_,_,h,_=>by omega
 | n,i,k+1,s1,s2,s3,s4,s5,t,hn,hi,hk,ht=>by
  rw [DC]
  by_cases hlt:i<x.box.length
  ·have hm:=List.getElem_mem hlt
   have ho:=(Ce _).1 (hb _ hm)
   have hc:=K7 (a:=x.box[i]) (f:=⟨.fn 24 [] [],fun x=>rc x⟩) (h:=id) (fun y hy=>hrc _ hm y hy) ho.2.1 ho.2.2.1
   rw [List.map_id,Arr.eta] at hc
   rw [if_pos (by omega),Ci hlt,oB,hc,oB,Lv (by simp;omega),oB,Cz (by omega),
    MC hb hrc K hl (n-1) (i+1) k s1 s2 s3 s4 s5 _ (by omega) (by omega) (by omega) (by simp [ht]),lC hlt,List.append_assoc]
   rfl
  ·rw [if_neg (by omega),List.drop_of_length_le (by omega)];simp
theorem Oq : ∀ (k:Nat) {x:Itm},x.size<k→okI x→E6 k x=some x
 | 0,x,h,_=>by omega
 | k+1,x,h,ho=>by
  have h1:=(Eb x).1 ho
  rw [E6,IH,J5 h1.2.1,oB]
  simp only [jn]
  have:=MC (rc:=E6 k) (x:=x) h1.2.2.2.2 (fun a ha y hy=>Oq k (by have:=EO ha;have:=FI hy;omega) (((Ce a).1 (h1.2.2.2.2 a ha)).2.2.2 y hy))
   (fun z2 z3 z4 z5 z6 z7=>some (Itm.mk z2 (z3,z4,z5) z6 z7)) h1.2.2.2.1 x.box.length 0 AH x.kind x.num.1 x.num.2.1 x.num.2.2 x.char [] rfl (Nat.zero_le _) (CE (by omega)) rfl
  rw [List.drop_zero,show ((0:Nat):Int)=0 from rfl,List.nil_append] at this
  rw [this]
  exact congrArg some (Itm.eta x)
theorem KX {x:Itm} (h:okI x) : GH x=some x:=Oq _ (Nat.lt_succ_self _) h
theorem Lw {a:Arr} (h:okAr a) : BP a (⟨.fn 24 [] [],fun x=>GH x⟩ : BV)=some a:=by
 have ho:=(Ce a).1 h
 have:=K7 (a:=a) (f:=⟨.fn 24 [] [],fun x=>GH x⟩) (h:=id) (fun y hy=>KX (ho.2.2.2 y hy)) ho.2.1 ho.2.2.1
 rwa [List.map_id,Arr.eta] at this
mutual
def smI : Itm→Prop
 | .mk _ n _ b=>okL 1048576 n.2.1=true∧okL 1048576 n.2.2=true∧smAs b
def smA : Arr→Prop
 | .mk _ i=>smIs i
def smIs : List Itm→Prop
 | []=>True
 | x::xs=>smI x∧smIs xs
def smAs : List Arr→Prop
 | []=>True
 | x::xs=>smA x∧smAs xs
end
theorem Itm.ext_iff' (x y:Itm) : x=y↔x.kind=y.kind∧x.char=y.char∧x.num=y.num∧x.box=y.box:=by
 cases x;cases y;simp only [Itm.mk.injEq,Itm.kind,Itm.char,Itm.num,Itm.box]
 constructor
 ·rintro ⟨a,b,c,d⟩;exact ⟨a,c,b,d⟩
 ·rintro ⟨a,b,c,d⟩;exact ⟨a,c,b,d⟩
theorem Arr.ext_iff' (x y:Arr) : x=y↔x.shape=y.shape∧x.items=y.items:=by cases x;cases y;simp only [Arr.mk.injEq,Arr.shape,Arr.items]
theorem N0 {rc:Arr→Arr→Option Bool} {x y:Itm} (hrc:∀ a∈x.box,∀ b∈y.box,Tells (rc a b) (a=b)) (hab:x.box.length=y.box.length) (K:Bool→Option Bool) (hK:∀ s,K s=some true) (hl:x.box.length≤17592186044416) : ∀ (n i k:Nat) (s:Bool),n=x.box.length-i→i≤x.box.length→n<k →
  Tells (Bj rc x y K k s (i:Int)) (x.box.drop i=y.box.drop i)
 | n,i,0,s,_,_,h=>by omega
 | n,i,k+1,s,hn,hi,hk=>by
  rw [Bj]
  by_cases hlt:i<x.box.length
  ·have hlt2:i<y.box.length:=by omega
   rw [if_pos (by omega),Ci hlt,oB,Ci hlt2,oB,lC hlt,lC hlt2]
   obtain ⟨r,h1,h2⟩:=hrc _ (List.getElem_mem hlt) _ (List.getElem_mem hlt2)
   rw [h1,oB]
   by_cases hc:r=true
   ·rw [if_pos hc,Cz (by omega)]
    refine (N0 hrc hab K hK hl (n-1) (i+1) k s (by omega) (by omega) (by omega)).of ?_
    rw [List.cons.injEq];exact ⟨fun h=>⟨h2.1 hc,h⟩,fun h=>h.2⟩
   ·rw [if_neg hc]
    exact ⟨false,rfl,⟨nofun,fun h=>absurd (h2.2 (List.cons.inj h).1) hc⟩⟩
  ·rw [if_neg (by omega),List.drop_of_length_le (by omega),List.drop_of_length_le (by omega),hK];exact ⟨true,rfl,by simp⟩
theorem Kr {rc:Arr→Arr→Option Bool} {x y:Itm} (hx:okI x) (hrc:∀ a∈x.box,∀ b∈y.box,Tells (rc a b) (a=b)) : Tells (BT rc x y) (x=y):=by
 have ox:=(Eb x).1 hx
 have on:=JS.1 ox.2.1
 unfold BT
 rw [Itm.ext_iff']
 by_cases h1:x.kind=y.kind
 rotate_left
 ·rw [if_neg h1];exact ⟨false,rfl,by simp [h1]⟩
 rw [if_pos h1]
 by_cases h2:x.char=y.char
 rotate_left
 ·rw [if_neg h2];exact ⟨false,rfl,by simp [h2]⟩
 rw [if_pos h2,J9,if_pos (by simp [on.2.2.1,on.2.2.2]),oB]
 by_cases h3:x.num=y.num
 rotate_left
 ·rw [if_neg (by simpa using h3)];exact ⟨false,rfl,by simp [h3]⟩
 rw [if_pos (by simpa using h3),oB]
 by_cases h4:x.box.length=y.box.length
 rotate_left
 ·rw [if_pos (by simp;omega)];exact ⟨false,rfl,by simp;intro _ _ _ h;rw [h] at h4;exact h4 rfl⟩
 rw [if_neg (by simp;omega)]
 simp only [jn]
 have:=N0 hrc h4 (fun _=>some true) (fun _=>rfl) (nT ox.2.2.2.1 (by decide)) x.box.length 0 AH false rfl (Nat.zero_le _) (CE (by omega))
 rw [List.drop_zero,List.drop_zero,show ((0:Nat):Int)=0 from rfl] at this
 exact this.of (by simp [h1,h2,h3])
theorem Oz {a b:Arr} (hab:a.shape.length=b.shape.length) (K:Bool→Option Bool) {p:Prop} (hK:∀ s,Tells (K s) p) (hl:a.shape.length≤17592186044416) : ∀ (n i k:Nat) (s:Bool),n=a.shape.length-i→i≤a.shape.length→n<k →
  Tells (CN a b K k s (i:Int)) (a.shape.drop i=b.shape.drop i∧p)
 | n,i,0,s,_,_,h=>by omega
 | n,i,k+1,s,hn,hi,hk=>by
  rw [CN]
  by_cases hlt:i<a.shape.length
  ·have hlt2:i<b.shape.length:=by omega
   rw [if_pos (by omega),Ci hlt,oB,Ci hlt2,oB,lC hlt,lC hlt2]
   by_cases hc:a.shape[i]=b.shape[i]
   ·rw [if_pos hc,Cz (by omega)]
    exact (Oz hab K hK hl (n-1) (i+1) k s (by omega) (by omega) (by omega)).of (by rw [List.cons.injEq];exact ⟨fun h=>⟨⟨hc,h.1⟩,h.2⟩,fun h=>⟨h.1.2,h.2⟩⟩)
   ·rw [if_neg hc]
    exact ⟨false,rfl,⟨nofun,fun h=>absurd (List.cons.inj h.1).1 hc⟩⟩
  ·rw [if_neg (by omega),List.drop_of_length_le (by omega),List.drop_of_length_le (by omega)];exact (hK s).of (by simp)
theorem N1 {rc:Arr→Arr→Option Bool} {a b:Arr} (hrc:∀ x∈a.items,∀ y∈b.items,Tells (BT rc x y) (x=y)) (hab:a.items.length=b.items.length) (K:Bool→Option Bool) (hK:∀ s,K s=some true) (hl:a.items.length≤17592186044416) : ∀ (n i k:Nat) (s:Bool),n=a.items.length-i→i≤a.items.length→n<k →
  Tells (Cr rc a b K k s (i:Int)) (a.items.drop i=b.items.drop i)
 | n,i,0,s,_,_,h=>by omega
 | n,i,k+1,s,hn,hi,hk=>by
  rw [Cr]
  by_cases hlt:i<a.items.length
  ·have hlt2:i<b.items.length:=by omega
   rw [if_pos (by omega),Ci hlt,oB,Ci hlt2,oB,lC hlt,lC hlt2]
   obtain ⟨r,h1,h2⟩:=hrc _ (List.getElem_mem hlt) _ (List.getElem_mem hlt2)
   rw [h1,oB]
   by_cases hc:r=true
   ·rw [if_pos hc,Cz (by omega)]
    refine (N1 hrc hab K hK hl (n-1) (i+1) k s (by omega) (by omega) (by omega)).of ?_
    rw [List.cons.injEq];exact ⟨fun h=>⟨h2.1 hc,h⟩,fun h=>h.2⟩
   ·rw [if_neg hc]
    exact ⟨false,rfl,⟨nofun,fun h=>absurd (h2.2 (List.cons.inj h).1) hc⟩⟩
  ·rw [if_neg (by omega),List.drop_of_length_le (by omega),List.drop_of_length_le (by omega),hK];exact ⟨true,rfl,by simp⟩
theorem Vt {rc:Arr→Arr→Option Bool} {a b:Arr} (oa:a.shape.length≤17592186044416∧a.items.length≤1466015503701) (ih:∀ x∈a.items,∀ y∈b.items,Tells (BT rc x y) (x=y)) : Tells (EV rc a b) (a=b):=by
 rw [EV,Arr.ext_iff']
 by_cases h1:a.shape.length=b.shape.length∧a.items.length=b.items.length
 rotate_left
 ·rw [if_pos (by simp;omega)];exact ⟨false,rfl,by simp;intro e1 e2;exact h1 ⟨by rw [e1],by rw [e2]⟩⟩
 rw [if_neg (by simp;omega)]
 rw [DA]
 have h2:=Oz h1.1 (p:=a.items=b.items) (fun z1=>jn (fun (z6:Bool)=>(some (true))) fun K2=>(Cr rc a b K2 AH z1 0)) (fun s=>by
  rw [DA]
  have h3:=N1 ih h1.2 (fun _=>some true) (fun _=>rfl) (nT oa.2 (by decide)) a.items.length 0 AH s rfl (Nat.zero_le _) (CE (by omega))
  rw [show ((0:Nat):Int)=0 from rfl,List.drop_zero,List.drop_zero] at h3
  exact h3) oa.1 a.shape.length 0 AH false rfl (Nat.zero_le _) (CE (by omega))
 rw [show ((0:Nat):Int)=0 from rfl,List.drop_zero,List.drop_zero] at h2
 exact h2
theorem ON : ∀ (k:Nat) {a b:Arr},a.size<k→okAr a→Tells (Er k a b) (a=b)
 | 0,a,b,h,_=>by omega
 | k+1,a,b,h,ha=>by
  have oa:=(Ce a).1 ha
  rw [Er]
  exact Vt ⟨oa.2.1,oa.2.2.1⟩ fun x hx y hy=>Kr (oa.2.2.2 x hx) fun p hp q hq =>
   ON k (by have:=FI hx;have:p.size<x.size:=EO hp;omega) (((Eb x).1 (oa.2.2.2 x hx)).2.2.2.2 p hp)
theorem XZ {a b:Arr} (ha:okAr a) : Tells (Hd a b) (a=b):=ON _ (Nat.lt_succ_self _) ha
section
variable {S:Type} (step:Itm→S→Option (Bool×S))
def Jg : List Itm→S→Int→Option (Int×S)
 | [],s,_=>some (-1,s)
 | x::xs,s,i=>(step x s).bind fun r=>if r.1=true then some (i,r.2) else Jg xs r.2 (i+1)
end
theorem R9 {z:Int} (h1:-9223372036854775808≤z) (h2:z≤9223372036854775807) : w64 z=z:=by
 simp only [w64,IntKind.wrap,IntKind.bits,IntKind.signed];simp;omega
abbrev dvI (x:Itm) : DV:=.ag [.i .u8 x.kind,.b x.num.1,.sl (L x.num.2.1),.sl (L x.num.2.2),.i .i32 x.char,.sl (Ars x.box)]
abbrev dvA (x:Arr) : DV:=.ag [.sl (Is x.shape),.sl (Its x.items)]
set_option maxRecDepth 10000 in
theorem PQ {S:Type} {step:Itm→S→Option (Bool×S)} {st:S→Ab→Prop} {f:FuncId} {caps:List AV} (hcall:∀ args w,(callFunc f args).run Tryz.prog w=.ok (.enter f args) w) (hnc:noOwnL caps=true)
  (hstep:∀ (x:Itm) s r H,st s H→step x s=some r→FnR Tryz.prog f (.d (dvI x)::caps) H fun v H'=>v=.d (.b r.1)∧st r.2 H')
  {xs:List Itm} {s:S} {r:Int×S} (hl:xs.length≤9223372036854775806) (h:Jg step xs s 0=some r) {H:Ab} (hs:st s H) :
  FnR Tryz.prog 66 [.d (.sl (Its xs)),.fn f [] caps] H fun v H'=>v=.d (.i .i64 r.1)∧st r.2 H':=by
 have hfn:noOwn (.fn f [] caps)=true:=by simp [noOwn,noOwnL,hnc]
 refine FnR.of (rs:=[.tmp 4]) 19 Tryz.func66 rfl rfl rfl (by simp) ?_;refine .sr<|kD zj<|rn<|.seq<|.sr<|kK (Ac)<|kK (AX (Ai _) (Bg _) Ba)<|kK (Ac)<|rn<|.block ?_
 refine .loop (.gh (Gh.keep [0,1,7,8] rfl) ?_)
 refine AL.ind (σ:=Nat×S×Ab) (m:=fun p=>xs.length-p.1) (e:=fun p=>[(0,.d (.sl (Its xs))),(1,.fn f [] caps),(7,.d (.i .i64 ((List.length xs:Nat):Int))),(8,.d (.i .i64 ((p.1:Nat):Int)))]) (h:=fun p=>p.2.2)
  (I:=fun p=>p.1≤xs.length∧st p.2.1 p.2.2∧Jg step (xs.drop p.1) p.2.1 (p.1:Int)=some r) ?_ (0,s,H) ⟨Nat.zero_le _,hs,h⟩
 rintro ⟨i,s,H⟩ ⟨hi,hs,h⟩ ih
 dsimp only at hi hs h ih ⊢
 refine .sr<|kK (vbi)<|rn<|.seq ?_
 by_cases hc:((i:Nat):Int)<((List.length xs:Nat):Int)
 ·refine cnt (dT hc) ?_
  have hlt:i<xs.length:=by omega
  rw [lC hlt,Jg] at h
  obtain ⟨z,hz,h⟩:=bnd h
  refine .skip<|aw<|.seq<|.block<|.sr<|kK (Ac)<|kD zj<|rn<|.sr<|kK (Pf (av:=.fn f [] caps) (hn:=hfn))<|kK (Ac)<|kK (Ac)<|kK (vix i rfl (BC (lG hlt)) rfl Bs)<|kK (Ap AE Am) ?_
  refine Zi (avs:=[.d (dvI xs[i])]) (hstep _ _ _ _ hs hz) hcall (fun v H' hp=>?_) (hnc:=hnc)
  obtain ⟨rfl,hs'⟩:=hp
  refine rn ?_
  by_cases hc:z.1=true
  ·refine cnt hc ?_
   rw [if_pos hc] at h
   cases h
   refine .sr<|kK (Ac)<|kD zj<|rn<|.ret ?_
   exact ⟨_,⟨rfl,rfl⟩,rfl,hs'⟩
  refine cnf (bf hc) ?_
  rw [if_neg hc] at h
  refine .skip<|aw<|.region<|kK (vbi)<|kK (Ac)<|.nil ?_
  have hw:IntKind.wrap .i64 ((i:Int)+1)=((i+1:Nat):Int):=by rw [show IntKind.wrap .i64 ((i:Int)+1)=(i:Int)+1 from R9 (by omega) (by omega)];omega
  rw [hw]
  refine AL.gh (Gh.keep [0,1,7,8] rfl) ?_
  exact ih (i+1,z.2,H') ⟨hlt,hs',by rw [← h];simp⟩ (by dsimp only;omega)
 ·refine cnf (dF hc) ?_
  have:i=xs.length:=by omega
  subst this
  rw [List.drop_length,Jg] at h
  cases h
  refine .exit ?_;refine aw<|.sr<|kD zj<|rn<|.ret ?_
  exact ⟨_,⟨rfl,rfl⟩,rfl,hs⟩
theorem L6 {S:Type} {step:Itm→S→Option (Bool×S)} {st:S→Ab→Prop} {f:FuncId} {caps:List AV} (hcall:∀ args w,(callFunc f args).run Tryz.prog w=.ok (.enter f args) w) (hnc:noOwnL caps=true)
  (hstep:∀ (x:Itm) s r H,st s H→step x s=some r→FnR Tryz.prog f (.d (dvI x)::caps) H fun v H'=>v=.d (.b r.1)∧st r.2 H')
  {xs:List Itm} {s:S} {r:Int×S} (hl:xs.length≤9223372036854775806) (h:Jg step xs s 0=some r) {H:Ab} (hs:st s H) :
  FnR Tryz.prog 18 [.d (.sl (Its xs)),.fn f [] caps] H fun v H'=>v=.d (.b (decide (0≤r.1)))∧st r.2 H':=by
 have hfn:noOwn (.fn f [] caps)=true:=by simp [noOwn,noOwnL,hnc]
 refine FnR.of (rs:=[.tmp 4]) 9 Tryz.func18 rfl rfl rfl (by simp) ?_;refine .sr<|kD zj<|rn<|.sr<|kK (Ac)<|kK (Pf (av:=.fn f [] caps) (hn:=hfn)) ?_
 refine clR (avs:=[.d (.sl (Its xs)),.fn f [] caps]) (PQ hcall hnc hstep hl h hs) Tryz.call66 (fun v H' hp=>?_) (ha:=by simp [argsA,lk,get,hfn,AI,noOwn])
 obtain ⟨rfl,hs'⟩:=hp
 refine kK (vbi)<|kD zj<|rn<|.ret ?_
 exact ⟨_,⟨rfl,rfl⟩,rfl,hs'⟩
abbrev M3:=Bool×Int×Int
abbrev EB (c d:Int) : HO:=.box [.d (.i .i64 c),.d (.i .i64 d)]
def Upd (H:Ab) (id:Nat) (o:HO) (H':Ab) : Prop:=H'[id]?=some o∧H.length≤H'.length∧∀ j,j≠id→j<H.length→H'[j]?=H[j]?
theorem Upd.same {H:Ab} {id:Nat} {o:HO} (h:H[id]?=some o) : Upd H id o H:=⟨h,Nat.le_refl _,fun _ _ _=>rfl⟩
theorem Upd.trans {H H' H'':Ab} {id:Nat} {o o':HO} (h:Upd H id o H') (k:Upd H' id o' H'') : Upd H id o' H'' :=
 ⟨k.1,nT h.2.1 k.2.1,fun j h1 h2=>(k.2.2 j h1 (nL h2 h.2.1)).trans (h.2.2 j h1 h2)⟩
def PE (id:Nat) (r:M3) (H:Ab) : AV→Ab→Prop:=fun v H'=>v=.d (.b r.1)∧Upd H id (EB r.2.1 r.2.2) H'
theorem PE.refl {id:Nat} {b:Bool} {c d:Int} {H:Ab} (h:H[id]?=some (EB c d)) : PE id (b,c,d) H (.d (.b b)) H:=⟨rfl,.same h⟩
def OA (rc:Arr→Int→Int→Int→Option M3) : Prop:=∀ (a:Arr) (deep c d:Int) (r:M3),rc a deep c d=some r→∀ (H:Ab) (id:Nat),H[id]?=some (EB c d) →
 FnR Tryz.prog 114 [.bp id 0,.d (dvA a),.d (.i .i64 deep)] H (PE id r H)
def EI (a1:Itm) : Bool:=((!a1.num.1)&&((decide (((List.length a1.num.2.1:Nat) : Int)=0))&&(decide (((List.length a1.num.2.2:Nat) : Int)=0))))
def NR (rc:Arr→Int→Int→Int→Option M3) (a1:Itm) (a2 c d:Int) : Option M3:=(if a1.kind=1 then ((Fl a1.num).bind fun x1=>(some ((x1&&((decide (a1.char=0))&&(decide (((List.length a1.box:Nat) : Int)=0)))),c,d))) else (if a1.kind=2 then ((FN a1.char).bind fun x2=>(some ((x2&&(EI a1&&(decide (((List.length a1.box:Nat) : Int)=0)))),c,d))) else (if a1.kind=3 then (if ((List.length a1.box:Nat) : Int)=1 then (if EI a1=true then (if a1.char=0 then ((rd? a1.box 0).bind fun x4=>((CZ x4).bind fun x5=>(if x5=true then (some (false,c,d)) else ((rd? a1.box 0).bind fun x6=>((rc x6 a2 c d).bind fun x7=>(some x7)))))) else (some (false,c,d))) else (some (false,c,d))) else (some (false,c,d))) else (some (false,c,d)))))
set_option maxHeartbeats 4000000 in
theorem IP {rc:Arr→Int→Int→Int→Option M3} (orc:OA rc) {a1:Itm} {a2 c d:Int} {r:M3} (h:NR rc a1 a2 c d=some r) {H:Ab} {id:Nat} (hH:H[id]?=some (EB c d)) :
  FnR Tryz.prog 67 [.bp id 0,.d (dvI a1),.d (.i .i64 a2)] H (PE id r H):=by
 unfold NR EI at h
 refine FnR.of (rs:=[.tmp 6]) 89 Tryz.func67 rfl rfl rfl (by simp) ?_;refine .sr<|kK (vbx)<|kD zj<|rn<|.gh (Gh.keep [0,2,4,6] rfl)<|.seq<|AW.mr (σ:=Unit) (fun _=>True) (fun _=>[(0,.bp id 0),(2,.d (.i .i64 a2)),(4,.d (.ptr [.i .u8 a1.kind,.b a1.num.1,.sl (L a1.num.2.1),.sl (L a1.num.2.2),.i .i32 a1.char,.sl (Ars a1.box)])),(6,.d (.b false)),(7,.d (.b ((!a1.num.1)&&((decide (((List.length a1.num.2.1:Nat):Int)=0))&&(decide (((List.length a1.num.2.2:Nat):Int)=0))))))]) (fun _=>H) ?_ ?_
 ·skip
  refine .region<|kK (vfa BJ)<|kK (vfa Em)<|kK (Al Dd)<|kK (vnt) ?_
  by_cases hc:a1.num.1=true
  ·have hb0:(!a1.num.1)=false:=(ntf hc)
   refine kK (VOK.lit (Ac) hb0)<|gf4 ?_;refine kG<|kK (Ao)<|kK (Ac)<|gf4 ?_;refine kG<|kK (Ao)<|kD zj<|RL.gh (Gh.keep [0,2,4,6,7] rfl)<|.nil ?_
   exact jr () trivial (by simp only [hb0];rfl)
  have hb0:(!a1.num.1)=true:=(ntt (bf hc))
  refine kK (VOK.lit (Ac) hb0)<|kK (vfa BJ)<|kK (vfa D2)<|kK (Al EG)<|kK (AX (Aa _) (BY _) RC)<|kK (vbi)<|kK (Ao) ?_
  by_cases hc:((List.length a1.num.2.1:Nat):Int)=0
  ·have hb1:(decide (((List.length a1.num.2.1:Nat):Int)=0))=true:=(dT hc)
   refine kK (VOK.lit (Ac) hb1)<|kK (vfa BJ)<|kK (vfa E3)<|kK (Al EG)<|kK (AX (Aa _) (BY _) RC)<|kK (vbi)<|kK (Ao)<|kD zj<|RL.gh (Gh.keep [0,2,4,6,7] rfl)<|.nil ?_
   exact jr () trivial (by simp only [hb0,hb1];rfl)
  have hb1:(decide (((List.length a1.num.2.1:Nat):Int)=0))=false:=(dF hc)
  refine kK (VOK.lit (Ac) hb1)<|gf4 ?_;refine kG<|kK (Ao)<|kD zj<|RL.gh (Gh.keep [0,2,4,6,7] rfl)<|.nil ?_
  exact jr () trivial (by simp only [hb0,hb1];rfl)
 rintro _ _
 refine .seq<|.sr<|kK (vfa BS)<|kK (Al AY)<|rn<|.gh (Gh.keep [0,2,4,6,7,27] rfl)<|.block<|.sr<|kK (vbi)<|kD zj<|rn<|.gh (Gh.keep [0,2,4,6,7,27,28] rfl) ?_
 rcases brc h with ⟨hc,h⟩|⟨hc,h⟩
 ·refine cnt (dT hc) ?_
  refine .seq ?_
  obtain ⟨x1,hx1,h⟩:=bnd h
  refine AW.mr (σ:=Unit) (fun _=>True) (fun _=>[(6,.d (.b (x1&&((decide (a1.char=0))&&(decide (((List.length a1.box:Nat):Int)=0))))))]) (fun _=>H) ?_ ?_
  ·skip
   refine .region<|kK (vfa BJ)<|kK (Ap AU AD)<|kK (Ag (Es hx1) Tryz.call112) ?_
   by_cases hc:x1=true
   ·have hb0:x1=true:=hc
    refine kK (VOK.lit (Ac) hb0)<|kK (vfa CU)<|kK (Al CT)<|kK (vbi)<|kK (Ao) ?_
    by_cases hc:a1.char=0
    ·have hb1:(decide (a1.char=0))=true:=(dT hc)
     refine kK (VOK.lit (Ac) hb1)<|kK (vfa A5)<|kK (Al B2)<|kK (AX (Bu _) (Ek _) Ei)<|kK (vbi)<|kK (Ao)<|kD zj<|RL.gh (Gh.keep [6] rfl)<|.nil ?_
     exact jr () trivial (by simp only [hb0,hb1];rfl)
    have hb1:(decide (a1.char=0))=false:=(dF hc)
    refine kK (VOK.lit (Ac) hb1)<|gf4 ?_;refine kK (Ao)<|kD zj<|RL.gh (Gh.keep [6] rfl)<|.nil ?_
    exact jr () trivial (by simp only [hb0,hb1];rfl)
   have hb0:x1=false:=(bf hc)
   refine kK (VOK.lit (Ac) hb0)<|gf3 ?_;refine kK (Ao)<|kK (Ac)<|gf4 ?_;refine kK (Ao)<|kD zj<|RL.gh (Gh.keep [6] rfl)<|.nil ?_
   exact jr () trivial (by simp only [hb0];rfl)
  rintro _ _
  refine .ret ?_
  cases h
  exact ⟨_,⟨rfl,rfl⟩,.refl hH⟩
 refine cnf (dF hc) ?_;refine .sr<|kK (vbi)<|kD zj<|rn<|.gh (Gh.keep [0,2,4,6,7,27,44] rfl) ?_
 rcases brc h with ⟨hc,h⟩|⟨hc,h⟩
 ·refine cnt (dT hc) ?_
  refine .seq ?_
  obtain ⟨x2,hx2,h⟩:=bnd h
  refine AW.mr (σ:=Unit) (fun _=>True) (fun _=>[(6,.d (.b (x2&&(((!a1.num.1)&&((decide (((List.length a1.num.2.1:Nat):Int)=0))&&(decide (((List.length a1.num.2.2:Nat):Int)=0))))&&(decide (((List.length a1.box:Nat):Int)=0))))))]) (fun _=>H) ?_ ?_
  ·skip
   refine .region<|kK (vfa CU)<|kK (Al CT)<|kK (Ag (LZ hx2) Tryz.call113) ?_
   by_cases hc:x2=true
   ·have hb0:x2=true:=hc
    refine kK (VOK.lit (Ac) hb0)<|kK (Ac)<|kK (Ao) ?_
    by_cases hc:((!a1.num.1)&&((decide (((List.length a1.num.2.1:Nat):Int)=0))&&(decide (((List.length a1.num.2.2:Nat):Int)=0))))=true
    ·have hb1:((!a1.num.1)&&((decide (((List.length a1.num.2.1:Nat):Int)=0))&&(decide (((List.length a1.num.2.2:Nat):Int)=0))))=true:=hc
     refine kK (VOK.lit (Ac) hb1)<|kK (vfa A5)<|kK (Al B2)<|kK (AX (Bu _) (Ek _) Ei)<|kK (vbi)<|kK (Ao)<|kD zj<|RL.gh (Gh.keep [6] rfl)<|.nil ?_
     exact jr () trivial (by simp only [hb0,hb1];rfl)
    have hb1:((!a1.num.1)&&((decide (((List.length a1.num.2.1:Nat):Int)=0))&&(decide (((List.length a1.num.2.2:Nat):Int)=0))))=false:=(bf hc)
    refine kK (VOK.lit (Ac) hb1)<|gf4 ?_;refine kK (Ao)<|kD zj<|RL.gh (Gh.keep [6] rfl)<|.nil ?_
    exact jr () trivial (by simp only [hb0,hb1];rfl)
   have hb0:x2=false:=(bf hc)
   refine kK (VOK.lit (Ac) hb0)<|kG<|kK (Ao)<|kK (Ac)<|gf4 ?_;refine kK (Ao)<|kD zj<|RL.gh (Gh.keep [6] rfl)<|.nil ?_
   exact jr () trivial (by simp only [hb0];rfl)
  rintro _ _
  refine .ret ?_
  cases h
  exact ⟨_,⟨rfl,rfl⟩,.refl hH⟩
 refine cnf (dF hc) ?_;refine .sr<|kK (vbi)<|kD zj<|rn<|.gh (Gh.keep [0,2,4,6,7,58] rfl) ?_
 rcases brc h with ⟨hc,h⟩|⟨hc,h⟩
 ·refine cnt (dT hc) ?_
  refine .seq ?_
  ·skip
   refine .region<|kK (vfa A5)<|kK (Al B2)<|kK (AX (Bu _) (Ek _) Ei)<|kK (vbi) ?_
   rcases brc h with ⟨hc,h⟩|⟨hc,h⟩
   ·have hb0:(decide (((List.length a1.box:Nat):Int)=1))=true:=(dT hc)
    refine kK (VOK.lit (Ac) hb0)<|kK (Ac)<|kK (Ao) ?_
    rcases brc h with ⟨hc,h⟩|⟨hc,h⟩
    ·have hb1:((!a1.num.1)&&((decide (((List.length a1.num.2.1:Nat):Int)=0))&&(decide (((List.length a1.num.2.2:Nat):Int)=0))))=true:=hc
     refine kK (VOK.lit (Ac) hb1)<|kK (vfa CU)<|kK (Al CT)<|kK (vbi)<|kK (Ao) ?_
     rcases brc h with ⟨hc,h⟩|⟨hc,h⟩
     ·have hb2:(decide (a1.char=0))=true:=(dT hc)
      refine kK (VOK.lit (Ac) hb2)<|kK (vfa A5)<|kK (Al B2) ?_
      obtain ⟨x4,hx4,h⟩:=bnd h
      obtain ⟨nx4,hnx4,hxx4⟩:=Aq hx4
      refine kK (vix nx4 hnx4 (Dr hxx4) rfl Du)<|kK (Ap Ah Ad) ?_
      obtain ⟨x5,hx5,h⟩:=bnd h
      refine kK (Ag (GM hx5) Tryz.call79)<|kK (vnt)<|kK (Ao) ?_
      rcases brc h with ⟨hc,h⟩|⟨hc,h⟩
      ·have hb3:(!x5)=false:=(ntf hc)
       refine kK (VOK.lit (Ac) hb3)<|gf4 ?_;refine gf3 ?_;refine kK (Ao)<|kD zj<|rn<|.gh (Gh.keep [6] rfl)<|.ret ?_
       cases h
       exact ⟨_,⟨rfl,rfl⟩,.refl hH⟩
      have hb3:(!x5)=true:=(ntt (bf hc))
      refine kK (VOK.lit (Ac) hb3)<|kK (Pf (av:=.bp id 0))<|kK (vfa A5)<|kK (Al B2) ?_
      obtain ⟨x6,hx6,h⟩:=bnd h
      obtain ⟨nx6,hnx6,hxx6⟩:=Aq hx6
      refine kK (vix nx6 hnx6 (Dr hxx6) rfl Du)<|kK (Ap Ah Ad)<|kK (Ac) ?_
      obtain ⟨x7,hx7,h⟩:=bnd h
      refine clR (avs:=[.bp id 0,.d (dvA x6),.d (.i .i64 a2)]) (orc x6 a2 c d x7 hx7 H id hH) Tryz.call114 (fun v H' hp=>?_)
      obtain ⟨rfl,hp⟩:=hp
      refine kK (Ao)<|kD zj<|rn<|.gh (Gh.keep [6] rfl)<|.ret ?_
      cases h
      exact ⟨_,⟨rfl,rfl⟩,rfl,hp⟩
     have hb2:(decide (a1.char=0))=false:=(dF hc)
     refine kK (VOK.lit (Ac) hb2)<|gf4 ?_;refine gf2 ?_;refine kK (Ao)<|kK (Ac)<|gf4 ?_;refine gf3 ?_;refine kK (Ao)<|kD zj<|rn<|.gh (Gh.keep [6] rfl)<|.ret ?_
     cases h
     exact ⟨_,⟨rfl,rfl⟩,.refl hH⟩
    have hb1:((!a1.num.1)&&((decide (((List.length a1.num.2.1:Nat):Int)=0))&&(decide (((List.length a1.num.2.2:Nat):Int)=0))))=false:=(bf hc)
    refine kK (VOK.lit (Ac) hb1)<|gf3 ?_;refine kK (Ao)<|kK (Ac)<|gf4 ?_;refine gf2 ?_;refine kK (Ao)<|kK (Ac)<|gf4 ?_;refine gf3 ?_;refine kK (Ao)<|kD zj<|rn<|.gh (Gh.keep [6] rfl)<|.ret ?_
    cases h
    exact ⟨_,⟨rfl,rfl⟩,.refl hH⟩
   have hb0:(decide (((List.length a1.box:Nat):Int)=1))=false:=(dF hc)
   refine kK (VOK.lit (Ac) hb0)<|kG<|kK (Ao)<|kK (Ac)<|gf3 ?_;refine kK (Ao)<|kK (Ac)<|gf4 ?_;refine gf2 ?_;refine kK (Ao)<|kK (Ac)<|gf4 ?_;refine gf3 ?_;refine kK (Ao)<|kD zj<|rn<|.gh (Gh.keep [6] rfl)<|.ret ?_
   cases h
   exact ⟨_,⟨rfl,rfl⟩,.refl hH⟩
 refine cnf (dF hc) ?_;refine .skip<|aw<|.sr<|kD zj<|rn<|.gh (Gh.keep [6] rfl)<|.ret ?_
 cases h
 exact ⟨_,⟨rfl,rfl⟩,.refl hH⟩
def J2 (rc:Arr→Int→Int→Int→Option M3) (deep:Int) : List Itm→Int→Int→Option M3
 | [],c,d=>some (true,c,d)
 | x::xs,c,d=>(NR rc x deep c d).bind fun z=>if z.1=true then J2 rc deep xs z.2.1 z.2.2 else some (false,z.2.1,z.2.2)
def RI (rc:Arr→Int→Int→Int→Option M3) (deep:Int) (x:Itm) (s:Int×Int) : Option (Bool×(Int×Int)):=(NR rc x deep s.1 s.2).map fun z=>(!z.1,z.2)
theorem QK {rc:Arr→Int→Int→Int→Option M3} {deep:Int} : ∀ {xs:List Itm} {c d:Int} {z:M3} {i:Int},0≤i→J2 rc deep xs c d=some z→∃ n,Jg (RI rc deep) xs (c,d) i=some (n,z.2)∧(!decide (0≤n))=z.1
 | [],c,d,z,i,_,h=>by cases h;exact ⟨-1,rfl,rfl⟩
 | x::xs,c,d,z,i,hi,h=>by
  rw [J2] at h
  obtain ⟨y,hy,h⟩:=bnd h
  have hs:RI rc deep x (c,d)=some (!y.1,y.2):=by simp [RI,hy]
  by_cases hc:y.1=true
  ·rw [if_pos hc] at h
   obtain ⟨n,h1,h2⟩:=QK (i:=i+1) (by omega) h
   refine ⟨n,?_,h2⟩
   rw [Jg,hs,oB,if_neg (by simp [hc])];exact h1
  ·rw [if_neg hc] at h
   cases h
   refine ⟨i,?_,by simp [hi]⟩
   rw [Jg,hs,oB,if_pos (by simp [hc])]
theorem Lk {rc:Arr→Int→Int→Int→Option M3} (orc:OA rc) {x:Itm} {deep c d:Int} {z:M3} (h:NR rc x deep c d=some z) {H:Ab} {id n3 n5:Nat} (hH:H[id]?=some (EB c d)) (h3:H[n3]?=some (.box [.bp id 0])) (h5:H[n5]?=some (.box [.d (.i .i64 deep)])) :
  FnR Tryz.prog 166 [.d (dvI x),.bp n3 0,.bp n5 0] H fun v H'=>v=.d (.b (!z.1))∧Upd H id (EB z.2.1 z.2.2) H':=by
 refine FnR.of (rs:=[.tmp 4]) 10 Tryz.func166 rfl rfl rfl (by simp) ?_;refine .sr<|kK (vbx)<|kD zj<|rn<|.sr<|kK (LM (cs:=[.bp id 0]) (c:=.bp id 0) h3 rfl (by kernel_rfl))<|kK (Ap AE Am)<|kK (H6 (cs:=[.d (.i .i64 deep)]) (c:=.i .i64 deep) h5 rfl Bh) ?_
 refine clR (avs:=[.bp id 0,.d (dvI x),.d (.i .i64 deep)]) (IP orc h hH) Tryz.call67 (fun v H' hp=>?_)
 obtain ⟨rfl,hp⟩:=hp
 refine kK (vnt)<|kD zj<|rn<|.ret ?_
 exact ⟨_,⟨rfl,rfl⟩,rfl,hp⟩
theorem Upd.set_new {H H':Ab} {id n:Nat} {o x:HO} (k:Upd H id o H') (h1:H.length≤n) (h2:n≠id) : Upd H id o (H'.set n x) :=
 ⟨by rw [List.getElem?_set_ne h2];exact k.1,by simpa using k.2.1,fun j h3 h4=>by rw [List.getElem?_set_ne (by omega)];exact k.2.2 j h3 h4⟩
theorem Upd.set_id {H H':Ab} {id:Nat} {o o':HO} (k:Upd H id o H') : Upd H id o' (H'.set id o') :=
 ⟨List.getElem?_set_self (lS.1 k.1).1,by simpa using k.2.1,fun j h3 h4=>by rw [List.getElem?_set_ne (Ne.symm h3)];exact k.2.2 j h3 h4⟩
def Vv (rc:Arr→Int→Int→Int→Option M3) (a:Arr) (deep c d:Int) : Option M3 :=
 (Df a.shape).bind fun x1 =>
  if x1.2=0 then
   if ((List.length a.items:Nat):Int)=(if x1.1<1 then 1 else x1.1) then
    if 16384<w64 (c+((List.length a.items:Nat):Int)) then some (false,w64 (c+((List.length a.items:Nat):Int)),d) else
    (CZ a).bind fun sm =>
     if sm=true then (if deep≤16 then J2 rc deep a.items (w64 (c+((List.length a.items:Nat):Int))) d else some (false,w64 (c+((List.length a.items:Nat):Int)),d))
     else (if w64 (deep+1)≤16 then J2 rc (w64 (deep+1)) a.items (w64 (c+((List.length a.items:Nat):Int))) (if d<w64 (deep+1) then w64 (deep+1) else d) else some (false,w64 (c+((List.length a.items:Nat):Int)),(if d<w64 (deep+1) then w64 (deep+1) else d)))
   else some (false,c,d)
  else some (false,c,d)
set_option maxHeartbeats 4000000 in
set_option maxRecDepth 20000 in
theorem LW {rc:Arr→Int→Int→Int→Option M3} (orc:OA rc) {a:Arr} {deep c d:Int} {r:M3} (hlen:a.items.length≤9223372036854775806) (h:Vv rc a deep c d=some r) {H:Ab} {id:Nat} (hH:H[id]?=some (EB c d)) :
  FnR Tryz.prog 114 [.bp id 0,.d (dvA a),.d (.i .i64 deep)] H (PE id r H):=by
 unfold Vv at h
 have hid:id<H.length:=(lS.1 hH).1
 refine FnR.of (rs:=[.tmp 6]) 63 Tryz.func114 rfl rfl rfl (by simp) ?_;refine .sr<|bxA (c:=.bp id 0) ?_;refine kK (vbx)<|bxA (c:=.d (.i .i64 deep)) ?_;refine kD zj ?_
 have f0:Upd H id (EB c d) (H++[.box [.bp id 0]]++[.box [.d (.i .i64 deep)]]):=by
  refine ⟨?_,by simp,fun j h1 h2=>?_⟩
  ·rw [List.append_assoc,List.getElem?_append_left hid];exact hH
  ·rw [List.append_assoc,List.getElem?_append_left h2]
 have f3:(H++[HO.box [AV.bp id 0]]++[.box [.d (.i .i64 deep)]])[H.length]?=some (.box [.bp id 0]):=by simp
 have f5:(H++[HO.box [AV.bp id 0]]++[.box [.d (.i .i64 deep)]])[(H++[HO.box [AV.bp id 0]]).length]?=some (.box [.d (.i .i64 deep)]):=by
  rw [List.getElem?_append_right (Nat.le_refl _)];simp
 have g3:H.length≠id:=by omega
 have g5:(H++[HO.box [AV.bp id 0]]).length≠id:=by simp;omega
 have g5':H.length≤(H++[HO.box [AV.bp id 0]]).length:=by simp
 have g35:H.length≠(H++[HO.box [AV.bp id 0]]).length:=by simp
 have g3':H.length≤H.length:=Nat.le_refl _
 generalize H++[HO.box [AV.bp id 0]]++[.box [.d (.i .i64 deep)]]=H2 at f0 f3 f5 ⊢
 generalize (H++[HO.box [AV.bp id 0]]).length=n5 at f5 g5 g5' g35 ⊢
 obtain ⟨n3,hn3⟩:∃ n3,n3=H.length:=⟨_,rfl⟩
 rw [← hn3] at f3 g3 g35
 rw [← hn3]
 have f1:=f0.1
 refine rn<|.gh (Gh.keep [3,4,5] rfl)<|.sr<|kK (vfa A6)<|kK (Al Cy) ?_
 obtain ⟨x1,hx1,h⟩:=bnd h
 refine kK (VOK.tupd (vs:=[.i .i64 x1.1,.i .i64 x1.2]) (Ag (D9 hx1) Tryz.call17))<|kK (Ac)<|kK (vex)<|kK (vex)<|kD zj<|kD zj<|rn<|.gh (Gh.keep [3,4,5,7,8] rfl)<|.seq<|.sr<|kK (Ac)<|kK (vbi) ?_
 by_cases hc:x1.2=0
 rotate_left
 ·rw [if_neg hc] at h
  cases h
  refine kK (VOK.lit (Ac) (show (!decide (x1.2=0))=true by simp [hc]))<|gf4 ?_;refine gf2 ?_;refine kK (Ao)<|rn<|cnt rfl ?_;refine .sr<|kD zj<|rn<|.ret ?_
  exact ⟨_,⟨rfl,rfl⟩,rfl,f0⟩
 rw [if_pos hc] at h
 refine kK (VOK.lit (Ac) (show (!decide (x1.2=0))=false by simp [hc]))<|kK (vfa AM)<|kK (Al Bl)<|kK (AX (Ai _) (Bg _) Ba)<|kK (Ac)<|kK (vmx)<|kK (vbi)<|kK (Ao)<|rn ?_
 by_cases hc:((List.length a.items:Nat):Int)=(if x1.1<1 then 1 else x1.1)
 rotate_left
 ·rw [if_neg hc] at h
  cases h
  refine cnt (ntt (dF hc)) ?_;refine .sr<|kD zj<|rn<|.ret ?_
  exact ⟨_,⟨rfl,rfl⟩,rfl,f0⟩
 rw [if_pos hc] at h
 refine cnf (ntf (dT hc)) ?_;refine .skip<|aw<|.gh (Gh.keep [3,4,5] rfl)<|.seq<|.drawn 10 AS (by kernel_rfl) ?_;refine kV (LM (cs:=[.bp id 0]) (c:=.bp id 0) f3 rfl (by kernel_rfl))<|kV (WQ)<|kV (Gw Mn)<|kV (H6 (cs:=[.d (.i .i64 c),.d (.i .i64 d)]) (c:=.i .i64 c) f1 rfl Bh)<|kV (vfa AM)<|kV (Al Bl)<|kV (AX (Ai _) (Bg _) Ba)<|kV (vbi)<|kV (WQ)<|kV (Gw Mn)<|dz ?_
 refine stb (cs:=[.d (.i .i64 c),.d (.i .i64 d)]) (c:=.d (.i .i64 c)) f1 rfl ?_ GS
 have q0:=f0.set_id (o':=EB (w64 (c+((List.length a.items:Nat):Int))) d)
 have q3:(H2.set id (EB (w64 (c+((List.length a.items:Nat):Int))) d))[n3]?=some (.box [.bp id 0]):=by rw [List.getElem?_set_ne (Ne.symm g3)];exact f3
 have q5:(H2.set id (EB (w64 (c+((List.length a.items:Nat):Int))) d))[n5]?=some (.box [.d (.i .i64 deep)]):=by rw [List.getElem?_set_ne (Ne.symm g5)];exact f5
 refine rn ?_
 change AW _ _ _ _ _ (H2.set id (EB (w64 (c+((List.length a.items:Nat):Int))) d))
 generalize H2.set id (EB (w64 (c+((List.length a.items:Nat):Int))) d)=H3 at q0 q3 q5 ⊢
 generalize w64 (c+((List.length a.items:Nat):Int))=c1 at h q0 ⊢
 have q1:=q0.1
 refine .gh (Gh.keep [3,4,5] rfl)<|.seq<|.sr<|kK (LM (cs:=[.bp id 0]) (c:=.bp id 0) q3 rfl (by kernel_rfl))<|kK (WQ)<|kK (Gw Mn)<|kK (H6 (cs:=[.d (.i .i64 c1),.d (.i .i64 d)]) (c:=.i .i64 c1) q1 rfl Bh)<|kK (vbi)<|rn ?_
 by_cases hc:16384<c1
 ·rw [if_pos hc] at h
  cases h
  refine cnt (dT hc) ?_;refine .sr<|kD zj<|rn<|.ret ?_
  exact ⟨_,⟨rfl,rfl⟩,rfl,q0⟩
 rw [if_neg hc] at h
 refine cnf (dF hc) ?_;refine .skip<|aw<|.gh (Gh.keep [3,4,5] rfl)<|.seq ?_
 obtain ⟨sm,hsm,h⟩:=bnd h
 refine .sr<|kK (Ap Ah Ad)<|kK (Ag (GM hsm) Tryz.call79)<|kK (vnt)<|rn ?_
 refine AW.mr (σ:=Ab×Int×Int) (fun s=>Upd H id (EB c1 s.2.2) s.1∧s.1[n3]?=some (.box [.bp id 0])∧s.1[n5]?=some (.box [.d (.i .i64 s.2.1)])∧(if s.2.1≤16 then J2 rc s.2.1 a.items c1 s.2.2 else some (false,c1,s.2.2))=some r)
  (fun _=>[(3,.bp n3 0),(4,.d (.ptr [.sl (Is a.shape),.sl (Its a.items)])),(5,.bp n5 0)]) (fun s=>s.1) ?_ ?_
 ·by_cases hs:sm=true
  ·rw [if_pos hs] at h
   refine cnf (ntf hs) ?_;refine .gh (Gh.keep [3,4,5] rfl)<|.skip ?_
   exact jr (H3,deep,d) ⟨q0,q3,q5,h⟩
  rw [if_neg hs] at h
  refine cnt (ntt (bf hs)) ?_;refine .sr<|kK (H6 (cs:=[.d (.i .i64 deep)]) (c:=.i .i64 deep) q5 rfl Bh)<|kK (vbi) ?_
  refine stb (cs:=[.d (.i .i64 deep)]) (c:=.d (.i .i64 deep)) q5 rfl ?_ GS
  have p0:=q0.set_new (n:=n5) (x:=.box [.d (.i .i64 (w64 (deep+1)))]) g5' g5
  have p3:(H3.set n5 (.box [.d (.i .i64 (w64 (deep+1)))]))[n3]?=some (.box [.bp id 0]):=by rw [List.getElem?_set_ne (Ne.symm g35)];exact q3
  have p5:(H3.set n5 (.box [.d (.i .i64 (w64 (deep+1)))]))[n5]?=some (.box [.d (.i .i64 (w64 (deep+1)))]):=List.getElem?_set_self (lS.1 q5).1
  refine rn ?_
  change AW _ _ _ _ _ (H3.set n5 (.box [.d (.i .i64 (w64 (deep+1)))]))
  generalize H3.set n5 (.box [.d (.i .i64 (w64 (deep+1)))])=H4 at p0 p3 p5 ⊢
  generalize w64 (deep+1)=dp at h p5 ⊢
  have p1:=p0.1
  refine .gh (Gh.keep [3,4,5] rfl)<|.drawn 9 AS (by kernel_rfl) ?_;refine kV (LM (cs:=[.bp id 0]) (c:=.bp id 0) p3 rfl (by kernel_rfl))<|kV (LM (cs:=[.bp id 0]) (c:=.bp id 0) p3 rfl (by kernel_rfl))<|kV (WQ)<|kV (Gw Tm)<|kV (H6 (cs:=[.d (.i .i64 c1),.d (.i .i64 d)]) (c:=.i .i64 d) p1 rfl Bh)<|kV (H6 (cs:=[.d (.i .i64 dp)]) (c:=.i .i64 dp) p5 rfl Bh)<|kV (vmx)<|kV (WQ)<|kV (Gw Tm)<|dz ?_
  refine stb (cs:=[.d (.i .i64 c1),.d (.i .i64 d)]) (c:=.d (.i .i64 d)) p1 rfl ?_ GS
  have w0:=p0.set_id (o':=EB c1 (if d<dp then dp else d))
  have w3:(H4.set id (EB c1 (if d<dp then dp else d)))[n3]?=some (.box [.bp id 0]):=by rw [List.getElem?_set_ne (Ne.symm g3)];exact p3
  have w5:(H4.set id (EB c1 (if d<dp then dp else d)))[n5]?=some (.box [.d (.i .i64 dp)]):=by rw [List.getElem?_set_ne (Ne.symm g5)];exact p5
  refine RL.gh (Gh.keep [3,4,5] rfl)<|.nil ?_
  exact jr (H4.set id (EB c1 (if d<dp then dp else d)),dp,(if d<dp then dp else d)) ⟨w0,w3,w5,h⟩
 rintro ⟨H5,dp,d1⟩ ⟨u0,u3,u5,h⟩
 dsimp only at u0 u3 u5 h ⊢
 refine aw<|.sr<|kK (H6 (cs:=[.d (.i .i64 dp)]) (c:=.i .i64 dp) u5 rfl Bh)<|kK (vbi) ?_
 by_cases hc:dp≤16
 rotate_left
 ·rw [if_neg hc] at h
  cases h
  refine kK (VOK.lit (Ac) (dF hc))<|gf4 ?_;refine kG<|kK (Ao)<|kD zj<|rn<|.ret ?_
  exact ⟨_,⟨rfl,rfl⟩,rfl,u0⟩
 rw [if_pos hc] at h
 refine kK (VOK.lit (Ac) (dT hc))<|kK (vfa AM)<|kK (Al Bl)<|Aaj (avs:=[.bp n3 0,.bp n5 0]) ?_
 obtain ⟨n,h1,h2⟩:=QK (Int.le_refl 0) h
 have step:=L6 (S:=Int×Int) (step:=RI rc dp) (st:=fun s H'=>Upd H id (EB s.1 s.2) H'∧H'[n3]?=some (.box [.bp id 0])∧H'[n5]?=some (.box [.d (.i .i64 dp)])) (caps:=[.bp n3 0,.bp n5 0]) Tryz.call166 rfl
  (fun x s y H' hs hy=>by
   obtain ⟨hs0,hs3,hs5⟩:=hs
   simp only [RI,Option.map_eq_some_iff] at hy
   obtain ⟨z,hz,rfl⟩:=hy
   refine (Lk orc hz hs0.1 hs3 hs5).mono fun v H'' hp=>⟨hp.1,hs0.trans hp.2,?_,?_⟩
   ·rw [hp.2.2.2 n3 g3 (lS.1 hs3).1];exact hs3
   ·rw [hp.2.2.2 n5 g5 (lS.1 hs5).1];exact hs5)
  hlen h1 (H:=H5) ⟨u0,u3,u5⟩
 refine clR (avs:=[.d (.sl (Its a.items)),.fn 166 [] [.bp n3 0,.bp n5 0]]) step Tryz.call18 (fun v H' hp=>?_)
 obtain ⟨rfl,hp⟩:=hp
 refine vk (vnt) ?_
 rw [h2]
 refine kK (Ao)<|kD zj<|rn<|.ret ?_
 exact ⟨_,⟨rfl,rfl⟩,rfl,hp.1⟩
def ME : Nat→Arr→Int→Int→Int→Option M3
 | 0,_,_,_,_=>none
 | k+1,a,deep,c,d=>if a.items.length≤9223372036854775806 then Vv (ME k) a deep c d else none
theorem QB : ∀ k,OA (ME k)
 | 0=>fun _ _ _ _ _ h=>by cases h
 | k+1=>fun a deep c d r h H id hH=>by
  rw [ME] at h
  obtain ⟨hl,h⟩:=D1 h
  exact LW (QB k) hl h hH
def mAr (a:Arr) (deep c d:Int) : Option M3:=ME (a.size+1) a deep c d
def mIt (x:Itm) (deep c d:Int) : Option M3:=NR mAr x deep c d
theorem V9 : OA mAr:=fun a deep c d r h=>QB _ a deep c d r h
def EW (a:Arr) : Option ((Int×Int)×Bool):=(mAr a 0 0 0).map fun z=>if z.1=true then (z.2,true) else ((0,0),false)
theorem Js {a:Arr} {r:(Int×Int)×Bool} (h:EW a=some r) : Fn Tryz.prog 71 [dvA a] (.tup [.d (.ag [.i .i64 r.1.1,.i .i64 r.1.2]),.d (.b r.2)]):=by
 simp only [EW,Option.map_eq_some_iff] at h
 obtain ⟨z,hz,rfl⟩:=h
 refine Fn.ofC (rs:=[.cell 2 92,.tmp 3]) (nt:=10) Tryz.func71 rfl rfl rfl (by simp) rfl ?_;refine .sr<|kK (vbx)<|kK (van (Ae OH) Tg)<|kD zj<|rn<|.sr ?_
 refine al ?_ (Ae OH) (fun w I μ=>Vx w I μ)
 refine rn<|.seq<|.sr<|kK (Ap Ah Ad) ?_
 refine clR (avs:=[.bp 0 0,.d (dvA a),.d (.i .i64 0)]) (V9 a 0 0 0 z hz _ 0 rfl) Tryz.call114 (fun v H' hp=>?_)
 obtain ⟨rfl,hp⟩:=hp
 refine kK (vnt)<|rn ?_
 by_cases hc:z.1=true
 ·rw [if_pos hc]
  refine cnf (ntf hc) ?_;refine .skip<|aw<|.sr<|kK (Kn (cs:=[.d (.i .i64 z.2.1),.d (.i .i64 z.2.2)]) (ds:=[.i .i64 z.2.1,.i .i64 z.2.2]) hp.1 V5 M8) ?_
  refine stn ?_ M8 (by decide)
  refine kD zj<|rn<|.ret ?_
  exact ⟨_,_,⟨.inr rfl,V5,M8,p2⟩,rfl,rfl⟩
 ·rw [if_neg hc]
  refine cnt (ntt (bf hc)) ?_;refine .sr<|kK (vbd Aa3 OH Tg) ?_
  refine stn ?_ M8 (by decide)
  refine kD zj<|rn<|.ret ?_
  exact ⟨_,_,⟨.inr rfl,V5,M8,p2⟩,rfl,rfl⟩
def Ev (x:Itm) : Option Bool:=(mIt x 0 0 0).map fun z=>z.1
theorem Iy {x:Itm} {r:Bool} (h:Ev x=some r) : Fn Tryz.prog 20 [dvI x] (.d (.b r)):=by
 simp only [Ev,Option.map_eq_some_iff] at h
 obtain ⟨z,hz,rfl⟩:=h
 refine Fn.o1 2 6 Tryz.func20 ?_;refine .sr<|kK (vbx)<|kD zj<|rn<|.sr ?_
 refine al ?_ (Ae OH) (fun w I μ=>Vx w I μ)
 refine vk (Ap AE Am) ?_
 refine clR (avs:=[.bp 0 0,.d (dvI x),.d (.i .i64 0)]) (IP V9 hz (id:=0) rfl) Tryz.call67 (fun v H' hp=>?_)
 obtain ⟨rfl,hp⟩:=hp
 refine kD zj<|rn<|.ret ?_
 exact ⟨rfl,rfl⟩
def NE (s:Bool) (n:Nat) : Int×Bool:=if s=true then (if n≤9223372036854775808 then (-(n:Int),true) else (0,false)) else if n<9223372036854775808 then ((n:Int),true) else (0,false)
def Hl (a:RT) : Option (Int×Bool):=(Hg a).bind fun b=>if b=true then (if (okL 1048576 a.2.1&&decide (Af (val a.2.1)=a.2.1))=true then some (if Bn (val a.2.1)≤64 then NE a.1 (val a.2.1) else (0,false)) else none) else some (0,false)
theorem Abi (w:World) : (zeroValue 81).run Tryz.prog w=.ok (.int .u64 0) w:=by
 simp
theorem zu1 : Av Tryz.prog 81=1:=by kernel_rfl
theorem au1 : BH Tryz.prog 81=some false:=by kernel_rfl
theorem Xh {xs:List Nat} (h:Ok xs) (hl:xs.length≤2) : ∀ j,val (xs.drop (j+1))<4294967296:=by
 intro j
 match xs,hl with
 | [],_=>simp [val]
 | [x],_=>cases j<;>simp [val]
 | [x,y],_ =>
  have hy:y<4294967296:=h y (by simp)
  cases j with
  | zero=>simp [val];omega
  | succ j=>cases j<;>simp [val]
theorem Wc {n:Nat} (h:n≤9223372036854775808) : IntKind.i64.wrap (IntKind.u64.wrap (0-(n:Int)))=-(n:Int):=by
 simp only [IntKind.wrap,IntKind.bits,IntKind.signed];simp;omega
theorem QO {a:RT} {r:Int×Bool} (h:Hl a=some r) : Fn Tryz.prog 59 [.ag [.b a.1,.sl (L a.2.1),.sl (L a.2.2)]] (.tup [.d (.i .i64 r.1),.d (.b r.2)]):=by
 unfold Hl at h
 obtain ⟨x1,hx1,h⟩:=bnd h
 refine Fn.ofM (rs:=[.tmp 2,.tmp 3]) (nt:=46) Tryz.func59 rfl rfl rfl (by simp) rfl ?_;refine .seqA ?_;refine .region<|kK vbx<|kD zj<|kD zj<|rn ?_
 show AWM _ _ _ _ _ _
 refine .seqA ?_;refine .seq<|.region<|kK (Ap AU AD)<|kK (Ag (OZ hx1) Tryz.call89)<|kK vnt ?_
 cases x1 with
 | false =>
  replace h:=IQ (by decide) h
  refine kA zj<|gf4 ?_;refine kK Ao<|rn<|cnt rfl ?_;refine .seq<|.region<|kD zj<|kD zj<|rn<|.ret ?_
  cases h
  exact ⟨by decide,rfl,rfl,rfl⟩
 | true =>
  replace h:=H8 rfl h
  obtain ⟨hc,h⟩:=D1 h
  rw [Bool.and_eq_true,CF] at hc
  obtain ⟨⟨hok,hlen⟩,hdg⟩:=hc
  have hdg:=of_decide_eq_true hdg
  refine kA zj<|kK (vfa D2)<|kK (Al EG) ?_
  refine cl (xs:=[.sl (L a.2.1)]) ?_ (Tu hok hlen) Tryz.call108
  refine kB zj<|kK Ao<|rn ?_
  by_cases hb:Bn (val a.2.1)≤64
  ·rw [if_pos hb] at h
   cases h
   have hb1:decide ((64:Int)<(Bn (val a.2.1):Nat))=false:=dF (by omega)
   refine cnf hb1 ?_;refine .skip ?_
   show AWM _ _ _ _ _ _
   have hv64:val a.2.1<18446744073709551616:=Dl.1 hb
   have hlen2:a.2.1.length≤2:=by rw [← hdg];exact Cv (by omega)
   have hvs:=Xh hok hlen2
   refine .seqA ?_;refine .region ?_
   refine al ?_ Abi (fun w I μ=>.cons (c:=.d (.i .u64 0)) (b1:=[]) (.d (.i _ _)) .nil)
   refine stb (cs:=[.d (.i .u64 0)]) (c:=.d (.i .u64 0)) rfl rfl ?_ zu1
   refine rn ?_
   show AWM _ _ _ _ _ _
   refine .seq rfl<|.seqA ?_;refine .region<|kK (vfa D2)<|kK (Al EG) ?_
   refine cl (xs:=[.sl (L a.2.1)]) ?_ (Lt (L a.2.1)) Tryz.call109
   refine rn ?_
   show AWM _ _ _ _ _ _
   obtain ⟨s,xs,den⟩:=a
   dsimp only at *
   have hys:∀ ds∈Jp (L xs),ds.length=2:=fun ds hds=>by
    obtain ⟨k,hk⟩:=List.getElem?_of_mem hds
    rw [(Ke hk).2];rfl
   have hit:=Yr (L xs) (by intro x hx;simp only [L,List.mem_map] at hx;obtain ⟨n,_,rfl⟩:=hx;rfl) (by rw [Aa];omega)
   refine .block<|.rangeFunc rfl rfl rfl Tryz.call163 hit hys (by decide) (by decide) rfl (fun k=>[.box [.d (.i .u64 ((val (xs.drop (xs.length-k)):Nat):Int))]]) (by simp [val]) ?_ ?_
   ·intro l k d1 d2 hk
    obtain ⟨hk1,hk2⟩:=Ke hk
    rw [Aa] at hk1 hk2
    have hj:xs.length-1-k<xs.length:=by omega
    have hxat:(L xs).getD (xs.length-1-k) .np=U xs[xs.length-1-k]:=by
     rw [lD,Fz (lG hj)];rfl
    rw [hxat] at hk2
    simp only [List.cons.injEq,and_true] at hk2
    obtain ⟨rfl,rfl⟩:=hk2
    have hva:=V0 hj
    have hx:=hok.at (lG hj)
    have hsm:=hvs (xs.length-1-k)
    have e1:xs.length-1-k+1=xs.length-k:=by omega
    have e2:xs.length-(k+1)=xs.length-1-k:=by omega
    rw [e1] at hva hsm
    rw [e2]
    generalize xs[xs.length-1-k]=x at *
    generalize val (xs.drop (xs.length-k))=n at *
    rw [hva]
    refine .region<|kD zj<|rn<|aw<|.block<|.region ?_
    refine ldb (cs:=[.d (.i .u64 (n:Int))]) (c:=.d (.i .u64 (n:Int))) rfl rfl ?_ au1
    refine bie (.i .u64 ((n * 4294967296:Nat):Int)) ?_ ?_
    ·refine ⟨by decide,?_⟩
     have:IntKind.u64.wrap ((n:Int) * 4294967296)=((n * 4294967296:Nat):Int):=by
      rw [Hf _ (by omega) (by omega)];omega
     rw [← this];simp [IntKind.bits]
    refine mvd ?_
    refine cve (x:Int) (Hf _ (by omega) (by omega)) ?_ u32 u64
    refine bie (.i .u64 ((n * 4294967296+x:Nat):Int)) ?_ ?_
    ·exact ⟨trivial,by rw [Kw hsm hx]⟩
    refine stb (cs:=[.d (.i .u64 (n:Int))]) (c:=.d (.i .u64 (n:Int))) rfl rfl ?_ zu1
    refine .nil ?_
    refine ⟨rfl,?_⟩
    rw [show n * 4294967296+x=x+4294967296 * n by omega]
    rfl
   ·show AWM _ _ _ _ _ _
    refine .lift ?_
    rw [FR,Aa,Nat.sub_self,List.drop_zero]
    have hn:val xs<18446744073709551616:=hv64
    generalize val xs=n at *
    cases s with
    | true =>
     refine .seq<|.block<|.seq<|.region<|kK (vfa Em)<|kK (Al Dd)<|kA zj ?_
     refine ldb (cs:=[.d (.i .u64 (n:Int))]) (c:=.d (.i .u64 (n:Int))) rfl rfl ?_ au1
     refine kB zj<|kK Ao<|kD zj<|rn ?_
     by_cases hle:n≤9223372036854775808
     ·refine cnt (dT (show (n:Int)≤9223372036854775808 by omega)) ?_
      refine .seq<|.region ?_
      refine ldb (cs:=[.d (.i .u64 (n:Int))]) (c:=.d (.i .u64 (n:Int))) rfl rfl ?_ au1
      refine kK vng<|kK (vcv u64 i64)<|kD zj<|kD zj<|rn<|.ret ?_
      refine ⟨by decide,?_,rfl,rfl⟩
      rw [show NE true n=(-(n:Int),true) by rw [NE,if_pos rfl,if_pos hle],← Wc hle];rfl
     ·refine cnf (dF (show ¬((n:Int)≤9223372036854775808) by omega)) ?_
      refine .seq<|.region<|kK (vfa Em)<|kK (Al Dd)<|kK vnt<|kA zj<|gf2 ?_;refine kK Ao<|kD zj<|rn<|cnf rfl ?_;refine .sk ?_;refine .seq<|.region<|kD zj<|kD zj<|rn<|.ret ?_
      exact ⟨by decide,by rw [show NE true n=(0,false) by rw [NE,if_pos rfl,if_neg hle]];rfl,rfl,rfl⟩
    | false =>
     refine .seq<|.block<|.seq<|.region<|kK (vfa Em)<|kK (Al Dd)<|kA zj<|gf2 ?_;refine kK Ao<|kD zj<|rn<|cnf rfl ?_;refine .seq<|.region<|kK (vfa Em)<|kK (Al Dd)<|kK vnt<|kA zj ?_
     refine ldb (cs:=[.d (.i .u64 (n:Int))]) (c:=.d (.i .u64 (n:Int))) rfl rfl ?_ au1
     refine kB zj<|kK Ao<|kD zj<|rn ?_
     by_cases hlt:n<9223372036854775808
     ·refine cnt (dT (show (n:Int)<9223372036854775808 by omega)) ?_
      refine .seq<|.region ?_
      refine ldb (cs:=[.d (.i .u64 (n:Int))]) (c:=.d (.i .u64 (n:Int))) rfl rfl ?_ au1
      refine kK (vcv u64 i64)<|kD zj<|kD zj<|rn<|.ret ?_
      refine ⟨by decide,?_,rfl,rfl⟩
      rw [show NE false n=((n:Int),true) by rw [NE,if_neg (by decide),if_pos hlt]]
      have:=Hb (n:Int) (by omega) (by omega)
      exact (show AV.tup [.d (.i .i64 (n:Int)),.d (.b true)]=.tup [.d (.i .i64 (IntKind.i64.wrap (n:Int))),.d (.b true)] by rw [this]).trans rfl
     ·refine cnf (dF (show ¬((n:Int)<9223372036854775808) by omega)) ?_
      refine .sk ?_;refine .seq<|.region<|kD zj<|kD zj<|rn<|.ret ?_
      exact ⟨by decide,by rw [show NE false n=(0,false) by rw [NE,if_neg (by decide),if_neg hlt]];rfl,rfl,rfl⟩
  ·rw [if_neg hb] at h
   cases h
   have hb1:decide ((64:Int)<(Bn (val a.2.1):Nat))=true:=dT (by omega)
   refine cnt hb1 ?_;refine .seq<|.region<|kD zj<|kD zj<|rn<|.ret ?_
   exact ⟨by decide,rfl,rfl,rfl⟩
def Bw (a0:Arr) : Option (Bool):=((EW a0).bind fun x1=>(some (x1.2)))
theorem C1 {a0:Arr} {r:Bool} (h:Bw a0=some r) :
  Fn Tryz.prog 25 [.ag [.sl (Is a0.shape),.sl (Its a0.items)]] (.d (.b r)):=by
 unfold Bw at h
 refine Fn.o1 2 11 Tryz.func25 ?_;refine .sr<|kK vbx<|kR [1,2] zj<|.sr<|kK (Ap Ah Ad) ?_
 obtain ⟨x1,g1,h⟩:=bnd h
 refine kK (VOK.tupd (vs:=[.ag [.i .i64 x1.1.1,.i .i64 x1.1.2],.b x1.2]) (Ag (Js g1) Tryz.call71))<|kA zj<|kK vex<|kK vex<|kK (van (Ae OH) Tg) ?_
 refine stn ?_ M8 (by decide)
 refine kR [2,4] zj<|.sr<|kA zj<|kR [2] zj<|.ret ?_
 cases h
 exact ⟨rfl,rfl⟩
def Fo (a0:Arr) : Option (Int):=((EW a0).bind fun x1=>(some (x1.1.1)))
theorem Nm {a0:Arr} {r:Int} (h:Fo a0=some r) :
  Fn Tryz.prog 23 [.ag [.sl (Is a0.shape),.sl (Its a0.items)]] (.d (.i .i64 r)):=by
 unfold Fo at h
 refine Fn.o1 2 12 Tryz.func23 ?_;refine .sr<|kK vbx<|kR [1,2] zj<|.sr<|kK (Ap Ah Ad) ?_
 obtain ⟨x1,g1,h⟩:=bnd h
 refine kK (VOK.tupd (vs:=[.ag [.i .i64 x1.1.1,.i .i64 x1.1.2],.b x1.2]) (Ag (Js g1) Tryz.call71))<|kA zj<|kK vex<|kK vex<|kK (van (Ae OH) Tg) ?_
 refine stn ?_ M8 (by decide)
 refine kR [2,3] zj<|.seq<|.gh (Gh.nbp (t:=3) rfl)<|.region<|kK (vfa Mn)<|kK (Al Bh)<|kR [2] zj<|.ret ?_
 cases h
 exact ⟨rfl,rfl⟩
def GK (a0:Arr) (a1:Arr) : Option (Bool):=((Bw a0).bind fun x1=>(Option.bind ((if x1=true then ((Bw a1).bind fun x3=>(if x3=true then ((Qr a0 a1).bind fun x4=>(some x4)) else (some false))) else (some false)) : Option (Bool)) fun (z1:Bool)=>(some (z1))))
theorem IB {a0:Arr} {a1:Arr} {r:Bool} (h:GK a0 a1=some r) :
  Fn Tryz.prog 28 [.ag [.sl (Is a0.shape),.sl (Its a0.items)],.ag [.sl (Is a1.shape),.sl (Its a1.items)]] (.d (.b r)):=by
 unfold GK at h
 refine Fn.o1 4 16 Tryz.func28 ?_;refine .sr<|kK vbx<|kK vbx<|kR [2,3,4] zj<|.seq ?_
 obtain ⟨x1,g1,h⟩:=bnd h
 obtain ⟨z1,hz,h⟩:=bnd h
 refine AW.mr (σ:=Unit) (fun _=>True) (fun _=>[(4,.d (.b z1))]) (fun _=>[]) ?_ ?_
 ·skip
  refine .region<|kK (Ap Ah Ad)<|kK (Ag (C1 g1) Tryz.call25) ?_
  rcases brc hz with ⟨hc,hz⟩|⟨hc,hz⟩
  ·have hb0:x1=true:=hc
   refine kC zj hb0<|kK (Ap Ah Ad) ?_
   obtain ⟨x3,g3,hz⟩:=bnd hz
   refine kK (Ag (C1 g3) Tryz.call25)<|kK Ao ?_
   rcases brc hz with ⟨hc,hz⟩|⟨hc,hz⟩
   ·have hb1:x3=true:=hc
    refine kC zj hb1<|kK (Ap Ah Ad)<|kK (Ap Ah Ad) ?_
    obtain ⟨x4,g4,hz⟩:=bnd hz
    refine kK (Ag (P5 g4) Tryz.call75)<|kK Ao<|kD zj<|RL.gk [4]<|.nil ?_
    cases hz
    exact jr () trivial
   have hb1:x3=false:=(bf hc)
   refine kC zj hb1<|gf3 ?_;refine kK Ao<|kD zj<|RL.gk [4]<|.nil ?_
   cases hz
   exact jr () trivial
  have hb0:x1=false:=(bf hc)
  refine kC zj hb0<|gf2 ?_;refine kK Ao<|kA zj<|gf3 ?_;refine kK Ao<|kD zj<|RL.gk [4]<|.nil ?_
  cases hz
  exact jr () trivial
 rintro _ _
 refine .ret ?_
 cases h
 exact ⟨rfl,rfl⟩
def Aw (a0:(List Itm)) (a1:Cm) (K0:Int→Option (Int)) : Nat→Int→Int→Option (Int)
 | 0,_,_=>none
 | k+1,s2,s3=>(if s3<((List.length a0:Nat):Int) then ((rd? a0 s3).bind fun x4=>((a1.g x4).bind fun x5=>(if x5=true then (some (s3)) else (Aw a0 a1 K0 k s2 (w64 (s3+1)))))) else (K0 s2))
def Bb (a0:(List Itm)) (a1:Cm) : Option (Int):=(jn (fun (z1:Int)=>(some ((-1)))) fun K0=>(Aw a0 a1 K0 AH 0 0))
theorem DY {a0:(List Itm)} {a1:Cm} (oa1:Kd a1) {r:Int} (h:Bb a0 a1=some r) :
  Fn Tryz.prog 66 [.sl (Its a0),a1.dv] (.d (.i .i64 r)):=by
 unfold Bb at h
 refine Fn.o1 4 19 Tryz.func66 ?_;refine .sr<|kR [0,1,4] zj<|.seq<|.sr<|kA zj<|kK (AX (Ai _) (Bg _) Ba)<|kA zj<|rk [0,1,4,7,8] ?_
 obtain ⟨K0,hK0,h⟩:=A1 h
 refine AW.mr (σ:=Int) (fun p=>K0 p=some r) (fun p=>[(4,.d (.i .i64 p))]) (fun p=>[]) ?_ ?_
 ·skip
  refine .block ?_
  refine .loop (.gk [0,1,4,7,8] ?_)
  refine AL.ind (σ:=Nat×Int×Int) (m:=fun p=>p.1) (e:=fun p=>[(0,.d (.sl (Its a0))),(1,.d (a1.dv)),(4,.d (.i .i64 p.2.1)),(7,.d (.i .i64 ((List.length a0:Nat):Int))),(8,.d (.i .i64 p.2.2))]) (h:=fun p=>[]) (I:=fun p=>Aw a0 a1 K0 p.1 p.2.1 p.2.2=some r) ?_ (AH,0,0) h
  rintro ⟨k,s2,s3⟩ h ih
  dsimp only at h ih ⊢
  rcases k with _|k
  ·rw [Aw] at h;cases h
  rw [Aw] at h
  refine .sr<|kB zj<|rk [0,1,4,7,8,9]<|.seq ?_
  rcases brc h with ⟨hc,h⟩|⟨hc,h⟩
  ·refine cnt (dT hc) ?_
   refine .sk ?_;refine .seq<|.block<|.sr<|kA zj<|kR [0,1,4,5,7,8] zj<|.sr<|kA zj<|kA zj<|kA zj ?_
   obtain ⟨x4,g4,h⟩:=bnd h
   obtain ⟨n4,p04,q4⟩:=Aq g4
   refine kK (vix n4 p04 (BC q4) rfl Bs)<|kK (Ap AE Am) ?_
   obtain ⟨x5,g5,h⟩:=bnd h
   refine kK (NP (oa1 _ _ g5))<|rk [0,1,4,5,7,8,16] ?_
   rcases brc h with ⟨hc,h⟩|⟨hc,h⟩
   ·refine cnt hc ?_
    refine .sr<|kA zj<|kR [0,1,4,7,8] zj<|.ret ?_
    cases h
    exact ⟨rfl,rfl⟩
   refine cnf (bf hc) ?_;refine .sk ?_;refine .region<|kB zj<|kA zj<|.nil ?_;refine AL.gk [0,1,4,7,8] ?_
   exact ih (k,s2,(w64 (s3+1))) h (Nat.lt_succ_self _)
  refine cnf (dF hc) ?_;refine .gk [4]<|.exit ?_
  exact jr (s2) h
 rintro z1 h
 try dsimp only at h ⊢
 subst hK0
 refine aw<|.sr<|kR [4] zj<|.ret ?_
 cases h
 exact ⟨rfl,rfl⟩
def AG (a0:(List Itm)) (a1:Cm) : Option (Bool):=((Bb a0 a1).bind fun x1=>(some ((decide (0≤x1)))))
theorem Dq {a0:(List Itm)} {a1:Cm} (oa1:Kd a1) {r:Bool} (h:AG a0 a1=some r) :
  Fn Tryz.prog 18 [.sl (Its a0),a1.dv] (.d (.b r)):=by
 unfold AG at h
 refine Fn.o1 4 9 Tryz.func18 ?_;refine .sr<|kR [0,1,4] zj<|.sr<|kA zj<|kA zj ?_
 obtain ⟨x1,g1,h⟩:=bnd h
 refine kK (Ag (DY oa1 g1) Tryz.call66)<|kB zj<|kR [4] zj<|.ret ?_
 cases h
 exact ⟨rfl,rfl⟩
def EM (a0:Itm) : Option (Bool):=((Ev a0).bind fun x1=>(some ((!x1))))
theorem LX {a0:Itm} {r:Bool} (h:EM a0=some r) :
  Fn Tryz.prog 19 [.ag [.i .u8 a0.kind,.b a0.num.1,.sl (L a0.num.2.1),.sl (L a0.num.2.2),.i .i32 a0.char,.sl (Ars a0.box)]] (.d (.b r)):=by
 unfold EM at h
 refine Fn.o1 2 6 Tryz.func19 ?_;refine .sr<|kK vbx<|kR [1,2] zj<|.sr<|kK (Ap AE Am) ?_
 obtain ⟨x1,g1,h⟩:=bnd h
 refine kK (Ag (Iy g1) Tryz.call20)<|kK vnt<|kR [2] zj<|.ret ?_
 cases h
 exact ⟨rfl,rfl⟩
def Cq (x12:Itm) (K4:Int→Option (Arr×Int)) : Nat→Int→Int→Option (Arr×Int)
 | 0,_,_=>none
 | k+1,s14,s15=>(if s15<((List.length x12.box:Nat):Int) then ((rd? x12.box s15).bind fun x16=>((Fo x16).bind fun x17=>(Cq x12 K4 k (w64 (s14+x17)) (w64 (s15+1))))) else (K4 s14))
def B7 (a1:(List Itm)) (K1:(List Int)→Option (Arr×Int)) : Nat→(List Int)→Int→Option (Arr×Int)
 | 0,_,_=>none
 | k+1,s9,s10=>(if s10<((List.length a1:Nat):Int) then (jn (fun (z11:(List Int))=>(B7 a1 K1 k z11 (w64 (s10+1)))) fun K3=>((rd? a1 s10).bind fun x12=>(jn (fun (z13:Int)=>((ap? 17592186044416 s9 [z13]).bind fun x18=>(K3 x18))) fun K4=>(Cq x12 K4 AH 1 0)))) else (K1 s9))
def B9 (a1:(List Itm)) (x1:Int×Int) (z8:(List Int)) (K6:Arr→Int→(List Int)→(List Itm)→Option (Arr×Int)) : Nat→Arr→Int→Int→Int→(List Int)→(List Itm)→Option (Arr×Int)
 | 0,_,_,_,_,_,_=>none
 | k+1,s23,s24,s25,s26,s27,s28=>(if s25<x1.1 then ((Gk (((List.length a1:Nat):Int)≠0)).bind fun x29=>((rd? z8 (Int.tmod s25 ((List.length a1:Nat):Int))).bind fun x30=>(if 16384<(w64 (s26+x30)) then (some ((Arr.mk [] []),8)) else ((Gk (((List.length a1:Nat):Int)≠0)).bind fun x31=>((rd? a1 (Int.tmod s25 ((List.length a1:Nat):Int))).bind fun x32=>((GH x32).bind fun x33=>((ap? 1466015503701 s28 [x33]).bind fun x34=>(B9 a1 x1 z8 K6 k s23 s24 (w64 (s25+1)) (w64 (s26+x30)) s27 x34)))))))) else (K6 s23 s24 s27 s28))
def Bi (a0:(List Int)) (a1:(List Itm)) : Option (Arr×Int):=((Df a0).bind fun x1=>(if x1.2=0 then (Option.bind ((if ((List.length a1:Nat) : Int)=0 then (some true) else ((AG a1 (⟨.fn 19 [] [],fun x=>EM x⟩ : Cm)).bind fun x3=>(some x3))) : Option (Bool)) fun (z2:Bool)=>(if z2=true then (some ((Arr.mk [] []),22)) else ((E0 a0).bind fun x4=>(jn (fun (z5:(List Itm))=>(jn (fun (z8:(List Int))=>(jn (fun (z19:Arr) (z20:Int) (z21:(List Int)) (z22:(List Itm))=>((Bw (Arr.mk z21 z22)).bind fun x35=>(if x35=true then (some ((Arr.mk z21 z22),0)) else (some ((Arr.mk [] []),8))))) fun K6=>(B9 a1 x1 z8 K6 AH (Arr.mk [] []) 0 0 0 x4 z5))) fun K1=>(B7 a1 K1 AH [] 0))) fun K0=>(if x1.1=0 then ((rd? a1 0).bind fun x6=>((Kg x6).bind fun x7=>(K0 ([x7])))) else (K0 [])))))) else (some ((Arr.mk [] []),x1.2))))
set_option maxHeartbeats 4000000 in
theorem Fd {a0:(List Int)} {a1:(List Itm)} {r:Arr×Int} (h:Bi a0 a1=some r) :
  Fn Tryz.prog 5 [.sl (Is a0),.sl (Its a1)] (.tup [.d (.ag [.sl (Is r.1.shape),.sl (Its r.1.items)]),.d (.i .i64 r.2)]):=by
 unfold Bi at h
 refine Fn.ofC (rs:=[.cell 4 25,.tmp 5]) (nt:=105) Tryz.func5 rfl rfl rfl (by simp) rfl ?_;refine .sr<|kK (van (Ae AP) AZ)<|kR [0,1,4,5] zj<|.sr<|kA zj ?_
 obtain ⟨x1,g1,h⟩:=bnd h
 refine kK (VOK.tupd (vs:=[.i .i64 x1.1,.i .i64 x1.2]) (Ag (D9 g1) Tryz.call17))<|kA zj<|kK vex<|kK vex<|kD zj<|kR [0,1,4,5,6,7] zj<|.seq<|.block<|.sr<|kA zj<|kB zj<|kR [0,1,4,5,6,7,22] zj ?_
 rcases brc h with ⟨hc,h⟩|⟨hc,h⟩
 ·refine cnf (ntf (dT hc)) ?_
  refine .seq ?_
  obtain ⟨z2,hz,h⟩:=bnd h
  refine AW.mr (σ:=Unit) (fun _=>True) (fun _=>[(0,.d (.sl (Is a0))),(1,.d (.sl (Its a1))),(4,.nb [.sl (Is []),.sl (Its [])]),(5,.d (.i .i64 0)),(6,.d (.i .i64 x1.1)),(27,.d (.b z2))]) (fun _=>[]) ?_ ?_
  ·skip
   refine .region<|kA zj<|kK (AX (Ai _) (Bg _) Ba)<|kB zj ?_
   rcases brc hz with ⟨hc,hz⟩|⟨hc,hz⟩
   ·have hb0:(decide (((List.length a1:Nat):Int)=0))=true:=(dT hc)
    refine kC zj hb0<|gf2 ?_;refine kK Ao<|kD zj<|RL.gk [0,1,4,5,6,27]<|.nil ?_
    cases hz
    exact jr () trivial
   have hb0:(decide (((List.length a1:Nat):Int)=0))=false:=(dF hc)
   refine kC zj hb0<|kA zj ?_
   obtain ⟨x3,g3,hz⟩:=bnd hz
   refine kK (Ag (Dq (Jf Tryz.call19 (fun _ _ h=>LX h)) g3) Tryz.call18)<|kK Ao<|kD zj<|RL.gk [0,1,4,5,6,27]<|.nil ?_
   cases hz
   exact jr () trivial
  rintro _ _
  rcases brc h with ⟨hc,h⟩|⟨hc,h⟩
  ·refine cnt hc ?_
   refine .sr<|kK (vbd Dc AP AZ) ?_
   refine stn ?_ Ad (by decide)
   refine kR [0,1,4,5,6] zj<|.ret ?_
   cases h
   exact ⟨_,_,⟨.inr rfl,Ah,Ad,p2⟩,rfl,rfl⟩
  refine cnf (bf hc) ?_;refine .sk ?_;refine .sr<|kA zj ?_
  obtain ⟨x4,g4,h⟩:=bnd h
  refine kK ((Ag (GR g4) Tryz.call21).deep)<|kK (Yi Dc AP (fun w I μ=>Mj w I μ))<|kK (van (Ae AP) AZ) ?_
  refine XL ?_ Ad (by decide)
  refine rk [1,4,5,6,8]<|.seq<|.sr<|kA zj<|kB zj<|rk [1,4,5,6,8,40] ?_
  obtain ⟨K0,hK0,h⟩:=A1 h
  refine AW.mr (σ:=(List Itm)) (fun p=>K0 p=some r) (fun p=>[(1,.d (.sl (Its a1))),(4,.nb [.sl (Is []),.sl (Its [])]),(5,.d (.i .i64 0)),(6,.d (.i .i64 x1.1)),(8,.bp 0 0)]) (fun p=>[HO.box [.d (.sl (Is x4)),.own 44 (Its p)]]) ?_ ?_
  ·skip
   rcases brc h with ⟨hc,h⟩|⟨hc,h⟩
   ·refine cnt (dT hc) ?_
    refine .region<|kA zj ?_
    obtain ⟨x6,g6,h⟩:=bnd h
    obtain ⟨n6,p06,q6⟩:=Aq g6
    refine kK (vix n6 p06 (BC q6) rfl Bs)<|kK (Ap AE Am) ?_
    obtain ⟨x7,g7,h⟩:=bnd h
    refine kK (Ag (QR g7) Tryz.call22)<|kK (Gs (FO x7) (ER [x7]) DF)<|kK (Gw AM) ?_
    refine O0 (cs:=[.d (.sl (Is x4)),.nl]) (c:=.nl) rfl rfl ?_ II
    refine RL.gk [1,4,5,6,8]<|.nil ?_
    exact jr ([x7]) h
   refine cnf (dF hc) ?_;refine .gh (Gh.nlOwnC (id:=0) (off:=1) 44 (by rw [Lm];decide))<|.gk [1,4,5,6,8]<|.skip ?_
   exact jr ([]) h
  rintro z5 h
  try dsimp only at h ⊢
  subst hK0
  refine aw<|.sr<|asn ?_;refine rk [1,4,5,6,8,9]<|.seq<|.sr<|kA zj<|kK (AX (Ai _) (Bg _) Ba)<|kA zj<|rk [1,4,5,6,8,9,47,48,49] ?_
  obtain ⟨K1,hK1,h⟩:=A1 h
  refine AW.mr (σ:=(List Int)) (fun p=>K1 p=some r) (fun p=>[(1,.d (.sl (Its a1))),(4,.nb [.sl (Is []),.sl (Its [])]),(5,.d (.i .i64 0)),(6,.d (.i .i64 x1.1)),(8,.bp 0 0),(9,.own 3 (Is p))]) (fun p=>[HO.box [.d (.sl (Is x4)),.own 44 (Its z5)]]) ?_ ?_
  ·skip
   refine .block<|.gh (Gh.nlOwn (t:=9) 3 (by rw [GS];decide) rfl) ?_
   refine .loop (.gk [1,4,5,6,8,9,47,48,49] ?_)
   refine AL.ind (σ:=Nat×(List Int)×Int) (m:=fun p=>p.1) (e:=fun p=>[(1,.d (.sl (Its a1))),(4,.nb [.sl (Is []),.sl (Its [])]),(5,.d (.i .i64 0)),(6,.d (.i .i64 x1.1)),(8,.bp 0 0),(9,.own 3 (Is p.2.1)),(47,.d (.sl (Its a1))),(48,.d (.i .i64 ((List.length a1:Nat):Int))),(49,.d (.i .i64 p.2.2))]) (h:=fun p=>[HO.box [.d (.sl (Is x4)),.own 44 (Its z5)]]) (I:=fun p=>B7 a1 K1 p.1 p.2.1 p.2.2=some r) ?_ (AH,[],0) h
   rintro ⟨k,s9,s10⟩ h ih
   dsimp only at h ih ⊢
   rcases k with _|k
   ·rw [B7] at h;cases h
   rw [B7] at h
   refine .sr<|kB zj<|rk [1,4,5,6,8,9,47,48,49,50]<|.seq ?_
   rcases brc h with ⟨hc,h⟩|⟨hc,h⟩
   ·refine cnt (dT hc) ?_
    refine .sk ?_
    obtain ⟨K3,hK3,h⟩:=A1 h
    refine AW.mj (σ:=(List Int)) (fun p=>K3 p=some r) (fun p=>[(1,.d (.sl (Its a1))),(4,.nb [.sl (Is []),.sl (Its [])]),(5,.d (.i .i64 0)),(6,.d (.i .i64 x1.1)),(8,.bp 0 0),(9,.own 3 (Is p)),(47,.d (.sl (Its a1))),(48,.d (.i .i64 ((List.length a1:Nat):Int))),(49,.d (.i .i64 s10))]) (fun p=>[HO.box [.d (.sl (Is x4)),.own 44 (Its z5)]]) ?_ ?_
    ·skip
     refine .block<|.sr ?_
     obtain ⟨x12,g12,h⟩:=bnd h
     obtain ⟨n12,p012,q12⟩:=Aq g12
     refine kK (vix n12 p012 (BC q12) rfl Bs)<|kK (Ap AE Am)<|kK (van (Ae Cd) Cf) ?_
     refine stn ?_ Am (by decide)
     refine rk [1,4,5,6,8,9,11,47,48,49]<|.sr<|kR [1,4,5,6,8,9,11,12,47,48,49] zj<|.seq<|.seq<|.gh (Gh.nbp (t:=11) rfl)<|.region<|kK (vfa A5)<|kK (Al B2)<|kK (AX (Bu _) (Ek _) Ei)<|kA zj<|rk [1,4,5,6,8,9,12,47,48,49,54,55,56] ?_
     obtain ⟨K4,hK4,h⟩:=A1 h
     refine AW.mr (σ:=Int) (fun p=>K4 p=some r) (fun p=>[(1,.d (.sl (Its a1))),(4,.nb [.sl (Is []),.sl (Its [])]),(5,.d (.i .i64 0)),(6,.d (.i .i64 x1.1)),(8,.bp 0 0),(9,.own 3 (Is s9)),(12,.d (.i .i64 p)),(47,.d (.sl (Its a1))),(48,.d (.i .i64 ((List.length a1:Nat):Int))),(49,.d (.i .i64 s10))]) (fun p=>[HO.box [.d (.sl (Is x4)),.own 44 (Its z5)]]) ?_ ?_
     ·skip
      refine .block ?_
      refine .loop (.gk [1,4,5,6,8,9,12,47,48,49,54,55,56] ?_)
      refine AL.ind (σ:=Nat×Int×Int) (m:=fun p=>p.1) (e:=fun p=>[(1,.d (.sl (Its a1))),(4,.nb [.sl (Is []),.sl (Its [])]),(5,.d (.i .i64 0)),(6,.d (.i .i64 x1.1)),(8,.bp 0 0),(9,.own 3 (Is s9)),(12,.d (.i .i64 p.2.1)),(47,.d (.sl (Its a1))),(48,.d (.i .i64 ((List.length a1:Nat):Int))),(49,.d (.i .i64 s10)),(54,.d (.sl (Ars x12.box))),(55,.d (.i .i64 ((List.length x12.box:Nat):Int))),(56,.d (.i .i64 p.2.2))]) (h:=fun p=>[HO.box [.d (.sl (Is x4)),.own 44 (Its z5)]]) (I:=fun p=>Cq x12 K4 p.1 p.2.1 p.2.2=some r) ?_ (AH,1,0) h
      rintro ⟨k,s14,s15⟩ h ih
      dsimp only at h ih ⊢
      rcases k with _|k
      ·rw [Cq] at h;cases h
      rw [Cq] at h
      refine .sr<|kB zj<|rk [1,4,5,6,8,9,12,47,48,49,54,55,56,57]<|.seq ?_
      rcases brc h with ⟨hc,h⟩|⟨hc,h⟩
      ·refine cnt (dT hc) ?_
       refine .sk ?_;refine .seq<|.block<|.sr ?_
       obtain ⟨x16,g16,h⟩:=bnd h
       obtain ⟨n16,p016,q16⟩:=Aq g16
       refine kK (vix n16 p016 (Dr q16) rfl Du)<|kK (Ap Ah Ad)<|kK (van (Ae AP) AZ) ?_
       refine stn ?_ Ad (by decide)
       refine rk [1,4,5,6,8,9,12,14,47,48,49,54,55,56]<|.region<|kA zj<|kK (Dv Ah Ad) ?_
       obtain ⟨x17,g17,h⟩:=bnd h
       refine kK (Ag (Nm g17) Tryz.call23)<|kB zj<|kD zj<|.nil ?_;refine aw<|.gk [1,4,5,6,8,9,12,47,48,49,54,55,56]<|.region<|kB zj<|kA zj<|.nil ?_;refine AL.gk [1,4,5,6,8,9,12,47,48,49,54,55,56] ?_
       exact ih (k,(w64 (s14+x17)),(w64 (s15+1))) h (Nat.lt_succ_self _)
      refine cnf (dF hc) ?_;refine .gk [1,4,5,6,8,9,12,47,48,49]<|.exit ?_
      exact jr (s14) h
     rintro z13 h
     try dsimp only at h ⊢
     subst hK4
     refine aw<|.region<|mvo ?_;refine kA zj<|kK ((GN (Fc [z13]) Gt).deep) ?_
     obtain ⟨x18,g18,h⟩:=bnd h
     refine WJ RX g18 UZ ?_ PF Az Gt
     refine aso ?_;refine RL.gk [1,4,5,6,8,9,47,48,49]<|.nil ?_
     exact jr (x18) h
    rintro z11 h
    try dsimp only at h ⊢
    subst hK3
    refine .region<|kB zj<|kA zj<|.nil ?_;refine AL.gk [1,4,5,6,8,9,47,48,49] ?_
    exact ih (k,z11,(w64 (s10+1))) h (Nat.lt_succ_self _)
   refine cnf (dF hc) ?_;refine .gk [1,4,5,6,8,9]<|.exit ?_
   exact jr (s9) h
  rintro z8 h
  try dsimp only at h ⊢
  subst hK1
  refine aw<|.seq<|.sr<|kD zj<|kR [1,4,5,6,8,9,15,16] zj ?_
  obtain ⟨K6,hK6,h⟩:=A1 h
  refine AW.mr (σ:=Arr×Int×(List Int)×(List Itm)) (fun p=>K6 p.1 p.2.1 p.2.2.1 p.2.2.2=some r) (fun p=>[(4,.nb [.sl (Is p.1.shape),.sl (Its p.1.items)]),(5,.d (.i .i64 p.2.1)),(8,.bp 0 0)]) (fun p=>[HO.box [.d (.sl (Is p.2.2.1)),.own 44 (Its p.2.2.2)]]) ?_ ?_
  ·skip
   refine .block<|.gh (Gh.frz (p:=.t 9) rfl (by (intro _ _ h;cases h<;>decide))) ?_
   refine .loop (.gk [1,4,5,6,8,9,15,16] ?_)
   refine AL.ind (σ:=Nat×Arr×Int×Int×Int×(List Int)×(List Itm)) (m:=fun p=>p.1) (e:=fun p=>[(1,.d (.sl (Its a1))),(4,.nb [.sl (Is p.2.1.shape),.sl (Its p.2.1.items)]),(5,.d (.i .i64 p.2.2.1)),(6,.d (.i .i64 x1.1)),(8,.bp 0 0),(9,.d (.sl (Is z8))),(15,.d (.i .i64 p.2.2.2.1)),(16,.d (.i .i64 p.2.2.2.2.1))]) (h:=fun p=>[HO.box [.d (.sl (Is p.2.2.2.2.2.1)),.own 44 (Its p.2.2.2.2.2.2)]]) (I:=fun p=>B9 a1 x1 z8 K6 p.1 p.2.1 p.2.2.1 p.2.2.2.1 p.2.2.2.2.1 p.2.2.2.2.2.1 p.2.2.2.2.2.2=some r) ?_ (AH,(Arr.mk [] []),0,0,0,x4,z5) h
   rintro ⟨k,s23,s24,s25,s26,s27,s28⟩ h ih
   dsimp only at h ih ⊢
   rcases k with _|k
   ·rw [B9] at h;cases h
   rw [B9] at h
   refine .seq<|.sr<|kA zj<|kA zj<|kB zj<|rk [1,4,5,6,8,9,15,16,72] ?_
   rcases brc h with ⟨hc,h⟩|⟨hc,h⟩
   ·refine cnt (dT hc) ?_
    refine .sk ?_;refine .seq<|.block<|.seq<|.sr<|kA zj<|kA zj<|kA zj<|kA zj<|kK (AX (Ai _) (Bg _) Ba) ?_
    obtain ⟨x29,g29,h⟩:=bnd h
    refine vk (TX (HC g29)) ?_
    obtain ⟨x30,g30,h⟩:=bnd h
    obtain ⟨n30,p030,q30⟩:=Aq g30
    refine kK (vix n30 p030 (Ep q30) rfl Dw)<|kK (Al Bh)<|kB zj<|kR [1,4,5,6,8,9,15,16] zj<|.sr<|kA zj<|kB zj<|rk [1,4,5,6,8,9,15,16,85] ?_
    rcases brc h with ⟨hc,h⟩|⟨hc,h⟩
    ·refine cnt (dT hc) ?_
     refine .sr<|kK (vbd Dc AP AZ) ?_
     refine stn ?_ Ad (by decide)
     refine kR [1,4,5,6,8,9,15,16] zj<|.ret ?_
     cases h
     exact ⟨_,_,⟨.inr rfl,Ah,Ad,p2⟩,rfl,rfl⟩
    refine cnf (dF hc) ?_;refine .sk ?_;refine .drawn 11 AS (by kernel_rfl) ?_;refine kV (Gw AM)<|kV (QN (cs:=[.d (.sl (Is s27)),.own 44 (Its s28)]) rfl rfl Bl)<|kV Ac<|kV Ac<|kV Ac<|kV (AX (Ai _) (Bg _) Ba) ?_
    obtain ⟨x31,g31,h⟩:=bnd h
    refine dv (TX (HC g31)) ?_
    obtain ⟨x32,g32,h⟩:=bnd h
    obtain ⟨n32,p032,q32⟩:=Aq g32
    refine kV (vix n32 p032 (BC q32) rfl Bs)<|kV (Ap AE Am) ?_
    obtain ⟨x33,g33,h⟩:=bnd h
    refine kV (Ag (Gu g33) Tryz.call24)<|kV ((Gs (FO x33) (ER [x33]) DF).deep)<|dz ?_
    obtain ⟨x34,g34,h⟩:=bnd h
    refine UK Ja g34 rfl rfl KV ?_ Hy Ai DF
    refine RL.gk [1,4,5,6,8,9,15,16,85,87,89,90,91,92,93,94,95,96,97,98]<|kK (Gw AM) ?_
    refine O0 (cs:=[.d (.sl (Is s27)),.un]) (c:=.un) rfl rfl ?_ II
    refine .nil ?_;refine aw<|.gk [1,4,5,6,8,9,15,16]<|.region<|kA zj<|kB zj<|kD zj<|.nil ?_;refine AL.gk [1,4,5,6,8,9,15,16] ?_
    exact ih (k,s23,s24,(w64 (s25+1)),(w64 (s26+x30)),s27,x34) h (Nat.lt_succ_self _)
   refine cnf (dF hc) ?_;refine .gk [4,5,8]<|.exit ?_
   exact jr (s23,s24,s27,s28) h
  rintro ⟨z19,z20,z21,z22⟩ h
  try dsimp only at h ⊢
  subst hK6
  refine aw<|.seq<|.sr<|fz (p:=.c 0 1) ?_;refine kK (Kn (cs:=[.d (.sl (Is z21)),.d (.sl (Its z22))]) (ds:=[.sl (Is z21),.sl (Its z22)]) rfl Ah Ad) ?_
  obtain ⟨x35,g35,h⟩:=bnd h
  refine kK (Ag (C1 g35) Tryz.call25)<|kK vnt<|rk [4,5,8,102] ?_
  rcases brc h with ⟨hc,h⟩|⟨hc,h⟩
  ·refine cnf (ntf hc) ?_
   refine .sk ?_;refine .sr<|kK (Kn (cs:=[.d (.sl (Is z21)),.d (.sl (Its z22))]) (ds:=[.sl (Is z21),.sl (Its z22)]) rfl Ah Ad) ?_
   refine stn ?_ Ad (by decide)
   refine kR [4,5] zj<|.ret ?_
   cases h
   exact ⟨_,_,⟨.inr rfl,Ah,Ad,p2⟩,rfl,rfl⟩
  refine cnt (ntt (bf hc)) ?_;refine .sr<|kK (vbd Dc AP AZ) ?_
  refine stn ?_ Ad (by decide)
  refine kR [4,5,8] zj<|.ret ?_
  cases h
  exact ⟨_,_,⟨.inr rfl,Ah,Ad,p2⟩,rfl,rfl⟩
 refine cnt (ntt (dF hc)) ?_;refine .sr<|kK (vbd Dc AP AZ)<|kA zj ?_
 refine stn ?_ Ad (by decide)
 refine kR [0,1,4,5,6] zj<|.ret ?_
 cases h
 exact ⟨_,_,⟨.inr rfl,Ah,Ad,p2⟩,rfl,rfl⟩
def Bx (a0:Arr) : Option ((List Itm)):=((Df a0.shape).bind fun x1=>(Option.bind ((if x1.1=0 then (some true) else ((Bw a0).bind fun x3=>(some (!x3)))) : Option (Bool)) fun (z2:Bool)=>(if z2=true then (some ([])) else ((BP a0 (⟨.fn 24 [] [],fun x=>GH x⟩ : BV)).bind fun x4=>(some (x4.items))))))
theorem DD {a0:Arr} {r:(List Itm)} (h:Bx a0=some r) :
  Fn Tryz.prog 31 [.ag [.sl (Is a0.shape),.sl (Its a0.items)]] (.d (.sl (Its r))):=by
 unfold Bx at h
 refine Fn.o1 2 21 Tryz.func31 ?_;refine .sr<|kK vbx<|asn ?_;refine rk [1,2]<|.seq<|.sr<|kK (vfa A6)<|kK (Al Cy) ?_
 obtain ⟨x1,g1,h⟩:=bnd h
 refine kK (VOK.tupd (vs:=[.i .i64 x1.1,.i .i64 x1.2]) (Ag (D9 g1) Tryz.call17))<|kA zj<|kK vex<|kK vex<|kD zj<|kR [1,2,3] zj<|.seq ?_
 obtain ⟨z2,hz,h⟩:=bnd h
 refine AW.mr (σ:=Unit) (fun _=>True) (fun _=>[(1,.d (.ptr [.sl (Is a0.shape),.sl (Its a0.items)])),(2,.nl),(17,.d (.b z2))]) (fun _=>[]) ?_ ?_
 ·skip
  refine .region<|kA zj<|kB zj ?_
  rcases brc hz with ⟨hc,hz⟩|⟨hc,hz⟩
  ·have hb0:(decide (x1.1=0))=true:=(dT hc)
   refine kC zj hb0<|gf3 ?_;refine kK Ao<|RL.gk [1,2,17]<|.nil ?_
   cases hz
   exact jr () trivial
  have hb0:(decide (x1.1=0))=false:=(dF hc)
  refine kC zj hb0<|kK (Ap Ah Ad) ?_
  obtain ⟨x3,g3,hz⟩:=bnd hz
  refine kK (Ag (C1 g3) Tryz.call25)<|kK vnt<|kK Ao<|RL.gk [1,2,17]<|.nil ?_
  cases hz
  exact jr () trivial
 rintro _ _
 rcases brc h with ⟨hc,h⟩|⟨hc,h⟩
 ·refine cnt hc ?_
  refine .sr<|asn ?_;refine rk [1,2]<|.gh (Gh.nlD (t:=2) rfl)<|.ret ?_
  cases h
  exact ⟨rfl,rfl⟩
 refine cnf (bf hc) ?_;refine .sk ?_;refine .sr<|kK (Ap Ah Ad) ?_
 obtain ⟨x4,g4,h⟩:=bnd h
 refine kK (Ag (Ef (Jf Tryz.call24 (fun _ _ h=>Gu h)) g4) Tryz.call60)<|kK (Ab9 AM Ra)<|kR [2] zj<|.ret ?_
 cases h
 exact ⟨rfl,rfl⟩
def Ej (a0:Itm) : Option (Arr):=((Ev a0).bind fun x1=>(if x1=true then (if a0.kind=3 then ((rd? a0.box 0).bind fun x2=>((BP x2 (⟨.fn 24 [] [],fun x=>GH x⟩ : BV)).bind fun x3=>(some (x3)))) else ((GH a0).bind fun x4=>((FT x4).bind fun x5=>(some (x5))))) else (some ((Arr.mk [] [])))))
theorem Jl {a0:Itm} {r:Arr} (h:Ej a0=some r) :
  Fn Tryz.prog 15 [.ag [.i .u8 a0.kind,.b a0.num.1,.sl (L a0.num.2.1),.sl (L a0.num.2.2),.i .i32 a0.char,.sl (Ars a0.box)]] (.d (.ag [.sl (Is r.shape),.sl (Its r.items)])):=by
 unfold Ej at h
 refine Fn.ofC (rs:=[.cell 2 25]) (nt:=20) Tryz.func15 rfl rfl rfl (by simp) rfl ?_;refine .sr<|kK vbx<|kK (van (Ae AP) AZ)<|rk [1,2]<|.seq<|.block<|.sr<|kK (Ap AE Am) ?_
 obtain ⟨x1,g1,h⟩:=bnd h
 refine kK (Ag (Iy g1) Tryz.call20)<|kK vnt<|kR [1,2,3] zj ?_
 rcases brc h with ⟨hc,h⟩|⟨hc,h⟩
 ·refine cnf (ntf hc) ?_
  refine .sr<|kK (vfa BS)<|kK (Al AY)<|kB zj<|kR [1,2,8] zj ?_
  rcases brc h with ⟨hc,h⟩|⟨hc,h⟩
  ·refine cnt (dT hc) ?_
   refine .sr<|kK (vfa A5)<|kK (Al B2) ?_
   obtain ⟨x2,g2,h⟩:=bnd h
   obtain ⟨n2,p02,q2⟩:=Aq g2
   refine kK (vix n2 p02 (Dr q2) rfl Du)<|kK (Ap Ah Ad) ?_
   obtain ⟨x3,g3,h⟩:=bnd h
   refine vk (Ag (Ef (Jf Tryz.call24 (fun _ _ h=>Gu h)) g3) Tryz.call60) ?_
   refine stn ?_ Ad (by decide)
   refine rk [1,2]<|.ret ?_
   cases h
   exact ⟨_,⟨.inr rfl,Ah,Ad,p2⟩,rfl⟩
  refine cnf (dF hc) ?_;refine .sk ?_;refine .sr<|kK (Ap AE Am) ?_
  obtain ⟨x4,g4,h⟩:=bnd h
  refine vk (Ag (Gu g4) Tryz.call24) ?_
  obtain ⟨x5,g5,h⟩:=bnd h
  refine vk (Ag (HU g5) Tryz.call61) ?_
  refine stn ?_ Ad (by decide)
  refine rk [2]<|.ret ?_
  cases h
  exact ⟨_,⟨.inr rfl,Ah,Ad,p2⟩,rfl⟩
 refine cnt (ntt (bf hc)) ?_;refine .sr<|kK (vbd Dc AP AZ) ?_
 refine stn ?_ Ad (by decide)
 refine rk [1,2]<|.ret ?_
 cases h
 exact ⟨_,⟨.inr rfl,Ah,Ad,p2⟩,rfl⟩
def EA (a0:Arr) : Option (Int×Bool):=((Bx a0).bind fun x1=>(Option.bind ((if ((List.length x1:Nat) : Int)=1 then ((rd? x1 0).bind fun x3=>(some (!(decide (x3.kind=1))))) else (some true)) : Option (Bool)) fun (z2:Bool)=>(if z2=true then (some (0,false)) else ((rd? x1 0).bind fun x4=>((Hl x4.num).bind fun x5=>(some (x5.1,x5.2)))))))
theorem IG {a0:Arr} {r:Int×Bool} (h:EA a0=some r) :
  Fn Tryz.prog 14 [.ag [.sl (Is a0.shape),.sl (Its a0.items)]] (.tup [.d (.i .i64 r.1),.d (.b r.2)]):=by
 unfold EA at h
 refine Fn.of (rs:=[.tmp 2,.tmp 3]) (nt:=24) Tryz.func14 rfl rfl rfl (by simp) rfl ?_;refine .sr<|kK vbx<|kD zj<|kR [1,2,3] zj<|.sr<|kK (Ap Ah Ad) ?_
 obtain ⟨x1,g1,h⟩:=bnd h
 refine kK (Ag (DD g1) Tryz.call31)<|kR [2,3,4] zj<|.seq<|.seq ?_
 obtain ⟨z2,hz,h⟩:=bnd h
 refine AW.mr (σ:=Unit) (fun _=>True) (fun _=>[(2,.d (.i .i64 0)),(3,.d (.b false)),(4,.d (.sl (Its x1))),(16,.d (.b z2))]) (fun _=>[]) ?_ ?_
 ·skip
  refine .region<|kA zj<|kK (AX (Ai _) (Bg _) Ba)<|kB zj ?_
  rcases brc hz with ⟨hc,hz⟩|⟨hc,hz⟩
  ·have hb0:(!(decide (((List.length x1:Nat):Int)=1)))=false:=(ntf (dT hc))
   refine kC zj hb0<|kA zj ?_
   obtain ⟨x3,g3,hz⟩:=bnd hz
   obtain ⟨n3,p03,q3⟩:=Aq g3
   refine kK (vix n3 p03 (BC q3) rfl Bs)<|kK (vfa BS)<|kK (Al AY)<|kB zj<|kK Ao<|RL.gk [2,3,4,16]<|.nil ?_
   cases hz
   exact jr () trivial
  have hb0:(!(decide (((List.length x1:Nat):Int)=1)))=true:=(ntt (dF hc))
  refine kC zj hb0<|gf4 ?_;refine kG<|kK Ao<|RL.gk [2,3,4,16]<|.nil ?_
  cases hz
  exact jr () trivial
 rintro _ _
 rcases brc h with ⟨hc,h⟩|⟨hc,h⟩
 ·refine cnt hc ?_
  refine .sr<|kD zj<|kR [2,3,4] zj<|.ret ?_
  cases h
  exact ⟨by decide,rfl,rfl,rfl⟩
 refine cnf (bf hc) ?_;refine .sk ?_;refine .sr<|kA zj ?_
 obtain ⟨x4,g4,h⟩:=bnd h
 obtain ⟨n4,p04,q4⟩:=Aq g4
 refine kK (vix n4 p04 (BC q4) rfl Bs)<|kK (vfa BJ)<|kK (Ap AU AD) ?_
 obtain ⟨x5,g5,h⟩:=bnd h
 refine kK (VOK.tupd (vs:=[.i .i64 x5.1,.b x5.2]) (Ag (QO g5) Tryz.call59))<|kK vex<|kK vex<|kD zj<|kR [2,3] zj<|.ret ?_
 cases h
 exact ⟨by decide,rfl,rfl,rfl⟩
def chB (c:Int) : Bool:=decide (0≤c)&&(decide (c≤1114111)&&(decide (c<55296)||decide (57343<c)))
theorem Uy (c:Int) : FN c=some (chB c):=rfl
def Bd (a:Arr) : Bool:=a.shape.isEmpty&&match a.items with
 | [x]=>decide (x.kind≠3)
 | _=>false
theorem Lo (a:Arr) : CZ a=some (Bd a):=by
 unfold CZ Bd
 cases hs:a.shape with
 | nil =>
  rw [if_pos (by simp)]
  match hi:a.items with
  | []=>rw [if_neg (by simp)];rfl
  | [x]=>rw [if_pos (by simp),LQ];simp
  | x::y::r=>rw [if_neg (by simp;omega)];rfl
 | cons z zs=>rw [if_neg (by simp;omega)];rfl
mutual
def rI : Itm→Bool
 | .mk k n c b=>if k=1 then (BM n&&(decide (c=0)&&decide (b.length=0))) else if k=2 then (chB c&&(EI (.mk k n c b)&&decide (b.length=0))) else if k=3 then (decide (b.length=1)&&(EI (.mk k n c b)&&(decide (c=0)&&rBs b))) else false
def rA : Arr→Bool
 | .mk s i=>decide ((szP s).2=0)&&(decide ((i.length:Int)=if (szP s).1<1 then 1 else (szP s).1)&&rIs i)
def rIs : List Itm→Bool
 | []=>true
 | x::xs=>rI x&&rIs xs
def rBs : List Arr→Bool
 | []=>true
 | a::r=>(!Bd a&&rA a)&&rBs r
end
mutual
def cI : Itm→Nat
 | .mk _ _ _ b=>cBs b
def cA : Arr→Nat
 | .mk _ i=>i.length+cIs i
def cIs : List Itm→Nat
 | []=>0
 | x::xs=>cI x+cIs xs
def cBs : List Arr→Nat
 | []=>0
 | a::r=>cA a+cBs r
end
mutual
def dI : Itm→Nat
 | .mk _ _ _ b=>dBs b
def dA : Arr→Nat
 | .mk s i=>if Bd (.mk s i) then 0 else 1+dIs i
def dIs : List Itm→Nat
 | []=>0
 | x::xs=>max (dI x) (dIs xs)
def dBs : List Arr→Nat
 | []=>0
 | a::r=>max (dA a) (dBs r)
end
theorem UR (x:Itm) : rI x=if x.kind=1 then (BM x.num&&(decide (x.char=0)&&decide (x.box.length=0))) else if x.kind=2 then (chB x.char&&(EI x&&decide (x.box.length=0))) else if x.kind=3 then (decide (x.box.length=1)&&(EI x&&(decide (x.char=0)&&rBs x.box))) else false:=by
 cases x;simp only [rI];rfl
theorem Jo (a:Arr) : rA a=(decide ((szP a.shape).2=0)&&(decide ((a.items.length:Int)=if (szP a.shape).1<1 then 1 else (szP a.shape).1)&&rIs a.items)):=by cases a;simp only [rA];rfl
theorem Jr (a:Arr) : cA a=a.items.length+cIs a.items:=by cases a;simp only [cA];rfl
theorem OM (x:Itm) : cI x=cBs x.box:=by cases x;simp only [cI];rfl
theorem LD (a:Arr) : dA a=if Bd a then 0 else 1+dIs a.items:=by cases a;simp only [dA];rfl
theorem S0 (x:Itm) : dI x=dBs x.box:=by cases x;simp only [dI];rfl
def up (d deep n:Nat) : Nat:=if n=0 then d else max d (deep+n)
theorem Aas (d deep n m:Nat) : up (up d deep n) deep m=up d deep (max n m):=by unfold up;split<;>split<;>split<;>omega
theorem Aau {d deep n:Nat} (h:d≤16) (h2:deep+n≤16) : up d deep n≤16:=by unfold up;split<;>omega
def Ps (f:Int→Int→Int→Option M3) (r:Bool) (n dp:Nat) : Prop:=∀ deep c d : Nat,deep≤16→c≤16384→d≤16 →
 (r=true→deep+dp≤16→c+n≤16384→f deep c d=some (true,((c+n:Nat):Int),((up d deep dp:Nat):Int))) ∧
 (¬(r=true∧deep+dp≤16∧c+n≤16384)→∃ z,f deep c d=some (false,z))
theorem MM (x:Itm) : EI x=true↔x.num=(false,[],[]):=by
 unfold EI
 simp only [Bool.and_eq_true,Bool.not_eq_true',decide_eq_true_eq]
 constructor
 ·rintro ⟨h1,h2,h3⟩
  exact Prod.ext h1 (Prod.ext (List.length_eq_zero_iff.1 (by omega)) (List.length_eq_zero_iff.1 (by omega)))
 ·intro h;rw [h];simp
theorem OF {rc:Arr→Int→Int→Int→Option M3} {x:Itm} (hx:okI x) (hrc:∀ a∈x.box,Ps (rc a) (rA a) (cA a) (dA a)) : Ps (NR rc x) (rI x) (cI x) (dI x):=by
 have ox:=(Eb x).1 hx
 intro deep c d h1 h2 h3
 unfold NR
 rw [UR,OM,S0]
 have e0:(((x.box.length:Nat):Int)=0)↔x.box.length=0:=by omega
 have e1:(((x.box.length:Nat):Int)=1)↔x.box.length=1:=by omega
 by_cases k1:x.kind=1
 ·rw [if_pos k1,if_pos k1,IE ox.2.1,oB]
  simp only [e0]
  by_cases hb:x.box.length=0
  ·have:x.box=[]:=List.length_eq_zero_iff.1 hb
   rw [this]
   simp only [cBs,dBs,List.length_nil,decide_true,Bool.and_true,Nat.add_zero]
   refine ⟨fun hr _ _=>by rw [hr];rfl,fun hn=>?_⟩
   have:(BM x.num&&decide (x.char=0))=false:=by
    cases hq:(BM x.num&&decide (x.char=0)) with
    | false=>rfl
    | true=>exact absurd ⟨hq,h1,h2⟩ hn
   rw [this];exact ⟨_,rfl⟩
  ·simp only [hb,decide_false,Bool.and_false]
   exact ⟨fun h=>by simp at h,fun _=>⟨_,rfl⟩⟩
 rw [if_neg k1,if_neg k1]
 by_cases k2:x.kind=2
 ·rw [if_pos k2,if_pos k2,Uy,oB]
  simp only [e0]
  by_cases hb:x.box.length=0
  ·have:x.box=[]:=List.length_eq_zero_iff.1 hb
   rw [this]
   simp only [cBs,dBs,List.length_nil,decide_true,Bool.and_true,Nat.add_zero]
   refine ⟨fun hr _ _=>by rw [hr];rfl,fun hn=>?_⟩
   have:(chB x.char&&EI x)=false:=by
    cases hq:(chB x.char&&EI x) with
    | false=>rfl
    | true=>exact absurd ⟨hq,h1,h2⟩ hn
   rw [this];exact ⟨_,rfl⟩
  ·simp only [hb,decide_false,Bool.and_false]
   exact ⟨fun h=>by simp at h,fun _=>⟨_,rfl⟩⟩
 rw [if_neg k2,if_neg k2]
 by_cases k3:x.kind=3
 ·rw [if_pos k3,if_pos k3]
  simp only [e1]
  by_cases hb:x.box.length=1
  rotate_left
  ·rw [if_neg hb];simp only [hb,decide_false,Bool.false_and]
   exact ⟨fun h=>by simp at h,fun _=>⟨_,rfl⟩⟩
  rw [if_pos hb]
  by_cases hn:EI x=true
  rotate_left
  ·rw [if_neg hn];simp only [hn,hb,decide_true,Bool.true_and,Bool.false_and]
   exact ⟨fun h=>by simp at h,fun _=>⟨_,rfl⟩⟩
  rw [if_pos hn]
  by_cases hc:x.char=0
  rotate_left
  ·rw [if_neg hc];simp only [hn,hb,hc,decide_true,decide_false,Bool.true_and,Bool.false_and]
   exact ⟨fun h=>by simp at h,fun _=>⟨_,rfl⟩⟩
  rw [if_pos hc]
  obtain ⟨a,ha⟩:∃ a,x.box=[a]:=List.length_eq_one_iff.1 hb
  have hm:=hrc a (by rw [ha];simp)
  rw [ha,LQ,oB,Lo,oB]
  simp only [hn,hc,decide_true,Bool.true_and,rBs,cBs,dBs,Bool.and_true,Nat.add_zero,Nat.max_zero,List.length_cons,List.length_nil]
  by_cases hs:Bd a=true
  ·rw [if_pos hs];simp only [hs]
   exact ⟨fun h=>by simp at h,fun _=>⟨_,rfl⟩⟩
  rw [if_neg hs,oB]
  have hs':Bd a=false:=by simpa using hs
  simp only [hs',Bool.not_false,Bool.true_and]
  obtain ⟨m1,m2⟩:=hm deep c d h1 h2 h3
  refine ⟨fun hr g1 g2=>by rw [m1 hr g1 g2];rfl,fun hn=>?_⟩
  obtain ⟨z,hz⟩:=m2 hn
  exact ⟨z,by rw [hz];rfl⟩
 ·rw [if_neg k3,if_neg k3]
  exact ⟨fun h=>by simp at h,fun _=>⟨_,rfl⟩⟩
theorem M4 {rc:Arr→Int→Int→Int→Option M3} : ∀ {xs:List Itm},(∀ x∈xs,Ps (NR rc x) (rI x) (cI x) (dI x))→Ps (fun deep c d=>J2 rc deep xs c d) (rIs xs) (cIs xs) (dIs xs)
 | [],_=>fun deep c d h1 h2 h3=>by
  simp only [J2,rIs,cIs,dIs]
  exact ⟨fun _ _ _=>rfl,fun h=>absurd ⟨trivial,h1,h2⟩ h⟩
 | x::xs,hx=>fun deep c d h1 h2 h3=>by
  obtain ⟨m1,m2⟩:=hx x (by simp) deep c d h1 h2 h3
  have ih:=M4 (xs:=xs) fun y hy=>hx y (by simp [hy])
  simp only [J2,rIs,cIs,dIs]
  by_cases hc:rI x=true∧deep+dI x≤16∧c+cI x≤16384
  ·obtain ⟨p1,p2,p3⟩:=hc
   rw [m1 p1 p2 p3,oB,if_pos rfl,p1,Bool.true_and]
   obtain ⟨n1,n2⟩:=ih deep (c+cI x) (up d deep (dI x)) h1 p3 (Aau h3 p2)
   refine ⟨fun hr g1 g2=>?_,fun hn=>n2 fun ⟨q1,q2,q3⟩=>hn ⟨q1,by omega,by omega⟩⟩
   have:=n1 hr (by omega) (by omega)
   rw [Aas,Nat.add_assoc] at this
   exact this
  ·obtain ⟨z,hz⟩:=m2 hc
   rw [hz,oB,if_neg (by simp)]
   refine ⟨fun hr g1 g2=>absurd ⟨?_,by omega,by omega⟩ hc,fun _=>⟨_,rfl⟩⟩
   simp only [Bool.and_eq_true] at hr;exact hr.1
theorem Qf {a:Arr} (hs:Bd a=true) (hr:rIs a.items=true) : dIs a.items=0∧cIs a.items=0:=by
 unfold Bd at hs
 rw [Bool.and_eq_true] at hs
 match hi:a.items,hs.2 with
 | [x],h2 =>
  rw [hi] at hr
  simp only [rIs,Bool.and_true] at hr
  rw [UR] at hr
  have h3:x.kind≠3:=by simpa using h2
  have hb:x.box=[]:=by
   by_cases k1:x.kind=1
   ·rw [if_pos k1] at hr;simp only [Bool.and_eq_true,decide_eq_true_eq] at hr;exact List.length_eq_zero_iff.1 hr.2.2
   rw [if_neg k1] at hr
   by_cases k2:x.kind=2
   ·rw [if_pos k2] at hr;simp only [Bool.and_eq_true,decide_eq_true_eq] at hr;exact List.length_eq_zero_iff.1 hr.2.2
   rw [if_neg k2,if_neg h3] at hr;cases hr
  simp [dIs,cIs,S0,OM,hb,dBs,cBs]
theorem U3 {rc:Arr→Int→Int→Int→Option M3} {a:Arr} (ha:okAr a) (hx:∀ x∈a.items,Ps (NR rc x) (rI x) (cI x) (dI x)) : Ps (Vv rc a) (rA a) (cA a) (dA a):=by
 have oa:=(Ce a).1 ha
 intro deep c d h1 h2 h3
 have hl:=Pv a.shape
 unfold Vv
 rw [Ma oa.2.1,oB,Jo,Jr,LD]
 by_cases e1:(szP a.shape).2=0
 rotate_left
 ·rw [if_neg e1];simp only [e1,decide_false,Bool.false_and]
  exact ⟨fun h=>by simp at h,fun _=>⟨_,rfl⟩⟩
 rw [if_pos e1]
 by_cases e2:(a.items.length:Int)=if (szP a.shape).1<1 then 1 else (szP a.shape).1
 rotate_left
 ·rw [if_neg e2];simp only [e1,e2,decide_true,decide_false,Bool.true_and,Bool.false_and]
  exact ⟨fun h=>by simp at h,fun _=>⟨_,rfl⟩⟩
 rw [if_pos e2]
 have hlen:a.items.length≤4096:=by
  split at e2<;>omega
 simp only [e1,decide_true,Bool.true_and]
 rw [dT e2,Bool.true_and]
 have hw:w64 ((c:Int)+((a.items.length:Nat):Int))=((c+a.items.length:Nat):Int):=by rw [EH (by omega) (by omega)];omega
 rw [hw]
 by_cases e3:(16384:Int)<((c+a.items.length:Nat):Int)
 ·rw [if_pos e3]
  exact ⟨fun _ _ _=>by omega,fun _=>⟨_,rfl⟩⟩
 rw [if_neg e3,Lo,oB]
 have hi:=M4 hx
 by_cases hs:Bd a=true
 ·simp only [if_pos hs]
  rw [if_pos (show (deep:Int)≤16 by omega)]
  obtain ⟨m1,m2⟩:=hi deep (c+a.items.length) d h1 (by omega) h3
  refine ⟨fun hr g1 g2=>?_,fun hn=>m2 fun ⟨q1,q2,q3⟩=>hn ⟨q1,by omega,by omega⟩⟩
  obtain ⟨s1,s2⟩:=Qf hs hr
  have:=m1 hr (by omega) (by omega)
  rw [s1,Nat.add_assoc] at this
  exact this
 simp only [if_neg hs]
 have hw2:w64 ((deep:Int)+1)=((deep+1:Nat):Int):=by rw [EH (by omega) (by omega)];omega
 rw [hw2]
 have hmx:(if (d:Int)<((deep+1:Nat):Int) then ((deep+1:Nat):Int) else (d:Int))=((max d (deep+1):Nat):Int):=by split<;>omega
 rw [hmx]
 by_cases e4:((deep+1:Nat):Int)≤16
 rotate_left
 ·rw [if_neg e4]
  exact ⟨fun _ _ _=>by omega,fun _=>⟨_,rfl⟩⟩
 rw [if_pos e4]
 obtain ⟨m1,m2⟩:=hi (deep+1) (c+a.items.length) (max d (deep+1)) (by omega) (by omega) (by omega)
 refine ⟨fun hr g1 g2=>?_,fun hn=>m2 fun ⟨q1,q2,q3⟩=>hn ⟨q1,by omega,by omega⟩⟩
 have:=m1 hr (by omega) (by omega)
 have hup:up (max d (deep+1)) (deep+1) (dIs a.items)=up d deep (1+dIs a.items):=by unfold up;split<;>split<;>omega
 rw [hup,Nat.add_assoc] at this
 exact this
theorem Nh : ∀ (k:Nat) {a:Arr},a.size<k→okAr a→Ps (ME k a) (rA a) (cA a) (dA a)
 | 0,a,h,_=>by omega
 | k+1,a,h,ha=>by
  have oa:=(Ce a).1 ha
  have:=U3 (rc:=ME k) ha fun x hx=>OF (oa.2.2.2 x hx) fun b hb=>Nh k (by have:=FI hx;have:=EO hb;omega) (((Eb x).1 (oa.2.2.2 x hx)).2.2.2.2 b hb)
  intro deep c d h1 h2 h3
  simp only [ME]
  rw [if_pos (by omega)]
  exact this deep c d h1 h2 h3
theorem Qt {a:Arr} (ha:okAr a) : Ps (mAr a) (rA a) (cA a) (dA a):=Nh _ (Nat.lt_succ_self _) ha
theorem Vh {x:Itm} (hx:okI x) : Ps (mIt x) (rI x) (cI x) (dI x):=OF hx fun a ha=>Qt (((Eb x).1 hx).2.2.2.2 a ha)
def BL (a:Arr) : Prop:=rA a=true∧dA a≤16∧cA a≤16384
def BZ (x:Itm) : Prop:=rI x=true∧dI x≤16∧cI x≤16384
instance (a:Arr) : Decidable (BL a):=by unfold BL;infer_instance
instance (x:Itm) : Decidable (BZ x):=by unfold BZ;infer_instance
theorem Lz {a:Arr} (ha:okAr a) : EW a=some (if BL a then (((cA a:Nat) : Int),((dA a:Nat) : Int)) else (0,0),decide (BL a)):=by
 obtain ⟨m1,m2⟩:=Qt ha 0 0 0 (by omega) (by omega) (by omega)
 unfold EW
 by_cases h:BL a
 ·have:=m1 h.1 (by have:=h.2.1;omega) (by have:=h.2.2;omega)
  rw [show ((0:Nat):Int)=0 from rfl] at this
  rw [this,if_pos h,dT h]
  have hu:up 0 0 (dA a)=dA a:=by unfold up;split<;>omega
  simp [hu]
 ·obtain ⟨z,hz⟩:=m2 fun ⟨q1,q2,q3⟩=>h ⟨q1,by omega,by omega⟩
  rw [show ((0:Nat):Int)=0 from rfl] at hz
  rw [hz,if_neg h,dF h];rfl
theorem Ip {a:Arr} (ha:okAr a) : Bw a=some (decide (BL a)):=by unfold Bw;rw [Lz ha,oB]
theorem Vq {a:Arr} (ha:okAr a) : Fo a=some (if BL a then ((cA a:Nat) : Int) else 0):=by
 unfold Fo;rw [Lz ha,oB];split<;>rfl
theorem JZ {x:Itm} (hx:okI x) : Ev x=some (decide (BZ x)):=by
 obtain ⟨m1,m2⟩:=Vh hx 0 0 0 (by omega) (by omega) (by omega)
 unfold Ev
 by_cases h:BZ x
 ·have:=m1 h.1 (by have:=h.2.1;omega) (by have:=h.2.2;omega)
  rw [show ((0:Nat):Int)=0 from rfl] at this
  rw [this,dT h];rfl
 ·obtain ⟨z,hz⟩:=m2 fun ⟨q1,q2,q3⟩=>h ⟨q1,by omega,by omega⟩
  rw [show ((0:Nat):Int)=0 from rfl] at hz
  rw [hz,dF h];rfl
theorem Oo {a b:List Nat} (ha:okL 1048576 a=true) (hb:okL 35184372087808 b=true) : Fa a b=some (decide (a=b)):=if_pos (by rw [ha,hb];rfl)
theorem Xy {p:Rat} (hp:KS p) : Hg (ofQ p)=some (decide (p.den=1)):=by
 unfold Hg
 rw [IE (Ii hp),I9 hp,oB,if_pos rfl,N2,oB]
 rw [show Fa (ofQ p).2.2 [1]=some (decide (Af p.den=[1])) from Oo (Nx hp.2 (by decide)) (by rfl),oB,oB]
 congr 1
 exact decide_eq_decide.2 Kj
end Go.FL
namespace Go.FL
open Go Go.RowKit
section
variable {P:Program} {C:Cx} {X:Snap} {o:Oper} {ops:Array Oper} {Q:Exit→Env→Ab→Prop} {env env':Env} {H H':Ab} {a:Act} {w w':World} {I I':Nat→Prop} {μ μ':List Nat} {O O':Nat→Option Loc}
 {K:Env→Ab→Prop} {k:Nat} {l:List Oper}
theorem XW {blk:Nat} {u0 u1 v0 v1:Value} {e:TypeId} (h:w.heap[blk]?=some (.cells #[u0,u1] e (0,0))) : w.setRow blk #[v0,v1]=(w.setCell ⟨blk,0,none⟩ v0).setCell ⟨blk,1,none⟩ v1:=by
 obtain ⟨hlt,hv⟩:=Array.getElem?_eq_some_iff.1 h
 have e1:w.heap.modify blk (fun|.cells _ elem frozen=>.cells #[v0,v1] elem frozen|o=>o)=(w.heap.modify blk (fun|.cells c elem frozen=>.cells (c.setIfInBounds 0 v0) elem frozen|o=>o)).modify blk (fun|.cells c elem frozen=>.cells (c.setIfInBounds 1 v1) elem frozen|o=>o):=by
  apply Array.ext
  ·simp
  ·intro i h1 h2
   simp only [Array.getElem_modify]
   by_cases hi:blk=i
   ·subst hi;simp only [if_true,hv];simp
   ·simp only [if_neg hi]
 unfold World.setRow World.setCell
 simp only [Option.isSome_none,Bool.false_eq_true,if_false]
 exact congrArg (fun x=>({w with heap:=x}:World)) e1
theorem bdo {ty s t e:Nat} {parts:Array (Nat×Operand)} {places:List (Nat×Nat)} {z:Value} {xs:List DV} (hp:CR P ty=some places) (hz:(P.info? ty).bind (·.zero)=some z) (hzr:z=.agg #[.slice none 0 0,.slice none 0 0]) (h:RL P C ops Q (k+1) l ((t,.ag [.own e xs,.nl])::(s,.un)::env) H)
  (hpl:places=[(0,1),(1,1)]:=by rfl) (hg:grd ops env o true=true:=by rfl) (ho:o.op=.build ty parts:=by rfl) (hpa:parts=#[(0,.tmp s)]:=by rfl) (hv:get env s=.own e xs:=by rfl) (hd:o.dst=some t:=by rfl)
  (hf:Aj (get env t)=false:=by rfl) (hr:CY s env=false:=by rfl) (ht:okT C.nt t:=by rfl):RL P C ops Q k (o::l) env H:=by
 have hst:=EX hv hf
 subst hpl hzr
 refine .go hg (.val (t:=t) (av:=.ag [.own e xs,.nl]) (env':=put env s .un) (H':=H) (by simp [ho]) hd ht (fun X a w I μ O _ _ _ hs=>?_) ?_)
 ·obtain ⟨k1,bs,k2,k3,k4⟩:=hs.take s (by rw [hv];rfl)
  rw [hv] at k2
  have hb:P.built ty [(0,a.tmps.getD s undef)]=some #[a.tmps.getD s undef,.slice none 0 0]:=by
   unfold CR at hp
   unfold Program.built
   cases hi:P.info? ty with
   | none=>rw [hi] at hz;cases hz
   | some it =>
    rw [hi] at hz
    simp only [oB] at hz
    split at hp
    ·rename_i fields hu
     simp only [hu,hz,hp]
     have hone:∃ A n c,a.tmps.getD s undef=.slice A n c:=by
      generalize a.tmps.getD s undef=u at k2
      cases k2 with
      | own _ _ _ vs hsz ho' hr' =>
       rcases ho' with ⟨A,h1,_⟩|⟨_,g,cap,h1,_⟩<;>exact ⟨_,_,_,h1⟩
     obtain ⟨A,n,c,hu3⟩:=hone
     rw [hu3]
     simp [Instr.fill,Value.cells]
    ·cases hp
  refine ⟨.agg #[a.tmps.getD s undef,.slice none 0 0],w,I,μ,_,?_,k1,bs,?_,k3,k4⟩
  ·simp only [execOp,ho,hpa,Sem.run_bind]
   have:=run_build (P:=P) w ty #[(0,a.tmps.getD s undef)] #[a.tmps.getD s undef,.slice none 0 0] (by simpa using hb)
   simp only [List.map_toArray,List.map_cons,List.map_nil,Act.eval]
   rw [this]
   simp only [Result.andThen_ok,Sem.run_pure]
  ·have:=ARep.ag (ARepAll.cons k2 (ARepAll.cons (.nl (P:=P) (w:=w) (I:=I) (μ:=μ)) .nil))
   simpa using this
 ·refine RL.gh (Gh.same fun q=>?_) h
  have h1:Aj (get (put env s .un) t)=false:=by rw [Cw hr];simp [get,hst,hf]
  rw [Ak h1]
  simp only [get]
  split
  ·rfl
  ·rw [Cw hr];rfl
theorem st2 {x:Operand} {r ty id:Nat} {c0 c1 a0 a1:AV} (hH:H[id]?=some (.box [c0,c1])) (h:RL P C ops Q (k+1) l ((r,.un)::env) (H.set id (.box [a0,a1]))) (hsz:Av P ty=2) (hg:grd ops env o true=true:=by rfl)
  (ho:o.op=.store ty x (.tmp r):=by rfl) (hv:lk env x=.bp id 0:=by rfl) (hy:get env r=.ag [a0,a1]:=by rfl) (n0:Aj c0=false:=by rfl) (n1:Aj c1=false:=by rfl) (m0:one a0=true:=by rfl) (m1:one a1=true:=by rfl) (hd:o.dst=none:=by rfl) (h0:C.n0=0:=by rfl):RL P C ops Q k (o::l) env H:=by
 obtain ⟨h1,h2⟩:=Ar hv (by simp)
 have hlt:id<H.length:=(lS.1 hH).1
 refine .go hg (.done (env':=put env r .un) (H':=H.set id (.box [a0,a1])) (by simp [ho]) hd (fun X a w I μ O _ g2 _ hs=>?_) ?_)
 ·obtain ⟨blk,hm,he⟩:=hs.bp h1 h2
  obtain ⟨k1,bs,k2,k3,k4⟩:=hs.take r (by rw [hy];rfl)
  rw [hy] at k2
  generalize hev:a.tmps.getD r undef=u at k2
  cases k2 with
  | @ag _ vs _ k2 =>
   cases k2 with
   | @cons _ v0 _ _ b0 b1' q0 k2 =>
    cases k2 with
    | @cons _ v1 _ _ b1 b2 q1 k2 =>
     cases k2
     rw [List.append_nil] at k3 k4
     obtain ⟨d0,d1,d2⟩:=List.nodup_append.1 k3
     obtain ⟨s1,⟨y1,w1⟩,f1⟩:=k1.storeC (off:=0) hH rfl hm (by omega) q0 d0 fun b hb=>k4 b (by simp [hb])
     rw [n0] at s1
     have e1:Da H id 0 a0=H.set id (.box [a0,c1]):=by simp [Da,hH]
     rw [e1] at s1
     have hH1:(H.set id (.box [a0,c1]))[id]?=some (.box [a0,c1]):=List.getElem?_set_self hlt
     have q1':ARep P (w.setCell ⟨blk,0,none⟩ v0) I μ a1 v1 b1:=by
      obtain ⟨blk',bs',g1,⟨cells,et,g3,g4⟩,g5,_⟩:=k1.heap id _ hH
      rw [hm] at g1;cases g1
      have hOb:=(g5 (by omega)).2 blk (by simp)
      refine q1.keep (fun _ h=>h) (fun b hi=>heap_setCell_other w _ b v0 fun e=>?_) (fun _ _ h=>h) fun b hb=>heap_setCell_other w _ b v0 fun e=>?_
      ·have e':b=blk:=e
       subst e';exact (k1.own _ _ hOb).2 hi
      ·have e':b=blk:=e
       subst e'
       have h7:(O b).map (toR r)=some .r:=k4 b (by simp [hb])
       have h8:(O b).map (toR r)=some (.o id):=hOb
       rw [h7] at h8;cases h8
     obtain ⟨s2,⟨y2,w2⟩,f2⟩:=s1.storeC (off:=1) hH1 rfl hm (by omega) q1' d1 fun b hb=>by
      show (if b∈b0 then _ else _)=_
      rw [if_neg fun hm=>d2 b hm b hb rfl];exact k4 b (by simp [hb])
     rw [n1] at s2
     have e2:Da (H.set id (.box [a0,c1])) id 1 a1=H.set id (.box [a0,a1]):=by simp [Da,hH1]
     rw [e2] at s2
     refine ⟨_,I,μ,_,?_,s2⟩
     obtain ⟨blk',bs',g1,⟨cells,et,g3,g4⟩,g5,_⟩:=k1.heap id _ hH
     rw [hm] at g1;cases g1
     have hcl:cells.toList.length=2:=g4.length.symm
     obtain ⟨u0,u1,hcc⟩:∃ u0 u1,cells=#[u0,u1]:=by
      obtain ⟨l⟩:=cells
      match l,hcl with
      | [x,y],_=>exact ⟨x,y,rfl⟩
     rw [hcc] at g3
     have hone0:=HQ q0 m0
     have hone1:=HQ q1 m1
     obtain ⟨i,i1,i2⟩:=GX (P:=P) (t:=ty) (by omega)
     have hsi:(P.info? ty).map (·.size)=some (#[v0,v1]:Array Value).size:=by rw [i1];simp;omega
     have hrun:=run_storeVar_row (P:=P) w blk et ty #[u0,u1] #[v0,v1] g3 hsi rfl (by simp [hone0,hone1])
     have hevr:a.eval (.tmp r)=.agg #[v0,v1]:=by show a.tmps.getD r undef=_;rw [hev]
     simp only [execOp,ho,he,hevr,Instr.storeAt,Instr.sureAddr,Sem.run_bind,Sem.run_pure,Result.andThen_ok,hrun]
     rw [XW g3]
 ·refine RL.gh (Gh.same fun q=>?_) h
  rw [Ak (by rw [hy];rfl)]
section
variable {nt:Nat×Nat} {J:JT} {ags:List Value} {QJ:Exit→Env→Ab→Nat→Prop} {n:Nat}
end
end
end Go.FL
namespace Go.FL
open Go Go.Proofs
section
variable {S:Type}
def Vj (step:Itm→S→Option (Bool×S)) : List Itm→S→Option (Bool×S)
 | [],s=>some (true,s)
 | x::xs,s=>(step x s).bind fun r=>if r.1=true then Vj step xs r.2 else some (false,r.2)
end
def Aat {S:Type} (step:Itm→S→Option (Bool×S)) (a:Arr) (s:S) : Option (Bool×S) :=
 (Bw a).bind fun x1=>if x1=true then (if ((List.length a.shape:Nat):Int)≤1 then (Bx a).bind fun l=>if l.length≤9223372036854775806 then Vj step l s else none else some (false,s)) else some (false,s)
def Pg (x:Itm) (s:List Int) : Option (Bool×List Int):=(Hl x.num).bind fun y=>(ap? 17592186044416 s [y.1]).bind fun o=>some (y.2&&decide (x.kind=1),o)
def Nd (a:Arr) : Option (List Int×Bool):=(Aat Pg a []).map fun r=>if r.1=true then (r.2,true) else ([],false)
def R6 (x:Itm) : DV:=.ag [.i .u8 x.kind,.b x.num.1,.sl (L x.num.2.1),.sl (L x.num.2.2),.i .i32 x.char,.sl (Ars x.box)]
def Iw : List Int→Option (List Itm)
 | []=>some []
 | n::ns=>(DG n).bind fun q=>(Co q).bind fun x=>(Iw ns).bind fun xs=>some (x::xs)
theorem Q6 : ∀ {l:List Int} {xs:List Itm},Iw l=some xs→xs.length=l.length∧∀ (i:Nat) n,l[i]?=some n→∃ q x,DG n=some q∧Co q=some x∧xs[i]?=some x:=by
 intro l
 induction l with
 | nil=>intro xs h;cases h;exact ⟨rfl,fun i n hn=>by simp at hn⟩
 | cons m ns ih =>
  intro xs h
  rw [Iw] at h
  obtain ⟨q,hq,h⟩:=bnd h
  obtain ⟨x,hx,h⟩:=bnd h
  obtain ⟨ys,hy,h⟩:=bnd h
  cases h
  obtain ⟨h1,h2⟩:=ih hy
  refine ⟨by simp [h1],fun i n hn=>?_⟩
  cases i with
  | zero=>simp at hn;subst hn;exact ⟨q,x,hq,hx,rfl⟩
  | succ i=>simpa using h2 i n (by simpa using hn)
def itY (xs:List Itm) : List (List DV):=xs.map fun x=>[R6 x]
theorem ZC {xs:List Itm} {i:Nat} {x:Itm} (h:xs[i]?=some x) : (itY xs)[i]?=some [R6 x]:=by simp [itY,h]
set_option maxRecDepth 10000 in
theorem UO {l:List Int} {xs:List Itm} (h:Iw l=some xs) (hl:l.length≤9223372036854775806) (m:Nat) : ItG Tryz.prog 74 [.ptr [.sl (Is l)]] (itY xs) m:=by
 obtain ⟨hlen,hat⟩:=Q6 h
 have hyl:(itY xs).length=l.length:=by simp [itY,hlen]
 refine ItG.of Tryz.func74 rfl rfl (nt:=18) rfl (by simp) fun lp J hJ hR=>?_;refine .seq<|.lift ?_;refine .region<|kK (Al Cy)<|kK (AX (Az _) (C7 _) CQ)<|kK (Ac)<|.nil ?_
 show AWJ _ _ _ _ _ _ _ _ _
 refine .block<|ALJ.loop ?_;refine ALJ.gh (Gh.keep [0,5,6,7] rfl) ?_
 refine ALJ.ind (σ:=Nat) (m:=fun i=>l.length-i) (e:=fun i=>[(0,.d (.yl lp)),(5,.d (.sl (Is l))),(6,.d (.i .i64 ((List.length l:Nat):Int))),(7,.d (.i .i64 ((i:Nat):Int)))]) (h:=fun _=>[]) (r:=fun i=>i) (I:=fun i=>i≤l.length∧i≤m) ?_ 0 ⟨Nat.zero_le _,Nat.zero_le _⟩
 rintro i ⟨hi,him⟩ ih
 refine .seq<|.lift ?_;refine .region<|kK (vbi)<|.nil ?_
 show AWJ _ _ _ _ _ _ _ _ _
 refine .seq ?_
 by_cases hc:((i:Nat):Int)<((List.length l:Nat):Int)
 ·refine .cond (x:=true) (by show AV.d (.b (decide _))=_;rw [dT hc]) (fun _=>?_) (fun h=>by cases h)
  have hlt:i<l.length:=by omega
  obtain ⟨q,x,hq,hx,hxi⟩:=hat i _ (lG hlt)
  refine .skip ?_
  show AWJ _ _ _ _ _ _ _ _ _
  refine .seq<|.block<|.seq<|.lift ?_;refine .region<|kK (vix i rfl (Ep (lG hlt)) rfl Dw)<|kK (Al Bh)<|kD zj<|.nil ?_
  show AWJ _ _ _ _ _ _ _ _ _
  refine .seq<|.region<|vkJ (Ac) ?_;refine vkJ (Ac) ?_;refine vkJ (Ag (DI hq) Tryz.call69) ?_;refine vkJ (Ag (Ec hx) Tryz.call68) ?_;refine yld (hR i [R6 x] (ZC hxi) him) hJ ?_;refine vkJ (vnt) ?_;refine .nil ?_
  show AWJ _ _ _ _ _ _ _ _ _
  by_cases hm:i<m
  ·refine .cond (x:=false) (by show AV.d (.b (!decide _))=_;rw [dT hm];rfl) (fun h=>by cases h) (fun _=>?_)
   refine .skip ?_
   show AWJ _ _ _ _ _ _ _ _ _
   refine .lift ?_;refine .region<|kK (vbi)<|kK (Ac)<|.nil ?_
   show ALJ _ _ _ _ _ _ _ _ _
   have hw:IntKind.wrap .i64 ((i:Int)+1)=((i+1:Nat):Int):=by simp only [IntKind.wrap,IntKind.bits,IntKind.signed];simp;omega
   rw [hw]
   refine ALJ.gh (Gh.keep [0,5,6,7] rfl) ?_
   exact ih (i+1) ⟨hlt,hm⟩ (by omega)
  ·refine .cond (x:=true) (by show AV.d (.b (!decide _))=_;rw [dF hm];rfl) (fun _=>?_) (fun h=>by cases h)
   refine .ret ?_
   exact ⟨.inr rfl,by rw [hyl];omega⟩
 ·refine .cond (x:=false) (by show AV.d (.b (decide _))=_;rw [dF hc]) (fun h=>by cases h) (fun _=>?_)
  refine .exit ?_
  exact ⟨.inl rfl,by rw [hyl];omega⟩
def Mt (proto:Itm) (xs:List Itm) : Arr:=.mk [((min xs.length 4096:Nat) : Int)] (if xs.length=0 then [proto] else xs.take 4096)
abbrev Abe (xs:List Itm) (n:Nat) : Ab:=[.box [.own 3 (Is [((n:Nat) : Int)]),.own 44 (Its (xs.take n))]]
theorem Xo : 0<Av Tryz.prog 44:=by rw [Lm];decide
set_option maxRecDepth 10000 in
set_option maxHeartbeats 4000000 in
theorem TZ {proto:Itm} {xs:List Itm} {f:FuncId} {caps:List DV} (hcall:∀ args w,(callFunc f args).run Tryz.prog w=.ok (.enter f args) w) (hit:ItG Tryz.prog f caps (itY xs) 4096) :
  Fn Tryz.prog 73 [R6 proto,.fn f [] caps] (.d (.ag [.sl (Is (Mt proto xs).shape),.sl (Its (Mt proto xs).items)])):=by
 refine Fn.ofMA (rs:=[.cell 4 25]) (nt:=37) Tryz.func73 rfl rfl rfl (by simp) rfl ?_;refine .seqA ?_;refine .region<|kK (vbx (cs:=[.i .u8 proto.kind,.b proto.num.1,.sl (L proto.num.2.1),.sl (L proto.num.2.2),.i .i32 proto.char,.sl (Ars proto.box)]))<|kK (van (Ae AP) AZ)<|.nil ?_
 show AWM _ _ _ _ _ _
 refine .seqA ?_;refine .region<|kK (Gs (ds':=Is [0]) rfl (Fc [0]) Gt)<|bdo Dc AP rfl ?_
 refine al ?_ (Ae AP) (fun w I μ=>Mj w I μ)
 refine st2 (c0:=.nl) (c1:=.nl) rfl ?_ Ad
 refine .nil ?_
 show AWM _ _ _ _ _ _
 refine .gh (Gh.keep [1,2,4,5] rfl)<|.gh (Gh.nlOwnC (id:=0) (off:=1) 44 Xo)<|.seq rfl<|.seqA ?_;refine .region<|kK (Ac)<|.nil ?_
 show AWM _ _ _ _ _ _
 refine .block ?_
 refine AWM.rangeFuncG (ps:=[10]) (f:=f) (caps:=caps) (ys:=itY xs) (m:=4096) (e1:=.exit 0) rfl rfl rfl hcall hit (fun ds hd=>?_) (fun p hp=>?_) rfl (fun k H=>H=Abe xs (min k 4096)) rfl (.inl ⟨0,rfl⟩) (fun l k ds H hk hkm hH=>?_) (fun H hH=>?_)
 ·simp only [itY,List.mem_map] at hd
  obtain ⟨x,_,rfl⟩:=hd;rfl
 ·simp only [List.mem_cons,List.not_mem_nil,or_false] at hp;subst hp;rfl
 ·subst hH
  simp only [itY,List.getElem?_map,Option.map_eq_some_iff] at hk
  obtain ⟨x,hx,rfl⟩:=hk
  rw [Nat.min_eq_left hkm]
  refine .region<|kK (van (Ae Cd) Cf) ?_
  refine stn ?_ Am (by decide)
  refine .nil ?_;refine aw<|.block<|.seq<|.seq<|.region<|kK (Gw A6) ?_
  refine Pk (cs:=[.own 3 (Is [((k:Nat):Int)]),.own 44 (Its (xs.take k))]) rfl rfl ?_ Cy
  refine ixr (len:=1) (xs:=Is [((k:Nat):Int)]) 0 rfl (by decide) ?_ Dw (by decide)
  refine lde (xs:=Is [((k:Nat):Int)]) (.i .i64 ((k:Nat):Int)) ⟨_,rfl,rfl⟩ ?_ Bh
  refine kK (vbi)<|rn ?_
  by_cases hm:((k:Nat):Int)=4096
  ·refine cnt (dT hm) ?_
   refine .exit ?_
   have hk4:k=4096:=by omega
   subst hk4
   exact ⟨rfl,rfl⟩
  refine cnf (dF hm) ?_
  have hlt:k<4096:=by omega
  have hkl:k<xs.length:=(lS.1 hx).1
  refine .skip<|aw<|.gh (Gh.keep [5,6] rfl)<|.seq<|.region<|kK (Gw AM) ?_
  refine Pk (cs:=[.own 3 (Is [((k:Nat):Int)]),.own 44 (Its (xs.take k))]) rfl rfl ?_ Bl
  refine kK (Dv AE Am)<|kK (Gs (FO x) (ER [x]) DF) ?_
  have hap:ap? 1466015503701 (xs.take k) [x]=some (xs.take (k+1)):=by
   rw [ap?,if_pos (by simp;omega),List.take_add_one,hx];rfl
  refine UK Ja hap rfl rfl KV ?_ Hy Ai DF
  refine RL.gh (Gh.keep [5,6,20] rfl)<|kK (Gw AM) ?_
  refine O0 (cs:=[.own 3 (Is [((k:Nat):Int)]),.un]) (c:=.un) rfl rfl ?_ II
  refine rn<|.gh (Gh.keep [5] rfl)<|.region<|kK (Gw A6) ?_
  refine Pk (cs:=[.own 3 (Is [((k:Nat):Int)]),.own 44 (Its (xs.take (k+1)))]) rfl rfl ?_ Cy
  refine ixr (len:=1) (xs:=Is [((k:Nat):Int)]) 0 rfl (by decide) ?_ Dw (by decide)
  refine lde (xs:=Is [((k:Nat):Int)]) (.i .i64 ((k:Nat):Int)) ⟨_,rfl,rfl⟩ ?_ Bh
  refine vk (vbi) ?_
  refine ixr (len:=1) (xs:=Is [((k:Nat):Int)]) 0 rfl (by decide) ?_ Dw (by decide)
  refine ste (xs:=Is [((k:Nat):Int)]) ⟨_,rfl,rfl⟩ ?_ GS (hn:=fun _ _ _=>Nat.zero_le _)
  refine .nil ?_
  have hw:IntKind.wrap .i64 ((k:Int)+1)=((k+1:Nat):Int):=by simp only [IntKind.wrap,IntKind.bits,IntKind.signed];simp;omega
  refine ⟨by rw [if_pos hlt],?_⟩
  rw [Nat.min_eq_left (by omega:k+1≤4096)]
  show [HO.box [AV.own _ [.i .i64 (IntKind.wrap .i64 ((k:Int)+1))],_]]=_
  rw [hw];rfl
 ·have hlen:(itY xs).length=xs.length:=by simp [itY]
  rw [hlen] at hH ⊢
  have hn:min (min (4096+1) xs.length) 4096=min xs.length 4096:=by omega
  rw [hn] at hH
  subst hH
  by_cases hb:4096<xs.length
  case' pos=>rw [if_pos hb]
  case' neg=>rw [if_neg hb]
  all_goals
   show AWM _ _ _ _ _ _
   refine .lift ?_;refine .gh (Gh.keep [2,4,5] rfl)<|.seq<|.seq<|.region<|kK (Gw A6) ?_
   refine Pk (cs:=[.own 3 (Is [((min xs.length 4096:Nat):Int)]),.own 44 (Its (xs.take (min xs.length 4096)))]) rfl rfl ?_ Cy
   refine ixr (len:=1) (xs:=Is [((min xs.length 4096:Nat):Int)]) 0 rfl (by decide) ?_ Dw (by decide)
   refine lde (xs:=Is [((min xs.length 4096:Nat):Int)]) (.i .i64 ((min xs.length 4096:Nat):Int)) ⟨_,rfl,rfl⟩ ?_ Bh
   refine kK (vbi)<|rn<|.gh (Gh.keep [2,4,5,32] rfl) ?_
   by_cases h0:((min xs.length 4096:Nat):Int)=0
   ·have hx0:xs.length=0:=by omega
    refine cnt (dT h0) ?_;refine .region<|kK (Ap AE Am)<|kK (Gs (FO proto) (ER [proto]) DF)<|kK (Gw AM) ?_
    refine O0 (cs:=[.own 3 (Is [((min xs.length 4096:Nat):Int)]),.own 44 (Its (xs.take (min xs.length 4096)))]) (c:=.own 44 (Its (xs.take (min xs.length 4096)))) rfl rfl ?_ II
    refine .nil ?_;refine aw<|.gh (Gh.keep [4,5] rfl)<|.seq<|.region<|fz (p:=.c 0 0) ?_;refine fz (p:=.c 0 1) ?_;refine kK (Kn (cs:=[.d (.sl (Is [((min xs.length 4096:Nat):Int)])),.d (.sl (Its [proto]))]) (ds:=[.sl (Is [((min xs.length 4096:Nat):Int)]),.sl (Its [proto])]) rfl Ah Ad) ?_
    refine stn ?_ Ad (by decide)
    refine rn<|.ret ?_
    exact ⟨.inr rfl,.inl ⟨_,⟨.inr rfl,Ah,Ad,(by decide:(0:Nat)<2)⟩,by simp only [Mt,if_pos hx0];rfl⟩⟩
   ·have hx0:¬xs.length=0:=by omega
    refine cnf (dF h0) ?_;refine .skip<|aw<|.gh (Gh.keep [4,5] rfl)<|.seq<|.region<|fz (p:=.c 0 0) ?_;refine fz (p:=.c 0 1) ?_;refine kK (Kn (cs:=[.d (.sl (Is [((min xs.length 4096:Nat):Int)])),.d (.sl (Its (xs.take (min xs.length 4096))))]) (ds:=[.sl (Is [((min xs.length 4096:Nat):Int)]),.sl (Its (xs.take (min xs.length 4096)))]) rfl Ah Ad) ?_
    refine stn ?_ Ad (by decide)
    refine rn<|.ret ?_
    have ht:xs.take (min xs.length 4096)=xs.take 4096:=by
     rcases Nat.le_total xs.length 4096 with h|h
     ·rw [Nat.min_eq_left h,List.take_of_length_le (Nat.le_refl _),List.take_of_length_le h]
     ·rw [Nat.min_eq_right h]
    exact ⟨.inr rfl,.inl ⟨_,⟨.inr rfl,Ah,Ad,(by decide:(0:Nat)<2)⟩,by simp only [Mt,if_neg hx0,ht];rfl⟩⟩
def KP (l:List Int) : Option Arr:=if l.length≤9223372036854775806 then (Iw l).bind fun xs=>(DG 0).bind fun q=>(Co q).bind fun p=>some (Mt p xs) else none
theorem G4 {l:List Int} {r:Arr} (h:KP l=some r) : Fn Tryz.prog 26 [.sl (Is l)] (.d (.ag [.sl (Is r.shape),.sl (Its r.items)])):=by
 obtain ⟨hl,h⟩:=D1 h
 obtain ⟨xs,hxs,h⟩:=bnd h
 obtain ⟨q,hq,h⟩:=bnd h
 obtain ⟨p,hp,h⟩:=bnd h
 cases h
 refine Fn.ofC (rs:=[.cell 2 25]) (nt:=7) Tryz.func26 rfl rfl rfl (by simp) rfl ?_;refine .sr<|kK (Zm)<|kK (van (Ae AP) AZ)<|rn<|.sr<|kK (Ag (DI hq) Tryz.call69)<|kK (Ag (Ec hp) Tryz.call68)<|kK (X0)<|kK (Ag (TZ (proto:=p) Tryz.call74 (UO hxs hl 4096)) Tryz.call73) ?_
 refine stn ?_ Ad (by decide)
 refine rn<|.ret ?_
 exact ⟨_,⟨.inr rfl,Ah,Ad,p2⟩,rfl⟩
mutual
def tyI : Itm→Itm
 | .mk k _ _ b=>if k=1 then .mk 1 (ofQ 0) 0 [] else if k=2 then .mk 2 (false,[],[]) 32 [] else .mk 3 (false,[],[]) 0 (tyBs b)
def tyA : Arr→Arr
 | .mk s i=>.mk s (tyIs i)
def tyIs : List Itm→List Itm
 | []=>[]
 | x::xs=>tyI x::tyIs xs
def tyBs : List Arr→List Arr
 | []=>[]
 | a::_=>[tyA a]
end
theorem Gd (s:List Int) (i:List Itm) : (Arr.mk s i).shape=s:=rfl
theorem Fk (s:List Int) (i:List Itm) : (Arr.mk s i).items=i:=rfl
theorem MZ (k:Int) (n:RT) (c:Int) (b:List Arr) : (Itm.mk k n c b).kind=k:=rfl
theorem YF (k:Int) (n:RT) (c:Int) (b:List Arr) : (Itm.mk k n c b).num=n:=rfl
theorem Yt (k:Int) (n:RT) (c:Int) (b:List Arr) : (Itm.mk k n c b).char=c:=rfl
theorem V8 (k:Int) (n:RT) (c:Int) (b:List Arr) : (Itm.mk k n c b).box=b:=rfl
theorem VG (xs:List Itm) : tyIs xs=xs.map tyI:=by induction xs with
 | nil=>simp [tyIs]
 | cons x xs ih=>simp [tyIs,ih]
theorem Iu (a:Arr) : tyA a=.mk a.shape (a.items.map tyI):=by cases a;simp only [tyA,VG];rfl
theorem Ff : ∀ {xs:List Itm},rIs xs=true↔∀ x∈xs,rI x=true
 | []=>by simp [rIs]
 | x::xs=>by simp [rIs,Ff (xs:=xs)]
theorem Ta : ∀ {xs:List Arr},rBs xs=true↔∀ a∈xs,Bd a=false∧rA a=true
 | []=>by simp [rBs]
 | x::xs=>by simp [rBs,Ta (xs:=xs)]
theorem D5 {x:Itm} (h:rI x=true) : (x.kind=1∧BM x.num=true∧x.char=0∧x.box=[])∨(x.kind=2∧chB x.char=true∧x.num=(false,[],[])∧x.box=[])∨(x.kind=3∧x.num=(false,[],[])∧x.char=0∧∃ a,x.box=[a]∧Bd a=false∧rA a=true):=by
 rw [UR] at h
 by_cases k1:x.kind=1
 ·rw [if_pos k1] at h;simp only [Bool.and_eq_true,decide_eq_true_eq] at h
  exact .inl ⟨k1,h.1,h.2.1,List.length_eq_zero_iff.1 h.2.2⟩
 rw [if_neg k1] at h
 by_cases k2:x.kind=2
 ·rw [if_pos k2] at h;simp only [Bool.and_eq_true,decide_eq_true_eq] at h
  exact .inr (.inl ⟨k2,h.1,(MM x).1 h.2.1,List.length_eq_zero_iff.1 h.2.2⟩)
 rw [if_neg k2] at h
 by_cases k3:x.kind=3
 ·rw [if_pos k3] at h;simp only [Bool.and_eq_true,decide_eq_true_eq] at h
  obtain ⟨a,ha⟩:=List.length_eq_one_iff.1 h.1
  refine .inr (.inr ⟨k3,(MM x).1 h.2.1,h.2.2.1,a,ha,Ta.1 h.2.2.2 a (by simp [ha])⟩)
 ·rw [if_neg k3] at h;cases h
def Xe (x:Itm) : Prop:=rI (tyI x)=true∧dI (tyI x)=dI x∧cI (tyI x)=cI x∧tyI (tyI x)=tyI x∧(tyI x).kind=x.kind∧okI (tyI x)
theorem RO {s:List Int} {i:List Itm} {f:Itm→Itm} (h:∀ x∈i,(f x).kind=x.kind) : Bd (.mk s (i.map f))=Bd (.mk s i):=by
 unfold Bd
 match i with
 | []=>rfl
 | [x]=>simp only [Gd,Fk,List.map,h x (by simp)]
 | x::y::r=>rfl
theorem TE {f:Itm→Itm} : ∀ {i:List Itm},(∀ x∈i,cI (f x)=cI x)→cIs (i.map f)=cIs i
 | [],_=>rfl
 | x::xs,h=>by simp only [List.map,cIs];rw [h x (by simp),TE fun y hy=>h y (by simp [hy])]
theorem SP {f:Itm→Itm} : ∀ {i:List Itm},(∀ x∈i,dI (f x)=dI x)→dIs (i.map f)=dIs i
 | [],_=>rfl
 | x::xs,h=>by simp only [List.map,dIs];rw [h x (by simp),SP fun y hy=>h y (by simp [hy])]
theorem ZL {a:Arr} (oa:okAr a) (hr:rA a=true) (ih:∀ x∈a.items,Xe x) : rA (tyA a)=true∧dA (tyA a)=dA a∧cA (tyA a)=cA a∧tyA (tyA a)=tyA a∧Bd (tyA a)=Bd a∧okAr (tyA a):=by
 have o:=(Ce a).1 oa
 have hs:Bd (tyA a)=Bd a:=by
  rw [Iu,RO (fun x hx=>(ih x hx).2.2.2.2.1),Arr.eta]
 rw [Jo] at hr
 simp only [Bool.and_eq_true,decide_eq_true_eq] at hr
 refine ⟨?_,?_,?_,?_,hs,?_⟩
 ·rw [Jo,Iu]
  simp only [Gd,Fk,List.length_map,Bool.and_eq_true,decide_eq_true_eq]
  refine ⟨dT hr.1,hr.2.1,Ff.2 fun x hx=>?_⟩
  obtain ⟨y,hy,rfl⟩:=List.mem_map.1 hx
  exact (ih y hy).1
 ·rw [LD,LD,hs,Iu]
  simp only [Fk]
  rw [SP fun x hx=>(ih x hx).2.1]
 ·rw [Jr,Jr,Iu]
  simp only [Fk,List.length_map]
  rw [TE fun x hx=>(ih x hx).2.2.1]
 ·rw [Iu,Iu]
  simp only [Gd,Fk,List.map_map,Arr.mk.injEq,true_and]
  exact List.map_congr_left fun x hx=>(ih x hx).2.2.2.1
 ·rw [Ce,Iu]
  simp only [Gd,Fk,List.length_map]
  refine ⟨o.1,o.2.1,o.2.2.1,fun x hx=>?_⟩
  obtain ⟨y,hy,rfl⟩:=List.mem_map.1 hx
  exact (ih y hy).2.2.2.2.2
theorem Wf (n:RT) (c:Int) (b:List Arr) : tyI (.mk 1 n c b)=.mk 1 (ofQ 0) 0 []:=by simp [tyI]
theorem U8 (n:RT) (c:Int) (b:List Arr) : tyI (.mk 2 n c b)=.mk 2 (false,[],[]) 32 []:=by simp [tyI]
theorem WM (n:RT) (c:Int) (a:Arr) : tyI (.mk 3 n c [a])=.mk 3 (false,[],[]) 0 [tyA a]:=by simp [tyI,tyBs]
theorem TJ {r:RT} (h:Je r=true) : okI (.mk 1 r 0 []):=by
 simp [okI,okAs,h]
theorem Vw {c:Int} (h:chB c=true) : okI (.mk 2 (false,[],[]) c []):=by
 simp only [chB,Bool.and_eq_true,decide_eq_true_eq] at h
 refine ⟨by omega,rfl,by omega,by simp,trivial⟩
theorem Xw {a:Arr} (h:okAr a) : okI (.mk 3 (false,[],[]) 0 [a]):=⟨by omega,rfl,by omega,by simp,h,trivial⟩
theorem WA {r:RT} (h:BM r=true) : rI (.mk 1 r 0 [])=true:=by simp [rI,h]
theorem XD {c:Int} (h:chB c=true) : rI (.mk 2 (false,[],[]) c [])=true:=by simp [rI,h,EI,Itm.num]
theorem ZA {a:Arr} (h:rA a=true) (hs:Bd a=false) : rI (.mk 3 (false,[],[]) 0 [a])=true:=by simp [rI,rBs,h,hs,EI,Itm.num]
theorem V4 : ∀ (k:Nat) {x:Itm},x.size<k→okI x→rI x=true→Xe x
 | 0,x,h,_,_=>by omega
 | k+1,x,h,ho,hr=>by
  have hc:=D5 hr
  cases x with
  | mk kd n c b =>
   simp only [MZ,YF,Yt,V8] at hc
   unfold Xe
   rcases hc with ⟨rfl,h1,rfl,rfl⟩|⟨rfl,h1,rfl,rfl⟩|⟨rfl,rfl,rfl,a,rfl,h2,h3⟩
   ·rw [Wf,Wf]
    exact ⟨WA (I9 Ld),rfl,rfl,rfl,rfl,TJ (Ii Ld)⟩
   ·rw [U8,U8]
    exact ⟨XD rfl,rfl,rfl,rfl,rfl,Vw rfl⟩
   ·have hb:a∈Itm.box (.mk 3 (false,[],[]) 0 [a]):=by simp [Itm.box]
    have hz:=EO hb
    have oa:okAr a:=((Eb _).1 ho).2.2.2.2 a hb
    have h3':=h3
    rw [Jo] at h3';simp only [Bool.and_eq_true] at h3'
    obtain ⟨p1,p2,p3,p4,p5,p6⟩:=ZL oa h3 fun y hy=>V4 k (by have:=FI hy;omega) (((Ce a).1 oa).2.2.2 y hy) (Ff.1 h3'.2.2 y hy)
    rw [WM,WM,p4]
    refine ⟨ZA p1 (by rw [p5,h2]),?_,?_,rfl,rfl,Xw p6⟩
    ·simp only [dI,dBs,p2]
    ·simp only [cI,cBs,p3]
theorem U7 {x:Itm} (ho:okI x) (hr:rI x=true) : Xe x:=V4 _ (Nat.lt_succ_self _) ho hr
theorem MH : ∀ (k:Nat) {x:Itm},x.size<k→okI x→rI x=true→EU k x=some (tyI x)
 | 0,x,h,_,_=>by omega
 | k+1,x,h,ho,hr=>by
  have hc:=D5 hr
  cases x with
  | mk kd n c b =>
   simp only [MZ,YF,Yt,V8] at hc
   rw [EU,Hi]
   rcases hc with ⟨rfl,h1,rfl,rfl⟩|⟨rfl,h1,rfl,rfl⟩|⟨rfl,rfl,rfl,a,rfl,h2,h3⟩
   ·rw [if_pos (MZ 1 n 0 []),Wf,PH (by omega) (by omega),oB,Rat.intCast_zero,Q4 (Ii Ld),oB]
   ·rw [if_neg (by rw [MZ];decide),if_pos (MZ 2 _ c []),U8];rfl
   ·have hb:a∈Itm.box (.mk 3 (false,[],[]) 0 [a]):=by simp [Itm.box]
    have hz:=EO hb
    have oa:okAr a:=((Eb _).1 ho).2.2.2.2 a hb
    have h3':=h3
    rw [Jo] at h3';simp only [Bool.and_eq_true] at h3'
    have o:=(Ce a).1 oa
    rw [if_neg (by rw [MZ];decide),if_neg (by rw [MZ];decide),V8,LQ,oB,K7 (h:=tyI) (fun y hy=>MH k (by have:=FI hy;omega) (o.2.2.2 y hy) (Ff.1 h3'.2.2 y hy)) o.2.1 o.2.2.1,oB,WM,Iu]
theorem Ql {x:Itm} (ho:okI x) (hr:rI x=true) : Kg x=some (tyI x):=MH _ (Nat.lt_succ_self _) ho hr
theorem KL {a:Arr} (h:rA a=true) : (szP a.shape).2=0∧(a.items.length:Int)=(if (szP a.shape).1<1 then 1 else (szP a.shape).1)∧∀ x∈a.items,rI x=true:=by
 rw [Jo] at h;simp only [Bool.and_eq_true,decide_eq_true_eq] at h
 exact ⟨h.1,h.2.1,Ff.1 h.2.2⟩
theorem Na {a:Arr} (ha:okAr a) : Bx a=some (if (szP a.shape).1=0∨¬BL a then [] else a.items):=by
 have o:=(Ce a).1 ha
 unfold Bx
 rw [Ma o.2.1,oB]
 by_cases h0:(szP a.shape).1=0
 ·rw [if_pos h0,if_pos (.inl h0)];rfl
 rw [if_neg h0,Ip ha,oB]
 by_cases h:BL a
 ·rw [dT h,if_neg (by rintro (q|q);exact h0 q;exact q h),Bool.not_true,oB,if_neg (by decide),Lw ha];rfl
 ·rw [dF h,if_pos (.inr h)];rfl
theorem XA {x:Itm} (hx:okI x) (hr:BZ x) : Ej x=some (if x.kind=3 then x.box.headD default else .mk [] [x]):=by
 unfold Ej
 rw [JZ hx,oB,dT hr,if_pos rfl]
 by_cases k:x.kind=3
 ·rw [if_pos k,if_pos k]
  rcases D5 hr.1 with h|h|⟨_,_,_,a,h,_⟩
  ·omega
  ·omega
  ·rw [h,LQ,oB,Lw (((Eb x).1 hx).2.2.2.2 a (by simp [h]))];rfl
 ·rw [if_neg k,if_neg k,KX hx];rfl
theorem OR {xs:List Itm} {f:Cm} {p:Itm→Bool} (hf:∀ x∈xs,f.g x=some (p x)) (K:Int→Option Int) (hl:xs.length≤17592186044416) : ∀ (n i k:Nat) (s:Int),n=xs.length-i→i≤xs.length→n<k →
  (Aw xs f K k s (i:Int)=K s∧(xs.drop i).any p=false)∨(∃ j:Nat,Aw xs f K k s (i:Int)=some (j:Int)∧(xs.drop i).any p=true)
 | _,_,0,_,_,_,h=>by omega
 | n,i,k+1,s,hn,hi,hk=>by
  rw [Aw]
  by_cases h:i<xs.length
  ·rw [if_pos (by omega),Ci h,oB,hf _ (List.getElem_mem h),oB,lC h,List.any_cons]
   by_cases hp:p xs[i]=true
   ·rw [if_pos hp,hp];exact .inr ⟨i,rfl,rfl⟩
   ·rw [if_neg hp,Cz (by omega)]
    have:p xs[i]=false:=by simpa using hp
    rw [this,Bool.false_or]
    exact OR hf K hl (n-1) (i+1) k s (by omega) (by omega) (by omega)
  ·rw [if_neg (by omega),List.drop_of_length_le (by omega)];exact .inl ⟨rfl,rfl⟩
theorem NO {xs:List Itm} {f:Cm} {p:Itm→Bool} (hf:∀ x∈xs,f.g x=some (p x)) (hl:xs.length≤17592186044416) : AG xs f=some (xs.any p):=by
 unfold AG Bb
 rw [DA]
 rcases OR hf (fun _=>some (-1)) hl xs.length 0 AH 0 rfl (Nat.zero_le _) (CE (by omega)) with ⟨h1,h2⟩|⟨j,h1,h2⟩
 ·rw [show ((0:Nat):Int)=0 from rfl] at h1
  rw [h1,oB,List.drop_zero] at *
  rw [h2];rfl
 ·rw [show ((0:Nat):Int)=0 from rfl] at h1
  rw [h1,oB]
  rw [List.drop_zero] at h2
  rw [h2,dT (by omega)]
def Ea (xs:List Itm) : List Int:=xs.map fun x=>((1+cI x:Nat) : Int)
theorem NY {x:Itm} (hx:okI x) (hr:BZ x) : ∀ a∈x.box,okAr a∧BL a∧cI x=cA a∧x.box=[a]:=fun a ha=>by
 have oa:=((Eb x).1 hx).2.2.2.2 a ha
 rcases D5 hr.1 with ⟨_,_,_,h⟩|⟨_,_,_,h⟩|⟨_,_,_,b,h,h2,h3⟩
 ·rw [h] at ha;cases ha
 ·rw [h] at ha;cases ha
 ·have hb:=ha
  rw [h,List.mem_singleton] at hb
  subst hb
  have e1:cI x=cA a:=by rw [OM,h];simp [cBs]
  have e2:dI x=dA a:=by rw [S0,h];simp [dBs]
  exact ⟨oa,⟨h3,e2▸hr.2.1,e1▸hr.2.2⟩,e1,h⟩
theorem Xm {x:Itm} (hx:okI x) (hr:BZ x) (K:Int→Option (Arr×Int)) : Cq x K AH 1 0=K ((1+cI x:Nat) : Int):=by
 have hF:AH=999999999999998+1+1:=rfl
 rw [hF,Cq]
 by_cases hb:x.box=[]
 ·rw [if_neg (by rw [hb];decide)]
  have:cI x=0:=by rw [OM,hb];rfl
  rw [this];rfl
 ·obtain ⟨a,ha⟩:=List.exists_mem_of_ne_nil _ hb
  obtain ⟨oa,ra,e1,e2⟩:=NY hx hr a ha
  have h16:=ra.2.2
  rw [e2,if_pos (by simp),LQ,oB,Vq oa,oB,if_pos ra,Cq,e2,if_neg (by rw [show w64 ((0:Int)+1)=1 from rfl];simp),EH (by omega) (by omega),e1]
  congr 1
theorem S6 {xs:List Itm} (hx:∀ x∈xs,okI x∧BZ x) (hl:xs.length≤1466015503701) (K:List Int→Option (Arr×Int)) : ∀ (n i k:Nat) (t:List Int),n=xs.length-i→i≤xs.length→n<k→t.length=i →
  B7 xs K k t (i:Int)=K (t++(Ea xs).drop i)
 | _,_,0,_,_,_,h,_=>by omega
 | n,i,k+1,t,hn,hi,hk,ht=>by
  rw [B7]
  have hcl:(Ea xs).length=xs.length:=by simp [Ea]
  by_cases h:i<xs.length
  ·obtain ⟨o,r⟩:=hx _ (List.getElem_mem h)
   have hd:(Ea xs)[i]'(by omega)=((1+cI xs[i]:Nat):Int):=by simp [Ea]
   rw [if_pos (by omega),DA,Ci h,oB,DA,Xm o r,Lv (by simp;omega),oB,Cz (by omega)]
   show B7 xs K k (t++[((1+cI xs[i]:Nat):Int)]) ((i+1:Nat):Int)=_
   rw [S6 hx hl K (n-1) (i+1) k _ (by omega) (by omega) (by omega) (by simp [ht]),
    lC (by omega:i<(Ea xs).length),hd,List.append_assoc]
   rfl
  ·rw [if_neg (by omega),List.drop_of_length_le (by omega),List.append_nil]
def cyc (xs:List Itm) (n:Nat) : List Itm:=(List.range n).map fun i=>xs.getD (i % xs.length) default
theorem Mv (xs:List Itm) (n:Nat) : cyc xs (n+1)=cyc xs n++[xs.getD (n % xs.length) default]:=by
 unfold cyc;rw [List.range_succ,List.map_append];rfl
theorem HB (xs:List Itm) (n:Nat) : (cyc xs n).length=n:=by simp [cyc]
theorem O9 (xs ys:List Itm) : cIs (xs++ys)=cIs xs+cIs ys:=by
 induction xs with
 | nil=>simp [cIs]
 | cons x xs ih=>simp only [List.cons_append,cIs,ih];omega
theorem Xc {xs:List Itm} (h:xs≠[]) {n:Nat} {x:Itm} (hx:x∈cyc xs n) : x∈xs:=by
 unfold cyc at hx
 obtain ⟨i,_,rfl⟩:=List.mem_map.1 hx
 have hp:0<xs.length:=List.length_pos_iff.2 h
 have hlt:=Nat.mod_lt i hp
 rw [lD,lG hlt]
 exact List.getElem_mem hlt
theorem ZG (xs:List Itm) {i n:Nat} (h:i≤n) : i+cIs (cyc xs i)≤n+cIs (cyc xs n):=by
 induction n with
 | zero =>
  have:i=0:=by omega
  subst this;exact Nat.le_refl _
 | succ n ih =>
  by_cases he:i=n+1
  ·subst he;exact Nat.le_refl _
  ·have:=ih (by omega)
   rw [Mv,O9];omega
theorem TA {xs:List Itm} (hx:∀ x∈xs,okI x∧BZ x) (hne:xs≠[]) (hl:xs.length≤1466015503701) {m:Nat} (hm:m≤4096) (x1:Int×Int) (hx1:x1.1=(m:Int)) (K:Arr→Int→List Int→List Itm→Option (Arr×Int)) (a:Arr) (b:Int) (s:List Int) (t0:List Itm) (ht0:t0.length≤1) : ∀ (n i k:Nat),n=m-i→i≤m→n<k→i+cIs (cyc xs i)≤16384 →
  B9 xs x1 (Ea xs) K k a b (i:Int) ((i+cIs (cyc xs i):Nat):Int) s (t0++cyc xs i)=if m+cIs (cyc xs m)≤16384 then K a b s (t0++cyc xs m) else some (.mk [] [],8)
 | _,_,0,_,_,h,_=>by omega
 | n,i,k+1,hn,hi,hk,hc=>by
  rw [B9]
  have hcl:(Ea xs).length=xs.length:=by simp [Ea]
  have hp:0<xs.length:=List.length_pos_iff.2 hne
  by_cases h:i<m
  ·have hlt:=Nat.mod_lt i hp
   have htm:Int.tmod (i:Int) ((xs.length:Nat):Int)=((i % xs.length:Nat):Int):=by
    rw [Int.tmod_eq_emod_of_nonneg (by omega)];rfl
   have hgr:Gk (((List.length xs:Nat):Int)≠0)=some ():=if_pos (by omega)
   have hd:(Ea xs)[i % xs.length]'(by omega)=((1+cI xs[i % xs.length]:Nat):Int):=by simp [Ea]
   obtain ⟨o,r⟩:=hx _ (List.getElem_mem hlt)
   have hg:xs.getD (i % xs.length) default=xs[i % xs.length]:=by rw [lD,lG hlt];rfl
   have hci:cI xs[i % xs.length]≤16384:=r.2.2
   have hsum:cIs (cyc xs (i+1))=cIs (cyc xs i)+cI xs[i % xs.length]:=by rw [Mv,O9,hg];simp [cIs]
   rw [if_pos (by omega),hgr,oB,htm,Ci (by omega:i % xs.length<(Ea xs).length),oB,hd,EH (by omega) (by omega)]
   by_cases hbig:(16384:Int)<((i+cIs (cyc xs i):Nat):Int)+((1+cI xs[i % xs.length]:Nat):Int)
   ·rw [if_pos hbig,if_neg]
    have:=ZG xs (show i+1≤m by omega)
    omega
   ·have hlen:=HB xs i
    rw [if_neg hbig,oB,Ci hlt,oB,KX o,oB,Lv (by simp;omega),oB,Cz (by omega)]
    have ih:=TA hx hne hl hm x1 hx1 K a b s t0 ht0 (n-1) (i+1) k (by omega) (by omega) (by omega) (by omega)
    rw [Mv,hg] at ih
    rw [← ih,List.append_assoc]
    congr 1
    rw [O9];simp only [cIs];omega
  ·have:i=m:=by omega
   subst this
   rw [if_neg (by omega),if_pos hc]
def CK (n:Int) (xs:List Itm) : List Itm:=if n=0 then [tyI (xs.headD default)] else cyc xs n.toNat
theorem Mc {s:List Int} {xs:List Itm} (hs:∀ z∈s,-9223372036854775808≤z∧z≤9223372036854775807) (hl:s.length≤17592186044416) (hxl:xs.length≤1466015503701) (hx:∀ x∈xs,okI x) :
  Bi s xs=some (if (szP s).2≠0 then (.mk [] [],(szP s).2) else if xs=[]∨¬(∀ x∈xs,BZ x) then (.mk [] [],22) else if BL (.mk s (CK (szP s).1 xs)) then (.mk s (CK (szP s).1 xs),0) else (.mk [] [],8)):=by
 unfold Bi
 rw [Ma hl,oB]
 by_cases h0:(szP s).2=0
 rotate_left
 ·rw [if_neg h0,if_pos h0]
 have h0':¬((szP s).2≠0):=fun h=>h h0
 rw [if_pos h0,if_neg h0']
 by_cases hn:xs=[]
 ·subst hn;rw [if_pos (show ((([]:List Itm).length:Nat):Int)=0 from rfl),if_pos (.inl rfl)];rfl
 have hlen:¬((xs.length:Nat):Int)=0:=by have:=List.length_pos_iff.2 hn;omega
 rw [if_neg hlen,NO (p:=fun x=>!decide (BZ x)) (fun x hx'=>by
  show EM x=_
  unfold EM;rw [JZ (hx x hx'),oB]) (by omega),oB,oB]
 by_cases hr:∀ x∈xs,BZ x
 rotate_left
 ·rw [if_pos (.inr hr:xs=[]∨¬∀ x∈xs,BZ x),if_pos]
  rw [List.any_eq_true]
  simp only [Classical.not_forall] at hr
  obtain ⟨x,h1,h2⟩:=hr
  exact ⟨x,h1,by rw [dF h2];rfl⟩
 rw [if_neg (show ¬(xs=[]∨¬∀ x∈xs,BZ x) from fun h=>h.elim hn fun h=>h hr),if_neg (by
  intro h
  rw [List.any_eq_true] at h
  obtain ⟨x,h1,h2⟩:=h
  rw [dT (hr x h1)] at h2;cases h2),OC hl,oB,DA]
 have hp:0<xs.length:=List.length_pos_iff.2 hn
 have hxr:∀ x∈xs,okI x∧BZ x:=fun x h=>⟨hx x h,hr x h⟩
 obtain ⟨hz0,hz1⟩:=Pv s
 obtain ⟨m,hm⟩:∃ m:Nat,(szP s).1=(m:Int):=⟨(szP s).1.toNat,by omega⟩
 have hgo:∀ t0:List Itm,t0.length≤1→t0++cyc xs m=CK (szP s).1 xs→(∀ x∈CK (szP s).1 xs,okI x)→m+cIs (cyc xs m)≤cA (.mk s (CK (szP s).1 xs)) →
   B7 xs (fun z8=>jn (fun z19 z20 z21 z22=>(Bw (Arr.mk z21 z22)).bind fun x35=>if x35=true then some (Arr.mk z21 z22,0) else some (Arr.mk [] [],8)) fun K6=>B9 xs (szP s) z8 K6 AH (Arr.mk [] []) 0 0 0 s t0) AH [] 0=some (if BL (.mk s (CK (szP s).1 xs)) then (.mk s (CK (szP s).1 xs),0) else (.mk [] [],8)):=by
  intro t0 ht0 he hok hca
  have e2:=S6 hxr hxl (fun z8=>jn (fun z19 z20 z21 z22=>(Bw (Arr.mk z21 z22)).bind fun x35=>if x35=true then some (Arr.mk z21 z22,0) else some (Arr.mk [] [],8)) fun K6=>B9 xs (szP s) z8 K6 AH (Arr.mk [] []) 0 0 0 s t0) xs.length 0 AH [] rfl (Nat.zero_le _) (CE (by omega)) rfl
  rw [show ((0:Nat):Int)=0 from rfl] at e2
  rw [e2,List.nil_append,List.drop_zero]
  show jn _ _=_
  rw [DA]
  have e7:=TA hxr hn hxl (show m≤4096 by omega) (szP s) hm (fun z19 z20 z21 z22=>(Bw (Arr.mk z21 z22)).bind fun x35=>if x35=true then some (Arr.mk z21 z22,0) else some (Arr.mk [] [],8)) (Arr.mk [] []) 0 s t0 ht0 m 0 AH rfl (Nat.zero_le _) (CE (by omega)) (by show 0+0≤_;omega)
  rw [show cyc xs 0=[] from rfl,List.append_nil,show ((0:Nat):Int)=0 from rfl] at e7
  rw [show (((0+cIs []:Nat)):Int)=0 from rfl] at e7
  rw [e7,he]
  have hit:(CK (szP s).1 xs).length≤1466015503701:=by
   rw [← he,List.length_append,HB];omega
  have ho:okAr (.mk s (CK (szP s).1 xs)):=by
   rw [Ce];exact ⟨hs,hl,hit,hok⟩
  rw [Ip ho]
  by_cases hR:BL (.mk s (CK (szP s).1 xs))
  ·rw [if_pos (nT hca hR.2.2),if_pos hR,dT hR];rfl
  ·rw [if_neg hR,dF hR];split<;>rfl
 by_cases hz:(szP s).1=0
 ·have hm0:m=0:=by omega
  subst hm0
  obtain ⟨y,ys,rfl⟩:=List.exists_cons_of_ne_nil hn
  have hmk:CK (szP s).1 (y::ys)=[tyI y]:=by unfold CK;rw [if_pos hz];rfl
  obtain ⟨o,r⟩:=hxr y (by simp)
  rw [if_pos hz,LQ,oB,Ql o r.1,oB]
  show jn _ _=_
  rw [DA]
  refine hgo [tyI y] (by simp) (by rw [hmk];rfl) ?_ ?_
  ·rw [hmk];intro x hx';rw [List.mem_singleton] at hx';subst hx';exact (U7 o r.1).2.2.2.2.2
  ·show 0+0≤_;omega
 ·have hmk:CK (szP s).1 xs=cyc xs m:=by unfold CK;rw [if_neg hz,hm];rfl
  rw [if_neg hz]
  show jn _ _=_
  rw [DA]
  refine hgo [] (by simp) (by rw [hmk];rfl) ?_ ?_
  ·rw [hmk];intro x hx';exact hx x (Xc hn hx')
  ·rw [hmk,Jr,Fk,HB];omega
def EJ (z:Int) : Prop:=-9223372036854775808≤z∧z≤9223372036854775807
def Cj (z:Int) : Itm:=.mk 1 (ofQ (z:Rat)) 0 []
theorem C2 {z:Int} (h:EJ z) : KS (z:Rat):=Vb h.1 (by have:=h.2;omega)
theorem Me {z:Int} (h:EJ z) : okI (Cj z):=TJ (Ii (C2 h))
theorem Hw {z:Int} (h:EJ z) : rI (Cj z)=true:=WA (I9 (C2 h))
theorem L9 {n:Nat} (h:n≤4096) : szP [(n:Int)]=((n:Int),0):=by
 unfold szP GJ
 simp only [List.length_cons,List.length_nil,List.any_cons,List.any_nil,Bool.or_false,decide_eq_true_eq,List.foldl_cons,List.foldl_nil,List.mem_singleton,Int.one_mul]
 rw [if_neg (by omega),if_neg (by omega),if_neg (by omega)]
 by_cases h0:(0:Int)=n
 ·rw [if_pos h0,← h0]
 ·rw [if_neg h0,if_pos (by omega)]
theorem Pj : szP []=(1,0):=rfl
theorem Sw {s:List Int} {i:List Itm} {n:Int} (hs:szP s=(n,0)) (hl:(i.length:Int)=if n<1 then 1 else n) (hi:∀ x∈i,rI x=true∧x.box=[]) : BL (.mk s i)∧cA (.mk s i)=i.length∧dA (.mk s i)=if Bd (.mk s i) then 0 else 1:=by
 have hn:=Pv s
 rw [hs] at hn
 have hc:cIs i=0:=by
  clear hl
  induction i with
  | nil=>rfl
  | cons x xs ih=>rw [cIs,OM,(hi x (by simp)).2,ih fun y hy=>hi y (by simp [hy])];rfl
 have hd:dIs i=0:=by
  clear hl hc
  induction i with
  | nil=>rfl
  | cons x xs ih=>rw [dIs,S0,(hi x (by simp)).2,ih fun y hy=>hi y (by simp [hy])];rfl
 have hcA:cA (.mk s i)=i.length:=by rw [Jr,Fk,hc];rfl
 have hdA:dA (.mk s i)=if Bd (.mk s i) then 0 else 1:=by rw [LD,Fk,hd]
 refine ⟨⟨?_,?_,?_⟩,hcA,hdA⟩
 ·rw [Jo,Gd,Fk,hs,hl,dT rfl,dT rfl,Ff.2 fun x hx=>(hi x hx).1];rfl
 ·rw [hdA];split<;>omega
 ·rw [hcA];have:(i.length:Int)≤4096:=by rw [hl];split<;>omega
  omega
theorem Aaa {l:List Int} (h:∀ z∈l,EJ z) : ∀ x∈l.map Cj,rI x=true∧x.box=[]:=fun x hx=>by
 obtain ⟨z,hz,rfl⟩:=List.mem_map.1 hx
 exact ⟨Hw (h z hz),rfl⟩
theorem Aan {l:List Int} (h:∀ z∈l,EJ z) : ∀ x∈l.map Cj,okI x:=fun x hx=>by
 obtain ⟨z,hz,rfl⟩:=List.mem_map.1 hx
 exact Me (h z hz)
def Z5 (l:List Int) : Arr:=Mt (Cj 0) (l.map Cj)
theorem MF {z:Int} (h:EJ z) : Hl (ofQ (z:Rat))=some (z,true):=by
 unfold Hl
 have e:(ofQ (z:Rat)).2.1=Af z.natAbs:=rfl
 have e1:(ofQ (z:Rat)).1=decide (z<0):=rfl
 have hw:okL 1048576 (Af z.natAbs)=true:=Ib (nT (show (Af z.natAbs).length≤32 from (C2 h).1) (by decide))
 have hb:Bn z.natAbs≤64:=Dl.2 (by have:=h.1;have:=h.2;omega)
 rw [Xy (C2 h),oB,if_pos (dT (Rat.den_intCast z)),e,e1,AK,if_pos (by rw [hw,dT rfl];rfl),if_pos hb]
 unfold NE
 obtain ⟨h1,h2⟩:=h
 by_cases hz:z<0
 ·rw [if_pos (dT hz),if_pos (by omega)]
  congr 2;omega
 ·rw [if_neg (by rw [dF hz];decide),if_pos (by omega)]
  congr 2;omega
theorem OT : ∀ {l:List Int} {s:List Int},(∀ z∈l,EJ z)→s.length+l.length≤17592186044416→Vj Pg (l.map Cj) s=some (true,s++l)
 | [],s,_,_=>by simp [Vj]
 | z::zs,s,h,hl=>by
  rw [List.map_cons,Vj]
  unfold Pg
  have e:(Cj z).num=ofQ (z:Rat):=rfl
  rw [e,MF (h z (by simp)),oB,Lv (by simp at hl ⊢;omega),oB,oB]
  have hk:(true&&decide ((Cj z).kind=1))=true:=rfl
  rw [hk,if_pos rfl]
  have:=OT (l:=zs) (s:=s++[z]) (fun y hy=>h y (by simp [hy])) (by simp at hl ⊢;omega)
  unfold Pg at this
  rw [this,List.append_assoc];rfl
theorem Ku {x:Itm} (h:rI x=true) (hb:x.box=[]) (hk:x.kind≠3) : BL (.mk [] [x])∧Bd (.mk [] [x])=true:=by
 refine ⟨(Sw Pj rfl fun y hy=>by rw [List.mem_singleton] at hy;subst hy;exact ⟨h,hb⟩).1,?_⟩
 unfold Bd;simp [Gd,Fk,hk]
theorem WS {x:Itm} (h:okI x) : okAr (.mk [] [x]):=by
 rw [Ce,Gd,Fk]
 exact ⟨nofun,by simp,by simp,fun y hy=>by rw [List.mem_singleton] at hy;rw [hy];exact h⟩
theorem SV {z:Int} (h:EJ z) : EA (.mk [] [Cj z])=some (z,true):=by
 unfold EA
 have hr:=(Ku (Hw h) rfl (show (1:Int)≠3 by decide)).1
 rw [Na (WS (Me h)),Gd,Pj,if_neg (by rintro (q|q);exact absurd q (by decide);exact q hr),Fk,oB,if_pos (by simp),LQ,oB]
 have e:(Cj z).num=ofQ (z:Rat):=rfl
 have hk:(!decide ((Cj z).kind=1))=false:=rfl
 rw [hk,oB,if_neg (by decide),oB,e,MF h];rfl
theorem VN (xs:List Itm) : cyc xs xs.length=xs:=by
 apply List.ext_getElem?
 intro i
 by_cases h2:i<xs.length
 ·unfold cyc
  rw [List.getElem?_map,List.getElem?_range h2,Option.map_some,Nat.mod_eq_of_lt h2,lD,lG h2];rfl
 ·rw [List.getElem?_eq_none (by rw [HB];omega),List.getElem?_eq_none (by omega)]
theorem Ka {xs:List Itm} {n:Nat} (h:xs.length=n) (h0:n≠0) : CK ((n:Nat) : Int) xs=xs:=by
 unfold CK
 rw [if_neg (by omega),Int.toNat_natCast,← h]
 exact VN xs
theorem GI {a:Arr} (oa:okAr a) (h:BL a) {x:Itm} (hx:x∈a.items) : okI x∧BZ x:=by
 have o:=(Ce a).1 oa
 obtain ⟨h1,h2,h3⟩:=h
 have hr:=(KL h1).2.2
 refine ⟨o.2.2.2 x hx,hr x hx,?_,?_⟩
 ·have hd:∀ {xs:List Itm},x∈xs→dI x≤dIs xs:=by
   intro xs
   induction xs with
   | nil=>intro h;cases h
   | cons y ys ih =>
    intro h
    rw [dIs]
    rcases List.mem_cons.1 h with rfl|h
    ·omega
    ·have:=ih h;omega
  have hdx:=hd hx
  rw [LD] at h2
  by_cases hs:Bd a=true
  ·have:=(Qf hs (Ff.2 hr)).1
   omega
  ·rw [if_neg hs] at h2;omega
 ·have hc:∀ {xs:List Itm},x∈xs→cI x≤cIs xs:=by
   intro xs
   induction xs with
   | nil=>intro h;cases h
   | cons y ys ih =>
    intro h
    rw [cIs]
    rcases List.mem_cons.1 h with rfl|h
    ·omega
    ·have:=ih h;omega
  have hcx:=hc hx
  rw [Jr] at h3
  omega
theorem WX {a:Arr} (h:BL a) : ∃ n : Nat,szP a.shape=((n:Int),0)∧a.items.length=if n=0 then 1 else n:=by
 obtain ⟨h1,h2,_⟩:=KL h.1
 have:=Pv a.shape
 refine ⟨(szP a.shape).1.toNat,?_,?_⟩
 ·rw [← h1,Int.toNat_of_nonneg this.1]
 ·split at h2<;>split<;>omega
theorem Oe {a:Arr} (h:BL a) : 0<a.items.length:=by
 obtain ⟨n,_,hl⟩:=WX h
 rw [hl];split<;>omega
end Go.FL
namespace Go.FL
open Go Go.RowKit
def FnN (P:Program) (f:FuncId) (args:List DV) (r:AV) : Prop :=
 ∀ (w:World) (I:Nat→Prop) (vs:List Value),(∀ b,I b→b<w.heap.size)→RepAll w I args vs →
  CallsIn (om none) 0 P f (Value.slice none 0 0::vs).toArray w fun e w'=>∃ v I' bs,e=.returned v∧Below w.heap.size w w'∧(∀ b,I b→I' b) ∧
   (∀ b,I' b→b<w'.heap.size∧(b<w.heap.size→I b))∧ARep P w' I' [] r v bs∧bs.Nodup∧∀ b∈bs,w.heap.size≤b∧b<w'.heap.size∧¬I' b
section
variable {P:Program} {H:Ab}
theorem FnR.ofFnN {f:FuncId} {xs:List DV} {r:AV} (h:FnN P f xs r) : FnR P f (.nl::xs.map .d) H fun r' H'=>r'=r∧H'=H:=by
 intro X w I μ O vs0 e1 e2 e3 e4 e5 hm ha
 have hR:∀ {xs:List DV} {vs:List Value},ARepAll P w I μ (xs.map AV.d) vs []→RepAll w I xs vs:=by
  intro xs
  induction xs with
  | nil=>intro vs h;cases h;exact .nil
  | cons x xs ih =>
   intro vs h
   generalize hbs:([]:List Nat)=bs at h
   cases h with
   | cons h t =>
    have:=hbs.symm
    rw [List.append_eq_nil_iff] at this
    rw [this.2] at t
    cases h with
    | d h=>exact .cons h (ih t)
 obtain ⟨vs,rfl,ha2⟩:∃ vs,vs0=Value.slice none 0 0::vs∧ARepAll P w I μ (xs.map AV.d) vs []:=by
  generalize hbs:([]:List Nat)=bs at ha
  cases ha with
  | cons h t =>
   have:=hbs.symm
   rw [List.append_eq_nil_iff] at this
   obtain ⟨t1,t2⟩:=this
   subst t2
   cases h
   exact ⟨_,rfl,t⟩
 refine (h w I vs hm.ilt (hR ha2)).mono ?_
 rintro e w' ⟨v,I',bs,rfl,q1,q2,q3,q4,q5,q6⟩
 let a:Act:={tmps:=#[],defers:=[]}
 have hs:Sim P {X with nt:=(0,0),dfs:=[],args:=[]} [] H a w I μ O:=⟨hm.cast rfl rfl rfl rfl rfl rfl,fun t=>.un,rfl,rfl,fun t ht=>absurd ht (by simp)⟩
 have s1:=(hs.called q1 q2 q3).newR bs fun b hb=>by
  obtain ⟨h1,h2,h3⟩:=q6 b hb
  refine ⟨h2,.inl ?_,h3,fun hk=>by have:=hs.klt b hk;have:=hs.size;omega⟩
  cases hO:O b with
  | none=>rfl
  | some l=>have:=(hs.own b l hO).1;omega
 refine ⟨v,I',μ,_,H,r,bs,rfl,(s1.toMem.relabel (toT 0) fun _=>rfl).cast rfl rfl rfl rfl rfl rfl,q4.keep (fun _ h=>h) (fun _ _=>rfl) (fun i b h=>by simp at h) fun _ _=>rfl,q5,fun b hb=>⟨0,by simp [hb,toT]⟩,rfl,rfl⟩
def Td (P:Program) (f:FuncId) (e:TypeId) (M:Nat) : Prop:=∀ (n:Nat) (w:World),n≤M →
 Calls P f #[.slice none 0 0,.int .i64 n] w fun x w'=>(x=.returned (.slice none 0 0)∧w'=w) ∨
  (∃ (cap:Nat) (cells:Array Value),0<cap∧cap≤maxLen∧cells.size=cap * Av P e∧x=.returned (.slice (some ⟨w.heap.size,0,none⟩) 0 cap)∧w'=w.drew.alloc (.cells cells e))
theorem FnN.grow {f e M:Nat} (hsz:0<Av P e) (h:Td P f e M) {n:Nat} (hn:n≤M) : FnN P f [.i .i64 n] (.own e []):=by
 intro w I vs hI ha
 have hvs:vs=[.int .i64 n]:=by
  cases ha with
  | cons h1 ha=>cases ha;cases h1;rfl
 subst hvs
 rw [XS]
 refine callsIn_wide.2 ((h n w hn).mono fun x w' hx=>?_)
 rcases hx with ⟨rfl,rfl⟩|⟨cap,cells,h0,hm,hc,rfl,rfl⟩
 ·refine ⟨_,I,[],rfl,Below.refl _ _,fun _ h=>h,fun b hb=>⟨hI b hb,fun _=>hb⟩,?_,nN,nofun⟩
  exact .own e [] (.slice none 0 0) [] hsz (.inl ⟨none,rfl,rfl,rfl⟩) (.nil _)
 ·have hlt:w.heap.size<(w.drew.alloc (.cells cells e)).heap.size:=(Array.getElem?_eq_some_iff.1 (heap_alloc_new w.drew (.cells cells e))).1
  have ho:OwnR (w.drew.alloc (.cells cells e)) e (Av P e) (.slice (some ⟨w.heap.size,0,none⟩) 0 cap) 0 []:=by
   refine .inr ⟨⟨by simp,.inr ⟨w.heap.size,cap,cells,rfl,Nat.zero_le _,heap_alloc_new w.drew _,Nat.zero_le _,hm,hc,by simp⟩⟩,w.heap.size,cap,rfl,h0⟩
  refine ⟨_,I,[w.heap.size],rfl,?_,fun _ h=>h,fun b hb=>⟨Nat.lt_trans (hI b hb) hlt,fun _=>hb⟩,?_,by simp,fun b hb=>?_⟩
  ·exact ((Below.refl _ w).drew).alloc (Nat.le_refl _) _
  ·have:[w.heap.size]=Bv (.slice (some ⟨w.heap.size,0,none⟩) 0 cap):=by simp [Bv,Nat.pos_iff_ne_zero.1 h0]
   rw [this]
   exact .own e [] _ [] hsz ho (.nil _)
  ·rw [List.mem_singleton] at hb
   subst hb
   exact ⟨Nat.le_refl _,hlt,fun hi=>by have:=hI _ hi;omega⟩
theorem Ya {f e M:Nat} (hsz:0<Av P e) (h:Td P f e M) {z:Int} (hz:0≤z∧z≤(M:Int)) : FnR P f [.nl,.d (.i .i64 z)] H fun r' H'=>r'=.own e []∧H'=H:=by
 obtain ⟨n,rfl⟩:∃ n:Nat,z=(n:Int):=⟨z.toNat,by omega⟩
 exact FnR.ofFnN (xs:=[.i .i64 (n:Int)]) (FnN.grow hsz h (by omega))
end
section
variable {P:Program} {C:Cx} {o:Oper} {ops:Array Oper} {Q:Exit→Env→Ab→Prop} {env:Env} {H:Ab} {k:Nat} {l:List Oper}
theorem Z9 {α:Type} {F:List α→List DV} {D:α→DV} (hset:∀ xs n x,(F xs).set n (D x)=F (xs.set n x)) {us:List α} {n m:Nat} {x:α} {y:Operand} {r ty e:Nat} {p:Pl} (hm:m=n) (hx:∃ z,(F us)[0+n]?=some z∧z.leaf=true)
  (h:RL P C ops Q (k+1) l (FJ p (.own e (F (us.set m x))) env) (HM p (.own e (F (us.set m x))) H)) (hsz:Av P ty=1)
  (hg:grd ops env o true=true:=by rfl) (ho:o.op=.store ty (.tmp r) y:=by rfl) (hv:get env r=.ep p (0+n) 0:=by rfl) (hp:AB env H p=.own e (F us):=by rfl) (hy:lk env y=.d (D x):=by rfl) (h1:(D x).leaf=true:=by rfl) (hd:o.dst=none:=by rfl)
  (hn:∀ id off,p=.c id off→C.n0≤id:=by (intro _ _ h;cases h<;>decide)):RL P C ops Q k (o::l) env H:=by
 subst hm
 exact ste hx (by rw [Nat.zero_add,hset];exact h) hsz hg ho hv hp hy h1 hd hn
end
end Go.FL
namespace Go.FL
open Go Go.RowKit
section
variable {P:Program} {C:Cx} {X:Snap} {o:Oper} {ops:Array Oper} {Q:Exit→Env→Ab→Prop} {env env':Env} {H H':Ab} {a:Act} {w w':World} {I I':Nat→Prop} {μ μ':List Nat} {O O':Nat→Option Loc}
 {K:Env→Ab→Prop} {k:Nat} {l:List Oper}
theorem ZK {ty:Nat} (ho:o.op=.makeMap ty none:=by rfl) : VOK P C o env H (.om [] []) :=
 .val (by simp [ho]) fun X a w I μ O _ _ _ hs =>
  ⟨.map (some w.heap.size),w.alloc (.map #[] 0),I,[w.heap.size],by simp [execOp,ho,Instr.makeMap,newObj,Sem.run],A7 _,fun b hi=>hi,fun b hi=>⟨nL (hs.ilt b hi) (A7 _).size,fun _=>hi⟩,
   ARep.om [] [] [] [] w.heap.size #[] 0 (heap_alloc_new w _) .nil .nil (List.Perm.refl _) rfl,by simp,fun b hb=>by
    simp at hb;subst hb
    exact ⟨Nat.le_refl _,by simp,fun hi=>by have:=hs.ilt _ hi;omega⟩⟩
def freshK (q:IntKind) (z:Int) (ks:List DV) : Prop:=∀ k∈ks,∃ z',k=.i q z'∧z'≠z
theorem TD {α β:Type} : ∀ {ks:List α} {vs:List β} {x:α},ks.length=vs.length→x∈ks→∃ v,(x,v)∈ks.zip vs
 | k::ks,v::vs,x,hl,h=>by
  rcases List.mem_cons.1 h with rfl|h
  ·exact ⟨v,by simp⟩
  ·obtain ⟨u,hu⟩:=TD (ks:=ks) (vs:=vs) (by simpa using hl) h
   exact ⟨u,by simp [hu]⟩
theorem Ln {q:IntKind} {z:Int} {ty:TypeDesc} (hty:ty=.int q) : ∀ {es:List MapEntry} {ks:List DV} (n:Nat),RepAll w I ks (es.map MapEntry.key)→freshK q z ks→Instr.findNow ty (.int q z) es n=some none
 | [],_,n,_,_=>rfl
 | e::es,ks,n,hk,hf=>by
  subst hty
  cases hk with
  | @cons c _ cs _ h t =>
   obtain ⟨z',rfl,hz⟩:=hf c (by simp)
   have he:e.key=.int q z':=by
    generalize e.key=u at h
    cases h;rfl
   have hs:Instr.sameNow (.int q) (.int q z) e.key=some false:=by
    rw [he];simp [Instr.sameNow];exact fun h=>hz h.symm
   simp only [Instr.findNow,hs]
   exact Ln rfl (n+1) t fun k hk=>hf k (by simp [hk])
theorem N9 {q:IntKind} {z:Int} {ty:TypeDesc} (hty:ty=.int q) {d:DV} : ∀ {es:List MapEntry} {ks vs:List DV} (n:Nat),RepAll w I ks (es.map MapEntry.key)→RepAll w I vs (es.map MapEntry.val) →
  (∀ k∈ks,∃ z',k=.i q z')→(.i q z,d)∈ks.zip vs→(∀ d',(.i q z,d')∈ks.zip vs→d'=d)→∃ i v,Instr.findNow ty (.int q z) es n=some (some (i,v))∧Rep w I d v
 | [],_,_,n,hk,_,_,hm,_=>by cases hk;simp at hm
 | e::es,ks,vs,n,hk,hv,hi,hm,hu=>by
  subst hty
  cases hk with
  | @cons c _ cs _ h t =>
   cases hv with
   | @cons c2 _ cs2 _ h2 t2 =>
    obtain ⟨z',rfl⟩:=hi c (by simp)
    have he:e.key=.int q z':=by
     generalize e.key=u at h
     cases h;rfl
    by_cases hz:z=z'
    ·subst hz
     have hs:Instr.sameNow (.int q) (.int q z) e.key=some true:=by rw [he];simp [Instr.sameNow]
     refine ⟨n,e.val,by simp only [Instr.findNow,hs],?_⟩
     have:=hu c2 (by simp)
     subst this;exact h2
    ·have hs:Instr.sameNow (.int q) (.int q z) e.key=some false:=by rw [he];simp [Instr.sameNow];exact hz
     simp only [Instr.findNow,hs]
     refine N9 rfl (n+1) t t2 (fun k hk=>hi k (by simp [hk])) ?_ (fun d' hd=>hu d' (by simp [hd]))
     simp only [List.zip_cons_cons,List.mem_cons,Prod.mk.injEq,DV.i.injEq,true_and] at hm
     rcases hm with ⟨h3,_⟩|hm
     ·exact absurd h3 hz
     ·exact hm
theorem La {kt:TypeId} {q:IntKind} {z:Int} (hk:P.underlying kt=some (.int q)) (b:Bool) (n:Nat) : (Instr.checkKey b (n+1) kt (.int q z)).run P w=.ok () w:=by
 unfold Instr.checkKey
 simp [run_underlying hk]
theorem IK {kt:TypeId} {q:IntKind} {z:Int} {es:List MapEntry} {r:Option (Nat×Value)} (hk:P.underlying kt=some (.int q)) (hf:Instr.findNow (.int q) (.int q z) es 0=some r) : (Instr.findKey kt (.int q z) es).run P w=.ok r w:=by
 simp [Instr.findKey,run_underlying hk,hf]
theorem IU {r:Nat} {es:Array MapEntry} {c:Nat} (hh:w.heap[r]?=some (.map es c)) : (getObj r).run P w=.ok (.map es c) w:=by
 simp [getObj,Sem.run,hh]
theorem SL {ty kt et:TypeId} {q:IntKind} {r:Nat} {es:Array MapEntry} {clock:Nat} {z:Int} {v:Value} (hu:P.underlying ty=some (.map kt et)) (hk:P.underlying kt=some (.int q)) (hh:w.heap[r]?=some (.map es clock)) (hf:Instr.findNow (.int q) (.int q z) es.toList 0=some none) :
  (Instr.mapUpdate ty (.map (some r)) (.int q z) v).run P w=.ok () {w with heap:=w.heap.setIfInBounds r (.map (es.push {key:=.int q z,val:=v,born:=clock}) (clock+1))}:=by
 have h1:=La (w:=w) (z:=z) hk false 9999
 have h2:=IK (w:=w) (z:=z) hk hf
 have h3:=IU (P:=P) hh
 unfold Instr.mapUpdate
 simp only [run_underlying hu,Sem.run_bind,Result.andThen_ok,h1,h2,h3]
 simp [setObj,Sem.run,hh]
theorem MV {ty kt et:TypeId} {q:IntKind} {r:Nat} {es:Array MapEntry} {clock:Nat} {z:Int} {i:Nat} {v:Value} (hu:P.underlying ty=some (.map kt et)) (hk:P.underlying kt=some (.int q)) (hh:w.heap[r]?=some (.map es clock)) (hf:Instr.findNow (.int q) (.int q z) es.toList 0=some (some (i,v))) :
  (Instr.lookup ty (.map (some r)) (.int q z) false).run P w=.ok v w:=by
 have h1:=La (w:=w) (z:=z) hk es.isEmpty 9999
 have h2:=IK (w:=w) (z:=z) hk hf
 have h3:=IU (P:=P) hh
 unfold Instr.lookup
 simp only [run_underlying hu,Sem.run_bind,Sem.run_pure,Result.andThen_ok,h1,h2,h3]
 rfl
theorem L2 {ty kt et:TypeId} {q:IntKind} {r:Nat} {es:Array MapEntry} {clock:Nat} {z:Int} {v:Value} (hu:P.underlying ty=some (.map kt et)) (hk:P.underlying kt=some (.int q)) (hz:(zeroValue et).run P w=.ok v w) (hh:w.heap[r]?=some (.map es clock)) (hf:Instr.findNow (.int q) (.int q z) es.toList 0=some none) :
  (Instr.lookup ty (.map (some r)) (.int q z) false).run P w=.ok v w:=by
 have h1:=La (w:=w) (z:=z) hk es.isEmpty 9999
 have h2:=IK (w:=w) (z:=z) hk hf
 have h3:=IU (P:=P) hh
 unfold Instr.lookup
 simp only [run_underlying hu,Sem.run_bind,Sem.run_pure,Result.andThen_ok,h1,h2,h3,hz]
 rfl
theorem K9 {ks vs ks' vs':List DV} (hp:(ks'.zip vs').Perm (ks.zip vs)) (hl:ks'.length=vs'.length) {k:DV} (h:k∈ks') : k∈ks:=by
 obtain ⟨v,hv⟩:=TD hl h
 exact (List.of_mem_zip (hp.mem_iff.1 hv)).1
theorem Sim.om_inv (hs:Sim P X env H a w I μ O) {t:Nat} {ks vs:List DV} (hg:get env t=.om ks vs) :
  ∃ blk es c ks' vs',a.tmps.getD t undef=.map (some blk)∧w.heap[blk]?=some (.map es c)∧RepAll w I ks' (es.toList.map MapEntry.key)∧RepAll w I vs' (es.toList.map MapEntry.val)∧(ks'.zip vs').Perm (ks.zip vs)∧ks.length=vs.length∧O blk=some (.t t):=by
 have:=hs.envr t
 rw [hg] at this
 obtain ⟨bs,h1,h2,h3⟩:=this.plain rfl
 generalize a.tmps.getD t undef=v at h1
 cases h1 with
 | om _ _ ks' vs' blk es c hh hk hv hp hl=>exact ⟨blk,es,c,ks',vs',rfl,hh,hk,hv,hp,hl,h3 blk (by simp)⟩
theorem Sim.ins (hs:Sim P X env H a w I μ O) {t:Nat} {ks vs:List DV} (hg:get env t=.om ks vs) {ty kt et:TypeId} {q:IntKind} {z:Int} {d:DV} {v:Value} (hu:P.underlying ty=some (.map kt et)) (hk:P.underlying kt=some (.int q)) (hf:freshK q z ks) (hv:Rep w I d v) :
  ∃ w',(Instr.mapUpdate ty (a.tmps.getD t undef) (.int q z) v).run P w=.ok () w'∧Sim P X ((t,.om (ks++[.i q z]) (vs++[d]))::env) H a w' I μ O:=by
 obtain ⟨blk,es,c,ks',vs',h1,h2,h3,h4,h5,h6,hO⟩:=hs.om_inv hg
 have hl':ks'.length=vs'.length:=by rw [h3.length,h4.length,List.length_map,List.length_map]
 have hfn:=Ln (q:=q) (z:=z) rfl 0 h3 fun k hk=>hf k (K9 h5 hl' hk)
 have hlt:blk<w.heap.size:=(hs.own blk _ hO).1
 refine ⟨{w with heap:=w.heap.setIfInBounds blk (.map (es.push {key:=.int q z,val:=v,born:=c}) (c+1))},by rw [h1];exact SL hu hk h2 hfn,?_⟩
 have hoth:∀ b,b≠blk→(w.heap.setIfInBounds blk (.map (es.push {key:=.int q z,val:=v,born:=c}) (c+1)))[b]?=w.heap[b]?:=fun b hb=>by
  rw [Array.getElem?_setIfInBounds,if_neg (Ne.symm hb)]
 obtain ⟨n1,_,_⟩:=hs.other_blk hO
 refine hs.blkSet (w':={w with heap:=w.heap.setIfInBounds blk (.map (es.push {key:=.int q z,val:=v,born:=c}) (c+1))}) (av:=.om (ks++[.i q z]) (vs++[d])) hO (by rw [hg];rfl) rfl hoth (by simp) rfl rfl rfl ?_
 rw [h1]
 have hI:∀ b,I b→(w.heap.setIfInBounds blk (.map (es.push {key:=.int q z,val:=v,born:=c}) (c+1)))[b]?=w.heap[b]?:=fun b hi=>hoth b (n1 b hi)
 refine .om _ _ (ks'++[.i q z]) (vs'++[d]) blk (es.push {key:=.int q z,val:=v,born:=c}) (c+1) ?_ ?_ ?_ ?_ (by simp [h6])
 ·show (w.heap.setIfInBounds blk _)[blk]?=_
  rw [Array.getElem?_setIfInBounds,if_pos rfl,if_pos hlt]
 ·rw [Array.toList_push,List.map_append]
  exact (h3.keep hI fun _ h=>h).append (.cons (.i _ _) .nil)
 ·rw [Array.toList_push,List.map_append]
  exact (h4.keep hI fun _ h=>h).append (.cons (hv.keep hI fun _ h=>h) .nil)
 ·rw [List.zip_append hl',List.zip_append h6]
  exact List.Perm.append h5 (List.Perm.refl _)
theorem Aad {m:Nat} {x y:Operand} {ty kt et:TypeId} {q:IntKind} {z:Int} {ks vs:List DV} {d:DV} (hu:P.underlying ty=some (.map kt et)) (hk:P.underlying kt=some (.int q)) (hf:freshK q z ks) (h:RL P C ops Q (k+1) l ((m,.om (ks++[.i q z]) (vs++[d]))::env) H) (hg:grd ops env o true=true:=by rfl)
  (ho:o.op=.insert ty (.tmp m) x y:=by rfl) (hm:get env m=.om ks vs:=by rfl) (hx:A0 (lk env x)=some (.i q z):=by rfl) (hy:A0 (lk env y)=some d:=by rfl) (hd:o.dst=none:=by rfl):RL P C ops Q k (o::l) env H:=by
 refine .go hg (.done (by simp [ho]) hd (fun X a w I μ O _ _ _ hs=>?_) h)
 have h1:=hs.deep (x:=x) hx
 have h2:=hs.deep (x:=y) hy
 generalize hev:a.eval x=u at h1
 cases h1
 obtain ⟨w',r1,r2⟩:=hs.ins hm hu hk hf h2
 have he:a.eval (.tmp m)=a.tmps.getD m undef:=rfl
 exact ⟨w',I,μ,O,by simp only [execOp,ho,hev,he,r1,Sem.run_bind,Result.andThen_ok,Sem.run_pure],r2⟩
theorem Gh.omf {t:Nat} {ks vs:List DV} (hg:get env t=.om ks vs) : Gh P C env H ((t,.d (.mp ks vs))::env) H:=fun X a w I μ O _ _ _ hs=>by
 obtain ⟨blk,es,c,ks',vs',h1,h2,h3,h4,h5,h6,hO⟩:=hs.om_inv hg
 obtain ⟨n1,n2,n3⟩:=hs.other_blk hO
 refine ⟨_,_,⟨hs.toMem.frz [blk] (fun b hm=>by simp at hm;subst hm;exact (hs.own b _ hO).1) (fun b hm hk=>by simp at hm;exact n2 b hk hm) H rfl ?_,fun s=>?_,hs.nt,hs.dfs⟩⟩
 ·intro id ob ho
  obtain ⟨bb,bs,k1,k2,k3,k4⟩:=hs.heap id ob ho
  refine ⟨bb,bs,k1,k2.mono fun _ h=>.inl h,fun hn=>⟨(k3 hn).1,fun b hb=>?_⟩,k4⟩
  have:b∉[blk]:=by simpa using n3 id ob bb bs ho k1 k3 k4 b hb
  simp only [this,if_false]
  exact (k3 hn).2 b hb
 ·by_cases hst:t=s
  ·subst hst
   rw [show get ((t,.d (.mp ks vs))::env) t=.d (.mp ks vs) by simp [get]]
   refine .of (bs:=[]) ?_ nN (by simp)
   rw [h1]
   exact .d (.mp ks vs ks' vs' blk es c (.inr (by simp)) h2 (h3.keep (fun _ _=>rfl) fun _ h=>.inl h) (h4.keep (fun _ _=>rfl) fun _ h=>.inl h) h5 h6)
  ·rw [show get ((t,.d (.mp ks vs))::env) s=get env s by simp [get,hst]]
   have key:∀ p e xs,AB env H p=.own e xs→AB ((t,AV.d (.mp ks vs))::env) H p=.own e xs:=by
    intro p e' xs hp
    cases p with
    | t r =>
     have hr':t≠r:=fun h=>by subst h;simp only [AB] at hp;rw [hg] at hp;cases hp
     simp only [AB,get,if_neg hr'];exact hp
    | c id off=>exact hp
   have ht:=hs.envr s
   cases hgs:get env s with
   | ref p off len =>
    rw [hgs] at ht
    obtain ⟨e',xs,A,n,c,g1,g2,g3,g4⟩:=ht
    exact ⟨e',xs,A,n,c,key p e' xs g1,g2,g3,g4⟩
   | ep p i k =>
    rw [hgs] at ht
    obtain ⟨e',xs,b,n,c,g1,g2,g3,g4,g5⟩:=ht
    exact ⟨e',xs,b,n,c,key p e' xs g1,g2,g3,g4,g5⟩
   | _ =>
    rw [hgs] at ht
    obtain ⟨bs,g1,g2,g3⟩:=ht.plain rfl
    refine .of (g1.keep (fun _ h=>.inl h) (fun _ _=>rfl) (fun _ _ h=>h) fun _ _=>rfl) g2 fun b hb=>?_
    have:b∉[blk]:=fun hm=>by
     simp at hm;subst hm
     have:=g3 b hb;rw [hO] at this;simp at this;exact hst this
    simp only [this,if_false]
    exact g3 b hb
theorem Abb {x y:Operand} {ty kt et:TypeId} {q:IntKind} {z:Int} {ks vs:List DV} {d:DV} (hu:P.underlying ty=some (.map kt et)) (hk:P.underlying kt=some (.int q)) (hi:∀ k∈ks,∃ z',k=.i q z') (hm:(.i q z,d)∈ks.zip vs) (hq:∀ d',(.i q z,d')∈ks.zip vs→d'=d)
  (ho:o.op=.lookup ty x y false:=by rfl) (hx:A0 (lk env x)=some (.mp ks vs):=by rfl) (hy:A0 (lk env y)=some (.i q z):=by rfl):VOK P C o env H (.d d) :=
 .pv ⟨by simp [ho],fun X a w I μ O _ hs=>by
  have h1:=hs.deep (x:=x) hx
  have h2:=hs.deep (x:=y) hy
  generalize hev:a.eval x=u at h1
  generalize hev2:a.eval y=u2 at h2
  cases h2
  cases h1 with
  | mp _ _ ks' vs' r es c hI hh h3 h4 hp hl =>
   have hl':ks'.length=vs'.length:=by rw [h3.length,h4.length,List.length_map,List.length_map]
   obtain ⟨i,v,e1,e2⟩:=N9 (q:=q) (z:=z) (d:=d) rfl 0 h3 h4 (fun k hk=>hi k (K9 hp hl' hk)) (hp.mem_iff.2 hm) fun d' hd=>hq d' (hp.mem_iff.1 hd)
   exact ⟨v,by simp only [execOp,ho,hev,hev2,MV hu hk hh e1,Sem.run_bind,Result.andThen_ok,Sem.run_pure],.of_rep e2⟩⟩
theorem Abm {x y:Operand} {ty kt et:TypeId} {q:IntKind} {z:Int} {ks vs:List DV} {d:DV} {zv:Value} (hu:P.underlying ty=some (.map kt et)) (hk:P.underlying kt=some (.int q)) (hz:∀ w,(zeroValue et).run P w=.ok zv w) (hd:∀ w I,Rep w I d zv) (hf:freshK q z ks)
  (ho:o.op=.lookup ty x y false:=by rfl) (hx:A0 (lk env x)=some (.mp ks vs):=by rfl) (hy:A0 (lk env y)=some (.i q z):=by rfl):VOK P C o env H (.d d) :=
 .pv ⟨by simp [ho],fun X a w I μ O _ hs=>by
  have h1:=hs.deep (x:=x) hx
  have h2:=hs.deep (x:=y) hy
  generalize hev:a.eval x=u at h1
  generalize hev2:a.eval y=u2 at h2
  cases h2
  cases h1 with
  | mp _ _ ks' vs' r es c hI hh h3 h4 hp hl =>
   have hl':ks'.length=vs'.length:=by rw [h3.length,h4.length,List.length_map,List.length_map]
   have e1:=Ln (q:=q) (z:=z) rfl 0 h3 fun k hk=>hf k (K9 hp hl' hk)
   exact ⟨zv,by simp only [execOp,ho,hev,hev2,L2 hu hk (hz w) hh e1,Sem.run_bind,Result.andThen_ok,Sem.run_pure],.of_rep (hd w I)⟩⟩
end
end Go.FL
namespace Go.FL
open Go Go.Proofs
theorem LG : BH Tryz.prog 35=some true:=by kernel_rfl
theorem J4 : Av Tryz.prog 35=5:=by kernel_rfl
theorem Hp : Br Tryz.prog 35 0=some (0,1):=by kernel_rfl
theorem Aay : CR Tryz.prog 35=some [(0,1),(1,3),(4,1)]:=by kernel_rfl
theorem YB : (Tryz.prog.info? 35).bind (·.zero)=some (.agg #[.int .i64 0,.bool false,.slice none 0 0,.slice none 0 0,.int .i64 0]):=by kernel_rfl
theorem Yp (w:World) (I:Nat→Prop) : RepAll w I [.i .i64 0,.b false,.sl [],.sl [],.i .i64 0] (Value.agg #[.int .i64 0,.bool false,.slice none 0 0,.slice none 0 0,.int .i64 0]).cells.toList:=.cons (.i _ _) (.cons (.b _) (.cons (.sl0 _ _) (.cons (.sl0 _ _) (.cons (.i _ _) (.nil)))))
end Go.FL
namespace Go.FL
open Go Go.RowKit
section
variable {P:Program} {C:Cx} {X:Snap} {o:Oper} {ops:Array Oper} {Q:Exit→Env→Ab→Prop} {env env':Env} {H H':Ab} {a:Act} {w w':World} {I I':Nat→Prop} {μ μ':List Nat} {O O':Nat→Option Loc}
 {K:Env→Ab→Prop} {k:Nat} {l:List Oper}
theorem XK {y:Operand} {t ty:Nat} {c c':DV} (hsz:Av P ty=1) (ho:o.op=.store ty (.tmp t) y) (hv:get env t=.nb [c]) (hy:A0 (lk env y)=some c') (h1:c'.leaf=true) (hd:o.dst=none) (hK:K ((t,.nb [c'])::env) H) : OpOK P C o env H K:=by
 refine .done (by simp [ho]) hd (fun X a w I μ O _ _ _ hs=>?_) hK
 have hr:=hs.deep (x:=y) hy
 generalize hev:a.eval y=u at hr
 obtain ⟨blk,cells,e,q1,q2,q3,q4⟩:=hs.nbSet (vs:=[u]) hv (.cons hr .nil)
 refine ⟨_,I,μ,O,?_,q4⟩
 have hone:=hr.one h1
 obtain ⟨old,hold⟩:∃ old,cells=#[old]:=by
  have hl:=q3.length
  match hc:cells.toList,hl with
  | [old],_=>exact ⟨old,by apply Array.ext';simpa using hc⟩
 subst hold
 obtain ⟨i,i1,i2⟩:=GX (P:=P) (t:=ty) (by omega)
 have hx:a.eval (.tmp t)=.pointer (some ⟨blk,0,none⟩):=q1
 have hsi:(P.info? ty).map (·.size)=some 1:=by rw [i1];simp;omega
 simp only [execOp,ho,hx,hev,Instr.storeAt,Instr.sureAddr,Sem.run_bind,Sem.run_pure,Result.andThen_ok,Go.run_storeVar_one w blk e ty old u q2 hsi hone]
theorem UM {y:Operand} {t ty:Nat} {c c':DV} (h:RL P C ops Q (k+1) l ((t,.nb [c'])::env) H) (hsz:Av P ty=1) (hg:grd ops env o true=true:=by rfl) (ho:o.op=.store ty (.tmp t) y:=by rfl)
  (hv:get env t=.nb [c]:=by rfl) (hy:A0 (lk env y)=some c':=by rfl) (h1:c'.leaf=true:=by rfl) (hd:o.dst=none:=by rfl):RL P C ops Q k (o::l) env H :=
 .go hg (XK hsz ho hv hy h1 hd h)
theorem mk' {α:Type} {F:List α→List DV} {x0:α} {x c:Operand} {ty t e by_:Nat} {z:Value} {q q':IntKind} {zl:Int} (n:Nat) (hF:List.replicate n (Si z)=F (List.replicate n x0)) (hn:zl=n) (hb:by_ * n≤281474976710656∧n≤9223372036854775807) (h:RL P C ops Q (k+1) l ((t,.own e (F (List.replicate n x0)))::env) H)
  (hT:Cb P ty=some (e,1,by_,z)) (hz:zok z=true) (hg:grd ops env o true=true:=by rfl) (ho:o.op=.makeSlice ty x c:=by rfl) (hx:lk env x=.d (.i q zl):=by rfl) (hc:lk env c=.d (.i q' zl):=by rfl) (hd:o.dst=some t:=by rfl)
  (hf:Aj (get env t)=false:=by rfl) (ht:okT C.nt t:=by rfl):RL P C ops Q k (o::l) env H :=
 mk n ⟨hn,hn⟩ hb (by rw [hF];exact h) hT hz hg ho hx hc hd hf ht
end
end Go.FL
namespace Go.FL
open Go Go.RowKit
def X9 (id:Nat) (cs:List DV) : AV→AV
 | .bp i off=>if i=id then .d (.ptr (cs.drop off)) else .bp i off
 | .d v=>.d v
 | .nl=>.nl
 | .own e xs=>.own e xs
 | .nb xs=>.nb xs
 | .it s p=>.it s p
 | .om k v=>.om k v
 | .ref (.t s) o n=>.ref (.t s) o n
 | .ep (.t s) i k=>.ep (.t s) i k
 | _=>.un
def Ue (id:Nat) (cs:List DV) (env:Env) : Env:=env.map fun x=>(x.1,X9 id cs x.2)
theorem Ks (id:Nat) (cs:List DV) (t:Nat) : ∀ env : Env,get (Ue id cs env) t=X9 id cs (get env t)
 | []=>rfl
 | (s,v)::r=>by
  show (if s=t then X9 id cs v else get (Ue id cs r) t)=X9 id cs (if s=t then v else get r t)
  split
  ·rfl
  ·exact Ks id cs t r
def S2 : HO→Bool
 | .box cs=>noBpL cs
 | .mo _ _=>true
section
variable {P:Program} {C:Cx} {X:Snap} {o:Oper} {ops:Array Oper} {Q:Exit→Env→Ab→Prop} {env env':Env} {H H':Ab} {a:Act} {w w':World} {I I':Nat→Prop} {μ μ':List Nat} {O O':Nat→Option Loc}
 {K:Env→Ab→Prop} {k:Nat} {l:List Oper}
theorem ARepAll.deepAll : ∀ {cs:List DV} {vs:List Value} {bs:List Nat},ARepAll P w I μ (cs.map .d) vs bs→bs=[]∧RepAll w I cs vs
 | [],_,_,h=>by cases h;exact ⟨rfl,.nil⟩
 | c::cs,_,_,h=>by
  cases h with
  | cons h t =>
   obtain ⟨e,r⟩:=t.deepAll
   subst e
   cases h with
   | d h=>exact ⟨rfl,.cons h r⟩
theorem Gh2.pop {H0:Ab} {bx:List AV} {cs:List DV} (hH:H=H0++[.box bx]) (hb:bx=cs.map .d) (hb0:H0.all S2=true) (hne:Nat.ble C.ne H0.length=true) : Gh2 P C env H (Ue H0.length cs env) H0:=fun X a w I μ O _ h2 h3 hs=>by
 subst hH hb
 have hne':X.ne≤H0.length:=by rw [h3];exact Nat.le_of_ble_eq_true hne
 have hn0:X.n0≤H0.length:=nT hs.n0le hne'
 have hμl:μ.length=H0.length+1:=by rw [hs.μlen];simp
 obtain ⟨blk,bs,k1,⟨cells,e,m1,m2⟩,k3,_⟩:=hs.heap H0.length (.box (cs.map .d)) (by simp)
 obtain ⟨rfl,m3⟩:=m2.deepAll
 have hO:O blk=some (.o H0.length):=(k3 hn0).2 blk (by simp)
 have hKn:∀ b,X.K b→b≠blk:=fun b hk e=>by subst e;have:=hs.kO _ hk;rw [hO] at this;cases this
 have hμt:∀ i,i<H0.length→(μ.take H0.length)[i]?=μ[i]?:=fun i hi=>by rw [List.getElem?_take,if_pos hi]
 have hOn:∀ b l,O b=some l→l≠.o H0.length→(if b=blk then none else O b)=some l:=fun b l h hl=>by
  rw [if_neg fun e=>by subst e;rw [hO] at h;exact hl (oI h).symm];exact h
 refine ⟨fun b=>I b∨b=blk,μ.take H0.length,fun b=>if b=blk then none else O b,{
  prot:=hs.prot
  kO:=fun b hk=>by rw [if_neg (hKn b hk)];exact hs.kO b hk
  kI:=fun b hk hi=>hi.elim (hs.kI b hk) fun e=>absurd e (hKn b hk)
  mono:=fun b hi=>.inl (hs.mono b hi)
  os:=hs.os,tape:=hs.tape,output:=hs.output,size:=hs.size
  own:=fun b l hl=>by
   by_cases hb:b=blk
   ·rw [if_pos hb] at hl;cases hl
   ·rw [if_neg hb] at hl
    exact ⟨(hs.own b l hl).1,fun hi=>hi.elim (hs.own b l hl).2 hb⟩
  ilt:=fun b hi=>hi.elim (hs.ilt b) fun e=>by rw [e];exact (hs.own blk _ hO).1
  μlen:=by rw [List.length_take];omega
  μpre:=fun i b hi hb=>by rw [hμt i (by omega)];exact hs.μpre i b hi hb
  nle:=hne'
  heap:=fun id ob ho=>?_
  klt:=hs.klt
  n0le:=hs.n0le
  envr:=fun s=>?_
  nt:=hs.nt
  dfs:=hs.dfs}⟩
 ·have hlt:=(lS.1 ho).1
  obtain ⟨bb,bs',q1,q2,q3,q4⟩:=hs.heap id ob (by rw [List.getElem?_append_left hlt];exact ho)
  refine ⟨bb,bs',by rw [hμt id hlt];exact q1,?_,fun hn=>⟨(q3 hn).1,fun b hb=>hOn b _ ((q3 hn).2 b hb) (by simp;omega)⟩,q4⟩
  have hnb:S2 ob=true:=List.all_eq_true.1 hb0 ob (List.mem_of_getElem? ho)
  cases ob with
  | box c =>
   obtain ⟨cl,et,n1,n2⟩:=q2
   exact ⟨cl,et,n1,(n2.noBp (μ':=μ.take H0.length) hnb).keep (fun _ h=>.inl h) (fun _ _=>rfl) (fun _ _ h=>h) fun _ _=>rfl⟩
  | mo _ _=>exact ⟨q2.1,q2.2.keep rfl (fun _ _=>rfl) fun _ h=>.inl h⟩
 ·rw [Ks]
  have ht:=hs.envr s
  have plain:∀ av,get env s=av→noBp av=true→AI av=false→TRep P (Ue H0.length cs env) H0 a w (fun b=>I b∨b=blk) (μ.take H0.length) (fun b=>if b=blk then none else O b) s av:=by
   intro av hav hn hr
   rw [hav] at ht
   obtain ⟨bs,g1,g2,g3⟩:=ht.plain hr
   exact .of ((g1.noBp (μ':=μ.take H0.length) hn).keep (fun _ h=>.inl h) (fun _ _=>rfl) (fun _ _ h=>h) fun _ _=>rfl) g2 fun b hb=>hOn b _ (g3 b hb) (by simp)
  cases hgs:get env s with
  | bp i off =>
   rw [hgs] at ht
   obtain ⟨bs,g1,g2,g3⟩:=ht.plain rfl
   show TRep P _ _ a w _ _ _ s (if i=H0.length then .d (.ptr (cs.drop off)) else .bp i off)
   generalize hv:a.tmps.getD s undef=v at g1
   cases g1 with
   | bp _ _ blk' hb' =>
    by_cases hi:i=H0.length
    ·rw [if_pos hi]
     subst hi
     rw [k1] at hb'
     obtain rfl:=oI hb'
     refine .of (bs:=[]) ?_ nN (by simp)
     rw [hv]
     have hh:Has w blk 0 cells.toList:=fun j u hj=>by
      simp [World.cell?,m1]
      simpa using hj
     have hh2:=hh.drop off
     rw [Nat.zero_add] at hh2
     exact .d (.ptr _ blk off (cells.toList.drop off) (.inr rfl) hh2 ((m3.drop off).keep (fun _ _=>rfl) fun _ h=>.inl h))
    ·rw [if_neg hi]
     have hlt:=(lS.1 hb').1
     refine .of (bs:=[]) ?_ nN (by simp)
     rw [hv]
     exact .bp i off blk' (by rw [hμt i (by omega)];exact hb')
  | ref p off len =>
   cases p with
   | c _ _=>exact .un
   | t r =>
    rw [hgs] at ht
    obtain ⟨e',xs,A,n,c,g1,g2,g3,g4⟩:=ht
    refine ⟨e',xs,A,n,c,?_,g2,g3,g4⟩
    show get (Ue H0.length cs env) r=_
    rw [Ks,show get env r=_ from g1];rfl
  | ep p i k =>
   cases p with
   | c _ _=>exact .un
   | t r =>
    rw [hgs] at ht
    obtain ⟨e',xs,b,n,c,g1,g2,g3,g4,g5⟩:=ht
    refine ⟨e',xs,b,n,c,?_,g2,g3,g4,g5⟩
    show get (Ue H0.length cs env) r=_
    rw [Ks,show get env r=_ from g1];rfl
  | d v=>exact plain _ hgs rfl rfl
  | nl=>exact plain _ hgs rfl rfl
  | own e xs=>exact plain _ hgs rfl rfl
  | nb xs=>exact plain _ hgs rfl rfl
  | it s p=>exact plain _ hgs rfl rfl
  | om k v=>exact plain _ hgs rfl rfl
  | un=>exact .un
  | ag _=>exact .un
  | fn _ _ _=>exact .un
  | tup _=>exact .un
  | mr _=>exact .un
end
end Go.FL
namespace Go.FL
open Go Go.RowKit
section
variable {P:Program} {C:Cx} {X:Snap} {o:Oper} {ops:Array Oper} {Q:Exit→Env→Ab→Prop} {env env' envi:Env} {H H':Ab} {a:Act} {w w':World} {I I':Nat→Prop} {μ μ':List Nat} {O O':Nat→Option Loc}
 {K:Env→Ab→Prop} {k:Nat} {l:List Oper} {av:AV}
def XC : Nat:=1000000000
end
end Go.FL
namespace Go.FL
open Go Go.RowKit
section
variable {P:Program} {C:Cx} {X:Snap} {o:Oper} {ops:Array Oper} {Q:Exit→Env→Ab→Prop} {env env' envi env0 vals:Env} {H H':Ab} {a:Act} {w w':World} {I I':Nat→Prop} {μ μ':List Nat} {O O':Nat→Option Loc}
 {k:Nat} {l:List Oper} {av v:AV} {t tm i0 ty n:Nat} {q:IntKind} {ps qs:List (Int×DV)}
inductive DLM (P:Program) (C:Cx) (ops:Array Oper) (H:Ab) (env0:Env) (tm i0 ty:Nat) (q:IntKind) : Nat→Env→List (Int×DV)→List Oper→Env→List (Int×DV)→Prop
 | nil (n:Nat) (vals:Env) (ps:List (Int×DV)):DLM P C ops H env0 tm i0 ty q n vals ps [] vals ps
 | run {n:Nat} {vals fin:Env} {ps qs:List (Int×DV)} {o:Oper} {t:Nat} {v:AV} {l:List Oper} (hi:n≠i0) (hd:o.dst=some t) (ht:okT C.nt t) (h0:P0 (get env0 t)=true) (hn:(vals.map (·.1)).contains t=false) (hs:GW t v=true)
   (hg:grd ops (Bq (o.looksAt ops) vals++env0) o true=true) (hv:VOK P C o (Bq (o.looksAt ops) vals++env0) H v) (hr:CB (Bq (o.looksAt ops) vals++env0)=true) (hl:(o.looksAt ops).contains tm=false) (htd:t<XC) (htm:t≠tm)
   (h:DLM P C ops H env0 tm i0 ty q (n+1) ((t,v)::vals) ps l fin qs):DLM P C ops H env0 tm i0 ty q n vals ps (o::l) fin qs
 | mk {vals fin:Env} {ps qs:List (Int×DV)} {o:Oper} {l:List Oper} (hd:o.dst=some tm) (ht:okT C.nt tm) (h0:P0 (get env0 tm)=true) (hn:(vals.map (·.1)).contains tm=false)
   (hg:grd ops (Bq (o.looksAt ops) vals++env0) o true=true) (hv:VOK P C o (Bq (o.looksAt ops) vals++env0) H (.om [] [])) (hr:CB (Bq (o.looksAt ops) vals++env0)=true) (hl:(o.looksAt ops).contains tm=false) (htd:tm<XC)
   (h:DLM P C ops H env0 tm i0 ty q (i0+1) ((tm,.om [] [])::vals) ps l fin qs):DLM P C ops H env0 tm i0 ty q i0 vals ps (o::l) fin qs
 | ins {n:Nat} {vals fin:Env} {ps qs:List (Int×DV)} {o:Oper} {l:List Oper} {x y:Operand} {z:Int} {d:DV} (hi:n≠i0) (hd:o.dst=none) (hgn:o.guard=none) (hop:o.op=.insert ty (.tmp tm) x y) (hx:∀ e,lk e x=.d (.i q z))
   (hy:(∀ e,lk e y=.d d)∨∃ s,y=.tmp s∧s≠tm∧s∈o.looksAt ops∧get (Bq (o.looksAt ops) vals++env0) s=.d d) (hdi:EY ops n i0=true) (h0:get env0 (XC+n)=.un)
   (h:DLM P C ops H env0 tm i0 ty q (n+1) ((XC+n,.un)::vals) (ps++[(z,d)]) l fin qs):DLM P C ops H env0 tm i0 ty q n vals ps (o::l) fin qs
end
end Go.FL
namespace Go.FL
open Go Go.Proofs
section
variable {P:Program} {C:Cx} {o:Oper} {ops:Array Oper} {Q:Exit→Env→Ab→Prop} {env:Env} {H:Ab} {k:Nat} {l:List Oper}
theorem freshK.nil {q:IntKind} {z:Int} : freshK q z []:=nofun
theorem freshK.snoc {q:IntKind} {z z':Int} {ks:List DV} (h:freshK q z ks) (hz:z'≠z) : freshK q z (ks++[.i q z']):=fun k hk=>by
 rcases List.mem_append.1 hk with h1|h1
 ·exact h k h1
 ·rw [List.mem_singleton] at h1
  exact ⟨z',h1,hz⟩
end
theorem gkR : Tryz.prog.underlying 21=some (.int .i32):=by kernel_rfl
theorem Z3 {n:Nat} : List.replicate n (Si (.int .i64 0))=Is (List.replicate n 0):=by simp [Is,Si]
abbrev Hx : Type:=FW ((List Int)) (Int)
def GC (a0:Arr) : Option (Itm):=((Bw a0).bind fun x1=>(if x1=true then ((rd? a0.items 0).bind fun x2=>((Kg x2).bind fun x3=>(some (x3)))) else (some ((Itm.mk 0 (false,[],[]) 0 [])))))
def CS (a0:(List Int)) (K0:(List Int)→Option ((List Int))) : Nat→(List Int)→Int→Int→Option ((List Int))
 | 0,_,_,_=>none
 | k+1,s3,s4,s5=>(if 0≤s5 then ((rd? s3 s5).bind fun x6=>((rd? a0 s5).bind fun x7=>(CS a0 K0 k (List.set s3 (Int.toNat s5) s4) (w64 (s4 * x7)) (w64 (s5-1))))) else (K0 s3))
def Fg (a0:(List Int)) : Option ((List Int)):=((Gk (0≤((List.length a0:Nat) : Int)∧((List.length a0:Nat) : Int)≤17592186044416)).bind fun x1=>(jn (fun (z2:(List Int))=>(some (z2))) fun K0=>(CS a0 K0 AH (List.replicate (Int.toNat ((List.length a0:Nat) : Int)) (0:Int)) 1 (w64 (((List.length a0:Nat) : Int)-1)))))
def H9 (a0:(List Int)) (a1:(List Int)) (K0:Int→Option (Int)) : Nat→Int→Int→Option (Int)
 | 0,_,_=>none
 | k+1,s2,s3=>(if s3<((List.length a0:Nat):Int) then ((rd? a0 s3).bind fun x4=>((rd? a1 s3).bind fun x5=>(H9 a0 a1 K0 k (w64 (s2+(w64 (x4 * x5)))) (w64 (s3+1))))) else (K0 s2))
def Rz (a0:(List Int)) (a1:(List Int)) : Option (Int):=(jn (fun (z1:Int)=>(some (z1))) fun K0=>(H9 a0 a1 K0 AH 0 0))
def Io (a1:(List Int)) (x3:(List Int)) (s8:Int) (K3:(List Int)→Option (Arr×Int)) : Nat→(List Int)→Int→Option (Arr×Int)
 | 0,_,_=>none
 | k+1,s12,s13=>(if s13<((List.length x3:Nat):Int) then ((rd? x3 s13).bind fun x14=>((Gk (x14≠0)).bind fun x15=>((rd? a1 s13).bind fun x16=>((Gk (x16≠0)).bind fun x17=>((rd? s12 s13).bind fun x18=>(Io a1 x3 s8 K3 k (List.set s12 (Int.toNat s13) (Int.tmod (w64 (Int.tdiv s8 x14)) x16)) (w64 (s13+1)))))))) else (K3 s12))
def Ge (a0:Arr) (a1:(List Int)) (a2:Hx) (x1:Int×Int) (x2:Itm) (x3:(List Int)) (K0:(List Itm)→Option (Arr×Int)) : Nat→(List Int)→(List Itm)→Int→Option (Arr×Int)
 | 0,_,_,_=>none
 | k+1,s6,s7,s8=>(if s8<x1.1 then (jn (fun (z9:(List Int)) (z10:(List Itm))=>(Ge a0 a1 a2 x1 x2 x3 K0 k z9 z10 (w64 (s8+1)))) fun K2=>(jn (fun (z11:(List Int))=>((a2.g z11).bind fun x19=>(if 0≤x19 then ((rd? a0.items x19).bind fun x20=>((ap? 1466015503701 s7 [x20]).bind fun x21=>(K2 z11 x21))) else ((ap? 1466015503701 s7 [x2]).bind fun x22=>(K2 z11 x22))))) fun K3=>(Io a1 x3 s8 K3 AH s6 0))) else (K0 s7))
def Ey (a0:Arr) (a1:(List Int)) (a2:Hx) : Option (Arr×Int):=((Df a1).bind fun x1=>(if x1.2=0 then ((GC a0).bind fun x2=>((Fg a1).bind fun x3=>((Gk (0≤((List.length a1:Nat) : Int)∧((List.length a1:Nat) : Int)≤17592186044416)).bind fun x4=>(jn (fun (z5:(List Itm))=>(jn (fun (z23:(List Itm))=>((Bi a1 z23).bind fun x25=>(some (x25.1,x25.2)))) fun K5=>(if x1.1=0 then ((ap? 1466015503701 z5 [x2]).bind fun x24=>(K5 x24)) else (K5 z5)))) fun K0=>(Ge a0 a1 a2 x1 x2 x3 K0 AH (List.replicate (Int.toNat ((List.length a1:Nat) : Int)) (0:Int)) [] 0))))) else (some ((Arr.mk [] []),x1.2))))
def Nr : List Int→List Int×Int
 | []=>([],1)
 | x::xs=>((Nr xs).2::(Nr xs).1,w64 ((Nr xs).2 * x))
theorem JV {a:List Int} (hl:a.length≤17592186044416) (K:List Int→Option (List Int)) : ∀ (i k:Nat),i≤a.length→i<k →
  CS a K k (List.replicate i 0++(Nr (a.drop i)).1) (Nr (a.drop i)).2 ((i:Int)-1)=K (Nr a).1
 | _,0,_,h=>by omega
 | 0,k+1,_,_=>by rw [CS,if_neg (by omega)];rfl
 | i+1,k+1,hi,hk=>by
  have hlt:i<a.length:=by omega
  rw [CS,if_pos (by omega)]
  have e0:((i+1:Nat):Int)-1=(i:Int):=by omega
  have e1:List.replicate (i+1) (0:Int)++(Nr (a.drop (i+1))).1=List.replicate i 0++0::(Nr (a.drop (i+1))).1:=by
   rw [List.replicate_succ',List.append_assoc];rfl
  rw [e0,e1,Ci (by simp),oB,Ci hlt,oB,Int.toNat_natCast,List.set_append_right _ _ (by simp),List.length_replicate,Nat.sub_self,List.set_cons_zero,show w64 ((i:Int)-1)=(i:Int)-1 from EH (by omega) (by omega)]
  have e2:a.drop i=a[i]::a.drop (i+1):=lC hlt
  have ih:=JV hl K i k (by omega) (by omega)
  rw [e2] at ih
  exact ih
theorem My {a:List Int} (hl:a.length≤17592186044416) : Fg a=some (Nr a).1:=by
 unfold Fg
 have hg:Gk (0≤((List.length a:Nat):Int)∧((List.length a:Nat):Int)≤17592186044416)=some ():=if_pos (by omega)
 rw [hg,oB,DA]
 have:=JV hl (fun z=>some z) a.length AH (Nat.le_refl _) (CE (by omega))
 rw [List.drop_of_length_le (Nat.le_refl _)] at this
 rw [Int.toNat_natCast,EH (by omega) (by omega)]
 rw [show (Nr []).1=[] from rfl,List.append_nil] at this
 exact this
theorem Vn {a:Arr} (oa:okAr a) (ra:BL a) : GC a=some (tyI (a.items.headD default)):=by
 have hp:=Oe ra
 unfold GC
 rw [Ip oa,oB,dT ra,if_pos rfl]
 cases hi:a.items with
 | nil=>rw [hi] at hp;simp at hp
 | cons x xs =>
  obtain ⟨ox,rx⟩:=GI oa ra (x:=x) (by rw [hi];simp)
  rw [LQ,oB,Ql ox rx.1];rfl
theorem Aaw {α:Type} {L r:List α} {j:Nat} (hl:L.length=r.length) (h:j<L.length) : (L.take j++r.drop j).set j L[j]=L.take (j+1)++r.drop (j+1):=by
 have hj:(L.take j).length=j:=by rw [List.length_take];omega
 have e:r.drop j=r[j]'(by omega)::r.drop (j+1):=lC (by omega)
 rw [e,List.set_append_right _ _ (by omega),hj,Nat.sub_self,List.set_cons_zero,List.take_succ_eq_append_getElem h,List.append_assoc]
 rfl
def Aca (a:Arr) (p:Itm) (j:Int) : Itm:=if 0≤j then a.items.getD j.toNat default else p
theorem Su {a:Arr} {s:List Int} {F:Hx} {p:Itm} (hp:GC a=some p) (hl:s.length≤17592186044416) (hs:szP s=(0,0)) : Ey a s F=Bi s [p]:=by
 have hg:Gk (0≤((List.length s:Nat):Int)∧((List.length s:Nat):Int)≤17592186044416)=some ():=if_pos (by omega)
 have hF:AH=999999999999999+1:=rfl
 unfold Ey
 rw [Ma hl,oB,hs,if_pos rfl,hp,oB,My hl,oB,hg,oB,DA,hF,Ge,if_neg (by decide),DA,if_pos rfl,Lv (by simp),oB]
 show ((Bi s [p]).bind fun x25=>some (x25.1,x25.2))=_
 generalize Bi _ _=m
 cases m<;>rfl
theorem TM {a:Arr} (oa:okAr a) (ra:BL a) (hz:szP a.shape=(0,0)) {s:List Int} (hs64:∀ z∈s,-9223372036854775808≤z∧z≤9223372036854775807) (hl:s.length≤17592186044416) (hsz:szP s=(0,0)) {p:Itm} (hp:p=a.items.headD default∨p=tyI (a.items.headD default)) :
  Bi s [p]=some (.mk s [tyI (a.items.headD default)],0):=by
 have hne:=Oe ra
 obtain ⟨r1,r2,r3⟩:=ra
 have hlen:a.items.length=1:=by
  have:=(KL r1).2.1
  rw [hz] at this
  rw [if_pos (by decide)] at this
  omega
 obtain ⟨x,hx⟩:=List.length_eq_one_iff.1 hlen
 have hx':a.items.headD default=x:=by rw [hx];rfl
 rw [hx'] at hp ⊢
 obtain ⟨ox,rx⟩:=GI oa ⟨r1,r2,r3⟩ (x:=x) (by rw [hx];simp)
 obtain ⟨t1,t2,t3,t4,t5,t6⟩:=U7 ox rx.1
 have hns:∀ {s:List Int} {i:List Itm},szP s=(0,0)→Bd (.mk s i)=false:=by
  intro s i h
  unfold Bd
  cases s with
  | nil=>exact absurd (congrArg Prod.fst h) (by decide)
  | cons y ys=>rfl
 have hpr:okI p∧BZ p∧tyI p=tyI x:=by
  rcases hp with rfl|rfl
  ·exact ⟨ox,rx,rfl⟩
  ·exact ⟨t6,⟨t1,t2▸rx.2.1,t3▸rx.2.2⟩,t4⟩
 have hmk:CK (szP s).1 [p]=[tyI x]:=by
  rw [hsz];show [tyI p]=_;rw [hpr.2.2]
 have hR:BL (.mk s [tyI x]):=by
  have e1:dA a=1+dI x:=by
   have:Bd a=false:=by have:=hns (i:=a.items) hz;rwa [Arr.eta] at this
   rw [LD,this,if_neg (by decide),hx,dIs,dIs,Nat.max_zero]
  have e2:cA a=1+cI x:=by rw [Jr,hx];simp [cIs]
  refine ⟨?_,?_,?_⟩
  ·rw [Jo,Gd,Fk,hsz,Ff.2 (by simpa using t1)];rfl
  ·rw [LD,hns hsz,if_neg (by decide),Fk,dIs,dIs,Nat.max_zero,t2];omega
  ·rw [Jr,Fk];simp only [cIs,List.length_singleton];omega
 have hc:¬([p]=[]∨¬∀ y∈[p],BZ y):=fun q=>q.elim (fun e=>by cases e) fun q=>q fun y hy=>by rw [List.mem_singleton] at hy;subst hy;exact hpr.2.1
 rw [Mc hs64 hl (by simp) (fun y hy=>by rw [List.mem_singleton] at hy;subst hy;exact hpr.1),hmk,if_neg (by rw [hsz];exact fun q=>q rfl),if_neg hc,if_pos hR]
def Ax (a0:(List Arr)) (a1:BQ) (K0:Int→Option (Int)) : Nat→Int→Int→Option (Int)
 | 0,_,_=>none
 | k+1,s2,s3=>(if s3<((List.length a0:Nat):Int) then ((rd? a0 s3).bind fun x4=>((a1.g x4).bind fun x5=>(if x5=true then (some (s3)) else (Ax a0 a1 K0 k s2 (w64 (s3+1)))))) else (K0 s2))
def A8 (a0:(List Arr)) (a1:BQ) : Option (Int):=(jn (fun (z1:Int)=>(some ((-1)))) fun K0=>(Ax a0 a1 K0 AH 0 0))
theorem Dy {a0:(List Arr)} {a1:BQ} (oa1:Km a1) {r:Int} (h:A8 a0 a1=some r) :
  Fn Tryz.prog 124 [.sl (Ars a0),a1.dv] (.d (.i .i64 r)):=by
 unfold A8 at h
 refine Fn.o1 4 19 Tryz.func124 ?_;refine .sr<|kR [0,1,4] zj<|.seq<|.sr<|kA zj<|kK (AX (Bu _) (Ek _) Ei)<|kA zj<|rk [0,1,4,7,8] ?_
 obtain ⟨K0,hK0,h⟩:=A1 h
 refine AW.mr (σ:=Int) (fun p=>K0 p=some r) (fun p=>[(4,.d (.i .i64 p))]) (fun p=>[]) ?_ ?_
 ·skip
  refine .block ?_
  refine .loop (.gk [0,1,4,7,8] ?_)
  refine AL.ind (σ:=Nat×Int×Int) (m:=fun p=>p.1) (e:=fun p=>[(0,.d (.sl (Ars a0))),(1,.d (a1.dv)),(4,.d (.i .i64 p.2.1)),(7,.d (.i .i64 ((List.length a0:Nat):Int))),(8,.d (.i .i64 p.2.2))]) (h:=fun p=>[]) (I:=fun p=>Ax a0 a1 K0 p.1 p.2.1 p.2.2=some r) ?_ (AH,0,0) h
  rintro ⟨k,s2,s3⟩ h ih
  dsimp only at h ih ⊢
  rcases k with _|k
  ·rw [Ax] at h;cases h
  rw [Ax] at h
  refine .sr<|kB zj<|rk [0,1,4,7,8,9]<|.seq ?_
  rcases brc h with ⟨hc,h⟩|⟨hc,h⟩
  ·refine cnt (dT hc) ?_
   refine .sk ?_;refine .seq<|.block<|.sr<|kA zj<|kR [0,1,4,5,7,8] zj<|.sr<|kA zj<|kA zj<|kA zj ?_
   obtain ⟨x4,g4,h⟩:=bnd h
   obtain ⟨n4,p04,q4⟩:=Aq g4
   refine kK (vix n4 p04 (Dr q4) rfl Du)<|kK (Ap Ah Ad) ?_
   obtain ⟨x5,g5,h⟩:=bnd h
   refine kK (NP (oa1 _ _ g5))<|rk [0,1,4,5,7,8,16] ?_
   rcases brc h with ⟨hc,h⟩|⟨hc,h⟩
   ·refine cnt hc ?_
    refine .sr<|kA zj<|kR [0,1,4,7,8] zj<|.ret ?_
    cases h
    exact ⟨rfl,rfl⟩
   refine cnf (bf hc) ?_;refine .sk ?_;refine .region<|kB zj<|kA zj<|.nil ?_;refine AL.gk [0,1,4,7,8] ?_
   exact ih (k,s2,(w64 (s3+1))) h (Nat.lt_succ_self _)
  refine cnf (dF hc) ?_;refine .gk [4]<|.exit ?_
  exact jr (s2) h
 rintro z1 h
 try dsimp only at h ⊢
 subst hK0
 refine aw<|.sr<|kR [4] zj<|.ret ?_
 cases h
 exact ⟨rfl,rfl⟩
def AC (a0:(List Arr)) (a1:BQ) : Option (Bool):=((A8 a0 a1).bind fun x1=>(some ((decide (0≤x1)))))
theorem BR {a0:(List Arr)} {a1:BQ} (oa1:Km a1) {r:Bool} (h:AC a0 a1=some r) :
  Fn Tryz.prog 77 [.sl (Ars a0),a1.dv] (.d (.b r)):=by
 unfold AC at h
 refine Fn.o1 4 9 Tryz.func77 ?_;refine .sr<|kR [0,1,4] zj<|.sr<|kA zj<|kA zj ?_
 obtain ⟨x1,g1,h⟩:=bnd h
 refine kK (Ag (Dy oa1 g1) Tryz.call124)<|kB zj<|kR [4] zj<|.ret ?_
 cases h
 exact ⟨rfl,rfl⟩
theorem QC {s:List Int} (h:(szP s).2=0) : (∀ x∈s,0≤x∧x≤4096)∧s.length≤8:=by
 unfold szP at h
 split at h
 ·exact absurd h (by decide)
 split at h
 ·exact absurd h (by decide)
 split at h
 ·exact absurd h (by decide)
 rename_i h8 hneg hbig
 refine ⟨fun x hx=>?_,by omega⟩
 simp only [List.any_eq_true,decide_eq_true_eq,not_exists,not_and] at hneg hbig
 have a:=hneg x hx
 have b:=hbig x hx
 omega
end Go.FL
namespace Go.FL
open Go Go.RowKit
section
variable {P:Program} {C:Cx} {o:Oper} {ops:Array Oper} {Q:Exit→Env→Ab→Prop} {env:Env} {H:Ab} {k:Nat} {l:List Oper}
theorem YQ {x:Operand} {src dst:Nat} {q:IntKind} {n:Int} (hs:(P.underlying src).isSome=true) (hd:P.underlying dst=some .string) (ho:o.op=.convert src dst x:=by rfl) (hv:lk env x=.d (.i q n):=by rfl) : VOK P C o env H (.d (.s (Utf8.encode n))):=by
 obtain ⟨h1,h2⟩:=Ar hv (by simp)
 refine .pv ⟨by simp [ho],fun X a w I μ O _ hs'=>⟨.string (Utf8.encode n),?_,.of_rep (.s _)⟩⟩
 have e1:=hs'.look_i h1 h2
 have:=run_convert_int_string (P:=P) w src dst q n hs hd
 simp only [execOp,ho,e1,Sem.run_bind,this,Result.andThen_ok,Sem.run_pure]
theorem Zp {x y:Operand} {ty:Nat} {s:ByteArray} {q:IntKind} {z:Int} (n:Nat) (hn:z=n∧n≤s.size) (hty:P.underlying ty=some .string) (ho:o.op=.slice ty x (some y) none none:=by rfl) (hv:lk env x=.d (.s s):=by rfl) (hi:lk env y=.d (.i q z):=by rfl) :
  VOK P C o env H (.d (.s (s.extract n s.size))):=by
 obtain ⟨rfl,hl⟩:=hn
 obtain ⟨h1,h2⟩:=Ar hv (by simp)
 obtain ⟨h3,h4⟩:=Ar hi (by simp)
 refine .pv ⟨by simp [ho],fun X a w I μ O _ hs=>⟨.string (s.extract n s.size),?_,.of_rep (.s _)⟩⟩
 have e1:=hs.look_s h1 h2
 have e2:=hs.look_i h3 h4
 have:=run_slice_string_l (P:=P) w ty s hty q (n:Int) (by omega) (by omega)
 rw [Int.toNat_natCast] at this
 simp only [execOp,ho,e1,Option.map_none,Option.map_some,e2,Instr.sliceAt,Sem.run_bind,run_underlying hty,this,Result.andThen_ok,Sem.run_pure]
theorem Abf {c:Call} {fo:Operand} {f:FuncId} {s:ByteArray} {b z:Int} (he:∀ w,(callFunc f #[.string s,.int .u8 b]).run P w=.ok (.value (.int .i64 z)) w) (ho:o.op=.call c:=by rfl) (hc:c.callee=.value fo:=by rfl) (hf:lk env fo=.d (.fn f [] []):=by rfl)
  (ha:argsD env c.args.toList=some [.s s,.i .u8 b]:=by rfl):VOK P C o env H (.d (.i .i64 z)):=by
 refine .pv ⟨by simp [ho],fun X a w I μ O _ hs=>⟨.int .i64 z,?_,.of_rep (.i _ _)⟩⟩
 have hfr:=hs.deep (x:=fo) (v:=.fn f [] []) (by rw [hf];rfl)
 generalize hev:a.eval fo=u at hfr
 cases hfr with
 | fn _ _ _ fs cs hfs hcs =>
  cases hfs
  cases hcs
  have hres:=CG (P:=P) (w:=w) (ρ:=a.eval) (ty:=o.type) hc hev
  have h:=hs.argsD ha
  have e:c.args.map a.eval=#[.string s,.int .u8 b]:=by
   apply Array.ext'
   rw [Array.toList_map]
   generalize c.args.toList.map a.eval=l at h
   cases h with
   | cons h1 h2 =>
    cases h1
    cases h2 with
    | cons h3 h4=>cases h3;cases h4;rfl
  have he':=he w
  rw [← e] at he'
  simp only [execOp,ho,Sem.run_bind,hres,Result.andThen_ok,invoke,List.toArray,Array.append_empty,Array.empty_append,he']
end
def noG (Q:Exit→Env→Ab→Prop) : Exit→Env→Ab→Prop
 | .goto _,_,_=>False
 | e,env,H=>Q e env H
section
variable {P:Program} {b:Frame} {a:Act} {k:List Item} {cs:List Frame} {w:World}
theorem Fs {c:Code} : step P (lone (b.atR a (.code (.scope c)::k)) cs w)=.next (lone (b.atR a (.code c::.inScope c::k)) cs w) :=
 step_lone_go (by simp [stepG,stepG.exec,Frame.atR])
theorem OP {c:Code} : step P (lone (b.atR a (.inScope c::k)) cs w)=.next (lone (b.atR a k) cs w) :=
 step_lone_go (by simp [stepG,stepG.exec,Frame.atR])
end
theorem AW.scope {P:Program} {C:Cx} {c:Code} {Q:Exit→Env→Ab→Prop} {env:Env} {H:Ab} (h:AW P C c (noG Q) env H) : AW P C (.scope c) Q env H:=by
 intro X a w I μ O h1 h2 h3 hs b k cs hro hb hr
 have h0:(lone (b.atR a (.code (.scope c)::k)) cs w).fenced P (om C.ro):=fenced_calm hb hr rfl
 obtain ⟨e,a₁,w₁,hq,harr⟩:=h X a w I μ O h1 h2 h3 hs b (.inScope c::k) cs hro hb hr
 obtain ⟨env',H',I',μ',O',s,q⟩:=hq
 cases e with
 | normal=>exact ⟨.normal,a₁,w₁,⟨env',H',I',μ',O',s,q⟩,.head h0 Fs (StepsIn.trans harr (.one (fenced_calm hb hr rfl) OP))⟩
 | exit id =>
  have hx:exitTo id (.inScope c::k)=exitTo id k:=by simp [exitTo]
  exact ⟨.exit id,a₁,w₁,⟨env',H',I',μ',O',s,q⟩,fun k' hk=>.head h0 Fs (harr.1 k' (by rw [hx];exact hk)),
   fun hr' hk=>let ⟨k₁,h1,h2⟩:=harr.2 hr' (by rw [hx];exact hk);⟨k₁,h1,.head h0 Fs h2⟩⟩
 | goto l=>exact q.elim
 | ret=>exact ⟨_,a₁,w₁,⟨env',H',I',μ',O',s,q⟩,.of_steps (.one h0 Fs) harr⟩
 | panic ch=>exact ⟨_,a₁,w₁,⟨env',H',I',μ',O',s,q⟩,.of_steps (.one h0 Fs) harr⟩
 | outgrown=>exact ⟨_,a₁,w₁,⟨env',H',I',μ',O',s,q⟩,.of_steps (.one h0 Fs) harr⟩
end Go.FL
namespace Go.FL
open Go Go.Proofs Go.RowKit
theorem stS : Tryz.prog.underlying 9=some .string:=by kernel_rfl
theorem ZP (s:ByteArray) (b:Int) (w:World) : (callFunc 243 #[.string s,.int .u8 b]).run Tryz.prog w=.ok (.value (.int .i64 (Lib.indexByte s.data.toList b.toNat.toUInt8))) w:=by
 rw [run_callFunc_extern Tryz.func243 (by kernel_rfl) (by kernel_rfl) (by kernel_rfl) (e:=Extern.BytealgIndexByte.indexByte) (by kernel_rfl),Lib.run_indexByteString]
 rfl
def Fx (s:ByteArray) (b:Int) : Int:=Lib.indexByte s.data.toList b.toNat.toUInt8
theorem Qh (s:ByteArray) (b:Int) : Fn Tryz.prog 213 [.s s,.i .u8 b] (.d (.i .i64 (Fx s b))):=by
 refine Fn.of (rs:=[.tmp 4]) (nt:=8) Tryz.func213 rfl rfl rfl (by simp) rfl ?_;refine .seq<|.region<|kD zj<|rn<|.seq<|.region<|kK (Ac)<|kK (Ac)<|kK (Abf (ZP s b))<|kD zj<|rn<|.ret ?_
 exact ⟨rfl,rfl⟩
theorem Hj (s:ByteArray) (b:Int) : Fn Tryz.prog 167 [.s s,.i .u8 b] (.d (.i .i64 (Fx s b))):=by
 refine Fn.of (rs:=[.tmp 4]) (nt:=8) Tryz.func167 rfl rfl rfl (by simp) rfl ?_;refine .seq<|.region<|kD zj<|rn<|.seq<|.region<|kK (Ac)<|kK (Ac)<|kK (Ag (Qh s b) Tryz.call213)<|kD zj<|rn<|.ret ?_
 exact ⟨rfl,rfl⟩
def BA (a0:Int) : Option (Bool):=(if ((decide (0≤a0))&&(decide (a0<55296)))=true then (some (true)) else (if ((decide (57343<a0))&&(decide (a0≤1114111)))=true then (some (true)) else (some (false))))
theorem Dx {a0:Int} {r:Bool} (h:BA a0=some r) :
  Fn Tryz.prog 168 [.i .i32 a0] (.d (.b r)):=by
 unfold BA at h
 refine Fn.of (rs:=[.tmp 2]) (nt:=17) Tryz.func168 rfl rfl rfl (by simp) rfl ?_;refine .seq<|.region<|kD zj<|rn<|.gh (Gh.keep [0,2] rfl)<|.seq<|.block<|.seq<|AW.mr (σ:=Unit) (fun _=>True) (fun _=>[(0,.d (.i .i32 a0)),(2,.d (.b false)),(3,.d (.b ((decide (0≤a0))&&(decide (a0<55296)))))]) (fun _=>[]) ?_ ?_
 ·skip
  refine .region<|kK (Ac)<|kK (vbi) ?_
  by_cases hc:0≤a0
  ·have hb0:(decide (0≤a0))=true:=(dT hc)
   refine kK (VOK.lit (Ac) hb0)<|kK (Ac)<|kK (vbi)<|kK (Ao)<|kD zj<|RL.gh (Gh.keep [0,2,3] rfl)<|.nil ?_
   exact jr () trivial (by simp only [hb0];rfl)
  have hb0:(decide (0≤a0))=false:=(dF hc)
  refine kK (VOK.lit (Ac) hb0)<|gf2 ?_;refine kK (Ao)<|kD zj<|RL.gh (Gh.keep [0,2,3] rfl)<|.nil ?_
  exact jr () trivial (by simp only [hb0];rfl)
 rintro _ _
 by_cases hc:((decide (0≤a0))&&(decide (a0<55296)))=true
 ·replace h:=H8 hc h
  refine cnt hc ?_;refine .seq<|.region<|kD zj<|rn<|.gh (Gh.keep [2] rfl)<|.ret ?_
  cases h
  exact ⟨rfl,rfl⟩
 replace h:=IQ hc h
 refine cnf (bf hc) ?_;refine .seq<|AW.mr (σ:=Unit) (fun _=>True) (fun _=>[(2,.d (.b false)),(10,.d (.b ((decide (57343<a0))&&(decide (a0≤1114111)))))]) (fun _=>[]) ?_ ?_
 ·skip
  refine .region<|kK (Ac)<|kK (vbi) ?_
  by_cases hc:57343<a0
  ·have hb0:(decide (57343<a0))=true:=(dT hc)
   refine kK (VOK.lit (Ac) hb0)<|kK (Ac)<|kK (vbi)<|kK (Ao)<|kD zj<|RL.gh (Gh.keep [2,10] rfl)<|.nil ?_
   exact jr () trivial (by simp only [hb0];rfl)
  have hb0:(decide (57343<a0))=false:=(dF hc)
  refine kK (VOK.lit (Ac) hb0)<|gf2 ?_;refine kK (Ao)<|kD zj<|RL.gh (Gh.keep [2,10] rfl)<|.nil ?_
  exact jr () trivial (by simp only [hb0];rfl)
 rintro _ _
 by_cases hc:((decide (57343<a0))&&(decide (a0≤1114111)))=true
 ·replace h:=H8 hc h
  refine cnt hc ?_;refine .seq<|.region<|kD zj<|rn<|.gh (Gh.keep [2] rfl)<|.ret ?_
  cases h
  exact ⟨rfl,rfl⟩
 replace h:=IQ hc h
 refine cnf (bf hc) ?_;refine .skip<|aw<|.seq<|.region<|kD zj<|rn<|.gh (Gh.keep [2] rfl)<|.ret ?_
 cases h
 exact ⟨rfl,rfl⟩
theorem Qu (s:ByteArray) (r:Int) (h0:0≤r) (h1:r<128) : Fn Tryz.prog 123 [.s s,.i .i32 r] (.d (.i .i64 (Fx s r))):=by
 refine Fn.of (rs:=[.tmp 4]) (nt:=187) Tryz.func123 rfl rfl rfl (by simp) rfl ?_;refine .seq<|.region<|kD zj<|rn<|.gh (Gh.keep [0,1,4] rfl)<|.block<|.seq<|.region<|kK (Ac)<|kK (vbi) ?_
 have hb0:(decide (0≤r))=true:=dT h0
 refine kK (VOK.lit (Ac) hb0)<|kK (Ac)<|kK (vbi)<|kK (Ao)<|kD zj<|rn<|.gh (Gh.keep [0,1,4,160] rfl)<|cnt (dT h1) ?_;refine .seq<|.region<|kK (Ac)<|kK (Ac) ?_
 have hw:IntKind.u8.wrap r=r:=by
  simp only [IntKind.wrap,IntKind.bits,IntKind.signed]
  simp
  omega
 refine kK (VF (q1:=.i32) r hw (by kernel_rfl) (by kernel_rfl))<|kK (Ag (Hj s r) Tryz.call167)<|kD zj<|rn<|.ret ?_
 exact ⟨rfl,rfl⟩
theorem Lx (s:ByteArray) (r:Int) {x0 x1 x2 y2 p:Nat} (h0:2048≤r) (h1:r<55296) (he:AT (Utf8.encode r)=[x0,x1,x2]) (hs:s.size≤1000) (h2:(AT s)[2]?=some y2)
  (hc:(y2=x2∧p=2)∨(y2≠x2∧3≤p∧Fx (s.extract 3 s.size) x2=(p:Int)-3)) (hp1:(AT s)[p-1]?=some x1) (hp0:(AT s)[p-2]?=some x0) (hp:p<s.size) :
  Fn Tryz.prog 123 [.s s,.i .i32 r] (.d (.i .i64 ((p:Int)-2))):=by
 have hes:(Utf8.encode r).size=3:=by rw [← C8,he];rfl
 have hsub:DV.i .i64 (IntKind.i64.wrap (((Utf8.encode r).size:Int)-1))=.i .i64 2:=by rw [hes];rfl
 have hv:BA r=some true:=by
  unfold BA
  rw [dT (show (0:Int)≤r by omega),dT h1];rfl
 have h3:3≤s.size:=by
  have:=(lS.1 h2).1
  rw [C8] at this;omega
 refine Fn.of (rs:=[.tmp 4]) (nt:=187) Tryz.func123 rfl rfl rfl (by simp) rfl ?_;refine .seq<|.region<|kD zj<|rn<|.gh (Gh.keep [0,1,4] rfl)<|.block<|.seq<|.region<|kK (Ac)<|kK (vbi) ?_
 have hb0:(decide (0≤r))=true:=dT (by omega)
 refine kK (VOK.lit (Ac) hb0)<|kK (Ac)<|kK (vbi)<|kK (Ao)<|kD zj<|rn<|.gh (Gh.keep [0,1,4,160] rfl)<|cnf (show decide (r<128)=false from dF (by omega)) ?_;refine .seq<|.region<|kK (Ac)<|kK (vbi)<|kD zj<|rn<|.gh (Gh.keep [0,1,4,171] rfl)<|cnf (show decide (r=65533)=false from dF (by omega)) ?_;refine .seq<|.region<|kK (Ac)<|kK (Ag (Dx hv) Tryz.call168)<|kK (vnt)<|kD zj<|rn<|.gh (Gh.keep [0,1,4,183] rfl)<|BD ?_;refine .scope ?_;refine .seq<|.region<|kK (Ac)<|kK (YQ (by kernel_rfl) stS)<|kD zj<|rn<|.gh (Gh.keep [0,1,4,7] rfl)<|.seq<|.region<|kK (Ac)<|kK (QG stS)<|kK (R2 (.i .i64 2) ⟨trivial,hsub⟩)<|kD zj<|rn<|.gh (Gh.keep [0,1,4,7,8] rfl)<|.seq<|.region<|kK (Ac)<|kD zj<|rn<|.gh (Gh.keep [0,1,4,7,8,9] rfl)<|.seq<|.region<|kD zj<|rn<|.gh (Gh.keep [0,1,4,7,8,9,10] rfl)<|.seq<|.block ?_
 refine .loop (.round ?_)
 refine .seq<|.seq<|.region<|kK (Ac)<|kK (Ac)<|kK (QG stS)<|kK (vbi)<|rn<|.gh (Gh.keep [0,1,4,7,8,9,10,26] rfl)<|cnt (show decide ((2:Int)<((s.size:Nat):Int))=true from dT (by omega)) ?_;refine .skip<|aw<|.block<|.scope ?_;refine .seq<|.seq<|.drawn 7 AS (by kernel_rfl) ?_;refine kV (Ac)<|kV (Ac)<|kV (KI 2 y2 rfl h2 stS)<|kV (Ac)<|kV (Ac)<|kV (KI 2 x2 rfl (by rw [he];rfl) stS)<|kV (vbi)<|dz ?_;refine rn<|.gh (Gh.keep [0,1,4,7,8,9,10,33] rfl)<|AW.mr (σ:=Unit) (fun _=>True) (fun _=>[(0,.d (.s s)),(1,.d (.i .i32 r)),(4,.d (.i .i64 0)),(7,.d (.s (Utf8.encode r))),(8,.d (.i .i64 2)),(9,.d (.i .i64 (p:Int))),(10,.d (.i .i64 0))]) (fun _=>[]) ?_ ?_
 ·skip
  rcases hc with ⟨hc1,hc2⟩|⟨hc1,hc2,hc3⟩
  ·subst hc2
   refine cnf (ntf (dT (show (y2:Int)=x2 by omega))) ?_;refine .gh (Gh.keep [0,1,4,7,8,9,10] rfl)<|.skip ?_
   exact jr () trivial rfl
  have hI:=Hj (s.extract 3 s.size) x2
  rw [hc3] at hI
  refine cnt (ntt (dF (show ¬(y2:Int)=x2 by omega))) ?_;refine .seq<|.drawn 8 AS (by kernel_rfl) ?_;refine kV (Ac)<|kV (Ac)<|kV (vad 3 ⟨rfl,by decide,by decide⟩)<|kV (Zp 3 ⟨rfl,h3⟩ stS)<|kV (Ac)<|kV (Ac)<|kV (KI 2 x2 rfl (by rw [he];rfl) stS)<|kV (Ag hI Tryz.call167)<|dz ?_;refine kD zj<|rn<|.gh (Gh.keep [0,1,4,7,8,9,10,11] rfl)<|.seq<|.seq<|.region<|kK (Ac)<|kK (vbi)<|rn<|.gh (Gh.keep [0,1,4,7,8,9,10,11,43] rfl)<|cnf (show decide ((p:Int)-3<0)=false from dF (by omega)) ?_;refine .skip<|aw<|.region<|kK (Ac)<|kK (Ac)<|kK (vad (m:=(p:Int)-3) (n:=1) ((p:Int)-2) ⟨by omega,by omega,by omega⟩)<|kK (vad (m:=2) (n:=(p:Int)-2) (p:Int) ⟨by omega,by omega,by omega⟩)<|kD zj<|RL.gh (Gh.keep [0,1,4,7,8,9,10] rfl)<|.nil ?_
  exact jr () trivial rfl
 rintro _ _
 refine .seq<|.seq<|.region<|kD zj<|rn<|.gh (Gh.keep [0,1,4,7,8,9,10,12] rfl)<|.block<|.loop ?_
 refine AL.ind (σ:=Nat) (m:=fun j=>3-j) (e:=fun j=>[(0,.d (.s s)),(1,.d (.i .i32 r)),(4,.d (.i .i64 0)),(7,.d (.s (Utf8.encode r))),(8,.d (.i .i64 2)),(9,.d (.i .i64 (p:Int))),(10,.d (.i .i64 0)),(12,.d (.i .i64 (j:Int)))]) (h:=fun _=>[]) (I:=fun j=>1≤j∧j≤3) ?_ 1 ⟨by omega,by omega⟩
 rintro j ⟨hj1,hj3⟩ ih
 refine .seq<|.seq<|.region<|kK (Ac)<|kK (Ac)<|kK (QG stS)<|kK (vbi)<|rn<|.gh (Gh.keep [0,1,4,7,8,9,10,12,51] rfl) ?_
 by_cases hj:j<3
 ·refine cnt (show decide ((j:Int)<(((Utf8.encode r).size:Nat):Int))=true from dT (by rw [hes];omega)) ?_
  refine .skip<|aw ?_
  obtain ⟨xj,hA,hB⟩:∃ xj,(AT s)[p-j]?=some xj∧(AT (Utf8.encode r))[2-j]?=some xj:=by
   have:j=1∨j=2:=by omega
   rw [he]
   rcases this with rfl|rfl
   ·exact ⟨x1,hp1,rfl⟩
   ·exact ⟨x0,hp0,rfl⟩
  have hp2:2≤p:=by rcases hc with ⟨_,q⟩|⟨_,q,_⟩<;>omega
  refine .seq<|.block<|.seq<|.drawn 11 AS (by kernel_rfl) ?_;refine kV (Ac)<|kV (Ac)<|kV (Ac)<|kV (vsu (m:=(p:Int)) (n:=(j:Int)) (((p-j:Nat)):Int) ⟨by omega,by omega,by omega⟩)<|kV (KI (p-j) xj rfl hA stS)<|kV (Ac)<|kV (Ac)<|kV (Ac)<|kV (vsu (m:=2) (n:=(j:Int)) (((2-j:Nat)):Int) ⟨by omega,by omega,by omega⟩)<|kV (KI (2-j) xj rfl hB stS)<|kV (vbi)<|dz ?_;refine rn<|.gh (Gh.keep [0,1,4,7,8,9,10,12,64] rfl)<|cnf (ntf (dT (show (xj:Int)=xj from rfl))) ?_;refine .skip<|aw<|.region<|kK (Ac)<|kK (vad (m:=(j:Int)) (n:=1) ((j+1:Nat):Int) ⟨by omega,by omega,by omega⟩)<|kD zj<|.nil ?_;refine AL.gh (Gh.keep [0,1,4,7,8,9,10,12] rfl) ?_
  exact ih (j+1) ⟨by omega,by omega⟩ (by omega)
 have hp2:2≤p:=by rcases hc with ⟨_,q⟩|⟨_,q,_⟩<;>omega
 refine cnf (show decide ((j:Int)<(((Utf8.encode r).size:Nat):Int))=false from dF (by rw [hes];omega)) ?_;refine .exit ?_;refine aw<|.seq<|.seq<|.region<|kK (Ac)<|kK (Ac)<|kK (vsu (m:=(p:Int)) (n:=2) ((p:Int)-2) ⟨by omega,by omega,by omega⟩)<|kD zj<|rn<|.gh (Gh.keep [4] rfl)<|.ret ?_
 exact ⟨rfl,rfl⟩
theorem Qb (s:ByteArray) (r:Int) {x0 x1 x2 y2:Nat} (h0:2048≤r) (h1:r<55296) (he:AT (Utf8.encode r)=[x0,x1,x2]) (hs:s.size≤1000) (h2:(AT s)[2]?=some y2)
  (hc:y2≠x2) (hz:Fx (s.extract 3 s.size) x2<0):Fn Tryz.prog 123 [.s s,.i .i32 r] (.d (.i .i64 (-1))):=by
 have hes:(Utf8.encode r).size=3:=by rw [← C8,he];rfl
 have hsub:DV.i .i64 (IntKind.i64.wrap (((Utf8.encode r).size:Int)-1))=.i .i64 2:=by rw [hes];rfl
 have hv:BA r=some true:=by
  unfold BA
  rw [dT (show (0:Int)≤r by omega),dT h1];rfl
 have h3:3≤s.size:=by
  have:=(lS.1 h2).1
  rw [C8] at this;omega
 refine Fn.of (rs:=[.tmp 4]) (nt:=187) Tryz.func123 rfl rfl rfl (by simp) rfl ?_;refine .seq<|.region<|kD zj<|rn<|.gh (Gh.keep [0,1,4] rfl)<|.block<|.seq<|.region<|kK (Ac)<|kK (vbi) ?_
 have hb0:(decide (0≤r))=true:=dT (by omega)
 refine kK (VOK.lit (Ac) hb0)<|kK (Ac)<|kK (vbi)<|kK (Ao)<|kD zj<|rn<|.gh (Gh.keep [0,1,4,160] rfl)<|cnf (show decide (r<128)=false from dF (by omega)) ?_;refine .seq<|.region<|kK (Ac)<|kK (vbi)<|kD zj<|rn<|.gh (Gh.keep [0,1,4,171] rfl)<|cnf (show decide (r=65533)=false from dF (by omega)) ?_;refine .seq<|.region<|kK (Ac)<|kK (Ag (Dx hv) Tryz.call168)<|kK (vnt)<|kD zj<|rn<|.gh (Gh.keep [0,1,4,183] rfl)<|BD ?_;refine .scope ?_;refine .seq<|.region<|kK (Ac)<|kK (YQ (by kernel_rfl) stS)<|kD zj<|rn<|.gh (Gh.keep [0,1,4,7] rfl)<|.seq<|.region<|kK (Ac)<|kK (QG stS)<|kK (R2 (.i .i64 2) ⟨trivial,hsub⟩)<|kD zj<|rn<|.gh (Gh.keep [0,1,4,7,8] rfl)<|.seq<|.region<|kK (Ac)<|kD zj<|rn<|.gh (Gh.keep [0,1,4,7,8,9] rfl)<|.seq<|.region<|kD zj<|rn<|.gh (Gh.keep [0,1,4,7,8,9,10] rfl)<|.seq<|.block ?_
 refine .loop (.round ?_)
 refine .seq<|.seq<|.region<|kK (Ac)<|kK (Ac)<|kK (QG stS)<|kK (vbi)<|rn<|.gh (Gh.keep [0,1,4,7,8,9,10,26] rfl)<|cnt (show decide ((2:Int)<((s.size:Nat):Int))=true from dT (by omega)) ?_;refine .skip<|aw<|.block<|.scope ?_;refine .seq<|.seq<|.drawn 7 AS (by kernel_rfl) ?_;refine kV (Ac)<|kV (Ac)<|kV (KI 2 y2 rfl h2 stS)<|kV (Ac)<|kV (Ac)<|kV (KI 2 x2 rfl (by rw [he];rfl) stS)<|kV (vbi)<|dz ?_;refine rn<|.gh (Gh.keep [0,1,4,7,8,9,10,33] rfl) ?_
 have hI:=Hj (s.extract 3 s.size) x2
 refine cnt (ntt (dF (show ¬(y2:Int)=x2 by omega))) ?_;refine .seq<|.drawn 8 AS (by kernel_rfl) ?_;refine kV (Ac)<|kV (Ac)<|kV (vad 3 ⟨rfl,by decide,by decide⟩)<|kV (Zp 3 ⟨rfl,h3⟩ stS)<|kV (Ac)<|kV (Ac)<|kV (KI 2 x2 rfl (by rw [he];rfl) stS)<|kV (Ag hI Tryz.call167)<|dz ?_;refine kD zj<|rn<|.gh (Gh.keep [0,1,4,7,8,9,10,11] rfl)<|.seq<|.seq<|.region<|kK (Ac)<|kK (vbi)<|rn<|.gh (Gh.keep [0,1,4,7,8,9,10,11,43] rfl)<|cnt (show decide (Fx (s.extract 3 s.size) x2<0)=true from dT hz) ?_;refine .seq<|.region<|kD zj<|rn<|.gh (Gh.keep [4] rfl)<|.ret ?_
 exact ⟨rfl,rfl⟩
def Yz (s:ByteArray) (r:Int) : List Nat→Option Nat→Option Int
 | [x0,x1,x2],some y2=>if y2=x2 then (if 3≤s.size∧(AT s)[1]?=some x1∧(AT s)[0]?=some x0 then some 0 else none)
  else if Fx (s.extract 3 s.size) x2<0 then some (-1)
  else if (AT s)[(Fx (s.extract 3 s.size) x2).toNat+2]?=some x1∧(AT s)[(Fx (s.extract 3 s.size) x2).toNat+1]?=some x0∧(Fx (s.extract 3 s.size) x2).toNat+3<s.size then some (Fx (s.extract 3 s.size) x2+1) else none
 | _,_=>none
def Tw (s:ByteArray) (r:Int) : Option Int :=
 if s.size≤1000 then (if 0≤r∧r<128 then some (Fx s r) else if 2048≤r∧r<55296 then Yz s r (AT (Utf8.encode r)) (AT s)[2]? else none) else none
theorem Wr {s:ByteArray} {r z:Int} (h:Tw s r=some z) : Fn Tryz.prog 123 [.s s,.i .i32 r] (.d (.i .i64 z)):=by
 unfold Tw at h
 by_cases hs:s.size≤1000
 rotate_left
 ·rw [if_neg hs] at h;cases h
 rw [if_pos hs] at h
 by_cases h1:0≤r∧r<128
 ·rw [if_pos h1] at h
  cases h
  exact Qu s r h1.1 h1.2
 rw [if_neg h1] at h
 by_cases h2:2048≤r∧r<55296
 rotate_left
 ·rw [if_neg h2] at h;cases h
 rw [if_pos h2] at h
 generalize he:AT (Utf8.encode r)=e at h
 generalize hy:(AT s)[2]?=y at h
 unfold Yz at h
 split at h
 ·rename_i x0 x1 x2 y2
  split at h
  ·rename_i q
   split at h
   ·rename_i q2
    cases h
    exact Lx s r (p:=2) h2.1 h2.2 he hs hy (.inl ⟨q,rfl⟩) q2.2.1 q2.2.2 (by omega)
   ·cases h
  ·rename_i q
   split at h
   ·rename_i q2
    cases h
    exact Qb s r h2.1 h2.2 he hs hy q q2
   ·rename_i q2
    split at h
    ·rename_i q3
     cases h
     have e1:(((Fx (s.extract 3 s.size) x2).toNat+3:Nat):Int)-2=Fx (s.extract 3 s.size) x2+1:=by omega
     rw [← e1]
     exact Lx s r (p:=(Fx (s.extract 3 s.size) x2).toNat+3) h2.1 h2.2 he hs hy (.inr ⟨q,by omega,by omega⟩) q3.1 q3.2.1 q3.2.2
    ·cases h
 ·cases h
def U5 (s:ByteArray) (r:Int) : Option Bool:=(Tw s r).map fun z=>decide (0≤z)
theorem Vm {s:ByteArray} {r:Int} {b:Bool} (h:U5 s r=some b) : Fn Tryz.prog 76 [.s s,.i .i32 r] (.d (.b b)):=by
 unfold U5 at h
 rcases hz:Tw s r with _|z
 ·rw [hz] at h;cases h
 rw [hz] at h
 cases h
 refine Fn.of (rs:=[.tmp 4]) (nt:=9) Tryz.func76 rfl rfl rfl (by simp) rfl ?_;refine .seq<|.region<|kD zj<|rn<|.seq<|.region<|kK (Ac)<|kK (Ac)<|kK (Ag (Wr hz) Tryz.call123)<|kK (vbi)<|kD zj<|rn<|.ret ?_
 exact ⟨rfl,rfl⟩
def txA : ByteArray:=⟨#[226,141,180,44,226,141,170,226,134,145,226,134,147,226,140,189,226,138,150,226,141,137,47,226,140,191,92,226,141,128]⟩
end Go.FL
namespace Go.FL
open Go Go.Proofs
def GU (a0:Arr) : Option ((List Int)×Int):=(if 1<((List.length a0.shape:Nat) : Int) then (some ([],4)) else ((Nd a0).bind fun x1=>(if x1.2=true then (some (x1.1,0)) else (some ([],3)))))
def Ht (a0:Arr) (a1:Arr) : Option ((List Int)×Arr×Int):=((GU a0).bind fun x1=>(jn ((if ((List.length x1.1:Nat) : Int)=((List.length a1.shape:Nat) : Int) then (some (x1.1,a1,0)) else (some ([],(Arr.mk [] []),5)))) fun K0=>(if x1.2=0 then (if ((decide (((List.length a1.shape:Nat) : Int)=0))&&(decide (8<((List.length x1.1:Nat) : Int))))=true then (some ([],(Arr.mk [] []),4)) else (if ((List.length a1.shape:Nat) : Int)=0 then none else (K0))) else (some ([],(Arr.mk [] []),x1.2)))))
def HN (a0:(List Int)) (c0:Int) (c1:(List Int)) : Option (Int):=((Rz c1 a0).bind fun x1=>(some ((w64 (c0+x1)))))
def Dm (x1:(List Int)×Arr×Int) (x3:(List Int)) (K0:(List Int)→Int→Option (Arr×Int)) : Nat→(List Int)→Int→Int→Option (Arr×Int)
 | 0,_,_,_=>none
 | k+1,s6,s7,s8=>(if s7<((List.length x1.1:Nat):Int) then (jn (fun (z9:(List Int)) (z10:Int)=>(Dm x1 x3 K0 k z9 (w64 (s7+1)) z10)) fun K2=>((rd? x1.1 s7).bind fun x11=>((rd? x1.2.1.shape s7).bind fun x12=>(if 0≤x11 then ((rd? x3 s7).bind fun x13=>((rd? s6 s7).bind fun x14=>(K2 (List.set s6 (Int.toNat s7) (w64 (x12-(if x12<x11 then x12 else x11)))) (w64 (s8+(w64 (x13 * (if x12<x11 then x12 else x11)))))))) else ((rd? s6 s7).bind fun x15=>(K2 (List.set s6 (Int.toNat s7) (if (w64 (x12+(if x11<(IntKind.wrap .i64 (0-x12)) then (IntKind.wrap .i64 (0-x12)) else x11)))<0 then 0 else (w64 (x12+(if x11<(IntKind.wrap .i64 (0-x12)) then (IntKind.wrap .i64 (0-x12)) else x11))))) s8)))))) else (K0 s6 s8))
def JN (a0:Arr) (a1:Arr) : Option (Arr×Int):=((Ht a0 a1).bind fun x1=>(if x1.2.2=0 then ((Gk (0≤((List.length x1.1:Nat) : Int)∧((List.length x1.1:Nat) : Int)≤17592186044416)).bind fun x2=>((Fg x1.2.1.shape).bind fun x3=>(jn (fun (z4:(List Int)) (z5:Int)=>((Ey x1.2.1 z4 (⟨.fn 178 [] [.ptr [.i .i64 z5],.ptr [.sl (Is x3)]],fun x=>HN x z5 x3⟩ : Hx)).bind fun x16=>(some (x16.1,x16.2)))) fun K0=>(Dm x1 x3 K0 AH (List.replicate (Int.toNat ((List.length x1.1:Nat) : Int)) (0:Int)) 0 0)))) else (some ((Arr.mk [] []),x1.2.2))))
theorem Oc {xs:List Arr} {f:BQ} {p:Arr→Bool} (hf:∀ x∈xs,f.g x=some (p x)) (K:Int→Option Int) (hl:xs.length≤17592186044416) : ∀ (n i k:Nat) (s:Int),n=xs.length-i→i≤xs.length→n<k →
  Ax xs f K k s (i:Int)=match (xs.drop i).findIdx? p with|some j=>some (((i+j:Nat)):Int)|none=>K s
 | n,i,0,s,_,_,h=>by omega
 | n,i,k+1,s,hn,hi,hk=>by
  rw [Ax]
  by_cases hlt:i<xs.length
  ·rw [if_pos (by omega),Ci hlt,oB,hf _ (List.getElem_mem _),oB,lC hlt,List.findIdx?_cons]
   by_cases hp:p xs[i]=true
   ·rw [if_pos hp,if_pos hp];rfl
   ·rw [if_neg hp,if_neg hp,Cz (by omega),Oc hf K hl (n-1) (i+1) k s (by omega) (by omega) (by omega)]
    cases (xs.drop (i+1)).findIdx? p with
    | none=>rfl
    | some j=>simp only [Option.map_some];congr 1;omega
  ·rw [if_neg (by omega),List.drop_of_length_le (by omega)];rfl
theorem NV {xs:List Arr} {f:BQ} {p:Arr→Bool} (hf:∀ x∈xs,f.g x=some (p x)) (hl:xs.length≤17592186044416) : AC xs f=some (xs.any p):=by
 unfold AC A8
 rw [DA]
 have:=Oc hf (fun _=>some (-1)) hl xs.length 0 AH 0 rfl (Nat.zero_le _) (CE (by omega))
 rw [List.drop_zero,show ((0:Nat):Int)=0 from rfl] at this
 rw [this]
 cases h:xs.findIdx? p with
 | none =>
  rw [oB]
  have h1:=List.findIdx?_eq_none_iff.1 h
  have e:xs.any p=false:=List.any_eq_false.2 fun x hx=>by rw [h1 x hx];decide
  rw [e];rfl
 | some j =>
  rw [oB]
  congr 1
  have h2:xs.any p=true:=by
   have:=List.findIdx?_isSome (xs:=xs) (p:=p)
   rw [h] at this
   exact this.symm
  rw [h2]
  exact dT (by omega)
theorem Aa8 {p:Prop} [Decidable p] (h:p) : Gk p=some ():=if_pos h
def vec (xs:List Itm) : Arr:=.mk [(xs.length:Int)] xs
def VR (xs:List Itm) : Prop:=xs≠[]∧xs.length≤4096∧(∀ x∈xs,okI x)∧BL (vec xs)
theorem RR {n:Int} {xs:List Itm} : Bd (.mk [n] xs)=false:=by unfold Bd;rfl
theorem VR.ok {xs:List Itm} (h:VR xs) : okAr (vec xs):=by
 obtain ⟨_,h2,h3,_⟩:=h
 rw [Ce]
 refine ⟨fun z hz=>?_,by show [(xs.length:Int)].length≤_;simp,by show xs.length≤_;omega,h3⟩
 have hz':z∈[(xs.length:Int)]:=hz
 rw [List.mem_singleton] at hz'
 omega
theorem VR.items {xs:List Itm} (h:VR xs) : ∀ x∈xs,okI x∧BZ x:=fun x hx=>GI h.ok h.2.2.2 (x:=x) hx
theorem VR.sz {xs:List Itm} (h:VR xs) : szP (vec xs).shape=((xs.length:Int),0):=L9 h.2.1
theorem VR.pos {xs:List Itm} (h:VR xs) : 0<xs.length:=List.length_pos_iff.2 h.1
theorem VK {n:Nat} (h:n≤4096) : ∀ z∈[(n:Int)],-9223372036854775808≤z∧z≤9223372036854775807:=fun z hz=>by
 rw [List.mem_singleton] at hz;omega
theorem VR.make {xs:List Itm} (h:VR xs) : Bi [(xs.length:Int)] xs=some (vec xs,0):=by
 obtain ⟨h1,h2,h3,h4⟩:=h
 have hs:=L9 h2
 have hp:=List.length_pos_iff.2 h1
 have hc:¬(xs=[]∨¬∀ x∈xs,BZ x):=fun q=>q.elim h1 fun q=>q fun x hx=>(VR.items ⟨h1,h2,h3,h4⟩ x hx).2
 rw [Mc (VK h2) (by simp) (by omega) h3,hs,if_neg (fun q=>q rfl),if_neg hc,Ka rfl (by omega),if_pos (show BL (Arr.mk [(xs.length:Int)] xs) from h4)];rfl
theorem Te {xs:List Itm} {a:Arr} (hx:∀ x∈xs,okI x) (hl:xs.length≤1466015503701) (h:Bi [(xs.length:Int)] xs=some (a,0)) : VR xs∧a=vec xs:=by
 rw [Mc (fun z hz=>by rw [List.mem_singleton] at hz;omega) (by simp) hl hx] at h
 by_cases h0:(szP [(xs.length:Int)]).2=0
 rotate_left
 ·rw [if_pos h0] at h
  exact absurd (congrArg Prod.snd (oI h)) h0
 have hd:=(QC h0).1 _ (List.mem_singleton.2 rfl)
 have hs:=L9 (n:=xs.length) (by omega)
 rw [if_neg (fun q=>q h0)] at h
 by_cases hc:xs=[]∨¬∀ x∈xs,BZ x
 ·rw [if_pos hc] at h
  exact absurd (congrArg Prod.snd (oI h)) (by show ¬(22:Int)=0;decide)
 rw [if_neg hc,hs] at h
 have h1:xs≠[]:=fun e=>hc (.inl e)
 have hp:=List.length_pos_iff.2 h1
 rw [Ka rfl (by omega)] at h
 by_cases hr:BL (.mk [(xs.length:Int)] xs)
 ·rw [if_pos hr] at h
  exact ⟨⟨h1,by omega,hx,hr⟩,(congrArg Prod.fst (oI h)).symm⟩
 ·rw [if_neg hr] at h
  exact absurd (congrArg Prod.snd (oI h)) (by show ¬(8:Int)=0;decide)
theorem VR.of {xs:List Itm} (h1:xs≠[]) (h2:xs.length≤4096) (h3:∀ x∈xs,okI x∧rI x=true) (hd:dIs xs≤15) (hc:xs.length+cIs xs≤16384) : VR xs:=by
 refine ⟨h1,h2,fun x hx=>(h3 x hx).1,?_,?_,?_⟩
 ·rw [Jo]
  show (decide ((szP [(xs.length:Int)]).2=0)&&(decide ((xs.length:Int)=if (szP [(xs.length:Int)]).1<1 then 1 else (szP [(xs.length:Int)]).1)&&rIs xs))=true
  have hp:=List.length_pos_iff.2 h1
  rw [L9 h2,Ff.2 fun x hx=>(h3 x hx).2,if_neg (by show ¬(xs.length:Int)<1;omega)]
  simp
 ·rw [LD]
  show (if Bd (.mk [(xs.length:Int)] xs)=true then 0 else 1+dIs xs)≤16
  rw [RR,if_neg (by decide)];omega
 ·rw [Jr];exact hc
theorem Yl {z:Int} (hz:EJ z) : okAr (.mk [] [Cj z])∧BL (.mk [] [Cj z]):=⟨WS (Me hz),(Ku (Hw hz) rfl (by show (1:Int)≠3;decide)).1⟩
theorem PU {z:Int} (h:EJ z) : Nd (.mk [] [Cj z])=some ([z],true):=by
 obtain ⟨on,rn⟩:=Yl h
 unfold Nd Aat
 rw [Ip on,oB,dT rn,if_pos rfl,if_pos (by simp [Gd]),Na on,Gd,Pj,if_neg (by rintro (q|q);exact absurd q (by decide);exact q rn),Fk,oB,if_pos (by simp)]
 have:=OT (l:=[z]) (s:=[]) (by simpa using h) (by simp)
 rw [List.map_singleton] at this
 rw [this];rfl
theorem QX {z:Int} (h:EJ z) : GU (.mk [] [Cj z])=some ([z],0):=by
 unfold GU
 rw [Gd,if_neg (by simp),PU h];rfl
theorem SK {z n:Int} {xs:List Itm} (h:EJ z) : Ht (.mk [] [Cj z]) (.mk [n] xs)=some ([z],.mk [n] xs,0):=by
 unfold Ht
 rw [QX h,oB,DA,if_pos rfl,Gd]
 rfl
theorem TQ {n:Nat} {xs:List Itm} {z:Nat} (hL:n≤4096) (hz:z≤1000) (K:List Int→Int→Option (Arr×Int)) (k:Nat) :
  Dm ([(z:Int)],.mk [(n:Int)] xs,0) [1] K (k+2) [0] 0 0=K [((n-min z n:Nat):Int)] ((min z n:Nat):Int):=by
 rw [Dm,if_pos (by simp),DA,LQ,oB,Gd,LQ,oB,if_pos (by omega),LQ,oB,LQ,oB]
 have e:(if (n:Int)<(z:Int) then (n:Int) else (z:Int))=((min z n:Nat):Int):=by
  by_cases q:(n:Int)<(z:Int)
  ·rw [if_pos q];omega
  ·rw [if_neg q];omega
 have a1:w64 (1 * ((min z n:Nat):Int))=((min z n:Nat):Int):=by rw [Int.one_mul];exact EH (by omega) (by omega)
 have a2:w64 (0+((min z n:Nat):Int))=((min z n:Nat):Int):=by rw [Int.zero_add];exact EH (by omega) (by omega)
 have a3:w64 ((n:Int)-((min z n:Nat):Int))=((n-min z n:Nat):Int):=by rw [EH (by omega) (by omega)];omega
 have a4:w64 (0+1)=1:=EH (by omega) (by omega)
 rw [e,a1,a2,a3,a4]
 show Dm _ [1] K (k+1) _ 1 _=_
 rw [Dm,if_neg (by simp)]
 rfl
theorem Sj {n:Nat} {xs:List Itm} {z:Nat} (hL:n≤4096) (hz:z≤1000) : JN (.mk [] [Cj z]) (.mk [(n:Int)] xs) =
  Ey (.mk [(n:Int)] xs) [((n-min z n:Nat):Int)] ⟨.fn 178 [] [.ptr [.i .i64 ((min z n:Nat):Int)],.ptr [.sl (Is [1])]],fun x=>HN x ((min z n:Nat):Int) [1]⟩:=by
 have hF:AH=999999999999998+2:=rfl
 unfold JN
 rw [SK ⟨by omega,by omega⟩,oB,if_pos rfl,Aa8 (by simp),oB,My (by simp [Gd]),oB,DA,hF]
 have hst:(Nr (Arr.mk [(n:Int)] xs).shape).1=[1]:=rfl
 simp only [hst]
 have:=TQ (n:=n) (xs:=xs) (z:=z) hL hz (fun z4 z5=>(Ey (.mk [(n:Int)] xs) z4 ⟨.fn 178 [] [.ptr [.i .i64 z5],.ptr [.sl (Is [1])]],fun x=>HN x z5 [1]⟩).bind fun x16=>some (x16.1,x16.2)) 999999999999998
 refine Eq.trans this ?_
 generalize Ey _ _ _=m
 cases m<;>rfl
theorem Z7 {p:Itm} (o:okAr (.mk [0] [p])) (r:BL (.mk [0] [p])) {z:Nat} (hz:z≤1000) : JN (.mk [] [Cj z]) (.mk [0] [p])=some (.mk [0] [tyI p],0):=by
 have:=Sj (n:=0) (xs:=[p]) (z:=z) (by omega) hz
 rw [show ((0:Nat):Int)=0 from rfl] at this
 rw [this]
 have hm:0-min z 0=0:=by omega
 rw [hm]
 refine (Su (Vn o r) (by simp) rfl).trans ?_
 exact TM o r rfl (fun z hz=>by rw [List.mem_singleton] at hz;omega) (by simp) rfl (.inr rfl)
end Go.FL
namespace Go.FL
open Go Go.RowKit
def Nq : AV→Bool
 | .ref (.c _ _) _ _=>false
 | .ep (.c _ _) _ _=>false
 | av=>noBp av
section
variable {P:Program} {C:Cx} {X:Snap} {o:Oper} {ops:Array Oper} {Q:Exit→Env→Ab→Prop} {env env':Env} {H H':Ab} {a:Act} {w w':World} {I I':Nat→Prop} {μ μ':List Nat} {O O':Nat→Option Loc}
 {K:Env→Ab→Prop} {k:Nat} {l:List Oper}
theorem Mi {p:AV→Bool} (hu:p .un=true) : ∀ {env:Env},(env.all fun x=>p x.2)=true→∀ t,p (get env t)=true
 | [],_,_=>hu
 | (s,v)::r,h,t=>by
  simp only [List.all_cons,Bool.and_eq_true] at h
  simp only [get]
  split
  ·exact h.1
  ·exact Mi hu h.2 t
theorem Gh2.drop (hb:(env.all fun x=>Nq x.2)=true) (hne:C.ne=0) : Gh2 P C env H env []:=fun X a w I μ O _ h2 h3 hs=>by
 have hne':X.ne=0:=h3.trans hne
 refine ⟨I,[],O,{
  prot:=hs.prot,kO:=hs.kO,kI:=hs.kI,mono:=hs.mono,os:=hs.os,tape:=hs.tape,output:=hs.output,size:=hs.size,own:=hs.own,ilt:=hs.ilt
  μlen:=rfl
  μpre:=fun i b hi _=>by omega
  nle:=by simp [hne']
  heap:=fun id ob ho=>by simp at ho
  klt:=hs.klt
  n0le:=hs.n0le
  envr:=fun s=>?_
  nt:=hs.nt
  dfs:=hs.dfs}⟩
 have hp:=Mi (p:=Nq) rfl hb s
 have ht:=hs.envr s
 have plain:∀ av,get env s=av→noBp av=true→AI av=false→TRep P env [] a w I [] O s av:=by
  intro av hav hn hr
  rw [hav] at ht
  obtain ⟨bs,g1,g2,g3⟩:=ht.plain hr
  exact .of (g1.noBp (μ':=[]) hn) g2 g3
 cases hgs:get env s with
 | ref p off len =>
  rw [hgs] at hp
  cases p with
  | c _ _=>simp [Nq] at hp
  | t r =>
   rw [hgs] at ht
   obtain ⟨e',xs,A,n,c,g1,g2,g3,g4⟩:=ht
   exact ⟨e',xs,A,n,c,g1,g2,g3,g4⟩
 | ep p i k =>
  rw [hgs] at hp
  cases p with
  | c _ _=>simp [Nq] at hp
  | t r =>
   rw [hgs] at ht
   obtain ⟨e',xs,b,n,c,g1,g2,g3,g4,g5⟩:=ht
   exact ⟨e',xs,b,n,c,g1,g2,g3,g4,g5⟩
 | _ =>
  rw [hgs] at hp
  exact plain _ hgs hp rfl
theorem XF {c:Call} {f t s t0:Nat} {avs:List AV} {r:AV} {xa:List Operand} {e:TypeId} {xs:List DV} (xs':List DV) (h:RL P C ops Q (k+1) l ((t,r)::(t0,.own e xs')::(s,.un)::env) []) (hfn:FnG P f (.own e xs::avs) H r [.own e xs'] H)
  (hcall:∀ args w,(callFunc f args).run P w=.ok (.enter f args) w) (hg:grd ops env o true=true:=by rfl) (ho:o.op=.call c:=by rfl) (hc:c.callee=.value (.func f):=by rfl) (hx:c.args.toList=.tmp s::xa:=by rfl)
  (hv:get env s=.ref (.t t0) 0 xs.length:=by rfl) (hp:get env t0=.own e xs:=by rfl) (ha:argsA ((t0,.un)::env) xa=some avs:=by rfl) (hcr:Bm env=false:=by rfl) (hr:CY t0 ((s,.un)::env.filter fun x=>x.1 != s)=false:=by rfl) (hd:o.dst=some t:=by rfl)
  (hf:Aj (get env t)=false:=by rfl) (hst:s≠t0:=by decide) (htt:t≠t0:=by decide) (ht:okT C.nt t:=by rfl) (h0:C.n0=0:=by rfl) (hne:C.ne=0:=by rfl) (hb:(((t,r)::(t0,.own e xs')::(s,.un)::env).all fun x=>Nq x.2)=true:=by rfl):RL P C ops Q k (o::l) env H :=
 YW xs' (fun _=>RL.gh2 (Gh2.drop hb hne) h) hfn hcall hg ho hc hx hv hp ha hcr hr hd hf hst htt ht h0
theorem Ab7 {e:TypeId} {xs:List DV} (hH:H=[]) (h0:get env 0=.own e xs) : Zf [] (.tup []) [.own e xs] [] .ret env H :=
 ⟨⟨[],by rw [hH];rfl⟩,rfl,fun i c hi=>by
  cases i with
  | zero=>simp at hi;subst hi;exact ⟨h0,rfl,by simp⟩
  | succ i=>simp at hi⟩
theorem WF {e:TypeId} {xs:List DV} (hH:H=[]) (h0:get env 0=.own e xs) : Zf [] (.tup []) [.own e xs] [] .normal env H:=Ab7 (env:=env) hH h0
end
end Go.FL
namespace Go.FL
open Go Go.RowKit
section
variable {P:Program} {C:Cx} {X:Snap} {o:Oper} {ops:Array Oper} {Q:Exit→Env→Ab→Prop} {env env':Env} {H H':Ab} {a:Act} {w w':World} {I I':Nat→Prop} {μ μ':List Nat} {O O':Nat→Option Loc}
 {K:Env→Ab→Prop} {k:Nat} {l:List Oper}
theorem Wj {p:Pl} {e:TypeId} {xs:List DV} (hp:AB env H p=.own e xs) (v:AV) : AB (FJ p v env) (HM p v H) p=v:=by
 cases p with
 | t n=>simp [AB,FJ,get]
 | c id off =>
  simp only [AB] at hp
  cases hH:H[id]? with
  | none=>rw [hH] at hp;cases hp
  | some ob =>
   cases ob with
   | mo _ _=>rw [hH] at hp;cases hp
   | box cs =>
    rw [hH] at hp
    replace hp:cs.getD off .un=.own e xs:=hp
    have hlt:off<cs.length:=by
     rw [lD] at hp
     cases hx:cs[off]? with
     | none=>simp [hx] at hp
     | some y=>exact (lS.1 hx).1
    have hlt':id<H.length:=(lS.1 hH).1
    have h2:HM (.c id off) v H=H.set id (.box (cs.set off v)):=by simp [HM,Da,hH]
    have h3:(H.set id (.box (cs.set off v)))[id]?=some (.box (cs.set off v)):=by simp [hlt']
    rw [h2]
    simp only [AB,h3]
    show (cs.set off v).getD off .un=v
    rw [lD,List.getElem?_set_self hlt];rfl
theorem Uo (p:Pl) (v v':AV) (H:Ab) : HM p v (HM p v' H)=HM p v H:=by
 cases p with
 | t n=>rfl
 | c id off =>
  simp only [HM,Da]
  cases hH:H[id]? with
  | none=>simp [hH]
  | some ob =>
   cases ob with
   | mo _ _=>simp [hH]
   | box cs =>
    have hlt':id<H.length:=(lS.1 hH).1
    simp [hlt']
theorem T9 (p:Pl) (v v':AV) (env:Env) (s:Nat) : get (FJ p v env) s=get (FJ p v (FJ p v' env)) s:=by
 cases p with
 | t n =>
  simp only [FJ,get]
  split<;>rfl
 | c id off=>rfl
theorem XH {p:Pl} {v:AV} (hp:AB env H p=v) (hv:v≠.un) : HM p v H=H:=by
 cases p with
 | t n=>rfl
 | c id off =>
  simp only [AB] at hp
  cases hH:H[id]? with
  | none=>rw [hH] at hp;exact absurd hp.symm hv
  | some ob =>
   cases ob with
   | mo _ _=>rw [hH] at hp;exact absurd hp.symm hv
   | box cs =>
    rw [hH] at hp
    replace hp:cs.getD off .un=v:=hp
    simp only [HM,Da,hH]
    have:cs.set off v=cs:=by
     refine List.set_same _ _ ?_
     rw [lD] at hp
     cases hx:cs[off]? with
     | none=>simp [hx] at hp;exact absurd hp.symm hv
     | some y=>simp [hx] at hp;rw [hp]
    rw [this,List.set_same _ _ hH]
theorem Re {p:Pl} {v:AV} (hp:AB env H p=v) (s:Nat) : get (FJ p v env) s=get env s:=by
 cases p with
 | t n =>
  simp only [FJ,get]
  split
  ·rename_i h;subst h;exact hp.symm
  ·rfl
 | c id off=>rfl
theorem Sim.storeA {p:Pl} {i r:Nat} {e:TypeId} {addr:Addr} (ha:a.tmps.getD r undef=.pointer (some addr)) (hn:∀ id off,p=.c id off→X.n0≤id) : ∀ (us:List Value) (k:Nat) (ds zs:List DV) (env:Env) (H:Ab) (w:World) (xs:List DV),Sim P X env H a w I μ O →
  AB env H p=.own e xs→get env r=.ep p i 0→xs[i]?=some (.ag zs)→zs.length=Av P e→k+us.length≤zs.length→RepAll w I ds us→(∀ u∈us,u.oneCell'=true) →
  ∃ w',(storeCells addr us k).run P w=.ok () w'∧Sim P X (FJ p (.own e (xs.set i (.ag (zs.take k++ds++zs.drop (k+us.length))))) env) (HM p (.own e (xs.set i (.ag (zs.take k++ds++zs.drop (k+us.length))))) H) a w' I μ O
 | [],k,ds,zs,env,H,w,xs,hs,hp,hv,hx,hl,hk,hr,h1=>by
  cases hr
  have e1:xs.set i (.ag (zs.take k++[]++zs.drop (k+([]:List Value).length)))=xs:=by
   rw [List.append_nil,List.length_nil,Nat.add_zero,List.take_append_drop,List.set_same _ _ hx]
  rw [e1,XH hp (by simp)]
  exact ⟨w,rfl,hs.same fun s=>Re hp s⟩
 | u::us,k,ds,zs,env,H,w,xs,hs,hp,hv,hx,hl,hk,hr,h1=>by
  cases hr with
  | @cons d _ ds _ hd ht =>
   rw [List.length_cons] at hk
   have he0:Kq P env H a w μ p i 0 (.pointer (some addr)):=by
    have:=hs.envr r
    rw [hv] at this
    rwa [← ha]
   obtain ⟨e',ys,b,n,c,g1,g2,g3,g4,g5⟩:=he0
   have hye:AV.own e xs=.own e' ys:=hp.symm.trans g1
   cases hye
   simp only [Value.pointer.injEq,Option.some.injEq,Nat.add_zero] at g5
   subst g5
   have hek:Kq P env H a w μ p i k (.pointer (some ⟨b,i * Av P e+k,none⟩)):=⟨e,xs,b,n,c,g1,g2,g3,by omega,rfl⟩
   have hu:=h1 u (by simp)
   obtain ⟨b',off,q1,⟨u0,q2⟩,q3,q4⟩:=hs.storeE hp hn hek (x':=.ag (zs.set k d)) (x0:=d) hx rfl hd hu
   simp only [Value.pointer.injEq,Option.some.injEq,Addr.mk.injEq,and_true] at q1
   obtain ⟨rfl,rfl⟩:=q1
   have hIb:¬I b:=by
    obtain ⟨v,bs,m1,m2,m3,m4⟩:=hs.at_place hp
    rw [g2] at m1;cases m1
    have hc0:¬c=0:=by have:=DX m2;omega
    have hb:b∈bs:=by rw [m3];simp [Bv,hc0]
    obtain ⟨k1,k2,k3⟩:=m4 b hb
    cases p with
    | t n=>exact (hs.own b _ (k2 n rfl)).2
    | c id off=>exact (hs.own b _ ((k3 id off rfl).1 (hn id off rfl))).2
   have hst:(store ((⟨b,i * Av P e,none⟩:Addr).add k) u).run P w=.ok () (w.setCell ⟨b,i * Av P e+k,none⟩ u):=by
    have hadd:(⟨b,i * Av P e,none⟩:Addr).add k=⟨b,i * Av P e+k,none⟩:=by unfold Addr.add;split<;>simp_all
    rw [hadd,run_store P w _ u _ hu,q2]
    simp [q3]
   have hkl:k<zs.length:=by omega
   have hset:(xs.set i (.ag (zs.set k d)))[i]?=some (.ag (zs.set k d)):=by
    have:i<xs.length:=(lS.1 hx).1
    simp [this]
   have hv':get (FJ p (.own e (xs.set i (.ag (zs.set k d)))) env) r=.ep p i 0:=by
    cases p with
    | t n =>
     have:n≠r:=fun h=>by
      subst h
      simp only [AB] at hp
      rw [hp] at hv;cases hv
     simp only [FJ,get,if_neg this];exact hv
    | c id off=>exact hv
   obtain ⟨w2,z1,z2⟩:=Sim.storeA ha hn us (k+1) ds (zs.set k d) _ _ _ _ q4 (Wj hp _) hv' hset (by simpa using hl) (by simp;omega)
    (ht.keep (fun b' hb'=>heap_setCell_other w ⟨b,i * Av P e+k,none⟩ b' u fun e=>hIb (by rw [← (show b'=b from e)];exact hb')) fun _ h=>h) fun u hu=>h1 u (by simp [hu])
   refine ⟨w2,?_,?_⟩
   ·simp only [storeCells,Sem.run_bind,hst,Result.andThen_ok,z1]
   ·have e1:(zs.set k d).take (k+1)++ds++(zs.set k d).drop (k+1+us.length)=zs.take k++d::ds++zs.drop (k+(u::us).length):=by
     have t1:(zs.set k d).take (k+1)=zs.take k++[d]:=by
      rw [List.take_add_one,List.getElem?_set_self (by omega),List.take_set_of_le (Nat.le_refl k)];rfl
     have t2:(zs.set k d).drop (k+1+us.length)=zs.drop (k+1+us.length):=by
      rw [List.drop_set_of_lt (by omega)]
     rw [t1,t2,List.length_cons,show k+(us.length+1)=k+1+us.length by omega];simp
    rw [e1,List.set_set,Uo] at z2
    exact z2.same fun s=>T9 _ _ _ _ _
theorem Y7 {α:Type} {F:List α→List DV} {ds zs:List DV} {us:List α} {n m:Nat} {x:α} {y:Operand} {r ty e:Nat} {p:Pl} (hset:(F us).set n (.ag ds)=F (us.set n x)) (hm:m=n) (hx:(F us)[0+n]?=some (.ag zs)) (hl:zs.length=ds.length)
  (h:RL P C ops Q (k+1) l (FJ p (.own e (F (us.set m x))) env) (HM p (.own e (F (us.set m x))) H)) (hsz:Av P ty=ds.length) (hsz2:Av P e=ds.length) (h0:0<ds.length)
  (hg:grd ops env o true=true:=by rfl) (ho:o.op=.store ty (.tmp r) y:=by rfl) (hv:get env r=.ep p (0+n) 0:=by rfl) (hp:AB env H p=.own e (F us):=by rfl) (hy:lk env y=.d (.ag ds):=by rfl) (h1:ds.all DV.leaf=true:=by rfl) (hd:o.dst=none:=by rfl)
  (hn:∀ id off,p=.c id off→C.n0≤id:=by (intro _ _ h;cases h<;>decide)):RL P C ops Q k (o::l) env H:=by
 subst hm
 refine .go hg (.done (by simp [ho]) hd (fun X a w I μ O _ g2 _ hs=>?_) h)
 have hr:=hs.deep (x:=y) (v:=.ag ds) (by rw [hy];rfl)
 generalize hev:a.eval y=u at hr
 cases hr with
 | ag _ vs hr =>
  have he:=hs.envr r
  rw [hv] at he
  obtain ⟨e',ys,b,n',c,g1,g2',g3,g4,g5⟩:=he
  have hye:AV.own e (F us)=.own e' ys:=hp.symm.trans g1
  cases hye
  have hvl:vs.length=ds.length:=hr.length.symm
  obtain ⟨w',z1,z2⟩:=Sim.storeA g5 (fun id off h=>by rw [g2];exact hn id off h) vs 0 ds zs env H w (F us) hs hp hv hx (by rw [hl,hsz2]) (by omega) hr (hr.one h1)
  refine ⟨w',I,μ,O,?_,?_⟩
  ·have hx':a.eval (.tmp r)=.pointer (some ⟨b,(0+m) * Av P e+0,none⟩):=g5
   have hs':(sizeOf ty).run P w=.ok vs.length w:=by rw [hvl,← hsz];exact GL (by omega)
   have z1':(storeCells ⟨b,m * Av P e,none⟩ vs).run P w=.ok () w':=by simpa using z1
   have hsv:(storeVar ty ⟨b,(0+m) * Av P e+0,none⟩ (.agg vs.toArray)).run P w=.ok () w':=by
    simp [storeVar,hs',Value.cells,z1']
   simp only [execOp,ho,hx',hev,Instr.storeAt,Instr.sureAddr,Sem.run_bind,Sem.run_pure,Result.andThen_ok,hsv]
  ·have e1:zs.take 0++ds++zs.drop (0+vs.length)=ds:=by
    rw [Nat.zero_add,List.drop_of_length_le (by omega)];simp
   rw [e1,Nat.zero_add,hset] at z2
   exact z2
end
end Go.FL
namespace Go.FL
open Go Go.RowKit
section
variable {P:Program} {C:Cx} {X:Snap} {o:Oper} {ops:Array Oper} {Q:Exit→Env→Ab→Prop} {env env' envi:Env} {H H' H1:Ab} {a:Act} {w w':World} {I I':Nat→Prop} {μ μ':List Nat} {O O':Nat→Option Loc}
 {K:Env→Ab→Prop} {k:Nat} {l:List Oper} {av:AV}
def L7 (ops:Array Oper) (m:Nat) : Bool :=
 ((List.range ops.size).all fun i=>match ops[i]? with
  | some o=>o.after.all (fun e=>!Region.binds .any e||decide (e.on<i))&&(match o.op with|.select ..=>false|_=>true) &&
   ((List.range m).all fun j=>match ops[j]? with
     | some oj=>match oj.dst with
      | some t=>!(o.looksAt ops).contains t||(decide (j<i)&&EY ops i j)
      | none=>false
     | none=>false)&&(decide (i<m)||o.guard.isNone)
  | none=>false)&&decide (m≤ops.size)
theorem MT {m:Nat} (h:L7 ops m=true) : m≤ops.size∧∀ (i:Nat) o,ops[i]?=some o →
  (∀ e∈o.after,Region.binds .any e=true→e.on<i)∧(∀ j,j<m→∃ oj t,ops[j]?=some oj∧oj.dst=some t∧(t∈o.looksAt ops→j<i∧EY ops i j=true))∧(m≤i→o.guard=none):=by
 unfold L7 at h
 simp only [Bool.and_eq_true,decide_eq_true_eq] at h
 obtain ⟨h,hm⟩:=h
 refine ⟨hm,fun i o ho=>?_⟩
 have hi:i<ops.size:=(Array.getElem?_eq_some_iff.1 ho).1
 have:=List.all_eq_true.1 h i (List.mem_range.2 hi)
 rw [ho] at this
 simp only [Bool.and_eq_true] at this
 obtain ⟨⟨⟨h1,_⟩,h3⟩,h4⟩:=this
 refine ⟨fun e he hb=>?_,fun j hj=>?_,fun him=>?_⟩
 ·obtain ⟨k,hk,rfl⟩:=Array.mem_iff_getElem.1 he
  have:=Array.all_eq_true.1 h1 k hk
  rw [hb] at this
  simpa using this
 ·have:=List.all_eq_true.1 h3 j (List.mem_range.2 hj)
  split at this
  ·rename_i oj hoj
   split at this
   ·rename_i t ht
    refine ⟨oj,t,hoj,ht,fun hm=>?_⟩
    have hc:(o.looksAt ops).contains t=true:=List.contains_iff_mem.2 hm
    rw [hc] at this
    simpa using this
   ·cases this
  ·cases this
 ·rw [Bool.or_eq_true] at h4
  rcases h4 with h4|h4
  ·have:=of_decide_eq_true h4;omega
  ·simpa using h4
theorem Aaz {m:Nat} {env0:Env} {tv:List (Nat×AV)} (hok:L7 ops m=true) (hlen:tv.length=m) (hone:∀ i,i<m→∃ o t v,ops[i]?=some o∧tv[i]?=some (t,v)∧PO P C ops H env0 (tv.take i).reverse o t v)
  (hdist:∀ (i j t:Nat) v u,tv[i]?=some (t,v)→tv[j]?=some (t,u)→i=j)
  (hst:∀ i o,m≤i→ops[i]?=some o→∀ e,(∀ (j t:Nat) v,EY ops i j=true→tv[j]?=some (t,v)→get e t=v)→(∀ t,(∀ (j:Nat) v,tv[j]?≠some (t,v))→get e t=get env0 t)→OpOK P C o e H fun e' H'=>(∀ t,get e' t=get e t)∧H'=H)
  (hfin:RL P C ops Q ops.size [] (tv.reverse++env0) H) (n1:X.nt=C.nt) (n2:X.n0=C.n0) (n3:X.ne=C.ne):∀ (fuel:Nat) (L:Array Bool) (a:Act) (w:World) (I:Nat→Prop) (μ:List Nat) (O:Nat→Option Loc),L.size=ops.size→RM ops L →
   (List.range ops.size).countP (fun i=>!L.getD i false)≤fuel→Sim P X (C4 tv env0 L) H a w I μ O→wpAnyIn (om C.ro) 0 P .any ops (Post P X Q) fuel L a w:=by
 obtain ⟨hm,hat⟩:=MT hok
 have fin:∀ (fuel:Nat) (L:Array Bool) (a:Act) (w:World) (I:Nat→Prop) (μ:List Nat) (O:Nat→Option Loc),L.size=ops.size→(∀ j,j<ops.size→L.getD j false=true) →
   Sim P X (C4 tv env0 L) H a w I μ O→wpAnyIn (om C.ro) 0 P .any ops (Post P X Q) fuel L a w:=by
  intro fuel L a w I μ O hL hall hs
  refine wpAnyIn_done ?_ ?_ fuel
  ·apply List.eq_nil_iff_forall_not_mem.2
   intro j hj
   obtain ⟨h1,o,ho,_⟩:=mem_ready.1 hj
   have hlt:=(Array.getElem?_eq_some_iff.1 ho).1
   rw [B1 (by omega),hall j hlt] at h1;cases h1
  ·refine hfin (by simp) X a w I μ O n1 n2 n3 (hs.same (env':=tv.reverse++env0) fun t=>?_)
   by_cases hex:∃ (i:Nat) (v:AV),tv[i]?=some (t,v)
   ·obtain ⟨i,v,hi⟩:=hex
    rw [BI hdist (hall i (by have:=(lS.1 hi).1;omega)) hi]
    have hmem:(t,v)∈tv.reverse:=List.mem_reverse.2 (List.mem_of_getElem? hi)
    rw [Bc,if_pos (List.contains_iff_mem.2 (List.mem_map_of_mem (f:=(·.1)) hmem))]
    refine DS hmem fun u hu=>?_
    obtain ⟨j,hj⟩:=List.getElem?_of_mem (List.mem_reverse.1 hu)
    have:=hdist i j t v u hi hj
    subst this
    rw [hi] at hj;simp only [Option.some.injEq,Prod.mk.injEq,true_and] at hj;exact hj.symm
   ·rw [Bk fun i v _ hi=>hex ⟨i,v,hi⟩,Bc,if_neg]
    intro hc
    obtain ⟨x,hx,rfl⟩:=List.mem_map.1 (List.contains_iff_mem.1 hc)
    obtain ⟨i,hi⟩:=List.getElem?_of_mem (List.mem_reverse.1 hx)
    exact hex ⟨i,x.2,hi⟩
 intro fuel
 induction fuel with
 | zero =>
  intro L a w I μ O hL hD hf hs
  refine fin 0 L a w I μ O hL (fun j hj=>?_) hs
  cases hv:L.getD j false with
  | true=>rfl
  | false =>
   have:0<(List.range ops.size).countP (fun i=>!L.getD i false):=List.countP_pos_iff.2 ⟨j,List.mem_range.2 hj,by rw [hv];rfl⟩
   omega
 | succ fuel ih =>
  intro L a w I μ O hL hD hf hs
  by_cases hall:∀ j,j<ops.size→L.getD j false=true
  ·exact fin _ L a w I μ O hL hall hs
  obtain ⟨j0,⟨hj0,hj1⟩,hmin⟩:∃ j,(j<ops.size∧L.getD j false=false)∧∀ k,k<j→L.getD k false=true:=by
   have hex:∃ j,j<ops.size∧L.getD j false=false:=by
    apply Classical.byContradiction
    intro hno
    refine hall fun j hj=>?_
    cases hv:L.getD j false with
    | true=>rfl
    | false=>exact absurd ⟨j,hj,hv⟩ hno
   obtain ⟨j,hj⟩:=hex
   induction j using Nat.strongRecOn with
   | ind j ihj =>
    by_cases hk:∃ k,k<j∧L.getD k false=false
    ·obtain ⟨k,hk1,hk2⟩:=hk
     exact ihj k hk1 ⟨by omega,hk2⟩
    ·refine ⟨j,hj,fun k hk1=>?_⟩
     cases hv:L.getD k false with
     | true=>rfl
     | false=>exact absurd ⟨k,hk1,hv⟩ hk
  have hr0:j0∈Region.ready .any ops L:=mem_ready.2 ⟨by rw [B1 (by omega)];exact hj1,_,Array.getElem?_eq_getElem (by omega),fun e he hb=>hmin _ ((hat j0 _ (Array.getElem?_eq_getElem (by omega))).1 e he hb)⟩
  refine ⟨fun h0=>(by rw [h0] at hr0;cases hr0),fun i hi=>?_⟩
  obtain ⟨h1,o,ho,h2⟩:=mem_ready.1 hi
  have hlt:=(Array.getElem?_eq_some_iff.1 ho).1
  rw [B1 (by omega)] at h1
  have hD':RM ops (L.setIfInBounds i true):=fun k ok hk hok' e he hb=>by
   rw [Ay (by omega)] at hk ⊢
   split at hk
   ·rename_i hik;subst hik
    rw [ho] at hok';cases hok'
    split
    ·rfl
    ·exact h2 e he hb
   ·split
    ·rfl
    ·exact hD k ok hk hok' e he hb
  have hcount:(List.range ops.size).countP (fun k=>!(L.setIfInBounds i true).getD k false)≤fuel:=by
   have:=HI (fun i=>!L.getD i false) (fun k=>!(L.setIfInBounds i true).getD k false) i (by simp only [h1];rfl) (by simp only [Ay (by omega:i<L.size),if_true];rfl)
    (fun j hj=>by simp only [Ay (by omega:i<L.size)];rw [if_neg (Ne.symm hj)]) (List.range ops.size) (List.mem_range.2 hlt) List.nodup_range
   omega
  rcases Nat.lt_or_ge i m with him|him
  ·refine QW (fun i o _ ho=>(hat i o ho).2.1) hlen (by omega) hone hdist n1 n2 n3 hL him hi hs fun a' w' I' O' hs'=>?_
   exact ih _ a' w' I' μ O' (by simpa using hL) hD' hcount hs'
  ·have hg:=(hat i o ho).2.2 him
   unfold wpOpIn
   simp only [ho]
   rw [if_pos (by simp [Region.wanted,hg])]
   refine hst i o him ho (C4 tv env0 L) (fun j t v hd hj=>?_) (fun t ht=>Bk fun j v _ hj=>ht j v hj) X a w I μ O _ _ n1 n2 n3 hs fun env' H' a' w' I' μ' O' hs' hK=>?_
   ·obtain ⟨o2,ho2,e,he,hb,rfl⟩:=Ft hd
    rw [ho] at ho2;cases ho2
    exact BI hdist (h2 e he hb) hj
   ·obtain ⟨hK,rfl⟩:=hK
    have heL:C4 tv env0 (L.setIfInBounds i true)=C4 tv env0 L:=by
     have hfm:∀ (l:List Nat),(∀ j∈l,j<m)→l.filterMap (fun j=>if (L.setIfInBounds i true).getD j false=true then tv[j]? else none)=l.filterMap fun j=>if L.getD j false=true then tv[j]? else none:=by
      intro l
      induction l with
      | nil=>intro _;rfl
      | cons x l ihl =>
       intro hx
       have:=hx x (by simp)
       have e1:=Ay (L:=L) (i:=i) (j:=x) (by omega)
       rw [if_neg (by omega)] at e1
       simp only [List.filterMap_cons,e1,ihl fun j hj=>hx j (by simp [hj])]
     unfold C4
     rw [hfm _ fun j hj=>by have:=List.mem_range.1 hj;omega]
    refine ih _ a' w' I' μ' O' (by simpa using hL) hD' hcount ?_
    rw [heL]
    exact hs'.same fun t=>(hK t).symm
theorem AW.drawnI {id:Nat} (m:Nat) {env0:Env} (hm:P.follows .mixedOrders=true) (hok:L7 ops m=true)
  (h:DK P C ops H env0 [] (ops.toList.take m) fun fin =>
   (∀ i o,m≤i→ops[i]?=some o→∀ e,(∀ (j t:Nat) v,EY ops i j=true→fin.reverse[j]?=some (t,v)→get e t=v)→(∀ t,(∀ (j:Nat) v,fin.reverse[j]?≠some (t,v))→get e t=get env0 t)→OpOK P C o e H fun e' H'=>(∀ t,get e' t=get e t)∧H'=H) ∧
   RL P C ops Q ops.size [] (fin++env0) H):AW P C (.region id ops true) Q env0 H:=fun X a w I μ O n1 n2 n3 hs=>by
 obtain ⟨fin,hDL,hst,hfin⟩:=h
 obtain ⟨tv,k1,k2,k3⟩:=hDL.table
 rw [List.append_nil] at k2
 subst k2
 rw [List.reverse_reverse] at hst
 obtain ⟨hle,_⟩:=MT hok
 have hlen:tv.length=m:=by rw [k1];simp;omega
 refine wpIn_region_any hm ?_
 have hz:∀ j,(Array.replicate ops.size false).getD j false=false:=fun j=>by
  simp only [Array.getD_eq_getD_getElem?,Array.getElem?_replicate]
  split<;>rfl
 have hs':Sim P X (C4 tv env0 (Array.replicate ops.size false)) H a {w with drawn:=w.drawn+1} I μ O :=
  (hs.grow (w':={w with drawn:=w.drawn+1}) ⟨rfl,rfl,rfl,Nat.le_refl _,fun _ _=>rfl⟩).same fun t=>Bk fun i v h=>by
   rw [hz] at h;cases h
 have hone:∀ i,i<m→∃ o t v,ops[i]?=some o∧tv[i]?=some (t,v)∧PO P C ops H env0 (tv.take i).reverse o t v:=fun i hi=>by
  have ho:ops[i]?=some ops[i]:=Array.getElem?_eq_getElem (by omega)
  obtain ⟨t,v,m1,m2⟩:=k3 i ops[i] (by rw [List.getElem?_take_of_lt hi];simp)
  exact ⟨_,t,v,ho,m1,by simpa using m2⟩
 have hdist:∀ (i j t:Nat) v u,tv[i]?=some (t,v)→tv[j]?=some (t,u)→i=j:=by
  have lt:∀ (i j t:Nat) v u,tv[i]?=some (t,v)→tv[j]?=some (t,u)→¬i<j:=fun i j t v u hi hj hij=>by
   have hjm:j<m:=by have:=(lS.1 hj).1;omega
   obtain ⟨o,t',v',_,k1,k2⟩:=hone j hjm
   rw [hj] at k1;cases k1
   refine k2.2.2.2.1 (t,v) ?_ rfl
   rw [List.mem_reverse]
   exact List.mem_of_getElem? (by rw [List.getElem?_take_of_lt hij];exact hi)
  intro i j t v u hi hj
  have h1:=lt i j t v u hi hj
  have h2:=lt j i t u v hj hi
  omega
 refine Aaz hok hlen hone hdist hst hfin n1 n2 n3 ops.size _ a _ I μ O (by simp) (fun i o h=>by rw [hz] at h;cases h) ?_ hs'
 have h1:=List.countP_le_length (p:=fun i=>!(Array.replicate ops.size false).getD i false) (l:=List.range ops.size)
 rw [List.length_range] at h1
 omega
theorem MN {e:Env} {t:Nat} {v:AV} (h:get e t=v) (s:Nat) : get ((t,v)::e) s=get e s:=by
 simp only [get]
 split
 ·rename_i h1;subst h1;exact h.symm
 ·rfl
theorem N6 {l:List (Nat×AV)} {t:Nat} (h:(l.map (·.1)).contains t=false) (j:Nat) (v:AV) : l[j]?≠some (t,v):=fun hj=>by
 have:=List.mem_map_of_mem (f:=(·.1)) (List.mem_of_getElem? hj)
 rw [List.contains_iff_mem.2 this] at h;cases h
end
end Go.FL
namespace Go.FL
open Go Go.RowKit
def TP (T:List (Int×Int)) (z:Int) : Int:=((T.find? fun p=>decide (p.1=z)).map (·.2)).getD 0
section
variable {P:Program} {C:Cx} {o:Oper} {env:Env} {H:Ab}
theorem Z8 {T:List (Int×Int)} {z:Int} {x y:Operand} {ty kt et:TypeId} {q q2:IntKind} (hnd:(T.map (·.1)).Nodup) (hu:P.underlying ty=some (.map kt et)) (hk:P.underlying kt=some (.int q)) (hz:∀ w,(zeroValue et).run P w=.ok (.int q2 0) w)
  (ho:o.op=.lookup ty x y false:=by rfl) (hx:A0 (lk env x)=some (.mp (T.map fun p=>.i q p.1) (T.map fun p=>.i q2 p.2)):=by rfl) (hy:A0 (lk env y)=some (.i q z):=by rfl):VOK P C o env H (.d (.i q2 (TP T z))):=by
 have hzip:(T.map fun p=>DV.i q p.1).zip (T.map fun p=>DV.i q2 p.2)=T.map fun p=>(DV.i q p.1,DV.i q2 p.2):=by
  rw [List.zip_map']
 cases hf:T.find? fun p=>decide (p.1=z) with
 | none =>
  have e:TP T z=0:=by simp [TP,hf]
  rw [e]
  refine Abm hu hk hz (fun w I=>.i q2 0) (fun k hk'=>?_) ho hx hy
  obtain ⟨p,hp,rfl⟩:=List.mem_map.1 hk'
  have:=List.find?_eq_none.1 hf p hp
  exact ⟨p.1,rfl,by simpa using this⟩
 | some p =>
  have e:TP T z=p.2:=by simp [TP,hf]
  have hp:=List.mem_of_find?_eq_some hf
  have hpz:p.1=z:=by have:=List.find?_some hf;simpa using this
  rw [e]
  refine Abb hu hk (fun k hk'=>?_) ?_ (fun d' hd'=>?_) ho hx hy
  ·obtain ⟨p',_,rfl⟩:=List.mem_map.1 hk';exact ⟨_,rfl⟩
  ·rw [hzip];exact List.mem_map.2 ⟨p,hp,by rw [hpz]⟩
  ·rw [hzip] at hd'
   obtain ⟨p',hp',e'⟩:=List.mem_map.1 hd'
   simp only [Prod.mk.injEq,DV.i.injEq,true_and] at e'
   obtain ⟨e1,rfl⟩:=e'
   have:p'=p:=by
    obtain ⟨i,hi⟩:=List.getElem?_of_mem hp'
    obtain ⟨j,hj⟩:=List.getElem?_of_mem hp
    have hij:i=j:=by
     refine (List.getElem?_inj (l:=T.map (·.1)) (by rw [List.length_map];exact (lS.1 hi).1) hnd).1 ?_
     rw [List.getElem?_map,List.getElem?_map,hi,hj]
     simp [e1,hpz]
    subst hij
    rw [hi] at hj;exact oI hj
   rw [this]
end
end Go.FL
namespace Go.Proofs
open Go.RowKit Go.FL
set_option maxHeartbeats 4000000 in
set_option maxRecDepth 100000 in
theorem XR (w:World) : Calls Tryz.prog 125 #[.slice none 0 0,.int .i64 0] w fun x w'=>x=.returned (.slice none 0 0)∧w'=w:=by
 go_enter Tryz.func125,Tryz.ntmps125
 go_wp2
 go_ret
 exact ⟨rfl,rfl⟩
set_option maxHeartbeats 4000000 in
set_option maxRecDepth 100000 in
theorem Aa2 : Td Tryz.prog 125 3 17592186044416:=by
 intro n w hn
 rcases Nat.eq_zero_or_pos n with h0|h0
 ·subst h0
  exact (XR w).mono fun _ _ h=>.inl h
 obtain ⟨i0,i1,i2,i3,i4,i5,i6,i7,i8⟩:=CL Gt
 have hrz:∀ ty,(Builtin.append_ #[23,3] ty #[.slice none 0 0,.int .i64 (n:Int)]).run Tryz.prog w=.ok (.slice (some ⟨w.heap.size,0,none⟩) n (grownCap w n 0 3)) (w.drew.alloc (.cells (Builtin.zeroCells (Value.int .i64 0).cells n++Builtin.zeroCells (Value.int .i64 0).cells (grownCap w n 0 3-n)) 3)):=fun ty =>
  Lib.run_append_nil_zeros w 23 3 ty 3 i0 (.int .i64 0) .i64 .i64 i1 (by kernel_rfl) i2 i3 n h0 (by omega) (by omega) (by rw [i5];omega)
 have hg1:=grownCap_ge w n 0 3
 have hg2:=grownCap_le_maxLen w n 0 3 (by unfold maxLen;omega)
 generalize hG:grownCap w n 0 3=G at *
 have hg3:G≤9223372036854775807:=by unfold maxLen at hg2;omega
 obtain ⟨cells,hcells⟩:∃ cs:Array Value,Builtin.zeroCells (Value.int .i64 0).cells n++Builtin.zeroCells (Value.int .i64 0).cells (G-n)=cs:=⟨_,rfl⟩
 rw [hcells] at hrz
 have hsz:cells.size=G * Av Tryz.prog 3:=by
  rw [← hcells,i8,Array.size_append,size_zeroCells,size_zeroCells,i6];omega
 have h1:¬((n:Int)<0):=by omega
 have h2:(n:Int) > 0:=by omega
 have hfin:0<G∧G≤maxLen∧cells.size=G * Av Tryz.prog 3:=⟨by omega,hg2,hsz⟩
 clear hsz hcells i1 i2 i3 i4 i5 i6 i7 i8 hg2
 have HF:=Lib.hid hfin
 clear hfin
 go_enter Tryz.func125,Tryz.ntmps125
 go_wp2_with (at_builtin;refine Lib.wpList_append_run _ rfl _ _ _ _ rfl _ _ rfl rfl _ _ (hrz _) ?_)
 go_ret
 exact .inr ⟨G,HF.out.1,HF.out.2.1,cells,HF.out.2.2,rfl,rfl⟩
end Go.Proofs
namespace Go.FL
open Go Go.Proofs
theorem VB (w:World) (I:Nat→Prop) : RepAll w I [.i .i64 0] (Value.int .i64 0).cells.toList:=.cons (.i _ _) .nil
theorem QF {n:Nat} : List.replicate n (.ag [.i .u8 0,.b false,.sl [],.sl [],.i .i32 0,.sl []])=Its (List.replicate n (Itm.mk 0 (false,[],[]) 0 [])):=by rw [CH,List.map_replicate,Itm.dv_eq];rfl
theorem MA {xs:List Itm} {n:Nat} {x:Itm} {ds:List DV} (h:DV.ag ds=x.dv) : (Its xs).set n (.ag ds)=Its (xs.set n x):=by rw [h,CH,CH,List.map_set]
theorem E8 : Tryz.prog.underlying 69=some (.map 21 3):=by kernel_rfl
theorem Kt : ∀ w,(zeroValue 3).run Tryz.prog w=.ok (.int .i64 0) w:=Ae (by kernel_rfl)
abbrev VA : Int:=((17592186044416:Nat) : Int)
theorem W0 : Td Tryz.prog 125 3 17592186044416:=Aa2
def IsS (xs:List (List Int)) : List DV:=xs.map fun l=>.sl (Is l)
theorem Nj (xs:List (List Int)) : (IsS xs).length=xs.length:=by simp [IsS]
theorem VJ {xs:List (List Int)} {i:Nat} {x:List Int} (h:xs[i]?=some x) : (IsS xs)[i]?=some (.sl (Is x)):=by simp [IsS,h]
theorem Xz (xs:List (List Int)) : ∀ x∈IsS xs,x.cells.length=1:=fun x hx=>by
 simp only [IsS,List.mem_map] at hx
 obtain ⟨n,_,rfl⟩:=hx;rfl
theorem Wl (xs:List (List Int)) : ∃ sz,∀ x∈IsS xs,x.cells.length=sz:=⟨1,Xz xs⟩
theorem U6 (xs:List (List Int)) : ∀ d∈IsS xs,d.flat=true∧d.cells.length=1:=fun x hx=>by
 simp only [IsS,List.mem_map] at hx
 obtain ⟨n,_,rfl⟩:=hx
 exact ⟨by simp [DV.flat,DV.cells,DV.leaf],rfl⟩
abbrev Be : Type:=FW (Int×Int) (Int)
abbrev FA (f:Be) : Prop:=f.OK Tryz.prog (fun x=>[.i .i64 x.1,.i .i64 x.2]) (fun r=>.d (.i .i64 r))
abbrev Dh : Type:=FW (Itm×Itm) (Int)
abbrev LP (f:Dh) : Prop:=f.OK Tryz.prog (fun x=>[.ag [.i .u8 x.1.kind,.b x.1.num.1,.sl (L x.1.num.2.1),.sl (L x.1.num.2.2),.i .i32 x.1.char,.sl (Ars x.1.box)],.ag [.i .u8 x.2.kind,.b x.2.num.1,.sl (L x.2.num.2.1),.sl (L x.2.num.2.2),.i .i32 x.2.char,.sl (Ars x.2.box)]]) (fun r=>.d (.i .i64 r))
abbrev DM : Type:=FW (Itm) (Int)
abbrev RB (f:DM) : Prop:=f.OK Tryz.prog (fun x=>[.ag [.i .u8 x.kind,.b x.num.1,.sl (L x.num.2.1),.sl (L x.num.2.2),.i .i32 x.char,.sl (Ars x.box)]]) (fun r=>.d (.i .i64 r))
theorem Wv : B3 Tryz.prog 149=some (23,1,24):=by kernel_rfl
theorem Y9 : Cb Tryz.prog 149=some (23,1,24,.slice none 0 0):=by kernel_rfl
theorem WN : Tryz.prog.underlying 149=some (.slice (Tryz.prog.elem 149)):=by kernel_rfl
def Dj (a1:Int) (a3:Be) (K1:(List Int)→Option ((List Int))) : Nat→(List Int)→Int→Option ((List Int))
 | 0,_,_=>none
 | k+1,s4,s5=>(Option.bind ((if a1<s5 then ((rd? s4 s5).bind fun x7=>((rd? s4 (w64 (s5-1))).bind fun x8=>((a3.g (x7,x8)).bind fun x9=>(some (decide (x9<0)))))) else (some false)):Option (Bool)) fun (z6:Bool)=>(if z6=true then ((rd? s4 (w64 (s5-1))).bind fun x10=>((rd? s4 s5).bind fun x11=>((rd? s4 s5).bind fun x12=>((rd? (List.set s4 (Int.toNat s5) x10) (w64 (s5-1))).bind fun x13=>(Dj a1 a3 K1 k (List.set (List.set s4 (Int.toNat s5) x10) (Int.toNat (w64 (s5-1))) x11) (w64 (s5-1))))))) else (K1 s4)))
def Di (a1:Int) (a2:Int) (a3:Be) : Nat→(List Int)→Int→Option ((List Int))
 | 0,_,_=>none
 | k+1,s1,s2=>(if s2<a2 then (jn (fun (z3:(List Int))=>(Di a1 a2 a3 k z3 (w64 (s2+1)))) fun K1=>(Dj a1 a3 K1 AH s1 s2)) else (some s1))
def FX (a0:(List Int)) (a1:Int) (a2:Int) (a3:Be) : Option ((List Int)):=(Di a1 a2 a3 AH a0 (w64 (a1+1)))
theorem HV {a0:(List Int)} {a1:Int} {a2:Int} {a3:Be} (oa3:FA a3) {r:(List Int)} (h:FX a0 a1 a2 a3=some r) :
  FnG Tryz.prog 185 [.own 3 (Is a0),.d (.i .i64 a1),.d (.i .i64 a2),.d (a3.dv)] [] (.tup []) [.own 3 (Is r)] []:=by
 unfold FX at h
 refine FnG.of (rs:=[]) 1 53 Tryz.func185 rfl rfl rfl (by simp) (by simp) (by simp) ?_;refine .sr<|kA zj<|kB zj<|kR [0,1,2,3,8] zj<|.block ?_
 refine .loop (.gk [0,1,2,3,8] ?_)
 refine AL.ind (σ:=Nat×(List Int)×Int) (m:=fun p=>p.1) (e:=fun p=>[(0,.own 3 (Is p.2.1)),(1,.d (.i .i64 a1)),(2,.d (.i .i64 a2)),(3,.d (a3.dv)),(8,.d (.i .i64 p.2.2))]) (h:=fun p=>[]) (I:=fun p=>Di a1 a2 a3 p.1 p.2.1 p.2.2=some r) ?_ (AH,a0,(w64 (a1+1))) h
 rintro ⟨k,s1,s2⟩ h ih
 dsimp only at h ih ⊢
 rcases k with _|k
 ·rw [Di] at h;cases h
 rw [Di] at h
 refine .seq<|.sr<|kA zj<|kA zj<|kB zj<|rk [0,1,2,3,8,14] ?_
 rcases brc h with ⟨hc,h⟩|⟨hc,h⟩
 ·refine cnt (dT hc) ?_
  refine .sk ?_
  obtain ⟨K1,hK1,h⟩:=A1 h
  refine AW.mj (σ:=(List Int)) (fun p=>K1 p=some r) (fun p=>[(0,.own 3 (Is p)),(1,.d (.i .i64 a1)),(2,.d (.i .i64 a2)),(3,.d (a3.dv)),(8,.d (.i .i64 s2))]) (fun p=>[]) ?_ ?_
  ·skip
   refine .block<|.sr<|kA zj<|kR [0,1,2,3,8,9] zj<|.block ?_
   refine .loop (.gk [0,1,2,3,8,9] ?_)
   refine AL.ind (σ:=Nat×(List Int)×Int) (m:=fun p=>p.1) (e:=fun p=>[(0,.own 3 (Is p.2.1)),(1,.d (.i .i64 a1)),(2,.d (.i .i64 a2)),(3,.d (a3.dv)),(8,.d (.i .i64 s2)),(9,.d (.i .i64 p.2.2))]) (h:=fun p=>[]) (I:=fun p=>Dj a1 a3 K1 p.1 p.2.1 p.2.2=some r) ?_ (AH,s1,s2) h
   rintro ⟨k,s4,s5⟩ h ih
   dsimp only at h ih ⊢
   rcases k with _|k
   ·rw [Dj] at h;cases h
   rw [Dj] at h
   refine .seq<|.seq ?_
   obtain ⟨z6,hz,h⟩:=bnd h
   refine AW.mr (σ:=Unit) (fun _=>True) (fun _=>[(0,.own 3 (Is s4)),(1,.d (.i .i64 a1)),(2,.d (.i .i64 a2)),(3,.d (a3.dv)),(8,.d (.i .i64 s2)),(9,.d (.i .i64 s5)),(34,.d (.b z6))]) (fun _=>[]) ?_ ?_
   ·skip
    refine .drawn 17 AS (by kernel_rfl) ?_;refine kV Ac<|kV Ac<|kV vbi ?_
    rcases brc hz with ⟨hc,hz⟩|⟨hc,hz⟩
    ·have hb0:(decide (a1<s5))=true:=(dT hc)
     refine kV (VOK.lit (Ac) hb0)<|kV Ac<|kV JJ<|kV Ac ?_
     obtain ⟨x7,g7,hz⟩:=bnd hz
     obtain ⟨n7,p07,q7⟩:=Aq g7
     refine kV (LR (off:=0) (len:=(Is s4).length) n7 p07 (by rw [Az];exact (lS.1 q7).1) Dw (by decide))<|kV (PT (i:=0+n7) (j:=0) (xs:=Is s4) (.i .i64 x7) ⟨_,by rw [Nat.zero_add];exact Ep q7,rfl⟩ Bh)<|kV JJ<|kV Ac<|kV vbi ?_
     obtain ⟨x8,g8,hz⟩:=bnd hz
     obtain ⟨n8,p08,q8⟩:=Aq g8
     refine kV (LR (off:=0) (len:=(Is s4).length) n8 p08 (by rw [Az];exact (lS.1 q8).1) Dw (by decide))<|kV (PT (i:=0+n8) (j:=0) (xs:=Is s4) (.i .i64 x8) ⟨_,by rw [Nat.zero_add];exact Ep q8,rfl⟩ Bh) ?_
     obtain ⟨x9,g9,hz⟩:=bnd hz
     refine kV (NP (oa3 _ _ g9))<|kV vbi<|kV Ao<|dz ?_;refine RL.gk [0,1,2,3,8,9,34]<|.nil ?_
     cases hz
     exact jr () trivial
    have hb0:(decide (a1<s5))=false:=(dF hc)
    refine kV (VOK.lit (Ac) hb0)<|dgf ?_;refine dgf ?_;refine dgf ?_;refine dgf ?_;refine dgf ?_;refine dgf ?_;refine dgf ?_;refine dgf ?_;refine dgf ?_;refine dgf ?_;refine dgf ?_;refine dgf ?_;refine kV Ao<|dz ?_;refine RL.gk [0,1,2,3,8,9,34]<|.nil ?_
    cases hz
    exact jr () trivial
   rintro _ _
   rcases brc h with ⟨hc,h⟩|⟨hc,h⟩
   ·refine cnt hc ?_
    refine .sk ?_;refine .seq<|.block ?_
    obtain ⟨x10,g10,h⟩:=bnd h
    obtain ⟨x11,g11,h⟩:=bnd h
    obtain ⟨x12,g12,h⟩:=bnd h
    refine .drawnF 15 [2,3,4] [(0,.own 3 ((Is s4).set (Int.toNat s5) (.i .i64 x10)))] [] AS (by kernel_rfl) rfl ?_;refine kV JJ<|kV Ac<|kV JJ<|kV Ac<|kV vbi<|kV JJ<|kV Ac<|kV vbi ?_
    obtain ⟨n10,p010,q10⟩:=Aq g10
    refine kV (LR (off:=0) (len:=(Is s4).length) n10 p010 (by rw [Az];exact (lS.1 q10).1) Dw (by decide))<|kV (PT (i:=0+n10) (j:=0) (xs:=Is s4) (.i .i64 x10) ⟨_,by rw [Nat.zero_add];exact Ep q10,rfl⟩ Bh)<|kV JJ<|kV Ac ?_
    obtain ⟨n11,p011,q11⟩:=Aq g11
    refine kV (LR (off:=0) (len:=(Is s4).length) n11 p011 (by rw [Az];exact (lS.1 q11).1) Dw (by decide))<|kV (PT (i:=0+n11) (j:=0) (xs:=Is s4) (.i .i64 x11) ⟨_,by rw [Nat.zero_add];exact Ep q11,rfl⟩ Bh) ?_
    obtain ⟨n12,p012,q12⟩:=Aq g12
    refine kV (LR (off:=0) (len:=(Is s4).length) n12 p012 (by rw [Az];exact (lS.1 q12).1) Dw (by decide))<|dz ?_
    refine ⟨?_,?_,?_⟩
    ·intro k hk
     simp only [List.mem_cons,List.not_mem_nil,or_false] at hk
     rcases hk with rfl|rfl|rfl
     ·exact ⟨_,_,_,rfl,rfl,rfl,rfl,rfl,rfl,(show VOK _ _ _ _ _ (.ref (.t 0) 0 (Is s4).length) from by rw [show (Is s4).length=((Is s4).set (Int.toNat s5) (.i .i64 x10)).length by rw [List.length_set]];exact JJ)⟩
     ·exact ⟨_,_,_,rfl,rfl,rfl,rfl,rfl,rfl,Ac⟩
     ·exact ⟨_,_,_,rfl,rfl,rfl,rfl,rfl,rfl,vbi⟩
    ·intro om e hom hge
     cases hom
     refine Ni (x:=.tmp 51) (y:=.tmp 46) (r:=51) (ay:=.t 46) (p:=.t 0) (i:=0+n12) (k:=0) (v:=.i .i64 x10) (x':=.i .i64 x10) rfl rfl rfl rfl GS ((hge 51 (fun k hk v hv=>by
       simp only [List.mem_cons,List.not_mem_nil,or_false] at hk
       rcases hk with rfl|rfl|rfl
       ·exact (by decide:¬(some 39=some 51)) (congrArg (Option.map Prod.fst) hv)
       ·exact (by decide:¬(some 40=some 51)) (congrArg (Option.map Prod.fst) hv)
       ·exact (by decide:¬(some 41=some 51)) (congrArg (Option.map Prod.fst) hv))).trans rfl) ((hge 0 (fun k hk v hv=>by
       simp only [List.mem_cons,List.not_mem_nil,or_false] at hk
       rcases hk with rfl|rfl|rfl
       ·exact (by decide:¬(some 39=some 0)) (congrArg (Option.map Prod.fst) hv)
       ·exact (by decide:¬(some 40=some 0)) (congrArg (Option.map Prod.fst) hv)
       ·exact (by decide:¬(some 41=some 0)) (congrArg (Option.map Prod.fst) hv))).trans rfl) (fun _ _ h=>by cases h) ((hge 46 (fun k hk v hv=>by
       simp only [List.mem_cons,List.not_mem_nil,or_false] at hk
       rcases hk with rfl|rfl|rfl
       ·exact (by decide:¬(some 39=some 46)) (congrArg (Option.map Prod.fst) hv)
       ·exact (by decide:¬(some 40=some 46)) (congrArg (Option.map Prod.fst) hv)
       ·exact (by decide:¬(some 41=some 46)) (congrArg (Option.map Prod.fst) hv))).trans rfl) rfl ?_ ⟨by rw [show Int.toNat s5=0+n12 from by rw [p012];simp];rfl,rfl⟩
     rw [Nat.zero_add,lD,Ep q12];rfl
    rw [show (Is s4).set (Int.toNat s5) (.i .i64 x10)=Is (List.set s4 (Int.toNat s5) x10) from SC _ _ _]
    refine RL.gk [0,1,2,3,8,9,34,37,38,39,40,41,42,43,44,46,47,48,50] ?_
    obtain ⟨x13,g13,h⟩:=bnd h
    obtain ⟨n13,p013,q13⟩:=Aq g13
    refine ixr (off:=0) (len:=(Is s4).length) n13 p013 (by rw [Az];simpa using (lS.1 q13).1) ?_ Dw (by decide)
    refine Z9 (F:=Is) (D:=fun x=>.i .i64 x) SC (us:=(List.set s4 (Int.toNat s5) x10)) (n:=n13) (m:=Int.toNat (w64 (s5-1))) (x:=x11) (by rw [p013];rfl) ⟨_,by rw [Nat.zero_add];exact Ep q13,rfl⟩ ?_ GS
    refine RL.gk [0,1,2,3,8,9,34,37,38,39,40,41,42,43,44,46,47,48,50]<|.nil ?_;refine aw<|.gk [0,1,2,3,8,9]<|.region<|kA zj<|kB zj<|kD zj<|.nil ?_;refine AL.gk [0,1,2,3,8,9] ?_
    exact ih (k,(List.set (List.set s4 (Int.toNat s5) x10) (Int.toNat (w64 (s5-1))) x11),(w64 (s5-1))) h (Nat.lt_succ_self _)
   refine cnf (bf hc) ?_;refine .gk [0,1,2,3,8]<|.exit ?_
   exact jr (s4) h
  rintro z3 h
  try dsimp only at h ⊢
  subst hK1
  refine .region<|kA zj<|kB zj<|kD zj<|.nil ?_;refine AL.gk [0,1,2,3,8] ?_
  exact ih (k,z3,(w64 (s2+1))) h (Nat.lt_succ_self _)
 refine cnf (dF hc) ?_;refine .exit ?_
 cases h
 exact WF rfl rfl
def EQ (a1:Int) (a2:Be) (K0:(List Int)→Int→Option ((List Int))) : Nat→(List Int)→Int→Int→Option ((List Int))
 | 0,_,_,_=>none
 | k+1,s3,s4,s5=>(if s5≤a1 then ((FX s3 s4 s5 a2).bind fun x6=>(EQ a1 a2 K0 k x6 s5 (w64 (s5+20)))) else (K0 s3 s4))
def FQ (a1:Int) (K3:Int→Option ((List Int))) : Nat→Int→Int→Option ((List Int))
 | 0,_,_=>none
 | k+1,s10,s11=>(if s11≤a1 then none else (K3 s10))
def EL (a1:Int) (x7:(List Int)) : Nat→Int→Option ((List Int))
 | 0,_=>none
 | k+1,s8=>(if s8<a1 then (jn (fun (z9:Int)=>(jn ((EL a1 x7 k (w64 (s8 * 2)))) fun K5=>(if (w64 (z9+s8))<a1 then none else (K5)))) fun K3=>(FQ a1 K3 AH 0 (w64 (2 * s8)))) else (some x7))
def KJ (a0:(List Int)) (a1:Int) (a2:Be) : Option ((List Int)):=(jn (fun (z1:(List Int)) (z2:Int)=>((FX z1 z2 a1 a2).bind fun x7=>(EL a1 x7 AH 20))) fun K0=>(EQ a1 a2 K0 AH a0 0 20))
theorem Pw {a0:(List Int)} {a1:Int} {a2:Be} (oa2:FA a2) {r:(List Int)} (h:KJ a0 a1 a2=some r) :
  FnG Tryz.prog 136 [.own 3 (Is a0),.d (.i .i64 a1),.d (a2.dv)] [] (.tup []) [.own 3 (Is r)] []:=by
 unfold KJ at h
 refine FnG.of (rs:=[]) 1 63 Tryz.func136 rfl rfl rfl (by simp) (by simp) (by simp) ?_;refine .sr<|kR [0,1,2,6] zj<|.sr<|kA zj<|kD zj<|kR [0,1,2,6,7,8] zj ?_
 obtain ⟨K0,hK0,h⟩:=A1 h
 refine AW.mj (σ:=(List Int)×Int) (fun p=>K0 p.1 p.2=some r) (fun p=>[(0,.own 3 (Is p.1)),(1,.d (.i .i64 a1)),(2,.d (a2.dv)),(6,.d (.i .i64 20)),(7,.d (.i .i64 p.2))]) (fun p=>[]) ?_ ?_
 ·skip
  refine .block ?_
  refine .loop (.gk [0,1,2,6,7,8] ?_)
  refine AL.ind (σ:=Nat×(List Int)×Int×Int) (m:=fun p=>p.1) (e:=fun p=>[(0,.own 3 (Is p.2.1)),(1,.d (.i .i64 a1)),(2,.d (a2.dv)),(6,.d (.i .i64 20)),(7,.d (.i .i64 p.2.2.1)),(8,.d (.i .i64 p.2.2.2))]) (h:=fun p=>[]) (I:=fun p=>EQ a1 a2 K0 p.1 p.2.1 p.2.2.1 p.2.2.2=some r) ?_ (AH,a0,0,20) h
  rintro ⟨k,s3,s4,s5⟩ h ih
  dsimp only at h ih ⊢
  rcases k with _|k
  ·rw [EQ] at h;cases h
  rw [EQ] at h
  refine .seq<|.sr<|kA zj<|kA zj<|kB zj<|rk [0,1,2,6,7,8,13] ?_
  rcases brc h with ⟨hc,h⟩|⟨hc,h⟩
  ·refine cnt (dT hc) ?_
   refine .sk ?_;refine .block<|.sr<|mvo ?_;refine kA zj<|kA zj<|kA zj ?_
   obtain ⟨x6,g6,h⟩:=bnd h
   refine XF (Is x6) ?_ (HV oa2 g6) Tryz.call185
   refine RL.gk [0,1,2,6,7,8,13,15,16,17,18]<|rk [0,1,2,6,8]<|.sr<|kA zj<|kR [0,1,2,6,7,8] zj<|.region<|kA zj<|kA zj<|kB zj<|kD zj<|.nil ?_;refine AL.gk [0,1,2,6,7,8] ?_
   exact ih (k,x6,s5,(w64 (s5+20))) h (Nat.lt_succ_self _)
  refine cnf (dF hc) ?_;refine .gk [0,1,2,6,7]<|.exit ?_
  exact jr (s3,s4) h
 rintro ⟨z1,z2⟩ h
 try dsimp only at h ⊢
 subst hK0
 refine .sr<|mvo ?_;refine kA zj<|kA zj<|kA zj ?_
 obtain ⟨x7,g7,h⟩:=bnd h
 refine XF (Is x7) ?_ (HV oa2 g7) Tryz.call185
 refine RL.gk [0,1,2,6,7,24,25,26,27]<|rk [0,1,2,6]<|.block ?_
 refine .loop (.gk [0,1,2,6] ?_)
 refine AL.ind (σ:=Nat×Int) (m:=fun p=>p.1) (e:=fun p=>[(0,.own 3 (Is x7)),(1,.d (.i .i64 a1)),(2,.d (a2.dv)),(6,.d (.i .i64 p.2))]) (h:=fun p=>[]) (I:=fun p=>EL a1 x7 p.1 p.2=some r) ?_ (AH,20) h
 rintro ⟨k,s8⟩ h ih
 dsimp only at h ih ⊢
 rcases k with _|k
 ·rw [EL] at h;cases h
 rw [EL] at h
 refine .seq<|.sr<|kA zj<|kA zj<|kB zj<|rk [0,1,2,6,30] ?_
 rcases brc h with ⟨hc,h⟩|⟨hc,h⟩
 ·refine cnt (dT hc) ?_
  refine .sk ?_;refine .block<|.sr<|kA zj<|kB zj<|kD zj<|kR [0,1,2,6,7,8] zj ?_
  obtain ⟨K3,hK3,h⟩:=A1 h
  refine AW.mj (σ:=Int) (fun p=>K3 p=some r) (fun p=>[(0,.own 3 (Is x7)),(1,.d (.i .i64 a1)),(2,.d (a2.dv)),(6,.d (.i .i64 s8)),(7,.d (.i .i64 p))]) (fun p=>[]) ?_ ?_
  ·skip
   refine .block ?_
   refine .loop (.gk [0,1,2,6,7,8] ?_)
   refine AL.ind (σ:=Nat×Int×Int) (m:=fun p=>p.1) (e:=fun p=>[(0,.own 3 (Is x7)),(1,.d (.i .i64 a1)),(2,.d (a2.dv)),(6,.d (.i .i64 s8)),(7,.d (.i .i64 p.2.1)),(8,.d (.i .i64 p.2.2))]) (h:=fun p=>[]) (I:=fun p=>FQ a1 K3 p.1 p.2.1 p.2.2=some r) ?_ (AH,0,(w64 (2 * s8))) h
   rintro ⟨k,s10,s11⟩ h ih
   dsimp only at h ih ⊢
   rcases k with _|k
   ·rw [FQ] at h;cases h
   rw [FQ] at h
   refine .seq<|.sr<|kA zj<|kA zj<|kB zj<|rk [0,1,2,6,7,8,35] ?_
   rcases brc h with ⟨hc,h⟩|⟨hc,h⟩
   ·refine cnt (dT hc) ?_
    refine .sk ?_;refine .block<|.sr<|fz (p:=.t 0) ?_;refine kA zj<|kA zj<|kA zj<|kA zj<|kB zj<|kA zj<|kA zj ?_
    exact nomatch h
   refine cnf (dF hc) ?_;refine .gk [0,1,2,6,7]<|.exit ?_
   exact jr (s10) h
  rintro z9 h
  try dsimp only at h ⊢
  subst hK3
  refine .seq<|.sr<|kA zj<|kA zj<|kB zj<|kR [0,1,2,6,7,9] zj<|.sr<|kA zj<|kA zj<|kB zj<|rk [0,1,2,6,7,9,54] ?_
  obtain ⟨K5,hK5,h⟩:=A1 h
  refine AW.mr (σ:=Unit) (fun p=>K5=some r) (fun p=>[(0,.own 3 (Is x7)),(1,.d (.i .i64 a1)),(2,.d (a2.dv)),(6,.d (.i .i64 s8))]) (fun p=>[]) ?_ ?_
  ·skip
   rcases brc h with ⟨hc,h⟩|⟨hc,h⟩
   ·refine cnt (dT hc) ?_
    refine .region<|fz (p:=.t 0) ?_;refine kA zj<|kA zj<|kA zj<|kA zj<|kA zj ?_
    exact nomatch h
   refine cnf (dF hc) ?_;refine .gk [0,1,2,6]<|.skip ?_
   exact jr () h
  rintro _ h
  subst hK5
  refine aw<|.region<|kA zj<|kB zj<|kD zj<|.nil ?_;refine AL.gk [0,1,2,6] ?_
  exact ih (k,(w64 (s8 * 2))) h (Nat.lt_succ_self _)
 refine cnf (dF hc) ?_;refine .exit ?_
 cases h
 exact WF rfl rfl
def PG (a0:(List Int)) (a1:Be) : Option ((List Int)):=((KJ a0 ((List.length a0:Nat) : Int) a1).bind fun x1=>(some x1))
theorem SF {a0:(List Int)} {a1:Be} (oa1:FA a1) {r:(List Int)} (h:PG a0 a1=some r) :
  FnG Tryz.prog 83 [.own 3 (Is a0),.d (a1.dv)] [] (.tup []) [.own 3 (Is r)] []:=by
 unfold PG at h
 refine FnG.of (rs:=[]) 1 9 Tryz.func83 rfl rfl rfl (by simp) (by simp) (by simp) ?_;refine .region<|mvo ?_;refine mvo ?_;refine kK (Q7 (Az _) CQ)<|kA zj ?_
 obtain ⟨x1,g1,h⟩:=bnd h
 refine RL.gk [0,1,4,6,7] ?_
 refine XF (Is x1) ?_ (Pw oa1 g1) Tryz.call136
 refine RL.gk [0,1,6,7,8]<|.nil ?_
 cases h
 exact WF rfl rfl
end Go.FL
