/-
  Part 5 of the base of the proofs: a logic of our own over the calculus, the contracts of the functions
-/
import Derived.Test.YtjmalfcinmmekaaGreatPaD
set_option linter.unusedVariables false
namespace Go.FL
open Go Go.Proofs
def Dv (a1:Int) (a2:Int) (a3:Int) : Nat→(List Int)→Int→Option ((List Int))
 | 0,_,_=>none
 | k+1,s1,s2=>(if s2<a3 then ((rd? s1 (w64 (a2+s2))).bind fun x3=>((rd? s1 (w64 (a1+s2))).bind fun x4=>((rd? s1 (w64 (a1+s2))).bind fun x5=>((rd? (List.set s1 (Int.toNat (w64 (a1+s2))) x3) (w64 (a2+s2))).bind fun x6=>(Dv a1 a2 a3 k (List.set (List.set s1 (Int.toNat (w64 (a1+s2))) x3) (Int.toNat (w64 (a2+s2))) x4) (w64 (s2+1))))))) else (some s1))
def ET (a0:(List Int)) (a1:Int) (a2:Int) (a3:Int) (a4:Al) : Option ((List Int)):=(Dv a1 a2 a3 AC a0 0)
theorem FJ {a0:(List Int)} {a1:Int} {a2:Int} {a3:Int} {a4:Al} (oa4:Bt a4) {r:(List Int)} (h:ET a0 a1 a2 a3 a4=some r) :
  FnG Tryz.prog 276 [.own 3 (Is a0),.d (.i .i64 a1),.d (.i .i64 a2),.d (.i .i64 a3),.d (a4.dv)] [] (.tup []) [.own 3 (Is r)] []:=by
 unfold ET at h
 refine FnG.of (rs:=[]) 1 38 Tryz.func276 rfl rfl rfl (by simp) (by simp) (by simp) ?_;refine .sr ?_;refine ar [0,1,2,3,10] ?_;refine .block ?_
 refine .loop (.gk [0,1,2,3,10] ?_)
 refine AL.ind (σ:=Nat×(List Int)×Int) (m:=fun p=>p.1) (e:=fun p=>[(0,.own 3 (Is p.2.1)),(1,.d (.i .i64 a1)),(2,.d (.i .i64 a2)),(3,.d (.i .i64 a3)),(10,.d (.i .i64 p.2.2))]) (h:=fun p=>[]) (I:=fun p=>Dv a1 a2 a3 p.1 p.2.1 p.2.2=some r) ?_ (AC,a0,0) h
 rintro ⟨k,s1,s2⟩ h ih
 dsimp only at h ih ⊢
 rcases k with _|k
 ·rw [Dv] at h;cases h
 rw [Dv] at h
 refine .seq ?_;refine .sr ?_;refine vk (Aa) ?_;refine vk (Aa) ?_;refine vk (vbi) ?_;refine rk [0,1,2,3,10,13] ?_
 rcases brc h with ⟨hc,h⟩|⟨hc,h⟩
 ·refine cnt (dT hc) ?_
  refine .skip ?_
  show AW _ _ _ _ _ _
  refine .seq ?_;refine .block ?_
  obtain ⟨x3,g3,h⟩:=bnd h
  obtain ⟨x4,g4,h⟩:=bnd h
  obtain ⟨x5,g5,h⟩:=bnd h
  refine .drawnF 21 [4,5,6,7] [(0,.own 3 ((Is s1).set (Int.toNat (w64 (a1+s2))) (.i .i64 x3)))] [] AZ (by kernel_rfl) rfl ?_;refine dv Ej ?_;refine dv (Aa) ?_;refine dv (Aa) ?_;refine dv (vbi) ?_;refine dv Ej ?_;refine dv (Aa) ?_;refine dv (Aa) ?_;refine dv (vbi) ?_;refine dv Ej ?_;refine dv (Aa) ?_;refine dv (Aa) ?_;refine dv (vbi) ?_
  obtain ⟨n3,p03,q3⟩:=Ai g3
  refine dv (FP (off:=0) (len:=(Is s1).length) n3 p03 (by rw [Af];exact (lS.1 q3).1) Bg (by decide)) ?_;refine dv (HN (i:=0+n3) (j:=0) (xs:=Is s1) (.i .i64 x3) ⟨_,by rw [Nat.zero_add];exact Bp q3,rfl⟩ AJ) ?_;refine dv Ej ?_;refine dv (Aa) ?_;refine dv (Aa) ?_;refine dv (vbi) ?_
  obtain ⟨n4,p04,q4⟩:=Ai g4
  refine dv (FP (off:=0) (len:=(Is s1).length) n4 p04 (by rw [Af];exact (lS.1 q4).1) Bg (by decide)) ?_;refine dv (HN (i:=0+n4) (j:=0) (xs:=Is s1) (.i .i64 x4) ⟨_,by rw [Nat.zero_add];exact Bp q4,rfl⟩ AJ) ?_
  obtain ⟨n5,p05,q5⟩:=Ai g5
  refine dv (FP (off:=0) (len:=(Is s1).length) n5 p05 (by rw [Af];exact (lS.1 q5).1) Bg (by decide)) ?_;refine dz ?_
  refine ⟨?_,?_,?_⟩
  ·intro k hk
   simp only [List.mem_cons,List.not_mem_nil,or_false] at hk
   rcases hk with rfl|rfl|rfl|rfl
   ·exact ⟨_,_,_,rfl,rfl,rfl,rfl,rfl,rfl,(show VOK _ _ _ _ _ (.ref (.t 0) 0 (Is s1).length) from by rw [show (Is s1).length=((Is s1).set (Int.toNat (w64 (a1+s2))) (.i .i64 x3)).length by rw [List.length_set]];exact Ej)⟩
   ·exact ⟨_,_,_,rfl,rfl,rfl,rfl,rfl,rfl,Aa⟩
   ·exact ⟨_,_,_,rfl,rfl,rfl,rfl,rfl,rfl,Aa⟩
   ·exact ⟨_,_,_,rfl,rfl,rfl,rfl,rfl,rfl,vbi⟩
  ·intro om e hom hge
   cases hom
   refine Ir (x:=.tmp 36) (y:=.tmp 29) (r:=36) (ay:=.t 29) (p:=.t 0) (i:=0+n5) (k:=0) (v:=.i .i64 x3) (x':=.i .i64 x3) rfl rfl rfl rfl CT ((hge 36 (fun k hk v hv=>by
     simp only [List.mem_cons,List.not_mem_nil,or_false] at hk
     rcases hk with rfl|rfl|rfl|rfl
     ·exact (by decide:¬(some 20=some 36)) (congrArg (Option.map Prod.fst) hv)
     ·exact (by decide:¬(some 21=some 36)) (congrArg (Option.map Prod.fst) hv)
     ·exact (by decide:¬(some 22=some 36)) (congrArg (Option.map Prod.fst) hv)
     ·exact (by decide:¬(some 23=some 36)) (congrArg (Option.map Prod.fst) hv))).trans rfl) ((hge 0 (fun k hk v hv=>by
     simp only [List.mem_cons,List.not_mem_nil,or_false] at hk
     rcases hk with rfl|rfl|rfl|rfl
     ·exact (by decide:¬(some 20=some 0)) (congrArg (Option.map Prod.fst) hv)
     ·exact (by decide:¬(some 21=some 0)) (congrArg (Option.map Prod.fst) hv)
     ·exact (by decide:¬(some 22=some 0)) (congrArg (Option.map Prod.fst) hv)
     ·exact (by decide:¬(some 23=some 0)) (congrArg (Option.map Prod.fst) hv))).trans rfl) (fun _ _ h=>by cases h) ((hge 29 (fun k hk v hv=>by
     simp only [List.mem_cons,List.not_mem_nil,or_false] at hk
     rcases hk with rfl|rfl|rfl|rfl
     ·exact (by decide:¬(some 20=some 29)) (congrArg (Option.map Prod.fst) hv)
     ·exact (by decide:¬(some 21=some 29)) (congrArg (Option.map Prod.fst) hv)
     ·exact (by decide:¬(some 22=some 29)) (congrArg (Option.map Prod.fst) hv)
     ·exact (by decide:¬(some 23=some 29)) (congrArg (Option.map Prod.fst) hv))).trans rfl) rfl ?_ ⟨by rw [show Int.toNat (w64 (a1+s2))=0+n5 from by rw [p05];simp];rfl,rfl⟩
   rw [Nat.zero_add,lD,Bp q5];rfl
  rw [show (Is s1).set (Int.toNat (w64 (a1+s2))) (.i .i64 x3)=Is (List.set s1 (Int.toNat (w64 (a1+s2))) x3) from G0 _ _ _]
  refine RL.gk [0,1,2,3,10,13,16,17,18,19,20,21,22,23,24,25,26,27,29,30,31,32,33,35] ?_
  obtain ⟨x6,g6,h⟩:=bnd h
  obtain ⟨n6,p06,q6⟩:=Ai g6
  refine ixr (off:=0) (len:=(Is s1).length) n6 p06 (by rw [Af];simpa using (lS.1 q6).1) ?_ Bg (by decide)
  refine SM (F:=Is) (D:=fun x=>.i .i64 x) G0 (us:=(List.set s1 (Int.toNat (w64 (a1+s2))) x3)) (n:=n6) (m:=Int.toNat (w64 (a2+s2))) (x:=x4) (by rw [p06];rfl) ⟨_,by rw [Nat.zero_add];exact Bp q6,rfl⟩ ?_ CT
  refine RL.gk [0,1,2,3,10,13,16,17,18,19,20,21,22,23,24,25,26,27,29,30,31,32,33,35] ?_;refine .nil ?_
  show AW _ _ _ _ _ _
  refine .gk [0,1,2,3,10] ?_;refine .region ?_;refine vk (Aa) ?_;refine vk (vbi) ?_;refine asd ?_;refine .nil ?_;refine AL.gk [0,1,2,3,10] ?_
  exact ih (k,(List.set (List.set s1 (Int.toNat (w64 (a1+s2))) x3) (Int.toNat (w64 (a2+s2))) x4),(w64 (s2+1))) h (Nat.lt_succ_self _)
 refine cnf (dF hc) ?_;refine .exit ?_
 cases h
 exact Mv rfl rfl
def Dr (a1:Int) (a3:Al) (K1:(List Int)→Option ((List Int))) : Nat→(List Int)→Int→Option ((List Int))
 | 0,_,_=>none
 | k+1,s4,s5=>(Option.bind ((if a1<s5 then ((rd? s4 s5).bind fun x7=>((rd? s4 (w64 (s5-1))).bind fun x8=>((a3.g (x7,x8)).bind fun x9=>(some (decide (x9<0)))))) else (some false)):Option (Bool)) fun (z6:Bool)=>(if z6=true then ((rd? s4 (w64 (s5-1))).bind fun x10=>((rd? s4 s5).bind fun x11=>((rd? s4 s5).bind fun x12=>((rd? (List.set s4 (Int.toNat s5) x10) (w64 (s5-1))).bind fun x13=>(Dr a1 a3 K1 k (List.set (List.set s4 (Int.toNat s5) x10) (Int.toNat (w64 (s5-1))) x11) (w64 (s5-1))))))) else (K1 s4)))
def Dl (a1:Int) (a2:Int) (a3:Al) : Nat→(List Int)→Int→Option ((List Int))
 | 0,_,_=>none
 | k+1,s1,s2=>(if s2<a2 then (jn (fun (z3:(List Int))=>(Dl a1 a2 a3 k z3 (w64 (s2+1)))) fun K1=>(Dr a1 a3 K1 AC s1 s2)) else (some s1))
def FQ (a0:(List Int)) (a1:Int) (a2:Int) (a3:Al) : Option ((List Int)):=(Dl a1 a2 a3 AC a0 (w64 (a1+1)))
theorem HZ {a0:(List Int)} {a1:Int} {a2:Int} {a3:Al} (oa3:Bt a3) {r:(List Int)} (h:FQ a0 a1 a2 a3=some r) :
  FnG Tryz.prog 228 [.own 3 (Is a0),.d (.i .i64 a1),.d (.i .i64 a2),.d (a3.dv)] [] (.tup []) [.own 3 (Is r)] []:=by
 unfold FQ at h
 refine FnG.of (rs:=[]) 1 53 Tryz.func228 rfl rfl rfl (by simp) (by simp) (by simp) ?_;refine .sr ?_;refine vk (Aa) ?_;refine vk (vbi) ?_;refine ar [0,1,2,3,8] ?_;refine .block ?_
 refine .loop (.gk [0,1,2,3,8] ?_)
 refine AL.ind (σ:=Nat×(List Int)×Int) (m:=fun p=>p.1) (e:=fun p=>[(0,.own 3 (Is p.2.1)),(1,.d (.i .i64 a1)),(2,.d (.i .i64 a2)),(3,.d (a3.dv)),(8,.d (.i .i64 p.2.2))]) (h:=fun p=>[]) (I:=fun p=>Dl a1 a2 a3 p.1 p.2.1 p.2.2=some r) ?_ (AC,a0,(w64 (a1+1))) h
 rintro ⟨k,s1,s2⟩ h ih
 dsimp only at h ih ⊢
 rcases k with _|k
 ·rw [Dl] at h;cases h
 rw [Dl] at h
 refine .seq ?_;refine .sr ?_;refine vk (Aa) ?_;refine vk (Aa) ?_;refine vk (vbi) ?_;refine rk [0,1,2,3,8,14] ?_
 rcases brc h with ⟨hc,h⟩|⟨hc,h⟩
 ·refine cnt (dT hc) ?_
  refine .skip ?_
  show AW _ _ _ _ _ _
  obtain ⟨K1,hK1,h⟩:=AE h
  refine AW.mj (σ:=(List Int)) (fun p=>K1 p=some r) (fun p=>[(0,.own 3 (Is p)),(1,.d (.i .i64 a1)),(2,.d (.i .i64 a2)),(3,.d (a3.dv)),(8,.d (.i .i64 s2))]) (fun p=>[]) ?_ ?_
  ·skip
   refine .block ?_;refine .sr ?_;refine vk (Aa) ?_;refine ar [0,1,2,3,8,9] ?_;refine .block ?_
   refine .loop (.gk [0,1,2,3,8,9] ?_)
   refine AL.ind (σ:=Nat×(List Int)×Int) (m:=fun p=>p.1) (e:=fun p=>[(0,.own 3 (Is p.2.1)),(1,.d (.i .i64 a1)),(2,.d (.i .i64 a2)),(3,.d (a3.dv)),(8,.d (.i .i64 s2)),(9,.d (.i .i64 p.2.2))]) (h:=fun p=>[]) (I:=fun p=>Dr a1 a3 K1 p.1 p.2.1 p.2.2=some r) ?_ (AC,s1,s2) h
   rintro ⟨k,s4,s5⟩ h ih
   dsimp only at h ih ⊢
   rcases k with _|k
   ·rw [Dr] at h;cases h
   rw [Dr] at h
   refine .seq ?_;refine .seq ?_
   obtain ⟨z6,hz,h⟩:=bnd h
   refine AW.mr (σ:=Unit) (fun _=>True) (fun _=>[(0,.own 3 (Is s4)),(1,.d (.i .i64 a1)),(2,.d (.i .i64 a2)),(3,.d (a3.dv)),(8,.d (.i .i64 s2)),(9,.d (.i .i64 s5)),(34,.d (.b z6))]) (fun _=>[]) ?_ ?_
   ·skip
    refine .drawn 17 AZ (by kernel_rfl) ?_;refine dv (Aa) ?_;refine dv (Aa) ?_;refine dv (vbi) ?_
    rcases brc hz with ⟨hc,hz⟩|⟨hc,hz⟩
    ·have hb0:(decide (a1<s5))=true:=(dT hc)
     refine dv (VOK.lit (Aa) hb0) ?_;refine dv (Aa) ?_;refine dv Ej ?_;refine dv (Aa) ?_
     obtain ⟨x7,g7,hz⟩:=bnd hz
     obtain ⟨n7,p07,q7⟩:=Ai g7
     refine dv (FP (off:=0) (len:=(Is s4).length) n7 p07 (by rw [Af];exact (lS.1 q7).1) Bg (by decide)) ?_;refine dv (HN (i:=0+n7) (j:=0) (xs:=Is s4) (.i .i64 x7) ⟨_,by rw [Nat.zero_add];exact Bp q7,rfl⟩ AJ) ?_;refine dv Ej ?_;refine dv (Aa) ?_;refine dv (vbi) ?_
     obtain ⟨x8,g8,hz⟩:=bnd hz
     obtain ⟨n8,p08,q8⟩:=Ai g8
     refine dv (FP (off:=0) (len:=(Is s4).length) n8 p08 (by rw [Af];exact (lS.1 q8).1) Bg (by decide)) ?_;refine dv (HN (i:=0+n8) (j:=0) (xs:=Is s4) (.i .i64 x8) ⟨_,by rw [Nat.zero_add];exact Bp q8,rfl⟩ AJ) ?_
     obtain ⟨x9,g9,hz⟩:=bnd hz
     refine dv (LA (oa3 _ _ g9)) ?_;refine dv (vbi) ?_;refine dv (Ao) ?_;refine dz ?_;refine RL.gk [0,1,2,3,8,9,34] ?_;refine .nil ?_
     cases hz
     exact jr () trivial
    have hb0:(decide (a1<s5))=false:=(dF hc)
    refine dv (VOK.lit (Aa) hb0) ?_;refine dgf ?_;refine dgf ?_;refine dgf ?_;refine dgf ?_;refine dgf ?_;refine dgf ?_;refine dgf ?_;refine dgf ?_;refine dgf ?_;refine dgf ?_;refine dgf ?_;refine dgf ?_;refine dv (Ao) ?_;refine dz ?_;refine RL.gk [0,1,2,3,8,9,34] ?_;refine .nil ?_
    cases hz
    exact jr () trivial
   rintro _ _
   rcases brc h with ⟨hc,h⟩|⟨hc,h⟩
   ·refine cnt hc ?_
    refine .skip ?_
    show AW _ _ _ _ _ _
    refine .seq ?_;refine .block ?_
    obtain ⟨x10,g10,h⟩:=bnd h
    obtain ⟨x11,g11,h⟩:=bnd h
    obtain ⟨x12,g12,h⟩:=bnd h
    refine .drawnF 15 [2,3,4] [(0,.own 3 ((Is s4).set (Int.toNat s5) (.i .i64 x10)))] [] AZ (by kernel_rfl) rfl ?_;refine dv Ej ?_;refine dv (Aa) ?_;refine dv Ej ?_;refine dv (Aa) ?_;refine dv (vbi) ?_;refine dv Ej ?_;refine dv (Aa) ?_;refine dv (vbi) ?_
    obtain ⟨n10,p010,q10⟩:=Ai g10
    refine dv (FP (off:=0) (len:=(Is s4).length) n10 p010 (by rw [Af];exact (lS.1 q10).1) Bg (by decide)) ?_;refine dv (HN (i:=0+n10) (j:=0) (xs:=Is s4) (.i .i64 x10) ⟨_,by rw [Nat.zero_add];exact Bp q10,rfl⟩ AJ) ?_;refine dv Ej ?_;refine dv (Aa) ?_
    obtain ⟨n11,p011,q11⟩:=Ai g11
    refine dv (FP (off:=0) (len:=(Is s4).length) n11 p011 (by rw [Af];exact (lS.1 q11).1) Bg (by decide)) ?_;refine dv (HN (i:=0+n11) (j:=0) (xs:=Is s4) (.i .i64 x11) ⟨_,by rw [Nat.zero_add];exact Bp q11,rfl⟩ AJ) ?_
    obtain ⟨n12,p012,q12⟩:=Ai g12
    refine dv (FP (off:=0) (len:=(Is s4).length) n12 p012 (by rw [Af];exact (lS.1 q12).1) Bg (by decide)) ?_;refine dz ?_
    refine ⟨?_,?_,?_⟩
    ·intro k hk
     simp only [List.mem_cons,List.not_mem_nil,or_false] at hk
     rcases hk with rfl|rfl|rfl
     ·exact ⟨_,_,_,rfl,rfl,rfl,rfl,rfl,rfl,(show VOK _ _ _ _ _ (.ref (.t 0) 0 (Is s4).length) from by rw [show (Is s4).length=((Is s4).set (Int.toNat s5) (.i .i64 x10)).length by rw [List.length_set]];exact Ej)⟩
     ·exact ⟨_,_,_,rfl,rfl,rfl,rfl,rfl,rfl,Aa⟩
     ·exact ⟨_,_,_,rfl,rfl,rfl,rfl,rfl,rfl,vbi⟩
    ·intro om e hom hge
     cases hom
     refine Ir (x:=.tmp 51) (y:=.tmp 46) (r:=51) (ay:=.t 46) (p:=.t 0) (i:=0+n12) (k:=0) (v:=.i .i64 x10) (x':=.i .i64 x10) rfl rfl rfl rfl CT ((hge 51 (fun k hk v hv=>by
       simp only [List.mem_cons,List.not_mem_nil,or_false] at hk
       rcases hk with rfl|rfl|rfl
       ·exact (by decide:¬(some 39=some 51)) (congrArg (Option.map Prod.fst) hv)
       ·exact (by decide:¬(some 40=some 51)) (congrArg (Option.map Prod.fst) hv)
       ·exact (by decide:¬(some 41=some 51)) (congrArg (Option.map Prod.fst) hv))).trans rfl) ((hge 0 (fun k hk v hv=>by
       simp only [List.mem_cons,List.not_mem_nil,or_false] at hk
       rcases hk with rfl|rfl|rfl
       ·exact (by decide:¬(some 39=some 0)) (congrArg (Option.map Prod.fst) hv)
       ·exact (by decide:¬(some 40=some 0)) (congrArg (Option.map Prod.fst) hv)
       ·exact (by decide:¬(some 41=some 0)) (congrArg (Option.map Prod.fst) hv))).trans rfl) (fun _ _ h=>by cases h) ((hge 46 (fun k hk v hv=>by
       simp only [List.mem_cons,List.not_mem_nil,or_false] at hk
       rcases hk with rfl|rfl|rfl
       ·exact (by decide:¬(some 39=some 46)) (congrArg (Option.map Prod.fst) hv)
       ·exact (by decide:¬(some 40=some 46)) (congrArg (Option.map Prod.fst) hv)
       ·exact (by decide:¬(some 41=some 46)) (congrArg (Option.map Prod.fst) hv))).trans rfl) rfl ?_ ⟨by rw [show Int.toNat s5=0+n12 from by rw [p012];simp];rfl,rfl⟩
     rw [Nat.zero_add,lD,Bp q12];rfl
    rw [show (Is s4).set (Int.toNat s5) (.i .i64 x10)=Is (List.set s4 (Int.toNat s5) x10) from G0 _ _ _]
    refine RL.gk [0,1,2,3,8,9,34,37,38,39,40,41,42,43,44,46,47,48,50] ?_
    obtain ⟨x13,g13,h⟩:=bnd h
    obtain ⟨n13,p013,q13⟩:=Ai g13
    refine ixr (off:=0) (len:=(Is s4).length) n13 p013 (by rw [Af];simpa using (lS.1 q13).1) ?_ Bg (by decide)
    refine SM (F:=Is) (D:=fun x=>.i .i64 x) G0 (us:=(List.set s4 (Int.toNat s5) x10)) (n:=n13) (m:=Int.toNat (w64 (s5-1))) (x:=x11) (by rw [p013];rfl) ⟨_,by rw [Nat.zero_add];exact Bp q13,rfl⟩ ?_ CT
    refine RL.gk [0,1,2,3,8,9,34,37,38,39,40,41,42,43,44,46,47,48,50] ?_;refine .nil ?_
    show AW _ _ _ _ _ _
    refine .gk [0,1,2,3,8,9] ?_;refine .region ?_;refine vk (Aa) ?_;refine vk (vbi) ?_;refine asd ?_;refine .nil ?_;refine AL.gk [0,1,2,3,8,9] ?_
    exact ih (k,(List.set (List.set s4 (Int.toNat s5) x10) (Int.toNat (w64 (s5-1))) x11),(w64 (s5-1))) h (Nat.lt_succ_self _)
   refine cnf (bf hc) ?_;refine .gk [0,1,2,3,8] ?_;refine .exit ?_
   exact jr (s4) h
  rintro z3 h
  try dsimp only at h ⊢
  subst hK1
  refine .region ?_;refine vk (Aa) ?_;refine vk (vbi) ?_;refine asd ?_;refine .nil ?_;refine AL.gk [0,1,2,3,8] ?_
  exact ih (k,z3,(w64 (s2+1))) h (Nat.lt_succ_self _)
 refine cnf (dF hc) ?_;refine .exit ?_
 cases h
 exact Mv rfl rfl
def DW (a2:Int) (a4:Al) (K0:(List Int)→Int→Option ((List Int))) : Nat→(List Int)→Int→Int→Option ((List Int))
 | 0,_,_,_=>none
 | k+1,s3,s4,s5=>(if s4=s5 then (K0 s3 s4) else (if s5<s4 then ((ET s3 (w64 (a2-s4)) a2 s5 a4).bind fun x6=>(DW a2 a4 K0 k x6 (w64 (s4-s5)) s5)) else ((ET s3 (w64 (a2-s4)) (w64 ((w64 (a2+s5))-s4)) s4 a4).bind fun x7=>(DW a2 a4 K0 k x7 s4 (w64 (s5-s4))))))
def Ky (a0:(List Int)) (a1:Int) (a2:Int) (a3:Int) (a4:Al) : Option ((List Int)):=(jn (fun (z1:(List Int)) (z2:Int)=>((ET z1 (w64 (a2-z2)) a2 z2 a4).bind fun x8=>(some x8))) fun K0=>(DW a2 a4 K0 AC a0 (w64 (a2-a1)) (w64 (a3-a2))))
theorem Pi {a0:(List Int)} {a1:Int} {a2:Int} {a3:Int} {a4:Al} (oa4:Bt a4) {r:(List Int)} (h:Ky a0 a1 a2 a3 a4=some r) :
  FnG Tryz.prog 260 [.own 3 (Is a0),.d (.i .i64 a1),.d (.i .i64 a2),.d (.i .i64 a3),.d (a4.dv)] [] (.tup []) [.own 3 (Is r)] []:=by
 unfold Ky at h
 refine FnG.of (rs:=[]) 1 58 Tryz.func260 rfl rfl rfl (by simp) (by simp) (by simp) ?_;refine .sr ?_;refine vk (Aa) ?_;refine vk (Aa) ?_;refine vk (vbi) ?_;refine ar [0,2,3,4,10] ?_;refine .sr ?_;refine vk (Aa) ?_;refine vk (Aa) ?_;refine vk (vbi) ?_;refine ar [0,2,4,10,11] ?_
 obtain ⟨K0,hK0,h⟩:=AE h
 refine AW.mj (σ:=(List Int)×Int) (fun p=>K0 p.1 p.2=some r) (fun p=>[(0,.own 3 (Is p.1)),(2,.d (.i .i64 a2)),(4,.d (a4.dv)),(10,.d (.i .i64 p.2))]) (fun p=>[]) ?_ ?_
 ·skip
  refine .block ?_
  refine .loop (.gk [0,2,4,10,11] ?_)
  refine AL.ind (σ:=Nat×(List Int)×Int×Int) (m:=fun p=>p.1) (e:=fun p=>[(0,.own 3 (Is p.2.1)),(2,.d (.i .i64 a2)),(4,.d (a4.dv)),(10,.d (.i .i64 p.2.2.1)),(11,.d (.i .i64 p.2.2.2))]) (h:=fun p=>[]) (I:=fun p=>DW a2 a4 K0 p.1 p.2.1 p.2.2.1 p.2.2.2=some r) ?_ (AC,a0,(w64 (a2-a1)),(w64 (a3-a2))) h
  rintro ⟨k,s3,s4,s5⟩ h ih
  dsimp only at h ih ⊢
  rcases k with _|k
  ·rw [DW] at h;cases h
  rw [DW] at h
  refine .seq ?_;refine .sr ?_;refine vk (Aa) ?_;refine vk (Aa) ?_;refine vk (vbi) ?_;refine rk [0,2,4,10,11,20] ?_
  rcases brc h with ⟨hc,h⟩|⟨hc,h⟩
  ·refine cnf (ntf (dT hc)) ?_
   refine .gk [0,2,4,10] ?_;refine .exit ?_
   exact jr (s3,s4) h
  refine cnt (ntt (dF hc)) ?_;refine .skip ?_
  show AW _ _ _ _ _ _
  refine .block ?_;refine .sr ?_;refine vk (Aa) ?_;refine vk (Aa) ?_;refine vk (vbi) ?_;refine rk [0,2,4,10,11,23] ?_
  rcases brc h with ⟨hc,h⟩|⟨hc,h⟩
  ·refine cnt (dT hc) ?_
   refine .sr ?_;refine mvo ?_;refine vk (Aa) ?_;refine vk (Aa) ?_;refine vk (vbi) ?_;refine vk (Aa) ?_;refine vk (Aa) ?_;refine vk (Aa) ?_
   obtain ⟨x6,g6,h⟩:=bnd h
   refine LJ (Is x6) ?_ (FJ oa4 g6) Tryz.call276
   refine RL.gk [0,2,4,10,11,23,25,26,27,28,29,30,31] ?_;refine rk [0,2,4,10,11] ?_;refine .region ?_;refine vk (Aa) ?_;refine vk (Aa) ?_;refine vk (vbi) ?_;refine asd ?_;refine .nil ?_;refine AL.gk [0,2,4,10,11] ?_
   exact ih (k,x6,(w64 (s4-s5)),s5) h (Nat.lt_succ_self _)
  refine cnf (dF hc) ?_;refine .sr ?_;refine mvo ?_;refine vk (Aa) ?_;refine vk (Aa) ?_;refine vk (vbi) ?_;refine vk (Aa) ?_;refine vk (Aa) ?_;refine vk (vbi) ?_;refine vk (Aa) ?_;refine vk (vbi) ?_;refine vk (Aa) ?_;refine vk (Aa) ?_
  obtain ⟨x7,g7,h⟩:=bnd h
  refine LJ (Is x7) ?_ (FJ oa4 g7) Tryz.call276
  refine RL.gk [0,2,4,10,11,23,36,37,38,39,40,41,42,43,44,45,46] ?_;refine rk [0,2,4,10,11] ?_;refine .region ?_;refine vk (Aa) ?_;refine vk (Aa) ?_;refine vk (vbi) ?_;refine asd ?_;refine .nil ?_;refine AL.gk [0,2,4,10,11] ?_
  exact ih (k,x7,s4,(w64 (s5-s4))) h (Nat.lt_succ_self _)
 rintro ⟨z1,z2⟩ h
 try dsimp only at h ⊢
 subst hK0
 refine .region ?_;refine mvo ?_;refine vk (Aa) ?_;refine vk (Aa) ?_;refine vk (vbi) ?_;refine vk (Aa) ?_;refine vk (Aa) ?_;refine vk (Aa) ?_
 obtain ⟨x8,g8,h⟩:=bnd h
 refine LJ (Is x8) ?_ (FJ oa4 g8) Tryz.call276
 refine RL.gk [0,2,4,10,51,52,53,54,55,56,57] ?_;refine .nil ?_
 cases h
 exact Mv rfl rfl
def CK (a0:(List Int)) (a1:Int) (a4:Al) (K1:Int→Option ((List Int))) : Nat→Int→Int→Option ((List Int))
 | 0,_,_=>none
 | k+1,s2,s3=>(if s2<s3 then ((rd? a0 (IntKind.wrap .i64 ((IntKind.wrap .u64 (w64 (s2+s3))) / 2 ^ min (Int.toNat 1) (IntKind.bits .u64)))).bind fun x4=>((rd? a0 a1).bind fun x5=>((a4.g (x4,x5)).bind fun x6=>(if x6<0 then (CK a0 a1 a4 K1 k (w64 ((IntKind.wrap .i64 ((IntKind.wrap .u64 (w64 (s2+s3))) / 2 ^ min (Int.toNat 1) (IntKind.bits .u64)))+1)) s3) else (CK a0 a1 a4 K1 k s2 (IntKind.wrap .i64 ((IntKind.wrap .u64 (w64 (s2+s3))) / 2 ^ min (Int.toNat 1) (IntKind.bits .u64)))))))) else (K1 s2))
def Dp (z1:Int) (K3:(List Int)→Option ((List Int))) : Nat→(List Int)→Int→Option ((List Int))
 | 0,_,_=>none
 | k+1,s8,s9=>(if s9<(w64 (z1-1)) then ((rd? s8 (w64 (s9+1))).bind fun x10=>((rd? s8 s9).bind fun x11=>((rd? s8 s9).bind fun x12=>((rd? (List.set s8 (Int.toNat s9) x10) (w64 (s9+1))).bind fun x13=>(Dp z1 K3 k (List.set (List.set s8 (Int.toNat s9) x10) (Int.toNat (w64 (s9+1))) x11) (w64 (s9+1))))))) else (K3 s8))
def CM (a0:(List Int)) (a2:Int) (a4:Al) (K6:Int→Option ((List Int))) : Nat→Int→Int→Option ((List Int))
 | 0,_,_=>none
 | k+1,s15,s16=>(if s15<s16 then ((rd? a0 a2).bind fun x17=>((rd? a0 (IntKind.wrap .i64 ((IntKind.wrap .u64 (w64 (s15+s16))) / 2 ^ min (Int.toNat 1) (IntKind.bits .u64)))).bind fun x18=>((a4.g (x17,x18)).bind fun x19=>(if x19<0 then (CM a0 a2 a4 K6 k s15 (IntKind.wrap .i64 ((IntKind.wrap .u64 (w64 (s15+s16))) / 2 ^ min (Int.toNat 1) (IntKind.bits .u64)))) else (CM a0 a2 a4 K6 k (w64 ((IntKind.wrap .i64 ((IntKind.wrap .u64 (w64 (s15+s16))) / 2 ^ min (Int.toNat 1) (IntKind.bits .u64)))+1)) s16))))) else (K6 s15))
def Dw (z14:Int) (K8:(List Int)→Option ((List Int))) : Nat→(List Int)→Int→Option ((List Int))
 | 0,_,_=>none
 | k+1,s21,s22=>(if z14<s22 then ((rd? s21 (w64 (s22-1))).bind fun x23=>((rd? s21 s22).bind fun x24=>((rd? s21 s22).bind fun x25=>((rd? (List.set s21 (Int.toNat s22) x23) (w64 (s22-1))).bind fun x26=>(Dw z14 K8 k (List.set (List.set s21 (Int.toNat s22) x23) (Int.toNat (w64 (s22-1))) x24) (w64 (s22-1))))))) else (K8 s21))
def CA (a0:(List Int)) (a1:Int) (a2:Int) (a3:Int) (a4:Al) (K11:Int→Option ((List Int))) : Nat→Int→Int→Option ((List Int))
 | 0,_,_=>none
 | k+1,s30,s31=>(if s30<s31 then ((rd? a0 (w64 ((w64 ((w64 ((IntKind.wrap .i64 ((IntKind.wrap .u64 (w64 (a1+a3))) / 2 ^ min (Int.toNat 1) (IntKind.bits .u64)))+a2))-1))-(IntKind.wrap .i64 ((IntKind.wrap .u64 (w64 (s30+s31))) / 2 ^ min (Int.toNat 1) (IntKind.bits .u64)))))).bind fun x32=>((rd? a0 (IntKind.wrap .i64 ((IntKind.wrap .u64 (w64 (s30+s31))) / 2 ^ min (Int.toNat 1) (IntKind.bits .u64)))).bind fun x33=>((a4.g (x32,x33)).bind fun x34=>(if x34<0 then (CA a0 a1 a2 a3 a4 K11 k s30 (IntKind.wrap .i64 ((IntKind.wrap .u64 (w64 (s30+s31))) / 2 ^ min (Int.toNat 1) (IntKind.bits .u64)))) else (CA a0 a1 a2 a3 a4 K11 k (w64 ((IntKind.wrap .i64 ((IntKind.wrap .u64 (w64 (s30+s31))) / 2 ^ min (Int.toNat 1) (IntKind.bits .u64)))+1)) s31))))) else (K11 s30))
def F4 (rc_slices_symMergeCmpFunc_int:(List Int)→Int→Int→Int→Al→Option ((List Int))) (a0:(List Int)) (a1:Int) (a2:Int) (a3:Int) (a4:Al) : Option ((List Int)):=(jn ((jn ((jn (fun (z27:Int) (z28:Int)=>(jn (fun (z29:Int)=>(jn (fun (z35:(List Int))=>(jn (fun (z37:(List Int))=>(if ((decide ((IntKind.wrap .i64 ((IntKind.wrap .u64 (w64 (a1+a3))) / 2 ^ min (Int.toNat 1) (IntKind.bits .u64)))<(w64 ((w64 ((IntKind.wrap .i64 ((IntKind.wrap .u64 (w64 (a1+a3))) / 2 ^ min (Int.toNat 1) (IntKind.bits .u64)))+a2))-z29))))&&(decide ((w64 ((w64 ((IntKind.wrap .i64 ((IntKind.wrap .u64 (w64 (a1+a3))) / 2 ^ min (Int.toNat 1) (IntKind.bits .u64)))+a2))-z29))<a3)))=true then ((rc_slices_symMergeCmpFunc_int z37 (IntKind.wrap .i64 ((IntKind.wrap .u64 (w64 (a1+a3))) / 2 ^ min (Int.toNat 1) (IntKind.bits .u64))) (w64 ((w64 ((IntKind.wrap .i64 ((IntKind.wrap .u64 (w64 (a1+a3))) / 2 ^ min (Int.toNat 1) (IntKind.bits .u64)))+a2))-z29)) a3 a4).bind fun x39=>(some x39)) else (some z37))) fun K14=>(if ((decide (a1<z29))&&(decide (z29<(IntKind.wrap .i64 ((IntKind.wrap .u64 (w64 (a1+a3))) / 2 ^ min (Int.toNat 1) (IntKind.bits .u64))))))=true then ((rc_slices_symMergeCmpFunc_int z35 a1 z29 (IntKind.wrap .i64 ((IntKind.wrap .u64 (w64 (a1+a3))) / 2 ^ min (Int.toNat 1) (IntKind.bits .u64))) a4).bind fun x38=>(K14 x38)) else (K14 z35)))) fun K13=>(if ((decide (z29<a2))&&(decide (a2<(w64 ((w64 ((IntKind.wrap .i64 ((IntKind.wrap .u64 (w64 (a1+a3))) / 2 ^ min (Int.toNat 1) (IntKind.bits .u64)))+a2))-z29)))))=true then ((Ky a0 z29 a2 (w64 ((w64 ((IntKind.wrap .i64 ((IntKind.wrap .u64 (w64 (a1+a3))) / 2 ^ min (Int.toNat 1) (IntKind.bits .u64)))+a2))-z29)) a4).bind fun x36=>(K13 x36)) else (K13 a0)))) fun K11=>(CA a0 a1 a2 a3 a4 K11 AC z27 z28))) fun K10=>(if (IntKind.wrap .i64 ((IntKind.wrap .u64 (w64 (a1+a3))) / 2 ^ min (Int.toNat 1) (IntKind.bits .u64)))<a2 then (K10 (w64 ((w64 ((IntKind.wrap .i64 ((IntKind.wrap .u64 (w64 (a1+a3))) / 2 ^ min (Int.toNat 1) (IntKind.bits .u64)))+a2))-a3)) (IntKind.wrap .i64 ((IntKind.wrap .u64 (w64 (a1+a3))) / 2 ^ min (Int.toNat 1) (IntKind.bits .u64)))) else (K10 a1 a2)))) fun K5=>(if (w64 (a3-a2))=1 then (jn (fun (z14:Int)=>(jn (fun (z20:(List Int))=>(some z20)) fun K8=>(Dw z14 K8 AC a0 a2))) fun K6=>(CM a0 a2 a4 K6 AC a1 a2)) else (K5)))) fun K0=>(if (w64 (a2-a1))=1 then (jn (fun (z1:Int)=>(jn (fun (z7:(List Int))=>(some z7)) fun K3=>(Dp z1 K3 AC a0 a1))) fun K1=>(CK a0 a1 a4 K1 AC a2 a3)) else (K0)))
set_option maxHeartbeats 4000000 in
theorem LN {rc_slices_symMergeCmpFunc_int:(List Int)→Int→Int→Int→Al→Option ((List Int))} (orc_slices_symMergeCmpFunc_int:∀ x0 x1 x2 x3 x4 r,Bt x4→rc_slices_symMergeCmpFunc_int x0 x1 x2 x3 x4=some r→FnG Tryz.prog 229 [.own 3 (Is x0),.d (.i .i64 x1),.d (.i .i64 x2),.d (.i .i64 x3),.d (x4.dv)] [] (.tup []) [.own 3 (Is r)] []) {a0:(List Int)} {a1:Int} {a2:Int} {a3:Int} {a4:Al} (oa4:Bt a4) {r:(List Int)} (h:F4 rc_slices_symMergeCmpFunc_int a0 a1 a2 a3 a4=some r) :
  FnG Tryz.prog 229 [.own 3 (Is a0),.d (.i .i64 a1),.d (.i .i64 a2),.d (.i .i64 a3),.d (a4.dv)] [] (.tup []) [.own 3 (Is r)] []:=by
 unfold F4 at h
 refine FnG.of (rs:=[]) 1 220 Tryz.func229 rfl rfl rfl (by simp) (by simp) (by simp) ?_;refine .seq ?_;refine .sr ?_;refine vk (Aa) ?_;refine vk (Aa) ?_;refine vk (vbi) ?_;refine vk (vbi) ?_;refine rk [0,1,2,3,4,28] ?_
 obtain ⟨K0,hK0,h⟩:=AE h
 refine AW.mr (σ:=Unit) (fun p=>K0=some r) (fun p=>[(0,.own 3 (Is a0)),(1,.d (.i .i64 a1)),(2,.d (.i .i64 a2)),(3,.d (.i .i64 a3)),(4,.d (a4.dv))]) (fun p=>[]) ?_ ?_
 ·skip
  rcases brc h with ⟨hc,h⟩|⟨hc,h⟩
  ·refine cnt (dT hc) ?_
   refine .sr ?_;refine vk (Aa) ?_;refine ar [0,1,2,3,4,10] ?_;refine .sr ?_;refine vk (Aa) ?_;refine ar [0,1,2,3,4,10,11] ?_
   obtain ⟨K1,hK1,h⟩:=AE h
   refine AW.mj (σ:=Int) (fun p=>K1 p=some r) (fun p=>[(0,.own 3 (Is a0)),(1,.d (.i .i64 a1)),(2,.d (.i .i64 a2)),(3,.d (.i .i64 a3)),(4,.d (a4.dv)),(10,.d (.i .i64 p))]) (fun p=>[]) ?_ ?_
   ·skip
    refine .block ?_
    refine .loop (.gk [0,1,2,3,4,10,11] ?_)
    refine AL.ind (σ:=Nat×Int×Int) (m:=fun p=>p.1) (e:=fun p=>[(0,.own 3 (Is a0)),(1,.d (.i .i64 a1)),(2,.d (.i .i64 a2)),(3,.d (.i .i64 a3)),(4,.d (a4.dv)),(10,.d (.i .i64 p.2.1)),(11,.d (.i .i64 p.2.2))]) (h:=fun p=>[]) (I:=fun p=>CK a0 a1 a4 K1 p.1 p.2.1 p.2.2=some r) ?_ (AC,a2,a3) h
    rintro ⟨k,s2,s3⟩ h ih
    dsimp only at h ih ⊢
    rcases k with _|k
    ·rw [CK] at h;cases h
    rw [CK] at h
    refine .seq ?_;refine .sr ?_;refine vk (Aa) ?_;refine vk (Aa) ?_;refine vk (vbi) ?_;refine rk [0,1,2,3,4,10,11,33] ?_
    rcases brc h with ⟨hc,h⟩|⟨hc,h⟩
    ·refine cnt (dT hc) ?_
     refine .skip ?_
     show AW _ _ _ _ _ _
     refine .block ?_;refine .sr ?_;refine vk (Aa) ?_;refine vk (Aa) ?_;refine vk (vbi) ?_;refine vk (vcv Iw GN) ?_;refine vk (Ou (c:=(0:Int)≤1) (by decide)) ?_;refine vk (vcv GN Iw) ?_;refine ar [0,1,2,3,4,10,11,12] ?_;refine .seq ?_;refine .drawn 11 AZ (by kernel_rfl) ?_;refine dv (Aa) ?_;refine dv Ej ?_;refine dv (Aa) ?_
     obtain ⟨x4,g4,h⟩:=bnd h
     obtain ⟨n4,p04,q4⟩:=Ai g4
     refine dv (FP (off:=0) (len:=(Is a0).length) n4 p04 (by rw [Af];exact (lS.1 q4).1) Bg (by decide)) ?_;refine dv (HN (i:=0+n4) (j:=0) (xs:=Is a0) (.i .i64 x4) ⟨_,by rw [Nat.zero_add];exact Bp q4,rfl⟩ AJ) ?_;refine dv Ej ?_;refine dv (Aa) ?_
     obtain ⟨x5,g5,h⟩:=bnd h
     obtain ⟨n5,p05,q5⟩:=Ai g5
     refine dv (FP (off:=0) (len:=(Is a0).length) n5 p05 (by rw [Af];exact (lS.1 q5).1) Bg (by decide)) ?_;refine dv (HN (i:=0+n5) (j:=0) (xs:=Is a0) (.i .i64 x5) ⟨_,by rw [Nat.zero_add];exact Bp q5,rfl⟩ AJ) ?_
     obtain ⟨x6,g6,h⟩:=bnd h
     refine dv (LA (oa4 _ _ g6)) ?_;refine dv (vbi) ?_;refine dz ?_;refine rk [0,1,2,3,4,10,11,12,50] ?_
     rcases brc h with ⟨hc,h⟩|⟨hc,h⟩
     ·refine cnt (dT hc) ?_
      refine .region ?_;refine vk (Aa) ?_;refine vk (vbi) ?_;refine asd ?_;refine .nil ?_;refine AL.gk [0,1,2,3,4,10,11] ?_
      exact ih (k,(w64 ((IntKind.wrap .i64 ((IntKind.wrap .u64 (w64 (s2+s3))) / 2 ^ min (Int.toNat 1) (IntKind.bits .u64)))+1)),s3) h (Nat.lt_succ_self _)
     refine cnf (dF hc) ?_;refine .region ?_;refine vk (Aa) ?_;refine asd ?_;refine .nil ?_;refine AL.gk [0,1,2,3,4,10,11] ?_
     exact ih (k,s2,(IntKind.wrap .i64 ((IntKind.wrap .u64 (w64 (s2+s3))) / 2 ^ min (Int.toNat 1) (IntKind.bits .u64)))) h (Nat.lt_succ_self _)
    refine cnf (dF hc) ?_;refine .gk [0,1,2,3,4,10] ?_;refine .exit ?_
    exact jr (s2) h
   rintro z1 h
   try dsimp only at h ⊢
   subst hK1
   refine .seq ?_;refine .sr ?_;refine vk (Aa) ?_;refine ar [0,1,2,3,4,10,13] ?_
   obtain ⟨K3,hK3,h⟩:=AE h
   refine AW.mr (σ:=(List Int)) (fun p=>K3 p=some r) (fun p=>[(0,.own 3 (Is p)),(1,.d (.i .i64 a1)),(2,.d (.i .i64 a2)),(3,.d (.i .i64 a3)),(4,.d (a4.dv))]) (fun p=>[]) ?_ ?_
   ·skip
    refine .block ?_
    refine .loop (.gk [0,1,2,3,4,10,13] ?_)
    refine AL.ind (σ:=Nat×(List Int)×Int) (m:=fun p=>p.1) (e:=fun p=>[(0,.own 3 (Is p.2.1)),(1,.d (.i .i64 a1)),(2,.d (.i .i64 a2)),(3,.d (.i .i64 a3)),(4,.d (a4.dv)),(10,.d (.i .i64 z1)),(13,.d (.i .i64 p.2.2))]) (h:=fun p=>[]) (I:=fun p=>Dp z1 K3 p.1 p.2.1 p.2.2=some r) ?_ (AC,a0,a1) h
    rintro ⟨k,s8,s9⟩ h ih
    dsimp only at h ih ⊢
    rcases k with _|k
    ·rw [Dp] at h;cases h
    rw [Dp] at h
    refine .seq ?_;refine .sr ?_;refine vk (Aa) ?_;refine vk (Aa) ?_;refine vk (vbi) ?_;refine vk (vbi) ?_;refine rk [0,1,2,3,4,10,13,58] ?_
    rcases brc h with ⟨hc,h⟩|⟨hc,h⟩
    ·refine cnt (dT hc) ?_
     refine .skip ?_
     show AW _ _ _ _ _ _
     refine .seq ?_;refine .block ?_
     obtain ⟨x10,g10,h⟩:=bnd h
     obtain ⟨x11,g11,h⟩:=bnd h
     obtain ⟨x12,g12,h⟩:=bnd h
     refine .drawnF 15 [2,3,4] [(0,.own 3 ((Is s8).set (Int.toNat s9) (.i .i64 x10)))] [] AZ (by kernel_rfl) rfl ?_;refine dv Ej ?_;refine dv (Aa) ?_;refine dv Ej ?_;refine dv (Aa) ?_;refine dv (vbi) ?_;refine dv Ej ?_;refine dv (Aa) ?_;refine dv (vbi) ?_
     obtain ⟨n10,p010,q10⟩:=Ai g10
     refine dv (FP (off:=0) (len:=(Is s8).length) n10 p010 (by rw [Af];exact (lS.1 q10).1) Bg (by decide)) ?_;refine dv (HN (i:=0+n10) (j:=0) (xs:=Is s8) (.i .i64 x10) ⟨_,by rw [Nat.zero_add];exact Bp q10,rfl⟩ AJ) ?_;refine dv Ej ?_;refine dv (Aa) ?_
     obtain ⟨n11,p011,q11⟩:=Ai g11
     refine dv (FP (off:=0) (len:=(Is s8).length) n11 p011 (by rw [Af];exact (lS.1 q11).1) Bg (by decide)) ?_;refine dv (HN (i:=0+n11) (j:=0) (xs:=Is s8) (.i .i64 x11) ⟨_,by rw [Nat.zero_add];exact Bp q11,rfl⟩ AJ) ?_
     obtain ⟨n12,p012,q12⟩:=Ai g12
     refine dv (FP (off:=0) (len:=(Is s8).length) n12 p012 (by rw [Af];exact (lS.1 q12).1) Bg (by decide)) ?_;refine dz ?_
     refine ⟨?_,?_,?_⟩
     ·intro k hk
      simp only [List.mem_cons,List.not_mem_nil,or_false] at hk
      rcases hk with rfl|rfl|rfl
      ·exact ⟨_,_,_,rfl,rfl,rfl,rfl,rfl,rfl,(show VOK _ _ _ _ _ (.ref (.t 0) 0 (Is s8).length) from by rw [show (Is s8).length=((Is s8).set (Int.toNat s9) (.i .i64 x10)).length by rw [List.length_set]];exact Ej)⟩
      ·exact ⟨_,_,_,rfl,rfl,rfl,rfl,rfl,rfl,Aa⟩
      ·exact ⟨_,_,_,rfl,rfl,rfl,rfl,rfl,rfl,vbi⟩
     ·intro om e hom hge
      cases hom
      refine Ir (x:=.tmp 75) (y:=.tmp 70) (r:=75) (ay:=.t 70) (p:=.t 0) (i:=0+n12) (k:=0) (v:=.i .i64 x10) (x':=.i .i64 x10) rfl rfl rfl rfl CT ((hge 75 (fun k hk v hv=>by
        simp only [List.mem_cons,List.not_mem_nil,or_false] at hk
        rcases hk with rfl|rfl|rfl
        ·exact (by decide:¬(some 63=some 75)) (congrArg (Option.map Prod.fst) hv)
        ·exact (by decide:¬(some 64=some 75)) (congrArg (Option.map Prod.fst) hv)
        ·exact (by decide:¬(some 65=some 75)) (congrArg (Option.map Prod.fst) hv))).trans rfl) ((hge 0 (fun k hk v hv=>by
        simp only [List.mem_cons,List.not_mem_nil,or_false] at hk
        rcases hk with rfl|rfl|rfl
        ·exact (by decide:¬(some 63=some 0)) (congrArg (Option.map Prod.fst) hv)
        ·exact (by decide:¬(some 64=some 0)) (congrArg (Option.map Prod.fst) hv)
        ·exact (by decide:¬(some 65=some 0)) (congrArg (Option.map Prod.fst) hv))).trans rfl) (fun _ _ h=>by cases h) ((hge 70 (fun k hk v hv=>by
        simp only [List.mem_cons,List.not_mem_nil,or_false] at hk
        rcases hk with rfl|rfl|rfl
        ·exact (by decide:¬(some 63=some 70)) (congrArg (Option.map Prod.fst) hv)
        ·exact (by decide:¬(some 64=some 70)) (congrArg (Option.map Prod.fst) hv)
        ·exact (by decide:¬(some 65=some 70)) (congrArg (Option.map Prod.fst) hv))).trans rfl) rfl ?_ ⟨by rw [show Int.toNat s9=0+n12 from by rw [p012];simp];rfl,rfl⟩
      rw [Nat.zero_add,lD,Bp q12];rfl
     rw [show (Is s8).set (Int.toNat s9) (.i .i64 x10)=Is (List.set s8 (Int.toNat s9) x10) from G0 _ _ _]
     refine RL.gk [0,1,2,3,4,10,13,58,61,62,63,64,65,66,67,68,70,71,72,74] ?_
     obtain ⟨x13,g13,h⟩:=bnd h
     obtain ⟨n13,p013,q13⟩:=Ai g13
     refine ixr (off:=0) (len:=(Is s8).length) n13 p013 (by rw [Af];simpa using (lS.1 q13).1) ?_ Bg (by decide)
     refine SM (F:=Is) (D:=fun x=>.i .i64 x) G0 (us:=(List.set s8 (Int.toNat s9) x10)) (n:=n13) (m:=Int.toNat (w64 (s9+1))) (x:=x11) (by rw [p013];rfl) ⟨_,by rw [Nat.zero_add];exact Bp q13,rfl⟩ ?_ CT
     refine RL.gk [0,1,2,3,4,10,13,58,61,62,63,64,65,66,67,68,70,71,72,74] ?_;refine .nil ?_
     show AW _ _ _ _ _ _
     refine .gk [0,1,2,3,4,10,13] ?_;refine .region ?_;refine vk (Aa) ?_;refine vk (vbi) ?_;refine asd ?_;refine .nil ?_;refine AL.gk [0,1,2,3,4,10,13] ?_
     exact ih (k,(List.set (List.set s8 (Int.toNat s9) x10) (Int.toNat (w64 (s9+1))) x11),(w64 (s9+1))) h (Nat.lt_succ_self _)
    refine cnf (dF hc) ?_;refine .gk [0,1,2,3,4] ?_;refine .exit ?_
    exact jr (s8) h
   rintro z7 h
   try dsimp only at h ⊢
   subst hK3
   show AW _ _ _ _ _ _
   refine .ret ?_
   cases h
   exact WK rfl rfl
  refine cnf (dF hc) ?_;refine .gk [0,1,2,3,4] ?_;refine .skip ?_
  exact jr () h
 rintro _ h
 subst hK0
 show AW _ _ _ _ _ _
 refine .seq ?_;refine .sr ?_;refine vk (Aa) ?_;refine vk (Aa) ?_;refine vk (vbi) ?_;refine vk (vbi) ?_;refine rk [0,1,2,3,4,80] ?_
 obtain ⟨K5,hK5,h⟩:=AE h
 refine AW.mr (σ:=Unit) (fun p=>K5=some r) (fun p=>[(0,.own 3 (Is a0)),(1,.d (.i .i64 a1)),(2,.d (.i .i64 a2)),(3,.d (.i .i64 a3)),(4,.d (a4.dv))]) (fun p=>[]) ?_ ?_
 ·skip
  rcases brc h with ⟨hc,h⟩|⟨hc,h⟩
  ·refine cnt (dT hc) ?_
   refine .sr ?_;refine vk (Aa) ?_;refine ar [0,1,2,3,4,14] ?_;refine .sr ?_;refine vk (Aa) ?_;refine ar [0,1,2,3,4,14,15] ?_
   obtain ⟨K6,hK6,h⟩:=AE h
   refine AW.mj (σ:=Int) (fun p=>K6 p=some r) (fun p=>[(0,.own 3 (Is a0)),(1,.d (.i .i64 a1)),(2,.d (.i .i64 a2)),(3,.d (.i .i64 a3)),(4,.d (a4.dv)),(14,.d (.i .i64 p))]) (fun p=>[]) ?_ ?_
   ·skip
    refine .block ?_
    refine .loop (.gk [0,1,2,3,4,14,15] ?_)
    refine AL.ind (σ:=Nat×Int×Int) (m:=fun p=>p.1) (e:=fun p=>[(0,.own 3 (Is a0)),(1,.d (.i .i64 a1)),(2,.d (.i .i64 a2)),(3,.d (.i .i64 a3)),(4,.d (a4.dv)),(14,.d (.i .i64 p.2.1)),(15,.d (.i .i64 p.2.2))]) (h:=fun p=>[]) (I:=fun p=>CM a0 a2 a4 K6 p.1 p.2.1 p.2.2=some r) ?_ (AC,a1,a2) h
    rintro ⟨k,s15,s16⟩ h ih
    dsimp only at h ih ⊢
    rcases k with _|k
    ·rw [CM] at h;cases h
    rw [CM] at h
    refine .seq ?_;refine .sr ?_;refine vk (Aa) ?_;refine vk (Aa) ?_;refine vk (vbi) ?_;refine rk [0,1,2,3,4,14,15,85] ?_
    rcases brc h with ⟨hc,h⟩|⟨hc,h⟩
    ·refine cnt (dT hc) ?_
     refine .skip ?_
     show AW _ _ _ _ _ _
     refine .block ?_;refine .sr ?_;refine vk (Aa) ?_;refine vk (Aa) ?_;refine vk (vbi) ?_;refine vk (vcv Iw GN) ?_;refine vk (Ou (c:=(0:Int)≤1) (by decide)) ?_;refine vk (vcv GN Iw) ?_;refine ar [0,1,2,3,4,14,15,16] ?_;refine .seq ?_;refine .drawn 12 AZ (by kernel_rfl) ?_;refine dv (Aa) ?_;refine dv Ej ?_;refine dv (Aa) ?_
     obtain ⟨x17,g17,h⟩:=bnd h
     obtain ⟨n17,p017,q17⟩:=Ai g17
     refine dv (FP (off:=0) (len:=(Is a0).length) n17 p017 (by rw [Af];exact (lS.1 q17).1) Bg (by decide)) ?_;refine dv (HN (i:=0+n17) (j:=0) (xs:=Is a0) (.i .i64 x17) ⟨_,by rw [Nat.zero_add];exact Bp q17,rfl⟩ AJ) ?_;refine dv Ej ?_;refine dv (Aa) ?_
     obtain ⟨x18,g18,h⟩:=bnd h
     obtain ⟨n18,p018,q18⟩:=Ai g18
     refine dv (FP (off:=0) (len:=(Is a0).length) n18 p018 (by rw [Af];exact (lS.1 q18).1) Bg (by decide)) ?_;refine dv (HN (i:=0+n18) (j:=0) (xs:=Is a0) (.i .i64 x18) ⟨_,by rw [Nat.zero_add];exact Bp q18,rfl⟩ AJ) ?_
     obtain ⟨x19,g19,h⟩:=bnd h
     refine dv (LA (oa4 _ _ g19)) ?_;refine dv (vbi) ?_;refine dv (vnt) ?_;refine dz ?_;refine rk [0,1,2,3,4,14,15,16,103] ?_
     rcases brc h with ⟨hc,h⟩|⟨hc,h⟩
     ·refine cnf (ntf (dT hc)) ?_
      refine .region ?_;refine vk (Aa) ?_;refine asd ?_;refine .nil ?_;refine AL.gk [0,1,2,3,4,14,15] ?_
      exact ih (k,s15,(IntKind.wrap .i64 ((IntKind.wrap .u64 (w64 (s15+s16))) / 2 ^ min (Int.toNat 1) (IntKind.bits .u64)))) h (Nat.lt_succ_self _)
     refine cnt (ntt (dF hc)) ?_;refine .region ?_;refine vk (Aa) ?_;refine vk (vbi) ?_;refine asd ?_;refine .nil ?_;refine AL.gk [0,1,2,3,4,14,15] ?_
     exact ih (k,(w64 ((IntKind.wrap .i64 ((IntKind.wrap .u64 (w64 (s15+s16))) / 2 ^ min (Int.toNat 1) (IntKind.bits .u64)))+1)),s16) h (Nat.lt_succ_self _)
    refine cnf (dF hc) ?_;refine .gk [0,1,2,3,4,14] ?_;refine .exit ?_
    exact jr (s15) h
   rintro z14 h
   try dsimp only at h ⊢
   subst hK6
   refine .seq ?_;refine .sr ?_;refine vk (Aa) ?_;refine ar [0,1,2,3,4,14,17] ?_
   obtain ⟨K8,hK8,h⟩:=AE h
   refine AW.mr (σ:=(List Int)) (fun p=>K8 p=some r) (fun p=>[(0,.own 3 (Is p)),(1,.d (.i .i64 a1)),(2,.d (.i .i64 a2)),(3,.d (.i .i64 a3)),(4,.d (a4.dv))]) (fun p=>[]) ?_ ?_
   ·skip
    refine .block ?_
    refine .loop (.gk [0,1,2,3,4,14,17] ?_)
    refine AL.ind (σ:=Nat×(List Int)×Int) (m:=fun p=>p.1) (e:=fun p=>[(0,.own 3 (Is p.2.1)),(1,.d (.i .i64 a1)),(2,.d (.i .i64 a2)),(3,.d (.i .i64 a3)),(4,.d (a4.dv)),(14,.d (.i .i64 z14)),(17,.d (.i .i64 p.2.2))]) (h:=fun p=>[]) (I:=fun p=>Dw z14 K8 p.1 p.2.1 p.2.2=some r) ?_ (AC,a0,a2) h
    rintro ⟨k,s21,s22⟩ h ih
    dsimp only at h ih ⊢
    rcases k with _|k
    ·rw [Dw] at h;cases h
    rw [Dw] at h
    refine .seq ?_;refine .sr ?_;refine vk (Aa) ?_;refine vk (Aa) ?_;refine vk (vbi) ?_;refine rk [0,1,2,3,4,14,17,110] ?_
    rcases brc h with ⟨hc,h⟩|⟨hc,h⟩
    ·refine cnt (dT hc) ?_
     refine .skip ?_
     show AW _ _ _ _ _ _
     refine .seq ?_;refine .block ?_
     obtain ⟨x23,g23,h⟩:=bnd h
     obtain ⟨x24,g24,h⟩:=bnd h
     obtain ⟨x25,g25,h⟩:=bnd h
     refine .drawnF 15 [2,3,4] [(0,.own 3 ((Is s21).set (Int.toNat s22) (.i .i64 x23)))] [] AZ (by kernel_rfl) rfl ?_;refine dv Ej ?_;refine dv (Aa) ?_;refine dv Ej ?_;refine dv (Aa) ?_;refine dv (vbi) ?_;refine dv Ej ?_;refine dv (Aa) ?_;refine dv (vbi) ?_
     obtain ⟨n23,p023,q23⟩:=Ai g23
     refine dv (FP (off:=0) (len:=(Is s21).length) n23 p023 (by rw [Af];exact (lS.1 q23).1) Bg (by decide)) ?_;refine dv (HN (i:=0+n23) (j:=0) (xs:=Is s21) (.i .i64 x23) ⟨_,by rw [Nat.zero_add];exact Bp q23,rfl⟩ AJ) ?_;refine dv Ej ?_;refine dv (Aa) ?_
     obtain ⟨n24,p024,q24⟩:=Ai g24
     refine dv (FP (off:=0) (len:=(Is s21).length) n24 p024 (by rw [Af];exact (lS.1 q24).1) Bg (by decide)) ?_;refine dv (HN (i:=0+n24) (j:=0) (xs:=Is s21) (.i .i64 x24) ⟨_,by rw [Nat.zero_add];exact Bp q24,rfl⟩ AJ) ?_
     obtain ⟨n25,p025,q25⟩:=Ai g25
     refine dv (FP (off:=0) (len:=(Is s21).length) n25 p025 (by rw [Af];exact (lS.1 q25).1) Bg (by decide)) ?_;refine dz ?_
     refine ⟨?_,?_,?_⟩
     ·intro k hk
      simp only [List.mem_cons,List.not_mem_nil,or_false] at hk
      rcases hk with rfl|rfl|rfl
      ·exact ⟨_,_,_,rfl,rfl,rfl,rfl,rfl,rfl,(show VOK _ _ _ _ _ (.ref (.t 0) 0 (Is s21).length) from by rw [show (Is s21).length=((Is s21).set (Int.toNat s22) (.i .i64 x23)).length by rw [List.length_set]];exact Ej)⟩
      ·exact ⟨_,_,_,rfl,rfl,rfl,rfl,rfl,rfl,Aa⟩
      ·exact ⟨_,_,_,rfl,rfl,rfl,rfl,rfl,rfl,vbi⟩
     ·intro om e hom hge
      cases hom
      refine Ir (x:=.tmp 127) (y:=.tmp 122) (r:=127) (ay:=.t 122) (p:=.t 0) (i:=0+n25) (k:=0) (v:=.i .i64 x23) (x':=.i .i64 x23) rfl rfl rfl rfl CT ((hge 127 (fun k hk v hv=>by
        simp only [List.mem_cons,List.not_mem_nil,or_false] at hk
        rcases hk with rfl|rfl|rfl
        ·exact (by decide:¬(some 115=some 127)) (congrArg (Option.map Prod.fst) hv)
        ·exact (by decide:¬(some 116=some 127)) (congrArg (Option.map Prod.fst) hv)
        ·exact (by decide:¬(some 117=some 127)) (congrArg (Option.map Prod.fst) hv))).trans rfl) ((hge 0 (fun k hk v hv=>by
        simp only [List.mem_cons,List.not_mem_nil,or_false] at hk
        rcases hk with rfl|rfl|rfl
        ·exact (by decide:¬(some 115=some 0)) (congrArg (Option.map Prod.fst) hv)
        ·exact (by decide:¬(some 116=some 0)) (congrArg (Option.map Prod.fst) hv)
        ·exact (by decide:¬(some 117=some 0)) (congrArg (Option.map Prod.fst) hv))).trans rfl) (fun _ _ h=>by cases h) ((hge 122 (fun k hk v hv=>by
        simp only [List.mem_cons,List.not_mem_nil,or_false] at hk
        rcases hk with rfl|rfl|rfl
        ·exact (by decide:¬(some 115=some 122)) (congrArg (Option.map Prod.fst) hv)
        ·exact (by decide:¬(some 116=some 122)) (congrArg (Option.map Prod.fst) hv)
        ·exact (by decide:¬(some 117=some 122)) (congrArg (Option.map Prod.fst) hv))).trans rfl) rfl ?_ ⟨by rw [show Int.toNat s22=0+n25 from by rw [p025];simp];rfl,rfl⟩
      rw [Nat.zero_add,lD,Bp q25];rfl
     rw [show (Is s21).set (Int.toNat s22) (.i .i64 x23)=Is (List.set s21 (Int.toNat s22) x23) from G0 _ _ _]
     refine RL.gk [0,1,2,3,4,14,17,110,113,114,115,116,117,118,119,120,122,123,124,126] ?_
     obtain ⟨x26,g26,h⟩:=bnd h
     obtain ⟨n26,p026,q26⟩:=Ai g26
     refine ixr (off:=0) (len:=(Is s21).length) n26 p026 (by rw [Af];simpa using (lS.1 q26).1) ?_ Bg (by decide)
     refine SM (F:=Is) (D:=fun x=>.i .i64 x) G0 (us:=(List.set s21 (Int.toNat s22) x23)) (n:=n26) (m:=Int.toNat (w64 (s22-1))) (x:=x24) (by rw [p026];rfl) ⟨_,by rw [Nat.zero_add];exact Bp q26,rfl⟩ ?_ CT
     refine RL.gk [0,1,2,3,4,14,17,110,113,114,115,116,117,118,119,120,122,123,124,126] ?_;refine .nil ?_
     show AW _ _ _ _ _ _
     refine .gk [0,1,2,3,4,14,17] ?_;refine .region ?_;refine vk (Aa) ?_;refine vk (vbi) ?_;refine asd ?_;refine .nil ?_;refine AL.gk [0,1,2,3,4,14,17] ?_
     exact ih (k,(List.set (List.set s21 (Int.toNat s22) x23) (Int.toNat (w64 (s22-1))) x24),(w64 (s22-1))) h (Nat.lt_succ_self _)
    refine cnf (dF hc) ?_;refine .gk [0,1,2,3,4] ?_;refine .exit ?_
    exact jr (s21) h
   rintro z20 h
   try dsimp only at h ⊢
   subst hK8
   show AW _ _ _ _ _ _
   refine .ret ?_
   cases h
   exact WK rfl rfl
  refine cnf (dF hc) ?_;refine .gk [0,1,2,3,4] ?_;refine .skip ?_
  exact jr () h
 rintro _ h
 subst hK5
 show AW _ _ _ _ _ _
 refine .sr ?_;refine vk (Aa) ?_;refine vk (Aa) ?_;refine vk (vbi) ?_;refine vk (vcv Iw GN) ?_;refine vk (Ou (c:=(0:Int)≤1) (by decide)) ?_;refine vk (vcv GN Iw) ?_;refine ar [0,1,2,3,4,18] ?_;refine .sr ?_;refine vk (Aa) ?_;refine vk (Aa) ?_;refine vk (vbi) ?_;refine ar [0,1,2,3,4,18,19] ?_;refine .sr ?_;refine asd ?_;refine ar [0,1,2,3,4,18,19] ?_;refine .seq ?_;refine .sr ?_;refine vk (Aa) ?_;refine vk (Aa) ?_;refine vk (vbi) ?_;refine rk [0,1,2,3,4,18,19,140] ?_
 obtain ⟨K10,hK10,h⟩:=AE h
 refine AW.mr (σ:=Int×Int) (fun p=>K10 p.1 p.2=some r) (fun p=>[(0,.own 3 (Is a0)),(1,.d (.i .i64 a1)),(2,.d (.i .i64 a2)),(3,.d (.i .i64 a3)),(4,.d (a4.dv)),(18,.d (.i .i64 (IntKind.wrap .i64 ((IntKind.wrap .u64 (w64 (a1+a3))) / 2 ^ min (Int.toNat 1) (IntKind.bits .u64))))),(19,.d (.i .i64 (w64 ((IntKind.wrap .i64 ((IntKind.wrap .u64 (w64 (a1+a3))) / 2 ^ min (Int.toNat 1) (IntKind.bits .u64)))+a2)))),(20,.d (.i .i64 p.1)),(21,.d (.i .i64 p.2))]) (fun p=>[]) ?_ ?_
 ·skip
  rcases brc h with ⟨hc,h⟩|⟨hc,h⟩
  ·refine cnt (dT hc) ?_
   refine .sr ?_;refine vk (Aa) ?_;refine vk (Aa) ?_;refine vk (vbi) ?_;refine ar [0,1,2,3,4,18,19,20] ?_;refine .region ?_;refine vk (Aa) ?_;refine asd ?_;refine RL.gk [0,1,2,3,4,18,19,20,21] ?_;refine .nil ?_
   exact jr ((w64 ((w64 ((IntKind.wrap .i64 ((IntKind.wrap .u64 (w64 (a1+a3))) / 2 ^ min (Int.toNat 1) (IntKind.bits .u64)))+a2))-a3)),(IntKind.wrap .i64 ((IntKind.wrap .u64 (w64 (a1+a3))) / 2 ^ min (Int.toNat 1) (IntKind.bits .u64)))) h
  refine cnf (dF hc) ?_;refine .sr ?_;refine vk (Aa) ?_;refine ar [0,1,2,3,4,18,19,20] ?_;refine .region ?_;refine vk (Aa) ?_;refine asd ?_;refine RL.gk [0,1,2,3,4,18,19,20,21] ?_;refine .nil ?_
  exact jr (a1,a2) h
 rintro ⟨z27,z28⟩ h
 try dsimp only at h ⊢
 subst hK10
 show AW _ _ _ _ _ _
 refine .sr ?_;refine vk (Aa) ?_;refine vk (vbi) ?_;refine ar [0,1,2,3,4,18,19,20,21,22] ?_
 obtain ⟨K11,hK11,h⟩:=AE h
 refine AW.mj (σ:=Int) (fun p=>K11 p=some r) (fun p=>[(0,.own 3 (Is a0)),(1,.d (.i .i64 a1)),(2,.d (.i .i64 a2)),(3,.d (.i .i64 a3)),(4,.d (a4.dv)),(18,.d (.i .i64 (IntKind.wrap .i64 ((IntKind.wrap .u64 (w64 (a1+a3))) / 2 ^ min (Int.toNat 1) (IntKind.bits .u64))))),(19,.d (.i .i64 (w64 ((IntKind.wrap .i64 ((IntKind.wrap .u64 (w64 (a1+a3))) / 2 ^ min (Int.toNat 1) (IntKind.bits .u64)))+a2)))),(20,.d (.i .i64 p))]) (fun p=>[]) ?_ ?_
 ·skip
  refine .block ?_
  refine .loop (.gk [0,1,2,3,4,18,19,20,21,22] ?_)
  refine AL.ind (σ:=Nat×Int×Int) (m:=fun p=>p.1) (e:=fun p=>[(0,.own 3 (Is a0)),(1,.d (.i .i64 a1)),(2,.d (.i .i64 a2)),(3,.d (.i .i64 a3)),(4,.d (a4.dv)),(18,.d (.i .i64 (IntKind.wrap .i64 ((IntKind.wrap .u64 (w64 (a1+a3))) / 2 ^ min (Int.toNat 1) (IntKind.bits .u64))))),(19,.d (.i .i64 (w64 ((IntKind.wrap .i64 ((IntKind.wrap .u64 (w64 (a1+a3))) / 2 ^ min (Int.toNat 1) (IntKind.bits .u64)))+a2)))),(20,.d (.i .i64 p.2.1)),(21,.d (.i .i64 p.2.2)),(22,.d (.i .i64 (w64 ((w64 ((IntKind.wrap .i64 ((IntKind.wrap .u64 (w64 (a1+a3))) / 2 ^ min (Int.toNat 1) (IntKind.bits .u64)))+a2))-1))))]) (h:=fun p=>[]) (I:=fun p=>CA a0 a1 a2 a3 a4 K11 p.1 p.2.1 p.2.2=some r) ?_ (AC,z27,z28) h
  rintro ⟨k,s30,s31⟩ h ih
  dsimp only at h ih ⊢
  rcases k with _|k
  ·rw [CA] at h;cases h
  rw [CA] at h
  refine .seq ?_;refine .sr ?_;refine vk (Aa) ?_;refine vk (Aa) ?_;refine vk (vbi) ?_;refine rk [0,1,2,3,4,18,19,20,21,22,151] ?_
  rcases brc h with ⟨hc,h⟩|⟨hc,h⟩
  ·refine cnt (dT hc) ?_
   refine .skip ?_
   show AW _ _ _ _ _ _
   refine .block ?_;refine .sr ?_;refine vk (Aa) ?_;refine vk (Aa) ?_;refine vk (vbi) ?_;refine vk (vcv Iw GN) ?_;refine vk (Ou (c:=(0:Int)≤1) (by decide)) ?_;refine vk (vcv GN Iw) ?_;refine ar [0,1,2,3,4,18,19,20,21,22,23] ?_;refine .seq ?_;refine .drawn 14 AZ (by kernel_rfl) ?_;refine dv (Aa) ?_;refine dv Ej ?_;refine dv (Aa) ?_;refine dv (Aa) ?_;refine dv (vbi) ?_
   obtain ⟨x32,g32,h⟩:=bnd h
   obtain ⟨n32,p032,q32⟩:=Ai g32
   refine dv (FP (off:=0) (len:=(Is a0).length) n32 p032 (by rw [Af];exact (lS.1 q32).1) Bg (by decide)) ?_;refine dv (HN (i:=0+n32) (j:=0) (xs:=Is a0) (.i .i64 x32) ⟨_,by rw [Nat.zero_add];exact Bp q32,rfl⟩ AJ) ?_;refine dv Ej ?_;refine dv (Aa) ?_
   obtain ⟨x33,g33,h⟩:=bnd h
   obtain ⟨n33,p033,q33⟩:=Ai g33
   refine dv (FP (off:=0) (len:=(Is a0).length) n33 p033 (by rw [Af];exact (lS.1 q33).1) Bg (by decide)) ?_;refine dv (HN (i:=0+n33) (j:=0) (xs:=Is a0) (.i .i64 x33) ⟨_,by rw [Nat.zero_add];exact Bp q33,rfl⟩ AJ) ?_
   obtain ⟨x34,g34,h⟩:=bnd h
   refine dv (LA (oa4 _ _ g34)) ?_;refine dv (vbi) ?_;refine dv (vnt) ?_;refine dz ?_;refine rk [0,1,2,3,4,18,19,20,21,22,23,171] ?_
   rcases brc h with ⟨hc,h⟩|⟨hc,h⟩
   ·refine cnf (ntf (dT hc)) ?_
    refine .region ?_;refine vk (Aa) ?_;refine asd ?_;refine .nil ?_;refine AL.gk [0,1,2,3,4,18,19,20,21,22] ?_
    exact ih (k,s30,(IntKind.wrap .i64 ((IntKind.wrap .u64 (w64 (s30+s31))) / 2 ^ min (Int.toNat 1) (IntKind.bits .u64)))) h (Nat.lt_succ_self _)
   refine cnt (ntt (dF hc)) ?_;refine .region ?_;refine vk (Aa) ?_;refine vk (vbi) ?_;refine asd ?_;refine .nil ?_;refine AL.gk [0,1,2,3,4,18,19,20,21,22] ?_
   exact ih (k,(w64 ((IntKind.wrap .i64 ((IntKind.wrap .u64 (w64 (s30+s31))) / 2 ^ min (Int.toNat 1) (IntKind.bits .u64)))+1)),s31) h (Nat.lt_succ_self _)
  refine cnf (dF hc) ?_;refine .gk [0,1,2,3,4,18,19,20] ?_;refine .exit ?_
  exact jr (s30) h
 rintro z29 h
 try dsimp only at h ⊢
 subst hK11
 refine .sr ?_;refine vk (Aa) ?_;refine vk (Aa) ?_;refine vk (vbi) ?_;refine ar [0,1,2,3,4,18,20,24] ?_;refine .seq ?_;refine .seq ?_;refine AW.mr (σ:=Unit) (fun _=>True) (fun _=>[(0,.own 3 (Is a0)),(1,.d (.i .i64 a1)),(2,.d (.i .i64 a2)),(3,.d (.i .i64 a3)),(4,.d (a4.dv)),(18,.d (.i .i64 (IntKind.wrap .i64 ((IntKind.wrap .u64 (w64 (a1+a3))) / 2 ^ min (Int.toNat 1) (IntKind.bits .u64))))),(20,.d (.i .i64 z29)),(24,.d (.i .i64 (w64 ((w64 ((IntKind.wrap .i64 ((IntKind.wrap .u64 (w64 (a1+a3))) / 2 ^ min (Int.toNat 1) (IntKind.bits .u64)))+a2))-z29)))),(185,.d (.b ((decide (z29<a2))&&(decide (a2<(w64 ((w64 ((IntKind.wrap .i64 ((IntKind.wrap .u64 (w64 (a1+a3))) / 2 ^ min (Int.toNat 1) (IntKind.bits .u64)))+a2))-z29)))))))]) (fun _=>[]) ?_ ?_
 ·skip
  refine .region ?_;refine vk (Aa) ?_;refine vk (Aa) ?_;refine vk (vbi) ?_
  by_cases hc:z29<a2
  ·have hb0:(decide (z29<a2))=true:=(dT hc)
   refine vk (VOK.lit (Aa) hb0) ?_;refine vk (Aa) ?_;refine vk (Aa) ?_;refine vk (vbi) ?_;refine vk (Ao) ?_;refine RL.gk [0,1,2,3,4,18,20,24,185] ?_;refine .nil ?_
   exact jr () trivial (by simp only [hb0];rfl)
  have hb0:(decide (z29<a2))=false:=(dF hc)
  refine vk (VOK.lit (Aa) hb0) ?_;refine gf ?_;refine gf ?_;refine gf ?_;refine vk (Ao) ?_;refine RL.gk [0,1,2,3,4,18,20,24,185] ?_;refine .nil ?_
  exact jr () trivial (by simp only [hb0];rfl)
 rintro _ _
 obtain ⟨K13,hK13,h⟩:=AE h
 refine AW.mr (σ:=(List Int)) (fun p=>K13 p=some r) (fun p=>[(0,.own 3 (Is p)),(1,.d (.i .i64 a1)),(3,.d (.i .i64 a3)),(4,.d (a4.dv)),(18,.d (.i .i64 (IntKind.wrap .i64 ((IntKind.wrap .u64 (w64 (a1+a3))) / 2 ^ min (Int.toNat 1) (IntKind.bits .u64))))),(20,.d (.i .i64 z29)),(24,.d (.i .i64 (w64 ((w64 ((IntKind.wrap .i64 ((IntKind.wrap .u64 (w64 (a1+a3))) / 2 ^ min (Int.toNat 1) (IntKind.bits .u64)))+a2))-z29))))]) (fun p=>[]) ?_ ?_
 ·skip
  rcases brc h with ⟨hc,h⟩|⟨hc,h⟩
  ·refine cnt hc ?_
   refine .region ?_;refine mvo ?_;refine vk (Aa) ?_;refine vk (Aa) ?_;refine vk (Aa) ?_;refine vk (Aa) ?_
   obtain ⟨x36,g36,h⟩:=bnd h
   refine LJ (Is x36) ?_ (Pi oa4 g36) Tryz.call260
   refine RL.gk [0,1,2,3,4,18,20,24,185,187,188,189,190,191] ?_;refine RL.gk [0,1,3,4,18,20,24] ?_;refine .nil ?_
   exact jr (x36) h
  refine cnf (bf hc) ?_;refine .gk [0,1,3,4,18,20,24] ?_;refine .skip ?_
  exact jr (a0) h
 rintro z35 h
 try dsimp only at h ⊢
 subst hK13
 show AW _ _ _ _ _ _
 refine .seq ?_;refine .seq ?_;refine AW.mr (σ:=Unit) (fun _=>True) (fun _=>[(0,.own 3 (Is z35)),(1,.d (.i .i64 a1)),(3,.d (.i .i64 a3)),(4,.d (a4.dv)),(18,.d (.i .i64 (IntKind.wrap .i64 ((IntKind.wrap .u64 (w64 (a1+a3))) / 2 ^ min (Int.toNat 1) (IntKind.bits .u64))))),(20,.d (.i .i64 z29)),(24,.d (.i .i64 (w64 ((w64 ((IntKind.wrap .i64 ((IntKind.wrap .u64 (w64 (a1+a3))) / 2 ^ min (Int.toNat 1) (IntKind.bits .u64)))+a2))-z29)))),(199,.d (.b ((decide (a1<z29))&&(decide (z29<(IntKind.wrap .i64 ((IntKind.wrap .u64 (w64 (a1+a3))) / 2 ^ min (Int.toNat 1) (IntKind.bits .u64))))))))]) (fun _=>[]) ?_ ?_
 ·skip
  refine .region ?_;refine vk (Aa) ?_;refine vk (Aa) ?_;refine vk (vbi) ?_
  by_cases hc:a1<z29
  ·have hb0:(decide (a1<z29))=true:=(dT hc)
   refine vk (VOK.lit (Aa) hb0) ?_;refine vk (Aa) ?_;refine vk (Aa) ?_;refine vk (vbi) ?_;refine vk (Ao) ?_;refine RL.gk [0,1,3,4,18,20,24,199] ?_;refine .nil ?_
   exact jr () trivial (by simp only [hb0];rfl)
  have hb0:(decide (a1<z29))=false:=(dF hc)
  refine vk (VOK.lit (Aa) hb0) ?_;refine gf ?_;refine gf ?_;refine gf ?_;refine vk (Ao) ?_;refine RL.gk [0,1,3,4,18,20,24,199] ?_;refine .nil ?_
  exact jr () trivial (by simp only [hb0];rfl)
 rintro _ _
 obtain ⟨K14,hK14,h⟩:=AE h
 refine AW.mr (σ:=(List Int)) (fun p=>K14 p=some r) (fun p=>[(0,.own 3 (Is p)),(3,.d (.i .i64 a3)),(4,.d (a4.dv)),(18,.d (.i .i64 (IntKind.wrap .i64 ((IntKind.wrap .u64 (w64 (a1+a3))) / 2 ^ min (Int.toNat 1) (IntKind.bits .u64))))),(24,.d (.i .i64 (w64 ((w64 ((IntKind.wrap .i64 ((IntKind.wrap .u64 (w64 (a1+a3))) / 2 ^ min (Int.toNat 1) (IntKind.bits .u64)))+a2))-z29))))]) (fun p=>[]) ?_ ?_
 ·skip
  rcases brc h with ⟨hc,h⟩|⟨hc,h⟩
  ·refine cnt hc ?_
   refine .region ?_;refine mvo ?_;refine vk (Aa) ?_;refine vk (Aa) ?_;refine vk (Aa) ?_;refine vk (Aa) ?_
   obtain ⟨x38,g38,h⟩:=bnd h
   refine LJ (Is x38) ?_ (orc_slices_symMergeCmpFunc_int _ _ _ _ _ _ oa4 g38) Tryz.call229
   refine RL.gk [0,1,3,4,18,20,24,199,201,202,203,204,205] ?_;refine RL.gk [0,3,4,18,24] ?_;refine .nil ?_
   exact jr (x38) h
  refine cnf (bf hc) ?_;refine .gk [0,3,4,18,24] ?_;refine .skip ?_
  exact jr (z35) h
 rintro z37 h
 try dsimp only at h ⊢
 subst hK14
 show AW _ _ _ _ _ _
 refine .seq ?_;refine AW.mr (σ:=Unit) (fun _=>True) (fun _=>[(0,.own 3 (Is z37)),(3,.d (.i .i64 a3)),(4,.d (a4.dv)),(18,.d (.i .i64 (IntKind.wrap .i64 ((IntKind.wrap .u64 (w64 (a1+a3))) / 2 ^ min (Int.toNat 1) (IntKind.bits .u64))))),(24,.d (.i .i64 (w64 ((w64 ((IntKind.wrap .i64 ((IntKind.wrap .u64 (w64 (a1+a3))) / 2 ^ min (Int.toNat 1) (IntKind.bits .u64)))+a2))-z29)))),(213,.d (.b ((decide ((IntKind.wrap .i64 ((IntKind.wrap .u64 (w64 (a1+a3))) / 2 ^ min (Int.toNat 1) (IntKind.bits .u64)))<(w64 ((w64 ((IntKind.wrap .i64 ((IntKind.wrap .u64 (w64 (a1+a3))) / 2 ^ min (Int.toNat 1) (IntKind.bits .u64)))+a2))-z29))))&&(decide ((w64 ((w64 ((IntKind.wrap .i64 ((IntKind.wrap .u64 (w64 (a1+a3))) / 2 ^ min (Int.toNat 1) (IntKind.bits .u64)))+a2))-z29))<a3)))))]) (fun _=>[]) ?_ ?_
 ·skip
  refine .region ?_;refine vk (Aa) ?_;refine vk (Aa) ?_;refine vk (vbi) ?_
  by_cases hc:(IntKind.wrap .i64 ((IntKind.wrap .u64 (w64 (a1+a3))) / 2 ^ min (Int.toNat 1) (IntKind.bits .u64)))<(w64 ((w64 ((IntKind.wrap .i64 ((IntKind.wrap .u64 (w64 (a1+a3))) / 2 ^ min (Int.toNat 1) (IntKind.bits .u64)))+a2))-z29))
  ·have hb0:(decide ((IntKind.wrap .i64 ((IntKind.wrap .u64 (w64 (a1+a3))) / 2 ^ min (Int.toNat 1) (IntKind.bits .u64)))<(w64 ((w64 ((IntKind.wrap .i64 ((IntKind.wrap .u64 (w64 (a1+a3))) / 2 ^ min (Int.toNat 1) (IntKind.bits .u64)))+a2))-z29))))=true:=(dT hc)
   refine vk (VOK.lit (Aa) hb0) ?_;refine vk (Aa) ?_;refine vk (Aa) ?_;refine vk (vbi) ?_;refine vk (Ao) ?_;refine RL.gk [0,3,4,18,24,213] ?_;refine .nil ?_
   exact jr () trivial (by simp only [hb0];rfl)
  have hb0:(decide ((IntKind.wrap .i64 ((IntKind.wrap .u64 (w64 (a1+a3))) / 2 ^ min (Int.toNat 1) (IntKind.bits .u64)))<(w64 ((w64 ((IntKind.wrap .i64 ((IntKind.wrap .u64 (w64 (a1+a3))) / 2 ^ min (Int.toNat 1) (IntKind.bits .u64)))+a2))-z29))))=false:=(dF hc)
  refine vk (VOK.lit (Aa) hb0) ?_;refine gf ?_;refine gf ?_;refine gf ?_;refine vk (Ao) ?_;refine RL.gk [0,3,4,18,24,213] ?_;refine .nil ?_
  exact jr () trivial (by simp only [hb0];rfl)
 rintro _ _
 rcases brc h with ⟨hc,h⟩|⟨hc,h⟩
 ·refine cnt hc ?_
  refine .region ?_;refine mvo ?_;refine vk (Aa) ?_;refine vk (Aa) ?_;refine vk (Aa) ?_;refine vk (Aa) ?_
  obtain ⟨x39,g39,h⟩:=bnd h
  refine LJ (Is x39) ?_ (orc_slices_symMergeCmpFunc_int _ _ _ _ _ _ oa4 g39) Tryz.call229
  refine RL.gk [0,3,4,18,24,213,215,216,217,218,219] ?_;refine .nil ?_
  cases h
  exact Mv rfl rfl
 refine cnf (bf hc) ?_;refine .skip ?_
 cases h
 exact Mv rfl rfl
def Fm : Nat→(List Int)→Int→Int→Int→Al→Option ((List Int))
 | 0,_,_,_,_,_=>none
 | k+1,a0,a1,a2,a3,a4=>F4 (Fm k) a0 a1 a2 a3 a4
theorem G7 : ∀ (k:Nat) (a0:(List Int)) (a1:Int) (a2:Int) (a3:Int) (a4:Al) (r:(List Int)),Bt a4→Fm k a0 a1 a2 a3 a4=some r→FnG Tryz.prog 229 [.own 3 (Is a0),.d (.i .i64 a1),.d (.i .i64 a2),.d (.i .i64 a3),.d (a4.dv)] [] (.tup []) [.own 3 (Is r)] []
 | 0,_,_,_,_,_,_,_,h=>by cases h
 | k+1,a0,a1,a2,a3,a4,_,oa4,h=>LN (G7 k) oa4 (show F4 (Fm k) a0 a1 a2 a3 a4=some _ from h)
def Ih (a0:(List Int)) (a1:Int) (a2:Int) (a3:Int) (a4:Al) : Option ((List Int)):=Fm (AC) a0 a1 a2 a3 a4
theorem IF {a0:(List Int)} {a1:Int} {a2:Int} {a3:Int} {a4:Al} (oa4:Bt a4) {r:(List Int)} (h:Ih a0 a1 a2 a3 a4=some r) : FnG Tryz.prog 229 [.own 3 (Is a0),.d (.i .i64 a1),.d (.i .i64 a2),.d (.i .i64 a3),.d (a4.dv)] [] (.tup []) [.own 3 (Is r)] []:=G7 _ a0 a1 a2 a3 a4 r oa4 h
def EH (a1:Int) (a2:Al) (K0:(List Int)→Int→Option ((List Int))) : Nat→(List Int)→Int→Int→Option ((List Int))
 | 0,_,_,_=>none
 | k+1,s3,s4,s5=>(if s5≤a1 then ((FQ s3 s4 s5 a2).bind fun x6=>(EH a1 a2 K0 k x6 s5 (w64 (s5+20)))) else (K0 s3 s4))
def EJ (a1:Int) (a2:Al) (s9:Int) (K3:(List Int)→Int→Option ((List Int))) : Nat→(List Int)→Int→Int→Option ((List Int))
 | 0,_,_,_=>none
 | k+1,s12,s13,s14=>(if s14≤a1 then ((Ih s12 s13 (w64 (s13+s9)) s14 a2).bind fun x15=>(EJ a1 a2 s9 K3 k x15 s14 (w64 (s14+(w64 (2 * s9)))))) else (K3 s12 s13))
def EO (a1:Int) (a2:Al) : Nat→(List Int)→Int→Option ((List Int))
 | 0,_,_=>none
 | k+1,s8,s9=>(if s9<a1 then (jn (fun (z10:(List Int)) (z11:Int)=>(jn (fun (z16:(List Int))=>(EO a1 a2 k z16 (w64 (s9 * 2)))) fun K5=>(if (w64 (z11+s9))<a1 then ((Ih z10 z11 (w64 (z11+s9)) a1 a2).bind fun x17=>(K5 x17)) else (K5 z10)))) fun K3=>(EJ a1 a2 s9 K3 AC s8 0 (w64 (2 * s9)))) else (some s8))
def La (a0:(List Int)) (a1:Int) (a2:Al) : Option ((List Int)):=(jn (fun (z1:(List Int)) (z2:Int)=>((FQ z1 z2 a1 a2).bind fun x7=>(EO a1 a2 AC x7 20))) fun K0=>(EH a1 a2 K0 AC a0 0 20))
theorem O9 {a0:(List Int)} {a1:Int} {a2:Al} (oa2:Bt a2) {r:(List Int)} (h:La a0 a1 a2=some r) :
  FnG Tryz.prog 180 [.own 3 (Is a0),.d (.i .i64 a1),.d (a2.dv)] [] (.tup []) [.own 3 (Is r)] []:=by
 unfold La at h
 refine FnG.of (rs:=[]) 1 63 Tryz.func180 rfl rfl rfl (by simp) (by simp) (by simp) ?_;refine .sr ?_;refine ar [0,1,2,6] ?_;refine .sr ?_;refine vk (Aa) ?_;refine asd ?_;refine ar [0,1,2,6,7,8] ?_
 obtain ⟨K0,hK0,h⟩:=AE h
 refine AW.mj (σ:=(List Int)×Int) (fun p=>K0 p.1 p.2=some r) (fun p=>[(0,.own 3 (Is p.1)),(1,.d (.i .i64 a1)),(2,.d (a2.dv)),(6,.d (.i .i64 20)),(7,.d (.i .i64 p.2))]) (fun p=>[]) ?_ ?_
 ·skip
  refine .block ?_
  refine .loop (.gk [0,1,2,6,7,8] ?_)
  refine AL.ind (σ:=Nat×(List Int)×Int×Int) (m:=fun p=>p.1) (e:=fun p=>[(0,.own 3 (Is p.2.1)),(1,.d (.i .i64 a1)),(2,.d (a2.dv)),(6,.d (.i .i64 20)),(7,.d (.i .i64 p.2.2.1)),(8,.d (.i .i64 p.2.2.2))]) (h:=fun p=>[]) (I:=fun p=>EH a1 a2 K0 p.1 p.2.1 p.2.2.1 p.2.2.2=some r) ?_ (AC,a0,0,20) h
  rintro ⟨k,s3,s4,s5⟩ h ih
  dsimp only at h ih ⊢
  rcases k with _|k
  ·rw [EH] at h;cases h
  rw [EH] at h
  refine .seq ?_;refine .sr ?_;refine vk (Aa) ?_;refine vk (Aa) ?_;refine vk (vbi) ?_;refine rk [0,1,2,6,7,8,13] ?_
  rcases brc h with ⟨hc,h⟩|⟨hc,h⟩
  ·refine cnt (dT hc) ?_
   refine .skip ?_
   show AW _ _ _ _ _ _
   refine .block ?_;refine .sr ?_;refine mvo ?_;refine vk (Aa) ?_;refine vk (Aa) ?_;refine vk (Aa) ?_
   obtain ⟨x6,g6,h⟩:=bnd h
   refine LJ (Is x6) ?_ (HZ oa2 g6) Tryz.call228
   refine RL.gk [0,1,2,6,7,8,13,15,16,17,18] ?_;refine rk [0,1,2,6,8] ?_;refine .sr ?_;refine vk (Aa) ?_;refine ar [0,1,2,6,7,8] ?_;refine .region ?_;refine vk (Aa) ?_;refine vk (Aa) ?_;refine vk (vbi) ?_;refine asd ?_;refine .nil ?_;refine AL.gk [0,1,2,6,7,8] ?_
   exact ih (k,x6,s5,(w64 (s5+20))) h (Nat.lt_succ_self _)
  refine cnf (dF hc) ?_;refine .gk [0,1,2,6,7] ?_;refine .exit ?_
  exact jr (s3,s4) h
 rintro ⟨z1,z2⟩ h
 try dsimp only at h ⊢
 subst hK0
 refine .sr ?_;refine mvo ?_;refine vk (Aa) ?_;refine vk (Aa) ?_;refine vk (Aa) ?_
 obtain ⟨x7,g7,h⟩:=bnd h
 refine LJ (Is x7) ?_ (HZ oa2 g7) Tryz.call228
 refine RL.gk [0,1,2,6,7,24,25,26,27] ?_;refine rk [0,1,2,6] ?_;refine .block ?_
 refine .loop (.gk [0,1,2,6] ?_)
 refine AL.ind (σ:=Nat×(List Int)×Int) (m:=fun p=>p.1) (e:=fun p=>[(0,.own 3 (Is p.2.1)),(1,.d (.i .i64 a1)),(2,.d (a2.dv)),(6,.d (.i .i64 p.2.2))]) (h:=fun p=>[]) (I:=fun p=>EO a1 a2 p.1 p.2.1 p.2.2=some r) ?_ (AC,x7,20) h
 rintro ⟨k,s8,s9⟩ h ih
 dsimp only at h ih ⊢
 rcases k with _|k
 ·rw [EO] at h;cases h
 rw [EO] at h
 refine .seq ?_;refine .sr ?_;refine vk (Aa) ?_;refine vk (Aa) ?_;refine vk (vbi) ?_;refine rk [0,1,2,6,30] ?_
 rcases brc h with ⟨hc,h⟩|⟨hc,h⟩
 ·refine cnt (dT hc) ?_
  refine .skip ?_
  show AW _ _ _ _ _ _
  refine .block ?_;refine .sr ?_;refine vk (Aa) ?_;refine vk (vbi) ?_;refine asd ?_;refine ar [0,1,2,6,7,8] ?_
  obtain ⟨K3,hK3,h⟩:=AE h
  refine AW.mj (σ:=(List Int)×Int) (fun p=>K3 p.1 p.2=some r) (fun p=>[(0,.own 3 (Is p.1)),(1,.d (.i .i64 a1)),(2,.d (a2.dv)),(6,.d (.i .i64 s9)),(7,.d (.i .i64 p.2))]) (fun p=>[]) ?_ ?_
  ·skip
   refine .block ?_
   refine .loop (.gk [0,1,2,6,7,8] ?_)
   refine AL.ind (σ:=Nat×(List Int)×Int×Int) (m:=fun p=>p.1) (e:=fun p=>[(0,.own 3 (Is p.2.1)),(1,.d (.i .i64 a1)),(2,.d (a2.dv)),(6,.d (.i .i64 s9)),(7,.d (.i .i64 p.2.2.1)),(8,.d (.i .i64 p.2.2.2))]) (h:=fun p=>[]) (I:=fun p=>EJ a1 a2 s9 K3 p.1 p.2.1 p.2.2.1 p.2.2.2=some r) ?_ (AC,s8,0,(w64 (2 * s9))) h
   rintro ⟨k,s12,s13,s14⟩ h ih
   dsimp only at h ih ⊢
   rcases k with _|k
   ·rw [EJ] at h;cases h
   rw [EJ] at h
   refine .seq ?_;refine .sr ?_;refine vk (Aa) ?_;refine vk (Aa) ?_;refine vk (vbi) ?_;refine rk [0,1,2,6,7,8,35] ?_
   rcases brc h with ⟨hc,h⟩|⟨hc,h⟩
   ·refine cnt (dT hc) ?_
    refine .skip ?_
    show AW _ _ _ _ _ _
    refine .block ?_;refine .sr ?_;refine mvo ?_;refine vk (Aa) ?_;refine vk (Aa) ?_;refine vk (Aa) ?_;refine vk (vbi) ?_;refine vk (Aa) ?_;refine vk (Aa) ?_
    obtain ⟨x15,g15,h⟩:=bnd h
    refine LJ (Is x15) ?_ (IF oa2 g15) Tryz.call229
    refine RL.gk [0,1,2,6,7,8,35,37,38,39,40,41,42,43] ?_;refine rk [0,1,2,6,8] ?_;refine .sr ?_;refine vk (Aa) ?_;refine ar [0,1,2,6,7,8] ?_;refine .region ?_;refine vk (Aa) ?_;refine vk (Aa) ?_;refine vk (vbi) ?_;refine vk (vbi) ?_;refine asd ?_;refine .nil ?_;refine AL.gk [0,1,2,6,7,8] ?_
    exact ih (k,x15,s14,(w64 (s14+(w64 (2 * s9))))) h (Nat.lt_succ_self _)
   refine cnf (dF hc) ?_;refine .gk [0,1,2,6,7] ?_;refine .exit ?_
   exact jr (s12,s13) h
  rintro ⟨z10,z11⟩ h
  try dsimp only at h ⊢
  subst hK3
  refine .seq ?_;refine .sr ?_;refine vk (Aa) ?_;refine vk (Aa) ?_;refine vk (vbi) ?_;refine ar [0,1,2,6,7,9] ?_;refine .sr ?_;refine vk (Aa) ?_;refine vk (Aa) ?_;refine vk (vbi) ?_;refine rk [0,1,2,6,7,9,54] ?_
  obtain ⟨K5,hK5,h⟩:=AE h
  refine AW.mr (σ:=(List Int)) (fun p=>K5 p=some r) (fun p=>[(0,.own 3 (Is p)),(1,.d (.i .i64 a1)),(2,.d (a2.dv)),(6,.d (.i .i64 s9))]) (fun p=>[]) ?_ ?_
  ·skip
   rcases brc h with ⟨hc,h⟩|⟨hc,h⟩
   ·refine cnt (dT hc) ?_
    refine .region ?_;refine mvo ?_;refine vk (Aa) ?_;refine vk (Aa) ?_;refine vk (Aa) ?_;refine vk (Aa) ?_
    obtain ⟨x17,g17,h⟩:=bnd h
    refine LJ (Is x17) ?_ (IF oa2 g17) Tryz.call229
    refine RL.gk [0,1,2,6,7,9,54,56,57,58,59,60] ?_;refine RL.gk [0,1,2,6] ?_;refine .nil ?_
    exact jr (x17) h
   refine cnf (dF hc) ?_;refine .gk [0,1,2,6] ?_;refine .skip ?_
   exact jr (z10) h
  rintro z16 h
  try dsimp only at h ⊢
  subst hK5
  show AW _ _ _ _ _ _
  refine .region ?_;refine vk (Aa) ?_;refine vk (vbi) ?_;refine asd ?_;refine .nil ?_;refine AL.gk [0,1,2,6] ?_
  exact ih (k,z16,(w64 (s9 * 2))) h (Nat.lt_succ_self _)
 refine cnf (dF hc) ?_;refine .exit ?_
 cases h
 exact Mv rfl rfl
def O7 (a0:(List Int)) (a1:Al) : Option ((List Int)):=((La a0 ((List.length a0:Nat) : Int) a1).bind fun x1=>(some x1))
theorem QU {a0:(List Int)} {a1:Al} (oa1:Bt a1) {r:(List Int)} (h:O7 a0 a1=some r) :
  FnG Tryz.prog 127 [.own 3 (Is a0),.d (a1.dv)] [] (.tup []) [.own 3 (Is r)] []:=by
 unfold O7 at h
 refine FnG.of (rs:=[]) 1 9 Tryz.func127 rfl rfl rfl (by simp) (by simp) (by simp) ?_;refine .region ?_;refine mvo ?_;refine mvo ?_;refine vk (PI (Af _) Cg) ?_;refine vk (Aa) ?_
 obtain ⟨x1,g1,h⟩:=bnd h
 refine RL.gk [0,1,4,6,7] ?_
 refine LJ (Is x1) ?_ (O9 oa1 g1) Tryz.call180
 refine RL.gk [0,1,6,7,8] ?_;refine .nil ?_
 cases h
 exact Mv rfl rfl
def Fs (a0:Int) : Option (Bool):=(some ((!(decide (a0=a0)))))
theorem G9 {a0:Int} {r:Bool} (h:Fs a0=some r) :
  Fn Tryz.prog 195 [.i .i64 a0] (.d (.b r)):=by
 unfold Fs at h
 refine Fn.o1 2 6 Tryz.func195 ?_;refine .sr ?_;refine ar [0,2] ?_;refine .sr ?_;refine vk (Aa) ?_;refine vk (Aa) ?_;refine vk (vbi) ?_;refine ar [2] ?_;refine .ret ?_
 cases h
 exact ⟨rfl,rfl⟩
def EW (a0:Int) : Option (Bool):=(some ((!(decide (a0=a0)))))
theorem GO {a0:Int} {r:Bool} (h:EW a0=some r) :
  Fn Tryz.prog 194 [.i .i32 a0] (.d (.b r)):=by
 unfold EW at h
 refine Fn.o1 2 6 Tryz.func194 ?_;refine .sr ?_;refine ar [0,2] ?_;refine .sr ?_;refine vk (Aa) ?_;refine vk (Aa) ?_;refine vk (vbi) ?_;refine ar [2] ?_;refine .ret ?_
 cases h
 exact ⟨rfl,rfl⟩
def Cp (a0:Int) : Option (Bool):=(some ((!(decide (a0=a0)))))
theorem D2 {a0:Int} {r:Bool} (h:Cp a0=some r) :
  Fn Tryz.prog 189 [.i .u8 a0] (.d (.b r)):=by
 unfold Cp at h
 refine Fn.o1 2 6 Tryz.func189 ?_;refine .sr ?_;refine ar [0,2] ?_;refine .sr ?_;refine vk (Aa) ?_;refine vk (Aa) ?_;refine vk (vbi) ?_;refine ar [2] ?_;refine .ret ?_
 cases h
 exact ⟨rfl,rfl⟩
def Eh (a0:Int) (a1:Int) : Option (Int):=((Fs a0).bind fun x1=>((Fs a1).bind fun x2=>(if x1=true then (if x2=true then (some (0)) else (some ((-1)))) else (if x2=true then (some (1)) else (if a0<a1 then (some ((-1))) else (if a1<a0 then (some (1)) else (some (0))))))))
theorem Gx {a0:Int} {a1:Int} {r:Int} (h:Eh a0 a1=some r) :
  Fn Tryz.prog 144 [.i .i64 a0,.i .i64 a1] (.d (.i .i64 r)):=by
 unfold Eh at h
 refine Fn.o1 4 20 Tryz.func144 ?_;refine .sr ?_;refine ar [0,1,4] ?_;refine .sr ?_;refine vk (Aa) ?_
 obtain ⟨x1,g1,h⟩:=bnd h
 refine vk (Ag (G9 g1) Tryz.call195) ?_;refine ar [0,1,4,5] ?_;refine .sr ?_;refine vk (Aa) ?_
 obtain ⟨x2,g2,h⟩:=bnd h
 refine vk (Ag (G9 g2) Tryz.call195) ?_;refine ar [0,1,4,5,6] ?_;refine .seq ?_;refine .sr ?_;refine vk (Aa) ?_;refine rk [0,1,4,6,11] ?_
 rcases brc h with ⟨hc,h⟩|⟨hc,h⟩
 ·refine cnt hc ?_
  refine .seq ?_;refine .sr ?_;refine vk (Aa) ?_;refine rk [0,1,4,6,12] ?_
  rcases brc h with ⟨hc,h⟩|⟨hc,h⟩
  ·refine cnt hc ?_
   refine .sr ?_;refine ar [0,1,4,6] ?_;refine .ret ?_
   cases h
   exact ⟨rfl,rfl⟩
  refine cnf (bf hc) ?_;refine .skip ?_
  show AW _ _ _ _ _ _
  refine .sr ?_;refine ar [0,1,4,6] ?_;refine .ret ?_
  cases h
  exact ⟨rfl,rfl⟩
 refine cnf (bf hc) ?_;refine .skip ?_
 show AW _ _ _ _ _ _
 refine .seq ?_;refine .sr ?_;refine vk (Aa) ?_;refine rk [0,1,4,13] ?_
 rcases brc h with ⟨hc,h⟩|⟨hc,h⟩
 ·refine cnt hc ?_
  refine .sr ?_;refine ar [0,1,4] ?_;refine .ret ?_
  cases h
  exact ⟨rfl,rfl⟩
 refine cnf (bf hc) ?_;refine .skip ?_
 show AW _ _ _ _ _ _
 refine .seq ?_;refine .sr ?_;refine vk (Aa) ?_;refine vk (Aa) ?_;refine vk (vbi) ?_;refine rk [0,1,4,16] ?_
 rcases brc h with ⟨hc,h⟩|⟨hc,h⟩
 ·refine cnt (dT hc) ?_
  refine .sr ?_;refine ar [0,1,4] ?_;refine .ret ?_
  cases h
  exact ⟨rfl,rfl⟩
 refine cnf (dF hc) ?_;refine .skip ?_
 show AW _ _ _ _ _ _
 refine .seq ?_;refine .sr ?_;refine vk (Aa) ?_;refine vk (Aa) ?_;refine vk (vbi) ?_;refine rk [4,19] ?_
 rcases brc h with ⟨hc,h⟩|⟨hc,h⟩
 ·refine cnt (dT hc) ?_
  refine .sr ?_;refine ar [4] ?_;refine .ret ?_
  cases h
  exact ⟨rfl,rfl⟩
 refine cnf (dF hc) ?_;refine .skip ?_
 show AW _ _ _ _ _ _
 refine .sr ?_;refine ar [4] ?_;refine .ret ?_
 cases h
 exact ⟨rfl,rfl⟩
def E4 (a0:Int) (a1:Int) : Option (Int):=((EW a0).bind fun x1=>((EW a1).bind fun x2=>(if x1=true then (if x2=true then (some (0)) else (some ((-1)))) else (if x2=true then (some (1)) else (if a0<a1 then (some ((-1))) else (if a1<a0 then (some (1)) else (some (0))))))))
theorem Jk {a0:Int} {a1:Int} {r:Int} (h:E4 a0 a1=some r) :
  Fn Tryz.prog 142 [.i .i32 a0,.i .i32 a1] (.d (.i .i64 r)):=by
 unfold E4 at h
 refine Fn.o1 4 20 Tryz.func142 ?_;refine .sr ?_;refine ar [0,1,4] ?_;refine .sr ?_;refine vk (Aa) ?_
 obtain ⟨x1,g1,h⟩:=bnd h
 refine vk (Ag (GO g1) Tryz.call194) ?_;refine ar [0,1,4,5] ?_;refine .sr ?_;refine vk (Aa) ?_
 obtain ⟨x2,g2,h⟩:=bnd h
 refine vk (Ag (GO g2) Tryz.call194) ?_;refine ar [0,1,4,5,6] ?_;refine .seq ?_;refine .sr ?_;refine vk (Aa) ?_;refine rk [0,1,4,6,11] ?_
 rcases brc h with ⟨hc,h⟩|⟨hc,h⟩
 ·refine cnt hc ?_
  refine .seq ?_;refine .sr ?_;refine vk (Aa) ?_;refine rk [0,1,4,6,12] ?_
  rcases brc h with ⟨hc,h⟩|⟨hc,h⟩
  ·refine cnt hc ?_
   refine .sr ?_;refine ar [0,1,4,6] ?_;refine .ret ?_
   cases h
   exact ⟨rfl,rfl⟩
  refine cnf (bf hc) ?_;refine .skip ?_
  show AW _ _ _ _ _ _
  refine .sr ?_;refine ar [0,1,4,6] ?_;refine .ret ?_
  cases h
  exact ⟨rfl,rfl⟩
 refine cnf (bf hc) ?_;refine .skip ?_
 show AW _ _ _ _ _ _
 refine .seq ?_;refine .sr ?_;refine vk (Aa) ?_;refine rk [0,1,4,13] ?_
 rcases brc h with ⟨hc,h⟩|⟨hc,h⟩
 ·refine cnt hc ?_
  refine .sr ?_;refine ar [0,1,4] ?_;refine .ret ?_
  cases h
  exact ⟨rfl,rfl⟩
 refine cnf (bf hc) ?_;refine .skip ?_
 show AW _ _ _ _ _ _
 refine .seq ?_;refine .sr ?_;refine vk (Aa) ?_;refine vk (Aa) ?_;refine vk (vbi) ?_;refine rk [0,1,4,16] ?_
 rcases brc h with ⟨hc,h⟩|⟨hc,h⟩
 ·refine cnt (dT hc) ?_
  refine .sr ?_;refine ar [0,1,4] ?_;refine .ret ?_
  cases h
  exact ⟨rfl,rfl⟩
 refine cnf (dF hc) ?_;refine .skip ?_
 show AW _ _ _ _ _ _
 refine .seq ?_;refine .sr ?_;refine vk (Aa) ?_;refine vk (Aa) ?_;refine vk (vbi) ?_;refine rk [4,19] ?_
 rcases brc h with ⟨hc,h⟩|⟨hc,h⟩
 ·refine cnt (dT hc) ?_
  refine .sr ?_;refine ar [4] ?_;refine .ret ?_
  cases h
  exact ⟨rfl,rfl⟩
 refine cnf (dF hc) ?_;refine .skip ?_
 show AW _ _ _ _ _ _
 refine .sr ?_;refine ar [4] ?_;refine .ret ?_
 cases h
 exact ⟨rfl,rfl⟩
def CZ (a0:Int) (a1:Int) : Option (Int):=((Cp a0).bind fun x1=>((Cp a1).bind fun x2=>(if x1=true then (if x2=true then (some (0)) else (some ((-1)))) else (if x2=true then (some (1)) else (if a0<a1 then (some ((-1))) else (if a1<a0 then (some (1)) else (some (0))))))))
theorem FR {a0:Int} {a1:Int} {r:Int} (h:CZ a0 a1=some r) :
  Fn Tryz.prog 140 [.i .u8 a0,.i .u8 a1] (.d (.i .i64 r)):=by
 unfold CZ at h
 refine Fn.o1 4 20 Tryz.func140 ?_;refine .sr ?_;refine ar [0,1,4] ?_;refine .sr ?_;refine vk (Aa) ?_
 obtain ⟨x1,g1,h⟩:=bnd h
 refine vk (Ag (D2 g1) Tryz.call189) ?_;refine ar [0,1,4,5] ?_;refine .sr ?_;refine vk (Aa) ?_
 obtain ⟨x2,g2,h⟩:=bnd h
 refine vk (Ag (D2 g2) Tryz.call189) ?_;refine ar [0,1,4,5,6] ?_;refine .seq ?_;refine .sr ?_;refine vk (Aa) ?_;refine rk [0,1,4,6,11] ?_
 rcases brc h with ⟨hc,h⟩|⟨hc,h⟩
 ·refine cnt hc ?_
  refine .seq ?_;refine .sr ?_;refine vk (Aa) ?_;refine rk [0,1,4,6,12] ?_
  rcases brc h with ⟨hc,h⟩|⟨hc,h⟩
  ·refine cnt hc ?_
   refine .sr ?_;refine ar [0,1,4,6] ?_;refine .ret ?_
   cases h
   exact ⟨rfl,rfl⟩
  refine cnf (bf hc) ?_;refine .skip ?_
  show AW _ _ _ _ _ _
  refine .sr ?_;refine ar [0,1,4,6] ?_;refine .ret ?_
  cases h
  exact ⟨rfl,rfl⟩
 refine cnf (bf hc) ?_;refine .skip ?_
 show AW _ _ _ _ _ _
 refine .seq ?_;refine .sr ?_;refine vk (Aa) ?_;refine rk [0,1,4,13] ?_
 rcases brc h with ⟨hc,h⟩|⟨hc,h⟩
 ·refine cnt hc ?_
  refine .sr ?_;refine ar [0,1,4] ?_;refine .ret ?_
  cases h
  exact ⟨rfl,rfl⟩
 refine cnf (bf hc) ?_;refine .skip ?_
 show AW _ _ _ _ _ _
 refine .seq ?_;refine .sr ?_;refine vk (Aa) ?_;refine vk (Aa) ?_;refine vk (vbi) ?_;refine rk [0,1,4,16] ?_
 rcases brc h with ⟨hc,h⟩|⟨hc,h⟩
 ·refine cnt (dT hc) ?_
  refine .sr ?_;refine ar [0,1,4] ?_;refine .ret ?_
  cases h
  exact ⟨rfl,rfl⟩
 refine cnf (dF hc) ?_;refine .skip ?_
 show AW _ _ _ _ _ _
 refine .seq ?_;refine .sr ?_;refine vk (Aa) ?_;refine vk (Aa) ?_;refine vk (vbi) ?_;refine rk [4,19] ?_
 rcases brc h with ⟨hc,h⟩|⟨hc,h⟩
 ·refine cnt (dT hc) ?_
  refine .sr ?_;refine ar [4] ?_;refine .ret ?_
  cases h
  exact ⟨rfl,rfl⟩
 refine cnf (dF hc) ?_;refine .skip ?_
 show AW _ _ _ _ _ _
 refine .sr ?_;refine ar [4] ?_;refine .ret ?_
 cases h
 exact ⟨rfl,rfl⟩
def D9 (a0:(List Int)) (K0:Int→Option (Int)) : Nat→Int→Int→Option (Int)
 | 0,_,_=>none
 | k+1,s2,s3=>(if s3<((List.length a0:Nat):Int) then ((rd? a0 s3).bind fun x4=>(if x4=0 then (D9 a0 K0 k s2 (w64 (s3+1))) else (some (x4)))) else (K0 s2))
def JE (a0:(List Int)) : Option (Int):=(jn (fun (z1:Int)=>(some (0))) fun K0=>(D9 a0 K0 AC 0 0))
theorem Nc {a0:(List Int)} {r:Int} (h:JE a0=some r) :
  Fn Tryz.prog 143 [.sl (Is a0)] (.d (.i .i64 r)):=by
 unfold JE at h
 refine Fn.o1 2 18 Tryz.func143 ?_;refine .sr ?_;refine ar [0,2] ?_;refine .sr ?_;refine ar [0,2,3] ?_;refine .seq ?_;refine .sr ?_;refine vk (Aa) ?_;refine vk (AU (Af _) (CD _) Cg) ?_;refine vk (Aa) ?_;refine rk [2,3,6,7,8] ?_
 obtain ⟨K0,hK0,h⟩:=AE h
 refine AW.mr (σ:=Int) (fun p=>K0 p=some r) (fun p=>[(2,.d (.i .i64 p)),(3,.d (.i .i64 0))]) (fun p=>[]) ?_ ?_
 ·skip
  refine .block ?_
  refine .loop (.gk [2,3,6,7,8] ?_)
  refine AL.ind (σ:=Nat×Int×Int) (m:=fun p=>p.1) (e:=fun p=>[(2,.d (.i .i64 p.2.1)),(3,.d (.i .i64 0)),(6,.d (.sl (Is a0))),(7,.d (.i .i64 ((List.length a0:Nat):Int))),(8,.d (.i .i64 p.2.2))]) (h:=fun p=>[]) (I:=fun p=>D9 a0 K0 p.1 p.2.1 p.2.2=some r) ?_ (AC,0,0) h
  rintro ⟨k,s2,s3⟩ h ih
  dsimp only at h ih ⊢
  rcases k with _|k
  ·rw [D9] at h;cases h
  rw [D9] at h
  refine .sr ?_;refine vk (vbi) ?_;refine rk [2,3,6,7,8,9] ?_;refine .seq ?_
  rcases brc h with ⟨hc,h⟩|⟨hc,h⟩
  ·refine cnt (dT hc) ?_
   refine .skip ?_
   show AW _ _ _ _ _ _
   refine .seq ?_;refine .block ?_;refine .sr ?_
   obtain ⟨x4,g4,h⟩:=bnd h
   obtain ⟨n4,p04,q4⟩:=Ai g4
   refine vk (vix n4 p04 (Bp q4) rfl Bg) ?_;refine vk (Am AJ) ?_;refine ar [2,3,5,6,7,8] ?_;refine .sr ?_;refine vk (Aa) ?_;refine vk (Aa) ?_;refine vk (vbi) ?_;refine rk [2,3,5,6,7,8,14] ?_
   rcases brc h with ⟨hc,h⟩|⟨hc,h⟩
   ·refine cnf (ntf (dT hc)) ?_
    refine .skip ?_
    show AW _ _ _ _ _ _
    refine .region ?_;refine vk (vbi) ?_;refine vk (Aa) ?_;refine .nil ?_;refine AL.gk [2,3,6,7,8] ?_
    exact ih (k,s2,(w64 (s3+1))) h (Nat.lt_succ_self _)
   refine cnt (ntt (dF hc)) ?_;refine .sr ?_;refine vk (Aa) ?_;refine ar [2,3,6,7,8] ?_;refine .ret ?_
   cases h
   exact ⟨rfl,rfl⟩
  refine cnf (dF hc) ?_;refine .gk [2,3] ?_;refine .exit ?_
  exact jr (s2) h
 rintro z1 h
 try dsimp only at h ⊢
 subst hK0
 show AW _ _ _ _ _ _
 refine .sr ?_;refine vk (Aa) ?_;refine ar [2] ?_;refine .ret ?_
 cases h
 exact ⟨rfl,rfl⟩
def Bj (a0:(List Int)) (a1:(List Int)) (K0:Int→Option (Int)) : Nat→Int→Int→Option (Int)
 | 0,_,_=>none
 | k+1,s2,s3=>(if s3<((List.length a0:Nat):Int) then ((rd? a0 s3).bind fun x4=>(if ((List.length a1:Nat):Int)≤s3 then (some (1)) else ((rd? a1 s3).bind fun x5=>((Eh x4 x5).bind fun x6=>(if x6=0 then (Bj a0 a1 K0 k s2 (w64 (s3+1))) else (some (x6))))))) else (K0 s2))
def Dk (a0:(List Int)) (a1:(List Int)) : Option (Int):=(jn (fun (z1:Int)=>(if ((List.length a0:Nat) : Int)<((List.length a1:Nat) : Int) then (some ((-1))) else (some (0)))) fun K0=>(Bj a0 a1 K0 AC 0 0))
theorem GD {a0:(List Int)} {a1:(List Int)} {r:Int} (h:Dk a0 a1=some r) :
  Fn Tryz.prog 145 [.sl (Is a0),.sl (Is a1)] (.d (.i .i64 r)):=by
 unfold Dk at h
 refine Fn.o1 4 36 Tryz.func145 ?_;refine .sr ?_;refine ar [0,1,4] ?_;refine .seq ?_;refine .sr ?_;refine vk (Aa) ?_;refine vk (AU (Af _) (CD _) Cg) ?_;refine vk (Aa) ?_;refine rk [0,1,4,9,10,11] ?_
 obtain ⟨K0,hK0,h⟩:=AE h
 refine AW.mr (σ:=Int) (fun p=>K0 p=some r) (fun p=>[(0,.d (.sl (Is a0))),(1,.d (.sl (Is a1))),(4,.d (.i .i64 p))]) (fun p=>[]) ?_ ?_
 ·skip
  refine .block ?_
  refine .loop (.gk [0,1,4,9,10,11] ?_)
  refine AL.ind (σ:=Nat×Int×Int) (m:=fun p=>p.1) (e:=fun p=>[(0,.d (.sl (Is a0))),(1,.d (.sl (Is a1))),(4,.d (.i .i64 p.2.1)),(9,.d (.sl (Is a0))),(10,.d (.i .i64 ((List.length a0:Nat):Int))),(11,.d (.i .i64 p.2.2))]) (h:=fun p=>[]) (I:=fun p=>Bj a0 a1 K0 p.1 p.2.1 p.2.2=some r) ?_ (AC,0,0) h
  rintro ⟨k,s2,s3⟩ h ih
  dsimp only at h ih ⊢
  rcases k with _|k
  ·rw [Bj] at h;cases h
  rw [Bj] at h
  refine .sr ?_;refine vk (vbi) ?_;refine rk [0,1,4,9,10,11,12] ?_;refine .seq ?_
  rcases brc h with ⟨hc,h⟩|⟨hc,h⟩
  ·refine cnt (dT hc) ?_
   refine .skip ?_
   show AW _ _ _ _ _ _
   refine .seq ?_;refine .block ?_;refine .sr ?_;refine vk (Aa) ?_
   obtain ⟨x4,g4,h⟩:=bnd h
   obtain ⟨n4,p04,q4⟩:=Ai g4
   refine vk (vix n4 p04 (Bp q4) rfl Bg) ?_;refine vk (Am AJ) ?_;refine asd ?_;refine ar [0,1,4,5,6,9,10,11] ?_;refine .seq ?_;refine .sr ?_;refine vk (Aa) ?_;refine vk (Aa) ?_;refine vk (AU (Af _) (CD _) Cg) ?_;refine vk (vbi) ?_;refine rk [0,1,4,5,6,9,10,11,19] ?_
   rcases brc h with ⟨hc,h⟩|⟨hc,h⟩
   ·refine cnt (dT hc) ?_
    refine .sr ?_;refine ar [0,1,4,5,6,9,10,11] ?_;refine .ret ?_
    cases h
    exact ⟨rfl,rfl⟩
   refine cnf (dF hc) ?_;refine .skip ?_
   show AW _ _ _ _ _ _
   refine .sr ?_;refine vk (Aa) ?_;refine vk (Aa) ?_
   obtain ⟨x5,g5,h⟩:=bnd h
   obtain ⟨n5,p05,q5⟩:=Ai g5
   refine vk (vix n5 p05 (Bp q5) rfl Bg) ?_;refine vk (Am AJ) ?_;refine ar [0,1,4,6,7,9,10,11] ?_;refine .sr ?_;refine vk (Aa) ?_;refine vk (Aa) ?_
   obtain ⟨x6,g6,h⟩:=bnd h
   refine vk (Ag (Gx g6) Tryz.call144) ?_;refine ar [0,1,4,8,9,10,11] ?_;refine .sr ?_;refine vk (Aa) ?_;refine vk (vbi) ?_;refine rk [0,1,4,8,9,10,11,28] ?_
   rcases brc h with ⟨hc,h⟩|⟨hc,h⟩
   ·refine cnf (ntf (dT hc)) ?_
    refine .skip ?_
    show AW _ _ _ _ _ _
    refine .region ?_;refine vk (vbi) ?_;refine vk (Aa) ?_;refine .nil ?_;refine AL.gk [0,1,4,9,10,11] ?_
    exact ih (k,s2,(w64 (s3+1))) h (Nat.lt_succ_self _)
   refine cnt (ntt (dF hc)) ?_;refine .sr ?_;refine vk (Aa) ?_;refine ar [0,1,4,9,10,11] ?_;refine .ret ?_
   cases h
   exact ⟨rfl,rfl⟩
  refine cnf (dF hc) ?_;refine .gk [0,1,4] ?_;refine .exit ?_
  exact jr (s2) h
 rintro z1 h
 try dsimp only at h ⊢
 subst hK0
 show AW _ _ _ _ _ _
 refine .seq ?_;refine .sr ?_;refine vk (Aa) ?_;refine vk (AU (Af _) (CD _) Cg) ?_;refine vk (Aa) ?_;refine vk (AU (Af _) (CD _) Cg) ?_;refine vk (vbi) ?_;refine rk [4,35] ?_
 rcases brc h with ⟨hc,h⟩|⟨hc,h⟩
 ·refine cnt (dT hc) ?_
  refine .sr ?_;refine ar [4] ?_;refine .ret ?_
  cases h
  exact ⟨rfl,rfl⟩
 refine cnf (dF hc) ?_;refine .skip ?_
 show AW _ _ _ _ _ _
 refine .sr ?_;refine ar [4] ?_;refine .ret ?_
 cases h
 exact ⟨rfl,rfl⟩
def Ar (a0:(List Itm)) (a1:(List Itm)) (a2:Dt) (K0:Int→Option (Int)) : Nat→Int→Int→Option (Int)
 | 0,_,_=>none
 | k+1,s2,s3=>(if s3<((List.length a0:Nat):Int) then ((rd? a0 s3).bind fun x4=>(if ((List.length a1:Nat):Int)≤s3 then (some (1)) else ((rd? a1 s3).bind fun x5=>((a2.g (x4,x5)).bind fun x6=>(if x6=0 then (Ar a0 a1 a2 K0 k s2 (w64 (s3+1))) else (some (x6))))))) else (K0 s2))
def AN (a0:(List Itm)) (a1:(List Itm)) (a2:Dt) : Option (Int):=(jn (fun (z1:Int)=>(if ((List.length a0:Nat) : Int)<((List.length a1:Nat) : Int) then (some ((-1))) else (some (0)))) fun K0=>(Ar a0 a1 a2 K0 AC 0 0))
theorem BY {a0:(List Itm)} {a1:(List Itm)} {a2:Dt} (oa2:LM a2) {r:Int} (h:AN a0 a1 a2=some r) :
  Fn Tryz.prog 146 [.sl (Its a0),.sl (Its a1),a2.dv] (.d (.i .i64 r)):=by
 unfold AN at h
 refine Fn.o1 6 39 Tryz.func146 ?_;refine .sr ?_;refine ar [0,1,2,6] ?_;refine .seq ?_;refine .sr ?_;refine vk (Aa) ?_;refine vk (AU (Ay _) (BQ _) BK) ?_;refine vk (Aa) ?_;refine rk [0,1,2,6,11,12,13] ?_
 obtain ⟨K0,hK0,h⟩:=AE h
 refine AW.mr (σ:=Int) (fun p=>K0 p=some r) (fun p=>[(0,.d (.sl (Its a0))),(1,.d (.sl (Its a1))),(6,.d (.i .i64 p))]) (fun p=>[]) ?_ ?_
 ·skip
  refine .block ?_
  refine .loop (.gk [0,1,2,6,11,12,13] ?_)
  refine AL.ind (σ:=Nat×Int×Int) (m:=fun p=>p.1) (e:=fun p=>[(0,.d (.sl (Its a0))),(1,.d (.sl (Its a1))),(2,.d (a2.dv)),(6,.d (.i .i64 p.2.1)),(11,.d (.sl (Its a0))),(12,.d (.i .i64 ((List.length a0:Nat):Int))),(13,.d (.i .i64 p.2.2))]) (h:=fun p=>[]) (I:=fun p=>Ar a0 a1 a2 K0 p.1 p.2.1 p.2.2=some r) ?_ (AC,0,0) h
  rintro ⟨k,s2,s3⟩ h ih
  dsimp only at h ih ⊢
  rcases k with _|k
  ·rw [Ar] at h;cases h
  rw [Ar] at h
  refine .sr ?_;refine vk (vbi) ?_;refine rk [0,1,2,6,11,12,13,14] ?_;refine .seq ?_
  rcases brc h with ⟨hc,h⟩|⟨hc,h⟩
  ·refine cnt (dT hc) ?_
   refine .skip ?_
   show AW _ _ _ _ _ _
   refine .seq ?_;refine .block ?_;refine .sr ?_;refine vk (Aa) ?_
   obtain ⟨x4,g4,h⟩:=bnd h
   obtain ⟨n4,p04,q4⟩:=Ai g4
   refine vk (vix n4 p04 (Cq q4) rfl Cr) ?_;refine vk (Aq AS Aw) ?_;refine vk (van (Ah BR) BT) ?_;refine asd ?_
   refine stn ?_ Aw (by decide)
   refine rk [0,1,2,6,7,8,11,12,13] ?_;refine .seq ?_;refine .sr ?_;refine vk (Aa) ?_;refine vk (Aa) ?_;refine vk (AU (Ay _) (BQ _) BK) ?_;refine vk (vbi) ?_;refine rk [0,1,2,6,7,8,11,12,13,21] ?_
   rcases brc h with ⟨hc,h⟩|⟨hc,h⟩
   ·refine cnt (dT hc) ?_
    refine .sr ?_;refine ar [0,1,2,6,7,8,11,12,13] ?_;refine .ret ?_
    cases h
    exact ⟨rfl,rfl⟩
   refine cnf (dF hc) ?_;refine .skip ?_
   show AW _ _ _ _ _ _
   refine .sr ?_;refine vk (Aa) ?_;refine vk (Aa) ?_
   obtain ⟨x5,g5,h⟩:=bnd h
   obtain ⟨n5,p05,q5⟩:=Ai g5
   refine vk (vix n5 p05 (Cq q5) rfl Cr) ?_;refine vk (Aq AS Aw) ?_;refine vk (van (Ah BR) BT) ?_
   refine stn ?_ Aw (by decide)
   refine rk [0,1,2,6,8,9,11,12,13] ?_;refine .sr ?_;refine vk (Aa) ?_;refine vk (Di AS Aw) ?_;refine vk (Di AS Aw) ?_
   obtain ⟨x6,g6,h⟩:=bnd h
   refine vk (LA (oa2 _ _ g6)) ?_;refine ar [0,1,2,6,10,11,12,13] ?_;refine .sr ?_;refine vk (Aa) ?_;refine vk (vbi) ?_;refine rk [0,1,2,6,10,11,12,13,31] ?_
   rcases brc h with ⟨hc,h⟩|⟨hc,h⟩
   ·refine cnf (ntf (dT hc)) ?_
    refine .skip ?_
    show AW _ _ _ _ _ _
    refine .region ?_;refine vk (vbi) ?_;refine vk (Aa) ?_;refine .nil ?_;refine AL.gk [0,1,2,6,11,12,13] ?_
    exact ih (k,s2,(w64 (s3+1))) h (Nat.lt_succ_self _)
   refine cnt (ntt (dF hc)) ?_;refine .sr ?_;refine vk (Aa) ?_;refine ar [0,1,2,6,11,12,13] ?_;refine .ret ?_
   cases h
   exact ⟨rfl,rfl⟩
  refine cnf (dF hc) ?_;refine .gk [0,1,6] ?_;refine .exit ?_
  exact jr (s2) h
 rintro z1 h
 try dsimp only at h ⊢
 subst hK0
 show AW _ _ _ _ _ _
 refine .seq ?_;refine .sr ?_;refine vk (Aa) ?_;refine vk (AU (Ay _) (BQ _) BK) ?_;refine vk (Aa) ?_;refine vk (AU (Ay _) (BQ _) BK) ?_;refine vk (vbi) ?_;refine rk [6,38] ?_
 rcases brc h with ⟨hc,h⟩|⟨hc,h⟩
 ·refine cnt (dT hc) ?_
  refine .sr ?_;refine ar [6] ?_;refine .ret ?_
  cases h
  exact ⟨rfl,rfl⟩
 refine cnf (dF hc) ?_;refine .skip ?_
 show AW _ _ _ _ _ _
 refine .sr ?_;refine ar [6] ?_;refine .ret ?_
 cases h
 exact ⟨rfl,rfl⟩
def IZ (rc_pick_order:Itm→Itm→Option (Int)) (a0:Itm) (a1:Itm) : Option (Int):=(if a0.kind=a1.kind then (if a0.kind=1 then ((IT a0.num a1.num).bind fun x1=>(some (x1))) else (if a0.kind=2 then ((E4 a0.char a1.char).bind fun x2=>(some (x2))) else ((rd? a0.box 0).bind fun x3=>((rd? a1.box 0).bind fun x4=>((Eh ((List.length x3.shape:Nat) : Int) ((List.length x4.shape:Nat) : Int)).bind fun x5=>((Dk x3.shape x4.shape).bind fun x6=>((AN x3.items x4.items (⟨.fn 83 [] [],fun x=>rc_pick_order x.1 x.2⟩ : Dt)).bind fun x7=>((JE ([x5,x6,x7])).bind fun x8=>(some (x8)))))))))) else ((CZ a0.kind a1.kind).bind fun x9=>(some (x9))))
theorem O0 {rc_pick_order:Itm→Itm→Option (Int)} (orc_pick_order:∀ x0 x1 r,rc_pick_order x0 x1=some r→Fn Tryz.prog 83 [.ag [.i .u8 x0.kind,.b x0.num.1,.sl (L x0.num.2.1),.sl (L x0.num.2.2),.i .i32 x0.char,.sl (Ars x0.box)],.ag [.i .u8 x1.kind,.b x1.num.1,.sl (L x1.num.2.1),.sl (L x1.num.2.2),.i .i32 x1.char,.sl (Ars x1.box)]] (.d (.i .i64 r))) {a0:Itm} {a1:Itm} {r:Int} (h:IZ rc_pick_order a0 a1=some r) :
  Fn Tryz.prog 83 [.ag [.i .u8 a0.kind,.b a0.num.1,.sl (L a0.num.2.1),.sl (L a0.num.2.2),.i .i32 a0.char,.sl (Ars a0.box)],.ag [.i .u8 a1.kind,.b a1.num.1,.sl (L a1.num.2.1),.sl (L a1.num.2.2),.i .i32 a1.char,.sl (Ars a1.box)]] (.d (.i .i64 r)):=by
 unfold IZ at h
 refine Fn.o1 4 60 Tryz.func83 ?_;refine .sr ?_;refine vk (vbx) ?_;refine vk (vbx) ?_;refine ar [2,3,4] ?_;refine .seq ?_;refine .sr ?_;refine vk (vfa B7) ?_;refine vk (Am A8) ?_;refine vk (vfa B7) ?_;refine vk (Am A8) ?_;refine vk (vbi) ?_;refine rk [2,3,4,11] ?_
 rcases brc h with ⟨hc,h⟩|⟨hc,h⟩
 ·refine cnf (ntf (dT hc)) ?_
  refine .skip ?_
  show AW _ _ _ _ _ _
  refine .seq ?_;refine .sr ?_;refine vk (vfa B7) ?_;refine vk (Am A8) ?_;refine rk [2,3,4,18] ?_;refine .block ?_;refine .sr ?_;refine vk (vbi) ?_;refine ar [2,3,4,18,19] ?_
  rcases brc h with ⟨hc,h⟩|⟨hc,h⟩
  ·refine cnt (dT hc) ?_
   refine .sr ?_;refine vk (vfa Bo) ?_;refine vk (Aq AP Az) ?_;refine vk (vfa Bo) ?_;refine vk (Aq AP Az) ?_
   obtain ⟨x1,g1,h⟩:=bnd h
   refine vk (Ag (Mx g1) Tryz.call141) ?_;refine ar [2,3,4] ?_;refine .ret ?_
   cases h
   exact ⟨rfl,rfl⟩
  refine cnf (dF hc) ?_;refine .sr ?_;refine vk (vbi) ?_;refine ar [2,3,4,26] ?_
  rcases brc h with ⟨hc,h⟩|⟨hc,h⟩
  ·refine cnt (dT hc) ?_
   refine .sr ?_;refine vk (vfa D7) ?_;refine vk (Am Ee) ?_;refine vk (vfa D7) ?_;refine vk (Am Ee) ?_
   obtain ⟨x2,g2,h⟩:=bnd h
   refine vk (Ag (Jk g2) Tryz.call142) ?_;refine ar [2,3,4] ?_;refine .ret ?_
   cases h
   exact ⟨rfl,rfl⟩
  refine cnf (dF hc) ?_;refine .skip ?_
  show AW _ _ _ _ _ _
  refine .seq ?_
  obtain ⟨x3,g3,h⟩:=bnd h
  obtain ⟨x4,g4,h⟩:=bnd h
  refine .drawnF 10 [4,5,6,7] [(5,.nb [.sl (Is x3.shape),.sl (Its x3.items)])] [] AZ (by kernel_rfl) rfl ?_;refine dv (vfa Bs) ?_;refine dv (Am CI) ?_
  obtain ⟨n3,p03,q3⟩:=Ai g3
  refine dv (vix n3 p03 (DR q3) rfl DQ) ?_;refine dv (Aq Ae Ab) ?_;refine dv (vfa Bs) ?_;refine dv (Am CI) ?_
  obtain ⟨n4,p04,q4⟩:=Ai g4
  refine dv (vix n4 p04 (DR q4) rfl DQ) ?_;refine dv (Aq Ae Ab) ?_;refine dv (van (Ah AI) AK) ?_;refine dv (van (Ah AI) AK) ?_;refine dz ?_
  refine ⟨?_,?_,?_⟩
  ·intro k hk
   simp only [List.mem_cons,List.not_mem_nil,or_false] at hk
   rcases hk with rfl|rfl|rfl|rfl
   ·exact ⟨_,_,_,rfl,rfl,rfl,rfl,rfl,rfl,(vfa Bs)⟩
   ·exact ⟨_,_,_,rfl,rfl,rfl,rfl,rfl,rfl,(Am CI)⟩
   ·exact ⟨_,_,_,rfl,rfl,rfl,rfl,rfl,rfl,(vix n4 p04 (DR q4) rfl DQ)⟩
   ·exact ⟨_,_,_,rfl,rfl,rfl,rfl,rfl,rfl,(Aq Ae Ab)⟩
  ·intro om e hom hge
   cases hom
   exact Gq (cs:=[.sl (Is []),.sl (Its [])]) (cs':=[.sl (Is x3.shape),.sl (Its x3.items)]) Ab (by decide) rfl ((hge 5 (fun k hk v hv=>by
     simp only [List.mem_cons,List.not_mem_nil,or_false] at hk
     rcases hk with rfl|rfl|rfl|rfl
     ·exact (by decide:¬(some 37=some 5)) (congrArg (Option.map Prod.fst) hv)
     ·exact (by decide:¬(some 38=some 5)) (congrArg (Option.map Prod.fst) hv)
     ·exact (by decide:¬(some 39=some 5)) (congrArg (Option.map Prod.fst) hv)
     ·exact (by decide:¬(some 40=some 5)) (congrArg (Option.map Prod.fst) hv))).trans rfl) ((congrArg A9 (hge 36 (fun k hk v hv=>by
     simp only [List.mem_cons,List.not_mem_nil,or_false] at hk
     rcases hk with rfl|rfl|rfl|rfl
     ·exact (by decide:¬(some 37=some 36)) (congrArg (Option.map Prod.fst) hv)
     ·exact (by decide:¬(some 38=some 36)) (congrArg (Option.map Prod.fst) hv)
     ·exact (by decide:¬(some 39=some 36)) (congrArg (Option.map Prod.fst) hv)
     ·exact (by decide:¬(some 40=some 36)) (congrArg (Option.map Prod.fst) hv)))).trans rfl) rfl rfl rfl rfl ⟨rfl,rfl⟩
  refine stn ?_ Ab (by decide)
  refine rk [4,5,6] ?_;refine .seq ?_;refine .gh (Gh.nbp (t:=5) rfl) ?_;refine .gh (Gh.nbp (t:=6) rfl) ?_;refine .drawn 19 AZ (by kernel_rfl) ?_;refine dv (vfa AT) ?_;refine dv (Am Cd) ?_;refine dv (AU (Af _) (CD _) Cg) ?_;refine dv (vfa AT) ?_;refine dv (Am Cd) ?_;refine dv (AU (Af _) (CD _) Cg) ?_
  obtain ⟨x5,g5,h⟩:=bnd h
  refine dv (Ag (Gx g5) Tryz.call144) ?_;refine dv (vfa AT) ?_;refine dv (Am Cd) ?_;refine dv (vfa AT) ?_;refine dv (Am Cd) ?_
  obtain ⟨x6,g6,h⟩:=bnd h
  refine dv (Ag (GD g6) Tryz.call145) ?_;refine dv (vfa A2) ?_;refine dv (Am BM) ?_;refine dv (vfa A2) ?_;refine dv (Am BM) ?_
  obtain ⟨x7,g7,h⟩:=bnd h
  refine dv (Ag (BY (Jj Tryz.call83 (fun _ _ h=>orc_pick_order _ _ _ h)) g7) Tryz.call146) ?_;refine dv ((Ef (DC [x5,x6,x7]) Ds).deep) ?_
  obtain ⟨x8,g8,h⟩:=bnd h
  refine dv (Ag (Nc g8) Tryz.call143) ?_;refine dz ?_;refine ar [4] ?_;refine .ret ?_
  cases h
  exact ⟨rfl,rfl⟩
 refine cnt (ntt (dF hc)) ?_;refine .sr ?_;refine vk (vfa B7) ?_;refine vk (Am A8) ?_;refine vk (vfa B7) ?_;refine vk (Am A8) ?_
 obtain ⟨x9,g9,h⟩:=bnd h
 refine vk (Ag (FR g9) Tryz.call140) ?_;refine ar [2,3,4] ?_;refine .ret ?_
 cases h
 exact ⟨rfl,rfl⟩
def HS : Nat→Itm→Itm→Option (Int)
 | 0,_,_=>none
 | k+1,a0,a1=>IZ (HS k) a0 a1
theorem Jr : ∀ (k:Nat) (a0:Itm) (a1:Itm) (r:Int),HS k a0 a1=some r→Fn Tryz.prog 83 [.ag [.i .u8 a0.kind,.b a0.num.1,.sl (L a0.num.2.1),.sl (L a0.num.2.2),.i .i32 a0.char,.sl (Ars a0.box)],.ag [.i .u8 a1.kind,.b a1.num.1,.sl (L a1.num.2.1),.sl (L a1.num.2.2),.i .i32 a1.char,.sl (Ars a1.box)]] (.d (.i .i64 r))
 | 0,_,_,_,h=>by cases h
 | k+1,a0,a1,_,h=>O0 (Jr k)  (show IZ (HS k) a0 a1=some _ from h)
def Qa (a0:Itm) (a1:Itm) : Option (Int):=HS (a0.size+1) a0 a1
theorem QL {a0:Itm} {a1:Itm} {r:Int} (h:Qa a0 a1=some r) : Fn Tryz.prog 83 [.ag [.i .u8 a0.kind,.b a0.num.1,.sl (L a0.num.2.1),.sl (L a0.num.2.2),.i .i32 a0.char,.sl (Ars a0.box)],.ag [.i .u8 a1.kind,.b a1.num.1,.sl (L a1.num.2.1),.sl (L a1.num.2.2),.i .i32 a1.char,.sl (Ars a1.box)]] (.d (.i .i64 r)):=Jr _ a0 a1 r  h
def Ig (a0:Int) : Option (Itm):=((C4 a0).bind fun x1=>(some ((Itm.mk 1 x1 0 []))))
theorem Ma {a0:Int} {r:Itm} (h:Ig a0=some r) :
  Fn Tryz.prog 101 [.i .i64 a0] (.d (.ag [.i .u8 r.kind,.b r.num.1,.sl (L r.num.2.1),.sl (L r.num.2.2),.i .i32 r.char,.sl (Ars r.box)])):=by
 unfold Ig at h
 refine Fn.ofC (rs:=[.cell 2 51]) (nt:=6) Tryz.func101 rfl rfl rfl (by simp) rfl ?_;refine .sr ?_;refine vk (van (Ah BR) BT) ?_;refine rk [0,2] ?_;refine .sr ?_;refine vk (Aa) ?_
 obtain ⟨x1,g1,h⟩:=bnd h
 refine vk (Ag (Dd g1) Tryz.call37) ?_;refine vk (vbd HG BR BT) ?_
 refine stn ?_ Aw (by decide)
 refine rk [2] ?_;refine .ret ?_
 cases h
 exact ⟨_,⟨.inr rfl,AS,Aw,p6⟩,rfl⟩
def HD (a0:Int) (a1:Int) (c0:Int) (c1:(List Itm)) (c2:(Int×RT×Int)) : Option (Int):=((rd? c1 (w64 (a0-c2.1))).bind fun x1=>((rd? c1 (w64 (a1-c2.1))).bind fun x2=>((Qa x1 x2).bind fun x3=>(some ((w64 (c0 * x3)))))))
theorem LD {a0:Int} {a1:Int} {c0:Int} {c1:(List Itm)} {c2:(Int×RT×Int)} {r:Int} (h:HD a0 a1 c0 c1 c2=some r) :
  Fn Tryz.prog 128 [.i .i64 a0,.i .i64 a1,.ptr [.i .i64 c0],.ptr [.sl (Its c1)],.ptr [.i .i64 c2.1,.b c2.2.1.1,.sl (L c2.2.1.2.1),.sl (L c2.2.1.2.2),.i .i64 c2.2.2]] (.d (.i .i64 r)):=by
 unfold HD at h
 refine Fn.o1 7 25 Tryz.func128 ?_;refine .sr ?_;refine ar [0,1,2,3,4,7] ?_;refine .seq ?_;refine .drawn 17 AZ (by kernel_rfl) ?_;refine dv (Am AJ) ?_;refine dv (Am BM) ?_;refine dv (Aa) ?_;refine dv (vfa FS) ?_;refine dv (Am AJ) ?_;refine dv (vbi) ?_
 obtain ⟨x1,g1,h⟩:=bnd h
 obtain ⟨n1,p01,q1⟩:=Ai g1
 refine dv (vix n1 p01 (Cq q1) rfl Cr) ?_;refine dv (Aq AS Aw) ?_;refine dv (Am BM) ?_;refine dv (Aa) ?_;refine dv (vfa FS) ?_;refine dv (Am AJ) ?_;refine dv (vbi) ?_
 obtain ⟨x2,g2,h⟩:=bnd h
 obtain ⟨n2,p02,q2⟩:=Ai g2
 refine dv (vix n2 p02 (Cq q2) rfl Cr) ?_;refine dv (Aq AS Aw) ?_
 obtain ⟨x3,g3,h⟩:=bnd h
 refine dv (Ag (QL g3) Tryz.call83) ?_;refine dv (vbi) ?_;refine dz ?_;refine ar [7] ?_;refine .ret ?_
 cases h
 exact ⟨rfl,rfl⟩
def Ec (a0:(Int×RT×Int)) (a1:(List Itm)) (K0:(List Int)→Option (Arr)) : Nat→(List Int)→Int→Option (Arr)
 | 0,_,_=>none
 | k+1,s3,s4=>(if s4<((List.length (List.replicate (Int.toNat ((List.length a1:Nat):Int)) (0:Int)):Nat):Int) then ((rd? s3 s4).bind fun x5=>(Ec a0 a1 K0 k (List.set s3 (Int.toNat s4) (w64 (s4+a0.1))) (w64 (s4+1)))) else (K0 s3))
def JG (a0:(Int×RT×Int)) (a1:(List Itm)) (a2:Int) : Option (Arr):=((GC (0≤((List.length a1:Nat) : Int)∧((List.length a1:Nat) : Int)≤17592186044416)).bind fun x1=>(jn (fun (z2:(List Int))=>((O7 z2 (⟨.fn 128 [] [.ptr [.i .i64 a2],.ptr [.sl (Its a1)],.ptr [.i .i64 a0.1,.b a0.2.1.1,.sl (L a0.2.1.2.1),.sl (L a0.2.1.2.2),.i .i64 a0.2.2]],fun x=>HD x.1 x.2 a2 a1 a0⟩ : Al)).bind fun x6=>((GX x6).bind fun x7=>(some (x7))))) fun K0=>(Ec a0 a1 K0 AC (List.replicate (Int.toNat ((List.length a1:Nat) : Int)) (0:Int)) 0)))
theorem Nh {a0:(Int×RT×Int)} {a1:(List Itm)} {a2:Int} {r:Arr} (h:JG a0 a1 a2=some r) :
  Fn Tryz.prog 70 [.ag [.i .i64 a0.1,.b a0.2.1.1,.sl (L a0.2.1.2.1),.sl (L a0.2.1.2.2),.i .i64 a0.2.2],.sl (Its a1),.i .i64 a2] (.d (.ag [.sl (Is r.shape),.sl (Its r.items)])):=by
 unfold JG at h
 refine Fn.ofC (rs:=[.cell 6 27]) (nt:=30) Tryz.func70 rfl rfl rfl (by simp) rfl ?_;refine .sr ?_;refine vk (vbx) ?_;refine vk (XD) ?_;refine vk (XD) ?_;refine vk (van (Ah AI) AK) ?_;refine rk [3,4,5,6] ?_;refine .sr ?_;refine vk (Am BM) ?_;refine vk (AU (Ay _) (BQ _) BK) ?_
 obtain ⟨x1,g1,h⟩:=bnd h
 have ghx1:=HI g1
 refine mk' (F:=Is) (x0:=0) (zl:=((List.length a1:Nat):Int)) (Int.toNat ((List.length a1:Nat):Int)) US (by omega) (by omega) ?_ Ds (by decide)
 refine aso ?_;refine rk [3,4,5,6,7] ?_;refine .seq ?_;refine .sr ?_;refine mvo ?_;refine vk (PI (Af _) Cg) ?_;refine vk (Aa) ?_;refine rk [3,4,5,6,7,13,14] ?_
 obtain ⟨K0,hK0,h⟩:=AE h
 refine AW.mr (σ:=(List Int)) (fun p=>K0 p=some r) (fun p=>[(3,.d (.ptr [.i .i64 a0.1,.b a0.2.1.1,.sl (L a0.2.1.2.1),.sl (L a0.2.1.2.2),.i .i64 a0.2.2])),(4,.d (.ptr [.sl (Its a1)])),(5,.d (.ptr [.i .i64 a2])),(6,.nb [.sl (Is []),.sl (Its [])]),(7,.own 3 (Is p))]) (fun p=>[]) ?_ ?_
 ·skip
  refine .block ?_
  refine .loop (.gk [3,4,5,6,7,13,14] ?_)
  refine AL.ind (σ:=Nat×(List Int)×Int) (m:=fun p=>p.1) (e:=fun p=>[(3,.d (.ptr [.i .i64 a0.1,.b a0.2.1.1,.sl (L a0.2.1.2.1),.sl (L a0.2.1.2.2),.i .i64 a0.2.2])),(4,.d (.ptr [.sl (Its a1)])),(5,.d (.ptr [.i .i64 a2])),(6,.nb [.sl (Is []),.sl (Its [])]),(7,.own 3 (Is p.2.1)),(13,.d (.i .i64 ((List.length (List.replicate (Int.toNat ((List.length a1:Nat):Int)) (0:Int)):Nat):Int))),(14,.d (.i .i64 p.2.2))]) (h:=fun p=>[]) (I:=fun p=>Ec a0 a1 K0 p.1 p.2.1 p.2.2=some r) ?_ (AC,(List.replicate (Int.toNat ((List.length a1:Nat):Int)) (0:Int)),0) h
  rintro ⟨k,s3,s4⟩ h ih
  dsimp only at h ih ⊢
  rcases k with _|k
  ·rw [Ec] at h;cases h
  rw [Ec] at h
  refine .sr ?_;refine vk (vbi) ?_;refine rk [3,4,5,6,7,13,14,15] ?_;refine .seq ?_
  rcases brc h with ⟨hc,h⟩|⟨hc,h⟩
  ·refine cnt (dT hc) ?_
   refine .skip ?_
   show AW _ _ _ _ _ _
   refine .seq ?_;refine .block ?_;refine .sr ?_;refine vk (Aa) ?_;refine ar [3,4,5,6,7,8,13,14] ?_;refine .region ?_;refine mvo ?_;refine vk (Aa) ?_;refine vk (Aa) ?_;refine vk (vfa FS) ?_;refine vk (Am AJ) ?_;refine vk (vbi) ?_
   obtain ⟨x5,g5,h⟩:=bnd h
   obtain ⟨n5,p05,q5⟩:=Ai g5
   refine ixr (off:=0) (len:=(Is s3).length) n5 p05 (by rw [Af];exact (lS.1 q5).1) ?_ Bg (by decide)
   refine SM (F:=Is) (D:=fun x=>.i .i64 x) G0 (us:=s3) (n:=n5) (m:=Int.toNat s4) (x:=(w64 (s4+a0.1))) (by rw [p05];rfl) ⟨_,by rw [Nat.zero_add];exact Bp q5,rfl⟩ ?_ CT
   refine RL.gk [3,4,5,6,7,8,13,14,17,18,19,20,21,22] ?_;refine .nil ?_
   show AW _ _ _ _ _ _
   refine .gk [3,4,5,6,7,13,14] ?_;refine .region ?_;refine vk (vbi) ?_;refine vk (Aa) ?_;refine .nil ?_;refine AL.gk [3,4,5,6,7,13,14] ?_
   exact ih (k,(List.set s3 (Int.toNat s4) (w64 (s4+a0.1))),(w64 (s4+1))) h (Nat.lt_succ_self _)
  refine cnf (dF hc) ?_;refine .gk [3,4,5,6,7] ?_;refine .exit ?_
  exact jr (s3) h
 rintro z2 h
 try dsimp only at h ⊢
 subst hK0
 show AW _ _ _ _ _ _
 refine .sr ?_;refine mvo ?_;refine vk (X8) ?_
 obtain ⟨x6,g6,h⟩:=bnd h
 refine LJ (Is x6) ?_ (QU (Jj Tryz.call128 (fun _ _ h=>LD h)) g6) Tryz.call127
 refine RL.gk [3,4,5,6,7,26,27] ?_;refine rk [6,7] ?_;refine .sr ?_;refine fz (p:=.t 7) ?_;refine vk (Aa) ?_
 obtain ⟨x7,g7,h⟩:=bnd h
 refine vk (Ag (F9 g7) Tryz.call15) ?_
 refine stn ?_ Ab (by decide)
 refine rk [6] ?_;refine .ret ?_
 cases h
 exact ⟨_,⟨.inr rfl,Ae,Ab,p2⟩,rfl⟩
def CP (a0:(Int×RT×Int)) (x6:Int×Bool) (K0:(List Int)→Option (Arr×Int)) : Nat→(List Int)→Int→Option (Arr×Int)
 | 0,_,_=>none
 | k+1,s9,s10=>(if s10<((List.length (List.replicate (Int.toNat x6.1) (0:Int)):Nat):Int) then ((rd? s9 s10).bind fun x11=>(CP a0 x6 K0 k (List.set s9 (Int.toNat s10) (w64 (s10+a0.1))) (w64 (s10+1)))) else (K0 s9))
def Hl (a0:(Int×RT×Int)) (a1:Arr) : Option (Arr×Int):=((Cl a1.shape).bind fun x1=>(if 1<((List.length a1.shape:Nat) : Int) then (some ((Arr.mk [] []),4)) else (if x1.1=1 then ((rd? a1.items 0).bind fun x2=>(Option.bind ((if x2.kind=1 then ((E7 x2.num).bind fun x4=>(if x4=true then ((FF x2.num).bind fun x5=>(some (decide (x5<0)))) else (some true))) else (some true)) : Option (Bool)) fun (z3:Bool)=>(if z3=true then (some ((Arr.mk [] []),3)) else ((FE x2.num).bind fun x6=>(if ((!x6.2)||(decide (4096<x6.1)))=true then (some ((Arr.mk [] []),8)) else ((GC (0≤x6.1∧x6.1≤17592186044416)).bind fun x7=>(jn (fun (z8:(List Int))=>((GX z8).bind fun x12=>(some (x12,0)))) fun K0=>(CP a0 x6 K0 AC (List.replicate (Int.toNat x6.1) (0:Int)) 0)))))))) else (some ((Arr.mk [] []),5)))))
theorem OZ {a0:(Int×RT×Int)} {a1:Arr} {r:Arr×Int} (h:Hl a0 a1=some r) :
  Fn Tryz.prog 71 [.ag [.i .i64 a0.1,.b a0.2.1.1,.sl (L a0.2.1.2.1),.sl (L a0.2.1.2.2),.i .i64 a0.2.2],.ag [.sl (Is a1.shape),.sl (Its a1.items)]] (.tup [.d (.ag [.sl (Is r.1.shape),.sl (Its r.1.items)]),.d (.i .i64 r.2)]):=by
 unfold Hl at h
 refine Fn.ofC (rs:=[.cell 4 27,.tmp 5]) (nt:=78) Tryz.func71 rfl rfl rfl (by simp) rfl ?_;refine .sr ?_;refine vk (vbx) ?_;refine vk (vbx) ?_;refine vk (van (Ah AI) AK) ?_;refine ar [2,3,4,5] ?_;refine .sr ?_;refine vk (vfa AT) ?_;refine vk (Am Cd) ?_
 obtain ⟨x1,g1,h⟩:=bnd h
 refine vk (VOK.tupd (vs:=[.i .i64 x1.1,.i .i64 x1.2]) (Ag (Dx g1) Tryz.call56)) ?_;refine vk (Aa) ?_;refine vk (vex) ?_;refine vk (vex) ?_;refine asd ?_;refine ar [2,3,4,5,6] ?_;refine .seq ?_;refine .block ?_;refine .sr ?_;refine vk (vfa AT) ?_;refine vk (Am Cd) ?_;refine vk (AU (Af _) (CD _) Cg) ?_;refine vk (vbi) ?_;refine ar [2,3,4,5,6,18] ?_
 rcases brc h with ⟨hc,h⟩|⟨hc,h⟩
 ·refine cnt (dT hc) ?_
  refine .sr ?_;refine vk (vbd BL AI AK) ?_
  refine stn ?_ Ab (by decide)
  refine ar [2,3,4,5] ?_;refine .ret ?_
  cases h
  exact ⟨_,_,⟨.inr rfl,Ae,Ab,p2⟩,rfl,rfl⟩
 refine cnf (dF hc) ?_;refine .sr ?_;refine vk (Aa) ?_;refine vk (vbi) ?_;refine ar [2,3,4,5,24] ?_
 rcases brc h with ⟨hc,h⟩|⟨hc,h⟩
 ·refine cnf (ntf (dT hc)) ?_
  refine .skip ?_
  show AW _ _ _ _ _ _
  refine .sr ?_;refine vk (vfa A2) ?_;refine vk (Am BM) ?_
  obtain ⟨x2,g2,h⟩:=bnd h
  obtain ⟨n2,p02,q2⟩:=Ai g2
  refine vk (vix n2 p02 (Cq q2) rfl Cr) ?_;refine vk (Aq AS Aw) ?_;refine vk (van (Ah BR) BT) ?_
  refine stn ?_ Aw (by decide)
  refine rk [2,4,5,8] ?_;refine .seq ?_;refine .seq ?_;refine .gh (Gh.nbp (t:=8) rfl) ?_
  obtain ⟨z3,hz,h⟩:=bnd h
  refine AW.mr (σ:=Unit) (fun _=>True) (fun _=>[(2,.d (.ptr [.i .i64 a0.1,.b a0.2.1.1,.sl (L a0.2.1.2.1),.sl (L a0.2.1.2.2),.i .i64 a0.2.2])),(4,.nb [.sl (Is []),.sl (Its [])]),(5,.d (.i .i64 0)),(8,.d (.ptr [.i .u8 x2.kind,.b x2.num.1,.sl (L x2.num.2.1),.sl (L x2.num.2.2),.i .i32 x2.char,.sl (Ars x2.box)])),(46,.d (.b z3))]) (fun _=>[]) ?_ ?_
  ·skip
   refine .region ?_;refine vk (vfa B7) ?_;refine vk (Am A8) ?_;refine vk (vbi) ?_
   rcases brc hz with ⟨hc,hz⟩|⟨hc,hz⟩
   ·have hb0:(!(decide (x2.kind=1)))=false:=(ntf (dT hc))
    refine vk (VOK.lit (Aa) hb0) ?_;refine vk (vfa Bo) ?_;refine vk (Aq AP Az) ?_
    obtain ⟨x4,g4,hz⟩:=bnd hz
    refine vk (Ag (Hz g4) Tryz.call129) ?_;refine vk (vnt) ?_;refine vk (Ao) ?_
    rcases brc hz with ⟨hc,hz⟩|⟨hc,hz⟩
    ·have hb1:(!x4)=false:=(ntf hc)
     refine vk (VOK.lit (Aa) hb1) ?_;refine vk (vfa Bo) ?_;refine vk (Aq AP Az) ?_
     obtain ⟨x5,g5,hz⟩:=bnd hz
     refine vk (Ag (GF g5) Tryz.call130) ?_;refine vk (vbi) ?_;refine vk (Ao) ?_;refine RL.gk [2,4,5,8,46] ?_;refine .nil ?_
     cases hz
     exact jr () trivial
    have hb1:(!x4)=true:=(ntt (bf hc))
    refine vk (VOK.lit (Aa) hb1) ?_;refine gf ?_;refine gf ?_;refine gf ?_;refine gf ?_;refine vk (Ao) ?_;refine RL.gk [2,4,5,8,46] ?_;refine .nil ?_
    cases hz
    exact jr () trivial
   have hb0:(!(decide (x2.kind=1)))=true:=(ntt (dF hc))
   refine vk (VOK.lit (Aa) hb0) ?_;refine gf ?_;refine gf ?_;refine gf ?_;refine gf ?_;refine vk (Ao) ?_;refine vk (Aa) ?_;refine gf ?_;refine gf ?_;refine gf ?_;refine gf ?_;refine vk (Ao) ?_;refine RL.gk [2,4,5,8,46] ?_;refine .nil ?_
   cases hz
   exact jr () trivial
  rintro _ _
  rcases brc h with ⟨hc,h⟩|⟨hc,h⟩
  ·refine cnt hc ?_
   refine .sr ?_;refine vk (vbd BL AI AK) ?_
   refine stn ?_ Ab (by decide)
   refine ar [2,4,5,8] ?_;refine .ret ?_
   cases h
   exact ⟨_,_,⟨.inr rfl,Ae,Ab,p2⟩,rfl,rfl⟩
  refine cnf (bf hc) ?_;refine .skip ?_
  show AW _ _ _ _ _ _
  refine .sr ?_;refine vk (vfa Bo) ?_;refine vk (Aq AP Az) ?_
  obtain ⟨x6,g6,h⟩:=bnd h
  refine vk (VOK.tupd (vs:=[.i .i64 x6.1,.b x6.2]) (Ag (Lp g6) Tryz.call79)) ?_;refine vk (Aa) ?_;refine vk (vex) ?_;refine vk (vex) ?_;refine asd ?_;refine ar [2,4,5,6,9] ?_;refine .seq ?_;refine .seq ?_;refine AW.mr (σ:=Unit) (fun _=>True) (fun _=>[(2,.d (.ptr [.i .i64 a0.1,.b a0.2.1.1,.sl (L a0.2.1.2.1),.sl (L a0.2.1.2.2),.i .i64 a0.2.2])),(4,.nb [.sl (Is []),.sl (Its [])]),(5,.d (.i .i64 0)),(6,.d (.i .i64 x6.1)),(59,.d (.b ((!x6.2)||(decide (4096<x6.1)))))]) (fun _=>[]) ?_ ?_
  ·skip
   refine .region ?_;refine vk (Aa) ?_;refine vk (vnt) ?_
   by_cases hc:x6.2=true
   ·have hb0:(!x6.2)=false:=(ntf hc)
    refine vk (VOK.lit (Aa) hb0) ?_;refine vk (Aa) ?_;refine vk (vbi) ?_;refine vk (Ao) ?_;refine RL.gk [2,4,5,6,59] ?_;refine .nil ?_
    exact jr () trivial (by simp only [hb0];rfl)
   have hb0:(!x6.2)=true:=(ntt (bf hc))
   refine vk (VOK.lit (Aa) hb0) ?_;refine gf ?_;refine gf ?_;refine vk (Ao) ?_;refine RL.gk [2,4,5,6,59] ?_;refine .nil ?_
   exact jr () trivial (by simp only [hb0];rfl)
  rintro _ _
  rcases brc h with ⟨hc,h⟩|⟨hc,h⟩
  ·refine cnt hc ?_
   refine .sr ?_;refine vk (vbd BL AI AK) ?_
   refine stn ?_ Ab (by decide)
   refine ar [2,4,5,6] ?_;refine .ret ?_
   cases h
   exact ⟨_,_,⟨.inr rfl,Ae,Ab,p2⟩,rfl,rfl⟩
  refine cnf (bf hc) ?_;refine .skip ?_
  show AW _ _ _ _ _ _
  refine .sr ?_;refine vk (Aa) ?_
  obtain ⟨x7,g7,h⟩:=bnd h
  have ghx7:=HI g7
  refine mk' (F:=Is) (x0:=0) (zl:=x6.1) (Int.toNat x6.1) US (by omega) (by omega) ?_ Ds (by decide)
  refine aso ?_;refine rk [2,4,5,10] ?_;refine .seq ?_;refine .sr ?_;refine mvo ?_;refine vk (PI (Af _) Cg) ?_;refine vk (Aa) ?_;refine rk [2,4,5,10,64,65] ?_
  obtain ⟨K0,hK0,h⟩:=AE h
  refine AW.mr (σ:=(List Int)) (fun p=>K0 p=some r) (fun p=>[(4,.nb [.sl (Is []),.sl (Its [])]),(5,.d (.i .i64 0)),(10,.own 3 (Is p))]) (fun p=>[]) ?_ ?_
  ·skip
   refine .block ?_
   refine .loop (.gk [2,4,5,10,64,65] ?_)
   refine AL.ind (σ:=Nat×(List Int)×Int) (m:=fun p=>p.1) (e:=fun p=>[(2,.d (.ptr [.i .i64 a0.1,.b a0.2.1.1,.sl (L a0.2.1.2.1),.sl (L a0.2.1.2.2),.i .i64 a0.2.2])),(4,.nb [.sl (Is []),.sl (Its [])]),(5,.d (.i .i64 0)),(10,.own 3 (Is p.2.1)),(64,.d (.i .i64 ((List.length (List.replicate (Int.toNat x6.1) (0:Int)):Nat):Int))),(65,.d (.i .i64 p.2.2))]) (h:=fun p=>[]) (I:=fun p=>CP a0 x6 K0 p.1 p.2.1 p.2.2=some r) ?_ (AC,(List.replicate (Int.toNat x6.1) (0:Int)),0) h
   rintro ⟨k,s9,s10⟩ h ih
   dsimp only at h ih ⊢
   rcases k with _|k
   ·rw [CP] at h;cases h
   rw [CP] at h
   refine .sr ?_;refine vk (vbi) ?_;refine rk [2,4,5,10,64,65,66] ?_;refine .seq ?_
   rcases brc h with ⟨hc,h⟩|⟨hc,h⟩
   ·refine cnt (dT hc) ?_
    refine .skip ?_
    show AW _ _ _ _ _ _
    refine .seq ?_;refine .block ?_;refine .sr ?_;refine vk (Aa) ?_;refine ar [2,4,5,10,11,64,65] ?_;refine .region ?_;refine mvo ?_;refine vk (Aa) ?_;refine vk (Aa) ?_;refine vk (vfa FS) ?_;refine vk (Am AJ) ?_;refine vk (vbi) ?_
    obtain ⟨x11,g11,h⟩:=bnd h
    obtain ⟨n11,p011,q11⟩:=Ai g11
    refine ixr (off:=0) (len:=(Is s9).length) n11 p011 (by rw [Af];exact (lS.1 q11).1) ?_ Bg (by decide)
    refine SM (F:=Is) (D:=fun x=>.i .i64 x) G0 (us:=s9) (n:=n11) (m:=Int.toNat s10) (x:=(w64 (s10+a0.1))) (by rw [p011];rfl) ⟨_,by rw [Nat.zero_add];exact Bp q11,rfl⟩ ?_ CT
    refine RL.gk [2,4,5,10,11,64,65,68,69,70,71,72,73] ?_;refine .nil ?_
    show AW _ _ _ _ _ _
    refine .gk [2,4,5,10,64,65] ?_;refine .region ?_;refine vk (vbi) ?_;refine vk (Aa) ?_;refine .nil ?_;refine AL.gk [2,4,5,10,64,65] ?_
    exact ih (k,(List.set s9 (Int.toNat s10) (w64 (s10+a0.1))),(w64 (s10+1))) h (Nat.lt_succ_self _)
   refine cnf (dF hc) ?_;refine .gk [4,5,10] ?_;refine .exit ?_
   exact jr (s9) h
  rintro z8 h
  try dsimp only at h ⊢
  subst hK0
  show AW _ _ _ _ _ _
  refine .sr ?_;refine fz (p:=.t 10) ?_;refine vk (Aa) ?_
  obtain ⟨x12,g12,h⟩:=bnd h
  refine vk (Ag (F9 g12) Tryz.call15) ?_
  refine stn ?_ Ab (by decide)
  refine ar [4,5] ?_;refine .ret ?_
  cases h
  exact ⟨_,_,⟨.inr rfl,Ae,Ab,p2⟩,rfl,rfl⟩
 refine cnt (ntt (dF hc)) ?_;refine .sr ?_;refine vk (vbd BL AI AK) ?_
 refine stn ?_ Ab (by decide)
 refine ar [2,3,4,5] ?_;refine .ret ?_
 cases h
 exact ⟨_,_,⟨.inr rfl,Ae,Ab,p2⟩,rfl,rfl⟩
def Dg (a0:Arr) : Option (Bool):=((Bd a0).bind fun x1=>(some ((!x1))))
theorem H8 {a0:Arr} {r:Bool} (h:Dg a0=some r) :
  Fn Tryz.prog 96 [.ag [.sl (Is a0.shape),.sl (Its a0.items)]] (.d (.b r)):=by
 unfold Dg at h
 refine Fn.o1 2 6 Tryz.func96 ?_;refine .sr ?_;refine vk (vbx) ?_;refine ar [1,2] ?_;refine .sr ?_;refine vk (Aq Ae Ab) ?_
 obtain ⟨x1,g1,h⟩:=bnd h
 refine vk (Ag (B6 g1) Tryz.call54) ?_;refine vk (vnt) ?_;refine ar [2] ?_;refine .ret ?_
 cases h
 exact ⟨rfl,rfl⟩
def DM (a0:(Int×RT×Int)) (a1:(List Arr)) : Option (Bool):=(Option.bind ((if a0.1=0 then ((AD a1 (⟨.fn 96 [] [],fun x=>Dg x⟩ : BG)).bind fun x2=>(some (!x2))) else (if a0.1=1 then ((AD a1 (⟨.fn 96 [] [],fun x=>Dg x⟩ : BG)).bind fun x3=>(some (!x3))) else (some false))) : Option (Bool)) fun (z1:Bool)=>(some (z1)))
theorem GW {a0:(Int×RT×Int)} {a1:(List Arr)} {r:Bool} (h:DM a0 a1=some r) :
  Fn Tryz.prog 39 [.ag [.i .i64 a0.1,.b a0.2.1.1,.sl (L a0.2.1.2.1),.sl (L a0.2.1.2.2),.i .i64 a0.2.2],.sl (Ars a1)] (.d (.b r)):=by
 unfold DM at h
 refine Fn.o1 4 18 Tryz.func39 ?_;refine .sr ?_;refine vk (vbx) ?_;refine ar [1,2,4] ?_;refine .seq ?_
 obtain ⟨z1,hz,h⟩:=bnd h
 refine AW.mr (σ:=Unit) (fun _=>True) (fun _=>[(4,.d (.b z1))]) (fun _=>[]) ?_ ?_
 ·skip
  refine .region ?_;refine vk (vfa FS) ?_;refine vk (Am AJ) ?_;refine vk (vbi) ?_
  rcases brc hz with ⟨hc,hz⟩|⟨hc,hz⟩
  ·have hb0:(decide (a0.1=0))=true:=(dT hc)
   refine vk (VOK.lit (Aa) hb0) ?_;refine gf ?_;refine gf ?_;refine gf ?_;refine vk (Ao) ?_;refine vk (Aa) ?_;refine vk (Aa) ?_
   obtain ⟨x2,g2,hz⟩:=bnd hz
   refine vk (Ag (BC (Jj Tryz.call96 (fun _ _ h=>H8 h)) g2) Tryz.call95) ?_;refine vk (vnt) ?_;refine vk (Ao) ?_;refine asd ?_;refine RL.gk [4] ?_;refine .nil ?_
   cases hz
   exact jr () trivial
  have hb0:(decide (a0.1=0))=false:=(dF hc)
  refine vk (VOK.lit (Aa) hb0) ?_;refine vk (vfa FS) ?_;refine vk (Am AJ) ?_;refine vk (vbi) ?_;refine vk (Ao) ?_
  rcases brc hz with ⟨hc,hz⟩|⟨hc,hz⟩
  ·have hb1:(decide (a0.1=1))=true:=(dT hc)
   refine vk (VOK.lit (Aa) hb1) ?_;refine vk (Aa) ?_
   obtain ⟨x3,g3,hz⟩:=bnd hz
   refine vk (Ag (BC (Jj Tryz.call96 (fun _ _ h=>H8 h)) g3) Tryz.call95) ?_;refine vk (vnt) ?_;refine vk (Ao) ?_;refine asd ?_;refine RL.gk [4] ?_;refine .nil ?_
   cases hz
   exact jr () trivial
  have hb1:(decide (a0.1=1))=false:=(dF hc)
  refine vk (VOK.lit (Aa) hb1) ?_;refine gf ?_;refine gf ?_;refine gf ?_;refine vk (Ao) ?_;refine asd ?_;refine RL.gk [4] ?_;refine .nil ?_
  cases hz
  exact jr () trivial
 rintro _ _
 refine .ret ?_
 cases h
 exact ⟨rfl,rfl⟩
def EY (a0:Itm) : Option (Bool):=(Option.bind ((if a0.kind=1 then ((E7 a0.num).bind fun x2=>(some (!x2))) else (some true)) : Option (Bool)) fun (z1:Bool)=>(some (z1)))
theorem Lz {a0:Itm} {r:Bool} (h:EY a0=some r) :
  Fn Tryz.prog 182 [.ag [.i .u8 a0.kind,.b a0.num.1,.sl (L a0.num.2.1),.sl (L a0.num.2.2),.i .i32 a0.char,.sl (Ars a0.box)]] (.d (.b r)):=by
 unfold EY at h
 refine Fn.o1 2 12 Tryz.func182 ?_;refine .sr ?_;refine vk (vbx) ?_;refine ar [1,2] ?_;refine .seq ?_
 obtain ⟨z1,hz,h⟩:=bnd h
 refine AW.mr (σ:=Unit) (fun _=>True) (fun _=>[(2,.d (.b z1))]) (fun _=>[]) ?_ ?_
 ·skip
  refine .region ?_;refine vk (vfa B7) ?_;refine vk (Am A8) ?_;refine vk (vbi) ?_
  rcases brc hz with ⟨hc,hz⟩|⟨hc,hz⟩
  ·have hb0:(!(decide (a0.kind=1)))=false:=(ntf (dT hc))
   refine vk (VOK.lit (Aa) hb0) ?_;refine vk (vfa Bo) ?_;refine vk (Aq AP Az) ?_
   obtain ⟨x2,g2,hz⟩:=bnd hz
   refine vk (Ag (Hz g2) Tryz.call129) ?_;refine vk (vnt) ?_;refine vk (Ao) ?_;refine asd ?_;refine RL.gk [2] ?_;refine .nil ?_
   cases hz
   exact jr () trivial
  have hb0:(!(decide (a0.kind=1)))=true:=(ntt (dF hc))
  refine vk (VOK.lit (Aa) hb0) ?_;refine gf ?_;refine gf ?_;refine gf ?_;refine gf ?_;refine vk (Ao) ?_;refine asd ?_;refine RL.gk [2] ?_;refine .nil ?_
  cases hz
  exact jr () trivial
 rintro _ _
 refine .ret ?_
 cases h
 exact ⟨rfl,rfl⟩
def CY (a0:(Int×RT×Int)) (a2:Int) (x1:(List Itm)) (K0:(List Int)→Int→(List Int)→Option ((List Int)×Int)) : Nat→(List Int)→Int→(List Int)→Int→Option ((List Int)×Int)
 | 0,_,_,_,_=>none
 | k+1,s6,s7,s8,s9=>(if s9<((List.length x1:Nat):Int) then ((rd? x1 s9).bind fun x10=>((FE x10.num).bind fun x11=>(if ((!x11.2)||((decide (x11.1<a0.1))||(decide (a2≤(w64 (x11.1-a0.1))))))=true then (some ([],6)) else ((ap? 17592186044416 s8 [(w64 (x11.1-a0.1))]).bind fun x12=>(CY a0 a2 x1 K0 k s6 s7 x12 (w64 (s9+1))))))) else (K0 s6 s7 s8))
def E8 (a0:(Int×RT×Int)) (a1:Arr) (a2:Int) : Option ((List Int)×Int):=((B9 a1).bind fun x1=>((AG x1 (⟨.fn 182 [] [],fun x=>EY x⟩ : BX)).bind fun x2=>(if x2=true then (some ([],3)) else (jn (fun (z3:(List Int)) (z4:Int) (z5:(List Int))=>(some (z5,0))) fun K0=>(CY a0 a2 x1 K0 AC [] 0 [] 0)))))
theorem Nu {a0:(Int×RT×Int)} {a1:Arr} {a2:Int} {r:(List Int)×Int} (h:E8 a0 a1 a2=some r) :
  Fn Tryz.prog 133 [.ag [.i .i64 a0.1,.b a0.2.1.1,.sl (L a0.2.1.2.1),.sl (L a0.2.1.2.2),.i .i64 a0.2.2],.ag [.sl (Is a1.shape),.sl (Its a1.items)],.i .i64 a2] (.tup [.d (.sl (Is r.1)),.d (.i .i64 r.2)]):=by
 unfold E8 at h
 refine Fn.of (rs:=[.tmp 6,.tmp 7]) (nt:=55) Tryz.func133 rfl rfl rfl (by simp) rfl ?_;refine .sr ?_;refine vk (vbx) ?_;refine vk (vbx) ?_;refine asn ?_;refine ar [2,3,4,6,7] ?_;refine .sr ?_;refine vk (Aq Ae Ab) ?_
 obtain ⟨x1,g1,h⟩:=bnd h
 refine vk (Ag (Gr g1) Tryz.call46) ?_;refine ar [2,3,6,7,8] ?_;refine .seq ?_;refine .sr ?_;refine vk (Aa) ?_
 obtain ⟨x2,g2,h⟩:=bnd h
 refine vk (Ag (BO (Jj Tryz.call182 (fun _ _ h=>Lz h)) g2) Tryz.call57) ?_;refine rk [2,3,6,7,8,17] ?_
 rcases brc h with ⟨hc,h⟩|⟨hc,h⟩
 ·refine cnt hc ?_
  refine .sr ?_;refine asn ?_;refine ar [2,3,6,7,8] ?_;refine .gh (Gh.nlD (t:=6) rfl) ?_;refine .ret ?_
  cases h
  exact ⟨by decide,rfl,rfl,rfl⟩
 refine cnf (bf hc) ?_;refine .skip ?_
 show AW _ _ _ _ _ _
 refine .sr ?_;refine asn ?_;refine rk [2,3,6,7,8,9] ?_;refine .seq ?_;refine .sr ?_;refine vk (Aa) ?_;refine vk (AU (Ay _) (BQ _) BK) ?_;refine vk (Aa) ?_;refine rk [2,3,6,7,9,18,19,20] ?_
 obtain ⟨K0,hK0,h⟩:=AE h
 refine AW.mr (σ:=(List Int)×Int×(List Int)) (fun p=>K0 p.1 p.2.1 p.2.2=some r) (fun p=>[(6,.d (.sl (Is p.1))),(7,.d (.i .i64 p.2.1)),(9,.own 3 (Is p.2.2))]) (fun p=>[]) ?_ ?_
 ·skip
  refine .block ?_;refine .gh (Gh.nlD (t:=6) rfl) ?_;refine .gh (Gh.nlOwn (t:=9) 3 (by rw [CT];decide) rfl) ?_
  refine .loop (.gk [2,3,6,7,9,18,19,20] ?_)
  refine AL.ind (σ:=Nat×(List Int)×Int×(List Int)×Int) (m:=fun p=>p.1) (e:=fun p=>[(2,.d (.i .i64 a2)),(3,.d (.ptr [.i .i64 a0.1,.b a0.2.1.1,.sl (L a0.2.1.2.1),.sl (L a0.2.1.2.2),.i .i64 a0.2.2])),(6,.d (.sl (Is p.2.1))),(7,.d (.i .i64 p.2.2.1)),(9,.own 3 (Is p.2.2.2.1)),(18,.d (.sl (Its x1))),(19,.d (.i .i64 ((List.length x1:Nat):Int))),(20,.d (.i .i64 p.2.2.2.2))]) (h:=fun p=>[]) (I:=fun p=>CY a0 a2 x1 K0 p.1 p.2.1 p.2.2.1 p.2.2.2.1 p.2.2.2.2=some r) ?_ (AC,[],0,[],0) h
  rintro ⟨k,s6,s7,s8,s9⟩ h ih
  dsimp only at h ih ⊢
  rcases k with _|k
  ·rw [CY] at h;cases h
  rw [CY] at h
  refine .sr ?_;refine vk (vbi) ?_;refine rk [2,3,6,7,9,18,19,20,21] ?_;refine .seq ?_
  rcases brc h with ⟨hc,h⟩|⟨hc,h⟩
  ·refine cnt (dT hc) ?_
   refine .skip ?_
   show AW _ _ _ _ _ _
   refine .seq ?_;refine .block ?_;refine .sr ?_
   obtain ⟨x10,g10,h⟩:=bnd h
   obtain ⟨n10,p010,q10⟩:=Ai g10
   refine vk (vix n10 p010 (Cq q10) rfl Cr) ?_;refine vk (Aq AS Aw) ?_;refine vk (van (Ah BR) BT) ?_
   refine stn ?_ Aw (by decide)
   refine rk [2,3,6,7,9,11,18,19,20] ?_;refine .seq ?_;refine .gh (Gh.nbp (t:=11) rfl) ?_;refine .region ?_;refine vk (vfa Bo) ?_;refine vk (Aq AP Az) ?_
   obtain ⟨x11,g11,h⟩:=bnd h
   refine vk (VOK.tupd (vs:=[.i .i64 x11.1,.b x11.2]) (Ag (Lp g11) Tryz.call79)) ?_;refine vk (Aa) ?_;refine vk (vex) ?_;refine vk (vex) ?_;refine asd ?_;refine ar [2,3,6,7,9,12,13,18,19,20] ?_;refine .seq ?_;refine .seq ?_;refine AW.mr (σ:=Unit) (fun _=>True) (fun _=>[(2,.d (.i .i64 a2)),(3,.d (.ptr [.i .i64 a0.1,.b a0.2.1.1,.sl (L a0.2.1.2.1),.sl (L a0.2.1.2.2),.i .i64 a0.2.2])),(6,.d (.sl (Is s6))),(7,.d (.i .i64 s7)),(9,.own 3 (Is s8)),(12,.d (.i .i64 x11.1)),(18,.d (.sl (Its x1))),(19,.d (.i .i64 ((List.length x1:Nat):Int))),(20,.d (.i .i64 s9)),(45,.d (.b ((!x11.2)||((decide (x11.1<a0.1))||(decide (a2≤(w64 (x11.1-a0.1))))))))]) (fun _=>[]) ?_ ?_
   ·skip
    refine .region ?_;refine vk (Aa) ?_;refine vk (vnt) ?_
    by_cases hc:x11.2=true
    ·have hb0:(!x11.2)=false:=(ntf hc)
     refine vk (VOK.lit (Aa) hb0) ?_;refine vk (Aa) ?_;refine vk (vfa FS) ?_;refine vk (Am AJ) ?_;refine vk (vbi) ?_;refine vk (Ao) ?_
     by_cases hc:x11.1<a0.1
     ·have hb1:(decide (x11.1<a0.1))=true:=(dT hc)
      refine vk (VOK.lit (Aa) hb1) ?_;refine gf ?_;refine gf ?_;refine gf ?_;refine gf ?_;refine gf ?_;refine gf ?_;refine vk (Ao) ?_;refine RL.gk [2,3,6,7,9,12,18,19,20,45] ?_;refine .nil ?_
      exact jr () trivial (by simp only [hb0,hb1];rfl)
     have hb1:(decide (x11.1<a0.1))=false:=(dF hc)
     refine vk (VOK.lit (Aa) hb1) ?_;refine vk (Aa) ?_;refine vk (vfa FS) ?_;refine vk (Am AJ) ?_;refine vk (vbi) ?_;refine vk (Aa) ?_;refine vk (vbi) ?_;refine vk (Ao) ?_;refine RL.gk [2,3,6,7,9,12,18,19,20,45] ?_;refine .nil ?_
     exact jr () trivial (by simp only [hb0,hb1];rfl)
    have hb0:(!x11.2)=true:=(ntt (bf hc))
    refine vk (VOK.lit (Aa) hb0) ?_;refine gf ?_;refine gf ?_;refine gf ?_;refine gf ?_;refine vk (Ao) ?_;refine vk (Aa) ?_;refine gf ?_;refine gf ?_;refine gf ?_;refine gf ?_;refine gf ?_;refine gf ?_;refine vk (Ao) ?_;refine RL.gk [2,3,6,7,9,12,18,19,20,45] ?_;refine .nil ?_
    exact jr () trivial (by simp only [hb0];rfl)
   rintro _ _
   rcases brc h with ⟨hc,h⟩|⟨hc,h⟩
   ·refine cnt hc ?_
    refine .sr ?_;refine asn ?_;refine ar [2,3,6,7,9,12,18,19,20] ?_;refine .gh (Gh.nlD (t:=6) rfl) ?_;refine .ret ?_
    cases h
    exact ⟨by decide,rfl,rfl,rfl⟩
   refine cnf (bf hc) ?_;refine .skip ?_
   show AW _ _ _ _ _ _
   refine .region ?_;refine mvo ?_;refine vk (Aa) ?_;refine vk (vfa FS) ?_;refine vk (Am AJ) ?_;refine vk (vbi) ?_;refine vk ((Ef (DC [(w64 (x11.1-a0.1))]) Ds).deep) ?_
   obtain ⟨x12,g12,h⟩:=bnd h
   refine Ly Iq g12 Lv ?_ HE Af Ds
   refine aso ?_;refine .nil ?_
   show AW _ _ _ _ _ _
   refine .gk [2,3,6,7,9,18,19,20] ?_;refine .region ?_;refine vk (vbi) ?_;refine vk (Aa) ?_;refine .nil ?_;refine AL.gk [2,3,6,7,9,18,19,20] ?_
   exact ih (k,s6,s7,x12,(w64 (s9+1))) h (Nat.lt_succ_self _)
  refine cnf (dF hc) ?_;refine .gk [6,7,9] ?_;refine .exit ?_
  exact jr (s6,s7,s8) h
 rintro ⟨z3,z4,z5⟩ h
 try dsimp only at h ⊢
 subst hK0
 show AW _ _ _ _ _ _
 refine .sr ?_;refine fz (p:=.t 9) ?_;refine vk (Aa) ?_;refine asd ?_;refine ar [6,7] ?_;refine .ret ?_
 cases h
 exact ⟨by decide,rfl,rfl,rfl⟩
def E1 (a0:(List Arr)) : Option (Bool):=(Option.bind ((if 1<((List.length a0:Nat) : Int) then (some true) else (if ((List.length a0:Nat) : Int)=1 then ((rd? a0 0).bind fun x2=>((Bd x2).bind fun x3=>(some (!x3)))) else (some false))) : Option (Bool)) fun (z1:Bool)=>(some (z1)))
theorem LI {a0:(List Arr)} {r:Bool} (h:E1 a0=some r) :
  Fn Tryz.prog 132 [.sl (Ars a0)] (.d (.b r)):=by
 unfold E1 at h
 refine Fn.o1 2 18 Tryz.func132 ?_;refine .sr ?_;refine ar [0,2] ?_;refine .seq ?_
 obtain ⟨z1,hz,h⟩:=bnd h
 refine AW.mr (σ:=Unit) (fun _=>True) (fun _=>[(2,.d (.b z1))]) (fun _=>[]) ?_ ?_
 ·skip
  refine .region ?_;refine vk (Aa) ?_;refine vk (AU (Bl _) (En _) Ek) ?_;refine vk (vbi) ?_
  rcases brc hz with ⟨hc,hz⟩|⟨hc,hz⟩
  ·have hb0:(decide (1<((List.length a0:Nat):Int)))=true:=(dT hc)
   refine vk (VOK.lit (Aa) hb0) ?_;refine gf ?_;refine gf ?_;refine gf ?_;refine gfu ?_;refine gf ?_;refine gf ?_;refine gf ?_;refine gf ?_;refine gf ?_;refine gf ?_;refine vk (Ao) ?_;refine asd ?_;refine RL.gk [2] ?_;refine .nil ?_
   cases hz
   exact jr () trivial
  have hb0:(decide (1<((List.length a0:Nat):Int)))=false:=(dF hc)
  refine vk (VOK.lit (Aa) hb0) ?_;refine vk (Aa) ?_;refine vk (AU (Bl _) (En _) Ek) ?_;refine vk (vbi) ?_
  rcases brc hz with ⟨hc,hz⟩|⟨hc,hz⟩
  ·have hb1:(decide (((List.length a0:Nat):Int)=1))=true:=(dT hc)
   refine vk (VOK.lit (Aa) hb1) ?_;refine vk (Aa) ?_
   obtain ⟨x2,g2,hz⟩:=bnd hz
   obtain ⟨n2,p02,q2⟩:=Ai g2
   refine vk (vix n2 p02 (DR q2) rfl DQ) ?_;refine vk (Aq Ae Ab) ?_
   obtain ⟨x3,g3,hz⟩:=bnd hz
   refine vk (Ag (B6 g3) Tryz.call54) ?_;refine vk (vnt) ?_;refine vk (Ao) ?_;refine vk (Ao) ?_;refine asd ?_;refine RL.gk [2] ?_;refine .nil ?_
   cases hz
   exact jr () trivial
  have hb1:(decide (((List.length a0:Nat):Int)=1))=false:=(dF hc)
  refine vk (VOK.lit (Aa) hb1) ?_;refine gf ?_;refine gf ?_;refine gf ?_;refine gf ?_;refine gf ?_;refine vk (Ao) ?_;refine vk (Ao) ?_;refine asd ?_;refine RL.gk [2] ?_;refine .nil ?_
  cases hz
  exact jr () trivial
 rintro _ _
 refine .ret ?_
 cases h
 exact ⟨rfl,rfl⟩
def CW (a0:(List (List Arr))) (a1:Cs) (K0:Int→Option (Int)) : Nat→Int→Int→Option (Int)
 | 0,_,_=>none
 | k+1,s2,s3=>(if s3<((List.length a0:Nat):Int) then ((rd? a0 s3).bind fun x4=>((a1.g x4).bind fun x5=>(if x5=true then (some (s3)) else (CW a0 a1 K0 k s2 (w64 (s3+1)))))) else (K0 s2))
def HW (a0:(List (List Arr))) (a1:Cs) : Option (Int):=(jn (fun (z1:Int)=>(some ((-1)))) fun K0=>(CW a0 a1 K0 AC 0 0))
theorem Nd {a0:(List (List Arr))} {a1:Cs} (oa1:Ko a1) {r:Int} (h:HW a0 a1=some r) :
  Fn Tryz.prog 181 [.sl (HC a0),a1.dv] (.d (.i .i64 r)):=by
 unfold HW at h
 refine Fn.o1 4 19 Tryz.func181 ?_;refine .sr ?_;refine ar [0,1,4] ?_;refine .seq ?_;refine .sr ?_;refine vk (Aa) ?_;refine vk (AU (IG _) (OG _) OR) ?_;refine vk (Aa) ?_;refine rk [0,1,4,7,8] ?_
 obtain ⟨K0,hK0,h⟩:=AE h
 refine AW.mr (σ:=Int) (fun p=>K0 p=some r) (fun p=>[(4,.d (.i .i64 p))]) (fun p=>[]) ?_ ?_
 ·skip
  refine .block ?_
  refine .loop (.gk [0,1,4,7,8] ?_)
  refine AL.ind (σ:=Nat×Int×Int) (m:=fun p=>p.1) (e:=fun p=>[(0,.d (.sl (HC a0))),(1,.d (a1.dv)),(4,.d (.i .i64 p.2.1)),(7,.d (.i .i64 ((List.length a0:Nat):Int))),(8,.d (.i .i64 p.2.2))]) (h:=fun p=>[]) (I:=fun p=>CW a0 a1 K0 p.1 p.2.1 p.2.2=some r) ?_ (AC,0,0) h
  rintro ⟨k,s2,s3⟩ h ih
  dsimp only at h ih ⊢
  rcases k with _|k
  ·rw [CW] at h;cases h
  rw [CW] at h
  refine .sr ?_;refine vk (vbi) ?_;refine rk [0,1,4,7,8,9] ?_;refine .seq ?_
  rcases brc h with ⟨hc,h⟩|⟨hc,h⟩
  ·refine cnt (dT hc) ?_
   refine .skip ?_
   show AW _ _ _ _ _ _
   refine .seq ?_;refine .block ?_;refine .sr ?_;refine vk (Aa) ?_;refine ar [0,1,4,5,7,8] ?_;refine .sr ?_;refine vk (Aa) ?_;refine vk (Aa) ?_;refine vk (Aa) ?_
   obtain ⟨x4,g4,h⟩:=bnd h
   obtain ⟨n4,p04,q4⟩:=Ai g4
   refine vk (vix n4 p04 (SE q4) rfl R5) ?_;refine vk (Am CI) ?_
   obtain ⟨x5,g5,h⟩:=bnd h
   refine vk (LA (oa1 _ _ g5)) ?_;refine rk [0,1,4,5,7,8,16] ?_
   rcases brc h with ⟨hc,h⟩|⟨hc,h⟩
   ·refine cnt hc ?_
    refine .sr ?_;refine vk (Aa) ?_;refine ar [0,1,4,7,8] ?_;refine .ret ?_
    cases h
    exact ⟨rfl,rfl⟩
   refine cnf (bf hc) ?_;refine .skip ?_
   show AW _ _ _ _ _ _
   refine .region ?_;refine vk (vbi) ?_;refine vk (Aa) ?_;refine .nil ?_;refine AL.gk [0,1,4,7,8] ?_
   exact ih (k,s2,(w64 (s3+1))) h (Nat.lt_succ_self _)
  refine cnf (dF hc) ?_;refine .gk [4] ?_;refine .exit ?_
  exact jr (s2) h
 rintro z1 h
 try dsimp only at h ⊢
 subst hK0
 show AW _ _ _ _ _ _
 refine .sr ?_;refine ar [4] ?_;refine .ret ?_
 cases h
 exact ⟨rfl,rfl⟩
def Ed (a0:(List (List Arr))) (a1:Cs) : Option (Bool):=((HW a0 a1).bind fun x1=>(some ((decide (0≤x1)))))
theorem KI {a0:(List (List Arr))} {a1:Cs} (oa1:Ko a1) {r:Bool} (h:Ed a0 a1=some r) :
  Fn Tryz.prog 131 [.sl (HC a0),a1.dv] (.d (.b r)):=by
 unfold Ed at h
 refine Fn.o1 4 9 Tryz.func131 ?_;refine .sr ?_;refine ar [0,1,4] ?_;refine .sr ?_;refine vk (Aa) ?_;refine vk (Aa) ?_
 obtain ⟨x1,g1,h⟩:=bnd h
 refine vk (Ag (Nd oa1 g1) Tryz.call181) ?_;refine vk (vbi) ?_;refine ar [4] ?_;refine .ret ?_
 cases h
 exact ⟨rfl,rfl⟩
def CS (x14:Int) (K4:(List Int)→Option ((List Int)×(List Int)×Int)) : Nat→(List Int)→Int→Option ((List Int)×(List Int)×Int)
 | 0,_,_=>none
 | k+1,s17,s18=>(if s18<x14 then ((ap? 17592186044416 s17 [s18]).bind fun x19=>(CS x14 K4 k x19 (w64 (s18+1)))) else (K4 s17))
def BZ (a0:(Int×RT×Int)) (a1:Arr) (a2:(List (List Arr))) (K0:(List Int)→(List Int)→Int→(List (List Int))→Option ((List Int)×(List Int)×Int)) : Nat→(List Int)→(List Int)→Int→(List (List Int))→Int→Option ((List Int)×(List Int)×Int)
 | 0,_,_,_,_,_=>none
 | k+1,s6,s7,s8,s9,s10=>(if s10<((List.length a2:Nat):Int) then (jn (fun (z11:(List Int)) (z12:(List (List Int)))=>(BZ a0 a1 a2 K0 k s6 z11 s8 z12 (w64 (s10+1)))) fun K2=>((rd? a2 s10).bind fun x13=>((rd? a1.shape s10).bind fun x14=>(jn (((rd? x13 0).bind fun x21=>((E8 a0 x21 x14).bind fun x22=>(if x22.2=0 then ((rd? x13 0).bind fun x23=>((ap? 17592186044416 s7 x23.shape).bind fun x24=>((ap? 5864062014805 s9 [x22.1]).bind fun x25=>(K2 x24 x25)))) else (some ([],[],x22.2)))))) fun K3=>(if ((List.length x13:Nat):Int)=0 then ((ap? 17592186044416 s7 [x14]).bind fun x15=>(jn (fun (z16:(List Int))=>((ap? 5864062014805 s9 [z16]).bind fun x20=>(K2 x15 x20))) fun K4=>(CS x14 K4 AC [] 0))) else (K3)))))) else (K0 s6 s7 s8 s9))
def CB (a1:Arr) (x36:Int) (s29:Int) (x31:(List Int)) (K11:(List Int)→Option ((List Int)×(List Int)×Int)) : Nat→(List Int)→Int→Option ((List Int)×(List Int)×Int)
 | 0,_,_=>none
 | k+1,s37,s38=>(if s38<((List.length x31:Nat):Int) then ((rd? x31 s38).bind fun x39=>((rd? a1.shape s29).bind fun x40=>((ap? 17592186044416 s37 [(w64 ((w64 (x36 * x40))+x39))]).bind fun x41=>(CB a1 x36 s29 x31 K11 k x41 (w64 (s38+1)))))) else (K11 s37))
def BH (a1:Arr) (s28:(List Int)) (K9:(List Int)→Option ((List Int)×(List Int)×Int)) (s29:Int) (x31:(List Int)) : Nat→(List Int)→Int→Option ((List Int)×(List Int)×Int)
 | 0,_,_=>none
 | k+1,s33,s34=>(if s34<((List.length s28:Nat):Int) then (jn (fun (z35:(List Int))=>(BH a1 s28 K9 s29 x31 k z35 (w64 (s34+1)))) fun K11=>((rd? s28 s34).bind fun x36=>(CB a1 x36 s29 x31 K11 AC s33 0))) else (K9 s33))
def B3 (a1:Arr) (z5:(List (List Int))) (K6:(List Int)→Option ((List Int)×(List Int)×Int)) : Nat→(List Int)→Int→Option ((List Int)×(List Int)×Int)
 | 0,_,_=>none
 | k+1,s28,s29=>(if s29<((List.length z5:Nat):Int) then (jn (fun (z30:(List Int))=>(B3 a1 z5 K6 k z30 (w64 (s29+1)))) fun K8=>((rd? z5 s29).bind fun x31=>(jn (fun (z32:(List Int))=>(K8 z32)) fun K9=>(BH a1 s28 K9 s29 x31 AC [] 0)))) else (K6 s28))
def DH (a0:(Int×RT×Int)) (a1:Arr) (a2:(List (List Arr))) : Option ((List Int)×(List Int)×Int):=((Ed a2 (⟨.fn 132 [] [],fun x=>E1 x⟩ : Cs)).bind fun x1=>(if x1=true then (some ([],[],22)) else (if ((List.length a2:Nat) : Int)=((List.length a1.shape:Nat) : Int) then (jn (fun (z2:(List Int)) (z3:(List Int)) (z4:Int) (z5:(List (List Int)))=>((Cl z3).bind fun x26=>(if x26.2=0 then (if x26.1=0 then (some ([],z3,0)) else (jn (fun (z27:(List Int))=>(some (z27,z3,0))) fun K6=>(B3 a1 z5 K6 AC ([0]) 0))) else (some ([],[],x26.2))))) fun K0=>(BZ a0 a1 a2 K0 AC [] [] 0 [] 0)) else (some ([],[],4)))))
set_option maxHeartbeats 4000000 in
theorem Nr {a0:(Int×RT×Int)} {a1:Arr} {a2:(List (List Arr))} {r:(List Int)×(List Int)×Int} (h:DH a0 a1 a2=some r) :
  Fn Tryz.prog 72 [.ag [.i .i64 a0.1,.b a0.2.1.1,.sl (L a0.2.1.2.1),.sl (L a0.2.1.2.2),.i .i64 a0.2.2],.ag [.sl (Is a1.shape),.sl (Its a1.items)],.sl (HC a2)] (.tup [.d (.sl (Is r.1)),.d (.sl (Is r.2.1)),.d (.i .i64 r.2.2)]):=by
 unfold DH at h
 refine Fn.of (rs:=[.tmp 6,.tmp 7,.tmp 8]) (nt:=137) Tryz.func72 rfl rfl rfl (by simp) rfl ?_;refine .sr ?_;refine vk (vbx) ?_;refine vk (vbx) ?_;refine asn ?_;refine asn ?_;refine ar [2,3,4,6,7,8] ?_;refine .seq ?_;refine .sr ?_;refine vk (Aa) ?_
 obtain ⟨x1,g1,h⟩:=bnd h
 refine vk (Ag (KI (Jj Tryz.call132 (fun _ _ h=>LI h)) g1) Tryz.call131) ?_;refine rk [2,3,4,6,7,8,26] ?_
 rcases brc h with ⟨hc,h⟩|⟨hc,h⟩
 ·refine cnt hc ?_
  refine .sr ?_;refine asn ?_;refine asn ?_;refine ar [2,3,4,6,7,8] ?_;refine .gh (Gh.nlD (t:=6) rfl) ?_;refine .gh (Gh.nlD (t:=7) rfl) ?_;refine .ret ?_
  cases h
  exact ⟨⟨by decide,by decide,by decide⟩,rfl,rfl,rfl,rfl⟩
 refine cnf (bf hc) ?_;refine .skip ?_
 show AW _ _ _ _ _ _
 refine .seq ?_;refine .sr ?_;refine vk (Aa) ?_;refine vk (AU (IG _) (OG _) OR) ?_;refine vk (vfa AT) ?_;refine vk (Am Cd) ?_;refine vk (AU (Af _) (CD _) Cg) ?_;refine vk (vbi) ?_;refine rk [2,3,4,6,7,8,32] ?_
 rcases brc h with ⟨hc,h⟩|⟨hc,h⟩
 ·refine cnf (ntf (dT hc)) ?_
  refine .skip ?_
  show AW _ _ _ _ _ _
  refine .sr ?_;refine asn ?_;refine rk [2,3,4,6,7,8,9] ?_;refine .seq ?_;refine .sr ?_;refine vk (Aa) ?_;refine vk (AU (IG _) (OG _) OR) ?_;refine vk (Aa) ?_;refine rk [3,4,6,7,8,9,33,34,35] ?_
  obtain ⟨K0,hK0,h⟩:=AE h
  refine AW.mr (σ:=(List Int)×(List Int)×Int×(List (List Int))) (fun p=>K0 p.1 p.2.1 p.2.2.1 p.2.2.2=some r) (fun p=>[(4,.d (.ptr [.sl (Is a1.shape),.sl (Its a1.items)])),(6,.d (.sl (Is p.1))),(7,.own 3 (Is p.2.1)),(8,.d (.i .i64 p.2.2.1)),(9,.own 24 (IsS p.2.2.2))]) (fun p=>[]) ?_ ?_
  ·skip
   refine .block ?_;refine .gh (Gh.nlD (t:=6) rfl) ?_;refine .gh (Gh.nlOwn (t:=7) 3 (by rw [CT];decide) rfl) ?_;refine .gh (Gh.nlOwn (t:=9) 24 (by rw [X2];decide) rfl) ?_
   refine .loop (.gk [3,4,6,7,8,9,33,34,35] ?_)
   refine AL.ind (σ:=Nat×(List Int)×(List Int)×Int×(List (List Int))×Int) (m:=fun p=>p.1) (e:=fun p=>[(3,.d (.ptr [.i .i64 a0.1,.b a0.2.1.1,.sl (L a0.2.1.2.1),.sl (L a0.2.1.2.2),.i .i64 a0.2.2])),(4,.d (.ptr [.sl (Is a1.shape),.sl (Its a1.items)])),(6,.d (.sl (Is p.2.1))),(7,.own 3 (Is p.2.2.1)),(8,.d (.i .i64 p.2.2.2.1)),(9,.own 24 (IsS p.2.2.2.2.1)),(33,.d (.sl (HC a2))),(34,.d (.i .i64 ((List.length a2:Nat):Int))),(35,.d (.i .i64 p.2.2.2.2.2))]) (h:=fun p=>[]) (I:=fun p=>BZ a0 a1 a2 K0 p.1 p.2.1 p.2.2.1 p.2.2.2.1 p.2.2.2.2.1 p.2.2.2.2.2=some r) ?_ (AC,[],[],0,[],0) h
   rintro ⟨k,s6,s7,s8,s9,s10⟩ h ih
   dsimp only at h ih ⊢
   rcases k with _|k
   ·rw [BZ] at h;cases h
   rw [BZ] at h
   refine .sr ?_;refine vk (vbi) ?_;refine rk [3,4,6,7,8,9,33,34,35,36] ?_;refine .seq ?_
   rcases brc h with ⟨hc,h⟩|⟨hc,h⟩
   ·refine cnt (dT hc) ?_
    refine .skip ?_
    show AW _ _ _ _ _ _
    obtain ⟨K2,hK2,h⟩:=AE h
    refine AW.mj (σ:=(List Int)×(List (List Int))) (fun p=>K2 p.1 p.2=some r) (fun p=>[(3,.d (.ptr [.i .i64 a0.1,.b a0.2.1.1,.sl (L a0.2.1.2.1),.sl (L a0.2.1.2.2),.i .i64 a0.2.2])),(4,.d (.ptr [.sl (Is a1.shape),.sl (Its a1.items)])),(6,.d (.sl (Is s6))),(7,.own 3 (Is p.1)),(8,.d (.i .i64 s8)),(9,.own 24 (IsS p.2)),(33,.d (.sl (HC a2))),(34,.d (.i .i64 ((List.length a2:Nat):Int))),(35,.d (.i .i64 s10))]) (fun p=>[]) ?_ ?_
    ·skip
     refine .block ?_;refine .sr ?_;refine vk (Aa) ?_
     obtain ⟨x13,g13,h⟩:=bnd h
     obtain ⟨n13,p013,q13⟩:=Ai g13
     refine vk (vix n13 p013 (SE q13) rfl R5) ?_;refine vk (Am CI) ?_;refine asd ?_;refine ar [3,4,6,7,8,9,10,11,33,34,35] ?_;refine .sr ?_;refine vk (vfa AT) ?_;refine vk (Am Cd) ?_;refine vk (Aa) ?_
     obtain ⟨x14,g14,h⟩:=bnd h
     obtain ⟨n14,p014,q14⟩:=Ai g14
     refine vk (vix n14 p014 (Bp q14) rfl Bg) ?_;refine vk (Am AJ) ?_;refine ar [3,4,6,7,8,9,11,12,33,34,35] ?_;refine .seq ?_;refine .sr ?_;refine vk (Aa) ?_;refine vk (AU (Bl _) (En _) Ek) ?_;refine vk (vbi) ?_;refine rk [3,4,6,7,8,9,11,12,33,34,35,47] ?_
     obtain ⟨K3,hK3,h⟩:=AE h
     refine AW.mr (σ:=Unit) (fun p=>K3=some r) (fun p=>[(3,.d (.ptr [.i .i64 a0.1,.b a0.2.1.1,.sl (L a0.2.1.2.1),.sl (L a0.2.1.2.2),.i .i64 a0.2.2])),(4,.d (.ptr [.sl (Is a1.shape),.sl (Its a1.items)])),(6,.d (.sl (Is s6))),(7,.own 3 (Is s7)),(8,.d (.i .i64 s8)),(9,.own 24 (IsS s9)),(11,.d (.sl (Ars x13))),(12,.d (.i .i64 x14)),(33,.d (.sl (HC a2))),(34,.d (.i .i64 ((List.length a2:Nat):Int))),(35,.d (.i .i64 s10))]) (fun p=>[]) ?_ ?_
     ·skip
      rcases brc h with ⟨hc,h⟩|⟨hc,h⟩
      ·refine cnt (dT hc) ?_
       refine .sr ?_;refine mvo ?_;refine vk (Aa) ?_;refine vk ((Ef (DC [x14]) Ds).deep) ?_
       obtain ⟨x15,g15,h⟩:=bnd h
       refine Ly Iq g15 Lv ?_ HE Af Ds
       refine aso ?_;refine rk [3,4,6,7,8,9,11,12,33,34,35] ?_;refine .sr ?_;refine asn ?_;refine rk [3,4,6,7,8,9,11,12,13,33,34,35] ?_;refine .seq ?_;refine .sr ?_;refine vk (Aa) ?_;refine vk (Aa) ?_;refine rk [3,4,6,7,8,9,11,12,13,33,34,35,52,53] ?_
       obtain ⟨K4,hK4,h⟩:=AE h
       refine AW.mr (σ:=(List Int)) (fun p=>K4 p=some r) (fun p=>[(3,.d (.ptr [.i .i64 a0.1,.b a0.2.1.1,.sl (L a0.2.1.2.1),.sl (L a0.2.1.2.2),.i .i64 a0.2.2])),(4,.d (.ptr [.sl (Is a1.shape),.sl (Its a1.items)])),(6,.d (.sl (Is s6))),(7,.own 3 (Is x15)),(8,.d (.i .i64 s8)),(9,.own 24 (IsS s9)),(11,.d (.sl (Ars x13))),(12,.d (.i .i64 x14)),(13,.own 3 (Is p)),(33,.d (.sl (HC a2))),(34,.d (.i .i64 ((List.length a2:Nat):Int))),(35,.d (.i .i64 s10))]) (fun p=>[]) ?_ ?_
       ·skip
        refine .block ?_;refine .gh (Gh.nlOwn (t:=13) 3 (by rw [CT];decide) rfl) ?_
        refine .loop (.gk [3,4,6,7,8,9,11,12,13,33,34,35,52,53] ?_)
        refine AL.ind (σ:=Nat×(List Int)×Int) (m:=fun p=>p.1) (e:=fun p=>[(3,.d (.ptr [.i .i64 a0.1,.b a0.2.1.1,.sl (L a0.2.1.2.1),.sl (L a0.2.1.2.2),.i .i64 a0.2.2])),(4,.d (.ptr [.sl (Is a1.shape),.sl (Its a1.items)])),(6,.d (.sl (Is s6))),(7,.own 3 (Is x15)),(8,.d (.i .i64 s8)),(9,.own 24 (IsS s9)),(11,.d (.sl (Ars x13))),(12,.d (.i .i64 x14)),(13,.own 3 (Is p.2.1)),(33,.d (.sl (HC a2))),(34,.d (.i .i64 ((List.length a2:Nat):Int))),(35,.d (.i .i64 s10)),(52,.d (.i .i64 x14)),(53,.d (.i .i64 p.2.2))]) (h:=fun p=>[]) (I:=fun p=>CS x14 K4 p.1 p.2.1 p.2.2=some r) ?_ (AC,[],0) h
        rintro ⟨k,s17,s18⟩ h ih
        dsimp only at h ih ⊢
        rcases k with _|k
        ·rw [CS] at h;cases h
        rw [CS] at h
        refine .sr ?_;refine vk (vbi) ?_;refine rk [3,4,6,7,8,9,11,12,13,33,34,35,52,53,54] ?_;refine .seq ?_
        rcases brc h with ⟨hc,h⟩|⟨hc,h⟩
        ·refine cnt (dT hc) ?_
         refine .skip ?_
         show AW _ _ _ _ _ _
         refine .seq ?_;refine .block ?_;refine .sr ?_;refine vk (Aa) ?_;refine ar [3,4,6,7,8,9,11,12,13,14,33,34,35,52,53] ?_;refine .region ?_;refine mvo ?_;refine vk (Aa) ?_;refine vk ((Ef (DC [s18]) Ds).deep) ?_
         obtain ⟨x19,g19,h⟩:=bnd h
         refine Ly Iq g19 Lv ?_ HE Af Ds
         refine aso ?_;refine .nil ?_
         show AW _ _ _ _ _ _
         refine .gk [3,4,6,7,8,9,11,12,13,33,34,35,52,53] ?_;refine .region ?_;refine vk (vbi) ?_;refine vk (Aa) ?_;refine .nil ?_;refine AL.gk [3,4,6,7,8,9,11,12,13,33,34,35,52,53] ?_
         exact ih (k,x19,(w64 (s18+1))) h (Nat.lt_succ_self _)
        refine cnf (dF hc) ?_;refine .gk [3,4,6,7,8,9,11,12,13,33,34,35] ?_;refine .exit ?_
        exact jr (s17) h
       rintro z16 h
       try dsimp only at h ⊢
       subst hK4
       show AW _ _ _ _ _ _
       refine .sr ?_;refine mvo ?_;refine fz (p:=.t 13) ?_;refine vk (Aa) ?_;refine vk ((Ef (MX [z16]) Mk).deep) ?_
       obtain ⟨x20,g20,h⟩:=bnd h
       refine Ly RW g20 Ve ?_ O6 Ge Mk
       refine aso ?_;refine rk [3,4,6,7,8,9,11,12,33,34,35] ?_;refine .gk [3,4,6,7,8,9,33,34,35] ?_;refine .exit ?_
       exact jr (x15,x20) h
      refine cnf (dF hc) ?_;refine .gk [3,4,6,7,8,9,11,12,33,34,35] ?_;refine .skip ?_
      exact jr () h
     rintro _ h
     subst hK3
     show AW _ _ _ _ _ _
     refine .seq ?_
     obtain ⟨x21,g21,h⟩:=bnd h
     obtain ⟨x22,g22,h⟩:=bnd h
     refine .drawnF 9 [8] [(15,.d (.sl (Is x22.1)))] [] AZ (by kernel_rfl) rfl ?_;refine dv (Aq IN H7) ?_;refine dv (Aa) ?_
     obtain ⟨n21,p021,q21⟩:=Ai g21
     refine dv (vix n21 p021 (DR q21) rfl DQ) ?_;refine dv (Aq Ae Ab) ?_;refine dv (Aa) ?_;refine dv (VOK.tupd (vs:=[.sl (Is x22.1),.i .i64 x22.2]) (Ag (Nu g22) Tryz.call133)) ?_;refine dv (Aa) ?_;refine dv (vex) ?_;refine dv (vex) ?_;refine dz ?_
     refine ⟨?_,?_,?_⟩
     ·intro k hk
      simp only [List.mem_cons,List.not_mem_nil,or_false] at hk
      subst hk
      exact ⟨_,_,_,rfl,rfl,rfl,rfl,rfl,rfl,vex⟩
     ·intro om e hom hge
      cases hom
      exact Vd rfl ((hge 72 (fun k hk v hv=>by
        simp only [List.mem_cons,List.not_mem_nil,or_false] at hk
        subst hk;exact (by decide:¬(some 73=some 72)) (congrArg (Option.map Prod.fst) hv))).trans rfl) rfl ((congrArg An (hge 15 (fun k hk v hv=>by
        simp only [List.mem_cons,List.not_mem_nil,or_false] at hk
        subst hk;exact (by decide:¬(some 73=some 15)) (congrArg (Option.map Prod.fst) hv)))).trans rfl) rfl ⟨rfl,rfl⟩
     refine ar [3,4,6,7,8,9,11,15,16,33,34,35] ?_;refine .seq ?_;refine .sr ?_;refine vk (Aa) ?_;refine vk (vbi) ?_;refine rk [3,4,6,7,8,9,11,15,16,33,34,35,75] ?_
     rcases brc h with ⟨hc,h⟩|⟨hc,h⟩
     ·refine cnf (ntf (dT hc)) ?_
      refine .skip ?_
      show AW _ _ _ _ _ _
      refine .sr ?_;refine mvo ?_;refine vk (Aa) ?_
      obtain ⟨x23,g23,h⟩:=bnd h
      obtain ⟨n23,p023,q23⟩:=Ai g23
      refine vk (vix n23 p023 (DR q23) rfl DQ) ?_;refine vk (vfa AT) ?_;refine vk (Am Cd) ?_
      obtain ⟨x24,g24,h⟩:=bnd h
      refine Ly Iq g24 Lv ?_ HE Af Ds
      refine aso ?_;refine rk [3,4,6,7,8,9,15,33,34,35] ?_;refine .region ?_;refine mvo ?_;refine vk (Aa) ?_;refine vk ((Ef (MX [x22.1]) Mk).deep) ?_
      obtain ⟨x25,g25,h⟩:=bnd h
      refine Ly RW g25 Ve ?_ O6 Ge Mk
      refine aso ?_;refine RL.gk [3,4,6,7,8,9,33,34,35] ?_;refine .nil ?_
      exact jr (x24,x25) h
     refine cnt (ntt (dF hc)) ?_;refine .sr ?_;refine vk (Aa) ?_;refine asn ?_;refine RL.gk [3,4,6,8,9,11,15,16,33,34,35,75,76] ?_;refine asn ?_;refine ar [3,4,6,7,8,9,11,15,33,34,35] ?_;refine .gh (Gh.nlD (t:=6) rfl) ?_;refine .gh (Gh.nlD (t:=7) rfl) ?_;refine .ret ?_
     cases h
     exact ⟨⟨by decide,by decide,by decide⟩,rfl,rfl,rfl,rfl⟩
    rintro ⟨z11,z12⟩ h
    try dsimp only at h ⊢
    subst hK2
    refine .region ?_;refine vk (vbi) ?_;refine vk (Aa) ?_;refine .nil ?_;refine AL.gk [3,4,6,7,8,9,33,34,35] ?_
    exact ih (k,s6,z11,s8,z12,(w64 (s10+1))) h (Nat.lt_succ_self _)
   refine cnf (dF hc) ?_;refine .gk [4,6,7,8,9] ?_;refine .exit ?_
   exact jr (s6,s7,s8,s9) h
  rintro ⟨z2,z3,z4,z5⟩ h
  try dsimp only at h ⊢
  subst hK0
  show AW _ _ _ _ _ _
  refine .sr ?_;refine fz (p:=.t 7) ?_;refine vk (Aa) ?_
  obtain ⟨x26,g26,h⟩:=bnd h
  refine vk (VOK.tupd (vs:=[.i .i64 x26.1,.i .i64 x26.2]) (Ag (Dx g26) Tryz.call56)) ?_;refine vk (Aa) ?_;refine vk (vex) ?_;refine vk (vex) ?_;refine asd ?_;refine ar [4,6,7,8,9,17] ?_;refine .seq ?_;refine .sr ?_;refine vk (Aa) ?_;refine vk (vbi) ?_;refine rk [4,6,7,8,9,17,94] ?_
  rcases brc h with ⟨hc,h⟩|⟨hc,h⟩
  ·refine cnf (ntf (dT hc)) ?_
   refine .skip ?_
   show AW _ _ _ _ _ _
   refine .seq ?_;refine .sr ?_;refine vk (Aa) ?_;refine vk (vbi) ?_;refine rk [4,6,7,8,9,97] ?_
   rcases brc h with ⟨hc,h⟩|⟨hc,h⟩
   ·refine cnt (dT hc) ?_
    refine .sr ?_;refine vk (Aa) ?_;refine asn ?_;refine asd ?_;refine ar [4,6,7,8,9] ?_;refine .gh (Gh.nlD (t:=6) rfl) ?_;refine .ret ?_
    cases h
    exact ⟨⟨by decide,by decide,by decide⟩,rfl,rfl,rfl,rfl⟩
   refine cnf (dF hc) ?_;refine .skip ?_
   show AW _ _ _ _ _ _
   refine .sr ?_;refine vk ((Ef (DC [0]) Ds).deep) ?_;refine ar [4,6,7,8,9] ?_;refine .seq ?_;refine .sr ?_;refine mvo ?_;refine vk (PI (Ge _) QZ) ?_;refine vk (Aa) ?_;refine rk [4,6,7,8,9,100,101,102] ?_
   obtain ⟨K6,hK6,h⟩:=AE h
   refine AW.mr (σ:=(List Int)) (fun p=>K6 p=some r) (fun p=>[(6,.d (.sl (Is p))),(7,.d (.sl (Is z3))),(8,.d (.i .i64 x26.2))]) (fun p=>[]) ?_ ?_
   ·skip
    refine .block ?_;refine .gh (Gh.swap (s:=9) (t:=100) rfl rfl rfl) ?_;refine .gh (Gh.frz (p:=.t 100) rfl (by (intro _ _ h;cases h<;>decide))) ?_
    refine .loop (.gk [4,6,7,8,100,101,102] ?_)
    refine AL.ind (σ:=Nat×(List Int)×Int) (m:=fun p=>p.1) (e:=fun p=>[(4,.d (.ptr [.sl (Is a1.shape),.sl (Its a1.items)])),(6,.d (.sl (Is p.2.1))),(7,.d (.sl (Is z3))),(8,.d (.i .i64 x26.2)),(100,.d (.sl (IsS z5))),(101,.d (.i .i64 ((List.length z5:Nat):Int))),(102,.d (.i .i64 p.2.2))]) (h:=fun p=>[]) (I:=fun p=>B3 a1 z5 K6 p.1 p.2.1 p.2.2=some r) ?_ (AC,[0],0) h
    rintro ⟨k,s28,s29⟩ h ih
    dsimp only at h ih ⊢
    rcases k with _|k
    ·rw [B3] at h;cases h
    rw [B3] at h
    refine .sr ?_;refine vk (vbi) ?_;refine rk [4,6,7,8,100,101,102,103] ?_;refine .seq ?_
    rcases brc h with ⟨hc,h⟩|⟨hc,h⟩
    ·refine cnt (dT hc) ?_
     refine .skip ?_
     show AW _ _ _ _ _ _
     obtain ⟨K8,hK8,h⟩:=AE h
     refine AW.mj (σ:=(List Int)) (fun p=>K8 p=some r) (fun p=>[(4,.d (.ptr [.sl (Is a1.shape),.sl (Its a1.items)])),(6,.d (.sl (Is p))),(7,.d (.sl (Is z3))),(8,.d (.i .i64 x26.2)),(100,.d (.sl (IsS z5))),(101,.d (.i .i64 ((List.length z5:Nat):Int))),(102,.d (.i .i64 s29))]) (fun p=>[]) ?_ ?_
     ·skip
      refine .block ?_;refine .sr ?_;refine vk (Aa) ?_
      obtain ⟨x31,g31,h⟩:=bnd h
      obtain ⟨n31,p031,q31⟩:=Ai g31
      refine vk (vix n31 p031 (Rc q31) rfl RD) ?_;refine vk (Am Cd) ?_;refine asd ?_;refine ar [4,6,7,8,18,19,100,101,102] ?_;refine .sr ?_;refine asn ?_;refine rk [4,6,7,8,18,19,20,100,101,102] ?_;refine .seq ?_;refine .sr ?_;refine vk (Aa) ?_;refine vk (AU (Af _) (CD _) Cg) ?_;refine vk (Aa) ?_;refine rk [4,7,8,18,19,20,100,101,102,107,108,109] ?_
      obtain ⟨K9,hK9,h⟩:=AE h
      refine AW.mr (σ:=(List Int)) (fun p=>K9 p=some r) (fun p=>[(4,.d (.ptr [.sl (Is a1.shape),.sl (Its a1.items)])),(7,.d (.sl (Is z3))),(8,.d (.i .i64 x26.2)),(20,.own 3 (Is p)),(100,.d (.sl (IsS z5))),(101,.d (.i .i64 ((List.length z5:Nat):Int))),(102,.d (.i .i64 s29))]) (fun p=>[]) ?_ ?_
      ·skip
       refine .block ?_;refine .gh (Gh.nlOwn (t:=20) 3 (by rw [CT];decide) rfl) ?_
       refine .loop (.gk [4,7,8,18,19,20,100,101,102,107,108,109] ?_)
       refine AL.ind (σ:=Nat×(List Int)×Int) (m:=fun p=>p.1) (e:=fun p=>[(4,.d (.ptr [.sl (Is a1.shape),.sl (Its a1.items)])),(7,.d (.sl (Is z3))),(8,.d (.i .i64 x26.2)),(18,.d (.i .i64 s29)),(19,.d (.sl (Is x31))),(20,.own 3 (Is p.2.1)),(100,.d (.sl (IsS z5))),(101,.d (.i .i64 ((List.length z5:Nat):Int))),(102,.d (.i .i64 s29)),(107,.d (.sl (Is s28))),(108,.d (.i .i64 ((List.length s28:Nat):Int))),(109,.d (.i .i64 p.2.2))]) (h:=fun p=>[]) (I:=fun p=>BH a1 s28 K9 s29 x31 p.1 p.2.1 p.2.2=some r) ?_ (AC,[],0) h
       rintro ⟨k,s33,s34⟩ h ih
       dsimp only at h ih ⊢
       rcases k with _|k
       ·rw [BH] at h;cases h
       rw [BH] at h
       refine .sr ?_;refine vk (vbi) ?_;refine rk [4,7,8,18,19,20,100,101,102,107,108,109,110] ?_;refine .seq ?_
       rcases brc h with ⟨hc,h⟩|⟨hc,h⟩
       ·refine cnt (dT hc) ?_
        refine .skip ?_
        show AW _ _ _ _ _ _
        obtain ⟨K11,hK11,h⟩:=AE h
        refine AW.mj (σ:=(List Int)) (fun p=>K11 p=some r) (fun p=>[(4,.d (.ptr [.sl (Is a1.shape),.sl (Its a1.items)])),(7,.d (.sl (Is z3))),(8,.d (.i .i64 x26.2)),(18,.d (.i .i64 s29)),(19,.d (.sl (Is x31))),(20,.own 3 (Is p)),(100,.d (.sl (IsS z5))),(101,.d (.i .i64 ((List.length z5:Nat):Int))),(102,.d (.i .i64 s29)),(107,.d (.sl (Is s28))),(108,.d (.i .i64 ((List.length s28:Nat):Int))),(109,.d (.i .i64 s34))]) (fun p=>[]) ?_ ?_
        ·skip
         refine .block ?_;refine .sr ?_
         obtain ⟨x36,g36,h⟩:=bnd h
         obtain ⟨n36,p036,q36⟩:=Ai g36
         refine vk (vix n36 p036 (Bp q36) rfl Bg) ?_;refine vk (Am AJ) ?_;refine ar [4,7,8,18,19,20,22,100,101,102,107,108,109] ?_;refine .sr ?_;refine vk (Aa) ?_;refine vk (AU (Af _) (CD _) Cg) ?_;refine vk (Aa) ?_;refine rk [4,7,8,18,19,20,22,100,101,102,107,108,109,113,114,115] ?_;refine .block ?_
         refine .loop (.gk [4,7,8,18,19,20,22,100,101,102,107,108,109,113,114,115] ?_)
         refine AL.ind (σ:=Nat×(List Int)×Int) (m:=fun p=>p.1) (e:=fun p=>[(4,.d (.ptr [.sl (Is a1.shape),.sl (Its a1.items)])),(7,.d (.sl (Is z3))),(8,.d (.i .i64 x26.2)),(18,.d (.i .i64 s29)),(19,.d (.sl (Is x31))),(20,.own 3 (Is p.2.1)),(22,.d (.i .i64 x36)),(100,.d (.sl (IsS z5))),(101,.d (.i .i64 ((List.length z5:Nat):Int))),(102,.d (.i .i64 s29)),(107,.d (.sl (Is s28))),(108,.d (.i .i64 ((List.length s28:Nat):Int))),(109,.d (.i .i64 s34)),(113,.d (.sl (Is x31))),(114,.d (.i .i64 ((List.length x31:Nat):Int))),(115,.d (.i .i64 p.2.2))]) (h:=fun p=>[]) (I:=fun p=>CB a1 x36 s29 x31 K11 p.1 p.2.1 p.2.2=some r) ?_ (AC,s33,0) h
         rintro ⟨k,s37,s38⟩ h ih
         dsimp only at h ih ⊢
         rcases k with _|k
         ·rw [CB] at h;cases h
         rw [CB] at h
         refine .sr ?_;refine vk (vbi) ?_;refine rk [4,7,8,18,19,20,22,100,101,102,107,108,109,113,114,115,116] ?_;refine .seq ?_
         rcases brc h with ⟨hc,h⟩|⟨hc,h⟩
         ·refine cnt (dT hc) ?_
          refine .skip ?_
          show AW _ _ _ _ _ _
          refine .seq ?_;refine .block ?_;refine .sr ?_
          obtain ⟨x39,g39,h⟩:=bnd h
          obtain ⟨n39,p039,q39⟩:=Ai g39
          refine vk (vix n39 p039 (Bp q39) rfl Bg) ?_;refine vk (Am AJ) ?_;refine ar [4,7,8,18,19,20,22,24,100,101,102,107,108,109,113,114,115] ?_;refine .region ?_;refine mvo ?_;refine vk (Aa) ?_;refine vk (vfa AT) ?_;refine vk (Am Cd) ?_;refine vk (Aa) ?_
          obtain ⟨x40,g40,h⟩:=bnd h
          obtain ⟨n40,p040,q40⟩:=Ai g40
          refine vk (vix n40 p040 (Bp q40) rfl Bg) ?_;refine vk (Am AJ) ?_;refine vk (vbi) ?_;refine vk (Aa) ?_;refine vk (vbi) ?_;refine vk ((Ef (DC [(w64 ((w64 (x36 * x40))+x39))]) Ds).deep) ?_
          obtain ⟨x41,g41,h⟩:=bnd h
          refine Ly Iq g41 Lv ?_ HE Af Ds
          refine aso ?_;refine .nil ?_
          show AW _ _ _ _ _ _
          refine .gk [4,7,8,18,19,20,22,100,101,102,107,108,109,113,114,115] ?_;refine .region ?_;refine vk (vbi) ?_;refine vk (Aa) ?_;refine .nil ?_;refine AL.gk [4,7,8,18,19,20,22,100,101,102,107,108,109,113,114,115] ?_
          exact ih (k,x41,(w64 (s38+1))) h (Nat.lt_succ_self _)
         refine cnf (dF hc) ?_;refine .gk [4,7,8,18,19,20,100,101,102,107,108,109] ?_;refine .exit ?_
         exact jr (s37) h
        rintro z35 h
        try dsimp only at h ⊢
        subst hK11
        refine .region ?_;refine vk (vbi) ?_;refine vk (Aa) ?_;refine .nil ?_;refine AL.gk [4,7,8,18,19,20,100,101,102,107,108,109] ?_
        exact ih (k,z35,(w64 (s34+1))) h (Nat.lt_succ_self _)
       refine cnf (dF hc) ?_;refine .gk [4,7,8,20,100,101,102] ?_;refine .exit ?_
       exact jr (s33) h
      rintro z32 h
      try dsimp only at h ⊢
      subst hK9
      show AW _ _ _ _ _ _
      refine .region ?_;refine fz (p:=.t 20) ?_;refine vk (Aa) ?_;refine asd ?_;refine RL.gk [4,6,7,8,100,101,102] ?_;refine .nil ?_
      exact jr (z32) h
     rintro z30 h
     try dsimp only at h ⊢
     subst hK8
     refine .region ?_;refine vk (vbi) ?_;refine vk (Aa) ?_;refine .nil ?_;refine AL.gk [4,6,7,8,100,101,102] ?_
     exact ih (k,z30,(w64 (s29+1))) h (Nat.lt_succ_self _)
    refine cnf (dF hc) ?_;refine .gk [6,7,8] ?_;refine .exit ?_
    exact jr (s28) h
   rintro z27 h
   try dsimp only at h ⊢
   subst hK6
   show AW _ _ _ _ _ _
   refine .sr ?_;refine vk (Aa) ?_;refine vk (Aa) ?_;refine asd ?_;refine asd ?_;refine ar [6,7,8] ?_;refine .ret ?_
   cases h
   exact ⟨⟨by decide,by decide,by decide⟩,rfl,rfl,rfl,rfl⟩
  refine cnt (ntt (dF hc)) ?_;refine .sr ?_;refine vk (Aa) ?_;refine asn ?_;refine asn ?_;refine ar [4,6,7,8,9,17] ?_;refine .gh (Gh.nlD (t:=6) rfl) ?_;refine .gh (Gh.nlD (t:=7) rfl) ?_;refine .ret ?_
  cases h
  exact ⟨⟨by decide,by decide,by decide⟩,rfl,rfl,rfl,rfl⟩
 refine cnt (ntt (dF hc)) ?_;refine .sr ?_;refine asn ?_;refine asn ?_;refine ar [2,3,4,6,7,8] ?_;refine .gh (Gh.nlD (t:=6) rfl) ?_;refine .gh (Gh.nlD (t:=7) rfl) ?_;refine .ret ?_
 cases h
 exact ⟨⟨by decide,by decide,by decide⟩,rfl,rfl,rfl,rfl⟩
def El (a1:Arr) (x2:(List Int)×(List Int)×Int) (K0:(List Itm)→Option (Arr×Int)) : Nat→(List Itm)→Int→Option (Arr×Int)
 | 0,_,_=>none
 | k+1,s4,s5=>(if s5<((List.length x2.1:Nat):Int) then ((rd? x2.1 s5).bind fun x6=>((rd? a1.items x6).bind fun x7=>((ap? 1466015503701 s4 [x7]).bind fun x8=>(El a1 x2 K0 k x8 (w64 (s5+1)))))) else (K0 s4))
def F7 (a0:(Int×RT×Int)) (a1:Arr) (a2:(List (List Arr))) : Option (Arr×Int):=((DM a0 ([a1])).bind fun x1=>(if x1=true then ((DH a0 a1 a2).bind fun x2=>(if x2.2.2=0 then (jn (fun (z3:(List Itm))=>(jn (fun (z9:(List Itm))=>((AX x2.2.1 z9).bind fun x12=>(some (x12.1,x12.2)))) fun K2=>(if ((List.length z3:Nat) : Int)=0 then ((CQ a1).bind fun x10=>((ap? 1466015503701 z3 [x10]).bind fun x11=>(K2 x11))) else (K2 z3)))) fun K0=>(El a1 x2 K0 AC [] 0)) else (some ((Arr.mk [] []),x2.2.2)))) else (some ((Arr.mk [] []),22))))
theorem MW {a0:(Int×RT×Int)} {a1:Arr} {a2:(List (List Arr))} {r:Arr×Int} (h:F7 a0 a1 a2=some r) :
  Fn Tryz.prog 20 [.ag [.i .i64 a0.1,.b a0.2.1.1,.sl (L a0.2.1.2.1),.sl (L a0.2.1.2.2),.i .i64 a0.2.2],.ag [.sl (Is a1.shape),.sl (Its a1.items)],.sl (HC a2)] (.tup [.d (.ag [.sl (Is r.1.shape),.sl (Its r.1.items)]),.d (.i .i64 r.2)]):=by
 unfold F7 at h
 refine Fn.ofC (rs:=[.cell 6 27,.tmp 7]) (nt:=60) Tryz.func20 rfl rfl rfl (by simp) rfl ?_;refine .sr ?_;refine vk (vbx) ?_;refine vk (vbx) ?_;refine vk (van (Ah AI) AK) ?_;refine ar [2,3,4,6,7] ?_;refine .seq ?_;refine .sr ?_;refine vk (Aq IN H7) ?_;refine vk (Aq Ae Ab) ?_;refine vk ((E0 (I6 a1) (Gt [a1]) Il).deep) ?_
 obtain ⟨x1,g1,h⟩:=bnd h
 refine vk (Ag (GW g1) Tryz.call39) ?_;refine vk (vnt) ?_;refine rk [2,3,4,6,7,18] ?_
 rcases brc h with ⟨hc,h⟩|⟨hc,h⟩
 ·refine cnf (ntf hc) ?_
  refine .skip ?_
  show AW _ _ _ _ _ _
  refine .sr ?_;refine vk (Aq IN H7) ?_;refine vk (Aq Ae Ab) ?_;refine vk (Aa) ?_
  obtain ⟨x2,g2,h⟩:=bnd h
  refine vk (VOK.tupd (vs:=[.sl (Is x2.1),.sl (Is x2.2.1),.i .i64 x2.2.2]) (Ag (Nr g2) Tryz.call72)) ?_;refine vk (Aa) ?_;refine vk (vex) ?_;refine vk (vex) ?_;refine vk (vex) ?_;refine asd ?_;refine asd ?_;refine ar [4,6,7,8,9,10] ?_;refine .seq ?_;refine .sr ?_;refine vk (Aa) ?_;refine vk (vbi) ?_;refine rk [4,6,7,8,9,10,29] ?_
  rcases brc h with ⟨hc,h⟩|⟨hc,h⟩
  ·refine cnf (ntf (dT hc)) ?_
   refine .skip ?_
   show AW _ _ _ _ _ _
   refine .sr ?_;refine asn ?_;refine rk [4,6,7,8,9,11] ?_;refine .seq ?_;refine .sr ?_;refine vk (Aa) ?_;refine vk (AU (Af _) (CD _) Cg) ?_;refine vk (Aa) ?_;refine rk [4,6,7,9,11,32,33,34] ?_
   obtain ⟨K0,hK0,h⟩:=AE h
   refine AW.mr (σ:=(List Itm)) (fun p=>K0 p=some r) (fun p=>[(4,.d (.ptr [.sl (Is a1.shape),.sl (Its a1.items)])),(6,.nb [.sl (Is []),.sl (Its [])]),(7,.d (.i .i64 0)),(9,.d (.sl (Is x2.2.1))),(11,.own 51 (Its p))]) (fun p=>[]) ?_ ?_
   ·skip
    refine .block ?_;refine .gh (Gh.nlOwn (t:=11) 51 (by rw [Pj];decide) rfl) ?_
    refine .loop (.gk [4,6,7,9,11,32,33,34] ?_)
    refine AL.ind (σ:=Nat×(List Itm)×Int) (m:=fun p=>p.1) (e:=fun p=>[(4,.d (.ptr [.sl (Is a1.shape),.sl (Its a1.items)])),(6,.nb [.sl (Is []),.sl (Its [])]),(7,.d (.i .i64 0)),(9,.d (.sl (Is x2.2.1))),(11,.own 51 (Its p.2.1)),(32,.d (.sl (Is x2.1))),(33,.d (.i .i64 ((List.length x2.1:Nat):Int))),(34,.d (.i .i64 p.2.2))]) (h:=fun p=>[]) (I:=fun p=>El a1 x2 K0 p.1 p.2.1 p.2.2=some r) ?_ (AC,[],0) h
    rintro ⟨k,s4,s5⟩ h ih
    dsimp only at h ih ⊢
    rcases k with _|k
    ·rw [El] at h;cases h
    rw [El] at h
    refine .sr ?_;refine vk (vbi) ?_;refine rk [4,6,7,9,11,32,33,34,35] ?_;refine .seq ?_
    rcases brc h with ⟨hc,h⟩|⟨hc,h⟩
    ·refine cnt (dT hc) ?_
     refine .skip ?_
     show AW _ _ _ _ _ _
     refine .seq ?_;refine .block ?_;refine .sr ?_
     obtain ⟨x6,g6,h⟩:=bnd h
     obtain ⟨n6,p06,q6⟩:=Ai g6
     refine vk (vix n6 p06 (Bp q6) rfl Bg) ?_;refine vk (Am AJ) ?_;refine ar [4,6,7,9,11,13,32,33,34] ?_;refine .region ?_;refine mvo ?_;refine vk (vfa A2) ?_;refine vk (Am BM) ?_;refine vk (Aa) ?_
     obtain ⟨x7,g7,h⟩:=bnd h
     obtain ⟨n7,p07,q7⟩:=Ai g7
     refine vk (vix n7 p07 (Cq q7) rfl Cr) ?_;refine vk (Aq AS Aw) ?_;refine vk ((E0 (Fo x7) (Eb [x7]) D4).deep) ?_
     obtain ⟨x8,g8,h⟩:=bnd h
     refine Ly Kf g8 MY ?_ Ji Ay D4
     refine aso ?_;refine .nil ?_
     show AW _ _ _ _ _ _
     refine .gk [4,6,7,9,11,32,33,34] ?_;refine .region ?_;refine vk (vbi) ?_;refine vk (Aa) ?_;refine .nil ?_;refine AL.gk [4,6,7,9,11,32,33,34] ?_
     exact ih (k,x8,(w64 (s5+1))) h (Nat.lt_succ_self _)
    refine cnf (dF hc) ?_;refine .gk [4,6,7,9,11] ?_;refine .exit ?_
    exact jr (s4) h
   rintro z3 h
   try dsimp only at h ⊢
   subst hK0
   show AW _ _ _ _ _ _
   refine .seq ?_;refine .sr ?_;refine mvo ?_;refine vk (PI (Ay _) BK) ?_;refine vk (vbi) ?_;refine rk [4,6,7,9,11,49] ?_
   obtain ⟨K2,hK2,h⟩:=AE h
   refine AW.mr (σ:=(List Itm)) (fun p=>K2 p=some r) (fun p=>[(6,.nb [.sl (Is []),.sl (Its [])]),(7,.d (.i .i64 0)),(9,.d (.sl (Is x2.2.1))),(11,.own 51 (Its p))]) (fun p=>[]) ?_ ?_
   ·skip
    rcases brc h with ⟨hc,h⟩|⟨hc,h⟩
    ·refine cnt (dT hc) ?_
     refine .region ?_;refine mvo ?_;refine vk (Aq Ae Ab) ?_
     obtain ⟨x10,g10,h⟩:=bnd h
     refine vk (Ag (Iy g10) Tryz.call66) ?_;refine vk ((E0 (Fo x10) (Eb [x10]) D4).deep) ?_
     obtain ⟨x11,g11,h⟩:=bnd h
     refine Ly Kf g11 MY ?_ Ji Ay D4
     refine aso ?_;refine RL.gk [6,7,9,11] ?_;refine .nil ?_
     exact jr (x11) h
    refine cnf (dF hc) ?_;refine .gk [6,7,9,11] ?_;refine .skip ?_
    exact jr (z3) h
   rintro z9 h
   try dsimp only at h ⊢
   subst hK2
   show AW _ _ _ _ _ _
   refine .sr ?_;refine vk (Aa) ?_;refine fz (p:=.t 11) ?_;refine vk (Aa) ?_
   obtain ⟨x12,g12,h⟩:=bnd h
   refine vk (VOK.tupd (vs:=[.ag [.sl (Is x12.1.shape),.sl (Its x12.1.items)],.i .i64 x12.2]) (Ag (Fr g12) Tryz.call18)) ?_;refine vk (vex) ?_;refine vk (vex) ?_
   refine stn ?_ Ab (by decide)
   refine ar [6,7] ?_;refine .ret ?_
   cases h
   exact ⟨_,_,⟨.inr rfl,Ae,Ab,p2⟩,rfl,rfl⟩
  refine cnt (ntt (dF hc)) ?_;refine .sr ?_;refine vk (vbd BL AI AK) ?_;refine vk (Aa) ?_
  refine stn ?_ Ab (by decide)
  refine ar [4,6,7,8,9] ?_;refine .ret ?_
  cases h
  exact ⟨_,_,⟨.inr rfl,Ae,Ab,p2⟩,rfl,rfl⟩
 refine cnt (ntt (bf hc)) ?_;refine .sr ?_;refine vk (vbd BL AI AK) ?_
 refine stn ?_ Ab (by decide)
 refine ar [2,3,4,6,7] ?_;refine .ret ?_
 cases h
 exact ⟨_,_,⟨.inr rfl,Ae,Ab,p2⟩,rfl,rfl⟩
def Bq (a0:(List (List Int))) (K0:Int→Option ((List Int))) : Nat→Int→Int→Option ((List Int))
 | 0,_,_=>none
 | k+1,s2,s3=>(if s3<((List.length a0:Nat):Int) then (jn (fun (z4:Int)=>(Bq a0 K0 k z4 (w64 (s3+1)))) fun K2=>((rd? a0 s3).bind fun x5=>((GC (¬((w64 (s2+((List.length x5:Nat):Int)))<0))).bind fun x6=>(K2 (w64 (s2+((List.length x5:Nat):Int))))))) else (K0 s2))
def Br (a0:(List (List Int))) (K3:(List Int)→Option ((List Int))) : Nat→(List Int)→Int→Option ((List Int))
 | 0,_,_=>none
 | k+1,s9,s10=>(if s10<((List.length a0:Nat):Int) then ((rd? a0 s10).bind fun x11=>((ap? 17592186044416 s9 x11).bind fun x12=>(Br a0 K3 k x12 (w64 (s10+1))))) else (K3 s9))
def DB (a0:(List (List Int))) : Option ((List Int)):=(jn (fun (z1:Int)=>((GC (0≤z1∧z1≤UG)).bind fun x7=>(jn (fun (z8:(List Int))=>(some (z8))) fun K3=>(Br a0 K3 AC [] 0)))) fun K0=>(Bq a0 K0 AC 0 0))
theorem GU {a0:(List (List Int))} {r:(List Int)} (h:DB a0=some r) :
  Fn Tryz.prog 100 [.sl (IsS a0)] (.d (.sl (Is r))):=by
 unfold DB at h
 refine Fn.o1 2 36 Tryz.func100 ?_;refine .sr ?_;refine asn ?_;refine rk [0,2] ?_;refine .sr ?_;refine ar [0,2,3] ?_;refine .seq ?_;refine .sr ?_;refine vk (Aa) ?_;refine vk (AU (Ge _) (UM _) QZ) ?_;refine vk (Aa) ?_;refine rk [0,2,3,9,10,11] ?_
 obtain ⟨K0,hK0,h⟩:=AE h
 refine AW.mr (σ:=Int) (fun p=>K0 p=some r) (fun p=>[(0,.d (.sl (IsS a0))),(2,.nl),(3,.d (.i .i64 p))]) (fun p=>[]) ?_ ?_
 ·skip
  refine .block ?_
  refine .loop (.gk [0,2,3,9,10,11] ?_)
  refine AL.ind (σ:=Nat×Int×Int) (m:=fun p=>p.1) (e:=fun p=>[(0,.d (.sl (IsS a0))),(2,.nl),(3,.d (.i .i64 p.2.1)),(9,.d (.sl (IsS a0))),(10,.d (.i .i64 ((List.length a0:Nat):Int))),(11,.d (.i .i64 p.2.2))]) (h:=fun p=>[]) (I:=fun p=>Bq a0 K0 p.1 p.2.1 p.2.2=some r) ?_ (AC,0,0) h
  rintro ⟨k,s2,s3⟩ h ih
  dsimp only at h ih ⊢
  rcases k with _|k
  ·rw [Bq] at h;cases h
  rw [Bq] at h
  refine .sr ?_;refine vk (vbi) ?_;refine rk [0,2,3,9,10,11,12] ?_;refine .seq ?_
  rcases brc h with ⟨hc,h⟩|⟨hc,h⟩
  ·refine cnt (dT hc) ?_
   refine .skip ?_
   show AW _ _ _ _ _ _
   obtain ⟨K2,hK2,h⟩:=AE h
   refine AW.mj (σ:=Int) (fun p=>K2 p=some r) (fun p=>[(0,.d (.sl (IsS a0))),(2,.nl),(3,.d (.i .i64 p)),(9,.d (.sl (IsS a0))),(10,.d (.i .i64 ((List.length a0:Nat):Int))),(11,.d (.i .i64 s3))]) (fun p=>[]) ?_ ?_
   ·skip
    refine .block ?_;refine .sr ?_
    obtain ⟨x5,g5,h⟩:=bnd h
    obtain ⟨n5,p05,q5⟩:=Ai g5
    refine vk (vix n5 p05 (Rc q5) rfl RD) ?_;refine vk (Am Cd) ?_;refine ar [0,2,3,5,9,10,11] ?_;refine .sr ?_;refine vk (Aa) ?_;refine vk (Aa) ?_;refine vk (AU (Af _) (CD _) Cg) ?_;refine vk (vbi) ?_;refine ar [0,2,3,9,10,11] ?_;refine .sr ?_;refine vk (Aa) ?_;refine vk (vbi) ?_;refine rk [0,2,3,9,10,11,20] ?_
    obtain ⟨x6,g6,h⟩:=bnd h
    have hc:=HI g6
    refine cnf (dF hc) ?_;refine .gk [0,2,3,9,10,11] ?_;refine .skip ?_
    exact jr ((w64 (s2+((List.length x5:Nat):Int)))) h
   rintro z4 h
   try dsimp only at h ⊢
   subst hK2
   refine .region ?_;refine vk (vbi) ?_;refine vk (Aa) ?_;refine .nil ?_;refine AL.gk [0,2,3,9,10,11] ?_
   exact ih (k,z4,(w64 (s3+1))) h (Nat.lt_succ_self _)
  refine cnf (dF hc) ?_;refine .gk [0,2,3] ?_;refine .exit ?_
  exact jr (s2) h
 rintro z1 h
 try dsimp only at h ⊢
 subst hK0
 show AW _ _ _ _ _ _
 refine .sr ?_;refine vk (Aa) ?_
 obtain ⟨x7,g7,h⟩:=bnd h
 refine clR (avs:=[.nl,.d (.i .i64 z1)]) (V1 TB Wa (HI g7)) Tryz.call157 (fun r' H' hp=>?_)
 obtain ⟨rfl,rfl⟩:=hp
 refine aso ?_;refine rk [0,2,6] ?_;refine .seq ?_;refine .sr ?_;refine vk (Aa) ?_;refine vk (AU (Ge _) (UM _) QZ) ?_;refine vk (Aa) ?_;refine rk [2,6,25,26,27] ?_
 obtain ⟨K3,hK3,h⟩:=AE h
 refine AW.mr (σ:=(List Int)) (fun p=>K3 p=some r) (fun p=>[(2,.nl),(6,.own 3 (Is p))]) (fun p=>[]) ?_ ?_
 ·skip
  refine .block ?_
  refine .loop (.gk [2,6,25,26,27] ?_)
  refine AL.ind (σ:=Nat×(List Int)×Int) (m:=fun p=>p.1) (e:=fun p=>[(2,.nl),(6,.own 3 (Is p.2.1)),(25,.d (.sl (IsS a0))),(26,.d (.i .i64 ((List.length a0:Nat):Int))),(27,.d (.i .i64 p.2.2))]) (h:=fun p=>[]) (I:=fun p=>Br a0 K3 p.1 p.2.1 p.2.2=some r) ?_ (AC,[],0) h
  rintro ⟨k,s9,s10⟩ h ih
  dsimp only at h ih ⊢
  rcases k with _|k
  ·rw [Br] at h;cases h
  rw [Br] at h
  refine .sr ?_;refine vk (vbi) ?_;refine rk [2,6,25,26,27,28] ?_;refine .seq ?_
  rcases brc h with ⟨hc,h⟩|⟨hc,h⟩
  ·refine cnt (dT hc) ?_
   refine .skip ?_
   show AW _ _ _ _ _ _
   refine .seq ?_;refine .block ?_;refine .sr ?_
   obtain ⟨x11,g11,h⟩:=bnd h
   obtain ⟨n11,p011,q11⟩:=Ai g11
   refine vk (vix n11 p011 (Rc q11) rfl RD) ?_;refine vk (Am Cd) ?_;refine ar [2,6,8,25,26,27] ?_;refine .region ?_;refine mvo ?_;refine vk (Aa) ?_
   obtain ⟨x12,g12,h⟩:=bnd h
   refine Ly Iq g12 Lv ?_ HE Af Ds
   refine aso ?_;refine .nil ?_
   show AW _ _ _ _ _ _
   refine .gk [2,6,25,26,27] ?_;refine .region ?_;refine vk (vbi) ?_;refine vk (Aa) ?_;refine .nil ?_;refine AL.gk [2,6,25,26,27] ?_
   exact ih (k,x12,(w64 (s10+1))) h (Nat.lt_succ_self _)
  refine cnf (dF hc) ?_;refine .gk [2,6] ?_;refine .exit ?_
  exact jr (s9) h
 rintro z8 h
 try dsimp only at h ⊢
 subst hK3
 show AW _ _ _ _ _ _
 refine .sr ?_;refine fz (p:=.t 6) ?_;refine vk (Aa) ?_;refine ar [2] ?_;refine .ret ?_
 cases h
 exact ⟨rfl,rfl⟩
def EP (a0:Int) : Option (Bool):=((M8 (⟨#[226,138,130,226,138,131,226,134,145,226,136,138,226,141,139,226,141,146,226,136,170,226,137,161,226,137,162,226,141,179]⟩ : ByteArray) a0).bind fun x1=>(some (x1)))
theorem J1 {a0:Int} {r:Bool} (h:EP a0=some r) :
  Fn Tryz.prog 64 [.i .i32 a0] (.d (.b r)):=by
 unfold EP at h
 refine Fn.o1 2 5 Tryz.func64 ?_;refine .sr ?_;refine ar [0,2] ?_;refine .sr ?_;refine vk (Aa) ?_
 obtain ⟨x1,g1,h⟩:=bnd h
 refine vk (Ag (Qu g1) Tryz.call94) ?_;refine ar [2] ?_;refine .ret ?_
 cases h
 exact ⟨rfl,rfl⟩
def GT (a0:Int) : Option (Bool):=((M8 (⟨#[226,138,131,226,141,179,226,136,138,126,226,136,170,226,137,161,226,137,162,226,138,164,226,138,165,226,140,183]⟩ : ByteArray) a0).bind fun x1=>(some (x1)))
theorem KY {a0:Int} {r:Bool} (h:GT a0=some r) :
  Fn Tryz.prog 38 [.i .i32 a0] (.d (.b r)):=by
 unfold GT at h
 refine Fn.o1 2 5 Tryz.func38 ?_;refine .sr ?_;refine ar [0,2] ?_;refine .sr ?_;refine vk (Aa) ?_
 obtain ⟨x1,g1,h⟩:=bnd h
 refine vk (Ag (Qu g1) Tryz.call94) ?_;refine ar [2] ?_;refine .ret ?_
 cases h
 exact ⟨rfl,rfl⟩
def D1 (a0:(Int×RT×Int)) (a1:Int) (a2:Arr) : Option (Arr×Int):=((EP a1).bind fun x1=>(if x1=true then ((DM a0 ([a2])).bind fun x2=>(if x2=true then ((B9 a2).bind fun x3=>(if a1=8834 then ((GZ a2).bind fun x4=>((AX [] ([x4])).bind fun x5=>(some (x5.1,x5.2)))) else (if a1=8835 then none else (if a1=8593 then (jn (fun (z6:(List Itm))=>((rd? z6 0).bind fun x8=>((JI x8).bind fun x9=>(some (x9,0))))) fun K0=>(if ((List.length x3:Nat) : Int)=0 then ((CQ a2).bind fun x7=>(K0 ([x7]))) else (K0 x3))) else (if a1=8714 then none else (jn (fun (z10:Bool)=>(if z10=true then (if ((List.length a2.shape:Nat) : Int)=1 then ((JG a0 x3 (Ti [(9035,1),(9042,(-1))] a1)).bind fun x11=>(some (x11,0))) else (some ((Arr.mk [] []),4))) else (if a1=8746 then (if 1<((List.length a2.shape:Nat) : Int) then (some ((Arr.mk [] []),4)) else none) else (if a1=8801 then ((IQ a2).bind fun x12=>((DY x12).bind fun x13=>(some (x13,0)))) else (if a1=8802 then none else ((Hl a0 a2).bind fun x14=>(some (x14.1,x14.2)))))))) fun K1=>(if a1=9035 then (K1 (decide (a1=9035))) else (K1 (decide (a1=9042)))))))))) else (some ((Arr.mk [] []),22)))) else (some ((Arr.mk [] []),23))))
set_option maxHeartbeats 4000000 in
theorem H6 {a0:(Int×RT×Int)} {a1:Int} {a2:Arr} {r:Arr×Int} (h:D1 a0 a1 a2=some r) :
  Fn Tryz.prog 19 [.ag [.i .i64 a0.1,.b a0.2.1.1,.sl (L a0.2.1.2.1),.sl (L a0.2.1.2.2),.i .i64 a0.2.2],.i .i32 a1,.ag [.sl (Is a2.shape),.sl (Its a2.items)]] (.tup [.d (.ag [.sl (Is r.1.shape),.sl (Its r.1.items)]),.d (.i .i64 r.2)]):=by
 unfold D1 at h
 refine Fn.ofC (rs:=[.cell 6 27,.tmp 7]) (nt:=121) Tryz.func19 rfl rfl rfl (by simp) rfl ?_;refine .sr ?_;refine vk (vbx) ?_;refine vk (vbx) ?_;refine vk (van (Ah AI) AK) ?_;refine ar [1,3,5,6,7] ?_;refine .seq ?_;refine .block ?_;refine .sr ?_;refine vk (Aa) ?_
 obtain ⟨x1,g1,h⟩:=bnd h
 refine vk (Ag (J1 g1) Tryz.call64) ?_;refine vk (vnt) ?_;refine ar [1,3,5,6,7,9] ?_
 rcases brc h with ⟨hc,h⟩|⟨hc,h⟩
 ·refine cnf (ntf hc) ?_
  refine .sr ?_;refine vk (Aq IN H7) ?_;refine vk (Aq Ae Ab) ?_;refine vk ((E0 (I6 a2) (Gt [a2]) Il).deep) ?_
  obtain ⟨x2,g2,h⟩:=bnd h
  refine vk (Ag (GW g2) Tryz.call39) ?_;refine vk (vnt) ?_;refine ar [1,3,5,6,7,14] ?_
  rcases brc h with ⟨hc,h⟩|⟨hc,h⟩
  ·refine cnf (ntf hc) ?_
   refine .skip ?_
   show AW _ _ _ _ _ _
   refine .sr ?_;refine vk (Aq Ae Ab) ?_
   obtain ⟨x3,g3,h⟩:=bnd h
   refine vk (Ag (Gr g3) Tryz.call46) ?_;refine ar [1,3,5,6,7,8] ?_;refine .seq ?_;refine .sr ?_;refine vk (Aa) ?_;refine rk [1,3,5,6,7,8,23] ?_;refine .block ?_;refine .sr ?_;refine vk (vbi) ?_;refine ar [1,3,5,6,7,8,23,24] ?_
   rcases brc h with ⟨hc,h⟩|⟨hc,h⟩
   ·refine cnt (dT hc) ?_
    refine .sr ?_;refine vk (Aq Ae Ab) ?_
    obtain ⟨x4,g4,h⟩:=bnd h
    refine vk (Ag (KZ g4) Tryz.call29) ?_;refine vk ((E0 (Fo x4) (Eb [x4]) D4).deep) ?_
    obtain ⟨x5,g5,h⟩:=bnd h
    refine vk (VOK.tupd (vs:=[.ag [.sl (Is x5.1.shape),.sl (Its x5.1.items)],.i .i64 x5.2]) (Ag (Fr g5) Tryz.call18)) ?_;refine vk (vex) ?_;refine vk (vex) ?_
    refine stn ?_ Ab (by decide)
    refine ar [3,5,6,7] ?_;refine .ret ?_
    cases h
    exact ⟨_,_,⟨.inr rfl,Ae,Ab,p2⟩,rfl,rfl⟩
   refine cnf (dF hc) ?_;refine .sr ?_;refine vk (vbi) ?_;refine ar [1,3,5,6,7,8,23,32] ?_
   rcases brc h with ⟨hc,h⟩|⟨hc,h⟩
   ·refine cnt (dT hc) ?_
    refine .sr ?_;refine vk (Aq Ae Ab) ?_
    exact nomatch h
   refine cnf (dF hc) ?_;refine .sr ?_;refine vk (vbi) ?_;refine ar [1,3,5,6,7,8,23,38] ?_
   rcases brc h with ⟨hc,h⟩|⟨hc,h⟩
   ·refine cnt (dT hc) ?_
    refine .seq ?_;refine .sr ?_;refine vk (Aa) ?_;refine vk (AU (Ay _) (BQ _) BK) ?_;refine vk (vbi) ?_;refine rk [3,5,6,7,8,42] ?_
    obtain ⟨K0,hK0,h⟩:=AE h
    refine AW.mr (σ:=(List Itm)) (fun p=>K0 p=some r) (fun p=>[(3,.d (.ptr [.i .i64 a0.1,.b a0.2.1.1,.sl (L a0.2.1.2.1),.sl (L a0.2.1.2.2),.i .i64 a0.2.2])),(5,.d (.ptr [.sl (Is a2.shape),.sl (Its a2.items)])),(6,.nb [.sl (Is []),.sl (Its [])]),(7,.d (.i .i64 0)),(8,.d (.sl (Its p)))]) (fun p=>[]) ?_ ?_
    ·skip
     rcases brc h with ⟨hc,h⟩|⟨hc,h⟩
     ·refine cnt (dT hc) ?_
      refine .region ?_;refine vk (Aq Ae Ab) ?_
      obtain ⟨x7,g7,h⟩:=bnd h
      refine vk (Ag (Iy g7) Tryz.call66) ?_;refine vk ((E0 (Fo x7) (Eb [x7]) D4).deep) ?_;refine asd ?_;refine RL.gk [3,5,6,7,8] ?_;refine .nil ?_
      exact jr ([x7]) h
     refine cnf (dF hc) ?_;refine .gk [3,5,6,7,8] ?_;refine .skip ?_
     exact jr (x3) h
    rintro z6 h
    try dsimp only at h ⊢
    subst hK0
    show AW _ _ _ _ _ _
    refine .sr ?_;refine vk (Aa) ?_
    obtain ⟨x8,g8,h⟩:=bnd h
    obtain ⟨n8,p08,q8⟩:=Ai g8
    refine vk (vix n8 p08 (Cq q8) rfl Cr) ?_;refine vk (Aq AS Aw) ?_
    obtain ⟨x9,g9,h⟩:=bnd h
    refine vk (Ag (Nt g9) Tryz.call26) ?_
    refine stn ?_ Ab (by decide)
    refine ar [3,5,6,7] ?_;refine .ret ?_
    cases h
    exact ⟨_,_,⟨.inr rfl,Ae,Ab,p2⟩,rfl,rfl⟩
   refine cnf (dF hc) ?_;refine .sr ?_;refine vk (vbi) ?_;refine ar [1,3,5,6,7,8,23,50] ?_
   rcases brc h with ⟨hc,h⟩|⟨hc,h⟩
   ·refine cnt (dT hc) ?_
    refine .seq ?_;refine .drawn 13 AZ (by kernel_rfl) ?_;refine dv (Aa) ?_
    exact nomatch h
   refine cnf (dF hc) ?_;refine .seq ?_;refine .sr ?_;refine vk (vbi) ?_;refine ar [1,3,5,6,7,8,23,65] ?_
   obtain ⟨K1,hK1,h⟩:=AE h
   refine AW.mr (σ:=Bool) (fun p=>K1 p=some r) (fun p=>[(1,.d (.i .i32 a1)),(3,.d (.ptr [.i .i64 a0.1,.b a0.2.1.1,.sl (L a0.2.1.2.1),.sl (L a0.2.1.2.2),.i .i64 a0.2.2])),(5,.d (.ptr [.sl (Is a2.shape),.sl (Its a2.items)])),(6,.nb [.sl (Is []),.sl (Its [])]),(7,.d (.i .i64 0)),(8,.d (.sl (Its x3))),(23,.d (.i .i32 a1)),(65,.d (.b p))]) (fun p=>[]) ?_ ?_
   ·skip
    rcases brc h with ⟨hc,h⟩|⟨hc,h⟩
    ·refine cnt (dT hc) ?_
     refine .gk [1,3,5,6,7,8,23,65] ?_;refine .skip ?_
     exact jr ((decide (a1=9035))) h
    refine cnf (dF hc) ?_;refine .region ?_;refine vk (vbi) ?_;refine asd ?_;refine RL.gk [1,3,5,6,7,8,23,65] ?_;refine .nil ?_
    exact jr ((decide (a1=9042))) h
   rintro z10 h
   try dsimp only at h ⊢
   subst hK1
   show AW _ _ _ _ _ _
   rcases brc h with ⟨hc,h⟩|⟨hc,h⟩
   ·refine cnt hc ?_
    refine .seq ?_;refine .sr ?_;refine vk (vfa AT) ?_;refine vk (Am Cd) ?_;refine vk (AU (Af _) (CD _) Cg) ?_;refine vk (vbi) ?_;refine rk [1,3,5,6,7,8,71] ?_
    rcases brc h with ⟨hc,h⟩|⟨hc,h⟩
    ·refine cnf (ntf (dT hc)) ?_
     refine .skip ?_
     show AW _ _ _ _ _ _
     refine .sr ?_;refine vk (Aq IN H7) ?_;refine vk (Aa) ?_;refine vk (YD) ?_;refine Yo Ff gkR freshK.nil ?_;refine Yo Ff gkR (freshK.snoc (z:=9042) (z':=9035) freshK.nil (by decide)) ?_;refine RL.gh (Gh.omf (t:=75) rfl) ?_;refine vk (Aa) ?_;refine vk (Aa) ?_;refine vk (Yn (T:=[(9035,1),(9042,(-1))]) (by decide) Ff gkR JZ) ?_
     obtain ⟨x11,g11,h⟩:=bnd h
     refine vk (Ag (Nh g11) Tryz.call70) ?_
     refine stn ?_ Ab (by decide)
     refine ar [3,5,6,7] ?_;refine .ret ?_
     cases h
     exact ⟨_,_,⟨.inr rfl,Ae,Ab,p2⟩,rfl,rfl⟩
    refine cnt (ntt (dF hc)) ?_;refine .sr ?_;refine vk (vbd BL AI AK) ?_
    refine stn ?_ Ab (by decide)
    refine ar [1,3,5,6,7,8] ?_;refine .ret ?_
    cases h
    exact ⟨_,_,⟨.inr rfl,Ae,Ab,p2⟩,rfl,rfl⟩
   refine cnf (bf hc) ?_;refine .sr ?_;refine vk (vbi) ?_;refine ar [3,5,6,7,8,23,80] ?_
   rcases brc h with ⟨hc,h⟩|⟨hc,h⟩
   ·refine cnt (dT hc) ?_
    refine .seq ?_;refine .sr ?_;refine vk (vfa AT) ?_;refine vk (Am Cd) ?_;refine vk (AU (Af _) (CD _) Cg) ?_;refine vk (vbi) ?_;refine rk [3,5,6,7,8,85] ?_
    rcases brc h with ⟨hc,h⟩|⟨hc,h⟩
    ·refine cnt (dT hc) ?_
     refine .sr ?_;refine vk (vbd BL AI AK) ?_
     refine stn ?_ Ab (by decide)
     refine ar [3,5,6,7,8] ?_;refine .ret ?_
     cases h
     exact ⟨_,_,⟨.inr rfl,Ae,Ab,p2⟩,rfl,rfl⟩
    exact nomatch h
   refine cnf (dF hc) ?_;refine .sr ?_;refine vk (vbi) ?_;refine ar [3,5,6,7,23,95] ?_
   rcases brc h with ⟨hc,h⟩|⟨hc,h⟩
   ·refine cnt (dT hc) ?_
    refine .sr ?_;refine vk (Aq Ae Ab) ?_
    obtain ⟨x12,g12,h⟩:=bnd h
    refine vk (Ag (Mm g12) Tryz.call28) ?_
    obtain ⟨x13,g13,h⟩:=bnd h
    refine vk (Ag (EQ g13) Tryz.call12) ?_
    refine stn ?_ Ab (by decide)
    refine ar [3,5,6,7] ?_;refine .ret ?_
    cases h
    exact ⟨_,_,⟨.inr rfl,Ae,Ab,p2⟩,rfl,rfl⟩
   refine cnf (dF hc) ?_;refine .sr ?_;refine vk (vbi) ?_;refine ar [3,5,6,7,100] ?_
   rcases brc h with ⟨hc,h⟩|⟨hc,h⟩
   ·exact nomatch h
   refine cnf (dF hc) ?_;refine .skip ?_
   show AW _ _ _ _ _ _
   refine .sr ?_;refine vk (Aq IN H7) ?_;refine vk (Aq Ae Ab) ?_
   obtain ⟨x14,g14,h⟩:=bnd h
   refine vk (VOK.tupd (vs:=[.ag [.sl (Is x14.1.shape),.sl (Its x14.1.items)],.i .i64 x14.2]) (Ag (OZ g14) Tryz.call71)) ?_;refine vk (vex) ?_;refine vk (vex) ?_
   refine stn ?_ Ab (by decide)
   refine ar [6,7] ?_;refine .ret ?_
   cases h
   exact ⟨_,_,⟨.inr rfl,Ae,Ab,p2⟩,rfl,rfl⟩
  refine cnt (ntt (bf hc)) ?_;refine .sr ?_;refine vk (vbd BL AI AK) ?_
  refine stn ?_ Ab (by decide)
  refine ar [1,3,5,6,7] ?_;refine .ret ?_
  cases h
  exact ⟨_,_,⟨.inr rfl,Ae,Ab,p2⟩,rfl,rfl⟩
 refine cnt (ntt (bf hc)) ?_;refine .sr ?_;refine vk (vbd BL AI AK) ?_
 refine stn ?_ Ab (by decide)
 refine ar [1,3,5,6,7] ?_;refine .ret ?_
 cases h
 exact ⟨_,_,⟨.inr rfl,Ae,Ab,p2⟩,rfl,rfl⟩
theorem XW {p:Prop} [Decidable p] (h:p) : GC p=some ():=if_pos h
theorem OL {α:Type} {xs:List α} {d:α} {i:Nat} (h:i<xs.length) : xs.getD i d=xs[i]:=by simp [List.getD,lG h]
theorem Pu {l:List Arr} (hl:l.length≤17592186044416) (ho:∀ a∈l,okAr a) : DM (1,(false,[],[]),0) l=some (!l.any fun a=>!decide (Bh a)):=by
 have hc:=Nn (xs:=l) (f:=(⟨.fn 96 [] [],fun x=>Dg x⟩:BG)) (p:=fun a=>!decide (Bh a)) (fun a ha=>by
  show Dg a=_
  unfold Dg;rw [G8 (ho a ha)];rfl) hl
 unfold DM
 rw [if_neg (show ¬((1:Int)=0) by decide),if_pos rfl,hc];rfl
theorem NM {a:Arr} (oa:okAr a) (ra:Bh a) : DM (1,(false,[],[]),0) [a]=some true:=by
 rw [Pu (by simp) (by simpa using oa)];simp [ra]
def FN (n:Nat) : List Int:=(List.range n).map fun (i:Nat)=>(i:Int)+1
theorem Ct (n:Nat) : (FN n).length=n:=by simp [FN]
theorem NR {n i:Nat} (h:i<(FN n).length) : (FN n)[i]=(i:Int)+1:=by simp [FN]
theorem Qs {n:Nat} : ∀ z∈FN n,1≤z∧z≤(n:Int):=fun z hz=>by
 simp only [FN,List.mem_map,List.mem_range] at hz
 obtain ⟨i,hi,rfl⟩:=hz
 omega
theorem TX {n:Nat} (hn:n≤4096) : ∀ z∈FN n,EM z:=fun z hz=>by
 have:=Qs z hz
 exact ⟨by omega,by omega⟩
theorem Ob {n:Nat} (hn:n≤4096) (x6:Int×Bool) (hx:x6.1=(n:Int)) (K:List Int→Option (Arr×Int)) : ∀ (m i k:Nat),m=n-i→i≤n→m<k →
  CP (1,(false,[],[]),0) x6 K k ((FN n).take i++(List.replicate n (0:Int)).drop i) (i:Int)=K (FN n)
 | m,i,0,_,_,h=>by omega
 | m,i,k+1,hm,hi,hk=>by
  rw [CP,hx,Int.toNat_natCast,List.length_replicate]
  by_cases hlt:i<n
  ·rw [if_pos (by omega),Cn (by simp [Ct];omega),oB]
   show CP _ x6 K k (List.set _ (Int.toNat (i:Int)) (w64 ((i:Int)+1))) (w64 ((i:Int)+1))=_
   have e:=Ud (L:=FN n) (r:=List.replicate n (0:Int)) (by simp [Ct]) (show i<(FN n).length by rw [Ct];exact hlt)
   rw [NR] at e
   have e2:w64 ((i:Int)+1)=(i:Int)+1:=by rw [CH (by omega)];omega
   rw [Int.toNat_natCast,e2,e]
   exact Ob hn x6 hx K (m-1) (i+1) k (by omega) (by omega) (by omega)
  ·have:i=n:=by omega
   subst this
   rw [if_neg (by omega),List.take_of_length_le (by rw [Ct];omega),List.drop_of_length_le (by simp),List.append_nil]
theorem Vn {n:Nat} (hn:n≤4096) : Hl (1,(false,[],[]),0) (.mk [] [De (n:Int)])=some (JU (FN n),0):=by
 have h64:EM (n:Int):=⟨by omega,by omega⟩
 unfold Hl
 have eS:Cl (Arr.mk [] [De (n:Int)]).shape=some (1,0):=by rw [HJ (by simp [Arr.shape])];rfl
 have eN:(De (n:Int)).num=ofQ ((n:Int):Rat):=rfl
 have e0:rd? (Arr.mk [] [De (n:Int)]).items 0=some (De (n:Int)):=rfl
 rw [eS,oB,if_neg (by simp [Arr.shape]),if_pos rfl,e0,oB,eN,if_pos (show (De (n:Int)).kind=1 from rfl),Oz (Ey h64),oB,if_pos (by exact dT (Rat.den_intCast _)),XQ (Ey h64),oB]
 have hs:¬(Vt ((n:Int):Rat) 0<0):=by
  have h0:¬(((n:Int):Rat)<0):=by
   rw [Rat.not_lt];exact_mod_cast Int.natCast_nonneg n
  unfold Vt
  rw [if_neg h0]
  split<;>decide
 rw [oB,if_neg (by rw [decide_eq_true_eq];exact hs),JP h64,oB,if_neg (by simp;omega),XW (by omega),oB,Int.toNat_natCast]
 have:=Ob hn ((n:Int),true) rfl (fun (z8:List Int)=>((GX z8).bind fun x12=>(some (x12,(0:Int))))) n 0 AC rfl (Nat.zero_le _) (Ci (by omega))
 rw [List.take_zero,List.nil_append,List.drop_zero,show ((0:Nat):Int)=0 from rfl] at this
 rw [Ch,this,SV (TX hn) (by rw [Ct];omega)]
 rfl
theorem Sh {xs:List (List Arr)} {f:Cs} (hf:∀ x∈xs,f.g x=some false) (K:Int→Option Int) (hl:xs.length≤17592186044416) : ∀ (n i k:Nat) (s:Int),n=xs.length-i→i≤xs.length→n<k→CW xs f K k s (i:Int)=K s
 | n,i,0,s,_,_,h=>by omega
 | n,i,k+1,s,hn,hi,hk=>by
  rw [CW]
  by_cases hlt:i<xs.length
  ·rw [if_pos (by omega),Cn hlt,oB,hf _ (List.getElem_mem _),oB,if_neg (by decide),CH (by omega)]
   exact Sh hf K hl (n-1) (i+1) k s (by omega) (by omega) (by omega)
  ·rw [if_neg (by omega)]
theorem MK {xs:List (List Arr)} {f:Cs} (hf:∀ x∈xs,f.g x=some false) (hl:xs.length≤17592186044416) : Ed xs f=some false:=by
 unfold Ed HW
 rw [Ch]
 have:=Sh hf (fun _=>some (-1)) hl xs.length 0 AC 0 rfl (Nat.zero_le _) (Ci (by omega))
 rw [show ((0:Nat):Int)=0 from rfl] at this
 rw [this];rfl
theorem L9 {js:List Int} {n:Int} (h64:∀ z∈js,EM z) (hin:∀ z∈js,1≤z∧z≤n) (hl:js.length≤17592186044416) (K:List Int→Int→List Int→Option (List Int×Int)) (u:List Int) (v:Int) : ∀ (m i k:Nat) (t:List Int),m=js.length-i→i≤js.length→m<k→t.length=i →
  CY (1,(false,[],[]),0) n (js.map De) K k u v t (i:Int)=K u v (t++(js.drop i).map fun z=>z-1)
 | m,i,0,t,_,_,h,_=>by omega
 | m,i,k+1,t,hm,hi,hk,ht=>by
  rw [CY,List.length_map]
  by_cases hlt:i<js.length
  ·have hz:=List.getElem_mem hlt
   have e2:w64 (js[i]-1)=js[i]-1:=by have:=h64 _ hz;have:=hin _ hz;exact Es (by unfold EM at *;omega) (by unfold EM at *;omega)
   rw [if_pos (by omega),Cn (i:=i) (by rw [List.length_map];exact hlt),oB,List.getElem_map]
   show ((FE (ofQ ((js[i]:Int):Rat))).bind _)=_
   rw [JP (h64 _ hz),oB]
   dsimp only
   rw [e2,if_neg (by have:=hin _ hz;simp;omega),Gv (by simp;omega),oB,CH (by omega),L9 h64 hin hl K u v (m-1) (i+1) k _ (by omega) (by omega) (by omega) (by simp [ht]),lC hlt,List.map_cons,List.append_assoc]
   rfl
  ·rw [if_neg (by omega),List.drop_of_length_le (by omega)];simp
theorem Uq {a:Arr} {js:List Int} {n:Int} (hi:B9 a=some (js.map De)) (h64:∀ z∈js,EM z) (hin:∀ z∈js,1≤z∧z≤n) (hl:js.length≤17592186044416) : E8 (1,(false,[],[]),0) a n=some (js.map fun z=>z-1,0):=by
 unfold E8
 rw [hi,oB,Jt (p:=fun _=>false) (fun x hx=>by
  obtain ⟨z,hz,rfl⟩:=List.mem_map.1 hx
  show EY (De z)=_
  unfold EY
  rw [if_pos (show (De z).kind=1 from rfl),show (De z).num=ofQ ((z:Int):Rat) from rfl,Oz (Ey (h64 z hz)),oB,dT (Rat.den_intCast _)];rfl) (by rw [List.length_map];exact hl),oB,show ((js.map De).any fun _=>false)=false from by simp,if_neg (by decide),Ch]
 have:=L9 h64 hin hl (fun _ _ (z5:List Int)=>some (z5,(0:Int))) [] 0 js.length 0 AC [] rfl (Nat.zero_le _) (Ci (by omega)) rfl
 rw [List.drop_zero,List.nil_append,show ((0:Nat):Int)=0 from rfl] at this
 exact this
theorem NT {a1:Arr} {d:Int} (hd:rd? a1.shape 0=some d) {is:List Int} (hin:∀ z∈is,0≤z∧z≤4096) (hl:is.length≤4096) (K:List Int→Option (List Int×List Int×Int)) : ∀ (m i k:Nat) (t:List Int),m=is.length-i→i≤is.length→m<k→t.length=i →
  CB a1 0 0 is K k t (i:Int)=K (t++is.drop i)
 | m,i,0,t,_,_,h,_=>by omega
 | m,i,k+1,t,hm,hi,hk,ht=>by
  rw [CB]
  by_cases hlt:i<is.length
  ·have hz:=hin _ (List.getElem_mem hlt)
   have e:w64 (w64 (0 * d)+is[i])=is[i]:=by rw [Int.zero_mul,show w64 0=0 from rfl,Int.zero_add];exact Es (by omega) (by omega)
   rw [if_pos (by omega),Cn hlt,oB,hd,oB,e,Gv (by simp;omega),oB,CH (by omega),NT hd hin hl K (m-1) (i+1) k _ (by omega) (by omega) (by omega) (by simp [ht]),lC hlt,List.append_assoc]
   rfl
  ·rw [if_neg (by omega),List.drop_of_length_le (by omega)];simp
theorem Rd (n:Nat) (h:n≤140737488355328:=by decide) : ∃ k,AC=k+n:=⟨AC-n,by have:=Ci h;omega⟩
theorem QC {a1:Arr} {d:Int} (hd:rd? a1.shape 0=some d) {is:List Int} (hin:∀ z∈is,0≤z∧z≤4096) (hl:is.length≤4096) (K:List Int→Option (List Int×List Int×Int)) : B3 a1 [is] K AC [0] 0=K is:=by
 obtain ⟨k,hk⟩:=Rd 2
 have h10:∀ (K9:List Int→Option (List Int×List Int×Int)),BH a1 [0] K9 0 is AC [] 0=K9 is:=fun K9=>by
  rw [hk]
  rw [BH,if_pos (by decide),Ch,show rd? [(0:Int)] 0=some 0 from rfl,oB]
  have:=NT hd hin hl (fun z35=>BH a1 [0] K9 0 is (k+1) z35 (w64 (0+1))) is.length 0 AC [] rfl (Nat.zero_le _) (Ci (by omega)) rfl
  rw [List.drop_zero,List.nil_append,show ((0:Nat):Int)=0 from rfl] at this
  rw [this,BH,if_neg (by decide)]
 rw [hk]
 rw [B3,if_pos (by simp),Ch,show rd? [is] 0=some is from rfl,oB,Ch,h10]
 show B3 a1 [is] K (k+1) is (w64 (0+1))=_
 rw [B3,if_neg (by rw [show w64 (0+1)=1 from rfl,List.length_singleton];decide)]
theorem Qc {n:Nat} (hn:n≤4096) (K:List Int→Option (List Int×List Int×Int)) : ∀ (m i k:Nat) (t:List Int),m=n-i→i≤n→m<k→t.length=i →
  CS (n:Int) K k t (i:Int)=K (t++((List.range n).drop i).map fun (j:Nat)=>(j:Int))
 | m,i,0,t,_,_,h,_=>by omega
 | m,i,k+1,t,hm,hi,hk,ht=>by
  rw [CS]
  by_cases hlt:i<n
  ·rw [if_pos (by omega),Gv (by simp;omega),oB,CH (by omega),Qc hn K (m-1) (i+1) k _ (by omega) (by omega) (by omega) (by simp [ht]),lC (show i<(List.range n).length by simpa using hlt),List.map_cons,List.append_assoc,List.getElem_range]
   rfl
  ·rw [if_neg (by omega),List.drop_of_length_le (by simp;omega)];simp
theorem SK {xs:List Itm} (h:VR xs) {g:Arr} (og:okAr g) (rg:Bh g) {is:List Int} (hi:E8 (1,(false,[],[]),0) g (xs.length:Int)=some (is,0)) (hin:∀ z∈is,0≤z∧z≤4096) (hl:is.length≤4096) {m:Int} (hm:szP g.shape=(m,0)) (hm0:m≠0) :
  DH (1,(false,[],[]),0) (vec xs) [[g]]=some (is,g.shape,0):=by
 have og':=(BB _).1 og
 unfold DH
 rw [MK (fun x hx=>by
  rw [List.mem_singleton] at hx;subst hx
  show E1 [g]=_
  unfold E1
  rw [if_neg (by simp),if_pos (by simp),show rd? [g] 0=some g from rfl,oB,G8 og,dT rg];rfl) (by simp),oB,if_neg (by decide),if_pos (by simp [vec,Arr.shape]),Ch]
 obtain ⟨k,hk⟩:=Rd 2
 have e7:=QC (a1:=vec xs) (d:=(xs.length:Int)) rfl hin hl (fun z27=>some (z27,g.shape,0))
 rw [hk,BZ,if_pos (by simp),Ch,show rd? [[g]] 0=some [g] from rfl,oB,show rd? (vec xs).shape 0=some (xs.length:Int) from rfl,oB,Ch,if_neg (by simp),show rd? [g] 0=some g from rfl,oB,hi,oB,if_pos rfl,oB,
  Gv (by have:=og'.2.1;simpa using this),oB,Gv (by simp),oB,List.nil_append,List.nil_append]
 dsimp only
 rw [BZ,if_neg (by rw [show w64 (0+1)=1 from rfl,List.length_singleton];decide),HJ og'.2.1,hm,oB,if_pos rfl,if_neg hm0,Ch,← hk,e7]
theorem Tm {xs:List Itm} (h:VR xs) : DH (1,(false,[],[]),0) (vec xs) [[]]=some ((List.range xs.length).map fun (j:Nat)=>(j:Int),[(xs.length:Int)],0):=by
 have hp:=h.pos
 have h2:=h.2.1
 unfold DH
 rw [MK (fun x hx=>by
  rw [List.mem_singleton] at hx;subst hx
  rfl) (by simp),oB,if_neg (by decide),if_pos (by simp [vec,Arr.shape]),Ch]
 obtain ⟨k,hk⟩:=Rd 2
 have hin:∀ z∈(List.range xs.length).map fun (j:Nat)=>(j:Int),0≤z∧z≤4096:=fun z hz=>by
  simp only [List.mem_map,List.mem_range] at hz
  obtain ⟨i,hi,rfl⟩:=hz
  omega
 have e7:=QC (a1:=vec xs) (d:=(xs.length:Int)) rfl hin (by simp [h2]) (fun z27=>some (z27,[(xs.length:Int)],0))
 have e5:=fun (K:List Int→Option (List Int×List Int×Int))=>Qc h2 K xs.length 0 AC [] rfl (Nat.zero_le _) (Ci (by omega)) rfl
 simp only [List.drop_zero,List.nil_append,show ((0:Nat):Int)=0 from rfl] at e5
 rw [hk,BZ,if_pos (by simp),Ch,show rd? [([]:List Arr)] 0=some [] from rfl,oB,show rd? (vec xs).shape 0=some (xs.length:Int) from rfl,oB,Ch,if_pos (by simp),Gv (by simp),oB,Ch,← hk,e5,
  Gv (by simp),oB,List.nil_append,List.nil_append]
 dsimp only
 rw [BZ,if_neg (by rw [show w64 (0+1)=1 from rfl,List.length_singleton];decide),HJ (by simp),show szP [(xs.length:Int)]=((xs.length:Int),0) from h.sz,oB,if_pos rfl,if_neg (by omega),Ch,e7]
theorem RO {a1:Arr} {x2:List Int×List Int×Int} (hin:∀ z∈x2.1,0≤z∧z<(a1.items.length:Int)) (hl:x2.1.length≤4096) (K:List Itm→Option (Arr×Int)) : ∀ (m i k:Nat) (t:List Itm),m=x2.1.length-i→i≤x2.1.length→m<k→t.length=i →
  El a1 x2 K k t (i:Int)=K (t++(x2.1.drop i).map fun z=>a1.items.getD z.toNat default)
 | m,i,0,t,_,_,h,_=>by omega
 | m,i,k+1,t,hm,hi,hk,ht=>by
  rw [El]
  by_cases hlt:i<x2.1.length
  ·have hz:=hin _ (List.getElem_mem hlt)
   obtain ⟨j,hj⟩:∃ j:Nat,x2.1[i]=(j:Int):=⟨x2.1[i].toNat,by omega⟩
   rw [hj] at hz
   have hjl:j<a1.items.length:=by omega
   rw [if_pos (by omega),Cn hlt,oB,hj,Cn hjl,oB,Gv (by simp;omega),oB,CH (by omega),RO hin hl K (m-1) (i+1) k _ (by omega) (by omega) (by omega) (by simp [ht]),lC hlt,List.map_cons,List.append_assoc,hj,Int.toNat_natCast,
    OL hjl]
   rfl
  ·rw [if_neg (by omega),List.drop_of_length_le (by omega)];simp
theorem WB {xs:List Itm} (h:VR xs) {q:List (List Arr)} {is sh:List Int} (hw:DH (1,(false,[],[]),0) (vec xs) q=some (is,sh,0)) (hin:∀ z∈is,0≤z∧z<(xs.length:Int)) (hl:is.length≤4096) (h0:is≠[]) {r:Arr} {e:Int}
  (hr:AX sh (is.map fun z=>xs.getD z.toNat default)=some (r,e)):F7 (1,(false,[],[]),0) (vec xs) q=some (r,e):=by
 unfold F7
 rw [NM h.ok h.2.2.2,oB,if_pos rfl,hw,oB,if_pos rfl,Ch]
 have:=RO (a1:=vec xs) (x2:=(is,sh,0)) hin hl
  (fun z3=>jn (fun (z9:List Itm)=>((AX sh z9).bind fun x12=>(some (x12.1,x12.2)))) fun K2=>(if ((List.length z3:Nat):Int)=0 then ((CQ (vec xs)).bind fun x10=>((ap? 1466015503701 z3 [x10]).bind fun x11=>(K2 x11))) else (K2 z3)))
  is.length 0 AC [] rfl (Nat.zero_le _) (Ci (by omega)) rfl
 rw [List.drop_zero,List.nil_append,show ((0:Nat):Int)=0 from rfl] at this
 rw [this,Ch]
 have hne:¬(((List.length (List.map (fun z=>(vec xs).items.getD z.toNat default) is):Nat):Int)=0):=by
  have:=List.length_pos_iff.2 h0
  rw [List.length_map];omega
 rw [if_neg hne]
 show ((AX sh (is.map fun z=>xs.getD z.toNat default)).bind _)=_
 rw [hr];rfl
theorem M9 (xs:List Itm) : ((List.range xs.length).map fun (j:Nat)=>(j:Int)).map (fun z=>xs.getD z.toNat default)=xs:=by
 apply List.ext_getElem
 ·simp
 ·intro i h1 h2
  simp only [List.getElem_map,List.getElem_range,Int.toNat_natCast]
  exact OL h2
theorem WG {xs:List Itm} (h:VR xs) : F7 (1,(false,[],[]),0) (vec xs) [[]]=some (vec xs,0):=by
 have hp:=h.pos
 refine WB h (Tm h) (fun z hz=>?_) (by simp [h.2.1]) (fun q=>by have:=congrArg List.length q;rw [List.length_map,List.length_range,List.length_nil] at this;omega) ?_
 ·simp only [List.mem_map,List.mem_range] at hz
  obtain ⟨i,hi,rfl⟩:=hz
  omega
 ·rw [M9];exact h.make
theorem Ul {js:List Int} (h0:js≠[]) (hl:js.length≤4096) : JU js=vec (js.map De):=by
 have:js.length≠0:=by simpa using h0
 unfold JU GI vec
 rw [List.length_map,Nat.min_eq_left hl,if_neg this,List.take_of_length_le (by simpa using hl)]
theorem Vx {xs:List Itm} (h:VR xs) {js:List Int} (h0:js≠[]) (hl:js.length≤4096) (hin:∀ z∈js,1≤z∧z≤(xs.length:Int)) {r:Arr} {e:Int} (hr:AX [(js.length:Int)] (js.map fun z=>xs.getD (z-1).toNat default)=some (r,e)) :
  F7 (1,(false,[],[]),0) (vec xs) [[JU js]]=some (r,e):=by
 have h64:∀ z∈js,EM z:=fun z hz=>by have:=hin z hz;have:=h.2.1;exact ⟨by omega,by omega⟩
 have hpos:=List.length_pos_iff.2 h0
 have hit:B9 (JU js)=some (js.map De):=by rw [RF h64,List.take_of_length_le hl]
 have hsh:(JU js).shape=[(js.length:Int)]:=by rw [Ul h0 hl];simp [vec,Arr.shape]
 have hw:=SK h (RK h64) (L1 h64) (Uq hit h64 hin (by omega)) (fun z hz=>by
  obtain ⟨y,hy,rfl⟩:=List.mem_map.1 hz
  have:=hin y hy;have:=h.2.1;omega) (by simpa using hl) (m:=(js.length:Int)) (by rw [hsh];exact I0 hl) (by omega)
 rw [hsh] at hw
 refine WB h hw (fun z hz=>?_) (by simpa using hl) (by simpa using h0) ?_
 ·obtain ⟨y,hy,rfl⟩:=List.mem_map.1 hz
  have:=hin y hy;omega
 ·rw [List.map_map];exact hr
end Go.FL
namespace Go.FL
open Go Go.RowKit
def ALM (P:Program) (C:Cx) (c:Code) (Q:Exit→Env→Ad→Prop) (env:Env) (H:Ad) : Prop :=
 ∀ X a w I μ O,X.nt=C.nt→X.n0=C.n0→X.ne=C.ne→Sim P X env H a w I μ O→LB (om C.ro) 0 P c (PostM P X Q) a w
section
variable {P:Program} {C:Cx} {X:Snap} {o:Oper} {ops:Array Oper} {Q:Exit→Env→Ad→Prop} {env env':Env} {H H':Ad} {a:Act} {w w':World} {I I':Nat→Prop} {μ μ':List Nat} {O O':Nat→Option Loc}
 {K:Env→Ad→Prop} {k:Nat} {l:List Oper}
theorem AWM.loop {c:Code} (h:ALM P C c Q env H) : AWM P C (.loop c) Q env H:=fun X a w I μ O h1 h2 h3 hs=>(h X a w I μ O h1 h2 h3 hs).loop
theorem ALM.gh {c:Code} (g:Gh P C env H env' H') (h:ALM P C c Q env' H') : ALM P C c Q env H:=fun X a w I μ O h1 h2 h3 hs =>
 let ⟨I',O',hs'⟩:=g X a w I μ O h1 h2 h3 hs;h X a w I' μ O' h1 h2 h3 hs'
theorem AWM.skip (h:Q .normal env H) : AWM P C .skip Q env H:=.lift (.skip h)
theorem AWM.exit {id:Nat} (h:Q (.exit id) env H) : AWM P C (.exit id) Q env H:=.lift (.exit h)
theorem AWM.mj {x y:Code} {σ:Type} (I:σ→Prop) (e:σ→Env) (g:σ→Ad) (h1:AW P C x (FI (JR I e g) Q) env H) (h2:∀ s,I s→AWM P C y Q (e s) (g s)) : AWM P C (.seq x y) Q env H :=
 .seqA (h1.mono fun ex env' H' h=>by
  cases ex with
  | normal=>obtain ⟨s,hi,he,hg⟩:=h;subst he;subst hg;exact h2 s hi
  | _=>exact h)
theorem PostM.over {ms:List Deferred} {a1:Act} {w1:World} {env1:Env} {H1:Ad} {I1:Nat→Prop} {μ1:List Nat} {O1:Nat→Option Loc} (hX0:X.n0=0) (s:Sim P {X with dfs:=ms++X.dfs} env1 H1 a1 w1 I1 μ1 O1) (hm:Marks X.K w1 I1 O1 ms) :
  ∃ Y:Snap,Y.nt=X.nt∧Y.n0=X.n0∧Y.ne=X.ne∧Sim P Y env1 H1 a1 w1 I1 μ1 O1∧∀ e a2 w2,PostM P Y Q e a2 w2→PostM P X Q e a2 w2:=by
 obtain ⟨K',hKd⟩:∃ K':Nat→Prop,K'=fun b=>X.K b∨∃ m∈ms,m={target:=.collected b,args:=#[]}:=⟨_,rfl⟩
 have hK':∀ b,K' b→O1 b=none∧b<w1.heap.size:=fun b hb=>by
  rw [hKd] at hb
  rcases hb with hb|⟨m,hm1,hm2⟩
  ·exact ⟨s.kO b hb,nL (s.klt b hb) s.size⟩
  ·obtain ⟨D,e1,e2,e3,e4,_⟩:=hm.2 m hm1
   rw [hm2] at e1;simp at e1;subst e1
   exact ⟨e3,(Array.getElem?_eq_some_iff.1 e2).1⟩
 have hr:=s.recast (s.toMem.reroot hX0 hK') rfl rfl rfl
 refine ⟨{X with w:=w1,I:=I1,K:=K',μ:=μ1,dfs:=ms++X.dfs},rfl,rfl,rfl,hr,fun e a2 w2 ⟨env2,H2,I2,μ2,O2,ms2,s2,q2,hm2⟩=>?_⟩
 refine ⟨env2,H2,I2,μ2,O2,ms2++ms,?_,q2,?_⟩
 ·have hu:Mem P X H2 w2 I2 μ2 O2:=(s.toMem.cast (Y:=X) rfl rfl rfl rfl rfl rfl).unroot hX0 (K':=K') (fun b hb=>by rw [hKd];exact .inl hb) (s2.toMem.cast rfl rfl rfl rfl rfl rfl)
  exact ⟨hu.cast rfl rfl rfl rfl rfl rfl,s2.envr,s2.nt,by rw [s2.dfs.1];simp,s2.dfs.2⟩
 ·refine ⟨List.nodup_append.2 ⟨hm2.1,hm.1,fun x hx y hy e=>?_⟩,fun m hmm=>?_⟩
  ·subst e
   obtain ⟨D,rfl,_,_,_,hk⟩:=hm2.2 x hx
   exact hk (by show K' D;rw [hKd];exact .inr ⟨_,hy,rfl⟩)
  rcases List.mem_append.1 hmm with hmm|hmm
  ·obtain ⟨D,e1,e2,e3,e4,e5⟩:=hm2.2 m hmm
   exact ⟨D,e1,e2,e3,e4,fun hk=>e5 (by show K' D;rw [hKd];exact .inl hk)⟩
  ·obtain ⟨D,rfl,e2,e3,e4,e5⟩:=hm.2 m hmm
   have hkD:K' D:=by rw [hKd];exact .inr ⟨_,hmm,rfl⟩
   exact ⟨D,rfl,(s2.prot D hkD).trans e2,s2.kO D hkD,fun hi=>e4 (s2.kI D hkD hi),e5⟩
theorem ALM.round (h0:C.n0=0) {c:Code} (h:AWM P C c (FI (ALM P C c Q) Q) env H) : ALM P C c Q env H:=fun X a w I μ O h1 h2 h3 hs =>
 .round (wpIn_mono (h X a w I μ O h1 h2 h3 hs) fun e a1 w1 ⟨env',H',I',μ',O',ms,s,q,hm⟩=>by
  cases e with
  | normal =>
   obtain ⟨Y,y1,y2,y3,y4,y5⟩:=PostM.over (Q:=Q) (by omega) s hm
   have hl:=q Y a1 w1 I' μ' O' (y1.trans h1) (y2.trans h2) (y3.trans h3) y4
   intro b k cs hro hb hr
   obtain ⟨e2,a2,w2,p1,p2⟩:=hl b k cs hro hb hr
   exact ⟨e2,a2,w2,y5 _ _ _ p1,p2⟩
  | _=>exact ⟨env',H',I',μ',O',ms,s,q,hm⟩)
theorem ALM.ind (h0:C.n0=0) {c:Code} {σ:Type} (m:σ→Nat) (e:σ→Env) (h:σ→Ad) (I:σ→Prop)
  (step:∀ s,I s→(∀ s',I s'→m s'<m s→ALM P C c Q (e s') (h s'))→AWM P C c (FI (ALM P C c Q) Q) (e s) (h s)):∀ s,I s→ALM P C c Q (e s) (h s):=by
 suffices H:∀ n s,m s=n→I s→ALM P C c Q (e s) (h s) from fun s hs=>H _ s rfl hs
 intro n
 induction n using Nat.strongRecOn with
 | ind n ih =>
  intro s hm hs
  exact .round h0 (step s hs fun s' h1 h2=>ih (m s') (by omega) s' rfl h1)
theorem Sim.storeBA {id blk:Nat} (hm:μ[id]?=some blk) (hn:X.n0≤id) : ∀ (us:List Value) (k:Nat) (ds zs:List DV) (H:Ad) (w:World) (O:Nat→Option Loc),Sim P X env H a w I μ O→H[id]?=some (.box (zs.map .d))→zs.length=k+us.length →
  RepAll w I ds us→(∀ u∈us,u.oneCell'=true)→∃ w' O',(storeCells ⟨blk,0,none⟩ us k).run P w=.ok () w'∧Sim P X env (H.set id (.box ((zs.take k++ds).map .d))) a w' I μ O'
 | [],k,ds,zs,H,w,O,hs,hH,hl,hr,h1=>by
  cases hr
  rw [List.append_nil,List.take_of_length_le (by simp at hl;omega),List.set_same _ _ hH]
  exact ⟨w,O,rfl,hs⟩
 | u::us,k,ds,zs,H,w,O,hs,hH,hl,hr,h1=>by
  cases hr with
  | @cons d _ ds _ hd ht =>
   rw [List.length_cons] at hl
   have hu:=h1 u (by simp)
   have hkl:k<zs.length:=by omega
   obtain ⟨q1,⟨u0,q2⟩,q3⟩:=hs.storeC (off:=k) (c:=.d zs[k]) (av:=.d d) (v:=u) (hbs:=[]) hH (by rw [List.getElem?_map,lG hkl];rfl) hm hn (.d hd) nN (by simp)
   have hIb:¬I blk:=by
    obtain ⟨blk',bs,g1,g2,g3,g4⟩:=hs.heap id _ hH
    rw [hm] at g1;cases g1
    exact (hs.own blk _ ((g3 hn).2 blk (by simp))).2
   have hst:(store ((⟨blk,0,none⟩:Addr).add k) u).run P w=.ok () (w.setCell ⟨blk,k,none⟩ u):=by
    have hadd:(⟨blk,0,none⟩:Addr).add k=⟨blk,k,none⟩:=by unfold Addr.add;split<;>simp_all
    rw [hadd,run_store P w _ u _ hu,q2]
    simp [q3]
   have hset:D3 H id k (.d d)=H.set id (.box ((zs.set k d).map .d)):=by
    simp only [D3,hH];rw [List.map_set]
   rw [hset] at q1
   have hid:id<H.length:=(lS.1 hH).1
   obtain ⟨w2,O2,z1,z2⟩:=Sim.storeBA hm hn us (k+1) ds (zs.set k d) _ _ _ (show Sim P X env _ a _ I μ _ from q1) (by simp [hid]) (by simp;omega)
    (ht.keep (fun b' hb'=>heap_setCell_other w ⟨blk,k,none⟩ b' u fun e=>hIb (by rw [← (show b'=blk from e)];exact hb')) fun _ h=>h) fun u hu=>h1 u (by simp [hu])
   refine ⟨w2,O2,?_,?_⟩
   ·simp only [storeCells,Sem.run_bind,hst,Result.andThen_ok,z1]
   ·have t1:(zs.set k d).take (k+1)=zs.take k++[d]:=by
     rw [List.take_add_one,List.getElem?_set_self (by omega),List.take_set_of_le (Nat.le_refl k)];rfl
    rw [t1,List.set_set] at z2
    simpa using z2
theorem Yz {x y:Operand} {ty id:Nat} {zs ds:List DV} {bx:List AV} (hH:H[id]?=some (.box bx)) (hb:bx=zs.map .d) (hl:zs.length=ds.length) (h:RL P C ops Q (k+1) l env (H.set id (.box (ds.map .d)))) (hsz:AA P ty=ds.length) (hp:0<ds.length) (hg:grd ops env o true=true:=by rfl)
  (ho:o.op=.store ty x y:=by rfl) (hv:lk env x=.bp id 0:=by rfl) (hy:lk env y=.d (.ag ds):=by rfl) (h1:ds.all DV.leaf=true:=by rfl) (hd:o.dst=none:=by rfl) (h0:C.n0=0:=by rfl):RL P C ops Q k (o::l) env H:=by
 subst hb
 obtain ⟨g1,g2⟩:=Au hv (by simp)
 refine .go hg (.done (by simp [ho]) hd (fun X a w I μ O _ e2 _ hs=>?_) h)
 have hr:=hs.deep (x:=y) (v:=.ag ds) (by rw [hy];rfl)
 generalize hev:a.eval y=u at hr
 cases hr with
 | ag _ vs hr =>
  obtain ⟨blk,hm,he⟩:=hs.bp g1 g2
  have hvl:vs.length=ds.length:=hr.length.symm
  obtain ⟨w',O',z1,z2⟩:=Sim.storeBA hm (by omega) vs 0 ds zs H w O hs hH (by omega) hr (hr.one h1)
  refine ⟨w',I,μ,O',?_,?_⟩
  ·have hs':(sizeOf ty).run P w=.ok vs.length w:=by rw [hvl,← hsz];exact GE (by omega)
   have hsv:(storeVar ty ⟨blk,0,none⟩ (.agg vs.toArray)).run P w=.ok () w':=by
    simp [storeVar,hs',Value.cells,z1]
   simp only [execOp,ho,he,hev,Instr.storeAt,Instr.sureAddr,Sem.run_bind,Sem.run_pure,Result.andThen_ok,hsv]
  ·simpa using z2
end
def R6 {α σ:Type} (f:Int→α→σ→Option σ) (xs:List α) : Nat→σ→Option σ
 | 0,s=>some s
 | n+1,s=>(xs[n]?).bind fun x=>(f ((n:Nat):Int) x s).bind fun s'=>R6 f xs n s'
theorem Sg {α σ:Type} {f:Int→α→σ→Option σ} {xs:List α} : ∀ (n:Nat) {s z:σ},R6 f xs n s=some z→∃ T : Nat→σ,T 0=s∧T n=z∧∀ k,k<n→∃ x,xs[n-1-k]?=some x∧f ((n-1-k:Nat) : Int) x (T k)=some (T (k+1))
 | 0,s,z,h=>⟨fun _=>s,rfl,oI h,fun k hk=>absurd hk (Nat.not_lt_zero k)⟩
 | n+1,s,z,h=>by
  simp only [R6,Option.bind_eq_some_iff] at h
  obtain ⟨x,hx,s',hf,h⟩:=h
  obtain ⟨T,t1,t2,t3⟩:=Sg n h
  refine ⟨fun k=>if k=0 then s else T (k-1),rfl,by simp [t2],fun k hk=>?_⟩
  cases k with
  | zero=>exact ⟨x,by simpa using hx,by simpa [t1] using hf⟩
  | succ k =>
   obtain ⟨y,y1,y2⟩:=t3 k (by omega)
   rw [show n+1-1-(k+1)=n-1-k by omega]
   exact ⟨y,y1,by simpa using y2⟩
theorem Tl (cells:Array Value) (n:Nat) : (madeCells cells ((n+1) * cells.size)).toList=cells.toList++(madeCells cells (n * cells.size)).toList:=by
 apply List.ext_getElem
 ·simp [madeCells,Nat.add_mul,Nat.add_comm]
 ·intro j h1 h2
  rw [List.getElem_append]
  split
  ·rename_i hj
   simp only [Array.length_toList] at hj
   simp [madeCells,Nat.mod_eq_of_lt hj,hj]
  ·rename_i hj
   simp only [Array.length_toList,Nat.not_lt] at hj
   simp [madeCells,Nat.mod_eq_sub_mod hj]
theorem NK {w:World} {I:Nat→Prop} {cs:List DV} {cells:Array Value} (h:RepAll w I cs cells.toList) (h1:∀ u∈cells.toList,u.oneCell'=true) : ∀ n,RepRows w I cells.size (List.replicate n (.ag cs)) (madeCells cells (n * cells.size)).toList
 | 0=>by
  have:(madeCells cells (0 * cells.size)).toList=[]:=by simp [madeCells]
  rw [this];exact .nil _
 | n+1=>by
  rw [Tl cells n,List.replicate_succ]
  exact .cons (by simp) h1 h (NK h h1 n)
section
variable {P:Program} {C:Cx} {o:Oper} {ops:Array Oper} {Q:Exit→Env→Ad→Prop} {env:Env} {H:Ad} {K:Env→Ad→Prop} {k:Nat} {l:List Oper}
theorem UP {l c:Operand} {ty t e by_ sz:Nat} {z:Value} {cs:List DV} {k k':IntKind} {n:Nat} (ho:o.op=.makeSlice ty l c) (hd:o.dst=some t) (ht:okT C.nt t) (hT:Cf P ty=some (e,sz,by_,z)) (hzs:z.cells.size=sz) (h0:0<sz) (hz:∀ w I,RepAll w I cs z.cells.toList) (hlf:cs.all DV.leaf=true)
  (hl:lk env l=.d (.i k n)) (hc:lk env c=.d (.i k' n)) (hby:by_ * n≤281474976710656) (h63:n≤maxLen)
  (hK:K (put env t (.own e (List.replicate n (.ag cs)))) H):OpOK P C o env H K :=
 .val (by simp [ho]) hd ht (fun X a w I μ O _ _ _ hs=>by
  obtain ⟨i,i1,i2,i3,i4,i5,i6,i7,i8⟩:=Df hT
  have e1:a.eval l=.int k n:=by
   have hr:=hs.deep (x:=l) (v:=.i k n) (by rw [hl];rfl)
   generalize a.eval l=u at hr
   cases hr;rfl
  have e2:a.eval c=.int k' n:=by
   have hr:=hs.deep (x:=c) (v:=.i k' n) (by rw [hc];rfl)
   generalize a.eval c=u at hr
   cases hr;rfl
  obtain ⟨w',q1,q2,q3⟩:=run_make_full w 0 ty e i z sz i1 i2 i3 i4 k k' n (by rw [i5];exact hby) h63 (Nat.zero_le _)
  have h2:=hs.grownR q3 fun b hb=>(by cases hb)
  have hO:∀ b,w.heap.size≤b→O b=none:=fun b hb=>by
   cases hx:O b with
   | none=>rfl
   | some l=>have:=(hs.own b l hx).1;omega
  have h3:=h2.newR (Bm (.slice (some ⟨w.heap.size,0,none⟩) n n)) fun b hb=>by
   have hlt:=(OwnR.of q2).lt b hb
   have:b=w.heap.size:=by
    simp only [Bm] at hb
    split at hb<;>simp at hb
    exact hb
   subst this
   exact ⟨hlt,.inl (hO _ (Nat.le_refl _)),fun hi=>by have:=hs.ilt _ hi;omega,fun hk=>by have:=hs.klt _ hk;have:=hs.size;omega⟩
  refine ⟨.slice (some ⟨w.heap.size,0,none⟩) n n,w',I,μ,_,?_,h3,Bm (.slice (some ⟨w.heap.size,0,none⟩) n n),?_,GK _,fun b hb=>by simp [hb]⟩
  ·simp only [execOp,ho,e1,e2,q1,Sem.run_bind,Result.andThen_ok,Sem.run_pure]
  ·have hrow:=NK (cs:=cs) (cells:=z.cells) (hz w' I) ((hz w' I).one hlf) n
   rw [hzs] at hrow
   exact .own e _ _ _ (by omega) (by rw [List.length_replicate,i8];exact .of q2) (by rw [i8];exact hrow)) hK
theorem YT {α:Type} {F:List α→List DV} {x0:α} {x c:Operand} {ty t e by_ sz:Nat} {z:Value} {cs:List DV} {q q':IntKind} {zl:Int} (n:Nat) (hF:List.replicate n (.ag cs)=F (List.replicate n x0)) (hn:zl=n) (hb:by_ * n≤281474976710656∧n≤9223372036854775807) (h:RL P C ops Q (k+1) l ((t,.own e (F (List.replicate n x0)))::env) H)
  (hT:Cf P ty=some (e,sz,by_,z)) (hz:∀ w I,RepAll w I cs z.cells.toList) (hzs:z.cells.size=sz:=by rfl) (h0:0<sz:=by decide) (hlf:cs.all DV.leaf=true:=by rfl) (hg:grd ops env o true=true:=by rfl) (ho:o.op=.makeSlice ty x c:=by rfl) (hx:lk env x=.d (.i q zl):=by rfl) (hc:lk env c=.d (.i q' zl):=by rfl) (hd:o.dst=some t:=by rfl)
  (hf:An (get env t)=false:=by rfl) (ht:okT C.nt t:=by rfl):RL P C ops Q k (o::l) env H:=by
 subst hn
 rw [← Ak hf] at h
 exact .go hg (UP ho hd ht hT hzs h0 hz hlf hx hc hb.1 (by simpa [maxLen] using hb.2) (by rw [hF];exact h))
end
def Qj (n:Nat) : AV→Bool
 | .bp i _=>Nat.blt i n
 | .ref (.c i _) _ _=>Nat.blt i n
 | .ep (.c i _) _ _=>Nat.blt i n
 | av=>noBp av
section
variable {P:Program} {C:Cx} {X:Snap} {o:Oper} {ops:Array Oper} {Q:Exit→Env→Ad→Prop} {env env':Env} {H H':Ad} {a:Act} {w w':World} {I I':Nat→Prop} {μ μ':List Nat} {O O':Nat→Option Loc}
 {K:Env→Ad→Prop} {k:Nat} {l:List Oper}
theorem AL.gh2 {c:Code} (g:Gh2 P C env H env' H') (h:AL P C c Q env' H') : AL P C c Q env H:=fun X a w I μ O h1 h2 h3 hs =>
 let ⟨I',μ',O',hs'⟩:=g X a w I μ O h1 h2 h3 hs;h X a w I' μ' O' h1 h2 h3 hs'
theorem ALM.gh2 {c:Code} (g:Gh2 P C env H env' H') (h:ALM P C c Q env' H') : ALM P C c Q env H:=fun X a w I μ O h1 h2 h3 hs =>
 let ⟨I',μ',O',hs'⟩:=g X a w I μ O h1 h2 h3 hs;h X a w I' μ' O' h1 h2 h3 hs'
theorem AWM.gh2 {c:Code} (g:Gh2 P C env H env' H') (h:AWM P C c Q env' H') : AWM P C c Q env H:=fun X a w I μ O h1 h2 h3 hs =>
 let ⟨I',μ',O',hs'⟩:=g X a w I μ O h1 h2 h3 hs;h X a w I' μ' O' h1 h2 h3 hs'
theorem Gh2.cut {H0:Ad} (G:Ad) (hH:H=H0++G) (hb:(env.all fun x=>Qj H0.length x.2)=true) (hb0:H0.all Wy=true) (hne:Nat.ble C.ne H0.length=true) : Gh2 P C env H env H0:=fun X a w I μ O _ h2 h3 hs=>by
 subst hH
 have hne':X.ne≤H0.length:=by rw [h3];exact Nat.le_of_ble_eq_true hne
 have hμt:∀ i,i<H0.length→(μ.take H0.length)[i]?=μ[i]?:=fun i hi=>by rw [List.getElem?_take,if_pos hi]
 refine ⟨I,μ.take H0.length,O,{
  prot:=hs.prot,kO:=hs.kO,kI:=hs.kI,mono:=hs.mono,os:=hs.os,tape:=hs.tape,output:=hs.output,size:=hs.size,own:=hs.own,ilt:=hs.ilt
  μlen:=by rw [List.length_take,hs.μlen];simp
  μpre:=fun i b hi hb=>by rw [hμt i (by omega)];exact hs.μpre i b hi hb
  nle:=hne'
  heap:=fun id ob ho=>?_
  klt:=hs.klt
  n0le:=hs.n0le
  envr:=fun s=>?_
  nt:=hs.nt
  dfs:=hs.dfs}⟩
 ·have hlt:=(lS.1 ho).1
  obtain ⟨bb,bs',q1,q2,q3,q4⟩:=hs.heap id ob (by rw [List.getElem?_append_left hlt];exact ho)
  refine ⟨bb,bs',by rw [hμt id hlt];exact q1,?_,q3,q4⟩
  have hnb:Wy ob=true:=List.all_eq_true.1 hb0 ob (List.mem_of_getElem? ho)
  cases ob with
  | box c =>
   obtain ⟨cl,et,n1,n2⟩:=q2
   exact ⟨cl,et,n1,n2.noBp (μ':=μ.take H0.length) hnb⟩
 ·have hp:=Pb (p:=Qj H0.length) rfl hb s
  have ht:=hs.envr s
  have plain:∀ av,get env s=av→noBp av=true→AY av=false→TRep P env H0 a w I (μ.take H0.length) O s av:=by
   intro av hav hn hr
   rw [hav] at ht
   obtain ⟨bs,g1,g2,g3⟩:=ht.plain hr
   exact .of (g1.noBp (μ':=μ.take H0.length) hn) g2 g3
  have place:∀ (p:Pl) e xs,(∀ id off,p=.c id off→id<H0.length)→AH env (H0++G) p=.own e xs→AH env H0 p=.own e xs∧∀ v,A6 a w μ p=some v→A6 a w (μ.take H0.length) p=some v:=fun p e xs hl hp=>by
   cases p with
   | t n=>exact ⟨hp,fun v hv=>hv⟩
   | c id off =>
    have hid:=hl id off rfl
    refine ⟨?_,fun v hv=>?_⟩
    ·simp only [AH] at hp ⊢
     rw [List.getElem?_append_left hid] at hp;exact hp
    ·simp only [A6] at hv ⊢
     rw [hμt id hid];exact hv
  cases hgs:get env s with
  | bp i off =>
   rw [hgs] at hp ht
   obtain ⟨bs,g1,g2,g3⟩:=ht.plain rfl
   have hi:i<H0.length:=by simp [Qj,Nat.blt] at hp;omega
   refine .of (bs:=bs) ?_ g2 g3
   generalize a.tmps.getD s undef=v at g1
   cases g1 with
   | bp _ _ blk' hb'=>exact .bp i off blk' (by rw [hμt i hi];exact hb')
  | ref p off len =>
   rw [hgs] at hp ht
   obtain ⟨e',xs,A,n,c,g1,g2,g3,g4⟩:=ht
   obtain ⟨p1,p2⟩:=place p e' xs (fun id off h=>by subst h;simp [Qj,Nat.blt] at hp;omega) g1
   exact ⟨e',xs,A,n,c,p1,p2 _ g2,g3,g4⟩
  | ep p i k =>
   rw [hgs] at hp ht
   obtain ⟨e',xs,b,n,c,g1,g2,g3,g4,g5⟩:=ht
   obtain ⟨p1,p2⟩:=place p e' xs (fun id off h=>by subst h;simp [Qj,Nat.blt] at hp;omega) g1
   exact ⟨e',xs,b,n,c,p1,p2 _ g2,g3,g4,g5⟩
  | _ =>
   rw [hgs] at hp
   exact plain _ hgs hp rfl
end
end Go.FL
namespace Go.FL
open Go Go.Proofs
def Pq (xs:List RT) : List (List DV):=(List.range xs.length).map fun k=>match xs[xs.length-1-k]? with
 | some x=>[.i .i64 ((xs.length-1-k:Nat):Int),.ag [.b x.1,.sl (L x.2.1),.sl (L x.2.2)]]
 | none=>[]
theorem Pn {xs:List RT} {k:Nat} {x:RT} (hk:k<xs.length) (h:xs[xs.length-1-k]?=some x) : (Pq xs)[k]?=some [.i .i64 ((xs.length-1-k:Nat) : Int),.ag [.b x.1,.sl (L x.2.1),.sl (L x.2.2)]]:=by simp [Pq,hk,h]
theorem Iv (xs:List RT) : (Pq xs).length=xs.length:=by simp [Pq]
theorem T7 (xs:List RT) : ∀ ds∈Pq xs,ds.length=2:=fun ds hd=>by
 obtain ⟨k,hk⟩:=List.getElem?_of_mem hd
 have hkl:k<xs.length:=by rw [← Iv];exact (lS.1 hk).1
 rw [Pn hkl (lG (by omega))] at hk
 cases hk;rfl
theorem Xc (xs:List DV) : Fn Tryz.prog 102 [.sl xs] (.d (.fn 158 [] [.ptr [.sl xs]])):=by
 refine Fn.of (rs:=[.tmp 2]) (nt:=4) Tryz.func102 rfl rfl rfl (by simp) rfl ?_;refine .seq ?_;refine .region ?_;refine bxd ?_;refine asd ?_;refine rn ?_;refine .seq ?_;refine .region ?_;refine mkf ?_;refine asd ?_;refine rn ?_;refine .ret ?_
 exact ⟨rfl,rfl⟩
set_option maxRecDepth 10000 in
theorem WV {xs:List RT} (hl:xs.length≤9223372036854775806) {m:Nat} (hm:xs.length≤m) : ItG Tryz.prog 158 [.ptr [.sl (RVs xs)]] (Pq xs) m:=by
 have hyl:=Iv xs
 refine ItG.of Tryz.func158 rfl rfl (nt:=19) rfl (by simp) fun lp J hJ hR=>?_;refine .seq ?_;refine .lift ?_;refine .region ?_;refine vk (Am O8) ?_;refine vk (AU (BU _) (GS _) Io) ?_;refine vk (vbi) ?_;refine asd ?_;refine .nil ?_
 show AWJ _ _ _ _ _ _ _ _ _
 refine .block ?_;refine ALJ.loop ?_;refine ALJ.gh (Gh.keep [0,1,3] rfl) ?_
 rw [show DV.i .i64 (IntKind.wrap .i64 (((List.length xs:Nat):Int)-1))=.i .i64 (((List.length xs:Nat):Int)-1-((0:Nat):Int)) from by
  congr 1;simp only [IntKind.wrap,IntKind.bits,IntKind.signed];simp;omega]
 refine ALJ.ind (σ:=Nat) (m:=fun i=>xs.length-i) (e:=fun i=>[(0,.d (.yl lp)),(1,.d (.ptr [.sl (RVs xs)])),(3,.d (.i .i64 (((List.length xs:Nat):Int)-1-((i:Nat):Int))))]) (h:=fun _=>[]) (r:=fun i=>i) (I:=fun i=>i≤xs.length) ?_ 0 (Nat.zero_le _)
 rintro i hi ih
 refine .seq ?_;refine .seq ?_;refine .lift ?_;refine .region ?_;refine vk (Aa) ?_;refine vk (vbi) ?_;refine .nil ?_
 show AWJ _ _ _ _ _ _ _ _ _
 by_cases hc:(0:Int)≤((List.length xs:Nat):Int)-1-((i:Nat):Int)
 ·refine .cond (x:=true) (by show AV.d (.b (decide _))=_;rw [dT hc]) (fun _=>?_) (fun h=>by cases h)
  have hlt:i<xs.length:=by omega
  have hj:xs.length-1-i<xs.length:=by omega
  have hij:((List.length xs:Nat):Int)-1-((i:Nat):Int)=((xs.length-1-i:Nat):Int):=by omega
  have hxi:=lG hj
  generalize xs[xs.length-1-i]=x at hxi
  refine .skip ?_
  show AWJ _ _ _ _ _ _ _ _ _
  refine .seq ?_;refine .block ?_;refine .seq ?_;refine .region ?_;refine vkJ (Aa) ?_;refine vkJ (Aa) ?_;refine vkJ (Am O8) ?_;refine vkJ (Aa) ?_;refine vkJ (vix (xs.length-1-i) hij (KH hxi) rfl Ot) ?_;refine vkJ (Aq AP Az) ?_
  refine yld (hR i [.i .i64 ((xs.length-1-i:Nat):Int),.ag [.b x.1,.sl (L x.2.1),.sl (L x.2.2)]] (Pn hlt hxi) (by omega)) hJ ?_ (ha:=by show some _=some _;rw [hij];rfl)
  refine vkJ (vnt) ?_;refine .nil ?_
  show AWJ _ _ _ _ _ _ _ _ _
  refine .cond (x:=false) (by show AV.d (.b (!decide _))=_;rw [dT (by omega:i<m)];rfl) (fun h=>by cases h) (fun _=>?_)
  refine .skip ?_
  show AWJ _ _ _ _ _ _ _ _ _
  refine .lift ?_;refine .region ?_;refine vk (Aa) ?_;refine vk (vbi) ?_;refine asd ?_;refine .nil ?_
  show ALJ _ _ _ _ _ _ _ _ _
  have hw:IntKind.wrap .i64 (((List.length xs:Nat):Int)-1-((i:Nat):Int)-1)=((List.length xs:Nat):Int)-1-((i+1:Nat):Int):=by simp only [IntKind.wrap,IntKind.bits,IntKind.signed];simp;omega
  rw [hw]
  refine ALJ.gh (Gh.keep [0,1,3] rfl) ?_
  exact ih (i+1) hlt (by omega)
 ·refine .cond (x:=false) (by show AV.d (.b (decide _))=_;rw [dF hc]) (fun h=>by cases h) (fun _=>?_)
  refine .exit ?_
  exact ⟨.inl rfl,by rw [hyl];omega⟩
end Go.FL
namespace Go.FL
open Go Go.RowKit
def cell1 (P:Program) (env:Env) (t ty:Nat) (d:DV) : Prop:=(get env t=.d (.ptr [d])∨get env t=.nb [d])∧Cb P ty=some false
def WR (P:Program) (env:Env) (r:AV) : List ResultVar→Prop
 | [.cell x tx,.cell y ty]=>∃ cs d,cellD P env x tx cs∧cell1 P env y ty d∧r=.tup [.d (.ag cs),.d d]
 | _=>False
def XZ (P:Program) (rs:List ResultVar) (r:AV) : Exit→Env→Ad→Prop:=fun e env _=>(e=.normal∨e=.ret)∧WR P env r rs
section
variable {P:Program} {X:Snap} {env:Env} {H:Ad} {a:Act} {w:World} {I:Nat→Prop} {μ:List Nat} {O:Nat→Option Loc}
theorem Sim.cell1 (hs:Sim P X env H a w I μ O) {t ty:Nat} {d:DV} (h:Go.FL.cell1 P env t ty d) : ∃ p v,a.tmps.getD t undef=.pointer (some p)∧(loadVar ty p).run P w=.ok v w∧Rep w I d v:=by
 obtain ⟨h1,h2⟩:=h
 rcases h1 with h1|h1
 ·have:=hs.envr t
  rw [h1] at this
  obtain ⟨bs,g1,_⟩:=this.plain rfl
  generalize a.tmps.getD t undef=u at g1
  cases g1 with
  | d g1 =>
   cases g1 with
   | ptr _ b off vs k1 k2 k3 =>
    cases k3 with
    | @cons _ v _ _ hd t =>
     cases t
     exact ⟨_,v,rfl,Bi h2 (by have:=k2 0 v rfl;simpa using this),hd⟩
 ·obtain ⟨blk,cells,e,g1,g2,g3,_⟩:=hs.nb_inv h1
  generalize hc:cells.toList=l at g3
  cases g3 with
  | @cons _ v _ _ hd t =>
   cases t
   refine ⟨_,v,g1,Bi h2 ?_,hd⟩
   have:cells[0]?=some v:=by rw [← Array.getElem?_toList,hc];rfl
   simp [World.cell?,g2,this]
theorem Sim.resultsB (hs:Sim P X env H a w I μ O) {fn:Func} {rs:List ResultVar} (hrs:fn.results=rs.toArray) {r:AV} (h:WR P env r rs) :
  ∃ v bs,(Go.results fn a.tmps).run P w=.ok v w∧ARep P w I μ r v bs∧bs.Nodup∧∀ b∈bs,∃ l,O b=some l:=by
 unfold WR at h
 split at h
 ·obtain ⟨cs,d,kx,ky,rfl⟩:=h
  obtain ⟨px,wx,ex,fx,rx⟩:=hs.cellD kx
  obtain ⟨py,wy,ey,fy,ry⟩:=hs.cell1 ky
  exact ⟨_,[],Of (by rw [hrs]) (by simp [Hw,ex,asAddr,fx]) (by simp [Hw,ey,asAddr,fy]),.tup (ARepAll.cons (b1:=[]) (b2:=[]) (.d rx) (ARepAll.cons (b1:=[]) (b2:=[]) (.d ry) .nil)),nN,by simp⟩
 ·exact h.elim
theorem Fn.ofMB {f:FuncId} {fn:Func} {c:Code} {args:List DV} {r:AV} {rs:List ResultVar} {nt:Nat} (hf:P.funcs[f]?=some fn) (hb:fn.body=some c) (hrs:fn.results=rs.toArray) (hnt:fn.ntmps=nt) (hn:args.length≤nt) (hbp:noBp r=true)
  (h:AWM P {nt:=(0,nt),n0:=0,ne:=0} c (XZ P rs r) (Dc 0 args) []):Fn P f args r:=by
 intro w I vs hI ha
 refine callsIn_of_wp_marks hf hb trivial ?_
 have hlen:=ha.length
 let X:Snap:={w:=w,I:=I,K:=fun b=>b<w.heap.size,n0:=0,ne:=0,μ:=[],nt:=(0,nt),dfs:=[]}
 let a:Act:={tmps:=vs.toArray++Array.replicate (fn.ntmps-vs.toArray.size) undef,defers:=[]}
 have hs:Sim P X (Dc 0 args) [] a w I [] (fun _=>none):=by
  refine ⟨{prot:=fun _ _=>rfl,kO:=fun _ _=>rfl,kI:=fun _ _ h=>h,mono:=fun _ h=>h,os:=rfl,tape:=rfl,output:=rfl,size:=Nat.le_refl _,own:=(fun b l h=>by simp at h),ilt:=hI,μlen:=rfl,μpre:=(fun i b hi _=>by simp [X] at hi),nle:=(by simp [X]),heap:=(fun id o h=>by simp at h),klt:=fun b hb=>hb,n0le:=(by simp [X])},fun t=>?_,?_,rfl,fun t h=>absurd h (by simp [X])⟩
  ·rcases Eo (tmps:=a.tmps) (k:=0) ha (fun j v hj=>by
    have hjl:j<vs.length:=(lS.1 hj).1
    have e2:(vs.toArray++Array.replicate (fn.ntmps-vs.length) undef)[j]?=some v:=by
     rw [Array.getElem?_append_left (by simpa using hjl)];simpa using hj
    simp [a,e2]) t with h0|⟨d,h0,h1⟩
   ·rw [h0];exact .un
   ·rw [h0];exact .of (bs:=[]) (.d h1) nN (by simp)
  ·simp [a,X,hnt];omega
 have hw:=h X a w I [] (fun _=>none) rfl rfl rfl hs
 refine wpIn_mono hw fun e a' w' hp=>?_
 obtain ⟨env',H',I',μ',O',ms,s,⟨he,q⟩,hm⟩:=hp
 have hdf:a'.defers=ms:=by rw [s.dfs.1];simp [X]
 have fin:LeavesInM (om none) 0 P fn a'.tmps (fun e w'=>∃ v I' bs,e=.returned v∧Below w.heap.size w w'∧(∀ b,I b→I' b) ∧
   (∀ b,I' b→b<w'.heap.size∧(b<w.heap.size→I b))∧ARep P w' I' [] r v bs∧bs.Nodup∧∀ b∈bs,w.heap.size≤b∧b<w'.heap.size∧¬I' b) a'.defers .returning w':=by
  rw [hdf]
  refine Hr (fun w4 s4=>?_) ms w' s hm
  obtain ⟨v,bs,h1,h2,h3,h4⟩:=s4.resultsB hrs q
  refine ⟨v,h1,v,I',bs,rfl,⟨s4.os,s4.tape,s4.output,s4.size,fun b hb=>s4.prot b hb⟩,s4.mono,fun b hi=>⟨s4.ilt b hi,fun hb=>s4.kI b hb hi⟩,h2.noBp hbp,h3,fun b hm=>?_⟩
  obtain ⟨l,hl⟩:=h4 b hm
  refine ⟨?_,(s4.own b l hl).1,(s4.own b l hl).2⟩
  rcases Nat.lt_or_ge b w.heap.size with hlt|hge
  ·have:=s4.kO b hlt;rw [this] at hl;cases hl
  ·exact hge
 rcases he with rfl|rfl<;>exact fin
end
end Go.FL
namespace Go.FL
open Go Go.Proofs
def Dn (x1:(List Itm)) (K0:(List RT)→Int→(List RT)→Option ((List RT)×Int)) : Nat→(List RT)→Int→(List RT)→Int→Option ((List RT)×Int)
 | 0,_,_,_,_=>none
 | k+1,s5,s6,s7,s8=>(if s8<((List.length x1:Nat):Int) then ((rd? x1 s8).bind fun x9=>(if x9.kind=1 then ((ap? 2513169434916 s7 [x9.num]).bind fun x10=>(Dn x1 K0 k s5 s6 x10 (w64 (s8+1)))) else (some ([],3)))) else (K0 s5 s6 s7))
def F8 (a0:Arr) : Option ((List RT)×Int):=((B9 a0).bind fun x1=>(jn (fun (z2:(List RT)) (z3:Int) (z4:(List RT))=>(some (z4,0))) fun K0=>(Dn x1 K0 AC [] 0 [] 0)))
theorem Ib {a0:Arr} {r:(List RT)×Int} (h:F8 a0=some r) :
  Fn Tryz.prog 156 [.ag [.sl (Is a0.shape),.sl (Its a0.items)]] (.tup [.d (.sl (RVs r.1)),.d (.i .i64 r.2)]):=by
 unfold F8 at h
 refine Fn.of (rs:=[.tmp 2,.tmp 3]) (nt:=24) Tryz.func156 rfl rfl rfl (by simp) rfl ?_;refine .seq ?_;refine .region ?_;refine vk (vbx) ?_;refine asn ?_;refine asd ?_;refine rn ?_;refine .gh (Gh.keep [1,2,3] rfl) ?_;refine .seq ?_;refine .region ?_;refine asn ?_;refine rn ?_;refine .gh (Gh.keep [1,2,3,4] rfl) ?_;refine .seq ?_;refine .seq ?_;refine .region ?_;refine vk (Aq Ae Ab) ?_
 obtain ⟨x1,hx1,h⟩:=bnd h
 refine vk (Ag (Gr hx1) Tryz.call46) ?_;refine vk (AU (Ay _) (BQ _) BK) ?_;refine vk (Aa) ?_;refine rn ?_;refine .gh (Gh.keep [2,3,4,8,9,10] rfl) ?_
 obtain ⟨K0,hK0,h⟩:=AE h
 refine AW.mr (σ:=(List RT)×Int×(List RT)) (fun p=>K0 p.1 p.2.1 p.2.2=some r) (fun p=>[(2,.d (.sl (RVs p.1))),(3,.d (.i .i64 p.2.1)),(4,.own 34 (RVs p.2.2))]) (fun p=>[]) ?_ ?_
 ·skip
  refine .block ?_;refine .gh (Gh.nlD (t:=2) rfl) ?_;refine .gh (Gh.nlOwn (t:=4) 34 (by rw [Yx];decide) rfl) ?_
  refine .loop (.gh (Gh.keep [2,3,4,8,9,10] rfl) ?_)
  refine AL.ind (σ:=Nat×(List RT)×Int×(List RT)×Int) (m:=fun p=>p.1) (e:=fun p=>[(2,.d (.sl (RVs p.2.1))),(3,.d (.i .i64 p.2.2.1)),(4,.own 34 (RVs p.2.2.2.1)),(8,.d (.sl (Its x1))),(9,.d (.i .i64 ((List.length x1:Nat):Int))),(10,.d (.i .i64 p.2.2.2.2))]) (h:=fun p=>[]) (I:=fun p=>Dn x1 K0 p.1 p.2.1 p.2.2.1 p.2.2.2.1 p.2.2.2.2=some r) ?_ (AC,[],0,[],0) h
  rintro ⟨k,s5,s6,s7,s8⟩ h ih
  dsimp only at h ih ⊢
  rcases k with _|k
  ·rw [Dn] at h;cases h
  rw [Dn] at h
  refine .seq ?_;refine .region ?_;refine vk (vbi) ?_;refine rn ?_;refine .gh (Gh.keep [2,3,4,8,9,10,11] rfl) ?_;refine .seq ?_
  by_cases hc:s8<((List.length x1:Nat):Int)
  ·replace h:=B8 hc h
   refine cnt (dT hc) ?_;refine .skip ?_
   show AW _ _ _ _ _ _
   refine .seq ?_;refine .block ?_;refine .seq ?_;refine .region ?_
   obtain ⟨x9,hx9,h⟩:=bnd h
   obtain ⟨nx9,hnx9,hxx9⟩:=Ai hx9
   refine vk (vix nx9 hnx9 (Cq hxx9) rfl Cr) ?_;refine vk (Aq AS Aw) ?_;refine vk (van (Ah BR) BT) ?_
   refine stn ?_ Aw (by decide)
   refine rn ?_;refine .gh (Gh.keep [2,3,4,6,8,9,10] rfl) ?_;refine .seq ?_;refine .seq ?_;refine .gh (Gh.nbp (t:=6) rfl) ?_;refine .region ?_;refine vk (vfa B7) ?_;refine vk (Am A8) ?_;refine vk (vbi) ?_;refine rn ?_;refine .gh (Gh.keep [2,3,4,6,8,9,10,16] rfl) ?_
   by_cases hc:x9.kind=1
   ·replace h:=B8 hc h
    refine cnf (ntf (dT hc)) ?_;refine .skip ?_
    show AW _ _ _ _ _ _
    refine .region ?_;refine mvo ?_;refine vk (vfa Bo) ?_;refine vk (Aq AP Az) ?_;refine vk ((Ef (D8 [x9.num]) Gs).deep) ?_
    obtain ⟨x10,hx10,h⟩:=bnd h
    refine Ly Vo hx10 XR ?_ V4 BU Gs
    refine aso ?_;refine .nil ?_
    show AW _ _ _ _ _ _
    refine .gh (Gh.keep [2,3,4,8,9,10] rfl) ?_;refine .region ?_;refine vk (vbi) ?_;refine vk (Aa) ?_;refine .nil ?_;refine AL.gh (Gh.keep [2,3,4,8,9,10] rfl) ?_
    exact ih (k,s5,s6,x10,(w64 (s8+1))) h (Nat.lt_succ_self _)
   replace h:=Cc hc h
   refine cnt (ntt (dF hc)) ?_;refine .seq ?_;refine .region ?_;refine asn ?_;refine asd ?_;refine rn ?_;refine .gh (Gh.keep [2,3,4,6,8,9,10] rfl) ?_;refine .gh (Gh.nlD (t:=2) rfl) ?_;refine .ret ?_
   cases h
   exact ⟨by decide,rfl,rfl,rfl⟩
  replace h:=Cc hc h
  refine cnf (dF hc) ?_;refine .gh (Gh.keep [2,3,4] rfl) ?_;refine .exit ?_
  exact jr (s5,s6,s7) h
 rintro ⟨z2,z3,z4⟩ h
 try dsimp only at h ⊢
 subst hK0
 show AW _ _ _ _ _ _
 refine .seq ?_;refine .region ?_;refine fz (p:=.t 4) ?_;refine vk (Aa) ?_;refine asd ?_;refine asd ?_;refine rn ?_;refine .gh (Gh.keep [2,3] rfl) ?_;refine .ret ?_
 cases h
 exact ⟨by decide,rfl,rfl,rfl⟩
def Jc (a0:Arr) (a1:Arr) : Option ((List RT)×(List RT)×Int):=((F8 a0).bind fun x1=>(jn (fun (z2:(List RT)) (z3:Int)=>(some (x1.1,z2,z3))) fun K0=>(if x1.2=0 then ((F8 a1).bind fun x4=>(K0 x4.1 x4.2)) else (K0 [] x1.2))))
theorem Kj {a0:Arr} {a1:Arr} {r:(List RT)×(List RT)×Int} (h:Jc a0 a1=some r) :
  Fn Tryz.prog 99 [.ag [.sl (Is a0.shape),.sl (Its a0.items)],.ag [.sl (Is a1.shape),.sl (Its a1.items)]] (.tup [.d (.sl (RVs r.1)),.d (.sl (RVs r.2.1)),.d (.i .i64 r.2.2)]):=by
 unfold Jc at h
 refine Fn.of (rs:=[.tmp 4,.tmp 5,.tmp 6]) (nt:=22) Tryz.func99 rfl rfl rfl (by simp) rfl ?_;refine .seq ?_;refine .region ?_;refine vk (vbx) ?_;refine vk (vbx) ?_;refine asn ?_;refine asn ?_;refine asd ?_;refine rn ?_;refine .gh (Gh.keep [2,3,4,5,6] rfl) ?_;refine .seq ?_;refine .seq ?_;refine .region ?_;refine vk (Aq Ae Ab) ?_
 obtain ⟨x1,hx1,h⟩:=bnd h
 refine vk (VOK.tupd (vs:=[.sl (RVs x1.1),.i .i64 x1.2]) (Ag (Ib hx1) Tryz.call156)) ?_;refine vk (Aa) ?_;refine vk (vex) ?_;refine vk (vex) ?_;refine asd ?_;refine asd ?_;refine rn ?_;refine .gh (Gh.keep [3,4,5,6] rfl) ?_;refine .seq ?_;refine .region ?_;refine vk (Aa) ?_;refine vk (vbi) ?_;refine rn ?_;refine .gh (Gh.keep [3,4,5,6,13] rfl) ?_
 obtain ⟨K0,hK0,h⟩:=AE h
 refine AW.mr (σ:=(List RT)×Int) (fun p=>K0 p.1 p.2=some r) (fun p=>[(4,.d (.sl (RVs x1.1))),(5,.d (.sl (RVs p.1))),(6,.d (.i .i64 p.2))]) (fun p=>[]) ?_ ?_
 ·skip
  by_cases hc:x1.2=0
  ·replace h:=B8 hc h
   refine cnt (dT hc) ?_;refine .region ?_;refine vk (Aq Ae Ab) ?_
   obtain ⟨x4,hx4,h⟩:=bnd h
   refine vk (VOK.tupd (vs:=[.sl (RVs x4.1),.i .i64 x4.2]) (Ag (Ib hx4) Tryz.call156)) ?_;refine vk (Aa) ?_;refine vk (vex) ?_;refine vk (vex) ?_;refine asd ?_;refine asd ?_;refine RL.gh (Gh.keep [4,5,6] rfl) ?_;refine .nil ?_
   exact jr (x4.1,x4.2) h
  replace h:=Cc hc h
  refine cnf (dF hc) ?_;refine .gh (Gh.nlD (t:=5) rfl) ?_;refine .gh (Gh.keep [4,5,6] rfl) ?_;refine .skip ?_
  exact jr ([],x1.2) h
 rintro ⟨z2,z3⟩ h
 try dsimp only at h ⊢
 subst hK0
 show AW _ _ _ _ _ _
 refine .seq ?_;refine .region ?_;refine vk (Aa) ?_;refine vk (Aa) ?_;refine vk (Aa) ?_;refine asd ?_;refine asd ?_;refine asd ?_;refine rn ?_;refine .gh (Gh.keep [4,5,6] rfl) ?_;refine .ret ?_
 cases h
 exact ⟨⟨by decide,by decide,by decide⟩,rfl,rfl,rfl,rfl⟩
def JL (a0:RT) (a1:RT) : Option (RT×RT×Int):=((Ix a0 a1).bind fun x1=>(Option.bind ((if x1.2=0 then ((FF a0).bind fun x3=>(some (decide (x3=0)))) else (some true)) : Option (Bool)) fun (z2:Bool)=>(if z2=true then none else ((Hq a1 x1.1).bind fun x4=>(jn (fun (z5:RT) (z6:Int)=>(some (x1.1,z5,z6))) fun K0=>(if x4.2=0 then ((LS x4.1 a0).bind fun x7=>(K0 x7.1 x7.2)) else (K0 x4.1 x4.2)))))))
theorem Nx {a0:RT} {a1:RT} {r:RT×RT×Int} (h:JL a0 a1=some r) :
  Fn Tryz.prog 103 [.ag [.b a0.1,.sl (L a0.2.1),.sl (L a0.2.2)],.ag [.b a1.1,.sl (L a1.2.1),.sl (L a1.2.2)]] (.tup [.d (.ag [.b r.1.1,.sl (L r.1.2.1),.sl (L r.1.2.2)]),.d (.ag [.b r.2.1.1,.sl (L r.2.1.2.1),.sl (L r.2.1.2.2)]),.d (.i .i64 r.2.2)]):=by
 unfold JL at h
 refine Fn.ofA (rs:=[.cell 4 34,.cell 5 34,.tmp 6]) (nt:=40) Tryz.func103 rfl rfl rfl (by simp) rfl ?_;refine .seq ?_;refine .region ?_;refine vk (vbx) ?_;refine vk (vbx) ?_;refine vk (van (Ah EX) EF) ?_;refine vk (van (Ah EX) EF) ?_;refine asd ?_;refine rn ?_;refine .gh (Gh.keep [2,3,4,5,6] rfl) ?_;refine .seq ?_;refine .seq ?_;refine .region ?_;refine vk (Aq AP Az) ?_;refine vk (Aq AP Az) ?_
 obtain ⟨x1,hx1,h⟩:=bnd h
 refine vk (VOK.tupd (vs:=[.ag [.b x1.1.1,.sl (L x1.1.2.1),.sl (L x1.1.2.2)],.i .i64 x1.2]) (Ag (Mn hx1) Tryz.call159)) ?_;refine vk (Aa) ?_;refine vk (vex) ?_;refine vk (vex) ?_
 refine stn ?_ Az (by decide)
 refine asd ?_;refine rn ?_;refine .gh (Gh.keep [2,3,4,5,6] rfl) ?_;refine .seq ?_
 obtain ⟨z2,hz,h⟩:=bnd h
 refine AW.mr (σ:=Unit) (fun _=>True) (fun _=>[(2,.d (.ptr [.b a0.1,.sl (L a0.2.1),.sl (L a0.2.2)])),(3,.d (.ptr [.b a1.1,.sl (L a1.2.1),.sl (L a1.2.2)])),(4,.nb [.b x1.1.1,.sl (L x1.1.2.1),.sl (L x1.1.2.2)]),(5,.nb [.b false,.sl (L []),.sl (L [])]),(6,.d (.i .i64 x1.2)),(19,.d (.b z2))]) (fun _=>[]) ?_ ?_
 ·skip
  refine .region ?_;refine vk (Aa) ?_;refine vk (vbi) ?_
  by_cases hc:x1.2=0
  ·replace hz:=B8 hc hz
   have hb0:(!(decide (x1.2=0)))=false:=(ntf (dT hc))
   refine vk (VOK.lit (Aa) hb0) ?_;refine vk (Aq AP Az) ?_
   obtain ⟨x3,hx3,hz⟩:=bnd hz
   refine vk (Ag (GF hx3) Tryz.call130) ?_;refine vk (vbi) ?_;refine vk (Ao) ?_;refine RL.gh (Gh.keep [2,3,4,5,6,19] rfl) ?_;refine .nil ?_
   cases hz
   exact jr () trivial
  replace hz:=Cc hc hz
  have hb0:(!(decide (x1.2=0)))=true:=(ntt (dF hc))
  refine vk (VOK.lit (Aa) hb0) ?_;refine gf ?_;refine gf ?_;refine gf ?_;refine vk (Ao) ?_;refine RL.gh (Gh.keep [2,3,4,5,6,19] rfl) ?_;refine .nil ?_
  cases hz
  exact jr () trivial
 rintro _ _
 by_cases hc:z2=true
 ·replace h:=B8 hc h
  exact nomatch h
 replace h:=Cc hc h
 refine cnf (bf hc) ?_;refine .skip ?_
 show AW _ _ _ _ _ _
 refine .seq ?_;refine .seq ?_;refine .region ?_;refine vk (Aq AP Az) ?_;refine vk (Di AP Az) ?_
 obtain ⟨x4,hx4,h⟩:=bnd h
 refine vk (VOK.tupd (vs:=[.ag [.b x4.1.1,.sl (L x4.1.2.1),.sl (L x4.1.2.2)],.i .i64 x4.2]) (Ag (Gf hx4) Tryz.call160)) ?_;refine vk (Aa) ?_;refine vk (vex) ?_;refine vk (vex) ?_
 refine stn ?_ Az (by decide)
 refine asd ?_;refine rn ?_;refine .gh (Gh.keep [2,4,5,6] rfl) ?_;refine .seq ?_;refine .region ?_;refine vk (Aa) ?_;refine vk (vbi) ?_;refine rn ?_;refine .gh (Gh.keep [2,4,5,6,30] rfl) ?_
 obtain ⟨K0,hK0,h⟩:=AE h
 refine AW.mr (σ:=RT×Int) (fun p=>K0 p.1 p.2=some r) (fun p=>[(4,.nb [.b x1.1.1,.sl (L x1.1.2.1),.sl (L x1.1.2.2)]),(5,.nb [.b p.1.1,.sl (L p.1.2.1),.sl (L p.1.2.2)]),(6,.d (.i .i64 p.2))]) (fun p=>[]) ?_ ?_
 ·skip
  by_cases hc:x4.2=0
  ·replace h:=B8 hc h
   refine cnt (dT hc) ?_;refine .region ?_;refine vk (Di AP Az) ?_;refine vk (Aq AP Az) ?_
   obtain ⟨x7,hx7,h⟩:=bnd h
   refine vk (VOK.tupd (vs:=[.ag [.b x7.1.1,.sl (L x7.1.2.1),.sl (L x7.1.2.2)],.i .i64 x7.2]) (Ag (Mg hx7) Tryz.call161)) ?_;refine vk (Aa) ?_;refine vk (vex) ?_;refine vk (vex) ?_
   refine stn ?_ Az (by decide)
   refine asd ?_;refine RL.gh (Gh.keep [4,5,6] rfl) ?_;refine .nil ?_
   exact jr (x7.1,x7.2) h
  replace h:=Cc hc h
  refine cnf (dF hc) ?_;refine .gh (Gh.keep [4,5,6] rfl) ?_;refine .skip ?_
  exact jr (x4.1,x4.2) h
 rintro ⟨z5,z6⟩ h
 try dsimp only at h ⊢
 subst hK0
 show AW _ _ _ _ _ _
 refine .seq ?_;refine .drawnI 3 AZ (by kernel_rfl) ?_;refine dv (Di AP Az) ?_;refine dv (Di AP Az) ?_;refine dv (Aa) ?_;refine dz ?_
 refine ⟨?_,?_⟩
 ·intro i o hi ho e hj hn
  have hi2:=(Array.getElem?_eq_some_iff.1 ho).1
  have hi3:i=3∨i=4∨i=5:=by change i<6 at hi2;omega
  rcases hi3 with rfl|rfl|rfl<;>cases ho
  ·exact Gq (cs:=[.b x1.1.1,.sl (L x1.1.2.1),.sl (L x1.1.2.2)]) (cs':=[.b x1.1.1,.sl (L x1.1.2.1),.sl (L x1.1.2.2)]) Az (by decide) rfl ((hn 4 (ND rfl)).trans rfl) ((congrArg A9 (hj 0 37 _ (by kernel_rfl) rfl)).trans rfl) rfl rfl rfl rfl ⟨Mb ((hn 4 (ND rfl)).trans rfl),rfl⟩
  ·exact Gq (cs:=[.b z5.1,.sl (L z5.2.1),.sl (L z5.2.2)]) (cs':=[.b z5.1,.sl (L z5.2.1),.sl (L z5.2.2)]) Az (by decide) rfl ((hn 5 (ND rfl)).trans rfl) ((congrArg A9 (hj 1 38 _ (by kernel_rfl) rfl)).trans rfl) rfl rfl rfl rfl ⟨Mb ((hn 5 (ND rfl)).trans rfl),rfl⟩
  ·exact Vd rfl ((hj 2 39 _ (by kernel_rfl) rfl).trans rfl) rfl ((congrArg An (hn 6 (ND rfl))).trans rfl) rfl ⟨Mb ((hn 6 (ND rfl)).trans rfl),rfl⟩
 refine rn ?_;refine .gh (Gh.keep [4,5,6] rfl) ?_;refine .ret ?_
 cases h
 exact ⟨_,_,_,⟨_,⟨.inr rfl,AP,Az,(by decide:(0:Nat)<3)⟩,rfl⟩,⟨_,⟨.inr rfl,AP,Az,(by decide:(0:Nat)<3)⟩,rfl⟩,rfl,rfl⟩
def DS (x1:(List RT)×(List RT)×Int) (x2:(List Int)) : Nat→Arr→Int→Int→Int→(List Itm)→Option (Arr×Int)
 | 0,_,_,_,_,_=>none
 | k+1,s7,s8,s9,s10,s11=>(if s9<((List.length x1.2.1:Nat):Int) then ((rd? x1.2.1 s9).bind fun x12=>((GC (((List.length x1.1:Nat):Int)≤1000000)).bind fun x13=>((R6 (fun (i25:Int) (x26:RT) (p:Int×(List Itm)×Bool×(List Nat)×(List Nat))=>((JL x26 (p.2.2.1,p.2.2.2.1,p.2.2.2.2)).bind fun x27=>(if x27.2.2=0 then ((rd? p.2.1 (w64 ((w64 (i25 * ((List.length x1.2.1:Nat):Int)))+s9))).bind fun x28=>(some (x27.2.2,(List.set p.2.1 (Int.toNat (w64 ((w64 (i25 * ((List.length x1.2.1:Nat):Int)))+s9))) (Itm.mk 1 x27.1 0 [])),x27.2.1.1,x27.2.1.2.1,x27.2.1.2.2))) else none))) x1.1 (List.length x1.1) (s10,s11,x12.1,x12.2.1,x12.2.2)).bind fun z24=>(DS x1 x2 k s7 s8 (w64 (s9+1)) z24.1 z24.2.1)))) else ((AX x2 s11).bind fun x29=>(some (x29.1,x29.2))))
def Ii (a0:Arr) (a1:Arr) : Option (Arr×Int):=(if 1<((List.length a0.shape:Nat) : Int) then (some ((Arr.mk [] []),4)) else ((Jc a0 a1).bind fun x1=>(if x1.2.2=0 then ((DB ([a0.shape,a1.shape])).bind fun x2=>((Cl x2).bind fun x3=>(if x3.2=0 then ((GC (0≤(if x3.1<1 then 1 else x3.1)∧(if x3.1<1 then 1 else x3.1)≤1466015503701)).bind fun x4=>((Ig 0).bind fun x5=>((rd? (List.replicate (Int.toNat (if x3.1<1 then 1 else x3.1)) (Itm.mk 0 (false,[],[]) 0 [])) 0).bind fun x6=>(DS x1 x2 AC (Arr.mk [] []) 0 0 x3.2 (List.set (List.replicate (Int.toNat (if x3.1<1 then 1 else x3.1)) (Itm.mk 0 (false,[],[]) 0 [])) (Int.toNat 0) x5))))) else (some ((Arr.mk [] []),x3.2))))) else (some ((Arr.mk [] []),x1.2.2)))))
theorem M5 {a0:Arr} {a1:Arr} {r:Arr×Int} (h:Ii a0 a1=some r) :
  Fn Tryz.prog 41 [.ag [.sl (Is a0.shape),.sl (Its a0.items)],.ag [.sl (Is a1.shape),.sl (Its a1.items)]] (.tup [.d (.ag [.sl (Is r.1.shape),.sl (Its r.1.items)]),.d (.i .i64 r.2)]):=by
 unfold Ii at h
 refine Fn.ofMB (rs:=[.cell 4 27,.cell 5 29]) (nt:=92) Tryz.func41 rfl rfl rfl (by simp) rfl ?_;refine .seqA ?_;refine .region ?_;refine vk (vbx) ?_;refine vk (vbx) ?_;refine vk (van (Ah AI) AK) ?_;refine vk (van (Ah QD) Ur) ?_;refine rn ?_;refine .gh (Gh.keep [2,3,4,5] rfl) ?_;refine .seqA ?_;refine .seq ?_;refine .region ?_;refine vk (vfa AT) ?_;refine vk (Am Cd) ?_;refine vk (AU (Af _) (CD _) Cg) ?_;refine vk (vbi) ?_;refine rn ?_;refine .gh (Gh.keep [2,3,4,5,20] rfl) ?_
 by_cases hc:1<((List.length a0.shape:Nat):Int)
 ·replace h:=B8 hc h
  refine cnt (dT hc) ?_;refine .seq ?_;refine .region ?_;refine vk (vbd BL AI AK) ?_
  refine stn ?_ Ab (by decide)
  refine VN ?_ Gn
  refine rn ?_;refine .gh (Gh.keep [2,3,4,5] rfl) ?_;refine .ret ?_
  cases h
  exact ⟨.inr rfl,_,_,⟨.inr rfl,Ae,Ab,(by decide:(0:Nat)<2)⟩,⟨.inr rfl,DI⟩,rfl⟩
 replace h:=Cc hc h
 refine cnf (dF hc) ?_;refine .skip ?_
 show AWM _ _ _ _ _ _
 refine .seqA ?_;refine .region ?_;refine vk (Aq Ae Ab) ?_;refine vk (Aq Ae Ab) ?_
 obtain ⟨x1,hx1,h⟩:=bnd h
 refine vk (VOK.tupd (vs:=[.sl (RVs x1.1),.sl (RVs x1.2.1),.i .i64 x1.2.2]) (Ag (Kj hx1) Tryz.call99)) ?_;refine vk (Aa) ?_;refine vk (vex) ?_;refine vk (vex) ?_;refine vk (vex) ?_
 refine al ?_ (Ah WW) (fun w I μ=>Vv w I μ)
 refine al ?_ (Ah QD) (fun w I μ=>Tg w I μ)
 refine asd ?_
 refine stb (cs:=[.nl]) (c:=.nl) rfl rfl ?_ XU
 refine stb (cs:=[.d (.i .i64 0)]) (c:=.d (.i .i64 0)) rfl rfl ?_ Gn
 refine rn ?_;refine .gh (Gh.keep [2,3,4,5,6,7,8] rfl) ?_;refine .seqA ?_;refine .seq ?_;refine .region ?_;refine vk (Ic (cs:=[.d (.i .i64 x1.2.2)]) (c:=.i .i64 x1.2.2) rfl rfl DI) ?_;refine vk (vbi) ?_;refine rn ?_;refine .gh (Gh.keep [2,3,4,5,6,7,8,30] rfl) ?_
 by_cases hc:x1.2.2=0
 ·replace h:=B8 hc h
  refine cnf (ntf (dT hc)) ?_;refine .skip ?_
  show AWM _ _ _ _ _ _
  refine .seqA ?_;refine .region ?_;refine vk (vfa AT) ?_;refine vk (Am Cd) ?_;refine vk (vfa AT) ?_;refine vk (Am Cd) ?_;refine vk ((Ef (MX [a0.shape,a1.shape]) Mk).deep) ?_
  obtain ⟨x2,hx2,h⟩:=bnd h
  refine vk (Ag (GU hx2) Tryz.call100) ?_;refine asd ?_;refine rn ?_;refine .gh (Gh.keep [4,5,6,7,8,9] rfl) ?_;refine .seqA ?_;refine .region ?_;refine vk (Aa) ?_
  obtain ⟨x3,hx3,h⟩:=bnd h
  refine vk (VOK.tupd (vs:=[.i .i64 x3.1,.i .i64 x3.2]) (Ag (Dx hx3) Tryz.call56)) ?_;refine vk (Aa) ?_;refine vk (vex) ?_;refine vk (vex) ?_;refine asd ?_
  refine stb (cs:=[.d (.i .i64 x1.2.2)]) (c:=.d (.i .i64 x1.2.2)) rfl rfl ?_ Gn
  refine rn ?_;refine .gh (Gh.keep [4,5,6,7,8,9,10] rfl) ?_;refine .seqA ?_;refine .seq ?_;refine .region ?_;refine vk (Ic (cs:=[.d (.i .i64 x3.2)]) (c:=.i .i64 x3.2) rfl rfl DI) ?_;refine vk (vbi) ?_;refine rn ?_;refine .gh (Gh.keep [4,5,6,7,8,9,10,45] rfl) ?_
  by_cases hc:x3.2=0
  ·replace h:=B8 hc h
   refine cnf (ntf (dT hc)) ?_;refine .skip ?_
   show AWM _ _ _ _ _ _
   refine .seqA ?_;refine .region ?_;refine vk (Aa) ?_;refine vk (vmx) ?_
   obtain ⟨x4,hx4,h⟩:=bnd h
   have ghx4:=HI hx4
   refine YT (F:=Its) (x0:=(Itm.mk 0 (false,[],[]) 0 [])) (zl:=(if x3.1<1 then 1 else x3.1)) (Int.toNat (if x3.1<1 then 1 else x3.1)) UY (by omega) (by omega) ?_ D4 BT
   refine al ?_ (Ah W6) (fun w I μ=>Wn w I μ)
   refine PM (cs:=[.nl]) (c:=.nl) rfl rfl ?_ KR
   refine rn ?_;refine .gh (Gh.keep [4,5,6,7,8,9,11] rfl) ?_;refine .seqA ?_;refine .drawn 3 AZ (by kernel_rfl) ?_;refine dv (R8 (cs:=[.own 51 (Its (List.replicate (Int.toNat (if x3.1<1 then 1 else x3.1)) (Itm.mk 0 (false,[],[]) 0 [])))]) rfl rfl BM) ?_
   obtain ⟨x5,hx5,h⟩:=bnd h
   refine dv (Ag (Ma hx5) Tryz.call101) ?_
   obtain ⟨x6,hx6,h⟩:=bnd h
   obtain ⟨nx6,hnx6,hxx6⟩:=Ai hx6
   refine dv (FP (off:=0) (len:=(Its (List.replicate (Int.toNat (if x3.1<1 then 1 else x3.1)) (Itm.mk 0 (false,[],[]) 0 []))).length) nx6 hnx6 (by rw [Ay];exact (lS.1 hxx6).1) Cr (by decide)) ?_;refine dz ?_
   refine Yt (F:=Its) (zs:=[.i .u8 x6.kind,.b x6.num.1,.sl (L x6.num.2.1),.sl (L x6.num.2.2),.i .i32 x6.char,.sl (Ars x6.box)]) (us:=(List.replicate (Int.toNat (if x3.1<1 then 1 else x3.1)) (Itm.mk 0 (false,[],[]) 0 []))) (n:=nx6) (m:=Int.toNat 0) (x:=x5) (P4 (Itm.dv_eq x5).symm) (by rw [hnx6];rfl) (by rw [Nat.zero_add];exact Cq hxx6) rfl ?_ Aw Aw (Nat.succ_pos _) (hn:=fun _ _ _=>Nat.zero_le _)
   refine RL.gh (Gh.keep [4,5,6,7,8,9,11,51,52] rfl) ?_;refine rn ?_;refine .gh (Gh.keep [4,5,6,7,8,9,11] rfl) ?_;refine .seq rfl ?_;refine .seqA ?_;refine .region ?_;refine vk (Ic (cs:=[.d (.sl (RVs x1.2.1))]) (c:=.sl (RVs x1.2.1)) rfl rfl O8) ?_;refine vk (AU (BU _) (GS _) Io) ?_;refine vk (Aa) ?_;refine rn ?_;refine .gh (Gh.keep [4,5,6,7,8,9,11,54,55,56] rfl) ?_;refine .block ?_
   refine .loop (.gh (Gh.keep [4,5,6,7,8,9,11,54,55,56] rfl) ?_)
   refine ALM.ind rfl (σ:=Nat×Arr×Int×Int×Int×(List Itm)) (m:=fun p=>p.1) (e:=fun p=>[(4,.nb [.sl (Is p.2.1.shape),.sl (Its p.2.1.items)]),(5,.nb [.i .i64 p.2.2.1]),(6,.d (.sl (RVs x1.1))),(7,.bp 0 0),(8,.bp 1 0),(9,.d (.sl (Is x2))),(11,.bp 2 0),(54,.d (.sl (RVs x1.2.1))),(55,.d (.i .i64 ((List.length x1.2.1:Nat):Int))),(56,.d (.i .i64 p.2.2.2.1))]) (h:=fun p=>[HO.box [.d (.sl (RVs x1.2.1))],HO.box [.d (.i .i64 p.2.2.2.2.1)],HO.box [.own 51 (Its p.2.2.2.2.2)]]) (I:=fun p=>DS x1 x2 p.1 p.2.1 p.2.2.1 p.2.2.2.1 p.2.2.2.2.1 p.2.2.2.2.2=some r) ?_ (AC,(Arr.mk [] []),0,0,x3.2,(List.set (List.replicate (Int.toNat (if x3.1<1 then 1 else x3.1)) (Itm.mk 0 (false,[],[]) 0 [])) (Int.toNat 0) x5)) h
   rintro ⟨k,s7,s8,s9,s10,s11⟩ h ih
   dsimp only at h ih ⊢
   rcases k with _|k
   ·rw [DS] at h;cases h
   rw [DS] at h
   refine .seqA ?_;refine .region ?_;refine vk (vbi) ?_;refine rn ?_;refine .gh (Gh.keep [4,5,6,7,8,9,11,54,55,56,57] rfl) ?_;refine .seqA ?_
   by_cases hc:s9<((List.length x1.2.1:Nat):Int)
   ·replace h:=B8 hc h
    refine cnt (dT hc) ?_;refine .skip ?_
    show AWM _ _ _ _ _ _
    refine .seq rfl ?_;refine .block ?_;refine .seqA ?_;refine .region ?_;refine vk (Aa) ?_
    obtain ⟨x12,hx12,h⟩:=bnd h
    obtain ⟨nx12,hnx12,hxx12⟩:=Ai hx12
    refine vk (vix nx12 hnx12 (KH hxx12) rfl Ot) ?_;refine vk (Aq AP Az) ?_
    refine al ?_ (Ah Xi) (fun w I μ=>VW w I μ)
    refine vk (van (Ah EX) EF) ?_
    refine stb (cs:=[.d (.i .i64 0)]) (c:=.d (.i .i64 0)) rfl rfl ?_ CT
    refine stn ?_ Az (by decide)
    refine RL.gh2 (Gh.nbb (t:=13) rfl) ?_;refine rn ?_;refine .gh (Gh.keep [4,5,6,7,8,9,11,12,13,54,55,56] rfl) ?_;refine .seqA ?_;refine .region ?_;refine vk (Aa) ?_;refine vk (Ag (Xc (RVs x1.1)) Tryz.call102) ?_;refine rn ?_;refine .gh (Gh.keep [4,5,6,7,8,9,11,12,13,54,55,56,62] rfl) ?_;refine .block ?_
    obtain ⟨x13,hx13,h⟩:=bnd h
    have ghx13:=HI hx13
    obtain ⟨z24,hz24,h⟩:=bnd h
    obtain ⟨Tz24,hTz240,hTz24n,hTz24t⟩:=Sg _ hz24
    refine AWM.rangeFuncG (ps:=[63,64]) (f:=158) (caps:=[.ptr [.sl (RVs x1.1)]]) (ys:=Pq x1.1) (m:=List.length x1.1) (e1:=.ret) rfl rfl rfl Tryz.call158 (WV (by omega) (Nat.le_refl _)) (fun ds hd=>T7 _ ds hd) (fun p hp=>by simp only [List.mem_cons,List.not_mem_nil,or_false] at hp;rcases hp with rfl|rfl<;>rfl) rfl (fun k H=>H=[HO.box [.d (.sl (RVs x1.2.1))],HO.box [.d (.i .i64 (Tz24 k).1)],HO.box [.own 51 (Its (Tz24 k).2.1)],HO.box [.d (.i .i64 s9)],HO.box [.d (.b (Tz24 k).2.2.1),.d (.sl (L (Tz24 k).2.2.2.1)),.d (.sl (L (Tz24 k).2.2.2.2))]]) (by rw [hTz240];try rfl) (.inr rfl) (fun l k ds H hk hkm hH=>?_) (fun H hH=>?_)
    ·subst hH
     have hkl:k<List.length x1.1:=by rw [← Iv];exact (lS.1 hk).1
     obtain ⟨x26,hx26,h⟩:=hTz24t k hkl
     rw [Pn hkl hx26] at hk
     cases hk
     generalize ((List.length x1.1-1-k:Nat):Int)=i25 at h ⊢
     clear hx26
     generalize Tz24 k=s0 at h ⊢
     generalize Tz24 (k+1)=s1 at h ⊢
     obtain ⟨s14,s15,s16,s17,s18⟩:=s0
     dsimp only at h ⊢
     refine .seq ?_;refine .region ?_;refine asd ?_;refine rn ?_;refine .gh (Gh.keep [7,8,11,12,13,14,64] rfl) ?_;refine .region ?_;refine vk (van (Ah EX) EF) ?_
     refine stn ?_ Az (by decide)
     refine rn ?_;refine .gh (Gh.keep [7,8,11,12,13,14,15] rfl) ?_;refine .block ?_;refine .seq ?_;refine .region ?_;refine vk (van (Ah EX) EF) ?_;refine rn ?_;refine .gh (Gh.keep [7,8,11,12,13,14,15,16] rfl) ?_;refine .seq ?_;refine .seq ?_;refine .region ?_;refine vk (Di AP Az) ?_;refine vk (Kl (cs:=[.d (.b s16),.d (.sl (L s17)),.d (.sl (L s18))]) (ds:=[.b s16,.sl (L s17),.sl (L s18)]) rfl AP Az) ?_
     obtain ⟨x27,hx27,h⟩:=bnd h
     refine vk (VOK.tupd (vs:=[.ag [.b x27.1.1,.sl (L x27.1.2.1),.sl (L x27.1.2.2)],.ag [.b x27.2.1.1,.sl (L x27.2.1.2.1),.sl (L x27.2.1.2.2)],.i .i64 x27.2.2]) (Ag (Nx hx27) Tryz.call103)) ?_;refine vk (Aa) ?_;refine vk (vex) ?_;refine vk (vex) ?_;refine vk (vex) ?_
     refine stn ?_ Az (by decide)
     refine Yz (bx:=[.d (.b s16),.d (.sl (L s17)),.d (.sl (L s18))]) (zs:=[.b s16,.sl (L s17),.sl (L s18)]) (ds:=[.b x27.2.1.1,.sl (L x27.2.1.2.1),.sl (L x27.2.1.2.2)]) rfl rfl rfl ?_ Az (Nat.succ_pos _)
     refine stb (cs:=[.d (.i .i64 s14)]) (c:=.d (.i .i64 s14)) rfl rfl ?_ Gn
     refine rn ?_;refine .gh (Gh.keep [7,8,11,12,14,16] rfl) ?_;refine .seq ?_;refine .region ?_;refine vk (Ic (cs:=[.d (.i .i64 x27.2.2)]) (c:=.i .i64 x27.2.2) rfl rfl DI) ?_;refine vk (vbi) ?_;refine rn ?_;refine .gh (Gh.keep [7,8,11,12,14,16,73] rfl) ?_
     by_cases hc:x27.2.2=0
     ·replace h:=B8 hc h
      refine cnf (ntf (dT hc)) ?_;refine .skip ?_
      show AW _ _ _ _ _ _
      refine .region ?_
      refine OB (cs:=[.own 51 (Its s15)]) rfl rfl ?_ BM
      refine vk (Aa) ?_;refine vk (Ic (cs:=[.d (.sl (RVs x1.2.1))]) (c:=.sl (RVs x1.2.1)) rfl rfl O8) ?_;refine vk (AU (BU _) (GS _) Io) ?_;refine vk (vbi) ?_;refine vk (Ic (cs:=[.d (.i .i64 s9)]) (c:=.i .i64 s9) rfl rfl AJ) ?_;refine vk (vbi) ?_;refine vk (Di AP Az) ?_;refine vk (vbd HG BR BT) ?_
      obtain ⟨x28,hx28,h⟩:=bnd h
      obtain ⟨nx28,hnx28,hxx28⟩:=Ai hx28
      refine ixr (off:=0) (len:=(Its s15).length) nx28 hnx28 (by rw [Ay];exact (lS.1 hxx28).1) ?_ Cr (by decide)
      refine Yt (F:=Its) (zs:=[.i .u8 x28.kind,.b x28.num.1,.sl (L x28.num.2.1),.sl (L x28.num.2.2),.i .i32 x28.char,.sl (Ars x28.box)]) (us:=s15) (n:=nx28) (m:=Int.toNat (w64 ((w64 (i25 * ((List.length x1.2.1:Nat):Int)))+s9))) (x:=(Itm.mk 1 x27.1 0 [])) (P4 (Itm.dv_eq (Itm.mk 1 x27.1 0 [])).symm) (by rw [hnx28];rfl) (by rw [Nat.zero_add];exact Cq hxx28) rfl ?_ Aw Aw (Nat.succ_pos _) (hn:=fun _ _ _=>Nat.zero_le _)
      refine RL.gh (Gh.keep [7,8,11,12,14,16,73,76,77,78,79,80,81,82,83,84] rfl) ?_;refine .nil ?_
      cases h
      exact ⟨by rw [if_pos hkl],rfl⟩
     replace h:=Cc hc h
     exact nomatch h
    have hmn:min (List.length x1.1+1) (Pq x1.1).length=List.length x1.1:=by rw [Iv];omega
    rw [hmn,hTz24n] at hH
    subst hH
    rw [if_neg (by rw [Iv];omega)]
    clear hz24 hTz240 hTz24n hTz24t
    obtain ⟨z19,z20,z21,z22,z23⟩:=z24
    dsimp only at h ⊢
    show AWM _ _ _ _ _ _
    refine .lift ?_;refine .region ?_;refine vk (vbi) ?_;refine vk (Aa) ?_;refine .nil ?_;refine ALM.gh (Gh.keep [4,5,6,7,8,9,11,54,55,56] rfl) ?_;refine ALM.gh2 (Gh2.cut (H0:=[HO.box [.d (.sl (RVs x1.2.1))],HO.box [.d (.i .i64 z19)],HO.box [.own 51 (Its z20)]]) [HO.box [.d (.i .i64 s9)],HO.box [.d (.b z21),.d (.sl (L z22)),.d (.sl (L z23))]] rfl rfl rfl rfl) ?_;refine ALM.gh (Gh.keep [4,5,6,7,8,9,11,54,55,56] rfl) ?_
    exact ih (k,s7,s8,(w64 (s9+1)),z19,z20) h (Nat.lt_succ_self _)
   replace h:=Cc hc h
   refine cnf (dF hc) ?_;refine .exit ?_
   show AWM _ _ _ _ _ _
   refine .lift ?_;refine .seq ?_;refine .region ?_;refine vk (Aa) ?_;refine fz (p:=.c 2 0) ?_;refine vk (Ic (cs:=[.d (.sl (Its s11))]) (c:=.sl (Its s11)) rfl rfl BM) ?_
   obtain ⟨x29,hx29,h⟩:=bnd h
   refine vk (VOK.tupd (vs:=[.ag [.sl (Is x29.1.shape),.sl (Its x29.1.items)],.i .i64 x29.2]) (Ag (Fr hx29) Tryz.call18)) ?_;refine vk (vex) ?_;refine vk (vex) ?_
   refine stn ?_ Ab (by decide)
   refine VN ?_ Gn
   refine rn ?_;refine .gh (Gh.keep [4,5] rfl) ?_;refine .ret ?_
   cases h
   exact ⟨.inr rfl,_,_,⟨.inr rfl,Ae,Ab,(by decide:(0:Nat)<2)⟩,⟨.inr rfl,DI⟩,rfl⟩
  replace h:=Cc hc h
  refine cnt (ntt (dF hc)) ?_;refine .seq ?_;refine .drawnF 2 [1] [(4,.nb [.sl (Is []),.sl (Its [])])] [HO.box [.d (.sl (RVs x1.2.1))],HO.box [.d (.i .i64 x3.2)]] AZ (by kernel_rfl) rfl ?_;refine dv (vbd BL AI AK) ?_;refine dv (Ic (cs:=[.d (.i .i64 x3.2)]) (c:=.i .i64 x3.2) rfl rfl DI) ?_;refine dz ?_
  refine ⟨?_,?_,?_⟩
  ·intro k hk
   simp only [List.mem_cons,List.not_mem_nil,or_false] at hk
   subst hk
   exact ⟨_,_,_,rfl,rfl,rfl,rfl,rfl,rfl,(Ic (cs:=[.d (.i .i64 x3.2)]) (c:=.i .i64 x3.2) rfl rfl DI)⟩
  ·intro om e hom hge
   cases hom
   exact Gq (cs:=[.sl (Is []),.sl (Its [])]) (cs':=[.sl (Is []),.sl (Its [])]) Ab (by decide) rfl ((hge 4 (fun k hk v hv=>by
     simp only [List.mem_cons,List.not_mem_nil,or_false] at hk
     subst hk;exact (by decide:¬(some 47=some 4)) (congrArg (Option.map Prod.fst) hv))).trans rfl) ((congrArg A9 (hge 46 (fun k hk v hv=>by
     simp only [List.mem_cons,List.not_mem_nil,or_false] at hk
     subst hk;exact (by decide:¬(some 47=some 46)) (congrArg (Option.map Prod.fst) hv)))).trans rfl) rfl rfl rfl rfl ⟨rfl,rfl⟩
  refine VN ?_ Gn
  refine rn ?_;refine .gh (Gh.keep [4,5,6,7,8,9,10] rfl) ?_;refine .ret ?_
  cases h
  exact ⟨.inr rfl,_,_,⟨.inr rfl,Ae,Ab,(by decide:(0:Nat)<2)⟩,⟨.inr rfl,DI⟩,rfl⟩
 replace h:=Cc hc h
 refine cnt (ntt (dF hc)) ?_;refine .seq ?_;refine .drawnF 2 [1] [(4,.nb [.sl (Is []),.sl (Its [])])] [HO.box [.d (.sl (RVs x1.2.1))],HO.box [.d (.i .i64 x1.2.2)]] AZ (by kernel_rfl) rfl ?_;refine dv (vbd BL AI AK) ?_;refine dv (Ic (cs:=[.d (.i .i64 x1.2.2)]) (c:=.i .i64 x1.2.2) rfl rfl DI) ?_;refine dz ?_
 refine ⟨?_,?_,?_⟩
 ·intro k hk
  simp only [List.mem_cons,List.not_mem_nil,or_false] at hk
  subst hk
  exact ⟨_,_,_,rfl,rfl,rfl,rfl,rfl,rfl,(Ic (cs:=[.d (.i .i64 x1.2.2)]) (c:=.i .i64 x1.2.2) rfl rfl DI)⟩
 ·intro om e hom hge
  cases hom
  exact Gq (cs:=[.sl (Is []),.sl (Its [])]) (cs':=[.sl (Is []),.sl (Its [])]) Ab (by decide) rfl ((hge 4 (fun k hk v hv=>by
    simp only [List.mem_cons,List.not_mem_nil,or_false] at hk
    subst hk;exact (by decide:¬(some 32=some 4)) (congrArg (Option.map Prod.fst) hv))).trans rfl) ((congrArg A9 (hge 31 (fun k hk v hv=>by
    simp only [List.mem_cons,List.not_mem_nil,or_false] at hk
    subst hk;exact (by decide:¬(some 32=some 31)) (congrArg (Option.map Prod.fst) hv)))).trans rfl) rfl rfl rfl rfl ⟨rfl,rfl⟩
 refine VN ?_ Gn
 refine rn ?_;refine .gh (Gh.keep [2,3,4,5,6,7,8] rfl) ?_;refine .ret ?_
 cases h
 exact ⟨.inr rfl,_,_,⟨.inr rfl,Ae,Ab,(by decide:(0:Nat)<2)⟩,⟨.inr rfl,DI⟩,rfl⟩
def DJ (x1:(List RT)×(List RT)×Int) (K1:Int→RT→Option (Arr×Int)) : Nat→Int→RT→RT→Int→Option (Arr×Int)
 | 0,_,_,_,_=>none
 | k+1,s7,s8,s9,s10=>(if ((decide (0≤s10))&&(decide (s7=0)))=true then (jn (fun (z11:Int) (z12:RT) (z13:RT)=>(DJ x1 K1 k z11 z12 z13 (w64 (s10-1)))) fun K3=>((rd? x1.2.1 s10).bind fun x14=>((Ml ([x14,s9])).bind fun x15=>(jn (fun (z16:Int) (z17:RT)=>(if ((decide (0<s10))&&(decide (z16=0)))=true then ((rd? x1.1 s10).bind fun x19=>((Ml ([s9,x19])).bind fun x20=>(K3 x20.2 z17 x20.1))) else (K3 z16 z17 s9))) fun K4=>(if x15.2=0 then ((UC ([s8,x15.1])).bind fun x18=>(K4 x18.2 x18.1)) else (K4 x15.2 s8)))))) else (K1 s7 s8))
def Ip (a0:Arr) (a1:Arr) : Option (Arr×Int):=(if ((decide (1<((List.length a0.shape:Nat) : Int)))||(decide (1<((List.length a1.shape:Nat) : Int))))=true then (some ((Arr.mk [] []),4)) else ((Jc a0 a1).bind fun x1=>(jn (fun (z2:Int)=>((C4 0).bind fun x3=>((C4 1).bind fun x4=>(jn (fun (z5:Int) (z6:RT)=>(if z5=0 then ((Lb z6).bind fun x21=>(some (x21,0))) else (some ((Arr.mk [] []),z5)))) fun K1=>(DJ x1 K1 AC x1.2.2 x3 x4 (w64 (z2-1))))))) fun K0=>(if x1.2.2=0 then (if ((List.length x1.2.1:Nat) : Int)=0 then (K0 0) else (if ((List.length x1.1:Nat) : Int)=((List.length x1.2.1:Nat) : Int) then (K0 ((List.length x1.1:Nat) : Int)) else (if ((List.length x1.1:Nat) : Int)=1 then none else (if ((List.length x1.2.1:Nat) : Int)=1 then none else (some ((Arr.mk [] []),5)))))) else (some ((Arr.mk [] []),x1.2.2))))))
set_option maxHeartbeats 4000000 in
theorem Mt {a0:Arr} {a1:Arr} {r:Arr×Int} (h:Ip a0 a1=some r) :
  Fn Tryz.prog 42 [.ag [.sl (Is a0.shape),.sl (Its a0.items)],.ag [.sl (Is a1.shape),.sl (Its a1.items)]] (.tup [.d (.ag [.sl (Is r.1.shape),.sl (Its r.1.items)]),.d (.i .i64 r.2)]):=by
 unfold Ip at h
 refine Fn.ofC (rs:=[.cell 4 27,.tmp 5]) (nt:=117) Tryz.func42 rfl rfl rfl (by simp) rfl ?_;refine .seq ?_;refine .region ?_;refine vk (vbx) ?_;refine vk (vbx) ?_;refine vk (van (Ah AI) AK) ?_;refine asd ?_;refine rn ?_;refine .gh (Gh.keep [2,3,4,5] rfl) ?_;refine .seq ?_;refine .seq ?_;refine AW.mr (σ:=Unit) (fun _=>True) (fun _=>[(2,.d (.ptr [.sl (Is a0.shape),.sl (Its a0.items)])),(3,.d (.ptr [.sl (Is a1.shape),.sl (Its a1.items)])),(4,.nb [.sl (Is []),.sl (Its [])]),(5,.d (.i .i64 0)),(23,.d (.b ((decide (1<((List.length a0.shape:Nat):Int)))||(decide (1<((List.length a1.shape:Nat):Int))))))]) (fun _=>[]) ?_ ?_
 ·skip
  refine .region ?_;refine vk (vfa AT) ?_;refine vk (Am Cd) ?_;refine vk (AU (Af _) (CD _) Cg) ?_;refine vk (vbi) ?_
  by_cases hc:1<((List.length a0.shape:Nat):Int)
  ·have hb0:(decide (1<((List.length a0.shape:Nat):Int)))=true:=(dT hc)
   refine vk (VOK.lit (Aa) hb0) ?_;refine gf ?_;refine gf ?_;refine gf ?_;refine gf ?_;refine vk (Ao) ?_;refine RL.gh (Gh.keep [2,3,4,5,23] rfl) ?_;refine .nil ?_
   exact jr () trivial (by simp only [hb0];rfl)
  have hb0:(decide (1<((List.length a0.shape:Nat):Int)))=false:=(dF hc)
  refine vk (VOK.lit (Aa) hb0) ?_;refine vk (vfa AT) ?_;refine vk (Am Cd) ?_;refine vk (AU (Af _) (CD _) Cg) ?_;refine vk (vbi) ?_;refine vk (Ao) ?_;refine RL.gh (Gh.keep [2,3,4,5,23] rfl) ?_;refine .nil ?_
  exact jr () trivial (by simp only [hb0];rfl)
 rintro _ _
 by_cases hc:((decide (1<((List.length a0.shape:Nat):Int)))||(decide (1<((List.length a1.shape:Nat):Int))))=true
 ·replace h:=B8 hc h
  refine cnt hc ?_;refine .seq ?_;refine .region ?_;refine vk (vbd BL AI AK) ?_
  refine stn ?_ Ab (by decide)
  refine asd ?_;refine rn ?_;refine .gh (Gh.keep [2,3,4,5] rfl) ?_;refine .ret ?_
  cases h
  exact ⟨_,_,⟨.inr rfl,Ae,Ab,(by decide:(0:Nat)<2)⟩,rfl,rfl⟩
 replace h:=Cc hc h
 refine cnf (bf hc) ?_;refine .skip ?_
 show AW _ _ _ _ _ _
 refine .seq ?_;refine .region ?_;refine vk (Aq Ae Ab) ?_;refine vk (Aq Ae Ab) ?_
 obtain ⟨x1,hx1,h⟩:=bnd h
 refine vk (VOK.tupd (vs:=[.sl (RVs x1.1),.sl (RVs x1.2.1),.i .i64 x1.2.2]) (Ag (Kj hx1) Tryz.call99)) ?_;refine vk (Aa) ?_;refine vk (vex) ?_;refine vk (vex) ?_;refine vk (vex) ?_;refine asd ?_;refine asd ?_;refine asd ?_;refine rn ?_;refine .gh (Gh.keep [4,5,6,7,8] rfl) ?_;refine .seq ?_;refine .region ?_;refine vk (Aa) ?_;refine vk (AU (BU _) (GS _) Io) ?_;refine asd ?_;refine rn ?_;refine .gh (Gh.keep [4,5,6,7,8,9] rfl) ?_
 obtain ⟨K0,hK0,h⟩:=AE h
 refine AW.mj (σ:=Int) (fun p=>K0 p=some r) (fun p=>[(4,.nb [.sl (Is []),.sl (Its [])]),(5,.d (.i .i64 0)),(6,.d (.sl (RVs x1.1))),(7,.d (.sl (RVs x1.2.1))),(8,.d (.i .i64 x1.2.2)),(9,.d (.i .i64 p))]) (fun p=>[]) ?_ ?_
 ·skip
  refine .block ?_;refine .seq ?_;refine .region ?_;refine vk (Aa) ?_;refine vk (vbi) ?_;refine asd ?_;refine rn ?_;refine .gh (Gh.keep [4,5,6,7,8,9,35] rfl) ?_
  by_cases hc:x1.2.2=0
  ·replace h:=B8 hc h
   refine cnf (ntf (dT hc)) ?_;refine .seq ?_;refine .region ?_;refine vk (Aa) ?_;refine vk (AU (BU _) (GS _) Io) ?_;refine vk (vbi) ?_;refine asd ?_;refine rn ?_;refine .gh (Gh.keep [4,5,6,7,8,9,40] rfl) ?_
   by_cases hc:((List.length x1.2.1:Nat):Int)=0
   ·replace h:=B8 hc h
    refine cnt (dT hc) ?_;refine .region ?_;refine asd ?_;refine RL.gh (Gh.keep [4,5,6,7,8,9] rfl) ?_;refine .nil ?_
    exact jr (0) h
   replace h:=Cc hc h
   refine cnf (dF hc) ?_;refine .seq ?_;refine .region ?_;refine vk (Aa) ?_;refine vk (Aa) ?_;refine vk (AU (BU _) (GS _) Io) ?_;refine vk (vbi) ?_;refine asd ?_;refine rn ?_;refine .gh (Gh.keep [4,5,6,7,8,9,44] rfl) ?_
   by_cases hc:((List.length x1.1:Nat):Int)=((List.length x1.2.1:Nat):Int)
   ·replace h:=B8 hc h
    refine cnt (dT hc) ?_;refine .gh (Gh.keep [4,5,6,7,8,9] rfl) ?_;refine .skip ?_
    exact jr (((List.length x1.1:Nat):Int)) h
   replace h:=Cc hc h
   refine cnf (dF hc) ?_;refine .seq ?_;refine .region ?_;refine vk (Aa) ?_;refine vk (vbi) ?_;refine asd ?_;refine rn ?_;refine .gh (Gh.keep [4,5,6,7,8,9,49] rfl) ?_
   by_cases hc:((List.length x1.1:Nat):Int)=1
   ·replace h:=B8 hc h
    refine cnt (dT hc) ?_;refine .seq ?_;refine .region ?_;refine vk (Aa) ?_;refine vk (AU (BU _) (GS _) Io) ?_;refine asd ?_;refine rn ?_;refine .gh (Gh.keep [4,5,6,7,8,9] rfl) ?_;refine .region ?_;refine vk (Aa) ?_;refine vk (Aa) ?_
    exact nomatch h
   replace h:=Cc hc h
   refine cnf (dF hc) ?_;refine .seq ?_;refine .region ?_;refine vk (Aa) ?_;refine vk (AU (BU _) (GS _) Io) ?_;refine vk (vbi) ?_;refine asd ?_;refine rn ?_;refine .gh (Gh.keep [4,5,6,7,8,9,57] rfl) ?_
   by_cases hc:((List.length x1.2.1:Nat):Int)=1
   ·replace h:=B8 hc h
    refine cnt (dT hc) ?_;refine .region ?_;refine vk (Aa) ?_;refine vk (Aa) ?_
    exact nomatch h
   replace h:=Cc hc h
   refine cnf (dF hc) ?_;refine .seq ?_;refine .region ?_;refine vk (vbd BL AI AK) ?_
   refine stn ?_ Ab (by decide)
   refine asd ?_;refine rn ?_;refine .gh (Gh.keep [4,5,6,7,8,9] rfl) ?_;refine .ret ?_
   cases h
   exact ⟨_,_,⟨.inr rfl,Ae,Ab,(by decide:(0:Nat)<2)⟩,rfl,rfl⟩
  replace h:=Cc hc h
  refine cnt (ntt (dF hc)) ?_;refine .seq ?_;refine .region ?_;refine vk (vbd BL AI AK) ?_;refine vk (Aa) ?_
  refine stn ?_ Ab (by decide)
  refine asd ?_;refine rn ?_;refine .gh (Gh.keep [4,5,6,7,8,9] rfl) ?_;refine .ret ?_
  cases h
  exact ⟨_,_,⟨.inr rfl,Ae,Ab,(by decide:(0:Nat)<2)⟩,rfl,rfl⟩
 rintro z2 h
 try dsimp only at h ⊢
 subst hK0
 refine .seq ?_;refine .region ?_
 obtain ⟨x3,hx3,h⟩:=bnd h
 refine vk (Ag (Dd hx3) Tryz.call37) ?_
 obtain ⟨x4,hx4,h⟩:=bnd h
 refine vk (Ag (Dd hx4) Tryz.call37) ?_;refine vk (van (Ah EX) EF) ?_;refine vk (van (Ah EX) EF) ?_
 refine stn ?_ Az (by decide)
 refine stn ?_ Az (by decide)
 refine rn ?_;refine .gh (Gh.keep [4,5,6,7,8,9,10,11] rfl) ?_;refine .seq ?_;refine .seq ?_;refine .region ?_;refine vk (Aa) ?_;refine vk (vbi) ?_;refine asd ?_;refine rn ?_;refine .gh (Gh.keep [4,5,6,7,8,10,11,12] rfl) ?_
 obtain ⟨K1,hK1,h⟩:=AE h
 refine AW.mr (σ:=Int×RT) (fun p=>K1 p.1 p.2=some r) (fun p=>[(4,.nb [.sl (Is []),.sl (Its [])]),(5,.d (.i .i64 0)),(8,.d (.i .i64 p.1)),(10,.nb [.b p.2.1,.sl (L p.2.2.1),.sl (L p.2.2.2)])]) (fun p=>[]) ?_ ?_
 ·skip
  refine .block ?_
  refine .loop (.gh (Gh.keep [4,5,6,7,8,10,11,12] rfl) ?_)
  refine AL.ind (σ:=Nat×Int×RT×RT×Int) (m:=fun p=>p.1) (e:=fun p=>[(4,.nb [.sl (Is []),.sl (Its [])]),(5,.d (.i .i64 0)),(6,.d (.sl (RVs x1.1))),(7,.d (.sl (RVs x1.2.1))),(8,.d (.i .i64 p.2.1)),(10,.nb [.b p.2.2.1.1,.sl (L p.2.2.1.2.1),.sl (L p.2.2.1.2.2)]),(11,.nb [.b p.2.2.2.1.1,.sl (L p.2.2.2.1.2.1),.sl (L p.2.2.2.1.2.2)]),(12,.d (.i .i64 p.2.2.2.2))]) (h:=fun p=>[]) (I:=fun p=>DJ x1 K1 p.1 p.2.1 p.2.2.1 p.2.2.2.1 p.2.2.2.2=some r) ?_ (AC,x1.2.2,x3,x4,(w64 (z2-1))) h
  rintro ⟨k,s7,s8,s9,s10⟩ h ih
  dsimp only at h ih ⊢
  rcases k with _|k
  ·rw [DJ] at h;cases h
  rw [DJ] at h
  refine .seq ?_;refine .seq ?_;refine AW.mr (σ:=Unit) (fun _=>True) (fun _=>[(4,.nb [.sl (Is []),.sl (Its [])]),(5,.d (.i .i64 0)),(6,.d (.sl (RVs x1.1))),(7,.d (.sl (RVs x1.2.1))),(8,.d (.i .i64 s7)),(10,.nb [.b s8.1,.sl (L s8.2.1),.sl (L s8.2.2)]),(11,.nb [.b s9.1,.sl (L s9.2.1),.sl (L s9.2.2)]),(12,.d (.i .i64 s10)),(73,.d (.b ((decide (0≤s10))&&(decide (s7=0)))))]) (fun _=>[]) ?_ ?_
  ·skip
   refine .region ?_;refine vk (Aa) ?_;refine vk (vbi) ?_
   by_cases hc:0≤s10
   ·have hb0:(decide (0≤s10))=true:=(dT hc)
    refine vk (VOK.lit (Aa) hb0) ?_;refine vk (Aa) ?_;refine vk (vbi) ?_;refine vk (Ao) ?_;refine RL.gh (Gh.keep [4,5,6,7,8,10,11,12,73] rfl) ?_;refine .nil ?_
    exact jr () trivial (by simp only [hb0];rfl)
   have hb0:(decide (0≤s10))=false:=(dF hc)
   refine vk (VOK.lit (Aa) hb0) ?_;refine gf ?_;refine gf ?_;refine vk (Ao) ?_;refine RL.gh (Gh.keep [4,5,6,7,8,10,11,12,73] rfl) ?_;refine .nil ?_
   exact jr () trivial (by simp only [hb0];rfl)
  rintro _ _
  by_cases hc:((decide (0≤s10))&&(decide (s7=0)))=true
  ·replace h:=B8 hc h
   refine cnt hc ?_;refine .skip ?_
   show AW _ _ _ _ _ _
   obtain ⟨K3,hK3,h⟩:=AE h
   refine AW.mj (σ:=Int×RT×RT) (fun p=>K3 p.1 p.2.1 p.2.2=some r) (fun p=>[(4,.nb [.sl (Is []),.sl (Its [])]),(5,.d (.i .i64 0)),(6,.d (.sl (RVs x1.1))),(7,.d (.sl (RVs x1.2.1))),(8,.d (.i .i64 p.1)),(10,.nb [.b p.2.1.1,.sl (L p.2.1.2.1),.sl (L p.2.1.2.2)]),(11,.nb [.b p.2.2.1,.sl (L p.2.2.2.1),.sl (L p.2.2.2.2)]),(12,.d (.i .i64 s10))]) (fun p=>[]) ?_ ?_
   ·skip
    refine .block ?_;refine .seq ?_;refine .region ?_;refine vk (van (Ah EX) EF) ?_;refine rn ?_;refine .gh (Gh.keep [4,5,6,7,10,11,12,13] rfl) ?_;refine .seq ?_;refine .seq ?_
    obtain ⟨x14,hx14,h⟩:=bnd h
    obtain ⟨x15,hx15,h⟩:=bnd h
    refine .drawnF 10 [9] [(13,.nb [.b x15.1.1,.sl (L x15.1.2.1),.sl (L x15.1.2.2)])] [] AZ (by kernel_rfl) rfl ?_;refine dv (Aa) ?_;refine dv (Aa) ?_
    obtain ⟨nx14,hnx14,hxx14⟩:=Ai hx14
    refine dv (vix nx14 hnx14 (KH hxx14) rfl Ot) ?_;refine dv (Aq AP Az) ?_;refine dv (Di AP Az) ?_;refine dv ((Ef (D8 [x14,s9]) Gs).deep) ?_;refine dv (VOK.tupd (vs:=[.ag [.b x15.1.1,.sl (L x15.1.2.1),.sl (L x15.1.2.2)],.i .i64 x15.2]) (Ag (Jb hx15) Tryz.call105)) ?_;refine dv (Aa) ?_;refine dv (vex) ?_;refine dv (vex) ?_;refine dz ?_
    refine ⟨?_,?_,?_⟩
    ·intro k hk
     simp only [List.mem_cons,List.not_mem_nil,or_false] at hk
     subst hk
     exact ⟨_,_,_,rfl,rfl,rfl,rfl,rfl,rfl,vex⟩
    ·intro om e hom hge
     cases hom
     exact Gq (cs:=[.b false,.sl (L []),.sl (L [])]) (cs':=[.b x15.1.1,.sl (L x15.1.2.1),.sl (L x15.1.2.2)]) Az (by decide) rfl ((hge 13 (fun k hk v hv=>by
       simp only [List.mem_cons,List.not_mem_nil,or_false] at hk
       subst hk;exact (by decide:¬(some 85=some 13)) (congrArg (Option.map Prod.fst) hv))).trans rfl) ((congrArg A9 (hge 84 (fun k hk v hv=>by
       simp only [List.mem_cons,List.not_mem_nil,or_false] at hk
       subst hk;exact (by decide:¬(some 85=some 84)) (congrArg (Option.map Prod.fst) hv)))).trans rfl) rfl rfl rfl rfl ⟨rfl,rfl⟩
    refine asd ?_;refine rn ?_;refine .gh (Gh.keep [4,5,6,7,8,10,11,12,13] rfl) ?_;refine .seq ?_;refine .region ?_;refine vk (Aa) ?_;refine vk (vbi) ?_;refine rn ?_;refine .gh (Gh.keep [4,5,6,7,8,10,11,12,13,87] rfl) ?_
    obtain ⟨K4,hK4,h⟩:=AE h
    refine AW.mr (σ:=Int×RT) (fun p=>K4 p.1 p.2=some r) (fun p=>[(4,.nb [.sl (Is []),.sl (Its [])]),(5,.d (.i .i64 0)),(6,.d (.sl (RVs x1.1))),(7,.d (.sl (RVs x1.2.1))),(8,.d (.i .i64 p.1)),(10,.nb [.b p.2.1,.sl (L p.2.2.1),.sl (L p.2.2.2)]),(11,.nb [.b s9.1,.sl (L s9.2.1),.sl (L s9.2.2)]),(12,.d (.i .i64 s10))]) (fun p=>[]) ?_ ?_
    ·skip
     by_cases hc:x15.2=0
     ·replace h:=B8 hc h
      refine cnt (dT hc) ?_;refine .region ?_;refine vk (Di AP Az) ?_;refine vk (Di AP Az) ?_;refine vk ((Ef (D8 [s8,x15.1]) Gs).deep) ?_
      obtain ⟨x18,hx18,h⟩:=bnd h
      refine vk (VOK.tupd (vs:=[.ag [.b x18.1.1,.sl (L x18.1.2.1),.sl (L x18.1.2.2)],.i .i64 x18.2]) (Ag (S8 hx18) Tryz.call106)) ?_;refine vk (Aa) ?_;refine vk (vex) ?_;refine vk (vex) ?_
      refine stn ?_ Az (by decide)
      refine asd ?_;refine RL.gh (Gh.keep [4,5,6,7,8,10,11,12] rfl) ?_;refine .nil ?_
      exact jr (x18.2,x18.1) h
     replace h:=Cc hc h
     refine cnf (dF hc) ?_;refine .gh (Gh.keep [4,5,6,7,8,10,11,12] rfl) ?_;refine .skip ?_
     exact jr (x15.2,s8) h
    rintro ⟨z16,z17⟩ h
    try dsimp only at h ⊢
    subst hK4
    show AW _ _ _ _ _ _
    refine .seq ?_;refine AW.mr (σ:=Unit) (fun _=>True) (fun _=>[(4,.nb [.sl (Is []),.sl (Its [])]),(5,.d (.i .i64 0)),(6,.d (.sl (RVs x1.1))),(7,.d (.sl (RVs x1.2.1))),(8,.d (.i .i64 z16)),(10,.nb [.b z17.1,.sl (L z17.2.1),.sl (L z17.2.2)]),(11,.nb [.b s9.1,.sl (L s9.2.1),.sl (L s9.2.2)]),(12,.d (.i .i64 s10)),(100,.d (.b ((decide (0<s10))&&(decide (z16=0)))))]) (fun _=>[]) ?_ ?_
    ·skip
     refine .region ?_;refine vk (Aa) ?_;refine vk (vbi) ?_
     by_cases hc:0<s10
     ·have hb0:(decide (0<s10))=true:=(dT hc)
      refine vk (VOK.lit (Aa) hb0) ?_;refine vk (Aa) ?_;refine vk (vbi) ?_;refine vk (Ao) ?_;refine RL.gh (Gh.keep [4,5,6,7,8,10,11,12,100] rfl) ?_;refine .nil ?_
      exact jr () trivial (by simp only [hb0];rfl)
     have hb0:(decide (0<s10))=false:=(dF hc)
     refine vk (VOK.lit (Aa) hb0) ?_;refine gf ?_;refine gf ?_;refine vk (Ao) ?_;refine RL.gh (Gh.keep [4,5,6,7,8,10,11,12,100] rfl) ?_;refine .nil ?_
     exact jr () trivial (by simp only [hb0];rfl)
    rintro _ _
    by_cases hc:((decide (0<s10))&&(decide (z16=0)))=true
    ·replace h:=B8 hc h
     refine cnt hc ?_
     obtain ⟨x19,hx19,h⟩:=bnd h
     obtain ⟨x20,hx20,h⟩:=bnd h
     refine .drawnF 10 [9] [(11,.nb [.b x20.1.1,.sl (L x20.1.2.1),.sl (L x20.1.2.2)])] [] AZ (by kernel_rfl) rfl ?_;refine dv (Di AP Az) ?_;refine dv (Aa) ?_;refine dv (Aa) ?_
     obtain ⟨nx19,hnx19,hxx19⟩:=Ai hx19
     refine dv (vix nx19 hnx19 (KH hxx19) rfl Ot) ?_;refine dv (Aq AP Az) ?_;refine dv ((Ef (D8 [s9,x19]) Gs).deep) ?_;refine dv (VOK.tupd (vs:=[.ag [.b x20.1.1,.sl (L x20.1.2.1),.sl (L x20.1.2.2)],.i .i64 x20.2]) (Ag (Jb hx20) Tryz.call105)) ?_;refine dv (Aa) ?_;refine dv (vex) ?_;refine dv (vex) ?_;refine dz ?_
     refine ⟨?_,?_,?_⟩
     ·intro k hk
      simp only [List.mem_cons,List.not_mem_nil,or_false] at hk
      subst hk
      exact ⟨_,_,_,rfl,rfl,rfl,rfl,rfl,rfl,vex⟩
     ·intro om e hom hge
      cases hom
      exact Gq (cs:=[.b s9.1,.sl (L s9.2.1),.sl (L s9.2.2)]) (cs':=[.b x20.1.1,.sl (L x20.1.2.1),.sl (L x20.1.2.2)]) Az (by decide) rfl ((hge 11 (fun k hk v hv=>by
        simp only [List.mem_cons,List.not_mem_nil,or_false] at hk
        subst hk;exact (by decide:¬(some 110=some 11)) (congrArg (Option.map Prod.fst) hv))).trans rfl) ((congrArg A9 (hge 109 (fun k hk v hv=>by
        simp only [List.mem_cons,List.not_mem_nil,or_false] at hk
        subst hk;exact (by decide:¬(some 110=some 109)) (congrArg (Option.map Prod.fst) hv)))).trans rfl) rfl rfl rfl rfl ⟨rfl,rfl⟩
     refine asd ?_;refine RL.gh (Gh.keep [4,5,6,7,8,10,11,12] rfl) ?_;refine .nil ?_
     exact jr (x20.2,z17,x20.1) h
    replace h:=Cc hc h
    refine cnf (bf hc) ?_;refine .gh (Gh.keep [4,5,6,7,8,10,11,12] rfl) ?_;refine .skip ?_
    exact jr (z16,z17,s9) h
   rintro ⟨z11,z12,z13⟩ h
   try dsimp only at h ⊢
   subst hK3
   refine .region ?_;refine vk (Aa) ?_;refine vk (vbi) ?_;refine asd ?_;refine .nil ?_;refine AL.gh (Gh.keep [4,5,6,7,8,10,11,12] rfl) ?_
   exact ih (k,z11,z12,z13,(w64 (s10-1))) h (Nat.lt_succ_self _)
  replace h:=Cc hc h
  refine cnf (bf hc) ?_;refine .gh (Gh.keep [4,5,8,10] rfl) ?_;refine .exit ?_
  exact jr (s7,s8) h
 rintro ⟨z5,z6⟩ h
 try dsimp only at h ⊢
 subst hK1
 show AW _ _ _ _ _ _
 refine .seq ?_;refine .seq ?_;refine .region ?_;refine vk (Aa) ?_;refine vk (vbi) ?_;refine rn ?_;refine .gh (Gh.keep [4,5,8,10,112] rfl) ?_
 by_cases hc:z5=0
 ·replace h:=B8 hc h
  refine cnf (ntf (dT hc)) ?_;refine .skip ?_
  show AW _ _ _ _ _ _
  refine .seq ?_;refine .region ?_;refine vk (Di AP Az) ?_
  obtain ⟨x21,hx21,h⟩:=bnd h
  refine vk (Ag (Pg hx21) Tryz.call107) ?_
  refine stn ?_ Ab (by decide)
  refine asd ?_;refine rn ?_;refine .gh (Gh.keep [4,5] rfl) ?_;refine .ret ?_
  cases h
  exact ⟨_,_,⟨.inr rfl,Ae,Ab,(by decide:(0:Nat)<2)⟩,rfl,rfl⟩
 replace h:=Cc hc h
 refine cnt (ntt (dF hc)) ?_;refine .seq ?_;refine .region ?_;refine vk (vbd BL AI AK) ?_;refine vk (Aa) ?_
 refine stn ?_ Ab (by decide)
 refine asd ?_;refine rn ?_;refine .gh (Gh.keep [4,5,10] rfl) ?_;refine .ret ?_
 cases h
 exact ⟨_,_,⟨.inr rfl,Ae,Ab,(by decide:(0:Nat)<2)⟩,rfl,rfl⟩
def JH (a0:Bool) : Option (Int):=(if a0=true then (some (1)) else (some (0)))
theorem No {a0:Bool} {r:Int} (h:JH a0=some r) :
  Fn Tryz.prog 43 [.b a0] (.d (.i .i64 r)):=by
 unfold JH at h
 refine Fn.of (rs:=[.tmp 2]) (nt:=4) Tryz.func43 rfl rfl rfl (by simp) rfl ?_;refine .seq ?_;refine .region ?_;refine asd ?_;refine rn ?_;refine .gh (Gh.keep [0,2] rfl) ?_;refine .seq ?_;refine .seq ?_;refine .region ?_;refine vk (Aa) ?_;refine rn ?_;refine .gh (Gh.keep [2,3] rfl) ?_
 by_cases hc:a0=true
 ·replace h:=B8 hc h
  refine cnt hc ?_;refine .seq ?_;refine .region ?_;refine asd ?_;refine rn ?_;refine .gh (Gh.keep [2] rfl) ?_;refine .ret ?_
  cases h
  exact ⟨rfl,rfl⟩
 replace h:=Cc hc h
 refine cnf (bf hc) ?_;refine .skip ?_
 show AW _ _ _ _ _ _
 refine .seq ?_;refine .region ?_;refine asd ?_;refine rn ?_;refine .gh (Gh.keep [2] rfl) ?_;refine .ret ?_
 cases h
 exact ⟨rfl,rfl⟩
def IK (a0:(Int×RT×Int)) (a1:Int) (a2:Arr) (a3:Arr) : Option (Arr×Int):=((GT a1).bind fun x1=>(if x1=true then ((DM a0 ([a2,a3])).bind fun x2=>(if x2=true then (if a1=8835 then none else (if a1=8868 then ((Ii a2 a3).bind fun x3=>(some (x3.1,x3.2))) else (if a1=8869 then ((Ip a2 a3).bind fun x4=>(some (x4.1,x4.2))) else (jn (fun (z5:Bool)=>(if z5=true then ((FC a2 a3).bind fun x6=>((JH (x6 == (decide (a1=8801)))).bind fun x7=>((DY x7).bind fun x8=>(some (x8,0))))) else (if a1=9075 then none else (if a1=8714 then none else (if a1=9015 then none else none))))) fun K0=>(if a1=8801 then (K0 (decide (a1=8801))) else (K0 (decide (a1=8802)))))))) else (some ((Arr.mk [] []),22)))) else (some ((Arr.mk [] []),23))))
theorem MD {a0:(Int×RT×Int)} {a1:Int} {a2:Arr} {a3:Arr} {r:Arr×Int} (h:IK a0 a1 a2 a3=some r) :
  Fn Tryz.prog 13 [.ag [.i .i64 a0.1,.b a0.2.1.1,.sl (L a0.2.1.2.1),.sl (L a0.2.1.2.2),.i .i64 a0.2.2],.i .i32 a1,.ag [.sl (Is a2.shape),.sl (Its a2.items)],.ag [.sl (Is a3.shape),.sl (Its a3.items)]] (.tup [.d (.ag [.sl (Is r.1.shape),.sl (Its r.1.items)]),.d (.i .i64 r.2)]):=by
 unfold IK at h
 refine Fn.ofC (rs:=[.cell 8 27,.tmp 9]) (nt:=92) Tryz.func13 rfl rfl rfl (by simp) rfl ?_;refine .seq ?_;refine .region ?_;refine vk (vbx) ?_;refine vk (vbx) ?_;refine vk (vbx) ?_;refine vk (van (Ah AI) AK) ?_;refine asd ?_;refine rn ?_;refine .gh (Gh.keep [1,4,6,7,8,9] rfl) ?_;refine .seq ?_;refine .block ?_;refine .seq ?_;refine .region ?_;refine vk (Aa) ?_
 obtain ⟨x1,hx1,h⟩:=bnd h
 refine vk (Ag (KY hx1) Tryz.call38) ?_;refine vk (vnt) ?_;refine asd ?_;refine rn ?_;refine .gh (Gh.keep [1,4,6,7,8,9,11] rfl) ?_
 by_cases hc:x1=true
 ·replace h:=B8 hc h
  refine cnf (ntf hc) ?_;refine .seq ?_;refine .region ?_;refine vk (Aq IN H7) ?_;refine vk (Aq Ae Ab) ?_;refine vk (Aq Ae Ab) ?_;refine vk ((E0 (Vs a2 a3) (Gt [a2,a3]) Il).deep) ?_
  obtain ⟨x2,hx2,h⟩:=bnd h
  refine vk (Ag (GW hx2) Tryz.call39) ?_;refine vk (vnt) ?_;refine asd ?_;refine rn ?_;refine .gh (Gh.keep [1,4,6,7,8,9,16] rfl) ?_
  by_cases hc:x2=true
  ·replace h:=B8 hc h
   refine cnf (ntf hc) ?_;refine .skip ?_
   show AW _ _ _ _ _ _
   refine .seq ?_;refine .seq ?_;refine .region ?_;refine vk (Aa) ?_;refine rn ?_;refine .gh (Gh.keep [1,4,6,7,8,9,24] rfl) ?_;refine .block ?_;refine .seq ?_;refine .region ?_;refine vk (vbi) ?_;refine asd ?_;refine rn ?_;refine .gh (Gh.keep [1,4,6,7,8,9,24,25] rfl) ?_
   by_cases hc:a1=8835
   ·replace h:=B8 hc h
    refine cnt (dT hc) ?_;refine .seq ?_;refine .region ?_;refine vk (Aq IN H7) ?_;refine vk (Aq Ae Ab) ?_;refine vk (Aq Ae Ab) ?_
    exact nomatch h
   replace h:=Cc hc h
   refine cnf (dF hc) ?_;refine .seq ?_;refine .region ?_;refine vk (vbi) ?_;refine asd ?_;refine rn ?_;refine .gh (Gh.keep [1,4,6,7,8,9,24,33] rfl) ?_
   by_cases hc:a1=8868
   ·replace h:=B8 hc h
    refine cnt (dT hc) ?_;refine .seq ?_;refine .region ?_;refine vk (Aq Ae Ab) ?_;refine vk (Aq Ae Ab) ?_
    obtain ⟨x3,hx3,h⟩:=bnd h
    refine vk (VOK.tupd (vs:=[.ag [.sl (Is x3.1.shape),.sl (Its x3.1.items)],.i .i64 x3.2]) (Ag (M5 hx3) Tryz.call41)) ?_;refine vk (vex) ?_;refine vk (vex) ?_
    refine stn ?_ Ab (by decide)
    refine asd ?_;refine rn ?_;refine .gh (Gh.keep [1,6,7,8,9] rfl) ?_;refine .ret ?_
    cases h
    exact ⟨_,_,⟨.inr rfl,Ae,Ab,(by decide:(0:Nat)<2)⟩,rfl,rfl⟩
   replace h:=Cc hc h
   refine cnf (dF hc) ?_;refine .seq ?_;refine .region ?_;refine vk (vbi) ?_;refine asd ?_;refine rn ?_;refine .gh (Gh.keep [1,4,6,7,8,9,24,40] rfl) ?_
   by_cases hc:a1=8869
   ·replace h:=B8 hc h
    refine cnt (dT hc) ?_;refine .seq ?_;refine .region ?_;refine vk (Aq Ae Ab) ?_;refine vk (Aq Ae Ab) ?_
    obtain ⟨x4,hx4,h⟩:=bnd h
    refine vk (VOK.tupd (vs:=[.ag [.sl (Is x4.1.shape),.sl (Its x4.1.items)],.i .i64 x4.2]) (Ag (Mt hx4) Tryz.call42)) ?_;refine vk (vex) ?_;refine vk (vex) ?_
    refine stn ?_ Ab (by decide)
    refine asd ?_;refine rn ?_;refine .gh (Gh.keep [1,6,7,8,9] rfl) ?_;refine .ret ?_
    cases h
    exact ⟨_,_,⟨.inr rfl,Ae,Ab,(by decide:(0:Nat)<2)⟩,rfl,rfl⟩
   replace h:=Cc hc h
   refine cnf (dF hc) ?_;refine .seq ?_;refine .seq ?_;refine .region ?_;refine vk (vbi) ?_;refine asd ?_;refine rn ?_;refine .gh (Gh.keep [1,4,6,7,8,9,24,47] rfl) ?_
   obtain ⟨K0,hK0,h⟩:=AE h
   refine AW.mr (σ:=Bool) (fun p=>K0 p=some r) (fun p=>[(1,.d (.i .i32 a1)),(4,.d (.ptr [.i .i64 a0.1,.b a0.2.1.1,.sl (L a0.2.1.2.1),.sl (L a0.2.1.2.2),.i .i64 a0.2.2])),(6,.d (.ptr [.sl (Is a2.shape),.sl (Its a2.items)])),(7,.d (.ptr [.sl (Is a3.shape),.sl (Its a3.items)])),(8,.nb [.sl (Is []),.sl (Its [])]),(9,.d (.i .i64 0)),(24,.d (.i .i32 a1)),(47,.d (.b p))]) (fun p=>[]) ?_ ?_
   ·skip
    by_cases hc:a1=8801
    ·replace h:=B8 hc h
     refine cnt (dT hc) ?_;refine .gh (Gh.keep [1,4,6,7,8,9,24,47] rfl) ?_;refine .skip ?_
     exact jr ((decide (a1=8801))) h
    replace h:=Cc hc h
    refine cnf (dF hc) ?_;refine .region ?_;refine vk (vbi) ?_;refine asd ?_;refine RL.gh (Gh.keep [1,4,6,7,8,9,24,47] rfl) ?_;refine .nil ?_
    exact jr ((decide (a1=8802))) h
   rintro z5 h
   try dsimp only at h ⊢
   subst hK0
   show AW _ _ _ _ _ _
   by_cases hc:z5=true
   ·replace h:=B8 hc h
    refine cnt hc ?_;refine .seq ?_;refine .region ?_;refine vk (Aq Ae Ab) ?_;refine vk (Aq Ae Ab) ?_
    obtain ⟨x6,hx6,h⟩:=bnd h
    refine vk (Ag (Gm hx6) Tryz.call17) ?_;refine vk (Aa) ?_;refine vk (vbi) ?_;refine vk (Xt (.inl rfl) bo) ?_
    obtain ⟨x7,hx7,h⟩:=bnd h
    refine vk (Ag (No hx7) Tryz.call43) ?_
    obtain ⟨x8,hx8,h⟩:=bnd h
    refine vk (Ag (EQ hx8) Tryz.call12) ?_
    refine stn ?_ Ab (by decide)
    refine asd ?_;refine rn ?_;refine .gh (Gh.keep [1,6,7,8,9] rfl) ?_;refine .ret ?_
    cases h
    exact ⟨_,_,⟨.inr rfl,Ae,Ab,(by decide:(0:Nat)<2)⟩,rfl,rfl⟩
   replace h:=Cc hc h
   refine cnf (bf hc) ?_;refine .seq ?_;refine .region ?_;refine vk (vbi) ?_;refine asd ?_;refine rn ?_;refine .gh (Gh.keep [1,4,6,7,8,9,24,58] rfl) ?_
   by_cases hc:a1=9075
   ·replace h:=B8 hc h
    refine cnt (dT hc) ?_;refine .seq ?_;refine .region ?_;refine vk (Aq IN H7) ?_;refine vk (Aq Ae Ab) ?_;refine vk (Aq Ae Ab) ?_
    exact nomatch h
   replace h:=Cc hc h
   refine cnf (dF hc) ?_;refine .seq ?_;refine .region ?_;refine vk (vbi) ?_;refine asd ?_;refine rn ?_;refine .gh (Gh.keep [1,4,6,7,8,9,24,66] rfl) ?_
   by_cases hc:a1=8714
   ·replace h:=B8 hc h
    exact nomatch h
   replace h:=Cc hc h
   refine cnf (dF hc) ?_;refine .seq ?_;refine .region ?_;refine vk (vbi) ?_;refine asd ?_;refine rn ?_;refine .gh (Gh.keep [1,4,6,7,8,9,78] rfl) ?_
   by_cases hc:a1=9015
   ·replace h:=B8 hc h
    refine cnt (dT hc) ?_;refine .seq ?_;refine .region ?_;refine vk (Aq IN H7) ?_;refine vk (Aq Ae Ab) ?_;refine vk (Aq Ae Ab) ?_
    exact nomatch h
   replace h:=Cc hc h
   refine cnf (dF hc) ?_;refine .skip ?_
   show AW _ _ _ _ _ _
   refine .seq ?_;refine .region ?_;refine vk (Aa) ?_;refine vk (Aq Ae Ab) ?_;refine vk (Aq Ae Ab) ?_
   exact nomatch h
  replace h:=Cc hc h
  refine cnt (ntt (bf hc)) ?_;refine .seq ?_;refine .region ?_;refine vk (vbd BL AI AK) ?_
  refine stn ?_ Ab (by decide)
  refine asd ?_;refine rn ?_;refine .gh (Gh.keep [1,4,6,7,8,9] rfl) ?_;refine .ret ?_
  cases h
  exact ⟨_,_,⟨.inr rfl,Ae,Ab,(by decide:(0:Nat)<2)⟩,rfl,rfl⟩
 replace h:=Cc hc h
 refine cnt (ntt (bf hc)) ?_;refine .seq ?_;refine .region ?_;refine vk (vbd BL AI AK) ?_
 refine stn ?_ Ab (by decide)
 refine asd ?_;refine rn ?_;refine .gh (Gh.keep [1,4,6,7,8,9] rfl) ?_;refine .ret ?_
 cases h
 exact ⟨_,_,⟨.inr rfl,Ae,Ab,(by decide:(0:Nat)<2)⟩,rfl,rfl⟩
def Ev : Option ((Int×RT×Int)):=(some ((1,(false,[],[]),0)))
theorem EG {r:(Int×RT×Int)} (h:Ev=some r) :
  Fn Tryz.prog 14 [] (.d (.ag [.i .i64 r.1,.b r.2.1.1,.sl (L r.2.1.2.1),.sl (L r.2.1.2.2),.i .i64 r.2.2])):=by
 unfold Ev at h
 refine Fn.ofC (rs:=[.cell 0 36]) (nt:=2) Tryz.func14 rfl rfl rfl (by simp) rfl ?_;refine .sr ?_;refine vk (van (Ah Wz) WF) ?_;refine rk [0] ?_;refine .sr ?_;refine vk (vbd Yl Wz WF) ?_
 refine stn ?_ H7 (by decide)
 refine rk [0] ?_;refine .ret ?_
 cases h
 exact ⟨_,⟨.inr rfl,IN,H7,(by decide:(0:Nat)<5)⟩,rfl⟩
def Gi : Option (Bool):=(Ev.bind fun x1=>((GX ([3,1,2])).bind fun x2=>((D1 x1 9035 x2).bind fun x3=>(Ev.bind fun x4=>((GX ([10,10])).bind fun x5=>((DY 37).bind fun x6=>((IK x4 8868 x5 x6).bind fun x7=>(Option.bind ((if x3.2=0 then ((GX ([2,3,1])).bind fun x9=>((FC x3.1 x9).bind fun x10=>(if x10=true then (if x7.2=0 then ((GX ([3,7])).bind fun x11=>((FC x7.1 x11).bind fun x12=>(some x12))) else (some false)) else (some false)))) else (some false)) : Option (Bool)) fun (z8:Bool)=>(some (z8))))))))))
theorem Jo {r:Bool} (h:Gi=some r) :
  Fn Tryz.prog 16 [] (.d (.b r)):=by
 unfold Gi at h
 refine Fn.o1 0 38 Tryz.func16 ?_;refine .sr ?_;refine ar [0] ?_;refine .sr ?_
 obtain ⟨x1,g1,h⟩:=bnd h
 refine vk (Ag (EG g1) Tryz.call14) ?_;refine vk ((Ef (DC [3,1,2]) Ds).deep) ?_
 obtain ⟨x2,g2,h⟩:=bnd h
 refine vk (Ag (F9 g2) Tryz.call15) ?_
 obtain ⟨x3,g3,h⟩:=bnd h
 refine vk (VOK.tupd (vs:=[.ag [.sl (Is x3.1.shape),.sl (Its x3.1.items)],.i .i64 x3.2]) (Ag (H6 g3) Tryz.call19)) ?_;refine vk (Aa) ?_;refine vk (vex) ?_;refine vk (vex) ?_;refine vk (van (Ah AI) AK) ?_
 refine stn ?_ Ab (by decide)
 refine ar [0,1,2] ?_;refine .sr ?_
 obtain ⟨x4,g4,h⟩:=bnd h
 refine vk (Ag (EG g4) Tryz.call14) ?_;refine vk ((Ef (DC [10,10]) Ds).deep) ?_
 obtain ⟨x5,g5,h⟩:=bnd h
 refine vk (Ag (F9 g5) Tryz.call15) ?_
 obtain ⟨x6,g6,h⟩:=bnd h
 refine vk (Ag (EQ g6) Tryz.call12) ?_
 obtain ⟨x7,g7,h⟩:=bnd h
 refine vk (VOK.tupd (vs:=[.ag [.sl (Is x7.1.shape),.sl (Its x7.1.items)],.i .i64 x7.2]) (Ag (MD g7) Tryz.call13)) ?_;refine vk (Aa) ?_;refine vk (vex) ?_;refine vk (vex) ?_;refine vk (van (Ah AI) AK) ?_
 refine stn ?_ Ab (by decide)
 refine ar [0,1,2,3,4] ?_;refine .seq ?_
 obtain ⟨z8,hz,h⟩:=bnd h
 refine AW.mr (σ:=Unit) (fun _=>True) (fun _=>[(0,.d (.b z8))]) (fun _=>[]) ?_ ?_
 ·skip
  refine .drawn 18 AZ (by kernel_rfl) ?_;refine dv (Aa) ?_;refine dv (vbi) ?_
  rcases brc hz with ⟨hc,hz⟩|⟨hc,hz⟩
  ·have hb0:(decide (x3.2=0))=true:=(dT hc)
   refine dv (VOK.lit (Aa) hb0) ?_;refine dv (Di Ae Ab) ?_;refine dv ((Ef (DC [2,3,1]) Ds).deep) ?_
   obtain ⟨x9,g9,hz⟩:=bnd hz
   refine dv (Ag (F9 g9) Tryz.call15) ?_
   obtain ⟨x10,g10,hz⟩:=bnd hz
   refine dv (Ag (Gm g10) Tryz.call17) ?_;refine dv (Ao) ?_
   rcases brc hz with ⟨hc,hz⟩|⟨hc,hz⟩
   ·have hb1:x10=true:=hc
    refine dv (VOK.lit (Aa) hb1) ?_;refine dv (Aa) ?_;refine dv (vbi) ?_;refine dv (Ao) ?_
    rcases brc hz with ⟨hc,hz⟩|⟨hc,hz⟩
    ·have hb2:(decide (x7.2=0))=true:=(dT hc)
     refine dv (VOK.lit (Aa) hb2) ?_;refine dv (Di Ae Ab) ?_;refine dv ((Ef (DC [3,7]) Ds).deep) ?_
     obtain ⟨x11,g11,hz⟩:=bnd hz
     refine dv (Ag (F9 g11) Tryz.call15) ?_
     obtain ⟨x12,g12,hz⟩:=bnd hz
     refine dv (Ag (Gm g12) Tryz.call17) ?_;refine dv (Ao) ?_;refine dz ?_;refine asd ?_;refine RL.gk [0] ?_;refine .nil ?_
     cases hz
     exact jr () trivial
    have hb2:(decide (x7.2=0))=false:=(dF hc)
    refine dv (VOK.lit (Aa) hb2) ?_;refine dgf ?_;refine dgf ?_;refine dgf ?_;refine dgf ?_;refine dv (Ao) ?_;refine dz ?_;refine asd ?_;refine RL.gk [0] ?_;refine .nil ?_
    cases hz
    exact jr () trivial
   have hb1:x10=false:=(bf hc)
   refine dv (VOK.lit (Aa) hb1) ?_;refine dgf ?_;refine dgf ?_;refine dv (Ao) ?_;refine dv (Aa) ?_;refine dgf ?_;refine dgf ?_;refine dgf ?_;refine dgf ?_;refine dv (Ao) ?_;refine dz ?_;refine asd ?_;refine RL.gk [0] ?_;refine .nil ?_
   cases hz
   exact jr () trivial
  have hb0:(decide (x3.2=0))=false:=(dF hc)
  refine dv (VOK.lit (Aa) hb0) ?_;refine dgf ?_;refine dgf ?_;refine dgf ?_;refine dgf ?_;refine dv (Ao) ?_;refine dv (Aa) ?_;refine dgf ?_;refine dgf ?_;refine dv (Ao) ?_;refine dv (Aa) ?_;refine dgf ?_;refine dgf ?_;refine dgf ?_;refine dgf ?_;refine dv (Ao) ?_;refine dz ?_;refine asd ?_;refine RL.gk [0] ?_;refine .nil ?_
  cases hz
  exact jr () trivial
 rintro _ _
 refine .ret ?_
 cases h
 exact ⟨rfl,rfl⟩
end Go.FL
namespace Go.FL
open Go
theorem Yc : Gi=some true:=by kernel_rfl
end Go.FL
namespace Go.FL
open Go Go.RowKit Go.ChangeShapes Go.WideShapes Go.ChangeAt
section
variable {H:Type}
def OpF (enc:TypeId×Value→H) (P:Program) (W:World) (n:Nat) (t:TypeId) {α:Type} (F:α→List DV) (Q:α→Prop) : Prop :=
 ∀ (fuel:Nat) (cs:List Value) (x:DataW H×List MemPlace),fuel≤n→DataW.trod enc P W 0 (fun _=>true) true fuel t cs=some x→(∀ m∈DataW.weights P t x.1,m≤reachBytes) →
  ∃ a,Q a∧RepAll W (fun b=>b<W.heap.size) (F a) cs∧∀ u∈cs,u.oneCell'=true
variable {enc:TypeId×Value→H} {P:Program} {W:World}
theorem OpF.mono {n m t:Nat} {α:Type} {F:α→List DV} {Q:α→Prop} (h:OpF enc P W n t F Q) (hm:m≤n) : OpF enc P W m t F Q:=fun fuel cs x hf=>h fuel cs x (by omega)
theorem OpF.map {n t:Nat} {α β:Type} {F:α→List DV} {Q:α→Prop} {G:β→List DV} {R:β→Prop} (h:OpF enc P W n t F Q) (f:∀ a,Q a→∃ b,R b∧F a=G b) : OpF enc P W n t G R:=fun fuel cs x hf h1 h2=>by
 obtain ⟨a,q,r,c⟩:=h fuel cs x hf h1 h2
 obtain ⟨b,rb,e⟩:=f a q
 exact ⟨b,rb,e▸r,c⟩
theorem OX {n t:Nat} {k:IntKind} (ht:P.underlying t=some (.int k)) : OpF enc P W n t (fun z:Int=>[.i k z]) (fun z=>(Lit.int k z).wf=true):=fun fuel cs x _ h _=>by
 obtain ⟨z,rfl,_,hw⟩:=DataW.trod_int ht h
 exact ⟨z,hw,.cons (.i _ _) .nil,by simp [Value.oneCell']⟩
theorem VH {n t:Nat} (ht:P.underlying t=some .bool) : OpF enc P W n t (fun z:Bool=>[.b z]) (fun _=>True):=fun fuel cs x _ h _=>by
 obtain ⟨z,rfl,_⟩:=DataW.trod_bool ht h
 exact ⟨z,trivial,.cons (.b _) .nil,by simp [Value.oneCell']⟩
theorem Ie {e:TypeId} : ∀ {ds:List (DataW H)} {d:DataW H},d∈ds→∀ q∈DataW.weights P e d,q∈DataW.weightsAll P e ds
 | d::ds,d',hd,q,hq=>by
  rw [DataW.weightsAll,List.mem_append]
  rcases List.mem_cons.1 hd with rfl|hd
  ·exact .inl hq
  ·exact .inr (Ie hd q hq)
theorem J8 {n t e sz:Nat} {α:Type} {F:α→List DV} {Q:α→Prop} (D:α→DV) (ht:P.underlying t=some (.slice e)) (hs:P.cellsOf e=sz) (h0:0<sz) (hD:∀ a,(D a).cells=F a) (h:OpF enc P W n e F Q) :
  OpF enc P W (n+1) t (fun xs:List α=>[.sl (xs.map D)]) (fun xs=>(∀ x∈xs,Q x)∧xs.length * P.bytesOf e≤reachBytes):=by
 intro fuel cs x hf hx hw
 rcases DataW.trod_slice ht hx with ⟨rfl,rfl⟩|⟨a,len,cap,elems,rest,m,rfl,rfl,rfl,hb,hl,hm,hlen,hel,_,_⟩
 ·exact ⟨[],⟨by simp,by simp⟩,.cons (.sl0 _ _) .nil,by simp [Value.oneCell']⟩
 ·simp only [DataW.weights,ht] at hw
  have hroom:(elems.length+rest.length) * P.bytesOf e≤reachBytes:=by
   have:=hw ((elems.length+rest.length) * P.bytesOf e) (by simp)
   exact this
  have each:∀ i,i<len→∃ vs y,W.cells? 0 (a.add (i * P.cellsOf e)) (P.cellsOf e)=some vs∧DataW.trod enc P W 0 (fun _=>true) true m e vs=some y∧∀ q∈DataW.weights P e y.1,q≤reachBytes:=by
   intro i hi
   have h1:=hel i hi
   rw [lG (show i<elems.length by omega)] at h1
   obtain ⟨vs,h2,h3⟩:=Option.bind_eq_some_iff.1 h1
   refine ⟨vs,_,h2,h3,fun q hq=>hw q ?_⟩
   simp only [List.mem_cons,List.mem_append]
   exact .inr (.inl (Ie (d:=(elems[i]'(by omega)).1) (List.mem_map_of_mem (List.getElem_mem _)) q hq))
  by_cases hlen0:len=0
  ·subst hlen0
   exact ⟨[],⟨by simp,by simp⟩,.cons (.sl0 _ _) .nil,by simp [Value.oneCell']⟩
  ·obtain ⟨b,off,spot⟩:=a
   have hspot:spot=none:=by
    obtain ⟨vs,y,h1,_,_⟩:=each 0 (by omega)
    obtain ⟨_,k2,k3⟩:=World.cells?_some h1
    have h4:=k3 0 (by omega)
    rw [lG (show 0<vs.length by omega)] at h4
    simpa [Addr.add] using World.cell?_spot h4
   subst hspot
   have build:∀ j,j≤len→∃ (xs:List α) (vs:List Value),xs.length=j∧(∀ x∈xs,Q x)∧Has W b off vs∧RepRows W (fun b=>b<W.heap.size) sz (xs.map D) vs:=by
    intro j
    induction j with
    | zero=>exact fun _=>⟨[],[],rfl,by simp,fun j u hj=>by simp at hj,.nil _⟩
    | succ j ih =>
     intro hj
     obtain ⟨xs,vs,k1,k2,k3,k4⟩:=ih (by omega)
     obtain ⟨us,y,g1,g2,g3⟩:=each j (by omega)
     obtain ⟨_,g4,g5⟩:=World.cells?_some g1
     obtain ⟨x,q1,q2,q3⟩:=h m us y (by omega) g2 g3
     have hvl:=k4.length
     rw [List.length_map,k1] at hvl
     refine ⟨xs++[x],vs++us,by simp [k1],?_,?_,?_⟩
     ·intro z hz
      rcases List.mem_append.1 hz with hz|hz
      ·exact k2 z hz
      ·simp at hz;subst hz;exact q1
     ·intro i u hi
      rw [List.getElem?_append] at hi
      split at hi
      ·exact k3 i u hi
      ·rename_i hge
       have:=g5 (i-vs.length) (by have:=(lS.1 hi).1;omega)
       rw [hi] at this
       rw [← this,hs]
       have e1:off+i=off+j * sz+(i-vs.length):=by omega
       rw [e1,add_plain,add_plain]
     ·rw [List.map_append]
      refine k4.append ?_
      have:=RepRows.cons (sz:=sz) (x:=D x) (xs:=[]) (us:=us) (vs:=[]) (by omega) q3 (by rw [hD];exact q2) (.nil sz)
      simpa using this
   obtain ⟨xs,vs,k1,k2,k3,k4⟩:=build len (Nat.le_refl _)
   have hne:xs≠[]:=fun h=>by subst h;simp at k1;omega
   have hlt:b<W.heap.size:=by
    obtain ⟨us,y,g1,_,_⟩:=each 0 (by omega)
    have:=World.cells?_block g1 (by omega)
    rwa [add_plain] at this
   refine ⟨xs,⟨k2,nT (Nat.mul_le_mul_right _ (by omega)) hroom⟩,.cons ?_ .nil,by simp [Value.oneCell']⟩
   have:=Rep.sl (w:=W) (I:=fun b=>b<W.heap.size) (xs.map D) b off sz cap vs (by simpa using hne) (by rw [List.length_map,k1];exact hl) hlt h0 k3 k4
   rwa [List.length_map,k1] at this
def fTO (P:Program) (t:TypeId) : Option (List (TypeId×Nat)):=match P.underlying t with
 | some (.struct fs)=>some (fs.toList.map fun f=>(f.type,f.offset))
 | _=>none
theorem Me {t:Nat} {l:List (TypeId×Nat)} (h:fTO P t=some l) : ∃ fs,P.underlying t=some (.struct fs)∧fs.toList.map (fun f=>(f.type,f.offset))=l:=by
 unfold fTO at h
 split at h
 ·rename_i fs hu;exact ⟨fs,hu,oI h⟩
 ·cases h
theorem Rm {α0 α1:Type} {t n:Nat} {T0 s0:Nat} {F0:α0→List DV} {Q0:α0→Prop} {T1 s1:Nat} {F1:α1→List DV} {Q1:α1→Prop} (ht:fTO P t=some [(T0,0),(T1,s0)]) (hc:P.cellsOf t=s0+s1) (z0:P.cellsOf T0=s0) (h0:OpF enc P W n T0 F0 Q0) (z1:P.cellsOf T1=s1) (h1:OpF enc P W n T1 F1 Q1) :
  OpF enc P W (n+1) t (fun a:α0×α1=>F0 a.1++(F1 a.2)) (fun a=>Q0 a.1∧Q1 a.2):=by
 intro fuel cs x hf h hw
 obtain ⟨fs,hu,hfs⟩:=Me ht
 obtain ⟨xs,m,rfl,rfl,hl,hlen,hfield⟩:=DataW.trod_struct hu h
 have hsz:fs.size=2:=by have:=congrArg List.length hfs;simpa using this
 have hm:m≤n:=by omega
 have each:∀ (i T off:Nat),[(T0,0),(T1,s0)][i]?=some (T,off)→∃ y,DataW.trod enc P W 0 (fun _=>true) true m T ((cs.drop off).take (P.cellsOf T))=some y∧∀ q∈DataW.weights P T y.1,q≤reachBytes:=by
  intro i T off hi
  rw [← hfs] at hi
  obtain ⟨f,hf1,hf2⟩:∃ f,fs[i]?=some f∧(f.type,f.offset)=(T,off):=by
   rw [List.getElem?_map,Option.map_eq_some_iff] at hi
   obtain ⟨f,h1,h2⟩:=hi
   exact ⟨f,by simpa using h1,h2⟩
  cases hf2
  have hi2:i<xs.length:=by have:=(Array.getElem?_eq_some_iff.1 hf1).1;omega
  refine ⟨xs[i],by rw [hfield i f hf1,lG hi2],fun q hq=>hw q ?_⟩
  simp only [DataW.weights,hu]
  exact DataW.weights_mem_each (j:=i) (by simp [hf1]) (by simp [hi2]) q hq
 obtain ⟨y0,e0,w0⟩:=each 0 T0 (0) rfl
 obtain ⟨a0,q0,r0,c0⟩:=h0 m _ y0 hm e0 w0
 rw [z0] at r0 c0
 obtain ⟨y1,e1,w1⟩:=each 1 T1 (s0) rfl
 obtain ⟨a1,q1,r1,c1⟩:=h1 m _ y1 hm e1 w1
 rw [z1] at r1 c1
 have hcs:cs=(cs.drop (0)).take s0++(cs.drop (s0)).take s1:=by
  have hl2:cs.length=s0+s1:=by rw [hl,hc]
  clear each hfield h
  apply List.ext_getElem?
  intro j
  simp only [List.getElem?_append,List.getElem?_take,List.getElem?_drop,List.length_take,List.length_drop]
  repeat' split
  all_goals first|(congr 1;omega)|(rw [List.getElem?_eq_none (by omega)])
 refine ⟨(a0,a1),⟨q0,q1⟩,?_,?_⟩
 ·rw [hcs];exact (r0.append r1)
 ·intro u hu2
  rw [hcs] at hu2
  simp only [List.mem_append] at hu2
  rcases hu2 with hu2|hu2
  ·exact c0 u hu2
  ·exact c1 u hu2
theorem QR {α0 α1 α2:Type} {t n:Nat} {T0 s0:Nat} {F0:α0→List DV} {Q0:α0→Prop} {T1 s1:Nat} {F1:α1→List DV} {Q1:α1→Prop} {T2 s2:Nat} {F2:α2→List DV} {Q2:α2→Prop} (ht:fTO P t=some [(T0,0),(T1,s0),(T2,s0+s1)]) (hc:P.cellsOf t=s0+s1+s2) (z0:P.cellsOf T0=s0) (h0:OpF enc P W n T0 F0 Q0) (z1:P.cellsOf T1=s1) (h1:OpF enc P W n T1 F1 Q1) (z2:P.cellsOf T2=s2) (h2:OpF enc P W n T2 F2 Q2) :
  OpF enc P W (n+1) t (fun a:α0×α1×α2=>F0 a.1++(F1 a.2.1++(F2 a.2.2))) (fun a=>Q0 a.1∧Q1 a.2.1∧Q2 a.2.2):=by
 intro fuel cs x hf h hw
 obtain ⟨fs,hu,hfs⟩:=Me ht
 obtain ⟨xs,m,rfl,rfl,hl,hlen,hfield⟩:=DataW.trod_struct hu h
 have hsz:fs.size=3:=by have:=congrArg List.length hfs;simpa using this
 have hm:m≤n:=by omega
 have each:∀ (i T off:Nat),[(T0,0),(T1,s0),(T2,s0+s1)][i]?=some (T,off)→∃ y,DataW.trod enc P W 0 (fun _=>true) true m T ((cs.drop off).take (P.cellsOf T))=some y∧∀ q∈DataW.weights P T y.1,q≤reachBytes:=by
  intro i T off hi
  rw [← hfs] at hi
  obtain ⟨f,hf1,hf2⟩:∃ f,fs[i]?=some f∧(f.type,f.offset)=(T,off):=by
   rw [List.getElem?_map,Option.map_eq_some_iff] at hi
   obtain ⟨f,h1,h2⟩:=hi
   exact ⟨f,by simpa using h1,h2⟩
  cases hf2
  have hi2:i<xs.length:=by have:=(Array.getElem?_eq_some_iff.1 hf1).1;omega
  refine ⟨xs[i],by rw [hfield i f hf1,lG hi2],fun q hq=>hw q ?_⟩
  simp only [DataW.weights,hu]
  exact DataW.weights_mem_each (j:=i) (by simp [hf1]) (by simp [hi2]) q hq
 obtain ⟨y0,e0,w0⟩:=each 0 T0 (0) rfl
 obtain ⟨a0,q0,r0,c0⟩:=h0 m _ y0 hm e0 w0
 rw [z0] at r0 c0
 obtain ⟨y1,e1,w1⟩:=each 1 T1 (s0) rfl
 obtain ⟨a1,q1,r1,c1⟩:=h1 m _ y1 hm e1 w1
 rw [z1] at r1 c1
 obtain ⟨y2,e2,w2⟩:=each 2 T2 (s0+s1) rfl
 obtain ⟨a2,q2,r2,c2⟩:=h2 m _ y2 hm e2 w2
 rw [z2] at r2 c2
 have hcs:cs=(cs.drop (0)).take s0++((cs.drop (s0)).take s1++(cs.drop (s0+s1)).take s2):=by
  have hl2:cs.length=s0+s1+s2:=by rw [hl,hc]
  clear each hfield h
  apply List.ext_getElem?
  intro j
  simp only [List.getElem?_append,List.getElem?_take,List.getElem?_drop,List.length_take,List.length_drop]
  repeat' split
  all_goals first|(congr 1;omega)|(rw [List.getElem?_eq_none (by omega)])
 refine ⟨(a0,a1,a2),⟨q0,q1,q2⟩,?_,?_⟩
 ·rw [hcs];exact (r0.append (r1.append r2))
 ·intro u hu2
  rw [hcs] at hu2
  simp only [List.mem_append] at hu2
  rcases hu2 with hu2|hu2|hu2
  ·exact c0 u hu2
  ·exact c1 u hu2
  ·exact c2 u hu2
theorem QW {α0 α1 α2 α3:Type} {t n:Nat} {T0 s0:Nat} {F0:α0→List DV} {Q0:α0→Prop} {T1 s1:Nat} {F1:α1→List DV} {Q1:α1→Prop} {T2 s2:Nat} {F2:α2→List DV} {Q2:α2→Prop} {T3 s3:Nat} {F3:α3→List DV} {Q3:α3→Prop} (ht:fTO P t=some [(T0,0),(T1,s0),(T2,s0+s1),(T3,s0+s1+s2)]) (hc:P.cellsOf t=s0+s1+s2+s3) (z0:P.cellsOf T0=s0) (h0:OpF enc P W n T0 F0 Q0) (z1:P.cellsOf T1=s1) (h1:OpF enc P W n T1 F1 Q1) (z2:P.cellsOf T2=s2) (h2:OpF enc P W n T2 F2 Q2) (z3:P.cellsOf T3=s3) (h3:OpF enc P W n T3 F3 Q3) :
  OpF enc P W (n+1) t (fun a:α0×α1×α2×α3=>F0 a.1++(F1 a.2.1++(F2 a.2.2.1++(F3 a.2.2.2)))) (fun a=>Q0 a.1∧Q1 a.2.1∧Q2 a.2.2.1∧Q3 a.2.2.2):=by
 intro fuel cs x hf h hw
 obtain ⟨fs,hu,hfs⟩:=Me ht
 obtain ⟨xs,m,rfl,rfl,hl,hlen,hfield⟩:=DataW.trod_struct hu h
 have hsz:fs.size=4:=by have:=congrArg List.length hfs;simpa using this
 have hm:m≤n:=by omega
 have each:∀ (i T off:Nat),[(T0,0),(T1,s0),(T2,s0+s1),(T3,s0+s1+s2)][i]?=some (T,off)→∃ y,DataW.trod enc P W 0 (fun _=>true) true m T ((cs.drop off).take (P.cellsOf T))=some y∧∀ q∈DataW.weights P T y.1,q≤reachBytes:=by
  intro i T off hi
  rw [← hfs] at hi
  obtain ⟨f,hf1,hf2⟩:∃ f,fs[i]?=some f∧(f.type,f.offset)=(T,off):=by
   rw [List.getElem?_map,Option.map_eq_some_iff] at hi
   obtain ⟨f,h1,h2⟩:=hi
   exact ⟨f,by simpa using h1,h2⟩
  cases hf2
  have hi2:i<xs.length:=by have:=(Array.getElem?_eq_some_iff.1 hf1).1;omega
  refine ⟨xs[i],by rw [hfield i f hf1,lG hi2],fun q hq=>hw q ?_⟩
  simp only [DataW.weights,hu]
  exact DataW.weights_mem_each (j:=i) (by simp [hf1]) (by simp [hi2]) q hq
 obtain ⟨y0,e0,w0⟩:=each 0 T0 (0) rfl
 obtain ⟨a0,q0,r0,c0⟩:=h0 m _ y0 hm e0 w0
 rw [z0] at r0 c0
 obtain ⟨y1,e1,w1⟩:=each 1 T1 (s0) rfl
 obtain ⟨a1,q1,r1,c1⟩:=h1 m _ y1 hm e1 w1
 rw [z1] at r1 c1
 obtain ⟨y2,e2,w2⟩:=each 2 T2 (s0+s1) rfl
 obtain ⟨a2,q2,r2,c2⟩:=h2 m _ y2 hm e2 w2
 rw [z2] at r2 c2
 obtain ⟨y3,e3,w3⟩:=each 3 T3 (s0+s1+s2) rfl
 obtain ⟨a3,q3,r3,c3⟩:=h3 m _ y3 hm e3 w3
 rw [z3] at r3 c3
 have hcs:cs=(cs.drop (0)).take s0++((cs.drop (s0)).take s1++((cs.drop (s0+s1)).take s2++(cs.drop (s0+s1+s2)).take s3)):=by
  have hl2:cs.length=s0+s1+s2+s3:=by rw [hl,hc]
  clear each hfield h
  apply List.ext_getElem?
  intro j
  simp only [List.getElem?_append,List.getElem?_take,List.getElem?_drop,List.length_take,List.length_drop]
  repeat' split
  all_goals first|(congr 1;omega)|(rw [List.getElem?_eq_none (by omega)])
 refine ⟨(a0,a1,a2,a3),⟨q0,q1,q2,q3⟩,?_,?_⟩
 ·rw [hcs];exact (r0.append (r1.append (r2.append r3)))
 ·intro u hu2
  rw [hcs] at hu2
  simp only [List.mem_append] at hu2
  rcases hu2 with hu2|hu2|hu2|hu2
  ·exact c0 u hu2
  ·exact c1 u hu2
  ·exact c2 u hu2
  ·exact c3 u hu2
theorem T8 {t:TypeId} {v:Value} {d:DataW H} {ps:List MemPlace} {α:Type} {D:α→DV} {Q:α→Prop} (h:∀ n,OpF enc P W n t (fun a=>[D a]) Q) (hv:v.cells.toList=[v])
  (hd:DataW.Trod enc P W 0 (fun _=>true) true t v d ps) (hw:∀ m∈DataW.weights P t d,m≤reachBytes):∃ a,Q a∧Rep W (fun b=>b<W.heap.size) (D a) v:=by
 obtain ⟨fuel,hf⟩:=hd
 obtain ⟨a,q,r,_⟩:=h fuel fuel _ _ (Nat.le_refl _) hf hw
 rw [hv] at r
 cases r with
 | cons r _=>exact ⟨a,q,r⟩
end
end Go.FL
namespace Go.FL
open Go Go.Proofs
section
variable {H:Type} {enc:TypeId×Value→H} {W:World}
theorem S7 {n:Nat} : OpF enc Tryz.prog W (n+1) 32 (fun a:List Nat=>[.sl (L a)]) (fun a=>okL 35184372087808 a=true):=by
 refine (J8 (α:=Int) (F:=fun z=>[.i .u32 z]) (sz:=1) (fun z=>.i .u32 z) (by kernel_rfl:Tryz.prog.underlying 32=some (.slice 23)) (by kernel_rfl) (by decide) (fun _=>rfl) (OX (by kernel_rfl))).map fun zs hz=>?_
 obtain ⟨a,h1,h2⟩:=PR zs hz.1
 refine ⟨a,C0.2 ⟨h1,?_⟩,by rw [← h2]⟩
 have h3:=hz.2
 rw [show Tryz.prog.bytesOf 23=4 by kernel_rfl,show reachBytes=140737488351232 by decide] at h3
 have:=congrArg List.length h2
 rw [List.length_map,Ac] at this
 omega
theorem PW (n:Nat) : OpF enc Tryz.prog W n 32 (fun a:List Nat=>[.sl (L a)]) (fun a=>okL 35184372087808 a=true):=S7.mono (Nat.le_succ n)
theorem Xy (n:Nat) : OpF enc Tryz.prog W n 34 (fun r:RT=>[.b r.1,.sl (L r.2.1),.sl (L r.2.2)]) (fun r=>IH r=true):=by
 refine OpF.mono (n:=n+1) ((QR (t:=34) (T0:=4) (T1:=32) (T2:=32) (s0:=1) (s1:=1) (s2:=1) (by kernel_rfl) (by kernel_rfl) (by kernel_rfl) (VH (by kernel_rfl)) (by kernel_rfl) (PW n) (by kernel_rfl) (PW n)).map fun r hr=>?_) (Nat.le_succ n)
 exact ⟨r,by rw [IH,hr.2.1,hr.2.2];rfl,rfl⟩
end
section
variable {H:Type} {enc:TypeId×Value→H} {W:World}
theorem TN {n:Nat} : OpF enc Tryz.prog W (n+1) 24 (fun l:List Int=>[.sl (Is l)]) (fun l=>(∀ z∈l,-9223372036854775808≤z∧z≤9223372036854775807)∧l.length≤17592186044416):=by
 refine (J8 (α:=Int) (F:=fun z=>[.i .i64 z]) (sz:=1) (fun z=>.i .i64 z) (by kernel_rfl:Tryz.prog.underlying 24=some (.slice 3)) (by kernel_rfl) (by decide) (fun _=>rfl) (OX (by kernel_rfl))).map fun zs hz=>?_
 refine ⟨zs,⟨fun z h=>?_,?_⟩,rfl⟩
 ·have:=hz.1 z h
  simp [Lit.wf,IntKind.min,IntKind.max,IntKind.signed,IntKind.bits] at this
  omega
 ·have h3:=hz.2
  rw [show Tryz.prog.bytesOf 3=8 by kernel_rfl,show reachBytes=140737488351232 by decide] at h3
  omega
theorem Wr (n:Nat) : OpF enc Tryz.prog W n 24 (fun l:List Int=>[.sl (Is l)]) (fun l=>(∀ z∈l,-9223372036854775808≤z∧z≤9223372036854775807)∧l.length≤17592186044416):=TN.mono (Nat.le_succ n)
def cI6 (x:Itm) : List DV:=[.i .u8 x.kind,.b x.num.1,.sl (L x.num.2.1),.sl (L x.num.2.2),.i .i32 x.char,.sl (Ars x.box)]
def cA2 (a:Arr) : List DV:=[.sl (Is a.shape),.sl (Its a.items)]
theorem UH {n:Nat} (h:OpF enc Tryz.prog W n 27 cA2 okAr) : OpF enc Tryz.prog W (n+1) 45 (fun l:List Arr=>[.sl (Ars l)]) (fun l=>l.length≤2932031007402∧∀ a∈l,okAr a):=by
 refine (J8 (α:=Arr) (F:=cA2) (sz:=2) Arr.dv (by kernel_rfl:Tryz.prog.underlying 45=some (.slice 27)) (by kernel_rfl) (by decide) (fun a=>by rw [Arr.dv_eq];rfl) h).map fun zs hz=>?_
 refine ⟨zs,⟨?_,hz.1⟩,by rw [GP]⟩
 have h3:=hz.2
 rw [show Tryz.prog.bytesOf 27=48 by kernel_rfl,show reachBytes=140737488351232 by decide] at h3
 omega
theorem NO {n:Nat} (h:OpF enc Tryz.prog W n 51 cI6 okI) : OpF enc Tryz.prog W (n+1) 25 (fun l:List Itm=>[.sl (Its l)]) (fun l=>l.length≤1466015503701∧∀ x∈l,okI x):=by
 refine (J8 (α:=Itm) (F:=cI6) (sz:=6) Itm.dv (by kernel_rfl:Tryz.prog.underlying 25=some (.slice 51)) (by kernel_rfl) (by decide) (fun a=>by rw [Itm.dv_eq];rfl) h).map fun zs hz=>?_
 refine ⟨zs,⟨?_,hz.1⟩,by rw [Fu]⟩
 have h3:=hz.2
 rw [show Tryz.prog.bytesOf 51=96 by kernel_rfl,show reachBytes=140737488351232 by decide] at h3
 omega
theorem Sq : ∀ n,OpF enc Tryz.prog W n 51 cI6 okI∧OpF enc Tryz.prog W n 27 cA2 okAr
 | 0=>by
  constructor <;>
  ·intro fuel cs x hf h _
   obtain rfl:fuel=0:=by omega
   simp [DataW.trod] at h
 | n+1=>by
  obtain ⟨hI,hA⟩:=Sq n
  constructor
  ·refine OpF.mono (n:=n+1+1) ((QW (t:=51) (T0:=49) (T1:=34) (T2:=21) (T3:=45) (s0:=1) (s1:=3) (s2:=1) (s3:=1) (by kernel_rfl) (by kernel_rfl) (by kernel_rfl) (OX (by kernel_rfl:Tryz.prog.underlying 49=some (.int .u8))) (by kernel_rfl) (Xy (n+1)) (by kernel_rfl) (OX (by kernel_rfl:Tryz.prog.underlying 21=some (.int .i32))) (by kernel_rfl) (UH hA)).map fun r hr=>?_) (Nat.le_succ _)
   obtain ⟨k,q,c,b⟩:=r
   obtain ⟨h1,h2,h3,h4⟩:=hr
   refine ⟨.mk k q c b,?_,rfl⟩
   rw [Fl]
   refine ⟨?_,h2,?_,h4⟩
   ·simp [Lit.wf,IntKind.min,IntKind.max,IntKind.signed,IntKind.bits] at h1
    show 0≤k∧k<256
    omega
   ·simp [Lit.wf,IntKind.min,IntKind.max,IntKind.signed,IntKind.bits] at h3
    show -2147483648≤c∧c<2147483648
    omega
  ·refine OpF.mono (n:=n+1+1) ((Rm (t:=27) (T0:=24) (T1:=25) (s0:=1) (s1:=1) (by kernel_rfl) (by kernel_rfl) (by kernel_rfl) (Wr (n+1)) (by kernel_rfl) (NO hI)).map fun r hr=>?_) (Nat.le_succ _)
   obtain ⟨s,i⟩:=r
   obtain ⟨⟨h1,h2⟩,h3,h4⟩:=hr
   refine ⟨.mk s i,?_,rfl⟩
   rw [BB]
   exact ⟨h1,h2,h3,h4⟩
theorem UK (n:Nat) : OpF enc Tryz.prog W n 25 (fun l:List Itm=>[.sl (Its l)]) (fun l=>l.length≤1466015503701∧∀ x∈l,okI x):=(NO (Sq n).1).mono (Nat.le_succ n)
end
end Go.FL
