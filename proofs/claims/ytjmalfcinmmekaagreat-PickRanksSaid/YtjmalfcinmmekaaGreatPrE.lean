/-
  Part 5 of the base of the proofs: a logic of our own over the calculus, the contracts of the functions
-/
import Derived.Test.YtjmalfcinmmekaaGreatPrD
set_option linter.unusedVariables false
namespace Go.FL
open Go Go.Proofs
def Cb (a1:Int) (a2:Int) (a3:Int) : Nat→(List Int)→Int→Option ((List Int))
 | 0,_,_=>none
 | k+1,s1,s2=>(if s2<a3 then ((rd? s1 (w64 (a2+s2))).bind fun x3=>((rd? s1 (w64 (a1+s2))).bind fun x4=>((rd? s1 (w64 (a1+s2))).bind fun x5=>((rd? (List.set s1 (Int.toNat (w64 (a1+s2))) x3) (w64 (a2+s2))).bind fun x6=>(Cb a1 a2 a3 k (List.set (List.set s1 (Int.toNat (w64 (a1+s2))) x3) (Int.toNat (w64 (a2+s2))) x4) (w64 (s2+1))))))) else (some s1))
def Dd (a0:(List Int)) (a1:Int) (a2:Int) (a3:Int) (a4:Ad) : Option ((List Int)):=(Cb a1 a2 a3 As a0 0)
theorem F5 {a0:(List Int)} {a1:Int} {a2:Int} {a3:Int} {a4:Ad} (oa4:BP a4) {r:(List Int)} (h:Dd a0 a1 a2 a3 a4=some r) :
  FnG Tryz.prog 276 [.own 3 (Is a0),.d (.i .i64 a1),.d (.i .i64 a2),.d (.i .i64 a3),.d (a4.dv)] [] (.tup []) [.own 3 (Is r)] []:=by
 unfold Dd at h
 refine FnG.of (rs:=[]) 1 38 Tryz.func276 rfl rfl rfl (by simp) (by simp) (by simp) ?_;refine .sr ?_;refine ar [0,1,2,3,10] ?_;refine .block ?_
 refine .loop (.gk [0,1,2,3,10] ?_)
 refine AL.ind (σ:=Nat×(List Int)×Int) (m:=fun p=>p.1) (e:=fun p=>[(0,.own 3 (Is p.2.1)),(1,.d (.i .i64 a1)),(2,.d (.i .i64 a2)),(3,.d (.i .i64 a3)),(10,.d (.i .i64 p.2.2))]) (h:=fun p=>[]) (I:=fun p=>Cb a1 a2 a3 p.1 p.2.1 p.2.2=some r) ?_ (As,a0,0) h
 rintro ⟨k,s1,s2⟩ h ih
 dsimp only at h ih ⊢
 rcases k with _|k
 ·rw [Cb] at h;cases h
 rw [Cb] at h
 refine .seq ?_;refine .sr ?_;refine va ?_;refine va ?_;refine vb ?_;refine rk [0,1,2,3,10,13] ?_
 rcases brc h with ⟨hc,h⟩|⟨hc,h⟩
 ·refine cnt (dT hc) ?_
  refine .sk ?_;refine .seq ?_;refine .block ?_
  obtain ⟨x3,g3,h⟩:=bnd h
  obtain ⟨x4,g4,h⟩:=bnd h
  obtain ⟨x5,g5,h⟩:=bnd h
  refine .drawnF 21 [4,5,6,7] [(0,.own 3 ((Is s1).set (Int.toNat (w64 (a1+s2))) (.i .i64 x3)))] [] A6 (by kernel_rfl) rfl ?_;refine dv EG ?_;refine dv Ae ?_;refine dv Ae ?_;refine dv vbi ?_;refine dv EG ?_;refine dv Ae ?_;refine dv Ae ?_;refine dv vbi ?_;refine dv EG ?_;refine dv Ae ?_;refine dv Ae ?_;refine dv vbi ?_
  obtain ⟨n3,p03,q3⟩:=Ah g3
  refine dv (Gb (off:=0) (len:=(Is s1).length) n3 p03 (by rw [Af];exact (lS.1 q3).1) Bt (by decide)) ?_;refine dv (HZ (i:=0+n3) (j:=0) (xs:=Is s1) (.i .i64 x3) ⟨_,by rw [Nat.zero_add];exact BJ q3,rfl⟩ AJ) ?_;refine dv EG ?_;refine dv Ae ?_;refine dv Ae ?_;refine dv vbi ?_
  obtain ⟨n4,p04,q4⟩:=Ah g4
  refine dv (Gb (off:=0) (len:=(Is s1).length) n4 p04 (by rw [Af];exact (lS.1 q4).1) Bt (by decide)) ?_;refine dv (HZ (i:=0+n4) (j:=0) (xs:=Is s1) (.i .i64 x4) ⟨_,by rw [Nat.zero_add];exact BJ q4,rfl⟩ AJ) ?_
  obtain ⟨n5,p05,q5⟩:=Ah g5
  refine dv (Gb (off:=0) (len:=(Is s1).length) n5 p05 (by rw [Af];exact (lS.1 q5).1) Bt (by decide)) ?_;refine dz ?_
  refine ⟨?_,?_,?_⟩
  ·intro k hk
   simp only [List.mem_cons,List.not_mem_nil,or_false] at hk
   rcases hk with rfl|rfl|rfl|rfl
   ·exact ⟨_,_,_,rfl,rfl,rfl,rfl,rfl,rfl,(show VOK _ _ _ _ _ (.ref (.t 0) 0 (Is s1).length) from by rw [show (Is s1).length=((Is s1).set (Int.toNat (w64 (a1+s2))) (.i .i64 x3)).length by rw [List.length_set]];exact EG)⟩
   ·exact ⟨_,_,_,rfl,rfl,rfl,rfl,rfl,rfl,Ae⟩
   ·exact ⟨_,_,_,rfl,rfl,rfl,rfl,rfl,rfl,Ae⟩
   ·exact ⟨_,_,_,rfl,rfl,rfl,rfl,rfl,rfl,vbi⟩
  ·intro om e hom hge
   cases hom
   refine IZ (x:=.tmp 36) (y:=.tmp 29) (r:=36) (ay:=.t 29) (p:=.t 0) (i:=0+n5) (k:=0) (v:=.i .i64 x3) (x':=.i .i64 x3) rfl rfl rfl rfl Dg ((hge 36 (fun k hk v hv=>by
     simp only [List.mem_cons,List.not_mem_nil,or_false] at hk
     rcases hk with rfl|rfl|rfl|rfl
     ·exact (by decide:¬(some 20=some 36)) (congrArg (Option.map Prod.fst) hv)
     ·exact (by decide:¬(some 21=some 36)) (congrArg (Option.map Prod.fst) hv)
     ·exact (by decide:¬(some 22=some 36)) (congrArg (Option.map Prod.fst) hv)
     ·exact (by decide:¬(some 23=some 36)) (congrArg (Option.map Prod.fst) hv))).trans rfl) ((hge 0 (fun k hk v hv=>by
     simp only [List.mem_cons,List.not_mem_nil,or_false] at hk
     rcases hk with rfl|rfl|rfl|rfl
     ·exact (by decide:¬(some 20=some 0)) (congrArg (Option.map Prod.fst) hv)
     ·exact (by decide:¬(some 21=some 0)) (congrArg (Option.map Prod.fst) hv)
     ·exact (by decide:¬(some 22=some 0)) (congrArg (Option.map Prod.fst) hv)
     ·exact (by decide:¬(some 23=some 0)) (congrArg (Option.map Prod.fst) hv))).trans rfl) (fun _ _ h=>by cases h) ((hge 29 (fun k hk v hv=>by
     simp only [List.mem_cons,List.not_mem_nil,or_false] at hk
     rcases hk with rfl|rfl|rfl|rfl
     ·exact (by decide:¬(some 20=some 29)) (congrArg (Option.map Prod.fst) hv)
     ·exact (by decide:¬(some 21=some 29)) (congrArg (Option.map Prod.fst) hv)
     ·exact (by decide:¬(some 22=some 29)) (congrArg (Option.map Prod.fst) hv)
     ·exact (by decide:¬(some 23=some 29)) (congrArg (Option.map Prod.fst) hv))).trans rfl) rfl ?_ ⟨by rw [show Int.toNat (w64 (a1+s2))=0+n5 from by rw [p05];simp];rfl,rfl⟩
   rw [Nat.zero_add,lD,BJ q5];rfl
  rw [show (Is s1).set (Int.toNat (w64 (a1+s2))) (.i .i64 x3)=Is (List.set s1 (Int.toNat (w64 (a1+s2))) x3) from Hm _ _ _]
  refine RL.gk [0,1,2,3,10,13,16,17,18,19,20,21,22,23,24,25,26,27,29,30,31,32,33,35] ?_
  obtain ⟨x6,g6,h⟩:=bnd h
  obtain ⟨n6,p06,q6⟩:=Ah g6
  refine ixr (off:=0) (len:=(Is s1).length) n6 p06 (by rw [Af];simpa using (lS.1 q6).1) ?_ Bt (by decide)
  refine Ur (F:=Is) (D:=fun x=>.i .i64 x) Hm (us:=(List.set s1 (Int.toNat (w64 (a1+s2))) x3)) (n:=n6) (m:=Int.toNat (w64 (a2+s2))) (x:=x4) (by rw [p06];rfl) ⟨_,by rw [Nat.zero_add];exact BJ q6,rfl⟩ ?_ Dg
  refine RL.gk [0,1,2,3,10,13,16,17,18,19,20,21,22,23,24,25,26,27,29,30,31,32,33,35] ?_;refine .nil ?_;refine aw ?_;refine .gk [0,1,2,3,10] ?_;refine .region ?_;refine va ?_;refine vb ?_;refine asd ?_;refine .nil ?_;refine AL.gk [0,1,2,3,10] ?_
  exact ih (k,(List.set (List.set s1 (Int.toNat (w64 (a1+s2))) x3) (Int.toNat (w64 (a2+s2))) x4),(w64 (s2+1))) h (Nat.lt_succ_self _)
 refine cnf (dF hc) ?_;refine .exit ?_
 cases h
 exact NL rfl rfl
def Ca (a1:Int) (a3:Ad) (K1:(List Int)→Option ((List Int))) : Nat→(List Int)→Int→Option ((List Int))
 | 0,_,_=>none
 | k+1,s4,s5=>(Option.bind ((if a1<s5 then ((rd? s4 s5).bind fun x7=>((rd? s4 (w64 (s5-1))).bind fun x8=>((a3.g (x7,x8)).bind fun x9=>(some (decide (x9<0)))))) else (some false)):Option (Bool)) fun (z6:Bool)=>(if z6=true then ((rd? s4 (w64 (s5-1))).bind fun x10=>((rd? s4 s5).bind fun x11=>((rd? s4 s5).bind fun x12=>((rd? (List.set s4 (Int.toNat s5) x10) (w64 (s5-1))).bind fun x13=>(Ca a1 a3 K1 k (List.set (List.set s4 (Int.toNat s5) x10) (Int.toNat (w64 (s5-1))) x11) (w64 (s5-1))))))) else (K1 s4)))
def Bw (a1:Int) (a2:Int) (a3:Ad) : Nat→(List Int)→Int→Option ((List Int))
 | 0,_,_=>none
 | k+1,s1,s2=>(if s2<a2 then (jn (fun (z3:(List Int))=>(Bw a1 a2 a3 k z3 (w64 (s2+1)))) fun K1=>(Ca a1 a3 K1 As s1 s2)) else (some s1))
def DD (a0:(List Int)) (a1:Int) (a2:Int) (a3:Ad) : Option ((List Int)):=(Bw a1 a2 a3 As a0 (w64 (a1+1)))
theorem IG {a0:(List Int)} {a1:Int} {a2:Int} {a3:Ad} (oa3:BP a3) {r:(List Int)} (h:DD a0 a1 a2 a3=some r) :
  FnG Tryz.prog 228 [.own 3 (Is a0),.d (.i .i64 a1),.d (.i .i64 a2),.d (a3.dv)] [] (.tup []) [.own 3 (Is r)] []:=by
 unfold DD at h
 refine FnG.of (rs:=[]) 1 53 Tryz.func228 rfl rfl rfl (by simp) (by simp) (by simp) ?_;refine .sr ?_;refine va ?_;refine vb ?_;refine ar [0,1,2,3,8] ?_;refine .block ?_
 refine .loop (.gk [0,1,2,3,8] ?_)
 refine AL.ind (σ:=Nat×(List Int)×Int) (m:=fun p=>p.1) (e:=fun p=>[(0,.own 3 (Is p.2.1)),(1,.d (.i .i64 a1)),(2,.d (.i .i64 a2)),(3,.d (a3.dv)),(8,.d (.i .i64 p.2.2))]) (h:=fun p=>[]) (I:=fun p=>Bw a1 a2 a3 p.1 p.2.1 p.2.2=some r) ?_ (As,a0,(w64 (a1+1))) h
 rintro ⟨k,s1,s2⟩ h ih
 dsimp only at h ih ⊢
 rcases k with _|k
 ·rw [Bw] at h;cases h
 rw [Bw] at h
 refine .seq ?_;refine .sr ?_;refine va ?_;refine va ?_;refine vb ?_;refine rk [0,1,2,3,8,14] ?_
 rcases brc h with ⟨hc,h⟩|⟨hc,h⟩
 ·refine cnt (dT hc) ?_
  refine .sk ?_
  obtain ⟨K1,hK1,h⟩:=AH h
  refine AW.mj (σ:=(List Int)) (fun p=>K1 p=some r) (fun p=>[(0,.own 3 (Is p)),(1,.d (.i .i64 a1)),(2,.d (.i .i64 a2)),(3,.d (a3.dv)),(8,.d (.i .i64 s2))]) (fun p=>[]) ?_ ?_
  ·skip
   refine .block ?_;refine .sr ?_;refine va ?_;refine ar [0,1,2,3,8,9] ?_;refine .block ?_
   refine .loop (.gk [0,1,2,3,8,9] ?_)
   refine AL.ind (σ:=Nat×(List Int)×Int) (m:=fun p=>p.1) (e:=fun p=>[(0,.own 3 (Is p.2.1)),(1,.d (.i .i64 a1)),(2,.d (.i .i64 a2)),(3,.d (a3.dv)),(8,.d (.i .i64 s2)),(9,.d (.i .i64 p.2.2))]) (h:=fun p=>[]) (I:=fun p=>Ca a1 a3 K1 p.1 p.2.1 p.2.2=some r) ?_ (As,s1,s2) h
   rintro ⟨k,s4,s5⟩ h ih
   dsimp only at h ih ⊢
   rcases k with _|k
   ·rw [Ca] at h;cases h
   rw [Ca] at h
   refine .seq ?_;refine .seq ?_
   obtain ⟨z6,hz,h⟩:=bnd h
   refine AW.mr (σ:=Unit) (fun _=>True) (fun _=>[(0,.own 3 (Is s4)),(1,.d (.i .i64 a1)),(2,.d (.i .i64 a2)),(3,.d (a3.dv)),(8,.d (.i .i64 s2)),(9,.d (.i .i64 s5)),(34,.d (.b z6))]) (fun _=>[]) ?_ ?_
   ·skip
    refine .drawn 17 A6 (by kernel_rfl) ?_;refine dv Ae ?_;refine dv Ae ?_;refine dv vbi ?_
    rcases brc hz with ⟨hc,hz⟩|⟨hc,hz⟩
    ·have hb0:(decide (a1<s5))=true:=(dT hc)
     refine dv (VOK.lit (Ae) hb0) ?_;refine dv Ae ?_;refine dv EG ?_;refine dv Ae ?_
     obtain ⟨x7,g7,hz⟩:=bnd hz
     obtain ⟨n7,p07,q7⟩:=Ah g7
     refine dv (Gb (off:=0) (len:=(Is s4).length) n7 p07 (by rw [Af];exact (lS.1 q7).1) Bt (by decide)) ?_;refine dv (HZ (i:=0+n7) (j:=0) (xs:=Is s4) (.i .i64 x7) ⟨_,by rw [Nat.zero_add];exact BJ q7,rfl⟩ AJ) ?_;refine dv EG ?_;refine dv Ae ?_;refine dv vbi ?_
     obtain ⟨x8,g8,hz⟩:=bnd hz
     obtain ⟨n8,p08,q8⟩:=Ah g8
     refine dv (Gb (off:=0) (len:=(Is s4).length) n8 p08 (by rw [Af];exact (lS.1 q8).1) Bt (by decide)) ?_;refine dv (HZ (i:=0+n8) (j:=0) (xs:=Is s4) (.i .i64 x8) ⟨_,by rw [Nat.zero_add];exact BJ q8,rfl⟩ AJ) ?_
     obtain ⟨x9,g9,hz⟩:=bnd hz
     refine dv (Mu (oa3 _ _ g9)) ?_;refine dv vbi ?_;refine dv Ap ?_;refine dz ?_;refine RL.gk [0,1,2,3,8,9,34] ?_;refine .nil ?_
     cases hz
     exact jr () trivial
    have hb0:(decide (a1<s5))=false:=(dF hc)
    refine dv (VOK.lit (Ae) hb0) ?_;refine dgf ?_;refine dgf ?_;refine dgf ?_;refine dgf ?_;refine dgf ?_;refine dgf ?_;refine dgf ?_;refine dgf ?_;refine dgf ?_;refine dgf ?_;refine dgf ?_;refine dgf ?_;refine dv Ap ?_;refine dz ?_;refine RL.gk [0,1,2,3,8,9,34] ?_;refine .nil ?_
    cases hz
    exact jr () trivial
   rintro _ _
   rcases brc h with ⟨hc,h⟩|⟨hc,h⟩
   ·refine cnt hc ?_
    refine .sk ?_;refine .seq ?_;refine .block ?_
    obtain ⟨x10,g10,h⟩:=bnd h
    obtain ⟨x11,g11,h⟩:=bnd h
    obtain ⟨x12,g12,h⟩:=bnd h
    refine .drawnF 15 [2,3,4] [(0,.own 3 ((Is s4).set (Int.toNat s5) (.i .i64 x10)))] [] A6 (by kernel_rfl) rfl ?_;refine dv EG ?_;refine dv Ae ?_;refine dv EG ?_;refine dv Ae ?_;refine dv vbi ?_;refine dv EG ?_;refine dv Ae ?_;refine dv vbi ?_
    obtain ⟨n10,p010,q10⟩:=Ah g10
    refine dv (Gb (off:=0) (len:=(Is s4).length) n10 p010 (by rw [Af];exact (lS.1 q10).1) Bt (by decide)) ?_;refine dv (HZ (i:=0+n10) (j:=0) (xs:=Is s4) (.i .i64 x10) ⟨_,by rw [Nat.zero_add];exact BJ q10,rfl⟩ AJ) ?_;refine dv EG ?_;refine dv Ae ?_
    obtain ⟨n11,p011,q11⟩:=Ah g11
    refine dv (Gb (off:=0) (len:=(Is s4).length) n11 p011 (by rw [Af];exact (lS.1 q11).1) Bt (by decide)) ?_;refine dv (HZ (i:=0+n11) (j:=0) (xs:=Is s4) (.i .i64 x11) ⟨_,by rw [Nat.zero_add];exact BJ q11,rfl⟩ AJ) ?_
    obtain ⟨n12,p012,q12⟩:=Ah g12
    refine dv (Gb (off:=0) (len:=(Is s4).length) n12 p012 (by rw [Af];exact (lS.1 q12).1) Bt (by decide)) ?_;refine dz ?_
    refine ⟨?_,?_,?_⟩
    ·intro k hk
     simp only [List.mem_cons,List.not_mem_nil,or_false] at hk
     rcases hk with rfl|rfl|rfl
     ·exact ⟨_,_,_,rfl,rfl,rfl,rfl,rfl,rfl,(show VOK _ _ _ _ _ (.ref (.t 0) 0 (Is s4).length) from by rw [show (Is s4).length=((Is s4).set (Int.toNat s5) (.i .i64 x10)).length by rw [List.length_set]];exact EG)⟩
     ·exact ⟨_,_,_,rfl,rfl,rfl,rfl,rfl,rfl,Ae⟩
     ·exact ⟨_,_,_,rfl,rfl,rfl,rfl,rfl,rfl,vbi⟩
    ·intro om e hom hge
     cases hom
     refine IZ (x:=.tmp 51) (y:=.tmp 46) (r:=51) (ay:=.t 46) (p:=.t 0) (i:=0+n12) (k:=0) (v:=.i .i64 x10) (x':=.i .i64 x10) rfl rfl rfl rfl Dg ((hge 51 (fun k hk v hv=>by
       simp only [List.mem_cons,List.not_mem_nil,or_false] at hk
       rcases hk with rfl|rfl|rfl
       ·exact (by decide:¬(some 39=some 51)) (congrArg (Option.map Prod.fst) hv)
       ·exact (by decide:¬(some 40=some 51)) (congrArg (Option.map Prod.fst) hv)
       ·exact (by decide:¬(some 41=some 51)) (congrArg (Option.map Prod.fst) hv))).trans rfl) ((hge 0 (fun k hk v hv=>by
       simp only [List.mem_cons,List.not_mem_nil,or_false] at hk
       rcases hk with rfl|rfl|rfl
       ·exact (by decide:¬(some 39=some 0)) (congrArg (Option.map Prod.fst) hv)
       ·exact (by decide:¬(some 40=some 0)) (congrArg (Option.map Prod.fst) hv)
       ·exact (by decide:¬(some 41=some 0)) (congrArg (Option.map Prod.fst) hv))).trans rfl) (fun _ _ h=>by cases h) ((hge 46 (fun k hk v hv=>by
       simp only [List.mem_cons,List.not_mem_nil,or_false] at hk
       rcases hk with rfl|rfl|rfl
       ·exact (by decide:¬(some 39=some 46)) (congrArg (Option.map Prod.fst) hv)
       ·exact (by decide:¬(some 40=some 46)) (congrArg (Option.map Prod.fst) hv)
       ·exact (by decide:¬(some 41=some 46)) (congrArg (Option.map Prod.fst) hv))).trans rfl) rfl ?_ ⟨by rw [show Int.toNat s5=0+n12 from by rw [p012];simp];rfl,rfl⟩
     rw [Nat.zero_add,lD,BJ q12];rfl
    rw [show (Is s4).set (Int.toNat s5) (.i .i64 x10)=Is (List.set s4 (Int.toNat s5) x10) from Hm _ _ _]
    refine RL.gk [0,1,2,3,8,9,34,37,38,39,40,41,42,43,44,46,47,48,50] ?_
    obtain ⟨x13,g13,h⟩:=bnd h
    obtain ⟨n13,p013,q13⟩:=Ah g13
    refine ixr (off:=0) (len:=(Is s4).length) n13 p013 (by rw [Af];simpa using (lS.1 q13).1) ?_ Bt (by decide)
    refine Ur (F:=Is) (D:=fun x=>.i .i64 x) Hm (us:=(List.set s4 (Int.toNat s5) x10)) (n:=n13) (m:=Int.toNat (w64 (s5-1))) (x:=x11) (by rw [p013];rfl) ⟨_,by rw [Nat.zero_add];exact BJ q13,rfl⟩ ?_ Dg
    refine RL.gk [0,1,2,3,8,9,34,37,38,39,40,41,42,43,44,46,47,48,50] ?_;refine .nil ?_;refine aw ?_;refine .gk [0,1,2,3,8,9] ?_;refine .region ?_;refine va ?_;refine vb ?_;refine asd ?_;refine .nil ?_;refine AL.gk [0,1,2,3,8,9] ?_
    exact ih (k,(List.set (List.set s4 (Int.toNat s5) x10) (Int.toNat (w64 (s5-1))) x11),(w64 (s5-1))) h (Nat.lt_succ_self _)
   refine cnf (bf hc) ?_;refine .gk [0,1,2,3,8] ?_;refine .exit ?_
   exact jr (s4) h
  rintro z3 h
  try dsimp only at h ⊢
  subst hK1
  refine .region ?_;refine va ?_;refine vb ?_;refine asd ?_;refine .nil ?_;refine AL.gk [0,1,2,3,8] ?_
  exact ih (k,z3,(w64 (s2+1))) h (Nat.lt_succ_self _)
 refine cnf (dF hc) ?_;refine .exit ?_
 cases h
 exact NL rfl rfl
def Db (a2:Int) (a4:Ad) (K0:(List Int)→Int→Option ((List Int))) : Nat→(List Int)→Int→Int→Option ((List Int))
 | 0,_,_,_=>none
 | k+1,s3,s4,s5=>(if s4=s5 then (K0 s3 s4) else (if s5<s4 then ((Dd s3 (w64 (a2-s4)) a2 s5 a4).bind fun x6=>(Db a2 a4 K0 k x6 (w64 (s4-s5)) s5)) else ((Dd s3 (w64 (a2-s4)) (w64 ((w64 (a2+s5))-s4)) s4 a4).bind fun x7=>(Db a2 a4 K0 k x7 s4 (w64 (s5-s4))))))
def Ek (a0:(List Int)) (a1:Int) (a2:Int) (a3:Int) (a4:Ad) : Option ((List Int)):=(jn (fun (z1:(List Int)) (z2:Int)=>((Dd z1 (w64 (a2-z2)) a2 z2 a4).bind fun x8=>(some x8))) fun K0=>(Db a2 a4 K0 As a0 (w64 (a2-a1)) (w64 (a3-a2))))
theorem PA {a0:(List Int)} {a1:Int} {a2:Int} {a3:Int} {a4:Ad} (oa4:BP a4) {r:(List Int)} (h:Ek a0 a1 a2 a3 a4=some r) :
  FnG Tryz.prog 260 [.own 3 (Is a0),.d (.i .i64 a1),.d (.i .i64 a2),.d (.i .i64 a3),.d (a4.dv)] [] (.tup []) [.own 3 (Is r)] []:=by
 unfold Ek at h
 refine FnG.of (rs:=[]) 1 58 Tryz.func260 rfl rfl rfl (by simp) (by simp) (by simp) ?_;refine .sr ?_;refine va ?_;refine va ?_;refine vb ?_;refine ar [0,2,3,4,10] ?_;refine .sr ?_;refine va ?_;refine va ?_;refine vb ?_;refine ar [0,2,4,10,11] ?_
 obtain ⟨K0,hK0,h⟩:=AH h
 refine AW.mj (σ:=(List Int)×Int) (fun p=>K0 p.1 p.2=some r) (fun p=>[(0,.own 3 (Is p.1)),(2,.d (.i .i64 a2)),(4,.d (a4.dv)),(10,.d (.i .i64 p.2))]) (fun p=>[]) ?_ ?_
 ·skip
  refine .block ?_
  refine .loop (.gk [0,2,4,10,11] ?_)
  refine AL.ind (σ:=Nat×(List Int)×Int×Int) (m:=fun p=>p.1) (e:=fun p=>[(0,.own 3 (Is p.2.1)),(2,.d (.i .i64 a2)),(4,.d (a4.dv)),(10,.d (.i .i64 p.2.2.1)),(11,.d (.i .i64 p.2.2.2))]) (h:=fun p=>[]) (I:=fun p=>Db a2 a4 K0 p.1 p.2.1 p.2.2.1 p.2.2.2=some r) ?_ (As,a0,(w64 (a2-a1)),(w64 (a3-a2))) h
  rintro ⟨k,s3,s4,s5⟩ h ih
  dsimp only at h ih ⊢
  rcases k with _|k
  ·rw [Db] at h;cases h
  rw [Db] at h
  refine .seq ?_;refine .sr ?_;refine va ?_;refine va ?_;refine vb ?_;refine rk [0,2,4,10,11,20] ?_
  rcases brc h with ⟨hc,h⟩|⟨hc,h⟩
  ·refine cnf (ntf (dT hc)) ?_
   refine .gk [0,2,4,10] ?_;refine .exit ?_
   exact jr (s3,s4) h
  refine cnt (ntt (dF hc)) ?_;refine .sk ?_;refine .block ?_;refine .sr ?_;refine va ?_;refine va ?_;refine vb ?_;refine rk [0,2,4,10,11,23] ?_
  rcases brc h with ⟨hc,h⟩|⟨hc,h⟩
  ·refine cnt (dT hc) ?_
   refine .sr ?_;refine mvo ?_;refine va ?_;refine va ?_;refine vb ?_;refine va ?_;refine va ?_;refine va ?_
   obtain ⟨x6,g6,h⟩:=bnd h
   refine Mr (Is x6) ?_ (F5 oa4 g6) Tryz.call276
   refine RL.gk [0,2,4,10,11,23,25,26,27,28,29,30,31] ?_;refine rk [0,2,4,10,11] ?_;refine .region ?_;refine va ?_;refine va ?_;refine vb ?_;refine asd ?_;refine .nil ?_;refine AL.gk [0,2,4,10,11] ?_
   exact ih (k,x6,(w64 (s4-s5)),s5) h (Nat.lt_succ_self _)
  refine cnf (dF hc) ?_;refine .sr ?_;refine mvo ?_;refine va ?_;refine va ?_;refine vb ?_;refine va ?_;refine va ?_;refine vb ?_;refine va ?_;refine vb ?_;refine va ?_;refine va ?_
  obtain ⟨x7,g7,h⟩:=bnd h
  refine Mr (Is x7) ?_ (F5 oa4 g7) Tryz.call276
  refine RL.gk [0,2,4,10,11,23,36,37,38,39,40,41,42,43,44,45,46] ?_;refine rk [0,2,4,10,11] ?_;refine .region ?_;refine va ?_;refine va ?_;refine vb ?_;refine asd ?_;refine .nil ?_;refine AL.gk [0,2,4,10,11] ?_
  exact ih (k,x7,s4,(w64 (s5-s4))) h (Nat.lt_succ_self _)
 rintro ⟨z1,z2⟩ h
 try dsimp only at h ⊢
 subst hK0
 refine .region ?_;refine mvo ?_;refine va ?_;refine va ?_;refine vb ?_;refine va ?_;refine va ?_;refine va ?_
 obtain ⟨x8,g8,h⟩:=bnd h
 refine Mr (Is x8) ?_ (F5 oa4 g8) Tryz.call276
 refine RL.gk [0,2,4,10,51,52,53,54,55,56,57] ?_;refine .nil ?_
 cases h
 exact NL rfl rfl
def Bu (a0:(List Int)) (a1:Int) (a4:Ad) (K1:Int→Option ((List Int))) : Nat→Int→Int→Option ((List Int))
 | 0,_,_=>none
 | k+1,s2,s3=>(if s2<s3 then ((rd? a0 (IntKind.wrap .i64 ((IntKind.wrap .u64 (w64 (s2+s3))) / 2 ^ min (Int.toNat 1) (IntKind.bits .u64)))).bind fun x4=>((rd? a0 a1).bind fun x5=>((a4.g (x4,x5)).bind fun x6=>(if x6<0 then (Bu a0 a1 a4 K1 k (w64 ((IntKind.wrap .i64 ((IntKind.wrap .u64 (w64 (s2+s3))) / 2 ^ min (Int.toNat 1) (IntKind.bits .u64)))+1)) s3) else (Bu a0 a1 a4 K1 k s2 (IntKind.wrap .i64 ((IntKind.wrap .u64 (w64 (s2+s3))) / 2 ^ min (Int.toNat 1) (IntKind.bits .u64)))))))) else (K1 s2))
def Bm (z1:Int) (K3:(List Int)→Option ((List Int))) : Nat→(List Int)→Int→Option ((List Int))
 | 0,_,_=>none
 | k+1,s8,s9=>(if s9<(w64 (z1-1)) then ((rd? s8 (w64 (s9+1))).bind fun x10=>((rd? s8 s9).bind fun x11=>((rd? s8 s9).bind fun x12=>((rd? (List.set s8 (Int.toNat s9) x10) (w64 (s9+1))).bind fun x13=>(Bm z1 K3 k (List.set (List.set s8 (Int.toNat s9) x10) (Int.toNat (w64 (s9+1))) x11) (w64 (s9+1))))))) else (K3 s8))
def Bx (a0:(List Int)) (a2:Int) (a4:Ad) (K6:Int→Option ((List Int))) : Nat→Int→Int→Option ((List Int))
 | 0,_,_=>none
 | k+1,s15,s16=>(if s15<s16 then ((rd? a0 a2).bind fun x17=>((rd? a0 (IntKind.wrap .i64 ((IntKind.wrap .u64 (w64 (s15+s16))) / 2 ^ min (Int.toNat 1) (IntKind.bits .u64)))).bind fun x18=>((a4.g (x17,x18)).bind fun x19=>(if x19<0 then (Bx a0 a2 a4 K6 k s15 (IntKind.wrap .i64 ((IntKind.wrap .u64 (w64 (s15+s16))) / 2 ^ min (Int.toNat 1) (IntKind.bits .u64)))) else (Bx a0 a2 a4 K6 k (w64 ((IntKind.wrap .i64 ((IntKind.wrap .u64 (w64 (s15+s16))) / 2 ^ min (Int.toNat 1) (IntKind.bits .u64)))+1)) s16))))) else (K6 s15))
def Bl (z14:Int) (K8:(List Int)→Option ((List Int))) : Nat→(List Int)→Int→Option ((List Int))
 | 0,_,_=>none
 | k+1,s21,s22=>(if z14<s22 then ((rd? s21 (w64 (s22-1))).bind fun x23=>((rd? s21 s22).bind fun x24=>((rd? s21 s22).bind fun x25=>((rd? (List.set s21 (Int.toNat s22) x23) (w64 (s22-1))).bind fun x26=>(Bl z14 K8 k (List.set (List.set s21 (Int.toNat s22) x23) (Int.toNat (w64 (s22-1))) x24) (w64 (s22-1))))))) else (K8 s21))
def Bd (a0:(List Int)) (a1:Int) (a2:Int) (a3:Int) (a4:Ad) (K11:Int→Option ((List Int))) : Nat→Int→Int→Option ((List Int))
 | 0,_,_=>none
 | k+1,s30,s31=>(if s30<s31 then ((rd? a0 (w64 ((w64 ((w64 ((IntKind.wrap .i64 ((IntKind.wrap .u64 (w64 (a1+a3))) / 2 ^ min (Int.toNat 1) (IntKind.bits .u64)))+a2))-1))-(IntKind.wrap .i64 ((IntKind.wrap .u64 (w64 (s30+s31))) / 2 ^ min (Int.toNat 1) (IntKind.bits .u64)))))).bind fun x32=>((rd? a0 (IntKind.wrap .i64 ((IntKind.wrap .u64 (w64 (s30+s31))) / 2 ^ min (Int.toNat 1) (IntKind.bits .u64)))).bind fun x33=>((a4.g (x32,x33)).bind fun x34=>(if x34<0 then (Bd a0 a1 a2 a3 a4 K11 k s30 (IntKind.wrap .i64 ((IntKind.wrap .u64 (w64 (s30+s31))) / 2 ^ min (Int.toNat 1) (IntKind.bits .u64)))) else (Bd a0 a1 a2 a3 a4 K11 k (w64 ((IntKind.wrap .i64 ((IntKind.wrap .u64 (w64 (s30+s31))) / 2 ^ min (Int.toNat 1) (IntKind.bits .u64)))+1)) s31))))) else (K11 s30))
def E2 (rc_slices_symMergeCmpFunc_int:(List Int)→Int→Int→Int→Ad→Option ((List Int))) (a0:(List Int)) (a1:Int) (a2:Int) (a3:Int) (a4:Ad) : Option ((List Int)):=(jn ((jn ((jn (fun (z27:Int) (z28:Int)=>(jn (fun (z29:Int)=>(jn (fun (z35:(List Int))=>(jn (fun (z37:(List Int))=>(if ((decide ((IntKind.wrap .i64 ((IntKind.wrap .u64 (w64 (a1+a3))) / 2 ^ min (Int.toNat 1) (IntKind.bits .u64)))<(w64 ((w64 ((IntKind.wrap .i64 ((IntKind.wrap .u64 (w64 (a1+a3))) / 2 ^ min (Int.toNat 1) (IntKind.bits .u64)))+a2))-z29))))&&(decide ((w64 ((w64 ((IntKind.wrap .i64 ((IntKind.wrap .u64 (w64 (a1+a3))) / 2 ^ min (Int.toNat 1) (IntKind.bits .u64)))+a2))-z29))<a3)))=true then ((rc_slices_symMergeCmpFunc_int z37 (IntKind.wrap .i64 ((IntKind.wrap .u64 (w64 (a1+a3))) / 2 ^ min (Int.toNat 1) (IntKind.bits .u64))) (w64 ((w64 ((IntKind.wrap .i64 ((IntKind.wrap .u64 (w64 (a1+a3))) / 2 ^ min (Int.toNat 1) (IntKind.bits .u64)))+a2))-z29)) a3 a4).bind fun x39=>(some x39)) else (some z37))) fun K14=>(if ((decide (a1<z29))&&(decide (z29<(IntKind.wrap .i64 ((IntKind.wrap .u64 (w64 (a1+a3))) / 2 ^ min (Int.toNat 1) (IntKind.bits .u64))))))=true then ((rc_slices_symMergeCmpFunc_int z35 a1 z29 (IntKind.wrap .i64 ((IntKind.wrap .u64 (w64 (a1+a3))) / 2 ^ min (Int.toNat 1) (IntKind.bits .u64))) a4).bind fun x38=>(K14 x38)) else (K14 z35)))) fun K13=>(if ((decide (z29<a2))&&(decide (a2<(w64 ((w64 ((IntKind.wrap .i64 ((IntKind.wrap .u64 (w64 (a1+a3))) / 2 ^ min (Int.toNat 1) (IntKind.bits .u64)))+a2))-z29)))))=true then ((Ek a0 z29 a2 (w64 ((w64 ((IntKind.wrap .i64 ((IntKind.wrap .u64 (w64 (a1+a3))) / 2 ^ min (Int.toNat 1) (IntKind.bits .u64)))+a2))-z29)) a4).bind fun x36=>(K13 x36)) else (K13 a0)))) fun K11=>(Bd a0 a1 a2 a3 a4 K11 As z27 z28))) fun K10=>(if (IntKind.wrap .i64 ((IntKind.wrap .u64 (w64 (a1+a3))) / 2 ^ min (Int.toNat 1) (IntKind.bits .u64)))<a2 then (K10 (w64 ((w64 ((IntKind.wrap .i64 ((IntKind.wrap .u64 (w64 (a1+a3))) / 2 ^ min (Int.toNat 1) (IntKind.bits .u64)))+a2))-a3)) (IntKind.wrap .i64 ((IntKind.wrap .u64 (w64 (a1+a3))) / 2 ^ min (Int.toNat 1) (IntKind.bits .u64)))) else (K10 a1 a2)))) fun K5=>(if (w64 (a3-a2))=1 then (jn (fun (z14:Int)=>(jn (fun (z20:(List Int))=>(some z20)) fun K8=>(Bl z14 K8 As a0 a2))) fun K6=>(Bx a0 a2 a4 K6 As a1 a2)) else (K5)))) fun K0=>(if (w64 (a2-a1))=1 then (jn (fun (z1:Int)=>(jn (fun (z7:(List Int))=>(some z7)) fun K3=>(Bm z1 K3 As a0 a1))) fun K1=>(Bu a0 a1 a4 K1 As a2 a3)) else (K0)))
set_option maxHeartbeats 4000000 in
theorem Mv {rc_slices_symMergeCmpFunc_int:(List Int)→Int→Int→Int→Ad→Option ((List Int))} (orc_slices_symMergeCmpFunc_int:∀ x0 x1 x2 x3 x4 r,BP x4→rc_slices_symMergeCmpFunc_int x0 x1 x2 x3 x4=some r→FnG Tryz.prog 229 [.own 3 (Is x0),.d (.i .i64 x1),.d (.i .i64 x2),.d (.i .i64 x3),.d (x4.dv)] [] (.tup []) [.own 3 (Is r)] []) {a0:(List Int)} {a1:Int} {a2:Int} {a3:Int} {a4:Ad} (oa4:BP a4) {r:(List Int)} (h:E2 rc_slices_symMergeCmpFunc_int a0 a1 a2 a3 a4=some r) :
  FnG Tryz.prog 229 [.own 3 (Is a0),.d (.i .i64 a1),.d (.i .i64 a2),.d (.i .i64 a3),.d (a4.dv)] [] (.tup []) [.own 3 (Is r)] []:=by
 unfold E2 at h
 refine FnG.of (rs:=[]) 1 220 Tryz.func229 rfl rfl rfl (by simp) (by simp) (by simp) ?_;refine .seq ?_;refine .sr ?_;refine va ?_;refine va ?_;refine vb ?_;refine vb ?_;refine rk [0,1,2,3,4,28] ?_
 obtain ⟨K0,hK0,h⟩:=AH h
 refine AW.mr (σ:=Unit) (fun p=>K0=some r) (fun p=>[(0,.own 3 (Is a0)),(1,.d (.i .i64 a1)),(2,.d (.i .i64 a2)),(3,.d (.i .i64 a3)),(4,.d (a4.dv))]) (fun p=>[]) ?_ ?_
 ·skip
  rcases brc h with ⟨hc,h⟩|⟨hc,h⟩
  ·refine cnt (dT hc) ?_
   refine .sr ?_;refine va ?_;refine ar [0,1,2,3,4,10] ?_;refine .sr ?_;refine va ?_;refine ar [0,1,2,3,4,10,11] ?_
   obtain ⟨K1,hK1,h⟩:=AH h
   refine AW.mj (σ:=Int) (fun p=>K1 p=some r) (fun p=>[(0,.own 3 (Is a0)),(1,.d (.i .i64 a1)),(2,.d (.i .i64 a2)),(3,.d (.i .i64 a3)),(4,.d (a4.dv)),(10,.d (.i .i64 p))]) (fun p=>[]) ?_ ?_
   ·skip
    refine .block ?_
    refine .loop (.gk [0,1,2,3,4,10,11] ?_)
    refine AL.ind (σ:=Nat×Int×Int) (m:=fun p=>p.1) (e:=fun p=>[(0,.own 3 (Is a0)),(1,.d (.i .i64 a1)),(2,.d (.i .i64 a2)),(3,.d (.i .i64 a3)),(4,.d (a4.dv)),(10,.d (.i .i64 p.2.1)),(11,.d (.i .i64 p.2.2))]) (h:=fun p=>[]) (I:=fun p=>Bu a0 a1 a4 K1 p.1 p.2.1 p.2.2=some r) ?_ (As,a2,a3) h
    rintro ⟨k,s2,s3⟩ h ih
    dsimp only at h ih ⊢
    rcases k with _|k
    ·rw [Bu] at h;cases h
    rw [Bu] at h
    refine .seq ?_;refine .sr ?_;refine va ?_;refine va ?_;refine vb ?_;refine rk [0,1,2,3,4,10,11,33] ?_
    rcases brc h with ⟨hc,h⟩|⟨hc,h⟩
    ·refine cnt (dT hc) ?_
     refine .sk ?_;refine .block ?_;refine .sr ?_;refine va ?_;refine va ?_;refine vb ?_;refine vk (vcv Jd GZ) ?_;refine vk (PH (c:=(0:Int)≤1) (by decide)) ?_;refine vk (vcv GZ Jd) ?_;refine ar [0,1,2,3,4,10,11,12] ?_;refine .seq ?_;refine .drawn 11 A6 (by kernel_rfl) ?_;refine dv Ae ?_;refine dv EG ?_;refine dv Ae ?_
     obtain ⟨x4,g4,h⟩:=bnd h
     obtain ⟨n4,p04,q4⟩:=Ah g4
     refine dv (Gb (off:=0) (len:=(Is a0).length) n4 p04 (by rw [Af];exact (lS.1 q4).1) Bt (by decide)) ?_;refine dv (HZ (i:=0+n4) (j:=0) (xs:=Is a0) (.i .i64 x4) ⟨_,by rw [Nat.zero_add];exact BJ q4,rfl⟩ AJ) ?_;refine dv EG ?_;refine dv Ae ?_
     obtain ⟨x5,g5,h⟩:=bnd h
     obtain ⟨n5,p05,q5⟩:=Ah g5
     refine dv (Gb (off:=0) (len:=(Is a0).length) n5 p05 (by rw [Af];exact (lS.1 q5).1) Bt (by decide)) ?_;refine dv (HZ (i:=0+n5) (j:=0) (xs:=Is a0) (.i .i64 x5) ⟨_,by rw [Nat.zero_add];exact BJ q5,rfl⟩ AJ) ?_
     obtain ⟨x6,g6,h⟩:=bnd h
     refine dv (Mu (oa4 _ _ g6)) ?_;refine dv vbi ?_;refine dz ?_;refine rk [0,1,2,3,4,10,11,12,50] ?_
     rcases brc h with ⟨hc,h⟩|⟨hc,h⟩
     ·refine cnt (dT hc) ?_
      refine .region ?_;refine va ?_;refine vb ?_;refine asd ?_;refine .nil ?_;refine AL.gk [0,1,2,3,4,10,11] ?_
      exact ih (k,(w64 ((IntKind.wrap .i64 ((IntKind.wrap .u64 (w64 (s2+s3))) / 2 ^ min (Int.toNat 1) (IntKind.bits .u64)))+1)),s3) h (Nat.lt_succ_self _)
     refine cnf (dF hc) ?_;refine .region ?_;refine va ?_;refine asd ?_;refine .nil ?_;refine AL.gk [0,1,2,3,4,10,11] ?_
     exact ih (k,s2,(IntKind.wrap .i64 ((IntKind.wrap .u64 (w64 (s2+s3))) / 2 ^ min (Int.toNat 1) (IntKind.bits .u64)))) h (Nat.lt_succ_self _)
    refine cnf (dF hc) ?_;refine .gk [0,1,2,3,4,10] ?_;refine .exit ?_
    exact jr (s2) h
   rintro z1 h
   try dsimp only at h ⊢
   subst hK1
   refine .seq ?_;refine .sr ?_;refine va ?_;refine ar [0,1,2,3,4,10,13] ?_
   obtain ⟨K3,hK3,h⟩:=AH h
   refine AW.mr (σ:=(List Int)) (fun p=>K3 p=some r) (fun p=>[(0,.own 3 (Is p)),(1,.d (.i .i64 a1)),(2,.d (.i .i64 a2)),(3,.d (.i .i64 a3)),(4,.d (a4.dv))]) (fun p=>[]) ?_ ?_
   ·skip
    refine .block ?_
    refine .loop (.gk [0,1,2,3,4,10,13] ?_)
    refine AL.ind (σ:=Nat×(List Int)×Int) (m:=fun p=>p.1) (e:=fun p=>[(0,.own 3 (Is p.2.1)),(1,.d (.i .i64 a1)),(2,.d (.i .i64 a2)),(3,.d (.i .i64 a3)),(4,.d (a4.dv)),(10,.d (.i .i64 z1)),(13,.d (.i .i64 p.2.2))]) (h:=fun p=>[]) (I:=fun p=>Bm z1 K3 p.1 p.2.1 p.2.2=some r) ?_ (As,a0,a1) h
    rintro ⟨k,s8,s9⟩ h ih
    dsimp only at h ih ⊢
    rcases k with _|k
    ·rw [Bm] at h;cases h
    rw [Bm] at h
    refine .seq ?_;refine .sr ?_;refine va ?_;refine va ?_;refine vb ?_;refine vb ?_;refine rk [0,1,2,3,4,10,13,58] ?_
    rcases brc h with ⟨hc,h⟩|⟨hc,h⟩
    ·refine cnt (dT hc) ?_
     refine .sk ?_;refine .seq ?_;refine .block ?_
     obtain ⟨x10,g10,h⟩:=bnd h
     obtain ⟨x11,g11,h⟩:=bnd h
     obtain ⟨x12,g12,h⟩:=bnd h
     refine .drawnF 15 [2,3,4] [(0,.own 3 ((Is s8).set (Int.toNat s9) (.i .i64 x10)))] [] A6 (by kernel_rfl) rfl ?_;refine dv EG ?_;refine dv Ae ?_;refine dv EG ?_;refine dv Ae ?_;refine dv vbi ?_;refine dv EG ?_;refine dv Ae ?_;refine dv vbi ?_
     obtain ⟨n10,p010,q10⟩:=Ah g10
     refine dv (Gb (off:=0) (len:=(Is s8).length) n10 p010 (by rw [Af];exact (lS.1 q10).1) Bt (by decide)) ?_;refine dv (HZ (i:=0+n10) (j:=0) (xs:=Is s8) (.i .i64 x10) ⟨_,by rw [Nat.zero_add];exact BJ q10,rfl⟩ AJ) ?_;refine dv EG ?_;refine dv Ae ?_
     obtain ⟨n11,p011,q11⟩:=Ah g11
     refine dv (Gb (off:=0) (len:=(Is s8).length) n11 p011 (by rw [Af];exact (lS.1 q11).1) Bt (by decide)) ?_;refine dv (HZ (i:=0+n11) (j:=0) (xs:=Is s8) (.i .i64 x11) ⟨_,by rw [Nat.zero_add];exact BJ q11,rfl⟩ AJ) ?_
     obtain ⟨n12,p012,q12⟩:=Ah g12
     refine dv (Gb (off:=0) (len:=(Is s8).length) n12 p012 (by rw [Af];exact (lS.1 q12).1) Bt (by decide)) ?_;refine dz ?_
     refine ⟨?_,?_,?_⟩
     ·intro k hk
      simp only [List.mem_cons,List.not_mem_nil,or_false] at hk
      rcases hk with rfl|rfl|rfl
      ·exact ⟨_,_,_,rfl,rfl,rfl,rfl,rfl,rfl,(show VOK _ _ _ _ _ (.ref (.t 0) 0 (Is s8).length) from by rw [show (Is s8).length=((Is s8).set (Int.toNat s9) (.i .i64 x10)).length by rw [List.length_set]];exact EG)⟩
      ·exact ⟨_,_,_,rfl,rfl,rfl,rfl,rfl,rfl,Ae⟩
      ·exact ⟨_,_,_,rfl,rfl,rfl,rfl,rfl,rfl,vbi⟩
     ·intro om e hom hge
      cases hom
      refine IZ (x:=.tmp 75) (y:=.tmp 70) (r:=75) (ay:=.t 70) (p:=.t 0) (i:=0+n12) (k:=0) (v:=.i .i64 x10) (x':=.i .i64 x10) rfl rfl rfl rfl Dg ((hge 75 (fun k hk v hv=>by
        simp only [List.mem_cons,List.not_mem_nil,or_false] at hk
        rcases hk with rfl|rfl|rfl
        ·exact (by decide:¬(some 63=some 75)) (congrArg (Option.map Prod.fst) hv)
        ·exact (by decide:¬(some 64=some 75)) (congrArg (Option.map Prod.fst) hv)
        ·exact (by decide:¬(some 65=some 75)) (congrArg (Option.map Prod.fst) hv))).trans rfl) ((hge 0 (fun k hk v hv=>by
        simp only [List.mem_cons,List.not_mem_nil,or_false] at hk
        rcases hk with rfl|rfl|rfl
        ·exact (by decide:¬(some 63=some 0)) (congrArg (Option.map Prod.fst) hv)
        ·exact (by decide:¬(some 64=some 0)) (congrArg (Option.map Prod.fst) hv)
        ·exact (by decide:¬(some 65=some 0)) (congrArg (Option.map Prod.fst) hv))).trans rfl) (fun _ _ h=>by cases h) ((hge 70 (fun k hk v hv=>by
        simp only [List.mem_cons,List.not_mem_nil,or_false] at hk
        rcases hk with rfl|rfl|rfl
        ·exact (by decide:¬(some 63=some 70)) (congrArg (Option.map Prod.fst) hv)
        ·exact (by decide:¬(some 64=some 70)) (congrArg (Option.map Prod.fst) hv)
        ·exact (by decide:¬(some 65=some 70)) (congrArg (Option.map Prod.fst) hv))).trans rfl) rfl ?_ ⟨by rw [show Int.toNat s9=0+n12 from by rw [p012];simp];rfl,rfl⟩
      rw [Nat.zero_add,lD,BJ q12];rfl
     rw [show (Is s8).set (Int.toNat s9) (.i .i64 x10)=Is (List.set s8 (Int.toNat s9) x10) from Hm _ _ _]
     refine RL.gk [0,1,2,3,4,10,13,58,61,62,63,64,65,66,67,68,70,71,72,74] ?_
     obtain ⟨x13,g13,h⟩:=bnd h
     obtain ⟨n13,p013,q13⟩:=Ah g13
     refine ixr (off:=0) (len:=(Is s8).length) n13 p013 (by rw [Af];simpa using (lS.1 q13).1) ?_ Bt (by decide)
     refine Ur (F:=Is) (D:=fun x=>.i .i64 x) Hm (us:=(List.set s8 (Int.toNat s9) x10)) (n:=n13) (m:=Int.toNat (w64 (s9+1))) (x:=x11) (by rw [p013];rfl) ⟨_,by rw [Nat.zero_add];exact BJ q13,rfl⟩ ?_ Dg
     refine RL.gk [0,1,2,3,4,10,13,58,61,62,63,64,65,66,67,68,70,71,72,74] ?_;refine .nil ?_;refine aw ?_;refine .gk [0,1,2,3,4,10,13] ?_;refine .region ?_;refine va ?_;refine vb ?_;refine asd ?_;refine .nil ?_;refine AL.gk [0,1,2,3,4,10,13] ?_
     exact ih (k,(List.set (List.set s8 (Int.toNat s9) x10) (Int.toNat (w64 (s9+1))) x11),(w64 (s9+1))) h (Nat.lt_succ_self _)
    refine cnf (dF hc) ?_;refine .gk [0,1,2,3,4] ?_;refine .exit ?_
    exact jr (s8) h
   rintro z7 h
   try dsimp only at h ⊢
   subst hK3
   refine aw ?_;refine .ret ?_
   cases h
   exact YN rfl rfl
  refine cnf (dF hc) ?_;refine .gk [0,1,2,3,4] ?_;refine .skip ?_
  exact jr () h
 rintro _ h
 subst hK0
 refine aw ?_;refine .seq ?_;refine .sr ?_;refine va ?_;refine va ?_;refine vb ?_;refine vb ?_;refine rk [0,1,2,3,4,80] ?_
 obtain ⟨K5,hK5,h⟩:=AH h
 refine AW.mr (σ:=Unit) (fun p=>K5=some r) (fun p=>[(0,.own 3 (Is a0)),(1,.d (.i .i64 a1)),(2,.d (.i .i64 a2)),(3,.d (.i .i64 a3)),(4,.d (a4.dv))]) (fun p=>[]) ?_ ?_
 ·skip
  rcases brc h with ⟨hc,h⟩|⟨hc,h⟩
  ·refine cnt (dT hc) ?_
   refine .sr ?_;refine va ?_;refine ar [0,1,2,3,4,14] ?_;refine .sr ?_;refine va ?_;refine ar [0,1,2,3,4,14,15] ?_
   obtain ⟨K6,hK6,h⟩:=AH h
   refine AW.mj (σ:=Int) (fun p=>K6 p=some r) (fun p=>[(0,.own 3 (Is a0)),(1,.d (.i .i64 a1)),(2,.d (.i .i64 a2)),(3,.d (.i .i64 a3)),(4,.d (a4.dv)),(14,.d (.i .i64 p))]) (fun p=>[]) ?_ ?_
   ·skip
    refine .block ?_
    refine .loop (.gk [0,1,2,3,4,14,15] ?_)
    refine AL.ind (σ:=Nat×Int×Int) (m:=fun p=>p.1) (e:=fun p=>[(0,.own 3 (Is a0)),(1,.d (.i .i64 a1)),(2,.d (.i .i64 a2)),(3,.d (.i .i64 a3)),(4,.d (a4.dv)),(14,.d (.i .i64 p.2.1)),(15,.d (.i .i64 p.2.2))]) (h:=fun p=>[]) (I:=fun p=>Bx a0 a2 a4 K6 p.1 p.2.1 p.2.2=some r) ?_ (As,a1,a2) h
    rintro ⟨k,s15,s16⟩ h ih
    dsimp only at h ih ⊢
    rcases k with _|k
    ·rw [Bx] at h;cases h
    rw [Bx] at h
    refine .seq ?_;refine .sr ?_;refine va ?_;refine va ?_;refine vb ?_;refine rk [0,1,2,3,4,14,15,85] ?_
    rcases brc h with ⟨hc,h⟩|⟨hc,h⟩
    ·refine cnt (dT hc) ?_
     refine .sk ?_;refine .block ?_;refine .sr ?_;refine va ?_;refine va ?_;refine vb ?_;refine vk (vcv Jd GZ) ?_;refine vk (PH (c:=(0:Int)≤1) (by decide)) ?_;refine vk (vcv GZ Jd) ?_;refine ar [0,1,2,3,4,14,15,16] ?_;refine .seq ?_;refine .drawn 12 A6 (by kernel_rfl) ?_;refine dv Ae ?_;refine dv EG ?_;refine dv Ae ?_
     obtain ⟨x17,g17,h⟩:=bnd h
     obtain ⟨n17,p017,q17⟩:=Ah g17
     refine dv (Gb (off:=0) (len:=(Is a0).length) n17 p017 (by rw [Af];exact (lS.1 q17).1) Bt (by decide)) ?_;refine dv (HZ (i:=0+n17) (j:=0) (xs:=Is a0) (.i .i64 x17) ⟨_,by rw [Nat.zero_add];exact BJ q17,rfl⟩ AJ) ?_;refine dv EG ?_;refine dv Ae ?_
     obtain ⟨x18,g18,h⟩:=bnd h
     obtain ⟨n18,p018,q18⟩:=Ah g18
     refine dv (Gb (off:=0) (len:=(Is a0).length) n18 p018 (by rw [Af];exact (lS.1 q18).1) Bt (by decide)) ?_;refine dv (HZ (i:=0+n18) (j:=0) (xs:=Is a0) (.i .i64 x18) ⟨_,by rw [Nat.zero_add];exact BJ q18,rfl⟩ AJ) ?_
     obtain ⟨x19,g19,h⟩:=bnd h
     refine dv (Mu (oa4 _ _ g19)) ?_;refine dv vbi ?_;refine dv vnt ?_;refine dz ?_;refine rk [0,1,2,3,4,14,15,16,103] ?_
     rcases brc h with ⟨hc,h⟩|⟨hc,h⟩
     ·refine cnf (ntf (dT hc)) ?_
      refine .region ?_;refine va ?_;refine asd ?_;refine .nil ?_;refine AL.gk [0,1,2,3,4,14,15] ?_
      exact ih (k,s15,(IntKind.wrap .i64 ((IntKind.wrap .u64 (w64 (s15+s16))) / 2 ^ min (Int.toNat 1) (IntKind.bits .u64)))) h (Nat.lt_succ_self _)
     refine cnt (ntt (dF hc)) ?_;refine .region ?_;refine va ?_;refine vb ?_;refine asd ?_;refine .nil ?_;refine AL.gk [0,1,2,3,4,14,15] ?_
     exact ih (k,(w64 ((IntKind.wrap .i64 ((IntKind.wrap .u64 (w64 (s15+s16))) / 2 ^ min (Int.toNat 1) (IntKind.bits .u64)))+1)),s16) h (Nat.lt_succ_self _)
    refine cnf (dF hc) ?_;refine .gk [0,1,2,3,4,14] ?_;refine .exit ?_
    exact jr (s15) h
   rintro z14 h
   try dsimp only at h ⊢
   subst hK6
   refine .seq ?_;refine .sr ?_;refine va ?_;refine ar [0,1,2,3,4,14,17] ?_
   obtain ⟨K8,hK8,h⟩:=AH h
   refine AW.mr (σ:=(List Int)) (fun p=>K8 p=some r) (fun p=>[(0,.own 3 (Is p)),(1,.d (.i .i64 a1)),(2,.d (.i .i64 a2)),(3,.d (.i .i64 a3)),(4,.d (a4.dv))]) (fun p=>[]) ?_ ?_
   ·skip
    refine .block ?_
    refine .loop (.gk [0,1,2,3,4,14,17] ?_)
    refine AL.ind (σ:=Nat×(List Int)×Int) (m:=fun p=>p.1) (e:=fun p=>[(0,.own 3 (Is p.2.1)),(1,.d (.i .i64 a1)),(2,.d (.i .i64 a2)),(3,.d (.i .i64 a3)),(4,.d (a4.dv)),(14,.d (.i .i64 z14)),(17,.d (.i .i64 p.2.2))]) (h:=fun p=>[]) (I:=fun p=>Bl z14 K8 p.1 p.2.1 p.2.2=some r) ?_ (As,a0,a2) h
    rintro ⟨k,s21,s22⟩ h ih
    dsimp only at h ih ⊢
    rcases k with _|k
    ·rw [Bl] at h;cases h
    rw [Bl] at h
    refine .seq ?_;refine .sr ?_;refine va ?_;refine va ?_;refine vb ?_;refine rk [0,1,2,3,4,14,17,110] ?_
    rcases brc h with ⟨hc,h⟩|⟨hc,h⟩
    ·refine cnt (dT hc) ?_
     refine .sk ?_;refine .seq ?_;refine .block ?_
     obtain ⟨x23,g23,h⟩:=bnd h
     obtain ⟨x24,g24,h⟩:=bnd h
     obtain ⟨x25,g25,h⟩:=bnd h
     refine .drawnF 15 [2,3,4] [(0,.own 3 ((Is s21).set (Int.toNat s22) (.i .i64 x23)))] [] A6 (by kernel_rfl) rfl ?_;refine dv EG ?_;refine dv Ae ?_;refine dv EG ?_;refine dv Ae ?_;refine dv vbi ?_;refine dv EG ?_;refine dv Ae ?_;refine dv vbi ?_
     obtain ⟨n23,p023,q23⟩:=Ah g23
     refine dv (Gb (off:=0) (len:=(Is s21).length) n23 p023 (by rw [Af];exact (lS.1 q23).1) Bt (by decide)) ?_;refine dv (HZ (i:=0+n23) (j:=0) (xs:=Is s21) (.i .i64 x23) ⟨_,by rw [Nat.zero_add];exact BJ q23,rfl⟩ AJ) ?_;refine dv EG ?_;refine dv Ae ?_
     obtain ⟨n24,p024,q24⟩:=Ah g24
     refine dv (Gb (off:=0) (len:=(Is s21).length) n24 p024 (by rw [Af];exact (lS.1 q24).1) Bt (by decide)) ?_;refine dv (HZ (i:=0+n24) (j:=0) (xs:=Is s21) (.i .i64 x24) ⟨_,by rw [Nat.zero_add];exact BJ q24,rfl⟩ AJ) ?_
     obtain ⟨n25,p025,q25⟩:=Ah g25
     refine dv (Gb (off:=0) (len:=(Is s21).length) n25 p025 (by rw [Af];exact (lS.1 q25).1) Bt (by decide)) ?_;refine dz ?_
     refine ⟨?_,?_,?_⟩
     ·intro k hk
      simp only [List.mem_cons,List.not_mem_nil,or_false] at hk
      rcases hk with rfl|rfl|rfl
      ·exact ⟨_,_,_,rfl,rfl,rfl,rfl,rfl,rfl,(show VOK _ _ _ _ _ (.ref (.t 0) 0 (Is s21).length) from by rw [show (Is s21).length=((Is s21).set (Int.toNat s22) (.i .i64 x23)).length by rw [List.length_set]];exact EG)⟩
      ·exact ⟨_,_,_,rfl,rfl,rfl,rfl,rfl,rfl,Ae⟩
      ·exact ⟨_,_,_,rfl,rfl,rfl,rfl,rfl,rfl,vbi⟩
     ·intro om e hom hge
      cases hom
      refine IZ (x:=.tmp 127) (y:=.tmp 122) (r:=127) (ay:=.t 122) (p:=.t 0) (i:=0+n25) (k:=0) (v:=.i .i64 x23) (x':=.i .i64 x23) rfl rfl rfl rfl Dg ((hge 127 (fun k hk v hv=>by
        simp only [List.mem_cons,List.not_mem_nil,or_false] at hk
        rcases hk with rfl|rfl|rfl
        ·exact (by decide:¬(some 115=some 127)) (congrArg (Option.map Prod.fst) hv)
        ·exact (by decide:¬(some 116=some 127)) (congrArg (Option.map Prod.fst) hv)
        ·exact (by decide:¬(some 117=some 127)) (congrArg (Option.map Prod.fst) hv))).trans rfl) ((hge 0 (fun k hk v hv=>by
        simp only [List.mem_cons,List.not_mem_nil,or_false] at hk
        rcases hk with rfl|rfl|rfl
        ·exact (by decide:¬(some 115=some 0)) (congrArg (Option.map Prod.fst) hv)
        ·exact (by decide:¬(some 116=some 0)) (congrArg (Option.map Prod.fst) hv)
        ·exact (by decide:¬(some 117=some 0)) (congrArg (Option.map Prod.fst) hv))).trans rfl) (fun _ _ h=>by cases h) ((hge 122 (fun k hk v hv=>by
        simp only [List.mem_cons,List.not_mem_nil,or_false] at hk
        rcases hk with rfl|rfl|rfl
        ·exact (by decide:¬(some 115=some 122)) (congrArg (Option.map Prod.fst) hv)
        ·exact (by decide:¬(some 116=some 122)) (congrArg (Option.map Prod.fst) hv)
        ·exact (by decide:¬(some 117=some 122)) (congrArg (Option.map Prod.fst) hv))).trans rfl) rfl ?_ ⟨by rw [show Int.toNat s22=0+n25 from by rw [p025];simp];rfl,rfl⟩
      rw [Nat.zero_add,lD,BJ q25];rfl
     rw [show (Is s21).set (Int.toNat s22) (.i .i64 x23)=Is (List.set s21 (Int.toNat s22) x23) from Hm _ _ _]
     refine RL.gk [0,1,2,3,4,14,17,110,113,114,115,116,117,118,119,120,122,123,124,126] ?_
     obtain ⟨x26,g26,h⟩:=bnd h
     obtain ⟨n26,p026,q26⟩:=Ah g26
     refine ixr (off:=0) (len:=(Is s21).length) n26 p026 (by rw [Af];simpa using (lS.1 q26).1) ?_ Bt (by decide)
     refine Ur (F:=Is) (D:=fun x=>.i .i64 x) Hm (us:=(List.set s21 (Int.toNat s22) x23)) (n:=n26) (m:=Int.toNat (w64 (s22-1))) (x:=x24) (by rw [p026];rfl) ⟨_,by rw [Nat.zero_add];exact BJ q26,rfl⟩ ?_ Dg
     refine RL.gk [0,1,2,3,4,14,17,110,113,114,115,116,117,118,119,120,122,123,124,126] ?_;refine .nil ?_;refine aw ?_;refine .gk [0,1,2,3,4,14,17] ?_;refine .region ?_;refine va ?_;refine vb ?_;refine asd ?_;refine .nil ?_;refine AL.gk [0,1,2,3,4,14,17] ?_
     exact ih (k,(List.set (List.set s21 (Int.toNat s22) x23) (Int.toNat (w64 (s22-1))) x24),(w64 (s22-1))) h (Nat.lt_succ_self _)
    refine cnf (dF hc) ?_;refine .gk [0,1,2,3,4] ?_;refine .exit ?_
    exact jr (s21) h
   rintro z20 h
   try dsimp only at h ⊢
   subst hK8
   refine aw ?_;refine .ret ?_
   cases h
   exact YN rfl rfl
  refine cnf (dF hc) ?_;refine .gk [0,1,2,3,4] ?_;refine .skip ?_
  exact jr () h
 rintro _ h
 subst hK5
 refine aw ?_;refine .sr ?_;refine va ?_;refine va ?_;refine vb ?_;refine vk (vcv Jd GZ) ?_;refine vk (PH (c:=(0:Int)≤1) (by decide)) ?_;refine vk (vcv GZ Jd) ?_;refine ar [0,1,2,3,4,18] ?_;refine .sr ?_;refine va ?_;refine va ?_;refine vb ?_;refine ar [0,1,2,3,4,18,19] ?_;refine .sr ?_;refine asd ?_;refine ar [0,1,2,3,4,18,19] ?_;refine .seq ?_;refine .sr ?_;refine va ?_;refine va ?_;refine vb ?_;refine rk [0,1,2,3,4,18,19,140] ?_
 obtain ⟨K10,hK10,h⟩:=AH h
 refine AW.mr (σ:=Int×Int) (fun p=>K10 p.1 p.2=some r) (fun p=>[(0,.own 3 (Is a0)),(1,.d (.i .i64 a1)),(2,.d (.i .i64 a2)),(3,.d (.i .i64 a3)),(4,.d (a4.dv)),(18,.d (.i .i64 (IntKind.wrap .i64 ((IntKind.wrap .u64 (w64 (a1+a3))) / 2 ^ min (Int.toNat 1) (IntKind.bits .u64))))),(19,.d (.i .i64 (w64 ((IntKind.wrap .i64 ((IntKind.wrap .u64 (w64 (a1+a3))) / 2 ^ min (Int.toNat 1) (IntKind.bits .u64)))+a2)))),(20,.d (.i .i64 p.1)),(21,.d (.i .i64 p.2))]) (fun p=>[]) ?_ ?_
 ·skip
  rcases brc h with ⟨hc,h⟩|⟨hc,h⟩
  ·refine cnt (dT hc) ?_
   refine .sr ?_;refine va ?_;refine va ?_;refine vb ?_;refine ar [0,1,2,3,4,18,19,20] ?_;refine .region ?_;refine va ?_;refine asd ?_;refine RL.gk [0,1,2,3,4,18,19,20,21] ?_;refine .nil ?_
   exact jr ((w64 ((w64 ((IntKind.wrap .i64 ((IntKind.wrap .u64 (w64 (a1+a3))) / 2 ^ min (Int.toNat 1) (IntKind.bits .u64)))+a2))-a3)),(IntKind.wrap .i64 ((IntKind.wrap .u64 (w64 (a1+a3))) / 2 ^ min (Int.toNat 1) (IntKind.bits .u64)))) h
  refine cnf (dF hc) ?_;refine .sr ?_;refine va ?_;refine ar [0,1,2,3,4,18,19,20] ?_;refine .region ?_;refine va ?_;refine asd ?_;refine RL.gk [0,1,2,3,4,18,19,20,21] ?_;refine .nil ?_
  exact jr (a1,a2) h
 rintro ⟨z27,z28⟩ h
 try dsimp only at h ⊢
 subst hK10
 refine aw ?_;refine .sr ?_;refine va ?_;refine vb ?_;refine ar [0,1,2,3,4,18,19,20,21,22] ?_
 obtain ⟨K11,hK11,h⟩:=AH h
 refine AW.mj (σ:=Int) (fun p=>K11 p=some r) (fun p=>[(0,.own 3 (Is a0)),(1,.d (.i .i64 a1)),(2,.d (.i .i64 a2)),(3,.d (.i .i64 a3)),(4,.d (a4.dv)),(18,.d (.i .i64 (IntKind.wrap .i64 ((IntKind.wrap .u64 (w64 (a1+a3))) / 2 ^ min (Int.toNat 1) (IntKind.bits .u64))))),(19,.d (.i .i64 (w64 ((IntKind.wrap .i64 ((IntKind.wrap .u64 (w64 (a1+a3))) / 2 ^ min (Int.toNat 1) (IntKind.bits .u64)))+a2)))),(20,.d (.i .i64 p))]) (fun p=>[]) ?_ ?_
 ·skip
  refine .block ?_
  refine .loop (.gk [0,1,2,3,4,18,19,20,21,22] ?_)
  refine AL.ind (σ:=Nat×Int×Int) (m:=fun p=>p.1) (e:=fun p=>[(0,.own 3 (Is a0)),(1,.d (.i .i64 a1)),(2,.d (.i .i64 a2)),(3,.d (.i .i64 a3)),(4,.d (a4.dv)),(18,.d (.i .i64 (IntKind.wrap .i64 ((IntKind.wrap .u64 (w64 (a1+a3))) / 2 ^ min (Int.toNat 1) (IntKind.bits .u64))))),(19,.d (.i .i64 (w64 ((IntKind.wrap .i64 ((IntKind.wrap .u64 (w64 (a1+a3))) / 2 ^ min (Int.toNat 1) (IntKind.bits .u64)))+a2)))),(20,.d (.i .i64 p.2.1)),(21,.d (.i .i64 p.2.2)),(22,.d (.i .i64 (w64 ((w64 ((IntKind.wrap .i64 ((IntKind.wrap .u64 (w64 (a1+a3))) / 2 ^ min (Int.toNat 1) (IntKind.bits .u64)))+a2))-1))))]) (h:=fun p=>[]) (I:=fun p=>Bd a0 a1 a2 a3 a4 K11 p.1 p.2.1 p.2.2=some r) ?_ (As,z27,z28) h
  rintro ⟨k,s30,s31⟩ h ih
  dsimp only at h ih ⊢
  rcases k with _|k
  ·rw [Bd] at h;cases h
  rw [Bd] at h
  refine .seq ?_;refine .sr ?_;refine va ?_;refine va ?_;refine vb ?_;refine rk [0,1,2,3,4,18,19,20,21,22,151] ?_
  rcases brc h with ⟨hc,h⟩|⟨hc,h⟩
  ·refine cnt (dT hc) ?_
   refine .sk ?_;refine .block ?_;refine .sr ?_;refine va ?_;refine va ?_;refine vb ?_;refine vk (vcv Jd GZ) ?_;refine vk (PH (c:=(0:Int)≤1) (by decide)) ?_;refine vk (vcv GZ Jd) ?_;refine ar [0,1,2,3,4,18,19,20,21,22,23] ?_;refine .seq ?_;refine .drawn 14 A6 (by kernel_rfl) ?_;refine dv Ae ?_;refine dv EG ?_;refine dv Ae ?_;refine dv Ae ?_;refine dv vbi ?_
   obtain ⟨x32,g32,h⟩:=bnd h
   obtain ⟨n32,p032,q32⟩:=Ah g32
   refine dv (Gb (off:=0) (len:=(Is a0).length) n32 p032 (by rw [Af];exact (lS.1 q32).1) Bt (by decide)) ?_;refine dv (HZ (i:=0+n32) (j:=0) (xs:=Is a0) (.i .i64 x32) ⟨_,by rw [Nat.zero_add];exact BJ q32,rfl⟩ AJ) ?_;refine dv EG ?_;refine dv Ae ?_
   obtain ⟨x33,g33,h⟩:=bnd h
   obtain ⟨n33,p033,q33⟩:=Ah g33
   refine dv (Gb (off:=0) (len:=(Is a0).length) n33 p033 (by rw [Af];exact (lS.1 q33).1) Bt (by decide)) ?_;refine dv (HZ (i:=0+n33) (j:=0) (xs:=Is a0) (.i .i64 x33) ⟨_,by rw [Nat.zero_add];exact BJ q33,rfl⟩ AJ) ?_
   obtain ⟨x34,g34,h⟩:=bnd h
   refine dv (Mu (oa4 _ _ g34)) ?_;refine dv vbi ?_;refine dv vnt ?_;refine dz ?_;refine rk [0,1,2,3,4,18,19,20,21,22,23,171] ?_
   rcases brc h with ⟨hc,h⟩|⟨hc,h⟩
   ·refine cnf (ntf (dT hc)) ?_
    refine .region ?_;refine va ?_;refine asd ?_;refine .nil ?_;refine AL.gk [0,1,2,3,4,18,19,20,21,22] ?_
    exact ih (k,s30,(IntKind.wrap .i64 ((IntKind.wrap .u64 (w64 (s30+s31))) / 2 ^ min (Int.toNat 1) (IntKind.bits .u64)))) h (Nat.lt_succ_self _)
   refine cnt (ntt (dF hc)) ?_;refine .region ?_;refine va ?_;refine vb ?_;refine asd ?_;refine .nil ?_;refine AL.gk [0,1,2,3,4,18,19,20,21,22] ?_
   exact ih (k,(w64 ((IntKind.wrap .i64 ((IntKind.wrap .u64 (w64 (s30+s31))) / 2 ^ min (Int.toNat 1) (IntKind.bits .u64)))+1)),s31) h (Nat.lt_succ_self _)
  refine cnf (dF hc) ?_;refine .gk [0,1,2,3,4,18,19,20] ?_;refine .exit ?_
  exact jr (s30) h
 rintro z29 h
 try dsimp only at h ⊢
 subst hK11
 refine .sr ?_;refine va ?_;refine va ?_;refine vb ?_;refine ar [0,1,2,3,4,18,20,24] ?_;refine .seq ?_;refine .seq ?_;refine AW.mr (σ:=Unit) (fun _=>True) (fun _=>[(0,.own 3 (Is a0)),(1,.d (.i .i64 a1)),(2,.d (.i .i64 a2)),(3,.d (.i .i64 a3)),(4,.d (a4.dv)),(18,.d (.i .i64 (IntKind.wrap .i64 ((IntKind.wrap .u64 (w64 (a1+a3))) / 2 ^ min (Int.toNat 1) (IntKind.bits .u64))))),(20,.d (.i .i64 z29)),(24,.d (.i .i64 (w64 ((w64 ((IntKind.wrap .i64 ((IntKind.wrap .u64 (w64 (a1+a3))) / 2 ^ min (Int.toNat 1) (IntKind.bits .u64)))+a2))-z29)))),(185,.d (.b ((decide (z29<a2))&&(decide (a2<(w64 ((w64 ((IntKind.wrap .i64 ((IntKind.wrap .u64 (w64 (a1+a3))) / 2 ^ min (Int.toNat 1) (IntKind.bits .u64)))+a2))-z29)))))))]) (fun _=>[]) ?_ ?_
 ·skip
  refine .region ?_;refine va ?_;refine va ?_;refine vb ?_
  by_cases hc:z29<a2
  ·have hb0:(decide (z29<a2))=true:=(dT hc)
   refine vL hb0 ?_;refine va ?_;refine va ?_;refine vb ?_;refine vk Ap ?_;refine RL.gk [0,1,2,3,4,18,20,24,185] ?_;refine .nil ?_
   exact jr () trivial (by simp only [hb0];rfl)
  have hb0:(decide (z29<a2))=false:=(dF hc)
  refine vL hb0 ?_;refine gf3 ?_;refine vk Ap ?_;refine RL.gk [0,1,2,3,4,18,20,24,185] ?_;refine .nil ?_
  exact jr () trivial (by simp only [hb0];rfl)
 rintro _ _
 obtain ⟨K13,hK13,h⟩:=AH h
 refine AW.mr (σ:=(List Int)) (fun p=>K13 p=some r) (fun p=>[(0,.own 3 (Is p)),(1,.d (.i .i64 a1)),(3,.d (.i .i64 a3)),(4,.d (a4.dv)),(18,.d (.i .i64 (IntKind.wrap .i64 ((IntKind.wrap .u64 (w64 (a1+a3))) / 2 ^ min (Int.toNat 1) (IntKind.bits .u64))))),(20,.d (.i .i64 z29)),(24,.d (.i .i64 (w64 ((w64 ((IntKind.wrap .i64 ((IntKind.wrap .u64 (w64 (a1+a3))) / 2 ^ min (Int.toNat 1) (IntKind.bits .u64)))+a2))-z29))))]) (fun p=>[]) ?_ ?_
 ·skip
  rcases brc h with ⟨hc,h⟩|⟨hc,h⟩
  ·refine cnt hc ?_
   refine .region ?_;refine mvo ?_;refine va ?_;refine va ?_;refine va ?_;refine va ?_
   obtain ⟨x36,g36,h⟩:=bnd h
   refine Mr (Is x36) ?_ (PA oa4 g36) Tryz.call260
   refine RL.gk [0,1,2,3,4,18,20,24,185,187,188,189,190,191] ?_;refine RL.gk [0,1,3,4,18,20,24] ?_;refine .nil ?_
   exact jr (x36) h
  refine cnf (bf hc) ?_;refine .gk [0,1,3,4,18,20,24] ?_;refine .skip ?_
  exact jr (a0) h
 rintro z35 h
 try dsimp only at h ⊢
 subst hK13
 refine aw ?_;refine .seq ?_;refine .seq ?_;refine AW.mr (σ:=Unit) (fun _=>True) (fun _=>[(0,.own 3 (Is z35)),(1,.d (.i .i64 a1)),(3,.d (.i .i64 a3)),(4,.d (a4.dv)),(18,.d (.i .i64 (IntKind.wrap .i64 ((IntKind.wrap .u64 (w64 (a1+a3))) / 2 ^ min (Int.toNat 1) (IntKind.bits .u64))))),(20,.d (.i .i64 z29)),(24,.d (.i .i64 (w64 ((w64 ((IntKind.wrap .i64 ((IntKind.wrap .u64 (w64 (a1+a3))) / 2 ^ min (Int.toNat 1) (IntKind.bits .u64)))+a2))-z29)))),(199,.d (.b ((decide (a1<z29))&&(decide (z29<(IntKind.wrap .i64 ((IntKind.wrap .u64 (w64 (a1+a3))) / 2 ^ min (Int.toNat 1) (IntKind.bits .u64))))))))]) (fun _=>[]) ?_ ?_
 ·skip
  refine .region ?_;refine va ?_;refine va ?_;refine vb ?_
  by_cases hc:a1<z29
  ·have hb0:(decide (a1<z29))=true:=(dT hc)
   refine vL hb0 ?_;refine va ?_;refine va ?_;refine vb ?_;refine vk Ap ?_;refine RL.gk [0,1,3,4,18,20,24,199] ?_;refine .nil ?_
   exact jr () trivial (by simp only [hb0];rfl)
  have hb0:(decide (a1<z29))=false:=(dF hc)
  refine vL hb0 ?_;refine gf3 ?_;refine vk Ap ?_;refine RL.gk [0,1,3,4,18,20,24,199] ?_;refine .nil ?_
  exact jr () trivial (by simp only [hb0];rfl)
 rintro _ _
 obtain ⟨K14,hK14,h⟩:=AH h
 refine AW.mr (σ:=(List Int)) (fun p=>K14 p=some r) (fun p=>[(0,.own 3 (Is p)),(3,.d (.i .i64 a3)),(4,.d (a4.dv)),(18,.d (.i .i64 (IntKind.wrap .i64 ((IntKind.wrap .u64 (w64 (a1+a3))) / 2 ^ min (Int.toNat 1) (IntKind.bits .u64))))),(24,.d (.i .i64 (w64 ((w64 ((IntKind.wrap .i64 ((IntKind.wrap .u64 (w64 (a1+a3))) / 2 ^ min (Int.toNat 1) (IntKind.bits .u64)))+a2))-z29))))]) (fun p=>[]) ?_ ?_
 ·skip
  rcases brc h with ⟨hc,h⟩|⟨hc,h⟩
  ·refine cnt hc ?_
   refine .region ?_;refine mvo ?_;refine va ?_;refine va ?_;refine va ?_;refine va ?_
   obtain ⟨x38,g38,h⟩:=bnd h
   refine Mr (Is x38) ?_ (orc_slices_symMergeCmpFunc_int _ _ _ _ _ _ oa4 g38) Tryz.call229
   refine RL.gk [0,1,3,4,18,20,24,199,201,202,203,204,205] ?_;refine RL.gk [0,3,4,18,24] ?_;refine .nil ?_
   exact jr (x38) h
  refine cnf (bf hc) ?_;refine .gk [0,3,4,18,24] ?_;refine .skip ?_
  exact jr (z35) h
 rintro z37 h
 try dsimp only at h ⊢
 subst hK14
 refine aw ?_;refine .seq ?_;refine AW.mr (σ:=Unit) (fun _=>True) (fun _=>[(0,.own 3 (Is z37)),(3,.d (.i .i64 a3)),(4,.d (a4.dv)),(18,.d (.i .i64 (IntKind.wrap .i64 ((IntKind.wrap .u64 (w64 (a1+a3))) / 2 ^ min (Int.toNat 1) (IntKind.bits .u64))))),(24,.d (.i .i64 (w64 ((w64 ((IntKind.wrap .i64 ((IntKind.wrap .u64 (w64 (a1+a3))) / 2 ^ min (Int.toNat 1) (IntKind.bits .u64)))+a2))-z29)))),(213,.d (.b ((decide ((IntKind.wrap .i64 ((IntKind.wrap .u64 (w64 (a1+a3))) / 2 ^ min (Int.toNat 1) (IntKind.bits .u64)))<(w64 ((w64 ((IntKind.wrap .i64 ((IntKind.wrap .u64 (w64 (a1+a3))) / 2 ^ min (Int.toNat 1) (IntKind.bits .u64)))+a2))-z29))))&&(decide ((w64 ((w64 ((IntKind.wrap .i64 ((IntKind.wrap .u64 (w64 (a1+a3))) / 2 ^ min (Int.toNat 1) (IntKind.bits .u64)))+a2))-z29))<a3)))))]) (fun _=>[]) ?_ ?_
 ·skip
  refine .region ?_;refine va ?_;refine va ?_;refine vb ?_
  by_cases hc:(IntKind.wrap .i64 ((IntKind.wrap .u64 (w64 (a1+a3))) / 2 ^ min (Int.toNat 1) (IntKind.bits .u64)))<(w64 ((w64 ((IntKind.wrap .i64 ((IntKind.wrap .u64 (w64 (a1+a3))) / 2 ^ min (Int.toNat 1) (IntKind.bits .u64)))+a2))-z29))
  ·have hb0:(decide ((IntKind.wrap .i64 ((IntKind.wrap .u64 (w64 (a1+a3))) / 2 ^ min (Int.toNat 1) (IntKind.bits .u64)))<(w64 ((w64 ((IntKind.wrap .i64 ((IntKind.wrap .u64 (w64 (a1+a3))) / 2 ^ min (Int.toNat 1) (IntKind.bits .u64)))+a2))-z29))))=true:=(dT hc)
   refine vL hb0 ?_;refine va ?_;refine va ?_;refine vb ?_;refine vk Ap ?_;refine RL.gk [0,3,4,18,24,213] ?_;refine .nil ?_
   exact jr () trivial (by simp only [hb0];rfl)
  have hb0:(decide ((IntKind.wrap .i64 ((IntKind.wrap .u64 (w64 (a1+a3))) / 2 ^ min (Int.toNat 1) (IntKind.bits .u64)))<(w64 ((w64 ((IntKind.wrap .i64 ((IntKind.wrap .u64 (w64 (a1+a3))) / 2 ^ min (Int.toNat 1) (IntKind.bits .u64)))+a2))-z29))))=false:=(dF hc)
  refine vL hb0 ?_;refine gf3 ?_;refine vk Ap ?_;refine RL.gk [0,3,4,18,24,213] ?_;refine .nil ?_
  exact jr () trivial (by simp only [hb0];rfl)
 rintro _ _
 rcases brc h with ⟨hc,h⟩|⟨hc,h⟩
 ·refine cnt hc ?_
  refine .region ?_;refine mvo ?_;refine va ?_;refine va ?_;refine va ?_;refine va ?_
  obtain ⟨x39,g39,h⟩:=bnd h
  refine Mr (Is x39) ?_ (orc_slices_symMergeCmpFunc_int _ _ _ _ _ _ oa4 g39) Tryz.call229
  refine RL.gk [0,3,4,18,24,213,215,216,217,218,219] ?_;refine .nil ?_
  cases h
  exact NL rfl rfl
 refine cnf (bf hc) ?_;refine .skip ?_
 cases h
 exact NL rfl rfl
def AN : Nat→(List Int)→Int→Int→Int→Ad→Option ((List Int))
 | 0,_,_,_,_,_=>none
 | k+1,a0,a1,a2,a3,a4=>E2 (AN k) a0 a1 a2 a3 a4
theorem Hw : ∀ (k:Nat) (a0:(List Int)) (a1:Int) (a2:Int) (a3:Int) (a4:Ad) (r:(List Int)),BP a4→AN k a0 a1 a2 a3 a4=some r→FnG Tryz.prog 229 [.own 3 (Is a0),.d (.i .i64 a1),.d (.i .i64 a2),.d (.i .i64 a3),.d (a4.dv)] [] (.tup []) [.own 3 (Is r)] []
 | 0,_,_,_,_,_,_,_,h=>by cases h
 | k+1,a0,a1,a2,a3,a4,_,oa4,h=>Mv (Hw k) oa4 (show E2 (AN k) a0 a1 a2 a3 a4=some _ from h)
def FT (a0:(List Int)) (a1:Int) (a2:Int) (a3:Int) (a4:Ad) : Option ((List Int)):=AN (As) a0 a1 a2 a3 a4
theorem IS {a0:(List Int)} {a1:Int} {a2:Int} {a3:Int} {a4:Ad} (oa4:BP a4) {r:(List Int)} (h:FT a0 a1 a2 a3 a4=some r) : FnG Tryz.prog 229 [.own 3 (Is a0),.d (.i .i64 a1),.d (.i .i64 a2),.d (.i .i64 a3),.d (a4.dv)] [] (.tup []) [.own 3 (Is r)] []:=Hw _ a0 a1 a2 a3 a4 r oa4 h
def DI (a1:Int) (a2:Ad) (K0:(List Int)→Int→Option ((List Int))) : Nat→(List Int)→Int→Int→Option ((List Int))
 | 0,_,_,_=>none
 | k+1,s3,s4,s5=>(if s5≤a1 then ((DD s3 s4 s5 a2).bind fun x6=>(DI a1 a2 K0 k x6 s5 (w64 (s5+20)))) else (K0 s3 s4))
def DE (a1:Int) (a2:Ad) (s9:Int) (K3:(List Int)→Int→Option ((List Int))) : Nat→(List Int)→Int→Int→Option ((List Int))
 | 0,_,_,_=>none
 | k+1,s12,s13,s14=>(if s14≤a1 then ((FT s12 s13 (w64 (s13+s9)) s14 a2).bind fun x15=>(DE a1 a2 s9 K3 k x15 s14 (w64 (s14+(w64 (2 * s9)))))) else (K3 s12 s13))
def B0 (a1:Int) (a2:Ad) : Nat→(List Int)→Int→Option ((List Int))
 | 0,_,_=>none
 | k+1,s8,s9=>(if s9<a1 then (jn (fun (z10:(List Int)) (z11:Int)=>(jn (fun (z16:(List Int))=>(B0 a1 a2 k z16 (w64 (s9 * 2)))) fun K5=>(if (w64 (z11+s9))<a1 then ((FT z10 z11 (w64 (z11+s9)) a1 a2).bind fun x17=>(K5 x17)) else (K5 z10)))) fun K3=>(DE a1 a2 s9 K3 As s8 0 (w64 (2 * s9)))) else (some s8))
def JG (a0:(List Int)) (a1:Int) (a2:Ad) : Option ((List Int)):=(jn (fun (z1:(List Int)) (z2:Int)=>((DD z1 z2 a1 a2).bind fun x7=>(B0 a1 a2 As x7 20))) fun K0=>(DI a1 a2 K0 As a0 0 20))
theorem Pu {a0:(List Int)} {a1:Int} {a2:Ad} (oa2:BP a2) {r:(List Int)} (h:JG a0 a1 a2=some r) :
  FnG Tryz.prog 180 [.own 3 (Is a0),.d (.i .i64 a1),.d (a2.dv)] [] (.tup []) [.own 3 (Is r)] []:=by
 unfold JG at h
 refine FnG.of (rs:=[]) 1 63 Tryz.func180 rfl rfl rfl (by simp) (by simp) (by simp) ?_;refine .sr ?_;refine ar [0,1,2,6] ?_;refine .sr ?_;refine va ?_;refine asd ?_;refine ar [0,1,2,6,7,8] ?_
 obtain ⟨K0,hK0,h⟩:=AH h
 refine AW.mj (σ:=(List Int)×Int) (fun p=>K0 p.1 p.2=some r) (fun p=>[(0,.own 3 (Is p.1)),(1,.d (.i .i64 a1)),(2,.d (a2.dv)),(6,.d (.i .i64 20)),(7,.d (.i .i64 p.2))]) (fun p=>[]) ?_ ?_
 ·skip
  refine .block ?_
  refine .loop (.gk [0,1,2,6,7,8] ?_)
  refine AL.ind (σ:=Nat×(List Int)×Int×Int) (m:=fun p=>p.1) (e:=fun p=>[(0,.own 3 (Is p.2.1)),(1,.d (.i .i64 a1)),(2,.d (a2.dv)),(6,.d (.i .i64 20)),(7,.d (.i .i64 p.2.2.1)),(8,.d (.i .i64 p.2.2.2))]) (h:=fun p=>[]) (I:=fun p=>DI a1 a2 K0 p.1 p.2.1 p.2.2.1 p.2.2.2=some r) ?_ (As,a0,0,20) h
  rintro ⟨k,s3,s4,s5⟩ h ih
  dsimp only at h ih ⊢
  rcases k with _|k
  ·rw [DI] at h;cases h
  rw [DI] at h
  refine .seq ?_;refine .sr ?_;refine va ?_;refine va ?_;refine vb ?_;refine rk [0,1,2,6,7,8,13] ?_
  rcases brc h with ⟨hc,h⟩|⟨hc,h⟩
  ·refine cnt (dT hc) ?_
   refine .sk ?_;refine .block ?_;refine .sr ?_;refine mvo ?_;refine va ?_;refine va ?_;refine va ?_
   obtain ⟨x6,g6,h⟩:=bnd h
   refine Mr (Is x6) ?_ (IG oa2 g6) Tryz.call228
   refine RL.gk [0,1,2,6,7,8,13,15,16,17,18] ?_;refine rk [0,1,2,6,8] ?_;refine .sr ?_;refine va ?_;refine ar [0,1,2,6,7,8] ?_;refine .region ?_;refine va ?_;refine va ?_;refine vb ?_;refine asd ?_;refine .nil ?_;refine AL.gk [0,1,2,6,7,8] ?_
   exact ih (k,x6,s5,(w64 (s5+20))) h (Nat.lt_succ_self _)
  refine cnf (dF hc) ?_;refine .gk [0,1,2,6,7] ?_;refine .exit ?_
  exact jr (s3,s4) h
 rintro ⟨z1,z2⟩ h
 try dsimp only at h ⊢
 subst hK0
 refine .sr ?_;refine mvo ?_;refine va ?_;refine va ?_;refine va ?_
 obtain ⟨x7,g7,h⟩:=bnd h
 refine Mr (Is x7) ?_ (IG oa2 g7) Tryz.call228
 refine RL.gk [0,1,2,6,7,24,25,26,27] ?_;refine rk [0,1,2,6] ?_;refine .block ?_
 refine .loop (.gk [0,1,2,6] ?_)
 refine AL.ind (σ:=Nat×(List Int)×Int) (m:=fun p=>p.1) (e:=fun p=>[(0,.own 3 (Is p.2.1)),(1,.d (.i .i64 a1)),(2,.d (a2.dv)),(6,.d (.i .i64 p.2.2))]) (h:=fun p=>[]) (I:=fun p=>B0 a1 a2 p.1 p.2.1 p.2.2=some r) ?_ (As,x7,20) h
 rintro ⟨k,s8,s9⟩ h ih
 dsimp only at h ih ⊢
 rcases k with _|k
 ·rw [B0] at h;cases h
 rw [B0] at h
 refine .seq ?_;refine .sr ?_;refine va ?_;refine va ?_;refine vb ?_;refine rk [0,1,2,6,30] ?_
 rcases brc h with ⟨hc,h⟩|⟨hc,h⟩
 ·refine cnt (dT hc) ?_
  refine .sk ?_;refine .block ?_;refine .sr ?_;refine va ?_;refine vb ?_;refine asd ?_;refine ar [0,1,2,6,7,8] ?_
  obtain ⟨K3,hK3,h⟩:=AH h
  refine AW.mj (σ:=(List Int)×Int) (fun p=>K3 p.1 p.2=some r) (fun p=>[(0,.own 3 (Is p.1)),(1,.d (.i .i64 a1)),(2,.d (a2.dv)),(6,.d (.i .i64 s9)),(7,.d (.i .i64 p.2))]) (fun p=>[]) ?_ ?_
  ·skip
   refine .block ?_
   refine .loop (.gk [0,1,2,6,7,8] ?_)
   refine AL.ind (σ:=Nat×(List Int)×Int×Int) (m:=fun p=>p.1) (e:=fun p=>[(0,.own 3 (Is p.2.1)),(1,.d (.i .i64 a1)),(2,.d (a2.dv)),(6,.d (.i .i64 s9)),(7,.d (.i .i64 p.2.2.1)),(8,.d (.i .i64 p.2.2.2))]) (h:=fun p=>[]) (I:=fun p=>DE a1 a2 s9 K3 p.1 p.2.1 p.2.2.1 p.2.2.2=some r) ?_ (As,s8,0,(w64 (2 * s9))) h
   rintro ⟨k,s12,s13,s14⟩ h ih
   dsimp only at h ih ⊢
   rcases k with _|k
   ·rw [DE] at h;cases h
   rw [DE] at h
   refine .seq ?_;refine .sr ?_;refine va ?_;refine va ?_;refine vb ?_;refine rk [0,1,2,6,7,8,35] ?_
   rcases brc h with ⟨hc,h⟩|⟨hc,h⟩
   ·refine cnt (dT hc) ?_
    refine .sk ?_;refine .block ?_;refine .sr ?_;refine mvo ?_;refine va ?_;refine va ?_;refine va ?_;refine vb ?_;refine va ?_;refine va ?_
    obtain ⟨x15,g15,h⟩:=bnd h
    refine Mr (Is x15) ?_ (IS oa2 g15) Tryz.call229
    refine RL.gk [0,1,2,6,7,8,35,37,38,39,40,41,42,43] ?_;refine rk [0,1,2,6,8] ?_;refine .sr ?_;refine va ?_;refine ar [0,1,2,6,7,8] ?_;refine .region ?_;refine va ?_;refine va ?_;refine vb ?_;refine vb ?_;refine asd ?_;refine .nil ?_;refine AL.gk [0,1,2,6,7,8] ?_
    exact ih (k,x15,s14,(w64 (s14+(w64 (2 * s9))))) h (Nat.lt_succ_self _)
   refine cnf (dF hc) ?_;refine .gk [0,1,2,6,7] ?_;refine .exit ?_
   exact jr (s12,s13) h
  rintro ⟨z10,z11⟩ h
  try dsimp only at h ⊢
  subst hK3
  refine .seq ?_;refine .sr ?_;refine va ?_;refine va ?_;refine vb ?_;refine ar [0,1,2,6,7,9] ?_;refine .sr ?_;refine va ?_;refine va ?_;refine vb ?_;refine rk [0,1,2,6,7,9,54] ?_
  obtain ⟨K5,hK5,h⟩:=AH h
  refine AW.mr (σ:=(List Int)) (fun p=>K5 p=some r) (fun p=>[(0,.own 3 (Is p)),(1,.d (.i .i64 a1)),(2,.d (a2.dv)),(6,.d (.i .i64 s9))]) (fun p=>[]) ?_ ?_
  ·skip
   rcases brc h with ⟨hc,h⟩|⟨hc,h⟩
   ·refine cnt (dT hc) ?_
    refine .region ?_;refine mvo ?_;refine va ?_;refine va ?_;refine va ?_;refine va ?_
    obtain ⟨x17,g17,h⟩:=bnd h
    refine Mr (Is x17) ?_ (IS oa2 g17) Tryz.call229
    refine RL.gk [0,1,2,6,7,9,54,56,57,58,59,60] ?_;refine RL.gk [0,1,2,6] ?_;refine .nil ?_
    exact jr (x17) h
   refine cnf (dF hc) ?_;refine .gk [0,1,2,6] ?_;refine .skip ?_
   exact jr (z10) h
  rintro z16 h
  try dsimp only at h ⊢
  subst hK5
  refine aw ?_;refine .region ?_;refine va ?_;refine vb ?_;refine asd ?_;refine .nil ?_;refine AL.gk [0,1,2,6] ?_
  exact ih (k,z16,(w64 (s9 * 2))) h (Nat.lt_succ_self _)
 refine cnf (dF hc) ?_;refine .exit ?_
 cases h
 exact NL rfl rfl
def Jq (a0:(List Int)) (a1:Ad) : Option ((List Int)):=((JG a0 ((List.length a0:Nat) : Int) a1).bind fun x1=>(some x1))
theorem R4 {a0:(List Int)} {a1:Ad} (oa1:BP a1) {r:(List Int)} (h:Jq a0 a1=some r) :
  FnG Tryz.prog 127 [.own 3 (Is a0),.d (a1.dv)] [] (.tup []) [.own 3 (Is r)] []:=by
 unfold Jq at h
 refine FnG.of (rs:=[]) 1 9 Tryz.func127 rfl rfl rfl (by simp) (by simp) (by simp) ?_;refine .region ?_;refine mvo ?_;refine mvo ?_;refine vk (QX (Af _) CU) ?_;refine va ?_
 obtain ⟨x1,g1,h⟩:=bnd h
 refine RL.gk [0,1,4,6,7] ?_
 refine Mr (Is x1) ?_ (Pu oa1 g1) Tryz.call180
 refine RL.gk [0,1,6,7,8] ?_;refine .nil ?_
 cases h
 exact NL rfl rfl
def Et (a0:Int) : Option (Bool):=(some ((!(decide (a0=a0)))))
theorem HH {a0:Int} {r:Bool} (h:Et a0=some r) :
  Fn Tryz.prog 195 [.i .i64 a0] (.d (.b r)):=by
 unfold Et at h
 refine Fn.o1 2 6 Tryz.func195 ?_;refine .sr ?_;refine ar [0,2] ?_;refine .sr ?_;refine va ?_;refine va ?_;refine vb ?_;refine ar [2] ?_;refine .ret ?_
 cases h
 exact ⟨rfl,rfl⟩
def Ef (a0:Int) : Option (Bool):=(some ((!(decide (a0=a0)))))
theorem G8 {a0:Int} {r:Bool} (h:Ef a0=some r) :
  Fn Tryz.prog 194 [.i .i32 a0] (.d (.b r)):=by
 unfold Ef at h
 refine Fn.o1 2 6 Tryz.func194 ?_;refine .sr ?_;refine ar [0,2] ?_;refine .sr ?_;refine va ?_;refine va ?_;refine vb ?_;refine ar [2] ?_;refine .ret ?_
 cases h
 exact ⟨rfl,rfl⟩
def B7 (a0:Int) : Option (Bool):=(some ((!(decide (a0=a0)))))
theorem En {a0:Int} {r:Bool} (h:B7 a0=some r) :
  Fn Tryz.prog 189 [.i .u8 a0] (.d (.b r)):=by
 unfold B7 at h
 refine Fn.o1 2 6 Tryz.func189 ?_;refine .sr ?_;refine ar [0,2] ?_;refine .sr ?_;refine va ?_;refine va ?_;refine vb ?_;refine ar [2] ?_;refine .ret ?_
 cases h
 exact ⟨rfl,rfl⟩
def C7 (a0:Int) (a1:Int) : Option (Int):=((Et a0).bind fun x1=>((Et a1).bind fun x2=>(if x1=true then (if x2=true then (some (0)) else (some ((-1)))) else (if x2=true then (some (1)) else (if a0<a1 then (some ((-1))) else (if a1<a0 then (some (1)) else (some (0))))))))
theorem Gv {a0:Int} {a1:Int} {r:Int} (h:C7 a0 a1=some r) :
  Fn Tryz.prog 144 [.i .i64 a0,.i .i64 a1] (.d (.i .i64 r)):=by
 unfold C7 at h
 refine Fn.o1 4 20 Tryz.func144 ?_;refine .sr ?_;refine ar [0,1,4] ?_;refine .sr ?_;refine va ?_
 obtain ⟨x1,g1,h⟩:=bnd h
 refine vk (Al (HH g1) Tryz.call195) ?_;refine ar [0,1,4,5] ?_;refine .sr ?_;refine va ?_
 obtain ⟨x2,g2,h⟩:=bnd h
 refine vk (Al (HH g2) Tryz.call195) ?_;refine ar [0,1,4,5,6] ?_;refine .seq ?_;refine .sr ?_;refine va ?_;refine rk [0,1,4,6,11] ?_
 rcases brc h with ⟨hc,h⟩|⟨hc,h⟩
 ·refine cnt hc ?_
  refine .seq ?_;refine .sr ?_;refine va ?_;refine rk [0,1,4,6,12] ?_
  rcases brc h with ⟨hc,h⟩|⟨hc,h⟩
  ·refine cnt hc ?_
   refine .sr ?_;refine ar [0,1,4,6] ?_;refine .ret ?_
   cases h
   exact ⟨rfl,rfl⟩
  refine cnf (bf hc) ?_;refine .sk ?_;refine .sr ?_;refine ar [0,1,4,6] ?_;refine .ret ?_
  cases h
  exact ⟨rfl,rfl⟩
 refine cnf (bf hc) ?_;refine .sk ?_;refine .seq ?_;refine .sr ?_;refine va ?_;refine rk [0,1,4,13] ?_
 rcases brc h with ⟨hc,h⟩|⟨hc,h⟩
 ·refine cnt hc ?_
  refine .sr ?_;refine ar [0,1,4] ?_;refine .ret ?_
  cases h
  exact ⟨rfl,rfl⟩
 refine cnf (bf hc) ?_;refine .sk ?_;refine .seq ?_;refine .sr ?_;refine va ?_;refine va ?_;refine vb ?_;refine rk [0,1,4,16] ?_
 rcases brc h with ⟨hc,h⟩|⟨hc,h⟩
 ·refine cnt (dT hc) ?_
  refine .sr ?_;refine ar [0,1,4] ?_;refine .ret ?_
  cases h
  exact ⟨rfl,rfl⟩
 refine cnf (dF hc) ?_;refine .sk ?_;refine .seq ?_;refine .sr ?_;refine va ?_;refine va ?_;refine vb ?_;refine rk [4,19] ?_
 rcases brc h with ⟨hc,h⟩|⟨hc,h⟩
 ·refine cnt (dT hc) ?_
  refine .sr ?_;refine ar [4] ?_;refine .ret ?_
  cases h
  exact ⟨rfl,rfl⟩
 refine cnf (dF hc) ?_;refine .sk ?_;refine .sr ?_;refine ar [4] ?_;refine .ret ?_
 cases h
 exact ⟨rfl,rfl⟩
def Dn (a0:Int) (a1:Int) : Option (Int):=((Ef a0).bind fun x1=>((Ef a1).bind fun x2=>(if x1=true then (if x2=true then (some (0)) else (some ((-1)))) else (if x2=true then (some (1)) else (if a0<a1 then (some ((-1))) else (if a1<a0 then (some (1)) else (some (0))))))))
theorem JK {a0:Int} {a1:Int} {r:Int} (h:Dn a0 a1=some r) :
  Fn Tryz.prog 142 [.i .i32 a0,.i .i32 a1] (.d (.i .i64 r)):=by
 unfold Dn at h
 refine Fn.o1 4 20 Tryz.func142 ?_;refine .sr ?_;refine ar [0,1,4] ?_;refine .sr ?_;refine va ?_
 obtain ⟨x1,g1,h⟩:=bnd h
 refine vk (Al (G8 g1) Tryz.call194) ?_;refine ar [0,1,4,5] ?_;refine .sr ?_;refine va ?_
 obtain ⟨x2,g2,h⟩:=bnd h
 refine vk (Al (G8 g2) Tryz.call194) ?_;refine ar [0,1,4,5,6] ?_;refine .seq ?_;refine .sr ?_;refine va ?_;refine rk [0,1,4,6,11] ?_
 rcases brc h with ⟨hc,h⟩|⟨hc,h⟩
 ·refine cnt hc ?_
  refine .seq ?_;refine .sr ?_;refine va ?_;refine rk [0,1,4,6,12] ?_
  rcases brc h with ⟨hc,h⟩|⟨hc,h⟩
  ·refine cnt hc ?_
   refine .sr ?_;refine ar [0,1,4,6] ?_;refine .ret ?_
   cases h
   exact ⟨rfl,rfl⟩
  refine cnf (bf hc) ?_;refine .sk ?_;refine .sr ?_;refine ar [0,1,4,6] ?_;refine .ret ?_
  cases h
  exact ⟨rfl,rfl⟩
 refine cnf (bf hc) ?_;refine .sk ?_;refine .seq ?_;refine .sr ?_;refine va ?_;refine rk [0,1,4,13] ?_
 rcases brc h with ⟨hc,h⟩|⟨hc,h⟩
 ·refine cnt hc ?_
  refine .sr ?_;refine ar [0,1,4] ?_;refine .ret ?_
  cases h
  exact ⟨rfl,rfl⟩
 refine cnf (bf hc) ?_;refine .sk ?_;refine .seq ?_;refine .sr ?_;refine va ?_;refine va ?_;refine vb ?_;refine rk [0,1,4,16] ?_
 rcases brc h with ⟨hc,h⟩|⟨hc,h⟩
 ·refine cnt (dT hc) ?_
  refine .sr ?_;refine ar [0,1,4] ?_;refine .ret ?_
  cases h
  exact ⟨rfl,rfl⟩
 refine cnf (dF hc) ?_;refine .sk ?_;refine .seq ?_;refine .sr ?_;refine va ?_;refine va ?_;refine vb ?_;refine rk [4,19] ?_
 rcases brc h with ⟨hc,h⟩|⟨hc,h⟩
 ·refine cnt (dT hc) ?_
  refine .sr ?_;refine ar [4] ?_;refine .ret ?_
  cases h
  exact ⟨rfl,rfl⟩
 refine cnf (dF hc) ?_;refine .sk ?_;refine .sr ?_;refine ar [4] ?_;refine .ret ?_
 cases h
 exact ⟨rfl,rfl⟩
def BK (a0:Int) (a1:Int) : Option (Int):=((B7 a0).bind fun x1=>((B7 a1).bind fun x2=>(if x1=true then (if x2=true then (some (0)) else (some ((-1)))) else (if x2=true then (some (1)) else (if a0<a1 then (some ((-1))) else (if a1<a0 then (some (1)) else (some (0))))))))
theorem F9 {a0:Int} {a1:Int} {r:Int} (h:BK a0 a1=some r) :
  Fn Tryz.prog 140 [.i .u8 a0,.i .u8 a1] (.d (.i .i64 r)):=by
 unfold BK at h
 refine Fn.o1 4 20 Tryz.func140 ?_;refine .sr ?_;refine ar [0,1,4] ?_;refine .sr ?_;refine va ?_
 obtain ⟨x1,g1,h⟩:=bnd h
 refine vk (Al (En g1) Tryz.call189) ?_;refine ar [0,1,4,5] ?_;refine .sr ?_;refine va ?_
 obtain ⟨x2,g2,h⟩:=bnd h
 refine vk (Al (En g2) Tryz.call189) ?_;refine ar [0,1,4,5,6] ?_;refine .seq ?_;refine .sr ?_;refine va ?_;refine rk [0,1,4,6,11] ?_
 rcases brc h with ⟨hc,h⟩|⟨hc,h⟩
 ·refine cnt hc ?_
  refine .seq ?_;refine .sr ?_;refine va ?_;refine rk [0,1,4,6,12] ?_
  rcases brc h with ⟨hc,h⟩|⟨hc,h⟩
  ·refine cnt hc ?_
   refine .sr ?_;refine ar [0,1,4,6] ?_;refine .ret ?_
   cases h
   exact ⟨rfl,rfl⟩
  refine cnf (bf hc) ?_;refine .sk ?_;refine .sr ?_;refine ar [0,1,4,6] ?_;refine .ret ?_
  cases h
  exact ⟨rfl,rfl⟩
 refine cnf (bf hc) ?_;refine .sk ?_;refine .seq ?_;refine .sr ?_;refine va ?_;refine rk [0,1,4,13] ?_
 rcases brc h with ⟨hc,h⟩|⟨hc,h⟩
 ·refine cnt hc ?_
  refine .sr ?_;refine ar [0,1,4] ?_;refine .ret ?_
  cases h
  exact ⟨rfl,rfl⟩
 refine cnf (bf hc) ?_;refine .sk ?_;refine .seq ?_;refine .sr ?_;refine va ?_;refine va ?_;refine vb ?_;refine rk [0,1,4,16] ?_
 rcases brc h with ⟨hc,h⟩|⟨hc,h⟩
 ·refine cnt (dT hc) ?_
  refine .sr ?_;refine ar [0,1,4] ?_;refine .ret ?_
  cases h
  exact ⟨rfl,rfl⟩
 refine cnf (dF hc) ?_;refine .sk ?_;refine .seq ?_;refine .sr ?_;refine va ?_;refine va ?_;refine vb ?_;refine rk [4,19] ?_
 rcases brc h with ⟨hc,h⟩|⟨hc,h⟩
 ·refine cnt (dT hc) ?_
  refine .sr ?_;refine ar [4] ?_;refine .ret ?_
  cases h
  exact ⟨rfl,rfl⟩
 refine cnf (dF hc) ?_;refine .sk ?_;refine .sr ?_;refine ar [4] ?_;refine .ret ?_
 cases h
 exact ⟨rfl,rfl⟩
def Ci (a0:(List Int)) (K0:Int→Option (Int)) : Nat→Int→Int→Option (Int)
 | 0,_,_=>none
 | k+1,s2,s3=>(if s3<((List.length a0:Nat):Int) then ((rd? a0 s3).bind fun x4=>(if x4=0 then (Ci a0 K0 k s2 (w64 (s3+1))) else (some (x4)))) else (K0 s2))
def Gx (a0:(List Int)) : Option (Int):=(jn (fun (z1:Int)=>(some (0))) fun K0=>(Ci a0 K0 As 0 0))
theorem N3 {a0:(List Int)} {r:Int} (h:Gx a0=some r) :
  Fn Tryz.prog 143 [.sl (Is a0)] (.d (.i .i64 r)):=by
 unfold Gx at h
 refine Fn.o1 2 18 Tryz.func143 ?_;refine .sr ?_;refine ar [0,2] ?_;refine .sr ?_;refine ar [0,2,3] ?_;refine .seq ?_;refine .sr ?_;refine va ?_;refine vk (A5 (Af _) (Da _) CU) ?_;refine va ?_;refine rk [2,3,6,7,8] ?_
 obtain ⟨K0,hK0,h⟩:=AH h
 refine AW.mr (σ:=Int) (fun p=>K0 p=some r) (fun p=>[(2,.d (.i .i64 p)),(3,.d (.i .i64 0))]) (fun p=>[]) ?_ ?_
 ·skip
  refine .block ?_
  refine .loop (.gk [2,3,6,7,8] ?_)
  refine AL.ind (σ:=Nat×Int×Int) (m:=fun p=>p.1) (e:=fun p=>[(2,.d (.i .i64 p.2.1)),(3,.d (.i .i64 0)),(6,.d (.sl (Is a0))),(7,.d (.i .i64 ((List.length a0:Nat):Int))),(8,.d (.i .i64 p.2.2))]) (h:=fun p=>[]) (I:=fun p=>Ci a0 K0 p.1 p.2.1 p.2.2=some r) ?_ (As,0,0) h
  rintro ⟨k,s2,s3⟩ h ih
  dsimp only at h ih ⊢
  rcases k with _|k
  ·rw [Ci] at h;cases h
  rw [Ci] at h
  refine .sr ?_;refine vb ?_;refine rk [2,3,6,7,8,9] ?_;refine .seq ?_
  rcases brc h with ⟨hc,h⟩|⟨hc,h⟩
  ·refine cnt (dT hc) ?_
   refine .sk ?_;refine .seq ?_;refine .block ?_;refine .sr ?_
   obtain ⟨x4,g4,h⟩:=bnd h
   obtain ⟨n4,p04,q4⟩:=Ah g4
   refine vk (vix n4 p04 (BJ q4) rfl Bt) ?_;refine vk (Ao AJ) ?_;refine ar [2,3,5,6,7,8] ?_;refine .sr ?_;refine va ?_;refine va ?_;refine vb ?_;refine rk [2,3,5,6,7,8,14] ?_
   rcases brc h with ⟨hc,h⟩|⟨hc,h⟩
   ·refine cnf (ntf (dT hc)) ?_
    refine .sk ?_;refine .region ?_;refine vb ?_;refine va ?_;refine .nil ?_;refine AL.gk [2,3,6,7,8] ?_
    exact ih (k,s2,(w64 (s3+1))) h (Nat.lt_succ_self _)
   refine cnt (ntt (dF hc)) ?_;refine .sr ?_;refine va ?_;refine ar [2,3,6,7,8] ?_;refine .ret ?_
   cases h
   exact ⟨rfl,rfl⟩
  refine cnf (dF hc) ?_;refine .gk [2,3] ?_;refine .exit ?_
  exact jr (s2) h
 rintro z1 h
 try dsimp only at h ⊢
 subst hK0
 refine aw ?_;refine .sr ?_;refine va ?_;refine ar [2] ?_;refine .ret ?_
 cases h
 exact ⟨rfl,rfl⟩
def A3 (a0:(List Int)) (a1:(List Int)) (K0:Int→Option (Int)) : Nat→Int→Int→Option (Int)
 | 0,_,_=>none
 | k+1,s2,s3=>(if s3<((List.length a0:Nat):Int) then ((rd? a0 s3).bind fun x4=>(if ((List.length a1:Nat):Int)≤s3 then (some (1)) else ((rd? a1 s3).bind fun x5=>((C7 x4 x5).bind fun x6=>(if x6=0 then (A3 a0 a1 K0 k s2 (w64 (s3+1))) else (some (x6))))))) else (K0 s2))
def B8 (a0:(List Int)) (a1:(List Int)) : Option (Int):=(jn (fun (z1:Int)=>(if ((List.length a0:Nat) : Int)<((List.length a1:Nat) : Int) then (some ((-1))) else (some (0)))) fun K0=>(A3 a0 a1 K0 As 0 0))
theorem GU {a0:(List Int)} {a1:(List Int)} {r:Int} (h:B8 a0 a1=some r) :
  Fn Tryz.prog 145 [.sl (Is a0),.sl (Is a1)] (.d (.i .i64 r)):=by
 unfold B8 at h
 refine Fn.o1 4 36 Tryz.func145 ?_;refine .sr ?_;refine ar [0,1,4] ?_;refine .seq ?_;refine .sr ?_;refine va ?_;refine vk (A5 (Af _) (Da _) CU) ?_;refine va ?_;refine rk [0,1,4,9,10,11] ?_
 obtain ⟨K0,hK0,h⟩:=AH h
 refine AW.mr (σ:=Int) (fun p=>K0 p=some r) (fun p=>[(0,.d (.sl (Is a0))),(1,.d (.sl (Is a1))),(4,.d (.i .i64 p))]) (fun p=>[]) ?_ ?_
 ·skip
  refine .block ?_
  refine .loop (.gk [0,1,4,9,10,11] ?_)
  refine AL.ind (σ:=Nat×Int×Int) (m:=fun p=>p.1) (e:=fun p=>[(0,.d (.sl (Is a0))),(1,.d (.sl (Is a1))),(4,.d (.i .i64 p.2.1)),(9,.d (.sl (Is a0))),(10,.d (.i .i64 ((List.length a0:Nat):Int))),(11,.d (.i .i64 p.2.2))]) (h:=fun p=>[]) (I:=fun p=>A3 a0 a1 K0 p.1 p.2.1 p.2.2=some r) ?_ (As,0,0) h
  rintro ⟨k,s2,s3⟩ h ih
  dsimp only at h ih ⊢
  rcases k with _|k
  ·rw [A3] at h;cases h
  rw [A3] at h
  refine .sr ?_;refine vb ?_;refine rk [0,1,4,9,10,11,12] ?_;refine .seq ?_
  rcases brc h with ⟨hc,h⟩|⟨hc,h⟩
  ·refine cnt (dT hc) ?_
   refine .sk ?_;refine .seq ?_;refine .block ?_;refine .sr ?_;refine va ?_
   obtain ⟨x4,g4,h⟩:=bnd h
   obtain ⟨n4,p04,q4⟩:=Ah g4
   refine vk (vix n4 p04 (BJ q4) rfl Bt) ?_;refine vk (Ao AJ) ?_;refine asd ?_;refine ar [0,1,4,5,6,9,10,11] ?_;refine .seq ?_;refine .sr ?_;refine va ?_;refine va ?_;refine vk (A5 (Af _) (Da _) CU) ?_;refine vb ?_;refine rk [0,1,4,5,6,9,10,11,19] ?_
   rcases brc h with ⟨hc,h⟩|⟨hc,h⟩
   ·refine cnt (dT hc) ?_
    refine .sr ?_;refine ar [0,1,4,5,6,9,10,11] ?_;refine .ret ?_
    cases h
    exact ⟨rfl,rfl⟩
   refine cnf (dF hc) ?_;refine .sk ?_;refine .sr ?_;refine va ?_;refine va ?_
   obtain ⟨x5,g5,h⟩:=bnd h
   obtain ⟨n5,p05,q5⟩:=Ah g5
   refine vk (vix n5 p05 (BJ q5) rfl Bt) ?_;refine vk (Ao AJ) ?_;refine ar [0,1,4,6,7,9,10,11] ?_;refine .sr ?_;refine va ?_;refine va ?_
   obtain ⟨x6,g6,h⟩:=bnd h
   refine vk (Al (Gv g6) Tryz.call144) ?_;refine ar [0,1,4,8,9,10,11] ?_;refine .sr ?_;refine va ?_;refine vb ?_;refine rk [0,1,4,8,9,10,11,28] ?_
   rcases brc h with ⟨hc,h⟩|⟨hc,h⟩
   ·refine cnf (ntf (dT hc)) ?_
    refine .sk ?_;refine .region ?_;refine vb ?_;refine va ?_;refine .nil ?_;refine AL.gk [0,1,4,9,10,11] ?_
    exact ih (k,s2,(w64 (s3+1))) h (Nat.lt_succ_self _)
   refine cnt (ntt (dF hc)) ?_;refine .sr ?_;refine va ?_;refine ar [0,1,4,9,10,11] ?_;refine .ret ?_
   cases h
   exact ⟨rfl,rfl⟩
  refine cnf (dF hc) ?_;refine .gk [0,1,4] ?_;refine .exit ?_
  exact jr (s2) h
 rintro z1 h
 try dsimp only at h ⊢
 subst hK0
 refine aw ?_;refine .seq ?_;refine .sr ?_;refine va ?_;refine vk (A5 (Af _) (Da _) CU) ?_;refine va ?_;refine vk (A5 (Af _) (Da _) CU) ?_;refine vb ?_;refine rk [4,35] ?_
 rcases brc h with ⟨hc,h⟩|⟨hc,h⟩
 ·refine cnt (dT hc) ?_
  refine .sr ?_;refine ar [4] ?_;refine .ret ?_
  cases h
  exact ⟨rfl,rfl⟩
 refine cnf (dF hc) ?_;refine .sk ?_;refine .sr ?_;refine ar [4] ?_;refine .ret ?_
 cases h
 exact ⟨rfl,rfl⟩
def Aj (a0:(List Itm)) (a1:(List Itm)) (a2:CC) (K0:Int→Option (Int)) : Nat→Int→Int→Option (Int)
 | 0,_,_=>none
 | k+1,s2,s3=>(if s3<((List.length a0:Nat):Int) then ((rd? a0 s3).bind fun x4=>(if ((List.length a1:Nat):Int)≤s3 then (some (1)) else ((rd? a1 s3).bind fun x5=>((a2.g (x4,x5)).bind fun x6=>(if x6=0 then (Aj a0 a1 a2 K0 k s2 (w64 (s3+1))) else (some (x6))))))) else (K0 s2))
def Ay (a0:(List Itm)) (a1:(List Itm)) (a2:CC) : Option (Int):=(jn (fun (z1:Int)=>(if ((List.length a0:Nat) : Int)<((List.length a1:Nat) : Int) then (some ((-1))) else (some (0)))) fun K0=>(Aj a0 a1 a2 K0 As 0 0))
theorem Cn {a0:(List Itm)} {a1:(List Itm)} {a2:CC} (oa2:Mn a2) {r:Int} (h:Ay a0 a1 a2=some r) :
  Fn Tryz.prog 146 [.sl (Its a0),.sl (Its a1),a2.dv] (.d (.i .i64 r)):=by
 unfold Ay at h
 refine Fn.o1 6 39 Tryz.func146 ?_;refine .sr ?_;refine ar [0,1,2,6] ?_;refine .seq ?_;refine .sr ?_;refine va ?_;refine vk (A5 (Au _) (BS _) BO) ?_;refine va ?_;refine rk [0,1,2,6,11,12,13] ?_
 obtain ⟨K0,hK0,h⟩:=AH h
 refine AW.mr (σ:=Int) (fun p=>K0 p=some r) (fun p=>[(0,.d (.sl (Its a0))),(1,.d (.sl (Its a1))),(6,.d (.i .i64 p))]) (fun p=>[]) ?_ ?_
 ·skip
  refine .block ?_
  refine .loop (.gk [0,1,2,6,11,12,13] ?_)
  refine AL.ind (σ:=Nat×Int×Int) (m:=fun p=>p.1) (e:=fun p=>[(0,.d (.sl (Its a0))),(1,.d (.sl (Its a1))),(2,.d (a2.dv)),(6,.d (.i .i64 p.2.1)),(11,.d (.sl (Its a0))),(12,.d (.i .i64 ((List.length a0:Nat):Int))),(13,.d (.i .i64 p.2.2))]) (h:=fun p=>[]) (I:=fun p=>Aj a0 a1 a2 K0 p.1 p.2.1 p.2.2=some r) ?_ (As,0,0) h
  rintro ⟨k,s2,s3⟩ h ih
  dsimp only at h ih ⊢
  rcases k with _|k
  ·rw [Aj] at h;cases h
  rw [Aj] at h
  refine .sr ?_;refine vb ?_;refine rk [0,1,2,6,11,12,13,14] ?_;refine .seq ?_
  rcases brc h with ⟨hc,h⟩|⟨hc,h⟩
  ·refine cnt (dT hc) ?_
   refine .sk ?_;refine .seq ?_;refine .block ?_;refine .sr ?_;refine va ?_
   obtain ⟨x4,g4,h⟩:=bnd h
   obtain ⟨n4,p04,q4⟩:=Ah g4
   refine vk (vix n4 p04 (CD q4) rfl CF) ?_;refine vk (Ar AT Az) ?_;refine vk (van (Ak CO) CL) ?_;refine asd ?_
   refine stn ?_ Az (by decide)
   refine rk [0,1,2,6,7,8,11,12,13] ?_;refine .seq ?_;refine .sr ?_;refine va ?_;refine va ?_;refine vk (A5 (Au _) (BS _) BO) ?_;refine vb ?_;refine rk [0,1,2,6,7,8,11,12,13,21] ?_
   rcases brc h with ⟨hc,h⟩|⟨hc,h⟩
   ·refine cnt (dT hc) ?_
    refine .sr ?_;refine ar [0,1,2,6,7,8,11,12,13] ?_;refine .ret ?_
    cases h
    exact ⟨rfl,rfl⟩
   refine cnf (dF hc) ?_;refine .sk ?_;refine .sr ?_;refine va ?_;refine va ?_
   obtain ⟨x5,g5,h⟩:=bnd h
   obtain ⟨n5,p05,q5⟩:=Ah g5
   refine vk (vix n5 p05 (CD q5) rfl CF) ?_;refine vk (Ar AT Az) ?_;refine vk (van (Ak CO) CL) ?_
   refine stn ?_ Az (by decide)
   refine rk [0,1,2,6,8,9,11,12,13] ?_;refine .sr ?_;refine va ?_;refine vk (D7 AT Az) ?_;refine vk (D7 AT Az) ?_
   obtain ⟨x6,g6,h⟩:=bnd h
   refine vk (Mu (oa2 _ _ g6)) ?_;refine ar [0,1,2,6,10,11,12,13] ?_;refine .sr ?_;refine va ?_;refine vb ?_;refine rk [0,1,2,6,10,11,12,13,31] ?_
   rcases brc h with ⟨hc,h⟩|⟨hc,h⟩
   ·refine cnf (ntf (dT hc)) ?_
    refine .sk ?_;refine .region ?_;refine vb ?_;refine va ?_;refine .nil ?_;refine AL.gk [0,1,2,6,11,12,13] ?_
    exact ih (k,s2,(w64 (s3+1))) h (Nat.lt_succ_self _)
   refine cnt (ntt (dF hc)) ?_;refine .sr ?_;refine va ?_;refine ar [0,1,2,6,11,12,13] ?_;refine .ret ?_
   cases h
   exact ⟨rfl,rfl⟩
  refine cnf (dF hc) ?_;refine .gk [0,1,6] ?_;refine .exit ?_
  exact jr (s2) h
 rintro z1 h
 try dsimp only at h ⊢
 subst hK0
 refine aw ?_;refine .seq ?_;refine .sr ?_;refine va ?_;refine vk (A5 (Au _) (BS _) BO) ?_;refine va ?_;refine vk (A5 (Au _) (BS _) BO) ?_;refine vb ?_;refine rk [6,38] ?_
 rcases brc h with ⟨hc,h⟩|⟨hc,h⟩
 ·refine cnt (dT hc) ?_
  refine .sr ?_;refine ar [6] ?_;refine .ret ?_
  cases h
  exact ⟨rfl,rfl⟩
 refine cnf (dF hc) ?_;refine .sk ?_;refine .sr ?_;refine ar [6] ?_;refine .ret ?_
 cases h
 exact ⟨rfl,rfl⟩
def HC (rc_pick_order:Itm→Itm→Option (Int)) (a0:Itm) (a1:Itm) : Option (Int):=(if a0.kind=a1.kind then (if a0.kind=1 then ((FN a0.num a1.num).bind fun x1=>(some (x1))) else (if a0.kind=2 then ((Dn a0.char a1.char).bind fun x2=>(some (x2))) else ((rd? a0.box 0).bind fun x3=>((rd? a1.box 0).bind fun x4=>((C7 ((List.length x3.shape:Nat) : Int) ((List.length x4.shape:Nat) : Int)).bind fun x5=>((B8 x3.shape x4.shape).bind fun x6=>((Ay x3.items x4.items (⟨.fn 83 [] [],fun x=>rc_pick_order x.1 x.2⟩ : CC)).bind fun x7=>((Gx ([x5,x6,x7])).bind fun x8=>(some (x8)))))))))) else ((BK a0.kind a1.kind).bind fun x9=>(some (x9))))
theorem Pq {rc_pick_order:Itm→Itm→Option (Int)} (orc_pick_order:∀ x0 x1 r,rc_pick_order x0 x1=some r→Fn Tryz.prog 83 [.ag [.i .u8 x0.kind,.b x0.num.1,.sl (L x0.num.2.1),.sl (L x0.num.2.2),.i .i32 x0.char,.sl (Ars x0.box)],.ag [.i .u8 x1.kind,.b x1.num.1,.sl (L x1.num.2.1),.sl (L x1.num.2.2),.i .i32 x1.char,.sl (Ars x1.box)]] (.d (.i .i64 r))) {a0:Itm} {a1:Itm} {r:Int} (h:HC rc_pick_order a0 a1=some r) :
  Fn Tryz.prog 83 [.ag [.i .u8 a0.kind,.b a0.num.1,.sl (L a0.num.2.1),.sl (L a0.num.2.2),.i .i32 a0.char,.sl (Ars a0.box)],.ag [.i .u8 a1.kind,.b a1.num.1,.sl (L a1.num.2.1),.sl (L a1.num.2.2),.i .i32 a1.char,.sl (Ars a1.box)]] (.d (.i .i64 r)):=by
 unfold HC at h
 refine Fn.o1 4 60 Tryz.func83 ?_;refine .sr ?_;refine vk vbx ?_;refine vk vbx ?_;refine ar [2,3,4] ?_;refine .seq ?_;refine .sr ?_;refine vk (vfa Cs) ?_;refine vk (Ao Bg) ?_;refine vk (vfa Cs) ?_;refine vk (Ao Bg) ?_;refine vb ?_;refine rk [2,3,4,11] ?_
 rcases brc h with ⟨hc,h⟩|⟨hc,h⟩
 ·refine cnf (ntf (dT hc)) ?_
  refine .sk ?_;refine .seq ?_;refine .sr ?_;refine vk (vfa Cs) ?_;refine vk (Ao Bg) ?_;refine rk [2,3,4,18] ?_;refine .block ?_;refine .sr ?_;refine vb ?_;refine ar [2,3,4,18,19] ?_
  rcases brc h with ⟨hc,h⟩|⟨hc,h⟩
  ·refine cnt (dT hc) ?_
   refine .sr ?_;refine vk (vfa BI) ?_;refine vk (Ar A0 AE) ?_;refine vk (vfa BI) ?_;refine vk (Ar A0 AE) ?_
   obtain ⟨x1,g1,h⟩:=bnd h
   refine vk (Al (MX g1) Tryz.call141) ?_;refine ar [2,3,4] ?_;refine .ret ?_
   cases h
   exact ⟨rfl,rfl⟩
  refine cnf (dF hc) ?_;refine .sr ?_;refine vb ?_;refine ar [2,3,4,26] ?_
  rcases brc h with ⟨hc,h⟩|⟨hc,h⟩
  ·refine cnt (dT hc) ?_
   refine .sr ?_;refine vk (vfa Ep) ?_;refine vk (Ao Ex) ?_;refine vk (vfa Ep) ?_;refine vk (Ao Ex) ?_
   obtain ⟨x2,g2,h⟩:=bnd h
   refine vk (Al (JK g2) Tryz.call142) ?_;refine ar [2,3,4] ?_;refine .ret ?_
   cases h
   exact ⟨rfl,rfl⟩
  refine cnf (dF hc) ?_;refine .sk ?_;refine .seq ?_
  obtain ⟨x3,g3,h⟩:=bnd h
  obtain ⟨x4,g4,h⟩:=bnd h
  refine .drawnF 10 [4,5,6,7] [(5,.nb [.sl (Is x3.shape),.sl (Its x3.items)])] [] A6 (by kernel_rfl) rfl ?_;refine dv (vfa BM) ?_;refine dv (Ao C4) ?_
  obtain ⟨n3,p03,q3⟩:=Ah g3
  refine dv (vix n3 p03 (Eb q3) rfl Ea) ?_;refine dv (Ar Ag Ab) ?_;refine dv (vfa BM) ?_;refine dv (Ao C4) ?_
  obtain ⟨n4,p04,q4⟩:=Ah g4
  refine dv (vix n4 p04 (Eb q4) rfl Ea) ?_;refine dv (Ar Ag Ab) ?_;refine dv (van (Ak AK) AP) ?_;refine dv (van (Ak AK) AP) ?_;refine dz ?_
  refine ⟨?_,?_,?_⟩
  ·intro k hk
   simp only [List.mem_cons,List.not_mem_nil,or_false] at hk
   rcases hk with rfl|rfl|rfl|rfl
   ·exact ⟨_,_,_,rfl,rfl,rfl,rfl,rfl,rfl,(vfa BM)⟩
   ·exact ⟨_,_,_,rfl,rfl,rfl,rfl,rfl,rfl,(Ao C4)⟩
   ·exact ⟨_,_,_,rfl,rfl,rfl,rfl,rfl,rfl,(vix n4 p04 (Eb q4) rfl Ea)⟩
   ·exact ⟨_,_,_,rfl,rfl,rfl,rfl,rfl,rfl,(Ar Ag Ab)⟩
  ·intro om e hom hge
   cases hom
   exact GM (cs:=[.sl (Is []),.sl (Its [])]) (cs':=[.sl (Is x3.shape),.sl (Its x3.items)]) Ab (by decide) rfl ((hge 5 (fun k hk v hv=>by
     simp only [List.mem_cons,List.not_mem_nil,or_false] at hk
     rcases hk with rfl|rfl|rfl|rfl
     ·exact (by decide:¬(some 37=some 5)) (congrArg (Option.map Prod.fst) hv)
     ·exact (by decide:¬(some 38=some 5)) (congrArg (Option.map Prod.fst) hv)
     ·exact (by decide:¬(some 39=some 5)) (congrArg (Option.map Prod.fst) hv)
     ·exact (by decide:¬(some 40=some 5)) (congrArg (Option.map Prod.fst) hv))).trans rfl) ((congrArg Bh (hge 36 (fun k hk v hv=>by
     simp only [List.mem_cons,List.not_mem_nil,or_false] at hk
     rcases hk with rfl|rfl|rfl|rfl
     ·exact (by decide:¬(some 37=some 36)) (congrArg (Option.map Prod.fst) hv)
     ·exact (by decide:¬(some 38=some 36)) (congrArg (Option.map Prod.fst) hv)
     ·exact (by decide:¬(some 39=some 36)) (congrArg (Option.map Prod.fst) hv)
     ·exact (by decide:¬(some 40=some 36)) (congrArg (Option.map Prod.fst) hv)))).trans rfl) rfl rfl rfl rfl ⟨rfl,rfl⟩
  refine stn ?_ Ab (by decide)
  refine rk [4,5,6] ?_;refine .seq ?_;refine .gh (Gh.nbp (t:=5) rfl) ?_;refine .gh (Gh.nbp (t:=6) rfl) ?_;refine .drawn 19 A6 (by kernel_rfl) ?_;refine dv (vfa A7) ?_;refine dv (Ao CG) ?_;refine dv (A5 (Af _) (Da _) CU) ?_;refine dv (vfa A7) ?_;refine dv (Ao CG) ?_;refine dv (A5 (Af _) (Da _) CU) ?_
  obtain ⟨x5,g5,h⟩:=bnd h
  refine dv (Al (Gv g5) Tryz.call144) ?_;refine dv (vfa A7) ?_;refine dv (Ao CG) ?_;refine dv (vfa A7) ?_;refine dv (Ao CG) ?_
  obtain ⟨x6,g6,h⟩:=bnd h
  refine dv (Al (GU g6) Tryz.call145) ?_;refine dv (vfa AU) ?_;refine dv (Ao BX) ?_;refine dv (vfa AU) ?_;refine dv (Ao BX) ?_
  obtain ⟨x7,g7,h⟩:=bnd h
  refine dv (Al (Cn (J4 Tryz.call83 (fun _ _ h=>orc_pick_order _ _ _ h)) g7) Tryz.call146) ?_;refine dv ((E1 (DZ [x5,x6,x7]) DN).deep) ?_
  obtain ⟨x8,g8,h⟩:=bnd h
  refine dv (Al (N3 g8) Tryz.call143) ?_;refine dz ?_;refine ar [4] ?_;refine .ret ?_
  cases h
  exact ⟨rfl,rfl⟩
 refine cnt (ntt (dF hc)) ?_;refine .sr ?_;refine vk (vfa Cs) ?_;refine vk (Ao Bg) ?_;refine vk (vfa Cs) ?_;refine vk (Ao Bg) ?_
 obtain ⟨x9,g9,h⟩:=bnd h
 refine vk (Al (F9 g9) Tryz.call140) ?_;refine ar [2,3,4] ?_;refine .ret ?_
 cases h
 exact ⟨rfl,rfl⟩
def Fq : Nat→Itm→Itm→Option (Int)
 | 0,_,_=>none
 | k+1,a0,a1=>HC (Fq k) a0 a1
theorem JL : ∀ (k:Nat) (a0:Itm) (a1:Itm) (r:Int),Fq k a0 a1=some r→Fn Tryz.prog 83 [.ag [.i .u8 a0.kind,.b a0.num.1,.sl (L a0.num.2.1),.sl (L a0.num.2.2),.i .i32 a0.char,.sl (Ars a0.box)],.ag [.i .u8 a1.kind,.b a1.num.1,.sl (L a1.num.2.1),.sl (L a1.num.2.2),.i .i32 a1.char,.sl (Ars a1.box)]] (.d (.i .i64 r))
 | 0,_,_,_,h=>by cases h
 | k+1,a0,a1,_,h=>Pq (JL k)  (show HC (Fq k) a0 a1=some _ from h)
def KW (a0:Itm) (a1:Itm) : Option (Int):=Fq (a0.size+1) a0 a1
theorem L5 {a0:Itm} {a1:Itm} {r:Int} (h:KW a0 a1=some r) : Fn Tryz.prog 83 [.ag [.i .u8 a0.kind,.b a0.num.1,.sl (L a0.num.2.1),.sl (L a0.num.2.2),.i .i32 a0.char,.sl (Ars a0.box)],.ag [.i .u8 a1.kind,.b a1.num.1,.sl (L a1.num.2.1),.sl (L a1.num.2.2),.i .i32 a1.char,.sl (Ars a1.box)]] (.d (.i .i64 r)):=JL _ a0 a1 r  h
def Fw (a0:Itm) (a1:Itm) : Option (Int):=((DC a0).bind fun x1=>(Option.bind ((if ((List.length x1.items:Nat) : Int)=0 then (some true) else ((DC a1).bind fun x3=>(some (decide (((List.length x3.items:Nat) : Int)=0))))) : Option (Bool)) fun (z1:Bool)=>(if z1=true then (some (0)) else ((KW a0 a1).bind fun x4=>(some (x4))))))
theorem N5 {a0:Itm} {a1:Itm} {r:Int} (h:Fw a0 a1=some r) :
  Fn Tryz.prog 30 [.ag [.i .u8 a0.kind,.b a0.num.1,.sl (L a0.num.2.1),.sl (L a0.num.2.2),.i .i32 a0.char,.sl (Ars a0.box)],.ag [.i .u8 a1.kind,.b a1.num.1,.sl (L a1.num.2.1),.sl (L a1.num.2.2),.i .i32 a1.char,.sl (Ars a1.box)]] (.d (.i .i64 r)):=by
 unfold Fw at h
 refine Fn.o1 4 20 Tryz.func30 ?_;refine .sr ?_;refine vk vbx ?_;refine vk vbx ?_;refine ar [2,3,4] ?_;refine .seq ?_;refine .seq ?_
 obtain ⟨x1,g1,h⟩:=bnd h
 obtain ⟨z1,hz,h⟩:=bnd h
 refine AW.mr (σ:=Unit) (fun _=>True) (fun _=>[(2,.d (.ptr [.i .u8 a0.kind,.b a0.num.1,.sl (L a0.num.2.1),.sl (L a0.num.2.2),.i .i32 a0.char,.sl (Ars a0.box)])),(3,.d (.ptr [.i .u8 a1.kind,.b a1.num.1,.sl (L a1.num.2.1),.sl (L a1.num.2.2),.i .i32 a1.char,.sl (Ars a1.box)])),(4,.d (.i .i64 0)),(16,.d (.b z1))]) (fun _=>[]) ?_ ?_
 ·skip
  refine .region ?_;refine vk (Ar AT Az) ?_;refine vk (Al (JZ g1) Tryz.call26) ?_;refine vk (Yf AU NE) ?_;refine vk (A5 (Au _) (BS _) BO) ?_;refine vb ?_
  rcases brc hz with ⟨hc,hz⟩|⟨hc,hz⟩
  ·have hb0:(decide (((List.length x1.items:Nat):Int)=0))=true:=(dT hc)
   refine vL hb0 ?_;refine gf4 ?_;refine gf ?_;refine vk Ap ?_;refine RL.gk [2,3,4,16] ?_;refine .nil ?_
   cases hz
   exact jr () trivial
  have hb0:(decide (((List.length x1.items:Nat):Int)=0))=false:=(dF hc)
  refine vL hb0 ?_;refine vk (Ar AT Az) ?_
  obtain ⟨x3,g3,hz⟩:=bnd hz
  refine vk (Al (JZ g3) Tryz.call26) ?_;refine vk (Yf AU NE) ?_;refine vk (A5 (Au _) (BS _) BO) ?_;refine vb ?_;refine vk Ap ?_;refine RL.gk [2,3,4,16] ?_;refine .nil ?_
  cases hz
  exact jr () trivial
 rintro _ _
 rcases brc h with ⟨hc,h⟩|⟨hc,h⟩
 ·refine cnt hc ?_
  refine .sr ?_;refine ar [2,3,4] ?_;refine .ret ?_
  cases h
  exact ⟨rfl,rfl⟩
 refine cnf (bf hc) ?_;refine .sk ?_;refine .sr ?_;refine vk (Ar AT Az) ?_;refine vk (Ar AT Az) ?_
 obtain ⟨x4,g4,h⟩:=bnd h
 refine vk (Al (L5 g4) Tryz.call83) ?_;refine ar [4] ?_;refine .ret ?_
 cases h
 exact ⟨rfl,rfl⟩
def I6 (a0:Int) : Option (Itm):=((D5 a0).bind fun x1=>(some ((Itm.mk 1 x1 0 []))))
theorem ND {a0:Int} {r:Itm} (h:I6 a0=some r) :
  Fn Tryz.prog 101 [.i .i64 a0] (.d (.ag [.i .u8 r.kind,.b r.num.1,.sl (L r.num.2.1),.sl (L r.num.2.2),.i .i32 r.char,.sl (Ars r.box)])):=by
 unfold I6 at h
 refine Fn.ofC (rs:=[.cell 2 51]) (nt:=6) Tryz.func101 rfl rfl rfl (by simp) rfl ?_;refine .sr ?_;refine vk (van (Ak CO) CL) ?_;refine rk [0,2] ?_;refine .sr ?_;refine va ?_
 obtain ⟨x1,g1,h⟩:=bnd h
 refine vk (Al (EV g1) Tryz.call37) ?_;refine vk (vbd Kk CO CL) ?_
 refine stn ?_ Az (by decide)
 refine rk [2] ?_;refine .ret ?_
 cases h
 exact ⟨_,⟨.inr rfl,AT,Az,p6⟩,rfl⟩
def DG (a0:Int) (a1:Int) (c0:Int) (c1:(List Itm)) (c2:(Int×RT×Int)) : Option (Int):=((rd? c1 (w64 (a0-c2.1))).bind fun x1=>((rd? c1 (w64 (a1-c2.1))).bind fun x2=>((KW x1 x2).bind fun x3=>(some ((w64 (c0 * x3)))))))
theorem Mg {a0:Int} {a1:Int} {c0:Int} {c1:(List Itm)} {c2:(Int×RT×Int)} {r:Int} (h:DG a0 a1 c0 c1 c2=some r) :
  Fn Tryz.prog 128 [.i .i64 a0,.i .i64 a1,.ptr [.i .i64 c0],.ptr [.sl (Its c1)],.ptr [.i .i64 c2.1,.b c2.2.1.1,.sl (L c2.2.1.2.1),.sl (L c2.2.1.2.2),.i .i64 c2.2.2]] (.d (.i .i64 r)):=by
 unfold DG at h
 refine Fn.o1 7 25 Tryz.func128 ?_;refine .sr ?_;refine ar [0,1,2,3,4,7] ?_;refine .seq ?_;refine .drawn 17 A6 (by kernel_rfl) ?_;refine dv (Ao AJ) ?_;refine dv (Ao BX) ?_;refine dv Ae ?_;refine dv (vfa F8) ?_;refine dv (Ao AJ) ?_;refine dv vbi ?_
 obtain ⟨x1,g1,h⟩:=bnd h
 obtain ⟨n1,p01,q1⟩:=Ah g1
 refine dv (vix n1 p01 (CD q1) rfl CF) ?_;refine dv (Ar AT Az) ?_;refine dv (Ao BX) ?_;refine dv Ae ?_;refine dv (vfa F8) ?_;refine dv (Ao AJ) ?_;refine dv vbi ?_
 obtain ⟨x2,g2,h⟩:=bnd h
 obtain ⟨n2,p02,q2⟩:=Ah g2
 refine dv (vix n2 p02 (CD q2) rfl CF) ?_;refine dv (Ar AT Az) ?_
 obtain ⟨x3,g3,h⟩:=bnd h
 refine dv (Al (L5 g3) Tryz.call83) ?_;refine dv vbi ?_;refine dz ?_;refine ar [7] ?_;refine .ret ?_
 cases h
 exact ⟨rfl,rfl⟩
def CT (a0:(Int×RT×Int)) (a1:(List Itm)) (K0:(List Int)→Option (Arr)) : Nat→(List Int)→Int→Option (Arr)
 | 0,_,_=>none
 | k+1,s3,s4=>(if s4<((List.length (List.replicate (Int.toNat ((List.length a1:Nat):Int)) (0:Int)):Nat):Int) then ((rd? s3 s4).bind fun x5=>(CT a0 a1 K0 k (List.set s3 (Int.toNat s4) (w64 (s4+a0.1))) (w64 (s4+1)))) else (K0 s3))
def EH (a0:(Int×RT×Int)) (a1:(List Itm)) (a2:Int) : Option (Arr):=((GV (0≤((List.length a1:Nat) : Int)∧((List.length a1:Nat) : Int)≤17592186044416)).bind fun x1=>(jn (fun (z2:(List Int))=>((Jq z2 (⟨.fn 128 [] [.ptr [.i .i64 a2],.ptr [.sl (Its a1)],.ptr [.i .i64 a0.1,.b a0.2.1.1,.sl (L a0.2.1.2.1),.sl (L a0.2.1.2.2),.i .i64 a0.2.2]],fun x=>DG x.1 x.2 a2 a1 a0⟩ : Ad)).bind fun x6=>((GF x6).bind fun x7=>(some (x7))))) fun K0=>(CT a0 a1 K0 As (List.replicate (Int.toNat ((List.length a1:Nat) : Int)) (0:Int)) 0)))
theorem Of {a0:(Int×RT×Int)} {a1:(List Itm)} {a2:Int} {r:Arr} (h:EH a0 a1 a2=some r) :
  Fn Tryz.prog 70 [.ag [.i .i64 a0.1,.b a0.2.1.1,.sl (L a0.2.1.2.1),.sl (L a0.2.1.2.2),.i .i64 a0.2.2],.sl (Its a1),.i .i64 a2] (.d (.ag [.sl (Is r.shape),.sl (Its r.items)])):=by
 unfold EH at h
 refine Fn.ofC (rs:=[.cell 6 27]) (nt:=30) Tryz.func70 rfl rfl rfl (by simp) rfl ?_;refine .sr ?_;refine vk vbx ?_;refine vk Yr ?_;refine vk Yr ?_;refine vk (van (Ak AK) AP) ?_;refine rk [3,4,5,6] ?_;refine .sr ?_;refine vk (Ao BX) ?_;refine vk (A5 (Au _) (BS _) BO) ?_
 obtain ⟨x1,g1,h⟩:=bnd h
 have ghx1:=Ik g1
 refine mk' (F:=Is) (x0:=0) (zl:=((List.length a1:Nat):Int)) (Int.toNat ((List.length a1:Nat):Int)) VW (by omega) (by omega) ?_ DN (by decide)
 refine aso ?_;refine rk [3,4,5,6,7] ?_;refine .seq ?_;refine .sr ?_;refine mvo ?_;refine vk (QX (Af _) CU) ?_;refine va ?_;refine rk [3,4,5,6,7,13,14] ?_
 obtain ⟨K0,hK0,h⟩:=AH h
 refine AW.mr (σ:=(List Int)) (fun p=>K0 p=some r) (fun p=>[(3,.d (.ptr [.i .i64 a0.1,.b a0.2.1.1,.sl (L a0.2.1.2.1),.sl (L a0.2.1.2.2),.i .i64 a0.2.2])),(4,.d (.ptr [.sl (Its a1)])),(5,.d (.ptr [.i .i64 a2])),(6,.nb [.sl (Is []),.sl (Its [])]),(7,.own 3 (Is p))]) (fun p=>[]) ?_ ?_
 ·skip
  refine .block ?_
  refine .loop (.gk [3,4,5,6,7,13,14] ?_)
  refine AL.ind (σ:=Nat×(List Int)×Int) (m:=fun p=>p.1) (e:=fun p=>[(3,.d (.ptr [.i .i64 a0.1,.b a0.2.1.1,.sl (L a0.2.1.2.1),.sl (L a0.2.1.2.2),.i .i64 a0.2.2])),(4,.d (.ptr [.sl (Its a1)])),(5,.d (.ptr [.i .i64 a2])),(6,.nb [.sl (Is []),.sl (Its [])]),(7,.own 3 (Is p.2.1)),(13,.d (.i .i64 ((List.length (List.replicate (Int.toNat ((List.length a1:Nat):Int)) (0:Int)):Nat):Int))),(14,.d (.i .i64 p.2.2))]) (h:=fun p=>[]) (I:=fun p=>CT a0 a1 K0 p.1 p.2.1 p.2.2=some r) ?_ (As,(List.replicate (Int.toNat ((List.length a1:Nat):Int)) (0:Int)),0) h
  rintro ⟨k,s3,s4⟩ h ih
  dsimp only at h ih ⊢
  rcases k with _|k
  ·rw [CT] at h;cases h
  rw [CT] at h
  refine .sr ?_;refine vb ?_;refine rk [3,4,5,6,7,13,14,15] ?_;refine .seq ?_
  rcases brc h with ⟨hc,h⟩|⟨hc,h⟩
  ·refine cnt (dT hc) ?_
   refine .sk ?_;refine .seq ?_;refine .block ?_;refine .sr ?_;refine va ?_;refine ar [3,4,5,6,7,8,13,14] ?_;refine .region ?_;refine mvo ?_;refine va ?_;refine va ?_;refine vk (vfa F8) ?_;refine vk (Ao AJ) ?_;refine vb ?_
   obtain ⟨x5,g5,h⟩:=bnd h
   obtain ⟨n5,p05,q5⟩:=Ah g5
   refine ixr (off:=0) (len:=(Is s3).length) n5 p05 (by rw [Af];exact (lS.1 q5).1) ?_ Bt (by decide)
   refine Ur (F:=Is) (D:=fun x=>.i .i64 x) Hm (us:=s3) (n:=n5) (m:=Int.toNat s4) (x:=(w64 (s4+a0.1))) (by rw [p05];rfl) ⟨_,by rw [Nat.zero_add];exact BJ q5,rfl⟩ ?_ Dg
   refine RL.gk [3,4,5,6,7,8,13,14,17,18,19,20,21,22] ?_;refine .nil ?_;refine aw ?_;refine .gk [3,4,5,6,7,13,14] ?_;refine .region ?_;refine vb ?_;refine va ?_;refine .nil ?_;refine AL.gk [3,4,5,6,7,13,14] ?_
   exact ih (k,(List.set s3 (Int.toNat s4) (w64 (s4+a0.1))),(w64 (s4+1))) h (Nat.lt_succ_self _)
  refine cnf (dF hc) ?_;refine .gk [3,4,5,6,7] ?_;refine .exit ?_
  exact jr (s3) h
 rintro z2 h
 try dsimp only at h ⊢
 subst hK0
 refine aw ?_;refine .sr ?_;refine mvo ?_;refine vk ZE ?_
 obtain ⟨x6,g6,h⟩:=bnd h
 refine Mr (Is x6) ?_ (R4 (J4 Tryz.call128 (fun _ _ h=>Mg h)) g6) Tryz.call127
 refine RL.gk [3,4,5,6,7,26,27] ?_;refine rk [6,7] ?_;refine .sr ?_;refine fz (p:=.t 7) ?_;refine va ?_
 obtain ⟨x7,g7,h⟩:=bnd h
 refine vk (Al (Gq g7) Tryz.call15) ?_
 refine stn ?_ Ab (by decide)
 refine rk [6] ?_;refine .ret ?_
 cases h
 exact ⟨_,⟨.inr rfl,Ag,Ab,p2⟩,rfl⟩
def Dc (a0:(Int×RT×Int)) (x6:Int×Bool) (K0:(List Int)→Option (Arr×Int)) : Nat→(List Int)→Int→Option (Arr×Int)
 | 0,_,_=>none
 | k+1,s9,s10=>(if s10<((List.length (List.replicate (Int.toNat x6.1) (0:Int)):Nat):Int) then ((rd? s9 s10).bind fun x11=>(Dc a0 x6 K0 k (List.set s9 (Int.toNat s10) (w64 (s10+a0.1))) (w64 (s10+1)))) else (K0 s9))
def HA (a0:(Int×RT×Int)) (a1:Arr) : Option (Arr×Int):=((CB a1.shape).bind fun x1=>(if 1<((List.length a1.shape:Nat) : Int) then (some ((Arr.mk [] []),4)) else (if x1.1=1 then ((rd? a1.items 0).bind fun x2=>(Option.bind ((if x2.kind=1 then ((Fu x2.num).bind fun x4=>(if x4=true then ((FH x2.num).bind fun x5=>(some (decide (x5<0)))) else (some true))) else (some true)) : Option (Bool)) fun (z3:Bool)=>(if z3=true then (some ((Arr.mk [] []),3)) else ((FX x2.num).bind fun x6=>(if ((!x6.2)||(decide (4096<x6.1)))=true then (some ((Arr.mk [] []),8)) else ((GV (0≤x6.1∧x6.1≤17592186044416)).bind fun x7=>(jn (fun (z8:(List Int))=>((GF z8).bind fun x12=>(some (x12,0)))) fun K0=>(Dc a0 x6 K0 As (List.replicate (Int.toNat x6.1) (0:Int)) 0)))))))) else (some ((Arr.mk [] []),5)))))
theorem PK {a0:(Int×RT×Int)} {a1:Arr} {r:Arr×Int} (h:HA a0 a1=some r) :
  Fn Tryz.prog 71 [.ag [.i .i64 a0.1,.b a0.2.1.1,.sl (L a0.2.1.2.1),.sl (L a0.2.1.2.2),.i .i64 a0.2.2],.ag [.sl (Is a1.shape),.sl (Its a1.items)]] (.tup [.d (.ag [.sl (Is r.1.shape),.sl (Its r.1.items)]),.d (.i .i64 r.2)]):=by
 unfold HA at h
 refine Fn.ofC (rs:=[.cell 4 27,.tmp 5]) (nt:=78) Tryz.func71 rfl rfl rfl (by simp) rfl ?_;refine .sr ?_;refine vk vbx ?_;refine vk vbx ?_;refine vk (van (Ak AK) AP) ?_;refine ar [2,3,4,5] ?_;refine .sr ?_;refine vk (vfa A7) ?_;refine vk (Ao CG) ?_
 obtain ⟨x1,g1,h⟩:=bnd h
 refine vk (VOK.tupd (vs:=[.i .i64 x1.1,.i .i64 x1.2]) (Al (DS g1) Tryz.call56)) ?_;refine va ?_;refine vk vex ?_;refine vk vex ?_;refine asd ?_;refine ar [2,3,4,5,6] ?_;refine .seq ?_;refine .block ?_;refine .sr ?_;refine vk (vfa A7) ?_;refine vk (Ao CG) ?_;refine vk (A5 (Af _) (Da _) CU) ?_;refine vb ?_;refine ar [2,3,4,5,6,18] ?_
 rcases brc h with ⟨hc,h⟩|⟨hc,h⟩
 ·refine cnt (dT hc) ?_
  refine .sr ?_;refine vk (vbd CJ AK AP) ?_
  refine stn ?_ Ab (by decide)
  refine ar [2,3,4,5] ?_;refine .ret ?_
  cases h
  exact ⟨_,_,⟨.inr rfl,Ag,Ab,p2⟩,rfl,rfl⟩
 refine cnf (dF hc) ?_;refine .sr ?_;refine va ?_;refine vb ?_;refine ar [2,3,4,5,24] ?_
 rcases brc h with ⟨hc,h⟩|⟨hc,h⟩
 ·refine cnf (ntf (dT hc)) ?_
  refine .sk ?_;refine .sr ?_;refine vk (vfa AU) ?_;refine vk (Ao BX) ?_
  obtain ⟨x2,g2,h⟩:=bnd h
  obtain ⟨n2,p02,q2⟩:=Ah g2
  refine vk (vix n2 p02 (CD q2) rfl CF) ?_;refine vk (Ar AT Az) ?_;refine vk (van (Ak CO) CL) ?_
  refine stn ?_ Az (by decide)
  refine rk [2,4,5,8] ?_;refine .seq ?_;refine .seq ?_;refine .gh (Gh.nbp (t:=8) rfl) ?_
  obtain ⟨z3,hz,h⟩:=bnd h
  refine AW.mr (σ:=Unit) (fun _=>True) (fun _=>[(2,.d (.ptr [.i .i64 a0.1,.b a0.2.1.1,.sl (L a0.2.1.2.1),.sl (L a0.2.1.2.2),.i .i64 a0.2.2])),(4,.nb [.sl (Is []),.sl (Its [])]),(5,.d (.i .i64 0)),(8,.d (.ptr [.i .u8 x2.kind,.b x2.num.1,.sl (L x2.num.2.1),.sl (L x2.num.2.2),.i .i32 x2.char,.sl (Ars x2.box)])),(46,.d (.b z3))]) (fun _=>[]) ?_ ?_
  ·skip
   refine .region ?_;refine vk (vfa Cs) ?_;refine vk (Ao Bg) ?_;refine vb ?_
   rcases brc hz with ⟨hc,hz⟩|⟨hc,hz⟩
   ·have hb0:(!(decide (x2.kind=1)))=false:=(ntf (dT hc))
    refine vL hb0 ?_;refine vk (vfa BI) ?_;refine vk (Ar A0 AE) ?_
    obtain ⟨x4,g4,hz⟩:=bnd hz
    refine vk (Al (Iu g4) Tryz.call129) ?_;refine vk vnt ?_;refine vk Ap ?_
    rcases brc hz with ⟨hc,hz⟩|⟨hc,hz⟩
    ·have hb1:(!x4)=false:=(ntf hc)
     refine vL hb1 ?_;refine vk (vfa BI) ?_;refine vk (Ar A0 AE) ?_
     obtain ⟨x5,g5,hz⟩:=bnd hz
     refine vk (Al (GW g5) Tryz.call130) ?_;refine vb ?_;refine vk Ap ?_;refine RL.gk [2,4,5,8,46] ?_;refine .nil ?_
     cases hz
     exact jr () trivial
    have hb1:(!x4)=true:=(ntt (bf hc))
    refine vL hb1 ?_;refine gf4 ?_;refine vk Ap ?_;refine RL.gk [2,4,5,8,46] ?_;refine .nil ?_
    cases hz
    exact jr () trivial
   have hb0:(!(decide (x2.kind=1)))=true:=(ntt (dF hc))
   refine vL hb0 ?_;refine gf4 ?_;refine vk Ap ?_;refine va ?_;refine gf4 ?_;refine vk Ap ?_;refine RL.gk [2,4,5,8,46] ?_;refine .nil ?_
   cases hz
   exact jr () trivial
  rintro _ _
  rcases brc h with ⟨hc,h⟩|⟨hc,h⟩
  ·refine cnt hc ?_
   refine .sr ?_;refine vk (vbd CJ AK AP) ?_
   refine stn ?_ Ab (by decide)
   refine ar [2,4,5,8] ?_;refine .ret ?_
   cases h
   exact ⟨_,_,⟨.inr rfl,Ag,Ab,p2⟩,rfl,rfl⟩
  refine cnf (bf hc) ?_;refine .sk ?_;refine .sr ?_;refine vk (vfa BI) ?_;refine vk (Ar A0 AE) ?_
  obtain ⟨x6,g6,h⟩:=bnd h
  refine vk (VOK.tupd (vs:=[.i .i64 x6.1,.b x6.2]) (Al (L1 g6) Tryz.call79)) ?_;refine va ?_;refine vk vex ?_;refine vk vex ?_;refine asd ?_;refine ar [2,4,5,6,9] ?_;refine .seq ?_;refine .seq ?_;refine AW.mr (σ:=Unit) (fun _=>True) (fun _=>[(2,.d (.ptr [.i .i64 a0.1,.b a0.2.1.1,.sl (L a0.2.1.2.1),.sl (L a0.2.1.2.2),.i .i64 a0.2.2])),(4,.nb [.sl (Is []),.sl (Its [])]),(5,.d (.i .i64 0)),(6,.d (.i .i64 x6.1)),(59,.d (.b ((!x6.2)||(decide (4096<x6.1)))))]) (fun _=>[]) ?_ ?_
  ·skip
   refine .region ?_;refine va ?_;refine vk vnt ?_
   by_cases hc:x6.2=true
   ·have hb0:(!x6.2)=false:=(ntf hc)
    refine vL hb0 ?_;refine va ?_;refine vb ?_;refine vk Ap ?_;refine RL.gk [2,4,5,6,59] ?_;refine .nil ?_
    exact jr () trivial (by simp only [hb0];rfl)
   have hb0:(!x6.2)=true:=(ntt (bf hc))
   refine vL hb0 ?_;refine gf2 ?_;refine vk Ap ?_;refine RL.gk [2,4,5,6,59] ?_;refine .nil ?_
   exact jr () trivial (by simp only [hb0];rfl)
  rintro _ _
  rcases brc h with ⟨hc,h⟩|⟨hc,h⟩
  ·refine cnt hc ?_
   refine .sr ?_;refine vk (vbd CJ AK AP) ?_
   refine stn ?_ Ab (by decide)
   refine ar [2,4,5,6] ?_;refine .ret ?_
   cases h
   exact ⟨_,_,⟨.inr rfl,Ag,Ab,p2⟩,rfl,rfl⟩
  refine cnf (bf hc) ?_;refine .sk ?_;refine .sr ?_;refine va ?_
  obtain ⟨x7,g7,h⟩:=bnd h
  have ghx7:=Ik g7
  refine mk' (F:=Is) (x0:=0) (zl:=x6.1) (Int.toNat x6.1) VW (by omega) (by omega) ?_ DN (by decide)
  refine aso ?_;refine rk [2,4,5,10] ?_;refine .seq ?_;refine .sr ?_;refine mvo ?_;refine vk (QX (Af _) CU) ?_;refine va ?_;refine rk [2,4,5,10,64,65] ?_
  obtain ⟨K0,hK0,h⟩:=AH h
  refine AW.mr (σ:=(List Int)) (fun p=>K0 p=some r) (fun p=>[(4,.nb [.sl (Is []),.sl (Its [])]),(5,.d (.i .i64 0)),(10,.own 3 (Is p))]) (fun p=>[]) ?_ ?_
  ·skip
   refine .block ?_
   refine .loop (.gk [2,4,5,10,64,65] ?_)
   refine AL.ind (σ:=Nat×(List Int)×Int) (m:=fun p=>p.1) (e:=fun p=>[(2,.d (.ptr [.i .i64 a0.1,.b a0.2.1.1,.sl (L a0.2.1.2.1),.sl (L a0.2.1.2.2),.i .i64 a0.2.2])),(4,.nb [.sl (Is []),.sl (Its [])]),(5,.d (.i .i64 0)),(10,.own 3 (Is p.2.1)),(64,.d (.i .i64 ((List.length (List.replicate (Int.toNat x6.1) (0:Int)):Nat):Int))),(65,.d (.i .i64 p.2.2))]) (h:=fun p=>[]) (I:=fun p=>Dc a0 x6 K0 p.1 p.2.1 p.2.2=some r) ?_ (As,(List.replicate (Int.toNat x6.1) (0:Int)),0) h
   rintro ⟨k,s9,s10⟩ h ih
   dsimp only at h ih ⊢
   rcases k with _|k
   ·rw [Dc] at h;cases h
   rw [Dc] at h
   refine .sr ?_;refine vb ?_;refine rk [2,4,5,10,64,65,66] ?_;refine .seq ?_
   rcases brc h with ⟨hc,h⟩|⟨hc,h⟩
   ·refine cnt (dT hc) ?_
    refine .sk ?_;refine .seq ?_;refine .block ?_;refine .sr ?_;refine va ?_;refine ar [2,4,5,10,11,64,65] ?_;refine .region ?_;refine mvo ?_;refine va ?_;refine va ?_;refine vk (vfa F8) ?_;refine vk (Ao AJ) ?_;refine vb ?_
    obtain ⟨x11,g11,h⟩:=bnd h
    obtain ⟨n11,p011,q11⟩:=Ah g11
    refine ixr (off:=0) (len:=(Is s9).length) n11 p011 (by rw [Af];exact (lS.1 q11).1) ?_ Bt (by decide)
    refine Ur (F:=Is) (D:=fun x=>.i .i64 x) Hm (us:=s9) (n:=n11) (m:=Int.toNat s10) (x:=(w64 (s10+a0.1))) (by rw [p011];rfl) ⟨_,by rw [Nat.zero_add];exact BJ q11,rfl⟩ ?_ Dg
    refine RL.gk [2,4,5,10,11,64,65,68,69,70,71,72,73] ?_;refine .nil ?_;refine aw ?_;refine .gk [2,4,5,10,64,65] ?_;refine .region ?_;refine vb ?_;refine va ?_;refine .nil ?_;refine AL.gk [2,4,5,10,64,65] ?_
    exact ih (k,(List.set s9 (Int.toNat s10) (w64 (s10+a0.1))),(w64 (s10+1))) h (Nat.lt_succ_self _)
   refine cnf (dF hc) ?_;refine .gk [4,5,10] ?_;refine .exit ?_
   exact jr (s9) h
  rintro z8 h
  try dsimp only at h ⊢
  subst hK0
  refine aw ?_;refine .sr ?_;refine fz (p:=.t 10) ?_;refine va ?_
  obtain ⟨x12,g12,h⟩:=bnd h
  refine vk (Al (Gq g12) Tryz.call15) ?_
  refine stn ?_ Ab (by decide)
  refine ar [4,5] ?_;refine .ret ?_
  cases h
  exact ⟨_,_,⟨.inr rfl,Ag,Ab,p2⟩,rfl,rfl⟩
 refine cnt (ntt (dF hc)) ?_;refine .sr ?_;refine vk (vbd CJ AK AP) ?_
 refine stn ?_ Ab (by decide)
 refine ar [2,3,4,5] ?_;refine .ret ?_
 cases h
 exact ⟨_,_,⟨.inr rfl,Ag,Ab,p2⟩,rfl,rfl⟩
def DM (a0:Arr) : Option (Bool):=((Bs a0).bind fun x1=>(some ((!x1))))
theorem IB {a0:Arr} {r:Bool} (h:DM a0=some r) :
  Fn Tryz.prog 96 [.ag [.sl (Is a0.shape),.sl (Its a0.items)]] (.d (.b r)):=by
 unfold DM at h
 refine Fn.o1 2 6 Tryz.func96 ?_;refine .sr ?_;refine vk vbx ?_;refine ar [1,2] ?_;refine .sr ?_;refine vk (Ar Ag Ab) ?_
 obtain ⟨x1,g1,h⟩:=bnd h
 refine vk (Al (CW g1) Tryz.call54) ?_;refine vk vnt ?_;refine ar [2] ?_;refine .ret ?_
 cases h
 exact ⟨rfl,rfl⟩
def Eh (a0:(Int×RT×Int)) (a1:(List Arr)) : Option (Bool):=(Option.bind ((if a0.1=0 then ((AD a1 (⟨.fn 96 [] [],fun x=>DM x⟩ : B3)).bind fun x2=>(some (!x2))) else (if a0.1=1 then ((AD a1 (⟨.fn 96 [] [],fun x=>DM x⟩ : B3)).bind fun x3=>(some (!x3))) else (some false))) : Option (Bool)) fun (z1:Bool)=>(some (z1)))
theorem Hg {a0:(Int×RT×Int)} {a1:(List Arr)} {r:Bool} (h:Eh a0 a1=some r) :
  Fn Tryz.prog 39 [.ag [.i .i64 a0.1,.b a0.2.1.1,.sl (L a0.2.1.2.1),.sl (L a0.2.1.2.2),.i .i64 a0.2.2],.sl (Ars a1)] (.d (.b r)):=by
 unfold Eh at h
 refine Fn.o1 4 18 Tryz.func39 ?_;refine .sr ?_;refine vk vbx ?_;refine ar [1,2,4] ?_;refine .seq ?_
 obtain ⟨z1,hz,h⟩:=bnd h
 refine AW.mr (σ:=Unit) (fun _=>True) (fun _=>[(4,.d (.b z1))]) (fun _=>[]) ?_ ?_
 ·skip
  refine .region ?_;refine vk (vfa F8) ?_;refine vk (Ao AJ) ?_;refine vb ?_
  rcases brc hz with ⟨hc,hz⟩|⟨hc,hz⟩
  ·have hb0:(decide (a0.1=0))=true:=(dT hc)
   refine vL hb0 ?_;refine gf3 ?_;refine vk Ap ?_;refine va ?_;refine va ?_
   obtain ⟨x2,g2,hz⟩:=bnd hz
   refine vk (Al (B6 (J4 Tryz.call96 (fun _ _ h=>IB h)) g2) Tryz.call95) ?_;refine vk vnt ?_;refine vk Ap ?_;refine asd ?_;refine RL.gk [4] ?_;refine .nil ?_
   cases hz
   exact jr () trivial
  have hb0:(decide (a0.1=0))=false:=(dF hc)
  refine vL hb0 ?_;refine vk (vfa F8) ?_;refine vk (Ao AJ) ?_;refine vb ?_;refine vk Ap ?_
  rcases brc hz with ⟨hc,hz⟩|⟨hc,hz⟩
  ·have hb1:(decide (a0.1=1))=true:=(dT hc)
   refine vL hb1 ?_;refine va ?_
   obtain ⟨x3,g3,hz⟩:=bnd hz
   refine vk (Al (B6 (J4 Tryz.call96 (fun _ _ h=>IB h)) g3) Tryz.call95) ?_;refine vk vnt ?_;refine vk Ap ?_;refine asd ?_;refine RL.gk [4] ?_;refine .nil ?_
   cases hz
   exact jr () trivial
  have hb1:(decide (a0.1=1))=false:=(dF hc)
  refine vL hb1 ?_;refine gf3 ?_;refine vk Ap ?_;refine asd ?_;refine RL.gk [4] ?_;refine .nil ?_
  cases hz
  exact jr () trivial
 rintro _ _
 refine .ret ?_
 cases h
 exact ⟨rfl,rfl⟩
def Fb (a0:Itm) : Option (Bool):=(Option.bind ((if a0.kind=1 then ((Fu a0.num).bind fun x2=>(some (!x2))) else (some true)) : Option (Bool)) fun (z1:Bool)=>(some (z1)))
theorem Mj {a0:Itm} {r:Bool} (h:Fb a0=some r) :
  Fn Tryz.prog 182 [.ag [.i .u8 a0.kind,.b a0.num.1,.sl (L a0.num.2.1),.sl (L a0.num.2.2),.i .i32 a0.char,.sl (Ars a0.box)]] (.d (.b r)):=by
 unfold Fb at h
 refine Fn.o1 2 12 Tryz.func182 ?_;refine .sr ?_;refine vk vbx ?_;refine ar [1,2] ?_;refine .seq ?_
 obtain ⟨z1,hz,h⟩:=bnd h
 refine AW.mr (σ:=Unit) (fun _=>True) (fun _=>[(2,.d (.b z1))]) (fun _=>[]) ?_ ?_
 ·skip
  refine .region ?_;refine vk (vfa Cs) ?_;refine vk (Ao Bg) ?_;refine vb ?_
  rcases brc hz with ⟨hc,hz⟩|⟨hc,hz⟩
  ·have hb0:(!(decide (a0.kind=1)))=false:=(ntf (dT hc))
   refine vL hb0 ?_;refine vk (vfa BI) ?_;refine vk (Ar A0 AE) ?_
   obtain ⟨x2,g2,hz⟩:=bnd hz
   refine vk (Al (Iu g2) Tryz.call129) ?_;refine vk vnt ?_;refine vk Ap ?_;refine asd ?_;refine RL.gk [2] ?_;refine .nil ?_
   cases hz
   exact jr () trivial
  have hb0:(!(decide (a0.kind=1)))=true:=(ntt (dF hc))
  refine vL hb0 ?_;refine gf4 ?_;refine vk Ap ?_;refine asd ?_;refine RL.gk [2] ?_;refine .nil ?_
  cases hz
  exact jr () trivial
 rintro _ _
 refine .ret ?_
 cases h
 exact ⟨rfl,rfl⟩
def Dj (a0:(Int×RT×Int)) (a2:Int) (x1:(List Itm)) (K0:(List Int)→Int→(List Int)→Option ((List Int)×Int)) : Nat→(List Int)→Int→(List Int)→Int→Option ((List Int)×Int)
 | 0,_,_,_,_=>none
 | k+1,s6,s7,s8,s9=>(if s9<((List.length x1:Nat):Int) then ((rd? x1 s9).bind fun x10=>((FX x10.num).bind fun x11=>(if ((!x11.2)||((decide (x11.1<a0.1))||(decide (a2≤(w64 (x11.1-a0.1))))))=true then (some ([],6)) else ((ap? 17592186044416 s8 [(w64 (x11.1-a0.1))]).bind fun x12=>(Dj a0 a2 x1 K0 k s6 s7 x12 (w64 (s9+1))))))) else (K0 s6 s7 s8))
def Fi (a0:(Int×RT×Int)) (a1:Arr) (a2:Int) : Option ((List Int)×Int):=((B9 a1).bind fun x1=>((AG x1 (⟨.fn 182 [] [],fun x=>Fb x⟩ : Cl)).bind fun x2=>(if x2=true then (some ([],3)) else (jn (fun (z3:(List Int)) (z4:Int) (z5:(List Int))=>(some (z5,0))) fun K0=>(Dj a0 a2 x1 K0 As [] 0 [] 0)))))
theorem N9 {a0:(Int×RT×Int)} {a1:Arr} {a2:Int} {r:(List Int)×Int} (h:Fi a0 a1 a2=some r) :
  Fn Tryz.prog 133 [.ag [.i .i64 a0.1,.b a0.2.1.1,.sl (L a0.2.1.2.1),.sl (L a0.2.1.2.2),.i .i64 a0.2.2],.ag [.sl (Is a1.shape),.sl (Its a1.items)],.i .i64 a2] (.tup [.d (.sl (Is r.1)),.d (.i .i64 r.2)]):=by
 unfold Fi at h
 refine Fn.of (rs:=[.tmp 6,.tmp 7]) (nt:=55) Tryz.func133 rfl rfl rfl (by simp) rfl ?_;refine .sr ?_;refine vk vbx ?_;refine vk vbx ?_;refine asn ?_;refine ar [2,3,4,6,7] ?_;refine .sr ?_;refine vk (Ar Ag Ab) ?_
 obtain ⟨x1,g1,h⟩:=bnd h
 refine vk (Al (GO g1) Tryz.call46) ?_;refine ar [2,3,6,7,8] ?_;refine .seq ?_;refine .sr ?_;refine va ?_
 obtain ⟨x2,g2,h⟩:=bnd h
 refine vk (Al (Cf (J4 Tryz.call182 (fun _ _ h=>Mj h)) g2) Tryz.call57) ?_;refine rk [2,3,6,7,8,17] ?_
 rcases brc h with ⟨hc,h⟩|⟨hc,h⟩
 ·refine cnt hc ?_
  refine .sr ?_;refine asn ?_;refine ar [2,3,6,7,8] ?_;refine .gh (Gh.nlD (t:=6) rfl) ?_;refine .ret ?_
  cases h
  exact ⟨by decide,rfl,rfl,rfl⟩
 refine cnf (bf hc) ?_;refine .sk ?_;refine .sr ?_;refine asn ?_;refine rk [2,3,6,7,8,9] ?_;refine .seq ?_;refine .sr ?_;refine va ?_;refine vk (A5 (Au _) (BS _) BO) ?_;refine va ?_;refine rk [2,3,6,7,9,18,19,20] ?_
 obtain ⟨K0,hK0,h⟩:=AH h
 refine AW.mr (σ:=(List Int)×Int×(List Int)) (fun p=>K0 p.1 p.2.1 p.2.2=some r) (fun p=>[(6,.d (.sl (Is p.1))),(7,.d (.i .i64 p.2.1)),(9,.own 3 (Is p.2.2))]) (fun p=>[]) ?_ ?_
 ·skip
  refine .block ?_;refine .gh (Gh.nlD (t:=6) rfl) ?_;refine .gh (Gh.nlOwn (t:=9) 3 (by rw [Dg];decide) rfl) ?_
  refine .loop (.gk [2,3,6,7,9,18,19,20] ?_)
  refine AL.ind (σ:=Nat×(List Int)×Int×(List Int)×Int) (m:=fun p=>p.1) (e:=fun p=>[(2,.d (.i .i64 a2)),(3,.d (.ptr [.i .i64 a0.1,.b a0.2.1.1,.sl (L a0.2.1.2.1),.sl (L a0.2.1.2.2),.i .i64 a0.2.2])),(6,.d (.sl (Is p.2.1))),(7,.d (.i .i64 p.2.2.1)),(9,.own 3 (Is p.2.2.2.1)),(18,.d (.sl (Its x1))),(19,.d (.i .i64 ((List.length x1:Nat):Int))),(20,.d (.i .i64 p.2.2.2.2))]) (h:=fun p=>[]) (I:=fun p=>Dj a0 a2 x1 K0 p.1 p.2.1 p.2.2.1 p.2.2.2.1 p.2.2.2.2=some r) ?_ (As,[],0,[],0) h
  rintro ⟨k,s6,s7,s8,s9⟩ h ih
  dsimp only at h ih ⊢
  rcases k with _|k
  ·rw [Dj] at h;cases h
  rw [Dj] at h
  refine .sr ?_;refine vb ?_;refine rk [2,3,6,7,9,18,19,20,21] ?_;refine .seq ?_
  rcases brc h with ⟨hc,h⟩|⟨hc,h⟩
  ·refine cnt (dT hc) ?_
   refine .sk ?_;refine .seq ?_;refine .block ?_;refine .sr ?_
   obtain ⟨x10,g10,h⟩:=bnd h
   obtain ⟨n10,p010,q10⟩:=Ah g10
   refine vk (vix n10 p010 (CD q10) rfl CF) ?_;refine vk (Ar AT Az) ?_;refine vk (van (Ak CO) CL) ?_
   refine stn ?_ Az (by decide)
   refine rk [2,3,6,7,9,11,18,19,20] ?_;refine .seq ?_;refine .gh (Gh.nbp (t:=11) rfl) ?_;refine .region ?_;refine vk (vfa BI) ?_;refine vk (Ar A0 AE) ?_
   obtain ⟨x11,g11,h⟩:=bnd h
   refine vk (VOK.tupd (vs:=[.i .i64 x11.1,.b x11.2]) (Al (L1 g11) Tryz.call79)) ?_;refine va ?_;refine vk vex ?_;refine vk vex ?_;refine asd ?_;refine ar [2,3,6,7,9,12,13,18,19,20] ?_;refine .seq ?_;refine .seq ?_;refine AW.mr (σ:=Unit) (fun _=>True) (fun _=>[(2,.d (.i .i64 a2)),(3,.d (.ptr [.i .i64 a0.1,.b a0.2.1.1,.sl (L a0.2.1.2.1),.sl (L a0.2.1.2.2),.i .i64 a0.2.2])),(6,.d (.sl (Is s6))),(7,.d (.i .i64 s7)),(9,.own 3 (Is s8)),(12,.d (.i .i64 x11.1)),(18,.d (.sl (Its x1))),(19,.d (.i .i64 ((List.length x1:Nat):Int))),(20,.d (.i .i64 s9)),(45,.d (.b ((!x11.2)||((decide (x11.1<a0.1))||(decide (a2≤(w64 (x11.1-a0.1))))))))]) (fun _=>[]) ?_ ?_
   ·skip
    refine .region ?_;refine va ?_;refine vk vnt ?_
    by_cases hc:x11.2=true
    ·have hb0:(!x11.2)=false:=(ntf hc)
     refine vL hb0 ?_;refine va ?_;refine vk (vfa F8) ?_;refine vk (Ao AJ) ?_;refine vb ?_;refine vk Ap ?_
     by_cases hc:x11.1<a0.1
     ·have hb1:(decide (x11.1<a0.1))=true:=(dT hc)
      refine vL hb1 ?_;refine gf4 ?_;refine gf2 ?_;refine vk Ap ?_;refine RL.gk [2,3,6,7,9,12,18,19,20,45] ?_;refine .nil ?_
      exact jr () trivial (by simp only [hb0,hb1];rfl)
     have hb1:(decide (x11.1<a0.1))=false:=(dF hc)
     refine vL hb1 ?_;refine va ?_;refine vk (vfa F8) ?_;refine vk (Ao AJ) ?_;refine vb ?_;refine va ?_;refine vb ?_;refine vk Ap ?_;refine RL.gk [2,3,6,7,9,12,18,19,20,45] ?_;refine .nil ?_
     exact jr () trivial (by simp only [hb0,hb1];rfl)
    have hb0:(!x11.2)=true:=(ntt (bf hc))
    refine vL hb0 ?_;refine gf4 ?_;refine vk Ap ?_;refine va ?_;refine gf4 ?_;refine gf2 ?_;refine vk Ap ?_;refine RL.gk [2,3,6,7,9,12,18,19,20,45] ?_;refine .nil ?_
    exact jr () trivial (by simp only [hb0];rfl)
   rintro _ _
   rcases brc h with ⟨hc,h⟩|⟨hc,h⟩
   ·refine cnt hc ?_
    refine .sr ?_;refine asn ?_;refine ar [2,3,6,7,9,12,18,19,20] ?_;refine .gh (Gh.nlD (t:=6) rfl) ?_;refine .ret ?_
    cases h
    exact ⟨by decide,rfl,rfl,rfl⟩
   refine cnf (bf hc) ?_;refine .sk ?_;refine .region ?_;refine mvo ?_;refine va ?_;refine vk (vfa F8) ?_;refine vk (Ao AJ) ?_;refine vb ?_;refine vk ((E1 (DZ [(w64 (x11.1-a0.1))]) DN).deep) ?_
   obtain ⟨x12,g12,h⟩:=bnd h
   refine Ms Jg g12 L2 ?_ Ix Af DN
   refine aso ?_;refine .nil ?_;refine aw ?_;refine .gk [2,3,6,7,9,18,19,20] ?_;refine .region ?_;refine vb ?_;refine va ?_;refine .nil ?_;refine AL.gk [2,3,6,7,9,18,19,20] ?_
   exact ih (k,s6,s7,x12,(w64 (s9+1))) h (Nat.lt_succ_self _)
  refine cnf (dF hc) ?_;refine .gk [6,7,9] ?_;refine .exit ?_
  exact jr (s6,s7,s8) h
 rintro ⟨z3,z4,z5⟩ h
 try dsimp only at h ⊢
 subst hK0
 refine aw ?_;refine .sr ?_;refine fz (p:=.t 9) ?_;refine va ?_;refine asd ?_;refine ar [6,7] ?_;refine .ret ?_
 cases h
 exact ⟨by decide,rfl,rfl,rfl⟩
def E3 (a0:(List Arr)) : Option (Bool):=(Option.bind ((if 1<((List.length a0:Nat) : Int) then (some true) else (if ((List.length a0:Nat) : Int)=1 then ((rd? a0 0).bind fun x2=>((Bs x2).bind fun x3=>(some (!x3)))) else (some false))) : Option (Bool)) fun (z1:Bool)=>(some (z1)))
theorem Mp {a0:(List Arr)} {r:Bool} (h:E3 a0=some r) :
  Fn Tryz.prog 132 [.sl (Ars a0)] (.d (.b r)):=by
 unfold E3 at h
 refine Fn.o1 2 18 Tryz.func132 ?_;refine .sr ?_;refine ar [0,2] ?_;refine .seq ?_
 obtain ⟨z1,hz,h⟩:=bnd h
 refine AW.mr (σ:=Unit) (fun _=>True) (fun _=>[(2,.d (.b z1))]) (fun _=>[]) ?_ ?_
 ·skip
  refine .region ?_;refine va ?_;refine vk (A5 (BC _) (EI _) EL) ?_;refine vb ?_
  rcases brc hz with ⟨hc,hz⟩|⟨hc,hz⟩
  ·have hb0:(decide (1<((List.length a0:Nat):Int)))=true:=(dT hc)
   refine vL hb0 ?_;refine gf3 ?_;refine gfu ?_;refine gf4 ?_;refine gf2 ?_;refine vk Ap ?_;refine asd ?_;refine RL.gk [2] ?_;refine .nil ?_
   cases hz
   exact jr () trivial
  have hb0:(decide (1<((List.length a0:Nat):Int)))=false:=(dF hc)
  refine vL hb0 ?_;refine va ?_;refine vk (A5 (BC _) (EI _) EL) ?_;refine vb ?_
  rcases brc hz with ⟨hc,hz⟩|⟨hc,hz⟩
  ·have hb1:(decide (((List.length a0:Nat):Int)=1))=true:=(dT hc)
   refine vL hb1 ?_;refine va ?_
   obtain ⟨x2,g2,hz⟩:=bnd hz
   obtain ⟨n2,p02,q2⟩:=Ah g2
   refine vk (vix n2 p02 (Eb q2) rfl Ea) ?_;refine vk (Ar Ag Ab) ?_
   obtain ⟨x3,g3,hz⟩:=bnd hz
   refine vk (Al (CW g3) Tryz.call54) ?_;refine vk vnt ?_;refine vk Ap ?_;refine vk Ap ?_;refine asd ?_;refine RL.gk [2] ?_;refine .nil ?_
   cases hz
   exact jr () trivial
  have hb1:(decide (((List.length a0:Nat):Int)=1))=false:=(dF hc)
  refine vL hb1 ?_;refine gf4 ?_;refine gf ?_;refine vk Ap ?_;refine vk Ap ?_;refine asd ?_;refine RL.gk [2] ?_;refine .nil ?_
  cases hz
  exact jr () trivial
 rintro _ _
 refine .ret ?_
 cases h
 exact ⟨rfl,rfl⟩
def Df (a0:(List (List Arr))) (a1:CM) (K0:Int→Option (Int)) : Nat→Int→Int→Option (Int)
 | 0,_,_=>none
 | k+1,s2,s3=>(if s3<((List.length a0:Nat):Int) then ((rd? a0 s3).bind fun x4=>((a1.g x4).bind fun x5=>(if x5=true then (some (s3)) else (Df a0 a1 K0 k s2 (w64 (s3+1)))))) else (K0 s2))
def HU (a0:(List (List Arr))) (a1:CM) : Option (Int):=(jn (fun (z1:Int)=>(some ((-1)))) fun K0=>(Df a0 a1 K0 As 0 0))
theorem N6 {a0:(List (List Arr))} {a1:CM} (oa1:Lf a1) {r:Int} (h:HU a0 a1=some r) :
  Fn Tryz.prog 181 [.sl (H6 a0),a1.dv] (.d (.i .i64 r)):=by
 unfold HU at h
 refine Fn.o1 4 19 Tryz.func181 ?_;refine .sr ?_;refine ar [0,1,4] ?_;refine .seq ?_;refine .sr ?_;refine va ?_;refine vk (A5 (IT _) (Qf _) PZ) ?_;refine va ?_;refine rk [0,1,4,7,8] ?_
 obtain ⟨K0,hK0,h⟩:=AH h
 refine AW.mr (σ:=Int) (fun p=>K0 p=some r) (fun p=>[(4,.d (.i .i64 p))]) (fun p=>[]) ?_ ?_
 ·skip
  refine .block ?_
  refine .loop (.gk [0,1,4,7,8] ?_)
  refine AL.ind (σ:=Nat×Int×Int) (m:=fun p=>p.1) (e:=fun p=>[(0,.d (.sl (H6 a0))),(1,.d (a1.dv)),(4,.d (.i .i64 p.2.1)),(7,.d (.i .i64 ((List.length a0:Nat):Int))),(8,.d (.i .i64 p.2.2))]) (h:=fun p=>[]) (I:=fun p=>Df a0 a1 K0 p.1 p.2.1 p.2.2=some r) ?_ (As,0,0) h
  rintro ⟨k,s2,s3⟩ h ih
  dsimp only at h ih ⊢
  rcases k with _|k
  ·rw [Df] at h;cases h
  rw [Df] at h
  refine .sr ?_;refine vb ?_;refine rk [0,1,4,7,8,9] ?_;refine .seq ?_
  rcases brc h with ⟨hc,h⟩|⟨hc,h⟩
  ·refine cnt (dT hc) ?_
   refine .sk ?_;refine .seq ?_;refine .block ?_;refine .sr ?_;refine va ?_;refine ar [0,1,4,5,7,8] ?_;refine .sr ?_;refine va ?_;refine va ?_;refine va ?_
   obtain ⟨x4,g4,h⟩:=bnd h
   obtain ⟨n4,p04,q4⟩:=Ah g4
   refine vk (vix n4 p04 (Ts q4) rfl S8) ?_;refine vk (Ao C4) ?_
   obtain ⟨x5,g5,h⟩:=bnd h
   refine vk (Mu (oa1 _ _ g5)) ?_;refine rk [0,1,4,5,7,8,16] ?_
   rcases brc h with ⟨hc,h⟩|⟨hc,h⟩
   ·refine cnt hc ?_
    refine .sr ?_;refine va ?_;refine ar [0,1,4,7,8] ?_;refine .ret ?_
    cases h
    exact ⟨rfl,rfl⟩
   refine cnf (bf hc) ?_;refine .sk ?_;refine .region ?_;refine vb ?_;refine va ?_;refine .nil ?_;refine AL.gk [0,1,4,7,8] ?_
   exact ih (k,s2,(w64 (s3+1))) h (Nat.lt_succ_self _)
  refine cnf (dF hc) ?_;refine .gk [4] ?_;refine .exit ?_
  exact jr (s2) h
 rintro z1 h
 try dsimp only at h ⊢
 subst hK0
 refine aw ?_;refine .sr ?_;refine ar [4] ?_;refine .ret ?_
 cases h
 exact ⟨rfl,rfl⟩
def Eu (a0:(List (List Arr))) (a1:CM) : Option (Bool):=((HU a0 a1).bind fun x1=>(some ((decide (0≤x1)))))
theorem Ll {a0:(List (List Arr))} {a1:CM} (oa1:Lf a1) {r:Bool} (h:Eu a0 a1=some r) :
  Fn Tryz.prog 131 [.sl (H6 a0),a1.dv] (.d (.b r)):=by
 unfold Eu at h
 refine Fn.o1 4 9 Tryz.func131 ?_;refine .sr ?_;refine ar [0,1,4] ?_;refine .sr ?_;refine va ?_;refine va ?_
 obtain ⟨x1,g1,h⟩:=bnd h
 refine vk (Al (N6 oa1 g1) Tryz.call181) ?_;refine vb ?_;refine ar [4] ?_;refine .ret ?_
 cases h
 exact ⟨rfl,rfl⟩
def Ew (x14:Int) (K4:(List Int)→Option ((List Int)×(List Int)×Int)) : Nat→(List Int)→Int→Option ((List Int)×(List Int)×Int)
 | 0,_,_=>none
 | k+1,s17,s18=>(if s18<x14 then ((ap? 17592186044416 s17 [s18]).bind fun x19=>(Ew x14 K4 k x19 (w64 (s18+1)))) else (K4 s17))
def De (a0:(Int×RT×Int)) (a1:Arr) (a2:(List (List Arr))) (K0:(List Int)→(List Int)→Int→(List (List Int))→Option ((List Int)×(List Int)×Int)) : Nat→(List Int)→(List Int)→Int→(List (List Int))→Int→Option ((List Int)×(List Int)×Int)
 | 0,_,_,_,_,_=>none
 | k+1,s6,s7,s8,s9,s10=>(if s10<((List.length a2:Nat):Int) then (jn (fun (z11:(List Int)) (z12:(List (List Int)))=>(De a0 a1 a2 K0 k s6 z11 s8 z12 (w64 (s10+1)))) fun K2=>((rd? a2 s10).bind fun x13=>((rd? a1.shape s10).bind fun x14=>(jn (((rd? x13 0).bind fun x21=>((Fi a0 x21 x14).bind fun x22=>(if x22.2=0 then ((rd? x13 0).bind fun x23=>((ap? 17592186044416 s7 x23.shape).bind fun x24=>((ap? 5864062014805 s9 [x22.1]).bind fun x25=>(K2 x24 x25)))) else (some ([],[],x22.2)))))) fun K3=>(if ((List.length x13:Nat):Int)=0 then ((ap? 17592186044416 s7 [x14]).bind fun x15=>(jn (fun (z16:(List Int))=>((ap? 5864062014805 s9 [z16]).bind fun x20=>(K2 x15 x20))) fun K4=>(Ew x14 K4 As [] 0))) else (K3)))))) else (K0 s6 s7 s8 s9))
def CY (a1:Arr) (x36:Int) (s29:Int) (x31:(List Int)) (K11:(List Int)→Option ((List Int)×(List Int)×Int)) : Nat→(List Int)→Int→Option ((List Int)×(List Int)×Int)
 | 0,_,_=>none
 | k+1,s37,s38=>(if s38<((List.length x31:Nat):Int) then ((rd? x31 s38).bind fun x39=>((rd? a1.shape s29).bind fun x40=>((ap? 17592186044416 s37 [(w64 ((w64 (x36 * x40))+x39))]).bind fun x41=>(CY a1 x36 s29 x31 K11 k x41 (w64 (s38+1)))))) else (K11 s37))
def B4 (a1:Arr) (s28:(List Int)) (K9:(List Int)→Option ((List Int)×(List Int)×Int)) (s29:Int) (x31:(List Int)) : Nat→(List Int)→Int→Option ((List Int)×(List Int)×Int)
 | 0,_,_=>none
 | k+1,s33,s34=>(if s34<((List.length s28:Nat):Int) then (jn (fun (z35:(List Int))=>(B4 a1 s28 K9 s29 x31 k z35 (w64 (s34+1)))) fun K11=>((rd? s28 s34).bind fun x36=>(CY a1 x36 s29 x31 K11 As s33 0))) else (K9 s33))
def Ck (a1:Arr) (z5:(List (List Int))) (K6:(List Int)→Option ((List Int)×(List Int)×Int)) : Nat→(List Int)→Int→Option ((List Int)×(List Int)×Int)
 | 0,_,_=>none
 | k+1,s28,s29=>(if s29<((List.length z5:Nat):Int) then (jn (fun (z30:(List Int))=>(Ck a1 z5 K6 k z30 (w64 (s29+1)))) fun K8=>((rd? z5 s29).bind fun x31=>(jn (fun (z32:(List Int))=>(K8 z32)) fun K9=>(B4 a1 s28 K9 s29 x31 As [] 0)))) else (K6 s28))
def Fp (a0:(Int×RT×Int)) (a1:Arr) (a2:(List (List Arr))) : Option ((List Int)×(List Int)×Int):=((Eu a2 (⟨.fn 132 [] [],fun x=>E3 x⟩ : CM)).bind fun x1=>(if x1=true then (some ([],[],22)) else (if ((List.length a2:Nat) : Int)=((List.length a1.shape:Nat) : Int) then (jn (fun (z2:(List Int)) (z3:(List Int)) (z4:Int) (z5:(List (List Int)))=>((CB z3).bind fun x26=>(if x26.2=0 then (if x26.1=0 then (some ([],z3,0)) else (jn (fun (z27:(List Int))=>(some (z27,z3,0))) fun K6=>(Ck a1 z5 K6 As ([0]) 0))) else (some ([],[],x26.2))))) fun K0=>(De a0 a1 a2 K0 As [] [] 0 [] 0)) else (some ([],[],4)))))
set_option maxHeartbeats 4000000 in
theorem Od {a0:(Int×RT×Int)} {a1:Arr} {a2:(List (List Arr))} {r:(List Int)×(List Int)×Int} (h:Fp a0 a1 a2=some r) :
  Fn Tryz.prog 72 [.ag [.i .i64 a0.1,.b a0.2.1.1,.sl (L a0.2.1.2.1),.sl (L a0.2.1.2.2),.i .i64 a0.2.2],.ag [.sl (Is a1.shape),.sl (Its a1.items)],.sl (H6 a2)] (.tup [.d (.sl (Is r.1)),.d (.sl (Is r.2.1)),.d (.i .i64 r.2.2)]):=by
 unfold Fp at h
 refine Fn.of (rs:=[.tmp 6,.tmp 7,.tmp 8]) (nt:=137) Tryz.func72 rfl rfl rfl (by simp) rfl ?_;refine .sr ?_;refine vk vbx ?_;refine vk vbx ?_;refine asn ?_;refine asn ?_;refine ar [2,3,4,6,7,8] ?_;refine .seq ?_;refine .sr ?_;refine va ?_
 obtain ⟨x1,g1,h⟩:=bnd h
 refine vk (Al (Ll (J4 Tryz.call132 (fun _ _ h=>Mp h)) g1) Tryz.call131) ?_;refine rk [2,3,4,6,7,8,26] ?_
 rcases brc h with ⟨hc,h⟩|⟨hc,h⟩
 ·refine cnt hc ?_
  refine .sr ?_;refine asn ?_;refine asn ?_;refine ar [2,3,4,6,7,8] ?_;refine .gh (Gh.nlD (t:=6) rfl) ?_;refine .gh (Gh.nlD (t:=7) rfl) ?_;refine .ret ?_
  cases h
  exact ⟨⟨by decide,by decide,by decide⟩,rfl,rfl,rfl,rfl⟩
 refine cnf (bf hc) ?_;refine .sk ?_;refine .seq ?_;refine .sr ?_;refine va ?_;refine vk (A5 (IT _) (Qf _) PZ) ?_;refine vk (vfa A7) ?_;refine vk (Ao CG) ?_;refine vk (A5 (Af _) (Da _) CU) ?_;refine vb ?_;refine rk [2,3,4,6,7,8,32] ?_
 rcases brc h with ⟨hc,h⟩|⟨hc,h⟩
 ·refine cnf (ntf (dT hc)) ?_
  refine .sk ?_;refine .sr ?_;refine asn ?_;refine rk [2,3,4,6,7,8,9] ?_;refine .seq ?_;refine .sr ?_;refine va ?_;refine vk (A5 (IT _) (Qf _) PZ) ?_;refine va ?_;refine rk [3,4,6,7,8,9,33,34,35] ?_
  obtain ⟨K0,hK0,h⟩:=AH h
  refine AW.mr (σ:=(List Int)×(List Int)×Int×(List (List Int))) (fun p=>K0 p.1 p.2.1 p.2.2.1 p.2.2.2=some r) (fun p=>[(4,.d (.ptr [.sl (Is a1.shape),.sl (Its a1.items)])),(6,.d (.sl (Is p.1))),(7,.own 3 (Is p.2.1)),(8,.d (.i .i64 p.2.2.1)),(9,.own 24 (IsS p.2.2.2))]) (fun p=>[]) ?_ ?_
  ·skip
   refine .block ?_;refine .gh (Gh.nlD (t:=6) rfl) ?_;refine .gh (Gh.nlOwn (t:=7) 3 (by rw [Dg];decide) rfl) ?_;refine .gh (Gh.nlOwn (t:=9) 24 (by rw [ZU];decide) rfl) ?_
   refine .loop (.gk [3,4,6,7,8,9,33,34,35] ?_)
   refine AL.ind (σ:=Nat×(List Int)×(List Int)×Int×(List (List Int))×Int) (m:=fun p=>p.1) (e:=fun p=>[(3,.d (.ptr [.i .i64 a0.1,.b a0.2.1.1,.sl (L a0.2.1.2.1),.sl (L a0.2.1.2.2),.i .i64 a0.2.2])),(4,.d (.ptr [.sl (Is a1.shape),.sl (Its a1.items)])),(6,.d (.sl (Is p.2.1))),(7,.own 3 (Is p.2.2.1)),(8,.d (.i .i64 p.2.2.2.1)),(9,.own 24 (IsS p.2.2.2.2.1)),(33,.d (.sl (H6 a2))),(34,.d (.i .i64 ((List.length a2:Nat):Int))),(35,.d (.i .i64 p.2.2.2.2.2))]) (h:=fun p=>[]) (I:=fun p=>De a0 a1 a2 K0 p.1 p.2.1 p.2.2.1 p.2.2.2.1 p.2.2.2.2.1 p.2.2.2.2.2=some r) ?_ (As,[],[],0,[],0) h
   rintro ⟨k,s6,s7,s8,s9,s10⟩ h ih
   dsimp only at h ih ⊢
   rcases k with _|k
   ·rw [De] at h;cases h
   rw [De] at h
   refine .sr ?_;refine vb ?_;refine rk [3,4,6,7,8,9,33,34,35,36] ?_;refine .seq ?_
   rcases brc h with ⟨hc,h⟩|⟨hc,h⟩
   ·refine cnt (dT hc) ?_
    refine .sk ?_
    obtain ⟨K2,hK2,h⟩:=AH h
    refine AW.mj (σ:=(List Int)×(List (List Int))) (fun p=>K2 p.1 p.2=some r) (fun p=>[(3,.d (.ptr [.i .i64 a0.1,.b a0.2.1.1,.sl (L a0.2.1.2.1),.sl (L a0.2.1.2.2),.i .i64 a0.2.2])),(4,.d (.ptr [.sl (Is a1.shape),.sl (Its a1.items)])),(6,.d (.sl (Is s6))),(7,.own 3 (Is p.1)),(8,.d (.i .i64 s8)),(9,.own 24 (IsS p.2)),(33,.d (.sl (H6 a2))),(34,.d (.i .i64 ((List.length a2:Nat):Int))),(35,.d (.i .i64 s10))]) (fun p=>[]) ?_ ?_
    ·skip
     refine .block ?_;refine .sr ?_;refine va ?_
     obtain ⟨x13,g13,h⟩:=bnd h
     obtain ⟨n13,p013,q13⟩:=Ah g13
     refine vk (vix n13 p013 (Ts q13) rfl S8) ?_;refine vk (Ao C4) ?_;refine asd ?_;refine ar [3,4,6,7,8,9,10,11,33,34,35] ?_;refine .sr ?_;refine vk (vfa A7) ?_;refine vk (Ao CG) ?_;refine va ?_
     obtain ⟨x14,g14,h⟩:=bnd h
     obtain ⟨n14,p014,q14⟩:=Ah g14
     refine vk (vix n14 p014 (BJ q14) rfl Bt) ?_;refine vk (Ao AJ) ?_;refine ar [3,4,6,7,8,9,11,12,33,34,35] ?_;refine .seq ?_;refine .sr ?_;refine va ?_;refine vk (A5 (BC _) (EI _) EL) ?_;refine vb ?_;refine rk [3,4,6,7,8,9,11,12,33,34,35,47] ?_
     obtain ⟨K3,hK3,h⟩:=AH h
     refine AW.mr (σ:=Unit) (fun p=>K3=some r) (fun p=>[(3,.d (.ptr [.i .i64 a0.1,.b a0.2.1.1,.sl (L a0.2.1.2.1),.sl (L a0.2.1.2.2),.i .i64 a0.2.2])),(4,.d (.ptr [.sl (Is a1.shape),.sl (Its a1.items)])),(6,.d (.sl (Is s6))),(7,.own 3 (Is s7)),(8,.d (.i .i64 s8)),(9,.own 24 (IsS s9)),(11,.d (.sl (Ars x13))),(12,.d (.i .i64 x14)),(33,.d (.sl (H6 a2))),(34,.d (.i .i64 ((List.length a2:Nat):Int))),(35,.d (.i .i64 s10))]) (fun p=>[]) ?_ ?_
     ·skip
      rcases brc h with ⟨hc,h⟩|⟨hc,h⟩
      ·refine cnt (dT hc) ?_
       refine .sr ?_;refine mvo ?_;refine va ?_;refine vk ((E1 (DZ [x14]) DN).deep) ?_
       obtain ⟨x15,g15,h⟩:=bnd h
       refine Ms Jg g15 L2 ?_ Ix Af DN
       refine aso ?_;refine rk [3,4,6,7,8,9,11,12,33,34,35] ?_;refine .sr ?_;refine asn ?_;refine rk [3,4,6,7,8,9,11,12,13,33,34,35] ?_;refine .seq ?_;refine .sr ?_;refine va ?_;refine va ?_;refine rk [3,4,6,7,8,9,11,12,13,33,34,35,52,53] ?_
       obtain ⟨K4,hK4,h⟩:=AH h
       refine AW.mr (σ:=(List Int)) (fun p=>K4 p=some r) (fun p=>[(3,.d (.ptr [.i .i64 a0.1,.b a0.2.1.1,.sl (L a0.2.1.2.1),.sl (L a0.2.1.2.2),.i .i64 a0.2.2])),(4,.d (.ptr [.sl (Is a1.shape),.sl (Its a1.items)])),(6,.d (.sl (Is s6))),(7,.own 3 (Is x15)),(8,.d (.i .i64 s8)),(9,.own 24 (IsS s9)),(11,.d (.sl (Ars x13))),(12,.d (.i .i64 x14)),(13,.own 3 (Is p)),(33,.d (.sl (H6 a2))),(34,.d (.i .i64 ((List.length a2:Nat):Int))),(35,.d (.i .i64 s10))]) (fun p=>[]) ?_ ?_
       ·skip
        refine .block ?_;refine .gh (Gh.nlOwn (t:=13) 3 (by rw [Dg];decide) rfl) ?_
        refine .loop (.gk [3,4,6,7,8,9,11,12,13,33,34,35,52,53] ?_)
        refine AL.ind (σ:=Nat×(List Int)×Int) (m:=fun p=>p.1) (e:=fun p=>[(3,.d (.ptr [.i .i64 a0.1,.b a0.2.1.1,.sl (L a0.2.1.2.1),.sl (L a0.2.1.2.2),.i .i64 a0.2.2])),(4,.d (.ptr [.sl (Is a1.shape),.sl (Its a1.items)])),(6,.d (.sl (Is s6))),(7,.own 3 (Is x15)),(8,.d (.i .i64 s8)),(9,.own 24 (IsS s9)),(11,.d (.sl (Ars x13))),(12,.d (.i .i64 x14)),(13,.own 3 (Is p.2.1)),(33,.d (.sl (H6 a2))),(34,.d (.i .i64 ((List.length a2:Nat):Int))),(35,.d (.i .i64 s10)),(52,.d (.i .i64 x14)),(53,.d (.i .i64 p.2.2))]) (h:=fun p=>[]) (I:=fun p=>Ew x14 K4 p.1 p.2.1 p.2.2=some r) ?_ (As,[],0) h
        rintro ⟨k,s17,s18⟩ h ih
        dsimp only at h ih ⊢
        rcases k with _|k
        ·rw [Ew] at h;cases h
        rw [Ew] at h
        refine .sr ?_;refine vb ?_;refine rk [3,4,6,7,8,9,11,12,13,33,34,35,52,53,54] ?_;refine .seq ?_
        rcases brc h with ⟨hc,h⟩|⟨hc,h⟩
        ·refine cnt (dT hc) ?_
         refine .sk ?_;refine .seq ?_;refine .block ?_;refine .sr ?_;refine va ?_;refine ar [3,4,6,7,8,9,11,12,13,14,33,34,35,52,53] ?_;refine .region ?_;refine mvo ?_;refine va ?_;refine vk ((E1 (DZ [s18]) DN).deep) ?_
         obtain ⟨x19,g19,h⟩:=bnd h
         refine Ms Jg g19 L2 ?_ Ix Af DN
         refine aso ?_;refine .nil ?_;refine aw ?_;refine .gk [3,4,6,7,8,9,11,12,13,33,34,35,52,53] ?_;refine .region ?_;refine vb ?_;refine va ?_;refine .nil ?_;refine AL.gk [3,4,6,7,8,9,11,12,13,33,34,35,52,53] ?_
         exact ih (k,x19,(w64 (s18+1))) h (Nat.lt_succ_self _)
        refine cnf (dF hc) ?_;refine .gk [3,4,6,7,8,9,11,12,13,33,34,35] ?_;refine .exit ?_
        exact jr (s17) h
       rintro z16 h
       try dsimp only at h ⊢
       subst hK4
       refine aw ?_;refine .sr ?_;refine mvo ?_;refine fz (p:=.t 13) ?_;refine va ?_;refine vk ((E1 (MO [z16]) NA).deep) ?_
       obtain ⟨x20,g20,h⟩:=bnd h
       refine Ms S9 g20 U6 ?_ PQ GQ NA
       refine aso ?_;refine rk [3,4,6,7,8,9,11,12,33,34,35] ?_;refine .gk [3,4,6,7,8,9,33,34,35] ?_;refine .exit ?_
       exact jr (x15,x20) h
      refine cnf (dF hc) ?_;refine .gk [3,4,6,7,8,9,11,12,33,34,35] ?_;refine .skip ?_
      exact jr () h
     rintro _ h
     subst hK3
     refine aw ?_;refine .seq ?_
     obtain ⟨x21,g21,h⟩:=bnd h
     obtain ⟨x22,g22,h⟩:=bnd h
     refine .drawnF 9 [8] [(15,.d (.sl (Is x22.1)))] [] A6 (by kernel_rfl) rfl ?_;refine dv (Ar IX IF) ?_;refine dv Ae ?_
     obtain ⟨n21,p021,q21⟩:=Ah g21
     refine dv (vix n21 p021 (Eb q21) rfl Ea) ?_;refine dv (Ar Ag Ab) ?_;refine dv Ae ?_;refine dv (VOK.tupd (vs:=[.sl (Is x22.1),.i .i64 x22.2]) (Al (N9 g22) Tryz.call133)) ?_;refine dv Ae ?_;refine dv vex ?_;refine dv vex ?_;refine dz ?_
     refine ⟨?_,?_,?_⟩
     ·intro k hk
      simp only [List.mem_cons,List.not_mem_nil,or_false] at hk
      subst hk
      exact ⟨_,_,_,rfl,rfl,rfl,rfl,rfl,rfl,vex⟩
     ·intro om e hom hge
      cases hom
      exact Wl rfl ((hge 72 (fun k hk v hv=>by
        simp only [List.mem_cons,List.not_mem_nil,or_false] at hk
        subst hk;exact (by decide:¬(some 73=some 72)) (congrArg (Option.map Prod.fst) hv))).trans rfl) rfl ((congrArg An (hge 15 (fun k hk v hv=>by
        simp only [List.mem_cons,List.not_mem_nil,or_false] at hk
        subst hk;exact (by decide:¬(some 73=some 15)) (congrArg (Option.map Prod.fst) hv)))).trans rfl) rfl ⟨rfl,rfl⟩
     refine ar [3,4,6,7,8,9,11,15,16,33,34,35] ?_;refine .seq ?_;refine .sr ?_;refine va ?_;refine vb ?_;refine rk [3,4,6,7,8,9,11,15,16,33,34,35,75] ?_
     rcases brc h with ⟨hc,h⟩|⟨hc,h⟩
     ·refine cnf (ntf (dT hc)) ?_
      refine .sk ?_;refine .sr ?_;refine mvo ?_;refine va ?_
      obtain ⟨x23,g23,h⟩:=bnd h
      obtain ⟨n23,p023,q23⟩:=Ah g23
      refine vk (vix n23 p023 (Eb q23) rfl Ea) ?_;refine vk (vfa A7) ?_;refine vk (Ao CG) ?_
      obtain ⟨x24,g24,h⟩:=bnd h
      refine Ms Jg g24 L2 ?_ Ix Af DN
      refine aso ?_;refine rk [3,4,6,7,8,9,15,33,34,35] ?_;refine .region ?_;refine mvo ?_;refine va ?_;refine vk ((E1 (MO [x22.1]) NA).deep) ?_
      obtain ⟨x25,g25,h⟩:=bnd h
      refine Ms S9 g25 U6 ?_ PQ GQ NA
      refine aso ?_;refine RL.gk [3,4,6,7,8,9,33,34,35] ?_;refine .nil ?_
      exact jr (x24,x25) h
     refine cnt (ntt (dF hc)) ?_;refine .sr ?_;refine va ?_;refine asn ?_;refine RL.gk [3,4,6,8,9,11,15,16,33,34,35,75,76] ?_;refine asn ?_;refine ar [3,4,6,7,8,9,11,15,33,34,35] ?_;refine .gh (Gh.nlD (t:=6) rfl) ?_;refine .gh (Gh.nlD (t:=7) rfl) ?_;refine .ret ?_
     cases h
     exact ⟨⟨by decide,by decide,by decide⟩,rfl,rfl,rfl,rfl⟩
    rintro ⟨z11,z12⟩ h
    try dsimp only at h ⊢
    subst hK2
    refine .region ?_;refine vb ?_;refine va ?_;refine .nil ?_;refine AL.gk [3,4,6,7,8,9,33,34,35] ?_
    exact ih (k,s6,z11,s8,z12,(w64 (s10+1))) h (Nat.lt_succ_self _)
   refine cnf (dF hc) ?_;refine .gk [4,6,7,8,9] ?_;refine .exit ?_
   exact jr (s6,s7,s8,s9) h
  rintro ⟨z2,z3,z4,z5⟩ h
  try dsimp only at h ⊢
  subst hK0
  refine aw ?_;refine .sr ?_;refine fz (p:=.t 7) ?_;refine va ?_
  obtain ⟨x26,g26,h⟩:=bnd h
  refine vk (VOK.tupd (vs:=[.i .i64 x26.1,.i .i64 x26.2]) (Al (DS g26) Tryz.call56)) ?_;refine va ?_;refine vk vex ?_;refine vk vex ?_;refine asd ?_;refine ar [4,6,7,8,9,17] ?_;refine .seq ?_;refine .sr ?_;refine va ?_;refine vb ?_;refine rk [4,6,7,8,9,17,94] ?_
  rcases brc h with ⟨hc,h⟩|⟨hc,h⟩
  ·refine cnf (ntf (dT hc)) ?_
   refine .sk ?_;refine .seq ?_;refine .sr ?_;refine va ?_;refine vb ?_;refine rk [4,6,7,8,9,97] ?_
   rcases brc h with ⟨hc,h⟩|⟨hc,h⟩
   ·refine cnt (dT hc) ?_
    refine .sr ?_;refine va ?_;refine asn ?_;refine asd ?_;refine ar [4,6,7,8,9] ?_;refine .gh (Gh.nlD (t:=6) rfl) ?_;refine .ret ?_
    cases h
    exact ⟨⟨by decide,by decide,by decide⟩,rfl,rfl,rfl,rfl⟩
   refine cnf (dF hc) ?_;refine .sk ?_;refine .sr ?_;refine vk ((E1 (DZ [0]) DN).deep) ?_;refine ar [4,6,7,8,9] ?_;refine .seq ?_;refine .sr ?_;refine mvo ?_;refine vk (QX (GQ _) R7) ?_;refine va ?_;refine rk [4,6,7,8,9,100,101,102] ?_
   obtain ⟨K6,hK6,h⟩:=AH h
   refine AW.mr (σ:=(List Int)) (fun p=>K6 p=some r) (fun p=>[(6,.d (.sl (Is p))),(7,.d (.sl (Is z3))),(8,.d (.i .i64 x26.2))]) (fun p=>[]) ?_ ?_
   ·skip
    refine .block ?_;refine .gh (Gh.swap (s:=9) (t:=100) rfl rfl rfl) ?_;refine .gh (Gh.frz (p:=.t 100) rfl (by (intro _ _ h;cases h<;>decide))) ?_
    refine .loop (.gk [4,6,7,8,100,101,102] ?_)
    refine AL.ind (σ:=Nat×(List Int)×Int) (m:=fun p=>p.1) (e:=fun p=>[(4,.d (.ptr [.sl (Is a1.shape),.sl (Its a1.items)])),(6,.d (.sl (Is p.2.1))),(7,.d (.sl (Is z3))),(8,.d (.i .i64 x26.2)),(100,.d (.sl (IsS z5))),(101,.d (.i .i64 ((List.length z5:Nat):Int))),(102,.d (.i .i64 p.2.2))]) (h:=fun p=>[]) (I:=fun p=>Ck a1 z5 K6 p.1 p.2.1 p.2.2=some r) ?_ (As,[0],0) h
    rintro ⟨k,s28,s29⟩ h ih
    dsimp only at h ih ⊢
    rcases k with _|k
    ·rw [Ck] at h;cases h
    rw [Ck] at h
    refine .sr ?_;refine vb ?_;refine rk [4,6,7,8,100,101,102,103] ?_;refine .seq ?_
    rcases brc h with ⟨hc,h⟩|⟨hc,h⟩
    ·refine cnt (dT hc) ?_
     refine .sk ?_
     obtain ⟨K8,hK8,h⟩:=AH h
     refine AW.mj (σ:=(List Int)) (fun p=>K8 p=some r) (fun p=>[(4,.d (.ptr [.sl (Is a1.shape),.sl (Its a1.items)])),(6,.d (.sl (Is p))),(7,.d (.sl (Is z3))),(8,.d (.i .i64 x26.2)),(100,.d (.sl (IsS z5))),(101,.d (.i .i64 ((List.length z5:Nat):Int))),(102,.d (.i .i64 s29))]) (fun p=>[]) ?_ ?_
     ·skip
      refine .block ?_;refine .sr ?_;refine va ?_
      obtain ⟨x31,g31,h⟩:=bnd h
      obtain ⟨n31,p031,q31⟩:=Ah g31
      refine vk (vix n31 p031 (SK q31) rfl Sh) ?_;refine vk (Ao CG) ?_;refine asd ?_;refine ar [4,6,7,8,18,19,100,101,102] ?_;refine .sr ?_;refine asn ?_;refine rk [4,6,7,8,18,19,20,100,101,102] ?_;refine .seq ?_;refine .sr ?_;refine va ?_;refine vk (A5 (Af _) (Da _) CU) ?_;refine va ?_;refine rk [4,7,8,18,19,20,100,101,102,107,108,109] ?_
      obtain ⟨K9,hK9,h⟩:=AH h
      refine AW.mr (σ:=(List Int)) (fun p=>K9 p=some r) (fun p=>[(4,.d (.ptr [.sl (Is a1.shape),.sl (Its a1.items)])),(7,.d (.sl (Is z3))),(8,.d (.i .i64 x26.2)),(20,.own 3 (Is p)),(100,.d (.sl (IsS z5))),(101,.d (.i .i64 ((List.length z5:Nat):Int))),(102,.d (.i .i64 s29))]) (fun p=>[]) ?_ ?_
      ·skip
       refine .block ?_;refine .gh (Gh.nlOwn (t:=20) 3 (by rw [Dg];decide) rfl) ?_
       refine .loop (.gk [4,7,8,18,19,20,100,101,102,107,108,109] ?_)
       refine AL.ind (σ:=Nat×(List Int)×Int) (m:=fun p=>p.1) (e:=fun p=>[(4,.d (.ptr [.sl (Is a1.shape),.sl (Its a1.items)])),(7,.d (.sl (Is z3))),(8,.d (.i .i64 x26.2)),(18,.d (.i .i64 s29)),(19,.d (.sl (Is x31))),(20,.own 3 (Is p.2.1)),(100,.d (.sl (IsS z5))),(101,.d (.i .i64 ((List.length z5:Nat):Int))),(102,.d (.i .i64 s29)),(107,.d (.sl (Is s28))),(108,.d (.i .i64 ((List.length s28:Nat):Int))),(109,.d (.i .i64 p.2.2))]) (h:=fun p=>[]) (I:=fun p=>B4 a1 s28 K9 s29 x31 p.1 p.2.1 p.2.2=some r) ?_ (As,[],0) h
       rintro ⟨k,s33,s34⟩ h ih
       dsimp only at h ih ⊢
       rcases k with _|k
       ·rw [B4] at h;cases h
       rw [B4] at h
       refine .sr ?_;refine vb ?_;refine rk [4,7,8,18,19,20,100,101,102,107,108,109,110] ?_;refine .seq ?_
       rcases brc h with ⟨hc,h⟩|⟨hc,h⟩
       ·refine cnt (dT hc) ?_
        refine .sk ?_
        obtain ⟨K11,hK11,h⟩:=AH h
        refine AW.mj (σ:=(List Int)) (fun p=>K11 p=some r) (fun p=>[(4,.d (.ptr [.sl (Is a1.shape),.sl (Its a1.items)])),(7,.d (.sl (Is z3))),(8,.d (.i .i64 x26.2)),(18,.d (.i .i64 s29)),(19,.d (.sl (Is x31))),(20,.own 3 (Is p)),(100,.d (.sl (IsS z5))),(101,.d (.i .i64 ((List.length z5:Nat):Int))),(102,.d (.i .i64 s29)),(107,.d (.sl (Is s28))),(108,.d (.i .i64 ((List.length s28:Nat):Int))),(109,.d (.i .i64 s34))]) (fun p=>[]) ?_ ?_
        ·skip
         refine .block ?_;refine .sr ?_
         obtain ⟨x36,g36,h⟩:=bnd h
         obtain ⟨n36,p036,q36⟩:=Ah g36
         refine vk (vix n36 p036 (BJ q36) rfl Bt) ?_;refine vk (Ao AJ) ?_;refine ar [4,7,8,18,19,20,22,100,101,102,107,108,109] ?_;refine .sr ?_;refine va ?_;refine vk (A5 (Af _) (Da _) CU) ?_;refine va ?_;refine rk [4,7,8,18,19,20,22,100,101,102,107,108,109,113,114,115] ?_;refine .block ?_
         refine .loop (.gk [4,7,8,18,19,20,22,100,101,102,107,108,109,113,114,115] ?_)
         refine AL.ind (σ:=Nat×(List Int)×Int) (m:=fun p=>p.1) (e:=fun p=>[(4,.d (.ptr [.sl (Is a1.shape),.sl (Its a1.items)])),(7,.d (.sl (Is z3))),(8,.d (.i .i64 x26.2)),(18,.d (.i .i64 s29)),(19,.d (.sl (Is x31))),(20,.own 3 (Is p.2.1)),(22,.d (.i .i64 x36)),(100,.d (.sl (IsS z5))),(101,.d (.i .i64 ((List.length z5:Nat):Int))),(102,.d (.i .i64 s29)),(107,.d (.sl (Is s28))),(108,.d (.i .i64 ((List.length s28:Nat):Int))),(109,.d (.i .i64 s34)),(113,.d (.sl (Is x31))),(114,.d (.i .i64 ((List.length x31:Nat):Int))),(115,.d (.i .i64 p.2.2))]) (h:=fun p=>[]) (I:=fun p=>CY a1 x36 s29 x31 K11 p.1 p.2.1 p.2.2=some r) ?_ (As,s33,0) h
         rintro ⟨k,s37,s38⟩ h ih
         dsimp only at h ih ⊢
         rcases k with _|k
         ·rw [CY] at h;cases h
         rw [CY] at h
         refine .sr ?_;refine vb ?_;refine rk [4,7,8,18,19,20,22,100,101,102,107,108,109,113,114,115,116] ?_;refine .seq ?_
         rcases brc h with ⟨hc,h⟩|⟨hc,h⟩
         ·refine cnt (dT hc) ?_
          refine .sk ?_;refine .seq ?_;refine .block ?_;refine .sr ?_
          obtain ⟨x39,g39,h⟩:=bnd h
          obtain ⟨n39,p039,q39⟩:=Ah g39
          refine vk (vix n39 p039 (BJ q39) rfl Bt) ?_;refine vk (Ao AJ) ?_;refine ar [4,7,8,18,19,20,22,24,100,101,102,107,108,109,113,114,115] ?_;refine .region ?_;refine mvo ?_;refine va ?_;refine vk (vfa A7) ?_;refine vk (Ao CG) ?_;refine va ?_
          obtain ⟨x40,g40,h⟩:=bnd h
          obtain ⟨n40,p040,q40⟩:=Ah g40
          refine vk (vix n40 p040 (BJ q40) rfl Bt) ?_;refine vk (Ao AJ) ?_;refine vb ?_;refine va ?_;refine vb ?_;refine vk ((E1 (DZ [(w64 ((w64 (x36 * x40))+x39))]) DN).deep) ?_
          obtain ⟨x41,g41,h⟩:=bnd h
          refine Ms Jg g41 L2 ?_ Ix Af DN
          refine aso ?_;refine .nil ?_;refine aw ?_;refine .gk [4,7,8,18,19,20,22,100,101,102,107,108,109,113,114,115] ?_;refine .region ?_;refine vb ?_;refine va ?_;refine .nil ?_;refine AL.gk [4,7,8,18,19,20,22,100,101,102,107,108,109,113,114,115] ?_
          exact ih (k,x41,(w64 (s38+1))) h (Nat.lt_succ_self _)
         refine cnf (dF hc) ?_;refine .gk [4,7,8,18,19,20,100,101,102,107,108,109] ?_;refine .exit ?_
         exact jr (s37) h
        rintro z35 h
        try dsimp only at h ⊢
        subst hK11
        refine .region ?_;refine vb ?_;refine va ?_;refine .nil ?_;refine AL.gk [4,7,8,18,19,20,100,101,102,107,108,109] ?_
        exact ih (k,z35,(w64 (s34+1))) h (Nat.lt_succ_self _)
       refine cnf (dF hc) ?_;refine .gk [4,7,8,20,100,101,102] ?_;refine .exit ?_
       exact jr (s33) h
      rintro z32 h
      try dsimp only at h ⊢
      subst hK9
      refine aw ?_;refine .region ?_;refine fz (p:=.t 20) ?_;refine va ?_;refine asd ?_;refine RL.gk [4,6,7,8,100,101,102] ?_;refine .nil ?_
      exact jr (z32) h
     rintro z30 h
     try dsimp only at h ⊢
     subst hK8
     refine .region ?_;refine vb ?_;refine va ?_;refine .nil ?_;refine AL.gk [4,6,7,8,100,101,102] ?_
     exact ih (k,z30,(w64 (s29+1))) h (Nat.lt_succ_self _)
    refine cnf (dF hc) ?_;refine .gk [6,7,8] ?_;refine .exit ?_
    exact jr (s28) h
   rintro z27 h
   try dsimp only at h ⊢
   subst hK6
   refine aw ?_;refine .sr ?_;refine va ?_;refine va ?_;refine asd ?_;refine asd ?_;refine ar [6,7,8] ?_;refine .ret ?_
   cases h
   exact ⟨⟨by decide,by decide,by decide⟩,rfl,rfl,rfl,rfl⟩
  refine cnt (ntt (dF hc)) ?_;refine .sr ?_;refine va ?_;refine asn ?_;refine asn ?_;refine ar [4,6,7,8,9,17] ?_;refine .gh (Gh.nlD (t:=6) rfl) ?_;refine .gh (Gh.nlD (t:=7) rfl) ?_;refine .ret ?_
  cases h
  exact ⟨⟨by decide,by decide,by decide⟩,rfl,rfl,rfl,rfl⟩
 refine cnt (ntt (dF hc)) ?_;refine .sr ?_;refine asn ?_;refine asn ?_;refine ar [2,3,4,6,7,8] ?_;refine .gh (Gh.nlD (t:=6) rfl) ?_;refine .gh (Gh.nlD (t:=7) rfl) ?_;refine .ret ?_
 cases h
 exact ⟨⟨by decide,by decide,by decide⟩,rfl,rfl,rfl,rfl⟩
def EJ (a1:Arr) (x2:(List Int)×(List Int)×Int) (K0:(List Itm)→Option (Arr×Int)) : Nat→(List Itm)→Int→Option (Arr×Int)
 | 0,_,_=>none
 | k+1,s4,s5=>(if s5<((List.length x2.1:Nat):Int) then ((rd? x2.1 s5).bind fun x6=>((rd? a1.items x6).bind fun x7=>((ap? 1466015503701 s4 [x7]).bind fun x8=>(EJ a1 x2 K0 k x8 (w64 (s5+1)))))) else (K0 s4))
def Gc (a0:(Int×RT×Int)) (a1:Arr) (a2:(List (List Arr))) : Option (Arr×Int):=((Eh a0 ([a1])).bind fun x1=>(if x1=true then ((Fp a0 a1 a2).bind fun x2=>(if x2.2.2=0 then (jn (fun (z3:(List Itm))=>(jn (fun (z9:(List Itm))=>((AZ x2.2.1 z9).bind fun x12=>(some (x12.1,x12.2)))) fun K2=>(if ((List.length z3:Nat) : Int)=0 then ((DA a1).bind fun x10=>((ap? 1466015503701 z3 [x10]).bind fun x11=>(K2 x11))) else (K2 z3)))) fun K0=>(EJ a1 x2 K0 As [] 0)) else (some ((Arr.mk [] []),x2.2.2)))) else (some ((Arr.mk [] []),22))))
theorem NQ {a0:(Int×RT×Int)} {a1:Arr} {a2:(List (List Arr))} {r:Arr×Int} (h:Gc a0 a1 a2=some r) :
  Fn Tryz.prog 20 [.ag [.i .i64 a0.1,.b a0.2.1.1,.sl (L a0.2.1.2.1),.sl (L a0.2.1.2.2),.i .i64 a0.2.2],.ag [.sl (Is a1.shape),.sl (Its a1.items)],.sl (H6 a2)] (.tup [.d (.ag [.sl (Is r.1.shape),.sl (Its r.1.items)]),.d (.i .i64 r.2)]):=by
 unfold Gc at h
 refine Fn.ofC (rs:=[.cell 6 27,.tmp 7]) (nt:=60) Tryz.func20 rfl rfl rfl (by simp) rfl ?_;refine .sr ?_;refine vk vbx ?_;refine vk vbx ?_;refine vk (van (Ak AK) AP) ?_;refine ar [2,3,4,6,7] ?_;refine .seq ?_;refine .sr ?_;refine vk (Ar IX IF) ?_;refine vk (Ar Ag Ab) ?_;refine vk ((FF (Jr a1) (GT [a1]) I4).deep) ?_
 obtain ⟨x1,g1,h⟩:=bnd h
 refine vk (Al (Hg g1) Tryz.call39) ?_;refine vk vnt ?_;refine rk [2,3,4,6,7,18] ?_
 rcases brc h with ⟨hc,h⟩|⟨hc,h⟩
 ·refine cnf (ntf hc) ?_
  refine .sk ?_;refine .sr ?_;refine vk (Ar IX IF) ?_;refine vk (Ar Ag Ab) ?_;refine va ?_
  obtain ⟨x2,g2,h⟩:=bnd h
  refine vk (VOK.tupd (vs:=[.sl (Is x2.1),.sl (Is x2.2.1),.i .i64 x2.2.2]) (Al (Od g2) Tryz.call72)) ?_;refine va ?_;refine vk vex ?_;refine vk vex ?_;refine vk vex ?_;refine asd ?_;refine asd ?_;refine ar [4,6,7,8,9,10] ?_;refine .seq ?_;refine .sr ?_;refine va ?_;refine vb ?_;refine rk [4,6,7,8,9,10,29] ?_
  rcases brc h with ⟨hc,h⟩|⟨hc,h⟩
  ·refine cnf (ntf (dT hc)) ?_
   refine .sk ?_;refine .sr ?_;refine asn ?_;refine rk [4,6,7,8,9,11] ?_;refine .seq ?_;refine .sr ?_;refine va ?_;refine vk (A5 (Af _) (Da _) CU) ?_;refine va ?_;refine rk [4,6,7,9,11,32,33,34] ?_
   obtain ⟨K0,hK0,h⟩:=AH h
   refine AW.mr (σ:=(List Itm)) (fun p=>K0 p=some r) (fun p=>[(4,.d (.ptr [.sl (Is a1.shape),.sl (Its a1.items)])),(6,.nb [.sl (Is []),.sl (Its [])]),(7,.d (.i .i64 0)),(9,.d (.sl (Is x2.2.1))),(11,.own 51 (Its p))]) (fun p=>[]) ?_ ?_
   ·skip
    refine .block ?_;refine .gh (Gh.nlOwn (t:=11) 51 (by rw [Pw];decide) rfl) ?_
    refine .loop (.gk [4,6,7,9,11,32,33,34] ?_)
    refine AL.ind (σ:=Nat×(List Itm)×Int) (m:=fun p=>p.1) (e:=fun p=>[(4,.d (.ptr [.sl (Is a1.shape),.sl (Its a1.items)])),(6,.nb [.sl (Is []),.sl (Its [])]),(7,.d (.i .i64 0)),(9,.d (.sl (Is x2.2.1))),(11,.own 51 (Its p.2.1)),(32,.d (.sl (Is x2.1))),(33,.d (.i .i64 ((List.length x2.1:Nat):Int))),(34,.d (.i .i64 p.2.2))]) (h:=fun p=>[]) (I:=fun p=>EJ a1 x2 K0 p.1 p.2.1 p.2.2=some r) ?_ (As,[],0) h
    rintro ⟨k,s4,s5⟩ h ih
    dsimp only at h ih ⊢
    rcases k with _|k
    ·rw [EJ] at h;cases h
    rw [EJ] at h
    refine .sr ?_;refine vb ?_;refine rk [4,6,7,9,11,32,33,34,35] ?_;refine .seq ?_
    rcases brc h with ⟨hc,h⟩|⟨hc,h⟩
    ·refine cnt (dT hc) ?_
     refine .sk ?_;refine .seq ?_;refine .block ?_;refine .sr ?_
     obtain ⟨x6,g6,h⟩:=bnd h
     obtain ⟨n6,p06,q6⟩:=Ah g6
     refine vk (vix n6 p06 (BJ q6) rfl Bt) ?_;refine vk (Ao AJ) ?_;refine ar [4,6,7,9,11,13,32,33,34] ?_;refine .region ?_;refine mvo ?_;refine vk (vfa AU) ?_;refine vk (Ao BX) ?_;refine va ?_
     obtain ⟨x7,g7,h⟩:=bnd h
     obtain ⟨n7,p07,q7⟩:=Ah g7
     refine vk (vix n7 p07 (CD q7) rfl CF) ?_;refine vk (Ar AT Az) ?_;refine vk ((FF (G4 x7) (FK [x7]) E9).deep) ?_
     obtain ⟨x8,g8,h⟩:=bnd h
     refine Ms KE g8 Nl ?_ Jz Au E9
     refine aso ?_;refine .nil ?_;refine aw ?_;refine .gk [4,6,7,9,11,32,33,34] ?_;refine .region ?_;refine vb ?_;refine va ?_;refine .nil ?_;refine AL.gk [4,6,7,9,11,32,33,34] ?_
     exact ih (k,x8,(w64 (s5+1))) h (Nat.lt_succ_self _)
    refine cnf (dF hc) ?_;refine .gk [4,6,7,9,11] ?_;refine .exit ?_
    exact jr (s4) h
   rintro z3 h
   try dsimp only at h ⊢
   subst hK0
   refine aw ?_;refine .seq ?_;refine .sr ?_;refine mvo ?_;refine vk (QX (Au _) BO) ?_;refine vb ?_;refine rk [4,6,7,9,11,49] ?_
   obtain ⟨K2,hK2,h⟩:=AH h
   refine AW.mr (σ:=(List Itm)) (fun p=>K2 p=some r) (fun p=>[(6,.nb [.sl (Is []),.sl (Its [])]),(7,.d (.i .i64 0)),(9,.d (.sl (Is x2.2.1))),(11,.own 51 (Its p))]) (fun p=>[]) ?_ ?_
   ·skip
    rcases brc h with ⟨hc,h⟩|⟨hc,h⟩
    ·refine cnt (dT hc) ?_
     refine .region ?_;refine mvo ?_;refine vk (Ar Ag Ab) ?_
     obtain ⟨x10,g10,h⟩:=bnd h
     refine vk (Al (M4 g10) Tryz.call66) ?_;refine vk ((FF (G4 x10) (FK [x10]) E9).deep) ?_
     obtain ⟨x11,g11,h⟩:=bnd h
     refine Ms KE g11 Nl ?_ Jz Au E9
     refine aso ?_;refine RL.gk [6,7,9,11] ?_;refine .nil ?_
     exact jr (x11) h
    refine cnf (dF hc) ?_;refine .gk [6,7,9,11] ?_;refine .skip ?_
    exact jr (z3) h
   rintro z9 h
   try dsimp only at h ⊢
   subst hK2
   refine aw ?_;refine .sr ?_;refine va ?_;refine fz (p:=.t 11) ?_;refine va ?_
   obtain ⟨x12,g12,h⟩:=bnd h
   refine vk (VOK.tupd (vs:=[.ag [.sl (Is x12.1.shape),.sl (Its x12.1.items)],.i .i64 x12.2]) (Al (Hh g12) Tryz.call18)) ?_;refine vk vex ?_;refine vk vex ?_
   refine stn ?_ Ab (by decide)
   refine ar [6,7] ?_;refine .ret ?_
   cases h
   exact ⟨_,_,⟨.inr rfl,Ag,Ab,p2⟩,rfl,rfl⟩
  refine cnt (ntt (dF hc)) ?_;refine .sr ?_;refine vk (vbd CJ AK AP) ?_;refine va ?_
  refine stn ?_ Ab (by decide)
  refine ar [4,6,7,8,9] ?_;refine .ret ?_
  cases h
  exact ⟨_,_,⟨.inr rfl,Ag,Ab,p2⟩,rfl,rfl⟩
 refine cnt (ntt (bf hc)) ?_;refine .sr ?_;refine vk (vbd CJ AK AP) ?_
 refine stn ?_ Ab (by decide)
 refine ar [2,3,4,6,7] ?_;refine .ret ?_
 cases h
 exact ⟨_,_,⟨.inr rfl,Ag,Ab,p2⟩,rfl,rfl⟩
def BL (a0:(List (List Int))) (K0:Int→Option ((List Int))) : Nat→Int→Int→Option ((List Int))
 | 0,_,_=>none
 | k+1,s2,s3=>(if s3<((List.length a0:Nat):Int) then (jn (fun (z4:Int)=>(BL a0 K0 k z4 (w64 (s3+1)))) fun K2=>((rd? a0 s3).bind fun x5=>((GV (¬((w64 (s2+((List.length x5:Nat):Int)))<0))).bind fun x6=>(K2 (w64 (s2+((List.length x5:Nat):Int))))))) else (K0 s2))
def BN (a0:(List (List Int))) (K3:(List Int)→Option ((List Int))) : Nat→(List Int)→Int→Option ((List Int))
 | 0,_,_=>none
 | k+1,s9,s10=>(if s10<((List.length a0:Nat):Int) then ((rd? a0 s10).bind fun x11=>((ap? 17592186044416 s9 x11).bind fun x12=>(BN a0 K3 k x12 (w64 (s10+1))))) else (K3 s9))
def DW (a0:(List (List Int))) : Option ((List Int)):=(jn (fun (z1:Int)=>((GV (0≤z1∧z1≤U8)).bind fun x7=>(jn (fun (z8:(List Int))=>(some (z8))) fun K3=>(BN a0 K3 As [] 0)))) fun K0=>(BL a0 K0 As 0 0))
theorem Hl {a0:(List (List Int))} {r:(List Int)} (h:DW a0=some r) :
  Fn Tryz.prog 100 [.sl (IsS a0)] (.d (.sl (Is r))):=by
 unfold DW at h
 refine Fn.o1 2 36 Tryz.func100 ?_;refine .sr ?_;refine asn ?_;refine rk [0,2] ?_;refine .sr ?_;refine ar [0,2,3] ?_;refine .seq ?_;refine .sr ?_;refine va ?_;refine vk (A5 (GQ _) (VC _) R7) ?_;refine va ?_;refine rk [0,2,3,9,10,11] ?_
 obtain ⟨K0,hK0,h⟩:=AH h
 refine AW.mr (σ:=Int) (fun p=>K0 p=some r) (fun p=>[(0,.d (.sl (IsS a0))),(2,.nl),(3,.d (.i .i64 p))]) (fun p=>[]) ?_ ?_
 ·skip
  refine .block ?_
  refine .loop (.gk [0,2,3,9,10,11] ?_)
  refine AL.ind (σ:=Nat×Int×Int) (m:=fun p=>p.1) (e:=fun p=>[(0,.d (.sl (IsS a0))),(2,.nl),(3,.d (.i .i64 p.2.1)),(9,.d (.sl (IsS a0))),(10,.d (.i .i64 ((List.length a0:Nat):Int))),(11,.d (.i .i64 p.2.2))]) (h:=fun p=>[]) (I:=fun p=>BL a0 K0 p.1 p.2.1 p.2.2=some r) ?_ (As,0,0) h
  rintro ⟨k,s2,s3⟩ h ih
  dsimp only at h ih ⊢
  rcases k with _|k
  ·rw [BL] at h;cases h
  rw [BL] at h
  refine .sr ?_;refine vb ?_;refine rk [0,2,3,9,10,11,12] ?_;refine .seq ?_
  rcases brc h with ⟨hc,h⟩|⟨hc,h⟩
  ·refine cnt (dT hc) ?_
   refine .sk ?_
   obtain ⟨K2,hK2,h⟩:=AH h
   refine AW.mj (σ:=Int) (fun p=>K2 p=some r) (fun p=>[(0,.d (.sl (IsS a0))),(2,.nl),(3,.d (.i .i64 p)),(9,.d (.sl (IsS a0))),(10,.d (.i .i64 ((List.length a0:Nat):Int))),(11,.d (.i .i64 s3))]) (fun p=>[]) ?_ ?_
   ·skip
    refine .block ?_;refine .sr ?_
    obtain ⟨x5,g5,h⟩:=bnd h
    obtain ⟨n5,p05,q5⟩:=Ah g5
    refine vk (vix n5 p05 (SK q5) rfl Sh) ?_;refine vk (Ao CG) ?_;refine ar [0,2,3,5,9,10,11] ?_;refine .sr ?_;refine va ?_;refine va ?_;refine vk (A5 (Af _) (Da _) CU) ?_;refine vb ?_;refine ar [0,2,3,9,10,11] ?_;refine .sr ?_;refine va ?_;refine vb ?_;refine rk [0,2,3,9,10,11,20] ?_
    obtain ⟨x6,g6,h⟩:=bnd h
    have hc:=Ik g6
    refine cnf (dF hc) ?_;refine .gk [0,2,3,9,10,11] ?_;refine .skip ?_
    exact jr ((w64 (s2+((List.length x5:Nat):Int)))) h
   rintro z4 h
   try dsimp only at h ⊢
   subst hK2
   refine .region ?_;refine vb ?_;refine va ?_;refine .nil ?_;refine AL.gk [0,2,3,9,10,11] ?_
   exact ih (k,z4,(w64 (s3+1))) h (Nat.lt_succ_self _)
  refine cnf (dF hc) ?_;refine .gk [0,2,3] ?_;refine .exit ?_
  exact jr (s2) h
 rintro z1 h
 try dsimp only at h ⊢
 subst hK0
 refine aw ?_;refine .sr ?_;refine va ?_
 obtain ⟨x7,g7,h⟩:=bnd h
 refine clR (avs:=[.nl,.d (.i .i64 z1)]) (Xb We WX (Ik g7)) Tryz.call157 (fun r' H' hp=>?_)
 obtain ⟨rfl,rfl⟩:=hp
 refine aso ?_;refine rk [0,2,6] ?_;refine .seq ?_;refine .sr ?_;refine va ?_;refine vk (A5 (GQ _) (VC _) R7) ?_;refine va ?_;refine rk [2,6,25,26,27] ?_
 obtain ⟨K3,hK3,h⟩:=AH h
 refine AW.mr (σ:=(List Int)) (fun p=>K3 p=some r) (fun p=>[(2,.nl),(6,.own 3 (Is p))]) (fun p=>[]) ?_ ?_
 ·skip
  refine .block ?_
  refine .loop (.gk [2,6,25,26,27] ?_)
  refine AL.ind (σ:=Nat×(List Int)×Int) (m:=fun p=>p.1) (e:=fun p=>[(2,.nl),(6,.own 3 (Is p.2.1)),(25,.d (.sl (IsS a0))),(26,.d (.i .i64 ((List.length a0:Nat):Int))),(27,.d (.i .i64 p.2.2))]) (h:=fun p=>[]) (I:=fun p=>BN a0 K3 p.1 p.2.1 p.2.2=some r) ?_ (As,[],0) h
  rintro ⟨k,s9,s10⟩ h ih
  dsimp only at h ih ⊢
  rcases k with _|k
  ·rw [BN] at h;cases h
  rw [BN] at h
  refine .sr ?_;refine vb ?_;refine rk [2,6,25,26,27,28] ?_;refine .seq ?_
  rcases brc h with ⟨hc,h⟩|⟨hc,h⟩
  ·refine cnt (dT hc) ?_
   refine .sk ?_;refine .seq ?_;refine .block ?_;refine .sr ?_
   obtain ⟨x11,g11,h⟩:=bnd h
   obtain ⟨n11,p011,q11⟩:=Ah g11
   refine vk (vix n11 p011 (SK q11) rfl Sh) ?_;refine vk (Ao CG) ?_;refine ar [2,6,8,25,26,27] ?_;refine .region ?_;refine mvo ?_;refine va ?_
   obtain ⟨x12,g12,h⟩:=bnd h
   refine Ms Jg g12 L2 ?_ Ix Af DN
   refine aso ?_;refine .nil ?_;refine aw ?_;refine .gk [2,6,25,26,27] ?_;refine .region ?_;refine vb ?_;refine va ?_;refine .nil ?_;refine AL.gk [2,6,25,26,27] ?_
   exact ih (k,x12,(w64 (s10+1))) h (Nat.lt_succ_self _)
  refine cnf (dF hc) ?_;refine .gk [2,6] ?_;refine .exit ?_
  exact jr (s9) h
 rintro z8 h
 try dsimp only at h ⊢
 subst hK3
 refine aw ?_;refine .sr ?_;refine fz (p:=.t 6) ?_;refine va ?_;refine ar [2] ?_;refine .ret ?_
 cases h
 exact ⟨rfl,rfl⟩
def Cy (a0:Int) : Option (Bool):=((M5 (⟨#[226,138,130,226,138,131,226,134,145,226,136,138,226,141,139,226,141,146,226,136,170,226,137,161,226,137,162,226,141,179]⟩ : ByteArray) a0).bind fun x1=>(some (x1)))
theorem KT {a0:Int} {r:Bool} (h:Cy a0=some r) :
  Fn Tryz.prog 64 [.i .i32 a0] (.d (.b r)):=by
 unfold Cy at h
 refine Fn.o1 2 5 Tryz.func64 ?_;refine .sr ?_;refine ar [0,2] ?_;refine .sr ?_;refine va ?_
 obtain ⟨x1,g1,h⟩:=bnd h
 refine vk (Al (Qp g1) Tryz.call94) ?_;refine ar [2] ?_;refine .ret ?_
 cases h
 exact ⟨rfl,rfl⟩
def Hi (a0:Int) : Option (Bool):=((M5 (⟨#[226,138,131,226,141,179,226,136,138,126,226,136,170,226,137,161,226,137,162,226,138,164,226,138,165,226,140,183]⟩ : ByteArray) a0).bind fun x1=>(some (x1)))
theorem LA {a0:Int} {r:Bool} (h:Hi a0=some r) :
  Fn Tryz.prog 38 [.i .i32 a0] (.d (.b r)):=by
 unfold Hi at h
 refine Fn.o1 2 5 Tryz.func38 ?_;refine .sr ?_;refine ar [0,2] ?_;refine .sr ?_;refine va ?_
 obtain ⟨x1,g1,h⟩:=bnd h
 refine vk (Al (Qp g1) Tryz.call94) ?_;refine ar [2] ?_;refine .ret ?_
 cases h
 exact ⟨rfl,rfl⟩
theorem VX {p:Prop} [Decidable p] (h:p) : GV p=some ():=if_pos h
theorem CZ {α:Type} {xs:List α} {d:α} {i:Nat} (h:i<xs.length) : xs.getD i d=xs[i]:=by simp [List.getD,lG h]
theorem Qq {l:List Arr} (hl:l.length≤17592186044416) (ho:∀ a∈l,okAr a) : Eh (1,(false,[],[]),0) l=some (!l.any fun a=>!decide (Bk a)):=by
 have hc:=N2 (xs:=l) (f:=(⟨.fn 96 [] [],fun x=>DM x⟩:B3)) (p:=fun a=>!decide (Bk a)) (fun a ha=>by
  show DM a=_
  unfold DM;rw [Hv (ho a ha)];rfl) hl
 unfold Eh
 rw [if_neg (show ¬((1:Int)=0) by decide),if_pos rfl,hc];rfl
theorem Jw {a:Arr} (oa:okAr a) (ra:Bk a) : Eh (1,(false,[],[]),0) [a]=some true:=by
 rw [Qq (by simp) (by simpa using oa)];simp [ra]
def C3 (n:Nat) : List Int:=(List.range n).map fun (i:Nat)=>(i:Int)+1
theorem Bb (n:Nat) : (C3 n).length=n:=by simp [C3]
theorem LQ {n i:Nat} (h:i<(C3 n).length) : (C3 n)[i]=(i:Int)+1:=by simp [C3]
theorem KI {n:Nat} : ∀ z∈C3 n,1≤z∧z≤(n:Int):=fun z hz=>by
 simp only [C3,List.mem_map,List.mem_range] at hz
 obtain ⟨i,hi,rfl⟩:=hz
 omega
theorem KH {n:Nat} (hn:n≤4096) : ∀ z∈C3 n,Ev z:=fun z hz=>by
 have:=KI z hz
 exact ⟨by omega,by omega⟩
theorem OM {n:Nat} (hn:n≤4096) (x6:Int×Bool) (hx:x6.1=(n:Int)) (K:List Int→Option (Arr×Int)) : ∀ (m i k:Nat),m=n-i→i≤n→m<k →
  Dc (1,(false,[],[]),0) x6 K k ((C3 n).take i++(List.replicate n (0:Int)).drop i) (i:Int)=K (C3 n)
 | m,i,0,_,_,h=>by omega
 | m,i,k+1,hm,hi,hk=>by
  rw [Dc,hx,Int.toNat_natCast,List.length_replicate]
  by_cases hlt:i<n
  ·rw [if_pos (by omega),BE (by simp [Bb];omega),oB]
   show Dc _ x6 K k (List.set _ (Int.toNat (i:Int)) (w64 ((i:Int)+1))) (w64 ((i:Int)+1))=_
   have e:=Rp (L:=C3 n) (r:=List.replicate n (0:Int)) (by simp [Bb]) (show i<(C3 n).length by rw [Bb];exact hlt)
   rw [LQ] at e
   have e2:w64 ((i:Int)+1)=(i:Int)+1:=by rw [Bo (by omega)];omega
   rw [Int.toNat_natCast,e2,e]
   exact OM hn x6 hx K (m-1) (i+1) k (by omega) (by omega) (by omega)
  ·have:i=n:=by omega
   subst this
   rw [if_neg (by omega),List.take_of_length_le (by rw [Bb];omega),List.drop_of_length_le (by simp),List.append_nil]
theorem WY {n:Nat} (hn:n≤4096) : HA (1,(false,[],[]),0) (.mk [] [BH (n:Int)])=some (GR (C3 n),0):=by
 have h64:Ev (n:Int):=⟨by omega,by omega⟩
 unfold HA
 have eS:CB (Arr.mk [] [BH (n:Int)]).shape=some (1,0):=by rw [JE (by simp [Arr.shape])];rfl
 have eN:(BH (n:Int)).num=ofQ ((n:Int):Rat):=rfl
 have e0:rd? (Arr.mk [] [BH (n:Int)]).items 0=some (BH (n:Int)):=rfl
 rw [eS,oB,if_neg (by simp [Arr.shape]),if_pos rfl,e0,oB,eN,if_pos (show (BH (n:Int)).kind=1 from rfl),PJ (ES h64),oB,if_pos (by exact dT (Rat.den_intCast _)),Sd (ES h64),oB]
 have hs:¬(Ei ((n:Int):Rat) 0<0):=by
  have h0:¬(((n:Int):Rat)<0):=by
   rw [Rat.not_lt];exact_mod_cast Int.natCast_nonneg n
  unfold Ei
  rw [if_neg h0]
  split<;>decide
 rw [oB,if_neg (by rw [decide_eq_true_eq];exact hs),J7 h64,oB,if_neg (by simp;omega),VX (by omega),oB,Int.toNat_natCast]
 have:=OM hn ((n:Int),true) rfl (fun (z8:List Int)=>((GF z8).bind fun x12=>(some (x12,(0:Int))))) n 0 As rfl (Nat.zero_le _) (AY (by omega))
 rw [List.take_zero,List.nil_append,List.drop_zero,show ((0:Nat):Int)=0 from rfl] at this
 rw [Bp,this,OU (KH hn) (by rw [Bb];omega)]
 rfl
theorem S2 {xs:List (List Arr)} {f:CM} (hf:∀ x∈xs,f.g x=some false) (K:Int→Option Int) (hl:xs.length≤17592186044416) : ∀ (n i k:Nat) (s:Int),n=xs.length-i→i≤xs.length→n<k→Df xs f K k s (i:Int)=K s
 | n,i,0,s,_,_,h=>by omega
 | n,i,k+1,s,hn,hi,hk=>by
  rw [Df]
  by_cases hlt:i<xs.length
  ·rw [if_pos (by omega),BE hlt,oB,hf _ (List.getElem_mem _),oB,if_neg (by decide),Bo (by omega)]
   exact S2 hf K hl (n-1) (i+1) k s (by omega) (by omega) (by omega)
  ·rw [if_neg (by omega)]
theorem R6 {xs:List (List Arr)} {f:CM} (hf:∀ x∈xs,f.g x=some false) (hl:xs.length≤17592186044416) : Eu xs f=some false:=by
 unfold Eu HU
 rw [Bp]
 have:=S2 hf (fun _=>some (-1)) hl xs.length 0 As 0 rfl (Nat.zero_le _) (AY (by omega))
 rw [show ((0:Nat):Int)=0 from rfl] at this
 rw [this];rfl
theorem Ny {js:List Int} {n:Int} (h64:∀ z∈js,Ev z) (hin:∀ z∈js,1≤z∧z≤n) (hl:js.length≤17592186044416) (K:List Int→Int→List Int→Option (List Int×Int)) (u:List Int) (v:Int) : ∀ (m i k:Nat) (t:List Int),m=js.length-i→i≤js.length→m<k→t.length=i →
  Dj (1,(false,[],[]),0) n (js.map BH) K k u v t (i:Int)=K u v (t++(js.drop i).map fun z=>z-1)
 | m,i,0,t,_,_,h,_=>by omega
 | m,i,k+1,t,hm,hi,hk,ht=>by
  rw [Dj,List.length_map]
  by_cases hlt:i<js.length
  ·have hz:=List.getElem_mem hlt
   have e2:w64 (js[i]-1)=js[i]-1:=by have:=h64 _ hz;have:=hin _ hz;exact AX (by unfold Ev at *;omega) (by unfold Ev at *;omega)
   rw [if_pos (by omega),BE (i:=i) (by rw [List.length_map];exact hlt),oB,List.getElem_map]
   show ((FX (ofQ ((js[i]:Int):Rat))).bind _)=_
   rw [J7 (h64 _ hz),oB]
   dsimp only
   rw [e2,if_neg (by have:=hin _ hz;simp;omega),IH (by simp;omega),oB,Bo (by omega),Ny h64 hin hl K u v (m-1) (i+1) k _ (by omega) (by omega) (by omega) (by simp [ht]),lC hlt,List.map_cons,List.append_assoc]
   rfl
  ·rw [if_neg (by omega),List.drop_of_length_le (by omega)];simp
theorem Wo {a:Arr} {js:List Int} {n:Int} (hi:B9 a=some (js.map BH)) (h64:∀ z∈js,Ev z) (hin:∀ z∈js,1≤z∧z≤n) (hl:js.length≤17592186044416) : Fi (1,(false,[],[]),0) a n=some (js.map fun z=>z-1,0):=by
 unfold Fi
 rw [hi,oB,JU (p:=fun _=>false) (fun x hx=>by
  obtain ⟨z,hz,rfl⟩:=List.mem_map.1 hx
  show Fb (BH z)=_
  unfold Fb
  rw [if_pos (show (BH z).kind=1 from rfl),show (BH z).num=ofQ ((z:Int):Rat) from rfl,PJ (ES (h64 z hz)),oB,dT (Rat.den_intCast _)];rfl) (by rw [List.length_map];exact hl),oB,show ((js.map BH).any fun _=>false)=false from by simp,if_neg (by decide),Bp]
 have:=Ny h64 hin hl (fun _ _ (z5:List Int)=>some (z5,(0:Int))) [] 0 js.length 0 As [] rfl (Nat.zero_le _) (AY (by omega)) rfl
 rw [List.drop_zero,List.nil_append,show ((0:Nat):Int)=0 from rfl] at this
 exact this
theorem Ox {a1:Arr} {d:Int} (hd:rd? a1.shape 0=some d) {is:List Int} (hin:∀ z∈is,0≤z∧z≤4096) (hl:is.length≤4096) (K:List Int→Option (List Int×List Int×Int)) : ∀ (m i k:Nat) (t:List Int),m=is.length-i→i≤is.length→m<k→t.length=i →
  CY a1 0 0 is K k t (i:Int)=K (t++is.drop i)
 | m,i,0,t,_,_,h,_=>by omega
 | m,i,k+1,t,hm,hi,hk,ht=>by
  rw [CY]
  by_cases hlt:i<is.length
  ·have hz:=hin _ (List.getElem_mem hlt)
   have e:w64 (w64 (0 * d)+is[i])=is[i]:=by rw [Int.zero_mul,show w64 0=0 from rfl,Int.zero_add];exact AX (by omega) (by omega)
   rw [if_pos (by omega),BE hlt,oB,hd,oB,e,IH (by simp;omega),oB,Bo (by omega),Ox hd hin hl K (m-1) (i+1) k _ (by omega) (by omega) (by omega) (by simp [ht]),lC hlt,List.append_assoc]
   rfl
  ·rw [if_neg (by omega),List.drop_of_length_le (by omega)];simp
theorem Pr (n:Nat) (h:n≤140737488355328:=by decide) : ∃ k,As=k+n:=⟨As-n,by have:=AY h;omega⟩
theorem U0 {a1:Arr} {d:Int} (hd:rd? a1.shape 0=some d) {is:List Int} (hin:∀ z∈is,0≤z∧z≤4096) (hl:is.length≤4096) (K:List Int→Option (List Int×List Int×Int)) : Ck a1 [is] K As [0] 0=K is:=by
 obtain ⟨k,hk⟩:=Pr 2
 have h10:∀ (K9:List Int→Option (List Int×List Int×Int)),B4 a1 [0] K9 0 is As [] 0=K9 is:=fun K9=>by
  rw [hk]
  rw [B4,if_pos (by decide),Bp,show rd? [(0:Int)] 0=some 0 from rfl,oB]
  have:=Ox hd hin hl (fun z35=>B4 a1 [0] K9 0 is (k+1) z35 (w64 (0+1))) is.length 0 As [] rfl (Nat.zero_le _) (AY (by omega)) rfl
  rw [List.drop_zero,List.nil_append,show ((0:Nat):Int)=0 from rfl] at this
  rw [this,B4,if_neg (by decide)]
 rw [hk]
 rw [Ck,if_pos (by simp),Bp,show rd? [is] 0=some is from rfl,oB,Bp,h10]
 show Ck a1 [is] K (k+1) is (w64 (0+1))=_
 rw [Ck,if_neg (by rw [show w64 (0+1)=1 from rfl,List.length_singleton];decide)]
theorem UH {xs:List Itm} (h:VR xs) {g:Arr} (og:okAr g) (rg:Bk g) {is:List Int} (hi:Fi (1,(false,[],[]),0) g (xs.length:Int)=some (is,0)) (hin:∀ z∈is,0≤z∧z≤4096) (hl:is.length≤4096) {m:Int} (hm:szP g.shape=(m,0)) (hm0:m≠0) :
  Fp (1,(false,[],[]),0) (vec xs) [[g]]=some (is,g.shape,0):=by
 have og':=(BW _).1 og
 unfold Fp
 rw [R6 (fun x hx=>by
  rw [List.mem_singleton] at hx;subst hx
  show E3 [g]=_
  unfold E3
  rw [if_neg (by simp),if_pos (by simp),show rd? [g] 0=some g from rfl,oB,Hv og,dT rg];rfl) (by simp),oB,if_neg (by decide),if_pos (by simp [vec,Arr.shape]),Bp]
 obtain ⟨k,hk⟩:=Pr 2
 have e7:=U0 (a1:=vec xs) (d:=(xs.length:Int)) rfl hin hl (fun z27=>some (z27,g.shape,0))
 rw [hk,De,if_pos (by simp),Bp,show rd? [[g]] 0=some [g] from rfl,oB,show rd? (vec xs).shape 0=some (xs.length:Int) from rfl,oB,Bp,if_neg (by simp),show rd? [g] 0=some g from rfl,oB,hi,oB,if_pos rfl,oB,
  IH (by have:=og'.2.1;simpa using this),oB,IH (by simp),oB,List.nil_append,List.nil_append]
 dsimp only
 rw [De,if_neg (by rw [show w64 (0+1)=1 from rfl,List.length_singleton];decide),JE og'.2.1,hm,oB,if_pos rfl,if_neg hm0,Bp,← hk,e7]
theorem Tx {a1:Arr} {x2:List Int×List Int×Int} (hin:∀ z∈x2.1,0≤z∧z<(a1.items.length:Int)) (hl:x2.1.length≤4096) (K:List Itm→Option (Arr×Int)) : ∀ (m i k:Nat) (t:List Itm),m=x2.1.length-i→i≤x2.1.length→m<k→t.length=i →
  EJ a1 x2 K k t (i:Int)=K (t++(x2.1.drop i).map fun z=>a1.items.getD z.toNat default)
 | m,i,0,t,_,_,h,_=>by omega
 | m,i,k+1,t,hm,hi,hk,ht=>by
  rw [EJ]
  by_cases hlt:i<x2.1.length
  ·have hz:=hin _ (List.getElem_mem hlt)
   obtain ⟨j,hj⟩:∃ j:Nat,x2.1[i]=(j:Int):=⟨x2.1[i].toNat,by omega⟩
   rw [hj] at hz
   have hjl:j<a1.items.length:=by omega
   rw [if_pos (by omega),BE hlt,oB,hj,BE hjl,oB,IH (by simp;omega),oB,Bo (by omega),Tx hin hl K (m-1) (i+1) k _ (by omega) (by omega) (by omega) (by simp [ht]),lC hlt,List.map_cons,List.append_assoc,hj,Int.toNat_natCast,
    CZ hjl]
   rfl
  ·rw [if_neg (by omega),List.drop_of_length_le (by omega)];simp
theorem ZP {xs:List Itm} (h:VR xs) {q:List (List Arr)} {is sh:List Int} (hw:Fp (1,(false,[],[]),0) (vec xs) q=some (is,sh,0)) (hin:∀ z∈is,0≤z∧z<(xs.length:Int)) (hl:is.length≤4096) (h0:is≠[]) {r:Arr} {e:Int}
  (hr:AZ sh (is.map fun z=>xs.getD z.toNat default)=some (r,e)):Gc (1,(false,[],[]),0) (vec xs) q=some (r,e):=by
 unfold Gc
 rw [Jw h.ok h.2.2.2,oB,if_pos rfl,hw,oB,if_pos rfl,Bp]
 have:=Tx (a1:=vec xs) (x2:=(is,sh,0)) hin hl
  (fun z3=>jn (fun (z9:List Itm)=>((AZ sh z9).bind fun x12=>(some (x12.1,x12.2)))) fun K2=>(if ((List.length z3:Nat):Int)=0 then ((DA (vec xs)).bind fun x10=>((ap? 1466015503701 z3 [x10]).bind fun x11=>(K2 x11))) else (K2 z3)))
  is.length 0 As [] rfl (Nat.zero_le _) (AY (by omega)) rfl
 rw [List.drop_zero,List.nil_append,show ((0:Nat):Int)=0 from rfl] at this
 rw [this,Bp]
 have hne:¬(((List.length (List.map (fun z=>(vec xs).items.getD z.toNat default) is):Nat):Int)=0):=by
  have:=List.length_pos_iff.2 h0
  rw [List.length_map];omega
 rw [if_neg hne]
 show ((AZ sh (is.map fun z=>xs.getD z.toNat default)).bind _)=_
 rw [hr];rfl
theorem MJ {js:List Int} (h0:js≠[]) (hl:js.length≤4096) : GR js=vec (js.map BH):=by
 have:js.length≠0:=by simpa using h0
 unfold GR Hd vec
 rw [List.length_map,Nat.min_eq_left hl,if_neg this,List.take_of_length_le (by simpa using hl)]
theorem Xv {xs:List Itm} (h:VR xs) {js:List Int} (h0:js≠[]) (hl:js.length≤4096) (hin:∀ z∈js,1≤z∧z≤(xs.length:Int)) {r:Arr} {e:Int} (hr:AZ [(js.length:Int)] (js.map fun z=>xs.getD (z-1).toNat default)=some (r,e)) :
  Gc (1,(false,[],[]),0) (vec xs) [[GR js]]=some (r,e):=by
 have h64:∀ z∈js,Ev z:=fun z hz=>by have:=hin z hz;have:=h.2.1;exact ⟨by omega,by omega⟩
 have hpos:=List.length_pos_iff.2 h0
 have hit:B9 (GR js)=some (js.map BH):=by rw [Sx h64,List.take_of_length_le hl]
 have hsh:(GR js).shape=[(js.length:Int)]:=by rw [MJ h0 hl];simp [vec,Arr.shape]
 have hw:=UH h (P8 h64) (Nq h64) (Wo hit h64 hin (by omega)) (fun z hz=>by
  obtain ⟨y,hy,rfl⟩:=List.mem_map.1 hz
  have:=hin y hy;have:=h.2.1;omega) (by simpa using hl) (m:=(js.length:Int)) (by rw [hsh];exact Jt hl) (by omega)
 rw [hsh] at hw
 refine ZP h hw (fun z hz=>?_) (by simpa using hl) (by simpa using h0) ?_
 ·obtain ⟨y,hy,rfl⟩:=List.mem_map.1 hz
  have:=hin y hy;omega
 ·rw [List.map_map];exact hr
theorem Pj {x:Itm} : ∀ {xs:List Itm},x∈xs→cI x≤cIs xs
 | y::ys,h=>by
  rw [cIs]
  rcases List.mem_cons.1 h with rfl|h
  ·omega
  ·have:=Pj h;omega
theorem TM {x:Itm} (hr:rI x=true) (hd:dI x≤15) (hc:1+cI x≤16384) : Bk (.mk [] [x]):=by
 refine ⟨?_,?_,?_⟩
 ·rw [rA];simp [rIs,hr,KV]
 ·rw [IM]
  have:dIs [x]=dI x:=by simp [dIs]
  simp only [Arr.items,this]
  split<;>omega
 ·have:cA (.mk [] [x])=1+cI x:=by simp [cA,cIs]
  omega
theorem VR.one {xs:List Itm} (h:VR xs) {x:Itm} (hx:x∈xs) : okI x∧Bk (.mk [] [x])∧AZ [] [x]=some (.mk [] [x],0):=by
 have hi:=h.items x hx
 have hp:=h.parts
 have hd:=Jx hx
 have hc:=Pj hx
 have hpos:=h.pos
 have r:=TM hi.2.1 (by omega) (by omega)
 refine ⟨hi.1,r,?_⟩
 rw [JF (by simp) (by simp) (by simp) (by simpa using hi.1),if_neg (by rw [KV];simp),if_neg (by simp [hi.2]),KV,show CK 1 [x]=[x] from Ih (n:=1) rfl (by decide),if_pos r]
end Go.FL
namespace Go.FL
open Go
structure Ord3 {α:Type} (c:α→α→Int) : Prop where
 asym:∀ x y,c x y<0→¬c y x<0
 trans:∀ x y z,¬c y x<0→¬c z y<0→¬c z x<0
def leC {α:Type} (c:α→α→Int) (x y:α) : Prop:=¬c y x<0
abbrev CH {α:Type} (c:α→α→Int) (l:List α) : Prop:=l.Pairwise (leC c)
section
variable {α:Type} {c:α→α→Int}
theorem Ord3.refl (h:Ord3 c) (x:α) : leC c x x:=fun hx=>h.asym x x hx hx
theorem Ord3.le_of_lt (h:Ord3 c) {x y:α} (hx:c x y<0) : leC c x y:=h.asym x y hx
theorem Ut {A1 A2 B1 B2 C1 C2:List α} (hA:CH c (A1++A2)) (hB:CH c (B1++B2)) (h1:∀ x∈A1,∀ y∈B2,leC c x y) (h2:∀ x∈B1,∀ y∈A2,leC c x y)
  (p1:C1.Perm (A1++B1)) (p2:C2.Perm (A2++B2)) (s1:CH c C1) (s2:CH c C2):CH c (C1++C2)∧(C1++C2).Perm ((A1++A2)++(B1++B2)):=by
 obtain ⟨_,_,hA3⟩:=List.pairwise_append.1 hA
 obtain ⟨_,_,hB3⟩:=List.pairwise_append.1 hB
 refine ⟨List.pairwise_append.2 ⟨s1,s2,fun x hx y hy=>?_⟩,?_⟩
 ·rcases List.mem_append.1 (p1.mem_iff.1 hx) with hx|hx<;>rcases List.mem_append.1 (p2.mem_iff.1 hy) with hy|hy
  ·exact hA3 x hx y hy
  ·exact h1 x hx y hy
  ·exact h2 x hx y hy
  ·exact hB3 x hx y hy
 ·refine (p1.append p2).trans ?_
  rw [List.append_assoc,List.append_assoc]
  refine List.Perm.append_left A1 ?_
  rw [← List.append_assoc,← List.append_assoc]
  exact List.Perm.append_right B2 List.perm_append_comm
theorem QI (ho:Ord3 c) {A:List α} {x y:α} (hA:CH c (A++[y])) (h:leC c y x) : ∀ z∈A++[y],leC c z x:=fun z hz=>by
 rcases List.mem_append.1 hz with hz|hz
 ·exact ho.trans z y x ((List.pairwise_append.1 hA).2.2 z hz y (by simp)) h
 ·simp at hz;subst hz;exact h
theorem P9 {B1 B2:List α} {x:α} (hB:CH c (B1++B2)) (h1:∀ y∈B1,leC c y x) (h2:∀ y∈B2,leC c x y) : CH c (B1++x::B2):=by
 obtain ⟨b1,b2,b3⟩:=List.pairwise_append.1 hB
 refine List.pairwise_append.2 ⟨b1,List.pairwise_cons.2 ⟨h2,b2⟩,fun z hz y hy=>?_⟩
 rcases List.mem_cons.1 hy with rfl|hy
 ·exact h1 z hz
 ·exact b3 z hz y hy
theorem Kw (ho:Ord3 c) {B:List α} (hB:CH c B) {x:α} (i:Nat) (h:i=0∨∃ y,B[i-1]?=some y∧leC c y x) : ∀ z∈B.take i,leC c z x:=fun z hz=>by
 rcases h with rfl|⟨y,hy,hyx⟩
 ·simp at hz
 obtain ⟨j,hj,rfl⟩:=List.mem_iff_getElem.1 hz
 rw [List.length_take] at hj
 obtain ⟨hl,hy⟩:=lS.1 hy
 rw [List.getElem_take]
 by_cases he:j=i-1
 ·subst he;rw [hy];exact hyx
 ·refine ho.trans _ y x ?_ hyx
  have:=List.pairwise_iff_getElem.1 hB j (i-1) (by omega) hl (by omega)
  rw [hy] at this;exact this
theorem Le (ho:Ord3 c) {B:List α} (hB:CH c B) {x:α} (i:Nat) (h:B.length≤i∨∃ y,B[i]?=some y∧leC c x y) : ∀ z∈B.drop i,leC c x z:=fun z hz=>by
 rcases h with h|⟨y,hy,hyx⟩
 ·rw [List.drop_eq_nil_of_le h] at hz;simp at hz
 obtain ⟨j,hj,rfl⟩:=List.mem_iff_getElem.1 hz
 rw [List.length_drop] at hj
 obtain ⟨hl,hy⟩:=lS.1 hy
 rw [List.getElem_drop]
 by_cases he:j=0
 ·subst he;rw [show B[i+0]=y from hy];exact hyx
 ·refine ho.trans x y _ hyx ?_
  have:=List.pairwise_iff_getElem.1 hB i (i+j) hl (by omega) (by omega)
  rw [hy] at this;exact this
end
theorem Xj {α:Type} (P:List α) (x:α) (T:List α) : (P++x::T)[P.length]?=some x:=by simp
end Go.FL
namespace Go.FL
open Go
structure Cmp3 {α:Type} (f:α→α→Int) : Prop where
 vals:∀ x y,f x y=-1∨f x y=0∨f x y=1
 anti:∀ x y,f y x=- f x y
 trans:∀ x y z,f x y≤0→f y z≤0→f x z≤0
theorem Cmp3.zero {α:Type} {f:α→α→Int} (h:Cmp3 f) {x y z:α} (h1:f x y≤0) (h2:f y z≤0) (h3:f x z=0) : f x y=0∧f y z=0:=by
 have a1:=h.anti x z
 have a2:=h.anti x y
 have a3:=h.anti y z
 have t1:=h.trans z x y (by omega) h1
 have t2:=h.trans y z x h2 (by omega)
 omega
theorem Cmp3.map {α β:Type} {f:β→β→Int} (h:Cmp3 f) (g:α→β) : Cmp3 fun x y=>f (g x) (g y):=⟨fun x y=>h.vals _ _,fun x y=>h.anti _ _,fun x y z=>h.trans _ _ _⟩
theorem Cmp3.ord {α:Type} {f:α→α→Int} (h:Cmp3 f) : Ord3 f:=by
 refine ⟨fun x y h1=>?_,fun x y z h1 h2=>?_⟩
 ·have:=h.anti x y;omega
 ·have a1:=h.anti x y
  have a2:=h.anti y z
  have a3:=h.anti x z
  have:=h.trans x y z (by omega) (by omega)
  omega
theorem Cmp3.neg {α:Type} {f:α→α→Int} (h:Cmp3 f) : Cmp3 fun x y=>- f x y:=by
 refine ⟨fun x y=>?_,fun x y=>?_,fun x y z h1 h2=>?_⟩
 ·have:=h.vals x y;omega
 ·have:=h.anti x y;omega
 ·have a1:=h.anti x y
  have a2:=h.anti y z
  have a3:=h.anti x z
  have:=h.trans z y x (by omega) (by omega)
  omega
def sg3 (a b:Int) : Int:=if a<b then -1 else if b<a then 1 else 0
theorem Rw (a b:Int) : sg3 a b=-1∨sg3 a b=0∨sg3 a b=1:=by
 unfold sg3
 split
 ·simp
 ·split<;>simp
theorem J2 {a b:Int} : sg3 a b≤0↔a≤b:=by
 unfold sg3
 split
 ·omega
 ·split<;>omega
theorem MH : Cmp3 sg3:=by
 refine ⟨Rw,fun x y=>?_,fun x y z h1 h2=>?_⟩
 ·unfold sg3
  by_cases h1:x<y
  ·rw [if_pos h1,if_neg (by omega),if_pos h1];rfl
  ·by_cases h2:y<x
   ·rw [if_pos h2,if_neg h1,if_pos h2]
   ·rw [if_neg h1,if_neg h2,if_neg h2,if_neg h1];rfl
 ·rw [J2] at *;omega
def or3 (a b:Int) : Int:=if a=0 then b else a
theorem Cmp3.or {α:Type} {f g:α→α→Int} (hf:Cmp3 f) (hg:Cmp3 g) : Cmp3 fun x y=>or3 (f x y) (g x y):=by
 refine ⟨fun x y=>?_,fun x y=>?_,fun x y z h1 h2=>?_⟩
 ·unfold or3;split
  ·exact hg.vals x y
  ·exact hf.vals x y
 ·have a1:=hf.anti x y
  have a2:=hg.anti x y
  unfold or3
  by_cases h:f x y=0
  ·rw [if_pos h,if_pos (by omega)];exact a2
  ·rw [if_neg h,if_neg (by omega)];exact a1
 ·unfold or3 at *
  have b1:f x y≤0:=by split at h1<;>omega
  have b2:f y z≤0:=by split at h2<;>omega
  have b3:=hf.trans x y z b1 b2
  split
  ·rename_i h
   obtain ⟨e1,e2⟩:=hf.zero b1 b2 h
   rw [if_pos e1] at h1
   rw [if_pos e2] at h2
   exact hg.trans x y z h1 h2
  ·exact b3
def EK {α:Type} (f:α→α→Int) : List α→List α→Int
 | [],[]=>0
 | [],_::_=>-1
 | _::_,[]=>1
 | x::xs,y::ys=>or3 (f x y) (EK f xs ys)
theorem OC {α:Type} {f:α→α→Int} (h:Cmp3 f) : ∀ xs ys,EK f xs ys=-1∨EK f xs ys=0∨EK f xs ys=1
 | [],[]=>by simp [EK]
 | [],_::_=>by simp [EK]
 | _::_,[]=>by simp [EK]
 | x::xs,y::ys=>by
  rw [EK];unfold or3;split
  ·exact OC h xs ys
  ·exact h.vals x y
theorem O8 {α:Type} {f:α→α→Int} (h:Cmp3 f) : ∀ xs ys,EK f ys xs=- EK f xs ys
 | [],[]=>rfl
 | [],_::_=>rfl
 | _::_,[]=>rfl
 | x::xs,y::ys=>by
  rw [EK,EK,O8 h xs ys]
  have a1:=h.anti x y
  unfold or3
  by_cases h0:f x y=0
  ·rw [if_pos h0,if_pos (by omega)]
  ·rw [if_neg h0,if_neg (by omega)];exact a1
theorem Nu {α:Type} {f:α→α→Int} (h:Cmp3 f) : ∀ xs ys zs,EK f xs ys≤0→EK f ys zs≤0→EK f xs zs≤0
 | [],_,[],_,_=>by simp [EK]
 | [],_,_::_,_,_=>by simp [EK]
 | _::_,[],_,h1,_=>by simp [EK] at h1
 | _::_,_::_,[],_,h2=>by simp [EK] at h2
 | x::xs,y::ys,z::zs,h1,h2=>by
  rw [EK] at *
  have ih:=Nu h xs ys zs
  unfold or3 at *
  have b1:f x y≤0:=by split at h1<;>omega
  have b2:f y z≤0:=by split at h2<;>omega
  have b3:=h.trans x y z b1 b2
  split
  ·rename_i h0
   obtain ⟨e1,e2⟩:=h.zero b1 b2 h0
   rw [if_pos e1] at h1
   rw [if_pos e2] at h2
   exact ih h1 h2
  ·exact b3
theorem Ri {α:Type} {f:α→α→Int} (h:Cmp3 f) : Cmp3 (EK f):=⟨OC h,O8 h,Nu h⟩
theorem Cmp3.kinds {α:Type} {k:α→Int} {g:Int→α→α→Int} (hg:∀ n,Cmp3 (g n)) : Cmp3 fun x y=>if k x=k y then g (k x) x y else sg3 (k x) (k y):=by
 refine ⟨fun x y=>?_,fun x y=>?_,fun x y z h1 h2=>?_⟩
 ·split
  ·exact (hg _).vals x y
  ·exact Rw _ _
 ·by_cases h:k x=k y
  ·rw [if_pos h,if_pos h.symm,h];exact (hg _).anti x y
  ·rw [if_neg h,if_neg fun q=>h q.symm];exact MH.anti _ _
 ·by_cases e1:k x=k y
  ·rw [if_pos e1] at h1
   by_cases e2:k y=k z
   ·rw [if_pos e2] at h2
    rw [if_pos (e1.trans e2)]
    rw [← e1] at h2
    exact (hg _).trans x y z h1 h2
   ·rw [if_neg e2,J2] at h2
    rw [if_neg (by omega),J2];omega
  ·rw [if_neg e1,J2] at h1
   by_cases e2:k y=k z
   ·rw [if_neg (by omega),J2];omega
   ·rw [if_neg e2,J2] at h2
    rw [if_neg (by omega),J2];omega
end Go.FL
namespace Go.FL
open Go Go.Proofs
theorem UK : Cmp3 Ei:=by
 refine ⟨OR,fun p q=>?_,fun p q r h1 h2=>?_⟩
 ·unfold Ei
  by_cases h1:p<q
  ·rw [if_neg (Rat.not_lt.2 (Rat.le_of_lt h1)),if_neg (fun h=>by subst h;exact Rat.lt_irrefl h1),if_pos h1];rfl
  ·by_cases h2:p=q
   ·subst h2;rw [if_neg h1,if_pos rfl];rfl
   ·have h3:q<p:=Rat.lt_of_le_of_ne (Rat.not_lt.1 h1) (fun h=>h2 h.symm)
    rw [if_pos h3,if_neg h1,if_neg h2]
 ·have le:∀ {p q:Rat},Ei p q≤0↔p≤q:=fun {p q}=>by
   unfold Ei
   by_cases h1:p<q
   ·rw [if_pos h1];exact ⟨fun _=>Rat.le_of_lt h1,fun _=>by decide⟩
   ·by_cases h2:p=q
    ·subst h2;rw [if_neg h1,if_pos rfl];exact ⟨fun _=>Rat.le_refl,fun _=>by decide⟩
    ·rw [if_neg h1,if_neg h2]
     exact ⟨fun h=>absurd h (by decide),fun h=>absurd (Rat.lt_of_le_of_ne h h2) h1⟩
  rw [le] at *
  exact Rat.le_trans h1 h2
def Ga : Nat→Itm→Itm→Int
 | 0,_,_=>0
 | k+1,x,y=>if x.kind=y.kind then (fun (n:Int) (x y:Itm)=>if n=1 then Ei (Kl (rq x.num)) (Kl (rq y.num)) else if n=2 then sg3 x.char y.char else
   or3 (or3 (sg3 (x.box.headD default).shape.length (y.box.headD default).shape.length) (EK sg3 (x.box.headD default).shape (y.box.headD default).shape)) (EK (Ga k) (x.box.headD default).items (y.box.headD default).items)) x.kind x y else sg3 x.kind y.kind
theorem Jo : ∀ k,Cmp3 (Ga k)
 | 0=>⟨fun _ _=>by simp [Ga],fun _ _=>rfl,fun _ _ _ _ _=>by simp [Ga]⟩
 | k+1=>by
  have ih:=Jo k
  have hk:Cmp3 fun x y=>Ga (k+1) x y:=by
   simp only [Ga]
   refine Cmp3.kinds (k:=Itm.kind) (g:=fun (n:Int) (x y:Itm)=>if n=1 then Ei (Kl (rq x.num)) (Kl (rq y.num)) else if n=2 then sg3 x.char y.char else
    or3 (or3 (sg3 (x.box.headD default).shape.length (y.box.headD default).shape.length) (EK sg3 (x.box.headD default).shape (y.box.headD default).shape)) (EK (Ga k) (x.box.headD default).items (y.box.headD default).items)) fun n=>?_
   by_cases h1:n=1
   ·simp only [h1,if_true];exact UK.map fun x:Itm=>Kl (rq x.num)
   ·by_cases h2:n=2
    ·simp only [h2,if_true,show ¬((2:Int)=1) by decide,if_false];exact MH.map Itm.char
    ·simp only [h1,h2,if_false]
     exact ((MH.map fun x:Itm=>((x.box.headD default).shape.length:Int)).or ((Ri MH).map fun x:Itm=>(x.box.headD default).shape)).or ((Ri ih).map fun x:Itm=>(x.box.headD default).items)
  exact hk
theorem Pb (a b:Int) : C7 a b=some (sg3 a b):=by
 unfold C7 Et sg3
 simp
 split
 ·rfl
 ·split<;>rfl
theorem SC (a b:Int) : Dn a b=some (sg3 a b):=by
 unfold Dn Ef sg3
 simp
 split
 ·rfl
 ·split<;>rfl
theorem R5 (a b:Int) : BK a b=some (sg3 a b):=by
 unfold BK B7 sg3
 simp
 split
 ·rfl
 ·split<;>rfl
theorem VS (a b c:Int) : Gx [a,b,c]=some (or3 (or3 a b) c):=by
 obtain ⟨k,hk⟩:=Pr 4
 unfold Gx
 rw [Bp,hk,Ci,if_pos (by simp),show rd? [a,b,c] 0=some a from rfl,oB]
 unfold or3
 by_cases ha:a=0
 ·rw [if_pos ha,if_pos ha,show w64 (0+1)=1 from rfl,Ci,if_pos (by simp),show rd? [a,b,c] 1=some b from rfl,oB]
  by_cases hb:b=0
  ·rw [if_pos hb,if_pos hb,show w64 (1+1)=2 from rfl,Ci,if_pos (by simp),show rd? [a,b,c] 2=some c from rfl,oB]
   by_cases hc:c=0
   ·rw [if_pos hc,show w64 (2+1)=3 from rfl,Ci,if_neg (by simp),hc]
   ·rw [if_neg hc]
  ·rw [if_neg hb,if_neg hb]
 ·rw [if_neg ha,if_neg ha,if_neg ha]
theorem Hr {xs ys:List Int} (hl:xs.length≤17592186044416) (K:Int→Option Int) (hK:∀ s,K s=if ((List.length xs:Nat) : Int)<((List.length ys:Nat) : Int) then some (-1) else some 0) : ∀ (n i k:Nat) (s:Int),n=xs.length-i→i≤xs.length→i≤ys.length→n<k →
  A3 xs ys K k s (i:Int)=some (EK sg3 (xs.drop i) (ys.drop i))
 | n,i,0,s,_,_,_,h=>by omega
 | n,i,k+1,s,hn,hi,hj,hk=>by
  rw [A3]
  by_cases hlt:i<xs.length
  ·rw [if_pos (by omega),BE hlt,oB,lC hlt]
   by_cases hlt2:i<ys.length
   ·rw [if_neg (by omega),BE hlt2,oB,Pb,oB,lC hlt2,EK,Bo (by omega)]
    unfold or3
    by_cases h0:sg3 xs[i] ys[i]=0
    ·rw [if_pos h0,if_pos h0];exact Hr hl K hK (n-1) (i+1) k s (by omega) (by omega) (by omega) (by omega)
    ·rw [if_neg h0,if_neg h0]
   ·rw [if_pos (by omega),show ys.drop i=[] from List.drop_of_length_le (by omega)];rfl
  ·rw [if_neg (by omega),hK,show xs.drop i=[] from List.drop_of_length_le (by omega)]
   by_cases hlt2:i<ys.length
   ·rw [if_pos (by omega),lC hlt2];rfl
   ·rw [if_neg (by omega),show ys.drop i=[] from List.drop_of_length_le (by omega)];rfl
theorem M8 {xs ys:List Int} (hl:xs.length≤17592186044416) : B8 xs ys=some (EK sg3 xs ys):=by
 unfold B8
 rw [Bp]
 exact Hr hl _ (fun _=>rfl) xs.length 0 As 0 rfl (Nat.zero_le _) (Nat.zero_le _) (AY (by omega))
theorem IE {xs ys:List Itm} {f:CC} {c:Itm→Itm→Int} (hf:∀ x∈xs,∀ y∈ys,f.g (x,y)=some (c x y)) (hl:xs.length≤17592186044416) (K:Int→Option Int) (hK:∀ s,K s=if ((List.length xs:Nat) : Int)<((List.length ys:Nat) : Int) then some (-1) else some 0) : ∀ (n i k:Nat) (s:Int),n=xs.length-i→i≤xs.length→i≤ys.length→n<k →
  Aj xs ys f K k s (i:Int)=some (EK c (xs.drop i) (ys.drop i))
 | n,i,0,s,_,_,_,h=>by omega
 | n,i,k+1,s,hn,hi,hj,hk=>by
  rw [Aj]
  by_cases hlt:i<xs.length
  ·rw [if_pos (by omega),BE hlt,oB,lC hlt]
   by_cases hlt2:i<ys.length
   ·rw [if_neg (by omega),BE hlt2,oB,hf _ (List.getElem_mem _) _ (List.getElem_mem _),oB,lC hlt2,EK,Bo (by omega)]
    unfold or3
    by_cases h0:c xs[i] ys[i]=0
    ·rw [if_pos h0,if_pos h0];exact IE hf hl K hK (n-1) (i+1) k s (by omega) (by omega) (by omega) (by omega)
    ·rw [if_neg h0,if_neg h0]
   ·rw [if_pos (by omega),show ys.drop i=[] from List.drop_of_length_le (by omega)];rfl
  ·rw [if_neg (by omega),hK,show xs.drop i=[] from List.drop_of_length_le (by omega)]
   by_cases hlt2:i<ys.length
   ·rw [if_pos (by omega),lC hlt2];rfl
   ·rw [if_neg (by omega),show ys.drop i=[] from List.drop_of_length_le (by omega)];rfl
theorem N7 {xs ys:List Itm} {f:CC} {c:Itm→Itm→Int} (hf:∀ x∈xs,∀ y∈ys,f.g (x,y)=some (c x y)) (hl:xs.length≤17592186044416) : Ay xs ys f=some (EK c xs ys):=by
 unfold Ay
 rw [Bp]
 exact IE hf hl _ (fun _=>rfl) xs.length 0 As 0 rfl (Nat.zero_le _) (Nat.zero_le _) (AY (by omega))
theorem Ti : ∀ (k K:Nat) {x y:Itm},x.size<k→x.size<K→okI x→Br x→okI y→Br y→Fq k x y=some (Ga K x y)
 | 0,_,x,y,h,_,_,_,_,_=>by omega
 | k+1,0,x,y,_,h,_,_,_,_=>by omega
 | k+1,K+1,x,y,h1,h2,ox,rx,oy,ry=>by
  rw [Fq]
  unfold HC
  rw [Ga]
  by_cases hk:x.kind=y.kind
  rotate_left
  ·rw [if_neg hk,if_neg hk,R5];rfl
  rw [if_pos hk,if_pos hk]
  dsimp only
  rcases Fc rx.1 with ⟨kx,qx,_,_⟩|⟨kx,_,_,_⟩|⟨kx,_,_,a,hb,hs,hr⟩
  ·obtain ⟨p,fp,ep⟩:=Lp.1 qx
   rcases Fc ry.1 with ⟨_,qy,_,_⟩|⟨ky,_⟩|⟨ky,_⟩
   ·obtain ⟨q,fq,eq⟩:=Lp.1 qy
    rw [if_pos kx,if_pos kx,ep,eq,TU fp fq,H7,H7];rfl
   ·omega
   ·omega
  ·rw [if_neg (by omega),if_pos kx,if_neg (by omega),if_pos kx,SC];rfl
  ·rcases Fc ry.1 with ⟨ky,_⟩|⟨ky,_⟩|⟨ky,_,_,b,hc,hs2,hr2⟩
   ·omega
   ·omega
   have ma:a∈x.box:=by rw [hb];simp
   have mb:b∈y.box:=by rw [hc];simp
   obtain ⟨oa,ra,_,_⟩:=Ju ox rx a ma
   obtain ⟨ob,rb,_,_⟩:=Ju oy ry b mb
   have oa':=(BW a).1 oa
   rw [if_neg (by omega),if_neg (by omega),if_neg (by omega),if_neg (by omega),hb,hc,show rd? [a] 0=some a from rfl,oB,show rd? [b] 0=some b from rfl,oB,Pb,oB,M8 oa'.2.1,oB,
    N7 (c:=Ga K) (fun u hu v hv=>by
     have s1:=HT hu
     have s2:=Hy ma
     have u2:=FQ oa ra hu
     have v2:=FQ ob rb hv
     exact Ti k K (x:=u) (y:=v) (by omega) (by omega) u2.1 u2.2 v2.1 v2.2) (by omega),oB,VS,oB]
   rfl
theorem RD {K:Nat} {x y:Itm} (hK:x.size<K) (ox:okI x) (rx:Br x) (oy:okI y) (ry:Br y) : KW x y=some (Ga K x y):=Ti _ _ (Nat.lt_succ_self _) hK ox rx oy ry
theorem RB {x:Itm} (ox:okI x) (h:¬Br x) : DC x=some (.mk [] []):=by
 unfold DC
 rw [HV ox,oB,dF h,if_neg (by decide)]
theorem UQ {K:Nat} {x y:Itm} (hK:x.size<K) (ox:okI x) (oy:okI y) : Fw x y=some (if Br x∧Br y then Ga K x y else 0):=by
 unfold Fw
 by_cases rx:Br x
 rotate_left
 ·rw [RB ox rx,oB,if_pos (show ((List.length (Arr.mk [] []).items:Nat):Int)=0 from rfl),oB,if_pos rfl,if_neg (fun q=>rx q.1)]
 obtain ⟨e1,_,e3⟩:=LY ⟨ox,rx⟩
 have p1:=JB e3
 rw [e1,oB,if_neg (by omega)]
 by_cases ry:Br y
 rotate_left
 ·rw [RB oy ry,oB,oB,if_pos (by rfl),if_neg (fun q=>ry q.2)]
 obtain ⟨f1,_,f3⟩:=LY ⟨oy,ry⟩
 have p2:=JB f3
 rw [f1,oB,oB,if_neg (by rw [decide_eq_true_eq];omega),RD hK ox rx oy ry,if_pos ⟨rx,ry⟩];rfl
theorem Kz {i j:Nat} (h:i+j≤100000) : IntKind.wrap .i64 ((IntKind.wrap .u64 (w64 ((i:Int)+(j:Int)))) / 2 ^ min (Int.toNat 1) (IntKind.bits .u64))=(((i+j) / 2 : Nat) : Int):=by
 rw [AX (by omega) (by omega)]
 have e1:IntKind.wrap .u64 ((i:Int)+(j:Int))=(i:Int)+(j:Int):=by
  show ((i:Int)+(j:Int)) % 18446744073709551616=_
  exact Int.emod_eq_of_lt (by omega) (by omega)
 have e2:(2:Int) ^ min (Int.toNat 1) (IntKind.bits .u64)=2:=rfl
 rw [e1,e2,I5 (by omega) (by omega)]
 omega
theorem F6 {P T:List Int} {x:Int} {i:Nat} (h:P.length=i) : rd? (P++x::T) (i:Int)=some x:=by
 subst h;exact VP (Xj P x T)
theorem FZ {P T:List Int} {x y:Int} {i:Nat} (h:P.length=i) : List.set (P++x::T) (Int.toNat (i:Int)) y=P++y::T:=by
 subst h;rw [Int.toNat_natCast];simp
section
variable {c:Int→Int→Int} {f:Ad} {D:Int→Prop}
theorem Wn (hc:Ord3 c) (hf:∀ x y,D x→D y→f.g (x,y)=some (c x y)) {P T:List Int} {x:Int} (hx:D x) (K:List Int→Option (List Int)) : ∀ (n:Nat) (L R:List Int) (k:Nat),L.length=n→n<k→P.length+L.length≤5000→(∀ z∈L,D z)→CH c (L++R)→(∀ y∈R,leC c x y) →
  ∃ S,S.Perm (L++x::R)∧CH c S∧Ca (P.length:Int) f K k (P++(L++x::R)++T) ((P.length+L.length:Nat):Int)=K (P++S++T)
 | n,L,R,0,_,h,_,_,_,_=>by omega
 | 0,L,R,k+1,hn,_,hl,hD,hs,hR=>by
  have:L=[]:=List.length_eq_zero_iff.1 hn
  subst this
  refine ⟨x::R,List.Perm.refl _,List.pairwise_cons.2 ⟨hR,hs⟩,?_⟩
  rw [Ca,if_neg (by simp),oB,if_neg (by decide)];rfl
 | n+1,L,R,k+1,hn,hk,hl,hD,hs,hR=>by
  obtain ⟨L0,y,rfl⟩:∃ L0 y,L=L0++[y]:=by
   rcases List.eq_nil_or_concat L with rfl|⟨l',b,h⟩
   ·simp at hn
   ·exact ⟨l',b,by rw [h];simp⟩
  have hl0:L0.length=n:=by simp at hn;exact hn
  have hl1:(L0++[y]).length=L0.length+1:=by simp
  have e0:P++((L0++[y])++x::R)++T=(P++L0)++y::(x::(R++T)):=by simp
  have e1:P++((L0++[y])++x::R)++T=(P++L0++[y])++x::(R++T):=by simp
  have w1:w64 (((P.length+(L0++[y]).length:Nat):Int)-1)=((P.length+L0.length:Nat):Int):=by rw [AX (by omega) (by omega),hl1];omega
  have r1:rd? (P++((L0++[y])++x::R)++T) ((P.length+(L0++[y]).length:Nat):Int)=some x:=by rw [e1];exact F6 (by simp [Nat.add_assoc])
  have r0:rd? (P++((L0++[y])++x::R)++T) ((P.length+L0.length:Nat):Int)=some y:=by rw [e0];exact F6 (by simp)
  have hy:D y:=hD y (by simp)
  rw [Ca,if_pos (by rw [hl1];omega),r1,oB,w1,r0,oB,hf x y hx hy,oB,oB]
  by_cases hlt:c x y<0
  ·have s1:List.set (P++((L0++[y])++x::R)++T) (Int.toNat ((P.length+(L0++[y]).length:Nat):Int)) y=(P++L0)++y::(y::(R++T)):=by
    rw [e1,FZ (by simp [Nat.add_assoc])];simp
   have s2:List.set ((P++L0)++y::(y::(R++T))) (Int.toNat ((P.length+L0.length:Nat):Int)) x=P++(L0++x::(y::R))++T:=by
    rw [FZ (by simp)];simp
   have r2:rd? ((P++L0)++y::(y::(R++T))) ((P.length+L0.length:Nat):Int)=some y:=F6 (by simp)
   have hs':CH c (L0++y::R):=by have:=hs;rw [List.append_assoc] at this;exact this
   obtain ⟨S,p1,p2,p3⟩:=Wn hc hf (P:=P) (T:=T) hx K n L0 (y::R) k hl0 (by omega) (by omega) (fun z hz=>hD z (by simp [hz])) hs' (fun z hz=>by
    rcases List.mem_cons.1 hz with rfl|hz
    ·exact hc.le_of_lt hlt
    ·exact hR z hz)
   refine ⟨S,p1.trans ?_,p2,?_⟩
   ·rw [List.append_assoc]
    exact List.Perm.append_left L0 (List.Perm.swap y x R)
   ·rw [if_pos (dT hlt),oB,oB,oB,s1,r2,oB,s2]
    exact p3
  ·refine ⟨(L0++[y])++x::R,List.Perm.refl _,?_,?_⟩
   ·have hA:=(List.pairwise_append.1 hs).1
    exact P9 hs (QI hc hA hlt) hR
   ·rw [if_neg (by simpa using hlt)]
theorem Wf (hc:Ord3 c) (hf:∀ x y,D x→D y→f.g (x,y)=some (c x y)) {P T:List Int} {b:Int} : ∀ (B A:List Int) (k:Nat),B.length<k→P.length+A.length+B.length≤5000→b=((P.length+A.length+B.length:Nat) : Int)→(∀ z∈A,D z)→(∀ z∈B,D z)→CH c A →
  ∃ S,S.Perm (A++B)∧CH c S∧Bw (P.length:Int) b f k (P++(A++B)++T) ((P.length+A.length:Nat):Int)=some (P++S++T)
 | B,A,0,h,_,_,_,_,_=>by omega
 | [],A,k+1,_,hl,hb,hA,hB,hs=>by
  refine ⟨A,by simp,hs,?_⟩
  rw [Bw,if_neg (by rw [hb];simp),List.append_nil]
 | x::B,A,k+1,hk,hl,hb,hA,hB,hs=>by
  have hk':B.length+1<k+1:=hk
  have hl':P.length+A.length+(B.length+1)≤5000:=hl
  have e0:P++(A++x::B)++T=P++(A++x::[])++(B++T):=by simp
  obtain ⟨S,p1,p2,p3⟩:=Wn hc hf (P:=P) (T:=B++T) (hB x (by simp)) (fun z3=>Bw (P.length:Int) b f k z3 (w64 (((P.length+A.length:Nat):Int)+1))) A.length A [] As rfl (AY (by omega)) (by omega) hA (by simpa using hs) (by simp)
  have hS:S.length=A.length+1:=by rw [p1.length_eq];simp
  have hD:∀ z∈S,D z:=fun z hz=>by
   rcases List.mem_append.1 (p1.mem_iff.1 hz) with h|h
   ·exact hA z h
   ·rw [List.mem_singleton] at h;subst h;exact hB _ (by simp)
  obtain ⟨S',q1,q2,q3⟩:=Wf hc hf (P:=P) (T:=T) (b:=b) B S k (by omega) (by omega) (by rw [hb,hS,List.length_cons];omega) hD (fun z hz=>hB z (by simp [hz])) p2
  refine ⟨S',q1.trans ?_,q2,?_⟩
  ·have:=List.Perm.append_right B p1
   simpa using this
  ·rw [Bw,if_pos (by rw [hb,List.length_cons];omega),Bp,e0,p3]
   have e1:P++S++(B++T)=P++(S++B)++T:=by simp
   rw [Bo (by omega),e1,show P.length+A.length+1=P.length+S.length by omega]
   exact q3
theorem KQ (hc:Ord3 c) (hf:∀ x y,D x→D y→f.g (x,y)=some (c x y)) {P M T:List Int} (hl:P.length+M.length≤5000) (hD:∀ z∈M,D z) :
  ∃ S,S.Perm M∧CH c S∧DD (P++M++T) (P.length:Int) ((P.length+M.length:Nat):Int) f=some (P++S++T):=by
 unfold DD
 cases M with
 | nil =>
  obtain ⟨k,hk⟩:=Pr 1
  refine ⟨[],List.Perm.refl _,List.Pairwise.nil,?_⟩
  rw [hk,Bw,if_neg (by rw [Bo (by omega)];simp;omega)]
 | cons x M =>
  have hl':P.length+(M.length+1)≤5000:=hl
  obtain ⟨S,p1,p2,p3⟩:=Wf hc hf (P:=P) (T:=T) (b:=((P.length+(x::M).length:Nat):Int)) M [x] As (AY (by omega)) (by simp;omega) (by simp;omega) (fun z hz=>hD z (by rw [List.mem_singleton] at hz;simp [hz])) (fun z hz=>hD z (by simp [hz])) (by simp)
  exact ⟨S,p1,p2,by rw [Bo (by omega)];exact p3⟩
end
theorem Ns {a b n:Int} {P Q T:List Int} : ∀ (X2 Y2 X1 Y1:List Int) (k:Nat),X2.length<k→X2.length=Y2.length→X1.length=Y1.length→a=(P.length:Int)→b=((P.length+Y1.length+X2.length+Q.length:Nat) : Int)→n=((Y1.length+Y2.length:Nat) : Int)→P.length+Y1.length+X2.length+Q.length+X1.length+Y2.length≤20000 →
  Cb a b n k (P++(Y1++(X2++(Q++(X1++(Y2++T)))))) (Y1.length:Int)=some (P++(Y1++Y2++(Q++(X1++X2++T))))
 | _,_,_,_,0,h,_,_,_,_,_,_=>by omega
 | [],[],X1,Y1,k+1,_,_,_,_,_,hn,_=>by
  rw [Cb,if_neg (by rw [hn];simp)];simp
 | [],_::_,_,_,_,_,h,_,_,_,_,_=>by simp at h
 | _::_,[],_,_,_,_,h,_,_,_,_,_=>by simp at h
 | x::X2,y::Y2,X1,Y1,k+1,hk,hxy,h1,ha,hb,hn,hl=>by
  simp only [List.length_cons] at hk hxy hb hn hl
  subst ha hb hn
  have wa:w64 ((P.length:Int)+(Y1.length:Int))=((P.length+Y1.length:Nat):Int):=by rw [AX (by omega) (by omega)];omega
  have wb:w64 (((P.length+Y1.length+(X2.length+1)+Q.length:Nat):Int)+(Y1.length:Int))=(((P++Y1++x::X2++Q++X1).length:Nat):Int):=by
   rw [AX (by omega) (by omega)];simp;omega
  have e0:P++(Y1++(x::X2++(Q++(X1++(y::Y2++T)))))=(P++Y1)++x::(X2++(Q++(X1++(y::Y2++T)))):=by simp
  have e1:P++(Y1++(x::X2++(Q++(X1++(y::Y2++T)))))=(P++Y1++x::X2++Q++X1)++y::(Y2++T):=by simp
  have rb:rd? (P++(Y1++(x::X2++(Q++(X1++(y::Y2++T)))))) (((P++Y1++x::X2++Q++X1).length:Nat):Int)=some y:=by rw [e1];exact F6 rfl
  have ra:rd? (P++(Y1++(x::X2++(Q++(X1++(y::Y2++T)))))) ((P.length+Y1.length:Nat):Int)=some x:=by rw [e0];exact F6 (by simp)
  have s1:List.set (P++(Y1++(x::X2++(Q++(X1++(y::Y2++T)))))) (Int.toNat ((P.length+Y1.length:Nat):Int)) y=(P++Y1++y::X2++Q++X1)++y::(Y2++T):=by
   rw [e0,FZ (by simp)];simp
  have hle:(P++Y1++x::X2++Q++X1).length=(P++Y1++y::X2++Q++X1).length:=by simp
  have r2:rd? ((P++Y1++y::X2++Q++X1)++y::(Y2++T)) (((P++Y1++x::X2++Q++X1).length:Nat):Int)=some y:=F6 hle.symm
  have s2:List.set ((P++Y1++y::X2++Q++X1)++y::(Y2++T)) (Int.toNat (((P++Y1++x::X2++Q++X1).length:Nat):Int)) x=P++((Y1++[y])++(X2++(Q++((X1++[x])++(Y2++T))))):=by
   rw [FZ hle.symm];simp
  have hlen:(Y1++[y]).length=Y1.length+1:=by simp
  have ih:=Ns (a:=(P.length:Int)) (b:=((P.length+Y1.length+(X2.length+1)+Q.length:Nat):Int)) (n:=((Y1.length+(Y2.length+1):Nat):Int)) (P:=P) (Q:=Q) (T:=T) X2 Y2 (X1++[x]) (Y1++[y]) k (by omega) (by omega) (by simp [h1]) rfl (by rw [hlen];omega) (by rw [hlen];omega) (by simp;omega)
  rw [Cb,if_pos (by omega),wa,wb,rb,oB,ra,oB,oB,s1,r2,oB,s2,Bo (by omega),← hlen,ih]
  simp
theorem VZ {P Q X Y T:List Int} {g:Ad} (h:X.length=Y.length) (hl:P.length+X.length+Q.length+Y.length≤20000) :
  Dd (P++(X++(Q++(Y++T)))) (P.length:Int) ((P.length+X.length+Q.length:Nat):Int) (X.length:Int) g=some (P++(Y++(Q++(X++T)))):=by
 unfold Dd
 have:=Ns (a:=(P.length:Int)) (b:=((P.length+X.length+Q.length:Nat):Int)) (n:=(X.length:Int)) (P:=P) (Q:=Q) (T:=T) X Y [] [] As (AY (by omega)) h rfl rfl (by simp) (by simp [h]) (by simp;omega)
 simpa using this
theorem LG {m:Nat} {g:Ad} (hm:m≤5000) : ∀ (n:Nat) (A B P T:List Int) (k:Nat),A.length+B.length≤n→n<k→A≠[]→B≠[]→m=P.length+A.length→m+B.length≤5000 →
  Db (m:Int) g (fun (z1:(List Int)) (z2:Int)=>((Dd z1 (w64 ((m:Int)-z2)) (m:Int) z2 g).bind fun x8=>(some x8))) k (P++(A++(B++T))) (A.length:Int) (B.length:Int)=some (P++(B++(A++T)))
 | n,A,B,P,T,0,_,h,_,_,_,_=>by omega
 | 0,A,B,P,T,k+1,h,_,hA,_,_,_=>by have:=List.length_pos_iff.2 hA;omega
 | n+1,A,B,P,T,k+1,hn,hk,hA,hB,hmp,hl=>by
  have pA:=List.length_pos_iff.2 hA
  have pB:=List.length_pos_iff.2 hB
  have w1:w64 ((m:Int)-(A.length:Int))=(P.length:Int):=by rw [AX (by omega) (by omega)];omega
  rw [Db]
  by_cases he:A.length=B.length
  ·rw [if_pos (by omega),w1]
   have:=VZ (P:=P) (Q:=[]) (X:=A) (Y:=B) (T:=T) (g:=g) he (by simp;omega)
   rw [List.length_nil,Nat.add_zero,List.nil_append,← hmp] at this
   rw [this,oB,List.nil_append]
  rw [if_neg (by omega)]
  by_cases hlt:B.length<A.length
  ·rw [if_pos (by omega),w1]
   obtain ⟨A1,A2,rfl,h1⟩:∃ A1 A2,A=A1++A2∧A1.length=B.length:=⟨A.take B.length,A.drop B.length,(List.take_append_drop _ _).symm,by rw [List.length_take];omega⟩
   rw [List.length_append] at *
   have:=VZ (P:=P) (Q:=A2) (X:=A1) (Y:=B) (T:=T) (g:=g) h1 (by omega)
   rw [show P.length+A1.length+A2.length=m by omega,h1] at this
   rw [List.append_assoc,this,oB]
   have w2:w64 (((A1.length+A2.length:Nat):Int)-(B.length:Int))=(A2.length:Int):=by rw [AX (by omega) (by omega)];omega
   rw [w2]
   have ih:=LG (g:=g) hm n A2 A1 (P++B) T k (by omega) (by omega) (fun q=>by rw [q] at hlt;simp at hlt;omega) (fun q=>by rw [q] at h1;simp at h1;omega) (by rw [List.length_append];omega) (by omega)
   rw [h1] at ih
   have e1:P++(B++(A2++(A1++T)))=(P++B)++(A2++(A1++T)):=by simp
   rw [e1,ih];simp
  ·rw [if_neg (by omega),w1]
   obtain ⟨B1,B2,rfl,h1⟩:∃ B1 B2,B=B1++B2∧B2.length=A.length:=⟨B.take (B.length-A.length),B.drop (B.length-A.length),(List.take_append_drop _ _).symm,by rw [List.length_drop];omega⟩
   rw [List.length_append] at *
   have w2:w64 (w64 ((m:Int)+((B1.length+B2.length:Nat):Int))-(A.length:Int))=((P.length+A.length+B1.length:Nat):Int):=by
    rw [show w64 ((m:Int)+((B1.length+B2.length:Nat):Int))=((m+(B1.length+B2.length):Nat):Int) by rw [AX (by omega) (by omega)];omega,AX (by omega) (by omega)];omega
   have w3:w64 (((B1.length+B2.length:Nat):Int)-(A.length:Int))=(B1.length:Int):=by rw [AX (by omega) (by omega)];omega
   have:=VZ (P:=P) (Q:=B1) (X:=A) (Y:=B2) (T:=T) (g:=g) h1.symm (by omega)
   rw [w2,w3,List.append_assoc B1 B2 T,this,oB]
   have ih:=LG (g:=g) hm n B2 B1 P (A++T) k (by omega) (by omega) (fun q=>by rw [q] at h1;simp at h1;omega) (fun q=>by rw [q] at hlt he;simp at hlt he;omega) (by omega) (by omega)
   rw [h1] at ih
   rw [ih];simp
theorem TY {A B P T:List Int} {g:Ad} (hA:A≠[]) (hB:B≠[]) (hl:P.length+A.length+B.length≤5000) :
  Ek (P++(A++(B++T))) (P.length:Int) ((P.length+A.length:Nat):Int) ((P.length+A.length+B.length:Nat):Int) g=some (P++(B++(A++T))):=by
 unfold Ek
 have w1:w64 (((P.length+A.length:Nat):Int)-(P.length:Int))=(A.length:Int):=by rw [AX (by omega) (by omega)];omega
 have w2:w64 (((P.length+A.length+B.length:Nat):Int)-((P.length+A.length:Nat):Int))=(B.length:Int):=by rw [AX (by omega) (by omega)];omega
 rw [Bp,w1,w2]
 exact LG (by omega) (A.length+B.length) A B P T As (Nat.le_refl _) (AY (by omega)) hA hB rfl (by omega)
theorem U5 {R:Type} {L:Nat→Int→Int→Option R} {K:Int→Option R} {T:Nat→Prop} {lo0 hi0:Nat}
  (step:∀ (k lo hi:Nat),lo0≤lo→lo<hi→hi≤hi0→(T ((lo+hi) / 2)→L (k+1) (lo:Int) (hi:Int)=L k (((lo+hi) / 2+1:Nat):Int) (hi:Int))∧(¬T ((lo+hi) / 2)→L (k+1) (lo:Int) (hi:Int)=L k (lo:Int) (((lo+hi) / 2:Nat):Int)))
  (fin:∀ (k i:Nat),L (k+1) (i:Int) (i:Int)=K (i:Int)):∀ (n lo hi k:Nat),hi-lo≤n→n<k→lo0≤lo→lo≤hi→hi≤hi0→(lo=lo0∨T (lo-1))→(hi=hi0∨¬T hi) →
  ∃ i:Nat,lo0≤i∧i≤hi0∧L k (lo:Int) (hi:Int)=K (i:Int)∧(i=lo0∨T (i-1))∧(i=hi0∨¬T i)
 | n,lo,hi,0,_,h,_,_,_,_,_=>by omega
 | n,lo,hi,k+1,hn,hk,h1,h2,h3,h4,h5=>by
  by_cases he:lo=hi
  ·subst he;exact ⟨lo,h1,h3,fin k lo,h4,h5⟩
  match n,hn with
  | 0,hn=>omega
  | n+1,hn =>
   obtain ⟨s1,s2⟩:=step k lo hi h1 (by omega) h3
   by_cases ht:T ((lo+hi) / 2)
   ·rw [s1 ht]
    exact U5 step fin n ((lo+hi) / 2+1) hi k (by omega) (by omega) (by omega) (by omega) h3 (.inr (by rw [Nat.add_sub_cancel];exact ht)) h5
   ·rw [s2 ht]
    exact U5 step fin n lo ((lo+hi) / 2) k (by omega) (by omega) h1 (by omega) (by omega) h4 (.inr ht)
theorem OL {P A R:List Int} {i j:Nat} (h:i<A.length) (hj:j=P.length+i) : rd? (P++(A++R)) (j:Int)=some A[i]:=by
 subst hj
 refine VP ?_
 rw [List.getElem?_append_right (by omega),Nat.add_sub_cancel_left,List.getElem?_append_left h,lG h]
theorem VV {z1:Int} {P T:List Int} {x:Int} (K:List Int→Option (List Int)) : ∀ (R L:List Int) (k:Nat),R.length<k→P.length+L.length+R.length≤5000→z1=((P.length+L.length+R.length+1:Nat) : Int) →
  Bm z1 K k (P++(L++x::(R++T))) ((P.length+L.length:Nat):Int)=K (P++(L++(R++x::T)))
 | R,L,0,h,_,_=>by omega
 | [],L,k+1,_,hl,hz=>by
  rw [Bm,if_neg (by rw [hz,AX (by omega) (by omega)];simp),List.nil_append,List.nil_append]
 | y::R,L,k+1,hk,hl,hz=>by
  simp only [List.length_cons] at hk hl hz
  have e0:P++(L++x::(y::R++T))=(P++L)++x::(y::(R++T)):=by simp
  have e1:P++(L++x::(y::R++T))=(P++L++[x])++y::(R++T):=by simp
  have w1:w64 (((P.length+L.length:Nat):Int)+1)=((P.length+L.length+1:Nat):Int):=Bo (by omega)
  have r1:rd? (P++(L++x::(y::R++T))) ((P.length+L.length+1:Nat):Int)=some y:=by rw [e1];exact F6 (by simp [Nat.add_assoc])
  have r0:rd? (P++(L++x::(y::R++T))) ((P.length+L.length:Nat):Int)=some x:=by rw [e0];exact F6 (by simp)
  have s1:List.set (P++(L++x::(y::R++T))) (Int.toNat ((P.length+L.length:Nat):Int)) y=(P++L++[y])++y::(R++T):=by rw [e0,FZ (by simp)];simp
  have r2:rd? ((P++L++[y])++y::(R++T)) ((P.length+L.length+1:Nat):Int)=some y:=F6 (by simp [Nat.add_assoc])
  have s2:List.set ((P++L++[y])++y::(R++T)) (Int.toNat ((P.length+L.length+1:Nat):Int)) x=P++((L++[y])++x::(R++T)):=by rw [FZ (by simp [Nat.add_assoc])];simp
  have hlen:(L++[y]).length=L.length+1:=by simp
  have ih:=VV (z1:=z1) (P:=P) (T:=T) (x:=x) K R (L++[y]) k (by omega) (by omega) (by rw [hlen,hz];omega)
  rw [hlen,show P.length+(L.length+1)=P.length+L.length+1 by omega] at ih
  rw [Bm,if_pos (by rw [hz,AX (by omega) (by omega)];omega),w1,r1,oB,r0,oB,oB,s1,r2,oB,s2,ih]
  simp
theorem US {z:Int} {P T:List Int} {x:Int} (K:List Int→Option (List Int)) : ∀ (n:Nat) (L R:List Int) (k:Nat),L.length=n→n<k→P.length+L.length≤5000→z=(P.length:Int) →
  Bl z K k (P++(L++x::(R++T))) ((P.length+L.length:Nat):Int)=K (P++(x::(L++(R++T))))
 | n,L,R,0,_,h,_,_=>by omega
 | 0,L,R,k+1,hn,_,hl,hz=>by
  have:L=[]:=List.length_eq_zero_iff.1 hn
  subst this
  rw [Bl,if_neg (by rw [hz];simp)];rfl
 | n+1,L,R,k+1,hn,hk,hl,hz=>by
  obtain ⟨L0,y,rfl⟩:∃ L0 y,L=L0++[y]:=by
   rcases List.eq_nil_or_concat L with rfl|⟨l',b,h⟩
   ·simp at hn
   ·exact ⟨l',b,by rw [h];simp⟩
  have hl1:(L0++[y]).length=L0.length+1:=by simp
  have hl0:L0.length=n:=by omega
  have e0:P++((L0++[y])++x::(R++T))=(P++L0)++y::(x::(R++T)):=by simp
  have e1:P++((L0++[y])++x::(R++T))=(P++L0++[y])++x::(R++T):=by simp
  have w1:w64 (((P.length+(L0++[y]).length:Nat):Int)-1)=((P.length+L0.length:Nat):Int):=by rw [AX (by omega) (by omega),hl1];omega
  have r1:rd? (P++((L0++[y])++x::(R++T))) ((P.length+(L0++[y]).length:Nat):Int)=some x:=by rw [e1];exact F6 (by simp [Nat.add_assoc])
  have r0:rd? (P++((L0++[y])++x::(R++T))) ((P.length+L0.length:Nat):Int)=some y:=by rw [e0];exact F6 (by simp)
  have s1:List.set (P++((L0++[y])++x::(R++T))) (Int.toNat ((P.length+(L0++[y]).length:Nat):Int)) y=(P++L0)++y::(y::(R++T)):=by
   rw [e1,FZ (by simp [Nat.add_assoc])];simp
  have s2:List.set ((P++L0)++y::(y::(R++T))) (Int.toNat ((P.length+L0.length:Nat):Int)) x=P++(L0++x::((y::R)++T)):=by
   rw [FZ (by simp)];simp
  have r2:rd? ((P++L0)++y::(y::(R++T))) ((P.length+L0.length:Nat):Int)=some y:=F6 (by simp)
  have ih:=US (z:=z) (P:=P) (T:=T) (x:=x) K n L0 (y::R) k hl0 (by omega) (by omega) hz
  rw [Bl,if_pos (by rw [hz,hl1];omega),w1,r0,oB,r1,oB,oB,s1,r2,oB,s2,ih]
  simp
section
variable {c:Int→Int→Int} {f:Ad} {D:Int→Prop}
theorem Yy (hc:Ord3 c) (hf:∀ x y,D x→D y→f.g (x,y)=some (c x y)) {x:Int} {B P T:List Int} (hx:D x) (hB:∀ z∈B,D z) (hl:P.length+1+B.length≤5000) (sB:CH c B) :
  ∃ S,S.Perm (x::B)∧CH c S∧Bu (P++([x]++(B++T))) (P.length:Int) f (fun z1=>jn (fun (z7:(List Int))=>(some z7)) fun K3=>(Bm z1 K3 As (P++([x]++(B++T))) (P.length:Int))) As ((P.length+1:Nat):Int) ((P.length+1+B.length:Nat):Int)=some (P++(S++T)):=by
 have rx:rd? (P++([x]++(B++T))) (P.length:Int)=some x:=OL (i:=0) (by simp) rfl
 have rB:∀ i (h:i<B.length),rd? (P++([x]++(B++T))) ((P.length+1+i:Nat):Int)=some B[i]:=fun i h=>by
  have:=OL (P:=P++[x]) (A:=B) (R:=T) (i:=i) (j:=P.length+1+i) h (by simp)
  rw [← this];simp
 obtain ⟨i,i1,i2,i3,i4,i5⟩:=U5 (R:=List Int) (L:=Bu (P++([x]++(B++T))) (P.length:Int) f (fun z1=>jn (fun (z7:(List Int))=>(some z7)) fun K3=>(Bm z1 K3 As (P++([x]++(B++T))) (P.length:Int))))
  (K:=fun z1=>jn (fun (z7:(List Int))=>(some z7)) fun K3=>(Bm z1 K3 As (P++([x]++(B++T))) (P.length:Int))) (T:=fun j=>c (B.getD (j-(P.length+1)) 0) x<0) (lo0:=P.length+1) (hi0:=P.length+1+B.length) (fun k lo hi g1 g2 g3=>by
   have hlt:(lo+hi) / 2-(P.length+1)<B.length:=by omega
   have hr:=rB _ hlt
   rw [show P.length+1+((lo+hi) / 2-(P.length+1))=(lo+hi) / 2 by omega] at hr
   rw [Bu,if_pos (by omega),Kz (by omega),hr,oB,rx,oB,hf _ _ (hB _ (List.getElem_mem hlt)) hx,oB,CZ hlt,Bo (by omega)]
   exact ⟨fun h=>if_pos h,fun h=>if_neg h⟩) (fun k i=>by rw [Bu,if_neg (by omega)]) B.length (P.length+1) (P.length+1+B.length) As (by omega) (AY (by omega)) (Nat.le_refl _) (by omega) (Nat.le_refl _) (.inl rfl) (.inl rfl)
 obtain ⟨j,rfl⟩:∃ j,i=P.length+1+j:=⟨i-(P.length+1),by omega⟩
 have hj:j≤B.length:=by omega
 rw [Nat.add_sub_cancel_left] at i5
 refine ⟨B.take j++x::B.drop j,?_,?_,?_⟩
 ·have:=List.perm_middle (a:=x) (l₁:=B.take j) (l₂:=B.drop j)
  rwa [List.take_append_drop] at this
 ·refine P9 (by rw [List.take_append_drop];exact sB) (Kw hc sB j ?_) (Le hc sB j ?_)
  ·rcases i4 with h|h
   ·exact .inl (by omega)
   ·by_cases h0:j=0
    ·exact .inl h0
    ·rw [show P.length+1+j-1-(P.length+1)=j-1 by omega,CZ (show j-1<B.length by omega)] at h
     exact .inr ⟨_,lG (by omega),hc.le_of_lt h⟩
  ·rcases i5 with h|h
   ·exact .inl (by omega)
   ·by_cases h0:B.length≤j
    ·exact .inl h0
    ·rw [CZ (show j<B.length by omega)] at h
     exact .inr ⟨_,lG (by omega),h⟩
 ·rw [i3,Bp]
  have:=VV (z1:=((P.length+1+j:Nat):Int)) (P:=P) (T:=B.drop j++T) (x:=x) (fun (z7:(List Int))=>(some z7)) (B.take j) [] As (by rw [List.length_take];exact AY (by omega)) (by rw [List.length_take];simp;omega) (by rw [List.length_take];simp;omega)
  have e:P++([]++x::(B.take j++(B.drop j++T)))=P++([x]++(B++T)):=by
   rw [← List.append_assoc (B.take j),List.take_append_drop];rfl
  rw [e,show P.length+([]:List Int).length=P.length from rfl] at this
  rw [this];simp
theorem Yg (hc:Ord3 c) (hf:∀ x y,D x→D y→f.g (x,y)=some (c x y)) {x:Int} {A P T:List Int} (hx:D x) (hA:∀ z∈A,D z) (hl:P.length+1+A.length≤5000) (sA:CH c A) :
  ∃ S,S.Perm (A++[x])∧CH c S∧Bx (P++(A++([x]++T))) ((P.length+A.length:Nat):Int) f (fun z14=>jn (fun (z20:(List Int))=>(some z20)) fun K8=>(Bl z14 K8 As (P++(A++([x]++T))) ((P.length+A.length:Nat):Int))) As (P.length:Int) ((P.length+A.length:Nat):Int)=some (P++(S++T)):=by
 have rx:rd? (P++(A++([x]++T))) ((P.length+A.length:Nat):Int)=some x:=by
  have:=OL (P:=P++A) (A:=[x]) (R:=T) (i:=0) (j:=P.length+A.length) (by simp) (by simp)
  rw [← show (P++A)++([x]++T)=P++(A++([x]++T)) by simp,this];rfl
 have rA:∀ i (h:i<A.length),rd? (P++(A++([x]++T))) ((P.length+i:Nat):Int)=some A[i]:=fun i h=>OL h rfl
 obtain ⟨i,i1,i2,i3,i4,i5⟩:=U5 (R:=List Int) (L:=Bx (P++(A++([x]++T))) ((P.length+A.length:Nat):Int) f (fun z14=>jn (fun (z20:(List Int))=>(some z20)) fun K8=>(Bl z14 K8 As (P++(A++([x]++T))) ((P.length+A.length:Nat):Int))))
  (K:=fun z14=>jn (fun (z20:(List Int))=>(some z20)) fun K8=>(Bl z14 K8 As (P++(A++([x]++T))) ((P.length+A.length:Nat):Int))) (T:=fun j=>¬c x (A.getD (j-P.length) 0)<0) (lo0:=P.length) (hi0:=P.length+A.length) (fun k lo hi g1 g2 g3=>by
   have hlt:(lo+hi) / 2-P.length<A.length:=by omega
   have hr:=rA _ hlt
   rw [show P.length+((lo+hi) / 2-P.length)=(lo+hi) / 2 by omega] at hr
   rw [Bx,if_pos (by omega),Kz (by omega),rx,oB,hr,oB,hf _ _ hx (hA _ (List.getElem_mem hlt)),oB,CZ hlt,Bo (by omega)]
   exact ⟨fun h=>if_neg h,fun h=>if_pos (Decidable.not_not.1 h)⟩) (fun k i=>by rw [Bx,if_neg (by omega)]) A.length P.length (P.length+A.length) As (by omega) (AY (by omega)) (Nat.le_refl _) (by omega) (Nat.le_refl _) (.inl rfl) (.inl rfl)
 obtain ⟨j,rfl⟩:∃ j,i=P.length+j:=⟨i-P.length,by omega⟩
 have hj:j≤A.length:=by omega
 rw [Nat.add_sub_cancel_left] at i5
 refine ⟨A.take j++x::A.drop j,?_,?_,?_⟩
 ·have h1:=List.perm_middle (a:=x) (l₁:=A.take j) (l₂:=A.drop j)
  rw [List.take_append_drop] at h1
  have h2:=List.perm_middle (a:=x) (l₁:=A) (l₂:=[])
  rw [List.append_nil] at h2
  exact h1.trans h2.symm
 ·refine P9 (by rw [List.take_append_drop];exact sA) (Kw hc sA j ?_) (Le hc sA j ?_)
  ·rcases i4 with h|h
   ·exact .inl (by omega)
   ·by_cases h0:j=0
    ·exact .inl h0
    ·rw [show P.length+j-1-P.length=j-1 by omega,CZ (show j-1<A.length by omega)] at h
     exact .inr ⟨_,lG (by omega),h⟩
  ·rcases i5 with h|h
   ·exact .inl (by omega)
   ·by_cases h0:A.length≤j
    ·exact .inl h0
    ·rw [CZ (show j<A.length by omega)] at h
     exact .inr ⟨_,lG (by omega),hc.le_of_lt (Decidable.not_not.1 h)⟩
 ·rw [i3,Bp]
  have:=US (z:=((P.length+j:Nat):Int)) (P:=P++A.take j) (T:=T) (x:=x) (fun (z20:(List Int))=>(some z20)) (A.length-j) (A.drop j) [] As (by simp) (AY (by omega)) (by simp;omega) (by simp;omega)
  have e:(P++A.take j)++(A.drop j++x::([]++T))=P++(A++([x]++T)):=by
   rw [List.append_assoc,← List.append_assoc (A.take j),List.take_append_drop];rfl
  have e2:(P++A.take j).length+(A.drop j).length=P.length+A.length:=by simp;omega
  rw [e,e2] at this
  rw [this];simp
end
section
variable {c:Int→Int→Int} {f:Ad} {D:Int→Prop}
theorem Yx (hf:∀ x y,D x→D y→f.g (x,y)=some (c x y)) {A B P T:List Int} (hA:∀ z∈A,D z) (hB:∀ z∈B,D z) (hl:P.length+A.length+B.length≤5000) (pA:0<A.length) (pB:0<B.length)
  {a m b mid lo0 hi0:Nat} (ha:a=P.length) (hm:m=P.length+A.length) (hb:b=P.length+A.length+B.length) (hmid:mid=(a+b) / 2) (h2:(mid<m∧lo0=mid+m-b∧hi0=mid)∨(m≤mid∧lo0=a∧hi0=m)) (K:Int→Option (List Int)) :
  ∃ s e:Nat,s≤A.length∧e≤B.length∧s+e=mid-a∧Bd (P++(A++(B++T))) (a:Int) (m:Int) (b:Int) f K As (lo0:Int) (hi0:Int)=K ((a+s:Nat):Int) ∧
   (s=0∨e=B.length∨∃ (h1:s-1<A.length) (h2:e<B.length),leC c A[s-1] B[e])∧(e=0∨s=A.length∨∃ (h1:s<A.length) (h2:e-1<B.length),c B[e-1] A[s]<0):=by
 have rA:∀ i (h:i<A.length),rd? (P++(A++(B++T))) ((a+i:Nat):Int)=some A[i]:=fun i h=>OL h (by rw [ha])
 have rB:∀ i (h:i<B.length),rd? (P++(A++(B++T))) ((m+i:Nat):Int)=some B[i]:=fun i h=>by
  have:=OL (P:=P++A) (A:=B) (R:=T) (i:=i) (j:=m+i) h (by simp [hm])
  rw [← this];simp
 have g1:lo0≤hi0:=by omega
 have g2:a≤lo0:=by omega
 have g3:hi0≤m:=by omega
 -- the place over there that stands against j
 have gj:∀ j,lo0≤j→j<hi0→m≤mid+m-1-j∧mid+m-1-j<b:=fun j q1 q2=>by omega
 obtain ⟨i,i1,i2,i3,i4,i5⟩:=U5 (R:=List Int) (L:=Bd (P++(A++(B++T))) (a:Int) (m:Int) (b:Int) f K) (K:=K) (T:=fun j=>¬c (B.getD (mid+m-1-j-m) 0) (A.getD (j-a) 0)<0) (lo0:=lo0) (hi0:=hi0) (fun k lo hi q1 q2 q3=>by
   have hj:=gj ((lo+hi) / 2) (by omega) (by omega)
   have hlt:(lo+hi) / 2-a<A.length:=by omega
   have hlt2:mid+m-1-(lo+hi) / 2-m<B.length:=by omega
   have hr:=rA _ hlt
   rw [show a+((lo+hi) / 2-a)=(lo+hi) / 2 by omega] at hr
   have hr2:=rB _ hlt2
   rw [show m+(mid+m-1-(lo+hi) / 2-m)=mid+m-1-(lo+hi) / 2 by omega] at hr2
   have w1:w64 ((mid:Int)+(m:Int))=((mid+m:Nat):Int):=by rw [AX (by omega) (by omega)];omega
   have w2:w64 (((mid+m:Nat):Int)-1)=((mid+m-1:Nat):Int):=by rw [AX (by omega) (by omega)];omega
   have w3:w64 (((mid+m-1:Nat):Int)-(((lo+hi) / 2:Nat):Int))=((mid+m-1-(lo+hi) / 2:Nat):Int):=by rw [AX (by omega) (by omega)];omega
   rw [Bd,if_pos (by omega),Kz (i:=a) (j:=b) (by omega),Kz (i:=lo) (j:=hi) (by omega),← hmid,w1,w2,w3,hr2,oB,hr,oB,hf _ _ (hB _ (List.getElem_mem hlt2)) (hA _ (List.getElem_mem hlt)),oB,CZ hlt,CZ hlt2,Bo (by omega)]
   exact ⟨fun h=>if_neg h,fun h=>if_pos (Decidable.not_not.1 h)⟩) (fun k i=>by rw [Bd,if_neg (by omega)]) hi0 lo0 hi0 As (by omega) (AY (by omega)) (Nat.le_refl _) g1 (Nat.le_refl _) (.inl rfl) (.inl rfl)
 refine ⟨i-a,mid-i,by omega,by omega,by omega,?_,?_,?_⟩
 ·rw [i3,show a+(i-a)=i by omega]
 ·rcases i4 with h|h
  ·rcases h2 with ⟨_,q1,_⟩|⟨_,q1,_⟩
   ·exact .inr (.inl (by omega))
   ·exact .inl (by omega)
  ·by_cases h0:i-a=0
   ·exact .inl h0
   by_cases h9:mid-i=B.length
   ·exact .inr (.inl h9)
   have k1:i-a-1<A.length:=by omega
   have k2:mid-i<B.length:=by omega
   rw [show mid+m-1-(i-1)-m=mid-i by omega,show i-1-a=i-a-1 by omega,CZ k1,CZ k2] at h
   exact .inr (.inr ⟨k1,k2,h⟩)
 ·rcases i5 with h|h
  ·rcases h2 with ⟨_,_,q1⟩|⟨_,_,q1⟩
   ·exact .inl (by omega)
   ·exact .inr (.inl (by omega))
  ·by_cases h0:mid-i=0
   ·exact .inl h0
   by_cases h9:i-a=A.length
   ·exact .inr (.inl h9)
   have k1:i-a<A.length:=by omega
   have k2:mid-i-1<B.length:=by omega
   rw [show mid+m-1-i-m=mid-i-1 by omega,CZ k1,CZ k2] at h
   exact .inr (.inr ⟨k1,k2,Decidable.not_not.1 h⟩)
theorem Zc (hc:Ord3 c) {A B:List Int} (sA:CH c A) (sB:CH c B) {s e:Nat} (h:s=0∨e=B.length∨∃ (h1:s-1<A.length) (h2:e<B.length),leC c A[s-1] B[e]) : ∀ x∈A.take s,∀ y∈B.drop e,leC c x y:=fun x hx y hy=>by
 rcases h with h|h|⟨h1,h2,h⟩
 ·rw [h] at hx;simp at hx
 ·rw [h] at hy;simp at hy
 ·have l1:leC c x B[e]:=Kw hc sA s (.inr ⟨_,lG h1,h⟩) x hx
  exact Le hc sB e (.inr ⟨_,lG h2,l1⟩) y hy
theorem Ym (hc:Ord3 c) {A B:List Int} (sA:CH c A) (sB:CH c B) {s e:Nat} (h:e=0∨s=A.length∨∃ (h1:s<A.length) (h2:e-1<B.length),c B[e-1] A[s]<0) : ∀ x∈B.take e,∀ y∈A.drop s,leC c x y:=fun x hx y hy=>by
 rcases h with h|h|⟨h1,h2,h⟩
 ·rw [h] at hx;simp at hx
 ·rw [h] at hy;simp at hy
 ·have l1:leC c x A[s]:=Kw hc sB e (.inr ⟨_,lG h2,hc.le_of_lt h⟩) x hx
  exact Le hc sA s (.inr ⟨_,lG h1,l1⟩) y hy
def KX (c:Int→Int→Int) (f:Ad) (D:Int→Prop) (n k:Nat) : Prop:=∀ A B P T : List Int,A.length+B.length≤n→A≠[]→B≠[]→P.length+A.length+B.length≤5000→(∀ z∈A,D z)→(∀ z∈B,D z)→CH c A→CH c B →
  ∃ S,S.Perm (A++B)∧CH c S∧AN k (P++(A++(B++T))) (P.length:Int) ((P.length+A.length:Nat):Int) ((P.length+A.length+B.length:Nat):Int) f=some (P++(S++T))
theorem WL {mid m a s e:Nat} (h:mid+m=a+s+(m+e)) (hb:mid+m≤100000) : w64 (((mid+m:Nat) : Int)-((a+s:Nat) : Int))=((m+e:Nat) : Int):=by rw [AX (by omega) (by omega)];omega
theorem XX {n a m b mid s e lA lB:Nat} (hm:a+lA=m) (hb:m+lB=b) (hmid:(a+b) / 2=mid) (q1:s≤lA) (q2:e≤lB) (q3:s+e=mid-a) (h1:0<lA) (h2:0<lB) (h3:2<lA+lB) (hn:lA+lB≤n+1) (hl:b≤5000) :
  a+s+e=mid∧mid+m=a+s+(m+e)∧mid+m≤100000∧s+e≤n∧(lA-s)+(lB-e)≤n∧a+s+(lA-s)=m∧m+e+(lB-e)=b:=by omega
theorem Ud {f:Ad} {A1 A2 B1 B2 P T:List Int} {a m b mid s e:Nat} (ha:P.length=a) (lA1:A1.length=s) (hm:a+s+A2.length=m) (lB1:B1.length=e) (hb:m+e+B2.length=b) (hmid:a+s+e=mid) (hl:b≤5000) :
  (if ((decide (((a+s:Nat):Int)<(m:Int)))&&(decide ((m:Int)<((m+e:Nat):Int))))=true then Ek (P++((A1++A2)++((B1++B2)++T))) ((a+s:Nat):Int) (m:Int) ((m+e:Nat):Int) f else some (P++((A1++A2)++((B1++B2)++T))))=some (P++(A1++(B1++(A2++(B2++T))))):=by
 by_cases h0:A2=[]
 ·subst h0
  rw [if_neg (by simp at hm ⊢;omega)];simp
 by_cases h1:B1=[]
 ·subst h1
  rw [if_neg (by simp at lB1 ⊢;omega)];simp
 have:=List.length_pos_iff.2 h0
 have:=List.length_pos_iff.2 h1
 rw [if_pos (by simp;omega)]
 have hr:=TY (P:=P++A1) (A:=A2) (B:=B1) (T:=B2++T) (g:=f) h0 h1 (by rw [List.length_append];omega)
 rw [List.length_append,show P.length+A1.length=a+s by omega,show a+s+A2.length=m by omega,show m+B1.length=m+e by omega] at hr
 rw [show P++((A1++A2)++((B1++B2)++T))=(P++A1)++(A2++(B1++(B2++T))) by simp,hr];simp
theorem SH {n k:Nat} (ih:KX c f D n k) {A1 A2 B1 B2 P T:List Int} {a m b mid s e:Nat} (ha:P.length=a) (lA1:A1.length=s) (hm:a+s+A2.length=m) (lB1:B1.length=e) (hb:m+e+B2.length=b) (hmid:a+s+e=mid) (hl:b≤5000) (hn:A1.length+B1.length≤n) (mA1:∀ z∈A1,D z) (mB1:∀ z∈B1,D z) (sA1:CH c A1) (sB1:CH c B1) :
  ∃ C1,C1.Perm (A1++B1)∧CH c C1∧(if ((decide ((a:Int)<((a+s:Nat):Int)))&&(decide (((a+s:Nat):Int)<(mid:Int))))=true then AN k (P++(A1++(B1++(A2++(B2++T))))) (a:Int) ((a+s:Nat):Int) (mid:Int) f else some (P++(A1++(B1++(A2++(B2++T))))))=some (P++(C1++(A2++(B2++T)))):=by
 by_cases h0:A1=[]
 ·subst h0
  exact ⟨B1,by simp,sB1,by rw [if_neg (by simp at lA1 ⊢;omega)];simp⟩
 by_cases h1:B1=[]
 ·subst h1
  exact ⟨A1,by simp,sA1,by rw [if_neg (by simp at lB1 ⊢;omega)];simp⟩
 have:=List.length_pos_iff.2 h0
 have:=List.length_pos_iff.2 h1
 obtain ⟨C1,c1,c2,c3⟩:=ih A1 B1 P (A2++(B2++T)) (by omega) h0 h1 (by omega) mA1 mB1 sA1 sB1
 rw [ha,show a+A1.length=a+s by omega,show a+s+B1.length=mid by omega] at c3
 exact ⟨C1,c1,c2,by rw [if_pos (by simp;omega),c3]⟩
theorem Rq {n k:Nat} (ih:KX c f D n k) {A1 A2 B1 B2 P T:List Int} {a m b mid s e:Nat} (ha:P.length=a) (lA1:A1.length=s) (hm:a+s+A2.length=m) (lB1:B1.length=e) (hb:m+e+B2.length=b) (hmid:a+s+e=mid) (hl:b≤5000) {C1:List Int} (lC1:a+C1.length=mid) (hn:A2.length+B2.length≤n) (mA2:∀ z∈A2,D z) (mB2:∀ z∈B2,D z) (sA2:CH c A2) (sB2:CH c B2) :
  ∃ C2,C2.Perm (A2++B2)∧CH c C2∧(if ((decide ((mid:Int)<((m+e:Nat):Int)))&&(decide (((m+e:Nat):Int)<(b:Int))))=true then AN k (P++(C1++(A2++(B2++T)))) (mid:Int) ((m+e:Nat):Int) (b:Int) f else some (P++(C1++(A2++(B2++T)))))=some (P++(C1++(C2++T))):=by
 by_cases h0:A2=[]
 ·subst h0
  exact ⟨B2,by simp,sB2,by rw [if_neg (by simp at hm ⊢;omega)];simp⟩
 by_cases h1:B2=[]
 ·subst h1
  exact ⟨A2,by simp,sA2,by rw [if_neg (by simp at hb ⊢;omega)];simp⟩
 have:=List.length_pos_iff.2 h0
 have:=List.length_pos_iff.2 h1
 obtain ⟨C2,d1,d2,d3⟩:=ih A2 B2 (P++C1) T (by omega) h0 h1 (by rw [List.length_append];omega) mA2 mB2 sA2 sB2
 rw [List.length_append,show P.length+C1.length=mid by omega,show mid+A2.length=m+e by omega,show m+e+B2.length=b by omega] at d3
 refine ⟨C2,d1,d2,?_⟩
 rw [if_pos (by simp;omega),show P++(C1++(A2++(B2++T)))=(P++C1)++(A2++(B2++T)) by simp,d3];simp
theorem Su {k:Nat} {A1 A2 B1 B2 C1 C2 P T:List Int} {a m b mid s e:Nat} (rot:(if ((decide (((a+s:Nat) : Int)<(m:Int)))&&(decide ((m:Int)<((m+e:Nat) : Int))))=true then Ek (P++((A1++A2)++((B1++B2)++T))) ((a+s:Nat) : Int) (m:Int) ((m+e:Nat) : Int) f else some (P++((A1++A2)++((B1++B2)++T))))=some (P++(A1++(B1++(A2++(B2++T)))))) (c3:(if ((decide ((a:Int)<((a+s:Nat) : Int)))&&(decide (((a+s:Nat) : Int)<(mid:Int))))=true then AN k (P++(A1++(B1++(A2++(B2++T))))) (a:Int) ((a+s:Nat) : Int) (mid:Int) f else some (P++(A1++(B1++(A2++(B2++T))))))=some (P++(C1++(A2++(B2++T))))) (d3:(if ((decide ((mid:Int)<((m+e:Nat) : Int)))&&(decide (((m+e:Nat) : Int)<(b:Int))))=true then AN k (P++(C1++(A2++(B2++T)))) (mid:Int) ((m+e:Nat) : Int) (b:Int) f else some (P++(C1++(A2++(B2++T)))))=some (P++(C1++(C2++T)))) :
  (jn (fun (z35:(List Int))=>(jn (fun (z37:(List Int))=>(if ((decide ((mid:Int)<((m+e:Nat):Int)))&&(decide (((m+e:Nat):Int)<(b:Int))))=true then ((AN k z37 (mid:Int) ((m+e:Nat):Int) (b:Int) f).bind fun x39=>(some x39)) else (some z37))) fun K14=>(if ((decide ((a:Int)<((a+s:Nat):Int)))&&(decide (((a+s:Nat):Int)<(mid:Int))))=true then ((AN k z35 (a:Int) ((a+s:Nat):Int) (mid:Int) f).bind fun x38=>(K14 x38)) else (K14 z35)))) fun K13=>(if ((decide (((a+s:Nat):Int)<(m:Int)))&&(decide ((m:Int)<((m+e:Nat):Int))))=true then ((Ek (P++((A1++A2)++((B1++B2)++T))) ((a+s:Nat):Int) (m:Int) ((m+e:Nat):Int) f).bind fun x36=>(K13 x36)) else (K13 (P++((A1++A2)++((B1++B2)++T))))))=some (P++(C1++C2++T)):=by
 have fin:∀ (z:List Int),z=P++(C1++(A2++(B2++T)))→(if ((decide ((mid:Int)<((m+e:Nat):Int)))&&(decide (((m+e:Nat):Int)<(b:Int))))=true then ((AN k z (mid:Int) ((m+e:Nat):Int) (b:Int) f).bind fun x39=>(some x39)) else (some z))=some (P++(C1++C2++T)):=by
  rintro z rfl
  have e9:(P++(C1++C2++T))=P++(C1++(C2++T)):=by simp
  rw [e9,← d3]
  by_cases h:((decide ((mid:Int)<((m+e:Nat):Int)))&&(decide (((m+e:Nat):Int)<(b:Int))))=true
  ·rw [if_pos h,if_pos h];cases AN k (P++(C1++(A2++(B2++T)))) (mid:Int) ((m+e:Nat):Int) (b:Int) f<;>rfl
  ·rw [if_neg h,if_neg h]
 have mida:∀ (z:List Int),z=P++(A1++(B1++(A2++(B2++T))))→(jn (fun (z37:(List Int))=>(if ((decide ((mid:Int)<((m+e:Nat):Int)))&&(decide (((m+e:Nat):Int)<(b:Int))))=true then ((AN k z37 (mid:Int) ((m+e:Nat):Int) (b:Int) f).bind fun x39=>(some x39)) else (some z37))) fun K14=>(if ((decide ((a:Int)<((a+s:Nat):Int)))&&(decide (((a+s:Nat):Int)<(mid:Int))))=true then ((AN k z (a:Int) ((a+s:Nat):Int) (mid:Int) f).bind fun x38=>(K14 x38)) else (K14 z)))=some (P++(C1++C2++T)):=by
  rintro z rfl
  rw [Bp]
  by_cases h:((decide ((a:Int)<((a+s:Nat):Int)))&&(decide (((a+s:Nat):Int)<(mid:Int))))=true
  ·rw [if_pos h] at c3 ⊢
   rw [c3,oB];exact fin _ rfl
  ·rw [if_neg h] at c3 ⊢
   exact fin _ (oI c3)
 rw [Bp]
 by_cases h:((decide (((a+s:Nat):Int)<(m:Int)))&&(decide ((m:Int)<((m+e:Nat):Int))))=true
 ·rw [if_pos h] at rot ⊢
  rw [rot,oB];exact mida _ rfl
 ·rw [if_neg h] at rot ⊢
  exact mida _ (oI rot)
theorem Vb (hc:Ord3 c) (hf:∀ x y,D x→D y→f.g (x,y)=some (c x y)) {n k:Nat} (ih:KX c f D n k) {A B P T:List Int} {a m b mid lo0 hi0:Nat} (hn:A.length+B.length≤n+1) (pA:0<A.length) (pB:0<B.length) (h2n:2<A.length+B.length) (hl:P.length+A.length+B.length≤5000) (hA:∀ z∈A,D z) (hB:∀ z∈B,D z) (sA:CH c A) (sB:CH c B)
  (ha:P.length=a) (hm:a+A.length=m) (hb:m+B.length=b) (hmid:(a+b) / 2=mid) (h2:(mid<m∧lo0=mid+m-b∧hi0=mid)∨(m≤mid∧lo0=a∧hi0=m)):∃ S,S.Perm (A++B)∧CH c S ∧
    (jn (fun (z29:Int)=>(jn (fun (z35:(List Int))=>(jn (fun (z37:(List Int))=>(if ((decide ((mid:Int)<(w64 (((mid+m:Nat):Int)-z29))))&&(decide ((w64 (((mid+m:Nat):Int)-z29))<(b:Int))))=true then ((AN k z37 (mid:Int) (w64 (((mid+m:Nat):Int)-z29)) (b:Int) f).bind fun x39=>(some x39)) else (some z37))) fun K14=>(if ((decide ((a:Int)<z29))&&(decide (z29<(mid:Int))))=true then ((AN k z35 (a:Int) z29 (mid:Int) f).bind fun x38=>(K14 x38)) else (K14 z35)))) fun K13=>(if ((decide (z29<(m:Int)))&&(decide ((m:Int)<(w64 (((mid+m:Nat):Int)-z29)))))=true then ((Ek (P++(A++(B++T))) z29 (m:Int) (w64 (((mid+m:Nat):Int)-z29)) f).bind fun x36=>(K13 x36)) else (K13 (P++(A++(B++T))))))) fun K11=>(Bd (P++(A++(B++T))) (a:Int) (m:Int) (b:Int) f K11 As (lo0:Int) (hi0:Int)))=some (P++(S++T)):=by
 rw [Bp]
 obtain ⟨s,e,q1,q2,q3,q4,q5,q6⟩:=Yx (P:=P) (T:=T) hf hA hB hl pA pB (a:=a) (m:=m) (b:=b) (mid:=mid) (lo0:=lo0) (hi0:=hi0) ha.symm (by omega) (by omega) hmid.symm h2 _
 rw [q4]
 have f4:b≤5000:=by rw [← hb,← hm,← ha];exact hl
 obtain ⟨f3,g1,g2,f5,f6,f1,f2⟩:=XX hm hb hmid q1 q2 q3 pA pB h2n hn f4
 have w4:=WL g1 g2
 rw [← List.length_drop (i:=s) (l:=A)] at f6 f1
 rw [← List.length_drop (i:=e) (l:=B)] at f6 f2
 have x1:=Zc hc sA sB q5
 have x2:=Ym hc sA sB q6
 have eA:=List.take_append_drop s A
 have eB:=List.take_append_drop e B
 have lA1:(A.take s).length=s:=by rw [List.length_take];exact Nat.min_eq_left q1
 have lB1:(B.take e).length=e:=by rw [List.length_take];exact Nat.min_eq_left q2
 have mA1:∀ z∈A.take s,D z:=fun z hz=>hA z (List.mem_of_mem_take hz)
 have mA2:∀ z∈A.drop s,D z:=fun z hz=>hA z (List.mem_of_mem_drop hz)
 have mB1:∀ z∈B.take e,D z:=fun z hz=>hB z (List.mem_of_mem_take hz)
 have mB2:∀ z∈B.drop e,D z:=fun z hz=>hB z (List.mem_of_mem_drop hz)
 have sA':CH c (A.take s++A.drop s):=by rw [eA];exact sA
 have sB':CH c (B.take e++B.drop e):=by rw [eB];exact sB
 have sA1:=(List.pairwise_append.1 sA').1
 have sA2:=(List.pairwise_append.1 sA').2.1
 have sB1:=(List.pairwise_append.1 sB').1
 have sB2:=(List.pairwise_append.1 sB').2.1
 generalize A.take s=A1 at *
 generalize A.drop s=A2 at *
 generalize B.take e=B1 at *
 generalize B.drop e=B2 at *
 subst eA eB
 clear h2 hmid q3 q5 q6 hn h2n pA pB hl hm hb q1 q2
 rw [w4]
 have mrot:=Ud (f:=f) (T:=T) ha lA1 f1 lB1 f2 f3 f4
 obtain ⟨C1,c1,c2,c3⟩:=SH ih (T:=T) ha lA1 f1 lB1 f2 f3 f4 (by rw [lA1,lB1];exact f5) mA1 mB1 sA1 sB1
 have lC1:a+C1.length=mid:=by rw [c1.length_eq,List.length_append,lA1,lB1,← Nat.add_assoc];exact f3
 obtain ⟨C2,d1,d2,d3⟩:=Rq ih (T:=T) ha lA1 f1 lB1 f2 f3 f4 lC1 f6 mA2 mB2 sA2 sB2
 obtain ⟨m1,m2⟩:=Ut sA' sB' x1 x2 c1 d1 c2 d2
 exact ⟨C1++C2,m2,m1,Su mrot c3 d3⟩
theorem JO (hc:Ord3 c) (hf:∀ x y,D x→D y→f.g (x,y)=some (c x y)) : ∀ (n k:Nat),n<k→KX c f D n k
 | n,0,h=>by omega
 | 0,k+1,_=>fun A B P T h hA _ _ _ _ _ _=>by have:=List.length_pos_iff.2 hA;omega
 | n+1,k+1,hk=>by
  have ih:=JO hc hf n k (Nat.lt_of_succ_lt_succ hk)
  intro A B P T hn nA nB hl hA hB sA sB
  have pA:=List.length_pos_iff.2 nA
  have pB:=List.length_pos_iff.2 nB
  have w1:w64 (((P.length+A.length:Nat):Int)-(P.length:Int))=(A.length:Int):=by rw [AX (by omega) (by omega)];omega
  have w2:w64 (((P.length+A.length+B.length:Nat):Int)-((P.length+A.length:Nat):Int))=(B.length:Int):=by rw [AX (by omega) (by omega)];omega
  rw [AN]
  unfold E2
  rw [w1,w2]
  by_cases a1:A.length=1
  ·obtain ⟨x,rfl⟩:=List.length_eq_one_iff.1 a1
   obtain ⟨S,p1,p2,p3⟩:=Yy hc hf (P:=P) (T:=T) (hA x (by simp)) hB (by simp at hl;omega) sB
   refine ⟨S,p1,p2,?_⟩
   rw [Bp,a1,if_pos (show ((1:Nat):Int)=1 from rfl)]
   exact p3
  rw [Bp,if_neg (by omega)]
  by_cases b1:B.length=1
  ·obtain ⟨x,rfl⟩:=List.length_eq_one_iff.1 b1
   obtain ⟨S,p1,p2,p3⟩:=Yg hc hf (P:=P) (T:=T) (hB x (by simp)) hA (by simp at hl;omega) sA
   refine ⟨S,p1,p2,?_⟩
   rw [Bp,b1,if_pos (show ((1:Nat):Int)=1 from rfl)]
   exact p3
  rw [Bp,if_neg (by omega)]
  generalize ha:P.length=a
  have hmN:a+A.length=P.length+A.length:=by rw [ha]
  generalize hm:a+A.length=m
  generalize hb:m+B.length=b
  have hbN:b=P.length+A.length+B.length:=by omega
  generalize hmid:(a+b) / 2=mid
  rw [Kz (i:=a) (j:=b) (by omega),hmid]
  have w3:w64 ((mid:Int)+(m:Int))=((mid+m:Nat):Int):=by rw [AX (by omega) (by omega)];omega
  rw [w3]
  have go:=fun lo0 hi0 h2=>Vb hc hf ih (lo0:=lo0) (hi0:=hi0) (T:=T) hn pA pB (by omega) hl hA hB sA sB ha hm hb hmid h2
  rw [Bp]
  by_cases h2:mid<m
  ·have w5:w64 (((mid+m:Nat):Int)-(b:Int))=((mid+m-b:Nat):Int):=by rw [AX (by omega) (by omega)];omega
   rw [if_pos (by omega),w5]
   exact go _ _ (.inl ⟨h2,rfl,rfl⟩)
  ·rw [if_neg (by omega)]
   exact go _ _ (.inr ⟨by omega,rfl,rfl⟩)
end
section
variable {c:Int→Int→Int} {f:Ad} {D:Int→Prop}
theorem Ma (hc:Ord3 c) (hf:∀ x y,D x→D y→f.g (x,y)=some (c x y)) {A B P T:List Int} (nA:A≠[]) (nB:B≠[]) (hl:P.length+A.length+B.length≤5000) (hA:∀ z∈A,D z) (hB:∀ z∈B,D z) (sA:CH c A) (sB:CH c B) :
  ∃ S,S.Perm (A++B)∧CH c S∧FT (P++(A++(B++T))) (P.length:Int) ((P.length+A.length:Nat):Int) ((P.length+A.length+B.length:Nat):Int) f=some (P++(S++T)) :=
 JO hc hf (A.length+B.length) As (AY (by omega)) A B P T (Nat.le_refl _) nA nB hl hA hB sA sB
def Blk (c:Int→Int→Int) (bs:Nat) (l:List Int) : Prop:=∀ i,CH c ((l.drop (i * bs)).take bs)
theorem P4 {bs:Nat} {S:List Int} (h:S.length≤bs) (s:CH c S) : Blk c bs S:=fun i=>(s.sublist (List.drop_sublist _ _)).sublist (List.take_sublist _ _)
theorem Tt {bs:Nat} {S R:List Int} (h:S.length=bs) (s:CH c S) (hR:Blk c bs R) : Blk c bs (S++R):=fun i=>by
 cases i with
 | zero =>
  rw [Nat.zero_mul,List.drop_zero,← h,List.take_left']
  ·exact s
  ·rfl
 | succ i =>
  have:(i+1) * bs=S.length+i * bs:=by rw [h,Nat.succ_mul,Nat.add_comm]
  rw [this,← List.drop_drop,List.drop_left']
  ·exact hR i
  ·rfl
theorem Hz {bs:Nat} {R:List Int} (h:Blk c bs R) : CH c (R.take bs):=by have:=h 0;rwa [Nat.zero_mul,List.drop_zero] at this
theorem KU {bs:Nat} {R:List Int} (h:Blk c bs R) : Blk c bs (R.drop bs):=fun i=>by
 rw [List.drop_drop]
 have:=h (i+1)
 rwa [Nat.succ_mul,Nat.add_comm (i * bs)] at this
theorem Pg (hc:Ord3 c) (hf:∀ x y,D x→D y→f.g (x,y)=some (c x y)) {N:Nat} (hN:N≤4096) : ∀ (n:Nat) (R P:List Int) (k:Nat),R.length≤n→n<k→P.length+R.length=N→(∀ z∈R,D z) →
  ∃ R',R'.Perm R∧Blk c 20 R'∧DI (N:Int) f (fun (z1:(List Int)) (z2:Int)=>((DD z1 z2 (N:Int) f).bind fun x7=>(B0 (N:Int) f As x7 20))) k (P++R) (P.length:Int) ((P.length+20:Nat):Int)=B0 (N:Int) f As (P++R') 20
 | n,R,P,0,_,h,_,_=>by omega
 | n,R,P,k+1,hn,hk,hl,hD=>by
  rw [DI]
  by_cases hlt:20≤R.length
  ·match n,hn with
   | 0,hn=>omega
   | n+1,hn =>
    obtain ⟨M,R2,rfl,hM⟩:∃ M R2,R=M++R2∧M.length=20:=⟨R.take 20,R.drop 20,(List.take_append_drop _ _).symm,by rw [List.length_take];omega⟩
    rw [List.length_append] at hn hl hlt
    obtain ⟨S,p1,p2,p3⟩:=KQ hc hf (P:=P) (M:=M) (T:=R2) (by omega) (fun z hz=>hD z (by simp [hz]))
    have hS:S.length=20:=by rw [p1.length_eq,hM]
    obtain ⟨R',q1,q2,q3⟩:=Pg hc hf hN n R2 (P++S) k (by omega) (by omega) (by rw [List.length_append];omega) (fun z hz=>hD z (by simp [hz]))
    refine ⟨S++R',p1.append q1,Tt hS p2 q2,?_⟩
    rw [hM,List.append_assoc P M R2] at p3
    rw [List.length_append,hS] at q3
    rw [if_pos (by omega),p3,oB,show w64 (((P.length+20:Nat):Int)+20)=((P.length+20+20:Nat):Int) by rw [AX (by omega) (by omega)];omega,q3,List.append_assoc]
  ·obtain ⟨S,p1,p2,p3⟩:=KQ hc hf (P:=P) (M:=R) (T:=[]) (by omega) hD
   have hS:S.length=R.length:=p1.length_eq
   refine ⟨S,p1,P4 (by omega) p2,?_⟩
   rw [hl,List.append_nil,List.append_nil] at p3
   rw [if_neg (by omega),p3,oB]
theorem Oj (hc:Ord3 c) (hf:∀ x y,D x→D y→f.g (x,y)=some (c x y)) {N bs:Nat} (hN:N≤4096) (hb:0<bs) (hb2:bs≤5000) (K5:List Int→Option (List Int)) : ∀ (n:Nat) (R P:List Int) (k:Nat),R.length≤n→n<k→P.length+R.length=N→(∀ z∈R,D z)→Blk c bs R →
  ∃ R',R'.Perm R∧Blk c (2 * bs) R'∧DE (N:Int) f (bs:Int) (fun (z10:(List Int)) (z11:Int)=>(jn K5 fun K5=>(if (w64 (z11+(bs:Int)))<(N:Int) then ((FT z10 z11 (w64 (z11+(bs:Int))) (N:Int) f).bind fun x17=>(K5 x17)) else (K5 z10)))) k (P++R) (P.length:Int) ((P.length+2 * bs:Nat):Int)=K5 (P++R')
 | n,R,P,0,_,h,_,_,_=>by omega
 | n,R,P,k+1,hn,hk,hl,hD,hB=>by
  rw [DE]
  have w1:w64 ((P.length:Int)+(bs:Int))=((P.length+bs:Nat):Int):=by rw [AX (by omega) (by omega)];omega
  by_cases hlt:2 * bs≤R.length
  ·match n,hn with
   | 0,hn=>omega
   | n+1,hn =>
    have sA:=Hz hB
    have sB:=Hz (KU hB)
    have hT:=KU (KU hB)
    have eR:R=R.take bs++((R.drop bs).take bs++(R.drop bs).drop bs):=by rw [List.take_append_drop,List.take_append_drop]
    have lA:(R.take bs).length=bs:=by rw [List.length_take];omega
    have lB:((R.drop bs).take bs).length=bs:=by rw [List.length_take,List.length_drop];omega
    generalize R.take bs=A at *
    generalize (R.drop bs).take bs=B at *
    generalize (R.drop bs).drop bs=T at *
    subst eR
    rw [List.length_append,List.length_append,lA,lB] at hn hl hlt
    obtain ⟨S,p1,p2,p3⟩:=Ma hc hf (P:=P) (A:=A) (B:=B) (T:=T) (fun q=>by rw [q] at lA;simp at lA;omega) (fun q=>by rw [q] at lB;simp at lB;omega) (by omega) (fun z hz=>hD z (by simp [hz])) (fun z hz=>hD z (by simp [hz])) sA sB
    have hS:S.length=2 * bs:=by rw [p1.length_eq,List.length_append];omega
    obtain ⟨R',q1,q2,q3⟩:=Oj hc hf hN hb hb2 K5 n T (P++S) k (by omega) (by omega) (by rw [List.length_append];omega) (fun z hz=>hD z (by simp [hz])) hT
    refine ⟨S++R',?_,Tt hS p2 q2,?_⟩
    ·rw [← List.append_assoc];exact p1.append q1
    ·rw [lA,lB,show P.length+bs+bs=P.length+2 * bs by omega] at p3
     rw [List.length_append,hS,List.append_assoc] at q3
     have w2:w64 (2 * (bs:Int))=((2 * bs:Nat):Int):=by rw [AX (by omega) (by omega)];omega
     rw [if_pos (by omega),w1,p3,oB,w2,show w64 (((P.length+2 * bs:Nat):Int)+((2 * bs:Nat):Int))=((P.length+2 * bs+2 * bs:Nat):Int) by rw [AX (by omega) (by omega)];omega,q3,List.append_assoc]
  ·rw [if_neg (by omega),Bp,w1]
   by_cases h1:bs<R.length
   ·have sA:=Hz hB
    have sB:CH c (R.drop bs):=by
     have:=Hz (KU hB)
     rwa [List.take_of_length_le (by rw [List.length_drop];omega)] at this
    have eR:R=R.take bs++R.drop bs:=(List.take_append_drop _ _).symm
    have lA:(R.take bs).length=bs:=by rw [List.length_take];omega
    have lB:(R.drop bs).length=R.length-bs:=List.length_drop
    have hDA:∀ z∈R.take bs,D z:=fun z hz=>hD z (List.mem_of_mem_take hz)
    have hDB:∀ z∈R.drop bs,D z:=fun z hz=>hD z (List.mem_of_mem_drop hz)
    obtain ⟨S,p1,p2,p3⟩:=Ma hc hf (P:=P) (A:=R.take bs) (B:=R.drop bs) (T:=[]) (fun q=>by rw [q] at lA;simp at lA;omega) (fun q=>by rw [q] at lB;simp at lB;omega) (by omega) hDA hDB sA sB
    rw [← eR] at p1
    have hS:S.length=R.length:=p1.length_eq
    rw [List.append_nil,List.append_nil,← eR,lA,lB,show P.length+bs+(R.length-bs)=N by omega] at p3
    exact ⟨S,p1,P4 (by omega) p2,by rw [if_pos (by omega),p3,oB]⟩
   ·have s1:=Hz hB
    rw [List.take_of_length_le (by omega)] at s1
    exact ⟨R,List.Perm.refl _,P4 (by omega) s1,by rw [if_neg (by omega)]⟩
theorem Oq (hc:Ord3 c) (hf:∀ x y,D x→D y→f.g (x,y)=some (c x y)) {N:Nat} (hN:N≤4096) : ∀ (n:Nat) (l:List Int) (bs k:Nat),N-bs≤n→n<k→0<bs→bs≤10000→l.length=N→(∀ z∈l,D z)→Blk c bs l →
  ∃ S,S.Perm l∧CH c S∧B0 (N:Int) f k l (bs:Int)=some S
 | n,l,bs,0,_,h,_,_,_,_,_=>by omega
 | n,l,bs,k+1,hn,hk,hb,hb2,hl,hD,hB=>by
  rw [B0]
  by_cases hlt:bs<N
  ·match n,hn with
   | 0,hn=>omega
   | n+1,hn =>
    obtain ⟨l',p1,p2,p3⟩:=Oj hc hf hN hb (by omega) (fun (z16:(List Int))=>(B0 (N:Int) f k z16 (w64 ((bs:Int) * 2)))) l.length l [] As (Nat.le_refl _) (AY (by omega)) (by simpa using hl) hD hB
    obtain ⟨S,q1,q2,q3⟩:=Oq hc hf hN n l' (2 * bs) k (by omega) (by omega) (by omega) (by omega) (by rw [p1.length_eq];exact hl) (fun z hz=>hD z (p1.mem_iff.1 hz)) p2
    refine ⟨S,q1.trans p1,q2,?_⟩
    have w1:w64 (2 * (bs:Int))=((2 * bs:Nat):Int):=by rw [AX (by omega) (by omega)];omega
    have w2:w64 ((bs:Int) * 2)=((2 * bs:Nat):Int):=by rw [AX (by omega) (by omega)];omega
    rw [List.nil_append,List.nil_append,List.length_nil,Nat.zero_add,show (((0:Nat)):Int)=0 from rfl] at p3
    rw [if_pos (by omega),Bp,w1]
    refine p3.trans ?_
    rw [w2];exact q3
  ·have s1:=Hz hB
   rw [List.take_of_length_le (by omega)] at s1
   exact ⟨l,List.Perm.refl _,s1,by rw [if_neg (by omega)]⟩
theorem W7 (hc:Ord3 c) (hf:∀ x y,D x→D y→f.g (x,y)=some (c x y)) {l:List Int} (hl:l.length≤4096) (hD:∀ z∈l,D z) : ∃ S,S.Perm l∧CH c S∧Jq l f=some S:=by
 obtain ⟨R,p1,p2,p3⟩:=Pg hc hf (N:=l.length) hl l.length l [] As (Nat.le_refl _) (AY (by omega)) (by simp) hD
 obtain ⟨S,q1,q2,q3⟩:=Oq hc hf (N:=l.length) hl l.length R 20 As (by omega) (AY (by omega)) (by decide) (by decide) p1.length_eq (fun z hz=>hD z (p1.mem_iff.1 hz)) p2
 refine ⟨S,q1.trans p1,q2,?_⟩
 rw [List.nil_append,List.nil_append,List.length_nil,Nat.zero_add,show (((0:Nat)):Int)=0 from rfl,show (((20:Nat)):Int)=20 from rfl] at p3
 unfold Jq JG
 rw [Bp]
 have q3':B0 ((l.length:Nat):Int) f As R 20=some S:=q3
 rw [p3,q3',oB]
end
def BB (a0:(Int×RT×Int)) (a1:Int) (a2:Arr) : Option (Arr×Int):=((Cy a1).bind fun x1=>(if x1=true then ((Eh a0 ([a2])).bind fun x2=>(if x2=true then ((B9 a2).bind fun x3=>(if a1=8834 then none else (if a1=8835 then none else (if a1=8593 then (jn (((rd? x3 0).bind fun x4=>none)) fun K0=>(if ((List.length x3:Nat) : Int)=0 then none else (K0))) else (if a1=8714 then none else (jn (fun (z5:Bool)=>(if z5=true then (if ((List.length a2.shape:Nat) : Int)=1 then ((EH a0 x3 (TV [(9035,1),(9042,(-1))] a1)).bind fun x6=>(some (x6,0))) else (some ((Arr.mk [] []),4))) else (if a1=8746 then (if 1<((List.length a2.shape:Nat) : Int) then (some ((Arr.mk [] []),4)) else none) else (if a1=8801 then none else (if a1=8802 then none else ((HA a0 a2).bind fun x7=>(some (x7.1,x7.2)))))))) fun K1=>(if a1=9035 then (K1 (decide (a1=9035))) else (K1 (decide (a1=9042)))))))))) else (some ((Arr.mk [] []),22)))) else (some ((Arr.mk [] []),23))))
theorem EE {a0:(Int×RT×Int)} {a1:Int} {a2:Arr} {r:Arr×Int} (h:BB a0 a1 a2=some r) :
  Fn Tryz.prog 19 [.ag [.i .i64 a0.1,.b a0.2.1.1,.sl (L a0.2.1.2.1),.sl (L a0.2.1.2.2),.i .i64 a0.2.2],.i .i32 a1,.ag [.sl (Is a2.shape),.sl (Its a2.items)]] (.tup [.d (.ag [.sl (Is r.1.shape),.sl (Its r.1.items)]),.d (.i .i64 r.2)]):=by
 unfold BB at h
 refine Fn.ofC (rs:=[.cell 6 27,.tmp 7]) (nt:=121) Tryz.func19 rfl rfl rfl (by simp) rfl ?_;refine .sr ?_;refine vk vbx ?_;refine vk vbx ?_;refine vk (van (Ak AK) AP) ?_;refine ar [1,3,5,6,7] ?_;refine .seq ?_;refine .block ?_;refine .sr ?_;refine va ?_
 obtain ⟨x1,g1,h⟩:=bnd h
 refine vk (Al (KT g1) Tryz.call64) ?_;refine vk vnt ?_;refine ar [1,3,5,6,7,9] ?_
 rcases brc h with ⟨hc,h⟩|⟨hc,h⟩
 ·refine cnf (ntf hc) ?_
  refine .sr ?_;refine vk (Ar IX IF) ?_;refine vk (Ar Ag Ab) ?_;refine vk ((FF (Jr a2) (GT [a2]) I4).deep) ?_
  obtain ⟨x2,g2,h⟩:=bnd h
  refine vk (Al (Hg g2) Tryz.call39) ?_;refine vk vnt ?_;refine ar [1,3,5,6,7,14] ?_
  rcases brc h with ⟨hc,h⟩|⟨hc,h⟩
  ·refine cnf (ntf hc) ?_
   refine .sk ?_;refine .sr ?_;refine vk (Ar Ag Ab) ?_
   obtain ⟨x3,g3,h⟩:=bnd h
   refine vk (Al (GO g3) Tryz.call46) ?_;refine ar [1,3,5,6,7,8] ?_;refine .seq ?_;refine .sr ?_;refine va ?_;refine rk [1,3,5,6,7,8,23] ?_;refine .block ?_;refine .sr ?_;refine vb ?_;refine ar [1,3,5,6,7,8,23,24] ?_
   rcases brc h with ⟨hc,h⟩|⟨hc,h⟩
   ·refine cnt (dT hc) ?_
    refine .sr ?_;refine vk (Ar Ag Ab) ?_
    exact nomatch h
   refine cnf (dF hc) ?_;refine .sr ?_;refine vb ?_;refine ar [1,3,5,6,7,8,23,32] ?_
   rcases brc h with ⟨hc,h⟩|⟨hc,h⟩
   ·refine cnt (dT hc) ?_
    refine .sr ?_;refine vk (Ar Ag Ab) ?_
    exact nomatch h
   refine cnf (dF hc) ?_;refine .sr ?_;refine vb ?_;refine ar [1,3,5,6,7,8,23,38] ?_
   rcases brc h with ⟨hc,h⟩|⟨hc,h⟩
   ·refine cnt (dT hc) ?_
    refine .seq ?_;refine .sr ?_;refine va ?_;refine vk (A5 (Au _) (BS _) BO) ?_;refine vb ?_;refine rk [3,5,6,7,8,42] ?_
    obtain ⟨K0,hK0,h⟩:=AH h
    refine AW.mr (σ:=Unit) (fun p=>K0=some r) (fun p=>[(3,.d (.ptr [.i .i64 a0.1,.b a0.2.1.1,.sl (L a0.2.1.2.1),.sl (L a0.2.1.2.2),.i .i64 a0.2.2])),(5,.d (.ptr [.sl (Is a2.shape),.sl (Its a2.items)])),(6,.nb [.sl (Is []),.sl (Its [])]),(7,.d (.i .i64 0)),(8,.d (.sl (Its x3)))]) (fun p=>[]) ?_ ?_
    ·skip
     rcases brc h with ⟨hc,h⟩|⟨hc,h⟩
     ·refine cnt (dT hc) ?_
      refine .region ?_;refine vk (Ar Ag Ab) ?_
      exact nomatch h
     refine cnf (dF hc) ?_;refine .gk [3,5,6,7,8] ?_;refine .skip ?_
     exact jr () h
    rintro _ h
    subst hK0
    refine aw ?_;refine .sr ?_;refine va ?_
    obtain ⟨x4,g4,h⟩:=bnd h
    obtain ⟨n4,p04,q4⟩:=Ah g4
    refine vk (vix n4 p04 (CD q4) rfl CF) ?_;refine vk (Ar AT Az) ?_
    exact nomatch h
   refine cnf (dF hc) ?_;refine .sr ?_;refine vb ?_;refine ar [1,3,5,6,7,8,23,50] ?_
   rcases brc h with ⟨hc,h⟩|⟨hc,h⟩
   ·refine cnt (dT hc) ?_
    refine .seq ?_;refine .drawn 13 A6 (by kernel_rfl) ?_;refine dv Ae ?_
    exact nomatch h
   refine cnf (dF hc) ?_;refine .seq ?_;refine .sr ?_;refine vb ?_;refine ar [1,3,5,6,7,8,23,65] ?_
   obtain ⟨K1,hK1,h⟩:=AH h
   refine AW.mr (σ:=Bool) (fun p=>K1 p=some r) (fun p=>[(1,.d (.i .i32 a1)),(3,.d (.ptr [.i .i64 a0.1,.b a0.2.1.1,.sl (L a0.2.1.2.1),.sl (L a0.2.1.2.2),.i .i64 a0.2.2])),(5,.d (.ptr [.sl (Is a2.shape),.sl (Its a2.items)])),(6,.nb [.sl (Is []),.sl (Its [])]),(7,.d (.i .i64 0)),(8,.d (.sl (Its x3))),(23,.d (.i .i32 a1)),(65,.d (.b p))]) (fun p=>[]) ?_ ?_
   ·skip
    rcases brc h with ⟨hc,h⟩|⟨hc,h⟩
    ·refine cnt (dT hc) ?_
     refine .gk [1,3,5,6,7,8,23,65] ?_;refine .skip ?_
     exact jr ((decide (a1=9035))) h
    refine cnf (dF hc) ?_;refine .region ?_;refine vb ?_;refine asd ?_;refine RL.gk [1,3,5,6,7,8,23,65] ?_;refine .nil ?_
    exact jr ((decide (a1=9042))) h
   rintro z5 h
   try dsimp only at h ⊢
   subst hK1
   refine aw ?_
   rcases brc h with ⟨hc,h⟩|⟨hc,h⟩
   ·refine cnt hc ?_
    refine .seq ?_;refine .sr ?_;refine vk (vfa A7) ?_;refine vk (Ao CG) ?_;refine vk (A5 (Af _) (Da _) CU) ?_;refine vb ?_;refine rk [1,3,5,6,7,8,71] ?_
    rcases brc h with ⟨hc,h⟩|⟨hc,h⟩
    ·refine cnf (ntf (dT hc)) ?_
     refine .sk ?_;refine .sr ?_;refine vk (Ar IX IF) ?_;refine va ?_;refine vk Aah ?_;refine ZI Fs gkR freshK.nil ?_;refine ZI Fs gkR (freshK.snoc (z:=9042) (z':=9035) freshK.nil (by decide)) ?_;refine RL.gh (Gh.omf (t:=75) rfl) ?_;refine va ?_;refine va ?_;refine vk (ZT (T:=[(9035,1),(9042,(-1))]) (by decide) Fs gkR Ko) ?_
     obtain ⟨x6,g6,h⟩:=bnd h
     refine vk (Al (Of g6) Tryz.call70) ?_
     refine stn ?_ Ab (by decide)
     refine ar [3,5,6,7] ?_;refine .ret ?_
     cases h
     exact ⟨_,_,⟨.inr rfl,Ag,Ab,p2⟩,rfl,rfl⟩
    refine cnt (ntt (dF hc)) ?_;refine .sr ?_;refine vk (vbd CJ AK AP) ?_
    refine stn ?_ Ab (by decide)
    refine ar [1,3,5,6,7,8] ?_;refine .ret ?_
    cases h
    exact ⟨_,_,⟨.inr rfl,Ag,Ab,p2⟩,rfl,rfl⟩
   refine cnf (bf hc) ?_;refine .sr ?_;refine vb ?_;refine ar [3,5,6,7,8,23,80] ?_
   rcases brc h with ⟨hc,h⟩|⟨hc,h⟩
   ·refine cnt (dT hc) ?_
    refine .seq ?_;refine .sr ?_;refine vk (vfa A7) ?_;refine vk (Ao CG) ?_;refine vk (A5 (Af _) (Da _) CU) ?_;refine vb ?_;refine rk [3,5,6,7,8,85] ?_
    rcases brc h with ⟨hc,h⟩|⟨hc,h⟩
    ·refine cnt (dT hc) ?_
     refine .sr ?_;refine vk (vbd CJ AK AP) ?_
     refine stn ?_ Ab (by decide)
     refine ar [3,5,6,7,8] ?_;refine .ret ?_
     cases h
     exact ⟨_,_,⟨.inr rfl,Ag,Ab,p2⟩,rfl,rfl⟩
    exact nomatch h
   refine cnf (dF hc) ?_;refine .sr ?_;refine vb ?_;refine ar [3,5,6,7,23,95] ?_
   rcases brc h with ⟨hc,h⟩|⟨hc,h⟩
   ·refine cnt (dT hc) ?_
    refine .sr ?_;refine vk (Ar Ag Ab) ?_
    exact nomatch h
   refine cnf (dF hc) ?_;refine .sr ?_;refine vb ?_;refine ar [3,5,6,7,100] ?_
   rcases brc h with ⟨hc,h⟩|⟨hc,h⟩
   ·exact nomatch h
   refine cnf (dF hc) ?_;refine .sk ?_;refine .sr ?_;refine vk (Ar IX IF) ?_;refine vk (Ar Ag Ab) ?_
   obtain ⟨x7,g7,h⟩:=bnd h
   refine vk (VOK.tupd (vs:=[.ag [.sl (Is x7.1.shape),.sl (Its x7.1.items)],.i .i64 x7.2]) (Al (PK g7) Tryz.call71)) ?_;refine vk vex ?_;refine vk vex ?_
   refine stn ?_ Ab (by decide)
   refine ar [6,7] ?_;refine .ret ?_
   cases h
   exact ⟨_,_,⟨.inr rfl,Ag,Ab,p2⟩,rfl,rfl⟩
  refine cnt (ntt (bf hc)) ?_;refine .sr ?_;refine vk (vbd CJ AK AP) ?_
  refine stn ?_ Ab (by decide)
  refine ar [1,3,5,6,7] ?_;refine .ret ?_
  cases h
  exact ⟨_,_,⟨.inr rfl,Ag,Ab,p2⟩,rfl,rfl⟩
 refine cnt (ntt (bf hc)) ?_;refine .sr ?_;refine vk (vbd CJ AK AP) ?_
 refine stn ?_ Ab (by decide)
 refine ar [1,3,5,6,7] ?_;refine .ret ?_
 cases h
 exact ⟨_,_,⟨.inr rfl,Ag,Ab,p2⟩,rfl,rfl⟩
theorem MU {xs:List Itm} (hn:xs.length≤4096) (K:List Int→Option Arr) : ∀ (m i k:Nat),m=xs.length-i→i≤xs.length→m<k →
  CT (1,(false,[],[]),0) xs K k ((C3 xs.length).take i++(List.replicate xs.length (0:Int)).drop i) (i:Int)=K (C3 xs.length)
 | m,i,0,_,_,h=>by omega
 | m,i,k+1,hm,hi,hk=>by
  rw [CT,Int.toNat_natCast,List.length_replicate]
  by_cases hlt:i<xs.length
  ·rw [if_pos (by omega),BE (by simp [Bb];omega),oB]
   show CT _ xs K k (List.set _ (Int.toNat (i:Int)) (w64 ((i:Int)+1))) (w64 ((i:Int)+1))=_
   have e:=Rp (L:=C3 xs.length) (r:=List.replicate xs.length (0:Int)) (by simp [Bb]) (show i<(C3 xs.length).length by rw [Bb];exact hlt)
   rw [LQ] at e
   have e2:w64 ((i:Int)+1)=(i:Int)+1:=by rw [Bo (by omega)];omega
   rw [Int.toNat_natCast,e2,e]
   exact MU hn K (m-1) (i+1) k (by omega) (by omega) (by omega)
  ·have:i=xs.length:=by omega
   rw [if_neg (by omega),List.take_of_length_le (by rw [Bb];omega),List.drop_of_length_le (by simp;omega),List.append_nil]
def Kp (K:Nat) (xs:List Itm) (sg:Int) (i j:Int) : Int:=sg * Ga K (xs.getD (i-1).toNat default) (xs.getD (j-1).toNat default)
theorem Ul (K:Nat) (xs:List Itm) {sg:Int} (hs:sg=1∨sg=-1) : Ord3 (Kp K xs sg):=by
 have h:=(Jo K).map fun i:Int=>xs.getD (i-1).toNat default
 rcases hs with rfl|rfl
 ·have e:Kp K xs 1=fun i j=>Ga K (xs.getD (i-1).toNat default) (xs.getD (j-1).toNat default):=by funext i j;unfold Kp;rw [Int.one_mul]
  rw [e];exact h.ord
 ·have e:Kp K xs (-1)=fun i j=>- Ga K (xs.getD (i-1).toNat default) (xs.getD (j-1).toNat default):=by funext i j;unfold Kp;omega
  rw [e];exact h.neg.ord
theorem QR {x:Itm} : ∀ {xs:List Itm},x∈xs→x.size<itsSize xs+1:=fun {xs} hx=>by
 have:=HT (a:=.mk [] xs) (x:=x) hx
 rw [ZQ] at this
 exact this
theorem Rg {xs:List Itm} (h:VR xs) {sg:Int} (hs:sg=1∨sg=-1) : ∃ S : List Int,S.Perm (C3 xs.length)∧CH (Kp (itsSize xs+1) xs sg) S∧EH (1,(false,[],[]),0) xs sg=some (GR S):=by
 have h2:=h.2.1
 obtain ⟨S,p1,p2,p3⟩:=W7 (c:=Kp (itsSize xs+1) xs sg) (f:=(⟨.fn 128 [] [.ptr [.i .i64 sg],.ptr [.sl (Its xs)],.ptr [.i .i64 1,.b false,.sl (L []),.sl (L []),.i .i64 0]],fun x=>DG x.1 x.2 sg xs (1,(false,[],[]),0)⟩:Ad)) (D:=fun z=>1≤z∧z≤(xs.length:Int)) (Ul _ xs hs) (fun x y hx hy=>by
  show DG x y sg xs (1,(false,[],[]),0)=_
  obtain ⟨i,rfl⟩:∃ i:Nat,x=(i:Int)+1:=⟨(x-1).toNat,by omega⟩
  obtain ⟨j,rfl⟩:∃ j:Nat,y=(j:Int)+1:=⟨(y-1).toNat,by omega⟩
  have hi:i<xs.length:=by omega
  have hj:j<xs.length:=by omega
  have mi:=List.getElem_mem hi
  have mj:=List.getElem_mem hj
  have w1:w64 ((i:Int)+1-1)=(i:Int):=by rw [AX (by omega) (by omega)];omega
  have w2:w64 ((j:Int)+1-1)=(j:Int):=by rw [AX (by omega) (by omega)];omega
  have e1:((i:Int)+1-1).toNat=i:=by omega
  have e2:((j:Int)+1-1).toNat=j:=by omega
  have hv:=(Jo (itsSize xs+1)).vals xs[i] xs[j]
  unfold DG Kp
  dsimp only
  rw [w1,BE hi,oB,w2,BE hj,oB,RD (QR mi) (h.items _ mi).1 (h.items _ mi).2 (h.items _ mj).1 (h.items _ mj).2,oB,e1,e2,CZ hi,CZ hj,AX (by rcases hs with rfl|rfl<;>omega) (by rcases hs with rfl|rfl<;>omega)]) (l:=C3 xs.length) (by rw [Bb];exact h2) KI
 have hS:∀ z∈S,Ev z:=fun z hz=>KH h2 z (p1.mem_iff.1 hz)
 refine ⟨S,p1,p2,?_⟩
 unfold EH
 rw [VX (by omega),oB,Int.toNat_natCast,Bp]
 have:=MU h2 (fun (z2:List Int)=>((Jq z2 (⟨.fn 128 [] [.ptr [.i .i64 sg],.ptr [.sl (Its xs)],.ptr [.i .i64 1,.b false,.sl (L []),.sl (L []),.i .i64 0]],fun x=>DG x.1 x.2 sg xs (1,(false,[],[]),0)⟩:Ad)).bind fun x6=>((GF x6).bind fun x7=>(some (x7))))) xs.length 0 As rfl (Nat.zero_le _) (AY (by omega))
 rw [List.take_zero,List.nil_append,List.drop_zero,show ((0:Nat):Int)=0 from rfl,p3,oB,OU hS (by rw [p1.length_eq,Bb];omega)] at this
 exact this
theorem Za : Cy 9035=some true:=by kernel_rfl
theorem Wr : Cy 9042=some true:=by kernel_rfl
theorem O6 {xs:List Itm} (h:VR xs) (up:Bool) : ∃ S : List Int,S.Perm (C3 xs.length)∧CH (Kp (itsSize xs+1) xs (if up then 1 else -1)) S∧BB (1,(false,[],[]),0) (if up then 9035 else 9042) (vec xs)=some (GR S,0):=by
 have hit:B9 (vec xs)=some xs:=by
  rw [Ku h.ok,if_neg (by
   rintro (q|q)
   ·rw [h.sz] at q;have:=h.pos;have q':((xs.length:Nat):Int)=0:=q;omega
   ·exact q h.2.2.2)];rfl
 cases up with
 | true =>
  obtain ⟨S,p1,p2,p3⟩:=Rg h (sg:=1) (.inl rfl)
  refine ⟨S,p1,p2,?_⟩
  unfold BB
  show ((Cy 9035).bind _)=_
  rw [Za,oB,if_pos rfl,Jw h.ok h.2.2.2,oB,if_pos rfl,hit,oB]
  show (if ((List.length (vec xs).shape:Nat):Int)=1 then ((EH (1,(false,[],[]),0) xs 1).bind fun x6=>some (x6,(0:Int))) else some (Arr.mk [] [],(4:Int)))=_
  rw [if_pos (show ((List.length (vec xs).shape:Nat):Int)=1 from rfl),p3];rfl
 | false =>
  obtain ⟨S,p1,p2,p3⟩:=Rg h (sg:=-1) (.inr rfl)
  refine ⟨S,p1,p2,?_⟩
  unfold BB
  show ((Cy 9042).bind _)=_
  rw [Wr,oB,if_pos rfl,Jw h.ok h.2.2.2,oB,if_pos rfl,hit,oB]
  show (if ((List.length (vec xs).shape:Nat):Int)=1 then ((EH (1,(false,[],[]),0) xs (-1)).bind fun x6=>some (x6,(0:Int))) else some (Arr.mk [] [],(4:Int)))=_
  rw [if_pos (show ((List.length (vec xs).shape:Nat):Int)=1 from rfl),p3];rfl
theorem WA {xs ys:List Itm} (h:xs.Perm ys) : cIs xs=cIs ys:=by
 induction h with
 | nil=>rfl
 | cons x _ ih=>rw [cIs,cIs,ih]
 | swap x y l=>simp only [cIs];omega
 | trans _ _ a b=>exact a.trans b
theorem VR.perm {xs ys:List Itm} (h:VR xs) (hp:ys.Perm xs) : VR ys:=by
 have p:=h.parts
 refine VR.of (fun q=>by rw [q] at hp;exact h.1 hp.nil_eq.symm) (by rw [hp.length_eq];exact h.2.1) (fun x hx=>⟨(h.items x (hp.mem_iff.1 hx)).1,(h.items x (hp.mem_iff.1 hx)).2.1⟩) ?_ (by rw [hp.length_eq,WA hp];exact p.2)
 exact nT (Rf fun x hx=>hp.mem_iff.1 hx) p.1
theorem NK {xs:List Itm} (h:VR xs) {S:List Int} (p:S.Perm (C3 xs.length)) : ∃ ys,ys=S.map (fun z=>xs.getD (z-1).toNat default)∧ys.Perm xs∧VR ys∧Gc (1,(false,[],[]),0) (vec xs) [[GR S]]=some (vec ys,0):=by
 have hm:((C3 xs.length).map fun z=>xs.getD (z-1).toNat default)=xs:=by
  apply List.ext_getElem
  ·simp [Bb]
  ·intro i h1 h2
   rw [List.getElem_map,LQ,show ((i:Int)+1-1).toNat=i by omega]
   exact CZ h2
 have hp:(S.map (fun z=>xs.getD (z-1).toNat default)).Perm xs:=by
  have:=p.map (fun z=>xs.getD (z-1).toNat default)
  rwa [hm] at this
 have v:=h.perm hp
 refine ⟨_,rfl,hp,v,Xv h (fun q=>?_) (by rw [p.length_eq,Bb];exact h.2.1) (fun z hz=>KI z (p.mem_iff.1 hz)) ?_⟩
 ·rw [q] at hp;exact h.1 hp.nil_eq.symm
 ·have:=v.make
  rw [List.length_map] at this
  exact this
end Go.FL
namespace Go.FL
open Go Go.RowKit
def ALM (P:Program) (C:Cx) (c:Code) (Q:Exit→Env→Ac→Prop) (env:Env) (H:Ac) : Prop :=
 ∀ X a w I μ O,X.nt=C.nt→X.n0=C.n0→X.ne=C.ne→Sim P X env H a w I μ O→LB (om C.ro) 0 P c (PostM P X Q) a w
section
variable {P:Program} {C:Cx} {X:Snap} {o:Oper} {ops:Array Oper} {Q:Exit→Env→Ac→Prop} {env env':Env} {H H':Ac} {a:Act} {w w':World} {I I':Nat→Prop} {μ μ':List Nat} {O O':Nat→Option Loc}
 {K:Env→Ac→Prop} {k:Nat} {l:List Oper}
theorem AWM.loop {c:Code} (h:ALM P C c Q env H) : AWM P C (.loop c) Q env H:=fun X a w I μ O h1 h2 h3 hs=>(h X a w I μ O h1 h2 h3 hs).loop
theorem ALM.gh {c:Code} (g:Gh P C env H env' H') (h:ALM P C c Q env' H') : ALM P C c Q env H:=fun X a w I μ O h1 h2 h3 hs =>
 let ⟨I',O',hs'⟩:=g X a w I μ O h1 h2 h3 hs;h X a w I' μ O' h1 h2 h3 hs'
theorem AWM.skip (h:Q .normal env H) : AWM P C .skip Q env H:=.lift (.skip h)
theorem AWM.exit {id:Nat} (h:Q (.exit id) env H) : AWM P C (.exit id) Q env H:=.lift (.exit h)
theorem AWM.mj {x y:Code} {σ:Type} (I:σ→Prop) (e:σ→Env) (g:σ→Ac) (h1:AW P C x (F4 (JR I e g) Q) env H) (h2:∀ s,I s→AWM P C y Q (e s) (g s)) : AWM P C (.seq x y) Q env H :=
 .seqA (h1.mono fun ex env' H' h=>by
  cases ex with
  | normal=>obtain ⟨s,hi,he,hg⟩:=h;subst he;subst hg;exact h2 s hi
  | _=>exact h)
theorem PostM.over {ms:List Deferred} {a1:Act} {w1:World} {env1:Env} {H1:Ac} {I1:Nat→Prop} {μ1:List Nat} {O1:Nat→Option Loc} (hX0:X.n0=0) (s:Sim P {X with dfs:=ms++X.dfs} env1 H1 a1 w1 I1 μ1 O1) (hm:Marks X.K w1 I1 O1 ms) :
  ∃ Y:Snap,Y.nt=X.nt∧Y.n0=X.n0∧Y.ne=X.ne∧Sim P Y env1 H1 a1 w1 I1 μ1 O1∧∀ e a2 w2,PostM P Y Q e a2 w2→PostM P X Q e a2 w2:=by
 obtain ⟨K',hKd⟩:∃ K':Nat→Prop,K'=fun b=>X.K b∨∃ m∈ms,m={target:=.collected b,args:=#[]}:=⟨_,rfl⟩
 have hK':∀ b,K' b→O1 b=none∧b<w1.heap.size:=fun b hb=>by
  rw [hKd] at hb
  rcases hb with hb|⟨m,hm1,hm2⟩
  ·exact ⟨s.kO b hb,nL (s.klt b hb) s.size⟩
  ·obtain ⟨D,e1,e2,e3,e4,_⟩:=hm.2 m hm1
   rw [hm2] at e1;simp at e1;subst e1
   exact ⟨e3,(Array.getElem?_eq_some_iff.1 e2).1⟩
 have hr:=s.recast (s.toMem.reroot hX0 hK') rfl rfl rfl
 refine ⟨{X with w:=w1,I:=I1,K:=K',μ:=μ1,dfs:=ms++X.dfs},rfl,rfl,rfl,hr,fun e a2 w2 ⟨env2,H2,I2,μ2,O2,ms2,s2,q2,hm2⟩=>?_⟩
 refine ⟨env2,H2,I2,μ2,O2,ms2++ms,?_,q2,?_⟩
 ·have hu:Mem P X H2 w2 I2 μ2 O2:=(s.toMem.cast (Y:=X) rfl rfl rfl rfl rfl rfl).unroot hX0 (K':=K') (fun b hb=>by rw [hKd];exact .inl hb) (s2.toMem.cast rfl rfl rfl rfl rfl rfl)
  exact ⟨hu.cast rfl rfl rfl rfl rfl rfl,s2.envr,s2.nt,by rw [s2.dfs.1];simp,s2.dfs.2⟩
 ·refine ⟨List.nodup_append.2 ⟨hm2.1,hm.1,fun x hx y hy e=>?_⟩,fun m hmm=>?_⟩
  ·subst e
   obtain ⟨D,rfl,_,_,_,hk⟩:=hm2.2 x hx
   exact hk (by show K' D;rw [hKd];exact .inr ⟨_,hy,rfl⟩)
  rcases List.mem_append.1 hmm with hmm|hmm
  ·obtain ⟨D,e1,e2,e3,e4,e5⟩:=hm2.2 m hmm
   exact ⟨D,e1,e2,e3,e4,fun hk=>e5 (by show K' D;rw [hKd];exact .inl hk)⟩
  ·obtain ⟨D,rfl,e2,e3,e4,e5⟩:=hm.2 m hmm
   have hkD:K' D:=by rw [hKd];exact .inr ⟨_,hmm,rfl⟩
   exact ⟨D,rfl,(s2.prot D hkD).trans e2,s2.kO D hkD,fun hi=>e4 (s2.kI D hkD hi),e5⟩
theorem ALM.round (h0:C.n0=0) {c:Code} (h:AWM P C c (F4 (ALM P C c Q) Q) env H) : ALM P C c Q env H:=fun X a w I μ O h1 h2 h3 hs =>
 .round (wpIn_mono (h X a w I μ O h1 h2 h3 hs) fun e a1 w1 ⟨env',H',I',μ',O',ms,s,q,hm⟩=>by
  cases e with
  | normal =>
   obtain ⟨Y,y1,y2,y3,y4,y5⟩:=PostM.over (Q:=Q) (by omega) s hm
   have hl:=q Y a1 w1 I' μ' O' (y1.trans h1) (y2.trans h2) (y3.trans h3) y4
   intro b k cs hro hb hr
   obtain ⟨e2,a2,w2,p1,p2⟩:=hl b k cs hro hb hr
   exact ⟨e2,a2,w2,y5 _ _ _ p1,p2⟩
  | _=>exact ⟨env',H',I',μ',O',ms,s,q,hm⟩)
theorem ALM.ind (h0:C.n0=0) {c:Code} {σ:Type} (m:σ→Nat) (e:σ→Env) (h:σ→Ac) (I:σ→Prop)
  (step:∀ s,I s→(∀ s',I s'→m s'<m s→ALM P C c Q (e s') (h s'))→AWM P C c (F4 (ALM P C c Q) Q) (e s) (h s)):∀ s,I s→ALM P C c Q (e s) (h s):=by
 suffices H:∀ n s,m s=n→I s→ALM P C c Q (e s) (h s) from fun s hs=>H _ s rfl hs
 intro n
 induction n using Nat.strongRecOn with
 | ind n ih =>
  intro s hm hs
  exact .round h0 (step s hs fun s' h1 h2=>ih (m s') (by omega) s' rfl h1)
theorem Sim.storeBA {id blk:Nat} (hm:μ[id]?=some blk) (hn:X.n0≤id) : ∀ (us:List Value) (k:Nat) (ds zs:List DV) (H:Ac) (w:World) (O:Nat→Option Loc),Sim P X env H a w I μ O→H[id]?=some (.box (zs.map .d))→zs.length=k+us.length →
  RepAll w I ds us→(∀ u∈us,u.oneCell'=true)→∃ w' O',(storeCells ⟨blk,0,none⟩ us k).run P w=.ok () w'∧Sim P X env (H.set id (.box ((zs.take k++ds).map .d))) a w' I μ O'
 | [],k,ds,zs,H,w,O,hs,hH,hl,hr,h1=>by
  cases hr
  rw [List.append_nil,List.take_of_length_le (by simp at hl;omega),List.set_same _ _ hH]
  exact ⟨w,O,rfl,hs⟩
 | u::us,k,ds,zs,H,w,O,hs,hH,hl,hr,h1=>by
  cases hr with
  | @cons d _ ds _ hd ht =>
   rw [List.length_cons] at hl
   have hu:=h1 u (by simp)
   have hkl:k<zs.length:=by omega
   obtain ⟨q1,⟨u0,q2⟩,q3⟩:=hs.storeC (off:=k) (c:=.d zs[k]) (av:=.d d) (v:=u) (hbs:=[]) hH (by rw [List.getElem?_map,lG hkl];rfl) hm hn (.d hd) nN (by simp)
   have hIb:¬I blk:=by
    obtain ⟨blk',bs,g1,g2,g3,g4⟩:=hs.heap id _ hH
    rw [hm] at g1;cases g1
    exact (hs.own blk _ ((g3 hn).2 blk (by simp))).2
   have hst:(store ((⟨blk,0,none⟩:Addr).add k) u).run P w=.ok () (w.setCell ⟨blk,k,none⟩ u):=by
    have hadd:(⟨blk,0,none⟩:Addr).add k=⟨blk,k,none⟩:=by unfold Addr.add;split<;>simp_all
    rw [hadd,run_store P w _ u _ hu,q2]
    simp [q3]
   have hset:Eo H id k (.d d)=H.set id (.box ((zs.set k d).map .d)):=by
    simp only [Eo,hH];rw [List.map_set]
   rw [hset] at q1
   have hid:id<H.length:=(lS.1 hH).1
   obtain ⟨w2,O2,z1,z2⟩:=Sim.storeBA hm hn us (k+1) ds (zs.set k d) _ _ _ (show Sim P X env _ a _ I μ _ from q1) (by simp [hid]) (by simp;omega)
    (ht.keep (fun b' hb'=>heap_setCell_other w ⟨blk,k,none⟩ b' u fun e=>hIb (by rw [← (show b'=blk from e)];exact hb')) fun _ h=>h) fun u hu=>h1 u (by simp [hu])
   refine ⟨w2,O2,?_,?_⟩
   ·simp only [storeCells,Sem.run_bind,hst,Result.andThen_ok,z1]
   ·have t1:(zs.set k d).take (k+1)=zs.take k++[d]:=by
     rw [List.take_add_one,List.getElem?_set_self (by omega),List.take_set_of_le (Nat.le_refl k)];rfl
    rw [t1,List.set_set] at z2
    simpa using z2
theorem Z8 {x y:Operand} {ty id:Nat} {zs ds:List DV} {bx:List AV} (hH:H[id]?=some (.box bx)) (hb:bx=zs.map .d) (hl:zs.length=ds.length) (h:RL P C ops Q (k+1) l env (H.set id (.box (ds.map .d)))) (hsz:AB P ty=ds.length) (hp:0<ds.length) (hg:grd ops env o true=true:=by rfl)
  (ho:o.op=.store ty x y:=by rfl) (hv:lk env x=.bp id 0:=by rfl) (hy:lk env y=.d (.ag ds):=by rfl) (h1:ds.all DV.leaf=true:=by rfl) (hd:o.dst=none:=by rfl) (h0:C.n0=0:=by rfl):RL P C ops Q k (o::l) env H:=by
 subst hb
 obtain ⟨g1,g2⟩:=Aw hv (by simp)
 refine .go hg (.done (by simp [ho]) hd (fun X a w I μ O _ e2 _ hs=>?_) h)
 have hr:=hs.deep (x:=y) (v:=.ag ds) (by rw [hy];rfl)
 generalize hev:a.eval y=u at hr
 cases hr with
 | ag _ vs hr =>
  obtain ⟨blk,hm,he⟩:=hs.bp g1 g2
  have hvl:vs.length=ds.length:=hr.length.symm
  obtain ⟨w',O',z1,z2⟩:=Sim.storeBA hm (by omega) vs 0 ds zs H w O hs hH (by omega) hr (hr.one h1)
  refine ⟨w',I,μ,O',?_,?_⟩
  ·have hs':(sizeOf ty).run P w=.ok vs.length w:=by rw [hvl,← hsz];exact Ha (by omega)
   have hsv:(storeVar ty ⟨blk,0,none⟩ (.agg vs.toArray)).run P w=.ok () w':=by
    simp [storeVar,hs',Value.cells,z1]
   simp only [execOp,ho,he,hev,Instr.storeAt,Instr.sureAddr,Sem.run_bind,Sem.run_pure,Result.andThen_ok,hsv]
  ·simpa using z2
end
def TJ {α σ:Type} (f:Int→α→σ→Option σ) (xs:List α) : Nat→σ→Option σ
 | 0,s=>some s
 | n+1,s=>(xs[n]?).bind fun x=>(f ((n:Nat):Int) x s).bind fun s'=>TJ f xs n s'
theorem Tf {α σ:Type} {f:Int→α→σ→Option σ} {xs:List α} : ∀ (n:Nat) {s z:σ},TJ f xs n s=some z→∃ T : Nat→σ,T 0=s∧T n=z∧∀ k,k<n→∃ x,xs[n-1-k]?=some x∧f ((n-1-k:Nat) : Int) x (T k)=some (T (k+1))
 | 0,s,z,h=>⟨fun _=>s,rfl,oI h,fun k hk=>absurd hk (Nat.not_lt_zero k)⟩
 | n+1,s,z,h=>by
  simp only [TJ,Option.bind_eq_some_iff] at h
  obtain ⟨x,hx,s',hf,h⟩:=h
  obtain ⟨T,t1,t2,t3⟩:=Tf n h
  refine ⟨fun k=>if k=0 then s else T (k-1),rfl,by simp [t2],fun k hk=>?_⟩
  cases k with
  | zero=>exact ⟨x,by simpa using hx,by simpa [t1] using hf⟩
  | succ k =>
   obtain ⟨y,y1,y2⟩:=t3 k (by omega)
   rw [show n+1-1-(k+1)=n-1-k by omega]
   exact ⟨y,y1,by simpa using y2⟩
theorem TK (cells:Array Value) (n:Nat) : (madeCells cells ((n+1) * cells.size)).toList=cells.toList++(madeCells cells (n * cells.size)).toList:=by
 apply List.ext_getElem
 ·simp [madeCells,Nat.add_mul,Nat.add_comm]
 ·intro j h1 h2
  rw [List.getElem_append]
  split
  ·rename_i hj
   simp only [Array.length_toList] at hj
   simp [madeCells,Nat.mod_eq_of_lt hj,hj]
  ·rename_i hj
   simp only [Array.length_toList,Nat.not_lt] at hj
   simp [madeCells,Nat.mod_eq_sub_mod hj]
theorem OZ {w:World} {I:Nat→Prop} {cs:List DV} {cells:Array Value} (h:RepAll w I cs cells.toList) (h1:∀ u∈cells.toList,u.oneCell'=true) : ∀ n,RepRows w I cells.size (List.replicate n (.ag cs)) (madeCells cells (n * cells.size)).toList
 | 0=>by
  have:(madeCells cells (0 * cells.size)).toList=[]:=by simp [madeCells]
  rw [this];exact .nil _
 | n+1=>by
  rw [TK cells n,List.replicate_succ]
  exact .cons (by simp) h1 h (OZ h h1 n)
section
variable {P:Program} {C:Cx} {o:Oper} {ops:Array Oper} {Q:Exit→Env→Ac→Prop} {env:Env} {H:Ac} {K:Env→Ac→Prop} {k:Nat} {l:List Oper}
theorem VT {l c:Operand} {ty t e by_ sz:Nat} {z:Value} {cs:List DV} {k k':IntKind} {n:Nat} (ho:o.op=.makeSlice ty l c) (hd:o.dst=some t) (ht:okT C.nt t) (hT:Cv P ty=some (e,sz,by_,z)) (hzs:z.cells.size=sz) (h0:0<sz) (hz:∀ w I,RepAll w I cs z.cells.toList) (hlf:cs.all DV.leaf=true)
  (hl:lk env l=.d (.i k n)) (hc:lk env c=.d (.i k' n)) (hby:by_ * n≤281474976710656) (h63:n≤maxLen)
  (hK:K (put env t (.own e (List.replicate n (.ag cs)))) H):OpOK P C o env H K :=
 .val (by simp [ho]) hd ht (fun X a w I μ O _ _ _ hs=>by
  obtain ⟨i,i1,i2,i3,i4,i5,i6,i7,i8⟩:=DJ hT
  have e1:a.eval l=.int k n:=by
   have hr:=hs.deep (x:=l) (v:=.i k n) (by rw [hl];rfl)
   generalize a.eval l=u at hr
   cases hr;rfl
  have e2:a.eval c=.int k' n:=by
   have hr:=hs.deep (x:=c) (v:=.i k' n) (by rw [hc];rfl)
   generalize a.eval c=u at hr
   cases hr;rfl
  obtain ⟨w',q1,q2,q3⟩:=run_make_full w 0 ty e i z sz i1 i2 i3 i4 k k' n (by rw [i5];exact hby) h63 (Nat.zero_le _)
  have h2:=hs.grownR q3 fun b hb=>(by cases hb)
  have hO:∀ b,w.heap.size≤b→O b=none:=fun b hb=>by
   cases hx:O b with
   | none=>rfl
   | some l=>have:=(hs.own b l hx).1;omega
  have h3:=h2.newR (BG (.slice (some ⟨w.heap.size,0,none⟩) n n)) fun b hb=>by
   have hlt:=(OwnR.of q2).lt b hb
   have:b=w.heap.size:=by
    simp only [BG] at hb
    split at hb<;>simp at hb
    exact hb
   subst this
   exact ⟨hlt,.inl (hO _ (Nat.le_refl _)),fun hi=>by have:=hs.ilt _ hi;omega,fun hk=>by have:=hs.klt _ hk;have:=hs.size;omega⟩
  refine ⟨.slice (some ⟨w.heap.size,0,none⟩) n n,w',I,μ,_,?_,h3,BG (.slice (some ⟨w.heap.size,0,none⟩) n n),?_,Hb _,fun b hb=>by simp [hb]⟩
  ·simp only [execOp,ho,e1,e2,q1,Sem.run_bind,Result.andThen_ok,Sem.run_pure]
  ·have hrow:=OZ (cs:=cs) (cells:=z.cells) (hz w' I) ((hz w' I).one hlf) n
   rw [hzs] at hrow
   exact .own e _ _ _ (by omega) (by rw [List.length_replicate,i8];exact .of q2) (by rw [i8];exact hrow)) hK
theorem Aat {α:Type} {F:List α→List DV} {x0:α} {x c:Operand} {ty t e by_ sz:Nat} {z:Value} {cs:List DV} {q q':IntKind} {zl:Int} (n:Nat) (hF:List.replicate n (.ag cs)=F (List.replicate n x0)) (hn:zl=n) (hb:by_ * n≤281474976710656∧n≤9223372036854775807) (h:RL P C ops Q (k+1) l ((t,.own e (F (List.replicate n x0)))::env) H)
  (hT:Cv P ty=some (e,sz,by_,z)) (hz:∀ w I,RepAll w I cs z.cells.toList) (hzs:z.cells.size=sz:=by rfl) (h0:0<sz:=by decide) (hlf:cs.all DV.leaf=true:=by rfl) (hg:grd ops env o true=true:=by rfl) (ho:o.op=.makeSlice ty x c:=by rfl) (hx:lk env x=.d (.i q zl):=by rfl) (hc:lk env c=.d (.i q' zl):=by rfl) (hd:o.dst=some t:=by rfl)
  (hf:An (get env t)=false:=by rfl) (ht:okT C.nt t:=by rfl):RL P C ops Q k (o::l) env H:=by
 subst hn
 rw [← Am hf] at h
 exact .go hg (VT ho hd ht hT hzs h0 hz hlf hx hc hb.1 (by simpa [maxLen] using hb.2) (by rw [hF];exact h))
end
def Ra (n:Nat) : AV→Bool
 | .bp i _=>Nat.blt i n
 | .ref (.c i _) _ _=>Nat.blt i n
 | .ep (.c i _) _ _=>Nat.blt i n
 | av=>noBp av
section
variable {P:Program} {C:Cx} {X:Snap} {o:Oper} {ops:Array Oper} {Q:Exit→Env→Ac→Prop} {env env':Env} {H H':Ac} {a:Act} {w w':World} {I I':Nat→Prop} {μ μ':List Nat} {O O':Nat→Option Loc}
 {K:Env→Ac→Prop} {k:Nat} {l:List Oper}
theorem AL.gh2 {c:Code} (g:Gh2 P C env H env' H') (h:AL P C c Q env' H') : AL P C c Q env H:=fun X a w I μ O h1 h2 h3 hs =>
 let ⟨I',μ',O',hs'⟩:=g X a w I μ O h1 h2 h3 hs;h X a w I' μ' O' h1 h2 h3 hs'
theorem ALM.gh2 {c:Code} (g:Gh2 P C env H env' H') (h:ALM P C c Q env' H') : ALM P C c Q env H:=fun X a w I μ O h1 h2 h3 hs =>
 let ⟨I',μ',O',hs'⟩:=g X a w I μ O h1 h2 h3 hs;h X a w I' μ' O' h1 h2 h3 hs'
theorem AWM.gh2 {c:Code} (g:Gh2 P C env H env' H') (h:AWM P C c Q env' H') : AWM P C c Q env H:=fun X a w I μ O h1 h2 h3 hs =>
 let ⟨I',μ',O',hs'⟩:=g X a w I μ O h1 h2 h3 hs;h X a w I' μ' O' h1 h2 h3 hs'
theorem Gh2.cut {H0:Ac} (G:Ac) (hH:H=H0++G) (hb:(env.all fun x=>Ra H0.length x.2)=true) (hb0:H0.all X3=true) (hne:Nat.ble C.ne H0.length=true) : Gh2 P C env H env H0:=fun X a w I μ O _ h2 h3 hs=>by
 subst hH
 have hne':X.ne≤H0.length:=by rw [h3];exact Nat.le_of_ble_eq_true hne
 have hμt:∀ i,i<H0.length→(μ.take H0.length)[i]?=μ[i]?:=fun i hi=>by rw [List.getElem?_take,if_pos hi]
 refine ⟨I,μ.take H0.length,O,{
  prot:=hs.prot,kO:=hs.kO,kI:=hs.kI,mono:=hs.mono,os:=hs.os,tape:=hs.tape,output:=hs.output,size:=hs.size,own:=hs.own,ilt:=hs.ilt
  μlen:=by rw [List.length_take,hs.μlen];simp
  μpre:=fun i b hi hb=>by rw [hμt i (by omega)];exact hs.μpre i b hi hb
  nle:=hne'
  heap:=fun id ob ho=>?_
  klt:=hs.klt
  n0le:=hs.n0le
  envr:=fun s=>?_
  nt:=hs.nt
  dfs:=hs.dfs}⟩
 ·have hlt:=(lS.1 ho).1
  obtain ⟨bb,bs',q1,q2,q3,q4⟩:=hs.heap id ob (by rw [List.getElem?_append_left hlt];exact ho)
  refine ⟨bb,bs',by rw [hμt id hlt];exact q1,?_,q3,q4⟩
  have hnb:X3 ob=true:=List.all_eq_true.1 hb0 ob (List.mem_of_getElem? ho)
  cases ob with
  | box c =>
   obtain ⟨cl,et,n1,n2⟩:=q2
   exact ⟨cl,et,n1,n2.noBp (μ':=μ.take H0.length) hnb⟩
 ·have hp:=PX (p:=Ra H0.length) rfl hb s
  have ht:=hs.envr s
  have plain:∀ av,get env s=av→noBp av=true→A4 av=false→TRep P env H0 a w I (μ.take H0.length) O s av:=by
   intro av hav hn hr
   rw [hav] at ht
   obtain ⟨bs,g1,g2,g3⟩:=ht.plain hr
   exact .of (g1.noBp (μ':=μ.take H0.length) hn) g2 g3
  have place:∀ (p:Pl) e xs,(∀ id off,p=.c id off→id<H0.length)→AI env (H0++G) p=.own e xs→AI env H0 p=.own e xs∧∀ v,Be a w μ p=some v→Be a w (μ.take H0.length) p=some v:=fun p e xs hl hp=>by
   cases p with
   | t n=>exact ⟨hp,fun v hv=>hv⟩
   | c id off =>
    have hid:=hl id off rfl
    refine ⟨?_,fun v hv=>?_⟩
    ·simp only [AI] at hp ⊢
     rw [List.getElem?_append_left hid] at hp;exact hp
    ·simp only [Be] at hv ⊢
     rw [hμt id hid];exact hv
  cases hgs:get env s with
  | bp i off =>
   rw [hgs] at hp ht
   obtain ⟨bs,g1,g2,g3⟩:=ht.plain rfl
   have hi:i<H0.length:=by simp [Ra,Nat.blt] at hp;omega
   refine .of (bs:=bs) ?_ g2 g3
   generalize a.tmps.getD s undef=v at g1
   cases g1 with
   | bp _ _ blk' hb'=>exact .bp i off blk' (by rw [hμt i hi];exact hb')
  | ref p off len =>
   rw [hgs] at hp ht
   obtain ⟨e',xs,A,n,c,g1,g2,g3,g4⟩:=ht
   obtain ⟨p1,p2⟩:=place p e' xs (fun id off h=>by subst h;simp [Ra,Nat.blt] at hp;omega) g1
   exact ⟨e',xs,A,n,c,p1,p2 _ g2,g3,g4⟩
  | ep p i k =>
   rw [hgs] at hp ht
   obtain ⟨e',xs,b,n,c,g1,g2,g3,g4,g5⟩:=ht
   obtain ⟨p1,p2⟩:=place p e' xs (fun id off h=>by subst h;simp [Ra,Nat.blt] at hp;omega) g1
   exact ⟨e',xs,b,n,c,p1,p2 _ g2,g3,g4,g5⟩
  | _ =>
   rw [hgs] at hp
   exact plain _ hgs hp rfl
end
end Go.FL
namespace Go.FL
open Go Go.Proofs
def QN (xs:List RT) : List (List DV):=(List.range xs.length).map fun k=>match xs[xs.length-1-k]? with
 | some x=>[.i .i64 ((xs.length-1-k:Nat):Int),.ag [.b x.1,.sl (L x.2.1),.sl (L x.2.2)]]
 | none=>[]
theorem Ps {xs:List RT} {k:Nat} {x:RT} (hk:k<xs.length) (h:xs[xs.length-1-k]?=some x) : (QN xs)[k]?=some [.i .i64 ((xs.length-1-k:Nat) : Int),.ag [.b x.1,.sl (L x.2.1),.sl (L x.2.2)]]:=by simp [QN,hk,h]
theorem IQ (xs:List RT) : (QN xs).length=xs.length:=by simp [QN]
theorem Vw (xs:List RT) : ∀ ds∈QN xs,ds.length=2:=fun ds hd=>by
 obtain ⟨k,hk⟩:=List.getElem?_of_mem hd
 have hkl:k<xs.length:=by rw [← IQ];exact (lS.1 hk).1
 rw [Ps hkl (lG (by omega))] at hk
 cases hk;rfl
theorem Yl (xs:List DV) : Fn Tryz.prog 102 [.sl xs] (.d (.fn 158 [] [.ptr [.sl xs]])):=by
 refine Fn.of (rs:=[.tmp 2]) (nt:=4) Tryz.func102 rfl rfl rfl (by simp) rfl ?_;refine .seq ?_;refine .region ?_;refine bxd ?_;refine asd ?_;refine rn ?_;refine .seq ?_;refine .region ?_;refine mkf ?_;refine asd ?_;refine rn ?_;refine .ret ?_
 exact ⟨rfl,rfl⟩
set_option maxRecDepth 10000 in
theorem Yz {xs:List RT} (hl:xs.length≤9223372036854775806) {m:Nat} (hm:xs.length≤m) : ItG Tryz.prog 158 [.ptr [.sl (RVs xs)]] (QN xs) m:=by
 have hyl:=IQ xs
 refine ItG.of Tryz.func158 rfl rfl (nt:=19) rfl (by simp) fun lp J hJ hR=>?_;refine .seq ?_;refine .lift ?_;refine .region ?_;refine vk (Ao PR) ?_;refine vk (A5 (D6 _) (M1 _) SJ) ?_;refine vk (vbi) ?_;refine asd ?_;refine .nil ?_
 show AWJ _ _ _ _ _ _ _ _ _
 refine .block ?_;refine ALJ.loop ?_;refine ALJ.gh (Gh.keep [0,1,3] rfl) ?_
 rw [show DV.i .i64 (IntKind.wrap .i64 (((List.length xs:Nat):Int)-1))=.i .i64 (((List.length xs:Nat):Int)-1-((0:Nat):Int)) from by
  congr 1;simp only [IntKind.wrap,IntKind.bits,IntKind.signed];simp;omega]
 refine ALJ.ind (σ:=Nat) (m:=fun i=>xs.length-i) (e:=fun i=>[(0,.d (.yl lp)),(1,.d (.ptr [.sl (RVs xs)])),(3,.d (.i .i64 (((List.length xs:Nat):Int)-1-((i:Nat):Int))))]) (h:=fun _=>[]) (r:=fun i=>i) (I:=fun i=>i≤xs.length) ?_ 0 (Nat.zero_le _)
 rintro i hi ih
 refine .seq ?_;refine .seq ?_;refine .lift ?_;refine .region ?_;refine vk (Ae) ?_;refine vk (vbi) ?_;refine .nil ?_
 show AWJ _ _ _ _ _ _ _ _ _
 by_cases hc:(0:Int)≤((List.length xs:Nat):Int)-1-((i:Nat):Int)
 ·refine .cond (x:=true) (by show AV.d (.b (decide _))=_;rw [dT hc]) (fun _=>?_) (fun h=>by cases h)
  have hlt:i<xs.length:=by omega
  have hj:xs.length-1-i<xs.length:=by omega
  have hij:((List.length xs:Nat):Int)-1-((i:Nat):Int)=((xs.length-1-i:Nat):Int):=by omega
  have hxi:=lG hj
  generalize xs[xs.length-1-i]=x at hxi
  refine .skip ?_
  show AWJ _ _ _ _ _ _ _ _ _
  refine .seq ?_;refine .block ?_;refine .seq ?_;refine .region ?_;refine vkJ (Ae) ?_;refine vkJ (Ae) ?_;refine vkJ (Ao PR) ?_;refine vkJ (Ae) ?_;refine vkJ (vix (xs.length-1-i) hij (Pm hxi) rfl Wd) ?_;refine vkJ (Ar A0 AE) ?_
  refine yld (hR i [.i .i64 ((xs.length-1-i:Nat):Int),.ag [.b x.1,.sl (L x.2.1),.sl (L x.2.2)]] (Ps hlt hxi) (by omega)) hJ ?_ (ha:=by show some _=some _;rw [hij];rfl)
  refine vkJ (vnt) ?_;refine .nil ?_
  show AWJ _ _ _ _ _ _ _ _ _
  refine .cond (x:=false) (by show AV.d (.b (!decide _))=_;rw [dT (by omega:i<m)];rfl) (fun h=>by cases h) (fun _=>?_)
  refine .skip ?_
  show AWJ _ _ _ _ _ _ _ _ _
  refine .lift ?_;refine .region ?_;refine vk (Ae) ?_;refine vk (vbi) ?_;refine asd ?_;refine .nil ?_
  show ALJ _ _ _ _ _ _ _ _ _
  have hw:IntKind.wrap .i64 (((List.length xs:Nat):Int)-1-((i:Nat):Int)-1)=((List.length xs:Nat):Int)-1-((i+1:Nat):Int):=by simp only [IntKind.wrap,IntKind.bits,IntKind.signed];simp;omega
  rw [hw]
  refine ALJ.gh (Gh.keep [0,1,3] rfl) ?_
  exact ih (i+1) hlt (by omega)
 ·refine .cond (x:=false) (by show AV.d (.b (decide _))=_;rw [dF hc]) (fun h=>by cases h) (fun _=>?_)
  refine .exit ?_
  exact ⟨.inl rfl,by rw [hyl];omega⟩
end Go.FL
namespace Go.FL
open Go Go.RowKit
def cell1 (P:Program) (env:Env) (t ty:Nat) (d:DV) : Prop:=(get env t=.d (.ptr [d])∨get env t=.nb [d])∧Ct P ty=some false
def Ye (P:Program) (env:Env) (r:AV) : List ResultVar→Prop
 | [.cell x tx,.cell y ty]=>∃ cs d,cellD P env x tx cs∧cell1 P env y ty d∧r=.tup [.d (.ag cs),.d d]
 | _=>False
def ZD (P:Program) (rs:List ResultVar) (r:AV) : Exit→Env→Ac→Prop:=fun e env _=>(e=.normal∨e=.ret)∧Ye P env r rs
section
variable {P:Program} {X:Snap} {env:Env} {H:Ac} {a:Act} {w:World} {I:Nat→Prop} {μ:List Nat} {O:Nat→Option Loc}
theorem Sim.cell1 (hs:Sim P X env H a w I μ O) {t ty:Nat} {d:DV} (h:Go.FL.cell1 P env t ty d) : ∃ p v,a.tmps.getD t undef=.pointer (some p)∧(loadVar ty p).run P w=.ok v w∧Rep w I d v:=by
 obtain ⟨h1,h2⟩:=h
 rcases h1 with h1|h1
 ·have:=hs.envr t
  rw [h1] at this
  obtain ⟨bs,g1,_⟩:=this.plain rfl
  generalize a.tmps.getD t undef=u at g1
  cases g1 with
  | d g1 =>
   cases g1 with
   | ptr _ b off vs k1 k2 k3 =>
    cases k3 with
    | @cons _ v _ _ hd t =>
     cases t
     exact ⟨_,v,rfl,Bv h2 (by have:=k2 0 v rfl;simpa using this),hd⟩
 ·obtain ⟨blk,cells,e,g1,g2,g3,_⟩:=hs.nb_inv h1
  generalize hc:cells.toList=l at g3
  cases g3 with
  | @cons _ v _ _ hd t =>
   cases t
   refine ⟨_,v,g1,Bv h2 ?_,hd⟩
   have:cells[0]?=some v:=by rw [← Array.getElem?_toList,hc];rfl
   simp [World.cell?,g2,this]
theorem Sim.resultsB (hs:Sim P X env H a w I μ O) {fn:Func} {rs:List ResultVar} (hrs:fn.results=rs.toArray) {r:AV} (h:Ye P env r rs) :
  ∃ v bs,(Go.results fn a.tmps).run P w=.ok v w∧ARep P w I μ r v bs∧bs.Nodup∧∀ b∈bs,∃ l,O b=some l:=by
 unfold Ye at h
 split at h
 ·obtain ⟨cs,d,kx,ky,rfl⟩:=h
  obtain ⟨px,wx,ex,fx,rx⟩:=hs.cellD kx
  obtain ⟨py,wy,ey,fy,ry⟩:=hs.cell1 ky
  exact ⟨_,[],OT (by rw [hrs]) (by simp [HR,ex,asAddr,fx]) (by simp [HR,ey,asAddr,fy]),.tup (ARepAll.cons (b1:=[]) (b2:=[]) (.d rx) (ARepAll.cons (b1:=[]) (b2:=[]) (.d ry) .nil)),nN,by simp⟩
 ·exact h.elim
theorem Fn.ofMB {f:FuncId} {fn:Func} {c:Code} {args:List DV} {r:AV} {rs:List ResultVar} {nt:Nat} (hf:P.funcs[f]?=some fn) (hb:fn.body=some c) (hrs:fn.results=rs.toArray) (hnt:fn.ntmps=nt) (hn:args.length≤nt) (hbp:noBp r=true)
  (h:AWM P {nt:=(0,nt),n0:=0,ne:=0} c (ZD P rs r) (Dy 0 args) []):Fn P f args r:=by
 intro w I vs hI ha
 refine callsIn_of_wp_marks hf hb trivial ?_
 have hlen:=ha.length
 let X:Snap:={w:=w,I:=I,K:=fun b=>b<w.heap.size,n0:=0,ne:=0,μ:=[],nt:=(0,nt),dfs:=[]}
 let a:Act:={tmps:=vs.toArray++Array.replicate (fn.ntmps-vs.toArray.size) undef,defers:=[]}
 have hs:Sim P X (Dy 0 args) [] a w I [] (fun _=>none):=by
  refine ⟨{prot:=fun _ _=>rfl,kO:=fun _ _=>rfl,kI:=fun _ _ h=>h,mono:=fun _ h=>h,os:=rfl,tape:=rfl,output:=rfl,size:=Nat.le_refl _,own:=(fun b l h=>by simp at h),ilt:=hI,μlen:=rfl,μpre:=(fun i b hi _=>by simp [X] at hi),nle:=(by simp [X]),heap:=(fun id o h=>by simp at h),klt:=fun b hb=>hb,n0le:=(by simp [X])},fun t=>?_,?_,rfl,fun t h=>absurd h (by simp [X])⟩
  ·rcases EM (tmps:=a.tmps) (k:=0) ha (fun j v hj=>by
    have hjl:j<vs.length:=(lS.1 hj).1
    have e2:(vs.toArray++Array.replicate (fn.ntmps-vs.length) undef)[j]?=some v:=by
     rw [Array.getElem?_append_left (by simpa using hjl)];simpa using hj
    simp [a,e2]) t with h0|⟨d,h0,h1⟩
   ·rw [h0];exact .un
   ·rw [h0];exact .of (bs:=[]) (.d h1) nN (by simp)
  ·simp [a,X,hnt];omega
 have hw:=h X a w I [] (fun _=>none) rfl rfl rfl hs
 refine wpIn_mono hw fun e a' w' hp=>?_
 obtain ⟨env',H',I',μ',O',ms,s,⟨he,q⟩,hm⟩:=hp
 have hdf:a'.defers=ms:=by rw [s.dfs.1];simp [X]
 have fin:LeavesInM (om none) 0 P fn a'.tmps (fun e w'=>∃ v I' bs,e=.returned v∧Below w.heap.size w w'∧(∀ b,I b→I' b) ∧
   (∀ b,I' b→b<w'.heap.size∧(b<w.heap.size→I b))∧ARep P w' I' [] r v bs∧bs.Nodup∧∀ b∈bs,w.heap.size≤b∧b<w'.heap.size∧¬I' b) a'.defers .returning w':=by
  rw [hdf]
  refine Ip (fun w4 s4=>?_) ms w' s hm
  obtain ⟨v,bs,h1,h2,h3,h4⟩:=s4.resultsB hrs q
  refine ⟨v,h1,v,I',bs,rfl,⟨s4.os,s4.tape,s4.output,s4.size,fun b hb=>s4.prot b hb⟩,s4.mono,fun b hi=>⟨s4.ilt b hi,fun hb=>s4.kI b hb hi⟩,h2.noBp hbp,h3,fun b hm=>?_⟩
  obtain ⟨l,hl⟩:=h4 b hm
  refine ⟨?_,(s4.own b l hl).1,(s4.own b l hl).2⟩
  rcases Nat.lt_or_ge b w.heap.size with hlt|hge
  ·have:=s4.kO b hlt;rw [this] at hl;cases hl
  ·exact hge
 rcases he with rfl|rfl<;>exact fin
end
end Go.FL
