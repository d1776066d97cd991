/-
  The law: its function printed as a pure function, its contract, the plain law, the statement
-/
import Derived.Test.YtipdmmpgepoggaaGreatSeE
import Derived.Test.YtipdmmpgepoggaaGreatRows
set_option linter.unusedVariables false
namespace Go.FL
open Go Go.Proofs
def AP (a0:(List Bool)) (a1:(List Itm)) (K0:(List Int)→Int→Option (Bool)) : Nat→(List Int)→Int→Int→Option (Bool)
 | 0,_,_,_=>none
 | k+1,s3,s4,s5=>(if ((decide (s5<((List.length a0:Nat):Int)))&&(decide (s5<50)))=true then (jn (fun (z6:(List Int)) (z7:Int)=>(AP a0 a1 K0 k z6 z7 (w64 (s5+1)))) fun K2=>((rd? a0 s5).bind fun x8=>(if (x8&&(decide (s4<((List.length a1:Nat):Int))))=true then ((ap? 17592186044416 s3 [1]).bind fun x9=>(K2 x9 (w64 (s4+1)))) else ((ap? 17592186044416 s3 [0]).bind fun x10=>(K2 x10 s4))))) else (K0 s3 s4))
def Da (a0:(List Bool)) (a1:(List Itm)) : Option (Bool):=(jn (fun (z1:(List Int)) (z2:Int)=>(if z2=0 then (DZ.bind fun x11=>(some (x11))) else ((sl? a1 0 z2).bind fun x12=>((AE ([z2]) x12).bind fun x13=>(if x13.2=0 then (Ey.bind fun x14=>((Ho z1).bind fun x15=>((Cd x14 92 x15 x13.1).bind fun x16=>(if x16.2=8 then (DZ.bind fun x17=>(some (x17))) else (Ey.bind fun x18=>((Ho z1).bind fun x19=>((Cd x18 47 x19 x16.1).bind fun x20=>(DZ.bind fun x21=>(Option.bind ((if x21=true then (if x16.2=0 then (if x20.2=0 then ((HR x13.1 x20.1).bind fun x23=>(if x23=true then ((A8 x16.1).bind fun x24=>(some x24)) else (some false))) else (some false)) else (some false)) else (some false)) : Option (Bool)) fun (z21:Bool)=>(some (z21))))))))))) else (DZ.bind fun x25=>(some (x25)))))))) fun K0=>(AP a0 a1 K0 AK [] 0 0))
set_option maxHeartbeats 4000000 in
theorem G7 {a0:(List Bool)} {a1:(List Itm)} {r:Bool} (h:Da a0 a1=some r) :
  Fn Tryz.prog 3 [.sl (Bls a0),.sl (Its a1)] (.d (.b r)):=by
 unfold Da at h
 refine Fn.o1 4 94 Tryz.func3 ?_;refine .sr ?_;refine ar [0,1,4] ?_;refine .sr ?_;refine asn ?_;refine rk [0,1,4,5] ?_;refine .sr ?_;refine ar [0,1,4,5,6] ?_;refine .seq ?_;refine .sr ?_;refine ar [0,1,4,5,6,7] ?_
 obtain ⟨K0,hK0,h⟩:=AQ h
 refine AW.mr (σ:=(List Int)×Int) (fun p=>K0 p.1 p.2=some r) (fun p=>[(1,.d (.sl (Its a1))),(4,.d (.b false)),(5,.own 3 (Is p.1)),(6,.d (.i .i64 p.2))]) (fun p=>[]) ?_ ?_
 ·skip
  refine .block ?_;refine .gh (Gh.nlOwn (t:=5) 3 (by rw [B4];decide) rfl) ?_
  refine .loop (.gk [0,1,4,5,6,7] ?_)
  refine AL.ind (σ:=Nat×(List Int)×Int×Int) (m:=fun p=>p.1) (e:=fun p=>[(0,.d (.sl (Bls a0))),(1,.d (.sl (Its a1))),(4,.d (.b false)),(5,.own 3 (Is p.2.1)),(6,.d (.i .i64 p.2.2.1)),(7,.d (.i .i64 p.2.2.2))]) (h:=fun p=>[]) (I:=fun p=>AP a0 a1 K0 p.1 p.2.1 p.2.2.1 p.2.2.2=some r) ?_ (AK,[],0,0) h
  rintro ⟨k,s3,s4,s5⟩ h ih
  dsimp only at h ih ⊢
  rcases k with _|k
  ·rw [AP] at h;cases h
  rw [AP] at h
  refine .seq ?_;refine .seq ?_;refine AW.mr (σ:=Unit) (fun _=>True) (fun _=>[(0,.d (.sl (Bls a0))),(1,.d (.sl (Its a1))),(4,.d (.b false)),(5,.own 3 (Is s3)),(6,.d (.i .i64 s4)),(7,.d (.i .i64 s5)),(21,.d (.b ((decide (s5<((List.length a0:Nat):Int)))&&(decide (s5<50)))))]) (fun _=>[]) ?_ ?_
  ·skip
   refine .region ?_;refine vk (Aa) ?_;refine vk (Aa) ?_;refine vk (AR (OW _) (UA _) UG) ?_;refine vk (vbi) ?_
   by_cases hc:s5<((List.length a0:Nat):Int)
   ·have hb0:(decide (s5<((List.length a0:Nat):Int)))=true:=(dT hc)
    refine vk (VOK.lit (Aa) hb0) ?_;refine vk (Aa) ?_;refine vk (vbi) ?_;refine vk (An) ?_;refine RL.gk [0,1,4,5,6,7,21] ?_;refine .nil ?_
    exact jr () trivial (by simp only [hb0];rfl)
   have hb0:(decide (s5<((List.length a0:Nat):Int)))=false:=(dF hc)
   refine vk (VOK.lit (Aa) hb0) ?_;refine gf ?_;refine gf ?_;refine vk (An) ?_;refine RL.gk [0,1,4,5,6,7,21] ?_;refine .nil ?_
   exact jr () trivial (by simp only [hb0];rfl)
  rintro _ _
  rcases brc h with ⟨hc,h⟩|⟨hc,h⟩
  ·refine cnt hc ?_
   refine .skip ?_
   show AW _ _ _ _ _ _
   obtain ⟨K2,hK2,h⟩:=AQ h
   refine AW.mj (σ:=(List Int)×Int) (fun p=>K2 p.1 p.2=some r) (fun p=>[(0,.d (.sl (Bls a0))),(1,.d (.sl (Its a1))),(4,.d (.b false)),(5,.own 3 (Is p.1)),(6,.d (.i .i64 p.2)),(7,.d (.i .i64 s5))]) (fun p=>[]) ?_ ?_
   ·skip
    refine .block ?_;refine .seq ?_
    obtain ⟨x8,g8,h⟩:=bnd h
    refine AW.mr (σ:=Unit) (fun _=>True) (fun _=>[(0,.d (.sl (Bls a0))),(1,.d (.sl (Its a1))),(4,.d (.b false)),(5,.own 3 (Is s3)),(6,.d (.i .i64 s4)),(7,.d (.i .i64 s5)),(33,.d (.b (x8&&(decide (s4<((List.length a1:Nat):Int))))))]) (fun _=>[]) ?_ ?_
    ·skip
     refine .region ?_;refine vk (Aa) ?_;refine vk (Aa) ?_
     obtain ⟨n8,p08,q8⟩:=Ag g8
     refine vk (vix n8 p08 (Vc q8) rfl UB) ?_;refine vk (Ah EQ) ?_
     by_cases hc:x8=true
     ·have hb0:x8=true:=hc
      refine vk (VOK.lit (Aa) hb0) ?_;refine vk (Aa) ?_;refine vk (Aa) ?_;refine vk (AR (Ay _) (CD _) CC) ?_;refine vk (vbi) ?_;refine vk (An) ?_;refine RL.gk [0,1,4,5,6,7,33] ?_;refine .nil ?_
      exact jr () trivial (by simp only [hb0];rfl)
     have hb0:x8=false:=(bf hc)
     refine vk (VOK.lit (Aa) hb0) ?_;refine gf ?_;refine gf ?_;refine gf ?_;refine gf ?_;refine vk (An) ?_;refine RL.gk [0,1,4,5,6,7,33] ?_;refine .nil ?_
     exact jr () trivial (by simp only [hb0];rfl)
    rintro _ _
    rcases brc h with ⟨hc,h⟩|⟨hc,h⟩
    ·refine cnt hc ?_
     refine .sr ?_;refine mvo ?_;refine vk ((G5 (Cy [1]) BL).deep) ?_
     obtain ⟨x9,g9,h⟩:=bnd h
     refine M4 HG g9 IV ?_ FU Ad BL
     refine aso ?_;refine rk [0,1,4,5,6,7] ?_;refine .region ?_;refine vk (Aa) ?_;refine vk (vbi) ?_;refine asd ?_;refine RL.gk [0,1,4,5,6,7] ?_;refine .nil ?_
     exact jr (x9,(w64 (s4+1))) h
    refine cnf (bf hc) ?_;refine .region ?_;refine mvo ?_;refine vk ((G5 (Cy [0]) BL).deep) ?_
    obtain ⟨x10,g10,h⟩:=bnd h
    refine M4 HG g10 IV ?_ FU Ad BL
    refine aso ?_;refine RL.gk [0,1,4,5,6,7] ?_;refine .nil ?_
    exact jr (x10,s4) h
   rintro ⟨z6,z7⟩ h
   try dsimp only at h ⊢
   subst hK2
   refine .region ?_;refine vk (Aa) ?_;refine vk (vbi) ?_;refine asd ?_;refine .nil ?_;refine AL.gk [0,1,4,5,6,7] ?_
   exact ih (k,z6,z7,(w64 (s5+1))) h (Nat.lt_succ_self _)
  refine cnf (bf hc) ?_;refine .gk [1,4,5,6] ?_;refine .exit ?_
  exact jr (s3,s4) h
 rintro ⟨z1,z2⟩ h
 try dsimp only at h ⊢
 subst hK0
 show AW _ _ _ _ _ _
 refine .seq ?_;refine .sr ?_;refine vk (Aa) ?_;refine vk (vbi) ?_;refine rk [1,4,5,6,43] ?_
 rcases brc h with ⟨hc,h⟩|⟨hc,h⟩
 ·refine cnt (dT hc) ?_
  refine .sr ?_
  obtain ⟨x11,g11,h⟩:=bnd h
  refine vk (Am (EP g11) Tryz.call9) ?_;refine ar [1,4,5,6] ?_;refine .ret ?_
  cases h
  exact ⟨rfl,rfl⟩
 refine cnf (dF hc) ?_;refine .skip ?_
 show AW _ _ _ _ _ _
 refine .sr ?_;refine vk (Aa) ?_;refine vk ((G5 (Cy [z2]) BL).deep) ?_;refine vk (Aa) ?_;refine vk (Aa) ?_
 obtain ⟨x12,g12,h⟩:=bnd h
 refine vk (VQ U9 UD Ay g12 Eu C3) ?_
 obtain ⟨x13,g13,h⟩:=bnd h
 refine vk (VOK.tupd (vs:=[.ag [.sl (Is x13.1.shape),.sl (Its x13.1.items)],.i .i64 x13.2]) (Am (CK g13) Tryz.call10)) ?_;refine vk (Aa) ?_;refine vk (vex) ?_;refine vk (vex) ?_;refine vk (van (Aj As) Aw) ?_
 refine stn ?_ Ab (by decide)
 refine ar [4,5,8,9] ?_;refine .seq ?_;refine .sr ?_;refine vk (Aa) ?_;refine vk (vbi) ?_;refine rk [4,5,8,55] ?_
 rcases brc h with ⟨hc,h⟩|⟨hc,h⟩
 ·refine cnf (ntf (dT hc)) ?_
  refine .skip ?_
  show AW _ _ _ _ _ _
  refine .seq ?_;refine .gh (Gh.frz (p:=.t 5) rfl (by (intro _ _ h;cases h<;>decide))) ?_
  obtain ⟨x14,g14,h⟩:=bnd h
  obtain ⟨x15,g15,h⟩:=bnd h
  obtain ⟨x16,g16,h⟩:=bnd h
  refine .drawnF 9 [7] [(10,.nb [.sl (Is x16.1.shape),.sl (Its x16.1.items)])] [] Bb (by kernel_rfl) rfl ?_;refine dv (Am (Fa g14) Tryz.call12) ?_;refine dv (Aa) ?_;refine dv (Am (HN g15) Tryz.call13) ?_;refine dv (Fs Ac Ab) ?_;refine dv (VOK.tupd (vs:=[.ag [.sl (Is x16.1.shape),.sl (Its x16.1.items)],.i .i64 x16.2]) (Am (E3 g16) Tryz.call11)) ?_;refine dv (Aa) ?_;refine dv (vex) ?_;refine dv (vex) ?_;refine dv (van (Aj As) Aw) ?_;refine dz ?_
  refine ⟨?_,?_,?_⟩
  ·intro k hk
   simp only [List.mem_cons,List.not_mem_nil,or_false] at hk
   subst hk
   exact ⟨_,_,_,rfl,rfl,rfl,rfl,rfl,rfl,vex⟩
  ·intro om e hom hge
   cases hom
   exact MQ (cs:=[.sl (Is []),.sl (Its [])]) (cs':=[.sl (Is x16.1.shape),.sl (Its x16.1.items)]) Ab (by decide) rfl ((hge 10 (fun k hk v hv=>by
     simp only [List.mem_cons,List.not_mem_nil,or_false] at hk
     subst hk;exact (by decide:¬(some 64=some 10)) (congrArg (Option.map Prod.fst) hv))).trans rfl) ((congrArg A7 (hge 63 (fun k hk v hv=>by
     simp only [List.mem_cons,List.not_mem_nil,or_false] at hk
     subst hk;exact (by decide:¬(some 64=some 63)) (congrArg (Option.map Prod.fst) hv)))).trans rfl) rfl rfl rfl rfl ⟨rfl,rfl⟩
  refine ar [4,5,8,10,11] ?_;refine .seq ?_;refine .sr ?_;refine vk (Aa) ?_;refine vk (vbi) ?_;refine rk [4,5,8,10,11,66] ?_
  rcases brc h with ⟨hc,h⟩|⟨hc,h⟩
  ·refine cnt (dT hc) ?_
   refine .sr ?_
   obtain ⟨x17,g17,h⟩:=bnd h
   refine vk (Am (EP g17) Tryz.call9) ?_;refine ar [4,5,8,10,11] ?_;refine .ret ?_
   cases h
   exact ⟨rfl,rfl⟩
  refine cnf (dF hc) ?_;refine .skip ?_
  show AW _ _ _ _ _ _
  refine .seq ?_
  obtain ⟨x18,g18,h⟩:=bnd h
  obtain ⟨x19,g19,h⟩:=bnd h
  obtain ⟨x20,g20,h⟩:=bnd h
  refine .drawnF 9 [7] [(12,.nb [.sl (Is x20.1.shape),.sl (Its x20.1.items)])] [] Bb (by kernel_rfl) rfl ?_;refine dv (Am (Fa g18) Tryz.call12) ?_;refine dv (Aa) ?_;refine dv (Am (HN g19) Tryz.call13) ?_;refine dv (Fs Ac Ab) ?_;refine dv (VOK.tupd (vs:=[.ag [.sl (Is x20.1.shape),.sl (Its x20.1.items)],.i .i64 x20.2]) (Am (E3 g20) Tryz.call11)) ?_;refine dv (Aa) ?_;refine dv (vex) ?_;refine dv (vex) ?_;refine dv (van (Aj As) Aw) ?_;refine dz ?_
  refine ⟨?_,?_,?_⟩
  ·intro k hk
   simp only [List.mem_cons,List.not_mem_nil,or_false] at hk
   subst hk
   exact ⟨_,_,_,rfl,rfl,rfl,rfl,rfl,rfl,vex⟩
  ·intro om e hom hge
   cases hom
   exact MQ (cs:=[.sl (Is []),.sl (Its [])]) (cs':=[.sl (Is x20.1.shape),.sl (Its x20.1.items)]) Ab (by decide) rfl ((hge 12 (fun k hk v hv=>by
     simp only [List.mem_cons,List.not_mem_nil,or_false] at hk
     subst hk;exact (by decide:¬(some 75=some 12)) (congrArg (Option.map Prod.fst) hv))).trans rfl) ((congrArg A7 (hge 74 (fun k hk v hv=>by
     simp only [List.mem_cons,List.not_mem_nil,or_false] at hk
     subst hk;exact (by decide:¬(some 75=some 74)) (congrArg (Option.map Prod.fst) hv)))).trans rfl) rfl rfl rfl rfl ⟨rfl,rfl⟩
  refine ar [4,8,10,11,12,13] ?_;refine .seq ?_
  obtain ⟨x21,g21,h⟩:=bnd h
  obtain ⟨z21,hz,h⟩:=bnd h
  refine AW.mr (σ:=Unit) (fun _=>True) (fun _=>[(4,.d (.b z21))]) (fun _=>[]) ?_ ?_
  ·skip
   refine .region ?_;refine vk (Am (EP g21) Tryz.call9) ?_
   rcases brc hz with ⟨hc,hz⟩|⟨hc,hz⟩
   ·have hb0:x21=true:=hc
    refine vk (VOK.lit (Aa) hb0) ?_;refine vk (Aa) ?_;refine vk (vbi) ?_;refine vk (An) ?_
    rcases brc hz with ⟨hc,hz⟩|⟨hc,hz⟩
    ·have hb1:(decide (x16.2=0))=true:=(dT hc)
     refine vk (VOK.lit (Aa) hb1) ?_;refine vk (Aa) ?_;refine vk (vbi) ?_;refine vk (An) ?_
     rcases brc hz with ⟨hc,hz⟩|⟨hc,hz⟩
     ·have hb2:(decide (x20.2=0))=true:=(dT hc)
      refine vk (VOK.lit (Aa) hb2) ?_;refine vk (Fs Ac Ab) ?_;refine vk (Fs Ac Ab) ?_
      obtain ⟨x23,g23,hz⟩:=bnd hz
      refine vk (Am (Jc g23) Tryz.call14) ?_;refine vk (An) ?_
      rcases brc hz with ⟨hc,hz⟩|⟨hc,hz⟩
      ·have hb3:x23=true:=hc
       refine vk (VOK.lit (Aa) hb3) ?_;refine vk (Fs Ac Ab) ?_
       obtain ⟨x24,g24,hz⟩:=bnd hz
       refine vk (Am (Bs g24) Tryz.call15) ?_;refine vk (An) ?_;refine asd ?_;refine RL.gk [4] ?_;refine .nil ?_
       cases hz
       exact jr () trivial
      have hb3:x23=false:=(bf hc)
      refine vk (VOK.lit (Aa) hb3) ?_;refine gf ?_;refine gf ?_;refine vk (An) ?_;refine asd ?_;refine RL.gk [4] ?_;refine .nil ?_
      cases hz
      exact jr () trivial
     have hb2:(decide (x20.2=0))=false:=(dF hc)
     refine vk (VOK.lit (Aa) hb2) ?_;refine gf ?_;refine gf ?_;refine gf ?_;refine vk (An) ?_;refine vk (Aa) ?_;refine gf ?_;refine gf ?_;refine vk (An) ?_;refine asd ?_;refine RL.gk [4] ?_;refine .nil ?_
     cases hz
     exact jr () trivial
    have hb1:(decide (x16.2=0))=false:=(dF hc)
    refine vk (VOK.lit (Aa) hb1) ?_;refine gf ?_;refine gf ?_;refine vk (An) ?_;refine vk (Aa) ?_;refine gf ?_;refine gf ?_;refine gf ?_;refine vk (An) ?_;refine vk (Aa) ?_;refine gf ?_;refine gf ?_;refine vk (An) ?_;refine asd ?_;refine RL.gk [4] ?_;refine .nil ?_
    cases hz
    exact jr () trivial
   have hb0:x21=false:=(bf hc)
   refine vk (VOK.lit (Aa) hb0) ?_;refine gf ?_;refine gf ?_;refine vk (An) ?_;refine vk (Aa) ?_;refine gf ?_;refine gf ?_;refine vk (An) ?_;refine vk (Aa) ?_;refine gf ?_;refine gf ?_;refine gf ?_;refine vk (An) ?_;refine vk (Aa) ?_;refine gf ?_;refine gf ?_;refine vk (An) ?_;refine asd ?_;refine RL.gk [4] ?_;refine .nil ?_
   cases hz
   exact jr () trivial
  rintro _ _
  refine .ret ?_
  cases h
  exact ⟨rfl,rfl⟩
 refine cnt (ntt (dF hc)) ?_;refine .sr ?_
 obtain ⟨x25,g25,h⟩:=bnd h
 refine vk (Am (EP g25) Tryz.call9) ?_;refine ar [4,5,8] ?_;refine .ret ?_
 cases h
 exact ⟨rfl,rfl⟩
theorem Lx {bits:List Bool} {l:List Itm} (hl:l.length≤1466015503701) (hb:bits.length≤1466015503701000) (K:List Int→Int→Option Bool) : ∀ (bs pre:List Bool) (acc:List Int) (n k:Nat),bits=pre++bs→pre.length≤50→acc.length=pre.length→n≤pre.length→(bs.take (50-pre.length)).length<k →
  AP bits l K k acc (n:Int) (pre.length:Int)=K (acc++C4 (rb l.length (bs.take (50-pre.length)) n)) ((n+DC (rb l.length (bs.take (50-pre.length)) n):Nat):Int)
 | _,_,_,_,0,_,_,_,_,h=>by omega
 | [],pre,acc,n,k+1,h0,_,_,_,_=>by
  have hlen:bits.length=pre.length:=by rw [h0];simp
  rw [AP,if_neg (by rw [hlen];simp),List.take_nil,rb]
  simp [C4,DC]
 | b::bs,pre,acc,n,k+1,h0,h50,ha,hn,hk=>by
  have hlen:bits.length=pre.length+(bs.length+1):=by rw [h0];simp
  rw [AP]
  by_cases hlt:pre.length<50
  ·have hc:((decide ((pre.length:Int)<((List.length bits:Nat):Int)))&&(decide ((pre.length:Int)<50)))=true:=by
    rw [dT (by omega),dT (by omega)];rfl
   have hrd:rd? bits (pre.length:Int)=some b:=by rw [h0];exact LC rfl
   have hw:w64 ((pre.length:Int)+1)=(((pre++[b]).length:Nat):Int):=by rw [BP (by omega) (by omega)];simp
   have ht:(b::bs).take (50-pre.length)=b::bs.take (50-(pre++[b]).length):=by
    rw [show 50-pre.length=(50-(pre++[b]).length)+1 by simp;omega];rfl
   have hdec:decide ((n:Int)<((List.length l:Nat):Int))=decide (n<l.length):=by
    by_cases q:n<l.length
    ·rw [dT q,dT (by omega)]
    ·rw [dF q,dF (by omega)]
   rw [ht] at hk ⊢
   rw [if_pos hc,CW,hrd,oB,hdec,rb,DC]
   by_cases q:(b&&decide (n<l.length))=true
   ·have hw2:w64 ((n:Int)+1)=((n+1:Nat):Int):=by rw [BP (by omega) (by omega)];omega
    rw [if_pos q,Gk (by simp;omega),oB,if_pos q,if_pos q,q]
    show AP bits l K k (acc++[1]) (w64 ((n:Int)+1)) (w64 ((pre.length:Int)+1))=_
    rw [hw,hw2]
    have:=Lx hl hb K bs (pre++[b]) (acc++[1]) (n+1) k (by rw [h0];simp) (by simp;omega) (by simp [ha]) (by simp;omega) (by rw [List.length_cons] at hk;omega)
    refine Eq.trans this ?_
    congr 1
    ·rw [List.append_assoc];rfl
    ·omega
   ·have qf:(b&&decide (n<l.length))=false:=by revert q;cases (b&&decide (n<l.length))<;>simp
    rw [if_neg q,Gk (by simp;omega),oB,if_neg q,if_neg q,qf]
    show AP bits l K k (acc++[0]) (n:Int) (w64 ((pre.length:Int)+1))=_
    rw [hw]
    have:=Lx hl hb K bs (pre++[b]) (acc++[0]) n k (by rw [h0];simp) (by simp;omega) (by simp [ha]) (by simp;omega) (by rw [List.length_cons] at hk;omega)
    refine Eq.trans this ?_
    congr 1
    ·rw [List.append_assoc];rfl
    ·omega
  ·have h5:pre.length=50:=by omega
   have hc:¬((decide ((pre.length:Int)<((List.length bits:Nat):Int)))&&(decide ((pre.length:Int)<50)))=true:=by
    rw [h5,dF (show ¬((50:Nat):Int)<50 by decide),Bool.and_false];decide
   rw [if_neg hc,h5]
   simp [C4,DC,rb]
theorem Ty : C1 92=some true:=by kernel_rfl
theorem S8 : C1 47=some true:=by kernel_rfl
theorem QL : GY (⟨#[44,226,141,170]⟩ : ByteArray) 92=some false:=by kernel_rfl
theorem Q9 : GY (⟨#[44,226,141,170]⟩ : ByteArray) 47=some false:=by kernel_rfl
theorem P6 : GY (⟨#[226,141,170,226,138,150,226,140,191,226,141,128]⟩ : ByteArray) 92=some false:=by kernel_rfl
theorem Q8 : GY (⟨#[226,141,170,226,138,150,226,140,191,226,141,128]⟩ : ByteArray) 47=some false:=by kernel_rfl
theorem Us {e:Int×RT×Int} (he:e.1=0∨e.1=1) {a:Arr} {xs:List Itm} (oa:okAr a) (ra:Bc a) (h:VR xs) : Cd e 92 a (vec xs)=Bq a (vec xs) 0:=by
 have ht:Gb JY 92=some ⟨.fn 84 [] [],fun x=>Bq x.1 x.2.1 x.2.2⟩:=rfl
 have hend:D9 (vec xs) false=some 0:=RD (b:=vec xs) (by show [(xs.length:Int)].length≤_;simp)
 unfold Cd DG
 rw [Ty,oB,if_pos rfl,RN he oa h.ok ra h.2.2.2,oB,if_pos rfl,if_neg (by decide),if_neg (by decide),if_neg (by decide),if_neg (by decide),ht,oB,QL,oB,Bool.false_and,if_neg (by decide),oB,P6,oB,hend,oB]
 show (Bq a (vec xs) 0).bind _=_
 cases Bq a (vec xs) 0<;>rfl
theorem UP {e:Int×RT×Int} (he:e.1=0∨e.1=1) {a:Arr} {xs:List Itm} (oa:okAr a) (ra:Bc a) (h:VR xs) : Cd e 47 a (vec xs)=Be a (vec xs) 0:=by
 have ht:Gb JY 47=some ⟨.fn 83 [] [],fun x=>Be x.1 x.2.1 x.2.2⟩:=rfl
 have hend:D9 (vec xs) false=some 0:=RD (b:=vec xs) (by show [(xs.length:Int)].length≤_;simp)
 unfold Cd DG
 rw [S8,oB,if_pos rfl,RN he oa h.ok ra h.2.2.2,oB,if_pos rfl,if_neg (by decide),if_neg (by decide),if_neg (by decide),if_neg (by decide),ht,oB,Q9,oB,Bool.false_and,if_neg (by decide),oB,Q8,oB,hend,oB]
 show (Be a (vec xs) 0).bind _=_
 cases Be a (vec xs) 0<;>rfl
theorem KB {p:Itm} : ∀ (B:List Bool) (xs:List Itm),∀ x∈exI p B xs,x∈xs∨x=p
 | [],_,x,h=>by cases h
 | b::bs,xs,x,h=>by
  rw [exI] at h
  cases b
  ·rcases List.mem_cons.1 h with rfl|h
   ·exact .inr rfl
   ·exact KB bs xs x h
  ·cases xs with
   | nil =>
    rcases List.mem_cons.1 h with h|h
    ·exact .inr h
    ·exact KB bs [] x h
   | cons y ys =>
    rcases List.mem_cons.1 h with h|h
    ·exact .inl (by rw [h];exact List.mem_cons_self ..)
    ·exact (KB bs ys x h).imp (fun q=>List.mem_cons_of_mem _ q) id
theorem Kt {bits:List Bool} {l:List Itm} (hb:bits.length≤140737488355328) (hl:l.length≤1466015503701∧∀ x∈l,okI x) : Da bits l=some true:=by
 unfold Da
 rw [CW]
 have hloop:=fun K=>Lx (bits:=bits) hl.1 (by omega) K bits [] [] 0 AK rfl (by simp) rfl (Nat.le_refl _) (Ch (by rw [List.length_take];omega))
 rw [show (([]:List Bool).length:Int)=0 from rfl,show ((0:Nat):Int)=0 from rfl] at hloop
 rw [hloop,List.nil_append]
 generalize hB:rb l.length (bits.take (50-([]:List Bool).length)) 0=B
 have hBl:B.length≤50:=by rw [← hB,L5,List.length_take];simp;omega
 have hcn:DC B≤l.length:=by have:=Oq l.length (bits.take (50-([]:List Bool).length)) 0 (Nat.zero_le _);rw [hB] at this;omega
 have hcl:=KG B
 rw [Nat.zero_add]
 by_cases h0:((DC B:Nat):Int)=0
 ·rw [if_pos h0,TY];rfl
 rw [if_neg h0]
 have hsl:sl? l 0 ((DC B:Nat):Int)=some (l.take (DC B)):=by
  unfold sl?
  rw [if_pos (by omega)]
  simp
 rw [hsl,oB]
 generalize hxs:l.take (DC B)=xs
 have hxl:xs.length=DC B:=by rw [← hxs,List.length_take];omega
 have hxo:∀ x∈xs,okI x:=fun x hx=>hl.2 x (List.mem_of_mem_take (by rw [hxs];exact hx))
 have hmk:∃ r e,AE [((DC B:Nat):Int)] xs=some (r,e):=⟨_,_,HM (fun z hz=>by rw [List.mem_singleton] at hz;omega) (by simp) (by omega) hxo⟩
 obtain ⟨r,e,hr⟩:=hmk
 rw [hr,oB,TY]
 by_cases he:e=0
 rotate_left
 ·rw [if_neg he];rfl
 subst he
 obtain ⟨v,rfl⟩:=PG hxo (by omega) (by rw [hxl];exact hr)
 have E0:((1,(false,[],[]),0):Int×RT×Int).1=0∨((1,(false,[],[]),0):Int×RT×Int).1=1:=.inr rfl
 have hrow:Ho (C4 B)=some (Ix (C4 B)):=QU KH (by rw [Bo];omega)
 have orow:=ME (l:=C4 B) KH
 have rrow:=Iz (l:=C4 B) KH
 have D1:=(Us E0 orow rrow v).trans (MW v hBl hxl.symm)
 generalize hE:exI (tyI (xs.headD default)) B xs=E at D1
 have hEl:E.length=B.length:=by rw [← hE,KL]
 have hEp:0<E.length:=by omega
 have hEi:∀ x∈E,okI x∧Cc x:=by
  intro x hx
  rw [← hE] at hx
  rcases KB B xs x hx with h|rfl
  ·exact v.items x h
  ·obtain ⟨y,ys,rfl⟩:=List.exists_cons_of_ne_nil v.1
   obtain ⟨oy,ry⟩:=v.items y (by simp)
   obtain ⟨t1,t2,t3,t4,t5,t6⟩:=MS oy ry.1
   exact ⟨t6,t1,t2▸ry.2.1,t3▸ry.2.2⟩
 have hmE:(AE [((B.length:Nat):Int)] E=some (vec E,0)∧VR E)∨AE [((B.length:Nat):Int)] E=some (.mk [] [],8):=by
  have hs:=HI (n:=B.length) (by omega)
  have hne:E≠[]:=List.length_pos_iff.1 hEp
  have hc:¬(E=[]∨¬∀ x∈E,Cc x):=fun q=>q.elim hne fun q=>q fun x hx=>(hEi x hx).2
  have hm:=HM (s:=[((B.length:Nat):Int)]) (xs:=E) (fun z hz=>by rw [List.mem_singleton] at hz;omega) (by simp) (by omega) (fun x hx=>(hEi x hx).1)
  rw [hs,if_neg (fun q=>q rfl),if_neg hc,Gu hEl (by omega)] at hm
  by_cases hR:Bc (.mk [((B.length:Nat):Int)] E)
  ·rw [if_pos hR] at hm
   refine .inl ?_
   have:=PG (xs:=E) (fun x hx=>(hEi x hx).1) (by omega) (by rw [hEl];exact hm)
   rw [this.2] at hm
   exact ⟨hm,this.1⟩
  ·rw [if_neg hR] at hm
   exact .inr hm
 simp only [if_true,VL,hrow,oB]
 rcases hmE with ⟨hmE,vE⟩|hmE
 rotate_left
 ·rw [D1,hmE,oB,if_pos rfl]
 rw [D1,hmE,oB,if_neg (by show ¬(0:Int)=8;decide)]
 have hpk:=JM (p:=tyI (xs.headD default)) B 0 [] xs rfl hxl.symm
 rw [List.nil_append,hE] at hpk
 have D2:=(UP E0 orow rrow vE).trans (KR vE hBl (by omega) hEl)
 rw [hpk,← hxl] at D2
 rw [D2,v.make,oB]
 simp only [if_true,(Tq v.ok).yes rfl,oB,FC vE.ok,dT vE.2.2.2]
end Go.FL
namespace Go.Proofs.YtipdmmpgepoggaaGreat.shapeExpands
open Go.ChangeShapes Go.WideShapes Go.ChangeAt Go.RowKit Go.FL
theorem own : ownKnob Tryz.prog.godebug=none:=by kernel_rfl
theorem laid : laidOutB Tryz.prog=true:=by kernel_rfl
theorem params : ∀ t∈Tryz.f3.params.toList,Tryz.prog.readableRec t=true∧t<Tryz.prog.types.size:=by
 intro t ht
 simp only [Tryz.params3,List.mem_cons,List.not_mem_nil,or_false] at ht
 rcases ht with rfl|rfl<;>exact ⟨by kernel_rfl,of_decide_eq_true (by kernel_rfl)⟩
set_option maxRecDepth 100000 in
theorem lifted (os:Os) (started:os.Started) (H:Type) (enc:TypeId×Value→H) :
  ReturnsInHanded {} Tryz.checked os 3 .any (Rows.shapeExpandsSpec.pre6 enc Tryz.prog Tryz.f3 Rows.shapeExpandsRow.domain false) (Rows.shapeExpandsSpec.post enc Tryz.prog Tryz.f3 false true false false):=by
 refine returnsInHanded_of_change_sized (C:=Tryz.checked) own started (by kernel_rfl) Tryz.func3
  (ChangeSpec.witness6 (enc:=enc) (C:=Tryz.checked) false ⟨#[],#[.slice none 0 0,.slice none 0 0],[]⟩ 8 (by kernel_rfl) (by kernel_rfl) (by kernel_rfl) (by kernel_rfl)) ?_
 intro W base args ds gs before hval0 hW hcnd hsz _
 have hval:∀ (j:Nat) t v,Tryz.f3.params[j]?=some t→args[j]?=some v→Value.okWide Tryz.prog W .any base t v:=hval0
 have hW':=hW
 obtain ⟨p,q,hA0,hV,rfl,hfz,hnd⟩:=hW
 have hA:DataW.TrodAll enc Tryz.prog W 0 (fun _=>true) true Tryz.f3.params.toList args.toList ds p:=hA0
 rw [Tryz.params3] at hA hval
 obtain ⟨v0,vs0,d0,ds0,p0,q0,hargs,rfl,rfl,h0,r0⟩:=trodAll_cons hA
 obtain ⟨v1,vs1,d1,ds1,p1,q1,rfl,rfl,rfl,h1,r1⟩:=trodAll_cons r0
 obtain ⟨rfl,rfl,rfl⟩:=trodAll_nil r1
 obtain rfl:args=#[v0,v1]:=by cases args;simp_all
 obtain ⟨rfl,rfl⟩:=trodVars_none hV
 rw [Tryz.params3] at hsz
 have w0:∀ m∈DataW.weights Tryz.prog 22 d0,m≤reachBytes:=fun m hm=>by simpa using List.all_eq_true.1 hsz m (DataW.weights_mem_each (j:=0) rfl rfl m hm)
 obtain ⟨a0,o0,e0⟩:=NU (v:=v0) Sp (by obtain ⟨x0,x1,x2,rfl⟩:=okWide_slice Tryz.underlying22 (hval 0 22 v0 rfl rfl);rfl) h0 w0
 have w1:∀ m∈DataW.weights Tryz.prog 23 d1,m≤reachBytes:=fun m hm=>by simpa using List.all_eq_true.1 hsz m (DataW.weights_mem_each (j:=1) rfl rfl m hm)
 obtain ⟨a1,o1,e1⟩:=NU (v:=v1) Rl (by obtain ⟨x0,x1,x2,rfl⟩:=okWide_slice Tryz.underlying23 (hval 1 23 v1 rfl rfl);rfl) h1 w1
 refine (QO (G7 (Kt o0 o1)) (.cons e0 (.cons e1 .nil))).mono fun e W' ⟨he,hb⟩=>?_
 subst he
 exact ⟨_,rfl,Sn hW' rfl (fun _=>rfl) rfl Tryz.underlying4 laid params hb⟩
theorem over : Rows.shapeExpandsRow.holds Tryz.pinned (OpenSpec.ofChange Rows.shapeExpandsSpec) :=
 OpenClaim.holds_of_wide 3 Tryz.f3 rfl rfl rfl rfl rfl rfl rfl ⟨rfl,rfl,rfl,rfl,rfl⟩ rfl rfl rfl rfl rfl (by kernel_rfl) Tryz.func3 (by kernel_rfl)
  (of_decide_eq_true (by kernel_rfl)) (by unfold Func.isWrapper;first|(rw [if_pos (by decide +kernel)];kernel_rfl)|(rw [if_neg (by decide +kernel)];exact ⟨rfl,rfl⟩))
  (fun os started H enc _=>lifted os started H enc)
theorem proved : Rows.ShapeExpandsSaid :=
 over
end Go.Proofs.YtipdmmpgepoggaaGreat.shapeExpands
