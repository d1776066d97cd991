/-
  The law: its function printed as a pure function, its contract, the plain law, the statement
-/
import Derived.Test.YtjmalfcinmmekaaGreatPdE
import Derived.Test.YtjmalfcinmmekaaGreatRows
set_option linter.unusedVariables false
namespace Go.FL
open Go Go.Proofs
def Bj (a0:(List Nat)) (K0:(List Int)→Int→Option (Bool)) : Nat→(List Int)→Int→Int→Option (Bool)
 | 0,_,_,_=>none
 | k+1,s3,s4,s5=>(if ((decide (s5<((List.length a0:Nat):Int)))&&(decide (s5<4)))=true then ((rd? a0 s5).bind fun x6=>((ap? 17592186044416 s3 [(w64 ((Int.tmod (IntKind.wrap .i64 ((x6:Nat):Int)) 100)+1))]).bind fun x7=>(Bj a0 K0 k x7 (w64 (s4 * (w64 ((Int.tmod (IntKind.wrap .i64 ((x6:Nat):Int)) 100)+1)))) (w64 (s5+1))))) else (K0 s3 s4))
def DG (a0:(List Nat)) (a1:Int) : Option (Bool):=(jn (fun (z1:(List Int)) (z2:Int)=>((Gf (z2≠0)).bind fun x8=>((EN (Int.tmod (IntKind.wrap .i64 a1) z2)).bind fun x9=>(EF.bind fun x10=>((FK z1).bind fun x11=>((CA x10 8868 x11 x9).bind fun x12=>(EF.bind fun x13=>((FK z1).bind fun x14=>((CA x13 8869 x14 x12.1).bind fun x15=>(Hb.bind fun x16=>(Option.bind ((if x16=true then (if x12.2=0 then (if x15.2=0 then ((Dt x15.1 x9).bind fun x18=>(some x18)) else (some false)) else (some false)) else (some false)) : Option (Bool)) fun (z16:Bool)=>(some (z16))))))))))))) fun K0=>(Bj a0 K0 AH [] 1 0))
theorem IL {a0:(List Nat)} {a1:Int} {r:Bool} (h:DG a0 a1=some r) :
  Fn Tryz.prog 3 [.sl (Bu a0),.i .u32 a1] (.d (.b r)):=by
 unfold DG at h
 refine Fn.o1 4 73 Tryz.func3 ?_;refine .sr ?_;refine ar [0,1,4] ?_;refine .sr ?_;refine asn ?_;refine rk [0,1,4,5] ?_;refine .sr ?_;refine ar [0,1,4,5,6] ?_;refine .seq ?_;refine .sr ?_;refine ar [0,1,4,5,6,7] ?_
 obtain ⟨K0,hK0,h⟩:=AQ h
 refine AW.mr (σ:=(List Int)×Int) (fun p=>K0 p.1 p.2=some r) (fun p=>[(1,.d (.i .u32 a1)),(4,.d (.b false)),(5,.own 3 (Is p.1)),(6,.d (.i .i64 p.2))]) (fun p=>[]) ?_ ?_
 ·skip
  refine .block ?_;refine .gh (Gh.nlOwn (t:=5) 3 (by rw [Ds];decide) rfl) ?_
  refine .loop (.gk [0,1,4,5,6,7] ?_)
  refine AL.ind (σ:=Nat×(List Int)×Int×Int) (m:=fun p=>p.1) (e:=fun p=>[(0,.d (.sl (Bu a0))),(1,.d (.i .u32 a1)),(4,.d (.b false)),(5,.own 3 (Is p.2.1)),(6,.d (.i .i64 p.2.2.1)),(7,.d (.i .i64 p.2.2.2))]) (h:=fun p=>[]) (I:=fun p=>Bj a0 K0 p.1 p.2.1 p.2.2.1 p.2.2.2=some r) ?_ (AH,[],1,0) h
  rintro ⟨k,s3,s4,s5⟩ h ih
  dsimp only at h ih ⊢
  rcases k with _|k
  ·rw [Bj] at h;cases h
  rw [Bj] at h
  refine .seq ?_;refine .seq ?_;refine AW.mr (σ:=Unit) (fun _=>True) (fun _=>[(0,.d (.sl (Bu a0))),(1,.d (.i .u32 a1)),(4,.d (.b false)),(5,.own 3 (Is s3)),(6,.d (.i .i64 s4)),(7,.d (.i .i64 s5)),(21,.d (.b ((decide (s5<((List.length a0:Nat):Int)))&&(decide (s5<4)))))]) (fun _=>[]) ?_ ?_
  ·skip
   refine .region ?_;refine va ?_;refine va ?_;refine vk (Bg (RS _) (XW _) XF) ?_;refine vb ?_
   by_cases hc:s5<((List.length a0:Nat):Int)
   ·have hb0:(decide (s5<((List.length a0:Nat):Int)))=true:=(dT hc)
    refine vL hb0 ?_;refine va ?_;refine vb ?_;refine vk AC ?_;refine RL.gk [0,1,4,5,6,7,21] ?_;refine .nil ?_
    exact jr () trivial (by simp only [hb0];rfl)
   have hb0:(decide (s5<((List.length a0:Nat):Int)))=false:=(dF hc)
   refine vL hb0 ?_;refine gf2 ?_;refine vk AC ?_;refine RL.gk [0,1,4,5,6,7,21] ?_;refine .nil ?_
   exact jr () trivial (by simp only [hb0];rfl)
  rintro _ _
  rcases brc h with ⟨hc,h⟩|⟨hc,h⟩
  ·refine cnt hc ?_
   refine .sk ?_;refine .seq ?_;refine .block ?_;refine .sr ?_;refine va ?_;refine va ?_
   obtain ⟨x6,g6,h⟩:=bnd h
   obtain ⟨n6,p06,q6⟩:=Ao g6
   refine vk (vix n6 p06 (XT q6) rfl XK) ?_;refine vk (AA TR) ?_;refine vk (vcv T8 GE) ?_;refine vk (Lu (c:=(100:Int)≠0) (by decide)) ?_;refine vb ?_;refine ar [0,1,4,5,6,7,8] ?_;refine .sr ?_;refine mvo ?_;refine va ?_;refine vk ((F3 (Fx [(w64 ((Int.tmod (IntKind.wrap .i64 ((x6:Nat):Int)) 100)+1))]) FN).deep) ?_
   obtain ⟨x7,g7,h⟩:=bnd h
   refine Vp Ow g7 Ry ?_ Ls Al FN
   refine aso ?_;refine rk [0,1,4,5,6,7,8] ?_;refine .region ?_;refine va ?_;refine va ?_;refine vb ?_;refine asd ?_;refine .nil ?_;refine aw ?_;refine .gk [0,1,4,5,6,7] ?_;refine .region ?_;refine va ?_;refine vb ?_;refine asd ?_;refine .nil ?_;refine AL.gk [0,1,4,5,6,7] ?_
   exact ih (k,x7,(w64 (s4 * (w64 ((Int.tmod (IntKind.wrap .i64 ((x6:Nat):Int)) 100)+1)))),(w64 (s5+1))) h (Nat.lt_succ_self _)
  refine cnf (bf hc) ?_;refine .gk [1,4,5,6] ?_;refine .exit ?_
  exact jr (s3,s4) h
 rintro ⟨z1,z2⟩ h
 try dsimp only at h ⊢
 subst hK0
 refine aw ?_;refine .sr ?_;refine va ?_;refine vk (vcv SH GE) ?_;refine va ?_
 obtain ⟨x8,g8,h⟩:=bnd h
 refine vk (Lu (Hf g8)) ?_
 obtain ⟨x9,g9,h⟩:=bnd h
 refine vk (An (Hr g9) Tryz.call12) ?_;refine vk (van (Ah AS) AY) ?_
 refine stn ?_ Ac (by decide)
 refine rk [4,5,9] ?_;refine .seq ?_;refine .gh (Gh.frz (p:=.t 5) rfl (by (intro _ _ h;cases h<;>decide))) ?_
 obtain ⟨x10,g10,h⟩:=bnd h
 obtain ⟨x11,g11,h⟩:=bnd h
 obtain ⟨x12,g12,h⟩:=bnd h
 refine .drawnF 9 [7] [(10,.nb [.sl (Is x12.1.shape),.sl (Its x12.1.items)])] [] A9 (by kernel_rfl) rfl ?_;refine dv (An (Fr g10) Tryz.call14) ?_;refine dv Ae ?_;refine dv (An (EA g11) Tryz.call15) ?_;refine dv (Dq Ai Ac) ?_;refine dv (VOK.tupd (vs:=[.ag [.sl (Is x12.1.shape),.sl (Its x12.1.items)],.i .i64 x12.2]) (An (F1 g12) Tryz.call13)) ?_;refine dv Ae ?_;refine dv vex ?_;refine dv vex ?_;refine dv (van (Ah AS) AY) ?_;refine dz ?_
 refine ⟨?_,?_,?_⟩
 ·intro k hk
  simp only [List.mem_cons,List.not_mem_nil,or_false] at hk
  subst hk
  exact ⟨_,_,_,rfl,rfl,rfl,rfl,rfl,rfl,vex⟩
 ·intro om e hom hge
  cases hom
  exact Gc (cs:=[.sl (Is []),.sl (Its [])]) (cs':=[.sl (Is x12.1.shape),.sl (Its x12.1.items)]) Ac (by decide) rfl ((hge 10 (fun k hk v hv=>by
    simp only [List.mem_cons,List.not_mem_nil,or_false] at hk
    subst hk;exact (by decide:¬(some 50=some 10)) (congrArg (Option.map Prod.fst) hv))).trans rfl) ((congrArg A7 (hge 49 (fun k hk v hv=>by
    simp only [List.mem_cons,List.not_mem_nil,or_false] at hk
    subst hk;exact (by decide:¬(some 50=some 49)) (congrArg (Option.map Prod.fst) hv)))).trans rfl) rfl rfl rfl rfl ⟨rfl,rfl⟩
 refine ar [4,5,9,10,11] ?_;refine .seq ?_
 obtain ⟨x13,g13,h⟩:=bnd h
 obtain ⟨x14,g14,h⟩:=bnd h
 obtain ⟨x15,g15,h⟩:=bnd h
 refine .drawnF 9 [7] [(12,.nb [.sl (Is x15.1.shape),.sl (Its x15.1.items)])] [] A9 (by kernel_rfl) rfl ?_;refine dv (An (Fr g13) Tryz.call14) ?_;refine dv Ae ?_;refine dv (An (EA g14) Tryz.call15) ?_;refine dv (Dq Ai Ac) ?_;refine dv (VOK.tupd (vs:=[.ag [.sl (Is x15.1.shape),.sl (Its x15.1.items)],.i .i64 x15.2]) (An (F1 g15) Tryz.call13)) ?_;refine dv Ae ?_;refine dv vex ?_;refine dv vex ?_;refine dv (van (Ah AS) AY) ?_;refine dz ?_
 refine ⟨?_,?_,?_⟩
 ·intro k hk
  simp only [List.mem_cons,List.not_mem_nil,or_false] at hk
  subst hk
  exact ⟨_,_,_,rfl,rfl,rfl,rfl,rfl,rfl,vex⟩
 ·intro om e hom hge
  cases hom
  exact Gc (cs:=[.sl (Is []),.sl (Its [])]) (cs':=[.sl (Is x15.1.shape),.sl (Its x15.1.items)]) Ac (by decide) rfl ((hge 12 (fun k hk v hv=>by
    simp only [List.mem_cons,List.not_mem_nil,or_false] at hk
    subst hk;exact (by decide:¬(some 58=some 12)) (congrArg (Option.map Prod.fst) hv))).trans rfl) ((congrArg A7 (hge 57 (fun k hk v hv=>by
    simp only [List.mem_cons,List.not_mem_nil,or_false] at hk
    subst hk;exact (by decide:¬(some 58=some 57)) (congrArg (Option.map Prod.fst) hv)))).trans rfl) rfl rfl rfl rfl ⟨rfl,rfl⟩
 refine ar [4,9,11,12,13] ?_;refine .seq ?_
 obtain ⟨x16,g16,h⟩:=bnd h
 obtain ⟨z16,hz,h⟩:=bnd h
 refine AW.mr (σ:=Unit) (fun _=>True) (fun _=>[(4,.d (.b z16))]) (fun _=>[]) ?_ ?_
 ·skip
  refine .region ?_;refine vk (An (MU g16) Tryz.call16) ?_
  rcases brc hz with ⟨hc,hz⟩|⟨hc,hz⟩
  ·have hb0:x16=true:=hc
   refine vL hb0 ?_;refine va ?_;refine vb ?_;refine vk AC ?_
   rcases brc hz with ⟨hc,hz⟩|⟨hc,hz⟩
   ·have hb1:(decide (x12.2=0))=true:=(dT hc)
    refine vL hb1 ?_;refine va ?_;refine vb ?_;refine vk AC ?_
    rcases brc hz with ⟨hc,hz⟩|⟨hc,hz⟩
    ·have hb2:(decide (x15.2=0))=true:=(dT hc)
     refine vL hb2 ?_;refine vk (Dq Ai Ac) ?_;refine vk (Dq Ai Ac) ?_
     obtain ⟨x18,g18,hz⟩:=bnd hz
     refine vk (An (FU g18) Tryz.call17) ?_;refine vk AC ?_;refine asd ?_;refine RL.gk [4] ?_;refine .nil ?_
     cases hz
     exact jr () trivial
    have hb2:(decide (x15.2=0))=false:=(dF hc)
    refine vL hb2 ?_;refine gf3 ?_;refine vk AC ?_;refine asd ?_;refine RL.gk [4] ?_;refine .nil ?_
    cases hz
    exact jr () trivial
   have hb1:(decide (x12.2=0))=false:=(dF hc)
   refine vL hb1 ?_;refine gf2 ?_;refine vk AC ?_;refine va ?_;refine gf3 ?_;refine vk AC ?_;refine asd ?_;refine RL.gk [4] ?_;refine .nil ?_
   cases hz
   exact jr () trivial
  have hb0:x16=false:=(bf hc)
  refine vL hb0 ?_;refine gf2 ?_;refine vk AC ?_;refine va ?_;refine gf2 ?_;refine vk AC ?_;refine va ?_;refine gf3 ?_;refine vk AC ?_;refine asd ?_;refine RL.gk [4] ?_;refine .nil ?_
  cases hz
  exact jr () trivial
 rintro _ _
 refine .ret ?_
 cases h
 exact ⟨rfl,rfl⟩
theorem Ym : EF=some (1,(false,[],[]),0):=rfl
def rdx (l:List Nat) : List Nat:=(l.take 4).map fun b=>b % 100+1
theorem QH (l:List Nat) : ∀ r∈rdx l,0<r∧r≤100:=fun r hr=>by
 obtain ⟨b,_,rfl⟩:=List.mem_map.1 hr
 omega
theorem Jd (l:List Nat) : (rdx l).length=min 4 l.length:=by simp [rdx]
theorem UX {l:List Nat} {i:Nat} (h4:i<4) (h:i<l.length) : (rdx l)[i]'(by rw [Jd];omega)=l[i] % 100+1:=by simp [rdx]
theorem QZ (rs:List Nat) (hr:∀ r∈rs,0<r∧r≤100) : ∀ n,0<prN rs n∧prN rs n≤100 ^ n
 | 0=>⟨Nat.one_pos,Nat.le_refl _⟩
 | n+1=>by
  have ih:=QZ rs hr n
  have hg:0<rs.getD n 1∧rs.getD n 1≤100:=by
   by_cases h:n<rs.length
   ·rw [Li h];exact hr _ (List.getElem_mem h)
   ·rw [lD,List.getElem?_eq_none (by omega)];exact ⟨by decide,by decide⟩
  rw [prN,Nat.pow_succ]
  exact ⟨Nat.mul_pos ih.1 hg.1,Nat.mul_le_mul ih.2 hg.2⟩
theorem KK {l:List Nat} (hl:l.length≤140737488355328) (h8:∀ x∈l,x≤255) (K:List Int→Int→Option Bool) : ∀ (n i k:Nat),n=(rdx l).length-i→i≤(rdx l).length→n<k →
  Bj l K k (Zn ((rdx l).take i)) ((prN (rdx l) i:Nat):Int) (i:Int)=K (Zn (rdx l)) ((prN (rdx l) (rdx l).length:Nat):Int)
 | n,i,0,_,_,h=>by omega
 | n,i,k+1,hn,hi,hk=>by
  have hlen:=Jd l
  rw [Bj]
  by_cases hlt:i<(rdx l).length
  ·have h1:i<l.length:=by omega
   have hx:=h8 _ (List.getElem_mem h1)
   have hg:(rdx l)[i]=l[i] % 100+1:=UX (by omega) h1
   have hp:=QZ (rdx l) (QH l) i
   have hp4:prN (rdx l) i≤1000000:=nT hp.2 (Nat.pow_le_pow_right (n:=100) (by decide) (show i≤3 by omega))
   have e0:w64 ((Int.tmod (IntKind.wrap .i64 ((l[i]:Nat):Int)) 100)+1)=(((rdx l)[i]:Nat):Int):=by
    rw [show IntKind.wrap .i64 ((l[i]:Nat):Int)=((l[i]:Nat):Int) from HM (by omega) (by omega),show Int.tmod ((l[i]:Nat):Int) 100=((l[i] % 100:Nat):Int) from rfl,hg,C4 (by omega)]
   have hgd:(rdx l).getD i 1=(rdx l)[i]:=Li hlt
   have hrk:=QH l _ (List.getElem_mem hlt)
   have hmul:prN (rdx l) i * (rdx l)[i]≤100000000:=Nat.mul_le_mul hp4 hrk.2
   have e1:w64 (((prN (rdx l) i:Nat):Int) * (((rdx l)[i]:Nat):Int))=((prN (rdx l) (i+1):Nat):Int):=by
    rw [prN,hgd,← Int.natCast_mul,CT (by omega) (by omega)]
   rw [if_pos (by simp;omega),Cp h1,oB,e0,H8 (by rw [BO,List.length_take];simp;omega),oB,e1,C4 (by omega)]
   have e2:Zn ((rdx l).take i)++[(((rdx l)[i]:Nat):Int)]=Zn ((rdx l).take (i+1)):=by
    unfold Zn;rw [← List.take_append_getElem hlt,List.map_append];rfl
   rw [e2]
   exact KK hl h8 K (n-1) (i+1) k (by omega) (by omega) (by omega)
  ·have:i=(rdx l).length:=by omega
   subst this
   rw [if_neg (by simp;omega),List.take_of_length_le (Nat.le_refl _)]
theorem U1 : DS 8868=some true:=by kernel_rfl
theorem Vi : DS 8869=some true:=by kernel_rfl
theorem M6 {l:List Nat} {a:Int} (hl:l.length≤140737488355328∧∀ x∈l,x≤255) (ha:(Lit.int .u32 a).wf=true) : DG l a=some true:=by
 obtain ⟨b,rfl,hb⟩:∃ b:Nat,a=(b:Int)∧b≤4294967295:=by
  simp [Lit.wf,IntKind.min,IntKind.max,IntKind.signed,IntKind.bits] at ha
  exact ⟨a.toNat,by omega,by omega⟩
 have h4:(rdx l).length≤4:=by rw [Jd];omega
 have hrk:=QH l
 have hp:=QZ (rdx l) hrk (rdx l).length
 have hp8:prN (rdx l) (rdx l).length≤100000000:=nT hp.2 (Nat.pow_le_pow_right (n:=100) (by decide) h4)
 have hlp:=fun K=>KK hl.1 hl.2 K (rdx l).length 0 AH rfl (Nat.zero_le _) (Ct (by omega))
 unfold DG
 rw [CX]
 refine (hlp _).trans ?_
 generalize hP:prN (rdx l) (rdx l).length=P at hp hp8 ⊢
 have hv:Int.tmod (IntKind.wrap .i64 ((b:Nat):Int)) ((P:Nat):Int)=((b % P:Nat):Int):=by
  rw [show IntKind.wrap .i64 ((b:Nat):Int)=((b:Nat):Int) from HM (by omega) (by omega)];rfl
 have hlt:b % P<P:=Nat.mod_lt _ hp.1
 generalize b % P=v at hv hlt
 have hz:Gb (v:Int):=⟨by omega,by omega⟩
 have hrs:∀ n∈rdx l,n≤1000000000:=fun n hn=>by have:=hrk n hn;omega
 have hds:∀ n∈dgs (rdx l) (rdx l).length v,n≤1000000000:=fun n hn=>by have:=OI (rdx l) _ v n hn;omega
 have o1:=OD (Qs hrs)
 have r1:=Je (Qs hrs)
 have o2:=OD (Qs hds)
 have r2:=Je (Qs hds)
 have o3:=OF hz
 have hE:CA (1,(false,[],[]),0) 8868 (Fi (Zn (rdx l))) (.mk [] [BK (v:Int)])=some (Fi (Zn (dgs (rdx l) (rdx l).length v)),0):=by
  unfold CA
  rw [U1,oB,if_pos rfl,NJ o1 r1 o3.1 o3.2,oB,if_pos rfl,if_neg (show ¬((8868:Int)=8835) by decide),if_pos rfl,Sy hrk h4 (by omega)];rfl
 have hD:CA (1,(false,[],[]),0) 8869 (Fi (Zn (rdx l))) (Fi (Zn (dgs (rdx l) (rdx l).length v)))=some (.mk [] [BK (v:Int)],0):=by
  unfold CA
  rw [Vi,oB,if_pos rfl,NJ o1 r1 o2 r2,oB,if_pos rfl,if_neg (show ¬((8869:Int)=8835) by decide),if_neg (show ¬((8869:Int)=8868) by decide),if_pos rfl,RV hrk h4 (by omega) (by omega)];rfl
 have hI:FK (Zn (rdx l))=some (Fi (Zn (rdx l))):=SK (Qs hrs) (by rw [BO];omega)
 rw [J1 (by omega),oB,hv,Ws hz,oB,Ym,oB,hI,oB,hE,oB,oB,oB,hD,oB,XQ,oB,if_pos rfl,if_pos rfl,if_pos rfl,(TX o3.1 o3.1 o3.2 o3.2).yes rfl]
 rfl
end Go.FL
namespace Go.Proofs.YtjmalfcinmmekaaGreat.pickDigits
open Go.ChangeShapes Go.WideShapes Go.ChangeAt Go.RowKit Go.FL
theorem own : ownKnob Tryz.prog.godebug=none:=by kernel_rfl
theorem laid : laidOutB Tryz.prog=true:=by kernel_rfl
theorem params : ∀ t∈Tryz.f3.params.toList,Tryz.prog.readableRec t=true∧t<Tryz.prog.types.size:=by
 intro t ht
 simp only [Tryz.params3,List.mem_cons,List.not_mem_nil,or_false] at ht
 rcases ht with rfl|rfl<;>exact ⟨by kernel_rfl,of_decide_eq_true (by kernel_rfl)⟩
set_option maxRecDepth 100000 in
theorem lifted (os:Os) (started:os.Started) (H:Type) (enc:TypeId×Value→H) :
  ReturnsInHanded {} Tryz.checked os 3 .any (Rows.pickDigitsSpec.pre6 enc Tryz.prog Tryz.f3 Rows.pickDigitsRow.domain false) (Rows.pickDigitsSpec.post enc Tryz.prog Tryz.f3 false true false false):=by
 refine returnsInHanded_of_change_sized (C:=Tryz.checked) own started (by kernel_rfl) Tryz.func3
  (ChangeSpec.witness6 (enc:=enc) (C:=Tryz.checked) false ⟨#[],#[.slice none 0 0,.int .u32 0],[]⟩ 8 (by kernel_rfl) (by kernel_rfl) (by kernel_rfl) (by kernel_rfl)) ?_
 intro W base args ds gs before hval0 hW hcnd hsz _
 have hval:∀ (j:Nat) t v,Tryz.f3.params[j]?=some t→args[j]?=some v→Value.okWide Tryz.prog W .any base t v:=hval0
 have hW':=hW
 obtain ⟨p,q,hA0,hV,rfl,hfz,hnd⟩:=hW
 have hA:DataW.TrodAll enc Tryz.prog W 0 (fun _=>true) true Tryz.f3.params.toList args.toList ds p:=hA0
 rw [Tryz.params3] at hA hval
 obtain ⟨v0,vs0,d0,ds0,p0,q0,hargs,rfl,rfl,h0,r0⟩:=trodAll_cons hA
 obtain ⟨v1,vs1,d1,ds1,p1,q1,rfl,rfl,rfl,h1,r1⟩:=trodAll_cons r0
 obtain ⟨rfl,rfl,rfl⟩:=trodAll_nil r1
 obtain rfl:args=#[v0,v1]:=by cases args;simp_all
 obtain ⟨rfl,rfl⟩:=trodVars_none hV
 rw [Tryz.params3] at hsz
 have w0:∀ m∈DataW.weights Tryz.prog 22 d0,m≤reachBytes:=fun m hm=>by simpa using List.all_eq_true.1 hsz m (DataW.weights_mem_each (j:=0) rfl rfl m hm)
 obtain ⟨a0,o0,e0⟩:=UA (v:=v0) TW (by obtain ⟨x0,x1,x2,rfl⟩:=okWide_slice Tryz.underlying22 (hval 0 22 v0 rfl rfl);rfl) h0 w0
 have w1:∀ m∈DataW.weights Tryz.prog 23 d1,m≤reachBytes:=fun m hm=>by simpa using List.all_eq_true.1 hsz m (DataW.weights_mem_each (j:=1) rfl rfl m hm)
 obtain ⟨a1,o1,e1⟩:=UL (by kernel_rfl:Tryz.prog.underlying 23=some (.int .u32)) (hval 1 23 v1 rfl rfl) h1
 refine (SB (IL (M6 o0 o1)) (.cons e0 (.cons e1 .nil))).mono fun e W' ⟨he,hb⟩=>?_
 subst he
 exact ⟨_,rfl,Tj hW' rfl (fun _=>rfl) rfl Tryz.underlying4 laid params hb⟩
theorem over : Rows.pickDigitsRow.holds Tryz.pinned (OpenSpec.ofChange Rows.pickDigitsSpec) :=
 OpenClaim.holds_of_wide 3 Tryz.f3 rfl rfl rfl rfl rfl rfl rfl ⟨rfl,rfl,rfl,rfl,rfl⟩ rfl rfl rfl rfl rfl (by kernel_rfl) Tryz.func3 (by kernel_rfl)
  (of_decide_eq_true (by kernel_rfl)) (by unfold Func.isWrapper;first|(rw [if_pos (by decide +kernel)];kernel_rfl)|(rw [if_neg (by decide +kernel)];exact ⟨rfl,rfl⟩))
  (fun os started H enc _=>lifted os started H enc)
theorem proved : Rows.PickDigitsSaid :=
 over
end Go.Proofs.YtjmalfcinmmekaaGreat.pickDigits
