/-
  The law: its function printed as a pure function, its contract, the plain law, the statement
-/
import Derived.Test.YtbeekjoeaigngaaGreatSlE
import Derived.Test.YtbeekjoeaigngaaGreatRows
set_option linter.unusedVariables false
namespace Go.FL
open Go Go.Proofs
def okA (x : RT × Int) : Prop:=x.1.2.1.length≤1048576∧x.1.2.2.length≤1048576
theorem Zn {a c : Int} {b d : Nat} (hb : b ≠ 0) (hd : d ≠ 0) : mkRat a b≤mkRat c d↔a * d≤c * b:=by
 rw [Rat.mkRat_eq_div,Rat.mkRat_eq_div]
 have hb':(0:Rat)<((b:Int):Rat):=by exact_mod_cast Rat.intCast_lt_intCast.2 (show (0:Int)<b by omega)
 have hd':(0:Rat)<((d:Int):Rat):=by exact_mod_cast Rat.intCast_lt_intCast.2 (show (0:Int)<d by omega)
 have e1:((a:Rat) / (b:Rat)) * ((b:Int):Rat)=a:=Rat.div_mul_cancel (Rat.ne_of_gt hb')
 have e2:((c:Rat) / (d:Rat)) * ((d:Int):Rat)=c:=Rat.div_mul_cancel (Rat.ne_of_gt hd')
 generalize (a:Rat) / (b:Rat)=x at *
 generalize (c:Rat) / (d:Rat)=y at *
 have hbd:=Rat.mul_pos hb' hd'
 have key:a * d≤c * b↔x * (((b:Int):Rat) * ((d:Int):Rat))≤y * (((b:Int):Rat) * ((d:Int):Rat)):=by
  rw [← Rat.intCast_le_intCast,Rat.intCast_mul,Rat.intCast_mul,← e1,← e2]
  have h1:x * ((b:Int):Rat) * ((d:Int):Rat)=x * (((b:Int):Rat) * ((d:Int):Rat)):=by grind
  have h2:y * ((d:Int):Rat) * ((b:Int):Rat)=y * (((b:Int):Rat) * ((d:Int):Rat)):=by grind
  rw [h1,h2]
 rw [key]
 constructor
 ·intro h;exact Rat.mul_le_mul_of_nonneg_right h (Rat.le_of_lt hbd)
 ·intro h
  apply Rat.not_lt.1
  intro h2
  exact absurd (Rat.mul_lt_mul_of_pos_right h2 hbd) (Rat.not_lt.2 h)
def Lq (p : Rat) : Rat:=if p<0 then -p else p
theorem Yd {D : Q3} (h : D.2.2 ≠ 0) : Lq (Hc D)=mkRat D.2.1 D.2.2:=by
 obtain ⟨b,n,d⟩:=D
 have h0:(0:Rat)≤mkRat n d:=by
  have:=(Zn (a:=0) (c:=n) (b:=1) (d:=d) (by decide) h).2 (by omega)
  simpa using this
 show Lq (mkRat (sg b n) d)=mkRat n d
 unfold Lq
 cases b
 ·rw [show sg false n=(n:Int) from rfl,if_neg (Rat.not_lt.2 h0)]
 ·rw [show sg true n=-(n:Int) from rfl,← Rat.neg_mkRat]
  generalize mkRat n d=x at *
  split <;> grind
theorem XT (p : Rat) : Lq p=mkRat p.num.natAbs p.den:=by
 have:=Yd (D:=q3 p) (OJ p)
 rwa [Mu] at this
theorem U7 (p : Rat) : Hc (false,p.num.natAbs,p.den)=Lq p:=(XT p).symm
def Zi (p q : Rat) : Rat:=if Lq p<Lq q then Lq q else Lq p
def OS (c p q : Rat) : Prop:=Lq (p - q)≤c * Zi p q
instance (c p q : Rat) : Decidable (OS c p q):=inferInstanceAs (Decidable (_≤_))
def V7 (c p q : Rat) : Int:=if OS c p q then 0 else HE p q
theorem X9 {m n : Nat} : Iv m n<0↔m<n:=by
 unfold Iv;split
 ·simp [*]
 ·split <;> simp [*]
theorem ZI {m n : Nat} : Iv m n≤0↔m≤n:=by
 unfold Iv;split
 ·simp;omega
 ·split
  ·simp;omega
  ·constructor
   ·intro h;omega
   ·intro h;omega
theorem Zu {m n : Nat} : 0<Iv m n↔n<m:=by
 rw [← Nat.not_le,← ZI];omega
theorem UH {p q : Rat} : Lq p<Lq q↔p.num.natAbs * q.den<q.num.natAbs * p.den:=by
 rw [← Rat.not_le,XT,XT,Zn q.den_nz p.den_nz]
 rw [← Int.natCast_mul,← Int.natCast_mul]
 omega
theorem Yb {D T : Q3} (hD : sm 2000 D) (hT : sm 2000 T) (h1 : D.2.2 ≠ 0) (h2 : T.2.2 ≠ 0) {β : Type} (f : Bool→Option β) :
  (Option.bind ((if (qN T).2=true then (if 0<((List.length (qN T).1.1:Nat):Int) then (some true) else ((Ca (qN D).1 (qN T).1).bind fun x16=>((Ca (qN T).1 (qN D).1).bind fun x17=>((Dh x16 x17).bind fun x18=>(some (decide (0<x18))))))) else ((Ca (qN D).1 (qN T).1).bind fun x19=>((Ca (qN T).1 (qN D).1).bind fun x20=>((Dh x19 x20).bind fun x21=>(some (decide (0<x21))))))):Option (Bool)) f) =
   f (decide (¬ mkRat D.2.1 D.2.2≤Hc T)):=by
 have c1:=P3 (GA hD (by decide:2000≤4000)) (GA hT (by decide:2000≤4000))
 have c2:=P3 (GA hT (by decide:2000≤4000)) (GA hD (by decide:2000≤4000))
 have c3:=Pz (Nat.le_trans (M9 hD hT) (by decide)) (Nat.le_trans (M9 hT hD) (by decide))
 rw [c1,oB,c2,oB,c3,oB]
 have e:decide (¬ mkRat D.2.1 D.2.2≤Hc T)=if T.1=true then (if T.2.1 ≠ 0 then true else decide (0<Iv (D.2.1 * T.2.2) (T.2.1 * D.2.2))) else decide (0<Iv (D.2.1 * T.2.2) (T.2.1 * D.2.2)):=by
  simp only [Zn h1 h2]
  obtain ⟨b,n,d⟩:=T
  obtain ⟨b2,n2,d2⟩:=D
  show decide (¬ ((n2:Int) * d≤sg b n * d2))=if b=true then (if n ≠ 0 then true else decide (0<Iv (n2 * d) (n * d2))) else decide (0<Iv (n2 * d) (n * d2))
  have hd2:d2 ≠ 0:=h1
  simp only [Zu]
  cases b
  ·rw [if_neg (by decide),show sg false n=(n:Int) from rfl,← Int.natCast_mul,← Int.natCast_mul]
   simp only [decide_eq_decide];omega
  ·rw [if_pos rfl,show sg true n=-(n:Int) from rfl,Int.neg_mul,← Int.natCast_mul,← Int.natCast_mul]
   by_cases hn:n=0
   ·subst hn;rw [if_neg (by simp)]
    simp only [decide_eq_decide];omega
   ·rw [if_pos hn]
    have:0<n * d2:=Nat.mul_pos (Nat.pos_of_ne_zero hn) (Nat.pos_of_ne_zero hd2)
    simp only [decide_eq_true_eq];omega
 rw [e]
 show Option.bind (if T.1=true then (if 0<((List.length (Ae T.2.1):Nat):Int) then some true else some _) else some _) f=_
 by_cases hb:T.1=true
 ·rw [if_pos hb,if_pos hb]
  by_cases hn:T.2.1 ≠ 0
  ·rw [if_pos hn,if_pos (Rw.2 hn)];rfl
  ·rw [if_neg hn,if_neg (mt Rw.1 hn)];rfl
 ·rw [if_neg hb,if_neg hb];rfl
theorem Aaf {c p q : Rat} (hc : CZ c) (hp : CZ p) (hq : CZ q) : (AQ (ofQ c) && (AQ (ofQ p) && AQ (ofQ q)))=true:=by rw [CO hc,CO hp,CO hq];rfl
abbrev Xw (p q : Rat) : Q3:=Fl (q3 p) (!(q3 q).1,(q3 q).2.1,(q3 q).2.2)
theorem ZO (p q : Rat) : Hc (Xw p q)=p - q∧(Xw p q).2.2 ≠ 0:=by
 have:=Sj (x:=q3 p) (y:=(!(q3 q).1,(q3 q).2.1,(q3 q).2.2)) (OJ p) (OJ q)
 rwa [Zh,Mu,Mu,← Rat.sub_eq_add_neg] at this
theorem ZW {p q : Rat} (hp : CZ p) (hq : CZ q) : sm 65 (Xw p q):=ZJ (Ny hp) (Yi (Ny hq))
theorem Aaw {c p q : Rat} (hc : CZ c) (hp : CZ p) (hq : CZ q) : ET (ofQ c) (ofQ p) (ofQ q)=some (V7 c p q):=by
 unfold ET
 have c1:=P3 (GA (Ny hp) (by decide:32≤4000)) (GA (Ny hq) (by decide:32≤4000))
 have c2:=P3 (GA (Ny hq) (by decide:32≤4000)) (GA (Ny hp) (by decide:32≤4000))
 have c3:=Pz (Nat.le_trans (M9 (Ny hp) (Ny hq)) (by decide)) (Nat.le_trans (M9 (Ny hq) (Ny hp)) (by decide))
 have c4:=Aac (GA (Ny hp) (by decide:32≤4000)) (Yi (GA (Ny hq) (by decide:32≤4000)))
 have each:∀ m:Rat,CZ m→Hm (qN (q3 c)) ((qN (q3 m)).1,false)=some (qN (GW (q3 c) (false,m.num.natAbs,m.den)))∧sm 2000 (GW (q3 c) (false,m.num.natAbs,m.den))∧Hc (GW (q3 c) (false,m.num.natAbs,m.den))=c * Lq m∧(GW (q3 c) (false,m.num.natAbs,m.den)).2.2 ≠ 0:=fun m hm=>by
  have hm':sm 32 (false,m.num.natAbs,m.den):=hm
  have h1:=N3 (x:=q3 c) (y:=(false,m.num.natAbs,m.den)) (OJ c) m.den_nz
  rw [U7,Mu] at h1
  exact ⟨ZB (y:=(false,m.num.natAbs,m.den)) (GA (Ny hc) (by decide)) (GA hm' (by decide)),GA (Za (Ny hc) hm') (by decide),h1.1,h1.2⟩
 have hD:=GA (ZW hp hq) (by decide:65≤2000)
 obtain ⟨dv,dn⟩:=ZO p q
 have da:mkRat (Xw p q).2.1 (Xw p q).2.2=Lq (p - q):=by rw [← dv,Yd dn]
 rw [ZG (Eh hc) (Eh hp) (Eh hq),Aaf hc hp hq,oB,if_pos rfl,MA,oB,MA,oB,Aab,oB,c4,oB,oB,oB,c1,oB,oB,c2,oB,c3,oB]
 have fin:∀ m:Rat,Zi p q=Lq m→(if decide (¬ mkRat (Xw p q).2.1 (Xw p q).2.2≤Hc (GW (q3 c) (false,m.num.natAbs,m.den)))=true then (DN (ofQ p) (ofQ q)).bind fun x=>some x else some 0)=some (V7 c p q):=fun m e=>by
  have hv:=N3 (x:=q3 c) (y:=(false,m.num.natAbs,m.den)) (OJ c) m.den_nz
  rw [U7,Mu] at hv
  rw [da,hv.1,Vk hp hq]
  have hw:OS c p q↔Lq (p - q)≤c * Lq m:=by unfold OS;rw [e]
  unfold V7
  by_cases h:Lq (p - q)≤c * Lq m
  ·rw [if_neg (by simp [h]),if_pos (hw.2 h)]
  ·rw [if_pos (by simp only [h,not_false_eq_true,decide_true]),if_neg (mt hw.1 h)];rfl
 by_cases hlt:Lq p<Lq q
 ·rw [if_pos (X9.2 (UH.1 hlt)),oB,MA,oB]
  obtain ⟨t1,t2,t3,t4⟩:=each q hq
  rw [t1,oB,Yb hD t2 dn t4]
  exact fin q (if_pos hlt)
 ·rw [if_neg (fun h=>hlt (UH.2 (X9.1 h))),MA,oB]
  obtain ⟨t1,t2,t3,t4⟩:=each p hp
  rw [t1,oB,Yb hD t2 dn t4]
  exact fin p (if_neg hlt)
theorem WC (p q : Rat) : HE p q=0 - HE q p:=by
 unfold HE
 by_cases h:p<q
 ·rw [if_pos h,if_neg (by grind),if_neg (by grind)];rfl
 ·rw [if_neg h]
  by_cases h2:p=q
  ·rw [if_pos h2,if_neg (by grind),if_pos h2.symm];rfl
  ·rw [if_neg h2,if_pos (by grind)];rfl
theorem SQ (c p q : Rat) : OS c p q↔OS c q p:=by
 unfold OS
 have h1:Lq (p - q)=Lq (q - p):=by unfold Lq;grind
 have h2:Zi p q=Zi q p:=by unfold Zi;grind
 rw [h1,h2]
theorem YT (c p q : Rat) : V7 c p q=0 - V7 c q p:=by
 unfold V7
 by_cases h:OS c p q
 ·rw [if_pos h,if_pos ((SQ c p q).1 h)];rfl
 ·rw [if_neg h,if_neg (mt (SQ c p q).2 h),WC]
def ch : Nat→Nat→Nat
 | _,0=>1
 | 0,_+1=>0
 | n+1,k+1=>ch n k+ch n (k+1)
theorem few {n : Nat} (h : n<4294967296) (k : Nat) : (Ae n).length≤k+1:=Nat.le_trans (ZM h) (by omega)
def Aav (p : Rat) : Int × Bool:=if p.den=1 then (if Bi p.num.natAbs≤64 then Nb (decide (p.num<0)) p.num.natAbs else (0,false)) else (0,false)
theorem ZP {p : Rat} (hp : CZ p) : Jt (ofQ p)=some (Aav p):=by
 unfold Jt Aav
 rw [Zw hp,oB]
 by_cases h:p.den=1
 ·have e:(ofQ p).2.1=Ae p.num.natAbs:=rfl
  rw [if_pos (dT h),if_pos h,e,AD,if_pos (by rw [Fi (Nat.le_trans hp.1 (by decide)),dT rfl];rfl)];rfl
 ·rw [if_neg (by simpa using h),if_neg h]
def HC (a0 : Int) (a1 : (Arr × Arr)) : Option (Bool):=((rd? [43,215,61,8800,8743,8744,8968,8970] (Int.tmod a0 8)).bind fun x1=>(CS.bind fun x2=>((BB x2 x1 a1.1 a1.2).bind fun x3=>(CS.bind fun x4=>((BB x4 x1 a1.2 a1.1).bind fun x5=>(FU.bind fun x6=>(Option.bind ((if x6=true then (if x3.2=x5.2 then ((GC x3.1 x5.1).bind fun x8=>(some x8)) else (some false)) else (some false)) : Option (Bool)) fun (z6 : Bool)=>(some (z6)))))))))
theorem Pk {a0 : Int} {a1 : (Arr × Arr)} {r : Bool} (h : HC a0 a1=some r) :
  Fn Tryz.prog 4 [.i .u8 a0,.ag [.sl (Is a1.1.shape),.sl (Its a1.1.items),.sl (Is a1.2.shape),.sl (Its a1.2.items)]] (.d (.b r)):=by
 unfold HC at h
 refine Fn.o1 4 46 Tryz.func4 ?_;refine .sr ?_;refine vk (vbx) ?_;refine ar [0,3,4] ?_;refine .sr ?_;refine vk ((Ev (Y4 [43,215,61,8800,8743,8744,8968,8970]) Z4).deep) ?_;refine vk (Aa) ?_;refine vk (P5 (c:=(8:Int) ≠ 0) (by decide)) ?_
 obtain ⟨x1,hx1,h⟩:=bnd h
 obtain ⟨nx1,hnx1,hxx1⟩:=AS hx1
 refine vk (vix nx1 hnx1 (Aao hxx1) rfl Aal) ?_;refine vk (An CP) ?_;refine ar [3,4,5] ?_;refine .seq ?_
 obtain ⟨x2,hx2,h⟩:=bnd h
 obtain ⟨x3,hx3,h⟩:=bnd h
 refine .drawnF 11 [9] [(6,.nb [.sl (Is x3.1.shape),.sl (Its x3.1.items)])] [] Ba (by kernel_rfl) rfl ?_;refine dv (Ad (CG hx2) Tryz.call16) ?_;refine dv (Aa) ?_;refine dv (ZA (z:=0) Rs Ag (by decide) (by decide) rfl) ?_;refine dv (Ap As Ag) ?_;refine dv (ZA (z:=1) Rs Ag (by decide) (by decide) rfl) ?_;refine dv (Ap As Ag) ?_;refine dv (VOK.tupd (vs:=[.ag [.sl (Is x3.1.shape),.sl (Its x3.1.items)],.i .i64 x3.2]) (Ad (CD hx3) Tryz.call15)) ?_;refine dv (Aa) ?_;refine dv (vex) ?_;refine dv (vex) ?_;refine dv (van (Ah AU) A7) ?_;refine dz ?_
 refine ⟨?_,?_,?_⟩
 ·intro k hk
  simp only [List.mem_cons,List.not_mem_nil,or_false] at hk
  subst hk
  exact ⟨_,_,_,rfl,rfl,rfl,rfl,rfl,rfl,vex⟩
 ·intro om e hom hge
  cases hom
  exact Gz (cs:=[.sl (Is []),.sl (Its [])]) (cs':=[.sl (Is x3.1.shape),.sl (Its x3.1.items)]) Ag (by decide) rfl ((hge 6 (fun k hk v hv=>by
    simp only [List.mem_cons,List.not_mem_nil,or_false] at hk
    subst hk;exact (by decide:¬ (some 24=some 6)) (congrArg (Option.map Prod.fst) hv))).trans rfl) ((congrArg AX (hge 23 (fun k hk v hv=>by
    simp only [List.mem_cons,List.not_mem_nil,or_false] at hk
    subst hk;exact (by decide:¬ (some 24=some 23)) (congrArg (Option.map Prod.fst) hv)))).trans rfl) rfl rfl rfl rfl ⟨rfl,rfl⟩
 refine ar [3,4,5,6,7] ?_;refine .seq ?_
 obtain ⟨x4,hx4,h⟩:=bnd h
 obtain ⟨x5,hx5,h⟩:=bnd h
 refine .drawnF 11 [9] [(8,.nb [.sl (Is x5.1.shape),.sl (Its x5.1.items)])] [] Ba (by kernel_rfl) rfl ?_;refine dv (Ad (CG hx4) Tryz.call16) ?_;refine dv (Aa) ?_;refine dv (ZA (z:=1) Rs Ag (by decide) (by decide) rfl) ?_;refine dv (Ap As Ag) ?_;refine dv (ZA (z:=0) Rs Ag (by decide) (by decide) rfl) ?_;refine dv (Ap As Ag) ?_;refine dv (VOK.tupd (vs:=[.ag [.sl (Is x5.1.shape),.sl (Its x5.1.items)],.i .i64 x5.2]) (Ad (CD hx5) Tryz.call15)) ?_;refine dv (Aa) ?_;refine dv (vex) ?_;refine dv (vex) ?_;refine dv (van (Ah AU) A7) ?_;refine dz ?_
 refine ⟨?_,?_,?_⟩
 ·intro k hk
  simp only [List.mem_cons,List.not_mem_nil,or_false] at hk
  subst hk
  exact ⟨_,_,_,rfl,rfl,rfl,rfl,rfl,rfl,vex⟩
 ·intro om e hom hge
  cases hom
  exact Gz (cs:=[.sl (Is []),.sl (Its [])]) (cs':=[.sl (Is x5.1.shape),.sl (Its x5.1.items)]) Ag (by decide) rfl ((hge 8 (fun k hk v hv=>by
    simp only [List.mem_cons,List.not_mem_nil,or_false] at hk
    subst hk;exact (by decide:¬ (some 34=some 8)) (congrArg (Option.map Prod.fst) hv))).trans rfl) ((congrArg AX (hge 33 (fun k hk v hv=>by
    simp only [List.mem_cons,List.not_mem_nil,or_false] at hk
    subst hk;exact (by decide:¬ (some 34=some 33)) (congrArg (Option.map Prod.fst) hv)))).trans rfl) rfl rfl rfl rfl ⟨rfl,rfl⟩
 refine ar [4,6,7,8,9] ?_;refine .seq ?_
 obtain ⟨x6,hx6,h⟩:=bnd h
 obtain ⟨z6,hz,h⟩:=bnd h
 refine AW.mr (σ:=Unit) (fun _=>True) (fun _=>[(4,.d (.b z6))]) (fun _=>[]) ?_ ?_
 ·skip
  refine .region ?_;refine vk (Ad (IL hx6) Tryz.call17) ?_
  by_cases hc:x6=true
  ·replace hz:=Aj hc hz
   have hb0:x6=true:=hc
   refine vk (VOK.lit (Aa) hb0) ?_;refine vk (Aa) ?_;refine vk (Aa) ?_;refine vk (vbi) ?_;refine vk (Am) ?_
   by_cases hc:x3.2=x5.2
   ·replace hz:=Aj hc hz
    have hb1:(decide (x3.2=x5.2))=true:=(dT hc)
    refine vk (VOK.lit (Aa) hb1) ?_;refine vk (C8 As Ag) ?_;refine vk (C8 As Ag) ?_
    obtain ⟨x8,hx8,hz⟩:=bnd hz
    refine vk (Ad (Ip hx8) Tryz.call18) ?_;refine vk (Am) ?_;refine asd ?_;refine RL.gk [4] ?_;refine .nil ?_
    cases hz
    exact jr () trivial
   replace hz:=Ai hc hz
   have hb1:(decide (x3.2=x5.2))=false:=(dF hc)
   refine vk (VOK.lit (Aa) hb1) ?_;refine gf ?_;refine gf ?_;refine gf ?_;refine vk (Am) ?_;refine asd ?_;refine RL.gk [4] ?_;refine .nil ?_
   cases hz
   exact jr () trivial
  replace hz:=Ai hc hz
  have hb0:x6=false:=(bf hc)
  refine vk (VOK.lit (Aa) hb0) ?_;refine gf ?_;refine gf ?_;refine gf ?_;refine vk (Am) ?_;refine vk (Aa) ?_;refine gf ?_;refine gf ?_;refine gf ?_;refine vk (Am) ?_;refine asd ?_;refine RL.gk [4] ?_;refine .nil ?_
  cases hz
  exact jr () trivial
 rintro _ _
 refine .ret ?_
 cases h
 exact ⟨rfl,rfl⟩
theorem U9 : ∀ {s : List Int},(∀ x ∈ s,1≤x)→Fw s=1→∀ x ∈ s,x=1
 | [],_,_,x,hx=>by cases hx
 | y::ys,h,hp,x,hx=>by
  have h1:=h y (by simp)
  have h2:=Lu fun z hz=>h z (List.mem_cons_of_mem _ hz)
  have e:Fw (y::ys)=y * Fw ys:=by unfold Fw;rw [List.foldl_cons,Lv,Int.one_mul]
  rw [e] at hp
  have a1:y≤1:=by
   have:=Int.mul_le_mul_of_nonneg_left h2 (show 0≤y by omega)
   omega
  have hy:y=1:=by omega
  rw [hy,Int.one_mul] at hp
  rcases List.mem_cons.1 hx with rfl | hx
  ·exact hy
  ·exact U9 (fun z hz=>h z (List.mem_cons_of_mem _ hz)) hp x hx
theorem WD {s : List Int} (h1 : (szP s).1=1) : ∀ x ∈ s,x=1:=by
 unfold szP at h1
 split at h1
 ·exact absurd h1 (by decide)
 split at h1
 ·exact absurd h1 (by decide)
 split at h1
 ·exact absurd h1 (by decide)
 split at h1
 ·exact absurd h1 (by decide)
 split at h1
 ·rename_i h8 h0 hg h2 h3
  refine U9 (fun x hx=>?_) h1
  simp only [List.any_eq_true,decide_eq_true_eq,not_exists,not_and] at h0
  have a:=h0 x hx
  have c:x ≠ 0:=fun e=>h2 (e ▸ hx)
  omega
 ·exact absurd h1 (by decide)
theorem Zc (s t : List Int) (h : s ≠ t) : Iq s t=if (szP s).1=1∧((szP t).1 ≠ 1∨s.length<t.length) then (t,0) else if (szP t).1=1 then (s,0) else if s.length=t.length then ([],5) else ([],4):=if_neg h
theorem YB (s t : List Int) : Iq s t=Iq t s:=by
 by_cases h:s=t
 ·subst h;rfl
 rw [Zc s t h,Zc t s fun q=>h q.symm]
 by_cases n1:(szP s).1=1
 ·by_cases m1:(szP t).1=1
  ·have hne:s.length ≠ t.length:=by
    intro hl
    refine h (List.ext_getElem hl fun i h1 h2=>?_)
    rw [WD n1 _ (List.getElem_mem h1),WD m1 _ (List.getElem_mem h2)]
   by_cases hl:s.length<t.length
   ·have k:¬ ((szP t).1=1∧((szP s).1 ≠ 1∨t.length<s.length)):=fun q=>q.2.elim (fun w=>w n1) (fun w=>by omega)
    have k2:(szP s).1=1∧((szP t).1 ≠ 1∨s.length<t.length):=⟨n1,.inr hl⟩
    rw [if_pos k2,if_neg k,if_pos n1]
   ·have k:¬ ((szP s).1=1∧((szP t).1 ≠ 1∨s.length<t.length)):=fun q=>q.2.elim (fun w=>w m1) (fun w=>hl w)
    have k2:(szP t).1=1∧((szP s).1 ≠ 1∨t.length<s.length):=⟨m1,.inr (by omega)⟩
    rw [if_neg k,if_pos m1,if_pos k2]
  ·have k:(szP s).1=1∧((szP t).1 ≠ 1∨s.length<t.length):=⟨n1,.inl m1⟩
   have k2:¬ ((szP t).1=1∧((szP s).1 ≠ 1∨t.length<s.length)):=fun q=>m1 q.1
   rw [if_pos k,if_neg k2,if_pos n1]
 ·have k:¬ ((szP s).1=1∧((szP t).1 ≠ 1∨s.length<t.length)):=fun q=>n1 q.1
  rw [if_neg k]
  by_cases m1:(szP t).1=1
  ·have k2:(szP t).1=1∧((szP s).1 ≠ 1∨t.length<s.length):=⟨m1,.inl n1⟩
   rw [if_pos m1,if_pos k2]
  ·have k2:¬ ((szP t).1=1∧((szP s).1 ≠ 1∨t.length<s.length)):=fun q=>m1 q.1
   rw [if_neg m1,if_neg k2,if_neg n1]
   by_cases hl:s.length=t.length
   ·rw [if_pos hl,if_pos hl.symm]
   ·rw [if_neg hl,if_neg (fun q=>hl q.symm)]
def Aar (f : Ac) : Prop:=∀ x y,AQ x=true→AQ y=true→f.g (x,y)=f.g (y,x)
theorem Xx {rc : (Ac × Int)→Arr→Arr→Option (Arr × Int)} {p : Ac × Int} (hp : Aar p.1) {x y : Itm} (hx : okI x∧Bl x) (hy : okI y∧Bl y) (hrc : x.kind=3∨y.kind=3→rc p (Hl x) (Hl y)=rc p (Hl y) (Hl x)) : Dd rc p x y=Dd rc p y x:=by
 by_cases h:x.kind=3∨y.kind=3
 ·rw [My hx hy h,My hy hx h.symm,hrc h]
 ·have hx3:x.kind ≠ 3:=fun q=>h (.inl q)
  have hy3:y.kind ≠ 3:=fun q=>h (.inr q)
  by_cases h1:x.kind=1∧y.kind=1
  ·rw [Mx h1.1 h1.2,Mx h1.2 h1.1,hp _ _ (Va hx.2.1 h1.1) (Va hy.2.1 h1.2)]
  ·rw [MO hx3 hy3 h1,MO hy3 hx3 (fun q=>h1 ⟨q.2,q.1⟩)]
   have e1:decide (x.kind=y.kind)=decide (y.kind=x.kind):=decide_eq_decide.2 ⟨Eq.symm,Eq.symm⟩
   have e2:decide (x.char=y.char)=decide (y.char=x.char):=decide_eq_decide.2 ⟨Eq.symm,Eq.symm⟩
   rw [e1,e2]
theorem Wp {p : Ac × Int} (hp : Aar p.1) (ht : Yg p.1) : ∀ (k : Nat) {a b : Arr},a.size+b.size<k→okAr a→A0 a→okAr b→A0 b→Dz k p a b=Dz k p b a
 | 0,_,_,h,_,_,_,_=>by omega
 | k+1,a,b,h,oa,ra,ob,rb=>by
  have o:=(Bm a).1 oa
  have o2:=(Bm b).1 ob
  rw [Dz,Le o.2.1 o2.2.1,Dz,Le o2.2.1 o.2.1,YB b.shape a.shape]
  by_cases h0:(Iq a.shape b.shape).2=0
  rotate_left
  ·rw [if_neg h0,if_neg h0]
  rw [if_pos h0,if_pos h0]
  obtain ⟨n,hn⟩:∃ n:Nat,szP (Iq a.shape b.shape).1=((n:Int),0):=by
   rcases LY h0 with q | q <;> rw [q]
   ·obtain ⟨n,hn,_⟩:=Jk ra;exact ⟨n,hn⟩
   ·obtain ⟨n,hn,_⟩:=Jk rb;exact ⟨n,hn⟩
  have hsl:(Iq a.shape b.shape).1.length≤17592186044416:=by
   rcases LY h0 with q | q <;> rw [q]
   ·exact o.2.1
   ·exact o2.2.1
  have parts:∀ i:Nat,∃ (x y:Itm),a.items[i % a.items.length]?=some x∧b.items[i % b.items.length]?=some y∧(okI x∧Bl x)∧(okI y∧Bl y)∧(x.kind=3∨y.kind=3→(Hl x).size+(Hl y).size<k):=by
   intro i
   have la:=Nat.mod_lt i (P2 ra)
   have lb:=Nat.mod_lt i (P2 rb)
   have hx:=DC oa ra (List.getElem_mem la)
   have hy:=DC ob rb (List.getElem_mem lb)
   have sx:=Ga (List.getElem_mem la)
   have sy:=Ga (List.getElem_mem lb)
   obtain ⟨px,qx⟩:=OE hx.2.1
   obtain ⟨py,qy⟩:=OE hy.2.1
   refine ⟨_,_,List.getElem?_eq_getElem la,List.getElem?_eq_getElem lb,hx,hy,fun hb=>?_⟩
   rcases hb with hb | hb
   ·have:=qx hb;omega
   ·have:=qy hb;omega
  refine MC hsl hn (fun i hi=>?_) (fun i hi=>?_)
  ·obtain ⟨x,y,ex,ey,hx,hy,hs⟩:=parts i
   obtain ⟨z,e,h1,_⟩:=Vg (rc:=Dz k) (p:=p) ht hy hx fun hb=>⟨_,VG ht k (by have:=hs hb.symm;omega) (C9 hy).2.1 (C9 hy).2.2 (C9 hx).2.1 (C9 hx).2.2⟩
   exact ⟨(z,e),by rw [← h1];exact H6 ey ex⟩
  ·obtain ⟨x,y,ex,ey,hx,hy,hs⟩:=parts i
   refine (H6 ex ey).trans (Eq.trans ?_ (H6 ey ex).symm)
   exact Xx hp hx hy fun hb=>Wp hp ht k (hs hb) (C9 hx).2.1 (C9 hx).2.2 (C9 hy).2.1 (C9 hy).2.2
theorem Wq (p : Rat) : ∃ z e,R8 p=(z,e)∧(e=0→AQ z=true):=by
 by_cases h:CZ p
 ·exact ⟨_,_,QS h,fun _=>CO h⟩
 ·exact ⟨_,_,Zm h,fun q=>absurd q (by decide)⟩
def Both (f : Ac) : Prop:=∀ p q,CZ p→CZ q→∃ z e,f.g (ofQ p,ofQ q)=some (z,e)∧f.g (ofQ q,ofQ p)=some (z,e)∧(e=0→AQ z=true)
theorem Both.tot {f : Ac} (h : Both f) : Yg f:=fun x y hx hy=>by
 obtain ⟨p,hp,rfl⟩:=Fy.1 hx
 obtain ⟨q,hq,rfl⟩:=Fy.1 hy
 obtain ⟨z,e,h1,_,h3⟩:=h p q hp hq
 exact ⟨z,e,h1,h3⟩
theorem Both.symm {f : Ac} (h : Both f) : Aar f:=fun x y hx hy=>by
 obtain ⟨p,hp,rfl⟩:=Fy.1 hx
 obtain ⟨q,hq,rfl⟩:=Fy.1 hy
 obtain ⟨z,e,h1,h2,_⟩:=h p q hp hq
 rw [h1,h2]
theorem Y3 (d : FDV) : Both ⟨d,fun x=>Df x.1 x.2⟩:=fun p q hp hq=>by
 obtain ⟨z,e,h1,h2⟩:=Wq (p+q)
 refine ⟨z,e,(Wo hp hq).trans (congrArg some h1),(Wo hq hp).trans ?_,h2⟩
 rw [Rat.add_comm,h1]
theorem Ze (d : FDV) : Both ⟨d,fun x=>Dg x.1 x.2⟩:=fun p q hp hq=>by
 obtain ⟨z,e,h1,h2⟩:=Wq (p * q)
 refine ⟨z,e,(WJ hp hq).trans (congrArg some h1),(WJ hq hp).trans ?_,h2⟩
 rw [Rat.mul_comm,h1]
theorem WA (d : FDV) {c : Bn} (hc : ∀ z : Int,∃ b,c.g z=some b∧c.g (0 - z)=some b) : Both ⟨d,fun x=>A1 x.1 x.2 c (false,[],[1])⟩:=fun p q hp hq=>by
 obtain ⟨b,h1,h2⟩:=hc (V7 0 p q)
 obtain ⟨t,h3,h4⟩:=Ps b
 have e1:∀ x y:Rat,CZ x→CZ y→c.g (V7 0 x y)=some b→A1 (ofQ x) (ofQ y) c (false,[],[1])=some (t,0):=fun x y hx hy hb=>by
  unfold A1
  have ht0:ET (false,[],[1]) (ofQ x) (ofQ y)=some (V7 0 x y):=by rw [← zq5];exact Aaw U4 hx hy
  rw [ht0,oB,hb,oB,h3];rfl
 refine ⟨t,0,e1 p q hp hq h1,e1 q p hq hp ?_,fun _=>h4⟩
 rw [YT 0 q p];exact h2
theorem Wn (d : FDV) {c : Dw} (hc : ∀ a b : Bool,∃ r,c.g (a,b)=some r∧c.g (b,a)=some r) : Both ⟨d,fun x=>Bg x.1 x.2 c⟩:=fun p q hp hq=>by
 have hb:∀ x:Rat,CZ x→∃ r,E2 (ofQ x)=some r:=fun x hx=>by
  unfold E2
  rw [ZP hx]
  exact ⟨_,rfl⟩
 obtain ⟨u,hu⟩:=hb p hp
 obtain ⟨v,hv⟩:=hb q hq
 show ∃ z e,Bg (ofQ p) (ofQ q) c=some (z,e)∧Bg (ofQ q) (ofQ p) c=some (z,e)∧(e=0→AQ z=true)
 unfold Bg
 rw [hu,hv,oB,oB,oB,oB]
 rw [Bool.or_comm (!v.2) (!u.2)]
 by_cases h:(!u.2 || !v.2)=true
 ·rw [if_pos h,if_pos h]
  exact ⟨_,_,rfl,rfl,fun q=>absurd q (by decide)⟩
 ·rw [if_neg h,if_neg h]
  obtain ⟨r,h1,h2⟩:=hc u.1 v.1
  obtain ⟨t,h3,h4⟩:=Ps r
  rw [h1,h2,oB,h3]
  exact ⟨t,0,rfl,rfl,fun _=>h4⟩
theorem WK (d : FDV) {c : Int} (hc : c=1∨c=-1) : Both ⟨d,fun x=>CB x.1 x.2 c⟩:=fun p q hp hq=>by
 have e1:∀ x y:Rat,CZ x→CZ y→CB (ofQ x) (ofQ y) c=some (if c * HE x y<0 then ofQ y else ofQ x,0):=fun x y hx hy=>by
  unfold CB
  have hw:w64 (c * HE x y)=c * HE x y:=by
   rcases hc with rfl | rfl <;> rcases Sq x y with h | h | h <;> rw [h] <;> rfl
  rw [Vk hx hy,oB,hw]
  by_cases h:c * HE x y<0
  ·rw [if_pos h,if_pos h,YU hy];rfl
  ·rw [if_neg h,if_neg h,YU hx];rfl
 have e2:(if c * HE p q<0 then ofQ q else ofQ p)=(if c * HE q p<0 then ofQ p else ofQ q):=by
  have hs:HE q p=0 - HE p q:=WC q p
  rcases Sq p q with h | h | h
  ·rw [hs,h];rcases hc with rfl | rfl <;> rfl
  ·have:p=q:=by
    unfold HE at h
    split at h
    ·cases h
    ·split at h
     ·assumption
     ·cases h
   subst this
   rfl
  ·rw [hs,h];rcases hc with rfl | rfl <;> rfl
 refine ⟨_,0,e1 p q hp hq,(e1 q p hq hp).trans ?_,fun _=>?_⟩
 ·rw [e2]
 ·split
  ·exact CO hq
  ·exact CO hp
theorem WT {g : Int} (hg : g ∈ ([43,215,61,8800,8743,8744,8968,8970] : List Int)) : ∃ w,Fe (HU (false,[],[1])) g=some w∧Both w:=by
 simp only [List.mem_cons,List.not_mem_nil,or_false] at hg
 rcases hg with rfl | rfl | rfl | rfl | rfl | rfl | rfl | rfl
 ·exact ⟨_,rfl,Y3 _⟩
 ·exact ⟨_,rfl,Ze _⟩
 ·exact ⟨_,rfl,WA _ fun z=>⟨decide (z=0),rfl,congrArg some (decide_eq_decide.2 (by omega))⟩⟩
 ·exact ⟨_,rfl,WA _ fun z=>⟨!decide (z=0),rfl,congrArg some (by rw [decide_eq_decide.2 (show 0 - z=0↔z=0 by omega)])⟩⟩
 ·exact ⟨_,rfl,Wn _ fun a b=>⟨a && b,rfl,congrArg some (Bool.and_comm b a)⟩⟩
 ·exact ⟨_,rfl,Wn _ fun a b=>⟨a || b,rfl,congrArg some (Bool.or_comm b a)⟩⟩
 ·exact ⟨_,rfl,WK _ (.inl rfl)⟩
 ·exact ⟨_,rfl,WK _ (.inr rfl)⟩
theorem Uo {n : Int} {l : Arr × Arr} (hn : (Lit.int .u8 n).wf=true) (hl : okAr l.1∧okAr l.2) : HC n l=some true:=by
 obtain ⟨oa,ob⟩:=hl
 have hn':0≤n:=by
  simp [Lit.wf,IntKind.min,IntKind.max,IntKind.signed,IntKind.bits] at hn;omega
 have hlt:(Int.tmod n 8).toNat<8:=by rw [Int.tmod_eq_emod_of_nonneg hn'];omega
 have hrd:rd? ([43,215,61,8800,8743,8744,8968,8970]:List Int) (Int.tmod n 8)=some (([43,215,61,8800,8743,8744,8968,8970]:List Int)[(Int.tmod n 8).toNat]'hlt):=by
  unfold rd?
  rw [if_pos (by rw [Int.tmod_eq_emod_of_nonneg hn'];omega),List.getElem?_eq_getElem]
 obtain ⟨w,hw,hb⟩:=WT (List.getElem_mem hlt)
 unfold HC
 rw [hrd,oB]
 revert hw
 generalize ([43,215,61,8800,8743,8744,8968,8970]:List Int)[(Int.tmod n 8).toNat]'hlt=g
 intro hw
 have D1:=OH hw oa ob
 have D2:=OH hw ob oa
 by_cases h:A0 l.1∧A0 l.2
 ·rw [if_pos h] at D1
  rw [if_pos ⟨h.2,h.1⟩] at D2
  obtain ⟨r,e,h1,h2,h3⟩:=VG (p:=(w,g)) hb.tot (l.1.size+l.2.size+1) (Nat.lt_succ_self _) oa h.1 ob h.2
  have e1:G9 (w,g) l.1 l.2=some (r,e):=h1
  have e2:G9 (w,g) l.2 l.1=some (r,e):=by
   rw [← h1,Wp (p:=(w,g)) hb.symm hb.tot (l.1.size+l.2.size+1) (Nat.lt_succ_self _) oa h.1 ob h.2]
   unfold G9
   rw [Nat.add_comm l.2.size l.1.size]
  rw [e1] at D1
  rw [e2] at D2
  have or_:okAr r:=by
   by_cases h0:e=0
   ·exact (h2 h0).1
   ·rw [h3 h0];simp [okAr,okIs]
  simp only [X6,D1,D2,Tf,oB,if_true,(RB (a:=r) or_).yes rfl]
 ·rw [if_neg h] at D1
  rw [if_neg (fun q=>h ⟨q.2,q.1⟩)] at D2
  have or_:okAr (.mk [] []):=by simp [okAr,okIs]
  simp only [X6,D1,D2,Tf,oB,if_true,(RB (a:=.mk [] []) or_).yes rfl]
end Go.FL
namespace Go.Proofs.YtbeekjoeaigngaaGreat.scalarTurns
open Go.ChangeShapes Go.WideShapes Go.ChangeAt Go.RowKit Go.FL
theorem own : ownKnob Tryz.prog.godebug=none:=by kernel_rfl
theorem laid : laidOutB Tryz.prog=true:=by kernel_rfl
theorem params : ∀ t ∈ Tryz.f4.params.toList,Tryz.prog.readableRec t=true∧t<Tryz.prog.types.size:=by
 intro t ht
 simp only [Tryz.params4,List.mem_cons,List.not_mem_nil,or_false] at ht
 rcases ht with rfl | rfl <;> exact ⟨by kernel_rfl,of_decide_eq_true (by kernel_rfl)⟩
set_option maxRecDepth 100000 in
theorem lifted (os : Os) (started : os.Started) (H : Type) (enc : TypeId × Value→H) :
  ReturnsInHanded {} Tryz.checked os 4 .any (Rows.scalarTurnsSpec.pre6 enc Tryz.prog Tryz.f4 Rows.scalarTurnsRow.domain false) (Rows.scalarTurnsSpec.post enc Tryz.prog Tryz.f4 false true false false):=by
 refine returnsInHanded_of_change_sized (C:=Tryz.checked) own started (by kernel_rfl) Tryz.func4
  (ChangeSpec.witness6 (enc:=enc) (C:=Tryz.checked) false ⟨#[],#[.int .u8 0,.agg #[.slice none 0 0,.slice none 0 0,.slice none 0 0,.slice none 0 0]],[]⟩ 8 (by kernel_rfl) (by kernel_rfl) (by kernel_rfl) (by kernel_rfl)) ?_
 intro W base args ds gs before hval0 hW hcnd hsz _
 have hval:∀ (j:Nat) t v,Tryz.f4.params[j]?=some t→args[j]?=some v→Value.okWide Tryz.prog W .any base t v:=hval0
 have hW':=hW
 obtain ⟨p,q,hA0,hV,rfl,hfz,hnd⟩:=hW
 have hA:DataW.TrodAll enc Tryz.prog W 0 (fun _=>true) true Tryz.f4.params.toList args.toList ds p:=hA0
 rw [Tryz.params4] at hA hval
 obtain ⟨v0,vs0,d0,ds0,p0,q0,hargs,rfl,rfl,h0,r0⟩:=trodAll_cons hA
 obtain ⟨v1,vs1,d1,ds1,p1,q1,rfl,rfl,rfl,h1,r1⟩:=trodAll_cons r0
 obtain ⟨rfl,rfl,rfl⟩:=trodAll_nil r1
 obtain rfl:args=#[v0,v1]:=by cases args;simp_all
 obtain ⟨rfl,rfl⟩:=trodVars_none hV
 rw [Tryz.params4] at hsz
 have w0:∀ m ∈ DataW.weights Tryz.prog 5 d0,m≤reachBytes:=fun m hm=>by simpa using List.all_eq_true.1 hsz m (DataW.weights_mem_each (j:=0) rfl rfl m hm)
 obtain ⟨a0,o0,e0⟩:=ZN (by kernel_rfl:Tryz.prog.underlying 5=some (.int .u8)) (hval 0 5 v0 rfl rfl) h0
 have w1:∀ m ∈ DataW.weights Tryz.prog 39 d1,m≤reachBytes:=fun m hm=>by simpa using List.all_eq_true.1 hsz m (DataW.weights_mem_each (j:=1) rfl rfl m hm)
 obtain ⟨a1,o1,e1⟩:=WX (v:=v1) ZH (let ⟨cs,h,_⟩:=VI (P:=Tryz.prog) Tryz.underlying39 (hval 1 39 v1 rfl rfl);⟨cs,h⟩) h1 w1
 refine (P4 (Pk (Uo o0 o1)) (.cons e0 (.cons e1 .nil))).mono fun e W' ⟨he,hb⟩=>?_
 subst he
 exact ⟨_,rfl,Q8 hW' rfl (fun _=>rfl) rfl Tryz.underlying4 laid params hb⟩
theorem over : Rows.scalarTurnsRow.holds Tryz.pinned (OpenSpec.ofChange Rows.scalarTurnsSpec) :=
 OpenClaim.holds_of_wide 4 Tryz.f4 rfl rfl rfl rfl rfl rfl rfl ⟨rfl,rfl,rfl,rfl,rfl⟩ rfl rfl rfl rfl rfl (by kernel_rfl) Tryz.func4 (by kernel_rfl)
  (of_decide_eq_true (by kernel_rfl)) (by unfold Func.isWrapper;first | (rw [if_pos (by decide +kernel)];kernel_rfl) | (rw [if_neg (by decide +kernel)];exact ⟨rfl,rfl⟩))
  (fun os started H enc _=>lifted os started H enc)
theorem proved : Rows.ScalarTurnsSaid :=
 over
end Go.Proofs.YtbeekjoeaigngaaGreat.scalarTurns
