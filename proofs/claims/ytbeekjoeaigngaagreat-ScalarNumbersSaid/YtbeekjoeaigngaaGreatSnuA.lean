/-
  The law: its function printed as a pure function, its contract, the plain law, the statement
-/
import Derived.Test.YtbeekjoeaigngaaGreatSnE
import Derived.Test.YtbeekjoeaigngaaGreatRows
set_option linter.unusedVariables false
namespace Go.FL
open Go Go.Proofs
theorem MM {a c:RT} (h1:a.2.1.length≤35184372087808) (h2:a.2.2.length≤35184372087808) : FZ a c=some (decide (a=c)):=if_pos (by rw [dT h1,dT h2];rfl)
theorem TR {p:Rat} (h:AB p) : (ofQ p).2.1.length≤1048576∧(ofQ p).2.2.length≤1048576:=⟨nT h.1 (by decide),nT h.2 (by decide)⟩
def okA (x:RT×Int) : Prop:=x.1.2.1.length≤1048576∧x.1.2.2.length≤1048576
theorem Cp (e:Int) : okA (bad e):=⟨Nat.zero_le _,Nat.zero_le _⟩
theorem El {p:Rat} (h:AB p) (e:Int) : okA (ofQ p,e):=TR h
theorem Hq (p:Rat) : okA (Fd p):=by
 by_cases h:AB p
 ·rw [DE h];exact El h 0
 ·rw [Eo h];exact Cp 8
theorem Zp {p q:Rat} : CV p q=0↔p=q:=by
 unfold CV
 by_cases h:p<q
 ·rw [if_pos h];constructor
  ·intro h;omega
  ·rintro rfl;exact absurd h Rat.lt_irrefl
 ·rw [if_neg h]
  by_cases h2:p=q
  ·rw [if_pos h2];simp [h2]
  ·rw [if_neg h2];simp [h2]
def UO (p q:Rat) : RT×Int:=if p=0 then (ofQ q,0) else if AB (q / p) then (if AB ((q / p).floor : Rat) then (if AB (p * ((q / p).floor : Rat)) then Fd (q-p * ((q / p).floor : Rat)) else bad 8) else bad 8) else bad 8
theorem Up {p q:Rat} (hp:AB p) (hq:AB q) : FY (ofQ p) (ofQ q)=some (UO p q):=by
 unfold FY UO
 rw [JS (Au hp) (Au hq),CL hp hq,oB,if_pos rfl]
 by_cases h0:p=0
 ·rw [if_pos h0,if_pos (C4.2 h0),NS hq,oB]
  have e:(decide (q.num<0)&&decide (q≠0))=decide (q.num<0):=by
   by_cases h:q=0
   ·subst h;rfl
   ·rw [dT (p:=q≠0) h,Bool.and_true]
  show some (((decide (q.num<0)&&decide (q≠0)),_,_),_)=_
  rw [e];rfl
 rw [if_neg h0,if_neg (fun h=>h0 (C4.1 h)),VG hq hp,if_neg h0,oB]
 by_cases h1:AB (q / p)
 ·rw [if_pos h1,DE h1,if_pos rfl,TE h1,oB]
  by_cases h2:AB ((q / p).floor:Rat)
  ·rw [if_pos h2,DE h2,if_pos rfl,VS hp h2,oB]
   by_cases h3:AB (p * ((q / p).floor:Rat))
   ·rw [if_pos h3,DE h3,if_pos rfl,YO hq h3];rfl
   ·rw [if_neg h3,Eo h3,if_neg (by decide)]
  ·rw [if_neg h2,Eo h2,if_neg (by decide),if_neg (by decide)]
 ·rw [if_neg h1,Eo h1,if_neg (by decide),if_neg (by decide),if_neg (by decide)]
theorem OX {a c:Int} {b d:Nat} (hb:b≠0) (hd:d≠0) : mkRat a b≤mkRat c d↔a * d≤c * b:=by
 rw [Rat.mkRat_eq_div,Rat.mkRat_eq_div]
 have hb':(0:Rat)<((b:Int):Rat):=by exact_mod_cast Rat.intCast_lt_intCast.2 (show (0:Int)<b by omega)
 have hd':(0:Rat)<((d:Int):Rat):=by exact_mod_cast Rat.intCast_lt_intCast.2 (show (0:Int)<d by omega)
 have e1:((a:Rat) / (b:Rat)) * ((b:Int):Rat)=a:=Rat.div_mul_cancel (Rat.ne_of_gt hb')
 have e2:((c:Rat) / (d:Rat)) * ((d:Int):Rat)=c:=Rat.div_mul_cancel (Rat.ne_of_gt hd')
 generalize (a:Rat) / (b:Rat)=x at *
 generalize (c:Rat) / (d:Rat)=y at *
 have hbd:=Rat.mul_pos hb' hd'
 have key:a * d≤c * b↔x * (((b:Int):Rat) * ((d:Int):Rat))≤y * (((b:Int):Rat) * ((d:Int):Rat)):=by
  rw [← Rat.intCast_le_intCast,Rat.intCast_mul,Rat.intCast_mul,← e1,← e2]
  have h1:x * ((b:Int):Rat) * ((d:Int):Rat)=x * (((b:Int):Rat) * ((d:Int):Rat)):=by grind
  have h2:y * ((d:Int):Rat) * ((b:Int):Rat)=y * (((b:Int):Rat) * ((d:Int):Rat)):=by grind
  rw [h1,h2]
 rw [key]
 constructor
 ·intro h;exact Rat.mul_le_mul_of_nonneg_right h (Rat.le_of_lt hbd)
 ·intro h
  apply Rat.not_lt.1
  intro h2
  exact absurd (Rat.mul_lt_mul_of_pos_right h2 hbd) (Rat.not_lt.2 h)
def Gs (p:Rat) : Rat:=if p<0 then -p else p
theorem P6 {D:Q3} (h:D.2.2≠0) : Gs (Er D)=mkRat D.2.1 D.2.2:=by
 obtain ⟨b,n,d⟩:=D
 have h0:(0:Rat)≤mkRat n d:=by
  have:=(OX (a:=0) (c:=n) (b:=1) (d:=d) (by decide) h).2 (by omega)
  simpa using this
 show Gs (mkRat (sg b n) d)=mkRat n d
 unfold Gs
 cases b
 ·rw [show sg false n=(n:Int) from rfl,if_neg (Rat.not_lt.2 h0)]
 ·rw [show sg true n=-(n:Int) from rfl,← Rat.neg_mkRat]
  generalize mkRat n d=x at *
  split<;>grind
theorem S3 (p:Rat) : Gs p=mkRat p.num.natAbs p.den:=by
 have:=P6 (D:=q3 p) (Gn p)
 rwa [ER] at this
theorem LX (p:Rat) : Er (false,p.num.natAbs,p.den)=Gs p:=(S3 p).symm
def ZH (p q:Rat) : Rat:=if Gs p<Gs q then Gs q else Gs p
def Gq (c p q:Rat) : Prop:=Gs (p-q)≤c * ZH p q
instance (c p q:Rat) : Decidable (Gq c p q):=inferInstanceAs (Decidable (_≤_))
def Q5 (c p q:Rat) : Int:=if Gq c p q then 0 else CV p q
theorem FU {m n:Nat} : Cf m n<0↔m<n:=by
 unfold Cf;split
 ·simp [*]
 ·split<;>simp [*]
theorem J4 {m n:Nat} : Cf m n≤0↔m≤n:=by
 unfold Cf;split
 ·simp;omega
 ·split
  ·simp;omega
  ·constructor
   ·intro h;omega
   ·intro h;omega
theorem XZ {m n:Nat} : 0<Cf m n↔n<m:=by
 rw [← Nat.not_le,← J4];omega
theorem I0 {p q:Rat} : Gs p<Gs q↔p.num.natAbs * q.den<q.num.natAbs * p.den:=by
 rw [← Rat.not_le,S3,S3,OX q.den_nz p.den_nz]
 rw [← Int.natCast_mul,← Int.natCast_mul]
 omega
theorem Tx {D T:Q3} (hD:sm 2000 D) (hT:sm 2000 T) (h1:D.2.2≠0) (h2:T.2.2≠0) {β:Type} (f:Bool→Option β) :
  (Option.bind ((if (qN T).2=true then (if 0<((List.length (qN T).1.1:Nat):Int) then (some true) else ((BS (qN D).1 (qN T).1).bind fun x16=>((BS (qN T).1 (qN D).1).bind fun x17=>((CN x16 x17).bind fun x18=>(some (decide (0<x18))))))) else ((BS (qN D).1 (qN T).1).bind fun x19=>((BS (qN T).1 (qN D).1).bind fun x20=>((CN x19 x20).bind fun x21=>(some (decide (0<x21))))))):Option (Bool)) f) =
   f (decide (¬mkRat D.2.1 D.2.2≤Er T)):=by
 have c1:=J0 (B4 hD (by decide:2000≤4000)) (B4 hT (by decide:2000≤4000))
 have c2:=J0 (B4 hT (by decide:2000≤4000)) (B4 hD (by decide:2000≤4000))
 have c3:=E6 (nT (Ia hD hT) (by decide)) (nT (Ia hT hD) (by decide))
 rw [c1,oB,c2,oB,c3,oB]
 have e:decide (¬mkRat D.2.1 D.2.2≤Er T)=if T.1=true then (if T.2.1≠0 then true else decide (0<Cf (D.2.1 * T.2.2) (T.2.1 * D.2.2))) else decide (0<Cf (D.2.1 * T.2.2) (T.2.1 * D.2.2)):=by
  simp only [OX h1 h2]
  obtain ⟨b,n,d⟩:=T
  obtain ⟨b2,n2,d2⟩:=D
  show decide (¬((n2:Int) * d≤sg b n * d2))=if b=true then (if n≠0 then true else decide (0<Cf (n2 * d) (n * d2))) else decide (0<Cf (n2 * d) (n * d2))
  have hd2:d2≠0:=h1
  simp only [XZ]
  cases b
  ·rw [if_neg (by decide),show sg false n=(n:Int) from rfl,← Int.natCast_mul,← Int.natCast_mul]
   simp only [decide_eq_decide];omega
  ·rw [if_pos rfl,show sg true n=-(n:Int) from rfl,Int.neg_mul,← Int.natCast_mul,← Int.natCast_mul]
   by_cases hn:n=0
   ·subst hn;rw [if_neg (by simp)]
    simp only [decide_eq_decide];omega
   ·rw [if_pos hn]
    have:0<n * d2:=Nat.mul_pos (Nat.pos_of_ne_zero hn) (Nat.pos_of_ne_zero hd2)
    simp only [decide_eq_true_eq];omega
 rw [e]
 show Option.bind (if T.1=true then (if 0<((List.length (Ac T.2.1):Nat):Int) then some true else some _) else some _) f=_
 by_cases hb:T.1=true
 ·rw [if_pos hb,if_pos hb]
  by_cases hn:T.2.1≠0
  ·rw [if_pos hn,if_pos (Fl.2 hn)];rfl
  ·rw [if_neg hn,if_neg (mt Fl.1 hn)];rfl
 ·rw [if_neg hb,if_neg hb];rfl
theorem VT {c p q:Rat} (hc:AB c) (hp:AB p) (hq:AB q) : (AM (ofQ c)&&(AM (ofQ p)&&AM (ofQ q)))=true:=by rw [Ba hc,Ba hp,Ba hq];rfl
abbrev Gb (p q:Rat) : Q3:=ED (q3 p) (!(q3 q).1,(q3 q).2.1,(q3 q).2.2)
theorem PT (p q:Rat) : Er (Gb p q)=p-q∧(Gb p q).2.2≠0:=by
 have:=LW (x:=q3 p) (y:=(!(q3 q).1,(q3 q).2.1,(q3 q).2.2)) (Gn p) (Gn q)
 rwa [Rl,ER,ER,← Rat.sub_eq_add_neg] at this
theorem V4 {p q:Rat} (hp:AB p) (hq:AB q) : sm 65 (Gb p q):=Uh (F5 hp) (M9 (F5 hq))
theorem Aan {c p q:Rat} (hc:AB c) (hp:AB p) (hq:AB q) : Fj (ofQ c) (ofQ p) (ofQ q)=some (Q5 c p q):=by
 unfold Fj
 have c1:=J0 (B4 (F5 hp) (by decide:32≤4000)) (B4 (F5 hq) (by decide:32≤4000))
 have c2:=J0 (B4 (F5 hq) (by decide:32≤4000)) (B4 (F5 hp) (by decide:32≤4000))
 have c3:=E6 (nT (Ia (F5 hp) (F5 hq)) (by decide)) (nT (Ia (F5 hq) (F5 hp)) (by decide))
 have c4:=Vm (B4 (F5 hp) (by decide:32≤4000)) (M9 (B4 (F5 hq) (by decide:32≤4000)))
 have each:∀ m:Rat,AB m→G4 (qN (q3 c)) ((qN (q3 m)).1,false)=some (qN (Ff (q3 c) (false,m.num.natAbs,m.den)))∧sm 2000 (Ff (q3 c) (false,m.num.natAbs,m.den))∧Er (Ff (q3 c) (false,m.num.natAbs,m.den))=c * Gs m∧(Ff (q3 c) (false,m.num.natAbs,m.den)).2.2≠0:=fun m hm=>by
  have hm':sm 32 (false,m.num.natAbs,m.den):=hm
  have h1:=FJ (x:=q3 c) (y:=(false,m.num.natAbs,m.den)) (Gn c) m.den_nz
  rw [LX,ER] at h1
  exact ⟨TZ (y:=(false,m.num.natAbs,m.den)) (B4 (F5 hc) (by decide)) (B4 hm' (by decide)),B4 (Rx (F5 hc) hm') (by decide),h1.1,h1.2⟩
 have hD:=B4 (V4 hp hq) (by decide:65≤2000)
 obtain ⟨dv,dn⟩:=PT p q
 have da:mkRat (Gb p q).2.1 (Gb p q).2.2=Gs (p-q):=by rw [← dv,P6 dn]
 rw [X1 (Au hc) (Au hp) (Au hq),VT hc hp hq,oB,if_pos rfl,Fh,oB,Fh,oB,Xu,oB,c4,oB,oB,oB,c1,oB,oB,c2,oB,c3,oB]
 have fin:∀ m:Rat,ZH p q=Gs m→(if decide (¬mkRat (Gb p q).2.1 (Gb p q).2.2≤Er (Ff (q3 c) (false,m.num.natAbs,m.den)))=true then (Dh (ofQ p) (ofQ q)).bind fun x=>some x else some 0)=some (Q5 c p q):=fun m e=>by
  have hv:=FJ (x:=q3 c) (y:=(false,m.num.natAbs,m.den)) (Gn c) m.den_nz
  rw [LX,ER] at hv
  rw [da,hv.1,PR hp hq]
  have hw:Gq c p q↔Gs (p-q)≤c * Gs m:=by unfold Gq;rw [e]
  unfold Q5
  by_cases h:Gs (p-q)≤c * Gs m
  ·rw [if_neg (by simp [h]),if_pos (hw.2 h)]
  ·rw [if_pos (by simp only [h,not_false_eq_true,decide_true]),if_neg (mt hw.1 h)];rfl
 by_cases hlt:Gs p<Gs q
 ·rw [if_pos (FU.2 (I0.1 hlt)),oB,Fh,oB]
  obtain ⟨t1,t2,t3,t4⟩:=each q hq
  rw [t1,oB,Tx hD t2 dn t4]
  exact fin q (if_pos hlt)
 ·rw [if_neg (fun h=>hlt (I0.2 (FU.1 h))),Fh,oB]
  obtain ⟨t1,t2,t3,t4⟩:=each p hp
  rw [t1,oB,Tx hD t2 dn t4]
  exact fin p (if_neg hlt)
theorem U5 {a b c:RT} (ha:Dc a=true) (hb:Dc b=true) (hc:Dc c=true) {β:Type} (f:Bool→Option β) :
  ((AJ a).bind fun x1=>(Option.bind ((if x1=true then ((AJ b).bind fun x3=>(if x3=true then ((AJ c).bind fun x4=>(some (!x4))) else (some true))) else (some true)):Option (Bool)) f))=f (!(AM a&&(AM b&&AM c))):=by
 rw [A1 ha,oB,A1 hb,oB,A1 hc,oB]
 cases AM a<;>cases AM b<;>rfl
theorem NB (p q:Rat) : I7 (p.num.natAbs * q.den) (decide (p.num<0)) (q.num.natAbs * p.den) (!decide (q.num<0))=((Gb p q).2.1,(Gb p q).1)∧(Gb p q).2.2=p.den * q.den:=by
 unfold Gb ED I7
 constructor
 ·show (if decide (p.num<0)=(!decide (q.num<0)) then _ else _)=((if _ then _ else _:Q3).2.1,(if _ then _ else _:Q3).1)
  split
  ·rfl
  ·split<;>rfl
 ·show (if _ then _ else _:Q3).2.2=_
  split
  ·rfl
  ·split<;>rfl
theorem PL {n:Nat} : ((List.length (Ac n) : Nat) : Int)=0↔n=0:=by
 have:=Fl (n:=n)
 omega
theorem X4 {p q:Rat} : CV p q=if (Gb p q).2.1=0 then 0 else if (Gb p q).1=true then -1 else 1:=by
 obtain ⟨dv,dn⟩:=PT p q
 generalize Gb p q=D at *
 obtain ⟨b,n,d⟩:=D
 have dv':mkRat (sg b n) d=p-q:=dv
 have hd:d≠0:=dn
 have h1:=OX (a:=sg b n) (c:=0) (b:=d) (d:=1) hd (by decide)
 have h2:=OX (a:=0) (c:=sg b n) (b:=1) (d:=d) (by decide) hd
 rw [dv'] at h1 h2
 have h3:mkRat 0 1=0:=by rfl
 rw [h3] at h1 h2
 show CV p q=if n=0 then 0 else if b=true then -1 else 1
 unfold CV
 have k1:p<q↔sg b n<0:=by
  have:p<q↔¬(0≤p-q):=by grind
  rw [this,h2];simp
 have k2:p=q↔sg b n=0:=by
  have:p=q↔(p-q≤0∧0≤p-q):=by
   constructor
   ·rintro rfl;grind
   ·intro h;grind
  rw [this,h1,h2];simp;omega
 simp only [k1,k2]
 cases b
 ·rw [show sg false n=(n:Int) from rfl,if_neg (by omega)]
  by_cases h:n=0
  ·rw [if_pos h,if_pos (by omega)]
  ·rw [if_neg h,if_neg (by omega),if_neg (by decide)]
 ·rw [show sg true n=-(n:Int) from rfl,if_pos (rfl:true=true)]
  by_cases h:n=0
  ·rw [if_pos h,if_neg (by omega),if_pos (by omega)]
  ·rw [if_neg h,if_pos (by omega)]
theorem HJ {p q:Rat} (hp:AB p) (hq:AB q) : Cu (ofQ p) (ofQ q)=some (CV p q):=by
 unfold Cu
 have l1:(Ac (p.num.natAbs * q.den)).length≤64:=I9 hp.1 hq.2
 have l2:(Ac (q.num.natAbs * p.den)).length≤64:=I9 hq.1 hp.2
 have m1:BJ (ofQ p).2.1 (ofQ q).2.2=some (Ac (p.num.natAbs * q.den)):=B9 (nT hp.1 (by decide)) (nT hq.2 (by decide))
 have m2:BJ (ofQ q).2.1 (ofQ p).2.2=some (Ac (q.num.natAbs * p.den)):=B9 (nT hq.1 (by decide)) (nT hp.2 (by decide))
 have m4:Cq (Ac (p.num.natAbs * q.den)) (ofQ p).1 (Ac (q.num.natAbs * p.den)) (!(ofQ q).1)=some (Ac (Gb p q).2.1,(Gb p q).1):=by
  have:=Mm (decide (p.num<0)) (!decide (q.num<0)) (nT l1 (by decide)) (nT l2 (by decide))
  rw [(NB p q).1] at this
  exact this
 rw [GJ (Au hp) (Au hq),CL hp hq,if_neg (by decide),m1,oB,m2,oB,m4,oB,X4]
 show (if ((List.length (Ac (Gb p q).2.1):Nat):Int)=0 then some 0 else if (Gb p q).1=true then some (-1) else some 1)=_
 simp only [PL]
 split
 ·rfl
 ·split<;>rfl
theorem RM {c p q m:Rat} (hc:AB c) (hp:AB p) (hq:AB q) (hm:AB m) (e:ZH p q=Gs m) {β:Type} (f:Bool→Option β) :
  ((BJ (Ac (Gb p q).2.1) (ofQ c).2.2).bind fun x12=>((BJ x12 (ofQ m).2.2).bind fun x13=>((BJ (ofQ c).2.1 (ofQ m).2.1).bind fun x14=>((BJ x14 (Ac (p.den * q.den))).bind fun x15=>(Option.bind ((if (ofQ c).1=true then (if ((List.length (Ac (Gb p q).2.1):Nat):Int)=0 then (if ((List.length (ofQ m).2.1:Nat):Int)=0 then (some true) else (if (ofQ c).1=true then (if ((List.length x13:Nat):Int)=0 then (some (decide (((List.length x15:Nat):Int)=0))) else (some false)) else (some false))) else (if (ofQ c).1=true then (if ((List.length x13:Nat):Int)=0 then (some (decide (((List.length x15:Nat):Int)=0))) else (some false)) else (some false))) else ((Cw x13 x15).bind fun x17=>(if x17≤0 then (some true) else (if ((List.length (Ac (Gb p q).2.1):Nat):Int)=0 then (if ((List.length (ofQ m).2.1:Nat):Int)=0 then (some true) else (if (ofQ c).1=true then (if ((List.length x13:Nat):Int)=0 then (some (decide (((List.length x15:Nat):Int)=0))) else (some false)) else (some false))) else (if (ofQ c).1=true then (if ((List.length x13:Nat):Int)=0 then (some (decide (((List.length x15:Nat):Int)=0))) else (some false)) else (some false)))))):Option (Bool)) f)))))=f (decide (Gq c p q)):=by
 obtain ⟨dv,dn⟩:=PT p q
 have da:mkRat (Gb p q).2.1 (Gb p q).2.2=Gs (p-q):=by rw [← dv,P6 dn]
 have hd:=(NB p q).2
 rw [hd] at da dn
 have hS:=(V4 hp hq).1
 generalize (Gb p q).2.1=S at *
 have l1:(Ac (S * c.den)).length≤400:=nT (I9 (k:=100) (nT hS (by decide)) (nT hc.2 (by decide))) (by decide)
 have l2:(Ac (S * c.den * m.den)).length≤800:=nT (I9 (k:=400) l1 (nT hm.2 (by decide))) (by decide)
 have l3:(Ac (c.num.natAbs * m.num.natAbs)).length≤64:=I9 hc.1 hm.1
 have l4:(Ac (p.den * q.den)).length≤64:=I9 hp.2 hq.2
 have l5:(Ac (c.num.natAbs * m.num.natAbs * (p.den * q.den))).length≤128:=I9 l3 l4
 have e1:BJ (Ac S) (ofQ c).2.2=some (Ac (S * c.den)):=B9 (nT hS (by decide)) (nT hc.2 (by decide))
 have e2:BJ (Ac (S * c.den)) (ofQ m).2.2=some (Ac (S * c.den * m.den)):=B9 (nT l1 (by decide)) (nT hm.2 (by decide))
 have e3:BJ (ofQ c).2.1 (ofQ m).2.1=some (Ac (c.num.natAbs * m.num.natAbs)):=B9 (nT hc.1 (by decide)) (nT hm.1 (by decide))
 have e4:BJ (Ac (c.num.natAbs * m.num.natAbs)) (Ac (p.den * q.den))=some (Ac (c.num.natAbs * m.num.natAbs * (p.den * q.den))):=B9 (nT l3 (by decide)) (nT l4 (by decide))
 have e5:=Ee (nT l2 (by decide)) (nT l5 (by decide))
 rw [e1,oB,e2,oB,e3,oB,e4,oB,e5,oB]
 show Option.bind (if decide (c.num<0)=true then (if ((List.length (Ac S):Nat):Int)=0 then (if ((List.length (Ac m.num.natAbs):Nat):Int)=0 then (some true) else (if decide (c.num<0)=true then (if ((List.length (Ac (S * c.den * m.den)):Nat):Int)=0 then (some (decide (((List.length (Ac (c.num.natAbs * m.num.natAbs * (p.den * q.den))):Nat):Int)=0))) else (some false)) else (some false))) else (if decide (c.num<0)=true then (if ((List.length (Ac (S * c.den * m.den)):Nat):Int)=0 then (some (decide (((List.length (Ac (c.num.natAbs * m.num.natAbs * (p.den * q.den))):Nat):Int)=0))) else (some false)) else (some false))) else (if Cf (S * c.den * m.den) (c.num.natAbs * m.num.natAbs * (p.den * q.den))≤0 then (some true) else (if ((List.length (Ac S):Nat):Int)=0 then (if ((List.length (Ac m.num.natAbs):Nat):Int)=0 then (some true) else (if decide (c.num<0)=true then (if ((List.length (Ac (S * c.den * m.den)):Nat):Int)=0 then (some (decide (((List.length (Ac (c.num.natAbs * m.num.natAbs * (p.den * q.den))):Nat):Int)=0))) else (some false)) else (some false))) else (if decide (c.num<0)=true then (if ((List.length (Ac (S * c.den * m.den)):Nat):Int)=0 then (some (decide (((List.length (Ac (c.num.natAbs * m.num.natAbs * (p.den * q.den))):Nat):Int)=0))) else (some false)) else (some false))))) f=f (decide (Gq c p q))
 simp only [PL,J4,decide_eq_true_eq]
 have hw:Gq c p q↔((S:Int) * (c.den * m.den:Nat)≤(c.num * m.num.natAbs) * ((p.den * q.den:Nat):Int)):=by
  unfold Gq
  have hv:=FJ (x:=q3 c) (y:=(false,m.num.natAbs,m.den)) (Gn c) m.den_nz
  rw [LX,ER] at hv
  rw [e,← da,← hv.1,OX dn hv.2]
  show (S:Int) * ((c.den * m.den:Nat):Int)≤sg (decide (c.num<0) != false) (c.num.natAbs * m.num.natAbs) * ((p.den * q.den:Nat):Int)↔_
  rw [Bool.bne_false,SC,Ju]
 have cd:=c.den_nz
 have md:=m.den_nz
 have hcm:0<c.den * m.den:=Nat.mul_pos (Nat.pos_of_ne_zero cd) (Nat.pos_of_ne_zero md)
 have hdd:0<p.den * q.den:=Nat.pos_of_ne_zero dn
 by_cases hneg:c.num<0
 ·rw [if_pos hneg]
  simp only [if_pos hneg]
  have hcn:0<c.num.natAbs:=by omega
  have hw2:Gq c p q↔S=0∧m.num.natAbs=0:=by
   rw [hw]
   constructor
   ·intro h
    have h1:(0:Int)≤(S:Int) * (c.den * m.den:Nat):=Int.mul_nonneg (by omega) (by omega)
    have h2:c.num * m.num.natAbs * ((p.den * q.den:Nat):Int)≤0:=Int.mul_nonpos_of_nonpos_of_nonneg (Int.mul_nonpos_of_nonpos_of_nonneg (by omega) (by omega)) (by omega)
    constructor
    ·have h3:(S:Int) * (c.den * m.den:Nat)=0:=by omega
     rcases Int.mul_eq_zero.1 h3 with h4|h4
     ·omega
     ·omega
    ·have h3:c.num * m.num.natAbs * ((p.den * q.den:Nat):Int)=0:=by omega
     rcases Int.mul_eq_zero.1 h3 with h4|h4
     ·rcases Int.mul_eq_zero.1 h4 with h5|h5
      ·omega
      ·omega
     ·omega
   ·rintro ⟨h1,h2⟩
    rw [h1,h2];simp
  by_cases hS0:S=0
  ·rw [if_pos hS0]
   by_cases hm0:m.num.natAbs=0
   ·rw [if_pos hm0,dT (hw2.2 ⟨hS0,hm0⟩)];rfl
   ·rw [if_neg hm0,if_pos (by rw [hS0];simp),dF (fun h=>hm0 (hw2.1 h).2),dF]
    ·rfl
    ·intro h
     rcases Nat.mul_eq_zero.1 h with h|h
     ·rcases Nat.mul_eq_zero.1 h with h|h<;>omega
     ·omega
  ·rw [if_neg hS0,if_neg,dF (fun h=>hS0 (hw2.1 h).1)]
   ·rfl
   ·intro h
    rcases Nat.mul_eq_zero.1 h with h|h
    ·rcases Nat.mul_eq_zero.1 h with h|h<;>omega
    ·omega
 ·rw [if_neg hneg]
  simp only [if_neg hneg]
  have hw2:Gq c p q↔S * c.den * m.den≤c.num.natAbs * m.num.natAbs * (p.den * q.den):=by
   rw [hw]
   have:c.num=(c.num.natAbs:Int):=by omega
   rw [this,← Int.natCast_mul,← Int.natCast_mul,← Int.natCast_mul,Int.ofNat_le,Nat.mul_assoc S]
   simp
  by_cases hle:S * c.den * m.den≤c.num.natAbs * m.num.natAbs * (p.den * q.den)
  ·rw [if_pos hle,dT (hw2.2 hle)];rfl
  ·rw [if_neg hle,dF (mt hw2.1 hle),if_neg (fun h=>hle (by rw [h];simp))];rfl
theorem UY {c p q:Rat} (hc:AB c) (hp:AB p) (hq:AB q) : DY (ofQ c) (ofQ p) (ofQ q)=some (Q5 c p q):=by
 unfold DY
 have l1:(Ac (p.num.natAbs * q.den)).length≤64:=I9 hp.1 hq.2
 have l2:(Ac (q.num.natAbs * p.den)).length≤64:=I9 hq.1 hp.2
 have m1:BJ (ofQ p).2.1 (ofQ q).2.2=some (Ac (p.num.natAbs * q.den)):=B9 (nT hp.1 (by decide)) (nT hq.2 (by decide))
 have m2:BJ (ofQ q).2.1 (ofQ p).2.2=some (Ac (q.num.natAbs * p.den)):=B9 (nT hq.1 (by decide)) (nT hp.2 (by decide))
 have m3:BJ (ofQ p).2.2 (ofQ q).2.2=some (Ac (p.den * q.den)):=B9 (nT hp.2 (by decide)) (nT hq.2 (by decide))
 have m4:Cq (Ac (p.num.natAbs * q.den)) (ofQ p).1 (Ac (q.num.natAbs * p.den)) (!(ofQ q).1)=some (Ac (Gb p q).2.1,(Gb p q).1):=by
  have:=Mm (decide (p.num<0)) (!decide (q.num<0)) (nT l1 (by decide)) (nT l2 (by decide))
  rw [(NB p q).1] at this
  exact this
 have m5:=Ee (nT l1 (by decide)) (nT l2 (by decide))
 rw [U5 (Au hc) (Au hp) (Au hq),VT hc hp hq,if_neg (by decide),m1,oB,m2,oB,m4,oB,m3,oB,oB,oB,m5,oB,HJ hp hq]
 have fin:∀ {b:Bool},b=decide (Gq c p q)→(if b=true then some 0 else (some (CV p q)).bind fun x=>some x)=some (Q5 c p q):=by
  rintro _ rfl
  unfold Q5
  by_cases h:Gq c p q
  ·rw [if_pos (dT h),if_pos h]
  ·rw [if_neg (by simp [h]),if_neg h];rfl
 by_cases hlt:Gs p<Gs q
 ·rw [if_pos (FU.2 (I0.1 hlt)),RM hc hp hq hq (if_pos hlt)]
  exact fin rfl
 ·rw [if_neg (fun h=>hlt (I0.2 (FU.1 h))),RM hc hp hq hp (if_neg hlt)]
  exact fin rfl
theorem SG {m n:Nat} (hm:(Ac m).length≤1048576) (hn:(Ac n).length≤1048576) : Ho (Ac m) (Ac n)=some (decide (m=n)):=by
 rw [Px (AE hm) (AE (by omega))]
 congr 1
 exact decide_eq_decide.2 ⟨Ji,fun h=>by rw [h]⟩
theorem Xh {n:Nat} (h:BT n) : n<4294967296 ^ 32:=by
 have:=A5 (An n)
 rw [Ag] at this
 exact nL this (Nat.pow_le_pow_right (by decide) h)
def ch : Nat→Nat→Nat
 | _,0=>1
 | 0,_+1=>0
 | n+1,k+1=>ch n k+ch n (k+1)
theorem Gy (n:Nat) : ch n 0=1:=by cases n<;>rfl
theorem KV : ∀ (n k:Nat),(ch n (k+1) : Int) * (k+1)=ch n k * ((n:Int)-k)
 | 0,0=>by simp [ch]
 | 0,k+1=>by simp [ch]
 | n+1,0=>by
  have ih:=KV n 0
  rw [Gy] at ih ⊢
  simp only [ch,Gy]
  push_cast at ih ⊢
  grind
 | n+1,k+1=>by
  have i1:=KV n k
  have i2:=KV n (k+1)
  simp only [ch]
  push_cast at i1 i2 ⊢
  grind
theorem WL {n j:Nat} (h1:1≤j) (h2:j≤n) : ch n (j-1) * (n+1-j) / j=ch n j:=by
 have:=KV n (j-1)
 have e:ch n (j-1) * (n+1-j)=ch n j * j:=by
  obtain ⟨i,rfl⟩:∃ i,j=i+1:=⟨j-1,by omega⟩
  rw [Nat.add_sub_cancel] at this ⊢
  have h3:((n+1-(i+1):Nat):Int)=(n:Int)-i:=by omega
  apply Int.natCast_inj.1
  rw [Int.natCast_mul,Int.natCast_mul,h3,← this];rfl
 rw [e,Nat.mul_div_cancel _ (by omega)]
theorem YT {a b:Nat} (ha:(Ac a).length≤40000) (hb:(Ac b).length≤40000) : JA [Ac a,Ac b]=some (Ac (a * b)):=by
 rw [Ss (by simp [AE ha,AE hb]) (by simp)]
 simp [EF,Ag]
theorem Rg {m n:Nat} (hm:(Ac m).length≤500000) (hn:(Ac n).length≤500000) : N1 (Ac m) (Ac n)=some (Ac (HR m n),decide (n≤m)):=by
 unfold N1
 rw [if_pos (by rw [AE hm,AE hn];rfl),Ag,Ag]
theorem Ul {m n:Nat} (hm:(Ac m).length≤500000) (hn:(Ac n).length≤500000) (h:n≠0) : HA (Ac m) (Ac n)=some (Ac (m / n),Ac (m % n),true):=by
 unfold HA
 rw [if_pos (by rw [AE hm,AE hn];rfl),Ag,Ag,Qx h,dT h]
theorem few {n:Nat} (h:n<4294967296) (k:Nat) : (Ac n).length≤k+1:=nT (Yg h) (by omega)
theorem Va (n:Nat) : ofQ (((n:Nat) : Int) : Rat)=(false,Ac n,[1]):=by
 unfold ofQ
 rw [Rat.num_intCast,Rat.den_intCast,Bb]
 simp
theorem YE {α β:Type} (k:α) (b:α→β) : jn k b=b k:=rfl
theorem OD {p q:Rat} (hp:AB p) (hq:AB q) : EA (ofQ p) (ofQ q)=some (UO p q):=by
 unfold EA UO
 rw [GJ (Au hp) (Au hq),CL hp hq,if_neg (by decide)]
 by_cases h0:p=0
 ·rw [if_pos h0,if_pos (C4.2 h0),IE hq];rfl
 rw [if_neg h0,if_neg (fun h=>h0 (C4.1 h)),Me hq hp,if_neg h0,oB]
 by_cases h1:AB (q / p)
 ·rw [if_pos h1,DE h1,if_pos rfl,Jl h1,oB]
  by_cases h2:AB ((q / p).floor:Rat)
  ·rw [if_pos h2,DE h2,if_pos rfl,MP hp h2,oB]
   by_cases h3:AB (p * ((q / p).floor:Rat))
   ·rw [if_pos h3,DE h3,if_pos rfl,Ib h3,oB,VL hq (Jd h3),← Rat.sub_eq_add_neg];rfl
   ·rw [if_neg h3,Eo h3,if_neg (by decide)]
  ·rw [if_neg h2,Eo h2,if_neg (by decide)]
 ·rw [if_neg h1,Eo h1,if_neg (by decide)]
theorem We {p q:Rat} (hq:AB q) : okA (UO p q):=by
 unfold UO
 split
 ·exact El hq 0
 ·split
  ·split
   ·split
    ·exact Hq _
    ·exact Cp 8
   ·exact Cp 8
  ·exact Cp 8
def fac : Nat→Nat
 | 0=>1
 | n+1=>(n+1) * fac n
theorem WO : ∀ {m n:Nat},m≤n→fac m≤fac n
 | m,0,h=>by rw [show m=0 by omega];exact Nat.le_refl _
 | m,n+1,h=>by
  by_cases e:m=n+1
  ·rw [e];exact Nat.le_refl _
  ·exact nT (WO (show m≤n by omega)) (by rw [fac];exact Nat.le_mul_of_pos_left _ (Nat.succ_pos n))
def Xc (n:Nat) : RT×Int:=if BT (fac n) then ((false,Ac (fac n),[1]),0) else bad 8
theorem VI : ¬BT (fac 200):=by
 unfold BT
 intro h
 have:=A5 (An (fac 200))
 rw [Ag] at this
 have h2:fac 200<4294967296 ^ 32:=nL this (Nat.pow_le_pow_right (by decide) h)
 exact absurd h2 (by decide +kernel)
theorem PI {m n:Nat} (h:m≤n) (hs:BT (fac n)) : BT (fac m):=nT (Cc (WO h)) hs
theorem Q7 {a:RT} {n:Nat} (ha:a.2.1=Ac n) (hn:(Ac n).length≤32) : ∀ (d j k:Nat) (s:RT) (e:Int),d=201-j→1≤j→j≤201→j-1≤n→BT (fac (j-1))→d<k →
  Cb a k s e (Ac (fac (j-1))) (Ac j)=some (Xc n)
 | 0,j,k,s,e,h1,h2,h3,h4,h5,h6=>by
  have:j=201:=by omega
  subst this
  exact absurd h5 VI
 | d+1,j,k,s,e,h1,h2,h3,h4,h5,h6=>by
  obtain ⟨k,rfl⟩:∃ m,k=m+1:=⟨k-1,by omega⟩
  rw [Cb,ha,E6 (few (by omega) _) (nT hn (by decide)),oB]
  by_cases hj:j≤n
  ·have hf:fac (j-1) * j=fac j:=by
    obtain ⟨i,rfl⟩:∃ i,j=i+1:=⟨j-1,by omega⟩
    rw [Nat.add_sub_cancel,fac,Nat.mul_comm]
   rw [if_pos (J4.2 hj),YT (nT h5 (by decide)) (few (by omega) _),oB,hf]
   by_cases hs:BT (fac j)
   ·have hs':(Ac (fac j)).length≤32:=hs
    rw [if_neg (by omega),C5,oB,Ng (few (by omega) _),oB]
    exact Q7 ha hn d (j+1) k s e (by omega) (by omega) (by omega) hj (by exact hs) (by omega)
   ·have hs':¬(Ac (fac j)).length≤32:=hs
    rw [if_pos (by omega)]
    unfold Xc
    rw [if_neg (fun h=>hs (PI hj h))]
  ·have hjn:j-1=n:=by omega
   rw [if_neg (mt J4.1 hj),C5,oB,hjn]
   unfold Xc
   rw [hjn] at h5
   rw [if_pos h5]
def CF (p:Rat) : Bool:=decide (p.den=1)&&!decide (p.num<0)
theorem KN {p:Rat} (hp:AB p) : DW (ofQ p)=some (CF p):=by
 unfold DW CF
 rw [JW hp];rfl
theorem Iv {p:Rat} (hp:AB p) : DP (ofQ p)=some (CF p):=by
 unfold DP CF
 rw [Ld (Au hp),JW hp];rfl
def Ps (p:Rat) : RT×Int:=if CF p=true then Xc p.num.natAbs else bad 3
theorem RV {p:Rat} (hp:AB p) : EJ (ofQ p)=some (Ps p):=by
 unfold EJ Ps
 rw [Bw (Au hp),Ba hp,oB,if_pos rfl,KN hp,oB]
 by_cases h:CF p=true
 ·rw [if_pos h,if_pos h,C5,oB,oB]
  have:=Q7 (a:=ofQ p) (n:=p.num.natAbs) rfl hp.1 200 1 Cm (false,[],[]) 0 rfl (by decide) (by decide) (by omega) (by show (Ac 1).length≤32;rw [Bb];decide) (Nat.lt_trans (show 200<1000 by decide) (by unfold Cm;omega))
  rw [Nat.sub_self,show Ac (fac 0)=[1] from Bb,Bb] at this
  exact this
 ·rw [if_neg h,if_neg h]
theorem W7 : ∀ n : Nat,n<4294967296→fac n≤4294967295 ^ n
 | 0,_=>by decide
 | n+1,h=>by
  rw [fac,Nat.pow_succ,Nat.mul_comm]
  exact Nat.mul_le_mul (W7 n (by omega)) (by omega)
theorem Tv {n:Nat} (h:n≤1000) : (Ac (fac n)).length≤n+1:=Bh (by
 refine Nat.lt_of_le_of_lt (W7 n (by omega)) ?_
 rw [Nat.pow_succ]
 have h1:4294967295 ^ n≤4294967296 ^ n:=Nat.pow_le_pow_left (by decide) n
 have h2:0<4294967296 ^ n:=Nat.pow_pos (by decide)
 omega)
theorem Ln {n:Nat} {b:Bool} (hn:n≤1000) : ∀ (d i k:Nat),d=1001-i→2≤i→i≤1001→i≤n+1∨i=2→d<k→Bz ((n:Int),b) k (Ac (fac (i-1))) i=((Cn false (Ac (fac n)) [1]).bind fun x10=>(some (x10.1,x10.2)))
 | 0,i,k,h1,h2,h3,h4,h5=>by
  obtain ⟨k,rfl⟩:∃ m,k=m+1:=⟨k-1,by omega⟩
  have hi:i=1001:=by omega
  rw [Bz,if_neg (by show ¬(i:Int)≤n;omega),BU,oB,show i-1=n by omega]
 | d+1,i,k,h1,h2,h3,h4,h5=>by
  obtain ⟨k,rfl⟩:∃ m,k=m+1:=⟨k-1,by omega⟩
  rw [Bz]
  by_cases hi:i≤n
  ·have hf:fac (i-1) * i=fac i:=by
    obtain ⟨j,rfl⟩:∃ j,i=j+1:=⟨i-1,by omega⟩
    rw [Nat.add_sub_cancel,fac,Nat.mul_comm]
   have hl:=Tv (n:=i-1) (by omega)
   have hw:IntKind.wrap .u64 (i:Int)=(i:Int):=FD _ (by omega) (by omega)
   have ho:RN (i:Int)=some (Ac i):=by unfold RN;rw [if_pos (by omega),Int.toNat_natCast]
   rw [if_pos (show (i:Int)≤n by omega),hw,ho,oB,B9 (by omega) (few (by omega) _),oB,hf,show w64 ((i:Int)+1)=((i+1:Nat):Int) by rw [Xs (by omega) (by omega)];rfl]
   exact Ln hn d (i+1) k (by omega) (by omega) (by omega) (.inl (by omega)) (by omega)
  ·rw [if_neg (show ¬(i:Int)≤n by omega),BU,oB]
   have:fac (i-1)=fac n:=by
    rcases h4 with h|h
    ·rw [show i-1=n by omega]
    ·subst h
     match n,hi with
     | 0,_=>rfl
     | 1,_=>rfl
     | n+2,hi=>omega
   rw [this]
theorem Rc (n:Nat) : Fd (mkRat (sg false n) 1)=if BT n then ((false,Ac n,[1]),0) else bad 8:=by
 have e:mkRat (sg false n) 1=(((n:Nat):Int):Rat):=Pc _
 rw [e]
 have hf:AB (((n:Nat):Int):Rat)↔BT n:=by
  unfold AB
  rw [Rat.num_intCast,Rat.den_intCast,Int.natAbs_natCast]
  exact ⟨fun h=>h.1,fun h=>⟨h,Lm.2⟩⟩
 by_cases h:BT n
 ·rw [if_pos h,DE (hf.2 h),Va]
 ·rw [if_neg h,Eo (mt hf.1 h)]
theorem MW {p:Rat} (hp:AB p) : Dz (ofQ p)=some (Ps p):=by
 unfold Dz Ps
 rw [A1 (Au hp),Ba hp,oB,if_pos rfl,Iv hp,oB]
 by_cases h:CF p=true
 ·have hs:Ht (ofQ p).2.1=some (((if AF p.num.natAbs≤63 then p.num.natAbs else 0:Nat):Int),decide (AF p.num.natAbs≤63)):=by
   show Ht (Ac p.num.natAbs)=_
   unfold Ht
   rw [if_pos (AE (nT hp.1 (by decide))),Gg,Ag]
  rw [if_pos h,if_pos h,hs,oB]
  generalize p.num.natAbs=n at *
  have b63:AF n≤63↔n<9223372036854775808:=BL
  by_cases hb:AF n≤63∧n≤1000
  ·rw [if_pos hb.1,dT hb.1,if_neg (by simp;omega),BU,oB]
   have:=Ln (n:=n) (b:=true) hb.2 999 2 Cm rfl (by decide) (by decide) (.inr rfl) (Nat.lt_trans (show 999<1000 by decide) (by unfold Cm;omega))
   rw [show Ac (fac (2-1))=[1] from Bb] at this
   refine this.trans ?_
   rw [show ([1]:List Nat)=Ac 1 from Bb.symm,E3 (nT (Tv hb.2) (by omega)) (by rw [Bb];decide) (by decide),Rc]
   rfl
  ·have hbig:¬BT (fac n):=fun hs=>VI (PI (by rw [b63] at hb;omega) hs)
   have:Xc n=bad 8:=if_neg hbig
   rw [this]
   by_cases h1:AF n≤63
   ·rw [if_pos h1,dT h1,if_pos (by simp;omega)]
   ·rw [dF h1,if_pos (by simp)]
 ·rw [if_neg h,if_neg h]
def XX (m:Nat) : Bool:=decide ((bits .and .u32 ((((Ac m).getD 0 0 : Nat)) : Int) 1)=1)
def Ur (p q:Rat) : RT×Int :=
 if ¬q.den=1 then bad 3
 else if p=0∧q.num<0 then bad 3
 else if q.num.natAbs=0 then (ofQ 1,0)
 else if p=0 then (ofQ 0,0)
 else if p.num.natAbs=1∧p.den=1 then ((decide (p.num<0)&&XX q.num.natAbs,[1],[1]),0)
 else if Fi p.num.natAbs q.num.natAbs 32∧Fi p.den q.num.natAbs 32 then
  (if q.num<0 then ((decide (p.num<0)&&XX q.num.natAbs,Ac (p.den ^ q.num.natAbs),Ac (p.num.natAbs ^ q.num.natAbs)),0) else ((decide (p.num<0)&&XX q.num.natAbs,Ac (p.num.natAbs ^ q.num.natAbs),Ac (p.den ^ q.num.natAbs)),0))
 else bad 8
set_option exponentiation.threshold 2000 in
theorem QA {a m:Nat} (ha:2≤a) (hm:1024<m) : ¬Fi a m 32:=by
 unfold Fi
 intro h
 have:=A5 (An (a ^ m))
 rw [Ag] at this
 have h1:a ^ m<4294967296 ^ 32:=nL this (Nat.pow_le_pow_right (by decide) h)
 have h2:2 ^ 1024≤a ^ m:=nT (Nat.pow_le_pow_left ha 1024) (Nat.pow_le_pow_right (by omega) (by omega))
 have h3:(4294967296:Nat) ^ 32=2 ^ 1024:=by rw [show (4294967296:Nat)=2 ^ 32 from rfl,← Nat.pow_mul]
 omega
theorem Se {m:Nat} (h:m≠0) : rd? (Ac m) 0=some ((Ac m).getD 0 0):=by
 have:0<(Ac m).length:=List.length_pos_iff.2 (fun e=>h (CS.1 e))
 unfold rd?
 rw [if_pos (by decide),lD,show (0:Int).toNat=0 from rfl,lG this];rfl
theorem R1 {p:Rat} : p.num.natAbs=p.den↔(p.num.natAbs=1∧p.den=1):=by
 constructor
 ·intro h
  have:=p.reduced
  unfold Nat.Coprime at this
  rw [h,Nat.gcd_self] at this
  exact ⟨by omega,this⟩
 ·rintro ⟨h1,h2⟩;omega
theorem Sh {p:Rat} (h0:p≠0) (h:¬(p.num.natAbs=1∧p.den=1)) : 2≤p.num.natAbs∨2≤p.den:=by
 have h1:p.num≠0:=fun e=>h0 (Rat.num_eq_zero.1 e)
 have h2:=p.den_nz
 omega
theorem U4 {p q:Rat} (hp:AB p) (hq:AB q) : HY (ofQ p) (ofQ q)=some (Ur p q):=by
 unfold HY Ur
 have hqs:(ofQ q).1=decide (q.num<0):=rfl
 have hqn:(ofQ q).2.1=Ac q.num.natAbs:=rfl
 have hps:(ofQ p).1=decide (p.num<0):=rfl
 have hpn:(ofQ p).2.1=Ac p.num.natAbs:=rfl
 have hpd:(ofQ p).2.2=Ac p.den:=rfl
 rw [JS (Au hp) (Au hq),CL hp hq,oB,if_pos rfl,JW hq,oB]
 simp only [C4]
 by_cases hd:q.den=1
 ·rw [if_neg (not_not_intro hd),dT hd,Bool.not_true,Bool.false_or,hqs]
  by_cases h0:p=0∧q.num<0
  ·rw [if_pos (by rw [dT h0.1,dT h0.2];rfl),if_pos h0]
  ·rw [if_neg (by simpa using h0),if_neg h0]
   by_cases hn:q.num.natAbs=0
   ·have hq0:q=0:=Rat.num_eq_zero.1 (by omega)
    rw [if_pos hq0,if_pos hn,Ef (by decide) (by decide)];rfl
   ·have hq0:¬q=0:=fun e=>hn (by rw [e];rfl)
    rw [if_neg hq0,if_neg hn]
    by_cases hp0:p=0
    ·rw [if_pos hp0,if_pos hp0,Ef (by decide) (by decide)];rfl
    ·rw [if_neg hp0,if_neg hp0,hqn,Se hn,hps]
     have hz:(if decide (p.num<0)=true then ((some ((Ac q.num.natAbs).getD 0 0)).bind fun x6=>(some (decide ((bits .and .u32 ((x6:Nat):Int) 1)=1)))) else (some false))=some (decide (p.num<0)&&XX q.num.natAbs):=by
      cases decide (p.num<0)<;>rfl
     rw [hz,oB,hpn,hpd,SG (nT hp.1 (by decide)) (nT hp.2 (by decide)),oB]
     by_cases h1:p.num.natAbs=1∧p.den=1
     ·rw [if_pos (dT (R1.2 h1)),if_pos h1,C5];rfl
     ·rw [if_neg (by simpa using mt R1.1 h1),if_neg h1]
      have hsm:QB (Ac q.num.natAbs)=some (((if AF q.num.natAbs≤63 then q.num.natAbs else 0:Nat):Int),decide (AF q.num.natAbs≤63)):=by
       unfold QB
       rw [if_pos (AE (nT hq.1 (by decide))),Gg,Ag]
      rw [hsm,oB]
      have b63:AF q.num.natAbs≤63↔q.num.natAbs<9223372036854775808:=BL
      by_cases hb:AF q.num.natAbs≤63
      ·have hpw:∀ {a:Nat},(Ac a).length≤32→NT (Ac a) ((q.num.natAbs:Nat):Int) 32=some (Ac (pwV a q.num.natAbs 32),decide (Fi a q.num.natAbs 32)):=fun {a} ha=>by
        unfold NT
        rw [if_pos (by rw [AE (nT ha (by decide)),Bool.true_and];exact dT ⟨by have:=b63.1 hb;omega,by decide,by decide⟩),if_neg (by omega),Ag];rfl
       rw [if_pos hb,if_pos (dT hb),hpw hp.1,oB,hpw hp.2,oB]
       by_cases hk:Fi p.num.natAbs q.num.natAbs 32∧Fi p.den q.num.natAbs 32
       ·rw [if_neg (by simp [hk.1,hk.2]),if_pos hk]
        unfold pwV
        rw [if_pos hk.1,if_pos hk.2]
        by_cases hs:q.num<0
        ·rw [if_pos (dT hs),if_pos hs]
        ·rw [if_neg (by simpa using hs),if_neg hs]
       ·rw [if_neg hk,if_pos]
        rw [Bool.or_eq_true,Bool.not_eq_true',Bool.not_eq_true',decide_eq_false_iff_not,decide_eq_false_iff_not]
        exact Decidable.not_and_iff_or_not.1 hk
      ·rw [dF hb,if_neg (show ¬(false=true) by decide),if_neg]
       rintro ⟨k1,k2⟩
       have hm:1024<q.num.natAbs:=by rw [b63] at hb;omega
       rcases Sh hp0 h1 with h|h
       ·exact QA h hm k1
       ·exact QA h hm k2
 ·rw [if_pos hd,if_pos (by rw [dF hd];rfl)]
theorem OI {p q:Rat} (hp:AB p) (hq:AB q) : Ge (ofQ p) (ofQ q)=some (Ur p q):=by
 unfold Ge Ur
 have hqs:(ofQ q).1=decide (q.num<0):=rfl
 have hqn:(ofQ q).2.1=Ac q.num.natAbs:=rfl
 have hps:(ofQ p).1=decide (p.num<0):=rfl
 have hpn:(ofQ p).2.1=Ac p.num.natAbs:=rfl
 have hpd:(ofQ p).2.2=Ac p.den:=rfl
 rw [GJ (Au hp) (Au hq),CL hp hq,if_neg (by decide),Ld (Au hq),JW hq,oB]
 simp only [C4]
 by_cases hd:q.den=1
 ·rw [if_neg (not_not_intro hd),if_pos (dT hd),hqs]
  by_cases hn:q.num.natAbs=0
  ·have hq0:q=0:=Rat.num_eq_zero.1 (by omega)
   rw [if_pos hq0,if_neg (fun h=>by omega),if_pos hn,DT (by decide) (by decide)];rfl
  ·have hq0:¬q=0:=fun e=>hn (by rw [e];rfl)
   rw [if_neg hq0]
   by_cases h0:p=0∧q.num<0
   ·rw [if_pos (by rw [dT h0.1,dT h0.2];rfl),if_pos h0]
   ·rw [if_neg (by simpa using h0),if_neg h0,if_neg hn]
    by_cases hp0:p=0
    ·rw [if_pos hp0,if_pos hp0,HB];rfl
    ·have same1:∀ {a:Nat},(Ac a).length≤32→NM (Ac a) [1]=some (decide (a=1)):=fun {a} ha=>by
      unfold NM
      rw [if_pos (nT ha (by decide)),← Bb]
      congr 1
      exact decide_eq_decide.2 ⟨Ji,fun h=>by rw [h]⟩
     rw [if_neg hp0,if_neg hp0,hqn,Se hn,oB,BU,oB,hpn,hpd,same1 hp.1,oB,oB,same1 hp.2,oB,oB,oB,hps]
     by_cases h1:p.num.natAbs=1∧p.den=1
     ·rw [if_pos (dT h1.1),oB,if_pos (dT h1.2),if_pos h1];rfl
     ·have hz:(if decide (p.num.natAbs=1)=true then some (decide (p.den=1)) else some false)=some false:=by
       by_cases hh:p.num.natAbs=1
       ·rw [if_pos (dT hh),dF (fun h=>h1 ⟨hh,h⟩)]
       ·rw [if_neg (by simpa using hh)]
      have hsm:Ht (Ac q.num.natAbs)=some (((if AF q.num.natAbs≤63 then q.num.natAbs else 0:Nat):Int),decide (AF q.num.natAbs≤63)):=by
       unfold Ht
       rw [if_pos (AE (nT hq.1 (by decide))),Gg,Ag]
      rw [hz,oB,if_neg (by decide),hsm,oB,if_neg h1]
      have b63:AF q.num.natAbs≤63↔q.num.natAbs<9223372036854775808:=BL
      by_cases hb:AF q.num.natAbs≤63∧q.num.natAbs≤1024
      ·have hpw:∀ {a:Nat},(Ac a).length≤32→Lr (Ac a) ((q.num.natAbs:Nat):Int) 32=some (Ac (pwV a q.num.natAbs 32),decide (Fi a q.num.natAbs 32)):=fun {a} ha=>by
        unfold Lr
        rw [if_pos (by rw [AE (nT ha (by decide)),Bool.true_and];exact dT ⟨by omega,by omega,by decide,by decide⟩),Ag];rfl
       rw [if_pos hb.1,if_neg (by simp [hb.1];omega),hpw hp.1,oB,hpw hp.2,oB]
       by_cases hk:Fi p.num.natAbs q.num.natAbs 32∧Fi p.den q.num.natAbs 32
       ·rw [if_neg (by simp [hk.1,hk.2]),if_pos hk]
        unfold pwV
        rw [if_pos hk.1,if_pos hk.2]
        by_cases hs:q.num<0
        ·rw [if_pos (dT hs),if_pos hs];rfl
        ·rw [if_neg (by simpa using hs),if_neg hs];rfl
       ·rw [if_neg hk,if_pos]
        rw [Bool.or_eq_true,Bool.not_eq_true',Bool.not_eq_true',decide_eq_false_iff_not,decide_eq_false_iff_not]
        exact Decidable.not_and_iff_or_not.1 hk
      ·have hm:1024<q.num.natAbs:=by rw [b63] at hb;omega
       rw [if_neg (show ¬(Fi p.num.natAbs q.num.natAbs 32∧Fi p.den q.num.natAbs 32) from fun ⟨k1,k2⟩=>by
        rcases Sh hp0 h1 with h|h
        ·exact QA h hm k1
        ·exact QA h hm k2),if_pos]
       by_cases h2:AF q.num.natAbs≤63
       ·rw [if_pos h2];simp;omega
       ·simp [h2]
 ·rw [if_pos hd,if_neg (by simpa using hd)]
theorem Vw : ∀ (n k:Nat),ch n k≤ch (n+1) k
 | n,0=>by rw [Gy,Gy];exact Nat.le_refl _
 | n,k+1=>by rw [ch];omega
theorem Wj : ∀ (j n:Nat),2 * j≤n→2 ^ j≤ch n j
 | 0,n,_=>by rw [Gy];decide
 | j+1,n,h=>by
  obtain ⟨m,rfl⟩:∃ m,n=m+2:=⟨n-2,by omega⟩
  have ih:=Wj j m (by omega)
  have h1:=Vw m j
  have h2:ch (m+2) (j+1)=ch (m+1) j+ch (m+1) (j+1):=rfl
  have h3:ch (m+1) (j+1)=ch m j+ch m (j+1):=rfl
  rw [Nat.pow_succ];omega
theorem Z9 {n j:Nat} (h:2 * (j+1)≤n) : ch n j≤ch n (j+1):=by
 have h1:=KV n j
 have h2:(ch n j:Int) * (j+1)≤ch n j * ((n:Int)-j):=Int.mul_le_mul_of_nonneg_left (by omega) (by omega)
 rw [← h1] at h2
 have h3:((ch n j * (j+1):Nat):Int)≤((ch n (j+1) * (j+1):Nat):Int):=by push_cast;exact h2
 exact Nat.le_of_mul_le_mul_right (Int.ofNat_le.1 h3) (by omega)
theorem Rb {n M:Nat} (hM:2 * M≤n) : ∀ d j,j+d=M→ch n j≤ch n M
 | 0,j,h=>by rw [show j=M by omega];exact Nat.le_refl _
 | d+1,j,h=>nT (Z9 (by omega)) (Rb hM d (j+1) (by omega))
def QH (n M:Nat) : RT×Int:=if BT (ch n M) then ((false,Ac (ch n M),[1]),0) else bad 8
theorem Rr {n M j:Nat} (hM:2 * M≤n) (hj:j≤M) (h:¬BT (ch n j)) : QH n M=bad 8 :=
 if_neg fun hs=>h (nT (Cc (Rb hM (M-j) j (by omega))) hs)
set_option exponentiation.threshold 2000 in
theorem WQ {n j:Nat} (hj:2 * j≤n) (h:BT (ch n j)) : j≤1024:=by
 have h1:=Wj j n hj
 have h2:=Xh h
 have h3:(4294967296:Nat) ^ 32=2 ^ 1024:=by rw [show (4294967296:Nat)=2 ^ 32 from rfl,← Nat.pow_mul]
 rw [h3] at h2
 have:=(Nat.pow_lt_pow_iff_right (a:=2) (by decide)).1 (Nat.lt_of_le_of_lt h1 h2)
 omega
theorem Rd {a k:Nat} (ha:(Ac a).length≤k) : (Ac (a+1)).length≤k+1:=by
 have h1:=A5 (An a)
 rw [Ag] at h1
 have h3:a<4294967296 ^ k:=nL h1 (Nat.pow_le_pow_right (by decide) ha)
 exact Bh (by rw [Nat.pow_succ];omega)
theorem RW {a:RT} {n M:Nat} (ha:a.2.1=Ac n) (hn:(Ac n).length≤32) (hM:2 * M≤n) (hMl:(Ac M).length≤32) : ∀ (d j k:Nat) (s:RT) (e:Int),d=1100-j→1≤j→j≤M+1→BT (ch n (j-1))→d<k →
  B1 a (Ac M) k s e (Ac (ch n (j-1))) (Ac j)=some (QH n M)
 | 0,j,k,s,e,h1,h2,h3,h4,h5=>by
  have:=WQ (n:=n) (j:=j-1) (by omega) h4
  omega
 | d+1,j,k,s,e,h1,h2,h3,h4,h5=>by
  obtain ⟨k,rfl⟩:∃ m,k=m+1:=⟨k-1,by omega⟩
  have h4':(Ac (ch n (j-1))).length≤32:=h4
  rw [B1,E6 (few (by omega) _) (nT hMl (by decide)),oB]
  by_cases hj:j≤M
  ·have hm:HR (n+1) j=n+1-j:=if_pos (by omega)
   have hl1:(Ac (n+1)).length≤33:=Rd hn
   have hl2:(Ac (n+1-j)).length≤33:=nT (Cc (by omega)) hl1
   have hl3:(Ac (ch n (j-1) * (n+1-j))).length≤2 * 33:=I9 (by omega) hl2
   rw [if_pos (J4.2 hj),C5,oB,ha,Ng (by omega),oB,Rg (by omega) (few (by omega) _),oB,hm,YT (by omega) (by omega),oB,
    Ul (by omega) (few (by omega) _) (by omega),oB,WL h2 (by omega)]
   by_cases hs:BT (ch n j)
   ·have hs':(Ac (ch n j)).length≤32:=hs
    rw [if_neg (show ¬(32:Int)<((Ac (ch n j)).length:Nat) by omega),oB,Ng (few (by omega) _),oB]
    exact RW ha hn hM hMl d (j+1) k s e (by omega) (by omega) (by omega) hs (by omega)
   ·have hs':¬(Ac (ch n j)).length≤32:=hs
    rw [if_pos (show (32:Int)<((Ac (ch n j)).length:Nat) by omega),Rr hM hj hs]
  ·have hjM:j-1=M:=by omega
   rw [if_neg (mt J4.1 hj),C5,oB,hjM]
   rw [hjM] at h4
   unfold QH
   rw [if_pos h4]
theorem YQ (x:List Nat×Bool) (K:RT→Int→List Nat→Option (RT×Int)) : ∀ (k:Nat) (s:RT) (e:Int) (a b c:List Nat),BX x K k s e a b c=AY (false,x.1,[]) K k s e a b c
 | 0,_,_,_,_,_=>rfl
 | k+1,s,e,a,b,c=>by simp only [BX,AY,YQ x K k]
theorem Yz {n j:Nat} (h:j+1≤n) : ch n j * (n-j) / (j+1)=ch n (j+1):=by
 have:=WL (n:=n) (j:=j+1) (by omega) h
 rwa [Nat.add_sub_cancel,show n+1-(j+1)=n-j by omega] at this
theorem Ll {a:RT} {K:RT→Int→List Nat→Option (RT×Int)} {n M:Nat} (ha:a.2.1=Ac M) (hn:(Ac n).length≤32) (hM:2 * M≤n) (hMl:(Ac M).length≤32) (hK:BT (ch n M)→K (false,[],[]) 0 (Ac (ch n M))=some (QH n M)) :
  ∀ (d j k:Nat),d=1100-j→j≤M→BT (ch n j)→d<k→AY a K k (false,[],[]) 0 (Ac (ch n j)) (Ac j) (Ac (n-j))=some (QH n M)
 | 0,j,k,h1,h3,h4,h5=>by
  have:=WQ (n:=n) (j:=j) (by omega) h4
  omega
 | d+1,j,k,h1,h3,h4,h5=>by
  obtain ⟨k,rfl⟩:∃ m,k=m+1:=⟨k-1,by omega⟩
  have h4':(Ac (ch n j)).length≤32:=h4
  rw [AY,ha,Ee (few (by omega) _) (nT hMl (by decide)),oB]
  by_cases hj:j<M
  ·have hl2:(Ac (n-j)).length≤32:=nT (Cc (by omega)) hn
   have hl3:(Ac (ch n j * (n-j))).length≤2 * 32:=I9 h4' hl2
   have hm:HR (n-j) 1=n-(j+1):=by unfold HR;rw [if_pos (by omega)];omega
   rw [if_pos (FU.2 hj),BU,oB,← Bb,Om (few (by omega) _) (few (by decide) _),oB,B9 (by omega) (by omega),oB,
    MG (by omega) (few (by omega) _) (by omega),oB,oB,Iw (by omega) (few (by decide) _),oB,hm,Yz (by omega)]
   by_cases hs:BT (ch n (j+1))
   ·have hs':(Ac (ch n (j+1))).length≤32:=hs
    rw [if_neg (show ¬(32:Int)<((Ac (ch n (j+1))).length:Nat) by omega)]
    exact Ll ha hn hM hMl hK d (j+1) k (by omega) (by omega) hs (by omega)
   ·have hs':¬(Ac (ch n (j+1))).length≤32:=hs
    rw [if_pos (show (32:Int)<((Ac (ch n (j+1))).length:Nat) by omega),Rr hM (show j+1≤M by omega) hs]
  ·have hjM:j=M:=by omega
   subst hjM
   rw [if_neg (mt FU.1 hj)]
   exact hK h4
def UC (p q:Rat) : RT×Int :=
 if CF p=true∧CF q=true then (if p.num.natAbs≤q.num.natAbs then QH q.num.natAbs (if q.num.natAbs-p.num.natAbs<p.num.natAbs then q.num.natAbs-p.num.natAbs else p.num.natAbs) else (ofQ 0,0)) else bad 3
theorem PP : 1100<Cm:=by unfold Cm;omega
theorem PX {p q:Rat} (hp:AB p) (hq:AB q) : Fq (ofQ p) (ofQ q)=some (UC p q):=by
 unfold Fq UC
 have hpn:(ofQ p).2.1=Ac p.num.natAbs:=rfl
 have hqn:(ofQ q).2.1=Ac q.num.natAbs:=rfl
 rw [JS (Au hp) (Au hq),CL hp hq,oB,if_pos rfl,KN hp,oB,KN hq]
 have hpl:(Ac p.num.natAbs).length≤32:=hp.1
 have hql:(Ac q.num.natAbs).length≤32:=hq.1
 by_cases hw:CF p=true∧CF q=true
 ·rw [if_pos hw,if_pos hw.1,oB,hw.2,oB,if_neg (by decide),hpn,hqn]
  have start:∀ M,2 * M≤q.num.natAbs→(Dp.bind fun x9=>(Dp.bind fun x10=>(B1 (ofQ q) (Ac M) Cm (false,[],[]) 0 x9 x10)))=some (QH q.num.natAbs M):=fun M hM=>by
   have:=RW (a:=ofQ q) (n:=q.num.natAbs) (M:=M) rfl hql hM (nT (Cc (by omega)) hql) 1099 1 Cm (false,[],[]) 0 rfl (by decide) (by omega) (by rw [Nat.sub_self,Gy];exact Lm.1) (Nat.lt_trans (by decide) PP)
   rw [Nat.sub_self,Gy,Bb] at this
   rw [C5,oB,oB]
   exact this
  generalize p.num.natAbs=m at *
  generalize q.num.natAbs=n at *
  rw [Rg (by omega) (by omega),oB,YE]
  by_cases h:m≤n
  ·have hmin:HR n m=n-m:=if_pos h
   have hl:(Ac (n-m)).length≤32:=nT (Cc (by omega)) hql
   rw [if_pos (dT h),if_pos h,hmin,E6 (by omega) (by omega),oB]
   by_cases h2:n-m<m
   ·rw [if_pos (FU.2 h2),if_pos h2];exact start _ (by omega)
   ·rw [if_neg (mt FU.1 h2),if_neg h2];exact start _ (by omega)
  ·rw [if_neg (by simpa using h),if_neg h,Ef (by decide) (by decide)];rfl
 ·have hz:(if CF p=true then ((some (CF q)).bind fun x4=>(some (!x4))) else (some true))=some true:=by
   by_cases h1:CF p=true
   ·rw [if_pos h1]
    have:CF q=false:=by cases hh:CF q with
     | false=>rfl
     | true=>exact absurd ⟨h1,hh⟩ hw
    rw [this];rfl
   ·rw [if_neg h1]
  rw [hz,oB,if_pos rfl,if_neg hw]
theorem Mz {p q:Rat} (hp:AB p) (hq:AB q) : D7 (ofQ p) (ofQ q)=some (UC p q):=by
 unfold D7 UC
 have hpn:(ofQ p).2.1=Ac p.num.natAbs:=rfl
 have hqn:(ofQ q).2.1=Ac q.num.natAbs:=rfl
 have hpl:(Ac p.num.natAbs).length≤32:=hp.1
 have hql:(Ac q.num.natAbs).length≤32:=hq.1
 rw [GJ (Au hp) (Au hq),CL hp hq,if_neg (by decide),Iv hp,oB,Iv hq]
 by_cases hw:CF p=true∧CF q=true
 ·rw [if_pos hw,if_pos hw.1,oB,hw.2,oB,if_neg (by decide),hqn,hpn]
  have fin:∀ M,BT (ch q.num.natAbs M)→((BE.bind fun x43=>((Cn false (Ac (ch q.num.natAbs M)) x43).bind fun x44=>(some (x44.1,x44.2)))):Option (RT×Int))=some (QH q.num.natAbs M):=fun M hs=>by
   have hs':(Ac (ch q.num.natAbs M)).length≤32:=hs
   rw [BU,oB,← Bb,E3 (by omega) (by rw [Bb];decide) (by decide),Rc];rfl
  have start:∀ (x:List Nat) (M:Nat),x=Ac M→2 * M≤q.num.natAbs→(BE.bind fun x27=>(jn (fun (z28:RT) (z29:Int) (z30:(List Nat))=>(BE.bind fun x43=>((Cn false z30 x43).bind fun x44=>(some (x44.1,x44.2))))) fun K2=>(AY (false,x,[]) K2 Cm (false,[],[]) 0 x27 [] (Ac q.num.natAbs))))=some (QH q.num.natAbs M):=fun x M hx hM=>by
   rw [BU,oB,YE]
   have:=Ll (a:=(false,x,[])) (K:=fun (z28:RT) (z29:Int) (z30:(List Nat))=>(BE.bind fun x43=>((Cn false z30 x43).bind fun x44=>(some (x44.1,x44.2))))) (n:=q.num.natAbs) (M:=M) hx hql hM (nT (Cc (by omega)) hql) (fin M) 1100 0 Cm rfl (by omega) (by rw [Gy];exact Lm.1) PP
   rw [Gy,Bb,Nat.sub_zero,show Ac 0=[] from CS.2 rfl] at this
   rw [BU] at this
   exact this
  have l3_a:∀ (K:RT→Int→List Nat→Option (RT×Int)) (k:Nat) (s:RT) (e:Int) (a b c:List Nat),AY (ofQ p) K k s e a b c=AY (false,Ac p.num.natAbs,[]) K k s e a b c:=by
   intro K k
   induction k with
   | zero=>intros;rfl
   | succ k ih=>intro s e a b c;simp only [AY,ih];rfl
  rw [Iw (by omega) (by omega),oB]
  by_cases h:p.num.natAbs≤q.num.natAbs
  ·have hmin:HR q.num.natAbs p.num.natAbs=q.num.natAbs-p.num.natAbs:=if_pos h
   have hl:(Ac (q.num.natAbs-p.num.natAbs)).length≤32:=nT (Cc (by omega)) hql
   rw [if_pos (dT h),if_pos h,hmin,Ee (by omega) (by omega),oB]
   by_cases h2:q.num.natAbs-p.num.natAbs<p.num.natAbs
   ·rw [if_pos (FU.2 h2),if_pos h2]
    simp only [YQ]
    exact start _ _ rfl (by omega)
   ·rw [if_neg (mt FU.1 h2),if_neg h2]
    simp only [l3_a]
    exact start _ _ rfl (by omega)
  ·rw [if_neg (by simpa using h),if_neg h,HB];rfl
 ·have hz:(if CF p=true then ((some (CF q)).bind fun x4=>(some (!x4))) else (some true))=some true:=by
   by_cases h1:CF p=true
   ·rw [if_pos h1]
    have:CF q=false:=by cases hh:CF q with
     | false=>rfl
     | true=>exact absurd ⟨h1,hh⟩ hw
    rw [this];rfl
   ·rw [if_neg h1]
  rw [hz,oB,if_pos rfl,if_neg hw]
theorem Xi (p q:Rat) : okA (Ur p q):=by
 unfold Ur
 have one:([1]:List Nat).length≤1048576:=by decide
 split
 ·exact Cp 3
 ·split
  ·exact Cp 3
  ·split
   ·exact El Lm 0
   ·split
    ·exact El Pr 0
    ·split
     ·exact ⟨one,one⟩
     ·split
      ·rename_i h
       have h1:(Ac (p.num.natAbs ^ q.num.natAbs)).length≤32:=h.1
       have h2:(Ac (p.den ^ q.num.natAbs)).length≤32:=h.2
       split
       ·exact ⟨nT h2 (by decide),nT h1 (by decide)⟩
       ·exact ⟨nT h1 (by decide),nT h2 (by decide)⟩
      ·exact Cp 8
theorem Nx {n:Nat} : okA (if BT n then ((false,Ac n,[1]),0) else bad 8):=by
 split
 ·rename_i h;exact ⟨nT h (by decide),show ([1]:List Nat).length≤1048576 by decide⟩
 ·exact Cp 8
theorem UI (p:Rat) : okA (Ps p):=by
 unfold Ps
 split
 ·exact Nx
 ·exact Cp 3
theorem WC (p q:Rat) : okA (UC p q):=by
 unfold UC
 split
 ·split
  ·exact Nx
  ·exact El Pr 0
 ·exact Cp 3
def Lz (p:Rat) : Int×Bool:=if p.den=1 then (if AF p.num.natAbs≤64 then LY (decide (p.num<0)) p.num.natAbs else (0,false)) else (0,false)
theorem XK {p:Rat} (hp:AB p) : JG (ofQ p)=some (Lz p):=by
 unfold JG Lz
 rw [JW hp,oB]
 by_cases h:p.den=1
 ·have e:(ofQ p).2.1=Ac p.num.natAbs:=rfl
  rw [if_pos (dT h),if_pos h,e,Ag,if_pos (by rw [AE (nT hp.1 (by decide)),dT rfl];rfl)];rfl
 ·rw [if_neg (by simpa using h),if_neg h]
theorem R5 {z:Int} (h1:-9223372036854775808≤z) (h2:z≤9223372036854775807) : Lz (z:Rat)=(z,true):=by
 unfold Lz
 rw [Rat.den_intCast,Rat.num_intCast,if_pos rfl,if_pos (BL.2 (show z.natAbs<2 ^ 64 by omega))]
 unfold LY
 by_cases h:z<0
 ·rw [if_pos (dT h),if_pos (by omega)];congr 1;omega
 ·rw [if_neg (by simpa using h),if_pos (by omega)];congr 1;omega
def CW (a0:Int) (a1:(Int×RT×Int)) (a2:(RT×RT)) : Option (Bool):=((EV a1 a0 a2.1).bind fun x1=>((E7 a0 a2.1).bind fun x2=>(IH.bind fun x3=>(Option.bind ((if x3=true then (if x1.2=x2.2 then ((FZ x1.1 x2.1).bind fun x5=>(some (!x5))) else (some true)) else (some true)) : Option (Bool)) fun (z3:Bool)=>(if z3=true then (some (false)) else ((DS a1 a0 a2.1 a2.2).bind fun x6=>((Ec a1.2.1 a0 a2.1 a2.2).bind fun x7=>(Option.bind ((if x6.2=x7.2 then ((FZ x6.1 x7.1).bind fun x9=>(some x9)) else (some false)) : Option (Bool)) fun (z8:Bool)=>(some (z8))))))))))
theorem IG {a0:Int} {a1:(Int×RT×Int)} {a2:(RT×RT)} {r:Bool} (h:CW a0 a1 a2=some r) :
  Fn Tryz.prog 6 [.i .i32 a0,.ag [.i .i64 a1.1,.b a1.2.1.1,.sl (L a1.2.1.2.1),.sl (L a1.2.1.2.2),.i .i64 a1.2.2],.ag [.b a2.1.1,.sl (L a2.1.2.1),.sl (L a2.1.2.2),.b a2.2.1,.sl (L a2.2.2.1),.sl (L a2.2.2.2)]] (.d (.b r)):=by
 unfold CW at h
 refine Fn.o1 6 68 Tryz.func6 ?_;refine .sr ?_;refine vk (vbx) ?_;refine vk (vbx) ?_;refine ar [0,4,5,6] ?_;refine .sr ?_;refine vk (Aj TT QW) ?_;refine vk (Aa) ?_;refine vk (Vk (z:=0) Io Ad (by decide) (by decide) rfl) ?_;refine vk (Aj Af Ad) ?_
 obtain ⟨x1,g1,h⟩:=bnd h
 refine vk (VOK.tupd (vs:=[.ag [.b x1.1.1,.sl (L x1.1.2.1),.sl (L x1.1.2.2)],.i .i64 x1.2]) (Ae (ON g1) Tryz.call21)) ?_;refine vk (Aa) ?_;refine vk (vex) ?_;refine vk (vex) ?_;refine vk (van (Ai AG) AH) ?_
 refine stn ?_ Ad (by decide)
 refine ar [0,4,5,6,7,8] ?_;refine .sr ?_;refine vk (Aa) ?_;refine vk (Vk (z:=0) Io Ad (by decide) (by decide) rfl) ?_;refine vk (Aj Af Ad) ?_
 obtain ⟨x2,g2,h⟩:=bnd h
 refine vk (VOK.tupd (vs:=[.ag [.b x2.1.1,.sl (L x2.1.2.1),.sl (L x2.1.2.2)],.i .i64 x2.2]) (Ae (Qm g2) Tryz.call22)) ?_;refine vk (Aa) ?_;refine vk (vex) ?_;refine vk (vex) ?_;refine vk (van (Ai AG) AH) ?_
 refine stn ?_ Ad (by decide)
 refine ar [0,4,5,6,7,8,9,10] ?_;refine .seq ?_;refine .seq ?_
 obtain ⟨x3,g3,h⟩:=bnd h
 obtain ⟨z3,hz,h⟩:=bnd h
 refine AW.mr (σ:=Unit) (fun _=>True) (fun _=>[(0,.d (.i .i32 a0)),(4,.d (.ptr [.i .i64 a1.1,.b a1.2.1.1,.sl (L a1.2.1.2.1),.sl (L a1.2.1.2.2),.i .i64 a1.2.2])),(5,.d (.ptr [.b a2.1.1,.sl (L a2.1.2.1),.sl (L a2.1.2.2),.b a2.2.1,.sl (L a2.2.2.1),.sl (L a2.2.2.2)])),(6,.d (.b false)),(7,.nb [.b x1.1.1,.sl (L x1.1.2.1),.sl (L x1.1.2.2)]),(9,.nb [.b x2.1.1,.sl (L x2.1.2.1),.sl (L x2.1.2.2)]),(38,.d (.b z3))]) (fun _=>[]) ?_ ?_
 ·skip
  refine .region ?_;refine vk (Ae (OC g3) Tryz.call17) ?_;refine vk (vnt) ?_
  rcases brc hz with ⟨hc,hz⟩|⟨hc,hz⟩
  ·have hb0:(!x3)=false:=(ntf hc)
   refine vk (VOK.lit (Aa) hb0) ?_;refine vk (Aa) ?_;refine vk (Aa) ?_;refine vk (vbi) ?_;refine vk (Ah) ?_
   rcases brc hz with ⟨hc,hz⟩|⟨hc,hz⟩
   ·have hb1:(!(decide (x1.2=x2.2)))=false:=(ntf (dT hc))
    refine vk (VOK.lit (Aa) hb1) ?_;refine vk (Eh Af Ad) ?_;refine vk (Eh Af Ad) ?_
    obtain ⟨x5,g5,hz⟩:=bnd hz
    refine vk (Ae (Hx g5) Tryz.call23) ?_;refine vk (vnt) ?_;refine vk (Ah) ?_;refine RL.gk [0,4,5,6,7,9,38] ?_;refine .nil ?_
    cases hz
    exact jr () trivial
   have hb1:(!(decide (x1.2=x2.2)))=true:=(ntt (dF hc))
   refine vk (VOK.lit (Aa) hb1) ?_;refine gf ?_;refine gf ?_;refine gf ?_;refine gf ?_;refine vk (Ah) ?_;refine RL.gk [0,4,5,6,7,9,38] ?_;refine .nil ?_
   cases hz
   exact jr () trivial
  have hb0:(!x3)=true:=(ntt (bf hc))
  refine vk (VOK.lit (Aa) hb0) ?_;refine gf ?_;refine gf ?_;refine gf ?_;refine vk (Ah) ?_;refine vk (Aa) ?_;refine gf ?_;refine gf ?_;refine gf ?_;refine gf ?_;refine vk (Ah) ?_;refine RL.gk [0,4,5,6,7,9,38] ?_;refine .nil ?_
  cases hz
  exact jr () trivial
 rintro _ _
 rcases brc h with ⟨hc,h⟩|⟨hc,h⟩
 ·refine cnt hc ?_
  refine .sr ?_;refine ar [0,4,5,6,7,9] ?_;refine .ret ?_
  cases h
  exact ⟨rfl,rfl⟩
 refine cnf (bf hc) ?_;refine .skip ?_
 show AW _ _ _ _ _ _
 refine .sr ?_;refine vk (Aj TT QW) ?_;refine vk (Aa) ?_;refine vk (Vk (z:=0) Io Ad (by decide) (by decide) rfl) ?_;refine vk (Aj Af Ad) ?_;refine vk (Vk (z:=1) Io Ad (by decide) (by decide) rfl) ?_;refine vk (Aj Af Ad) ?_
 obtain ⟨x6,g6,h⟩:=bnd h
 refine vk (VOK.tupd (vs:=[.ag [.b x6.1.1,.sl (L x6.1.2.1),.sl (L x6.1.2.2)],.i .i64 x6.2]) (Ae (OO g6) Tryz.call24)) ?_;refine vk (Aa) ?_;refine vk (vex) ?_;refine vk (vex) ?_
 refine stn ?_ Ad (by decide)
 refine ar [0,4,5,6,7,8,9] ?_;refine .sr ?_;refine vk (vfa LJ) ?_;refine vk (Aj Af Ad) ?_;refine vk (Aa) ?_;refine vk (Vk (z:=0) Io Ad (by decide) (by decide) rfl) ?_;refine vk (Aj Af Ad) ?_;refine vk (Vk (z:=1) Io Ad (by decide) (by decide) rfl) ?_;refine vk (Aj Af Ad) ?_
 obtain ⟨x7,g7,h⟩:=bnd h
 refine vk (VOK.tupd (vs:=[.ag [.b x7.1.1,.sl (L x7.1.2.1),.sl (L x7.1.2.2)],.i .i64 x7.2]) (Ae (P0 g7) Tryz.call25)) ?_;refine vk (Aa) ?_;refine vk (vex) ?_;refine vk (vex) ?_
 refine stn ?_ Ad (by decide)
 refine ar [6,7,8,9,10] ?_;refine .seq ?_
 obtain ⟨z8,hz,h⟩:=bnd h
 refine AW.mr (σ:=Unit) (fun _=>True) (fun _=>[(6,.d (.b z8))]) (fun _=>[]) ?_ ?_
 ·skip
  refine .region ?_;refine vk (Aa) ?_;refine vk (Aa) ?_;refine vk (vbi) ?_
  rcases brc hz with ⟨hc,hz⟩|⟨hc,hz⟩
  ·have hb0:(decide (x6.2=x7.2))=true:=(dT hc)
   refine vk (VOK.lit (Aa) hb0) ?_;refine vk (Eh Af Ad) ?_;refine vk (Eh Af Ad) ?_
   obtain ⟨x9,g9,hz⟩:=bnd hz
   refine vk (Ae (Hx g9) Tryz.call23) ?_;refine vk (Ah) ?_;refine asd ?_;refine RL.gk [6] ?_;refine .nil ?_
   cases hz
   exact jr () trivial
  have hb0:(decide (x6.2=x7.2))=false:=(dF hc)
  refine vk (VOK.lit (Aa) hb0) ?_;refine gf ?_;refine gf ?_;refine gf ?_;refine vk (Ah) ?_;refine asd ?_;refine RL.gk [6] ?_;refine .nil ?_
  cases hz
  exact jr () trivial
 rintro _ _
 refine .ret ?_
 cases h
 exact ⟨rfl,rfl⟩
theorem Rz {z:Int} {s:ByteArray} (K:Bool→Option Bool) : ∀ (n pos k:Nat) (u:Bool),n=s.size-pos→n<k →
  D0 z s K k u pos=if z∈Df s s.size pos then some true else K u
 | _,_,0,_,_,h=>by omega
 | n,pos,k+1,u,hn,hk=>by
  rw [D0]
  by_cases hp:pos<s.size
  ·have:=N5 s pos
   rw [if_pos hp,Sn hp]
   by_cases h:W4 s pos=z
   ·rw [if_pos h,if_pos (by rw [h];simp)]
   ·rw [if_neg h,Rz K (s.size-HX s pos) (HX s pos) k u rfl (by omega)]
    have e:(z∈W4 s pos::Df s s.size (HX s pos))↔z∈Df s s.size (HX s pos):=by
     rw [List.mem_cons];exact ⟨fun q=>q.elim (fun w=>absurd w.symm h) id,.inr⟩
    by_cases h2:z∈Df s s.size (HX s pos)
    ·rw [if_pos h2,if_pos (e.2 h2)]
    ·rw [if_neg h2,if_neg (mt e.1 h2)]
  ·rw [if_neg hp,Tj hp,if_neg (by simp)]
theorem Vp (z:Int) {s:ByteArray} (hs:s.size≤1000) : H0 z s=some (decide (z∈T3 s)):=by
 unfold H0 T3
 rw [Z8,Rz _ s.size 0 Cm false rfl (X9 (by omega))]
 by_cases h:z∈Df s s.size 0
 ·rw [if_pos h,dT h]
 ·rw [if_neg h,dF h]
def PC : List Int:=[43,45,215,247,8968,8970,124,42,33,126]
def O8 : List Int:=[43,45,215,247,8968,8970,124,42,33,60,8804,61,8805,62,8800,8743,8744,9074,9073]
theorem Tm (z:Int) : DC z=some (decide (z∈PC)):=by
 unfold DC
 rw [Vp z (by decide)]
 rfl
theorem SA (z:Int) : D1 z=some (decide (z∈O8)):=by
 unfold D1
 rw [Vp z (by decide)]
 rfl
theorem T5 {α β:Type} {T:List (Int×FW α β)} {z:Int} (h:z∉T.map (·.1)) : Ew T z=none:=by
 unfold Ew
 rw [Option.map_eq_none_iff,List.find?_eq_none]
 intro p hp
 simp only [decide_eq_true_eq]
 exact fun q=>h (List.mem_map.2 ⟨p,hp,q⟩)
theorem YD : ∀ z : Int,z∈Kp.map (·.1)↔z∈PC:=by
 intro z
 show z∈([43,45,8968,8970,124,33,42,215,247,126]:List Int)↔_
 unfold PC
 simp only [List.mem_cons,List.not_mem_nil,or_false]
 omega
theorem YX (c:RT) : ∀ z : Int,z∈(Ig c).map (·.1)↔z∈O8:=by
 intro z
 show z∈([43,215,45,247,124,42,33,8968,8970,60,8804,61,8805,62,8800,8743,8744,9074,9073]:List Int)↔_
 unfold O8
 simp only [List.mem_cons,List.not_mem_nil,or_false]
 omega
theorem E4 (b:Bool) : A3 b=Bt b:=by
 unfold A3 Bt
 cases b
 ·rw [if_neg (by decide),if_neg (by decide),HB,Ef (by omega) (by omega)];rfl
 ·rw [if_pos rfl,if_pos rfl,DT (by omega) (by omega),Ef (by omega) (by omega)]
theorem Us (b:Bool) : ∃ r,Bt b=some r∧okA (r,0):=by
 obtain ⟨r,h1,h2⟩:=RP b
 obtain ⟨p,hp,rfl⟩:=L3.1 h2
 exact ⟨_,h1,El hp 0⟩
theorem X2 {p:Rat} (h:(Lz p).2=true) : p=(((Lz p).1 : Int) : Rat):=by
 unfold Lz at h ⊢
 by_cases hd:p.den=1
 ·have hp:p=((p.num:Int):Rat):=by
   have:=Rat.mkRat_self p
   rw [hd] at this
   rw [← this,Rat.mkRat_one]
   simp
  rw [if_pos hd] at h ⊢
  by_cases hb:AF p.num.natAbs≤64
  ·rw [if_pos hb] at h ⊢
   have:(LY (decide (p.num<0)) p.num.natAbs).1=p.num:=by
    unfold LY at h ⊢
    by_cases hn:p.num<0
    ·rw [dT hn] at h ⊢
     simp only [if_true] at h ⊢
     split at h
     ·rename_i q;rw [if_pos q];show -((p.num.natAbs:Nat):Int)=p.num;omega
     ·cases h
    ·rw [dF hn] at h ⊢
     simp only [Bool.false_eq_true,if_false] at h ⊢
     split at h
     ·rename_i q;rw [if_pos q];show ((p.num.natAbs:Nat):Int)=p.num;omega
     ·cases h
   rw [this];exact hp
  ·rw [if_neg hb] at h;cases h
 ·rw [if_neg hd] at h;cases h
theorem WV {p:Rat} (hp:AB p) : ∃ b,EU (ofQ p)=some (b,decide (p=0∨p=1))∧((p=0∨p=1)→b=decide (p=1)):=by
 have z1:((0:Int):Rat)=0:=rfl
 have z2:((1:Int):Rat)=1:=rfl
 unfold EU
 rw [XK hp,oB]
 by_cases h0:p=0
 ·subst h0
  have e:Lz (0:Rat)=(0,true):=by rw [← z1];exact R5 (by omega) (by omega)
  rw [e]
  exact ⟨false,by simp,fun _=>by decide⟩
 by_cases h1:p=1
 ·subst h1
  have e:Lz (1:Rat)=(1,true):=by rw [← z2];exact R5 (by omega) (by omega)
  rw [e]
  exact ⟨true,by simp,fun _=>by simp⟩
 ·refine ⟨decide ((Lz p).1=1),?_,fun q=>absurd q (fun q=>q.elim h0 h1)⟩
  congr 2
  rw [dF (show ¬(p=0∨p=1) from fun q=>q.elim h0 h1)]
  by_cases hq:(Lz p).2=true
  ·have hi:=X2 hq
   have n0:(Lz p).1≠0:=fun q=>by rw [q,z1] at hi;exact h0 hi
   have n1:(Lz p).1≠1:=fun q=>by rw [q,z2] at hi;exact h1 hi
   rw [hq,dF n0,dF n1];rfl
  ·have:(Lz p).2=false:=by simpa using hq
   rw [this];rfl
theorem Nr : AB (1:Rat):=Ip (z:=1) (by unfold SE;omega)
theorem Xa {p q:Rat} (hp:AB p) : FZ (ofQ p) (ofQ q)=some (decide (p=q)):=by
 have:=TR hp
 rw [MM (nT this.1 (by decide)) (nT this.2 (by decide))]
 congr 1
 exact decide_eq_decide.2 ⟨fun h=>XT h,fun h=>by rw [h]⟩
theorem Qy {p:Rat} (hp:AB p) : DU (ofQ p)=some (decide (p=0∨p=1)):=by
 unfold DU
 rw [HB,oB,Xa hp,oB]
 by_cases h0:p=0
 ·rw [if_pos (dT h0),oB,dT (.inl h0)]
 ·rw [if_neg (by simpa using h0),DT (by omega) (by omega),oB,show (((1:Int):Rat))=1 from rfl,Xa hp]
  show some _=_
  congr 1
  exact decide_eq_decide.2 ⟨.inr,fun q=>q.elim (fun w=>absurd w h0) id⟩
theorem MB {p:Rat} : ((List.length (ofQ p).2.1 : Nat) : Int)=0↔p=0:=by
 show ((List.length (Ac p.num.natAbs):Nat):Int)=0↔p=0
 constructor
 ·intro h
  have h1:(Ac p.num.natAbs).length=0:=by omega
  have h2:Ac p.num.natAbs=Ac 0:=by rw [List.eq_nil_of_length_eq_zero h1,Ar]
  have h3:=Ji h2
  exact Rat.num_eq_zero.1 (by omega)
 ·intro h;subst h
  show ((List.length (Ac 0):Nat):Int)=0
  rw [Ar];rfl
theorem J6 {p:Rat} : CV p 0=0↔p=0:=Zp
theorem U3 {z:Int} (hz:z∈PC) {p:Rat} (hp:AB p) : ∃ w r,Ew Kp z=some w∧w.g (ofQ p)=some r∧E7 z (ofQ p)=some r∧okA r:=by
 have hM:=Tm z
 rw [dT hz] at hM
 have hR:AJ (ofQ p)=some true:=by rw [A1 (Au hp),Ba hp]
 have hS:FG (ofQ p)=some (CV p 0):=by rw [RK (Au hp),MA hp]
 unfold E7
 rw [hM,oB,if_pos rfl,hR,oB,if_pos rfl]
 unfold PC at hz
 simp only [List.mem_cons,List.not_mem_nil,or_false] at hz
 have one:((1:Int):Rat)=1:=rfl
 rcases hz with rfl|rfl|rfl|rfl|rfl|rfl|rfl|rfl|rfl|rfl
 ·exact ⟨_,(ofQ p,0),rfl,Ts hp,by simp only [↓reduceIte,F3 (Au hp),oB],El hp 0⟩
 ·exact ⟨_,(ofQ (-p),0),rfl,Aaf hp,by simp only [Int.reduceEq,↓reduceIte,SX hp,oB],El (WB hp) 0⟩
 ·have hc:SE (CV p 0):=by unfold SE;rcases L6 p 0 with h|h|h<;>omega
  refine ⟨_,(ofQ ((CV p 0:Int):Rat),0),rfl,?_,by simp only [Int.reduceEq,↓reduceIte,hS,oB,DT hc.1 hc.2],El (Ip hc) 0⟩
  show Ez (ofQ p)=_
  unfold Ez
  rw [MA hp,oB,Ef hc.1 hc.2];rfl
 ·have e:Et (ofQ p)=some (if p=0 then bad 3 else Fd (1 / p)):=by
   unfold Et
   rw [MA hp,oB]
   by_cases h0:p=0
   ·rw [if_pos (J6.2 h0),if_pos h0]
   ·rw [if_neg (mt J6.1 h0),if_neg h0,Ef (by omega) (by omega),oB,one,VG Nr hp,if_neg h0];rfl
  refine ⟨_,_,rfl,e,?_,?_⟩
  ·simp only [Int.reduceEq,↓reduceIte,MB]
   by_cases h0:p=0
   ·rw [if_pos h0,if_pos h0]
   ·rw [if_neg h0,if_neg h0,DT (by omega) (by omega),oB,one,Me Nr hp,if_neg h0];rfl
  ·split
   ·exact Cp 3
   ·exact Hq _
 ·exact ⟨_,_,rfl,Z0 hp,by simp only [Int.reduceEq,↓reduceIte,S1 hp,oB],Hq _⟩
 ·exact ⟨_,_,rfl,TE hp,by simp only [Int.reduceEq,↓reduceIte,Jl hp,oB],Hq _⟩
 ·exact ⟨_,_,rfl,Aam hp,by simp only [Int.reduceEq,↓reduceIte,UB hp,oB],El hp 0⟩
 ·have e:Gc (ofQ p)=some (if p=0 then (ofQ 1,0) else bad 3):=by
   unfold Gc
   rw [MA hp,oB]
   by_cases h0:p=0
   ·rw [if_pos (J6.2 h0),if_pos h0,Ef (by omega) (by omega)];rfl
   ·rw [if_neg (mt J6.1 h0),if_neg h0]
  refine ⟨_,_,rfl,e,?_,?_⟩
  ·simp only [Int.reduceEq,↓reduceIte]
   by_cases h0:p=0
   ·have:=MB.2 h0
    rw [if_neg (by omega),if_pos h0,DT (by omega) (by omega)];rfl
   ·have:=mt MB.1 h0
    rw [if_pos (by omega),if_neg h0]
  ·split
   ·exact El Nr 0
   ·exact Cp 3
 ·exact ⟨_,_,rfl,RV hp,by simp only [Int.reduceEq,↓reduceIte,MW hp,oB],UI p⟩
 ·obtain ⟨b,h1,h2⟩:=WV hp
  obtain ⟨t,h3,h4⟩:=Us (!b)
  have e:Ep (ofQ p)=some (if p=0∨p=1 then (t,0) else bad 3):=by
   unfold Ep
   rw [h1,oB]
   by_cases hb:p=0∨p=1
   ·rw [if_pos (dT hb),if_pos hb,h3];rfl
   ·rw [if_neg (by simpa using hb),if_neg hb]
  refine ⟨_,_,rfl,e,?_,?_⟩
  ·simp only [Int.reduceEq,↓reduceIte,Qy hp,oB,decide_eq_true_eq]
   by_cases hb:p=0∨p=1
   ·rw [if_pos hb,if_pos hb]
    have:decide (((List.length (ofQ p).2.1:Nat):Int)=0)=!b:=by
     rw [h2 hb,decide_eq_decide.2 MB]
     rcases hb with hb|hb
     ·rw [dT hb,dF (show ¬p=1 from fun q=>by rw [hb] at q;exact absurd q (by decide))];rfl
     ·rw [dT hb,dF (show ¬p=0 from fun q=>by rw [hb] at q;exact absurd q (by decide))];rfl
    rw [this,E4,h3];rfl
   ·rw [if_neg hb,if_neg hb]
  ·split
   ·exact h4
   ·exact Cp 3
theorem Gz (b:Bool) : Bt b=some (ofQ (if b then 1 else 0)):=by
 unfold Bt
 cases b
 ·rw [if_neg (by decide),Ef (by omega) (by omega)];rfl
 ·rw [if_pos rfl,Ef (by omega) (by omega)];rfl
theorem Kv (b:Bool) : okA (ofQ (if b then 1 else 0),0):=by
 cases b
 ·exact El ZG 0
 ·exact El Nr 0
theorem YJ {p:Rat} (h:p=0∨p=1) : decide (0<((List.length (ofQ p).2.1 : Nat) : Int))=decide (p=1):=by
 refine decide_eq_decide.2 ⟨fun w=>?_,fun w=>?_⟩
 ·rcases h with h|h
  ·have:=MB.2 h;omega
  ·exact h
 ·have:=mt (MB (p:=p)).1 (by rw [w];decide)
  omega
theorem LK {p q:Rat} (hp:AB p) (hq:AB q) {c:Dq} {g:Bool→Bool→Bool} (hc:∀ a b,c.g (a,b)=some (g a b)) :
  BO (ofQ p) (ofQ q) c=some (if (p=0∨p=1)∧(q=0∨q=1) then (ofQ (if g (decide (p=1)) (decide (q=1)) then 1 else 0),0) else bad 3):=by
 obtain ⟨a,h1,h2⟩:=WV hp
 obtain ⟨b,h3,h4⟩:=WV hq
 unfold BO
 rw [h1,h3,oB,oB]
 by_cases ha:p=0∨p=1
 ·by_cases hb:q=0∨q=1
  ·rw [dT ha,dT hb,if_neg (by simp),hc,oB,Gz,h2 ha,h4 hb,if_pos (show _∧_ from ⟨ha,hb⟩)];rfl
  ·rw [dF hb,if_pos (by simp),if_neg (show ¬(_∧_) from fun w=>hb w.2)]
 ·rw [dF ha,if_pos (by simp),if_neg (show ¬(_∧_) from fun w=>ha w.1)]
theorem M7 {z:Int} {p q:Rat} (hp:AB p) (hq:AB q) {g:Bool→Bool→Bool} (hz:z=8743∧g=(fun a b=>a&&b)∨z=8744∧g=(fun a b=>a||b)∨z=9074∧g=(fun a b=>!(a&&b))∨z=9073∧g=(fun a b=>!(a||b))) :
  G7 z (ofQ p) (ofQ q)=some (if (p=0∨p=1)∧(q=0∨q=1) then (ofQ (if g (decide (p=1)) (decide (q=1)) then 1 else 0),0) else bad 3):=by
 unfold G7
 rw [Qy hp,oB]
 by_cases ha:p=0∨p=1
 rotate_left
 ·rw [if_neg (by simpa using ha),oB,if_pos rfl,if_neg (show ¬(_∧_) from fun w=>ha w.1)]
 rw [if_pos (dT ha),Qy hq,oB,oB]
 by_cases hb:q=0∨q=1
 rotate_left
 ·rw [dF hb,if_pos (by decide),if_neg (show ¬(_∧_) from fun w=>hb w.2)]
 rw [dT hb,if_neg (by decide),if_pos (show _∧_ from ⟨ha,hb⟩)]
 have hx:=YJ ha
 have hy:=YJ hb
 simp only [E4,Gz,oB,hy]
 have hif:∀ (u v:Option RT),(if 0<((List.length (ofQ p).2.1:Nat):Int) then u else v)=(if decide (p=1)=true then u else v):=by
  intro u v
  rw [← hx]
  by_cases w:0<((List.length (ofQ p).2.1:Nat):Int)
  ·rw [if_pos w,if_pos (dT w)]
  ·rw [if_neg w,if_neg (by simpa using w)]
 simp only [hif]
 generalize decide (p=1)=a
 generalize decide (q=1)=b
 rcases hz with ⟨rfl,rfl⟩|⟨rfl,rfl⟩|⟨rfl,rfl⟩|⟨rfl,rfl⟩<;>cases a<;>cases b<;>rfl
theorem Nd {p q:Rat} {b:Bool} : okA (if (p=0∨p=1)∧(q=0∨q=1) then (ofQ (if b then 1 else 0),0) else bad 3):=by
 split
 ·exact Kv b
 ·exact Cp 3
theorem WH {c p q:Rat} (hc:AB c) (hp:AB p) (hq:AB q) {t:BH} {g:Int→Bool} (ht:∀ z,t.g z=some (g z)) : A6 (ofQ p) (ofQ q) t (ofQ c)=some (ofQ (if g (Q5 c p q) then 1 else 0),0):=by
 unfold A6
 rw [Aan hc hp hq,oB,ht,oB,Gz];rfl
theorem Sm {p q:Rat} (hp:AB p) (hq:AB q) {c:Int} (hc:c=1∨c=-1) : Cy (ofQ p) (ofQ q) c=some (if c * CV p q<0 then ofQ q else ofQ p,0):=by
 unfold Cy
 have hw:w64 (c * CV p q)=c * CV p q:=by
  rcases hc with rfl|rfl<;>rcases L6 p q with h|h|h<;>rw [h]<;>rfl
 rw [PR hp hq,oB,hw]
 by_cases h:c * CV p q<0
 ·rw [if_pos h,if_pos h,Ts hq];rfl
 ·rw [if_neg h,if_neg h,Ts hp];rfl
theorem Uo {z:Int} (hz:z∈O8) {c p q:Rat} (hc:AB c) (hp:AB p) (hq:AB q) : ∃ w r,Ew (Ig (ofQ c)) z=some w∧w.g (ofQ p,ofQ q)=some r∧Ec (ofQ c) z (ofQ p) (ofQ q)=some r∧okA r:=by
 have hM:=SA z
 rw [dT hz] at hM
 have hR:∀ {x:Rat},AB x→AJ (ofQ x)=some true:=fun hx=>by rw [A1 (Au hx),Ba hx]
 unfold Ec
 rw [hM,oB,if_pos rfl,hR hc,oB,if_pos rfl,hR hp,oB,if_pos rfl,hR hq,oB,oB,if_neg (by decide),UY hc hp hq,oB]
 unfold O8 at hz
 simp only [List.mem_cons,List.not_mem_nil,or_false] at hz
 have ext:∀ d:Int,(d=1∨d=-1)→okA (if d * CV p q<0 then ofQ q else ofQ p,0):=fun d _=>by
  split
  ·exact El hq 0
  ·exact El hp 0
 have cmp:∀ (d:FDV) (g:Int→Bool) (t:BH),(∀ z,t.g z=some (g z))→(⟨d,fun x=>A6 x.1 x.2 t (ofQ c)⟩:Aw).g (ofQ p,ofQ q)=some (ofQ (if g (Q5 c p q) then 1 else 0),0):=fun d g t ht=>WH hc hp hq ht
 rcases hz with rfl|rfl|rfl|rfl|rfl|rfl|rfl|rfl|rfl|rfl|rfl|rfl|rfl|rfl|rfl|rfl|rfl|rfl|rfl
 ·exact ⟨_,_,rfl,ZJ hp hq,by simp only [↓reduceIte,VL hp hq,oB],Hq _⟩
 ·exact ⟨_,_,rfl,YO hp hq,by simp only [Int.reduceEq,↓reduceIte,Vh hp hq,oB],Hq _⟩
 ·exact ⟨_,_,rfl,ZD hp hq,by simp only [Int.reduceEq,↓reduceIte,MP hp hq,oB],Hq _⟩
 ·refine ⟨_,_,rfl,VG hp hq,by simp only [Int.reduceEq,↓reduceIte,Me hp hq,oB],?_⟩
  split
  ·split
   ·exact El Nr 0
   ·exact Cp 3
  ·exact Hq _
 ·refine ⟨_,_,rfl,Sm hp hq (.inl rfl),?_,ext 1 (.inl rfl)⟩
  simp only [Int.reduceEq,↓reduceIte,HJ hp hq,oB,F3 (Au hp),F3 (Au hq),Int.one_mul]
  by_cases h:CV p q<0
  ·rw [if_pos h,if_pos h]
  ·rw [if_neg h,if_neg h]
 ·refine ⟨_,_,rfl,Sm hp hq (.inr rfl),?_,ext (-1) (.inr rfl)⟩
  simp only [Int.reduceEq,↓reduceIte,HJ hp hq,oB,F3 (Au hp),F3 (Au hq)]
  by_cases h:0<CV p q
  ·rw [if_pos h,if_pos (by omega)]
  ·rw [if_neg h,if_neg (by omega)]
 ·exact ⟨_,_,rfl,Up hp hq,by simp only [Int.reduceEq,↓reduceIte,OD hp hq,oB],We hq⟩
 ·exact ⟨_,_,rfl,U4 hp hq,by simp only [Int.reduceEq,↓reduceIte,OI hp hq,oB],Xi p q⟩
 ·exact ⟨_,_,rfl,PX hp hq,by simp only [Int.reduceEq,↓reduceIte,Mz hp hq,oB],WC p q⟩
 ·exact ⟨_,_,rfl,cmp _ (fun z=>decide (z<0)) _ (fun _=>rfl),by simp only [Int.reduceEq,↓reduceIte,E4,Gz,oB],Kv _⟩
 ·exact ⟨_,_,rfl,cmp _ (fun z=>decide (z≤0)) _ (fun _=>rfl),by simp only [Int.reduceEq,↓reduceIte,E4,Gz,oB],Kv _⟩
 ·exact ⟨_,_,rfl,cmp _ (fun z=>decide (z=0)) _ (fun _=>rfl),by simp only [Int.reduceEq,↓reduceIte,E4,Gz,oB],Kv _⟩
 ·exact ⟨_,_,rfl,cmp _ (fun z=>decide (0≤z)) _ (fun _=>rfl),by simp only [Int.reduceEq,↓reduceIte,E4,Gz,oB],Kv _⟩
 ·exact ⟨_,_,rfl,cmp _ (fun z=>decide (0<z)) _ (fun _=>rfl),by simp only [Int.reduceEq,↓reduceIte,E4,Gz,oB],Kv _⟩
 ·exact ⟨_,_,rfl,cmp _ (fun z=>!decide (z=0)) _ (fun _=>rfl),by simp only [Int.reduceEq,↓reduceIte,E4,Gz,oB],Kv _⟩
 ·exact ⟨_,_,rfl,LK hp hq (g:=fun a b=>a&&b) (fun _ _=>rfl),by simp only [Int.reduceEq,↓reduceIte,M7 hp hq (.inl ⟨rfl,rfl⟩),oB],Nd⟩
 ·exact ⟨_,_,rfl,LK hp hq (g:=fun a b=>a||b) (fun _ _=>rfl),by simp only [Int.reduceEq,↓reduceIte,M7 hp hq (.inr (.inl ⟨rfl,rfl⟩)),oB],Nd⟩
 ·exact ⟨_,_,rfl,LK hp hq (g:=fun a b=>!(a&&b)) (fun a b=>by cases a<;>cases b<;>rfl),by simp only [Int.reduceEq,↓reduceIte,M7 hp hq (.inr (.inr (.inl ⟨rfl,rfl⟩))),oB],Nd⟩
 ·exact ⟨_,_,rfl,LK hp hq (g:=fun a b=>!(a||b)) (fun a b=>by cases a<;>cases b<;>rfl),by simp only [Int.reduceEq,↓reduceIte,M7 hp hq (.inr (.inr (.inr ⟨rfl,rfl⟩))),oB],Nd⟩
theorem Wz {e:Int×RT×Int} {z:Int} {x:RT} (hx:Dc x=true) : ∃ r,EV e z x=some r∧E7 z x=some r∧okA r:=by
 by_cases hz:z∈PC
 rotate_left
 ·refine ⟨bad 23,?_,?_,Cp 23⟩
  ·unfold EV;rw [T5 (mt (YD z).1 hz)];rfl
  ·unfold E7;rw [Tm,dF hz];rfl
 rcases FX (r:=x) with h|⟨p,hp,rfl⟩
 ·refine ⟨bad 22,?_,?_,Cp 22⟩
  ·unfold EV
   rcases ht:Ew Kp z with _|w
   ·have:=(YD z).2 hz
    obtain ⟨y,hy,hy2⟩:=List.mem_map.1 this
    exact absurd hy2 (QS ht y hy)
   ·rw [J8,Bw hx,h];rfl
  ·unfold E7;rw [Tm,dT hz,A1 hx,h];rfl
 ·obtain ⟨w,r,h1,h2,h3,h4⟩:=U3 hz hp
  refine ⟨r,?_,h3,h4⟩
  unfold EV
  rw [h1,J8,Bw hx,Ba hp,oB,if_pos rfl,h2];rfl
theorem Xf {e:Int×RT×Int} {z:Int} {x y:RT} (he:Dc e.2.1=true) (hx:Dc x=true) (hy:Dc y=true) : ∃ r,DS e z x y=some r∧Ec e.2.1 z x y=some r∧okA r:=by
 by_cases hz:z∈O8
 rotate_left
 ·refine ⟨bad 23,?_,?_,Cp 23⟩
  ·unfold DS;rw [T5 (mt (YX e.2.1 z).1 hz)];rfl
  ·unfold Ec;rw [SA,dF hz];rfl
 have fall:AM e.2.1=false∨AM x=false∨AM y=false→∃ r,DS e z x y=some r∧Ec e.2.1 z x y=some r∧okA r:=by
  intro h
  refine ⟨bad 22,?_,?_,Cp 22⟩
  ·unfold DS
   rcases ht:Ew (Ig e.2.1) z with _|w
   ·have:=(YX e.2.1 z).2 hz
    obtain ⟨y,hy,hy2⟩:=List.mem_map.1 this
    exact absurd hy2 (QS ht y hy)
   ·rw [J8,Bw he,oB,Bw hx,Bw hy]
    rcases h with h|h|h
    ·rw [h];rfl
    ·rw [h];cases AM e.2.1<;>rfl
    ·rw [h];cases AM e.2.1<;>cases AM x<;>rfl
  ·unfold Ec
   rw [SA,dT hz,oB,if_pos rfl,A1 he,oB,A1 hx,A1 hy]
   rcases h with h|h|h
   ·rw [h];rfl
   ·rw [h];cases AM e.2.1<;>rfl
   ·rw [h];cases AM e.2.1<;>cases AM x<;>rfl
 rcases FX (r:=e.2.1) with h|⟨c,hc,ec⟩
 ·exact fall (.inl h)
 rcases FX (r:=x) with h|⟨p,hp,rfl⟩
 ·exact fall (.inr (.inl h))
 rcases FX (r:=y) with h|⟨q,hq,rfl⟩
 ·exact fall (.inr (.inr h))
 obtain ⟨w,r,h1,h2,h3,h4⟩:=Uo hz hc hp hq
 refine ⟨r,?_,by rw [ec];exact h3,h4⟩
 unfold DS
 rw [ec,h1,J8,Bw (Au hc),Ba hc,oB,if_pos rfl,Bw hx,Ba hp,oB,if_pos rfl,Bw hy,Ba hq,oB,oB,if_neg (by decide),h2];rfl
theorem R7 {r:RT×Int} (h:okA r) : FZ r.1 r.1=some true:=by
 rw [MM (nT h.1 (by decide)) (nT h.2 (by decide))];simp
theorem LO {z:Int} {e:Int×RT×Int} {l:RT×RT} (_:(Lit.int .i32 z).wf=true) (he:((Lit.int .i64 e.1).wf=true)∧Dc e.2.1=true∧(Lit.int .i64 e.2.2).wf=true) (hl:Dc l.1=true∧Dc l.2=true) : CW z e l=some true:=by
 obtain ⟨r,h1,h2,h3⟩:=Wz (e:=e) (z:=z) hl.1
 obtain ⟨s,h4,h5,h6⟩:=Xf (z:=z) he.2.1 hl.1 hl.2
 unfold CW
 simp only [h1,h2,h4,h5,Z5,oB,if_true,R7 h3,R7 h6]
 rfl
end Go.FL
namespace Go.Proofs.YtbeekjoeaigngaaGreat.scalarNumbers
open Go.ChangeShapes Go.WideShapes Go.ChangeAt Go.RowKit Go.FL
theorem own : ownKnob Tryz.prog.godebug=none:=by kernel_rfl
theorem laid : laidOutB Tryz.prog=true:=by kernel_rfl
theorem params : ∀ t∈Tryz.f6.params.toList,Tryz.prog.readableRec t=true∧t<Tryz.prog.types.size:=by
 intro t ht
 simp only [Tryz.params6,List.mem_cons,List.not_mem_nil,or_false] at ht
 rcases ht with rfl|rfl|rfl<;>exact ⟨by kernel_rfl,of_decide_eq_true (by kernel_rfl)⟩
set_option maxRecDepth 100000 in
theorem lifted (os:Os) (started:os.Started) (H:Type) (enc:TypeId×Value→H) :
  ReturnsInHanded {} Tryz.checked os 6 .any (Rows.scalarNumbersSpec.pre6 enc Tryz.prog Tryz.f6 Rows.scalarNumbersRow.domain false) (Rows.scalarNumbersSpec.post enc Tryz.prog Tryz.f6 false true false false):=by
 refine returnsInHanded_of_change_sized (C:=Tryz.checked) own started (by kernel_rfl) Tryz.func6
  (ChangeSpec.witness6 (enc:=enc) (C:=Tryz.checked) false ⟨#[],#[.int .i32 0,.agg #[.int .i64 0,.bool false,.slice none 0 0,.slice none 0 0,.int .i64 0],.agg #[.bool false,.slice none 0 0,.slice none 0 0,.bool false,.slice none 0 0,.slice none 0 0]],[]⟩ 8 (by kernel_rfl) (by kernel_rfl) (by kernel_rfl) (by kernel_rfl)) ?_
 intro W base args ds gs before hval0 hW hcnd hsz _
 have hval:∀ (j:Nat) t v,Tryz.f6.params[j]?=some t→args[j]?=some v→Value.okWide Tryz.prog W .any base t v:=hval0
 have hW':=hW
 obtain ⟨p,q,hA0,hV,rfl,hfz,hnd⟩:=hW
 have hA:DataW.TrodAll enc Tryz.prog W 0 (fun _=>true) true Tryz.f6.params.toList args.toList ds p:=hA0
 rw [Tryz.params6] at hA hval
 obtain ⟨v0,vs0,d0,ds0,p0,q0,hargs,rfl,rfl,h0,r0⟩:=trodAll_cons hA
 obtain ⟨v1,vs1,d1,ds1,p1,q1,rfl,rfl,rfl,h1,r1⟩:=trodAll_cons r0
 obtain ⟨v2,vs2,d2,ds2,p2,q2,rfl,rfl,rfl,h2,r2⟩:=trodAll_cons r1
 obtain ⟨rfl,rfl,rfl⟩:=trodAll_nil r2
 obtain rfl:args=#[v0,v1,v2]:=by cases args;simp_all
 obtain ⟨rfl,rfl⟩:=trodVars_none hV
 rw [Tryz.params6] at hsz
 have w0:∀ m∈DataW.weights Tryz.prog 21 d0,m≤reachBytes:=fun m hm=>by simpa using List.all_eq_true.1 hsz m (DataW.weights_mem_each (j:=0) rfl rfl m hm)
 obtain ⟨a0,o0,e0⟩:=Yy (by kernel_rfl:Tryz.prog.underlying 21=some (.int .i32)) (hval 0 21 v0 rfl rfl) h0
 have w1:∀ m∈DataW.weights Tryz.prog 34 d1,m≤reachBytes:=fun m hm=>by simpa using List.all_eq_true.1 hsz m (DataW.weights_mem_each (j:=1) rfl rfl m hm)
 obtain ⟨a1,o1,e1⟩:=TX (v:=v1) Y8 (let ⟨cs,h,_⟩:=okWide_struct (P:=Tryz.prog) Tryz.underlying34 (hval 1 34 v1 rfl rfl);⟨cs,h⟩) h1 w1
 have w2:∀ m∈DataW.weights Tryz.prog 46 d2,m≤reachBytes:=fun m hm=>by simpa using List.all_eq_true.1 hsz m (DataW.weights_mem_each (j:=2) rfl rfl m hm)
 obtain ⟨a2,o2,e2⟩:=TX (v:=v2) Yc (let ⟨cs,h,_⟩:=PZ (P:=Tryz.prog) Tryz.underlying46 (hval 2 46 v2 rfl rfl);⟨cs,h⟩) h2 w2
 refine (UK (IG (LO o0 o1 o2)) (.cons e0 (.cons e1 (.cons e2 .nil)))).mono fun e W' ⟨he,hb⟩=>?_
 subst he
 exact ⟨_,rfl,VV hW' rfl (fun _=>rfl) rfl Tryz.underlying4 laid params hb⟩
theorem over : Rows.scalarNumbersRow.holds Tryz.pinned (OpenSpec.ofChange Rows.scalarNumbersSpec) :=
 OpenClaim.holds_of_wide 6 Tryz.f6 rfl rfl rfl rfl rfl rfl rfl ⟨rfl,rfl,rfl,rfl,rfl⟩ rfl rfl rfl rfl rfl (by kernel_rfl) Tryz.func6 (by kernel_rfl)
  (of_decide_eq_true (by kernel_rfl)) (by unfold Func.isWrapper;first|(rw [if_pos (by decide +kernel)];kernel_rfl)|(rw [if_neg (by decide +kernel)];exact ⟨rfl,rfl⟩))
  (fun os started H enc _=>lifted os started H enc)
theorem proved : Rows.ScalarNumbersSaid :=
 over
end Go.Proofs.YtbeekjoeaigngaaGreat.scalarNumbers
