/-
  Part 3 of the base of the proofs: a logic of our own over the calculus, the contracts of the functions
-/
import Derived.Test.YtipdmmpgepoggaaGreatSeB
set_option linter.unusedVariables false
namespace Go.FL
open Go Go.Proofs
abbrev Rv (b:Bool) (n d:List Nat) : DV:=.ag [.b b,.sl (L n),.sl (L d)]
theorem fR0 : Cg Tryz.prog 34 0=some (0,1):=by kernel_rfl
theorem fR1 : Cg Tryz.prog 34 1=some (1,1):=by kernel_rfl
theorem fR2 : Cg Tryz.prog 34 2=some (2,1):=by kernel_rfl
theorem aR : Cu Tryz.prog 34=some true:=by kernel_rfl
theorem sR : AA Tryz.prog 34=3:=by kernel_rfl
theorem pR : DN Tryz.prog 34=some [(0,1),(1,1),(2,1)]:=by kernel_rfl
theorem iR : (Tryz.prog.info? 34).bind (·.zero)=some (.agg #[.bool false,.slice none 0 0,.slice none 0 0]):=by kernel_rfl
theorem Aj {P:Program} {t:TypeId} {z:Value} (h:(P.info? t).bind (·.zero)=some z) (w:World) : (zeroValue t).run P w=.ok z w:=by
 cases hi:P.info? t with
 | none=>rw [hi] at h;cases h
 | some i =>
  rw [hi] at h
  simp only [oB] at h
  simp [zeroValue,typeInfo,hi,h]
theorem rR (w:World) (I:Nat→Prop) : RepAll w I [.b false,.sl [],.sl []] (Value.agg #[.bool false,.slice none 0 0,.slice none 0 0]).cells.toList:=.cons (.b _) (.cons (.sl0 _ _) (.cons (.sl0 _ _) .nil))
theorem aB : Cu Tryz.prog 4=some false:=by kernel_rfl
theorem aS : Cu Tryz.prog 32=some false:=by kernel_rfl
theorem KK : Fn Tryz.prog 87 [] (.own 128 (L [1])):=by
 refine Fn.o1 0 2 Tryz.func87 ?_;refine .sr ?_;refine asn ?_;refine rn ?_;refine .sr ?_
 refine bsl ?_ ?_ e32
 ·simp [DV.flat,DV.cells,DV.leaf]
 refine aso ?_;refine rn ?_;refine .ret ?_
 exact ⟨rfl,rfl⟩
theorem ND (a b:List Nat) (hla:a.length≤1048576) (hoa:Ok a) (hob:Ok b) : Fn Tryz.prog 113 [.sl (L a),.sl (L b)] (.d (.b (decide (a=b)))):=by
 refine Fn.o1 4 26 Tryz.func113 ?_;refine .sr ?_;refine asd ?_;refine rn ?_;refine .seq ?_;refine .sr ?_;refine mvd ?_
 refine ln ?_ (Dh _) l32
 refine mvd ?_
 refine ln ?_ (Dh _) l32
 refine bi ?_;refine rn ?_
 by_cases hlen:a.length≠b.length
 ·rw [dF (show ¬(((L a).length:Nat):Int)=((L b).length:Nat) by rw [Ae,Ae];omega)]
  refine Ed ?_;refine .sr ?_;refine asd ?_;refine rn ?_;refine .ret ?_
  exact ⟨by rw [dF (fun h=>hlen (by rw [h]))];rfl,rfl⟩
 rw [dT (show (((L a).length:Nat):Int)=((L b).length:Nat) by rw [Ae,Ae];omega)]
 refine DF ?_;refine .skip ?_
 show AW _ _ _ _ _ _
 refine .seq ?_;refine .sr ?_;refine mvd ?_
 refine ln ?_ (Dh _) l32
 refine mvd ?_;refine rn ?_;refine .block ?_
 refine .loop (.gh (Gh.keep [0,1,11,12,13] rfl) ?_)
 refine AL.ind (σ:=Nat) (m:=fun i=>a.length-i) (e:=fun i=>[(0,.d (.sl (L a))),(1,.d (.sl (L b))),(11,.d (.sl (L a))),(12,.d (.i .i64 ((L a).length:Nat))),(13,.d (.i .i64 (i:Int)))]) (h:=fun _=>[])
  (I:=fun i=>i≤a.length∧a.take i=b.take i) ?_ 0 ⟨Nat.zero_le _,rfl⟩
 rintro i ⟨h1,h2⟩ ih
 refine .sr ?_;refine bi ?_;refine rn ?_;refine .seq ?_
 by_cases hi:i<a.length
 ·rw [dT (show (i:Int)<((L a).length:Nat) by rw [Ae];omega)]
  have hx:a[i]?=some a[i]:=lG hi
  have hy:b[i]?=some b[i]:=lG (by omega)
  have hdx:a.take (i+1)=a.take i++[a[i]]:=List.take_succ_eq_append_getElem hi
  have hdy:b.take (i+1)=b.take i++[b[i]]:=List.take_succ_eq_append_getElem (by omega)
  generalize a[i]=x at hx hdx
  generalize b[i]=y at hy hdy
  refine Ed ?_;refine .skip ?_
  show AW _ _ _ _ _ _
  refine .seq ?_;refine .block ?_;refine .sr ?_;refine mvd ?_;refine asd ?_;refine rn ?_;refine .seq ?_;refine .drawn 9 Bb (by kernel_rfl) ?_;refine dv Aa ?_;refine dv Aa ?_;refine dv (vix i rfl (HT hx) rfl s32) ?_;refine dv (Ah a32) ?_;refine dv Aa ?_;refine dv Aa ?_;refine dv (vix i rfl (HT hy) rfl s32) ?_;refine dv (Ah a32) ?_;refine dv vbi ?_;refine dz ?_;refine rn ?_
  by_cases hxy:x≠y
  ·rw [dF (show ¬(x:Int)=(y:Int) by omega)]
   refine Ed ?_;refine .sr ?_;refine asd ?_;refine rn ?_;refine .ret ?_
   exact ⟨by rw [dF (fun h=>hxy (by rw [h] at hx;rw [hx] at hy;exact oI hy))];rfl,rfl⟩
  rw [dT (show (x:Int)=(y:Int) by omega)]
  refine DF ?_;refine .skip ?_
  show AW _ _ _ _ _ _
  refine .region ?_;refine ad ((i+1:Nat):Int) ?_ ?_
  ·omega
  refine mvd ?_;refine .nil ?_;refine AL.gh (Gh.keep [0,1,11,12,13] rfl) ?_
  exact ih (i+1) ⟨by omega,by rw [hdx,hdy,h2];congr 2;omega⟩ (by omega)
 rw [dF (show ¬(i:Int)<((L a).length:Nat) by rw [Ae];omega)]
 refine DF ?_;refine .exit ?_
 show AW _ _ _ _ _ _
 refine .sr ?_;refine asd ?_;refine rn ?_;refine .ret ?_
 rw [List.take_of_length_le (by omega),List.take_of_length_le (by omega)] at h2
 exact ⟨by rw [dT h2];rfl,rfl⟩
def Na (b:Bool) (n d:List Nat) : Prop:=A1 (val n)=n∧A1 (val d)=d∧n.length≤32∧d.length≤32∧d≠[]∧(n=[]→b=false)∧Nat.gcd (val n) (val d)=1
instance (b:Bool) (n d:List Nat) : Decidable (Na b n d):=by unfold Na;infer_instance
def Jo (b:Bool) (n d:List Nat) : Bool:=decide (Na b n d)
theorem HK {b:Bool} {n d:List Nat} (h:¬Na b n d) : Jo b n d=false:=dF h
theorem I8 {g:Nat} : A1 g=[1]↔g=1:=by
 have one:A1 1=[1]:=Lh (n:=1) (by decide) (by decide)
 constructor
 ·intro h
  have:=C2 g
  rw [h] at this
  simpa [val] using this.symm
 ·rintro rfl;exact one
theorem Io {l:List Nat} : l≠[]↔0<l.length:=by
 cases l<;>simp
theorem Ql {b:Bool} {n d:List Nat} (hn:Ok n) (hd:Ok d) (hln:n.length≤35184372087808) (hld:d.length≤35184372087808) : Fn Tryz.prog 117 [Rv b n d] (.d (.b (Jo b n d))):=by
 refine Fn.o1 2 50 Tryz.func117 ?_;refine .sr ?_;refine vk vbx ?_;refine asd ?_;refine rn ?_;refine .seq ?_;refine .sr ?_;refine vk (vfa fR1) ?_
 refine ldp ?_ aS
 refine cl (xs:=[.sl (L n)]) ?_ (NE hn hln) Tryz.call156
 refine nt_ ?_
 by_cases h1:¬A1 (val n)=n
 ·rw [dF h1]
  refine mvd ?_;refine gf ?_;refine gf ?_;refine gf ?_;refine gf ?_;refine pkd ?_;refine mvd ?_;refine gf ?_;refine gf ?_;refine gf ?_;refine gf ?_;refine pkd ?_;refine mvd ?_;refine gf ?_;refine gf ?_;refine gf ?_;refine gf ?_;refine pkd ?_;refine rn ?_;refine .gh (Gh.keep [1,24] rfl) ?_;refine Ed ?_;refine .sr ?_;refine asd ?_;refine rn ?_;refine .ret ?_
  exact ⟨by rw [HK (fun h=>h1 h.1)];rfl,rfl⟩
 rw [Decidable.not_not] at h1
 rw [dT h1]
 refine mvd ?_;refine vk (vfa fR2) ?_
 refine ldp ?_ aS
 refine cl (xs:=[.sl (L d)]) ?_ (NE hd hld) Tryz.call156
 refine nt_ ?_
 by_cases h2:¬A1 (val d)=d
 ·rw [dF h2]
  refine pkd ?_;refine mvd ?_;refine gf ?_;refine gf ?_;refine gf ?_;refine gf ?_;refine pkd ?_;refine mvd ?_;refine gf ?_;refine gf ?_;refine gf ?_;refine gf ?_;refine pkd ?_;refine rn ?_;refine .gh (Gh.keep [1,24] rfl) ?_;refine Ed ?_;refine .sr ?_;refine asd ?_;refine rn ?_;refine .ret ?_
  exact ⟨by rw [HK (fun h=>h2 h.2.1)];rfl,rfl⟩
 rw [Decidable.not_not] at h2
 rw [dT h2]
 refine pkd ?_;refine mvd ?_;refine vk (vfa fR1) ?_
 refine ldp ?_ aS
 refine ln ?_ (Dh _) l32
 refine bi ?_
 by_cases h3:32<n.length
 ·rw [dT (show (32:Int)<((L n).length:Nat) by rw [Ae];omega)]
  refine pkd ?_;refine mvd ?_;refine gf ?_;refine gf ?_;refine gf ?_;refine gf ?_;refine pkd ?_;refine rn ?_;refine .gh (Gh.keep [1,24] rfl) ?_;refine Ed ?_;refine .sr ?_;refine asd ?_;refine rn ?_;refine .ret ?_
  exact ⟨by rw [HK (fun h=>by have:=h.2.2.1;omega)];rfl,rfl⟩
 rw [dF (show ¬(32:Int)<((L n).length:Nat) by rw [Ae];omega)]
 refine pkd ?_;refine mvd ?_;refine vk (vfa fR2) ?_
 refine ldp ?_ aS
 refine ln ?_ (Dh _) l32
 refine bi ?_
 by_cases h4:32<d.length
 ·rw [dT (show (32:Int)<((L d).length:Nat) by rw [Ae];omega)]
  refine pkd ?_;refine rn ?_;refine .gh (Gh.keep [1,24] rfl) ?_;refine Ed ?_;refine .sr ?_;refine asd ?_;refine rn ?_;refine .ret ?_
  exact ⟨by rw [HK (fun h=>by have:=h.2.2.2.1;omega)];rfl,rfl⟩
 rw [dF (show ¬(32:Int)<((L d).length:Nat) by rw [Ae];omega)]
 have g1:=UC (M:=32) (ls:=[n,d]) (by simp [hn,hd]) (by simp;omega) (by simp) (by decide)
 rw [show JJ [n,d]=Nat.gcd (val n) (val d) by show Nat.gcd (Nat.gcd 0 (val n)) (val d)=_;rw [Nat.gcd_zero_left]] at g1
 have lg:(A1 (Nat.gcd (val n) (val d))).length≤32:=Fq (UQ (nL (FS hn) (Nat.pow_le_pow_right (by decide) (by omega))) (nL (FS hd) (Nat.pow_le_pow_right (by decide) (by omega))))
 have q1:=ND (A1 (Nat.gcd (val n) (val d))) [1] (by omega) (Fd _) (by simp [Ok])
 rw [decide_eq_decide.2 I8] at q1
 refine pkd ?_;refine rn ?_;refine .gh (Gh.keep [1,24] rfl) ?_;refine DF ?_;refine .skip ?_
 show AW _ _ _ _ _ _
 refine .sr ?_;refine vk (vfa fR2) ?_
 refine ldp ?_ aS
 refine ln ?_ (Dh _) l32
 refine bi ?_
 by_cases h5:0<d.length
 ·rw [dT (show (0:Int)<((L d).length:Nat) by rw [Ae];omega)]
  refine mvd ?_;refine vk (vfa fR1) ?_
  refine ldp ?_ aS
  refine ln ?_ (Dh _) l32
  refine bi ?_
  by_cases h6:0<n.length
  ·rw [dT (show (0:Int)<((L n).length:Nat) by rw [Ae];omega)]
   refine mvd ?_;refine gf ?_;refine gf ?_;refine gf ?_;refine pkd ?_;refine pkd ?_;refine mvd ?_;refine vk (vfa fR1) ?_
   refine ldp ?_ aS
   refine vk (vfa fR2) ?_
   refine ldp ?_ aS
   refine bsl ?_ ?_ e2
   ·simp [DV.flat,DV.cells,DV.leaf]
   refine fz (p:=.t 45) ?_
   refine cl (xs:=[.sl (LL [n,d])]) ?_ g1 Tryz.call157
   refine cl (xs:=[]) ?_ KK Tryz.call87
   refine fz (p:=.t 47) ?_
   refine cl (xs:=[.sl (L (A1 (Nat.gcd (val n) (val d)))),.sl (L [1])]) ?_ q1 Tryz.call113
   refine pkd ?_;refine asd ?_;refine rn ?_;refine .ret ?_
   exact ⟨by rw [show Jo b n d=decide (Nat.gcd (val n) (val d)=1) from decide_eq_decide.2 ⟨fun h=>h.2.2.2.2.2.2,fun h=>⟨h1,h2,by omega,by omega,Io.2 h5,fun h0=>by rw [h0] at h6;simp at h6,h⟩⟩];rfl,rfl⟩
  rw [dF (show ¬(0:Int)<((L n).length:Nat) by rw [Ae];omega)]
  refine mvd ?_;refine vk (vfa fR0) ?_
  refine ldp ?_ aB
  refine nt_ ?_
  by_cases h7:b=false
  ·subst h7
   refine pkd ?_;refine pkd ?_;refine mvd ?_;refine vk (vfa fR1) ?_
   refine ldp ?_ aS
   refine vk (vfa fR2) ?_
   refine ldp ?_ aS
   refine bsl ?_ ?_ e2
   ·simp [DV.flat,DV.cells,DV.leaf]
   refine fz (p:=.t 45) ?_
   refine cl (xs:=[.sl (LL [n,d])]) ?_ g1 Tryz.call157
   refine cl (xs:=[]) ?_ KK Tryz.call87
   refine fz (p:=.t 47) ?_
   refine cl (xs:=[.sl (L (A1 (Nat.gcd (val n) (val d)))),.sl (L [1])]) ?_ q1 Tryz.call113
   refine pkd ?_;refine asd ?_;refine rn ?_;refine .ret ?_
   exact ⟨by rw [show Jo false n d=decide (Nat.gcd (val n) (val d)=1) from decide_eq_decide.2 ⟨fun h=>h.2.2.2.2.2.2,fun h=>⟨h1,h2,by omega,by omega,Io.2 h5,fun _=>rfl,h⟩⟩];rfl,rfl⟩
  rw [Bool.not_eq_false] at h7;subst h7
  refine pkd ?_;refine pkd ?_;refine mvd ?_;refine gf ?_;refine gf ?_;refine gf ?_;refine gf ?_;refine gf ?_;refine gf ?_;refine gf ?_;refine gf ?_;refine pkd ?_;refine asd ?_;refine rn ?_;refine .ret ?_
  exact ⟨by rw [HK (fun h=>by have:=h.2.2.2.2.2.1 (List.length_eq_zero_iff.1 (by omega));cases this)];rfl,rfl⟩
 rw [dF (show ¬(0:Int)<((L d).length:Nat) by rw [Ae];omega)]
 refine mvd ?_;refine gf ?_;refine gf ?_;refine gf ?_;refine gf ?_;refine gfu ?_;refine gfn ?_;refine gfn ?_;refine gfn ?_;refine gf ?_;refine pkd ?_;refine mvd ?_;refine gf ?_;refine gf ?_;refine gf ?_;refine gf ?_;refine gf ?_;refine gf ?_;refine gf ?_;refine gf ?_;refine pkd ?_;refine asd ?_;refine rn ?_;refine .ret ?_
 exact ⟨by rw [HK (fun h=>h5 (Io.1 h.2.2.2.2.1))];rfl,rfl⟩
abbrev RT:=Bool×List Nat×List Nat
def okR (r:RT) : Prop:=Ok r.2.1∧Ok r.2.2∧r.2.1.length≤35184372087808∧r.2.2.length≤35184372087808
def Fl (r:RT) : Bool:=Jo r.1 r.2.1 r.2.2
theorem OD (b c:Bool) (n d m e:List Nat) (hn:n.length≤35184372087808) (hd:d.length≤35184372087808) : Fn Tryz.prog 88 [Rv b n d,Rv c m e] (.d (.b (decide (b=c∧n=m∧d=e)))):=by
 have s1:=PC n m hn
 have s2:=PC d e hd
 refine Fn.o1 4 24 Tryz.func88 ?_;refine .sr ?_;refine vk vbx ?_;refine vk vbx ?_;refine asd ?_;refine rn ?_;refine .sr ?_;refine vk (vfa fR0) ?_
 refine ldp ?_ aB
 refine vk (vfa fR0) ?_
 refine ldp ?_ aB
 refine bbn ?_ (.inl rfl) bo
 rw [if_pos rfl]
 by_cases hb:b=c
 ·subst hb
  rw [beq_self_eq_true]
  refine mvd ?_;refine vk (vfa fR1) ?_
  refine ldp ?_ aS
  refine vk (vfa fR1) ?_
  refine ldp ?_ aS
  refine cl (xs:=[.sl (L n),.sl (L m)]) ?_ s1 Tryz.call144
  by_cases hm:n=m
  ·rw [dT hm]
   refine pkd ?_;refine mvd ?_;refine vk (vfa fR2) ?_
   refine ldp ?_ aS
   refine vk (vfa fR2) ?_
   refine ldp ?_ aS
   refine cl (xs:=[.sl (L d),.sl (L e)]) ?_ s2 Tryz.call144
   refine pkd ?_;refine asd ?_;refine rn ?_;refine .ret ?_
   exact ⟨by rw [show decide (b=b∧n=m∧d=e)=decide (d=e) from decide_eq_decide.2 ⟨fun h=>h.2.2,fun h=>⟨rfl,hm,h⟩⟩];rfl,rfl⟩
  rw [dF hm]
  refine pkd ?_;refine mvd ?_;refine gf ?_;refine gf ?_;refine gf ?_;refine gf ?_;refine gf ?_;refine pkd ?_;refine asd ?_;refine rn ?_;refine .ret ?_
  exact ⟨by rw [dF (fun h=>hm h.2.1)];rfl,rfl⟩
 rw [beq_false_of_ne hb]
 refine mvd ?_;refine gf ?_;refine gf ?_;refine gf ?_;refine gf ?_;refine gf ?_;refine pkd ?_;refine mvd ?_;refine gf ?_;refine gf ?_;refine gf ?_;refine gf ?_;refine gf ?_;refine pkd ?_;refine asd ?_;refine rn ?_;refine .ret ?_
 exact ⟨by rw [dF (fun h=>hb h.1)];rfl,rfl⟩
theorem UZ {z:Int} (h0:0≤z) (h1:z≤9223372036854775807) : IntKind.u64.wrap z=((z.natAbs:Nat) : Int):=by
 simp only [IntKind.wrap,IntKind.bits,IntKind.signed];simp;omega
theorem Tc {z:Int} (h0:z<0) (h1:-9223372036854775808≤z) : IntKind.u64.wrap (0-IntKind.u64.wrap z)=((z.natAbs:Nat) : Int):=by
 simp only [IntKind.wrap,IntKind.bits,IntKind.signed];simp;omega
theorem RF {z:Int} (h1:-9223372036854775808≤z) (h2:z≤9223372036854775807) : Fn Tryz.prog 45 [.i .i64 z] (.d (Rv (decide (z<0)) (A1 z.natAbs) [1])):=by
 have f:=T8 (n:=z.natAbs) (by omega)
 refine Fn.ofC (rs:=[.cell 2 34]) (nt:=16) Tryz.func45 rfl rfl rfl (by simp) rfl ?_;refine .sr ?_;refine vk (van (Aj iR) rR) ?_;refine rn ?_;refine .seq ?_;refine .sr ?_;refine mvd ?_;refine bi ?_;refine rn ?_
 by_cases hz:z<0
 ·rw [dT hz]
  refine Ed ?_;refine .sr ?_;refine mvd ?_
  refine cv ?_ i64 u64
  refine ng ?_
  rw [Tc hz h1]
  refine cl (xs:=[.i .u64 ((z.natAbs:Nat):Int)]) ?_ f Tryz.call86
  refine cl (xs:=[]) ?_ KK Tryz.call87
  refine fz (p:=.t 9) ?_;refine vk (vbd pR iR rR) ?_
  refine stn ?_ sR (by decide)
  refine rn ?_;refine .ret ?_
  exact ⟨_,⟨.inr rfl,aR,sR,p3⟩,rfl⟩
 rw [dF hz]
 refine DF ?_;refine .skip ?_
 show AW _ _ _ _ _ _
 refine .sr ?_;refine mvd ?_
 refine cv ?_ i64 u64
 rw [UZ (by omega) h2]
 refine cl (xs:=[.i .u64 ((z.natAbs:Nat):Int)]) ?_ f Tryz.call86
 refine cl (xs:=[]) ?_ KK Tryz.call87
 refine fz (p:=.t 14) ?_;refine vk (vbd pR iR rR) ?_
 refine stn ?_ sR (by decide)
 refine rn ?_;refine .ret ?_
 exact ⟨_,⟨.inr rfl,aR,sR,p3⟩,rfl⟩
abbrev Q3:=Bool×Nat×Nat
theorem EQ : Cu Tryz.prog 4=some false:=by kernel_rfl
theorem Ap : Cu Tryz.prog 3=some false:=by kernel_rfl
theorem B4 : AA Tryz.prog 3=1:=by kernel_rfl
theorem Uw : (Tryz.prog.info? 3).bind (·.zero)=some (.int .i64 0):=by kernel_rfl
theorem SW (w:World) (I:Nat→Prop) (μ:List Nat) : ARepAll Tryz.prog w I μ [.d (.i .i64 0)] (Value.cells (.int .i64 0)).toList []:=ARepAll.cons (b1:=[]) (b2:=[]) (.d (.i _ _)) .nil
theorem Ek : Cu Tryz.prog 21=some false:=by kernel_rfl
theorem Jx : Cu Tryz.prog 34=some true:=by kernel_rfl
theorem HW : AA Tryz.prog 34=3:=by kernel_rfl
theorem Gs : Cg Tryz.prog 34 0=some (0,1):=by kernel_rfl
theorem GF : Cg Tryz.prog 34 1=some (1,1):=by kernel_rfl
theorem Hd : Cg Tryz.prog 34 2=some (2,1):=by kernel_rfl
theorem VH : DN Tryz.prog 34=some [(0,1),(1,1),(2,1)]:=by kernel_rfl
theorem So : (Tryz.prog.info? 34).bind (·.zero)=some (.agg #[.bool false,.slice none 0 0,.slice none 0 0]):=by kernel_rfl
theorem Vy (w:World) (I:Nat→Prop) (μ:List Nat) : ARepAll Tryz.prog w I μ [.d (.b false),.nl,.nl] (Value.agg #[.bool false,.slice none 0 0,.slice none 0 0]).cells.toList []:=ARepAll.cons (b1:=[]) (b2:=[]) (.d (.b _)) (ARepAll.cons (b1:=[]) (b2:=[]) (.nl) (ARepAll.cons (b1:=[]) (b2:=[]) (.nl) (.nil)))
theorem TH (w:World) (I:Nat→Prop) : RepAll w I [.b false,.sl [],.sl []] (Value.agg #[.bool false,.slice none 0 0,.slice none 0 0]).cells.toList:=.cons (.b _) (.cons (.sl0 _ _) (.cons (.sl0 _ _) (.nil)))
theorem Ip : Cu Tryz.prog 32=some false:=by kernel_rfl
theorem Vx : AA Tryz.prog 32=1:=by kernel_rfl
theorem VB : Cn Tryz.prog 32=some (128,1,4,.int .u32 0):=by kernel_rfl
theorem Vu : Tryz.prog.underlying 32=some (.slice (Tryz.prog.elem 32)):=by kernel_rfl
theorem Vw : (35184372088832:Nat) * 4≤140737488355328∧(35184372088832:Nat)≤9223372036854775807:=by decide
end Go.FL
namespace Go.FL
open Go Go.RowKit
section
variable {P:Program} {C:Cx} {X:Snap} {o:Oper} {ops:Array Oper} {Q:Exit→Env→Af→Prop} {env env':Env} {H H':Af} {a:Act} {w w':World} {I I':Nat→Prop} {μ μ':List Nat} {O O':Nat→Option Loc}
theorem Sim.grow2 {Kb:Nat→Prop} (hs:Sim P X env H a w I μ O) (hK:∀ b,Kb b→O b=none∧¬X.K b∧¬I b) (hsz:w.heap.size≤w'.heap.size) (hb:∀ b,b<w.heap.size→¬Kb b→w'.heap[b]?=w.heap[b]?)
  (hos:w'.os=w.os) (htp:w'.tape=w.tape) (hout:w'.output=w.output) (hI:∀ b,I b→I' b) (hI2:∀ b,I' b→b<w'.heap.size) (hI3:∀ b,b<w.heap.size→¬Kb b→I' b→I b):Sim P X env H a w' I' μ O:=by
 have hXK:∀ b,X.K b→w'.heap[b]?=w.heap[b]?:=fun b hk=>hb b (nL (hs.klt b hk) hs.size) fun h=>(hK b h).2.1 hk
 have hII:∀ b,I b→w'.heap[b]?=w.heap[b]?:=fun b hi=>hb b (hs.ilt b hi) fun h=>(hK b h).2.2 hi
 have hOO:∀ b l,O b=some l→w'.heap[b]?=w.heap[b]?:=fun b l h=>hb b (hs.own b l h).1 fun hk=>by rw [(hK b hk).1] at h;cases h
 have hobj:∀ (id:Nat) o,H[id]?=some o→∃ blk bs,μ[id]?=some blk∧ORep P w I μ o blk bs∧(X.n0≤id→(blk::bs).Nodup∧∀ b∈blk::bs,O b=some (.o id))∧(id<X.n0→∀ b∈blk::bs,X.K b)∧∀ b∈blk::bs,w'.heap[b]?=w.heap[b]?:=fun id o ho=>by
  obtain ⟨blk,bs,h1,h2,h3,h4⟩:=hs.heap id o ho
  refine ⟨blk,bs,h1,h2,h3,h4,fun b hm=>?_⟩
  rcases Nat.lt_or_ge id X.n0 with hlt|hge
  ·exact hXK b (h4 hlt b hm)
  ·exact hOO b _ ((h3 hge).2 b hm)
 refine ⟨{
  prot:=fun b hk=>(hXK b hk).trans (hs.prot b hk)
  kO:=hs.kO
  kI:=fun b hk hi=>hs.kI b hk (hI3 b (nL (hs.klt b hk) hs.size) (fun h=>(hK b h).2.1 hk) hi)
  mono:=fun b hi=>hI b (hs.mono b hi)
  os:=hos.trans hs.os,tape:=htp.trans hs.tape,output:=hout.trans hs.output,size:=nT hs.size hsz
  own:=fun b l h=>⟨nL (hs.own b l h).1 hsz,fun hi=>(hs.own b l h).2 (hI3 b (hs.own b l h).1 (fun hk=>by rw [(hK b hk).1] at h;cases h) hi)⟩
  ilt:=hI2,μlen:=hs.μlen,μpre:=hs.μpre,nle:=hs.nle
  heap:=fun id o ho=>by
   obtain ⟨blk,bs,h1,h2,h3,h4,h5⟩:=hobj id o ho
   refine ⟨blk,bs,h1,?_,h3,h4⟩
   cases o with
   | box cs =>
    obtain ⟨cells,e,k1,k2⟩:=h2
    exact ⟨cells,e,(h5 blk (by simp)).trans k1,k2.keep hI hII (fun _ _ h=>h) fun b hm=>h5 b (by simp [hm])⟩
  klt:=hs.klt,n0le:=hs.n0le},fun t=>?_,hs.nt,hs.dfs⟩
 refine (hs.envr t).keepG hI hII (fun _ _ h=>h) (fun b hm=>⟨hOO b _ hm,hm⟩) fun p e xs hp=>⟨hp,fun v hv=>?_⟩
 cases p with
 | t r=>exact hv
 | c id off =>
  simp only [Ba,Option.bind_eq_some_iff] at hv ⊢
  obtain ⟨b,hb1,hb2⟩:=hv
  refine ⟨b,hb1,?_⟩
  simp only [AN] at hp
  cases hH:H[id]? with
  | none=>rw [hH] at hp;cases hp
  | some ob =>
   obtain ⟨blk,bs,h1,_,_,_,h5⟩:=hobj id ob hH
   rw [hb1] at h1;cases h1
   rw [World.cell?_of_block (w:=w) (a:=⟨b,off,none⟩) (h5 b (by simp))]
   exact hb2
abbrev JT:=Nat→World→(Nat→Prop)→(Nat→Prop)→Prop
def JOK (J:JT) : Prop:=∀ {k:Nat} {W:World} {I K:Nat→Prop} {W':World} {I' K':Nat→Prop},J k W I K→W.heap.size≤W'.heap.size→(∀ b,b<W.heap.size→¬K b→W'.heap[b]?=W.heap[b]?) →
 W'.os=W.os→W'.tape=W.tape→W'.output=W.output→(∀ b,I b→I' b)→(∀ b,I' b→b<W'.heap.size)→(∀ b,b<W.heap.size→¬K b→I' b→I b)→(∀ b,K' b→b<W'.heap.size∧¬I' b)→(∀ b,K' b→b<W.heap.size→K b)→J k W' I' K'
def Ot (P:Program) (l:Nat) (J:JT) (k:Nat) (b:Bool) (ds:List DV) : Prop:=∀ (W:World) (I K:Nat→Prop) (vs:List Value),J k W I K→RepAll W I ds vs →
 YieldAt (om none) 0 P l vs.toArray W fun e W'=>e=.returned (.bool b)∧∃ I',J (k+1) W' I' K∧(∀ b,K b→W'.heap[b]?=W.heap[b]?∧¬I' b)∧(∀ b,I b→I' b∧W'.heap[b]?=W.heap[b]?)∧W.heap.size≤W'.heap.size∧∀ b,I' b→b<W'.heap.size
def ItG (P:Program) (f:FuncId) (caps:List DV) (ys:List (List DV)) (n:Nat) : Prop :=
 ∀ (l:Nat) (W:World) (I:Nat→Prop) (cv:List Value) (J:JT),JOK J→RepAll W I caps cv→(∀ b,I b→b<W.heap.size)→(∀ k ds,ys[k]?=some ds→k≤n→Ot P l J k (decide (k<n)) ds)→J 0 W I (fun _=>False) →
  CallsIn (om none) 0 P f (#[.func (.yield l) #[] #[]]++cv.toArray) W fun e W'=>(∃ v,e=.returned v)∧∃ I' K',J (min (n+1) ys.length) W' I' K'
def JX (J:JT) (k:Nat) (X:Snap) : Prop:=∃ K,J k X.w X.I K∧∀ b,b<X.w.heap.size→¬X.K b→K b
def XJ (J:JT) (nt:Nat×Nat) (ags:List Value) (k:Nat) (X:Snap) : Prop:=X.nt=nt∧X.n0=0∧X.ne=0∧X.dfs=[]∧X.args=ags∧JX J k X
def Sv (P:Program) (nt:Nat×Nat) (J:JT) (ags:List Value) (Q:Exit→Env→Af→Nat→Prop) : Exit→Act→World→Prop:=fun e a w =>
 ∃ X env H I μ O k,XJ J nt ags k X∧Sim P X env H a w I μ O∧Q e env H k
def AWJ (P:Program) (nt:Nat×Nat) (J:JT) (ags:List Value) (c:Code) (Q:Exit→Env→Af→Nat→Prop) (env:Env) (H:Af) (k:Nat) : Prop :=
 ∀ X a w I μ O,XJ J nt ags k X→Sim P X env H a w I μ O→c.wpIn (om none) 0 P (Sv P nt J ags Q) a w
def ALJ (P:Program) (nt:Nat×Nat) (J:JT) (ags:List Value) (c:Code) (Q:Exit→Env→Af→Nat→Prop) (env:Env) (H:Af) (k:Nat) : Prop :=
 ∀ X a w I μ O,XJ J nt ags k X→Sim P X env H a w I μ O→LB (om none) 0 P c (Sv P nt J ags Q) a w
def RLJ (P:Program) (nt:Nat×Nat) (J:JT) (ags:List Value) (ops:Array Oper) (Q:Exit→Env→Af→Nat→Prop) (n:Nat) (l:List Oper) (env:Env) (H:Af) (k:Nat) : Prop :=
 ops.toList.drop n=l→∀ X a w I μ O,XJ J nt ags k X→Sim P X env H a w I μ O→wpOpsIn (om none) 0 P ops (Sv P nt J ags Q) (List.range' n l.length) a w
def RV (K:Env→Af→Nat→Prop) (Q:Exit→Env→Af→Nat→Prop) : Exit→Env→Af→Nat→Prop
 | .normal,env,H,k=>K env H k
 | e,env,H,k=>Q e env H k
def R7 (id:Nat) (Q:Exit→Env→Af→Nat→Prop) : Exit→Env→Af→Nat→Prop
 | .exit id',env,H,k=>if id'=id then Q .normal env H k else Q (.exit id') env H k
 | e,env,H,k=>Q e env H k
variable {nt:Nat×Nat} {J:JT} {ags:List Value} {QJ:Exit→Env→Af→Nat→Prop} {k n:Nat} {l:List Oper}
theorem AWJ.lift {c:Code} (h:AW P {nt:=nt,n0:=0,ne:=0} c (fun e env H=>QJ e env H k) env H) : AWJ P nt J ags c QJ env H k:=fun X a w I μ O hx hs =>
 wpIn_mono (h X a w I μ O hx.1 hx.2.1 hx.2.2.1 hs) fun _ _ _ ⟨env,H,I,μ,O,s,q⟩=>⟨X,env,H,I,μ,O,k,hx,s,q⟩
theorem AWJ.skip (h:QJ .normal env H k) : AWJ P nt J ags .skip QJ env H k:=.lift (.skip h)
theorem AWJ.exit {id:Nat} (h:QJ (.exit id) env H k) : AWJ P nt J ags (.exit id) QJ env H k:=.lift (.exit h)
theorem AWJ.ret (h:QJ .ret env H k) : AWJ P nt J ags .ret QJ env H k:=.lift (.ret h)
theorem AWJ.seq {x y:Code} (h:AWJ P nt J ags x (RV (AWJ P nt J ags y QJ) QJ) env H k) : AWJ P nt J ags (.seq x y) QJ env H k:=fun X a w I μ O hx hs =>
 wpIn_seq (wpIn_mono (h X a w I μ O hx hs) fun e _ _ ⟨X',env',H',I',μ',O',k',hx',s,q⟩=>by
  cases e with
  | normal=>exact q X' _ _ I' μ' O' hx' s
  | _=>exact ⟨X',env',H',I',μ',O',k',hx',s,q⟩)
theorem AWJ.block {id:Nat} {c:Code} (h:AWJ P nt J ags c (R7 id QJ) env H k) : AWJ P nt J ags (.block id c) QJ env H k:=fun X a w I μ O hx hs =>
 wpIn_block (wpIn_mono (h X a w I μ O hx hs) fun e _ _ ⟨X',env',H',I',μ',O',k',hx',s,q⟩=>by
  cases e with
  | exit id' =>
   simp only [Exit.inBlock]
   simp only [R7] at q
   split
   ·rename_i he;rw [if_pos he] at q;exact ⟨X',env',H',I',μ',O',k',hx',s,q⟩
   ·rename_i he;rw [if_neg he] at q;exact ⟨X',env',H',I',μ',O',k',hx',s,q⟩
  | _=>exact ⟨X',env',H',I',μ',O',k',hx',s,q⟩)
theorem AWJ.cond {t:Nat} {x:Bool} {c1 c2:Code} (hx:get env t=.d (.b x)) (h1:x=true→AWJ P nt J ags c1 QJ env H k) (h2:x=false→AWJ P nt J ags c2 QJ env H k) : AWJ P nt J ags (.cond (.tmp t) c1 c2) QJ env H k:=fun X a w I μ O g hs =>
 wpIn_cond_split (t:=x) (hs.bool hx) (fun e=>h1 e X a w I μ O g hs) (fun e=>h2 e X a w I μ O g hs)
theorem ALJ.loop {c:Code} (h:ALJ P nt J ags c QJ env H k) : AWJ P nt J ags (.loop c) QJ env H k:=fun X a w I μ O hx hs=>(h X a w I μ O hx hs).loop
theorem ALJ.round {c:Code} (h:AWJ P nt J ags c (RV (ALJ P nt J ags c QJ) QJ) env H k) : ALJ P nt J ags c QJ env H k:=fun X a w I μ O hx hs =>
 .round (wpIn_mono (h X a w I μ O hx hs) fun e _ _ ⟨X',env',H',I',μ',O',k',hx',s,q⟩=>by
  cases e with
  | normal=>exact q X' _ _ I' μ' O' hx' s
  | _=>exact ⟨X',env',H',I',μ',O',k',hx',s,q⟩)
theorem ALJ.ind {c:Code} {σ:Type} (m:σ→Nat) (e:σ→Env) (h:σ→Af) (r:σ→Nat) (I:σ→Prop)
  (step:∀ s,I s→(∀ s',I s'→m s'<m s→ALJ P nt J ags c QJ (e s') (h s') (r s'))→AWJ P nt J ags c (RV (ALJ P nt J ags c QJ) QJ) (e s) (h s) (r s)):∀ s,I s→ALJ P nt J ags c QJ (e s) (h s) (r s):=by
 suffices H:∀ n s,m s=n→I s→ALJ P nt J ags c QJ (e s) (h s) (r s) from fun s hs=>H _ s rfl hs
 intro n
 induction n using Nat.strongRecOn with
 | ind n ih =>
  intro s hm hs
  exact .round (step s hs fun s' h1 h2=>ih (m s') (by omega) s' rfl h1)
theorem AWJ.gh {c:Code} (g:Gh P {nt:=nt,n0:=0,ne:=0} env H env' H') (h:AWJ P nt J ags c QJ env' H' k) : AWJ P nt J ags c QJ env H k:=fun X a w I μ O hx hs =>
 let ⟨I',O',hs'⟩:=g X a w I μ O hx.1 hx.2.1 hx.2.2.1 hs;h X a w I' μ O' hx hs'
theorem ALJ.gh {c:Code} (g:Gh P {nt:=nt,n0:=0,ne:=0} env H env' H') (h:ALJ P nt J ags c QJ env' H' k) : ALJ P nt J ags c QJ env H k:=fun X a w I μ O hx hs =>
 let ⟨I',O',hs'⟩:=g X a w I μ O hx.1 hx.2.1 hx.2.2.1 hs;h X a w I' μ O' hx hs'
theorem AWJ.region {id:Nat} {ops:Array Oper} (h:RLJ P nt J ags ops QJ 0 ops.toList env H k) : AWJ P nt J ags (.region id ops false) QJ env H k:=fun X a w I μ O hx hs=>by
 refine wpIn_region ?_
 rw [List.range_eq_range',← Array.length_toList]
 exact h rfl X a w I μ O hx hs
theorem RLJ.nil (h:QJ .normal env H k) : RLJ P nt J ags ops QJ n [] env H k:=fun _ X _ _ I μ O hx hs=>⟨X,env,H,I,μ,O,k,hx,hs,h⟩
theorem RLJ.cons (hg:o.guard=none) (h:OpOK P {nt:=nt,n0:=0,ne:=0} o env H fun e h=>RLJ P nt J ags ops QJ (n+1) l e h k) : RLJ P nt J ags ops QJ n (o::l) env H k:=by
 intro hl X a w I μ O hx hs
 obtain ⟨e1,e2⟩:=Ea hl
 rw [List.length_cons,List.range'_succ]
 have e1':ops[n]?=some o:=by simpa using e1
 simp only [wpOpsIn,e1',Region.wanted,hg,if_true]
 exact h X a w I μ O _ _ hx.1 hx.2.1 hx.2.2.1 hs fun env' H' a' w' I' μ' O' hs' hK=>hK e2 X a' w' I' μ' O' hx hs'
theorem vkJ {av:AV} {t:Nat} (hv:VOK P {nt:=nt,n0:=0,ne:=0} o env H av) (h:RLJ P nt J ags ops QJ (n+1) l ((t,av)::env) H k) (hg:o.guard=none:=by rfl) (hd:o.dst=some t:=by rfl) (hr:A3 av=false:=by rfl)
  (hf:Al (get env t)=false:=by rfl) (ht:okT nt t:=by rfl):RLJ P nt J ags ops QJ n (o::l) env H k:=by
 rw [← Ak hf] at h
 exact .cons hg (.vok hv hr hd ht h)
theorem Sim.yielded' (hs:Sim P X env H a w I μ O) (h0:X.n0=0) (hsz:w.heap.size≤w'.heap.size) (hO:∀ b,O b≠none→w'.heap[b]?=w.heap[b]?∧¬I' b) (hI:∀ b,I b→I' b∧w'.heap[b]?=w.heap[b]?) (hI2:∀ b,I' b→b<w'.heap.size) :
  Sim P {X with w:=w',I:=I',K:=fun b=>b<w'.heap.size∧O b=none,ne:=0,μ:=μ} env H a w' I' μ O:=by
 have hII:∀ b,I b→w'.heap[b]?=w.heap[b]?:=fun b hi=>(hI b hi).2
 have hOO:∀ b l,O b=some l→w'.heap[b]?=w.heap[b]?:=fun b l h=>(hO b (by rw [h];simp)).1
 refine ⟨{
  prot:=fun _ _=>rfl
  kO:=fun b hk=>hk.2
  kI:=fun _ _ h=>h
  mono:=fun _ h=>h
  os:=rfl,tape:=rfl,output:=rfl,size:=Nat.le_refl _
  own:=fun b l h=>⟨nL (hs.own b l h).1 hsz,(hO b (by rw [h];simp)).2⟩
  ilt:=hI2,μlen:=hs.μlen,μpre:=fun _ _ _ h=>h,nle:=Nat.zero_le _
  heap:=fun id o ho=>by
   obtain ⟨blk,bs,h1,h2,h3,_⟩:=hs.heap id o ho
   have h5:∀ b∈blk::bs,w'.heap[b]?=w.heap[b]?:=fun b hm=>hOO b _ ((h3 (by omega)).2 b hm)
   refine ⟨blk,bs,h1,?_,fun _=>h3 (by omega),fun h=>absurd h (by simp [h0])⟩
   cases o with
   | box cs =>
    obtain ⟨cells,e,k1,k2⟩:=h2
    exact ⟨cells,e,(h5 blk (by simp)).trans k1,k2.keep (fun b hi=>(hI b hi).1) hII (fun _ _ h=>h) fun b hm=>h5 b (by simp [hm])⟩
  klt:=fun b hk=>hk.1,n0le:=by simp [h0]},fun t=>?_,hs.nt,hs.dfs⟩
 refine (hs.envr t).keepG (fun b hi=>(hI b hi).1) hII (fun _ _ h=>h) (fun b hm=>⟨hOO b _ hm,hm⟩) fun p e xs hp=>⟨hp,fun v hv=>?_⟩
 cases p with
 | t r=>exact hv
 | c id off =>
  simp only [Ba,Option.bind_eq_some_iff] at hv ⊢
  obtain ⟨b,hb1,hb2⟩:=hv
  refine ⟨b,hb1,?_⟩
  simp only [AN] at hp
  cases hH:H[id]? with
  | none=>rw [hH] at hp;cases hp
  | some ob =>
   obtain ⟨blk,bs,h1,_,h3,_⟩:=hs.heap id ob hH
   rw [hb1] at h1;cases h1
   rw [World.cell?_of_block (w:=w) (a:=⟨b,off,none⟩) (hOO b _ ((h3 (by omega)).2 b (by simp)))]
   exact hb2
theorem OR {c:Call} {y lp:Nat} (ho:o.op=.call c) (hc:c.callee=.value (.tmp y)) (hy:a.eval (.tmp y)=.func (.yield lp) #[] #[]) :
  (execOp a.eval o).run P w=(Instr.yield lp (c.args.map a.eval)).run P w:=by
 simp [execOp,ho,resolve,hc,hy,Deferred.ofValue,invoke,callFunc]
theorem yld {c:Call} {y lp t:Nat} {ds:List DV} {b:Bool} (hr:Ot P lp J k b ds) (hJ:JOK J) (h:RLJ P nt J ags ops QJ (n+1) l ((t,.d (.b b))::env) H (k+1))
  (hg:o.guard=none:=by rfl) (ho:o.op=.call c:=by rfl) (hc:c.callee=.value (.tmp y):=by rfl) (hy:get env y=.d (.yl lp):=by rfl) (ha:argsD env c.args.toList=some ds:=by rfl) (hd:o.dst=some t:=by rfl)
  (hf:Al (get env t)=false:=by rfl) (ht:okT nt t:=by rfl):RLJ P nt J ags ops QJ n (o::l) env H k:=by
 rw [← Ak hf] at h
 intro hl X a w I μ O hx hs
 obtain ⟨e1,e2⟩:=Ea hl
 rw [List.length_cons,List.range'_succ]
 have e1':ops[n]?=some o:=by simpa using e1
 simp only [wpOpsIn,e1',Region.wanted,hg,if_true]
 obtain ⟨x1,x2,x3,x4,x5,K,hK1,hK2⟩:=hx
 have hyv:a.eval (.tmp y)=.func (.yield lp) #[] #[]:=by
  have hyr:=hs.deep (x:=.tmp y) (v:=.yl lp) (by show A7 (get env y)=_;rw [hy];rfl)
  generalize a.eval (.tmp y)=u at hyr
  cases hyr;rfl
 have hJw:J k w I fun b=>O b≠none:=hJ hK1 hs.size (fun b hb hnk=>hs.prot b (Classical.byContradiction fun hx=>hnk (hK2 b hb hx))) hs.os hs.tape hs.output hs.mono hs.ilt
  (fun b hb hnk hi=>hs.kI b (Classical.byContradiction fun hx=>hnk (hK2 b hb hx)) hi) (fun b hb=>by
   cases hO:O b with
   | none=>exact absurd hO hb
   | some l=>exact hs.own b l hO) (fun b hb hlt=>hK2 b hlt fun hk=>hb (hs.kO b hk))
 obtain ⟨fn,tmps,assign,body,g1,g2⟩:=hr w I _ _ hJw (hs.argsD ha)
 refine ⟨fun _ _=>trivial,?_⟩
 rw [Oper.semAt_eq _ _ _ (by simp [ho]),OR ho hc hyv]
 have e3:(c.args.toList.map a.eval).toArray=c.args.map a.eval:=by apply Array.ext';simp
 rw [e3] at g1
 rw [g1,Oper.uponIn_round]
 refine ⟨fun h=>(by simp [om] at h),g2.mono ?_⟩
 rintro e W' ⟨rfl,I',j1,j2,j3,j4,j5⟩
 have s1:=hs.yielded' x2 j4 (fun b hb=>j2 b hb) (fun b hb=>j3 b hb) j5
 have s2:=s1.put_hand (t:=t) (av:=.d (.b b)) (v:=.bool b) (by rw [x1];exact ht) (Hand.d (.b b))
 show wpOpsIn (om none) 0 P ops _ _ (a.put o.dst _) _
 rw [hd]
 exact h e2 {X with w:=W',I:=I',K:=fun b=>b<W'.heap.size∧O b=none,ne:=0,μ:=μ} _ _ _ _ _ ⟨x1,x2,rfl,x4,x5,fun b=>O b≠none,j1,fun b hb hnk hO=>hnk ⟨hb,hO⟩⟩ s2
theorem ItG.of {f:FuncId} {fn:Func} {c:Code} {caps:List DV} {ys:List (List DV)} {m nt:Nat} (hf:P.funcs[f]?=some fn) (hb:fn.body=some c) (hrs:fn.results=#[]) (hnt:fn.ntmps=nt) (hn:caps.length+1≤nt)
  (h:∀ lp J,JOK J→(∀ k ds,ys[k]?=some ds→k≤m→Ot P lp J k (decide (k<m)) ds) →
   AWJ P (0,nt) J [] c (fun e _ _ k=>(e=.normal∨e=.ret)∧k=min (m+1) ys.length) (Dq 0 (.yl lp::caps)) [] 0):ItG P f caps ys m:=by
 intro lp W I cv J hJ hcv hI hR h0
 refine callsIn_of_wp hf hb trivial ?_
 have hlen:=hcv.length
 let vs:List Value:=.func (.yield lp) #[] #[]::cv
 have hargs:#[Value.func (.yield lp) #[] #[]]++cv.toArray=vs.toArray:=by apply Array.ext';simp [vs]
 rw [hargs]
 have hvr:RepAll W I (.yl lp::caps) vs:=.cons (.yl lp) hcv
 let X:Snap:={w:=W,I:=I,K:=fun b=>b<W.heap.size,n0:=0,ne:=0,μ:=[],nt:=(0,nt),dfs:=[],args:=[]}
 let a:Act:={tmps:=vs.toArray++Array.replicate (fn.ntmps-vs.toArray.size) undef,defers:=[]}
 have hat:∀ (j:Nat) (v:Value),vs[j]?=some v→a.tmps.getD j undef=v:=fun j v hj=>by
  have hjl:j<vs.length:=(lS.1 hj).1
  have e2:(vs.toArray++Array.replicate (fn.ntmps-vs.length) undef)[j]?=some v:=by
   rw [Array.getElem?_append_left (by simpa using hjl)];simpa using hj
  simp [a,e2]
 have hs:Sim P X (Dq 0 (.yl lp::caps)) [] a W I [] (fun _=>none):=by
  refine ⟨{prot:=fun _ _=>rfl,kO:=fun _ _=>rfl,kI:=fun _ _ h=>h,mono:=fun _ h=>h,os:=rfl,tape:=rfl,output:=rfl,size:=Nat.le_refl _,own:=(fun b l h=>by simp at h),ilt:=hI,μlen:=rfl,μpre:=(fun i b hi _=>by simp [X] at hi),nle:=(by simp [X]),heap:=(fun id o h=>by simp at h),klt:=fun b hb=>hb,n0le:=(by simp [X])},fun t=>?_,?_,rfl,fun t ht=>absurd ht (by simp [X])⟩
  ·rcases EH (tmps:=a.tmps) (k:=0) hvr (fun j v hj=>by rw [Nat.zero_add];exact hat j v hj) t with h0|⟨d,h0,h1⟩
   ·rw [h0];exact .un
   ·rw [h0];exact .of (bs:=[]) (.d h1) nN (by simp)
  ·simp [a,X,hnt,vs];omega
 refine wpIn_mono (h lp J hJ hR X a W I [] _ ⟨rfl,rfl,rfl,rfl,rfl,fun _=>False,h0,fun b hb hk=>absurd hb hk⟩ hs) fun e a' w' ⟨X',env',H',I',μ',O',k',hx',s',he,hk⟩=>?_
 subst hk
 obtain ⟨x1,x2,x3,x4,x5,K,hK1,hK2⟩:=hx'
 have fin:a'.defers=[]∧∃ v,(results fn a'.tmps).run P w'=.ok v w'∧((∃ v',Ending.returned v=.returned v')∧∃ I' K',J (min (m+1) ys.length) w' I' K'):=by
  refine ⟨by rw [s'.dfs.1,x4],_,results_none hrs _ _ _,⟨_,rfl⟩,I',fun b=>O' b≠none,?_⟩
  exact hJ hK1 s'.size (fun b hb hnk=>s'.prot b (Classical.byContradiction fun hx=>hnk (hK2 b hb hx))) s'.os s'.tape s'.output s'.mono s'.ilt
   (fun b hb hnk hi=>s'.kI b (Classical.byContradiction fun hx=>hnk (hK2 b hb hx)) hi) (fun b hb=>by
    cases hO:O' b with
    | none=>exact absurd hO hb
    | some l=>exact s'.own b l hO) (fun b hb hlt=>hK2 b hlt fun hk=>hb (s'.kO b hk))
 cases e with
 | normal=>exact fin
 | ret=>exact fin
 | _=>rcases he with he|he<;>cases he
theorem Sim.overK (hs:Sim P X env H a w I μ O) (hn0:X.n0=0) (hc:B8 env=false) (ls:List Nat) (hl:∀ b∈ls,O b=some .r) (Kx:Nat→Prop) (hx:∀ b,Kx b→O b=none∧b<w.heap.size) :
  ∃ (Y:Snap) (O2:Nat→Option Loc),Y.w=w∧Y.I=I∧Y.n0=0∧Y.ne=H.length∧Y.μ=μ∧(∀ b∈ls,Y.K b)∧(∀ b,I b→Y.K b)∧(∀ b,Kx b→Y.K b)∧Mem P Y H w I μ O2 ∧
   ∀ {w':World} {I':Nat→Prop} {μ':List Nat} {O':Nat→Option Loc} {Hn:Af},Mem P Y Hn w' I' μ' O'→∃ On,Sim P X env Hn a w' I' μ' On∧(∀ b∈ls,On b=some .r)∧∀ b,Kx b→On b=none:=by
 let Y:Snap:={X with w:=w,I:=I,n0:=0,ne:=H.length,μ:=μ,K:=fun b=>X.K b∨I b∨(∃ t,O b=some (.t t))∨b∈ls∨Kx b}
 let O2:Nat→Option Loc:=fun b=>match O b with
  | some (.o id)=>some (.o id)
  | _=>none
 have hO2o:∀ b id,O b=some (.o id)→O2 b=some (.o id):=fun b id h=>by simp only [O2,h]
 have hO2n:∀ b,(∀ id,O b≠some (.o id))→O2 b=none:=fun b h2=>by
  cases hx:O b with
  | none=>simp only [O2,hx]
  | some l=>cases l with
   | o id=>exact absurd hx (h2 id)
   | _=>simp only [O2,hx]
 have hO2:∀ b l,O2 b=some l→∃ l',O b=some l':=fun b l h=>by
  cases hx:O b with
  | some l'=>exact ⟨l',rfl⟩
  | none=>rw [hO2n b (by rw [hx];simp)] at h;cases h
 have hKO:∀ b,Y.K b→∀ id,O b≠some (.o id):=fun b hk=>by
  rcases hk with hk|hk|⟨t,hk⟩|hk
  ·exact fun id h=>(by rw [hs.kO b hk] at h;cases h)
  ·exact fun id h=>(hs.own b _ h).2 hk
  ·exact fun id h=>(by rw [hk] at h;simp at h)
  ·rcases hk with hk|hk
   ·exact fun id h=>(by rw [hl b hk] at h;simp at h)
   ·exact fun id h=>(by rw [(hx b hk).1] at h;cases h)
 have hmem:Mem P Y H w I μ O2:={
  prot:=fun _ _=>rfl
  kO:=fun b hk=>hO2n b (hKO b hk)
  kI:=fun _ _ h=>h
  mono:=fun _ h=>h
  os:=rfl,tape:=rfl,output:=rfl,size:=Nat.le_refl _
  own:=fun b l h=>by obtain ⟨l',h'⟩:=hO2 b l h;exact hs.own b l' h'
  ilt:=hs.ilt,μlen:=hs.μlen,μpre:=fun _ _ _ h=>h,nle:=Nat.le_refl _
  heap:=fun id o' ho'=>by
   obtain ⟨blk,ds,h1,h2,h3,_⟩:=hs.heap id o' ho'
   exact ⟨blk,ds,h1,h2,fun _=>⟨(h3 (by omega)).1,fun b hb'=>hO2o b id ((h3 (by omega)).2 b hb')⟩,fun h=>absurd h (by simp [Y])⟩
  klt:=fun b hk=>by
   rcases hk with hk|hk|⟨t,hk⟩|hk
   ·exact nL (hs.klt b hk) hs.size
   ·exact hs.ilt b hk
   ·exact (hs.own b _ hk).1
   ·rcases hk with hk|hk
    ·exact (hs.own b _ (hl b hk)).1
    ·exact (hx b hk).2
  n0le:=Nat.zero_le _}
 refine ⟨Y,O2,rfl,rfl,rfl,rfl,rfl,fun b hb=>.inr (.inr (.inr (.inl hb))),fun b hb=>.inr (.inl hb),fun b hb=>.inr (.inr (.inr (.inr hb))),hmem,?_⟩
 intro w' I' μ' O' Hn hm
 let On:Nat→Option Loc:=fun b=>if b∈ls then some .r else match O' b with
  | some (.o id)=>some (.o id)
  | _=>match O b with
   | some (.t t)=>some (.t t)
   | _=>none
 have hOl:∀ b,b∈ls→On b=some .r:=fun b hb=>by show (if b∈ls then _ else _)=_;rw [if_pos hb]
 have hOe:∀ b,b∉ls→On b=match O' b with
   | some (.o id)=>some (.o id)
   | _=>match O b with
    | some (.t t)=>some (.t t)
    | _=>none:=fun b hb=>by show (if b∈ls then _ else _)=_;rw [if_neg hb]
 have hOt:∀ b t,O b=some (.t t)→On b=some (.t t)∧w'.heap[b]?=w.heap[b]?:=fun b t h=>by
  have hk:Y.K b:=.inr (.inr (.inl ⟨t,h⟩))
  have h0:=hm.kO b hk
  refine ⟨?_,hm.prot b hk⟩
  rw [hOe b fun hb=>by rw [hl b hb] at h;simp at h]
  simp only [h0,h]
 have hOo:∀ b id,O' b=some (.o id)→On b=some (.o id):=fun b id h=>by
  rw [hOe b fun hb=>by have:=hm.kO b (.inr (.inr (.inr (.inl hb))));rw [h] at this;cases this]
  simp only [h]
 have hII:∀ b,I b→w'.heap[b]?=w.heap[b]?:=fun b hi=>hm.prot b (.inr (.inl hi))
 have hμ:∀ (i b:Nat),μ[i]?=some b→μ'[i]?=some b:=fun i b h=>hm.μpre i b (by have:=(lS.1 h).1;have:=hs.μlen;simp only [Y];omega) h
 refine ⟨On,⟨{
  prot:=fun b hk=>(hm.prot b (.inl hk)).trans (hs.prot b hk)
  kO:=fun b hk=>by
   have h0:=hm.kO b (.inl hk)
   rw [hOe b fun hb=>by have:=hl b hb;rw [hs.kO b hk] at this;cases this]
   simp only [h0,hs.kO b hk]
  kI:=fun b hk hi=>hs.kI b hk (hm.kI b (.inl hk) hi)
  mono:=fun b hi=>hm.mono b (hs.mono b hi)
  os:=hm.os.trans hs.os,tape:=hm.tape.trans hs.tape,output:=hm.output.trans hs.output,size:=nT hs.size hm.size
  own:=fun b l hl'=>by
   by_cases hbx:b∈ls
   ·exact ⟨nL (hs.own b _ (hl b hbx)).1 hm.size,fun hi=>(hs.own b _ (hl b hbx)).2 (hm.kI b (.inr (.inr (.inr (.inl hbx)))) hi)⟩
   ·rw [hOe b hbx] at hl'
    split at hl'
    ·rename_i id h;exact hm.own b _ h
    ·split at hl'
     ·rename_i t h
      refine ⟨nL (hs.own b _ h).1 hm.size,fun hi=>(hs.own b _ h).2 (hm.kI b (.inr (.inr (.inl ⟨t,h⟩))) hi)⟩
     ·cases hl'
  ilt:=hm.ilt,μlen:=hm.μlen
  μpre:=fun i b hi h=>hμ i b (hs.μpre i b hi h)
  nle:=nT hs.nle hm.nle
  heap:=fun id o' ho'=>by
   obtain ⟨blk,ds,h1,h2,h3,_⟩:=hm.heap id o' ho'
   exact ⟨blk,ds,h1,h2,fun _=>⟨(h3 (Nat.zero_le _)).1,fun b hb'=>hOo b id ((h3 (Nat.zero_le _)).2 b hb')⟩,fun h=>by omega⟩
  klt:=hs.klt,n0le:=hs.n0le},fun t=>?_,hs.nt,hs.dfs⟩,hOl,fun b hb=>?_⟩
 rotate_left
 ·rw [hOe b fun h=>by have:=(hx b hb).1;rw [hl b h] at this;cases this]
  simp only [hm.kO b (.inr (.inr (.inr (.inr hb)))),(hx b hb).1]
 have ht:=hs.envr t
 obtain ⟨c1,c2⟩:=GM hc t
 cases hg:get env t with
 | ref p off len =>
  rw [hg] at ht
  obtain ⟨e,xs,A,n,c,g1,g2,g3⟩:=ht
  cases p with
  | t q=>exact ⟨e,xs,A,n,c,g1,g2,g3⟩
  | c id off'=>exact absurd hg (c1 _ _ _ _)
 | ep p i j =>
  rw [hg] at ht
  obtain ⟨e,xs,b,n,c,g1,g2,g3⟩:=ht
  cases p with
  | t q=>exact ⟨e,xs,b,n,c,g1,g2,g3⟩
  | c id off'=>exact absurd hg (c2 _ _ _ _)
 | _ =>
  rw [hg] at ht
  obtain ⟨ds,g1,g2,g3⟩:=ht.plain rfl
  exact .of (g1.keep hm.mono hII hμ fun b hb'=>(hOt b t (g3 b hb')).2) g2 fun b hb'=>(hOt b t (g3 b hb')).1
theorem Sim.plain0 {Y:Snap} (hs:Sim P X env H a w I μ O) (hm:Mem P Y H w I μ O') : Sim P {Y with nt:=(0,X.nt.2),dfs:=[],args:=[]} (Iv env) H {tmps:=a.tmps,defers:=[]} w I μ O':=by
 refine ⟨hm.cast rfl rfl rfl rfl rfl rfl,fun t=>?_,hs.nt,rfl,fun t ht=>absurd ht (by simp)⟩
 rw [Iu]
 split
 ·rename_i hpl
  simp only [Bool.and_eq_true,Bool.not_eq_true'] at hpl
  obtain ⟨bs,g1,g2,g3⟩:=(hs.envr t).plain hpl.2
  have:=noOwn_bs g1 hpl.1
  subst this
  exact .of (bs:=[]) g1 nN (by simp)
 ·exact .un
theorem MV (env:Env) (t:Nat) : Al (get (Iv env) t)=false:=by
 rw [Iu]
 split
 ·rename_i h
  simp only [Bool.and_eq_true] at h
  cases hg:get env t<;>first|rfl|(rw [hg] at h;simp [noOwn] at h)
 ·rfl
def KU : List Nat→List DV→Env→Env
 | p::ps,d::ds,e=>KU ps ds ((p,.d d)::e)
 | _,_,e=>e
theorem Sim.roundL : ∀ {ps:List Nat} {ds:List DV} {vs:List Value} {env:Env} {a:Act} {O:Nat→Option Loc},Sim P X env H a w I μ O→(∀ t,Al (get env t)=false)→RepAll w I ds vs→(∀ p∈ps,okT X.nt p)→ps.length=ds.length →
  ∃ O',Sim P X (KU ps ds env) H {a with tmps:=(ps.zip vs).foldl (fun (t:Array Value) x=>t.setIfInBounds x.1 x.2) a.tmps} w I μ O':=by
 intro ps
 induction ps with
 | nil=>intro ds vs env a O hs _ _ _ _;exact ⟨O,by simpa [KU] using hs⟩
 | cons p ps ih =>
  intro ds vs env a O hs h0 hr hp hl
  cases hr with
  | nil=>simp at hl
  | @cons d v ds vs h t =>
   have s1:=hs.put_hand (t:=p) (hp p (by simp)) (Hand.d (O:=O) (μ:=μ) (P:=P) h)
   rw [Ak (h0 p)] at s1
   obtain ⟨O',s2⟩:=ih (ds:=ds) (vs:=vs) s1 (fun t=>by
    simp only [get];split
    ·rfl
    ·exact h0 t) t (fun q hq=>hp q (by simp [hq])) (by simpa using hl)
   exact ⟨O',by simpa [KU,Act.put] using s2⟩
def Sy : Exit→Option Code
 | .normal=>none
 | .ret=>some .ret
 | .exit id=>some (.exit id)
 | _=>none
theorem AWM.rangeFuncG {g:Nat} {ps:List Nat} {assign body:Code} {f:FuncId} {caps:List DV} {ys:List (List DV)} {m:Nat} {e1:Exit} (hro:C.ro=none) (hn0:C.n0=0) (hg:get env g=.d (.fn f [] caps)) (hcall:∀ args w,(callFunc f args).run P w=.ok (.enter f args) w)
  (hit:ItG P f caps ys m) (hys:∀ ds∈ys,ds.length=ps.length) (hps:∀ p∈ps,okT (0,C.nt.2) p) (hc:B8 env=false) (Hs:Nat→Af→Prop) (h0:Hs 0 H) (he1:(∃ id,e1=.exit id)∨e1=.ret)
  (hround:∀ (l k:Nat) (ds:List DV) (H:Af),ys[k]?=some ds→k≤m→Hs k H→AW P {nt:=(0,C.nt.2),n0:=0,ne:=H.length,ro:=some l} assign
   (F4 (AW P {nt:=(0,C.nt.2),n0:=0,ne:=H.length,ro:=some l} body fun e _ H'=>e=(if k<m then .normal else e1)∧Hs (k+1) H') fun _ _ _=>False) (KU ps ds (Iv env)) H)
  (hdone:∀ H,Hs (min (m+1) ys.length) H→Q (if m<ys.length then e1 else .normal) env H):AWM P C (.rangeFunc (.tmp g) ps.toArray assign body) Q env H:=by
 intro X a w I μ O h1 h2 h3 hs
 have hX0:X.n0=0:=by omega
 refine wpIn_rangeFunc ?_
 intro fn _
 rw [hro]
 have hfr:=hs.deep (x:=.tmp g) (v:=.fn f [] caps) (by show A7 (get env g)=_;rw [hg];rfl)
 generalize hev:a.eval (.tmp g)=u at hfr
 cases hfr with
 | fn _ _ _ fs cv hfs hcv =>
 cases hfs
 obtain ⟨rec,hrec⟩:∃ rec:LoopState→Option Code→Loop,rec=fun st pe=>{state:=st,pending:=pe,fn,tmps:=a.tmps,params:=ps.toArray,assign,body,defers:=w.heap.size}:=⟨_,rfl⟩
 obtain ⟨W1,hW1⟩:∃ W1,(w.alloc (.deferred (some []))).alloc (.loop (rec .ready none))=W1:=⟨_,rfl⟩
 have hL1:W1.heap[w.heap.size+1]?=some (.loop (rec .ready none)):=by
  rw [← hW1];have:=World.alloc_heap_new (w.alloc (.deferred (some []))) (.loop (rec .ready none));rwa [World.size_alloc] at this
 have hK1:W1.heap[w.heap.size]?=some (.deferred (some [])):=by
  rw [← hW1];exact (Below.heap_alloc _ _ _ (by simp)).trans (World.alloc_heap_new w _)
 have hb1:Below w.heap.size w W1:=by
  rw [← hW1];exact (Bh _).trans ((Bh _).mono (by simp))
 have hsz1:W1.heap.size=w.heap.size+2:=by rw [← hW1];simp
 have hs1:=(hs.grow hb1).newR [w.heap.size,w.heap.size+1] fun b hb=>by
  have hge:w.heap.size≤b∧b<W1.heap.size:=by simp at hb;omega
  refine ⟨hge.2,.inl ?_,fun hi=>?_,fun hk=>?_⟩
  ·cases hO:O b with
   | none=>rfl
   | some l=>have:=(hs.own b l hO).1;omega
  ·have:=hs.ilt b hi;omega
  ·have:=hs.klt b hk;have:=hs.size;omega
 refine ⟨w.heap.size+1,[{target:=.collected w.heap.size,args:=#[]}],W1,{target:=.fn (.func f) cv.toArray,args:=#[.func (.yield (w.heap.size+1)) #[] #[]]},W1,f,
  #[.func (.yield (w.heap.size+1)) #[] #[]]++cv.toArray,W1,?_,?_,?_,?_,fun h=>(by simp [om] at h),?_⟩
 ·rw [← hW1,hrec];exact run_enterLoop_outer _ _ _ _ _
 ·simp only [resolve,hev]
  simp [go_sem]
 ·intro f' hf';exact trivial
 ·simp [invoke,go_sem,hcall]
 let stOf:Nat→Loop:=fun k=>if k≤m then rec .ready none else rec .done (Sy e1)
 let J:JT:=fun k W I' K'=>∃ H' μ' O',Hs k H'∧Sim P X env H' a W I' μ' O'∧O' w.heap.size=some .r∧O' (w.heap.size+1)=some .r∧W.heap[w.heap.size+1]?=some (.loop (stOf k)) ∧
  W.heap[w.heap.size]?=some (.deferred (some []))∧(∀ b,K' b→O' b=none∧¬X.K b∧¬I' b∧b<W.heap.size)
 have hJ:JOK J:=by
  rintro k W I1 K1 W' I' K' ⟨H1,μ1,O1,q1,q2,q3,q4,q5,q6,q7⟩ g1 g2 g3 g4 g5 g6 g7 g8 g9 g10
  refine ⟨H1,μ1,O1,q1,q2.grow2 (Kb:=K1) (fun b hb=>⟨(q7 b hb).1,(q7 b hb).2.1,(q7 b hb).2.2.1⟩) g1 g2 g3 g4 g5 g6 g7 g8,q3,q4,?_,?_,fun b hb=>?_⟩
  ·rw [g2 _ (q2.own _ _ q4).1 fun hk=>by have:=(q7 _ hk).1;rw [q4] at this;cases this];exact q5
  ·rw [g2 _ (q2.own _ _ q3).1 fun hk=>by have:=(q7 _ hk).1;rw [q3] at this;cases this];exact q6
  ·by_cases hlt:b<W.heap.size
   ·have:=q7 b (g10 b hb hlt)
    exact ⟨this.1,this.2.1,(g9 b hb).2,(g9 b hb).1⟩
   ·refine ⟨?_,fun hk=>?_,(g9 b hb).2,(g9 b hb).1⟩
    ·cases hO:O1 b with
     | none=>rfl
     | some l=>exact absurd (q2.own b l hO).1 hlt
    ·have:=q2.klt b hk;have:=q2.size;omega
 have hcvW:RepAll W1 I caps cv:=hcv.keep (fun b hi=>hb1.block b (hs.ilt b hi)) fun _ h=>h
 refine (hit (w.heap.size+1) W1 I cv J hJ hcvW (fun b hi=>nL (hs.ilt b hi) hb1.size) ?_ ⟨H,μ,_,h0,hs1,by simp,by simp,by simp only [stOf];rw [if_pos (Nat.zero_le _)];exact hL1,hK1,fun b hb=>hb.elim⟩).mono ?_
 ·-- a round
  rintro k ds hk hkm W I1 K1 vs ⟨H1,μ1,O1,hH1,s1,oD,ol,hl0,hD,hKb⟩ hr
  have hl:W.heap[w.heap.size+1]?=some (.loop (rec .ready none)):=by
   have:=hl0;simp only [stOf] at this;rwa [if_pos hkm] at this
  have hlen:=hys ds (List.mem_of_getElem? hk)
  have hy:=run_yield (P:=P) (args:=vs.toArray) hl (by rw [hrec];simp [← hr.length,hlen])
  rw [hrec] at hy
  refine ⟨fn,_,assign,body,hy,roundIn_of_wpIn trivial ?_⟩
  obtain ⟨Y,O2,y1,y2,y3,y4,y5,yl,yI,yK,ym,yk⟩:=s1.overK hX0 hc [w.heap.size,w.heap.size+1] (by simp [oD,ol]) K1 fun b hb=>⟨(hKb b hb).1,(hKb b hb).2.2.2⟩
  obtain ⟨O3,sr⟩:=(s1.plain0 ym).roundL (MV env) hr (ps:=ps) (fun p hp=>by show okT (0,X.nt.2) p;rw [h1];exact hps p hp) hlen.symm
  have hnl:¬I1 (w.heap.size+1):=(s1.own _ _ ol).2
  have etm:((ps.toArray.zip vs.toArray).foldl (fun (tmps:Array Value) (t,a)=>tmps.setIfInBounds t a) a.tmps)=(ps.zip vs).foldl (fun (t:Array Value) x=>t.setIfInBounds x.1 x.2) a.tmps:=by
   rw [← Array.foldl_toList,Array.toList_zip]
  rw [etm]
  refine wpIn_mono (hround (w.heap.size+1) k ds H1 hk hkm hH1 {Y with nt:=(0,X.nt.2),dfs:=[],args:=[]} _ _ _ _ _ (by show (0,X.nt.2)=(0,C.nt.2);rw [h1]) y3 y4 sr) ?_
  rintro e a1 w1 ⟨env1,H2,I2,μ2,O4,q1,q2⟩
  cases e with
  | normal =>
   have hl1:w1.heap[w.heap.size+1]?=some (.loop (rec .ready none)):=(q1.prot _ (yl _ (by simp))).trans (by rw [y1];exact hl)
   refine ⟨_,run_beginRound hl1 (by rw [hrec]),?_⟩
   have sb:=q1.busy y3 (BW (.loop {rec .ready none with state:=.busy})) (yl (w.heap.size+1) (by simp)) (by show ¬Y.I _;rw [y2];exact hnl)
   refine wpIn_mono (q2 {Y with nt:=(0,X.nt.2),dfs:=[],args:=[],w:=w1.putObj (w.heap.size+1) (.loop {rec .ready none with state:=.busy}),I:=I2,μ:=μ2} _ _ _ _ _ (by show (0,X.nt.2)=(0,C.nt.2);rw [h1]) y3 y4 sb) ?_
   rintro e a2 w2 ⟨env2,H3,I3,μ3,O5,t1,he,t2⟩
   have hl2:w2.heap[w.heap.size+1]?=some (.loop {rec .ready none with state:=.busy}):=(t1.prot _ (yl _ (by simp))).trans (World.putObj_heap_same (Array.getElem?_eq_some_iff.1 hl1).1)
   have key:∀ jump,(jump.isNone=decide (k<m))→({({rec .ready none with state:=.busy}:Loop) with state:=if jump.isNone then LoopState.ready else .done,pending:=jump}:Loop)=stOf (k+1) →
     ∃ v w',(Instr.endRound (w.heap.size+1) jump).run P w2=.ok v w'∧(Ending.returned v=.returned (.bool (decide (k<m)))∧∃ I',J (k+1) w' I' K1∧(∀ b,K1 b→w'.heap[b]?=W.heap[b]?∧¬I' b)∧(∀ b,I1 b→I' b∧w'.heap[b]?=W.heap[b]?)∧W.heap.size≤w'.heap.size∧∀ b,I' b→b<w'.heap.size):=by
    intro jump hj hst
    have hend:=run_endRound (P:=P) jump hl2
    refine ⟨_,_,hend,by rw [hj],I3,?_⟩
    rw [hst]
    have hput:w2.putObj (w.heap.size+1) (.loop (stOf (k+1)))=(w2.putObj (w.heap.size+1) (.loop (rec .ready none))).putObj (w.heap.size+1) (.loop (stOf (k+1))):=by
     simp [World.putObj]
    have hl4:(w2.putObj (w.heap.size+1) (.loop (rec .ready none))).heap[w.heap.size+1]?=some (.loop (rec .ready none)):=World.putObj_heap_same (Array.getElem?_eq_some_iff.1 hl2).1
    have hm4:Mem P Y H3 (w2.putObj (w.heap.size+1) (.loop (rec .ready none))) I3 μ3 O5 :=
     Mem.ready (X:=Y) (l:=w.heap.size+1) (q1.toMem.cast rfl rfl rfl rfl rfl rfl) y3 (yl _ (by simp)) (by rw [y2];exact hnl) (BW _) (t1.toMem.cast rfl rfl rfl rfl rfl rfl) (BW _) (by rw [hl4,y1,hl])
    obtain ⟨On,k1,k2,k3⟩:=yk hm4
    have s5:=k1.grownR (BW (l:=w.heap.size+1) (.loop (stOf (k+1)))) fun b hb=>by cases hb;exact k2 _ (by simp)
    have keep:∀ b,Y.K b→b≠w.heap.size+1→(w2.putObj (w.heap.size+1) (.loop (stOf (k+1)))).heap[b]?=W.heap[b]?:=fun b hb hne=>by
     rw [hput]
     exact (World.putObj_heap_other hne).trans ((hm4.prot b hb).trans (by rw [y1]))
    have hKne:∀ b,K1 b→b≠w.heap.size+1:=fun b hb e=>by subst e;have:=(hKb _ hb).1;rw [ol] at this;cases this
    have hIne:∀ b,I1 b→b≠w.heap.size+1:=fun b hb e=>by subst e;exact hnl hb
    have hKI:∀ b,K1 b→¬I3 b:=fun b hb hi=>(hKb b hb).2.2.1 (by have:=hm4.kI b (yK b hb) hi;rwa [y2] at this)
    refine ⟨⟨H3,μ3,On,t2,by rw [hput];exact s5,k2 _ (by simp),k2 _ (by simp),World.putObj_heap_same (Array.getElem?_eq_some_iff.1 hl2).1,?_,fun b hb=>⟨k3 b hb,(hKb b hb).2.1,hKI b hb,?_⟩⟩,
     fun b hb=>⟨keep b (yK b hb) (hKne b hb),hKI b hb⟩,fun b hb=>⟨hm4.mono b (by rw [y2];exact hb),keep b (yI b hb) (hIne b hb)⟩,?_,fun b hb=>?_⟩
    ·rw [keep _ (yl _ (by simp)) (by omega)];exact hD
    ·have:=hm4.klt b (yK b hb);have h6:=hm4.size;rw [World.putObj_size] at h6 ⊢;omega
    ·have h6:=hm4.size;rw [y1,World.putObj_size] at h6;rw [World.putObj_size];exact h6
    ·have:=hm4.ilt b hb;rw [World.putObj_size] at this ⊢;exact this
   by_cases hlt:k<m
   ·rw [if_pos hlt] at he
    subst he
    exact key none (by simp [hlt]) (by simp only [stOf];rw [if_pos (show k+1≤m by omega)];rw [hrec];rfl)
   ·rw [if_neg hlt] at he
    subst he
    rcases he1 with ⟨id,rfl⟩|rfl
    ·exact key (some (.exit id)) (by simp [hlt]) (by simp only [stOf];rw [if_neg (show ¬k+1≤m by omega)];rw [hrec];rfl)
    ·exact key (some .ret) (by simp [hlt]) (by simp only [stOf];rw [if_neg (show ¬k+1≤m by omega)];rw [hrec];rfl)
  | _=>exact q2.elim
 ·-- behind the iterator
  rintro e W2 ⟨⟨v,rfl⟩,I1,K1,H1,μ1,O1,hH1,s1,oD,ol,hl,hD,hKb⟩
  have s2:=s1.grownR (BW (l:=w.heap.size+1) (.loop {stOf (min (m+1) ys.length) with state:=.exhausted})) fun b hb=>by cases hb;exact ol
  have s3:=s2.lab (O':=fun b=>if b=w.heap.size then none else O1 b) (fun b l hb=>by
    split at hb
    ·cases hb
    ·exact s2.own b l hb) (fun b hb=>by
    split
    ·rfl
    ·exact s2.kO b hb) (fun b id hb=>by rw [if_neg (fun e=>by subst e;rw [oD] at hb;simp at hb)];exact hb) (fun b t hb=>by rw [if_neg (fun e=>by subst e;rw [oD] at hb;simp at hb)];exact hb)
  have hmk:Marks X.K (W2.putObj (w.heap.size+1) (.loop {stOf (min (m+1) ys.length) with state:=.exhausted})) I1 (fun b=>if b=w.heap.size then none else O1 b) [{target:=.collected w.heap.size,args:=#[]}]:=by
   refine ⟨by simp,fun m hm=>?_⟩
   simp at hm
   refine ⟨_,hm,?_,by simp,(s1.own _ _ oD).2,fun hk=>by have:=hs.klt _ hk;have:=hs.size;omega⟩
   exact (World.putObj_heap_other (by omega)).trans hD
  have s4:Sim P {X with dfs:=[{target:=.collected w.heap.size,args:=#[]}]++X.dfs} env H1 {a with defers:=[{target:=.collected w.heap.size,args:=#[]}]++a.defers} (W2.putObj (w.heap.size+1) (.loop {stOf (min (m+1) ys.length) with state:=.exhausted})) I1 μ1 (fun b=>if b=w.heap.size then none else O1 b) :=
   ⟨s3.toMem.cast rfl rfl rfl rfl rfl rfl,s3.envr,s3.nt,by rw [s3.dfs.1],s3.dfs.2⟩
  have hq:=hdone H1 hH1
  have hbusy:(stOf (min (m+1) ys.length)).state≠.busy:=by
   simp only [stOf];split<;>rw [hrec]<;>simp
  have hend:=run_endLoop (P:=P) hl hbusy
  generalize W2.putObj (w.heap.size+1) (.loop {stOf (min (m+1) ys.length) with state:=.exhausted})=W3 at hend s4 hmk
  refine ⟨(stOf (min (m+1) ys.length)).pending,W3,hend,?_⟩
  by_cases hmy:m<ys.length
  ·rw [if_pos hmy] at hq
   have hst:(stOf (min (m+1) ys.length)).pending=Sy e1:=by
    simp only [stOf];rw [if_neg (show ¬min (m+1) ys.length≤m by omega),hrec]
   rw [hst]
   rcases he1 with ⟨id,rfl⟩|rfl
   ·exact wpIn_exit ⟨env,_,I1,μ1,_,_,s4,hq,hmk⟩
   ·exact wpIn_ret ⟨env,_,I1,μ1,_,_,s4,hq,hmk⟩
  ·rw [if_neg hmy] at hq
   have hst:(stOf (min (m+1) ys.length)).pending=none:=by
    simp only [stOf];rw [if_pos (show min (m+1) ys.length≤m by omega),hrec]
   rw [hst]
   exact ⟨env,_,I1,μ1,_,_,s4,hq,hmk⟩
end
end Go.FL
namespace Go.FL
open Go Go.RowKit
def FnV (P:Program) (gv:DV) (xs:List DV) (r:AV) : Prop :=
 ∃ f first caps,gv=.fn f first caps∧(∀ args w,(callFunc f args).run P w=.ok (.enter f args) w)∧Fn P f (first++xs++caps) r
structure FV (P:Program) {α β:Type} (enc:α→List DV) (dec:β→AV) where
 dv:DV
 g:α→Option β
 ok:∀ x r,g x=some r→FnV P dv (enc x) (dec r)
def FnR (P:Program) (f:FuncId) (args:List AV) (H:Af) (post:AV→Af→Prop) : Prop :=
 ∀ (X:Snap) (w:World) (I:Nat→Prop) (μ:List Nat) (O:Nat→Option Loc) (vs:List Value),X.w=w→X.I=I→X.n0=0→X.ne=H.length→X.μ=μ→Mem P X H w I μ O→ARepAll P w I μ args vs [] →
  CallsIn (om none) 0 P f vs.toArray w fun e w'=>∃ v I' μ' O' H' r rs,e=.returned v∧Mem P X H' w' I' μ' O'∧ARep P w' I' μ' r v rs∧rs.Nodup∧(∀ b∈rs,∃ n,O' b=some (.t n))∧post r H'
section
variable {P:Program} {C:Cx} {X:Snap} {o:Oper} {ops:Array Oper} {Q:Exit→Env→Af→Prop} {env env':Env} {H H':Af} {a:Act} {w w':World} {I I':Nat→Prop} {μ μ':List Nat} {O O':Nat→Option Loc}
 {K:Env→Af→Prop} {k:Nat} {l:List Oper}
theorem FnR.mono {f:FuncId} {args:List AV} {post post':AV→Af→Prop} (h:FnR P f args H post) (hp:∀ r H',post r H'→post' r H') : FnR P f args H post':=fun X w I μ O vs e1 e2 e3 e4 e5 hm ha =>
 (h X w I μ O vs e1 e2 e3 e4 e5 hm ha).mono fun _ _ ⟨v,I',μ',O',H',r,rs,q1,q2,q3,q4,q5,q6⟩=>⟨v,I',μ',O',H',r,rs,q1,q2,q3,q4,q5,hp _ _ q6⟩
theorem N9 {c:Call} {fo:Operand} {gv:DV} {xs:List DV} {r:AV} (h:FnV P gv xs r) (ho:o.op=.call c:=by rfl) (hc:c.callee=.value fo:=by rfl) (hfo:lk env fo=.d gv:=by rfl) (ha:argsD env c.args.toList=some xs:=by rfl) (hr:A3 r=false:=by rfl) : VOK P C o env H r:=by
 obtain ⟨f,first,caps,rfl,hcall,hfn⟩:=h
 exact vcl hfn hcall ho hc hfo ha hr
theorem FnV.of {f:FuncId} {caps xs:List DV} {r:AV} (hcall:∀ args w,(callFunc f args).run P w=.ok (.enter f args) w) (h:Fn P f (xs++caps) r) : FnV P (.fn f [] caps) xs r:=⟨f,[],caps,rfl,hcall,by simpa using h⟩
theorem Qw {f:FuncId} {cap:Array Operand} {ds:List DV} (ho:o.op=.makeFunc (.func f) #[] cap:=by rfl) (ha:argsD env cap.toList=some ds:=by rfl) : VOK P C o env H (.d (.fn f [] ds)) :=
 .pv ⟨by simp [ho],fun X a w I μ O _ hs=>⟨.func (.func f) #[] (cap.map a.eval),by simp [execOp,ho,Instr.makeFunc],.d (by
  have:=Rep.fn f [] ds [] (cap.toList.map a.eval) (.nil (w:=w) (I:=I)) (hs.argsD ha)
  have e:(cap.toList.map a.eval).toArray=cap.map a.eval:=by apply Array.ext';simp
  rw [e] at this
  exact this)⟩⟩
theorem U0 {f:FuncId} {cap:Array Operand} {t:Nat} {avs:List AV} (h:RL P C ops Q (k+1) l ((t,.fn f [] avs)::env) H) (hg:grd ops env o true=true:=by rfl) (ho:o.op=.makeFunc (.func f) #[] cap:=by rfl) (ha:argsA env cap.toList=some avs:=by rfl)
  (hd:o.dst=some t:=by rfl) (hf:Al (get env t)=false:=by rfl) (ht:okT C.nt t:=by rfl):RL P C ops Q k (o::l) env H:=by
 rw [← Ak hf] at h
 refine .go hg (.pure (by simp [ho]) hd ht (fun X a w I μ O _ hs=>⟨.func (.func f) #[] (cap.map a.eval),?_,[],?_,nN,by simp⟩) h)
 ·simp [execOp,ho,Instr.makeFunc]
 ·have:=ARep.fn (f:=f) (.nil (P:=P) (w:=w) (I:=I) (μ:=μ)) (hs.argsA ha)
  have e:(cap.toList.map a.eval).toArray=cap.map a.eval:=by apply Array.ext';simp
  rw [e] at this
  exact this
theorem bxA {x:Operand} {ty t:Nat} {c:AV} (h:RL P C ops Q (k+1) l ((t,.bp H.length 0)::env) (H++[.box [c]])) (hg:grd ops env o true=true:=by rfl) (ho:o.op=.box ty x:=by rfl) (hv:lk env x=c:=by rfl) (hu:c≠.un:=by simp)
  (h1:one c=true:=by rfl) (hn:noOwn c=true:=by rfl) (hd:o.dst=some t:=by rfl) (hf:Al (get env t)=false:=by rfl) (ht:okT C.nt t:=by rfl):RL P C ops Q k (o::l) env H:=by
 obtain ⟨g1,g2⟩:=Av hv hu
 refine .go hg (Uo ho g1 hd ht (by rw [g2];exact h1) (.inl (by rw [g2];exact hn)) ?_)
 have e1:Lz env (Dp x)=env:=by
  cases hx:Dp x with
  | t s=>rw [hx] at g2;simp only [Lz];rw [show get env s=c from g2,hn];rfl
  | _=>rfl
 rw [e1,g2,Ak hf];exact h
theorem ARepAll.append : ∀ {xs:List AV} {vs:List Value} {b1:List Nat} {ys:List AV} {us:List Value} {b2:List Nat},ARepAll P w I μ xs vs b1→ARepAll P w I μ ys us b2→ARepAll P w I μ (xs++ys) (vs++us) (b1++b2)
 | _,_,_,_,_,_,.nil,k=>k
 | _,_,_,_,_,_,.cons h t,k=>by
  have:=ARepAll.cons h (t.append k)
  rwa [← List.append_assoc] at this
theorem OpOK.callR {c:Call} {fo:Operand} {f:FuncId} {caps avs:List AV} {post:AV→Af→Prop} (ho:o.op=.call c) (hc:c.callee=.value fo) (hfo:(fo=.func f∧caps=[])∨(lk env fo=.fn f [] caps∧noOwnL caps=true)) (ha:argsA env c.args.toList=some avs) (hcr:B8 env=false) (hn0:C.n0=0)
  (hcall:∀ args w,(callFunc f args).run P w=.ok (.enter f args) w) (hfn:FnR P f (avs++caps) H post) (hd:∀ t,o.dst=some t→okT C.nt t)
  (hK:∀ r H',post r H'→K (match o.dst with|some t=>put env t r|none=>env) H'):OpOK P C o env H K:=by
 intro X a w I μ O next Q h1 h2 h3 hs hn
 refine ⟨fun _ _=>trivial,?_⟩
 have hcv:∃ cs,a.eval fo=.func (.func f) #[] cs∧ARepAll P w I μ caps cs.toList []:=by
  rcases hfo with ⟨rfl,rfl⟩|⟨hl,hnc⟩
  ·exact ⟨#[],rfl,.nil⟩
  ·obtain ⟨bs,hr⟩:=hs.lk (x:=fo) (by rw [hl];rfl)
   rw [hl] at hr
   have hno:=noOwn_bs hr (by simp [noOwn,noOwnL,hnc])
   subst hno
   generalize a.eval fo=u at hr
   generalize hbs:([]:List Nat)=bs at hr
   cases hr with
   | fn k1 k2 =>
    cases k1
    have:_++_=([]:List Nat):=hbs.symm
    rw [List.append_eq_nil_iff] at this
    have k3:=this.2
    subst k3
    exact ⟨_,rfl,by simpa using k2⟩
 obtain ⟨cs,hev,hcs⟩:=hcv
 have hres:=B2 (P:=P) (w:=w) (ρ:=a.eval) (ty:=o.type) hc hev
 have hex:(execOp a.eval o).run P w=.ok (.enter f (#[]++c.args.map a.eval++cs)) w:=by
  simp only [execOp,ho,Sem.run_bind,hres,Result.andThen_ok,invoke,hcall]
 rw [Oper.semAt_eq _ _ _ (by simp [ho]),hex,Oper.uponIn_enter]
 refine ⟨fun h=>(by simp [om] at h),?_⟩
 obtain ⟨Y,O2,y1,y2,y3,y4,y5,ym,_,yk⟩:=hs.over (by omega) hcr [] (by simp)
 have hargs:ARepAll P w I μ (avs++caps) (c.args.toList.map a.eval++cs.toList) []:=(hs.argsA ha).append hcs
 have hcl:=hfn Y w I μ O2 _ y1 y2 y3 y4 y5 ym hargs
 have e:(c.args.toList.map a.eval++cs.toList).toArray=#[]++c.args.map a.eval++cs:=by apply Array.ext';simp
 rw [e] at hcl
 refine ⟨trivial,fun csF hroom=>?_⟩
 obtain ⟨e,w',fr,⟨v,I',μ',O',Hn,r,rs,rfl,q1,q2,q3,q4,q5⟩,s,x⟩:=hcl.2 csF (room_wide _)
 refine ⟨.returned v,w',fr,?_,s,x⟩
 obtain ⟨On,k1,k2⟩:=yk q1 (rs:=rs) q4
 have hh:Hand P w' I' μ' On r v:=⟨rs,q2,q3,k2⟩
 show next (a.put o.dst v) w'
 have hK:=hK r Hn q5
 cases hdst:o.dst with
 | none=>exact hn _ _ _ _ _ _ _ k1 (by rw [hdst] at hK;exact hK)
 | some t=>exact hn _ _ _ _ _ _ _ (k1.put_hand (by rw [h1];exact hd t hdst) hh) (by rw [hdst] at hK;exact hK)
theorem clR {c:Call} {f t:Nat} {avs:List AV} {post:AV→Af→Prop} (hfn:FnR P f avs H post) (hcall:∀ args w,(callFunc f args).run P w=.ok (.enter f args) w) (h:∀ r H',post r H'→RL P C ops Q (k+1) l ((t,r)::env) H')
  (hg:grd ops env o true=true:=by rfl) (ho:o.op=.call c:=by rfl) (hc:c.callee=.value (.func f):=by rfl) (ha:argsA env c.args.toList=some avs:=by rfl) (hcr:B8 env=false:=by rfl) (hd:o.dst=some t:=by rfl)
  (hf:Al (get env t)=false:=by rfl) (ht:okT C.nt t:=by rfl) (h0:C.n0=0:=by rfl):RL P C ops Q k (o::l) env H:=by
 refine .go hg (OpOK.callR (caps:=[]) ho hc (.inl ⟨rfl,rfl⟩) ha hcr h0 hcall (by rwa [List.append_nil]) (fun t' h'=>by rw [hd] at h';cases h';exact ht) fun r H' hp=>?_)
 rw [hd]
 show RL P C ops Q (k+1) l (put env t r) H'
 rw [Ak hf];exact h r H' hp
theorem VE {c:Call} {fo:Operand} {f t:Nat} {avs caps:List AV} {post:AV→Af→Prop} (hfn:FnR P f (avs++caps) H post) (hcall:∀ args w,(callFunc f args).run P w=.ok (.enter f args) w) (h:∀ r H',post r H'→RL P C ops Q (k+1) l ((t,r)::env) H')
  (hg:grd ops env o true=true:=by rfl) (ho:o.op=.call c:=by rfl) (hc:c.callee=.value fo:=by rfl) (hfo:lk env fo=.fn f [] caps:=by rfl) (hnc:noOwnL caps=true:=by rfl) (ha:argsA env c.args.toList=some avs:=by rfl) (hcr:B8 env=false:=by rfl) (hd:o.dst=some t:=by rfl)
  (hf:Al (get env t)=false:=by rfl) (ht:okT C.nt t:=by rfl) (h0:C.n0=0:=by rfl):RL P C ops Q k (o::l) env H:=by
 refine .go hg (OpOK.callR ho hc (.inr ⟨hfo,hnc⟩) ha hcr h0 hcall hfn (fun t' h'=>by rw [hd] at h';cases h';exact ht) fun r H' hp=>?_)
 rw [hd]
 show RL P C ops Q (k+1) l (put env t r) H'
 rw [Ak hf];exact h r H' hp
def VU (rs:List ResultVar) (post:AV→Af→Prop) : Exit→Env→Af→Prop
 | .normal,env,H=>∃ r,Ft env r rs∧post r H
 | .ret,env,H=>∃ r,Ft env r rs∧post r H
 | _,_,_=>False
theorem FnR.of {f:FuncId} {fn:Func} {c:Code} {args:List AV} {post:AV→Af→Prop} {rs:List ResultVar} (nt:Nat) (hf:P.funcs[f]?=some fn) (hb:fn.body=some c) (hrs:fn.results=rs.toArray) (hnt:fn.ntmps=nt) (hn:args.length≤nt)
  (h:AW P {nt:=(0,nt),n0:=0,ne:=H.length} c (VU rs post) (NN 0 args []) H):FnR P f args H post:=by
 intro X w I μ O vs e1 e2 e3 e4 e5 hm ha
 refine callsIn_of_wp hf hb trivial ?_
 have hlen:=ha.length
 let a:Act:={tmps:=vs.toArray++Array.replicate (fn.ntmps-vs.toArray.size) undef,defers:=[]}
 let Y:Snap:={X with nt:=(0,nt),dfs:=[],args:=vs}
 have hat:∀ (j:Nat) (v:Value),vs[j]?=some v→a.tmps.getD j undef=v:=fun j v hj=>by
  have hjl:j<vs.length:=(lS.1 hj).1
  have e2:(vs.toArray++Array.replicate (fn.ntmps-vs.length) undef)[j]?=some v:=by
   rw [Array.getElem?_append_left (by simpa using hjl)];simpa using hj
  simp [a,e2]
 have hs0:Sim P Y [] H a w I μ O:=by
  refine ⟨hm.cast rfl rfl rfl rfl rfl rfl,fun t=>.un,by simp [a,Y,hnt];omega,rfl,fun t ht=>absurd ht (by simp [Y])⟩
 obtain ⟨O1,hs⟩:=hs0.adoptAll (k:=0) ha nN (by simp) (fun _ _=>rfl) fun j v hj=>by rw [Nat.zero_add];exact hat j v hj
 refine wpIn_mono (h Y a w I μ O1 rfl e3 e4 hs) fun e a' w' hp=>?_
 obtain ⟨env',He,I',μ',O',s,q⟩:=hp
 have fin:(∃ r,Ft env' r rs∧post r He)→a'.defers=[]∧∃ v,(results fn a'.tmps).run P w'=.ok v w'∧∃ v' I' μ' O' H' r rs,Ending.returned v=.returned v'∧Mem P X H' w' I' μ' O'∧ARep P w' I' μ' r v' rs∧rs.Nodup∧(∀ b∈rs,∃ n,O' b=some (.t n))∧post r H':=by
  rintro ⟨r,hres,hpost⟩
  obtain ⟨v,b1,h1,h2,h3,h4⟩:=s.gives hrs hres
  exact ⟨s.dfs.1,v,h1,v,I',μ',O',He,r,b1,rfl,s.toMem.cast rfl rfl rfl rfl rfl rfl,h2,h3,fun b hb=>let ⟨t,g,_⟩:=h4 b hb;⟨t,g⟩,hpost⟩
 cases e with
 | normal=>exact fin q
 | ret=>exact fin q
 | _=>exact q.elim
def VS (P:Program) (rs:List ResultVar) (r:AV) : Exit→Env→Af→Prop:=fun e env _=>(e=.normal∨e=.ret)∧(QW P env r rs∨Q6 P env r rs∨Ft env r rs)
theorem Fn.ofMA {f:FuncId} {fn:Func} {c:Code} {args:List DV} {r:AV} {rs:List ResultVar} {nt:Nat} (hf:P.funcs[f]?=some fn) (hb:fn.body=some c) (hrs:fn.results=rs.toArray) (hnt:fn.ntmps=nt) (hn:args.length≤nt) (hbp:noBp r=true)
  (h:AWM P {nt:=(0,nt),n0:=0,ne:=0} c (VS P rs r) (Dq 0 args) []):Fn P f args r:=by
 intro w I vs hI ha
 refine callsIn_of_wp_marks hf hb trivial ?_
 have hlen:=ha.length
 let X:Snap:={w:=w,I:=I,K:=fun b=>b<w.heap.size,n0:=0,ne:=0,μ:=[],nt:=(0,nt),dfs:=[]}
 let a:Act:={tmps:=vs.toArray++Array.replicate (fn.ntmps-vs.toArray.size) undef,defers:=[]}
 have hs:Sim P X (Dq 0 args) [] a w I [] (fun _=>none):=by
  refine ⟨{prot:=fun _ _=>rfl,kO:=fun _ _=>rfl,kI:=fun _ _ h=>h,mono:=fun _ h=>h,os:=rfl,tape:=rfl,output:=rfl,size:=Nat.le_refl _,own:=(fun b l h=>by simp at h),ilt:=hI,μlen:=rfl,μpre:=(fun i b hi _=>by simp [X] at hi),nle:=(by simp [X]),heap:=(fun id o h=>by simp at h),klt:=fun b hb=>hb,n0le:=(by simp [X])},fun t=>?_,?_,rfl,fun t h=>absurd h (by simp [X])⟩
  ·rcases EH (tmps:=a.tmps) (k:=0) ha (fun j v hj=>by
    have hjl:j<vs.length:=(lS.1 hj).1
    have e2:(vs.toArray++Array.replicate (fn.ntmps-vs.length) undef)[j]?=some v:=by
     rw [Array.getElem?_append_left (by simpa using hjl)];simpa using hj
    simp [a,e2]) t with h0|⟨d,h0,h1⟩
   ·rw [h0];exact .un
   ·rw [h0];exact .of (bs:=[]) (.d h1) nN (by simp)
  ·simp [a,X,hnt];omega
 have hw:=h X a w I [] (fun _=>none) rfl rfl rfl hs
 refine wpIn_mono hw fun e a' w' hp=>?_
 obtain ⟨env',H',I',μ',O',ms,s,⟨he,q⟩,hm⟩:=hp
 have hdf:a'.defers=ms:=by rw [s.dfs.1];simp [X]
 have fin:LeavesInM (om none) 0 P fn a'.tmps (fun e w'=>∃ v I' bs,e=.returned v∧Below w.heap.size w w'∧(∀ b,I b→I' b) ∧
   (∀ b,I' b→b<w'.heap.size∧(b<w.heap.size→I b))∧ARep P w' I' [] r v bs∧bs.Nodup∧∀ b∈bs,w.heap.size≤b∧b<w'.heap.size∧¬I' b) a'.defers .returning w':=by
  rw [hdf]
  refine IX (fun w4 s4=>?_) ms w' s hm
  obtain ⟨v,bs,h1,h2,h3,h4⟩:∃ v bs,(Go.results fn a'.tmps).run P w4=.ok v w4∧ARep P w4 I' μ' r v bs∧bs.Nodup∧∀ b∈bs,∃ l,O' b=some l:=by
   rcases q with q|q|q
   ·exact s4.resultsC hrs q
   ·exact s4.resultsA hrs q
   ·exact s4.results hrs q
  refine ⟨v,h1,v,I',bs,rfl,⟨s4.os,s4.tape,s4.output,s4.size,fun b hb=>s4.prot b hb⟩,s4.mono,fun b hi=>⟨s4.ilt b hi,fun hb=>s4.kI b hb hi⟩,h2.noBp hbp,h3,fun b hm=>?_⟩
  obtain ⟨l,hl⟩:=h4 b hm
  refine ⟨?_,(s4.own b l hl).1,(s4.own b l hl).2⟩
  rcases Nat.lt_or_ge b w.heap.size with hlt|hge
  ·have:=s4.kO b hlt;rw [this] at hl;cases hl
  ·exact hge
 rcases he with rfl|rfl<;>exact fin
end
end Go.FL
namespace Go.FL
open Go Go.RowKit
section
variable {P:Program} {C:Cx} {X:Snap} {o:Oper} {ops:Array Oper} {Q:Exit→Env→Af→Prop} {env env':Env} {H H':Af} {a:Act} {w w':World} {I I':Nat→Prop} {μ μ':List Nat} {O O':Nat→Option Loc}
 {K:Env→Af→Prop} {k:Nat} {l:List Oper}
theorem ARepAll.reC {c c':AV} (hcc:∀ v bs,ARep P w I μ c v bs→ARep P w I μ c' v bs) : ∀ {cs:List AV} {vs:List Value} {bs:List Nat} (off:Nat),ARepAll P w I μ cs vs bs→cs[off]?=some c→ARepAll P w I μ (cs.set off c') vs bs
 | [],_,_,_,h,hc=>by simp at hc
 | x::xs,_,_,0,.cons h t,hc=>by
  simp at hc;subst hc
  exact .cons (hcc _ _ h) t
 | x::xs,_,_,off+1,.cons h t,hc=>.cons h (t.reC hcc off (by simpa using hc))
theorem Gh.cell {id off:Nat} {cs:List AV} {c c':AV} (hH:H[id]?=some (.box cs)) (hc:cs[off]?=some c) (hno:Al c=false) (hcc:∀ w I μ v bs,ARep P w I μ c v bs→ARep P w I μ c' v bs) :
  Gh P C env H env (H.set id (.box (cs.set off c'))):=fun X a w I μ O _ _ _ hs=>by
 have hlt:id<H.length:=(lS.1 hH).1
 refine ⟨I,O,⟨{hs.toMem with
  μlen:=by rw [hs.μlen];simp
  nle:=by simpa using hs.nle
  heap:=fun i ob ho=>?_},fun t=>?_,hs.nt,hs.dfs⟩⟩
 ·by_cases hi:i=id
  ·subst hi
   rw [List.getElem?_set_self hlt] at ho
   cases ho
   obtain ⟨blk,bs,h1,h2,h3,h4⟩:=hs.heap i _ hH
   obtain ⟨cells,e,k1,k2⟩:=h2
   exact ⟨blk,bs,h1,⟨cells,e,k1,k2.reC (hcc w I μ) off hc⟩,h3,h4⟩
  ·rw [List.getElem?_set_ne (Ne.symm hi)] at ho
   exact hs.heap i ob ho
 ·refine (hs.envr t).keepG (fun _ h=>h) (fun _ _=>rfl) (fun _ _ h=>h) (fun b hb=>⟨rfl,hb⟩) fun p e xs hp=>⟨?_,fun v hv=>hv⟩
  cases p with
  | t r=>exact hp
  | c i o =>
   simp only [AN] at hp ⊢
   by_cases hi:i=id
   ·subst hi
    rw [List.getElem?_set_self hlt]
    rw [hH] at hp
    simp only at hp ⊢
    by_cases ho:o=off
    ·subst ho
     rw [lD,hc] at hp
     simp at hp
     rw [hp] at hno;cases hno
    ·rw [lD,List.getElem?_set_ne (Ne.symm ho),← lD];exact hp
   ·rw [List.getElem?_set_ne (Ne.symm hi)];exact hp
theorem Gh.nlOwnC {id off:Nat} {cs:List AV} (e:TypeId) (hsz:0<AA P e) (hH:H[id]?=some (.box cs):=by rfl) (hc:cs[off]?=some .nl:=by rfl) : Gh P C env H env (H.set id (.box (cs.set off (.own e [])))) :=
 Gh.cell hH hc rfl fun w I μ v bs h=>by
  cases h
  exact .own e [] (.slice none 0 0) [] hsz (.inl ⟨none,rfl,rfl,rfl⟩) (.nil _)
theorem Em {ty e sz by_ len:Nat} {z:Value} {parts:Array (Nat×Operand)} {xs:List Operand} {ds ds':List DV} (he:ds'=ds) (hsz:∀ d∈ds',d.flat=true∧d.cells.length=sz) (hT:Cn P ty=some (e,sz,by_,z))
  (ho:o.op=.buildSlice ty len parts:=by rfl) (hp:Hr 0 parts.toList=some xs:=by rfl) (hlen:xs.length=len:=by rfl) (ha:argsD env xs=some ds:=by rfl) (hsmall:len * sz≤16777216:=by decide):VOK P C o env H (.own e ds'):=by
 subst he;exact G5 hsz hT ho hp hlen ha hsmall
theorem TF {x:Operand} {ty:Nat} {v:DV} (ho:o.op=.box ty x:=by rfl) (hv:A7 (lk env x)=some v:=by rfl) (hl:v.leaf=true:=by rfl) : VOK P C o env H (.d (.ptr [v])) :=
 .val (by simp [ho]) fun X a w I μ O _ _ _ hs=>by
  have hr:=hs.deep (x:=x) hv
  have hone:=hr.one hl
  have hcells:(a.eval x).cells=#[a.eval x]:=by
   generalize a.eval x=u at hone
   cases u<;>first|rfl|simp [Value.oneCell'] at hone
  have hb:Below w.heap.size w (w.alloc (.cells #[a.eval x] ty)):=Bh _
  refine ⟨.pointer (some ⟨w.heap.size,0,none⟩),_,fun b=>I b∨b=w.heap.size,[],?_,hb,fun b hi=>.inl hi,fun b hi=>?_,.d (.ptr [v] w.heap.size 0 [a.eval x] (.inr rfl) ?_ (.cons (hr.keep (fun b hi=>hb.block b (hs.ilt b hi)) fun b hi=>.inl hi) .nil)),nN,by simp⟩
  ·simp only [execOp,ho,Instr.box,Sem.run_bind,DX,Result.andThen_ok,Sem.run_pure,hcells]
  ·rcases hi with hi|rfl
   ·exact ⟨nL (hs.ilt b hi) hb.size,fun _=>hi⟩
   ·exact ⟨by simp,fun hlt=>absurd hlt (Nat.lt_irrefl _)⟩
  ·intro j u hj
   have hnew:(w.alloc (.cells #[a.eval x] ty)).heap[w.heap.size]?=some (.cells #[a.eval x] ty):=World.alloc_heap_new w _
   have hj0:j<1:=by simpa using (lS.1 hj).1
   have:j=0:=by omega
   subst this
   simp at hj;subst hj
   show World.cell? _ ⟨w.heap.size,0+0,none⟩=_
   unfold World.cell?
   show (match (w.alloc (.cells #[a.eval x] ty)).heap[w.heap.size]? with|some (.cells c _ _)=>_|_=>_)=_
   rw [hnew];rfl
theorem U4 {x:Operand} {av:AV} (ho:o.op=.move x:=by rfl) (hv:lk env x=av:=by rfl) (hu:av≠.un:=by simp) (hr:A3 av=false:=by rfl) (hn:noOwn av=true:=by rfl) : VOK P C o env H av:=by
 obtain ⟨h1,h2⟩:=Av hv hu
 have:=II (P:=P) (C:=C) (env:=env) (H:=H) (.inl ho) h1 (by rw [h2];exact hr) (by rw [h2];exact hn)
 rw [h2] at this;exact .pv this hr
theorem Mu {x:Operand} {ty id off:Nat} {cs:List AV} {c:AV} (hH:H[id]?=some (.box cs)) (hc:cs[off]?=some c) (hag:Cu P ty=some false) (ho:o.op=.load ty x:=by rfl) (hv:lk env x=.bp id off:=by rfl) (hn:noOwn c=true:=by rfl) (hr:A3 c=false:=by rfl) : VOK P C o env H c:=by
 obtain ⟨h1,h2⟩:=Av hv (by simp)
 exact .pv (L7 ho h1 hag h2 hH hc hn) hr
theorem RB {x:Operand} {id off:Nat} (ho:o.op=.nilCheck x:=by rfl) (hv:lk env x=.bp id off:=by rfl) : VOK P C o env H (.bp id off):=by
 obtain ⟨h1,h2⟩:=Av hv (by simp)
 have:=VD (P:=P) (C:=C) (env:=env) (H:=H) ho h1 (.inl ⟨id,off,h2⟩)
 rw [h2] at this;exact .pv this
theorem Mn {x:Operand} {ty id off:Nat} {cs:List AV} {e:TypeId} {xs:List DV} (hH:H[id]?=some (.box cs)) (hc:cs[off]?=some (.own e xs)) (hag:Cu P ty=some false) (ho:o.op=.load ty x:=by rfl) (hv:lk env x=.bp id off:=by rfl) : VOK P C o env H (.ref (.c id off) 0 xs.length):=by
 obtain ⟨h1,h2⟩:=Av hv (by simp)
 refine .rel (by simp [ho]) fun X a w I μ O _ hs=>?_
 obtain ⟨blk,hm,he⟩:=hs.bp h1 h2
 obtain ⟨v,bk,g1,g2⟩:=hs.cell hH hc hm
 refine ⟨v,by simp [execOp,ho,Instr.loadAt,he,Instr.sureAddr,BK hag g1],rfl,RefRel.self hs (p:=.c id off) ?_ ?_ (e:=e)⟩
 ·rw [Gg hH,lD,hc];rfl
 ·simp [Ba,hm,g1]
end
structure FDV where
 fn ::
 f:FuncId
 first:List DV
 caps:List DV
def FDV.dv (x:FDV) : DV:=.fn x.f x.first x.caps
structure FW (α β:Type) where
 fd:FDV
 g:α→Option β
def FW.dv {α β:Type} (f:FW α β) : DV:=f.fd.dv
def FW.OK {α β:Type} (P:Program) (enc:α→List DV) (dec:β→AV) (f:FW α β) : Prop:=∀ x r,f.g x=some r→FnV P f.dv (enc x) (dec r)
theorem DY {P:Program} {α β:Type} {enc:α→List DV} {dec:β→AV} {f:FuncId} {caps:List DV} {g:α→Option β} (hcall:∀ args w,(callFunc f args).run P w=.ok (.enter f args) w) (h:∀ x r,g x=some r→Fn P f (enc x++caps) (dec r)) :
  FW.OK P enc dec ⟨.fn f [] caps,g⟩:=fun x r hx=>FnV.of hcall (h x r hx)
end Go.FL
namespace Go.FL
open Go Go.Proofs
mutual
inductive Itm where
 | mk (kind:Int) (num:RT) (char:Int) (box:List Arr)
inductive Arr where
 | mk (shape:List Int) (items:List Itm)
end
instance : Inhabited Itm:=⟨.mk 0 (false,[],[]) 0 []⟩
instance : Inhabited Arr:=⟨.mk [] []⟩
def Itm.kind : Itm→Int | .mk k _ _ _=>k
def Itm.num : Itm→RT | .mk _ n _ _=>n
def Itm.char : Itm→Int | .mk _ _ c _=>c
def Itm.box : Itm→List Arr | .mk _ _ _ b=>b
def Arr.shape : Arr→List Int | .mk s _=>s
def Arr.items : Arr→List Itm | .mk _ i=>i
theorem Itm.eta (x:Itm) : Itm.mk x.kind x.num x.char x.box=x:=by cases x;rfl
theorem Arr.eta (x:Arr) : Arr.mk x.shape x.items=x:=by cases x;rfl
mutual
def Itm.size : Itm→Nat
 | .mk _ _ _ b=>arsSize b+1
def Arr.size : Arr→Nat
 | .mk _ i=>itsSize i+1
def itsSize : List Itm→Nat
 | []=>0
 | x::xs=>x.size+itsSize xs
def arsSize : List Arr→Nat
 | []=>0
 | x::xs=>x.size+arsSize xs
end
def Is (xs:List Int) : List DV:=xs.map (.i .i64)
mutual
def Itm.dv : Itm→DV
 | .mk k n c b=>.ag [.i .u8 k,.b n.1,.sl (L n.2.1),.sl (L n.2.2),.i .i32 c,.sl (Ars b)]
def Arr.dv : Arr→DV
 | .mk s i=>.ag [.sl (Is s),.sl (Its i)]
def Its : List Itm→List DV
 | []=>[]
 | x::xs=>x.dv::Its xs
def Ars : List Arr→List DV
 | []=>[]
 | x::xs=>x.dv::Ars xs
end
theorem Itm.dv_eq (x:Itm) : x.dv=.ag [.i .u8 x.kind,.b x.num.1,.sl (L x.num.2.1),.sl (L x.num.2.2),.i .i32 x.char,.sl (Ars x.box)]:=by cases x;simp only [Itm.dv];rfl
theorem Arr.dv_eq (x:Arr) : x.dv=.ag [.sl (Is x.shape),.sl (Its x.items)]:=by cases x;simp only [Arr.dv];rfl
theorem ET (xs:List Itm) : Its xs=xs.map Itm.dv:=by induction xs with
 | nil=>simp [Its]
 | cons x xs ih=>simp [Its,ih]
theorem FE (xs:List Arr) : Ars xs=xs.map Arr.dv:=by induction xs with
 | nil=>simp [Ars]
 | cons x xs ih=>simp [Ars,ih]
theorem Ad (xs:List Int) : (Is xs).length=xs.length:=by simp [Is]
theorem AT {xs:List Int} {i:Nat} {x:Int} (h:xs[i]?=some x) : (Is xs)[i]?=some (.i .i64 x):=by simp [Is,h]
theorem FU (xs:List Int) : ∀ x∈Is xs,x.cells.length=1:=fun x hx=>by
 simp only [Is,List.mem_map] at hx
 obtain ⟨n,_,rfl⟩:=hx;rfl
theorem A0 (xs:List Int) : ∃ sz,∀ x∈Is xs,x.cells.length=sz:=⟨1,FU xs⟩
theorem HG (xs ys:List Int) : Is (xs++ys)=Is xs++Is ys:=by simp [Is]
theorem Cy (xs:List Int) : ∀ d∈Is xs,d.flat=true∧d.cells.length=1:=fun x hx=>by
 simp only [Is,List.mem_map] at hx
 obtain ⟨n,_,rfl⟩:=hx
 exact ⟨by simp [DV.flat,DV.cells,DV.leaf],rfl⟩
theorem Ej (xs:List Int) (n:Nat) (x:Int) : (Is xs).set n (.i .i64 x)=Is (xs.set n x):=by simp [Is,List.map_set]
theorem Ay (xs:List Itm) : (Its xs).length=xs.length:=by simp [ET]
theorem C6 {xs:List Itm} {i:Nat} {x:Itm} (h:xs[i]?=some x) : (Its xs)[i]?=some (.ag [.i .u8 x.kind,.b x.num.1,.sl (L x.num.2.1),.sl (L x.num.2.2),.i .i32 x.char,.sl (Ars x.box)]):=by rw [ET,List.getElem?_map,h,Option.map_some,Itm.dv_eq]
theorem Eu (xs:List Itm) : ∀ x∈Its xs,x.cells.length=6:=fun x hx=>by
 rw [ET,List.mem_map] at hx
 obtain ⟨n,_,rfl⟩:=hx;rw [Itm.dv_eq];rfl
theorem CD (xs:List Itm) : ∃ sz,∀ x∈Its xs,x.cells.length=sz:=⟨6,Eu xs⟩
theorem Fe (xs ys:List Itm) : Its (xs++ys)=Its xs++Its ys:=by simp [ET]
theorem UD (xs:List Itm) (n:Nat) : (Its xs).take n=Its (xs.take n):=by simp [ET,List.map_take]
theorem U9 (xs:List Itm) (n:Nat) : (Its xs).drop n=Its (xs.drop n):=by simp [ET,List.map_drop]
theorem Db (xs:List Itm) : ∀ d∈Its xs,d.flat=true∧d.cells.length=6:=fun x hx=>by
 rw [ET,List.mem_map] at hx
 obtain ⟨n,_,rfl⟩:=hx
 rw [Itm.dv_eq]
 exact ⟨by simp [DV.flat,DV.cells,DV.leaf],rfl⟩
theorem Er (x:Itm) : Its [x]=[.ag [.i .u8 x.kind,.b x.num.1,.sl (L x.num.2.1),.sl (L x.num.2.2),.i .i32 x.char,.sl (Ars x.box)]]:=by simp [ET,Itm.dv_eq]
theorem SR (x y:Itm) : Its [x,y]=[.ag [.i .u8 x.kind,.b x.num.1,.sl (L x.num.2.1),.sl (L x.num.2.2),.i .i32 x.char,.sl (Ars x.box)],.ag [.i .u8 y.kind,.b y.num.1,.sl (L y.num.2.1),.sl (L y.num.2.2),.i .i32 y.char,.sl (Ars y.box)]]:=by simp [ET,Itm.dv_eq]
theorem Bw (xs:List Arr) : (Ars xs).length=xs.length:=by simp [FE]
theorem Fv {xs:List Arr} {i:Nat} {x:Arr} (h:xs[i]?=some x) : (Ars xs)[i]?=some (.ag [.sl (Is x.shape),.sl (Its x.items)]):=by rw [FE,List.getElem?_map,h,Option.map_some,Arr.dv_eq]
theorem M6 (xs:List Arr) : ∀ x∈Ars xs,x.cells.length=2:=fun x hx=>by
 rw [FE,List.mem_map] at hx
 obtain ⟨n,_,rfl⟩:=hx;rw [Arr.dv_eq];rfl
theorem EG (xs:List Arr) : ∃ sz,∀ x∈Ars xs,x.cells.length=sz:=⟨2,M6 xs⟩
theorem Pm (xs ys:List Arr) : Ars (xs++ys)=Ars xs++Ars ys:=by simp [FE]
theorem Hf (xs:List Arr) : ∀ d∈Ars xs,d.flat=true∧d.cells.length=2:=fun x hx=>by
 rw [FE,List.mem_map] at hx
 obtain ⟨n,_,rfl⟩:=hx
 rw [Arr.dv_eq]
 exact ⟨by simp [DV.flat,DV.cells,DV.leaf],rfl⟩
theorem KA (x:Arr) : Ars [x]=[.ag [.sl (Is x.shape),.sl (Its x.items)]]:=by simp [FE,Arr.dv_eq]
theorem Th (x y:Arr) : Ars [x,y]=[.ag [.sl (Is x.shape),.sl (Its x.items)],.ag [.sl (Is y.shape),.sl (Its y.items)]]:=by simp [FE,Arr.dv_eq]
theorem BX : Cu Tryz.prog 55=some false:=by kernel_rfl
theorem JA : AA Tryz.prog 58=6:=by kernel_rfl
theorem Bd : Cu Tryz.prog 58=some true:=by kernel_rfl
theorem AG : AA Tryz.prog 58=6:=by kernel_rfl
theorem Ds : Cg Tryz.prog 58 0=some (0,1):=by kernel_rfl
theorem B9 : Cg Tryz.prog 58 1=some (1,3):=by kernel_rfl
theorem Eg : Cg Tryz.prog 58 2=some (4,1):=by kernel_rfl
theorem Br : Cg Tryz.prog 58 3=some (5,1):=by kernel_rfl
theorem JH : DN Tryz.prog 58=some [(0,1),(1,3),(4,1),(5,1)]:=by kernel_rfl
theorem CU : (Tryz.prog.info? 58).bind (·.zero)=some (.agg #[.int .u8 0,.bool false,.slice none 0 0,.slice none 0 0,.int .i32 0,.slice none 0 0]):=by kernel_rfl
theorem Pf (w:World) (I:Nat→Prop) (μ:List Nat) : ARepAll Tryz.prog w I μ [.d (.i .u8 0),.d (.b false),.nl,.nl,.d (.i .i32 0),.nl] (Value.agg #[.int .u8 0,.bool false,.slice none 0 0,.slice none 0 0,.int .i32 0,.slice none 0 0]).cells.toList []:=ARepAll.cons (b1:=[]) (b2:=[]) (.d (.i _ _)) (ARepAll.cons (b1:=[]) (b2:=[]) (.d (.b _)) (ARepAll.cons (b1:=[]) (b2:=[]) (.nl) (ARepAll.cons (b1:=[]) (b2:=[]) (.nl) (ARepAll.cons (b1:=[]) (b2:=[]) (.d (.i _ _)) (ARepAll.cons (b1:=[]) (b2:=[]) (.nl) (.nil))))))
theorem Dm (w:World) (I:Nat→Prop) : RepAll w I [.i .u8 0,.b false,.sl [],.sl [],.i .i32 0,.sl []] (Value.agg #[.int .u8 0,.bool false,.slice none 0 0,.slice none 0 0,.int .i32 0,.slice none 0 0]).cells.toList:=.cons (.i _ _) (.cons (.b _) (.cons (.sl0 _ _) (.cons (.sl0 _ _) (.cons (.i _ _) (.cons (.sl0 _ _) (.nil))))))
theorem Sk : AA Tryz.prog 27=2:=by kernel_rfl
theorem Ac : Cu Tryz.prog 27=some true:=by kernel_rfl
theorem Ab : AA Tryz.prog 27=2:=by kernel_rfl
theorem Sc : TN Tryz.prog 27 1=some false:=by kernel_rfl
theorem Ai : Cg Tryz.prog 27 0=some (0,1):=by kernel_rfl
theorem AD : Cg Tryz.prog 27 1=some (1,1):=by kernel_rfl
theorem Bl : DN Tryz.prog 27=some [(0,1),(1,1)]:=by kernel_rfl
theorem As : (Tryz.prog.info? 27).bind (·.zero)=some (.agg #[.slice none 0 0,.slice none 0 0]):=by kernel_rfl
theorem KI (w:World) (I:Nat→Prop) (μ:List Nat) : ARepAll Tryz.prog w I μ [.nl,.nl] (Value.agg #[.slice none 0 0,.slice none 0 0]).cells.toList []:=ARepAll.cons (b1:=[]) (b2:=[]) (.nl) (ARepAll.cons (b1:=[]) (b2:=[]) (.nl) (.nil))
theorem Aw (w:World) (I:Nat→Prop) : RepAll w I [.sl [],.sl []] (Value.agg #[.slice none 0 0,.slice none 0 0]).cells.toList:=.cons (.sl0 _ _) (.cons (.sl0 _ _) (.nil))
theorem Se : Cu Tryz.prog 81=some true:=by kernel_rfl
theorem Lk : AA Tryz.prog 81=2:=by kernel_rfl
theorem KD : Cg Tryz.prog 81 0=some (0,1):=by kernel_rfl
theorem PR : Cg Tryz.prog 81 1=some (1,1):=by kernel_rfl
theorem Vs : DN Tryz.prog 81=some [(0,1),(1,1)]:=by kernel_rfl
theorem L0 : (Tryz.prog.info? 81).bind (·.zero)=some (.agg #[.int .i64 0,.int .i64 0]):=by kernel_rfl
theorem Sw (w:World) (I:Nat→Prop) (μ:List Nat) : ARepAll Tryz.prog w I μ [.d (.i .i64 0),.d (.i .i64 0)] (Value.agg #[.int .i64 0,.int .i64 0]).cells.toList []:=ARepAll.cons (b1:=[]) (b2:=[]) (.d (.i _ _)) (ARepAll.cons (b1:=[]) (b2:=[]) (.d (.i _ _)) (.nil))
theorem PU (w:World) (I:Nat→Prop) : RepAll w I [.i .i64 0,.i .i64 0] (Value.agg #[.int .i64 0,.int .i64 0]).cells.toList:=.cons (.i _ _) (.cons (.i _ _) (.nil))
theorem Ax : Cu Tryz.prog 24=some false:=by kernel_rfl
theorem H7 : AA Tryz.prog 24=1:=by kernel_rfl
theorem IP : (Tryz.prog.info? 24).bind (·.zero)=some (.slice none 0 0):=by kernel_rfl
theorem O7 (w:World) (I:Nat→Prop) (μ:List Nat) : ARepAll Tryz.prog w I μ [.nl] (Value.cells (.slice none 0 0)).toList []:=ARepAll.cons (b1:=[]) (b2:=[]) (.nl) .nil
theorem AJ : CR Tryz.prog 24=some (3,1,8):=by kernel_rfl
theorem BL : Cn Tryz.prog 24=some (3,1,8,.int .i64 0):=by kernel_rfl
theorem AS : Tryz.prog.underlying 24=some (.slice (Tryz.prog.elem 24)):=by kernel_rfl
theorem IV : (17592186044416:Nat) * 8≤140737488355328∧(17592186044416:Nat)≤9223372036854775807:=by decide
theorem Bm : Cu Tryz.prog 23=some false:=by kernel_rfl
theorem JG : AA Tryz.prog 23=1:=by kernel_rfl
theorem C3 : CR Tryz.prog 23=some (58,6,96):=by kernel_rfl
theorem Cz : Cn Tryz.prog 23=some (58,6,96,.agg #[.int .u8 0,.bool false,.slice none 0 0,.slice none 0 0,.int .i32 0,.slice none 0 0]):=by kernel_rfl
theorem CC : Tryz.prog.underlying 23=some (.slice (Tryz.prog.elem 23)):=by kernel_rfl
theorem GA : (1466015503701:Nat) * 96≤140737488355328∧(1466015503701:Nat)≤9223372036854775807:=by decide
theorem C9 : Cu Tryz.prog 56=some false:=by kernel_rfl
theorem Rg : AA Tryz.prog 56=1:=by kernel_rfl
theorem Fm : CR Tryz.prog 56=some (27,2,48):=by kernel_rfl
theorem IH : Cn Tryz.prog 56=some (27,2,48,.agg #[.slice none 0 0,.slice none 0 0]):=by kernel_rfl
theorem EC : Tryz.prog.underlying 56=some (.slice (Tryz.prog.elem 56)):=by kernel_rfl
theorem Si : (2932031007402:Nat) * 48≤140737488355328∧(2932031007402:Nat)≤9223372036854775807:=by decide
abbrev Ce : Type:=FW (Itm) (Bool)
abbrev Je (f:Ce) : Prop:=f.OK Tryz.prog (fun x=>[.ag [.i .u8 x.kind,.b x.num.1,.sl (L x.num.2.1),.sl (L x.num.2.2),.i .i32 x.char,.sl (Ars x.box)]]) (fun r=>.d (.b r))
abbrev BZ : Type:=FW (Itm) (Itm)
abbrev Nq (f:BZ) : Prop:=f.OK Tryz.prog (fun x=>[.ag [.i .u8 x.kind,.b x.num.1,.sl (L x.num.2.1),.sl (L x.num.2.2),.i .i32 x.char,.sl (Ars x.box)]]) (fun r=>.d (.ag [.i .u8 r.kind,.b r.num.1,.sl (L r.num.2.1),.sl (L r.num.2.2),.i .i32 r.char,.sl (Ars r.box)]))
abbrev Bt : Type:=FW (Int) (Bool)
abbrev Jb (f:Bt) : Prop:=f.OK Tryz.prog (fun x=>[.i .i64 x]) (fun r=>.d (.b r))
abbrev CX : Type:=FW (Itm×Itm) (Bool)
abbrev JC (f:CX) : Prop:=f.OK Tryz.prog (fun x=>[.ag [.i .u8 x.1.kind,.b x.1.num.1,.sl (L x.1.num.2.1),.sl (L x.1.num.2.2),.i .i32 x.1.char,.sl (Ars x.1.box)],.ag [.i .u8 x.2.kind,.b x.2.num.1,.sl (L x.2.num.2.1),.sl (L x.2.num.2.2),.i .i32 x.2.char,.sl (Ars x.2.box)]]) (fun r=>.d (.b r))
abbrev CV : Type:=FW (Arr×Arr) (Bool)
abbrev JS (f:CV) : Prop:=f.OK Tryz.prog (fun x=>[.ag [.sl (Is x.1.shape),.sl (Its x.1.items)],.ag [.sl (Is x.2.shape),.sl (Its x.2.items)]]) (fun r=>.d (.b r))
abbrev BH : Type:=FW (Arr) (Bool)
abbrev IZ (f:BH) : Prop:=f.OK Tryz.prog (fun x=>[.ag [.sl (Is x.shape),.sl (Its x.items)]]) (fun r=>.d (.b r))
def pv : List Nat→Nat→Option Nat
 | [],n=>some n
 | c::r,n=>if 48≤c∧c≤57 then pv r (n * 10+(c-48)) else none
def okL (k:Nat) (a:List Nat) : Bool:=a.all (fun x=>decide (x<4294967296))&&decide (a.length≤k)
theorem IM {k:Nat} {a:List Nat} : okL k a=true↔Ok a∧a.length≤k:=by simp [okL,Ok]
def Jz (r:RT) : Bool:=okL 35184372087808 r.2.1&&okL 35184372087808 r.2.2
theorem KM {r:RT} : Jz r=true↔okR r:=by
 simp only [Jz,Bool.and_eq_true,IM,okR]
 exact ⟨fun ⟨⟨a,b⟩,c,d⟩=>⟨a,c,b,d⟩,fun ⟨a,c,b,d⟩=>⟨⟨a,b⟩,c,d⟩⟩
def OI : Option (List Nat):=if True then some ([1]) else none
theorem QN {r:List Nat} (h:OI=some r) : Fn Tryz.prog 87 [] (.own 128 (L r)):=by
 obtain ⟨hc,h⟩:=H9 h
 cases h
 exact KK
def HJ (a:List Nat) (b:List Nat) : Option (Bool):=if (okL 1048576 a&&okL 35184372087808 b)=true then some (decide (a=b)) else none
theorem Ir {a:List Nat} {b:List Nat} {r:Bool} (h:HJ a b=some r) : Fn Tryz.prog 113 [.sl (L a),.sl (L b)] (.d (.b r)):=by
 obtain ⟨hc,h⟩:=H9 h
 cases h
 simp only [Bool.and_eq_true,IM] at hc
 exact ND a b hc.1.2 hc.1.1 hc.2.1
def Jg (a:List Nat) : Option (List Nat):=if a.length≤35184372087808 then some (a) else none
theorem LD {a:List Nat} {r:List Nat} (h:Jg a=some r) : Fn Tryz.prog 120 [.sl (L a)] (.own 128 (L r)):=by
 obtain ⟨hc,h⟩:=H9 h
 cases h
 exact KV _ hc
def I9 (a:RT) : Option (Bool):=if Jz a=true then some (Fl a) else none
theorem JW {a:RT} {r:Bool} (h:I9 a=some r) : Fn Tryz.prog 117 [.ag [.b a.1,.sl (L a.2.1),.sl (L a.2.2)]] (.d (.b r)):=by
 obtain ⟨hc,h⟩:=H9 h
 cases h
 obtain ⟨h1,h2,h3,h4⟩:=KM.1 hc
 exact Ql h1 h2 h3 h4
def Lw (a:RT) (b:RT) : Option (Bool):=if (decide (a.2.1.length≤35184372087808)&&decide (a.2.2.length≤35184372087808))=true then some (decide (a=b)) else none
theorem Oe {a:RT} {b:RT} {r:Bool} (h:Lw a b=some r) : Fn Tryz.prog 88 [.ag [.b a.1,.sl (L a.2.1),.sl (L a.2.2)],.ag [.b b.1,.sl (L b.2.1),.sl (L b.2.2)]] (.d (.b r)):=by
 obtain ⟨hc,h⟩:=H9 h
 cases h
 simp only [Bool.and_eq_true,decide_eq_true_eq] at hc
 have:=OD a.1 b.1 a.2.1 a.2.2 b.2.1 b.2.2 hc.1 hc.2
 rw [decide_eq_decide.2 (show (a.1=b.1∧a.2.1=b.2.1∧a.2.2=b.2.2)↔a=b by
  obtain ⟨a1,a2,a3⟩:=a;obtain ⟨b1,b2,b3⟩:=b;simp)] at this
 exact this
def EW (z:Int) : Option (RT):=if -9223372036854775808≤z∧z≤9223372036854775807 then some ((decide (z<0),A1 z.natAbs,[1])) else none
theorem Hj {z:Int} {r:RT} (h:EW z=some r) : Fn Tryz.prog 45 [.i .i64 z] (.d (.ag [.b r.1,.sl (L r.2.1),.sl (L r.2.2)])):=by
 obtain ⟨hc,h⟩:=H9 h
 cases h
 exact RF hc.1 hc.2
def Gl (a0:RT) : Option (Bool):=((I9 a0).bind fun x1=>(Option.bind ((if x1=true then (OI.bind fun x3=>((HJ a0.2.2 x3).bind fun x4=>(some x4))) else (some false)) : Option (Bool)) fun (z1:Bool)=>(some (z1))))
theorem MY {a0:RT} {r:Bool} (h:Gl a0=some r) :
  Fn Tryz.prog 160 [.ag [.b a0.1,.sl (L a0.2.1),.sl (L a0.2.2)]] (.d (.b r)):=by
 unfold Gl at h
 refine Fn.o1 2 11 Tryz.func160 ?_;refine .sr ?_;refine vk (vbx) ?_;refine ar [1,2] ?_;refine .seq ?_
 obtain ⟨x1,g1,h⟩:=bnd h
 obtain ⟨z1,hz,h⟩:=bnd h
 refine AW.mr (σ:=Unit) (fun _=>True) (fun _=>[(2,.d (.b z1))]) (fun _=>[]) ?_ ?_
 ·skip
  refine .drawn 8 Bb (by kernel_rfl) ?_;refine dv (AH Jx HW) ?_;refine dv (Am (JW g1) Tryz.call117) ?_
  rcases brc hz with ⟨hc,hz⟩|⟨hc,hz⟩
  ·have hb0:x1=true:=hc
   refine dv (VOK.lit (Aa) hb0) ?_;refine dv (vfa Hd) ?_;refine dv (Ah Ip) ?_
   obtain ⟨x3,g3,hz⟩:=bnd hz
   refine dv ((Am (QN g3) Tryz.call87).deep) ?_
   obtain ⟨x4,g4,hz⟩:=bnd hz
   refine dv (Am (Ir g4) Tryz.call113) ?_;refine dv (An) ?_;refine dz ?_;refine asd ?_;refine RL.gk [2] ?_;refine .nil ?_
   cases hz
   exact jr () trivial
  have hb0:x1=false:=(bf hc)
  refine dv (VOK.lit (Aa) hb0) ?_;refine dgf ?_;refine dgf ?_;refine dgf ?_;refine dgf ?_;refine dv (An) ?_;refine dz ?_;refine asd ?_;refine RL.gk [2] ?_;refine .nil ?_
  cases hz
  exact jr () trivial
 rintro _ _
 refine .ret ?_
 cases h
 exact ⟨rfl,rfl⟩
def AU (a0:(List Int)) (a1:Bt) (K0:Int→Option (Int)) : Nat→Int→Int→Option (Int)
 | 0,_,_=>none
 | k+1,s2,s3=>(if s3<((List.length a0:Nat):Int) then ((rd? a0 s3).bind fun x4=>((a1.g x4).bind fun x5=>(if x5=true then (some (s3)) else (AU a0 a1 K0 k s2 (w64 (s3+1)))))) else (K0 s2))
def BU (a0:(List Int)) (a1:Bt) : Option (Int):=(jn (fun (z1:Int)=>(some ((-1)))) fun K0=>(AU a0 a1 K0 AK 0 0))
theorem Fc {a0:(List Int)} {a1:Bt} (oa1:Jb a1) {r:Int} (h:BU a0 a1=some r) :
  Fn Tryz.prog 115 [.sl (Is a0),a1.dv] (.d (.i .i64 r)):=by
 unfold BU at h
 refine Fn.o1 4 19 Tryz.func115 ?_;refine .sr ?_;refine ar [0,1,4] ?_;refine .seq ?_;refine .sr ?_;refine vk (Aa) ?_;refine vk (AR (Ad _) (A0 _) AS) ?_;refine vk (Aa) ?_;refine rk [0,1,4,7,8] ?_
 obtain ⟨K0,hK0,h⟩:=AQ h
 refine AW.mr (σ:=Int) (fun p=>K0 p=some r) (fun p=>[(4,.d (.i .i64 p))]) (fun p=>[]) ?_ ?_
 ·skip
  refine .block ?_
  refine .loop (.gk [0,1,4,7,8] ?_)
  refine AL.ind (σ:=Nat×Int×Int) (m:=fun p=>p.1) (e:=fun p=>[(0,.d (.sl (Is a0))),(1,.d (a1.dv)),(4,.d (.i .i64 p.2.1)),(7,.d (.i .i64 ((List.length a0:Nat):Int))),(8,.d (.i .i64 p.2.2))]) (h:=fun p=>[]) (I:=fun p=>AU a0 a1 K0 p.1 p.2.1 p.2.2=some r) ?_ (AK,0,0) h
  rintro ⟨k,s2,s3⟩ h ih
  dsimp only at h ih ⊢
  rcases k with _|k
  ·rw [AU] at h;cases h
  rw [AU] at h
  refine .sr ?_;refine vk (vbi) ?_;refine rk [0,1,4,7,8,9] ?_;refine .seq ?_
  rcases brc h with ⟨hc,h⟩|⟨hc,h⟩
  ·refine cnt (dT hc) ?_
   refine .skip ?_
   show AW _ _ _ _ _ _
   refine .seq ?_;refine .block ?_;refine .sr ?_;refine vk (Aa) ?_;refine ar [0,1,4,5,7,8] ?_;refine .sr ?_;refine vk (Aa) ?_;refine vk (Aa) ?_;refine vk (Aa) ?_
   obtain ⟨x4,g4,h⟩:=bnd h
   obtain ⟨n4,p04,q4⟩:=Ag g4
   refine vk (vix n4 p04 (AT q4) rfl AJ) ?_;refine vk (Ah Ap) ?_
   obtain ⟨x5,g5,h⟩:=bnd h
   refine vk (N9 (oa1 _ _ g5)) ?_;refine rk [0,1,4,5,7,8,16] ?_
   rcases brc h with ⟨hc,h⟩|⟨hc,h⟩
   ·refine cnt hc ?_
    refine .sr ?_;refine vk (Aa) ?_;refine ar [0,1,4,7,8] ?_;refine .ret ?_
    cases h
    exact ⟨rfl,rfl⟩
   refine cnf (bf hc) ?_;refine .skip ?_
   show AW _ _ _ _ _ _
   refine .region ?_;refine vk (vbi) ?_;refine vk (Aa) ?_;refine .nil ?_;refine AL.gk [0,1,4,7,8] ?_
   exact ih (k,s2,(w64 (s3+1))) h (Nat.lt_succ_self _)
  refine cnf (dF hc) ?_;refine .gk [4] ?_;refine .exit ?_
  exact jr (s2) h
 rintro z1 h
 try dsimp only at h ⊢
 subst hK0
 show AW _ _ _ _ _ _
 refine .sr ?_;refine ar [4] ?_;refine .ret ?_
 cases h
 exact ⟨rfl,rfl⟩
def AF (a0:(List Int)) (a1:Bt) : Option (Bool):=((BU a0 a1).bind fun x1=>(some ((decide (0≤x1)))))
theorem Bk {a0:(List Int)} {a1:Bt} (oa1:Jb a1) {r:Bool} (h:AF a0 a1=some r) :
  Fn Tryz.prog 62 [.sl (Is a0),a1.dv] (.d (.b r)):=by
 unfold AF at h
 refine Fn.o1 4 9 Tryz.func62 ?_;refine .sr ?_;refine ar [0,1,4] ?_;refine .sr ?_;refine vk (Aa) ?_;refine vk (Aa) ?_
 obtain ⟨x1,g1,h⟩:=bnd h
 refine vk (Am (Fc oa1 g1) Tryz.call115) ?_;refine vk (vbi) ?_;refine ar [4] ?_;refine .ret ?_
 cases h
 exact ⟨rfl,rfl⟩
def A5 (a0:(List Int)) (a1:Int) (K0:Int→Option (Int)) : Nat→Int→Int→Option (Int)
 | 0,_,_=>none
 | k+1,s2,s3=>(if s3<((List.length a0:Nat):Int) then ((rd? a0 s3).bind fun x4=>(if a1=x4 then (some (s3)) else (A5 a0 a1 K0 k s2 (w64 (s3+1))))) else (K0 s2))
def CF (a0:(List Int)) (a1:Int) : Option (Int):=(jn (fun (z1:Int)=>(some ((-1)))) fun K0=>(A5 a0 a1 K0 AK 0 0))
theorem F6 {a0:(List Int)} {a1:Int} {r:Int} (h:CF a0 a1=some r) :
  Fn Tryz.prog 116 [.sl (Is a0),.i .i64 a1] (.d (.i .i64 r)):=by
 unfold CF at h
 refine Fn.o1 4 19 Tryz.func116 ?_;refine .sr ?_;refine ar [0,1,4] ?_;refine .seq ?_;refine .sr ?_;refine vk (Aa) ?_;refine vk (AR (Ad _) (A0 _) AS) ?_;refine vk (Aa) ?_;refine rk [0,1,4,7,8] ?_
 obtain ⟨K0,hK0,h⟩:=AQ h
 refine AW.mr (σ:=Int) (fun p=>K0 p=some r) (fun p=>[(4,.d (.i .i64 p))]) (fun p=>[]) ?_ ?_
 ·skip
  refine .block ?_
  refine .loop (.gk [0,1,4,7,8] ?_)
  refine AL.ind (σ:=Nat×Int×Int) (m:=fun p=>p.1) (e:=fun p=>[(0,.d (.sl (Is a0))),(1,.d (.i .i64 a1)),(4,.d (.i .i64 p.2.1)),(7,.d (.i .i64 ((List.length a0:Nat):Int))),(8,.d (.i .i64 p.2.2))]) (h:=fun p=>[]) (I:=fun p=>A5 a0 a1 K0 p.1 p.2.1 p.2.2=some r) ?_ (AK,0,0) h
  rintro ⟨k,s2,s3⟩ h ih
  dsimp only at h ih ⊢
  rcases k with _|k
  ·rw [A5] at h;cases h
  rw [A5] at h
  refine .sr ?_;refine vk (vbi) ?_;refine rk [0,1,4,7,8,9] ?_;refine .seq ?_
  rcases brc h with ⟨hc,h⟩|⟨hc,h⟩
  ·refine cnt (dT hc) ?_
   refine .skip ?_
   show AW _ _ _ _ _ _
   refine .seq ?_;refine .block ?_;refine .sr ?_;refine vk (Aa) ?_;refine ar [0,1,4,5,7,8] ?_;refine .sr ?_;refine vk (Aa) ?_;refine vk (Aa) ?_;refine vk (Aa) ?_
   obtain ⟨x4,g4,h⟩:=bnd h
   obtain ⟨n4,p04,q4⟩:=Ag g4
   refine vk (vix n4 p04 (AT q4) rfl AJ) ?_;refine vk (Ah Ap) ?_;refine vk (vbi) ?_;refine rk [0,1,4,5,7,8,16] ?_
   rcases brc h with ⟨hc,h⟩|⟨hc,h⟩
   ·refine cnt (dT hc) ?_
    refine .sr ?_;refine vk (Aa) ?_;refine ar [0,1,4,7,8] ?_;refine .ret ?_
    cases h
    exact ⟨rfl,rfl⟩
   refine cnf (dF hc) ?_;refine .skip ?_
   show AW _ _ _ _ _ _
   refine .region ?_;refine vk (vbi) ?_;refine vk (Aa) ?_;refine .nil ?_;refine AL.gk [0,1,4,7,8] ?_
   exact ih (k,s2,(w64 (s3+1))) h (Nat.lt_succ_self _)
  refine cnf (dF hc) ?_;refine .gk [4] ?_;refine .exit ?_
  exact jr (s2) h
 rintro z1 h
 try dsimp only at h ⊢
 subst hK0
 show AW _ _ _ _ _ _
 refine .sr ?_;refine ar [4] ?_;refine .ret ?_
 cases h
 exact ⟨rfl,rfl⟩
def BD (a0:(List Int)) (a1:Int) : Option (Bool):=((CF a0 a1).bind fun x1=>(some ((decide (0≤x1)))))
theorem Fx {a0:(List Int)} {a1:Int} {r:Bool} (h:BD a0 a1=some r) :
  Fn Tryz.prog 65 [.sl (Is a0),.i .i64 a1] (.d (.b r)):=by
 unfold BD at h
 refine Fn.o1 4 9 Tryz.func65 ?_;refine .sr ?_;refine ar [0,1,4] ?_;refine .sr ?_;refine vk (Aa) ?_;refine vk (Aa) ?_
 obtain ⟨x1,g1,h⟩:=bnd h
 refine vk (Am (F6 g1) Tryz.call116) ?_;refine vk (vbi) ?_;refine ar [4] ?_;refine .ret ?_
 cases h
 exact ⟨rfl,rfl⟩
def GG (a0:Int) : Option (Bool):=(some ((decide (a0<0))))
theorem Kh {a0:Int} {r:Bool} (h:GG a0=some r) :
  Fn Tryz.prog 63 [.i .i64 a0] (.d (.b r)):=by
 unfold GG at h
 refine Fn.o1 2 5 Tryz.func63 ?_;refine .sr ?_;refine ar [0,2] ?_;refine .sr ?_;refine vk (Aa) ?_;refine vk (vbi) ?_;refine ar [2] ?_;refine .ret ?_
 cases h
 exact ⟨rfl,rfl⟩
def Gw (a0:Int) : Option (Bool):=(some ((decide (4096<a0))))
theorem Kn {a0:Int} {r:Bool} (h:Gw a0=some r) :
  Fn Tryz.prog 64 [.i .i64 a0] (.d (.b r)):=by
 unfold Gw at h
 refine Fn.o1 2 5 Tryz.func64 ?_;refine .sr ?_;refine ar [0,2] ?_;refine .sr ?_;refine vk (Aa) ?_;refine vk (vbi) ?_;refine ar [2] ?_;refine .ret ?_
 cases h
 exact ⟨rfl,rfl⟩
def CQ (a0:(List Int)) (K0:Int→Int→Int→Option (Int×Int)) : Nat→Int→Int→Int→Int→Option (Int×Int)
 | 0,_,_,_,_=>none
 | k+1,s7,s8,s9,s10=>(if s10<((List.length a0:Nat):Int) then ((rd? a0 s10).bind fun x11=>((D4 (s9≠0)).bind fun x12=>(if (w64 (Int.tdiv 4096 s9))<x11 then (some (0,8)) else (CQ a0 K0 k s7 s8 (w64 (s9 * x11)) (w64 (s10+1)))))) else (K0 s7 s8 s9))
def B5 (a0:(List Int)) : Option (Int×Int):=(if 8<((List.length a0:Nat) : Int) then (some (0,4)) else ((AF a0 (⟨.fn 63 [] [],fun x=>GG x⟩ : Bt)).bind fun x1=>(if x1=true then (some (0,3)) else ((AF a0 (⟨.fn 64 [] [],fun x=>Gw x⟩ : Bt)).bind fun x2=>(if x2=true then (some (0,8)) else ((BD a0 0).bind fun x3=>(if x3=true then (some (0,0)) else (jn (fun (z4:Int) (z5:Int) (z6:Int)=>(some (z6,0))) fun K0=>(CQ a0 K0 AK 0 0 1 0)))))))))
theorem Cm {a0:(List Int)} {r:Int×Int} (h:B5 a0=some r) :
  Fn Tryz.prog 26 [.sl (Is a0)] (.tup [.d (.i .i64 r.1),.d (.i .i64 r.2)]):=by
 unfold B5 at h
 refine Fn.of (rs:=[.tmp 2,.tmp 3]) (nt:=35) Tryz.func26 rfl rfl rfl (by simp) rfl ?_;refine .sr ?_;refine asd ?_;refine ar [0,2,3] ?_;refine .seq ?_;refine .block ?_;refine .sr ?_;refine vk (Aa) ?_;refine vk (AR (Ad _) (A0 _) AS) ?_;refine vk (vbi) ?_;refine ar [0,2,3,7] ?_
 rcases brc h with ⟨hc,h⟩|⟨hc,h⟩
 ·refine cnt (dT hc) ?_
  refine .sr ?_;refine asd ?_;refine ar [0,2,3] ?_;refine .ret ?_
  cases h
  exact ⟨by decide,rfl,rfl,rfl⟩
 refine cnf (dF hc) ?_;refine .sr ?_;refine vk (Aa) ?_
 obtain ⟨x1,g1,h⟩:=bnd h
 refine vk (Am (Bk (DY Tryz.call63 (fun _ _ h=>Kh h)) g1) Tryz.call62) ?_;refine ar [0,2,3,11] ?_
 rcases brc h with ⟨hc,h⟩|⟨hc,h⟩
 ·refine cnt hc ?_
  refine .sr ?_;refine asd ?_;refine ar [0,2,3] ?_;refine .ret ?_
  cases h
  exact ⟨by decide,rfl,rfl,rfl⟩
 refine cnf (bf hc) ?_;refine .sr ?_;refine vk (Aa) ?_
 obtain ⟨x2,g2,h⟩:=bnd h
 refine vk (Am (Bk (DY Tryz.call64 (fun _ _ h=>Kn h)) g2) Tryz.call62) ?_;refine ar [0,2,3,14] ?_
 rcases brc h with ⟨hc,h⟩|⟨hc,h⟩
 ·refine cnt hc ?_
  refine .sr ?_;refine asd ?_;refine ar [0,2,3] ?_;refine .ret ?_
  cases h
  exact ⟨by decide,rfl,rfl,rfl⟩
 refine cnf (bf hc) ?_;refine .sr ?_;refine vk (Aa) ?_
 obtain ⟨x3,g3,h⟩:=bnd h
 refine vk (Am (Fx g3) Tryz.call65) ?_;refine ar [0,2,3,17] ?_
 rcases brc h with ⟨hc,h⟩|⟨hc,h⟩
 ·refine cnt hc ?_
  refine .sr ?_;refine asd ?_;refine ar [0,2,3] ?_;refine .ret ?_
  cases h
  exact ⟨by decide,rfl,rfl,rfl⟩
 refine cnf (bf hc) ?_;refine .skip ?_
 show AW _ _ _ _ _ _
 refine .sr ?_;refine ar [0,2,3,4] ?_;refine .seq ?_;refine .sr ?_;refine vk (Aa) ?_;refine vk (AR (Ad _) (A0 _) AS) ?_;refine vk (Aa) ?_;refine rk [2,3,4,20,21,22] ?_
 obtain ⟨K0,hK0,h⟩:=AQ h
 refine AW.mr (σ:=Int×Int×Int) (fun p=>K0 p.1 p.2.1 p.2.2=some r) (fun p=>[(2,.d (.i .i64 p.1)),(3,.d (.i .i64 p.2.1)),(4,.d (.i .i64 p.2.2))]) (fun p=>[]) ?_ ?_
 ·skip
  refine .block ?_
  refine .loop (.gk [2,3,4,20,21,22] ?_)
  refine AL.ind (σ:=Nat×Int×Int×Int×Int) (m:=fun p=>p.1) (e:=fun p=>[(2,.d (.i .i64 p.2.1)),(3,.d (.i .i64 p.2.2.1)),(4,.d (.i .i64 p.2.2.2.1)),(20,.d (.sl (Is a0))),(21,.d (.i .i64 ((List.length a0:Nat):Int))),(22,.d (.i .i64 p.2.2.2.2))]) (h:=fun p=>[]) (I:=fun p=>CQ a0 K0 p.1 p.2.1 p.2.2.1 p.2.2.2.1 p.2.2.2.2=some r) ?_ (AK,0,0,1,0) h
  rintro ⟨k,s7,s8,s9,s10⟩ h ih
  dsimp only at h ih ⊢
  rcases k with _|k
  ·rw [CQ] at h;cases h
  rw [CQ] at h
  refine .sr ?_;refine vk (vbi) ?_;refine rk [2,3,4,20,21,22,23] ?_;refine .seq ?_
  rcases brc h with ⟨hc,h⟩|⟨hc,h⟩
  ·refine cnt (dT hc) ?_
   refine .skip ?_
   show AW _ _ _ _ _ _
   refine .seq ?_;refine .block ?_;refine .sr ?_
   obtain ⟨x11,g11,h⟩:=bnd h
   obtain ⟨n11,p011,q11⟩:=Ag g11
   refine vk (vix n11 p011 (AT q11) rfl AJ) ?_;refine vk (Ah Ap) ?_;refine ar [2,3,4,6,20,21,22] ?_;refine .seq ?_;refine .sr ?_;refine vk (Aa) ?_;refine vk (Aa) ?_
   obtain ⟨x12,g12,h⟩:=bnd h
   refine vk (Ht (CJ g12)) ?_;refine vk (vbi) ?_;refine rk [2,3,4,6,20,21,22,29] ?_
   rcases brc h with ⟨hc,h⟩|⟨hc,h⟩
   ·refine cnt (dT hc) ?_
    refine .sr ?_;refine asd ?_;refine ar [2,3,4,6,20,21,22] ?_;refine .ret ?_
    cases h
    exact ⟨by decide,rfl,rfl,rfl⟩
   refine cnf (dF hc) ?_;refine .skip ?_
   show AW _ _ _ _ _ _
   refine .region ?_;refine vk (Aa) ?_;refine vk (Aa) ?_;refine vk (vbi) ?_;refine asd ?_;refine .nil ?_
   show AW _ _ _ _ _ _
   refine .gk [2,3,4,20,21,22] ?_;refine .region ?_;refine vk (vbi) ?_;refine vk (Aa) ?_;refine .nil ?_;refine AL.gk [2,3,4,20,21,22] ?_
   exact ih (k,s7,s8,(w64 (s9 * x11)),(w64 (s10+1))) h (Nat.lt_succ_self _)
  refine cnf (dF hc) ?_;refine .gk [2,3,4] ?_;refine .exit ?_
  exact jr (s7,s8,s9) h
 rintro ⟨z4,z5,z6⟩ h
 try dsimp only at h ⊢
 subst hK0
 show AW _ _ _ _ _ _
 refine .sr ?_;refine vk (Aa) ?_;refine asd ?_;refine ar [2,3] ?_;refine .ret ?_
 cases h
 exact ⟨by decide,rfl,rfl,rfl⟩
def CY (a0:Arr) : Option (Bool):=(Option.bind ((if ((List.length a0.shape:Nat) : Int)=0 then (if ((List.length a0.items:Nat) : Int)=1 then ((rd? a0.items 0).bind fun x2=>(some (!(decide (x2.kind=3))))) else (some false)) else (some false)) : Option (Bool)) fun (z1:Bool)=>(some (z1)))
theorem FQ {a0:Arr} {r:Bool} (h:CY a0=some r) :
  Fn Tryz.prog 119 [.ag [.sl (Is a0.shape),.sl (Its a0.items)]] (.d (.b r)):=by
 unfold CY at h
 refine Fn.o1 2 21 Tryz.func119 ?_;refine .sr ?_;refine vk (vbx) ?_;refine ar [1,2] ?_;refine .seq ?_
 obtain ⟨z1,hz,h⟩:=bnd h
 refine AW.mr (σ:=Unit) (fun _=>True) (fun _=>[(2,.d (.b z1))]) (fun _=>[]) ?_ ?_
 ·skip
  refine .region ?_;refine vk (vfa Ai) ?_;refine vk (Ah Ax) ?_;refine vk (AR (Ad _) (A0 _) AS) ?_;refine vk (vbi) ?_
  rcases brc hz with ⟨hc,hz⟩|⟨hc,hz⟩
  ·have hb0:(decide (((List.length a0.shape:Nat):Int)=0))=true:=(dT hc)
   refine vk (VOK.lit (Aa) hb0) ?_;refine vk (vfa AD) ?_;refine vk (Ah Bm) ?_;refine vk (AR (Ay _) (CD _) CC) ?_;refine vk (vbi) ?_;refine vk (An) ?_
   rcases brc hz with ⟨hc,hz⟩|⟨hc,hz⟩
   ·have hb1:(decide (((List.length a0.items:Nat):Int)=1))=true:=(dT hc)
    refine vk (VOK.lit (Aa) hb1) ?_;refine vk (vfa AD) ?_;refine vk (Ah Bm) ?_
    obtain ⟨x2,g2,hz⟩:=bnd hz
    obtain ⟨n2,p02,q2⟩:=Ag g2
    refine vk (vix n2 p02 (C6 q2) rfl C3) ?_;refine vk (vfa Ds) ?_;refine vk (Ah BX) ?_;refine vk (vbi) ?_;refine vk (An) ?_;refine asd ?_;refine RL.gk [2] ?_;refine .nil ?_
    cases hz
    exact jr () trivial
   have hb1:(decide (((List.length a0.items:Nat):Int)=1))=false:=(dF hc)
   refine vk (VOK.lit (Aa) hb1) ?_;refine gf ?_;refine gf ?_;refine gf ?_;refine gf ?_;refine gf ?_;refine gf ?_;refine vk (An) ?_;refine asd ?_;refine RL.gk [2] ?_;refine .nil ?_
   cases hz
   exact jr () trivial
  have hb0:(decide (((List.length a0.shape:Nat):Int)=0))=false:=(dF hc)
  refine vk (VOK.lit (Aa) hb0) ?_;refine gf ?_;refine gf ?_;refine gf ?_;refine gf ?_;refine vk (An) ?_;refine vk (Aa) ?_;refine gf ?_;refine gf ?_;refine gf ?_;refine gf ?_;refine gf ?_;refine gf ?_;refine vk (An) ?_;refine asd ?_;refine RL.gk [2] ?_;refine .nil ?_
  cases hz
  exact jr () trivial
 rintro _ _
 refine .ret ?_
 cases h
 exact ⟨rfl,rfl⟩
def E8 (a0:Int) : Option (Bool):=(some (((decide (0≤a0))&&((decide (a0≤1114111))&&((decide (a0<55296))||(decide (57343<a0)))))))
theorem Kj {a0:Int} {r:Bool} (h:E8 a0=some r) :
  Fn Tryz.prog 118 [.i .i32 a0] (.d (.b r)):=by
 unfold E8 at h
 refine Fn.o1 2 17 Tryz.func118 ?_;refine .sr ?_;refine ar [0,2] ?_;refine .seq ?_;refine AW.mr (σ:=Unit) (fun _=>True) (fun _=>[(2,.d (.b ((decide (0≤a0))&&((decide (a0≤1114111))&&((decide (a0<55296))||(decide (57343<a0)))))))]) (fun _=>[]) ?_ ?_
 ·skip
  refine .region ?_;refine vk (Aa) ?_;refine vk (vbi) ?_
  by_cases hc:0≤a0
  ·have hb0:(decide (0≤a0))=true:=(dT hc)
   refine vk (VOK.lit (Aa) hb0) ?_;refine vk (Aa) ?_;refine vk (vbi) ?_;refine vk (An) ?_
   by_cases hc:a0≤1114111
   ·have hb1:(decide (a0≤1114111))=true:=(dT hc)
    refine vk (VOK.lit (Aa) hb1) ?_;refine vk (Aa) ?_;refine vk (vbi) ?_
    by_cases hc:a0<55296
    ·have hb2:(decide (a0<55296))=true:=(dT hc)
     refine vk (VOK.lit (Aa) hb2) ?_;refine gf ?_;refine gf ?_;refine vk (An) ?_;refine vk (An) ?_;refine asd ?_;refine RL.gk [2] ?_;refine .nil ?_
     exact jr () trivial (by simp only [hb0,hb1,hb2];rfl)
    have hb2:(decide (a0<55296))=false:=(dF hc)
    refine vk (VOK.lit (Aa) hb2) ?_;refine vk (Aa) ?_;refine vk (vbi) ?_;refine vk (An) ?_;refine vk (An) ?_;refine asd ?_;refine RL.gk [2] ?_;refine .nil ?_
    exact jr () trivial (by simp only [hb0,hb1,hb2];rfl)
   have hb1:(decide (a0≤1114111))=false:=(dF hc)
   refine vk (VOK.lit (Aa) hb1) ?_;refine gf ?_;refine gf ?_;refine gfu ?_;refine gf ?_;refine gf ?_;refine gf ?_;refine vk (An) ?_;refine asd ?_;refine RL.gk [2] ?_;refine .nil ?_
   exact jr () trivial (by simp only [hb0,hb1];rfl)
  have hb0:(decide (0≤a0))=false:=(dF hc)
  refine vk (VOK.lit (Aa) hb0) ?_;refine gf ?_;refine gf ?_;refine vk (An) ?_;refine vk (Aa) ?_;refine gf ?_;refine gf ?_;refine gfu ?_;refine gf ?_;refine gf ?_;refine gf ?_;refine vk (An) ?_;refine asd ?_;refine RL.gk [2] ?_;refine .nil ?_
  exact jr () trivial (by simp only [hb0];rfl)
 rintro _ _
 refine .ret ?_
 cases h
 exact ⟨rfl,rfl⟩
theorem Ux : 0<AA Tryz.prog 3:=by rw [B4];decide
def CN (a:(List Int)) : Option ((List Int)):=ap? 17592186044416 [] a
theorem Dj {a r:(List Int)} (h:CN a=some r) : Fn Tryz.prog 30 [.sl (Is a)] (.own 3 (Is r)):=by
 unfold CN at h
 refine Fn.o1 2 8 Tryz.func30 ?_;refine .sr ?_;refine asn ?_;refine rn ?_;refine .seq ?_;refine .sr ?_;refine mvd ?_
 refine nq (fun b hb=>?_) (A0 _) AS
 refine rn ?_
 refine cnd (fun hc=>?_) (fun hc=>?_)
 ·simp only [if_true] at hc
  have h0:Is a=[]:=by
   apply Classical.byContradiction
   intro h;rw [hb h] at hc;cases hc
  have h1:r=[]:=by
   have:=(I6 h).2
   rw [this,List.nil_append]
   exact List.length_eq_zero_iff.1 (by rw [← Ad a,h0];rfl)
  subst h1
  refine .sr ?_;refine asn ?_;refine rn ?_;refine .gh (Gh.nlOwn (t:=2) 3 Ux rfl) ?_;refine .ret ?_
  exact ⟨rfl,rfl⟩
 ·refine .skip ?_
  show AW _ _ _ _ _ _
  refine .sr ?_;refine vk (Em (ds':=Is []) rfl (Cy []) BL) ?_;refine mvd ?_
  refine UY HG h IV ?_ FU Ad BL
  refine aso ?_;refine rn ?_;refine .ret ?_
  exact ⟨rfl,rfl⟩
def CE (a0:RT) : Option (RT):=((Jg a0.2.1).bind fun x1=>((Jg a0.2.2).bind fun x2=>(some ((a0.1,x1,x2)))))
theorem FB {a0:RT} {r:RT} (h:CE a0=some r) :
  Fn Tryz.prog 70 [.ag [.b a0.1,.sl (L a0.2.1),.sl (L a0.2.2)]] (.d (.ag [.b r.1,.sl (L r.2.1),.sl (L r.2.2)])):=by
 unfold CE at h
 refine Fn.ofC (rs:=[.cell 2 34]) (nt:=12) Tryz.func70 rfl rfl rfl (by simp) rfl ?_;refine .sr ?_;refine vk (vbx) ?_;refine vk (van (Aj So) TH) ?_;refine rk [1,2] ?_;refine .seq ?_;refine .drawn 9 Bb (by kernel_rfl) ?_;refine dv (vfa Gs) ?_;refine dv (Ah EQ) ?_;refine dv (vfa GF) ?_;refine dv (Ah Ip) ?_
 obtain ⟨x1,g1,h⟩:=bnd h
 refine dv ((Am (LD g1) Tryz.call120).deep) ?_;refine dv (vfa Hd) ?_;refine dv (Ah Ip) ?_
 obtain ⟨x2,g2,h⟩:=bnd h
 refine dv ((Am (LD g2) Tryz.call120).deep) ?_;refine dv (vbd VH So TH) ?_;refine dz ?_
 refine stn ?_ HW (by decide)
 refine rk [2] ?_;refine .ret ?_
 cases h
 exact ⟨_,⟨.inr rfl,Jx,HW,p3⟩,rfl⟩
def Cf (a0:RT) : Option (Itm):=((CE a0).bind fun x1=>(some ((Itm.mk 1 x1 0 []))))
theorem E4 {a0:RT} {r:Itm} (h:Cf a0=some r) :
  Fn Tryz.prog 44 [.ag [.b a0.1,.sl (L a0.2.1),.sl (L a0.2.2)]] (.d (.ag [.i .u8 r.kind,.b r.num.1,.sl (L r.num.2.1),.sl (L r.num.2.2),.i .i32 r.char,.sl (Ars r.box)])):=by
 unfold Cf at h
 refine Fn.ofC (rs:=[.cell 2 58]) (nt:=6) Tryz.func44 rfl rfl rfl (by simp) rfl ?_;refine .sr ?_;refine vk (vbx) ?_;refine vk (van (Aj CU) Dm) ?_;refine rk [1,2] ?_;refine .sr ?_;refine vk (AH Jx HW) ?_
 obtain ⟨x1,g1,h⟩:=bnd h
 refine vk (Am (FB g1) Tryz.call70) ?_;refine vk (vbd JH CU Dm) ?_
 refine stn ?_ AG (by decide)
 refine rk [2] ?_;refine .ret ?_
 cases h
 exact ⟨_,⟨.inr rfl,Bd,AG,p6⟩,rfl⟩
def IA (a0:Int) : Option (Itm):=(some ((Itm.mk 2 (false,[],[]) a0 [])))
theorem LR {a0:Int} {r:Itm} (h:IA a0=some r) :
  Fn Tryz.prog 68 [.i .i32 a0] (.d (.ag [.i .u8 r.kind,.b r.num.1,.sl (L r.num.2.1),.sl (L r.num.2.2),.i .i32 r.char,.sl (Ars r.box)])):=by
 unfold IA at h
 refine Fn.ofC (rs:=[.cell 2 58]) (nt:=5) Tryz.func68 rfl rfl rfl (by simp) rfl ?_;refine .sr ?_;refine vk (van (Aj CU) Dm) ?_;refine rk [0,2] ?_;refine .sr ?_;refine vk (Aa) ?_;refine vk (vbd JH CU Dm) ?_
 refine stn ?_ AG (by decide)
 refine rk [2] ?_;refine .ret ?_
 cases h
 exact ⟨_,⟨.inr rfl,Bd,AG,p6⟩,rfl⟩
def B6 (a0:Arr) (a1:BZ) (K0:(List Int)→(List Itm)→Option (Arr)) : Nat→Int→(List Int)→(List Itm)→Option (Arr)
 | 0,_,_,_=>none
 | k+1,s4,s5,s6=>(if s4<((List.length a0.items:Nat):Int) then ((rd? a0.items s4).bind fun x7=>((a1.g x7).bind fun x8=>((ap? 1466015503701 s6 [x8]).bind fun x9=>(B6 a0 a1 K0 k (w64 (s4+1)) s5 x9)))) else (K0 s5 s6))
def Cb (a0:Arr) (a1:BZ) : Option (Arr):=((CN a0.shape).bind fun x1=>(jn (fun (z2:(List Int)) (z3:(List Itm))=>(some ((Arr.mk z2 z3)))) fun K0=>(B6 a0 a1 K0 AK 0 x1 [])))
theorem DO {a0:Arr} {a1:BZ} (oa1:Nq a1) {r:Arr} (h:Cb a0 a1=some r) :
  Fn Tryz.prog 69 [.ag [.sl (Is a0.shape),.sl (Its a0.items)],a1.dv] (.d (.ag [.sl (Is r.shape),.sl (Its r.items)])):=by
 unfold Cb at h
 refine Fn.ofC (rs:=[.cell 4 27]) (nt:=29) Tryz.func69 rfl rfl rfl (by simp) rfl ?_;refine .sr ?_;refine vk (vbx) ?_;refine vk (van (Aj As) Aw) ?_;refine rk [1,2,4] ?_;refine .sr ?_;refine vk (vfa Ai) ?_;refine vk (Ah Ax) ?_
 obtain ⟨x1,g1,h⟩:=bnd h
 refine vk ((Am (Dj g1) Tryz.call30).deep) ?_;refine vk (RJ Bl As (fun w I μ=>KI w I μ)) ?_;refine vk (van (Aj As) Aw) ?_
 refine SG ?_ Ab (by decide)
 refine rk [1,2,4,5] ?_;refine .seq ?_;refine .sr ?_;refine vk (vfa AD) ?_;refine vk (Ah Bm) ?_;refine vk (AR (Ay _) (CD _) CC) ?_;refine vk (Aa) ?_;refine rk [1,4,5,13,14,15] ?_
 obtain ⟨K0,hK0,h⟩:=AQ h
 refine AW.mr (σ:=(List Int)×(List Itm)) (fun p=>K0 p.1 p.2=some r) (fun p=>[(4,.nb [.sl (Is []),.sl (Its [])]),(5,.bp 0 0)]) (fun p=>[HO.box [.d (.sl (Is p.1)),.own 58 (Its p.2)]]) ?_ ?_
 ·skip
  refine .block ?_;refine .gh (Gh.nlOwnC (id:=0) (off:=1) 58 (by rw [JA];decide)) ?_
  refine .loop (.gk [1,4,5,13,14,15] ?_)
  refine AL.ind (σ:=Nat×Int×(List Int)×(List Itm)) (m:=fun p=>p.1) (e:=fun p=>[(1,.d (a1.dv)),(4,.nb [.sl (Is []),.sl (Its [])]),(5,.bp 0 0),(13,.d (.sl (Its a0.items))),(14,.d (.i .i64 ((List.length a0.items:Nat):Int))),(15,.d (.i .i64 p.2.1))]) (h:=fun p=>[HO.box [.d (.sl (Is p.2.2.1)),.own 58 (Its p.2.2.2)]]) (I:=fun p=>B6 a0 a1 K0 p.1 p.2.1 p.2.2.1 p.2.2.2=some r) ?_ (AK,0,x1,[]) h
  rintro ⟨k,s4,s5,s6⟩ h ih
  dsimp only at h ih ⊢
  rcases k with _|k
  ·rw [B6] at h;cases h
  rw [B6] at h
  refine .sr ?_;refine vk (vbi) ?_;refine rk [1,4,5,13,14,15,16] ?_;refine .seq ?_
  rcases brc h with ⟨hc,h⟩|⟨hc,h⟩
  ·refine cnt (dT hc) ?_
   refine .skip ?_
   show AW _ _ _ _ _ _
   refine .seq ?_;refine .block ?_;refine .sr ?_
   obtain ⟨x7,g7,h⟩:=bnd h
   obtain ⟨n7,p07,q7⟩:=Ag g7
   refine vk (vix n7 p07 (C6 q7) rfl C3) ?_;refine vk (AH Bd AG) ?_;refine vk (van (Aj CU) Dm) ?_
   refine stn ?_ AG (by decide)
   refine rk [1,4,5,7,13,14,15] ?_;refine .drawn 6 Bb (by kernel_rfl) ?_;refine dv (DU AD) ?_;refine dv (Mn (cs:=[.d (.sl (Is s5)),.own 58 (Its s6)]) rfl rfl Bm) ?_;refine dv (Aa) ?_;refine dv (Fs Bd AG) ?_
   obtain ⟨x8,g8,h⟩:=bnd h
   refine dv (N9 (oa1 _ _ g8)) ?_;refine dv ((Em (Er x8) (Db [x8]) Cz).deep) ?_;refine dz ?_
   obtain ⟨x9,g9,h⟩:=bnd h
   refine Ou Fe g9 rfl rfl GA ?_ Eu Ay Cz
   refine RL.gk [1,4,5,7,13,14,15,19,21,22,23,24,25] ?_;refine vk (DU AD) ?_
   refine IN (cs:=[.d (.sl (Is s5)),.un]) (c:=.un) rfl rfl ?_ JG
   refine .nil ?_
   show AW _ _ _ _ _ _
   refine .gk [1,4,5,13,14,15] ?_;refine .region ?_;refine vk (vbi) ?_;refine vk (Aa) ?_;refine .nil ?_;refine AL.gk [1,4,5,13,14,15] ?_
   exact ih (k,(w64 (s4+1)),s5,x9) h (Nat.lt_succ_self _)
  refine cnf (dF hc) ?_;refine .gk [4,5] ?_;refine .exit ?_
  exact jr (s5,s6) h
 rintro ⟨z2,z3⟩ h
 try dsimp only at h ⊢
 subst hK0
 show AW _ _ _ _ _ _
 refine .sr ?_;refine fz (p:=.c 0 1) ?_;refine vk (GW (cs:=[.d (.sl (Is z2)),.d (.sl (Its z3))]) (ds:=[.sl (Is z2),.sl (Its z3)]) rfl Ac Ab) ?_
 refine stn ?_ Ab (by decide)
 refine rk [4] ?_;refine .ret ?_
 cases h
 exact ⟨_,⟨.inr rfl,Ac,Ab,p2⟩,rfl⟩
def Dt (rc_array_same:Itm→Option (Itm)) (a0:Itm) (K0:Int→Bool→(List Nat)→(List Nat)→Int→(List Arr)→Option (Itm)) : Nat→Int→Int→Bool→(List Nat)→(List Nat)→Int→(List Arr)→Option (Itm)
 | 0,_,_,_,_,_,_,_=>none
 | k+1,s8,s9,s10,s11,s12,s13,s14=>(if s8<((List.length a0.box:Nat):Int) then ((rd? a0.box s8).bind fun x15=>((Cb x15 (⟨.fn 33 [] [],fun x=>rc_array_same x⟩:BZ)).bind fun x16=>((ap? 2932031007402 s14 [x16]).bind fun x17=>(Dt rc_array_same a0 K0 k (w64 (s8+1)) s9 s10 s11 s12 s13 x17)))) else (K0 s9 s10 s11 s12 s13 s14))
def Hc (rc_array_same:Itm→Option (Itm)) (a0:Itm) : Option (Itm):=((CE a0.num).bind fun x1=>(jn (fun (z2:Int) (z3:Bool) (z4:(List Nat)) (z5:(List Nat)) (z6:Int) (z7:(List Arr))=>(some ((Itm.mk z2 (z3,z4,z5) z6 z7)))) fun K0=>(Dt rc_array_same a0 K0 AK 0 a0.kind x1.1 x1.2.1 x1.2.2 a0.char [])))
theorem NL {rc_array_same:Itm→Option (Itm)} (orc_array_same:∀ x0 r,rc_array_same x0=some r→Fn Tryz.prog 33 [.ag [.i .u8 x0.kind,.b x0.num.1,.sl (L x0.num.2.1),.sl (L x0.num.2.2),.i .i32 x0.char,.sl (Ars x0.box)]] (.d (.ag [.i .u8 r.kind,.b r.num.1,.sl (L r.num.2.1),.sl (L r.num.2.2),.i .i32 r.char,.sl (Ars r.box)]))) {a0:Itm} {r:Itm} (h:Hc rc_array_same a0=some r) :
  Fn Tryz.prog 33 [.ag [.i .u8 a0.kind,.b a0.num.1,.sl (L a0.num.2.1),.sl (L a0.num.2.2),.i .i32 a0.char,.sl (Ars a0.box)]] (.d (.ag [.i .u8 r.kind,.b r.num.1,.sl (L r.num.2.1),.sl (L r.num.2.2),.i .i32 r.char,.sl (Ars r.box)])):=by
 unfold Hc at h
 refine Fn.ofC (rs:=[.cell 2 58]) (nt:=30) Tryz.func33 rfl rfl rfl (by simp) rfl ?_;refine .sr ?_;refine vk (vbx) ?_;refine vk (van (Aj CU) Dm) ?_;refine rk [1,2] ?_;refine .seq ?_;refine .drawn 9 Bb (by kernel_rfl) ?_;refine dv (vfa Ds) ?_;refine dv (Ah BX) ?_;refine dv (vfa Eg) ?_;refine dv (Ah Ek) ?_;refine dv (vfa B9) ?_;refine dv (AH Jx HW) ?_
 obtain ⟨x1,g1,h⟩:=bnd h
 refine dv (Am (FB g1) Tryz.call70) ?_;refine dv (RJ JH CU (fun w I μ=>Pf w I μ)) ?_;refine dv (van (Aj CU) Dm) ?_;refine dz ?_
 refine SG ?_ AG (by decide)
 refine rk [1,2,3] ?_;refine .seq ?_;refine .sr ?_;refine vk (vfa Br) ?_;refine vk (Ah C9) ?_;refine vk (AR (Bw _) (EG _) EC) ?_;refine vk (Aa) ?_;refine rk [2,3,15,16,17] ?_
 obtain ⟨K0,hK0,h⟩:=AQ h
 refine AW.mr (σ:=Int×Bool×(List Nat)×(List Nat)×Int×(List Arr)) (fun p=>K0 p.1 p.2.1 p.2.2.1 p.2.2.2.1 p.2.2.2.2.1 p.2.2.2.2.2=some r) (fun p=>[(2,.nb [.i .u8 0,.b false,.sl (L []),.sl (L []),.i .i32 0,.sl (Ars [])]),(3,.bp 0 0)]) (fun p=>[HO.box [.d (.i .u8 p.1),.d (.b p.2.1),.d (.sl (L p.2.2.1)),.d (.sl (L p.2.2.2.1)),.d (.i .i32 p.2.2.2.2.1),.own 27 (Ars p.2.2.2.2.2)]]) ?_ ?_
 ·skip
  refine .block ?_;refine .gh (Gh.nlOwnC (id:=0) (off:=5) 27 (by rw [Sk];decide)) ?_
  refine .loop (.gk [2,3,15,16,17] ?_)
  refine AL.ind (σ:=Nat×Int×Int×Bool×(List Nat)×(List Nat)×Int×(List Arr)) (m:=fun p=>p.1) (e:=fun p=>[(2,.nb [.i .u8 0,.b false,.sl (L []),.sl (L []),.i .i32 0,.sl (Ars [])]),(3,.bp 0 0),(15,.d (.sl (Ars a0.box))),(16,.d (.i .i64 ((List.length a0.box:Nat):Int))),(17,.d (.i .i64 p.2.1))]) (h:=fun p=>[HO.box [.d (.i .u8 p.2.2.1),.d (.b p.2.2.2.1),.d (.sl (L p.2.2.2.2.1)),.d (.sl (L p.2.2.2.2.2.1)),.d (.i .i32 p.2.2.2.2.2.2.1),.own 27 (Ars p.2.2.2.2.2.2.2)]]) (I:=fun p=>Dt rc_array_same a0 K0 p.1 p.2.1 p.2.2.1 p.2.2.2.1 p.2.2.2.2.1 p.2.2.2.2.2.1 p.2.2.2.2.2.2.1 p.2.2.2.2.2.2.2=some r) ?_ (AK,0,a0.kind,x1.1,x1.2.1,x1.2.2,a0.char,[]) h
  rintro ⟨k,s8,s9,s10,s11,s12,s13,s14⟩ h ih
  dsimp only at h ih ⊢
  rcases k with _|k
  ·rw [Dt] at h;cases h
  rw [Dt] at h
  refine .sr ?_;refine vk (vbi) ?_;refine rk [2,3,15,16,17,18] ?_;refine .seq ?_
  rcases brc h with ⟨hc,h⟩|⟨hc,h⟩
  ·refine cnt (dT hc) ?_
   refine .skip ?_
   show AW _ _ _ _ _ _
   refine .seq ?_;refine .block ?_;refine .sr ?_
   obtain ⟨x15,g15,h⟩:=bnd h
   obtain ⟨n15,p015,q15⟩:=Ag g15
   refine vk (vix n15 p015 (Fv q15) rfl Fm) ?_;refine vk (AH Ac Ab) ?_;refine vk (van (Aj As) Aw) ?_
   refine stn ?_ Ab (by decide)
   refine rk [2,3,5,15,16,17] ?_;refine .drawn 5 Bb (by kernel_rfl) ?_;refine dv (DU Br) ?_;refine dv (Mn (cs:=[.d (.i .u8 s9),.d (.b s10),.d (.sl (L s11)),.d (.sl (L s12)),.d (.i .i32 s13),.own 27 (Ars s14)]) rfl rfl C9) ?_;refine dv (Fs Ac Ab) ?_
   obtain ⟨x16,g16,h⟩:=bnd h
   refine dv (Am (DO (DY Tryz.call33 (fun _ _ h=>orc_array_same _ _ h)) g16) Tryz.call69) ?_;refine dv ((Em (KA x16) (Hf [x16]) IH).deep) ?_;refine dz ?_
   obtain ⟨x17,g17,h⟩:=bnd h
   refine Ou Pm g17 rfl rfl Si ?_ M6 Bw IH
   refine RL.gk [2,3,5,15,16,17,21,23,24,25,26] ?_;refine vk (DU Br) ?_
   refine IN (cs:=[.d (.i .u8 s9),.d (.b s10),.d (.sl (L s11)),.d (.sl (L s12)),.d (.i .i32 s13),.un]) (c:=.un) rfl rfl ?_ Rg
   refine .nil ?_
   show AW _ _ _ _ _ _
   refine .gk [2,3,15,16,17] ?_;refine .region ?_;refine vk (vbi) ?_;refine vk (Aa) ?_;refine .nil ?_;refine AL.gk [2,3,15,16,17] ?_
   exact ih (k,(w64 (s8+1)),s9,s10,s11,s12,s13,x17) h (Nat.lt_succ_self _)
  refine cnf (dF hc) ?_;refine .gk [2,3] ?_;refine .exit ?_
  exact jr (s9,s10,s11,s12,s13,s14) h
 rintro ⟨z2,z3,z4,z5,z6,z7⟩ h
 try dsimp only at h ⊢
 subst hK0
 show AW _ _ _ _ _ _
 refine .sr ?_;refine fz (p:=.c 0 5) ?_;refine vk (GW (cs:=[.d (.i .u8 z2),.d (.b z3),.d (.sl (L z4)),.d (.sl (L z5)),.d (.i .i32 z6),.d (.sl (Ars z7))]) (ds:=[.i .u8 z2,.b z3,.sl (L z4),.sl (L z5),.i .i32 z6,.sl (Ars z7)]) rfl Bd AG) ?_
 refine stn ?_ AG (by decide)
 refine rk [2] ?_;refine .ret ?_
 cases h
 exact ⟨_,⟨.inr rfl,Bd,AG,p6⟩,rfl⟩
def EF : Nat→Itm→Option (Itm)
 | 0,_=>none
 | k+1,a0=>Hc (EF k) a0
theorem IR : ∀ (k:Nat) (a0:Itm) (r:Itm),EF k a0=some r→Fn Tryz.prog 33 [.ag [.i .u8 a0.kind,.b a0.num.1,.sl (L a0.num.2.1),.sl (L a0.num.2.2),.i .i32 a0.char,.sl (Ars a0.box)]] (.d (.ag [.i .u8 r.kind,.b r.num.1,.sl (L r.num.2.1),.sl (L r.num.2.2),.i .i32 r.char,.sl (Ars r.box)]))
 | 0,_,_,h=>by cases h
 | k+1,a0,_,h=>NL (IR k) (show Hc (EF k) a0=some _ from h)
def Gv (a0:Itm) : Option (Itm):=EF (a0.size+1) a0
theorem ID {a0:Itm} {r:Itm} (h:Gv a0=some r) : Fn Tryz.prog 33 [.ag [.i .u8 a0.kind,.b a0.num.1,.sl (L a0.num.2.1),.sl (L a0.num.2.2),.i .i32 a0.char,.sl (Ars a0.box)]] (.d (.ag [.i .u8 r.kind,.b r.num.1,.sl (L r.num.2.1),.sl (L r.num.2.2),.i .i32 r.char,.sl (Ars r.box)])):=IR _ a0 r h
def Gf (rc_array_typed:Itm→Option (Itm)) (a0:Itm) : Option (Itm):=(if a0.kind=1 then ((EW 0).bind fun x1=>((Cf x1).bind fun x2=>(some (x2)))) else (if a0.kind=2 then ((IA 32).bind fun x3=>(some (x3))) else ((rd? a0.box 0).bind fun x4=>((Cb x4 (⟨.fn 31 [] [],fun x=>rc_array_typed x⟩ : BZ)).bind fun x5=>(some ((Itm.mk 3 (false,[],[]) 0 [x5])))))))
theorem MG {rc_array_typed:Itm→Option (Itm)} (orc_array_typed:∀ x0 r,rc_array_typed x0=some r→Fn Tryz.prog 31 [.ag [.i .u8 x0.kind,.b x0.num.1,.sl (L x0.num.2.1),.sl (L x0.num.2.2),.i .i32 x0.char,.sl (Ars x0.box)]] (.d (.ag [.i .u8 r.kind,.b r.num.1,.sl (L r.num.2.1),.sl (L r.num.2.2),.i .i32 r.char,.sl (Ars r.box)]))) {a0:Itm} {r:Itm} (h:Gf rc_array_typed a0=some r) :
  Fn Tryz.prog 31 [.ag [.i .u8 a0.kind,.b a0.num.1,.sl (L a0.num.2.1),.sl (L a0.num.2.2),.i .i32 a0.char,.sl (Ars a0.box)]] (.d (.ag [.i .u8 r.kind,.b r.num.1,.sl (L r.num.2.1),.sl (L r.num.2.2),.i .i32 r.char,.sl (Ars r.box)])):=by
 unfold Gf at h
 refine Fn.ofC (rs:=[.cell 2 58]) (nt:=19) Tryz.func31 rfl rfl rfl (by simp) rfl ?_;refine .sr ?_;refine vk (vbx) ?_;refine vk (van (Aj CU) Dm) ?_;refine rk [1,2] ?_;refine .seq ?_;refine .sr ?_;refine vk (vfa Ds) ?_;refine vk (Ah BX) ?_;refine rk [1,2,4] ?_;refine .block ?_;refine .sr ?_;refine vk (vbi) ?_;refine ar [1,2,4,5] ?_
 rcases brc h with ⟨hc,h⟩|⟨hc,h⟩
 ·refine cnt (dT hc) ?_
  refine .sr ?_
  obtain ⟨x1,g1,h⟩:=bnd h
  refine vk (Am (Hj g1) Tryz.call45) ?_
  obtain ⟨x2,g2,h⟩:=bnd h
  refine vk (Am (E4 g2) Tryz.call44) ?_
  refine stn ?_ AG (by decide)
  refine rk [1,2] ?_;refine .ret ?_
  cases h
  exact ⟨_,⟨.inr rfl,Bd,AG,p6⟩,rfl⟩
 refine cnf (dF hc) ?_;refine .sr ?_;refine vk (vbi) ?_;refine ar [1,2,9] ?_
 rcases brc h with ⟨hc,h⟩|⟨hc,h⟩
 ·refine cnt (dT hc) ?_
  refine .sr ?_
  obtain ⟨x3,g3,h⟩:=bnd h
  refine vk (Am (LR g3) Tryz.call68) ?_
  refine stn ?_ AG (by decide)
  refine rk [1,2] ?_;refine .ret ?_
  cases h
  exact ⟨_,⟨.inr rfl,Bd,AG,p6⟩,rfl⟩
 refine cnf (dF hc) ?_;refine .skip ?_
 show AW _ _ _ _ _ _
 refine .sr ?_;refine vk (vfa Br) ?_;refine vk (Ah C9) ?_
 obtain ⟨x4,g4,h⟩:=bnd h
 obtain ⟨n4,p04,q4⟩:=Ag g4
 refine vk (vix n4 p04 (Fv q4) rfl Fm) ?_;refine vk (AH Ac Ab) ?_
 obtain ⟨x5,g5,h⟩:=bnd h
 refine vk (Am (DO (DY Tryz.call31 (fun _ _ h=>orc_array_typed _ _ h)) g5) Tryz.call69) ?_;refine vk ((Em (KA x5) (Hf [x5]) IH).deep) ?_;refine vk (vbd JH CU Dm) ?_
 refine stn ?_ AG (by decide)
 refine rk [2] ?_;refine .ret ?_
 cases h
 exact ⟨_,⟨.inr rfl,Bd,AG,p6⟩,rfl⟩
def EA : Nat→Itm→Option (Itm)
 | 0,_=>none
 | k+1,a0=>Gf (EA k) a0
theorem H8 : ∀ (k:Nat) (a0:Itm) (r:Itm),EA k a0=some r→Fn Tryz.prog 31 [.ag [.i .u8 a0.kind,.b a0.num.1,.sl (L a0.num.2.1),.sl (L a0.num.2.2),.i .i32 a0.char,.sl (Ars a0.box)]] (.d (.ag [.i .u8 r.kind,.b r.num.1,.sl (L r.num.2.1),.sl (L r.num.2.2),.i .i32 r.char,.sl (Ars r.box)]))
 | 0,_,_,h=>by cases h
 | k+1,a0,_,h=>MG (H8 k) (show Gf (EA k) a0=some _ from h)
def Ja (a0:Itm) : Option (Itm):=EA (a0.size+1) a0
theorem Ke {a0:Itm} {r:Itm} (h:Ja a0=some r) : Fn Tryz.prog 31 [.ag [.i .u8 a0.kind,.b a0.num.1,.sl (L a0.num.2.1),.sl (L a0.num.2.2),.i .i32 a0.char,.sl (Ars a0.box)]] (.d (.ag [.i .u8 r.kind,.b r.num.1,.sl (L r.num.2.1),.sl (L r.num.2.2),.i .i32 r.char,.sl (Ars r.box)])):=H8 _ a0 r h
def BA (a0:(List Int)) (a1:(List Int)) (K0:Bool→Option (Bool)) : Nat→Bool→Int→Option (Bool)
 | 0,_,_=>none
 | k+1,s2,s3=>(if s3<((List.length a0:Nat):Int) then ((rd? a0 s3).bind fun x4=>((rd? a1 s3).bind fun x5=>(if x4=x5 then (BA a0 a1 K0 k s2 (w64 (s3+1))) else (some (false))))) else (K0 s2))
def Dx (a0:(List Int)) (a1:(List Int)) : Option (Bool):=(if ((List.length a0:Nat) : Int)=((List.length a1:Nat) : Int) then (jn (fun (z1:Bool)=>(some (true))) fun K0=>(BA a0 a1 K0 AK false 0)) else (some (false)))
theorem Gi {a0:(List Int)} {a1:(List Int)} {r:Bool} (h:Dx a0 a1=some r) :
  Fn Tryz.prog 110 [.sl (Is a0),.sl (Is a1)] (.d (.b r)):=by
 unfold Dx at h
 refine Fn.o1 4 26 Tryz.func110 ?_;refine .sr ?_;refine ar [0,1,4] ?_;refine .seq ?_;refine .sr ?_;refine vk (Aa) ?_;refine vk (AR (Ad _) (A0 _) AS) ?_;refine vk (Aa) ?_;refine vk (AR (Ad _) (A0 _) AS) ?_;refine vk (vbi) ?_;refine rk [0,1,4,10] ?_
 rcases brc h with ⟨hc,h⟩|⟨hc,h⟩
 ·refine cnf (ntf (dT hc)) ?_
  refine .skip ?_
  show AW _ _ _ _ _ _
  refine .seq ?_;refine .sr ?_;refine vk (Aa) ?_;refine vk (AR (Ad _) (A0 _) AS) ?_;refine vk (Aa) ?_;refine rk [0,1,4,12,13] ?_
  obtain ⟨K0,hK0,h⟩:=AQ h
  refine AW.mr (σ:=Bool) (fun p=>K0 p=some r) (fun p=>[(4,.d (.b p))]) (fun p=>[]) ?_ ?_
  ·skip
   refine .block ?_
   refine .loop (.gk [0,1,4,12,13] ?_)
   refine AL.ind (σ:=Nat×Bool×Int) (m:=fun p=>p.1) (e:=fun p=>[(0,.d (.sl (Is a0))),(1,.d (.sl (Is a1))),(4,.d (.b p.2.1)),(12,.d (.i .i64 ((List.length a0:Nat):Int))),(13,.d (.i .i64 p.2.2))]) (h:=fun p=>[]) (I:=fun p=>BA a0 a1 K0 p.1 p.2.1 p.2.2=some r) ?_ (AK,false,0) h
   rintro ⟨k,s2,s3⟩ h ih
   dsimp only at h ih ⊢
   rcases k with _|k
   ·rw [BA] at h;cases h
   rw [BA] at h
   refine .sr ?_;refine vk (vbi) ?_;refine rk [0,1,4,12,13,14] ?_;refine .seq ?_
   rcases brc h with ⟨hc,h⟩|⟨hc,h⟩
   ·refine cnt (dT hc) ?_
    refine .skip ?_
    show AW _ _ _ _ _ _
    refine .seq ?_;refine .block ?_;refine .sr ?_;refine vk (Aa) ?_;refine ar [0,1,4,5,12,13] ?_;refine .seq ?_;refine .drawn 9 Bb (by kernel_rfl) ?_;refine dv (Aa) ?_;refine dv (Aa) ?_
    obtain ⟨x4,g4,h⟩:=bnd h
    obtain ⟨n4,p04,q4⟩:=Ag g4
    refine dv (vix n4 p04 (AT q4) rfl AJ) ?_;refine dv (Ah Ap) ?_;refine dv (Aa) ?_;refine dv (Aa) ?_
    obtain ⟨x5,g5,h⟩:=bnd h
    obtain ⟨n5,p05,q5⟩:=Ag g5
    refine dv (vix n5 p05 (AT q5) rfl AJ) ?_;refine dv (Ah Ap) ?_;refine dv (vbi) ?_;refine dz ?_;refine rk [0,1,4,12,13,24] ?_
    rcases brc h with ⟨hc,h⟩|⟨hc,h⟩
    ·refine cnf (ntf (dT hc)) ?_
     refine .skip ?_
     show AW _ _ _ _ _ _
     refine .region ?_;refine vk (vbi) ?_;refine vk (Aa) ?_;refine .nil ?_;refine AL.gk [0,1,4,12,13] ?_
     exact ih (k,s2,(w64 (s3+1))) h (Nat.lt_succ_self _)
    refine cnt (ntt (dF hc)) ?_;refine .sr ?_;refine ar [0,1,4,12,13] ?_;refine .ret ?_
    cases h
    exact ⟨rfl,rfl⟩
   refine cnf (dF hc) ?_;refine .gk [4] ?_;refine .exit ?_
   exact jr (s2) h
  rintro z1 h
  try dsimp only at h ⊢
  subst hK0
  show AW _ _ _ _ _ _
  refine .sr ?_;refine ar [4] ?_;refine .ret ?_
  cases h
  exact ⟨rfl,rfl⟩
 refine cnt (ntt (dF hc)) ?_;refine .sr ?_;refine ar [0,1,4] ?_;refine .ret ?_
 cases h
 exact ⟨rfl,rfl⟩
def Aq (a0:(List Itm)) (a1:(List Itm)) (a2:CX) (K0:Bool→Option (Bool)) : Nat→Bool→Int→Option (Bool)
 | 0,_,_=>none
 | k+1,s2,s3=>(if s3<((List.length a0:Nat):Int) then ((rd? a0 s3).bind fun x4=>((rd? a1 s3).bind fun x5=>((a2.g (x4,x5)).bind fun x6=>(if x6=true then (Aq a0 a1 a2 K0 k s2 (w64 (s3+1))) else (some (false)))))) else (K0 s2))
def AX (a0:(List Itm)) (a1:(List Itm)) (a2:CX) : Option (Bool):=(if ((List.length a0:Nat) : Int)=((List.length a1:Nat) : Int) then (jn (fun (z1:Bool)=>(some (true))) fun K0=>(Aq a0 a1 a2 K0 AK false 0)) else (some (false)))
theorem B1 {a0:(List Itm)} {a1:(List Itm)} {a2:CX} (oa2:JC a2) {r:Bool} (h:AX a0 a1 a2=some r) :
  Fn Tryz.prog 111 [.sl (Its a0),.sl (Its a1),a2.dv] (.d (.b r)):=by
 unfold AX at h
 refine Fn.o1 6 32 Tryz.func111 ?_;refine .sr ?_;refine ar [0,1,2,6] ?_;refine .seq ?_;refine .sr ?_;refine vk (Aa) ?_;refine vk (AR (Ay _) (CD _) CC) ?_;refine vk (Aa) ?_;refine vk (AR (Ay _) (CD _) CC) ?_;refine vk (vbi) ?_;refine rk [0,1,2,6,14] ?_
 rcases brc h with ⟨hc,h⟩|⟨hc,h⟩
 ·refine cnf (ntf (dT hc)) ?_
  refine .skip ?_
  show AW _ _ _ _ _ _
  refine .seq ?_;refine .sr ?_;refine vk (Aa) ?_;refine vk (AR (Ay _) (CD _) CC) ?_;refine vk (Aa) ?_;refine rk [1,2,6,15,16,17] ?_
  obtain ⟨K0,hK0,h⟩:=AQ h
  refine AW.mr (σ:=Bool) (fun p=>K0 p=some r) (fun p=>[(6,.d (.b p))]) (fun p=>[]) ?_ ?_
  ·skip
   refine .block ?_
   refine .loop (.gk [1,2,6,15,16,17] ?_)
   refine AL.ind (σ:=Nat×Bool×Int) (m:=fun p=>p.1) (e:=fun p=>[(1,.d (.sl (Its a1))),(2,.d (a2.dv)),(6,.d (.b p.2.1)),(15,.d (.sl (Its a0))),(16,.d (.i .i64 ((List.length a0:Nat):Int))),(17,.d (.i .i64 p.2.2))]) (h:=fun p=>[]) (I:=fun p=>Aq a0 a1 a2 K0 p.1 p.2.1 p.2.2=some r) ?_ (AK,false,0) h
   rintro ⟨k,s2,s3⟩ h ih
   dsimp only at h ih ⊢
   rcases k with _|k
   ·rw [Aq] at h;cases h
   rw [Aq] at h
   refine .sr ?_;refine vk (vbi) ?_;refine rk [1,2,6,15,16,17,18] ?_;refine .seq ?_
   rcases brc h with ⟨hc,h⟩|⟨hc,h⟩
   ·refine cnt (dT hc) ?_
    refine .skip ?_
    show AW _ _ _ _ _ _
    refine .seq ?_;refine .block ?_;refine .sr ?_;refine vk (Aa) ?_
    obtain ⟨x4,g4,h⟩:=bnd h
    obtain ⟨n4,p04,q4⟩:=Ag g4
    refine vk (vix n4 p04 (C6 q4) rfl C3) ?_;refine vk (AH Bd AG) ?_;refine vk (van (Aj CU) Dm) ?_;refine asd ?_
    refine stn ?_ AG (by decide)
    refine rk [1,2,6,7,8,15,16,17] ?_;refine .sr ?_;refine vk (Aa) ?_;refine vk (Aa) ?_
    obtain ⟨x5,g5,h⟩:=bnd h
    obtain ⟨n5,p05,q5⟩:=Ag g5
    refine vk (vix n5 p05 (C6 q5) rfl C3) ?_;refine vk (AH Bd AG) ?_;refine vk (van (Aj CU) Dm) ?_
    refine stn ?_ AG (by decide)
    refine rk [1,2,6,8,9,15,16,17] ?_;refine .sr ?_;refine vk (Aa) ?_;refine vk (Fs Bd AG) ?_;refine vk (Fs Bd AG) ?_
    obtain ⟨x6,g6,h⟩:=bnd h
    refine vk (N9 (oa2 _ _ g6)) ?_;refine vk (vnt) ?_;refine rk [1,2,6,15,16,17,30] ?_
    rcases brc h with ⟨hc,h⟩|⟨hc,h⟩
    ·refine cnf (ntf hc) ?_
     refine .skip ?_
     show AW _ _ _ _ _ _
     refine .region ?_;refine vk (vbi) ?_;refine vk (Aa) ?_;refine .nil ?_;refine AL.gk [1,2,6,15,16,17] ?_
     exact ih (k,s2,(w64 (s3+1))) h (Nat.lt_succ_self _)
    refine cnt (ntt (bf hc)) ?_;refine .sr ?_;refine ar [1,2,6,15,16,17] ?_;refine .ret ?_
    cases h
    exact ⟨rfl,rfl⟩
   refine cnf (dF hc) ?_;refine .gk [6] ?_;refine .exit ?_
   exact jr (s2) h
  rintro z1 h
  try dsimp only at h ⊢
  subst hK0
  show AW _ _ _ _ _ _
  refine .sr ?_;refine ar [6] ?_;refine .ret ?_
  cases h
  exact ⟨rfl,rfl⟩
 refine cnt (ntt (dF hc)) ?_;refine .sr ?_;refine ar [0,1,2,6] ?_;refine .ret ?_
 cases h
 exact ⟨rfl,rfl⟩
def Ao (a0:(List Arr)) (a1:(List Arr)) (a2:CV) (K0:Bool→Option (Bool)) : Nat→Bool→Int→Option (Bool)
 | 0,_,_=>none
 | k+1,s2,s3=>(if s3<((List.length a0:Nat):Int) then ((rd? a0 s3).bind fun x4=>((rd? a1 s3).bind fun x5=>((a2.g (x4,x5)).bind fun x6=>(if x6=true then (Ao a0 a1 a2 K0 k s2 (w64 (s3+1))) else (some (false)))))) else (K0 s2))
def AI (a0:(List Arr)) (a1:(List Arr)) (a2:CV) : Option (Bool):=(if ((List.length a0:Nat) : Int)=((List.length a1:Nat) : Int) then (jn (fun (z1:Bool)=>(some (true))) fun K0=>(Ao a0 a1 a2 K0 AK false 0)) else (some (false)))
theorem BO {a0:(List Arr)} {a1:(List Arr)} {a2:CV} (oa2:JS a2) {r:Bool} (h:AI a0 a1 a2=some r) :
  Fn Tryz.prog 114 [.sl (Ars a0),.sl (Ars a1),a2.dv] (.d (.b r)):=by
 unfold AI at h
 refine Fn.o1 6 32 Tryz.func114 ?_;refine .sr ?_;refine ar [0,1,2,6] ?_;refine .seq ?_;refine .sr ?_;refine vk (Aa) ?_;refine vk (AR (Bw _) (EG _) EC) ?_;refine vk (Aa) ?_;refine vk (AR (Bw _) (EG _) EC) ?_;refine vk (vbi) ?_;refine rk [0,1,2,6,14] ?_
 rcases brc h with ⟨hc,h⟩|⟨hc,h⟩
 ·refine cnf (ntf (dT hc)) ?_
  refine .skip ?_
  show AW _ _ _ _ _ _
  refine .seq ?_;refine .sr ?_;refine vk (Aa) ?_;refine vk (AR (Bw _) (EG _) EC) ?_;refine vk (Aa) ?_;refine rk [1,2,6,15,16,17] ?_
  obtain ⟨K0,hK0,h⟩:=AQ h
  refine AW.mr (σ:=Bool) (fun p=>K0 p=some r) (fun p=>[(6,.d (.b p))]) (fun p=>[]) ?_ ?_
  ·skip
   refine .block ?_
   refine .loop (.gk [1,2,6,15,16,17] ?_)
   refine AL.ind (σ:=Nat×Bool×Int) (m:=fun p=>p.1) (e:=fun p=>[(1,.d (.sl (Ars a1))),(2,.d (a2.dv)),(6,.d (.b p.2.1)),(15,.d (.sl (Ars a0))),(16,.d (.i .i64 ((List.length a0:Nat):Int))),(17,.d (.i .i64 p.2.2))]) (h:=fun p=>[]) (I:=fun p=>Ao a0 a1 a2 K0 p.1 p.2.1 p.2.2=some r) ?_ (AK,false,0) h
   rintro ⟨k,s2,s3⟩ h ih
   dsimp only at h ih ⊢
   rcases k with _|k
   ·rw [Ao] at h;cases h
   rw [Ao] at h
   refine .sr ?_;refine vk (vbi) ?_;refine rk [1,2,6,15,16,17,18] ?_;refine .seq ?_
   rcases brc h with ⟨hc,h⟩|⟨hc,h⟩
   ·refine cnt (dT hc) ?_
    refine .skip ?_
    show AW _ _ _ _ _ _
    refine .seq ?_;refine .block ?_;refine .sr ?_;refine vk (Aa) ?_
    obtain ⟨x4,g4,h⟩:=bnd h
    obtain ⟨n4,p04,q4⟩:=Ag g4
    refine vk (vix n4 p04 (Fv q4) rfl Fm) ?_;refine vk (AH Ac Ab) ?_;refine vk (van (Aj As) Aw) ?_;refine asd ?_
    refine stn ?_ Ab (by decide)
    refine rk [1,2,6,7,8,15,16,17] ?_;refine .sr ?_;refine vk (Aa) ?_;refine vk (Aa) ?_
    obtain ⟨x5,g5,h⟩:=bnd h
    obtain ⟨n5,p05,q5⟩:=Ag g5
    refine vk (vix n5 p05 (Fv q5) rfl Fm) ?_;refine vk (AH Ac Ab) ?_;refine vk (van (Aj As) Aw) ?_
    refine stn ?_ Ab (by decide)
    refine rk [1,2,6,8,9,15,16,17] ?_;refine .sr ?_;refine vk (Aa) ?_;refine vk (Fs Ac Ab) ?_;refine vk (Fs Ac Ab) ?_
    obtain ⟨x6,g6,h⟩:=bnd h
    refine vk (N9 (oa2 _ _ g6)) ?_;refine vk (vnt) ?_;refine rk [1,2,6,15,16,17,30] ?_
    rcases brc h with ⟨hc,h⟩|⟨hc,h⟩
    ·refine cnf (ntf hc) ?_
     refine .skip ?_
     show AW _ _ _ _ _ _
     refine .region ?_;refine vk (vbi) ?_;refine vk (Aa) ?_;refine .nil ?_;refine AL.gk [1,2,6,15,16,17] ?_
     exact ih (k,s2,(w64 (s3+1))) h (Nat.lt_succ_self _)
    refine cnt (ntt (bf hc)) ?_;refine .sr ?_;refine ar [1,2,6,15,16,17] ?_;refine .ret ?_
    cases h
    exact ⟨rfl,rfl⟩
   refine cnf (dF hc) ?_;refine .gk [6] ?_;refine .exit ?_
   exact jr (s2) h
  rintro z1 h
  try dsimp only at h ⊢
  subst hK0
  show AW _ _ _ _ _ _
  refine .sr ?_;refine ar [6] ?_;refine .ret ?_
  cases h
  exact ⟨rfl,rfl⟩
 refine cnt (ntt (dF hc)) ?_;refine .sr ?_;refine ar [0,1,2,6] ?_;refine .ret ?_
 cases h
 exact ⟨rfl,rfl⟩
def JP (rc_array_equal:Arr→Arr→Option (Bool)) (a0:Itm) (a1:Itm) : Option (Bool):=(if a0.kind=a1.kind then (Option.bind ((if a0.char=a1.char then (if (a0.num.1 == a1.num.1)=true then ((HJ a0.num.2.1 a1.num.2.1).bind fun x2=>(if x2=true then ((HJ a0.num.2.2 a1.num.2.2).bind fun x3=>(if x3=true then ((AI a0.box a1.box (⟨.fn 61 [] [],fun x=>rc_array_equal x.1 x.2⟩ : CV)).bind fun x4=>(some x4)) else (some false))) else (some false))) else (some false)) else (some false)) : Option (Bool)) fun (z1:Bool)=>(some (z1))) else (some (false)))
theorem MF {rc_array_equal:Arr→Arr→Option (Bool)} (orc_array_equal:∀ x0 x1 r,rc_array_equal x0 x1=some r→Fn Tryz.prog 61 [.ag [.sl (Is x0.shape),.sl (Its x0.items)],.ag [.sl (Is x1.shape),.sl (Its x1.items)]] (.d (.b r))) {a0:Itm} {a1:Itm} {r:Bool} (h:JP rc_array_equal a0 a1=some r) :
  Fn Tryz.prog 112 [.ag [.i .u8 a0.kind,.b a0.num.1,.sl (L a0.num.2.1),.sl (L a0.num.2.2),.i .i32 a0.char,.sl (Ars a0.box)],.ag [.i .u8 a1.kind,.b a1.num.1,.sl (L a1.num.2.1),.sl (L a1.num.2.2),.i .i32 a1.char,.sl (Ars a1.box)]] (.d (.b r)):=by
 unfold JP at h
 refine Fn.o1 4 50 Tryz.func112 ?_;refine .sr ?_;refine vk (vbx) ?_;refine vk (vbx) ?_;refine ar [2,3,4] ?_;refine .seq ?_;refine .sr ?_;refine vk (vfa Ds) ?_;refine vk (Ah BX) ?_;refine rk [2,3,4,6] ?_;refine .block ?_;refine .sr ?_;refine vk (vfa Ds) ?_;refine vk (Ah BX) ?_;refine vk (vbi) ?_;refine ar [2,3,4,7] ?_
 rcases brc h with ⟨hc,h⟩|⟨hc,h⟩
 ·refine cnt (dT hc) ?_
  refine .seq ?_
  obtain ⟨z1,hz,h⟩:=bnd h
  refine AW.mr (σ:=Unit) (fun _=>True) (fun _=>[(4,.d (.b z1))]) (fun _=>[]) ?_ ?_
  ·skip
   refine .region ?_;refine vk (vfa Eg) ?_;refine vk (Ah Ek) ?_;refine vk (vfa Eg) ?_;refine vk (Ah Ek) ?_;refine vk (vbi) ?_
   rcases brc hz with ⟨hc,hz⟩|⟨hc,hz⟩
   ·have hb0:(decide (a0.char=a1.char))=true:=(dT hc)
    refine vk (VOK.lit (Aa) hb0) ?_;refine vk (vfa B9) ?_;refine vk (vfa Gs) ?_;refine vk (Ah EQ) ?_;refine vk (vfa B9) ?_;refine vk (vfa Gs) ?_;refine vk (Ah EQ) ?_;refine vk (VN (.inl rfl) bo) ?_;refine vk (An) ?_
    rcases brc hz with ⟨hc,hz⟩|⟨hc,hz⟩
    ·have hb1:(a0.num.1 == a1.num.1)=true:=hc
     refine vk (VOK.lit (Aa) hb1) ?_;refine vk (vfa B9) ?_;refine vk (vfa GF) ?_;refine vk (Ah Ip) ?_;refine vk (vfa B9) ?_;refine vk (vfa GF) ?_;refine vk (Ah Ip) ?_
     obtain ⟨x2,g2,hz⟩:=bnd hz
     refine vk (Am (Ir g2) Tryz.call113) ?_;refine vk (An) ?_
     rcases brc hz with ⟨hc,hz⟩|⟨hc,hz⟩
     ·have hb2:x2=true:=hc
      refine vk (VOK.lit (Aa) hb2) ?_;refine vk (vfa B9) ?_;refine vk (vfa Hd) ?_;refine vk (Ah Ip) ?_;refine vk (vfa B9) ?_;refine vk (vfa Hd) ?_;refine vk (Ah Ip) ?_
      obtain ⟨x3,g3,hz⟩:=bnd hz
      refine vk (Am (Ir g3) Tryz.call113) ?_;refine vk (An) ?_
      rcases brc hz with ⟨hc,hz⟩|⟨hc,hz⟩
      ·have hb3:x3=true:=hc
       refine vk (VOK.lit (Aa) hb3) ?_;refine vk (vfa Br) ?_;refine vk (Ah C9) ?_;refine vk (vfa Br) ?_;refine vk (Ah C9) ?_
       obtain ⟨x4,g4,hz⟩:=bnd hz
       refine vk (Am (BO (DY Tryz.call61 (fun _ _ h=>orc_array_equal _ _ _ h)) g4) Tryz.call114) ?_;refine vk (An) ?_;refine asd ?_;refine RL.gk [4] ?_;refine .nil ?_
       cases hz
       exact jr () trivial
      have hb3:x3=false:=(bf hc)
      refine vk (VOK.lit (Aa) hb3) ?_;refine gf ?_;refine gf ?_;refine gf ?_;refine gf ?_;refine gf ?_;refine vk (An) ?_;refine asd ?_;refine RL.gk [4] ?_;refine .nil ?_
      cases hz
      exact jr () trivial
     have hb2:x2=false:=(bf hc)
     refine vk (VOK.lit (Aa) hb2) ?_;refine gf ?_;refine gf ?_;refine gf ?_;refine gf ?_;refine gf ?_;refine gf ?_;refine gf ?_;refine vk (An) ?_;refine vk (Aa) ?_;refine gf ?_;refine gf ?_;refine gf ?_;refine gf ?_;refine gf ?_;refine vk (An) ?_;refine asd ?_;refine RL.gk [4] ?_;refine .nil ?_
     cases hz
     exact jr () trivial
    have hb1:(a0.num.1 == a1.num.1)=false:=(bf hc)
    refine vk (VOK.lit (Aa) hb1) ?_;refine gf ?_;refine gf ?_;refine gf ?_;refine gf ?_;refine gf ?_;refine gf ?_;refine gf ?_;refine vk (An) ?_;refine vk (Aa) ?_;refine gf ?_;refine gf ?_;refine gf ?_;refine gf ?_;refine gf ?_;refine gf ?_;refine gf ?_;refine vk (An) ?_;refine vk (Aa) ?_;refine gf ?_;refine gf ?_;refine gf ?_;refine gf ?_;refine gf ?_;refine vk (An) ?_;refine asd ?_;refine RL.gk [4] ?_;refine .nil ?_
    cases hz
    exact jr () trivial
   have hb0:(decide (a0.char=a1.char))=false:=(dF hc)
   refine vk (VOK.lit (Aa) hb0) ?_;refine gf ?_;refine gf ?_;refine gf ?_;refine gf ?_;refine gf ?_;refine gf ?_;refine gf ?_;refine vk (An) ?_;refine vk (Aa) ?_;refine gf ?_;refine gf ?_;refine gf ?_;refine gf ?_;refine gf ?_;refine gf ?_;refine gf ?_;refine vk (An) ?_;refine vk (Aa) ?_;refine gf ?_;refine gf ?_;refine gf ?_;refine gf ?_;refine gf ?_;refine gf ?_;refine gf ?_;refine vk (An) ?_;refine vk (Aa) ?_;refine gf ?_;refine gf ?_;refine gf ?_;refine gf ?_;refine gf ?_;refine vk (An) ?_;refine asd ?_;refine RL.gk [4] ?_;refine .nil ?_
   cases hz
   exact jr () trivial
  rintro _ _
  refine .ret ?_
  cases h
  exact ⟨rfl,rfl⟩
 refine cnf (dF hc) ?_;refine .skip ?_
 show AW _ _ _ _ _ _
 refine .sr ?_;refine ar [4] ?_;refine .ret ?_
 cases h
 exact ⟨rfl,rfl⟩
def HL (rc_array_equal:Arr→Arr→Option (Bool)) (a0:Arr) (a1:Arr) : Option (Bool):=((Dx a0.shape a1.shape).bind fun x1=>(Option.bind ((if x1=true then ((AX a0.items a1.items (⟨.fn 112 [] [],fun x=>JP rc_array_equal x.1 x.2⟩ : CX)).bind fun x3=>(some x3)) else (some false)) : Option (Bool)) fun (z1:Bool)=>(some (z1))))
theorem M9 {rc_array_equal:Arr→Arr→Option (Bool)} (orc_array_equal:∀ x0 x1 r,rc_array_equal x0 x1=some r→Fn Tryz.prog 61 [.ag [.sl (Is x0.shape),.sl (Its x0.items)],.ag [.sl (Is x1.shape),.sl (Its x1.items)]] (.d (.b r))) {a0:Arr} {a1:Arr} {r:Bool} (h:HL rc_array_equal a0 a1=some r) :
  Fn Tryz.prog 61 [.ag [.sl (Is a0.shape),.sl (Its a0.items)],.ag [.sl (Is a1.shape),.sl (Its a1.items)]] (.d (.b r)):=by
 unfold HL at h
 refine Fn.o1 4 17 Tryz.func61 ?_;refine .sr ?_;refine vk (vbx) ?_;refine vk (vbx) ?_;refine ar [2,3,4] ?_;refine .seq ?_
 obtain ⟨x1,g1,h⟩:=bnd h
 obtain ⟨z1,hz,h⟩:=bnd h
 refine AW.mr (σ:=Unit) (fun _=>True) (fun _=>[(4,.d (.b z1))]) (fun _=>[]) ?_ ?_
 ·skip
  refine .region ?_;refine vk (vfa Ai) ?_;refine vk (Ah Ax) ?_;refine vk (vfa Ai) ?_;refine vk (Ah Ax) ?_;refine vk (Am (Gi g1) Tryz.call110) ?_
  rcases brc hz with ⟨hc,hz⟩|⟨hc,hz⟩
  ·have hb0:x1=true:=hc
   refine vk (VOK.lit (Aa) hb0) ?_;refine vk (vfa AD) ?_;refine vk (Ah Bm) ?_;refine vk (vfa AD) ?_;refine vk (Ah Bm) ?_
   obtain ⟨x3,g3,hz⟩:=bnd hz
   refine vk (Am (B1 (DY Tryz.call112 (fun _ _ h=>MF orc_array_equal h)) g3) Tryz.call111) ?_;refine vk (An) ?_;refine asd ?_;refine RL.gk [4] ?_;refine .nil ?_
   cases hz
   exact jr () trivial
  have hb0:x1=false:=(bf hc)
  refine vk (VOK.lit (Aa) hb0) ?_;refine gf ?_;refine gf ?_;refine gf ?_;refine gf ?_;refine gf ?_;refine vk (An) ?_;refine asd ?_;refine RL.gk [4] ?_;refine .nil ?_
  cases hz
  exact jr () trivial
 rintro _ _
 refine .ret ?_
 cases h
 exact ⟨rfl,rfl⟩
def GL : Nat→Arr→Arr→Option (Bool)
 | 0,_,_=>none
 | k+1,a0,a1=>HL (GL k) a0 a1
theorem HZ : ∀ (k:Nat) (a0:Arr) (a1:Arr) (r:Bool),GL k a0 a1=some r→Fn Tryz.prog 61 [.ag [.sl (Is a0.shape),.sl (Its a0.items)],.ag [.sl (Is a1.shape),.sl (Its a1.items)]] (.d (.b r))
 | 0,_,_,_,h=>by cases h
 | k+1,a0,a1,_,h=>M9 (HZ k) (show HL (GL k) a0 a1=some _ from h)
def NB (a0:Arr) (a1:Arr) : Option (Bool):=GL (a0.size+1) a0 a1
theorem NS {a0:Arr} {a1:Arr} {r:Bool} (h:NB a0 a1=some r) : Fn Tryz.prog 61 [.ag [.sl (Is a0.shape),.sl (Its a0.items)],.ag [.sl (Is a1.shape),.sl (Its a1.items)]] (.d (.b r)):=HZ _ a0 a1 r h
abbrev sg (b:Bool) (n:Nat) : Int:=if b=true then -(n:Int) else n
def ofQ (p:Rat) : RT:=(decide (p.num<0),A1 p.num.natAbs,A1 p.den)
def J6 (n:Nat) : Prop:=(A1 n).length≤32
instance (n:Nat) : Decidable (J6 n):=inferInstanceAs (Decidable (_≤_))
def N4 (p:Rat) : Prop:=J6 p.num.natAbs∧J6 p.den
instance (p:Rat) : Decidable (N4 p):=inferInstanceAs (Decidable (_∧_))
theorem Jn (b:Bool) (n:Nat) : (sg b n).natAbs=n:=by cases b<;>simp [sg]
theorem U3 (b:Bool) (n:Nat) : decide (sg b n<0)=(b&&decide (n≠0)):=by
 cases b with
 | false=>simp [sg]
 | true=>simp only [sg,if_true,Bool.true_and];apply decide_eq_decide.2;omega
abbrev q3 (p:Rat) : Q3:=(decide (p.num<0),p.num.natAbs,p.den)
theorem Rd {r:RT} : Fl r=true↔∃ p,N4 p∧r=ofQ p:=by
 obtain ⟨b,n,d⟩:=r
 simp only [Fl,Jo,decide_eq_true_eq]
 constructor
 ·rintro ⟨h1,h2,h3,h4,h5,h6,h7⟩
  have hd0:val d≠0:=fun h=>h5 (by rw [← h2,h,Bf])
  refine ⟨⟨sg b (val n),val d,hd0,by rw [Nat.Coprime,Jn];exact h7⟩,⟨?_,?_⟩,?_⟩
  ·show J6 (sg b (val n)).natAbs
   rw [Jn,J6,h1];exact h3
  ·show J6 (val d)
   rw [J6,h2];exact h4
  ·simp only [ofQ,Jn,h1,h2]
   rw [U3]
   congr 1
   cases b with
   | false=>rfl
   | true =>
    have:n≠[]:=fun h=>by have:=h6 h;cases this
    have hn0:val n≠0:=fun h=>this (by rw [← h1,h,Bf])
    simp [hn0]
 ·rintro ⟨p,⟨h1,h2⟩,h⟩
  simp only [ofQ,Prod.mk.injEq] at h
  obtain ⟨rfl,rfl,rfl⟩:=h
  refine ⟨by rw [C2],by rw [C2],h1,h2,?_,?_,?_⟩
  ·intro h
   have:=Gr.1 h
   exact p.den_nz this
  ·intro h
   have:=Gr.1 h
   exact dF (by omega)
  ·rw [C2,C2];exact p.reduced
theorem Jw {p:Rat} (h:N4 p) : Fl (ofQ p)=true:=Rd.2 ⟨p,h,rfl⟩
theorem Nd {k n:Nat} (h:(A1 n).length≤k) : okL k (A1 n)=true:=IM.2 ⟨Fd n,h⟩
theorem KT {k n:Nat} (h:J6 n) (hk:32≤k) : okL k (A1 n)=true:=Nd (nT h hk)
theorem Hh {p:Rat} (h:N4 p) : Jz (ofQ p)=true:=by
 simp only [Jz,Bool.and_eq_true]
 exact ⟨KT h.1 (by decide),KT h.2 (by decide)⟩
theorem Jy : N4 0:=by
 have e0:A1 0=[]:=Bf
 have e1:A1 1=[1]:=Lh (n:=1) (by decide) (by decide)
 constructor
 ·show (A1 0).length≤32;rw [e0];decide
 ·show (A1 1).length≤32;rw [e1];decide
theorem N2 : A1 1=[1]:=Lh (n:=1) (by decide) (by decide)
theorem BP {z:Int} (h1:-9223372036854775808≤z) (h2:z≤9223372036854775807) : w64 z=z:=Ii h1 h2
theorem Kc {r:RT} (h:Jz r=true) : I9 r=some (Fl r):=if_pos h
theorem QD : OI=some [1]:=if_pos trivial
def sm (k:Nat) (x:Q3) : Prop:=(A1 x.2.1).length≤k∧(A1 x.2.2).length≤k
theorem Pv {z:Int} (h1:-9223372036854775808≤z) (h2:z≤9223372036854775807) : EW z=some (ofQ z):=by
 have:EW z=some (decide (z<0),A1 z.natAbs,[1]):=if_pos ⟨h1,h2⟩
 rw [this]
 show _=some (decide (z<0),A1 z.natAbs,A1 1)
 rw [N2]
theorem RZ {z:Int} (h1:-9223372036854775808≤z) (h2:z≤9223372036854775808) : N4 (z:Rat):=by
 constructor
 ·show (A1 z.natAbs).length≤32
  exact nT (Fq (k:=3) (by omega)) (by decide)
 ·show (A1 1).length≤32
  rw [N2];decide
mutual
def okI : Itm→Prop
 | .mk k n c b=>(0≤k∧k<256)∧Jz n=true∧(-2147483648≤c∧c<2147483648)∧b.length≤2932031007402∧okAs b
def okAr : Arr→Prop
 | .mk s i=>(∀ z∈s,-9223372036854775808≤z∧z≤9223372036854775807)∧s.length≤17592186044416∧i.length≤1466015503701∧okIs i
def okIs : List Itm→Prop
 | []=>True
 | x::xs=>okI x∧okIs xs
def okAs : List Arr→Prop
 | []=>True
 | x::xs=>okAr x∧okAs xs
end
theorem NF : ∀ {xs:List Itm},okIs xs↔∀ x∈xs,okI x
 | []=>by simp [okIs]
 | x::xs=>by simp [okIs,NF (xs:=xs)]
theorem N8 : ∀ {xs:List Arr},okAs xs↔∀ x∈xs,okAr x
 | []=>by simp [okAs]
 | x::xs=>by simp [okAs,N8 (xs:=xs)]
theorem ER (x:Itm) : okI x↔(0≤x.kind∧x.kind<256)∧Jz x.num=true∧(-2147483648≤x.char∧x.char<2147483648)∧x.box.length≤2932031007402∧∀ a∈x.box,okAr a:=by
 cases x;simp only [okI,N8,Itm.kind,Itm.num,Itm.char,Itm.box]
theorem BN (a:Arr) : okAr a↔(∀ z∈a.shape,-9223372036854775808≤z∧z≤9223372036854775807)∧a.shape.length≤17592186044416∧a.items.length≤1466015503701∧∀ x∈a.items,okI x:=by
 cases a;simp only [okAr,NF,Arr.shape,Arr.items]
theorem Mr : ∀ {xs:List Itm} {x:Itm},x∈xs→x.size≤itsSize xs
 | y::xs,x,h=>by
  rw [itsSize]
  rcases List.mem_cons.1 h with rfl|h
  ·omega
  ·have:=Mr h;omega
theorem Ns : ∀ {xs:List Arr} {x:Arr},x∈xs→x.size≤arsSize xs
 | y::xs,x,h=>by
  rw [arsSize]
  rcases List.mem_cons.1 h with rfl|h
  ·omega
  ·have:=Ns h;omega
theorem I7 {a:Arr} {x:Itm} (h:x∈a.items) : x.size<a.size:=by
 cases a;have:=Mr (xs:=_) h;simp only [Arr.size,Arr.items] at *;omega
theorem HB {x:Itm} {a:Arr} (h:a∈x.box) : a.size<x.size:=by
 cases x;have:=Ns (xs:=_) h;simp only [Itm.size,Itm.box] at *;omega
theorem Ch {n:Nat} (h:n≤140737488355328) : n<AK:=by unfold AK;omega
theorem CS {i:Nat} (h:i≤9223372036854775806) : w64 ((i:Int)+1)=((i+1:Nat) : Int):=by rw [BP (by omega) (by omega)];omega
theorem TX {α:Type} {xs:List α} {i:Nat} {x:α} (h:xs[i]?=some x) : rd? xs (i:Int)=some x:=by
 rw [rd?,if_pos (by omega)];simpa using h
theorem CM {α:Type} {xs:List α} {i:Nat} (h:i<xs.length) : rd? xs (i:Int)=some xs[i]:=TX (lG h)
theorem Gk {α:Type} {m:Nat} {xs ys:List α} (h:xs.length+ys.length≤m) : ap? m xs ys=some (xs++ys):=if_pos h
theorem Js {α:Type} {x:α} {xs:List α} : rd? (x::xs) 0=some x:=rfl
theorem Kd {xs:List Int} {f:Bt} {p:Int→Bool} (hf:∀ x∈xs,f.g x=some (p x)) (K:Int→Option Int) (hl:xs.length≤17592186044416) : ∀ (n i k:Nat) (s:Int),n=xs.length-i→i≤xs.length→n<k →
  AU xs f K k s (i:Int)=match (xs.drop i).findIdx? p with|some j=>some (((i+j:Nat)):Int)|none=>K s
 | n,i,0,s,_,_,h=>by omega
 | n,i,k+1,s,hn,hi,hk=>by
  rw [AU]
  by_cases hlt:i<xs.length
  ·rw [if_pos (by omega),CM hlt,oB,hf _ (List.getElem_mem _),oB,lC hlt,List.findIdx?_cons]
   by_cases hp:p xs[i]=true
   ·rw [if_pos hp,if_pos hp];rfl
   ·rw [if_neg hp,if_neg hp,CS (by omega),Kd hf K hl (n-1) (i+1) k s (by omega) (by omega) (by omega)]
    cases (xs.drop (i+1)).findIdx? p with
    | none=>rfl
    | some j=>simp only [Option.map_some];congr 1;omega
  ·rw [if_neg (by omega),List.drop_of_length_le (by omega)];rfl
theorem DM {xs:List Int} {f:Bt} {p:Int→Bool} (hf:∀ x∈xs,f.g x=some (p x)) (hl:xs.length≤17592186044416) : AF xs f=some (xs.any p):=by
 unfold AF BU
 simp only [jn]
 have:=Kd hf (fun _=>some (-1)) hl xs.length 0 AK 0 rfl (Nat.zero_le _) (Ch (by omega))
 rw [List.drop_zero] at this
 rw [show ((0:Nat):Int)=0 from rfl] at this
 rw [this]
 cases h:xs.findIdx? p with
 | none =>
  rw [oB]
  rw [List.findIdx?_eq_none_iff] at h
  rw [show (xs.any p)=false by rw [List.any_eq_false];intro x hx;simp [h x hx]]
  rfl
 | some j =>
  rw [oB]
  rw [List.findIdx?_eq_some_iff_getElem] at h
  obtain ⟨hj,h1,_⟩:=h
  rw [show (xs.any p)=true by rw [List.any_eq_true];exact ⟨_,List.getElem_mem hj,h1⟩]
  simp
theorem Ji {xs:List Int} {v:Int} (K:Int→Option Int) (hl:xs.length≤17592186044416) : ∀ (n i k:Nat) (s:Int),n=xs.length-i→i≤xs.length→n<k →
  A5 xs v K k s (i:Int)=match (xs.drop i).findIdx? (fun x=>decide (v=x)) with|some j=>some (((i+j:Nat)):Int)|none=>K s
 | n,i,0,s,_,_,h=>by omega
 | n,i,k+1,s,hn,hi,hk=>by
  rw [A5]
  by_cases hlt:i<xs.length
  ·rw [if_pos (by omega),CM hlt,oB,lC hlt,List.findIdx?_cons]
   by_cases hp:v=xs[i]
   ·rw [if_pos hp,if_pos (dT hp)];rfl
   ·rw [if_neg hp,if_neg (by simp [hp]),CS (by omega),Ji K hl (n-1) (i+1) k s (by omega) (by omega) (by omega)]
    cases (xs.drop (i+1)).findIdx? (fun x=>decide (v=x)) with
    | none=>rfl
    | some j=>simp only [Option.map_some];congr 1;omega
  ·rw [if_neg (by omega),List.drop_of_length_le (by omega)];rfl
theorem Nm {xs:List Int} {v:Int} (hl:xs.length≤17592186044416) : BD xs v=some (decide (v∈xs)):=by
 unfold BD CF
 simp only [jn]
 have:=Ji (v:=v) (fun _=>some (-1)) hl xs.length 0 AK 0 rfl (Nat.zero_le _) (Ch (by omega))
 rw [List.drop_zero] at this
 rw [show ((0:Nat):Int)=0 from rfl] at this
 rw [this]
 cases h:xs.findIdx? (fun x=>decide (v=x)) with
 | none =>
  rw [oB]
  rw [List.findIdx?_eq_none_iff] at h
  rw [show decide (v∈xs)=false by rw [decide_eq_false_iff_not];intro hx;have:=h v hx;simp at this]
  rfl
 | some j =>
  rw [oB]
  rw [List.findIdx?_eq_some_iff_getElem] at h
  obtain ⟨hj,h1,_⟩:=h
  rw [show decide (v∈xs)=true by rw [decide_eq_true_eq];rw [decide_eq_true_eq] at h1;rw [h1];exact List.getElem_mem hj]
  simp
def Eo (s:List Int) : Int:=s.foldl (· * ·) 1
def szP (s:List Int) : Int×Int :=
 if 8<s.length then (0,4) else if s.any (fun n=>decide (n<0)) then (0,3) else if s.any (fun n=>decide (4096<n)) then (0,8) else if 0∈s then (0,0) else if Eo s≤4096 then (Eo s,0) else (0,8)
theorem Jm (s:List Int) : ∀ n : Int,s.foldl (· * ·) n=n * s.foldl (· * ·) 1:=by
 induction s with
 | nil=>intro n;simp
 | cons x xs ih=>intro n;rw [List.foldl_cons,List.foldl_cons,ih (n * x),ih (1 * x),Int.one_mul,Int.mul_assoc]
theorem L8 {s:List Int} (h:∀ x∈s,1≤x) : 1≤Eo s:=by
 induction s with
 | nil=>exact Int.le_refl _
 | cons x xs ih =>
  have h1:=h x (by simp)
  have h2:=ih fun y hy=>h y (by simp [hy])
  unfold Eo at *
  rw [List.foldl_cons,Jm,Int.one_mul]
  exact Int.le_trans (by omega:(1:Int)≤1 * 1) (Int.mul_le_mul h1 h2 (by omega) (by omega))
theorem Mx {s:List Int} (hl:s.length≤8) (hp:∀ x∈s,1≤x∧x≤4096) (K:Int→Int→Int→Option (Int×Int)) : ∀ (n i k:Nat) (a b m:Int),n=s.length-i→i≤s.length→n<k→1≤m→m≤4096 →
  CQ s K k a b m (i:Int)=if m * Eo (s.drop i)≤4096 then K a b (m * Eo (s.drop i)) else some (0,8)
 | n,i,0,a,b,m,_,_,h,_,_=>by omega
 | n,i,k+1,a,b,m,hn,hi,hk,h1,h2=>by
  rw [CQ]
  by_cases hlt:i<s.length
  ·rw [if_pos (by omega),CM hlt,oB,D4,if_pos (by omega),oB,lC hlt]
   have hx:=hp s[i] (List.getElem_mem _)
   have hq0:0≤Int.tdiv 4096 m:=Int.tdiv_nonneg (by omega) (by omega)
   have hq1:Int.tdiv 4096 m≤4096:=by rw [Int.tdiv_eq_ediv_of_nonneg (by omega)];exact Int.ediv_le_self _ (by omega)
   rw [BP (by omega) (by omega)]
   have hpos:1≤Eo (s.drop (i+1)):=L8 fun x hx=>(hp x (List.mem_of_mem_drop hx)).1
   have hprod:Eo (s[i]::s.drop (i+1))=s[i] * Eo (s.drop (i+1)):=by unfold Eo;rw [List.foldl_cons,Jm,Int.one_mul]
   have hdiv:Int.tdiv 4096 m<s[i]↔4096<m * s[i]:=by
    rw [Int.tdiv_eq_ediv_of_nonneg (by omega),Int.ediv_lt_iff_lt_mul (by omega),Int.mul_comm]
   rw [hprod,← Int.mul_assoc]
   by_cases hc:4096<m * s[i]
   ·rw [if_pos (hdiv.2 hc),if_neg]
    have:m * s[i] * 1≤m * s[i] * Eo (s.drop (i+1)):=Int.mul_le_mul_of_nonneg_left hpos (by omega)
    omega
   ·have hm1:1≤m * s[i]:=Int.le_trans (by omega:(1:Int)≤1 * 1) (Int.mul_le_mul h1 hx.1 (by omega) (by omega))
    rw [if_neg (fun h=>hc (hdiv.1 h)),CS (by omega),BP (by omega) (by omega)]
    exact Mx hl hp K (n-1) (i+1) k a b (m * s[i]) (by omega) (by omega) (by omega) hm1 (by omega)
  ·rw [if_neg (by omega),List.drop_of_length_le (by omega)]
   rw [show Eo []=1 from rfl,Int.mul_one,if_pos h2]
theorem Jd {s:List Int} (hl:s.length≤17592186044416) : B5 s=some (szP s):=by
 unfold B5 szP
 by_cases h8:8<s.length
 ·rw [if_pos (by omega),if_pos h8]
 rw [if_neg (by omega),if_neg h8]
 rw [DM (p:=fun n=>decide (n<0)) (fun x _=>rfl) hl,oB]
 by_cases h0:s.any (fun n=>decide (n<0))=true
 ·rw [if_pos h0,if_pos h0]
 rw [if_neg h0,if_neg h0]
 rw [DM (p:=fun n=>decide (4096<n)) (fun x _=>rfl) hl,oB]
 by_cases h1:s.any (fun n=>decide (4096<n))=true
 ·rw [if_pos h1,if_pos h1]
 rw [if_neg h1,if_neg h1,Nm hl,oB]
 by_cases h2:0∈s
 ·rw [if_pos (dT h2),if_pos h2]
 rw [if_neg (by simp [h2]),if_neg h2]
 have hp:∀ x∈s,1≤x∧x≤4096:=fun x hx=>by
  simp only [List.any_eq_true,decide_eq_true_eq,not_exists,not_and] at h0 h1
  have a:=h0 x hx
  have b:=h1 x hx
  have c:x≠0:=fun e=>h2 (e▸hx)
  omega
 have:=Mx (by omega) hp (fun z4 z5 z6=>some (z6,0)) s.length 0 AK 0 0 1 rfl (Nat.zero_le _) (Ch (by omega)) (by omega) (by omega)
 rw [List.drop_zero,Int.one_mul,show ((0:Nat):Int)=0 from rfl] at this
 simp only [jn]
 rw [this]
 split<;>rfl
theorem MH (s:List Int) : 0≤(szP s).1∧(szP s).1≤4096:=by
 unfold szP
 split
 ·exact ⟨by decide,by decide⟩
 split
 ·exact ⟨by decide,by decide⟩
 split
 ·exact ⟨by decide,by decide⟩
 split
 ·exact ⟨by decide,by decide⟩
 split
 ·rename_i h8 h0 h1 h2 h3
  refine ⟨?_,h3⟩
  have:1≤Eo s:=L8 fun x hx=>by
   simp only [List.any_eq_true,decide_eq_true_eq,not_exists,not_and] at h0 h1
   have a:=h0 x hx
   have c:x≠0:=fun e=>h2 (e▸hx)
   omega
  omega
 ·exact ⟨by decide,by decide⟩
def Im (a0:RT) : Option (RT):=((ap? 35184372088832 [] a0.2.1).bind fun x1=>((ap? 35184372088832 [] a0.2.2).bind fun x2=>(some ((a0.1,x1,x2)))))
theorem LZ {a0:RT} {r:RT} (h:Im a0=some r) :
  Fn Tryz.prog 90 [.ag [.b a0.1,.sl (L a0.2.1),.sl (L a0.2.2)]] (.d (.ag [.b r.1,.sl (L r.2.1),.sl (L r.2.2)])):=by
 unfold Im at h
 refine Fn.ofC (rs:=[.cell 2 34]) (nt:=20) Tryz.func90 rfl rfl rfl (by simp) rfl ?_;refine .sr ?_;refine vk (vbx) ?_;refine vk (van (Aj So) TH) ?_;refine rk [1,2] ?_;refine .sr ?_;refine vk (vfa Gs) ?_;refine vk (Ah EQ) ?_;refine vk (RJ VH So (fun w I μ=>Vy w I μ)) ?_;refine vk (van (Aj So) TH) ?_
 refine SG ?_ HW (by decide)
 refine rk [1,2,3] ?_;refine .sr ?_;refine vk (DU GF) ?_
 refine ldb (cs:=[.d (.b a0.1),.nl,.nl]) (c:=.nl) rfl rfl ?_ Ip
 refine vk (vfa GF) ?_;refine vk (Ah Ip) ?_
 obtain ⟨x1,g1,h⟩:=bnd h
 refine Va g1 Vw ?_ MA Ae VB
 refine vk (DU GF) ?_
 refine IN (cs:=[.d (.b a0.1),.nl,.nl]) (c:=.nl) rfl rfl ?_ Vx
 refine rk [1,2,3] ?_;refine .sr ?_;refine vk (DU Hd) ?_
 refine ldb (cs:=[.d (.b a0.1),.own 128 (L x1),.nl]) (c:=.nl) rfl rfl ?_ Ip
 refine vk (vfa Hd) ?_;refine vk (Ah Ip) ?_
 obtain ⟨x2,g2,h⟩:=bnd h
 refine Va g2 Vw ?_ MA Ae VB
 refine vk (DU Hd) ?_
 refine IN (cs:=[.d (.b a0.1),.own 128 (L x1),.nl]) (c:=.nl) rfl rfl ?_ Vx
 refine rk [2,3] ?_;refine .sr ?_;refine fz (p:=.c 0 1) ?_;refine fz (p:=.c 0 2) ?_;refine vk (GW (cs:=[.d (.b a0.1),.d (.sl (L x1)),.d (.sl (L x2))]) (ds:=[.b a0.1,.sl (L x1),.sl (L x2)]) rfl Jx HW) ?_
 refine stn ?_ HW (by decide)
 refine rk [2] ?_;refine .ret ?_
 cases h
 exact ⟨_,⟨.inr rfl,Jx,HW,p3⟩,rfl⟩
def BJ (rc_ref03_Same:Arr→Arr→Option (Bool)) (a0:Itm) (a1:Itm) (K0:Bool→Option (Bool)) : Nat→Bool→Int→Option (Bool)
 | 0,_,_=>none
 | k+1,s4,s5=>(if s5<((List.length a0.box:Nat):Int) then ((rd? a0.box s5).bind fun x6=>((rd? a1.box s5).bind fun x7=>((rc_ref03_Same x6 x7).bind fun x8=>(if x8=true then (BJ rc_ref03_Same a0 a1 K0 k s4 (w64 (s5+1))) else (some (false)))))) else (K0 s4))
def Cq (rc_ref03_Same:Arr→Arr→Option (Bool)) (a0:Itm) (a1:Itm) : Option (Bool):=(Option.bind ((if a0.kind=a1.kind then (if a0.char=a1.char then ((Lw a0.num a1.num).bind fun x2=>(if x2=true then (some (!(decide (((List.length a0.box:Nat) : Int)=((List.length a1.box:Nat) : Int))))) else (some true))) else (some true)) else (some true)) : Option (Bool)) fun (z1:Bool)=>(if z1=true then (some (false)) else (jn (fun (z3:Bool)=>(some (true))) fun K0=>(BJ rc_ref03_Same a0 a1 K0 AK false 0))))
theorem I5 {rc_ref03_Same:Arr→Arr→Option (Bool)} (orc_ref03_Same:∀ x0 x1 r,rc_ref03_Same x0 x1=some r→Fn Tryz.prog 14 [.ag [.sl (Is x0.shape),.sl (Its x0.items)],.ag [.sl (Is x1.shape),.sl (Its x1.items)]] (.d (.b r))) {a0:Itm} {a1:Itm} {r:Bool} (h:Cq rc_ref03_Same a0 a1=some r) :
  Fn Tryz.prog 47 [.ag [.i .u8 a0.kind,.b a0.num.1,.sl (L a0.num.2.1),.sl (L a0.num.2.2),.i .i32 a0.char,.sl (Ars a0.box)],.ag [.i .u8 a1.kind,.b a1.num.1,.sl (L a1.num.2.1),.sl (L a1.num.2.2),.i .i32 a1.char,.sl (Ars a1.box)]] (.d (.b r)):=by
 unfold Cq at h
 refine Fn.o1 4 54 Tryz.func47 ?_;refine .sr ?_;refine vk (vbx) ?_;refine vk (vbx) ?_;refine ar [2,3,4] ?_;refine .seq ?_;refine .seq ?_
 obtain ⟨z1,hz,h⟩:=bnd h
 refine AW.mr (σ:=Unit) (fun _=>True) (fun _=>[(2,.d (.ptr [.i .u8 a0.kind,.b a0.num.1,.sl (L a0.num.2.1),.sl (L a0.num.2.2),.i .i32 a0.char,.sl (Ars a0.box)])),(3,.d (.ptr [.i .u8 a1.kind,.b a1.num.1,.sl (L a1.num.2.1),.sl (L a1.num.2.2),.i .i32 a1.char,.sl (Ars a1.box)])),(4,.d (.b false)),(34,.d (.b z1))]) (fun _=>[]) ?_ ?_
 ·skip
  refine .region ?_;refine vk (vfa Ds) ?_;refine vk (Ah BX) ?_;refine vk (vfa Ds) ?_;refine vk (Ah BX) ?_;refine vk (vbi) ?_
  rcases brc hz with ⟨hc,hz⟩|⟨hc,hz⟩
  ·have hb0:(!(decide (a0.kind=a1.kind)))=false:=(ntf (dT hc))
   refine vk (VOK.lit (Aa) hb0) ?_;refine vk (vfa Eg) ?_;refine vk (Ah Ek) ?_;refine vk (vfa Eg) ?_;refine vk (Ah Ek) ?_;refine vk (vbi) ?_;refine vk (An) ?_
   rcases brc hz with ⟨hc,hz⟩|⟨hc,hz⟩
   ·have hb1:(!(decide (a0.char=a1.char)))=false:=(ntf (dT hc))
    refine vk (VOK.lit (Aa) hb1) ?_;refine vk (vfa B9) ?_;refine vk (AH Jx HW) ?_;refine vk (vfa B9) ?_;refine vk (AH Jx HW) ?_
    obtain ⟨x2,g2,hz⟩:=bnd hz
    refine vk (Am (Oe g2) Tryz.call88) ?_;refine vk (vnt) ?_;refine vk (An) ?_
    rcases brc hz with ⟨hc,hz⟩|⟨hc,hz⟩
    ·have hb2:(!x2)=false:=(ntf hc)
     refine vk (VOK.lit (Aa) hb2) ?_;refine vk (vfa Br) ?_;refine vk (Ah C9) ?_;refine vk (AR (Bw _) (EG _) EC) ?_;refine vk (vfa Br) ?_;refine vk (Ah C9) ?_;refine vk (AR (Bw _) (EG _) EC) ?_;refine vk (vbi) ?_;refine vk (An) ?_;refine RL.gk [2,3,4,34] ?_;refine .nil ?_
     cases hz
     exact jr () trivial
    have hb2:(!x2)=true:=(ntt (bf hc))
    refine vk (VOK.lit (Aa) hb2) ?_;refine gf ?_;refine gf ?_;refine gf ?_;refine gf ?_;refine gf ?_;refine gf ?_;refine gf ?_;refine vk (An) ?_;refine RL.gk [2,3,4,34] ?_;refine .nil ?_
    cases hz
    exact jr () trivial
   have hb1:(!(decide (a0.char=a1.char)))=true:=(ntt (dF hc))
   refine vk (VOK.lit (Aa) hb1) ?_;refine gf ?_;refine gf ?_;refine gf ?_;refine gf ?_;refine gf ?_;refine gf ?_;refine vk (An) ?_;refine vk (Aa) ?_;refine gf ?_;refine gf ?_;refine gf ?_;refine gf ?_;refine gf ?_;refine gf ?_;refine gf ?_;refine vk (An) ?_;refine RL.gk [2,3,4,34] ?_;refine .nil ?_
   cases hz
   exact jr () trivial
  have hb0:(!(decide (a0.kind=a1.kind)))=true:=(ntt (dF hc))
  refine vk (VOK.lit (Aa) hb0) ?_;refine gf ?_;refine gf ?_;refine gf ?_;refine gf ?_;refine gf ?_;refine vk (An) ?_;refine vk (Aa) ?_;refine gf ?_;refine gf ?_;refine gf ?_;refine gf ?_;refine gf ?_;refine gf ?_;refine vk (An) ?_;refine vk (Aa) ?_;refine gf ?_;refine gf ?_;refine gf ?_;refine gf ?_;refine gf ?_;refine gf ?_;refine gf ?_;refine vk (An) ?_;refine RL.gk [2,3,4,34] ?_;refine .nil ?_
  cases hz
  exact jr () trivial
 rintro _ _
 rcases brc h with ⟨hc,h⟩|⟨hc,h⟩
 ·refine cnt hc ?_
  refine .sr ?_;refine ar [2,3,4] ?_;refine .ret ?_
  cases h
  exact ⟨rfl,rfl⟩
 refine cnf (bf hc) ?_;refine .skip ?_
 show AW _ _ _ _ _ _
 refine .seq ?_;refine .sr ?_;refine ar [2,3,4,5] ?_
 obtain ⟨K0,hK0,h⟩:=AQ h
 refine AW.mr (σ:=Bool) (fun p=>K0 p=some r) (fun p=>[(4,.d (.b p))]) (fun p=>[]) ?_ ?_
 ·skip
  refine .block ?_
  refine .loop (.gk [2,3,4,5] ?_)
  refine AL.ind (σ:=Nat×Bool×Int) (m:=fun p=>p.1) (e:=fun p=>[(2,.d (.ptr [.i .u8 a0.kind,.b a0.num.1,.sl (L a0.num.2.1),.sl (L a0.num.2.2),.i .i32 a0.char,.sl (Ars a0.box)])),(3,.d (.ptr [.i .u8 a1.kind,.b a1.num.1,.sl (L a1.num.2.1),.sl (L a1.num.2.2),.i .i32 a1.char,.sl (Ars a1.box)])),(4,.d (.b p.2.1)),(5,.d (.i .i64 p.2.2))]) (h:=fun p=>[]) (I:=fun p=>BJ rc_ref03_Same a0 a1 K0 p.1 p.2.1 p.2.2=some r) ?_ (AK,false,0) h
  rintro ⟨k,s4,s5⟩ h ih
  dsimp only at h ih ⊢
  rcases k with _|k
  ·rw [BJ] at h;cases h
  rw [BJ] at h
  refine .seq ?_;refine .sr ?_;refine vk (Aa) ?_;refine vk (vfa Br) ?_;refine vk (Ah C9) ?_;refine vk (AR (Bw _) (EG _) EC) ?_;refine vk (vbi) ?_;refine rk [2,3,4,5,39] ?_
  rcases brc h with ⟨hc,h⟩|⟨hc,h⟩
  ·refine cnt (dT hc) ?_
   refine .skip ?_
   show AW _ _ _ _ _ _
   refine .seq ?_;refine .block ?_;refine .seq ?_;refine .drawn 12 Bb (by kernel_rfl) ?_;refine dv (vfa Br) ?_;refine dv (Ah C9) ?_;refine dv (Aa) ?_
   obtain ⟨x6,g6,h⟩:=bnd h
   obtain ⟨n6,p06,q6⟩:=Ag g6
   refine dv (vix n6 p06 (Fv q6) rfl Fm) ?_;refine dv (AH Ac Ab) ?_;refine dv (vfa Br) ?_;refine dv (Ah C9) ?_;refine dv (Aa) ?_
   obtain ⟨x7,g7,h⟩:=bnd h
   obtain ⟨n7,p07,q7⟩:=Ag g7
   refine dv (vix n7 p07 (Fv q7) rfl Fm) ?_;refine dv (AH Ac Ab) ?_
   obtain ⟨x8,g8,h⟩:=bnd h
   refine dv (Am (orc_ref03_Same _ _ _ g8) Tryz.call14) ?_;refine dv (vnt) ?_;refine dz ?_;refine rk [2,3,4,5,53] ?_
   rcases brc h with ⟨hc,h⟩|⟨hc,h⟩
   ·refine cnf (ntf hc) ?_
    refine .skip ?_
    show AW _ _ _ _ _ _
    refine .region ?_;refine vk (Aa) ?_;refine vk (vbi) ?_;refine asd ?_;refine .nil ?_;refine AL.gk [2,3,4,5] ?_
    exact ih (k,s4,(w64 (s5+1))) h (Nat.lt_succ_self _)
   refine cnt (ntt (bf hc)) ?_;refine .sr ?_;refine ar [2,3,4,5] ?_;refine .ret ?_
   cases h
   exact ⟨rfl,rfl⟩
  refine cnf (dF hc) ?_;refine .gk [4] ?_;refine .exit ?_
  exact jr (s4) h
 rintro z3 h
 try dsimp only at h ⊢
 subst hK0
 show AW _ _ _ _ _ _
 refine .sr ?_;refine ar [4] ?_;refine .ret ?_
 cases h
 exact ⟨rfl,rfl⟩
def CP (a0:Arr) (a1:Arr) (K0:Bool→Option (Bool)) : Nat→Bool→Int→Option (Bool)
 | 0,_,_=>none
 | k+1,s2,s3=>(if s3<((List.length a0.shape:Nat):Int) then ((rd? a0.shape s3).bind fun x4=>((rd? a1.shape s3).bind fun x5=>(if x4=x5 then (CP a0 a1 K0 k s2 (w64 (s3+1))) else (some (false))))) else (K0 s2))
def Ci (rc_ref03_Same:Arr→Arr→Option (Bool)) (a0:Arr) (a1:Arr) (K2:Bool→Option (Bool)) : Nat→Bool→Int→Option (Bool)
 | 0,_,_=>none
 | k+1,s7,s8=>(if s8<((List.length a0.items:Nat):Int) then ((rd? a0.items s8).bind fun x9=>((rd? a1.items s8).bind fun x10=>((Cq rc_ref03_Same x9 x10).bind fun x11=>(if x11=true then (Ci rc_ref03_Same a0 a1 K2 k s7 (w64 (s8+1))) else (some (false)))))) else (K2 s7))
def EL (rc_ref03_Same:Arr→Arr→Option (Bool)) (a0:Arr) (a1:Arr) : Option (Bool):=(if ((!(decide (((List.length a0.shape:Nat) : Int)=((List.length a1.shape:Nat) : Int))))||(!(decide (((List.length a0.items:Nat) : Int)=((List.length a1.items:Nat) : Int)))))=true then (some (false)) else (jn (fun (z1:Bool)=>(jn (fun (z6:Bool)=>(some (true))) fun K2=>(Ci rc_ref03_Same a0 a1 K2 AK z1 0))) fun K0=>(CP a0 a1 K0 AK false 0)))
theorem LN {rc_ref03_Same:Arr→Arr→Option (Bool)} (orc_ref03_Same:∀ x0 x1 r,rc_ref03_Same x0 x1=some r→Fn Tryz.prog 14 [.ag [.sl (Is x0.shape),.sl (Its x0.items)],.ag [.sl (Is x1.shape),.sl (Its x1.items)]] (.d (.b r))) {a0:Arr} {a1:Arr} {r:Bool} (h:EL rc_ref03_Same a0 a1=some r) :
  Fn Tryz.prog 14 [.ag [.sl (Is a0.shape),.sl (Its a0.items)],.ag [.sl (Is a1.shape),.sl (Its a1.items)]] (.d (.b r)):=by
 unfold EL at h
 refine Fn.o1 4 60 Tryz.func14 ?_;refine .sr ?_;refine vk (vbx) ?_;refine vk (vbx) ?_;refine ar [2,3,4] ?_;refine .seq ?_;refine .seq ?_;refine AW.mr (σ:=Unit) (fun _=>True) (fun _=>[(2,.d (.ptr [.sl (Is a0.shape),.sl (Its a0.items)])),(3,.d (.ptr [.sl (Is a1.shape),.sl (Its a1.items)])),(4,.d (.b false)),(22,.d (.b ((!(decide (((List.length a0.shape:Nat):Int)=((List.length a1.shape:Nat):Int))))||(!(decide (((List.length a0.items:Nat):Int)=((List.length a1.items:Nat):Int)))))))]) (fun _=>[]) ?_ ?_
 ·skip
  refine .region ?_;refine vk (vfa Ai) ?_;refine vk (Ah Ax) ?_;refine vk (AR (Ad _) (A0 _) AS) ?_;refine vk (vfa Ai) ?_;refine vk (Ah Ax) ?_;refine vk (AR (Ad _) (A0 _) AS) ?_;refine vk (vbi) ?_
  by_cases hc:((List.length a0.shape:Nat):Int)=((List.length a1.shape:Nat):Int)
  ·have hb0:(!(decide (((List.length a0.shape:Nat):Int)=((List.length a1.shape:Nat):Int))))=false:=(ntf (dT hc))
   refine vk (VOK.lit (Aa) hb0) ?_;refine vk (vfa AD) ?_;refine vk (Ah Bm) ?_;refine vk (AR (Ay _) (CD _) CC) ?_;refine vk (vfa AD) ?_;refine vk (Ah Bm) ?_;refine vk (AR (Ay _) (CD _) CC) ?_;refine vk (vbi) ?_;refine vk (An) ?_;refine RL.gk [2,3,4,22] ?_;refine .nil ?_
   exact jr () trivial (by simp only [hb0];rfl)
  have hb0:(!(decide (((List.length a0.shape:Nat):Int)=((List.length a1.shape:Nat):Int))))=true:=(ntt (dF hc))
  refine vk (VOK.lit (Aa) hb0) ?_;refine gf ?_;refine gf ?_;refine gf ?_;refine gf ?_;refine gf ?_;refine gf ?_;refine gf ?_;refine vk (An) ?_;refine RL.gk [2,3,4,22] ?_;refine .nil ?_
  exact jr () trivial (by simp only [hb0];rfl)
 rintro _ _
 rcases brc h with ⟨hc,h⟩|⟨hc,h⟩
 ·refine cnt hc ?_
  refine .sr ?_;refine ar [2,3,4] ?_;refine .ret ?_
  cases h
  exact ⟨rfl,rfl⟩
 refine cnf (bf hc) ?_;refine .skip ?_
 show AW _ _ _ _ _ _
 refine .seq ?_;refine .sr ?_;refine ar [2,3,4,5] ?_
 obtain ⟨K0,hK0,h⟩:=AQ h
 refine AW.mr (σ:=Bool) (fun p=>K0 p=some r) (fun p=>[(2,.d (.ptr [.sl (Is a0.shape),.sl (Its a0.items)])),(3,.d (.ptr [.sl (Is a1.shape),.sl (Its a1.items)])),(4,.d (.b p))]) (fun p=>[]) ?_ ?_
 ·skip
  refine .block ?_
  refine .loop (.gk [2,3,4,5] ?_)
  refine AL.ind (σ:=Nat×Bool×Int) (m:=fun p=>p.1) (e:=fun p=>[(2,.d (.ptr [.sl (Is a0.shape),.sl (Its a0.items)])),(3,.d (.ptr [.sl (Is a1.shape),.sl (Its a1.items)])),(4,.d (.b p.2.1)),(5,.d (.i .i64 p.2.2))]) (h:=fun p=>[]) (I:=fun p=>CP a0 a1 K0 p.1 p.2.1 p.2.2=some r) ?_ (AK,false,0) h
  rintro ⟨k,s2,s3⟩ h ih
  dsimp only at h ih ⊢
  rcases k with _|k
  ·rw [CP] at h;cases h
  rw [CP] at h
  refine .seq ?_;refine .sr ?_;refine vk (Aa) ?_;refine vk (vfa Ai) ?_;refine vk (Ah Ax) ?_;refine vk (AR (Ad _) (A0 _) AS) ?_;refine vk (vbi) ?_;refine rk [2,3,4,5,27] ?_
  rcases brc h with ⟨hc,h⟩|⟨hc,h⟩
  ·refine cnt (dT hc) ?_
   refine .skip ?_
   show AW _ _ _ _ _ _
   refine .seq ?_;refine .block ?_;refine .seq ?_;refine .drawn 11 Bb (by kernel_rfl) ?_;refine dv (vfa Ai) ?_;refine dv (Ah Ax) ?_;refine dv (Aa) ?_
   obtain ⟨x4,g4,h⟩:=bnd h
   obtain ⟨n4,p04,q4⟩:=Ag g4
   refine dv (vix n4 p04 (AT q4) rfl AJ) ?_;refine dv (Ah Ap) ?_;refine dv (vfa Ai) ?_;refine dv (Ah Ax) ?_;refine dv (Aa) ?_
   obtain ⟨x5,g5,h⟩:=bnd h
   obtain ⟨n5,p05,q5⟩:=Ag g5
   refine dv (vix n5 p05 (AT q5) rfl AJ) ?_;refine dv (Ah Ap) ?_;refine dv (vbi) ?_;refine dz ?_;refine rk [2,3,4,5,40] ?_
   rcases brc h with ⟨hc,h⟩|⟨hc,h⟩
   ·refine cnf (ntf (dT hc)) ?_
    refine .skip ?_
    show AW _ _ _ _ _ _
    refine .region ?_;refine vk (Aa) ?_;refine vk (vbi) ?_;refine asd ?_;refine .nil ?_;refine AL.gk [2,3,4,5] ?_
    exact ih (k,s2,(w64 (s3+1))) h (Nat.lt_succ_self _)
   refine cnt (ntt (dF hc)) ?_;refine .sr ?_;refine ar [2,3,4,5] ?_;refine .ret ?_
   cases h
   exact ⟨rfl,rfl⟩
  refine cnf (dF hc) ?_;refine .gk [2,3,4] ?_;refine .exit ?_
  exact jr (s2) h
 rintro z1 h
 try dsimp only at h ⊢
 subst hK0
 show AW _ _ _ _ _ _
 refine .seq ?_;refine .sr ?_;refine ar [2,3,4,6] ?_
 obtain ⟨K2,hK2,h⟩:=AQ h
 refine AW.mr (σ:=Bool) (fun p=>K2 p=some r) (fun p=>[(4,.d (.b p))]) (fun p=>[]) ?_ ?_
 ·skip
  refine .block ?_
  refine .loop (.gk [2,3,4,6] ?_)
  refine AL.ind (σ:=Nat×Bool×Int) (m:=fun p=>p.1) (e:=fun p=>[(2,.d (.ptr [.sl (Is a0.shape),.sl (Its a0.items)])),(3,.d (.ptr [.sl (Is a1.shape),.sl (Its a1.items)])),(4,.d (.b p.2.1)),(6,.d (.i .i64 p.2.2))]) (h:=fun p=>[]) (I:=fun p=>Ci rc_ref03_Same a0 a1 K2 p.1 p.2.1 p.2.2=some r) ?_ (AK,z1,0) h
  rintro ⟨k,s7,s8⟩ h ih
  dsimp only at h ih ⊢
  rcases k with _|k
  ·rw [Ci] at h;cases h
  rw [Ci] at h
  refine .seq ?_;refine .sr ?_;refine vk (Aa) ?_;refine vk (vfa AD) ?_;refine vk (Ah Bm) ?_;refine vk (AR (Ay _) (CD _) CC) ?_;refine vk (vbi) ?_;refine rk [2,3,4,6,45] ?_
  rcases brc h with ⟨hc,h⟩|⟨hc,h⟩
  ·refine cnt (dT hc) ?_
   refine .skip ?_
   show AW _ _ _ _ _ _
   refine .seq ?_;refine .block ?_;refine .seq ?_;refine .drawn 12 Bb (by kernel_rfl) ?_;refine dv (vfa AD) ?_;refine dv (Ah Bm) ?_;refine dv (Aa) ?_
   obtain ⟨x9,g9,h⟩:=bnd h
   obtain ⟨n9,p09,q9⟩:=Ag g9
   refine dv (vix n9 p09 (C6 q9) rfl C3) ?_;refine dv (AH Bd AG) ?_;refine dv (vfa AD) ?_;refine dv (Ah Bm) ?_;refine dv (Aa) ?_
   obtain ⟨x10,g10,h⟩:=bnd h
   obtain ⟨n10,p010,q10⟩:=Ag g10
   refine dv (vix n10 p010 (C6 q10) rfl C3) ?_;refine dv (AH Bd AG) ?_
   obtain ⟨x11,g11,h⟩:=bnd h
   refine dv (Am (I5 orc_ref03_Same g11) Tryz.call47) ?_;refine dv (vnt) ?_;refine dz ?_;refine rk [2,3,4,6,59] ?_
   rcases brc h with ⟨hc,h⟩|⟨hc,h⟩
   ·refine cnf (ntf hc) ?_
    refine .skip ?_
    show AW _ _ _ _ _ _
    refine .region ?_;refine vk (Aa) ?_;refine vk (vbi) ?_;refine asd ?_;refine .nil ?_;refine AL.gk [2,3,4,6] ?_
    exact ih (k,s7,(w64 (s8+1))) h (Nat.lt_succ_self _)
   refine cnt (ntt (bf hc)) ?_;refine .sr ?_;refine ar [2,3,4,6] ?_;refine .ret ?_
   cases h
   exact ⟨rfl,rfl⟩
  refine cnf (dF hc) ?_;refine .gk [4] ?_;refine .exit ?_
  exact jr (s7) h
 rintro z6 h
 try dsimp only at h ⊢
 subst hK2
 show AW _ _ _ _ _ _
 refine .sr ?_;refine ar [4] ?_;refine .ret ?_
 cases h
 exact ⟨rfl,rfl⟩
def D6 : Nat→Arr→Arr→Option (Bool)
 | 0,_,_=>none
 | k+1,a0,a1=>EL (D6 k) a0 a1
theorem Hx : ∀ (k:Nat) (a0:Arr) (a1:Arr) (r:Bool),D6 k a0 a1=some r→Fn Tryz.prog 14 [.ag [.sl (Is a0.shape),.sl (Its a0.items)],.ag [.sl (Is a1.shape),.sl (Its a1.items)]] (.d (.b r))
 | 0,_,_,_,h=>by cases h
 | k+1,a0,a1,_,h=>LN (Hx k) (show EL (D6 k) a0 a1=some _ from h)
def HR (a0:Arr) (a1:Arr) : Option (Bool):=D6 (a0.size+1) a0 a1
theorem Jc {a0:Arr} {a1:Arr} {r:Bool} (h:HR a0 a1=some r) : Fn Tryz.prog 14 [.ag [.sl (Is a0.shape),.sl (Its a0.items)],.ag [.sl (Is a1.shape),.sl (Its a1.items)]] (.d (.b r)):=Hx _ a0 a1 r h
def Tells (x:Option Bool) (p:Prop) : Prop:=∃ r,x=some r∧(r=true↔p)
theorem Tells.of {x:Option Bool} {p q:Prop} (h:Tells x p) (e:p↔q) : Tells x q:=by
 obtain ⟨r,h1,h2⟩:=h;exact ⟨r,h1,h2.trans e⟩
theorem Tells.yes {x:Option Bool} {p:Prop} (h:Tells x p) (hp:p) : x=some true:=by
 obtain ⟨r,h1,h2⟩:=h;rw [h1,h2.2 hp]
theorem Tells.no {x:Option Bool} {p:Prop} (h:Tells x p) (hp:¬p) : x=some false:=by
 obtain ⟨r,h1,h2⟩:=h
 cases r with
 | true=>exact absurd (h2.1 rfl) hp
 | false=>exact h1
theorem CW {α β:Type} (k:α) (b:α→β) : jn k b=b k:=rfl
theorem Ju {s:List Int} (h:s.length≤17592186044416) : CN s=some s:=by unfold CN;rw [Gk (by simpa using h),List.nil_append]
theorem Jh {r:RT} (h:Jz r=true) : CE r=some r:=by
 have h1:=KM.1 h
 unfold CE
 rw [Jg,if_pos h1.2.2.1,oB,Jg,if_pos h1.2.2.2,oB]
theorem J7 {r:RT} (h:Jz r=true) : Cf r=some (.mk 1 r 0 []):=by
 unfold Cf;rw [Jh h,oB]
theorem J2 {a:Arr} {f:BZ} {h:Itm→Itm} (hf:∀ x∈a.items,f.g x=some (h x)) (K:List Int→List Itm→Option Arr) (hl:a.items.length≤1466015503701) : ∀ (n i k:Nat) (s:List Int) (t:List Itm),n=a.items.length-i→i≤a.items.length→n<k→t.length=i →
  B6 a f K k (i:Int) s t=K s (t++(a.items.drop i).map h)
 | n,i,0,s,t,_,_,h,_=>by omega
 | n,i,k+1,s,t,hn,hi,hk,ht=>by
  rw [B6]
  by_cases hlt:i<a.items.length
  ·rw [if_pos (by omega),CM hlt,oB,hf _ (List.getElem_mem _),oB,Gk (by simp;omega),oB,CS (by omega),
    J2 hf K hl (n-1) (i+1) k s _ (by omega) (by omega) (by omega) (by simp [ht]),lC hlt,List.map_cons,List.append_assoc]
   rfl
  ·rw [if_neg (by omega),List.drop_of_length_le (by omega)];simp
theorem Jk {a:Arr} {f:BZ} {h:Itm→Itm} (hf:∀ x∈a.items,f.g x=some (h x)) (hs:a.shape.length≤17592186044416) (hl:a.items.length≤1466015503701) : Cb a f=some (.mk a.shape (a.items.map h)):=by
 unfold Cb
 rw [Ju hs,oB]
 simp only [jn]
 have:=J2 hf (fun z2 z3=>some (Arr.mk z2 z3)) hl a.items.length 0 AK a.shape [] rfl (Nat.zero_le _) (Ch (by omega)) rfl
 rw [List.drop_zero,show ((0:Nat):Int)=0 from rfl,List.nil_append] at this
 exact this
theorem Lv {rc:Itm→Option Itm} {x:Itm} (hb:∀ a∈x.box,okAr a) (hrc:∀ a∈x.box,∀ y∈a.items,rc y=some y) (K:Int→Bool→List Nat→List Nat→Int→List Arr→Option Itm) (hl:x.box.length≤2932031007402) : ∀ (n i k:Nat) (s1:Int) (s2:Bool) (s3 s4:List Nat) (s5:Int) (t:List Arr),n=x.box.length-i→i≤x.box.length→n<k→t.length=i →
  Dt rc x K k (i:Int) s1 s2 s3 s4 s5 t=K s1 s2 s3 s4 s5 (t++x.box.drop i)
 | n,i,0,s1,s2,s3,s4,s5,t,_,_,h,_=>by omega
 | n,i,k+1,s1,s2,s3,s4,s5,t,hn,hi,hk,ht=>by
  rw [Dt]
  by_cases hlt:i<x.box.length
  ·have hm:=List.getElem_mem hlt
   have ho:=(BN _).1 (hb _ hm)
   have hc:=Jk (a:=x.box[i]) (f:=⟨.fn 33 [] [],fun x=>rc x⟩) (h:=id) (fun y hy=>hrc _ hm y hy) ho.2.1 ho.2.2.1
   rw [List.map_id,Arr.eta] at hc
   rw [if_pos (by omega),CM hlt,oB,hc,oB,Gk (by simp;omega),oB,CS (by omega),
    Lv hb hrc K hl (n-1) (i+1) k s1 s2 s3 s4 s5 _ (by omega) (by omega) (by omega) (by simp [ht]),lC hlt,List.append_assoc]
   rfl
  ·rw [if_neg (by omega),List.drop_of_length_le (by omega)];simp
theorem Mq : ∀ (k:Nat) {x:Itm},x.size<k→okI x→EF k x=some x
 | 0,x,h,_=>by omega
 | k+1,x,h,ho=>by
  have h1:=(ER x).1 ho
  rw [EF,Hc,Jh h1.2.1,oB]
  simp only [jn]
  have:=Lv (rc:=EF k) (x:=x) h1.2.2.2.2 (fun a ha y hy=>Mq k (by have:=HB ha;have:=I7 hy;omega) (((BN a).1 (h1.2.2.2.2 a ha)).2.2.2 y hy))
   (fun z2 z3 z4 z5 z6 z7=>some (Itm.mk z2 (z3,z4,z5) z6 z7)) h1.2.2.2.1 x.box.length 0 AK x.kind x.num.1 x.num.2.1 x.num.2.2 x.char [] rfl (Nat.zero_le _) (Ch (by omega)) rfl
  rw [List.drop_zero,show ((0:Nat):Int)=0 from rfl,List.nil_append] at this
  rw [this]
  exact congrArg some (Itm.eta x)
theorem Mw {x:Itm} (h:okI x) : Gv x=some x:=Mq _ (Nat.lt_succ_self _) h
theorem Nl {a:Arr} (h:okAr a) : Cb a (⟨.fn 33 [] [],fun x=>Gv x⟩ : BZ)=some a:=by
 have ho:=(BN a).1 h
 have:=Jk (a:=a) (f:=⟨.fn 33 [] [],fun x=>Gv x⟩) (h:=id) (fun y hy=>Mw (ho.2.2.2 y hy)) ho.2.1 ho.2.2.1
 rwa [List.map_id,Arr.eta] at this
mutual
def smI : Itm→Prop
 | .mk _ n _ b=>okL 1048576 n.2.1=true∧okL 1048576 n.2.2=true∧smAs b
def smA : Arr→Prop
 | .mk _ i=>smIs i
def smIs : List Itm→Prop
 | []=>True
 | x::xs=>smI x∧smIs xs
def smAs : List Arr→Prop
 | []=>True
 | x::xs=>smA x∧smAs xs
end
theorem Itm.ext_iff' (x y:Itm) : x=y↔x.kind=y.kind∧x.char=y.char∧x.num=y.num∧x.box=y.box:=by
 cases x;cases y;simp only [Itm.mk.injEq,Itm.kind,Itm.char,Itm.num,Itm.box]
 constructor
 ·rintro ⟨a,b,c,d⟩;exact ⟨a,c,b,d⟩
 ·rintro ⟨a,b,c,d⟩;exact ⟨a,c,b,d⟩
theorem Arr.ext_iff' (x y:Arr) : x=y↔x.shape=y.shape∧x.items=y.items:=by cases x;cases y;simp only [Arr.mk.injEq,Arr.shape,Arr.items]
theorem Mf {rc:Arr→Arr→Option Bool} {x y:Itm} (hrc:∀ a∈x.box,∀ b∈y.box,Tells (rc a b) (a=b)) (hab:x.box.length=y.box.length) (K:Bool→Option Bool) (hK:∀ s,K s=some true) (hl:x.box.length≤17592186044416) : ∀ (n i k:Nat) (s:Bool),n=x.box.length-i→i≤x.box.length→n<k →
  Tells (BJ rc x y K k s (i:Int)) (x.box.drop i=y.box.drop i)
 | n,i,0,s,_,_,h=>by omega
 | n,i,k+1,s,hn,hi,hk=>by
  rw [BJ]
  by_cases hlt:i<x.box.length
  ·have hlt2:i<y.box.length:=by omega
   rw [if_pos (by omega),CM hlt,oB,CM hlt2,oB,lC hlt,lC hlt2]
   obtain ⟨r,h1,h2⟩:=hrc _ (List.getElem_mem hlt) _ (List.getElem_mem hlt2)
   rw [h1,oB]
   by_cases hc:r=true
   ·rw [if_pos hc,CS (by omega)]
    refine (Mf hrc hab K hK hl (n-1) (i+1) k s (by omega) (by omega) (by omega)).of ?_
    rw [List.cons.injEq];exact ⟨fun h=>⟨h2.1 hc,h⟩,fun h=>h.2⟩
   ·rw [if_neg hc]
    exact ⟨false,rfl,⟨nofun,fun h=>absurd (h2.2 (List.cons.inj h).1) hc⟩⟩
  ·rw [if_neg (by omega),List.drop_of_length_le (by omega),List.drop_of_length_le (by omega),hK];exact ⟨true,rfl,by simp⟩
theorem Nc {rc:Arr→Arr→Option Bool} {x y:Itm} (hx:okI x) (hrc:∀ a∈x.box,∀ b∈y.box,Tells (rc a b) (a=b)) : Tells (Cq rc x y) (x=y):=by
 have ox:=(ER x).1 hx
 have on:=KM.1 ox.2.1
 unfold Cq
 rw [Itm.ext_iff']
 by_cases h1:x.kind=y.kind
 rotate_left
 ·rw [if_neg h1];exact ⟨false,rfl,by simp [h1]⟩
 rw [if_pos h1]
 by_cases h2:x.char=y.char
 rotate_left
 ·rw [if_neg h2];exact ⟨false,rfl,by simp [h2]⟩
 rw [if_pos h2,Lw,if_pos (by simp [on.2.2.1,on.2.2.2]),oB]
 by_cases h3:x.num=y.num
 rotate_left
 ·rw [if_neg (by simpa using h3)];exact ⟨false,rfl,by simp [h3]⟩
 rw [if_pos (by simpa using h3),oB]
 by_cases h4:x.box.length=y.box.length
 rotate_left
 ·rw [if_pos (by simp;omega)];exact ⟨false,rfl,by simp;intro _ _ _ h;rw [h] at h4;exact h4 rfl⟩
 rw [if_neg (by simp;omega)]
 simp only [jn]
 have:=Mf hrc h4 (fun _=>some true) (fun _=>rfl) (nT ox.2.2.2.1 (by decide)) x.box.length 0 AK false rfl (Nat.zero_le _) (Ch (by omega))
 rw [List.drop_zero,List.drop_zero,show ((0:Nat):Int)=0 from rfl] at this
 exact this.of (by simp [h1,h2,h3])
theorem Me {a b:Arr} (hab:a.shape.length=b.shape.length) (K:Bool→Option Bool) {p:Prop} (hK:∀ s,Tells (K s) p) (hl:a.shape.length≤17592186044416) : ∀ (n i k:Nat) (s:Bool),n=a.shape.length-i→i≤a.shape.length→n<k →
  Tells (CP a b K k s (i:Int)) (a.shape.drop i=b.shape.drop i∧p)
 | n,i,0,s,_,_,h=>by omega
 | n,i,k+1,s,hn,hi,hk=>by
  rw [CP]
  by_cases hlt:i<a.shape.length
  ·have hlt2:i<b.shape.length:=by omega
   rw [if_pos (by omega),CM hlt,oB,CM hlt2,oB,lC hlt,lC hlt2]
   by_cases hc:a.shape[i]=b.shape[i]
   ·rw [if_pos hc,CS (by omega)]
    exact (Me hab K hK hl (n-1) (i+1) k s (by omega) (by omega) (by omega)).of (by rw [List.cons.injEq];exact ⟨fun h=>⟨⟨hc,h.1⟩,h.2⟩,fun h=>⟨h.1.2,h.2⟩⟩)
   ·rw [if_neg hc]
    exact ⟨false,rfl,⟨nofun,fun h=>absurd (List.cons.inj h.1).1 hc⟩⟩
  ·rw [if_neg (by omega),List.drop_of_length_le (by omega),List.drop_of_length_le (by omega)];exact (hK s).of (by simp)
theorem Mo {rc:Arr→Arr→Option Bool} {a b:Arr} (hrc:∀ x∈a.items,∀ y∈b.items,Tells (Cq rc x y) (x=y)) (hab:a.items.length=b.items.length) (K:Bool→Option Bool) (hK:∀ s,K s=some true) (hl:a.items.length≤17592186044416) : ∀ (n i k:Nat) (s:Bool),n=a.items.length-i→i≤a.items.length→n<k →
  Tells (Ci rc a b K k s (i:Int)) (a.items.drop i=b.items.drop i)
 | n,i,0,s,_,_,h=>by omega
 | n,i,k+1,s,hn,hi,hk=>by
  rw [Ci]
  by_cases hlt:i<a.items.length
  ·have hlt2:i<b.items.length:=by omega
   rw [if_pos (by omega),CM hlt,oB,CM hlt2,oB,lC hlt,lC hlt2]
   obtain ⟨r,h1,h2⟩:=hrc _ (List.getElem_mem hlt) _ (List.getElem_mem hlt2)
   rw [h1,oB]
   by_cases hc:r=true
   ·rw [if_pos hc,CS (by omega)]
    refine (Mo hrc hab K hK hl (n-1) (i+1) k s (by omega) (by omega) (by omega)).of ?_
    rw [List.cons.injEq];exact ⟨fun h=>⟨h2.1 hc,h⟩,fun h=>h.2⟩
   ·rw [if_neg hc]
    exact ⟨false,rfl,⟨nofun,fun h=>absurd (h2.2 (List.cons.inj h).1) hc⟩⟩
  ·rw [if_neg (by omega),List.drop_of_length_le (by omega),List.drop_of_length_le (by omega),hK];exact ⟨true,rfl,by simp⟩
theorem RS {rc:Arr→Arr→Option Bool} {a b:Arr} (oa:a.shape.length≤17592186044416∧a.items.length≤1466015503701) (ih:∀ x∈a.items,∀ y∈b.items,Tells (Cq rc x y) (x=y)) : Tells (EL rc a b) (a=b):=by
 rw [EL,Arr.ext_iff']
 by_cases h1:a.shape.length=b.shape.length∧a.items.length=b.items.length
 rotate_left
 ·rw [if_pos (by simp;omega)];exact ⟨false,rfl,by simp;intro e1 e2;exact h1 ⟨by rw [e1],by rw [e2]⟩⟩
 rw [if_neg (by simp;omega)]
 rw [CW]
 have h2:=Me h1.1 (p:=a.items=b.items) (fun z1=>jn (fun (z6:Bool)=>(some (true))) fun K2=>(Ci rc a b K2 AK z1 0)) (fun s=>by
  rw [CW]
  have h3:=Mo ih h1.2 (fun _=>some true) (fun _=>rfl) (nT oa.2 (by decide)) a.items.length 0 AK s rfl (Nat.zero_le _) (Ch (by omega))
  rw [show ((0:Nat):Int)=0 from rfl,List.drop_zero,List.drop_zero] at h3
  exact h3) oa.1 a.shape.length 0 AK false rfl (Nat.zero_le _) (Ch (by omega))
 rw [show ((0:Nat):Int)=0 from rfl,List.drop_zero,List.drop_zero] at h2
 exact h2
theorem L9 : ∀ (k:Nat) {a b:Arr},a.size<k→okAr a→Tells (D6 k a b) (a=b)
 | 0,a,b,h,_=>by omega
 | k+1,a,b,h,ha=>by
  have oa:=(BN a).1 ha
  rw [D6]
  exact RS ⟨oa.2.1,oa.2.2.1⟩ fun x hx y hy=>Nc (oa.2.2.2 x hx) fun p hp q hq =>
   L9 k (by have:=I7 hx;have:p.size<x.size:=HB hp;omega) (((ER x).1 (oa.2.2.2 x hx)).2.2.2.2 p hp)
theorem Tq {a b:Arr} (ha:okAr a) : Tells (HR a b) (a=b):=L9 _ (Nat.lt_succ_self _) ha
section
variable {S:Type} (step:Itm→S→Option (Bool×S))
def Ks : List Itm→S→Int→Option (Int×S)
 | [],s,_=>some (-1,s)
 | x::xs,s,i=>(step x s).bind fun r=>if r.1=true then some (i,r.2) else Ks xs r.2 (i+1)
end
theorem UW {z:Int} (h1:-9223372036854775808≤z) (h2:z≤9223372036854775807) : w64 z=z:=by
 simp only [w64,IntKind.wrap,IntKind.bits,IntKind.signed];simp;omega
abbrev dvI (x:Itm) : DV:=.ag [.i .u8 x.kind,.b x.num.1,.sl (L x.num.2.1),.sl (L x.num.2.2),.i .i32 x.char,.sl (Ars x.box)]
abbrev dvA (x:Arr) : DV:=.ag [.sl (Is x.shape),.sl (Its x.items)]
set_option maxRecDepth 10000 in
theorem M8 {S:Type} {step:Itm→S→Option (Bool×S)} {st:S→Af→Prop} {f:FuncId} {caps:List AV} (hcall:∀ args w,(callFunc f args).run Tryz.prog w=.ok (.enter f args) w) (hnc:noOwnL caps=true)
  (hstep:∀ (x:Itm) s r H,st s H→step x s=some r→FnR Tryz.prog f (.d (dvI x)::caps) H fun v H'=>v=.d (.b r.1)∧st r.2 H')
  {xs:List Itm} {s:S} {r:Int×S} (hl:xs.length≤9223372036854775806) (h:Ks step xs s 0=some r) {H:Af} (hs:st s H) :
  FnR Tryz.prog 66 [.d (.sl (Its xs)),.fn f [] caps] H fun v H'=>v=.d (.i .i64 r.1)∧st r.2 H':=by
 have hfn:noOwn (.fn f [] caps)=true:=by simp [noOwn,noOwnL,hnc]
 refine FnR.of (rs:=[.tmp 4]) 19 Tryz.func66 rfl rfl rfl (by simp) ?_;refine .sr ?_;refine asd ?_;refine rn ?_;refine .seq ?_;refine .sr ?_;refine vk (Aa) ?_;refine vk (AR (Ay _) (CD _) CC) ?_;refine vk (Aa) ?_;refine rn ?_;refine .block ?_
 refine .loop (.gh (Gh.keep [0,1,7,8] rfl) ?_)
 refine AL.ind (σ:=Nat×S×Af) (m:=fun p=>xs.length-p.1) (e:=fun p=>[(0,.d (.sl (Its xs))),(1,.fn f [] caps),(7,.d (.i .i64 ((List.length xs:Nat):Int))),(8,.d (.i .i64 ((p.1:Nat):Int)))]) (h:=fun p=>p.2.2)
  (I:=fun p=>p.1≤xs.length∧st p.2.1 p.2.2∧Ks step (xs.drop p.1) p.2.1 (p.1:Int)=some r) ?_ (0,s,H) ⟨Nat.zero_le _,hs,h⟩
 rintro ⟨i,s,H⟩ ⟨hi,hs,h⟩ ih
 dsimp only at hi hs h ih ⊢
 refine .sr ?_;refine vk (vbi) ?_;refine rn ?_;refine .seq ?_
 by_cases hc:((i:Nat):Int)<((List.length xs:Nat):Int)
 ·refine cnt (dT hc) ?_
  have hlt:i<xs.length:=by omega
  rw [lC hlt,Ks] at h
  obtain ⟨z,hz,h⟩:=bnd h
  refine .skip ?_
  show AW _ _ _ _ _ _
  refine .seq ?_;refine .block ?_;refine .sr ?_;refine vk (Aa) ?_;refine asd ?_;refine rn ?_;refine .sr ?_;refine vk (U4 (av:=.fn f [] caps) (hn:=hfn)) ?_;refine vk (Aa) ?_;refine vk (Aa) ?_;refine vk (vix i rfl (C6 (lG hlt)) rfl C3) ?_;refine vk (AH Bd AG) ?_
  refine VE (avs:=[.d (dvI xs[i])]) (hstep _ _ _ _ hs hz) hcall (fun v H' hp=>?_) (hnc:=hnc)
  obtain ⟨rfl,hs'⟩:=hp
  refine rn ?_
  by_cases hc:z.1=true
  ·refine cnt hc ?_
   rw [if_pos hc] at h
   cases h
   refine .sr ?_;refine vk (Aa) ?_;refine asd ?_;refine rn ?_;refine .ret ?_
   exact ⟨_,⟨rfl,rfl⟩,rfl,hs'⟩
  refine cnf (bf hc) ?_
  rw [if_neg hc] at h
  refine .skip ?_
  show AW _ _ _ _ _ _
  refine .region ?_;refine vk (vbi) ?_;refine vk (Aa) ?_;refine .nil ?_
  have hw:IntKind.wrap .i64 ((i:Int)+1)=((i+1:Nat):Int):=by rw [show IntKind.wrap .i64 ((i:Int)+1)=(i:Int)+1 from UW (by omega) (by omega)];omega
  rw [hw]
  refine AL.gh (Gh.keep [0,1,7,8] rfl) ?_
  exact ih (i+1,z.2,H') ⟨hlt,hs',by rw [← h];simp⟩ (by dsimp only;omega)
 ·refine cnf (dF hc) ?_
  have:i=xs.length:=by omega
  subst this
  rw [List.drop_length,Ks] at h
  cases h
  refine .exit ?_
  show AW _ _ _ _ _ _
  refine .sr ?_;refine asd ?_;refine rn ?_;refine .ret ?_
  exact ⟨_,⟨rfl,rfl⟩,rfl,hs⟩
theorem GX {S:Type} {step:Itm→S→Option (Bool×S)} {st:S→Af→Prop} {f:FuncId} {caps:List AV} (hcall:∀ args w,(callFunc f args).run Tryz.prog w=.ok (.enter f args) w) (hnc:noOwnL caps=true)
  (hstep:∀ (x:Itm) s r H,st s H→step x s=some r→FnR Tryz.prog f (.d (dvI x)::caps) H fun v H'=>v=.d (.b r.1)∧st r.2 H')
  {xs:List Itm} {s:S} {r:Int×S} (hl:xs.length≤9223372036854775806) (h:Ks step xs s 0=some r) {H:Af} (hs:st s H) :
  FnR Tryz.prog 27 [.d (.sl (Its xs)),.fn f [] caps] H fun v H'=>v=.d (.b (decide (0≤r.1)))∧st r.2 H':=by
 have hfn:noOwn (.fn f [] caps)=true:=by simp [noOwn,noOwnL,hnc]
 refine FnR.of (rs:=[.tmp 4]) 9 Tryz.func27 rfl rfl rfl (by simp) ?_;refine .sr ?_;refine asd ?_;refine rn ?_;refine .sr ?_;refine vk (Aa) ?_;refine vk (U4 (av:=.fn f [] caps) (hn:=hfn)) ?_
 refine clR (avs:=[.d (.sl (Its xs)),.fn f [] caps]) (M8 hcall hnc hstep hl h hs) Tryz.call66 (fun v H' hp=>?_) (ha:=by simp [argsA,lk,get,hfn,A3,noOwn])
 obtain ⟨rfl,hs'⟩:=hp
 refine vk (vbi) ?_;refine asd ?_;refine rn ?_;refine .ret ?_
 exact ⟨_,⟨rfl,rfl⟩,rfl,hs'⟩
abbrev M3:=Bool×Int×Int
abbrev EB (c d:Int) : HO:=.box [.d (.i .i64 c),.d (.i .i64 d)]
def Upd (H:Af) (id:Nat) (o:HO) (H':Af) : Prop:=H'[id]?=some o∧H.length≤H'.length∧∀ j,j≠id→j<H.length→H'[j]?=H[j]?
theorem Upd.same {H:Af} {id:Nat} {o:HO} (h:H[id]?=some o) : Upd H id o H:=⟨h,Nat.le_refl _,fun _ _ _=>rfl⟩
theorem Upd.trans {H H' H'':Af} {id:Nat} {o o':HO} (h:Upd H id o H') (k:Upd H' id o' H'') : Upd H id o' H'' :=
 ⟨k.1,nT h.2.1 k.2.1,fun j h1 h2=>(k.2.2 j h1 (nL h2 h.2.1)).trans (h.2.2 j h1 h2)⟩
def PE (id:Nat) (r:M3) (H:Af) : AV→Af→Prop:=fun v H'=>v=.d (.b r.1)∧Upd H id (EB r.2.1 r.2.2) H'
theorem PE.refl {id:Nat} {b:Bool} {c d:Int} {H:Af} (h:H[id]?=some (EB c d)) : PE id (b,c,d) H (.d (.b b)) H:=⟨rfl,.same h⟩
def OA (rc:Arr→Int→Int→Int→Option M3) : Prop:=∀ (a:Arr) (deep c d:Int) (r:M3),rc a deep c d=some r→∀ (H:Af) (id:Nat),H[id]?=some (EB c d) →
 FnR Tryz.prog 89 [.bp id 0,.d (dvA a),.d (.i .i64 deep)] H (PE id r H)
def Es (a1:Itm) : Bool:=((!a1.num.1)&&((decide (((List.length a1.num.2.1:Nat) : Int)=0))&&(decide (((List.length a1.num.2.2:Nat) : Int)=0))))
def LP (rc:Arr→Int→Int→Int→Option M3) (a1:Itm) (a2 c d:Int) : Option M3:=(if a1.kind=1 then ((I9 a1.num).bind fun x1=>(some ((x1&&((decide (a1.char=0))&&(decide (((List.length a1.box:Nat) : Int)=0)))),c,d))) else (if a1.kind=2 then ((E8 a1.char).bind fun x2=>(some ((x2&&(Es a1&&(decide (((List.length a1.box:Nat) : Int)=0)))),c,d))) else (if a1.kind=3 then (if ((List.length a1.box:Nat) : Int)=1 then (if Es a1=true then (if a1.char=0 then ((rd? a1.box 0).bind fun x4=>((CY x4).bind fun x5=>(if x5=true then (some (false,c,d)) else ((rd? a1.box 0).bind fun x6=>((rc x6 a2 c d).bind fun x7=>(some x7)))))) else (some (false,c,d))) else (some (false,c,d))) else (some (false,c,d))) else (some (false,c,d)))))
set_option maxHeartbeats 4000000 in
theorem Hm {rc:Arr→Int→Int→Int→Option M3} (orc:OA rc) {a1:Itm} {a2 c d:Int} {r:M3} (h:LP rc a1 a2 c d=some r) {H:Af} {id:Nat} (hH:H[id]?=some (EB c d)) :
  FnR Tryz.prog 67 [.bp id 0,.d (dvI a1),.d (.i .i64 a2)] H (PE id r H):=by
 unfold LP Es at h
 refine FnR.of (rs:=[.tmp 6]) 89 Tryz.func67 rfl rfl rfl (by simp) ?_;refine .sr ?_;refine vk (vbx) ?_;refine asd ?_;refine rn ?_;refine .gh (Gh.keep [0,2,4,6] rfl) ?_;refine .seq ?_;refine AW.mr (σ:=Unit) (fun _=>True) (fun _=>[(0,.bp id 0),(2,.d (.i .i64 a2)),(4,.d (.ptr [.i .u8 a1.kind,.b a1.num.1,.sl (L a1.num.2.1),.sl (L a1.num.2.2),.i .i32 a1.char,.sl (Ars a1.box)])),(6,.d (.b false)),(7,.d (.b ((!a1.num.1)&&((decide (((List.length a1.num.2.1:Nat):Int)=0))&&(decide (((List.length a1.num.2.2:Nat):Int)=0))))))]) (fun _=>H) ?_ ?_
 ·skip
  refine .region ?_;refine vk (vfa B9) ?_;refine vk (vfa Gs) ?_;refine vk (Ah EQ) ?_;refine vk (vnt) ?_
  by_cases hc:a1.num.1=true
  ·have hb0:(!a1.num.1)=false:=(ntf hc)
   refine vk (VOK.lit (Aa) hb0) ?_;refine gf ?_;refine gf ?_;refine gf ?_;refine gf ?_;refine gf ?_;refine vk (An) ?_;refine vk (Aa) ?_;refine gf ?_;refine gf ?_;refine gf ?_;refine gf ?_;refine gf ?_;refine vk (An) ?_;refine asd ?_;refine RL.gh (Gh.keep [0,2,4,6,7] rfl) ?_;refine .nil ?_
   exact jr () trivial (by simp only [hb0];rfl)
  have hb0:(!a1.num.1)=true:=(ntt (bf hc))
  refine vk (VOK.lit (Aa) hb0) ?_;refine vk (vfa B9) ?_;refine vk (vfa GF) ?_;refine vk (Ah Ip) ?_;refine vk (AR (Ae _) (Dh _) Vu) ?_;refine vk (vbi) ?_;refine vk (An) ?_
  by_cases hc:((List.length a1.num.2.1:Nat):Int)=0
  ·have hb1:(decide (((List.length a1.num.2.1:Nat):Int)=0))=true:=(dT hc)
   refine vk (VOK.lit (Aa) hb1) ?_;refine vk (vfa B9) ?_;refine vk (vfa Hd) ?_;refine vk (Ah Ip) ?_;refine vk (AR (Ae _) (Dh _) Vu) ?_;refine vk (vbi) ?_;refine vk (An) ?_;refine asd ?_;refine RL.gh (Gh.keep [0,2,4,6,7] rfl) ?_;refine .nil ?_
   exact jr () trivial (by simp only [hb0,hb1];rfl)
  have hb1:(decide (((List.length a1.num.2.1:Nat):Int)=0))=false:=(dF hc)
  refine vk (VOK.lit (Aa) hb1) ?_;refine gf ?_;refine gf ?_;refine gf ?_;refine gf ?_;refine gf ?_;refine vk (An) ?_;refine asd ?_;refine RL.gh (Gh.keep [0,2,4,6,7] rfl) ?_;refine .nil ?_
  exact jr () trivial (by simp only [hb0,hb1];rfl)
 rintro _ _
 refine .seq ?_;refine .sr ?_;refine vk (vfa Ds) ?_;refine vk (Ah BX) ?_;refine rn ?_;refine .gh (Gh.keep [0,2,4,6,7,27] rfl) ?_;refine .block ?_;refine .sr ?_;refine vk (vbi) ?_;refine asd ?_;refine rn ?_;refine .gh (Gh.keep [0,2,4,6,7,27,28] rfl) ?_
 rcases brc h with ⟨hc,h⟩|⟨hc,h⟩
 ·refine cnt (dT hc) ?_
  refine .seq ?_
  obtain ⟨x1,hx1,h⟩:=bnd h
  refine AW.mr (σ:=Unit) (fun _=>True) (fun _=>[(6,.d (.b (x1&&((decide (a1.char=0))&&(decide (((List.length a1.box:Nat):Int)=0))))))]) (fun _=>H) ?_ ?_
  ·skip
   refine .region ?_;refine vk (vfa B9) ?_;refine vk (AH Jx HW) ?_;refine vk (Am (JW hx1) Tryz.call117) ?_
   by_cases hc:x1=true
   ·have hb0:x1=true:=hc
    refine vk (VOK.lit (Aa) hb0) ?_;refine vk (vfa Eg) ?_;refine vk (Ah Ek) ?_;refine vk (vbi) ?_;refine vk (An) ?_
    by_cases hc:a1.char=0
    ·have hb1:(decide (a1.char=0))=true:=(dT hc)
     refine vk (VOK.lit (Aa) hb1) ?_;refine vk (vfa Br) ?_;refine vk (Ah C9) ?_;refine vk (AR (Bw _) (EG _) EC) ?_;refine vk (vbi) ?_;refine vk (An) ?_;refine asd ?_;refine RL.gh (Gh.keep [6] rfl) ?_;refine .nil ?_
     exact jr () trivial (by simp only [hb0,hb1];rfl)
    have hb1:(decide (a1.char=0))=false:=(dF hc)
    refine vk (VOK.lit (Aa) hb1) ?_;refine gf ?_;refine gf ?_;refine gf ?_;refine gf ?_;refine vk (An) ?_;refine asd ?_;refine RL.gh (Gh.keep [6] rfl) ?_;refine .nil ?_
    exact jr () trivial (by simp only [hb0,hb1];rfl)
   have hb0:x1=false:=(bf hc)
   refine vk (VOK.lit (Aa) hb0) ?_;refine gf ?_;refine gf ?_;refine gf ?_;refine vk (An) ?_;refine vk (Aa) ?_;refine gf ?_;refine gf ?_;refine gf ?_;refine gf ?_;refine vk (An) ?_;refine asd ?_;refine RL.gh (Gh.keep [6] rfl) ?_;refine .nil ?_
   exact jr () trivial (by simp only [hb0];rfl)
  rintro _ _
  refine .ret ?_
  cases h
  exact ⟨_,⟨rfl,rfl⟩,.refl hH⟩
 refine cnf (dF hc) ?_;refine .sr ?_;refine vk (vbi) ?_;refine asd ?_;refine rn ?_;refine .gh (Gh.keep [0,2,4,6,7,27,44] rfl) ?_
 rcases brc h with ⟨hc,h⟩|⟨hc,h⟩
 ·refine cnt (dT hc) ?_
  refine .seq ?_
  obtain ⟨x2,hx2,h⟩:=bnd h
  refine AW.mr (σ:=Unit) (fun _=>True) (fun _=>[(6,.d (.b (x2&&(((!a1.num.1)&&((decide (((List.length a1.num.2.1:Nat):Int)=0))&&(decide (((List.length a1.num.2.2:Nat):Int)=0))))&&(decide (((List.length a1.box:Nat):Int)=0))))))]) (fun _=>H) ?_ ?_
  ·skip
   refine .region ?_;refine vk (vfa Eg) ?_;refine vk (Ah Ek) ?_;refine vk (Am (Kj hx2) Tryz.call118) ?_
   by_cases hc:x2=true
   ·have hb0:x2=true:=hc
    refine vk (VOK.lit (Aa) hb0) ?_;refine vk (Aa) ?_;refine vk (An) ?_
    by_cases hc:((!a1.num.1)&&((decide (((List.length a1.num.2.1:Nat):Int)=0))&&(decide (((List.length a1.num.2.2:Nat):Int)=0))))=true
    ·have hb1:((!a1.num.1)&&((decide (((List.length a1.num.2.1:Nat):Int)=0))&&(decide (((List.length a1.num.2.2:Nat):Int)=0))))=true:=hc
     refine vk (VOK.lit (Aa) hb1) ?_;refine vk (vfa Br) ?_;refine vk (Ah C9) ?_;refine vk (AR (Bw _) (EG _) EC) ?_;refine vk (vbi) ?_;refine vk (An) ?_;refine asd ?_;refine RL.gh (Gh.keep [6] rfl) ?_;refine .nil ?_
     exact jr () trivial (by simp only [hb0,hb1];rfl)
    have hb1:((!a1.num.1)&&((decide (((List.length a1.num.2.1:Nat):Int)=0))&&(decide (((List.length a1.num.2.2:Nat):Int)=0))))=false:=(bf hc)
    refine vk (VOK.lit (Aa) hb1) ?_;refine gf ?_;refine gf ?_;refine gf ?_;refine gf ?_;refine vk (An) ?_;refine asd ?_;refine RL.gh (Gh.keep [6] rfl) ?_;refine .nil ?_
    exact jr () trivial (by simp only [hb0,hb1];rfl)
   have hb0:x2=false:=(bf hc)
   refine vk (VOK.lit (Aa) hb0) ?_;refine gf ?_;refine vk (An) ?_;refine vk (Aa) ?_;refine gf ?_;refine gf ?_;refine gf ?_;refine gf ?_;refine vk (An) ?_;refine asd ?_;refine RL.gh (Gh.keep [6] rfl) ?_;refine .nil ?_
   exact jr () trivial (by simp only [hb0];rfl)
  rintro _ _
  refine .ret ?_
  cases h
  exact ⟨_,⟨rfl,rfl⟩,.refl hH⟩
 refine cnf (dF hc) ?_;refine .sr ?_;refine vk (vbi) ?_;refine asd ?_;refine rn ?_;refine .gh (Gh.keep [0,2,4,6,7,58] rfl) ?_
 rcases brc h with ⟨hc,h⟩|⟨hc,h⟩
 ·refine cnt (dT hc) ?_
  refine .seq ?_
  ·skip
   refine .region ?_;refine vk (vfa Br) ?_;refine vk (Ah C9) ?_;refine vk (AR (Bw _) (EG _) EC) ?_;refine vk (vbi) ?_
   rcases brc h with ⟨hc,h⟩|⟨hc,h⟩
   ·have hb0:(decide (((List.length a1.box:Nat):Int)=1))=true:=(dT hc)
    refine vk (VOK.lit (Aa) hb0) ?_;refine vk (Aa) ?_;refine vk (An) ?_
    rcases brc h with ⟨hc,h⟩|⟨hc,h⟩
    ·have hb1:((!a1.num.1)&&((decide (((List.length a1.num.2.1:Nat):Int)=0))&&(decide (((List.length a1.num.2.2:Nat):Int)=0))))=true:=hc
     refine vk (VOK.lit (Aa) hb1) ?_;refine vk (vfa Eg) ?_;refine vk (Ah Ek) ?_;refine vk (vbi) ?_;refine vk (An) ?_
     rcases brc h with ⟨hc,h⟩|⟨hc,h⟩
     ·have hb2:(decide (a1.char=0))=true:=(dT hc)
      refine vk (VOK.lit (Aa) hb2) ?_;refine vk (vfa Br) ?_;refine vk (Ah C9) ?_
      obtain ⟨x4,hx4,h⟩:=bnd h
      obtain ⟨nx4,hnx4,hxx4⟩:=Ag hx4
      refine vk (vix nx4 hnx4 (Fv hxx4) rfl Fm) ?_;refine vk (AH Ac Ab) ?_
      obtain ⟨x5,hx5,h⟩:=bnd h
      refine vk (Am (FQ hx5) Tryz.call119) ?_;refine vk (vnt) ?_;refine vk (An) ?_
      rcases brc h with ⟨hc,h⟩|⟨hc,h⟩
      ·have hb3:(!x5)=false:=(ntf hc)
       refine vk (VOK.lit (Aa) hb3) ?_;refine gf ?_;refine gf ?_;refine gf ?_;refine gf ?_;refine gf ?_;refine gf ?_;refine gf ?_;refine vk (An) ?_;refine asd ?_;refine rn ?_;refine .gh (Gh.keep [6] rfl) ?_;refine .ret ?_
       cases h
       exact ⟨_,⟨rfl,rfl⟩,.refl hH⟩
      have hb3:(!x5)=true:=(ntt (bf hc))
      refine vk (VOK.lit (Aa) hb3) ?_;refine vk (U4 (av:=.bp id 0)) ?_;refine vk (vfa Br) ?_;refine vk (Ah C9) ?_
      obtain ⟨x6,hx6,h⟩:=bnd h
      obtain ⟨nx6,hnx6,hxx6⟩:=Ag hx6
      refine vk (vix nx6 hnx6 (Fv hxx6) rfl Fm) ?_;refine vk (AH Ac Ab) ?_;refine vk (Aa) ?_
      obtain ⟨x7,hx7,h⟩:=bnd h
      refine clR (avs:=[.bp id 0,.d (dvA x6),.d (.i .i64 a2)]) (orc x6 a2 c d x7 hx7 H id hH) Tryz.call89 (fun v H' hp=>?_)
      obtain ⟨rfl,hp⟩:=hp
      refine vk (An) ?_;refine asd ?_;refine rn ?_;refine .gh (Gh.keep [6] rfl) ?_;refine .ret ?_
      cases h
      exact ⟨_,⟨rfl,rfl⟩,rfl,hp⟩
     have hb2:(decide (a1.char=0))=false:=(dF hc)
     refine vk (VOK.lit (Aa) hb2) ?_;refine gf ?_;refine gf ?_;refine gf ?_;refine gf ?_;refine gf ?_;refine gf ?_;refine vk (An) ?_;refine vk (Aa) ?_;refine gf ?_;refine gf ?_;refine gf ?_;refine gf ?_;refine gf ?_;refine gf ?_;refine gf ?_;refine vk (An) ?_;refine asd ?_;refine rn ?_;refine .gh (Gh.keep [6] rfl) ?_;refine .ret ?_
     cases h
     exact ⟨_,⟨rfl,rfl⟩,.refl hH⟩
    have hb1:((!a1.num.1)&&((decide (((List.length a1.num.2.1:Nat):Int)=0))&&(decide (((List.length a1.num.2.2:Nat):Int)=0))))=false:=(bf hc)
    refine vk (VOK.lit (Aa) hb1) ?_;refine gf ?_;refine gf ?_;refine gf ?_;refine vk (An) ?_;refine vk (Aa) ?_;refine gf ?_;refine gf ?_;refine gf ?_;refine gf ?_;refine gf ?_;refine gf ?_;refine vk (An) ?_;refine vk (Aa) ?_;refine gf ?_;refine gf ?_;refine gf ?_;refine gf ?_;refine gf ?_;refine gf ?_;refine gf ?_;refine vk (An) ?_;refine asd ?_;refine rn ?_;refine .gh (Gh.keep [6] rfl) ?_;refine .ret ?_
    cases h
    exact ⟨_,⟨rfl,rfl⟩,.refl hH⟩
   have hb0:(decide (((List.length a1.box:Nat):Int)=1))=false:=(dF hc)
   refine vk (VOK.lit (Aa) hb0) ?_;refine gf ?_;refine vk (An) ?_;refine vk (Aa) ?_;refine gf ?_;refine gf ?_;refine gf ?_;refine vk (An) ?_;refine vk (Aa) ?_;refine gf ?_;refine gf ?_;refine gf ?_;refine gf ?_;refine gf ?_;refine gf ?_;refine vk (An) ?_;refine vk (Aa) ?_;refine gf ?_;refine gf ?_;refine gf ?_;refine gf ?_;refine gf ?_;refine gf ?_;refine gf ?_;refine vk (An) ?_;refine asd ?_;refine rn ?_;refine .gh (Gh.keep [6] rfl) ?_;refine .ret ?_
   cases h
   exact ⟨_,⟨rfl,rfl⟩,.refl hH⟩
 refine cnf (dF hc) ?_;refine .skip ?_
 show AW _ _ _ _ _ _
 refine .sr ?_;refine asd ?_;refine rn ?_;refine .gh (Gh.keep [6] rfl) ?_;refine .ret ?_
 cases h
 exact ⟨_,⟨rfl,rfl⟩,.refl hH⟩
def IT (rc:Arr→Int→Int→Int→Option M3) (deep:Int) : List Itm→Int→Int→Option M3
 | [],c,d=>some (true,c,d)
 | x::xs,c,d=>(LP rc x deep c d).bind fun z=>if z.1=true then IT rc deep xs z.2.1 z.2.2 else some (false,z.2.1,z.2.2)
def Od (rc:Arr→Int→Int→Int→Option M3) (deep:Int) (x:Itm) (s:Int×Int) : Option (Bool×(Int×Int)):=(LP rc x deep s.1 s.2).map fun z=>(!z.1,z.2)
theorem N3 {rc:Arr→Int→Int→Int→Option M3} {deep:Int} : ∀ {xs:List Itm} {c d:Int} {z:M3} {i:Int},0≤i→IT rc deep xs c d=some z→∃ n,Ks (Od rc deep) xs (c,d) i=some (n,z.2)∧(!decide (0≤n))=z.1
 | [],c,d,z,i,_,h=>by cases h;exact ⟨-1,rfl,rfl⟩
 | x::xs,c,d,z,i,hi,h=>by
  rw [IT] at h
  obtain ⟨y,hy,h⟩:=bnd h
  have hs:Od rc deep x (c,d)=some (!y.1,y.2):=by simp [Od,hy]
  by_cases hc:y.1=true
  ·rw [if_pos hc] at h
   obtain ⟨n,h1,h2⟩:=N3 (i:=i+1) (by omega) h
   refine ⟨n,?_,h2⟩
   rw [Ks,hs,oB,if_neg (by simp [hc])];exact h1
  ·rw [if_neg hc] at h
   cases h
   refine ⟨i,?_,by simp [hi]⟩
   rw [Ks,hs,oB,if_pos (by simp [hc])]
theorem JI {rc:Arr→Int→Int→Int→Option M3} (orc:OA rc) {x:Itm} {deep c d:Int} {z:M3} (h:LP rc x deep c d=some z) {H:Af} {id n3 n5:Nat} (hH:H[id]?=some (EB c d)) (h3:H[n3]?=some (.box [.bp id 0])) (h5:H[n5]?=some (.box [.d (.i .i64 deep)])) :
  FnR Tryz.prog 145 [.d (dvI x),.bp n3 0,.bp n5 0] H fun v H'=>v=.d (.b (!z.1))∧Upd H id (EB z.2.1 z.2.2) H':=by
 refine FnR.of (rs:=[.tmp 4]) 10 Tryz.func145 rfl rfl rfl (by simp) ?_;refine .sr ?_;refine vk (vbx) ?_;refine asd ?_;refine rn ?_;refine .sr ?_;refine vk (Mu (cs:=[.bp id 0]) (c:=.bp id 0) h3 rfl (by kernel_rfl)) ?_;refine vk (AH Bd AG) ?_;refine vk (Kr (cs:=[.d (.i .i64 deep)]) (c:=.i .i64 deep) h5 rfl Ap) ?_
 refine clR (avs:=[.bp id 0,.d (dvI x),.d (.i .i64 deep)]) (Hm orc h hH) Tryz.call67 (fun v H' hp=>?_)
 obtain ⟨rfl,hp⟩:=hp
 refine vk (vnt) ?_;refine asd ?_;refine rn ?_;refine .ret ?_
 exact ⟨_,⟨rfl,rfl⟩,rfl,hp⟩
theorem Upd.set_new {H H':Af} {id n:Nat} {o x:HO} (k:Upd H id o H') (h1:H.length≤n) (h2:n≠id) : Upd H id o (H'.set n x) :=
 ⟨by rw [List.getElem?_set_ne h2];exact k.1,by simpa using k.2.1,fun j h3 h4=>by rw [List.getElem?_set_ne (by omega)];exact k.2.2 j h3 h4⟩
theorem Upd.set_id {H H':Af} {id:Nat} {o o':HO} (k:Upd H id o H') : Upd H id o' (H'.set id o') :=
 ⟨List.getElem?_set_self (lS.1 k.1).1,by simpa using k.2.1,fun j h3 h4=>by rw [List.getElem?_set_ne (Ne.symm h3)];exact k.2.2 j h3 h4⟩
def Rp (rc:Arr→Int→Int→Int→Option M3) (a:Arr) (deep c d:Int) : Option M3 :=
 (B5 a.shape).bind fun x1 =>
  if x1.2=0 then
   if ((List.length a.items:Nat):Int)=(if x1.1<1 then 1 else x1.1) then
    if 16384<w64 (c+((List.length a.items:Nat):Int)) then some (false,w64 (c+((List.length a.items:Nat):Int)),d) else
    (CY a).bind fun sm =>
     if sm=true then (if deep≤16 then IT rc deep a.items (w64 (c+((List.length a.items:Nat):Int))) d else some (false,w64 (c+((List.length a.items:Nat):Int)),d))
     else (if w64 (deep+1)≤16 then IT rc (w64 (deep+1)) a.items (w64 (c+((List.length a.items:Nat):Int))) (if d<w64 (deep+1) then w64 (deep+1) else d) else some (false,w64 (c+((List.length a.items:Nat):Int)),(if d<w64 (deep+1) then w64 (deep+1) else d)))
   else some (false,c,d)
  else some (false,c,d)
set_option maxHeartbeats 4000000 in
set_option maxRecDepth 20000 in
theorem Kp {rc:Arr→Int→Int→Int→Option M3} (orc:OA rc) {a:Arr} {deep c d:Int} {r:M3} (hlen:a.items.length≤9223372036854775806) (h:Rp rc a deep c d=some r) {H:Af} {id:Nat} (hH:H[id]?=some (EB c d)) :
  FnR Tryz.prog 89 [.bp id 0,.d (dvA a),.d (.i .i64 deep)] H (PE id r H):=by
 unfold Rp at h
 have hid:id<H.length:=(lS.1 hH).1
 refine FnR.of (rs:=[.tmp 6]) 63 Tryz.func89 rfl rfl rfl (by simp) ?_;refine .sr ?_;refine bxA (c:=.bp id 0) ?_;refine vk (vbx) ?_;refine bxA (c:=.d (.i .i64 deep)) ?_;refine asd ?_
 have f0:Upd H id (EB c d) (H++[.box [.bp id 0]]++[.box [.d (.i .i64 deep)]]):=by
  refine ⟨?_,by simp,fun j h1 h2=>?_⟩
  ·rw [List.append_assoc,List.getElem?_append_left hid];exact hH
  ·rw [List.append_assoc,List.getElem?_append_left h2]
 have f3:(H++[HO.box [AV.bp id 0]]++[.box [.d (.i .i64 deep)]])[H.length]?=some (.box [.bp id 0]):=by simp
 have f5:(H++[HO.box [AV.bp id 0]]++[.box [.d (.i .i64 deep)]])[(H++[HO.box [AV.bp id 0]]).length]?=some (.box [.d (.i .i64 deep)]):=by
  rw [List.getElem?_append_right (Nat.le_refl _)];simp
 have g3:H.length≠id:=by omega
 have g5:(H++[HO.box [AV.bp id 0]]).length≠id:=by simp;omega
 have g5':H.length≤(H++[HO.box [AV.bp id 0]]).length:=by simp
 have g35:H.length≠(H++[HO.box [AV.bp id 0]]).length:=by simp
 have g3':H.length≤H.length:=Nat.le_refl _
 generalize H++[HO.box [AV.bp id 0]]++[.box [.d (.i .i64 deep)]]=H2 at f0 f3 f5 ⊢
 generalize (H++[HO.box [AV.bp id 0]]).length=n5 at f5 g5 g5' g35 ⊢
 obtain ⟨n3,hn3⟩:∃ n3,n3=H.length:=⟨_,rfl⟩
 rw [← hn3] at f3 g3 g35
 rw [← hn3]
 have f1:=f0.1
 refine rn ?_;refine .gh (Gh.keep [3,4,5] rfl) ?_;refine .sr ?_;refine vk (vfa Ai) ?_;refine vk (Ah Ax) ?_
 obtain ⟨x1,hx1,h⟩:=bnd h
 refine vk (VOK.tupd (vs:=[.i .i64 x1.1,.i .i64 x1.2]) (Am (Cm hx1) Tryz.call26)) ?_;refine vk (Aa) ?_;refine vk (vex) ?_;refine vk (vex) ?_;refine asd ?_;refine asd ?_;refine rn ?_;refine .gh (Gh.keep [3,4,5,7,8] rfl) ?_;refine .seq ?_;refine .sr ?_;refine vk (Aa) ?_;refine vk (vbi) ?_
 by_cases hc:x1.2=0
 rotate_left
 ·rw [if_neg hc] at h
  cases h
  refine vk (VOK.lit (Aa) (show (!decide (x1.2=0))=true by simp [hc])) ?_;refine gf ?_;refine gf ?_;refine gf ?_;refine gf ?_;refine gf ?_;refine gf ?_;refine vk (An) ?_;refine rn ?_;refine cnt rfl ?_;refine .sr ?_;refine asd ?_;refine rn ?_;refine .ret ?_
  exact ⟨_,⟨rfl,rfl⟩,rfl,f0⟩
 rw [if_pos hc] at h
 refine vk (VOK.lit (Aa) (show (!decide (x1.2=0))=false by simp [hc])) ?_;refine vk (vfa AD) ?_;refine vk (Ah Bm) ?_;refine vk (AR (Ay _) (CD _) CC) ?_;refine vk (Aa) ?_;refine vk (vmx) ?_;refine vk (vbi) ?_;refine vk (An) ?_;refine rn ?_
 by_cases hc:((List.length a.items:Nat):Int)=(if x1.1<1 then 1 else x1.1)
 rotate_left
 ·rw [if_neg hc] at h
  cases h
  refine cnt (ntt (dF hc)) ?_;refine .sr ?_;refine asd ?_;refine rn ?_;refine .ret ?_
  exact ⟨_,⟨rfl,rfl⟩,rfl,f0⟩
 rw [if_pos hc] at h
 refine cnf (ntf (dT hc)) ?_;refine .skip ?_
 show AW _ _ _ _ _ _
 refine .gh (Gh.keep [3,4,5] rfl) ?_;refine .seq ?_;refine .drawn 10 Bb (by kernel_rfl) ?_;refine dv (Mu (cs:=[.bp id 0]) (c:=.bp id 0) f3 rfl (by kernel_rfl)) ?_;refine dv (RB) ?_;refine dv (DU KD) ?_;refine dv (Kr (cs:=[.d (.i .i64 c),.d (.i .i64 d)]) (c:=.i .i64 c) f1 rfl Ap) ?_;refine dv (vfa AD) ?_;refine dv (Ah Bm) ?_;refine dv (AR (Ay _) (CD _) CC) ?_;refine dv (vbi) ?_;refine dv (RB) ?_;refine dv (DU KD) ?_;refine dz ?_
 refine stb (cs:=[.d (.i .i64 c),.d (.i .i64 d)]) (c:=.d (.i .i64 c)) f1 rfl ?_ B4
 have q0:=f0.set_id (o':=EB (w64 (c+((List.length a.items:Nat):Int))) d)
 have q3:(H2.set id (EB (w64 (c+((List.length a.items:Nat):Int))) d))[n3]?=some (.box [.bp id 0]):=by rw [List.getElem?_set_ne (Ne.symm g3)];exact f3
 have q5:(H2.set id (EB (w64 (c+((List.length a.items:Nat):Int))) d))[n5]?=some (.box [.d (.i .i64 deep)]):=by rw [List.getElem?_set_ne (Ne.symm g5)];exact f5
 refine rn ?_
 change AW _ _ _ _ _ (H2.set id (EB (w64 (c+((List.length a.items:Nat):Int))) d))
 generalize H2.set id (EB (w64 (c+((List.length a.items:Nat):Int))) d)=H3 at q0 q3 q5 ⊢
 generalize w64 (c+((List.length a.items:Nat):Int))=c1 at h q0 ⊢
 have q1:=q0.1
 refine .gh (Gh.keep [3,4,5] rfl) ?_;refine .seq ?_;refine .sr ?_;refine vk (Mu (cs:=[.bp id 0]) (c:=.bp id 0) q3 rfl (by kernel_rfl)) ?_;refine vk (RB) ?_;refine vk (DU KD) ?_;refine vk (Kr (cs:=[.d (.i .i64 c1),.d (.i .i64 d)]) (c:=.i .i64 c1) q1 rfl Ap) ?_;refine vk (vbi) ?_;refine rn ?_
 by_cases hc:16384<c1
 ·rw [if_pos hc] at h
  cases h
  refine cnt (dT hc) ?_;refine .sr ?_;refine asd ?_;refine rn ?_;refine .ret ?_
  exact ⟨_,⟨rfl,rfl⟩,rfl,q0⟩
 rw [if_neg hc] at h
 refine cnf (dF hc) ?_;refine .skip ?_
 show AW _ _ _ _ _ _
 refine .gh (Gh.keep [3,4,5] rfl) ?_;refine .seq ?_
 obtain ⟨sm,hsm,h⟩:=bnd h
 refine .sr ?_;refine vk (AH Ac Ab) ?_;refine vk (Am (FQ hsm) Tryz.call119) ?_;refine vk (vnt) ?_;refine rn ?_
 refine AW.mr (σ:=Af×Int×Int) (fun s=>Upd H id (EB c1 s.2.2) s.1∧s.1[n3]?=some (.box [.bp id 0])∧s.1[n5]?=some (.box [.d (.i .i64 s.2.1)])∧(if s.2.1≤16 then IT rc s.2.1 a.items c1 s.2.2 else some (false,c1,s.2.2))=some r)
  (fun _=>[(3,.bp n3 0),(4,.d (.ptr [.sl (Is a.shape),.sl (Its a.items)])),(5,.bp n5 0)]) (fun s=>s.1) ?_ ?_
 ·by_cases hs:sm=true
  ·rw [if_pos hs] at h
   refine cnf (ntf hs) ?_;refine .gh (Gh.keep [3,4,5] rfl) ?_;refine .skip ?_
   exact jr (H3,deep,d) ⟨q0,q3,q5,h⟩
  rw [if_neg hs] at h
  refine cnt (ntt (bf hs)) ?_;refine .sr ?_;refine vk (Kr (cs:=[.d (.i .i64 deep)]) (c:=.i .i64 deep) q5 rfl Ap) ?_;refine vk (vbi) ?_
  refine stb (cs:=[.d (.i .i64 deep)]) (c:=.d (.i .i64 deep)) q5 rfl ?_ B4
  have p0:=q0.set_new (n:=n5) (x:=.box [.d (.i .i64 (w64 (deep+1)))]) g5' g5
  have p3:(H3.set n5 (.box [.d (.i .i64 (w64 (deep+1)))]))[n3]?=some (.box [.bp id 0]):=by rw [List.getElem?_set_ne (Ne.symm g35)];exact q3
  have p5:(H3.set n5 (.box [.d (.i .i64 (w64 (deep+1)))]))[n5]?=some (.box [.d (.i .i64 (w64 (deep+1)))]):=List.getElem?_set_self (lS.1 q5).1
  refine rn ?_
  change AW _ _ _ _ _ (H3.set n5 (.box [.d (.i .i64 (w64 (deep+1)))]))
  generalize H3.set n5 (.box [.d (.i .i64 (w64 (deep+1)))])=H4 at p0 p3 p5 ⊢
  generalize w64 (deep+1)=dp at h p5 ⊢
  have p1:=p0.1
  refine .gh (Gh.keep [3,4,5] rfl) ?_;refine .drawn 9 Bb (by kernel_rfl) ?_;refine dv (Mu (cs:=[.bp id 0]) (c:=.bp id 0) p3 rfl (by kernel_rfl)) ?_;refine dv (Mu (cs:=[.bp id 0]) (c:=.bp id 0) p3 rfl (by kernel_rfl)) ?_;refine dv (RB) ?_;refine dv (DU PR) ?_;refine dv (Kr (cs:=[.d (.i .i64 c1),.d (.i .i64 d)]) (c:=.i .i64 d) p1 rfl Ap) ?_;refine dv (Kr (cs:=[.d (.i .i64 dp)]) (c:=.i .i64 dp) p5 rfl Ap) ?_;refine dv (vmx) ?_;refine dv (RB) ?_;refine dv (DU PR) ?_;refine dz ?_
  refine stb (cs:=[.d (.i .i64 c1),.d (.i .i64 d)]) (c:=.d (.i .i64 d)) p1 rfl ?_ B4
  have w0:=p0.set_id (o':=EB c1 (if d<dp then dp else d))
  have w3:(H4.set id (EB c1 (if d<dp then dp else d)))[n3]?=some (.box [.bp id 0]):=by rw [List.getElem?_set_ne (Ne.symm g3)];exact p3
  have w5:(H4.set id (EB c1 (if d<dp then dp else d)))[n5]?=some (.box [.d (.i .i64 dp)]):=by rw [List.getElem?_set_ne (Ne.symm g5)];exact p5
  refine RL.gh (Gh.keep [3,4,5] rfl) ?_;refine .nil ?_
  exact jr (H4.set id (EB c1 (if d<dp then dp else d)),dp,(if d<dp then dp else d)) ⟨w0,w3,w5,h⟩
 rintro ⟨H5,dp,d1⟩ ⟨u0,u3,u5,h⟩
 dsimp only at u0 u3 u5 h ⊢
 show AW _ _ _ _ _ _
 refine .sr ?_;refine vk (Kr (cs:=[.d (.i .i64 dp)]) (c:=.i .i64 dp) u5 rfl Ap) ?_;refine vk (vbi) ?_
 by_cases hc:dp≤16
 rotate_left
 ·rw [if_neg hc] at h
  cases h
  refine vk (VOK.lit (Aa) (dF hc)) ?_;refine gf ?_;refine gf ?_;refine gf ?_;refine gf ?_;refine gf ?_;refine vk (An) ?_;refine asd ?_;refine rn ?_;refine .ret ?_
  exact ⟨_,⟨rfl,rfl⟩,rfl,u0⟩
 rw [if_pos hc] at h
 refine vk (VOK.lit (Aa) (dT hc)) ?_;refine vk (vfa AD) ?_;refine vk (Ah Bm) ?_;refine U0 (avs:=[.bp n3 0,.bp n5 0]) ?_
 obtain ⟨n,h1,h2⟩:=N3 (Int.le_refl 0) h
 have step:=GX (S:=Int×Int) (step:=Od rc dp) (st:=fun s H'=>Upd H id (EB s.1 s.2) H'∧H'[n3]?=some (.box [.bp id 0])∧H'[n5]?=some (.box [.d (.i .i64 dp)])) (caps:=[.bp n3 0,.bp n5 0]) Tryz.call145 rfl
  (fun x s y H' hs hy=>by
   obtain ⟨hs0,hs3,hs5⟩:=hs
   simp only [Od,Option.map_eq_some_iff] at hy
   obtain ⟨z,hz,rfl⟩:=hy
   refine (JI orc hz hs0.1 hs3 hs5).mono fun v H'' hp=>⟨hp.1,hs0.trans hp.2,?_,?_⟩
   ·rw [hp.2.2.2 n3 g3 (lS.1 hs3).1];exact hs3
   ·rw [hp.2.2.2 n5 g5 (lS.1 hs5).1];exact hs5)
  hlen h1 (H:=H5) ⟨u0,u3,u5⟩
 refine clR (avs:=[.d (.sl (Its a.items)),.fn 145 [] [.bp n3 0,.bp n5 0]]) step Tryz.call27 (fun v H' hp=>?_)
 obtain ⟨rfl,hp⟩:=hp
 refine vk (vnt) ?_
 rw [h2]
 refine vk (An) ?_;refine asd ?_;refine rn ?_;refine .ret ?_
 exact ⟨_,⟨rfl,rfl⟩,rfl,hp.1⟩
def Lr : Nat→Arr→Int→Int→Int→Option M3
 | 0,_,_,_,_=>none
 | k+1,a,deep,c,d=>if a.items.length≤9223372036854775806 then Rp (Lr k) a deep c d else none
theorem Og : ∀ k,OA (Lr k)
 | 0=>fun _ _ _ _ _ h=>by cases h
 | k+1=>fun a deep c d r h H id hH=>by
  rw [Lr] at h
  obtain ⟨hl,h⟩:=H9 h
  exact Kp (Og k) hl h hH
def mAr (a:Arr) (deep c d:Int) : Option M3:=Lr (a.size+1) a deep c d
def mIt (x:Itm) (deep c d:Int) : Option M3:=LP mAr x deep c d
theorem RP : OA mAr:=fun a deep c d r h=>Og _ a deep c d r h
def Ez (a:Arr) : Option ((Int×Int)×Bool):=(mAr a 0 0 0).map fun z=>if z.1=true then (z.2,true) else ((0,0),false)
theorem Ia {a:Arr} {r:(Int×Int)×Bool} (h:Ez a=some r) : Fn Tryz.prog 48 [dvA a] (.tup [.d (.ag [.i .i64 r.1.1,.i .i64 r.1.2]),.d (.b r.2)]):=by
 simp only [Ez,Option.map_eq_some_iff] at h
 obtain ⟨z,hz,rfl⟩:=h
 refine Fn.ofC (rs:=[.cell 2 81,.tmp 3]) (nt:=10) Tryz.func48 rfl rfl rfl (by simp) rfl ?_;refine .sr ?_;refine vk (vbx) ?_;refine vk (van (Aj L0) PU) ?_;refine asd ?_;refine rn ?_;refine .sr ?_
 refine al ?_ (Aj L0) (fun w I μ=>Sw w I μ)
 refine rn ?_;refine .seq ?_;refine .sr ?_;refine vk (AH Ac Ab) ?_
 refine clR (avs:=[.bp 0 0,.d (dvA a),.d (.i .i64 0)]) (RP a 0 0 0 z hz _ 0 rfl) Tryz.call89 (fun v H' hp=>?_)
 obtain ⟨rfl,hp⟩:=hp
 refine vk (vnt) ?_;refine rn ?_
 by_cases hc:z.1=true
 ·rw [if_pos hc]
  refine cnf (ntf hc) ?_;refine .skip ?_
  show AW _ _ _ _ _ _
  refine .sr ?_;refine vk (GW (cs:=[.d (.i .i64 z.2.1),.d (.i .i64 z.2.2)]) (ds:=[.i .i64 z.2.1,.i .i64 z.2.2]) hp.1 Se Lk) ?_
  refine stn ?_ Lk (by decide)
  refine asd ?_;refine rn ?_;refine .ret ?_
  exact ⟨_,_,⟨.inr rfl,Se,Lk,p2⟩,rfl,rfl⟩
 ·rw [if_neg hc]
  refine cnt (ntt (bf hc)) ?_;refine .sr ?_;refine vk (vbd Vs L0 PU) ?_
  refine stn ?_ Lk (by decide)
  refine asd ?_;refine rn ?_;refine .ret ?_
  exact ⟨_,_,⟨.inr rfl,Se,Lk,p2⟩,rfl,rfl⟩
def EZ (x:Itm) : Option Bool:=(mIt x 0 0 0).map fun z=>z.1
theorem Lj {x:Itm} {r:Bool} (h:EZ x=some r) : Fn Tryz.prog 29 [dvI x] (.d (.b r)):=by
 simp only [EZ,Option.map_eq_some_iff] at h
 obtain ⟨z,hz,rfl⟩:=h
 refine Fn.o1 2 6 Tryz.func29 ?_;refine .sr ?_;refine vk (vbx) ?_;refine asd ?_;refine rn ?_;refine .sr ?_
 refine al ?_ (Aj L0) (fun w I μ=>Sw w I μ)
 refine vk (AH Bd AG) ?_
 refine clR (avs:=[.bp 0 0,.d (dvI x),.d (.i .i64 0)]) (Hm RP hz (id:=0) rfl) Tryz.call67 (fun v H' hp=>?_)
 obtain ⟨rfl,hp⟩:=hp
 refine asd ?_;refine rn ?_;refine .ret ?_
 exact ⟨rfl,rfl⟩
def LO (s:Bool) (n:Nat) : Int×Bool:=if s=true then (if n≤9223372036854775808 then (-(n:Int),true) else (0,false)) else if n<9223372036854775808 then ((n:Int),true) else (0,false)
def F8 (a:RT) : Option (Int×Bool):=(Gl a).bind fun b=>if b=true then (if (okL 1048576 a.2.1&&decide (A1 (val a.2.1)=a.2.1))=true then some (if Bu (val a.2.1)≤64 then LO a.1 (val a.2.1) else (0,false)) else none) else some (0,false)
theorem VO (w:World) : (zeroValue 117).run Tryz.prog w=.ok (.int .u64 0) w:=by
 simp
theorem zu1 : AA Tryz.prog 117=1:=by kernel_rfl
theorem au1 : Cu Tryz.prog 117=some false:=by kernel_rfl
theorem Tv {xs:List Nat} (h:Ok xs) (hl:xs.length≤2) : ∀ j,val (xs.drop (j+1))<4294967296:=by
 intro j
 match xs,hl with
 | [],_=>simp [val]
 | [x],_=>cases j<;>simp [val]
 | [x,y],_ =>
  have hy:y<4294967296:=h y (by simp)
  cases j with
  | zero=>simp [val];omega
  | succ j=>cases j<;>simp [val]
theorem Rh {n:Nat} (h:n≤9223372036854775808) : IntKind.i64.wrap (IntKind.u64.wrap (0-(n:Int)))=-(n:Int):=by
 simp only [IntKind.wrap,IntKind.bits,IntKind.signed];simp;omega
theorem J4 {a:RT} {r:Int×Bool} (h:F8 a=some r) : Fn Tryz.prog 124 [.ag [.b a.1,.sl (L a.2.1),.sl (L a.2.2)]] (.tup [.d (.i .i64 r.1),.d (.b r.2)]):=by
 unfold F8 at h
 obtain ⟨x1,hx1,h⟩:=bnd h
 refine Fn.ofM (rs:=[.tmp 2,.tmp 3]) (nt:=46) Tryz.func124 rfl rfl rfl (by simp) rfl ?_;refine .seqA ?_;refine .region ?_;refine vk (vbx) ?_;refine asd ?_;refine asd ?_;refine rn ?_
 show AWM _ _ _ _ _ _
 refine .seqA ?_;refine .seq ?_;refine .region ?_;refine vk (AH Jx HW) ?_;refine vk (Am (MY hx1) Tryz.call160) ?_;refine vk (vnt) ?_
 cases x1 with
 | false =>
  replace h:=Sr (by decide) h
  refine mvd ?_;refine gf ?_;refine gf ?_;refine gf ?_;refine gf ?_;refine vk (An) ?_;refine rn ?_;refine cnt rfl ?_;refine .seq ?_;refine .region ?_;refine asd ?_;refine asd ?_;refine rn ?_;refine .ret ?_
  cases h
  exact ⟨by decide,rfl,rfl,rfl⟩
 | true =>
  replace h:=SM rfl h
  obtain ⟨hc,h⟩:=H9 h
  rw [Bool.and_eq_true,IM] at hc
  obtain ⟨⟨hok,hlen⟩,hdg⟩:=hc
  have hdg:=of_decide_eq_true hdg
  refine mvd ?_;refine vk (vfa GF) ?_;refine vk (Ah Ip) ?_
  refine cl (xs:=[.sl (L a.2.1)]) ?_ (S1 hok hlen) Tryz.call161
  refine vk (vbi) ?_;refine vk (An) ?_;refine rn ?_
  by_cases hb:Bu (val a.2.1)≤64
  ·rw [if_pos hb] at h
   cases h
   have hb1:decide ((64:Int)<(Bu (val a.2.1):Nat))=false:=dF (by omega)
   refine cnf hb1 ?_;refine .skip ?_
   show AWM _ _ _ _ _ _
   have hv64:val a.2.1<18446744073709551616:=D7.1 hb
   have hlen2:a.2.1.length≤2:=by rw [← hdg];exact Fq (by omega)
   have hvs:=Tv hok hlen2
   refine .seqA ?_;refine .region ?_
   refine al ?_ VO (fun w I μ=>.cons (c:=.d (.i .u64 0)) (b1:=[]) (.d (.i _ _)) .nil)
   refine stb (cs:=[.d (.i .u64 0)]) (c:=.d (.i .u64 0)) rfl rfl ?_ zu1
   refine rn ?_
   show AWM _ _ _ _ _ _
   refine .seq rfl ?_;refine .seqA ?_;refine .region ?_;refine vk (vfa GF) ?_;refine vk (Ah Ip) ?_
   refine cl (xs:=[.sl (L a.2.1)]) ?_ (NT (L a.2.1)) Tryz.call162
   refine rn ?_
   show AWM _ _ _ _ _ _
   obtain ⟨s,xs,den⟩:=a
   dsimp only at *
   have hys:∀ ds∈IL (L xs),ds.length=2:=fun ds hds=>by
    obtain ⟨k,hk⟩:=List.getElem?_of_mem hds
    rw [(Nz hk).2];rfl
   have hit:=Vr (L xs) (by intro x hx;simp only [L,List.mem_map] at hx;obtain ⟨n,_,rfl⟩:=hx;rfl) (by rw [Ae];omega)
   refine .block ?_;refine .rangeFunc rfl rfl rfl Tryz.call176 hit hys (by decide) (by decide) rfl (fun k=>[.box [.d (.i .u64 ((val (xs.drop (xs.length-k)):Nat):Int))]]) (by simp [val]) ?_ ?_
   ·intro l k d1 d2 hk
    obtain ⟨hk1,hk2⟩:=Nz hk
    rw [Ae] at hk1 hk2
    have hj:xs.length-1-k<xs.length:=by omega
    have hxat:(L xs).getD (xs.length-1-k) .np=U xs[xs.length-1-k]:=by
     rw [lD,HT (lG hj)];rfl
    rw [hxat] at hk2
    simp only [List.cons.injEq,and_true] at hk2
    obtain ⟨rfl,rfl⟩:=hk2
    have hva:=Ua hj
    have hx:=hok.at (lG hj)
    have hsm:=hvs (xs.length-1-k)
    have e1:xs.length-1-k+1=xs.length-k:=by omega
    have e2:xs.length-(k+1)=xs.length-1-k:=by omega
    rw [e1] at hva hsm
    rw [e2]
    generalize xs[xs.length-1-k]=x at *
    generalize val (xs.drop (xs.length-k))=n at *
    rw [hva]
    refine .region ?_;refine asd ?_;refine rn ?_
    show AW _ _ _ _ _ _
    refine .block ?_;refine .region ?_
    refine ldb (cs:=[.d (.i .u64 (n:Int))]) (c:=.d (.i .u64 (n:Int))) rfl rfl ?_ au1
    refine bie (.i .u64 ((n * 4294967296:Nat):Int)) ?_ ?_
    ·refine ⟨by decide,?_⟩
     have:IntKind.u64.wrap ((n:Int) * 4294967296)=((n * 4294967296:Nat):Int):=by
      rw [Gd _ (by omega) (by omega)];omega
     rw [← this];simp [IntKind.bits]
    refine mvd ?_
    refine cve (x:Int) (Gd _ (by omega) (by omega)) ?_ u32 u64
    refine bie (.i .u64 ((n * 4294967296+x:Nat):Int)) ?_ ?_
    ·exact ⟨trivial,by rw [IK hsm hx]⟩
    refine stb (cs:=[.d (.i .u64 (n:Int))]) (c:=.d (.i .u64 (n:Int))) rfl rfl ?_ zu1
    refine .nil ?_
    refine ⟨rfl,?_⟩
    rw [show n * 4294967296+x=x+4294967296 * n by omega]
    rfl
   ·show AWM _ _ _ _ _ _
    refine .lift ?_
    rw [Gx,Ae,Nat.sub_self,List.drop_zero]
    have hn:val xs<18446744073709551616:=hv64
    generalize val xs=n at *
    cases s with
    | true =>
     refine .seq ?_;refine .block ?_;refine .seq ?_;refine .region ?_;refine vk (vfa Gs) ?_;refine vk (Ah EQ) ?_;refine mvd ?_
     refine ldb (cs:=[.d (.i .u64 (n:Int))]) (c:=.d (.i .u64 (n:Int))) rfl rfl ?_ au1
     refine vk (vbi) ?_;refine vk (An) ?_;refine asd ?_;refine rn ?_
     by_cases hle:n≤9223372036854775808
     ·refine cnt (dT (show (n:Int)≤9223372036854775808 by omega)) ?_
      refine .seq ?_;refine .region ?_
      refine ldb (cs:=[.d (.i .u64 (n:Int))]) (c:=.d (.i .u64 (n:Int))) rfl rfl ?_ au1
      refine vk (vng) ?_;refine vk (vcv u64 i64) ?_;refine asd ?_;refine asd ?_;refine rn ?_;refine .ret ?_
      refine ⟨by decide,?_,rfl,rfl⟩
      rw [show LO true n=(-(n:Int),true) by rw [LO,if_pos rfl,if_pos hle],← Rh hle];rfl
     ·refine cnf (dF (show ¬((n:Int)≤9223372036854775808) by omega)) ?_
      refine .seq ?_;refine .region ?_;refine vk (vfa Gs) ?_;refine vk (Ah EQ) ?_;refine vk (vnt) ?_;refine mvd ?_;refine gf ?_;refine gf ?_;refine vk (An) ?_;refine asd ?_;refine rn ?_;refine cnf rfl ?_;refine .skip ?_
      show AW _ _ _ _ _ _
      refine .seq ?_;refine .region ?_;refine asd ?_;refine asd ?_;refine rn ?_;refine .ret ?_
      exact ⟨by decide,by rw [show LO true n=(0,false) by rw [LO,if_pos rfl,if_neg hle]];rfl,rfl,rfl⟩
    | false =>
     refine .seq ?_;refine .block ?_;refine .seq ?_;refine .region ?_;refine vk (vfa Gs) ?_;refine vk (Ah EQ) ?_;refine mvd ?_;refine gf ?_;refine gf ?_;refine vk (An) ?_;refine asd ?_;refine rn ?_;refine cnf rfl ?_;refine .seq ?_;refine .region ?_;refine vk (vfa Gs) ?_;refine vk (Ah EQ) ?_;refine vk (vnt) ?_;refine mvd ?_
     refine ldb (cs:=[.d (.i .u64 (n:Int))]) (c:=.d (.i .u64 (n:Int))) rfl rfl ?_ au1
     refine vk (vbi) ?_;refine vk (An) ?_;refine asd ?_;refine rn ?_
     by_cases hlt:n<9223372036854775808
     ·refine cnt (dT (show (n:Int)<9223372036854775808 by omega)) ?_
      refine .seq ?_;refine .region ?_
      refine ldb (cs:=[.d (.i .u64 (n:Int))]) (c:=.d (.i .u64 (n:Int))) rfl rfl ?_ au1
      refine vk (vcv u64 i64) ?_;refine asd ?_;refine asd ?_;refine rn ?_;refine .ret ?_
      refine ⟨by decide,?_,rfl,rfl⟩
      rw [show LO false n=((n:Int),true) by rw [LO,if_neg (by decide),if_pos hlt]]
      have:=QV (n:Int) (by omega) (by omega)
      exact (show AV.tup [.d (.i .i64 (n:Int)),.d (.b true)]=.tup [.d (.i .i64 (IntKind.i64.wrap (n:Int))),.d (.b true)] by rw [this]).trans rfl
     ·refine cnf (dF (show ¬((n:Int)<9223372036854775808) by omega)) ?_
      refine .skip ?_
      show AW _ _ _ _ _ _
      refine .seq ?_;refine .region ?_;refine asd ?_;refine asd ?_;refine rn ?_;refine .ret ?_
      exact ⟨by decide,by rw [show LO false n=(0,false) by rw [LO,if_neg (by decide),if_neg hlt]];rfl,rfl,rfl⟩
  ·rw [if_neg hb] at h
   cases h
   have hb1:decide ((64:Int)<(Bu (val a.2.1):Nat))=true:=dT (by omega)
   refine cnt hb1 ?_;refine .seq ?_;refine .region ?_;refine asd ?_;refine asd ?_;refine rn ?_;refine .ret ?_
   exact ⟨by decide,rfl,rfl,rfl⟩
def A8 (a0:Arr) : Option (Bool):=((Ez a0).bind fun x1=>(some (x1.2)))
theorem Bs {a0:Arr} {r:Bool} (h:A8 a0=some r) :
  Fn Tryz.prog 15 [.ag [.sl (Is a0.shape),.sl (Its a0.items)]] (.d (.b r)):=by
 unfold A8 at h
 refine Fn.o1 2 11 Tryz.func15 ?_;refine .sr ?_;refine vk (vbx) ?_;refine ar [1,2] ?_;refine .sr ?_;refine vk (AH Ac Ab) ?_
 obtain ⟨x1,g1,h⟩:=bnd h
 refine vk (VOK.tupd (vs:=[.ag [.i .i64 x1.1.1,.i .i64 x1.1.2],.b x1.2]) (Am (Ia g1) Tryz.call48)) ?_;refine vk (Aa) ?_;refine vk (vex) ?_;refine vk (vex) ?_;refine vk (van (Aj L0) PU) ?_
 refine stn ?_ Lk (by decide)
 refine ar [2,4] ?_;refine .sr ?_;refine vk (Aa) ?_;refine ar [2] ?_;refine .ret ?_
 cases h
 exact ⟨rfl,rfl⟩
def EX (a0:Arr) : Option (Int):=((Ez a0).bind fun x1=>(some (x1.1.1)))
theorem Ly {a0:Arr} {r:Int} (h:EX a0=some r) :
  Fn Tryz.prog 32 [.ag [.sl (Is a0.shape),.sl (Its a0.items)]] (.d (.i .i64 r)):=by
 unfold EX at h
 refine Fn.o1 2 12 Tryz.func32 ?_;refine .sr ?_;refine vk (vbx) ?_;refine ar [1,2] ?_;refine .sr ?_;refine vk (AH Ac Ab) ?_
 obtain ⟨x1,g1,h⟩:=bnd h
 refine vk (VOK.tupd (vs:=[.ag [.i .i64 x1.1.1,.i .i64 x1.1.2],.b x1.2]) (Am (Ia g1) Tryz.call48)) ?_;refine vk (Aa) ?_;refine vk (vex) ?_;refine vk (vex) ?_;refine vk (van (Aj L0) PU) ?_
 refine stn ?_ Lk (by decide)
 refine ar [2,3] ?_;refine .seq ?_;refine .gh (Gh.nbp (t:=3) rfl) ?_;refine .region ?_;refine vk (vfa KD) ?_;refine vk (Ah Ap) ?_;refine ar [2] ?_;refine .ret ?_
 cases h
 exact ⟨rfl,rfl⟩
def Ha (a0:Arr) (a1:Arr) : Option (Bool):=((A8 a0).bind fun x1=>(Option.bind ((if x1=true then ((A8 a1).bind fun x3=>(if x3=true then ((NB a0 a1).bind fun x4=>(some x4)) else (some false))) else (some false)) : Option (Bool)) fun (z1:Bool)=>(some (z1))))
theorem LF {a0:Arr} {a1:Arr} {r:Bool} (h:Ha a0 a1=some r) :
  Fn Tryz.prog 25 [.ag [.sl (Is a0.shape),.sl (Its a0.items)],.ag [.sl (Is a1.shape),.sl (Its a1.items)]] (.d (.b r)):=by
 unfold Ha at h
 refine Fn.o1 4 16 Tryz.func25 ?_;refine .sr ?_;refine vk (vbx) ?_;refine vk (vbx) ?_;refine ar [2,3,4] ?_;refine .seq ?_
 obtain ⟨x1,g1,h⟩:=bnd h
 obtain ⟨z1,hz,h⟩:=bnd h
 refine AW.mr (σ:=Unit) (fun _=>True) (fun _=>[(4,.d (.b z1))]) (fun _=>[]) ?_ ?_
 ·skip
  refine .region ?_;refine vk (AH Ac Ab) ?_;refine vk (Am (Bs g1) Tryz.call15) ?_
  rcases brc hz with ⟨hc,hz⟩|⟨hc,hz⟩
  ·have hb0:x1=true:=hc
   refine vk (VOK.lit (Aa) hb0) ?_;refine vk (AH Ac Ab) ?_
   obtain ⟨x3,g3,hz⟩:=bnd hz
   refine vk (Am (Bs g3) Tryz.call15) ?_;refine vk (An) ?_
   rcases brc hz with ⟨hc,hz⟩|⟨hc,hz⟩
   ·have hb1:x3=true:=hc
    refine vk (VOK.lit (Aa) hb1) ?_;refine vk (AH Ac Ab) ?_;refine vk (AH Ac Ab) ?_
    obtain ⟨x4,g4,hz⟩:=bnd hz
    refine vk (Am (NS g4) Tryz.call61) ?_;refine vk (An) ?_;refine asd ?_;refine RL.gk [4] ?_;refine .nil ?_
    cases hz
    exact jr () trivial
   have hb1:x3=false:=(bf hc)
   refine vk (VOK.lit (Aa) hb1) ?_;refine gf ?_;refine gf ?_;refine gf ?_;refine vk (An) ?_;refine asd ?_;refine RL.gk [4] ?_;refine .nil ?_
   cases hz
   exact jr () trivial
  have hb0:x1=false:=(bf hc)
  refine vk (VOK.lit (Aa) hb0) ?_;refine gf ?_;refine gf ?_;refine vk (An) ?_;refine vk (Aa) ?_;refine gf ?_;refine gf ?_;refine gf ?_;refine vk (An) ?_;refine asd ?_;refine RL.gk [4] ?_;refine .nil ?_
  cases hz
  exact jr () trivial
 rintro _ _
 refine .ret ?_
 cases h
 exact ⟨rfl,rfl⟩
def Ar (a0:(List Itm)) (a1:Ce) (K0:Int→Option (Int)) : Nat→Int→Int→Option (Int)
 | 0,_,_=>none
 | k+1,s2,s3=>(if s3<((List.length a0:Nat):Int) then ((rd? a0 s3).bind fun x4=>((a1.g x4).bind fun x5=>(if x5=true then (some (s3)) else (Ar a0 a1 K0 k s2 (w64 (s3+1)))))) else (K0 s2))
def A9 (a0:(List Itm)) (a1:Ce) : Option (Int):=(jn (fun (z1:Int)=>(some ((-1)))) fun K0=>(Ar a0 a1 K0 AK 0 0))
theorem Dy {a0:(List Itm)} {a1:Ce} (oa1:Je a1) {r:Int} (h:A9 a0 a1=some r) :
  Fn Tryz.prog 66 [.sl (Its a0),a1.dv] (.d (.i .i64 r)):=by
 unfold A9 at h
 refine Fn.o1 4 19 Tryz.func66 ?_;refine .sr ?_;refine ar [0,1,4] ?_;refine .seq ?_;refine .sr ?_;refine vk (Aa) ?_;refine vk (AR (Ay _) (CD _) CC) ?_;refine vk (Aa) ?_;refine rk [0,1,4,7,8] ?_
 obtain ⟨K0,hK0,h⟩:=AQ h
 refine AW.mr (σ:=Int) (fun p=>K0 p=some r) (fun p=>[(4,.d (.i .i64 p))]) (fun p=>[]) ?_ ?_
 ·skip
  refine .block ?_
  refine .loop (.gk [0,1,4,7,8] ?_)
  refine AL.ind (σ:=Nat×Int×Int) (m:=fun p=>p.1) (e:=fun p=>[(0,.d (.sl (Its a0))),(1,.d (a1.dv)),(4,.d (.i .i64 p.2.1)),(7,.d (.i .i64 ((List.length a0:Nat):Int))),(8,.d (.i .i64 p.2.2))]) (h:=fun p=>[]) (I:=fun p=>Ar a0 a1 K0 p.1 p.2.1 p.2.2=some r) ?_ (AK,0,0) h
  rintro ⟨k,s2,s3⟩ h ih
  dsimp only at h ih ⊢
  rcases k with _|k
  ·rw [Ar] at h;cases h
  rw [Ar] at h
  refine .sr ?_;refine vk (vbi) ?_;refine rk [0,1,4,7,8,9] ?_;refine .seq ?_
  rcases brc h with ⟨hc,h⟩|⟨hc,h⟩
  ·refine cnt (dT hc) ?_
   refine .skip ?_
   show AW _ _ _ _ _ _
   refine .seq ?_;refine .block ?_;refine .sr ?_;refine vk (Aa) ?_;refine ar [0,1,4,5,7,8] ?_;refine .sr ?_;refine vk (Aa) ?_;refine vk (Aa) ?_;refine vk (Aa) ?_
   obtain ⟨x4,g4,h⟩:=bnd h
   obtain ⟨n4,p04,q4⟩:=Ag g4
   refine vk (vix n4 p04 (C6 q4) rfl C3) ?_;refine vk (AH Bd AG) ?_
   obtain ⟨x5,g5,h⟩:=bnd h
   refine vk (N9 (oa1 _ _ g5)) ?_;refine rk [0,1,4,5,7,8,16] ?_
   rcases brc h with ⟨hc,h⟩|⟨hc,h⟩
   ·refine cnt hc ?_
    refine .sr ?_;refine vk (Aa) ?_;refine ar [0,1,4,7,8] ?_;refine .ret ?_
    cases h
    exact ⟨rfl,rfl⟩
   refine cnf (bf hc) ?_;refine .skip ?_
   show AW _ _ _ _ _ _
   refine .region ?_;refine vk (vbi) ?_;refine vk (Aa) ?_;refine .nil ?_;refine AL.gk [0,1,4,7,8] ?_
   exact ih (k,s2,(w64 (s3+1))) h (Nat.lt_succ_self _)
  refine cnf (dF hc) ?_;refine .gk [4] ?_;refine .exit ?_
  exact jr (s2) h
 rintro z1 h
 try dsimp only at h ⊢
 subst hK0
 show AW _ _ _ _ _ _
 refine .sr ?_;refine ar [4] ?_;refine .ret ?_
 cases h
 exact ⟨rfl,rfl⟩
def AM (a0:(List Itm)) (a1:Ce) : Option (Bool):=((A9 a0 a1).bind fun x1=>(some ((decide (0≤x1)))))
theorem Dk {a0:(List Itm)} {a1:Ce} (oa1:Je a1) {r:Bool} (h:AM a0 a1=some r) :
  Fn Tryz.prog 27 [.sl (Its a0),a1.dv] (.d (.b r)):=by
 unfold AM at h
 refine Fn.o1 4 9 Tryz.func27 ?_;refine .sr ?_;refine ar [0,1,4] ?_;refine .sr ?_;refine vk (Aa) ?_;refine vk (Aa) ?_
 obtain ⟨x1,g1,h⟩:=bnd h
 refine vk (Am (Dy oa1 g1) Tryz.call66) ?_;refine vk (vbi) ?_;refine ar [4] ?_;refine .ret ?_
 cases h
 exact ⟨rfl,rfl⟩
def Ee (a0:Itm) : Option (Bool):=((EZ a0).bind fun x1=>(some ((!x1))))
theorem Ko {a0:Itm} {r:Bool} (h:Ee a0=some r) :
  Fn Tryz.prog 28 [.ag [.i .u8 a0.kind,.b a0.num.1,.sl (L a0.num.2.1),.sl (L a0.num.2.2),.i .i32 a0.char,.sl (Ars a0.box)]] (.d (.b r)):=by
 unfold Ee at h
 refine Fn.o1 2 6 Tryz.func28 ?_;refine .sr ?_;refine vk (vbx) ?_;refine ar [1,2] ?_;refine .sr ?_;refine vk (AH Bd AG) ?_
 obtain ⟨x1,g1,h⟩:=bnd h
 refine vk (Am (Lj g1) Tryz.call29) ?_;refine vk (vnt) ?_;refine ar [2] ?_;refine .ret ?_
 cases h
 exact ⟨rfl,rfl⟩
def Ck (x12:Itm) (K4:Int→Option (Arr×Int)) : Nat→Int→Int→Option (Arr×Int)
 | 0,_,_=>none
 | k+1,s14,s15=>(if s15<((List.length x12.box:Nat):Int) then ((rd? x12.box s15).bind fun x16=>((EX x16).bind fun x17=>(Ck x12 K4 k (w64 (s14+x17)) (w64 (s15+1))))) else (K4 s14))
def BS (a1:(List Itm)) (K1:(List Int)→Option (Arr×Int)) : Nat→(List Int)→Int→Option (Arr×Int)
 | 0,_,_=>none
 | k+1,s9,s10=>(if s10<((List.length a1:Nat):Int) then (jn (fun (z11:(List Int))=>(BS a1 K1 k z11 (w64 (s10+1)))) fun K3=>((rd? a1 s10).bind fun x12=>(jn (fun (z13:Int)=>((ap? 17592186044416 s9 [z13]).bind fun x18=>(K3 x18))) fun K4=>(Ck x12 K4 AK 1 0)))) else (K1 s9))
def BT (a1:(List Itm)) (x1:Int×Int) (z8:(List Int)) (K6:Arr→Int→(List Int)→(List Itm)→Option (Arr×Int)) : Nat→Arr→Int→Int→Int→(List Int)→(List Itm)→Option (Arr×Int)
 | 0,_,_,_,_,_,_=>none
 | k+1,s23,s24,s25,s26,s27,s28=>(if s25<x1.1 then ((D4 (((List.length a1:Nat):Int)≠0)).bind fun x29=>((rd? z8 (Int.tmod s25 ((List.length a1:Nat):Int))).bind fun x30=>(if 16384<(w64 (s26+x30)) then (some ((Arr.mk [] []),8)) else ((D4 (((List.length a1:Nat):Int)≠0)).bind fun x31=>((rd? a1 (Int.tmod s25 ((List.length a1:Nat):Int))).bind fun x32=>((Gv x32).bind fun x33=>((ap? 1466015503701 s28 [x33]).bind fun x34=>(BT a1 x1 z8 K6 k s23 s24 (w64 (s25+1)) (w64 (s26+x30)) s27 x34)))))))) else (K6 s23 s24 s27 s28))
def AE (a0:(List Int)) (a1:(List Itm)) : Option (Arr×Int):=((B5 a0).bind fun x1=>(if x1.2=0 then (Option.bind ((if ((List.length a1:Nat) : Int)=0 then (some true) else ((AM a1 (⟨.fn 28 [] [],fun x=>Ee x⟩ : Ce)).bind fun x3=>(some x3))) : Option (Bool)) fun (z2:Bool)=>(if z2=true then (some ((Arr.mk [] []),22)) else ((CN a0).bind fun x4=>(jn (fun (z5:(List Itm))=>(jn (fun (z8:(List Int))=>(jn (fun (z19:Arr) (z20:Int) (z21:(List Int)) (z22:(List Itm))=>((A8 (Arr.mk z21 z22)).bind fun x35=>(if x35=true then (some ((Arr.mk z21 z22),0)) else (some ((Arr.mk [] []),8))))) fun K6=>(BT a1 x1 z8 K6 AK (Arr.mk [] []) 0 0 0 x4 z5))) fun K1=>(BS a1 K1 AK [] 0))) fun K0=>(if x1.1=0 then ((rd? a1 0).bind fun x6=>((Ja x6).bind fun x7=>(K0 ([x7])))) else (K0 [])))))) else (some ((Arr.mk [] []),x1.2))))
set_option maxHeartbeats 4000000 in
theorem CK {a0:(List Int)} {a1:(List Itm)} {r:Arr×Int} (h:AE a0 a1=some r) :
  Fn Tryz.prog 10 [.sl (Is a0),.sl (Its a1)] (.tup [.d (.ag [.sl (Is r.1.shape),.sl (Its r.1.items)]),.d (.i .i64 r.2)]):=by
 unfold AE at h
 refine Fn.ofC (rs:=[.cell 4 27,.tmp 5]) (nt:=105) Tryz.func10 rfl rfl rfl (by simp) rfl ?_;refine .sr ?_;refine vk (van (Aj As) Aw) ?_;refine ar [0,1,4,5] ?_;refine .sr ?_;refine vk (Aa) ?_
 obtain ⟨x1,g1,h⟩:=bnd h
 refine vk (VOK.tupd (vs:=[.i .i64 x1.1,.i .i64 x1.2]) (Am (Cm g1) Tryz.call26)) ?_;refine vk (Aa) ?_;refine vk (vex) ?_;refine vk (vex) ?_;refine asd ?_;refine ar [0,1,4,5,6,7] ?_;refine .seq ?_;refine .block ?_;refine .sr ?_;refine vk (Aa) ?_;refine vk (vbi) ?_;refine ar [0,1,4,5,6,7,22] ?_
 rcases brc h with ⟨hc,h⟩|⟨hc,h⟩
 ·refine cnf (ntf (dT hc)) ?_
  refine .seq ?_
  obtain ⟨z2,hz,h⟩:=bnd h
  refine AW.mr (σ:=Unit) (fun _=>True) (fun _=>[(0,.d (.sl (Is a0))),(1,.d (.sl (Its a1))),(4,.nb [.sl (Is []),.sl (Its [])]),(5,.d (.i .i64 0)),(6,.d (.i .i64 x1.1)),(27,.d (.b z2))]) (fun _=>[]) ?_ ?_
  ·skip
   refine .region ?_;refine vk (Aa) ?_;refine vk (AR (Ay _) (CD _) CC) ?_;refine vk (vbi) ?_
   rcases brc hz with ⟨hc,hz⟩|⟨hc,hz⟩
   ·have hb0:(decide (((List.length a1:Nat):Int)=0))=true:=(dT hc)
    refine vk (VOK.lit (Aa) hb0) ?_;refine gf ?_;refine gf ?_;refine vk (An) ?_;refine asd ?_;refine RL.gk [0,1,4,5,6,27] ?_;refine .nil ?_
    cases hz
    exact jr () trivial
   have hb0:(decide (((List.length a1:Nat):Int)=0))=false:=(dF hc)
   refine vk (VOK.lit (Aa) hb0) ?_;refine vk (Aa) ?_
   obtain ⟨x3,g3,hz⟩:=bnd hz
   refine vk (Am (Dk (DY Tryz.call28 (fun _ _ h=>Ko h)) g3) Tryz.call27) ?_;refine vk (An) ?_;refine asd ?_;refine RL.gk [0,1,4,5,6,27] ?_;refine .nil ?_
   cases hz
   exact jr () trivial
  rintro _ _
  rcases brc h with ⟨hc,h⟩|⟨hc,h⟩
  ·refine cnt hc ?_
   refine .sr ?_;refine vk (vbd Bl As Aw) ?_
   refine stn ?_ Ab (by decide)
   refine ar [0,1,4,5,6] ?_;refine .ret ?_
   cases h
   exact ⟨_,_,⟨.inr rfl,Ac,Ab,p2⟩,rfl,rfl⟩
  refine cnf (bf hc) ?_;refine .skip ?_
  show AW _ _ _ _ _ _
  refine .sr ?_;refine vk (Aa) ?_
  obtain ⟨x4,g4,h⟩:=bnd h
  refine vk ((Am (Dj g4) Tryz.call30).deep) ?_;refine vk (RJ Bl As (fun w I μ=>KI w I μ)) ?_;refine vk (van (Aj As) Aw) ?_
  refine SG ?_ Ab (by decide)
  refine rk [1,4,5,6,8] ?_;refine .seq ?_;refine .sr ?_;refine vk (Aa) ?_;refine vk (vbi) ?_;refine rk [1,4,5,6,8,40] ?_
  obtain ⟨K0,hK0,h⟩:=AQ h
  refine AW.mr (σ:=(List Itm)) (fun p=>K0 p=some r) (fun p=>[(1,.d (.sl (Its a1))),(4,.nb [.sl (Is []),.sl (Its [])]),(5,.d (.i .i64 0)),(6,.d (.i .i64 x1.1)),(8,.bp 0 0)]) (fun p=>[HO.box [.d (.sl (Is x4)),.own 58 (Its p)]]) ?_ ?_
  ·skip
   rcases brc h with ⟨hc,h⟩|⟨hc,h⟩
   ·refine cnt (dT hc) ?_
    refine .region ?_;refine vk (Aa) ?_
    obtain ⟨x6,g6,h⟩:=bnd h
    obtain ⟨n6,p06,q6⟩:=Ag g6
    refine vk (vix n6 p06 (C6 q6) rfl C3) ?_;refine vk (AH Bd AG) ?_
    obtain ⟨x7,g7,h⟩:=bnd h
    refine vk (Am (Ke g7) Tryz.call31) ?_;refine vk (Em (Er x7) (Db [x7]) Cz) ?_;refine vk (DU AD) ?_
    refine IN (cs:=[.d (.sl (Is x4)),.nl]) (c:=.nl) rfl rfl ?_ JG
    refine RL.gk [1,4,5,6,8] ?_;refine .nil ?_
    exact jr ([x7]) h
   refine cnf (dF hc) ?_;refine .gh (Gh.nlOwnC (id:=0) (off:=1) 58 (by rw [JA];decide)) ?_;refine .gk [1,4,5,6,8] ?_;refine .skip ?_
   exact jr ([]) h
  rintro z5 h
  try dsimp only at h ⊢
  subst hK0
  show AW _ _ _ _ _ _
  refine .sr ?_;refine asn ?_;refine rk [1,4,5,6,8,9] ?_;refine .seq ?_;refine .sr ?_;refine vk (Aa) ?_;refine vk (AR (Ay _) (CD _) CC) ?_;refine vk (Aa) ?_;refine rk [1,4,5,6,8,9,47,48,49] ?_
  obtain ⟨K1,hK1,h⟩:=AQ h
  refine AW.mr (σ:=(List Int)) (fun p=>K1 p=some r) (fun p=>[(1,.d (.sl (Its a1))),(4,.nb [.sl (Is []),.sl (Its [])]),(5,.d (.i .i64 0)),(6,.d (.i .i64 x1.1)),(8,.bp 0 0),(9,.own 3 (Is p))]) (fun p=>[HO.box [.d (.sl (Is x4)),.own 58 (Its z5)]]) ?_ ?_
  ·skip
   refine .block ?_;refine .gh (Gh.nlOwn (t:=9) 3 (by rw [B4];decide) rfl) ?_
   refine .loop (.gk [1,4,5,6,8,9,47,48,49] ?_)
   refine AL.ind (σ:=Nat×(List Int)×Int) (m:=fun p=>p.1) (e:=fun p=>[(1,.d (.sl (Its a1))),(4,.nb [.sl (Is []),.sl (Its [])]),(5,.d (.i .i64 0)),(6,.d (.i .i64 x1.1)),(8,.bp 0 0),(9,.own 3 (Is p.2.1)),(47,.d (.sl (Its a1))),(48,.d (.i .i64 ((List.length a1:Nat):Int))),(49,.d (.i .i64 p.2.2))]) (h:=fun p=>[HO.box [.d (.sl (Is x4)),.own 58 (Its z5)]]) (I:=fun p=>BS a1 K1 p.1 p.2.1 p.2.2=some r) ?_ (AK,[],0) h
   rintro ⟨k,s9,s10⟩ h ih
   dsimp only at h ih ⊢
   rcases k with _|k
   ·rw [BS] at h;cases h
   rw [BS] at h
   refine .sr ?_;refine vk (vbi) ?_;refine rk [1,4,5,6,8,9,47,48,49,50] ?_;refine .seq ?_
   rcases brc h with ⟨hc,h⟩|⟨hc,h⟩
   ·refine cnt (dT hc) ?_
    refine .skip ?_
    show AW _ _ _ _ _ _
    obtain ⟨K3,hK3,h⟩:=AQ h
    refine AW.mj (σ:=(List Int)) (fun p=>K3 p=some r) (fun p=>[(1,.d (.sl (Its a1))),(4,.nb [.sl (Is []),.sl (Its [])]),(5,.d (.i .i64 0)),(6,.d (.i .i64 x1.1)),(8,.bp 0 0),(9,.own 3 (Is p)),(47,.d (.sl (Its a1))),(48,.d (.i .i64 ((List.length a1:Nat):Int))),(49,.d (.i .i64 s10))]) (fun p=>[HO.box [.d (.sl (Is x4)),.own 58 (Its z5)]]) ?_ ?_
    ·skip
     refine .block ?_;refine .sr ?_
     obtain ⟨x12,g12,h⟩:=bnd h
     obtain ⟨n12,p012,q12⟩:=Ag g12
     refine vk (vix n12 p012 (C6 q12) rfl C3) ?_;refine vk (AH Bd AG) ?_;refine vk (van (Aj CU) Dm) ?_
     refine stn ?_ AG (by decide)
     refine rk [1,4,5,6,8,9,11,47,48,49] ?_;refine .sr ?_;refine ar [1,4,5,6,8,9,11,12,47,48,49] ?_;refine .seq ?_;refine .seq ?_;refine .gh (Gh.nbp (t:=11) rfl) ?_;refine .region ?_;refine vk (vfa Br) ?_;refine vk (Ah C9) ?_;refine vk (AR (Bw _) (EG _) EC) ?_;refine vk (Aa) ?_;refine rk [1,4,5,6,8,9,12,47,48,49,54,55,56] ?_
     obtain ⟨K4,hK4,h⟩:=AQ h
     refine AW.mr (σ:=Int) (fun p=>K4 p=some r) (fun p=>[(1,.d (.sl (Its a1))),(4,.nb [.sl (Is []),.sl (Its [])]),(5,.d (.i .i64 0)),(6,.d (.i .i64 x1.1)),(8,.bp 0 0),(9,.own 3 (Is s9)),(12,.d (.i .i64 p)),(47,.d (.sl (Its a1))),(48,.d (.i .i64 ((List.length a1:Nat):Int))),(49,.d (.i .i64 s10))]) (fun p=>[HO.box [.d (.sl (Is x4)),.own 58 (Its z5)]]) ?_ ?_
     ·skip
      refine .block ?_
      refine .loop (.gk [1,4,5,6,8,9,12,47,48,49,54,55,56] ?_)
      refine AL.ind (σ:=Nat×Int×Int) (m:=fun p=>p.1) (e:=fun p=>[(1,.d (.sl (Its a1))),(4,.nb [.sl (Is []),.sl (Its [])]),(5,.d (.i .i64 0)),(6,.d (.i .i64 x1.1)),(8,.bp 0 0),(9,.own 3 (Is s9)),(12,.d (.i .i64 p.2.1)),(47,.d (.sl (Its a1))),(48,.d (.i .i64 ((List.length a1:Nat):Int))),(49,.d (.i .i64 s10)),(54,.d (.sl (Ars x12.box))),(55,.d (.i .i64 ((List.length x12.box:Nat):Int))),(56,.d (.i .i64 p.2.2))]) (h:=fun p=>[HO.box [.d (.sl (Is x4)),.own 58 (Its z5)]]) (I:=fun p=>Ck x12 K4 p.1 p.2.1 p.2.2=some r) ?_ (AK,1,0) h
      rintro ⟨k,s14,s15⟩ h ih
      dsimp only at h ih ⊢
      rcases k with _|k
      ·rw [Ck] at h;cases h
      rw [Ck] at h
      refine .sr ?_;refine vk (vbi) ?_;refine rk [1,4,5,6,8,9,12,47,48,49,54,55,56,57] ?_;refine .seq ?_
      rcases brc h with ⟨hc,h⟩|⟨hc,h⟩
      ·refine cnt (dT hc) ?_
       refine .skip ?_
       show AW _ _ _ _ _ _
       refine .seq ?_;refine .block ?_;refine .sr ?_
       obtain ⟨x16,g16,h⟩:=bnd h
       obtain ⟨n16,p016,q16⟩:=Ag g16
       refine vk (vix n16 p016 (Fv q16) rfl Fm) ?_;refine vk (AH Ac Ab) ?_;refine vk (van (Aj As) Aw) ?_
       refine stn ?_ Ab (by decide)
       refine rk [1,4,5,6,8,9,12,14,47,48,49,54,55,56] ?_;refine .region ?_;refine vk (Aa) ?_;refine vk (Fs Ac Ab) ?_
       obtain ⟨x17,g17,h⟩:=bnd h
       refine vk (Am (Ly g17) Tryz.call32) ?_;refine vk (vbi) ?_;refine asd ?_;refine .nil ?_
       show AW _ _ _ _ _ _
       refine .gk [1,4,5,6,8,9,12,47,48,49,54,55,56] ?_;refine .region ?_;refine vk (vbi) ?_;refine vk (Aa) ?_;refine .nil ?_;refine AL.gk [1,4,5,6,8,9,12,47,48,49,54,55,56] ?_
       exact ih (k,(w64 (s14+x17)),(w64 (s15+1))) h (Nat.lt_succ_self _)
      refine cnf (dF hc) ?_;refine .gk [1,4,5,6,8,9,12,47,48,49] ?_;refine .exit ?_
      exact jr (s14) h
     rintro z13 h
     try dsimp only at h ⊢
     subst hK4
     show AW _ _ _ _ _ _
     refine .region ?_;refine mvo ?_;refine vk (Aa) ?_;refine vk ((G5 (Cy [z13]) BL).deep) ?_
     obtain ⟨x18,g18,h⟩:=bnd h
     refine M4 HG g18 IV ?_ FU Ad BL
     refine aso ?_;refine RL.gk [1,4,5,6,8,9,47,48,49] ?_;refine .nil ?_
     exact jr (x18) h
    rintro z11 h
    try dsimp only at h ⊢
    subst hK3
    refine .region ?_;refine vk (vbi) ?_;refine vk (Aa) ?_;refine .nil ?_;refine AL.gk [1,4,5,6,8,9,47,48,49] ?_
    exact ih (k,z11,(w64 (s10+1))) h (Nat.lt_succ_self _)
   refine cnf (dF hc) ?_;refine .gk [1,4,5,6,8,9] ?_;refine .exit ?_
   exact jr (s9) h
  rintro z8 h
  try dsimp only at h ⊢
  subst hK1
  show AW _ _ _ _ _ _
  refine .seq ?_;refine .sr ?_;refine asd ?_;refine ar [1,4,5,6,8,9,15,16] ?_
  obtain ⟨K6,hK6,h⟩:=AQ h
  refine AW.mr (σ:=Arr×Int×(List Int)×(List Itm)) (fun p=>K6 p.1 p.2.1 p.2.2.1 p.2.2.2=some r) (fun p=>[(4,.nb [.sl (Is p.1.shape),.sl (Its p.1.items)]),(5,.d (.i .i64 p.2.1)),(8,.bp 0 0)]) (fun p=>[HO.box [.d (.sl (Is p.2.2.1)),.own 58 (Its p.2.2.2)]]) ?_ ?_
  ·skip
   refine .block ?_;refine .gh (Gh.frz (p:=.t 9) rfl (by (intro _ _ h;cases h<;>decide))) ?_
   refine .loop (.gk [1,4,5,6,8,9,15,16] ?_)
   refine AL.ind (σ:=Nat×Arr×Int×Int×Int×(List Int)×(List Itm)) (m:=fun p=>p.1) (e:=fun p=>[(1,.d (.sl (Its a1))),(4,.nb [.sl (Is p.2.1.shape),.sl (Its p.2.1.items)]),(5,.d (.i .i64 p.2.2.1)),(6,.d (.i .i64 x1.1)),(8,.bp 0 0),(9,.d (.sl (Is z8))),(15,.d (.i .i64 p.2.2.2.1)),(16,.d (.i .i64 p.2.2.2.2.1))]) (h:=fun p=>[HO.box [.d (.sl (Is p.2.2.2.2.2.1)),.own 58 (Its p.2.2.2.2.2.2)]]) (I:=fun p=>BT a1 x1 z8 K6 p.1 p.2.1 p.2.2.1 p.2.2.2.1 p.2.2.2.2.1 p.2.2.2.2.2.1 p.2.2.2.2.2.2=some r) ?_ (AK,(Arr.mk [] []),0,0,0,x4,z5) h
   rintro ⟨k,s23,s24,s25,s26,s27,s28⟩ h ih
   dsimp only at h ih ⊢
   rcases k with _|k
   ·rw [BT] at h;cases h
   rw [BT] at h
   refine .seq ?_;refine .sr ?_;refine vk (Aa) ?_;refine vk (Aa) ?_;refine vk (vbi) ?_;refine rk [1,4,5,6,8,9,15,16,72] ?_
   rcases brc h with ⟨hc,h⟩|⟨hc,h⟩
   ·refine cnt (dT hc) ?_
    refine .skip ?_
    show AW _ _ _ _ _ _
    refine .seq ?_;refine .block ?_;refine .seq ?_;refine .sr ?_;refine vk (Aa) ?_;refine vk (Aa) ?_;refine vk (Aa) ?_;refine vk (Aa) ?_;refine vk (AR (Ay _) (CD _) CC) ?_
    obtain ⟨x29,g29,h⟩:=bnd h
    refine vk (Ht (CJ g29)) ?_
    obtain ⟨x30,g30,h⟩:=bnd h
    obtain ⟨n30,p030,q30⟩:=Ag g30
    refine vk (vix n30 p030 (AT q30) rfl AJ) ?_;refine vk (Ah Ap) ?_;refine vk (vbi) ?_;refine ar [1,4,5,6,8,9,15,16] ?_;refine .sr ?_;refine vk (Aa) ?_;refine vk (vbi) ?_;refine rk [1,4,5,6,8,9,15,16,85] ?_
    rcases brc h with ⟨hc,h⟩|⟨hc,h⟩
    ·refine cnt (dT hc) ?_
     refine .sr ?_;refine vk (vbd Bl As Aw) ?_
     refine stn ?_ Ab (by decide)
     refine ar [1,4,5,6,8,9,15,16] ?_;refine .ret ?_
     cases h
     exact ⟨_,_,⟨.inr rfl,Ac,Ab,p2⟩,rfl,rfl⟩
    refine cnf (dF hc) ?_;refine .skip ?_
    show AW _ _ _ _ _ _
    refine .drawn 11 Bb (by kernel_rfl) ?_;refine dv (DU AD) ?_;refine dv (Mn (cs:=[.d (.sl (Is s27)),.own 58 (Its s28)]) rfl rfl Bm) ?_;refine dv (Aa) ?_;refine dv (Aa) ?_;refine dv (Aa) ?_;refine dv (AR (Ay _) (CD _) CC) ?_
    obtain ⟨x31,g31,h⟩:=bnd h
    refine dv (Ht (CJ g31)) ?_
    obtain ⟨x32,g32,h⟩:=bnd h
    obtain ⟨n32,p032,q32⟩:=Ag g32
    refine dv (vix n32 p032 (C6 q32) rfl C3) ?_;refine dv (AH Bd AG) ?_
    obtain ⟨x33,g33,h⟩:=bnd h
    refine dv (Am (ID g33) Tryz.call33) ?_;refine dv ((Em (Er x33) (Db [x33]) Cz).deep) ?_;refine dz ?_
    obtain ⟨x34,g34,h⟩:=bnd h
    refine Ou Fe g34 rfl rfl GA ?_ Eu Ay Cz
    refine RL.gk [1,4,5,6,8,9,15,16,85,87,89,90,91,92,93,94,95,96,97,98] ?_;refine vk (DU AD) ?_
    refine IN (cs:=[.d (.sl (Is s27)),.un]) (c:=.un) rfl rfl ?_ JG
    refine .nil ?_
    show AW _ _ _ _ _ _
    refine .gk [1,4,5,6,8,9,15,16] ?_;refine .region ?_;refine vk (Aa) ?_;refine vk (vbi) ?_;refine asd ?_;refine .nil ?_;refine AL.gk [1,4,5,6,8,9,15,16] ?_
    exact ih (k,s23,s24,(w64 (s25+1)),(w64 (s26+x30)),s27,x34) h (Nat.lt_succ_self _)
   refine cnf (dF hc) ?_;refine .gk [4,5,8] ?_;refine .exit ?_
   exact jr (s23,s24,s27,s28) h
  rintro ⟨z19,z20,z21,z22⟩ h
  try dsimp only at h ⊢
  subst hK6
  show AW _ _ _ _ _ _
  refine .seq ?_;refine .sr ?_;refine fz (p:=.c 0 1) ?_;refine vk (GW (cs:=[.d (.sl (Is z21)),.d (.sl (Its z22))]) (ds:=[.sl (Is z21),.sl (Its z22)]) rfl Ac Ab) ?_
  obtain ⟨x35,g35,h⟩:=bnd h
  refine vk (Am (Bs g35) Tryz.call15) ?_;refine vk (vnt) ?_;refine rk [4,5,8,102] ?_
  rcases brc h with ⟨hc,h⟩|⟨hc,h⟩
  ·refine cnf (ntf hc) ?_
   refine .skip ?_
   show AW _ _ _ _ _ _
   refine .sr ?_;refine vk (GW (cs:=[.d (.sl (Is z21)),.d (.sl (Its z22))]) (ds:=[.sl (Is z21),.sl (Its z22)]) rfl Ac Ab) ?_
   refine stn ?_ Ab (by decide)
   refine ar [4,5] ?_;refine .ret ?_
   cases h
   exact ⟨_,_,⟨.inr rfl,Ac,Ab,p2⟩,rfl,rfl⟩
  refine cnt (ntt (bf hc)) ?_;refine .sr ?_;refine vk (vbd Bl As Aw) ?_
  refine stn ?_ Ab (by decide)
  refine ar [4,5,8] ?_;refine .ret ?_
  cases h
  exact ⟨_,_,⟨.inr rfl,Ac,Ab,p2⟩,rfl,rfl⟩
 refine cnt (ntt (dF hc)) ?_;refine .sr ?_;refine vk (vbd Bl As Aw) ?_;refine vk (Aa) ?_
 refine stn ?_ Ab (by decide)
 refine ar [0,1,4,5,6] ?_;refine .ret ?_
 cases h
 exact ⟨_,_,⟨.inr rfl,Ac,Ab,p2⟩,rfl,rfl⟩
def Du (a0:Arr) : Option ((List Itm)):=((B5 a0.shape).bind fun x1=>(Option.bind ((if x1.1=0 then (some true) else ((A8 a0).bind fun x3=>(some (!x3)))) : Option (Bool)) fun (z2:Bool)=>(if z2=true then (some ([])) else ((Cb a0 (⟨.fn 33 [] [],fun x=>Gv x⟩ : BZ)).bind fun x4=>(some (x4.items))))))
theorem Hu {a0:Arr} {r:(List Itm)} (h:Du a0=some r) :
  Fn Tryz.prog 158 [.ag [.sl (Is a0.shape),.sl (Its a0.items)]] (.d (.sl (Its r))):=by
 unfold Du at h
 refine Fn.o1 2 21 Tryz.func158 ?_;refine .sr ?_;refine vk (vbx) ?_;refine asn ?_;refine rk [1,2] ?_;refine .seq ?_;refine .sr ?_;refine vk (vfa Ai) ?_;refine vk (Ah Ax) ?_
 obtain ⟨x1,g1,h⟩:=bnd h
 refine vk (VOK.tupd (vs:=[.i .i64 x1.1,.i .i64 x1.2]) (Am (Cm g1) Tryz.call26)) ?_;refine vk (Aa) ?_;refine vk (vex) ?_;refine vk (vex) ?_;refine asd ?_;refine ar [1,2,3] ?_;refine .seq ?_
 obtain ⟨z2,hz,h⟩:=bnd h
 refine AW.mr (σ:=Unit) (fun _=>True) (fun _=>[(1,.d (.ptr [.sl (Is a0.shape),.sl (Its a0.items)])),(2,.nl),(17,.d (.b z2))]) (fun _=>[]) ?_ ?_
 ·skip
  refine .region ?_;refine vk (Aa) ?_;refine vk (vbi) ?_
  rcases brc hz with ⟨hc,hz⟩|⟨hc,hz⟩
  ·have hb0:(decide (x1.1=0))=true:=(dT hc)
   refine vk (VOK.lit (Aa) hb0) ?_;refine gf ?_;refine gf ?_;refine gf ?_;refine vk (An) ?_;refine RL.gk [1,2,17] ?_;refine .nil ?_
   cases hz
   exact jr () trivial
  have hb0:(decide (x1.1=0))=false:=(dF hc)
  refine vk (VOK.lit (Aa) hb0) ?_;refine vk (AH Ac Ab) ?_
  obtain ⟨x3,g3,hz⟩:=bnd hz
  refine vk (Am (Bs g3) Tryz.call15) ?_;refine vk (vnt) ?_;refine vk (An) ?_;refine RL.gk [1,2,17] ?_;refine .nil ?_
  cases hz
  exact jr () trivial
 rintro _ _
 rcases brc h with ⟨hc,h⟩|⟨hc,h⟩
 ·refine cnt hc ?_
  refine .sr ?_;refine asn ?_;refine rk [1,2] ?_;refine .gh (Gh.nlD (t:=2) rfl) ?_;refine .ret ?_
  cases h
  exact ⟨rfl,rfl⟩
 refine cnf (bf hc) ?_;refine .skip ?_
 show AW _ _ _ _ _ _
 refine .sr ?_;refine vk (AH Ac Ab) ?_
 obtain ⟨x4,g4,h⟩:=bnd h
 refine vk (Am (DO (DY Tryz.call33 (fun _ _ h=>ID h)) g4) Tryz.call69) ?_;refine vk (VX AD Sc) ?_;refine ar [2] ?_;refine .ret ?_
 cases h
 exact ⟨rfl,rfl⟩
def Hp (a0:Arr) : Option (Int×Bool):=((Du a0).bind fun x1=>(Option.bind ((if ((List.length x1:Nat) : Int)=1 then ((rd? x1 0).bind fun x3=>(some (!(decide (x3.kind=1))))) else (some true)) : Option (Bool)) fun (z2:Bool)=>(if z2=true then (some (0,false)) else ((rd? x1 0).bind fun x4=>((F8 x4.num).bind fun x5=>(some (x5.1,x5.2)))))))
theorem LG {a0:Arr} {r:Int×Bool} (h:Hp a0=some r) :
  Fn Tryz.prog 133 [.ag [.sl (Is a0.shape),.sl (Its a0.items)]] (.tup [.d (.i .i64 r.1),.d (.b r.2)]):=by
 unfold Hp at h
 refine Fn.of (rs:=[.tmp 2,.tmp 3]) (nt:=24) Tryz.func133 rfl rfl rfl (by simp) rfl ?_;refine .sr ?_;refine vk (vbx) ?_;refine asd ?_;refine ar [1,2,3] ?_;refine .sr ?_;refine vk (AH Ac Ab) ?_
 obtain ⟨x1,g1,h⟩:=bnd h
 refine vk (Am (Hu g1) Tryz.call158) ?_;refine ar [2,3,4] ?_;refine .seq ?_;refine .seq ?_
 obtain ⟨z2,hz,h⟩:=bnd h
 refine AW.mr (σ:=Unit) (fun _=>True) (fun _=>[(2,.d (.i .i64 0)),(3,.d (.b false)),(4,.d (.sl (Its x1))),(16,.d (.b z2))]) (fun _=>[]) ?_ ?_
 ·skip
  refine .region ?_;refine vk (Aa) ?_;refine vk (AR (Ay _) (CD _) CC) ?_;refine vk (vbi) ?_
  rcases brc hz with ⟨hc,hz⟩|⟨hc,hz⟩
  ·have hb0:(!(decide (((List.length x1:Nat):Int)=1)))=false:=(ntf (dT hc))
   refine vk (VOK.lit (Aa) hb0) ?_;refine vk (Aa) ?_
   obtain ⟨x3,g3,hz⟩:=bnd hz
   obtain ⟨n3,p03,q3⟩:=Ag g3
   refine vk (vix n3 p03 (C6 q3) rfl C3) ?_;refine vk (vfa Ds) ?_;refine vk (Ah BX) ?_;refine vk (vbi) ?_;refine vk (An) ?_;refine RL.gk [2,3,4,16] ?_;refine .nil ?_
   cases hz
   exact jr () trivial
  have hb0:(!(decide (((List.length x1:Nat):Int)=1)))=true:=(ntt (dF hc))
  refine vk (VOK.lit (Aa) hb0) ?_;refine gf ?_;refine gf ?_;refine gf ?_;refine gf ?_;refine gf ?_;refine vk (An) ?_;refine RL.gk [2,3,4,16] ?_;refine .nil ?_
  cases hz
  exact jr () trivial
 rintro _ _
 rcases brc h with ⟨hc,h⟩|⟨hc,h⟩
 ·refine cnt hc ?_
  refine .sr ?_;refine asd ?_;refine ar [2,3,4] ?_;refine .ret ?_
  cases h
  exact ⟨by decide,rfl,rfl,rfl⟩
 refine cnf (bf hc) ?_;refine .skip ?_
 show AW _ _ _ _ _ _
 refine .sr ?_;refine vk (Aa) ?_
 obtain ⟨x4,g4,h⟩:=bnd h
 obtain ⟨n4,p04,q4⟩:=Ag g4
 refine vk (vix n4 p04 (C6 q4) rfl C3) ?_;refine vk (vfa B9) ?_;refine vk (AH Jx HW) ?_
 obtain ⟨x5,g5,h⟩:=bnd h
 refine vk (VOK.tupd (vs:=[.i .i64 x5.1,.b x5.2]) (Am (J4 g5) Tryz.call124)) ?_;refine vk (vex) ?_;refine vk (vex) ?_;refine asd ?_;refine ar [2,3] ?_;refine .ret ?_
 cases h
 exact ⟨by decide,rfl,rfl,rfl⟩
def chB (c:Int) : Bool:=decide (0≤c)&&(decide (c≤1114111)&&(decide (c<55296)||decide (57343<c)))
theorem Qe (c:Int) : E8 c=some (chB c):=rfl
def A6 (a:Arr) : Bool:=a.shape.isEmpty&&match a.items with
 | [x]=>decide (x.kind≠3)
 | _=>false
theorem J9 (a:Arr) : CY a=some (A6 a):=by
 unfold CY A6
 cases hs:a.shape with
 | nil =>
  rw [if_pos (by simp)]
  match hi:a.items with
  | []=>rw [if_neg (by simp)];rfl
  | [x]=>rw [if_pos (by simp),Js];simp
  | x::y::r=>rw [if_neg (by simp;omega)];rfl
 | cons z zs=>rw [if_neg (by simp;omega)];rfl
mutual
def rI : Itm→Bool
 | .mk k n c b=>if k=1 then (Fl n&&(decide (c=0)&&decide (b.length=0))) else if k=2 then (chB c&&(Es (.mk k n c b)&&decide (b.length=0))) else if k=3 then (decide (b.length=1)&&(Es (.mk k n c b)&&(decide (c=0)&&rBs b))) else false
def rA : Arr→Bool
 | .mk s i=>decide ((szP s).2=0)&&(decide ((i.length:Int)=if (szP s).1<1 then 1 else (szP s).1)&&rIs i)
def rIs : List Itm→Bool
 | []=>true
 | x::xs=>rI x&&rIs xs
def rBs : List Arr→Bool
 | []=>true
 | a::r=>(!A6 a&&rA a)&&rBs r
end
mutual
def cI : Itm→Nat
 | .mk _ _ _ b=>cBs b
def cA : Arr→Nat
 | .mk _ i=>i.length+cIs i
def cIs : List Itm→Nat
 | []=>0
 | x::xs=>cI x+cIs xs
def cBs : List Arr→Nat
 | []=>0
 | a::r=>cA a+cBs r
end
mutual
def dI : Itm→Nat
 | .mk _ _ _ b=>dBs b
def dA : Arr→Nat
 | .mk s i=>if A6 (.mk s i) then 0 else 1+dIs i
def dIs : List Itm→Nat
 | []=>0
 | x::xs=>max (dI x) (dIs xs)
def dBs : List Arr→Nat
 | []=>0
 | a::r=>max (dA a) (dBs r)
end
theorem RE (x:Itm) : rI x=if x.kind=1 then (Fl x.num&&(decide (x.char=0)&&decide (x.box.length=0))) else if x.kind=2 then (chB x.char&&(Es x&&decide (x.box.length=0))) else if x.kind=3 then (decide (x.box.length=1)&&(Es x&&(decide (x.char=0)&&rBs x.box))) else false:=by
 cases x;simp only [rI];rfl
theorem Ic (a:Arr) : rA a=(decide ((szP a.shape).2=0)&&(decide ((a.items.length:Int)=if (szP a.shape).1<1 then 1 else (szP a.shape).1)&&rIs a.items)):=by cases a;simp only [rA];rfl
theorem Hq (a:Arr) : cA a=a.items.length+cIs a.items:=by cases a;simp only [cA];rfl
theorem Ni (x:Itm) : cI x=cBs x.box:=by cases x;simp only [cI];rfl
theorem Ie (a:Arr) : dA a=if A6 a then 0 else 1+dIs a.items:=by cases a;simp only [dA];rfl
theorem PX (x:Itm) : dI x=dBs x.box:=by cases x;simp only [dI];rfl
def up (d deep n:Nat) : Nat:=if n=0 then d else max d (deep+n)
theorem Vm (d deep n m:Nat) : up (up d deep n) deep m=up d deep (max n m):=by unfold up;split<;>split<;>split<;>omega
theorem VF {d deep n:Nat} (h:d≤16) (h2:deep+n≤16) : up d deep n≤16:=by unfold up;split<;>omega
def MJ (f:Int→Int→Int→Option M3) (r:Bool) (n dp:Nat) : Prop:=∀ deep c d : Nat,deep≤16→c≤16384→d≤16 →
 (r=true→deep+dp≤16→c+n≤16384→f deep c d=some (true,((c+n:Nat):Int),((up d deep dp:Nat):Int))) ∧
 (¬(r=true∧deep+dp≤16∧c+n≤16384)→∃ z,f deep c d=some (false,z))
theorem Ld (x:Itm) : Es x=true↔x.num=(false,[],[]):=by
 unfold Es
 simp only [Bool.and_eq_true,Bool.not_eq_true',decide_eq_true_eq]
 constructor
 ·rintro ⟨h1,h2,h3⟩
  exact Prod.ext h1 (Prod.ext (List.length_eq_zero_iff.1 (by omega)) (List.length_eq_zero_iff.1 (by omega)))
 ·intro h;rw [h];simp
theorem L2 {rc:Arr→Int→Int→Int→Option M3} {x:Itm} (hx:okI x) (hrc:∀ a∈x.box,MJ (rc a) (rA a) (cA a) (dA a)) : MJ (LP rc x) (rI x) (cI x) (dI x):=by
 have ox:=(ER x).1 hx
 intro deep c d h1 h2 h3
 unfold LP
 rw [RE,Ni,PX]
 have e0:(((x.box.length:Nat):Int)=0)↔x.box.length=0:=by omega
 have e1:(((x.box.length:Nat):Int)=1)↔x.box.length=1:=by omega
 by_cases k1:x.kind=1
 ·rw [if_pos k1,if_pos k1,Kc ox.2.1,oB]
  simp only [e0]
  by_cases hb:x.box.length=0
  ·have:x.box=[]:=List.length_eq_zero_iff.1 hb
   rw [this]
   simp only [cBs,dBs,List.length_nil,decide_true,Bool.and_true,Nat.add_zero]
   refine ⟨fun hr _ _=>by rw [hr];rfl,fun hn=>?_⟩
   have:(Fl x.num&&decide (x.char=0))=false:=by
    cases hq:(Fl x.num&&decide (x.char=0)) with
    | false=>rfl
    | true=>exact absurd ⟨hq,h1,h2⟩ hn
   rw [this];exact ⟨_,rfl⟩
  ·simp only [hb,decide_false,Bool.and_false]
   exact ⟨fun h=>by simp at h,fun _=>⟨_,rfl⟩⟩
 rw [if_neg k1,if_neg k1]
 by_cases k2:x.kind=2
 ·rw [if_pos k2,if_pos k2,Qe,oB]
  simp only [e0]
  by_cases hb:x.box.length=0
  ·have:x.box=[]:=List.length_eq_zero_iff.1 hb
   rw [this]
   simp only [cBs,dBs,List.length_nil,decide_true,Bool.and_true,Nat.add_zero]
   refine ⟨fun hr _ _=>by rw [hr];rfl,fun hn=>?_⟩
   have:(chB x.char&&Es x)=false:=by
    cases hq:(chB x.char&&Es x) with
    | false=>rfl
    | true=>exact absurd ⟨hq,h1,h2⟩ hn
   rw [this];exact ⟨_,rfl⟩
  ·simp only [hb,decide_false,Bool.and_false]
   exact ⟨fun h=>by simp at h,fun _=>⟨_,rfl⟩⟩
 rw [if_neg k2,if_neg k2]
 by_cases k3:x.kind=3
 ·rw [if_pos k3,if_pos k3]
  simp only [e1]
  by_cases hb:x.box.length=1
  rotate_left
  ·rw [if_neg hb];simp only [hb,decide_false,Bool.false_and]
   exact ⟨fun h=>by simp at h,fun _=>⟨_,rfl⟩⟩
  rw [if_pos hb]
  by_cases hn:Es x=true
  rotate_left
  ·rw [if_neg hn];simp only [hn,hb,decide_true,Bool.true_and,Bool.false_and]
   exact ⟨fun h=>by simp at h,fun _=>⟨_,rfl⟩⟩
  rw [if_pos hn]
  by_cases hc:x.char=0
  rotate_left
  ·rw [if_neg hc];simp only [hn,hb,hc,decide_true,decide_false,Bool.true_and,Bool.false_and]
   exact ⟨fun h=>by simp at h,fun _=>⟨_,rfl⟩⟩
  rw [if_pos hc]
  obtain ⟨a,ha⟩:∃ a,x.box=[a]:=List.length_eq_one_iff.1 hb
  have hm:=hrc a (by rw [ha];simp)
  rw [ha,Js,oB,J9,oB]
  simp only [hn,hc,decide_true,Bool.true_and,rBs,cBs,dBs,Bool.and_true,Nat.add_zero,Nat.max_zero,List.length_cons,List.length_nil]
  by_cases hs:A6 a=true
  ·rw [if_pos hs];simp only [hs]
   exact ⟨fun h=>by simp at h,fun _=>⟨_,rfl⟩⟩
  rw [if_neg hs,oB]
  have hs':A6 a=false:=by simpa using hs
  simp only [hs',Bool.not_false,Bool.true_and]
  obtain ⟨m1,m2⟩:=hm deep c d h1 h2 h3
  refine ⟨fun hr g1 g2=>by rw [m1 hr g1 g2];rfl,fun hn=>?_⟩
  obtain ⟨z,hz⟩:=m2 hn
  exact ⟨z,by rw [hz];rfl⟩
 ·rw [if_neg k3,if_neg k3]
  exact ⟨fun h=>by simp at h,fun _=>⟨_,rfl⟩⟩
theorem KZ {rc:Arr→Int→Int→Int→Option M3} : ∀ {xs:List Itm},(∀ x∈xs,MJ (LP rc x) (rI x) (cI x) (dI x))→MJ (fun deep c d=>IT rc deep xs c d) (rIs xs) (cIs xs) (dIs xs)
 | [],_=>fun deep c d h1 h2 h3=>by
  simp only [IT,rIs,cIs,dIs]
  exact ⟨fun _ _ _=>rfl,fun h=>absurd ⟨trivial,h1,h2⟩ h⟩
 | x::xs,hx=>fun deep c d h1 h2 h3=>by
  obtain ⟨m1,m2⟩:=hx x (by simp) deep c d h1 h2 h3
  have ih:=KZ (xs:=xs) fun y hy=>hx y (by simp [hy])
  simp only [IT,rIs,cIs,dIs]
  by_cases hc:rI x=true∧deep+dI x≤16∧c+cI x≤16384
  ·obtain ⟨p1,p2,p3⟩:=hc
   rw [m1 p1 p2 p3,oB,if_pos rfl,p1,Bool.true_and]
   obtain ⟨n1,n2⟩:=ih deep (c+cI x) (up d deep (dI x)) h1 p3 (VF h3 p2)
   refine ⟨fun hr g1 g2=>?_,fun hn=>n2 fun ⟨q1,q2,q3⟩=>hn ⟨q1,by omega,by omega⟩⟩
   have:=n1 hr (by omega) (by omega)
   rw [Vm,Nat.add_assoc] at this
   exact this
  ·obtain ⟨z,hz⟩:=m2 hc
   rw [hz,oB,if_neg (by simp)]
   refine ⟨fun hr g1 g2=>absurd ⟨?_,by omega,by omega⟩ hc,fun _=>⟨_,rfl⟩⟩
   simp only [Bool.and_eq_true] at hr;exact hr.1
theorem NX {a:Arr} (hs:A6 a=true) (hr:rIs a.items=true) : dIs a.items=0∧cIs a.items=0:=by
 unfold A6 at hs
 rw [Bool.and_eq_true] at hs
 match hi:a.items,hs.2 with
 | [x],h2 =>
  rw [hi] at hr
  simp only [rIs,Bool.and_true] at hr
  rw [RE] at hr
  have h3:x.kind≠3:=by simpa using h2
  have hb:x.box=[]:=by
   by_cases k1:x.kind=1
   ·rw [if_pos k1] at hr;simp only [Bool.and_eq_true,decide_eq_true_eq] at hr;exact List.length_eq_zero_iff.1 hr.2.2
   rw [if_neg k1] at hr
   by_cases k2:x.kind=2
   ·rw [if_pos k2] at hr;simp only [Bool.and_eq_true,decide_eq_true_eq] at hr;exact List.length_eq_zero_iff.1 hr.2.2
   rw [if_neg k2,if_neg h3] at hr;cases hr
  simp [dIs,cIs,PX,Ni,hb,dBs,cBs]
theorem Rs {rc:Arr→Int→Int→Int→Option M3} {a:Arr} (ha:okAr a) (hx:∀ x∈a.items,MJ (LP rc x) (rI x) (cI x) (dI x)) : MJ (Rp rc a) (rA a) (cA a) (dA a):=by
 have oa:=(BN a).1 ha
 intro deep c d h1 h2 h3
 have hl:=MH a.shape
 unfold Rp
 rw [Jd oa.2.1,oB,Ic,Hq,Ie]
 by_cases e1:(szP a.shape).2=0
 rotate_left
 ·rw [if_neg e1];simp only [e1,decide_false,Bool.false_and]
  exact ⟨fun h=>by simp at h,fun _=>⟨_,rfl⟩⟩
 rw [if_pos e1]
 by_cases e2:(a.items.length:Int)=if (szP a.shape).1<1 then 1 else (szP a.shape).1
 rotate_left
 ·rw [if_neg e2];simp only [e1,e2,decide_true,decide_false,Bool.true_and,Bool.false_and]
  exact ⟨fun h=>by simp at h,fun _=>⟨_,rfl⟩⟩
 rw [if_pos e2]
 have hlen:a.items.length≤4096:=by
  split at e2<;>omega
 simp only [e1,decide_true,Bool.true_and]
 rw [dT e2,Bool.true_and]
 have hw:w64 ((c:Int)+((a.items.length:Nat):Int))=((c+a.items.length:Nat):Int):=by rw [BP (by omega) (by omega)];omega
 rw [hw]
 by_cases e3:(16384:Int)<((c+a.items.length:Nat):Int)
 ·rw [if_pos e3]
  exact ⟨fun _ _ _=>by omega,fun _=>⟨_,rfl⟩⟩
 rw [if_neg e3,J9,oB]
 have hi:=KZ hx
 by_cases hs:A6 a=true
 ·simp only [if_pos hs]
  rw [if_pos (show (deep:Int)≤16 by omega)]
  obtain ⟨m1,m2⟩:=hi deep (c+a.items.length) d h1 (by omega) h3
  refine ⟨fun hr g1 g2=>?_,fun hn=>m2 fun ⟨q1,q2,q3⟩=>hn ⟨q1,by omega,by omega⟩⟩
  obtain ⟨s1,s2⟩:=NX hs hr
  have:=m1 hr (by omega) (by omega)
  rw [s1,Nat.add_assoc] at this
  exact this
 simp only [if_neg hs]
 have hw2:w64 ((deep:Int)+1)=((deep+1:Nat):Int):=by rw [BP (by omega) (by omega)];omega
 rw [hw2]
 have hmx:(if (d:Int)<((deep+1:Nat):Int) then ((deep+1:Nat):Int) else (d:Int))=((max d (deep+1):Nat):Int):=by split<;>omega
 rw [hmx]
 by_cases e4:((deep+1:Nat):Int)≤16
 rotate_left
 ·rw [if_neg e4]
  exact ⟨fun _ _ _=>by omega,fun _=>⟨_,rfl⟩⟩
 rw [if_pos e4]
 obtain ⟨m1,m2⟩:=hi (deep+1) (c+a.items.length) (max d (deep+1)) (by omega) (by omega) (by omega)
 refine ⟨fun hr g1 g2=>?_,fun hn=>m2 fun ⟨q1,q2,q3⟩=>hn ⟨q1,by omega,by omega⟩⟩
 have:=m1 hr (by omega) (by omega)
 have hup:up (max d (deep+1)) (deep+1) (dIs a.items)=up d deep (1+dIs a.items):=by unfold up;split<;>split<;>omega
 rw [hup,Nat.add_assoc] at this
 exact this
theorem LA : ∀ (k:Nat) {a:Arr},a.size<k→okAr a→MJ (Lr k a) (rA a) (cA a) (dA a)
 | 0,a,h,_=>by omega
 | k+1,a,h,ha=>by
  have oa:=(BN a).1 ha
  have:=Rs (rc:=Lr k) ha fun x hx=>L2 (oa.2.2.2 x hx) fun b hb=>LA k (by have:=I7 hx;have:=HB hb;omega) (((ER x).1 (oa.2.2.2 x hx)).2.2.2.2 b hb)
  intro deep c d h1 h2 h3
  simp only [Lr]
  rw [if_pos (by omega)]
  exact this deep c d h1 h2 h3
theorem NG {a:Arr} (ha:okAr a) : MJ (mAr a) (rA a) (cA a) (dA a):=LA _ (Nat.lt_succ_self _) ha
theorem R6 {x:Itm} (hx:okI x) : MJ (mIt x) (rI x) (cI x) (dI x):=L2 hx fun a ha=>NG (((ER x).1 hx).2.2.2.2 a ha)
def Bc (a:Arr) : Prop:=rA a=true∧dA a≤16∧cA a≤16384
def Cc (x:Itm) : Prop:=rI x=true∧dI x≤16∧cI x≤16384
instance (a:Arr) : Decidable (Bc a):=by unfold Bc;infer_instance
instance (x:Itm) : Decidable (Cc x):=by unfold Cc;infer_instance
theorem J1 {a:Arr} (ha:okAr a) : Ez a=some (if Bc a then (((cA a:Nat) : Int),((dA a:Nat) : Int)) else (0,0),decide (Bc a)):=by
 obtain ⟨m1,m2⟩:=NG ha 0 0 0 (by omega) (by omega) (by omega)
 unfold Ez
 by_cases h:Bc a
 ·have:=m1 h.1 (by have:=h.2.1;omega) (by have:=h.2.2;omega)
  rw [show ((0:Nat):Int)=0 from rfl] at this
  rw [this,if_pos h,dT h]
  have hu:up 0 0 (dA a)=dA a:=by unfold up;split<;>omega
  simp [hu]
 ·obtain ⟨z,hz⟩:=m2 fun ⟨q1,q2,q3⟩=>h ⟨q1,by omega,by omega⟩
  rw [show ((0:Nat):Int)=0 from rfl] at hz
  rw [hz,if_neg h,dF h];rfl
theorem FC {a:Arr} (ha:okAr a) : A8 a=some (decide (Bc a)):=by unfold A8;rw [J1 ha,oB]
theorem RH {a:Arr} (ha:okAr a) : EX a=some (if Bc a then ((cA a:Nat) : Int) else 0):=by
 unfold EX;rw [J1 ha,oB];split<;>rfl
theorem MD {x:Itm} (hx:okI x) : EZ x=some (decide (Cc x)):=by
 obtain ⟨m1,m2⟩:=R6 hx 0 0 0 (by omega) (by omega) (by omega)
 unfold EZ
 by_cases h:Cc x
 ·have:=m1 h.1 (by have:=h.2.1;omega) (by have:=h.2.2;omega)
  rw [show ((0:Nat):Int)=0 from rfl] at this
  rw [this,dT h];rfl
 ·obtain ⟨z,hz⟩:=m2 fun ⟨q1,q2,q3⟩=>h ⟨q1,by omega,by omega⟩
  rw [show ((0:Nat):Int)=0 from rfl] at hz
  rw [hz,dF h];rfl
theorem Qq {a b:List Nat} (ha:okL 1048576 a=true) (hb:okL 35184372087808 b=true) : HJ a b=some (decide (a=b)):=if_pos (by rw [ha,hb];rfl)
theorem Ti {p:Rat} (hp:N4 p) : Gl (ofQ p)=some (decide (p.den=1)):=by
 unfold Gl
 rw [Kc (Hh hp),Jw hp,oB,if_pos rfl,QD,oB]
 rw [show HJ (ofQ p).2.2 [1]=some (decide (A1 p.den=[1])) from Qq (KT hp.2 (by decide)) (by rfl),oB,oB]
 congr 1
 exact decide_eq_decide.2 I8
end Go.FL
namespace Go.FL
open Go Go.RowKit
section
variable {P:Program} {C:Cx} {X:Snap} {o:Oper} {ops:Array Oper} {Q:Exit→Env→Af→Prop} {env env':Env} {H H':Af} {a:Act} {w w':World} {I I':Nat→Prop} {μ μ':List Nat} {O O':Nat→Option Loc}
 {K:Env→Af→Prop} {k:Nat} {l:List Oper}
theorem Tm {blk:Nat} {u0 u1 v0 v1:Value} {e:TypeId} (h:w.heap[blk]?=some (.cells #[u0,u1] e (0,0))) : w.setRow blk #[v0,v1]=(w.setCell ⟨blk,0,none⟩ v0).setCell ⟨blk,1,none⟩ v1:=by
 obtain ⟨hlt,hv⟩:=Array.getElem?_eq_some_iff.1 h
 have e1:w.heap.modify blk (fun|.cells _ elem frozen=>.cells #[v0,v1] elem frozen|o=>o)=(w.heap.modify blk (fun|.cells c elem frozen=>.cells (c.setIfInBounds 0 v0) elem frozen|o=>o)).modify blk (fun|.cells c elem frozen=>.cells (c.setIfInBounds 1 v1) elem frozen|o=>o):=by
  apply Array.ext
  ·simp
  ·intro i h1 h2
   simp only [Array.getElem_modify]
   by_cases hi:blk=i
   ·subst hi;simp only [if_true,hv];simp
   ·simp only [if_neg hi]
 unfold World.setRow World.setCell
 simp only [Option.isSome_none,Bool.false_eq_true,if_false]
 exact congrArg (fun x=>({w with heap:=x}:World)) e1
theorem bdo {ty s t e:Nat} {parts:Array (Nat×Operand)} {places:List (Nat×Nat)} {z:Value} {xs:List DV} (hp:DN P ty=some places) (hz:(P.info? ty).bind (·.zero)=some z) (hzr:z=.agg #[.slice none 0 0,.slice none 0 0]) (h:RL P C ops Q (k+1) l ((t,.ag [.own e xs,.nl])::(s,.un)::env) H)
  (hpl:places=[(0,1),(1,1)]:=by rfl) (hg:grd ops env o true=true:=by rfl) (ho:o.op=.build ty parts:=by rfl) (hpa:parts=#[(0,.tmp s)]:=by rfl) (hv:get env s=.own e xs:=by rfl) (hd:o.dst=some t:=by rfl)
  (hf:Al (get env t)=false:=by rfl) (hr:Dl s env=false:=by rfl) (ht:okT C.nt t:=by rfl):RL P C ops Q k (o::l) env H:=by
 have hst:=Ff hv hf
 subst hpl hzr
 refine .go hg (.val (t:=t) (av:=.ag [.own e xs,.nl]) (env':=put env s .un) (H':=H) (by simp [ho]) hd ht (fun X a w I μ O _ _ _ hs=>?_) ?_)
 ·obtain ⟨k1,bs,k2,k3,k4⟩:=hs.take s (by rw [hv];rfl)
  rw [hv] at k2
  have hb:P.built ty [(0,a.tmps.getD s undef)]=some #[a.tmps.getD s undef,.slice none 0 0]:=by
   unfold DN at hp
   unfold Program.built
   cases hi:P.info? ty with
   | none=>rw [hi] at hz;cases hz
   | some it =>
    rw [hi] at hz
    simp only [oB] at hz
    split at hp
    ·rename_i fields hu
     simp only [hu,hz,hp]
     have hone:∃ A n c,a.tmps.getD s undef=.slice A n c:=by
      generalize a.tmps.getD s undef=u at k2
      cases k2 with
      | own _ _ _ vs hsz ho' hr' =>
       rcases ho' with ⟨A,h1,_⟩|⟨_,g,cap,h1,_⟩<;>exact ⟨_,_,_,h1⟩
     obtain ⟨A,n,c,hu3⟩:=hone
     rw [hu3]
     simp [Instr.fill,Value.cells]
    ·cases hp
  refine ⟨.agg #[a.tmps.getD s undef,.slice none 0 0],w,I,μ,_,?_,k1,bs,?_,k3,k4⟩
  ·simp only [execOp,ho,hpa,Sem.run_bind]
   have:=run_build (P:=P) w ty #[(0,a.tmps.getD s undef)] #[a.tmps.getD s undef,.slice none 0 0] (by simpa using hb)
   simp only [List.map_toArray,List.map_cons,List.map_nil,Act.eval]
   rw [this]
   simp only [Result.andThen_ok,Sem.run_pure]
  ·have:=ARep.ag (ARepAll.cons k2 (ARepAll.cons (.nl (P:=P) (w:=w) (I:=I) (μ:=μ)) .nil))
   simpa using this
 ·refine RL.gh (Gh.same fun q=>?_) h
  have h1:Al (get (put env s .un) t)=false:=by rw [C7 hr];simp [get,hst,hf]
  rw [Ak h1]
  simp only [get]
  split
  ·rfl
  ·rw [C7 hr];rfl
theorem st2 {x:Operand} {r ty id:Nat} {c0 c1 a0 a1:AV} (hH:H[id]?=some (.box [c0,c1])) (h:RL P C ops Q (k+1) l ((r,.un)::env) (H.set id (.box [a0,a1]))) (hsz:AA P ty=2) (hg:grd ops env o true=true:=by rfl)
  (ho:o.op=.store ty x (.tmp r):=by rfl) (hv:lk env x=.bp id 0:=by rfl) (hy:get env r=.ag [a0,a1]:=by rfl) (n0:Al c0=false:=by rfl) (n1:Al c1=false:=by rfl) (m0:one a0=true:=by rfl) (m1:one a1=true:=by rfl) (hd:o.dst=none:=by rfl) (h0:C.n0=0:=by rfl):RL P C ops Q k (o::l) env H:=by
 obtain ⟨h1,h2⟩:=Av hv (by simp)
 have hlt:id<H.length:=(lS.1 hH).1
 refine .go hg (.done (env':=put env r .un) (H':=H.set id (.box [a0,a1])) (by simp [ho]) hd (fun X a w I μ O _ g2 _ hs=>?_) ?_)
 ·obtain ⟨blk,hm,he⟩:=hs.bp h1 h2
  obtain ⟨k1,bs,k2,k3,k4⟩:=hs.take r (by rw [hy];rfl)
  rw [hy] at k2
  generalize hev:a.tmps.getD r undef=u at k2
  cases k2 with
  | @ag _ vs _ k2 =>
   cases k2 with
   | @cons _ v0 _ _ b0 b1' q0 k2 =>
    cases k2 with
    | @cons _ v1 _ _ b1 b2 q1 k2 =>
     cases k2
     rw [List.append_nil] at k3 k4
     obtain ⟨d0,d1,d2⟩:=List.nodup_append.1 k3
     obtain ⟨s1,⟨y1,w1⟩,f1⟩:=k1.storeC (off:=0) hH rfl hm (by omega) q0 d0 fun b hb=>k4 b (by simp [hb])
     rw [n0] at s1
     have e1:EJ H id 0 a0=H.set id (.box [a0,c1]):=by simp [EJ,hH]
     rw [e1] at s1
     have hH1:(H.set id (.box [a0,c1]))[id]?=some (.box [a0,c1]):=List.getElem?_set_self hlt
     have q1':ARep P (w.setCell ⟨blk,0,none⟩ v0) I μ a1 v1 b1:=by
      obtain ⟨blk',bs',g1,⟨cells,et,g3,g4⟩,g5,_⟩:=k1.heap id _ hH
      rw [hm] at g1;cases g1
      have hOb:=(g5 (by omega)).2 blk (by simp)
      refine q1.keep (fun _ h=>h) (fun b hi=>heap_setCell_other w _ b v0 fun e=>?_) (fun _ _ h=>h) fun b hb=>heap_setCell_other w _ b v0 fun e=>?_
      ·have e':b=blk:=e
       subst e';exact (k1.own _ _ hOb).2 hi
      ·have e':b=blk:=e
       subst e'
       have h7:(O b).map (toR r)=some .r:=k4 b (by simp [hb])
       have h8:(O b).map (toR r)=some (.o id):=hOb
       rw [h7] at h8;cases h8
     obtain ⟨s2,⟨y2,w2⟩,f2⟩:=s1.storeC (off:=1) hH1 rfl hm (by omega) q1' d1 fun b hb=>by
      show (if b∈b0 then _ else _)=_
      rw [if_neg fun hm=>d2 b hm b hb rfl];exact k4 b (by simp [hb])
     rw [n1] at s2
     have e2:EJ (H.set id (.box [a0,c1])) id 1 a1=H.set id (.box [a0,a1]):=by simp [EJ,hH1]
     rw [e2] at s2
     refine ⟨_,I,μ,_,?_,s2⟩
     obtain ⟨blk',bs',g1,⟨cells,et,g3,g4⟩,g5,_⟩:=k1.heap id _ hH
     rw [hm] at g1;cases g1
     have hcl:cells.toList.length=2:=g4.length.symm
     obtain ⟨u0,u1,hcc⟩:∃ u0 u1,cells=#[u0,u1]:=by
      obtain ⟨l⟩:=cells
      match l,hcl with
      | [x,y],_=>exact ⟨x,y,rfl⟩
     rw [hcc] at g3
     have hone0:=GQ q0 m0
     have hone1:=GQ q1 m1
     obtain ⟨i,i1,i2⟩:=Gp (P:=P) (t:=ty) (by omega)
     have hsi:(P.info? ty).map (·.size)=some (#[v0,v1]:Array Value).size:=by rw [i1];simp;omega
     have hrun:=run_storeVar_row (P:=P) w blk et ty #[u0,u1] #[v0,v1] g3 hsi rfl (by simp [hone0,hone1])
     have hevr:a.eval (.tmp r)=.agg #[v0,v1]:=by show a.tmps.getD r undef=_;rw [hev]
     simp only [execOp,ho,he,hevr,Instr.storeAt,Instr.sureAddr,Sem.run_bind,Sem.run_pure,Result.andThen_ok,hrun]
     rw [Tm g3]
 ·refine RL.gh (Gh.same fun q=>?_) h
  rw [Ak (by rw [hy];rfl)]
section
variable {nt:Nat×Nat} {J:JT} {ags:List Value} {QJ:Exit→Env→Af→Nat→Prop} {n:Nat}
end
end
end Go.FL
namespace Go.FL
open Go Go.Proofs
section
variable {S:Type}
def OO (step:Itm→S→Option (Bool×S)) : List Itm→S→Option (Bool×S)
 | [],s=>some (true,s)
 | x::xs,s=>(step x s).bind fun r=>if r.1=true then OO step xs r.2 else some (false,r.2)
def Qa (step:Itm→S→Option (Bool×S)) (x:Itm) (s:S) : Option (Bool×S):=(step x s).map fun r=>(!r.1,r.2)
theorem PQ {step:Itm→S→Option (Bool×S)} : ∀ {xs:List Itm} {s:S} {z:Bool×S} {i:Int},0≤i→OO step xs s=some z→∃ n,Ks (Qa step) xs s i=some (n,z.2)∧(!decide (0≤n))=z.1
 | [],s,z,i,_,h=>by cases h;exact ⟨-1,rfl,rfl⟩
 | x::xs,s,z,i,hi,h=>by
  rw [OO] at h
  obtain ⟨y,hy,h⟩:=bnd h
  have hs:Qa step x s=some (!y.1,y.2):=by simp [Qa,hy]
  by_cases hc:y.1=true
  ·rw [if_pos hc] at h
   obtain ⟨n,h1,h2⟩:=PQ (i:=i+1) (by omega) h
   refine ⟨n,?_,h2⟩
   rw [Ks,hs,oB,if_neg (by simp [hc])];exact h1
  ·rw [if_neg hc] at h
   cases h
   refine ⟨i,?_,by simp [hi]⟩
   rw [Ks,hs,oB,if_pos (by simp [hc])]
end
theorem U5 {S:Type} {step:Itm→S→Option (Bool×S)} {obj:S→HO} {f:FuncId} {caps:List AV} {id:Nat} (hcall:∀ args w,(callFunc f args).run Tryz.prog w=.ok (.enter f args) w) (hnc:noOwnL caps=true)
  (hstep:∀ (x:Itm) s r H,H[id]?=some (obj s)→step x s=some r→FnR Tryz.prog f (.d (dvI x)::caps) H fun v H'=>v=.d (.b r.1)∧Upd H id (obj r.2) H')
  {x:Itm} {s:S} {r:Bool×S} {H:Af} {n3:Nat} (hs:H[id]?=some (obj s)) (h3:H[n3]?=some (.box [.fn f [] caps])) (h:Qa step x s=some r) :
  FnR Tryz.prog 159 [.d (dvI x),.bp n3 0] H fun v H'=>v=.d (.b r.1)∧Upd H id (obj r.2) H':=by
 simp only [Qa,Option.map_eq_some_iff] at h
 obtain ⟨y,hy,rfl⟩:=h
 have hfn:noOwn (.fn f [] caps)=true:=by simp [noOwn,noOwnL,hnc]
 refine FnR.of (rs:=[.tmp 3]) 8 Tryz.func159 rfl rfl rfl (by simp) ?_;refine .sr ?_;refine vk (vbx) ?_;refine asd ?_;refine rn ?_;refine .sr ?_;refine vk (Mu (cs:=[.fn f [] caps]) (c:=.fn f [] caps) h3 rfl (by kernel_rfl) (hn:=hfn)) ?_;refine vk (AH Bd AG) ?_
 refine VE (avs:=[.d (dvI x)]) (hstep _ _ _ _ hs hy) hcall (fun v H' hp=>?_) (hnc:=hnc)
 obtain ⟨rfl,hp⟩:=hp
 refine vk (vnt) ?_;refine asd ?_;refine rn ?_;refine .ret ?_
 exact ⟨_,⟨rfl,rfl⟩,rfl,hp⟩
def Ss {S:Type} (step:Itm→S→Option (Bool×S)) (a:Arr) (s:S) : Option (Bool×S) :=
 (A8 a).bind fun x1=>if x1=true then (if ((List.length a.shape:Nat):Int)≤1 then (Du a).bind fun l=>if l.length≤9223372036854775806 then OO step l s else none else some (false,s)) else some (false,s)
set_option maxRecDepth 10000 in
theorem Vj {S:Type} {step:Itm→S→Option (Bool×S)} {obj:S→HO} {f:FuncId} {caps:List AV} {id:Nat} (hcall:∀ args w,(callFunc f args).run Tryz.prog w=.ok (.enter f args) w) (hnc:noOwnL caps=true)
  (hstep:∀ (x:Itm) s r H,H[id]?=some (obj s)→step x s=some r→FnR Tryz.prog f (.d (dvI x)::caps) H fun v H'=>v=.d (.b r.1)∧Upd H id (obj r.2) H')
  {a:Arr} {s:S} {r:Bool×S} {H:Af} (hs:H[id]?=some (obj s)) (h:Ss step a s=some r) :
  FnR Tryz.prog 122 [.d (dvA a),.fn f [] caps] H fun v H'=>v=.d (.b r.1)∧Upd H id (obj r.2) H':=by
 unfold Ss at h
 have hfn:noOwn (.fn f [] caps)=true:=by simp [noOwn,noOwnL,hnc]
 have hid:id<H.length:=(lS.1 hs).1
 refine FnR.of (rs:=[.tmp 4]) 20 Tryz.func122 rfl rfl rfl (by simp) ?_;refine .sr ?_;refine vk (vbx) ?_
 refine bxA (c:=.fn f [] caps) ?_ (hn:=hfn)
 refine asd ?_
 have f0:Upd H id (obj s) (H++[.box [.fn f [] caps]]):=⟨by rw [List.getElem?_append_left hid];exact hs,by simp,fun j h1 h2=>by rw [List.getElem?_append_left h2]⟩
 have f3:(H++[HO.box [.fn f [] caps]])[H.length]?=some (.box [.fn f [] caps]):=by simp
 have g3:H.length≠id:=by omega
 generalize H++[HO.box [.fn f [] caps]]=H2 at f0 f3 ⊢
 obtain ⟨n3,hn3⟩:∃ n3,n3=H.length:=⟨_,rfl⟩
 rw [← hn3] at f3 g3 ⊢
 refine rn ?_;refine .gh (Gh.keep [2,3] rfl) ?_;refine .sr ?_;refine vk (AH Ac Ab) ?_
 obtain ⟨x1,hx1,h⟩:=bnd h
 refine vk (Am (Bs hx1) Tryz.call15) ?_
 by_cases hc:x1=true
 rotate_left
 ·rw [if_neg hc] at h
  cases h
  refine vk (VOK.lit (Aa) (bf hc)) ?_;refine gf ?_;refine gf ?_;refine gf ?_;refine gf ?_;refine vk (An) ?_;refine vk (Aa) ?_;refine gf ?_;refine gf ?_;refine gf ?_;refine gf ?_;refine gf ?_;refine vk (An) ?_;refine asd ?_;refine rn ?_;refine .ret ?_
  exact ⟨_,⟨rfl,rfl⟩,rfl,f0⟩
 rw [if_pos hc] at h
 refine vk (VOK.lit (Aa) hc) ?_;refine vk (vfa Ai) ?_;refine vk (Ah Ax) ?_;refine vk (AR (Ad _) (A0 _) AS) ?_;refine vk (vbi) ?_;refine vk (An) ?_
 by_cases hc:((List.length a.shape:Nat):Int)≤1
 rotate_left
 ·rw [if_neg hc] at h
  cases h
  refine vk (VOK.lit (Aa) (dF hc)) ?_;refine gf ?_;refine gf ?_;refine gf ?_;refine gf ?_;refine gf ?_;refine vk (An) ?_;refine asd ?_;refine rn ?_;refine .ret ?_
  exact ⟨_,⟨rfl,rfl⟩,rfl,f0⟩
 rw [if_pos hc] at h
 refine vk (VOK.lit (Aa) (dT hc)) ?_;refine vk (AH Ac Ab) ?_
 obtain ⟨l,hx2,h⟩:=bnd h
 obtain ⟨hl,h⟩:=H9 h
 refine vk (Am (Hu hx2) Tryz.call158) ?_;refine U0 (avs:=[.bp n3 0]) ?_
 obtain ⟨n,h1,h2⟩:=PQ (Int.le_refl 0) h
 have step':=GX (S:=S) (step:=Qa step) (st:=fun s H'=>Upd H id (obj s) H'∧H'[n3]?=some (.box [.fn f [] caps])) (caps:=[.bp n3 0]) Tryz.call159 rfl
  (fun x s y H' hs hy=>by
   obtain ⟨hs0,hs3⟩:=hs
   refine (U5 hcall hnc hstep hs0.1 hs3 hy).mono fun v H'' hp=>⟨hp.1,hs0.trans hp.2,?_⟩
   rw [hp.2.2.2 n3 g3 (lS.1 hs3).1];exact hs3)
  hl h1 (H:=H2) ⟨f0,f3⟩
 refine clR (avs:=[.d (.sl (Its l)),.fn 159 [] [.bp n3 0]]) step' Tryz.call27 (fun v H' hp=>?_)
 obtain ⟨rfl,hp⟩:=hp
 refine vk (vnt) ?_
 rw [h2]
 refine vk (An) ?_;refine asd ?_;refine rn ?_;refine .ret ?_
 exact ⟨_,⟨rfl,rfl⟩,rfl,hp.1⟩
abbrev Qx (s:List Int) : HO:=.box [.own 3 (Is s)]
def JB (x:Itm) (s:List Int) : Option (Bool×List Int):=(F8 x.num).bind fun y=>(ap? 17592186044416 s [y.1]).bind fun o=>some (y.2&&decide (x.kind=1),o)
theorem QM (id:Nat) (x:Itm) (s:List Int) (r:Bool×List Int) (H:Af) (hH:H[id]?=some (Qx s)) (h:JB x s=some r) :
  FnR Tryz.prog 123 (.d (dvI x)::[.bp id 0]) H fun v H'=>v=.d (.b r.1)∧Upd H id (Qx r.2) H':=by
 unfold JB at h
 obtain ⟨y,hy,h⟩:=bnd h
 obtain ⟨z,hz,h⟩:=bnd h
 have hid:id<H.length:=(lS.1 hH).1
 refine FnR.of (rs:=[.tmp 3]) 22 Tryz.func123 rfl rfl rfl (by simp) ?_;refine .sr ?_;refine vk (vbx) ?_;refine asd ?_;refine rn ?_;refine .sr ?_;refine vk (vfa B9) ?_;refine vk (AH Jx HW) ?_;refine vk (VOK.tupd (vs:=[.i .i64 y.1,.b y.2]) (Am (J4 hy) Tryz.call124)) ?_;refine vk (Aa) ?_;refine vk (vex) ?_;refine vk (vex) ?_;refine asd ?_;refine asd ?_;refine rn ?_;refine .gh (Gh.keep [1,2,4,5] rfl) ?_;refine .sr ?_
 refine Ox (cs:=[.own 3 (Is s)]) hH rfl ?_ Ax
 refine vk (Aa) ?_;refine vk (G5 (Cy [y.1]) BL).deep ?_
 have hset:∀ c,(H.set id (.box [c]))[id]?=some (.box [c]):=fun c=>List.getElem?_set_self hid
 refine Ou HG hz hH rfl IV ?_ FU Ad BL (hnc:=by simp [KN,get,HS,NN])
 refine RL.gh (Gh.keep [1,2,4,5,15] rfl) ?_
 refine IN (cs:=[.un]) (c:=.un) (hset _) rfl ?_ H7
 refine rn ?_
 have hfin:(((H.set id (.box [.un])).set id (.box [.own 3 (Is z)])):Af)=H.set id (Qx z):=by simp
 change AW _ _ _ _ _ ((H.set id (.box [.un])).set id (.box [.own 3 (Is z)]))
 rw [hfin]
 have hup:Upd H id (Qx z) (H.set id (Qx z)):=(Upd.same hH).set_id
 refine .gh (Gh.keep [2,4,5] rfl) ?_;refine .sr ?_;refine vk (Aa) ?_
 by_cases hc:y.2=true
 ·refine vk (VOK.lit (Aa) hc) ?_
  refine vk (vfa Ds) ?_;refine vk (Ah BX) ?_;refine vk (vbi) ?_;refine vk (An) ?_;refine asd ?_;refine rn ?_;refine .ret ?_
  cases h
  exact ⟨_,⟨rfl,rfl⟩,by rw [hc];rfl,hup⟩
 ·refine vk (VOK.lit (Aa) (bf hc)) ?_
  refine gf ?_;refine gf ?_;refine gf ?_;refine vk (An) ?_;refine asd ?_;refine rn ?_;refine .ret ?_
  cases h
  exact ⟨_,⟨rfl,rfl⟩,by rw [bf hc];rfl,hup⟩
def Fr (a:Arr) : Option (List Int×Bool):=(Ss JB a []).map fun r=>if r.1=true then (r.2,true) else ([],false)
theorem Tk : 0<AA Tryz.prog 3:=by rw [B4];decide
theorem NW {a:Arr} {r:List Int×Bool} (h:Fr a=some r) : Fn Tryz.prog 73 [dvA a] (.tup [.d (.sl (Is r.1)),.d (.b r.2)]):=by
 simp only [Fr,Option.map_eq_some_iff] at h
 obtain ⟨z,hz,rfl⟩:=h
 refine Fn.of (rs:=[.tmp 2,.tmp 3]) (nt:=12) Tryz.func73 rfl rfl rfl (by simp) rfl ?_;refine .sr ?_;refine vk (vbx) ?_;refine asn ?_;refine asd ?_;refine rn ?_;refine .sr ?_
 refine al ?_ (Aj IP) (fun w I μ=>O7 w I μ)
 refine rn ?_;refine .gh (Gh.nlOwnC (id:=0) (off:=0) 3 Tk) ?_;refine .sr ?_;refine vk (AH Ac Ab) ?_;refine U0 (avs:=[.bp 0 0]) ?_
 refine clR (avs:=[.d (dvA a),.fn 123 [] [.bp 0 0]]) (Vj (obj:=Qx) (id:=0) (caps:=[.bp 0 0]) (s:=[]) Tryz.call123 rfl (fun x s r H hH hs=>QM 0 x s r H hH hs) rfl hz) Tryz.call122 (fun v H' hp=>?_)
 obtain ⟨rfl,hp⟩:=hp
 refine asd ?_;refine rn ?_;refine .gh (Gh.keep [2,3,4,5] rfl) ?_;refine .seq ?_;refine .sr ?_;refine vk (Aa) ?_;refine vk (vnt) ?_;refine rn ?_
 by_cases hc:z.1=true
 ·rw [if_pos hc]
  refine cnf (ntf hc) ?_;refine .skip ?_
  show AW _ _ _ _ _ _
  refine .sr ?_
  refine Ox (cs:=[.own 3 (Is z.2)]) hp.1 rfl ?_ Ax
  refine fz (p:=.c 0 0) (e:=3) (xs:=Is z.2) ?_ (hp:=by simp [AN,hp.1])
  refine asd ?_;refine asd ?_;refine rn ?_;refine .ret ?_
  refine ⟨by decide,?_,rfl,rfl⟩
  show AV.tup [.d (.sl (Is z.2)),.d (.b true)]=AV.tup [.d (.sl (((Is z.2).drop 0).take (Is z.2).length)),.d (.b true)]
  rw [List.drop_zero,List.take_length]
 ·rw [if_neg hc]
  refine cnt (ntt (bf hc)) ?_;refine .sr ?_;refine asn ?_;refine asd ?_;refine rn ?_;refine .gh (Gh.nlD (t:=2) rfl) ?_;refine .ret ?_
  exact ⟨by decide,rfl,rfl,rfl⟩
def S0 (x:Itm) : DV:=.ag [.i .u8 x.kind,.b x.num.1,.sl (L x.num.2.1),.sl (L x.num.2.2),.i .i32 x.char,.sl (Ars x.box)]
def Fy : List Int→Option (List Itm)
 | []=>some []
 | n::ns=>(EW n).bind fun q=>(Cf q).bind fun x=>(Fy ns).bind fun xs=>some (x::xs)
theorem N6 : ∀ {l:List Int} {xs:List Itm},Fy l=some xs→xs.length=l.length∧∀ (i:Nat) n,l[i]?=some n→∃ q x,EW n=some q∧Cf q=some x∧xs[i]?=some x:=by
 intro l
 induction l with
 | nil=>intro xs h;cases h;exact ⟨rfl,fun i n hn=>by simp at hn⟩
 | cons m ns ih =>
  intro xs h
  rw [Fy] at h
  obtain ⟨q,hq,h⟩:=bnd h
  obtain ⟨x,hx,h⟩:=bnd h
  obtain ⟨ys,hy,h⟩:=bnd h
  cases h
  obtain ⟨h1,h2⟩:=ih hy
  refine ⟨by simp [h1],fun i n hn=>?_⟩
  cases i with
  | zero=>simp at hn;subst hn;exact ⟨q,x,hq,hx,rfl⟩
  | succ i=>simpa using h2 i n (by simpa using hn)
def itY (xs:List Itm) : List (List DV):=xs.map fun x=>[S0 x]
theorem UV {xs:List Itm} {i:Nat} {x:Itm} (h:xs[i]?=some x) : (itY xs)[i]?=some [S0 x]:=by simp [itY,h]
set_option maxRecDepth 10000 in
theorem Sg {l:List Int} {xs:List Itm} (h:Fy l=some xs) (hl:l.length≤9223372036854775806) (m:Nat) : ItG Tryz.prog 46 [.ptr [.sl (Is l)]] (itY xs) m:=by
 obtain ⟨hlen,hat⟩:=N6 h
 have hyl:(itY xs).length=l.length:=by simp [itY,hlen]
 refine ItG.of Tryz.func46 rfl rfl (nt:=18) rfl (by simp) fun lp J hJ hR=>?_;refine .seq ?_;refine .lift ?_;refine .region ?_;refine vk (Ah Ax) ?_;refine vk (AR (Ad _) (A0 _) AS) ?_;refine vk (Aa) ?_;refine .nil ?_
 show AWJ _ _ _ _ _ _ _ _ _
 refine .block ?_;refine ALJ.loop ?_;refine ALJ.gh (Gh.keep [0,5,6,7] rfl) ?_
 refine ALJ.ind (σ:=Nat) (m:=fun i=>l.length-i) (e:=fun i=>[(0,.d (.yl lp)),(5,.d (.sl (Is l))),(6,.d (.i .i64 ((List.length l:Nat):Int))),(7,.d (.i .i64 ((i:Nat):Int)))]) (h:=fun _=>[]) (r:=fun i=>i) (I:=fun i=>i≤l.length∧i≤m) ?_ 0 ⟨Nat.zero_le _,Nat.zero_le _⟩
 rintro i ⟨hi,him⟩ ih
 refine .seq ?_;refine .lift ?_;refine .region ?_;refine vk (vbi) ?_;refine .nil ?_
 show AWJ _ _ _ _ _ _ _ _ _
 refine .seq ?_
 by_cases hc:((i:Nat):Int)<((List.length l:Nat):Int)
 ·refine .cond (x:=true) (by show AV.d (.b (decide _))=_;rw [dT hc]) (fun _=>?_) (fun h=>by cases h)
  have hlt:i<l.length:=by omega
  obtain ⟨q,x,hq,hx,hxi⟩:=hat i _ (lG hlt)
  refine .skip ?_
  show AWJ _ _ _ _ _ _ _ _ _
  refine .seq ?_;refine .block ?_;refine .seq ?_;refine .lift ?_;refine .region ?_;refine vk (vix i rfl (AT (lG hlt)) rfl AJ) ?_;refine vk (Ah Ap) ?_;refine asd ?_;refine .nil ?_
  show AWJ _ _ _ _ _ _ _ _ _
  refine .seq ?_;refine .region ?_;refine vkJ (Aa) ?_;refine vkJ (Aa) ?_;refine vkJ (Am (Hj hq) Tryz.call45) ?_;refine vkJ (Am (E4 hx) Tryz.call44) ?_;refine yld (hR i [S0 x] (UV hxi) him) hJ ?_;refine vkJ (vnt) ?_;refine .nil ?_
  show AWJ _ _ _ _ _ _ _ _ _
  by_cases hm:i<m
  ·refine .cond (x:=false) (by show AV.d (.b (!decide _))=_;rw [dT hm];rfl) (fun h=>by cases h) (fun _=>?_)
   refine .skip ?_
   show AWJ _ _ _ _ _ _ _ _ _
   refine .lift ?_;refine .region ?_;refine vk (vbi) ?_;refine vk (Aa) ?_;refine .nil ?_
   show ALJ _ _ _ _ _ _ _ _ _
   have hw:IntKind.wrap .i64 ((i:Int)+1)=((i+1:Nat):Int):=by simp only [IntKind.wrap,IntKind.bits,IntKind.signed];simp;omega
   rw [hw]
   refine ALJ.gh (Gh.keep [0,5,6,7] rfl) ?_
   exact ih (i+1) ⟨hlt,hm⟩ (by omega)
  ·refine .cond (x:=true) (by show AV.d (.b (!decide _))=_;rw [dF hm];rfl) (fun _=>?_) (fun h=>by cases h)
   refine .ret ?_
   exact ⟨.inr rfl,by rw [hyl];omega⟩
 ·refine .cond (x:=false) (by show AV.d (.b (decide _))=_;rw [dF hc]) (fun h=>by cases h) (fun _=>?_)
  refine .exit ?_
  exact ⟨.inl rfl,by rw [hyl];omega⟩
def Fk (proto:Itm) (xs:List Itm) : Arr:=.mk [((min xs.length 4096:Nat) : Int)] (if xs.length=0 then [proto] else xs.take 4096)
abbrev VY (xs:List Itm) (n:Nat) : Af:=[.box [.own 3 (Is [((n:Nat) : Int)]),.own 58 (Its (xs.take n))]]
theorem PZ : 0<AA Tryz.prog 58:=by rw [JA];decide
set_option maxRecDepth 10000 in
set_option maxHeartbeats 4000000 in
theorem QE {proto:Itm} {xs:List Itm} {f:FuncId} {caps:List DV} (hcall:∀ args w,(callFunc f args).run Tryz.prog w=.ok (.enter f args) w) (hit:ItG Tryz.prog f caps (itY xs) 4096) :
  Fn Tryz.prog 43 [S0 proto,.fn f [] caps] (.d (.ag [.sl (Is (Fk proto xs).shape),.sl (Its (Fk proto xs).items)])):=by
 refine Fn.ofMA (rs:=[.cell 4 27]) (nt:=37) Tryz.func43 rfl rfl rfl (by simp) rfl ?_;refine .seqA ?_;refine .region ?_;refine vk (vbx (cs:=[.i .u8 proto.kind,.b proto.num.1,.sl (L proto.num.2.1),.sl (L proto.num.2.2),.i .i32 proto.char,.sl (Ars proto.box)])) ?_;refine vk (van (Aj As) Aw) ?_;refine .nil ?_
 show AWM _ _ _ _ _ _
 refine .seqA ?_;refine .region ?_;refine vk (Em (ds':=Is [0]) rfl (Cy [0]) BL) ?_;refine bdo Bl As rfl ?_
 refine al ?_ (Aj As) (fun w I μ=>KI w I μ)
 refine st2 (c0:=.nl) (c1:=.nl) rfl ?_ Ab
 refine .nil ?_
 show AWM _ _ _ _ _ _
 refine .gh (Gh.keep [1,2,4,5] rfl) ?_;refine .gh (Gh.nlOwnC (id:=0) (off:=1) 58 PZ) ?_;refine .seq rfl ?_;refine .seqA ?_;refine .region ?_;refine vk (Aa) ?_;refine .nil ?_
 show AWM _ _ _ _ _ _
 refine .block ?_
 refine AWM.rangeFuncG (ps:=[10]) (f:=f) (caps:=caps) (ys:=itY xs) (m:=4096) (e1:=.exit 0) rfl rfl rfl hcall hit (fun ds hd=>?_) (fun p hp=>?_) rfl (fun k H=>H=VY xs (min k 4096)) rfl (.inl ⟨0,rfl⟩) (fun l k ds H hk hkm hH=>?_) (fun H hH=>?_)
 ·simp only [itY,List.mem_map] at hd
  obtain ⟨x,_,rfl⟩:=hd;rfl
 ·simp only [List.mem_cons,List.not_mem_nil,or_false] at hp;subst hp;rfl
 ·subst hH
  simp only [itY,List.getElem?_map,Option.map_eq_some_iff] at hk
  obtain ⟨x,hx,rfl⟩:=hk
  rw [Nat.min_eq_left hkm]
  refine .region ?_;refine vk (van (Aj CU) Dm) ?_
  refine stn ?_ AG (by decide)
  refine .nil ?_
  show AW _ _ _ _ _ _
  refine .block ?_;refine .seq ?_;refine .seq ?_;refine .region ?_;refine vk (DU Ai) ?_
  refine Ox (cs:=[.own 3 (Is [((k:Nat):Int)]),.own 58 (Its (xs.take k))]) rfl rfl ?_ Ax
  refine ixr (len:=1) (xs:=Is [((k:Nat):Int)]) 0 rfl (by decide) ?_ AJ (by decide)
  refine lde (xs:=Is [((k:Nat):Int)]) (.i .i64 ((k:Nat):Int)) ⟨_,rfl,rfl⟩ ?_ Ap
  refine vk (vbi) ?_;refine rn ?_
  by_cases hm:((k:Nat):Int)=4096
  ·refine cnt (dT hm) ?_
   refine .exit ?_
   have hk4:k=4096:=by omega
   subst hk4
   exact ⟨rfl,rfl⟩
  refine cnf (dF hm) ?_
  have hlt:k<4096:=by omega
  have hkl:k<xs.length:=(lS.1 hx).1
  refine .skip ?_
  show AW _ _ _ _ _ _
  refine .gh (Gh.keep [5,6] rfl) ?_;refine .seq ?_;refine .region ?_;refine vk (DU AD) ?_
  refine Ox (cs:=[.own 3 (Is [((k:Nat):Int)]),.own 58 (Its (xs.take k))]) rfl rfl ?_ Bm
  refine vk (Fs Bd AG) ?_;refine vk (Em (Er x) (Db [x]) Cz) ?_
  have hap:ap? 1466015503701 (xs.take k) [x]=some (xs.take (k+1)):=by
   rw [ap?,if_pos (by simp;omega),List.take_add_one,hx];rfl
  refine Ou Fe hap rfl rfl GA ?_ Eu Ay Cz
  refine RL.gh (Gh.keep [5,6,20] rfl) ?_;refine vk (DU AD) ?_
  refine IN (cs:=[.own 3 (Is [((k:Nat):Int)]),.un]) (c:=.un) rfl rfl ?_ JG
  refine rn ?_;refine .gh (Gh.keep [5] rfl) ?_;refine .region ?_;refine vk (DU Ai) ?_
  refine Ox (cs:=[.own 3 (Is [((k:Nat):Int)]),.own 58 (Its (xs.take (k+1)))]) rfl rfl ?_ Ax
  refine ixr (len:=1) (xs:=Is [((k:Nat):Int)]) 0 rfl (by decide) ?_ AJ (by decide)
  refine lde (xs:=Is [((k:Nat):Int)]) (.i .i64 ((k:Nat):Int)) ⟨_,rfl,rfl⟩ ?_ Ap
  refine vk (vbi) ?_
  refine ixr (len:=1) (xs:=Is [((k:Nat):Int)]) 0 rfl (by decide) ?_ AJ (by decide)
  refine ste (xs:=Is [((k:Nat):Int)]) ⟨_,rfl,rfl⟩ ?_ B4 (hn:=fun _ _ _=>Nat.zero_le _)
  refine .nil ?_
  have hw:IntKind.wrap .i64 ((k:Int)+1)=((k+1:Nat):Int):=by simp only [IntKind.wrap,IntKind.bits,IntKind.signed];simp;omega
  refine ⟨by rw [if_pos hlt],?_⟩
  rw [Nat.min_eq_left (by omega:k+1≤4096)]
  show [HO.box [AV.own _ [.i .i64 (IntKind.wrap .i64 ((k:Int)+1))],_]]=_
  rw [hw];rfl
 ·have hlen:(itY xs).length=xs.length:=by simp [itY]
  rw [hlen] at hH ⊢
  have hn:min (min (4096+1) xs.length) 4096=min xs.length 4096:=by omega
  rw [hn] at hH
  subst hH
  by_cases hb:4096<xs.length
  case' pos=>rw [if_pos hb]
  case' neg=>rw [if_neg hb]
  all_goals
   show AWM _ _ _ _ _ _
   refine .lift ?_;refine .gh (Gh.keep [2,4,5] rfl) ?_;refine .seq ?_;refine .seq ?_;refine .region ?_;refine vk (DU Ai) ?_
   refine Ox (cs:=[.own 3 (Is [((min xs.length 4096:Nat):Int)]),.own 58 (Its (xs.take (min xs.length 4096)))]) rfl rfl ?_ Ax
   refine ixr (len:=1) (xs:=Is [((min xs.length 4096:Nat):Int)]) 0 rfl (by decide) ?_ AJ (by decide)
   refine lde (xs:=Is [((min xs.length 4096:Nat):Int)]) (.i .i64 ((min xs.length 4096:Nat):Int)) ⟨_,rfl,rfl⟩ ?_ Ap
   refine vk (vbi) ?_;refine rn ?_;refine .gh (Gh.keep [2,4,5,32] rfl) ?_
   by_cases h0:((min xs.length 4096:Nat):Int)=0
   ·have hx0:xs.length=0:=by omega
    refine cnt (dT h0) ?_;refine .region ?_;refine vk (AH Bd AG) ?_;refine vk (Em (Er proto) (Db [proto]) Cz) ?_;refine vk (DU AD) ?_
    refine IN (cs:=[.own 3 (Is [((min xs.length 4096:Nat):Int)]),.own 58 (Its (xs.take (min xs.length 4096)))]) (c:=.own 58 (Its (xs.take (min xs.length 4096)))) rfl rfl ?_ JG
    refine .nil ?_
    show AW _ _ _ _ _ _
    refine .gh (Gh.keep [4,5] rfl) ?_;refine .seq ?_;refine .region ?_;refine fz (p:=.c 0 0) ?_;refine fz (p:=.c 0 1) ?_;refine vk (GW (cs:=[.d (.sl (Is [((min xs.length 4096:Nat):Int)])),.d (.sl (Its [proto]))]) (ds:=[.sl (Is [((min xs.length 4096:Nat):Int)]),.sl (Its [proto])]) rfl Ac Ab) ?_
    refine stn ?_ Ab (by decide)
    refine rn ?_;refine .ret ?_
    exact ⟨.inr rfl,.inl ⟨_,⟨.inr rfl,Ac,Ab,(by decide:(0:Nat)<2)⟩,by simp only [Fk,if_pos hx0];rfl⟩⟩
   ·have hx0:¬xs.length=0:=by omega
    refine cnf (dF h0) ?_;refine .skip ?_
    show AW _ _ _ _ _ _
    refine .gh (Gh.keep [4,5] rfl) ?_;refine .seq ?_;refine .region ?_;refine fz (p:=.c 0 0) ?_;refine fz (p:=.c 0 1) ?_;refine vk (GW (cs:=[.d (.sl (Is [((min xs.length 4096:Nat):Int)])),.d (.sl (Its (xs.take (min xs.length 4096))))]) (ds:=[.sl (Is [((min xs.length 4096:Nat):Int)]),.sl (Its (xs.take (min xs.length 4096)))]) rfl Ac Ab) ?_
    refine stn ?_ Ab (by decide)
    refine rn ?_;refine .ret ?_
    have ht:xs.take (min xs.length 4096)=xs.take 4096:=by
     rcases Nat.le_total xs.length 4096 with h|h
     ·rw [Nat.min_eq_left h,List.take_of_length_le (Nat.le_refl _),List.take_of_length_le h]
     ·rw [Nat.min_eq_right h]
    exact ⟨.inr rfl,.inl ⟨_,⟨.inr rfl,Ac,Ab,(by decide:(0:Nat)<2)⟩,by simp only [Fk,if_neg hx0,ht];rfl⟩⟩
def Ho (l:List Int) : Option Arr:=if l.length≤9223372036854775806 then (Fy l).bind fun xs=>(EW 0).bind fun q=>(Cf q).bind fun p=>some (Fk p xs) else none
theorem HN {l:List Int} {r:Arr} (h:Ho l=some r) : Fn Tryz.prog 13 [.sl (Is l)] (.d (.ag [.sl (Is r.shape),.sl (Its r.items)])):=by
 obtain ⟨hl,h⟩:=H9 h
 obtain ⟨xs,hxs,h⟩:=bnd h
 obtain ⟨q,hq,h⟩:=bnd h
 obtain ⟨p,hp,h⟩:=bnd h
 cases h
 refine Fn.ofC (rs:=[.cell 2 27]) (nt:=7) Tryz.func13 rfl rfl rfl (by simp) rfl ?_;refine .seq ?_;refine .region ?_;refine vk (TF) ?_;refine vk (van (Aj As) Aw) ?_;refine rn ?_;refine .seq ?_;refine .region ?_;refine vk (Am (Hj hq) Tryz.call45) ?_;refine vk (Am (E4 hp) Tryz.call44) ?_;refine vk (Qw) ?_;refine vk (Am (QE (proto:=p) Tryz.call46 (Sg hxs hl 4096)) Tryz.call43) ?_
 refine stn ?_ Ab (by decide)
 refine rn ?_;refine .ret ?_
 exact ⟨_,⟨.inr rfl,Ac,Ab,(by decide:(0:Nat)<2)⟩,rfl⟩
end Go.FL
