/-
  Part 3 of the base of the proofs: a logic of our own over the calculus, the contracts of the functions
-/
import Derived.Test.YtheadnogdeajfaaGreatSmB
set_option linter.unusedVariables false
namespace Go.FL
open Go Go.Proofs
theorem Rt {V P x c A A' q r:Nat} (hq:2 * x+c=4294967296 * q+r) (hA:A=x+4294967296 * A') : (V+P * r)+(2 * A'+q) * (P * 4294967296)=V+(2 * A+c) * P:=by
 grind
theorem Yn {x c:Nat} (hc:c≤1) : bits .or .u32 ((x * 2 % 4294967296:Nat) : Int) (c:Int)=((x * 2 % 4294967296+c:Nat) : Int):=by
 rw [bits_join .u32 32 (by decide) HH 1 _ _ (by omega) (by omega) (by omega) (by omega) (by omega) (by omega)]
 omega
theorem VW {a:List Nat} {c0:Nat} (ha:Ok a) (hl:a.length≤1000000) (hc0:c0≤1) : Fn Tryz.prog 177 [.sl (L a),.i .u32 (c0:Int)] (.own 118 (L (Ao (2 * val a+c0)))):=by
 refine Fn.o1 4 35 Tryz.func177 ?_;refine .sr ?_;refine asn ?_;refine rn ?_;refine .sr ?_;refine asn ?_;refine rn ?_;refine .sr ?_;refine mvd ?_;refine asd ?_;refine rn ?_;refine .mid (fun e H'=>∃ out c,e=[(5,.own 118 (L out)),(6,.d (.i .u32 (c:Nat)))]∧H'=[]∧Ok out∧c≤1∧out.length=a.length∧val (out++[c])=2 * val a+c0) ?_ ?_
 ·refine .sr ?_
  refine asd ?_;refine rn ?_;refine .block ?_;refine .gh (Gh.nlOwn (t:=5) 118 Vu rfl) ?_
  refine .loop (.gh (Gh.keep [0,5,6,7] rfl) ?_)
  refine AL.ind (σ:=List Nat×Nat) (m:=fun s=>a.length-s.1.length) (e:=fun s=>[(0,.d (.sl (L a))),(5,.own 118 (L s.1)),(6,.d (.i .u32 (s.2:Int))),(7,.d (.i .i64 (s.1.length:Int)))]) (h:=fun _=>[])
   (I:=fun s=>Ok s.1∧s.2≤1∧s.1.length≤a.length∧val s.1+(2 * val (a.drop s.1.length)+s.2) * 4294967296 ^ s.1.length=2 * val a+c0) ?_ ([],c0) ⟨.nil,hc0,by simp,by simp [val]⟩
  rintro ⟨out,c⟩ ⟨h1,h2,h3,h4⟩ ih
  dsimp only at h1 h2 h3 h4 ih ⊢
  refine .seq ?_;refine .sr ?_;refine mvd ?_;refine mvd ?_
  refine ln ?_ (BP _) l32
  refine bi ?_;refine rn ?_
  by_cases hA:out.length<a.length
  ·rw [dT (show (out.length:Int)<((L a).length:Nat) by rw [Ab];omega)]
   have hx:a[out.length]?=some a[out.length]:=lG hA
   have hdx:val (a.drop out.length)=a[out.length]+4294967296 * val (a.drop (out.length+1)):=by rw [lC hA,val]
   generalize a[out.length]=x at hx hdx
   have hxl:=ha.at hx
   have hstep:=Rt (V:=val out) (P:=4294967296 ^ out.length) (x:=x) (c:=c) (q:=x / 2147483648) (r:=x * 2 % 4294967296+c) (by omega) hdx
   refine B1 ?_;refine .skip ?_;refine aw ?_;refine .seq ?_;refine .block ?_;refine .sr ?_;refine mvo ?_;refine mvd ?_;refine mvd ?_
   refine ix out.length ?_ rfl (EW hx) rfl s32
   refine ldp ?_ a32
   refine bie (.i .u32 ((x * 2 % 4294967296:Nat):Int)) ?_ ?_
   ·refine ⟨by decide,?_⟩
    rw [← EF];simp [IntKind.bits]
   refine mvd ?_;refine bie (.i .u32 ((x * 2 % 4294967296+c:Nat):Int)) ?_ ?_
   ·exact ⟨trivial,by rw [Yn h2]⟩
   refine bsl ?_ ?_ e32
   ·simp [DV.flat,DV.cells,DV.leaf]
   refine apr ?_ ?_ (Gs [x * 2 % 4294967296+c]) e32
   ·simp [Ab];omega
   refine aso ?_;refine rn ?_;refine .region ?_;refine mvd ?_;refine mvd ?_
   refine ix out.length ?_ rfl (EW hx) rfl s32
   refine ldp ?_ a32
   refine bie (.i .u32 ((x / 2147483648:Nat):Int)) ?_ ?_
   ·simp [IntKind.bits]
   refine asd ?_;refine .nil ?_;refine aw ?_;refine .region ?_;refine mvd ?_;refine ad ((out.length+1:Nat):Int) ?_ ?_
   ·omega
   refine asd ?_;refine rn ?_;refine .gh (Gh.keep [0,5,6,7] rfl) ?_
   have:=ih (out++[x * 2 % 4294967296+c],x / 2147483648) ⟨h1.snoc (by omega),by dsimp only;omega,by simp;omega,?_⟩ (by simp;omega)
   ·rw [← ND] at this
    dsimp only at this
    rw [List.length_append] at this
    exact this
   ·dsimp only
    rw [Kd,List.length_append,List.length_singleton,Nat.pow_succ,hstep,h4]
  ·rw [dF (show ¬(out.length:Int)<((L a).length:Nat) by rw [Ab];omega)]
   refine BZ ?_;refine .gh (Gh.keep [5,6] rfl) ?_;refine .exit ?_
   refine ⟨out,c,rfl,rfl,h1,h2,by omega,?_⟩
   rw [List.drop_eq_nil_of_le (by omega)] at h4
   rw [Kd,Nat.mul_comm,← h4]
   simp [val]
 rintro _ _ ⟨out,c,rfl,rfl,h1,h2,h3,h4⟩
 refine .sr ?_;refine mvo ?_;refine mvd ?_
 refine bsl ?_ ?_ e32
 ·simp [DV.flat,DV.cells,DV.leaf]
 refine apr ?_ ?_ (Gs [c]) e32
 ·simp [Ab];omega
 refine fz (p:=.t 33) ?_
 have f1:=DW (a:=out++[c]) (h1.snoc (by omega)) (by simp;omega)
 rw [h4,← ND] at f1
 refine cl (xs:=[.sl ((L out).take (L out).length++[DV.i .u32 (c:Int)])]) ?_ f1 Tryz.call152
 refine aso ?_;refine rn ?_;refine .ret ?_
 exact ⟨rfl,rfl⟩
theorem KJ (m:Nat) (h:m<4294967296) : bits .and .u32 (m:Int) 1=((m % 2:Nat) : Int):=by
 have:=bits_mask .u32 32 (by decide) HH 1 (by decide) (m:Int) (by omega) (by omega)
 rw [show (2:Int) ^ 1-1=1 by decide] at this
 rw [this];simp
def Zu (a n most:Nat) : Prop:=(Ao (a ^ n)).length≤most
instance (a n most:Nat) : Decidable (Zu a n most):=inferInstanceAs (Decidable (_≤_))
def Uz (m n:Nat) : Nat:=if n=0 then 0 else m % n
theorem UU {T V N D P lo lv g:Nat} (hT:T=lo+P * N) (hlo:lo<P) (hV:V=lv+P * D) (hlv:lv<P) (hD:4294967296≤D) (hTV:T<4294967296 * V) (hg:g=min (N / D) 4294967295) : T / V≤g∧g≤T / V+1:=by
 have hVpos:0<V:=by
  have:P * 1≤P * D:=Nat.mul_le_mul_left _ (by omega)
  omega
 have hq1:T / V≤4294967295:=by
  have:T / V<4294967296:=(Nat.div_lt_iff_lt_mul hVpos).2 hTV
  omega
 have hq2:T / V≤N / D:=by
  refine (Nat.le_div_iff_mul_le (by omega)).2 ?_
  have h1:T / V * V≤T:=Nat.div_mul_le_self _ _
  have h2:T / V * (P * D)≤T / V * V:=Nat.mul_le_mul_left _ (by omega)
  have h3:P * (T / V * D)<P * (N+1):=by
   have e1:P * (T / V * D)=T / V * (P * D):=by grind
   have e2:P * (N+1)=P * N+P:=by grind
   omega
  have:=Nat.lt_of_mul_lt_mul_left h3
  omega
 have hgN:g≤N / D:=by rw [hg];exact Nat.min_le_left _ _
 have hgB:g≤4294967295:=by rw [hg];exact Nat.min_le_right _ _
 have hTg:T / V≤g:=by rw [hg];exact Nat.le_min.2 ⟨hq2,hq1⟩
 refine ⟨hTg,?_⟩
 apply Classical.byContradiction
 intro hc
 obtain ⟨m,hgm⟩:=Nat.exists_eq_succ_of_ne_zero (show g≠0 from fun h0=>hc (by rw [h0];exact Nat.zero_le _))
 subst hgm
 have hm:T<m * V:=(Nat.div_lt_iff_lt_mul hVpos).1 (Nat.lt_of_succ_lt_succ (Nat.lt_of_not_le hc))
 have h1:(m+1) * D≤N:=(Nat.le_div_iff_mul_le (by omega)).1 hgN
 clear hg hq1 hq2 hTg hgN hc
 have h2:P * ((m+1) * D)≤P * N:=Nat.mul_le_mul_left _ h1
 have h3:m * V≤m * (P * (D+1)):=Nat.mul_le_mul_left _ (by
  have e:P * (D+1)=P * D+P:=by grind
  omega)
 have h4:P * ((m+1) * D)<P * (m * (D+1)):=by
  have e:P * (m * (D+1))=m * (P * (D+1)):=by grind
  omega
 have h5:=Nat.lt_of_mul_lt_mul_left h4
 have e1:(m+1) * D=m * D+D:=by grind
 have e2:m * (D+1)=m * D+m:=by grind
 omega
theorem Yk {T V W g:Nat} (hV:0<V) (h:W+g * V=T) (hg:T / V≤g) : g=T / V∧W=T % V:=by
 have h1:g≤T / V:=(Nat.le_div_iff_mul_le hV).2 (by omega)
 have h2:g=T / V:=by omega
 refine ⟨h2,?_⟩
 have:=Nat.div_add_mod T V
 rw [← h2,Nat.mul_comm] at this
 omega
theorem Ym {T V W W' M e g:Nat} (hV:0<V) (h:W+g * V=T+M) (hW:W<M) (hg:g≤T / V+1) (ha:W'+e * M=W+V) (hW':W'<M) (hVM:V<M) : g-1=T / V∧W'=T % V∧0<g:=by
 have hdm:=Nat.div_add_mod T V
 have hml:=Nat.mod_lt T hV
 have hdl:=Nat.div_mul_le_self T V
 rw [Nat.mul_comm] at hdm
 generalize T / V=Q at *
 generalize T % V=R at *
 have h1:Q<g:=by
  apply Classical.byContradiction
  intro hc
  have:g * V≤Q * V:=Nat.mul_le_mul_right _ (by omega)
  omega
 have h2:g=Q+1:=by omega
 subst h2
 rw [Nat.add_mul,Nat.one_mul] at h
 have h3:W'+e * M=M+R:=by omega
 have he:e=1:=by
  match e with
  | 0=>simp at h3;omega
  | 1=>rfl
  | e+2 =>
   have:2 * M≤(e+2) * M:=Nat.mul_le_mul_right _ (by omega)
   omega
 subst he
 exact ⟨by omega,by omega,by omega⟩
theorem CB (u:List Nat) (i:Nat) (hi:i≤u.length) : val u=val (u.take i)+4294967296 ^ i * val (u.drop i):=by
 conv=>lhs;rw [← List.take_append_drop i u]
 rw [Fp,List.length_take,Nat.min_eq_left hi]
theorem FD {u:List Nat} {k:Nat} (hk:k≤u.length) (h:val u<4294967296 ^ k) : val (u.drop k)=0:=by
 rw [CB u k hk] at h
 apply Classical.byContradiction
 intro hc
 have:4294967296 ^ k * 1≤4294967296 ^ k * val (u.drop k):=Nat.mul_le_mul_left _ (by omega)
 omega
theorem OW {u:List Nat} {k:Nat} (hu:Ok u) (hk:k≤u.length) (h:val (u.drop k)=0) : val u<4294967296 ^ k:=by
 rw [CB u k hk,h,Nat.mul_zero,Nat.add_zero]
 have:=Es (hu.take k)
 rwa [List.length_take,Nat.min_eq_left hk] at this
theorem UO {u:List Nat} {j:Nat} (h:j+3≤u.length) (hz:val (u.drop (j+3))=0) :
  val u=val (u.take j)+4294967296 ^ j * ((u.getD (j+2) 0 * 4294967296+u.getD (j+1) 0) * 4294967296+u.getD j 0):=by
 rw [CB u j (by omega),Ei j,Ei (j+1),Ei (j+2),hz]
 congr 2
 omega
theorem XX {v:List Nat} {j:Nat} (h:v.length=j+2) : val v=val (v.take j)+4294967296 ^ j * (v.getD (j+1) 0 * 4294967296+v.getD j 0):=by
 rw [CB v j (by omega),Ei j,Ei (j+1),List.drop_eq_nil_of_le (show v.length≤j+1+1 by omega)]
 congr 2
 simp only [val];omega
theorem Pw {u:List Nat} {j:Nat} (hu:Ok u) (hj:j≤u.length) : val (u.take j)<4294967296 ^ j:=by
 have:=Es (hu.take j)
 rwa [List.length_take,Nat.min_eq_left hj] at this
theorem YD {T V P N D lo lv u2 u1 u0 v1 v0:Nat} (hT:T=lo+P * N) (hV:V=lv+P * D) (hlv:lv<P) (hTV:T<4294967296 * V) (hN:N=(u2 * 4294967296+u1) * 4294967296+u0) (hD:D=v1 * 4294967296+v0) (h0:v0<4294967296) : u2≤v1:=by
 have h1:P * N<P * (4294967296 * (D+1)):=by
  have e:P * (4294967296 * (D+1))=4294967296 * (P * D+P):=by grind
  omega
 have h2:=Nat.lt_of_mul_lt_mul_left h1
 omega
def FK : List Nat→List Nat→Nat→Nat→List Nat×Nat
 | [],u,c,_=>(u,c)
 | y::r,u,c,j=>FK r (u.set j ((u.getD j 0+y+c) % 4294967296)) ((u.getD j 0+y+c) / 4294967296) (j+1)
theorem R1 (y:Nat) (r u:List Nat) (c j:Nat) : FK (y::r) u c j=FK r (u.set j ((u.getD j 0+y+c) % 4294967296)) ((u.getD j 0+y+c) / 4294967296) (j+1):=rfl
theorem R7 {V' V P x y c c' r R F Z:Nat} (hs:V'+x * P=V+r * P) (hc:x+y+c=4294967296 * c'+r) (ih:F+Z=V'+(R+c') * (P * 4294967296)) : F+Z=V+(y+4294967296 * R+c) * P:=by
 grind
theorem Ll : ∀ (v u:List Nat) (c j:Nat),Ok v→Ok u→c≤1→j+v.length≤u.length →
  val (FK v u c j).1+(FK v u c j).2 * 4294967296 ^ (j+v.length)=val u+(val v+c) * 4294967296 ^ j∧Ok (FK v u c j).1∧(FK v u c j).2≤1∧(FK v u c j).1.length=u.length ∧
  (FK v u c j).1.take j=u.take j∧(FK v u c j).1.drop (j+v.length)=u.drop (j+v.length)
 | [],u,c,j,hv,hu,hc,hj=>by simp [FK,val,hu,hc]
 | y::r,u,c,j,hv,hu,hc,hj=>by
  simp only [FK]
  have hj':j+r.length+1≤u.length:=by simpa [Nat.add_assoc] using hj
  have hx:=CV (u:=u) (j:=j) (by omega)
  have hxl:=De hu j
  have hyl:=hv.head
  have hset:=KP hx (y:=(u.getD j 0+y+c) % 4294967296)
  have hcy:u.getD j 0+y+c=4294967296 * ((u.getD j 0+y+c) / 4294967296)+(u.getD j 0+y+c) % 4294967296:=(Nat.div_add_mod _ _).symm
  have hok:=hu.set j (x:=(u.getD j 0+y+c) % 4294967296) (Nat.mod_lt _ (by decide))
  have hc':(u.getD j 0+y+c) / 4294967296≤1:=by omega
  generalize (u.getD j 0+y+c) % 4294967296=rr at *
  generalize (u.getD j 0+y+c) / 4294967296=c' at *
  generalize u.getD j 0=x at *
  obtain ⟨i1,i2,i3,i4,i5,i6⟩:=Ll r (u.set j rr) c' (j+1) hv.tail hok hc' (by rw [List.length_set];omega)
  generalize FK r (u.set j rr) c' (j+1)=res at *
  rw [Nat.pow_succ] at i1
  refine ⟨?_,i2,i3,by rw [i4,List.length_set],?_,?_⟩
  ·rw [val,show j+(y::r).length=j+1+r.length by simp;omega]
   exact R7 hset hcy i1
  ·have:=congrArg (List.take j) i5
   rw [List.take_take,List.take_take,Nat.min_eq_left (by omega),List.take_set_of_le (Nat.le_refl _)] at this
   exact this
  ·rw [show j+(y::r).length=j+1+r.length by simp;omega,i6,List.drop_set_of_lt (by omega)]
theorem QA {u v:List Nat} {i k:Nat} (hu:Ok u) (hv:Ok v) (hk:v.length=k+2) (hi:i+k+3≤u.length) (hr:val (u.drop (i+1))<val v) (htop:2147483648≤v.getD (k+1) 0) :
  u.getD (i+k+2) 0≤v.getD (k+1) 0∧val (u.drop i)<4294967296 * val v ∧
  (∀ g,g=Ph (u.getD (i+k+2) 0) (u.getD (i+k+1) 0) (u.getD (i+k) 0) (v.getD (k+1) 0) (v.getD k 0)→val (u.drop i) / val v≤g∧g≤val (u.drop i) / val v+1∧g≤4294967295):=by
 have hT:val (u.drop i)<4294967296 * val v:=by
  rw [Ei i]
  have h1:=De hu i
  have:4294967296 * (val (u.drop (i+1))+1)≤4294967296 * val v:=Nat.mul_le_mul_left _ hr
  omega
 have hvl:=Es hv
 rw [hk] at hvl
 have hTk:val (u.drop i)<4294967296 ^ (k+3):=by
  rw [show k+3=(k+2)+1 by omega,Nat.pow_succ,Nat.mul_comm]
  have:4294967296 * val v<4294967296 * 4294967296 ^ (k+2):=Nat.mul_lt_mul_of_pos_left hvl (by decide)
  omega
 have hz:=FD (u:=u.drop i) (k:=k+3) (by rw [List.length_drop];omega) hTk
 have h3:=UO (u:=u.drop i) (j:=k) (by rw [List.length_drop];omega) hz
 have hg:∀ m,(u.drop i).getD m 0=u.getD (i+m) 0:=fun m=>by rw [lD,List.getElem?_drop,lD]
 rw [hg,hg,hg] at h3
 have h2:=XX hk
 have hlv:=Pw (j:=k) hv (by omega)
 have hlu:=Pw (j:=k) (hu.drop i) (by rw [List.length_drop];omega)
 have hv0:=De hv k
 rw [show i+(k+2)=i+k+2 by omega,show i+(k+1)=i+k+1 by omega] at h3
 have htp:=YD h3 h2 hlv hT rfl rfl hv0
 refine ⟨htp,hT,fun g hgq=>?_⟩
 obtain ⟨j1,j2⟩:=UU (g:=g) h3 hlu h2 hlv (by omega) hT hgq
 refine ⟨j1,j2,?_⟩
 rw [hgq];exact Nat.min_le_right _ _
theorem WX {lo P W g V T b M:Nat} (h1:lo+P * W+(g * V+0+0) * P=lo+P * T+b * (P * M)) : P * (W+g * V)=P * (T+b * M):=by
 grind
theorem Ws {lo P W T V c K x r e Z S:Nat} (h1:Z+c * (P * K)=lo+P * T+V * P) (hset:lo+P * W+x * (P * K)=Z+r * (P * K)) (hdm:x+c=4294967296 * e+r) (hS:S=K * 4294967296) : P * (W+e * S)=P * (T+V):=by
 grind
theorem QD {u v:List Nat} {i g:Nat} (hu:Ok u) (hv:Ok v) (hi:i+v.length<u.length) (hg:g<4294967296) (hz:val (u.drop (i+v.length+1))=0) :
  Ok (BY g v u 0 0 i).1∧(BY g v u 0 0 i).1.length=u.length∧(BY g v u 0 0 i).1.take i=u.take i∧(BY g v u 0 0 i).2≤1∧val ((BY g v u 0 0 i).1.drop (i+v.length+1))=0 ∧
  val ((BY g v u 0 0 i).1.drop i)+g * val v=val (u.drop i)+(BY g v u 0 0 i).2 * 4294967296 ^ (v.length+1)∧val ((BY g v u 0 0 i).1.drop i)<4294967296 ^ (v.length+1):=by
 obtain ⟨h1,h2,h3,h4,h5,h6⟩:=MZ hg v u 0 0 i hv hu (by decide) (by decide) hi
 generalize BY g v u 0 0 i=res at *
 have hz':val (res.1.drop (i+v.length+1))=0:=by rw [h6];exact hz
 refine ⟨h2,h4,h5,h3,hz',?_,?_⟩
 ·rw [CB u i (by omega),CB res.1 i (by omega),h5,show i+v.length+1=i+(v.length+1) by omega,Nat.pow_add] at h1
  have hp:0<4294967296 ^ i:=Nat.pow_pos (by decide)
  exact Nat.eq_of_mul_eq_mul_left hp (WX h1)
 ·refine OW (h2.drop i) (by rw [List.length_drop];omega) ?_
  rw [List.drop_drop,show i+(v.length+1)=i+v.length+1 by omega]
  exact hz'
theorem Rs {u v:List Nat} {i:Nat} (hu:Ok u) (hv:Ok v) (hi:i+v.length<u.length) (hz:val (u.drop (i+v.length+1))=0) {w:List Nat} {c:Nat} (hw:FK v u 0 i=(w,c)) {w':List Nat}
  (hw':w'=w.set (i+v.length) ((w.getD (i+v.length) 0+c) % 4294967296)):Ok w'∧w'.length=u.length∧w'.take i=u.take i∧c≤1 ∧
  (∃ e,val (w'.drop i)+e * 4294967296 ^ (v.length+1)=val (u.drop i)+val v)∧val (w'.drop i)<4294967296 ^ (v.length+1):=by
 obtain ⟨h1,h2,h3,h4,h5,h6⟩:=Ll v u 0 i hv hu (by decide) (by omega)
 rw [hw] at h1 h2 h3 h4 h5 h6
 dsimp only at h1 h2 h3 h4 h5 h6
 have hx:=CV (u:=w) (j:=i+v.length) (by omega)
 have hset:=KP hx (y:=(w.getD (i+v.length) 0+c) % 4294967296)
 rw [← hw'] at hset
 have hdm:w.getD (i+v.length) 0+c=4294967296 * ((w.getD (i+v.length) 0+c) / 4294967296)+(w.getD (i+v.length) 0+c) % 4294967296:=(Nat.div_add_mod _ _).symm
 have hok:Ok w':=by rw [hw'];exact h2.set _ (Nat.mod_lt _ (by decide))
 have hlen:w'.length=u.length:=by rw [hw',List.length_set,h4]
 have htk:w'.take i=u.take i:=by rw [hw',List.take_set_of_le (by omega),h5]
 have hz':val (w'.drop (i+v.length+1))=0:=by
  rw [hw',List.drop_set_of_lt (by omega)]
  have:w.drop (i+v.length+1)=u.drop (i+v.length+1):=by
   have e1:w.drop (i+v.length+1)=(w.drop (i+v.length)).drop 1:=by rw [List.drop_drop]
   have e2:u.drop (i+v.length+1)=(u.drop (i+v.length)).drop 1:=by rw [List.drop_drop]
   rw [e1,e2,h6]
  rw [this];exact hz
 refine ⟨hok,hlen,htk,h3,⟨(w.getD (i+v.length) 0+c) / 4294967296,?_⟩,?_⟩
 ·clear hw hw' hx
  generalize (w.getD (i+v.length) 0+c) / 4294967296=e at *
  generalize (w.getD (i+v.length) 0+c) % 4294967296=r at *
  generalize w.getD (i+v.length) 0=x at *
  rw [CB u i (by omega)] at h1
  rw [CB w' i (by omega),htk] at hset
  rw [Nat.add_zero,Nat.pow_add] at h1
  rw [Nat.pow_add] at hset
  have hp:0<4294967296 ^ i:=Nat.pow_pos (by decide)
  exact Nat.eq_of_mul_eq_mul_left hp (Ws h1 hset hdm (Nat.pow_succ ..))
 ·refine OW (hok.drop i) (by rw [List.length_drop];omega) ?_
  rw [List.drop_drop,show i+(v.length+1)=i+v.length+1 by omega]
  exact hz'
theorem Xo {ys b:List Nat} {x n:Nat} (e:ys=b++[x]) (hb:Ok b) (hx:x≠0) (hxl:x<4294967296) (hn:n=32-BN x) : n<32∧val ys * 2 ^ n<4294967296 ^ ys.length∧4294967296 ^ b.length * 2147483648≤val ys * 2 ^ n:=by
 have hlx:BN x≤32:=E0.2 (by omega)
 obtain ⟨j,hj,hj1,hj2⟩:=Jn hx
 have hv:BN (val ys)=32 * b.length+BN x:=by rw [e];exact Pb hb hx
 have hlen:ys.length=b.length+1:=by rw [e];simp
 have hvp:val ys≠0:=fun h0=>by rw [h0,show BN 0=0 from rfl] at hv;omega
 obtain ⟨m,hm,hm1,hm2⟩:=Jn hvp
 have hB:∀ k,4294967296 ^ k=2 ^ (32 * k):=fun k=>by rw [Nat.pow_mul]
 refine ⟨by omega,?_,?_⟩
 ·rw [hB,hlen,show 32 * (b.length+1)=(m+1)+n by omega,Nat.pow_add]
  exact Nat.mul_lt_mul_of_pos_right hm2 (Nat.pow_pos (by decide))
 ·rw [hB,show (2147483648:Nat)=2 ^ 31 by rfl,← Nat.pow_add,show 32 * b.length+31=m+n by omega,Nat.pow_add]
  exact Nat.mul_le_mul_right _ hm1
theorem WN {v:List Nat} {k:Nat} (hv:Ok v) (hk:v.length=k+1) (h:4294967296 ^ k * 2147483648≤val v) : 2147483648≤v.getD k 0:=by
 have h1:=Pw (j:=k) hv (by omega)
 have h2:=CB v k (by omega)
 rw [Ei,List.drop_eq_nil_of_le (by omega)] at h2
 simp only [val,Nat.mul_zero,Nat.add_zero] at h2
 apply Classical.byContradiction
 intro hc
 have h3:4294967296 ^ k * (v.getD k 0+1)≤4294967296 ^ k * 2147483648:=Nat.mul_le_mul_left _ (by omega)
 rw [Nat.mul_add,Nat.mul_one] at h3
 omega
theorem Xb {R D E Q A:Nat} (hE:0<E) (h:R+D * E * Q=A * E) (hR:R<D * E) : A / D=Q∧R / E=A % D∧0<D:=by
 have hD:0<D:=by
  rcases Nat.eq_zero_or_pos D with h0|h0
  ·subst h0;simp at hR
  ·exact h0
 have e1:D * E * Q=(D * Q) * E:=by grind
 rw [e1] at h
 have hle:D * Q≤A:=by
  have:(D * Q) * E≤A * E:=by omega
  exact Nat.le_of_mul_le_mul_right this hE
 obtain ⟨r,rfl⟩:=Nat.exists_eq_add_of_le hle
 rw [Nat.add_mul] at h
 have hr:R=r * E:=by omega
 rw [hr] at hR
 have hrD:r<D:=Nat.lt_of_mul_lt_mul_right hR
 refine ⟨?_,?_,hD⟩
 ·rw [Nat.mul_add_div hD,Nat.div_eq_of_lt hrD,Nat.add_zero]
 ·rw [hr,Nat.mul_div_cancel _ hE,Nat.mul_add_mod,Nat.mod_eq_of_lt hrD]
theorem UK {xs:List Nat} {n m V k:Nat} (hx:Ok xs) (hn:n<32) (hm:xs.length=m+k) (hV:4294967296 ^ k * 2147483648≤V) {u:List Nat} (hu:val u=val xs * 2 ^ n) (hl:m≤u.length) : val (u.drop m)<V:=by
 rw [CB u m hl] at hu
 have h1:=Es hx
 rw [hm,Nat.pow_add] at h1
 have h2:(2:Nat) ^ n≤2147483648:=Nat.pow_le_pow_right (n:=2) (by decide) (show n≤31 by omega)
 have h3:val xs * 2 ^ n<4294967296 ^ m * 4294967296 ^ k * 2 ^ n:=Nat.mul_lt_mul_of_pos_right h1 (Nat.pow_pos (by decide))
 have h4:4294967296 ^ m * 4294967296 ^ k * 2 ^ n≤4294967296 ^ m * (4294967296 ^ k * 2147483648):=by
  rw [Nat.mul_assoc]
  exact Nat.mul_le_mul_left _ (Nat.mul_le_mul_left _ h2)
 have h5:4294967296 ^ m * (4294967296 ^ k * 2147483648)≤4294967296 ^ m * V:=Nat.mul_le_mul_left _ hV
 have h6:4294967296 ^ m * val (u.drop m)<4294967296 ^ m * V:=by omega
 exact Nat.lt_of_mul_lt_mul_left h6
theorem RI {lo P T V Q U Z W:Nat} (h:lo+P * T+V * Z=U) (hT:T=V * Q+W) {Z':Nat} (hZ:Z'+0 * P=Z+Q * P) : lo+P * W+V * Z'=U:=by
 grind
theorem Zr (n:Nat) : L (List.replicate n 0)=List.replicate n (U 0):=by simp [L]
theorem Uq {a b:List Nat} (ha:Ok a) (hb:Ok b) (hla:a.length≤500000) (hlb:b.length≤500000) : Fn Tryz.prog 173 [.sl (L a),.sl (L b)]
  (.tup [.d (.sl (L (Ao (val a / val b)))),.d (.sl (L (Ao (Uz (val a) (val b))))),.d (.b (decide (val b≠0)))]):=by
 have oa:=BI (val a)
 have ob:=BI (val b)
 have va:=A8 (val a)
 have vb:=A8 (val b)
 have la:=nT (Cv ha) hla
 have lb:=nT (Cv hb) hlb
 have hspl:=@NA (val b)
 have hlt:=@Pr (val a) (val b)
 have hnil:=@HS (val b)
 refine Fn.of (rs:=[.tmp 4,.tmp 5,.tmp 6]) (nt:=163) Tryz.func173 rfl rfl rfl (by simp) rfl ?_;refine .sr ?_;refine asn ?_;refine asn ?_;refine asd ?_;refine rn ?_;refine .sr ?_;refine mvd ?_
 refine cl (xs:=[.sl (L a)]) ?_ (F8 ha (by omega)) Tryz.call143
 refine mvd ?_
 refine cl (xs:=[.sl (L b)]) ?_ (F8 hb (by omega)) Tryz.call143
 refine asd ?_;refine asd ?_;refine rn ?_
 generalize Ao (val a)=xs at *
 generalize Ao (val b)=ys at *
 refine .gh (Gh.keep [0,1,4,5,6] rfl) ?_;refine .mid (fun e H'=>H'=[]∧2≤ys.length∧ys.length≤xs.length∧e=[(0,.d (.sl (L xs))),(1,.d (.sl (L ys)))]) ?_ ?_
 ·refine .block ?_
  refine .sr ?_;refine mvd ?_
  refine ln ?_ (BP _) l32
  refine bi ?_;refine asd ?_;refine rn ?_
  by_cases h0:val b=0
  ·have hy:=hnil.2 h0
   subst hy
   refine B1 ?_;refine .sr ?_;refine asn ?_;refine asn ?_;refine asd ?_;refine rn ?_;refine .gh (Gh.nlD (t:=4) rfl) ?_;refine .gh (Gh.nlD (t:=5) rfl) ?_;refine .ret ?_
   refine ⟨by decide,?_,rfl,rfl,rfl⟩
   rw [h0]
   simp [Uz,AU];exact ⟨rfl,rfl,rfl⟩
  ·obtain ⟨bb,x,hyx,hx0,hbb,hxl⟩:=hspl h0
   have hyl:ys.length=bb.length+1:=by rw [hyx];simp
   rw [dF (show ¬(((L ys).length:Nat):Int)=0 by rw [Ab];omega)]
   refine BZ ?_;refine .sr ?_;refine mvd ?_
   refine ln ?_ (BP _) l32
   refine bi ?_;refine asd ?_;refine rn ?_
   by_cases h1:ys.length=1
   ·have hbb0:bb=[]:=List.length_eq_zero_iff.1 (by omega)
    rw [hbb0,List.nil_append] at hyx
    have hvx:val b=x:=by rw [← vb,hyx];simp [val]
    rw [dT (show (((L ys).length:Nat):Int)=1 by rw [Ab];omega)]
    have hy0:ys[0]?=some (val b):=by rw [hyx,hvx];rfl
    have fsm:=Vd (a:=xs) (d:=val b) oa (by omega) (by omega) (by omega)
    rw [va] at fsm
    refine B1 ?_;refine .sr ?_;refine mvd ?_;refine mvd ?_
    refine ix 0 ?_ rfl (EW hy0) rfl s32
    refine ldp ?_ a32
    refine cl (xs:=[.sl (L xs),U (val b)]) ?_ fsm Tryz.call180
    refine mvt ?_;refine ex ?_;refine ex ?_;refine asd ?_;refine asd ?_;refine rn ?_;refine .sr ?_;refine mvd ?_;refine mvd ?_;refine asd ?_;refine asd ?_;refine asd ?_;refine rn ?_;refine .ret ?_
    exact ⟨by decide,by rw [Uz,if_neg h0,dT h0];rfl,rfl,rfl,rfl⟩
   ·rw [dF (show ¬(((L ys).length:Nat):Int)=1 by rw [Ab];omega)]
    refine BZ ?_;refine .sr ?_;refine mvd ?_
    refine ln ?_ (BP _) l32
    refine mvd ?_
    refine ln ?_ (BP _) l32
    refine bi ?_;refine asd ?_;refine rn ?_
    by_cases h2:xs.length<ys.length
    ·have hab:=hlt h2
     rw [dT (show (((L xs).length:Nat):Int)<((L ys).length:Nat) by rw [Ab,Ab];omega)]
     have ft:=Pk (a:=xs) oa (by omega)
     rw [va] at ft
     refine B1 ?_;refine .sr ?_;refine mvd ?_
     refine cl (xs:=[.sl (L xs)]) ?_ ft Tryz.call172
     refine asn ?_;refine aso ?_;refine asd ?_;refine rn ?_;refine .gh (Gh.nlD (t:=4) rfl) ?_;refine .gh (Gh.frz (p:=.t 5) rfl (fun _ _ h=>by cases h)) ?_;refine .ret ?_
     refine ⟨by decide,?_,rfl,rfl,rfl⟩
     rw [Uz,if_neg h0,dT h0,Nat.div_eq_of_lt hab,Nat.mod_eq_of_lt hab,AU];rfl
    ·rw [dF (show ¬(((L xs).length:Nat):Int)<((L ys).length:Nat) by rw [Ab,Ab];omega)]
     refine BZ ?_;refine .gh (Gh.keep [0,1] rfl) ?_;refine .skip ?_
     exact ⟨rfl,by omega,by omega,rfl⟩
 rintro _ _ ⟨rfl,hy2,hyx,rfl⟩
 have h0:val b≠0:=fun h=>by have:=hnil.2 h;rw [this] at hy2;simp at hy2
 obtain ⟨bb,x,hys,hx0,hbb,hxl⟩:=hspl h0
 obtain ⟨k,hk⟩:∃ k,ys.length=k+2:=⟨ys.length-2,by omega⟩
 have hyl:bb.length=k+1:=by rw [hys] at hk;simp at hk;omega
 obtain ⟨m0,hm0⟩:∃ m0,xs.length=m0+(k+2):=⟨xs.length-(k+2),by omega⟩
 obtain ⟨n,hn⟩:∃ n,n=32-BN x:=⟨_,rfl⟩
 obtain ⟨hn32,hV1,hV2⟩:=Xo hys hbb hx0 hxl hn
 have hxat:ys[k+1]?=some x:=by rw [hys,← hyl];simp
 have flz:=GQ hxl
 rw [← hn] at flz
 have fsx:=Nd (a:=xs) (n:=n) oa (by omega) hn32
 have fsy:=Nd (a:=ys) (n:=n) ob (by omega) hn32
 obtain ⟨ux1,ux2⟩:=PK hn32 xs 0 oa (Nat.pow_pos (by decide))
 obtain ⟨uy1,uy2⟩:=PK hn32 ys 0 ob (Nat.pow_pos (by decide))
 have ux3:=JM n xs 0
 have uy3:=JM n ys 0
 rw [Nat.zero_add] at ux1 uy1
 generalize shL n 0 xs=u0 at *
 generalize shL n 0 ys=w0 at *
 have hvz:=FD (u:=w0) (k:=ys.length) (by omega) (by rw [uy1];exact hV1)
 have hvv:val (w0.take ys.length)=val b * 2 ^ n:=by
  have:=CB w0 ys.length (by omega)
  rw [hvz,Nat.mul_zero,Nat.add_zero,uy1,vb] at this
  exact this.symm
 have ov:=uy2.take ys.length
 have lv:(w0.take ys.length).length=k+2:=by rw [List.length_take];omega
 generalize hvdef:w0.take ys.length=v at *
 rw [vb,hyl] at hV2
 rw [vb,hk] at hV1
 rw [va] at ux1
 have htop:=WN ov (show v.length=(k+1)+1 by omega) (by rw [hvv];exact hV2)
 have hst:=UK (V:=val v) (m:=m0+1) (k:=k+1) oa hn32 (by omega) (by rw [hvv];exact hV2) (by rw [ux1,va]) (u:=u0) (by omega)
 have hVpos:0<val v:=by rw [hvv];exact Nat.mul_pos (by omega) (Nat.pow_pos (by decide))
 have e2n:0<2 ^ n:=Nat.pow_pos (by decide)
 have hvlen:val v<4294967296 ^ (k+2):=by rw [hvv];exact hV1
 have hdend:∀ R Q,R+val v * Q=val a * 2 ^ n→R<val v→val a / val b=Q∧R / 2 ^ n=val a % val b:=fun R Q h1 h2=>by
  rw [hvv] at h1 h2
  obtain ⟨e1,e2,_⟩:=Xb e2n h1 h2
  exact ⟨e1,e2⟩
 clear hspl hlt hnil hV2 hvz hV1 hvv uy1 vb va
 refine .sr ?_;refine mvd ?_;refine mvd ?_
 refine ln ?_ (BP _) l32
 refine su ((k+1:Nat):Int) ?_ ?_
 ·rw [Ab];omega
 refine ix (k+1) ?_ rfl (EW hxat) rfl s32
 refine ldp ?_ a32
 refine cl (xs:=[.i .u32 (x:Int)]) ?_ flz Tryz.call167
 refine asd ?_;refine rn ?_;refine .gh (Gh.keep [0,1,7] rfl) ?_;refine .seq ?_;refine .drawn 10 Bw (by kernel_rfl) ?_;refine dv Ah ?_;refine dv Ah ?_;refine dv (v:=.own 118 (L u0)) (vcl (xs:=[.sl (L xs),.i .i64 (n:Int)]) (r:=.own 118 (L u0)) fsx Tryz.call181) ?_;refine dv Ah ?_;refine dv Ah ?_;refine dv (v:=.d (.sl (L w0))) (vcl (xs:=[.sl (L ys),.i .i64 (n:Int)]) (r:=.own 118 (L w0)) fsy Tryz.call181).deep ?_;refine dv Ah ?_;refine dv (vln (BP _) l32) ?_;refine dv (vsl 0 ys.length ?_ (Gs _) s32) ?_
 ·rw [Ab,Ab];omega
 refine dv ZL ?_;refine dz ?_;refine asd ?_;refine RL.gh (Gh.swap (s:=55) (t:=8) rfl rfl rfl) ?_;refine rn ?_
 rw [List.drop_zero,Nat.sub_zero,P5,hvdef]
 refine .gh (Gh.keep [0,7,8,9] rfl) ?_;refine .sr ?_;refine mvd ?_
 refine ln ?_ (BP _) l32
 refine asd ?_;refine rn ?_;refine .sr ?_;refine mvd ?_
 refine ln ?_ (BP _) l32
 refine mvd ?_;refine su (m0:Int) ?_ ?_
 ·rw [Ab,Ab];omega
 refine ad ((m0+1:Nat):Int) ?_ ?_
 ·omega
 refine mk (m0+1) ⟨rfl,rfl⟩ ?_ ?_ e32 rfl
 ·omega
 refine aso ?_;refine rn ?_;refine .mid (fun e H'=>∃ u q,Ok u∧Ok q∧u.length=u0.length∧q.length=m0+1∧val u+val v * val q=val a * 2 ^ n∧val u<val v∧e=[(4,.own 118 (L q)),(7,.d (.i .i64 (n:Int))),(8,.own 118 (L u)),(10,.d (.i .i64 ((L v).length:Nat)))]) ?_ ?_
 ·refine .sr ?_
  refine mvd ?_
  refine ln ?_ (BP _) l32
  refine mvd ?_;refine su (m0:Int) ?_ ?_
  ·rw [Ab,Ab];omega
  refine asd ?_;refine rn ?_;refine .block ?_
  refine .loop (.gh (Gh.keep [4,7,8,9,10,11] rfl) ?_)
  refine AL.cast (env':=[(4,.own 118 (L (List.replicate (m0+1) 0))),(7,.d (.i .i64 (n:Int))),(8,.own 118 (L u0)),(9,.d (.sl (L v))),(10,.d (.i .i64 ((L v).length:Nat))),(11,.d (.i .i64 (((m0+1:Nat):Int)-1)))]) (by rw [Zr,show ((m0+1:Nat):Int)-1=(m0:Int) by omega];rfl) ?_
  refine AL.ind (σ:=Nat×List Nat×List Nat×Ad) (m:=fun s=>s.1) (e:=fun s=>[(4,.own 118 (L s.2.2.1)),(7,.d (.i .i64 (n:Int))),(8,.own 118 (L s.2.1)),(9,.d (.sl (L v))),(10,.d (.i .i64 ((L v).length:Nat))),(11,.d (.i .i64 ((s.1:Int)-1)))]) (h:=fun s=>s.2.2.2)
   (I:=fun s=>s.1≤m0+1∧Ok s.2.1∧Ok s.2.2.1∧s.2.1.length=u0.length∧s.2.2.1.length=m0+1∧val s.2.1+val v * val s.2.2.1=val a * 2 ^ n∧val (s.2.1.drop s.1)<val v∧∀ j,j<s.1→s.2.2.1[j]?=some 0) ?_ (m0+1,u0,List.replicate (m0+1) 0,[]) ⟨Nat.le_refl _,ux2,YP _,rfl,by simp,by simp [Tl,ux1],hst,fun j hj=>by
   dsimp only at hj ⊢
   rw [List.getElem?_replicate,if_pos hj]⟩
  rintro ⟨m,u,q,G⟩ ⟨h1,h2,h3,h4,h5,h6,h7,h8⟩ ih
  dsimp only at h1 h2 h3 h4 h5 h6 h7 h8 ih ⊢
  refine .seq ?_;refine .sr ?_;refine mvd ?_;refine bi ?_;refine rn ?_
  cases m with
  | zero =>
   rw [dF (show ¬(0:Int)≤((0:Nat):Int)-1 by omega)]
   refine BZ ?_;refine .gh (Gh.keep [4,7,8,10] rfl) ?_;refine .exit ?_
   exact ⟨u,q,h2,h3,h4,h5,h6,by simpa using h7,rfl⟩
  | succ i =>
   rw [dT (show (0:Int)≤((i+1:Nat):Int)-1 by omega)]
   obtain ⟨t1,t2,t3⟩:=QA (u:=u) (v:=v) (i:=i) (k:=k) h2 ov lv (by omega) h7 htop
   obtain ⟨g1,g2,g3⟩:=t3 _ rfl
   have fg:=Wi t1 (De h2 (i+k+1)) (De h2 (i+k)) (De ov (k+1)) (De ov k) (by omega)
   have hx2:=CV (u:=u) (j:=i+k+2) (by omega)
   have hx1:=CV (u:=u) (j:=i+k+1) (by omega)
   have hx0':=CV (u:=u) (j:=i+k) (by omega)
   have hy1:=CV (u:=v) (j:=k+1) (by omega)
   have hy0:=CV (u:=v) (j:=k) (by omega)
   have hzd:val (u.drop (i+v.length+1))=0:=by
    have h9:=FD (u:=u.drop (i+1)) (k:=k+2) (by rw [List.length_drop];omega) (by omega)
    rw [List.drop_drop] at h9
    rw [lv,show i+(k+2)+1=i+1+(k+2) by omega];exact h9
   generalize Ph (u.getD (i+k+2) 0) (u.getD (i+k+1) 0) (u.getD (i+k) 0) (v.getD (k+1) 0) (v.getD k 0)=g at *
   have ftk:=W8 (H:=G) (u0:=u) (v:=v) (q:=g) (at0:=i) h2 ov (by omega) (by omega) (by omega)
   obtain ⟨w1,w2,w3,w4,w5,w6,w7⟩:=QD (u:=u) (v:=v) (i:=i) (g:=g) h2 ov (by omega) (by omega) hzd
   generalize hres:BY g v u 0 0 i=res at *
   obtain ⟨u1,bf⟩:=res
   dsimp only at w1 w2 w3 w4 w5 w6 w7 ftk
   generalize u.getD (i+k+2) 0=x2 at *
   generalize u.getD (i+k+1) 0=x1 at *
   generalize u.getD (i+k) 0=x0 at *
   generalize v.getD (k+1) 0=y1 at *
   generalize v.getD k 0=y0 at *
   clear t1 t2 t3 hres
   refine B1 ?_;refine .skip ?_;refine aw ?_;refine .gh (Gh.keep [4,7,8,9,10,11] rfl) ?_;refine .seq ?_;refine .block ?_;refine .seq ?_;refine .drawn 31 Bw (by kernel_rfl) ?_;refine dv Nr ?_;refine dv Ah ?_;refine dv Ah ?_;refine dv (vad ((i+k+2:Nat):Int) ?_) ?_
   ·rw [Ab];omega
   refine dv (Oa (i+k+2) ?_ ?_ s32 (by decide)) ?_
   ·rfl
   ·rw [Ab];omega
   refine dv (Q4 (U x2) ?_ a32) ?_
   ·rw [Nat.zero_add];exact Ja hx2
   refine dv Nr ?_;refine dv Ah ?_;refine dv Ah ?_;refine dv (vad ((i+k+2:Nat):Int) ?_) ?_
   ·rw [Ab];omega
   refine dv (vsu ((i+k+1:Nat):Int) ?_) ?_
   ·omega
   refine dv (Oa (i+k+1) ?_ ?_ s32 (by decide)) ?_
   ·rfl
   ·rw [Ab];omega
   refine dv (Q4 (U x1) ?_ a32) ?_
   ·rw [Nat.zero_add];exact Ja hx1
   refine dv Nr ?_;refine dv Ah ?_;refine dv Ah ?_;refine dv (vad ((i+k+2:Nat):Int) ?_) ?_
   ·rw [Ab];omega
   refine dv (vsu ((i+k:Nat):Int) ?_) ?_
   ·omega
   refine dv (Oa (i+k) ?_ ?_ s32 (by decide)) ?_
   ·rfl
   ·rw [Ab];omega
   refine dv (Q4 (U x0) ?_ a32) ?_
   ·rw [Nat.zero_add];exact Ja hx0'
   refine dv Ah ?_;refine dv Ah ?_;refine dv (vsu ((k+1:Nat):Int) ?_) ?_
   ·rw [Ab];omega
   refine dv (vix (k+1) rfl (EW hy1) rfl s32) ?_;refine dv (Ai a32) ?_;refine dv Ah ?_;refine dv Ah ?_;refine dv (vsu ((k:Nat):Int) ?_) ?_
   ·rw [Ab];omega
   refine dv (vix k rfl (EW hy0) rfl s32) ?_;refine dv (Ai a32) ?_;refine dv (v:=.d (.i .u64 (g:Int))) (vcl (xs:=[U x2,U x1,U x0,U y1,U y0]) (r:=.d (.i .u64 (g:Int))) fg Tryz.call182) ?_;refine dz ?_;refine asd ?_;refine rn ?_;refine .gh (Gh.keep [4,7,8,9,10,11,12] rfl) ?_
   rw [show ((i+1:Nat):Int)-1=(i:Int) by omega]
   refine .mid (fun e H'=>∃ u',Ok u'∧u'.length=u.length∧u'.take i=u.take i∧val (u'.drop i)=val (u.drop i) % val v∧e=[(4,.own 118 (L q)),(7,.d (.i .i64 (n:Int))),(8,.own 118 (L u')),(9,.d (.sl (L v))),(10,.d (.i .i64 ((L v).length:Nat))),(11,.d (.i .i64 (i:Int))),(12,.d (.i .u64 ((val (u.drop i) / val v:Nat):Int)))]) ?_ ?_
   ·refine .sr ?_
    refine mvo ?_;refine mvd ?_;refine mvd ?_;refine mvd ?_
    refine Zx (L u1) (fun G2=>?_) ftk Tryz.call183
    refine bi ?_;refine rn ?_
    by_cases hbf:bf=0
    ·subst hbf
     obtain ⟨r1,r2⟩:=Yk (g:=g) (W:=val (u1.drop i)) hVpos (by simpa using w6) g1
     rw [dF (show ¬(0:Int)<((0:Nat):Int) by omega)]
     refine BZ ?_;refine .gh (Gh.keep [4,7,8,9,10,11,12] rfl) ?_;refine .skip ?_
     exact ⟨u1,w1,w2,w3,r2,by rw [← r1];rfl⟩
    ·have hbf1:bf=1:=by omega
     subst hbf1
     rw [dT (show (0:Int)<((1:Nat):Int) by omega)]
     obtain ⟨ag,hag⟩:∃ ag,FK v u1 0 i=ag:=⟨_,rfl⟩
     obtain ⟨wl,c⟩:=ag
     obtain ⟨z1,z2,z3,z4,⟨ec,z5⟩,z6⟩:=Rs (u:=u1) (v:=v) (i:=i) w1 ov (by omega) w5 hag rfl
     rw [Nat.one_mul] at w6
     obtain ⟨r1,r2,r3⟩:=Ym (T:=val (u.drop i)) hVpos w6 w7 g2 z5 z6 (by rw [lv,Nat.pow_succ];omega)
     have hwl:=Ll v u1 0 i ov w1 (by decide) (by omega)
     rw [hag] at hwl
     obtain ⟨y1',y2',y3',y4',_,_⟩:=hwl
     dsimp only at y1' y2' y3' y4'
     have hxw:=CV (u:=wl) (j:=i+v.length) (by omega)
     generalize wl.getD (i+v.length) 0=xw at *
     refine B1 ?_;refine .gh (Gh.keep [4,7,8,9,10,11,12] rfl) ?_;refine .sr ?_;refine mvd ?_;refine bie (.i .u64 ((g-1:Nat):Int)) ?_ ?_
     ·refine ⟨trivial,?_⟩
      rw [show (g:Int)-1=((g-1:Nat):Int) by omega,Cb (by omega)]
     refine asd ?_;refine rn ?_
     rw [r1]
     refine .sr ?_;refine asd ?_;refine rn ?_;refine .mid (fun e H'=>e=[(4,.own 118 (L q)),(7,.d (.i .i64 (n:Int))),(8,.own 118 (L wl)),(9,.d (.sl (L v))),(10,.d (.i .i64 ((L v).length:Nat))),(11,.d (.i .i64 (i:Int))),(12,.d (.i .u64 ((val (u.drop i) / val v:Nat):Int))),(13,.d (.i .u32 (c:Int)))]) ?_ ?_
     ·refine .sr ?_
      refine mvd ?_
      refine ln ?_ (BP _) l32
      refine mvd ?_;refine rn ?_;refine .block ?_
      refine .loop (.gh (Gh.keep [4,7,8,9,10,11,12,13,117,118,119] rfl) ?_)
      refine AL.ind (σ:=Nat×List Nat×Nat) (m:=fun s=>v.length-s.1) (e:=fun s=>[(4,.own 118 (L q)),(7,.d (.i .i64 (n:Int))),(8,.own 118 (L s.2.1)),(9,.d (.sl (L v))),(10,.d (.i .i64 ((L v).length:Nat))),(11,.d (.i .i64 (i:Int))),(12,.d (.i .u64 ((val (u.drop i) / val v:Nat):Int))),(13,.d (.i .u32 (s.2.2:Int))),(117,.d (.sl (L v))),(118,.d (.i .i64 ((L v).length:Nat))),(119,.d (.i .i64 (s.1:Int)))]) (h:=fun _=>G++G2)
       (I:=fun s=>s.1≤v.length∧Ok s.2.1∧s.2.1.length=u.length∧s.2.2≤1∧FK (v.drop s.1) s.2.1 s.2.2 (i+s.1)=(wl,c)) ?_ (0,u1,0) ⟨Nat.zero_le _,w1,w2,by simp,hag⟩
      rintro ⟨j,uu,cc⟩ ⟨a1,a2',a3,a4,a5⟩ ih2
      dsimp only at a1 a2' a3 a4 a5 ih2 ⊢
      refine .sr ?_;refine bi ?_;refine rn ?_;refine .seq ?_
      by_cases hj:j<v.length
      ·rw [dT (show (j:Int)<((L v).length:Nat) by rw [Ab];omega)]
       have hyv:v[j]?=some v[j]:=lG hj
       have hdr:v.drop j=v[j]::v.drop (j+1):=lC hj
       generalize v[j]=yv at hyv hdr
       rw [hdr,R1] at a5
       have hyvl:=ov.at hyv
       have hxv:=CV (u:=uu) (j:=i+j) (by omega)
       have hxvl:=De a2' (i+j)
       have fadd:=VB hxvl hyvl (show cc<4294967296 by omega)
       have hrr:(uu.getD (i+j) 0+yv+cc) % 4294967296<4294967296:=Nat.mod_lt _ (by decide)
       have hc1:(uu.getD (i+j) 0+yv+cc) / 4294967296≤1:=by omega
       generalize (uu.getD (i+j) 0+yv+cc) % 4294967296=rr at *
       generalize (uu.getD (i+j) 0+yv+cc) / 4294967296=c' at *
       generalize uu.getD (i+j) 0=xv at *
       refine B1 ?_;refine .skip ?_;refine aw ?_;refine .seq ?_;refine .block ?_;refine .sr ?_;refine mvd ?_
       refine ix j ?_ rfl (EW hyv) rfl s32
       refine ldp ?_ a32
       refine asd ?_;refine asd ?_;refine rn ?_;refine .region ?_;refine mvo ?_;refine mvd ?_;refine mvd ?_;refine ad ((i+j:Nat):Int) ?_ ?_
       ·omega
       refine mvo ?_;refine mvd ?_;refine mvd ?_;refine ad ((i+j:Nat):Int) ?_ ?_
       ·omega
       refine ixr (i+j) ?_ ?_ ?_ s32 (by decide)
       ·rfl
       ·rw [Ab];omega
       refine lde (U xv) ?_ ?_ a32
       ·rw [Nat.zero_add];exact Ja hxv
       refine mvd ?_;refine mvd ?_
       refine cl (xs:=[U xv,U yv,U cc]) ?_ fadd Tryz.call184
       refine mvt ?_;refine ex ?_;refine ex ?_
       refine ixr (i+j) ?_ ?_ ?_ s32 (by decide)
       ·rfl
       ·rw [Ab];omega
       refine ste ?_ ?_ z32
       ·rw [Nat.zero_add];exact HJ hxv
       refine asd ?_;refine .nil ?_;refine aw ?_;refine .region ?_;refine ad ((j+1:Nat):Int) ?_ ?_
       ·omega
       refine mvd ?_;refine rn ?_;refine .gh (Gh.keep [4,7,8,9,10,11,12,13,117,118,119] rfl) ?_
       have:=ih2 (j+1,uu.set (i+j) rr,c') ⟨by dsimp only;omega,a2'.set _ hrr,by dsimp only;rw [List.length_set];exact a3,hc1,a5⟩ (by dsimp only;omega)
       dsimp only at this
       rw [← MT] at this
       exact this
      ·rw [dF (show ¬(j:Int)<((L v).length:Nat) by rw [Ab];omega)]
       refine BZ ?_;refine .gh (Gh.keep [4,7,8,9,10,11,12,13] rfl) ?_;refine .exit ?_
       have hje:j=v.length:=by omega
       subst hje
       rw [List.drop_eq_nil_of_le (Nat.le_refl _)] at a5
       have e1:uu=wl∧cc=c:=by simpa [FK] using a5
       show _=_
       rw [← e1.1,← e1.2];rfl
     rintro _ H3 rfl
     refine .region ?_;refine mvo ?_;refine mvd ?_;refine mvd ?_;refine ad ((i+v.length:Nat):Int) ?_ ?_
     ·rw [Ab];omega
     refine ixr (i+v.length) ?_ ?_ ?_ s32 (by decide)
     ·rfl
     ·rw [Ab];omega
     refine lde (U xw) ?_ ?_ a32
     ·rw [Nat.zero_add];exact Ja hxw
     refine mvd ?_;refine bie (.i .u32 (((xw+c) % 4294967296:Nat):Int)) ?_ ?_
     ·exact ⟨trivial,by rw [← Int.natCast_add,EF]⟩
     refine ixr (i+v.length) ?_ ?_ ?_ s32 (by decide)
     ·rfl
     ·rw [Ab];omega
     refine ste ?_ ?_ z32
     ·rw [Nat.zero_add];exact HJ hxw
     refine RL.gh (Gh.keep [4,7,8,9,10,11,12] rfl) ?_;refine .nil ?_
     exact ⟨_,z1,by rw [z2];exact w2,by rw [z3];exact w3,r2,by rw [← MT];rfl⟩
   rintro _ G3 ⟨u',p1,p2,p3,p4,rfl⟩
   have hq0:=h8 i (by omega)
   have hQlt:val (u.drop i) / val v<4294967296:=by omega
   have hdm:=Nat.div_add_mod (val (u.drop i)) (val v)
   have hml:=Nat.mod_lt (val (u.drop i)) hVpos
   have hqs:=KP hq0 (y:=val (u.drop i) / val v)
   have hnew:val u'+val v * val (q.set i (val (u.drop i) / val v))=val a * 2 ^ n:=by
    have e1:=CB u i (by omega)
    have e2:=CB u' i (by omega)
    rw [p3,p4] at e2
    rw [e1] at h6
    rw [e2]
    exact RI h6 hdm.symm hqs
   generalize val (u.drop i) / val v=Q at *
   refine .region ?_;refine mvo ?_;refine mvd ?_;refine mvd ?_
   refine cve (Q:Int) (Ka hQlt) ?_ u64 u32
   refine ixr i ?_ ?_ ?_ s32 (by decide)
   ·rfl
   ·rw [Ab];omega
   refine ste ?_ ?_ z32
   ·rw [Nat.zero_add];exact HJ hq0
   refine .nil ?_;refine aw ?_;refine .region ?_;refine mvd ?_;refine su ((i:Int)-1) ?_ ?_
   ·omega
   refine asd ?_;refine rn ?_;refine .gh (Gh.keep [4,7,8,9,10,11] rfl) ?_
   have:=ih (i,u',q.set i Q,G3) ⟨by dsimp only;omega,p1,h3.set _ hQlt,by dsimp only;rw [p2];exact h4,by dsimp only;rw [List.length_set];exact h5,hnew,by dsimp only;rw [p4];exact hml,fun j hj=>by
    dsimp only at hj ⊢
    rw [List.getElem?_set_ne (by omega)]
    exact h8 j (by omega)⟩ (by dsimp only;omega)
   dsimp only at this
   rw [← MT] at this
   exact this
 rintro _ H4 ⟨u,q,h2,h3,h4,h5,h6,h7,rfl⟩
 obtain ⟨d1,d2⟩:=hdend _ _ h6 h7
 have htk:val (u.take v.length)=val u:=by
  have e1:=CB u v.length (by omega)
  have e2:=FD (u:=u) (k:=v.length) (by omega) (by rw [lv];omega)
  rw [e2,Nat.mul_zero,Nat.add_zero] at e1
  exact e1.symm
 have fbk:=Wx (a:=u.take v.length) (n:=n) (h2.take _) (by rw [List.length_take];omega) hn32
 rw [htk,d2] at fbk
 have e9:((L u).drop 0).take (v.length-0)=L (u.take v.length):=by rw [List.drop_zero,Nat.sub_zero,P5]
 rw [← e9] at fbk
 have fct:=F8 (a:=q) h3 (by omega)
 rw [← d1] at fct
 refine .gh (Gh.frz (p:=.t 4) rfl (fun _ _ h=>by cases h)) ?_;refine .gh (Gh.frz (p:=.t 8) rfl (fun _ _ h=>by cases h)) ?_;refine .gh (Gh.keep [4,7,8,10] rfl) ?_;refine .seq ?_;refine .drawn 7 Bw (by kernel_rfl) ?_;refine dv Ah ?_;refine dv (v:=.d (.sl (L (Ao (val a / val b))))) (vcl (xs:=[.sl (L q)]) (r:=.d (.sl (L (Ao (val a / val b))))) fct Tryz.call143) ?_;refine dv Ah ?_;refine dv Ah ?_;refine dv (vsl 0 v.length ?_ (Gs _) s32) ?_
 ·rw [Ab,Ab];omega
 refine dv Ah ?_;refine dv (v:=.d (.sl (L (Ao (val a % val b))))) (vcl (xs:=[.sl (((L u).drop 0).take (v.length-0)),.i .i64 (n:Int)]) (r:=.d (.sl (L (Ao (val a % val b))))) fbk Tryz.call185) ?_;refine dz ?_;refine asd ?_;refine asd ?_;refine asd ?_;refine rn ?_;refine .ret ?_
 exact ⟨by decide,by rw [Uz,if_neg h0,dT h0];rfl,rfl,rfl,rfl⟩
def GH (ls:List (List Nat)) : Nat:=ls.foldl (fun g a=>Nat.gcd g (val a)) 0
theorem OY (ls:List (List Nat)) (y:List Nat) : GH (ls++[y])=Nat.gcd (GH ls) (val y):=by
 rw [GH,GH,List.foldl_append];rfl
theorem Pp {g x P:Nat} (hg:g<P) (hx:x<P) : Nat.gcd g x<P:=by
 by_cases h:x=0
 ·subst h;rwa [Nat.gcd_zero_right]
 ·exact Nat.lt_of_le_of_lt (Nat.gcd_le_right g (Nat.pos_of_ne_zero h)) hx
theorem Wk {g x:Nat} : Nat.gcd x (g % x)=Nat.gcd g x:=by
 rw [Nat.gcd_comm g x,Nat.gcd_rec x g,Nat.gcd_comm]
theorem Yy {M:Nat} {ls:List (List Nat)} (h:∀ a∈ls,Ok a) (hM:∀ a∈ls,a.length≤M) (hl:ls.length≤1000) (hM2:M≤500000) : Fn Tryz.prog 165 [.sl (LL ls)] (.d (.sl (L (Ao (GH ls))))):=by
 have hv:∀ a∈ls,val a<4294967296 ^ M:=fun a ha=>nL (Es (h a ha)) (Nat.pow_le_pow_right (by decide) (hM a ha))
 have hP:0<4294967296 ^ M:=Nat.pow_pos (by decide)
 refine Fn.o1 2 31 Tryz.func165 ?_;refine .sr ?_;refine asn ?_;refine rn ?_;refine .sr ?_;refine asn ?_;refine rn ?_;refine .mid (fun e H'=>e=[(3,.d (.sl (L (Ao (GH ls)))))]) ?_ ?_
 ·refine .sr ?_
  refine mvd ?_
  refine ln ?_ (XG _) l2
  refine mvd ?_;refine rn ?_;refine .block ?_;refine .gh (Gh.nlD (t:=3) rfl) ?_
  refine .loop (.gh (Gh.keep [3,9,10,11] rfl) ?_)
  refine AL.cast (env':=[(3,.d (.sl (L (Ao (GH (ls.take 0)))))),(9,.d (.sl (LL ls))),(10,.d (.i .i64 ((LL ls).length:Nat))),(11,.d (.i .i64 ((0:Nat):Int)))]) (by rw [List.take_zero];show _=[(3,AV.d (.sl (L (Ao 0)))),(9,AV.d (.sl (LL ls))),_,_];rw [AU];rfl) ?_
  refine AL.ind (σ:=Nat) (m:=fun i=>ls.length-i) (e:=fun i=>[(3,.d (.sl (L (Ao (GH (ls.take i)))))),(9,.d (.sl (LL ls))),(10,.d (.i .i64 ((LL ls).length:Nat))),(11,.d (.i .i64 (i:Int)))]) (h:=fun _=>[])
   (I:=fun i=>i≤ls.length∧GH (ls.take i)<4294967296 ^ M) ?_ 0 ⟨Nat.zero_le _,by rw [List.take_zero];exact hP⟩
  rintro i ⟨h1,h2⟩ ih
  refine .sr ?_;refine bi ?_;refine rn ?_;refine .seq ?_
  by_cases hi:i<ls.length
  ·rw [dT (show (i:Int)<((LL ls).length:Nat) by rw [Jd];omega)]
   have hy:ls[i]?=some ls[i]:=lG hi
   have htk:ls.take (i+1)=ls.take i++[ls[i]]:=List.take_succ_eq_append_getElem hi
   generalize ls[i]=y at hy htk
   have hyo:=h y (List.mem_of_getElem? hy)
   have hyl:=hM y (List.mem_of_getElem? hy)
   have hyv:=hv y (List.mem_of_getElem? hy)
   have hst:GH (ls.take (i+1))=Nat.gcd (GH (ls.take i)) (val y):=by rw [htk,OY]
   generalize GH (ls.take i)=g at *
   refine B1 ?_;refine .skip ?_;refine aw ?_;refine .seq ?_;refine .block ?_;refine .sr ?_
   refine ix i ?_ rfl (XA hy) rfl s2
   refine ldp ?_ a2
   refine asd ?_;refine rn ?_;refine .sr ?_;refine mvd ?_
   refine cl (xs:=[.sl (L y)]) ?_ (Pk hyo (by omega)) Tryz.call172
   refine aso ?_;refine RL.gh (Gh.frz (p:=.t 5) rfl (fun _ _ h=>by cases h)) ?_;refine rn ?_;refine .block ?_
   refine .loop (.gh (Gh.keep [3,5,9,10,11] rfl) ?_)
   refine AL.ind (σ:=Nat×Nat) (m:=fun s=>s.2) (e:=fun s=>[(3,.d (.sl (L (Ao s.1)))),(5,.d (.sl (L (Ao s.2)))),(9,.d (.sl (LL ls))),(10,.d (.i .i64 ((LL ls).length:Nat))),(11,.d (.i .i64 (i:Int)))]) (h:=fun _=>[])
    (I:=fun s=>s.1<4294967296 ^ M∧s.2<4294967296 ^ M∧Nat.gcd s.1 s.2=Nat.gcd g (val y)) ?_ (g,val y) ⟨h2,hyv,rfl⟩
   rintro ⟨p,x⟩ ⟨g1,g2,g3⟩ ih2
   dsimp only at g1 g2 g3 ih2 ⊢
   refine .seq ?_;refine .sr ?_;refine mvd ?_
   refine ln ?_ (BP _) l32
   refine bi ?_;refine rn ?_
   by_cases hx:x=0
   ·subst hx
    rw [dF (show ¬(0:Int)<((L (Ao 0)).length:Nat) by rw [AU];decide)]
    rw [Nat.gcd_zero_right,← hst] at g3
    refine BZ ?_;refine .exit ?_;refine aw ?_;refine .region ?_;refine ad ((i+1:Nat):Int) ?_ ?_
    ·omega
    refine mvd ?_;refine rn ?_;refine .gh (Gh.keep [3,9,10,11] rfl) ?_
    rw [g3]
    exact ih (i+1) ⟨by omega,by rw [← g3];exact g1⟩ (by omega)
   ·have hd:=S2 (m:=x) (by omega)
    rw [dT (show (0:Int)<((L (Ao x)).length:Nat) by rw [Ab];omega)]
    have fd:=Uq (a:=Ao p) (b:=Ao x) (BI _) (BI _) (nT (EE g1) hM2) (nT (EE g2) hM2)
    rw [A8,A8,Uz,if_neg hx] at fd
    refine B1 ?_;refine .skip ?_;refine aw ?_;refine .block ?_;refine .sr ?_;refine mvd ?_;refine mvd ?_
    refine cl (xs:=[.sl (L (Ao p)),.sl (L (Ao x))]) ?_ fd Tryz.call173
    refine mvt ?_;refine ex ?_;refine ex ?_;refine ex ?_;refine asd ?_;refine asd ?_;refine asd ?_;refine rn ?_;refine .region ?_;refine mvd ?_;refine mvd ?_;refine asd ?_;refine asd ?_;refine .nil ?_;refine AL.gh (Gh.keep [3,5,9,10,11] rfl) ?_
    have hlt:=Nat.mod_lt p (Nat.pos_of_ne_zero hx)
    exact ih2 (x,p % x) ⟨g2,by show p % x<_;omega,by show Nat.gcd x (p % x)=_;rw [Wk,g3]⟩ hlt
  ·rw [dF (show ¬(i:Int)<((LL ls).length:Nat) by rw [Jd];omega)]
   refine BZ ?_;refine .gh (Gh.keep [3] rfl) ?_;refine .exit ?_
   have e1:ls.take i=ls:=List.take_of_length_le (by omega)
   show _=_
   rw [e1];rfl
 rintro _ _ rfl
 refine .sr ?_;refine mvd ?_;refine asd ?_;refine rn ?_;refine .ret ?_
 exact ⟨rfl,rfl⟩
theorem UN (m:Nat) (h:m<18446744073709551616) : bits .and .u64 (m:Int) 1=((m % 2:Nat) : Int):=by
 have:=bits_mask .u64 64 (by decide) Gc 1 (by decide) (m:Int) (by omega) (by omega)
 rw [show (2:Int) ^ 1-1=1 by decide] at this
 rw [this];simp
theorem Ud {x y:Nat} (hx:x<4294967296) : bits .or .u32 ((x / 2:Nat) : Int) ((y % 2 * 2147483648:Nat) : Int)=(((x+y * 4294967296) / 2 ^ 1 % 4294967296 : Nat) : Int):=by
 rw [bits_join_low .u32 32 (by decide) HH 31 _ _ (by omega) (by omega) (by omega) (by omega) (by omega) (by omega)]
 omega
theorem Sf (a:List Nat) (i:Nat) : (a.drop i).headD 0=a.getD i 0:=by
 rw [List.headD_eq_head?_getD,List.head?_drop,lD]
theorem Mz {a:List Nat} (ha:Ok a) (hl:a.length≤1000000) : Fn Tryz.prog 174 [.sl (L a)] (.own 118 (L (Ao (val a / 2)))):=by
 obtain ⟨s1,s2⟩:=Pz (n:=1) (by decide) a ha
 have s3:=Gf 1 a
 refine Fn.o1 2 29 Tryz.func174 ?_;refine .sr ?_;refine asn ?_;refine rn ?_;refine .sr ?_;refine asn ?_;refine rn ?_;refine .mid (fun e H'=>e=[(3,.own 118 (L (shR 1 a)))]∧H'=[]) ?_ ?_
 ·refine .sr ?_
  refine asd ?_;refine rn ?_;refine .block ?_;refine .gh (Gh.nlOwn (t:=3) 118 Vu rfl) ?_
  refine .loop (.gh (Gh.keep [0,3,4] rfl) ?_)
  refine AL.ind (σ:=Nat) (m:=fun i=>a.length-i) (e:=fun i=>[(0,.d (.sl (L a))),(3,.own 118 (L ((shR 1 a).take i))),(4,.d (.i .i64 (i:Int)))]) (h:=fun _=>[])
   (I:=fun i=>i≤a.length) ?_ 0 (Nat.zero_le _)
  intro i h1 ih
  refine .seq ?_;refine .sr ?_;refine mvd ?_;refine mvd ?_
  refine ln ?_ (BP _) l32
  refine bi ?_;refine rn ?_
  by_cases hi:i<a.length
  ·rw [dT (show (i:Int)<((L a).length:Nat) by rw [Ab];omega)]
   have hx:a[i]?=some a[i]:=lG hi
   generalize a[i]=x at hx
   have hxl:=ha.at hx
   have hyl:=De ha (i+1)
   have hsh:=Si 1 a i x hx
   rw [Sf] at hsh
   have flm:=KG (a:=a) ha (i:=i+1) (by omega)
   have htk:(shR 1 a).take (i+1)=(shR 1 a).take i++[(x+a.getD (i+1) 0 * 4294967296) / 2 ^ 1 % 4294967296]:=by
    rw [List.take_add_one,hsh];rfl
   generalize a.getD (i+1) 0=y at *
   have hout:((shR 1 a).take i).length=i:=by rw [List.length_take];omega
   generalize (shR 1 a).take i=out at *
   have hj:=Ud (x:=x) (y:=y) hxl
   generalize (x+y * 4294967296) / 2 ^ 1 % 4294967296=z at *
   have hsz:∀ d∈L [z],d.flat=true∧d.cells.length=1:=by
    intro d hd
    simp only [L,List.map_cons,List.map_nil,List.mem_cons,List.not_mem_nil,or_false] at hd
    subst hd;exact ⟨rfl,rfl⟩
   refine B1 ?_;refine .skip ?_;refine aw ?_;refine .seq ?_;refine .block ?_;refine .drawn 15 Bw (by kernel_rfl) ?_;refine dv Nr ?_;refine dv Ah ?_;refine dv Ah ?_;refine dv (vix i rfl (EW hx) rfl s32) ?_;refine dv (Ai a32) ?_;refine dv (PO (.i .u32 ((x / 2:Nat):Int)) ?_) ?_
   ·simp [IntKind.bits]
   refine dv Ah ?_;refine dv Ah ?_;refine dv (vad ((i+1:Nat):Int) ?_) ?_
   ·omega
   refine dv (v:=.d (.i .u64 (y:Int))) (vcl (xs:=[.sl (L a),.i .i64 ((i+1:Nat):Int)]) flm Tryz.call186) ?_;refine dv (PO (.i .u64 ((y % 2:Nat):Int)) ?_) ?_
   ·exact ⟨trivial,by rw [UN y (by omega)]⟩
   refine dv (U1 ((y % 2:Nat):Int) (Ka (by omega)) u64 u32) ?_;refine dv (PO (.i .u32 ((y % 2 * 2147483648:Nat):Int)) ?_) ?_
   ·refine ⟨by decide,?_⟩
    have:IntKind.u32.wrap ((y % 2 * 2147483648:Nat):Int)=((y % 2 * 2147483648:Nat):Int):=Ka (by omega)
    rw [← this];simp [IntKind.bits]
   refine dv (PO (.i .u32 (z:Int)) ?_) ?_
   ·exact ⟨trivial,by rw [hj]⟩
   refine dv (v:=.d (.sl (L [z]))) (Lp hsz e32).deep ?_;refine dz ?_
   refine apr ?_ ?_ (Gs [z]) e32
   ·simp [Ab];omega
   refine aso ?_;refine .nil ?_;refine aw ?_;refine .region ?_;refine mvd ?_;refine ad ((i+1:Nat):Int) ?_ ?_
   ·omega
   refine asd ?_;refine rn ?_;refine .gh (Gh.keep [0,3,4] rfl) ?_
   have:=ih (i+1) (by omega) (by omega)
   rw [htk,← ND] at this
   exact this
  ·rw [dF (show ¬(i:Int)<((L a).length:Nat) by rw [Ab];omega)]
   refine BZ ?_;refine .gh (Gh.keep [3] rfl) ?_;refine .exit ?_
   have e1:(shR 1 a).take i=shR 1 a:=List.take_of_length_le (by omega)
   exact ⟨by rw [e1];rfl,rfl⟩
 rintro _ _ ⟨rfl,rfl⟩
 refine .gh (Gh.frz (p:=.t 3) rfl (fun _ _ h=>by cases h)) ?_;refine .sr ?_;refine mvd ?_
 refine cl (xs:=[.sl (L (shR 1 a))]) ?_ (DW s2 (by omega)) Tryz.call152
 refine aso ?_;refine rn ?_;refine .ret ?_
 exact ⟨by rw [s1];rfl,rfl⟩
theorem UP {k y:Nat} (h:y % 2=1) : Nat.gcd (2 * k) y=Nat.gcd k y:=by
 have hc:Nat.Coprime 2 y:=by rw [Nat.coprime_iff_gcd_eq_one,Nat.gcd_rec,h];decide
 exact hc.gcd_mul_left_cancel k
theorem OX {x y:Nat} (hx:x % 2=0) (h:y % 2=1) : Nat.gcd (x / 2) y=Nat.gcd x y:=by
 have:=UP (k:=x / 2) h
 rw [show 2 * (x / 2)=x by omega] at this
 exact this.symm
theorem Ua {x y:Nat} (hx:x % 2=1) (h:y % 2=0) : Nat.gcd x (y / 2)=Nat.gcd x y:=by
 rw [Nat.gcd_comm x,Nat.gcd_comm x];exact OX h hx
theorem Rc {x y:Nat} (h:y≤x) : Nat.gcd (x-y) y=Nat.gcd x y:=by
 have:=Nat.gcd_sub_mul_right_left (m:=y) (n:=x) (k:=1) (by omega)
 rwa [Nat.one_mul] at this
theorem VS {x y:Nat} (h:x≤y) : Nat.gcd x (y-x)=Nat.gcd x y:=by
 rw [Nat.gcd_comm x,Nat.gcd_comm x];exact Rc h
theorem Tg {x y:Nat} (h:x=0∨y=0) : x+y=Nat.gcd x y:=by
 rcases h with rfl|rfl<;>simp
theorem Xi {x t M V:Nat} (h:x * 2 ^ t=V) (hx:0<x) (hV:V<4294967296 ^ M) : t<32 * M:=by
 have h1:2 ^ t≤V:=by rw [← h];exact Nat.le_mul_of_pos_left _ hx
 have h2:2 ^ t<2 ^ (32 * M):=by rw [Nat.pow_mul];exact Nat.lt_of_le_of_lt h1 hV
 exact (Nat.pow_lt_pow_iff_right (by decide)).1 h2
theorem Wd {x t V:Nat} (h:x * 2 ^ t=V) (he:x % 2=0) : x / 2 * 2 ^ (t+1)=V:=by
 have:x=2 * (x / 2):=by omega
 generalize x / 2=k at *
 subst this
 rw [← h,Nat.pow_succ];grind
theorem Jr {x:Nat} (h:0<x) : (Ao x)[0]?=some (x % 4294967296):=by
 rw [Er (by omega)];rfl
theorem SZ (x:Nat) : decide (((x % 4294967296 % 2:Nat) : Int)=0)=decide (x % 2=0):=by
 rw [show x % 4294967296 % 2=x % 2 by omega]
 by_cases h:x % 2=0
 ·rw [h];rfl
 ·rw [dF h,dF (by omega)]
theorem PU {x:Nat} (h:0<x) : (0:Int)<((L (Ao x)).length : Nat):=by
 have:=S2 h
 rw [Ab];omega
theorem Vj {x y:Nat} : (0:Int)≤Jx x y↔y≤x:=by
 unfold Jx
 by_cases h1:x<y
 ·rw [if_pos h1];omega
 ·rw [if_neg h1];split<;>omega
theorem Th {x y:Nat} (h:y≤x) : UM x y=x-y:=by
 unfold UM;split<;>omega
theorem Sa {M:Nat} {a b:List Nat} (ha:Ok a) (hb:Ok b) (hla:a.length≤M) (hlb:b.length≤M) (hM:M≤100000) : Fn Tryz.prog 166 [.sl (L a),.sl (L b)] (.d (.sl (L (Ao (Nat.gcd (val a) (val b)))))):=by
 have hva:val a<4294967296 ^ M:=nL (Es ha) (Nat.pow_le_pow_right (by decide) hla)
 have hvb:val b<4294967296 ^ M:=nL (Es hb) (Nat.pow_le_pow_right (by decide) hlb)
 have hgl:Nat.gcd (val a) (val b)<4294967296 ^ M:=Pp hva hvb
 have dl:∀ {x:Nat},x<4294967296 ^ M→(Ao x).length≤100000:=fun h=>nT (EE h) hM
 refine Fn.o1 4 90 Tryz.func166 ?_;refine .sr ?_;refine asn ?_;refine rn ?_;refine .sr ?_;refine mvd ?_
 refine cl (xs:=[.sl (L a)]) ?_ (DW ha (by omega)) Tryz.call152
 refine mvd ?_
 refine cl (xs:=[.sl (L b)]) ?_ (DW hb (by omega)) Tryz.call152
 refine aso ?_;refine aso ?_;refine rn ?_;refine .gh (Gh.frz (p:=.t 0) rfl (fun _ _ h=>by cases h)) ?_;refine .gh (Gh.frz (p:=.t 1) rfl (fun _ _ h=>by cases h)) ?_;refine .sr ?_;refine asd ?_;refine rn ?_;refine .gh (Gh.keep [0,1,5] rfl) ?_;refine .mid (fun e H'=>H'=[]∧∃ x y t,x<4294967296 ^ M∧y<4294967296 ^ M∧t≤32 * M∧x * 2 ^ t=val a∧y * 2 ^ t=val b∧(x=0∨y=0∨x % 2=1∨y % 2=1)∧e=[(0,.d (.sl (L (Ao x)))),(1,.d (.sl (L (Ao y)))),(5,.d (.i .i64 (t:Int)))]) ?_ ?_
 ·refine .block ?_
  refine .loop ?_
  refine AL.ind (σ:=Nat×Nat×Nat) (m:=fun s=>s.1) (e:=fun s=>[(0,.d (.sl (L (Ao s.1)))),(1,.d (.sl (L (Ao s.2.1)))),(5,.d (.i .i64 (s.2.2:Int)))]) (h:=fun _=>[])
   (I:=fun s=>s.1<4294967296 ^ M∧s.2.1<4294967296 ^ M∧s.2.2≤32 * M∧s.1 * 2 ^ s.2.2=val a∧s.2.1 * 2 ^ s.2.2=val b) ?_ (val a,val b,0) ⟨hva,hvb,Nat.zero_le _,by simp,by simp⟩
  rintro ⟨x,y,t⟩ ⟨h1,h2,h3,h4,h5⟩ ih
  dsimp only at h1 h2 h3 h4 h5 ih ⊢
  refine .mid (fun e H'=>H'=[]∧0<x∧0<y∧x % 2=0∧y % 2=0∧e=[(0,.d (.sl (L (Ao x)))),(1,.d (.sl (L (Ao y)))),(5,.d (.i .i64 (t:Int)))]) ?_ ?_
  ·refine .sr ?_
   refine mvd ?_
   refine ln ?_ (BP _) l32
   refine bi ?_;refine mvd ?_
   by_cases hx:x=0
   ·rw [hx,dF (show ¬(0:Int)<((L (Ao 0)).length:Nat) by rw [AU];decide)]
    refine gf3 ?_;refine pkd ?_;refine mvd ?_;refine gf4 ?_;refine gf ?_;refine pkd ?_;refine mvd ?_;refine gf4 ?_;refine gf ?_;refine pkd ?_;refine rn ?_;refine BZ ?_;refine .gh (Gh.keep [0,1,5] rfl) ?_;refine .exit ?_
    subst hx
    exact ⟨rfl,0,y,t,h1,h2,h3,h4,h5,.inl rfl,rfl⟩
   rw [dT (PU (show 0<x by omega))]
   refine mvd ?_
   refine ln ?_ (BP _) l32
   refine bi ?_
   by_cases hy:y=0
   ·rw [hy,dF (show ¬(0:Int)<((L (Ao 0)).length:Nat) by rw [AU];decide)]
    refine pkd ?_;refine mvd ?_;refine gf4 ?_;refine gf ?_;refine pkd ?_;refine mvd ?_;refine gf4 ?_;refine gf ?_;refine pkd ?_;refine rn ?_;refine BZ ?_;refine .gh (Gh.keep [0,1,5] rfl) ?_;refine .exit ?_
    subst hy
    exact ⟨rfl,x,0,t,h1,h2,h3,h4,h5,.inr (.inl rfl),rfl⟩
   rw [dT (PU (show 0<y by omega))]
   refine pkd ?_;refine mvd ?_;refine mvd ?_
   refine ix 0 ?_ rfl (EW (Jr (show 0<x by omega))) rfl s32
   refine ldp ?_ a32
   refine bie (.i .u32 ((x % 4294967296 % 2:Nat):Int)) ?_ ?_
   ·exact ⟨trivial,by rw [KJ _ (Nat.mod_lt _ (by decide))]⟩
   refine bi ?_
   rw [SZ]
   by_cases hx2:x % 2=0
   ·rw [dT hx2]
    refine pkd ?_;refine mvd ?_;refine mvd ?_
    refine ix 0 ?_ rfl (EW (Jr (show 0<y by omega))) rfl s32
    refine ldp ?_ a32
    refine bie (.i .u32 ((y % 4294967296 % 2:Nat):Int)) ?_ ?_
    ·exact ⟨trivial,by rw [KJ _ (Nat.mod_lt _ (by decide))]⟩
    refine bi ?_
    rw [SZ]
    by_cases hy2:y % 2=0
    ·rw [dT hy2]
     refine pkd ?_;refine rn ?_;refine B1 ?_;refine .gh (Gh.keep [0,1,5] rfl) ?_;refine .skip ?_
     exact ⟨rfl,by omega,by omega,hx2,hy2,rfl⟩
    ·rw [dF hy2]
     refine pkd ?_;refine rn ?_;refine BZ ?_;refine .gh (Gh.keep [0,1,5] rfl) ?_;refine .exit ?_
     exact ⟨rfl,x,y,t,h1,h2,h3,h4,h5,.inr (.inr (.inr (by omega))),rfl⟩
   ·rw [dF hx2]
    refine pkd ?_;refine mvd ?_;refine gf4 ?_;refine gf ?_;refine pkd ?_;refine rn ?_;refine BZ ?_;refine .gh (Gh.keep [0,1,5] rfl) ?_;refine .exit ?_
    exact ⟨rfl,x,y,t,h1,h2,h3,h4,h5,.inr (.inr (.inl (by omega))),rfl⟩
  rintro _ _ ⟨rfl,hx,hy,hx2,hy2,rfl⟩
  have hlim:=Xi h4 hx hva
  have f1:=Mz (a:=Ao x) (BI x) (nT (dl h1) (by decide))
  have f2:=Mz (a:=Ao y) (BI y) (nT (dl h2) (by decide))
  rw [A8] at f1 f2
  refine .block ?_;refine .sr ?_;refine mvd ?_
  refine cl (xs:=[.sl (L (Ao x))]) ?_ f1 Tryz.call174
  refine mvd ?_
  refine cl (xs:=[.sl (L (Ao y))]) ?_ f2 Tryz.call174
  refine aso ?_;refine aso ?_;refine rn ?_;refine .gh (Gh.frz (p:=.t 0) rfl (fun _ _ h=>by cases h)) ?_;refine .gh (Gh.frz (p:=.t 1) rfl (fun _ _ h=>by cases h)) ?_;refine .gh (Gh.keep [0,1,5] rfl) ?_;refine .region ?_;refine mvd ?_;refine ad ((t+1:Nat):Int) ?_ ?_
  ·omega
  refine asd ?_;refine .nil ?_;refine AL.gh (Gh.keep [0,1,5] rfl) ?_
  exact ih (x / 2,y / 2,t+1) ⟨by dsimp only;omega,by dsimp only;omega,by dsimp only;omega,Wd h4 hx2,Wd h5 hy2⟩ (by dsimp only;omega)
 rintro _ _ ⟨rfl,x0,y0,t,h1,h2,h3,h4,h5,h6,rfl⟩
 have hG:Nat.gcd x0 y0 * 2 ^ t=Nat.gcd (val a) (val b):=by rw [← h4,← h5,Nat.gcd_mul_right]
 rw [← hG] at hgl ⊢
 have htl:32 * M≤3200000:=by omega
 clear h4 h5 hG
 refine .mid (fun e H'=>H'=[]∧∃ x y,x<4294967296 ^ M∧y<4294967296 ^ M∧x+y=Nat.gcd x0 y0∧e=[(0,.d (.sl (L (Ao x)))),(1,.d (.sl (L (Ao y)))),(5,.d (.i .i64 (t:Int)))]) ?_ ?_
 ·refine .block ?_
  refine .loop ?_
  refine AL.ind (σ:=Nat×Nat) (m:=fun s=>s.1+s.2) (e:=fun s=>[(0,.d (.sl (L (Ao s.1)))),(1,.d (.sl (L (Ao s.2)))),(5,.d (.i .i64 (t:Int)))]) (h:=fun _=>[])
   (I:=fun s=>s.1<4294967296 ^ M∧s.2<4294967296 ^ M∧Nat.gcd s.1 s.2=Nat.gcd x0 y0∧(s.1=0∨s.2=0∨s.1 % 2=1∨s.2 % 2=1)) ?_ (x0,y0) ⟨h1,h2,rfl,h6⟩
  rintro ⟨x,y⟩ ⟨g1,g2,g3,g4⟩ ih
  dsimp only at g1 g2 g3 g4 ih ⊢
  refine .mid (fun e H'=>H'=[]∧0<x∧0<y∧e=[(0,.d (.sl (L (Ao x)))),(1,.d (.sl (L (Ao y)))),(5,.d (.i .i64 (t:Int)))]) ?_ ?_
  ·refine .sr ?_
   refine mvd ?_
   refine ln ?_ (BP _) l32
   refine bi ?_;refine mvd ?_
   by_cases hx:x=0
   ·rw [hx,dF (show ¬(0:Int)<((L (Ao 0)).length:Nat) by rw [AU];decide)]
    refine gf3 ?_;refine pkd ?_;refine rn ?_;refine BZ ?_;refine .gh (Gh.keep [0,1,5] rfl) ?_;refine .exit ?_
    subst hx
    exact ⟨rfl,0,y,g1,g2,by rw [Tg (.inl rfl),g3],rfl⟩
   rw [dT (PU (show 0<x by omega))]
   refine mvd ?_
   refine ln ?_ (BP _) l32
   refine bi ?_
   by_cases hy:y=0
   ·rw [hy,dF (show ¬(0:Int)<((L (Ao 0)).length:Nat) by rw [AU];decide)]
    refine pkd ?_;refine rn ?_;refine BZ ?_;refine .gh (Gh.keep [0,1,5] rfl) ?_;refine .exit ?_
    subst hy
    exact ⟨rfl,x,0,g1,g2,by rw [Tg (.inr rfl),g3],rfl⟩
   rw [dT (PU (show 0<y by omega))]
   refine pkd ?_;refine rn ?_;refine B1 ?_;refine .gh (Gh.keep [0,1,5] rfl) ?_;refine .skip ?_
   exact ⟨rfl,by omega,by omega,rfl⟩
  rintro _ _ ⟨rfl,hx,hy,rfl⟩
  refine .block ?_;refine .block ?_;refine .sr ?_;refine mvd ?_
  refine ix 0 ?_ rfl (EW (Jr hx)) rfl s32
  refine ldp ?_ a32
  refine bie (.i .u32 ((x % 4294967296 % 2:Nat):Int)) ?_ ?_
  ·exact ⟨trivial,by rw [KJ _ (Nat.mod_lt _ (by decide))]⟩
  refine bi ?_;refine asd ?_;refine rn ?_
  rw [SZ]
  by_cases hx2:x % 2=0
  ·rw [dT hx2]
   have f1:=Mz (a:=Ao x) (BI x) (nT (dl g1) (by decide))
   rw [A8] at f1
   refine B1 ?_;refine .gh (Gh.keep [0,1,5] rfl) ?_;refine .region ?_;refine mvd ?_
   refine cl (xs:=[.sl (L (Ao x))]) ?_ f1 Tryz.call174
   refine aso ?_;refine RL.gh (Gh.frz (p:=.t 0) rfl (fun _ _ h=>by cases h)) ?_;refine .nil ?_;refine AL.gh (Gh.keep [0,1,5] rfl) ?_
   exact ih (x / 2,y) ⟨by dsimp only;omega,g2,by dsimp only;rw [← g3];exact OX hx2 (by omega),.inr (.inr (.inr (by dsimp only;omega)))⟩ (by dsimp only;omega)
  rw [dF hx2]
  refine BZ ?_;refine .gh (Gh.keep [0,1,5] rfl) ?_;refine .sr ?_;refine mvd ?_
  refine ix 0 ?_ rfl (EW (Jr hy)) rfl s32
  refine ldp ?_ a32
  refine bie (.i .u32 ((y % 4294967296 % 2:Nat):Int)) ?_ ?_
  ·exact ⟨trivial,by rw [KJ _ (Nat.mod_lt _ (by decide))]⟩
  refine bi ?_;refine asd ?_;refine rn ?_
  rw [SZ]
  by_cases hy2:y % 2=0
  ·rw [dT hy2]
   have f1:=Mz (a:=Ao y) (BI y) (nT (dl g2) (by decide))
   rw [A8] at f1
   refine B1 ?_;refine .gh (Gh.keep [0,1,5] rfl) ?_;refine .region ?_;refine mvd ?_
   refine cl (xs:=[.sl (L (Ao y))]) ?_ f1 Tryz.call174
   refine aso ?_;refine RL.gh (Gh.frz (p:=.t 1) rfl (fun _ _ h=>by cases h)) ?_;refine .nil ?_;refine AL.gh (Gh.keep [0,1,5] rfl) ?_
   exact ih (x,y / 2) ⟨g1,by dsimp only;omega,by dsimp only;rw [← g3];exact Ua (by omega) hy2,.inr (.inr (.inl (by dsimp only;omega)))⟩ (by dsimp only;omega)
  rw [dF hy2]
  have fc:=G5 (a:=Ao x) (b:=Ao y) (BI x) (BI y) (nT (dl g1) (by decide)) (nT (dl g2) (by decide))
  rw [A8,A8] at fc
  refine BZ ?_;refine .gh (Gh.keep [0,1,5] rfl) ?_;refine .sr ?_;refine mvd ?_;refine mvd ?_
  refine cl (xs:=[.sl (L (Ao x)),.sl (L (Ao y))]) ?_ fc Tryz.call150
  refine bi ?_;refine asd ?_;refine rn ?_
  by_cases hle:y≤x
  ·rw [dT (Vj.2 hle)]
   have fm:=LX (a:=Ao x) (b:=Ao y) (BI x) (BI y) (nT (dl g1) (by decide)) (nT (dl g2) (by decide))
   rw [A8,A8,Th hle] at fm
   refine B1 ?_;refine .gh (Gh.keep [0,1,5] rfl) ?_;refine .region ?_;refine mvd ?_;refine mvd ?_
   refine cl (xs:=[.sl (L (Ao x)),.sl (L (Ao y))]) ?_ fm Tryz.call175
   refine mvt ?_;refine ex ?_;refine ex ?_;refine asd ?_;refine .nil ?_;refine AL.gh (Gh.keep [0,1,5] rfl) ?_
   exact ih (x-y,y) ⟨by dsimp only;omega,g2,by dsimp only;rw [← g3];exact Rc hle,.inr (.inr (.inr (by dsimp only;omega)))⟩ (by dsimp only;omega)
  ·rw [dF (fun h=>hle (Vj.1 h))]
   have fm:=LX (a:=Ao y) (b:=Ao x) (BI y) (BI x) (nT (dl g2) (by decide)) (nT (dl g1) (by decide))
   rw [A8,A8,Th (show x≤y by omega)] at fm
   refine BZ ?_;refine .gh (Gh.keep [0,1,5] rfl) ?_;refine .region ?_;refine mvd ?_;refine mvd ?_
   refine cl (xs:=[.sl (L (Ao y)),.sl (L (Ao x))]) ?_ fm Tryz.call175
   refine mvt ?_;refine ex ?_;refine ex ?_;refine asd ?_;refine .nil ?_;refine AL.gh (Gh.keep [0,1,5] rfl) ?_
   exact ih (x,y-x) ⟨g1,by dsimp only;omega,by dsimp only;rw [← g3];exact VS (by omega),.inr (.inr (.inl (by dsimp only;omega)))⟩ (by dsimp only;omega)
 rintro _ _ ⟨rfl,x,y,k1,k2,k3,rfl⟩
 have fa:=XM (a:=Ao x) (b:=Ao y) (BI x) (BI y) (nT (dl k1) (by decide)) (nT (dl k2) (by decide))
 rw [A8,A8,k3] at fa
 refine .sr ?_;refine mvd ?_;refine mvd ?_
 refine cl (xs:=[.sl (L (Ao x)),.sl (L (Ao y))]) ?_ fa Tryz.call176
 refine aso ?_;refine rn ?_;refine .gh (Gh.frz (p:=.t 6) rfl (fun _ _ h=>by cases h)) ?_;refine .gh (Gh.keep [5,6] rfl) ?_
 generalize Nat.gcd x0 y0=G at *
 refine .mid (fun e H'=>e=[(6,.d (.sl (L (Ao (G * 2 ^ t)))))]) ?_ ?_
 ·refine .block ?_
  refine .loop ?_
  refine AL.ind (σ:=Nat×Nat) (m:=fun s=>s.1) (e:=fun s=>[(5,.d (.i .i64 (s.1:Int))),(6,.d (.sl (L (Ao s.2))))]) (h:=fun _=>[])
   (I:=fun s=>s.1≤3200000∧s.2 * 2 ^ s.1=G * 2 ^ t) ?_ (t,G) ⟨by dsimp only;omega,rfl⟩
  rintro ⟨s,g⟩ ⟨g1,g2⟩ ih
  dsimp only at g1 g2 ih ⊢
  have hgv:g<4294967296 ^ M:=by
   have:g≤g * 2 ^ s:=Nat.le_mul_of_pos_right _ (Nat.pow_pos (by decide))
   omega
  refine .seq ?_;refine .sr ?_;refine mvd ?_;refine bi ?_;refine rn ?_
  cases s with
  | zero =>
   refine BZ ?_;refine .gh (Gh.keep [6] rfl) ?_;refine .exit ?_
   rw [← g2,Nat.pow_zero,Nat.mul_one];rfl
  | succ s =>
   have ft:=VW (a:=Ao g) (c0:=0) (BI g) (nT (dl hgv) (by decide)) (by decide)
   rw [A8,Nat.add_zero] at ft
   rw [dT (show (0:Int)<((s+1:Nat):Int) by omega)]
   refine B1 ?_;refine .skip ?_;refine aw ?_;refine .seq ?_;refine .block ?_;refine .region ?_;refine mvd ?_
   refine cl (xs:=[.sl (L (Ao g)),.i .u32 ((0:Nat):Int)]) ?_ ft Tryz.call177
   refine aso ?_;refine RL.gh (Gh.frz (p:=.t 6) rfl (fun _ _ h=>by cases h)) ?_;refine .nil ?_;refine aw ?_;refine .region ?_;refine mvd ?_;refine su (s:Int) ?_ ?_
   ·omega
   refine asd ?_;refine rn ?_;refine .gh (Gh.keep [5,6] rfl) ?_
   exact ih (s,2 * g) ⟨by dsimp only;omega,by dsimp only;rw [← g2,Nat.pow_succ];grind⟩ (by dsimp only;omega)
 rintro _ _ rfl
 refine .sr ?_;refine mvd ?_;refine asd ?_;refine rn ?_;refine .ret ?_
 exact ⟨rfl,rfl⟩
theorem TM {M:Nat} {ls:List (List Nat)} (h:∀ a∈ls,Ok a) (hM:∀ a∈ls,a.length≤M) (hl:ls.length≤1000) (hM2:M≤100000) : Fn Tryz.prog 151 [.sl (LL ls)] (.d (.sl (L (Ao (GH ls))))):=by
 have hv:∀ a∈ls,val a<4294967296 ^ M:=fun a ha=>nL (Es (h a ha)) (Nat.pow_le_pow_right (by decide) (hM a ha))
 have hP:0<4294967296 ^ M:=Nat.pow_pos (by decide)
 refine Fn.o1 2 18 Tryz.func151 ?_;refine .sr ?_;refine asn ?_;refine rn ?_;refine .sr ?_;refine asn ?_;refine rn ?_;refine .mid (fun e H'=>e=[(3,.d (.sl (L (Ao (GH ls)))))]) ?_ ?_
 ·refine .sr ?_
  refine asd ?_;refine rn ?_;refine .block ?_;refine .gh (Gh.nlD (t:=3) rfl) ?_
  refine .loop (.gh (Gh.keep [0,3,4] rfl) ?_)
  refine AL.cast (env':=[(0,.d (.sl (LL ls))),(3,.d (.sl (L (Ao (GH (ls.take 0)))))),(4,.d (.i .i64 ((0:Nat):Int)))]) (by rw [List.take_zero];show _=[(0,AV.d (.sl (LL ls))),(3,AV.d (.sl (L (Ao 0)))),_];rw [AU];rfl) ?_
  refine AL.ind (σ:=Nat) (m:=fun i=>ls.length-i) (e:=fun i=>[(0,.d (.sl (LL ls))),(3,.d (.sl (L (Ao (GH (ls.take i)))))),(4,.d (.i .i64 (i:Int)))]) (h:=fun _=>[])
   (I:=fun i=>i≤ls.length∧GH (ls.take i)<4294967296 ^ M) ?_ 0 ⟨Nat.zero_le _,by rw [List.take_zero];exact hP⟩
  rintro i ⟨h1,h2⟩ ih
  refine .seq ?_;refine .sr ?_;refine mvd ?_;refine mvd ?_
  refine ln ?_ (XG _) l2
  refine bi ?_;refine rn ?_
  by_cases hi:i<ls.length
  ·rw [dT (show (i:Int)<((LL ls).length:Nat) by rw [Jd];omega)]
   have hy:ls[i]?=some ls[i]:=lG hi
   have htk:ls.take (i+1)=ls.take i++[ls[i]]:=List.take_succ_eq_append_getElem hi
   generalize ls[i]=y at hy htk
   have hyo:=h y (List.mem_of_getElem? hy)
   have hyl:=hM y (List.mem_of_getElem? hy)
   have hyv:=hv y (List.mem_of_getElem? hy)
   have hst:GH (ls.take (i+1))=Nat.gcd (GH (ls.take i)) (val y):=by rw [htk,OY]
   generalize GH (ls.take i)=g at *
   have fg:=Sa (M:=M) (a:=Ao g) (b:=y) (BI g) hyo (EE h2) hyl hM2
   rw [A8,← hst] at fg
   refine B1 ?_;refine .skip ?_;refine aw ?_;refine .seq ?_;refine .block ?_;refine .region ?_;refine mvd ?_;refine mvd ?_;refine mvd ?_
   refine ix i ?_ rfl (XA hy) rfl s2
   refine ldp ?_ a2
   refine cl (xs:=[.sl (L (Ao g)),.sl (L y)]) ?_ fg Tryz.call166
   refine asd ?_;refine .nil ?_;refine aw ?_;refine .region ?_;refine mvd ?_;refine ad ((i+1:Nat):Int) ?_ ?_
   ·omega
   refine asd ?_;refine rn ?_;refine .gh (Gh.keep [0,3,4] rfl) ?_
   exact ih (i+1) ⟨by omega,by rw [hst];exact Pp h2 hyv⟩ (by omega)
  ·rw [dF (show ¬(i:Int)<((LL ls).length:Nat) by rw [Jd];omega)]
   refine BZ ?_;refine .gh (Gh.keep [3] rfl) ?_;refine .exit ?_
   have e1:ls.take i=ls:=List.take_of_length_le (by omega)
   show _=_
   rw [e1];rfl
 rintro _ _ rfl
 refine .sr ?_;refine mvd ?_;refine asd ?_;refine rn ?_;refine .ret ?_
 exact ⟨rfl,rfl⟩
abbrev Rv (b:Bool) (n d:List Nat) : DV:=.ag [.b b,.sl (L n),.sl (L d)]
theorem fR0 : CM Tryz.prog 24 0=some (0,1):=by kernel_rfl
theorem fR1 : CM Tryz.prog 24 1=some (1,1):=by kernel_rfl
theorem fR2 : CM Tryz.prog 24 2=some (2,1):=by kernel_rfl
theorem aR : C0 Tryz.prog 24=some true:=by kernel_rfl
theorem sR : AN Tryz.prog 24=3:=by kernel_rfl
theorem pR : EI Tryz.prog 24=some [(0,1),(1,1),(2,1)]:=by kernel_rfl
theorem iR : (Tryz.prog.info? 24).bind (·.zero)=some (.agg #[.bool false,.slice none 0 0,.slice none 0 0]):=by kernel_rfl
theorem Aj {P:Program} {t:TypeId} {z:Value} (h:(P.info? t).bind (·.zero)=some z) (w:World) : (zeroValue t).run P w=.ok z w:=by
 cases hi:P.info? t with
 | none=>rw [hi] at h;cases h
 | some i =>
  rw [hi] at h
  simp only [oB] at h
  simp [zeroValue,typeInfo,hi,h]
theorem rR (w:World) (I:Nat→Prop) : RepAll w I [.b false,.sl [],.sl []] (Value.agg #[.bool false,.slice none 0 0,.slice none 0 0]).cells.toList:=.cons (.b _) (.cons (.sl0 _ _) (.cons (.sl0 _ _) .nil))
theorem aB : C0 Tryz.prog 4=some false:=by kernel_rfl
theorem aS : C0 Tryz.prog 22=some false:=by kernel_rfl
theorem Nh : Fn Tryz.prog 105 [] (.own 118 (L [1])):=by
 refine Fn.o1 0 2 Tryz.func105 ?_;refine .sr ?_;refine asn ?_;refine rn ?_;refine .sr ?_
 refine bsl ?_ ?_ e32
 ·simp [DV.flat,DV.cells,DV.leaf]
 refine aso ?_;refine rn ?_;refine .ret ?_
 exact ⟨rfl,rfl⟩
theorem Jh : Fn Tryz.prog 128 [] (.own 118 (L [1])):=by
 refine Fn.o1 0 2 Tryz.func128 ?_;refine .sr ?_;refine asn ?_;refine rn ?_;refine .sr ?_
 refine bsl ?_ ?_ e32
 ·simp [DV.flat,DV.cells,DV.leaf]
 refine aso ?_;refine rn ?_;refine .ret ?_
 exact ⟨rfl,rfl⟩
theorem QY (a b:List Nat) (hla:a.length≤1048576) (hoa:Ok a) (hob:Ok b) : Fn Tryz.prog 110 [.sl (L a),.sl (L b)] (.d (.b (decide (a=b)))):=by
 refine Fn.o1 4 26 Tryz.func110 ?_;refine .sr ?_;refine asd ?_;refine rn ?_;refine .seq ?_;refine .sr ?_;refine mvd ?_
 refine ln ?_ (BP _) l32
 refine mvd ?_
 refine ln ?_ (BP _) l32
 refine bi ?_;refine rn ?_
 by_cases hlen:a.length≠b.length
 ·rw [dF (show ¬(((L a).length:Nat):Int)=((L b).length:Nat) by rw [Ab,Ab];omega)]
  refine B1 ?_;refine .sr ?_;refine asd ?_;refine rn ?_;refine .ret ?_
  exact ⟨by rw [dF (fun h=>hlen (by rw [h]))];rfl,rfl⟩
 rw [dT (show (((L a).length:Nat):Int)=((L b).length:Nat) by rw [Ab,Ab];omega)]
 refine BZ ?_;refine .skip ?_;refine aw ?_;refine .seq ?_;refine .sr ?_;refine mvd ?_
 refine ln ?_ (BP _) l32
 refine mvd ?_;refine rn ?_;refine .block ?_
 refine .loop (.gh (Gh.keep [0,1,11,12,13] rfl) ?_)
 refine AL.ind (σ:=Nat) (m:=fun i=>a.length-i) (e:=fun i=>[(0,.d (.sl (L a))),(1,.d (.sl (L b))),(11,.d (.sl (L a))),(12,.d (.i .i64 ((L a).length:Nat))),(13,.d (.i .i64 (i:Int)))]) (h:=fun _=>[])
  (I:=fun i=>i≤a.length∧a.take i=b.take i) ?_ 0 ⟨Nat.zero_le _,rfl⟩
 rintro i ⟨h1,h2⟩ ih
 refine .sr ?_;refine bi ?_;refine rn ?_;refine .seq ?_
 by_cases hi:i<a.length
 ·rw [dT (show (i:Int)<((L a).length:Nat) by rw [Ab];omega)]
  have hx:a[i]?=some a[i]:=lG hi
  have hy:b[i]?=some b[i]:=lG (by omega)
  have hdx:a.take (i+1)=a.take i++[a[i]]:=List.take_succ_eq_append_getElem hi
  have hdy:b.take (i+1)=b.take i++[b[i]]:=List.take_succ_eq_append_getElem (by omega)
  generalize a[i]=x at hx hdx
  generalize b[i]=y at hy hdy
  refine B1 ?_;refine .skip ?_;refine aw ?_;refine .seq ?_;refine .block ?_;refine .sr ?_;refine mvd ?_;refine asd ?_;refine rn ?_;refine .seq ?_;refine .drawn 9 Bw (by kernel_rfl) ?_;refine dv Ah ?_;refine dv Ah ?_;refine dv (vix i rfl (EW hx) rfl s32) ?_;refine dv (Ai a32) ?_;refine dv Ah ?_;refine dv Ah ?_;refine dv (vix i rfl (EW hy) rfl s32) ?_;refine dv (Ai a32) ?_;refine dv vbi ?_;refine dz ?_;refine rn ?_
  by_cases hxy:x≠y
  ·rw [dF (show ¬(x:Int)=(y:Int) by omega)]
   refine B1 ?_;refine .sr ?_;refine asd ?_;refine rn ?_;refine .ret ?_
   exact ⟨by rw [dF (fun h=>hxy (by rw [h] at hx;rw [hx] at hy;exact oI hy))];rfl,rfl⟩
  rw [dT (show (x:Int)=(y:Int) by omega)]
  refine BZ ?_;refine .skip ?_;refine aw ?_;refine .region ?_;refine ad ((i+1:Nat):Int) ?_ ?_
  ·omega
  refine mvd ?_;refine .nil ?_;refine AL.gh (Gh.keep [0,1,11,12,13] rfl) ?_
  exact ih (i+1) ⟨by omega,by rw [hdx,hdy,h2];congr 2;omega⟩ (by omega)
 rw [dF (show ¬(i:Int)<((L a).length:Nat) by rw [Ab];omega)]
 refine BZ ?_;refine .exit ?_;refine aw ?_;refine .sr ?_;refine asd ?_;refine rn ?_;refine .ret ?_
 rw [List.take_of_length_le (by omega),List.take_of_length_le (by omega)] at h2
 exact ⟨by rw [dT h2];rfl,rfl⟩
def Pu (b:Bool) (n d:List Nat) : Prop:=Ao (val n)=n∧Ao (val d)=d∧n.length≤32∧d.length≤32∧d≠[]∧(n=[]→b=false)∧Nat.gcd (val n) (val d)=1
instance (b:Bool) (n d:List Nat) : Decidable (Pu b n d):=by unfold Pu;infer_instance
def HV (b:Bool) (n d:List Nat) : Bool:=decide (Pu b n d)
theorem EK {b:Bool} {n d:List Nat} (h:¬Pu b n d) : HV b n d=false:=dF h
theorem J9 {g:Nat} : Ao g=[1]↔g=1:=by
 have one:Ao 1=[1]:=MM (n:=1) (by decide) (by decide)
 constructor
 ·intro h
  have:=A8 g
  rw [h] at this
  simpa [val] using this.symm
 ·rintro rfl;exact one
theorem Ft {l:List Nat} : l≠[]↔0<l.length:=by
 cases l<;>simp
theorem Tx {b:Bool} {n d:List Nat} (hn:Ok n) (hd:Ok d) (hln:n.length≤35184372087808) (hld:d.length≤35184372087808) : Fn Tryz.prog 147 [Rv b n d] (.d (.b (HV b n d))):=by
 refine Fn.o1 2 50 Tryz.func147 ?_;refine .sr ?_;refine vk vbx ?_;refine asd ?_;refine rn ?_;refine .seq ?_;refine .sr ?_;refine vk (vfa fR1) ?_
 refine ldp ?_ aS
 refine cl (xs:=[.sl (L n)]) ?_ (Qk hn hln) Tryz.call164
 refine nt_ ?_
 by_cases h1:¬Ao (val n)=n
 ·rw [dF h1]
  refine mvd ?_;refine gf4 ?_;refine pkd ?_;refine mvd ?_;refine gf4 ?_;refine pkd ?_;refine mvd ?_;refine gf4 ?_;refine pkd ?_;refine rn ?_;refine .gh (Gh.keep [1,24] rfl) ?_;refine B1 ?_;refine .sr ?_;refine asd ?_;refine rn ?_;refine .ret ?_
  exact ⟨by rw [EK (fun h=>h1 h.1)];rfl,rfl⟩
 rw [Decidable.not_not] at h1
 rw [dT h1]
 refine mvd ?_;refine vk (vfa fR2) ?_
 refine ldp ?_ aS
 refine cl (xs:=[.sl (L d)]) ?_ (Qk hd hld) Tryz.call164
 refine nt_ ?_
 by_cases h2:¬Ao (val d)=d
 ·rw [dF h2]
  refine pkd ?_;refine mvd ?_;refine gf4 ?_;refine pkd ?_;refine mvd ?_;refine gf4 ?_;refine pkd ?_;refine rn ?_;refine .gh (Gh.keep [1,24] rfl) ?_;refine B1 ?_;refine .sr ?_;refine asd ?_;refine rn ?_;refine .ret ?_
  exact ⟨by rw [EK (fun h=>h2 h.2.1)];rfl,rfl⟩
 rw [Decidable.not_not] at h2
 rw [dT h2]
 refine pkd ?_;refine mvd ?_;refine vk (vfa fR1) ?_
 refine ldp ?_ aS
 refine ln ?_ (BP _) l32
 refine bi ?_
 by_cases h3:32<n.length
 ·rw [dT (show (32:Int)<((L n).length:Nat) by rw [Ab];omega)]
  refine pkd ?_;refine mvd ?_;refine gf4 ?_;refine pkd ?_;refine rn ?_;refine .gh (Gh.keep [1,24] rfl) ?_;refine B1 ?_;refine .sr ?_;refine asd ?_;refine rn ?_;refine .ret ?_
  exact ⟨by rw [EK (fun h=>by have:=h.2.2.1;omega)];rfl,rfl⟩
 rw [dF (show ¬(32:Int)<((L n).length:Nat) by rw [Ab];omega)]
 refine pkd ?_;refine mvd ?_;refine vk (vfa fR2) ?_
 refine ldp ?_ aS
 refine ln ?_ (BP _) l32
 refine bi ?_
 by_cases h4:32<d.length
 ·rw [dT (show (32:Int)<((L d).length:Nat) by rw [Ab];omega)]
  refine pkd ?_;refine rn ?_;refine .gh (Gh.keep [1,24] rfl) ?_;refine B1 ?_;refine .sr ?_;refine asd ?_;refine rn ?_;refine .ret ?_
  exact ⟨by rw [EK (fun h=>by have:=h.2.2.2.1;omega)];rfl,rfl⟩
 rw [dF (show ¬(32:Int)<((L d).length:Nat) by rw [Ab];omega)]
 have g1:=Yy (M:=32) (ls:=[n,d]) (by simp [hn,hd]) (by simp;omega) (by simp) (by decide)
 rw [show GH [n,d]=Nat.gcd (val n) (val d) by show Nat.gcd (Nat.gcd 0 (val n)) (val d)=_;rw [Nat.gcd_zero_left]] at g1
 have lg:(Ao (Nat.gcd (val n) (val d))).length≤32:=EE (Pp (nL (Es hn) (Nat.pow_le_pow_right (by decide) (by omega))) (nL (Es hd) (Nat.pow_le_pow_right (by decide) (by omega))))
 have q1:=QY (Ao (Nat.gcd (val n) (val d))) [1] (by omega) (BI _) (by simp [Ok])
 rw [decide_eq_decide.2 J9] at q1
 refine pkd ?_;refine rn ?_;refine .gh (Gh.keep [1,24] rfl) ?_;refine BZ ?_;refine .skip ?_;refine aw ?_;refine .sr ?_;refine vk (vfa fR2) ?_
 refine ldp ?_ aS
 refine ln ?_ (BP _) l32
 refine bi ?_
 by_cases h5:0<d.length
 ·rw [dT (show (0:Int)<((L d).length:Nat) by rw [Ab];omega)]
  refine mvd ?_;refine vk (vfa fR1) ?_
  refine ldp ?_ aS
  refine ln ?_ (BP _) l32
  refine bi ?_
  by_cases h6:0<n.length
  ·rw [dT (show (0:Int)<((L n).length:Nat) by rw [Ab];omega)]
   refine mvd ?_;refine gf3 ?_;refine pkd ?_;refine pkd ?_;refine mvd ?_;refine vk (vfa fR1) ?_
   refine ldp ?_ aS
   refine vk (vfa fR2) ?_
   refine ldp ?_ aS
   refine bsl ?_ ?_ e2
   ·simp [DV.flat,DV.cells,DV.leaf]
   refine fz (p:=.t 45) ?_
   refine cl (xs:=[.sl (LL [n,d])]) ?_ g1 Tryz.call165
   refine cl (xs:=[]) ?_ Nh Tryz.call105
   refine fz (p:=.t 47) ?_
   refine cl (xs:=[.sl (L (Ao (Nat.gcd (val n) (val d)))),.sl (L [1])]) ?_ q1 Tryz.call110
   refine pkd ?_;refine asd ?_;refine rn ?_;refine .ret ?_
   exact ⟨by rw [show HV b n d=decide (Nat.gcd (val n) (val d)=1) from decide_eq_decide.2 ⟨fun h=>h.2.2.2.2.2.2,fun h=>⟨h1,h2,by omega,by omega,Ft.2 h5,fun h0=>by rw [h0] at h6;simp at h6,h⟩⟩];rfl,rfl⟩
  rw [dF (show ¬(0:Int)<((L n).length:Nat) by rw [Ab];omega)]
  refine mvd ?_;refine vk (vfa fR0) ?_
  refine ldp ?_ aB
  refine nt_ ?_
  by_cases h7:b=false
  ·subst h7
   refine pkd ?_;refine pkd ?_;refine mvd ?_;refine vk (vfa fR1) ?_
   refine ldp ?_ aS
   refine vk (vfa fR2) ?_
   refine ldp ?_ aS
   refine bsl ?_ ?_ e2
   ·simp [DV.flat,DV.cells,DV.leaf]
   refine fz (p:=.t 45) ?_
   refine cl (xs:=[.sl (LL [n,d])]) ?_ g1 Tryz.call165
   refine cl (xs:=[]) ?_ Nh Tryz.call105
   refine fz (p:=.t 47) ?_
   refine cl (xs:=[.sl (L (Ao (Nat.gcd (val n) (val d)))),.sl (L [1])]) ?_ q1 Tryz.call110
   refine pkd ?_;refine asd ?_;refine rn ?_;refine .ret ?_
   exact ⟨by rw [show HV false n d=decide (Nat.gcd (val n) (val d)=1) from decide_eq_decide.2 ⟨fun h=>h.2.2.2.2.2.2,fun h=>⟨h1,h2,by omega,by omega,Ft.2 h5,fun _=>rfl,h⟩⟩];rfl,rfl⟩
  rw [Bool.not_eq_false] at h7;subst h7
  refine pkd ?_;refine pkd ?_;refine mvd ?_;refine gf4 ?_;refine gf4 ?_;refine pkd ?_;refine asd ?_;refine rn ?_;refine .ret ?_
  exact ⟨by rw [EK (fun h=>by have:=h.2.2.2.2.2.1 (List.length_eq_zero_iff.1 (by omega));cases this)];rfl,rfl⟩
 rw [dF (show ¬(0:Int)<((L d).length:Nat) by rw [Ab];omega)]
 refine mvd ?_;refine gf4 ?_;refine gfu ?_;refine gfn ?_;refine gfn ?_;refine gfn ?_;refine gf ?_;refine pkd ?_;refine mvd ?_;refine gf4 ?_;refine gf4 ?_;refine pkd ?_;refine asd ?_;refine rn ?_;refine .ret ?_
 exact ⟨by rw [EK (fun h=>h5 (Ft.1 h.2.2.2.2.1))];rfl,rfl⟩
theorem MB {g:Nat} : (Jx g 1=0)↔g=1:=by
 unfold Jx
 by_cases h:g<1
 ·rw [if_pos h];omega
 ·rw [if_neg h];split<;>omega
theorem US {b:Bool} {n d:List Nat} (hn:Ok n) (hd:Ok d) (hln:n.length≤35184372087808) (hld:d.length≤35184372087808) : Fn Tryz.prog 125 [Rv b n d] (.d (.b (HV b n d))):=by
 refine Fn.o1 2 50 Tryz.func125 ?_;refine .sr ?_;refine vk vbx ?_;refine asd ?_;refine rn ?_;refine .seq ?_;refine .sr ?_;refine vk (vfa fR1) ?_
 refine ldp ?_ aS
 refine cl (xs:=[.sl (L n)]) ?_ (LI hn hln) Tryz.call149
 refine nt_ ?_
 by_cases h1:¬Ao (val n)=n
 ·rw [dF h1]
  refine mvd ?_;refine gf4 ?_;refine pkd ?_;refine mvd ?_;refine gf4 ?_;refine pkd ?_;refine mvd ?_;refine gf4 ?_;refine pkd ?_;refine mvd ?_;refine gf4 ?_;refine pkd ?_;refine mvd ?_;refine gf4 ?_;refine gfu ?_;refine gfn ?_;refine gfn ?_;refine gf ?_;refine pkd ?_;refine rn ?_;refine .gh (Gh.keep [1,40] rfl) ?_;refine B1 ?_;refine .sr ?_;refine asd ?_;refine rn ?_;refine .ret ?_
  exact ⟨by rw [EK (fun h=>h1 h.1)];rfl,rfl⟩
 rw [Decidable.not_not] at h1
 rw [dT h1]
 refine mvd ?_;refine vk (vfa fR2) ?_
 refine ldp ?_ aS
 refine cl (xs:=[.sl (L d)]) ?_ (LI hd hld) Tryz.call149
 refine nt_ ?_
 by_cases h2:¬Ao (val d)=d
 ·rw [dF h2]
  refine pkd ?_;refine mvd ?_;refine gf4 ?_;refine pkd ?_;refine mvd ?_;refine gf4 ?_;refine pkd ?_;refine mvd ?_;refine gf4 ?_;refine pkd ?_;refine mvd ?_;refine gf4 ?_;refine gfu ?_;refine gfn ?_;refine gfn ?_;refine gf ?_;refine pkd ?_;refine rn ?_;refine .gh (Gh.keep [1,40] rfl) ?_;refine B1 ?_;refine .sr ?_;refine asd ?_;refine rn ?_;refine .ret ?_
  exact ⟨by rw [EK (fun h=>h2 h.2.1)];rfl,rfl⟩
 rw [Decidable.not_not] at h2
 rw [dT h2]
 refine pkd ?_;refine mvd ?_;refine vk (vfa fR2) ?_
 refine ldp ?_ aS
 refine ln ?_ (BP _) l32
 refine bi ?_
 by_cases h5:d.length=0
 ·rw [dT (show (((L d).length:Nat):Int)=0 by rw [Ab];omega)]
  refine pkd ?_;refine mvd ?_;refine gf4 ?_;refine pkd ?_;refine mvd ?_;refine gf4 ?_;refine pkd ?_;refine mvd ?_;refine gf4 ?_;refine gfu ?_;refine gfn ?_;refine gfn ?_;refine gf ?_;refine pkd ?_;refine rn ?_;refine .gh (Gh.keep [1,40] rfl) ?_;refine B1 ?_;refine .sr ?_;refine asd ?_;refine rn ?_;refine .ret ?_
  exact ⟨by rw [EK (fun h=>by have:=Ft.1 h.2.2.2.2.1;omega)];rfl,rfl⟩
 rw [dF (show ¬(((L d).length:Nat):Int)=0 by rw [Ab];omega)]
 refine pkd ?_;refine mvd ?_;refine vk (vfa fR1) ?_
 refine ldp ?_ aS
 refine ln ?_ (BP _) l32
 refine bi ?_
 by_cases h3:32<n.length
 ·rw [dT (show (32:Int)<((L n).length:Nat) by rw [Ab];omega)]
  refine pkd ?_;refine mvd ?_;refine gf4 ?_;refine pkd ?_;refine mvd ?_;refine gf4 ?_;refine gfu ?_;refine gfn ?_;refine gfn ?_;refine gf ?_;refine pkd ?_;refine rn ?_;refine .gh (Gh.keep [1,40] rfl) ?_;refine B1 ?_;refine .sr ?_;refine asd ?_;refine rn ?_;refine .ret ?_
  exact ⟨by rw [EK (fun h=>by have:=h.2.2.1;omega)];rfl,rfl⟩
 rw [dF (show ¬(32:Int)<((L n).length:Nat) by rw [Ab];omega)]
 refine pkd ?_;refine mvd ?_;refine vk (vfa fR2) ?_
 refine ldp ?_ aS
 refine ln ?_ (BP _) l32
 refine bi ?_
 by_cases h4:32<d.length
 ·rw [dT (show (32:Int)<((L d).length:Nat) by rw [Ab];omega)]
  refine pkd ?_;refine mvd ?_;refine gf4 ?_;refine gfu ?_;refine gfn ?_;refine gfn ?_;refine gf ?_;refine pkd ?_;refine rn ?_;refine .gh (Gh.keep [1,40] rfl) ?_;refine B1 ?_;refine .sr ?_;refine asd ?_;refine rn ?_;refine .ret ?_
  exact ⟨by rw [EK (fun h=>by have:=h.2.2.2.1;omega)];rfl,rfl⟩
 rw [dF (show ¬(32:Int)<((L d).length:Nat) by rw [Ab];omega)]
 have g1:=TM (M:=32) (ls:=[n,d]) (by simp [hn,hd]) (by simp;omega) (by simp) (by decide)
 rw [show GH [n,d]=Nat.gcd (val n) (val d) by show Nat.gcd (Nat.gcd 0 (val n)) (val d)=_;rw [Nat.gcd_zero_left]] at g1
 have lg:(Ao (Nat.gcd (val n) (val d))).length≤32:=EE (Pp (nL (Es hn) (Nat.pow_le_pow_right (by decide) (by omega))) (nL (Es hd) (Nat.pow_le_pow_right (by decide) (by omega))))
 have q1:=G5 (a:=Ao (Nat.gcd (val n) (val d))) (b:=[1]) (BI _) (by simp [Ok]) (by omega) (by simp)
 rw [A8,show val [1]=1 from rfl] at q1
 refine pkd ?_;refine mvd ?_;refine vk (vfa fR1) ?_
 refine ldp ?_ aS
 refine ln ?_ (BP _) l32
 refine bi ?_
 by_cases h6:n.length=0
 ·rw [dT (show (((L n).length:Nat):Int)=0 by rw [Ab];omega)]
  refine mvd ?_;refine vk (vfa fR0) ?_
  refine ldp ?_ aB
  by_cases h7:b=true
  ·subst h7
   refine pkd ?_;refine pkd ?_;refine rn ?_;refine .gh (Gh.keep [1,40] rfl) ?_;refine B1 ?_;refine .sr ?_;refine asd ?_;refine rn ?_;refine .ret ?_
   exact ⟨by rw [EK (fun h=>by have:=h.2.2.2.2.2.1 (List.length_eq_zero_iff.1 (by omega));cases this)];rfl,rfl⟩
  rw [Bool.not_eq_true] at h7;subst h7
  refine pkd ?_;refine pkd ?_;refine rn ?_;refine .gh (Gh.keep [1,40] rfl) ?_;refine BZ ?_;refine .skip ?_;refine aw ?_;refine .sr ?_;refine vk (vfa fR1) ?_
  refine ldp ?_ aS
  refine vk (vfa fR2) ?_
  refine ldp ?_ aS
  refine bsl ?_ ?_ e2
  ·simp [DV.flat,DV.cells,DV.leaf]
  refine fz (p:=.t 45) ?_
  refine cl (xs:=[.sl (LL [n,d])]) ?_ g1 Tryz.call151
  refine cl (xs:=[]) ?_ Jh Tryz.call128
  refine fz (p:=.t 47) ?_
  refine cl (xs:=[.sl (L (Ao (Nat.gcd (val n) (val d)))),.sl (L [1])]) ?_ q1 Tryz.call150
  refine bi ?_;refine asd ?_;refine rn ?_;refine .ret ?_
  exact ⟨by rw [show HV false n d=decide (Jx (Nat.gcd (val n) (val d)) 1=0) from decide_eq_decide.2 ⟨fun h=>MB.2 h.2.2.2.2.2.2,fun h=>⟨h1,h2,by omega,by omega,Ft.2 (by omega),fun _=>rfl,MB.1 h⟩⟩];rfl,rfl⟩
 rw [dF (show ¬(((L n).length:Nat):Int)=0 by rw [Ab];omega)]
 refine mvd ?_;refine gf2 ?_;refine pkd ?_;refine pkd ?_;refine rn ?_;refine .gh (Gh.keep [1,40] rfl) ?_;refine BZ ?_;refine .skip ?_;refine aw ?_;refine .sr ?_;refine vk (vfa fR1) ?_
 refine ldp ?_ aS
 refine vk (vfa fR2) ?_
 refine ldp ?_ aS
 refine bsl ?_ ?_ e2
 ·simp [DV.flat,DV.cells,DV.leaf]
 refine fz (p:=.t 45) ?_
 refine cl (xs:=[.sl (LL [n,d])]) ?_ g1 Tryz.call151
 refine cl (xs:=[]) ?_ Jh Tryz.call128
 refine fz (p:=.t 47) ?_
 refine cl (xs:=[.sl (L (Ao (Nat.gcd (val n) (val d)))),.sl (L [1])]) ?_ q1 Tryz.call150
 refine bi ?_;refine asd ?_;refine rn ?_;refine .ret ?_
 exact ⟨by rw [show HV b n d=decide (Jx (Nat.gcd (val n) (val d)) 1=0) from decide_eq_decide.2 ⟨fun h=>MB.2 h.2.2.2.2.2.2,fun h=>⟨h1,h2,by omega,by omega,Ft.2 (by omega),fun h0=>by rw [h0] at h6;simp at h6,MB.1 h⟩⟩];rfl,rfl⟩
abbrev RT:=Bool×List Nat×List Nat
def okR (r:RT) : Prop:=Ok r.2.1∧Ok r.2.2∧r.2.1.length≤35184372087808∧r.2.2.length≤35184372087808
def EV (r:RT) : Bool:=HV r.1 r.2.1 r.2.2
theorem Ru (b c:Bool) (n d m e:List Nat) (hn:n.length≤35184372087808) (hd:d.length≤35184372087808) : Fn Tryz.prog 66 [Rv b n d,Rv c m e] (.d (.b (decide (b=c∧n=m∧d=e)))):=by
 have s1:=Su n m hn
 have s2:=Su d e hd
 refine Fn.o1 4 24 Tryz.func66 ?_;refine .sr ?_;refine vk vbx ?_;refine vk vbx ?_;refine asd ?_;refine rn ?_;refine .sr ?_;refine vk (vfa fR0) ?_
 refine ldp ?_ aB
 refine vk (vfa fR0) ?_
 refine ldp ?_ aB
 refine bbn ?_ (.inl rfl) bo
 rw [if_pos rfl]
 by_cases hb:b=c
 ·subst hb
  rw [beq_self_eq_true]
  refine mvd ?_;refine vk (vfa fR1) ?_
  refine ldp ?_ aS
  refine vk (vfa fR1) ?_
  refine ldp ?_ aS
  refine cl (xs:=[.sl (L n),.sl (L m)]) ?_ s1 Tryz.call112
  by_cases hm:n=m
  ·rw [dT hm]
   refine pkd ?_;refine mvd ?_;refine vk (vfa fR2) ?_
   refine ldp ?_ aS
   refine vk (vfa fR2) ?_
   refine ldp ?_ aS
   refine cl (xs:=[.sl (L d),.sl (L e)]) ?_ s2 Tryz.call112
   refine pkd ?_;refine asd ?_;refine rn ?_;refine .ret ?_
   exact ⟨by rw [show decide (b=b∧n=m∧d=e)=decide (d=e) from decide_eq_decide.2 ⟨fun h=>h.2.2,fun h=>⟨rfl,hm,h⟩⟩];rfl,rfl⟩
  rw [dF hm]
  refine pkd ?_;refine mvd ?_;refine gf4 ?_;refine gf ?_;refine pkd ?_;refine asd ?_;refine rn ?_;refine .ret ?_
  exact ⟨by rw [dF (fun h=>hm h.2.1)];rfl,rfl⟩
 rw [beq_false_of_ne hb]
 refine mvd ?_;refine gf4 ?_;refine gf ?_;refine pkd ?_;refine mvd ?_;refine gf4 ?_;refine gf ?_;refine pkd ?_;refine asd ?_;refine rn ?_;refine .ret ?_
 exact ⟨by rw [dF (fun h=>hb h.1)];rfl,rfl⟩
theorem V9 {z:Int} (h0:0≤z) (h1:z≤9223372036854775807) : IntKind.u64.wrap z=((z.natAbs:Nat) : Int):=by
 simp only [IntKind.wrap,IntKind.bits,IntKind.signed];simp;omega
theorem SV {z:Int} (h0:z<0) (h1:-9223372036854775808≤z) : IntKind.u64.wrap (0-IntKind.u64.wrap z)=((z.natAbs:Nat) : Int):=by
 simp only [IntKind.wrap,IntKind.bits,IntKind.signed];simp;omega
theorem V2 {z:Int} (h1:-9223372036854775808≤z) (h2:z≤9223372036854775807) : Fn Tryz.prog 62 [.i .i64 z] (.d (Rv (decide (z<0)) (Ao z.natAbs) [1])):=by
 have f:=Xx (n:=z.natAbs) (by omega)
 refine Fn.ofC (rs:=[.cell 2 24]) (nt:=16) Tryz.func62 rfl rfl rfl (by simp) rfl ?_;refine .sr ?_;refine vk (van (Aj iR) rR) ?_;refine rn ?_;refine .seq ?_;refine .sr ?_;refine mvd ?_;refine bi ?_;refine rn ?_
 by_cases hz:z<0
 ·rw [dT hz]
  refine B1 ?_;refine .sr ?_;refine mvd ?_
  refine cv ?_ i64 u64
  refine ng ?_
  rw [SV hz h1]
  refine cl (xs:=[.i .u64 ((z.natAbs:Nat):Int)]) ?_ f Tryz.call104
  refine cl (xs:=[]) ?_ Nh Tryz.call105
  refine fz (p:=.t 9) ?_;refine vk (vbd pR iR rR) ?_
  refine stn ?_ sR (by decide)
  refine rn ?_;refine .ret ?_
  exact ⟨_,⟨.inr rfl,aR,sR,p3⟩,rfl⟩
 rw [dF hz]
 refine BZ ?_;refine .skip ?_;refine aw ?_;refine .sr ?_;refine mvd ?_
 refine cv ?_ i64 u64
 rw [V9 (by omega) h2]
 refine cl (xs:=[.i .u64 ((z.natAbs:Nat):Int)]) ?_ f Tryz.call104
 refine cl (xs:=[]) ?_ Nh Tryz.call105
 refine fz (p:=.t 14) ?_;refine vk (vbd pR iR rR) ?_
 refine stn ?_ sR (by decide)
 refine rn ?_;refine .ret ?_
 exact ⟨_,⟨.inr rfl,aR,sR,p3⟩,rfl⟩
theorem Ry : Fn Tryz.prog 92 [] (.d (Rv false [] [1])):=by
 refine Fn.ofC (rs:=[.cell 0 24]) (nt:=3) Tryz.func92 rfl rfl rfl (by simp) rfl ?_;refine .sr ?_;refine vk (van (Aj iR) rR) ?_;refine rn ?_;refine .sr ?_
 refine cl (xs:=[]) ?_ Jh Tryz.call128
 refine fz (p:=.t 1) ?_;refine vk (vbd pR iR rR) ?_
 refine stn ?_ sR (by decide)
 refine rn ?_;refine .ret ?_
 exact ⟨_,⟨.inr rfl,aR,sR,p3⟩,rfl⟩
abbrev Q3:=Bool×Nat×Nat
theorem FC : C0 Tryz.prog 4=some false:=by kernel_rfl
theorem AA : C0 Tryz.prog 3=some false:=by kernel_rfl
theorem Dh : AN Tryz.prog 3=1:=by kernel_rfl
theorem XQ : Tryz.prog.underlying 3=some (.int .i64):=by kernel_rfl
theorem Dc : C0 Tryz.prog 21=some false:=by kernel_rfl
theorem VA : Tryz.prog.underlying 21=some (.int .i32):=by kernel_rfl
theorem UW : Tryz.prog.underlying 5=some (.int .u8):=by kernel_rfl
theorem Tw : Tryz.prog.underlying 112=some (.int .u64):=by kernel_rfl
theorem IS : C0 Tryz.prog 24=some true:=by kernel_rfl
theorem GI : AN Tryz.prog 24=3:=by kernel_rfl
theorem G0 : CM Tryz.prog 24 0=some (0,1):=by kernel_rfl
theorem Hd : CM Tryz.prog 24 1=some (1,1):=by kernel_rfl
theorem Ie : CM Tryz.prog 24 2=some (2,1):=by kernel_rfl
theorem W0 : EI Tryz.prog 24=some [(0,1),(1,1),(2,1)]:=by kernel_rfl
theorem QN : (Tryz.prog.info? 24).bind (·.zero)=some (.agg #[.bool false,.slice none 0 0,.slice none 0 0]):=by kernel_rfl
theorem Y2 (w:World) (I:Nat→Prop) (μ:List Nat) : ARepAll Tryz.prog w I μ [.d (.b false),.nl,.nl] (Value.agg #[.bool false,.slice none 0 0,.slice none 0 0]).cells.toList []:=ARepAll.cons (b1:=[]) (b2:=[]) (.d (.b _)) (ARepAll.cons (b1:=[]) (b2:=[]) (.nl) (ARepAll.cons (b1:=[]) (b2:=[]) (.nl) (.nil)))
theorem RY (w:World) (I:Nat→Prop) : RepAll w I [.b false,.sl [],.sl []] (Value.agg #[.bool false,.slice none 0 0,.slice none 0 0]).cells.toList:=.cons (.b _) (.cons (.sl0 _ _) (.cons (.sl0 _ _) (.nil)))
theorem IE : C0 Tryz.prog 22=some false:=by kernel_rfl
theorem YW : AN Tryz.prog 22=1:=by kernel_rfl
theorem YU : C1 Tryz.prog 22=some (118,1,4,.int .u32 0):=by kernel_rfl
theorem Wt : Tryz.prog.underlying 22=some (.slice (Tryz.prog.elem 22)):=by kernel_rfl
theorem YZ : (35184372088832:Nat) * 4≤140737488355328∧(35184372088832:Nat)≤9223372036854775807:=by decide
end Go.FL
namespace Go.FL
open Go Go.RowKit
section
variable {P:Program} {C:Cx} {X:Snap} {o:Oper} {ops:Array Oper} {Q:Exit→Env→Ad→Prop} {env env':Env} {H H':Ad} {a:Act} {w w':World} {I I':Nat→Prop} {μ μ':List Nat} {O O':Nat→Option Loc}
theorem Sim.grow2 {Kb:Nat→Prop} (hs:Sim P X env H a w I μ O) (hK:∀ b,Kb b→O b=none∧¬X.K b∧¬I b) (hsz:w.heap.size≤w'.heap.size) (hb:∀ b,b<w.heap.size→¬Kb b→w'.heap[b]?=w.heap[b]?)
  (hos:w'.os=w.os) (htp:w'.tape=w.tape) (hout:w'.output=w.output) (hI:∀ b,I b→I' b) (hI2:∀ b,I' b→b<w'.heap.size) (hI3:∀ b,b<w.heap.size→¬Kb b→I' b→I b):Sim P X env H a w' I' μ O:=by
 have hXK:∀ b,X.K b→w'.heap[b]?=w.heap[b]?:=fun b hk=>hb b (nL (hs.klt b hk) hs.size) fun h=>(hK b h).2.1 hk
 have hII:∀ b,I b→w'.heap[b]?=w.heap[b]?:=fun b hi=>hb b (hs.ilt b hi) fun h=>(hK b h).2.2 hi
 have hOO:∀ b l,O b=some l→w'.heap[b]?=w.heap[b]?:=fun b l h=>hb b (hs.own b l h).1 fun hk=>by rw [(hK b hk).1] at h;cases h
 have hobj:∀ (id:Nat) o,H[id]?=some o→∃ blk bs,μ[id]?=some blk∧ORep P w I μ o blk bs∧(X.n0≤id→(blk::bs).Nodup∧∀ b∈blk::bs,O b=some (.o id))∧(id<X.n0→∀ b∈blk::bs,X.K b)∧∀ b∈blk::bs,w'.heap[b]?=w.heap[b]?:=fun id o ho=>by
  obtain ⟨blk,bs,h1,h2,h3,h4⟩:=hs.heap id o ho
  refine ⟨blk,bs,h1,h2,h3,h4,fun b hm=>?_⟩
  rcases Nat.lt_or_ge id X.n0 with hlt|hge
  ·exact hXK b (h4 hlt b hm)
  ·exact hOO b _ ((h3 hge).2 b hm)
 refine ⟨{
  prot:=fun b hk=>(hXK b hk).trans (hs.prot b hk)
  kO:=hs.kO
  kI:=fun b hk hi=>hs.kI b hk (hI3 b (nL (hs.klt b hk) hs.size) (fun h=>(hK b h).2.1 hk) hi)
  mono:=fun b hi=>hI b (hs.mono b hi)
  os:=hos.trans hs.os,tape:=htp.trans hs.tape,output:=hout.trans hs.output,size:=nT hs.size hsz
  own:=fun b l h=>⟨nL (hs.own b l h).1 hsz,fun hi=>(hs.own b l h).2 (hI3 b (hs.own b l h).1 (fun hk=>by rw [(hK b hk).1] at h;cases h) hi)⟩
  ilt:=hI2,μlen:=hs.μlen,μpre:=hs.μpre,nle:=hs.nle
  heap:=fun id o ho=>by
   obtain ⟨blk,bs,h1,h2,h3,h4,h5⟩:=hobj id o ho
   refine ⟨blk,bs,h1,?_,h3,h4⟩
   cases o with
   | box cs =>
    obtain ⟨cells,e,k1,k2⟩:=h2
    exact ⟨cells,e,(h5 blk (by simp)).trans k1,k2.keep hI hII (fun _ _ h=>h) fun b hm=>h5 b (by simp [hm])⟩
  klt:=hs.klt,n0le:=hs.n0le},fun t=>?_,hs.nt,hs.dfs⟩
 refine (hs.envr t).keepG hI hII (fun _ _ h=>h) (fun b hm=>⟨hOO b _ hm,hm⟩) fun p e xs hp=>⟨hp,fun v hv=>?_⟩
 cases p with
 | t r=>exact hv
 | c id off =>
  simp only [Br,Option.bind_eq_some_iff] at hv ⊢
  obtain ⟨b,hb1,hb2⟩:=hv
  refine ⟨b,hb1,?_⟩
  simp only [A1] at hp
  cases hH:H[id]? with
  | none=>rw [hH] at hp;cases hp
  | some ob =>
   obtain ⟨blk,bs,h1,_,_,_,h5⟩:=hobj id ob hH
   rw [hb1] at h1;cases h1
   rw [World.cell?_of_block (w:=w) (a:=⟨b,off,none⟩) (h5 b (by simp))]
   exact hb2
abbrev JT:=Nat→World→(Nat→Prop)→(Nat→Prop)→Prop
def JOK (J:JT) : Prop:=∀ {k:Nat} {W:World} {I K:Nat→Prop} {W':World} {I' K':Nat→Prop},J k W I K→W.heap.size≤W'.heap.size→(∀ b,b<W.heap.size→¬K b→W'.heap[b]?=W.heap[b]?) →
 W'.os=W.os→W'.tape=W.tape→W'.output=W.output→(∀ b,I b→I' b)→(∀ b,I' b→b<W'.heap.size)→(∀ b,b<W.heap.size→¬K b→I' b→I b)→(∀ b,K' b→b<W'.heap.size∧¬I' b)→(∀ b,K' b→b<W.heap.size→K b)→J k W' I' K'
def RM (P:Program) (l:Nat) (J:JT) (k:Nat) (b:Bool) (ds:List DV) : Prop:=∀ (W:World) (I K:Nat→Prop) (vs:List Value),J k W I K→RepAll W I ds vs →
 YieldAt (om none) 0 P l vs.toArray W fun e W'=>e=.returned (.bool b)∧∃ I',J (k+1) W' I' K∧(∀ b,K b→W'.heap[b]?=W.heap[b]?∧¬I' b)∧(∀ b,I b→I' b∧W'.heap[b]?=W.heap[b]?)∧W.heap.size≤W'.heap.size∧∀ b,I' b→b<W'.heap.size
def ItG (P:Program) (f:FuncId) (caps:List DV) (ys:List (List DV)) (n:Nat) : Prop :=
 ∀ (l:Nat) (W:World) (I:Nat→Prop) (cv:List Value) (J:JT),JOK J→RepAll W I caps cv→(∀ b,I b→b<W.heap.size)→(∀ k ds,ys[k]?=some ds→k≤n→RM P l J k (decide (k<n)) ds)→J 0 W I (fun _=>False) →
  CallsIn (om none) 0 P f (#[.func (.yield l) #[] #[]]++cv.toArray) W fun e W'=>(∃ v,e=.returned v)∧∃ I' K',J (min (n+1) ys.length) W' I' K'
def JX (J:JT) (k:Nat) (X:Snap) : Prop:=∃ K,J k X.w X.I K∧∀ b,b<X.w.heap.size→¬X.K b→K b
def XJ (J:JT) (nt:Nat×Nat) (ags:List Value) (k:Nat) (X:Snap) : Prop:=X.nt=nt∧X.n0=0∧X.ne=0∧X.dfs=[]∧X.args=ags∧JX J k X
def Vw (P:Program) (nt:Nat×Nat) (J:JT) (ags:List Value) (Q:Exit→Env→Ad→Nat→Prop) : Exit→Act→World→Prop:=fun e a w =>
 ∃ X env H I μ O k,XJ J nt ags k X∧Sim P X env H a w I μ O∧Q e env H k
def AWJ (P:Program) (nt:Nat×Nat) (J:JT) (ags:List Value) (c:Code) (Q:Exit→Env→Ad→Nat→Prop) (env:Env) (H:Ad) (k:Nat) : Prop :=
 ∀ X a w I μ O,XJ J nt ags k X→Sim P X env H a w I μ O→c.wpIn (om none) 0 P (Vw P nt J ags Q) a w
def ALJ (P:Program) (nt:Nat×Nat) (J:JT) (ags:List Value) (c:Code) (Q:Exit→Env→Ad→Nat→Prop) (env:Env) (H:Ad) (k:Nat) : Prop :=
 ∀ X a w I μ O,XJ J nt ags k X→Sim P X env H a w I μ O→LB (om none) 0 P c (Vw P nt J ags Q) a w
def RLJ (P:Program) (nt:Nat×Nat) (J:JT) (ags:List Value) (ops:Array Oper) (Q:Exit→Env→Ad→Nat→Prop) (n:Nat) (l:List Oper) (env:Env) (H:Ad) (k:Nat) : Prop :=
 ops.toList.drop n=l→∀ X a w I μ O,XJ J nt ags k X→Sim P X env H a w I μ O→wpOpsIn (om none) 0 P ops (Vw P nt J ags Q) (List.range' n l.length) a w
def Vq (K:Env→Ad→Nat→Prop) (Q:Exit→Env→Ad→Nat→Prop) : Exit→Env→Ad→Nat→Prop
 | .normal,env,H,k=>K env H k
 | e,env,H,k=>Q e env H k
def Wl (id:Nat) (Q:Exit→Env→Ad→Nat→Prop) : Exit→Env→Ad→Nat→Prop
 | .exit id',env,H,k=>if id'=id then Q .normal env H k else Q (.exit id') env H k
 | e,env,H,k=>Q e env H k
variable {nt:Nat×Nat} {J:JT} {ags:List Value} {QJ:Exit→Env→Ad→Nat→Prop} {k n:Nat} {l:List Oper}
theorem AWJ.lift {c:Code} (h:AW P {nt:=nt,n0:=0,ne:=0} c (fun e env H=>QJ e env H k) env H) : AWJ P nt J ags c QJ env H k:=fun X a w I μ O hx hs =>
 wpIn_mono (h X a w I μ O hx.1 hx.2.1 hx.2.2.1 hs) fun _ _ _ ⟨env,H,I,μ,O,s,q⟩=>⟨X,env,H,I,μ,O,k,hx,s,q⟩
theorem AWJ.skip (h:QJ .normal env H k) : AWJ P nt J ags .skip QJ env H k:=.lift (.skip h)
theorem AWJ.exit {id:Nat} (h:QJ (.exit id) env H k) : AWJ P nt J ags (.exit id) QJ env H k:=.lift (.exit h)
theorem AWJ.ret (h:QJ .ret env H k) : AWJ P nt J ags .ret QJ env H k:=.lift (.ret h)
theorem AWJ.seq {x y:Code} (h:AWJ P nt J ags x (Vq (AWJ P nt J ags y QJ) QJ) env H k) : AWJ P nt J ags (.seq x y) QJ env H k:=fun X a w I μ O hx hs =>
 wpIn_seq (wpIn_mono (h X a w I μ O hx hs) fun e _ _ ⟨X',env',H',I',μ',O',k',hx',s,q⟩=>by
  cases e with
  | normal=>exact q X' _ _ I' μ' O' hx' s
  | _=>exact ⟨X',env',H',I',μ',O',k',hx',s,q⟩)
theorem AWJ.block {id:Nat} {c:Code} (h:AWJ P nt J ags c (Wl id QJ) env H k) : AWJ P nt J ags (.block id c) QJ env H k:=fun X a w I μ O hx hs =>
 wpIn_block (wpIn_mono (h X a w I μ O hx hs) fun e _ _ ⟨X',env',H',I',μ',O',k',hx',s,q⟩=>by
  cases e with
  | exit id' =>
   simp only [Exit.inBlock]
   simp only [Wl] at q
   split
   ·rename_i he;rw [if_pos he] at q;exact ⟨X',env',H',I',μ',O',k',hx',s,q⟩
   ·rename_i he;rw [if_neg he] at q;exact ⟨X',env',H',I',μ',O',k',hx',s,q⟩
  | _=>exact ⟨X',env',H',I',μ',O',k',hx',s,q⟩)
theorem AWJ.cond {t:Nat} {x:Bool} {c1 c2:Code} (hx:get env t=.d (.b x)) (h1:x=true→AWJ P nt J ags c1 QJ env H k) (h2:x=false→AWJ P nt J ags c2 QJ env H k) : AWJ P nt J ags (.cond (.tmp t) c1 c2) QJ env H k:=fun X a w I μ O g hs =>
 wpIn_cond_split (t:=x) (hs.bool hx) (fun e=>h1 e X a w I μ O g hs) (fun e=>h2 e X a w I μ O g hs)
theorem ALJ.loop {c:Code} (h:ALJ P nt J ags c QJ env H k) : AWJ P nt J ags (.loop c) QJ env H k:=fun X a w I μ O hx hs=>(h X a w I μ O hx hs).loop
theorem ALJ.round {c:Code} (h:AWJ P nt J ags c (Vq (ALJ P nt J ags c QJ) QJ) env H k) : ALJ P nt J ags c QJ env H k:=fun X a w I μ O hx hs =>
 .round (wpIn_mono (h X a w I μ O hx hs) fun e _ _ ⟨X',env',H',I',μ',O',k',hx',s,q⟩=>by
  cases e with
  | normal=>exact q X' _ _ I' μ' O' hx' s
  | _=>exact ⟨X',env',H',I',μ',O',k',hx',s,q⟩)
theorem ALJ.ind {c:Code} {σ:Type} (m:σ→Nat) (e:σ→Env) (h:σ→Ad) (r:σ→Nat) (I:σ→Prop)
  (step:∀ s,I s→(∀ s',I s'→m s'<m s→ALJ P nt J ags c QJ (e s') (h s') (r s'))→AWJ P nt J ags c (Vq (ALJ P nt J ags c QJ) QJ) (e s) (h s) (r s)):∀ s,I s→ALJ P nt J ags c QJ (e s) (h s) (r s):=by
 suffices H:∀ n s,m s=n→I s→ALJ P nt J ags c QJ (e s) (h s) (r s) from fun s hs=>H _ s rfl hs
 intro n
 induction n using Nat.strongRecOn with
 | ind n ih =>
  intro s hm hs
  exact .round (step s hs fun s' h1 h2=>ih (m s') (by omega) s' rfl h1)
theorem AWJ.gh {c:Code} (g:Gh P {nt:=nt,n0:=0,ne:=0} env H env' H') (h:AWJ P nt J ags c QJ env' H' k) : AWJ P nt J ags c QJ env H k:=fun X a w I μ O hx hs =>
 let ⟨I',O',hs'⟩:=g X a w I μ O hx.1 hx.2.1 hx.2.2.1 hs;h X a w I' μ O' hx hs'
theorem ALJ.gh {c:Code} (g:Gh P {nt:=nt,n0:=0,ne:=0} env H env' H') (h:ALJ P nt J ags c QJ env' H' k) : ALJ P nt J ags c QJ env H k:=fun X a w I μ O hx hs =>
 let ⟨I',O',hs'⟩:=g X a w I μ O hx.1 hx.2.1 hx.2.2.1 hs;h X a w I' μ O' hx hs'
theorem AWJ.region {id:Nat} {ops:Array Oper} (h:RLJ P nt J ags ops QJ 0 ops.toList env H k) : AWJ P nt J ags (.region id ops false) QJ env H k:=fun X a w I μ O hx hs=>by
 refine wpIn_region ?_
 rw [List.range_eq_range',← Array.length_toList]
 exact h rfl X a w I μ O hx hs
theorem RLJ.nil (h:QJ .normal env H k) : RLJ P nt J ags ops QJ n [] env H k:=fun _ X _ _ I μ O hx hs=>⟨X,env,H,I,μ,O,k,hx,hs,h⟩
theorem RLJ.cons (hg:o.guard=none) (h:OpOK P {nt:=nt,n0:=0,ne:=0} o env H fun e h=>RLJ P nt J ags ops QJ (n+1) l e h k) : RLJ P nt J ags ops QJ n (o::l) env H k:=by
 intro hl X a w I μ O hx hs
 obtain ⟨e1,e2⟩:=EX hl
 rw [List.length_cons,List.range'_succ]
 have e1':ops[n]?=some o:=by simpa using e1
 simp only [wpOpsIn,e1',Region.wanted,hg,if_true]
 exact h X a w I μ O _ _ hx.1 hx.2.1 hx.2.2.1 hs fun env' H' a' w' I' μ' O' hs' hK=>hK e2 X a' w' I' μ' O' hx hs'
theorem vkJ {av:AV} {t:Nat} (hv:VOK P {nt:=nt,n0:=0,ne:=0} o env H av) (h:RLJ P nt J ags ops QJ (n+1) l ((t,av)::env) H k) (hg:o.guard=none:=by rfl) (hd:o.dst=some t:=by rfl) (hr:A5 av=false:=by rfl)
  (hf:Am (get env t)=false:=by rfl) (ht:okT nt t:=by rfl):RLJ P nt J ags ops QJ n (o::l) env H k:=by
 rw [← Al hf] at h
 exact .cons hg (.vok hv hr hd ht h)
theorem Sim.yielded' (hs:Sim P X env H a w I μ O) (h0:X.n0=0) (hsz:w.heap.size≤w'.heap.size) (hO:∀ b,O b≠none→w'.heap[b]?=w.heap[b]?∧¬I' b) (hI:∀ b,I b→I' b∧w'.heap[b]?=w.heap[b]?) (hI2:∀ b,I' b→b<w'.heap.size) :
  Sim P {X with w:=w',I:=I',K:=fun b=>b<w'.heap.size∧O b=none,ne:=0,μ:=μ} env H a w' I' μ O:=by
 have hII:∀ b,I b→w'.heap[b]?=w.heap[b]?:=fun b hi=>(hI b hi).2
 have hOO:∀ b l,O b=some l→w'.heap[b]?=w.heap[b]?:=fun b l h=>(hO b (by rw [h];simp)).1
 refine ⟨{
  prot:=fun _ _=>rfl
  kO:=fun b hk=>hk.2
  kI:=fun _ _ h=>h
  mono:=fun _ h=>h
  os:=rfl,tape:=rfl,output:=rfl,size:=Nat.le_refl _
  own:=fun b l h=>⟨nL (hs.own b l h).1 hsz,(hO b (by rw [h];simp)).2⟩
  ilt:=hI2,μlen:=hs.μlen,μpre:=fun _ _ _ h=>h,nle:=Nat.zero_le _
  heap:=fun id o ho=>by
   obtain ⟨blk,bs,h1,h2,h3,_⟩:=hs.heap id o ho
   have h5:∀ b∈blk::bs,w'.heap[b]?=w.heap[b]?:=fun b hm=>hOO b _ ((h3 (by omega)).2 b hm)
   refine ⟨blk,bs,h1,?_,fun _=>h3 (by omega),fun h=>absurd h (by simp [h0])⟩
   cases o with
   | box cs =>
    obtain ⟨cells,e,k1,k2⟩:=h2
    exact ⟨cells,e,(h5 blk (by simp)).trans k1,k2.keep (fun b hi=>(hI b hi).1) hII (fun _ _ h=>h) fun b hm=>h5 b (by simp [hm])⟩
  klt:=fun b hk=>hk.1,n0le:=by simp [h0]},fun t=>?_,hs.nt,hs.dfs⟩
 refine (hs.envr t).keepG (fun b hi=>(hI b hi).1) hII (fun _ _ h=>h) (fun b hm=>⟨hOO b _ hm,hm⟩) fun p e xs hp=>⟨hp,fun v hv=>?_⟩
 cases p with
 | t r=>exact hv
 | c id off =>
  simp only [Br,Option.bind_eq_some_iff] at hv ⊢
  obtain ⟨b,hb1,hb2⟩:=hv
  refine ⟨b,hb1,?_⟩
  simp only [A1] at hp
  cases hH:H[id]? with
  | none=>rw [hH] at hp;cases hp
  | some ob =>
   obtain ⟨blk,bs,h1,_,h3,_⟩:=hs.heap id ob hH
   rw [hb1] at h1;cases h1
   rw [World.cell?_of_block (w:=w) (a:=⟨b,off,none⟩) (hOO b _ ((h3 (by omega)).2 b (by simp)))]
   exact hb2
theorem Sn {c:Call} {y lp:Nat} (ho:o.op=.call c) (hc:c.callee=.value (.tmp y)) (hy:a.eval (.tmp y)=.func (.yield lp) #[] #[]) :
  (execOp a.eval o).run P w=(Instr.yield lp (c.args.map a.eval)).run P w:=by
 simp [execOp,ho,resolve,hc,hy,Deferred.ofValue,invoke,callFunc]
theorem yld {c:Call} {y lp t:Nat} {ds:List DV} {b:Bool} (hr:RM P lp J k b ds) (hJ:JOK J) (h:RLJ P nt J ags ops QJ (n+1) l ((t,.d (.b b))::env) H (k+1))
  (hg:o.guard=none:=by rfl) (ho:o.op=.call c:=by rfl) (hc:c.callee=.value (.tmp y):=by rfl) (hy:get env y=.d (.yl lp):=by rfl) (ha:argsD env c.args.toList=some ds:=by rfl) (hd:o.dst=some t:=by rfl)
  (hf:Am (get env t)=false:=by rfl) (ht:okT nt t:=by rfl):RLJ P nt J ags ops QJ n (o::l) env H k:=by
 rw [← Al hf] at h
 intro hl X a w I μ O hx hs
 obtain ⟨e1,e2⟩:=EX hl
 rw [List.length_cons,List.range'_succ]
 have e1':ops[n]?=some o:=by simpa using e1
 simp only [wpOpsIn,e1',Region.wanted,hg,if_true]
 obtain ⟨x1,x2,x3,x4,x5,K,hK1,hK2⟩:=hx
 have hyv:a.eval (.tmp y)=.func (.yield lp) #[] #[]:=by
  have hyr:=hs.deep (x:=.tmp y) (v:=.yl lp) (by show Bo (get env y)=_;rw [hy];rfl)
  generalize a.eval (.tmp y)=u at hyr
  cases hyr;rfl
 have hJw:J k w I fun b=>O b≠none:=hJ hK1 hs.size (fun b hb hnk=>hs.prot b (Classical.byContradiction fun hx=>hnk (hK2 b hb hx))) hs.os hs.tape hs.output hs.mono hs.ilt
  (fun b hb hnk hi=>hs.kI b (Classical.byContradiction fun hx=>hnk (hK2 b hb hx)) hi) (fun b hb=>by
   cases hO:O b with
   | none=>exact absurd hO hb
   | some l=>exact hs.own b l hO) (fun b hb hlt=>hK2 b hlt fun hk=>hb (hs.kO b hk))
 obtain ⟨fn,tmps,assign,body,g1,g2⟩:=hr w I _ _ hJw (hs.argsD ha)
 refine ⟨fun _ _=>trivial,?_⟩
 rw [Oper.semAt_eq _ _ _ (by simp [ho]),Sn ho hc hyv]
 have e3:(c.args.toList.map a.eval).toArray=c.args.map a.eval:=by apply Array.ext';simp
 rw [e3] at g1
 rw [g1,Oper.uponIn_round]
 refine ⟨fun h=>(by simp [om] at h),g2.mono ?_⟩
 rintro e W' ⟨rfl,I',j1,j2,j3,j4,j5⟩
 have s1:=hs.yielded' x2 j4 (fun b hb=>j2 b hb) (fun b hb=>j3 b hb) j5
 have s2:=s1.put_hand (t:=t) (av:=.d (.b b)) (v:=.bool b) (by rw [x1];exact ht) (Hand.d (.b b))
 show wpOpsIn (om none) 0 P ops _ _ (a.put o.dst _) _
 rw [hd]
 exact h e2 {X with w:=W',I:=I',K:=fun b=>b<W'.heap.size∧O b=none,ne:=0,μ:=μ} _ _ _ _ _ ⟨x1,x2,rfl,x4,x5,fun b=>O b≠none,j1,fun b hb hnk hO=>hnk ⟨hb,hO⟩⟩ s2
theorem ItG.of {f:FuncId} {fn:Func} {c:Code} {caps:List DV} {ys:List (List DV)} {m nt:Nat} (hf:P.funcs[f]?=some fn) (hb:fn.body=some c) (hrs:fn.results=#[]) (hnt:fn.ntmps=nt) (hn:caps.length+1≤nt)
  (h:∀ lp J,JOK J→(∀ k ds,ys[k]?=some ds→k≤m→RM P lp J k (decide (k<m)) ds) →
   AWJ P (0,nt) J [] c (fun e _ _ k=>(e=.normal∨e=.ret)∧k=min (m+1) ys.length) (EA 0 (.yl lp::caps)) [] 0):ItG P f caps ys m:=by
 intro lp W I cv J hJ hcv hI hR h0
 refine callsIn_of_wp hf hb trivial ?_
 have hlen:=hcv.length
 let vs:List Value:=.func (.yield lp) #[] #[]::cv
 have hargs:#[Value.func (.yield lp) #[] #[]]++cv.toArray=vs.toArray:=by apply Array.ext';simp [vs]
 rw [hargs]
 have hvr:RepAll W I (.yl lp::caps) vs:=.cons (.yl lp) hcv
 let X:Snap:={w:=W,I:=I,K:=fun b=>b<W.heap.size,n0:=0,ne:=0,μ:=[],nt:=(0,nt),dfs:=[],args:=[]}
 let a:Act:={tmps:=vs.toArray++Array.replicate (fn.ntmps-vs.toArray.size) undef,defers:=[]}
 have hat:∀ (j:Nat) (v:Value),vs[j]?=some v→a.tmps.getD j undef=v:=fun j v hj=>by
  have hjl:j<vs.length:=(lS.1 hj).1
  have e2:(vs.toArray++Array.replicate (fn.ntmps-vs.length) undef)[j]?=some v:=by
   rw [Array.getElem?_append_left (by simpa using hjl)];simpa using hj
  simp [a,e2]
 have hs:Sim P X (EA 0 (.yl lp::caps)) [] a W I [] (fun _=>none):=by
  refine ⟨{prot:=fun _ _=>rfl,kO:=fun _ _=>rfl,kI:=fun _ _ h=>h,mono:=fun _ h=>h,os:=rfl,tape:=rfl,output:=rfl,size:=Nat.le_refl _,own:=(fun b l h=>by simp at h),ilt:=hI,μlen:=rfl,μpre:=(fun i b hi _=>by simp [X] at hi),nle:=(by simp [X]),heap:=(fun id o h=>by simp at h),klt:=fun b hb=>hb,n0le:=(by simp [X])},fun t=>?_,?_,rfl,fun t ht=>absurd ht (by simp [X])⟩
  ·rcases Gr (tmps:=a.tmps) (k:=0) hvr (fun j v hj=>by rw [Nat.zero_add];exact hat j v hj) t with h0|⟨d,h0,h1⟩
   ·rw [h0];exact .un
   ·rw [h0];exact .of (bs:=[]) (.d h1) nN (by simp)
  ·simp [a,X,hnt,vs];omega
 refine wpIn_mono (h lp J hJ hR X a W I [] _ ⟨rfl,rfl,rfl,rfl,rfl,fun _=>False,h0,fun b hb hk=>absurd hb hk⟩ hs) fun e a' w' ⟨X',env',H',I',μ',O',k',hx',s',he,hk⟩=>?_
 subst hk
 obtain ⟨x1,x2,x3,x4,x5,K,hK1,hK2⟩:=hx'
 have fin:a'.defers=[]∧∃ v,(results fn a'.tmps).run P w'=.ok v w'∧((∃ v',Ending.returned v=.returned v')∧∃ I' K',J (min (m+1) ys.length) w' I' K'):=by
  refine ⟨by rw [s'.dfs.1,x4],_,results_none hrs _ _ _,⟨_,rfl⟩,I',fun b=>O' b≠none,?_⟩
  exact hJ hK1 s'.size (fun b hb hnk=>s'.prot b (Classical.byContradiction fun hx=>hnk (hK2 b hb hx))) s'.os s'.tape s'.output s'.mono s'.ilt
   (fun b hb hnk hi=>s'.kI b (Classical.byContradiction fun hx=>hnk (hK2 b hb hx)) hi) (fun b hb=>by
    cases hO:O' b with
    | none=>exact absurd hO hb
    | some l=>exact s'.own b l hO) (fun b hb hlt=>hK2 b hlt fun hk=>hb (s'.kO b hk))
 cases e with
 | normal=>exact fin
 | ret=>exact fin
 | _=>rcases he with he|he<;>cases he
theorem Sim.overK (hs:Sim P X env H a w I μ O) (hn0:X.n0=0) (hc:CG env=false) (ls:List Nat) (hl:∀ b∈ls,O b=some .r) (Kx:Nat→Prop) (hx:∀ b,Kx b→O b=none∧b<w.heap.size) :
  ∃ (Y:Snap) (O2:Nat→Option Loc),Y.w=w∧Y.I=I∧Y.n0=0∧Y.ne=H.length∧Y.μ=μ∧(∀ b∈ls,Y.K b)∧(∀ b,I b→Y.K b)∧(∀ b,Kx b→Y.K b)∧Mem P Y H w I μ O2 ∧
   ∀ {w':World} {I':Nat→Prop} {μ':List Nat} {O':Nat→Option Loc} {Hn:Ad},Mem P Y Hn w' I' μ' O'→∃ On,Sim P X env Hn a w' I' μ' On∧(∀ b∈ls,On b=some .r)∧∀ b,Kx b→On b=none:=by
 let Y:Snap:={X with w:=w,I:=I,n0:=0,ne:=H.length,μ:=μ,K:=fun b=>X.K b∨I b∨(∃ t,O b=some (.t t))∨b∈ls∨Kx b}
 let O2:Nat→Option Loc:=fun b=>match O b with
  | some (.o id)=>some (.o id)
  | _=>none
 have hO2o:∀ b id,O b=some (.o id)→O2 b=some (.o id):=fun b id h=>by simp only [O2,h]
 have hO2n:∀ b,(∀ id,O b≠some (.o id))→O2 b=none:=fun b h2=>by
  cases hx:O b with
  | none=>simp only [O2,hx]
  | some l=>cases l with
   | o id=>exact absurd hx (h2 id)
   | _=>simp only [O2,hx]
 have hO2:∀ b l,O2 b=some l→∃ l',O b=some l':=fun b l h=>by
  cases hx:O b with
  | some l'=>exact ⟨l',rfl⟩
  | none=>rw [hO2n b (by rw [hx];simp)] at h;cases h
 have hKO:∀ b,Y.K b→∀ id,O b≠some (.o id):=fun b hk=>by
  rcases hk with hk|hk|⟨t,hk⟩|hk
  ·exact fun id h=>(by rw [hs.kO b hk] at h;cases h)
  ·exact fun id h=>(hs.own b _ h).2 hk
  ·exact fun id h=>(by rw [hk] at h;simp at h)
  ·rcases hk with hk|hk
   ·exact fun id h=>(by rw [hl b hk] at h;simp at h)
   ·exact fun id h=>(by rw [(hx b hk).1] at h;cases h)
 have hmem:Mem P Y H w I μ O2:={
  prot:=fun _ _=>rfl
  kO:=fun b hk=>hO2n b (hKO b hk)
  kI:=fun _ _ h=>h
  mono:=fun _ h=>h
  os:=rfl,tape:=rfl,output:=rfl,size:=Nat.le_refl _
  own:=fun b l h=>by obtain ⟨l',h'⟩:=hO2 b l h;exact hs.own b l' h'
  ilt:=hs.ilt,μlen:=hs.μlen,μpre:=fun _ _ _ h=>h,nle:=Nat.le_refl _
  heap:=fun id o' ho'=>by
   obtain ⟨blk,ds,h1,h2,h3,_⟩:=hs.heap id o' ho'
   exact ⟨blk,ds,h1,h2,fun _=>⟨(h3 (by omega)).1,fun b hb'=>hO2o b id ((h3 (by omega)).2 b hb')⟩,fun h=>absurd h (by simp [Y])⟩
  klt:=fun b hk=>by
   rcases hk with hk|hk|⟨t,hk⟩|hk
   ·exact nL (hs.klt b hk) hs.size
   ·exact hs.ilt b hk
   ·exact (hs.own b _ hk).1
   ·rcases hk with hk|hk
    ·exact (hs.own b _ (hl b hk)).1
    ·exact (hx b hk).2
  n0le:=Nat.zero_le _}
 refine ⟨Y,O2,rfl,rfl,rfl,rfl,rfl,fun b hb=>.inr (.inr (.inr (.inl hb))),fun b hb=>.inr (.inl hb),fun b hb=>.inr (.inr (.inr (.inr hb))),hmem,?_⟩
 intro w' I' μ' O' Hn hm
 let On:Nat→Option Loc:=fun b=>if b∈ls then some .r else match O' b with
  | some (.o id)=>some (.o id)
  | _=>match O b with
   | some (.t t)=>some (.t t)
   | _=>none
 have hOl:∀ b,b∈ls→On b=some .r:=fun b hb=>by show (if b∈ls then _ else _)=_;rw [if_pos hb]
 have hOe:∀ b,b∉ls→On b=match O' b with
   | some (.o id)=>some (.o id)
   | _=>match O b with
    | some (.t t)=>some (.t t)
    | _=>none:=fun b hb=>by show (if b∈ls then _ else _)=_;rw [if_neg hb]
 have hOt:∀ b t,O b=some (.t t)→On b=some (.t t)∧w'.heap[b]?=w.heap[b]?:=fun b t h=>by
  have hk:Y.K b:=.inr (.inr (.inl ⟨t,h⟩))
  have h0:=hm.kO b hk
  refine ⟨?_,hm.prot b hk⟩
  rw [hOe b fun hb=>by rw [hl b hb] at h;simp at h]
  simp only [h0,h]
 have hOo:∀ b id,O' b=some (.o id)→On b=some (.o id):=fun b id h=>by
  rw [hOe b fun hb=>by have:=hm.kO b (.inr (.inr (.inr (.inl hb))));rw [h] at this;cases this]
  simp only [h]
 have hII:∀ b,I b→w'.heap[b]?=w.heap[b]?:=fun b hi=>hm.prot b (.inr (.inl hi))
 have hμ:∀ (i b:Nat),μ[i]?=some b→μ'[i]?=some b:=fun i b h=>hm.μpre i b (by have:=(lS.1 h).1;have:=hs.μlen;simp only [Y];omega) h
 refine ⟨On,⟨{
  prot:=fun b hk=>(hm.prot b (.inl hk)).trans (hs.prot b hk)
  kO:=fun b hk=>by
   have h0:=hm.kO b (.inl hk)
   rw [hOe b fun hb=>by have:=hl b hb;rw [hs.kO b hk] at this;cases this]
   simp only [h0,hs.kO b hk]
  kI:=fun b hk hi=>hs.kI b hk (hm.kI b (.inl hk) hi)
  mono:=fun b hi=>hm.mono b (hs.mono b hi)
  os:=hm.os.trans hs.os,tape:=hm.tape.trans hs.tape,output:=hm.output.trans hs.output,size:=nT hs.size hm.size
  own:=fun b l hl'=>by
   by_cases hbx:b∈ls
   ·exact ⟨nL (hs.own b _ (hl b hbx)).1 hm.size,fun hi=>(hs.own b _ (hl b hbx)).2 (hm.kI b (.inr (.inr (.inr (.inl hbx)))) hi)⟩
   ·rw [hOe b hbx] at hl'
    split at hl'
    ·rename_i id h;exact hm.own b _ h
    ·split at hl'
     ·rename_i t h
      refine ⟨nL (hs.own b _ h).1 hm.size,fun hi=>(hs.own b _ h).2 (hm.kI b (.inr (.inr (.inl ⟨t,h⟩))) hi)⟩
     ·cases hl'
  ilt:=hm.ilt,μlen:=hm.μlen
  μpre:=fun i b hi h=>hμ i b (hs.μpre i b hi h)
  nle:=nT hs.nle hm.nle
  heap:=fun id o' ho'=>by
   obtain ⟨blk,ds,h1,h2,h3,_⟩:=hm.heap id o' ho'
   exact ⟨blk,ds,h1,h2,fun _=>⟨(h3 (Nat.zero_le _)).1,fun b hb'=>hOo b id ((h3 (Nat.zero_le _)).2 b hb')⟩,fun h=>by omega⟩
  klt:=hs.klt,n0le:=hs.n0le},fun t=>?_,hs.nt,hs.dfs⟩,hOl,fun b hb=>?_⟩
 rotate_left
 ·rw [hOe b fun h=>by have:=(hx b hb).1;rw [hl b h] at this;cases this]
  simp only [hm.kO b (.inr (.inr (.inr (.inr hb)))),(hx b hb).1]
 have ht:=hs.envr t
 obtain ⟨c1,c2⟩:=HW hc t
 cases hg:get env t with
 | ref p off len =>
  rw [hg] at ht
  obtain ⟨e,xs,A,n,c,g1,g2,g3⟩:=ht
  cases p with
  | t q=>exact ⟨e,xs,A,n,c,g1,g2,g3⟩
  | c id off'=>exact absurd hg (c1 _ _ _ _)
 | ep p i j =>
  rw [hg] at ht
  obtain ⟨e,xs,b,n,c,g1,g2,g3⟩:=ht
  cases p with
  | t q=>exact ⟨e,xs,b,n,c,g1,g2,g3⟩
  | c id off'=>exact absurd hg (c2 _ _ _ _)
 | _ =>
  rw [hg] at ht
  obtain ⟨ds,g1,g2,g3⟩:=ht.plain rfl
  exact .of (g1.keep hm.mono hII hμ fun b hb'=>(hOt b t (g3 b hb')).2) g2 fun b hb'=>(hOt b t (g3 b hb')).1
theorem Sim.plain0 {Y:Snap} (hs:Sim P X env H a w I μ O) (hm:Mem P Y H w I μ O') : Sim P {Y with nt:=(0,X.nt.2),dfs:=[],args:=[]} (J0 env) H {tmps:=a.tmps,defers:=[]} w I μ O':=by
 refine ⟨hm.cast rfl rfl rfl rfl rfl rfl,fun t=>?_,hs.nt,rfl,fun t ht=>absurd ht (by simp)⟩
 rw [JY]
 split
 ·rename_i hpl
  simp only [Bool.and_eq_true,Bool.not_eq_true'] at hpl
  obtain ⟨bs,g1,g2,g3⟩:=(hs.envr t).plain hpl.2
  have:=noOwn_bs g1 hpl.1
  subst this
  exact .of (bs:=[]) g1 nN (by simp)
 ·exact .un
theorem P4 (env:Env) (t:Nat) : Am (get (J0 env) t)=false:=by
 rw [JY]
 split
 ·rename_i h
  simp only [Bool.and_eq_true] at h
  cases hg:get env t<;>first|rfl|(rw [hg] at h;simp [noOwn] at h)
 ·rfl
def Ns : List Nat→List DV→Env→Env
 | p::ps,d::ds,e=>Ns ps ds ((p,.d d)::e)
 | _,_,e=>e
theorem Sim.roundL : ∀ {ps:List Nat} {ds:List DV} {vs:List Value} {env:Env} {a:Act} {O:Nat→Option Loc},Sim P X env H a w I μ O→(∀ t,Am (get env t)=false)→RepAll w I ds vs→(∀ p∈ps,okT X.nt p)→ps.length=ds.length →
  ∃ O',Sim P X (Ns ps ds env) H {a with tmps:=(ps.zip vs).foldl (fun (t:Array Value) x=>t.setIfInBounds x.1 x.2) a.tmps} w I μ O':=by
 intro ps
 induction ps with
 | nil=>intro ds vs env a O hs _ _ _ _;exact ⟨O,by simpa [Ns] using hs⟩
 | cons p ps ih =>
  intro ds vs env a O hs h0 hr hp hl
  cases hr with
  | nil=>simp at hl
  | @cons d v ds vs h t =>
   have s1:=hs.put_hand (t:=p) (hp p (by simp)) (Hand.d (O:=O) (μ:=μ) (P:=P) h)
   rw [Al (h0 p)] at s1
   obtain ⟨O',s2⟩:=ih (ds:=ds) (vs:=vs) s1 (fun t=>by
    simp only [get];split
    ·rfl
    ·exact h0 t) t (fun q hq=>hp q (by simp [hq])) (by simpa using hl)
   exact ⟨O',by simpa [Ns,Act.put] using s2⟩
def UR : Exit→Option Code
 | .normal=>none
 | .ret=>some .ret
 | .exit id=>some (.exit id)
 | _=>none
theorem AWM.rangeFuncG {g:Nat} {ps:List Nat} {assign body:Code} {f:FuncId} {caps:List DV} {ys:List (List DV)} {m:Nat} {e1:Exit} (hro:C.ro=none) (hn0:C.n0=0) (hg:get env g=.d (.fn f [] caps)) (hcall:∀ args w,(callFunc f args).run P w=.ok (.enter f args) w)
  (hit:ItG P f caps ys m) (hys:∀ ds∈ys,ds.length=ps.length) (hps:∀ p∈ps,okT (0,C.nt.2) p) (hc:CG env=false) (Hs:Nat→Ad→Prop) (h0:Hs 0 H) (he1:(∃ id,e1=.exit id)∨e1=.ret)
  (hround:∀ (l k:Nat) (ds:List DV) (H:Ad),ys[k]?=some ds→k≤m→Hs k H→AW P {nt:=(0,C.nt.2),n0:=0,ne:=H.length,ro:=some l} assign
   (Hf (AW P {nt:=(0,C.nt.2),n0:=0,ne:=H.length,ro:=some l} body fun e _ H'=>e=(if k<m then .normal else e1)∧Hs (k+1) H') fun _ _ _=>False) (Ns ps ds (J0 env)) H)
  (hdone:∀ H,Hs (min (m+1) ys.length) H→Q (if m<ys.length then e1 else .normal) env H):AWM P C (.rangeFunc (.tmp g) ps.toArray assign body) Q env H:=by
 intro X a w I μ O h1 h2 h3 hs
 have hX0:X.n0=0:=by omega
 refine wpIn_rangeFunc ?_
 intro fn _
 rw [hro]
 have hfr:=hs.deep (x:=.tmp g) (v:=.fn f [] caps) (by show Bo (get env g)=_;rw [hg];rfl)
 generalize hev:a.eval (.tmp g)=u at hfr
 cases hfr with
 | fn _ _ _ fs cv hfs hcv =>
 cases hfs
 obtain ⟨rec,hrec⟩:∃ rec:LoopState→Option Code→Loop,rec=fun st pe=>{state:=st,pending:=pe,fn,tmps:=a.tmps,params:=ps.toArray,assign,body,defers:=w.heap.size}:=⟨_,rfl⟩
 obtain ⟨W1,hW1⟩:∃ W1,(w.alloc (.deferred (some []))).alloc (.loop (rec .ready none))=W1:=⟨_,rfl⟩
 have hL1:W1.heap[w.heap.size+1]?=some (.loop (rec .ready none)):=by
  rw [← hW1];have:=World.alloc_heap_new (w.alloc (.deferred (some []))) (.loop (rec .ready none));rwa [World.size_alloc] at this
 have hK1:W1.heap[w.heap.size]?=some (.deferred (some [])):=by
  rw [← hW1];exact (Below.heap_alloc _ _ _ (by simp)).trans (World.alloc_heap_new w _)
 have hb1:Below w.heap.size w W1:=by
  rw [← hW1];exact (Bu _).trans ((Bu _).mono (by simp))
 have hsz1:W1.heap.size=w.heap.size+2:=by rw [← hW1];simp
 have hs1:=(hs.grow hb1).newR [w.heap.size,w.heap.size+1] fun b hb=>by
  have hge:w.heap.size≤b∧b<W1.heap.size:=by simp at hb;omega
  refine ⟨hge.2,.inl ?_,fun hi=>?_,fun hk=>?_⟩
  ·cases hO:O b with
   | none=>rfl
   | some l=>have:=(hs.own b l hO).1;omega
  ·have:=hs.ilt b hi;omega
  ·have:=hs.klt b hk;have:=hs.size;omega
 refine ⟨w.heap.size+1,[{target:=.collected w.heap.size,args:=#[]}],W1,{target:=.fn (.func f) cv.toArray,args:=#[.func (.yield (w.heap.size+1)) #[] #[]]},W1,f,
  #[.func (.yield (w.heap.size+1)) #[] #[]]++cv.toArray,W1,?_,?_,?_,?_,fun h=>(by simp [om] at h),?_⟩
 ·rw [← hW1,hrec];exact run_enterLoop_outer _ _ _ _ _
 ·simp only [resolve,hev]
  simp [go_sem]
 ·intro f' hf';exact trivial
 ·simp [invoke,go_sem,hcall]
 let stOf:Nat→Loop:=fun k=>if k≤m then rec .ready none else rec .done (UR e1)
 let J:JT:=fun k W I' K'=>∃ H' μ' O',Hs k H'∧Sim P X env H' a W I' μ' O'∧O' w.heap.size=some .r∧O' (w.heap.size+1)=some .r∧W.heap[w.heap.size+1]?=some (.loop (stOf k)) ∧
  W.heap[w.heap.size]?=some (.deferred (some []))∧(∀ b,K' b→O' b=none∧¬X.K b∧¬I' b∧b<W.heap.size)
 have hJ:JOK J:=by
  rintro k W I1 K1 W' I' K' ⟨H1,μ1,O1,q1,q2,q3,q4,q5,q6,q7⟩ g1 g2 g3 g4 g5 g6 g7 g8 g9 g10
  refine ⟨H1,μ1,O1,q1,q2.grow2 (Kb:=K1) (fun b hb=>⟨(q7 b hb).1,(q7 b hb).2.1,(q7 b hb).2.2.1⟩) g1 g2 g3 g4 g5 g6 g7 g8,q3,q4,?_,?_,fun b hb=>?_⟩
  ·rw [g2 _ (q2.own _ _ q4).1 fun hk=>by have:=(q7 _ hk).1;rw [q4] at this;cases this];exact q5
  ·rw [g2 _ (q2.own _ _ q3).1 fun hk=>by have:=(q7 _ hk).1;rw [q3] at this;cases this];exact q6
  ·by_cases hlt:b<W.heap.size
   ·have:=q7 b (g10 b hb hlt)
    exact ⟨this.1,this.2.1,(g9 b hb).2,(g9 b hb).1⟩
   ·refine ⟨?_,fun hk=>?_,(g9 b hb).2,(g9 b hb).1⟩
    ·cases hO:O1 b with
     | none=>rfl
     | some l=>exact absurd (q2.own b l hO).1 hlt
    ·have:=q2.klt b hk;have:=q2.size;omega
 have hcvW:RepAll W1 I caps cv:=hcv.keep (fun b hi=>hb1.block b (hs.ilt b hi)) fun _ h=>h
 refine (hit (w.heap.size+1) W1 I cv J hJ hcvW (fun b hi=>nL (hs.ilt b hi) hb1.size) ?_ ⟨H,μ,_,h0,hs1,by simp,by simp,by simp only [stOf];rw [if_pos (Nat.zero_le _)];exact hL1,hK1,fun b hb=>hb.elim⟩).mono ?_
 ·-- a round
  rintro k ds hk hkm W I1 K1 vs ⟨H1,μ1,O1,hH1,s1,oD,ol,hl0,hD,hKb⟩ hr
  have hl:W.heap[w.heap.size+1]?=some (.loop (rec .ready none)):=by
   have:=hl0;simp only [stOf] at this;rwa [if_pos hkm] at this
  have hlen:=hys ds (List.mem_of_getElem? hk)
  have hy:=run_yield (P:=P) (args:=vs.toArray) hl (by rw [hrec];simp [← hr.length,hlen])
  rw [hrec] at hy
  refine ⟨fn,_,assign,body,hy,roundIn_of_wpIn trivial ?_⟩
  obtain ⟨Y,O2,y1,y2,y3,y4,y5,yl,yI,yK,ym,yk⟩:=s1.overK hX0 hc [w.heap.size,w.heap.size+1] (by simp [oD,ol]) K1 fun b hb=>⟨(hKb b hb).1,(hKb b hb).2.2.2⟩
  obtain ⟨O3,sr⟩:=(s1.plain0 ym).roundL (P4 env) hr (ps:=ps) (fun p hp=>by show okT (0,X.nt.2) p;rw [h1];exact hps p hp) hlen.symm
  have hnl:¬I1 (w.heap.size+1):=(s1.own _ _ ol).2
  have etm:((ps.toArray.zip vs.toArray).foldl (fun (tmps:Array Value) (t,a)=>tmps.setIfInBounds t a) a.tmps)=(ps.zip vs).foldl (fun (t:Array Value) x=>t.setIfInBounds x.1 x.2) a.tmps:=by
   rw [← Array.foldl_toList,Array.toList_zip]
  rw [etm]
  refine wpIn_mono (hround (w.heap.size+1) k ds H1 hk hkm hH1 {Y with nt:=(0,X.nt.2),dfs:=[],args:=[]} _ _ _ _ _ (by show (0,X.nt.2)=(0,C.nt.2);rw [h1]) y3 y4 sr) ?_
  rintro e a1 w1 ⟨env1,H2,I2,μ2,O4,q1,q2⟩
  cases e with
  | normal =>
   have hl1:w1.heap[w.heap.size+1]?=some (.loop (rec .ready none)):=(q1.prot _ (yl _ (by simp))).trans (by rw [y1];exact hl)
   refine ⟨_,run_beginRound hl1 (by rw [hrec]),?_⟩
   have sb:=q1.busy y3 (Cj (.loop {rec .ready none with state:=.busy})) (yl (w.heap.size+1) (by simp)) (by show ¬Y.I _;rw [y2];exact hnl)
   refine wpIn_mono (q2 {Y with nt:=(0,X.nt.2),dfs:=[],args:=[],w:=w1.putObj (w.heap.size+1) (.loop {rec .ready none with state:=.busy}),I:=I2,μ:=μ2} _ _ _ _ _ (by show (0,X.nt.2)=(0,C.nt.2);rw [h1]) y3 y4 sb) ?_
   rintro e a2 w2 ⟨env2,H3,I3,μ3,O5,t1,he,t2⟩
   have hl2:w2.heap[w.heap.size+1]?=some (.loop {rec .ready none with state:=.busy}):=(t1.prot _ (yl _ (by simp))).trans (World.putObj_heap_same (Array.getElem?_eq_some_iff.1 hl1).1)
   have key:∀ jump,(jump.isNone=decide (k<m))→({({rec .ready none with state:=.busy}:Loop) with state:=if jump.isNone then LoopState.ready else .done,pending:=jump}:Loop)=stOf (k+1) →
     ∃ v w',(Instr.endRound (w.heap.size+1) jump).run P w2=.ok v w'∧(Ending.returned v=.returned (.bool (decide (k<m)))∧∃ I',J (k+1) w' I' K1∧(∀ b,K1 b→w'.heap[b]?=W.heap[b]?∧¬I' b)∧(∀ b,I1 b→I' b∧w'.heap[b]?=W.heap[b]?)∧W.heap.size≤w'.heap.size∧∀ b,I' b→b<w'.heap.size):=by
    intro jump hj hst
    have hend:=run_endRound (P:=P) jump hl2
    refine ⟨_,_,hend,by rw [hj],I3,?_⟩
    rw [hst]
    have hput:w2.putObj (w.heap.size+1) (.loop (stOf (k+1)))=(w2.putObj (w.heap.size+1) (.loop (rec .ready none))).putObj (w.heap.size+1) (.loop (stOf (k+1))):=by
     simp [World.putObj]
    have hl4:(w2.putObj (w.heap.size+1) (.loop (rec .ready none))).heap[w.heap.size+1]?=some (.loop (rec .ready none)):=World.putObj_heap_same (Array.getElem?_eq_some_iff.1 hl2).1
    have hm4:Mem P Y H3 (w2.putObj (w.heap.size+1) (.loop (rec .ready none))) I3 μ3 O5 :=
     Mem.ready (X:=Y) (l:=w.heap.size+1) (q1.toMem.cast rfl rfl rfl rfl rfl rfl) y3 (yl _ (by simp)) (by rw [y2];exact hnl) (Cj _) (t1.toMem.cast rfl rfl rfl rfl rfl rfl) (Cj _) (by rw [hl4,y1,hl])
    obtain ⟨On,k1,k2,k3⟩:=yk hm4
    have s5:=k1.grownR (Cj (l:=w.heap.size+1) (.loop (stOf (k+1)))) fun b hb=>by cases hb;exact k2 _ (by simp)
    have keep:∀ b,Y.K b→b≠w.heap.size+1→(w2.putObj (w.heap.size+1) (.loop (stOf (k+1)))).heap[b]?=W.heap[b]?:=fun b hb hne=>by
     rw [hput]
     exact (World.putObj_heap_other hne).trans ((hm4.prot b hb).trans (by rw [y1]))
    have hKne:∀ b,K1 b→b≠w.heap.size+1:=fun b hb e=>by subst e;have:=(hKb _ hb).1;rw [ol] at this;cases this
    have hIne:∀ b,I1 b→b≠w.heap.size+1:=fun b hb e=>by subst e;exact hnl hb
    have hKI:∀ b,K1 b→¬I3 b:=fun b hb hi=>(hKb b hb).2.2.1 (by have:=hm4.kI b (yK b hb) hi;rwa [y2] at this)
    refine ⟨⟨H3,μ3,On,t2,by rw [hput];exact s5,k2 _ (by simp),k2 _ (by simp),World.putObj_heap_same (Array.getElem?_eq_some_iff.1 hl2).1,?_,fun b hb=>⟨k3 b hb,(hKb b hb).2.1,hKI b hb,?_⟩⟩,
     fun b hb=>⟨keep b (yK b hb) (hKne b hb),hKI b hb⟩,fun b hb=>⟨hm4.mono b (by rw [y2];exact hb),keep b (yI b hb) (hIne b hb)⟩,?_,fun b hb=>?_⟩
    ·rw [keep _ (yl _ (by simp)) (by omega)];exact hD
    ·have:=hm4.klt b (yK b hb);have h6:=hm4.size;rw [World.putObj_size] at h6 ⊢;omega
    ·have h6:=hm4.size;rw [y1,World.putObj_size] at h6;rw [World.putObj_size];exact h6
    ·have:=hm4.ilt b hb;rw [World.putObj_size] at this ⊢;exact this
   by_cases hlt:k<m
   ·rw [if_pos hlt] at he
    subst he
    exact key none (by simp [hlt]) (by simp only [stOf];rw [if_pos (show k+1≤m by omega)];rw [hrec];rfl)
   ·rw [if_neg hlt] at he
    subst he
    rcases he1 with ⟨id,rfl⟩|rfl
    ·exact key (some (.exit id)) (by simp [hlt]) (by simp only [stOf];rw [if_neg (show ¬k+1≤m by omega)];rw [hrec];rfl)
    ·exact key (some .ret) (by simp [hlt]) (by simp only [stOf];rw [if_neg (show ¬k+1≤m by omega)];rw [hrec];rfl)
  | _=>exact q2.elim
 ·-- behind the iterator
  rintro e W2 ⟨⟨v,rfl⟩,I1,K1,H1,μ1,O1,hH1,s1,oD,ol,hl,hD,hKb⟩
  have s2:=s1.grownR (Cj (l:=w.heap.size+1) (.loop {stOf (min (m+1) ys.length) with state:=.exhausted})) fun b hb=>by cases hb;exact ol
  have s3:=s2.lab (O':=fun b=>if b=w.heap.size then none else O1 b) (fun b l hb=>by
    split at hb
    ·cases hb
    ·exact s2.own b l hb) (fun b hb=>by
    split
    ·rfl
    ·exact s2.kO b hb) (fun b id hb=>by rw [if_neg (fun e=>by subst e;rw [oD] at hb;simp at hb)];exact hb) (fun b t hb=>by rw [if_neg (fun e=>by subst e;rw [oD] at hb;simp at hb)];exact hb)
  have hmk:Marks X.K (W2.putObj (w.heap.size+1) (.loop {stOf (min (m+1) ys.length) with state:=.exhausted})) I1 (fun b=>if b=w.heap.size then none else O1 b) [{target:=.collected w.heap.size,args:=#[]}]:=by
   refine ⟨by simp,fun m hm=>?_⟩
   simp at hm
   refine ⟨_,hm,?_,by simp,(s1.own _ _ oD).2,fun hk=>by have:=hs.klt _ hk;have:=hs.size;omega⟩
   exact (World.putObj_heap_other (by omega)).trans hD
  have s4:Sim P {X with dfs:=[{target:=.collected w.heap.size,args:=#[]}]++X.dfs} env H1 {a with defers:=[{target:=.collected w.heap.size,args:=#[]}]++a.defers} (W2.putObj (w.heap.size+1) (.loop {stOf (min (m+1) ys.length) with state:=.exhausted})) I1 μ1 (fun b=>if b=w.heap.size then none else O1 b) :=
   ⟨s3.toMem.cast rfl rfl rfl rfl rfl rfl,s3.envr,s3.nt,by rw [s3.dfs.1],s3.dfs.2⟩
  have hq:=hdone H1 hH1
  have hbusy:(stOf (min (m+1) ys.length)).state≠.busy:=by
   simp only [stOf];split<;>rw [hrec]<;>simp
  have hend:=run_endLoop (P:=P) hl hbusy
  generalize W2.putObj (w.heap.size+1) (.loop {stOf (min (m+1) ys.length) with state:=.exhausted})=W3 at hend s4 hmk
  refine ⟨(stOf (min (m+1) ys.length)).pending,W3,hend,?_⟩
  by_cases hmy:m<ys.length
  ·rw [if_pos hmy] at hq
   have hst:(stOf (min (m+1) ys.length)).pending=UR e1:=by
    simp only [stOf];rw [if_neg (show ¬min (m+1) ys.length≤m by omega),hrec]
   rw [hst]
   rcases he1 with ⟨id,rfl⟩|rfl
   ·exact wpIn_exit ⟨env,_,I1,μ1,_,_,s4,hq,hmk⟩
   ·exact wpIn_ret ⟨env,_,I1,μ1,_,_,s4,hq,hmk⟩
  ·rw [if_neg hmy] at hq
   have hst:(stOf (min (m+1) ys.length)).pending=none:=by
    simp only [stOf];rw [if_pos (show min (m+1) ys.length≤m by omega),hrec]
   rw [hst]
   exact ⟨env,_,I1,μ1,_,_,s4,hq,hmk⟩
end
end Go.FL
namespace Go.FL
open Go Go.RowKit
def FnV (P:Program) (gv:DV) (xs:List DV) (r:AV) : Prop :=
 ∃ f first caps,gv=.fn f first caps∧(∀ args w,(callFunc f args).run P w=.ok (.enter f args) w)∧Fn P f (first++xs++caps) r
structure FV (P:Program) {α β:Type} (enc:α→List DV) (dec:β→AV) where
 dv:DV
 g:α→Option β
 ok:∀ x r,g x=some r→FnV P dv (enc x) (dec r)
def FnR (P:Program) (f:FuncId) (args:List AV) (H:Ad) (post:AV→Ad→Prop) : Prop :=
 ∀ (X:Snap) (w:World) (I:Nat→Prop) (μ:List Nat) (O:Nat→Option Loc) (vs:List Value),X.w=w→X.I=I→X.n0=0→X.ne=H.length→X.μ=μ→Mem P X H w I μ O→ARepAll P w I μ args vs [] →
  CallsIn (om none) 0 P f vs.toArray w fun e w'=>∃ v I' μ' O' H' r rs,e=.returned v∧Mem P X H' w' I' μ' O'∧ARep P w' I' μ' r v rs∧rs.Nodup∧(∀ b∈rs,∃ n,O' b=some (.t n))∧post r H'
section
variable {P:Program} {C:Cx} {X:Snap} {o:Oper} {ops:Array Oper} {Q:Exit→Env→Ad→Prop} {env env':Env} {H H':Ad} {a:Act} {w w':World} {I I':Nat→Prop} {μ μ':List Nat} {O O':Nat→Option Loc}
 {K:Env→Ad→Prop} {k:Nat} {l:List Oper}
theorem FnR.mono {f:FuncId} {args:List AV} {post post':AV→Ad→Prop} (h:FnR P f args H post) (hp:∀ r H',post r H'→post' r H') : FnR P f args H post':=fun X w I μ O vs e1 e2 e3 e4 e5 hm ha =>
 (h X w I μ O vs e1 e2 e3 e4 e5 hm ha).mono fun _ _ ⟨v,I',μ',O',H',r,rs,q1,q2,q3,q4,q5,q6⟩=>⟨v,I',μ',O',H',r,rs,q1,q2,q3,q4,q5,hp _ _ q6⟩
theorem RZ {c:Call} {fo:Operand} {gv:DV} {xs:List DV} {r:AV} (h:FnV P gv xs r) (ho:o.op=.call c:=by rfl) (hc:c.callee=.value fo:=by rfl) (hfo:lk env fo=.d gv:=by rfl) (ha:argsD env c.args.toList=some xs:=by rfl) (hr:A5 r=false:=by rfl) : VOK P C o env H r:=by
 obtain ⟨f,first,caps,rfl,hcall,hfn⟩:=h
 exact vcl hfn hcall ho hc hfo ha hr
theorem FnV.of {f:FuncId} {caps xs:List DV} {r:AV} (hcall:∀ args w,(callFunc f args).run P w=.ok (.enter f args) w) (h:Fn P f (xs++caps) r) : FnV P (.fn f [] caps) xs r:=⟨f,[],caps,rfl,hcall,by simpa using h⟩
theorem XZ {f:FuncId} {cap:Array Operand} {ds:List DV} (ho:o.op=.makeFunc (.func f) #[] cap:=by rfl) (ha:argsD env cap.toList=some ds:=by rfl) : VOK P C o env H (.d (.fn f [] ds)) :=
 .pv ⟨by simp [ho],fun X a w I μ O _ hs=>⟨.func (.func f) #[] (cap.map a.eval),by simp [execOp,ho,Instr.makeFunc],.d (by
  have:=Rep.fn f [] ds [] (cap.toList.map a.eval) (.nil (w:=w) (I:=I)) (hs.argsD ha)
  have e:(cap.toList.map a.eval).toArray=cap.map a.eval:=by apply Array.ext';simp
  rw [e] at this
  exact this)⟩⟩
theorem Yi {f:FuncId} {cap:Array Operand} {t:Nat} {avs:List AV} (h:RL P C ops Q (k+1) l ((t,.fn f [] avs)::env) H) (hg:grd ops env o true=true:=by rfl) (ho:o.op=.makeFunc (.func f) #[] cap:=by rfl) (ha:argsA env cap.toList=some avs:=by rfl)
  (hd:o.dst=some t:=by rfl) (hf:Am (get env t)=false:=by rfl) (ht:okT C.nt t:=by rfl):RL P C ops Q k (o::l) env H:=by
 rw [← Al hf] at h
 refine .go hg (.pure (by simp [ho]) hd ht (fun X a w I μ O _ hs=>⟨.func (.func f) #[] (cap.map a.eval),?_,[],?_,nN,by simp⟩) h)
 ·simp [execOp,ho,Instr.makeFunc]
 ·have:=ARep.fn (f:=f) (.nil (P:=P) (w:=w) (I:=I) (μ:=μ)) (hs.argsA ha)
  have e:(cap.toList.map a.eval).toArray=cap.map a.eval:=by apply Array.ext';simp
  rw [e] at this
  exact this
theorem bxA {x:Operand} {ty t:Nat} {c:AV} (h:RL P C ops Q (k+1) l ((t,.bp H.length 0)::env) (H++[.box [c]])) (hg:grd ops env o true=true:=by rfl) (ho:o.op=.box ty x:=by rfl) (hv:lk env x=c:=by rfl) (hu:c≠.un:=by simp)
  (h1:one c=true:=by rfl) (hn:noOwn c=true:=by rfl) (hd:o.dst=some t:=by rfl) (hf:Am (get env t)=false:=by rfl) (ht:okT C.nt t:=by rfl):RL P C ops Q k (o::l) env H:=by
 obtain ⟨g1,g2⟩:=Av hv hu
 refine .go hg (XL ho g1 hd ht (by rw [g2];exact h1) (.inl (by rw [g2];exact hn)) ?_)
 have e1:Nv env (EC x)=env:=by
  cases hx:EC x with
  | t s=>rw [hx] at g2;simp only [Nv];rw [show get env s=c from g2,hn];rfl
  | _=>rfl
 rw [e1,g2,Al hf];exact h
theorem ARepAll.append : ∀ {xs:List AV} {vs:List Value} {b1:List Nat} {ys:List AV} {us:List Value} {b2:List Nat},ARepAll P w I μ xs vs b1→ARepAll P w I μ ys us b2→ARepAll P w I μ (xs++ys) (vs++us) (b1++b2)
 | _,_,_,_,_,_,.nil,k=>k
 | _,_,_,_,_,_,.cons h t,k=>by
  have:=ARepAll.cons h (t.append k)
  rwa [← List.append_assoc] at this
theorem OpOK.callR {c:Call} {fo:Operand} {f:FuncId} {caps avs:List AV} {post:AV→Ad→Prop} (ho:o.op=.call c) (hc:c.callee=.value fo) (hfo:(fo=.func f∧caps=[])∨(lk env fo=.fn f [] caps∧noOwnL caps=true)) (ha:argsA env c.args.toList=some avs) (hcr:CG env=false) (hn0:C.n0=0)
  (hcall:∀ args w,(callFunc f args).run P w=.ok (.enter f args) w) (hfn:FnR P f (avs++caps) H post) (hd:∀ t,o.dst=some t→okT C.nt t)
  (hK:∀ r H',post r H'→K (match o.dst with|some t=>put env t r|none=>env) H'):OpOK P C o env H K:=by
 intro X a w I μ O next Q h1 h2 h3 hs hn
 refine ⟨fun _ _=>trivial,?_⟩
 have hcv:∃ cs,a.eval fo=.func (.func f) #[] cs∧ARepAll P w I μ caps cs.toList []:=by
  rcases hfo with ⟨rfl,rfl⟩|⟨hl,hnc⟩
  ·exact ⟨#[],rfl,.nil⟩
  ·obtain ⟨bs,hr⟩:=hs.lk (x:=fo) (by rw [hl];rfl)
   rw [hl] at hr
   have hno:=noOwn_bs hr (by simp [noOwn,noOwnL,hnc])
   subst hno
   generalize a.eval fo=u at hr
   generalize hbs:([]:List Nat)=bs at hr
   cases hr with
   | fn k1 k2 =>
    cases k1
    have:_++_=([]:List Nat):=hbs.symm
    rw [List.append_eq_nil_iff] at this
    have k3:=this.2
    subst k3
    exact ⟨_,rfl,by simpa using k2⟩
 obtain ⟨cs,hev,hcs⟩:=hcv
 have hres:=CA (P:=P) (w:=w) (ρ:=a.eval) (ty:=o.type) hc hev
 have hex:(execOp a.eval o).run P w=.ok (.enter f (#[]++c.args.map a.eval++cs)) w:=by
  simp only [execOp,ho,Sem.run_bind,hres,Result.andThen_ok,invoke,hcall]
 rw [Oper.semAt_eq _ _ _ (by simp [ho]),hex,Oper.uponIn_enter]
 refine ⟨fun h=>(by simp [om] at h),?_⟩
 obtain ⟨Y,O2,y1,y2,y3,y4,y5,ym,_,yk⟩:=hs.over (by omega) hcr [] (by simp)
 have hargs:ARepAll P w I μ (avs++caps) (c.args.toList.map a.eval++cs.toList) []:=(hs.argsA ha).append hcs
 have hcl:=hfn Y w I μ O2 _ y1 y2 y3 y4 y5 ym hargs
 have e:(c.args.toList.map a.eval++cs.toList).toArray=#[]++c.args.map a.eval++cs:=by apply Array.ext';simp
 rw [e] at hcl
 refine ⟨trivial,fun csF hroom=>?_⟩
 obtain ⟨e,w',fr,⟨v,I',μ',O',Hn,r,rs,rfl,q1,q2,q3,q4,q5⟩,s,x⟩:=hcl.2 csF (room_wide _)
 refine ⟨.returned v,w',fr,?_,s,x⟩
 obtain ⟨On,k1,k2⟩:=yk q1 (rs:=rs) q4
 have hh:Hand P w' I' μ' On r v:=⟨rs,q2,q3,k2⟩
 show next (a.put o.dst v) w'
 have hK:=hK r Hn q5
 cases hdst:o.dst with
 | none=>exact hn _ _ _ _ _ _ _ k1 (by rw [hdst] at hK;exact hK)
 | some t=>exact hn _ _ _ _ _ _ _ (k1.put_hand (by rw [h1];exact hd t hdst) hh) (by rw [hdst] at hK;exact hK)
theorem clR {c:Call} {f t:Nat} {avs:List AV} {post:AV→Ad→Prop} (hfn:FnR P f avs H post) (hcall:∀ args w,(callFunc f args).run P w=.ok (.enter f args) w) (h:∀ r H',post r H'→RL P C ops Q (k+1) l ((t,r)::env) H')
  (hg:grd ops env o true=true:=by rfl) (ho:o.op=.call c:=by rfl) (hc:c.callee=.value (.func f):=by rfl) (ha:argsA env c.args.toList=some avs:=by rfl) (hcr:CG env=false:=by rfl) (hd:o.dst=some t:=by rfl)
  (hf:Am (get env t)=false:=by rfl) (ht:okT C.nt t:=by rfl) (h0:C.n0=0:=by rfl):RL P C ops Q k (o::l) env H:=by
 refine .go hg (OpOK.callR (caps:=[]) ho hc (.inl ⟨rfl,rfl⟩) ha hcr h0 hcall (by rwa [List.append_nil]) (fun t' h'=>by rw [hd] at h';cases h';exact ht) fun r H' hp=>?_)
 rw [hd]
 show RL P C ops Q (k+1) l (put env t r) H'
 rw [Al hf];exact h r H' hp
theorem Zo {c:Call} {fo:Operand} {f t:Nat} {avs caps:List AV} {post:AV→Ad→Prop} (hfn:FnR P f (avs++caps) H post) (hcall:∀ args w,(callFunc f args).run P w=.ok (.enter f args) w) (h:∀ r H',post r H'→RL P C ops Q (k+1) l ((t,r)::env) H')
  (hg:grd ops env o true=true:=by rfl) (ho:o.op=.call c:=by rfl) (hc:c.callee=.value fo:=by rfl) (hfo:lk env fo=.fn f [] caps:=by rfl) (hnc:noOwnL caps=true:=by rfl) (ha:argsA env c.args.toList=some avs:=by rfl) (hcr:CG env=false:=by rfl) (hd:o.dst=some t:=by rfl)
  (hf:Am (get env t)=false:=by rfl) (ht:okT C.nt t:=by rfl) (h0:C.n0=0:=by rfl):RL P C ops Q k (o::l) env H:=by
 refine .go hg (OpOK.callR ho hc (.inr ⟨hfo,hnc⟩) ha hcr h0 hcall hfn (fun t' h'=>by rw [hd] at h';cases h';exact ht) fun r H' hp=>?_)
 rw [hd]
 show RL P C ops Q (k+1) l (put env t r) H'
 rw [Al hf];exact h r H' hp
def ZD (rs:List ResultVar) (post:AV→Ad→Prop) : Exit→Env→Ad→Prop
 | .normal,env,H=>∃ r,Gk env r rs∧post r H
 | .ret,env,H=>∃ r,Gk env r rs∧post r H
 | _,_,_=>False
theorem FnR.of {f:FuncId} {fn:Func} {c:Code} {args:List AV} {post:AV→Ad→Prop} {rs:List ResultVar} (nt:Nat) (hf:P.funcs[f]?=some fn) (hb:fn.body=some c) (hrs:fn.results=rs.toArray) (hnt:fn.ntmps=nt) (hn:args.length≤nt)
  (h:AW P {nt:=(0,nt),n0:=0,ne:=H.length} c (ZD rs post) (Qj 0 args []) H):FnR P f args H post:=by
 intro X w I μ O vs e1 e2 e3 e4 e5 hm ha
 refine callsIn_of_wp hf hb trivial ?_
 have hlen:=ha.length
 let a:Act:={tmps:=vs.toArray++Array.replicate (fn.ntmps-vs.toArray.size) undef,defers:=[]}
 let Y:Snap:={X with nt:=(0,nt),dfs:=[],args:=vs}
 have hat:∀ (j:Nat) (v:Value),vs[j]?=some v→a.tmps.getD j undef=v:=fun j v hj=>by
  have hjl:j<vs.length:=(lS.1 hj).1
  have e2:(vs.toArray++Array.replicate (fn.ntmps-vs.length) undef)[j]?=some v:=by
   rw [Array.getElem?_append_left (by simpa using hjl)];simpa using hj
  simp [a,e2]
 have hs0:Sim P Y [] H a w I μ O:=by
  refine ⟨hm.cast rfl rfl rfl rfl rfl rfl,fun t=>.un,by simp [a,Y,hnt];omega,rfl,fun t ht=>absurd ht (by simp [Y])⟩
 obtain ⟨O1,hs⟩:=hs0.adoptAll (k:=0) ha nN (by simp) (fun _ _=>rfl) fun j v hj=>by rw [Nat.zero_add];exact hat j v hj
 refine wpIn_mono (h Y a w I μ O1 rfl e3 e4 hs) fun e a' w' hp=>?_
 obtain ⟨env',He,I',μ',O',s,q⟩:=hp
 have fin:(∃ r,Gk env' r rs∧post r He)→a'.defers=[]∧∃ v,(results fn a'.tmps).run P w'=.ok v w'∧∃ v' I' μ' O' H' r rs,Ending.returned v=.returned v'∧Mem P X H' w' I' μ' O'∧ARep P w' I' μ' r v' rs∧rs.Nodup∧(∀ b∈rs,∃ n,O' b=some (.t n))∧post r H':=by
  rintro ⟨r,hres,hpost⟩
  obtain ⟨v,b1,h1,h2,h3,h4⟩:=s.gives hrs hres
  exact ⟨s.dfs.1,v,h1,v,I',μ',O',He,r,b1,rfl,s.toMem.cast rfl rfl rfl rfl rfl rfl,h2,h3,fun b hb=>let ⟨t,g,_⟩:=h4 b hb;⟨t,g⟩,hpost⟩
 cases e with
 | normal=>exact fin q
 | ret=>exact fin q
 | _=>exact q.elim
def ZE (P:Program) (rs:List ResultVar) (r:AV) : Exit→Env→Ad→Prop:=fun e env _=>(e=.normal∨e=.ret)∧(T7 P env r rs∨X8 P env r rs∨Gk env r rs)
theorem Fn.ofMA {f:FuncId} {fn:Func} {c:Code} {args:List DV} {r:AV} {rs:List ResultVar} {nt:Nat} (hf:P.funcs[f]?=some fn) (hb:fn.body=some c) (hrs:fn.results=rs.toArray) (hnt:fn.ntmps=nt) (hn:args.length≤nt) (hbp:noBp r=true)
  (h:AWM P {nt:=(0,nt),n0:=0,ne:=0} c (ZE P rs r) (EA 0 args) []):Fn P f args r:=by
 intro w I vs hI ha
 refine callsIn_of_wp_marks hf hb trivial ?_
 have hlen:=ha.length
 let X:Snap:={w:=w,I:=I,K:=fun b=>b<w.heap.size,n0:=0,ne:=0,μ:=[],nt:=(0,nt),dfs:=[]}
 let a:Act:={tmps:=vs.toArray++Array.replicate (fn.ntmps-vs.toArray.size) undef,defers:=[]}
 have hs:Sim P X (EA 0 args) [] a w I [] (fun _=>none):=by
  refine ⟨{prot:=fun _ _=>rfl,kO:=fun _ _=>rfl,kI:=fun _ _ h=>h,mono:=fun _ h=>h,os:=rfl,tape:=rfl,output:=rfl,size:=Nat.le_refl _,own:=(fun b l h=>by simp at h),ilt:=hI,μlen:=rfl,μpre:=(fun i b hi _=>by simp [X] at hi),nle:=(by simp [X]),heap:=(fun id o h=>by simp at h),klt:=fun b hb=>hb,n0le:=(by simp [X])},fun t=>?_,?_,rfl,fun t h=>absurd h (by simp [X])⟩
  ·rcases Gr (tmps:=a.tmps) (k:=0) ha (fun j v hj=>by
    have hjl:j<vs.length:=(lS.1 hj).1
    have e2:(vs.toArray++Array.replicate (fn.ntmps-vs.length) undef)[j]?=some v:=by
     rw [Array.getElem?_append_left (by simpa using hjl)];simpa using hj
    simp [a,e2]) t with h0|⟨d,h0,h1⟩
   ·rw [h0];exact .un
   ·rw [h0];exact .of (bs:=[]) (.d h1) nN (by simp)
  ·simp [a,X,hnt];omega
 have hw:=h X a w I [] (fun _=>none) rfl rfl rfl hs
 refine wpIn_mono hw fun e a' w' hp=>?_
 obtain ⟨env',H',I',μ',O',ms,s,⟨he,q⟩,hm⟩:=hp
 have hdf:a'.defers=ms:=by rw [s.dfs.1];simp [X]
 have fin:LeavesInM (om none) 0 P fn a'.tmps (fun e w'=>∃ v I' bs,e=.returned v∧Below w.heap.size w w'∧(∀ b,I b→I' b) ∧
   (∀ b,I' b→b<w'.heap.size∧(b<w.heap.size→I b))∧ARep P w' I' [] r v bs∧bs.Nodup∧∀ b∈bs,w.heap.size≤b∧b<w'.heap.size∧¬I' b) a'.defers .returning w':=by
  rw [hdf]
  refine Kr (fun w4 s4=>?_) ms w' s hm
  obtain ⟨v,bs,h1,h2,h3,h4⟩:∃ v bs,(Go.results fn a'.tmps).run P w4=.ok v w4∧ARep P w4 I' μ' r v bs∧bs.Nodup∧∀ b∈bs,∃ l,O' b=some l:=by
   rcases q with q|q|q
   ·exact s4.resultsC hrs q
   ·exact s4.resultsA hrs q
   ·exact s4.results hrs q
  refine ⟨v,h1,v,I',bs,rfl,⟨s4.os,s4.tape,s4.output,s4.size,fun b hb=>s4.prot b hb⟩,s4.mono,fun b hi=>⟨s4.ilt b hi,fun hb=>s4.kI b hb hi⟩,h2.noBp hbp,h3,fun b hm=>?_⟩
  obtain ⟨l,hl⟩:=h4 b hm
  refine ⟨?_,(s4.own b l hl).1,(s4.own b l hl).2⟩
  rcases Nat.lt_or_ge b w.heap.size with hlt|hge
  ·have:=s4.kO b hlt;rw [this] at hl;cases hl
  ·exact hge
 rcases he with rfl|rfl<;>exact fin
end
end Go.FL
namespace Go.FL
open Go Go.RowKit
section
variable {P:Program} {C:Cx} {X:Snap} {o:Oper} {ops:Array Oper} {Q:Exit→Env→Ad→Prop} {env env':Env} {H H':Ad} {a:Act} {w w':World} {I I':Nat→Prop} {μ μ':List Nat} {O O':Nat→Option Loc}
 {K:Env→Ad→Prop} {k:Nat} {l:List Oper}
theorem ARepAll.reC {c c':AV} (hcc:∀ v bs,ARep P w I μ c v bs→ARep P w I μ c' v bs) : ∀ {cs:List AV} {vs:List Value} {bs:List Nat} (off:Nat),ARepAll P w I μ cs vs bs→cs[off]?=some c→ARepAll P w I μ (cs.set off c') vs bs
 | [],_,_,_,h,hc=>by simp at hc
 | x::xs,_,_,0,.cons h t,hc=>by
  simp at hc;subst hc
  exact .cons (hcc _ _ h) t
 | x::xs,_,_,off+1,.cons h t,hc=>.cons h (t.reC hcc off (by simpa using hc))
theorem Gh.cell {id off:Nat} {cs:List AV} {c c':AV} (hH:H[id]?=some (.box cs)) (hc:cs[off]?=some c) (hno:Am c=false) (hcc:∀ w I μ v bs,ARep P w I μ c v bs→ARep P w I μ c' v bs) :
  Gh P C env H env (H.set id (.box (cs.set off c'))):=fun X a w I μ O _ _ _ hs=>by
 have hlt:id<H.length:=(lS.1 hH).1
 refine ⟨I,O,⟨{hs.toMem with
  μlen:=by rw [hs.μlen];simp
  nle:=by simpa using hs.nle
  heap:=fun i ob ho=>?_},fun t=>?_,hs.nt,hs.dfs⟩⟩
 ·by_cases hi:i=id
  ·subst hi
   rw [List.getElem?_set_self hlt] at ho
   cases ho
   obtain ⟨blk,bs,h1,h2,h3,h4⟩:=hs.heap i _ hH
   obtain ⟨cells,e,k1,k2⟩:=h2
   exact ⟨blk,bs,h1,⟨cells,e,k1,k2.reC (hcc w I μ) off hc⟩,h3,h4⟩
  ·rw [List.getElem?_set_ne (Ne.symm hi)] at ho
   exact hs.heap i ob ho
 ·refine (hs.envr t).keepG (fun _ h=>h) (fun _ _=>rfl) (fun _ _ h=>h) (fun b hb=>⟨rfl,hb⟩) fun p e xs hp=>⟨?_,fun v hv=>hv⟩
  cases p with
  | t r=>exact hp
  | c i o =>
   simp only [A1] at hp ⊢
   by_cases hi:i=id
   ·subst hi
    rw [List.getElem?_set_self hlt]
    rw [hH] at hp
    simp only at hp ⊢
    by_cases ho:o=off
    ·subst ho
     rw [lD,hc] at hp
     simp at hp
     rw [hp] at hno;cases hno
    ·rw [lD,List.getElem?_set_ne (Ne.symm ho),← lD];exact hp
   ·rw [List.getElem?_set_ne (Ne.symm hi)];exact hp
theorem Gh.nlOwnC {id off:Nat} {cs:List AV} (e:TypeId) (hsz:0<AN P e) (hH:H[id]?=some (.box cs):=by rfl) (hc:cs[off]?=some .nl:=by rfl) : Gh P C env H env (H.set id (.box (cs.set off (.own e [])))) :=
 Gh.cell hH hc rfl fun w I μ v bs h=>by
  cases h
  exact .own e [] (.slice none 0 0) [] hsz (.inl ⟨none,rfl,rfl,rfl⟩) (.nil _)
theorem C6 {ty e sz by_ len:Nat} {z:Value} {parts:Array (Nat×Operand)} {xs:List Operand} {ds ds':List DV} (he:ds'=ds) (hsz:∀ d∈ds',d.flat=true∧d.cells.length=sz) (hT:C1 P ty=some (e,sz,by_,z))
  (ho:o.op=.buildSlice ty len parts:=by rfl) (hp:IF 0 parts.toList=some xs:=by rfl) (hlen:xs.length=len:=by rfl) (ha:argsD env xs=some ds:=by rfl) (hsmall:len * sz≤16777216:=by decide):VOK P C o env H (.own e ds'):=by
 subst he;exact Lp hsz hT ho hp hlen ha hsmall
theorem YL {x:Operand} {ty:Nat} {v:DV} (ho:o.op=.box ty x:=by rfl) (hv:Bo (lk env x)=some v:=by rfl) (hl:v.leaf=true:=by rfl) : VOK P C o env H (.d (.ptr [v])) :=
 .val (by simp [ho]) fun X a w I μ O _ _ _ hs=>by
  have hr:=hs.deep (x:=x) hv
  have hone:=hr.one hl
  have hcells:(a.eval x).cells=#[a.eval x]:=by
   generalize a.eval x=u at hone
   cases u<;>first|rfl|simp [Value.oneCell'] at hone
  have hb:Below w.heap.size w (w.alloc (.cells #[a.eval x] ty)):=Bu _
  refine ⟨.pointer (some ⟨w.heap.size,0,none⟩),_,fun b=>I b∨b=w.heap.size,[],?_,hb,fun b hi=>.inl hi,fun b hi=>?_,.d (.ptr [v] w.heap.size 0 [a.eval x] (.inr rfl) ?_ (.cons (hr.keep (fun b hi=>hb.block b (hs.ilt b hi)) fun b hi=>.inl hi) .nil)),nN,by simp⟩
  ·simp only [execOp,ho,Instr.box,Sem.run_bind,Fo,Result.andThen_ok,Sem.run_pure,hcells]
  ·rcases hi with hi|rfl
   ·exact ⟨nL (hs.ilt b hi) hb.size,fun _=>hi⟩
   ·exact ⟨by simp,fun hlt=>absurd hlt (Nat.lt_irrefl _)⟩
  ·intro j u hj
   have hnew:(w.alloc (.cells #[a.eval x] ty)).heap[w.heap.size]?=some (.cells #[a.eval x] ty):=World.alloc_heap_new w _
   have hj0:j<1:=by simpa using (lS.1 hj).1
   have:j=0:=by omega
   subst this
   simp at hj;subst hj
   show World.cell? _ ⟨w.heap.size,0+0,none⟩=_
   unfold World.cell?
   show (match (w.alloc (.cells #[a.eval x] ty)).heap[w.heap.size]? with|some (.cells c _ _)=>_|_=>_)=_
   rw [hnew];rfl
theorem YJ {x:Operand} {av:AV} (ho:o.op=.move x:=by rfl) (hv:lk env x=av:=by rfl) (hu:av≠.un:=by simp) (hr:A5 av=false:=by rfl) (hn:noOwn av=true:=by rfl) : VOK P C o env H av:=by
 obtain ⟨h1,h2⟩:=Av hv hu
 have:=J3 (P:=P) (C:=C) (env:=env) (H:=H) (.inl ho) h1 (by rw [h2];exact hr) (by rw [h2];exact hn)
 rw [h2] at this;exact .pv this hr
theorem OZ {x:Operand} {ty id off:Nat} {cs:List AV} {c:AV} (hH:H[id]?=some (.box cs)) (hc:cs[off]?=some c) (hag:C0 P ty=some false) (ho:o.op=.load ty x:=by rfl) (hv:lk env x=.bp id off:=by rfl) (hn:noOwn c=true:=by rfl) (hr:A5 c=false:=by rfl) : VOK P C o env H c:=by
 obtain ⟨h1,h2⟩:=Av hv (by simp)
 exact .pv (OO ho h1 hag h2 hH hc hn) hr
theorem Wb {x:Operand} {id off:Nat} (ho:o.op=.nilCheck x:=by rfl) (hv:lk env x=.bp id off:=by rfl) : VOK P C o env H (.bp id off):=by
 obtain ⟨h1,h2⟩:=Av hv (by simp)
 have:=Zj (P:=P) (C:=C) (env:=env) (H:=H) ho h1 (.inl ⟨id,off,h2⟩)
 rw [h2] at this;exact .pv this
theorem LQ {x:Operand} {ty id off:Nat} {cs:List AV} {e:TypeId} {xs:List DV} (hH:H[id]?=some (.box cs)) (hc:cs[off]?=some (.own e xs)) (hag:C0 P ty=some false) (ho:o.op=.load ty x:=by rfl) (hv:lk env x=.bp id off:=by rfl) : VOK P C o env H (.ref (.c id off) 0 xs.length):=by
 obtain ⟨h1,h2⟩:=Av hv (by simp)
 refine .rel (by simp [ho]) fun X a w I μ O _ hs=>?_
 obtain ⟨blk,hm,he⟩:=hs.bp h1 h2
 obtain ⟨v,bk,g1,g2⟩:=hs.cell hH hc hm
 refine ⟨v,by simp [execOp,ho,Instr.loadAt,he,Instr.sureAddr,Cc hag g1],rfl,RefRel.self hs (p:=.c id off) ?_ ?_ (e:=e)⟩
 ·rw [Hu hH,lD,hc];rfl
 ·simp [Br,hm,g1]
end
structure FDV where
 fn ::
 f:FuncId
 first:List DV
 caps:List DV
def FDV.dv (x:FDV) : DV:=.fn x.f x.first x.caps
structure FW (α β:Type) where
 fd:FDV
 g:α→Option β
def FW.dv {α β:Type} (f:FW α β) : DV:=f.fd.dv
def FW.OK {α β:Type} (P:Program) (enc:α→List DV) (dec:β→AV) (f:FW α β) : Prop:=∀ x r,f.g x=some r→FnV P f.dv (enc x) (dec r)
theorem IA {P:Program} {α β:Type} {enc:α→List DV} {dec:β→AV} {f:FuncId} {caps:List DV} {g:α→Option β} (hcall:∀ args w,(callFunc f args).run P w=.ok (.enter f args) w) (h:∀ x r,g x=some r→Fn P f (enc x++caps) (dec r)) :
  FW.OK P enc dec ⟨.fn f [] caps,g⟩:=fun x r hx=>FnV.of hcall (h x r hx)
end Go.FL
namespace Go.FL
open Go Go.Proofs
mutual
inductive Itm where
 | mk (kind:Int) (num:RT) (char:Int) (box:List Arr)
inductive Arr where
 | mk (shape:List Int) (items:List Itm)
end
instance : Inhabited Itm:=⟨.mk 0 (false,[],[]) 0 []⟩
instance : Inhabited Arr:=⟨.mk [] []⟩
def Itm.kind : Itm→Int | .mk k _ _ _=>k
def Itm.num : Itm→RT | .mk _ n _ _=>n
def Itm.char : Itm→Int | .mk _ _ c _=>c
def Itm.box : Itm→List Arr | .mk _ _ _ b=>b
def Arr.shape : Arr→List Int | .mk s _=>s
def Arr.items : Arr→List Itm | .mk _ i=>i
theorem Itm.eta (x:Itm) : Itm.mk x.kind x.num x.char x.box=x:=by cases x;rfl
theorem Arr.eta (x:Arr) : Arr.mk x.shape x.items=x:=by cases x;rfl
mutual
def Itm.size : Itm→Nat
 | .mk _ _ _ b=>arsSize b+1
def Arr.size : Arr→Nat
 | .mk _ i=>itsSize i+1
def itsSize : List Itm→Nat
 | []=>0
 | x::xs=>x.size+itsSize xs
def arsSize : List Arr→Nat
 | []=>0
 | x::xs=>x.size+arsSize xs
end
def Is (xs:List Int) : List DV:=xs.map (.i .i64)
mutual
def Itm.dv : Itm→DV
 | .mk k n c b=>.ag [.i .u8 k,.b n.1,.sl (L n.2.1),.sl (L n.2.2),.i .i32 c,.sl (Ars b)]
def Arr.dv : Arr→DV
 | .mk s i=>.ag [.sl (Is s),.sl (Its i)]
def Its : List Itm→List DV
 | []=>[]
 | x::xs=>x.dv::Its xs
def Ars : List Arr→List DV
 | []=>[]
 | x::xs=>x.dv::Ars xs
end
theorem Itm.dv_eq (x:Itm) : x.dv=.ag [.i .u8 x.kind,.b x.num.1,.sl (L x.num.2.1),.sl (L x.num.2.2),.i .i32 x.char,.sl (Ars x.box)]:=by cases x;simp only [Itm.dv];rfl
theorem Arr.dv_eq (x:Arr) : x.dv=.ag [.sl (Is x.shape),.sl (Its x.items)]:=by cases x;simp only [Arr.dv];rfl
theorem HK (xs:List Itm) : Its xs=xs.map Itm.dv:=by induction xs with
 | nil=>simp [Its]
 | cons x xs ih=>simp [Its,ih]
theorem GP (xs:List Arr) : Ars xs=xs.map Arr.dv:=by induction xs with
 | nil=>simp [Ars]
 | cons x xs ih=>simp [Ars,ih]
theorem Af (xs:List Int) : (Is xs).length=xs.length:=by simp [Is]
theorem A6 {xs:List Int} {i:Nat} {x:Int} (h:xs[i]?=some x) : (Is xs)[i]?=some (.i .i64 x):=by simp [Is,h]
theorem F4 (xs:List Int) : ∀ x∈Is xs,x.cells.length=1:=fun x hx=>by
 simp only [Is,List.mem_map] at hx
 obtain ⟨n,_,rfl⟩:=hx;rfl
theorem BO (xs:List Int) : ∃ sz,∀ x∈Is xs,x.cells.length=sz:=⟨1,F4 xs⟩
theorem J1 (xs ys:List Int) : Is (xs++ys)=Is xs++Is ys:=by simp [Is]
theorem Eu (xs:List Int) : ∀ d∈Is xs,d.flat=true∧d.cells.length=1:=fun x hx=>by
 simp only [Is,List.mem_map] at hx
 obtain ⟨n,_,rfl⟩:=hx
 exact ⟨by simp [DV.flat,DV.cells,DV.leaf],rfl⟩
theorem FY (xs:List Int) (n:Nat) (x:Int) : (Is xs).set n (.i .i64 x)=Is (xs.set n x):=by simp [Is,List.map_set]
theorem Aq (xs:List Itm) : (Its xs).length=xs.length:=by simp [HK]
theorem CJ {xs:List Itm} {i:Nat} {x:Itm} (h:xs[i]?=some x) : (Its xs)[i]?=some (.ag [.i .u8 x.kind,.b x.num.1,.sl (L x.num.2.1),.sl (L x.num.2.2),.i .i32 x.char,.sl (Ars x.box)]):=by rw [HK,List.getElem?_map,h,Option.map_some,Itm.dv_eq]
theorem Ee (xs:List Itm) : ∀ x∈Its xs,x.cells.length=6:=fun x hx=>by
 rw [HK,List.mem_map] at hx
 obtain ⟨n,_,rfl⟩:=hx;rw [Itm.dv_eq];rfl
theorem CC (xs:List Itm) : ∃ sz,∀ x∈Its xs,x.cells.length=sz:=⟨6,Ee xs⟩
theorem Ew (xs ys:List Itm) : Its (xs++ys)=Its xs++Its ys:=by simp [HK]
theorem BW (xs:List Itm) : ∀ d∈Its xs,d.flat=true∧d.cells.length=6:=fun x hx=>by
 rw [HK,List.mem_map] at hx
 obtain ⟨n,_,rfl⟩:=hx
 rw [Itm.dv_eq]
 exact ⟨by simp [DV.flat,DV.cells,DV.leaf],rfl⟩
theorem Cz (x:Itm) : Its [x]=[.ag [.i .u8 x.kind,.b x.num.1,.sl (L x.num.2.1),.sl (L x.num.2.2),.i .i32 x.char,.sl (Ars x.box)]]:=by simp [HK,Itm.dv_eq]
theorem Ba (xs:List Arr) : (Ars xs).length=xs.length:=by simp [GP]
theorem D1 {xs:List Arr} {i:Nat} {x:Arr} (h:xs[i]?=some x) : (Ars xs)[i]?=some (.ag [.sl (Is x.shape),.sl (Its x.items)]):=by rw [GP,List.getElem?_map,h,Option.map_some,Arr.dv_eq]
theorem MC (xs:List Arr) : ∀ x∈Ars xs,x.cells.length=2:=fun x hx=>by
 rw [GP,List.mem_map] at hx
 obtain ⟨n,_,rfl⟩:=hx;rw [Arr.dv_eq];rfl
theorem Ea (xs:List Arr) : ∃ sz,∀ x∈Ars xs,x.cells.length=sz:=⟨2,MC xs⟩
theorem Pv (xs ys:List Arr) : Ars (xs++ys)=Ars xs++Ars ys:=by simp [GP]
theorem FQ (xs:List Arr) : ∀ d∈Ars xs,d.flat=true∧d.cells.length=2:=fun x hx=>by
 rw [GP,List.mem_map] at hx
 obtain ⟨n,_,rfl⟩:=hx
 rw [Arr.dv_eq]
 exact ⟨by simp [DV.flat,DV.cells,DV.leaf],rfl⟩
theorem HX (x:Arr) : Ars [x]=[.ag [.sl (Is x.shape),.sl (Its x.items)]]:=by simp [GP,Arr.dv_eq]
theorem Xg (x y:Arr) : Ars [x,y]=[.ag [.sl (Is x.shape),.sl (Its x.items)],.ag [.sl (Is y.shape),.sl (Its y.items)]]:=by simp [GP,Arr.dv_eq]
theorem A7 : C0 Tryz.prog 39=some false:=by kernel_rfl
theorem G8 : AN Tryz.prog 42=6:=by kernel_rfl
theorem AJ : C0 Tryz.prog 42=some true:=by kernel_rfl
theorem An : AN Tryz.prog 42=6:=by kernel_rfl
theorem B2 : CM Tryz.prog 42 0=some (0,1):=by kernel_rfl
theorem BX : CM Tryz.prog 42 1=some (1,3):=by kernel_rfl
theorem Da : CM Tryz.prog 42 2=some (4,1):=by kernel_rfl
theorem AQ : CM Tryz.prog 42 3=some (5,1):=by kernel_rfl
theorem Fc : EI Tryz.prog 42=some [(0,1),(1,3),(4,1),(5,1)]:=by kernel_rfl
theorem Bv : (Tryz.prog.info? 42).bind (·.zero)=some (.agg #[.int .u8 0,.bool false,.slice none 0 0,.slice none 0 0,.int .i32 0,.slice none 0 0]):=by kernel_rfl
theorem PB (w:World) (I:Nat→Prop) (μ:List Nat) : ARepAll Tryz.prog w I μ [.d (.i .u8 0),.d (.b false),.nl,.nl,.d (.i .i32 0),.nl] (Value.agg #[.int .u8 0,.bool false,.slice none 0 0,.slice none 0 0,.int .i32 0,.slice none 0 0]).cells.toList []:=ARepAll.cons (b1:=[]) (b2:=[]) (.d (.i _ _)) (ARepAll.cons (b1:=[]) (b2:=[]) (.d (.b _)) (ARepAll.cons (b1:=[]) (b2:=[]) (.nl) (ARepAll.cons (b1:=[]) (b2:=[]) (.nl) (ARepAll.cons (b1:=[]) (b2:=[]) (.d (.i _ _)) (ARepAll.cons (b1:=[]) (b2:=[]) (.nl) (.nil))))))
theorem BM (w:World) (I:Nat→Prop) : RepAll w I [.i .u8 0,.b false,.sl [],.sl [],.i .i32 0,.sl []] (Value.agg #[.int .u8 0,.bool false,.slice none 0 0,.slice none 0 0,.int .i32 0,.slice none 0 0]).cells.toList:=.cons (.i _ _) (.cons (.b _) (.cons (.sl0 _ _) (.cons (.sl0 _ _) (.cons (.i _ _) (.cons (.sl0 _ _) (.nil))))))
theorem R6 : AN Tryz.prog 30=2:=by kernel_rfl
theorem Ac : C0 Tryz.prog 30=some true:=by kernel_rfl
theorem Aa : AN Tryz.prog 30=2:=by kernel_rfl
theorem M2 : Xr Tryz.prog 30 1=some false:=by kernel_rfl
theorem Ay : CM Tryz.prog 30 0=some (0,1):=by kernel_rfl
theorem Au : CM Tryz.prog 30 1=some (1,1):=by kernel_rfl
theorem CF : EI Tryz.prog 30=some [(0,1),(1,1)]:=by kernel_rfl
theorem AD : (Tryz.prog.info? 30).bind (·.zero)=some (.agg #[.slice none 0 0,.slice none 0 0]):=by kernel_rfl
theorem Ji (w:World) (I:Nat→Prop) (μ:List Nat) : ARepAll Tryz.prog w I μ [.nl,.nl] (Value.agg #[.slice none 0 0,.slice none 0 0]).cells.toList []:=ARepAll.cons (b1:=[]) (b2:=[]) (.nl) (ARepAll.cons (b1:=[]) (b2:=[]) (.nl) (.nil))
theorem AI (w:World) (I:Nat→Prop) : RepAll w I [.sl [],.sl []] (Value.agg #[.slice none 0 0,.slice none 0 0]).cells.toList:=.cons (.sl0 _ _) (.cons (.sl0 _ _) (.nil))
theorem V4 : C0 Tryz.prog 88=some true:=by kernel_rfl
theorem MR : AN Tryz.prog 88=2:=by kernel_rfl
theorem ME : CM Tryz.prog 88 0=some (0,1):=by kernel_rfl
theorem S5 : CM Tryz.prog 88 1=some (1,1):=by kernel_rfl
theorem Zd : EI Tryz.prog 88=some [(0,1),(1,1)]:=by kernel_rfl
theorem Oq : (Tryz.prog.info? 88).bind (·.zero)=some (.agg #[.int .i64 0,.int .i64 0]):=by kernel_rfl
theorem VQ (w:World) (I:Nat→Prop) (μ:List Nat) : ARepAll Tryz.prog w I μ [.d (.i .i64 0),.d (.i .i64 0)] (Value.agg #[.int .i64 0,.int .i64 0]).cells.toList []:=ARepAll.cons (b1:=[]) (b2:=[]) (.d (.i _ _)) (ARepAll.cons (b1:=[]) (b2:=[]) (.d (.i _ _)) (.nil))
theorem SN (w:World) (I:Nat→Prop) : RepAll w I [.i .i64 0,.i .i64 0] (Value.agg #[.int .i64 0,.int .i64 0]).cells.toList:=.cons (.i _ _) (.cons (.i _ _) (.nil))
theorem Bh : C0 Tryz.prog 27=some false:=by kernel_rfl
theorem OV : AN Tryz.prog 27=1:=by kernel_rfl
theorem VI : (Tryz.prog.info? 27).bind (·.zero)=some (.slice none 0 0):=by kernel_rfl
theorem Vt (w:World) (I:Nat→Prop) (μ:List Nat) : ARepAll Tryz.prog w I μ [.nl] (Value.cells (.slice none 0 0)).toList []:=ARepAll.cons (b1:=[]) (b2:=[]) (.nl) .nil
theorem A2 : D9 Tryz.prog 27=some (3,1,8):=by kernel_rfl
theorem CX : C1 Tryz.prog 27=some (3,1,8,.int .i64 0):=by kernel_rfl
theorem BL : Tryz.prog.underlying 27=some (.slice (Tryz.prog.elem 27)):=by kernel_rfl
theorem IP : (17592186044416:Nat) * 8≤140737488355328∧(17592186044416:Nat)≤9223372036854775807:=by decide
theorem Bp : C0 Tryz.prog 28=some false:=by kernel_rfl
theorem Ib : AN Tryz.prog 28=1:=by kernel_rfl
theorem CL : D9 Tryz.prog 28=some (42,6,96):=by kernel_rfl
theorem BA : C1 Tryz.prog 28=some (42,6,96,.agg #[.int .u8 0,.bool false,.slice none 0 0,.slice none 0 0,.int .i32 0,.slice none 0 0]):=by kernel_rfl
theorem Ce : Tryz.prog.underlying 28=some (.slice (Tryz.prog.elem 28)):=by kernel_rfl
theorem Fk : (1466015503701:Nat) * 96≤140737488355328∧(1466015503701:Nat)≤9223372036854775807:=by decide
theorem BF : C0 Tryz.prog 40=some false:=by kernel_rfl
theorem Rz : AN Tryz.prog 40=1:=by kernel_rfl
theorem DU : D9 Tryz.prog 40=some (30,2,48):=by kernel_rfl
theorem Gt : C1 Tryz.prog 40=some (30,2,48,.agg #[.slice none 0 0,.slice none 0 0]):=by kernel_rfl
theorem Eb : Tryz.prog.underlying 40=some (.slice (Tryz.prog.elem 40)):=by kernel_rfl
theorem RG : (2932031007402:Nat) * 48≤140737488355328∧(2932031007402:Nat)≤9223372036854775807:=by decide
abbrev CK : Type:=FW (Itm) (Bool)
abbrev KT (f:CK) : Prop:=f.OK Tryz.prog (fun x=>[.ag [.i .u8 x.kind,.b x.num.1,.sl (L x.num.2.1),.sl (L x.num.2.2),.i .i32 x.char,.sl (Ars x.box)]]) (fun r=>.d (.b r))
abbrev Ct : Type:=FW (Itm) (Itm)
abbrev Q6 (f:Ct) : Prop:=f.OK Tryz.prog (fun x=>[.ag [.i .u8 x.kind,.b x.num.1,.sl (L x.num.2.1),.sl (L x.num.2.2),.i .i32 x.char,.sl (Ars x.box)]]) (fun r=>.d (.ag [.i .u8 r.kind,.b r.num.1,.sl (L r.num.2.1),.sl (L r.num.2.2),.i .i32 r.char,.sl (Ars r.box)]))
abbrev Co : Type:=FW (Int) (Bool)
abbrev Kt (f:Co) : Prop:=f.OK Tryz.prog (fun x=>[.i .i64 x]) (fun r=>.d (.b r))
abbrev DC : Type:=FW (Itm×Itm) (Bool)
abbrev Lg (f:DC) : Prop:=f.OK Tryz.prog (fun x=>[.ag [.i .u8 x.1.kind,.b x.1.num.1,.sl (L x.1.num.2.1),.sl (L x.1.num.2.2),.i .i32 x.1.char,.sl (Ars x.1.box)],.ag [.i .u8 x.2.kind,.b x.2.num.1,.sl (L x.2.num.2.1),.sl (L x.2.num.2.2),.i .i32 x.2.char,.sl (Ars x.2.box)]]) (fun r=>.d (.b r))
abbrev DA : Type:=FW (Arr×Arr) (Bool)
abbrev Lo (f:DA) : Prop:=f.OK Tryz.prog (fun x=>[.ag [.sl (Is x.1.shape),.sl (Its x.1.items)],.ag [.sl (Is x.2.shape),.sl (Its x.2.items)]]) (fun r=>.d (.b r))
abbrev B4 : Type:=FW (Arr) (Bool)
abbrev KV (f:B4) : Prop:=f.OK Tryz.prog (fun x=>[.ag [.sl (Is x.shape),.sl (Its x.items)]]) (fun r=>.d (.b r))
def pv : List Nat→Nat→Option Nat
 | [],n=>some n
 | c::r,n=>if 48≤c∧c≤57 then pv r (n * 10+(c-48)) else none
def okL (k:Nat) (a:List Nat) : Bool:=a.all (fun x=>decide (x<4294967296))&&decide (a.length≤k)
theorem KS {k:Nat} {a:List Nat} : okL k a=true↔Ok a∧a.length≤k:=by simp [okL,Ok]
def Hq (r:RT) : Bool:=okL 35184372087808 r.2.1&&okL 35184372087808 r.2.2
theorem Hx {r:RT} : Hq r=true↔okR r:=by
 simp only [Hq,Bool.and_eq_true,KS,okR]
 exact ⟨fun ⟨⟨a,b⟩,c,d⟩=>⟨a,c,b,d⟩,fun ⟨a,c,b,d⟩=>⟨⟨a,b⟩,c,d⟩⟩
def Sq : Option (List Nat):=if True then some ([1]) else none
theorem TA {r:List Nat} (h:Sq=some r) : Fn Tryz.prog 105 [] (.own 118 (L r)):=by
 obtain ⟨hc,h⟩:=GX h
 cases h
 exact Nh
def MJ : Option (List Nat):=if True then some ([1]) else none
theorem Nq {r:List Nat} (h:MJ=some r) : Fn Tryz.prog 128 [] (.own 118 (L r)):=by
 obtain ⟨hc,h⟩:=GX h
 cases h
 exact Jh
def Js (a:List Nat) (b:List Nat) : Option (Bool):=if (okL 1048576 a&&okL 35184372087808 b)=true then some (decide (a=b)) else none
theorem J5 {a:List Nat} {b:List Nat} {r:Bool} (h:Js a b=some r) : Fn Tryz.prog 110 [.sl (L a),.sl (L b)] (.d (.b r)):=by
 obtain ⟨hc,h⟩:=GX h
 cases h
 simp only [Bool.and_eq_true,KS] at hc
 exact QY a b hc.1.2 hc.1.1 hc.2.1
def Ke (a:List Nat) : Option (List Nat):=if a.length≤35184372087808 then some (a) else none
theorem Ni {a:List Nat} {r:List Nat} (h:Ke a=some r) : Fn Tryz.prog 142 [.sl (L a)] (.own 118 (L r)):=by
 obtain ⟨hc,h⟩:=GX h
 cases h
 exact Na _ hc
def Kn (a:RT) : Option (Bool):=if Hq a=true then some (EV a) else none
theorem LR {a:RT} {r:Bool} (h:Kn a=some r) : Fn Tryz.prog 147 [.ag [.b a.1,.sl (L a.2.1),.sl (L a.2.2)]] (.d (.b r)):=by
 obtain ⟨hc,h⟩:=GX h
 cases h
 obtain ⟨h1,h2,h3,h4⟩:=Hx.1 hc
 exact Tx h1 h2 h3 h4
def Je (a:RT) : Option (Bool):=if Hq a=true then some (EV a) else none
theorem PF {a:RT} {r:Bool} (h:Je a=some r) : Fn Tryz.prog 125 [.ag [.b a.1,.sl (L a.2.1),.sl (L a.2.2)]] (.d (.b r)):=by
 obtain ⟨hc,h⟩:=GX h
 cases h
 obtain ⟨h1,h2,h3,h4⟩:=Hx.1 hc
 exact US h1 h2 h3 h4
def MP (a:RT) (b:RT) : Option (Bool):=if (decide (a.2.1.length≤35184372087808)&&decide (a.2.2.length≤35184372087808))=true then some (decide (a=b)) else none
theorem Ri {a:RT} {b:RT} {r:Bool} (h:MP a b=some r) : Fn Tryz.prog 66 [.ag [.b a.1,.sl (L a.2.1),.sl (L a.2.2)],.ag [.b b.1,.sl (L b.2.1),.sl (L b.2.2)]] (.d (.b r)):=by
 obtain ⟨hc,h⟩:=GX h
 cases h
 simp only [Bool.and_eq_true,decide_eq_true_eq] at hc
 have:=Ru a.1 b.1 a.2.1 a.2.2 b.2.1 b.2.2 hc.1 hc.2
 rw [decide_eq_decide.2 (show (a.1=b.1∧a.2.1=b.2.1∧a.2.2=b.2.2)↔a=b by
  obtain ⟨a1,a2,a3⟩:=a;obtain ⟨b1,b2,b3⟩:=b;simp)] at this
 exact this
def FJ (z:Int) : Option (RT):=if -9223372036854775808≤z∧z≤9223372036854775807 then some ((decide (z<0),Ao z.natAbs,[1])) else none
theorem II {z:Int} {r:RT} (h:FJ z=some r) : Fn Tryz.prog 62 [.i .i64 z] (.d (.ag [.b r.1,.sl (L r.2.1),.sl (L r.2.2)])):=by
 obtain ⟨hc,h⟩:=GX h
 cases h
 exact V2 hc.1 hc.2
def KB : Option (RT):=if True then some ((false,[],[1])) else none
theorem LS {r:RT} (h:KB=some r) : Fn Tryz.prog 92 [] (.d (.ag [.b r.1,.sl (L r.2.1),.sl (L r.2.2)])):=by
 obtain ⟨hc,h⟩:=GX h
 cases h
 exact Ry
def UZ (n:Int) : Option (List Nat):=if 0≤n∧n<18446744073709551616 then some (Ao n.toNat) else none
theorem SI {n:Int} {r:List Nat} (h:UZ n=some r) : Fn Tryz.prog 127 [.i .u64 n] (.own 118 (L r)):=by
 obtain ⟨hc,h⟩:=GX h
 cases h
 have:=Vx (n:=n.toNat) (by omega)
 rw [Int.toNat_of_nonneg hc.1] at this
 exact this
def Ht (a0:RT) : Option (Bool):=((Kn a0).bind fun x1=>(Option.bind ((if x1=true then (Sq.bind fun x3=>((Js a0.2.2 x3).bind fun x4=>(some x4))) else (some false)) : Option (Bool)) fun (z1:Bool)=>(some (z1))))
theorem Pn {a0:RT} {r:Bool} (h:Ht a0=some r) :
  Fn Tryz.prog 155 [.ag [.b a0.1,.sl (L a0.2.1),.sl (L a0.2.2)]] (.d (.b r)):=by
 unfold Ht at h
 refine Fn.o1 2 11 Tryz.func155 ?_;refine .sr ?_;refine vk vbx ?_;refine ar [1,2] ?_;refine .seq ?_
 obtain ⟨x1,g1,h⟩:=bnd h
 obtain ⟨z1,hz,h⟩:=bnd h
 refine AW.mr (σ:=Unit) (fun _=>True) (fun _=>[(2,.d (.b z1))]) (fun _=>[]) ?_ ?_
 ·skip
  refine .drawn 8 Bw (by kernel_rfl) ?_;refine dv (AC IS GI) ?_;refine dv (Ak (LR g1) Tryz.call147) ?_
  rcases brc hz with ⟨hc,hz⟩|⟨hc,hz⟩
  ·have hb0:x1=true:=hc
   refine dv (VOK.lit (Ah) hb0) ?_;refine dv (vfa Ie) ?_;refine dv (Ai IE) ?_
   obtain ⟨x3,g3,hz⟩:=bnd hz
   refine dv ((Ak (TA g3) Tryz.call105).deep) ?_
   obtain ⟨x4,g4,hz⟩:=bnd hz
   refine dv (Ak (J5 g4) Tryz.call110) ?_;refine dv Ag ?_;refine dz ?_;refine asd ?_;refine RL.gk [2] ?_;refine .nil ?_
   cases hz
   exact jr () trivial
  have hb0:x1=false:=(bf hc)
  refine dv (VOK.lit (Ah) hb0) ?_;refine dgf ?_;refine dgf ?_;refine dgf ?_;refine dgf ?_;refine dv Ag ?_;refine dz ?_;refine asd ?_;refine RL.gk [2] ?_;refine .nil ?_
  cases hz
  exact jr () trivial
 rintro _ _
 refine .ret ?_
 cases h
 exact ⟨rfl,rfl⟩
def A0 (a0:(List Int)) (a1:Co) (K0:Int→Option (Int)) : Nat→Int→Int→Option (Int)
 | 0,_,_=>none
 | k+1,s2,s3=>(if s3<((List.length a0:Nat):Int) then ((rd? a0 s3).bind fun x4=>((a1.g x4).bind fun x5=>(if x5=true then (some (s3)) else (A0 a0 a1 K0 k s2 (w64 (s3+1)))))) else (K0 s2))
def Cn (a0:(List Int)) (a1:Co) : Option (Int):=(jn (fun (z1:Int)=>(some ((-1)))) fun K0=>(A0 a0 a1 K0 Aw 0 0))
theorem F9 {a0:(List Int)} {a1:Co} (oa1:Kt a1) {r:Int} (h:Cn a0 a1=some r) :
  Fn Tryz.prog 117 [.sl (Is a0),a1.dv] (.d (.i .i64 r)):=by
 unfold Cn at h
 refine Fn.o1 4 19 Tryz.func117 ?_;refine .sr ?_;refine ar [0,1,4] ?_;refine .seq ?_;refine .sr ?_;refine va ?_;refine vk (A9 (Af _) (BO _) BL) ?_;refine va ?_;refine rk [0,1,4,7,8] ?_
 obtain ⟨K0,hK0,h⟩:=AF h
 refine AW.mr (σ:=Int) (fun p=>K0 p=some r) (fun p=>[(4,.d (.i .i64 p))]) (fun p=>[]) ?_ ?_
 ·skip
  refine .block ?_
  refine .loop (.gk [0,1,4,7,8] ?_)
  refine AL.ind (σ:=Nat×Int×Int) (m:=fun p=>p.1) (e:=fun p=>[(0,.d (.sl (Is a0))),(1,.d (a1.dv)),(4,.d (.i .i64 p.2.1)),(7,.d (.i .i64 ((List.length a0:Nat):Int))),(8,.d (.i .i64 p.2.2))]) (h:=fun p=>[]) (I:=fun p=>A0 a0 a1 K0 p.1 p.2.1 p.2.2=some r) ?_ (Aw,0,0) h
  rintro ⟨k,s2,s3⟩ h ih
  dsimp only at h ih ⊢
  rcases k with _|k
  ·rw [A0] at h;cases h
  rw [A0] at h
  refine .sr ?_;refine vb ?_;refine rk [0,1,4,7,8,9] ?_;refine .seq ?_
  rcases brc h with ⟨hc,h⟩|⟨hc,h⟩
  ·refine cnt (dT hc) ?_
   refine .sk ?_;refine .seq ?_;refine .block ?_;refine .sr ?_;refine va ?_;refine ar [0,1,4,5,7,8] ?_;refine .sr ?_;refine va ?_;refine va ?_;refine va ?_
   obtain ⟨x4,g4,h⟩:=bnd h
   obtain ⟨n4,p04,q4⟩:=Ae g4
   refine vk (vix n4 p04 (A6 q4) rfl A2) ?_;refine vk (Ai AA) ?_
   obtain ⟨x5,g5,h⟩:=bnd h
   refine vk (RZ (oa1 _ _ g5)) ?_;refine rk [0,1,4,5,7,8,16] ?_
   rcases brc h with ⟨hc,h⟩|⟨hc,h⟩
   ·refine cnt hc ?_
    refine .sr ?_;refine va ?_;refine ar [0,1,4,7,8] ?_;refine .ret ?_
    cases h
    exact ⟨rfl,rfl⟩
   refine cnf (bf hc) ?_;refine .sk ?_;refine .region ?_;refine vb ?_;refine va ?_;refine .nil ?_;refine AL.gk [0,1,4,7,8] ?_
   exact ih (k,s2,(w64 (s3+1))) h (Nat.lt_succ_self _)
  refine cnf (dF hc) ?_;refine .gk [4] ?_;refine .exit ?_
  exact jr (s2) h
 rintro z1 h
 try dsimp only at h ⊢
 subst hK0
 refine aw ?_;refine .sr ?_;refine ar [4] ?_;refine .ret ?_
 cases h
 exact ⟨rfl,rfl⟩
def Bb (a0:(List Int)) (a1:Co) : Option (Bool):=((Cn a0 a1).bind fun x1=>(some ((decide (0≤x1)))))
theorem DB {a0:(List Int)} {a1:Co} (oa1:Kt a1) {r:Bool} (h:Bb a0 a1=some r) :
  Fn Tryz.prog 68 [.sl (Is a0),a1.dv] (.d (.b r)):=by
 unfold Bb at h
 refine Fn.o1 4 9 Tryz.func68 ?_;refine .sr ?_;refine ar [0,1,4] ?_;refine .sr ?_;refine va ?_;refine va ?_
 obtain ⟨x1,g1,h⟩:=bnd h
 refine vk (Ak (F9 oa1 g1) Tryz.call117) ?_;refine vb ?_;refine ar [4] ?_;refine .ret ?_
 cases h
 exact ⟨rfl,rfl⟩
def Bf (a0:(List Int)) (a1:Int) (K0:Int→Option (Int)) : Nat→Int→Int→Option (Int)
 | 0,_,_=>none
 | k+1,s2,s3=>(if s3<((List.length a0:Nat):Int) then ((rd? a0 s3).bind fun x4=>(if a1=x4 then (some (s3)) else (Bf a0 a1 K0 k s2 (w64 (s3+1))))) else (K0 s2))
def Db (a0:(List Int)) (a1:Int) : Option (Int):=(jn (fun (z1:Int)=>(some ((-1)))) fun K0=>(Bf a0 a1 K0 Aw 0 0))
theorem Hk {a0:(List Int)} {a1:Int} {r:Int} (h:Db a0 a1=some r) :
  Fn Tryz.prog 118 [.sl (Is a0),.i .i64 a1] (.d (.i .i64 r)):=by
 unfold Db at h
 refine Fn.o1 4 19 Tryz.func118 ?_;refine .sr ?_;refine ar [0,1,4] ?_;refine .seq ?_;refine .sr ?_;refine va ?_;refine vk (A9 (Af _) (BO _) BL) ?_;refine va ?_;refine rk [0,1,4,7,8] ?_
 obtain ⟨K0,hK0,h⟩:=AF h
 refine AW.mr (σ:=Int) (fun p=>K0 p=some r) (fun p=>[(4,.d (.i .i64 p))]) (fun p=>[]) ?_ ?_
 ·skip
  refine .block ?_
  refine .loop (.gk [0,1,4,7,8] ?_)
  refine AL.ind (σ:=Nat×Int×Int) (m:=fun p=>p.1) (e:=fun p=>[(0,.d (.sl (Is a0))),(1,.d (.i .i64 a1)),(4,.d (.i .i64 p.2.1)),(7,.d (.i .i64 ((List.length a0:Nat):Int))),(8,.d (.i .i64 p.2.2))]) (h:=fun p=>[]) (I:=fun p=>Bf a0 a1 K0 p.1 p.2.1 p.2.2=some r) ?_ (Aw,0,0) h
  rintro ⟨k,s2,s3⟩ h ih
  dsimp only at h ih ⊢
  rcases k with _|k
  ·rw [Bf] at h;cases h
  rw [Bf] at h
  refine .sr ?_;refine vb ?_;refine rk [0,1,4,7,8,9] ?_;refine .seq ?_
  rcases brc h with ⟨hc,h⟩|⟨hc,h⟩
  ·refine cnt (dT hc) ?_
   refine .sk ?_;refine .seq ?_;refine .block ?_;refine .sr ?_;refine va ?_;refine ar [0,1,4,5,7,8] ?_;refine .sr ?_;refine va ?_;refine va ?_;refine va ?_
   obtain ⟨x4,g4,h⟩:=bnd h
   obtain ⟨n4,p04,q4⟩:=Ae g4
   refine vk (vix n4 p04 (A6 q4) rfl A2) ?_;refine vk (Ai AA) ?_;refine vb ?_;refine rk [0,1,4,5,7,8,16] ?_
   rcases brc h with ⟨hc,h⟩|⟨hc,h⟩
   ·refine cnt (dT hc) ?_
    refine .sr ?_;refine va ?_;refine ar [0,1,4,7,8] ?_;refine .ret ?_
    cases h
    exact ⟨rfl,rfl⟩
   refine cnf (dF hc) ?_;refine .sk ?_;refine .region ?_;refine vb ?_;refine va ?_;refine .nil ?_;refine AL.gk [0,1,4,7,8] ?_
   exact ih (k,s2,(w64 (s3+1))) h (Nat.lt_succ_self _)
  refine cnf (dF hc) ?_;refine .gk [4] ?_;refine .exit ?_
  exact jr (s2) h
 rintro z1 h
 try dsimp only at h ⊢
 subst hK0
 refine aw ?_;refine .sr ?_;refine ar [4] ?_;refine .ret ?_
 cases h
 exact ⟨rfl,rfl⟩
def BU (a0:(List Int)) (a1:Int) : Option (Bool):=((Db a0 a1).bind fun x1=>(some ((decide (0≤x1)))))
theorem Gx {a0:(List Int)} {a1:Int} {r:Bool} (h:BU a0 a1=some r) :
  Fn Tryz.prog 71 [.sl (Is a0),.i .i64 a1] (.d (.b r)):=by
 unfold BU at h
 refine Fn.o1 4 9 Tryz.func71 ?_;refine .sr ?_;refine ar [0,1,4] ?_;refine .sr ?_;refine va ?_;refine va ?_
 obtain ⟨x1,g1,h⟩:=bnd h
 refine vk (Ak (Hk g1) Tryz.call118) ?_;refine vb ?_;refine ar [4] ?_;refine .ret ?_
 cases h
 exact ⟨rfl,rfl⟩
def HP (a0:Int) : Option (Bool):=(some ((decide (a0<0))))
theorem Md {a0:Int} {r:Bool} (h:HP a0=some r) :
  Fn Tryz.prog 69 [.i .i64 a0] (.d (.b r)):=by
 unfold HP at h
 refine Fn.o1 2 5 Tryz.func69 ?_;refine .sr ?_;refine ar [0,2] ?_;refine .sr ?_;refine va ?_;refine vb ?_;refine ar [2] ?_;refine .ret ?_
 cases h
 exact ⟨rfl,rfl⟩
def HM (a0:Int) : Option (Bool):=(some ((decide (4096<a0))))
theorem Mr {a0:Int} {r:Bool} (h:HM a0=some r) :
  Fn Tryz.prog 70 [.i .i64 a0] (.d (.b r)):=by
 unfold HM at h
 refine Fn.o1 2 5 Tryz.func70 ?_;refine .sr ?_;refine ar [0,2] ?_;refine .sr ?_;refine va ?_;refine vb ?_;refine ar [2] ?_;refine .ret ?_
 cases h
 exact ⟨rfl,rfl⟩
def Dj (a0:(List Int)) (K0:Int→Int→Int→Option (Int×Int)) : Nat→Int→Int→Int→Int→Option (Int×Int)
 | 0,_,_,_,_=>none
 | k+1,s7,s8,s9,s10=>(if s10<((List.length a0:Nat):Int) then ((rd? a0 s10).bind fun x11=>((E5 (s9≠0)).bind fun x12=>(if (w64 (Int.tdiv 4096 s9))<x11 then (some (0,8)) else (Dj a0 K0 k s7 s8 (w64 (s9 * x11)) (w64 (s10+1)))))) else (K0 s7 s8 s9))
def D0 (a0:(List Int)) : Option (Int×Int):=(if 8<((List.length a0:Nat) : Int) then (some (0,4)) else ((Bb a0 (⟨.fn 69 [] [],fun x=>HP x⟩ : Co)).bind fun x1=>(if x1=true then (some (0,3)) else ((Bb a0 (⟨.fn 70 [] [],fun x=>HM x⟩ : Co)).bind fun x2=>(if x2=true then (some (0,8)) else ((BU a0 0).bind fun x3=>(if x3=true then (some (0,0)) else (jn (fun (z4:Int) (z5:Int) (z6:Int)=>(some (z6,0))) fun K0=>(Dj a0 K0 Aw 0 0 1 0)))))))))
theorem ED {a0:(List Int)} {r:Int×Int} (h:D0 a0=some r) :
  Fn Tryz.prog 34 [.sl (Is a0)] (.tup [.d (.i .i64 r.1),.d (.i .i64 r.2)]):=by
 unfold D0 at h
 refine Fn.of (rs:=[.tmp 2,.tmp 3]) (nt:=35) Tryz.func34 rfl rfl rfl (by simp) rfl ?_;refine .sr ?_;refine asd ?_;refine ar [0,2,3] ?_;refine .seq ?_;refine .block ?_;refine .sr ?_;refine va ?_;refine vk (A9 (Af _) (BO _) BL) ?_;refine vb ?_;refine ar [0,2,3,7] ?_
 rcases brc h with ⟨hc,h⟩|⟨hc,h⟩
 ·refine cnt (dT hc) ?_
  refine .sr ?_;refine asd ?_;refine ar [0,2,3] ?_;refine .ret ?_
  cases h
  exact ⟨by decide,rfl,rfl,rfl⟩
 refine cnf (dF hc) ?_;refine .sr ?_;refine va ?_
 obtain ⟨x1,g1,h⟩:=bnd h
 refine vk (Ak (DB (IA Tryz.call69 (fun _ _ h=>Md h)) g1) Tryz.call68) ?_;refine ar [0,2,3,11] ?_
 rcases brc h with ⟨hc,h⟩|⟨hc,h⟩
 ·refine cnt hc ?_
  refine .sr ?_;refine asd ?_;refine ar [0,2,3] ?_;refine .ret ?_
  cases h
  exact ⟨by decide,rfl,rfl,rfl⟩
 refine cnf (bf hc) ?_;refine .sr ?_;refine va ?_
 obtain ⟨x2,g2,h⟩:=bnd h
 refine vk (Ak (DB (IA Tryz.call70 (fun _ _ h=>Mr h)) g2) Tryz.call68) ?_;refine ar [0,2,3,14] ?_
 rcases brc h with ⟨hc,h⟩|⟨hc,h⟩
 ·refine cnt hc ?_
  refine .sr ?_;refine asd ?_;refine ar [0,2,3] ?_;refine .ret ?_
  cases h
  exact ⟨by decide,rfl,rfl,rfl⟩
 refine cnf (bf hc) ?_;refine .sr ?_;refine va ?_
 obtain ⟨x3,g3,h⟩:=bnd h
 refine vk (Ak (Gx g3) Tryz.call71) ?_;refine ar [0,2,3,17] ?_
 rcases brc h with ⟨hc,h⟩|⟨hc,h⟩
 ·refine cnt hc ?_
  refine .sr ?_;refine asd ?_;refine ar [0,2,3] ?_;refine .ret ?_
  cases h
  exact ⟨by decide,rfl,rfl,rfl⟩
 refine cnf (bf hc) ?_;refine .sk ?_;refine .sr ?_;refine ar [0,2,3,4] ?_;refine .seq ?_;refine .sr ?_;refine va ?_;refine vk (A9 (Af _) (BO _) BL) ?_;refine va ?_;refine rk [2,3,4,20,21,22] ?_
 obtain ⟨K0,hK0,h⟩:=AF h
 refine AW.mr (σ:=Int×Int×Int) (fun p=>K0 p.1 p.2.1 p.2.2=some r) (fun p=>[(2,.d (.i .i64 p.1)),(3,.d (.i .i64 p.2.1)),(4,.d (.i .i64 p.2.2))]) (fun p=>[]) ?_ ?_
 ·skip
  refine .block ?_
  refine .loop (.gk [2,3,4,20,21,22] ?_)
  refine AL.ind (σ:=Nat×Int×Int×Int×Int) (m:=fun p=>p.1) (e:=fun p=>[(2,.d (.i .i64 p.2.1)),(3,.d (.i .i64 p.2.2.1)),(4,.d (.i .i64 p.2.2.2.1)),(20,.d (.sl (Is a0))),(21,.d (.i .i64 ((List.length a0:Nat):Int))),(22,.d (.i .i64 p.2.2.2.2))]) (h:=fun p=>[]) (I:=fun p=>Dj a0 K0 p.1 p.2.1 p.2.2.1 p.2.2.2.1 p.2.2.2.2=some r) ?_ (Aw,0,0,1,0) h
  rintro ⟨k,s7,s8,s9,s10⟩ h ih
  dsimp only at h ih ⊢
  rcases k with _|k
  ·rw [Dj] at h;cases h
  rw [Dj] at h
  refine .sr ?_;refine vb ?_;refine rk [2,3,4,20,21,22,23] ?_;refine .seq ?_
  rcases brc h with ⟨hc,h⟩|⟨hc,h⟩
  ·refine cnt (dT hc) ?_
   refine .sk ?_;refine .seq ?_;refine .block ?_;refine .sr ?_
   obtain ⟨x11,g11,h⟩:=bnd h
   obtain ⟨n11,p011,q11⟩:=Ae g11
   refine vk (vix n11 p011 (A6 q11) rfl A2) ?_;refine vk (Ai AA) ?_;refine ar [2,3,4,6,20,21,22] ?_;refine .seq ?_;refine .sr ?_;refine va ?_;refine va ?_
   obtain ⟨x12,g12,h⟩:=bnd h
   refine vk (NK (EP g12)) ?_;refine vb ?_;refine rk [2,3,4,6,20,21,22,29] ?_
   rcases brc h with ⟨hc,h⟩|⟨hc,h⟩
   ·refine cnt (dT hc) ?_
    refine .sr ?_;refine asd ?_;refine ar [2,3,4,6,20,21,22] ?_;refine .ret ?_
    cases h
    exact ⟨by decide,rfl,rfl,rfl⟩
   refine cnf (dF hc) ?_;refine .sk ?_;refine .region ?_;refine va ?_;refine va ?_;refine vb ?_;refine asd ?_;refine .nil ?_;refine aw ?_;refine .gk [2,3,4,20,21,22] ?_;refine .region ?_;refine vb ?_;refine va ?_;refine .nil ?_;refine AL.gk [2,3,4,20,21,22] ?_
   exact ih (k,s7,s8,(w64 (s9 * x11)),(w64 (s10+1))) h (Nat.lt_succ_self _)
  refine cnf (dF hc) ?_;refine .gk [2,3,4] ?_;refine .exit ?_
  exact jr (s7,s8,s9) h
 rintro ⟨z4,z5,z6⟩ h
 try dsimp only at h ⊢
 subst hK0
 refine aw ?_;refine .sr ?_;refine va ?_;refine asd ?_;refine ar [2,3] ?_;refine .ret ?_
 cases h
 exact ⟨by decide,rfl,rfl,rfl⟩
def DE (a0:Arr) : Option (Bool):=(Option.bind ((if ((List.length a0.shape:Nat) : Int)=0 then (if ((List.length a0.items:Nat) : Int)=1 then ((rd? a0.items 0).bind fun x2=>(some (!(decide (x2.kind=3))))) else (some false)) else (some false)) : Option (Bool)) fun (z1:Bool)=>(some (z1)))
theorem GV {a0:Arr} {r:Bool} (h:DE a0=some r) :
  Fn Tryz.prog 144 [.ag [.sl (Is a0.shape),.sl (Its a0.items)]] (.d (.b r)):=by
 unfold DE at h
 refine Fn.o1 2 21 Tryz.func144 ?_;refine .sr ?_;refine vk vbx ?_;refine ar [1,2] ?_;refine .seq ?_
 obtain ⟨z1,hz,h⟩:=bnd h
 refine AW.mr (σ:=Unit) (fun _=>True) (fun _=>[(2,.d (.b z1))]) (fun _=>[]) ?_ ?_
 ·skip
  refine .region ?_;refine vk (vfa Ay) ?_;refine vk (Ai Bh) ?_;refine vk (A9 (Af _) (BO _) BL) ?_;refine vb ?_
  rcases brc hz with ⟨hc,hz⟩|⟨hc,hz⟩
  ·have hb0:(decide (((List.length a0.shape:Nat):Int)=0))=true:=(dT hc)
   refine vL hb0 ?_;refine vk (vfa Au) ?_;refine vk (Ai Bp) ?_;refine vk (A9 (Aq _) (CC _) Ce) ?_;refine vb ?_;refine vk Ag ?_
   rcases brc hz with ⟨hc,hz⟩|⟨hc,hz⟩
   ·have hb1:(decide (((List.length a0.items:Nat):Int)=1))=true:=(dT hc)
    refine vL hb1 ?_;refine vk (vfa Au) ?_;refine vk (Ai Bp) ?_
    obtain ⟨x2,g2,hz⟩:=bnd hz
    obtain ⟨n2,p02,q2⟩:=Ae g2
    refine vk (vix n2 p02 (CJ q2) rfl CL) ?_;refine vk (vfa B2) ?_;refine vk (Ai A7) ?_;refine vb ?_;refine vk Ag ?_;refine asd ?_;refine RL.gk [2] ?_;refine .nil ?_
    cases hz
    exact jr () trivial
   have hb1:(decide (((List.length a0.items:Nat):Int)=1))=false:=(dF hc)
   refine vL hb1 ?_;refine gf4 ?_;refine gf2 ?_;refine vk Ag ?_;refine asd ?_;refine RL.gk [2] ?_;refine .nil ?_
   cases hz
   exact jr () trivial
  have hb0:(decide (((List.length a0.shape:Nat):Int)=0))=false:=(dF hc)
  refine vL hb0 ?_;refine gf4 ?_;refine vk Ag ?_;refine va ?_;refine gf4 ?_;refine gf2 ?_;refine vk Ag ?_;refine asd ?_;refine RL.gk [2] ?_;refine .nil ?_
  cases hz
  exact jr () trivial
 rintro _ _
 refine .ret ?_
 cases h
 exact ⟨rfl,rfl⟩
def Gb (a0:Int) : Option (Bool):=(some (((decide (0≤a0))&&((decide (a0≤1114111))&&((decide (a0<55296))||(decide (57343<a0)))))))
theorem Mv {a0:Int} {r:Bool} (h:Gb a0=some r) :
  Fn Tryz.prog 148 [.i .i32 a0] (.d (.b r)):=by
 unfold Gb at h
 refine Fn.o1 2 17 Tryz.func148 ?_;refine .sr ?_;refine ar [0,2] ?_;refine .seq ?_;refine AW.mr (σ:=Unit) (fun _=>True) (fun _=>[(2,.d (.b ((decide (0≤a0))&&((decide (a0≤1114111))&&((decide (a0<55296))||(decide (57343<a0)))))))]) (fun _=>[]) ?_ ?_
 ·skip
  refine .region ?_;refine va ?_;refine vb ?_
  by_cases hc:0≤a0
  ·have hb0:(decide (0≤a0))=true:=(dT hc)
   refine vL hb0 ?_;refine va ?_;refine vb ?_;refine vk Ag ?_
   by_cases hc:a0≤1114111
   ·have hb1:(decide (a0≤1114111))=true:=(dT hc)
    refine vL hb1 ?_;refine va ?_;refine vb ?_
    by_cases hc:a0<55296
    ·have hb2:(decide (a0<55296))=true:=(dT hc)
     refine vL hb2 ?_;refine gf2 ?_;refine vk Ag ?_;refine vk Ag ?_;refine asd ?_;refine RL.gk [2] ?_;refine .nil ?_
     exact jr () trivial (by simp only [hb0,hb1,hb2];rfl)
    have hb2:(decide (a0<55296))=false:=(dF hc)
    refine vL hb2 ?_;refine va ?_;refine vb ?_;refine vk Ag ?_;refine vk Ag ?_;refine asd ?_;refine RL.gk [2] ?_;refine .nil ?_
    exact jr () trivial (by simp only [hb0,hb1,hb2];rfl)
   have hb1:(decide (a0≤1114111))=false:=(dF hc)
   refine vL hb1 ?_;refine gf2 ?_;refine gfu ?_;refine gf3 ?_;refine vk Ag ?_;refine asd ?_;refine RL.gk [2] ?_;refine .nil ?_
   exact jr () trivial (by simp only [hb0,hb1];rfl)
  have hb0:(decide (0≤a0))=false:=(dF hc)
  refine vL hb0 ?_;refine gf2 ?_;refine vk Ag ?_;refine va ?_;refine gf2 ?_;refine gfu ?_;refine gf3 ?_;refine vk Ag ?_;refine asd ?_;refine RL.gk [2] ?_;refine .nil ?_
  exact jr () trivial (by simp only [hb0];rfl)
 rintro _ _
 refine .ret ?_
 cases h
 exact ⟨rfl,rfl⟩
theorem YB : 0<AN Tryz.prog 3:=by rw [Dh];decide
def EN (a:(List Int)) : Option ((List Int)):=ap? 17592186044416 [] a
theorem G9 {a r:(List Int)} (h:EN a=some r) : Fn Tryz.prog 75 [.sl (Is a)] (.own 3 (Is r)):=by
 unfold EN at h
 refine Fn.o1 2 8 Tryz.func75 ?_;refine .sr ?_;refine asn ?_;refine rn ?_;refine .seq ?_;refine .sr ?_;refine mvd ?_
 refine nq (fun b hb=>?_) (BO _) BL
 refine rn ?_
 refine cnd (fun hc=>?_) (fun hc=>?_)
 ·simp only [if_true] at hc
  have h0:Is a=[]:=by
   apply Classical.byContradiction
   intro h;rw [hb h] at hc;cases hc
  have h1:r=[]:=by
   have:=(KY h).2
   rw [this,List.nil_append]
   exact List.length_eq_zero_iff.1 (by rw [← Af a,h0];rfl)
  subst h1
  refine .sr ?_;refine asn ?_;refine rn ?_;refine .gh (Gh.nlOwn (t:=2) 3 YB rfl) ?_;refine .ret ?_
  exact ⟨rfl,rfl⟩
 ·refine .sk ?_
  refine .sr ?_;refine vk (C6 (ds':=Is []) rfl (Eu []) CX) ?_;refine mvd ?_
  refine XU J1 h IP ?_ F4 Af CX
  refine aso ?_;refine rn ?_;refine .ret ?_
  exact ⟨rfl,rfl⟩
def C9 (a0:RT) : Option (RT):=((Ke a0.2.1).bind fun x1=>((Ke a0.2.2).bind fun x2=>(some ((a0.1,x1,x2)))))
theorem Gp {a0:RT} {r:RT} (h:C9 a0=some r) :
  Fn Tryz.prog 103 [.ag [.b a0.1,.sl (L a0.2.1),.sl (L a0.2.2)]] (.d (.ag [.b r.1,.sl (L r.2.1),.sl (L r.2.2)])):=by
 unfold C9 at h
 refine Fn.ofC (rs:=[.cell 2 24]) (nt:=12) Tryz.func103 rfl rfl rfl (by simp) rfl ?_;refine .sr ?_;refine vk vbx ?_;refine vk (van (Aj QN) RY) ?_;refine rk [1,2] ?_;refine .seq ?_;refine .drawn 9 Bw (by kernel_rfl) ?_;refine dv (vfa G0) ?_;refine dv (Ai FC) ?_;refine dv (vfa Hd) ?_;refine dv (Ai IE) ?_
 obtain ⟨x1,g1,h⟩:=bnd h
 refine dv ((Ak (Ni g1) Tryz.call142).deep) ?_;refine dv (vfa Ie) ?_;refine dv (Ai IE) ?_
 obtain ⟨x2,g2,h⟩:=bnd h
 refine dv ((Ak (Ni g2) Tryz.call142).deep) ?_;refine dv (vbd W0 QN RY) ?_;refine dz ?_
 refine stn ?_ GI (by decide)
 refine rk [2] ?_;refine .ret ?_
 cases h
 exact ⟨_,⟨.inr rfl,IS,GI,p3⟩,rfl⟩
def CH (a0:RT) : Option (Itm):=((C9 a0).bind fun x1=>(some ((Itm.mk 1 x1 0 []))))
theorem FZ {a0:RT} {r:Itm} (h:CH a0=some r) :
  Fn Tryz.prog 61 [.ag [.b a0.1,.sl (L a0.2.1),.sl (L a0.2.2)]] (.d (.ag [.i .u8 r.kind,.b r.num.1,.sl (L r.num.2.1),.sl (L r.num.2.2),.i .i32 r.char,.sl (Ars r.box)])):=by
 unfold CH at h
 refine Fn.ofC (rs:=[.cell 2 42]) (nt:=6) Tryz.func61 rfl rfl rfl (by simp) rfl ?_;refine .sr ?_;refine vk vbx ?_;refine vk (van (Aj Bv) BM) ?_;refine rk [1,2] ?_;refine .sr ?_;refine vk (AC IS GI) ?_
 obtain ⟨x1,g1,h⟩:=bnd h
 refine vk (Ak (Gp g1) Tryz.call103) ?_;refine vk (vbd Fc Bv BM) ?_
 refine stn ?_ An (by decide)
 refine rk [2] ?_;refine .ret ?_
 cases h
 exact ⟨_,⟨.inr rfl,AJ,An,p6⟩,rfl⟩
def JP (a0:Int) : Option (Itm):=(some ((Itm.mk 2 (false,[],[]) a0 [])))
theorem N9 {a0:Int} {r:Itm} (h:JP a0=some r) :
  Fn Tryz.prog 121 [.i .i32 a0] (.d (.ag [.i .u8 r.kind,.b r.num.1,.sl (L r.num.2.1),.sl (L r.num.2.2),.i .i32 r.char,.sl (Ars r.box)])):=by
 unfold JP at h
 refine Fn.ofC (rs:=[.cell 2 42]) (nt:=5) Tryz.func121 rfl rfl rfl (by simp) rfl ?_;refine .sr ?_;refine vk (van (Aj Bv) BM) ?_;refine rk [0,2] ?_;refine .sr ?_;refine va ?_;refine vk (vbd Fc Bv BM) ?_
 refine stn ?_ An (by decide)
 refine rk [2] ?_;refine .ret ?_
 cases h
 exact ⟨_,⟨.inr rfl,AJ,An,p6⟩,rfl⟩
def CE (a0:Arr) (a1:Ct) (K0:(List Int)→(List Itm)→Option (Arr)) : Nat→Int→(List Int)→(List Itm)→Option (Arr)
 | 0,_,_,_=>none
 | k+1,s4,s5,s6=>(if s4<((List.length a0.items:Nat):Int) then ((rd? a0.items s4).bind fun x7=>((a1.g x7).bind fun x8=>((ap? 1466015503701 s6 [x8]).bind fun x9=>(CE a0 a1 K0 k (w64 (s4+1)) s5 x9)))) else (K0 s5 s6))
def CI (a0:Arr) (a1:Ct) : Option (Arr):=((EN a0.shape).bind fun x1=>(jn (fun (z2:(List Int)) (z3:(List Itm))=>(some ((Arr.mk z2 z3)))) fun K0=>(CE a0 a1 K0 Aw 0 x1 [])))
theorem EJ {a0:Arr} {a1:Ct} (oa1:Q6 a1) {r:Arr} (h:CI a0 a1=some r) :
  Fn Tryz.prog 122 [.ag [.sl (Is a0.shape),.sl (Its a0.items)],a1.dv] (.d (.ag [.sl (Is r.shape),.sl (Its r.items)])):=by
 unfold CI at h
 refine Fn.ofC (rs:=[.cell 4 30]) (nt:=29) Tryz.func122 rfl rfl rfl (by simp) rfl ?_;refine .sr ?_;refine vk vbx ?_;refine vk (van (Aj AD) AI) ?_;refine rk [1,2,4] ?_;refine .sr ?_;refine vk (vfa Ay) ?_;refine vk (Ai Bh) ?_
 obtain ⟨x1,g1,h⟩:=bnd h
 refine vk ((Ak (G9 g1) Tryz.call75).deep) ?_;refine vk (Ur CF AD (fun w I μ=>Ji w I μ)) ?_;refine vk (van (Aj AD) AI) ?_
 refine TD ?_ Aa (by decide)
 refine rk [1,2,4,5] ?_;refine .seq ?_;refine .sr ?_;refine vk (vfa Au) ?_;refine vk (Ai Bp) ?_;refine vk (A9 (Aq _) (CC _) Ce) ?_;refine va ?_;refine rk [1,4,5,13,14,15] ?_
 obtain ⟨K0,hK0,h⟩:=AF h
 refine AW.mr (σ:=(List Int)×(List Itm)) (fun p=>K0 p.1 p.2=some r) (fun p=>[(4,.nb [.sl (Is []),.sl (Its [])]),(5,.bp 0 0)]) (fun p=>[HO.box [.d (.sl (Is p.1)),.own 42 (Its p.2)]]) ?_ ?_
 ·skip
  refine .block ?_;refine .gh (Gh.nlOwnC (id:=0) (off:=1) 42 (by rw [G8];decide)) ?_
  refine .loop (.gk [1,4,5,13,14,15] ?_)
  refine AL.ind (σ:=Nat×Int×(List Int)×(List Itm)) (m:=fun p=>p.1) (e:=fun p=>[(1,.d (a1.dv)),(4,.nb [.sl (Is []),.sl (Its [])]),(5,.bp 0 0),(13,.d (.sl (Its a0.items))),(14,.d (.i .i64 ((List.length a0.items:Nat):Int))),(15,.d (.i .i64 p.2.1))]) (h:=fun p=>[HO.box [.d (.sl (Is p.2.2.1)),.own 42 (Its p.2.2.2)]]) (I:=fun p=>CE a0 a1 K0 p.1 p.2.1 p.2.2.1 p.2.2.2=some r) ?_ (Aw,0,x1,[]) h
  rintro ⟨k,s4,s5,s6⟩ h ih
  dsimp only at h ih ⊢
  rcases k with _|k
  ·rw [CE] at h;cases h
  rw [CE] at h
  refine .sr ?_;refine vb ?_;refine rk [1,4,5,13,14,15,16] ?_;refine .seq ?_
  rcases brc h with ⟨hc,h⟩|⟨hc,h⟩
  ·refine cnt (dT hc) ?_
   refine .sk ?_;refine .seq ?_;refine .block ?_;refine .sr ?_
   obtain ⟨x7,g7,h⟩:=bnd h
   obtain ⟨n7,p07,q7⟩:=Ae g7
   refine vk (vix n7 p07 (CJ q7) rfl CL) ?_;refine vk (AC AJ An) ?_;refine vk (van (Aj Bv) BM) ?_
   refine stn ?_ An (by decide)
   refine rk [1,4,5,7,13,14,15] ?_;refine .drawn 6 Bw (by kernel_rfl) ?_;refine dv (DX Au) ?_;refine dv (LQ (cs:=[.d (.sl (Is s5)),.own 42 (Its s6)]) rfl rfl Bp) ?_;refine dv Ah ?_;refine dv (Jw AJ An) ?_
   obtain ⟨x8,g8,h⟩:=bnd h
   refine dv (RZ (oa1 _ _ g8)) ?_;refine dv ((C6 (Cz x8) (BW [x8]) BA).deep) ?_;refine dz ?_
   obtain ⟨x9,g9,h⟩:=bnd h
   refine NY Ew g9 rfl rfl Fk ?_ Ee Aq BA
   refine RL.gk [1,4,5,7,13,14,15,19,21,22,23,24,25] ?_;refine vk (DX Au) ?_
   refine H6 (cs:=[.d (.sl (Is s5)),.un]) (c:=.un) rfl rfl ?_ Ib
   refine .nil ?_;refine aw ?_;refine .gk [1,4,5,13,14,15] ?_;refine .region ?_;refine vb ?_;refine va ?_;refine .nil ?_;refine AL.gk [1,4,5,13,14,15] ?_
   exact ih (k,(w64 (s4+1)),s5,x9) h (Nat.lt_succ_self _)
  refine cnf (dF hc) ?_;refine .gk [4,5] ?_;refine .exit ?_
  exact jr (s5,s6) h
 rintro ⟨z2,z3⟩ h
 try dsimp only at h ⊢
 subst hK0
 refine aw ?_;refine .sr ?_;refine fz (p:=.c 0 1) ?_;refine vk (GT (cs:=[.d (.sl (Is z2)),.d (.sl (Its z3))]) (ds:=[.sl (Is z2),.sl (Its z3)]) rfl Ac Aa) ?_
 refine stn ?_ Aa (by decide)
 refine rk [4] ?_;refine .ret ?_
 cases h
 exact ⟨_,⟨.inr rfl,Ac,Aa,p2⟩,rfl⟩
def Ej (rc_array_same:Itm→Option (Itm)) (a0:Itm) (K0:Int→Bool→(List Nat)→(List Nat)→Int→(List Arr)→Option (Itm)) : Nat→Int→Int→Bool→(List Nat)→(List Nat)→Int→(List Arr)→Option (Itm)
 | 0,_,_,_,_,_,_,_=>none
 | k+1,s8,s9,s10,s11,s12,s13,s14=>(if s8<((List.length a0.box:Nat):Int) then ((rd? a0.box s8).bind fun x15=>((CI x15 (⟨.fn 78 [] [],fun x=>rc_array_same x⟩:Ct)).bind fun x16=>((ap? 2932031007402 s14 [x16]).bind fun x17=>(Ej rc_array_same a0 K0 k (w64 (s8+1)) s9 s10 s11 s12 s13 x17)))) else (K0 s9 s10 s11 s12 s13 s14))
def IY (rc_array_same:Itm→Option (Itm)) (a0:Itm) : Option (Itm):=((C9 a0.num).bind fun x1=>(jn (fun (z2:Int) (z3:Bool) (z4:(List Nat)) (z5:(List Nat)) (z6:Int) (z7:(List Arr))=>(some ((Itm.mk z2 (z3,z4,z5) z6 z7)))) fun K0=>(Ej rc_array_same a0 K0 Aw 0 a0.kind x1.1 x1.2.1 x1.2.2 a0.char [])))
theorem QH {rc_array_same:Itm→Option (Itm)} (orc_array_same:∀ x0 r,rc_array_same x0=some r→Fn Tryz.prog 78 [.ag [.i .u8 x0.kind,.b x0.num.1,.sl (L x0.num.2.1),.sl (L x0.num.2.2),.i .i32 x0.char,.sl (Ars x0.box)]] (.d (.ag [.i .u8 r.kind,.b r.num.1,.sl (L r.num.2.1),.sl (L r.num.2.2),.i .i32 r.char,.sl (Ars r.box)]))) {a0:Itm} {r:Itm} (h:IY rc_array_same a0=some r) :
  Fn Tryz.prog 78 [.ag [.i .u8 a0.kind,.b a0.num.1,.sl (L a0.num.2.1),.sl (L a0.num.2.2),.i .i32 a0.char,.sl (Ars a0.box)]] (.d (.ag [.i .u8 r.kind,.b r.num.1,.sl (L r.num.2.1),.sl (L r.num.2.2),.i .i32 r.char,.sl (Ars r.box)])):=by
 unfold IY at h
 refine Fn.ofC (rs:=[.cell 2 42]) (nt:=30) Tryz.func78 rfl rfl rfl (by simp) rfl ?_;refine .sr ?_;refine vk vbx ?_;refine vk (van (Aj Bv) BM) ?_;refine rk [1,2] ?_;refine .seq ?_;refine .drawn 9 Bw (by kernel_rfl) ?_;refine dv (vfa B2) ?_;refine dv (Ai A7) ?_;refine dv (vfa Da) ?_;refine dv (Ai Dc) ?_;refine dv (vfa BX) ?_;refine dv (AC IS GI) ?_
 obtain ⟨x1,g1,h⟩:=bnd h
 refine dv (Ak (Gp g1) Tryz.call103) ?_;refine dv (Ur Fc Bv (fun w I μ=>PB w I μ)) ?_;refine dv (van (Aj Bv) BM) ?_;refine dz ?_
 refine TD ?_ An (by decide)
 refine rk [1,2,3] ?_;refine .seq ?_;refine .sr ?_;refine vk (vfa AQ) ?_;refine vk (Ai BF) ?_;refine vk (A9 (Ba _) (Ea _) Eb) ?_;refine va ?_;refine rk [2,3,15,16,17] ?_
 obtain ⟨K0,hK0,h⟩:=AF h
 refine AW.mr (σ:=Int×Bool×(List Nat)×(List Nat)×Int×(List Arr)) (fun p=>K0 p.1 p.2.1 p.2.2.1 p.2.2.2.1 p.2.2.2.2.1 p.2.2.2.2.2=some r) (fun p=>[(2,.nb [.i .u8 0,.b false,.sl (L []),.sl (L []),.i .i32 0,.sl (Ars [])]),(3,.bp 0 0)]) (fun p=>[HO.box [.d (.i .u8 p.1),.d (.b p.2.1),.d (.sl (L p.2.2.1)),.d (.sl (L p.2.2.2.1)),.d (.i .i32 p.2.2.2.2.1),.own 30 (Ars p.2.2.2.2.2)]]) ?_ ?_
 ·skip
  refine .block ?_;refine .gh (Gh.nlOwnC (id:=0) (off:=5) 30 (by rw [R6];decide)) ?_
  refine .loop (.gk [2,3,15,16,17] ?_)
  refine AL.ind (σ:=Nat×Int×Int×Bool×(List Nat)×(List Nat)×Int×(List Arr)) (m:=fun p=>p.1) (e:=fun p=>[(2,.nb [.i .u8 0,.b false,.sl (L []),.sl (L []),.i .i32 0,.sl (Ars [])]),(3,.bp 0 0),(15,.d (.sl (Ars a0.box))),(16,.d (.i .i64 ((List.length a0.box:Nat):Int))),(17,.d (.i .i64 p.2.1))]) (h:=fun p=>[HO.box [.d (.i .u8 p.2.2.1),.d (.b p.2.2.2.1),.d (.sl (L p.2.2.2.2.1)),.d (.sl (L p.2.2.2.2.2.1)),.d (.i .i32 p.2.2.2.2.2.2.1),.own 30 (Ars p.2.2.2.2.2.2.2)]]) (I:=fun p=>Ej rc_array_same a0 K0 p.1 p.2.1 p.2.2.1 p.2.2.2.1 p.2.2.2.2.1 p.2.2.2.2.2.1 p.2.2.2.2.2.2.1 p.2.2.2.2.2.2.2=some r) ?_ (Aw,0,a0.kind,x1.1,x1.2.1,x1.2.2,a0.char,[]) h
  rintro ⟨k,s8,s9,s10,s11,s12,s13,s14⟩ h ih
  dsimp only at h ih ⊢
  rcases k with _|k
  ·rw [Ej] at h;cases h
  rw [Ej] at h
  refine .sr ?_;refine vb ?_;refine rk [2,3,15,16,17,18] ?_;refine .seq ?_
  rcases brc h with ⟨hc,h⟩|⟨hc,h⟩
  ·refine cnt (dT hc) ?_
   refine .sk ?_;refine .seq ?_;refine .block ?_;refine .sr ?_
   obtain ⟨x15,g15,h⟩:=bnd h
   obtain ⟨n15,p015,q15⟩:=Ae g15
   refine vk (vix n15 p015 (D1 q15) rfl DU) ?_;refine vk (AC Ac Aa) ?_;refine vk (van (Aj AD) AI) ?_
   refine stn ?_ Aa (by decide)
   refine rk [2,3,5,15,16,17] ?_;refine .drawn 5 Bw (by kernel_rfl) ?_;refine dv (DX AQ) ?_;refine dv (LQ (cs:=[.d (.i .u8 s9),.d (.b s10),.d (.sl (L s11)),.d (.sl (L s12)),.d (.i .i32 s13),.own 30 (Ars s14)]) rfl rfl BF) ?_;refine dv (Jw Ac Aa) ?_
   obtain ⟨x16,g16,h⟩:=bnd h
   refine dv (Ak (EJ (IA Tryz.call78 (fun _ _ h=>orc_array_same _ _ h)) g16) Tryz.call122) ?_;refine dv ((C6 (HX x16) (FQ [x16]) Gt).deep) ?_;refine dz ?_
   obtain ⟨x17,g17,h⟩:=bnd h
   refine NY Pv g17 rfl rfl RG ?_ MC Ba Gt
   refine RL.gk [2,3,5,15,16,17,21,23,24,25,26] ?_;refine vk (DX AQ) ?_
   refine H6 (cs:=[.d (.i .u8 s9),.d (.b s10),.d (.sl (L s11)),.d (.sl (L s12)),.d (.i .i32 s13),.un]) (c:=.un) rfl rfl ?_ Rz
   refine .nil ?_;refine aw ?_;refine .gk [2,3,15,16,17] ?_;refine .region ?_;refine vb ?_;refine va ?_;refine .nil ?_;refine AL.gk [2,3,15,16,17] ?_
   exact ih (k,(w64 (s8+1)),s9,s10,s11,s12,s13,x17) h (Nat.lt_succ_self _)
  refine cnf (dF hc) ?_;refine .gk [2,3] ?_;refine .exit ?_
  exact jr (s9,s10,s11,s12,s13,s14) h
 rintro ⟨z2,z3,z4,z5,z6,z7⟩ h
 try dsimp only at h ⊢
 subst hK0
 refine aw ?_;refine .sr ?_;refine fz (p:=.c 0 5) ?_;refine vk (GT (cs:=[.d (.i .u8 z2),.d (.b z3),.d (.sl (L z4)),.d (.sl (L z5)),.d (.i .i32 z6),.d (.sl (Ars z7))]) (ds:=[.i .u8 z2,.b z3,.sl (L z4),.sl (L z5),.i .i32 z6,.sl (Ars z7)]) rfl AJ An) ?_
 refine stn ?_ An (by decide)
 refine rk [2] ?_;refine .ret ?_
 cases h
 exact ⟨_,⟨.inr rfl,AJ,An,p6⟩,rfl⟩
def Fw : Nat→Itm→Option (Itm)
 | 0,_=>none
 | k+1,a0=>IY (Fw k) a0
theorem KM : ∀ (k:Nat) (a0:Itm) (r:Itm),Fw k a0=some r→Fn Tryz.prog 78 [.ag [.i .u8 a0.kind,.b a0.num.1,.sl (L a0.num.2.1),.sl (L a0.num.2.2),.i .i32 a0.char,.sl (Ars a0.box)]] (.d (.ag [.i .u8 r.kind,.b r.num.1,.sl (L r.num.2.1),.sl (L r.num.2.2),.i .i32 r.char,.sl (Ars r.box)]))
 | 0,_,_,h=>by cases h
 | k+1,a0,_,h=>QH (KM k) (show IY (Fw k) a0=some _ from h)
def Ij (a0:Itm) : Option (Itm):=Fw (a0.size+1) a0
theorem JN {a0:Itm} {r:Itm} (h:Ij a0=some r) : Fn Tryz.prog 78 [.ag [.i .u8 a0.kind,.b a0.num.1,.sl (L a0.num.2.1),.sl (L a0.num.2.2),.i .i32 a0.char,.sl (Ars a0.box)]] (.d (.ag [.i .u8 r.kind,.b r.num.1,.sl (L r.num.2.1),.sl (L r.num.2.2),.i .i32 r.char,.sl (Ars r.box)])):=KM _ a0 r h
def Hi (rc_array_typed:Itm→Option (Itm)) (a0:Itm) : Option (Itm):=(if a0.kind=1 then ((FJ 0).bind fun x1=>((CH x1).bind fun x2=>(some (x2)))) else (if a0.kind=2 then ((JP 32).bind fun x3=>(some (x3))) else ((rd? a0.box 0).bind fun x4=>((CI x4 (⟨.fn 76 [] [],fun x=>rc_array_typed x⟩ : Ct)).bind fun x5=>(some ((Itm.mk 3 (false,[],[]) 0 [x5])))))))
theorem P6 {rc_array_typed:Itm→Option (Itm)} (orc_array_typed:∀ x0 r,rc_array_typed x0=some r→Fn Tryz.prog 76 [.ag [.i .u8 x0.kind,.b x0.num.1,.sl (L x0.num.2.1),.sl (L x0.num.2.2),.i .i32 x0.char,.sl (Ars x0.box)]] (.d (.ag [.i .u8 r.kind,.b r.num.1,.sl (L r.num.2.1),.sl (L r.num.2.2),.i .i32 r.char,.sl (Ars r.box)]))) {a0:Itm} {r:Itm} (h:Hi rc_array_typed a0=some r) :
  Fn Tryz.prog 76 [.ag [.i .u8 a0.kind,.b a0.num.1,.sl (L a0.num.2.1),.sl (L a0.num.2.2),.i .i32 a0.char,.sl (Ars a0.box)]] (.d (.ag [.i .u8 r.kind,.b r.num.1,.sl (L r.num.2.1),.sl (L r.num.2.2),.i .i32 r.char,.sl (Ars r.box)])):=by
 unfold Hi at h
 refine Fn.ofC (rs:=[.cell 2 42]) (nt:=19) Tryz.func76 rfl rfl rfl (by simp) rfl ?_;refine .sr ?_;refine vk vbx ?_;refine vk (van (Aj Bv) BM) ?_;refine rk [1,2] ?_;refine .seq ?_;refine .sr ?_;refine vk (vfa B2) ?_;refine vk (Ai A7) ?_;refine rk [1,2,4] ?_;refine .block ?_;refine .sr ?_;refine vb ?_;refine ar [1,2,4,5] ?_
 rcases brc h with ⟨hc,h⟩|⟨hc,h⟩
 ·refine cnt (dT hc) ?_
  refine .sr ?_
  obtain ⟨x1,g1,h⟩:=bnd h
  refine vk (Ak (II g1) Tryz.call62) ?_
  obtain ⟨x2,g2,h⟩:=bnd h
  refine vk (Ak (FZ g2) Tryz.call61) ?_
  refine stn ?_ An (by decide)
  refine rk [1,2] ?_;refine .ret ?_
  cases h
  exact ⟨_,⟨.inr rfl,AJ,An,p6⟩,rfl⟩
 refine cnf (dF hc) ?_;refine .sr ?_;refine vb ?_;refine ar [1,2,9] ?_
 rcases brc h with ⟨hc,h⟩|⟨hc,h⟩
 ·refine cnt (dT hc) ?_
  refine .sr ?_
  obtain ⟨x3,g3,h⟩:=bnd h
  refine vk (Ak (N9 g3) Tryz.call121) ?_
  refine stn ?_ An (by decide)
  refine rk [1,2] ?_;refine .ret ?_
  cases h
  exact ⟨_,⟨.inr rfl,AJ,An,p6⟩,rfl⟩
 refine cnf (dF hc) ?_;refine .sk ?_;refine .sr ?_;refine vk (vfa AQ) ?_;refine vk (Ai BF) ?_
 obtain ⟨x4,g4,h⟩:=bnd h
 obtain ⟨n4,p04,q4⟩:=Ae g4
 refine vk (vix n4 p04 (D1 q4) rfl DU) ?_;refine vk (AC Ac Aa) ?_
 obtain ⟨x5,g5,h⟩:=bnd h
 refine vk (Ak (EJ (IA Tryz.call76 (fun _ _ h=>orc_array_typed _ _ h)) g5) Tryz.call122) ?_;refine vk ((C6 (HX x5) (FQ [x5]) Gt).deep) ?_;refine vk (vbd Fc Bv BM) ?_
 refine stn ?_ An (by decide)
 refine rk [2] ?_;refine .ret ?_
 cases h
 exact ⟨_,⟨.inr rfl,AJ,An,p6⟩,rfl⟩
def Fx : Nat→Itm→Option (Itm)
 | 0,_=>none
 | k+1,a0=>Hi (Fx k) a0
theorem JH : ∀ (k:Nat) (a0:Itm) (r:Itm),Fx k a0=some r→Fn Tryz.prog 76 [.ag [.i .u8 a0.kind,.b a0.num.1,.sl (L a0.num.2.1),.sl (L a0.num.2.2),.i .i32 a0.char,.sl (Ars a0.box)]] (.d (.ag [.i .u8 r.kind,.b r.num.1,.sl (L r.num.2.1),.sl (L r.num.2.2),.i .i32 r.char,.sl (Ars r.box)]))
 | 0,_,_,h=>by cases h
 | k+1,a0,_,h=>P6 (JH k) (show Hi (Fx k) a0=some _ from h)
def KC (a0:Itm) : Option (Itm):=Fx (a0.size+1) a0
theorem L4 {a0:Itm} {r:Itm} (h:KC a0=some r) : Fn Tryz.prog 76 [.ag [.i .u8 a0.kind,.b a0.num.1,.sl (L a0.num.2.1),.sl (L a0.num.2.2),.i .i32 a0.char,.sl (Ars a0.box)]] (.d (.ag [.i .u8 r.kind,.b r.num.1,.sl (L r.num.2.1),.sl (L r.num.2.2),.i .i32 r.char,.sl (Ars r.box)])):=JH _ a0 r h
def BR (a0:(List Int)) (a1:(List Int)) (K0:Bool→Option (Bool)) : Nat→Bool→Int→Option (Bool)
 | 0,_,_=>none
 | k+1,s2,s3=>(if s3<((List.length a0:Nat):Int) then ((rd? a0 s3).bind fun x4=>((rd? a1 s3).bind fun x5=>(if x4=x5 then (BR a0 a1 K0 k s2 (w64 (s3+1))) else (some (false))))) else (K0 s2))
def Ep (a0:(List Int)) (a1:(List Int)) : Option (Bool):=(if ((List.length a0:Nat) : Int)=((List.length a1:Nat) : Int) then (jn (fun (z1:Bool)=>(some (true))) fun K0=>(BR a0 a1 K0 Aw false 0)) else (some (false)))
theorem HB {a0:(List Int)} {a1:(List Int)} {r:Bool} (h:Ep a0 a1=some r) :
  Fn Tryz.prog 107 [.sl (Is a0),.sl (Is a1)] (.d (.b r)):=by
 unfold Ep at h
 refine Fn.o1 4 26 Tryz.func107 ?_;refine .sr ?_;refine ar [0,1,4] ?_;refine .seq ?_;refine .sr ?_;refine va ?_;refine vk (A9 (Af _) (BO _) BL) ?_;refine va ?_;refine vk (A9 (Af _) (BO _) BL) ?_;refine vb ?_;refine rk [0,1,4,10] ?_
 rcases brc h with ⟨hc,h⟩|⟨hc,h⟩
 ·refine cnf (ntf (dT hc)) ?_
  refine .sk ?_;refine .seq ?_;refine .sr ?_;refine va ?_;refine vk (A9 (Af _) (BO _) BL) ?_;refine va ?_;refine rk [0,1,4,12,13] ?_
  obtain ⟨K0,hK0,h⟩:=AF h
  refine AW.mr (σ:=Bool) (fun p=>K0 p=some r) (fun p=>[(4,.d (.b p))]) (fun p=>[]) ?_ ?_
  ·skip
   refine .block ?_
   refine .loop (.gk [0,1,4,12,13] ?_)
   refine AL.ind (σ:=Nat×Bool×Int) (m:=fun p=>p.1) (e:=fun p=>[(0,.d (.sl (Is a0))),(1,.d (.sl (Is a1))),(4,.d (.b p.2.1)),(12,.d (.i .i64 ((List.length a0:Nat):Int))),(13,.d (.i .i64 p.2.2))]) (h:=fun p=>[]) (I:=fun p=>BR a0 a1 K0 p.1 p.2.1 p.2.2=some r) ?_ (Aw,false,0) h
   rintro ⟨k,s2,s3⟩ h ih
   dsimp only at h ih ⊢
   rcases k with _|k
   ·rw [BR] at h;cases h
   rw [BR] at h
   refine .sr ?_;refine vb ?_;refine rk [0,1,4,12,13,14] ?_;refine .seq ?_
   rcases brc h with ⟨hc,h⟩|⟨hc,h⟩
   ·refine cnt (dT hc) ?_
    refine .sk ?_;refine .seq ?_;refine .block ?_;refine .sr ?_;refine va ?_;refine ar [0,1,4,5,12,13] ?_;refine .seq ?_;refine .drawn 9 Bw (by kernel_rfl) ?_;refine dv Ah ?_;refine dv Ah ?_
    obtain ⟨x4,g4,h⟩:=bnd h
    obtain ⟨n4,p04,q4⟩:=Ae g4
    refine dv (vix n4 p04 (A6 q4) rfl A2) ?_;refine dv (Ai AA) ?_;refine dv Ah ?_;refine dv Ah ?_
    obtain ⟨x5,g5,h⟩:=bnd h
    obtain ⟨n5,p05,q5⟩:=Ae g5
    refine dv (vix n5 p05 (A6 q5) rfl A2) ?_;refine dv (Ai AA) ?_;refine dv vbi ?_;refine dz ?_;refine rk [0,1,4,12,13,24] ?_
    rcases brc h with ⟨hc,h⟩|⟨hc,h⟩
    ·refine cnf (ntf (dT hc)) ?_
     refine .sk ?_;refine .region ?_;refine vb ?_;refine va ?_;refine .nil ?_;refine AL.gk [0,1,4,12,13] ?_
     exact ih (k,s2,(w64 (s3+1))) h (Nat.lt_succ_self _)
    refine cnt (ntt (dF hc)) ?_;refine .sr ?_;refine ar [0,1,4,12,13] ?_;refine .ret ?_
    cases h
    exact ⟨rfl,rfl⟩
   refine cnf (dF hc) ?_;refine .gk [4] ?_;refine .exit ?_
   exact jr (s2) h
  rintro z1 h
  try dsimp only at h ⊢
  subst hK0
  refine aw ?_;refine .sr ?_;refine ar [4] ?_;refine .ret ?_
  cases h
  exact ⟨rfl,rfl⟩
 refine cnt (ntt (dF hc)) ?_;refine .sr ?_;refine ar [0,1,4] ?_;refine .ret ?_
 cases h
 exact ⟨rfl,rfl⟩
def Ar (a0:(List Itm)) (a1:(List Itm)) (a2:DC) (K0:Bool→Option (Bool)) : Nat→Bool→Int→Option (Bool)
 | 0,_,_=>none
 | k+1,s2,s3=>(if s3<((List.length a0:Nat):Int) then ((rd? a0 s3).bind fun x4=>((rd? a1 s3).bind fun x5=>((a2.g (x4,x5)).bind fun x6=>(if x6=true then (Ar a0 a1 a2 K0 k s2 (w64 (s3+1))) else (some (false)))))) else (K0 s2))
def AZ (a0:(List Itm)) (a1:(List Itm)) (a2:DC) : Option (Bool):=(if ((List.length a0:Nat) : Int)=((List.length a1:Nat) : Int) then (jn (fun (z1:Bool)=>(some (true))) fun K0=>(Ar a0 a1 a2 K0 Aw false 0)) else (some (false)))
theorem Cy {a0:(List Itm)} {a1:(List Itm)} {a2:DC} (oa2:Lg a2) {r:Bool} (h:AZ a0 a1 a2=some r) :
  Fn Tryz.prog 108 [.sl (Its a0),.sl (Its a1),a2.dv] (.d (.b r)):=by
 unfold AZ at h
 refine Fn.o1 6 32 Tryz.func108 ?_;refine .sr ?_;refine ar [0,1,2,6] ?_;refine .seq ?_;refine .sr ?_;refine va ?_;refine vk (A9 (Aq _) (CC _) Ce) ?_;refine va ?_;refine vk (A9 (Aq _) (CC _) Ce) ?_;refine vb ?_;refine rk [0,1,2,6,14] ?_
 rcases brc h with ⟨hc,h⟩|⟨hc,h⟩
 ·refine cnf (ntf (dT hc)) ?_
  refine .sk ?_;refine .seq ?_;refine .sr ?_;refine va ?_;refine vk (A9 (Aq _) (CC _) Ce) ?_;refine va ?_;refine rk [1,2,6,15,16,17] ?_
  obtain ⟨K0,hK0,h⟩:=AF h
  refine AW.mr (σ:=Bool) (fun p=>K0 p=some r) (fun p=>[(6,.d (.b p))]) (fun p=>[]) ?_ ?_
  ·skip
   refine .block ?_
   refine .loop (.gk [1,2,6,15,16,17] ?_)
   refine AL.ind (σ:=Nat×Bool×Int) (m:=fun p=>p.1) (e:=fun p=>[(1,.d (.sl (Its a1))),(2,.d (a2.dv)),(6,.d (.b p.2.1)),(15,.d (.sl (Its a0))),(16,.d (.i .i64 ((List.length a0:Nat):Int))),(17,.d (.i .i64 p.2.2))]) (h:=fun p=>[]) (I:=fun p=>Ar a0 a1 a2 K0 p.1 p.2.1 p.2.2=some r) ?_ (Aw,false,0) h
   rintro ⟨k,s2,s3⟩ h ih
   dsimp only at h ih ⊢
   rcases k with _|k
   ·rw [Ar] at h;cases h
   rw [Ar] at h
   refine .sr ?_;refine vb ?_;refine rk [1,2,6,15,16,17,18] ?_;refine .seq ?_
   rcases brc h with ⟨hc,h⟩|⟨hc,h⟩
   ·refine cnt (dT hc) ?_
    refine .sk ?_;refine .seq ?_;refine .block ?_;refine .sr ?_;refine va ?_
    obtain ⟨x4,g4,h⟩:=bnd h
    obtain ⟨n4,p04,q4⟩:=Ae g4
    refine vk (vix n4 p04 (CJ q4) rfl CL) ?_;refine vk (AC AJ An) ?_;refine vk (van (Aj Bv) BM) ?_;refine asd ?_
    refine stn ?_ An (by decide)
    refine rk [1,2,6,7,8,15,16,17] ?_;refine .sr ?_;refine va ?_;refine va ?_
    obtain ⟨x5,g5,h⟩:=bnd h
    obtain ⟨n5,p05,q5⟩:=Ae g5
    refine vk (vix n5 p05 (CJ q5) rfl CL) ?_;refine vk (AC AJ An) ?_;refine vk (van (Aj Bv) BM) ?_
    refine stn ?_ An (by decide)
    refine rk [1,2,6,8,9,15,16,17] ?_;refine .sr ?_;refine va ?_;refine vk (Jw AJ An) ?_;refine vk (Jw AJ An) ?_
    obtain ⟨x6,g6,h⟩:=bnd h
    refine vk (RZ (oa2 _ _ g6)) ?_;refine vk vnt ?_;refine rk [1,2,6,15,16,17,30] ?_
    rcases brc h with ⟨hc,h⟩|⟨hc,h⟩
    ·refine cnf (ntf hc) ?_
     refine .sk ?_;refine .region ?_;refine vb ?_;refine va ?_;refine .nil ?_;refine AL.gk [1,2,6,15,16,17] ?_
     exact ih (k,s2,(w64 (s3+1))) h (Nat.lt_succ_self _)
    refine cnt (ntt (bf hc)) ?_;refine .sr ?_;refine ar [1,2,6,15,16,17] ?_;refine .ret ?_
    cases h
    exact ⟨rfl,rfl⟩
   refine cnf (dF hc) ?_;refine .gk [6] ?_;refine .exit ?_
   exact jr (s2) h
  rintro z1 h
  try dsimp only at h ⊢
  subst hK0
  refine aw ?_;refine .sr ?_;refine ar [6] ?_;refine .ret ?_
  cases h
  exact ⟨rfl,rfl⟩
 refine cnt (ntt (dF hc)) ?_;refine .sr ?_;refine ar [0,1,2,6] ?_;refine .ret ?_
 cases h
 exact ⟨rfl,rfl⟩
def Ap (a0:(List Arr)) (a1:(List Arr)) (a2:DA) (K0:Bool→Option (Bool)) : Nat→Bool→Int→Option (Bool)
 | 0,_,_=>none
 | k+1,s2,s3=>(if s3<((List.length a0:Nat):Int) then ((rd? a0 s3).bind fun x4=>((rd? a1 s3).bind fun x5=>((a2.g (x4,x5)).bind fun x6=>(if x6=true then (Ap a0 a1 a2 K0 k s2 (w64 (s3+1))) else (some (false)))))) else (K0 s2))
def AR (a0:(List Arr)) (a1:(List Arr)) (a2:DA) : Option (Bool):=(if ((List.length a0:Nat) : Int)=((List.length a1:Nat) : Int) then (jn (fun (z1:Bool)=>(some (true))) fun K0=>(Ap a0 a1 a2 K0 Aw false 0)) else (some (false)))
theorem Cd {a0:(List Arr)} {a1:(List Arr)} {a2:DA} (oa2:Lo a2) {r:Bool} (h:AR a0 a1 a2=some r) :
  Fn Tryz.prog 111 [.sl (Ars a0),.sl (Ars a1),a2.dv] (.d (.b r)):=by
 unfold AR at h
 refine Fn.o1 6 32 Tryz.func111 ?_;refine .sr ?_;refine ar [0,1,2,6] ?_;refine .seq ?_;refine .sr ?_;refine va ?_;refine vk (A9 (Ba _) (Ea _) Eb) ?_;refine va ?_;refine vk (A9 (Ba _) (Ea _) Eb) ?_;refine vb ?_;refine rk [0,1,2,6,14] ?_
 rcases brc h with ⟨hc,h⟩|⟨hc,h⟩
 ·refine cnf (ntf (dT hc)) ?_
  refine .sk ?_;refine .seq ?_;refine .sr ?_;refine va ?_;refine vk (A9 (Ba _) (Ea _) Eb) ?_;refine va ?_;refine rk [1,2,6,15,16,17] ?_
  obtain ⟨K0,hK0,h⟩:=AF h
  refine AW.mr (σ:=Bool) (fun p=>K0 p=some r) (fun p=>[(6,.d (.b p))]) (fun p=>[]) ?_ ?_
  ·skip
   refine .block ?_
   refine .loop (.gk [1,2,6,15,16,17] ?_)
   refine AL.ind (σ:=Nat×Bool×Int) (m:=fun p=>p.1) (e:=fun p=>[(1,.d (.sl (Ars a1))),(2,.d (a2.dv)),(6,.d (.b p.2.1)),(15,.d (.sl (Ars a0))),(16,.d (.i .i64 ((List.length a0:Nat):Int))),(17,.d (.i .i64 p.2.2))]) (h:=fun p=>[]) (I:=fun p=>Ap a0 a1 a2 K0 p.1 p.2.1 p.2.2=some r) ?_ (Aw,false,0) h
   rintro ⟨k,s2,s3⟩ h ih
   dsimp only at h ih ⊢
   rcases k with _|k
   ·rw [Ap] at h;cases h
   rw [Ap] at h
   refine .sr ?_;refine vb ?_;refine rk [1,2,6,15,16,17,18] ?_;refine .seq ?_
   rcases brc h with ⟨hc,h⟩|⟨hc,h⟩
   ·refine cnt (dT hc) ?_
    refine .sk ?_;refine .seq ?_;refine .block ?_;refine .sr ?_;refine va ?_
    obtain ⟨x4,g4,h⟩:=bnd h
    obtain ⟨n4,p04,q4⟩:=Ae g4
    refine vk (vix n4 p04 (D1 q4) rfl DU) ?_;refine vk (AC Ac Aa) ?_;refine vk (van (Aj AD) AI) ?_;refine asd ?_
    refine stn ?_ Aa (by decide)
    refine rk [1,2,6,7,8,15,16,17] ?_;refine .sr ?_;refine va ?_;refine va ?_
    obtain ⟨x5,g5,h⟩:=bnd h
    obtain ⟨n5,p05,q5⟩:=Ae g5
    refine vk (vix n5 p05 (D1 q5) rfl DU) ?_;refine vk (AC Ac Aa) ?_;refine vk (van (Aj AD) AI) ?_
    refine stn ?_ Aa (by decide)
    refine rk [1,2,6,8,9,15,16,17] ?_;refine .sr ?_;refine va ?_;refine vk (Jw Ac Aa) ?_;refine vk (Jw Ac Aa) ?_
    obtain ⟨x6,g6,h⟩:=bnd h
    refine vk (RZ (oa2 _ _ g6)) ?_;refine vk vnt ?_;refine rk [1,2,6,15,16,17,30] ?_
    rcases brc h with ⟨hc,h⟩|⟨hc,h⟩
    ·refine cnf (ntf hc) ?_
     refine .sk ?_;refine .region ?_;refine vb ?_;refine va ?_;refine .nil ?_;refine AL.gk [1,2,6,15,16,17] ?_
     exact ih (k,s2,(w64 (s3+1))) h (Nat.lt_succ_self _)
    refine cnt (ntt (bf hc)) ?_;refine .sr ?_;refine ar [1,2,6,15,16,17] ?_;refine .ret ?_
    cases h
    exact ⟨rfl,rfl⟩
   refine cnf (dF hc) ?_;refine .gk [6] ?_;refine .exit ?_
   exact jr (s2) h
  rintro z1 h
  try dsimp only at h ⊢
  subst hK0
  refine aw ?_;refine .sr ?_;refine ar [6] ?_;refine .ret ?_
  cases h
  exact ⟨rfl,rfl⟩
 refine cnt (ntt (dF hc)) ?_;refine .sr ?_;refine ar [0,1,2,6] ?_;refine .ret ?_
 cases h
 exact ⟨rfl,rfl⟩
def LC (rc_array_equal:Arr→Arr→Option (Bool)) (a0:Itm) (a1:Itm) : Option (Bool):=(if a0.kind=a1.kind then (Option.bind ((if a0.char=a1.char then (if (a0.num.1 == a1.num.1)=true then ((Js a0.num.2.1 a1.num.2.1).bind fun x2=>(if x2=true then ((Js a0.num.2.2 a1.num.2.2).bind fun x3=>(if x3=true then ((AR a0.box a1.box (⟨.fn 65 [] [],fun x=>rc_array_equal x.1 x.2⟩ : DA)).bind fun x4=>(some x4)) else (some false))) else (some false))) else (some false)) else (some false)) : Option (Bool)) fun (z1:Bool)=>(some (z1))) else (some (false)))
theorem PI {rc_array_equal:Arr→Arr→Option (Bool)} (orc_array_equal:∀ x0 x1 r,rc_array_equal x0 x1=some r→Fn Tryz.prog 65 [.ag [.sl (Is x0.shape),.sl (Its x0.items)],.ag [.sl (Is x1.shape),.sl (Its x1.items)]] (.d (.b r))) {a0:Itm} {a1:Itm} {r:Bool} (h:LC rc_array_equal a0 a1=some r) :
  Fn Tryz.prog 109 [.ag [.i .u8 a0.kind,.b a0.num.1,.sl (L a0.num.2.1),.sl (L a0.num.2.2),.i .i32 a0.char,.sl (Ars a0.box)],.ag [.i .u8 a1.kind,.b a1.num.1,.sl (L a1.num.2.1),.sl (L a1.num.2.2),.i .i32 a1.char,.sl (Ars a1.box)]] (.d (.b r)):=by
 unfold LC at h
 refine Fn.o1 4 50 Tryz.func109 ?_;refine .sr ?_;refine vk vbx ?_;refine vk vbx ?_;refine ar [2,3,4] ?_;refine .seq ?_;refine .sr ?_;refine vk (vfa B2) ?_;refine vk (Ai A7) ?_;refine rk [2,3,4,6] ?_;refine .block ?_;refine .sr ?_;refine vk (vfa B2) ?_;refine vk (Ai A7) ?_;refine vb ?_;refine ar [2,3,4,7] ?_
 rcases brc h with ⟨hc,h⟩|⟨hc,h⟩
 ·refine cnt (dT hc) ?_
  refine .seq ?_
  obtain ⟨z1,hz,h⟩:=bnd h
  refine AW.mr (σ:=Unit) (fun _=>True) (fun _=>[(4,.d (.b z1))]) (fun _=>[]) ?_ ?_
  ·skip
   refine .region ?_;refine vk (vfa Da) ?_;refine vk (Ai Dc) ?_;refine vk (vfa Da) ?_;refine vk (Ai Dc) ?_;refine vb ?_
   rcases brc hz with ⟨hc,hz⟩|⟨hc,hz⟩
   ·have hb0:(decide (a0.char=a1.char))=true:=(dT hc)
    refine vL hb0 ?_;refine vk (vfa BX) ?_;refine vk (vfa G0) ?_;refine vk (Ai FC) ?_;refine vk (vfa BX) ?_;refine vk (vfa G0) ?_;refine vk (Ai FC) ?_;refine vk (YI (.inl rfl) bo) ?_;refine vk Ag ?_
    rcases brc hz with ⟨hc,hz⟩|⟨hc,hz⟩
    ·have hb1:(a0.num.1 == a1.num.1)=true:=hc
     refine vL hb1 ?_;refine vk (vfa BX) ?_;refine vk (vfa Hd) ?_;refine vk (Ai IE) ?_;refine vk (vfa BX) ?_;refine vk (vfa Hd) ?_;refine vk (Ai IE) ?_
     obtain ⟨x2,g2,hz⟩:=bnd hz
     refine vk (Ak (J5 g2) Tryz.call110) ?_;refine vk Ag ?_
     rcases brc hz with ⟨hc,hz⟩|⟨hc,hz⟩
     ·have hb2:x2=true:=hc
      refine vL hb2 ?_;refine vk (vfa BX) ?_;refine vk (vfa Ie) ?_;refine vk (Ai IE) ?_;refine vk (vfa BX) ?_;refine vk (vfa Ie) ?_;refine vk (Ai IE) ?_
      obtain ⟨x3,g3,hz⟩:=bnd hz
      refine vk (Ak (J5 g3) Tryz.call110) ?_;refine vk Ag ?_
      rcases brc hz with ⟨hc,hz⟩|⟨hc,hz⟩
      ·have hb3:x3=true:=hc
       refine vL hb3 ?_;refine vk (vfa AQ) ?_;refine vk (Ai BF) ?_;refine vk (vfa AQ) ?_;refine vk (Ai BF) ?_
       obtain ⟨x4,g4,hz⟩:=bnd hz
       refine vk (Ak (Cd (IA Tryz.call65 (fun _ _ h=>orc_array_equal _ _ _ h)) g4) Tryz.call111) ?_;refine vk Ag ?_;refine asd ?_;refine RL.gk [4] ?_;refine .nil ?_
       cases hz
       exact jr () trivial
      have hb3:x3=false:=(bf hc)
      refine vL hb3 ?_;refine gf4 ?_;refine gf ?_;refine vk Ag ?_;refine asd ?_;refine RL.gk [4] ?_;refine .nil ?_
      cases hz
      exact jr () trivial
     have hb2:x2=false:=(bf hc)
     refine vL hb2 ?_;refine gf4 ?_;refine gf3 ?_;refine vk Ag ?_;refine va ?_;refine gf4 ?_;refine gf ?_;refine vk Ag ?_;refine asd ?_;refine RL.gk [4] ?_;refine .nil ?_
     cases hz
     exact jr () trivial
    have hb1:(a0.num.1 == a1.num.1)=false:=(bf hc)
    refine vL hb1 ?_;refine gf4 ?_;refine gf3 ?_;refine vk Ag ?_;refine va ?_;refine gf4 ?_;refine gf3 ?_;refine vk Ag ?_;refine va ?_;refine gf4 ?_;refine gf ?_;refine vk Ag ?_;refine asd ?_;refine RL.gk [4] ?_;refine .nil ?_
    cases hz
    exact jr () trivial
   have hb0:(decide (a0.char=a1.char))=false:=(dF hc)
   refine vL hb0 ?_;refine gf4 ?_;refine gf3 ?_;refine vk Ag ?_;refine va ?_;refine gf4 ?_;refine gf3 ?_;refine vk Ag ?_;refine va ?_;refine gf4 ?_;refine gf3 ?_;refine vk Ag ?_;refine va ?_;refine gf4 ?_;refine gf ?_;refine vk Ag ?_;refine asd ?_;refine RL.gk [4] ?_;refine .nil ?_
   cases hz
   exact jr () trivial
  rintro _ _
  refine .ret ?_
  cases h
  exact ⟨rfl,rfl⟩
 refine cnf (dF hc) ?_;refine .sk ?_;refine .sr ?_;refine ar [4] ?_;refine .ret ?_
 cases h
 exact ⟨rfl,rfl⟩
def Jg (rc_array_equal:Arr→Arr→Option (Bool)) (a0:Arr) (a1:Arr) : Option (Bool):=((Ep a0.shape a1.shape).bind fun x1=>(Option.bind ((if x1=true then ((AZ a0.items a1.items (⟨.fn 109 [] [],fun x=>LC rc_array_equal x.1 x.2⟩ : DC)).bind fun x3=>(some x3)) else (some false)) : Option (Bool)) fun (z1:Bool)=>(some (z1))))
theorem PC {rc_array_equal:Arr→Arr→Option (Bool)} (orc_array_equal:∀ x0 x1 r,rc_array_equal x0 x1=some r→Fn Tryz.prog 65 [.ag [.sl (Is x0.shape),.sl (Its x0.items)],.ag [.sl (Is x1.shape),.sl (Its x1.items)]] (.d (.b r))) {a0:Arr} {a1:Arr} {r:Bool} (h:Jg rc_array_equal a0 a1=some r) :
  Fn Tryz.prog 65 [.ag [.sl (Is a0.shape),.sl (Its a0.items)],.ag [.sl (Is a1.shape),.sl (Its a1.items)]] (.d (.b r)):=by
 unfold Jg at h
 refine Fn.o1 4 17 Tryz.func65 ?_;refine .sr ?_;refine vk vbx ?_;refine vk vbx ?_;refine ar [2,3,4] ?_;refine .seq ?_
 obtain ⟨x1,g1,h⟩:=bnd h
 obtain ⟨z1,hz,h⟩:=bnd h
 refine AW.mr (σ:=Unit) (fun _=>True) (fun _=>[(4,.d (.b z1))]) (fun _=>[]) ?_ ?_
 ·skip
  refine .region ?_;refine vk (vfa Ay) ?_;refine vk (Ai Bh) ?_;refine vk (vfa Ay) ?_;refine vk (Ai Bh) ?_;refine vk (Ak (HB g1) Tryz.call107) ?_
  rcases brc hz with ⟨hc,hz⟩|⟨hc,hz⟩
  ·have hb0:x1=true:=hc
   refine vL hb0 ?_;refine vk (vfa Au) ?_;refine vk (Ai Bp) ?_;refine vk (vfa Au) ?_;refine vk (Ai Bp) ?_
   obtain ⟨x3,g3,hz⟩:=bnd hz
   refine vk (Ak (Cy (IA Tryz.call109 (fun _ _ h=>PI orc_array_equal h)) g3) Tryz.call108) ?_;refine vk Ag ?_;refine asd ?_;refine RL.gk [4] ?_;refine .nil ?_
   cases hz
   exact jr () trivial
  have hb0:x1=false:=(bf hc)
  refine vL hb0 ?_;refine gf4 ?_;refine gf ?_;refine vk Ag ?_;refine asd ?_;refine RL.gk [4] ?_;refine .nil ?_
  cases hz
  exact jr () trivial
 rintro _ _
 refine .ret ?_
 cases h
 exact ⟨rfl,rfl⟩
def HU : Nat→Arr→Arr→Option (Bool)
 | 0,_,_=>none
 | k+1,a0,a1=>Jg (HU k) a0 a1
theorem JA : ∀ (k:Nat) (a0:Arr) (a1:Arr) (r:Bool),HU k a0 a1=some r→Fn Tryz.prog 65 [.ag [.sl (Is a0.shape),.sl (Its a0.items)],.ag [.sl (Is a1.shape),.sl (Its a1.items)]] (.d (.b r))
 | 0,_,_,_,h=>by cases h
 | k+1,a0,a1,_,h=>PC (JA k) (show Jg (HU k) a0 a1=some _ from h)
def Ql (a0:Arr) (a1:Arr) : Option (Bool):=HU (a0.size+1) a0 a1
theorem Qt {a0:Arr} {a1:Arr} {r:Bool} (h:Ql a0 a1=some r) : Fn Tryz.prog 65 [.ag [.sl (Is a0.shape),.sl (Its a0.items)],.ag [.sl (Is a1.shape),.sl (Its a1.items)]] (.d (.b r)):=JA _ a0 a1 r h
abbrev sg (b:Bool) (n:Nat) : Int:=if b=true then -(n:Int) else n
def ofQ (p:Rat) : RT:=(decide (p.num<0),Ao p.num.natAbs,Ao p.den)
def LY (n:Nat) : Prop:=(Ao n).length≤32
instance (n:Nat) : Decidable (LY n):=inferInstanceAs (Decidable (_≤_))
def QP (p:Rat) : Prop:=LY p.num.natAbs∧LY p.den
instance (p:Rat) : Decidable (QP p):=inferInstanceAs (Decidable (_∧_))
abbrev bad (e:Int) : RT×Int:=((false,[],[]),e)
theorem Ly (b:Bool) (n:Nat) : (sg b n).natAbs=n:=by cases b<;>simp [sg]
theorem YM (b:Bool) (n:Nat) : decide (sg b n<0)=(b&&decide (n≠0)):=by
 cases b with
 | false=>simp [sg]
 | true=>simp only [sg,if_true,Bool.true_and];apply decide_eq_decide.2;omega
abbrev q3 (p:Rat) : Q3:=(decide (p.num<0),p.num.natAbs,p.den)
theorem TT {r:RT} : EV r=true↔∃ p,QP p∧r=ofQ p:=by
 obtain ⟨b,n,d⟩:=r
 simp only [EV,HV,decide_eq_true_eq]
 constructor
 ·rintro ⟨h1,h2,h3,h4,h5,h6,h7⟩
  have hd0:val d≠0:=fun h=>h5 (by rw [← h2,h,AU])
  refine ⟨⟨sg b (val n),val d,hd0,by rw [Nat.Coprime,Ly];exact h7⟩,⟨?_,?_⟩,?_⟩
  ·show LY (sg b (val n)).natAbs
   rw [Ly,LY,h1];exact h3
  ·show LY (val d)
   rw [LY,h2];exact h4
  ·simp only [ofQ,Ly,h1,h2]
   rw [YM]
   congr 1
   cases b with
   | false=>rfl
   | true =>
    have:n≠[]:=fun h=>by have:=h6 h;cases this
    have hn0:val n≠0:=fun h=>this (by rw [← h1,h,AU])
    simp [hn0]
 ·rintro ⟨p,⟨h1,h2⟩,h⟩
  simp only [ofQ,Prod.mk.injEq] at h
  obtain ⟨rfl,rfl,rfl⟩:=h
  refine ⟨by rw [A8],by rw [A8],h1,h2,?_,?_,?_⟩
  ·intro h
   have:=HS.1 h
   exact p.den_nz this
  ·intro h
   have:=HS.1 h
   exact dF (by omega)
  ·rw [A8,A8];exact p.reduced
theorem LG {p:Rat} (h:QP p) : EV (ofQ p)=true:=TT.2 ⟨p,h,rfl⟩
theorem Q9 {k n:Nat} (h:(Ao n).length≤k) : okL k (Ao n)=true:=KS.2 ⟨BI n,h⟩
theorem MQ {k n:Nat} (h:LY n) (hk:32≤k) : okL k (Ao n)=true:=Q9 (nT h hk)
theorem HF {p:Rat} (h:QP p) : Hq (ofQ p)=true:=by
 simp only [Hq,Bool.and_eq_true]
 exact ⟨MQ h.1 (by decide),MQ h.2 (by decide)⟩
theorem Lw : QP 0:=by
 have e0:Ao 0=[]:=AU
 have e1:Ao 1=[1]:=MM (n:=1) (by decide) (by decide)
 constructor
 ·show (Ao 0).length≤32;rw [e0];decide
 ·show (Ao 1).length≤32;rw [e1];decide
theorem Kw : Ao 1=[1]:=MM (n:=1) (by decide) (by decide)
theorem Vb : ofQ 0=(false,[],[1]):=by
 show (decide ((0:Int)<0),Ao 0,Ao 1)=_
 rw [AU,Kw];rfl
theorem Bi {z:Int} (h1:-9223372036854775808≤z) (h2:z≤9223372036854775807) : w64 z=z:=G1 h1 h2
theorem LZ {r:RT} (h:Hq r=true) : Kn r=some (EV r):=if_pos h
theorem Pg {r:RT} (h:Hq r=true) : Je r=some (EV r):=if_pos h
theorem Tu : Sq=some [1]:=if_pos trivial
theorem NC : MJ=some [1]:=if_pos trivial
theorem Qq : KB=some (ofQ 0):=by rw [Vb];exact if_pos trivial
def sm (k:Nat) (x:Q3) : Prop:=(Ao x.2.1).length≤k∧(Ao x.2.2).length≤k
theorem SE {z:Int} (h1:-9223372036854775808≤z) (h2:z≤9223372036854775807) : FJ z=some (ofQ z):=by
 have:FJ z=some (decide (z<0),Ao z.natAbs,[1]):=if_pos ⟨h1,h2⟩
 rw [this]
 show _=some (decide (z<0),Ao z.natAbs,Ao 1)
 rw [Kw]
theorem Vf {z:Int} (h1:-9223372036854775808≤z) (h2:z≤9223372036854775808) : QP (z:Rat):=by
 constructor
 ·show (Ao z.natAbs).length≤32
  exact nT (EE (k:=3) (by omega)) (by decide)
 ·show (Ao 1).length≤32
  rw [Kw];decide
mutual
def okI : Itm→Prop
 | .mk k n c b=>(0≤k∧k<256)∧Hq n=true∧(-2147483648≤c∧c<2147483648)∧b.length≤2932031007402∧okAs b
def okAr : Arr→Prop
 | .mk s i=>(∀ z∈s,-9223372036854775808≤z∧z≤9223372036854775807)∧s.length≤17592186044416∧i.length≤1466015503701∧okIs i
def okIs : List Itm→Prop
 | []=>True
 | x::xs=>okI x∧okIs xs
def okAs : List Arr→Prop
 | []=>True
 | x::xs=>okAr x∧okAs xs
end
theorem QW : ∀ {xs:List Itm},okIs xs↔∀ x∈xs,okI x
 | []=>by simp [okIs]
 | x::xs=>by simp [okIs,QW (xs:=xs)]
theorem QM : ∀ {xs:List Arr},okAs xs↔∀ x∈xs,okAr x
 | []=>by simp [okAs]
 | x::xs=>by simp [okAs,QM (xs:=xs)]
theorem C5 (x:Itm) : okI x↔(0≤x.kind∧x.kind<256)∧Hq x.num=true∧(-2147483648≤x.char∧x.char<2147483648)∧x.box.length≤2932031007402∧∀ a∈x.box,okAr a:=by
 cases x;simp only [okI,QM,Itm.kind,Itm.num,Itm.char,Itm.box]
theorem AK (a:Arr) : okAr a↔(∀ z∈a.shape,-9223372036854775808≤z∧z≤9223372036854775807)∧a.shape.length≤17592186044416∧a.items.length≤1466015503701∧∀ x∈a.items,okI x:=by
 cases a;simp only [okAr,QW,Arr.shape,Arr.items]
theorem OB : ∀ {xs:List Itm} {x:Itm},x∈xs→x.size≤itsSize xs
 | y::xs,x,h=>by
  rw [itsSize]
  rcases List.mem_cons.1 h with rfl|h
  ·omega
  ·have:=OB h;omega
theorem Rp : ∀ {xs:List Arr} {x:Arr},x∈xs→x.size≤arsSize xs
 | y::xs,x,h=>by
  rw [arsSize]
  rcases List.mem_cons.1 h with rfl|h
  ·omega
  ·have:=Rp h;omega
theorem GM {a:Arr} {x:Itm} (h:x∈a.items) : x.size<a.size:=by
 cases a;have:=OB (xs:=_) h;simp only [Arr.size,Arr.items] at *;omega
theorem FS {x:Itm} {a:Arr} (h:a∈x.box) : a.size<x.size:=by
 cases x;have:=Rp (xs:=_) h;simp only [Itm.size,Itm.box] at *;omega
theorem AS {n:Nat} (h:n≤140737488355328) : n<Aw:=by unfold Aw;omega
theorem A4 {i:Nat} (h:i≤9223372036854775806) : w64 ((i:Int)+1)=((i+1:Nat) : Int):=by rw [Bi (by omega) (by omega)];omega
theorem SD {α:Type} {xs:List α} {i:Nat} {x:α} (h:xs[i]?=some x) : rd? xs (i:Int)=some x:=by
 rw [rd?,if_pos (by omega)];simpa using h
theorem AY {α:Type} {xs:List α} {i:Nat} (h:i<xs.length) : rd? xs (i:Int)=some xs[i]:=SD (lG h)
theorem Dw {α:Type} {m:Nat} {xs ys:List α} (h:xs.length+ys.length≤m) : ap? m xs ys=some (xs++ys):=if_pos h
theorem Mt {α:Type} {x:α} {xs:List α} : rd? (x::xs) 0=some x:=rfl
theorem LM {xs:List Int} {f:Co} {p:Int→Bool} (hf:∀ x∈xs,f.g x=some (p x)) (K:Int→Option Int) (hl:xs.length≤17592186044416) : ∀ (n i k:Nat) (s:Int),n=xs.length-i→i≤xs.length→n<k →
  A0 xs f K k s (i:Int)=match (xs.drop i).findIdx? p with|some j=>some (((i+j:Nat)):Int)|none=>K s
 | n,i,0,s,_,_,h=>by omega
 | n,i,k+1,s,hn,hi,hk=>by
  rw [A0]
  by_cases hlt:i<xs.length
  ·rw [if_pos (by omega),AY hlt,oB,hf _ (List.getElem_mem _),oB,lC hlt,List.findIdx?_cons]
   by_cases hp:p xs[i]=true
   ·rw [if_pos hp,if_pos hp];rfl
   ·rw [if_neg hp,if_neg hp,A4 (by omega),LM hf K hl (n-1) (i+1) k s (by omega) (by omega) (by omega)]
    cases (xs.drop (i+1)).findIdx? p with
    | none=>rfl
    | some j=>simp only [Option.map_some];congr 1;omega
  ·rw [if_neg (by omega),List.drop_of_length_le (by omega)];rfl
theorem Iq {xs:List Int} {f:Co} {p:Int→Bool} (hf:∀ x∈xs,f.g x=some (p x)) (hl:xs.length≤17592186044416) : Bb xs f=some (xs.any p):=by
 unfold Bb Cn
 simp only [jn]
 have:=LM hf (fun _=>some (-1)) hl xs.length 0 Aw 0 rfl (Nat.zero_le _) (AS (by omega))
 rw [List.drop_zero] at this
 rw [show ((0:Nat):Int)=0 from rfl] at this
 rw [this]
 cases h:xs.findIdx? p with
 | none =>
  rw [oB]
  rw [List.findIdx?_eq_none_iff] at h
  rw [show (xs.any p)=false by rw [List.any_eq_false];intro x hx;simp [h x hx]]
  rfl
 | some j =>
  rw [oB]
  rw [List.findIdx?_eq_some_iff_getElem] at h
  obtain ⟨hj,h1,_⟩:=h
  rw [show (xs.any p)=true by rw [List.any_eq_true];exact ⟨_,List.getElem_mem hj,h1⟩]
  simp
theorem Kl {xs:List Int} {v:Int} (K:Int→Option Int) (hl:xs.length≤17592186044416) : ∀ (n i k:Nat) (s:Int),n=xs.length-i→i≤xs.length→n<k →
  Bf xs v K k s (i:Int)=match (xs.drop i).findIdx? (fun x=>decide (v=x)) with|some j=>some (((i+j:Nat)):Int)|none=>K s
 | n,i,0,s,_,_,h=>by omega
 | n,i,k+1,s,hn,hi,hk=>by
  rw [Bf]
  by_cases hlt:i<xs.length
  ·rw [if_pos (by omega),AY hlt,oB,lC hlt,List.findIdx?_cons]
   by_cases hp:v=xs[i]
   ·rw [if_pos hp,if_pos (dT hp)];rfl
   ·rw [if_neg hp,if_neg (by simp [hp]),A4 (by omega),Kl K hl (n-1) (i+1) k s (by omega) (by omega) (by omega)]
    cases (xs.drop (i+1)).findIdx? (fun x=>decide (v=x)) with
    | none=>rfl
    | some j=>simp only [Option.map_some];congr 1;omega
  ·rw [if_neg (by omega),List.drop_of_length_le (by omega)];rfl
theorem Qe {xs:List Int} {v:Int} (hl:xs.length≤17592186044416) : BU xs v=some (decide (v∈xs)):=by
 unfold BU Db
 simp only [jn]
 have:=Kl (v:=v) (fun _=>some (-1)) hl xs.length 0 Aw 0 rfl (Nat.zero_le _) (AS (by omega))
 rw [List.drop_zero] at this
 rw [show ((0:Nat):Int)=0 from rfl] at this
 rw [this]
 cases h:xs.findIdx? (fun x=>decide (v=x)) with
 | none =>
  rw [oB]
  rw [List.findIdx?_eq_none_iff] at h
  rw [show decide (v∈xs)=false by rw [decide_eq_false_iff_not];intro hx;have:=h v hx;simp at this]
  rfl
 | some j =>
  rw [oB]
  rw [List.findIdx?_eq_some_iff_getElem] at h
  obtain ⟨hj,h1,_⟩:=h
  rw [show decide (v∈xs)=true by rw [decide_eq_true_eq];rw [decide_eq_true_eq] at h1;rw [h1];exact List.getElem_mem hj]
  simp
def Ca (s:List Int) : Int:=s.foldl (· * ·) 1
def szP (s:List Int) : Int×Int :=
 if 8<s.length then (0,4) else if s.any (fun n=>decide (n<0)) then (0,3) else if s.any (fun n=>decide (4096<n)) then (0,8) else if 0∈s then (0,0) else if Ca s≤4096 then (Ca s,0) else (0,8)
theorem Hp (s:List Int) : ∀ n : Int,s.foldl (· * ·) n=n * s.foldl (· * ·) 1:=by
 induction s with
 | nil=>intro n;simp
 | cons x xs ih=>intro n;rw [List.foldl_cons,List.foldl_cons,ih (n * x),ih (1 * x),Int.one_mul,Int.mul_assoc]
theorem Li {s:List Int} (h:∀ x∈s,1≤x) : 1≤Ca s:=by
 induction s with
 | nil=>exact Int.le_refl _
 | cons x xs ih =>
  have h1:=h x (by simp)
  have h2:=ih fun y hy=>h y (by simp [hy])
  unfold Ca at *
  rw [List.foldl_cons,Hp,Int.one_mul]
  exact Int.le_trans (by omega:(1:Int)≤1 * 1) (Int.mul_le_mul h1 h2 (by omega) (by omega))
theorem OU {s:List Int} (hl:s.length≤8) (hp:∀ x∈s,1≤x∧x≤4096) (K:Int→Int→Int→Option (Int×Int)) : ∀ (n i k:Nat) (a b m:Int),n=s.length-i→i≤s.length→n<k→1≤m→m≤4096 →
  Dj s K k a b m (i:Int)=if m * Ca (s.drop i)≤4096 then K a b (m * Ca (s.drop i)) else some (0,8)
 | n,i,0,a,b,m,_,_,h,_,_=>by omega
 | n,i,k+1,a,b,m,hn,hi,hk,h1,h2=>by
  rw [Dj]
  by_cases hlt:i<s.length
  ·rw [if_pos (by omega),AY hlt,oB,E5,if_pos (by omega),oB,lC hlt]
   have hx:=hp s[i] (List.getElem_mem _)
   have hq0:0≤Int.tdiv 4096 m:=Int.tdiv_nonneg (by omega) (by omega)
   have hq1:Int.tdiv 4096 m≤4096:=by rw [Int.tdiv_eq_ediv_of_nonneg (by omega)];exact Int.ediv_le_self _ (by omega)
   rw [Bi (by omega) (by omega)]
   have hpos:1≤Ca (s.drop (i+1)):=Li fun x hx=>(hp x (List.mem_of_mem_drop hx)).1
   have hprod:Ca (s[i]::s.drop (i+1))=s[i] * Ca (s.drop (i+1)):=by unfold Ca;rw [List.foldl_cons,Hp,Int.one_mul]
   have hdiv:Int.tdiv 4096 m<s[i]↔4096<m * s[i]:=by
    rw [Int.tdiv_eq_ediv_of_nonneg (by omega),Int.ediv_lt_iff_lt_mul (by omega),Int.mul_comm]
   rw [hprod,← Int.mul_assoc]
   by_cases hc:4096<m * s[i]
   ·rw [if_pos (hdiv.2 hc),if_neg]
    have:m * s[i] * 1≤m * s[i] * Ca (s.drop (i+1)):=Int.mul_le_mul_of_nonneg_left hpos (by omega)
    omega
   ·have hm1:1≤m * s[i]:=Int.le_trans (by omega:(1:Int)≤1 * 1) (Int.mul_le_mul h1 hx.1 (by omega) (by omega))
    rw [if_neg (fun h=>hc (hdiv.1 h)),A4 (by omega),Bi (by omega) (by omega)]
    exact OU hl hp K (n-1) (i+1) k a b (m * s[i]) (by omega) (by omega) (by omega) hm1 (by omega)
  ·rw [if_neg (by omega),List.drop_of_length_le (by omega)]
   rw [show Ca []=1 from rfl,Int.mul_one,if_pos h2]
theorem Ik {s:List Int} (hl:s.length≤17592186044416) : D0 s=some (szP s):=by
 unfold D0 szP
 by_cases h8:8<s.length
 ·rw [if_pos (by omega),if_pos h8]
 rw [if_neg (by omega),if_neg h8]
 rw [Iq (p:=fun n=>decide (n<0)) (fun x _=>rfl) hl,oB]
 by_cases h0:s.any (fun n=>decide (n<0))=true
 ·rw [if_pos h0,if_pos h0]
 rw [if_neg h0,if_neg h0]
 rw [Iq (p:=fun n=>decide (4096<n)) (fun x _=>rfl) hl,oB]
 by_cases h1:s.any (fun n=>decide (4096<n))=true
 ·rw [if_pos h1,if_pos h1]
 rw [if_neg h1,if_neg h1,Qe hl,oB]
 by_cases h2:0∈s
 ·rw [if_pos (dT h2),if_pos h2]
 rw [if_neg (by simp [h2]),if_neg h2]
 have hp:∀ x∈s,1≤x∧x≤4096:=fun x hx=>by
  simp only [List.any_eq_true,decide_eq_true_eq,not_exists,not_and] at h0 h1
  have a:=h0 x hx
  have b:=h1 x hx
  have c:x≠0:=fun e=>h2 (e▸hx)
  omega
 have:=OU (by omega) hp (fun z4 z5 z6=>some (z6,0)) s.length 0 Aw 0 0 1 rfl (Nat.zero_le _) (AS (by omega)) (by omega) (by omega)
 rw [List.drop_zero,Int.one_mul,show ((0:Nat):Int)=0 from rfl] at this
 simp only [jn]
 rw [this]
 split<;>rfl
theorem EQ (s:List Int) : 0≤(szP s).1∧(szP s).1≤4096:=by
 unfold szP
 split
 ·exact ⟨by decide,by decide⟩
 split
 ·exact ⟨by decide,by decide⟩
 split
 ·exact ⟨by decide,by decide⟩
 split
 ·exact ⟨by decide,by decide⟩
 split
 ·rename_i h8 h0 h1 h2 h3
  refine ⟨?_,h3⟩
  have:1≤Ca s:=Li fun x hx=>by
   simp only [List.any_eq_true,decide_eq_true_eq,not_exists,not_and] at h0 h1
   have a:=h0 x hx
   have c:x≠0:=fun e=>h2 (e▸hx)
   omega
  omega
 ·exact ⟨by decide,by decide⟩
def FN (a0:Int) : Option (RT):=(if a0<0 then ((UZ (IntKind.wrap .u64 (0-(IntKind.wrap .u64 a0)))).bind fun x1=>(MJ.bind fun x2=>(some (((decide (a0<0)),x1,x2))))) else ((UZ (IntKind.wrap .u64 a0)).bind fun x3=>(MJ.bind fun x4=>(some (((decide (a0<0)),x3,x4))))))
theorem NO {a0:Int} {r:RT} (h:FN a0=some r) :
  Fn Tryz.prog 88 [.i .i64 a0] (.d (.ag [.b r.1,.sl (L r.2.1),.sl (L r.2.2)])):=by
 unfold FN at h
 refine Fn.ofC (rs:=[.cell 2 24]) (nt:=16) Tryz.func88 rfl rfl rfl (by simp) rfl ?_;refine .sr ?_;refine vk (van (Aj QN) RY) ?_;refine rk [0,2] ?_;refine .sr ?_;refine va ?_;refine vk (vcv XQ Tw) ?_;refine ar [0,2,3] ?_;refine .seq ?_;refine .sr ?_;refine va ?_;refine vb ?_;refine rk [0,2,3,7] ?_
 rcases brc h with ⟨hc,h⟩|⟨hc,h⟩
 ·refine cnt (dT hc) ?_
  refine .region ?_;refine va ?_;refine vk vng ?_;refine ar [0,2,3] ?_;refine .sr ?_;refine va ?_;refine vb ?_;refine va ?_
  obtain ⟨x1,g1,h⟩:=bnd h
  refine vk ((Ak (SI g1) Tryz.call127).deep) ?_
  obtain ⟨x2,g2,h⟩:=bnd h
  refine vk ((Ak (Nq g2) Tryz.call128).deep) ?_;refine vk (vbd W0 QN RY) ?_
  refine stn ?_ GI (by decide)
  refine rk [2] ?_;refine .ret ?_
  cases h
  exact ⟨_,⟨.inr rfl,IS,GI,p3⟩,rfl⟩
 refine cnf (dF hc) ?_;refine .sk ?_;refine .sr ?_;refine va ?_;refine vb ?_;refine va ?_
 obtain ⟨x3,g3,h⟩:=bnd h
 refine vk ((Ak (SI g3) Tryz.call127).deep) ?_
 obtain ⟨x4,g4,h⟩:=bnd h
 refine vk ((Ak (Nq g4) Tryz.call128).deep) ?_;refine vk (vbd W0 QN RY) ?_
 refine stn ?_ GI (by decide)
 refine rk [2] ?_;refine .ret ?_
 cases h
 exact ⟨_,⟨.inr rfl,IS,GI,p3⟩,rfl⟩
def DZ (a0:RT) : Option (RT):=((ap? 35184372088832 [] a0.2.1).bind fun x1=>((ap? 35184372088832 [] a0.2.2).bind fun x2=>(some ((a0.1,x1,x2)))))
theorem Hc {a0:RT} {r:RT} (h:DZ a0=some r) :
  Fn Tryz.prog 31 [.ag [.b a0.1,.sl (L a0.2.1),.sl (L a0.2.2)]] (.d (.ag [.b r.1,.sl (L r.2.1),.sl (L r.2.2)])):=by
 unfold DZ at h
 refine Fn.ofC (rs:=[.cell 2 24]) (nt:=20) Tryz.func31 rfl rfl rfl (by simp) rfl ?_;refine .sr ?_;refine vk vbx ?_;refine vk (van (Aj QN) RY) ?_;refine rk [1,2] ?_;refine .sr ?_;refine vk (vfa G0) ?_;refine vk (Ai FC) ?_;refine vk (Ur W0 QN (fun w I μ=>Y2 w I μ)) ?_;refine vk (van (Aj QN) RY) ?_
 refine TD ?_ GI (by decide)
 refine rk [1,2,3] ?_;refine .sr ?_;refine vk (DX Hd) ?_
 refine ldb (cs:=[.d (.b a0.1),.nl,.nl]) (c:=.nl) rfl rfl ?_ IE
 refine vk (vfa Hd) ?_;refine vk (Ai IE) ?_
 obtain ⟨x1,g1,h⟩:=bnd h
 refine Tt g1 YZ ?_ Gs Ab YU
 refine vk (DX Hd) ?_
 refine H6 (cs:=[.d (.b a0.1),.nl,.nl]) (c:=.nl) rfl rfl ?_ YW
 refine rk [1,2,3] ?_;refine .sr ?_;refine vk (DX Ie) ?_
 refine ldb (cs:=[.d (.b a0.1),.own 118 (L x1),.nl]) (c:=.nl) rfl rfl ?_ IE
 refine vk (vfa Ie) ?_;refine vk (Ai IE) ?_
 obtain ⟨x2,g2,h⟩:=bnd h
 refine Tt g2 YZ ?_ Gs Ab YU
 refine vk (DX Ie) ?_
 refine H6 (cs:=[.d (.b a0.1),.own 118 (L x1),.nl]) (c:=.nl) rfl rfl ?_ YW
 refine rk [2,3] ?_;refine .sr ?_;refine fz (p:=.c 0 1) ?_;refine fz (p:=.c 0 2) ?_;refine vk (GT (cs:=[.d (.b a0.1),.d (.sl (L x1)),.d (.sl (L x2))]) (ds:=[.b a0.1,.sl (L x1),.sl (L x2)]) rfl IS GI) ?_
 refine stn ?_ GI (by decide)
 refine rk [2] ?_;refine .ret ?_
 cases h
 exact ⟨_,⟨.inr rfl,IS,GI,p3⟩,rfl⟩
def Fe (a0:Int) : Option (Bool):=(some (((decide (0≤a0))&&((decide (a0≤1114111))&&((decide (a0<55296))||(decide (57343<a0)))))))
theorem Mm {a0:Int} {r:Bool} (h:Fe a0=some r) :
  Fn Tryz.prog 126 [.i .i32 a0] (.d (.b r)):=by
 unfold Fe at h
 refine Fn.o1 2 17 Tryz.func126 ?_;refine .sr ?_;refine ar [0,2] ?_;refine .seq ?_;refine AW.mr (σ:=Unit) (fun _=>True) (fun _=>[(2,.d (.b ((decide (0≤a0))&&((decide (a0≤1114111))&&((decide (a0<55296))||(decide (57343<a0)))))))]) (fun _=>[]) ?_ ?_
 ·skip
  refine .region ?_;refine va ?_;refine vb ?_
  by_cases hc:0≤a0
  ·have hb0:(decide (0≤a0))=true:=(dT hc)
   refine vL hb0 ?_;refine va ?_;refine vb ?_;refine vk Ag ?_
   by_cases hc:a0≤1114111
   ·have hb1:(decide (a0≤1114111))=true:=(dT hc)
    refine vL hb1 ?_;refine va ?_;refine vb ?_
    by_cases hc:a0<55296
    ·have hb2:(decide (a0<55296))=true:=(dT hc)
     refine vL hb2 ?_;refine gf2 ?_;refine vk Ag ?_;refine vk Ag ?_;refine asd ?_;refine RL.gk [2] ?_;refine .nil ?_
     exact jr () trivial (by simp only [hb0,hb1,hb2];rfl)
    have hb2:(decide (a0<55296))=false:=(dF hc)
    refine vL hb2 ?_;refine va ?_;refine vb ?_;refine vk Ag ?_;refine vk Ag ?_;refine asd ?_;refine RL.gk [2] ?_;refine .nil ?_
    exact jr () trivial (by simp only [hb0,hb1,hb2];rfl)
   have hb1:(decide (a0≤1114111))=false:=(dF hc)
   refine vL hb1 ?_;refine gf2 ?_;refine gfu ?_;refine gf3 ?_;refine vk Ag ?_;refine asd ?_;refine RL.gk [2] ?_;refine .nil ?_
   exact jr () trivial (by simp only [hb0,hb1];rfl)
  have hb0:(decide (0≤a0))=false:=(dF hc)
  refine vL hb0 ?_;refine gf2 ?_;refine vk Ag ?_;refine va ?_;refine gf2 ?_;refine gfu ?_;refine gf3 ?_;refine vk Ag ?_;refine asd ?_;refine RL.gk [2] ?_;refine .nil ?_
  exact jr () trivial (by simp only [hb0];rfl)
 rintro _ _
 refine .ret ?_
 cases h
 exact ⟨rfl,rfl⟩
def B7 (rc_ref03_Same:Arr→Arr→Option (Bool)) (a0:Itm) (a1:Itm) (K0:Bool→Option (Bool)) : Nat→Bool→Int→Option (Bool)
 | 0,_,_=>none
 | k+1,s4,s5=>(if s5<((List.length a0.box:Nat):Int) then ((rd? a0.box s5).bind fun x6=>((rd? a1.box s5).bind fun x7=>((rc_ref03_Same x6 x7).bind fun x8=>(if x8=true then (B7 rc_ref03_Same a0 a1 K0 k s4 (w64 (s5+1))) else (some (false)))))) else (K0 s4))
def C4 (rc_ref03_Same:Arr→Arr→Option (Bool)) (a0:Itm) (a1:Itm) : Option (Bool):=(Option.bind ((if a0.kind=a1.kind then (if a0.char=a1.char then ((MP a0.num a1.num).bind fun x2=>(if x2=true then (some (!(decide (((List.length a0.box:Nat) : Int)=((List.length a1.box:Nat) : Int))))) else (some true))) else (some true)) else (some true)) : Option (Bool)) fun (z1:Bool)=>(if z1=true then (some (false)) else (jn (fun (z3:Bool)=>(some (true))) fun K0=>(B7 rc_ref03_Same a0 a1 K0 Aw false 0))))
theorem KW {rc_ref03_Same:Arr→Arr→Option (Bool)} (orc_ref03_Same:∀ x0 x1 r,rc_ref03_Same x0 x1=some r→Fn Tryz.prog 8 [.ag [.sl (Is x0.shape),.sl (Its x0.items)],.ag [.sl (Is x1.shape),.sl (Its x1.items)]] (.d (.b r))) {a0:Itm} {a1:Itm} {r:Bool} (h:C4 rc_ref03_Same a0 a1=some r) :
  Fn Tryz.prog 28 [.ag [.i .u8 a0.kind,.b a0.num.1,.sl (L a0.num.2.1),.sl (L a0.num.2.2),.i .i32 a0.char,.sl (Ars a0.box)],.ag [.i .u8 a1.kind,.b a1.num.1,.sl (L a1.num.2.1),.sl (L a1.num.2.2),.i .i32 a1.char,.sl (Ars a1.box)]] (.d (.b r)):=by
 unfold C4 at h
 refine Fn.o1 4 54 Tryz.func28 ?_;refine .sr ?_;refine vk vbx ?_;refine vk vbx ?_;refine ar [2,3,4] ?_;refine .seq ?_;refine .seq ?_
 obtain ⟨z1,hz,h⟩:=bnd h
 refine AW.mr (σ:=Unit) (fun _=>True) (fun _=>[(2,.d (.ptr [.i .u8 a0.kind,.b a0.num.1,.sl (L a0.num.2.1),.sl (L a0.num.2.2),.i .i32 a0.char,.sl (Ars a0.box)])),(3,.d (.ptr [.i .u8 a1.kind,.b a1.num.1,.sl (L a1.num.2.1),.sl (L a1.num.2.2),.i .i32 a1.char,.sl (Ars a1.box)])),(4,.d (.b false)),(34,.d (.b z1))]) (fun _=>[]) ?_ ?_
 ·skip
  refine .region ?_;refine vk (vfa B2) ?_;refine vk (Ai A7) ?_;refine vk (vfa B2) ?_;refine vk (Ai A7) ?_;refine vb ?_
  rcases brc hz with ⟨hc,hz⟩|⟨hc,hz⟩
  ·have hb0:(!(decide (a0.kind=a1.kind)))=false:=(ntf (dT hc))
   refine vL hb0 ?_;refine vk (vfa Da) ?_;refine vk (Ai Dc) ?_;refine vk (vfa Da) ?_;refine vk (Ai Dc) ?_;refine vb ?_;refine vk Ag ?_
   rcases brc hz with ⟨hc,hz⟩|⟨hc,hz⟩
   ·have hb1:(!(decide (a0.char=a1.char)))=false:=(ntf (dT hc))
    refine vL hb1 ?_;refine vk (vfa BX) ?_;refine vk (AC IS GI) ?_;refine vk (vfa BX) ?_;refine vk (AC IS GI) ?_
    obtain ⟨x2,g2,hz⟩:=bnd hz
    refine vk (Ak (Ri g2) Tryz.call66) ?_;refine vk vnt ?_;refine vk Ag ?_
    rcases brc hz with ⟨hc,hz⟩|⟨hc,hz⟩
    ·have hb2:(!x2)=false:=(ntf hc)
     refine vL hb2 ?_;refine vk (vfa AQ) ?_;refine vk (Ai BF) ?_;refine vk (A9 (Ba _) (Ea _) Eb) ?_;refine vk (vfa AQ) ?_;refine vk (Ai BF) ?_;refine vk (A9 (Ba _) (Ea _) Eb) ?_;refine vb ?_;refine vk Ag ?_;refine RL.gk [2,3,4,34] ?_;refine .nil ?_
     cases hz
     exact jr () trivial
    have hb2:(!x2)=true:=(ntt (bf hc))
    refine vL hb2 ?_;refine gf4 ?_;refine gf3 ?_;refine vk Ag ?_;refine RL.gk [2,3,4,34] ?_;refine .nil ?_
    cases hz
    exact jr () trivial
   have hb1:(!(decide (a0.char=a1.char)))=true:=(ntt (dF hc))
   refine vL hb1 ?_;refine gf4 ?_;refine gf2 ?_;refine vk Ag ?_;refine va ?_;refine gf4 ?_;refine gf3 ?_;refine vk Ag ?_;refine RL.gk [2,3,4,34] ?_;refine .nil ?_
   cases hz
   exact jr () trivial
  have hb0:(!(decide (a0.kind=a1.kind)))=true:=(ntt (dF hc))
  refine vL hb0 ?_;refine gf4 ?_;refine gf ?_;refine vk Ag ?_;refine va ?_;refine gf4 ?_;refine gf2 ?_;refine vk Ag ?_;refine va ?_;refine gf4 ?_;refine gf3 ?_;refine vk Ag ?_;refine RL.gk [2,3,4,34] ?_;refine .nil ?_
  cases hz
  exact jr () trivial
 rintro _ _
 rcases brc h with ⟨hc,h⟩|⟨hc,h⟩
 ·refine cnt hc ?_
  refine .sr ?_;refine ar [2,3,4] ?_;refine .ret ?_
  cases h
  exact ⟨rfl,rfl⟩
 refine cnf (bf hc) ?_;refine .sk ?_;refine .seq ?_;refine .sr ?_;refine ar [2,3,4,5] ?_
 obtain ⟨K0,hK0,h⟩:=AF h
 refine AW.mr (σ:=Bool) (fun p=>K0 p=some r) (fun p=>[(4,.d (.b p))]) (fun p=>[]) ?_ ?_
 ·skip
  refine .block ?_
  refine .loop (.gk [2,3,4,5] ?_)
  refine AL.ind (σ:=Nat×Bool×Int) (m:=fun p=>p.1) (e:=fun p=>[(2,.d (.ptr [.i .u8 a0.kind,.b a0.num.1,.sl (L a0.num.2.1),.sl (L a0.num.2.2),.i .i32 a0.char,.sl (Ars a0.box)])),(3,.d (.ptr [.i .u8 a1.kind,.b a1.num.1,.sl (L a1.num.2.1),.sl (L a1.num.2.2),.i .i32 a1.char,.sl (Ars a1.box)])),(4,.d (.b p.2.1)),(5,.d (.i .i64 p.2.2))]) (h:=fun p=>[]) (I:=fun p=>B7 rc_ref03_Same a0 a1 K0 p.1 p.2.1 p.2.2=some r) ?_ (Aw,false,0) h
  rintro ⟨k,s4,s5⟩ h ih
  dsimp only at h ih ⊢
  rcases k with _|k
  ·rw [B7] at h;cases h
  rw [B7] at h
  refine .seq ?_;refine .sr ?_;refine va ?_;refine vk (vfa AQ) ?_;refine vk (Ai BF) ?_;refine vk (A9 (Ba _) (Ea _) Eb) ?_;refine vb ?_;refine rk [2,3,4,5,39] ?_
  rcases brc h with ⟨hc,h⟩|⟨hc,h⟩
  ·refine cnt (dT hc) ?_
   refine .sk ?_;refine .seq ?_;refine .block ?_;refine .seq ?_;refine .drawn 12 Bw (by kernel_rfl) ?_;refine dv (vfa AQ) ?_;refine dv (Ai BF) ?_;refine dv Ah ?_
   obtain ⟨x6,g6,h⟩:=bnd h
   obtain ⟨n6,p06,q6⟩:=Ae g6
   refine dv (vix n6 p06 (D1 q6) rfl DU) ?_;refine dv (AC Ac Aa) ?_;refine dv (vfa AQ) ?_;refine dv (Ai BF) ?_;refine dv Ah ?_
   obtain ⟨x7,g7,h⟩:=bnd h
   obtain ⟨n7,p07,q7⟩:=Ae g7
   refine dv (vix n7 p07 (D1 q7) rfl DU) ?_;refine dv (AC Ac Aa) ?_
   obtain ⟨x8,g8,h⟩:=bnd h
   refine dv (Ak (orc_ref03_Same _ _ _ g8) Tryz.call8) ?_;refine dv vnt ?_;refine dz ?_;refine rk [2,3,4,5,53] ?_
   rcases brc h with ⟨hc,h⟩|⟨hc,h⟩
   ·refine cnf (ntf hc) ?_
    refine .sk ?_;refine .region ?_;refine va ?_;refine vb ?_;refine asd ?_;refine .nil ?_;refine AL.gk [2,3,4,5] ?_
    exact ih (k,s4,(w64 (s5+1))) h (Nat.lt_succ_self _)
   refine cnt (ntt (bf hc)) ?_;refine .sr ?_;refine ar [2,3,4,5] ?_;refine .ret ?_
   cases h
   exact ⟨rfl,rfl⟩
  refine cnf (dF hc) ?_;refine .gk [4] ?_;refine .exit ?_
  exact jr (s4) h
 rintro z3 h
 try dsimp only at h ⊢
 subst hK0
 refine aw ?_;refine .sr ?_;refine ar [4] ?_;refine .ret ?_
 cases h
 exact ⟨rfl,rfl⟩
def Dr (a0:Arr) (a1:Arr) (K0:Bool→Option (Bool)) : Nat→Bool→Int→Option (Bool)
 | 0,_,_=>none
 | k+1,s2,s3=>(if s3<((List.length a0.shape:Nat):Int) then ((rd? a0.shape s3).bind fun x4=>((rd? a1.shape s3).bind fun x5=>(if x4=x5 then (Dr a0 a1 K0 k s2 (w64 (s3+1))) else (some (false))))) else (K0 s2))
def CN (rc_ref03_Same:Arr→Arr→Option (Bool)) (a0:Arr) (a1:Arr) (K2:Bool→Option (Bool)) : Nat→Bool→Int→Option (Bool)
 | 0,_,_=>none
 | k+1,s7,s8=>(if s8<((List.length a0.items:Nat):Int) then ((rd? a0.items s8).bind fun x9=>((rd? a1.items s8).bind fun x10=>((C4 rc_ref03_Same x9 x10).bind fun x11=>(if x11=true then (CN rc_ref03_Same a0 a1 K2 k s7 (w64 (s8+1))) else (some (false)))))) else (K2 s7))
def Fy (rc_ref03_Same:Arr→Arr→Option (Bool)) (a0:Arr) (a1:Arr) : Option (Bool):=(if ((!(decide (((List.length a0.shape:Nat) : Int)=((List.length a1.shape:Nat) : Int))))||(!(decide (((List.length a0.items:Nat) : Int)=((List.length a1.items:Nat) : Int)))))=true then (some (false)) else (jn (fun (z1:Bool)=>(jn (fun (z6:Bool)=>(some (true))) fun K2=>(CN rc_ref03_Same a0 a1 K2 Aw z1 0))) fun K0=>(Dr a0 a1 K0 Aw false 0)))
theorem NW {rc_ref03_Same:Arr→Arr→Option (Bool)} (orc_ref03_Same:∀ x0 x1 r,rc_ref03_Same x0 x1=some r→Fn Tryz.prog 8 [.ag [.sl (Is x0.shape),.sl (Its x0.items)],.ag [.sl (Is x1.shape),.sl (Its x1.items)]] (.d (.b r))) {a0:Arr} {a1:Arr} {r:Bool} (h:Fy rc_ref03_Same a0 a1=some r) :
  Fn Tryz.prog 8 [.ag [.sl (Is a0.shape),.sl (Its a0.items)],.ag [.sl (Is a1.shape),.sl (Its a1.items)]] (.d (.b r)):=by
 unfold Fy at h
 refine Fn.o1 4 60 Tryz.func8 ?_;refine .sr ?_;refine vk vbx ?_;refine vk vbx ?_;refine ar [2,3,4] ?_;refine .seq ?_;refine .seq ?_;refine AW.mr (σ:=Unit) (fun _=>True) (fun _=>[(2,.d (.ptr [.sl (Is a0.shape),.sl (Its a0.items)])),(3,.d (.ptr [.sl (Is a1.shape),.sl (Its a1.items)])),(4,.d (.b false)),(22,.d (.b ((!(decide (((List.length a0.shape:Nat):Int)=((List.length a1.shape:Nat):Int))))||(!(decide (((List.length a0.items:Nat):Int)=((List.length a1.items:Nat):Int)))))))]) (fun _=>[]) ?_ ?_
 ·skip
  refine .region ?_;refine vk (vfa Ay) ?_;refine vk (Ai Bh) ?_;refine vk (A9 (Af _) (BO _) BL) ?_;refine vk (vfa Ay) ?_;refine vk (Ai Bh) ?_;refine vk (A9 (Af _) (BO _) BL) ?_;refine vb ?_
  by_cases hc:((List.length a0.shape:Nat):Int)=((List.length a1.shape:Nat):Int)
  ·have hb0:(!(decide (((List.length a0.shape:Nat):Int)=((List.length a1.shape:Nat):Int))))=false:=(ntf (dT hc))
   refine vL hb0 ?_;refine vk (vfa Au) ?_;refine vk (Ai Bp) ?_;refine vk (A9 (Aq _) (CC _) Ce) ?_;refine vk (vfa Au) ?_;refine vk (Ai Bp) ?_;refine vk (A9 (Aq _) (CC _) Ce) ?_;refine vb ?_;refine vk Ag ?_;refine RL.gk [2,3,4,22] ?_;refine .nil ?_
   exact jr () trivial (by simp only [hb0];rfl)
  have hb0:(!(decide (((List.length a0.shape:Nat):Int)=((List.length a1.shape:Nat):Int))))=true:=(ntt (dF hc))
  refine vL hb0 ?_;refine gf4 ?_;refine gf3 ?_;refine vk Ag ?_;refine RL.gk [2,3,4,22] ?_;refine .nil ?_
  exact jr () trivial (by simp only [hb0];rfl)
 rintro _ _
 rcases brc h with ⟨hc,h⟩|⟨hc,h⟩
 ·refine cnt hc ?_
  refine .sr ?_;refine ar [2,3,4] ?_;refine .ret ?_
  cases h
  exact ⟨rfl,rfl⟩
 refine cnf (bf hc) ?_;refine .sk ?_;refine .seq ?_;refine .sr ?_;refine ar [2,3,4,5] ?_
 obtain ⟨K0,hK0,h⟩:=AF h
 refine AW.mr (σ:=Bool) (fun p=>K0 p=some r) (fun p=>[(2,.d (.ptr [.sl (Is a0.shape),.sl (Its a0.items)])),(3,.d (.ptr [.sl (Is a1.shape),.sl (Its a1.items)])),(4,.d (.b p))]) (fun p=>[]) ?_ ?_
 ·skip
  refine .block ?_
  refine .loop (.gk [2,3,4,5] ?_)
  refine AL.ind (σ:=Nat×Bool×Int) (m:=fun p=>p.1) (e:=fun p=>[(2,.d (.ptr [.sl (Is a0.shape),.sl (Its a0.items)])),(3,.d (.ptr [.sl (Is a1.shape),.sl (Its a1.items)])),(4,.d (.b p.2.1)),(5,.d (.i .i64 p.2.2))]) (h:=fun p=>[]) (I:=fun p=>Dr a0 a1 K0 p.1 p.2.1 p.2.2=some r) ?_ (Aw,false,0) h
  rintro ⟨k,s2,s3⟩ h ih
  dsimp only at h ih ⊢
  rcases k with _|k
  ·rw [Dr] at h;cases h
  rw [Dr] at h
  refine .seq ?_;refine .sr ?_;refine va ?_;refine vk (vfa Ay) ?_;refine vk (Ai Bh) ?_;refine vk (A9 (Af _) (BO _) BL) ?_;refine vb ?_;refine rk [2,3,4,5,27] ?_
  rcases brc h with ⟨hc,h⟩|⟨hc,h⟩
  ·refine cnt (dT hc) ?_
   refine .sk ?_;refine .seq ?_;refine .block ?_;refine .seq ?_;refine .drawn 11 Bw (by kernel_rfl) ?_;refine dv (vfa Ay) ?_;refine dv (Ai Bh) ?_;refine dv Ah ?_
   obtain ⟨x4,g4,h⟩:=bnd h
   obtain ⟨n4,p04,q4⟩:=Ae g4
   refine dv (vix n4 p04 (A6 q4) rfl A2) ?_;refine dv (Ai AA) ?_;refine dv (vfa Ay) ?_;refine dv (Ai Bh) ?_;refine dv Ah ?_
   obtain ⟨x5,g5,h⟩:=bnd h
   obtain ⟨n5,p05,q5⟩:=Ae g5
   refine dv (vix n5 p05 (A6 q5) rfl A2) ?_;refine dv (Ai AA) ?_;refine dv vbi ?_;refine dz ?_;refine rk [2,3,4,5,40] ?_
   rcases brc h with ⟨hc,h⟩|⟨hc,h⟩
   ·refine cnf (ntf (dT hc)) ?_
    refine .sk ?_;refine .region ?_;refine va ?_;refine vb ?_;refine asd ?_;refine .nil ?_;refine AL.gk [2,3,4,5] ?_
    exact ih (k,s2,(w64 (s3+1))) h (Nat.lt_succ_self _)
   refine cnt (ntt (dF hc)) ?_;refine .sr ?_;refine ar [2,3,4,5] ?_;refine .ret ?_
   cases h
   exact ⟨rfl,rfl⟩
  refine cnf (dF hc) ?_;refine .gk [2,3,4] ?_;refine .exit ?_
  exact jr (s2) h
 rintro z1 h
 try dsimp only at h ⊢
 subst hK0
 refine aw ?_;refine .seq ?_;refine .sr ?_;refine ar [2,3,4,6] ?_
 obtain ⟨K2,hK2,h⟩:=AF h
 refine AW.mr (σ:=Bool) (fun p=>K2 p=some r) (fun p=>[(4,.d (.b p))]) (fun p=>[]) ?_ ?_
 ·skip
  refine .block ?_
  refine .loop (.gk [2,3,4,6] ?_)
  refine AL.ind (σ:=Nat×Bool×Int) (m:=fun p=>p.1) (e:=fun p=>[(2,.d (.ptr [.sl (Is a0.shape),.sl (Its a0.items)])),(3,.d (.ptr [.sl (Is a1.shape),.sl (Its a1.items)])),(4,.d (.b p.2.1)),(6,.d (.i .i64 p.2.2))]) (h:=fun p=>[]) (I:=fun p=>CN rc_ref03_Same a0 a1 K2 p.1 p.2.1 p.2.2=some r) ?_ (Aw,z1,0) h
  rintro ⟨k,s7,s8⟩ h ih
  dsimp only at h ih ⊢
  rcases k with _|k
  ·rw [CN] at h;cases h
  rw [CN] at h
  refine .seq ?_;refine .sr ?_;refine va ?_;refine vk (vfa Au) ?_;refine vk (Ai Bp) ?_;refine vk (A9 (Aq _) (CC _) Ce) ?_;refine vb ?_;refine rk [2,3,4,6,45] ?_
  rcases brc h with ⟨hc,h⟩|⟨hc,h⟩
  ·refine cnt (dT hc) ?_
   refine .sk ?_;refine .seq ?_;refine .block ?_;refine .seq ?_;refine .drawn 12 Bw (by kernel_rfl) ?_;refine dv (vfa Au) ?_;refine dv (Ai Bp) ?_;refine dv Ah ?_
   obtain ⟨x9,g9,h⟩:=bnd h
   obtain ⟨n9,p09,q9⟩:=Ae g9
   refine dv (vix n9 p09 (CJ q9) rfl CL) ?_;refine dv (AC AJ An) ?_;refine dv (vfa Au) ?_;refine dv (Ai Bp) ?_;refine dv Ah ?_
   obtain ⟨x10,g10,h⟩:=bnd h
   obtain ⟨n10,p010,q10⟩:=Ae g10
   refine dv (vix n10 p010 (CJ q10) rfl CL) ?_;refine dv (AC AJ An) ?_
   obtain ⟨x11,g11,h⟩:=bnd h
   refine dv (Ak (KW orc_ref03_Same g11) Tryz.call28) ?_;refine dv vnt ?_;refine dz ?_;refine rk [2,3,4,6,59] ?_
   rcases brc h with ⟨hc,h⟩|⟨hc,h⟩
   ·refine cnf (ntf hc) ?_
    refine .sk ?_;refine .region ?_;refine va ?_;refine vb ?_;refine asd ?_;refine .nil ?_;refine AL.gk [2,3,4,6] ?_
    exact ih (k,s7,(w64 (s8+1))) h (Nat.lt_succ_self _)
   refine cnt (ntt (bf hc)) ?_;refine .sr ?_;refine ar [2,3,4,6] ?_;refine .ret ?_
   cases h
   exact ⟨rfl,rfl⟩
  refine cnf (dF hc) ?_;refine .gk [4] ?_;refine .exit ?_
  exact jr (s7) h
 rintro z6 h
 try dsimp only at h ⊢
 subst hK2
 refine aw ?_;refine .sr ?_;refine ar [4] ?_;refine .ret ?_
 cases h
 exact ⟨rfl,rfl⟩
def E1 : Nat→Arr→Arr→Option (Bool)
 | 0,_,_=>none
 | k+1,a0,a1=>Fy (E1 k) a0 a1
theorem IC : ∀ (k:Nat) (a0:Arr) (a1:Arr) (r:Bool),E1 k a0 a1=some r→Fn Tryz.prog 8 [.ag [.sl (Is a0.shape),.sl (Its a0.items)],.ag [.sl (Is a1.shape),.sl (Its a1.items)]] (.d (.b r))
 | 0,_,_,_,h=>by cases h
 | k+1,a0,a1,_,h=>NW (IC k) (show Fy (E1 k) a0 a1=some _ from h)
def Hy (a0:Arr) (a1:Arr) : Option (Bool):=E1 (a0.size+1) a0 a1
theorem Ig {a0:Arr} {a1:Arr} {r:Bool} (h:Hy a0 a1=some r) : Fn Tryz.prog 8 [.ag [.sl (Is a0.shape),.sl (Its a0.items)],.ag [.sl (Is a1.shape),.sl (Its a1.items)]] (.d (.b r)):=IC _ a0 a1 r h
def Hr (a0:RT) : Option (Arr):=((DZ a0).bind fun x1=>(some ((Arr.mk [] [(Itm.mk 1 x1 0 [])]))))
theorem PY {a0:RT} {r:Arr} (h:Hr a0=some r) :
  Fn Tryz.prog 87 [.ag [.b a0.1,.sl (L a0.2.1),.sl (L a0.2.2)]] (.d (.ag [.sl (Is r.shape),.sl (Its r.items)])):=by
 unfold Hr at h
 refine Fn.ofC (rs:=[.cell 2 30]) (nt:=8) Tryz.func87 rfl rfl rfl (by simp) rfl ?_;refine .sr ?_;refine vk vbx ?_;refine vk (van (Aj AD) AI) ?_;refine rk [1,2] ?_;refine .sr ?_;refine vk (AC IS GI) ?_
 obtain ⟨x1,g1,h⟩:=bnd h
 refine vk (Ak (Hc g1) Tryz.call31) ?_;refine vk (vbd Fc Bv BM) ?_;refine vk ((C6 (Cz (Itm.mk 1 x1 0 [])) (BW [(Itm.mk 1 x1 0 [])]) BA).deep) ?_;refine vk (vbd CF AD AI) ?_
 refine stn ?_ Aa (by decide)
 refine rk [2] ?_;refine .ret ?_
 cases h
 exact ⟨_,⟨.inr rfl,Ac,Aa,p2⟩,rfl⟩
def Fs (a0:Int) : Option (Arr):=((FN a0).bind fun x1=>((Hr x1).bind fun x2=>(some (x2))))
theorem Ks {a0:Int} {r:Arr} (h:Fs a0=some r) :
  Fn Tryz.prog 45 [.i .i64 a0] (.d (.ag [.sl (Is r.shape),.sl (Its r.items)])):=by
 unfold Fs at h
 refine Fn.ofC (rs:=[.cell 2 30]) (nt:=6) Tryz.func45 rfl rfl rfl (by simp) rfl ?_;refine .sr ?_;refine vk (van (Aj AD) AI) ?_;refine rk [0,2] ?_;refine .sr ?_;refine va ?_
 obtain ⟨x1,g1,h⟩:=bnd h
 refine vk (Ak (NO g1) Tryz.call88) ?_
 obtain ⟨x2,g2,h⟩:=bnd h
 refine vk (Ak (PY g2) Tryz.call87) ?_
 refine stn ?_ Aa (by decide)
 refine rk [2] ?_;refine .ret ?_
 cases h
 exact ⟨_,⟨.inr rfl,Ac,Aa,p2⟩,rfl⟩
def Dq (a0:(List Int)) (K0:(List Itm)→Option (Arr)) : Nat→(List Itm)→Int→Option (Arr)
 | 0,_,_=>none
 | k+1,s2,s3=>(if ((decide (s3<((List.length a0:Nat):Int)))&&(decide (s3<4096)))=true then ((rd? a0 s3).bind fun x4=>((Fs x4).bind fun x5=>((rd? x5.items 0).bind fun x6=>((ap? 1466015503701 s2 [x6]).bind fun x7=>(Dq a0 K0 k x7 (w64 (s3+1))))))) else (K0 s2))
def Fr (a0:(List Int)) : Option (Arr):=(jn (fun (z1:(List Itm))=>(jn (fun (z8:(List Itm))=>(some ((Arr.mk [((List.length z1:Nat) : Int)] z8)))) fun K2=>(if ((List.length z1:Nat) : Int)=0 then ((Fs 0).bind fun x9=>(K2 x9.items)) else (K2 z1)))) fun K0=>(Dq a0 K0 Aw [] 0))
theorem N3 {a0:(List Int)} {r:Arr} (h:Fr a0=some r) :
  Fn Tryz.prog 17 [.sl (Is a0)] (.d (.ag [.sl (Is r.shape),.sl (Its r.items)])):=by
 unfold Fr at h
 refine Fn.ofC (rs:=[.cell 2 30]) (nt:=37) Tryz.func17 rfl rfl rfl (by simp) rfl ?_;refine .sr ?_;refine vk (van (Aj AD) AI) ?_;refine rk [0,2] ?_;refine .sr ?_;refine asn ?_;refine rk [0,2,3] ?_;refine .seq ?_;refine .sr ?_;refine ar [0,2,3,4] ?_
 obtain ⟨K0,hK0,h⟩:=AF h
 refine AW.mr (σ:=(List Itm)) (fun p=>K0 p=some r) (fun p=>[(2,.nb [.sl (Is []),.sl (Its [])]),(3,.own 42 (Its p))]) (fun p=>[]) ?_ ?_
 ·skip
  refine .block ?_;refine .gh (Gh.nlOwn (t:=3) 42 (by rw [G8];decide) rfl) ?_
  refine .loop (.gk [0,2,3,4] ?_)
  refine AL.ind (σ:=Nat×(List Itm)×Int) (m:=fun p=>p.1) (e:=fun p=>[(0,.d (.sl (Is a0))),(2,.nb [.sl (Is []),.sl (Its [])]),(3,.own 42 (Its p.2.1)),(4,.d (.i .i64 p.2.2))]) (h:=fun p=>[]) (I:=fun p=>Dq a0 K0 p.1 p.2.1 p.2.2=some r) ?_ (Aw,[],0) h
  rintro ⟨k,s2,s3⟩ h ih
  dsimp only at h ih ⊢
  rcases k with _|k
  ·rw [Dq] at h;cases h
  rw [Dq] at h
  refine .seq ?_;refine .seq ?_;refine AW.mr (σ:=Unit) (fun _=>True) (fun _=>[(0,.d (.sl (Is a0))),(2,.nb [.sl (Is []),.sl (Its [])]),(3,.own 42 (Its s2)),(4,.d (.i .i64 s3)),(13,.d (.b ((decide (s3<((List.length a0:Nat):Int)))&&(decide (s3<4096)))))]) (fun _=>[]) ?_ ?_
  ·skip
   refine .region ?_;refine va ?_;refine va ?_;refine vk (A9 (Af _) (BO _) BL) ?_;refine vb ?_
   by_cases hc:s3<((List.length a0:Nat):Int)
   ·have hb0:(decide (s3<((List.length a0:Nat):Int)))=true:=(dT hc)
    refine vL hb0 ?_;refine va ?_;refine vb ?_;refine vk Ag ?_;refine RL.gk [0,2,3,4,13] ?_;refine .nil ?_
    exact jr () trivial (by simp only [hb0];rfl)
   have hb0:(decide (s3<((List.length a0:Nat):Int)))=false:=(dF hc)
   refine vL hb0 ?_;refine gf2 ?_;refine vk Ag ?_;refine RL.gk [0,2,3,4,13] ?_;refine .nil ?_
   exact jr () trivial (by simp only [hb0];rfl)
  rintro _ _
  rcases brc h with ⟨hc,h⟩|⟨hc,h⟩
  ·refine cnt hc ?_
   refine .sk ?_;refine .seq ?_;refine .block ?_;refine .region ?_;refine mvo ?_;refine va ?_;refine va ?_
   obtain ⟨x4,g4,h⟩:=bnd h
   obtain ⟨n4,p04,q4⟩:=Ae g4
   refine vk (vix n4 p04 (A6 q4) rfl A2) ?_;refine vk (Ai AA) ?_
   obtain ⟨x5,g5,h⟩:=bnd h
   refine vk (Ak (Ks g5) Tryz.call45) ?_;refine vk (XW Au M2) ?_
   obtain ⟨x6,g6,h⟩:=bnd h
   obtain ⟨n6,p06,q6⟩:=Ae g6
   refine vk (vix n6 p06 (CJ q6) rfl CL) ?_;refine vk (AC AJ An) ?_;refine vk ((C6 (Cz x6) (BW [x6]) BA).deep) ?_
   obtain ⟨x7,g7,h⟩:=bnd h
   refine N8 Ew g7 Fk ?_ Ee Aq BA
   refine aso ?_;refine .nil ?_;refine aw ?_;refine .gk [0,2,3,4] ?_;refine .region ?_;refine va ?_;refine vb ?_;refine asd ?_;refine .nil ?_;refine AL.gk [0,2,3,4] ?_
   exact ih (k,x7,(w64 (s3+1))) h (Nat.lt_succ_self _)
  refine cnf (bf hc) ?_;refine .gk [2,3] ?_;refine .exit ?_
  exact jr (s2) h
 rintro z1 h
 try dsimp only at h ⊢
 subst hK0
 refine aw ?_;refine .sr ?_;refine mvo ?_;refine vk (VP (Aq _) Ce) ?_;refine ar [2,3,5] ?_;refine .seq ?_;refine .sr ?_;refine va ?_;refine vb ?_;refine rk [2,3,5,30] ?_
 obtain ⟨K2,hK2,h⟩:=AF h
 refine AW.mr (σ:=(List Itm)) (fun p=>K2 p=some r) (fun p=>[(2,.nb [.sl (Is []),.sl (Its [])]),(3,.d (.sl (Its p))),(5,.d (.i .i64 ((List.length z1:Nat):Int)))]) (fun p=>[]) ?_ ?_
 ·skip
  rcases brc h with ⟨hc,h⟩|⟨hc,h⟩
  ·refine cnt (dT hc) ?_
   refine .region ?_
   obtain ⟨x9,g9,h⟩:=bnd h
   refine vk (Ak (Ks g9) Tryz.call45) ?_;refine vk (XW Au M2) ?_;refine RL.gk [2,5,30,31,32] ?_;refine asd ?_;refine RL.gk [2,3,5] ?_;refine .nil ?_
   exact jr (x9.items) h
  refine cnf (dF hc) ?_;refine .gh (Gh.frz (p:=.t 3) rfl (fun _ _ h=>by cases h)) ?_;refine .gk [2,3,5] ?_;refine .skip ?_
  exact jr (z1) h
 rintro z8 h
 try dsimp only at h ⊢
 subst hK2
 refine aw ?_;refine .sr ?_;refine va ?_;refine vk ((Lp (Eu [((List.length z1:Nat):Int)]) CX).deep) ?_;refine va ?_;refine vk (vbd CF AD AI) ?_
 refine stn ?_ Aa (by decide)
 refine rk [2] ?_;refine .ret ?_
 cases h
 exact ⟨_,⟨.inr rfl,Ac,Aa,p2⟩,rfl⟩
def Tells (x:Option Bool) (p:Prop) : Prop:=∃ r,x=some r∧(r=true↔p)
theorem Tells.of {x:Option Bool} {p q:Prop} (h:Tells x p) (e:p↔q) : Tells x q:=by
 obtain ⟨r,h1,h2⟩:=h;exact ⟨r,h1,h2.trans e⟩
theorem Tells.yes {x:Option Bool} {p:Prop} (h:Tells x p) (hp:p) : x=some true:=by
 obtain ⟨r,h1,h2⟩:=h;rw [h1,h2.2 hp]
theorem Tells.no {x:Option Bool} {p:Prop} (h:Tells x p) (hp:¬p) : x=some false:=by
 obtain ⟨r,h1,h2⟩:=h
 cases r with
 | true=>exact absurd (h2.1 rfl) hp
 | false=>exact h1
theorem A3 {α β:Type} (k:α) (b:α→β) : jn k b=b k:=rfl
theorem Jl {s:List Int} (h:s.length≤17592186044416) : EN s=some s:=by unfold EN;rw [Dw (by simpa using h),List.nil_append]
theorem KE {r:RT} (h:Hq r=true) : C9 r=some r:=by
 have h1:=Hx.1 h
 unfold C9
 rw [Ke,if_pos h1.2.2.1,oB,Ke,if_pos h1.2.2.2,oB]
theorem L5 {r:RT} (h:Hq r=true) : CH r=some (.mk 1 r 0 []):=by
 unfold CH;rw [KE h,oB]
theorem LJ {a:Arr} {f:Ct} {h:Itm→Itm} (hf:∀ x∈a.items,f.g x=some (h x)) (K:List Int→List Itm→Option Arr) (hl:a.items.length≤1466015503701) : ∀ (n i k:Nat) (s:List Int) (t:List Itm),n=a.items.length-i→i≤a.items.length→n<k→t.length=i →
  CE a f K k (i:Int) s t=K s (t++(a.items.drop i).map h)
 | n,i,0,s,t,_,_,h,_=>by omega
 | n,i,k+1,s,t,hn,hi,hk,ht=>by
  rw [CE]
  by_cases hlt:i<a.items.length
  ·rw [if_pos (by omega),AY hlt,oB,hf _ (List.getElem_mem _),oB,Dw (by simp;omega),oB,A4 (by omega),
    LJ hf K hl (n-1) (i+1) k s _ (by omega) (by omega) (by omega) (by simp [ht]),lC hlt,List.map_cons,List.append_assoc]
   rfl
  ·rw [if_neg (by omega),List.drop_of_length_le (by omega)];simp
theorem La {a:Arr} {f:Ct} {h:Itm→Itm} (hf:∀ x∈a.items,f.g x=some (h x)) (hs:a.shape.length≤17592186044416) (hl:a.items.length≤1466015503701) : CI a f=some (.mk a.shape (a.items.map h)):=by
 unfold CI
 rw [Jl hs,oB]
 simp only [jn]
 have:=LJ hf (fun z2 z3=>some (Arr.mk z2 z3)) hl a.items.length 0 Aw a.shape [] rfl (Nat.zero_le _) (AS (by omega)) rfl
 rw [List.drop_zero,show ((0:Nat):Int)=0 from rfl,List.nil_append] at this
 exact this
theorem MW {rc:Itm→Option Itm} {x:Itm} (hb:∀ a∈x.box,okAr a) (hrc:∀ a∈x.box,∀ y∈a.items,rc y=some y) (K:Int→Bool→List Nat→List Nat→Int→List Arr→Option Itm) (hl:x.box.length≤2932031007402) : ∀ (n i k:Nat) (s1:Int) (s2:Bool) (s3 s4:List Nat) (s5:Int) (t:List Arr),n=x.box.length-i→i≤x.box.length→n<k→t.length=i →
  Ej rc x K k (i:Int) s1 s2 s3 s4 s5 t=K s1 s2 s3 s4 s5 (t++x.box.drop i)
 | n,i,0,s1,s2,s3,s4,s5,t,_,_,h,_=>by omega
 | n,i,k+1,s1,s2,s3,s4,s5,t,hn,hi,hk,ht=>by
  rw [Ej]
  by_cases hlt:i<x.box.length
  ·have hm:=List.getElem_mem hlt
   have ho:=(AK _).1 (hb _ hm)
   have hc:=La (a:=x.box[i]) (f:=⟨.fn 78 [] [],fun x=>rc x⟩) (h:=id) (fun y hy=>hrc _ hm y hy) ho.2.1 ho.2.2.1
   rw [List.map_id,Arr.eta] at hc
   rw [if_pos (by omega),AY hlt,oB,hc,oB,Dw (by simp;omega),oB,A4 (by omega),
    MW hb hrc K hl (n-1) (i+1) k s1 s2 s3 s4 s5 _ (by omega) (by omega) (by omega) (by simp [ht]),lC hlt,List.append_assoc]
   rfl
  ·rw [if_neg (by omega),List.drop_of_length_le (by omega)];simp
theorem Od : ∀ (k:Nat) {x:Itm},x.size<k→okI x→Fw k x=some x
 | 0,x,h,_=>by omega
 | k+1,x,h,ho=>by
  have h1:=(C5 x).1 ho
  rw [Fw,IY,KE h1.2.1,oB]
  simp only [jn]
  have:=MW (rc:=Fw k) (x:=x) h1.2.2.2.2 (fun a ha y hy=>Od k (by have:=FS ha;have:=GM hy;omega) (((AK a).1 (h1.2.2.2.2 a ha)).2.2.2 y hy))
   (fun z2 z3 z4 z5 z6 z7=>some (Itm.mk z2 (z3,z4,z5) z6 z7)) h1.2.2.2.1 x.box.length 0 Aw x.kind x.num.1 x.num.2.1 x.num.2.2 x.char [] rfl (Nat.zero_le _) (AS (by omega)) rfl
  rw [List.drop_zero,show ((0:Nat):Int)=0 from rfl,List.nil_append] at this
  rw [this]
  exact congrArg some (Itm.eta x)
theorem Ou {x:Itm} (h:okI x) : Ij x=some x:=Od _ (Nat.lt_succ_self _) h
theorem LK {a:Arr} (h:okAr a) : CI a (⟨.fn 78 [] [],fun x=>Ij x⟩ : Ct)=some a:=by
 have ho:=(AK a).1 h
 have:=La (a:=a) (f:=⟨.fn 78 [] [],fun x=>Ij x⟩) (h:=id) (fun y hy=>Ou (ho.2.2.2 y hy)) ho.2.1 ho.2.2.1
 rwa [List.map_id,Arr.eta] at this
mutual
def smI : Itm→Prop
 | .mk _ n _ b=>okL 1048576 n.2.1=true∧okL 1048576 n.2.2=true∧smAs b
def smA : Arr→Prop
 | .mk _ i=>smIs i
def smIs : List Itm→Prop
 | []=>True
 | x::xs=>smI x∧smIs xs
def smAs : List Arr→Prop
 | []=>True
 | x::xs=>smA x∧smAs xs
end
theorem Itm.ext_iff' (x y:Itm) : x=y↔x.kind=y.kind∧x.char=y.char∧x.num=y.num∧x.box=y.box:=by
 cases x;cases y;simp only [Itm.mk.injEq,Itm.kind,Itm.char,Itm.num,Itm.box]
 constructor
 ·rintro ⟨a,b,c,d⟩;exact ⟨a,c,b,d⟩
 ·rintro ⟨a,b,c,d⟩;exact ⟨a,c,b,d⟩
theorem Arr.ext_iff' (x y:Arr) : x=y↔x.shape=y.shape∧x.items=y.items:=by cases x;cases y;simp only [Arr.mk.injEq,Arr.shape,Arr.items]
theorem Ox {rc:Arr→Arr→Option Bool} {x y:Itm} (hrc:∀ a∈x.box,∀ b∈y.box,Tells (rc a b) (a=b)) (hab:x.box.length=y.box.length) (K:Bool→Option Bool) (hK:∀ s,K s=some true) (hl:x.box.length≤17592186044416) : ∀ (n i k:Nat) (s:Bool),n=x.box.length-i→i≤x.box.length→n<k →
  Tells (B7 rc x y K k s (i:Int)) (x.box.drop i=y.box.drop i)
 | n,i,0,s,_,_,h=>by omega
 | n,i,k+1,s,hn,hi,hk=>by
  rw [B7]
  by_cases hlt:i<x.box.length
  ·have hlt2:i<y.box.length:=by omega
   rw [if_pos (by omega),AY hlt,oB,AY hlt2,oB,lC hlt,lC hlt2]
   obtain ⟨r,h1,h2⟩:=hrc _ (List.getElem_mem hlt) _ (List.getElem_mem hlt2)
   rw [h1,oB]
   by_cases hc:r=true
   ·rw [if_pos hc,A4 (by omega)]
    refine (Ox hrc hab K hK hl (n-1) (i+1) k s (by omega) (by omega) (by omega)).of ?_
    rw [List.cons.injEq];exact ⟨fun h=>⟨h2.1 hc,h⟩,fun h=>h.2⟩
   ·rw [if_neg hc]
    exact ⟨false,rfl,⟨nofun,fun h=>absurd (h2.2 (List.cons.inj h).1) hc⟩⟩
  ·rw [if_neg (by omega),List.drop_of_length_le (by omega),List.drop_of_length_le (by omega),hK];exact ⟨true,rfl,by simp⟩
theorem P3 {rc:Arr→Arr→Option Bool} {x y:Itm} (hx:okI x) (hrc:∀ a∈x.box,∀ b∈y.box,Tells (rc a b) (a=b)) : Tells (C4 rc x y) (x=y):=by
 have ox:=(C5 x).1 hx
 have on:=Hx.1 ox.2.1
 unfold C4
 rw [Itm.ext_iff']
 by_cases h1:x.kind=y.kind
 rotate_left
 ·rw [if_neg h1];exact ⟨false,rfl,by simp [h1]⟩
 rw [if_pos h1]
 by_cases h2:x.char=y.char
 rotate_left
 ·rw [if_neg h2];exact ⟨false,rfl,by simp [h2]⟩
 rw [if_pos h2,MP,if_pos (by simp [on.2.2.1,on.2.2.2]),oB]
 by_cases h3:x.num=y.num
 rotate_left
 ·rw [if_neg (by simpa using h3)];exact ⟨false,rfl,by simp [h3]⟩
 rw [if_pos (by simpa using h3),oB]
 by_cases h4:x.box.length=y.box.length
 rotate_left
 ·rw [if_pos (by simp;omega)];exact ⟨false,rfl,by simp;intro _ _ _ h;rw [h] at h4;exact h4 rfl⟩
 rw [if_neg (by simp;omega)]
 simp only [jn]
 have:=Ox hrc h4 (fun _=>some true) (fun _=>rfl) (nT ox.2.2.2.1 (by decide)) x.box.length 0 Aw false rfl (Nat.zero_le _) (AS (by omega))
 rw [List.drop_zero,List.drop_zero,show ((0:Nat):Int)=0 from rfl] at this
 exact this.of (by simp [h1,h2,h3])
theorem O6 {a b:Arr} (hab:a.shape.length=b.shape.length) (K:Bool→Option Bool) {p:Prop} (hK:∀ s,Tells (K s) p) (hl:a.shape.length≤17592186044416) : ∀ (n i k:Nat) (s:Bool),n=a.shape.length-i→i≤a.shape.length→n<k →
  Tells (Dr a b K k s (i:Int)) (a.shape.drop i=b.shape.drop i∧p)
 | n,i,0,s,_,_,h=>by omega
 | n,i,k+1,s,hn,hi,hk=>by
  rw [Dr]
  by_cases hlt:i<a.shape.length
  ·have hlt2:i<b.shape.length:=by omega
   rw [if_pos (by omega),AY hlt,oB,AY hlt2,oB,lC hlt,lC hlt2]
   by_cases hc:a.shape[i]=b.shape[i]
   ·rw [if_pos hc,A4 (by omega)]
    exact (O6 hab K hK hl (n-1) (i+1) k s (by omega) (by omega) (by omega)).of (by rw [List.cons.injEq];exact ⟨fun h=>⟨⟨hc,h.1⟩,h.2⟩,fun h=>⟨h.1.2,h.2⟩⟩)
   ·rw [if_neg hc]
    exact ⟨false,rfl,⟨nofun,fun h=>absurd (List.cons.inj h.1).1 hc⟩⟩
  ·rw [if_neg (by omega),List.drop_of_length_le (by omega),List.drop_of_length_le (by omega)];exact (hK s).of (by simp)
theorem OJ {rc:Arr→Arr→Option Bool} {a b:Arr} (hrc:∀ x∈a.items,∀ y∈b.items,Tells (C4 rc x y) (x=y)) (hab:a.items.length=b.items.length) (K:Bool→Option Bool) (hK:∀ s,K s=some true) (hl:a.items.length≤17592186044416) : ∀ (n i k:Nat) (s:Bool),n=a.items.length-i→i≤a.items.length→n<k →
  Tells (CN rc a b K k s (i:Int)) (a.items.drop i=b.items.drop i)
 | n,i,0,s,_,_,h=>by omega
 | n,i,k+1,s,hn,hi,hk=>by
  rw [CN]
  by_cases hlt:i<a.items.length
  ·have hlt2:i<b.items.length:=by omega
   rw [if_pos (by omega),AY hlt,oB,AY hlt2,oB,lC hlt,lC hlt2]
   obtain ⟨r,h1,h2⟩:=hrc _ (List.getElem_mem hlt) _ (List.getElem_mem hlt2)
   rw [h1,oB]
   by_cases hc:r=true
   ·rw [if_pos hc,A4 (by omega)]
    refine (OJ hrc hab K hK hl (n-1) (i+1) k s (by omega) (by omega) (by omega)).of ?_
    rw [List.cons.injEq];exact ⟨fun h=>⟨h2.1 hc,h⟩,fun h=>h.2⟩
   ·rw [if_neg hc]
    exact ⟨false,rfl,⟨nofun,fun h=>absurd (h2.2 (List.cons.inj h).1) hc⟩⟩
  ·rw [if_neg (by omega),List.drop_of_length_le (by omega),List.drop_of_length_le (by omega),hK];exact ⟨true,rfl,by simp⟩
theorem Vz {rc:Arr→Arr→Option Bool} {a b:Arr} (oa:a.shape.length≤17592186044416∧a.items.length≤1466015503701) (ih:∀ x∈a.items,∀ y∈b.items,Tells (C4 rc x y) (x=y)) : Tells (Fy rc a b) (a=b):=by
 rw [Fy,Arr.ext_iff']
 by_cases h1:a.shape.length=b.shape.length∧a.items.length=b.items.length
 rotate_left
 ·rw [if_pos (by simp;omega)];exact ⟨false,rfl,by simp;intro e1 e2;exact h1 ⟨by rw [e1],by rw [e2]⟩⟩
 rw [if_neg (by simp;omega)]
 rw [A3]
 have h2:=O6 h1.1 (p:=a.items=b.items) (fun z1=>jn (fun (z6:Bool)=>(some (true))) fun K2=>(CN rc a b K2 Aw z1 0)) (fun s=>by
  rw [A3]
  have h3:=OJ ih h1.2 (fun _=>some true) (fun _=>rfl) (nT oa.2 (by decide)) a.items.length 0 Aw s rfl (Nat.zero_le _) (AS (by omega))
  rw [show ((0:Nat):Int)=0 from rfl,List.drop_zero,List.drop_zero] at h3
  exact h3) oa.1 a.shape.length 0 Aw false rfl (Nat.zero_le _) (AS (by omega))
 rw [show ((0:Nat):Int)=0 from rfl,List.drop_zero,List.drop_zero] at h2
 exact h2
theorem O7 : ∀ (k:Nat) {a b:Arr},a.size<k→okAr a→Tells (E1 k a b) (a=b)
 | 0,a,b,h,_=>by omega
 | k+1,a,b,h,ha=>by
  have oa:=(AK a).1 ha
  rw [E1]
  exact Vz ⟨oa.2.1,oa.2.2.1⟩ fun x hx y hy=>P3 (oa.2.2.2 x hx) fun p hp q hq =>
   O7 k (by have:=GM hx;have:p.size<x.size:=FS hp;omega) (((C5 x).1 (oa.2.2.2 x hx)).2.2.2.2 p hp)
theorem S1 {a b:Arr} (ha:okAr a) : Tells (Hy a b) (a=b):=O7 _ (Nat.lt_succ_self _) ha
section
variable {S:Type} (step:Itm→S→Option (Bool×S))
def Mo : List Itm→S→Int→Option (Int×S)
 | [],s,_=>some (-1,s)
 | x::xs,s,i=>(step x s).bind fun r=>if r.1=true then some (i,r.2) else Mo xs r.2 (i+1)
end
theorem Yv {z:Int} (h1:-9223372036854775808≤z) (h2:z≤9223372036854775807) : w64 z=z:=by
 simp only [w64,IntKind.wrap,IntKind.bits,IntKind.signed];simp;omega
abbrev dvI (x:Itm) : DV:=.ag [.i .u8 x.kind,.b x.num.1,.sl (L x.num.2.1),.sl (L x.num.2.2),.i .i32 x.char,.sl (Ars x.box)]
abbrev dvA (x:Arr) : DV:=.ag [.sl (Is x.shape),.sl (Its x.items)]
set_option maxRecDepth 10000 in
theorem Pq {S:Type} {step:Itm→S→Option (Bool×S)} {st:S→Ad→Prop} {f:FuncId} {caps:List AV} (hcall:∀ args w,(callFunc f args).run Tryz.prog w=.ok (.enter f args) w) (hnc:noOwnL caps=true)
  (hstep:∀ (x:Itm) s r H,st s H→step x s=some r→FnR Tryz.prog f (.d (dvI x)::caps) H fun v H'=>v=.d (.b r.1)∧st r.2 H')
  {xs:List Itm} {s:S} {r:Int×S} (hl:xs.length≤9223372036854775806) (h:Mo step xs s 0=some r) {H:Ad} (hs:st s H) :
  FnR Tryz.prog 119 [.d (.sl (Its xs)),.fn f [] caps] H fun v H'=>v=.d (.i .i64 r.1)∧st r.2 H':=by
 have hfn:noOwn (.fn f [] caps)=true:=by simp [noOwn,noOwnL,hnc]
 refine FnR.of (rs:=[.tmp 4]) 19 Tryz.func119 rfl rfl rfl (by simp) ?_;refine .sr ?_;refine asd ?_;refine rn ?_;refine .seq ?_;refine .sr ?_;refine vk (Ah) ?_;refine vk (A9 (Aq _) (CC _) Ce) ?_;refine vk (Ah) ?_;refine rn ?_;refine .block ?_
 refine .loop (.gh (Gh.keep [0,1,7,8] rfl) ?_)
 refine AL.ind (σ:=Nat×S×Ad) (m:=fun p=>xs.length-p.1) (e:=fun p=>[(0,.d (.sl (Its xs))),(1,.fn f [] caps),(7,.d (.i .i64 ((List.length xs:Nat):Int))),(8,.d (.i .i64 ((p.1:Nat):Int)))]) (h:=fun p=>p.2.2)
  (I:=fun p=>p.1≤xs.length∧st p.2.1 p.2.2∧Mo step (xs.drop p.1) p.2.1 (p.1:Int)=some r) ?_ (0,s,H) ⟨Nat.zero_le _,hs,h⟩
 rintro ⟨i,s,H⟩ ⟨hi,hs,h⟩ ih
 dsimp only at hi hs h ih ⊢
 refine .sr ?_;refine vk (vbi) ?_;refine rn ?_;refine .seq ?_
 by_cases hc:((i:Nat):Int)<((List.length xs:Nat):Int)
 ·refine cnt (dT hc) ?_
  have hlt:i<xs.length:=by omega
  rw [lC hlt,Mo] at h
  obtain ⟨z,hz,h⟩:=bnd h
  refine .skip ?_;refine aw ?_;refine .seq ?_;refine .block ?_;refine .sr ?_;refine vk (Ah) ?_;refine asd ?_;refine rn ?_;refine .sr ?_;refine vk (YJ (av:=.fn f [] caps) (hn:=hfn)) ?_;refine vk (Ah) ?_;refine vk (Ah) ?_;refine vk (vix i rfl (CJ (lG hlt)) rfl CL) ?_;refine vk (AC AJ An) ?_
  refine Zo (avs:=[.d (dvI xs[i])]) (hstep _ _ _ _ hs hz) hcall (fun v H' hp=>?_) (hnc:=hnc)
  obtain ⟨rfl,hs'⟩:=hp
  refine rn ?_
  by_cases hc:z.1=true
  ·refine cnt hc ?_
   rw [if_pos hc] at h
   cases h
   refine .sr ?_;refine vk (Ah) ?_;refine asd ?_;refine rn ?_;refine .ret ?_
   exact ⟨_,⟨rfl,rfl⟩,rfl,hs'⟩
  refine cnf (bf hc) ?_
  rw [if_neg hc] at h
  refine .skip ?_;refine aw ?_;refine .region ?_;refine vk (vbi) ?_;refine vk (Ah) ?_;refine .nil ?_
  have hw:IntKind.wrap .i64 ((i:Int)+1)=((i+1:Nat):Int):=by rw [show IntKind.wrap .i64 ((i:Int)+1)=(i:Int)+1 from Yv (by omega) (by omega)];omega
  rw [hw]
  refine AL.gh (Gh.keep [0,1,7,8] rfl) ?_
  exact ih (i+1,z.2,H') ⟨hlt,hs',by rw [← h];simp⟩ (by dsimp only;omega)
 ·refine cnf (dF hc) ?_
  have:i=xs.length:=by omega
  subst this
  rw [List.drop_length,Mo] at h
  cases h
  refine .exit ?_;refine aw ?_;refine .sr ?_;refine asd ?_;refine rn ?_;refine .ret ?_
  exact ⟨_,⟨rfl,rfl⟩,rfl,hs⟩
theorem Ip {S:Type} {step:Itm→S→Option (Bool×S)} {st:S→Ad→Prop} {f:FuncId} {caps:List AV} (hcall:∀ args w,(callFunc f args).run Tryz.prog w=.ok (.enter f args) w) (hnc:noOwnL caps=true)
  (hstep:∀ (x:Itm) s r H,st s H→step x s=some r→FnR Tryz.prog f (.d (dvI x)::caps) H fun v H'=>v=.d (.b r.1)∧st r.2 H')
  {xs:List Itm} {s:S} {r:Int×S} (hl:xs.length≤9223372036854775806) (h:Mo step xs s 0=some r) {H:Ad} (hs:st s H) :
  FnR Tryz.prog 72 [.d (.sl (Its xs)),.fn f [] caps] H fun v H'=>v=.d (.b (decide (0≤r.1)))∧st r.2 H':=by
 have hfn:noOwn (.fn f [] caps)=true:=by simp [noOwn,noOwnL,hnc]
 refine FnR.of (rs:=[.tmp 4]) 9 Tryz.func72 rfl rfl rfl (by simp) ?_;refine .sr ?_;refine asd ?_;refine rn ?_;refine .sr ?_;refine vk (Ah) ?_;refine vk (YJ (av:=.fn f [] caps) (hn:=hfn)) ?_
 refine clR (avs:=[.d (.sl (Its xs)),.fn f [] caps]) (Pq hcall hnc hstep hl h hs) Tryz.call119 (fun v H' hp=>?_) (ha:=by simp [argsA,lk,get,hfn,A5,noOwn])
 obtain ⟨rfl,hs'⟩:=hp
 refine vk (vbi) ?_;refine asd ?_;refine rn ?_;refine .ret ?_
 exact ⟨_,⟨rfl,rfl⟩,rfl,hs'⟩
abbrev M3:=Bool×Int×Int
abbrev EB (c d:Int) : HO:=.box [.d (.i .i64 c),.d (.i .i64 d)]
def Upd (H:Ad) (id:Nat) (o:HO) (H':Ad) : Prop:=H'[id]?=some o∧H.length≤H'.length∧∀ j,j≠id→j<H.length→H'[j]?=H[j]?
theorem Upd.same {H:Ad} {id:Nat} {o:HO} (h:H[id]?=some o) : Upd H id o H:=⟨h,Nat.le_refl _,fun _ _ _=>rfl⟩
theorem Upd.trans {H H' H'':Ad} {id:Nat} {o o':HO} (h:Upd H id o H') (k:Upd H' id o' H'') : Upd H id o' H'' :=
 ⟨k.1,nT h.2.1 k.2.1,fun j h1 h2=>(k.2.2 j h1 (nL h2 h.2.1)).trans (h.2.2 j h1 h2)⟩
def PE (id:Nat) (r:M3) (H:Ad) : AV→Ad→Prop:=fun v H'=>v=.d (.b r.1)∧Upd H id (EB r.2.1 r.2.2) H'
theorem PE.refl {id:Nat} {b:Bool} {c d:Int} {H:Ad} (h:H[id]?=some (EB c d)) : PE id (b,c,d) H (.d (.b b)) H:=⟨rfl,.same h⟩
def OA (rc:Arr→Int→Int→Int→Option M3) : Prop:=∀ (a:Arr) (deep c d:Int) (r:M3),rc a deep c d=some r→∀ (H:Ad) (id:Nat),H[id]?=some (EB c d) →
 FnR Tryz.prog 106 [.bp id 0,.d (dvA a),.d (.i .i64 deep)] H (PE id r H)
def C7 (a1:Itm) : Bool:=((!a1.num.1)&&((decide (((List.length a1.num.2.1:Nat) : Int)=0))&&(decide (((List.length a1.num.2.2:Nat) : Int)=0))))
def NV (rc:Arr→Int→Int→Int→Option M3) (a1:Itm) (a2 c d:Int) : Option M3:=(if a1.kind=1 then ((Kn a1.num).bind fun x1=>(some ((x1&&((decide (a1.char=0))&&(decide (((List.length a1.box:Nat) : Int)=0)))),c,d))) else (if a1.kind=2 then ((Gb a1.char).bind fun x2=>(some ((x2&&(C7 a1&&(decide (((List.length a1.box:Nat) : Int)=0)))),c,d))) else (if a1.kind=3 then (if ((List.length a1.box:Nat) : Int)=1 then (if C7 a1=true then (if a1.char=0 then ((rd? a1.box 0).bind fun x4=>((DE x4).bind fun x5=>(if x5=true then (some (false,c,d)) else ((rd? a1.box 0).bind fun x6=>((rc x6 a2 c d).bind fun x7=>(some x7)))))) else (some (false,c,d))) else (some (false,c,d))) else (some (false,c,d))) else (some (false,c,d)))))
set_option maxHeartbeats 4000000 in
theorem I6 {rc:Arr→Int→Int→Int→Option M3} (orc:OA rc) {a1:Itm} {a2 c d:Int} {r:M3} (h:NV rc a1 a2 c d=some r) {H:Ad} {id:Nat} (hH:H[id]?=some (EB c d)) :
  FnR Tryz.prog 120 [.bp id 0,.d (dvI a1),.d (.i .i64 a2)] H (PE id r H):=by
 unfold NV C7 at h
 refine FnR.of (rs:=[.tmp 6]) 89 Tryz.func120 rfl rfl rfl (by simp) ?_;refine .sr ?_;refine vk (vbx) ?_;refine asd ?_;refine rn ?_;refine .gh (Gh.keep [0,2,4,6] rfl) ?_;refine .seq ?_;refine AW.mr (σ:=Unit) (fun _=>True) (fun _=>[(0,.bp id 0),(2,.d (.i .i64 a2)),(4,.d (.ptr [.i .u8 a1.kind,.b a1.num.1,.sl (L a1.num.2.1),.sl (L a1.num.2.2),.i .i32 a1.char,.sl (Ars a1.box)])),(6,.d (.b false)),(7,.d (.b ((!a1.num.1)&&((decide (((List.length a1.num.2.1:Nat):Int)=0))&&(decide (((List.length a1.num.2.2:Nat):Int)=0))))))]) (fun _=>H) ?_ ?_
 ·skip
  refine .region ?_;refine vk (vfa BX) ?_;refine vk (vfa G0) ?_;refine vk (Ai FC) ?_;refine vk (vnt) ?_
  by_cases hc:a1.num.1=true
  ·have hb0:(!a1.num.1)=false:=(ntf hc)
   refine vk (VOK.lit (Ah) hb0) ?_;refine gf4 ?_;refine gf ?_;refine vk (Ag) ?_;refine vk (Ah) ?_;refine gf4 ?_;refine gf ?_;refine vk (Ag) ?_;refine asd ?_;refine RL.gh (Gh.keep [0,2,4,6,7] rfl) ?_;refine .nil ?_
   exact jr () trivial (by simp only [hb0];rfl)
  have hb0:(!a1.num.1)=true:=(ntt (bf hc))
  refine vk (VOK.lit (Ah) hb0) ?_;refine vk (vfa BX) ?_;refine vk (vfa Hd) ?_;refine vk (Ai IE) ?_;refine vk (A9 (Ab _) (BP _) Wt) ?_;refine vk (vbi) ?_;refine vk (Ag) ?_
  by_cases hc:((List.length a1.num.2.1:Nat):Int)=0
  ·have hb1:(decide (((List.length a1.num.2.1:Nat):Int)=0))=true:=(dT hc)
   refine vk (VOK.lit (Ah) hb1) ?_;refine vk (vfa BX) ?_;refine vk (vfa Ie) ?_;refine vk (Ai IE) ?_;refine vk (A9 (Ab _) (BP _) Wt) ?_;refine vk (vbi) ?_;refine vk (Ag) ?_;refine asd ?_;refine RL.gh (Gh.keep [0,2,4,6,7] rfl) ?_;refine .nil ?_
   exact jr () trivial (by simp only [hb0,hb1];rfl)
  have hb1:(decide (((List.length a1.num.2.1:Nat):Int)=0))=false:=(dF hc)
  refine vk (VOK.lit (Ah) hb1) ?_;refine gf4 ?_;refine gf ?_;refine vk (Ag) ?_;refine asd ?_;refine RL.gh (Gh.keep [0,2,4,6,7] rfl) ?_;refine .nil ?_
  exact jr () trivial (by simp only [hb0,hb1];rfl)
 rintro _ _
 refine .seq ?_;refine .sr ?_;refine vk (vfa B2) ?_;refine vk (Ai A7) ?_;refine rn ?_;refine .gh (Gh.keep [0,2,4,6,7,27] rfl) ?_;refine .block ?_;refine .sr ?_;refine vk (vbi) ?_;refine asd ?_;refine rn ?_;refine .gh (Gh.keep [0,2,4,6,7,27,28] rfl) ?_
 rcases brc h with ⟨hc,h⟩|⟨hc,h⟩
 ·refine cnt (dT hc) ?_
  refine .seq ?_
  obtain ⟨x1,hx1,h⟩:=bnd h
  refine AW.mr (σ:=Unit) (fun _=>True) (fun _=>[(6,.d (.b (x1&&((decide (a1.char=0))&&(decide (((List.length a1.box:Nat):Int)=0))))))]) (fun _=>H) ?_ ?_
  ·skip
   refine .region ?_;refine vk (vfa BX) ?_;refine vk (AC IS GI) ?_;refine vk (Ak (LR hx1) Tryz.call147) ?_
   by_cases hc:x1=true
   ·have hb0:x1=true:=hc
    refine vk (VOK.lit (Ah) hb0) ?_;refine vk (vfa Da) ?_;refine vk (Ai Dc) ?_;refine vk (vbi) ?_;refine vk (Ag) ?_
    by_cases hc:a1.char=0
    ·have hb1:(decide (a1.char=0))=true:=(dT hc)
     refine vk (VOK.lit (Ah) hb1) ?_;refine vk (vfa AQ) ?_;refine vk (Ai BF) ?_;refine vk (A9 (Ba _) (Ea _) Eb) ?_;refine vk (vbi) ?_;refine vk (Ag) ?_;refine asd ?_;refine RL.gh (Gh.keep [6] rfl) ?_;refine .nil ?_
     exact jr () trivial (by simp only [hb0,hb1];rfl)
    have hb1:(decide (a1.char=0))=false:=(dF hc)
    refine vk (VOK.lit (Ah) hb1) ?_;refine gf4 ?_;refine vk (Ag) ?_;refine asd ?_;refine RL.gh (Gh.keep [6] rfl) ?_;refine .nil ?_
    exact jr () trivial (by simp only [hb0,hb1];rfl)
   have hb0:x1=false:=(bf hc)
   refine vk (VOK.lit (Ah) hb0) ?_;refine gf3 ?_;refine vk (Ag) ?_;refine vk (Ah) ?_;refine gf4 ?_;refine vk (Ag) ?_;refine asd ?_;refine RL.gh (Gh.keep [6] rfl) ?_;refine .nil ?_
   exact jr () trivial (by simp only [hb0];rfl)
  rintro _ _
  refine .ret ?_
  cases h
  exact ⟨_,⟨rfl,rfl⟩,.refl hH⟩
 refine cnf (dF hc) ?_;refine .sr ?_;refine vk (vbi) ?_;refine asd ?_;refine rn ?_;refine .gh (Gh.keep [0,2,4,6,7,27,44] rfl) ?_
 rcases brc h with ⟨hc,h⟩|⟨hc,h⟩
 ·refine cnt (dT hc) ?_
  refine .seq ?_
  obtain ⟨x2,hx2,h⟩:=bnd h
  refine AW.mr (σ:=Unit) (fun _=>True) (fun _=>[(6,.d (.b (x2&&(((!a1.num.1)&&((decide (((List.length a1.num.2.1:Nat):Int)=0))&&(decide (((List.length a1.num.2.2:Nat):Int)=0))))&&(decide (((List.length a1.box:Nat):Int)=0))))))]) (fun _=>H) ?_ ?_
  ·skip
   refine .region ?_;refine vk (vfa Da) ?_;refine vk (Ai Dc) ?_;refine vk (Ak (Mv hx2) Tryz.call148) ?_
   by_cases hc:x2=true
   ·have hb0:x2=true:=hc
    refine vk (VOK.lit (Ah) hb0) ?_;refine vk (Ah) ?_;refine vk (Ag) ?_
    by_cases hc:((!a1.num.1)&&((decide (((List.length a1.num.2.1:Nat):Int)=0))&&(decide (((List.length a1.num.2.2:Nat):Int)=0))))=true
    ·have hb1:((!a1.num.1)&&((decide (((List.length a1.num.2.1:Nat):Int)=0))&&(decide (((List.length a1.num.2.2:Nat):Int)=0))))=true:=hc
     refine vk (VOK.lit (Ah) hb1) ?_;refine vk (vfa AQ) ?_;refine vk (Ai BF) ?_;refine vk (A9 (Ba _) (Ea _) Eb) ?_;refine vk (vbi) ?_;refine vk (Ag) ?_;refine asd ?_;refine RL.gh (Gh.keep [6] rfl) ?_;refine .nil ?_
     exact jr () trivial (by simp only [hb0,hb1];rfl)
    have hb1:((!a1.num.1)&&((decide (((List.length a1.num.2.1:Nat):Int)=0))&&(decide (((List.length a1.num.2.2:Nat):Int)=0))))=false:=(bf hc)
    refine vk (VOK.lit (Ah) hb1) ?_;refine gf4 ?_;refine vk (Ag) ?_;refine asd ?_;refine RL.gh (Gh.keep [6] rfl) ?_;refine .nil ?_
    exact jr () trivial (by simp only [hb0,hb1];rfl)
   have hb0:x2=false:=(bf hc)
   refine vk (VOK.lit (Ah) hb0) ?_;refine gf ?_;refine vk (Ag) ?_;refine vk (Ah) ?_;refine gf4 ?_;refine vk (Ag) ?_;refine asd ?_;refine RL.gh (Gh.keep [6] rfl) ?_;refine .nil ?_
   exact jr () trivial (by simp only [hb0];rfl)
  rintro _ _
  refine .ret ?_
  cases h
  exact ⟨_,⟨rfl,rfl⟩,.refl hH⟩
 refine cnf (dF hc) ?_;refine .sr ?_;refine vk (vbi) ?_;refine asd ?_;refine rn ?_;refine .gh (Gh.keep [0,2,4,6,7,58] rfl) ?_
 rcases brc h with ⟨hc,h⟩|⟨hc,h⟩
 ·refine cnt (dT hc) ?_
  refine .seq ?_
  ·skip
   refine .region ?_;refine vk (vfa AQ) ?_;refine vk (Ai BF) ?_;refine vk (A9 (Ba _) (Ea _) Eb) ?_;refine vk (vbi) ?_
   rcases brc h with ⟨hc,h⟩|⟨hc,h⟩
   ·have hb0:(decide (((List.length a1.box:Nat):Int)=1))=true:=(dT hc)
    refine vk (VOK.lit (Ah) hb0) ?_;refine vk (Ah) ?_;refine vk (Ag) ?_
    rcases brc h with ⟨hc,h⟩|⟨hc,h⟩
    ·have hb1:((!a1.num.1)&&((decide (((List.length a1.num.2.1:Nat):Int)=0))&&(decide (((List.length a1.num.2.2:Nat):Int)=0))))=true:=hc
     refine vk (VOK.lit (Ah) hb1) ?_;refine vk (vfa Da) ?_;refine vk (Ai Dc) ?_;refine vk (vbi) ?_;refine vk (Ag) ?_
     rcases brc h with ⟨hc,h⟩|⟨hc,h⟩
     ·have hb2:(decide (a1.char=0))=true:=(dT hc)
      refine vk (VOK.lit (Ah) hb2) ?_;refine vk (vfa AQ) ?_;refine vk (Ai BF) ?_
      obtain ⟨x4,hx4,h⟩:=bnd h
      obtain ⟨nx4,hnx4,hxx4⟩:=Ae hx4
      refine vk (vix nx4 hnx4 (D1 hxx4) rfl DU) ?_;refine vk (AC Ac Aa) ?_
      obtain ⟨x5,hx5,h⟩:=bnd h
      refine vk (Ak (GV hx5) Tryz.call144) ?_;refine vk (vnt) ?_;refine vk (Ag) ?_
      rcases brc h with ⟨hc,h⟩|⟨hc,h⟩
      ·have hb3:(!x5)=false:=(ntf hc)
       refine vk (VOK.lit (Ah) hb3) ?_;refine gf4 ?_;refine gf3 ?_;refine vk (Ag) ?_;refine asd ?_;refine rn ?_;refine .gh (Gh.keep [6] rfl) ?_;refine .ret ?_
       cases h
       exact ⟨_,⟨rfl,rfl⟩,.refl hH⟩
      have hb3:(!x5)=true:=(ntt (bf hc))
      refine vk (VOK.lit (Ah) hb3) ?_;refine vk (YJ (av:=.bp id 0)) ?_;refine vk (vfa AQ) ?_;refine vk (Ai BF) ?_
      obtain ⟨x6,hx6,h⟩:=bnd h
      obtain ⟨nx6,hnx6,hxx6⟩:=Ae hx6
      refine vk (vix nx6 hnx6 (D1 hxx6) rfl DU) ?_;refine vk (AC Ac Aa) ?_;refine vk (Ah) ?_
      obtain ⟨x7,hx7,h⟩:=bnd h
      refine clR (avs:=[.bp id 0,.d (dvA x6),.d (.i .i64 a2)]) (orc x6 a2 c d x7 hx7 H id hH) Tryz.call106 (fun v H' hp=>?_)
      obtain ⟨rfl,hp⟩:=hp
      refine vk (Ag) ?_;refine asd ?_;refine rn ?_;refine .gh (Gh.keep [6] rfl) ?_;refine .ret ?_
      cases h
      exact ⟨_,⟨rfl,rfl⟩,rfl,hp⟩
     have hb2:(decide (a1.char=0))=false:=(dF hc)
     refine vk (VOK.lit (Ah) hb2) ?_;refine gf4 ?_;refine gf2 ?_;refine vk (Ag) ?_;refine vk (Ah) ?_;refine gf4 ?_;refine gf3 ?_;refine vk (Ag) ?_;refine asd ?_;refine rn ?_;refine .gh (Gh.keep [6] rfl) ?_;refine .ret ?_
     cases h
     exact ⟨_,⟨rfl,rfl⟩,.refl hH⟩
    have hb1:((!a1.num.1)&&((decide (((List.length a1.num.2.1:Nat):Int)=0))&&(decide (((List.length a1.num.2.2:Nat):Int)=0))))=false:=(bf hc)
    refine vk (VOK.lit (Ah) hb1) ?_;refine gf3 ?_;refine vk (Ag) ?_;refine vk (Ah) ?_;refine gf4 ?_;refine gf2 ?_;refine vk (Ag) ?_;refine vk (Ah) ?_;refine gf4 ?_;refine gf3 ?_;refine vk (Ag) ?_;refine asd ?_;refine rn ?_;refine .gh (Gh.keep [6] rfl) ?_;refine .ret ?_
    cases h
    exact ⟨_,⟨rfl,rfl⟩,.refl hH⟩
   have hb0:(decide (((List.length a1.box:Nat):Int)=1))=false:=(dF hc)
   refine vk (VOK.lit (Ah) hb0) ?_;refine gf ?_;refine vk (Ag) ?_;refine vk (Ah) ?_;refine gf3 ?_;refine vk (Ag) ?_;refine vk (Ah) ?_;refine gf4 ?_;refine gf2 ?_;refine vk (Ag) ?_;refine vk (Ah) ?_;refine gf4 ?_;refine gf3 ?_;refine vk (Ag) ?_;refine asd ?_;refine rn ?_;refine .gh (Gh.keep [6] rfl) ?_;refine .ret ?_
   cases h
   exact ⟨_,⟨rfl,rfl⟩,.refl hH⟩
 refine cnf (dF hc) ?_;refine .skip ?_;refine aw ?_;refine .sr ?_;refine asd ?_;refine rn ?_;refine .gh (Gh.keep [6] rfl) ?_;refine .ret ?_
 cases h
 exact ⟨_,⟨rfl,rfl⟩,.refl hH⟩
def Ky (rc:Arr→Int→Int→Int→Option M3) (deep:Int) : List Itm→Int→Int→Option M3
 | [],c,d=>some (true,c,d)
 | x::xs,c,d=>(NV rc x deep c d).bind fun z=>if z.1=true then Ky rc deep xs z.2.1 z.2.2 else some (false,z.2.1,z.2.2)
def QF (rc:Arr→Int→Int→Int→Option M3) (deep:Int) (x:Itm) (s:Int×Int) : Option (Bool×(Int×Int)):=(NV rc x deep s.1 s.2).map fun z=>(!z.1,z.2)
theorem Qa {rc:Arr→Int→Int→Int→Option M3} {deep:Int} : ∀ {xs:List Itm} {c d:Int} {z:M3} {i:Int},0≤i→Ky rc deep xs c d=some z→∃ n,Mo (QF rc deep) xs (c,d) i=some (n,z.2)∧(!decide (0≤n))=z.1
 | [],c,d,z,i,_,h=>by cases h;exact ⟨-1,rfl,rfl⟩
 | x::xs,c,d,z,i,hi,h=>by
  rw [Ky] at h
  obtain ⟨y,hy,h⟩:=bnd h
  have hs:QF rc deep x (c,d)=some (!y.1,y.2):=by simp [QF,hy]
  by_cases hc:y.1=true
  ·rw [if_pos hc] at h
   obtain ⟨n,h1,h2⟩:=Qa (i:=i+1) (by omega) h
   refine ⟨n,?_,h2⟩
   rw [Mo,hs,oB,if_neg (by simp [hc])];exact h1
  ·rw [if_neg hc] at h
   cases h
   refine ⟨i,?_,by simp [hi]⟩
   rw [Mo,hs,oB,if_pos (by simp [hc])]
theorem Lj {rc:Arr→Int→Int→Int→Option M3} (orc:OA rc) {x:Itm} {deep c d:Int} {z:M3} (h:NV rc x deep c d=some z) {H:Ad} {id n3 n5:Nat} (hH:H[id]?=some (EB c d)) (h3:H[n3]?=some (.box [.bp id 0])) (h5:H[n5]?=some (.box [.d (.i .i64 deep)])) :
  FnR Tryz.prog 145 [.d (dvI x),.bp n3 0,.bp n5 0] H fun v H'=>v=.d (.b (!z.1))∧Upd H id (EB z.2.1 z.2.2) H':=by
 refine FnR.of (rs:=[.tmp 4]) 10 Tryz.func145 rfl rfl rfl (by simp) ?_;refine .sr ?_;refine vk (vbx) ?_;refine asd ?_;refine rn ?_;refine .sr ?_;refine vk (OZ (cs:=[.bp id 0]) (c:=.bp id 0) h3 rfl (by kernel_rfl)) ?_;refine vk (AC AJ An) ?_;refine vk (Sm (cs:=[.d (.i .i64 deep)]) (c:=.i .i64 deep) h5 rfl AA) ?_
 refine clR (avs:=[.bp id 0,.d (dvI x),.d (.i .i64 deep)]) (I6 orc h hH) Tryz.call120 (fun v H' hp=>?_)
 obtain ⟨rfl,hp⟩:=hp
 refine vk (vnt) ?_;refine asd ?_;refine rn ?_;refine .ret ?_
 exact ⟨_,⟨rfl,rfl⟩,rfl,hp⟩
theorem Upd.set_new {H H':Ad} {id n:Nat} {o x:HO} (k:Upd H id o H') (h1:H.length≤n) (h2:n≠id) : Upd H id o (H'.set n x) :=
 ⟨by rw [List.getElem?_set_ne h2];exact k.1,by simpa using k.2.1,fun j h3 h4=>by rw [List.getElem?_set_ne (by omega)];exact k.2.2 j h3 h4⟩
theorem Upd.set_id {H H':Ad} {id:Nat} {o o':HO} (k:Upd H id o H') : Upd H id o' (H'.set id o') :=
 ⟨List.getElem?_set_self (lS.1 k.1).1,by simpa using k.2.1,fun j h3 h4=>by rw [List.getElem?_set_ne (Ne.symm h3)];exact k.2.2 j h3 h4⟩
def VN (rc:Arr→Int→Int→Int→Option M3) (a:Arr) (deep c d:Int) : Option M3 :=
 (D0 a.shape).bind fun x1 =>
  if x1.2=0 then
   if ((List.length a.items:Nat):Int)=(if x1.1<1 then 1 else x1.1) then
    if 16384<w64 (c+((List.length a.items:Nat):Int)) then some (false,w64 (c+((List.length a.items:Nat):Int)),d) else
    (DE a).bind fun sm =>
     if sm=true then (if deep≤16 then Ky rc deep a.items (w64 (c+((List.length a.items:Nat):Int))) d else some (false,w64 (c+((List.length a.items:Nat):Int)),d))
     else (if w64 (deep+1)≤16 then Ky rc (w64 (deep+1)) a.items (w64 (c+((List.length a.items:Nat):Int))) (if d<w64 (deep+1) then w64 (deep+1) else d) else some (false,w64 (c+((List.length a.items:Nat):Int)),(if d<w64 (deep+1) then w64 (deep+1) else d)))
   else some (false,c,d)
  else some (false,c,d)
set_option maxHeartbeats 4000000 in
set_option maxRecDepth 20000 in
theorem Ms {rc:Arr→Int→Int→Int→Option M3} (orc:OA rc) {a:Arr} {deep c d:Int} {r:M3} (hlen:a.items.length≤9223372036854775806) (h:VN rc a deep c d=some r) {H:Ad} {id:Nat} (hH:H[id]?=some (EB c d)) :
  FnR Tryz.prog 106 [.bp id 0,.d (dvA a),.d (.i .i64 deep)] H (PE id r H):=by
 unfold VN at h
 have hid:id<H.length:=(lS.1 hH).1
 refine FnR.of (rs:=[.tmp 6]) 63 Tryz.func106 rfl rfl rfl (by simp) ?_;refine .sr ?_;refine bxA (c:=.bp id 0) ?_;refine vk (vbx) ?_;refine bxA (c:=.d (.i .i64 deep)) ?_;refine asd ?_
 have f0:Upd H id (EB c d) (H++[.box [.bp id 0]]++[.box [.d (.i .i64 deep)]]):=by
  refine ⟨?_,by simp,fun j h1 h2=>?_⟩
  ·rw [List.append_assoc,List.getElem?_append_left hid];exact hH
  ·rw [List.append_assoc,List.getElem?_append_left h2]
 have f3:(H++[HO.box [AV.bp id 0]]++[.box [.d (.i .i64 deep)]])[H.length]?=some (.box [.bp id 0]):=by simp
 have f5:(H++[HO.box [AV.bp id 0]]++[.box [.d (.i .i64 deep)]])[(H++[HO.box [AV.bp id 0]]).length]?=some (.box [.d (.i .i64 deep)]):=by
  rw [List.getElem?_append_right (Nat.le_refl _)];simp
 have g3:H.length≠id:=by omega
 have g5:(H++[HO.box [AV.bp id 0]]).length≠id:=by simp;omega
 have g5':H.length≤(H++[HO.box [AV.bp id 0]]).length:=by simp
 have g35:H.length≠(H++[HO.box [AV.bp id 0]]).length:=by simp
 have g3':H.length≤H.length:=Nat.le_refl _
 generalize H++[HO.box [AV.bp id 0]]++[.box [.d (.i .i64 deep)]]=H2 at f0 f3 f5 ⊢
 generalize (H++[HO.box [AV.bp id 0]]).length=n5 at f5 g5 g5' g35 ⊢
 obtain ⟨n3,hn3⟩:∃ n3,n3=H.length:=⟨_,rfl⟩
 rw [← hn3] at f3 g3 g35
 rw [← hn3]
 have f1:=f0.1
 refine rn ?_;refine .gh (Gh.keep [3,4,5] rfl) ?_;refine .sr ?_;refine vk (vfa Ay) ?_;refine vk (Ai Bh) ?_
 obtain ⟨x1,hx1,h⟩:=bnd h
 refine vk (VOK.tupd (vs:=[.i .i64 x1.1,.i .i64 x1.2]) (Ak (ED hx1) Tryz.call34)) ?_;refine vk (Ah) ?_;refine vk (vex) ?_;refine vk (vex) ?_;refine asd ?_;refine asd ?_;refine rn ?_;refine .gh (Gh.keep [3,4,5,7,8] rfl) ?_;refine .seq ?_;refine .sr ?_;refine vk (Ah) ?_;refine vk (vbi) ?_
 by_cases hc:x1.2=0
 rotate_left
 ·rw [if_neg hc] at h
  cases h
  refine vk (VOK.lit (Ah) (show (!decide (x1.2=0))=true by simp [hc])) ?_;refine gf4 ?_;refine gf2 ?_;refine vk (Ag) ?_;refine rn ?_;refine cnt rfl ?_;refine .sr ?_;refine asd ?_;refine rn ?_;refine .ret ?_
  exact ⟨_,⟨rfl,rfl⟩,rfl,f0⟩
 rw [if_pos hc] at h
 refine vk (VOK.lit (Ah) (show (!decide (x1.2=0))=false by simp [hc])) ?_;refine vk (vfa Au) ?_;refine vk (Ai Bp) ?_;refine vk (A9 (Aq _) (CC _) Ce) ?_;refine vk (Ah) ?_;refine vk (vmx) ?_;refine vk (vbi) ?_;refine vk (Ag) ?_;refine rn ?_
 by_cases hc:((List.length a.items:Nat):Int)=(if x1.1<1 then 1 else x1.1)
 rotate_left
 ·rw [if_neg hc] at h
  cases h
  refine cnt (ntt (dF hc)) ?_;refine .sr ?_;refine asd ?_;refine rn ?_;refine .ret ?_
  exact ⟨_,⟨rfl,rfl⟩,rfl,f0⟩
 rw [if_pos hc] at h
 refine cnf (ntf (dT hc)) ?_;refine .skip ?_;refine aw ?_;refine .gh (Gh.keep [3,4,5] rfl) ?_;refine .seq ?_;refine .drawn 10 Bw (by kernel_rfl) ?_;refine dv (OZ (cs:=[.bp id 0]) (c:=.bp id 0) f3 rfl (by kernel_rfl)) ?_;refine dv (Wb) ?_;refine dv (DX ME) ?_;refine dv (Sm (cs:=[.d (.i .i64 c),.d (.i .i64 d)]) (c:=.i .i64 c) f1 rfl AA) ?_;refine dv (vfa Au) ?_;refine dv (Ai Bp) ?_;refine dv (A9 (Aq _) (CC _) Ce) ?_;refine dv (vbi) ?_;refine dv (Wb) ?_;refine dv (DX ME) ?_;refine dz ?_
 refine stb (cs:=[.d (.i .i64 c),.d (.i .i64 d)]) (c:=.d (.i .i64 c)) f1 rfl ?_ Dh
 have q0:=f0.set_id (o':=EB (w64 (c+((List.length a.items:Nat):Int))) d)
 have q3:(H2.set id (EB (w64 (c+((List.length a.items:Nat):Int))) d))[n3]?=some (.box [.bp id 0]):=by rw [List.getElem?_set_ne (Ne.symm g3)];exact f3
 have q5:(H2.set id (EB (w64 (c+((List.length a.items:Nat):Int))) d))[n5]?=some (.box [.d (.i .i64 deep)]):=by rw [List.getElem?_set_ne (Ne.symm g5)];exact f5
 refine rn ?_
 change AW _ _ _ _ _ (H2.set id (EB (w64 (c+((List.length a.items:Nat):Int))) d))
 generalize H2.set id (EB (w64 (c+((List.length a.items:Nat):Int))) d)=H3 at q0 q3 q5 ⊢
 generalize w64 (c+((List.length a.items:Nat):Int))=c1 at h q0 ⊢
 have q1:=q0.1
 refine .gh (Gh.keep [3,4,5] rfl) ?_;refine .seq ?_;refine .sr ?_;refine vk (OZ (cs:=[.bp id 0]) (c:=.bp id 0) q3 rfl (by kernel_rfl)) ?_;refine vk (Wb) ?_;refine vk (DX ME) ?_;refine vk (Sm (cs:=[.d (.i .i64 c1),.d (.i .i64 d)]) (c:=.i .i64 c1) q1 rfl AA) ?_;refine vk (vbi) ?_;refine rn ?_
 by_cases hc:16384<c1
 ·rw [if_pos hc] at h
  cases h
  refine cnt (dT hc) ?_;refine .sr ?_;refine asd ?_;refine rn ?_;refine .ret ?_
  exact ⟨_,⟨rfl,rfl⟩,rfl,q0⟩
 rw [if_neg hc] at h
 refine cnf (dF hc) ?_;refine .skip ?_;refine aw ?_;refine .gh (Gh.keep [3,4,5] rfl) ?_;refine .seq ?_
 obtain ⟨sm,hsm,h⟩:=bnd h
 refine .sr ?_;refine vk (AC Ac Aa) ?_;refine vk (Ak (GV hsm) Tryz.call144) ?_;refine vk (vnt) ?_;refine rn ?_
 refine AW.mr (σ:=Ad×Int×Int) (fun s=>Upd H id (EB c1 s.2.2) s.1∧s.1[n3]?=some (.box [.bp id 0])∧s.1[n5]?=some (.box [.d (.i .i64 s.2.1)])∧(if s.2.1≤16 then Ky rc s.2.1 a.items c1 s.2.2 else some (false,c1,s.2.2))=some r)
  (fun _=>[(3,.bp n3 0),(4,.d (.ptr [.sl (Is a.shape),.sl (Its a.items)])),(5,.bp n5 0)]) (fun s=>s.1) ?_ ?_
 ·by_cases hs:sm=true
  ·rw [if_pos hs] at h
   refine cnf (ntf hs) ?_;refine .gh (Gh.keep [3,4,5] rfl) ?_;refine .skip ?_
   exact jr (H3,deep,d) ⟨q0,q3,q5,h⟩
  rw [if_neg hs] at h
  refine cnt (ntt (bf hs)) ?_;refine .sr ?_;refine vk (Sm (cs:=[.d (.i .i64 deep)]) (c:=.i .i64 deep) q5 rfl AA) ?_;refine vk (vbi) ?_
  refine stb (cs:=[.d (.i .i64 deep)]) (c:=.d (.i .i64 deep)) q5 rfl ?_ Dh
  have p0:=q0.set_new (n:=n5) (x:=.box [.d (.i .i64 (w64 (deep+1)))]) g5' g5
  have p3:(H3.set n5 (.box [.d (.i .i64 (w64 (deep+1)))]))[n3]?=some (.box [.bp id 0]):=by rw [List.getElem?_set_ne (Ne.symm g35)];exact q3
  have p5:(H3.set n5 (.box [.d (.i .i64 (w64 (deep+1)))]))[n5]?=some (.box [.d (.i .i64 (w64 (deep+1)))]):=List.getElem?_set_self (lS.1 q5).1
  refine rn ?_
  change AW _ _ _ _ _ (H3.set n5 (.box [.d (.i .i64 (w64 (deep+1)))]))
  generalize H3.set n5 (.box [.d (.i .i64 (w64 (deep+1)))])=H4 at p0 p3 p5 ⊢
  generalize w64 (deep+1)=dp at h p5 ⊢
  have p1:=p0.1
  refine .gh (Gh.keep [3,4,5] rfl) ?_;refine .drawn 9 Bw (by kernel_rfl) ?_;refine dv (OZ (cs:=[.bp id 0]) (c:=.bp id 0) p3 rfl (by kernel_rfl)) ?_;refine dv (OZ (cs:=[.bp id 0]) (c:=.bp id 0) p3 rfl (by kernel_rfl)) ?_;refine dv (Wb) ?_;refine dv (DX S5) ?_;refine dv (Sm (cs:=[.d (.i .i64 c1),.d (.i .i64 d)]) (c:=.i .i64 d) p1 rfl AA) ?_;refine dv (Sm (cs:=[.d (.i .i64 dp)]) (c:=.i .i64 dp) p5 rfl AA) ?_;refine dv (vmx) ?_;refine dv (Wb) ?_;refine dv (DX S5) ?_;refine dz ?_
  refine stb (cs:=[.d (.i .i64 c1),.d (.i .i64 d)]) (c:=.d (.i .i64 d)) p1 rfl ?_ Dh
  have w0:=p0.set_id (o':=EB c1 (if d<dp then dp else d))
  have w3:(H4.set id (EB c1 (if d<dp then dp else d)))[n3]?=some (.box [.bp id 0]):=by rw [List.getElem?_set_ne (Ne.symm g3)];exact p3
  have w5:(H4.set id (EB c1 (if d<dp then dp else d)))[n5]?=some (.box [.d (.i .i64 dp)]):=by rw [List.getElem?_set_ne (Ne.symm g5)];exact p5
  refine RL.gh (Gh.keep [3,4,5] rfl) ?_;refine .nil ?_
  exact jr (H4.set id (EB c1 (if d<dp then dp else d)),dp,(if d<dp then dp else d)) ⟨w0,w3,w5,h⟩
 rintro ⟨H5,dp,d1⟩ ⟨u0,u3,u5,h⟩
 dsimp only at u0 u3 u5 h ⊢
 refine aw ?_;refine .sr ?_;refine vk (Sm (cs:=[.d (.i .i64 dp)]) (c:=.i .i64 dp) u5 rfl AA) ?_;refine vk (vbi) ?_
 by_cases hc:dp≤16
 rotate_left
 ·rw [if_neg hc] at h
  cases h
  refine vk (VOK.lit (Ah) (dF hc)) ?_;refine gf4 ?_;refine gf ?_;refine vk (Ag) ?_;refine asd ?_;refine rn ?_;refine .ret ?_
  exact ⟨_,⟨rfl,rfl⟩,rfl,u0⟩
 rw [if_pos hc] at h
 refine vk (VOK.lit (Ah) (dT hc)) ?_;refine vk (vfa Au) ?_;refine vk (Ai Bp) ?_;refine Yi (avs:=[.bp n3 0,.bp n5 0]) ?_
 obtain ⟨n,h1,h2⟩:=Qa (Int.le_refl 0) h
 have step:=Ip (S:=Int×Int) (step:=QF rc dp) (st:=fun s H'=>Upd H id (EB s.1 s.2) H'∧H'[n3]?=some (.box [.bp id 0])∧H'[n5]?=some (.box [.d (.i .i64 dp)])) (caps:=[.bp n3 0,.bp n5 0]) Tryz.call145 rfl
  (fun x s y H' hs hy=>by
   obtain ⟨hs0,hs3,hs5⟩:=hs
   simp only [QF,Option.map_eq_some_iff] at hy
   obtain ⟨z,hz,rfl⟩:=hy
   refine (Lj orc hz hs0.1 hs3 hs5).mono fun v H'' hp=>⟨hp.1,hs0.trans hp.2,?_,?_⟩
   ·rw [hp.2.2.2 n3 g3 (lS.1 hs3).1];exact hs3
   ·rw [hp.2.2.2 n5 g5 (lS.1 hs5).1];exact hs5)
  hlen h1 (H:=H5) ⟨u0,u3,u5⟩
 refine clR (avs:=[.d (.sl (Its a.items)),.fn 145 [] [.bp n3 0,.bp n5 0]]) step Tryz.call72 (fun v H' hp=>?_)
 obtain ⟨rfl,hp⟩:=hp
 refine vk (vnt) ?_
 rw [h2]
 refine vk (Ag) ?_;refine asd ?_;refine rn ?_;refine .ret ?_
 exact ⟨_,⟨rfl,rfl⟩,rfl,hp.1⟩
end Go.FL
