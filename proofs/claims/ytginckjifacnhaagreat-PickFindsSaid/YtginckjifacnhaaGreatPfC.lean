/-
  Part 3 of the base of the proofs: a logic of our own over the calculus, the contracts of the functions
-/
import Derived.Test.YtginckjifacnhaaGreatPfB
set_option linter.unusedVariables false
namespace Go.FL
open Go Go.Proofs
def Dt (i x:Nat) : List Nat→Nat→List Nat→List Nat
 | [],_,xs=>xs
 | y::r,k,xs=>Dt i x r (k+1) (Dz xs (x * y) (i+k))
def CA (b:List Nat) : List Nat→Nat→List Nat→List Nat
 | [],_,xs=>xs
 | x::r,i,xs=>CA b r (i+1) (Dt i x b 0 xs)
theorem E1 (i x:Nat) : ∀ (ys:List Nat) (k:Nat) (xs:List Nat),Ok xs→val (Dt i x ys k xs)=val xs+x * val ys * 4294967296 ^ (i+k)∧Ok (Dt i x ys k xs)
 | [],k,xs,h=>⟨by simp [Dt,val],h⟩
 | y::r,k,xs,h=>by
  obtain ⟨a1,a2⟩:=Fp xs (x * y) (i+k) h
  obtain ⟨b1,b2⟩:=E1 i x r (k+1) _ a2
  refine ⟨?_,b2⟩
  show val (Dt i x r (k+1) (Dz xs (x * y) (i+k)))=_
  rw [b1,a1,val,← Nat.add_assoc i k 1,Nat.pow_succ,Nat.mul_add,Nat.add_mul,Nat.add_assoc]
  congr 2
  simp only [Nat.mul_assoc,Nat.mul_comm,Nat.mul_left_comm]
theorem GG (b:List Nat) : ∀ (a:List Nat) (i:Nat) (xs:List Nat),Ok xs→val (CA b a i xs)=val xs+val a * val b * 4294967296 ^ i∧Ok (CA b a i xs)
 | [],i,xs,h=>⟨by simp [CA,val],h⟩
 | x::r,i,xs,h=>by
  obtain ⟨a1,a2⟩:=E1 i x b 0 xs h
  obtain ⟨b1,b2⟩:=GG b r (i+1) _ a2
  refine ⟨?_,b2⟩
  show val (CA b r (i+1) (Dt i x b 0 xs))=_
  rw [b1,a1,val,Nat.pow_succ,Nat.add_zero,Nat.add_mul,Nat.add_mul,Nat.add_assoc]
  congr 2
  simp only [Nat.mul_assoc,Nat.mul_comm,Nat.mul_left_comm]
theorem KU (i x:Nat) : ∀ (ys:List Nat) (k:Nat) (xs:List Nat),xs.length≤(Dt i x ys k xs).length
 | [],k,xs=>Nat.le_refl _
 | y::r,k,xs=>nT (Kh xs (x * y) (i+k)).1 (KU i x r (k+1) _)
theorem M1 (b:List Nat) : ∀ (a:List Nat) (i:Nat) (xs:List Nat),xs.length≤(CA b a i xs).length
 | [],i,xs=>Nat.le_refl _
 | x::r,i,xs=>nT (KU i x b 0 xs) (M1 b r (i+1) _)
theorem Aa4 {x y:Nat} (hx:x<4294967296) (hy:y<4294967296) : x * y<18446744069414584320:=by
 have:x * y≤4294967295 * 4294967295:=Nat.mul_le_mul (by omega) (by omega)
 omega
theorem RZ {a b:List Nat} (ha:Ok a) (hb:Ok b) (hla:a.length≤524288) (hlb:b.length≤524288) (hs:(CA b a 0 []).length≤1048576) : Fn Tryz.prog 229 [.sl (L a),.sl (L b)] (.d (.sl (L (Af (val a * val b))))):=by
 have hv:=GG b a 0 [] .nil
 refine Fn.o1 4 39 Tryz.func229 ?_;refine .sr<|asn ?_;refine rn<|.sr ?_
 refine al ?_ WT LI
 refine rn<|.mid (fun e H'=>∃ G,e=[(5,.bp 0 0)]∧H'=[.box [.own 133 (L (CA b a 0 []))]]++G) ?_ ?_
 ·refine .sr ?_
  refine mvd ?_
  refine ln ?_ (BY _) l32
  refine kA zj<|rn<|.block ?_
  refine .loop (.gh (Gh.keep [1,5,10,11,12] rfl) ?_)
  refine AL.ind (σ:=List Nat×Nat×Ab) (m:=fun s=>a.length-s.2.1) (e:=fun s=>[(1,.d (.sl (L b))),(5,.bp 0 0),(10,.d (.sl (L a))),(11,.d (.i .i64 ((L a).length:Nat))),(12,.d (.i .i64 (s.2.1:Int)))]) (h:=fun s=>[.box [.own 133 (L s.1)]]++s.2.2)
   (I:=fun s=>s.2.1≤a.length∧Ok s.1∧CA b (a.drop s.2.1) s.2.1 s.1=CA b a 0 []) ?_ ([],0,[]) ⟨by simp,.nil,rfl⟩
  rintro ⟨xs,i,G⟩ ⟨h1,h2,h3⟩ ih
  dsimp only at h1 h2 h3 ih ⊢
  refine .sr<|kB zj<|rn<|.seq ?_
  by_cases hi:i<a.length
  ·rw [dT (show (i:Int)<((L a).length:Nat) by rw [Aa];omega)]
   have hx:a[i]?=some a[i]:=lG hi
   have hdr:a.drop i=a[i]::a.drop (i+1):=lC hi
   generalize a[i]=x at hx hdr
   have hxl:=ha.at hx
   rw [hdr] at h3
   replace h3:CA b (a.drop (i+1)) (i+1) (Dt i x b 0 xs)=CA b a 0 []:=h3
   have hge:=M1 b (a.drop (i+1)) (i+1) (Dt i x b 0 xs)
   rw [h3] at hge
   refine BN ?_;refine .skip<|aw<|.seq<|.block<|.sr<|kA zj ?_
   refine ix i ?_ rfl (Fz hx) rfl s32
   refine ldp ?_ a32
   refine kD zj<|kD zj<|rn<|.sr<|kA zj ?_
   refine ln ?_ (BY _) l32
   refine kA zj<|rn<|.block ?_
   refine .loop (.gh (Gh.keep [1,5,10,11,12,6,7,17,18,19] rfl) ?_)
   refine AL.ind (σ:=List Nat×Nat×Ab) (m:=fun s=>b.length-s.2.1) (e:=fun s=>[(1,.d (.sl (L b))),(5,.bp 0 0),(10,.d (.sl (L a))),(11,.d (.i .i64 ((L a).length:Nat))),(12,.d (.i .i64 (i:Int))),(6,.d (.i .i64 (i:Int))),(7,.d (U x)),(17,.d (.sl (L b))),(18,.d (.i .i64 ((L b).length:Nat))),(19,.d (.i .i64 (s.2.1:Int)))]) (h:=fun s=>[.box [.own 133 (L s.1)]]++s.2.2)
    (I:=fun s=>s.2.1≤b.length∧Ok s.1∧Dt i x (b.drop s.2.1) s.2.1 s.1=Dt i x b 0 xs) ?_ (xs,0,G) ⟨by simp,h2,rfl⟩
   rintro ⟨zs,k,G1⟩ ⟨g1,g2,g3⟩ ih2
   dsimp only at g1 g2 g3 ih2 ⊢
   refine .sr<|kB zj<|rn<|.seq ?_
   by_cases hk:k<b.length
   ·rw [dT (show (k:Int)<((L b).length:Nat) by rw [Aa];omega)]
    have hy:b[k]?=some b[k]:=lG hk
    have hdr2:b.drop k=b[k]::b.drop (k+1):=lC hk
    generalize b[k]=y at hy hdr2
    have hyl:=hb.at hy
    rw [hdr2] at g3
    replace g3:Dt i x (b.drop (k+1)) (k+1) (Dz zs (x * y) (i+k))=Dt i x b 0 xs:=g3
    have hge2:=KU i x (b.drop (k+1)) (k+1) (Dz zs (x * y) (i+k))
    rw [g3] at hge2
    have hge3:=(Kh zs (x * y) (i+k)).1
    have hxy:=Aa4 hxl hyl
    refine BN ?_;refine .skip<|aw<|.seq<|.block<|.sr<|kA zj ?_
    refine ix k ?_ rfl (Fz hy) rfl s32
    refine ldp ?_ a32
    refine kD zj<|kD zj<|rn<|.region ?_
    refine fab ?_ fad (by decide)
    refine mvd ?_
    refine cve (x:Int) (BW (by omega)) ?_ u32 u64
    refine mvd ?_
    refine cve (y:Int) (BW (by omega)) ?_ u32 u64
    refine bie (.i .u64 ((x * y:Nat):Int)) ?_ ?_
    ·exact ⟨trivial,by rw [← Int.natCast_mul,BW (by omega)]⟩
    refine kA zj<|kA zj<|ad ((i+k:Nat):Int) ?_ ?_
    ·omega
    refine clg (fun G2=>?_) (WD (cs:=[.own 133 (L zs)]) (n0:=x * y) (at0:=i+k) rfl rfl g2 (by omega) (by omega) (by omega)) Tryz.call251
    refine .nil ?_;refine aw<|.region<|ad ((k+1:Nat):Int) ?_ ?_
    ·omega
    refine kA zj<|.nil ?_;refine AL.gh (Gh.keep [1,5,10,11,12,6,7,17,18,19] rfl)<|AL.castH (H':=[.box [.own 133 (L (Dz zs (x * y) (i+k)))]]++(G1++G2)) (by rw [← List.append_assoc];rfl) ?_
    exact ih2 (Dz zs (x * y) (i+k),k+1,G1++G2) ⟨by show k+1≤b.length;omega,(Fp zs (x * y) (i+k) g2).2,g3⟩ (by show b.length-(k+1)<b.length-k;omega)
   ·rw [dF (show ¬(k:Int)<((L b).length:Nat) by rw [Aa];omega)]
    have:b.drop k=[]:=List.drop_eq_nil_of_le (by omega)
    rw [this] at g3
    replace g3:zs=Dt i x b 0 xs:=g3
    refine BD ?_;refine .exit ?_;refine aw<|.region<|ad ((i+1:Nat):Int) ?_ ?_
    ·omega
    refine kA zj<|.nil ?_;refine AL.gh (Gh.keep [1,5,10,11,12] rfl) ?_
    rw [g3]
    exact ih (Dt i x b 0 xs,i+1,G1) ⟨by show i+1≤a.length;omega,(E1 i x b 0 xs h2).2,h3⟩ (by show a.length-(i+1)<a.length-i;omega)
  ·rw [dF (show ¬(i:Int)<((L a).length:Nat) by rw [Aa];omega)]
   have:a.drop i=[]:=List.drop_eq_nil_of_le (by omega)
   rw [this] at h3
   replace h3:xs=CA b a 0 []:=h3
   refine BD ?_;refine .gh (Gh.keep [5] rfl)<|.exit ?_
   rw [h3]
   exact ⟨G,rfl,rfl⟩
 ·rintro _ _ ⟨G,rfl,rfl⟩
  refine .sr<|fz (p:=.c 0 0) ?_
  refine fab ?_ fad (by decide)
  refine ldb (cs:=[.d (.sl (L (CA b a 0 [])))]) (c:=.d (.sl (L (CA b a 0 [])))) rfl rfl ?_ alm
  refine cl (xs:=[.sl (L (CA b a 0 []))]) ?_ (DZ hv.2 (by omega)) Tryz.call161
  refine kD zj<|rn<|.ret ?_
  exact ⟨by rw [hv.1];simp [val];rfl,rfl⟩
theorem RS {a N:Nat} {n:Nat} (hn:n≠0) (h:n * 4294967296 ^ a<4294967296 ^ N) : a<N:=by
 apply Classical.byContradiction
 intro hc
 have h1:4294967296 ^ N≤4294967296 ^ a:=Nat.pow_le_pow_right (by decide) (by omega)
 have h2:1 * 4294967296 ^ a≤n * 4294967296 ^ a:=Nat.mul_le_mul_right _ (by omega)
 omega
theorem Qw {N:Nat} (xs:List Nat) (n at_:Nat) (h:Ok xs) (hN:xs.length≤N) (hv:val xs+n * 4294967296 ^ at_<4294967296 ^ N) : (Dz xs n at_).length≤N:=by
 induction xs,n,at_ using Dz.induct with
 | case1 xs at_=>rw [F4];exact hN
 | case2 xs n at_ hn ih =>
  have e1:=(Fp xs n at_ h).1
  have hat:at_<N:=RS hn (by omega)
  have hlen:=Eu xs at_
  have hok:Ok ((Ds xs at_).set at_ ((n+(Ds xs at_).getD at_ 0) % 4294967296)):=(Ml h at_).set _ (Nat.mod_lt _ (by decide))
  rw [Ij hn] at e1 ⊢
  have e2:=(Fp _ ((n+(Ds xs at_).getD at_ 0) / 4294967296) (at_+1) hok).1
  refine ih hok ?_ ?_
  ·rw [List.length_set,hlen];omega
  ·rw [← e2,e1];exact hv
theorem MY {N:Nat} (i x:Nat) : ∀ (ys:List Nat) (k:Nat) (xs:List Nat),Ok xs→xs.length≤N→val xs+x * val ys * 4294967296 ^ (i+k)<4294967296 ^ N→(Dt i x ys k xs).length≤N
 | [],k,xs,h,hN,_=>hN
 | y::r,k,xs,h,hN,hv=>by
  obtain ⟨a1,a2⟩:=Fp xs (x * y) (i+k) h
  have e1:=(E1 i x (y::r) k xs h).1
  have e2:=(E1 i x r (k+1) _ a2).1
  have hv2:val (Dz xs (x * y) (i+k))+x * val r * 4294967296 ^ (i+(k+1))<4294967296 ^ N:=by
   rw [← e2];rw [← e1] at hv;exact hv
  exact MY i x r (k+1) _ a2 (Qw xs (x * y) (i+k) h hN (by omega)) hv2
theorem Ly {N:Nat} (b:List Nat) : ∀ (a:List Nat) (i:Nat) (xs:List Nat),Ok xs→xs.length≤N→val xs+val a * val b * 4294967296 ^ i<4294967296 ^ N→(CA b a i xs).length≤N
 | [],i,xs,h,hN,_=>hN
 | x::r,i,xs,h,hN,hv=>by
  obtain ⟨a1,a2⟩:=E1 i x b 0 xs h
  have e1:=(GG b (x::r) i xs h).1
  have e2:=(GG b r (i+1) _ a2).1
  have hv2:val (Dt i x b 0 xs)+val r * val b * 4294967296 ^ (i+1)<4294967296 ^ N:=by
   rw [← e2];rw [← e1] at hv;exact hv
  exact Ly b r (i+1) _ a2 (MY i x b 0 xs h hN (by omega)) hv2
theorem Rw {a b:List Nat} (ha:Ok a) (hb:Ok b) : (CA b a 0 []).length≤a.length+b.length:=by
 refine Ly b a 0 [] .nil (Nat.zero_le _) ?_
 have h1:=Cn ha
 have h2:=Cn hb
 rw [Nat.pow_add]
 simp only [val,Nat.pow_zero,Nat.mul_one,Nat.zero_add]
 exact Nat.mul_lt_mul'' h1 h2
theorem W4 {a b:List Nat} (ha:Ok a) (hb:Ok b) (hla:a.length≤524288) (hlb:b.length≤524288) : Fn Tryz.prog 229 [.sl (L a),.sl (L b)] (.d (.sl (L (Af (val a * val b))))) :=
 RZ ha hb hla hlb (by have:=Rw ha hb;omega)
def ET (ls:List (List Nat)) (p:Nat) : Nat:=ls.foldl (fun q a=>q * val a) p
theorem Sz {ls:List (List Nat)} (h:∀ a∈ls,Ok a) (hl:ls.length≤1048576) (hla:∀ a∈ls,a.length≤524288) (hs:∀ k,(Af (ET (ls.take k) 1)).length≤524288) :
  Fn Tryz.prog 200 [.sl (LL ls)] (.d (.sl (L (Af (ET ls 1))))):=by
 refine Fn.o1 2 18 Tryz.func200 ?_;refine .sr<|asn ?_;refine rn<|.sr ?_
 refine bsl ?_ ?_ e32
 ·simp [DV.flat,DV.cells,DV.leaf]
 refine fz (p:=.t 6) ?_;refine kD zj<|rn<|.mid (fun e H'=>e=[(3,.d (.sl (L (Af (ET ls 1)))))]∧H'=[]) ?_ ?_
 ·refine .sr ?_
  refine mvd ?_
  refine ln ?_ (VD _) l2
  refine kA zj<|rn<|.block ?_
  refine .loop (.gh (Gh.keep [3,7,8,9] rfl) ?_)
  refine AL.cast (env':=[(3,.d (.sl (L (Af (ET (ls.take 0) 1))))),(7,.d (.sl (LL ls))),(8,.d (.i .i64 ((LL ls).length:Nat))),(9,.d (.i .i64 ((0:Nat):Int)))]) (by
   have e1:Af (ET (ls.take 0) 1)=[1]:=by
    rw [List.take_zero];show Af 1=[1];rw [Af];simp;rw [Af];simp
   rw [e1];rfl) ?_
  refine AL.ind (σ:=Nat) (m:=fun i=>ls.length-i) (e:=fun i=>[(3,.d (.sl (L (Af (ET (ls.take i) 1))))),(7,.d (.sl (LL ls))),(8,.d (.i .i64 ((LL ls).length:Nat))),(9,.d (.i .i64 (i:Int)))]) (h:=fun _=>[])
   (I:=fun i=>i≤ls.length) ?_ 0 (Nat.zero_le _)
  intro i h1 ih
  refine .sr<|kB zj<|rn<|.seq ?_
  by_cases hi:i<ls.length
  ·rw [dT (show (i:Int)<((LL ls).length:Nat) by rw [F5];omega)]
   have hy:ls[i]?=some ls[i]:=lG hi
   have htk:ls.take (i+1)=ls.take i++[ls[i]]:=List.take_succ_eq_append_getElem hi
   generalize ls[i]=y at hy htk
   have hyo:=h y (List.mem_of_getElem? hy)
   have hyl:=hla y (List.mem_of_getElem? hy)
   have hst:ET (ls.take (i+1)) 1=ET (ls.take i) 1 * val y:=by rw [htk,ET,ET,List.foldl_append];rfl
   refine BN ?_;refine .skip<|aw<|.seq<|.block<|.sr ?_
   refine ix i ?_ rfl (UY hy) rfl s2
   refine ldp ?_ a2
   refine kD zj<|rn<|.region<|kA zj<|kA zj ?_
   refine cl (xs:=[.sl (L (Af (ET (ls.take i) 1))),.sl (L y)]) ?_ (W4 (Bf _) hyo (hs i) hyl) Tryz.call229
   refine kD zj<|.nil ?_;refine aw<|.region<|ad ((i+1:Nat):Int) ?_ ?_
   ·omega
   refine kA zj<|.nil ?_;refine AL.gh (Gh.keep [3,7,8,9] rfl) ?_
   rw [AK,← hst]
   exact ih (i+1) (by show i+1≤ls.length;omega) (by show ls.length-(i+1)<ls.length-i;omega)
  ·rw [dF (show ¬(i:Int)<((LL ls).length:Nat) by rw [F5];omega)]
   rw [List.take_of_length_le (by omega)]
   refine BD ?_;refine .gh (Gh.keep [3] rfl)<|.exit ?_
   exact ⟨rfl,rfl⟩
 ·rintro _ _ ⟨rfl,rfl⟩
  refine .sr<|kA zj<|kD zj<|rn<|.ret ?_
  exact ⟨rfl,rfl⟩
theorem e2 : Cb Tryz.prog 220=some (31,1,24,.slice none 0 0):=by kernel_rfl
theorem Mx {N:Nat} : ∀ (ys xs:List Nat) (i:Nat),Ok xs→xs.length≤N→val xs+val ys * 4294967296 ^ i<4294967296 ^ N→(CP xs ys i).length≤N
 | [],xs,i,h,hN,_=>hN
 | y::ys,xs,i,h,hN,hv=>by
  obtain ⟨a1,a2⟩:=Fp xs y i h
  have e1:=(E4 (y::ys) xs i h).1
  have e2:=(E4 ys _ (i+1) a2).1
  have hv2:val (Dz xs y i)+val ys * 4294967296 ^ (i+1)<4294967296 ^ N:=by
   rw [← e2];rw [← e1] at hv;exact hv
  exact Mx ys _ (i+1) a2 (Qw xs y i h hN (by omega)) hv2
theorem Nw {N:Nat} : ∀ (ls:List (List Nat)) (xs:List Nat),Ok xs→xs.length≤N→val xs+(ls.map val).sum<4294967296 ^ N→(DP ls xs).length≤N
 | [],xs,h,hN,_=>hN
 | a::r,xs,h,hN,hv=>by
  obtain ⟨a1,a2⟩:=E4 a xs 0 h
  have hv2:val (CP xs a 0)+(r.map val).sum<4294967296 ^ N:=by
   rw [a1];simp at hv ⊢;omega
  exact Nw r _ a2 (Mx a xs 0 h hN (by omega)) hv2
theorem Un (M:Nat) : 4294967296 ^ (M+1)=4294967296 ^ M * 4294967296:=Nat.pow_succ ..
theorem Vd {M:Nat} : ∀ {ls:List (List Nat)},(∀ a∈ls,val a<4294967296 ^ M)→(ls.map val).sum≤ls.length * 4294967296 ^ M
 | [],_=>by simp
 | a::r,h=>by
  have h1:=h a (by simp)
  have h2:=Vd (ls:=r) fun b hb=>h b (by simp [hb])
  simp only [List.map_cons,List.sum_cons,List.length_cons,Nat.add_mul,Nat.one_mul]
  omega
theorem Wh {M:Nat} {ls:List (List Nat)} (h:∀ a∈ls,Ok a) (hM:∀ a∈ls,a.length≤M) (hl:ls.length≤1000) (hM2:M≤100000) : Fn Tryz.prog 201 [.sl (LL ls)] (.d (.sl (L (Af (ls.map val).sum)))):=by
 have hv:∀ a∈ls,val a<4294967296 ^ M:=fun a ha=>nL (Cn (h a ha)) (Nat.pow_le_pow_right (by decide) (hM a ha))
 refine Y0 h (by omega) (fun a ha=>nT (hM a ha) (by omega)) ?_
 have h1:=Vd hv
 have h2:ls.length * 4294967296 ^ M<4294967296 ^ (M+1):=by
  rw [Un,Nat.mul_comm]
  exact Nat.mul_lt_mul_of_pos_left (by omega) (Nat.pow_pos (by decide))
 have:=Nw (N:=M+1) ls [] .nil (Nat.zero_le _) (by simp only [val,Nat.zero_add];omega)
 omega
theorem P9 {M:Nat} : ∀ (ls:List (List Nat)) (p j:Nat),(∀ a∈ls,val a<4294967296 ^ M)→p<4294967296 ^ j→ET ls p<4294967296 ^ (j+M * ls.length)
 | [],p,j,_,hp=>by simpa [ET] using hp
 | a::r,p,j,h,hp=>by
  have h1:p * val a<4294967296 ^ (j+M):=by rw [Nat.pow_add];exact Nat.mul_lt_mul'' hp (h a (by simp))
  have:=P9 r (p * val a) (j+M) (fun b hb=>h b (by simp [hb])) h1
  rw [show j+M * (a::r).length=j+M+M * r.length by simp [Nat.mul_add];omega]
  exact this
theorem Kf {M:Nat} {ls:List (List Nat)} (h:∀ a∈ls,Ok a) (hM:∀ a∈ls,a.length≤M) (hl:ls.length≤10) (hM2:M≤40000) : Fn Tryz.prog 200 [.sl (LL ls)] (.d (.sl (L (Af (ET ls 1))))):=by
 have hv:∀ a∈ls,val a<4294967296 ^ M:=fun a ha=>nL (Cn (h a ha)) (Nat.pow_le_pow_right (by decide) (hM a ha))
 refine Sz h (by omega) (fun a ha=>nT (hM a ha) (by omega)) fun k=>?_
 have h1:=P9 (ls.take k) 1 1 (fun a ha=>hv a (List.mem_of_mem_take ha)) (by decide)
 have h2:=Cv h1
 have h3:M * (ls.take k).length≤40000 * 10:=Nat.mul_le_mul hM2 (by rw [List.length_take];omega)
 omega
theorem Rf : ∀ zs : List Int,(∀ z∈zs,(Lit.int .u32 z).wf=true)→∃ a : List Nat,Ok a∧zs.map (DV.i .u32)=L a
 | [],_=>⟨[],.nil,rfl⟩
 | z::zs,h=>by
  obtain ⟨a,h1,h2⟩:=Rf zs fun y hy=>h y (by simp [hy])
  have hz:=h z (by simp)
  have hz2:0≤z∧z≤4294967295:=by simpa [Lit.wf,IntKind.min,IntKind.max,IntKind.signed,IntKind.bits] using hz
  refine ⟨z.toNat::a,h1.cons (by omega),?_⟩
  rw [List.map_cons,h2]
  show _=U z.toNat::L a
  rw [U,Int.toNat_of_nonneg hz2.1]
theorem Fm {b:List Nat} (k:Nat) : val (b.drop k)=b.getD k 0+4294967296 * val (b.drop (k+1)):=by
 by_cases h:k<b.length
 ·rw [lC h,List.getD_eq_getElem?_getD,lG h];simp only [val,Option.getD_some]
 ·rw [List.drop_eq_nil_of_le (by omega),List.drop_eq_nil_of_le (by omega),List.getD_eq_getElem?_getD,List.getElem?_eq_none (by omega)];simp [val]
theorem DW {b:List Nat} (h:Ok b) (k:Nat) : b.getD k 0<4294967296:=by
 rw [lD]
 cases hk:b[k]? with
 | none=>decide
 | some y=>exact h.at hk
theorem IX {xs:List Nat} {j o y:Nat} (h:xs[j]?=some o) : val (xs.set j y)+o * 4294967296 ^ j=val xs+y * 4294967296 ^ j:=Th h
theorem TF : ∀ n,val (List.replicate n 0)=0
 | 0=>rfl
 | n+1=>by rw [List.replicate_succ,val,TF n]
theorem Y6 (n:Nat) : Ok (List.replicate n 0):=fun x hx=>by rw [List.eq_of_mem_replicate hx];decide
def V7 (m n:Nat) : Nat:=if n≤m then m-n else 0
theorem w32 (X:BitVec 32) : IntKind.u32.wrap (X.toNat:Int)=X.toNat:=OJ _ (by omega) (by have:=X.isLt;omega)
theorem o32 (X:BitVec 32) : BitVec.ofInt IntKind.u32.bits (X.toNat:Int)=X:=by
 show BitVec.ofInt 32 (X.toNat:Int)=X
 rw [BitVec.ofInt_natCast,BitVec.ofNat_toNat];simp
theorem Tn (X Y:BitVec 32) : bits .and .u32 (X.toNat:Int) (Y.toNat:Int)=((X &&& Y).toNat : Int):=by
 unfold bits;simp only [o32];exact w32 _
theorem ZS (X Y:BitVec 32) : bits .or .u32 (X.toNat:Int) (Y.toNat:Int)=((X ||| Y).toNat : Int):=by
 unfold bits;simp only [o32];exact w32 _
theorem Tl (X Y:BitVec 32) : bits .xor .u32 (X.toNat:Int) (Y.toNat:Int)=((X ^^^ Y).toNat : Int):=by
 unfold bits;simp only [o32];exact w32 _
theorem Ti (X:BitVec 32) : bits .xor .u32 (if IntKind.u32.signed then -1 else IntKind.u32.max) (X.toNat:Int)=((~~~X).toNat : Int):=by
 have:=Tl (BitVec.allOnes 32) X
 rw [BitVec.allOnes_xor] at this
 exact this
theorem Tc (X Y:BitVec 32) : IntKind.u32.wrap ((X.toNat:Int)-(Y.toNat:Int))=((X-Y).toNat : Int):=by
 simp only [IntKind.wrap,IntKind.bits,IntKind.signed,BitVec.toNat_sub];simp
 have:=X.isLt;have:=Y.isLt;omega
theorem Xd (X:BitVec 32) : (X.toNat:Int) / 2 ^ 31=if X.msb then 1 else 0:=by
 rw [BitVec.msb_eq_decide]
 have:=X.isLt
 by_cases h:2 ^ (32-1)≤X.toNat
 ·simp [h];omega
 ·simp [h];omega
theorem Xu (X Y B:BitVec 32) (hB:B.toNat≤1) : ((~~~X &&& Y) ||| (~~~(X ^^^ Y) &&& (X-Y-B))).msb=decide (X.toNat<Y.toNat+B.toNat):=by
 have hx:=X.isLt;have hy:=Y.isLt
 simp only [BitVec.msb_or,BitVec.msb_and,BitVec.msb_not,BitVec.msb_xor]
 rw [BitVec.msb_eq_decide X,BitVec.msb_eq_decide Y,BitVec.msb_eq_decide (X-Y-B)]
 simp only [BitVec.toNat_sub]
 by_cases h1:2 ^ (32-1)≤X.toNat<;>by_cases h2:2 ^ (32-1)≤Y.toNat<;>simp [h1,h2]<;>omega
theorem T8 (X Y B:BitVec 32) (hB:B.toNat≤1) : Fn Tryz.prog 231 [.i .u32 X.toNat,.i .u32 Y.toNat,.i .u32 B.toNat]
  (.tup [.d (.i .u32 (X-Y-B).toNat),.d (.i .u32 (if decide (X.toNat<Y.toNat+B.toNat)=true then 1 else 0))]):=by
 refine Fn.of (rs:=[.tmp 6,.tmp 7]) (nt:=25) Tryz.func231 rfl rfl rfl (by simp) rfl ?_;refine .sr<|kD zj<|kD zj<|rn<|.sr<|kA zj<|kA zj<|kB zj ?_
 rw [Tc]
 refine kA zj<|kB zj ?_
 rw [Tc]
 refine kD zj<|rn<|.sr<|kA zj<|xr ?_
 rw [Ti]
 refine kA zj<|kB zj ?_
 rw [Tn]
 refine kA zj<|kA zj<|kB zj ?_
 rw [Tl]
 refine xr ?_
 rw [Ti]
 refine kA zj<|kB zj ?_
 rw [Tn]
 refine bi ?_
 rw [ZS]
 refine bic ?_ ?_
 ·decide
 refine kD zj<|rn<|.ret ?_
 rw [← Xu X Y B hB,← Xd]
 exact ⟨by decide,rfl,rfl,rfl⟩
theorem ML {x y b:Nat} (hx:x<4294967296) (hy:y<4294967296) (hb:b≤1) : Fn Tryz.prog 231 [U x,U y,U b]
  (.tup [.d (U ((x+8589934592-y-b) % 4294967296)),.d (U (if x<y+b then 1 else 0))]):=by
 have:=T8 (BitVec.ofNat 32 x) (BitVec.ofNat 32 y) (BitVec.ofNat 32 b) (by simp only [BitVec.toNat_ofNat];omega)
 have e1:x % 2 ^ 32=x:=Nat.mod_eq_of_lt hx
 have e2:y % 2 ^ 32=y:=Nat.mod_eq_of_lt hy
 have e3:b % 2 ^ 32=b:=Nat.mod_eq_of_lt (by omega)
 simp only [BitVec.toNat_ofNat,BitVec.toNat_sub,e1,e2,e3] at this
 rw [show (2 ^ 32-b+(2 ^ 32-y+x) % 2 ^ 32) % 2 ^ 32=(x+8589934592-y-b) % 4294967296 by omega] at this
 by_cases h:x<y+b
 ·simp only [h,decide_true,if_true] at this ⊢;exact this
 ·simp only [h,decide_false,if_false,Bool.false_eq_true] at this ⊢;exact this
theorem Wz {x y b:Nat} (hx:x<4294967296) (hy:y<4294967296) (hb:b<4294967296) : Fn Tryz.prog 241 [U x,U y,U b]
  (.tup [.d (U ((x+y+b) % 4294967296)),.d (U ((x+y+b) / 4294967296))]):=by
 refine Fn.of (rs:=[.tmp 6,.tmp 7]) (nt:=22) Tryz.func241 rfl rfl rfl (by simp) rfl ?_;refine .sr<|kD zj<|kD zj<|rn<|.sr<|kA zj ?_
 refine cve (x:Int) (BW (by omega)) ?_ u32 u64
 refine mvd ?_
 refine cve (y:Int) (BW (by omega)) ?_ u32 u64
 refine bie (.i .u64 ((x+y:Nat):Int)) ?_ ?_
 ·exact ⟨trivial,by rw [← Int.natCast_add,BW (by omega)]⟩
 refine mvd ?_
 refine cve (b:Int) (BW (by omega)) ?_ u32 u64
 refine bie (.i .u64 ((x+y+b:Nat):Int)) ?_ ?_
 ·exact ⟨trivial,by rw [← Int.natCast_add,BW (by omega)]⟩
 refine kD zj<|rn<|.sr<|kA zj ?_
 refine cve (((x+y+b) % 4294967296:Nat):Int) (FE _) ?_ u64 u32
 refine kD zj<|rn<|.sr<|kA zj<|bie (.i .u64 (((x+y+b) / 4294967296:Nat):Int)) ?_ ?_
 ·simp [IntKind.bits]
 refine cve (((x+y+b) / 4294967296:Nat):Int) (Ot (by omega)) ?_ u64 u32
 refine kD zj<|rn<|.ret ?_
 exact ⟨by decide,rfl,rfl,rfl⟩
theorem MP {x y c:Nat} (hx:x<4294967296) (hy:y<4294967296) (hc:c≤1) : x+4294967296 * (if x<y+c then 1 else 0)=y+c+(x+8589934592-y-c) % 4294967296:=by
 split<;>omega
theorem Rl {O O' P x y c A A' B B' q r T U:Nat} (hq:x+4294967296 * q=y+c+r) (hA:A=x+4294967296 * A') (hB:B=y+4294967296 * B') (h:T+(B+c) * P=U+O) (hs:O'+x * P=O+r * P) : T+(B'+q) * (P * 4294967296)=U+O':=by
 grind
theorem Rm {a b:List Nat} (ha:Ok a) (hb:Ok b) (hla:a.length≤500000) (hlb:b.length≤500000) : Fn Tryz.prog 202 [.sl (L a),.sl (L b)] (.tup [.d (.sl (L (Af (V7 (val a) (val b))))),.d (.b (decide (val b≤val a)))]):=by
 refine Fn.of (rs:=[.tmp 4,.tmp 5]) (nt:=47) Tryz.func202 rfl rfl rfl (by simp) rfl ?_;refine .sr<|asn ?_;refine kD zj<|rn<|.seq<|.sr<|kA zj<|kA zj ?_
 refine cl (xs:=[.sl (L a),.sl (L b)]) ?_ (Nt ha hb (by omega) (by omega)) Tryz.call189
 refine kB zj<|rn ?_
 by_cases hlt:val a<val b
 ·rw [dT (show NK (val a) (val b)<0 by unfold NK;rw [if_pos hlt];decide)]
  refine BN ?_;refine .sr<|asn ?_;refine kD zj<|rn<|.gh (Gh.nlD (t:=4) rfl)<|.ret ?_
  exact ⟨by decide,by rw [dF (show ¬val b≤val a by omega),V7,if_neg (by omega),A4];rfl,rfl,rfl⟩
 ·have hle:val b≤val a:=by omega
  rw [dF (show ¬NK (val a) (val b)<0 by unfold NK;rw [if_neg hlt];split<;>decide)]
  refine BD ?_;refine .skip<|aw<|.gh (Gh.keep [0,1,4,5] rfl) ?_
  have oa:=Bf (val a)
  have ob:=Bf (val b)
  have va:=AK (val a)
  have vb:=AK (val b)
  have la:=nT (Cp ha) hla
  have lb:=nT (Cp hb) hlb
  refine .sr<|kA zj ?_
  refine cl (xs:=[.sl (L a)]) ?_ (JO ha (by omega)) Tryz.call211
  refine aso ?_;refine rn<|.sr<|kA zj ?_
  refine cl (xs:=[.sl (L b)]) ?_ (DZ hb (by omega)) Tryz.call161
  refine kD zj<|rn ?_
  generalize Af (val a)=xs at *
  generalize Af (val b)=ys at *
  refine .sr<|kD zj<|rn<|.mid (fun e H'=>∃ out,e=[(6,.own 133 (L out))]∧H'=[]∧Ok out∧out.length=xs.length∧val out=val a-val b) ?_ ?_
  ·refine .sr ?_
   refine mvo ?_
   refine lnr ?_ l32
   refine kA zj<|rn<|.block ?_
   refine .loop (.gh (Gh.keep [1,6,7,19,20] rfl) ?_)
   refine AL.ind (σ:=List Nat×Nat×Nat) (m:=fun s=>xs.length-s.2.1) (e:=fun s=>[(1,.d (.sl (L ys))),(6,.own 133 (L s.1)),(7,.d (.i .u32 (s.2.2:Int))),(19,.d (.i .i64 ((L xs).length:Nat))),(20,.d (.i .i64 (s.2.1:Int)))]) (h:=fun _=>[])
    (I:=fun s=>Ok s.1∧s.1.length=xs.length∧s.2.1≤xs.length∧s.2.2≤1∧s.1.drop s.2.1=xs.drop s.2.1∧val a+(val (ys.drop s.2.1)+s.2.2) * 4294967296 ^ s.2.1=val b+val s.1) ?_ (xs,0,0) ⟨oa,rfl,Nat.zero_le _,by simp,rfl,by simp [va,vb];omega⟩
   rintro ⟨out,i,c⟩ ⟨h1,h2,h3,h4,h5,h6⟩ ih
   dsimp only at h1 h2 h3 h4 h5 h6 ih ⊢
   refine .sr<|kB zj<|rn<|.seq ?_
   by_cases hi:i<xs.length
   ·rw [dT (show (i:Int)<((L xs).length:Nat) by rw [Aa];omega)]
    have hx:out[i]?=some out[i]:=lG (by omega)
    have hdr:out.drop i=out[i]::out.drop (i+1):=lC (by omega)
    have hdx:val (out.drop i)=out[i]+4294967296 * val (out.drop (i+1)):=by rw [hdr,val]
    have hxl:=h1.at hx
    have hyl:=DW ob i
    have hdy:=Fm (b:=ys) i
    have hy:∀ h:i<ys.length,ys[i]?=some (ys.getD i 0):=fun h=>by rw [lD,lG h];rfl
    have hy0:¬i<ys.length→ys.getD i 0=0:=fun h=>by rw [lD,List.getElem?_eq_none (by omega)];rfl
    generalize out[i]=x at *
    generalize ys.getD i 0=y at *
    have f1:=ML hxl hyl h4
    have hq:=MP hxl hyl h4
    have hq1:(if x<y+c then 1 else 0)≤1:=by split<;>omega
    have hr1:(x+8589934592-y-c) % 4294967296<4294967296:=Nat.mod_lt _ (by decide)
    generalize (if x<y+c then 1 else 0)=q at *
    generalize (x+8589934592-y-c) % 4294967296=r at *
    have hset:=IX hx (y:=r)
    have hstep:=Rl hq hdx hdy h6 hset
    refine BN ?_;refine .skip<|aw<|.seq<|.block<|.sr<|kA zj<|kD zj<|rn<|.sr<|kD zj<|rn<|.mid (fun e H'=>H'=[]∧e=[(1,.d (.sl (L ys))),(6,.own 133 (L out)),(7,.d (.i .u32 (c:Int))),(8,.d (.i .i64 (i:Int))),(9,.d (.i .u32 (y:Int))),(19,.d (.i .i64 ((L xs).length:Nat))),(20,.d (.i .i64 (i:Int)))]) ?_ ?_
    ·refine .sr ?_
     refine kA zj<|kA zj ?_
     refine ln ?_ (BY _) l32
     refine kB zj<|rn ?_
     by_cases hiy:i<ys.length
     ·rw [dT (show (i:Int)<((L ys).length:Nat) by rw [Aa];omega)]
      refine BN ?_;refine .region<|kA zj<|kA zj ?_
      refine ix i ?_ rfl (Fz (hy hiy)) rfl s32
      refine ldp ?_ a32
      refine kD zj<|RL.gh (Gh.keep [1,6,7,8,9,19,20] rfl)<|.nil ?_
      exact ⟨rfl,rfl⟩
     ·rw [dF (show ¬(i:Int)<((L ys).length:Nat) by rw [Aa];omega)]
      have:=hy0 hiy
      subst this
      refine BD ?_;refine .gh (Gh.keep [1,6,7,8,9,19,20] rfl)<|.skip ?_
      exact ⟨rfl,rfl⟩
    rintro _ _ ⟨rfl,rfl⟩
    refine .region<|mvo ?_;refine kA zj<|mvo ?_;refine kA zj ?_
    refine ixr i ?_ ?_ ?_ s32 (by decide)
    ·rfl
    ·rw [Aa,h2];omega
    refine lde (U x) ?_ ?_ a32
    ·rw [Nat.zero_add];exact GZ hx
    refine kA zj<|kA zj ?_
    refine cl (xs:=[U x,U y,U c]) ?_ f1 Tryz.call231
    refine mvt ?_;refine ex ?_;refine ex ?_
    refine ixr i ?_ ?_ ?_ s32 (by decide)
    ·rfl
    ·rw [Aa,h2];omega
    refine ste ?_ ?_ z32
    ·rw [Nat.zero_add];exact Gj hx
    refine kD zj<|.nil ?_;refine aw<|.region<|ad ((i+1:Nat):Int) ?_ ?_
    ·omega
    refine kA zj<|rn<|.gh (Gh.keep [1,6,7,19,20] rfl) ?_
    have:=ih (out.set i r,i+1,q) ⟨h1.set _ hr1,by dsimp only;rw [List.length_set];exact h2,by dsimp only;omega,hq1,?_,?_⟩ (by dsimp only;omega)
    ·dsimp only at this
     have e0:(L out).set (0+i) (U r)=L (out.set i r):=by rw [Nat.zero_add,MK]
     rw [← e0] at this
     exact this
    ·dsimp only
     rw [List.drop_set_of_lt (by omega)]
     have e1:xs.drop (i+1)=(xs.drop i).drop 1:=by rw [List.drop_drop]
     have e2:out.drop (i+1)=(out.drop i).drop 1:=by rw [List.drop_drop]
     rw [e1,e2,h5]
    ·dsimp only
     rw [Nat.pow_succ];exact hstep
   ·rw [dF (show ¬(i:Int)<((L xs).length:Nat) by rw [Aa];omega)]
    refine BD ?_;refine .gh (Gh.keep [6] rfl)<|.exit ?_
    have hie:i=xs.length:=by omega
    refine ⟨out,rfl,rfl,h1,h2,?_⟩
    have hvo:=Cn h1
    rw [h2] at hvo
    rw [hie] at h6
    have hz:val (ys.drop xs.length)+c=0:=by
     apply Classical.byContradiction
     intro hne
     have:1 * 4294967296 ^ xs.length≤(val (ys.drop xs.length)+c) * 4294967296 ^ xs.length:=Nat.mul_le_mul_right _ (by omega)
     omega
    rw [hz] at h6
    omega
  rintro _ _ ⟨out,rfl,rfl,h1,h2,h3⟩
  refine .sr<|fz (p:=.t 6) ?_;refine kA zj ?_
  refine cl (xs:=[.sl (L out)]) ?_ (DZ h1 (by omega)) Tryz.call161
  rw [h3]
  refine kD zj<|kD zj<|rn<|.ret ?_
  exact ⟨by decide,by rw [dT hle,V7,if_pos hle];rfl,rfl,rfl⟩
theorem TS {V' V P x r b b' c c' lo q y R:Nat} (hs:V'+x * P=V+r * P) (hl:x+4294967296 * b'=lo+b+r) (hc:c+q * y=4294967296 * c'+lo) {F Z:Nat} (ih:F+(q * R+c'+b') * (P * 4294967296)=V'+Z) : F+(q * (y+4294967296 * R)+c+b) * P=V+Z:=by
 grind
theorem Ux {V' V P x r b b' c:Nat} (hs:V'+x * P=V+r * P) (hl:x+4294967296 * b'=c+b+r) : V'+(0+c+b) * P=V+b' * (P * 4294967296):=by
 grind
def BK (q:Nat) : List Nat→List Nat→Nat→Nat→Nat→List Nat×Nat
 | [],u,c,b,j=>(u.set j ((u.getD j 0+8589934592-c % 4294967296-b) % 4294967296),if u.getD j 0<c % 4294967296+b then 1 else 0)
 | y::r,u,c,b,j=>BK q r (u.set j ((u.getD j 0+8589934592-(c+q * y) % 4294967296-b) % 4294967296)) ((c+q * y) / 4294967296) (if u.getD j 0<(c+q * y) % 4294967296+b then 1 else 0) (j+1)
theorem Ct {u:List Nat} {j:Nat} (h:j<u.length) : u[j]?=some (u.getD j 0):=by
 rw [lD,lG h];rfl
theorem YA {q y c:Nat} (hq:q<4294967296) (hy:y<4294967296) (hc:c<4294967296) : c+q * y<18446744073709551616:=by
 have:q * y≤4294967295 * 4294967295:=Nat.mul_le_mul (by omega) (by omega)
 omega
theorem Yu {s:Nat} (h:s<18446744073709551616) : s / 4294967296<4294967296:=by omega
theorem Nk {q:Nat} (hq:q<4294967296) : ∀ (v u:List Nat) (c b j:Nat),Ok v→Ok u→c<4294967296→b≤1→j+v.length<u.length →
  val (BK q v u c b j).1+(q * val v+c+b) * 4294967296 ^ j=val u+(BK q v u c b j).2 * 4294967296 ^ (j+v.length+1)∧Ok (BK q v u c b j).1∧(BK q v u c b j).2≤1 ∧
  (BK q v u c b j).1.length=u.length∧(BK q v u c b j).1.take j=u.take j∧(BK q v u c b j).1.drop (j+v.length+1)=u.drop (j+v.length+1)
 | [],u,c,b,j,hv,hu,hc,hb,hj=>by
  simp only [BK]
  have hx:=Ct (u:=u) (j:=j) (by simpa using hj)
  have hxl:=DW hu j
  rw [Nat.mod_eq_of_lt hc]
  have hl:=MP hxl hc hb
  have hset:=IX hx (y:=(u.getD j 0+8589934592-c-b) % 4294967296)
  have h1:=Ux hset hl
  refine ⟨?_,hu.set _ (Nat.mod_lt _ (by decide)),by split<;>omega,by simp,?_,?_⟩
  ·simp only [val,Nat.mul_zero,List.length_nil,Nat.add_zero]
   rw [h1,Nat.pow_succ]
  ·rw [List.take_set_of_le (Nat.le_refl _)]
  ·rw [List.drop_set_of_lt (by simp)]
 | y::r,u,c,b,j,hv,hu,hc,hb,hj=>by
  simp only [BK]
  have hj':j+r.length+1<u.length:=by simpa [Nat.add_assoc] using hj
  have hx:=Ct (u:=u) (j:=j) (by omega)
  have hxl:=DW hu j
  have hlo:(c+q * y) % 4294967296<4294967296:=Nat.mod_lt _ (by decide)
  have hl:=MP hxl hlo hb
  have hq1:(if u.getD j 0<(c+q * y) % 4294967296+b then 1 else 0)≤1:=by split<;>omega
  have hset:=IX hx (y:=(u.getD j 0+8589934592-(c+q * y) % 4294967296-b) % 4294967296)
  have hcy:c+q * y=4294967296 * ((c+q * y) / 4294967296)+(c+q * y) % 4294967296:=(Nat.div_add_mod _ _).symm
  have hok:=hu.set j (x:=(u.getD j 0+8589934592-(c+q * y) % 4294967296-b) % 4294967296) (Nat.mod_lt _ (by decide))
  have hc':=Yu (YA hq hv.head hc)
  generalize (u.getD j 0+8589934592-(c+q * y) % 4294967296-b) % 4294967296=rr at *
  generalize (if u.getD j 0<(c+q * y) % 4294967296+b then 1 else 0)=b' at *
  generalize u.getD j 0=x at *
  obtain ⟨i1,i2,i3,i4,i5,i6⟩:=Nk hq r (u.set j rr) ((c+q * y) / 4294967296) b' (j+1) hv.tail hok hc' hq1 (by rw [List.length_set];omega)
  generalize BK q r (u.set j rr) ((c+q * y) / 4294967296) b' (j+1)=res at *
  rw [Nat.pow_succ] at i1
  refine ⟨?_,i2,i3,by rw [i4,List.length_set],?_,?_⟩
  ·rw [val,show j+(y::r).length+1=j+1+r.length+1 by simp;omega]
   exact TS hset hl hcy i1
  ·have:=congrArg (List.take j) i5
   rw [List.take_take,List.take_take,Nat.min_eq_left (by omega),List.take_set_of_le (Nat.le_refl _)] at this
   exact this
  ·rw [show j+(y::r).length+1=j+1+r.length+1 by simp;omega,i6,List.drop_set_of_lt (by omega)]
theorem RV (q:Nat) (u:List Nat) (c b j:Nat) : BK q [] u c b j=(u.set j ((u.getD j 0+8589934592-c % 4294967296-b) % 4294967296),if u.getD j 0<c % 4294967296+b then 1 else 0):=rfl
theorem P1 (q y:Nat) (r u:List Nat) (c b j:Nat) : BK q (y::r) u c b j=BK q r (u.set j ((u.getD j 0+8589934592-(c+q * y) % 4294967296-b) % 4294967296)) ((c+q * y) / 4294967296) (if u.getD j 0<(c+q * y) % 4294967296+b then 1 else 0) (j+1):=rfl
theorem Nb (xs:List Nat) (j x:Nat) : (L xs).set (0+j) (U x)=L (xs.set j x):=by rw [Nat.zero_add,MK]
theorem XM {H:Ab} {u0 v:List Nat} {q at0:Nat} (hu:Ok u0) (hv:Ok v) (hq:q<4294967296) (hj:at0+v.length<u0.length) (hl:u0.length≤1048576) :
  FnG Tryz.prog 240 [.own 133 (L u0),.d (.sl (L v)),.d (.i .u64 (q:Int)),.d (.i .i64 (at0:Int))] H (.d (U (BK q v u0 0 0 at0).2)) [.own 133 (L (BK q v u0 0 0 at0).1)] H:=by
 refine FnG.of (rs:=[.tmp 8]) 1 68 Tryz.func240 rfl rfl rfl (by simp) (by simp) (by simp) ?_;refine .sr<|kD zj<|rn<|.sr<|kD zj<|kD zj<|rn<|.mid (fun e H'=>H'=H∧∃ u c b,Ok u∧u.length=u0.length∧c<4294967296∧b≤1∧BK q v u0 0 0 at0=BK q [] u c b (at0+v.length)∧e=[(0,.own 133 (L u)),(1,.d (.sl (L v))),(3,.d (.i .i64 (at0:Int))),(9,.d (.i .u64 (c:Int))),(10,.d (.i .u32 (b:Int)))]) ?_ ?_
 ·refine .sr ?_
  refine mvd ?_
  refine ln ?_ (BY _) l32
  refine kA zj<|rn<|.block ?_
  refine .loop (.gh (Gh.keep [0,1,2,3,9,10,13,14,15] rfl) ?_)
  refine AL.ind (σ:=Nat×List Nat×Nat×Nat) (m:=fun s=>v.length-s.1) (e:=fun s=>[(0,.own 133 (L s.2.1)),(1,.d (.sl (L v))),(2,.d (.i .u64 (q:Int))),(3,.d (.i .i64 (at0:Int))),(9,.d (.i .u64 (s.2.2.1:Int))),(10,.d (.i .u32 (s.2.2.2:Int))),(13,.d (.sl (L v))),(14,.d (.i .i64 ((L v).length:Nat))),(15,.d (.i .i64 (s.1:Int)))]) (h:=fun _=>H)
   (I:=fun s=>s.1≤v.length∧Ok s.2.1∧s.2.1.length=u0.length∧s.2.2.1<4294967296∧s.2.2.2≤1∧BK q v u0 0 0 at0=BK q (v.drop s.1) s.2.1 s.2.2.1 s.2.2.2 (at0+s.1)) ?_ (0,u0,0,0) ⟨Nat.zero_le _,hu,rfl,by simp,by simp,rfl⟩
  rintro ⟨i,u,c,b⟩ ⟨h1,h2,h3,h4,h5,h6⟩ ih
  dsimp only at h1 h2 h3 h4 h5 h6 ih ⊢
  refine .sr<|kB zj<|rn<|.seq ?_
  by_cases hi:i<v.length
  ·rw [dT (show (i:Int)<((L v).length:Nat) by rw [Aa];omega)]
   have hy:v[i]?=some v[i]:=lG hi
   have hdr:v.drop i=v[i]::v.drop (i+1):=lC hi
   generalize v[i]=y at hy hdr
   rw [hdr,P1] at h6
   have hyl:=hv.at hy
   have hx:=Ct (u:=u) (j:=at0+i) (by omega)
   have hxl:=DW h2 (at0+i)
   have hlo:(c+q * y) % 4294967296<4294967296:=Nat.mod_lt _ (by decide)
   have f1:=ML hxl hlo h5
   have hq1:(if u.getD (at0+i) 0<(c+q * y) % 4294967296+b then 1 else 0)≤1:=by split<;>omega
   have hrr:(u.getD (at0+i) 0+8589934592-(c+q * y) % 4294967296-b) % 4294967296<4294967296:=Nat.mod_lt _ (by decide)
   have hcs:=YA hq hyl h4
   have hc':=Yu hcs
   have hqy:q * y<18446744073709551616:=by omega
   generalize (u.getD (at0+i) 0+8589934592-(c+q * y) % 4294967296-b) % 4294967296=rr at *
   generalize (if u.getD (at0+i) 0<(c+q * y) % 4294967296+b then 1 else 0)=b' at *
   generalize u.getD (at0+i) 0=x at *
   refine BN ?_;refine .skip<|aw<|.seq<|.block<|.sr<|kA zj ?_
   refine ix i ?_ rfl (Fz hy) rfl s32
   refine ldp ?_ a32
   refine kD zj<|kD zj<|rn<|.sr<|kA zj<|kA zj<|kA zj ?_
   refine cve (y:Int) (BW (by omega)) ?_ u32 u64
   refine bie (.i .u64 ((q * y:Nat):Int)) ?_ ?_
   ·exact ⟨trivial,by rw [← Int.natCast_mul,BW hqy]⟩
   refine bie (.i .u64 ((c+q * y:Nat):Int)) ?_ ?_
   ·exact ⟨trivial,by rw [← Int.natCast_add,BW hcs]⟩
   refine kD zj<|rn<|.gh (Gh.keep [0,1,2,3,9,10,11,13,14,15] rfl) ?_
   generalize c+q * y=s at *
   refine .sr<|mvo ?_;refine kA zj<|kA zj<|ad ((at0+i:Nat):Int) ?_ ?_
   ·omega
   refine mvo ?_;refine kA zj<|kA zj<|ad ((at0+i:Nat):Int) ?_ ?_
   ·omega
   refine ixr (at0+i) ?_ ?_ ?_ s32 (by decide)
   ·rfl
   ·rw [Aa,h3];omega
   refine lde (U x) ?_ ?_ a32
   ·rw [Nat.zero_add];exact GZ hx
   refine mvd ?_
   refine cve ((s % 4294967296:Nat):Int) (FE _) ?_ u64 u32
   refine mvd ?_
   refine cl (xs:=[U x,U (s % 4294967296),U b]) ?_ f1 Tryz.call231
   refine mvt ?_;refine ex ?_;refine ex ?_
   refine ixr (at0+i) ?_ ?_ ?_ s32 (by decide)
   ·rfl
   ·rw [Aa,h3];omega
   refine ste ?_ ?_ z32
   ·rw [Nat.zero_add];exact Gj hx
   refine kD zj<|rn<|.region<|kA zj<|bie (.i .u64 ((s / 4294967296:Nat):Int)) ?_ ?_
   ·simp [IntKind.bits]
   refine kD zj<|.nil ?_;refine aw<|.region<|ad ((i+1:Nat):Int) ?_ ?_
   ·omega
   refine kA zj<|rn<|.gh (Gh.keep [0,1,2,3,9,10,13,14,15] rfl) ?_
   have:=ih (i+1,u.set (at0+i) rr,s / 4294967296,b') ⟨by dsimp only;omega,h2.set _ hrr,by dsimp only;rw [List.length_set];exact h3,hc',hq1,h6⟩ (by dsimp only;omega)
   dsimp only at this
   rw [← Nb] at this
   exact this
  ·rw [dF (show ¬(i:Int)<((L v).length:Nat) by rw [Aa];omega)]
   refine BD ?_;refine .gh (Gh.keep [0,1,3,9,10] rfl)<|.exit ?_
   have hie:i=v.length:=by omega
   subst hie
   rw [List.drop_eq_nil_of_le (Nat.le_refl _)] at h6
   exact ⟨rfl,u,c,b,h2,h3,h4,h5,h6,rfl⟩
 rintro _ _ ⟨rfl,u,c,b,h2,h3,h4,h5,h6,rfl⟩
 rw [h6,RV,Nat.mod_eq_of_lt h4]
 have hx:=Ct (u:=u) (j:=at0+v.length) (by omega)
 have hxl:=DW h2 (at0+v.length)
 have f1:=ML hxl h4 h5
 generalize (u.getD (at0+v.length) 0+8589934592-c-b) % 4294967296=rr at *
 generalize (if u.getD (at0+v.length) 0<c+b then 1 else 0)=b' at *
 generalize u.getD (at0+v.length) 0=x at *
 refine .sr<|mvo ?_;refine kA zj<|kA zj ?_
 refine ln ?_ (BY _) l32
 refine ad ((at0+v.length:Nat):Int) ?_ ?_
 ·rw [Aa];omega
 refine mvo ?_;refine kA zj<|kA zj ?_
 refine ln ?_ (BY _) l32
 refine ad ((at0+v.length:Nat):Int) ?_ ?_
 ·rw [Aa];omega
 refine ixr (at0+v.length) ?_ ?_ ?_ s32 (by decide)
 ·rfl
 ·rw [Aa,h3];omega
 refine lde (U x) ?_ ?_ a32
 ·rw [Nat.zero_add];exact GZ hx
 refine mvd ?_
 refine cve (c:Int) (Ot h4) ?_ u64 u32
 refine mvd ?_
 refine cl (xs:=[U x,U c,U b]) ?_ f1 Tryz.call231
 refine mvt ?_;refine ex ?_;refine ex ?_
 refine ixr (at0+v.length) ?_ ?_ ?_ s32 (by decide)
 ·rfl
 ·rw [Aa,h3];omega
 refine ste ?_ ?_ z32
 ·rw [Nat.zero_add];exact Gj hx
 refine kD zj<|rn<|.sr<|kA zj<|kD zj<|rn<|.ret ?_
 refine ⟨⟨[],by simp;rfl⟩,⟨rfl,rfl⟩,?_⟩
 intro k cc hk
 cases k with
 | zero =>
  simp at hk;subst hk
  exact ⟨by rw [← Nb];rfl,rfl,by simp⟩
 | succ k=>simp at hk
def shL (n:Nat) : Nat→List Nat→List Nat
 | c,[]=>[c]
 | c,x::r=>(c+x * 2 ^ n % 4294967296)::shL n (x * 2 ^ n / 4294967296) r
theorem JG (n:Nat) : ∀ (a:List Nat) (c:Nat),(shL n c a).length=a.length+1
 | [],c=>rfl
 | x::r,c=>by simp [shL,JG n r]
theorem RN {n:Nat} (h:n<32) : 2 ^ n * 2 ^ (32-n)=4294967296:=by
 rw [← Nat.pow_add,show n+(32-n)=32 by omega]
theorem Tb {n x:Nat} (h:n<32) : x * 2 ^ n % 4294967296=x % 2 ^ (32-n) * 2 ^ n:=by
 rw [← RN h,Nat.mul_comm (2 ^ n),Nat.mul_mod_mul_right]
theorem P8 {n x c:Nat} (h:n<32) (hc:c<2 ^ n) : c+x * 2 ^ n % 4294967296<4294967296:=by
 rw [Tb h]
 have h1:x % 2 ^ (32-n)<2 ^ (32-n):=Nat.mod_lt _ (Nat.two_pow_pos _)
 have h2:(x % 2 ^ (32-n)+1) * 2 ^ n≤2 ^ (32-n) * 2 ^ n:=Nat.mul_le_mul_right _ h1
 have h3:(2:Nat) ^ (32-n) * 2 ^ n=4294967296:=by rw [Nat.mul_comm];exact RN h
 rw [Nat.add_mul] at h2
 omega
theorem P2 {n x:Nat} (hx:x<4294967296) : x * 2 ^ n / 4294967296<2 ^ n:=by
 rw [Nat.div_lt_iff_lt_mul (by decide),Nat.mul_comm]
 exact Nat.mul_lt_mul_of_pos_left hx (Nat.two_pow_pos n)
theorem Ph {n:Nat} (hn:n<32) : ∀ (a:List Nat) (c:Nat),Ok a→c<2 ^ n→val (shL n c a)=c+val a * 2 ^ n∧Ok (shL n c a)
 | [],c,h,hc=>by
  have:(2:Nat) ^ n≤2 ^ 32:=Nat.pow_le_pow_right (by decide) (by omega)
  exact ⟨by simp [shL,val],.cons (by omega) .nil⟩
 | x::r,c,h,hc=>by
  obtain ⟨a1,a2⟩:=Ph hn r _ h.tail (P2 (n:=n) h.head)
  refine ⟨?_,.cons (P8 hn hc) a2⟩
  show (c+x * 2 ^ n % 4294967296)+4294967296 * val (shL n (x * 2 ^ n / 4294967296) r)=c+(x+4294967296 * val r) * 2 ^ n
  rw [a1,Nat.add_mul,Nat.mul_add,Nat.mul_assoc]
  omega
theorem Vu {n x c:Nat} (hn:n<32) (hc:c<2 ^ n) : bits .or .u32 (c:Int) ((x * 2 ^ n % 4294967296:Nat) : Int)=((c+x * 2 ^ n % 4294967296:Nat) : Int):=by
 have h1:=P8 (x:=x) hn hc
 rw [bits_join_low .u32 32 (by decide) OJ n (c:Int) ((x * 2 ^ n % 4294967296:Nat):Int) (by omega) (by exact_mod_cast hc) (by omega) (by omega) ?_ (by omega)]
 ·omega
 ·rw [Tb hn];exact_mod_cast Nat.mul_mod_left _ _
theorem Mw {a:List Nat} {n:Nat} (ha:Ok a) (hl:a.length≤1048576) (hn:n<32) : Fn Tryz.prog 238 [.sl (L a),.i .i64 n] (.own 133 (L (shL n 0 a))):=by
 refine Fn.o1 4 41 Tryz.func238 ?_;refine .sr<|asn ?_;refine rn<|.sr<|kA zj ?_
 refine ln ?_ (BY _) l32
 refine ad ((a.length+1:Nat):Int) ?_ ?_
 ·rw [Aa];omega
 refine mk (a.length+1) ⟨rfl,rfl⟩ ?_ ?_ e32 rfl
 ·omega
 refine aso ?_;refine rn<|.mid (fun e H'=>e=[(5,.own 133 (L (shL n 0 a)))]∧H'=[]) ?_ ?_
 ·refine .sr ?_
  refine mvd ?_
  refine ln ?_ (BY _) l32
  refine kA zj<|rn<|.block ?_
  refine .loop (.gh (Gh.keep [1,5,13,14,15] rfl) ?_)
  refine AL.cast (env':=[(1,.d (.i .i64 n)),(5,.own 133 (L ([]++0::List.replicate (a.length-0) 0))),(13,.d (.sl (L a))),(14,.d (.i .i64 ((L a).length:Nat))),(15,.d (.i .i64 ((0:Nat):Int)))]) (by
   have e1:L ([]++0::List.replicate (a.length-0) 0)=List.replicate (a.length+1) (U 0):=by simp [L,List.replicate_succ]
   rw [e1];rfl) ?_
  refine AL.ind (σ:=List Nat×Nat×Nat) (m:=fun s=>a.length-s.2.2) (e:=fun s=>[(1,.d (.i .i64 n)),(5,.own 133 (L (s.1++s.2.1::List.replicate (a.length-s.2.2) 0))),(13,.d (.sl (L a))),(14,.d (.i .i64 ((L a).length:Nat))),(15,.d (.i .i64 (s.2.2:Int)))]) (h:=fun _=>[])
   (I:=fun s=>s.2.2≤a.length∧s.1.length=s.2.2∧s.2.1<2 ^ n∧s.1++shL n s.2.1 (a.drop s.2.2)=shL n 0 a) ?_ ([],0,0) ⟨by simp,rfl,Nat.two_pow_pos n,rfl⟩
  rintro ⟨ps,c,i⟩ ⟨h1,h2,h3,h4⟩ ih
  dsimp only at h1 h2 h3 h4 ih ⊢
  refine .sr<|kB zj<|rn<|.seq ?_
  by_cases hi:i<a.length
  ·rw [dT (show (i:Int)<((L a).length:Nat) by rw [Aa];omega)]
   have hx:a[i]?=some a[i]:=lG hi
   have hdr:a.drop i=a[i]::a.drop (i+1):=lC hi
   generalize a[i]=x at hx hdr
   have hxl:=ha.at hx
   rw [hdr] at h4
   obtain ⟨m,hm⟩:∃ m,a.length-i=m+1:=⟨a.length-i-1,by omega⟩
   rw [hm,List.replicate_succ]
   have hz0:(ps++c::0::List.replicate m 0)[i]?=some c:=by
    rw [List.getElem?_append_right (by omega),h2,Nat.sub_self];rfl
   have hw:x * 2 ^ n<18446744073709551616:=by
    have:(2:Nat) ^ n≤2 ^ 31:=Nat.pow_le_pow_right (by decide) (by omega)
    have:=Nat.mul_le_mul (show x≤4294967295 by omega) this
    omega
   refine BN ?_;refine .skip<|aw<|.seq<|.block<|.sr<|kA zj ?_
   refine ix i ?_ rfl (Fz hx) rfl s32
   refine ldp ?_ a32
   refine kD zj<|kD zj<|rn<|.sr<|kA zj ?_
   refine cve (x:Int) (BW (by omega)) ?_ u32 u64
   refine kA zj<|bie (.i .u64 ((x * 2 ^ n:Nat):Int)) ?_ ?_
   ·refine ⟨by omega,?_⟩
    have e1:min ((n:Int).toNat) IntKind.u64.bits=n:=by simp [IntKind.bits];omega
    rw [e1,← BW hw]
    simp
   refine kD zj<|rn<|.sr<|mvo ?_;refine kA zj ?_
   refine ixr i ?_ ?_ ?_ s32 (by decide)
   ·omega
   ·rw [Aa];simp;omega
   refine lde (U c) ?_ ?_ a32
   ·rw [Nat.zero_add];exact GZ hz0
   refine mvd ?_
   refine cve ((x * 2 ^ n % 4294967296:Nat):Int) (FE _) ?_ u64 u32
   refine bie (U (c+x * 2 ^ n % 4294967296)) ?_ ?_
   ·exact ⟨trivial,by rw [Vu hn h3];rfl⟩
   refine ixr i ?_ ?_ ?_ s32 (by decide)
   ·omega
   ·rw [Aa];simp;omega
   refine ste ?_ ?_ z32
   ·rw [Nat.zero_add];exact Gj hz0
   refine rn ?_
   have hs1:(L (ps++c::0::List.replicate m 0)).set (0+i) (U (c+x * 2 ^ n % 4294967296))=L (ps++(c+x * 2 ^ n % 4294967296)::0::List.replicate m 0):=by
    rw [MK,Nat.zero_add,List.set_append_right _ _ (by omega),h2,Nat.sub_self];rfl
   have hs2:(L (ps++(c+x * 2 ^ n % 4294967296)::0::List.replicate m 0)).set (0+(i+1)) (U (x * 2 ^ n / 4294967296))=L ((ps++[c+x * 2 ^ n % 4294967296])++(x * 2 ^ n / 4294967296)::List.replicate m 0):=by
    rw [MK,Nat.zero_add,List.set_append_right _ _ (by omega),h2,show i+1-i=1 by omega,List.append_assoc];rfl
   have hz1:(ps++(c+x * 2 ^ n % 4294967296)::0::List.replicate m 0)[i+1]?=some 0:=by
    rw [List.getElem?_append_right (by omega),h2,show i+1-i=1 by omega];rfl
   rw [hs1]
   refine .region<|mvo ?_;refine kA zj<|ad ((i+1:Nat):Int) ?_ ?_
   ·omega
   refine kA zj<|bie (.i .u64 ((x * 2 ^ n / 4294967296:Nat):Int)) ?_ ?_
   ·simp [IntKind.bits]
   refine cve ((x * 2 ^ n / 4294967296:Nat):Int) (Ot (by omega)) ?_ u64 u32
   refine ixr (i+1) ?_ ?_ ?_ s32 (by decide)
   ·omega
   ·rw [Aa];simp;omega
   refine ste ?_ ?_ z32
   ·rw [Nat.zero_add];exact Gj hz1
   refine .nil ?_;refine aw<|.region<|ad ((i+1:Nat):Int) ?_ ?_
   ·omega
   refine kA zj<|.nil ?_;refine AL.gh (Gh.keep [1,5,13,14,15] rfl)<|AL.cast (env':=[(1,.d (.i .i64 n)),(5,.own 133 (L ((ps++[c+x * 2 ^ n % 4294967296])++(x * 2 ^ n / 4294967296)::List.replicate (a.length-(i+1)) 0))),(13,.d (.sl (L a))),(14,.d (.i .i64 ((L a).length:Nat))),(15,.d (.i .i64 ((i+1:Nat):Int)))]) (by rw [show a.length-(i+1)=m by omega,← hs2];rfl) ?_
   refine ih (ps++[c+x * 2 ^ n % 4294967296],x * 2 ^ n / 4294967296,i+1) ⟨by show i+1≤a.length;omega,by simp [h2],P2 hxl,?_⟩ (by show a.length-(i+1)<a.length-i;omega)
   rw [← h4,List.append_assoc];rfl
  ·rw [dF (show ¬(i:Int)<((L a).length:Nat) by rw [Aa];omega)]
   have e1:a.drop i=[]:=List.drop_eq_nil_of_le (by omega)
   rw [e1] at h4
   replace h4:ps++[c]=shL n 0 a:=h4
   rw [show a.length-i=0 by omega]
   refine BD ?_;refine .gh (Gh.keep [5] rfl)<|.exit ?_
   exact ⟨by rw [← h4];rfl,rfl⟩
 ·rintro _ _ ⟨rfl,rfl⟩
  refine .sr<|Y5 ?_;refine aso ?_;refine rn<|.ret ?_
  exact ⟨rfl,rfl⟩
def shR (n:Nat) : List Nat→List Nat
 | []=>[]
 | x::r=>((x+r.headD 0 * 4294967296) / 2 ^ n % 4294967296)::shR n r
theorem XG : ∀ (r:List Nat),∃ k,val r=r.headD 0+4294967296 * k
 | []=>⟨0,rfl⟩
 | _::r=>⟨val r,rfl⟩
theorem Tr {n:Nat} (hn:n<32) : ∀ (a:List Nat),Ok a→val (shR n a)=val a / 2 ^ n∧Ok (shR n a)
 | [],_=>⟨by simp [shR,val],.nil⟩
 | x::r,h=>by
  obtain ⟨a1,a2⟩:=Tr hn r h.tail
  refine ⟨?_,.cons (Nat.mod_lt _ (by decide)) a2⟩
  show (x+r.headD 0 * 4294967296) / 2 ^ n % 4294967296+4294967296 * val (shR n r)=(x+4294967296 * val r) / 2 ^ n
  rw [a1]
  obtain ⟨k,hk⟩:=XG r
  have hx:=h.head
  have hp:=RN hn
  have h2:0<2 ^ n:=Nat.two_pow_pos n
  have e1:(x+4294967296 * val r) / 2 ^ n / 4294967296=val r / 2 ^ n:=by
   rw [Nat.div_div_eq_div_mul,Nat.mul_comm (2 ^ n) 4294967296,← Nat.div_div_eq_div_mul]
   congr 1
   omega
  have e2:(x+4294967296 * val r) / 2 ^ n % 4294967296=(x+r.headD 0 * 4294967296) / 2 ^ n % 4294967296:=by
   have:x+4294967296 * val r=x+r.headD 0 * 4294967296+2 ^ n * (2 ^ (32-n) * k * 4294967296):=by
    rw [hk,← Nat.mul_assoc,← Nat.mul_assoc,hp];omega
   rw [this,Nat.add_mul_div_left _ _ h2,Nat.add_mul_mod_self_right]
  have:=Nat.mod_add_div ((x+4294967296 * val r) / 2 ^ n) 4294967296
  rw [e1,e2] at this
  exact this
theorem Po {x y:Nat} (hx:x<4294967296) (hy:y<4294967296) : bits .or .u64 (x:Int) ((y * 4294967296:Nat) : Int)=((x+y * 4294967296:Nat) : Int):=by
 rw [bits_join_low .u64 64 (by decide) Hf 32 (x:Int) ((y * 4294967296:Nat):Int) (by omega) (by omega) (by omega) (by omega) (by omega) (by omega)]
 omega
theorem HA (n:Nat) : ∀ (a:List Nat),(shR n a).length=a.length
 | []=>rfl
 | x::r=>by simp [shR,HA n r]
theorem Vp (n:Nat) : ∀ (a:List Nat) (i x:Nat),a[i]?=some x→(shR n a)[i]?=some ((x+(a.drop (i+1)).headD 0 * 4294967296) / 2 ^ n % 4294967296)
 | [],i,x,h=>by simp at h
 | y::r,0,x,h=>by simp at h;subst h;rfl
 | y::r,i+1,x,h=>by
  have:=Vp n r i x (by simpa using h)
  simpa [shR] using this
theorem Xk {a:List Nat} {n:Nat} (ha:Ok a) (hl:a.length≤1048576) (hn:n<32) : Fn Tryz.prog 242 [.sl (L a),.i .i64 n] (.d (.sl (L (Af (val a / 2 ^ n))))):=by
 have hv:=Tr hn a ha
 refine Fn.o1 4 44 Tryz.func242 ?_;refine .sr<|asn ?_;refine rn<|.sr<|kA zj ?_
 refine cl (xs:=[.sl (L a)]) ?_ (NB a (by omega)) Tryz.call117
 refine aso ?_;refine rn<|.mid (fun e H'=>e=[(5,.own 133 (L (shR n a)))]∧H'=[]) ?_ ?_
 ·refine .sr ?_
  refine mvo ?_
  refine lnr ?_ l32
  refine kA zj<|rn<|.block ?_
  refine .loop (.gh (Gh.keep [1,5,11,12] rfl) ?_)
  refine AL.ind (σ:=Nat) (m:=fun i=>a.length-i) (e:=fun i=>[(1,.d (.i .i64 n)),(5,.own 133 (L ((shR n a).take i++a.drop i))),(11,.d (.i .i64 ((L a).length:Nat))),(12,.d (.i .i64 (i:Int)))]) (h:=fun _=>[])
   (I:=fun i=>i≤a.length) ?_ 0 (Nat.zero_le _)
  intro i h1 ih
  refine .sr<|kB zj<|rn<|.seq ?_
  by_cases hi:i<a.length
  ·rw [dT (show (i:Int)<((L a).length:Nat) by rw [Aa];omega)]
   have hx:a[i]?=some a[i]:=lG hi
   have hdr:a.drop i=a[i]::a.drop (i+1):=lC hi
   generalize a[i]=x at hx hdr
   have hxl:=ha.at hx
   have hsr:=Vp n a i x hx
   have hrl:=HA n a
   have htl:((shR n a).take i).length=i:=by rw [List.length_take,hrl];omega
   have hzl:((shR n a).take i++a.drop i).length=a.length:=by rw [List.length_append,htl,List.length_drop];omega
   have hz0:((shR n a).take i++a.drop i)[i]?=some x:=by
    rw [List.getElem?_append_right (by omega),htl,Nat.sub_self,hdr];rfl
   refine BN ?_;refine .skip<|aw<|.seq<|.block<|.sr<|kA zj<|kD zj<|rn<|.sr<|mvo ?_;refine kA zj ?_
   refine ixr i ?_ ?_ ?_ s32 (by decide)
   ·omega
   ·rw [Aa,hzl];omega
   refine lde (U x) ?_ ?_ a32
   ·rw [Nat.zero_add];exact GZ hz0
   refine cve (x:Int) (BW (by omega)) ?_ u32 u64
   refine kD zj<|rn<|.mid (fun e H'=>H'=[]∧e=[(1,.d (.i .i64 n)),(5,.own 133 (L ((shR n a).take i++a.drop i))),(6,.d (.i .i64 (i:Int))),(7,.d (.i .u64 ((x+(a.drop (i+1)).headD 0 * 4294967296:Nat):Int))),(11,.d (.i .i64 ((L a).length:Nat))),(12,.d (.i .i64 (i:Int)))]) ?_ ?_
   ·refine .sr ?_
    refine kA zj<|ad ((i+1:Nat):Int) ?_ ?_
    ·omega
    refine mvo ?_
    refine lnr ?_ l32
    refine kB zj<|rn ?_
    by_cases hj:i+1<a.length
    ·have hy:a[i+1]?=some a[i+1]:=lG hj
     have hdr2:a.drop (i+1)=a[i+1]::a.drop (i+1+1):=lC hj
     generalize a[i+1]=y at hy hdr2
     have hyl:=ha.at hy
     have hz1:((shR n a).take i++a.drop i)[i+1]?=some y:=by
      rw [List.getElem?_append_right (by omega),htl,show i+1-i=1 by omega,hdr,hdr2];rfl
     rw [dT (show ((i+1:Nat):Int)<((L ((shR n a).take i++a.drop i)).length:Nat) by rw [Aa,hzl];omega)]
     refine BN ?_;refine .region<|kA zj<|mvo ?_;refine kA zj<|ad ((i+1:Nat):Int) ?_ ?_
     ·omega
     refine ixr (i+1) ?_ ?_ ?_ s32 (by decide)
     ·omega
     ·rw [Aa,hzl];omega
     refine lde (U y) ?_ ?_ a32
     ·rw [Nat.zero_add];exact GZ hz1
     refine cve (y:Int) (BW (by omega)) ?_ u32 u64
     refine bie (.i .u64 ((y * 4294967296:Nat):Int)) ?_ ?_
     ·refine ⟨by decide,?_⟩
      rw [← BW (show y * 4294967296<18446744073709551616 by omega)];simp [IntKind.bits]
     refine bie (.i .u64 ((x+y * 4294967296:Nat):Int)) ?_ ?_
     ·exact ⟨trivial,by rw [Po hxl hyl]⟩
     refine kD zj<|.gh (Gh.keep [1,5,6,7,11,12] rfl)<|rn ?_
     refine ⟨rfl,?_⟩
     rw [hdr2];rfl
    ·have e1:a.drop (i+1)=[]:=List.drop_eq_nil_of_le (by omega)
     rw [dF (show ¬((i+1:Nat):Int)<((L ((shR n a).take i++a.drop i)).length:Nat) by rw [Aa,hzl];omega)]
     refine BD ?_;refine .gh (Gh.keep [1,5,6,7,11,12] rfl)<|.skip ?_
     refine ⟨rfl,?_⟩
     rw [e1];simp;rfl
   ·rintro _ _ ⟨rfl,rfl⟩
    have hw:x+(a.drop (i+1)).headD 0 * 4294967296<18446744073709551616:=by
     have h3:(a.drop (i+1)).headD 0<4294967296:=by
      cases h4:a.drop (i+1) with
      | nil=>decide
      | cons y r=>exact (ha.drop (i+1)) y (by rw [h4];simp)
     omega
    generalize x+(a.drop (i+1)).headD 0 * 4294967296=w at hsr hw
    refine .region<|mvo ?_;refine kA zj<|kA zj<|kA zj<|bie (.i .u64 ((w / 2 ^ n:Nat):Int)) ?_ ?_
    ·refine ⟨by omega,?_⟩
     have e1:min ((n:Int).toNat) IntKind.u64.bits=n:=by simp [IntKind.bits];omega
     rw [e1];simp
    refine cve ((w / 2 ^ n % 4294967296:Nat):Int) (FE _) ?_ u64 u32
    refine ixr i ?_ ?_ ?_ s32 (by decide)
    ·omega
    ·rw [Aa,hzl];omega
    refine ste ?_ ?_ z32
    ·rw [Nat.zero_add];exact Gj hz0
    refine .nil ?_;refine aw ?_
    have hset:(L ((shR n a).take i++a.drop i)).set (0+i) (U (w / 2 ^ n % 4294967296))=L ((shR n a).take (i+1)++a.drop (i+1)):=by
     rw [MK,Nat.zero_add,List.set_append_right _ _ (by omega),htl,Nat.sub_self,hdr,List.take_add_one,hsr,List.append_assoc];rfl
    refine .region<|ad ((i+1:Nat):Int) ?_ ?_
    ·omega
    refine kA zj<|.nil ?_;refine AL.gh (Gh.keep [1,5,11,12] rfl)<|AL.cast (env':=[(1,.d (.i .i64 n)),(5,.own 133 (L ((shR n a).take (i+1)++a.drop (i+1)))),(11,.d (.i .i64 ((L a).length:Nat))),(12,.d (.i .i64 ((i+1:Nat):Int)))]) (by rw [← hset];rfl) ?_
    exact ih (i+1) (by show i+1≤a.length;omega) (by show a.length-(i+1)<a.length-i;omega)
  ·rw [dF (show ¬(i:Int)<((L a).length:Nat) by rw [Aa];omega)]
   have e1:a.drop i=[]:=List.drop_eq_nil_of_le (by omega)
   have e2:(shR n a).take i=shR n a:=List.take_of_length_le (by rw [HA];omega)
   rw [e1,e2,List.append_nil]
   refine BD ?_;refine .gh (Gh.keep [5] rfl)<|.exit ?_
   exact ⟨rfl,rfl⟩
 ·rintro _ _ ⟨rfl,rfl⟩
  refine .sr<|fz (p:=.t 5) ?_;refine kA zj ?_
  refine cl (xs:=[.sl (L (shR n a))]) ?_ (DZ hv.2 (by rw [HA];omega)) Tryz.call161
  refine kD zj<|rn<|.ret ?_
  exact ⟨by rw [hv.1];rfl,rfl⟩
def OY (u2 u1 u0 v1 v0:Nat) : Nat:=min (((u2 * 4294967296+u1) * 4294967296+u0) / (v1 * 4294967296+v0)) 4294967295
theorem YZ {u v:Nat} (hu:u<4294967296) (hv:v<4294967296) : u * 4294967296+v<18446744073709551616:=by omega
theorem ZI {N v1 u2 u1:Nat} (hN:N=u2 * 4294967296+u1) (h2:u2≤v1) (h1:u1<4294967296) : N<v1 * 4294967296+4294967296:=by omega
theorem Ul {N v1:Nat} (hN:N<v1 * 4294967296+4294967296) (g1:v1<4294967296) (hv:0<v1) :
  ∃ r,min (N / v1) 4294967295 * v1+r=N∧r<8589934592:=by
 have hdm:=Nat.div_add_mod N v1
 have hml:=Nat.mod_lt N hv
 by_cases h:N / v1≤4294967295
 ·rw [Nat.min_eq_left h]
  exact ⟨N % v1,by rw [Nat.mul_comm];exact hdm,by omega⟩
 ·rw [Nat.min_eq_right (by omega)]
  have h3:v1 * 4294967296≤v1 * (N / v1):=Nat.mul_le_mul_left _ (by omega)
  exact ⟨N-4294967295 * v1,by omega,by omega⟩
theorem Abv {N M v1 D u0 v0:Nat} (hM:M=N * 4294967296+u0) (hD:D=v1 * 4294967296+v0) (h0:u0<4294967296) (hv:0<v1) : M / D≤N / v1:=by
 subst hM hD
 have h1:(N * 4294967296+u0) / (v1 * 4294967296+v0)≤(N * 4294967296+u0) / (v1 * 4294967296):=Nat.div_le_div_left (by omega) (by omega)
 have h2:(N * 4294967296+u0) / (v1 * 4294967296)=N / v1:=by
  rw [Nat.mul_comm v1,← Nat.div_div_eq_div_mul]
  congr 1
  omega
 omega
theorem g1_ {q v0 r u0:Nat} (hq:q≤4294967295) (g0:v0<4294967296) (h:4294967296≤r) : q * v0≤r * 4294967296+u0:=by
 have a1:q * v0≤4294967295 * 4294967295:=Nat.mul_le_mul hq (by omega)
 omega
theorem g2_ {q v1 r B N u0 v0:Nat} (hr:q * v1+r=N) (h1:q * v0≤r * B+u0) : q * (v1 * B+v0)≤N * B+u0:=by
 have e1:q * (v1 * B+v0)=q * v1 * B+q * v0:=by grind
 have e2:N * B=q * v1 * B+r * B:=by grind
 omega
theorem g3_ {p v1 r B N u0 v0:Nat} (hr:(p+1) * v1+r=N) (h1:r * B+u0<(p+1) * v0) : N * B+u0<(p+1) * (v1 * B+v0):=by
 have e1:(p+1) * (v1 * B+v0)=(p+1) * v1 * B+(p+1) * v0:=by grind
 have e2:N * B=(p+1) * v1 * B+r * B:=by grind
 omega
theorem Us {N M D v1 v0 u0 q r:Nat} (hM:M=N * 4294967296+u0) (hD:D=v1 * 4294967296+v0) (hq:q≤4294967295) (hg:min (M / D) 4294967295≤q) (hr:q * v1+r=N) (g0:v0<4294967296) (hv:0<v1) (h:4294967296≤r∨q * v0≤r * 4294967296+u0) : q=min (M / D) 4294967295:=by
 have h1:q * v0≤r * 4294967296+u0:=by
  rcases h with h|h
  ·exact g1_ hq g0 h
  ·exact h
 have h2:=g2_ (B:=4294967296) hr h1
 rw [← hM,← hD] at h2
 have h3:q≤M / D:=(Nat.le_div_iff_mul_le (by omega)).2 h2
 clear h2 h1 hM hD hr
 omega
theorem Sa {N M D v1 v0 u0 q r:Nat} (hM:M=N * 4294967296+u0) (hD:D=v1 * 4294967296+v0) (hr:q * v1+r=N) (h:r * 4294967296+u0<q * v0) (hv:0<v1) : ∃ p,q=p+1∧min (M / D) 4294967295≤p∧p * v1+(r+v1)=N:=by
 cases q with
 | zero=>simp at h
 | succ p =>
  have h2:=g3_ (B:=4294967296) hr h
  rw [← hM,← hD] at h2
  have h3:M / D<p+1:=(Nat.div_lt_iff_lt_mul (by omega)).2 h2
  refine ⟨p,rfl,?_,by grind⟩
  clear h2 hM hD hr h
  omega
theorem N3 {r:Nat} (h:r<4294967296) : IntKind.u64.wrap ((r:Int) * 2 ^ (min ((32:Int).toNat) IntKind.u64.bits))=((r * 4294967296:Nat) : Int):=by
 rw [← BW (n:=r * 4294967296) (by omega)];simp [IntKind.bits]
theorem Ab6 {q v0:Nat} (hq:q≤4294967295) (g0:v0<4294967296) : q * v0<18446744073709551616:=by
 have a1:q * v0≤4294967295 * 4294967295:=Nat.mul_le_mul hq (by omega)
 omega
theorem VX {u2 u1 u0 v1 v0:Nat} (h2:u2≤v1) (h1:u1<4294967296) (h0:u0<4294967296) (g1:v1<4294967296) (g0:v0<4294967296) (hv:0<v1) :
  Fn Tryz.prog 239 [U u2,U u1,U u0,U v1,U v0] (.d (.i .u64 (OY u2 u1 u0 v1 v0:Nat))):=by
 have hu2:u2<4294967296:=Nat.lt_of_le_of_lt h2 g1
 have ht:=YZ hu2 h1
 have htl:=ZI (N:=u2 * 4294967296+u1) rfl h2 h1
 have hj:=Kw hu2 h1
 have hs:=N3 hu2
 have hgq:OY u2 u1 u0 v1 v0=min (((u2 * 4294967296+u1) * 4294967296+u0) / (v1 * 4294967296+v0)) 4294967295:=rfl
 obtain ⟨N,hN⟩:∃ N,N=u2 * 4294967296+u1:=⟨_,rfl⟩
 rw [← hN] at ht htl hj hgq
 obtain ⟨M,hM⟩:∃ M,M=N * 4294967296+u0:=⟨_,rfl⟩
 obtain ⟨D,hD⟩:∃ D,D=v1 * 4294967296+v0:=⟨_,rfl⟩
 rw [← hM,← hD] at hgq
 rw [hgq]
 obtain ⟨u2B,hu2B⟩:∃ z,z=u2 * 4294967296:=⟨_,rfl⟩
 rw [← hu2B] at hj hs
 have w1:IntKind.u64.wrap (u2:Int)=(u2:Int):=BW (Nat.lt_trans hu2 (by decide))
 have w2:IntKind.u64.wrap (u1:Int)=(u1:Int):=BW (Nat.lt_trans h1 (by decide))
 have w3:IntKind.u64.wrap (v1:Int)=(v1:Int):=BW (Nat.lt_trans g1 (by decide))
 have w4:IntKind.u64.wrap (v0:Int)=(v0:Int):=BW (Nat.lt_trans g0 (by decide))
 have w5:IntKind.u64.wrap (u0:Int)=(u0:Int):=BW (Nat.lt_trans h0 (by decide))
 have w6:IntKind.u64.wrap ((N / v1:Nat):Int)=((N / v1:Nat):Int):=BW (Nat.lt_of_le_of_lt (Nat.div_le_self _ _) ht)
 obtain ⟨r0,hr0,hr1⟩:=Ul htl g1 hv
 have hup:=Abv hM hD h0 hv
 clear hN hu2B htl
 refine Fn.o1 10 52 Tryz.func239 ?_;refine .sr<|kD zj<|rn<|.sr<|kA zj ?_
 refine cve (u2:Int) w1 ?_ u32 u64
 refine bie (.i .u64 (u2B:Int)) ?_ ?_
 ·exact ⟨by decide,by rw [hs]⟩
 refine mvd ?_
 refine cve (u1:Int) w2 ?_ u32 u64
 refine bie (.i .u64 (N:Int)) ?_ ?_
 ·exact ⟨trivial,by rw [hj]⟩
 refine kD zj<|rn<|.gh (Gh.keep [2,3,4,11] rfl)<|.sr<|kA zj<|kA zj ?_
 refine cve (v1:Int) w3 ?_ u32 u64
 refine bie (.i .u64 ((N / v1:Nat):Int)) ?_ ?_
 ·exact ⟨by omega,by rw [Ry,w6]⟩
 refine mn ?_
 rw [show (if (4294967295:Int)<((N / v1:Nat):Int) then (4294967295:Int) else ((N / v1:Nat):Int))=((min (N / v1) 4294967295:Nat):Int) by
  by_cases h:4294967295<N / v1
  ·rw [if_pos (by omega),Nat.min_eq_right (by omega)];rfl
  ·rw [if_neg (by omega),Nat.min_eq_left (by omega)]]
 refine kD zj<|rn ?_
 have hq0:min (N / v1) 4294967295≤4294967295:=Nat.min_le_right _ _
 have hgq0:min (M / D) 4294967295≤min (N / v1) 4294967295:=by omega
 generalize min (N / v1) 4294967295=q0 at *
 have hqv:q0 * v1≤N:=by omega
 have hw7:IntKind.u64.wrap ((q0:Int) * (v1:Int))=((q0 * v1:Nat):Int):=by rw [← Int.natCast_mul,BW (Nat.lt_of_le_of_lt hqv ht)]
 have hw8:IntKind.u64.wrap ((N:Int)-((q0 * v1:Nat):Int))=(r0:Int):=by
  rw [show (N:Int)-((q0 * v1:Nat):Int)=(r0:Int) by omega,BW (by omega)]
 refine .sr<|kA zj<|kA zj<|kA zj ?_
 refine cve (v1:Int) w3 ?_ u32 u64
 refine bie (.i .u64 ((q0 * v1:Nat):Int)) ?_ ?_
 ·exact ⟨trivial,by rw [hw7]⟩
 refine bie (.i .u64 (r0:Int)) ?_ ?_
 ·exact ⟨trivial,by rw [hw8]⟩
 refine kD zj<|rn<|.mid (fun e H'=>e=[(12,.d (.i .u64 ((min (M / D) 4294967295:Nat):Int)))]) ?_ ?_
 ·refine .block ?_
  refine .loop (.gh (Gh.keep [2,3,4,12,13] rfl) ?_)
  refine AL.ind (σ:=Nat×Nat) (m:=fun s=>s.1) (e:=fun s=>[(2,.d (U u0)),(3,.d (U v1)),(4,.d (U v0)),(12,.d (.i .u64 (s.1:Int))),(13,.d (.i .u64 (s.2:Int)))]) (h:=fun _=>[])
   (I:=fun s=>min (M / D) 4294967295≤s.1∧s.1≤4294967295∧s.1 * v1+s.2=N∧s.2<8589934592) ?_ (q0,r0) ⟨hgq0,hq0,hr0,hr1⟩
  clear hq0 hgq0 hqv hw7 hw8 hr0 hr1 hup w6
  clear q0 r0
  rintro ⟨q,r⟩ ⟨i1,i2,i3,i4⟩ ih
  dsimp only at i1 i2 i3 i4 ih ⊢
  have fin:(4294967296≤r∨q * v0≤r * 4294967296+u0)→q=min (M / D) 4294967295:=fun h=>Us hM hD i2 i1 i3 g0 hv h
  refine .seq<|.sr<|kA zj<|kB zj<|kA zj ?_
  by_cases hr:r<4294967296
  ·rw [dT (show (r:Int)<4294967296 by omega)]
   have hqv0:=Ab6 i2 g0
   have hsr:=N3 hr
   have hjr:=Kw hr h0
   have hst:r * 4294967296+u0<q * v0→∃ p,q=p+1∧min (M / D) 4294967295≤p∧p * v1+(r+v1)=N:=fun h=>Sa hM hD i3 h hv
   obtain ⟨rB,hrB⟩:∃ z,z=r * 4294967296:=⟨_,rfl⟩
   rw [← hrB] at hsr hjr fin hst
   clear hM hD
   refine kA zj<|kA zj ?_
   refine cve (v0:Int) w4 ?_ u32 u64
   refine bie (.i .u64 ((q * v0:Nat):Int)) ?_ ?_
   ·exact ⟨trivial,by rw [← Int.natCast_mul,BW hqv0]⟩
   refine kA zj<|bie (.i .u64 (rB:Int)) ?_ ?_
   ·exact ⟨by decide,by rw [hsr]⟩
   refine mvd ?_
   refine cve (u0:Int) w5 ?_ u32 u64
   refine bie (.i .u64 ((rB+u0:Nat):Int)) ?_ ?_
   ·exact ⟨trivial,by rw [hjr]⟩
   refine kB zj<|pkd ?_;refine rn ?_
   by_cases hc:rB+u0<q * v0
   ·rw [dT (show ((rB+u0:Nat):Int)<((q * v0:Nat):Int) by omega)]
    obtain ⟨p,rfl,j1,j2⟩:=hst hc
    refine BN ?_;refine .skip<|aw<|.gh (Gh.keep [2,3,4,12,13] rfl)<|.block<|.sr<|kA zj<|bie (.i .u64 (p:Int)) ?_ ?_
    ·refine ⟨trivial,?_⟩
     rw [show ((p+1:Nat):Int)-1=(p:Int) by omega,BW (by omega)]
    refine kD zj<|rn<|.region<|kA zj<|kA zj ?_
    refine cve (v1:Int) w3 ?_ u32 u64
    refine bie (.i .u64 ((r+v1:Nat):Int)) ?_ ?_
    ·exact ⟨trivial,by rw [← Int.natCast_add,BW (by omega)]⟩
    refine kD zj<|.nil ?_
    show AL _ _ _ _ _ _
    refine .gh (Gh.keep [2,3,4,12,13] rfl) ?_
    exact ih (p,r+v1) ⟨j1,by dsimp only;omega,j2,by dsimp only;omega⟩ (by dsimp only;omega)
   ·rw [dF (show ¬((rB+u0:Nat):Int)<((q * v0:Nat):Int) by omega)]
    refine BD ?_;refine .gh (Gh.keep [12] rfl)<|.exit ?_
    show _=_
    rw [← fin (.inr (by omega))];rfl
  ·rw [dF (show ¬(r:Int)<4294967296 by omega)]
   refine gf4 ?_;refine gf4 ?_;refine gf2 ?_;refine pkd ?_;refine rn<|BD ?_;refine .gh (Gh.keep [12] rfl)<|.exit ?_
   show _=_
   rw [← fin (.inl (by omega))];rfl
 rintro _ _ rfl
 refine .sr<|kA zj<|kD zj<|rn<|.ret ?_
 exact ⟨rfl,rfl⟩
def Ab2 (a n most:Nat) : Prop:=(Af (a ^ n)).length≤most
instance (a n most:Nat) : Decidable (Ab2 a n most):=inferInstanceAs (Decidable (_≤_))
def PM (m n:Nat) : Nat:=if n=0 then 0 else m % n
theorem VZ {T V N D P lo lv g:Nat} (hT:T=lo+P * N) (hlo:lo<P) (hV:V=lv+P * D) (hlv:lv<P) (hD:4294967296≤D) (hTV:T<4294967296 * V) (hg:g=min (N / D) 4294967295) : T / V≤g∧g≤T / V+1:=by
 have hVpos:0<V:=by
  have:P * 1≤P * D:=Nat.mul_le_mul_left _ (by omega)
  omega
 have hq1:T / V≤4294967295:=by
  have:T / V<4294967296:=(Nat.div_lt_iff_lt_mul hVpos).2 hTV
  omega
 have hq2:T / V≤N / D:=by
  refine (Nat.le_div_iff_mul_le (by omega)).2 ?_
  have h1:T / V * V≤T:=Nat.div_mul_le_self _ _
  have h2:T / V * (P * D)≤T / V * V:=Nat.mul_le_mul_left _ (by omega)
  have h3:P * (T / V * D)<P * (N+1):=by
   have e1:P * (T / V * D)=T / V * (P * D):=by grind
   have e2:P * (N+1)=P * N+P:=by grind
   omega
  have:=Nat.lt_of_mul_lt_mul_left h3
  omega
 have hgN:g≤N / D:=by rw [hg];exact Nat.min_le_left _ _
 have hgB:g≤4294967295:=by rw [hg];exact Nat.min_le_right _ _
 have hTg:T / V≤g:=by rw [hg];exact Nat.le_min.2 ⟨hq2,hq1⟩
 refine ⟨hTg,?_⟩
 apply Classical.byContradiction
 intro hc
 obtain ⟨m,hgm⟩:=Nat.exists_eq_succ_of_ne_zero (show g≠0 from fun h0=>hc (by rw [h0];exact Nat.zero_le _))
 subst hgm
 have hm:T<m * V:=(Nat.div_lt_iff_lt_mul hVpos).1 (Nat.lt_of_succ_lt_succ (Nat.lt_of_not_le hc))
 have h1:(m+1) * D≤N:=(Nat.le_div_iff_mul_le (by omega)).1 hgN
 clear hg hq1 hq2 hTg hgN hc
 have h2:P * ((m+1) * D)≤P * N:=Nat.mul_le_mul_left _ h1
 have h3:m * V≤m * (P * (D+1)):=Nat.mul_le_mul_left _ (by
  have e:P * (D+1)=P * D+P:=by grind
  omega)
 have h4:P * ((m+1) * D)<P * (m * (D+1)):=by
  have e:P * (m * (D+1))=m * (P * (D+1)):=by grind
  omega
 have h5:=Nat.lt_of_mul_lt_mul_left h4
 have e1:(m+1) * D=m * D+D:=by grind
 have e2:m * (D+1)=m * D+m:=by grind
 omega
theorem Y8 {T V W g:Nat} (hV:0<V) (h:W+g * V=T) (hg:T / V≤g) : g=T / V∧W=T % V:=by
 have h1:g≤T / V:=(Nat.le_div_iff_mul_le hV).2 (by omega)
 have h2:g=T / V:=by omega
 refine ⟨h2,?_⟩
 have:=Nat.div_add_mod T V
 rw [← h2,Nat.mul_comm] at this
 omega
theorem Zt {T V W W' M e g:Nat} (hV:0<V) (h:W+g * V=T+M) (hW:W<M) (hg:g≤T / V+1) (ha:W'+e * M=W+V) (hW':W'<M) (hVM:V<M) : g-1=T / V∧W'=T % V∧0<g:=by
 have hdm:=Nat.div_add_mod T V
 have hml:=Nat.mod_lt T hV
 have hdl:=Nat.div_mul_le_self T V
 rw [Nat.mul_comm] at hdm
 generalize T / V=Q at *
 generalize T % V=R at *
 have h1:Q<g:=by
  apply Classical.byContradiction
  intro hc
  have:g * V≤Q * V:=Nat.mul_le_mul_right _ (by omega)
  omega
 have h2:g=Q+1:=by omega
 subst h2
 rw [Nat.add_mul,Nat.one_mul] at h
 have h3:W'+e * M=M+R:=by omega
 have he:e=1:=by
  match e with
  | 0=>simp at h3;omega
  | 1=>rfl
  | e+2 =>
   have:2 * M≤(e+2) * M:=Nat.mul_le_mul_right _ (by omega)
   omega
 subst he
 exact ⟨by omega,by omega,by omega⟩
theorem Ch (u:List Nat) (i:Nat) (hi:i≤u.length) : val u=val (u.take i)+4294967296 ^ i * val (u.drop i):=by
 conv=>lhs;rw [← List.take_append_drop i u]
 rw [E9,List.length_take,Nat.min_eq_left hi]
theorem Fi {u:List Nat} {k:Nat} (hk:k≤u.length) (h:val u<4294967296 ^ k) : val (u.drop k)=0:=by
 rw [Ch u k hk] at h
 apply Classical.byContradiction
 intro hc
 have:4294967296 ^ k * 1≤4294967296 ^ k * val (u.drop k):=Nat.mul_le_mul_left _ (by omega)
 omega
theorem Od {u:List Nat} {k:Nat} (hu:Ok u) (hk:k≤u.length) (h:val (u.drop k)=0) : val u<4294967296 ^ k:=by
 rw [Ch u k hk,h,Nat.mul_zero,Nat.add_zero]
 have:=Cn (hu.take k)
 rwa [List.length_take,Nat.min_eq_left hk] at this
theorem VM {u:List Nat} {j:Nat} (h:j+3≤u.length) (hz:val (u.drop (j+3))=0) :
  val u=val (u.take j)+4294967296 ^ j * ((u.getD (j+2) 0 * 4294967296+u.getD (j+1) 0) * 4294967296+u.getD j 0):=by
 rw [Ch u j (by omega),Fm j,Fm (j+1),Fm (j+2),hz]
 congr 2
 omega
theorem ZO {v:List Nat} {j:Nat} (h:v.length=j+2) : val v=val (v.take j)+4294967296 ^ j * (v.getD (j+1) 0 * 4294967296+v.getD j 0):=by
 rw [Ch v j (by omega),Fm j,Fm (j+1),List.drop_eq_nil_of_le (show v.length≤j+1+1 by omega)]
 congr 2
 simp only [val];omega
theorem Pc {u:List Nat} {j:Nat} (hu:Ok u) (hj:j≤u.length) : val (u.take j)<4294967296 ^ j:=by
 have:=Cn (hu.take j)
 rwa [List.length_take,Nat.min_eq_left hj] at this
theorem Z1 {T V P N D lo lv u2 u1 u0 v1 v0:Nat} (hT:T=lo+P * N) (hV:V=lv+P * D) (hlv:lv<P) (hTV:T<4294967296 * V) (hN:N=(u2 * 4294967296+u1) * 4294967296+u0) (hD:D=v1 * 4294967296+v0) (h0:v0<4294967296) : u2≤v1:=by
 have h1:P * N<P * (4294967296 * (D+1)):=by
  have e:P * (4294967296 * (D+1))=4294967296 * (P * D+P):=by grind
  omega
 have h2:=Nat.lt_of_mul_lt_mul_left h1
 omega
def Fu : List Nat→List Nat→Nat→Nat→List Nat×Nat
 | [],u,c,_=>(u,c)
 | y::r,u,c,j=>Fu r (u.set j ((u.getD j 0+y+c) % 4294967296)) ((u.getD j 0+y+c) / 4294967296) (j+1)
theorem Sb (y:Nat) (r u:List Nat) (c j:Nat) : Fu (y::r) u c j=Fu r (u.set j ((u.getD j 0+y+c) % 4294967296)) ((u.getD j 0+y+c) / 4294967296) (j+1):=rfl
theorem So {V' V P x y c c' r R F Z:Nat} (hs:V'+x * P=V+r * P) (hc:x+y+c=4294967296 * c'+r) (ih:F+Z=V'+(R+c') * (P * 4294967296)) : F+Z=V+(y+4294967296 * R+c) * P:=by
 grind
theorem KB : ∀ (v u:List Nat) (c j:Nat),Ok v→Ok u→c≤1→j+v.length≤u.length →
  val (Fu v u c j).1+(Fu v u c j).2 * 4294967296 ^ (j+v.length)=val u+(val v+c) * 4294967296 ^ j∧Ok (Fu v u c j).1∧(Fu v u c j).2≤1∧(Fu v u c j).1.length=u.length ∧
  (Fu v u c j).1.take j=u.take j∧(Fu v u c j).1.drop (j+v.length)=u.drop (j+v.length)
 | [],u,c,j,hv,hu,hc,hj=>by simp [Fu,val,hu,hc]
 | y::r,u,c,j,hv,hu,hc,hj=>by
  simp only [Fu]
  have hj':j+r.length+1≤u.length:=by simpa [Nat.add_assoc] using hj
  have hx:=Ct (u:=u) (j:=j) (by omega)
  have hxl:=DW hu j
  have hyl:=hv.head
  have hset:=IX hx (y:=(u.getD j 0+y+c) % 4294967296)
  have hcy:u.getD j 0+y+c=4294967296 * ((u.getD j 0+y+c) / 4294967296)+(u.getD j 0+y+c) % 4294967296:=(Nat.div_add_mod _ _).symm
  have hok:=hu.set j (x:=(u.getD j 0+y+c) % 4294967296) (Nat.mod_lt _ (by decide))
  have hc':(u.getD j 0+y+c) / 4294967296≤1:=by omega
  generalize (u.getD j 0+y+c) % 4294967296=rr at *
  generalize (u.getD j 0+y+c) / 4294967296=c' at *
  generalize u.getD j 0=x at *
  obtain ⟨i1,i2,i3,i4,i5,i6⟩:=KB r (u.set j rr) c' (j+1) hv.tail hok hc' (by rw [List.length_set];omega)
  generalize Fu r (u.set j rr) c' (j+1)=res at *
  rw [Nat.pow_succ] at i1
  refine ⟨?_,i2,i3,by rw [i4,List.length_set],?_,?_⟩
  ·rw [val,show j+(y::r).length=j+1+r.length by simp;omega]
   exact So hset hcy i1
  ·have:=congrArg (List.take j) i5
   rw [List.take_take,List.take_take,Nat.min_eq_left (by omega),List.take_set_of_le (Nat.le_refl _)] at this
   exact this
  ·rw [show j+(y::r).length=j+1+r.length by simp;omega,i6,List.drop_set_of_lt (by omega)]
theorem Q5 {u v:List Nat} {i k:Nat} (hu:Ok u) (hv:Ok v) (hk:v.length=k+2) (hi:i+k+3≤u.length) (hr:val (u.drop (i+1))<val v) (htop:2147483648≤v.getD (k+1) 0) :
  u.getD (i+k+2) 0≤v.getD (k+1) 0∧val (u.drop i)<4294967296 * val v ∧
  (∀ g,g=OY (u.getD (i+k+2) 0) (u.getD (i+k+1) 0) (u.getD (i+k) 0) (v.getD (k+1) 0) (v.getD k 0)→val (u.drop i) / val v≤g∧g≤val (u.drop i) / val v+1∧g≤4294967295):=by
 have hT:val (u.drop i)<4294967296 * val v:=by
  rw [Fm i]
  have h1:=DW hu i
  have:4294967296 * (val (u.drop (i+1))+1)≤4294967296 * val v:=Nat.mul_le_mul_left _ hr
  omega
 have hvl:=Cn hv
 rw [hk] at hvl
 have hTk:val (u.drop i)<4294967296 ^ (k+3):=by
  rw [show k+3=(k+2)+1 by omega,Nat.pow_succ,Nat.mul_comm]
  have:4294967296 * val v<4294967296 * 4294967296 ^ (k+2):=Nat.mul_lt_mul_of_pos_left hvl (by decide)
  omega
 have hz:=Fi (u:=u.drop i) (k:=k+3) (by rw [List.length_drop];omega) hTk
 have h3:=VM (u:=u.drop i) (j:=k) (by rw [List.length_drop];omega) hz
 have hg:∀ m,(u.drop i).getD m 0=u.getD (i+m) 0:=fun m=>by rw [lD,List.getElem?_drop,lD]
 rw [hg,hg,hg] at h3
 have h2:=ZO hk
 have hlv:=Pc (j:=k) hv (by omega)
 have hlu:=Pc (j:=k) (hu.drop i) (by rw [List.length_drop];omega)
 have hv0:=DW hv k
 rw [show i+(k+2)=i+k+2 by omega,show i+(k+1)=i+k+1 by omega] at h3
 have htp:=Z1 h3 h2 hlv hT rfl rfl hv0
 refine ⟨htp,hT,fun g hgq=>?_⟩
 obtain ⟨j1,j2⟩:=VZ (g:=g) h3 hlu h2 hlv (by omega) hT hgq
 refine ⟨j1,j2,?_⟩
 rw [hgq];exact Nat.min_le_right _ _
theorem W5 {lo P W g V T b M:Nat} (h1:lo+P * W+(g * V+0+0) * P=lo+P * T+b * (P * M)) : P * (W+g * V)=P * (T+b * M):=by
 grind
theorem Xv {lo P W T V c K x r e Z S:Nat} (h1:Z+c * (P * K)=lo+P * T+V * P) (hset:lo+P * W+x * (P * K)=Z+r * (P * K)) (hdm:x+c=4294967296 * e+r) (hS:S=K * 4294967296) : P * (W+e * S)=P * (T+V):=by
 grind
theorem Rn {u v:List Nat} {i g:Nat} (hu:Ok u) (hv:Ok v) (hi:i+v.length<u.length) (hg:g<4294967296) (hz:val (u.drop (i+v.length+1))=0) :
  Ok (BK g v u 0 0 i).1∧(BK g v u 0 0 i).1.length=u.length∧(BK g v u 0 0 i).1.take i=u.take i∧(BK g v u 0 0 i).2≤1∧val ((BK g v u 0 0 i).1.drop (i+v.length+1))=0 ∧
  val ((BK g v u 0 0 i).1.drop i)+g * val v=val (u.drop i)+(BK g v u 0 0 i).2 * 4294967296 ^ (v.length+1)∧val ((BK g v u 0 0 i).1.drop i)<4294967296 ^ (v.length+1):=by
 obtain ⟨h1,h2,h3,h4,h5,h6⟩:=Nk hg v u 0 0 i hv hu (by decide) (by decide) hi
 generalize BK g v u 0 0 i=res at *
 have hz':val (res.1.drop (i+v.length+1))=0:=by rw [h6];exact hz
 refine ⟨h2,h4,h5,h3,hz',?_,?_⟩
 ·rw [Ch u i (by omega),Ch res.1 i (by omega),h5,show i+v.length+1=i+(v.length+1) by omega,Nat.pow_add] at h1
  have hp:0<4294967296 ^ i:=Nat.pow_pos (by decide)
  exact Nat.eq_of_mul_eq_mul_left hp (W5 h1)
 ·refine Od (h2.drop i) (by rw [List.length_drop];omega) ?_
  rw [List.drop_drop,show i+(v.length+1)=i+v.length+1 by omega]
  exact hz'
theorem SD {u v:List Nat} {i:Nat} (hu:Ok u) (hv:Ok v) (hi:i+v.length<u.length) (hz:val (u.drop (i+v.length+1))=0) {w:List Nat} {c:Nat} (hw:Fu v u 0 i=(w,c)) {w':List Nat}
  (hw':w'=w.set (i+v.length) ((w.getD (i+v.length) 0+c) % 4294967296)):Ok w'∧w'.length=u.length∧w'.take i=u.take i∧c≤1 ∧
  (∃ e,val (w'.drop i)+e * 4294967296 ^ (v.length+1)=val (u.drop i)+val v)∧val (w'.drop i)<4294967296 ^ (v.length+1):=by
 obtain ⟨h1,h2,h3,h4,h5,h6⟩:=KB v u 0 i hv hu (by decide) (by omega)
 rw [hw] at h1 h2 h3 h4 h5 h6
 dsimp only at h1 h2 h3 h4 h5 h6
 have hx:=Ct (u:=w) (j:=i+v.length) (by omega)
 have hset:=IX hx (y:=(w.getD (i+v.length) 0+c) % 4294967296)
 rw [← hw'] at hset
 have hdm:w.getD (i+v.length) 0+c=4294967296 * ((w.getD (i+v.length) 0+c) / 4294967296)+(w.getD (i+v.length) 0+c) % 4294967296:=(Nat.div_add_mod _ _).symm
 have hok:Ok w':=by rw [hw'];exact h2.set _ (Nat.mod_lt _ (by decide))
 have hlen:w'.length=u.length:=by rw [hw',List.length_set,h4]
 have htk:w'.take i=u.take i:=by rw [hw',List.take_set_of_le (by omega),h5]
 have hz':val (w'.drop (i+v.length+1))=0:=by
  rw [hw',List.drop_set_of_lt (by omega)]
  have:w.drop (i+v.length+1)=u.drop (i+v.length+1):=by
   have e1:w.drop (i+v.length+1)=(w.drop (i+v.length)).drop 1:=by rw [List.drop_drop]
   have e2:u.drop (i+v.length+1)=(u.drop (i+v.length)).drop 1:=by rw [List.drop_drop]
   rw [e1,e2,h6]
  rw [this];exact hz
 refine ⟨hok,hlen,htk,h3,⟨(w.getD (i+v.length) 0+c) / 4294967296,?_⟩,?_⟩
 ·clear hw hw' hx
  generalize (w.getD (i+v.length) 0+c) / 4294967296=e at *
  generalize (w.getD (i+v.length) 0+c) % 4294967296=r at *
  generalize w.getD (i+v.length) 0=x at *
  rw [Ch u i (by omega)] at h1
  rw [Ch w' i (by omega),htk] at hset
  rw [Nat.add_zero,Nat.pow_add] at h1
  rw [Nat.pow_add] at hset
  have hp:0<4294967296 ^ i:=Nat.pow_pos (by decide)
  exact Nat.eq_of_mul_eq_mul_left hp (Xv h1 hset hdm (Nat.pow_succ ..))
 ·refine Od (hok.drop i) (by rw [List.length_drop];omega) ?_
  rw [List.drop_drop,show i+(v.length+1)=i+v.length+1 by omega]
  exact hz'
theorem XI {ys b:List Nat} {x n:Nat} (e:ys=b++[x]) (hb:Ok b) (hx:x≠0) (hxl:x<4294967296) (hn:n=32-Bn x) : n<32∧val ys * 2 ^ n<4294967296 ^ ys.length∧4294967296 ^ b.length * 2147483648≤val ys * 2 ^ n:=by
 have hlx:Bn x≤32:=Dl.2 (by omega)
 obtain ⟨j,hj,hj1,hj2⟩:=I7 hx
 have hv:Bn (val ys)=32 * b.length+Bn x:=by rw [e];exact Oy hb hx
 have hlen:ys.length=b.length+1:=by rw [e];simp
 have hvp:val ys≠0:=fun h0=>by rw [h0,show Bn 0=0 from rfl] at hv;omega
 obtain ⟨m,hm,hm1,hm2⟩:=I7 hvp
 have hB:∀ k,4294967296 ^ k=2 ^ (32 * k):=fun k=>by rw [Nat.pow_mul]
 refine ⟨by omega,?_,?_⟩
 ·rw [hB,hlen,show 32 * (b.length+1)=(m+1)+n by omega,Nat.pow_add]
  exact Nat.mul_lt_mul_of_pos_right hm2 (Nat.pow_pos (by decide))
 ·rw [hB,show (2147483648:Nat)=2 ^ 31 by rfl,← Nat.pow_add,show 32 * b.length+31=m+n by omega,Nat.pow_add]
  exact Nat.mul_le_mul_right _ hm1
theorem X3 {v:List Nat} {k:Nat} (hv:Ok v) (hk:v.length=k+1) (h:4294967296 ^ k * 2147483648≤val v) : 2147483648≤v.getD k 0:=by
 have h1:=Pc (j:=k) hv (by omega)
 have h2:=Ch v k (by omega)
 rw [Fm,List.drop_eq_nil_of_le (by omega)] at h2
 simp only [val,Nat.mul_zero,Nat.add_zero] at h2
 apply Classical.byContradiction
 intro hc
 have h3:4294967296 ^ k * (v.getD k 0+1)≤4294967296 ^ k * 2147483648:=Nat.mul_le_mul_left _ (by omega)
 rw [Nat.mul_add,Nat.mul_one] at h3
 omega
theorem W6 {R D E Q A:Nat} (hE:0<E) (h:R+D * E * Q=A * E) (hR:R<D * E) : A / D=Q∧R / E=A % D∧0<D:=by
 have hD:0<D:=by
  rcases Nat.eq_zero_or_pos D with h0|h0
  ·subst h0;simp at hR
  ·exact h0
 have e1:D * E * Q=(D * Q) * E:=by grind
 rw [e1] at h
 have hle:D * Q≤A:=by
  have:(D * Q) * E≤A * E:=by omega
  exact Nat.le_of_mul_le_mul_right this hE
 obtain ⟨r,rfl⟩:=Nat.exists_eq_add_of_le hle
 rw [Nat.add_mul] at h
 have hr:R=r * E:=by omega
 rw [hr] at hR
 have hrD:r<D:=Nat.lt_of_mul_lt_mul_right hR
 refine ⟨?_,?_,hD⟩
 ·rw [Nat.mul_add_div hD,Nat.div_eq_of_lt hrD,Nat.add_zero]
 ·rw [hr,Nat.mul_div_cancel _ hE,Nat.mul_add_mod,Nat.mod_eq_of_lt hrD]
theorem VT {xs:List Nat} {n m V k:Nat} (hx:Ok xs) (hn:n<32) (hm:xs.length=m+k) (hV:4294967296 ^ k * 2147483648≤V) {u:List Nat} (hu:val u=val xs * 2 ^ n) (hl:m≤u.length) : val (u.drop m)<V:=by
 rw [Ch u m hl] at hu
 have h1:=Cn hx
 rw [hm,Nat.pow_add] at h1
 have h2:(2:Nat) ^ n≤2147483648:=Nat.pow_le_pow_right (n:=2) (by decide) (show n≤31 by omega)
 have h3:val xs * 2 ^ n<4294967296 ^ m * 4294967296 ^ k * 2 ^ n:=Nat.mul_lt_mul_of_pos_right h1 (Nat.pow_pos (by decide))
 have h4:4294967296 ^ m * 4294967296 ^ k * 2 ^ n≤4294967296 ^ m * (4294967296 ^ k * 2147483648):=by
  rw [Nat.mul_assoc]
  exact Nat.mul_le_mul_left _ (Nat.mul_le_mul_left _ h2)
 have h5:4294967296 ^ m * (4294967296 ^ k * 2147483648)≤4294967296 ^ m * V:=Nat.mul_le_mul_left _ hV
 have h6:4294967296 ^ m * val (u.drop m)<4294967296 ^ m * V:=by omega
 exact Nat.lt_of_mul_lt_mul_left h6
theorem SJ {lo P T V Q U Z W:Nat} (h:lo+P * T+V * Z=U) (hT:T=V * Q+W) {Z':Nat} (hZ:Z'+0 * P=Z+Q * P) : lo+P * W+V * Z'=U:=by
 grind
theorem Aa7 (n:Nat) : L (List.replicate n 0)=List.replicate n (U 0):=by simp [L]
theorem IW {a b:List Nat} (ha:Ok a) (hb:Ok b) (hla:a.length≤500000) (hlb:b.length≤500000) : Fn Tryz.prog 212 [.sl (L a),.sl (L b)]
  (.tup [.d (.sl (L (Af (val a / val b)))),.d (.sl (L (Af (PM (val a) (val b))))),.d (.b (decide (val b≠0)))]):=by
 have oa:=Bf (val a)
 have ob:=Bf (val b)
 have va:=AK (val a)
 have vb:=AK (val b)
 have la:=nT (Cp ha) hla
 have lb:=nT (Cp hb) hlb
 have hspl:=@M6 (val b)
 have hlt:=@PK (val a) (val b)
 have hnil:=@Hz (val b)
 refine Fn.of (rs:=[.tmp 4,.tmp 5,.tmp 6]) (nt:=163) Tryz.func212 rfl rfl rfl (by simp) rfl ?_;refine .sr<|asn ?_;refine asn ?_;refine kD zj<|rn<|.sr<|kA zj ?_
 refine cl (xs:=[.sl (L a)]) ?_ (DZ ha (by omega)) Tryz.call161
 refine mvd ?_
 refine cl (xs:=[.sl (L b)]) ?_ (DZ hb (by omega)) Tryz.call161
 refine kD zj<|kD zj<|rn ?_
 generalize Af (val a)=xs at *
 generalize Af (val b)=ys at *
 refine .gh (Gh.keep [0,1,4,5,6] rfl)<|.mid (fun e H'=>H'=[]∧2≤ys.length∧ys.length≤xs.length∧e=[(0,.d (.sl (L xs))),(1,.d (.sl (L ys)))]) ?_ ?_
 ·refine .block ?_
  refine .sr<|kA zj ?_
  refine ln ?_ (BY _) l32
  refine kB zj<|kD zj<|rn ?_
  by_cases h0:val b=0
  ·have hy:=hnil.2 h0
   subst hy
   refine BN ?_;refine .sr<|asn ?_;refine asn ?_;refine kD zj<|rn<|.gh (Gh.nlD (t:=4) rfl)<|.gh (Gh.nlD (t:=5) rfl)<|.ret ?_
   refine ⟨by decide,?_,rfl,rfl,rfl⟩
   rw [h0]
   simp [PM,A4];exact ⟨rfl,rfl,rfl⟩
  ·obtain ⟨bb,x,hyx,hx0,hbb,hxl⟩:=hspl h0
   have hyl:ys.length=bb.length+1:=by rw [hyx];simp
   rw [dF (show ¬(((L ys).length:Nat):Int)=0 by rw [Aa];omega)]
   refine BD ?_;refine .sr<|kA zj ?_
   refine ln ?_ (BY _) l32
   refine kB zj<|kD zj<|rn ?_
   by_cases h1:ys.length=1
   ·have hbb0:bb=[]:=List.length_eq_zero_iff.1 (by omega)
    rw [hbb0,List.nil_append] at hyx
    have hvx:val b=x:=by rw [← vb,hyx];simp [val]
    rw [dT (show (((L ys).length:Nat):Int)=1 by rw [Aa];omega)]
    have hy0:ys[0]?=some (val b):=by rw [hyx,hvx];rfl
    have fsm:=Qa (a:=xs) (d:=val b) oa (by omega) (by omega) (by omega)
    rw [va] at fsm
    refine BN ?_;refine .sr<|kA zj<|kA zj ?_
    refine ix 0 ?_ rfl (Fz hy0) rfl s32
    refine ldp ?_ a32
    refine cl (xs:=[.sl (L xs),U (val b)]) ?_ fsm Tryz.call232
    refine mvt ?_;refine ex ?_;refine ex ?_;refine kD zj<|kD zj<|rn<|.sr<|kA zj<|kA zj<|kD zj<|kD zj<|kD zj<|rn<|.ret ?_
    exact ⟨by decide,by rw [PM,if_neg h0,dT h0];rfl,rfl,rfl,rfl⟩
   ·rw [dF (show ¬(((L ys).length:Nat):Int)=1 by rw [Aa];omega)]
    refine BD ?_;refine .sr<|kA zj ?_
    refine ln ?_ (BY _) l32
    refine mvd ?_
    refine ln ?_ (BY _) l32
    refine kB zj<|kD zj<|rn ?_
    by_cases h2:xs.length<ys.length
    ·have hab:=hlt h2
     rw [dT (show (((L xs).length:Nat):Int)<((L ys).length:Nat) by rw [Aa,Aa];omega)]
     have ft:=JO (a:=xs) oa (by omega)
     rw [va] at ft
     refine BN ?_;refine .sr<|kA zj ?_
     refine cl (xs:=[.sl (L xs)]) ?_ ft Tryz.call211
     refine asn ?_;refine aso ?_;refine kD zj<|rn<|.gh (Gh.nlD (t:=4) rfl)<|.gh (Gh.frz (p:=.t 5) rfl (fun _ _ h=>by cases h))<|.ret ?_
     refine ⟨by decide,?_,rfl,rfl,rfl⟩
     rw [PM,if_neg h0,dT h0,Nat.div_eq_of_lt hab,Nat.mod_eq_of_lt hab,A4];rfl
    ·rw [dF (show ¬(((L xs).length:Nat):Int)<((L ys).length:Nat) by rw [Aa,Aa];omega)]
     refine BD ?_;refine .gh (Gh.keep [0,1] rfl)<|.skip ?_
     exact ⟨rfl,by omega,by omega,rfl⟩
 rintro _ _ ⟨rfl,hy2,hyx,rfl⟩
 have h0:val b≠0:=fun h=>by have:=hnil.2 h;rw [this] at hy2;simp at hy2
 obtain ⟨bb,x,hys,hx0,hbb,hxl⟩:=hspl h0
 obtain ⟨k,hk⟩:∃ k,ys.length=k+2:=⟨ys.length-2,by omega⟩
 have hyl:bb.length=k+1:=by rw [hys] at hk;simp at hk;omega
 obtain ⟨m0,hm0⟩:∃ m0,xs.length=m0+(k+2):=⟨xs.length-(k+2),by omega⟩
 obtain ⟨n,hn⟩:∃ n,n=32-Bn x:=⟨_,rfl⟩
 obtain ⟨hn32,hV1,hV2⟩:=XI hys hbb hx0 hxl hn
 have hxat:ys[k+1]?=some x:=by rw [hys,← hyl];simp
 have flz:=GF hxl
 rw [← hn] at flz
 have fsx:=Mw (a:=xs) (n:=n) oa (by omega) hn32
 have fsy:=Mw (a:=ys) (n:=n) ob (by omega) hn32
 obtain ⟨ux1,ux2⟩:=Ph hn32 xs 0 oa (Nat.pow_pos (by decide))
 obtain ⟨uy1,uy2⟩:=Ph hn32 ys 0 ob (Nat.pow_pos (by decide))
 have ux3:=JG n xs 0
 have uy3:=JG n ys 0
 rw [Nat.zero_add] at ux1 uy1
 generalize shL n 0 xs=u0 at *
 generalize shL n 0 ys=w0 at *
 have hvz:=Fi (u:=w0) (k:=ys.length) (by omega) (by rw [uy1];exact hV1)
 have hvv:val (w0.take ys.length)=val b * 2 ^ n:=by
  have:=Ch w0 ys.length (by omega)
  rw [hvz,Nat.mul_zero,Nat.add_zero,uy1,vb] at this
  exact this.symm
 have ov:=uy2.take ys.length
 have lv:(w0.take ys.length).length=k+2:=by rw [List.length_take];omega
 generalize hvdef:w0.take ys.length=v at *
 rw [vb,hyl] at hV2
 rw [vb,hk] at hV1
 rw [va] at ux1
 have htop:=X3 ov (show v.length=(k+1)+1 by omega) (by rw [hvv];exact hV2)
 have hst:=VT (V:=val v) (m:=m0+1) (k:=k+1) oa hn32 (by omega) (by rw [hvv];exact hV2) (by rw [ux1,va]) (u:=u0) (by omega)
 have hVpos:0<val v:=by rw [hvv];exact Nat.mul_pos (by omega) (Nat.pow_pos (by decide))
 have e2n:0<2 ^ n:=Nat.pow_pos (by decide)
 have hvlen:val v<4294967296 ^ (k+2):=by rw [hvv];exact hV1
 have hdend:∀ R Q,R+val v * Q=val a * 2 ^ n→R<val v→val a / val b=Q∧R / 2 ^ n=val a % val b:=fun R Q h1 h2=>by
  rw [hvv] at h1 h2
  obtain ⟨e1,e2,_⟩:=W6 e2n h1 h2
  exact ⟨e1,e2⟩
 clear hspl hlt hnil hV2 hvz hV1 hvv uy1 vb va
 refine .sr<|kA zj<|kA zj ?_
 refine ln ?_ (BY _) l32
 refine su ((k+1:Nat):Int) ?_ ?_
 ·rw [Aa];omega
 refine ix (k+1) ?_ rfl (Fz hxat) rfl s32
 refine ldp ?_ a32
 refine cl (xs:=[.i .u32 (x:Int)]) ?_ flz Tryz.call162
 refine kD zj<|rn<|.gh (Gh.keep [0,1,7] rfl)<|.seq<|.drawn 10 AS (by kernel_rfl) ?_;refine kV Ac<|kV Ac<|kV (v:=.own 133 (L u0)) (vcl (xs:=[.sl (L xs),.i .i64 (n:Int)]) (r:=.own 133 (L u0)) fsx Tryz.call238)<|kV Ac<|kV Ac<|kV (v:=.d (.sl (L w0))) (vcl (xs:=[.sl (L ys),.i .i64 (n:Int)]) (r:=.own 133 (L w0)) fsy Tryz.call238).deep<|kV Ac<|kV (vln (BY _) l32)<|kV (vsl 0 ys.length ?_ (S7 _) s32) ?_
 ·rw [Aa,Aa];omega
 refine kV Ab4<|dz ?_;refine kD zj<|RL.gh (Gh.swap (s:=55) (t:=8) rfl rfl rfl)<|rn ?_
 rw [List.drop_zero,Nat.sub_zero,WG,hvdef]
 refine .gh (Gh.keep [0,7,8,9] rfl)<|.sr<|kA zj ?_
 refine ln ?_ (BY _) l32
 refine kD zj<|rn<|.sr<|kA zj ?_
 refine ln ?_ (BY _) l32
 refine kA zj<|su (m0:Int) ?_ ?_
 ·rw [Aa,Aa];omega
 refine ad ((m0+1:Nat):Int) ?_ ?_
 ·omega
 refine mk (m0+1) ⟨rfl,rfl⟩ ?_ ?_ e32 rfl
 ·omega
 refine aso ?_;refine rn<|.mid (fun e H'=>∃ u q,Ok u∧Ok q∧u.length=u0.length∧q.length=m0+1∧val u+val v * val q=val a * 2 ^ n∧val u<val v∧e=[(4,.own 133 (L q)),(7,.d (.i .i64 (n:Int))),(8,.own 133 (L u)),(10,.d (.i .i64 ((L v).length:Nat)))]) ?_ ?_
 ·refine .sr ?_
  refine mvd ?_
  refine ln ?_ (BY _) l32
  refine kA zj<|su (m0:Int) ?_ ?_
  ·rw [Aa,Aa];omega
  refine kD zj<|rn<|.block ?_
  refine .loop (.gh (Gh.keep [4,7,8,9,10,11] rfl) ?_)
  refine AL.cast (env':=[(4,.own 133 (L (List.replicate (m0+1) 0))),(7,.d (.i .i64 (n:Int))),(8,.own 133 (L u0)),(9,.d (.sl (L v))),(10,.d (.i .i64 ((L v).length:Nat))),(11,.d (.i .i64 (((m0+1:Nat):Int)-1)))]) (by rw [Aa7,show ((m0+1:Nat):Int)-1=(m0:Int) by omega];rfl) ?_
  refine AL.ind (σ:=Nat×List Nat×List Nat×Ab) (m:=fun s=>s.1) (e:=fun s=>[(4,.own 133 (L s.2.2.1)),(7,.d (.i .i64 (n:Int))),(8,.own 133 (L s.2.1)),(9,.d (.sl (L v))),(10,.d (.i .i64 ((L v).length:Nat))),(11,.d (.i .i64 ((s.1:Int)-1)))]) (h:=fun s=>s.2.2.2)
   (I:=fun s=>s.1≤m0+1∧Ok s.2.1∧Ok s.2.2.1∧s.2.1.length=u0.length∧s.2.2.1.length=m0+1∧val s.2.1+val v * val s.2.2.1=val a * 2 ^ n∧val (s.2.1.drop s.1)<val v∧∀ j,j<s.1→s.2.2.1[j]?=some 0) ?_ (m0+1,u0,List.replicate (m0+1) 0,[]) ⟨Nat.le_refl _,ux2,Y6 _,rfl,by simp,by simp [TF,ux1],hst,fun j hj=>by
   dsimp only at hj ⊢
   rw [List.getElem?_replicate,if_pos hj]⟩
  rintro ⟨m,u,q,G⟩ ⟨h1,h2,h3,h4,h5,h6,h7,h8⟩ ih
  dsimp only at h1 h2 h3 h4 h5 h6 h7 h8 ih ⊢
  refine .seq<|.sr<|kA zj<|kB zj<|rn ?_
  cases m with
  | zero =>
   rw [dF (show ¬(0:Int)≤((0:Nat):Int)-1 by omega)]
   refine BD ?_;refine .gh (Gh.keep [4,7,8,10] rfl)<|.exit ?_
   exact ⟨u,q,h2,h3,h4,h5,h6,by simpa using h7,rfl⟩
  | succ i =>
   rw [dT (show (0:Int)≤((i+1:Nat):Int)-1 by omega)]
   obtain ⟨t1,t2,t3⟩:=Q5 (u:=u) (v:=v) (i:=i) (k:=k) h2 ov lv (by omega) h7 htop
   obtain ⟨g1,g2,g3⟩:=t3 _ rfl
   have fg:=VX t1 (DW h2 (i+k+1)) (DW h2 (i+k)) (DW ov (k+1)) (DW ov k) (by omega)
   have hx2:=Ct (u:=u) (j:=i+k+2) (by omega)
   have hx1:=Ct (u:=u) (j:=i+k+1) (by omega)
   have hx0':=Ct (u:=u) (j:=i+k) (by omega)
   have hy1:=Ct (u:=v) (j:=k+1) (by omega)
   have hy0:=Ct (u:=v) (j:=k) (by omega)
   have hzd:val (u.drop (i+v.length+1))=0:=by
    have h9:=Fi (u:=u.drop (i+1)) (k:=k+2) (by rw [List.length_drop];omega) (by omega)
    rw [List.drop_drop] at h9
    rw [lv,show i+(k+2)+1=i+1+(k+2) by omega];exact h9
   generalize OY (u.getD (i+k+2) 0) (u.getD (i+k+1) 0) (u.getD (i+k) 0) (v.getD (k+1) 0) (v.getD k 0)=g at *
   have ftk:=XM (H:=G) (u0:=u) (v:=v) (q:=g) (at0:=i) h2 ov (by omega) (by omega) (by omega)
   obtain ⟨w1,w2,w3,w4,w5,w6,w7⟩:=Rn (u:=u) (v:=v) (i:=i) (g:=g) h2 ov (by omega) (by omega) hzd
   generalize hres:BK g v u 0 0 i=res at *
   obtain ⟨u1,bf⟩:=res
   dsimp only at w1 w2 w3 w4 w5 w6 w7 ftk
   generalize u.getD (i+k+2) 0=x2 at *
   generalize u.getD (i+k+1) 0=x1 at *
   generalize u.getD (i+k) 0=x0 at *
   generalize v.getD (k+1) 0=y1 at *
   generalize v.getD k 0=y0 at *
   clear t1 t2 t3 hres
   refine BN ?_;refine .skip<|aw<|.gh (Gh.keep [4,7,8,9,10,11] rfl)<|.seq<|.block<|.seq<|.drawn 31 AS (by kernel_rfl) ?_;refine kV JJ<|kV Ac<|kV Ac<|kV (vad ((i+k+2:Nat):Int) ?_) ?_
   ·rw [Aa];omega
   refine dv (LR (i+k+2) ?_ ?_ s32 (by decide)) ?_
   ·rfl
   ·rw [Aa];omega
   refine dv (PT (U x2) ?_ a32) ?_
   ·rw [Nat.zero_add];exact GZ hx2
   refine kV JJ<|kV Ac<|kV Ac<|kV (vad ((i+k+2:Nat):Int) ?_) ?_
   ·rw [Aa];omega
   refine dv (vsu ((i+k+1:Nat):Int) ?_) ?_
   ·omega
   refine dv (LR (i+k+1) ?_ ?_ s32 (by decide)) ?_
   ·rfl
   ·rw [Aa];omega
   refine dv (PT (U x1) ?_ a32) ?_
   ·rw [Nat.zero_add];exact GZ hx1
   refine kV JJ<|kV Ac<|kV Ac<|kV (vad ((i+k+2:Nat):Int) ?_) ?_
   ·rw [Aa];omega
   refine dv (vsu ((i+k:Nat):Int) ?_) ?_
   ·omega
   refine dv (LR (i+k) ?_ ?_ s32 (by decide)) ?_
   ·rfl
   ·rw [Aa];omega
   refine dv (PT (U x0) ?_ a32) ?_
   ·rw [Nat.zero_add];exact GZ hx0'
   refine kV Ac<|kV Ac<|kV (vsu ((k+1:Nat):Int) ?_) ?_
   ·rw [Aa];omega
   refine kV (vix (k+1) rfl (Fz hy1) rfl s32)<|kV (Al a32)<|kV Ac<|kV Ac<|kV (vsu ((k:Nat):Int) ?_) ?_
   ·rw [Aa];omega
   refine kV (vix k rfl (Fz hy0) rfl s32)<|kV (Al a32)<|kV (v:=.d (.i .u64 (g:Int))) (vcl (xs:=[U x2,U x1,U x0,U y1,U y0]) (r:=.d (.i .u64 (g:Int))) fg Tryz.call239)<|dz ?_;refine kD zj<|rn<|.gh (Gh.keep [4,7,8,9,10,11,12] rfl) ?_
   rw [show ((i+1:Nat):Int)-1=(i:Int) by omega]
   refine .mid (fun e H'=>∃ u',Ok u'∧u'.length=u.length∧u'.take i=u.take i∧val (u'.drop i)=val (u.drop i) % val v∧e=[(4,.own 133 (L q)),(7,.d (.i .i64 (n:Int))),(8,.own 133 (L u')),(9,.d (.sl (L v))),(10,.d (.i .i64 ((L v).length:Nat))),(11,.d (.i .i64 (i:Int))),(12,.d (.i .u64 ((val (u.drop i) / val v:Nat):Int)))]) ?_ ?_
   ·refine .sr ?_
    refine mvo ?_;refine kA zj<|kA zj<|kA zj ?_
    refine YW (L u1) (fun G2=>?_) ftk Tryz.call240
    refine kB zj<|rn ?_
    by_cases hbf:bf=0
    ·subst hbf
     obtain ⟨r1,r2⟩:=Y8 (g:=g) (W:=val (u1.drop i)) hVpos (by simpa using w6) g1
     rw [dF (show ¬(0:Int)<((0:Nat):Int) by omega)]
     refine BD ?_;refine .gh (Gh.keep [4,7,8,9,10,11,12] rfl)<|.skip ?_
     exact ⟨u1,w1,w2,w3,r2,by rw [← r1];rfl⟩
    ·have hbf1:bf=1:=by omega
     subst hbf1
     rw [dT (show (0:Int)<((1:Nat):Int) by omega)]
     obtain ⟨ag,hag⟩:∃ ag,Fu v u1 0 i=ag:=⟨_,rfl⟩
     obtain ⟨wl,c⟩:=ag
     obtain ⟨z1,z2,z3,z4,⟨ec,z5⟩,z6⟩:=SD (u:=u1) (v:=v) (i:=i) w1 ov (by omega) w5 hag rfl
     rw [Nat.one_mul] at w6
     obtain ⟨r1,r2,r3⟩:=Zt (T:=val (u.drop i)) hVpos w6 w7 g2 z5 z6 (by rw [lv,Nat.pow_succ];omega)
     have hwl:=KB v u1 0 i ov w1 (by decide) (by omega)
     rw [hag] at hwl
     obtain ⟨y1',y2',y3',y4',_,_⟩:=hwl
     dsimp only at y1' y2' y3' y4'
     have hxw:=Ct (u:=wl) (j:=i+v.length) (by omega)
     generalize wl.getD (i+v.length) 0=xw at *
     refine BN ?_;refine .gh (Gh.keep [4,7,8,9,10,11,12] rfl)<|.sr<|kA zj<|bie (.i .u64 ((g-1:Nat):Int)) ?_ ?_
     ·refine ⟨trivial,?_⟩
      rw [show (g:Int)-1=((g-1:Nat):Int) by omega,BW (by omega)]
     refine kD zj<|rn ?_
     rw [r1]
     refine .sr<|kD zj<|rn<|.mid (fun e H'=>e=[(4,.own 133 (L q)),(7,.d (.i .i64 (n:Int))),(8,.own 133 (L wl)),(9,.d (.sl (L v))),(10,.d (.i .i64 ((L v).length:Nat))),(11,.d (.i .i64 (i:Int))),(12,.d (.i .u64 ((val (u.drop i) / val v:Nat):Int))),(13,.d (.i .u32 (c:Int)))]) ?_ ?_
     ·refine .sr ?_
      refine mvd ?_
      refine ln ?_ (BY _) l32
      refine kA zj<|rn<|.block ?_
      refine .loop (.gh (Gh.keep [4,7,8,9,10,11,12,13,117,118,119] rfl) ?_)
      refine AL.ind (σ:=Nat×List Nat×Nat) (m:=fun s=>v.length-s.1) (e:=fun s=>[(4,.own 133 (L q)),(7,.d (.i .i64 (n:Int))),(8,.own 133 (L s.2.1)),(9,.d (.sl (L v))),(10,.d (.i .i64 ((L v).length:Nat))),(11,.d (.i .i64 (i:Int))),(12,.d (.i .u64 ((val (u.drop i) / val v:Nat):Int))),(13,.d (.i .u32 (s.2.2:Int))),(117,.d (.sl (L v))),(118,.d (.i .i64 ((L v).length:Nat))),(119,.d (.i .i64 (s.1:Int)))]) (h:=fun _=>G++G2)
       (I:=fun s=>s.1≤v.length∧Ok s.2.1∧s.2.1.length=u.length∧s.2.2≤1∧Fu (v.drop s.1) s.2.1 s.2.2 (i+s.1)=(wl,c)) ?_ (0,u1,0) ⟨Nat.zero_le _,w1,w2,by simp,hag⟩
      rintro ⟨j,uu,cc⟩ ⟨a1,a2',a3,a4,a5⟩ ih2
      dsimp only at a1 a2' a3 a4 a5 ih2 ⊢
      refine .sr<|kB zj<|rn<|.seq ?_
      by_cases hj:j<v.length
      ·rw [dT (show (j:Int)<((L v).length:Nat) by rw [Aa];omega)]
       have hyv:v[j]?=some v[j]:=lG hj
       have hdr:v.drop j=v[j]::v.drop (j+1):=lC hj
       generalize v[j]=yv at hyv hdr
       rw [hdr,Sb] at a5
       have hyvl:=ov.at hyv
       have hxv:=Ct (u:=uu) (j:=i+j) (by omega)
       have hxvl:=DW a2' (i+j)
       have fadd:=Wz hxvl hyvl (show cc<4294967296 by omega)
       have hrr:(uu.getD (i+j) 0+yv+cc) % 4294967296<4294967296:=Nat.mod_lt _ (by decide)
       have hc1:(uu.getD (i+j) 0+yv+cc) / 4294967296≤1:=by omega
       generalize (uu.getD (i+j) 0+yv+cc) % 4294967296=rr at *
       generalize (uu.getD (i+j) 0+yv+cc) / 4294967296=c' at *
       generalize uu.getD (i+j) 0=xv at *
       refine BN ?_;refine .skip<|aw<|.seq<|.block<|.sr<|kA zj ?_
       refine ix j ?_ rfl (Fz hyv) rfl s32
       refine ldp ?_ a32
       refine kD zj<|kD zj<|rn<|.region<|mvo ?_;refine kA zj<|kA zj<|ad ((i+j:Nat):Int) ?_ ?_
       ·omega
       refine mvo ?_;refine kA zj<|kA zj<|ad ((i+j:Nat):Int) ?_ ?_
       ·omega
       refine ixr (i+j) ?_ ?_ ?_ s32 (by decide)
       ·rfl
       ·rw [Aa];omega
       refine lde (U xv) ?_ ?_ a32
       ·rw [Nat.zero_add];exact GZ hxv
       refine kA zj<|kA zj ?_
       refine cl (xs:=[U xv,U yv,U cc]) ?_ fadd Tryz.call241
       refine mvt ?_;refine ex ?_;refine ex ?_
       refine ixr (i+j) ?_ ?_ ?_ s32 (by decide)
       ·rfl
       ·rw [Aa];omega
       refine ste ?_ ?_ z32
       ·rw [Nat.zero_add];exact Gj hxv
       refine kD zj<|.nil ?_;refine aw<|.region<|ad ((j+1:Nat):Int) ?_ ?_
       ·omega
       refine kA zj<|rn<|.gh (Gh.keep [4,7,8,9,10,11,12,13,117,118,119] rfl) ?_
       have:=ih2 (j+1,uu.set (i+j) rr,c') ⟨by dsimp only;omega,a2'.set _ hrr,by dsimp only;rw [List.length_set];exact a3,hc1,a5⟩ (by dsimp only;omega)
       dsimp only at this
       rw [← Nb] at this
       exact this
      ·rw [dF (show ¬(j:Int)<((L v).length:Nat) by rw [Aa];omega)]
       refine BD ?_;refine .gh (Gh.keep [4,7,8,9,10,11,12,13] rfl)<|.exit ?_
       have hje:j=v.length:=by omega
       subst hje
       rw [List.drop_eq_nil_of_le (Nat.le_refl _)] at a5
       have e1:uu=wl∧cc=c:=by simpa [Fu] using a5
       show _=_
       rw [← e1.1,← e1.2];rfl
     rintro _ H3 rfl
     refine .region<|mvo ?_;refine kA zj<|kA zj<|ad ((i+v.length:Nat):Int) ?_ ?_
     ·rw [Aa];omega
     refine ixr (i+v.length) ?_ ?_ ?_ s32 (by decide)
     ·rfl
     ·rw [Aa];omega
     refine lde (U xw) ?_ ?_ a32
     ·rw [Nat.zero_add];exact GZ hxw
     refine kA zj<|bie (.i .u32 (((xw+c) % 4294967296:Nat):Int)) ?_ ?_
     ·exact ⟨trivial,by rw [← Int.natCast_add,FE]⟩
     refine ixr (i+v.length) ?_ ?_ ?_ s32 (by decide)
     ·rfl
     ·rw [Aa];omega
     refine ste ?_ ?_ z32
     ·rw [Nat.zero_add];exact Gj hxw
     refine RL.gh (Gh.keep [4,7,8,9,10,11,12] rfl)<|.nil ?_
     exact ⟨_,z1,by rw [z2];exact w2,by rw [z3];exact w3,r2,by rw [← Nb];rfl⟩
   rintro _ G3 ⟨u',p1,p2,p3,p4,rfl⟩
   have hq0:=h8 i (by omega)
   have hQlt:val (u.drop i) / val v<4294967296:=by omega
   have hdm:=Nat.div_add_mod (val (u.drop i)) (val v)
   have hml:=Nat.mod_lt (val (u.drop i)) hVpos
   have hqs:=IX hq0 (y:=val (u.drop i) / val v)
   have hnew:val u'+val v * val (q.set i (val (u.drop i) / val v))=val a * 2 ^ n:=by
    have e1:=Ch u i (by omega)
    have e2:=Ch u' i (by omega)
    rw [p3,p4] at e2
    rw [e1] at h6
    rw [e2]
    exact SJ h6 hdm.symm hqs
   generalize val (u.drop i) / val v=Q at *
   refine .region<|mvo ?_;refine kA zj<|kA zj ?_
   refine cve (Q:Int) (Ot hQlt) ?_ u64 u32
   refine ixr i ?_ ?_ ?_ s32 (by decide)
   ·rfl
   ·rw [Aa];omega
   refine ste ?_ ?_ z32
   ·rw [Nat.zero_add];exact Gj hq0
   refine .nil ?_;refine aw<|.region<|kA zj<|su ((i:Int)-1) ?_ ?_
   ·omega
   refine kD zj<|rn<|.gh (Gh.keep [4,7,8,9,10,11] rfl) ?_
   have:=ih (i,u',q.set i Q,G3) ⟨by dsimp only;omega,p1,h3.set _ hQlt,by dsimp only;rw [p2];exact h4,by dsimp only;rw [List.length_set];exact h5,hnew,by dsimp only;rw [p4];exact hml,fun j hj=>by
    dsimp only at hj ⊢
    rw [List.getElem?_set_ne (by omega)]
    exact h8 j (by omega)⟩ (by dsimp only;omega)
   dsimp only at this
   rw [← Nb] at this
   exact this
 rintro _ H4 ⟨u,q,h2,h3,h4,h5,h6,h7,rfl⟩
 obtain ⟨d1,d2⟩:=hdend _ _ h6 h7
 have htk:val (u.take v.length)=val u:=by
  have e1:=Ch u v.length (by omega)
  have e2:=Fi (u:=u) (k:=v.length) (by omega) (by rw [lv];omega)
  rw [e2,Nat.mul_zero,Nat.add_zero] at e1
  exact e1.symm
 have fbk:=Xk (a:=u.take v.length) (n:=n) (h2.take _) (by rw [List.length_take];omega) hn32
 rw [htk,d2] at fbk
 have e9:((L u).drop 0).take (v.length-0)=L (u.take v.length):=by rw [List.drop_zero,Nat.sub_zero,WG]
 rw [← e9] at fbk
 have fct:=DZ (a:=q) h3 (by omega)
 rw [← d1] at fct
 refine .gh (Gh.frz (p:=.t 4) rfl (fun _ _ h=>by cases h))<|.gh (Gh.frz (p:=.t 8) rfl (fun _ _ h=>by cases h))<|.gh (Gh.keep [4,7,8,10] rfl)<|.seq<|.drawn 7 AS (by kernel_rfl) ?_;refine kV Ac<|kV (v:=.d (.sl (L (Af (val a / val b))))) (vcl (xs:=[.sl (L q)]) (r:=.d (.sl (L (Af (val a / val b))))) fct Tryz.call161)<|kV Ac<|kV Ac<|kV (vsl 0 v.length ?_ (S7 _) s32) ?_
 ·rw [Aa,Aa];omega
 refine kV Ac<|kV (v:=.d (.sl (L (Af (val a % val b))))) (vcl (xs:=[.sl (((L u).drop 0).take (v.length-0)),.i .i64 (n:Int)]) (r:=.d (.sl (L (Af (val a % val b))))) fbk Tryz.call242)<|dz ?_;refine kD zj<|kD zj<|kD zj<|rn<|.ret ?_
 exact ⟨by decide,by rw [PM,if_neg h0,dT h0];rfl,rfl,rfl,rfl⟩
def Kp (ls:List (List Nat)) : Nat:=ls.foldl (fun g a=>Nat.gcd g (val a)) 0
theorem TK (ls:List (List Nat)) (y:List Nat) : Kp (ls++[y])=Nat.gcd (Kp ls) (val y):=by
 rw [Kp,Kp,List.foldl_append];rfl
theorem UQ {g x P:Nat} (hg:g<P) (hx:x<P) : Nat.gcd g x<P:=by
 by_cases h:x=0
 ·subst h;rwa [Nat.gcd_zero_right]
 ·exact Nat.lt_of_le_of_lt (Nat.gcd_le_right g (Nat.pos_of_ne_zero h)) hx
theorem WK {g x:Nat} : Nat.gcd x (g % x)=Nat.gcd g x:=by
 rw [Nat.gcd_comm g x,Nat.gcd_rec x g,Nat.gcd_comm]
theorem Vk {M:Nat} {ls:List (List Nat)} (h:∀ a∈ls,Ok a) (hM:∀ a∈ls,a.length≤M) (hl:ls.length≤1000) (hM2:M≤500000) : Fn Tryz.prog 165 [.sl (LL ls)] (.d (.sl (L (Af (Kp ls))))):=by
 have hv:∀ a∈ls,val a<4294967296 ^ M:=fun a ha=>nL (Cn (h a ha)) (Nat.pow_le_pow_right (by decide) (hM a ha))
 have hP:0<4294967296 ^ M:=Nat.pow_pos (by decide)
 refine Fn.o1 2 31 Tryz.func165 ?_;refine .sr<|asn ?_;refine rn<|.sr<|asn ?_;refine rn<|.mid (fun e H'=>e=[(3,.d (.sl (L (Af (Kp ls)))))]) ?_ ?_
 ·refine .sr ?_
  refine mvd ?_
  refine ln ?_ (VD _) l2
  refine kA zj<|rn<|.block<|.gh (Gh.nlD (t:=3) rfl) ?_
  refine .loop (.gh (Gh.keep [3,9,10,11] rfl) ?_)
  refine AL.cast (env':=[(3,.d (.sl (L (Af (Kp (ls.take 0)))))),(9,.d (.sl (LL ls))),(10,.d (.i .i64 ((LL ls).length:Nat))),(11,.d (.i .i64 ((0:Nat):Int)))]) (by rw [List.take_zero];show _=[(3,AV.d (.sl (L (Af 0)))),(9,AV.d (.sl (LL ls))),_,_];rw [A4];rfl) ?_
  refine AL.ind (σ:=Nat) (m:=fun i=>ls.length-i) (e:=fun i=>[(3,.d (.sl (L (Af (Kp (ls.take i)))))),(9,.d (.sl (LL ls))),(10,.d (.i .i64 ((LL ls).length:Nat))),(11,.d (.i .i64 (i:Int)))]) (h:=fun _=>[])
   (I:=fun i=>i≤ls.length∧Kp (ls.take i)<4294967296 ^ M) ?_ 0 ⟨Nat.zero_le _,by rw [List.take_zero];exact hP⟩
  rintro i ⟨h1,h2⟩ ih
  refine .sr<|kB zj<|rn<|.seq ?_
  by_cases hi:i<ls.length
  ·rw [dT (show (i:Int)<((LL ls).length:Nat) by rw [F5];omega)]
   have hy:ls[i]?=some ls[i]:=lG hi
   have htk:ls.take (i+1)=ls.take i++[ls[i]]:=List.take_succ_eq_append_getElem hi
   generalize ls[i]=y at hy htk
   have hyo:=h y (List.mem_of_getElem? hy)
   have hyl:=hM y (List.mem_of_getElem? hy)
   have hyv:=hv y (List.mem_of_getElem? hy)
   have hst:Kp (ls.take (i+1))=Nat.gcd (Kp (ls.take i)) (val y):=by rw [htk,TK]
   generalize Kp (ls.take i)=g at *
   refine BN ?_;refine .skip<|aw<|.seq<|.block<|.sr ?_
   refine ix i ?_ rfl (UY hy) rfl s2
   refine ldp ?_ a2
   refine kD zj<|rn<|.sr<|kA zj ?_
   refine cl (xs:=[.sl (L y)]) ?_ (JO hyo (by omega)) Tryz.call211
   refine aso ?_;refine RL.gh (Gh.frz (p:=.t 5) rfl (fun _ _ h=>by cases h))<|rn<|.block ?_
   refine .loop (.gh (Gh.keep [3,5,9,10,11] rfl) ?_)
   refine AL.ind (σ:=Nat×Nat) (m:=fun s=>s.2) (e:=fun s=>[(3,.d (.sl (L (Af s.1)))),(5,.d (.sl (L (Af s.2)))),(9,.d (.sl (LL ls))),(10,.d (.i .i64 ((LL ls).length:Nat))),(11,.d (.i .i64 (i:Int)))]) (h:=fun _=>[])
    (I:=fun s=>s.1<4294967296 ^ M∧s.2<4294967296 ^ M∧Nat.gcd s.1 s.2=Nat.gcd g (val y)) ?_ (g,val y) ⟨h2,hyv,rfl⟩
   rintro ⟨p,x⟩ ⟨g1,g2,g3⟩ ih2
   dsimp only at g1 g2 g3 ih2 ⊢
   refine .seq<|.sr<|kA zj ?_
   refine ln ?_ (BY _) l32
   refine kB zj<|rn ?_
   by_cases hx:x=0
   ·subst hx
    rw [dF (show ¬(0:Int)<((L (Af 0)).length:Nat) by rw [A4];decide)]
    rw [Nat.gcd_zero_right,← hst] at g3
    refine BD ?_;refine .exit ?_;refine aw<|.region<|ad ((i+1:Nat):Int) ?_ ?_
    ·omega
    refine kA zj<|rn<|.gh (Gh.keep [3,9,10,11] rfl) ?_
    rw [g3]
    exact ih (i+1) ⟨by omega,by rw [← g3];exact g1⟩ (by omega)
   ·have hd:=Pd (m:=x) (by omega)
    rw [dT (show (0:Int)<((L (Af x)).length:Nat) by rw [Aa];omega)]
    have fd:=IW (a:=Af p) (b:=Af x) (Bf _) (Bf _) (nT (Cv g1) hM2) (nT (Cv g2) hM2)
    rw [AK,AK,PM,if_neg hx] at fd
    refine BN ?_;refine .skip<|aw<|.block<|.sr<|kA zj<|kA zj ?_
    refine cl (xs:=[.sl (L (Af p)),.sl (L (Af x))]) ?_ fd Tryz.call212
    refine mvt ?_;refine ex ?_;refine ex ?_;refine ex ?_;refine kD zj<|kD zj<|kD zj<|rn<|.region<|kA zj<|kA zj<|kD zj<|kD zj<|.nil ?_;refine AL.gh (Gh.keep [3,5,9,10,11] rfl) ?_
    have hlt:=Nat.mod_lt p (Nat.pos_of_ne_zero hx)
    exact ih2 (x,p % x) ⟨g2,by show p % x<_;omega,by show Nat.gcd x (p % x)=_;rw [WK,g3]⟩ hlt
  ·rw [dF (show ¬(i:Int)<((LL ls).length:Nat) by rw [F5];omega)]
   refine BD ?_;refine .gh (Gh.keep [3] rfl)<|.exit ?_
   have e1:ls.take i=ls:=List.take_of_length_le (by omega)
   show _=_
   rw [e1];rfl
 rintro _ _ rfl
 refine .sr<|kA zj<|kD zj<|rn<|.ret ?_
 exact ⟨rfl,rfl⟩
theorem Tx {x y:Nat} (h:y≤x) : V7 x y=x-y:=by
 unfold V7;split<;>omega
abbrev Rv (b:Bool) (n d:List Nat) : DV:=.ag [.b b,.sl (L n),.sl (L d)]
abbrev Nv (b:Bool) (n d:List Nat) : DV:=.ag [.sl (L n),.sl (L d),.b b]
abbrev Zv (n d:List Nat) : DV:=.ag [.sl (L n),.sl (L d)]
theorem fR0 : Br Tryz.prog 33 0=some (0,1):=by kernel_rfl
theorem fR1 : Br Tryz.prog 33 1=some (1,1):=by kernel_rfl
theorem fR2 : Br Tryz.prog 33 2=some (2,1):=by kernel_rfl
theorem fN0 : Br Tryz.prog 179 0=some (0,2):=by kernel_rfl
theorem fN1 : Br Tryz.prog 179 1=some (2,1):=by kernel_rfl
theorem fZ0 : Br Tryz.prog 177 0=some (0,1):=by kernel_rfl
theorem fZ1 : Br Tryz.prog 177 1=some (1,1):=by kernel_rfl
theorem aR : BH Tryz.prog 33=some true:=by kernel_rfl
theorem aN : BH Tryz.prog 179=some true:=by kernel_rfl
theorem aZ : BH Tryz.prog 177=some true:=by kernel_rfl
theorem sR : Av Tryz.prog 33=3:=by kernel_rfl
theorem sN : Av Tryz.prog 179=3:=by kernel_rfl
theorem sZ : Av Tryz.prog 177=2:=by kernel_rfl
theorem pR : CR Tryz.prog 33=some [(0,1),(1,1),(2,1)]:=by kernel_rfl
theorem pN : CR Tryz.prog 179=some [(0,2),(2,1)]:=by kernel_rfl
theorem pZ : CR Tryz.prog 177=some [(0,1),(1,1)]:=by kernel_rfl
theorem iR : (Tryz.prog.info? 33).bind (·.zero)=some (.agg #[.bool false,.slice none 0 0,.slice none 0 0]):=by kernel_rfl
theorem iN : (Tryz.prog.info? 179).bind (·.zero)=some (.agg #[.slice none 0 0,.slice none 0 0,.bool false]):=by kernel_rfl
theorem iZ : (Tryz.prog.info? 177).bind (·.zero)=some (.agg #[.slice none 0 0,.slice none 0 0]):=by kernel_rfl
theorem Ae {P:Program} {t:TypeId} {z:Value} (h:(P.info? t).bind (·.zero)=some z) (w:World) : (zeroValue t).run P w=.ok z w:=by
 cases hi:P.info? t with
 | none=>rw [hi] at h;cases h
 | some i =>
  rw [hi] at h
  simp only [oB] at h
  simp [zeroValue,typeInfo,hi,h]
theorem rR (w:World) (I:Nat→Prop) : RepAll w I [.b false,.sl [],.sl []] (Value.agg #[.bool false,.slice none 0 0,.slice none 0 0]).cells.toList:=.cons (.b _) (.cons (.sl0 _ _) (.cons (.sl0 _ _) .nil))
theorem rN (w:World) (I:Nat→Prop) : RepAll w I [.sl [],.sl [],.b false] (Value.agg #[.slice none 0 0,.slice none 0 0,.bool false]).cells.toList:=.cons (.sl0 _ _) (.cons (.sl0 _ _) (.cons (.b _) .nil))
theorem rZ (w:World) (I:Nat→Prop) : RepAll w I [.sl [],.sl []] (Value.agg #[.slice none 0 0,.slice none 0 0]).cells.toList:=.cons (.sl0 _ _) (.cons (.sl0 _ _) .nil)
theorem aB : BH Tryz.prog 4=some false:=by kernel_rfl
theorem aS : BH Tryz.prog 31=some false:=by kernel_rfl
theorem Mm (ls:List (List Nat)) : ∀ d∈LL ls,d.flat=true∧d.cells.length=1:=by
 intro d hd
 simp only [LL,List.mem_map] at hd
 obtain ⟨n,_,rfl⟩:=hd
 exact ⟨rfl,rfl⟩
theorem Tt : ∀ vs : List DV,noBpL (vs.map .d)=true
 | []=>rfl
 | v::vs=>by simp only [List.map_cons,noBpL,noBp,Tt vs,Bool.and_self]
theorem Sr (vs:List DV) : noBp (.tup (vs.map .d))=true:=by simp only [noBp,Tt vs]
theorem Nl : Fn Tryz.prog 116 [] (.own 133 (L [1])):=by
 refine Fn.o1 0 2 Tryz.func116 ?_;refine .sr<|asn ?_;refine rn<|.sr ?_
 refine bsl ?_ ?_ e32
 ·simp [DV.flat,DV.cells,DV.leaf]
 refine aso ?_;refine rn<|.ret ?_
 exact ⟨rfl,rfl⟩
theorem Vo (b:Bool) (n d:List Nat) : Fn Tryz.prog 190 [Rv b n d] (.d (Nv b n d)):=by
 refine Fn.ofC (rs:=[.cell 2 179]) (nt:=11) Tryz.func190 rfl rfl rfl (by simp) rfl ?_;refine .sr<|kK vbx<|kK (van (Ae iN) rN)<|rn<|.sr<|kK (vfa fR1) ?_
 refine ldp ?_ aS
 refine vk (vfa fR2) ?_
 refine ldp ?_ aS
 refine kK (vbd pZ iZ rZ)<|kK (vfa fR0) ?_
 refine ldp ?_ aB
 refine vk (vbd pN iN rN) ?_
 refine stn ?_ sN (by decide)
 refine rn<|.ret ?_
 exact ⟨_,⟨.inr rfl,aN,sN,p3⟩,rfl⟩
theorem MB {n d m e:List Nat} (hn:Ok n) (he:Ok e) (hln:n.length≤4000) (hle:e.length≤4000) : Fn Tryz.prog 191 [Zv n d,Zv m e] (.d (.sl (L (Af (val n * val e))))):=by
 have p1:=Kf (M:=4000) (ls:=[n,e]) (by simp [hn,he]) (by simp [hln,hle]) (by simp) (by decide)
 rw [show ET [n,e] 1=val n * val e by show 1 * val n * val e=_;rw [Nat.one_mul]] at p1
 refine Fn.o1 4 11 Tryz.func191 ?_;refine .sr<|kK vbx<|kK vbx<|asn ?_;refine rn<|.sr<|kK (vfa fZ0) ?_
 refine ldp ?_ aS
 refine vk (vfa fZ1) ?_
 refine ldp ?_ aS
 refine bsl ?_ ?_ e2
 ·simp [DV.flat,DV.cells,DV.leaf]
 refine fz (p:=.t 9) ?_
 refine cl (xs:=[.sl (LL [n,e])]) ?_ p1 Tryz.call200
 refine kD zj<|rn<|.ret ?_
 exact ⟨rfl,rfl⟩
def Xa (b:Bool) (n d:Nat) : List DV :=
 if Nat.gcd n d=0 then [Rv false [] [],.i .i64 22]
 else if 32<(Af (n / Nat.gcd n d)).length∨32<(Af (d / Nat.gcd n d)).length then [Rv false [] [],.i .i64 8]
 else [Rv (b&&decide (n / Nat.gcd n d≠0)) (Af (n / Nat.gcd n d)) (Af (d / Nat.gcd n d)),.i .i64 0]
theorem UW {n:Nat} : decide ((0:Int)<((L (Af n)).length : Nat))=decide (n≠0):=by
 by_cases h:n=0
 ·subst h;rw [A4];rfl
 ·have:=Pd (m:=n) (by omega)
  rw [dT h,dT (by rw [Aa];omega)]
theorem OQ {M:Nat} {b:Bool} {n d:List Nat} (hn:Ok n) (hd:Ok d) (hln:n.length≤M) (hld:d.length≤M) (hM:M≤100000) : Fn Tryz.prog 199 [Nv b n d] (.tup ((Xa b (val n) (val d)).map .d)):=by
 have g1:=Vk (M:=M) (ls:=[n,d]) (by simp [hn,hd]) (by simp [hln,hld]) (by simp) (by omega)
 rw [show Kp [n,d]=Nat.gcd (val n) (val d) by show Nat.gcd (Nat.gcd 0 (val n)) (val d)=_;rw [Nat.gcd_zero_left]] at g1
 have lg:(Af (Nat.gcd (val n) (val d))).length≤M:=Cv (UQ (nL (Cn hn) (Nat.pow_le_pow_right (by decide) hln)) (nL (Cn hd) (Nat.pow_le_pow_right (by decide) hld)))
 unfold Xa
 generalize Nat.gcd (val n) (val d)=g at *
 have d1:=IW (a:=n) (b:=Af g) hn (Bf g) (by omega) (by omega)
 have d2:=IW (a:=d) (b:=Af g) hd (Bf g) (by omega) (by omega)
 rw [AK] at d1 d2
 generalize PM (val n) g=r1 at *
 generalize PM (val d) g=r2 at *
 generalize val n / g=x at *
 generalize val d / g=y at *
 refine Fn.ofC (rs:=[.cell 2 33,.tmp 3]) (nt:=61) Tryz.func199 rfl rfl rfl (by simp) (Sr _) ?_;refine .sr<|kK vbx<|kK (van (Ae iR) rR)<|kD zj<|rn<|.sr<|kK (vfa fN0)<|kK (vfa fZ0) ?_
 refine ldp ?_ aS
 refine kK (vfa fN0)<|kK (vfa fZ1) ?_
 refine ldp ?_ aS
 refine bsl ?_ ?_ e2
 ·simp [DV.flat,DV.cells,DV.leaf]
 refine fz (p:=.t 17) ?_
 refine cl (xs:=[.sl (LL [n,d])]) ?_ g1 Tryz.call165
 refine kD zj<|rn<|.gh (Gh.keep [1,2,3,4] rfl)<|.sr<|kK (vfa fN0)<|kK (vfa fZ0) ?_
 refine ldp ?_ aS
 refine mvd ?_
 refine cl (xs:=[.sl (L n),.sl (L (Af g))]) ?_ d1 Tryz.call212
 refine mvt ?_;refine ex ?_;refine ex ?_;refine ex ?_;refine kD zj<|kD zj<|kD zj<|rn<|.gh (Gh.keep [1,2,3,4,5,7] rfl)<|.sr<|kK (vfa fN0)<|kK (vfa fZ1) ?_
 refine ldp ?_ aS
 refine mvd ?_
 refine cl (xs:=[.sl (L d),.sl (L (Af g))]) ?_ d2 Tryz.call212
 refine mvt ?_;refine ex ?_;refine ex ?_;refine ex ?_;refine kD zj<|kD zj<|kD zj<|rn<|.gh (Gh.keep [1,2,3,5,7,8] rfl)<|.seq<|.block<|.sr<|kA zj<|nt_ ?_;refine kD zj<|rn ?_
 by_cases hg:g=0
 ·rw [dF (show ¬(g≠0) from fun h=>h hg),if_pos hg]
  refine BN ?_;refine .sr<|kK (vbd pR iR rR) ?_
  refine stn ?_ sR (by decide)
  refine kD zj<|rn<|.ret ?_
  exact ⟨_,_,⟨.inr rfl,aR,sR,p3⟩,rfl,rfl⟩
 rw [dT (show g≠0 from hg),if_neg hg]
 refine BD ?_;refine .sr<|kA zj ?_
 refine ln ?_ (BY _) l32
 refine bi ?_
 by_cases hx:32<(Af x).length
 ·rw [dT (show (32:Int)<((L (Af x)).length:Nat) by rw [Aa];omega),if_pos (.inl hx)]
  refine kA zj<|gf3 ?_;refine pkd ?_;refine kD zj<|rn<|BN ?_;refine .sr<|kK (vbd pR iR rR) ?_
  refine stn ?_ sR (by decide)
  refine kD zj<|rn<|.ret ?_
  exact ⟨_,_,⟨.inr rfl,aR,sR,p3⟩,rfl,rfl⟩
 rw [dF (show ¬(32:Int)<((L (Af x)).length:Nat) by rw [Aa];omega)]
 refine kA zj<|kA zj ?_
 refine ln ?_ (BY _) l32
 refine bi ?_
 by_cases hy:32<(Af y).length
 ·rw [dT (show (32:Int)<((L (Af y)).length:Nat) by rw [Aa];omega),if_pos (.inr hy)]
  refine pkd ?_;refine kD zj<|rn<|BN ?_;refine .sr<|kK (vbd pR iR rR) ?_
  refine stn ?_ sR (by decide)
  refine kD zj<|rn<|.ret ?_
  exact ⟨_,_,⟨.inr rfl,aR,sR,p3⟩,rfl,rfl⟩
 rw [dF (show ¬(32:Int)<((L (Af y)).length:Nat) by rw [Aa];omega),if_neg (by omega)]
 refine pkd ?_;refine kD zj<|rn<|BD ?_;refine .skip<|aw<|.sr<|kK (vfa fN1) ?_
 refine ldp ?_ aB
 refine mvd ?_
 by_cases hb:b=true
 ·subst hb
  refine mvd ?_
  refine ln ?_ (BY _) l32
  refine bi ?_
  rw [UW]
  refine pkd ?_;refine kA zj<|kA zj<|kK (vbd pR iR rR) ?_
  refine stn ?_ sR (by decide)
  refine kD zj<|rn<|.ret ?_
  exact ⟨_,_,⟨.inr rfl,aR,sR,p3⟩,rfl,rfl⟩
 rw [Bool.not_eq_true] at hb;subst hb
 refine gf3 ?_;refine pkd ?_;refine kA zj<|kA zj<|kK (vbd pR iR rR) ?_
 refine stn ?_ sR (by decide)
 refine kD zj<|rn<|.ret ?_
 exact ⟨_,_,⟨.inr rfl,aR,sR,p3⟩,rfl,rfl⟩
theorem slR : B3 Tryz.prog 112=some (33,3,56):=by kernel_rfl
theorem lR : Tryz.prog.underlying 112=some (.slice (Tryz.prog.elem 112)):=by kernel_rfl
theorem RG (a b:List Nat) (hla:a.length≤1048576) (hoa:Ok a) (hob:Ok b) : Fn Tryz.prog 121 [.sl (L a),.sl (L b)] (.d (.b (decide (a=b)))):=by
 refine Fn.o1 4 26 Tryz.func121 ?_;refine .sr<|kD zj<|rn<|.seq<|.sr<|kA zj ?_
 refine ln ?_ (BY _) l32
 refine mvd ?_
 refine ln ?_ (BY _) l32
 refine kB zj<|rn ?_
 by_cases hlen:a.length≠b.length
 ·rw [dF (show ¬(((L a).length:Nat):Int)=((L b).length:Nat) by rw [Aa,Aa];omega)]
  refine BN ?_;refine .sr<|kD zj<|rn<|.ret ?_
  exact ⟨by rw [dF (fun h=>hlen (by rw [h]))];rfl,rfl⟩
 rw [dT (show (((L a).length:Nat):Int)=((L b).length:Nat) by rw [Aa,Aa];omega)]
 refine BD ?_;refine .skip<|aw<|.seq<|.sr<|kA zj ?_
 refine ln ?_ (BY _) l32
 refine kA zj<|rn<|.block ?_
 refine .loop (.gh (Gh.keep [0,1,11,12,13] rfl) ?_)
 refine AL.ind (σ:=Nat) (m:=fun i=>a.length-i) (e:=fun i=>[(0,.d (.sl (L a))),(1,.d (.sl (L b))),(11,.d (.sl (L a))),(12,.d (.i .i64 ((L a).length:Nat))),(13,.d (.i .i64 (i:Int)))]) (h:=fun _=>[])
  (I:=fun i=>i≤a.length∧a.take i=b.take i) ?_ 0 ⟨Nat.zero_le _,rfl⟩
 rintro i ⟨h1,h2⟩ ih
 refine .sr<|kB zj<|rn<|.seq ?_
 by_cases hi:i<a.length
 ·rw [dT (show (i:Int)<((L a).length:Nat) by rw [Aa];omega)]
  have hx:a[i]?=some a[i]:=lG hi
  have hy:b[i]?=some b[i]:=lG (by omega)
  have hdx:a.take (i+1)=a.take i++[a[i]]:=List.take_succ_eq_append_getElem hi
  have hdy:b.take (i+1)=b.take i++[b[i]]:=List.take_succ_eq_append_getElem (by omega)
  generalize a[i]=x at hx hdx
  generalize b[i]=y at hy hdy
  refine BN ?_;refine .skip<|aw<|.seq<|.block<|.sr<|kA zj<|kD zj<|rn<|.seq<|.drawn 9 AS (by kernel_rfl) ?_;refine kV Ac<|kV Ac<|kV (vix i rfl (Fz hx) rfl s32)<|kV (Al a32)<|kV Ac<|kV Ac<|kV (vix i rfl (Fz hy) rfl s32)<|kV (Al a32)<|kV vbi<|dz ?_;refine rn ?_
  by_cases hxy:x≠y
  ·rw [dF (show ¬(x:Int)=(y:Int) by omega)]
   refine BN ?_;refine .sr<|kD zj<|rn<|.ret ?_
   exact ⟨by rw [dF (fun h=>hxy (by rw [h] at hx;rw [hx] at hy;exact oI hy))];rfl,rfl⟩
  rw [dT (show (x:Int)=(y:Int) by omega)]
  refine BD ?_;refine .skip<|aw<|.region<|ad ((i+1:Nat):Int) ?_ ?_
  ·omega
  refine kA zj<|.nil ?_;refine AL.gh (Gh.keep [0,1,11,12,13] rfl) ?_
  exact ih (i+1) ⟨by omega,by rw [hdx,hdy,h2];congr 2;omega⟩ (by omega)
 rw [dF (show ¬(i:Int)<((L a).length:Nat) by rw [Aa];omega)]
 refine BD ?_;refine .exit ?_;refine aw<|.sr<|kD zj<|rn<|.ret ?_
 rw [List.take_of_length_le (by omega),List.take_of_length_le (by omega)] at h2
 exact ⟨by rw [dT h2];rfl,rfl⟩
def MG (b:Bool) (n d:List Nat) : Prop:=Af (val n)=n∧Af (val d)=d∧n.length≤32∧d.length≤32∧d≠[]∧(n=[]→b=false)∧Nat.gcd (val n) (val d)=1
instance (b:Bool) (n d:List Nat) : Decidable (MG b n d):=by unfold MG;infer_instance
def HK (b:Bool) (n d:List Nat) : Bool:=decide (MG b n d)
theorem I5 {b:Bool} {n d:List Nat} (h:¬MG b n d) : HK b n d=false:=dF h
theorem Kj {g:Nat} : Af g=[1]↔g=1:=by
 have one:Af 1=[1]:=Kz (n:=1) (by decide) (by decide)
 constructor
 ·intro h
  have:=AK g
  rw [h] at this
  simpa [val] using this.symm
 ·rintro rfl;exact one
theorem Jw {l:List Nat} : l≠[]↔0<l.length:=by
 cases l<;>simp
theorem Oa {b:Bool} {n d:List Nat} (hn:Ok n) (hd:Ok d) (hln:n.length≤35184372087808) (hld:d.length≤35184372087808) : Fn Tryz.prog 112 [Rv b n d] (.d (.b (HK b n d))):=by
 refine Fn.o1 2 50 Tryz.func112 ?_;refine .sr<|kK vbx<|kD zj<|rn<|.seq<|.sr<|kK (vfa fR1) ?_
 refine ldp ?_ aS
 refine cl (xs:=[.sl (L n)]) ?_ (P4 hn hln) Tryz.call164
 refine nt_ ?_
 by_cases h1:¬Af (val n)=n
 ·rw [dF h1]
  refine kA zj<|gf4 ?_;refine pkd ?_;refine kA zj<|gf4 ?_;refine pkd ?_;refine kA zj<|gf4 ?_;refine pkd ?_;refine rn<|.gh (Gh.keep [1,24] rfl)<|BN ?_;refine .sr<|kD zj<|rn<|.ret ?_
  exact ⟨by rw [I5 (fun h=>h1 h.1)];rfl,rfl⟩
 rw [Decidable.not_not] at h1
 rw [dT h1]
 refine kA zj<|kK (vfa fR2) ?_
 refine ldp ?_ aS
 refine cl (xs:=[.sl (L d)]) ?_ (P4 hd hld) Tryz.call164
 refine nt_ ?_
 by_cases h2:¬Af (val d)=d
 ·rw [dF h2]
  refine pkd ?_;refine kA zj<|gf4 ?_;refine pkd ?_;refine kA zj<|gf4 ?_;refine pkd ?_;refine rn<|.gh (Gh.keep [1,24] rfl)<|BN ?_;refine .sr<|kD zj<|rn<|.ret ?_
  exact ⟨by rw [I5 (fun h=>h2 h.2.1)];rfl,rfl⟩
 rw [Decidable.not_not] at h2
 rw [dT h2]
 refine pkd ?_;refine kA zj<|kK (vfa fR1) ?_
 refine ldp ?_ aS
 refine ln ?_ (BY _) l32
 refine bi ?_
 by_cases h3:32<n.length
 ·rw [dT (show (32:Int)<((L n).length:Nat) by rw [Aa];omega)]
  refine pkd ?_;refine kA zj<|gf4 ?_;refine pkd ?_;refine rn<|.gh (Gh.keep [1,24] rfl)<|BN ?_;refine .sr<|kD zj<|rn<|.ret ?_
  exact ⟨by rw [I5 (fun h=>by have:=h.2.2.1;omega)];rfl,rfl⟩
 rw [dF (show ¬(32:Int)<((L n).length:Nat) by rw [Aa];omega)]
 refine pkd ?_;refine kA zj<|kK (vfa fR2) ?_
 refine ldp ?_ aS
 refine ln ?_ (BY _) l32
 refine bi ?_
 by_cases h4:32<d.length
 ·rw [dT (show (32:Int)<((L d).length:Nat) by rw [Aa];omega)]
  refine pkd ?_;refine rn<|.gh (Gh.keep [1,24] rfl)<|BN ?_;refine .sr<|kD zj<|rn<|.ret ?_
  exact ⟨by rw [I5 (fun h=>by have:=h.2.2.2.1;omega)];rfl,rfl⟩
 rw [dF (show ¬(32:Int)<((L d).length:Nat) by rw [Aa];omega)]
 have g1:=Vk (M:=32) (ls:=[n,d]) (by simp [hn,hd]) (by simp;omega) (by simp) (by decide)
 rw [show Kp [n,d]=Nat.gcd (val n) (val d) by show Nat.gcd (Nat.gcd 0 (val n)) (val d)=_;rw [Nat.gcd_zero_left]] at g1
 have lg:(Af (Nat.gcd (val n) (val d))).length≤32:=Cv (UQ (nL (Cn hn) (Nat.pow_le_pow_right (by decide) (by omega))) (nL (Cn hd) (Nat.pow_le_pow_right (by decide) (by omega))))
 have q1:=RG (Af (Nat.gcd (val n) (val d))) [1] (by omega) (Bf _) (by simp [Ok])
 rw [decide_eq_decide.2 Kj] at q1
 refine pkd ?_;refine rn<|.gh (Gh.keep [1,24] rfl)<|BD ?_;refine .skip<|aw<|.sr<|kK (vfa fR2) ?_
 refine ldp ?_ aS
 refine ln ?_ (BY _) l32
 refine bi ?_
 by_cases h5:0<d.length
 ·rw [dT (show (0:Int)<((L d).length:Nat) by rw [Aa];omega)]
  refine kA zj<|kK (vfa fR1) ?_
  refine ldp ?_ aS
  refine ln ?_ (BY _) l32
  refine bi ?_
  by_cases h6:0<n.length
  ·rw [dT (show (0:Int)<((L n).length:Nat) by rw [Aa];omega)]
   refine kA zj<|gf3 ?_;refine pkd ?_;refine pkd ?_;refine kA zj<|kK (vfa fR1) ?_
   refine ldp ?_ aS
   refine vk (vfa fR2) ?_
   refine ldp ?_ aS
   refine bsl ?_ ?_ e2
   ·simp [DV.flat,DV.cells,DV.leaf]
   refine fz (p:=.t 45) ?_
   refine cl (xs:=[.sl (LL [n,d])]) ?_ g1 Tryz.call165
   refine cl (xs:=[]) ?_ Nl Tryz.call116
   refine fz (p:=.t 47) ?_
   refine cl (xs:=[.sl (L (Af (Nat.gcd (val n) (val d)))),.sl (L [1])]) ?_ q1 Tryz.call121
   refine pkd ?_;refine kD zj<|rn<|.ret ?_
   exact ⟨by rw [show HK b n d=decide (Nat.gcd (val n) (val d)=1) from decide_eq_decide.2 ⟨fun h=>h.2.2.2.2.2.2,fun h=>⟨h1,h2,by omega,by omega,Jw.2 h5,fun h0=>by rw [h0] at h6;simp at h6,h⟩⟩];rfl,rfl⟩
  rw [dF (show ¬(0:Int)<((L n).length:Nat) by rw [Aa];omega)]
  refine kA zj<|kK (vfa fR0) ?_
  refine ldp ?_ aB
  refine nt_ ?_
  by_cases h7:b=false
  ·subst h7
   refine pkd ?_;refine pkd ?_;refine kA zj<|kK (vfa fR1) ?_
   refine ldp ?_ aS
   refine vk (vfa fR2) ?_
   refine ldp ?_ aS
   refine bsl ?_ ?_ e2
   ·simp [DV.flat,DV.cells,DV.leaf]
   refine fz (p:=.t 45) ?_
   refine cl (xs:=[.sl (LL [n,d])]) ?_ g1 Tryz.call165
   refine cl (xs:=[]) ?_ Nl Tryz.call116
   refine fz (p:=.t 47) ?_
   refine cl (xs:=[.sl (L (Af (Nat.gcd (val n) (val d)))),.sl (L [1])]) ?_ q1 Tryz.call121
   refine pkd ?_;refine kD zj<|rn<|.ret ?_
   exact ⟨by rw [show HK false n d=decide (Nat.gcd (val n) (val d)=1) from decide_eq_decide.2 ⟨fun h=>h.2.2.2.2.2.2,fun h=>⟨h1,h2,by omega,by omega,Jw.2 h5,fun _=>rfl,h⟩⟩];rfl,rfl⟩
  rw [Bool.not_eq_false] at h7;subst h7
  refine pkd ?_;refine pkd ?_;refine kA zj<|gf4 ?_;refine gf4 ?_;refine pkd ?_;refine kD zj<|rn<|.ret ?_
  exact ⟨by rw [I5 (fun h=>by have:=h.2.2.2.2.2.1 (List.length_eq_zero_iff.1 (by omega));cases this)];rfl,rfl⟩
 rw [dF (show ¬(0:Int)<((L d).length:Nat) by rw [Aa];omega)]
 refine kA zj<|gf4 ?_;refine gfu ?_;refine gfn ?_;refine gfn ?_;refine gfn ?_;refine kG<|pkd ?_;refine kA zj<|gf4 ?_;refine gf4 ?_;refine pkd ?_;refine kD zj<|rn<|.ret ?_
 exact ⟨by rw [I5 (fun h=>h5 (Jw.1 h.2.2.2.2.1))];rfl,rfl⟩
abbrev RT:=Bool×List Nat×List Nat
def RVs (rs:List RT) : List DV:=rs.map fun r=>Rv r.1 r.2.1 r.2.2
def okR (r:RT) : Prop:=Ok r.2.1∧Ok r.2.2∧r.2.1.length≤35184372087808∧r.2.2.length≤35184372087808
def BM (r:RT) : Bool:=HK r.1 r.2.1 r.2.2
def YS : Option Nat→Int
 | some i=>i
 | none=>-1
theorem DH (rs:List RT) : (RVs rs).length=rs.length:=by simp [RVs]
theorem Nu (rs:List RT) : ∃ sz,∀ x∈RVs rs,x.cells.length=sz:=⟨3,fun x hx=>by
 simp only [RVs,List.mem_map] at hx
 obtain ⟨n,_,rfl⟩:=hx;rfl⟩
theorem OW {rs:List RT} {i:Nat} {r:RT} (h:rs[i]?=some r) : (RVs rs)[i]?=some (Rv r.1 r.2.1 r.2.2):=by simp [RVs,h]
theorem Rj {b:Bool} {n d:List Nat} (hn:Ok n) (hd:Ok d) (hln:n.length≤35184372087808) (hld:d.length≤35184372087808) : Fn Tryz.prog 226 [Rv b n d] (.d (.b (!HK b n d))):=by
 refine Fn.o1 2 6 Tryz.func226 ?_;refine .sr<|kK vbx<|kD zj<|rn<|.sr<|kK (Ap aR sR) ?_
 refine cl (xs:=[Rv b n d]) ?_ (Oa hn hd hln hld) Tryz.call112
 refine nt_ ?_;refine kD zj<|rn<|.ret ?_
 exact ⟨rfl,rfl⟩
theorem UH {rs:List RT} (h:∀ r∈rs,okR r) (hl:rs.length≤1048576) : Fn Tryz.prog 250 [.sl (RVs rs),.fn 226 [] []] (.d (.i .i64 (YS (rs.findIdx? (fun r=>!BM r))))):=by
 refine Fn.o1 4 19 Tryz.func250 ?_;refine .sr<|kD zj<|rn<|.seq<|.sr<|kA zj ?_
 refine ln ?_ (Nu _) lR
 refine kA zj<|rn<|.block ?_
 refine .loop (.gh (Gh.keep [0,1,6,7,8] rfl) ?_)
 refine AL.ind (σ:=Nat) (m:=fun i=>rs.length-i) (e:=fun i=>[(0,.d (.sl (RVs rs))),(1,.d (.fn 226 [] [])),(6,.d (.sl (RVs rs))),(7,.d (.i .i64 ((RVs rs).length:Nat))),(8,.d (.i .i64 (i:Int)))]) (h:=fun _=>[])
  (I:=fun i=>i≤rs.length∧∀ j r,j<i→rs[j]?=some r→BM r=true) ?_ 0 ⟨Nat.zero_le _,fun j r hj=>by omega⟩
 rintro i ⟨h1,h2⟩ ih
 refine .sr<|kB zj<|rn<|.seq ?_
 by_cases hi:i<rs.length
 ·rw [dT (show (i:Int)<((RVs rs).length:Nat) by rw [DH];omega)]
  have hx:rs[i]?=some rs[i]:=lG hi
  have hdx:rs.take (i+1)=rs.take i++[rs[i]]:=List.take_succ_eq_append_getElem hi
  generalize rs[i]=r at hx hdx
  obtain ⟨o1,o2,o3,o4⟩:=h r (List.mem_of_getElem? hx)
  refine BN ?_;refine .skip<|aw<|.seq<|.block<|.sr<|kA zj<|kD zj<|rn<|.sr<|kA zj<|kA zj<|kA zj ?_
  refine ix i ?_ rfl (OW hx) rfl slR
  refine vk (Ap aR sR) ?_
  refine cl (xs:=[Rv r.1 r.2.1 r.2.2]) ?_ (Rj o1 o2 o3 o4) Tryz.call226
  refine rn ?_
  by_cases hr:HK r.1 r.2.1 r.2.2=false
  ·rw [hr]
   refine BN ?_;refine .sr<|kA zj<|kD zj<|rn<|.ret ?_
   have hf:rs.findIdx? (fun r=>!BM r)=some i:=by
    rw [List.findIdx?_eq_some_iff_getElem]
    obtain ⟨hi',he⟩:=lS.1 hx
    refine ⟨hi',by rw [he];show (!HK r.1 r.2.1 r.2.2)=true;rw [hr];rfl,fun j hj=>?_⟩
    have:=h2 j rs[j] hj (lG (by omega))
    simp [this]
   exact ⟨by rw [hf];rfl,rfl⟩
  rw [Bool.not_eq_false] at hr
  rw [hr]
  refine BD ?_;refine .skip<|aw<|.region<|ad ((i+1:Nat):Int) ?_ ?_
  ·omega
  refine kA zj<|.nil ?_;refine AL.gh (Gh.keep [0,1,6,7,8] rfl) ?_
  exact ih (i+1) ⟨by omega,fun j r' hj hr'=>by
   by_cases hji:j=i
   ·subst hji;rw [hx] at hr';cases hr';exact hr
   ·exact h2 j r' (by omega) hr'⟩ (by omega)
 rw [dF (show ¬(i:Int)<((RVs rs).length:Nat) by rw [DH];omega)]
 refine BD ?_;refine .exit ?_;refine aw<|.sr<|kD zj<|rn<|.ret ?_
 have hf:rs.findIdx? (fun r=>!BM r)=none:=by
  rw [List.findIdx?_eq_none_iff]
  intro r hr
  obtain ⟨j,hj⟩:=List.getElem?_of_mem hr
  have hjl:=(lS.1 hj).1
  rw [h2 j r (by omega) hj];rfl
 exact ⟨by rw [hf];rfl,rfl⟩
theorem Pi {rs:List RT} (h:∀ r∈rs,okR r) (hl:rs.length≤1048576) : Fn Tryz.prog 225 [.sl (RVs rs),.fn 226 [] []] (.d (.b (!rs.all BM))):=by
 have f:=UH h hl
 have e:decide ((0:Int)≤YS (rs.findIdx? (fun r=>!BM r)))=!rs.all BM:=by
  cases hf:rs.findIdx? (fun r=>!BM r) with
  | none =>
   rw [List.findIdx?_eq_none_iff] at hf
   have:rs.all BM=true:=List.all_eq_true.2 fun r hr=>by have:=hf r hr;simpa using this
   rw [this];rfl
  | some i =>
   rw [List.findIdx?_eq_some_iff_getElem] at hf
   obtain ⟨hi,he,_⟩:=hf
   have:rs.all BM=false:=by
    rw [Bool.eq_false_iff]
    intro ha
    have:=List.all_eq_true.1 ha _ (List.getElem_mem hi)
    rw [this] at he;cases he
   rw [this]
   exact dT (by show (0:Int)≤(i:Int);omega)
 generalize YS (rs.findIdx? (fun r=>!BM r))=z at *
 refine Fn.o1 4 9 Tryz.func225 ?_;refine .sr<|kD zj<|rn<|.sr<|kA zj<|kA zj ?_
 refine cl (xs:=[.sl (RVs rs),.fn 226 [] []]) ?_ f Tryz.call250
 refine bi ?_
 rw [e]
 refine kD zj<|rn<|.ret ?_
 exact ⟨rfl,rfl⟩
theorem Qq {rs:List RT} (h:∀ r∈rs,okR r) (hl:rs.length≤1048576) : Fn Tryz.prog 188 [.sl (RVs rs)] (.d (.b (rs.all BM))):=by
 have f:=Pi h hl
 generalize rs.all BM=b at *
 refine Fn.o1 2 6 Tryz.func188 ?_;refine .sr<|kD zj<|rn<|.sr<|kA zj ?_
 refine cl (xs:=[.sl (RVs rs),.fn 226 [] []]) ?_ f Tryz.call225
 refine nt_ ?_
 rw [Bool.not_not]
 refine kD zj<|rn<|.ret ?_
 exact ⟨rfl,rfl⟩
theorem Sn (b c:Bool) (n d m e:List Nat) (hn:n.length≤35184372087808) (hd:d.length≤35184372087808) : Fn Tryz.prog 12 [Rv b n d,Rv c m e] (.d (.b (decide (b=c∧n=m∧d=e)))):=by
 have s1:=Tj n m hn
 have s2:=Tj d e hd
 refine Fn.o1 4 24 Tryz.func12 ?_;refine .sr<|kK vbx<|kK vbx<|kD zj<|rn<|.sr<|kK (vfa fR0) ?_
 refine ldp ?_ aB
 refine vk (vfa fR0) ?_
 refine ldp ?_ aB
 refine bbn ?_ (.inl rfl) bo
 rw [if_pos rfl]
 by_cases hb:b=c
 ·subst hb
  rw [beq_self_eq_true]
  refine kA zj<|kK (vfa fR1) ?_
  refine ldp ?_ aS
  refine vk (vfa fR1) ?_
  refine ldp ?_ aS
  refine cl (xs:=[.sl (L n),.sl (L m)]) ?_ s1 Tryz.call56
  by_cases hm:n=m
  ·rw [dT hm]
   refine pkd ?_;refine kA zj<|kK (vfa fR2) ?_
   refine ldp ?_ aS
   refine vk (vfa fR2) ?_
   refine ldp ?_ aS
   refine cl (xs:=[.sl (L d),.sl (L e)]) ?_ s2 Tryz.call56
   refine pkd ?_;refine kD zj<|rn<|.ret ?_
   exact ⟨by rw [show decide (b=b∧n=m∧d=e)=decide (d=e) from decide_eq_decide.2 ⟨fun h=>h.2.2,fun h=>⟨rfl,hm,h⟩⟩];rfl,rfl⟩
  rw [dF hm]
  refine pkd ?_;refine kA zj<|gf4 ?_;refine kG<|pkd ?_;refine kD zj<|rn<|.ret ?_
  exact ⟨by rw [dF (fun h=>hm h.2.1)];rfl,rfl⟩
 rw [beq_false_of_ne hb]
 refine kA zj<|gf4 ?_;refine kG<|pkd ?_;refine kA zj<|gf4 ?_;refine kG<|pkd ?_;refine kD zj<|rn<|.ret ?_
 exact ⟨by rw [dF (fun h=>hb h.1)];rfl,rfl⟩
abbrev QE:=Except Int (Bool×Nat×Nat)
def RF (b:Bool) (n d:Nat) : QE :=
 if Nat.gcd n d=0 then .error 22
 else if 32<(Af (n / Nat.gcd n d)).length∨32<(Af (d / Nat.gcd n d)).length then .error 8
 else .ok (b&&decide (n / Nat.gcd n d≠0),n / Nat.gcd n d,d / Nat.gcd n d)
abbrev Qv (q:Bool×Nat×Nat) : DV:=Rv q.1 (Af q.2.1) (Af q.2.2)
def qb : QE→Bool
 | .error _=>false
 | .ok q=>q.1
def qn : QE→List Nat
 | .error _=>[]
 | .ok q=>Af q.2.1
def qd : QE→List Nat
 | .error _=>[]
 | .ok q=>Af q.2.2
abbrev qv (x:QE) : DV:=Rv (qb x) (qn x) (qd x)
def qe : QE→Int
 | .error e=>e
 | .ok _=>0
abbrev Rr (x:QE) : List DV:=[qv x,.i .i64 (qe x)]
theorem QA (b:Bool) (n d:Nat) : Xa b n d=Rr (RF b n d):=by
 unfold Xa RF;split
 ·rfl
 ·split<;>rfl
def Qi (x y:Bool×Nat×Nat) : Bool×Nat×Nat :=
 if x.1=y.1 then (x.1,x.2.1 * y.2.2+y.2.1 * x.2.2,x.2.2 * y.2.2)
 else if y.2.1 * x.2.2≤x.2.1 * y.2.2 then (x.1,x.2.1 * y.2.2-y.2.1 * x.2.2,x.2.2 * y.2.2)
 else (y.1,y.2.1 * x.2.2-x.2.1 * y.2.2,x.2.2 * y.2.2)
def RW (x y:Bool×Nat×Nat) : Bool×Nat×Nat:=(x.1 != y.1,x.2.1 * y.2.1,x.2.2 * y.2.2)
theorem Y2 {z:Int} (h0:0≤z) (h1:z≤9223372036854775807) : IntKind.u64.wrap z=((z.natAbs:Nat) : Int):=by
 simp only [IntKind.wrap,IntKind.bits,IntKind.signed];simp;omega
theorem Xr {z:Int} (h0:z<0) (h1:-9223372036854775808≤z) : IntKind.u64.wrap (0-IntKind.u64.wrap z)=((z.natAbs:Nat) : Int):=by
 simp only [IntKind.wrap,IntKind.bits,IntKind.signed];simp;omega
theorem QZ {z:Int} (h1:-9223372036854775808≤z) (h2:z≤9223372036854775807) : Fn Tryz.prog 69 [.i .i64 z] (.d (Rv (decide (z<0)) (Af z.natAbs) [1])):=by
 have f:=YH (n:=z.natAbs) (by omega)
 refine Fn.ofC (rs:=[.cell 2 33]) (nt:=16) Tryz.func69 rfl rfl rfl (by simp) rfl ?_;refine .sr<|kK (van (Ae iR) rR)<|rn<|.seq<|.sr<|kA zj<|kB zj<|rn ?_
 by_cases hz:z<0
 ·rw [dT hz]
  refine BN ?_;refine .sr<|kA zj ?_
  refine cv ?_ i64 u64
  refine ng ?_
  rw [Xr hz h1]
  refine cl (xs:=[.i .u64 ((z.natAbs:Nat):Int)]) ?_ f Tryz.call115
  refine cl (xs:=[]) ?_ Nl Tryz.call116
  refine fz (p:=.t 9) ?_;refine kK (vbd pR iR rR) ?_
  refine stn ?_ sR (by decide)
  refine rn<|.ret ?_
  exact ⟨_,⟨.inr rfl,aR,sR,p3⟩,rfl⟩
 rw [dF hz]
 refine BD ?_;refine .skip<|aw<|.sr<|kA zj ?_
 refine cv ?_ i64 u64
 rw [Y2 (by omega) h2]
 refine cl (xs:=[.i .u64 ((z.natAbs:Nat):Int)]) ?_ f Tryz.call115
 refine cl (xs:=[]) ?_ Nl Tryz.call116
 refine fz (p:=.t 14) ?_;refine kK (vbd pR iR rR) ?_
 refine stn ?_ sR (by decide)
 refine rn<|.ret ?_
 exact ⟨_,⟨.inr rfl,aR,sR,p3⟩,rfl⟩
theorem zB : Av Tryz.prog 4=1:=by kernel_rfl
theorem X8 (b:Bool) (n d:List Nat) : Fn Tryz.prog 198 [Nv b n d] (.d (Nv (!b) n d)):=by
 refine Fn.ofC (rs:=[.cell 2 179]) (nt:=8) Tryz.func198 rfl rfl rfl (by simp) rfl ?_;refine .sr<|kK vbn<|RL.gh2 (Gh.nbb (t:=1) rfl) ?_;refine kK (van (Ae iN) rN)<|rn<|.sr<|kK (Gw fN1) ?_
 refine ldb (cs:=[.d (.sl (L n)),.d (.sl (L d)),.d (.b b)]) (c:=.d (.b b)) rfl rfl ?_ aB
 refine nt_ ?_;refine kK (Gw fN1) ?_
 refine stb (cs:=[.d (.sl (L n)),.d (.sl (L d)),.d (.b b)]) (c:=.d (.b b)) rfl rfl ?_ zB
 refine rn<|.sr<|kK (Kn (cs:=[.d (.sl (L n)),.d (.sl (L d)),.d (.b (!b))]) (ds:=[.sl (L n),.sl (L d),.b (!b)]) rfl aN sN) ?_
 refine stn ?_ sN (by decide)
 refine rn<|.ret ?_
 exact ⟨_,⟨.inr rfl,aN,sN,p3⟩,rfl⟩
theorem XV {b c:Bool} {n d m e:List Nat} (hn:Ok n) (hd:Ok d) (hm:Ok m) (he:Ok e) (hln:n.length≤4000) (hld:d.length≤4000) (hlm:m.length≤4000) (hle:e.length≤4000) :
  Fn Tryz.prog 152 [Nv b n d,Nv c m e] (.d (Nv (Qi (b,val n,val d) (c,val m,val e)).1 (Af (Qi (b,val n,val d) (c,val m,val e)).2.1) (Af (Qi (b,val n,val d) (c,val m,val e)).2.2))):=by
 have c1:=MB (n:=n) (d:=d) (m:=m) (e:=e) hn he hln hle
 have c2:=MB (n:=m) (d:=e) (m:=n) (e:=d) hm hd hlm hld
 have p1:=Kf (M:=4000) (ls:=[d,e]) (by simp [hd,he]) (by simp [hld,hle]) (by simp) (by decide)
 rw [show ET [d,e] 1=val d * val e by show 1 * val d * val e=_;rw [Nat.one_mul]] at p1
 have bnd:∀ {x y:List Nat},Ok x→Ok y→x.length≤4000→y.length≤4000→(Af (val x * val y)).length≤8000:=fun hx hy lx ly=>by
  refine nT (Cv (k:=_+_) (by rw [Nat.pow_add];exact Nat.mul_lt_mul'' (Cn hx) (Cn hy))) (by omega)
 have b1:=bnd hn he hln hle
 have b2:=bnd hm hd hlm hld
 simp only [Qi]
 generalize val n * val e=x at *
 generalize val m * val d=y at *
 generalize val d * val e=q at *
 have s1:=Wh (M:=8000) (ls:=[Af x,Af y]) (by simp [Bf]) (by simp [b1,b2]) (by simp) (by decide)
 rw [show ([Af x,Af y].map val).sum=x+y by simp only [List.map_cons,List.map_nil,List.sum_cons,List.sum_nil,AK];omega] at s1
 have m1:=Rm (a:=Af x) (b:=Af y) (Bf _) (Bf _) (by omega) (by omega)
 have m2:=Rm (a:=Af y) (b:=Af x) (Bf _) (Bf _) (by omega) (by omega)
 rw [AK,AK] at m1 m2
 refine Fn.ofC (rs:=[.cell 4 179]) (nt:=69) Tryz.func152 rfl rfl rfl (by simp) rfl ?_;refine .sr<|kK vbx<|kK vbx<|kK (van (Ae iN) rN)<|rn<|.seq<|.drawn 10 AS (by kernel_rfl) ?_;refine kV (vfa fN0)<|kV (Ap aZ sZ)<|kV (vfa fN0)<|kV (Ap aZ sZ)<|kV (v:=.d (.sl (L (Af x)))) (vcl (xs:=[Zv n d,Zv m e]) (r:=.d (.sl (L (Af x)))) c1 Tryz.call191)<|kV (vfa fN0)<|kV (Ap aZ sZ)<|kV (vfa fN0)<|kV (Ap aZ sZ)<|kV (v:=.d (.sl (L (Af y)))) (vcl (xs:=[Zv m e,Zv n d]) (r:=.d (.sl (L (Af y)))) c2 Tryz.call191)<|dz ?_;refine kD zj<|kD zj<|rn<|.gh (Gh.keep [2,3,4,5,6] rfl)<|.sr<|kK (vfa fN0)<|kK (vfa fZ1) ?_
 refine ldp ?_ aS
 refine kK (vfa fN0)<|kK (vfa fZ1) ?_
 refine ldp ?_ aS
 refine bsl ?_ ?_ e2
 ·simp [DV.flat,DV.cells,DV.leaf]
 refine fz (p:=.t 28) ?_
 refine cl (xs:=[.sl (LL [d,e])]) ?_ p1 Tryz.call200
 refine kD zj<|rn<|.gh (Gh.keep [2,3,4,5,6,7] rfl)<|.seq<|.sr<|kK (vfa fN1) ?_
 refine ldp ?_ aB
 refine vk (vfa fN1) ?_
 refine ldp ?_ aB
 refine bbn ?_ (.inl rfl) bo
 rw [if_pos rfl]
 refine rn ?_
 by_cases hbc:b=c
 ·subst hbc
  rw [beq_self_eq_true,if_pos rfl]
  refine BN ?_;refine .seq<|.drawn 9 AS (by kernel_rfl) ?_;refine kV Ac<|kV Ac<|kV (v:=.d (.sl (LL [Af x,Af y]))) (GN (Mm [Af x,Af y]) e2).deep<|kV (v:=.d (.sl (L (Af (x+y))))) (vcl (xs:=[.sl (LL [Af x,Af y])]) (r:=.d (.sl (L (Af (x+y))))) s1 Tryz.call201)<|kV Ac<|kV (vbd pZ iZ rZ)<|kV (vfa fN1)<|kV (Al aB)<|kV (vbd pN iN rN)<|dz ?_
  refine stn ?_ sN (by decide)
  refine rn<|.ret ?_
  exact ⟨_,⟨.inr rfl,aN,sN,p3⟩,rfl⟩
 rw [beq_false_of_ne hbc,if_neg hbc]
 refine BD ?_;refine .skip<|aw<|.seq<|.sr<|kA zj<|kA zj ?_
 refine cl (xs:=[.sl (L (Af x)),.sl (L (Af y))]) ?_ m1 Tryz.call202
 refine mvt ?_;refine ex ?_;refine ex ?_;refine kD zj<|kD zj<|rn<|.gh (Gh.keep [2,3,4,5,6,7,8,9] rfl)<|.sr<|kA zj<|rn ?_
 by_cases hle2:y≤x
 ·rw [dT hle2,if_pos hle2]
  refine BN ?_;refine .sr<|kA zj<|kA zj<|kK (vbd pZ iZ rZ)<|kK (vfa fN1) ?_
  refine ldp ?_ aB
  refine vk (vbd pN iN rN) ?_
  refine stn ?_ sN (by decide)
  refine rn<|.ret ?_
  exact ⟨_,⟨.inr rfl,aN,sN,p3⟩,by rw [Tx hle2];rfl⟩
 rw [dF hle2,if_neg hle2]
 refine BD ?_;refine .skip<|aw<|.sr<|kA zj<|kA zj ?_
 refine cl (xs:=[.sl (L (Af y)),.sl (L (Af x))]) ?_ m2 Tryz.call202
 refine mvt ?_;refine ex ?_;refine ex ?_;refine kD zj<|kD zj<|rn<|.gh (Gh.keep [2,3,4,7,10] rfl)<|.sr<|kA zj<|kA zj<|kK (vbd pZ iZ rZ)<|kK (vfa fN1) ?_
 refine ldp ?_ aB
 refine vk (vbd pN iN rN) ?_
 refine stn ?_ sN (by decide)
 refine rn<|.ret ?_
 exact ⟨_,⟨.inr rfl,aN,sN,p3⟩,by rw [Tx (by omega)];rfl⟩
theorem Qx {b c:Bool} {n d m e:List Nat} (hn:Ok n) (hd:Ok d) (hm:Ok m) (he:Ok e) (hln:n.length≤4000) (hld:d.length≤4000) (hlm:m.length≤4000) (hle:e.length≤4000) :
  Fn Tryz.prog 151 [Nv b n d,Nv c m e] (.d (Nv (b != c) (Af (val n * val m)) (Af (val d * val e)))):=by
 have p1:=Kf (M:=4000) (ls:=[n,m]) (by simp [hn,hm]) (by simp [hln,hlm]) (by simp) (by decide)
 rw [show ET [n,m] 1=val n * val m by show 1 * val n * val m=_;rw [Nat.one_mul]] at p1
 have p2:=Kf (M:=4000) (ls:=[d,e]) (by simp [hd,he]) (by simp [hld,hle]) (by simp) (by decide)
 rw [show ET [d,e] 1=val d * val e by show 1 * val d * val e=_;rw [Nat.one_mul]] at p2
 refine Fn.ofC (rs:=[.cell 4 179]) (nt:=28) Tryz.func151 rfl rfl rfl (by simp) rfl ?_;refine .sr<|kK vbx<|kK vbx<|kK (van (Ae iN) rN)<|rn<|.seq<|.drawn 23 AS (by kernel_rfl) ?_;refine kV (vfa fN0)<|kV (vfa fZ0)<|kV (Al aS)<|kV (vfa fN0)<|kV (vfa fZ0)<|kV (Al aS)<|kV (v:=.d (.sl (LL [n,m]))) (GN (Mm [n,m]) e2).deep<|kV (v:=.d (.sl (L (Af (val n * val m))))) (vcl (xs:=[.sl (LL [n,m])]) (r:=.d (.sl (L (Af (val n * val m))))) p1 Tryz.call200)<|kV (vfa fN0)<|kV (vfa fZ1)<|kV (Al aS)<|kV (vfa fN0)<|kV (vfa fZ1)<|kV (Al aS)<|kV (v:=.d (.sl (LL [d,e]))) (GN (Mm [d,e]) e2).deep<|kV (v:=.d (.sl (L (Af (val d * val e))))) (vcl (xs:=[.sl (LL [d,e])]) (r:=.d (.sl (L (Af (val d * val e))))) p2 Tryz.call200)<|kV (vbd pZ iZ rZ)<|kV (vfa fN1)<|kV (Al aB)<|kV (vfa fN1)<|kV (Al aB)<|kV (ZU (.inr rfl) bo)<|kV (vbd pN iN rN)<|dz ?_
 refine stn ?_ sN (by decide)
 refine rn<|.ret ?_
 exact ⟨_,⟨.inr rfl,aN,sN,p3⟩,rfl⟩
abbrev Q3:=Bool×Nat×Nat
abbrev UX (q:Q3) : QE:=RF q.1 q.2.1 q.2.2
abbrev rq (r:RT) : Q3:=(r.1,val r.2.1,val r.2.2)
def Oj (op:Q3→Q3→Q3) : Q3→List RT→QE
 | s,[]=>.ok s
 | s,r::rs=>match UX (op s (rq r)) with
  | .error e=>.error e
  | .ok t=>Oj op t rs
def R5 (q:Q3) : Prop:=(Af q.2.1).length≤32∧(Af q.2.2).length≤32
theorem Xx {b:Bool} {n d:Nat} {t:Q3} (h:RF b n d=.ok t) : R5 t:=by
 unfold RF at h
 split at h
 ·cases h
 ·split at h
  ·cases h
  ·rename_i h2
   cases h
   exact ⟨Nat.le_of_not_lt fun h3=>h2 (.inl h3),Nat.le_of_not_lt fun h3=>h2 (.inr h3)⟩
theorem WB {b:Bool} {n d:Nat} {e:Int} (h:RF b n d=.error e) : e≠0:=by
 unfold RF at h
 split at h
 ·cases h;decide
 ·split at h
  ·cases h;decide
  ·cases h
theorem Za {x:QE} (h:¬qe x=0) : ∃ e,x=.error e:=by
 cases x with
 | error e=>exact ⟨e,rfl⟩
 | ok t=>exact absurd rfl h
theorem Aaf {x:QE} (h:qe x=0) (h2:∀ e,x=.error e→e≠0) : ∃ t,x=.ok t:=by
 cases x with
 | error e=>exact absurd h (h2 e rfl)
 | ok t=>exact ⟨t,rfl⟩
theorem R1 {r:RT} (h:BM r=true) : r.2.1.length≤32∧r.2.2.length≤32:=by
 have:MG r.1 r.2.1 r.2.2:=of_decide_eq_true h
 exact ⟨this.2.2.1,this.2.2.2.1⟩
def YE (f:Nat) (op:Q3→Q3→Q3) : Prop :=
 ∀ (b c:Bool) (n d m e:List Nat),Ok n→Ok d→Ok m→Ok e→n.length≤32→d.length≤32→m.length≤32→e.length≤32 →
  Fn Tryz.prog f [Nv b n d,Nv c m e] (.d (Nv (op (b,val n,val d) (c,val m,val e)).1 (Af (op (b,val n,val d) (c,val m,val e)).2.1) (Af (op (b,val n,val d) (c,val m,val e)).2.2)))
  ∧ (Af (op (b,val n,val d) (c,val m,val e)).2.1).length≤100∧(Af (op (b,val n,val d) (c,val m,val e)).2.2).length≤100
theorem W8 {z:Int} {rs:List RT} {f:Nat} {op:Q3→Q3→Q3} (hz0:0≤z) (hz1:z≤1) (h:∀ r∈rs,okR r) (hl:rs.length≤1048576) (hop:YE f op) (hcall:∀ args w,(callFunc f args).run Tryz.prog w=.ok (.enter f args) w) :
  Fn Tryz.prog 150 [.i .i64 z,.sl (RVs rs),.fn f [] []] (.tup ((Rr (if rs.all BM=true then Oj op (false,z.natAbs,1) rs else .error 22)).map .d)):=by
 have f1:=Qq h hl
 have f2:=QZ (z:=z) (by omega) (by omega)
 rw [dF (show ¬z<0 by omega)] at f2
 have one:Af 1=[1]:=Kz (n:=1) (by decide) (by decide)
 refine Fn.ofC (rs:=[.cell 6 33,.tmp 7]) (nt:=42) Tryz.func150 rfl rfl rfl (by simp) (Sr _) ?_;refine .sr<|kK (van (Ae iR) rR)<|kD zj<|rn<|.seq<|.sr<|kA zj ?_
 refine cl (xs:=[.sl (RVs rs)]) ?_ f1 Tryz.call188
 refine nt_ ?_;refine rn<|.gh (Gh.keep [0,1,2,6,7,15] rfl) ?_
 by_cases hr:rs.all BM=false
 ·rw [hr,if_neg (by decide)]
  refine BN ?_;refine .sr<|kK (vbd pR iR rR) ?_
  refine stn ?_ sR (by decide)
  refine kD zj<|rn<|.ret ?_
  exact ⟨_,_,⟨.inr rfl,aR,sR,p3⟩,rfl,rfl⟩
 rw [Bool.not_eq_false] at hr
 rw [hr,if_pos rfl]
 refine BD ?_;refine .skip<|aw<|.sr<|kA zj ?_
 refine cl (xs:=[.i .i64 z]) ?_ f2 Tryz.call69
 refine vk (van (Ae iR) rR) ?_
 refine stn ?_ sR (by decide)
 refine rn<|.gh (Gh.keep [1,2,6,8] rfl)<|.seq<|.sr<|kA zj ?_
 refine ln ?_ (Nu _) lR
 refine kA zj<|rn<|.block ?_
 refine .loop (.gh (Gh.keep [2,6,8,19,20,21] rfl) ?_)
 refine AL.cast (env':=[(2,.d (.fn f [] [])),(6,.nb [.b false,.sl [],.sl []]),(8,.nb [.b false,.sl (L (Af z.natAbs)),.sl (L (Af 1))]),(19,.d (.sl (RVs rs))),(20,.d (.i .i64 ((RVs rs).length:Nat))),(21,.d (.i .i64 ((0:Nat):Int)))]) (by rw [one];rfl) ?_
 refine AL.ind (σ:=Q3×Nat) (m:=fun p=>rs.length-p.2) (e:=fun p=>[(2,.d (.fn f [] [])),(6,.nb [.b false,.sl [],.sl []]),(8,.nb [.b p.1.1,.sl (L (Af p.1.2.1)),.sl (L (Af p.1.2.2))]),(19,.d (.sl (RVs rs))),(20,.d (.i .i64 ((RVs rs).length:Nat))),(21,.d (.i .i64 (p.2:Int)))]) (h:=fun _=>[])
  (I:=fun p=>p.2≤rs.length∧R5 p.1∧Oj op p.1 (rs.drop p.2)=Oj op (false,z.natAbs,1) rs) ?_ ((false,z.natAbs,1),0) ⟨Nat.zero_le _,⟨by have:=Cv (n:=z.natAbs) (k:=32) (nL (show z.natAbs<2 by omega) (by decide));exact this,by rw [one];decide⟩,rfl⟩
 rintro ⟨s,i⟩ ⟨h1,h2,h3⟩ ih
 dsimp only at h1 h2 h3 ih ⊢
 refine .sr<|kB zj<|rn<|.seq ?_
 by_cases hi:i<rs.length
 ·rw [dT (show (i:Int)<((RVs rs).length:Nat) by rw [DH];omega)]
  have hx:rs[i]?=some rs[i]:=lG hi
  have hdr:rs.drop i=rs[i]::rs.drop (i+1):=lC hi
  generalize rs[i]=r at hx hdr
  have hmem:=List.mem_of_getElem? hx
  obtain ⟨o1,o2,o3,o4⟩:=h r hmem
  obtain ⟨l1,l2⟩:=R1 (List.all_eq_true.1 hr r hmem)
  obtain ⟨w1,w3,w4⟩:=hop s.1 r.1 (Af s.2.1) (Af s.2.2) r.2.1 r.2.2 (Bf _) (Bf _) o1 o2 h2.1 h2.2 l1 l2
  rw [hdr] at h3
  rw [AK,AK] at w1 w3 w4
  rw [Oj] at h3
  have hop2:op (s.1,s.2.1,s.2.2) (r.1,val r.2.1,val r.2.2)=op s (rq r):=rfl
  rw [hop2] at w1 w3 w4
  generalize op s (rq r)=t at *
  have w2:=OQ (M:=100) (b:=t.1) (Bf t.2.1) (Bf t.2.2) w3 w4 (by decide)
  rw [AK,AK,QA] at w2
  have hxs:∀ q,UX t=.ok q→R5 q:=fun q hq=>Xx hq
  have hxe:∀ e,UX t=.error e→e≠0:=fun e he=>WB he
  replace w2:Fn Tryz.prog 199 [Nv t.1 (Af t.2.1) (Af t.2.2)] (.tup ((Rr (UX t)).map .d)):=w2
  generalize UX t=x at *
  refine BN ?_;refine .skip<|aw<|.seq<|.block<|.sr ?_
  refine ix i ?_ rfl (OW hx) rfl slR
  refine kK (Ap aR sR)<|kK (van (Ae iR) rR) ?_
  refine stn ?_ sR (by decide)
  refine RL.gh (Gh.nbp (t:=10) rfl)<|rn<|.gh (Gh.keep [2,6,8,10,19,20,21] rfl)<|.seq<|.drawnF 11 [9] [(11,.nb [.b (qb x),.sl (L (qn x)),.sl (L (qd x))])] [] AS (by kernel_rfl) rfl ?_;refine kV Ac<|kV (Dv aR sR)<|kV (v:=.d (Nv s.1 (Af s.2.1) (Af s.2.2))) (vcl (xs:=[Qv s]) (r:=.d (Nv s.1 (Af s.2.1) (Af s.2.2))) (Vo s.1 (Af s.2.1) (Af s.2.2)) Tryz.call190)<|kV (Ap aR sR)<|kV (v:=.d (Nv r.1 r.2.1 r.2.2)) (vcl (xs:=[Rv r.1 r.2.1 r.2.2]) (r:=.d (Nv r.1 r.2.1 r.2.2)) (Vo r.1 r.2.1 r.2.2) Tryz.call190)<|kV (v:=.d (Nv t.1 (Af t.2.1) (Af t.2.2))) (vcl (xs:=[Nv s.1 (Af s.2.1) (Af s.2.2),Nv r.1 r.2.1 r.2.2]) (r:=.d (Nv t.1 (Af t.2.1) (Af t.2.2))) w1 hcall)<|kV (v:=.d (.tup (Rr x))) (VOK.tupd (vcl (xs:=[Nv t.1 (Af t.2.1) (Af t.2.2)]) w2 Tryz.call199))<|kV Ac<|kV vex<|kV vex<|kV (van (Ae iR) rR)<|dz ?_
  refine ⟨?_,?_,?_⟩
  ·intro k hk
   simp only [List.mem_cons,List.not_mem_nil,or_false] at hk
   subst hk
   exact ⟨_,_,_,rfl,rfl,rfl,rfl,rfl,rfl,vex⟩
  ·intro om e hom hge
   cases hom
   exact HE (cs:=[.b false,.sl [],.sl []]) (cs':=[.b (qb x),.sl (L (qn x)),.sl (L (qd x))]) sR (by decide) rfl ((hge 11 (fun k hk v hv=>by
     simp only [List.mem_cons,List.not_mem_nil,or_false] at hk
     subst hk;exact (by decide:¬(some 34=some 11)) (congrArg (Option.map Prod.fst) hv))).trans rfl) ((congrArg A0 (hge 33 (fun k hk v hv=>by
     simp only [List.mem_cons,List.not_mem_nil,or_false] at hk
     subst hk;exact (by decide:¬(some 34=some 33)) (congrArg (Option.map Prod.fst) hv)))).trans rfl) rfl rfl rfl rfl ⟨rfl,rfl⟩
  refine RL.gh (Gh.nbp (t:=11) rfl)<|kD zj<|rn<|.gh (Gh.keep [2,6,8,11,12,19,20,21] rfl)<|.seq<|.sr<|kA zj<|kB zj<|rn ?_
  by_cases hxq:¬qe x=0
  ·rw [dF hxq]
   obtain ⟨e,rfl⟩:=Za hxq
   refine BN ?_;refine .sr<|kK (vbd pR iR rR)<|kA zj ?_
   refine stn ?_ sR (by decide)
   refine kD zj<|rn<|.ret ?_
   exact ⟨_,_,⟨.inr rfl,aR,sR,p3⟩,rfl,by rw [← h3];rfl⟩
  rw [Decidable.not_not] at hxq
  rw [dT hxq]
  obtain ⟨q,rfl⟩:=Aaf hxq hxe
  refine BD ?_;refine .skip<|aw<|.region<|kK (Ap aR sR) ?_
  refine stn ?_ sR (by decide)
  refine .nil ?_;refine aw<|.region<|ad ((i+1:Nat):Int) ?_ ?_
  ·omega
  refine kA zj<|.nil ?_;refine AL.gh (Gh.keep [2,6,8,19,20,21] rfl) ?_
  exact ih (q,i+1) ⟨by dsimp only;omega,hxs q rfl,h3⟩ (by dsimp only;omega)
 rw [dF (show ¬(i:Int)<((RVs rs).length:Nat) by rw [DH];omega)]
 refine BD ?_;refine .exit ?_;refine aw<|.sr<|kK (Dv aR sR) ?_
 refine stn ?_ sR (by decide)
 refine kD zj<|rn<|.ret ?_
 rw [List.drop_eq_nil_of_le (by omega)] at h3
 exact ⟨_,_,⟨.inr rfl,aR,sR,p3⟩,rfl,by rw [← h3];rfl⟩
theorem SY {x y:List Nat} {k:Nat} (hx:Ok x) (hy:Ok y) (lx:x.length≤k) (ly:y.length≤k) : (Af (val x * val y)).length≤2 * k :=
 nT (Cv (k:=_+_) (by rw [Nat.pow_add];exact Nat.mul_lt_mul'' (Cn hx) (Cn hy))) (by omega)
theorem Ui : YE 151 RW:=by
 intro b c n d m e hn hd hm he ln ld lm le
 have l1:=SY hn hm ln lm
 have l2:=SY hd he ld le
 exact ⟨Qx hn hd hm he (by omega) (by omega) (by omega) (by omega),by show (Af (val n * val m)).length≤100;omega,by show (Af (val d * val e)).length≤100;omega⟩
def X1 (rs:List RT) : QE:=if rs.all BM=true then Oj RW (false,1,1) rs else .error 22
theorem Xi {rs:List RT} (h:∀ r∈rs,okR r) (hl:rs.length≤1048576) : Fn Tryz.prog 98 [.sl (RVs rs)] (.tup ((Rr (X1 rs)).map .d)):=by
 have f:=W8 (z:=1) (by decide) (by decide) h hl Ui Tryz.call151
 replace f:Fn Tryz.prog 150 [.i .i64 1,.sl (RVs rs),.fn 151 [] []] (.tup ((Rr (X1 rs)).map .d)):=f
 generalize X1 rs=x at *
 refine Fn.ofC (rs:=[.cell 2 33,.tmp 3]) (nt:=8) Tryz.func98 rfl rfl rfl (by simp) (Sr _) ?_;refine .sr<|kK (van (Ae iR) rR)<|kD zj<|rn<|.sr<|kA zj<|kK (av:=.d (.tup (Rr x))) (VOK.tupd (vcl (xs:=[.i .i64 1,.sl (RVs rs),.fn 151 [] []]) f Tryz.call150))<|kK vex<|kK vex ?_
 refine stn ?_ sR (by decide)
 refine kD zj<|rn<|.ret ?_
 exact ⟨_,_,⟨.inr rfl,aR,sR,p3⟩,rfl,rfl⟩
theorem Dd : BH Tryz.prog 4=some false:=by kernel_rfl
theorem Bh : BH Tryz.prog 3=some false:=by kernel_rfl
theorem GS : Av Tryz.prog 3=1:=by kernel_rfl
theorem V6 : (Tryz.prog.info? 3).bind (·.zero)=some (.int .i64 0):=by kernel_rfl
theorem XX (w:World) (I:Nat→Prop) (μ:List Nat) : ARepAll Tryz.prog w I μ [.d (.i .i64 0)] (Value.cells (.int .i64 0)).toList []:=ARepAll.cons (b1:=[]) (b2:=[]) (.d (.i _ _)) .nil
theorem CT : BH Tryz.prog 21=some false:=by kernel_rfl
theorem Rh : Tryz.prog.underlying 21=some (.int .i32):=by kernel_rfl
theorem WL : Tryz.prog.underlying 5=some (.int .u8):=by kernel_rfl
theorem DQ : BH Tryz.prog 26=some false:=by kernel_rfl
theorem Gm : Av Tryz.prog 26=1:=by kernel_rfl
theorem Rk : (Tryz.prog.info? 26).bind (·.zero)=some (.int .i64 0):=by kernel_rfl
theorem Ua (w:World) (I:Nat→Prop) (μ:List Nat) : ARepAll Tryz.prog w I μ [.d (.i .i64 0)] (Value.cells (.int .i64 0)).toList []:=ARepAll.cons (b1:=[]) (b2:=[]) (.d (.i _ _)) .nil
theorem Ab0 : Av Tryz.prog 33=3:=by kernel_rfl
theorem AU : BH Tryz.prog 33=some true:=by kernel_rfl
theorem AD : Av Tryz.prog 33=3:=by kernel_rfl
theorem Em : Br Tryz.prog 33 0=some (0,1):=by kernel_rfl
theorem D2 : Br Tryz.prog 33 1=some (1,1):=by kernel_rfl
theorem E3 : Br Tryz.prog 33 2=some (2,1):=by kernel_rfl
theorem KO : CR Tryz.prog 33=some [(0,1),(1,1),(2,1)]:=by kernel_rfl
theorem Fv : (Tryz.prog.info? 33).bind (·.zero)=some (.agg #[.bool false,.slice none 0 0,.slice none 0 0]):=by kernel_rfl
theorem Fq (w:World) (I:Nat→Prop) : RepAll w I [.b false,.sl [],.sl []] (Value.agg #[.bool false,.slice none 0 0,.slice none 0 0]).cells.toList:=.cons (.b _) (.cons (.sl0 _ _) (.cons (.sl0 _ _) (.nil)))
theorem Zr : CR Tryz.prog 177=some [(0,1),(1,1)]:=by kernel_rfl
theorem Z4 : (Tryz.prog.info? 177).bind (·.zero)=some (.agg #[.slice none 0 0,.slice none 0 0]):=by kernel_rfl
theorem YM (w:World) (I:Nat→Prop) : RepAll w I [.sl [],.sl []] (Value.agg #[.slice none 0 0,.slice none 0 0]).cells.toList:=.cons (.sl0 _ _) (.cons (.sl0 _ _) (.nil))
theorem Pm : R8 Tryz.prog 179 0=some true:=by kernel_rfl
theorem Py : Br Tryz.prog 179 0=some (0,2):=by kernel_rfl
theorem YP : CR Tryz.prog 179=some [(0,2),(2,1)]:=by kernel_rfl
theorem Zu : (Tryz.prog.info? 179).bind (·.zero)=some (.agg #[.slice none 0 0,.slice none 0 0,.bool false]):=by kernel_rfl
theorem Zb (w:World) (I:Nat→Prop) : RepAll w I [.sl [],.sl [],.b false] (Value.agg #[.slice none 0 0,.slice none 0 0,.bool false]).cells.toList:=.cons (.sl0 _ _) (.cons (.sl0 _ _) (.cons (.b _) (.nil)))
theorem EG : BH Tryz.prog 31=some false:=by kernel_rfl
theorem RC : Tryz.prog.underlying 31=some (.slice (Tryz.prog.elem 31)):=by kernel_rfl
theorem Aag : Cb Tryz.prog 220=some (31,1,24,.slice none 0 0):=by kernel_rfl
theorem PJ : BH Tryz.prog 112=some false:=by kernel_rfl
theorem Zs : Av Tryz.prog 112=1:=by kernel_rfl
theorem Zg : (Tryz.prog.info? 112).bind (·.zero)=some (.slice none 0 0):=by kernel_rfl
theorem Yb (w:World) (I:Nat→Prop) (μ:List Nat) : ARepAll Tryz.prog w I μ [.nl] (Value.cells (.slice none 0 0)).toList []:=ARepAll.cons (b1:=[]) (b2:=[]) (.nl) .nil
theorem VO : B3 Tryz.prog 112=some (33,3,56):=by kernel_rfl
theorem Ik : Cb Tryz.prog 112=some (33,3,56,.agg #[.bool false,.slice none 0 0,.slice none 0 0]):=by kernel_rfl
theorem SB : Tryz.prog.underlying 112=some (.slice (Tryz.prog.elem 112)):=by kernel_rfl
theorem Y3 : (2513169434916:Nat) * 56≤140737488355328∧(2513169434916:Nat)≤9223372036854775807:=by decide
theorem XT (xs:List RT) : ∀ x∈RVs xs,x.cells.length=3:=fun x hx=>by
 simp only [RVs,List.mem_map] at hx
 obtain ⟨n,_,rfl⟩:=hx;rfl
theorem Xb (xs ys:List RT) : RVs (xs++ys)=RVs xs++RVs ys:=by simp [RVs]
theorem Gr (xs:List RT) : ∀ d∈RVs xs,d.flat=true∧d.cells.length=3:=fun x hx=>by
 simp only [RVs,List.mem_map] at hx
 obtain ⟨n,_,rfl⟩:=hx
 exact ⟨by simp [DV.flat,DV.cells,DV.leaf],rfl⟩
end Go.FL
namespace Go.FL
open Go Go.RowKit
section
variable {P:Program} {C:Cx} {X:Snap} {o:Oper} {ops:Array Oper} {Q:Exit→Env→Ab→Prop} {env env':Env} {H H':Ab} {a:Act} {w w':World} {I I':Nat→Prop} {μ μ':List Nat} {O O':Nat→Option Loc}
theorem Sim.grow2 {Kb:Nat→Prop} (hs:Sim P X env H a w I μ O) (hK:∀ b,Kb b→O b=none∧¬X.K b∧¬I b) (hsz:w.heap.size≤w'.heap.size) (hb:∀ b,b<w.heap.size→¬Kb b→w'.heap[b]?=w.heap[b]?)
  (hos:w'.os=w.os) (htp:w'.tape=w.tape) (hout:w'.output=w.output) (hI:∀ b,I b→I' b) (hI2:∀ b,I' b→b<w'.heap.size) (hI3:∀ b,b<w.heap.size→¬Kb b→I' b→I b):Sim P X env H a w' I' μ O:=by
 have hXK:∀ b,X.K b→w'.heap[b]?=w.heap[b]?:=fun b hk=>hb b (nL (hs.klt b hk) hs.size) fun h=>(hK b h).2.1 hk
 have hII:∀ b,I b→w'.heap[b]?=w.heap[b]?:=fun b hi=>hb b (hs.ilt b hi) fun h=>(hK b h).2.2 hi
 have hOO:∀ b l,O b=some l→w'.heap[b]?=w.heap[b]?:=fun b l h=>hb b (hs.own b l h).1 fun hk=>by rw [(hK b hk).1] at h;cases h
 have hobj:∀ (id:Nat) o,H[id]?=some o→∃ blk bs,μ[id]?=some blk∧ORep P w I μ o blk bs∧(X.n0≤id→(blk::bs).Nodup∧∀ b∈blk::bs,O b=some (.o id))∧(id<X.n0→∀ b∈blk::bs,X.K b)∧∀ b∈blk::bs,w'.heap[b]?=w.heap[b]?:=fun id o ho=>by
  obtain ⟨blk,bs,h1,h2,h3,h4⟩:=hs.heap id o ho
  refine ⟨blk,bs,h1,h2,h3,h4,fun b hm=>?_⟩
  rcases Nat.lt_or_ge id X.n0 with hlt|hge
  ·exact hXK b (h4 hlt b hm)
  ·exact hOO b _ ((h3 hge).2 b hm)
 refine ⟨{
  prot:=fun b hk=>(hXK b hk).trans (hs.prot b hk)
  kO:=hs.kO
  kI:=fun b hk hi=>hs.kI b hk (hI3 b (nL (hs.klt b hk) hs.size) (fun h=>(hK b h).2.1 hk) hi)
  mono:=fun b hi=>hI b (hs.mono b hi)
  os:=hos.trans hs.os,tape:=htp.trans hs.tape,output:=hout.trans hs.output,size:=nT hs.size hsz
  own:=fun b l h=>⟨nL (hs.own b l h).1 hsz,fun hi=>(hs.own b l h).2 (hI3 b (hs.own b l h).1 (fun hk=>by rw [(hK b hk).1] at h;cases h) hi)⟩
  ilt:=hI2,μlen:=hs.μlen,μpre:=hs.μpre,nle:=hs.nle
  heap:=fun id o ho=>by
   obtain ⟨blk,bs,h1,h2,h3,h4,h5⟩:=hobj id o ho
   refine ⟨blk,bs,h1,?_,h3,h4⟩
   cases o with
   | box cs =>
    obtain ⟨cells,e,k1,k2⟩:=h2
    exact ⟨cells,e,(h5 blk (by simp)).trans k1,k2.keep hI hII (fun _ _ h=>h) fun b hm=>h5 b (by simp [hm])⟩
   | mo _ _=>exact ⟨h2.1,h2.2.keep (h5 blk (by simp)) hII hI⟩
  klt:=hs.klt,n0le:=hs.n0le},fun t=>?_,hs.nt,hs.dfs⟩
 refine (hs.envr t).keepG hI hII (fun _ _ h=>h) (fun b hm=>⟨hOO b _ hm,hm⟩) fun p e xs hp=>⟨hp,fun v hv=>?_⟩
 cases p with
 | t r=>exact hv
 | c id off =>
  simp only [AR,Option.bind_eq_some_iff] at hv ⊢
  obtain ⟨b,hb1,hb2⟩:=hv
  refine ⟨b,hb1,?_⟩
  simp only [AB] at hp
  cases hH:H[id]? with
  | none=>rw [hH] at hp;cases hp
  | some ob =>
   obtain ⟨blk,bs,h1,_,_,_,h5⟩:=hobj id ob hH
   rw [hb1] at h1;cases h1
   rw [World.cell?_of_block (w:=w) (a:=⟨b,off,none⟩) (h5 b (by simp))]
   exact hb2
abbrev JT:=Nat→World→(Nat→Prop)→(Nat→Prop)→Prop
def JOK (J:JT) : Prop:=∀ {k:Nat} {W:World} {I K:Nat→Prop} {W':World} {I' K':Nat→Prop},J k W I K→W.heap.size≤W'.heap.size→(∀ b,b<W.heap.size→¬K b→W'.heap[b]?=W.heap[b]?) →
 W'.os=W.os→W'.tape=W.tape→W'.output=W.output→(∀ b,I b→I' b)→(∀ b,I' b→b<W'.heap.size)→(∀ b,b<W.heap.size→¬K b→I' b→I b)→(∀ b,K' b→b<W'.heap.size∧¬I' b)→(∀ b,K' b→b<W.heap.size→K b)→J k W' I' K'
def RQ (P:Program) (l:Nat) (J:JT) (k:Nat) (b:Bool) (ds:List DV) : Prop:=∀ (W:World) (I K:Nat→Prop) (vs:List Value),J k W I K→RepAll W I ds vs →
 YieldAt (om none) 0 P l vs.toArray W fun e W'=>e=.returned (.bool b)∧∃ I',J (k+1) W' I' K∧(∀ b,K b→W'.heap[b]?=W.heap[b]?∧¬I' b)∧(∀ b,I b→I' b∧W'.heap[b]?=W.heap[b]?)∧W.heap.size≤W'.heap.size∧∀ b,I' b→b<W'.heap.size
def ItG (P:Program) (f:FuncId) (caps:List DV) (ys:List (List DV)) (n:Nat) : Prop :=
 ∀ (l:Nat) (W:World) (I:Nat→Prop) (cv:List Value) (J:JT),JOK J→RepAll W I caps cv→(∀ b,I b→b<W.heap.size)→(∀ k ds,ys[k]?=some ds→k≤n→RQ P l J k (decide (k<n)) ds)→J 0 W I (fun _=>False) →
  CallsIn (om none) 0 P f (#[.func (.yield l) #[] #[]]++cv.toArray) W fun e W'=>(∃ v,e=.returned v)∧∃ I' K',J (min (n+1) ys.length) W' I' K'
def JX (J:JT) (k:Nat) (X:Snap) : Prop:=∃ K,J k X.w X.I K∧∀ b,b<X.w.heap.size→¬X.K b→K b
def XJ (J:JT) (nt:Nat×Nat) (ags:List Value) (k:Nat) (X:Snap) : Prop:=X.nt=nt∧X.n0=0∧X.ne=0∧X.dfs=[]∧X.args=ags∧JX J k X
def U4 (P:Program) (nt:Nat×Nat) (J:JT) (ags:List Value) (Q:Exit→Env→Ab→Nat→Prop) : Exit→Act→World→Prop:=fun e a w =>
 ∃ X env H I μ O k,XJ J nt ags k X∧Sim P X env H a w I μ O∧Q e env H k
def AWJ (P:Program) (nt:Nat×Nat) (J:JT) (ags:List Value) (c:Code) (Q:Exit→Env→Ab→Nat→Prop) (env:Env) (H:Ab) (k:Nat) : Prop :=
 ∀ X a w I μ O,XJ J nt ags k X→Sim P X env H a w I μ O→c.wpIn (om none) 0 P (U4 P nt J ags Q) a w
def ALJ (P:Program) (nt:Nat×Nat) (J:JT) (ags:List Value) (c:Code) (Q:Exit→Env→Ab→Nat→Prop) (env:Env) (H:Ab) (k:Nat) : Prop :=
 ∀ X a w I μ O,XJ J nt ags k X→Sim P X env H a w I μ O→LB (om none) 0 P c (U4 P nt J ags Q) a w
def RLJ (P:Program) (nt:Nat×Nat) (J:JT) (ags:List Value) (ops:Array Oper) (Q:Exit→Env→Ab→Nat→Prop) (n:Nat) (l:List Oper) (env:Env) (H:Ab) (k:Nat) : Prop :=
 ops.toList.drop n=l→∀ X a w I μ O,XJ J nt ags k X→Sim P X env H a w I μ O→wpOpsIn (om none) 0 P ops (U4 P nt J ags Q) (List.range' n l.length) a w
def Wt (K:Env→Ab→Nat→Prop) (Q:Exit→Env→Ab→Nat→Prop) : Exit→Env→Ab→Nat→Prop
 | .normal,env,H,k=>K env H k
 | e,env,H,k=>Q e env H k
def VP (id:Nat) (Q:Exit→Env→Ab→Nat→Prop) : Exit→Env→Ab→Nat→Prop
 | .exit id',env,H,k=>if id'=id then Q .normal env H k else Q (.exit id') env H k
 | e,env,H,k=>Q e env H k
variable {nt:Nat×Nat} {J:JT} {ags:List Value} {QJ:Exit→Env→Ab→Nat→Prop} {k n:Nat} {l:List Oper}
theorem AWJ.lift {c:Code} (h:AW P {nt:=nt,n0:=0,ne:=0} c (fun e env H=>QJ e env H k) env H) : AWJ P nt J ags c QJ env H k:=fun X a w I μ O hx hs =>
 wpIn_mono (h X a w I μ O hx.1 hx.2.1 hx.2.2.1 hs) fun _ _ _ ⟨env,H,I,μ,O,s,q⟩=>⟨X,env,H,I,μ,O,k,hx,s,q⟩
theorem AWJ.skip (h:QJ .normal env H k) : AWJ P nt J ags .skip QJ env H k:=.lift (.skip h)
theorem AWJ.exit {id:Nat} (h:QJ (.exit id) env H k) : AWJ P nt J ags (.exit id) QJ env H k:=.lift (.exit h)
theorem AWJ.ret (h:QJ .ret env H k) : AWJ P nt J ags .ret QJ env H k:=.lift (.ret h)
theorem AWJ.seq {x y:Code} (h:AWJ P nt J ags x (Wt (AWJ P nt J ags y QJ) QJ) env H k) : AWJ P nt J ags (.seq x y) QJ env H k:=fun X a w I μ O hx hs =>
 wpIn_seq (wpIn_mono (h X a w I μ O hx hs) fun e _ _ ⟨X',env',H',I',μ',O',k',hx',s,q⟩=>by
  cases e with
  | normal=>exact q X' _ _ I' μ' O' hx' s
  | _=>exact ⟨X',env',H',I',μ',O',k',hx',s,q⟩)
theorem AWJ.block {id:Nat} {c:Code} (h:AWJ P nt J ags c (VP id QJ) env H k) : AWJ P nt J ags (.block id c) QJ env H k:=fun X a w I μ O hx hs =>
 wpIn_block (wpIn_mono (h X a w I μ O hx hs) fun e _ _ ⟨X',env',H',I',μ',O',k',hx',s,q⟩=>by
  cases e with
  | exit id' =>
   simp only [Exit.inBlock]
   simp only [VP] at q
   split
   ·rename_i he;rw [if_pos he] at q;exact ⟨X',env',H',I',μ',O',k',hx',s,q⟩
   ·rename_i he;rw [if_neg he] at q;exact ⟨X',env',H',I',μ',O',k',hx',s,q⟩
  | _=>exact ⟨X',env',H',I',μ',O',k',hx',s,q⟩)
theorem AWJ.cond {t:Nat} {x:Bool} {c1 c2:Code} (hx:get env t=.d (.b x)) (h1:x=true→AWJ P nt J ags c1 QJ env H k) (h2:x=false→AWJ P nt J ags c2 QJ env H k) : AWJ P nt J ags (.cond (.tmp t) c1 c2) QJ env H k:=fun X a w I μ O g hs =>
 wpIn_cond_split (t:=x) (hs.bool hx) (fun e=>h1 e X a w I μ O g hs) (fun e=>h2 e X a w I μ O g hs)
theorem ALJ.loop {c:Code} (h:ALJ P nt J ags c QJ env H k) : AWJ P nt J ags (.loop c) QJ env H k:=fun X a w I μ O hx hs=>(h X a w I μ O hx hs).loop
theorem ALJ.round {c:Code} (h:AWJ P nt J ags c (Wt (ALJ P nt J ags c QJ) QJ) env H k) : ALJ P nt J ags c QJ env H k:=fun X a w I μ O hx hs =>
 .round (wpIn_mono (h X a w I μ O hx hs) fun e _ _ ⟨X',env',H',I',μ',O',k',hx',s,q⟩=>by
  cases e with
  | normal=>exact q X' _ _ I' μ' O' hx' s
  | _=>exact ⟨X',env',H',I',μ',O',k',hx',s,q⟩)
theorem ALJ.ind {c:Code} {σ:Type} (m:σ→Nat) (e:σ→Env) (h:σ→Ab) (r:σ→Nat) (I:σ→Prop)
  (step:∀ s,I s→(∀ s',I s'→m s'<m s→ALJ P nt J ags c QJ (e s') (h s') (r s'))→AWJ P nt J ags c (Wt (ALJ P nt J ags c QJ) QJ) (e s) (h s) (r s)):∀ s,I s→ALJ P nt J ags c QJ (e s) (h s) (r s):=by
 suffices H:∀ n s,m s=n→I s→ALJ P nt J ags c QJ (e s) (h s) (r s) from fun s hs=>H _ s rfl hs
 intro n
 induction n using Nat.strongRecOn with
 | ind n ih =>
  intro s hm hs
  exact .round (step s hs fun s' h1 h2=>ih (m s') (by omega) s' rfl h1)
theorem AWJ.gh {c:Code} (g:Gh P {nt:=nt,n0:=0,ne:=0} env H env' H') (h:AWJ P nt J ags c QJ env' H' k) : AWJ P nt J ags c QJ env H k:=fun X a w I μ O hx hs =>
 let ⟨I',O',hs'⟩:=g X a w I μ O hx.1 hx.2.1 hx.2.2.1 hs;h X a w I' μ O' hx hs'
theorem ALJ.gh {c:Code} (g:Gh P {nt:=nt,n0:=0,ne:=0} env H env' H') (h:ALJ P nt J ags c QJ env' H' k) : ALJ P nt J ags c QJ env H k:=fun X a w I μ O hx hs =>
 let ⟨I',O',hs'⟩:=g X a w I μ O hx.1 hx.2.1 hx.2.2.1 hs;h X a w I' μ O' hx hs'
theorem AWJ.region {id:Nat} {ops:Array Oper} (h:RLJ P nt J ags ops QJ 0 ops.toList env H k) : AWJ P nt J ags (.region id ops false) QJ env H k:=fun X a w I μ O hx hs=>by
 refine wpIn_region ?_
 rw [List.range_eq_range',← Array.length_toList]
 exact h rfl X a w I μ O hx hs
theorem RLJ.nil (h:QJ .normal env H k) : RLJ P nt J ags ops QJ n [] env H k:=fun _ X _ _ I μ O hx hs=>⟨X,env,H,I,μ,O,k,hx,hs,h⟩
theorem RLJ.cons (hg:o.guard=none) (h:OpOK P {nt:=nt,n0:=0,ne:=0} o env H fun e h=>RLJ P nt J ags ops QJ (n+1) l e h k) : RLJ P nt J ags ops QJ n (o::l) env H k:=by
 intro hl X a w I μ O hx hs
 obtain ⟨e1,e2⟩:=Ex hl
 rw [List.length_cons,List.range'_succ]
 have e1':ops[n]?=some o:=by simpa using e1
 simp only [wpOpsIn,e1',Region.wanted,hg,if_true]
 exact h X a w I μ O _ _ hx.1 hx.2.1 hx.2.2.1 hs fun env' H' a' w' I' μ' O' hs' hK=>hK e2 X a' w' I' μ' O' hx hs'
theorem vkJ {av:AV} {t:Nat} (hv:VOK P {nt:=nt,n0:=0,ne:=0} o env H av) (h:RLJ P nt J ags ops QJ (n+1) l ((t,av)::env) H k) (hg:o.guard=none:=by rfl) (hd:o.dst=some t:=by rfl) (hr:AI av=false:=by rfl)
  (hf:Aj (get env t)=false:=by rfl) (ht:okT nt t:=by rfl):RLJ P nt J ags ops QJ n (o::l) env H k:=by
 rw [← Ak hf] at h
 exact .cons hg (.vok hv hr hd ht h)
theorem Sim.yielded' (hs:Sim P X env H a w I μ O) (h0:X.n0=0) (hsz:w.heap.size≤w'.heap.size) (hO:∀ b,O b≠none→w'.heap[b]?=w.heap[b]?∧¬I' b) (hI:∀ b,I b→I' b∧w'.heap[b]?=w.heap[b]?) (hI2:∀ b,I' b→b<w'.heap.size) :
  Sim P {X with w:=w',I:=I',K:=fun b=>b<w'.heap.size∧O b=none,ne:=0,μ:=μ} env H a w' I' μ O:=by
 have hII:∀ b,I b→w'.heap[b]?=w.heap[b]?:=fun b hi=>(hI b hi).2
 have hOO:∀ b l,O b=some l→w'.heap[b]?=w.heap[b]?:=fun b l h=>(hO b (by rw [h];simp)).1
 refine ⟨{
  prot:=fun _ _=>rfl
  kO:=fun b hk=>hk.2
  kI:=fun _ _ h=>h
  mono:=fun _ h=>h
  os:=rfl,tape:=rfl,output:=rfl,size:=Nat.le_refl _
  own:=fun b l h=>⟨nL (hs.own b l h).1 hsz,(hO b (by rw [h];simp)).2⟩
  ilt:=hI2,μlen:=hs.μlen,μpre:=fun _ _ _ h=>h,nle:=Nat.zero_le _
  heap:=fun id o ho=>by
   obtain ⟨blk,bs,h1,h2,h3,_⟩:=hs.heap id o ho
   have h5:∀ b∈blk::bs,w'.heap[b]?=w.heap[b]?:=fun b hm=>hOO b _ ((h3 (by omega)).2 b hm)
   refine ⟨blk,bs,h1,?_,fun _=>h3 (by omega),fun h=>absurd h (by simp [h0])⟩
   cases o with
   | box cs =>
    obtain ⟨cells,e,k1,k2⟩:=h2
    exact ⟨cells,e,(h5 blk (by simp)).trans k1,k2.keep (fun b hi=>(hI b hi).1) hII (fun _ _ h=>h) fun b hm=>h5 b (by simp [hm])⟩
   | mo _ _=>exact ⟨h2.1,h2.2.keep (h5 blk (by simp)) hII fun b hi=>(hI b hi).1⟩
  klt:=fun b hk=>hk.1,n0le:=by simp [h0]},fun t=>?_,hs.nt,hs.dfs⟩
 refine (hs.envr t).keepG (fun b hi=>(hI b hi).1) hII (fun _ _ h=>h) (fun b hm=>⟨hOO b _ hm,hm⟩) fun p e xs hp=>⟨hp,fun v hv=>?_⟩
 cases p with
 | t r=>exact hv
 | c id off =>
  simp only [AR,Option.bind_eq_some_iff] at hv ⊢
  obtain ⟨b,hb1,hb2⟩:=hv
  refine ⟨b,hb1,?_⟩
  simp only [AB] at hp
  cases hH:H[id]? with
  | none=>rw [hH] at hp;cases hp
  | some ob =>
   obtain ⟨blk,bs,h1,_,h3,_⟩:=hs.heap id ob hH
   rw [hb1] at h1;cases h1
   rw [World.cell?_of_block (w:=w) (a:=⟨b,off,none⟩) (hOO b _ ((h3 (by omega)).2 b (by simp)))]
   exact hb2
theorem R4 {c:Call} {y lp:Nat} (ho:o.op=.call c) (hc:c.callee=.value (.tmp y)) (hy:a.eval (.tmp y)=.func (.yield lp) #[] #[]) :
  (execOp a.eval o).run P w=(Instr.yield lp (c.args.map a.eval)).run P w:=by
 simp [execOp,ho,resolve,hc,hy,Deferred.ofValue,invoke,callFunc]
theorem yld {c:Call} {y lp t:Nat} {ds:List DV} {b:Bool} (hr:RQ P lp J k b ds) (hJ:JOK J) (h:RLJ P nt J ags ops QJ (n+1) l ((t,.d (.b b))::env) H (k+1))
  (hg:o.guard=none:=by rfl) (ho:o.op=.call c:=by rfl) (hc:c.callee=.value (.tmp y):=by rfl) (hy:get env y=.d (.yl lp):=by rfl) (ha:argsD env c.args.toList=some ds:=by rfl) (hd:o.dst=some t:=by rfl)
  (hf:Aj (get env t)=false:=by rfl) (ht:okT nt t:=by rfl):RLJ P nt J ags ops QJ n (o::l) env H k:=by
 rw [← Ak hf] at h
 intro hl X a w I μ O hx hs
 obtain ⟨e1,e2⟩:=Ex hl
 rw [List.length_cons,List.range'_succ]
 have e1':ops[n]?=some o:=by simpa using e1
 simp only [wpOpsIn,e1',Region.wanted,hg,if_true]
 obtain ⟨x1,x2,x3,x4,x5,K,hK1,hK2⟩:=hx
 have hyv:a.eval (.tmp y)=.func (.yield lp) #[] #[]:=by
  have hyr:=hs.deep (x:=.tmp y) (v:=.yl lp) (by show A0 (get env y)=_;rw [hy];rfl)
  generalize a.eval (.tmp y)=u at hyr
  cases hyr;rfl
 have hJw:J k w I fun b=>O b≠none:=hJ hK1 hs.size (fun b hb hnk=>hs.prot b (Classical.byContradiction fun hx=>hnk (hK2 b hb hx))) hs.os hs.tape hs.output hs.mono hs.ilt
  (fun b hb hnk hi=>hs.kI b (Classical.byContradiction fun hx=>hnk (hK2 b hb hx)) hi) (fun b hb=>by
   cases hO:O b with
   | none=>exact absurd hO hb
   | some l=>exact hs.own b l hO) (fun b hb hlt=>hK2 b hlt fun hk=>hb (hs.kO b hk))
 obtain ⟨fn,tmps,assign,body,g1,g2⟩:=hr w I _ _ hJw (hs.argsD ha)
 refine ⟨fun _ _=>trivial,?_⟩
 rw [Oper.semAt_eq _ _ _ (by simp [ho]),R4 ho hc hyv]
 have e3:(c.args.toList.map a.eval).toArray=c.args.map a.eval:=by apply Array.ext';simp
 rw [e3] at g1
 rw [g1,Oper.uponIn_round]
 refine ⟨fun h=>(by simp [om] at h),g2.mono ?_⟩
 rintro e W' ⟨rfl,I',j1,j2,j3,j4,j5⟩
 have s1:=hs.yielded' x2 j4 (fun b hb=>j2 b hb) (fun b hb=>j3 b hb) j5
 have s2:=s1.put_hand (t:=t) (av:=.d (.b b)) (v:=.bool b) (by rw [x1];exact ht) (Hand.d (.b b))
 show wpOpsIn (om none) 0 P ops _ _ (a.put o.dst _) _
 rw [hd]
 exact h e2 {X with w:=W',I:=I',K:=fun b=>b<W'.heap.size∧O b=none,ne:=0,μ:=μ} _ _ _ _ _ ⟨x1,x2,rfl,x4,x5,fun b=>O b≠none,j1,fun b hb hnk hO=>hnk ⟨hb,hO⟩⟩ s2
theorem ItG.of {f:FuncId} {fn:Func} {c:Code} {caps:List DV} {ys:List (List DV)} {m nt:Nat} (hf:P.funcs[f]?=some fn) (hb:fn.body=some c) (hrs:fn.results=#[]) (hnt:fn.ntmps=nt) (hn:caps.length+1≤nt)
  (h:∀ lp J,JOK J→(∀ k ds,ys[k]?=some ds→k≤m→RQ P lp J k (decide (k<m)) ds) →
   AWJ P (0,nt) J [] c (fun e _ _ k=>(e=.normal∨e=.ret)∧k=min (m+1) ys.length) (CI 0 (.yl lp::caps)) [] 0):ItG P f caps ys m:=by
 intro lp W I cv J hJ hcv hI hR h0
 refine callsIn_of_wp hf hb trivial ?_
 have hlen:=hcv.length
 let vs:List Value:=.func (.yield lp) #[] #[]::cv
 have hargs:#[Value.func (.yield lp) #[] #[]]++cv.toArray=vs.toArray:=by apply Array.ext';simp [vs]
 rw [hargs]
 have hvr:RepAll W I (.yl lp::caps) vs:=.cons (.yl lp) hcv
 let X:Snap:={w:=W,I:=I,K:=fun b=>b<W.heap.size,n0:=0,ne:=0,μ:=[],nt:=(0,nt),dfs:=[],args:=[]}
 let a:Act:={tmps:=vs.toArray++Array.replicate (fn.ntmps-vs.toArray.size) undef,defers:=[]}
 have hat:∀ (j:Nat) (v:Value),vs[j]?=some v→a.tmps.getD j undef=v:=fun j v hj=>by
  have hjl:j<vs.length:=(lS.1 hj).1
  have e2:(vs.toArray++Array.replicate (fn.ntmps-vs.length) undef)[j]?=some v:=by
   rw [Array.getElem?_append_left (by simpa using hjl)];simpa using hj
  simp [a,e2]
 have hs:Sim P X (CI 0 (.yl lp::caps)) [] a W I [] (fun _=>none):=by
  refine ⟨{prot:=fun _ _=>rfl,kO:=fun _ _=>rfl,kI:=fun _ _ h=>h,mono:=fun _ h=>h,os:=rfl,tape:=rfl,output:=rfl,size:=Nat.le_refl _,own:=(fun b l h=>by simp at h),ilt:=hI,μlen:=rfl,μpre:=(fun i b hi _=>by simp [X] at hi),nle:=(by simp [X]),heap:=(fun id o h=>by simp at h),klt:=fun b hb=>hb,n0le:=(by simp [X])},fun t=>?_,?_,rfl,fun t ht=>absurd ht (by simp [X])⟩
  ·rcases DT (tmps:=a.tmps) (k:=0) hvr (fun j v hj=>by rw [Nat.zero_add];exact hat j v hj) t with h0|⟨d,h0,h1⟩
   ·rw [h0];exact .un
   ·rw [h0];exact .of (bs:=[]) (.d h1) nN (by simp)
  ·simp [a,X,hnt,vs];omega
 refine wpIn_mono (h lp J hJ hR X a W I [] _ ⟨rfl,rfl,rfl,rfl,rfl,fun _=>False,h0,fun b hb hk=>absurd hb hk⟩ hs) fun e a' w' ⟨X',env',H',I',μ',O',k',hx',s',he,hk⟩=>?_
 subst hk
 obtain ⟨x1,x2,x3,x4,x5,K,hK1,hK2⟩:=hx'
 have fin:a'.defers=[]∧∃ v,(results fn a'.tmps).run P w'=.ok v w'∧((∃ v',Ending.returned v=.returned v')∧∃ I' K',J (min (m+1) ys.length) w' I' K'):=by
  refine ⟨by rw [s'.dfs.1,x4],_,results_none hrs _ _ _,⟨_,rfl⟩,I',fun b=>O' b≠none,?_⟩
  exact hJ hK1 s'.size (fun b hb hnk=>s'.prot b (Classical.byContradiction fun hx=>hnk (hK2 b hb hx))) s'.os s'.tape s'.output s'.mono s'.ilt
   (fun b hb hnk hi=>s'.kI b (Classical.byContradiction fun hx=>hnk (hK2 b hb hx)) hi) (fun b hb=>by
    cases hO:O' b with
    | none=>exact absurd hO hb
    | some l=>exact s'.own b l hO) (fun b hb hlt=>hK2 b hlt fun hk=>hb (s'.kO b hk))
 cases e with
 | normal=>exact fin
 | ret=>exact fin
 | _=>rcases he with he|he<;>cases he
theorem Sim.overK (hs:Sim P X env H a w I μ O) (hn0:X.n0=0) (hc:Bm env=false) (ls:List Nat) (hl:∀ b∈ls,O b=some .r) (Kx:Nat→Prop) (hx:∀ b,Kx b→O b=none∧b<w.heap.size) :
  ∃ (Y:Snap) (O2:Nat→Option Loc),Y.w=w∧Y.I=I∧Y.n0=0∧Y.ne=H.length∧Y.μ=μ∧(∀ b∈ls,Y.K b)∧(∀ b,I b→Y.K b)∧(∀ b,Kx b→Y.K b)∧Mem P Y H w I μ O2 ∧
   ∀ {w':World} {I':Nat→Prop} {μ':List Nat} {O':Nat→Option Loc} {Hn:Ab},Mem P Y Hn w' I' μ' O'→∃ On,Sim P X env Hn a w' I' μ' On∧(∀ b∈ls,On b=some .r)∧∀ b,Kx b→On b=none:=by
 let Y:Snap:={X with w:=w,I:=I,n0:=0,ne:=H.length,μ:=μ,K:=fun b=>X.K b∨I b∨(∃ t,O b=some (.t t))∨b∈ls∨Kx b}
 let O2:Nat→Option Loc:=fun b=>match O b with
  | some (.o id)=>some (.o id)
  | _=>none
 have hO2o:∀ b id,O b=some (.o id)→O2 b=some (.o id):=fun b id h=>by simp only [O2,h]
 have hO2n:∀ b,(∀ id,O b≠some (.o id))→O2 b=none:=fun b h2=>by
  cases hx:O b with
  | none=>simp only [O2,hx]
  | some l=>cases l with
   | o id=>exact absurd hx (h2 id)
   | _=>simp only [O2,hx]
 have hO2:∀ b l,O2 b=some l→∃ l',O b=some l':=fun b l h=>by
  cases hx:O b with
  | some l'=>exact ⟨l',rfl⟩
  | none=>rw [hO2n b (by rw [hx];simp)] at h;cases h
 have hKO:∀ b,Y.K b→∀ id,O b≠some (.o id):=fun b hk=>by
  rcases hk with hk|hk|⟨t,hk⟩|hk
  ·exact fun id h=>(by rw [hs.kO b hk] at h;cases h)
  ·exact fun id h=>(hs.own b _ h).2 hk
  ·exact fun id h=>(by rw [hk] at h;simp at h)
  ·rcases hk with hk|hk
   ·exact fun id h=>(by rw [hl b hk] at h;simp at h)
   ·exact fun id h=>(by rw [(hx b hk).1] at h;cases h)
 have hmem:Mem P Y H w I μ O2:={
  prot:=fun _ _=>rfl
  kO:=fun b hk=>hO2n b (hKO b hk)
  kI:=fun _ _ h=>h
  mono:=fun _ h=>h
  os:=rfl,tape:=rfl,output:=rfl,size:=Nat.le_refl _
  own:=fun b l h=>by obtain ⟨l',h'⟩:=hO2 b l h;exact hs.own b l' h'
  ilt:=hs.ilt,μlen:=hs.μlen,μpre:=fun _ _ _ h=>h,nle:=Nat.le_refl _
  heap:=fun id o' ho'=>by
   obtain ⟨blk,ds,h1,h2,h3,_⟩:=hs.heap id o' ho'
   exact ⟨blk,ds,h1,h2,fun _=>⟨(h3 (by omega)).1,fun b hb'=>hO2o b id ((h3 (by omega)).2 b hb')⟩,fun h=>absurd h (by simp [Y])⟩
  klt:=fun b hk=>by
   rcases hk with hk|hk|⟨t,hk⟩|hk
   ·exact nL (hs.klt b hk) hs.size
   ·exact hs.ilt b hk
   ·exact (hs.own b _ hk).1
   ·rcases hk with hk|hk
    ·exact (hs.own b _ (hl b hk)).1
    ·exact (hx b hk).2
  n0le:=Nat.zero_le _}
 refine ⟨Y,O2,rfl,rfl,rfl,rfl,rfl,fun b hb=>.inr (.inr (.inr (.inl hb))),fun b hb=>.inr (.inl hb),fun b hb=>.inr (.inr (.inr (.inr hb))),hmem,?_⟩
 intro w' I' μ' O' Hn hm
 let On:Nat→Option Loc:=fun b=>if b∈ls then some .r else match O' b with
  | some (.o id)=>some (.o id)
  | _=>match O b with
   | some (.t t)=>some (.t t)
   | _=>none
 have hOl:∀ b,b∈ls→On b=some .r:=fun b hb=>by show (if b∈ls then _ else _)=_;rw [if_pos hb]
 have hOe:∀ b,b∉ls→On b=match O' b with
   | some (.o id)=>some (.o id)
   | _=>match O b with
    | some (.t t)=>some (.t t)
    | _=>none:=fun b hb=>by show (if b∈ls then _ else _)=_;rw [if_neg hb]
 have hOt:∀ b t,O b=some (.t t)→On b=some (.t t)∧w'.heap[b]?=w.heap[b]?:=fun b t h=>by
  have hk:Y.K b:=.inr (.inr (.inl ⟨t,h⟩))
  have h0:=hm.kO b hk
  refine ⟨?_,hm.prot b hk⟩
  rw [hOe b fun hb=>by rw [hl b hb] at h;simp at h]
  simp only [h0,h]
 have hOo:∀ b id,O' b=some (.o id)→On b=some (.o id):=fun b id h=>by
  rw [hOe b fun hb=>by have:=hm.kO b (.inr (.inr (.inr (.inl hb))));rw [h] at this;cases this]
  simp only [h]
 have hII:∀ b,I b→w'.heap[b]?=w.heap[b]?:=fun b hi=>hm.prot b (.inr (.inl hi))
 have hμ:∀ (i b:Nat),μ[i]?=some b→μ'[i]?=some b:=fun i b h=>hm.μpre i b (by have:=(lS.1 h).1;have:=hs.μlen;simp only [Y];omega) h
 refine ⟨On,⟨{
  prot:=fun b hk=>(hm.prot b (.inl hk)).trans (hs.prot b hk)
  kO:=fun b hk=>by
   have h0:=hm.kO b (.inl hk)
   rw [hOe b fun hb=>by have:=hl b hb;rw [hs.kO b hk] at this;cases this]
   simp only [h0,hs.kO b hk]
  kI:=fun b hk hi=>hs.kI b hk (hm.kI b (.inl hk) hi)
  mono:=fun b hi=>hm.mono b (hs.mono b hi)
  os:=hm.os.trans hs.os,tape:=hm.tape.trans hs.tape,output:=hm.output.trans hs.output,size:=nT hs.size hm.size
  own:=fun b l hl'=>by
   by_cases hbx:b∈ls
   ·exact ⟨nL (hs.own b _ (hl b hbx)).1 hm.size,fun hi=>(hs.own b _ (hl b hbx)).2 (hm.kI b (.inr (.inr (.inr (.inl hbx)))) hi)⟩
   ·rw [hOe b hbx] at hl'
    split at hl'
    ·rename_i id h;exact hm.own b _ h
    ·split at hl'
     ·rename_i t h
      refine ⟨nL (hs.own b _ h).1 hm.size,fun hi=>(hs.own b _ h).2 (hm.kI b (.inr (.inr (.inl ⟨t,h⟩))) hi)⟩
     ·cases hl'
  ilt:=hm.ilt,μlen:=hm.μlen
  μpre:=fun i b hi h=>hμ i b (hs.μpre i b hi h)
  nle:=nT hs.nle hm.nle
  heap:=fun id o' ho'=>by
   obtain ⟨blk,ds,h1,h2,h3,_⟩:=hm.heap id o' ho'
   exact ⟨blk,ds,h1,h2,fun _=>⟨(h3 (Nat.zero_le _)).1,fun b hb'=>hOo b id ((h3 (Nat.zero_le _)).2 b hb')⟩,fun h=>by omega⟩
  klt:=hs.klt,n0le:=hs.n0le},fun t=>?_,hs.nt,hs.dfs⟩,hOl,fun b hb=>?_⟩
 rotate_left
 ·rw [hOe b fun h=>by have:=(hx b hb).1;rw [hl b h] at this;cases this]
  simp only [hm.kO b (.inr (.inr (.inr (.inr hb)))),(hx b hb).1]
 have ht:=hs.envr t
 obtain ⟨c1,c2⟩:=Ho hc t
 cases hg:get env t with
 | ref p off len =>
  rw [hg] at ht
  obtain ⟨e,xs,A,n,c,g1,g2,g3⟩:=ht
  cases p with
  | t q=>exact ⟨e,xs,A,n,c,g1,g2,g3⟩
  | c id off'=>exact absurd hg (c1 _ _ _ _)
 | ep p i j =>
  rw [hg] at ht
  obtain ⟨e,xs,b,n,c,g1,g2,g3⟩:=ht
  cases p with
  | t q=>exact ⟨e,xs,b,n,c,g1,g2,g3⟩
  | c id off'=>exact absurd hg (c2 _ _ _ _)
 | _ =>
  rw [hg] at ht
  obtain ⟨ds,g1,g2,g3⟩:=ht.plain rfl
  exact .of (g1.keep hm.mono hII hμ fun b hb'=>(hOt b t (g3 b hb')).2) g2 fun b hb'=>(hOt b t (g3 b hb')).1
theorem Sim.plain0 {Y:Snap} (hs:Sim P X env H a w I μ O) (hm:Mem P Y H w I μ O') : Sim P {Y with nt:=(0,X.nt.2),dfs:=[],args:=[]} (Jx env) H {tmps:=a.tmps,defers:=[]} w I μ O':=by
 refine ⟨hm.cast rfl rfl rfl rfl rfl rfl,fun t=>?_,hs.nt,rfl,fun t ht=>absurd ht (by simp)⟩
 rw [JI]
 split
 ·rename_i hpl
  simp only [Bool.and_eq_true,Bool.not_eq_true'] at hpl
  obtain ⟨bs,g1,g2,g3⟩:=(hs.envr t).plain hpl.2
  have:=noOwn_bs g1 hpl.1
  subst this
  exact .of (bs:=[]) g1 nN (by simp)
 ·exact .un
theorem PS (env:Env) (t:Nat) : Aj (get (Jx env) t)=false:=by
 rw [JI]
 split
 ·rename_i h
  simp only [Bool.and_eq_true] at h
  cases hg:get env t<;>first|rfl|(rw [hg] at h;simp [noOwn] at h)
 ·rfl
def MO : List Nat→List DV→Env→Env
 | p::ps,d::ds,e=>MO ps ds ((p,.d d)::e)
 | _,_,e=>e
theorem Sim.roundL : ∀ {ps:List Nat} {ds:List DV} {vs:List Value} {env:Env} {a:Act} {O:Nat→Option Loc},Sim P X env H a w I μ O→(∀ t,Aj (get env t)=false)→RepAll w I ds vs→(∀ p∈ps,okT X.nt p)→ps.length=ds.length →
  ∃ O',Sim P X (MO ps ds env) H {a with tmps:=(ps.zip vs).foldl (fun (t:Array Value) x=>t.setIfInBounds x.1 x.2) a.tmps} w I μ O':=by
 intro ps
 induction ps with
 | nil=>intro ds vs env a O hs _ _ _ _;exact ⟨O,by simpa [MO] using hs⟩
 | cons p ps ih =>
  intro ds vs env a O hs h0 hr hp hl
  cases hr with
  | nil=>simp at hl
  | @cons d v ds vs h t =>
   have s1:=hs.put_hand (t:=p) (hp p (by simp)) (Hand.d (O:=O) (μ:=μ) (P:=P) h)
   rw [Ak (h0 p)] at s1
   obtain ⟨O',s2⟩:=ih (ds:=ds) (vs:=vs) s1 (fun t=>by
    simp only [get];split
    ·rfl
    ·exact h0 t) t (fun q hq=>hp q (by simp [hq])) (by simpa using hl)
   exact ⟨O',by simpa [MO,Act.put] using s2⟩
def VU : Exit→Option Code
 | .normal=>none
 | .ret=>some .ret
 | .exit id=>some (.exit id)
 | _=>none
theorem AWM.rangeFuncG {g:Nat} {ps:List Nat} {assign body:Code} {f:FuncId} {caps:List DV} {ys:List (List DV)} {m:Nat} {e1:Exit} (hro:C.ro=none) (hn0:C.n0=0) (hg:get env g=.d (.fn f [] caps)) (hcall:∀ args w,(callFunc f args).run P w=.ok (.enter f args) w)
  (hit:ItG P f caps ys m) (hys:∀ ds∈ys,ds.length=ps.length) (hps:∀ p∈ps,okT (0,C.nt.2) p) (hc:Bm env=false) (Hs:Nat→Ab→Prop) (h0:Hs 0 H) (he1:(∃ id,e1=.exit id)∨e1=.ret)
  (hround:∀ (l k:Nat) (ds:List DV) (H:Ab),ys[k]?=some ds→k≤m→Hs k H→AW P {nt:=(0,C.nt.2),n0:=0,ne:=H.length,ro:=some l} assign
   (FB (AW P {nt:=(0,C.nt.2),n0:=0,ne:=H.length,ro:=some l} body fun e _ H'=>e=(if k<m then .normal else e1)∧Hs (k+1) H') fun _ _ _=>False) (MO ps ds (Jx env)) H)
  (hdone:∀ H,Hs (min (m+1) ys.length) H→Q (if m<ys.length then e1 else .normal) env H):AWM P C (.rangeFunc (.tmp g) ps.toArray assign body) Q env H:=by
 intro X a w I μ O h1 h2 h3 hs
 have hX0:X.n0=0:=by omega
 refine wpIn_rangeFunc ?_
 intro fn _
 rw [hro]
 have hfr:=hs.deep (x:=.tmp g) (v:=.fn f [] caps) (by show A0 (get env g)=_;rw [hg];rfl)
 generalize hev:a.eval (.tmp g)=u at hfr
 cases hfr with
 | fn _ _ _ fs cv hfs hcv =>
 cases hfs
 obtain ⟨rec,hrec⟩:∃ rec:LoopState→Option Code→Loop,rec=fun st pe=>{state:=st,pending:=pe,fn,tmps:=a.tmps,params:=ps.toArray,assign,body,defers:=w.heap.size}:=⟨_,rfl⟩
 obtain ⟨W1,hW1⟩:∃ W1,(w.alloc (.deferred (some []))).alloc (.loop (rec .ready none))=W1:=⟨_,rfl⟩
 have hL1:W1.heap[w.heap.size+1]?=some (.loop (rec .ready none)):=by
  rw [← hW1];have:=World.alloc_heap_new (w.alloc (.deferred (some []))) (.loop (rec .ready none));rwa [World.size_alloc] at this
 have hK1:W1.heap[w.heap.size]?=some (.deferred (some [])):=by
  rw [← hW1];exact (Below.heap_alloc _ _ _ (by simp)).trans (World.alloc_heap_new w _)
 have hb1:Below w.heap.size w W1:=by
  rw [← hW1];exact (A7 _).trans ((A7 _).mono (by simp))
 have hsz1:W1.heap.size=w.heap.size+2:=by rw [← hW1];simp
 have hs1:=(hs.grow hb1).newR [w.heap.size,w.heap.size+1] fun b hb=>by
  have hge:w.heap.size≤b∧b<W1.heap.size:=by simp at hb;omega
  refine ⟨hge.2,.inl ?_,fun hi=>?_,fun hk=>?_⟩
  ·cases hO:O b with
   | none=>rfl
   | some l=>have:=(hs.own b l hO).1;omega
  ·have:=hs.ilt b hi;omega
  ·have:=hs.klt b hk;have:=hs.size;omega
 refine ⟨w.heap.size+1,[{target:=.collected w.heap.size,args:=#[]}],W1,{target:=.fn (.func f) cv.toArray,args:=#[.func (.yield (w.heap.size+1)) #[] #[]]},W1,f,
  #[.func (.yield (w.heap.size+1)) #[] #[]]++cv.toArray,W1,?_,?_,?_,?_,fun h=>(by simp [om] at h),?_⟩
 ·rw [← hW1,hrec];exact run_enterLoop_outer _ _ _ _ _
 ·simp only [resolve,hev]
  simp [go_sem]
 ·intro f' hf';exact trivial
 ·simp [invoke,go_sem,hcall]
 let stOf:Nat→Loop:=fun k=>if k≤m then rec .ready none else rec .done (VU e1)
 let J:JT:=fun k W I' K'=>∃ H' μ' O',Hs k H'∧Sim P X env H' a W I' μ' O'∧O' w.heap.size=some .r∧O' (w.heap.size+1)=some .r∧W.heap[w.heap.size+1]?=some (.loop (stOf k)) ∧
  W.heap[w.heap.size]?=some (.deferred (some []))∧(∀ b,K' b→O' b=none∧¬X.K b∧¬I' b∧b<W.heap.size)
 have hJ:JOK J:=by
  rintro k W I1 K1 W' I' K' ⟨H1,μ1,O1,q1,q2,q3,q4,q5,q6,q7⟩ g1 g2 g3 g4 g5 g6 g7 g8 g9 g10
  refine ⟨H1,μ1,O1,q1,q2.grow2 (Kb:=K1) (fun b hb=>⟨(q7 b hb).1,(q7 b hb).2.1,(q7 b hb).2.2.1⟩) g1 g2 g3 g4 g5 g6 g7 g8,q3,q4,?_,?_,fun b hb=>?_⟩
  ·rw [g2 _ (q2.own _ _ q4).1 fun hk=>by have:=(q7 _ hk).1;rw [q4] at this;cases this];exact q5
  ·rw [g2 _ (q2.own _ _ q3).1 fun hk=>by have:=(q7 _ hk).1;rw [q3] at this;cases this];exact q6
  ·by_cases hlt:b<W.heap.size
   ·have:=q7 b (g10 b hb hlt)
    exact ⟨this.1,this.2.1,(g9 b hb).2,(g9 b hb).1⟩
   ·refine ⟨?_,fun hk=>?_,(g9 b hb).2,(g9 b hb).1⟩
    ·cases hO:O1 b with
     | none=>rfl
     | some l=>exact absurd (q2.own b l hO).1 hlt
    ·have:=q2.klt b hk;have:=q2.size;omega
 have hcvW:RepAll W1 I caps cv:=hcv.keep (fun b hi=>hb1.block b (hs.ilt b hi)) fun _ h=>h
 refine (hit (w.heap.size+1) W1 I cv J hJ hcvW (fun b hi=>nL (hs.ilt b hi) hb1.size) ?_ ⟨H,μ,_,h0,hs1,by simp,by simp,by simp only [stOf];rw [if_pos (Nat.zero_le _)];exact hL1,hK1,fun b hb=>hb.elim⟩).mono ?_
 ·-- a round
  rintro k ds hk hkm W I1 K1 vs ⟨H1,μ1,O1,hH1,s1,oD,ol,hl0,hD,hKb⟩ hr
  have hl:W.heap[w.heap.size+1]?=some (.loop (rec .ready none)):=by
   have:=hl0;simp only [stOf] at this;rwa [if_pos hkm] at this
  have hlen:=hys ds (List.mem_of_getElem? hk)
  have hy:=run_yield (P:=P) (args:=vs.toArray) hl (by rw [hrec];simp [← hr.length,hlen])
  rw [hrec] at hy
  refine ⟨fn,_,assign,body,hy,roundIn_of_wpIn trivial ?_⟩
  obtain ⟨Y,O2,y1,y2,y3,y4,y5,yl,yI,yK,ym,yk⟩:=s1.overK hX0 hc [w.heap.size,w.heap.size+1] (by simp [oD,ol]) K1 fun b hb=>⟨(hKb b hb).1,(hKb b hb).2.2.2⟩
  obtain ⟨O3,sr⟩:=(s1.plain0 ym).roundL (PS env) hr (ps:=ps) (fun p hp=>by show okT (0,X.nt.2) p;rw [h1];exact hps p hp) hlen.symm
  have hnl:¬I1 (w.heap.size+1):=(s1.own _ _ ol).2
  have etm:((ps.toArray.zip vs.toArray).foldl (fun (tmps:Array Value) (t,a)=>tmps.setIfInBounds t a) a.tmps)=(ps.zip vs).foldl (fun (t:Array Value) x=>t.setIfInBounds x.1 x.2) a.tmps:=by
   rw [← Array.foldl_toList,Array.toList_zip]
  rw [etm]
  refine wpIn_mono (hround (w.heap.size+1) k ds H1 hk hkm hH1 {Y with nt:=(0,X.nt.2),dfs:=[],args:=[]} _ _ _ _ _ (by show (0,X.nt.2)=(0,C.nt.2);rw [h1]) y3 y4 sr) ?_
  rintro e a1 w1 ⟨env1,H2,I2,μ2,O4,q1,q2⟩
  cases e with
  | normal =>
   have hl1:w1.heap[w.heap.size+1]?=some (.loop (rec .ready none)):=(q1.prot _ (yl _ (by simp))).trans (by rw [y1];exact hl)
   refine ⟨_,run_beginRound hl1 (by rw [hrec]),?_⟩
   have sb:=q1.busy y3 (B5 (.loop {rec .ready none with state:=.busy})) (yl (w.heap.size+1) (by simp)) (by show ¬Y.I _;rw [y2];exact hnl)
   refine wpIn_mono (q2 {Y with nt:=(0,X.nt.2),dfs:=[],args:=[],w:=w1.putObj (w.heap.size+1) (.loop {rec .ready none with state:=.busy}),I:=I2,μ:=μ2} _ _ _ _ _ (by show (0,X.nt.2)=(0,C.nt.2);rw [h1]) y3 y4 sb) ?_
   rintro e a2 w2 ⟨env2,H3,I3,μ3,O5,t1,he,t2⟩
   have hl2:w2.heap[w.heap.size+1]?=some (.loop {rec .ready none with state:=.busy}):=(t1.prot _ (yl _ (by simp))).trans (World.putObj_heap_same (Array.getElem?_eq_some_iff.1 hl1).1)
   have key:∀ jump,(jump.isNone=decide (k<m))→({({rec .ready none with state:=.busy}:Loop) with state:=if jump.isNone then LoopState.ready else .done,pending:=jump}:Loop)=stOf (k+1) →
     ∃ v w',(Instr.endRound (w.heap.size+1) jump).run P w2=.ok v w'∧(Ending.returned v=.returned (.bool (decide (k<m)))∧∃ I',J (k+1) w' I' K1∧(∀ b,K1 b→w'.heap[b]?=W.heap[b]?∧¬I' b)∧(∀ b,I1 b→I' b∧w'.heap[b]?=W.heap[b]?)∧W.heap.size≤w'.heap.size∧∀ b,I' b→b<w'.heap.size):=by
    intro jump hj hst
    have hend:=run_endRound (P:=P) jump hl2
    refine ⟨_,_,hend,by rw [hj],I3,?_⟩
    rw [hst]
    have hput:w2.putObj (w.heap.size+1) (.loop (stOf (k+1)))=(w2.putObj (w.heap.size+1) (.loop (rec .ready none))).putObj (w.heap.size+1) (.loop (stOf (k+1))):=by
     simp [World.putObj]
    have hl4:(w2.putObj (w.heap.size+1) (.loop (rec .ready none))).heap[w.heap.size+1]?=some (.loop (rec .ready none)):=World.putObj_heap_same (Array.getElem?_eq_some_iff.1 hl2).1
    have hm4:Mem P Y H3 (w2.putObj (w.heap.size+1) (.loop (rec .ready none))) I3 μ3 O5 :=
     Mem.ready (X:=Y) (l:=w.heap.size+1) (q1.toMem.cast rfl rfl rfl rfl rfl rfl) y3 (yl _ (by simp)) (by rw [y2];exact hnl) (B5 _) (t1.toMem.cast rfl rfl rfl rfl rfl rfl) (B5 _) (by rw [hl4,y1,hl])
    obtain ⟨On,k1,k2,k3⟩:=yk hm4
    have s5:=k1.grownR (B5 (l:=w.heap.size+1) (.loop (stOf (k+1)))) fun b hb=>by cases hb;exact k2 _ (by simp)
    have keep:∀ b,Y.K b→b≠w.heap.size+1→(w2.putObj (w.heap.size+1) (.loop (stOf (k+1)))).heap[b]?=W.heap[b]?:=fun b hb hne=>by
     rw [hput]
     exact (World.putObj_heap_other hne).trans ((hm4.prot b hb).trans (by rw [y1]))
    have hKne:∀ b,K1 b→b≠w.heap.size+1:=fun b hb e=>by subst e;have:=(hKb _ hb).1;rw [ol] at this;cases this
    have hIne:∀ b,I1 b→b≠w.heap.size+1:=fun b hb e=>by subst e;exact hnl hb
    have hKI:∀ b,K1 b→¬I3 b:=fun b hb hi=>(hKb b hb).2.2.1 (by have:=hm4.kI b (yK b hb) hi;rwa [y2] at this)
    refine ⟨⟨H3,μ3,On,t2,by rw [hput];exact s5,k2 _ (by simp),k2 _ (by simp),World.putObj_heap_same (Array.getElem?_eq_some_iff.1 hl2).1,?_,fun b hb=>⟨k3 b hb,(hKb b hb).2.1,hKI b hb,?_⟩⟩,
     fun b hb=>⟨keep b (yK b hb) (hKne b hb),hKI b hb⟩,fun b hb=>⟨hm4.mono b (by rw [y2];exact hb),keep b (yI b hb) (hIne b hb)⟩,?_,fun b hb=>?_⟩
    ·rw [keep _ (yl _ (by simp)) (by omega)];exact hD
    ·have:=hm4.klt b (yK b hb);have h6:=hm4.size;rw [World.putObj_size] at h6 ⊢;omega
    ·have h6:=hm4.size;rw [y1,World.putObj_size] at h6;rw [World.putObj_size];exact h6
    ·have:=hm4.ilt b hb;rw [World.putObj_size] at this ⊢;exact this
   by_cases hlt:k<m
   ·rw [if_pos hlt] at he
    subst he
    exact key none (by simp [hlt]) (by simp only [stOf];rw [if_pos (show k+1≤m by omega)];rw [hrec];rfl)
   ·rw [if_neg hlt] at he
    subst he
    rcases he1 with ⟨id,rfl⟩|rfl
    ·exact key (some (.exit id)) (by simp [hlt]) (by simp only [stOf];rw [if_neg (show ¬k+1≤m by omega)];rw [hrec];rfl)
    ·exact key (some .ret) (by simp [hlt]) (by simp only [stOf];rw [if_neg (show ¬k+1≤m by omega)];rw [hrec];rfl)
  | _=>exact q2.elim
 ·-- behind the iterator
  rintro e W2 ⟨⟨v,rfl⟩,I1,K1,H1,μ1,O1,hH1,s1,oD,ol,hl,hD,hKb⟩
  have s2:=s1.grownR (B5 (l:=w.heap.size+1) (.loop {stOf (min (m+1) ys.length) with state:=.exhausted})) fun b hb=>by cases hb;exact ol
  have s3:=s2.lab (O':=fun b=>if b=w.heap.size then none else O1 b) (fun b l hb=>by
    split at hb
    ·cases hb
    ·exact s2.own b l hb) (fun b hb=>by
    split
    ·rfl
    ·exact s2.kO b hb) (fun b id hb=>by rw [if_neg (fun e=>by subst e;rw [oD] at hb;simp at hb)];exact hb) (fun b t hb=>by rw [if_neg (fun e=>by subst e;rw [oD] at hb;simp at hb)];exact hb)
  have hmk:Marks X.K (W2.putObj (w.heap.size+1) (.loop {stOf (min (m+1) ys.length) with state:=.exhausted})) I1 (fun b=>if b=w.heap.size then none else O1 b) [{target:=.collected w.heap.size,args:=#[]}]:=by
   refine ⟨by simp,fun m hm=>?_⟩
   simp at hm
   refine ⟨_,hm,?_,by simp,(s1.own _ _ oD).2,fun hk=>by have:=hs.klt _ hk;have:=hs.size;omega⟩
   exact (World.putObj_heap_other (by omega)).trans hD
  have s4:Sim P {X with dfs:=[{target:=.collected w.heap.size,args:=#[]}]++X.dfs} env H1 {a with defers:=[{target:=.collected w.heap.size,args:=#[]}]++a.defers} (W2.putObj (w.heap.size+1) (.loop {stOf (min (m+1) ys.length) with state:=.exhausted})) I1 μ1 (fun b=>if b=w.heap.size then none else O1 b) :=
   ⟨s3.toMem.cast rfl rfl rfl rfl rfl rfl,s3.envr,s3.nt,by rw [s3.dfs.1],s3.dfs.2⟩
  have hq:=hdone H1 hH1
  have hbusy:(stOf (min (m+1) ys.length)).state≠.busy:=by
   simp only [stOf];split<;>rw [hrec]<;>simp
  have hend:=run_endLoop (P:=P) hl hbusy
  generalize W2.putObj (w.heap.size+1) (.loop {stOf (min (m+1) ys.length) with state:=.exhausted})=W3 at hend s4 hmk
  refine ⟨(stOf (min (m+1) ys.length)).pending,W3,hend,?_⟩
  by_cases hmy:m<ys.length
  ·rw [if_pos hmy] at hq
   have hst:(stOf (min (m+1) ys.length)).pending=VU e1:=by
    simp only [stOf];rw [if_neg (show ¬min (m+1) ys.length≤m by omega),hrec]
   rw [hst]
   rcases he1 with ⟨id,rfl⟩|rfl
   ·exact wpIn_exit ⟨env,_,I1,μ1,_,_,s4,hq,hmk⟩
   ·exact wpIn_ret ⟨env,_,I1,μ1,_,_,s4,hq,hmk⟩
  ·rw [if_neg hmy] at hq
   have hst:(stOf (min (m+1) ys.length)).pending=none:=by
    simp only [stOf];rw [if_pos (show min (m+1) ys.length≤m by omega),hrec]
   rw [hst]
   exact ⟨env,_,I1,μ1,_,_,s4,hq,hmk⟩
end
end Go.FL
namespace Go.FL
open Go Go.RowKit
def FnV (P:Program) (gv:DV) (xs:List DV) (r:AV) : Prop :=
 ∃ f first caps,gv=.fn f first caps∧(∀ args w,(callFunc f args).run P w=.ok (.enter f args) w)∧Fn P f (first++xs++caps) r
structure FV (P:Program) {α β:Type} (enc:α→List DV) (dec:β→AV) where
 dv:DV
 g:α→Option β
 ok:∀ x r,g x=some r→FnV P dv (enc x) (dec r)
def FnR (P:Program) (f:FuncId) (args:List AV) (H:Ab) (post:AV→Ab→Prop) : Prop :=
 ∀ (X:Snap) (w:World) (I:Nat→Prop) (μ:List Nat) (O:Nat→Option Loc) (vs:List Value),X.w=w→X.I=I→X.n0=0→X.ne=H.length→X.μ=μ→Mem P X H w I μ O→ARepAll P w I μ args vs [] →
  CallsIn (om none) 0 P f vs.toArray w fun e w'=>∃ v I' μ' O' H' r rs,e=.returned v∧Mem P X H' w' I' μ' O'∧ARep P w' I' μ' r v rs∧rs.Nodup∧(∀ b∈rs,∃ n,O' b=some (.t n))∧post r H'
section
variable {P:Program} {C:Cx} {X:Snap} {o:Oper} {ops:Array Oper} {Q:Exit→Env→Ab→Prop} {env env':Env} {H H':Ab} {a:Act} {w w':World} {I I':Nat→Prop} {μ μ':List Nat} {O O':Nat→Option Loc}
 {K:Env→Ab→Prop} {k:Nat} {l:List Oper}
theorem FnR.mono {f:FuncId} {args:List AV} {post post':AV→Ab→Prop} (h:FnR P f args H post) (hp:∀ r H',post r H'→post' r H') : FnR P f args H post':=fun X w I μ O vs e1 e2 e3 e4 e5 hm ha =>
 (h X w I μ O vs e1 e2 e3 e4 e5 hm ha).mono fun _ _ ⟨v,I',μ',O',H',r,rs,q1,q2,q3,q4,q5,q6⟩=>⟨v,I',μ',O',H',r,rs,q1,q2,q3,q4,q5,hp _ _ q6⟩
theorem NP {c:Call} {fo:Operand} {gv:DV} {xs:List DV} {r:AV} (h:FnV P gv xs r) (ho:o.op=.call c:=by rfl) (hc:c.callee=.value fo:=by rfl) (hfo:lk env fo=.d gv:=by rfl) (ha:argsD env c.args.toList=some xs:=by rfl) (hr:AI r=false:=by rfl) : VOK P C o env H r:=by
 obtain ⟨f,first,caps,rfl,hcall,hfn⟩:=h
 exact vcl hfn hcall ho hc hfo ha hr
theorem FnV.of {f:FuncId} {caps xs:List DV} {r:AV} (hcall:∀ args w,(callFunc f args).run P w=.ok (.enter f args) w) (h:Fn P f (xs++caps) r) : FnV P (.fn f [] caps) xs r:=⟨f,[],caps,rfl,hcall,by simpa using h⟩
theorem X0 {f:FuncId} {cap:Array Operand} {ds:List DV} (ho:o.op=.makeFunc (.func f) #[] cap:=by rfl) (ha:argsD env cap.toList=some ds:=by rfl) : VOK P C o env H (.d (.fn f [] ds)) :=
 .pv ⟨by simp [ho],fun X a w I μ O _ hs=>⟨.func (.func f) #[] (cap.map a.eval),by simp [execOp,ho,Instr.makeFunc],.d (by
  have:=Rep.fn f [] ds [] (cap.toList.map a.eval) (.nil (w:=w) (I:=I)) (hs.argsD ha)
  have e:(cap.toList.map a.eval).toArray=cap.map a.eval:=by apply Array.ext';simp
  rw [e] at this
  exact this)⟩⟩
theorem Aaj {f:FuncId} {cap:Array Operand} {t:Nat} {avs:List AV} (h:RL P C ops Q (k+1) l ((t,.fn f [] avs)::env) H) (hg:grd ops env o true=true:=by rfl) (ho:o.op=.makeFunc (.func f) #[] cap:=by rfl) (ha:argsA env cap.toList=some avs:=by rfl)
  (hd:o.dst=some t:=by rfl) (hf:Aj (get env t)=false:=by rfl) (ht:okT C.nt t:=by rfl):RL P C ops Q k (o::l) env H:=by
 rw [← Ak hf] at h
 refine .go hg (.pure (by simp [ho]) hd ht (fun X a w I μ O _ hs=>⟨.func (.func f) #[] (cap.map a.eval),?_,[],?_,nN,by simp⟩) h)
 ·simp [execOp,ho,Instr.makeFunc]
 ·have:=ARep.fn (f:=f) (.nil (P:=P) (w:=w) (I:=I) (μ:=μ)) (hs.argsA ha)
  have e:(cap.toList.map a.eval).toArray=cap.map a.eval:=by apply Array.ext';simp
  rw [e] at this
  exact this
theorem bxA {x:Operand} {ty t:Nat} {c:AV} (h:RL P C ops Q (k+1) l ((t,.bp H.length 0)::env) (H++[.box [c]])) (hg:grd ops env o true=true:=by rfl) (ho:o.op=.box ty x:=by rfl) (hv:lk env x=c:=by rfl) (hu:c≠.un:=by simp)
  (h1:one c=true:=by rfl) (hn:noOwn c=true:=by rfl) (hd:o.dst=some t:=by rfl) (hf:Aj (get env t)=false:=by rfl) (ht:okT C.nt t:=by rfl):RL P C ops Q k (o::l) env H:=by
 obtain ⟨g1,g2⟩:=Ar hv hu
 refine .go hg (Ze ho g1 hd ht (by rw [g2];exact h1) (.inl (by rw [g2];exact hn)) ?_)
 have e1:K8 env (C5 x)=env:=by
  cases hx:C5 x with
  | t s=>rw [hx] at g2;simp only [K8];rw [show get env s=c from g2,hn];rfl
  | _=>rfl
 rw [e1,g2,Ak hf];exact h
theorem ARepAll.append : ∀ {xs:List AV} {vs:List Value} {b1:List Nat} {ys:List AV} {us:List Value} {b2:List Nat},ARepAll P w I μ xs vs b1→ARepAll P w I μ ys us b2→ARepAll P w I μ (xs++ys) (vs++us) (b1++b2)
 | _,_,_,_,_,_,.nil,k=>k
 | _,_,_,_,_,_,.cons h t,k=>by
  have:=ARepAll.cons h (t.append k)
  rwa [← List.append_assoc] at this
theorem OpOK.callR {c:Call} {fo:Operand} {f:FuncId} {caps avs:List AV} {post:AV→Ab→Prop} (ho:o.op=.call c) (hc:c.callee=.value fo) (hfo:(fo=.func f∧caps=[])∨(lk env fo=.fn f [] caps∧noOwnL caps=true)) (ha:argsA env c.args.toList=some avs) (hcr:Bm env=false) (hn0:C.n0=0)
  (hcall:∀ args w,(callFunc f args).run P w=.ok (.enter f args) w) (hfn:FnR P f (avs++caps) H post) (hd:∀ t,o.dst=some t→okT C.nt t)
  (hK:∀ r H',post r H'→K (match o.dst with|some t=>put env t r|none=>env) H'):OpOK P C o env H K:=by
 intro X a w I μ O next Q h1 h2 h3 hs hn
 refine ⟨fun _ _=>trivial,?_⟩
 have hcv:∃ cs,a.eval fo=.func (.func f) #[] cs∧ARepAll P w I μ caps cs.toList []:=by
  rcases hfo with ⟨rfl,rfl⟩|⟨hl,hnc⟩
  ·exact ⟨#[],rfl,.nil⟩
  ·obtain ⟨bs,hr⟩:=hs.lk (x:=fo) (by rw [hl];rfl)
   rw [hl] at hr
   have hno:=noOwn_bs hr (by simp [noOwn,noOwnL,hnc])
   subst hno
   generalize a.eval fo=u at hr
   generalize hbs:([]:List Nat)=bs at hr
   cases hr with
   | fn k1 k2 =>
    cases k1
    have:_++_=([]:List Nat):=hbs.symm
    rw [List.append_eq_nil_iff] at this
    have k3:=this.2
    subst k3
    exact ⟨_,rfl,by simpa using k2⟩
 obtain ⟨cs,hev,hcs⟩:=hcv
 have hres:=CG (P:=P) (w:=w) (ρ:=a.eval) (ty:=o.type) hc hev
 have hex:(execOp a.eval o).run P w=.ok (.enter f (#[]++c.args.map a.eval++cs)) w:=by
  simp only [execOp,ho,Sem.run_bind,hres,Result.andThen_ok,invoke,hcall]
 rw [Oper.semAt_eq _ _ _ (by simp [ho]),hex,Oper.uponIn_enter]
 refine ⟨fun h=>(by simp [om] at h),?_⟩
 obtain ⟨Y,O2,y1,y2,y3,y4,y5,ym,_,yk⟩:=hs.over (by omega) hcr [] (by simp)
 have hargs:ARepAll P w I μ (avs++caps) (c.args.toList.map a.eval++cs.toList) []:=(hs.argsA ha).append hcs
 have hcl:=hfn Y w I μ O2 _ y1 y2 y3 y4 y5 ym hargs
 have e:(c.args.toList.map a.eval++cs.toList).toArray=#[]++c.args.map a.eval++cs:=by apply Array.ext';simp
 rw [e] at hcl
 refine ⟨trivial,fun csF hroom=>?_⟩
 obtain ⟨e,w',fr,⟨v,I',μ',O',Hn,r,rs,rfl,q1,q2,q3,q4,q5⟩,s,x⟩:=hcl.2 csF (room_wide _)
 refine ⟨.returned v,w',fr,?_,s,x⟩
 obtain ⟨On,k1,k2⟩:=yk q1 (rs:=rs) q4
 have hh:Hand P w' I' μ' On r v:=⟨rs,q2,q3,k2⟩
 show next (a.put o.dst v) w'
 have hK:=hK r Hn q5
 cases hdst:o.dst with
 | none=>exact hn _ _ _ _ _ _ _ k1 (by rw [hdst] at hK;exact hK)
 | some t=>exact hn _ _ _ _ _ _ _ (k1.put_hand (by rw [h1];exact hd t hdst) hh) (by rw [hdst] at hK;exact hK)
theorem clR {c:Call} {f t:Nat} {avs:List AV} {post:AV→Ab→Prop} (hfn:FnR P f avs H post) (hcall:∀ args w,(callFunc f args).run P w=.ok (.enter f args) w) (h:∀ r H',post r H'→RL P C ops Q (k+1) l ((t,r)::env) H')
  (hg:grd ops env o true=true:=by rfl) (ho:o.op=.call c:=by rfl) (hc:c.callee=.value (.func f):=by rfl) (ha:argsA env c.args.toList=some avs:=by rfl) (hcr:Bm env=false:=by rfl) (hd:o.dst=some t:=by rfl)
  (hf:Aj (get env t)=false:=by rfl) (ht:okT C.nt t:=by rfl) (h0:C.n0=0:=by rfl):RL P C ops Q k (o::l) env H:=by
 refine .go hg (OpOK.callR (caps:=[]) ho hc (.inl ⟨rfl,rfl⟩) ha hcr h0 hcall (by rwa [List.append_nil]) (fun t' h'=>by rw [hd] at h';cases h';exact ht) fun r H' hp=>?_)
 rw [hd]
 show RL P C ops Q (k+1) l (put env t r) H'
 rw [Ak hf];exact h r H' hp
theorem Zi {c:Call} {fo:Operand} {f t:Nat} {avs caps:List AV} {post:AV→Ab→Prop} (hfn:FnR P f (avs++caps) H post) (hcall:∀ args w,(callFunc f args).run P w=.ok (.enter f args) w) (h:∀ r H',post r H'→RL P C ops Q (k+1) l ((t,r)::env) H')
  (hg:grd ops env o true=true:=by rfl) (ho:o.op=.call c:=by rfl) (hc:c.callee=.value fo:=by rfl) (hfo:lk env fo=.fn f [] caps:=by rfl) (hnc:noOwnL caps=true:=by rfl) (ha:argsA env c.args.toList=some avs:=by rfl) (hcr:Bm env=false:=by rfl) (hd:o.dst=some t:=by rfl)
  (hf:Aj (get env t)=false:=by rfl) (ht:okT C.nt t:=by rfl) (h0:C.n0=0:=by rfl):RL P C ops Q k (o::l) env H:=by
 refine .go hg (OpOK.callR ho hc (.inr ⟨hfo,hnc⟩) ha hcr h0 hcall hfn (fun t' h'=>by rw [hd] at h';cases h';exact ht) fun r H' hp=>?_)
 rw [hd]
 show RL P C ops Q (k+1) l (put env t r) H'
 rw [Ak hf];exact h r H' hp
def Ab1 (rs:List ResultVar) (post:AV→Ab→Prop) : Exit→Env→Ab→Prop
 | .normal,env,H=>∃ r,ES env r rs∧post r H
 | .ret,env,H=>∃ r,ES env r rs∧post r H
 | _,_,_=>False
theorem FnR.of {f:FuncId} {fn:Func} {c:Code} {args:List AV} {post:AV→Ab→Prop} {rs:List ResultVar} (nt:Nat) (hf:P.funcs[f]?=some fn) (hb:fn.body=some c) (hrs:fn.results=rs.toArray) (hnt:fn.ntmps=nt) (hn:args.length≤nt)
  (h:AW P {nt:=(0,nt),n0:=0,ne:=H.length} c (Ab1 rs post) (Qz 0 args []) H):FnR P f args H post:=by
 intro X w I μ O vs e1 e2 e3 e4 e5 hm ha
 refine callsIn_of_wp hf hb trivial ?_
 have hlen:=ha.length
 let a:Act:={tmps:=vs.toArray++Array.replicate (fn.ntmps-vs.toArray.size) undef,defers:=[]}
 let Y:Snap:={X with nt:=(0,nt),dfs:=[],args:=vs}
 have hat:∀ (j:Nat) (v:Value),vs[j]?=some v→a.tmps.getD j undef=v:=fun j v hj=>by
  have hjl:j<vs.length:=(lS.1 hj).1
  have e2:(vs.toArray++Array.replicate (fn.ntmps-vs.length) undef)[j]?=some v:=by
   rw [Array.getElem?_append_left (by simpa using hjl)];simpa using hj
  simp [a,e2]
 have hs0:Sim P Y [] H a w I μ O:=by
  refine ⟨hm.cast rfl rfl rfl rfl rfl rfl,fun t=>.un,by simp [a,Y,hnt];omega,rfl,fun t ht=>absurd ht (by simp [Y])⟩
 obtain ⟨O1,hs⟩:=hs0.adoptAll (k:=0) ha nN (by simp) (fun _ _=>rfl) fun j v hj=>by rw [Nat.zero_add];exact hat j v hj
 refine wpIn_mono (h Y a w I μ O1 rfl e3 e4 hs) fun e a' w' hp=>?_
 obtain ⟨env',He,I',μ',O',s,q⟩:=hp
 have fin:(∃ r,ES env' r rs∧post r He)→a'.defers=[]∧∃ v,(results fn a'.tmps).run P w'=.ok v w'∧∃ v' I' μ' O' H' r rs,Ending.returned v=.returned v'∧Mem P X H' w' I' μ' O'∧ARep P w' I' μ' r v' rs∧rs.Nodup∧(∀ b∈rs,∃ n,O' b=some (.t n))∧post r H':=by
  rintro ⟨r,hres,hpost⟩
  obtain ⟨v,b1,h1,h2,h3,h4⟩:=s.gives hrs hres
  exact ⟨s.dfs.1,v,h1,v,I',μ',O',He,r,b1,rfl,s.toMem.cast rfl rfl rfl rfl rfl rfl,h2,h3,fun b hb=>let ⟨t,g,_⟩:=h4 b hb;⟨t,g⟩,hpost⟩
 cases e with
 | normal=>exact fin q
 | ret=>exact fin q
 | _=>exact q.elim
def Ab5 (P:Program) (rs:List ResultVar) (r:AV) : Exit→Env→Ab→Prop:=fun e env _=>(e=.normal∨e=.ret)∧(Uz P env r rs∨UE P env r rs∨ES env r rs)
theorem Fn.ofMA {f:FuncId} {fn:Func} {c:Code} {args:List DV} {r:AV} {rs:List ResultVar} {nt:Nat} (hf:P.funcs[f]?=some fn) (hb:fn.body=some c) (hrs:fn.results=rs.toArray) (hnt:fn.ntmps=nt) (hn:args.length≤nt) (hbp:noBp r=true)
  (h:AWM P {nt:=(0,nt),n0:=0,ne:=0} c (Ab5 P rs r) (CI 0 args) []):Fn P f args r:=by
 intro w I vs hI ha
 refine callsIn_of_wp_marks hf hb trivial ?_
 have hlen:=ha.length
 let X:Snap:={w:=w,I:=I,K:=fun b=>b<w.heap.size,n0:=0,ne:=0,μ:=[],nt:=(0,nt),dfs:=[]}
 let a:Act:={tmps:=vs.toArray++Array.replicate (fn.ntmps-vs.toArray.size) undef,defers:=[]}
 have hs:Sim P X (CI 0 args) [] a w I [] (fun _=>none):=by
  refine ⟨{prot:=fun _ _=>rfl,kO:=fun _ _=>rfl,kI:=fun _ _ h=>h,mono:=fun _ h=>h,os:=rfl,tape:=rfl,output:=rfl,size:=Nat.le_refl _,own:=(fun b l h=>by simp at h),ilt:=hI,μlen:=rfl,μpre:=(fun i b hi _=>by simp [X] at hi),nle:=(by simp [X]),heap:=(fun id o h=>by simp at h),klt:=fun b hb=>hb,n0le:=(by simp [X])},fun t=>?_,?_,rfl,fun t h=>absurd h (by simp [X])⟩
  ·rcases DT (tmps:=a.tmps) (k:=0) ha (fun j v hj=>by
    have hjl:j<vs.length:=(lS.1 hj).1
    have e2:(vs.toArray++Array.replicate (fn.ntmps-vs.length) undef)[j]?=some v:=by
     rw [Array.getElem?_append_left (by simpa using hjl)];simpa using hj
    simp [a,e2]) t with h0|⟨d,h0,h1⟩
   ·rw [h0];exact .un
   ·rw [h0];exact .of (bs:=[]) (.d h1) nN (by simp)
  ·simp [a,X,hnt];omega
 have hw:=h X a w I [] (fun _=>none) rfl rfl rfl hs
 refine wpIn_mono hw fun e a' w' hp=>?_
 obtain ⟨env',H',I',μ',O',ms,s,⟨he,q⟩,hm⟩:=hp
 have hdf:a'.defers=ms:=by rw [s.dfs.1];simp [X]
 have fin:LeavesInM (om none) 0 P fn a'.tmps (fun e w'=>∃ v I' bs,e=.returned v∧Below w.heap.size w w'∧(∀ b,I b→I' b) ∧
   (∀ b,I' b→b<w'.heap.size∧(b<w.heap.size→I b))∧ARep P w' I' [] r v bs∧bs.Nodup∧∀ b∈bs,w.heap.size≤b∧b<w'.heap.size∧¬I' b) a'.defers .returning w':=by
  rw [hdf]
  refine HP (fun w4 s4=>?_) ms w' s hm
  obtain ⟨v,bs,h1,h2,h3,h4⟩:∃ v bs,(Go.results fn a'.tmps).run P w4=.ok v w4∧ARep P w4 I' μ' r v bs∧bs.Nodup∧∀ b∈bs,∃ l,O' b=some l:=by
   rcases q with q|q|q
   ·exact s4.resultsC hrs q
   ·exact s4.resultsA hrs q
   ·exact s4.results hrs q
  refine ⟨v,h1,v,I',bs,rfl,⟨s4.os,s4.tape,s4.output,s4.size,fun b hb=>s4.prot b hb⟩,s4.mono,fun b hi=>⟨s4.ilt b hi,fun hb=>s4.kI b hb hi⟩,h2.noBp hbp,h3,fun b hm=>?_⟩
  obtain ⟨l,hl⟩:=h4 b hm
  refine ⟨?_,(s4.own b l hl).1,(s4.own b l hl).2⟩
  rcases Nat.lt_or_ge b w.heap.size with hlt|hge
  ·have:=s4.kO b hlt;rw [this] at hl;cases hl
  ·exact hge
 rcases he with rfl|rfl<;>exact fin
end
end Go.FL
namespace Go.FL
open Go Go.RowKit
section
variable {P:Program} {C:Cx} {X:Snap} {o:Oper} {ops:Array Oper} {Q:Exit→Env→Ab→Prop} {env env':Env} {H H':Ab} {a:Act} {w w':World} {I I':Nat→Prop} {μ μ':List Nat} {O O':Nat→Option Loc}
 {K:Env→Ab→Prop} {k:Nat} {l:List Oper}
theorem ARepAll.reC {c c':AV} (hcc:∀ v bs,ARep P w I μ c v bs→ARep P w I μ c' v bs) : ∀ {cs:List AV} {vs:List Value} {bs:List Nat} (off:Nat),ARepAll P w I μ cs vs bs→cs[off]?=some c→ARepAll P w I μ (cs.set off c') vs bs
 | [],_,_,_,h,hc=>by simp at hc
 | x::xs,_,_,0,.cons h t,hc=>by
  simp at hc;subst hc
  exact .cons (hcc _ _ h) t
 | x::xs,_,_,off+1,.cons h t,hc=>.cons h (t.reC hcc off (by simpa using hc))
theorem Gh.cell {id off:Nat} {cs:List AV} {c c':AV} (hH:H[id]?=some (.box cs)) (hc:cs[off]?=some c) (hno:Aj c=false) (hcc:∀ w I μ v bs,ARep P w I μ c v bs→ARep P w I μ c' v bs) :
  Gh P C env H env (H.set id (.box (cs.set off c'))):=fun X a w I μ O _ _ _ hs=>by
 have hlt:id<H.length:=(lS.1 hH).1
 refine ⟨I,O,⟨{hs.toMem with
  μlen:=by rw [hs.μlen];simp
  nle:=by simpa using hs.nle
  heap:=fun i ob ho=>?_},fun t=>?_,hs.nt,hs.dfs⟩⟩
 ·by_cases hi:i=id
  ·subst hi
   rw [List.getElem?_set_self hlt] at ho
   cases ho
   obtain ⟨blk,bs,h1,h2,h3,h4⟩:=hs.heap i _ hH
   obtain ⟨cells,e,k1,k2⟩:=h2
   exact ⟨blk,bs,h1,⟨cells,e,k1,k2.reC (hcc w I μ) off hc⟩,h3,h4⟩
  ·rw [List.getElem?_set_ne (Ne.symm hi)] at ho
   exact hs.heap i ob ho
 ·refine (hs.envr t).keepG (fun _ h=>h) (fun _ _=>rfl) (fun _ _ h=>h) (fun b hb=>⟨rfl,hb⟩) fun p e xs hp=>⟨?_,fun v hv=>hv⟩
  cases p with
  | t r=>exact hp
  | c i o =>
   simp only [AB] at hp ⊢
   by_cases hi:i=id
   ·subst hi
    rw [List.getElem?_set_self hlt]
    rw [hH] at hp
    simp only at hp ⊢
    by_cases ho:o=off
    ·subst ho
     rw [lD,hc] at hp
     simp at hp
     rw [hp] at hno;cases hno
    ·rw [lD,List.getElem?_set_ne (Ne.symm ho),← lD];exact hp
   ·rw [List.getElem?_set_ne (Ne.symm hi)];exact hp
theorem Gh.nlOwnC {id off:Nat} {cs:List AV} (e:TypeId) (hsz:0<Av P e) (hH:H[id]?=some (.box cs):=by rfl) (hc:cs[off]?=some .nl:=by rfl) : Gh P C env H env (H.set id (.box (cs.set off (.own e [])))) :=
 Gh.cell hH hc rfl fun w I μ v bs h=>by
  cases h
  exact .own e [] (.slice none 0 0) [] hsz (.inl ⟨none,rfl,rfl,rfl⟩) (.nil _)
theorem Gs {ty e sz by_ len:Nat} {z:Value} {parts:Array (Nat×Operand)} {xs:List Operand} {ds ds':List DV} (he:ds'=ds) (hsz:∀ d∈ds',d.flat=true∧d.cells.length=sz) (hT:Cb P ty=some (e,sz,by_,z))
  (ho:o.op=.buildSlice ty len parts:=by rfl) (hp:Im 0 parts.toList=some xs:=by rfl) (hlen:xs.length=len:=by rfl) (ha:argsD env xs=some ds:=by rfl) (hsmall:len * sz≤16777216:=by decide):VOK P C o env H (.own e ds'):=by
 subst he;exact GN hsz hT ho hp hlen ha hsmall
theorem Zm {x:Operand} {ty:Nat} {v:DV} (ho:o.op=.box ty x:=by rfl) (hv:A0 (lk env x)=some v:=by rfl) (hl:v.leaf=true:=by rfl) : VOK P C o env H (.d (.ptr [v])) :=
 .val (by simp [ho]) fun X a w I μ O _ _ _ hs=>by
  have hr:=hs.deep (x:=x) hv
  have hone:=hr.one hl
  have hcells:(a.eval x).cells=#[a.eval x]:=by
   generalize a.eval x=u at hone
   cases u<;>first|rfl|simp [Value.oneCell'] at hone
  have hb:Below w.heap.size w (w.alloc (.cells #[a.eval x] ty)):=A7 _
  refine ⟨.pointer (some ⟨w.heap.size,0,none⟩),_,fun b=>I b∨b=w.heap.size,[],?_,hb,fun b hi=>.inl hi,fun b hi=>?_,.d (.ptr [v] w.heap.size 0 [a.eval x] (.inr rfl) ?_ (.cons (hr.keep (fun b hi=>hb.block b (hs.ilt b hi)) fun b hi=>.inl hi) .nil)),nN,by simp⟩
  ·simp only [execOp,ho,Instr.box,Sem.run_bind,Eh,Result.andThen_ok,Sem.run_pure,hcells]
  ·rcases hi with hi|rfl
   ·exact ⟨nL (hs.ilt b hi) hb.size,fun _=>hi⟩
   ·exact ⟨by simp,fun hlt=>absurd hlt (Nat.lt_irrefl _)⟩
  ·intro j u hj
   have hnew:(w.alloc (.cells #[a.eval x] ty)).heap[w.heap.size]?=some (.cells #[a.eval x] ty):=World.alloc_heap_new w _
   have hj0:j<1:=by simpa using (lS.1 hj).1
   have:j=0:=by omega
   subst this
   simp at hj;subst hj
   show World.cell? _ ⟨w.heap.size,0+0,none⟩=_
   unfold World.cell?
   show (match (w.alloc (.cells #[a.eval x] ty)).heap[w.heap.size]? with|some (.cells c _ _)=>_|_=>_)=_
   rw [hnew];rfl
theorem Pf {x:Operand} {av:AV} (ho:o.op=.move x:=by rfl) (hv:lk env x=av:=by rfl) (hu:av≠.un:=by simp) (hr:AI av=false:=by rfl) (hn:noOwn av=true:=by rfl) : VOK P C o env H av:=by
 obtain ⟨h1,h2⟩:=Ar hv hu
 have:=JE (P:=P) (C:=C) (env:=env) (H:=H) (.inl ho) h1 (by rw [h2];exact hr) (by rw [h2];exact hn)
 rw [h2] at this;exact .pv this hr
theorem LM {x:Operand} {ty id off:Nat} {cs:List AV} {c:AV} (hH:H[id]?=some (.box cs)) (hc:cs[off]?=some c) (hag:BH P ty=some false) (ho:o.op=.load ty x:=by rfl) (hv:lk env x=.bp id off:=by rfl) (hn:noOwn c=true:=by rfl) (hr:AI c=false:=by rfl) : VOK P C o env H c:=by
 obtain ⟨h1,h2⟩:=Ar hv (by simp)
 exact .pv (Ox ho h1 hag h2 hH hc hn) hr
theorem WQ {x:Operand} {id off:Nat} (ho:o.op=.nilCheck x:=by rfl) (hv:lk env x=.bp id off:=by rfl) : VOK P C o env H (.bp id off):=by
 obtain ⟨h1,h2⟩:=Ar hv (by simp)
 have:=Aa1 (P:=P) (C:=C) (env:=env) (H:=H) ho h1 (.inl ⟨id,off,h2⟩)
 rw [h2] at this;exact .pv this
theorem QN {x:Operand} {ty id off:Nat} {cs:List AV} {e:TypeId} {xs:List DV} (hH:H[id]?=some (.box cs)) (hc:cs[off]?=some (.own e xs)) (hag:BH P ty=some false) (ho:o.op=.load ty x:=by rfl) (hv:lk env x=.bp id off:=by rfl) : VOK P C o env H (.ref (.c id off) 0 xs.length):=by
 obtain ⟨h1,h2⟩:=Ar hv (by simp)
 refine .rel (by simp [ho]) fun X a w I μ O _ hs=>?_
 obtain ⟨blk,hm,he⟩:=hs.bp h1 h2
 obtain ⟨v,bk,g1,g2⟩:=hs.cell hH hc hm
 refine ⟨v,by simp [execOp,ho,Instr.loadAt,he,Instr.sureAddr,Bo hag g1],rfl,RefRel.self hs (p:=.c id off) ?_ ?_ (e:=e)⟩
 ·rw [G9 hH,lD,hc];rfl
 ·simp [AR,hm,g1]
end
structure FDV where
 fn ::
 f:FuncId
 first:List DV
 caps:List DV
def FDV.dv (x:FDV) : DV:=.fn x.f x.first x.caps
structure FW (α β:Type) where
 fd:FDV
 g:α→Option β
def FW.dv {α β:Type} (f:FW α β) : DV:=f.fd.dv
def FW.OK {α β:Type} (P:Program) (enc:α→List DV) (dec:β→AV) (f:FW α β) : Prop:=∀ x r,f.g x=some r→FnV P f.dv (enc x) (dec r)
theorem Jf {P:Program} {α β:Type} {enc:α→List DV} {dec:β→AV} {f:FuncId} {caps:List DV} {g:α→Option β} (hcall:∀ args w,(callFunc f args).run P w=.ok (.enter f args) w) (h:∀ x r,g x=some r→Fn P f (enc x++caps) (dec r)) :
  FW.OK P enc dec ⟨.fn f [] caps,g⟩:=fun x r hx=>FnV.of hcall (h x r hx)
end Go.FL
namespace Go.FL
open Go Go.Proofs
mutual
inductive Itm where
 | mk (kind:Int) (num:RT) (char:Int) (box:List Arr)
inductive Arr where
 | mk (shape:List Int) (items:List Itm)
end
instance : Inhabited Itm:=⟨.mk 0 (false,[],[]) 0 []⟩
instance : Inhabited Arr:=⟨.mk [] []⟩
def Itm.kind : Itm→Int | .mk k _ _ _=>k
def Itm.num : Itm→RT | .mk _ n _ _=>n
def Itm.char : Itm→Int | .mk _ _ c _=>c
def Itm.box : Itm→List Arr | .mk _ _ _ b=>b
def Arr.shape : Arr→List Int | .mk s _=>s
def Arr.items : Arr→List Itm | .mk _ i=>i
theorem Itm.eta (x:Itm) : Itm.mk x.kind x.num x.char x.box=x:=by cases x;rfl
theorem Arr.eta (x:Arr) : Arr.mk x.shape x.items=x:=by cases x;rfl
mutual
def Itm.size : Itm→Nat
 | .mk _ _ _ b=>arsSize b+1
def Arr.size : Arr→Nat
 | .mk _ i=>itsSize i+1
def itsSize : List Itm→Nat
 | []=>0
 | x::xs=>x.size+itsSize xs
def arsSize : List Arr→Nat
 | []=>0
 | x::xs=>x.size+arsSize xs
end
def Is (xs:List Int) : List DV:=xs.map (.i .i64)
mutual
def Itm.dv : Itm→DV
 | .mk k n c b=>.ag [.i .u8 k,.b n.1,.sl (L n.2.1),.sl (L n.2.2),.i .i32 c,.sl (Ars b)]
def Arr.dv : Arr→DV
 | .mk s i=>.ag [.sl (Is s),.sl (Its i)]
def Its : List Itm→List DV
 | []=>[]
 | x::xs=>x.dv::Its xs
def Ars : List Arr→List DV
 | []=>[]
 | x::xs=>x.dv::Ars xs
end
theorem Itm.dv_eq (x:Itm) : x.dv=.ag [.i .u8 x.kind,.b x.num.1,.sl (L x.num.2.1),.sl (L x.num.2.2),.i .i32 x.char,.sl (Ars x.box)]:=by cases x;simp only [Itm.dv];rfl
theorem Arr.dv_eq (x:Arr) : x.dv=.ag [.sl (Is x.shape),.sl (Its x.items)]:=by cases x;simp only [Arr.dv];rfl
theorem CH (xs:List Itm) : Its xs=xs.map Itm.dv:=by induction xs with
 | nil=>simp [Its]
 | cons x xs ih=>simp [Its,ih]
theorem GA (xs:List Arr) : Ars xs=xs.map Arr.dv:=by induction xs with
 | nil=>simp [Ars]
 | cons x xs ih=>simp [Ars,ih]
theorem Az (xs:List Int) : (Is xs).length=xs.length:=by simp [Is]
theorem Ep {xs:List Int} {i:Nat} {x:Int} (h:xs[i]?=some x) : (Is xs)[i]?=some (.i .i64 x):=by simp [Is,h]
theorem PF (xs:List Int) : ∀ x∈Is xs,x.cells.length=1:=fun x hx=>by
 simp only [Is,List.mem_map] at hx
 obtain ⟨n,_,rfl⟩:=hx;rfl
theorem C7 (xs:List Int) : ∃ sz,∀ x∈Is xs,x.cells.length=sz:=⟨1,PF xs⟩
theorem RX (xs ys:List Int) : Is (xs++ys)=Is xs++Is ys:=by simp [Is]
theorem Fc (xs:List Int) : ∀ d∈Is xs,d.flat=true∧d.cells.length=1:=fun x hx=>by
 simp only [Is,List.mem_map] at hx
 obtain ⟨n,_,rfl⟩:=hx
 exact ⟨by simp [DV.flat,DV.cells,DV.leaf],rfl⟩
theorem SC (xs:List Int) (n:Nat) (x:Int) : (Is xs).set n (.i .i64 x)=Is (xs.set n x):=by simp [Is,List.map_set]
theorem Ai (xs:List Itm) : (Its xs).length=xs.length:=by simp [CH]
theorem BC {xs:List Itm} {i:Nat} {x:Itm} (h:xs[i]?=some x) : (Its xs)[i]?=some (.ag [.i .u8 x.kind,.b x.num.1,.sl (L x.num.2.1),.sl (L x.num.2.2),.i .i32 x.char,.sl (Ars x.box)]):=by rw [CH,List.getElem?_map,h,Option.map_some,Itm.dv_eq]
theorem Hy (xs:List Itm) : ∀ x∈Its xs,x.cells.length=6:=fun x hx=>by
 rw [CH,List.mem_map] at hx
 obtain ⟨n,_,rfl⟩:=hx;rw [Itm.dv_eq];rfl
theorem Bg (xs:List Itm) : ∃ sz,∀ x∈Its xs,x.cells.length=sz:=⟨6,Hy xs⟩
theorem Ja (xs ys:List Itm) : Its (xs++ys)=Its xs++Its ys:=by simp [CH]
theorem ER (xs:List Itm) : ∀ d∈Its xs,d.flat=true∧d.cells.length=6:=fun x hx=>by
 rw [CH,List.mem_map] at hx
 obtain ⟨n,_,rfl⟩:=hx
 rw [Itm.dv_eq]
 exact ⟨by simp [DV.flat,DV.cells,DV.leaf],rfl⟩
theorem FO (x:Itm) : Its [x]=[.ag [.i .u8 x.kind,.b x.num.1,.sl (L x.num.2.1),.sl (L x.num.2.2),.i .i32 x.char,.sl (Ars x.box)]]:=by simp [CH,Itm.dv_eq]
theorem Bu (xs:List Arr) : (Ars xs).length=xs.length:=by simp [GA]
theorem Dr {xs:List Arr} {i:Nat} {x:Arr} (h:xs[i]?=some x) : (Ars xs)[i]?=some (.ag [.sl (Is x.shape),.sl (Its x.items)]):=by rw [GA,List.getElem?_map,h,Option.map_some,Arr.dv_eq]
theorem TB (xs:List Arr) : ∀ x∈Ars xs,x.cells.length=2:=fun x hx=>by
 rw [GA,List.mem_map] at hx
 obtain ⟨n,_,rfl⟩:=hx;rw [Arr.dv_eq];rfl
theorem Ek (xs:List Arr) : ∃ sz,∀ x∈Ars xs,x.cells.length=sz:=⟨2,TB xs⟩
theorem XB (xs ys:List Arr) : Ars (xs++ys)=Ars xs++Ars ys:=by simp [GA]
theorem Ko (xs:List Arr) : ∀ d∈Ars xs,d.flat=true∧d.cells.length=2:=fun x hx=>by
 rw [GA,List.mem_map] at hx
 obtain ⟨n,_,rfl⟩:=hx
 rw [Arr.dv_eq]
 exact ⟨by simp [DV.flat,DV.cells,DV.leaf],rfl⟩
theorem O6 (x:Arr) : Ars [x]=[.ag [.sl (Is x.shape),.sl (Its x.items)]]:=by simp [GA,Arr.dv_eq]
theorem XN (x y:Arr) : Ars [x,y]=[.ag [.sl (Is x.shape),.sl (Its x.items)],.ag [.sl (Is y.shape),.sl (Its y.items)]]:=by simp [GA,Arr.dv_eq]
theorem AY : BH Tryz.prog 41=some false:=by kernel_rfl
theorem Lm : Av Tryz.prog 44=6:=by kernel_rfl
theorem AE : BH Tryz.prog 44=some true:=by kernel_rfl
theorem Am : Av Tryz.prog 44=6:=by kernel_rfl
theorem BS : Br Tryz.prog 44 0=some (0,1):=by kernel_rfl
theorem BJ : Br Tryz.prog 44 1=some (1,3):=by kernel_rfl
theorem CU : Br Tryz.prog 44 2=some (4,1):=by kernel_rfl
theorem A5 : Br Tryz.prog 44 3=some (5,1):=by kernel_rfl
theorem KA : CR Tryz.prog 44=some [(0,1),(1,3),(4,1),(5,1)]:=by kernel_rfl
theorem Cd : (Tryz.prog.info? 44).bind (·.zero)=some (.agg #[.int .u8 0,.bool false,.slice none 0 0,.slice none 0 0,.int .i32 0,.slice none 0 0]):=by kernel_rfl
theorem XY (w:World) (I:Nat→Prop) (μ:List Nat) : ARepAll Tryz.prog w I μ [.d (.i .u8 0),.d (.b false),.nl,.nl,.d (.i .i32 0),.nl] (Value.agg #[.int .u8 0,.bool false,.slice none 0 0,.slice none 0 0,.int .i32 0,.slice none 0 0]).cells.toList []:=ARepAll.cons (b1:=[]) (b2:=[]) (.d (.i _ _)) (ARepAll.cons (b1:=[]) (b2:=[]) (.d (.b _)) (ARepAll.cons (b1:=[]) (b2:=[]) (.nl) (ARepAll.cons (b1:=[]) (b2:=[]) (.nl) (ARepAll.cons (b1:=[]) (b2:=[]) (.d (.i _ _)) (ARepAll.cons (b1:=[]) (b2:=[]) (.nl) (.nil))))))
theorem Cf (w:World) (I:Nat→Prop) : RepAll w I [.i .u8 0,.b false,.sl [],.sl [],.i .i32 0,.sl []] (Value.agg #[.int .u8 0,.bool false,.slice none 0 0,.slice none 0 0,.int .i32 0,.slice none 0 0]).cells.toList:=.cons (.i _ _) (.cons (.b _) (.cons (.sl0 _ _) (.cons (.sl0 _ _) (.cons (.i _ _) (.cons (.sl0 _ _) (.nil))))))
theorem ZB : Av Tryz.prog 25=2:=by kernel_rfl
theorem Ah : BH Tryz.prog 25=some true:=by kernel_rfl
theorem Ad : Av Tryz.prog 25=2:=by kernel_rfl
theorem Ra : R8 Tryz.prog 25 1=some false:=by kernel_rfl
theorem A6 : Br Tryz.prog 25 0=some (0,1):=by kernel_rfl
theorem AM : Br Tryz.prog 25 1=some (1,1):=by kernel_rfl
theorem Dc : CR Tryz.prog 25=some [(0,1),(1,1)]:=by kernel_rfl
theorem AP : (Tryz.prog.info? 25).bind (·.zero)=some (.agg #[.slice none 0 0,.slice none 0 0]):=by kernel_rfl
theorem Mj (w:World) (I:Nat→Prop) (μ:List Nat) : ARepAll Tryz.prog w I μ [.nl,.nl] (Value.agg #[.slice none 0 0,.slice none 0 0]).cells.toList []:=ARepAll.cons (b1:=[]) (b2:=[]) (.nl) (ARepAll.cons (b1:=[]) (b2:=[]) (.nl) (.nil))
theorem AZ (w:World) (I:Nat→Prop) : RepAll w I [.sl [],.sl []] (Value.agg #[.slice none 0 0,.slice none 0 0]).cells.toList:=.cons (.sl0 _ _) (.cons (.sl0 _ _) (.nil))
theorem V5 : BH Tryz.prog 92=some true:=by kernel_rfl
theorem M8 : Av Tryz.prog 92=2:=by kernel_rfl
theorem Mn : Br Tryz.prog 92 0=some (0,1):=by kernel_rfl
theorem Tm : Br Tryz.prog 92 1=some (1,1):=by kernel_rfl
theorem Aa3 : CR Tryz.prog 92=some [(0,1),(1,1)]:=by kernel_rfl
theorem OH : (Tryz.prog.info? 92).bind (·.zero)=some (.agg #[.int .i64 0,.int .i64 0]):=by kernel_rfl
theorem Vx (w:World) (I:Nat→Prop) (μ:List Nat) : ARepAll Tryz.prog w I μ [.d (.i .i64 0),.d (.i .i64 0)] (Value.agg #[.int .i64 0,.int .i64 0]).cells.toList []:=ARepAll.cons (b1:=[]) (b2:=[]) (.d (.i _ _)) (ARepAll.cons (b1:=[]) (b2:=[]) (.d (.i _ _)) (.nil))
theorem Tg (w:World) (I:Nat→Prop) : RepAll w I [.i .i64 0,.i .i64 0] (Value.agg #[.int .i64 0,.int .i64 0]).cells.toList:=.cons (.i _ _) (.cons (.i _ _) (.nil))
theorem Cy : BH Tryz.prog 23=some false:=by kernel_rfl
theorem Dw : B3 Tryz.prog 23=some (3,1,8):=by kernel_rfl
theorem Gt : Cb Tryz.prog 23=some (3,1,8,.int .i64 0):=by kernel_rfl
theorem CQ : Tryz.prog.underlying 23=some (.slice (Tryz.prog.elem 23)):=by kernel_rfl
theorem UZ : (17592186044416:Nat) * 8≤140737488355328∧(17592186044416:Nat)≤9223372036854775807:=by decide
theorem Bl : BH Tryz.prog 22=some false:=by kernel_rfl
theorem II : Av Tryz.prog 22=1:=by kernel_rfl
theorem VH : (Tryz.prog.info? 22).bind (·.zero)=some (.slice none 0 0):=by kernel_rfl
theorem Yj (w:World) (I:Nat→Prop) (μ:List Nat) : ARepAll Tryz.prog w I μ [.nl] (Value.cells (.slice none 0 0)).toList []:=ARepAll.cons (b1:=[]) (b2:=[]) (.nl) .nil
theorem Bs : B3 Tryz.prog 22=some (44,6,96):=by kernel_rfl
theorem DF : Cb Tryz.prog 22=some (44,6,96,.agg #[.int .u8 0,.bool false,.slice none 0 0,.slice none 0 0,.int .i32 0,.slice none 0 0]):=by kernel_rfl
theorem Ba : Tryz.prog.underlying 22=some (.slice (Tryz.prog.elem 22)):=by kernel_rfl
theorem KV : (1466015503701:Nat) * 96≤140737488355328∧(1466015503701:Nat)≤9223372036854775807:=by decide
theorem B2 : BH Tryz.prog 42=some false:=by kernel_rfl
theorem Zk : Av Tryz.prog 42=1:=by kernel_rfl
theorem Du : B3 Tryz.prog 42=some (25,2,48):=by kernel_rfl
theorem MR : Cb Tryz.prog 42=some (25,2,48,.agg #[.slice none 0 0,.slice none 0 0]):=by kernel_rfl
theorem Ei : Tryz.prog.underlying 42=some (.slice (Tryz.prog.elem 42)):=by kernel_rfl
theorem YJ : (2932031007402:Nat) * 48≤140737488355328∧(2932031007402:Nat)≤9223372036854775807:=by decide
abbrev Cm : Type:=FW (Itm) (Bool)
abbrev Kd (f:Cm) : Prop:=f.OK Tryz.prog (fun x=>[.ag [.i .u8 x.kind,.b x.num.1,.sl (L x.num.2.1),.sl (L x.num.2.2),.i .i32 x.char,.sl (Ars x.box)]]) (fun r=>.d (.b r))
abbrev BV : Type:=FW (Itm) (Itm)
abbrev LH (f:BV) : Prop:=f.OK Tryz.prog (fun x=>[.ag [.i .u8 x.kind,.b x.num.1,.sl (L x.num.2.1),.sl (L x.num.2.2),.i .i32 x.char,.sl (Ars x.box)]]) (fun r=>.d (.ag [.i .u8 r.kind,.b r.num.1,.sl (L r.num.2.1),.sl (L r.num.2.2),.i .i32 r.char,.sl (Ars r.box)]))
abbrev B6 : Type:=FW (Int) (Bool)
abbrev J0 (f:B6) : Prop:=f.OK Tryz.prog (fun x=>[.i .i64 x]) (fun r=>.d (.b r))
abbrev CV : Type:=FW (Itm×Itm) (Bool)
abbrev KT (f:CV) : Prop:=f.OK Tryz.prog (fun x=>[.ag [.i .u8 x.1.kind,.b x.1.num.1,.sl (L x.1.num.2.1),.sl (L x.1.num.2.2),.i .i32 x.1.char,.sl (Ars x.1.box)],.ag [.i .u8 x.2.kind,.b x.2.num.1,.sl (L x.2.num.2.1),.sl (L x.2.num.2.2),.i .i32 x.2.char,.sl (Ars x.2.box)]]) (fun r=>.d (.b r))
abbrev CW : Type:=FW (Arr×Arr) (Bool)
abbrev KF (f:CW) : Prop:=f.OK Tryz.prog (fun x=>[.ag [.sl (Is x.1.shape),.sl (Its x.1.items)],.ag [.sl (Is x.2.shape),.sl (Its x.2.items)]]) (fun r=>.d (.b r))
abbrev BQ : Type:=FW (Arr) (Bool)
abbrev Km (f:BQ) : Prop:=f.OK Tryz.prog (fun x=>[.ag [.sl (Is x.shape),.sl (Its x.items)]]) (fun r=>.d (.b r))
def pv : List Nat→Nat→Option Nat
 | [],n=>some n
 | c::r,n=>if 48≤c∧c≤57 then pv r (n * 10+(c-48)) else none
theorem NZ : ∀ (a b:List Nat) (n:Nat),pv (a++b) n=(pv a n).bind (pv b)
 | [],b,n=>rfl
 | c::r,b,n=>by
  simp only [List.cons_append,pv]
  split
  ·exact NZ r b _
  ·rfl
theorem Wi : ∀ (xs:List Nat) (n:Nat),Dig xs→pv xs.reverse n=some (n * 10 ^ xs.length+EC xs)
 | [],n,_=>by simp [pv,EC]
 | x::r,n,h=>by
  have hx:=h x (by simp)
  rw [List.reverse_cons,NZ,Wi r n (fun y hy=>h y (by simp [hy]))]
  simp only [oB,pv]
  rw [if_pos hx]
  congr 1
  simp only [EC,List.length_cons,Nat.pow_succ]
  rw [Nat.add_mul,Nat.mul_assoc];omega
theorem P7 (n:Nat) : ∀ x∈DU n,x<256:=by
 unfold DU
 split
 ·simp
 ·intro x hx
  have:=MU n x (by simpa using hx)
  omega
theorem Tf (n:Nat) : pv (DU n) 0=some n:=by
 unfold DU
 split
 ·rename_i h;subst h;rfl
 ·rw [Wi _ _ (MU n),TL];simp
theorem ST (n:Nat) : DU n≠[]:=by
 unfold DU
 split
 ·simp
 ·rename_i h;simpa using Mp h
theorem Wm {n k:Nat} (h:n<10 ^ k) : (DU n).length≤k+1:=by
 unfold DU
 split
 ·simp
 ·rw [List.length_reverse];have:=WW h;omega
theorem Ls (a b:List Nat) : Ck a++Ck b=Ck (a++b):=by
 apply ByteArray.ext
 simp [Ck,ByteArray.data_append]
theorem NX (a:List Nat) : (Ck a).size=a.length:=by
 show (Ck a).data.size=_
 simp [Ck]
def okL (k:Nat) (a:List Nat) : Bool:=a.all (fun x=>decide (x<4294967296))&&decide (a.length≤k)
theorem CF {k:Nat} {a:List Nat} : okL k a=true↔Ok a∧a.length≤k:=by simp [okL,Ok]
theorem X7 {k:Nat} {ls:List (List Nat)} (h:ls.all (okL k)=true) : (∀ a∈ls,Ok a)∧∀ a∈ls,a.length≤k :=
 ⟨fun a ha=>(CF.1 (List.all_eq_true.1 h a ha)).1,fun a ha=>(CF.1 (List.all_eq_true.1 h a ha)).2⟩
def Je (r:RT) : Bool:=okL 35184372087808 r.2.1&&okL 35184372087808 r.2.2
theorem JS {r:RT} : Je r=true↔okR r:=by
 simp only [Je,Bool.and_eq_true,CF,okR]
 exact ⟨fun ⟨⟨a,b⟩,c,d⟩=>⟨a,c,b,d⟩,fun ⟨a,c,b,d⟩=>⟨⟨a,b⟩,c,d⟩⟩
theorem Qg {rs:List RT} (h:rs.all Je=true) : ∀ r∈rs,okR r:=fun r hr=>JS.1 (List.all_eq_true.1 h r hr)
abbrev qR (q:Q3) : RT:=(q.1,Af q.2.1,Af q.2.2)
def Uk : QE→RT×Int
 | .error e=>((false,[],[]),e)
 | .ok q=>(qR q,0)
theorem Vy (x:QE) : (Rr x).map AV.d=[AV.d (.ag [.b (Uk x).1.1,.sl (L (Uk x).1.2.1),.sl (L (Uk x).1.2.2)]),.d (.i .i64 (Uk x).2)]:=by cases x<;>rfl
abbrev Yk (n:(List Nat×List Nat)×Bool) : Q3:=(n.2,val n.1.1,val n.1.2)
abbrev qN (q:Q3) : (List Nat×List Nat)×Bool:=((Af q.2.1,Af q.2.2),q.1)
def Aal (ls:List (List Nat)) : Option (List Nat):=if (ls.all (okL 100000)&&decide (ls.length≤1000))=true then some (Af (ls.map val).sum) else none
theorem Ye {ls:List (List Nat)} {r:List Nat} (h:Aal ls=some r) : Fn Tryz.prog 201 [.sl (LL ls)] (.d (.sl (L r))):=by
 obtain ⟨hc,h⟩:=D1 h
 cases h
 rw [Bool.and_eq_true,decide_eq_true_eq] at hc
 obtain ⟨h1,h2⟩:=X7 hc.1
 exact Wh h1 h2 hc.2 (by decide)
def TI (a:List Nat) (b:List Nat) : Option (List Nat×List Nat×Bool):=if (okL 500000 a&&okL 500000 b)=true then some ((Af (val a / val b),Af (PM (val a) (val b)),decide (val b≠0))) else none
theorem Sd {a:List Nat} {b:List Nat} {r:List Nat×List Nat×Bool} (h:TI a b=some r) : Fn Tryz.prog 212 [.sl (L a),.sl (L b)] (.tup [.d (.sl (L r.1)),.d (.sl (L r.2.1)),.d (.b r.2.2)]):=by
 obtain ⟨hc,h⟩:=D1 h
 cases h
 rw [Bool.and_eq_true] at hc
 obtain ⟨⟨h1,h2⟩,h3,h4⟩:=And.intro (CF.1 hc.1) (CF.1 hc.2)
 exact IW h1 h3 (by omega) (by omega)
def RD (a:List Nat) (b:List Nat) : Option (Int):=if (okL 35184372087808 a&&okL 35184372087808 b)=true then some (NK (val a) (val b)) else none
theorem QT {a:List Nat} {b:List Nat} {r:Int} (h:RD a b=some r) : Fn Tryz.prog 189 [.sl (L a),.sl (L b)] (.d (.i .i64 r)):=by
 obtain ⟨hc,h⟩:=D1 h
 cases h
 rw [Bool.and_eq_true] at hc
 obtain ⟨⟨h1,h2⟩,h3,h4⟩:=And.intro (CF.1 hc.1) (CF.1 hc.2)
 exact Nt h1 h3 (by omega) (by omega)
def IC (a:List Nat) : Option (ByteArray):=if okL 1048576 a=true then some (Ck (DU (val a))) else none
theorem Lg {a:List Nat} {r:ByteArray} (h:IC a=some r) : Fn Tryz.prog 203 [.sl (L a)] (.d (.s r)):=by
 obtain ⟨hc,h⟩:=D1 h
 cases h
 obtain ⟨h1,h2⟩:=CF.1 hc
 exact VQ h1 (by omega)
def Ir : Option (List Nat):=if True then some ([1]) else none
theorem FZ {r:List Nat} (h:Ir=some r) : Fn Tryz.prog 116 [] (.own 133 (L r)):=by
 obtain ⟨hc,h⟩:=D1 h
 cases h
 exact Nl
def Lq (a:RT) : Option ((List Nat×List Nat)×Bool):=if True then some (((a.2.1,a.2.2),a.1)) else none
theorem F7 {a:RT} {r:(List Nat×List Nat)×Bool} (h:Lq a=some r) : Fn Tryz.prog 190 [.ag [.b a.1,.sl (L a.2.1),.sl (L a.2.2)]] (.d (.ag [.sl (L r.1.1),.sl (L r.1.2),.b r.2])):=by
 obtain ⟨hc,h⟩:=D1 h
 cases h
 exact Vo _ _ _
def G7 (a:(List Nat×List Nat)×Bool) : Option (RT×Int):=if (okL 100000 a.1.1&&okL 100000 a.1.2)=true then some (Uk (RF a.2 (val a.1.1) (val a.1.2))) else none
theorem FP {a:(List Nat×List Nat)×Bool} {r:RT×Int} (h:G7 a=some r) : Fn Tryz.prog 199 [.ag [.sl (L a.1.1),.sl (L a.1.2),.b a.2]] (.tup [.d (.ag [.b r.1.1,.sl (L r.1.2.1),.sl (L r.1.2.2)]),.d (.i .i64 r.2)]):=by
 obtain ⟨hc,h⟩:=D1 h
 cases h
 rw [Bool.and_eq_true] at hc
 obtain ⟨⟨h1,h2⟩,h3,h4⟩:=And.intro (CF.1 hc.1) (CF.1 hc.2)
 have:=OQ (b:=a.2) h1 h3 h2 h4 (by decide)
 rw [QA,Vy] at this
 exact this
def TC (a:(List Nat×List Nat)×Bool) : Option ((List Nat×List Nat)×Bool):=if True then some ((a.1,!a.2)) else none
theorem Sv {a:(List Nat×List Nat)×Bool} {r:(List Nat×List Nat)×Bool} (h:TC a=some r) : Fn Tryz.prog 198 [.ag [.sl (L a.1.1),.sl (L a.1.2),.b a.2]] (.d (.ag [.sl (L r.1.1),.sl (L r.1.2),.b r.2])):=by
 obtain ⟨hc,h⟩:=D1 h
 cases h
 exact X8 _ _ _
def SN (a:(List Nat×List Nat)×Bool) (b:(List Nat×List Nat)×Bool) : Option ((List Nat×List Nat)×Bool):=if (okL 4000 a.1.1&&okL 4000 a.1.2&&(okL 4000 b.1.1&&okL 4000 b.1.2))=true then some (qN (Qi (Yk a) (Yk b))) else none
theorem Sf {a:(List Nat×List Nat)×Bool} {b:(List Nat×List Nat)×Bool} {r:(List Nat×List Nat)×Bool} (h:SN a b=some r) : Fn Tryz.prog 152 [.ag [.sl (L a.1.1),.sl (L a.1.2),.b a.2],.ag [.sl (L b.1.1),.sl (L b.1.2),.b b.2]] (.d (.ag [.sl (L r.1.1),.sl (L r.1.2),.b r.2])):=by
 obtain ⟨hc,h⟩:=D1 h
 cases h
 simp only [Bool.and_eq_true,CF] at hc
 obtain ⟨⟨⟨h1,h2⟩,h3,h4⟩,⟨h5,h6⟩,h7,h8⟩:=hc
 exact XV h1 h3 h5 h7 h2 h4 h6 h8
def QL (a:(List Nat×List Nat)×Bool) (b:(List Nat×List Nat)×Bool) : Option ((List Nat×List Nat)×Bool):=if (okL 4000 a.1.1&&okL 4000 a.1.2&&(okL 4000 b.1.1&&okL 4000 b.1.2))=true then some (qN (RW (Yk a) (Yk b))) else none
theorem Rb {a:(List Nat×List Nat)×Bool} {b:(List Nat×List Nat)×Bool} {r:(List Nat×List Nat)×Bool} (h:QL a b=some r) : Fn Tryz.prog 151 [.ag [.sl (L a.1.1),.sl (L a.1.2),.b a.2],.ag [.sl (L b.1.1),.sl (L b.1.2),.b b.2]] (.d (.ag [.sl (L r.1.1),.sl (L r.1.2),.b r.2])):=by
 obtain ⟨hc,h⟩:=D1 h
 cases h
 simp only [Bool.and_eq_true,CF] at hc
 obtain ⟨⟨⟨h1,h2⟩,h3,h4⟩,⟨h5,h6⟩,h7,h8⟩:=hc
 exact Qx h1 h3 h5 h7 h2 h4 h6 h8
def M0 (a:List Nat×List Nat) (b:List Nat×List Nat) : Option (List Nat):=if (okL 4000 a.1&&okL 4000 b.2)=true then some (Af (val a.1 * val b.2)) else none
theorem LK {a:List Nat×List Nat} {b:List Nat×List Nat} {r:List Nat} (h:M0 a b=some r) : Fn Tryz.prog 191 [.ag [.sl (L a.1),.sl (L a.2)],.ag [.sl (L b.1),.sl (L b.2)]] (.d (.sl (L r))):=by
 obtain ⟨hc,h⟩:=D1 h
 cases h
 simp only [Bool.and_eq_true,CF] at hc
 exact MB hc.1.1 hc.2.1 hc.1.2 hc.2.2
def Fa (a:List Nat) (b:List Nat) : Option (Bool):=if (okL 1048576 a&&okL 35184372087808 b)=true then some (decide (a=b)) else none
theorem Gl {a:List Nat} {b:List Nat} {r:Bool} (h:Fa a b=some r) : Fn Tryz.prog 121 [.sl (L a),.sl (L b)] (.d (.b r)):=by
 obtain ⟨hc,h⟩:=D1 h
 cases h
 simp only [Bool.and_eq_true,CF] at hc
 exact RG a b hc.1.2 hc.1.1 hc.2.1
def FK (a:List Nat) : Option (List Nat):=if a.length≤35184372087808 then some (a) else none
theorem E2 {a:List Nat} {r:List Nat} (h:FK a=some r) : Fn Tryz.prog 117 [.sl (L a)] (.own 133 (L r)):=by
 obtain ⟨hc,h⟩:=D1 h
 cases h
 exact NB _ hc
def Fl (a:RT) : Option (Bool):=if Je a=true then some (BM a) else none
theorem Es {a:RT} {r:Bool} (h:Fl a=some r) : Fn Tryz.prog 112 [.ag [.b a.1,.sl (L a.2.1),.sl (L a.2.2)]] (.d (.b r)):=by
 obtain ⟨hc,h⟩:=D1 h
 cases h
 obtain ⟨h1,h2,h3,h4⟩:=JS.1 hc
 exact Oa h1 h2 h3 h4
def Fw (rs:List RT) : Option (Bool):=if (rs.all Je&&decide (rs.length≤1048576))=true then some (rs.all BM) else none
theorem EK {rs:List RT} {r:Bool} (h:Fw rs=some r) : Fn Tryz.prog 188 [.sl (RVs rs)] (.d (.b r)):=by
 obtain ⟨hc,h⟩:=D1 h
 cases h
 rw [Bool.and_eq_true,decide_eq_true_eq] at hc
 exact Qq (Qg hc.1) hc.2
def J9 (a:RT) (b:RT) : Option (Bool):=if (decide (a.2.1.length≤35184372087808)&&decide (a.2.2.length≤35184372087808))=true then some (decide (a=b)) else none
theorem LC {a:RT} {b:RT} {r:Bool} (h:J9 a b=some r) : Fn Tryz.prog 12 [.ag [.b a.1,.sl (L a.2.1),.sl (L a.2.2)],.ag [.b b.1,.sl (L b.2.1),.sl (L b.2.2)]] (.d (.b r)):=by
 obtain ⟨hc,h⟩:=D1 h
 cases h
 simp only [Bool.and_eq_true,decide_eq_true_eq] at hc
 have:=Sn a.1 b.1 a.2.1 a.2.2 b.2.1 b.2.2 hc.1 hc.2
 rw [decide_eq_decide.2 (show (a.1=b.1∧a.2.1=b.2.1∧a.2.2=b.2.2)↔a=b by
  obtain ⟨a1,a2,a3⟩:=a;obtain ⟨b1,b2,b3⟩:=b;simp)] at this
 exact this
def DG (z:Int) : Option (RT):=if -9223372036854775808≤z∧z≤9223372036854775807 then some ((decide (z<0),Af z.natAbs,[1])) else none
theorem DI {z:Int} {r:RT} (h:DG z=some r) : Fn Tryz.prog 69 [.i .i64 z] (.d (.ag [.b r.1,.sl (L r.2.1),.sl (L r.2.2)])):=by
 obtain ⟨hc,h⟩:=D1 h
 cases h
 exact QZ hc.1 hc.2
def SG (rs:List RT) : Option (RT×Int):=if (rs.all Je&&decide (rs.length≤1048576))=true then some (Uk (X1 rs)) else none
theorem Og {rs:List RT} {r:RT×Int} (h:SG rs=some r) : Fn Tryz.prog 98 [.sl (RVs rs)] (.tup [.d (.ag [.b r.1.1,.sl (L r.1.2.1),.sl (L r.1.2.2)]),.d (.i .i64 r.2)]):=by
 obtain ⟨hc,h⟩:=D1 h
 cases h
 rw [Bool.and_eq_true,decide_eq_true_eq] at hc
 have:=Xi (Qg hc.1) hc.2
 rw [Vy] at this
 exact this
def Hq (a0:RT) (a1:RT) : Option (RT×Int):=((Fw ([a0,a1])).bind fun x1=>(if x1=true then ((Lq a0).bind fun x2=>((Lq a1).bind fun x3=>((TC x3).bind fun x4=>((SN x2 x4).bind fun x5=>((G7 x5).bind fun x6=>(some (x6.1,x6.2))))))) else (some ((false,[],[]),22))))
theorem Gi {a0:RT} {a1:RT} {r:RT×Int} (h:Hq a0 a1=some r) :
  Fn Tryz.prog 148 [.ag [.b a0.1,.sl (L a0.2.1),.sl (L a0.2.2)],.ag [.b a1.1,.sl (L a1.2.1),.sl (L a1.2.2)]] (.tup [.d (.ag [.b r.1.1,.sl (L r.1.2.1),.sl (L r.1.2.2)]),.d (.i .i64 r.2)]):=by
 unfold Hq at h
 refine Fn.ofC (rs:=[.cell 4 33,.tmp 5]) (nt:=21) Tryz.func148 rfl rfl rfl (by simp) rfl ?_;refine .sr<|kK vbx<|kK vbx<|kK (van (Ae Fv) Fq)<|kR [2,3,4,5] zj<|.seq<|.sr<|kK (Ap AU AD)<|kK (Ap AU AD)<|kK ((GN (Gr [a0,a1]) Ik).deep) ?_
 obtain ⟨x1,g1,h⟩:=bnd h
 refine kK (Ag (EK g1) Tryz.call188)<|kK vnt<|rk [2,3,4,5,10] ?_
 rcases brc h with ⟨hc,h⟩|⟨hc,h⟩
 ·refine cnf (ntf hc) ?_
  refine .sk ?_;refine .seq<|.drawn 9 AS (by kernel_rfl) ?_;refine kV (Ap AU AD) ?_
  obtain ⟨x2,g2,h⟩:=bnd h
  refine kV (Ag (F7 g2) Tryz.call190)<|kV (Ap AU AD) ?_
  obtain ⟨x3,g3,h⟩:=bnd h
  refine dv (Ag (F7 g3) Tryz.call190) ?_
  obtain ⟨x4,g4,h⟩:=bnd h
  refine dv (Ag (Sv g4) Tryz.call198) ?_
  obtain ⟨x5,g5,h⟩:=bnd h
  refine dv (Ag (Sf g5) Tryz.call152) ?_
  obtain ⟨x6,g6,h⟩:=bnd h
  refine kV (VOK.tupd (vs:=[.ag [.b x6.1.1,.sl (L x6.1.2.1),.sl (L x6.1.2.2)],.i .i64 x6.2]) (Ag (FP g6) Tryz.call199))<|kV vex<|kV vex<|dz ?_
  refine stn ?_ AD (by decide)
  refine kR [4,5] zj<|.ret ?_
  cases h
  exact ⟨_,_,⟨.inr rfl,AU,AD,p3⟩,rfl,rfl⟩
 refine cnt (ntt (bf hc)) ?_;refine .sr<|kK (vbd KO Fv Fq) ?_
 refine stn ?_ AD (by decide)
 refine kR [2,3,4,5] zj<|.ret ?_
 cases h
 exact ⟨_,_,⟨.inr rfl,AU,AD,p3⟩,rfl,rfl⟩
def Mf (a0:RT) (a1:RT) : Option (RT×Int):=((Fw ([a0,a1])).bind fun x1=>(if x1=true then (if 0<((List.length a1.2.1:Nat) : Int) then ((Lq a0).bind fun x2=>((QL x2 ((a1.2.2,a1.2.1),a1.1)).bind fun x3=>((G7 x3).bind fun x4=>(some (x4.1,x4.2))))) else (if 0<((List.length a0.2.1:Nat) : Int) then (some ((false,[],[]),3)) else ((DG 1).bind fun x5=>(some (x5,0))))) else (some ((false,[],[]),22))))
theorem M5 {a0:RT} {a1:RT} {r:RT×Int} (h:Mf a0 a1=some r) :
  Fn Tryz.prog 149 [.ag [.b a0.1,.sl (L a0.2.1),.sl (L a0.2.2)],.ag [.b a1.1,.sl (L a1.2.1),.sl (L a1.2.2)]] (.tup [.d (.ag [.b r.1.1,.sl (L r.1.2.1),.sl (L r.1.2.2)]),.d (.i .i64 r.2)]):=by
 unfold Mf at h
 refine Fn.ofC (rs:=[.cell 4 33,.tmp 5]) (nt:=39) Tryz.func149 rfl rfl rfl (by simp) rfl ?_;refine .sr<|kK vbx<|kK vbx<|kK (van (Ae Fv) Fq)<|kR [2,3,4,5] zj<|.seq<|.block<|.sr<|kK (Ap AU AD)<|kK (Ap AU AD)<|kK ((GN (Gr [a0,a1]) Ik).deep) ?_
 obtain ⟨x1,g1,h⟩:=bnd h
 refine kK (Ag (EK g1) Tryz.call188)<|kK vnt<|kR [2,3,4,5,6] zj ?_
 rcases brc h with ⟨hc,h⟩|⟨hc,h⟩
 ·refine cnf (ntf hc) ?_
  refine .sr<|kK (vfa D2)<|kK (Al EG)<|kK (AX (Aa _) (BY _) RC)<|kB zj<|kR [2,3,4,5,13] zj ?_
  rcases brc h with ⟨hc,h⟩|⟨hc,h⟩
  ·refine cnt (dT hc) ?_
   refine .seq<|.drawn 14 AS (by kernel_rfl) ?_;refine kV (Ap AU AD) ?_
   obtain ⟨x2,g2,h⟩:=bnd h
   refine kV (Ag (F7 g2) Tryz.call190)<|kV (vfa E3)<|kV (Al EG)<|kV (vfa D2)<|kV (Al EG)<|kV (vbd Zr Z4 YM)<|kV (vfa Em)<|kV (Al Dd)<|kV (vbd YP Zu Zb) ?_
   obtain ⟨x3,g3,h⟩:=bnd h
   refine dv (Ag (Rb g3) Tryz.call151) ?_
   obtain ⟨x4,g4,h⟩:=bnd h
   refine kV (VOK.tupd (vs:=[.ag [.b x4.1.1,.sl (L x4.1.2.1),.sl (L x4.1.2.2)],.i .i64 x4.2]) (Ag (FP g4) Tryz.call199))<|kV vex<|kV vex<|dz ?_
   refine stn ?_ AD (by decide)
   refine kR [4,5] zj<|.ret ?_
   cases h
   exact ⟨_,_,⟨.inr rfl,AU,AD,p3⟩,rfl,rfl⟩
  refine cnf (dF hc) ?_;refine .sr<|kK (vfa D2)<|kK (Al EG)<|kK (AX (Aa _) (BY _) RC)<|kB zj<|kR [4,5,32] zj ?_
  rcases brc h with ⟨hc,h⟩|⟨hc,h⟩
  ·refine cnt (dT hc) ?_
   refine .sr<|kK (vbd KO Fv Fq) ?_
   refine stn ?_ AD (by decide)
   refine kR [4,5] zj<|.ret ?_
   cases h
   exact ⟨_,_,⟨.inr rfl,AU,AD,p3⟩,rfl,rfl⟩
  refine cnf (dF hc) ?_;refine .sk ?_;refine .sr ?_
  obtain ⟨x5,g5,h⟩:=bnd h
  refine vk (Ag (DI g5) Tryz.call69) ?_
  refine stn ?_ AD (by decide)
  refine kR [4,5] zj<|.ret ?_
  cases h
  exact ⟨_,_,⟨.inr rfl,AU,AD,p3⟩,rfl,rfl⟩
 refine cnt (ntt (bf hc)) ?_;refine .sr<|kK (vbd KO Fv Fq) ?_
 refine stn ?_ AD (by decide)
 refine kR [4,5] zj<|.ret ?_
 cases h
 exact ⟨_,_,⟨.inr rfl,AU,AD,p3⟩,rfl,rfl⟩
def JL (a0:RT) (a1:Bool) : Option (RT×Int):=((Fl a0).bind fun x1=>(if x1=true then (Option.bind ((if a1=true then ((FK a0.2.1).bind fun x3=>((FK a0.2.2).bind fun x4=>(some ((decide (0<((List.length a0.2.1:Nat) : Int))),x3,x4)))) else ((FK a0.2.1).bind fun x5=>((FK a0.2.2).bind fun x6=>(some (false,x5,x6))))) : Option (RT)) fun (z2:RT)=>(some (z2,0))) else (some ((false,[],[]),22))))
theorem ND {a0:RT} {a1:Bool} {r:RT×Int} (h:JL a0 a1=some r) :
  Fn Tryz.prog 196 [.ag [.b a0.1,.sl (L a0.2.1),.sl (L a0.2.2)],.b a1] (.tup [.d (.ag [.b r.1.1,.sl (L r.1.2.1),.sl (L r.1.2.2)]),.d (.i .i64 r.2)]):=by
 unfold JL at h
 refine Fn.ofC (rs:=[.cell 4 33,.tmp 5]) (nt:=24) Tryz.func196 rfl rfl rfl (by simp) rfl ?_;refine .sr<|kK vbx<|kK (van (Ae Fv) Fq)<|kR [1,2,4,5] zj<|.seq<|.sr<|kK (Ap AU AD) ?_
 obtain ⟨x1,g1,h⟩:=bnd h
 refine kK (Ag (Es g1) Tryz.call112)<|kK vnt<|rk [1,2,4,5,8] ?_
 rcases brc h with ⟨hc,h⟩|⟨hc,h⟩
 ·refine cnf (ntf hc) ?_
  refine .sk ?_;refine .seq ?_
  obtain ⟨z2,hz,h⟩:=bnd h
  refine AW.mr (σ:=Unit) (fun _=>True) (fun _=>[(4,.nb [.b z2.1,.sl (L z2.2.1),.sl (L z2.2.2)]),(5,.d (.i .i64 0))]) (fun _=>[]) ?_ ?_
  ·skip
   refine .drawn 14 AS (by kernel_rfl) ?_;refine kV Ac ?_
   rcases brc hz with ⟨hc,hz⟩|⟨hc,hz⟩
   ·have hb0:a1=true:=hc
    refine kV (VOK.lit (Ac) hb0)<|kV (vfa D2)<|kV (Al EG)<|kV (AX (Aa _) (BY _) RC)<|kV vbi<|kV Ao<|kV (vfa D2)<|kV (Al EG) ?_
    obtain ⟨x3,g3,hz⟩:=bnd hz
    refine kV ((Ag (E2 g3) Tryz.call117).deep)<|kV (vfa E3)<|kV (Al EG) ?_
    obtain ⟨x4,g4,hz⟩:=bnd hz
    refine kV ((Ag (E2 g4) Tryz.call117).deep)<|kV (vbd KO Fv Fq)<|dz ?_
    refine stn ?_ AD (by decide)
    refine kD zj<|RL.gk [4,5]<|.nil ?_
    cases hz
    exact jr () trivial
   have hb0:a1=false:=(bf hc)
   refine kV (VOK.lit (Ac) hb0)<|dgf ?_;refine dgf ?_;refine dgf ?_;refine dgf ?_;refine kV Ao<|kV (vfa D2)<|kV (Al EG) ?_
   obtain ⟨x5,g5,hz⟩:=bnd hz
   refine kV ((Ag (E2 g5) Tryz.call117).deep)<|kV (vfa E3)<|kV (Al EG) ?_
   obtain ⟨x6,g6,hz⟩:=bnd hz
   refine kV ((Ag (E2 g6) Tryz.call117).deep)<|kV (vbd KO Fv Fq)<|dz ?_
   refine stn ?_ AD (by decide)
   refine kD zj<|RL.gk [4,5]<|.nil ?_
   cases hz
   exact jr () trivial
  rintro _ _
  refine .ret ?_
  cases h
  exact ⟨_,_,⟨.inr rfl,AU,AD,p3⟩,rfl,rfl⟩
 refine cnt (ntt (bf hc)) ?_;refine .sr<|kK (vbd KO Fv Fq) ?_
 refine stn ?_ AD (by decide)
 refine kR [1,2,4,5] zj<|.ret ?_
 cases h
 exact ⟨_,_,⟨.inr rfl,AU,AD,p3⟩,rfl,rfl⟩
def KW (a0:RT) (a1:Bool) : Option (RT×Int):=((Fl a0).bind fun x1=>(if x1=true then ((TI a0.2.1 a0.2.2).bind fun x2=>(if (a1&&(decide (0<((List.length x2.2.1:Nat) : Int))))=true then (Ir.bind fun x3=>((Aal ([x2.1,x3])).bind fun x4=>(Ir.bind fun x5=>((G7 ((x4,x5),a0.1)).bind fun x6=>(some (x6.1,x6.2)))))) else (Ir.bind fun x7=>((G7 ((x2.1,x7),a0.1)).bind fun x8=>(some (x8.1,x8.2)))))) else (some ((false,[],[]),22))))
theorem PX {a0:RT} {a1:Bool} {r:RT×Int} (h:KW a0 a1=some r) :
  Fn Tryz.prog 228 [.ag [.b a0.1,.sl (L a0.2.1),.sl (L a0.2.2)],.b a1] (.tup [.d (.ag [.b r.1.1,.sl (L r.1.2.1),.sl (L r.1.2.2)]),.d (.i .i64 r.2)]):=by
 unfold KW at h
 refine Fn.ofC (rs:=[.cell 4 33,.tmp 5]) (nt:=41) Tryz.func228 rfl rfl rfl (by simp) rfl ?_;refine .sr<|kK vbx<|kK (van (Ae Fv) Fq)<|kR [1,2,4,5] zj<|.seq<|.sr<|kK (Ap AU AD) ?_
 obtain ⟨x1,g1,h⟩:=bnd h
 refine kK (Ag (Es g1) Tryz.call112)<|kK vnt<|rk [1,2,4,5,11] ?_
 rcases brc h with ⟨hc,h⟩|⟨hc,h⟩
 ·refine cnf (ntf hc) ?_
  refine .sk ?_;refine .sr<|kK (vfa D2)<|kK (Al EG)<|kK (vfa E3)<|kK (Al EG) ?_
  obtain ⟨x2,g2,h⟩:=bnd h
  refine kK (VOK.tupd (vs:=[.sl (L x2.1),.sl (L x2.2.1),.b x2.2.2]) (Ag (Sd g2) Tryz.call212))<|kA zj<|kK vex<|kK vex<|kK vex<|kD zj<|kD zj<|kR [1,2,4,5,6,7] zj<|.seq<|.seq<|AW.mr (σ:=Unit) (fun _=>True) (fun _=>[(2,.d (.ptr [.b a0.1,.sl (L a0.2.1),.sl (L a0.2.2)])),(4,.nb [.b false,.sl (L []),.sl (L [])]),(5,.d (.i .i64 0)),(6,.d (.sl (L x2.1))),(27,.d (.b (a1&&(decide (0<((List.length x2.2.1:Nat):Int))))))]) (fun _=>[]) ?_ ?_
  ·skip
   refine .region<|kA zj ?_
   by_cases hc:a1=true
   ·have hb0:a1=true:=hc
    refine kC zj hb0<|kA zj<|kK (AX (Aa _) (BY _) RC)<|kB zj<|kK Ao<|RL.gk [2,4,5,6,27]<|.nil ?_
    exact jr () trivial (by simp only [hb0];rfl)
   have hb0:a1=false:=(bf hc)
   refine kC zj hb0<|gf3 ?_;refine kK Ao<|RL.gk [2,4,5,6,27]<|.nil ?_
   exact jr () trivial (by simp only [hb0];rfl)
  rintro _ _
  rcases brc h with ⟨hc,h⟩|⟨hc,h⟩
  ·refine cnt hc ?_
   refine .region<|kA zj ?_
   obtain ⟨x3,g3,h⟩:=bnd h
   refine kK ((Ag (FZ g3) Tryz.call116).deep)<|kK ((GN (Mm [x2.1,x3]) Aag).deep) ?_
   obtain ⟨x4,g4,h⟩:=bnd h
   refine kK (Ag (Ye g4) Tryz.call201)<|kR [2,4,5,6] zj<|.seq<|.drawn 9 AS (by kernel_rfl) ?_;refine kV Ac ?_
   obtain ⟨x5,g5,h⟩:=bnd h
   refine kV ((Ag (FZ g5) Tryz.call116).deep)<|kV (vbd Zr Z4 YM)<|kV (vfa Em)<|kV (Al Dd)<|kV (vbd YP Zu Zb) ?_
   obtain ⟨x6,g6,h⟩:=bnd h
   refine kV (VOK.tupd (vs:=[.ag [.b x6.1.1,.sl (L x6.1.2.1),.sl (L x6.1.2.2)],.i .i64 x6.2]) (Ag (FP g6) Tryz.call199))<|kV vex<|kV vex<|dz ?_
   refine stn ?_ AD (by decide)
   refine kR [4,5] zj<|.ret ?_
   cases h
   exact ⟨_,_,⟨.inr rfl,AU,AD,p3⟩,rfl,rfl⟩
  refine cnf (bf hc) ?_;refine .sk ?_;refine .seq<|.drawn 9 AS (by kernel_rfl) ?_;refine kV Ac ?_
  obtain ⟨x7,g7,h⟩:=bnd h
  refine kV ((Ag (FZ g7) Tryz.call116).deep)<|kV (vbd Zr Z4 YM)<|kV (vfa Em)<|kV (Al Dd)<|kV (vbd YP Zu Zb) ?_
  obtain ⟨x8,g8,h⟩:=bnd h
  refine kV (VOK.tupd (vs:=[.ag [.b x8.1.1,.sl (L x8.1.2.1),.sl (L x8.1.2.2)],.i .i64 x8.2]) (Ag (FP g8) Tryz.call199))<|kV vex<|kV vex<|dz ?_
  refine stn ?_ AD (by decide)
  refine kR [4,5] zj<|.ret ?_
  cases h
  exact ⟨_,_,⟨.inr rfl,AU,AD,p3⟩,rfl,rfl⟩
 refine cnt (ntt (bf hc)) ?_;refine .sr<|kK (vbd KO Fv Fq) ?_
 refine stn ?_ AD (by decide)
 refine kR [1,2,4,5] zj<|.ret ?_
 cases h
 exact ⟨_,_,⟨.inr rfl,AU,AD,p3⟩,rfl,rfl⟩
def KG (a0:RT) : Option (RT×Int):=((KW a0 a0.1).bind fun x1=>(some (x1.1,x1.2)))
theorem O8 {a0:RT} {r:RT×Int} (h:KG a0=some r) :
  Fn Tryz.prog 197 [.ag [.b a0.1,.sl (L a0.2.1),.sl (L a0.2.2)]] (.tup [.d (.ag [.b r.1.1,.sl (L r.1.2.1),.sl (L r.1.2.2)]),.d (.i .i64 r.2)]):=by
 unfold KG at h
 refine Fn.ofC (rs:=[.cell 2 33,.tmp 3]) (nt:=10) Tryz.func197 rfl rfl rfl (by simp) rfl ?_;refine .sr<|kK vbx<|kK (van (Ae Fv) Fq)<|kR [1,2,3] zj<|.sr<|kK (Ap AU AD)<|kK (vfa Em)<|kK (Al Dd) ?_
 obtain ⟨x1,g1,h⟩:=bnd h
 refine kK (VOK.tupd (vs:=[.ag [.b x1.1.1,.sl (L x1.1.2.1),.sl (L x1.1.2.2)],.i .i64 x1.2]) (Ag (PX g1) Tryz.call228))<|kK vex<|kK vex ?_
 refine stn ?_ AD (by decide)
 refine kR [2,3] zj<|.ret ?_
 cases h
 exact ⟨_,_,⟨.inr rfl,AU,AD,p3⟩,rfl,rfl⟩
def Iv (a0:RT) : Option (Int):=((Fl a0).bind fun x1=>(if ((!x1)||(decide (((List.length a0.2.1:Nat) : Int)=0)))=true then (some (0)) else (if a0.1=true then (some ((-1))) else (some (1)))))
theorem H7 {a0:RT} {r:Int} (h:Iv a0=some r) :
  Fn Tryz.prog 90 [.ag [.b a0.1,.sl (L a0.2.1),.sl (L a0.2.2)]] (.d (.i .i64 r)):=by
 unfold Iv at h
 refine Fn.o1 2 16 Tryz.func90 ?_;refine .sr<|kK vbx<|kR [1,2] zj<|.seq<|.block<|.seq ?_
 obtain ⟨x1,g1,h⟩:=bnd h
 refine AW.mr (σ:=Unit) (fun _=>True) (fun _=>[(1,.d (.ptr [.b a0.1,.sl (L a0.2.1),.sl (L a0.2.2)])),(2,.d (.i .i64 0)),(3,.d (.b ((!x1)||(decide (((List.length a0.2.1:Nat):Int)=0)))))]) (fun _=>[]) ?_ ?_
 ·skip
  refine .region<|kK (Ap AU AD)<|kK (Ag (Es g1) Tryz.call112)<|kK vnt ?_
  by_cases hc:x1=true
  ·have hb0:(!x1)=false:=(ntf hc)
   refine kC zj hb0<|kK (vfa D2)<|kK (Al EG)<|kK (AX (Aa _) (BY _) RC)<|kB zj<|kK Ao<|kD zj<|RL.gk [1,2,3]<|.nil ?_
   exact jr () trivial (by simp only [hb0];rfl)
  have hb0:(!x1)=true:=(ntt (bf hc))
  refine kC zj hb0<|gf4 ?_;refine kK Ao<|kD zj<|RL.gk [1,2,3]<|.nil ?_
  exact jr () trivial (by simp only [hb0];rfl)
 rintro _ _
 rcases brc h with ⟨hc,h⟩|⟨hc,h⟩
 ·refine cnt hc ?_
  refine .sr<|kR [2] zj<|.ret ?_
  cases h
  exact ⟨rfl,rfl⟩
 refine cnf (bf hc) ?_;refine .sr<|kK (vfa Em)<|kK (Al Dd)<|kR [2,13] zj ?_
 rcases brc h with ⟨hc,h⟩|⟨hc,h⟩
 ·refine cnt hc ?_
  refine .sr<|kR [2] zj<|.ret ?_
  cases h
  exact ⟨rfl,rfl⟩
 refine cnf (bf hc) ?_;refine .sk ?_;refine .sr<|kR [2] zj<|.ret ?_
 cases h
 exact ⟨rfl,rfl⟩
def Hg (a0:RT) : Option (Bool):=((Fl a0).bind fun x1=>(Option.bind ((if x1=true then (Ir.bind fun x3=>((Fa a0.2.2 x3).bind fun x4=>(some x4))) else (some false)) : Option (Bool)) fun (z1:Bool)=>(some (z1))))
theorem OZ {a0:RT} {r:Bool} (h:Hg a0=some r) :
  Fn Tryz.prog 89 [.ag [.b a0.1,.sl (L a0.2.1),.sl (L a0.2.2)]] (.d (.b r)):=by
 unfold Hg at h
 refine Fn.o1 2 11 Tryz.func89 ?_;refine .sr<|kK vbx<|kR [1,2] zj<|.seq ?_
 obtain ⟨x1,g1,h⟩:=bnd h
 obtain ⟨z1,hz,h⟩:=bnd h
 refine AW.mr (σ:=Unit) (fun _=>True) (fun _=>[(2,.d (.b z1))]) (fun _=>[]) ?_ ?_
 ·skip
  refine .drawn 8 AS (by kernel_rfl) ?_;refine kV (Ap AU AD)<|kV (Ag (Es g1) Tryz.call112) ?_
  rcases brc hz with ⟨hc,hz⟩|⟨hc,hz⟩
  ·have hb0:x1=true:=hc
   refine kV (VOK.lit (Ac) hb0)<|kV (vfa E3)<|kV (Al EG) ?_
   obtain ⟨x3,g3,hz⟩:=bnd hz
   refine dv ((Ag (FZ g3) Tryz.call116).deep) ?_
   obtain ⟨x4,g4,hz⟩:=bnd hz
   refine kV (Ag (Gl g4) Tryz.call121)<|kV Ao<|dz ?_;refine kD zj<|RL.gk [2]<|.nil ?_
   cases hz
   exact jr () trivial
  have hb0:x1=false:=(bf hc)
  refine kV (VOK.lit (Ac) hb0)<|dgf ?_;refine dgf ?_;refine dgf ?_;refine dgf ?_;refine kV Ao<|dz ?_;refine kD zj<|RL.gk [2]<|.nil ?_
  cases hz
  exact jr () trivial
 rintro _ _
 refine .ret ?_
 cases h
 exact ⟨rfl,rfl⟩
def AN (a0:(List Int)) (a1:B6) (K0:Int→Option (Int)) : Nat→Int→Int→Option (Int)
 | 0,_,_=>none
 | k+1,s2,s3=>(if s3<((List.length a0:Nat):Int) then ((rd? a0 s3).bind fun x4=>((a1.g x4).bind fun x5=>(if x5=true then (some (s3)) else (AN a0 a1 K0 k s2 (w64 (s3+1)))))) else (K0 s2))
def B8 (a0:(List Int)) (a1:B6) : Option (Int):=(jn (fun (z1:Int)=>(some ((-1)))) fun K0=>(AN a0 a1 K0 AH 0 0))
theorem FS {a0:(List Int)} {a1:B6} (oa1:J0 a1) {r:Int} (h:B8 a0 a1=some r) :
  Fn Tryz.prog 110 [.sl (Is a0),a1.dv] (.d (.i .i64 r)):=by
 unfold B8 at h
 refine Fn.o1 4 19 Tryz.func110 ?_;refine .sr<|kR [0,1,4] zj<|.seq<|.sr<|kA zj<|kK (AX (Az _) (C7 _) CQ)<|kA zj<|rk [0,1,4,7,8] ?_
 obtain ⟨K0,hK0,h⟩:=A1 h
 refine AW.mr (σ:=Int) (fun p=>K0 p=some r) (fun p=>[(4,.d (.i .i64 p))]) (fun p=>[]) ?_ ?_
 ·skip
  refine .block ?_
  refine .loop (.gk [0,1,4,7,8] ?_)
  refine AL.ind (σ:=Nat×Int×Int) (m:=fun p=>p.1) (e:=fun p=>[(0,.d (.sl (Is a0))),(1,.d (a1.dv)),(4,.d (.i .i64 p.2.1)),(7,.d (.i .i64 ((List.length a0:Nat):Int))),(8,.d (.i .i64 p.2.2))]) (h:=fun p=>[]) (I:=fun p=>AN a0 a1 K0 p.1 p.2.1 p.2.2=some r) ?_ (AH,0,0) h
  rintro ⟨k,s2,s3⟩ h ih
  dsimp only at h ih ⊢
  rcases k with _|k
  ·rw [AN] at h;cases h
  rw [AN] at h
  refine .sr<|kB zj<|rk [0,1,4,7,8,9]<|.seq ?_
  rcases brc h with ⟨hc,h⟩|⟨hc,h⟩
  ·refine cnt (dT hc) ?_
   refine .sk ?_;refine .seq<|.block<|.sr<|kA zj<|kR [0,1,4,5,7,8] zj<|.sr<|kA zj<|kA zj<|kA zj ?_
   obtain ⟨x4,g4,h⟩:=bnd h
   obtain ⟨n4,p04,q4⟩:=Aq g4
   refine kK (vix n4 p04 (Ep q4) rfl Dw)<|kK (Al Bh) ?_
   obtain ⟨x5,g5,h⟩:=bnd h
   refine kK (NP (oa1 _ _ g5))<|rk [0,1,4,5,7,8,16] ?_
   rcases brc h with ⟨hc,h⟩|⟨hc,h⟩
   ·refine cnt hc ?_
    refine .sr<|kA zj<|kR [0,1,4,7,8] zj<|.ret ?_
    cases h
    exact ⟨rfl,rfl⟩
   refine cnf (bf hc) ?_;refine .sk ?_;refine .region<|kB zj<|kA zj<|.nil ?_;refine AL.gk [0,1,4,7,8] ?_
   exact ih (k,s2,(w64 (s3+1))) h (Nat.lt_succ_self _)
  refine cnf (dF hc) ?_;refine .gk [4]<|.exit ?_
  exact jr (s2) h
 rintro z1 h
 try dsimp only at h ⊢
 subst hK0
 refine aw<|.sr<|kR [4] zj<|.ret ?_
 cases h
 exact ⟨rfl,rfl⟩
def A3 (a0:(List Int)) (a1:B6) : Option (Bool):=((B8 a0 a1).bind fun x1=>(some ((decide (0≤x1)))))
theorem C3 {a0:(List Int)} {a1:B6} (oa1:J0 a1) {r:Bool} (h:A3 a0 a1=some r) :
  Fn Tryz.prog 62 [.sl (Is a0),a1.dv] (.d (.b r)):=by
 unfold A3 at h
 refine Fn.o1 4 9 Tryz.func62 ?_;refine .sr<|kR [0,1,4] zj<|.sr<|kA zj<|kA zj ?_
 obtain ⟨x1,g1,h⟩:=bnd h
 refine kK (Ag (FS oa1 g1) Tryz.call110)<|kB zj<|kR [4] zj<|.ret ?_
 cases h
 exact ⟨rfl,rfl⟩
def A9 (a0:(List Int)) (a1:Int) (K0:Int→Option (Int)) : Nat→Int→Int→Option (Int)
 | 0,_,_=>none
 | k+1,s2,s3=>(if s3<((List.length a0:Nat):Int) then ((rd? a0 s3).bind fun x4=>(if a1=x4 then (some (s3)) else (A9 a0 a1 K0 k s2 (w64 (s3+1))))) else (K0 s2))
def CD (a0:(List Int)) (a1:Int) : Option (Int):=(jn (fun (z1:Int)=>(some ((-1)))) fun K0=>(A9 a0 a1 K0 AH 0 0))
theorem G0 {a0:(List Int)} {a1:Int} {r:Int} (h:CD a0 a1=some r) :
  Fn Tryz.prog 111 [.sl (Is a0),.i .i64 a1] (.d (.i .i64 r)):=by
 unfold CD at h
 refine Fn.o1 4 19 Tryz.func111 ?_;refine .sr<|kR [0,1,4] zj<|.seq<|.sr<|kA zj<|kK (AX (Az _) (C7 _) CQ)<|kA zj<|rk [0,1,4,7,8] ?_
 obtain ⟨K0,hK0,h⟩:=A1 h
 refine AW.mr (σ:=Int) (fun p=>K0 p=some r) (fun p=>[(4,.d (.i .i64 p))]) (fun p=>[]) ?_ ?_
 ·skip
  refine .block ?_
  refine .loop (.gk [0,1,4,7,8] ?_)
  refine AL.ind (σ:=Nat×Int×Int) (m:=fun p=>p.1) (e:=fun p=>[(0,.d (.sl (Is a0))),(1,.d (.i .i64 a1)),(4,.d (.i .i64 p.2.1)),(7,.d (.i .i64 ((List.length a0:Nat):Int))),(8,.d (.i .i64 p.2.2))]) (h:=fun p=>[]) (I:=fun p=>A9 a0 a1 K0 p.1 p.2.1 p.2.2=some r) ?_ (AH,0,0) h
  rintro ⟨k,s2,s3⟩ h ih
  dsimp only at h ih ⊢
  rcases k with _|k
  ·rw [A9] at h;cases h
  rw [A9] at h
  refine .sr<|kB zj<|rk [0,1,4,7,8,9]<|.seq ?_
  rcases brc h with ⟨hc,h⟩|⟨hc,h⟩
  ·refine cnt (dT hc) ?_
   refine .sk ?_;refine .seq<|.block<|.sr<|kA zj<|kR [0,1,4,5,7,8] zj<|.sr<|kA zj<|kA zj<|kA zj ?_
   obtain ⟨x4,g4,h⟩:=bnd h
   obtain ⟨n4,p04,q4⟩:=Aq g4
   refine kK (vix n4 p04 (Ep q4) rfl Dw)<|kK (Al Bh)<|kB zj<|rk [0,1,4,5,7,8,16] ?_
   rcases brc h with ⟨hc,h⟩|⟨hc,h⟩
   ·refine cnt (dT hc) ?_
    refine .sr<|kA zj<|kR [0,1,4,7,8] zj<|.ret ?_
    cases h
    exact ⟨rfl,rfl⟩
   refine cnf (dF hc) ?_;refine .sk ?_;refine .region<|kB zj<|kA zj<|.nil ?_;refine AL.gk [0,1,4,7,8] ?_
   exact ih (k,s2,(w64 (s3+1))) h (Nat.lt_succ_self _)
  refine cnf (dF hc) ?_;refine .gk [4]<|.exit ?_
  exact jr (s2) h
 rintro z1 h
 try dsimp only at h ⊢
 subst hK0
 refine aw<|.sr<|kR [4] zj<|.ret ?_
 cases h
 exact ⟨rfl,rfl⟩
def BF (a0:(List Int)) (a1:Int) : Option (Bool):=((CD a0 a1).bind fun x1=>(some ((decide (0≤x1)))))
theorem Gq {a0:(List Int)} {a1:Int} {r:Bool} (h:BF a0 a1=some r) :
  Fn Tryz.prog 65 [.sl (Is a0),.i .i64 a1] (.d (.b r)):=by
 unfold BF at h
 refine Fn.o1 4 9 Tryz.func65 ?_;refine .sr<|kR [0,1,4] zj<|.sr<|kA zj<|kA zj ?_
 obtain ⟨x1,g1,h⟩:=bnd h
 refine kK (Ag (G0 g1) Tryz.call111)<|kB zj<|kR [4] zj<|.ret ?_
 cases h
 exact ⟨rfl,rfl⟩
def HR (a0:Int) : Option (Bool):=(some ((decide (a0<0))))
theorem L0 {a0:Int} {r:Bool} (h:HR a0=some r) :
  Fn Tryz.prog 63 [.i .i64 a0] (.d (.b r)):=by
 unfold HR at h
 refine Fn.o1 2 5 Tryz.func63 ?_;refine .sr<|kR [0,2] zj<|.sr<|kA zj<|kB zj<|kR [2] zj<|.ret ?_
 cases h
 exact ⟨rfl,rfl⟩
def HS (a0:Int) : Option (Bool):=(some ((decide (4096<a0))))
theorem LS {a0:Int} {r:Bool} (h:HS a0=some r) :
  Fn Tryz.prog 64 [.i .i64 a0] (.d (.b r)):=by
 unfold HS at h
 refine Fn.o1 2 5 Tryz.func64 ?_;refine .sr<|kR [0,2] zj<|.sr<|kA zj<|kB zj<|kR [2] zj<|.ret ?_
 cases h
 exact ⟨rfl,rfl⟩
def CO (a0:(List Int)) (K0:Int→Int→Int→Option (Int×Int)) : Nat→Int→Int→Int→Int→Option (Int×Int)
 | 0,_,_,_,_=>none
 | k+1,s7,s8,s9,s10=>(if s10<((List.length a0:Nat):Int) then ((rd? a0 s10).bind fun x11=>((Gk (s9≠0)).bind fun x12=>(if (w64 (Int.tdiv 4096 s9))<x11 then (some (0,8)) else (CO a0 K0 k s7 s8 (w64 (s9 * x11)) (w64 (s10+1)))))) else (K0 s7 s8 s9))
def Df (a0:(List Int)) : Option (Int×Int):=(if 8<((List.length a0:Nat) : Int) then (some (0,4)) else ((A3 a0 (⟨.fn 63 [] [],fun x=>HR x⟩ : B6)).bind fun x1=>(if x1=true then (some (0,3)) else ((A3 a0 (⟨.fn 64 [] [],fun x=>HS x⟩ : B6)).bind fun x2=>(if x2=true then (some (0,8)) else ((BF a0 0).bind fun x3=>(if x3=true then (some (0,0)) else (jn (fun (z4:Int) (z5:Int) (z6:Int)=>(some (z6,0))) fun K0=>(CO a0 K0 AH 0 0 1 0)))))))))
theorem D9 {a0:(List Int)} {r:Int×Int} (h:Df a0=some r) :
  Fn Tryz.prog 17 [.sl (Is a0)] (.tup [.d (.i .i64 r.1),.d (.i .i64 r.2)]):=by
 unfold Df at h
 refine Fn.of (rs:=[.tmp 2,.tmp 3]) (nt:=35) Tryz.func17 rfl rfl rfl (by simp) rfl ?_;refine .sr<|kD zj<|kR [0,2,3] zj<|.seq<|.block<|.sr<|kA zj<|kK (AX (Az _) (C7 _) CQ)<|kB zj<|kR [0,2,3,7] zj ?_
 rcases brc h with ⟨hc,h⟩|⟨hc,h⟩
 ·refine cnt (dT hc) ?_
  refine .sr<|kD zj<|kR [0,2,3] zj<|.ret ?_
  cases h
  exact ⟨by decide,rfl,rfl,rfl⟩
 refine cnf (dF hc) ?_;refine .sr<|kA zj ?_
 obtain ⟨x1,g1,h⟩:=bnd h
 refine kK (Ag (C3 (Jf Tryz.call63 (fun _ _ h=>L0 h)) g1) Tryz.call62)<|kR [0,2,3,11] zj ?_
 rcases brc h with ⟨hc,h⟩|⟨hc,h⟩
 ·refine cnt hc ?_
  refine .sr<|kD zj<|kR [0,2,3] zj<|.ret ?_
  cases h
  exact ⟨by decide,rfl,rfl,rfl⟩
 refine cnf (bf hc) ?_;refine .sr<|kA zj ?_
 obtain ⟨x2,g2,h⟩:=bnd h
 refine kK (Ag (C3 (Jf Tryz.call64 (fun _ _ h=>LS h)) g2) Tryz.call62)<|kR [0,2,3,14] zj ?_
 rcases brc h with ⟨hc,h⟩|⟨hc,h⟩
 ·refine cnt hc ?_
  refine .sr<|kD zj<|kR [0,2,3] zj<|.ret ?_
  cases h
  exact ⟨by decide,rfl,rfl,rfl⟩
 refine cnf (bf hc) ?_;refine .sr<|kA zj ?_
 obtain ⟨x3,g3,h⟩:=bnd h
 refine kK (Ag (Gq g3) Tryz.call65)<|kR [0,2,3,17] zj ?_
 rcases brc h with ⟨hc,h⟩|⟨hc,h⟩
 ·refine cnt hc ?_
  refine .sr<|kD zj<|kR [0,2,3] zj<|.ret ?_
  cases h
  exact ⟨by decide,rfl,rfl,rfl⟩
 refine cnf (bf hc) ?_;refine .sk ?_;refine .sr<|kR [0,2,3,4] zj<|.seq<|.sr<|kA zj<|kK (AX (Az _) (C7 _) CQ)<|kA zj<|rk [2,3,4,20,21,22] ?_
 obtain ⟨K0,hK0,h⟩:=A1 h
 refine AW.mr (σ:=Int×Int×Int) (fun p=>K0 p.1 p.2.1 p.2.2=some r) (fun p=>[(2,.d (.i .i64 p.1)),(3,.d (.i .i64 p.2.1)),(4,.d (.i .i64 p.2.2))]) (fun p=>[]) ?_ ?_
 ·skip
  refine .block ?_
  refine .loop (.gk [2,3,4,20,21,22] ?_)
  refine AL.ind (σ:=Nat×Int×Int×Int×Int) (m:=fun p=>p.1) (e:=fun p=>[(2,.d (.i .i64 p.2.1)),(3,.d (.i .i64 p.2.2.1)),(4,.d (.i .i64 p.2.2.2.1)),(20,.d (.sl (Is a0))),(21,.d (.i .i64 ((List.length a0:Nat):Int))),(22,.d (.i .i64 p.2.2.2.2))]) (h:=fun p=>[]) (I:=fun p=>CO a0 K0 p.1 p.2.1 p.2.2.1 p.2.2.2.1 p.2.2.2.2=some r) ?_ (AH,0,0,1,0) h
  rintro ⟨k,s7,s8,s9,s10⟩ h ih
  dsimp only at h ih ⊢
  rcases k with _|k
  ·rw [CO] at h;cases h
  rw [CO] at h
  refine .sr<|kB zj<|rk [2,3,4,20,21,22,23]<|.seq ?_
  rcases brc h with ⟨hc,h⟩|⟨hc,h⟩
  ·refine cnt (dT hc) ?_
   refine .sk ?_;refine .seq<|.block<|.sr ?_
   obtain ⟨x11,g11,h⟩:=bnd h
   obtain ⟨n11,p011,q11⟩:=Aq g11
   refine kK (vix n11 p011 (Ep q11) rfl Dw)<|kK (Al Bh)<|kR [2,3,4,6,20,21,22] zj<|.seq<|.sr<|kA zj<|kA zj ?_
   obtain ⟨x12,g12,h⟩:=bnd h
   refine kK (TX (HC g12))<|kB zj<|rk [2,3,4,6,20,21,22,29] ?_
   rcases brc h with ⟨hc,h⟩|⟨hc,h⟩
   ·refine cnt (dT hc) ?_
    refine .sr<|kD zj<|kR [2,3,4,6,20,21,22] zj<|.ret ?_
    cases h
    exact ⟨by decide,rfl,rfl,rfl⟩
   refine cnf (dF hc) ?_;refine .sk ?_;refine .region<|kA zj<|kA zj<|kB zj<|kD zj<|.nil ?_;refine aw<|.gk [2,3,4,20,21,22]<|.region<|kB zj<|kA zj<|.nil ?_;refine AL.gk [2,3,4,20,21,22] ?_
   exact ih (k,s7,s8,(w64 (s9 * x11)),(w64 (s10+1))) h (Nat.lt_succ_self _)
  refine cnf (dF hc) ?_;refine .gk [2,3,4]<|.exit ?_
  exact jr (s7,s8,s9) h
 rintro ⟨z4,z5,z6⟩ h
 try dsimp only at h ⊢
 subst hK0
 refine aw<|.sr<|kA zj<|kD zj<|kR [2,3] zj<|.ret ?_
 cases h
 exact ⟨by decide,rfl,rfl,rfl⟩
def CZ (a0:Arr) : Option (Bool):=(Option.bind ((if ((List.length a0.shape:Nat) : Int)=0 then (if ((List.length a0.items:Nat) : Int)=1 then ((rd? a0.items 0).bind fun x2=>(some (!(decide (x2.kind=3))))) else (some false)) else (some false)) : Option (Bool)) fun (z1:Bool)=>(some (z1)))
theorem GM {a0:Arr} {r:Bool} (h:CZ a0=some r) :
  Fn Tryz.prog 79 [.ag [.sl (Is a0.shape),.sl (Its a0.items)]] (.d (.b r)):=by
 unfold CZ at h
 refine Fn.o1 2 21 Tryz.func79 ?_;refine .sr<|kK vbx<|kR [1,2] zj<|.seq ?_
 obtain ⟨z1,hz,h⟩:=bnd h
 refine AW.mr (σ:=Unit) (fun _=>True) (fun _=>[(2,.d (.b z1))]) (fun _=>[]) ?_ ?_
 ·skip
  refine .region<|kK (vfa A6)<|kK (Al Cy)<|kK (AX (Az _) (C7 _) CQ)<|kB zj ?_
  rcases brc hz with ⟨hc,hz⟩|⟨hc,hz⟩
  ·have hb0:(decide (((List.length a0.shape:Nat):Int)=0))=true:=(dT hc)
   refine kC zj hb0<|kK (vfa AM)<|kK (Al Bl)<|kK (AX (Ai _) (Bg _) Ba)<|kB zj<|kK Ao ?_
   rcases brc hz with ⟨hc,hz⟩|⟨hc,hz⟩
   ·have hb1:(decide (((List.length a0.items:Nat):Int)=1))=true:=(dT hc)
    refine kC zj hb1<|kK (vfa AM)<|kK (Al Bl) ?_
    obtain ⟨x2,g2,hz⟩:=bnd hz
    obtain ⟨n2,p02,q2⟩:=Aq g2
    refine kK (vix n2 p02 (BC q2) rfl Bs)<|kK (vfa BS)<|kK (Al AY)<|kB zj<|kK Ao<|kD zj<|RL.gk [2]<|.nil ?_
    cases hz
    exact jr () trivial
   have hb1:(decide (((List.length a0.items:Nat):Int)=1))=false:=(dF hc)
   refine kC zj hb1<|gf4 ?_;refine gf2 ?_;refine kK Ao<|kD zj<|RL.gk [2]<|.nil ?_
   cases hz
   exact jr () trivial
  have hb0:(decide (((List.length a0.shape:Nat):Int)=0))=false:=(dF hc)
  refine kC zj hb0<|gf4 ?_;refine kK Ao<|kA zj<|gf4 ?_;refine gf2 ?_;refine kK Ao<|kD zj<|RL.gk [2]<|.nil ?_
  cases hz
  exact jr () trivial
 rintro _ _
 refine .ret ?_
 cases h
 exact ⟨rfl,rfl⟩
def FN (a0:Int) : Option (Bool):=(some (((decide (0≤a0))&&((decide (a0≤1114111))&&((decide (a0<55296))||(decide (57343<a0)))))))
theorem LZ {a0:Int} {r:Bool} (h:FN a0=some r) :
  Fn Tryz.prog 113 [.i .i32 a0] (.d (.b r)):=by
 unfold FN at h
 refine Fn.o1 2 17 Tryz.func113 ?_;refine .sr<|kR [0,2] zj<|.seq<|AW.mr (σ:=Unit) (fun _=>True) (fun _=>[(2,.d (.b ((decide (0≤a0))&&((decide (a0≤1114111))&&((decide (a0<55296))||(decide (57343<a0)))))))]) (fun _=>[]) ?_ ?_
 ·skip
  refine .region<|kA zj<|kB zj ?_
  by_cases hc:0≤a0
  ·have hb0:(decide (0≤a0))=true:=(dT hc)
   refine kC zj hb0<|kA zj<|kB zj<|kK Ao ?_
   by_cases hc:a0≤1114111
   ·have hb1:(decide (a0≤1114111))=true:=(dT hc)
    refine kC zj hb1<|kA zj<|kB zj ?_
    by_cases hc:a0<55296
    ·have hb2:(decide (a0<55296))=true:=(dT hc)
     refine kC zj hb2<|gf2 ?_;refine kK Ao<|kK Ao<|kD zj<|RL.gk [2]<|.nil ?_
     exact jr () trivial (by simp only [hb0,hb1,hb2];rfl)
    have hb2:(decide (a0<55296))=false:=(dF hc)
    refine kC zj hb2<|kA zj<|kB zj<|kK Ao<|kK Ao<|kD zj<|RL.gk [2]<|.nil ?_
    exact jr () trivial (by simp only [hb0,hb1,hb2];rfl)
   have hb1:(decide (a0≤1114111))=false:=(dF hc)
   refine kC zj hb1<|gf2 ?_;refine gfu ?_;refine gf3 ?_;refine kK Ao<|kD zj<|RL.gk [2]<|.nil ?_
   exact jr () trivial (by simp only [hb0,hb1];rfl)
  have hb0:(decide (0≤a0))=false:=(dF hc)
  refine kC zj hb0<|gf2 ?_;refine kK Ao<|kA zj<|gf2 ?_;refine gfu ?_;refine gf3 ?_;refine kK Ao<|kD zj<|RL.gk [2]<|.nil ?_
  exact jr () trivial (by simp only [hb0];rfl)
 rintro _ _
 refine .ret ?_
 cases h
 exact ⟨rfl,rfl⟩
theorem WR : 0<Av Tryz.prog 3:=by rw [GS];decide
def E0 (a:(List Int)) : Option ((List Int)):=ap? 17592186044416 [] a
theorem GR {a r:(List Int)} (h:E0 a=some r) : Fn Tryz.prog 21 [.sl (Is a)] (.own 3 (Is r)):=by
 unfold E0 at h
 refine Fn.o1 2 8 Tryz.func21 ?_;refine .sr<|asn ?_;refine rn<|.seq<|.sr<|kA zj ?_
 refine nq (fun b hb=>?_) (C7 _) CQ
 refine rn ?_
 refine cnd (fun hc=>?_) (fun hc=>?_)
 ·simp only [if_true] at hc
  have h0:Is a=[]:=by
   apply Classical.byContradiction
   intro h;rw [hb h] at hc;cases hc
  have h1:r=[]:=by
   have:=(Mh h).2
   rw [this,List.nil_append]
   exact List.length_eq_zero_iff.1 (by rw [← Az a,h0];rfl)
  subst h1
  refine .sr<|asn ?_;refine rn<|.gh (Gh.nlOwn (t:=2) 3 WR rfl)<|.ret ?_
  exact ⟨rfl,rfl⟩
 ·refine .sk ?_
  refine .sr<|kK (Gs (ds':=Is []) rfl (Fc []) Gt)<|kA zj ?_
  refine Abt RX h UZ ?_ PF Az Gt
  refine aso ?_;refine rn<|.ret ?_
  exact ⟨rfl,rfl⟩
def CC (a0:RT) : Option (RT):=((FK a0.2.1).bind fun x1=>((FK a0.2.2).bind fun x2=>(some ((a0.1,x1,x2)))))
theorem Gp {a0:RT} {r:RT} (h:CC a0=some r) :
  Fn Tryz.prog 72 [.ag [.b a0.1,.sl (L a0.2.1),.sl (L a0.2.2)]] (.d (.ag [.b r.1,.sl (L r.2.1),.sl (L r.2.2)])):=by
 unfold CC at h
 refine Fn.ofC (rs:=[.cell 2 33]) (nt:=12) Tryz.func72 rfl rfl rfl (by simp) rfl ?_;refine .sr<|kK vbx<|kK (van (Ae Fv) Fq)<|rk [1,2]<|.seq<|.drawn 9 AS (by kernel_rfl) ?_;refine kV (vfa Em)<|kV (Al Dd)<|kV (vfa D2)<|kV (Al EG) ?_
 obtain ⟨x1,g1,h⟩:=bnd h
 refine kV ((Ag (E2 g1) Tryz.call117).deep)<|kV (vfa E3)<|kV (Al EG) ?_
 obtain ⟨x2,g2,h⟩:=bnd h
 refine kV ((Ag (E2 g2) Tryz.call117).deep)<|kV (vbd KO Fv Fq)<|dz ?_
 refine stn ?_ AD (by decide)
 refine rk [2]<|.ret ?_
 cases h
 exact ⟨_,⟨.inr rfl,AU,AD,p3⟩,rfl⟩
def Co (a0:RT) : Option (Itm):=((CC a0).bind fun x1=>(some ((Itm.mk 1 x1 0 []))))
theorem Ec {a0:RT} {r:Itm} (h:Co a0=some r) :
  Fn Tryz.prog 68 [.ag [.b a0.1,.sl (L a0.2.1),.sl (L a0.2.2)]] (.d (.ag [.i .u8 r.kind,.b r.num.1,.sl (L r.num.2.1),.sl (L r.num.2.2),.i .i32 r.char,.sl (Ars r.box)])):=by
 unfold Co at h
 refine Fn.ofC (rs:=[.cell 2 44]) (nt:=6) Tryz.func68 rfl rfl rfl (by simp) rfl ?_;refine .sr<|kK vbx<|kK (van (Ae Cd) Cf)<|rk [1,2]<|.sr<|kK (Ap AU AD) ?_
 obtain ⟨x1,g1,h⟩:=bnd h
 refine kK (Ag (Gp g1) Tryz.call72)<|kK (vbd KA Cd Cf) ?_
 refine stn ?_ Am (by decide)
 refine rk [2]<|.ret ?_
 cases h
 exact ⟨_,⟨.inr rfl,AE,Am,p6⟩,rfl⟩
def JD (a0:Int) : Option (Itm):=(some ((Itm.mk 2 (false,[],[]) a0 [])))
theorem NL {a0:Int} {r:Itm} (h:JD a0=some r) :
  Fn Tryz.prog 70 [.i .i32 a0] (.d (.ag [.i .u8 r.kind,.b r.num.1,.sl (L r.num.2.1),.sl (L r.num.2.2),.i .i32 r.char,.sl (Ars r.box)])):=by
 unfold JD at h
 refine Fn.ofC (rs:=[.cell 2 44]) (nt:=5) Tryz.func70 rfl rfl rfl (by simp) rfl ?_;refine .sr<|kK (van (Ae Cd) Cf)<|rk [0,2]<|.sr<|kA zj<|kK (vbd KA Cd Cf) ?_
 refine stn ?_ Am (by decide)
 refine rk [2]<|.ret ?_
 cases h
 exact ⟨_,⟨.inr rfl,AE,Am,p6⟩,rfl⟩
def FT (a0:Itm) : Option (Arr):=(some ((Arr.mk [] [a0])))
theorem HU {a0:Itm} {r:Arr} (h:FT a0=some r) :
  Fn Tryz.prog 61 [.ag [.i .u8 a0.kind,.b a0.num.1,.sl (L a0.num.2.1),.sl (L a0.num.2.2),.i .i32 a0.char,.sl (Ars a0.box)]] (.d (.ag [.sl (Is r.shape),.sl (Its r.items)])):=by
 unfold FT at h
 refine Fn.ofC (rs:=[.cell 2 25]) (nt:=6) Tryz.func61 rfl rfl rfl (by simp) rfl ?_;refine .sr<|kK vbx<|kK (van (Ae AP) AZ)<|rk [1,2]<|.sr<|kK (Ap AE Am)<|kK ((Gs (FO a0) (ER [a0]) DF).deep)<|kK (vbd Dc AP AZ) ?_
 refine stn ?_ Ad (by decide)
 refine rk [2]<|.ret ?_
 cases h
 exact ⟨_,⟨.inr rfl,Ah,Ad,p2⟩,rfl⟩
def Lj (a0:Int) : Option (Arr):=((DG a0).bind fun x1=>((Co x1).bind fun x2=>((FT x2).bind fun x3=>(some (x3)))))
theorem PN {a0:Int} {r:Arr} (h:Lj a0=some r) :
  Fn Tryz.prog 27 [.i .i64 a0] (.d (.ag [.sl (Is r.shape),.sl (Its r.items)])):=by
 unfold Lj at h
 refine Fn.ofC (rs:=[.cell 2 25]) (nt:=7) Tryz.func27 rfl rfl rfl (by simp) rfl ?_;refine .sr<|kK (van (Ae AP) AZ)<|rk [0,2]<|.sr<|kA zj ?_
 obtain ⟨x1,g1,h⟩:=bnd h
 refine vk (Ag (DI g1) Tryz.call69) ?_
 obtain ⟨x2,g2,h⟩:=bnd h
 refine vk (Ag (Ec g2) Tryz.call68) ?_
 obtain ⟨x3,g3,h⟩:=bnd h
 refine vk (Ag (HU g3) Tryz.call61) ?_
 refine stn ?_ Ad (by decide)
 refine rk [2]<|.ret ?_
 cases h
 exact ⟨_,⟨.inr rfl,Ah,Ad,p2⟩,rfl⟩
def Bp (a0:Arr) (a1:BV) (K0:(List Int)→(List Itm)→Option (Arr)) : Nat→Int→(List Int)→(List Itm)→Option (Arr)
 | 0,_,_,_=>none
 | k+1,s4,s5,s6=>(if s4<((List.length a0.items:Nat):Int) then ((rd? a0.items s4).bind fun x7=>((a1.g x7).bind fun x8=>((ap? 1466015503701 s6 [x8]).bind fun x9=>(Bp a0 a1 K0 k (w64 (s4+1)) s5 x9)))) else (K0 s5 s6))
def BP (a0:Arr) (a1:BV) : Option (Arr):=((E0 a0.shape).bind fun x1=>(jn (fun (z2:(List Int)) (z3:(List Itm))=>(some ((Arr.mk z2 z3)))) fun K0=>(Bp a0 a1 K0 AH 0 x1 [])))
theorem Ef {a0:Arr} {a1:BV} (oa1:LH a1) {r:Arr} (h:BP a0 a1=some r) :
  Fn Tryz.prog 60 [.ag [.sl (Is a0.shape),.sl (Its a0.items)],a1.dv] (.d (.ag [.sl (Is r.shape),.sl (Its r.items)])):=by
 unfold BP at h
 refine Fn.ofC (rs:=[.cell 4 25]) (nt:=29) Tryz.func60 rfl rfl rfl (by simp) rfl ?_;refine .sr<|kK vbx<|kK (van (Ae AP) AZ)<|rk [1,2,4]<|.sr<|kK (vfa A6)<|kK (Al Cy) ?_
 obtain ⟨x1,g1,h⟩:=bnd h
 refine kK ((Ag (GR g1) Tryz.call21).deep)<|kK (Yi Dc AP (fun w I μ=>Mj w I μ))<|kK (van (Ae AP) AZ) ?_
 refine XL ?_ Ad (by decide)
 refine rk [1,2,4,5]<|.seq<|.sr<|kK (vfa AM)<|kK (Al Bl)<|kK (AX (Ai _) (Bg _) Ba)<|kA zj<|rk [1,4,5,13,14,15] ?_
 obtain ⟨K0,hK0,h⟩:=A1 h
 refine AW.mr (σ:=(List Int)×(List Itm)) (fun p=>K0 p.1 p.2=some r) (fun p=>[(4,.nb [.sl (Is []),.sl (Its [])]),(5,.bp 0 0)]) (fun p=>[HO.box [.d (.sl (Is p.1)),.own 44 (Its p.2)]]) ?_ ?_
 ·skip
  refine .block<|.gh (Gh.nlOwnC (id:=0) (off:=1) 44 (by rw [Lm];decide)) ?_
  refine .loop (.gk [1,4,5,13,14,15] ?_)
  refine AL.ind (σ:=Nat×Int×(List Int)×(List Itm)) (m:=fun p=>p.1) (e:=fun p=>[(1,.d (a1.dv)),(4,.nb [.sl (Is []),.sl (Its [])]),(5,.bp 0 0),(13,.d (.sl (Its a0.items))),(14,.d (.i .i64 ((List.length a0.items:Nat):Int))),(15,.d (.i .i64 p.2.1))]) (h:=fun p=>[HO.box [.d (.sl (Is p.2.2.1)),.own 44 (Its p.2.2.2)]]) (I:=fun p=>Bp a0 a1 K0 p.1 p.2.1 p.2.2.1 p.2.2.2=some r) ?_ (AH,0,x1,[]) h
  rintro ⟨k,s4,s5,s6⟩ h ih
  dsimp only at h ih ⊢
  rcases k with _|k
  ·rw [Bp] at h;cases h
  rw [Bp] at h
  refine .sr<|kB zj<|rk [1,4,5,13,14,15,16]<|.seq ?_
  rcases brc h with ⟨hc,h⟩|⟨hc,h⟩
  ·refine cnt (dT hc) ?_
   refine .sk ?_;refine .seq<|.block<|.sr ?_
   obtain ⟨x7,g7,h⟩:=bnd h
   obtain ⟨n7,p07,q7⟩:=Aq g7
   refine kK (vix n7 p07 (BC q7) rfl Bs)<|kK (Ap AE Am)<|kK (van (Ae Cd) Cf) ?_
   refine stn ?_ Am (by decide)
   refine rk [1,4,5,7,13,14,15]<|.drawn 6 AS (by kernel_rfl) ?_;refine kV (Gw AM)<|kV (QN (cs:=[.d (.sl (Is s5)),.own 44 (Its s6)]) rfl rfl Bl)<|kV Ac<|kV (Dv AE Am) ?_
   obtain ⟨x8,g8,h⟩:=bnd h
   refine kV (NP (oa1 _ _ g8))<|kV ((Gs (FO x8) (ER [x8]) DF).deep)<|dz ?_
   obtain ⟨x9,g9,h⟩:=bnd h
   refine UK Ja g9 rfl rfl KV ?_ Hy Ai DF
   refine RL.gk [1,4,5,7,13,14,15,19,21,22,23,24,25]<|kK (Gw AM) ?_
   refine O0 (cs:=[.d (.sl (Is s5)),.un]) (c:=.un) rfl rfl ?_ II
   refine .nil ?_;refine aw<|.gk [1,4,5,13,14,15]<|.region<|kB zj<|kA zj<|.nil ?_;refine AL.gk [1,4,5,13,14,15] ?_
   exact ih (k,(w64 (s4+1)),s5,x9) h (Nat.lt_succ_self _)
  refine cnf (dF hc) ?_;refine .gk [4,5]<|.exit ?_
  exact jr (s5,s6) h
 rintro ⟨z2,z3⟩ h
 try dsimp only at h ⊢
 subst hK0
 refine aw<|.sr<|fz (p:=.c 0 1) ?_;refine kK (Kn (cs:=[.d (.sl (Is z2)),.d (.sl (Its z3))]) (ds:=[.sl (Is z2),.sl (Its z3)]) rfl Ah Ad) ?_
 refine stn ?_ Ad (by decide)
 refine rk [4]<|.ret ?_
 cases h
 exact ⟨_,⟨.inr rfl,Ah,Ad,p2⟩,rfl⟩
def DC (rc_array_same:Itm→Option (Itm)) (a0:Itm) (K0:Int→Bool→(List Nat)→(List Nat)→Int→(List Arr)→Option (Itm)) : Nat→Int→Int→Bool→(List Nat)→(List Nat)→Int→(List Arr)→Option (Itm)
 | 0,_,_,_,_,_,_,_=>none
 | k+1,s8,s9,s10,s11,s12,s13,s14=>(if s8<((List.length a0.box:Nat):Int) then ((rd? a0.box s8).bind fun x15=>((BP x15 (⟨.fn 24 [] [],fun x=>rc_array_same x⟩:BV)).bind fun x16=>((ap? 2932031007402 s14 [x16]).bind fun x17=>(DC rc_array_same a0 K0 k (w64 (s8+1)) s9 s10 s11 s12 s13 x17)))) else (K0 s9 s10 s11 s12 s13 s14))
def IH (rc_array_same:Itm→Option (Itm)) (a0:Itm) : Option (Itm):=((CC a0.num).bind fun x1=>(jn (fun (z2:Int) (z3:Bool) (z4:(List Nat)) (z5:(List Nat)) (z6:Int) (z7:(List Arr))=>(some ((Itm.mk z2 (z3,z4,z5) z6 z7)))) fun K0=>(DC rc_array_same a0 K0 AH 0 a0.kind x1.1 x1.2.1 x1.2.2 a0.char [])))
theorem Qo {rc_array_same:Itm→Option (Itm)} (orc_array_same:∀ x0 r,rc_array_same x0=some r→Fn Tryz.prog 24 [.ag [.i .u8 x0.kind,.b x0.num.1,.sl (L x0.num.2.1),.sl (L x0.num.2.2),.i .i32 x0.char,.sl (Ars x0.box)]] (.d (.ag [.i .u8 r.kind,.b r.num.1,.sl (L r.num.2.1),.sl (L r.num.2.2),.i .i32 r.char,.sl (Ars r.box)]))) {a0:Itm} {r:Itm} (h:IH rc_array_same a0=some r) :
  Fn Tryz.prog 24 [.ag [.i .u8 a0.kind,.b a0.num.1,.sl (L a0.num.2.1),.sl (L a0.num.2.2),.i .i32 a0.char,.sl (Ars a0.box)]] (.d (.ag [.i .u8 r.kind,.b r.num.1,.sl (L r.num.2.1),.sl (L r.num.2.2),.i .i32 r.char,.sl (Ars r.box)])):=by
 unfold IH at h
 refine Fn.ofC (rs:=[.cell 2 44]) (nt:=30) Tryz.func24 rfl rfl rfl (by simp) rfl ?_;refine .sr<|kK vbx<|kK (van (Ae Cd) Cf)<|rk [1,2]<|.seq<|.drawn 9 AS (by kernel_rfl) ?_;refine kV (vfa BS)<|kV (Al AY)<|kV (vfa CU)<|kV (Al CT)<|kV (vfa BJ)<|kV (Ap AU AD) ?_
 obtain ⟨x1,g1,h⟩:=bnd h
 refine kV (Ag (Gp g1) Tryz.call72)<|kV (Yi KA Cd (fun w I μ=>XY w I μ))<|kV (van (Ae Cd) Cf)<|dz ?_
 refine XL ?_ Am (by decide)
 refine rk [1,2,3]<|.seq<|.sr<|kK (vfa A5)<|kK (Al B2)<|kK (AX (Bu _) (Ek _) Ei)<|kA zj<|rk [2,3,15,16,17] ?_
 obtain ⟨K0,hK0,h⟩:=A1 h
 refine AW.mr (σ:=Int×Bool×(List Nat)×(List Nat)×Int×(List Arr)) (fun p=>K0 p.1 p.2.1 p.2.2.1 p.2.2.2.1 p.2.2.2.2.1 p.2.2.2.2.2=some r) (fun p=>[(2,.nb [.i .u8 0,.b false,.sl (L []),.sl (L []),.i .i32 0,.sl (Ars [])]),(3,.bp 0 0)]) (fun p=>[HO.box [.d (.i .u8 p.1),.d (.b p.2.1),.d (.sl (L p.2.2.1)),.d (.sl (L p.2.2.2.1)),.d (.i .i32 p.2.2.2.2.1),.own 25 (Ars p.2.2.2.2.2)]]) ?_ ?_
 ·skip
  refine .block<|.gh (Gh.nlOwnC (id:=0) (off:=5) 25 (by rw [ZB];decide)) ?_
  refine .loop (.gk [2,3,15,16,17] ?_)
  refine AL.ind (σ:=Nat×Int×Int×Bool×(List Nat)×(List Nat)×Int×(List Arr)) (m:=fun p=>p.1) (e:=fun p=>[(2,.nb [.i .u8 0,.b false,.sl (L []),.sl (L []),.i .i32 0,.sl (Ars [])]),(3,.bp 0 0),(15,.d (.sl (Ars a0.box))),(16,.d (.i .i64 ((List.length a0.box:Nat):Int))),(17,.d (.i .i64 p.2.1))]) (h:=fun p=>[HO.box [.d (.i .u8 p.2.2.1),.d (.b p.2.2.2.1),.d (.sl (L p.2.2.2.2.1)),.d (.sl (L p.2.2.2.2.2.1)),.d (.i .i32 p.2.2.2.2.2.2.1),.own 25 (Ars p.2.2.2.2.2.2.2)]]) (I:=fun p=>DC rc_array_same a0 K0 p.1 p.2.1 p.2.2.1 p.2.2.2.1 p.2.2.2.2.1 p.2.2.2.2.2.1 p.2.2.2.2.2.2.1 p.2.2.2.2.2.2.2=some r) ?_ (AH,0,a0.kind,x1.1,x1.2.1,x1.2.2,a0.char,[]) h
  rintro ⟨k,s8,s9,s10,s11,s12,s13,s14⟩ h ih
  dsimp only at h ih ⊢
  rcases k with _|k
  ·rw [DC] at h;cases h
  rw [DC] at h
  refine .sr<|kB zj<|rk [2,3,15,16,17,18]<|.seq ?_
  rcases brc h with ⟨hc,h⟩|⟨hc,h⟩
  ·refine cnt (dT hc) ?_
   refine .sk ?_;refine .seq<|.block<|.sr ?_
   obtain ⟨x15,g15,h⟩:=bnd h
   obtain ⟨n15,p015,q15⟩:=Aq g15
   refine kK (vix n15 p015 (Dr q15) rfl Du)<|kK (Ap Ah Ad)<|kK (van (Ae AP) AZ) ?_
   refine stn ?_ Ad (by decide)
   refine rk [2,3,5,15,16,17]<|.drawn 5 AS (by kernel_rfl) ?_;refine kV (Gw A5)<|kV (QN (cs:=[.d (.i .u8 s9),.d (.b s10),.d (.sl (L s11)),.d (.sl (L s12)),.d (.i .i32 s13),.own 25 (Ars s14)]) rfl rfl B2)<|kV (Dv Ah Ad) ?_
   obtain ⟨x16,g16,h⟩:=bnd h
   refine kV (Ag (Ef (Jf Tryz.call24 (fun _ _ h=>orc_array_same _ _ h)) g16) Tryz.call60)<|kV ((Gs (O6 x16) (Ko [x16]) MR).deep)<|dz ?_
   obtain ⟨x17,g17,h⟩:=bnd h
   refine UK XB g17 rfl rfl YJ ?_ TB Bu MR
   refine RL.gk [2,3,5,15,16,17,21,23,24,25,26]<|kK (Gw A5) ?_
   refine O0 (cs:=[.d (.i .u8 s9),.d (.b s10),.d (.sl (L s11)),.d (.sl (L s12)),.d (.i .i32 s13),.un]) (c:=.un) rfl rfl ?_ Zk
   refine .nil ?_;refine aw<|.gk [2,3,15,16,17]<|.region<|kB zj<|kA zj<|.nil ?_;refine AL.gk [2,3,15,16,17] ?_
   exact ih (k,(w64 (s8+1)),s9,s10,s11,s12,s13,x17) h (Nat.lt_succ_self _)
  refine cnf (dF hc) ?_;refine .gk [2,3]<|.exit ?_
  exact jr (s9,s10,s11,s12,s13,s14) h
 rintro ⟨z2,z3,z4,z5,z6,z7⟩ h
 try dsimp only at h ⊢
 subst hK0
 refine aw<|.sr<|fz (p:=.c 0 5) ?_;refine kK (Kn (cs:=[.d (.i .u8 z2),.d (.b z3),.d (.sl (L z4)),.d (.sl (L z5)),.d (.i .i32 z6),.d (.sl (Ars z7))]) (ds:=[.i .u8 z2,.b z3,.sl (L z4),.sl (L z5),.i .i32 z6,.sl (Ars z7)]) rfl AE Am) ?_
 refine stn ?_ Am (by decide)
 refine rk [2]<|.ret ?_
 cases h
 exact ⟨_,⟨.inr rfl,AE,Am,p6⟩,rfl⟩
def E6 : Nat→Itm→Option (Itm)
 | 0,_=>none
 | k+1,a0=>IH (E6 k) a0
theorem JQ : ∀ (k:Nat) (a0:Itm) (r:Itm),E6 k a0=some r→Fn Tryz.prog 24 [.ag [.i .u8 a0.kind,.b a0.num.1,.sl (L a0.num.2.1),.sl (L a0.num.2.2),.i .i32 a0.char,.sl (Ars a0.box)]] (.d (.ag [.i .u8 r.kind,.b r.num.1,.sl (L r.num.2.1),.sl (L r.num.2.2),.i .i32 r.char,.sl (Ars r.box)]))
 | 0,_,_,h=>by cases h
 | k+1,a0,_,h=>Qo (JQ k) (show IH (E6 k) a0=some _ from h)
def GH (a0:Itm) : Option (Itm):=E6 (a0.size+1) a0
theorem Gu {a0:Itm} {r:Itm} (h:GH a0=some r) : Fn Tryz.prog 24 [.ag [.i .u8 a0.kind,.b a0.num.1,.sl (L a0.num.2.1),.sl (L a0.num.2.2),.i .i32 a0.char,.sl (Ars a0.box)]] (.d (.ag [.i .u8 r.kind,.b r.num.1,.sl (L r.num.2.1),.sl (L r.num.2.2),.i .i32 r.char,.sl (Ars r.box)])):=JQ _ a0 r h
def Hi (rc_array_typed:Itm→Option (Itm)) (a0:Itm) : Option (Itm):=(if a0.kind=1 then ((DG 0).bind fun x1=>((Co x1).bind fun x2=>(some (x2)))) else (if a0.kind=2 then ((JD 32).bind fun x3=>(some (x3))) else ((rd? a0.box 0).bind fun x4=>((BP x4 (⟨.fn 22 [] [],fun x=>rc_array_typed x⟩ : BV)).bind fun x5=>(some ((Itm.mk 3 (false,[],[]) 0 [x5])))))))
theorem PR {rc_array_typed:Itm→Option (Itm)} (orc_array_typed:∀ x0 r,rc_array_typed x0=some r→Fn Tryz.prog 22 [.ag [.i .u8 x0.kind,.b x0.num.1,.sl (L x0.num.2.1),.sl (L x0.num.2.2),.i .i32 x0.char,.sl (Ars x0.box)]] (.d (.ag [.i .u8 r.kind,.b r.num.1,.sl (L r.num.2.1),.sl (L r.num.2.2),.i .i32 r.char,.sl (Ars r.box)]))) {a0:Itm} {r:Itm} (h:Hi rc_array_typed a0=some r) :
  Fn Tryz.prog 22 [.ag [.i .u8 a0.kind,.b a0.num.1,.sl (L a0.num.2.1),.sl (L a0.num.2.2),.i .i32 a0.char,.sl (Ars a0.box)]] (.d (.ag [.i .u8 r.kind,.b r.num.1,.sl (L r.num.2.1),.sl (L r.num.2.2),.i .i32 r.char,.sl (Ars r.box)])):=by
 unfold Hi at h
 refine Fn.ofC (rs:=[.cell 2 44]) (nt:=19) Tryz.func22 rfl rfl rfl (by simp) rfl ?_;refine .sr<|kK vbx<|kK (van (Ae Cd) Cf)<|rk [1,2]<|.seq<|.sr<|kK (vfa BS)<|kK (Al AY)<|rk [1,2,4]<|.block<|.sr<|kB zj<|kR [1,2,4,5] zj ?_
 rcases brc h with ⟨hc,h⟩|⟨hc,h⟩
 ·refine cnt (dT hc) ?_
  refine .sr ?_
  obtain ⟨x1,g1,h⟩:=bnd h
  refine vk (Ag (DI g1) Tryz.call69) ?_
  obtain ⟨x2,g2,h⟩:=bnd h
  refine vk (Ag (Ec g2) Tryz.call68) ?_
  refine stn ?_ Am (by decide)
  refine rk [1,2]<|.ret ?_
  cases h
  exact ⟨_,⟨.inr rfl,AE,Am,p6⟩,rfl⟩
 refine cnf (dF hc) ?_;refine .sr<|kB zj<|kR [1,2,9] zj ?_
 rcases brc h with ⟨hc,h⟩|⟨hc,h⟩
 ·refine cnt (dT hc) ?_
  refine .sr ?_
  obtain ⟨x3,g3,h⟩:=bnd h
  refine vk (Ag (NL g3) Tryz.call70) ?_
  refine stn ?_ Am (by decide)
  refine rk [1,2]<|.ret ?_
  cases h
  exact ⟨_,⟨.inr rfl,AE,Am,p6⟩,rfl⟩
 refine cnf (dF hc) ?_;refine .sk ?_;refine .sr<|kK (vfa A5)<|kK (Al B2) ?_
 obtain ⟨x4,g4,h⟩:=bnd h
 obtain ⟨n4,p04,q4⟩:=Aq g4
 refine kK (vix n4 p04 (Dr q4) rfl Du)<|kK (Ap Ah Ad) ?_
 obtain ⟨x5,g5,h⟩:=bnd h
 refine kK (Ag (Ef (Jf Tryz.call22 (fun _ _ h=>orc_array_typed _ _ h)) g5) Tryz.call60)<|kK ((Gs (O6 x5) (Ko [x5]) MR).deep)<|kK (vbd KA Cd Cf) ?_
 refine stn ?_ Am (by decide)
 refine rk [2]<|.ret ?_
 cases h
 exact ⟨_,⟨.inr rfl,AE,Am,p6⟩,rfl⟩
def EU : Nat→Itm→Option (Itm)
 | 0,_=>none
 | k+1,a0=>Hi (EU k) a0
theorem Jm : ∀ (k:Nat) (a0:Itm) (r:Itm),EU k a0=some r→Fn Tryz.prog 22 [.ag [.i .u8 a0.kind,.b a0.num.1,.sl (L a0.num.2.1),.sl (L a0.num.2.2),.i .i32 a0.char,.sl (Ars a0.box)]] (.d (.ag [.i .u8 r.kind,.b r.num.1,.sl (L r.num.2.1),.sl (L r.num.2.2),.i .i32 r.char,.sl (Ars r.box)]))
 | 0,_,_,h=>by cases h
 | k+1,a0,_,h=>PR (Jm k) (show Hi (EU k) a0=some _ from h)
def Kg (a0:Itm) : Option (Itm):=EU (a0.size+1) a0
theorem QR {a0:Itm} {r:Itm} (h:Kg a0=some r) : Fn Tryz.prog 22 [.ag [.i .u8 a0.kind,.b a0.num.1,.sl (L a0.num.2.1),.sl (L a0.num.2.2),.i .i32 a0.char,.sl (Ars a0.box)]] (.d (.ag [.i .u8 r.kind,.b r.num.1,.sl (L r.num.2.1),.sl (L r.num.2.2),.i .i32 r.char,.sl (Ars r.box)])):=Jm _ a0 r h
def BG (a0:(List Int)) (a1:(List Int)) (K0:Bool→Option (Bool)) : Nat→Bool→Int→Option (Bool)
 | 0,_,_=>none
 | k+1,s2,s3=>(if s3<((List.length a0:Nat):Int) then ((rd? a0 s3).bind fun x4=>((rd? a1 s3).bind fun x5=>(if x4=x5 then (BG a0 a1 K0 k s2 (w64 (s3+1))) else (some (false))))) else (K0 s2))
def DB (a0:(List Int)) (a1:(List Int)) : Option (Bool):=(if ((List.length a0:Nat) : Int)=((List.length a1:Nat) : Int) then (jn (fun (z1:Bool)=>(some (true))) fun K0=>(BG a0 a1 K0 AH false 0)) else (some (false)))
theorem Hh {a0:(List Int)} {a1:(List Int)} {r:Bool} (h:DB a0 a1=some r) :
  Fn Tryz.prog 118 [.sl (Is a0),.sl (Is a1)] (.d (.b r)):=by
 unfold DB at h
 refine Fn.o1 4 26 Tryz.func118 ?_;refine .sr<|kR [0,1,4] zj<|.seq<|.sr<|kA zj<|kK (AX (Az _) (C7 _) CQ)<|kA zj<|kK (AX (Az _) (C7 _) CQ)<|kB zj<|rk [0,1,4,10] ?_
 rcases brc h with ⟨hc,h⟩|⟨hc,h⟩
 ·refine cnf (ntf (dT hc)) ?_
  refine .sk ?_;refine .seq<|.sr<|kA zj<|kK (AX (Az _) (C7 _) CQ)<|kA zj<|rk [0,1,4,12,13] ?_
  obtain ⟨K0,hK0,h⟩:=A1 h
  refine AW.mr (σ:=Bool) (fun p=>K0 p=some r) (fun p=>[(4,.d (.b p))]) (fun p=>[]) ?_ ?_
  ·skip
   refine .block ?_
   refine .loop (.gk [0,1,4,12,13] ?_)
   refine AL.ind (σ:=Nat×Bool×Int) (m:=fun p=>p.1) (e:=fun p=>[(0,.d (.sl (Is a0))),(1,.d (.sl (Is a1))),(4,.d (.b p.2.1)),(12,.d (.i .i64 ((List.length a0:Nat):Int))),(13,.d (.i .i64 p.2.2))]) (h:=fun p=>[]) (I:=fun p=>BG a0 a1 K0 p.1 p.2.1 p.2.2=some r) ?_ (AH,false,0) h
   rintro ⟨k,s2,s3⟩ h ih
   dsimp only at h ih ⊢
   rcases k with _|k
   ·rw [BG] at h;cases h
   rw [BG] at h
   refine .sr<|kB zj<|rk [0,1,4,12,13,14]<|.seq ?_
   rcases brc h with ⟨hc,h⟩|⟨hc,h⟩
   ·refine cnt (dT hc) ?_
    refine .sk ?_;refine .seq<|.block<|.sr<|kA zj<|kR [0,1,4,5,12,13] zj<|.seq<|.drawn 9 AS (by kernel_rfl) ?_;refine kV Ac<|kV Ac ?_
    obtain ⟨x4,g4,h⟩:=bnd h
    obtain ⟨n4,p04,q4⟩:=Aq g4
    refine kV (vix n4 p04 (Ep q4) rfl Dw)<|kV (Al Bh)<|kV Ac<|kV Ac ?_
    obtain ⟨x5,g5,h⟩:=bnd h
    obtain ⟨n5,p05,q5⟩:=Aq g5
    refine kV (vix n5 p05 (Ep q5) rfl Dw)<|kV (Al Bh)<|kV vbi<|dz ?_;refine rk [0,1,4,12,13,24] ?_
    rcases brc h with ⟨hc,h⟩|⟨hc,h⟩
    ·refine cnf (ntf (dT hc)) ?_
     refine .sk ?_;refine .region<|kB zj<|kA zj<|.nil ?_;refine AL.gk [0,1,4,12,13] ?_
     exact ih (k,s2,(w64 (s3+1))) h (Nat.lt_succ_self _)
    refine cnt (ntt (dF hc)) ?_;refine .sr<|kR [0,1,4,12,13] zj<|.ret ?_
    cases h
    exact ⟨rfl,rfl⟩
   refine cnf (dF hc) ?_;refine .gk [4]<|.exit ?_
   exact jr (s2) h
  rintro z1 h
  try dsimp only at h ⊢
  subst hK0
  refine aw<|.sr<|kR [4] zj<|.ret ?_
  cases h
  exact ⟨rfl,rfl⟩
 refine cnt (ntt (dF hc)) ?_;refine .sr<|kR [0,1,4] zj<|.ret ?_
 cases h
 exact ⟨rfl,rfl⟩
def Au (a0:(List Itm)) (a1:(List Itm)) (a2:CV) (K0:Bool→Option (Bool)) : Nat→Bool→Int→Option (Bool)
 | 0,_,_=>none
 | k+1,s2,s3=>(if s3<((List.length a0:Nat):Int) then ((rd? a0 s3).bind fun x4=>((rd? a1 s3).bind fun x5=>((a2.g (x4,x5)).bind fun x6=>(if x6=true then (Au a0 a1 a2 K0 k s2 (w64 (s3+1))) else (some (false)))))) else (K0 s2))
def AQ (a0:(List Itm)) (a1:(List Itm)) (a2:CV) : Option (Bool):=(if ((List.length a0:Nat) : Int)=((List.length a1:Nat) : Int) then (jn (fun (z1:Bool)=>(some (true))) fun K0=>(Au a0 a1 a2 K0 AH false 0)) else (some (false)))
theorem Cg {a0:(List Itm)} {a1:(List Itm)} {a2:CV} (oa2:KT a2) {r:Bool} (h:AQ a0 a1 a2=some r) :
  Fn Tryz.prog 119 [.sl (Its a0),.sl (Its a1),a2.dv] (.d (.b r)):=by
 unfold AQ at h
 refine Fn.o1 6 32 Tryz.func119 ?_;refine .sr<|kR [0,1,2,6] zj<|.seq<|.sr<|kA zj<|kK (AX (Ai _) (Bg _) Ba)<|kA zj<|kK (AX (Ai _) (Bg _) Ba)<|kB zj<|rk [0,1,2,6,14] ?_
 rcases brc h with ⟨hc,h⟩|⟨hc,h⟩
 ·refine cnf (ntf (dT hc)) ?_
  refine .sk ?_;refine .seq<|.sr<|kA zj<|kK (AX (Ai _) (Bg _) Ba)<|kA zj<|rk [1,2,6,15,16,17] ?_
  obtain ⟨K0,hK0,h⟩:=A1 h
  refine AW.mr (σ:=Bool) (fun p=>K0 p=some r) (fun p=>[(6,.d (.b p))]) (fun p=>[]) ?_ ?_
  ·skip
   refine .block ?_
   refine .loop (.gk [1,2,6,15,16,17] ?_)
   refine AL.ind (σ:=Nat×Bool×Int) (m:=fun p=>p.1) (e:=fun p=>[(1,.d (.sl (Its a1))),(2,.d (a2.dv)),(6,.d (.b p.2.1)),(15,.d (.sl (Its a0))),(16,.d (.i .i64 ((List.length a0:Nat):Int))),(17,.d (.i .i64 p.2.2))]) (h:=fun p=>[]) (I:=fun p=>Au a0 a1 a2 K0 p.1 p.2.1 p.2.2=some r) ?_ (AH,false,0) h
   rintro ⟨k,s2,s3⟩ h ih
   dsimp only at h ih ⊢
   rcases k with _|k
   ·rw [Au] at h;cases h
   rw [Au] at h
   refine .sr<|kB zj<|rk [1,2,6,15,16,17,18]<|.seq ?_
   rcases brc h with ⟨hc,h⟩|⟨hc,h⟩
   ·refine cnt (dT hc) ?_
    refine .sk ?_;refine .seq<|.block<|.sr<|kA zj ?_
    obtain ⟨x4,g4,h⟩:=bnd h
    obtain ⟨n4,p04,q4⟩:=Aq g4
    refine kK (vix n4 p04 (BC q4) rfl Bs)<|kK (Ap AE Am)<|kK (van (Ae Cd) Cf)<|kD zj ?_
    refine stn ?_ Am (by decide)
    refine rk [1,2,6,7,8,15,16,17]<|.sr<|kA zj<|kA zj ?_
    obtain ⟨x5,g5,h⟩:=bnd h
    obtain ⟨n5,p05,q5⟩:=Aq g5
    refine kK (vix n5 p05 (BC q5) rfl Bs)<|kK (Ap AE Am)<|kK (van (Ae Cd) Cf) ?_
    refine stn ?_ Am (by decide)
    refine rk [1,2,6,8,9,15,16,17]<|.sr<|kA zj<|kK (Dv AE Am)<|kK (Dv AE Am) ?_
    obtain ⟨x6,g6,h⟩:=bnd h
    refine kK (NP (oa2 _ _ g6))<|kK vnt<|rk [1,2,6,15,16,17,30] ?_
    rcases brc h with ⟨hc,h⟩|⟨hc,h⟩
    ·refine cnf (ntf hc) ?_
     refine .sk ?_;refine .region<|kB zj<|kA zj<|.nil ?_;refine AL.gk [1,2,6,15,16,17] ?_
     exact ih (k,s2,(w64 (s3+1))) h (Nat.lt_succ_self _)
    refine cnt (ntt (bf hc)) ?_;refine .sr<|kR [1,2,6,15,16,17] zj<|.ret ?_
    cases h
    exact ⟨rfl,rfl⟩
   refine cnf (dF hc) ?_;refine .gk [6]<|.exit ?_
   exact jr (s2) h
  rintro z1 h
  try dsimp only at h ⊢
  subst hK0
  refine aw<|.sr<|kR [6] zj<|.ret ?_
  cases h
  exact ⟨rfl,rfl⟩
 refine cnt (ntt (dF hc)) ?_;refine .sr<|kR [0,1,2,6] zj<|.ret ?_
 cases h
 exact ⟨rfl,rfl⟩
def An (a0:(List Arr)) (a1:(List Arr)) (a2:CW) (K0:Bool→Option (Bool)) : Nat→Bool→Int→Option (Bool)
 | 0,_,_=>none
 | k+1,s2,s3=>(if s3<((List.length a0:Nat):Int) then ((rd? a0 s3).bind fun x4=>((rd? a1 s3).bind fun x5=>((a2.g (x4,x5)).bind fun x6=>(if x6=true then (An a0 a1 a2 K0 k s2 (w64 (s3+1))) else (some (false)))))) else (K0 s2))
def AF (a0:(List Arr)) (a1:(List Arr)) (a2:CW) : Option (Bool):=(if ((List.length a0:Nat) : Int)=((List.length a1:Nat) : Int) then (jn (fun (z1:Bool)=>(some (true))) fun K0=>(An a0 a1 a2 K0 AH false 0)) else (some (false)))
theorem B0 {a0:(List Arr)} {a1:(List Arr)} {a2:CW} (oa2:KF a2) {r:Bool} (h:AF a0 a1 a2=some r) :
  Fn Tryz.prog 122 [.sl (Ars a0),.sl (Ars a1),a2.dv] (.d (.b r)):=by
 unfold AF at h
 refine Fn.o1 6 32 Tryz.func122 ?_;refine .sr<|kR [0,1,2,6] zj<|.seq<|.sr<|kA zj<|kK (AX (Bu _) (Ek _) Ei)<|kA zj<|kK (AX (Bu _) (Ek _) Ei)<|kB zj<|rk [0,1,2,6,14] ?_
 rcases brc h with ⟨hc,h⟩|⟨hc,h⟩
 ·refine cnf (ntf (dT hc)) ?_
  refine .sk ?_;refine .seq<|.sr<|kA zj<|kK (AX (Bu _) (Ek _) Ei)<|kA zj<|rk [1,2,6,15,16,17] ?_
  obtain ⟨K0,hK0,h⟩:=A1 h
  refine AW.mr (σ:=Bool) (fun p=>K0 p=some r) (fun p=>[(6,.d (.b p))]) (fun p=>[]) ?_ ?_
  ·skip
   refine .block ?_
   refine .loop (.gk [1,2,6,15,16,17] ?_)
   refine AL.ind (σ:=Nat×Bool×Int) (m:=fun p=>p.1) (e:=fun p=>[(1,.d (.sl (Ars a1))),(2,.d (a2.dv)),(6,.d (.b p.2.1)),(15,.d (.sl (Ars a0))),(16,.d (.i .i64 ((List.length a0:Nat):Int))),(17,.d (.i .i64 p.2.2))]) (h:=fun p=>[]) (I:=fun p=>An a0 a1 a2 K0 p.1 p.2.1 p.2.2=some r) ?_ (AH,false,0) h
   rintro ⟨k,s2,s3⟩ h ih
   dsimp only at h ih ⊢
   rcases k with _|k
   ·rw [An] at h;cases h
   rw [An] at h
   refine .sr<|kB zj<|rk [1,2,6,15,16,17,18]<|.seq ?_
   rcases brc h with ⟨hc,h⟩|⟨hc,h⟩
   ·refine cnt (dT hc) ?_
    refine .sk ?_;refine .seq<|.block<|.sr<|kA zj ?_
    obtain ⟨x4,g4,h⟩:=bnd h
    obtain ⟨n4,p04,q4⟩:=Aq g4
    refine kK (vix n4 p04 (Dr q4) rfl Du)<|kK (Ap Ah Ad)<|kK (van (Ae AP) AZ)<|kD zj ?_
    refine stn ?_ Ad (by decide)
    refine rk [1,2,6,7,8,15,16,17]<|.sr<|kA zj<|kA zj ?_
    obtain ⟨x5,g5,h⟩:=bnd h
    obtain ⟨n5,p05,q5⟩:=Aq g5
    refine kK (vix n5 p05 (Dr q5) rfl Du)<|kK (Ap Ah Ad)<|kK (van (Ae AP) AZ) ?_
    refine stn ?_ Ad (by decide)
    refine rk [1,2,6,8,9,15,16,17]<|.sr<|kA zj<|kK (Dv Ah Ad)<|kK (Dv Ah Ad) ?_
    obtain ⟨x6,g6,h⟩:=bnd h
    refine kK (NP (oa2 _ _ g6))<|kK vnt<|rk [1,2,6,15,16,17,30] ?_
    rcases brc h with ⟨hc,h⟩|⟨hc,h⟩
    ·refine cnf (ntf hc) ?_
     refine .sk ?_;refine .region<|kB zj<|kA zj<|.nil ?_;refine AL.gk [1,2,6,15,16,17] ?_
     exact ih (k,s2,(w64 (s3+1))) h (Nat.lt_succ_self _)
    refine cnt (ntt (bf hc)) ?_;refine .sr<|kR [1,2,6,15,16,17] zj<|.ret ?_
    cases h
    exact ⟨rfl,rfl⟩
   refine cnf (dF hc) ?_;refine .gk [6]<|.exit ?_
   exact jr (s2) h
  rintro z1 h
  try dsimp only at h ⊢
  subst hK0
  refine aw<|.sr<|kR [6] zj<|.ret ?_
  cases h
  exact ⟨rfl,rfl⟩
 refine cnt (ntt (dF hc)) ?_;refine .sr<|kR [0,1,2,6] zj<|.ret ?_
 cases h
 exact ⟨rfl,rfl⟩
def KK (rc_array_equal:Arr→Arr→Option (Bool)) (a0:Itm) (a1:Itm) : Option (Bool):=(if a0.kind=a1.kind then (Option.bind ((if a0.char=a1.char then (if (a0.num.1 == a1.num.1)=true then ((Fa a0.num.2.1 a1.num.2.1).bind fun x2=>(if x2=true then ((Fa a0.num.2.2 a1.num.2.2).bind fun x3=>(if x3=true then ((AF a0.box a1.box (⟨.fn 75 [] [],fun x=>rc_array_equal x.1 x.2⟩ : CW)).bind fun x4=>(some x4)) else (some false))) else (some false))) else (some false)) else (some false)) : Option (Bool)) fun (z1:Bool)=>(some (z1))) else (some (false)))
theorem Pn {rc_array_equal:Arr→Arr→Option (Bool)} (orc_array_equal:∀ x0 x1 r,rc_array_equal x0 x1=some r→Fn Tryz.prog 75 [.ag [.sl (Is x0.shape),.sl (Its x0.items)],.ag [.sl (Is x1.shape),.sl (Its x1.items)]] (.d (.b r))) {a0:Itm} {a1:Itm} {r:Bool} (h:KK rc_array_equal a0 a1=some r) :
  Fn Tryz.prog 120 [.ag [.i .u8 a0.kind,.b a0.num.1,.sl (L a0.num.2.1),.sl (L a0.num.2.2),.i .i32 a0.char,.sl (Ars a0.box)],.ag [.i .u8 a1.kind,.b a1.num.1,.sl (L a1.num.2.1),.sl (L a1.num.2.2),.i .i32 a1.char,.sl (Ars a1.box)]] (.d (.b r)):=by
 unfold KK at h
 refine Fn.o1 4 50 Tryz.func120 ?_;refine .sr<|kK vbx<|kK vbx<|kR [2,3,4] zj<|.seq<|.sr<|kK (vfa BS)<|kK (Al AY)<|rk [2,3,4,6]<|.block<|.sr<|kK (vfa BS)<|kK (Al AY)<|kB zj<|kR [2,3,4,7] zj ?_
 rcases brc h with ⟨hc,h⟩|⟨hc,h⟩
 ·refine cnt (dT hc) ?_
  refine .seq ?_
  obtain ⟨z1,hz,h⟩:=bnd h
  refine AW.mr (σ:=Unit) (fun _=>True) (fun _=>[(4,.d (.b z1))]) (fun _=>[]) ?_ ?_
  ·skip
   refine .region<|kK (vfa CU)<|kK (Al CT)<|kK (vfa CU)<|kK (Al CT)<|kB zj ?_
   rcases brc hz with ⟨hc,hz⟩|⟨hc,hz⟩
   ·have hb0:(decide (a0.char=a1.char))=true:=(dT hc)
    refine kC zj hb0<|kK (vfa BJ)<|kK (vfa Em)<|kK (Al Dd)<|kK (vfa BJ)<|kK (vfa Em)<|kK (Al Dd)<|kK (ZU (.inl rfl) bo)<|kK Ao ?_
    rcases brc hz with ⟨hc,hz⟩|⟨hc,hz⟩
    ·have hb1:(a0.num.1 == a1.num.1)=true:=hc
     refine kC zj hb1<|kK (vfa BJ)<|kK (vfa D2)<|kK (Al EG)<|kK (vfa BJ)<|kK (vfa D2)<|kK (Al EG) ?_
     obtain ⟨x2,g2,hz⟩:=bnd hz
     refine kK (Ag (Gl g2) Tryz.call121)<|kK Ao ?_
     rcases brc hz with ⟨hc,hz⟩|⟨hc,hz⟩
     ·have hb2:x2=true:=hc
      refine kC zj hb2<|kK (vfa BJ)<|kK (vfa E3)<|kK (Al EG)<|kK (vfa BJ)<|kK (vfa E3)<|kK (Al EG) ?_
      obtain ⟨x3,g3,hz⟩:=bnd hz
      refine kK (Ag (Gl g3) Tryz.call121)<|kK Ao ?_
      rcases brc hz with ⟨hc,hz⟩|⟨hc,hz⟩
      ·have hb3:x3=true:=hc
       refine kC zj hb3<|kK (vfa A5)<|kK (Al B2)<|kK (vfa A5)<|kK (Al B2) ?_
       obtain ⟨x4,g4,hz⟩:=bnd hz
       refine kK (Ag (B0 (Jf Tryz.call75 (fun _ _ h=>orc_array_equal _ _ _ h)) g4) Tryz.call122)<|kK Ao<|kD zj<|RL.gk [4]<|.nil ?_
       cases hz
       exact jr () trivial
      have hb3:x3=false:=(bf hc)
      refine kC zj hb3<|gf4 ?_;refine kG<|kK Ao<|kD zj<|RL.gk [4]<|.nil ?_
      cases hz
      exact jr () trivial
     have hb2:x2=false:=(bf hc)
     refine kC zj hb2<|gf4 ?_;refine gf3 ?_;refine kK Ao<|kA zj<|gf4 ?_;refine kG<|kK Ao<|kD zj<|RL.gk [4]<|.nil ?_
     cases hz
     exact jr () trivial
    have hb1:(a0.num.1 == a1.num.1)=false:=(bf hc)
    refine kC zj hb1<|gf4 ?_;refine gf3 ?_;refine kK Ao<|kA zj<|gf4 ?_;refine gf3 ?_;refine kK Ao<|kA zj<|gf4 ?_;refine kG<|kK Ao<|kD zj<|RL.gk [4]<|.nil ?_
    cases hz
    exact jr () trivial
   have hb0:(decide (a0.char=a1.char))=false:=(dF hc)
   refine kC zj hb0<|gf4 ?_;refine gf3 ?_;refine kK Ao<|kA zj<|gf4 ?_;refine gf3 ?_;refine kK Ao<|kA zj<|gf4 ?_;refine gf3 ?_;refine kK Ao<|kA zj<|gf4 ?_;refine kG<|kK Ao<|kD zj<|RL.gk [4]<|.nil ?_
   cases hz
   exact jr () trivial
  rintro _ _
  refine .ret ?_
  cases h
  exact ⟨rfl,rfl⟩
 refine cnf (dF hc) ?_;refine .sk ?_;refine .sr<|kR [4] zj<|.ret ?_
 cases h
 exact ⟨rfl,rfl⟩
def Jc (rc_array_equal:Arr→Arr→Option (Bool)) (a0:Arr) (a1:Arr) : Option (Bool):=((DB a0.shape a1.shape).bind fun x1=>(Option.bind ((if x1=true then ((AQ a0.items a1.items (⟨.fn 120 [] [],fun x=>KK rc_array_equal x.1 x.2⟩ : CV)).bind fun x3=>(some x3)) else (some false)) : Option (Bool)) fun (z1:Bool)=>(some (z1))))
theorem Pb {rc_array_equal:Arr→Arr→Option (Bool)} (orc_array_equal:∀ x0 x1 r,rc_array_equal x0 x1=some r→Fn Tryz.prog 75 [.ag [.sl (Is x0.shape),.sl (Its x0.items)],.ag [.sl (Is x1.shape),.sl (Its x1.items)]] (.d (.b r))) {a0:Arr} {a1:Arr} {r:Bool} (h:Jc rc_array_equal a0 a1=some r) :
  Fn Tryz.prog 75 [.ag [.sl (Is a0.shape),.sl (Its a0.items)],.ag [.sl (Is a1.shape),.sl (Its a1.items)]] (.d (.b r)):=by
 unfold Jc at h
 refine Fn.o1 4 17 Tryz.func75 ?_;refine .sr<|kK vbx<|kK vbx<|kR [2,3,4] zj<|.seq ?_
 obtain ⟨x1,g1,h⟩:=bnd h
 obtain ⟨z1,hz,h⟩:=bnd h
 refine AW.mr (σ:=Unit) (fun _=>True) (fun _=>[(4,.d (.b z1))]) (fun _=>[]) ?_ ?_
 ·skip
  refine .region<|kK (vfa A6)<|kK (Al Cy)<|kK (vfa A6)<|kK (Al Cy)<|kK (Ag (Hh g1) Tryz.call118) ?_
  rcases brc hz with ⟨hc,hz⟩|⟨hc,hz⟩
  ·have hb0:x1=true:=hc
   refine kC zj hb0<|kK (vfa AM)<|kK (Al Bl)<|kK (vfa AM)<|kK (Al Bl) ?_
   obtain ⟨x3,g3,hz⟩:=bnd hz
   refine kK (Ag (Cg (Jf Tryz.call120 (fun _ _ h=>Pn orc_array_equal h)) g3) Tryz.call119)<|kK Ao<|kD zj<|RL.gk [4]<|.nil ?_
   cases hz
   exact jr () trivial
  have hb0:x1=false:=(bf hc)
  refine kC zj hb0<|gf4 ?_;refine kG<|kK Ao<|kD zj<|RL.gk [4]<|.nil ?_
  cases hz
  exact jr () trivial
 rintro _ _
 refine .ret ?_
 cases h
 exact ⟨rfl,rfl⟩
def HT : Nat→Arr→Arr→Option (Bool)
 | 0,_,_=>none
 | k+1,a0,a1=>Jc (HT k) a0 a1
theorem Jn : ∀ (k:Nat) (a0:Arr) (a1:Arr) (r:Bool),HT k a0 a1=some r→Fn Tryz.prog 75 [.ag [.sl (Is a0.shape),.sl (Its a0.items)],.ag [.sl (Is a1.shape),.sl (Its a1.items)]] (.d (.b r))
 | 0,_,_,_,h=>by cases h
 | k+1,a0,a1,_,h=>Pb (Jn k) (show Jc (HT k) a0 a1=some _ from h)
def Qr (a0:Arr) (a1:Arr) : Option (Bool):=HT (a0.size+1) a0 a1
theorem P5 {a0:Arr} {a1:Arr} {r:Bool} (h:Qr a0 a1=some r) : Fn Tryz.prog 75 [.ag [.sl (Is a0.shape),.sl (Its a0.items)],.ag [.sl (Is a1.shape),.sl (Its a1.items)]] (.d (.b r)):=Jn _ a0 a1 r h
abbrev sg (b:Bool) (n:Nat) : Int:=if b=true then -(n:Int) else n
def ofQ (p:Rat) : RT:=(decide (p.num<0),Af p.num.natAbs,Af p.den)
def Jj (n:Nat) : Prop:=(Af n).length≤32
instance (n:Nat) : Decidable (Jj n):=inferInstanceAs (Decidable (_≤_))
def KS (p:Rat) : Prop:=Jj p.num.natAbs∧Jj p.den
instance (p:Rat) : Decidable (KS p):=inferInstanceAs (Decidable (_∧_))
theorem Lb (b:Bool) (n:Nat) : (sg b n).natAbs=n:=by cases b<;>simp [sg]
theorem YU (b:Bool) (n:Nat) : decide (sg b n<0)=(b&&decide (n≠0)):=by
 cases b with
 | false=>simp [sg]
 | true=>simp only [sg,if_true,Bool.true_and];apply decide_eq_decide.2;omega
theorem WU {m n:Nat} (h:Af m=Af n) : m=n:=by rw [← AK m,h,AK]
theorem IY {r:RT} : BM r=true↔∃ p,KS p∧r=ofQ p:=by
 obtain ⟨b,n,d⟩:=r
 simp only [BM,HK,decide_eq_true_eq]
 constructor
 ·rintro ⟨h1,h2,h3,h4,h5,h6,h7⟩
  have hd0:val d≠0:=fun h=>h5 (by rw [← h2,h,A4])
  refine ⟨⟨sg b (val n),val d,hd0,by rw [Nat.Coprime,Lb];exact h7⟩,⟨?_,?_⟩,?_⟩
  ·show Jj (sg b (val n)).natAbs
   rw [Lb,Jj,h1];exact h3
  ·show Jj (val d)
   rw [Jj,h2];exact h4
  ·simp only [ofQ,Lb,h1,h2]
   rw [YU]
   congr 1
   cases b with
   | false=>rfl
   | true =>
    have:n≠[]:=fun h=>by have:=h6 h;cases this
    have hn0:val n≠0:=fun h=>this (by rw [← h1,h,A4])
    simp [hn0]
 ·rintro ⟨p,⟨h1,h2⟩,h⟩
  simp only [ofQ,Prod.mk.injEq] at h
  obtain ⟨rfl,rfl,rfl⟩:=h
  refine ⟨by rw [AK],by rw [AK],h1,h2,?_,?_,?_⟩
  ·intro h
   have:=Hz.1 h
   exact p.den_nz this
  ·intro h
   have:=Hz.1 h
   exact dF (by omega)
  ·rw [AK,AK];exact p.reduced
theorem I9 {p:Rat} (h:KS p) : BM (ofQ p)=true:=IY.2 ⟨p,h,rfl⟩
theorem Ib {k n:Nat} (h:(Af n).length≤k) : okL k (Af n)=true:=CF.2 ⟨Bf n,h⟩
theorem Nx {k n:Nat} (h:Jj n) (hk:32≤k) : okL k (Af n)=true:=Ib (nT h hk)
theorem Ii {p:Rat} (h:KS p) : Je (ofQ p)=true:=by
 simp only [Je,Bool.and_eq_true]
 exact ⟨Nx h.1 (by decide),Nx h.2 (by decide)⟩
theorem Ld : KS 0:=by
 have e0:Af 0=[]:=A4
 have e1:Af 1=[1]:=Kz (n:=1) (by decide) (by decide)
 constructor
 ·show (Af 0).length≤32;rw [e0];decide
 ·show (Af 1).length≤32;rw [e1];decide
theorem Kv : Af 1=[1]:=Kz (n:=1) (by decide) (by decide)
end Go.FL
