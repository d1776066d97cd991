/-
  Part 3 of the base of the proofs: a logic of our own over the calculus, the contracts of the functions
-/
import Derived.Test.YtbeekjoeaigngaaGreatTmB
set_option linter.unusedVariables false
namespace Go.FL
open Go Go.Proofs
theorem Uf {ys b:List Nat} {x n:Nat} (e:ys=b++[x]) (hb:Ok b) (hx:x≠0) (hxl:x<4294967296) (hn:n=32-Br x) : n<32∧val ys * 2 ^ n<4294967296 ^ ys.length∧4294967296 ^ b.length * 2147483648≤val ys * 2 ^ n:=by
 have hlx:Br x≤32:=En.2 (by omega)
 obtain ⟨j,hj,hj1,hj2⟩:=HD hx
 have hv:Br (val ys)=32 * b.length+Br x:=by rw [e];exact Md hb hx
 have hlen:ys.length=b.length+1:=by rw [e];simp
 have hvp:val ys≠0:=fun h0=>by rw [h0,show Br 0=0 from rfl] at hv;omega
 obtain ⟨m,hm,hm1,hm2⟩:=HD hvp
 have hB:∀ k,4294967296 ^ k=2 ^ (32 * k):=fun k=>by rw [Nat.pow_mul]
 refine ⟨by omega,?_,?_⟩
 ·rw [hB,hlen,show 32 * (b.length+1)=(m+1)+n by omega,Nat.pow_add]
  exact Nat.mul_lt_mul_of_pos_right hm2 (Nat.pow_pos (by decide))
 ·rw [hB,show (2147483648:Nat)=2 ^ 31 by rfl,← Nat.pow_add,show 32 * b.length+31=m+n by omega,Nat.pow_add]
  exact Nat.mul_le_mul_right _ hm1
theorem Um {v:List Nat} {k:Nat} (hv:Ok v) (hk:v.length=k+1) (h:4294967296 ^ k * 2147483648≤val v) : 2147483648≤v.getD k 0:=by
 have h1:=MN (j:=k) hv (by omega)
 have h2:=B2 v k (by omega)
 rw [EM,List.drop_eq_nil_of_le (by omega)] at h2
 simp only [val,Nat.mul_zero,Nat.add_zero] at h2
 apply Classical.byContradiction
 intro hc
 have h3:4294967296 ^ k * (v.getD k 0+1)≤4294967296 ^ k * 2147483648:=Nat.mul_le_mul_left _ (by omega)
 rw [Nat.mul_add,Nat.mul_one] at h3
 omega
theorem UY {R D E Q A:Nat} (hE:0<E) (h:R+D * E * Q=A * E) (hR:R<D * E) : A / D=Q∧R / E=A % D∧0<D:=by
 have hD:0<D:=by
  rcases Nat.eq_zero_or_pos D with h0|h0
  ·subst h0;simp at hR
  ·exact h0
 have e1:D * E * Q=(D * Q) * E:=by grind
 rw [e1] at h
 have hle:D * Q≤A:=by
  have:(D * Q) * E≤A * E:=by omega
  exact Nat.le_of_mul_le_mul_right this hE
 obtain ⟨r,rfl⟩:=Nat.exists_eq_add_of_le hle
 rw [Nat.add_mul] at h
 have hr:R=r * E:=by omega
 rw [hr] at hR
 have hrD:r<D:=Nat.lt_of_mul_lt_mul_right hR
 refine ⟨?_,?_,hD⟩
 ·rw [Nat.mul_add_div hD,Nat.div_eq_of_lt hrD,Nat.add_zero]
 ·rw [hr,Nat.mul_div_cancel _ hE,Nat.mul_add_mod,Nat.mod_eq_of_lt hrD]
theorem Sx {xs:List Nat} {n m V k:Nat} (hx:Ok xs) (hn:n<32) (hm:xs.length=m+k) (hV:4294967296 ^ k * 2147483648≤V) {u:List Nat} (hu:val u=val xs * 2 ^ n) (hl:m≤u.length) : val (u.drop m)<V:=by
 rw [B2 u m hl] at hu
 have h1:=B5 hx
 rw [hm,Nat.pow_add] at h1
 have h2:(2:Nat) ^ n≤2147483648:=Nat.pow_le_pow_right (n:=2) (by decide) (show n≤31 by omega)
 have h3:val xs * 2 ^ n<4294967296 ^ m * 4294967296 ^ k * 2 ^ n:=Nat.mul_lt_mul_of_pos_right h1 (Nat.pow_pos (by decide))
 have h4:4294967296 ^ m * 4294967296 ^ k * 2 ^ n≤4294967296 ^ m * (4294967296 ^ k * 2147483648):=by
  rw [Nat.mul_assoc]
  exact Nat.mul_le_mul_left _ (Nat.mul_le_mul_left _ h2)
 have h5:4294967296 ^ m * (4294967296 ^ k * 2147483648)≤4294967296 ^ m * V:=Nat.mul_le_mul_left _ hV
 have h6:4294967296 ^ m * val (u.drop m)<4294967296 ^ m * V:=by omega
 exact Nat.lt_of_mul_lt_mul_left h6
theorem Qm {lo P T V Q U Z W:Nat} (h:lo+P * T+V * Z=U) (hT:T=V * Q+W) {Z':Nat} (hZ:Z'+0 * P=Z+Q * P) : lo+P * W+V * Z'=U:=by
 grind
theorem WI (n:Nat) : L (List.replicate n 0)=List.replicate n (U 0):=by simp [L]
theorem HI {a b:List Nat} (ha:Ok a) (hb:Ok b) (hla:a.length≤500000) (hlb:b.length≤500000) : Fn Tryz.prog 199 [.sl (L a),.sl (L b)]
  (.tup [.d (.sl (L (Af (val a / val b)))),.d (.sl (L (Af (M6 (val a) (val b))))),.d (.b (decide (val b≠0)))]):=by
 have oa:=Bb (val a)
 have ob:=Bb (val b)
 have va:=AZ (val a)
 have vb:=AZ (val b)
 have la:=nT (Cf ha) hla
 have lb:=nT (Cf hb) hlb
 have hspl:=@K9 (val b)
 have hlt:=@M8 (val a) (val b)
 have hnil:=@EX (val b)
 refine Fn.of (rs:=[.tmp 4,.tmp 5,.tmp 6]) (nt:=163) Tryz.func199 rfl rfl rfl (by simp) rfl ?_;refine .sr ?_;refine asn ?_;refine asn ?_;refine asd ?_;refine rn ?_;refine .sr ?_;refine mvd ?_
 refine cl (xs:=[.sl (L a)]) ?_ (Dh ha (by omega)) Tryz.call197
 refine mvd ?_
 refine cl (xs:=[.sl (L b)]) ?_ (Dh hb (by omega)) Tryz.call197
 refine asd ?_;refine asd ?_;refine rn ?_
 generalize Af (val a)=xs at *
 generalize Af (val b)=ys at *
 refine .gh (Gh.keep [0,1,4,5,6] rfl) ?_;refine .mid (fun e H'=>H'=[]∧2≤ys.length∧ys.length≤xs.length∧e=[(0,.d (.sl (L xs))),(1,.d (.sl (L ys)))]) ?_ ?_
 ·refine .block ?_
  refine .sr ?_;refine mvd ?_
  refine ln ?_ (BW _) l32
  refine bi ?_;refine asd ?_;refine rn ?_
  by_cases h0:val b=0
  ·have hy:=hnil.2 h0
   subst hy
   refine B1 ?_;refine .sr ?_;refine asn ?_;refine asn ?_;refine asd ?_;refine rn ?_;refine .gh (Gh.nlD (t:=4) rfl) ?_;refine .gh (Gh.nlD (t:=5) rfl) ?_;refine .ret ?_
   refine ⟨by decide,?_,rfl,rfl,rfl⟩
   rw [h0]
   simp [M6,AR];exact ⟨rfl,rfl,rfl⟩
  ·obtain ⟨bb,x,hyx,hx0,hbb,hxl⟩:=hspl h0
   have hyl:ys.length=bb.length+1:=by rw [hyx];simp
   rw [dF (show ¬(((L ys).length:Nat):Int)=0 by rw [Ab];omega)]
   refine B4 ?_;refine .sr ?_;refine mvd ?_
   refine ln ?_ (BW _) l32
   refine bi ?_;refine asd ?_;refine rn ?_
   by_cases h1:ys.length=1
   ·have hbb0:bb=[]:=List.length_eq_zero_iff.1 (by omega)
    rw [hbb0,List.nil_append] at hyx
    have hvx:val b=x:=by rw [← vb,hyx];simp [val]
    rw [dT (show (((L ys).length:Nat):Int)=1 by rw [Ab];omega)]
    have hy0:ys[0]?=some (val b):=by rw [hyx,hvx];rfl
    have fsm:=TZ (a:=xs) (d:=val b) oa (by omega) (by omega) (by omega)
    rw [va] at fsm
    refine B1 ?_;refine .sr ?_;refine mvd ?_;refine mvd ?_
    refine ix 0 ?_ rfl (Fr hy0) rfl s32
    refine ldp ?_ a32
    refine cl (xs:=[.sl (L xs),U (val b)]) ?_ fsm Tryz.call232
    refine mvt ?_;refine ex ?_;refine ex ?_;refine asd ?_;refine asd ?_;refine rn ?_;refine .sr ?_;refine mvd ?_;refine mvd ?_;refine asd ?_;refine asd ?_;refine asd ?_;refine rn ?_;refine .ret ?_
    exact ⟨by decide,by rw [M6,if_neg h0,dT h0];rfl,rfl,rfl,rfl⟩
   ·rw [dF (show ¬(((L ys).length:Nat):Int)=1 by rw [Ab];omega)]
    refine B4 ?_;refine .sr ?_;refine mvd ?_
    refine ln ?_ (BW _) l32
    refine mvd ?_
    refine ln ?_ (BW _) l32
    refine bi ?_;refine asd ?_;refine rn ?_
    by_cases h2:xs.length<ys.length
    ·have hab:=hlt h2
     rw [dT (show (((L xs).length:Nat):Int)<((L ys).length:Nat) by rw [Ab,Ab];omega)]
     have ft:=Ky (a:=xs) oa (by omega)
     rw [va] at ft
     refine B1 ?_;refine .sr ?_;refine mvd ?_
     refine cl (xs:=[.sl (L xs)]) ?_ ft Tryz.call198
     refine asn ?_;refine aso ?_;refine asd ?_;refine rn ?_;refine .gh (Gh.nlD (t:=4) rfl) ?_;refine .gh (Gh.frz (p:=.t 5) rfl (fun _ _ h=>by cases h)) ?_;refine .ret ?_
     refine ⟨by decide,?_,rfl,rfl,rfl⟩
     rw [M6,if_neg h0,dT h0,Nat.div_eq_of_lt hab,Nat.mod_eq_of_lt hab,AR];rfl
    ·rw [dF (show ¬(((L xs).length:Nat):Int)<((L ys).length:Nat) by rw [Ab,Ab];omega)]
     refine B4 ?_;refine .gh (Gh.keep [0,1] rfl) ?_;refine .skip ?_
     exact ⟨rfl,by omega,by omega,rfl⟩
 rintro _ _ ⟨rfl,hy2,hyx,rfl⟩
 have h0:val b≠0:=fun h=>by have:=hnil.2 h;rw [this] at hy2;simp at hy2
 obtain ⟨bb,x,hys,hx0,hbb,hxl⟩:=hspl h0
 obtain ⟨k,hk⟩:∃ k,ys.length=k+2:=⟨ys.length-2,by omega⟩
 have hyl:bb.length=k+1:=by rw [hys] at hk;simp at hk;omega
 obtain ⟨m0,hm0⟩:∃ m0,xs.length=m0+(k+2):=⟨xs.length-(k+2),by omega⟩
 obtain ⟨n,hn⟩:∃ n,n=32-Br x:=⟨_,rfl⟩
 obtain ⟨hn32,hV1,hV2⟩:=Uf hys hbb hx0 hxl hn
 have hxat:ys[k+1]?=some x:=by rw [hys,← hyl];simp
 have flz:=Fz hxl
 rw [← hn] at flz
 have fsx:=LM (a:=xs) (n:=n) oa (by omega) hn32
 have fsy:=LM (a:=ys) (n:=n) ob (by omega) hn32
 obtain ⟨ux1,ux2⟩:=Nh hn32 xs 0 oa (Nat.pow_pos (by decide))
 obtain ⟨uy1,uy2⟩:=Nh hn32 ys 0 ob (Nat.pow_pos (by decide))
 have ux3:=Ii n xs 0
 have uy3:=Ii n ys 0
 rw [Nat.zero_add] at ux1 uy1
 generalize shL n 0 xs=u0 at *
 generalize shL n 0 ys=w0 at *
 have hvz:=Ey (u:=w0) (k:=ys.length) (by omega) (by rw [uy1];exact hV1)
 have hvv:val (w0.take ys.length)=val b * 2 ^ n:=by
  have:=B2 w0 ys.length (by omega)
  rw [hvz,Nat.mul_zero,Nat.add_zero,uy1,vb] at this
  exact this.symm
 have ov:=uy2.take ys.length
 have lv:(w0.take ys.length).length=k+2:=by rw [List.length_take];omega
 generalize hvdef:w0.take ys.length=v at *
 rw [vb,hyl] at hV2
 rw [vb,hk] at hV1
 rw [va] at ux1
 have htop:=Um ov (show v.length=(k+1)+1 by omega) (by rw [hvv];exact hV2)
 have hst:=Sx (V:=val v) (m:=m0+1) (k:=k+1) oa hn32 (by omega) (by rw [hvv];exact hV2) (by rw [ux1,va]) (u:=u0) (by omega)
 have hVpos:0<val v:=by rw [hvv];exact Nat.mul_pos (by omega) (Nat.pow_pos (by decide))
 have e2n:0<2 ^ n:=Nat.pow_pos (by decide)
 have hvlen:val v<4294967296 ^ (k+2):=by rw [hvv];exact hV1
 have hdend:∀ R Q,R+val v * Q=val a * 2 ^ n→R<val v→val a / val b=Q∧R / 2 ^ n=val a % val b:=fun R Q h1 h2=>by
  rw [hvv] at h1 h2
  obtain ⟨e1,e2,_⟩:=UY e2n h1 h2
  exact ⟨e1,e2⟩
 clear hspl hlt hnil hV2 hvz hV1 hvv uy1 vb va
 refine .sr ?_;refine mvd ?_;refine mvd ?_
 refine ln ?_ (BW _) l32
 refine su ((k+1:Nat):Int) ?_ ?_
 ·rw [Ab];omega
 refine ix (k+1) ?_ rfl (Fr hxat) rfl s32
 refine ldp ?_ a32
 refine cl (xs:=[.i .u32 (x:Int)]) ?_ flz Tryz.call233
 refine asd ?_;refine rn ?_;refine .gh (Gh.keep [0,1,7] rfl) ?_;refine .seq ?_;refine .drawn 10 BN (by kernel_rfl) ?_;refine dv Aa ?_;refine dv Aa ?_;refine dv (v:=.own 121 (L u0)) (vcl (xs:=[.sl (L xs),.i .i64 (n:Int)]) (r:=.own 121 (L u0)) fsx Tryz.call234) ?_;refine dv Aa ?_;refine dv Aa ?_;refine dv (v:=.d (.sl (L w0))) (vcl (xs:=[.sl (L ys),.i .i64 (n:Int)]) (r:=.own 121 (L w0)) fsy Tryz.call234).deep ?_;refine dv Aa ?_;refine dv (vln (BW _) l32) ?_;refine dv (vsl 0 ys.length ?_ (Qy _) s32) ?_
 ·rw [Ab,Ab];omega
 refine dv Xe ?_;refine dz ?_;refine asd ?_;refine RL.gh (Gh.swap (s:=55) (t:=8) rfl rfl rfl) ?_;refine rn ?_
 rw [List.drop_zero,Nat.sub_zero,SQ,hvdef]
 refine .gh (Gh.keep [0,7,8,9] rfl) ?_;refine .sr ?_;refine mvd ?_
 refine ln ?_ (BW _) l32
 refine asd ?_;refine rn ?_;refine .sr ?_;refine mvd ?_
 refine ln ?_ (BW _) l32
 refine mvd ?_;refine su (m0:Int) ?_ ?_
 ·rw [Ab,Ab];omega
 refine ad ((m0+1:Nat):Int) ?_ ?_
 ·omega
 refine mk (m0+1) ⟨rfl,rfl⟩ ?_ ?_ e32 rfl
 ·omega
 refine aso ?_;refine rn ?_;refine .mid (fun e H'=>∃ u q,Ok u∧Ok q∧u.length=u0.length∧q.length=m0+1∧val u+val v * val q=val a * 2 ^ n∧val u<val v∧e=[(4,.own 121 (L q)),(7,.d (.i .i64 (n:Int))),(8,.own 121 (L u)),(10,.d (.i .i64 ((L v).length:Nat)))]) ?_ ?_
 ·refine .sr ?_
  refine mvd ?_
  refine ln ?_ (BW _) l32
  refine mvd ?_;refine su (m0:Int) ?_ ?_
  ·rw [Ab,Ab];omega
  refine asd ?_;refine rn ?_;refine .block ?_
  refine .loop (.gh (Gh.keep [4,7,8,9,10,11] rfl) ?_)
  refine AL.cast (env':=[(4,.own 121 (L (List.replicate (m0+1) 0))),(7,.d (.i .i64 (n:Int))),(8,.own 121 (L u0)),(9,.d (.sl (L v))),(10,.d (.i .i64 ((L v).length:Nat))),(11,.d (.i .i64 (((m0+1:Nat):Int)-1)))]) (by rw [WI,show ((m0+1:Nat):Int)-1=(m0:Int) by omega];rfl) ?_
  refine AL.ind (σ:=Nat×List Nat×List Nat×Ac) (m:=fun s=>s.1) (e:=fun s=>[(4,.own 121 (L s.2.2.1)),(7,.d (.i .i64 (n:Int))),(8,.own 121 (L s.2.1)),(9,.d (.sl (L v))),(10,.d (.i .i64 ((L v).length:Nat))),(11,.d (.i .i64 ((s.1:Int)-1)))]) (h:=fun s=>s.2.2.2)
   (I:=fun s=>s.1≤m0+1∧Ok s.2.1∧Ok s.2.2.1∧s.2.1.length=u0.length∧s.2.2.1.length=m0+1∧val s.2.1+val v * val s.2.2.1=val a * 2 ^ n∧val (s.2.1.drop s.1)<val v∧∀ j,j<s.1→s.2.2.1[j]?=some 0) ?_ (m0+1,u0,List.replicate (m0+1) 0,[]) ⟨Nat.le_refl _,ux2,VG _,rfl,by simp,by simp [Q8,ux1],hst,fun j hj=>by
   dsimp only at hj ⊢
   rw [List.getElem?_replicate,if_pos hj]⟩
  rintro ⟨m,u,q,G⟩ ⟨h1,h2,h3,h4,h5,h6,h7,h8⟩ ih
  dsimp only at h1 h2 h3 h4 h5 h6 h7 h8 ih ⊢
  refine .seq ?_;refine .sr ?_;refine mvd ?_;refine bi ?_;refine rn ?_
  cases m with
  | zero =>
   rw [dF (show ¬(0:Int)≤((0:Nat):Int)-1 by omega)]
   refine B4 ?_;refine .gh (Gh.keep [4,7,8,10] rfl) ?_;refine .exit ?_
   exact ⟨u,q,h2,h3,h4,h5,h6,by simpa using h7,rfl⟩
  | succ i =>
   rw [dT (show (0:Int)≤((i+1:Nat):Int)-1 by omega)]
   obtain ⟨t1,t2,t3⟩:=OJ (u:=u) (v:=v) (i:=i) (k:=k) h2 ov lv (by omega) h7 htop
   obtain ⟨g1,g2,g3⟩:=t3 _ rfl
   have fg:=TS t1 (Dn h2 (i+k+1)) (Dn h2 (i+k)) (Dn ov (k+1)) (Dn ov k) (by omega)
   have hx2:=Ci (u:=u) (j:=i+k+2) (by omega)
   have hx1:=Ci (u:=u) (j:=i+k+1) (by omega)
   have hx0':=Ci (u:=u) (j:=i+k) (by omega)
   have hy1:=Ci (u:=v) (j:=k+1) (by omega)
   have hy0:=Ci (u:=v) (j:=k) (by omega)
   have hzd:val (u.drop (i+v.length+1))=0:=by
    have h9:=Ey (u:=u.drop (i+1)) (k:=k+2) (by rw [List.length_drop];omega) (by omega)
    rw [List.drop_drop] at h9
    rw [lv,show i+(k+2)+1=i+1+(k+2) by omega];exact h9
   generalize Nb (u.getD (i+k+2) 0) (u.getD (i+k+1) 0) (u.getD (i+k) 0) (v.getD (k+1) 0) (v.getD k 0)=g at *
   have ftk:=UZ (H:=G) (u0:=u) (v:=v) (q:=g) (at0:=i) h2 ov (by omega) (by omega) (by omega)
   obtain ⟨w1,w2,w3,w4,w5,w6,w7⟩:=Oq (u:=u) (v:=v) (i:=i) (g:=g) h2 ov (by omega) (by omega) hzd
   generalize hres:Bs g v u 0 0 i=res at *
   obtain ⟨u1,bf⟩:=res
   dsimp only at w1 w2 w3 w4 w5 w6 w7 ftk
   generalize u.getD (i+k+2) 0=x2 at *
   generalize u.getD (i+k+1) 0=x1 at *
   generalize u.getD (i+k) 0=x0 at *
   generalize v.getD (k+1) 0=y1 at *
   generalize v.getD k 0=y0 at *
   clear t1 t2 t3 hres
   refine B1 ?_;refine .skip ?_
   show AW _ _ _ _ _ _
   refine .gh (Gh.keep [4,7,8,9,10,11] rfl) ?_;refine .seq ?_;refine .block ?_;refine .seq ?_;refine .drawn 31 BN (by kernel_rfl) ?_;refine dv RO ?_;refine dv Aa ?_;refine dv Aa ?_;refine dv (vad ((i+k+2:Nat):Int) ?_) ?_
   ·rw [Ab];omega
   refine dv (OY (i+k+2) ?_ ?_ s32 (by decide)) ?_
   ·rfl
   ·rw [Ab];omega
   refine dv (Tv (U x2) ?_ a32) ?_
   ·rw [Nat.zero_add];exact Ga hx2
   refine dv RO ?_;refine dv Aa ?_;refine dv Aa ?_;refine dv (vad ((i+k+2:Nat):Int) ?_) ?_
   ·rw [Ab];omega
   refine dv (vsu ((i+k+1:Nat):Int) ?_) ?_
   ·omega
   refine dv (OY (i+k+1) ?_ ?_ s32 (by decide)) ?_
   ·rfl
   ·rw [Ab];omega
   refine dv (Tv (U x1) ?_ a32) ?_
   ·rw [Nat.zero_add];exact Ga hx1
   refine dv RO ?_;refine dv Aa ?_;refine dv Aa ?_;refine dv (vad ((i+k+2:Nat):Int) ?_) ?_
   ·rw [Ab];omega
   refine dv (vsu ((i+k:Nat):Int) ?_) ?_
   ·omega
   refine dv (OY (i+k) ?_ ?_ s32 (by decide)) ?_
   ·rfl
   ·rw [Ab];omega
   refine dv (Tv (U x0) ?_ a32) ?_
   ·rw [Nat.zero_add];exact Ga hx0'
   refine dv Aa ?_;refine dv Aa ?_;refine dv (vsu ((k+1:Nat):Int) ?_) ?_
   ·rw [Ab];omega
   refine dv (vix (k+1) rfl (Fr hy1) rfl s32) ?_;refine dv (As a32) ?_;refine dv Aa ?_;refine dv Aa ?_;refine dv (vsu ((k:Nat):Int) ?_) ?_
   ·rw [Ab];omega
   refine dv (vix k rfl (Fr hy0) rfl s32) ?_;refine dv (As a32) ?_;refine dv (v:=.d (.i .u64 (g:Int))) (vcl (xs:=[U x2,U x1,U x0,U y1,U y0]) (r:=.d (.i .u64 (g:Int))) fg Tryz.call235) ?_;refine dz ?_;refine asd ?_;refine rn ?_;refine .gh (Gh.keep [4,7,8,9,10,11,12] rfl) ?_
   rw [show ((i+1:Nat):Int)-1=(i:Int) by omega]
   refine .mid (fun e H'=>∃ u',Ok u'∧u'.length=u.length∧u'.take i=u.take i∧val (u'.drop i)=val (u.drop i) % val v∧e=[(4,.own 121 (L q)),(7,.d (.i .i64 (n:Int))),(8,.own 121 (L u')),(9,.d (.sl (L v))),(10,.d (.i .i64 ((L v).length:Nat))),(11,.d (.i .i64 (i:Int))),(12,.d (.i .u64 ((val (u.drop i) / val v:Nat):Int)))]) ?_ ?_
   ·refine .sr ?_
    refine mvo ?_;refine mvd ?_;refine mvd ?_;refine mvd ?_
    refine Xb (L u1) (fun G2=>?_) ftk Tryz.call236
    refine bi ?_;refine rn ?_
    by_cases hbf:bf=0
    ·subst hbf
     obtain ⟨r1,r2⟩:=WB (g:=g) (W:=val (u1.drop i)) hVpos (by simpa using w6) g1
     rw [dF (show ¬(0:Int)<((0:Nat):Int) by omega)]
     refine B4 ?_;refine .gh (Gh.keep [4,7,8,9,10,11,12] rfl) ?_;refine .skip ?_
     exact ⟨u1,w1,w2,w3,r2,by rw [← r1];rfl⟩
    ·have hbf1:bf=1:=by omega
     subst hbf1
     rw [dT (show (0:Int)<((1:Nat):Int) by omega)]
     obtain ⟨ag,hag⟩:∃ ag,EJ v u1 0 i=ag:=⟨_,rfl⟩
     obtain ⟨wl,c⟩:=ag
     obtain ⟨z1,z2,z3,z4,⟨ec,z5⟩,z6⟩:=PO (u:=u1) (v:=v) (i:=i) w1 ov (by omega) w5 hag rfl
     rw [Nat.one_mul] at w6
     obtain ⟨r1,r2,r3⟩:=WE (T:=val (u.drop i)) hVpos w6 w7 g2 z5 z6 (by rw [lv,Nat.pow_succ];omega)
     have hwl:=Jm v u1 0 i ov w1 (by decide) (by omega)
     rw [hag] at hwl
     obtain ⟨y1',y2',y3',y4',_,_⟩:=hwl
     dsimp only at y1' y2' y3' y4'
     have hxw:=Ci (u:=wl) (j:=i+v.length) (by omega)
     generalize wl.getD (i+v.length) 0=xw at *
     refine B1 ?_;refine .gh (Gh.keep [4,7,8,9,10,11,12] rfl) ?_;refine .sr ?_;refine mvd ?_;refine bie (.i .u64 ((g-1:Nat):Int)) ?_ ?_
     ·refine ⟨trivial,?_⟩
      rw [show (g:Int)-1=((g-1:Nat):Int) by omega,BB (by omega)]
     refine asd ?_;refine rn ?_
     rw [r1]
     refine .sr ?_;refine asd ?_;refine rn ?_;refine .mid (fun e H'=>e=[(4,.own 121 (L q)),(7,.d (.i .i64 (n:Int))),(8,.own 121 (L wl)),(9,.d (.sl (L v))),(10,.d (.i .i64 ((L v).length:Nat))),(11,.d (.i .i64 (i:Int))),(12,.d (.i .u64 ((val (u.drop i) / val v:Nat):Int))),(13,.d (.i .u32 (c:Int)))]) ?_ ?_
     ·refine .sr ?_
      refine mvd ?_
      refine ln ?_ (BW _) l32
      refine mvd ?_;refine rn ?_;refine .block ?_
      refine .loop (.gh (Gh.keep [4,7,8,9,10,11,12,13,117,118,119] rfl) ?_)
      refine AL.ind (σ:=Nat×List Nat×Nat) (m:=fun s=>v.length-s.1) (e:=fun s=>[(4,.own 121 (L q)),(7,.d (.i .i64 (n:Int))),(8,.own 121 (L s.2.1)),(9,.d (.sl (L v))),(10,.d (.i .i64 ((L v).length:Nat))),(11,.d (.i .i64 (i:Int))),(12,.d (.i .u64 ((val (u.drop i) / val v:Nat):Int))),(13,.d (.i .u32 (s.2.2:Int))),(117,.d (.sl (L v))),(118,.d (.i .i64 ((L v).length:Nat))),(119,.d (.i .i64 (s.1:Int)))]) (h:=fun _=>G++G2)
       (I:=fun s=>s.1≤v.length∧Ok s.2.1∧s.2.1.length=u.length∧s.2.2≤1∧EJ (v.drop s.1) s.2.1 s.2.2 (i+s.1)=(wl,c)) ?_ (0,u1,0) ⟨Nat.zero_le _,w1,w2,by simp,hag⟩
      rintro ⟨j,uu,cc⟩ ⟨a1,a2',a3,a4,a5⟩ ih2
      dsimp only at a1 a2' a3 a4 a5 ih2 ⊢
      refine .sr ?_;refine bi ?_;refine rn ?_;refine .seq ?_
      by_cases hj:j<v.length
      ·rw [dT (show (j:Int)<((L v).length:Nat) by rw [Ab];omega)]
       have hyv:v[j]?=some v[j]:=lG hj
       have hdr:v.drop j=v[j]::v.drop (j+1):=lC hj
       generalize v[j]=yv at hyv hdr
       rw [hdr,Qd] at a5
       have hyvl:=ov.at hyv
       have hxv:=Ci (u:=uu) (j:=i+j) (by omega)
       have hxvl:=Dn a2' (i+j)
       have fadd:=Sh hxvl hyvl (show cc<4294967296 by omega)
       have hrr:(uu.getD (i+j) 0+yv+cc) % 4294967296<4294967296:=Nat.mod_lt _ (by decide)
       have hc1:(uu.getD (i+j) 0+yv+cc) / 4294967296≤1:=by omega
       generalize (uu.getD (i+j) 0+yv+cc) % 4294967296=rr at *
       generalize (uu.getD (i+j) 0+yv+cc) / 4294967296=c' at *
       generalize uu.getD (i+j) 0=xv at *
       refine B1 ?_;refine .skip ?_
       show AW _ _ _ _ _ _
       refine .seq ?_;refine .block ?_;refine .sr ?_;refine mvd ?_
       refine ix j ?_ rfl (Fr hyv) rfl s32
       refine ldp ?_ a32
       refine asd ?_;refine asd ?_;refine rn ?_;refine .region ?_;refine mvo ?_;refine mvd ?_;refine mvd ?_;refine ad ((i+j:Nat):Int) ?_ ?_
       ·omega
       refine mvo ?_;refine mvd ?_;refine mvd ?_;refine ad ((i+j:Nat):Int) ?_ ?_
       ·omega
       refine ixr (i+j) ?_ ?_ ?_ s32 (by decide)
       ·rfl
       ·rw [Ab];omega
       refine lde (U xv) ?_ ?_ a32
       ·rw [Nat.zero_add];exact Ga hxv
       refine mvd ?_;refine mvd ?_
       refine cl (xs:=[U xv,U yv,U cc]) ?_ fadd Tryz.call237
       refine mvt ?_;refine ex ?_;refine ex ?_
       refine ixr (i+j) ?_ ?_ ?_ s32 (by decide)
       ·rfl
       ·rw [Ab];omega
       refine ste ?_ ?_ z32
       ·rw [Nat.zero_add];exact Fd hxv
       refine asd ?_;refine .nil ?_
       show AW _ _ _ _ _ _
       refine .region ?_;refine ad ((j+1:Nat):Int) ?_ ?_
       ·omega
       refine mvd ?_;refine rn ?_;refine .gh (Gh.keep [4,7,8,9,10,11,12,13,117,118,119] rfl) ?_
       have:=ih2 (j+1,uu.set (i+j) rr,c') ⟨by dsimp only;omega,a2'.set _ hrr,by dsimp only;rw [List.length_set];exact a3,hc1,a5⟩ (by dsimp only;omega)
       dsimp only at this
       rw [← Lw] at this
       exact this
      ·rw [dF (show ¬(j:Int)<((L v).length:Nat) by rw [Ab];omega)]
       refine B4 ?_;refine .gh (Gh.keep [4,7,8,9,10,11,12,13] rfl) ?_;refine .exit ?_
       have hje:j=v.length:=by omega
       subst hje
       rw [List.drop_eq_nil_of_le (Nat.le_refl _)] at a5
       have e1:uu=wl∧cc=c:=by simpa [EJ] using a5
       show _=_
       rw [← e1.1,← e1.2];rfl
     rintro _ H3 rfl
     refine .region ?_;refine mvo ?_;refine mvd ?_;refine mvd ?_;refine ad ((i+v.length:Nat):Int) ?_ ?_
     ·rw [Ab];omega
     refine ixr (i+v.length) ?_ ?_ ?_ s32 (by decide)
     ·rfl
     ·rw [Ab];omega
     refine lde (U xw) ?_ ?_ a32
     ·rw [Nat.zero_add];exact Ga hxw
     refine mvd ?_;refine bie (.i .u32 (((xw+c) % 4294967296:Nat):Int)) ?_ ?_
     ·exact ⟨trivial,by rw [← Int.natCast_add,EZ]⟩
     refine ixr (i+v.length) ?_ ?_ ?_ s32 (by decide)
     ·rfl
     ·rw [Ab];omega
     refine ste ?_ ?_ z32
     ·rw [Nat.zero_add];exact Fd hxw
     refine RL.gh (Gh.keep [4,7,8,9,10,11,12] rfl) ?_;refine .nil ?_
     exact ⟨_,z1,by rw [z2];exact w2,by rw [z3];exact w3,r2,by rw [← Lw];rfl⟩
   rintro _ G3 ⟨u',p1,p2,p3,p4,rfl⟩
   have hq0:=h8 i (by omega)
   have hQlt:val (u.drop i) / val v<4294967296:=by omega
   have hdm:=Nat.div_add_mod (val (u.drop i)) (val v)
   have hml:=Nat.mod_lt (val (u.drop i)) hVpos
   have hqs:=HR hq0 (y:=val (u.drop i) / val v)
   have hnew:val u'+val v * val (q.set i (val (u.drop i) / val v))=val a * 2 ^ n:=by
    have e1:=B2 u i (by omega)
    have e2:=B2 u' i (by omega)
    rw [p3,p4] at e2
    rw [e1] at h6
    rw [e2]
    exact Qm h6 hdm.symm hqs
   generalize val (u.drop i) / val v=Q at *
   refine .region ?_;refine mvo ?_;refine mvd ?_;refine mvd ?_
   refine cve (Q:Int) (Mx hQlt) ?_ u64 u32
   refine ixr i ?_ ?_ ?_ s32 (by decide)
   ·rfl
   ·rw [Ab];omega
   refine ste ?_ ?_ z32
   ·rw [Nat.zero_add];exact Fd hq0
   refine .nil ?_
   show AW _ _ _ _ _ _
   refine .region ?_;refine mvd ?_;refine su ((i:Int)-1) ?_ ?_
   ·omega
   refine asd ?_;refine rn ?_;refine .gh (Gh.keep [4,7,8,9,10,11] rfl) ?_
   have:=ih (i,u',q.set i Q,G3) ⟨by dsimp only;omega,p1,h3.set _ hQlt,by dsimp only;rw [p2];exact h4,by dsimp only;rw [List.length_set];exact h5,hnew,by dsimp only;rw [p4];exact hml,fun j hj=>by
    dsimp only at hj ⊢
    rw [List.getElem?_set_ne (by omega)]
    exact h8 j (by omega)⟩ (by dsimp only;omega)
   dsimp only at this
   rw [← Lw] at this
   exact this
 rintro _ H4 ⟨u,q,h2,h3,h4,h5,h6,h7,rfl⟩
 obtain ⟨d1,d2⟩:=hdend _ _ h6 h7
 have htk:val (u.take v.length)=val u:=by
  have e1:=B2 u v.length (by omega)
  have e2:=Ey (u:=u) (k:=v.length) (by omega) (by rw [lv];omega)
  rw [e2,Nat.mul_zero,Nat.add_zero] at e1
  exact e1.symm
 have fbk:=UW (a:=u.take v.length) (n:=n) (h2.take _) (by rw [List.length_take];omega) hn32
 rw [htk,d2] at fbk
 have e9:((L u).drop 0).take (v.length-0)=L (u.take v.length):=by rw [List.drop_zero,Nat.sub_zero,SQ]
 rw [← e9] at fbk
 have fct:=Dh (a:=q) h3 (by omega)
 rw [← d1] at fct
 refine .gh (Gh.frz (p:=.t 4) rfl (fun _ _ h=>by cases h)) ?_;refine .gh (Gh.frz (p:=.t 8) rfl (fun _ _ h=>by cases h)) ?_;refine .gh (Gh.keep [4,7,8,10] rfl) ?_;refine .seq ?_;refine .drawn 7 BN (by kernel_rfl) ?_;refine dv Aa ?_;refine dv (v:=.d (.sl (L (Af (val a / val b))))) (vcl (xs:=[.sl (L q)]) (r:=.d (.sl (L (Af (val a / val b))))) fct Tryz.call197) ?_;refine dv Aa ?_;refine dv Aa ?_;refine dv (vsl 0 v.length ?_ (Qy _) s32) ?_
 ·rw [Ab,Ab];omega
 refine dv Aa ?_;refine dv (v:=.d (.sl (L (Af (val a % val b))))) (vcl (xs:=[.sl (((L u).drop 0).take (v.length-0)),.i .i64 (n:Int)]) (r:=.d (.sl (L (Af (val a % val b))))) fbk Tryz.call238) ?_;refine dz ?_;refine asd ?_;refine asd ?_;refine asd ?_;refine rn ?_;refine .ret ?_
 exact ⟨by decide,by rw [M6,if_neg h0,dT h0];rfl,rfl,rfl,rfl⟩
def IG (ls:List (List Nat)) : Nat:=ls.foldl (fun g a=>Nat.gcd g (val a)) 0
theorem RD (ls:List (List Nat)) (y:List Nat) : IG (ls++[y])=Nat.gcd (IG ls) (val y):=by
 rw [IG,IG,List.foldl_append];rfl
theorem Sy {g x P:Nat} (hg:g<P) (hx:x<P) : Nat.gcd g x<P:=by
 by_cases h:x=0
 ·subst h;rwa [Nat.gcd_zero_right]
 ·exact Nat.lt_of_le_of_lt (Nat.gcd_le_right g (Nat.pos_of_ne_zero h)) hx
theorem Ss {g x:Nat} : Nat.gcd x (g % x)=Nat.gcd g x:=by
 rw [Nat.gcd_comm g x,Nat.gcd_rec x g,Nat.gcd_comm]
theorem Tl {M:Nat} {ls:List (List Nat)} (h:∀ a∈ls,Ok a) (hM:∀ a∈ls,a.length≤M) (hl:ls.length≤1000) (hM2:M≤500000) : Fn Tryz.prog 120 [.sl (LL ls)] (.d (.sl (L (Af (IG ls))))):=by
 have hv:∀ a∈ls,val a<4294967296 ^ M:=fun a ha=>nL (B5 (h a ha)) (Nat.pow_le_pow_right (by decide) (hM a ha))
 have hP:0<4294967296 ^ M:=Nat.pow_pos (by decide)
 refine Fn.o1 2 31 Tryz.func120 ?_;refine .sr ?_;refine asn ?_;refine rn ?_;refine .sr ?_;refine asn ?_;refine rn ?_;refine .mid (fun e H'=>e=[(3,.d (.sl (L (Af (IG ls)))))]) ?_ ?_
 ·refine .sr ?_
  refine mvd ?_
  refine ln ?_ (TW _) l2
  refine mvd ?_;refine rn ?_;refine .block ?_;refine .gh (Gh.nlD (t:=3) rfl) ?_
  refine .loop (.gh (Gh.keep [3,9,10,11] rfl) ?_)
  refine AL.cast (env':=[(3,.d (.sl (L (Af (IG (ls.take 0)))))),(9,.d (.sl (LL ls))),(10,.d (.i .i64 ((LL ls).length:Nat))),(11,.d (.i .i64 ((0:Nat):Int)))]) (by rw [List.take_zero];show _=[(3,AV.d (.sl (L (Af 0)))),(9,AV.d (.sl (LL ls))),_,_];rw [AR];rfl) ?_
  refine AL.ind (σ:=Nat) (m:=fun i=>ls.length-i) (e:=fun i=>[(3,.d (.sl (L (Af (IG (ls.take i)))))),(9,.d (.sl (LL ls))),(10,.d (.i .i64 ((LL ls).length:Nat))),(11,.d (.i .i64 (i:Int)))]) (h:=fun _=>[])
   (I:=fun i=>i≤ls.length∧IG (ls.take i)<4294967296 ^ M) ?_ 0 ⟨Nat.zero_le _,by rw [List.take_zero];exact hP⟩
  rintro i ⟨h1,h2⟩ ih
  refine .sr ?_;refine bi ?_;refine rn ?_;refine .seq ?_
  by_cases hi:i<ls.length
  ·rw [dT (show (i:Int)<((LL ls).length:Nat) by rw [E6];omega)]
   have hy:ls[i]?=some ls[i]:=lG hi
   have htk:ls.take (i+1)=ls.take i++[ls[i]]:=List.take_succ_eq_append_getElem hi
   generalize ls[i]=y at hy htk
   have hyo:=h y (List.mem_of_getElem? hy)
   have hyl:=hM y (List.mem_of_getElem? hy)
   have hyv:=hv y (List.mem_of_getElem? hy)
   have hst:IG (ls.take (i+1))=Nat.gcd (IG (ls.take i)) (val y):=by rw [htk,RD]
   generalize IG (ls.take i)=g at *
   refine B1 ?_;refine .skip ?_
   show AW _ _ _ _ _ _
   refine .seq ?_;refine .block ?_;refine .sr ?_
   refine ix i ?_ rfl (TT hy) rfl s2
   refine ldp ?_ a2
   refine asd ?_;refine rn ?_;refine .sr ?_;refine mvd ?_
   refine cl (xs:=[.sl (L y)]) ?_ (Ky hyo (by omega)) Tryz.call198
   refine aso ?_;refine RL.gh (Gh.frz (p:=.t 5) rfl (fun _ _ h=>by cases h)) ?_;refine rn ?_;refine .block ?_
   refine .loop (.gh (Gh.keep [3,5,9,10,11] rfl) ?_)
   refine AL.ind (σ:=Nat×Nat) (m:=fun s=>s.2) (e:=fun s=>[(3,.d (.sl (L (Af s.1)))),(5,.d (.sl (L (Af s.2)))),(9,.d (.sl (LL ls))),(10,.d (.i .i64 ((LL ls).length:Nat))),(11,.d (.i .i64 (i:Int)))]) (h:=fun _=>[])
    (I:=fun s=>s.1<4294967296 ^ M∧s.2<4294967296 ^ M∧Nat.gcd s.1 s.2=Nat.gcd g (val y)) ?_ (g,val y) ⟨h2,hyv,rfl⟩
   rintro ⟨p,x⟩ ⟨g1,g2,g3⟩ ih2
   dsimp only at g1 g2 g3 ih2 ⊢
   refine .seq ?_;refine .sr ?_;refine mvd ?_
   refine ln ?_ (BW _) l32
   refine bi ?_;refine rn ?_
   by_cases hx:x=0
   ·subst hx
    rw [dF (show ¬(0:Int)<((L (Af 0)).length:Nat) by rw [AR];decide)]
    rw [Nat.gcd_zero_right,← hst] at g3
    refine B4 ?_;refine .exit ?_
    show AW _ _ _ _ _ _
    refine .region ?_;refine ad ((i+1:Nat):Int) ?_ ?_
    ·omega
    refine mvd ?_;refine rn ?_;refine .gh (Gh.keep [3,9,10,11] rfl) ?_
    rw [g3]
    exact ih (i+1) ⟨by omega,by rw [← g3];exact g1⟩ (by omega)
   ·have hd:=QH (m:=x) (by omega)
    rw [dT (show (0:Int)<((L (Af x)).length:Nat) by rw [Ab];omega)]
    have fd:=HI (a:=Af p) (b:=Af x) (Bb _) (Bb _) (nT (CA g1) hM2) (nT (CA g2) hM2)
    rw [AZ,AZ,M6,if_neg hx] at fd
    refine B1 ?_;refine .skip ?_
    show AW _ _ _ _ _ _
    refine .block ?_;refine .sr ?_;refine mvd ?_;refine mvd ?_
    refine cl (xs:=[.sl (L (Af p)),.sl (L (Af x))]) ?_ fd Tryz.call199
    refine mvt ?_;refine ex ?_;refine ex ?_;refine ex ?_;refine asd ?_;refine asd ?_;refine asd ?_;refine rn ?_;refine .region ?_;refine mvd ?_;refine mvd ?_;refine asd ?_;refine asd ?_;refine .nil ?_;refine AL.gh (Gh.keep [3,5,9,10,11] rfl) ?_
    have hlt:=Nat.mod_lt p (Nat.pos_of_ne_zero hx)
    exact ih2 (x,p % x) ⟨g2,by show p % x<_;omega,by show Nat.gcd x (p % x)=_;rw [Ss,g3]⟩ hlt
  ·rw [dF (show ¬(i:Int)<((LL ls).length:Nat) by rw [E6];omega)]
   refine B4 ?_;refine .gh (Gh.keep [3] rfl) ?_;refine .exit ?_
   have e1:ls.take i=ls:=List.take_of_length_le (by omega)
   show _=_
   rw [e1];rfl
 rintro _ _ rfl
 refine .sr ?_;refine mvd ?_;refine asd ?_;refine rn ?_;refine .ret ?_
 exact ⟨rfl,rfl⟩
theorem Re {x y:Nat} (h:y≤x) : TQ x y=x-y:=by
 unfold TQ;split<;>omega
abbrev Rv (b:Bool) (n d:List Nat) : DV:=.ag [.b b,.sl (L n),.sl (L d)]
abbrev Nv (b:Bool) (n d:List Nat) : DV:=.ag [.sl (L n),.sl (L d),.b b]
abbrev Zv (n d:List Nat) : DV:=.ag [.sl (L n),.sl (L d)]
theorem fR0 : BA Tryz.prog 32 0=some (0,1):=by kernel_rfl
theorem fR1 : BA Tryz.prog 32 1=some (1,1):=by kernel_rfl
theorem fR2 : BA Tryz.prog 32 2=some (2,1):=by kernel_rfl
theorem fN0 : BA Tryz.prog 157 0=some (0,2):=by kernel_rfl
theorem fN1 : BA Tryz.prog 157 1=some (2,1):=by kernel_rfl
theorem fZ0 : BA Tryz.prog 155 0=some (0,1):=by kernel_rfl
theorem fZ1 : BA Tryz.prog 155 1=some (1,1):=by kernel_rfl
theorem aR : Cj Tryz.prog 32=some true:=by kernel_rfl
theorem aN : Cj Tryz.prog 157=some true:=by kernel_rfl
theorem aZ : Cj Tryz.prog 155=some true:=by kernel_rfl
theorem sR : AC Tryz.prog 32=3:=by kernel_rfl
theorem sN : AC Tryz.prog 157=3:=by kernel_rfl
theorem sZ : AC Tryz.prog 155=2:=by kernel_rfl
theorem pR : C9 Tryz.prog 32=some [(0,1),(1,1),(2,1)]:=by kernel_rfl
theorem pN : C9 Tryz.prog 157=some [(0,2),(2,1)]:=by kernel_rfl
theorem pZ : C9 Tryz.prog 155=some [(0,1),(1,1)]:=by kernel_rfl
theorem iR : (Tryz.prog.info? 32).bind (·.zero)=some (.agg #[.bool false,.slice none 0 0,.slice none 0 0]):=by kernel_rfl
theorem iN : (Tryz.prog.info? 157).bind (·.zero)=some (.agg #[.slice none 0 0,.slice none 0 0,.bool false]):=by kernel_rfl
theorem iZ : (Tryz.prog.info? 155).bind (·.zero)=some (.agg #[.slice none 0 0,.slice none 0 0]):=by kernel_rfl
theorem Ai {P:Program} {t:TypeId} {z:Value} (h:(P.info? t).bind (·.zero)=some z) (w:World) : (zeroValue t).run P w=.ok z w:=by
 cases hi:P.info? t with
 | none=>rw [hi] at h;cases h
 | some i =>
  rw [hi] at h
  simp only [oB] at h
  simp [zeroValue,typeInfo,hi,h]
theorem rR (w:World) (I:Nat→Prop) : RepAll w I [.b false,.sl [],.sl []] (Value.agg #[.bool false,.slice none 0 0,.slice none 0 0]).cells.toList:=.cons (.b _) (.cons (.sl0 _ _) (.cons (.sl0 _ _) .nil))
theorem rN (w:World) (I:Nat→Prop) : RepAll w I [.sl [],.sl [],.b false] (Value.agg #[.slice none 0 0,.slice none 0 0,.bool false]).cells.toList:=.cons (.sl0 _ _) (.cons (.sl0 _ _) (.cons (.b _) .nil))
theorem rZ (w:World) (I:Nat→Prop) : RepAll w I [.sl [],.sl []] (Value.agg #[.slice none 0 0,.slice none 0 0]).cells.toList:=.cons (.sl0 _ _) (.cons (.sl0 _ _) .nil)
theorem aB : Cj Tryz.prog 4=some false:=by kernel_rfl
theorem aS : Cj Tryz.prog 30=some false:=by kernel_rfl
theorem Hy (ls:List (List Nat)) : ∀ d∈LL ls,d.flat=true∧d.cells.length=1:=by
 intro d hd
 simp only [LL,List.mem_map] at hd
 obtain ⟨n,_,rfl⟩:=hd
 exact ⟨rfl,rfl⟩
theorem QT : ∀ vs : List DV,noBpL (vs.map .d)=true
 | []=>rfl
 | v::vs=>by simp only [List.map_cons,noBpL,noBp,QT vs,Bool.and_self]
theorem Pt (vs:List DV) : noBp (.tup (vs.map .d))=true:=by simp only [noBp,QT vs]
theorem Lv : Fn Tryz.prog 121 [] (.own 121 (L [1])):=by
 refine Fn.o1 0 2 Tryz.func121 ?_;refine .sr ?_;refine asn ?_;refine rn ?_;refine .sr ?_
 refine bsl ?_ ?_ e32
 ·simp [DV.flat,DV.cells,DV.leaf]
 refine aso ?_;refine rn ?_;refine .ret ?_
 exact ⟨rfl,rfl⟩
theorem Tw (b:Bool) (n d:List Nat) : Fn Tryz.prog 168 [Rv b n d] (.d (Nv b n d)):=by
 refine Fn.ofC (rs:=[.cell 2 157]) (nt:=11) Tryz.func168 rfl rfl rfl (by simp) rfl ?_;refine .sr ?_;refine vk vbx ?_;refine vk (van (Ai iN) rN) ?_;refine rn ?_;refine .sr ?_;refine vk (vfa fR1) ?_
 refine ldp ?_ aS
 refine vk (vfa fR2) ?_
 refine ldp ?_ aS
 refine vk (vbd pZ iZ rZ) ?_;refine vk (vfa fR0) ?_
 refine ldp ?_ aB
 refine vk (vbd pN iN rN) ?_
 refine stn ?_ sN (by decide)
 refine rn ?_;refine .ret ?_
 exact ⟨_,⟨.inr rfl,aN,sN,p3⟩,rfl⟩
theorem Pf {n d m e:List Nat} (hn:Ok n) (he:Ok e) (hln:n.length≤4000) (hle:e.length≤4000) : Fn Tryz.prog 239 [Zv n d,Zv m e] (.d (.sl (L (Af (val n * val e))))):=by
 have p1:=Ht (M:=4000) (ls:=[n,e]) (by simp [hn,he]) (by simp [hln,hle]) (by simp) (by decide)
 rw [show D0 [n,e] 1=val n * val e by show 1 * val n * val e=_;rw [Nat.one_mul]] at p1
 refine Fn.o1 4 11 Tryz.func239 ?_;refine .sr ?_;refine vk vbx ?_;refine vk vbx ?_;refine asn ?_;refine rn ?_;refine .sr ?_;refine vk (vfa fZ0) ?_
 refine ldp ?_ aS
 refine vk (vfa fZ1) ?_
 refine ldp ?_ aS
 refine bsl ?_ ?_ e2
 ·simp [DV.flat,DV.cells,DV.leaf]
 refine fz (p:=.t 9) ?_
 refine cl (xs:=[.sl (LL [n,e])]) ?_ p1 Tryz.call166
 refine asd ?_;refine rn ?_;refine .ret ?_
 exact ⟨rfl,rfl⟩
def U3 (b:Bool) (n d:Nat) : List DV :=
 if Nat.gcd n d=0 then [Rv false [] [],.i .i64 22]
 else if 32<(Af (n / Nat.gcd n d)).length∨32<(Af (d / Nat.gcd n d)).length then [Rv false [] [],.i .i64 8]
 else [Rv (b&&decide (n / Nat.gcd n d≠0)) (Af (n / Nat.gcd n d)) (Af (d / Nat.gcd n d)),.i .i64 0]
theorem SW {n:Nat} : decide ((0:Int)<((L (Af n)).length : Nat))=decide (n≠0):=by
 by_cases h:n=0
 ·subst h;rw [AR];rfl
 ·have:=QH (m:=n) (by omega)
  rw [dT h,dT (by rw [Ab];omega)]
theorem Mz {M:Nat} {b:Bool} {n d:List Nat} (hn:Ok n) (hd:Ok d) (hln:n.length≤M) (hld:d.length≤M) (hM:M≤100000) : Fn Tryz.prog 170 [Nv b n d] (.tup ((U3 b (val n) (val d)).map .d)):=by
 have g1:=Tl (M:=M) (ls:=[n,d]) (by simp [hn,hd]) (by simp [hln,hld]) (by simp) (by omega)
 rw [show IG [n,d]=Nat.gcd (val n) (val d) by show Nat.gcd (Nat.gcd 0 (val n)) (val d)=_;rw [Nat.gcd_zero_left]] at g1
 have lg:(Af (Nat.gcd (val n) (val d))).length≤M:=CA (Sy (nL (B5 hn) (Nat.pow_le_pow_right (by decide) hln)) (nL (B5 hd) (Nat.pow_le_pow_right (by decide) hld)))
 unfold U3
 generalize Nat.gcd (val n) (val d)=g at *
 have d1:=HI (a:=n) (b:=Af g) hn (Bb g) (by omega) (by omega)
 have d2:=HI (a:=d) (b:=Af g) hd (Bb g) (by omega) (by omega)
 rw [AZ] at d1 d2
 generalize M6 (val n) g=r1 at *
 generalize M6 (val d) g=r2 at *
 generalize val n / g=x at *
 generalize val d / g=y at *
 refine Fn.ofC (rs:=[.cell 2 32,.tmp 3]) (nt:=61) Tryz.func170 rfl rfl rfl (by simp) (Pt _) ?_;refine .sr ?_;refine vk vbx ?_;refine vk (van (Ai iR) rR) ?_;refine asd ?_;refine rn ?_;refine .sr ?_;refine vk (vfa fN0) ?_;refine vk (vfa fZ0) ?_
 refine ldp ?_ aS
 refine vk (vfa fN0) ?_;refine vk (vfa fZ1) ?_
 refine ldp ?_ aS
 refine bsl ?_ ?_ e2
 ·simp [DV.flat,DV.cells,DV.leaf]
 refine fz (p:=.t 17) ?_
 refine cl (xs:=[.sl (LL [n,d])]) ?_ g1 Tryz.call120
 refine asd ?_;refine rn ?_;refine .gh (Gh.keep [1,2,3,4] rfl) ?_;refine .sr ?_;refine vk (vfa fN0) ?_;refine vk (vfa fZ0) ?_
 refine ldp ?_ aS
 refine mvd ?_
 refine cl (xs:=[.sl (L n),.sl (L (Af g))]) ?_ d1 Tryz.call199
 refine mvt ?_;refine ex ?_;refine ex ?_;refine ex ?_;refine asd ?_;refine asd ?_;refine asd ?_;refine rn ?_;refine .gh (Gh.keep [1,2,3,4,5,7] rfl) ?_;refine .sr ?_;refine vk (vfa fN0) ?_;refine vk (vfa fZ1) ?_
 refine ldp ?_ aS
 refine mvd ?_
 refine cl (xs:=[.sl (L d),.sl (L (Af g))]) ?_ d2 Tryz.call199
 refine mvt ?_;refine ex ?_;refine ex ?_;refine ex ?_;refine asd ?_;refine asd ?_;refine asd ?_;refine rn ?_;refine .gh (Gh.keep [1,2,3,5,7,8] rfl) ?_;refine .seq ?_;refine .block ?_;refine .sr ?_;refine mvd ?_;refine nt_ ?_;refine asd ?_;refine rn ?_
 by_cases hg:g=0
 ·rw [dF (show ¬(g≠0) from fun h=>h hg),if_pos hg]
  refine B1 ?_;refine .sr ?_;refine vk (vbd pR iR rR) ?_
  refine stn ?_ sR (by decide)
  refine asd ?_;refine rn ?_;refine .ret ?_
  exact ⟨_,_,⟨.inr rfl,aR,sR,p3⟩,rfl,rfl⟩
 rw [dT (show g≠0 from hg),if_neg hg]
 refine B4 ?_;refine .sr ?_;refine mvd ?_
 refine ln ?_ (BW _) l32
 refine bi ?_
 by_cases hx:32<(Af x).length
 ·rw [dT (show (32:Int)<((L (Af x)).length:Nat) by rw [Ab];omega),if_pos (.inl hx)]
  refine mvd ?_;refine gf ?_;refine gf ?_;refine gf ?_;refine pkd ?_;refine asd ?_;refine rn ?_;refine B1 ?_;refine .sr ?_;refine vk (vbd pR iR rR) ?_
  refine stn ?_ sR (by decide)
  refine asd ?_;refine rn ?_;refine .ret ?_
  exact ⟨_,_,⟨.inr rfl,aR,sR,p3⟩,rfl,rfl⟩
 rw [dF (show ¬(32:Int)<((L (Af x)).length:Nat) by rw [Ab];omega)]
 refine mvd ?_;refine mvd ?_
 refine ln ?_ (BW _) l32
 refine bi ?_
 by_cases hy:32<(Af y).length
 ·rw [dT (show (32:Int)<((L (Af y)).length:Nat) by rw [Ab];omega),if_pos (.inr hy)]
  refine pkd ?_;refine asd ?_;refine rn ?_;refine B1 ?_;refine .sr ?_;refine vk (vbd pR iR rR) ?_
  refine stn ?_ sR (by decide)
  refine asd ?_;refine rn ?_;refine .ret ?_
  exact ⟨_,_,⟨.inr rfl,aR,sR,p3⟩,rfl,rfl⟩
 rw [dF (show ¬(32:Int)<((L (Af y)).length:Nat) by rw [Ab];omega),if_neg (by omega)]
 refine pkd ?_;refine asd ?_;refine rn ?_;refine B4 ?_;refine .skip ?_
 show AW _ _ _ _ _ _
 refine .sr ?_;refine vk (vfa fN1) ?_
 refine ldp ?_ aB
 refine mvd ?_
 by_cases hb:b=true
 ·subst hb
  refine mvd ?_
  refine ln ?_ (BW _) l32
  refine bi ?_
  rw [SW]
  refine pkd ?_;refine mvd ?_;refine mvd ?_;refine vk (vbd pR iR rR) ?_
  refine stn ?_ sR (by decide)
  refine asd ?_;refine rn ?_;refine .ret ?_
  exact ⟨_,_,⟨.inr rfl,aR,sR,p3⟩,rfl,rfl⟩
 rw [Bool.not_eq_true] at hb;subst hb
 refine gf ?_;refine gf ?_;refine gf ?_;refine pkd ?_;refine mvd ?_;refine mvd ?_;refine vk (vbd pR iR rR) ?_
 refine stn ?_ sR (by decide)
 refine asd ?_;refine rn ?_;refine .ret ?_
 exact ⟨_,_,⟨.inr rfl,aR,sR,p3⟩,rfl,rfl⟩
theorem slR : Cq Tryz.prog 180=some (32,3,56):=by kernel_rfl
theorem lR : Tryz.prog.underlying 180=some (.slice (Tryz.prog.elem 180)):=by kernel_rfl
theorem R5 : Fn Tryz.prog 44 [] (.own 121 (L [1])):=by
 refine Fn.o1 0 2 Tryz.func44 ?_;refine .sr ?_;refine asn ?_;refine rn ?_;refine .sr ?_
 refine bsl ?_ ?_ e32
 ·simp [DV.flat,DV.cells,DV.leaf]
 refine aso ?_;refine rn ?_;refine .ret ?_
 exact ⟨rfl,rfl⟩
theorem NW (a b:List Nat) (hla:a.length≤1048576) (hoa:Ok a) (hob:Ok b) : Fn Tryz.prog 112 [.sl (L a),.sl (L b)] (.d (.b (decide (a=b)))):=by
 refine Fn.o1 4 26 Tryz.func112 ?_;refine .sr ?_;refine asd ?_;refine rn ?_;refine .seq ?_;refine .sr ?_;refine mvd ?_
 refine ln ?_ (BW _) l32
 refine mvd ?_
 refine ln ?_ (BW _) l32
 refine bi ?_;refine rn ?_
 by_cases hlen:a.length≠b.length
 ·rw [dF (show ¬(((L a).length:Nat):Int)=((L b).length:Nat) by rw [Ab,Ab];omega)]
  refine B1 ?_;refine .sr ?_;refine asd ?_;refine rn ?_;refine .ret ?_
  exact ⟨by rw [dF (fun h=>hlen (by rw [h]))];rfl,rfl⟩
 rw [dT (show (((L a).length:Nat):Int)=((L b).length:Nat) by rw [Ab,Ab];omega)]
 refine B4 ?_;refine .skip ?_
 show AW _ _ _ _ _ _
 refine .seq ?_;refine .sr ?_;refine mvd ?_
 refine ln ?_ (BW _) l32
 refine mvd ?_;refine rn ?_;refine .block ?_
 refine .loop (.gh (Gh.keep [0,1,11,12,13] rfl) ?_)
 refine AL.ind (σ:=Nat) (m:=fun i=>a.length-i) (e:=fun i=>[(0,.d (.sl (L a))),(1,.d (.sl (L b))),(11,.d (.sl (L a))),(12,.d (.i .i64 ((L a).length:Nat))),(13,.d (.i .i64 (i:Int)))]) (h:=fun _=>[])
  (I:=fun i=>i≤a.length∧a.take i=b.take i) ?_ 0 ⟨Nat.zero_le _,rfl⟩
 rintro i ⟨h1,h2⟩ ih
 refine .sr ?_;refine bi ?_;refine rn ?_;refine .seq ?_
 by_cases hi:i<a.length
 ·rw [dT (show (i:Int)<((L a).length:Nat) by rw [Ab];omega)]
  have hx:a[i]?=some a[i]:=lG hi
  have hy:b[i]?=some b[i]:=lG (by omega)
  have hdx:a.take (i+1)=a.take i++[a[i]]:=List.take_succ_eq_append_getElem hi
  have hdy:b.take (i+1)=b.take i++[b[i]]:=List.take_succ_eq_append_getElem (by omega)
  generalize a[i]=x at hx hdx
  generalize b[i]=y at hy hdy
  refine B1 ?_;refine .skip ?_
  show AW _ _ _ _ _ _
  refine .seq ?_;refine .block ?_;refine .sr ?_;refine mvd ?_;refine asd ?_;refine rn ?_;refine .seq ?_;refine .drawn 9 BN (by kernel_rfl) ?_;refine dv Aa ?_;refine dv Aa ?_;refine dv (vix i rfl (Fr hx) rfl s32) ?_;refine dv (As a32) ?_;refine dv Aa ?_;refine dv Aa ?_;refine dv (vix i rfl (Fr hy) rfl s32) ?_;refine dv (As a32) ?_;refine dv vbi ?_;refine dz ?_;refine rn ?_
  by_cases hxy:x≠y
  ·rw [dF (show ¬(x:Int)=(y:Int) by omega)]
   refine B1 ?_;refine .sr ?_;refine asd ?_;refine rn ?_;refine .ret ?_
   exact ⟨by rw [dF (fun h=>hxy (by rw [h] at hx;rw [hx] at hy;exact oI hy))];rfl,rfl⟩
  rw [dT (show (x:Int)=(y:Int) by omega)]
  refine B4 ?_;refine .skip ?_
  show AW _ _ _ _ _ _
  refine .region ?_;refine ad ((i+1:Nat):Int) ?_ ?_
  ·omega
  refine mvd ?_;refine .nil ?_;refine AL.gh (Gh.keep [0,1,11,12,13] rfl) ?_
  exact ih (i+1) ⟨by omega,by rw [hdx,hdy,h2];congr 2;omega⟩ (by omega)
 rw [dF (show ¬(i:Int)<((L a).length:Nat) by rw [Ab];omega)]
 refine B4 ?_;refine .exit ?_
 show AW _ _ _ _ _ _
 refine .sr ?_;refine asd ?_;refine rn ?_;refine .ret ?_
 rw [List.take_of_length_le (by omega),List.take_of_length_le (by omega)] at h2
 exact ⟨by rw [dT h2];rfl,rfl⟩
def KV (b:Bool) (n d:List Nat) : Prop:=Af (val n)=n∧Af (val d)=d∧n.length≤32∧d.length≤32∧d≠[]∧(n=[]→b=false)∧Nat.gcd (val n) (val d)=1
instance (b:Bool) (n d:List Nat) : Decidable (KV b n d):=by unfold KV;infer_instance
def Gu (b:Bool) (n d:List Nat) : Bool:=decide (KV b n d)
theorem HK {b:Bool} {n d:List Nat} (h:¬KV b n d) : Gu b n d=false:=dF h
theorem Nz {g:Nat} : Af g=[1]↔g=1:=by
 have one:Af 1=[1]:=IV (n:=1) (by decide) (by decide)
 constructor
 ·intro h
  have:=AZ g
  rw [h] at this
  simpa [val] using this.symm
 ·rintro rfl;exact one
theorem Iq {l:List Nat} : l≠[]↔0<l.length:=by
 cases l<;>simp
theorem Mc {b:Bool} {n d:List Nat} (hn:Ok n) (hd:Ok d) (hln:n.length≤35184372087808) (hld:d.length≤35184372087808) : Fn Tryz.prog 45 [Rv b n d] (.d (.b (Gu b n d))):=by
 refine Fn.o1 2 50 Tryz.func45 ?_;refine .sr ?_;refine vk vbx ?_;refine asd ?_;refine rn ?_;refine .seq ?_;refine .sr ?_;refine vk (vfa fR1) ?_
 refine ldp ?_ aS
 refine cl (xs:=[.sl (L n)]) ?_ (Ox hn hln) Tryz.call119
 refine nt_ ?_
 by_cases h1:¬Af (val n)=n
 ·rw [dF h1]
  refine mvd ?_;refine gf ?_;refine gf ?_;refine gf ?_;refine gf ?_;refine pkd ?_;refine mvd ?_;refine gf ?_;refine gf ?_;refine gf ?_;refine gf ?_;refine pkd ?_;refine mvd ?_;refine gf ?_;refine gf ?_;refine gf ?_;refine gf ?_;refine pkd ?_;refine rn ?_;refine .gh (Gh.keep [1,24] rfl) ?_;refine B1 ?_;refine .sr ?_;refine asd ?_;refine rn ?_;refine .ret ?_
  exact ⟨by rw [HK (fun h=>h1 h.1)];rfl,rfl⟩
 rw [Decidable.not_not] at h1
 rw [dT h1]
 refine mvd ?_;refine vk (vfa fR2) ?_
 refine ldp ?_ aS
 refine cl (xs:=[.sl (L d)]) ?_ (Ox hd hld) Tryz.call119
 refine nt_ ?_
 by_cases h2:¬Af (val d)=d
 ·rw [dF h2]
  refine pkd ?_;refine mvd ?_;refine gf ?_;refine gf ?_;refine gf ?_;refine gf ?_;refine pkd ?_;refine mvd ?_;refine gf ?_;refine gf ?_;refine gf ?_;refine gf ?_;refine pkd ?_;refine rn ?_;refine .gh (Gh.keep [1,24] rfl) ?_;refine B1 ?_;refine .sr ?_;refine asd ?_;refine rn ?_;refine .ret ?_
  exact ⟨by rw [HK (fun h=>h2 h.2.1)];rfl,rfl⟩
 rw [Decidable.not_not] at h2
 rw [dT h2]
 refine pkd ?_;refine mvd ?_;refine vk (vfa fR1) ?_
 refine ldp ?_ aS
 refine ln ?_ (BW _) l32
 refine bi ?_
 by_cases h3:32<n.length
 ·rw [dT (show (32:Int)<((L n).length:Nat) by rw [Ab];omega)]
  refine pkd ?_;refine mvd ?_;refine gf ?_;refine gf ?_;refine gf ?_;refine gf ?_;refine pkd ?_;refine rn ?_;refine .gh (Gh.keep [1,24] rfl) ?_;refine B1 ?_;refine .sr ?_;refine asd ?_;refine rn ?_;refine .ret ?_
  exact ⟨by rw [HK (fun h=>by have:=h.2.2.1;omega)];rfl,rfl⟩
 rw [dF (show ¬(32:Int)<((L n).length:Nat) by rw [Ab];omega)]
 refine pkd ?_;refine mvd ?_;refine vk (vfa fR2) ?_
 refine ldp ?_ aS
 refine ln ?_ (BW _) l32
 refine bi ?_
 by_cases h4:32<d.length
 ·rw [dT (show (32:Int)<((L d).length:Nat) by rw [Ab];omega)]
  refine pkd ?_;refine rn ?_;refine .gh (Gh.keep [1,24] rfl) ?_;refine B1 ?_;refine .sr ?_;refine asd ?_;refine rn ?_;refine .ret ?_
  exact ⟨by rw [HK (fun h=>by have:=h.2.2.2.1;omega)];rfl,rfl⟩
 rw [dF (show ¬(32:Int)<((L d).length:Nat) by rw [Ab];omega)]
 have g1:=Tl (M:=32) (ls:=[n,d]) (by simp [hn,hd]) (by simp;omega) (by simp) (by decide)
 rw [show IG [n,d]=Nat.gcd (val n) (val d) by show Nat.gcd (Nat.gcd 0 (val n)) (val d)=_;rw [Nat.gcd_zero_left]] at g1
 have lg:(Af (Nat.gcd (val n) (val d))).length≤32:=CA (Sy (nL (B5 hn) (Nat.pow_le_pow_right (by decide) (by omega))) (nL (B5 hd) (Nat.pow_le_pow_right (by decide) (by omega))))
 have q1:=NW (Af (Nat.gcd (val n) (val d))) [1] (by omega) (Bb _) (by simp [Ok])
 rw [decide_eq_decide.2 Nz] at q1
 refine pkd ?_;refine rn ?_;refine .gh (Gh.keep [1,24] rfl) ?_;refine B4 ?_;refine .skip ?_
 show AW _ _ _ _ _ _
 refine .sr ?_;refine vk (vfa fR2) ?_
 refine ldp ?_ aS
 refine ln ?_ (BW _) l32
 refine bi ?_
 by_cases h5:0<d.length
 ·rw [dT (show (0:Int)<((L d).length:Nat) by rw [Ab];omega)]
  refine mvd ?_;refine vk (vfa fR1) ?_
  refine ldp ?_ aS
  refine ln ?_ (BW _) l32
  refine bi ?_
  by_cases h6:0<n.length
  ·rw [dT (show (0:Int)<((L n).length:Nat) by rw [Ab];omega)]
   refine mvd ?_;refine gf ?_;refine gf ?_;refine gf ?_;refine pkd ?_;refine pkd ?_;refine mvd ?_;refine vk (vfa fR1) ?_
   refine ldp ?_ aS
   refine vk (vfa fR2) ?_
   refine ldp ?_ aS
   refine bsl ?_ ?_ e2
   ·simp [DV.flat,DV.cells,DV.leaf]
   refine fz (p:=.t 45) ?_
   refine cl (xs:=[.sl (LL [n,d])]) ?_ g1 Tryz.call120
   refine cl (xs:=[]) ?_ Lv Tryz.call121
   refine fz (p:=.t 47) ?_
   refine cl (xs:=[.sl (L (Af (Nat.gcd (val n) (val d)))),.sl (L [1])]) ?_ q1 Tryz.call112
   refine pkd ?_;refine asd ?_;refine rn ?_;refine .ret ?_
   exact ⟨by rw [show Gu b n d=decide (Nat.gcd (val n) (val d)=1) from decide_eq_decide.2 ⟨fun h=>h.2.2.2.2.2.2,fun h=>⟨h1,h2,by omega,by omega,Iq.2 h5,fun h0=>by rw [h0] at h6;simp at h6,h⟩⟩];rfl,rfl⟩
  rw [dF (show ¬(0:Int)<((L n).length:Nat) by rw [Ab];omega)]
  refine mvd ?_;refine vk (vfa fR0) ?_
  refine ldp ?_ aB
  refine nt_ ?_
  by_cases h7:b=false
  ·subst h7
   refine pkd ?_;refine pkd ?_;refine mvd ?_;refine vk (vfa fR1) ?_
   refine ldp ?_ aS
   refine vk (vfa fR2) ?_
   refine ldp ?_ aS
   refine bsl ?_ ?_ e2
   ·simp [DV.flat,DV.cells,DV.leaf]
   refine fz (p:=.t 45) ?_
   refine cl (xs:=[.sl (LL [n,d])]) ?_ g1 Tryz.call120
   refine cl (xs:=[]) ?_ Lv Tryz.call121
   refine fz (p:=.t 47) ?_
   refine cl (xs:=[.sl (L (Af (Nat.gcd (val n) (val d)))),.sl (L [1])]) ?_ q1 Tryz.call112
   refine pkd ?_;refine asd ?_;refine rn ?_;refine .ret ?_
   exact ⟨by rw [show Gu false n d=decide (Nat.gcd (val n) (val d)=1) from decide_eq_decide.2 ⟨fun h=>h.2.2.2.2.2.2,fun h=>⟨h1,h2,by omega,by omega,Iq.2 h5,fun _=>rfl,h⟩⟩];rfl,rfl⟩
  rw [Bool.not_eq_false] at h7;subst h7
  refine pkd ?_;refine pkd ?_;refine mvd ?_;refine gf ?_;refine gf ?_;refine gf ?_;refine gf ?_;refine gf ?_;refine gf ?_;refine gf ?_;refine gf ?_;refine pkd ?_;refine asd ?_;refine rn ?_;refine .ret ?_
  exact ⟨by rw [HK (fun h=>by have:=h.2.2.2.2.2.1 (List.length_eq_zero_iff.1 (by omega));cases this)];rfl,rfl⟩
 rw [dF (show ¬(0:Int)<((L d).length:Nat) by rw [Ab];omega)]
 refine mvd ?_;refine gf ?_;refine gf ?_;refine gf ?_;refine gf ?_;refine gfu ?_;refine gfn ?_;refine gfn ?_;refine gfn ?_;refine gf ?_;refine pkd ?_;refine mvd ?_;refine gf ?_;refine gf ?_;refine gf ?_;refine gf ?_;refine gf ?_;refine gf ?_;refine gf ?_;refine gf ?_;refine pkd ?_;refine asd ?_;refine rn ?_;refine .ret ?_
 exact ⟨by rw [HK (fun h=>h5 (Iq.1 h.2.2.2.2.1))];rfl,rfl⟩
abbrev RT:=Bool×List Nat×List Nat
def RVs (rs:List RT) : List DV:=rs.map fun r=>Rv r.1 r.2.1 r.2.2
def okR (r:RT) : Prop:=Ok r.2.1∧Ok r.2.2∧r.2.1.length≤35184372087808∧r.2.2.length≤35184372087808
def Be (r:RT) : Bool:=Gu r.1 r.2.1 r.2.2
def Wx : Option Nat→Int
 | some i=>i
 | none=>-1
theorem Gq (rs:List RT) : (RVs rs).length=rs.length:=by simp [RVs]
theorem TB (rs:List RT) : ∃ sz,∀ x∈RVs rs,x.cells.length=sz:=⟨3,fun x hx=>by
 simp only [RVs,List.mem_map] at hx
 obtain ⟨n,_,rfl⟩:=hx;rfl⟩
theorem TG {rs:List RT} {i:Nat} {r:RT} (h:rs[i]?=some r) : (RVs rs)[i]?=some (Rv r.1 r.2.1 r.2.2):=by simp [RVs,h]
theorem NF {b:Bool} {n d:List Nat} (hn:Ok n) (hd:Ok d) (hln:n.length≤35184372087808) (hld:d.length≤35184372087808) : Fn Tryz.prog 222 [Rv b n d] (.d (.b (!Gu b n d))):=by
 refine Fn.o1 2 6 Tryz.func222 ?_;refine .sr ?_;refine vk vbx ?_;refine asd ?_;refine rn ?_;refine .sr ?_;refine vk (AN aR sR) ?_
 refine cl (xs:=[Rv b n d]) ?_ (Mc hn hd hln hld) Tryz.call45
 refine nt_ ?_;refine asd ?_;refine rn ?_;refine .ret ?_
 exact ⟨rfl,rfl⟩
theorem Rx {rs:List RT} (h:∀ r∈rs,okR r) (hl:rs.length≤1048576) : Fn Tryz.prog 242 [.sl (RVs rs),.fn 222 [] []] (.d (.i .i64 (Wx (rs.findIdx? (fun r=>!Be r))))):=by
 refine Fn.o1 4 19 Tryz.func242 ?_;refine .sr ?_;refine asd ?_;refine rn ?_;refine .seq ?_;refine .sr ?_;refine mvd ?_
 refine ln ?_ (TB _) lR
 refine mvd ?_;refine rn ?_;refine .block ?_
 refine .loop (.gh (Gh.keep [0,1,6,7,8] rfl) ?_)
 refine AL.ind (σ:=Nat) (m:=fun i=>rs.length-i) (e:=fun i=>[(0,.d (.sl (RVs rs))),(1,.d (.fn 222 [] [])),(6,.d (.sl (RVs rs))),(7,.d (.i .i64 ((RVs rs).length:Nat))),(8,.d (.i .i64 (i:Int)))]) (h:=fun _=>[])
  (I:=fun i=>i≤rs.length∧∀ j r,j<i→rs[j]?=some r→Be r=true) ?_ 0 ⟨Nat.zero_le _,fun j r hj=>by omega⟩
 rintro i ⟨h1,h2⟩ ih
 refine .sr ?_;refine bi ?_;refine rn ?_;refine .seq ?_
 by_cases hi:i<rs.length
 ·rw [dT (show (i:Int)<((RVs rs).length:Nat) by rw [Gq];omega)]
  have hx:rs[i]?=some rs[i]:=lG hi
  have hdx:rs.take (i+1)=rs.take i++[rs[i]]:=List.take_succ_eq_append_getElem hi
  generalize rs[i]=r at hx hdx
  obtain ⟨o1,o2,o3,o4⟩:=h r (List.mem_of_getElem? hx)
  refine B1 ?_;refine .skip ?_
  show AW _ _ _ _ _ _
  refine .seq ?_;refine .block ?_;refine .sr ?_;refine mvd ?_;refine asd ?_;refine rn ?_;refine .sr ?_;refine mvd ?_;refine mvd ?_;refine mvd ?_
  refine ix i ?_ rfl (TG hx) rfl slR
  refine vk (AN aR sR) ?_
  refine cl (xs:=[Rv r.1 r.2.1 r.2.2]) ?_ (NF o1 o2 o3 o4) Tryz.call222
  refine rn ?_
  by_cases hr:Gu r.1 r.2.1 r.2.2=false
  ·rw [hr]
   refine B1 ?_;refine .sr ?_;refine mvd ?_;refine asd ?_;refine rn ?_;refine .ret ?_
   have hf:rs.findIdx? (fun r=>!Be r)=some i:=by
    rw [List.findIdx?_eq_some_iff_getElem]
    obtain ⟨hi',he⟩:=lS.1 hx
    refine ⟨hi',by rw [he];show (!Gu r.1 r.2.1 r.2.2)=true;rw [hr];rfl,fun j hj=>?_⟩
    have:=h2 j rs[j] hj (lG (by omega))
    simp [this]
   exact ⟨by rw [hf];rfl,rfl⟩
  rw [Bool.not_eq_false] at hr
  rw [hr]
  refine B4 ?_;refine .skip ?_
  show AW _ _ _ _ _ _
  refine .region ?_;refine ad ((i+1:Nat):Int) ?_ ?_
  ·omega
  refine mvd ?_;refine .nil ?_;refine AL.gh (Gh.keep [0,1,6,7,8] rfl) ?_
  exact ih (i+1) ⟨by omega,fun j r' hj hr'=>by
   by_cases hji:j=i
   ·subst hji;rw [hx] at hr';cases hr';exact hr
   ·exact h2 j r' (by omega) hr'⟩ (by omega)
 rw [dF (show ¬(i:Int)<((RVs rs).length:Nat) by rw [Gq];omega)]
 refine B4 ?_;refine .exit ?_
 show AW _ _ _ _ _ _
 refine .sr ?_;refine asd ?_;refine rn ?_;refine .ret ?_
 have hf:rs.findIdx? (fun r=>!Be r)=none:=by
  rw [List.findIdx?_eq_none_iff]
  intro r hr
  obtain ⟨j,hj⟩:=List.getElem?_of_mem hr
  have hjl:=(lS.1 hj).1
  rw [h2 j r (by omega) hj];rfl
 exact ⟨by rw [hf];rfl,rfl⟩
theorem Nl {rs:List RT} (h:∀ r∈rs,okR r) (hl:rs.length≤1048576) : Fn Tryz.prog 221 [.sl (RVs rs),.fn 222 [] []] (.d (.b (!rs.all Be))):=by
 have f:=Rx h hl
 have e:decide ((0:Int)≤Wx (rs.findIdx? (fun r=>!Be r)))=!rs.all Be:=by
  cases hf:rs.findIdx? (fun r=>!Be r) with
  | none =>
   rw [List.findIdx?_eq_none_iff] at hf
   have:rs.all Be=true:=List.all_eq_true.2 fun r hr=>by have:=hf r hr;simpa using this
   rw [this];rfl
  | some i =>
   rw [List.findIdx?_eq_some_iff_getElem] at hf
   obtain ⟨hi,he,_⟩:=hf
   have:rs.all Be=false:=by
    rw [Bool.eq_false_iff]
    intro ha
    have:=List.all_eq_true.1 ha _ (List.getElem_mem hi)
    rw [this] at he;cases he
   rw [this]
   exact dT (by show (0:Int)≤(i:Int);omega)
 generalize Wx (rs.findIdx? (fun r=>!Be r))=z at *
 refine Fn.o1 4 9 Tryz.func221 ?_;refine .sr ?_;refine asd ?_;refine rn ?_;refine .sr ?_;refine mvd ?_;refine mvd ?_
 refine cl (xs:=[.sl (RVs rs),.fn 222 [] []]) ?_ f Tryz.call242
 refine bi ?_
 rw [e]
 refine asd ?_;refine rn ?_;refine .ret ?_
 exact ⟨rfl,rfl⟩
theorem NX {rs:List RT} (h:∀ r∈rs,okR r) (hl:rs.length≤1048576) : Fn Tryz.prog 167 [.sl (RVs rs)] (.d (.b (rs.all Be))):=by
 have f:=Nl h hl
 generalize rs.all Be=b at *
 refine Fn.o1 2 6 Tryz.func167 ?_;refine .sr ?_;refine asd ?_;refine rn ?_;refine .sr ?_;refine mvd ?_
 refine cl (xs:=[.sl (RVs rs),.fn 222 [] []]) ?_ f Tryz.call221
 refine nt_ ?_
 rw [Bool.not_not]
 refine asd ?_;refine rn ?_;refine .ret ?_
 exact ⟨rfl,rfl⟩
abbrev QE:=Except Int (Bool×Nat×Nat)
def Ob (b:Bool) (n d:Nat) : QE :=
 if Nat.gcd n d=0 then .error 22
 else if 32<(Af (n / Nat.gcd n d)).length∨32<(Af (d / Nat.gcd n d)).length then .error 8
 else .ok (b&&decide (n / Nat.gcd n d≠0),n / Nat.gcd n d,d / Nat.gcd n d)
abbrev Qv (q:Bool×Nat×Nat) : DV:=Rv q.1 (Af q.2.1) (Af q.2.2)
def qb : QE→Bool
 | .error _=>false
 | .ok q=>q.1
def qn : QE→List Nat
 | .error _=>[]
 | .ok q=>Af q.2.1
def qd : QE→List Nat
 | .error _=>[]
 | .ok q=>Af q.2.2
abbrev qv (x:QE) : DV:=Rv (qb x) (qn x) (qd x)
def qe : QE→Int
 | .error e=>e
 | .ok _=>0
abbrev ON (x:QE) : List DV:=[qv x,.i .i64 (qe x)]
theorem N3 (b:Bool) (n d:Nat) : U3 b n d=ON (Ob b n d):=by
 unfold U3 Ob;split
 ·rfl
 ·split<;>rfl
def IA (x y:Bool×Nat×Nat) : Bool×Nat×Nat :=
 if x.1=y.1 then (x.1,x.2.1 * y.2.2+y.2.1 * x.2.2,x.2.2 * y.2.2)
 else if y.2.1 * x.2.2≤x.2.1 * y.2.2 then (x.1,x.2.1 * y.2.2-y.2.1 * x.2.2,x.2.2 * y.2.2)
 else (y.1,y.2.1 * x.2.2-x.2.1 * y.2.2,x.2.2 * y.2.2)
def VS (x y:Bool×Nat×Nat) : Bool×Nat×Nat:=(x.1 != y.1,x.2.1 * y.2.1,x.2.2 * y.2.2)
theorem Wl {z:Int} (h0:0≤z) (h1:z≤9223372036854775807) : IntKind.u64.wrap z=((z.natAbs:Nat) : Int):=by
 simp only [IntKind.wrap,IntKind.bits,IntKind.signed];simp;omega
theorem Ut {z:Int} (h0:z<0) (h1:-9223372036854775808≤z) : IntKind.u64.wrap (0-IntKind.u64.wrap z)=((z.natAbs:Nat) : Int):=by
 simp only [IntKind.wrap,IntKind.bits,IntKind.signed];simp;omega
theorem Ou {z:Int} (h1:-9223372036854775808≤z) (h2:z≤9223372036854775807) : Fn Tryz.prog 72 [.i .i64 z] (.d (Rv (decide (z<0)) (Af z.natAbs) [1])):=by
 have f:=Vh (n:=z.natAbs) (by omega)
 refine Fn.ofC (rs:=[.cell 2 32]) (nt:=16) Tryz.func72 rfl rfl rfl (by simp) rfl ?_;refine .sr ?_;refine vk (van (Ai iR) rR) ?_;refine rn ?_;refine .seq ?_;refine .sr ?_;refine mvd ?_;refine bi ?_;refine rn ?_
 by_cases hz:z<0
 ·rw [dT hz]
  refine B1 ?_;refine .sr ?_;refine mvd ?_
  refine cv ?_ i64 u64
  refine ng ?_
  rw [Ut hz h1]
  refine cl (xs:=[.i .u64 ((z.natAbs:Nat):Int)]) ?_ f Tryz.call158
  refine cl (xs:=[]) ?_ Lv Tryz.call121
  refine fz (p:=.t 9) ?_;refine vk (vbd pR iR rR) ?_
  refine stn ?_ sR (by decide)
  refine rn ?_;refine .ret ?_
  exact ⟨_,⟨.inr rfl,aR,sR,p3⟩,rfl⟩
 rw [dF hz]
 refine B4 ?_;refine .skip ?_
 show AW _ _ _ _ _ _
 refine .sr ?_;refine mvd ?_
 refine cv ?_ i64 u64
 rw [Wl (by omega) h2]
 refine cl (xs:=[.i .u64 ((z.natAbs:Nat):Int)]) ?_ f Tryz.call158
 refine cl (xs:=[]) ?_ Lv Tryz.call121
 refine fz (p:=.t 14) ?_;refine vk (vbd pR iR rR) ?_
 refine stn ?_ sR (by decide)
 refine rn ?_;refine .ret ?_
 exact ⟨_,⟨.inr rfl,aR,sR,p3⟩,rfl⟩
theorem Qb : Fn Tryz.prog 33 [] (.d (Rv false [] [1])):=by
 refine Fn.ofC (rs:=[.cell 0 32]) (nt:=3) Tryz.func33 rfl rfl rfl (by simp) rfl ?_;refine .sr ?_;refine vk (van (Ai iR) rR) ?_;refine rn ?_;refine .sr ?_
 refine cl (xs:=[]) ?_ R5 Tryz.call44
 refine fz (p:=.t 1) ?_;refine vk (vbd pR iR rR) ?_
 refine stn ?_ sR (by decide)
 refine rn ?_;refine .ret ?_
 exact ⟨_,⟨.inr rfl,aR,sR,p3⟩,rfl⟩
theorem UQ {b c:Bool} {n d m e:List Nat} (hn:Ok n) (hd:Ok d) (hm:Ok m) (he:Ok e) (hln:n.length≤4000) (hld:d.length≤4000) (hlm:m.length≤4000) (hle:e.length≤4000) :
  Fn Tryz.prog 204 [Nv b n d,Nv c m e] (.d (Nv (IA (b,val n,val d) (c,val m,val e)).1 (Af (IA (b,val n,val d) (c,val m,val e)).2.1) (Af (IA (b,val n,val d) (c,val m,val e)).2.2))):=by
 have c1:=Pf (n:=n) (d:=d) (m:=m) (e:=e) hn he hln hle
 have c2:=Pf (n:=m) (d:=e) (m:=n) (e:=d) hm hd hlm hld
 have p1:=Ht (M:=4000) (ls:=[d,e]) (by simp [hd,he]) (by simp [hld,hle]) (by simp) (by decide)
 rw [show D0 [d,e] 1=val d * val e by show 1 * val d * val e=_;rw [Nat.one_mul]] at p1
 have bnd:∀ {x y:List Nat},Ok x→Ok y→x.length≤4000→y.length≤4000→(Af (val x * val y)).length≤8000:=fun hx hy lx ly=>by
  refine nT (CA (k:=_+_) (by rw [Nat.pow_add];exact Nat.mul_lt_mul'' (B5 hx) (B5 hy))) (by omega)
 have b1:=bnd hn he hln hle
 have b2:=bnd hm hd hlm hld
 simp only [IA]
 generalize val n * val e=x at *
 generalize val m * val d=y at *
 generalize val d * val e=q at *
 have s1:=TD (M:=8000) (ls:=[Af x,Af y]) (by simp [Bb]) (by simp [b1,b2]) (by simp) (by decide)
 rw [show ([Af x,Af y].map val).sum=x+y by simp only [List.map_cons,List.map_nil,List.sum_cons,List.sum_nil,AZ];omega] at s1
 have m1:=OX (a:=Af x) (b:=Af y) (Bb _) (Bb _) (by omega) (by omega)
 have m2:=OX (a:=Af y) (b:=Af x) (Bb _) (Bb _) (by omega) (by omega)
 rw [AZ,AZ] at m1 m2
 refine Fn.ofC (rs:=[.cell 4 157]) (nt:=69) Tryz.func204 rfl rfl rfl (by simp) rfl ?_;refine .sr ?_;refine vk vbx ?_;refine vk vbx ?_;refine vk (van (Ai iN) rN) ?_;refine rn ?_;refine .seq ?_;refine .drawn 10 BN (by kernel_rfl) ?_;refine dv (vfa fN0) ?_;refine dv (AN aZ sZ) ?_;refine dv (vfa fN0) ?_;refine dv (AN aZ sZ) ?_;refine dv (v:=.d (.sl (L (Af x)))) (vcl (xs:=[Zv n d,Zv m e]) (r:=.d (.sl (L (Af x)))) c1 Tryz.call239) ?_;refine dv (vfa fN0) ?_;refine dv (AN aZ sZ) ?_;refine dv (vfa fN0) ?_;refine dv (AN aZ sZ) ?_;refine dv (v:=.d (.sl (L (Af y)))) (vcl (xs:=[Zv m e,Zv n d]) (r:=.d (.sl (L (Af y)))) c2 Tryz.call239) ?_;refine dz ?_;refine asd ?_;refine asd ?_;refine rn ?_;refine .gh (Gh.keep [2,3,4,5,6] rfl) ?_;refine .sr ?_;refine vk (vfa fN0) ?_;refine vk (vfa fZ1) ?_
 refine ldp ?_ aS
 refine vk (vfa fN0) ?_;refine vk (vfa fZ1) ?_
 refine ldp ?_ aS
 refine bsl ?_ ?_ e2
 ·simp [DV.flat,DV.cells,DV.leaf]
 refine fz (p:=.t 28) ?_
 refine cl (xs:=[.sl (LL [d,e])]) ?_ p1 Tryz.call166
 refine asd ?_;refine rn ?_;refine .gh (Gh.keep [2,3,4,5,6,7] rfl) ?_;refine .seq ?_;refine .sr ?_;refine vk (vfa fN1) ?_
 refine ldp ?_ aB
 refine vk (vfa fN1) ?_
 refine ldp ?_ aB
 refine bbn ?_ (.inl rfl) bo
 rw [if_pos rfl]
 refine rn ?_
 by_cases hbc:b=c
 ·subst hbc
  rw [beq_self_eq_true,if_pos rfl]
  refine B1 ?_;refine .seq ?_;refine .drawn 9 BN (by kernel_rfl) ?_;refine dv Aa ?_;refine dv Aa ?_;refine dv (v:=.d (.sl (LL [Af x,Af y]))) (IZ (Hy [Af x,Af y]) e2).deep ?_;refine dv (v:=.d (.sl (L (Af (x+y))))) (vcl (xs:=[.sl (LL [Af x,Af y])]) (r:=.d (.sl (L (Af (x+y))))) s1 Tryz.call165) ?_;refine dv Aa ?_;refine dv (vbd pZ iZ rZ) ?_;refine dv (vfa fN1) ?_;refine dv (As aB) ?_;refine dv (vbd pN iN rN) ?_;refine dz ?_
  refine stn ?_ sN (by decide)
  refine rn ?_;refine .ret ?_
  exact ⟨_,⟨.inr rfl,aN,sN,p3⟩,rfl⟩
 rw [beq_false_of_ne hbc,if_neg hbc]
 refine B4 ?_;refine .skip ?_
 show AW _ _ _ _ _ _
 refine .seq ?_;refine .sr ?_;refine mvd ?_;refine mvd ?_
 refine cl (xs:=[.sl (L (Af x)),.sl (L (Af y))]) ?_ m1 Tryz.call209
 refine mvt ?_;refine ex ?_;refine ex ?_;refine asd ?_;refine asd ?_;refine rn ?_;refine .gh (Gh.keep [2,3,4,5,6,7,8,9] rfl) ?_;refine .sr ?_;refine mvd ?_;refine rn ?_
 by_cases hle2:y≤x
 ·rw [dT hle2,if_pos hle2]
  refine B1 ?_;refine .sr ?_;refine mvd ?_;refine mvd ?_;refine vk (vbd pZ iZ rZ) ?_;refine vk (vfa fN1) ?_
  refine ldp ?_ aB
  refine vk (vbd pN iN rN) ?_
  refine stn ?_ sN (by decide)
  refine rn ?_;refine .ret ?_
  exact ⟨_,⟨.inr rfl,aN,sN,p3⟩,by rw [Re hle2];rfl⟩
 rw [dF hle2,if_neg hle2]
 refine B4 ?_;refine .skip ?_
 show AW _ _ _ _ _ _
 refine .sr ?_;refine mvd ?_;refine mvd ?_
 refine cl (xs:=[.sl (L (Af y)),.sl (L (Af x))]) ?_ m2 Tryz.call209
 refine mvt ?_;refine ex ?_;refine ex ?_;refine asd ?_;refine asd ?_;refine rn ?_;refine .gh (Gh.keep [2,3,4,7,10] rfl) ?_;refine .sr ?_;refine mvd ?_;refine mvd ?_;refine vk (vbd pZ iZ rZ) ?_;refine vk (vfa fN1) ?_
 refine ldp ?_ aB
 refine vk (vbd pN iN rN) ?_
 refine stn ?_ sN (by decide)
 refine rn ?_;refine .ret ?_
 exact ⟨_,⟨.inr rfl,aN,sN,p3⟩,by rw [Re (by omega)];rfl⟩
theorem Td {b c:Bool} {n d m e:List Nat} (hn:Ok n) (hd:Ok d) (hm:Ok m) (he:Ok e) (hln:n.length≤4000) (hld:d.length≤4000) (hlm:m.length≤4000) (hle:e.length≤4000) :
  Fn Tryz.prog 169 [Nv b n d,Nv c m e] (.d (Nv (b != c) (Af (val n * val m)) (Af (val d * val e)))):=by
 have p1:=Ht (M:=4000) (ls:=[n,m]) (by simp [hn,hm]) (by simp [hln,hlm]) (by simp) (by decide)
 rw [show D0 [n,m] 1=val n * val m by show 1 * val n * val m=_;rw [Nat.one_mul]] at p1
 have p2:=Ht (M:=4000) (ls:=[d,e]) (by simp [hd,he]) (by simp [hld,hle]) (by simp) (by decide)
 rw [show D0 [d,e] 1=val d * val e by show 1 * val d * val e=_;rw [Nat.one_mul]] at p2
 refine Fn.ofC (rs:=[.cell 4 157]) (nt:=28) Tryz.func169 rfl rfl rfl (by simp) rfl ?_;refine .sr ?_;refine vk vbx ?_;refine vk vbx ?_;refine vk (van (Ai iN) rN) ?_;refine rn ?_;refine .seq ?_;refine .drawn 23 BN (by kernel_rfl) ?_;refine dv (vfa fN0) ?_;refine dv (vfa fZ0) ?_;refine dv (As aS) ?_;refine dv (vfa fN0) ?_;refine dv (vfa fZ0) ?_;refine dv (As aS) ?_;refine dv (v:=.d (.sl (LL [n,m]))) (IZ (Hy [n,m]) e2).deep ?_;refine dv (v:=.d (.sl (L (Af (val n * val m))))) (vcl (xs:=[.sl (LL [n,m])]) (r:=.d (.sl (L (Af (val n * val m))))) p1 Tryz.call166) ?_;refine dv (vfa fN0) ?_;refine dv (vfa fZ1) ?_;refine dv (As aS) ?_;refine dv (vfa fN0) ?_;refine dv (vfa fZ1) ?_;refine dv (As aS) ?_;refine dv (v:=.d (.sl (LL [d,e]))) (IZ (Hy [d,e]) e2).deep ?_;refine dv (v:=.d (.sl (L (Af (val d * val e))))) (vcl (xs:=[.sl (LL [d,e])]) (r:=.d (.sl (L (Af (val d * val e))))) p2 Tryz.call166) ?_;refine dv (vbd pZ iZ rZ) ?_;refine dv (vfa fN1) ?_;refine dv (As aB) ?_;refine dv (vfa fN1) ?_;refine dv (As aB) ?_;refine dv (VR (.inr rfl) bo) ?_;refine dv (vbd pN iN rN) ?_;refine dz ?_
 refine stn ?_ sN (by decide)
 refine rn ?_;refine .ret ?_
 exact ⟨_,⟨.inr rfl,aN,sN,p3⟩,rfl⟩
abbrev Q3:=Bool×Nat×Nat
abbrev SH (q:Q3) : QE:=Ob q.1 q.2.1 q.2.2
abbrev rq (r:RT) : Q3:=(r.1,val r.2.1,val r.2.2)
def Mu (op:Q3→Q3→Q3) : Q3→List RT→QE
 | s,[]=>.ok s
 | s,r::rs=>match SH (op s (rq r)) with
  | .error e=>.error e
  | .ok t=>Mu op t rs
def PB (q:Q3) : Prop:=(Af q.2.1).length≤32∧(Af q.2.2).length≤32
theorem UK {b:Bool} {n d:Nat} {t:Q3} (h:Ob b n d=.ok t) : PB t:=by
 unfold Ob at h
 split at h
 ·cases h
 ·split at h
  ·cases h
  ·rename_i h2
   cases h
   exact ⟨Nat.le_of_not_lt fun h3=>h2 (.inl h3),Nat.le_of_not_lt fun h3=>h2 (.inr h3)⟩
theorem TO {b:Bool} {n d:Nat} {e:Int} (h:Ob b n d=.error e) : e≠0:=by
 unfold Ob at h
 split at h
 ·cases h;decide
 ·split at h
  ·cases h;decide
  ·cases h
theorem VX {x:QE} (h:¬qe x=0) : ∃ e,x=.error e:=by
 cases x with
 | error e=>exact ⟨e,rfl⟩
 | ok t=>exact absurd rfl h
theorem W7 {x:QE} (h:qe x=0) (h2:∀ e,x=.error e→e≠0) : ∃ t,x=.ok t:=by
 cases x with
 | error e=>exact absurd h (h2 e rfl)
 | ok t=>exact ⟨t,rfl⟩
theorem Pw {r:RT} (h:Be r=true) : r.2.1.length≤32∧r.2.2.length≤32:=by
 have:KV r.1 r.2.1 r.2.2:=of_decide_eq_true h
 exact ⟨this.2.2.1,this.2.2.2.1⟩
def Ve (f:Nat) (op:Q3→Q3→Q3) : Prop :=
 ∀ (b c:Bool) (n d m e:List Nat),Ok n→Ok d→Ok m→Ok e→n.length≤32→d.length≤32→m.length≤32→e.length≤32 →
  Fn Tryz.prog f [Nv b n d,Nv c m e] (.d (Nv (op (b,val n,val d) (c,val m,val e)).1 (Af (op (b,val n,val d) (c,val m,val e)).2.1) (Af (op (b,val n,val d) (c,val m,val e)).2.2)))
  ∧ (Af (op (b,val n,val d) (c,val m,val e)).2.1).length≤100∧(Af (op (b,val n,val d) (c,val m,val e)).2.2).length≤100
theorem Ux {z:Int} {rs:List RT} {f:Nat} {op:Q3→Q3→Q3} (hz0:0≤z) (hz1:z≤1) (h:∀ r∈rs,okR r) (hl:rs.length≤1048576) (hop:Ve f op) (hcall:∀ args w,(callFunc f args).run Tryz.prog w=.ok (.enter f args) w) :
  Fn Tryz.prog 203 [.i .i64 z,.sl (RVs rs),.fn f [] []] (.tup ((ON (if rs.all Be=true then Mu op (false,z.natAbs,1) rs else .error 22)).map .d)):=by
 have f1:=NX h hl
 have f2:=Ou (z:=z) (by omega) (by omega)
 rw [dF (show ¬z<0 by omega)] at f2
 have one:Af 1=[1]:=IV (n:=1) (by decide) (by decide)
 refine Fn.ofC (rs:=[.cell 6 32,.tmp 7]) (nt:=42) Tryz.func203 rfl rfl rfl (by simp) (Pt _) ?_;refine .sr ?_;refine vk (van (Ai iR) rR) ?_;refine asd ?_;refine rn ?_;refine .seq ?_;refine .sr ?_;refine mvd ?_
 refine cl (xs:=[.sl (RVs rs)]) ?_ f1 Tryz.call167
 refine nt_ ?_;refine rn ?_;refine .gh (Gh.keep [0,1,2,6,7,15] rfl) ?_
 by_cases hr:rs.all Be=false
 ·rw [hr,if_neg (by decide)]
  refine B1 ?_;refine .sr ?_;refine vk (vbd pR iR rR) ?_
  refine stn ?_ sR (by decide)
  refine asd ?_;refine rn ?_;refine .ret ?_
  exact ⟨_,_,⟨.inr rfl,aR,sR,p3⟩,rfl,rfl⟩
 rw [Bool.not_eq_false] at hr
 rw [hr,if_pos rfl]
 refine B4 ?_;refine .skip ?_
 show AW _ _ _ _ _ _
 refine .sr ?_;refine mvd ?_
 refine cl (xs:=[.i .i64 z]) ?_ f2 Tryz.call72
 refine vk (van (Ai iR) rR) ?_
 refine stn ?_ sR (by decide)
 refine rn ?_;refine .gh (Gh.keep [1,2,6,8] rfl) ?_;refine .seq ?_;refine .sr ?_;refine mvd ?_
 refine ln ?_ (TB _) lR
 refine mvd ?_;refine rn ?_;refine .block ?_
 refine .loop (.gh (Gh.keep [2,6,8,19,20,21] rfl) ?_)
 refine AL.cast (env':=[(2,.d (.fn f [] [])),(6,.nb [.b false,.sl [],.sl []]),(8,.nb [.b false,.sl (L (Af z.natAbs)),.sl (L (Af 1))]),(19,.d (.sl (RVs rs))),(20,.d (.i .i64 ((RVs rs).length:Nat))),(21,.d (.i .i64 ((0:Nat):Int)))]) (by rw [one];rfl) ?_
 refine AL.ind (σ:=Q3×Nat) (m:=fun p=>rs.length-p.2) (e:=fun p=>[(2,.d (.fn f [] [])),(6,.nb [.b false,.sl [],.sl []]),(8,.nb [.b p.1.1,.sl (L (Af p.1.2.1)),.sl (L (Af p.1.2.2))]),(19,.d (.sl (RVs rs))),(20,.d (.i .i64 ((RVs rs).length:Nat))),(21,.d (.i .i64 (p.2:Int)))]) (h:=fun _=>[])
  (I:=fun p=>p.2≤rs.length∧PB p.1∧Mu op p.1 (rs.drop p.2)=Mu op (false,z.natAbs,1) rs) ?_ ((false,z.natAbs,1),0) ⟨Nat.zero_le _,⟨by have:=CA (n:=z.natAbs) (k:=32) (nL (show z.natAbs<2 by omega) (by decide));exact this,by rw [one];decide⟩,rfl⟩
 rintro ⟨s,i⟩ ⟨h1,h2,h3⟩ ih
 dsimp only at h1 h2 h3 ih ⊢
 refine .sr ?_;refine bi ?_;refine rn ?_;refine .seq ?_
 by_cases hi:i<rs.length
 ·rw [dT (show (i:Int)<((RVs rs).length:Nat) by rw [Gq];omega)]
  have hx:rs[i]?=some rs[i]:=lG hi
  have hdr:rs.drop i=rs[i]::rs.drop (i+1):=lC hi
  generalize rs[i]=r at hx hdr
  have hmem:=List.mem_of_getElem? hx
  obtain ⟨o1,o2,o3,o4⟩:=h r hmem
  obtain ⟨l1,l2⟩:=Pw (List.all_eq_true.1 hr r hmem)
  obtain ⟨w1,w3,w4⟩:=hop s.1 r.1 (Af s.2.1) (Af s.2.2) r.2.1 r.2.2 (Bb _) (Bb _) o1 o2 h2.1 h2.2 l1 l2
  rw [hdr] at h3
  rw [AZ,AZ] at w1 w3 w4
  rw [Mu] at h3
  have hop2:op (s.1,s.2.1,s.2.2) (r.1,val r.2.1,val r.2.2)=op s (rq r):=rfl
  rw [hop2] at w1 w3 w4
  generalize op s (rq r)=t at *
  have w2:=Mz (M:=100) (b:=t.1) (Bb t.2.1) (Bb t.2.2) w3 w4 (by decide)
  rw [AZ,AZ,N3] at w2
  have hxs:∀ q,SH t=.ok q→PB q:=fun q hq=>UK hq
  have hxe:∀ e,SH t=.error e→e≠0:=fun e he=>TO he
  replace w2:Fn Tryz.prog 170 [Nv t.1 (Af t.2.1) (Af t.2.2)] (.tup ((ON (SH t)).map .d)):=w2
  generalize SH t=x at *
  refine B1 ?_;refine .skip ?_
  show AW _ _ _ _ _ _
  refine .seq ?_;refine .block ?_;refine .sr ?_
  refine ix i ?_ rfl (TG hx) rfl slR
  refine vk (AN aR sR) ?_;refine vk (van (Ai iR) rR) ?_
  refine stn ?_ sR (by decide)
  refine RL.gh (Gh.nbp (t:=10) rfl) ?_;refine rn ?_;refine .gh (Gh.keep [2,6,8,10,19,20,21] rfl) ?_;refine .seq ?_;refine .drawnF 11 [9] [(11,.nb [.b (qb x),.sl (L (qn x)),.sl (L (qd x))])] [] BN (by kernel_rfl) rfl ?_;refine dv Aa ?_;refine dv (GZ aR sR) ?_;refine dv (v:=.d (Nv s.1 (Af s.2.1) (Af s.2.2))) (vcl (xs:=[Qv s]) (r:=.d (Nv s.1 (Af s.2.1) (Af s.2.2))) (Tw s.1 (Af s.2.1) (Af s.2.2)) Tryz.call168) ?_;refine dv (AN aR sR) ?_;refine dv (v:=.d (Nv r.1 r.2.1 r.2.2)) (vcl (xs:=[Rv r.1 r.2.1 r.2.2]) (r:=.d (Nv r.1 r.2.1 r.2.2)) (Tw r.1 r.2.1 r.2.2) Tryz.call168) ?_;refine dv (v:=.d (Nv t.1 (Af t.2.1) (Af t.2.2))) (vcl (xs:=[Nv s.1 (Af s.2.1) (Af s.2.2),Nv r.1 r.2.1 r.2.2]) (r:=.d (Nv t.1 (Af t.2.1) (Af t.2.2))) w1 hcall) ?_;refine dv (v:=.d (.tup (ON x))) (VOK.tupd (vcl (xs:=[Nv t.1 (Af t.2.1) (Af t.2.2)]) w2 Tryz.call170)) ?_;refine dv Aa ?_;refine dv vex ?_;refine dv vex ?_;refine dv (van (Ai iR) rR) ?_;refine dz ?_
  refine ⟨?_,?_,?_⟩
  ·intro k hk
   simp only [List.mem_cons,List.not_mem_nil,or_false] at hk
   subst hk
   exact ⟨_,_,_,rfl,rfl,rfl,rfl,rfl,rfl,vex⟩
  ·intro om e hom hge
   cases hom
   exact Il (cs:=[.b false,.sl [],.sl []]) (cs':=[.b (qb x),.sl (L (qn x)),.sl (L (qd x))]) sR (by decide) rfl ((hge 11 (fun k hk v hv=>by
     simp only [List.mem_cons,List.not_mem_nil,or_false] at hk
     subst hk;exact (by decide:¬(some 34=some 11)) (congrArg (Option.map Prod.fst) hv))).trans rfl) ((congrArg A3 (hge 33 (fun k hk v hv=>by
     simp only [List.mem_cons,List.not_mem_nil,or_false] at hk
     subst hk;exact (by decide:¬(some 34=some 33)) (congrArg (Option.map Prod.fst) hv)))).trans rfl) rfl rfl rfl rfl ⟨rfl,rfl⟩
  refine RL.gh (Gh.nbp (t:=11) rfl) ?_;refine asd ?_;refine rn ?_;refine .gh (Gh.keep [2,6,8,11,12,19,20,21] rfl) ?_;refine .seq ?_;refine .sr ?_;refine mvd ?_;refine bi ?_;refine rn ?_
  by_cases hxq:¬qe x=0
  ·rw [dF hxq]
   obtain ⟨e,rfl⟩:=VX hxq
   refine B1 ?_;refine .sr ?_;refine vk (vbd pR iR rR) ?_;refine mvd ?_
   refine stn ?_ sR (by decide)
   refine asd ?_;refine rn ?_;refine .ret ?_
   exact ⟨_,_,⟨.inr rfl,aR,sR,p3⟩,rfl,by rw [← h3];rfl⟩
  rw [Decidable.not_not] at hxq
  rw [dT hxq]
  obtain ⟨q,rfl⟩:=W7 hxq hxe
  refine B4 ?_;refine .skip ?_
  show AW _ _ _ _ _ _
  refine .region ?_;refine vk (AN aR sR) ?_
  refine stn ?_ sR (by decide)
  refine .nil ?_
  show AW _ _ _ _ _ _
  refine .region ?_;refine ad ((i+1:Nat):Int) ?_ ?_
  ·omega
  refine mvd ?_;refine .nil ?_;refine AL.gh (Gh.keep [2,6,8,19,20,21] rfl) ?_
  exact ih (q,i+1) ⟨by dsimp only;omega,hxs q rfl,h3⟩ (by dsimp only;omega)
 rw [dF (show ¬(i:Int)<((RVs rs).length:Nat) by rw [Gq];omega)]
 refine B4 ?_;refine .exit ?_
 show AW _ _ _ _ _ _
 refine .sr ?_;refine vk (GZ aR sR) ?_
 refine stn ?_ sR (by decide)
 refine asd ?_;refine rn ?_;refine .ret ?_
 rw [List.drop_eq_nil_of_le (by omega)] at h3
 exact ⟨_,_,⟨.inr rfl,aR,sR,p3⟩,rfl,by rw [← h3];rfl⟩
theorem M7 {x y:List Nat} {k:Nat} (hx:Ok x) (hy:Ok y) (lx:x.length≤k) (ly:y.length≤k) : (Af (val x * val y)).length≤2 * k :=
 nT (CA (k:=_+_) (by rw [Nat.pow_add];exact Nat.mul_lt_mul'' (B5 hx) (B5 hy))) (by omega)
theorem UU {x y k:Nat} (hx:(Af x).length≤k) (hy:(Af y).length≤k) : (Af (x+y)).length≤k+1:=by
 have h1:=nL (B5 (Bb x)) (Nat.pow_le_pow_right (n:=4294967296) (by decide) hx)
 have h2:=nL (B5 (Bb y)) (Nat.pow_le_pow_right (n:=4294967296) (by decide) hy)
 rw [AZ] at h1 h2
 refine CA ?_
 rw [MD];omega
theorem Q4 {x y k:Nat} (hx:(Af x).length≤k) : (Af (x-y)).length≤k:=nT (RW (Nat.sub_le x y)) hx
theorem SA : Ve 204 IA:=by
 intro b c n d m e hn hd hm he ln ld lm le
 have l1:=M7 hn he ln le
 have l2:=M7 hm hd lm ld
 refine ⟨UQ hn hd hm he (by omega) (by omega) (by omega) (by omega),?_,?_⟩
 ·simp only [IA]
  generalize val n * val e=x at *
  generalize val m * val d=y at *
  split
  ·exact nT (UU l1 l2) (by decide)
  ·split
   ·exact nT (Q4 l1) (by decide)
   ·exact nT (Q4 l2) (by decide)
 ·have:=M7 hd he ld le
  have h:(IA (b,val n,val d) (c,val m,val e)).2.2=val d * val e:=by simp only [IA];split<;>first|rfl|(split<;>rfl)
  rw [h];omega
def Uk (rs:List RT) : QE:=if rs.all Be=true then Mu IA (false,0,1) rs else .error 22
theorem Uw {rs:List RT} (h:∀ r∈rs,okR r) (hl:rs.length≤1048576) : Fn Tryz.prog 133 [.sl (RVs rs)] (.tup ((ON (Uk rs)).map .d)):=by
 have f:=Ux (z:=0) (by decide) (by decide) h hl SA Tryz.call204
 replace f:Fn Tryz.prog 203 [.i .i64 0,.sl (RVs rs),.fn 204 [] []] (.tup ((ON (Uk rs)).map .d)):=f
 generalize Uk rs=x at *
 refine Fn.ofC (rs:=[.cell 2 32,.tmp 3]) (nt:=8) Tryz.func133 rfl rfl rfl (by simp) (Pt _) ?_;refine .sr ?_;refine vk (van (Ai iR) rR) ?_;refine asd ?_;refine rn ?_;refine .sr ?_;refine mvd ?_;refine vk (av:=.d (.tup (ON x))) (VOK.tupd (vcl (xs:=[.i .i64 0,.sl (RVs rs),.fn 204 [] []]) f Tryz.call203)) ?_;refine vk vex ?_;refine vk vex ?_
 refine stn ?_ sR (by decide)
 refine asd ?_;refine rn ?_;refine .ret ?_
 exact ⟨_,_,⟨.inr rfl,aR,sR,p3⟩,rfl,rfl⟩
theorem CK : Cj Tryz.prog 4=some false:=by kernel_rfl
theorem A9 : Cj Tryz.prog 3=some false:=by kernel_rfl
theorem Fl : AC Tryz.prog 3=1:=by kernel_rfl
theorem E8 : Cj Tryz.prog 21=some false:=by kernel_rfl
theorem BI : Cj Tryz.prog 32=some true:=by kernel_rfl
theorem AS : AC Tryz.prog 32=3:=by kernel_rfl
theorem Dt : BA Tryz.prog 32 0=some (0,1):=by kernel_rfl
theorem DG : BA Tryz.prog 32 1=some (1,1):=by kernel_rfl
theorem Gm : BA Tryz.prog 32 2=some (2,1):=by kernel_rfl
theorem Jc : C9 Tryz.prog 32=some [(0,1),(1,1),(2,1)]:=by kernel_rfl
theorem DY : (Tryz.prog.info? 32).bind (·.zero)=some (.agg #[.bool false,.slice none 0 0,.slice none 0 0]):=by kernel_rfl
theorem DX (w:World) (I:Nat→Prop) : RepAll w I [.b false,.sl [],.sl []] (Value.agg #[.bool false,.slice none 0 0,.slice none 0 0]).cells.toList:=.cons (.b _) (.cons (.sl0 _ _) (.cons (.sl0 _ _) (.nil)))
theorem VW : C9 Tryz.prog 155=some [(0,1),(1,1)]:=by kernel_rfl
theorem VK : (Tryz.prog.info? 155).bind (·.zero)=some (.agg #[.slice none 0 0,.slice none 0 0]):=by kernel_rfl
theorem WD (w:World) (I:Nat→Prop) : RepAll w I [.sl [],.sl []] (Value.agg #[.slice none 0 0,.slice none 0 0]).cells.toList:=.cons (.sl0 _ _) (.cons (.sl0 _ _) (.nil))
theorem V5 : C9 Tryz.prog 157=some [(0,2),(2,1)]:=by kernel_rfl
theorem Wz : (Tryz.prog.info? 157).bind (·.zero)=some (.agg #[.slice none 0 0,.slice none 0 0,.bool false]):=by kernel_rfl
theorem Vy (w:World) (I:Nat→Prop) : RepAll w I [.sl [],.sl [],.b false] (Value.agg #[.slice none 0 0,.slice none 0 0,.bool false]).cells.toList:=.cons (.sl0 _ _) (.cons (.sl0 _ _) (.cons (.b _) (.nil)))
theorem E0 : Cj Tryz.prog 30=some false:=by kernel_rfl
theorem Od : Tryz.prog.underlying 30=some (.slice (Tryz.prog.elem 30)):=by kernel_rfl
theorem S5 : Cm Tryz.prog 87=some (30,1,24,.slice none 0 0):=by kernel_rfl
theorem TK : Cm Tryz.prog 180=some (32,3,56,.agg #[.bool false,.slice none 0 0,.slice none 0 0]):=by kernel_rfl
theorem OE (xs:List RT) : ∀ d∈RVs xs,d.flat=true∧d.cells.length=3:=fun x hx=>by
 simp only [RVs,List.mem_map] at hx
 obtain ⟨n,_,rfl⟩:=hx
 exact ⟨by simp [DV.flat,DV.cells,DV.leaf],rfl⟩
end Go.FL
namespace Go.FL
open Go Go.RowKit
section
variable {P:Program} {C:Cx} {X:Snap} {o:Oper} {ops:Array Oper} {Q:Exit→Env→Ac→Prop} {env env':Env} {H H':Ac} {a:Act} {w w':World} {I I':Nat→Prop} {μ μ':List Nat} {O O':Nat→Option Loc}
abbrev JT:=Nat→World→(Nat→Prop)→(Nat→Prop)→Prop
def JOK (J:JT) : Prop:=∀ {k:Nat} {W:World} {I K:Nat→Prop} {W':World} {I' K':Nat→Prop},J k W I K→W.heap.size≤W'.heap.size→(∀ b,b<W.heap.size→¬K b→W'.heap[b]?=W.heap[b]?) →
 W'.os=W.os→W'.tape=W.tape→W'.output=W.output→(∀ b,I b→I' b)→(∀ b,I' b→b<W'.heap.size)→(∀ b,b<W.heap.size→¬K b→I' b→I b)→(∀ b,K' b→b<W'.heap.size∧¬I' b)→(∀ b,K' b→b<W.heap.size→K b)→J k W' I' K'
def Tt (P:Program) (l:Nat) (J:JT) (k:Nat) (b:Bool) (ds:List DV) : Prop:=∀ (W:World) (I K:Nat→Prop) (vs:List Value),J k W I K→RepAll W I ds vs →
 YieldAt (om none) 0 P l vs.toArray W fun e W'=>e=.returned (.bool b)∧∃ I',J (k+1) W' I' K∧(∀ b,K b→W'.heap[b]?=W.heap[b]?∧¬I' b)∧(∀ b,I b→I' b∧W'.heap[b]?=W.heap[b]?)∧W.heap.size≤W'.heap.size∧∀ b,I' b→b<W'.heap.size
def ItG (P:Program) (f:FuncId) (caps:List DV) (ys:List (List DV)) (n:Nat) : Prop :=
 ∀ (l:Nat) (W:World) (I:Nat→Prop) (cv:List Value) (J:JT),JOK J→RepAll W I caps cv→(∀ b,I b→b<W.heap.size)→(∀ k ds,ys[k]?=some ds→k≤n→Tt P l J k (decide (k<n)) ds)→J 0 W I (fun _=>False) →
  CallsIn (om none) 0 P f (#[.func (.yield l) #[] #[]]++cv.toArray) W fun e W'=>(∃ v,e=.returned v)∧∃ I' K',J (min (n+1) ys.length) W' I' K'
def JX (J:JT) (k:Nat) (X:Snap) : Prop:=∃ K,J k X.w X.I K∧∀ b,b<X.w.heap.size→¬X.K b→K b
def XJ (J:JT) (nt:Nat×Nat) (ags:List Value) (k:Nat) (X:Snap) : Prop:=X.nt=nt∧X.n0=0∧X.ne=0∧X.dfs=[]∧X.args=ags∧JX J k X
def Sn (P:Program) (nt:Nat×Nat) (J:JT) (ags:List Value) (Q:Exit→Env→Ac→Nat→Prop) : Exit→Act→World→Prop:=fun e a w =>
 ∃ X env H I μ O k,XJ J nt ags k X∧Sim P X env H a w I μ O∧Q e env H k
def AWJ (P:Program) (nt:Nat×Nat) (J:JT) (ags:List Value) (c:Code) (Q:Exit→Env→Ac→Nat→Prop) (env:Env) (H:Ac) (k:Nat) : Prop :=
 ∀ X a w I μ O,XJ J nt ags k X→Sim P X env H a w I μ O→c.wpIn (om none) 0 P (Sn P nt J ags Q) a w
def ALJ (P:Program) (nt:Nat×Nat) (J:JT) (ags:List Value) (c:Code) (Q:Exit→Env→Ac→Nat→Prop) (env:Env) (H:Ac) (k:Nat) : Prop :=
 ∀ X a w I μ O,XJ J nt ags k X→Sim P X env H a w I μ O→LB (om none) 0 P c (Sn P nt J ags Q) a w
def RLJ (P:Program) (nt:Nat×Nat) (J:JT) (ags:List Value) (ops:Array Oper) (Q:Exit→Env→Ac→Nat→Prop) (n:Nat) (l:List Oper) (env:Env) (H:Ac) (k:Nat) : Prop :=
 ops.toList.drop n=l→∀ X a w I μ O,XJ J nt ags k X→Sim P X env H a w I μ O→wpOpsIn (om none) 0 P ops (Sn P nt J ags Q) (List.range' n l.length) a w
def S7 (K:Env→Ac→Nat→Prop) (Q:Exit→Env→Ac→Nat→Prop) : Exit→Env→Ac→Nat→Prop
 | .normal,env,H,k=>K env H k
 | e,env,H,k=>Q e env H k
def SP (id:Nat) (Q:Exit→Env→Ac→Nat→Prop) : Exit→Env→Ac→Nat→Prop
 | .exit id',env,H,k=>if id'=id then Q .normal env H k else Q (.exit id') env H k
 | e,env,H,k=>Q e env H k
variable {nt:Nat×Nat} {J:JT} {ags:List Value} {QJ:Exit→Env→Ac→Nat→Prop} {k n:Nat} {l:List Oper}
theorem AWJ.lift {c:Code} (h:AW P {nt:=nt,n0:=0,ne:=0} c (fun e env H=>QJ e env H k) env H) : AWJ P nt J ags c QJ env H k:=fun X a w I μ O hx hs =>
 wpIn_mono (h X a w I μ O hx.1 hx.2.1 hx.2.2.1 hs) fun _ _ _ ⟨env,H,I,μ,O,s,q⟩=>⟨X,env,H,I,μ,O,k,hx,s,q⟩
theorem AWJ.skip (h:QJ .normal env H k) : AWJ P nt J ags .skip QJ env H k:=.lift (.skip h)
theorem AWJ.exit {id:Nat} (h:QJ (.exit id) env H k) : AWJ P nt J ags (.exit id) QJ env H k:=.lift (.exit h)
theorem AWJ.ret (h:QJ .ret env H k) : AWJ P nt J ags .ret QJ env H k:=.lift (.ret h)
theorem AWJ.seq {x y:Code} (h:AWJ P nt J ags x (S7 (AWJ P nt J ags y QJ) QJ) env H k) : AWJ P nt J ags (.seq x y) QJ env H k:=fun X a w I μ O hx hs =>
 wpIn_seq (wpIn_mono (h X a w I μ O hx hs) fun e _ _ ⟨X',env',H',I',μ',O',k',hx',s,q⟩=>by
  cases e with
  | normal=>exact q X' _ _ I' μ' O' hx' s
  | _=>exact ⟨X',env',H',I',μ',O',k',hx',s,q⟩)
theorem AWJ.block {id:Nat} {c:Code} (h:AWJ P nt J ags c (SP id QJ) env H k) : AWJ P nt J ags (.block id c) QJ env H k:=fun X a w I μ O hx hs =>
 wpIn_block (wpIn_mono (h X a w I μ O hx hs) fun e _ _ ⟨X',env',H',I',μ',O',k',hx',s,q⟩=>by
  cases e with
  | exit id' =>
   simp only [Exit.inBlock]
   simp only [SP] at q
   split
   ·rename_i he;rw [if_pos he] at q;exact ⟨X',env',H',I',μ',O',k',hx',s,q⟩
   ·rename_i he;rw [if_neg he] at q;exact ⟨X',env',H',I',μ',O',k',hx',s,q⟩
  | _=>exact ⟨X',env',H',I',μ',O',k',hx',s,q⟩)
theorem AWJ.cond {t:Nat} {x:Bool} {c1 c2:Code} (hx:get env t=.d (.b x)) (h1:x=true→AWJ P nt J ags c1 QJ env H k) (h2:x=false→AWJ P nt J ags c2 QJ env H k) : AWJ P nt J ags (.cond (.tmp t) c1 c2) QJ env H k:=fun X a w I μ O g hs =>
 wpIn_cond_split (t:=x) (hs.bool hx) (fun e=>h1 e X a w I μ O g hs) (fun e=>h2 e X a w I μ O g hs)
theorem ALJ.loop {c:Code} (h:ALJ P nt J ags c QJ env H k) : AWJ P nt J ags (.loop c) QJ env H k:=fun X a w I μ O hx hs=>(h X a w I μ O hx hs).loop
theorem ALJ.round {c:Code} (h:AWJ P nt J ags c (S7 (ALJ P nt J ags c QJ) QJ) env H k) : ALJ P nt J ags c QJ env H k:=fun X a w I μ O hx hs =>
 .round (wpIn_mono (h X a w I μ O hx hs) fun e _ _ ⟨X',env',H',I',μ',O',k',hx',s,q⟩=>by
  cases e with
  | normal=>exact q X' _ _ I' μ' O' hx' s
  | _=>exact ⟨X',env',H',I',μ',O',k',hx',s,q⟩)
theorem ALJ.ind {c:Code} {σ:Type} (m:σ→Nat) (e:σ→Env) (h:σ→Ac) (r:σ→Nat) (I:σ→Prop)
  (step:∀ s,I s→(∀ s',I s'→m s'<m s→ALJ P nt J ags c QJ (e s') (h s') (r s'))→AWJ P nt J ags c (S7 (ALJ P nt J ags c QJ) QJ) (e s) (h s) (r s)):∀ s,I s→ALJ P nt J ags c QJ (e s) (h s) (r s):=by
 suffices H:∀ n s,m s=n→I s→ALJ P nt J ags c QJ (e s) (h s) (r s) from fun s hs=>H _ s rfl hs
 intro n
 induction n using Nat.strongRecOn with
 | ind n ih =>
  intro s hm hs
  exact .round (step s hs fun s' h1 h2=>ih (m s') (by omega) s' rfl h1)
theorem AWJ.gh {c:Code} (g:Gh P {nt:=nt,n0:=0,ne:=0} env H env' H') (h:AWJ P nt J ags c QJ env' H' k) : AWJ P nt J ags c QJ env H k:=fun X a w I μ O hx hs =>
 let ⟨I',O',hs'⟩:=g X a w I μ O hx.1 hx.2.1 hx.2.2.1 hs;h X a w I' μ O' hx hs'
theorem ALJ.gh {c:Code} (g:Gh P {nt:=nt,n0:=0,ne:=0} env H env' H') (h:ALJ P nt J ags c QJ env' H' k) : ALJ P nt J ags c QJ env H k:=fun X a w I μ O hx hs =>
 let ⟨I',O',hs'⟩:=g X a w I μ O hx.1 hx.2.1 hx.2.2.1 hs;h X a w I' μ O' hx hs'
theorem AWJ.region {id:Nat} {ops:Array Oper} (h:RLJ P nt J ags ops QJ 0 ops.toList env H k) : AWJ P nt J ags (.region id ops false) QJ env H k:=fun X a w I μ O hx hs=>by
 refine wpIn_region ?_
 rw [List.range_eq_range',← Array.length_toList]
 exact h rfl X a w I μ O hx hs
theorem RLJ.nil (h:QJ .normal env H k) : RLJ P nt J ags ops QJ n [] env H k:=fun _ X _ _ I μ O hx hs=>⟨X,env,H,I,μ,O,k,hx,hs,h⟩
theorem RLJ.cons (hg:o.guard=none) (h:OpOK P {nt:=nt,n0:=0,ne:=0} o env H fun e h=>RLJ P nt J ags ops QJ (n+1) l e h k) : RLJ P nt J ags ops QJ n (o::l) env H k:=by
 intro hl X a w I μ O hx hs
 obtain ⟨e1,e2⟩:=Eh hl
 rw [List.length_cons,List.range'_succ]
 have e1':ops[n]?=some o:=by simpa using e1
 simp only [wpOpsIn,e1',Region.wanted,hg,if_true]
 exact h X a w I μ O _ _ hx.1 hx.2.1 hx.2.2.1 hs fun env' H' a' w' I' μ' O' hs' hK=>hK e2 X a' w' I' μ' O' hx hs'
theorem ItG.of {f:FuncId} {fn:Func} {c:Code} {caps:List DV} {ys:List (List DV)} {m nt:Nat} (hf:P.funcs[f]?=some fn) (hb:fn.body=some c) (hrs:fn.results=#[]) (hnt:fn.ntmps=nt) (hn:caps.length+1≤nt)
  (h:∀ lp J,JOK J→(∀ k ds,ys[k]?=some ds→k≤m→Tt P lp J k (decide (k<m)) ds) →
   AWJ P (0,nt) J [] c (fun e _ _ k=>(e=.normal∨e=.ret)∧k=min (m+1) ys.length) (Eb 0 (.yl lp::caps)) [] 0):ItG P f caps ys m:=by
 intro lp W I cv J hJ hcv hI hR h0
 refine callsIn_of_wp hf hb trivial ?_
 have hlen:=hcv.length
 let vs:List Value:=.func (.yield lp) #[] #[]::cv
 have hargs:#[Value.func (.yield lp) #[] #[]]++cv.toArray=vs.toArray:=by apply Array.ext';simp [vs]
 rw [hargs]
 have hvr:RepAll W I (.yl lp::caps) vs:=.cons (.yl lp) hcv
 let X:Snap:={w:=W,I:=I,K:=fun b=>b<W.heap.size,n0:=0,ne:=0,μ:=[],nt:=(0,nt),dfs:=[],args:=[]}
 let a:Act:={tmps:=vs.toArray++Array.replicate (fn.ntmps-vs.toArray.size) undef,defers:=[]}
 have hat:∀ (j:Nat) (v:Value),vs[j]?=some v→a.tmps.getD j undef=v:=fun j v hj=>by
  have hjl:j<vs.length:=(lS.1 hj).1
  have e2:(vs.toArray++Array.replicate (fn.ntmps-vs.length) undef)[j]?=some v:=by
   rw [Array.getElem?_append_left (by simpa using hjl)];simpa using hj
  simp [a,e2]
 have hs:Sim P X (Eb 0 (.yl lp::caps)) [] a W I [] (fun _=>none):=by
  refine ⟨{prot:=fun _ _=>rfl,kO:=fun _ _=>rfl,kI:=fun _ _ h=>h,mono:=fun _ h=>h,os:=rfl,tape:=rfl,output:=rfl,size:=Nat.le_refl _,own:=(fun b l h=>by simp at h),ilt:=hI,μlen:=rfl,μpre:=(fun i b hi _=>by simp [X] at hi),nle:=(by simp [X]),heap:=(fun id o h=>by simp at h),klt:=fun b hb=>hb,n0le:=(by simp [X])},fun t=>?_,?_,rfl,fun t ht=>absurd ht (by simp [X])⟩
  ·rcases Gj (tmps:=a.tmps) (k:=0) hvr (fun j v hj=>by rw [Nat.zero_add];exact hat j v hj) t with h0|⟨d,h0,h1⟩
   ·rw [h0];exact .un
   ·rw [h0];exact .of (bs:=[]) (.d h1) nN (by simp)
  ·simp [a,X,hnt,vs];omega
 refine wpIn_mono (h lp J hJ hR X a W I [] _ ⟨rfl,rfl,rfl,rfl,rfl,fun _=>False,h0,fun b hb hk=>absurd hb hk⟩ hs) fun e a' w' ⟨X',env',H',I',μ',O',k',hx',s',he,hk⟩=>?_
 subst hk
 obtain ⟨x1,x2,x3,x4,x5,K,hK1,hK2⟩:=hx'
 have fin:a'.defers=[]∧∃ v,(results fn a'.tmps).run P w'=.ok v w'∧((∃ v',Ending.returned v=.returned v')∧∃ I' K',J (min (m+1) ys.length) w' I' K'):=by
  refine ⟨by rw [s'.dfs.1,x4],_,results_none hrs _ _ _,⟨_,rfl⟩,I',fun b=>O' b≠none,?_⟩
  exact hJ hK1 s'.size (fun b hb hnk=>s'.prot b (Classical.byContradiction fun hx=>hnk (hK2 b hb hx))) s'.os s'.tape s'.output s'.mono s'.ilt
   (fun b hb hnk hi=>s'.kI b (Classical.byContradiction fun hx=>hnk (hK2 b hb hx)) hi) (fun b hb=>by
    cases hO:O' b with
    | none=>exact absurd hO hb
    | some l=>exact s'.own b l hO) (fun b hb hlt=>hK2 b hlt fun hk=>hb (s'.kO b hk))
 cases e with
 | normal=>exact fin
 | ret=>exact fin
 | _=>rcases he with he|he<;>cases he
end
end Go.FL
namespace Go.FL
open Go Go.RowKit
def FnV (P:Program) (gv:DV) (xs:List DV) (r:AV) : Prop :=
 ∃ f first caps,gv=.fn f first caps∧(∀ args w,(callFunc f args).run P w=.ok (.enter f args) w)∧Fn P f (first++xs++caps) r
structure FV (P:Program) {α β:Type} (enc:α→List DV) (dec:β→AV) where
 dv:DV
 g:α→Option β
 ok:∀ x r,g x=some r→FnV P dv (enc x) (dec r)
def FnR (P:Program) (f:FuncId) (args:List AV) (H:Ac) (post:AV→Ac→Prop) : Prop :=
 ∀ (X:Snap) (w:World) (I:Nat→Prop) (μ:List Nat) (O:Nat→Option Loc) (vs:List Value),X.w=w→X.I=I→X.n0=0→X.ne=H.length→X.μ=μ→Mem P X H w I μ O→ARepAll P w I μ args vs [] →
  CallsIn (om none) 0 P f vs.toArray w fun e w'=>∃ v I' μ' O' H' r rs,e=.returned v∧Mem P X H' w' I' μ' O'∧ARep P w' I' μ' r v rs∧rs.Nodup∧(∀ b∈rs,∃ n,O' b=some (.t n))∧post r H'
section
variable {P:Program} {C:Cx} {X:Snap} {o:Oper} {ops:Array Oper} {Q:Exit→Env→Ac→Prop} {env env':Env} {H H':Ac} {a:Act} {w w':World} {I I':Nat→Prop} {μ μ':List Nat} {O O':Nat→Option Loc}
 {K:Env→Ac→Prop} {k:Nat} {l:List Oper}
theorem FnR.mono {f:FuncId} {args:List AV} {post post':AV→Ac→Prop} (h:FnR P f args H post) (hp:∀ r H',post r H'→post' r H') : FnR P f args H post':=fun X w I μ O vs e1 e2 e3 e4 e5 hm ha =>
 (h X w I μ O vs e1 e2 e3 e4 e5 hm ha).mono fun _ _ ⟨v,I',μ',O',H',r,rs,q1,q2,q3,q4,q5,q6⟩=>⟨v,I',μ',O',H',r,rs,q1,q2,q3,q4,q5,hp _ _ q6⟩
theorem Nn {c:Call} {fo:Operand} {gv:DV} {xs:List DV} {r:AV} (h:FnV P gv xs r) (ho:o.op=.call c:=by rfl) (hc:c.callee=.value fo:=by rfl) (hfo:lk env fo=.d gv:=by rfl) (ha:argsD env c.args.toList=some xs:=by rfl) (hr:AP r=false:=by rfl) : VOK P C o env H r:=by
 obtain ⟨f,first,caps,rfl,hcall,hfn⟩:=h
 exact vcl hfn hcall ho hc hfo ha hr
theorem FnV.of {f:FuncId} {caps xs:List DV} {r:AV} (hcall:∀ args w,(callFunc f args).run P w=.ok (.enter f args) w) (h:Fn P f (xs++caps) r) : FnV P (.fn f [] caps) xs r:=⟨f,[],caps,rfl,hcall,by simpa using h⟩
theorem VH {f:FuncId} {cap:Array Operand} {ds:List DV} (ho:o.op=.makeFunc (.func f) #[] cap:=by rfl) (ha:argsD env cap.toList=some ds:=by rfl) : VOK P C o env H (.d (.fn f [] ds)) :=
 .pv ⟨by simp [ho],fun X a w I μ O _ hs=>⟨.func (.func f) #[] (cap.map a.eval),by simp [execOp,ho,Instr.makeFunc],.d (by
  have:=Rep.fn f [] ds [] (cap.toList.map a.eval) (.nil (w:=w) (I:=I)) (hs.argsD ha)
  have e:(cap.toList.map a.eval).toArray=cap.map a.eval:=by apply Array.ext';simp
  rw [e] at this
  exact this)⟩⟩
theorem Xh {f:FuncId} {cap:Array Operand} {t:Nat} {avs:List AV} (h:RL P C ops Q (k+1) l ((t,.fn f [] avs)::env) H) (hg:grd ops env o true=true:=by rfl) (ho:o.op=.makeFunc (.func f) #[] cap:=by rfl) (ha:argsA env cap.toList=some avs:=by rfl)
  (hd:o.dst=some t:=by rfl) (hf:Al (get env t)=false:=by rfl) (ht:okT C.nt t:=by rfl):RL P C ops Q k (o::l) env H:=by
 rw [← Aj hf] at h
 refine .go hg (.pure (by simp [ho]) hd ht (fun X a w I μ O _ hs=>⟨.func (.func f) #[] (cap.map a.eval),?_,[],?_,nN,by simp⟩) h)
 ·simp [execOp,ho,Instr.makeFunc]
 ·have:=ARep.fn (f:=f) (.nil (P:=P) (w:=w) (I:=I) (μ:=μ)) (hs.argsA ha)
  have e:(cap.toList.map a.eval).toArray=cap.map a.eval:=by apply Array.ext';simp
  rw [e] at this
  exact this
theorem bxA {x:Operand} {ty t:Nat} {c:AV} (h:RL P C ops Q (k+1) l ((t,.bp H.length 0)::env) (H++[.box [c]])) (hg:grd ops env o true=true:=by rfl) (ho:o.op=.box ty x:=by rfl) (hv:lk env x=c:=by rfl) (hu:c≠.un:=by simp)
  (h1:one c=true:=by rfl) (hn:noOwn c=true:=by rfl) (hd:o.dst=some t:=by rfl) (hf:Al (get env t)=false:=by rfl) (ht:okT C.nt t:=by rfl):RL P C ops Q k (o::l) env H:=by
 obtain ⟨g1,g2⟩:=Au hv hu
 refine .go hg (Wf ho g1 hd ht (by rw [g2];exact h1) (.inl (by rw [g2];exact hn)) ?_)
 have e1:KL env (Dj x)=env:=by
  cases hx:Dj x with
  | t s=>rw [hx] at g2;simp only [KL];rw [show get env s=c from g2,hn];rfl
  | _=>rfl
 rw [e1,g2,Aj hf];exact h
theorem ARepAll.append : ∀ {xs:List AV} {vs:List Value} {b1:List Nat} {ys:List AV} {us:List Value} {b2:List Nat},ARepAll P w I μ xs vs b1→ARepAll P w I μ ys us b2→ARepAll P w I μ (xs++ys) (vs++us) (b1++b2)
 | _,_,_,_,_,_,.nil,k=>k
 | _,_,_,_,_,_,.cons h t,k=>by
  have:=ARepAll.cons h (t.append k)
  rwa [← List.append_assoc] at this
theorem OpOK.callR {c:Call} {fo:Operand} {f:FuncId} {caps avs:List AV} {post:AV→Ac→Prop} (ho:o.op=.call c) (hc:c.callee=.value fo) (hfo:(fo=.func f∧caps=[])∨(lk env fo=.fn f [] caps∧noOwnL caps=true)) (ha:argsA env c.args.toList=some avs) (hcr:B8 env=false) (hn0:C.n0=0)
  (hcall:∀ args w,(callFunc f args).run P w=.ok (.enter f args) w) (hfn:FnR P f (avs++caps) H post) (hd:∀ t,o.dst=some t→okT C.nt t)
  (hK:∀ r H',post r H'→K (match o.dst with|some t=>put env t r|none=>env) H'):OpOK P C o env H K:=by
 intro X a w I μ O next Q h1 h2 h3 hs hn
 refine ⟨fun _ _=>trivial,?_⟩
 have hcv:∃ cs,a.eval fo=.func (.func f) #[] cs∧ARepAll P w I μ caps cs.toList []:=by
  rcases hfo with ⟨rfl,rfl⟩|⟨hl,hnc⟩
  ·exact ⟨#[],rfl,.nil⟩
  ·obtain ⟨bs,hr⟩:=hs.lk (x:=fo) (by rw [hl];rfl)
   rw [hl] at hr
   have hno:=noOwn_bs hr (by simp [noOwn,noOwnL,hnc])
   subst hno
   generalize a.eval fo=u at hr
   generalize hbs:([]:List Nat)=bs at hr
   cases hr with
   | fn k1 k2 =>
    cases k1
    have:_++_=([]:List Nat):=hbs.symm
    rw [List.append_eq_nil_iff] at this
    have k3:=this.2
    subst k3
    exact ⟨_,rfl,by simpa using k2⟩
 obtain ⟨cs,hev,hcs⟩:=hcv
 have hres:=CC (P:=P) (w:=w) (ρ:=a.eval) (ty:=o.type) hc hev
 have hex:(execOp a.eval o).run P w=.ok (.enter f (#[]++c.args.map a.eval++cs)) w:=by
  simp only [execOp,ho,Sem.run_bind,hres,Result.andThen_ok,invoke,hcall]
 rw [Oper.semAt_eq _ _ _ (by simp [ho]),hex,Oper.uponIn_enter]
 refine ⟨fun h=>(by simp [om] at h),?_⟩
 obtain ⟨Y,O2,y1,y2,y3,y4,y5,ym,_,yk⟩:=hs.over (by omega) hcr [] (by simp)
 have hargs:ARepAll P w I μ (avs++caps) (c.args.toList.map a.eval++cs.toList) []:=(hs.argsA ha).append hcs
 have hcl:=hfn Y w I μ O2 _ y1 y2 y3 y4 y5 ym hargs
 have e:(c.args.toList.map a.eval++cs.toList).toArray=#[]++c.args.map a.eval++cs:=by apply Array.ext';simp
 rw [e] at hcl
 refine ⟨trivial,fun csF hroom=>?_⟩
 obtain ⟨e,w',fr,⟨v,I',μ',O',Hn,r,rs,rfl,q1,q2,q3,q4,q5⟩,s,x⟩:=hcl.2 csF (room_wide _)
 refine ⟨.returned v,w',fr,?_,s,x⟩
 obtain ⟨On,k1,k2⟩:=yk q1 (rs:=rs) q4
 have hh:Hand P w' I' μ' On r v:=⟨rs,q2,q3,k2⟩
 show next (a.put o.dst v) w'
 have hK:=hK r Hn q5
 cases hdst:o.dst with
 | none=>exact hn _ _ _ _ _ _ _ k1 (by rw [hdst] at hK;exact hK)
 | some t=>exact hn _ _ _ _ _ _ _ (k1.put_hand (by rw [h1];exact hd t hdst) hh) (by rw [hdst] at hK;exact hK)
theorem clR {c:Call} {f t:Nat} {avs:List AV} {post:AV→Ac→Prop} (hfn:FnR P f avs H post) (hcall:∀ args w,(callFunc f args).run P w=.ok (.enter f args) w) (h:∀ r H',post r H'→RL P C ops Q (k+1) l ((t,r)::env) H')
  (hg:grd ops env o true=true:=by rfl) (ho:o.op=.call c:=by rfl) (hc:c.callee=.value (.func f):=by rfl) (ha:argsA env c.args.toList=some avs:=by rfl) (hcr:B8 env=false:=by rfl) (hd:o.dst=some t:=by rfl)
  (hf:Al (get env t)=false:=by rfl) (ht:okT C.nt t:=by rfl) (h0:C.n0=0:=by rfl):RL P C ops Q k (o::l) env H:=by
 refine .go hg (OpOK.callR (caps:=[]) ho hc (.inl ⟨rfl,rfl⟩) ha hcr h0 hcall (by rwa [List.append_nil]) (fun t' h'=>by rw [hd] at h';cases h';exact ht) fun r H' hp=>?_)
 rw [hd]
 show RL P C ops Q (k+1) l (put env t r) H'
 rw [Aj hf];exact h r H' hp
theorem Xf {c:Call} {fo:Operand} {f t:Nat} {avs caps:List AV} {post:AV→Ac→Prop} (hfn:FnR P f (avs++caps) H post) (hcall:∀ args w,(callFunc f args).run P w=.ok (.enter f args) w) (h:∀ r H',post r H'→RL P C ops Q (k+1) l ((t,r)::env) H')
  (hg:grd ops env o true=true:=by rfl) (ho:o.op=.call c:=by rfl) (hc:c.callee=.value fo:=by rfl) (hfo:lk env fo=.fn f [] caps:=by rfl) (hnc:noOwnL caps=true:=by rfl) (ha:argsA env c.args.toList=some avs:=by rfl) (hcr:B8 env=false:=by rfl) (hd:o.dst=some t:=by rfl)
  (hf:Al (get env t)=false:=by rfl) (ht:okT C.nt t:=by rfl) (h0:C.n0=0:=by rfl):RL P C ops Q k (o::l) env H:=by
 refine .go hg (OpOK.callR ho hc (.inr ⟨hfo,hnc⟩) ha hcr h0 hcall hfn (fun t' h'=>by rw [hd] at h';cases h';exact ht) fun r H' hp=>?_)
 rw [hd]
 show RL P C ops Q (k+1) l (put env t r) H'
 rw [Aj hf];exact h r H' hp
def Xg (rs:List ResultVar) (post:AV→Ac→Prop) : Exit→Env→Ac→Prop
 | .normal,env,H=>∃ r,FE env r rs∧post r H
 | .ret,env,H=>∃ r,FE env r rs∧post r H
 | _,_,_=>False
theorem FnR.of {f:FuncId} {fn:Func} {c:Code} {args:List AV} {post:AV→Ac→Prop} {rs:List ResultVar} (nt:Nat) (hf:P.funcs[f]?=some fn) (hb:fn.body=some c) (hrs:fn.results=rs.toArray) (hnt:fn.ntmps=nt) (hn:args.length≤nt)
  (h:AW P {nt:=(0,nt),n0:=0,ne:=H.length} c (Xg rs post) (Q9 0 args []) H):FnR P f args H post:=by
 intro X w I μ O vs e1 e2 e3 e4 e5 hm ha
 refine callsIn_of_wp hf hb trivial ?_
 have hlen:=ha.length
 let a:Act:={tmps:=vs.toArray++Array.replicate (fn.ntmps-vs.toArray.size) undef,defers:=[]}
 let Y:Snap:={X with nt:=(0,nt),dfs:=[],args:=vs}
 have hat:∀ (j:Nat) (v:Value),vs[j]?=some v→a.tmps.getD j undef=v:=fun j v hj=>by
  have hjl:j<vs.length:=(lS.1 hj).1
  have e2:(vs.toArray++Array.replicate (fn.ntmps-vs.length) undef)[j]?=some v:=by
   rw [Array.getElem?_append_left (by simpa using hjl)];simpa using hj
  simp [a,e2]
 have hs0:Sim P Y [] H a w I μ O:=by
  refine ⟨hm.cast rfl rfl rfl rfl rfl rfl,fun t=>.un,by simp [a,Y,hnt];omega,rfl,fun t ht=>absurd ht (by simp [Y])⟩
 obtain ⟨O1,hs⟩:=hs0.adoptAll (k:=0) ha nN (by simp) (fun _ _=>rfl) fun j v hj=>by rw [Nat.zero_add];exact hat j v hj
 refine wpIn_mono (h Y a w I μ O1 rfl e3 e4 hs) fun e a' w' hp=>?_
 obtain ⟨env',He,I',μ',O',s,q⟩:=hp
 have fin:(∃ r,FE env' r rs∧post r He)→a'.defers=[]∧∃ v,(results fn a'.tmps).run P w'=.ok v w'∧∃ v' I' μ' O' H' r rs,Ending.returned v=.returned v'∧Mem P X H' w' I' μ' O'∧ARep P w' I' μ' r v' rs∧rs.Nodup∧(∀ b∈rs,∃ n,O' b=some (.t n))∧post r H':=by
  rintro ⟨r,hres,hpost⟩
  obtain ⟨v,b1,h1,h2,h3,h4⟩:=s.gives hrs hres
  exact ⟨s.dfs.1,v,h1,v,I',μ',O',He,r,b1,rfl,s.toMem.cast rfl rfl rfl rfl rfl rfl,h2,h3,fun b hb=>let ⟨t,g,_⟩:=h4 b hb;⟨t,g⟩,hpost⟩
 cases e with
 | normal=>exact fin q
 | ret=>exact fin q
 | _=>exact q.elim
end
end Go.FL
namespace Go.FL
open Go Go.RowKit
section
variable {P:Program} {C:Cx} {X:Snap} {o:Oper} {ops:Array Oper} {Q:Exit→Env→Ac→Prop} {env env':Env} {H H':Ac} {a:Act} {w w':World} {I I':Nat→Prop} {μ μ':List Nat} {O O':Nat→Option Loc}
 {K:Env→Ac→Prop} {k:Nat} {l:List Oper}
theorem ARepAll.reC {c c':AV} (hcc:∀ v bs,ARep P w I μ c v bs→ARep P w I μ c' v bs) : ∀ {cs:List AV} {vs:List Value} {bs:List Nat} (off:Nat),ARepAll P w I μ cs vs bs→cs[off]?=some c→ARepAll P w I μ (cs.set off c') vs bs
 | [],_,_,_,h,hc=>by simp at hc
 | x::xs,_,_,0,.cons h t,hc=>by
  simp at hc;subst hc
  exact .cons (hcc _ _ h) t
 | x::xs,_,_,off+1,.cons h t,hc=>.cons h (t.reC hcc off (by simpa using hc))
theorem Gh.cell {id off:Nat} {cs:List AV} {c c':AV} (hH:H[id]?=some (.box cs)) (hc:cs[off]?=some c) (hno:Al c=false) (hcc:∀ w I μ v bs,ARep P w I μ c v bs→ARep P w I μ c' v bs) :
  Gh P C env H env (H.set id (.box (cs.set off c'))):=fun X a w I μ O _ _ _ hs=>by
 have hlt:id<H.length:=(lS.1 hH).1
 refine ⟨I,O,⟨{hs.toMem with
  μlen:=by rw [hs.μlen];simp
  nle:=by simpa using hs.nle
  heap:=fun i ob ho=>?_},fun t=>?_,hs.nt,hs.dfs⟩⟩
 ·by_cases hi:i=id
  ·subst hi
   rw [List.getElem?_set_self hlt] at ho
   cases ho
   obtain ⟨blk,bs,h1,h2,h3,h4⟩:=hs.heap i _ hH
   obtain ⟨cells,e,k1,k2⟩:=h2
   exact ⟨blk,bs,h1,⟨cells,e,k1,k2.reC (hcc w I μ) off hc⟩,h3,h4⟩
  ·rw [List.getElem?_set_ne (Ne.symm hi)] at ho
   exact hs.heap i ob ho
 ·refine (hs.envr t).keepG (fun _ h=>h) (fun _ _=>rfl) (fun _ _ h=>h) (fun b hb=>⟨rfl,hb⟩) fun p e xs hp=>⟨?_,fun v hv=>hv⟩
  cases p with
  | t r=>exact hp
  | c i o =>
   simp only [AK] at hp ⊢
   by_cases hi:i=id
   ·subst hi
    rw [List.getElem?_set_self hlt]
    rw [hH] at hp
    simp only at hp ⊢
    by_cases ho:o=off
    ·subst ho
     rw [lD,hc] at hp
     simp at hp
     rw [hp] at hno;cases hno
    ·rw [lD,List.getElem?_set_ne (Ne.symm ho),← lD];exact hp
   ·rw [List.getElem?_set_ne (Ne.symm hi)];exact hp
theorem Gh.nlOwnC {id off:Nat} {cs:List AV} (e:TypeId) (hsz:0<AC P e) (hH:H[id]?=some (.box cs):=by rfl) (hc:cs[off]?=some .nl:=by rfl) : Gh P C env H env (H.set id (.box (cs.set off (.own e [])))) :=
 Gh.cell hH hc rfl fun w I μ v bs h=>by
  cases h
  exact .own e [] (.slice none 0 0) [] hsz (.inl ⟨none,rfl,rfl,rfl⟩) (.nil _)
theorem FS {ty e sz by_ len:Nat} {z:Value} {parts:Array (Nat×Operand)} {xs:List Operand} {ds ds':List DV} (he:ds'=ds) (hsz:∀ d∈ds',d.flat=true∧d.cells.length=sz) (hT:Cm P ty=some (e,sz,by_,z))
  (ho:o.op=.buildSlice ty len parts:=by rfl) (hp:G5 0 parts.toList=some xs:=by rfl) (hlen:xs.length=len:=by rfl) (ha:argsD env xs=some ds:=by rfl) (hsmall:len * sz≤16777216:=by decide):VOK P C o env H (.own e ds'):=by
 subst he;exact IZ hsz hT ho hp hlen ha hsmall
theorem V1 {x:Operand} {ty:Nat} {v:DV} (ho:o.op=.box ty x:=by rfl) (hv:A3 (lk env x)=some v:=by rfl) (hl:v.leaf=true:=by rfl) : VOK P C o env H (.d (.ptr [v])) :=
 .val (by simp [ho]) fun X a w I μ O _ _ _ hs=>by
  have hr:=hs.deep (x:=x) hv
  have hone:=hr.one hl
  have hcells:(a.eval x).cells=#[a.eval x]:=by
   generalize a.eval x=u at hone
   cases u<;>first|rfl|simp [Value.oneCell'] at hone
  have hb:Below w.heap.size w (w.alloc (.cells #[a.eval x] ty)):=BY _
  refine ⟨.pointer (some ⟨w.heap.size,0,none⟩),_,fun b=>I b∨b=w.heap.size,[],?_,hb,fun b hi=>.inl hi,fun b hi=>?_,.d (.ptr [v] w.heap.size 0 [a.eval x] (.inr rfl) ?_ (.cons (hr.keep (fun b hi=>hb.block b (hs.ilt b hi)) fun b hi=>.inl hi) .nil)),nN,by simp⟩
  ·simp only [execOp,ho,Instr.box,Sem.run_bind,Er,Result.andThen_ok,Sem.run_pure,hcells]
  ·rcases hi with hi|rfl
   ·exact ⟨nL (hs.ilt b hi) hb.size,fun _=>hi⟩
   ·exact ⟨by simp,fun hlt=>absurd hlt (Nat.lt_irrefl _)⟩
  ·intro j u hj
   have hnew:(w.alloc (.cells #[a.eval x] ty)).heap[w.heap.size]?=some (.cells #[a.eval x] ty):=World.alloc_heap_new w _
   have hj0:j<1:=by simpa using (lS.1 hj).1
   have:j=0:=by omega
   subst this
   simp at hj;subst hj
   show World.cell? _ ⟨w.heap.size,0+0,none⟩=_
   unfold World.cell?
   show (match (w.alloc (.cells #[a.eval x] ty)).heap[w.heap.size]? with|some (.cells c _ _)=>_|_=>_)=_
   rw [hnew];rfl
theorem VE {x:Operand} {av:AV} (ho:o.op=.move x:=by rfl) (hv:lk env x=av:=by rfl) (hu:av≠.un:=by simp) (hr:AP av=false:=by rfl) (hn:noOwn av=true:=by rfl) : VOK P C o env H av:=by
 obtain ⟨h1,h2⟩:=Au hv hu
 have:=Ir (P:=P) (C:=C) (env:=env) (H:=H) (.inl ho) h1 (by rw [h2];exact hr) (by rw [h2];exact hn)
 rw [h2] at this;exact .pv this hr
theorem NU {x:Operand} {ty id off:Nat} {cs:List AV} {c:AV} (hH:H[id]?=some (.box cs)) (hc:cs[off]?=some c) (hag:Cj P ty=some false) (ho:o.op=.load ty x:=by rfl) (hv:lk env x=.bp id off:=by rfl) (hn:noOwn c=true:=by rfl) (hr:AP c=false:=by rfl) : VOK P C o env H c:=by
 obtain ⟨h1,h2⟩:=Au hv (by simp)
 exact .pv (MC ho h1 hag h2 hH hc hn) hr
theorem TH {x:Operand} {id off:Nat} (ho:o.op=.nilCheck x:=by rfl) (hv:lk env x=.bp id off:=by rfl) : VOK P C o env H (.bp id off):=by
 obtain ⟨h1,h2⟩:=Au hv (by simp)
 have:=WM (P:=P) (C:=C) (env:=env) (H:=H) ho h1 (.inl ⟨id,off,h2⟩)
 rw [h2] at this;exact .pv this
theorem QW {x:Operand} {ty id off:Nat} {cs:List AV} {e:TypeId} {xs:List DV} (hH:H[id]?=some (.box cs)) (hc:cs[off]?=some (.own e xs)) (hag:Cj P ty=some false) (ho:o.op=.load ty x:=by rfl) (hv:lk env x=.bp id off:=by rfl) : VOK P C o env H (.ref (.c id off) 0 xs.length):=by
 obtain ⟨h1,h2⟩:=Au hv (by simp)
 refine .rel (by simp [ho]) fun X a w I μ O _ hs=>?_
 obtain ⟨blk,hm,he⟩:=hs.bp h1 h2
 obtain ⟨v,bk,g1,g2⟩:=hs.cell hH hc hm
 refine ⟨v,by simp [execOp,ho,Instr.loadAt,he,Instr.sureAddr,BC hag g1],rfl,RefRel.self hs (p:=.c id off) ?_ ?_ (e:=e)⟩
 ·rw [Gc hH,lD,hc];rfl
 ·simp [Bc,hm,g1]
end
structure FDV where
 fn ::
 f:FuncId
 first:List DV
 caps:List DV
def FDV.dv (x:FDV) : DV:=.fn x.f x.first x.caps
structure FW (α β:Type) where
 fd:FDV
 g:α→Option β
def FW.dv {α β:Type} (f:FW α β) : DV:=f.fd.dv
def FW.OK {α β:Type} (P:Program) (enc:α→List DV) (dec:β→AV) (f:FW α β) : Prop:=∀ x r,f.g x=some r→FnV P f.dv (enc x) (dec r)
theorem D5 {P:Program} {α β:Type} {enc:α→List DV} {dec:β→AV} {f:FuncId} {caps:List DV} {g:α→Option β} (hcall:∀ args w,(callFunc f args).run P w=.ok (.enter f args) w) (h:∀ x r,g x=some r→Fn P f (enc x++caps) (dec r)) :
  FW.OK P enc dec ⟨.fn f [] caps,g⟩:=fun x r hx=>FnV.of hcall (h x r hx)
end Go.FL
namespace Go.FL
open Go Go.Proofs
mutual
inductive Itm where
 | mk (kind:Int) (num:RT) (char:Int) (box:List Arr)
inductive Arr where
 | mk (shape:List Int) (items:List Itm)
end
instance : Inhabited Itm:=⟨.mk 0 (false,[],[]) 0 []⟩
instance : Inhabited Arr:=⟨.mk [] []⟩
def Itm.kind : Itm→Int | .mk k _ _ _=>k
def Itm.num : Itm→RT | .mk _ n _ _=>n
def Itm.char : Itm→Int | .mk _ _ c _=>c
def Itm.box : Itm→List Arr | .mk _ _ _ b=>b
def Arr.shape : Arr→List Int | .mk s _=>s
def Arr.items : Arr→List Itm | .mk _ i=>i
theorem Itm.eta (x:Itm) : Itm.mk x.kind x.num x.char x.box=x:=by cases x;rfl
theorem Arr.eta (x:Arr) : Arr.mk x.shape x.items=x:=by cases x;rfl
mutual
def Itm.size : Itm→Nat
 | .mk _ _ _ b=>arsSize b+1
def Arr.size : Arr→Nat
 | .mk _ i=>itsSize i+1
def itsSize : List Itm→Nat
 | []=>0
 | x::xs=>x.size+itsSize xs
def arsSize : List Arr→Nat
 | []=>0
 | x::xs=>x.size+arsSize xs
end
def Is (xs:List Int) : List DV:=xs.map (.i .i64)
mutual
def Itm.dv : Itm→DV
 | .mk k n c b=>.ag [.i .u8 k,.b n.1,.sl (L n.2.1),.sl (L n.2.2),.i .i32 c,.sl (Ars b)]
def Arr.dv : Arr→DV
 | .mk s i=>.ag [.sl (Is s),.sl (Its i)]
def Its : List Itm→List DV
 | []=>[]
 | x::xs=>x.dv::Its xs
def Ars : List Arr→List DV
 | []=>[]
 | x::xs=>x.dv::Ars xs
end
theorem Itm.dv_eq (x:Itm) : x.dv=.ag [.i .u8 x.kind,.b x.num.1,.sl (L x.num.2.1),.sl (L x.num.2.2),.i .i32 x.char,.sl (Ars x.box)]:=by cases x;simp only [Itm.dv];rfl
theorem Arr.dv_eq (x:Arr) : x.dv=.ag [.sl (Is x.shape),.sl (Its x.items)]:=by cases x;simp only [Arr.dv];rfl
theorem Fu (xs:List Itm) : Its xs=xs.map Itm.dv:=by induction xs with
 | nil=>simp [Its]
 | cons x xs ih=>simp [Its,ih]
theorem Gt (xs:List Arr) : Ars xs=xs.map Arr.dv:=by induction xs with
 | nil=>simp [Ars]
 | cons x xs ih=>simp [Ars,ih]
theorem AB (xs:List Int) : (Is xs).length=xs.length:=by simp [Is]
theorem Cv {xs:List Int} {i:Nat} {x:Int} (h:xs[i]?=some x) : (Is xs)[i]?=some (.i .i64 x):=by simp [Is,h]
theorem Ld (xs:List Int) : ∀ x∈Is xs,x.cells.length=1:=fun x hx=>by
 simp only [Is,List.mem_map] at hx
 obtain ⟨n,_,rfl⟩:=hx;rfl
theorem DS (xs:List Int) : ∃ sz,∀ x∈Is xs,x.cells.length=sz:=⟨1,Ld xs⟩
theorem NA (xs ys:List Int) : Is (xs++ys)=Is xs++Is ys:=by simp [Is]
theorem IY (xs:List Int) : ∀ d∈Is xs,d.flat=true∧d.cells.length=1:=fun x hx=>by
 simp only [Is,List.mem_map] at hx
 obtain ⟨n,_,rfl⟩:=hx
 exact ⟨by simp [DV.flat,DV.cells,DV.leaf],rfl⟩
theorem Jr (xs:List Int) (n:Nat) (x:Int) : (Is xs).set n (.i .i64 x)=Is (xs.set n x):=by simp [Is,List.map_set]
theorem A0 (xs:List Itm) : (Its xs).length=xs.length:=by simp [Fu]
theorem Eo {xs:List Itm} {i:Nat} {x:Itm} (h:xs[i]?=some x) : (Its xs)[i]?=some (.ag [.i .u8 x.kind,.b x.num.1,.sl (L x.num.2.1),.sl (L x.num.2.2),.i .i32 x.char,.sl (Ars x.box)]):=by rw [Fu,List.getElem?_map,h,Option.map_some,Itm.dv_eq]
theorem Gl (xs:List Itm) : ∀ x∈Its xs,x.cells.length=6:=fun x hx=>by
 rw [Fu,List.mem_map] at hx
 obtain ⟨n,_,rfl⟩:=hx;rw [Itm.dv_eq];rfl
theorem Ev (xs:List Itm) : ∃ sz,∀ x∈Its xs,x.cells.length=sz:=⟨6,Gl xs⟩
theorem HN (xs ys:List Itm) : Its (xs++ys)=Its xs++Its ys:=by simp [Fu]
theorem WF (xs:List Itm) (n:Nat) : (Its xs).take n=Its (xs.take n):=by simp [Fu,List.map_take]
theorem EH (xs:List Itm) : ∀ d∈Its xs,d.flat=true∧d.cells.length=6:=fun x hx=>by
 rw [Fu,List.mem_map] at hx
 obtain ⟨n,_,rfl⟩:=hx
 rw [Itm.dv_eq]
 exact ⟨by simp [DV.flat,DV.cells,DV.leaf],rfl⟩
theorem FA (x:Itm) : Its [x]=[.ag [.i .u8 x.kind,.b x.num.1,.sl (L x.num.2.1),.sl (L x.num.2.2),.i .i32 x.char,.sl (Ars x.box)]]:=by simp [Fu,Itm.dv_eq]
theorem CF (xs:List Arr) : (Ars xs).length=xs.length:=by simp [Gt]
theorem GC {xs:List Arr} {i:Nat} {x:Arr} (h:xs[i]?=some x) : (Ars xs)[i]?=some (.ag [.sl (Is x.shape),.sl (Its x.items)]):=by rw [Gt,List.getElem?_map,h,Option.map_some,Arr.dv_eq]
theorem QX (xs:List Arr) : ∀ x∈Ars xs,x.cells.length=2:=fun x hx=>by
 rw [Gt,List.mem_map] at hx
 obtain ⟨n,_,rfl⟩:=hx;rw [Arr.dv_eq];rfl
theorem GB (xs:List Arr) : ∃ sz,∀ x∈Ars xs,x.cells.length=sz:=⟨2,QX xs⟩
theorem UA (xs ys:List Arr) : Ars (xs++ys)=Ars xs++Ars ys:=by simp [Gt]
theorem Jb (xs:List Arr) : ∀ d∈Ars xs,d.flat=true∧d.cells.length=2:=fun x hx=>by
 rw [Gt,List.mem_map] at hx
 obtain ⟨n,_,rfl⟩:=hx
 rw [Arr.dv_eq]
 exact ⟨by simp [DV.flat,DV.cells,DV.leaf],rfl⟩
theorem Ks (x:Arr) : Ars [x]=[.ag [.sl (Is x.shape),.sl (Its x.items)]]:=by simp [Gt,Arr.dv_eq]
theorem Dc : Cj Tryz.prog 80=some false:=by kernel_rfl
theorem Qh : AC Tryz.prog 83=6:=by kernel_rfl
theorem A8 : Cj Tryz.prog 83=some true:=by kernel_rfl
theorem Az : AC Tryz.prog 83=6:=by kernel_rfl
theorem Fm : BA Tryz.prog 83 0=some (0,1):=by kernel_rfl
theorem CY : BA Tryz.prog 83 1=some (1,3):=by kernel_rfl
theorem Gf : BA Tryz.prog 83 2=some (4,1):=by kernel_rfl
theorem CN : BA Tryz.prog 83 3=some (5,1):=by kernel_rfl
theorem Gy : C9 Tryz.prog 83=some [(0,1),(1,3),(4,1),(5,1)]:=by kernel_rfl
theorem B6 : (Tryz.prog.info? 83).bind (·.zero)=some (.agg #[.int .u8 0,.bool false,.slice none 0 0,.slice none 0 0,.int .i32 0,.slice none 0 0]):=by kernel_rfl
theorem UN (w:World) (I:Nat→Prop) (μ:List Nat) : ARepAll Tryz.prog w I μ [.d (.i .u8 0),.d (.b false),.nl,.nl,.d (.i .i32 0),.nl] (Value.agg #[.int .u8 0,.bool false,.slice none 0 0,.slice none 0 0,.int .i32 0,.slice none 0 0]).cells.toList []:=ARepAll.cons (b1:=[]) (b2:=[]) (.d (.i _ _)) (ARepAll.cons (b1:=[]) (b2:=[]) (.d (.b _)) (ARepAll.cons (b1:=[]) (b2:=[]) (.nl) (ARepAll.cons (b1:=[]) (b2:=[]) (.nl) (ARepAll.cons (b1:=[]) (b2:=[]) (.d (.i _ _)) (ARepAll.cons (b1:=[]) (b2:=[]) (.nl) (.nil))))))
theorem B9 (w:World) (I:Nat→Prop) : RepAll w I [.i .u8 0,.b false,.sl [],.sl [],.i .i32 0,.sl []] (Value.agg #[.int .u8 0,.bool false,.slice none 0 0,.slice none 0 0,.int .i32 0,.slice none 0 0]).cells.toList:=.cons (.i _ _) (.cons (.b _) (.cons (.sl0 _ _) (.cons (.sl0 _ _) (.cons (.i _ _) (.cons (.sl0 _ _) (.nil))))))
theorem Wy : AC Tryz.prog 25=2:=by kernel_rfl
theorem An : Cj Tryz.prog 25=some true:=by kernel_rfl
theorem Ad : AC Tryz.prog 25=2:=by kernel_rfl
theorem Cn : BA Tryz.prog 25 0=some (0,1):=by kernel_rfl
theorem BH : BA Tryz.prog 25 1=some (1,1):=by kernel_rfl
theorem Ep : C9 Tryz.prog 25=some [(0,1),(1,1)]:=by kernel_rfl
theorem A1 : (Tryz.prog.info? 25).bind (·.zero)=some (.agg #[.slice none 0 0,.slice none 0 0]):=by kernel_rfl
theorem QS (w:World) (I:Nat→Prop) (μ:List Nat) : ARepAll Tryz.prog w I μ [.nl,.nl] (Value.agg #[.slice none 0 0,.slice none 0 0]).cells.toList []:=ARepAll.cons (b1:=[]) (b2:=[]) (.nl) (ARepAll.cons (b1:=[]) (b2:=[]) (.nl) (.nil))
theorem A7 (w:World) (I:Nat→Prop) : RepAll w I [.sl [],.sl []] (Value.agg #[.slice none 0 0,.slice none 0 0]).cells.toList:=.cons (.sl0 _ _) (.cons (.sl0 _ _) (.nil))
theorem Tr : Cj Tryz.prog 69=some true:=by kernel_rfl
theorem LI : AC Tryz.prog 69=2:=by kernel_rfl
theorem Ku : BA Tryz.prog 69 0=some (0,1):=by kernel_rfl
theorem QM : BA Tryz.prog 69 1=some (1,1):=by kernel_rfl
theorem WX : C9 Tryz.prog 69=some [(0,1),(1,1)]:=by kernel_rfl
theorem Mh : (Tryz.prog.info? 69).bind (·.zero)=some (.agg #[.int .i64 0,.int .i64 0]):=by kernel_rfl
theorem SB (w:World) (I:Nat→Prop) (μ:List Nat) : ARepAll Tryz.prog w I μ [.d (.i .i64 0),.d (.i .i64 0)] (Value.agg #[.int .i64 0,.int .i64 0]).cells.toList []:=ARepAll.cons (b1:=[]) (b2:=[]) (.d (.i _ _)) (ARepAll.cons (b1:=[]) (b2:=[]) (.d (.i _ _)) (.nil))
theorem Q5 (w:World) (I:Nat→Prop) : RepAll w I [.i .i64 0,.i .i64 0] (Value.agg #[.int .i64 0,.int .i64 0]).cells.toList:=.cons (.i _ _) (.cons (.i _ _) (.nil))
theorem Dy : Cj Tryz.prog 22=some false:=by kernel_rfl
theorem U8 : AC Tryz.prog 22=1:=by kernel_rfl
theorem Vj : (Tryz.prog.info? 22).bind (·.zero)=some (.slice none 0 0):=by kernel_rfl
theorem Wh (w:World) (I:Nat→Prop) (μ:List Nat) : ARepAll Tryz.prog w I μ [.nl] (Value.cells (.slice none 0 0)).toList []:=ARepAll.cons (b1:=[]) (b2:=[]) (.nl) .nil
theorem Cw : Cq Tryz.prog 22=some (3,1,8):=by kernel_rfl
theorem FT : Cm Tryz.prog 22=some (3,1,8,.int .i64 0):=by kernel_rfl
theorem Dw : Tryz.prog.underlying 22=some (.slice (Tryz.prog.elem 22)):=by kernel_rfl
theorem Ra : (17592186044416:Nat) * 8≤140737488355328∧(17592186044416:Nat)≤9223372036854775807:=by decide
theorem DJ : Cj Tryz.prog 23=some false:=by kernel_rfl
theorem Pz : AC Tryz.prog 23=1:=by kernel_rfl
theorem D6 : Cq Tryz.prog 23=some (83,6,96):=by kernel_rfl
theorem D7 : Cm Tryz.prog 23=some (83,6,96,.agg #[.int .u8 0,.bool false,.slice none 0 0,.slice none 0 0,.int .i32 0,.slice none 0 0]):=by kernel_rfl
theorem Ej : Tryz.prog.underlying 23=some (.slice (Tryz.prog.elem 23)):=by kernel_rfl
theorem Jk : (1466015503701:Nat) * 96≤140737488355328∧(1466015503701:Nat)≤9223372036854775807:=by decide
theorem EQ : Cj Tryz.prog 81=some false:=by kernel_rfl
theorem Vu : AC Tryz.prog 81=1:=by kernel_rfl
theorem GI : Cq Tryz.prog 81=some (25,2,48):=by kernel_rfl
theorem Lb : Cm Tryz.prog 81=some (25,2,48,.agg #[.slice none 0 0,.slice none 0 0]):=by kernel_rfl
theorem GD : Tryz.prog.underlying 81=some (.slice (Tryz.prog.elem 81)):=by kernel_rfl
theorem Wi : (2932031007402:Nat) * 48≤140737488355328∧(2932031007402:Nat)≤9223372036854775807:=by decide
abbrev Cb : Type:=FW (Itm) (Bool)
abbrev I0 (f:Cb) : Prop:=f.OK Tryz.prog (fun x=>[.ag [.i .u8 x.kind,.b x.num.1,.sl (L x.num.2.1),.sl (L x.num.2.2),.i .i32 x.char,.sl (Ars x.box)]]) (fun r=>.d (.b r))
abbrev BS : Type:=FW (Itm) (Itm)
abbrev O0 (f:BS) : Prop:=f.OK Tryz.prog (fun x=>[.ag [.i .u8 x.kind,.b x.num.1,.sl (L x.num.2.1),.sl (L x.num.2.2),.i .i32 x.char,.sl (Ars x.box)]]) (fun r=>.d (.ag [.i .u8 r.kind,.b r.num.1,.sl (L r.num.2.1),.sl (L r.num.2.2),.i .i32 r.char,.sl (Ars r.box)]))
abbrev BP : Type:=FW (Int) (Bool)
abbrev IH (f:BP) : Prop:=f.OK Tryz.prog (fun x=>[.i .i64 x]) (fun r=>.d (.b r))
abbrev BK : Type:=FW (Itm×Itm) (Bool)
abbrev Js (f:BK) : Prop:=f.OK Tryz.prog (fun x=>[.ag [.i .u8 x.1.kind,.b x.1.num.1,.sl (L x.1.num.2.1),.sl (L x.1.num.2.2),.i .i32 x.1.char,.sl (Ars x.1.box)],.ag [.i .u8 x.2.kind,.b x.2.num.1,.sl (L x.2.num.2.1),.sl (L x.2.num.2.2),.i .i32 x.2.char,.sl (Ars x.2.box)]]) (fun r=>.d (.b r))
abbrev BM : Type:=FW (Arr×Arr) (Bool)
abbrev Jf (f:BM) : Prop:=f.OK Tryz.prog (fun x=>[.ag [.sl (Is x.1.shape),.sl (Its x.1.items)],.ag [.sl (Is x.2.shape),.sl (Its x.2.items)]]) (fun r=>.d (.b r))
abbrev Bu : Type:=FW (Arr) (Bool)
abbrev I7 (f:Bu) : Prop:=f.OK Tryz.prog (fun x=>[.ag [.sl (Is x.shape),.sl (Its x.items)]]) (fun r=>.d (.b r))
def pv : List Nat→Nat→Option Nat
 | [],n=>some n
 | c::r,n=>if 48≤c∧c≤57 then pv r (n * 10+(c-48)) else none
def okL (k:Nat) (a:List Nat) : Bool:=a.all (fun x=>decide (x<4294967296))&&decide (a.length≤k)
theorem CL {k:Nat} {a:List Nat} : okL k a=true↔Ok a∧a.length≤k:=by simp [okL,Ok]
theorem Qr {k:Nat} {ls:List (List Nat)} (h:ls.all (okL k)=true) : (∀ a∈ls,Ok a)∧∀ a∈ls,a.length≤k :=
 ⟨fun a ha=>(CL.1 (List.all_eq_true.1 h a ha)).1,fun a ha=>(CL.1 (List.all_eq_true.1 h a ha)).2⟩
def G4 (r:RT) : Bool:=okL 35184372087808 r.2.1&&okL 35184372087808 r.2.2
theorem IB {r:RT} : G4 r=true↔okR r:=by
 simp only [G4,Bool.and_eq_true,CL,okR]
 exact ⟨fun ⟨⟨a,b⟩,c,d⟩=>⟨a,c,b,d⟩,fun ⟨a,c,b,d⟩=>⟨⟨a,b⟩,c,d⟩⟩
theorem NS {rs:List RT} (h:rs.all G4=true) : ∀ r∈rs,okR r:=fun r hr=>IB.1 (List.all_eq_true.1 h r hr)
abbrev qR (q:Q3) : RT:=(q.1,Af q.2.1,Af q.2.2)
def RV : QE→RT×Int
 | .error e=>((false,[],[]),e)
 | .ok q=>(qR q,0)
theorem TN (x:QE) : (ON x).map AV.d=[AV.d (.ag [.b (RV x).1.1,.sl (L (RV x).1.2.1),.sl (L (RV x).1.2.2)]),.d (.i .i64 (RV x).2)]:=by cases x<;>rfl
abbrev W9 (n:(List Nat×List Nat)×Bool) : Q3:=(n.2,val n.1.1,val n.1.2)
abbrev qN (q:Q3) : (List Nat×List Nat)×Bool:=((Af q.2.1,Af q.2.2),q.1)
def OV (ls:List (List Nat)) : Option (List Nat):=if (ls.all (okL 40000)&&decide (ls.length≤10))=true then some (Af (D0 ls 1)) else none
theorem Pb {ls:List (List Nat)} {r:List Nat} (h:OV ls=some r) : Fn Tryz.prog 166 [.sl (LL ls)] (.d (.sl (L r))):=by
 obtain ⟨hc,h⟩:=EI h
 cases h
 rw [Bool.and_eq_true,decide_eq_true_eq] at hc
 obtain ⟨h1,h2⟩:=Qr hc.1
 exact Ht h1 h2 hc.2 (by decide)
def V8 (ls:List (List Nat)) : Option (List Nat):=if (ls.all (okL 100000)&&decide (ls.length≤1000))=true then some (Af (ls.map val).sum) else none
theorem QR {ls:List (List Nat)} {r:List Nat} (h:V8 ls=some r) : Fn Tryz.prog 165 [.sl (LL ls)] (.d (.sl (L r))):=by
 obtain ⟨hc,h⟩:=EI h
 cases h
 rw [Bool.and_eq_true,decide_eq_true_eq] at hc
 obtain ⟨h1,h2⟩:=Qr hc.1
 exact TD h1 h2 hc.2 (by decide)
def Rn (a:List Nat) (b:List Nat) : Option (List Nat×List Nat×Bool):=if (okL 500000 a&&okL 500000 b)=true then some ((Af (val a / val b),Af (M6 (val a) (val b)),decide (val b≠0))) else none
theorem Ps {a:List Nat} {b:List Nat} {r:List Nat×List Nat×Bool} (h:Rn a b=some r) : Fn Tryz.prog 199 [.sl (L a),.sl (L b)] (.tup [.d (.sl (L r.1)),.d (.sl (L r.2.1)),.d (.b r.2.2)]):=by
 obtain ⟨hc,h⟩:=EI h
 cases h
 rw [Bool.and_eq_true] at hc
 obtain ⟨⟨h1,h2⟩,h3,h4⟩:=And.intro (CL.1 hc.1) (CL.1 hc.2)
 exact HI h1 h3 (by omega) (by omega)
def Pc (a:List Nat) (b:List Nat) : Option (Int):=if (okL 35184372087808 a&&okL 35184372087808 b)=true then some (L2 (val a) (val b)) else none
theorem Oa {a:List Nat} {b:List Nat} {r:Int} (h:Pc a b=some r) : Fn Tryz.prog 164 [.sl (L a),.sl (L b)] (.d (.i .i64 r)):=by
 obtain ⟨hc,h⟩:=EI h
 cases h
 rw [Bool.and_eq_true] at hc
 obtain ⟨⟨h1,h2⟩,h3,h4⟩:=And.intro (CL.1 hc.1) (CL.1 hc.2)
 exact LH h1 h3 (by omega) (by omega)
def Gz : Option (List Nat):=if True then some ([1]) else none
theorem DU {r:List Nat} (h:Gz=some r) : Fn Tryz.prog 121 [] (.own 121 (L r)):=by
 obtain ⟨hc,h⟩:=EI h
 cases h
 exact Lv
def Vm (a:RT) : Option ((List Nat×List Nat)×Bool):=if True then some (((a.2.1,a.2.2),a.1)) else none
theorem Sp {a:RT} {r:(List Nat×List Nat)×Bool} (h:Vm a=some r) : Fn Tryz.prog 168 [.ag [.b a.1,.sl (L a.2.1),.sl (L a.2.2)]] (.d (.ag [.sl (L r.1.1),.sl (L r.1.2),.b r.2])):=by
 obtain ⟨hc,h⟩:=EI h
 cases h
 exact Tw _ _ _
def Hz (a:(List Nat×List Nat)×Bool) : Option (RT×Int):=if (okL 100000 a.1.1&&okL 100000 a.1.2)=true then some (RV (Ob a.2 (val a.1.1) (val a.1.2))) else none
theorem GL {a:(List Nat×List Nat)×Bool} {r:RT×Int} (h:Hz a=some r) : Fn Tryz.prog 170 [.ag [.sl (L a.1.1),.sl (L a.1.2),.b a.2]] (.tup [.d (.ag [.b r.1.1,.sl (L r.1.2.1),.sl (L r.1.2.2)]),.d (.i .i64 r.2)]):=by
 obtain ⟨hc,h⟩:=EI h
 cases h
 rw [Bool.and_eq_true] at hc
 obtain ⟨⟨h1,h2⟩,h3,h4⟩:=And.intro (CL.1 hc.1) (CL.1 hc.2)
 have:=Mz (b:=a.2) h1 h3 h2 h4 (by decide)
 rw [N3,TN] at this
 exact this
def N5 (a:(List Nat×List Nat)×Bool) (b:(List Nat×List Nat)×Bool) : Option ((List Nat×List Nat)×Bool):=if (okL 4000 a.1.1&&okL 4000 a.1.2&&(okL 4000 b.1.1&&okL 4000 b.1.2))=true then some (qN (VS (W9 a) (W9 b))) else none
theorem Pd {a:(List Nat×List Nat)×Bool} {b:(List Nat×List Nat)×Bool} {r:(List Nat×List Nat)×Bool} (h:N5 a b=some r) : Fn Tryz.prog 169 [.ag [.sl (L a.1.1),.sl (L a.1.2),.b a.2],.ag [.sl (L b.1.1),.sl (L b.1.2),.b b.2]] (.d (.ag [.sl (L r.1.1),.sl (L r.1.2),.b r.2])):=by
 obtain ⟨hc,h⟩:=EI h
 cases h
 simp only [Bool.and_eq_true,CL] at hc
 obtain ⟨⟨⟨h1,h2⟩,h3,h4⟩,⟨h5,h6⟩,h7,h8⟩:=hc
 exact Td h1 h3 h5 h7 h2 h4 h6 h8
def HJ (a:List Nat) (b:List Nat) : Option (Bool):=if (okL 1048576 a&&okL 35184372087808 b)=true then some (decide (a=b)) else none
theorem Ie {a:List Nat} {b:List Nat} {r:Bool} (h:HJ a b=some r) : Fn Tryz.prog 112 [.sl (L a),.sl (L b)] (.d (.b r)):=by
 obtain ⟨hc,h⟩:=EI h
 cases h
 simp only [Bool.and_eq_true,CL] at hc
 exact NW a b hc.1.2 hc.1.1 hc.2.1
def DE (a:List Nat) : Option (List Nat):=if a.length≤35184372087808 then some (a) else none
theorem Ee {a:List Nat} {r:List Nat} (h:DE a=some r) : Fn Tryz.prog 215 [.sl (L a)] (.own 121 (L r)):=by
 obtain ⟨hc,h⟩:=EI h
 cases h
 exact K8 _ hc
def EF (a:RT) : Option (Bool):=if G4 a=true then some (Be a) else none
theorem DQ {a:RT} {r:Bool} (h:EF a=some r) : Fn Tryz.prog 45 [.ag [.b a.1,.sl (L a.2.1),.sl (L a.2.2)]] (.d (.b r)):=by
 obtain ⟨hc,h⟩:=EI h
 cases h
 obtain ⟨h1,h2,h3,h4⟩:=IB.1 hc
 exact Mc h1 h2 h3 h4
def Ka (rs:List RT) : Option (Bool):=if (rs.all G4&&decide (rs.length≤1048576))=true then some (rs.all Be) else none
theorem Lc {rs:List RT} {r:Bool} (h:Ka rs=some r) : Fn Tryz.prog 167 [.sl (RVs rs)] (.d (.b r)):=by
 obtain ⟨hc,h⟩:=EI h
 cases h
 rw [Bool.and_eq_true,decide_eq_true_eq] at hc
 exact NX (NS hc.1) hc.2
def Dd (z:Int) : Option (RT):=if -9223372036854775808≤z∧z≤9223372036854775807 then some ((decide (z<0),Af z.natAbs,[1])) else none
theorem CS {z:Int} {r:RT} (h:Dd z=some r) : Fn Tryz.prog 72 [.i .i64 z] (.d (.ag [.b r.1,.sl (L r.2.1),.sl (L r.2.2)])):=by
 obtain ⟨hc,h⟩:=EI h
 cases h
 exact Ou hc.1 hc.2
def N2 : Option (RT):=if True then some ((false,[],[1])) else none
theorem O8 {r:RT} (h:N2=some r) : Fn Tryz.prog 33 [] (.d (.ag [.b r.1,.sl (L r.2.1),.sl (L r.2.2)])):=by
 obtain ⟨hc,h⟩:=EI h
 cases h
 exact Qb
def To (rs:List RT) : Option (RT×Int):=if (rs.all G4&&decide (rs.length≤1048576))=true then some (RV (Uk rs)) else none
theorem RE {rs:List RT} {r:RT×Int} (h:To rs=some r) : Fn Tryz.prog 133 [.sl (RVs rs)] (.tup [.d (.ag [.b r.1.1,.sl (L r.1.2.1),.sl (L r.1.2.2)]),.d (.i .i64 r.2)]):=by
 obtain ⟨hc,h⟩:=EI h
 cases h
 rw [Bool.and_eq_true,decide_eq_true_eq] at hc
 have:=Uw (NS hc.1) hc.2
 rw [TN] at this
 exact this
def NE (a0:RT) (a1:RT) : Option (RT×Int):=((Ka ([a0,a1])).bind fun x1=>(if x1=true then (if 0<((List.length a1.2.1:Nat) : Int) then ((Vm a0).bind fun x2=>((N5 x2 ((a1.2.2,a1.2.1),a1.1)).bind fun x3=>((Hz x3).bind fun x4=>(some (x4.1,x4.2))))) else (if 0<((List.length a0.2.1:Nat) : Int) then (some ((false,[],[]),3)) else ((Dd 1).bind fun x5=>(some (x5,0))))) else (some ((false,[],[]),22))))
theorem Pr {a0:RT} {a1:RT} {r:RT×Int} (h:NE a0 a1=some r) :
  Fn Tryz.prog 88 [.ag [.b a0.1,.sl (L a0.2.1),.sl (L a0.2.2)],.ag [.b a1.1,.sl (L a1.2.1),.sl (L a1.2.2)]] (.tup [.d (.ag [.b r.1.1,.sl (L r.1.2.1),.sl (L r.1.2.2)]),.d (.i .i64 r.2)]):=by
 unfold NE at h
 refine Fn.ofC (rs:=[.cell 4 32,.tmp 5]) (nt:=39) Tryz.func88 rfl rfl rfl (by simp) rfl ?_;refine .sr ?_;refine vk (vbx) ?_;refine vk (vbx) ?_;refine vk (van (Ai DY) DX) ?_;refine ar [2,3,4,5] ?_;refine .seq ?_;refine .block ?_;refine .sr ?_;refine vk (AN BI AS) ?_;refine vk (AN BI AS) ?_;refine vk ((IZ (OE [a0,a1]) TK).deep) ?_
 obtain ⟨x1,g1,h⟩:=bnd h
 refine vk (Ar (Lc g1) Tryz.call167) ?_;refine vk (vnt) ?_;refine ar [2,3,4,5,6] ?_
 rcases brc h with ⟨hc,h⟩|⟨hc,h⟩
 ·refine cnf (ntf hc) ?_
  refine .sr ?_;refine vk (vfa DG) ?_;refine vk (As E0) ?_;refine vk (Cc (Ab _) (BW _) Od) ?_;refine vk (vbi) ?_;refine ar [2,3,4,5,13] ?_
  rcases brc h with ⟨hc,h⟩|⟨hc,h⟩
  ·refine cnt (dT hc) ?_
   refine .seq ?_;refine .drawn 14 BN (by kernel_rfl) ?_;refine dv (AN BI AS) ?_
   obtain ⟨x2,g2,h⟩:=bnd h
   refine dv (Ar (Sp g2) Tryz.call168) ?_;refine dv (vfa Gm) ?_;refine dv (As E0) ?_;refine dv (vfa DG) ?_;refine dv (As E0) ?_;refine dv (vbd VW VK WD) ?_;refine dv (vfa Dt) ?_;refine dv (As CK) ?_;refine dv (vbd V5 Wz Vy) ?_
   obtain ⟨x3,g3,h⟩:=bnd h
   refine dv (Ar (Pd g3) Tryz.call169) ?_
   obtain ⟨x4,g4,h⟩:=bnd h
   refine dv (VOK.tupd (vs:=[.ag [.b x4.1.1,.sl (L x4.1.2.1),.sl (L x4.1.2.2)],.i .i64 x4.2]) (Ar (GL g4) Tryz.call170)) ?_;refine dv (vex) ?_;refine dv (vex) ?_;refine dz ?_
   refine stn ?_ AS (by decide)
   refine ar [4,5] ?_;refine .ret ?_
   cases h
   exact ⟨_,_,⟨.inr rfl,BI,AS,p3⟩,rfl,rfl⟩
  refine cnf (dF hc) ?_;refine .sr ?_;refine vk (vfa DG) ?_;refine vk (As E0) ?_;refine vk (Cc (Ab _) (BW _) Od) ?_;refine vk (vbi) ?_;refine ar [4,5,32] ?_
  rcases brc h with ⟨hc,h⟩|⟨hc,h⟩
  ·refine cnt (dT hc) ?_
   refine .sr ?_;refine vk (vbd Jc DY DX) ?_
   refine stn ?_ AS (by decide)
   refine ar [4,5] ?_;refine .ret ?_
   cases h
   exact ⟨_,_,⟨.inr rfl,BI,AS,p3⟩,rfl,rfl⟩
  refine cnf (dF hc) ?_;refine .skip ?_
  show AW _ _ _ _ _ _
  refine .sr ?_
  obtain ⟨x5,g5,h⟩:=bnd h
  refine vk (Ar (CS g5) Tryz.call72) ?_
  refine stn ?_ AS (by decide)
  refine ar [4,5] ?_;refine .ret ?_
  cases h
  exact ⟨_,_,⟨.inr rfl,BI,AS,p3⟩,rfl,rfl⟩
 refine cnt (ntt (bf hc)) ?_;refine .sr ?_;refine vk (vbd Jc DY DX) ?_
 refine stn ?_ AS (by decide)
 refine ar [4,5] ?_;refine .ret ?_
 cases h
 exact ⟨_,_,⟨.inr rfl,BI,AS,p3⟩,rfl,rfl⟩
def Eg (a0:RT) (a1:Bool) : Option (RT×Int):=((EF a0).bind fun x1=>(if x1=true then (Option.bind ((if a1=true then ((DE a0.2.1).bind fun x3=>((DE a0.2.2).bind fun x4=>(some ((decide (0<((List.length a0.2.1:Nat) : Int))),x3,x4)))) else ((DE a0.2.1).bind fun x5=>((DE a0.2.2).bind fun x6=>(some (false,x5,x6))))) : Option (RT)) fun (z2:RT)=>(some (z2,0))) else (some ((false,[],[]),22))))
theorem HX {a0:RT} {a1:Bool} {r:RT×Int} (h:Eg a0 a1=some r) :
  Fn Tryz.prog 161 [.ag [.b a0.1,.sl (L a0.2.1),.sl (L a0.2.2)],.b a1] (.tup [.d (.ag [.b r.1.1,.sl (L r.1.2.1),.sl (L r.1.2.2)]),.d (.i .i64 r.2)]):=by
 unfold Eg at h
 refine Fn.ofC (rs:=[.cell 4 32,.tmp 5]) (nt:=24) Tryz.func161 rfl rfl rfl (by simp) rfl ?_;refine .sr ?_;refine vk (vbx) ?_;refine vk (van (Ai DY) DX) ?_;refine ar [1,2,4,5] ?_;refine .seq ?_;refine .sr ?_;refine vk (AN BI AS) ?_
 obtain ⟨x1,g1,h⟩:=bnd h
 refine vk (Ar (DQ g1) Tryz.call45) ?_;refine vk (vnt) ?_;refine rk [1,2,4,5,8] ?_
 rcases brc h with ⟨hc,h⟩|⟨hc,h⟩
 ·refine cnf (ntf hc) ?_
  refine .skip ?_
  show AW _ _ _ _ _ _
  refine .seq ?_
  obtain ⟨z2,hz,h⟩:=bnd h
  refine AW.mr (σ:=Unit) (fun _=>True) (fun _=>[(4,.nb [.b z2.1,.sl (L z2.2.1),.sl (L z2.2.2)]),(5,.d (.i .i64 0))]) (fun _=>[]) ?_ ?_
  ·skip
   refine .drawn 14 BN (by kernel_rfl) ?_;refine dv (Aa) ?_
   rcases brc hz with ⟨hc,hz⟩|⟨hc,hz⟩
   ·have hb0:a1=true:=hc
    refine dv (VOK.lit (Aa) hb0) ?_;refine dv (vfa DG) ?_;refine dv (As E0) ?_;refine dv (Cc (Ab _) (BW _) Od) ?_;refine dv (vbi) ?_;refine dv (AF) ?_;refine dv (vfa DG) ?_;refine dv (As E0) ?_
    obtain ⟨x3,g3,hz⟩:=bnd hz
    refine dv ((Ar (Ee g3) Tryz.call215).deep) ?_;refine dv (vfa Gm) ?_;refine dv (As E0) ?_
    obtain ⟨x4,g4,hz⟩:=bnd hz
    refine dv ((Ar (Ee g4) Tryz.call215).deep) ?_;refine dv (vbd Jc DY DX) ?_;refine dz ?_
    refine stn ?_ AS (by decide)
    refine asd ?_;refine RL.gk [4,5] ?_;refine .nil ?_
    cases hz
    exact jr () trivial
   have hb0:a1=false:=(bf hc)
   refine dv (VOK.lit (Aa) hb0) ?_;refine dgf ?_;refine dgf ?_;refine dgf ?_;refine dgf ?_;refine dv (AF) ?_;refine dv (vfa DG) ?_;refine dv (As E0) ?_
   obtain ⟨x5,g5,hz⟩:=bnd hz
   refine dv ((Ar (Ee g5) Tryz.call215).deep) ?_;refine dv (vfa Gm) ?_;refine dv (As E0) ?_
   obtain ⟨x6,g6,hz⟩:=bnd hz
   refine dv ((Ar (Ee g6) Tryz.call215).deep) ?_;refine dv (vbd Jc DY DX) ?_;refine dz ?_
   refine stn ?_ AS (by decide)
   refine asd ?_;refine RL.gk [4,5] ?_;refine .nil ?_
   cases hz
   exact jr () trivial
  rintro _ _
  refine .ret ?_
  cases h
  exact ⟨_,_,⟨.inr rfl,BI,AS,p3⟩,rfl,rfl⟩
 refine cnt (ntt (bf hc)) ?_;refine .sr ?_;refine vk (vbd Jc DY DX) ?_
 refine stn ?_ AS (by decide)
 refine ar [1,2,4,5] ?_;refine .ret ?_
 cases h
 exact ⟨_,_,⟨.inr rfl,BI,AS,p3⟩,rfl,rfl⟩
def HS (a0:RT) : Option (RT×Int):=((Eg a0 (!a0.1)).bind fun x1=>(some (x1.1,x1.2)))
theorem PJ {a0:RT} {r:RT×Int} (h:HS a0=some r) :
  Fn Tryz.prog 79 [.ag [.b a0.1,.sl (L a0.2.1),.sl (L a0.2.2)]] (.tup [.d (.ag [.b r.1.1,.sl (L r.1.2.1),.sl (L r.1.2.2)]),.d (.i .i64 r.2)]):=by
 unfold HS at h
 refine Fn.ofC (rs:=[.cell 2 32,.tmp 3]) (nt:=11) Tryz.func79 rfl rfl rfl (by simp) rfl ?_;refine .sr ?_;refine vk (vbx) ?_;refine vk (van (Ai DY) DX) ?_;refine ar [1,2,3] ?_;refine .sr ?_;refine vk (AN BI AS) ?_;refine vk (vfa Dt) ?_;refine vk (As CK) ?_;refine vk (vnt) ?_
 obtain ⟨x1,g1,h⟩:=bnd h
 refine vk (VOK.tupd (vs:=[.ag [.b x1.1.1,.sl (L x1.1.2.1),.sl (L x1.1.2.2)],.i .i64 x1.2]) (Ar (HX g1) Tryz.call161)) ?_;refine vk (vex) ?_;refine vk (vex) ?_
 refine stn ?_ AS (by decide)
 refine ar [2,3] ?_;refine .ret ?_
 cases h
 exact ⟨_,_,⟨.inr rfl,BI,AS,p3⟩,rfl,rfl⟩
def MQ (a0:RT) : Option (RT×Int):=((Eg a0 false).bind fun x1=>(some (x1.1,x1.2)))
theorem Qk {a0:RT} {r:RT×Int} (h:MQ a0=some r) :
  Fn Tryz.prog 82 [.ag [.b a0.1,.sl (L a0.2.1),.sl (L a0.2.2)]] (.tup [.d (.ag [.b r.1.1,.sl (L r.1.2.1),.sl (L r.1.2.2)]),.d (.i .i64 r.2)]):=by
 unfold MQ at h
 refine Fn.ofC (rs:=[.cell 2 32,.tmp 3]) (nt:=8) Tryz.func82 rfl rfl rfl (by simp) rfl ?_;refine .sr ?_;refine vk (vbx) ?_;refine vk (van (Ai DY) DX) ?_;refine ar [1,2,3] ?_;refine .sr ?_;refine vk (AN BI AS) ?_
 obtain ⟨x1,g1,h⟩:=bnd h
 refine vk (VOK.tupd (vs:=[.ag [.b x1.1.1,.sl (L x1.1.2.1),.sl (L x1.1.2.2)],.i .i64 x1.2]) (Ar (HX g1) Tryz.call161)) ?_;refine vk (vex) ?_;refine vk (vex) ?_
 refine stn ?_ AS (by decide)
 refine ar [2,3] ?_;refine .ret ?_
 cases h
 exact ⟨_,_,⟨.inr rfl,BI,AS,p3⟩,rfl,rfl⟩
def HC (a0:RT) (a1:Bool) : Option (RT×Int):=((EF a0).bind fun x1=>(if x1=true then ((Rn a0.2.1 a0.2.2).bind fun x2=>(if (a1&&(decide (0<((List.length x2.2.1:Nat) : Int))))=true then (Gz.bind fun x3=>((V8 ([x2.1,x3])).bind fun x4=>(Gz.bind fun x5=>((Hz ((x4,x5),a0.1)).bind fun x6=>(some (x6.1,x6.2)))))) else (Gz.bind fun x7=>((Hz ((x2.1,x7),a0.1)).bind fun x8=>(some (x8.1,x8.2)))))) else (some ((false,[],[]),22))))
theorem IC {a0:RT} {a1:Bool} {r:RT×Int} (h:HC a0 a1=some r) :
  Fn Tryz.prog 162 [.ag [.b a0.1,.sl (L a0.2.1),.sl (L a0.2.2)],.b a1] (.tup [.d (.ag [.b r.1.1,.sl (L r.1.2.1),.sl (L r.1.2.2)]),.d (.i .i64 r.2)]):=by
 unfold HC at h
 refine Fn.ofC (rs:=[.cell 4 32,.tmp 5]) (nt:=41) Tryz.func162 rfl rfl rfl (by simp) rfl ?_;refine .sr ?_;refine vk (vbx) ?_;refine vk (van (Ai DY) DX) ?_;refine ar [1,2,4,5] ?_;refine .seq ?_;refine .sr ?_;refine vk (AN BI AS) ?_
 obtain ⟨x1,g1,h⟩:=bnd h
 refine vk (Ar (DQ g1) Tryz.call45) ?_;refine vk (vnt) ?_;refine rk [1,2,4,5,11] ?_
 rcases brc h with ⟨hc,h⟩|⟨hc,h⟩
 ·refine cnf (ntf hc) ?_
  refine .skip ?_
  show AW _ _ _ _ _ _
  refine .sr ?_;refine vk (vfa DG) ?_;refine vk (As E0) ?_;refine vk (vfa Gm) ?_;refine vk (As E0) ?_
  obtain ⟨x2,g2,h⟩:=bnd h
  refine vk (VOK.tupd (vs:=[.sl (L x2.1),.sl (L x2.2.1),.b x2.2.2]) (Ar (Ps g2) Tryz.call199)) ?_;refine vk (Aa) ?_;refine vk (vex) ?_;refine vk (vex) ?_;refine vk (vex) ?_;refine asd ?_;refine asd ?_;refine ar [1,2,4,5,6,7] ?_;refine .seq ?_;refine .seq ?_;refine AW.mr (σ:=Unit) (fun _=>True) (fun _=>[(2,.d (.ptr [.b a0.1,.sl (L a0.2.1),.sl (L a0.2.2)])),(4,.nb [.b false,.sl (L []),.sl (L [])]),(5,.d (.i .i64 0)),(6,.d (.sl (L x2.1))),(27,.d (.b (a1&&(decide (0<((List.length x2.2.1:Nat):Int))))))]) (fun _=>[]) ?_ ?_
  ·skip
   refine .region ?_;refine vk (Aa) ?_
   by_cases hc:a1=true
   ·have hb0:a1=true:=hc
    refine vk (VOK.lit (Aa) hb0) ?_;refine vk (Aa) ?_;refine vk (Cc (Ab _) (BW _) Od) ?_;refine vk (vbi) ?_;refine vk (AF) ?_;refine RL.gk [2,4,5,6,27] ?_;refine .nil ?_
    exact jr () trivial (by simp only [hb0];rfl)
   have hb0:a1=false:=(bf hc)
   refine vk (VOK.lit (Aa) hb0) ?_;refine gf ?_;refine gf ?_;refine gf ?_;refine vk (AF) ?_;refine RL.gk [2,4,5,6,27] ?_;refine .nil ?_
   exact jr () trivial (by simp only [hb0];rfl)
  rintro _ _
  rcases brc h with ⟨hc,h⟩|⟨hc,h⟩
  ·refine cnt hc ?_
   refine .region ?_;refine vk (Aa) ?_
   obtain ⟨x3,g3,h⟩:=bnd h
   refine vk ((Ar (DU g3) Tryz.call121).deep) ?_;refine vk ((IZ (Hy [x2.1,x3]) S5).deep) ?_
   obtain ⟨x4,g4,h⟩:=bnd h
   refine vk (Ar (QR g4) Tryz.call165) ?_;refine ar [2,4,5,6] ?_;refine .seq ?_;refine .drawn 9 BN (by kernel_rfl) ?_;refine dv (Aa) ?_
   obtain ⟨x5,g5,h⟩:=bnd h
   refine dv ((Ar (DU g5) Tryz.call121).deep) ?_;refine dv (vbd VW VK WD) ?_;refine dv (vfa Dt) ?_;refine dv (As CK) ?_;refine dv (vbd V5 Wz Vy) ?_
   obtain ⟨x6,g6,h⟩:=bnd h
   refine dv (VOK.tupd (vs:=[.ag [.b x6.1.1,.sl (L x6.1.2.1),.sl (L x6.1.2.2)],.i .i64 x6.2]) (Ar (GL g6) Tryz.call170)) ?_;refine dv (vex) ?_;refine dv (vex) ?_;refine dz ?_
   refine stn ?_ AS (by decide)
   refine ar [4,5] ?_;refine .ret ?_
   cases h
   exact ⟨_,_,⟨.inr rfl,BI,AS,p3⟩,rfl,rfl⟩
  refine cnf (bf hc) ?_;refine .skip ?_
  show AW _ _ _ _ _ _
  refine .seq ?_;refine .drawn 9 BN (by kernel_rfl) ?_;refine dv (Aa) ?_
  obtain ⟨x7,g7,h⟩:=bnd h
  refine dv ((Ar (DU g7) Tryz.call121).deep) ?_;refine dv (vbd VW VK WD) ?_;refine dv (vfa Dt) ?_;refine dv (As CK) ?_;refine dv (vbd V5 Wz Vy) ?_
  obtain ⟨x8,g8,h⟩:=bnd h
  refine dv (VOK.tupd (vs:=[.ag [.b x8.1.1,.sl (L x8.1.2.1),.sl (L x8.1.2.2)],.i .i64 x8.2]) (Ar (GL g8) Tryz.call170)) ?_;refine dv (vex) ?_;refine dv (vex) ?_;refine dz ?_
  refine stn ?_ AS (by decide)
  refine ar [4,5] ?_;refine .ret ?_
  cases h
  exact ⟨_,_,⟨.inr rfl,BI,AS,p3⟩,rfl,rfl⟩
 refine cnt (ntt (bf hc)) ?_;refine .sr ?_;refine vk (vbd Jc DY DX) ?_
 refine stn ?_ AS (by decide)
 refine ar [1,2,4,5] ?_;refine .ret ?_
 cases h
 exact ⟨_,_,⟨.inr rfl,BI,AS,p3⟩,rfl,rfl⟩
def JC (a0:RT) : Option (RT×Int):=((HC a0 a0.1).bind fun x1=>(some (x1.1,x1.2)))
theorem M9 {a0:RT} {r:RT×Int} (h:JC a0=some r) :
  Fn Tryz.prog 81 [.ag [.b a0.1,.sl (L a0.2.1),.sl (L a0.2.2)]] (.tup [.d (.ag [.b r.1.1,.sl (L r.1.2.1),.sl (L r.1.2.2)]),.d (.i .i64 r.2)]):=by
 unfold JC at h
 refine Fn.ofC (rs:=[.cell 2 32,.tmp 3]) (nt:=10) Tryz.func81 rfl rfl rfl (by simp) rfl ?_;refine .sr ?_;refine vk (vbx) ?_;refine vk (van (Ai DY) DX) ?_;refine ar [1,2,3] ?_;refine .sr ?_;refine vk (AN BI AS) ?_;refine vk (vfa Dt) ?_;refine vk (As CK) ?_
 obtain ⟨x1,g1,h⟩:=bnd h
 refine vk (VOK.tupd (vs:=[.ag [.b x1.1.1,.sl (L x1.1.2.1),.sl (L x1.1.2.2)],.i .i64 x1.2]) (Ar (IC g1) Tryz.call162)) ?_;refine vk (vex) ?_;refine vk (vex) ?_
 refine stn ?_ AS (by decide)
 refine ar [2,3] ?_;refine .ret ?_
 cases h
 exact ⟨_,_,⟨.inr rfl,BI,AS,p3⟩,rfl,rfl⟩
def Lr (a0:RT) : Option (RT×Int):=((HC a0 (!a0.1)).bind fun x1=>(some (x1.1,x1.2)))
theorem Ow {a0:RT} {r:RT×Int} (h:Lr a0=some r) :
  Fn Tryz.prog 80 [.ag [.b a0.1,.sl (L a0.2.1),.sl (L a0.2.2)]] (.tup [.d (.ag [.b r.1.1,.sl (L r.1.2.1),.sl (L r.1.2.2)]),.d (.i .i64 r.2)]):=by
 unfold Lr at h
 refine Fn.ofC (rs:=[.cell 2 32,.tmp 3]) (nt:=11) Tryz.func80 rfl rfl rfl (by simp) rfl ?_;refine .sr ?_;refine vk (vbx) ?_;refine vk (van (Ai DY) DX) ?_;refine ar [1,2,3] ?_;refine .sr ?_;refine vk (AN BI AS) ?_;refine vk (vfa Dt) ?_;refine vk (As CK) ?_;refine vk (vnt) ?_
 obtain ⟨x1,g1,h⟩:=bnd h
 refine vk (VOK.tupd (vs:=[.ag [.b x1.1.1,.sl (L x1.1.2.1),.sl (L x1.1.2.2)],.i .i64 x1.2]) (Ar (IC g1) Tryz.call162)) ?_;refine vk (vex) ?_;refine vk (vex) ?_
 refine stn ?_ AS (by decide)
 refine ar [2,3] ?_;refine .ret ?_
 cases h
 exact ⟨_,_,⟨.inr rfl,BI,AS,p3⟩,rfl,rfl⟩
def Hl (a0:RT) : Option (Int):=((EF a0).bind fun x1=>(if ((!x1)||(decide (((List.length a0.2.1:Nat) : Int)=0)))=true then (some (0)) else (if a0.1=true then (some ((-1))) else (some (1)))))
theorem G8 {a0:RT} {r:Int} (h:Hl a0=some r) :
  Fn Tryz.prog 86 [.ag [.b a0.1,.sl (L a0.2.1),.sl (L a0.2.2)]] (.d (.i .i64 r)):=by
 unfold Hl at h
 refine Fn.o1 2 16 Tryz.func86 ?_;refine .sr ?_;refine vk (vbx) ?_;refine ar [1,2] ?_;refine .seq ?_;refine .block ?_;refine .seq ?_
 obtain ⟨x1,g1,h⟩:=bnd h
 refine AW.mr (σ:=Unit) (fun _=>True) (fun _=>[(1,.d (.ptr [.b a0.1,.sl (L a0.2.1),.sl (L a0.2.2)])),(2,.d (.i .i64 0)),(3,.d (.b ((!x1)||(decide (((List.length a0.2.1:Nat):Int)=0)))))]) (fun _=>[]) ?_ ?_
 ·skip
  refine .region ?_;refine vk (AN BI AS) ?_;refine vk (Ar (DQ g1) Tryz.call45) ?_;refine vk (vnt) ?_
  by_cases hc:x1=true
  ·have hb0:(!x1)=false:=(ntf hc)
   refine vk (VOK.lit (Aa) hb0) ?_;refine vk (vfa DG) ?_;refine vk (As E0) ?_;refine vk (Cc (Ab _) (BW _) Od) ?_;refine vk (vbi) ?_;refine vk (AF) ?_;refine asd ?_;refine RL.gk [1,2,3] ?_;refine .nil ?_
   exact jr () trivial (by simp only [hb0];rfl)
  have hb0:(!x1)=true:=(ntt (bf hc))
  refine vk (VOK.lit (Aa) hb0) ?_;refine gf ?_;refine gf ?_;refine gf ?_;refine gf ?_;refine vk (AF) ?_;refine asd ?_;refine RL.gk [1,2,3] ?_;refine .nil ?_
  exact jr () trivial (by simp only [hb0];rfl)
 rintro _ _
 rcases brc h with ⟨hc,h⟩|⟨hc,h⟩
 ·refine cnt hc ?_
  refine .sr ?_;refine ar [2] ?_;refine .ret ?_
  cases h
  exact ⟨rfl,rfl⟩
 refine cnf (bf hc) ?_;refine .sr ?_;refine vk (vfa Dt) ?_;refine vk (As CK) ?_;refine ar [2,13] ?_
 rcases brc h with ⟨hc,h⟩|⟨hc,h⟩
 ·refine cnt hc ?_
  refine .sr ?_;refine ar [2] ?_;refine .ret ?_
  cases h
  exact ⟨rfl,rfl⟩
 refine cnf (bf hc) ?_;refine .skip ?_
 show AW _ _ _ _ _ _
 refine .sr ?_;refine ar [2] ?_;refine .ret ?_
 cases h
 exact ⟨rfl,rfl⟩
def HA (a0:RT) : Option (Bool):=((EF a0).bind fun x1=>(Option.bind ((if x1=true then (Gz.bind fun x3=>((HJ a0.2.2 x3).bind fun x4=>(some x4))) else (some false)) : Option (Bool)) fun (z1:Bool)=>(some (z1))))
theorem ID {a0:RT} {r:Bool} (h:HA a0=some r) :
  Fn Tryz.prog 206 [.ag [.b a0.1,.sl (L a0.2.1),.sl (L a0.2.2)]] (.d (.b r)):=by
 unfold HA at h
 refine Fn.o1 2 11 Tryz.func206 ?_;refine .sr ?_;refine vk (vbx) ?_;refine ar [1,2] ?_;refine .seq ?_
 obtain ⟨x1,g1,h⟩:=bnd h
 obtain ⟨z1,hz,h⟩:=bnd h
 refine AW.mr (σ:=Unit) (fun _=>True) (fun _=>[(2,.d (.b z1))]) (fun _=>[]) ?_ ?_
 ·skip
  refine .drawn 8 BN (by kernel_rfl) ?_;refine dv (AN BI AS) ?_;refine dv (Ar (DQ g1) Tryz.call45) ?_
  rcases brc hz with ⟨hc,hz⟩|⟨hc,hz⟩
  ·have hb0:x1=true:=hc
   refine dv (VOK.lit (Aa) hb0) ?_;refine dv (vfa Gm) ?_;refine dv (As E0) ?_
   obtain ⟨x3,g3,hz⟩:=bnd hz
   refine dv ((Ar (DU g3) Tryz.call121).deep) ?_
   obtain ⟨x4,g4,hz⟩:=bnd hz
   refine dv (Ar (Ie g4) Tryz.call112) ?_;refine dv (AF) ?_;refine dz ?_;refine asd ?_;refine RL.gk [2] ?_;refine .nil ?_
   cases hz
   exact jr () trivial
  have hb0:x1=false:=(bf hc)
  refine dv (VOK.lit (Aa) hb0) ?_;refine dgf ?_;refine dgf ?_;refine dgf ?_;refine dgf ?_;refine dv (AF) ?_;refine dz ?_;refine asd ?_;refine RL.gk [2] ?_;refine .nil ?_
  cases hz
  exact jr () trivial
 rintro _ _
 refine .ret ?_
 cases h
 exact ⟨rfl,rfl⟩
def Hp (a0:RT) : Option (Bool):=((HA a0).bind fun x1=>(some ((x1&&(!a0.1)))))
theorem Ls {a0:RT} {r:Bool} (h:Hp a0=some r) :
  Fn Tryz.prog 163 [.ag [.b a0.1,.sl (L a0.2.1),.sl (L a0.2.2)]] (.d (.b r)):=by
 unfold Hp at h
 refine Fn.o1 2 10 Tryz.func163 ?_;refine .sr ?_;refine vk (vbx) ?_;refine ar [1,2] ?_;refine .seq ?_
 obtain ⟨x1,g1,h⟩:=bnd h
 refine AW.mr (σ:=Unit) (fun _=>True) (fun _=>[(2,.d (.b (x1&&(!a0.1))))]) (fun _=>[]) ?_ ?_
 ·skip
  refine .region ?_;refine vk (AN BI AS) ?_;refine vk (Ar (ID g1) Tryz.call206) ?_
  by_cases hc:x1=true
  ·have hb0:x1=true:=hc
   refine vk (VOK.lit (Aa) hb0) ?_;refine vk (vfa Dt) ?_;refine vk (As CK) ?_;refine vk (vnt) ?_;refine vk (AF) ?_;refine asd ?_;refine RL.gk [2] ?_;refine .nil ?_
   exact jr () trivial (by simp only [hb0];rfl)
  have hb0:x1=false:=(bf hc)
  refine vk (VOK.lit (Aa) hb0) ?_;refine gf ?_;refine gf ?_;refine gf ?_;refine vk (AF) ?_;refine asd ?_;refine RL.gk [2] ?_;refine .nil ?_
  exact jr () trivial (by simp only [hb0];rfl)
 rintro _ _
 refine .ret ?_
 cases h
 exact ⟨rfl,rfl⟩
def AI (a0:(List Int)) (a1:BP) (K0:Int→Option (Int)) : Nat→Int→Int→Option (Int)
 | 0,_,_=>none
 | k+1,s2,s3=>(if s3<((List.length a0:Nat):Int) then ((rd? a0 s3).bind fun x4=>((a1.g x4).bind fun x5=>(if x5=true then (some (s3)) else (AI a0 a1 K0 k s2 (w64 (s3+1)))))) else (K0 s2))
def BQ (a0:(List Int)) (a1:BP) : Option (Int):=(jn (fun (z1:Int)=>(some ((-1)))) fun K0=>(AI a0 a1 K0 A4 0 0))
theorem EY {a0:(List Int)} {a1:BP} (oa1:IH a1) {r:Int} (h:BQ a0 a1=some r) :
  Fn Tryz.prog 225 [.sl (Is a0),a1.dv] (.d (.i .i64 r)):=by
 unfold BQ at h
 refine Fn.o1 4 19 Tryz.func225 ?_;refine .sr ?_;refine ar [0,1,4] ?_;refine .seq ?_;refine .sr ?_;refine vk (Aa) ?_;refine vk (Cc (AB _) (DS _) Dw) ?_;refine vk (Aa) ?_;refine rk [0,1,4,7,8] ?_
 obtain ⟨K0,hK0,h⟩:=BU h
 refine AW.mr (σ:=Int) (fun p=>K0 p=some r) (fun p=>[(4,.d (.i .i64 p))]) (fun p=>[]) ?_ ?_
 ·skip
  refine .block ?_
  refine .loop (.gk [0,1,4,7,8] ?_)
  refine AL.ind (σ:=Nat×Int×Int) (m:=fun p=>p.1) (e:=fun p=>[(0,.d (.sl (Is a0))),(1,.d (a1.dv)),(4,.d (.i .i64 p.2.1)),(7,.d (.i .i64 ((List.length a0:Nat):Int))),(8,.d (.i .i64 p.2.2))]) (h:=fun p=>[]) (I:=fun p=>AI a0 a1 K0 p.1 p.2.1 p.2.2=some r) ?_ (A4,0,0) h
  rintro ⟨k,s2,s3⟩ h ih
  dsimp only at h ih ⊢
  rcases k with _|k
  ·rw [AI] at h;cases h
  rw [AI] at h
  refine .sr ?_;refine vk (vbi) ?_;refine rk [0,1,4,7,8,9] ?_;refine .seq ?_
  rcases brc h with ⟨hc,h⟩|⟨hc,h⟩
  ·refine cnt (dT hc) ?_
   refine .skip ?_
   show AW _ _ _ _ _ _
   refine .seq ?_;refine .block ?_;refine .sr ?_;refine vk (Aa) ?_;refine ar [0,1,4,5,7,8] ?_;refine .sr ?_;refine vk (Aa) ?_;refine vk (Aa) ?_;refine vk (Aa) ?_
   obtain ⟨x4,g4,h⟩:=bnd h
   obtain ⟨n4,p04,q4⟩:=Av g4
   refine vk (vix n4 p04 (Cv q4) rfl Cw) ?_;refine vk (As A9) ?_
   obtain ⟨x5,g5,h⟩:=bnd h
   refine vk (Nn (oa1 _ _ g5)) ?_;refine rk [0,1,4,5,7,8,16] ?_
   rcases brc h with ⟨hc,h⟩|⟨hc,h⟩
   ·refine cnt hc ?_
    refine .sr ?_;refine vk (Aa) ?_;refine ar [0,1,4,7,8] ?_;refine .ret ?_
    cases h
    exact ⟨rfl,rfl⟩
   refine cnf (bf hc) ?_;refine .skip ?_
   show AW _ _ _ _ _ _
   refine .region ?_;refine vk (vbi) ?_;refine vk (Aa) ?_;refine .nil ?_;refine AL.gk [0,1,4,7,8] ?_
   exact ih (k,s2,(w64 (s3+1))) h (Nat.lt_succ_self _)
  refine cnf (dF hc) ?_;refine .gk [4] ?_;refine .exit ?_
  exact jr (s2) h
 rintro z1 h
 try dsimp only at h ⊢
 subst hK0
 show AW _ _ _ _ _ _
 refine .sr ?_;refine ar [4] ?_;refine .ret ?_
 cases h
 exact ⟨rfl,rfl⟩
def AQ (a0:(List Int)) (a1:BP) : Option (Bool):=((BQ a0 a1).bind fun x1=>(some ((decide (0≤x1)))))
theorem CM {a0:(List Int)} {a1:BP} (oa1:IH a1) {r:Bool} (h:AQ a0 a1=some r) :
  Fn Tryz.prog 175 [.sl (Is a0),a1.dv] (.d (.b r)):=by
 unfold AQ at h
 refine Fn.o1 4 9 Tryz.func175 ?_;refine .sr ?_;refine ar [0,1,4] ?_;refine .sr ?_;refine vk (Aa) ?_;refine vk (Aa) ?_
 obtain ⟨x1,g1,h⟩:=bnd h
 refine vk (Ar (EY oa1 g1) Tryz.call225) ?_;refine vk (vbi) ?_;refine ar [4] ?_;refine .ret ?_
 cases h
 exact ⟨rfl,rfl⟩
def AY (a0:(List Int)) (a1:Int) (K0:Int→Option (Int)) : Nat→Int→Int→Option (Int)
 | 0,_,_=>none
 | k+1,s2,s3=>(if s3<((List.length a0:Nat):Int) then ((rd? a0 s3).bind fun x4=>(if a1=x4 then (some (s3)) else (AY a0 a1 K0 k s2 (w64 (s3+1))))) else (K0 s2))
def Cy (a0:(List Int)) (a1:Int) : Option (Int):=(jn (fun (z1:Int)=>(some ((-1)))) fun K0=>(AY a0 a1 K0 A4 0 0))
theorem Ge {a0:(List Int)} {a1:Int} {r:Int} (h:Cy a0 a1=some r) :
  Fn Tryz.prog 226 [.sl (Is a0),.i .i64 a1] (.d (.i .i64 r)):=by
 unfold Cy at h
 refine Fn.o1 4 19 Tryz.func226 ?_;refine .sr ?_;refine ar [0,1,4] ?_;refine .seq ?_;refine .sr ?_;refine vk (Aa) ?_;refine vk (Cc (AB _) (DS _) Dw) ?_;refine vk (Aa) ?_;refine rk [0,1,4,7,8] ?_
 obtain ⟨K0,hK0,h⟩:=BU h
 refine AW.mr (σ:=Int) (fun p=>K0 p=some r) (fun p=>[(4,.d (.i .i64 p))]) (fun p=>[]) ?_ ?_
 ·skip
  refine .block ?_
  refine .loop (.gk [0,1,4,7,8] ?_)
  refine AL.ind (σ:=Nat×Int×Int) (m:=fun p=>p.1) (e:=fun p=>[(0,.d (.sl (Is a0))),(1,.d (.i .i64 a1)),(4,.d (.i .i64 p.2.1)),(7,.d (.i .i64 ((List.length a0:Nat):Int))),(8,.d (.i .i64 p.2.2))]) (h:=fun p=>[]) (I:=fun p=>AY a0 a1 K0 p.1 p.2.1 p.2.2=some r) ?_ (A4,0,0) h
  rintro ⟨k,s2,s3⟩ h ih
  dsimp only at h ih ⊢
  rcases k with _|k
  ·rw [AY] at h;cases h
  rw [AY] at h
  refine .sr ?_;refine vk (vbi) ?_;refine rk [0,1,4,7,8,9] ?_;refine .seq ?_
  rcases brc h with ⟨hc,h⟩|⟨hc,h⟩
  ·refine cnt (dT hc) ?_
   refine .skip ?_
   show AW _ _ _ _ _ _
   refine .seq ?_;refine .block ?_;refine .sr ?_;refine vk (Aa) ?_;refine ar [0,1,4,5,7,8] ?_;refine .sr ?_;refine vk (Aa) ?_;refine vk (Aa) ?_;refine vk (Aa) ?_
   obtain ⟨x4,g4,h⟩:=bnd h
   obtain ⟨n4,p04,q4⟩:=Av g4
   refine vk (vix n4 p04 (Cv q4) rfl Cw) ?_;refine vk (As A9) ?_;refine vk (vbi) ?_;refine rk [0,1,4,5,7,8,16] ?_
   rcases brc h with ⟨hc,h⟩|⟨hc,h⟩
   ·refine cnt (dT hc) ?_
    refine .sr ?_;refine vk (Aa) ?_;refine ar [0,1,4,7,8] ?_;refine .ret ?_
    cases h
    exact ⟨rfl,rfl⟩
   refine cnf (dF hc) ?_;refine .skip ?_
   show AW _ _ _ _ _ _
   refine .region ?_;refine vk (vbi) ?_;refine vk (Aa) ?_;refine .nil ?_;refine AL.gk [0,1,4,7,8] ?_
   exact ih (k,s2,(w64 (s3+1))) h (Nat.lt_succ_self _)
  refine cnf (dF hc) ?_;refine .gk [4] ?_;refine .exit ?_
  exact jr (s2) h
 rintro z1 h
 try dsimp only at h ⊢
 subst hK0
 show AW _ _ _ _ _ _
 refine .sr ?_;refine ar [4] ?_;refine .ret ?_
 cases h
 exact ⟨rfl,rfl⟩
def Bn (a0:(List Int)) (a1:Int) : Option (Bool):=((Cy a0 a1).bind fun x1=>(some ((decide (0≤x1)))))
theorem Fi {a0:(List Int)} {a1:Int} {r:Bool} (h:Bn a0 a1=some r) :
  Fn Tryz.prog 178 [.sl (Is a0),.i .i64 a1] (.d (.b r)):=by
 unfold Bn at h
 refine Fn.o1 4 9 Tryz.func178 ?_;refine .sr ?_;refine ar [0,1,4] ?_;refine .sr ?_;refine vk (Aa) ?_;refine vk (Aa) ?_
 obtain ⟨x1,g1,h⟩:=bnd h
 refine vk (Ar (Ge g1) Tryz.call226) ?_;refine vk (vbi) ?_;refine ar [4] ?_;refine .ret ?_
 cases h
 exact ⟨rfl,rfl⟩
def GO (a0:Int) : Option (Bool):=(some ((decide (a0<0))))
theorem Ke {a0:Int} {r:Bool} (h:GO a0=some r) :
  Fn Tryz.prog 176 [.i .i64 a0] (.d (.b r)):=by
 unfold GO at h
 refine Fn.o1 2 5 Tryz.func176 ?_;refine .sr ?_;refine ar [0,2] ?_;refine .sr ?_;refine vk (Aa) ?_;refine vk (vbi) ?_;refine ar [2] ?_;refine .ret ?_
 cases h
 exact ⟨rfl,rfl⟩
def Gn (a0:Int) : Option (Bool):=(some ((decide (4096<a0))))
theorem Kp {a0:Int} {r:Bool} (h:Gn a0=some r) :
  Fn Tryz.prog 177 [.i .i64 a0] (.d (.b r)):=by
 unfold Gn at h
 refine Fn.o1 2 5 Tryz.func177 ?_;refine .sr ?_;refine ar [0,2] ?_;refine .sr ?_;refine vk (Aa) ?_;refine vk (vbi) ?_;refine ar [2] ?_;refine .ret ?_
 cases h
 exact ⟨rfl,rfl⟩
def CI (a0:(List Int)) (K0:Int→Int→Int→Option (Int×Int)) : Nat→Int→Int→Int→Int→Option (Int×Int)
 | 0,_,_,_,_=>none
 | k+1,s7,s8,s9,s10=>(if s10<((List.length a0:Nat):Int) then ((rd? a0 s10).bind fun x11=>((Fs (s9≠0)).bind fun x12=>(if (w64 (Int.tdiv 4096 s9))<x11 then (some (0,8)) else (CI a0 K0 k s7 s8 (w64 (s9 * x11)) (w64 (s10+1)))))) else (K0 s7 s8 s9))
def CU (a0:(List Int)) : Option (Int×Int):=(if 8<((List.length a0:Nat) : Int) then (some (0,4)) else ((AQ a0 (⟨.fn 176 [] [],fun x=>GO x⟩ : BP)).bind fun x1=>(if x1=true then (some (0,3)) else ((AQ a0 (⟨.fn 177 [] [],fun x=>Gn x⟩ : BP)).bind fun x2=>(if x2=true then (some (0,8)) else ((Bn a0 0).bind fun x3=>(if x3=true then (some (0,0)) else (jn (fun (z4:Int) (z5:Int) (z6:Int)=>(some (z6,0))) fun K0=>(CI a0 K0 A4 0 0 1 0)))))))))
theorem Dz {a0:(List Int)} {r:Int×Int} (h:CU a0=some r) :
  Fn Tryz.prog 98 [.sl (Is a0)] (.tup [.d (.i .i64 r.1),.d (.i .i64 r.2)]):=by
 unfold CU at h
 refine Fn.of (rs:=[.tmp 2,.tmp 3]) (nt:=35) Tryz.func98 rfl rfl rfl (by simp) rfl ?_;refine .sr ?_;refine asd ?_;refine ar [0,2,3] ?_;refine .seq ?_;refine .block ?_;refine .sr ?_;refine vk (Aa) ?_;refine vk (Cc (AB _) (DS _) Dw) ?_;refine vk (vbi) ?_;refine ar [0,2,3,7] ?_
 rcases brc h with ⟨hc,h⟩|⟨hc,h⟩
 ·refine cnt (dT hc) ?_
  refine .sr ?_;refine asd ?_;refine ar [0,2,3] ?_;refine .ret ?_
  cases h
  exact ⟨by decide,rfl,rfl,rfl⟩
 refine cnf (dF hc) ?_;refine .sr ?_;refine vk (Aa) ?_
 obtain ⟨x1,g1,h⟩:=bnd h
 refine vk (Ar (CM (D5 Tryz.call176 (fun _ _ h=>Ke h)) g1) Tryz.call175) ?_;refine ar [0,2,3,11] ?_
 rcases brc h with ⟨hc,h⟩|⟨hc,h⟩
 ·refine cnt hc ?_
  refine .sr ?_;refine asd ?_;refine ar [0,2,3] ?_;refine .ret ?_
  cases h
  exact ⟨by decide,rfl,rfl,rfl⟩
 refine cnf (bf hc) ?_;refine .sr ?_;refine vk (Aa) ?_
 obtain ⟨x2,g2,h⟩:=bnd h
 refine vk (Ar (CM (D5 Tryz.call177 (fun _ _ h=>Kp h)) g2) Tryz.call175) ?_;refine ar [0,2,3,14] ?_
 rcases brc h with ⟨hc,h⟩|⟨hc,h⟩
 ·refine cnt hc ?_
  refine .sr ?_;refine asd ?_;refine ar [0,2,3] ?_;refine .ret ?_
  cases h
  exact ⟨by decide,rfl,rfl,rfl⟩
 refine cnf (bf hc) ?_;refine .sr ?_;refine vk (Aa) ?_
 obtain ⟨x3,g3,h⟩:=bnd h
 refine vk (Ar (Fi g3) Tryz.call178) ?_;refine ar [0,2,3,17] ?_
 rcases brc h with ⟨hc,h⟩|⟨hc,h⟩
 ·refine cnt hc ?_
  refine .sr ?_;refine asd ?_;refine ar [0,2,3] ?_;refine .ret ?_
  cases h
  exact ⟨by decide,rfl,rfl,rfl⟩
 refine cnf (bf hc) ?_;refine .skip ?_
 show AW _ _ _ _ _ _
 refine .sr ?_;refine ar [0,2,3,4] ?_;refine .seq ?_;refine .sr ?_;refine vk (Aa) ?_;refine vk (Cc (AB _) (DS _) Dw) ?_;refine vk (Aa) ?_;refine rk [2,3,4,20,21,22] ?_
 obtain ⟨K0,hK0,h⟩:=BU h
 refine AW.mr (σ:=Int×Int×Int) (fun p=>K0 p.1 p.2.1 p.2.2=some r) (fun p=>[(2,.d (.i .i64 p.1)),(3,.d (.i .i64 p.2.1)),(4,.d (.i .i64 p.2.2))]) (fun p=>[]) ?_ ?_
 ·skip
  refine .block ?_
  refine .loop (.gk [2,3,4,20,21,22] ?_)
  refine AL.ind (σ:=Nat×Int×Int×Int×Int) (m:=fun p=>p.1) (e:=fun p=>[(2,.d (.i .i64 p.2.1)),(3,.d (.i .i64 p.2.2.1)),(4,.d (.i .i64 p.2.2.2.1)),(20,.d (.sl (Is a0))),(21,.d (.i .i64 ((List.length a0:Nat):Int))),(22,.d (.i .i64 p.2.2.2.2))]) (h:=fun p=>[]) (I:=fun p=>CI a0 K0 p.1 p.2.1 p.2.2.1 p.2.2.2.1 p.2.2.2.2=some r) ?_ (A4,0,0,1,0) h
  rintro ⟨k,s7,s8,s9,s10⟩ h ih
  dsimp only at h ih ⊢
  rcases k with _|k
  ·rw [CI] at h;cases h
  rw [CI] at h
  refine .sr ?_;refine vk (vbi) ?_;refine rk [2,3,4,20,21,22,23] ?_;refine .seq ?_
  rcases brc h with ⟨hc,h⟩|⟨hc,h⟩
  ·refine cnt (dT hc) ?_
   refine .skip ?_
   show AW _ _ _ _ _ _
   refine .seq ?_;refine .block ?_;refine .sr ?_
   obtain ⟨x11,g11,h⟩:=bnd h
   obtain ⟨n11,p011,q11⟩:=Av g11
   refine vk (vix n11 p011 (Cv q11) rfl Cw) ?_;refine vk (As A9) ?_;refine ar [2,3,4,6,20,21,22] ?_;refine .seq ?_;refine .sr ?_;refine vk (Aa) ?_;refine vk (Aa) ?_
   obtain ⟨x12,g12,h⟩:=bnd h
   refine vk (NM (FP g12)) ?_;refine vk (vbi) ?_;refine rk [2,3,4,6,20,21,22,29] ?_
   rcases brc h with ⟨hc,h⟩|⟨hc,h⟩
   ·refine cnt (dT hc) ?_
    refine .sr ?_;refine asd ?_;refine ar [2,3,4,6,20,21,22] ?_;refine .ret ?_
    cases h
    exact ⟨by decide,rfl,rfl,rfl⟩
   refine cnf (dF hc) ?_;refine .skip ?_
   show AW _ _ _ _ _ _
   refine .region ?_;refine vk (Aa) ?_;refine vk (Aa) ?_;refine vk (vbi) ?_;refine asd ?_;refine .nil ?_
   show AW _ _ _ _ _ _
   refine .gk [2,3,4,20,21,22] ?_;refine .region ?_;refine vk (vbi) ?_;refine vk (Aa) ?_;refine .nil ?_;refine AL.gk [2,3,4,20,21,22] ?_
   exact ih (k,s7,s8,(w64 (s9 * x11)),(w64 (s10+1))) h (Nat.lt_succ_self _)
  refine cnf (dF hc) ?_;refine .gk [2,3,4] ?_;refine .exit ?_
  exact jr (s7,s8,s9) h
 rintro ⟨z4,z5,z6⟩ h
 try dsimp only at h ⊢
 subst hK0
 show AW _ _ _ _ _ _
 refine .sr ?_;refine vk (Aa) ?_;refine asd ?_;refine ar [2,3] ?_;refine .ret ?_
 cases h
 exact ⟨by decide,rfl,rfl,rfl⟩
def Cp (a0:Arr) : Option (Bool):=(Option.bind ((if ((List.length a0.shape:Nat) : Int)=0 then (if ((List.length a0.items:Nat) : Int)=1 then ((rd? a0.items 0).bind fun x2=>(some (!(decide (x2.kind=3))))) else (some false)) else (some false)) : Option (Bool)) fun (z1:Bool)=>(some (z1)))
theorem D1 {a0:Arr} {r:Bool} (h:Cp a0=some r) :
  Fn Tryz.prog 172 [.ag [.sl (Is a0.shape),.sl (Its a0.items)]] (.d (.b r)):=by
 unfold Cp at h
 refine Fn.o1 2 21 Tryz.func172 ?_;refine .sr ?_;refine vk (vbx) ?_;refine ar [1,2] ?_;refine .seq ?_
 obtain ⟨z1,hz,h⟩:=bnd h
 refine AW.mr (σ:=Unit) (fun _=>True) (fun _=>[(2,.d (.b z1))]) (fun _=>[]) ?_ ?_
 ·skip
  refine .region ?_;refine vk (vfa Cn) ?_;refine vk (As Dy) ?_;refine vk (Cc (AB _) (DS _) Dw) ?_;refine vk (vbi) ?_
  rcases brc hz with ⟨hc,hz⟩|⟨hc,hz⟩
  ·have hb0:(decide (((List.length a0.shape:Nat):Int)=0))=true:=(dT hc)
   refine vk (VOK.lit (Aa) hb0) ?_;refine vk (vfa BH) ?_;refine vk (As DJ) ?_;refine vk (Cc (A0 _) (Ev _) Ej) ?_;refine vk (vbi) ?_;refine vk (AF) ?_
   rcases brc hz with ⟨hc,hz⟩|⟨hc,hz⟩
   ·have hb1:(decide (((List.length a0.items:Nat):Int)=1))=true:=(dT hc)
    refine vk (VOK.lit (Aa) hb1) ?_;refine vk (vfa BH) ?_;refine vk (As DJ) ?_
    obtain ⟨x2,g2,hz⟩:=bnd hz
    obtain ⟨n2,p02,q2⟩:=Av g2
    refine vk (vix n2 p02 (Eo q2) rfl D6) ?_;refine vk (vfa Fm) ?_;refine vk (As Dc) ?_;refine vk (vbi) ?_;refine vk (AF) ?_;refine asd ?_;refine RL.gk [2] ?_;refine .nil ?_
    cases hz
    exact jr () trivial
   have hb1:(decide (((List.length a0.items:Nat):Int)=1))=false:=(dF hc)
   refine vk (VOK.lit (Aa) hb1) ?_;refine gf ?_;refine gf ?_;refine gf ?_;refine gf ?_;refine gf ?_;refine gf ?_;refine vk (AF) ?_;refine asd ?_;refine RL.gk [2] ?_;refine .nil ?_
   cases hz
   exact jr () trivial
  have hb0:(decide (((List.length a0.shape:Nat):Int)=0))=false:=(dF hc)
  refine vk (VOK.lit (Aa) hb0) ?_;refine gf ?_;refine gf ?_;refine gf ?_;refine gf ?_;refine vk (AF) ?_;refine vk (Aa) ?_;refine gf ?_;refine gf ?_;refine gf ?_;refine gf ?_;refine gf ?_;refine gf ?_;refine vk (AF) ?_;refine asd ?_;refine RL.gk [2] ?_;refine .nil ?_
  cases hz
  exact jr () trivial
 rintro _ _
 refine .ret ?_
 cases h
 exact ⟨rfl,rfl⟩
def EW (a0:Int) : Option (Bool):=(some (((decide (0≤a0))&&((decide (a0≤1114111))&&((decide (a0<55296))||(decide (57343<a0)))))))
theorem Kn {a0:Int} {r:Bool} (h:EW a0=some r) :
  Fn Tryz.prog 231 [.i .i32 a0] (.d (.b r)):=by
 unfold EW at h
 refine Fn.o1 2 17 Tryz.func231 ?_;refine .sr ?_;refine ar [0,2] ?_;refine .seq ?_;refine AW.mr (σ:=Unit) (fun _=>True) (fun _=>[(2,.d (.b ((decide (0≤a0))&&((decide (a0≤1114111))&&((decide (a0<55296))||(decide (57343<a0)))))))]) (fun _=>[]) ?_ ?_
 ·skip
  refine .region ?_;refine vk (Aa) ?_;refine vk (vbi) ?_
  by_cases hc:0≤a0
  ·have hb0:(decide (0≤a0))=true:=(dT hc)
   refine vk (VOK.lit (Aa) hb0) ?_;refine vk (Aa) ?_;refine vk (vbi) ?_;refine vk (AF) ?_
   by_cases hc:a0≤1114111
   ·have hb1:(decide (a0≤1114111))=true:=(dT hc)
    refine vk (VOK.lit (Aa) hb1) ?_;refine vk (Aa) ?_;refine vk (vbi) ?_
    by_cases hc:a0<55296
    ·have hb2:(decide (a0<55296))=true:=(dT hc)
     refine vk (VOK.lit (Aa) hb2) ?_;refine gf ?_;refine gf ?_;refine vk (AF) ?_;refine vk (AF) ?_;refine asd ?_;refine RL.gk [2] ?_;refine .nil ?_
     exact jr () trivial (by simp only [hb0,hb1,hb2];rfl)
    have hb2:(decide (a0<55296))=false:=(dF hc)
    refine vk (VOK.lit (Aa) hb2) ?_;refine vk (Aa) ?_;refine vk (vbi) ?_;refine vk (AF) ?_;refine vk (AF) ?_;refine asd ?_;refine RL.gk [2] ?_;refine .nil ?_
    exact jr () trivial (by simp only [hb0,hb1,hb2];rfl)
   have hb1:(decide (a0≤1114111))=false:=(dF hc)
   refine vk (VOK.lit (Aa) hb1) ?_;refine gf ?_;refine gf ?_;refine gfu ?_;refine gf ?_;refine gf ?_;refine gf ?_;refine vk (AF) ?_;refine asd ?_;refine RL.gk [2] ?_;refine .nil ?_
   exact jr () trivial (by simp only [hb0,hb1];rfl)
  have hb0:(decide (0≤a0))=false:=(dF hc)
  refine vk (VOK.lit (Aa) hb0) ?_;refine gf ?_;refine gf ?_;refine vk (AF) ?_;refine vk (Aa) ?_;refine gf ?_;refine gf ?_;refine gfu ?_;refine gf ?_;refine gf ?_;refine gf ?_;refine vk (AF) ?_;refine asd ?_;refine RL.gk [2] ?_;refine .nil ?_
  exact jr () trivial (by simp only [hb0];rfl)
 rintro _ _
 refine .ret ?_
 cases h
 exact ⟨rfl,rfl⟩
theorem VO : 0<AC Tryz.prog 3:=by rw [Fl];decide
def DM (a:(List Int)) : Option ((List Int)):=ap? 17592186044416 [] a
theorem FJ {a r:(List Int)} (h:DM a=some r) : Fn Tryz.prog 182 [.sl (Is a)] (.own 3 (Is r)):=by
 unfold DM at h
 refine Fn.o1 2 8 Tryz.func182 ?_;refine .sr ?_;refine asn ?_;refine rn ?_;refine .seq ?_;refine .sr ?_;refine mvd ?_
 refine nq (fun b hb=>?_) (DS _) Dw
 refine rn ?_
 refine cnd (fun hc=>?_) (fun hc=>?_)
 ·simp only [if_true] at hc
  have h0:Is a=[]:=by
   apply Classical.byContradiction
   intro h;rw [hb h] at hc;cases hc
  have h1:r=[]:=by
   have:=(Kt h).2
   rw [this,List.nil_append]
   exact List.length_eq_zero_iff.1 (by rw [← AB a,h0];rfl)
  subst h1
  refine .sr ?_;refine asn ?_;refine rn ?_;refine .gh (Gh.nlOwn (t:=2) 3 VO rfl) ?_;refine .ret ?_
  exact ⟨rfl,rfl⟩
 ·refine .skip ?_
  show AW _ _ _ _ _ _
  refine .sr ?_;refine vk (FS (ds':=Is []) rfl (IY []) FT) ?_;refine mvd ?_
  refine V0 NA h Ra ?_ Ld AB FT
  refine aso ?_;refine rn ?_;refine .ret ?_
  exact ⟨rfl,rfl⟩
def Cu (a0:RT) : Option (RT):=((DE a0.2.1).bind fun x1=>((DE a0.2.2).bind fun x2=>(some ((a0.1,x1,x2)))))
theorem Fk {a0:RT} {r:RT} (h:Cu a0=some r) :
  Fn Tryz.prog 157 [.ag [.b a0.1,.sl (L a0.2.1),.sl (L a0.2.2)]] (.d (.ag [.b r.1,.sl (L r.2.1),.sl (L r.2.2)])):=by
 unfold Cu at h
 refine Fn.ofC (rs:=[.cell 2 32]) (nt:=12) Tryz.func157 rfl rfl rfl (by simp) rfl ?_;refine .sr ?_;refine vk (vbx) ?_;refine vk (van (Ai DY) DX) ?_;refine rk [1,2] ?_;refine .seq ?_;refine .drawn 9 BN (by kernel_rfl) ?_;refine dv (vfa Dt) ?_;refine dv (As CK) ?_;refine dv (vfa DG) ?_;refine dv (As E0) ?_
 obtain ⟨x1,g1,h⟩:=bnd h
 refine dv ((Ar (Ee g1) Tryz.call215).deep) ?_;refine dv (vfa Gm) ?_;refine dv (As E0) ?_
 obtain ⟨x2,g2,h⟩:=bnd h
 refine dv ((Ar (Ee g2) Tryz.call215).deep) ?_;refine dv (vbd Jc DY DX) ?_;refine dz ?_
 refine stn ?_ AS (by decide)
 refine rk [2] ?_;refine .ret ?_
 cases h
 exact ⟨_,⟨.inr rfl,BI,AS,p3⟩,rfl⟩
def Ea (a0:RT) : Option (Itm):=((Cu a0).bind fun x1=>(some ((Itm.mk 1 x1 0 []))))
theorem Kd {a0:RT} {r:Itm} (h:Ea a0=some r) :
  Fn Tryz.prog 71 [.ag [.b a0.1,.sl (L a0.2.1),.sl (L a0.2.2)]] (.d (.ag [.i .u8 r.kind,.b r.num.1,.sl (L r.num.2.1),.sl (L r.num.2.2),.i .i32 r.char,.sl (Ars r.box)])):=by
 unfold Ea at h
 refine Fn.ofC (rs:=[.cell 2 83]) (nt:=6) Tryz.func71 rfl rfl rfl (by simp) rfl ?_;refine .sr ?_;refine vk (vbx) ?_;refine vk (van (Ai B6) B9) ?_;refine rk [1,2] ?_;refine .sr ?_;refine vk (AN BI AS) ?_
 obtain ⟨x1,g1,h⟩:=bnd h
 refine vk (Ar (Fk g1) Tryz.call157) ?_;refine vk (vbd Gy B6 B9) ?_
 refine stn ?_ Az (by decide)
 refine rk [2] ?_;refine .ret ?_
 cases h
 exact ⟨_,⟨.inr rfl,A8,Az,p6⟩,rfl⟩
def Ic (a0:Int) : Option (Itm):=(some ((Itm.mk 2 (false,[],[]) a0 [])))
theorem LR {a0:Int} {r:Itm} (h:Ic a0=some r) :
  Fn Tryz.prog 228 [.i .i32 a0] (.d (.ag [.i .u8 r.kind,.b r.num.1,.sl (L r.num.2.1),.sl (L r.num.2.2),.i .i32 r.char,.sl (Ars r.box)])):=by
 unfold Ic at h
 refine Fn.ofC (rs:=[.cell 2 83]) (nt:=5) Tryz.func228 rfl rfl rfl (by simp) rfl ?_;refine .sr ?_;refine vk (van (Ai B6) B9) ?_;refine rk [0,2] ?_;refine .sr ?_;refine vk (Aa) ?_;refine vk (vbd Gy B6 B9) ?_
 refine stn ?_ Az (by decide)
 refine rk [2] ?_;refine .ret ?_
 cases h
 exact ⟨_,⟨.inr rfl,A8,Az,p6⟩,rfl⟩
def B3 (a0:Arr) (a1:BS) (K0:(List Int)→(List Itm)→Option (Arr)) : Nat→Int→(List Int)→(List Itm)→Option (Arr)
 | 0,_,_,_=>none
 | k+1,s4,s5,s6=>(if s4<((List.length a0.items:Nat):Int) then ((rd? a0.items s4).bind fun x7=>((a1.g x7).bind fun x8=>((ap? 1466015503701 s6 [x8]).bind fun x9=>(B3 a0 a1 K0 k (w64 (s4+1)) s5 x9)))) else (K0 s5 s6))
def Ca (a0:Arr) (a1:BS) : Option (Arr):=((DM a0.shape).bind fun x1=>(jn (fun (z2:(List Int)) (z3:(List Itm))=>(some ((Arr.mk z2 z3)))) fun K0=>(B3 a0 a1 K0 A4 0 x1 [])))
theorem DD {a0:Arr} {a1:BS} (oa1:O0 a1) {r:Arr} (h:Ca a0 a1=some r) :
  Fn Tryz.prog 174 [.ag [.sl (Is a0.shape),.sl (Its a0.items)],a1.dv] (.d (.ag [.sl (Is r.shape),.sl (Its r.items)])):=by
 unfold Ca at h
 refine Fn.ofC (rs:=[.cell 4 25]) (nt:=29) Tryz.func174 rfl rfl rfl (by simp) rfl ?_;refine .sr ?_;refine vk (vbx) ?_;refine vk (van (Ai A1) A7) ?_;refine rk [1,2,4] ?_;refine .sr ?_;refine vk (vfa Cn) ?_;refine vk (As Dy) ?_
 obtain ⟨x1,g1,h⟩:=bnd h
 refine vk ((Ar (FJ g1) Tryz.call182).deep) ?_;refine vk (WA Ep A1 (fun w I μ=>QS w I μ)) ?_;refine vk (van (Ai A1) A7) ?_
 refine V4 ?_ Ad (by decide)
 refine rk [1,2,4,5] ?_;refine .seq ?_;refine .sr ?_;refine vk (vfa BH) ?_;refine vk (As DJ) ?_;refine vk (Cc (A0 _) (Ev _) Ej) ?_;refine vk (Aa) ?_;refine rk [1,4,5,13,14,15] ?_
 obtain ⟨K0,hK0,h⟩:=BU h
 refine AW.mr (σ:=(List Int)×(List Itm)) (fun p=>K0 p.1 p.2=some r) (fun p=>[(4,.nb [.sl (Is []),.sl (Its [])]),(5,.bp 0 0)]) (fun p=>[HO.box [.d (.sl (Is p.1)),.own 83 (Its p.2)]]) ?_ ?_
 ·skip
  refine .block ?_;refine .gh (Gh.nlOwnC (id:=0) (off:=1) 83 (by rw [Qh];decide)) ?_
  refine .loop (.gk [1,4,5,13,14,15] ?_)
  refine AL.ind (σ:=Nat×Int×(List Int)×(List Itm)) (m:=fun p=>p.1) (e:=fun p=>[(1,.d (a1.dv)),(4,.nb [.sl (Is []),.sl (Its [])]),(5,.bp 0 0),(13,.d (.sl (Its a0.items))),(14,.d (.i .i64 ((List.length a0.items:Nat):Int))),(15,.d (.i .i64 p.2.1))]) (h:=fun p=>[HO.box [.d (.sl (Is p.2.2.1)),.own 83 (Its p.2.2.2)]]) (I:=fun p=>B3 a0 a1 K0 p.1 p.2.1 p.2.2.1 p.2.2.2=some r) ?_ (A4,0,x1,[]) h
  rintro ⟨k,s4,s5,s6⟩ h ih
  dsimp only at h ih ⊢
  rcases k with _|k
  ·rw [B3] at h;cases h
  rw [B3] at h
  refine .sr ?_;refine vk (vbi) ?_;refine rk [1,4,5,13,14,15,16] ?_;refine .seq ?_
  rcases brc h with ⟨hc,h⟩|⟨hc,h⟩
  ·refine cnt (dT hc) ?_
   refine .skip ?_
   show AW _ _ _ _ _ _
   refine .seq ?_;refine .block ?_;refine .sr ?_
   obtain ⟨x7,g7,h⟩:=bnd h
   obtain ⟨n7,p07,q7⟩:=Av g7
   refine vk (vix n7 p07 (Eo q7) rfl D6) ?_;refine vk (AN A8 Az) ?_;refine vk (van (Ai B6) B9) ?_
   refine stn ?_ Az (by decide)
   refine rk [1,4,5,7,13,14,15] ?_;refine .drawn 6 BN (by kernel_rfl) ?_;refine dv (Kl BH) ?_;refine dv (QW (cs:=[.d (.sl (Is s5)),.own 83 (Its s6)]) rfl rfl DJ) ?_;refine dv (Aa) ?_;refine dv (GZ A8 Az) ?_
   obtain ⟨x8,g8,h⟩:=bnd h
   refine dv (Nn (oa1 _ _ g8)) ?_;refine dv ((FS (FA x8) (EH [x8]) D7).deep) ?_;refine dz ?_
   obtain ⟨x9,g9,h⟩:=bnd h
   refine Wn HN g9 rfl rfl Jk ?_ Gl A0 D7
   refine RL.gk [1,4,5,7,13,14,15,19,21,22,23,24,25] ?_;refine vk (Kl BH) ?_
   refine Rs (cs:=[.d (.sl (Is s5)),.un]) (c:=.un) rfl rfl ?_ Pz
   refine .nil ?_
   show AW _ _ _ _ _ _
   refine .gk [1,4,5,13,14,15] ?_;refine .region ?_;refine vk (vbi) ?_;refine vk (Aa) ?_;refine .nil ?_;refine AL.gk [1,4,5,13,14,15] ?_
   exact ih (k,(w64 (s4+1)),s5,x9) h (Nat.lt_succ_self _)
  refine cnf (dF hc) ?_;refine .gk [4,5] ?_;refine .exit ?_
  exact jr (s5,s6) h
 rintro ⟨z2,z3⟩ h
 try dsimp only at h ⊢
 subst hK0
 show AW _ _ _ _ _ _
 refine .sr ?_;refine fz (p:=.c 0 1) ?_;refine vk (N6 (cs:=[.d (.sl (Is z2)),.d (.sl (Its z3))]) (ds:=[.sl (Is z2),.sl (Its z3)]) rfl An Ad) ?_
 refine stn ?_ Ad (by decide)
 refine rk [4] ?_;refine .ret ?_
 cases h
 exact ⟨_,⟨.inr rfl,An,Ad,p2⟩,rfl⟩
def De (rc_array_same:Itm→Option (Itm)) (a0:Itm) (K0:Int→Bool→(List Nat)→(List Nat)→Int→(List Arr)→Option (Itm)) : Nat→Int→Int→Bool→(List Nat)→(List Nat)→Int→(List Arr)→Option (Itm)
 | 0,_,_,_,_,_,_,_=>none
 | k+1,s8,s9,s10,s11,s12,s13,s14=>(if s8<((List.length a0.box:Nat):Int) then ((rd? a0.box s8).bind fun x15=>((Ca x15 (⟨.fn 173 [] [],fun x=>rc_array_same x⟩:BS)).bind fun x16=>((ap? 2932031007402 s14 [x16]).bind fun x17=>(De rc_array_same a0 K0 k (w64 (s8+1)) s9 s10 s11 s12 s13 x17)))) else (K0 s9 s10 s11 s12 s13 s14))
def Hk (rc_array_same:Itm→Option (Itm)) (a0:Itm) : Option (Itm):=((Cu a0.num).bind fun x1=>(jn (fun (z2:Int) (z3:Bool) (z4:(List Nat)) (z5:(List Nat)) (z6:Int) (z7:(List Arr))=>(some ((Itm.mk z2 (z3,z4,z5) z6 z7)))) fun K0=>(De rc_array_same a0 K0 A4 0 a0.kind x1.1 x1.2.1 x1.2.2 a0.char [])))
theorem O6 {rc_array_same:Itm→Option (Itm)} (orc_array_same:∀ x0 r,rc_array_same x0=some r→Fn Tryz.prog 173 [.ag [.i .u8 x0.kind,.b x0.num.1,.sl (L x0.num.2.1),.sl (L x0.num.2.2),.i .i32 x0.char,.sl (Ars x0.box)]] (.d (.ag [.i .u8 r.kind,.b r.num.1,.sl (L r.num.2.1),.sl (L r.num.2.2),.i .i32 r.char,.sl (Ars r.box)]))) {a0:Itm} {r:Itm} (h:Hk rc_array_same a0=some r) :
  Fn Tryz.prog 173 [.ag [.i .u8 a0.kind,.b a0.num.1,.sl (L a0.num.2.1),.sl (L a0.num.2.2),.i .i32 a0.char,.sl (Ars a0.box)]] (.d (.ag [.i .u8 r.kind,.b r.num.1,.sl (L r.num.2.1),.sl (L r.num.2.2),.i .i32 r.char,.sl (Ars r.box)])):=by
 unfold Hk at h
 refine Fn.ofC (rs:=[.cell 2 83]) (nt:=30) Tryz.func173 rfl rfl rfl (by simp) rfl ?_;refine .sr ?_;refine vk (vbx) ?_;refine vk (van (Ai B6) B9) ?_;refine rk [1,2] ?_;refine .seq ?_;refine .drawn 9 BN (by kernel_rfl) ?_;refine dv (vfa Fm) ?_;refine dv (As Dc) ?_;refine dv (vfa Gf) ?_;refine dv (As E8) ?_;refine dv (vfa CY) ?_;refine dv (AN BI AS) ?_
 obtain ⟨x1,g1,h⟩:=bnd h
 refine dv (Ar (Fk g1) Tryz.call157) ?_;refine dv (WA Gy B6 (fun w I μ=>UN w I μ)) ?_;refine dv (van (Ai B6) B9) ?_;refine dz ?_
 refine V4 ?_ Az (by decide)
 refine rk [1,2,3] ?_;refine .seq ?_;refine .sr ?_;refine vk (vfa CN) ?_;refine vk (As EQ) ?_;refine vk (Cc (CF _) (GB _) GD) ?_;refine vk (Aa) ?_;refine rk [2,3,15,16,17] ?_
 obtain ⟨K0,hK0,h⟩:=BU h
 refine AW.mr (σ:=Int×Bool×(List Nat)×(List Nat)×Int×(List Arr)) (fun p=>K0 p.1 p.2.1 p.2.2.1 p.2.2.2.1 p.2.2.2.2.1 p.2.2.2.2.2=some r) (fun p=>[(2,.nb [.i .u8 0,.b false,.sl (L []),.sl (L []),.i .i32 0,.sl (Ars [])]),(3,.bp 0 0)]) (fun p=>[HO.box [.d (.i .u8 p.1),.d (.b p.2.1),.d (.sl (L p.2.2.1)),.d (.sl (L p.2.2.2.1)),.d (.i .i32 p.2.2.2.2.1),.own 25 (Ars p.2.2.2.2.2)]]) ?_ ?_
 ·skip
  refine .block ?_;refine .gh (Gh.nlOwnC (id:=0) (off:=5) 25 (by rw [Wy];decide)) ?_
  refine .loop (.gk [2,3,15,16,17] ?_)
  refine AL.ind (σ:=Nat×Int×Int×Bool×(List Nat)×(List Nat)×Int×(List Arr)) (m:=fun p=>p.1) (e:=fun p=>[(2,.nb [.i .u8 0,.b false,.sl (L []),.sl (L []),.i .i32 0,.sl (Ars [])]),(3,.bp 0 0),(15,.d (.sl (Ars a0.box))),(16,.d (.i .i64 ((List.length a0.box:Nat):Int))),(17,.d (.i .i64 p.2.1))]) (h:=fun p=>[HO.box [.d (.i .u8 p.2.2.1),.d (.b p.2.2.2.1),.d (.sl (L p.2.2.2.2.1)),.d (.sl (L p.2.2.2.2.2.1)),.d (.i .i32 p.2.2.2.2.2.2.1),.own 25 (Ars p.2.2.2.2.2.2.2)]]) (I:=fun p=>De rc_array_same a0 K0 p.1 p.2.1 p.2.2.1 p.2.2.2.1 p.2.2.2.2.1 p.2.2.2.2.2.1 p.2.2.2.2.2.2.1 p.2.2.2.2.2.2.2=some r) ?_ (A4,0,a0.kind,x1.1,x1.2.1,x1.2.2,a0.char,[]) h
  rintro ⟨k,s8,s9,s10,s11,s12,s13,s14⟩ h ih
  dsimp only at h ih ⊢
  rcases k with _|k
  ·rw [De] at h;cases h
  rw [De] at h
  refine .sr ?_;refine vk (vbi) ?_;refine rk [2,3,15,16,17,18] ?_;refine .seq ?_
  rcases brc h with ⟨hc,h⟩|⟨hc,h⟩
  ·refine cnt (dT hc) ?_
   refine .skip ?_
   show AW _ _ _ _ _ _
   refine .seq ?_;refine .block ?_;refine .sr ?_
   obtain ⟨x15,g15,h⟩:=bnd h
   obtain ⟨n15,p015,q15⟩:=Av g15
   refine vk (vix n15 p015 (GC q15) rfl GI) ?_;refine vk (AN An Ad) ?_;refine vk (van (Ai A1) A7) ?_
   refine stn ?_ Ad (by decide)
   refine rk [2,3,5,15,16,17] ?_;refine .drawn 5 BN (by kernel_rfl) ?_;refine dv (Kl CN) ?_;refine dv (QW (cs:=[.d (.i .u8 s9),.d (.b s10),.d (.sl (L s11)),.d (.sl (L s12)),.d (.i .i32 s13),.own 25 (Ars s14)]) rfl rfl EQ) ?_;refine dv (GZ An Ad) ?_
   obtain ⟨x16,g16,h⟩:=bnd h
   refine dv (Ar (DD (D5 Tryz.call173 (fun _ _ h=>orc_array_same _ _ h)) g16) Tryz.call174) ?_;refine dv ((FS (Ks x16) (Jb [x16]) Lb).deep) ?_;refine dz ?_
   obtain ⟨x17,g17,h⟩:=bnd h
   refine Wn UA g17 rfl rfl Wi ?_ QX CF Lb
   refine RL.gk [2,3,5,15,16,17,21,23,24,25,26] ?_;refine vk (Kl CN) ?_
   refine Rs (cs:=[.d (.i .u8 s9),.d (.b s10),.d (.sl (L s11)),.d (.sl (L s12)),.d (.i .i32 s13),.un]) (c:=.un) rfl rfl ?_ Vu
   refine .nil ?_
   show AW _ _ _ _ _ _
   refine .gk [2,3,15,16,17] ?_;refine .region ?_;refine vk (vbi) ?_;refine vk (Aa) ?_;refine .nil ?_;refine AL.gk [2,3,15,16,17] ?_
   exact ih (k,(w64 (s8+1)),s9,s10,s11,s12,s13,x17) h (Nat.lt_succ_self _)
  refine cnf (dF hc) ?_;refine .gk [2,3] ?_;refine .exit ?_
  exact jr (s9,s10,s11,s12,s13,s14) h
 rintro ⟨z2,z3,z4,z5,z6,z7⟩ h
 try dsimp only at h ⊢
 subst hK0
 show AW _ _ _ _ _ _
 refine .sr ?_;refine fz (p:=.c 0 5) ?_;refine vk (N6 (cs:=[.d (.i .u8 z2),.d (.b z3),.d (.sl (L z4)),.d (.sl (L z5)),.d (.i .i32 z6),.d (.sl (Ars z7))]) (ds:=[.i .u8 z2,.b z3,.sl (L z4),.sl (L z5),.i .i32 z6,.sl (Ars z7)]) rfl A8 Az) ?_
 refine stn ?_ Az (by decide)
 refine rk [2] ?_;refine .ret ?_
 cases h
 exact ⟨_,⟨.inr rfl,A8,Az,p6⟩,rfl⟩
def Eu : Nat→Itm→Option (Itm)
 | 0,_=>none
 | k+1,a0=>Hk (Eu k) a0
theorem II : ∀ (k:Nat) (a0:Itm) (r:Itm),Eu k a0=some r→Fn Tryz.prog 173 [.ag [.i .u8 a0.kind,.b a0.num.1,.sl (L a0.num.2.1),.sl (L a0.num.2.2),.i .i32 a0.char,.sl (Ars a0.box)]] (.d (.ag [.i .u8 r.kind,.b r.num.1,.sl (L r.num.2.1),.sl (L r.num.2.2),.i .i32 r.char,.sl (Ars r.box)]))
 | 0,_,_,h=>by cases h
 | k+1,a0,_,h=>O6 (II k) (show Hk (Eu k) a0=some _ from h)
def Fy (a0:Itm) : Option (Itm):=Eu (a0.size+1) a0
theorem Gp {a0:Itm} {r:Itm} (h:Fy a0=some r) : Fn Tryz.prog 173 [.ag [.i .u8 a0.kind,.b a0.num.1,.sl (L a0.num.2.1),.sl (L a0.num.2.2),.i .i32 a0.char,.sl (Ars a0.box)]] (.d (.ag [.i .u8 r.kind,.b r.num.1,.sl (L r.num.2.1),.sl (L r.num.2.2),.i .i32 r.char,.sl (Ars r.box)])):=II _ a0 r h
def FX (rc_array_typed:Itm→Option (Itm)) (a0:Itm) : Option (Itm):=(if a0.kind=1 then ((Dd 0).bind fun x1=>((Ea x1).bind fun x2=>(some (x2)))) else (if a0.kind=2 then ((Ic 32).bind fun x3=>(some (x3))) else ((rd? a0.box 0).bind fun x4=>((Ca x4 (⟨.fn 183 [] [],fun x=>rc_array_typed x⟩ : BS)).bind fun x5=>(some ((Itm.mk 3 (false,[],[]) 0 [x5])))))))
theorem MM {rc_array_typed:Itm→Option (Itm)} (orc_array_typed:∀ x0 r,rc_array_typed x0=some r→Fn Tryz.prog 183 [.ag [.i .u8 x0.kind,.b x0.num.1,.sl (L x0.num.2.1),.sl (L x0.num.2.2),.i .i32 x0.char,.sl (Ars x0.box)]] (.d (.ag [.i .u8 r.kind,.b r.num.1,.sl (L r.num.2.1),.sl (L r.num.2.2),.i .i32 r.char,.sl (Ars r.box)]))) {a0:Itm} {r:Itm} (h:FX rc_array_typed a0=some r) :
  Fn Tryz.prog 183 [.ag [.i .u8 a0.kind,.b a0.num.1,.sl (L a0.num.2.1),.sl (L a0.num.2.2),.i .i32 a0.char,.sl (Ars a0.box)]] (.d (.ag [.i .u8 r.kind,.b r.num.1,.sl (L r.num.2.1),.sl (L r.num.2.2),.i .i32 r.char,.sl (Ars r.box)])):=by
 unfold FX at h
 refine Fn.ofC (rs:=[.cell 2 83]) (nt:=19) Tryz.func183 rfl rfl rfl (by simp) rfl ?_;refine .sr ?_;refine vk (vbx) ?_;refine vk (van (Ai B6) B9) ?_;refine rk [1,2] ?_;refine .seq ?_;refine .sr ?_;refine vk (vfa Fm) ?_;refine vk (As Dc) ?_;refine rk [1,2,4] ?_;refine .block ?_;refine .sr ?_;refine vk (vbi) ?_;refine ar [1,2,4,5] ?_
 rcases brc h with ⟨hc,h⟩|⟨hc,h⟩
 ·refine cnt (dT hc) ?_
  refine .sr ?_
  obtain ⟨x1,g1,h⟩:=bnd h
  refine vk (Ar (CS g1) Tryz.call72) ?_
  obtain ⟨x2,g2,h⟩:=bnd h
  refine vk (Ar (Kd g2) Tryz.call71) ?_
  refine stn ?_ Az (by decide)
  refine rk [1,2] ?_;refine .ret ?_
  cases h
  exact ⟨_,⟨.inr rfl,A8,Az,p6⟩,rfl⟩
 refine cnf (dF hc) ?_;refine .sr ?_;refine vk (vbi) ?_;refine ar [1,2,9] ?_
 rcases brc h with ⟨hc,h⟩|⟨hc,h⟩
 ·refine cnt (dT hc) ?_
  refine .sr ?_
  obtain ⟨x3,g3,h⟩:=bnd h
  refine vk (Ar (LR g3) Tryz.call228) ?_
  refine stn ?_ Az (by decide)
  refine rk [1,2] ?_;refine .ret ?_
  cases h
  exact ⟨_,⟨.inr rfl,A8,Az,p6⟩,rfl⟩
 refine cnf (dF hc) ?_;refine .skip ?_
 show AW _ _ _ _ _ _
 refine .sr ?_;refine vk (vfa CN) ?_;refine vk (As EQ) ?_
 obtain ⟨x4,g4,h⟩:=bnd h
 obtain ⟨n4,p04,q4⟩:=Av g4
 refine vk (vix n4 p04 (GC q4) rfl GI) ?_;refine vk (AN An Ad) ?_
 obtain ⟨x5,g5,h⟩:=bnd h
 refine vk (Ar (DD (D5 Tryz.call183 (fun _ _ h=>orc_array_typed _ _ h)) g5) Tryz.call174) ?_;refine vk ((FS (Ks x5) (Jb [x5]) Lb).deep) ?_;refine vk (vbd Gy B6 B9) ?_
 refine stn ?_ Az (by decide)
 refine rk [2] ?_;refine .ret ?_
 cases h
 exact ⟨_,⟨.inr rfl,A8,Az,p6⟩,rfl⟩
def El : Nat→Itm→Option (Itm)
 | 0,_=>none
 | k+1,a0=>FX (El k) a0
theorem HZ : ∀ (k:Nat) (a0:Itm) (r:Itm),El k a0=some r→Fn Tryz.prog 183 [.ag [.i .u8 a0.kind,.b a0.num.1,.sl (L a0.num.2.1),.sl (L a0.num.2.2),.i .i32 a0.char,.sl (Ars a0.box)]] (.d (.ag [.i .u8 r.kind,.b r.num.1,.sl (L r.num.2.1),.sl (L r.num.2.2),.i .i32 r.char,.sl (Ars r.box)]))
 | 0,_,_,h=>by cases h
 | k+1,a0,_,h=>MM (HZ k) (show FX (El k) a0=some _ from h)
def IT (a0:Itm) : Option (Itm):=El (a0.size+1) a0
theorem J9 {a0:Itm} {r:Itm} (h:IT a0=some r) : Fn Tryz.prog 183 [.ag [.i .u8 a0.kind,.b a0.num.1,.sl (L a0.num.2.1),.sl (L a0.num.2.2),.i .i32 a0.char,.sl (Ars a0.box)]] (.d (.ag [.i .u8 r.kind,.b r.num.1,.sl (L r.num.2.1),.sl (L r.num.2.2),.i .i32 r.char,.sl (Ars r.box)])):=HZ _ a0 r h
def AX (a0:(List Int)) (a1:(List Int)) (K0:Bool→Option (Bool)) : Nat→Bool→Int→Option (Bool)
 | 0,_,_=>none
 | k+1,s2,s3=>(if s3<((List.length a0:Nat):Int) then ((rd? a0 s3).bind fun x4=>((rd? a1 s3).bind fun x5=>(if x4=x5 then (AX a0 a1 K0 k s2 (w64 (s3+1))) else (some (false))))) else (K0 s2))
def BX (a0:(List Int)) (a1:(List Int)) : Option (Bool):=(if ((List.length a0:Nat) : Int)=((List.length a1:Nat) : Int) then (jn (fun (z1:Bool)=>(some (true))) fun K0=>(AX a0 a1 K0 A4 false 0)) else (some (false)))
theorem F9 {a0:(List Int)} {a1:(List Int)} {r:Bool} (h:BX a0 a1=some r) :
  Fn Tryz.prog 109 [.sl (Is a0),.sl (Is a1)] (.d (.b r)):=by
 unfold BX at h
 refine Fn.o1 4 26 Tryz.func109 ?_;refine .sr ?_;refine ar [0,1,4] ?_;refine .seq ?_;refine .sr ?_;refine vk (Aa) ?_;refine vk (Cc (AB _) (DS _) Dw) ?_;refine vk (Aa) ?_;refine vk (Cc (AB _) (DS _) Dw) ?_;refine vk (vbi) ?_;refine rk [0,1,4,10] ?_
 rcases brc h with ⟨hc,h⟩|⟨hc,h⟩
 ·refine cnf (ntf (dT hc)) ?_
  refine .skip ?_
  show AW _ _ _ _ _ _
  refine .seq ?_;refine .sr ?_;refine vk (Aa) ?_;refine vk (Cc (AB _) (DS _) Dw) ?_;refine vk (Aa) ?_;refine rk [0,1,4,12,13] ?_
  obtain ⟨K0,hK0,h⟩:=BU h
  refine AW.mr (σ:=Bool) (fun p=>K0 p=some r) (fun p=>[(4,.d (.b p))]) (fun p=>[]) ?_ ?_
  ·skip
   refine .block ?_
   refine .loop (.gk [0,1,4,12,13] ?_)
   refine AL.ind (σ:=Nat×Bool×Int) (m:=fun p=>p.1) (e:=fun p=>[(0,.d (.sl (Is a0))),(1,.d (.sl (Is a1))),(4,.d (.b p.2.1)),(12,.d (.i .i64 ((List.length a0:Nat):Int))),(13,.d (.i .i64 p.2.2))]) (h:=fun p=>[]) (I:=fun p=>AX a0 a1 K0 p.1 p.2.1 p.2.2=some r) ?_ (A4,false,0) h
   rintro ⟨k,s2,s3⟩ h ih
   dsimp only at h ih ⊢
   rcases k with _|k
   ·rw [AX] at h;cases h
   rw [AX] at h
   refine .sr ?_;refine vk (vbi) ?_;refine rk [0,1,4,12,13,14] ?_;refine .seq ?_
   rcases brc h with ⟨hc,h⟩|⟨hc,h⟩
   ·refine cnt (dT hc) ?_
    refine .skip ?_
    show AW _ _ _ _ _ _
    refine .seq ?_;refine .block ?_;refine .sr ?_;refine vk (Aa) ?_;refine ar [0,1,4,5,12,13] ?_;refine .seq ?_;refine .drawn 9 BN (by kernel_rfl) ?_;refine dv (Aa) ?_;refine dv (Aa) ?_
    obtain ⟨x4,g4,h⟩:=bnd h
    obtain ⟨n4,p04,q4⟩:=Av g4
    refine dv (vix n4 p04 (Cv q4) rfl Cw) ?_;refine dv (As A9) ?_;refine dv (Aa) ?_;refine dv (Aa) ?_
    obtain ⟨x5,g5,h⟩:=bnd h
    obtain ⟨n5,p05,q5⟩:=Av g5
    refine dv (vix n5 p05 (Cv q5) rfl Cw) ?_;refine dv (As A9) ?_;refine dv (vbi) ?_;refine dz ?_;refine rk [0,1,4,12,13,24] ?_
    rcases brc h with ⟨hc,h⟩|⟨hc,h⟩
    ·refine cnf (ntf (dT hc)) ?_
     refine .skip ?_
     show AW _ _ _ _ _ _
     refine .region ?_;refine vk (vbi) ?_;refine vk (Aa) ?_;refine .nil ?_;refine AL.gk [0,1,4,12,13] ?_
     exact ih (k,s2,(w64 (s3+1))) h (Nat.lt_succ_self _)
    refine cnt (ntt (dF hc)) ?_;refine .sr ?_;refine ar [0,1,4,12,13] ?_;refine .ret ?_
    cases h
    exact ⟨rfl,rfl⟩
   refine cnf (dF hc) ?_;refine .gk [4] ?_;refine .exit ?_
   exact jr (s2) h
  rintro z1 h
  try dsimp only at h ⊢
  subst hK0
  show AW _ _ _ _ _ _
  refine .sr ?_;refine ar [4] ?_;refine .ret ?_
  cases h
  exact ⟨rfl,rfl⟩
 refine cnt (ntt (dF hc)) ?_;refine .sr ?_;refine ar [0,1,4] ?_;refine .ret ?_
 cases h
 exact ⟨rfl,rfl⟩
def Ag (a0:(List Itm)) (a1:(List Itm)) (a2:BK) (K0:Bool→Option (Bool)) : Nat→Bool→Int→Option (Bool)
 | 0,_,_=>none
 | k+1,s2,s3=>(if s3<((List.length a0:Nat):Int) then ((rd? a0 s3).bind fun x4=>((rd? a1 s3).bind fun x5=>((a2.g (x4,x5)).bind fun x6=>(if x6=true then (Ag a0 a1 a2 K0 k s2 (w64 (s3+1))) else (some (false)))))) else (K0 s2))
def Ap (a0:(List Itm)) (a1:(List Itm)) (a2:BK) : Option (Bool):=(if ((List.length a0:Nat) : Int)=((List.length a1:Nat) : Int) then (jn (fun (z1:Bool)=>(some (true))) fun K0=>(Ag a0 a1 a2 K0 A4 false 0)) else (some (false)))
theorem B0 {a0:(List Itm)} {a1:(List Itm)} {a2:BK} (oa2:Js a2) {r:Bool} (h:Ap a0 a1 a2=some r) :
  Fn Tryz.prog 110 [.sl (Its a0),.sl (Its a1),a2.dv] (.d (.b r)):=by
 unfold Ap at h
 refine Fn.o1 6 32 Tryz.func110 ?_;refine .sr ?_;refine ar [0,1,2,6] ?_;refine .seq ?_;refine .sr ?_;refine vk (Aa) ?_;refine vk (Cc (A0 _) (Ev _) Ej) ?_;refine vk (Aa) ?_;refine vk (Cc (A0 _) (Ev _) Ej) ?_;refine vk (vbi) ?_;refine rk [0,1,2,6,14] ?_
 rcases brc h with ⟨hc,h⟩|⟨hc,h⟩
 ·refine cnf (ntf (dT hc)) ?_
  refine .skip ?_
  show AW _ _ _ _ _ _
  refine .seq ?_;refine .sr ?_;refine vk (Aa) ?_;refine vk (Cc (A0 _) (Ev _) Ej) ?_;refine vk (Aa) ?_;refine rk [1,2,6,15,16,17] ?_
  obtain ⟨K0,hK0,h⟩:=BU h
  refine AW.mr (σ:=Bool) (fun p=>K0 p=some r) (fun p=>[(6,.d (.b p))]) (fun p=>[]) ?_ ?_
  ·skip
   refine .block ?_
   refine .loop (.gk [1,2,6,15,16,17] ?_)
   refine AL.ind (σ:=Nat×Bool×Int) (m:=fun p=>p.1) (e:=fun p=>[(1,.d (.sl (Its a1))),(2,.d (a2.dv)),(6,.d (.b p.2.1)),(15,.d (.sl (Its a0))),(16,.d (.i .i64 ((List.length a0:Nat):Int))),(17,.d (.i .i64 p.2.2))]) (h:=fun p=>[]) (I:=fun p=>Ag a0 a1 a2 K0 p.1 p.2.1 p.2.2=some r) ?_ (A4,false,0) h
   rintro ⟨k,s2,s3⟩ h ih
   dsimp only at h ih ⊢
   rcases k with _|k
   ·rw [Ag] at h;cases h
   rw [Ag] at h
   refine .sr ?_;refine vk (vbi) ?_;refine rk [1,2,6,15,16,17,18] ?_;refine .seq ?_
   rcases brc h with ⟨hc,h⟩|⟨hc,h⟩
   ·refine cnt (dT hc) ?_
    refine .skip ?_
    show AW _ _ _ _ _ _
    refine .seq ?_;refine .block ?_;refine .sr ?_;refine vk (Aa) ?_
    obtain ⟨x4,g4,h⟩:=bnd h
    obtain ⟨n4,p04,q4⟩:=Av g4
    refine vk (vix n4 p04 (Eo q4) rfl D6) ?_;refine vk (AN A8 Az) ?_;refine vk (van (Ai B6) B9) ?_;refine asd ?_
    refine stn ?_ Az (by decide)
    refine rk [1,2,6,7,8,15,16,17] ?_;refine .sr ?_;refine vk (Aa) ?_;refine vk (Aa) ?_
    obtain ⟨x5,g5,h⟩:=bnd h
    obtain ⟨n5,p05,q5⟩:=Av g5
    refine vk (vix n5 p05 (Eo q5) rfl D6) ?_;refine vk (AN A8 Az) ?_;refine vk (van (Ai B6) B9) ?_
    refine stn ?_ Az (by decide)
    refine rk [1,2,6,8,9,15,16,17] ?_;refine .sr ?_;refine vk (Aa) ?_;refine vk (GZ A8 Az) ?_;refine vk (GZ A8 Az) ?_
    obtain ⟨x6,g6,h⟩:=bnd h
    refine vk (Nn (oa2 _ _ g6)) ?_;refine vk (vnt) ?_;refine rk [1,2,6,15,16,17,30] ?_
    rcases brc h with ⟨hc,h⟩|⟨hc,h⟩
    ·refine cnf (ntf hc) ?_
     refine .skip ?_
     show AW _ _ _ _ _ _
     refine .region ?_;refine vk (vbi) ?_;refine vk (Aa) ?_;refine .nil ?_;refine AL.gk [1,2,6,15,16,17] ?_
     exact ih (k,s2,(w64 (s3+1))) h (Nat.lt_succ_self _)
    refine cnt (ntt (bf hc)) ?_;refine .sr ?_;refine ar [1,2,6,15,16,17] ?_;refine .ret ?_
    cases h
    exact ⟨rfl,rfl⟩
   refine cnf (dF hc) ?_;refine .gk [6] ?_;refine .exit ?_
   exact jr (s2) h
  rintro z1 h
  try dsimp only at h ⊢
  subst hK0
  show AW _ _ _ _ _ _
  refine .sr ?_;refine ar [6] ?_;refine .ret ?_
  cases h
  exact ⟨rfl,rfl⟩
 refine cnt (ntt (dF hc)) ?_;refine .sr ?_;refine ar [0,1,2,6] ?_;refine .ret ?_
 cases h
 exact ⟨rfl,rfl⟩
def Ae (a0:(List Arr)) (a1:(List Arr)) (a2:BM) (K0:Bool→Option (Bool)) : Nat→Bool→Int→Option (Bool)
 | 0,_,_=>none
 | k+1,s2,s3=>(if s3<((List.length a0:Nat):Int) then ((rd? a0 s3).bind fun x4=>((rd? a1 s3).bind fun x5=>((a2.g (x4,x5)).bind fun x6=>(if x6=true then (Ae a0 a1 a2 K0 k s2 (w64 (s3+1))) else (some (false)))))) else (K0 s2))
def Am (a0:(List Arr)) (a1:(List Arr)) (a2:BM) : Option (Bool):=(if ((List.length a0:Nat) : Int)=((List.length a1:Nat) : Int) then (jn (fun (z1:Bool)=>(some (true))) fun K0=>(Ae a0 a1 a2 K0 A4 false 0)) else (some (false)))
theorem BG {a0:(List Arr)} {a1:(List Arr)} {a2:BM} (oa2:Jf a2) {r:Bool} (h:Am a0 a1 a2=some r) :
  Fn Tryz.prog 113 [.sl (Ars a0),.sl (Ars a1),a2.dv] (.d (.b r)):=by
 unfold Am at h
 refine Fn.o1 6 32 Tryz.func113 ?_;refine .sr ?_;refine ar [0,1,2,6] ?_;refine .seq ?_;refine .sr ?_;refine vk (Aa) ?_;refine vk (Cc (CF _) (GB _) GD) ?_;refine vk (Aa) ?_;refine vk (Cc (CF _) (GB _) GD) ?_;refine vk (vbi) ?_;refine rk [0,1,2,6,14] ?_
 rcases brc h with ⟨hc,h⟩|⟨hc,h⟩
 ·refine cnf (ntf (dT hc)) ?_
  refine .skip ?_
  show AW _ _ _ _ _ _
  refine .seq ?_;refine .sr ?_;refine vk (Aa) ?_;refine vk (Cc (CF _) (GB _) GD) ?_;refine vk (Aa) ?_;refine rk [1,2,6,15,16,17] ?_
  obtain ⟨K0,hK0,h⟩:=BU h
  refine AW.mr (σ:=Bool) (fun p=>K0 p=some r) (fun p=>[(6,.d (.b p))]) (fun p=>[]) ?_ ?_
  ·skip
   refine .block ?_
   refine .loop (.gk [1,2,6,15,16,17] ?_)
   refine AL.ind (σ:=Nat×Bool×Int) (m:=fun p=>p.1) (e:=fun p=>[(1,.d (.sl (Ars a1))),(2,.d (a2.dv)),(6,.d (.b p.2.1)),(15,.d (.sl (Ars a0))),(16,.d (.i .i64 ((List.length a0:Nat):Int))),(17,.d (.i .i64 p.2.2))]) (h:=fun p=>[]) (I:=fun p=>Ae a0 a1 a2 K0 p.1 p.2.1 p.2.2=some r) ?_ (A4,false,0) h
   rintro ⟨k,s2,s3⟩ h ih
   dsimp only at h ih ⊢
   rcases k with _|k
   ·rw [Ae] at h;cases h
   rw [Ae] at h
   refine .sr ?_;refine vk (vbi) ?_;refine rk [1,2,6,15,16,17,18] ?_;refine .seq ?_
   rcases brc h with ⟨hc,h⟩|⟨hc,h⟩
   ·refine cnt (dT hc) ?_
    refine .skip ?_
    show AW _ _ _ _ _ _
    refine .seq ?_;refine .block ?_;refine .sr ?_;refine vk (Aa) ?_
    obtain ⟨x4,g4,h⟩:=bnd h
    obtain ⟨n4,p04,q4⟩:=Av g4
    refine vk (vix n4 p04 (GC q4) rfl GI) ?_;refine vk (AN An Ad) ?_;refine vk (van (Ai A1) A7) ?_;refine asd ?_
    refine stn ?_ Ad (by decide)
    refine rk [1,2,6,7,8,15,16,17] ?_;refine .sr ?_;refine vk (Aa) ?_;refine vk (Aa) ?_
    obtain ⟨x5,g5,h⟩:=bnd h
    obtain ⟨n5,p05,q5⟩:=Av g5
    refine vk (vix n5 p05 (GC q5) rfl GI) ?_;refine vk (AN An Ad) ?_;refine vk (van (Ai A1) A7) ?_
    refine stn ?_ Ad (by decide)
    refine rk [1,2,6,8,9,15,16,17] ?_;refine .sr ?_;refine vk (Aa) ?_;refine vk (GZ An Ad) ?_;refine vk (GZ An Ad) ?_
    obtain ⟨x6,g6,h⟩:=bnd h
    refine vk (Nn (oa2 _ _ g6)) ?_;refine vk (vnt) ?_;refine rk [1,2,6,15,16,17,30] ?_
    rcases brc h with ⟨hc,h⟩|⟨hc,h⟩
    ·refine cnf (ntf hc) ?_
     refine .skip ?_
     show AW _ _ _ _ _ _
     refine .region ?_;refine vk (vbi) ?_;refine vk (Aa) ?_;refine .nil ?_;refine AL.gk [1,2,6,15,16,17] ?_
     exact ih (k,s2,(w64 (s3+1))) h (Nat.lt_succ_self _)
    refine cnt (ntt (bf hc)) ?_;refine .sr ?_;refine ar [1,2,6,15,16,17] ?_;refine .ret ?_
    cases h
    exact ⟨rfl,rfl⟩
   refine cnf (dF hc) ?_;refine .gk [6] ?_;refine .exit ?_
   exact jr (s2) h
  rintro z1 h
  try dsimp only at h ⊢
  subst hK0
  show AW _ _ _ _ _ _
  refine .sr ?_;refine ar [6] ?_;refine .ret ?_
  cases h
  exact ⟨rfl,rfl⟩
 refine cnt (ntt (dF hc)) ?_;refine .sr ?_;refine ar [0,1,2,6] ?_;refine .ret ?_
 cases h
 exact ⟨rfl,rfl⟩
def E5 (rc_array_equal:Arr→Arr→Option (Bool)) (a0:Itm) (a1:Itm) : Option (Bool):=(if a0.kind=a1.kind then (Option.bind ((if a0.char=a1.char then (if (a0.num.1 == a1.num.1)=true then ((HJ a0.num.2.1 a1.num.2.1).bind fun x2=>(if x2=true then ((HJ a0.num.2.2 a1.num.2.2).bind fun x3=>(if x3=true then ((Am a0.box a1.box (⟨.fn 37 [] [],fun x=>rc_array_equal x.1 x.2⟩ : BM)).bind fun x4=>(some x4)) else (some false))) else (some false))) else (some false)) else (some false)) : Option (Bool)) fun (z1:Bool)=>(some (z1))) else (some (false)))
theorem Nj {rc_array_equal:Arr→Arr→Option (Bool)} (orc_array_equal:∀ x0 x1 r,rc_array_equal x0 x1=some r→Fn Tryz.prog 37 [.ag [.sl (Is x0.shape),.sl (Its x0.items)],.ag [.sl (Is x1.shape),.sl (Its x1.items)]] (.d (.b r))) {a0:Itm} {a1:Itm} {r:Bool} (h:E5 rc_array_equal a0 a1=some r) :
  Fn Tryz.prog 111 [.ag [.i .u8 a0.kind,.b a0.num.1,.sl (L a0.num.2.1),.sl (L a0.num.2.2),.i .i32 a0.char,.sl (Ars a0.box)],.ag [.i .u8 a1.kind,.b a1.num.1,.sl (L a1.num.2.1),.sl (L a1.num.2.2),.i .i32 a1.char,.sl (Ars a1.box)]] (.d (.b r)):=by
 unfold E5 at h
 refine Fn.o1 4 50 Tryz.func111 ?_;refine .sr ?_;refine vk (vbx) ?_;refine vk (vbx) ?_;refine ar [2,3,4] ?_;refine .seq ?_;refine .sr ?_;refine vk (vfa Fm) ?_;refine vk (As Dc) ?_;refine rk [2,3,4,6] ?_;refine .block ?_;refine .sr ?_;refine vk (vfa Fm) ?_;refine vk (As Dc) ?_;refine vk (vbi) ?_;refine ar [2,3,4,7] ?_
 rcases brc h with ⟨hc,h⟩|⟨hc,h⟩
 ·refine cnt (dT hc) ?_
  refine .seq ?_
  obtain ⟨z1,hz,h⟩:=bnd h
  refine AW.mr (σ:=Unit) (fun _=>True) (fun _=>[(4,.d (.b z1))]) (fun _=>[]) ?_ ?_
  ·skip
   refine .region ?_;refine vk (vfa Gf) ?_;refine vk (As E8) ?_;refine vk (vfa Gf) ?_;refine vk (As E8) ?_;refine vk (vbi) ?_
   rcases brc hz with ⟨hc,hz⟩|⟨hc,hz⟩
   ·have hb0:(decide (a0.char=a1.char))=true:=(dT hc)
    refine vk (VOK.lit (Aa) hb0) ?_;refine vk (vfa CY) ?_;refine vk (vfa Dt) ?_;refine vk (As CK) ?_;refine vk (vfa CY) ?_;refine vk (vfa Dt) ?_;refine vk (As CK) ?_;refine vk (VR (.inl rfl) bo) ?_;refine vk (AF) ?_
    rcases brc hz with ⟨hc,hz⟩|⟨hc,hz⟩
    ·have hb1:(a0.num.1 == a1.num.1)=true:=hc
     refine vk (VOK.lit (Aa) hb1) ?_;refine vk (vfa CY) ?_;refine vk (vfa DG) ?_;refine vk (As E0) ?_;refine vk (vfa CY) ?_;refine vk (vfa DG) ?_;refine vk (As E0) ?_
     obtain ⟨x2,g2,hz⟩:=bnd hz
     refine vk (Ar (Ie g2) Tryz.call112) ?_;refine vk (AF) ?_
     rcases brc hz with ⟨hc,hz⟩|⟨hc,hz⟩
     ·have hb2:x2=true:=hc
      refine vk (VOK.lit (Aa) hb2) ?_;refine vk (vfa CY) ?_;refine vk (vfa Gm) ?_;refine vk (As E0) ?_;refine vk (vfa CY) ?_;refine vk (vfa Gm) ?_;refine vk (As E0) ?_
      obtain ⟨x3,g3,hz⟩:=bnd hz
      refine vk (Ar (Ie g3) Tryz.call112) ?_;refine vk (AF) ?_
      rcases brc hz with ⟨hc,hz⟩|⟨hc,hz⟩
      ·have hb3:x3=true:=hc
       refine vk (VOK.lit (Aa) hb3) ?_;refine vk (vfa CN) ?_;refine vk (As EQ) ?_;refine vk (vfa CN) ?_;refine vk (As EQ) ?_
       obtain ⟨x4,g4,hz⟩:=bnd hz
       refine vk (Ar (BG (D5 Tryz.call37 (fun _ _ h=>orc_array_equal _ _ _ h)) g4) Tryz.call113) ?_;refine vk (AF) ?_;refine asd ?_;refine RL.gk [4] ?_;refine .nil ?_
       cases hz
       exact jr () trivial
      have hb3:x3=false:=(bf hc)
      refine vk (VOK.lit (Aa) hb3) ?_;refine gf ?_;refine gf ?_;refine gf ?_;refine gf ?_;refine gf ?_;refine vk (AF) ?_;refine asd ?_;refine RL.gk [4] ?_;refine .nil ?_
      cases hz
      exact jr () trivial
     have hb2:x2=false:=(bf hc)
     refine vk (VOK.lit (Aa) hb2) ?_;refine gf ?_;refine gf ?_;refine gf ?_;refine gf ?_;refine gf ?_;refine gf ?_;refine gf ?_;refine vk (AF) ?_;refine vk (Aa) ?_;refine gf ?_;refine gf ?_;refine gf ?_;refine gf ?_;refine gf ?_;refine vk (AF) ?_;refine asd ?_;refine RL.gk [4] ?_;refine .nil ?_
     cases hz
     exact jr () trivial
    have hb1:(a0.num.1 == a1.num.1)=false:=(bf hc)
    refine vk (VOK.lit (Aa) hb1) ?_;refine gf ?_;refine gf ?_;refine gf ?_;refine gf ?_;refine gf ?_;refine gf ?_;refine gf ?_;refine vk (AF) ?_;refine vk (Aa) ?_;refine gf ?_;refine gf ?_;refine gf ?_;refine gf ?_;refine gf ?_;refine gf ?_;refine gf ?_;refine vk (AF) ?_;refine vk (Aa) ?_;refine gf ?_;refine gf ?_;refine gf ?_;refine gf ?_;refine gf ?_;refine vk (AF) ?_;refine asd ?_;refine RL.gk [4] ?_;refine .nil ?_
    cases hz
    exact jr () trivial
   have hb0:(decide (a0.char=a1.char))=false:=(dF hc)
   refine vk (VOK.lit (Aa) hb0) ?_;refine gf ?_;refine gf ?_;refine gf ?_;refine gf ?_;refine gf ?_;refine gf ?_;refine gf ?_;refine vk (AF) ?_;refine vk (Aa) ?_;refine gf ?_;refine gf ?_;refine gf ?_;refine gf ?_;refine gf ?_;refine gf ?_;refine gf ?_;refine vk (AF) ?_;refine vk (Aa) ?_;refine gf ?_;refine gf ?_;refine gf ?_;refine gf ?_;refine gf ?_;refine gf ?_;refine gf ?_;refine vk (AF) ?_;refine vk (Aa) ?_;refine gf ?_;refine gf ?_;refine gf ?_;refine gf ?_;refine gf ?_;refine vk (AF) ?_;refine asd ?_;refine RL.gk [4] ?_;refine .nil ?_
   cases hz
   exact jr () trivial
  rintro _ _
  refine .ret ?_
  cases h
  exact ⟨rfl,rfl⟩
 refine cnf (dF hc) ?_;refine .skip ?_
 show AW _ _ _ _ _ _
 refine .sr ?_;refine ar [4] ?_;refine .ret ?_
 cases h
 exact ⟨rfl,rfl⟩
def F6 (rc_array_equal:Arr→Arr→Option (Bool)) (a0:Arr) (a1:Arr) : Option (Bool):=((BX a0.shape a1.shape).bind fun x1=>(Option.bind ((if x1=true then ((Ap a0.items a1.items (⟨.fn 111 [] [],fun x=>E5 rc_array_equal x.1 x.2⟩ : BK)).bind fun x3=>(some x3)) else (some false)) : Option (Bool)) fun (z1:Bool)=>(some (z1))))
theorem ND {rc_array_equal:Arr→Arr→Option (Bool)} (orc_array_equal:∀ x0 x1 r,rc_array_equal x0 x1=some r→Fn Tryz.prog 37 [.ag [.sl (Is x0.shape),.sl (Its x0.items)],.ag [.sl (Is x1.shape),.sl (Its x1.items)]] (.d (.b r))) {a0:Arr} {a1:Arr} {r:Bool} (h:F6 rc_array_equal a0 a1=some r) :
  Fn Tryz.prog 37 [.ag [.sl (Is a0.shape),.sl (Its a0.items)],.ag [.sl (Is a1.shape),.sl (Its a1.items)]] (.d (.b r)):=by
 unfold F6 at h
 refine Fn.o1 4 17 Tryz.func37 ?_;refine .sr ?_;refine vk (vbx) ?_;refine vk (vbx) ?_;refine ar [2,3,4] ?_;refine .seq ?_
 obtain ⟨x1,g1,h⟩:=bnd h
 obtain ⟨z1,hz,h⟩:=bnd h
 refine AW.mr (σ:=Unit) (fun _=>True) (fun _=>[(4,.d (.b z1))]) (fun _=>[]) ?_ ?_
 ·skip
  refine .region ?_;refine vk (vfa Cn) ?_;refine vk (As Dy) ?_;refine vk (vfa Cn) ?_;refine vk (As Dy) ?_;refine vk (Ar (F9 g1) Tryz.call109) ?_
  rcases brc hz with ⟨hc,hz⟩|⟨hc,hz⟩
  ·have hb0:x1=true:=hc
   refine vk (VOK.lit (Aa) hb0) ?_;refine vk (vfa BH) ?_;refine vk (As DJ) ?_;refine vk (vfa BH) ?_;refine vk (As DJ) ?_
   obtain ⟨x3,g3,hz⟩:=bnd hz
   refine vk (Ar (B0 (D5 Tryz.call111 (fun _ _ h=>Nj orc_array_equal h)) g3) Tryz.call110) ?_;refine vk (AF) ?_;refine asd ?_;refine RL.gk [4] ?_;refine .nil ?_
   cases hz
   exact jr () trivial
  have hb0:x1=false:=(bf hc)
  refine vk (VOK.lit (Aa) hb0) ?_;refine gf ?_;refine gf ?_;refine gf ?_;refine gf ?_;refine gf ?_;refine vk (AF) ?_;refine asd ?_;refine RL.gk [4] ?_;refine .nil ?_
  cases hz
  exact jr () trivial
 rintro _ _
 refine .ret ?_
 cases h
 exact ⟨rfl,rfl⟩
def DF : Nat→Arr→Arr→Option (Bool)
 | 0,_,_=>none
 | k+1,a0,a1=>F6 (DF k) a0 a1
theorem H6 : ∀ (k:Nat) (a0:Arr) (a1:Arr) (r:Bool),DF k a0 a1=some r→Fn Tryz.prog 37 [.ag [.sl (Is a0.shape),.sl (Its a0.items)],.ag [.sl (Is a1.shape),.sl (Its a1.items)]] (.d (.b r))
 | 0,_,_,_,h=>by cases h
 | k+1,a0,a1,_,h=>ND (H6 k) (show F6 (DF k) a0 a1=some _ from h)
def KU (a0:Arr) (a1:Arr) : Option (Bool):=DF (a0.size+1) a0 a1
theorem N0 {a0:Arr} {a1:Arr} {r:Bool} (h:KU a0 a1=some r) : Fn Tryz.prog 37 [.ag [.sl (Is a0.shape),.sl (Its a0.items)],.ag [.sl (Is a1.shape),.sl (Its a1.items)]] (.d (.b r)):=H6 _ a0 a1 r h
abbrev sg (b:Bool) (n:Nat) : Int:=if b=true then -(n:Int) else n
def ofQ (p:Rat) : RT:=(decide (p.num<0),Af p.num.natAbs,Af p.den)
def JQ (n:Nat) : Prop:=(Af n).length≤32
instance (n:Nat) : Decidable (JQ n):=inferInstanceAs (Decidable (_≤_))
def Ik (p:Rat) : Prop:=JQ p.num.natAbs∧JQ p.den
instance (p:Rat) : Decidable (Ik p):=inferInstanceAs (Decidable (_∧_))
theorem JE (b:Bool) (n:Nat) : (sg b n).natAbs=n:=by cases b<;>simp [sg]
theorem Wp (b:Bool) (n:Nat) : decide (sg b n<0)=(b&&decide (n≠0)):=by
 cases b with
 | false=>simp [sg]
 | true=>simp only [sg,if_true,Bool.true_and];apply decide_eq_decide.2;omega
abbrev q3 (p:Rat) : Q3:=(decide (p.num<0),p.num.natAbs,p.den)
theorem Gd {r:RT} : Be r=true↔∃ p,Ik p∧r=ofQ p:=by
 obtain ⟨b,n,d⟩:=r
 simp only [Be,Gu,decide_eq_true_eq]
 constructor
 ·rintro ⟨h1,h2,h3,h4,h5,h6,h7⟩
  have hd0:val d≠0:=fun h=>h5 (by rw [← h2,h,AR])
  refine ⟨⟨sg b (val n),val d,hd0,by rw [Nat.Coprime,JE];exact h7⟩,⟨?_,?_⟩,?_⟩
  ·show JQ (sg b (val n)).natAbs
   rw [JE,JQ,h1];exact h3
  ·show JQ (val d)
   rw [JQ,h2];exact h4
  ·simp only [ofQ,JE,h1,h2]
   rw [Wp]
   congr 1
   cases b with
   | false=>rfl
   | true =>
    have:n≠[]:=fun h=>by have:=h6 h;cases this
    have hn0:val n≠0:=fun h=>this (by rw [← h1,h,AR])
    simp [hn0]
 ·rintro ⟨p,⟨h1,h2⟩,h⟩
  simp only [ofQ,Prod.mk.injEq] at h
  obtain ⟨rfl,rfl,rfl⟩:=h
  refine ⟨by rw [AZ],by rw [AZ],h1,h2,?_,?_,?_⟩
  ·intro h
   have:=EX.1 h
   exact p.den_nz this
  ·intro h
   have:=EX.1 h
   exact dF (by omega)
  ·rw [AZ,AZ];exact p.reduced
theorem E2 {p:Rat} (h:Ik p) : Be (ofQ p)=true:=Gd.2 ⟨p,h,rfl⟩
theorem KT {k n:Nat} (h:(Af n).length≤k) : okL k (Af n)=true:=CL.2 ⟨Bb n,h⟩
theorem OU {k n:Nat} (h:JQ n) (hk:32≤k) : okL k (Af n)=true:=KT (nT h hk)
theorem Hf {p:Rat} (h:Ik p) : G4 (ofQ p)=true:=by
 simp only [G4,Bool.and_eq_true]
 exact ⟨OU h.1 (by decide),OU h.2 (by decide)⟩
theorem JF : Ik 0:=by
 have e0:Af 0=[]:=AR
 have e1:Af 1=[1]:=IV (n:=1) (by decide) (by decide)
 constructor
 ·show (Af 0).length≤32;rw [e0];decide
 ·show (Af 1).length≤32;rw [e1];decide
theorem NK : Af 1=[1]:=IV (n:=1) (by decide) (by decide)
theorem C4 {z:Int} (h1:-9223372036854775808≤z) (h2:z≤9223372036854775807) : w64 z=z:=Ip h1 h2
theorem UJ {α β:Type} {x:Option α} {a:α} {f:α→Option β} {r:Option β} (h:x=some a) (h2:f a=r) : x.bind f=r:=by rw [h];exact h2
theorem J5 {r:RT} (h:G4 r=true) : EF r=some (Be r):=if_pos h
def sm (k:Nat) (x:Q3) : Prop:=(Af x.2.1).length≤k∧(Af x.2.2).length≤k
theorem Ua {p:Rat} : (0:Int)<((List.length (ofQ p).2.1 : Nat) : Int)↔p≠0:=by
 show (0:Int)<(((Af p.num.natAbs).length:Nat):Int)↔_
 constructor
 ·rintro h rfl
  rw [show (0:Rat).num.natAbs=0 from rfl,AR] at h;simp at h
 ·intro h
  have:p.num≠0:=fun h2=>h (Rat.num_eq_zero.1 h2)
  have:Af p.num.natAbs≠[]:=fun h2=>this (by have:=EX.1 h2;omega)
  have:=List.length_pos_iff.2 this
  omega
theorem MT {z:Int} (h1:-9223372036854775808≤z) (h2:z≤9223372036854775807) : Dd z=some (ofQ z):=by
 have:Dd z=some (decide (z<0),Af z.natAbs,[1]):=if_pos ⟨h1,h2⟩
 rw [this]
 show _=some (decide (z<0),Af z.natAbs,Af 1)
 rw [NK]
theorem Tk {z:Int} (h1:-9223372036854775808≤z) (h2:z≤9223372036854775808) : Ik (z:Rat):=by
 constructor
 ·show (Af z.natAbs).length≤32
  exact nT (CA (k:=3) (by omega)) (by decide)
 ·show (Af 1).length≤32
  rw [NK];decide
mutual
def okI : Itm→Prop
 | .mk k n c b=>(0≤k∧k<256)∧G4 n=true∧(-2147483648≤c∧c<2147483648)∧b.length≤2932031007402∧okAs b
def okAr : Arr→Prop
 | .mk s i=>(∀ z∈s,-9223372036854775808≤z∧z≤9223372036854775807)∧s.length≤17592186044416∧i.length≤1466015503701∧okIs i
def okIs : List Itm→Prop
 | []=>True
 | x::xs=>okI x∧okIs xs
def okAs : List Arr→Prop
 | []=>True
 | x::xs=>okAr x∧okAs xs
end
theorem Og : ∀ {xs:List Itm},okIs xs↔∀ x∈xs,okI x
 | []=>by simp [okIs]
 | x::xs=>by simp [okIs,Og (xs:=xs)]
theorem NP : ∀ {xs:List Arr},okAs xs↔∀ x∈xs,okAr x
 | []=>by simp [okAs]
 | x::xs=>by simp [okAs,NP (xs:=xs)]
theorem DA (x:Itm) : okI x↔(0≤x.kind∧x.kind<256)∧G4 x.num=true∧(-2147483648≤x.char∧x.char<2147483648)∧x.box.length≤2932031007402∧∀ a∈x.box,okAr a:=by
 cases x;simp only [okI,NP,Itm.kind,Itm.num,Itm.char,Itm.box]
theorem AM (a:Arr) : okAr a↔(∀ z∈a.shape,-9223372036854775808≤z∧z≤9223372036854775807)∧a.shape.length≤17592186044416∧a.items.length≤1466015503701∧∀ x∈a.items,okI x:=by
 cases a;simp only [okAr,Og,Arr.shape,Arr.items]
theorem L8 : ∀ {xs:List Itm} {x:Itm},x∈xs→x.size≤itsSize xs
 | y::xs,x,h=>by
  rw [itsSize]
  rcases List.mem_cons.1 h with rfl|h
  ·omega
  ·have:=L8 h;omega
theorem OS : ∀ {xs:List Arr} {x:Arr},x∈xs→x.size≤arsSize xs
 | y::xs,x,h=>by
  rw [arsSize]
  rcases List.mem_cons.1 h with rfl|h
  ·omega
  ·have:=OS h;omega
theorem GN {a:Arr} {x:Itm} (h:x∈a.items) : x.size<a.size:=by
 cases a;have:=L8 (xs:=_) h;simp only [Arr.size,Arr.items] at *;omega
theorem Fj {x:Itm} {a:Arr} (h:a∈x.box) : a.size<x.size:=by
 cases x;have:=OS (xs:=_) h;simp only [Itm.size,Itm.box] at *;omega
theorem BE {n:Nat} (h:n≤140737488355328) : n<A4:=by unfold A4;omega
theorem BF {i:Nat} (h:i≤9223372036854775806) : w64 ((i:Int)+1)=((i+1:Nat) : Int):=by rw [C4 (by omega) (by omega)];omega
theorem Vp {α:Type} {xs:List α} {i:Nat} {x:α} (h:xs[i]?=some x) : rd? xs (i:Int)=some x:=by
 rw [rd?,if_pos (by omega)];simpa using h
theorem BT {α:Type} {xs:List α} {i:Nat} (h:i<xs.length) : rd? xs (i:Int)=some xs[i]:=Vp (lG h)
theorem GU {α:Type} {m:Nat} {xs ys:List α} (h:xs.length+ys.length≤m) : ap? m xs ys=some (xs++ys):=if_pos h
theorem LS {α:Type} {x:α} {xs:List α} : rd? (x::xs) 0=some x:=rfl
theorem JU {xs:List Int} {f:BP} {p:Int→Bool} (hf:∀ x∈xs,f.g x=some (p x)) (K:Int→Option Int) (hl:xs.length≤17592186044416) : ∀ (n i k:Nat) (s:Int),n=xs.length-i→i≤xs.length→n<k →
  AI xs f K k s (i:Int)=match (xs.drop i).findIdx? p with|some j=>some (((i+j:Nat)):Int)|none=>K s
 | n,i,0,s,_,_,h=>by omega
 | n,i,k+1,s,hn,hi,hk=>by
  rw [AI]
  by_cases hlt:i<xs.length
  ·rw [if_pos (by omega),BT hlt,oB,hf _ (List.getElem_mem _),oB,lC hlt,List.findIdx?_cons]
   by_cases hp:p xs[i]=true
   ·rw [if_pos hp,if_pos hp];rfl
   ·rw [if_neg hp,if_neg hp,BF (by omega),JU hf K hl (n-1) (i+1) k s (by omega) (by omega) (by omega)]
    cases (xs.drop (i+1)).findIdx? p with
    | none=>rfl
    | some j=>simp only [Option.map_some];congr 1;omega
  ·rw [if_neg (by omega),List.drop_of_length_le (by omega)];rfl
theorem GT {xs:List Int} {f:BP} {p:Int→Bool} (hf:∀ x∈xs,f.g x=some (p x)) (hl:xs.length≤17592186044416) : AQ xs f=some (xs.any p):=by
 unfold AQ BQ
 simp only [jn]
 have:=JU hf (fun _=>some (-1)) hl xs.length 0 A4 0 rfl (Nat.zero_le _) (BE (by omega))
 rw [List.drop_zero] at this
 rw [show ((0:Nat):Int)=0 from rfl] at this
 rw [this]
 cases h:xs.findIdx? p with
 | none =>
  rw [oB]
  rw [List.findIdx?_eq_none_iff] at h
  rw [show (xs.any p)=false by rw [List.any_eq_false];intro x hx;simp [h x hx]]
  rfl
 | some j =>
  rw [oB]
  rw [List.findIdx?_eq_some_iff_getElem] at h
  obtain ⟨hj,h1,_⟩:=h
  rw [show (xs.any p)=true by rw [List.any_eq_true];exact ⟨_,List.getElem_mem hj,h1⟩]
  simp
theorem IX {xs:List Int} {v:Int} (K:Int→Option Int) (hl:xs.length≤17592186044416) : ∀ (n i k:Nat) (s:Int),n=xs.length-i→i≤xs.length→n<k →
  AY xs v K k s (i:Int)=match (xs.drop i).findIdx? (fun x=>decide (v=x)) with|some j=>some (((i+j:Nat)):Int)|none=>K s
 | n,i,0,s,_,_,h=>by omega
 | n,i,k+1,s,hn,hi,hk=>by
  rw [AY]
  by_cases hlt:i<xs.length
  ·rw [if_pos (by omega),BT hlt,oB,lC hlt,List.findIdx?_cons]
   by_cases hp:v=xs[i]
   ·rw [if_pos hp,if_pos (dT hp)];rfl
   ·rw [if_neg hp,if_neg (by simp [hp]),BF (by omega),IX K hl (n-1) (i+1) k s (by omega) (by omega) (by omega)]
    cases (xs.drop (i+1)).findIdx? (fun x=>decide (v=x)) with
    | none=>rfl
    | some j=>simp only [Option.map_some];congr 1;omega
  ·rw [if_neg (by omega),List.drop_of_length_le (by omega)];rfl
theorem Oe {xs:List Int} {v:Int} (hl:xs.length≤17592186044416) : Bn xs v=some (decide (v∈xs)):=by
 unfold Bn Cy
 simp only [jn]
 have:=IX (v:=v) (fun _=>some (-1)) hl xs.length 0 A4 0 rfl (Nat.zero_le _) (BE (by omega))
 rw [List.drop_zero] at this
 rw [show ((0:Nat):Int)=0 from rfl] at this
 rw [this]
 cases h:xs.findIdx? (fun x=>decide (v=x)) with
 | none =>
  rw [oB]
  rw [List.findIdx?_eq_none_iff] at h
  rw [show decide (v∈xs)=false by rw [decide_eq_false_iff_not];intro hx;have:=h v hx;simp at this]
  rfl
 | some j =>
  rw [oB]
  rw [List.findIdx?_eq_some_iff_getElem] at h
  obtain ⟨hj,h1,_⟩:=h
  rw [show decide (v∈xs)=true by rw [decide_eq_true_eq];rw [decide_eq_true_eq] at h1;rw [h1];exact List.getElem_mem hj]
  simp
def Cs (s:List Int) : Int:=s.foldl (· * ·) 1
def szP (s:List Int) : Int×Int :=
 if 8<s.length then (0,4) else if s.any (fun n=>decide (n<0)) then (0,3) else if s.any (fun n=>decide (4096<n)) then (0,8) else if 0∈s then (0,0) else if Cs s≤4096 then (Cs s,0) else (0,8)
theorem HH (s:List Int) : ∀ n : Int,s.foldl (· * ·) n=n * s.foldl (· * ·) 1:=by
 induction s with
 | nil=>intro n;simp
 | cons x xs ih=>intro n;rw [List.foldl_cons,List.foldl_cons,ih (n * x),ih (1 * x),Int.one_mul,Int.mul_assoc]
theorem Mf {s:List Int} (h:∀ x∈s,1≤x) : 1≤Cs s:=by
 induction s with
 | nil=>exact Int.le_refl _
 | cons x xs ih =>
  have h1:=h x (by simp)
  have h2:=ih fun y hy=>h y (by simp [hy])
  unfold Cs at *
  rw [List.foldl_cons,HH,Int.one_mul]
  exact Int.le_trans (by omega:(1:Int)≤1 * 1) (Int.mul_le_mul h1 h2 (by omega) (by omega))
theorem Mo {s:List Int} (hl:s.length≤8) (hp:∀ x∈s,1≤x∧x≤4096) (K:Int→Int→Int→Option (Int×Int)) : ∀ (n i k:Nat) (a b m:Int),n=s.length-i→i≤s.length→n<k→1≤m→m≤4096 →
  CI s K k a b m (i:Int)=if m * Cs (s.drop i)≤4096 then K a b (m * Cs (s.drop i)) else some (0,8)
 | n,i,0,a,b,m,_,_,h,_,_=>by omega
 | n,i,k+1,a,b,m,hn,hi,hk,h1,h2=>by
  rw [CI]
  by_cases hlt:i<s.length
  ·rw [if_pos (by omega),BT hlt,oB,Fs,if_pos (by omega),oB,lC hlt]
   have hx:=hp s[i] (List.getElem_mem _)
   have hq0:0≤Int.tdiv 4096 m:=Int.tdiv_nonneg (by omega) (by omega)
   have hq1:Int.tdiv 4096 m≤4096:=by rw [Int.tdiv_eq_ediv_of_nonneg (by omega)];exact Int.ediv_le_self _ (by omega)
   rw [C4 (by omega) (by omega)]
   have hpos:1≤Cs (s.drop (i+1)):=Mf fun x hx=>(hp x (List.mem_of_mem_drop hx)).1
   have hprod:Cs (s[i]::s.drop (i+1))=s[i] * Cs (s.drop (i+1)):=by unfold Cs;rw [List.foldl_cons,HH,Int.one_mul]
   have hdiv:Int.tdiv 4096 m<s[i]↔4096<m * s[i]:=by
    rw [Int.tdiv_eq_ediv_of_nonneg (by omega),Int.ediv_lt_iff_lt_mul (by omega),Int.mul_comm]
   rw [hprod,← Int.mul_assoc]
   by_cases hc:4096<m * s[i]
   ·rw [if_pos (hdiv.2 hc),if_neg]
    have:m * s[i] * 1≤m * s[i] * Cs (s.drop (i+1)):=Int.mul_le_mul_of_nonneg_left hpos (by omega)
    omega
   ·have hm1:1≤m * s[i]:=Int.le_trans (by omega:(1:Int)≤1 * 1) (Int.mul_le_mul h1 hx.1 (by omega) (by omega))
    rw [if_neg (fun h=>hc (hdiv.1 h)),BF (by omega),C4 (by omega) (by omega)]
    exact Mo hl hp K (n-1) (i+1) k a b (m * s[i]) (by omega) (by omega) (by omega) hm1 (by omega)
  ·rw [if_neg (by omega),List.drop_of_length_le (by omega)]
   rw [show Cs []=1 from rfl,Int.mul_one,if_pos h2]
theorem GF {s:List Int} (hl:s.length≤17592186044416) : CU s=some (szP s):=by
 unfold CU szP
 by_cases h8:8<s.length
 ·rw [if_pos (by omega),if_pos h8]
 rw [if_neg (by omega),if_neg h8]
 rw [GT (p:=fun n=>decide (n<0)) (fun x _=>rfl) hl,oB]
 by_cases h0:s.any (fun n=>decide (n<0))=true
 ·rw [if_pos h0,if_pos h0]
 rw [if_neg h0,if_neg h0]
 rw [GT (p:=fun n=>decide (4096<n)) (fun x _=>rfl) hl,oB]
 by_cases h1:s.any (fun n=>decide (4096<n))=true
 ·rw [if_pos h1,if_pos h1]
 rw [if_neg h1,if_neg h1,Oe hl,oB]
 by_cases h2:0∈s
 ·rw [if_pos (dT h2),if_pos h2]
 rw [if_neg (by simp [h2]),if_neg h2]
 have hp:∀ x∈s,1≤x∧x≤4096:=fun x hx=>by
  simp only [List.any_eq_true,decide_eq_true_eq,not_exists,not_and] at h0 h1
  have a:=h0 x hx
  have b:=h1 x hx
  have c:x≠0:=fun e=>h2 (e▸hx)
  omega
 have:=Mo (by omega) hp (fun z4 z5 z6=>some (z6,0)) s.length 0 A4 0 0 1 rfl (Nat.zero_le _) (BE (by omega)) (by omega) (by omega)
 rw [List.drop_zero,Int.one_mul,show ((0:Nat):Int)=0 from rfl] at this
 simp only [jn]
 rw [this]
 split<;>rfl
theorem Et (s:List Int) : 0≤(szP s).1∧(szP s).1≤4096:=by
 unfold szP
 split
 ·exact ⟨by decide,by decide⟩
 split
 ·exact ⟨by decide,by decide⟩
 split
 ·exact ⟨by decide,by decide⟩
 split
 ·exact ⟨by decide,by decide⟩
 split
 ·rename_i h8 h0 h1 h2 h3
  refine ⟨?_,h3⟩
  have:1≤Cs s:=Mf fun x hx=>by
   simp only [List.any_eq_true,decide_eq_true_eq,not_exists,not_and] at h0 h1
   have a:=h0 x hx
   have c:x≠0:=fun e=>h2 (e▸hx)
   omega
  omega
 ·exact ⟨by decide,by decide⟩
def Tells (x:Option Bool) (p:Prop) : Prop:=∃ r,x=some r∧(r=true↔p)
theorem Tells.of {x:Option Bool} {p q:Prop} (h:Tells x p) (e:p↔q) : Tells x q:=by
 obtain ⟨r,h1,h2⟩:=h;exact ⟨r,h1,h2.trans e⟩
theorem Tells.yes {x:Option Bool} {p:Prop} (h:Tells x p) (hp:p) : x=some true:=by
 obtain ⟨r,h1,h2⟩:=h;rw [h1,h2.2 hp]
theorem Tells.no {x:Option Bool} {p:Prop} (h:Tells x p) (hp:¬p) : x=some false:=by
 obtain ⟨r,h1,h2⟩:=h
 cases r with
 | true=>exact absurd (h2.1 rfl) hp
 | false=>exact h1
theorem Ds {α β:Type} (k:α) (b:α→β) : jn k b=b k:=rfl
theorem HP {s:List Int} (h:s.length≤17592186044416) : DM s=some s:=by unfold DM;rw [GU (by simpa using h),List.nil_append]
theorem I9 {r:RT} (h:G4 r=true) : Cu r=some r:=by
 have h1:=IB.1 h
 unfold Cu
 rw [DE,if_pos h1.2.2.1,oB,DE,if_pos h1.2.2.2,oB]
theorem Oz {r:RT} (h:G4 r=true) : Ea r=some (.mk 1 r 0 []):=by
 unfold Ea;rw [I9 h,oB]
theorem JZ {a:Arr} {f:BS} {h:Itm→Itm} (hf:∀ x∈a.items,f.g x=some (h x)) (K:List Int→List Itm→Option Arr) (hl:a.items.length≤1466015503701) : ∀ (n i k:Nat) (s:List Int) (t:List Itm),n=a.items.length-i→i≤a.items.length→n<k→t.length=i →
  B3 a f K k (i:Int) s t=K s (t++(a.items.drop i).map h)
 | n,i,0,s,t,_,_,h,_=>by omega
 | n,i,k+1,s,t,hn,hi,hk,ht=>by
  rw [B3]
  by_cases hlt:i<a.items.length
  ·rw [if_pos (by omega),BT hlt,oB,hf _ (List.getElem_mem _),oB,GU (by simp;omega),oB,BF (by omega),
    JZ hf K hl (n-1) (i+1) k s _ (by omega) (by omega) (by omega) (by simp [ht]),lC hlt,List.map_cons,List.append_assoc]
   rfl
  ·rw [if_neg (by omega),List.drop_of_length_le (by omega)];simp
theorem Ju {a:Arr} {f:BS} {h:Itm→Itm} (hf:∀ x∈a.items,f.g x=some (h x)) (hs:a.shape.length≤17592186044416) (hl:a.items.length≤1466015503701) : Ca a f=some (.mk a.shape (a.items.map h)):=by
 unfold Ca
 rw [HP hs,oB]
 simp only [jn]
 have:=JZ hf (fun z2 z3=>some (Arr.mk z2 z3)) hl a.items.length 0 A4 a.shape [] rfl (Nat.zero_le _) (BE (by omega)) rfl
 rw [List.drop_zero,show ((0:Nat):Int)=0 from rfl,List.nil_append] at this
 exact this
theorem KR {rc:Itm→Option Itm} {x:Itm} (hb:∀ a∈x.box,okAr a) (hrc:∀ a∈x.box,∀ y∈a.items,rc y=some y) (K:Int→Bool→List Nat→List Nat→Int→List Arr→Option Itm) (hl:x.box.length≤2932031007402) : ∀ (n i k:Nat) (s1:Int) (s2:Bool) (s3 s4:List Nat) (s5:Int) (t:List Arr),n=x.box.length-i→i≤x.box.length→n<k→t.length=i →
  De rc x K k (i:Int) s1 s2 s3 s4 s5 t=K s1 s2 s3 s4 s5 (t++x.box.drop i)
 | n,i,0,s1,s2,s3,s4,s5,t,_,_,h,_=>by omega
 | n,i,k+1,s1,s2,s3,s4,s5,t,hn,hi,hk,ht=>by
  rw [De]
  by_cases hlt:i<x.box.length
  ·have hm:=List.getElem_mem hlt
   have ho:=(AM _).1 (hb _ hm)
   have hc:=Ju (a:=x.box[i]) (f:=⟨.fn 173 [] [],fun x=>rc x⟩) (h:=id) (fun y hy=>hrc _ hm y hy) ho.2.1 ho.2.2.1
   rw [List.map_id,Arr.eta] at hc
   rw [if_pos (by omega),BT hlt,oB,hc,oB,GU (by simp;omega),oB,BF (by omega),
    KR hb hrc K hl (n-1) (i+1) k s1 s2 s3 s4 s5 _ (by omega) (by omega) (by omega) (by simp [ht]),lC hlt,List.append_assoc]
   rfl
  ·rw [if_neg (by omega),List.drop_of_length_le (by omega)];simp
theorem Mm : ∀ (k:Nat) {x:Itm},x.size<k→okI x→Eu k x=some x
 | 0,x,h,_=>by omega
 | k+1,x,h,ho=>by
  have h1:=(DA x).1 ho
  rw [Eu,Hk,I9 h1.2.1,oB]
  simp only [jn]
  have:=KR (rc:=Eu k) (x:=x) h1.2.2.2.2 (fun a ha y hy=>Mm k (by have:=Fj ha;have:=GN hy;omega) (((AM a).1 (h1.2.2.2.2 a ha)).2.2.2 y hy))
   (fun z2 z3 z4 z5 z6 z7=>some (Itm.mk z2 (z3,z4,z5) z6 z7)) h1.2.2.2.1 x.box.length 0 A4 x.kind x.num.1 x.num.2.1 x.num.2.2 x.char [] rfl (Nat.zero_le _) (BE (by omega)) rfl
  rw [List.drop_zero,show ((0:Nat):Int)=0 from rfl,List.nil_append] at this
  rw [this]
  exact congrArg some (Itm.eta x)
theorem JA {x:Itm} (h:okI x) : Fy x=some x:=Mm _ (Nat.lt_succ_self _) h
theorem JO {a:Arr} (h:okAr a) : Ca a (⟨.fn 173 [] [],fun x=>Fy x⟩ : BS)=some a:=by
 have ho:=(AM a).1 h
 have:=Ju (a:=a) (f:=⟨.fn 173 [] [],fun x=>Fy x⟩) (h:=id) (fun y hy=>JA (ho.2.2.2 y hy)) ho.2.1 ho.2.2.1
 rwa [List.map_id,Arr.eta] at this
theorem HU {a b:List Int} (hab:a.length=b.length) (K:Bool→Option Bool) (hl:a.length≤17592186044416) : ∀ (n i k:Nat) (s:Bool),n=a.length-i→i≤a.length→n<k →
  AX a b K k s (i:Int)=if a.drop i=b.drop i then K s else some false
 | n,i,0,s,_,_,h=>by omega
 | n,i,k+1,s,hn,hi,hk=>by
  rw [AX]
  by_cases hlt:i<a.length
  ·rw [if_pos (by omega),BT hlt,oB,BT (by omega:i<b.length),oB,lC hlt,lC (by omega:i<b.length)]
   by_cases hc:a[i]=b[i]
   ·rw [if_pos hc,BF (by omega),HU hab K hl (n-1) (i+1) k s (by omega) (by omega) (by omega)]
    simp only [hc,List.cons.injEq,true_and]
   ·rw [if_neg hc,if_neg (fun h=>hc (List.cons.inj h).1)]
  ·rw [if_neg (by omega),List.drop_of_length_le (by omega),List.drop_of_length_le (by omega),if_pos rfl]
theorem Sz {a b:List Int} (hl:a.length≤17592186044416) : BX a b=some (decide (a=b)):=by
 unfold BX
 by_cases hab:a.length=b.length
 ·rw [if_pos (by omega)]
  simp only [jn]
  have:=HU hab (fun _=>some true) hl a.length 0 A4 false rfl (Nat.zero_le _) (BE (by omega))
  rw [List.drop_zero,List.drop_zero,show ((0:Nat):Int)=0 from rfl] at this
  rw [this]
  by_cases h:a=b<;>simp [h]
 ·rw [if_neg (by omega)]
  rw [dF fun h=>hab (by rw [h])]
theorem JL {a b:List Itm} {f:BK} (hf:∀ x∈a,∀ y∈b,Tells (f.g (x,y)) (x=y)) (hab:a.length=b.length) (K:Bool→Option Bool) (hK:∀ s,K s=some true) (hl:a.length≤17592186044416) : ∀ (n i k:Nat) (s:Bool),n=a.length-i→i≤a.length→n<k →
  Tells (Ag a b f K k s (i:Int)) (a.drop i=b.drop i)
 | n,i,0,s,_,_,h=>by omega
 | n,i,k+1,s,hn,hi,hk=>by
  rw [Ag]
  by_cases hlt:i<a.length
  ·have hlt2:i<b.length:=by omega
   rw [if_pos (by omega),BT hlt,oB,BT hlt2,oB,lC hlt,lC hlt2]
   obtain ⟨r,h1,h2⟩:=hf _ (List.getElem_mem hlt) _ (List.getElem_mem hlt2)
   rw [h1,oB]
   by_cases hc:r=true
   ·rw [if_pos hc,BF (by omega)]
    refine (JL hf hab K hK hl (n-1) (i+1) k s (by omega) (by omega) (by omega)).of ?_
    rw [List.cons.injEq];exact ⟨fun h=>⟨h2.1 hc,h⟩,fun h=>h.2⟩
   ·rw [if_neg hc]
    exact ⟨false,rfl,⟨nofun,fun h=>absurd (h2.2 (List.cons.inj h).1) hc⟩⟩
  ·rw [if_neg (by omega),List.drop_of_length_le (by omega),List.drop_of_length_le (by omega),hK];exact ⟨true,rfl,by simp⟩
theorem VD {a b:List Itm} {f:BK} (hf:∀ x∈a,∀ y∈b,Tells (f.g (x,y)) (x=y)) (hl:a.length≤17592186044416) : Tells (Ap a b f) (a=b):=by
 unfold Ap
 by_cases hab:a.length=b.length
 ·rw [if_pos (by omega)]
  simp only [jn]
  have:=JL hf hab (fun _=>some true) (fun _=>rfl) hl a.length 0 A4 false rfl (Nat.zero_le _) (BE (by omega))
  rw [List.drop_zero,List.drop_zero,show ((0:Nat):Int)=0 from rfl] at this
  exact this
 ·rw [if_neg (by omega)]
  exact ⟨false,rfl,by simp;intro h;exact hab (by rw [h])⟩
theorem J7 {a b:List Arr} {f:BM} (hf:∀ x∈a,∀ y∈b,Tells (f.g (x,y)) (x=y)) (hab:a.length=b.length) (K:Bool→Option Bool) (hK:∀ s,K s=some true) (hl:a.length≤17592186044416) : ∀ (n i k:Nat) (s:Bool),n=a.length-i→i≤a.length→n<k →
  Tells (Ae a b f K k s (i:Int)) (a.drop i=b.drop i)
 | n,i,0,s,_,_,h=>by omega
 | n,i,k+1,s,hn,hi,hk=>by
  rw [Ae]
  by_cases hlt:i<a.length
  ·have hlt2:i<b.length:=by omega
   rw [if_pos (by omega),BT hlt,oB,BT hlt2,oB,lC hlt,lC hlt2]
   obtain ⟨r,h1,h2⟩:=hf _ (List.getElem_mem hlt) _ (List.getElem_mem hlt2)
   rw [h1,oB]
   by_cases hc:r=true
   ·rw [if_pos hc,BF (by omega)]
    refine (J7 hf hab K hK hl (n-1) (i+1) k s (by omega) (by omega) (by omega)).of ?_
    rw [List.cons.injEq];exact ⟨fun h=>⟨h2.1 hc,h⟩,fun h=>h.2⟩
   ·rw [if_neg hc]
    exact ⟨false,rfl,⟨nofun,fun h=>absurd (h2.2 (List.cons.inj h).1) hc⟩⟩
  ·rw [if_neg (by omega),List.drop_of_length_le (by omega),List.drop_of_length_le (by omega),hK];exact ⟨true,rfl,by simp⟩
theorem VA {a b:List Arr} {f:BM} (hf:∀ x∈a,∀ y∈b,Tells (f.g (x,y)) (x=y)) (hl:a.length≤17592186044416) : Tells (Am a b f) (a=b):=by
 unfold Am
 by_cases hab:a.length=b.length
 ·rw [if_pos (by omega)]
  simp only [jn]
  have:=J7 hf hab (fun _=>some true) (fun _=>rfl) hl a.length 0 A4 false rfl (Nat.zero_le _) (BE (by omega))
  rw [List.drop_zero,List.drop_zero,show ((0:Nat):Int)=0 from rfl] at this
  exact this
 ·rw [if_neg (by omega)]
  exact ⟨false,rfl,by simp;intro h;exact hab (by rw [h])⟩
mutual
def smI : Itm→Prop
 | .mk _ n _ b=>okL 1048576 n.2.1=true∧okL 1048576 n.2.2=true∧smAs b
def smA : Arr→Prop
 | .mk _ i=>smIs i
def smIs : List Itm→Prop
 | []=>True
 | x::xs=>smI x∧smIs xs
def smAs : List Arr→Prop
 | []=>True
 | x::xs=>smA x∧smAs xs
end
theorem NG : ∀ {xs:List Itm},smIs xs↔∀ x∈xs,smI x
 | []=>by simp [smIs]
 | x::xs=>by simp [smIs,NG (xs:=xs)]
theorem OO : ∀ {xs:List Arr},smAs xs↔∀ x∈xs,smA x
 | []=>by simp [smAs]
 | x::xs=>by simp [smAs,OO (xs:=xs)]
theorem Nf (x:Itm) : smI x↔okL 1048576 x.num.2.1=true∧okL 1048576 x.num.2.2=true∧∀ a∈x.box,smA a:=by cases x;simp only [smI,OO,Itm.num,Itm.box]
theorem Ny (a:Arr) : smA a↔∀ x∈a.items,smI x:=by cases a;simp only [smA,NG,Arr.items]
theorem Itm.ext_iff' (x y:Itm) : x=y↔x.kind=y.kind∧x.char=y.char∧x.num=y.num∧x.box=y.box:=by
 cases x;cases y;simp only [Itm.mk.injEq,Itm.kind,Itm.char,Itm.num,Itm.box]
 constructor
 ·rintro ⟨a,b,c,d⟩;exact ⟨a,c,b,d⟩
 ·rintro ⟨a,b,c,d⟩;exact ⟨a,c,b,d⟩
theorem Arr.ext_iff' (x y:Arr) : x=y↔x.shape=y.shape∧x.items=y.items:=by cases x;cases y;simp only [Arr.mk.injEq,Arr.shape,Arr.items]
theorem R4 {rc:Arr→Arr→Option Bool} {x y:Itm} (hx:okI x) (hy:okI y) (hs:smI x) (hrc:∀ a∈x.box,∀ b∈y.box,Tells (rc a b) (a=b)) : Tells (E5 rc x y) (x=y):=by
 have ox:=(DA x).1 hx
 have oy:=IB.1 ((DA y).1 hy).2.1
 have sx:=(Nf x).1 hs
 have yl:okL 35184372087808 y.num.2.1=true∧okL 35184372087808 y.num.2.2=true:=⟨CL.2 ⟨oy.1,oy.2.2.1⟩,CL.2 ⟨oy.2.1,oy.2.2.2⟩⟩
 unfold E5
 rw [Itm.ext_iff']
 by_cases h1:x.kind=y.kind
 rotate_left
 ·rw [if_neg h1];exact ⟨false,rfl,by simp [h1]⟩
 rw [if_pos h1]
 by_cases h2:x.char=y.char
 rotate_left
 ·rw [if_neg h2];exact ⟨false,rfl,by simp [h2]⟩
 rw [if_pos h2]
 by_cases h3:(x.num.1 == y.num.1)=true
 rotate_left
 ·rw [if_neg h3];exact ⟨false,rfl,by simp;intro _ _ h;simp [h] at h3⟩
 rw [if_pos h3,HJ,if_pos (by rw [sx.1,yl.1];rfl),oB]
 by_cases h4:x.num.2.1=y.num.2.1
 rotate_left
 ·rw [if_neg (by simpa using h4)];exact ⟨false,rfl,by simp;intro _ _ h;simp [h] at h4⟩
 rw [if_pos (by simpa using h4),HJ,if_pos (by rw [sx.2.1,yl.2];rfl),oB]
 by_cases h5:x.num.2.2=y.num.2.2
 rotate_left
 ·rw [if_neg (by simpa using h5)];exact ⟨false,rfl,by simp;intro _ _ h;simp [h] at h5⟩
 rw [if_pos (by simpa using h5)]
 obtain ⟨r,g1,g2⟩:=VA (a:=x.box) (b:=y.box) (f:=⟨.fn 37 [] [],fun x=>rc x.1 x.2⟩) hrc (nT ox.2.2.2.1 (by decide))
 rw [g1]
 refine ⟨r,rfl,g2.trans ?_⟩
 have hn:x.num=y.num:=Prod.ext (by simpa using h3) (Prod.ext h4 h5)
 simp [h1,h2,hn]
theorem KS : ∀ (k:Nat) {a b:Arr},a.size<k→okAr a→okAr b→smA a→Tells (DF k a b) (a=b)
 | 0,a,b,h,_,_,_=>by omega
 | k+1,a,b,h,ha,hb,hs=>by
  have oa:=(AM a).1 ha
  have ob:=(AM b).1 hb
  have sa:=(Ny a).1 hs
  rw [DF,F6,Sz oa.2.1,oB,Arr.ext_iff']
  by_cases h1:a.shape=b.shape
  rotate_left
  ·rw [if_neg (by simpa using h1)];exact ⟨false,rfl,by simp [h1]⟩
  rw [if_pos (by simpa using h1)]
  obtain ⟨r,g1,g2⟩:=VD (a:=a.items) (b:=b.items) (f:=⟨.fn 111 [] [],fun x=>E5 (DF k) x.1 x.2⟩) (fun x hx y hy=>R4 (oa.2.2.2 x hx) (ob.2.2.2 y hy) (sa x hx) fun p hp q hq =>
   KS k (by have:=GN hx;have:p.size<x.size:=Fj hp;omega) (((DA x).1 (oa.2.2.2 x hx)).2.2.2.2 p hp) (((DA y).1 (ob.2.2.2 y hy)).2.2.2.2 q hq) (((Nf x).1 (sa x hx)).2.2 p hp)) (nT oa.2.2.1 (by decide))
  rw [g1]
  exact ⟨r,rfl,g2.trans (by simp [h1])⟩
theorem Sl {a b:Arr} (ha:okAr a) (hb:okAr b) (hs:smA a) : Tells (KU a b) (a=b):=KS _ (Nat.lt_succ_self _) ha hb hs
section
variable {S:Type} (step:Itm→S→Option (Bool×S))
def Nu : List Itm→S→Int→Option (Int×S)
 | [],s,_=>some (-1,s)
 | x::xs,s,i=>(step x s).bind fun r=>if r.1=true then some (i,r.2) else Nu xs r.2 (i+1)
end
theorem Wv {z:Int} (h1:-9223372036854775808≤z) (h2:z≤9223372036854775807) : w64 z=z:=by
 simp only [w64,IntKind.wrap,IntKind.bits,IntKind.signed];simp;omega
abbrev dvI (x:Itm) : DV:=.ag [.i .u8 x.kind,.b x.num.1,.sl (L x.num.2.1),.sl (L x.num.2.2),.i .i32 x.char,.sl (Ars x.box)]
abbrev dvA (x:Arr) : DV:=.ag [.sl (Is x.shape),.sl (Its x.items)]
set_option maxRecDepth 10000 in
theorem Nx {S:Type} {step:Itm→S→Option (Bool×S)} {st:S→Ac→Prop} {f:FuncId} {caps:List AV} (hcall:∀ args w,(callFunc f args).run Tryz.prog w=.ok (.enter f args) w) (hnc:noOwnL caps=true)
  (hstep:∀ (x:Itm) s r H,st s H→step x s=some r→FnR Tryz.prog f (.d (dvI x)::caps) H fun v H'=>v=.d (.b r.1)∧st r.2 H')
  {xs:List Itm} {s:S} {r:Int×S} (hl:xs.length≤9223372036854775806) (h:Nu step xs s 0=some r) {H:Ac} (hs:st s H) :
  FnR Tryz.prog 227 [.d (.sl (Its xs)),.fn f [] caps] H fun v H'=>v=.d (.i .i64 r.1)∧st r.2 H':=by
 have hfn:noOwn (.fn f [] caps)=true:=by simp [noOwn,noOwnL,hnc]
 refine FnR.of (rs:=[.tmp 4]) 19 Tryz.func227 rfl rfl rfl (by simp) ?_;refine .sr ?_;refine asd ?_;refine rn ?_;refine .seq ?_;refine .sr ?_;refine vk (Aa) ?_;refine vk (Cc (A0 _) (Ev _) Ej) ?_;refine vk (Aa) ?_;refine rn ?_;refine .block ?_
 refine .loop (.gh (Gh.keep [0,1,7,8] rfl) ?_)
 refine AL.ind (σ:=Nat×S×Ac) (m:=fun p=>xs.length-p.1) (e:=fun p=>[(0,.d (.sl (Its xs))),(1,.fn f [] caps),(7,.d (.i .i64 ((List.length xs:Nat):Int))),(8,.d (.i .i64 ((p.1:Nat):Int)))]) (h:=fun p=>p.2.2)
  (I:=fun p=>p.1≤xs.length∧st p.2.1 p.2.2∧Nu step (xs.drop p.1) p.2.1 (p.1:Int)=some r) ?_ (0,s,H) ⟨Nat.zero_le _,hs,h⟩
 rintro ⟨i,s,H⟩ ⟨hi,hs,h⟩ ih
 dsimp only at hi hs h ih ⊢
 refine .sr ?_;refine vk (vbi) ?_;refine rn ?_;refine .seq ?_
 by_cases hc:((i:Nat):Int)<((List.length xs:Nat):Int)
 ·refine cnt (dT hc) ?_
  have hlt:i<xs.length:=by omega
  rw [lC hlt,Nu] at h
  obtain ⟨z,hz,h⟩:=bnd h
  refine .skip ?_
  show AW _ _ _ _ _ _
  refine .seq ?_;refine .block ?_;refine .sr ?_;refine vk (Aa) ?_;refine asd ?_;refine rn ?_;refine .sr ?_;refine vk (VE (av:=.fn f [] caps) (hn:=hfn)) ?_;refine vk (Aa) ?_;refine vk (Aa) ?_;refine vk (vix i rfl (Eo (lG hlt)) rfl D6) ?_;refine vk (AN A8 Az) ?_
  refine Xf (avs:=[.d (dvI xs[i])]) (hstep _ _ _ _ hs hz) hcall (fun v H' hp=>?_) (hnc:=hnc)
  obtain ⟨rfl,hs'⟩:=hp
  refine rn ?_
  by_cases hc:z.1=true
  ·refine cnt hc ?_
   rw [if_pos hc] at h
   cases h
   refine .sr ?_;refine vk (Aa) ?_;refine asd ?_;refine rn ?_;refine .ret ?_
   exact ⟨_,⟨rfl,rfl⟩,rfl,hs'⟩
  refine cnf (bf hc) ?_
  rw [if_neg hc] at h
  refine .skip ?_
  show AW _ _ _ _ _ _
  refine .region ?_;refine vk (vbi) ?_;refine vk (Aa) ?_;refine .nil ?_
  have hw:IntKind.wrap .i64 ((i:Int)+1)=((i+1:Nat):Int):=by rw [show IntKind.wrap .i64 ((i:Int)+1)=(i:Int)+1 from Wv (by omega) (by omega)];omega
  rw [hw]
  refine AL.gh (Gh.keep [0,1,7,8] rfl) ?_
  exact ih (i+1,z.2,H') ⟨hlt,hs',by rw [← h];simp⟩ (by dsimp only;omega)
 ·refine cnf (dF hc) ?_
  have:i=xs.length:=by omega
  subst this
  rw [List.drop_length,Nu] at h
  cases h
  refine .exit ?_
  show AW _ _ _ _ _ _
  refine .sr ?_;refine asd ?_;refine rn ?_;refine .ret ?_
  exact ⟨_,⟨rfl,rfl⟩,rfl,hs⟩
theorem Kb {S:Type} {step:Itm→S→Option (Bool×S)} {st:S→Ac→Prop} {f:FuncId} {caps:List AV} (hcall:∀ args w,(callFunc f args).run Tryz.prog w=.ok (.enter f args) w) (hnc:noOwnL caps=true)
  (hstep:∀ (x:Itm) s r H,st s H→step x s=some r→FnR Tryz.prog f (.d (dvI x)::caps) H fun v H'=>v=.d (.b r.1)∧st r.2 H')
  {xs:List Itm} {s:S} {r:Int×S} (hl:xs.length≤9223372036854775806) (h:Nu step xs s 0=some r) {H:Ac} (hs:st s H) :
  FnR Tryz.prog 179 [.d (.sl (Its xs)),.fn f [] caps] H fun v H'=>v=.d (.b (decide (0≤r.1)))∧st r.2 H':=by
 have hfn:noOwn (.fn f [] caps)=true:=by simp [noOwn,noOwnL,hnc]
 refine FnR.of (rs:=[.tmp 4]) 9 Tryz.func179 rfl rfl rfl (by simp) ?_;refine .sr ?_;refine asd ?_;refine rn ?_;refine .sr ?_;refine vk (Aa) ?_;refine vk (VE (av:=.fn f [] caps) (hn:=hfn)) ?_
 refine clR (avs:=[.d (.sl (Its xs)),.fn f [] caps]) (Nx hcall hnc hstep hl h hs) Tryz.call227 (fun v H' hp=>?_) (ha:=by simp [argsA,lk,get,hfn,AP,noOwn])
 obtain ⟨rfl,hs'⟩:=hp
 refine vk (vbi) ?_;refine asd ?_;refine rn ?_;refine .ret ?_
 exact ⟨_,⟨rfl,rfl⟩,rfl,hs'⟩
abbrev M3:=Bool×Int×Int
abbrev EB (c d:Int) : HO:=.box [.d (.i .i64 c),.d (.i .i64 d)]
def Upd (H:Ac) (id:Nat) (o:HO) (H':Ac) : Prop:=H'[id]?=some o∧H.length≤H'.length∧∀ j,j≠id→j<H.length→H'[j]?=H[j]?
theorem Upd.same {H:Ac} {id:Nat} {o:HO} (h:H[id]?=some o) : Upd H id o H:=⟨h,Nat.le_refl _,fun _ _ _=>rfl⟩
theorem Upd.trans {H H' H'':Ac} {id:Nat} {o o':HO} (h:Upd H id o H') (k:Upd H' id o' H'') : Upd H id o' H'' :=
 ⟨k.1,nT h.2.1 k.2.1,fun j h1 h2=>(k.2.2 j h1 (nL h2 h.2.1)).trans (h.2.2 j h1 h2)⟩
def PE (id:Nat) (r:M3) (H:Ac) : AV→Ac→Prop:=fun v H'=>v=.d (.b r.1)∧Upd H id (EB r.2.1 r.2.2) H'
theorem PE.refl {id:Nat} {b:Bool} {c d:Int} {H:Ac} (h:H[id]?=some (EB c d)) : PE id (b,c,d) H (.d (.b b)) H:=⟨rfl,.same h⟩
def OA (rc:Arr→Int→Int→Int→Option M3) : Prop:=∀ (a:Arr) (deep c d:Int) (r:M3),rc a deep c d=some r→∀ (H:Ac) (id:Nat),H[id]?=some (EB c d) →
 FnR Tryz.prog 108 [.bp id 0,.d (dvA a),.d (.i .i64 deep)] H (PE id r H)
def D2 (a1:Itm) : Bool:=((!a1.num.1)&&((decide (((List.length a1.num.2.1:Nat) : Int)=0))&&(decide (((List.length a1.num.2.2:Nat) : Int)=0))))
def L0 (rc:Arr→Int→Int→Int→Option M3) (a1:Itm) (a2 c d:Int) : Option M3:=(if a1.kind=1 then ((EF a1.num).bind fun x1=>(some ((x1&&((decide (a1.char=0))&&(decide (((List.length a1.box:Nat) : Int)=0)))),c,d))) else (if a1.kind=2 then ((EW a1.char).bind fun x2=>(some ((x2&&(D2 a1&&(decide (((List.length a1.box:Nat) : Int)=0)))),c,d))) else (if a1.kind=3 then (if ((List.length a1.box:Nat) : Int)=1 then (if D2 a1=true then (if a1.char=0 then ((rd? a1.box 0).bind fun x4=>((Cp x4).bind fun x5=>(if x5=true then (some (false,c,d)) else ((rd? a1.box 0).bind fun x6=>((rc x6 a2 c d).bind fun x7=>(some x7)))))) else (some (false,c,d))) else (some (false,c,d))) else (some (false,c,d))) else (some (false,c,d)))))
set_option maxHeartbeats 4000000 in
theorem Hw {rc:Arr→Int→Int→Int→Option M3} (orc:OA rc) {a1:Itm} {a2 c d:Int} {r:M3} (h:L0 rc a1 a2 c d=some r) {H:Ac} {id:Nat} (hH:H[id]?=some (EB c d)) :
  FnR Tryz.prog 193 [.bp id 0,.d (dvI a1),.d (.i .i64 a2)] H (PE id r H):=by
 unfold L0 D2 at h
 refine FnR.of (rs:=[.tmp 6]) 89 Tryz.func193 rfl rfl rfl (by simp) ?_;refine .sr ?_;refine vk (vbx) ?_;refine asd ?_;refine rn ?_;refine .gh (Gh.keep [0,2,4,6] rfl) ?_;refine .seq ?_;refine AW.mr (σ:=Unit) (fun _=>True) (fun _=>[(0,.bp id 0),(2,.d (.i .i64 a2)),(4,.d (.ptr [.i .u8 a1.kind,.b a1.num.1,.sl (L a1.num.2.1),.sl (L a1.num.2.2),.i .i32 a1.char,.sl (Ars a1.box)])),(6,.d (.b false)),(7,.d (.b ((!a1.num.1)&&((decide (((List.length a1.num.2.1:Nat):Int)=0))&&(decide (((List.length a1.num.2.2:Nat):Int)=0))))))]) (fun _=>H) ?_ ?_
 ·skip
  refine .region ?_;refine vk (vfa CY) ?_;refine vk (vfa Dt) ?_;refine vk (As CK) ?_;refine vk (vnt) ?_
  by_cases hc:a1.num.1=true
  ·have hb0:(!a1.num.1)=false:=(ntf hc)
   refine vk (VOK.lit (Aa) hb0) ?_;refine gf ?_;refine gf ?_;refine gf ?_;refine gf ?_;refine gf ?_;refine vk (AF) ?_;refine vk (Aa) ?_;refine gf ?_;refine gf ?_;refine gf ?_;refine gf ?_;refine gf ?_;refine vk (AF) ?_;refine asd ?_;refine RL.gh (Gh.keep [0,2,4,6,7] rfl) ?_;refine .nil ?_
   exact jr () trivial (by simp only [hb0];rfl)
  have hb0:(!a1.num.1)=true:=(ntt (bf hc))
  refine vk (VOK.lit (Aa) hb0) ?_;refine vk (vfa CY) ?_;refine vk (vfa DG) ?_;refine vk (As E0) ?_;refine vk (Cc (Ab _) (BW _) Od) ?_;refine vk (vbi) ?_;refine vk (AF) ?_
  by_cases hc:((List.length a1.num.2.1:Nat):Int)=0
  ·have hb1:(decide (((List.length a1.num.2.1:Nat):Int)=0))=true:=(dT hc)
   refine vk (VOK.lit (Aa) hb1) ?_;refine vk (vfa CY) ?_;refine vk (vfa Gm) ?_;refine vk (As E0) ?_;refine vk (Cc (Ab _) (BW _) Od) ?_;refine vk (vbi) ?_;refine vk (AF) ?_;refine asd ?_;refine RL.gh (Gh.keep [0,2,4,6,7] rfl) ?_;refine .nil ?_
   exact jr () trivial (by simp only [hb0,hb1];rfl)
  have hb1:(decide (((List.length a1.num.2.1:Nat):Int)=0))=false:=(dF hc)
  refine vk (VOK.lit (Aa) hb1) ?_;refine gf ?_;refine gf ?_;refine gf ?_;refine gf ?_;refine gf ?_;refine vk (AF) ?_;refine asd ?_;refine RL.gh (Gh.keep [0,2,4,6,7] rfl) ?_;refine .nil ?_
  exact jr () trivial (by simp only [hb0,hb1];rfl)
 rintro _ _
 refine .seq ?_;refine .sr ?_;refine vk (vfa Fm) ?_;refine vk (As Dc) ?_;refine rn ?_;refine .gh (Gh.keep [0,2,4,6,7,27] rfl) ?_;refine .block ?_;refine .sr ?_;refine vk (vbi) ?_;refine asd ?_;refine rn ?_;refine .gh (Gh.keep [0,2,4,6,7,27,28] rfl) ?_
 rcases brc h with ⟨hc,h⟩|⟨hc,h⟩
 ·refine cnt (dT hc) ?_
  refine .seq ?_
  obtain ⟨x1,hx1,h⟩:=bnd h
  refine AW.mr (σ:=Unit) (fun _=>True) (fun _=>[(6,.d (.b (x1&&((decide (a1.char=0))&&(decide (((List.length a1.box:Nat):Int)=0))))))]) (fun _=>H) ?_ ?_
  ·skip
   refine .region ?_;refine vk (vfa CY) ?_;refine vk (AN BI AS) ?_;refine vk (Ar (DQ hx1) Tryz.call45) ?_
   by_cases hc:x1=true
   ·have hb0:x1=true:=hc
    refine vk (VOK.lit (Aa) hb0) ?_;refine vk (vfa Gf) ?_;refine vk (As E8) ?_;refine vk (vbi) ?_;refine vk (AF) ?_
    by_cases hc:a1.char=0
    ·have hb1:(decide (a1.char=0))=true:=(dT hc)
     refine vk (VOK.lit (Aa) hb1) ?_;refine vk (vfa CN) ?_;refine vk (As EQ) ?_;refine vk (Cc (CF _) (GB _) GD) ?_;refine vk (vbi) ?_;refine vk (AF) ?_;refine asd ?_;refine RL.gh (Gh.keep [6] rfl) ?_;refine .nil ?_
     exact jr () trivial (by simp only [hb0,hb1];rfl)
    have hb1:(decide (a1.char=0))=false:=(dF hc)
    refine vk (VOK.lit (Aa) hb1) ?_;refine gf ?_;refine gf ?_;refine gf ?_;refine gf ?_;refine vk (AF) ?_;refine asd ?_;refine RL.gh (Gh.keep [6] rfl) ?_;refine .nil ?_
    exact jr () trivial (by simp only [hb0,hb1];rfl)
   have hb0:x1=false:=(bf hc)
   refine vk (VOK.lit (Aa) hb0) ?_;refine gf ?_;refine gf ?_;refine gf ?_;refine vk (AF) ?_;refine vk (Aa) ?_;refine gf ?_;refine gf ?_;refine gf ?_;refine gf ?_;refine vk (AF) ?_;refine asd ?_;refine RL.gh (Gh.keep [6] rfl) ?_;refine .nil ?_
   exact jr () trivial (by simp only [hb0];rfl)
  rintro _ _
  refine .ret ?_
  cases h
  exact ⟨_,⟨rfl,rfl⟩,.refl hH⟩
 refine cnf (dF hc) ?_;refine .sr ?_;refine vk (vbi) ?_;refine asd ?_;refine rn ?_;refine .gh (Gh.keep [0,2,4,6,7,27,44] rfl) ?_
 rcases brc h with ⟨hc,h⟩|⟨hc,h⟩
 ·refine cnt (dT hc) ?_
  refine .seq ?_
  obtain ⟨x2,hx2,h⟩:=bnd h
  refine AW.mr (σ:=Unit) (fun _=>True) (fun _=>[(6,.d (.b (x2&&(((!a1.num.1)&&((decide (((List.length a1.num.2.1:Nat):Int)=0))&&(decide (((List.length a1.num.2.2:Nat):Int)=0))))&&(decide (((List.length a1.box:Nat):Int)=0))))))]) (fun _=>H) ?_ ?_
  ·skip
   refine .region ?_;refine vk (vfa Gf) ?_;refine vk (As E8) ?_;refine vk (Ar (Kn hx2) Tryz.call231) ?_
   by_cases hc:x2=true
   ·have hb0:x2=true:=hc
    refine vk (VOK.lit (Aa) hb0) ?_;refine vk (Aa) ?_;refine vk (AF) ?_
    by_cases hc:((!a1.num.1)&&((decide (((List.length a1.num.2.1:Nat):Int)=0))&&(decide (((List.length a1.num.2.2:Nat):Int)=0))))=true
    ·have hb1:((!a1.num.1)&&((decide (((List.length a1.num.2.1:Nat):Int)=0))&&(decide (((List.length a1.num.2.2:Nat):Int)=0))))=true:=hc
     refine vk (VOK.lit (Aa) hb1) ?_;refine vk (vfa CN) ?_;refine vk (As EQ) ?_;refine vk (Cc (CF _) (GB _) GD) ?_;refine vk (vbi) ?_;refine vk (AF) ?_;refine asd ?_;refine RL.gh (Gh.keep [6] rfl) ?_;refine .nil ?_
     exact jr () trivial (by simp only [hb0,hb1];rfl)
    have hb1:((!a1.num.1)&&((decide (((List.length a1.num.2.1:Nat):Int)=0))&&(decide (((List.length a1.num.2.2:Nat):Int)=0))))=false:=(bf hc)
    refine vk (VOK.lit (Aa) hb1) ?_;refine gf ?_;refine gf ?_;refine gf ?_;refine gf ?_;refine vk (AF) ?_;refine asd ?_;refine RL.gh (Gh.keep [6] rfl) ?_;refine .nil ?_
    exact jr () trivial (by simp only [hb0,hb1];rfl)
   have hb0:x2=false:=(bf hc)
   refine vk (VOK.lit (Aa) hb0) ?_;refine gf ?_;refine vk (AF) ?_;refine vk (Aa) ?_;refine gf ?_;refine gf ?_;refine gf ?_;refine gf ?_;refine vk (AF) ?_;refine asd ?_;refine RL.gh (Gh.keep [6] rfl) ?_;refine .nil ?_
   exact jr () trivial (by simp only [hb0];rfl)
  rintro _ _
  refine .ret ?_
  cases h
  exact ⟨_,⟨rfl,rfl⟩,.refl hH⟩
 refine cnf (dF hc) ?_;refine .sr ?_;refine vk (vbi) ?_;refine asd ?_;refine rn ?_;refine .gh (Gh.keep [0,2,4,6,7,58] rfl) ?_
 rcases brc h with ⟨hc,h⟩|⟨hc,h⟩
 ·refine cnt (dT hc) ?_
  refine .seq ?_
  ·skip
   refine .region ?_;refine vk (vfa CN) ?_;refine vk (As EQ) ?_;refine vk (Cc (CF _) (GB _) GD) ?_;refine vk (vbi) ?_
   rcases brc h with ⟨hc,h⟩|⟨hc,h⟩
   ·have hb0:(decide (((List.length a1.box:Nat):Int)=1))=true:=(dT hc)
    refine vk (VOK.lit (Aa) hb0) ?_;refine vk (Aa) ?_;refine vk (AF) ?_
    rcases brc h with ⟨hc,h⟩|⟨hc,h⟩
    ·have hb1:((!a1.num.1)&&((decide (((List.length a1.num.2.1:Nat):Int)=0))&&(decide (((List.length a1.num.2.2:Nat):Int)=0))))=true:=hc
     refine vk (VOK.lit (Aa) hb1) ?_;refine vk (vfa Gf) ?_;refine vk (As E8) ?_;refine vk (vbi) ?_;refine vk (AF) ?_
     rcases brc h with ⟨hc,h⟩|⟨hc,h⟩
     ·have hb2:(decide (a1.char=0))=true:=(dT hc)
      refine vk (VOK.lit (Aa) hb2) ?_;refine vk (vfa CN) ?_;refine vk (As EQ) ?_
      obtain ⟨x4,hx4,h⟩:=bnd h
      obtain ⟨nx4,hnx4,hxx4⟩:=Av hx4
      refine vk (vix nx4 hnx4 (GC hxx4) rfl GI) ?_;refine vk (AN An Ad) ?_
      obtain ⟨x5,hx5,h⟩:=bnd h
      refine vk (Ar (D1 hx5) Tryz.call172) ?_;refine vk (vnt) ?_;refine vk (AF) ?_
      rcases brc h with ⟨hc,h⟩|⟨hc,h⟩
      ·have hb3:(!x5)=false:=(ntf hc)
       refine vk (VOK.lit (Aa) hb3) ?_;refine gf ?_;refine gf ?_;refine gf ?_;refine gf ?_;refine gf ?_;refine gf ?_;refine gf ?_;refine vk (AF) ?_;refine asd ?_;refine rn ?_;refine .gh (Gh.keep [6] rfl) ?_;refine .ret ?_
       cases h
       exact ⟨_,⟨rfl,rfl⟩,.refl hH⟩
      have hb3:(!x5)=true:=(ntt (bf hc))
      refine vk (VOK.lit (Aa) hb3) ?_;refine vk (VE (av:=.bp id 0)) ?_;refine vk (vfa CN) ?_;refine vk (As EQ) ?_
      obtain ⟨x6,hx6,h⟩:=bnd h
      obtain ⟨nx6,hnx6,hxx6⟩:=Av hx6
      refine vk (vix nx6 hnx6 (GC hxx6) rfl GI) ?_;refine vk (AN An Ad) ?_;refine vk (Aa) ?_
      obtain ⟨x7,hx7,h⟩:=bnd h
      refine clR (avs:=[.bp id 0,.d (dvA x6),.d (.i .i64 a2)]) (orc x6 a2 c d x7 hx7 H id hH) Tryz.call108 (fun v H' hp=>?_)
      obtain ⟨rfl,hp⟩:=hp
      refine vk (AF) ?_;refine asd ?_;refine rn ?_;refine .gh (Gh.keep [6] rfl) ?_;refine .ret ?_
      cases h
      exact ⟨_,⟨rfl,rfl⟩,rfl,hp⟩
     have hb2:(decide (a1.char=0))=false:=(dF hc)
     refine vk (VOK.lit (Aa) hb2) ?_;refine gf ?_;refine gf ?_;refine gf ?_;refine gf ?_;refine gf ?_;refine gf ?_;refine vk (AF) ?_;refine vk (Aa) ?_;refine gf ?_;refine gf ?_;refine gf ?_;refine gf ?_;refine gf ?_;refine gf ?_;refine gf ?_;refine vk (AF) ?_;refine asd ?_;refine rn ?_;refine .gh (Gh.keep [6] rfl) ?_;refine .ret ?_
     cases h
     exact ⟨_,⟨rfl,rfl⟩,.refl hH⟩
    have hb1:((!a1.num.1)&&((decide (((List.length a1.num.2.1:Nat):Int)=0))&&(decide (((List.length a1.num.2.2:Nat):Int)=0))))=false:=(bf hc)
    refine vk (VOK.lit (Aa) hb1) ?_;refine gf ?_;refine gf ?_;refine gf ?_;refine vk (AF) ?_;refine vk (Aa) ?_;refine gf ?_;refine gf ?_;refine gf ?_;refine gf ?_;refine gf ?_;refine gf ?_;refine vk (AF) ?_;refine vk (Aa) ?_;refine gf ?_;refine gf ?_;refine gf ?_;refine gf ?_;refine gf ?_;refine gf ?_;refine gf ?_;refine vk (AF) ?_;refine asd ?_;refine rn ?_;refine .gh (Gh.keep [6] rfl) ?_;refine .ret ?_
    cases h
    exact ⟨_,⟨rfl,rfl⟩,.refl hH⟩
   have hb0:(decide (((List.length a1.box:Nat):Int)=1))=false:=(dF hc)
   refine vk (VOK.lit (Aa) hb0) ?_;refine gf ?_;refine vk (AF) ?_;refine vk (Aa) ?_;refine gf ?_;refine gf ?_;refine gf ?_;refine vk (AF) ?_;refine vk (Aa) ?_;refine gf ?_;refine gf ?_;refine gf ?_;refine gf ?_;refine gf ?_;refine gf ?_;refine vk (AF) ?_;refine vk (Aa) ?_;refine gf ?_;refine gf ?_;refine gf ?_;refine gf ?_;refine gf ?_;refine gf ?_;refine gf ?_;refine vk (AF) ?_;refine asd ?_;refine rn ?_;refine .gh (Gh.keep [6] rfl) ?_;refine .ret ?_
   cases h
   exact ⟨_,⟨rfl,rfl⟩,.refl hH⟩
 refine cnf (dF hc) ?_;refine .skip ?_
 show AW _ _ _ _ _ _
 refine .sr ?_;refine asd ?_;refine rn ?_;refine .gh (Gh.keep [6] rfl) ?_;refine .ret ?_
 cases h
 exact ⟨_,⟨rfl,rfl⟩,.refl hH⟩
def IU (rc:Arr→Int→Int→Int→Option M3) (deep:Int) : List Itm→Int→Int→Option M3
 | [],c,d=>some (true,c,d)
 | x::xs,c,d=>(L0 rc x deep c d).bind fun z=>if z.1=true then IU rc deep xs z.2.1 z.2.2 else some (false,z.2.1,z.2.2)
def NN (rc:Arr→Int→Int→Int→Option M3) (deep:Int) (x:Itm) (s:Int×Int) : Option (Bool×(Int×Int)):=(L0 rc x deep s.1 s.2).map fun z=>(!z.1,z.2)
theorem Pa {rc:Arr→Int→Int→Int→Option M3} {deep:Int} : ∀ {xs:List Itm} {c d:Int} {z:M3} {i:Int},0≤i→IU rc deep xs c d=some z→∃ n,Nu (NN rc deep) xs (c,d) i=some (n,z.2)∧(!decide (0≤n))=z.1
 | [],c,d,z,i,_,h=>by cases h;exact ⟨-1,rfl,rfl⟩
 | x::xs,c,d,z,i,hi,h=>by
  rw [IU] at h
  obtain ⟨y,hy,h⟩:=bnd h
  have hs:NN rc deep x (c,d)=some (!y.1,y.2):=by simp [NN,hy]
  by_cases hc:y.1=true
  ·rw [if_pos hc] at h
   obtain ⟨n,h1,h2⟩:=Pa (i:=i+1) (by omega) h
   refine ⟨n,?_,h2⟩
   rw [Nu,hs,oB,if_neg (by simp [hc])];exact h1
  ·rw [if_neg hc] at h
   cases h
   refine ⟨i,?_,by simp [hi]⟩
   rw [Nu,hs,oB,if_pos (by simp [hc])]
theorem JB {rc:Arr→Int→Int→Int→Option M3} (orc:OA rc) {x:Itm} {deep c d:Int} {z:M3} (h:L0 rc x deep c d=some z) {H:Ac} {id n3 n5:Nat} (hH:H[id]?=some (EB c d)) (h3:H[n3]?=some (.box [.bp id 0])) (h5:H[n5]?=some (.box [.d (.i .i64 deep)])) :
  FnR Tryz.prog 192 [.d (dvI x),.bp n3 0,.bp n5 0] H fun v H'=>v=.d (.b (!z.1))∧Upd H id (EB z.2.1 z.2.2) H':=by
 refine FnR.of (rs:=[.tmp 4]) 10 Tryz.func192 rfl rfl rfl (by simp) ?_;refine .sr ?_;refine vk (vbx) ?_;refine asd ?_;refine rn ?_;refine .sr ?_;refine vk (NU (cs:=[.bp id 0]) (c:=.bp id 0) h3 rfl (by kernel_rfl)) ?_;refine vk (AN A8 Az) ?_;refine vk (P5 (cs:=[.d (.i .i64 deep)]) (c:=.i .i64 deep) h5 rfl A9) ?_
 refine clR (avs:=[.bp id 0,.d (dvI x),.d (.i .i64 deep)]) (Hw orc h hH) Tryz.call193 (fun v H' hp=>?_)
 obtain ⟨rfl,hp⟩:=hp
 refine vk (vnt) ?_;refine asd ?_;refine rn ?_;refine .ret ?_
 exact ⟨_,⟨rfl,rfl⟩,rfl,hp⟩
theorem Upd.set_new {H H':Ac} {id n:Nat} {o x:HO} (k:Upd H id o H') (h1:H.length≤n) (h2:n≠id) : Upd H id o (H'.set n x) :=
 ⟨by rw [List.getElem?_set_ne h2];exact k.1,by simpa using k.2.1,fun j h3 h4=>by rw [List.getElem?_set_ne (by omega)];exact k.2.2 j h3 h4⟩
theorem Upd.set_id {H H':Ac} {id:Nat} {o o':HO} (k:Upd H id o H') : Upd H id o' (H'.set id o') :=
 ⟨List.getElem?_set_self (lS.1 k.1).1,by simpa using k.2.1,fun j h3 h4=>by rw [List.getElem?_set_ne (Ne.symm h3)];exact k.2.2 j h3 h4⟩
def SL (rc:Arr→Int→Int→Int→Option M3) (a:Arr) (deep c d:Int) : Option M3 :=
 (CU a.shape).bind fun x1 =>
  if x1.2=0 then
   if ((List.length a.items:Nat):Int)=(if x1.1<1 then 1 else x1.1) then
    if 16384<w64 (c+((List.length a.items:Nat):Int)) then some (false,w64 (c+((List.length a.items:Nat):Int)),d) else
    (Cp a).bind fun sm =>
     if sm=true then (if deep≤16 then IU rc deep a.items (w64 (c+((List.length a.items:Nat):Int))) d else some (false,w64 (c+((List.length a.items:Nat):Int)),d))
     else (if w64 (deep+1)≤16 then IU rc (w64 (deep+1)) a.items (w64 (c+((List.length a.items:Nat):Int))) (if d<w64 (deep+1) then w64 (deep+1) else d) else some (false,w64 (c+((List.length a.items:Nat):Int)),(if d<w64 (deep+1) then w64 (deep+1) else d)))
   else some (false,c,d)
  else some (false,c,d)
set_option maxHeartbeats 4000000 in
set_option maxRecDepth 20000 in
theorem Kf {rc:Arr→Int→Int→Int→Option M3} (orc:OA rc) {a:Arr} {deep c d:Int} {r:M3} (hlen:a.items.length≤9223372036854775806) (h:SL rc a deep c d=some r) {H:Ac} {id:Nat} (hH:H[id]?=some (EB c d)) :
  FnR Tryz.prog 108 [.bp id 0,.d (dvA a),.d (.i .i64 deep)] H (PE id r H):=by
 unfold SL at h
 have hid:id<H.length:=(lS.1 hH).1
 refine FnR.of (rs:=[.tmp 6]) 63 Tryz.func108 rfl rfl rfl (by simp) ?_;refine .sr ?_;refine bxA (c:=.bp id 0) ?_;refine vk (vbx) ?_;refine bxA (c:=.d (.i .i64 deep)) ?_;refine asd ?_
 have f0:Upd H id (EB c d) (H++[.box [.bp id 0]]++[.box [.d (.i .i64 deep)]]):=by
  refine ⟨?_,by simp,fun j h1 h2=>?_⟩
  ·rw [List.append_assoc,List.getElem?_append_left hid];exact hH
  ·rw [List.append_assoc,List.getElem?_append_left h2]
 have f3:(H++[HO.box [AV.bp id 0]]++[.box [.d (.i .i64 deep)]])[H.length]?=some (.box [.bp id 0]):=by simp
 have f5:(H++[HO.box [AV.bp id 0]]++[.box [.d (.i .i64 deep)]])[(H++[HO.box [AV.bp id 0]]).length]?=some (.box [.d (.i .i64 deep)]):=by
  rw [List.getElem?_append_right (Nat.le_refl _)];simp
 have g3:H.length≠id:=by omega
 have g5:(H++[HO.box [AV.bp id 0]]).length≠id:=by simp;omega
 have g5':H.length≤(H++[HO.box [AV.bp id 0]]).length:=by simp
 have g35:H.length≠(H++[HO.box [AV.bp id 0]]).length:=by simp
 have g3':H.length≤H.length:=Nat.le_refl _
 generalize H++[HO.box [AV.bp id 0]]++[.box [.d (.i .i64 deep)]]=H2 at f0 f3 f5 ⊢
 generalize (H++[HO.box [AV.bp id 0]]).length=n5 at f5 g5 g5' g35 ⊢
 obtain ⟨n3,hn3⟩:∃ n3,n3=H.length:=⟨_,rfl⟩
 rw [← hn3] at f3 g3 g35
 rw [← hn3]
 have f1:=f0.1
 refine rn ?_;refine .gh (Gh.keep [3,4,5] rfl) ?_;refine .sr ?_;refine vk (vfa Cn) ?_;refine vk (As Dy) ?_
 obtain ⟨x1,hx1,h⟩:=bnd h
 refine vk (VOK.tupd (vs:=[.i .i64 x1.1,.i .i64 x1.2]) (Ar (Dz hx1) Tryz.call98)) ?_;refine vk (Aa) ?_;refine vk (vex) ?_;refine vk (vex) ?_;refine asd ?_;refine asd ?_;refine rn ?_;refine .gh (Gh.keep [3,4,5,7,8] rfl) ?_;refine .seq ?_;refine .sr ?_;refine vk (Aa) ?_;refine vk (vbi) ?_
 by_cases hc:x1.2=0
 rotate_left
 ·rw [if_neg hc] at h
  cases h
  refine vk (VOK.lit (Aa) (show (!decide (x1.2=0))=true by simp [hc])) ?_;refine gf ?_;refine gf ?_;refine gf ?_;refine gf ?_;refine gf ?_;refine gf ?_;refine vk (AF) ?_;refine rn ?_;refine cnt rfl ?_;refine .sr ?_;refine asd ?_;refine rn ?_;refine .ret ?_
  exact ⟨_,⟨rfl,rfl⟩,rfl,f0⟩
 rw [if_pos hc] at h
 refine vk (VOK.lit (Aa) (show (!decide (x1.2=0))=false by simp [hc])) ?_;refine vk (vfa BH) ?_;refine vk (As DJ) ?_;refine vk (Cc (A0 _) (Ev _) Ej) ?_;refine vk (Aa) ?_;refine vk (vmx) ?_;refine vk (vbi) ?_;refine vk (AF) ?_;refine rn ?_
 by_cases hc:((List.length a.items:Nat):Int)=(if x1.1<1 then 1 else x1.1)
 rotate_left
 ·rw [if_neg hc] at h
  cases h
  refine cnt (ntt (dF hc)) ?_;refine .sr ?_;refine asd ?_;refine rn ?_;refine .ret ?_
  exact ⟨_,⟨rfl,rfl⟩,rfl,f0⟩
 rw [if_pos hc] at h
 refine cnf (ntf (dT hc)) ?_;refine .skip ?_
 show AW _ _ _ _ _ _
 refine .gh (Gh.keep [3,4,5] rfl) ?_;refine .seq ?_;refine .drawn 10 BN (by kernel_rfl) ?_;refine dv (NU (cs:=[.bp id 0]) (c:=.bp id 0) f3 rfl (by kernel_rfl)) ?_;refine dv (TH) ?_;refine dv (Kl Ku) ?_;refine dv (P5 (cs:=[.d (.i .i64 c),.d (.i .i64 d)]) (c:=.i .i64 c) f1 rfl A9) ?_;refine dv (vfa BH) ?_;refine dv (As DJ) ?_;refine dv (Cc (A0 _) (Ev _) Ej) ?_;refine dv (vbi) ?_;refine dv (TH) ?_;refine dv (Kl Ku) ?_;refine dz ?_
 refine stb (cs:=[.d (.i .i64 c),.d (.i .i64 d)]) (c:=.d (.i .i64 c)) f1 rfl ?_ Fl
 have q0:=f0.set_id (o':=EB (w64 (c+((List.length a.items:Nat):Int))) d)
 have q3:(H2.set id (EB (w64 (c+((List.length a.items:Nat):Int))) d))[n3]?=some (.box [.bp id 0]):=by rw [List.getElem?_set_ne (Ne.symm g3)];exact f3
 have q5:(H2.set id (EB (w64 (c+((List.length a.items:Nat):Int))) d))[n5]?=some (.box [.d (.i .i64 deep)]):=by rw [List.getElem?_set_ne (Ne.symm g5)];exact f5
 refine rn ?_
 change AW _ _ _ _ _ (H2.set id (EB (w64 (c+((List.length a.items:Nat):Int))) d))
 generalize H2.set id (EB (w64 (c+((List.length a.items:Nat):Int))) d)=H3 at q0 q3 q5 ⊢
 generalize w64 (c+((List.length a.items:Nat):Int))=c1 at h q0 ⊢
 have q1:=q0.1
 refine .gh (Gh.keep [3,4,5] rfl) ?_;refine .seq ?_;refine .sr ?_;refine vk (NU (cs:=[.bp id 0]) (c:=.bp id 0) q3 rfl (by kernel_rfl)) ?_;refine vk (TH) ?_;refine vk (Kl Ku) ?_;refine vk (P5 (cs:=[.d (.i .i64 c1),.d (.i .i64 d)]) (c:=.i .i64 c1) q1 rfl A9) ?_;refine vk (vbi) ?_;refine rn ?_
 by_cases hc:16384<c1
 ·rw [if_pos hc] at h
  cases h
  refine cnt (dT hc) ?_;refine .sr ?_;refine asd ?_;refine rn ?_;refine .ret ?_
  exact ⟨_,⟨rfl,rfl⟩,rfl,q0⟩
 rw [if_neg hc] at h
 refine cnf (dF hc) ?_;refine .skip ?_
 show AW _ _ _ _ _ _
 refine .gh (Gh.keep [3,4,5] rfl) ?_;refine .seq ?_
 obtain ⟨sm,hsm,h⟩:=bnd h
 refine .sr ?_;refine vk (AN An Ad) ?_;refine vk (Ar (D1 hsm) Tryz.call172) ?_;refine vk (vnt) ?_;refine rn ?_
 refine AW.mr (σ:=Ac×Int×Int) (fun s=>Upd H id (EB c1 s.2.2) s.1∧s.1[n3]?=some (.box [.bp id 0])∧s.1[n5]?=some (.box [.d (.i .i64 s.2.1)])∧(if s.2.1≤16 then IU rc s.2.1 a.items c1 s.2.2 else some (false,c1,s.2.2))=some r)
  (fun _=>[(3,.bp n3 0),(4,.d (.ptr [.sl (Is a.shape),.sl (Its a.items)])),(5,.bp n5 0)]) (fun s=>s.1) ?_ ?_
 ·by_cases hs:sm=true
  ·rw [if_pos hs] at h
   refine cnf (ntf hs) ?_;refine .gh (Gh.keep [3,4,5] rfl) ?_;refine .skip ?_
   exact jr (H3,deep,d) ⟨q0,q3,q5,h⟩
  rw [if_neg hs] at h
  refine cnt (ntt (bf hs)) ?_;refine .sr ?_;refine vk (P5 (cs:=[.d (.i .i64 deep)]) (c:=.i .i64 deep) q5 rfl A9) ?_;refine vk (vbi) ?_
  refine stb (cs:=[.d (.i .i64 deep)]) (c:=.d (.i .i64 deep)) q5 rfl ?_ Fl
  have p0:=q0.set_new (n:=n5) (x:=.box [.d (.i .i64 (w64 (deep+1)))]) g5' g5
  have p3:(H3.set n5 (.box [.d (.i .i64 (w64 (deep+1)))]))[n3]?=some (.box [.bp id 0]):=by rw [List.getElem?_set_ne (Ne.symm g35)];exact q3
  have p5:(H3.set n5 (.box [.d (.i .i64 (w64 (deep+1)))]))[n5]?=some (.box [.d (.i .i64 (w64 (deep+1)))]):=List.getElem?_set_self (lS.1 q5).1
  refine rn ?_
  change AW _ _ _ _ _ (H3.set n5 (.box [.d (.i .i64 (w64 (deep+1)))]))
  generalize H3.set n5 (.box [.d (.i .i64 (w64 (deep+1)))])=H4 at p0 p3 p5 ⊢
  generalize w64 (deep+1)=dp at h p5 ⊢
  have p1:=p0.1
  refine .gh (Gh.keep [3,4,5] rfl) ?_;refine .drawn 9 BN (by kernel_rfl) ?_;refine dv (NU (cs:=[.bp id 0]) (c:=.bp id 0) p3 rfl (by kernel_rfl)) ?_;refine dv (NU (cs:=[.bp id 0]) (c:=.bp id 0) p3 rfl (by kernel_rfl)) ?_;refine dv (TH) ?_;refine dv (Kl QM) ?_;refine dv (P5 (cs:=[.d (.i .i64 c1),.d (.i .i64 d)]) (c:=.i .i64 d) p1 rfl A9) ?_;refine dv (P5 (cs:=[.d (.i .i64 dp)]) (c:=.i .i64 dp) p5 rfl A9) ?_;refine dv (vmx) ?_;refine dv (TH) ?_;refine dv (Kl QM) ?_;refine dz ?_
  refine stb (cs:=[.d (.i .i64 c1),.d (.i .i64 d)]) (c:=.d (.i .i64 d)) p1 rfl ?_ Fl
  have w0:=p0.set_id (o':=EB c1 (if d<dp then dp else d))
  have w3:(H4.set id (EB c1 (if d<dp then dp else d)))[n3]?=some (.box [.bp id 0]):=by rw [List.getElem?_set_ne (Ne.symm g3)];exact p3
  have w5:(H4.set id (EB c1 (if d<dp then dp else d)))[n5]?=some (.box [.d (.i .i64 dp)]):=by rw [List.getElem?_set_ne (Ne.symm g5)];exact p5
  refine RL.gh (Gh.keep [3,4,5] rfl) ?_;refine .nil ?_
  exact jr (H4.set id (EB c1 (if d<dp then dp else d)),dp,(if d<dp then dp else d)) ⟨w0,w3,w5,h⟩
 rintro ⟨H5,dp,d1⟩ ⟨u0,u3,u5,h⟩
 dsimp only at u0 u3 u5 h ⊢
 show AW _ _ _ _ _ _
 refine .sr ?_;refine vk (P5 (cs:=[.d (.i .i64 dp)]) (c:=.i .i64 dp) u5 rfl A9) ?_;refine vk (vbi) ?_
 by_cases hc:dp≤16
 rotate_left
 ·rw [if_neg hc] at h
  cases h
  refine vk (VOK.lit (Aa) (dF hc)) ?_;refine gf ?_;refine gf ?_;refine gf ?_;refine gf ?_;refine gf ?_;refine vk (AF) ?_;refine asd ?_;refine rn ?_;refine .ret ?_
  exact ⟨_,⟨rfl,rfl⟩,rfl,u0⟩
 rw [if_pos hc] at h
 refine vk (VOK.lit (Aa) (dT hc)) ?_;refine vk (vfa BH) ?_;refine vk (As DJ) ?_;refine Xh (avs:=[.bp n3 0,.bp n5 0]) ?_
 obtain ⟨n,h1,h2⟩:=Pa (Int.le_refl 0) h
 have step:=Kb (S:=Int×Int) (step:=NN rc dp) (st:=fun s H'=>Upd H id (EB s.1 s.2) H'∧H'[n3]?=some (.box [.bp id 0])∧H'[n5]?=some (.box [.d (.i .i64 dp)])) (caps:=[.bp n3 0,.bp n5 0]) Tryz.call192 rfl
  (fun x s y H' hs hy=>by
   obtain ⟨hs0,hs3,hs5⟩:=hs
   simp only [NN,Option.map_eq_some_iff] at hy
   obtain ⟨z,hz,rfl⟩:=hy
   refine (JB orc hz hs0.1 hs3 hs5).mono fun v H'' hp=>⟨hp.1,hs0.trans hp.2,?_,?_⟩
   ·rw [hp.2.2.2 n3 g3 (lS.1 hs3).1];exact hs3
   ·rw [hp.2.2.2 n5 g5 (lS.1 hs5).1];exact hs5)
  hlen h1 (H:=H5) ⟨u0,u3,u5⟩
 refine clR (avs:=[.d (.sl (Its a.items)),.fn 192 [] [.bp n3 0,.bp n5 0]]) step Tryz.call179 (fun v H' hp=>?_)
 obtain ⟨rfl,hp⟩:=hp
 refine vk (vnt) ?_
 rw [h2]
 refine vk (AF) ?_;refine asd ?_;refine rn ?_;refine .ret ?_
 exact ⟨_,⟨rfl,rfl⟩,rfl,hp.1⟩
def KZ : Nat→Arr→Int→Int→Int→Option M3
 | 0,_,_,_,_=>none
 | k+1,a,deep,c,d=>if a.items.length≤9223372036854775806 then SL (KZ k) a deep c d else none
theorem NR : ∀ k,OA (KZ k)
 | 0=>fun _ _ _ _ _ h=>by cases h
 | k+1=>fun a deep c d r h H id hH=>by
  rw [KZ] at h
  obtain ⟨hl,h⟩:=EI h
  exact Kf (NR k) hl h hH
def mAr (a:Arr) (deep c d:Int) : Option M3:=KZ (a.size+1) a deep c d
def mIt (x:Itm) (deep c d:Int) : Option M3:=L0 mAr x deep c d
theorem T5 : OA mAr:=fun a deep c d r h=>NR _ a deep c d r h
def Ei (a:Arr) : Option ((Int×Int)×Bool):=(mAr a 0 0 0).map fun z=>if z.1=true then (z.2,true) else ((0,0),false)
theorem HY {a:Arr} {r:(Int×Int)×Bool} (h:Ei a=some r) : Fn Tryz.prog 36 [dvA a] (.tup [.d (.ag [.i .i64 r.1.1,.i .i64 r.1.2]),.d (.b r.2)]):=by
 simp only [Ei,Option.map_eq_some_iff] at h
 obtain ⟨z,hz,rfl⟩:=h
 refine Fn.ofC (rs:=[.cell 2 69,.tmp 3]) (nt:=10) Tryz.func36 rfl rfl rfl (by simp) rfl ?_;refine .sr ?_;refine vk (vbx) ?_;refine vk (van (Ai Mh) Q5) ?_;refine asd ?_;refine rn ?_;refine .sr ?_
 refine al ?_ (Ai Mh) (fun w I μ=>SB w I μ)
 refine rn ?_;refine .seq ?_;refine .sr ?_;refine vk (AN An Ad) ?_
 refine clR (avs:=[.bp 0 0,.d (dvA a),.d (.i .i64 0)]) (T5 a 0 0 0 z hz _ 0 rfl) Tryz.call108 (fun v H' hp=>?_)
 obtain ⟨rfl,hp⟩:=hp
 refine vk (vnt) ?_;refine rn ?_
 by_cases hc:z.1=true
 ·rw [if_pos hc]
  refine cnf (ntf hc) ?_;refine .skip ?_
  show AW _ _ _ _ _ _
  refine .sr ?_;refine vk (N6 (cs:=[.d (.i .i64 z.2.1),.d (.i .i64 z.2.2)]) (ds:=[.i .i64 z.2.1,.i .i64 z.2.2]) hp.1 Tr LI) ?_
  refine stn ?_ LI (by decide)
  refine asd ?_;refine rn ?_;refine .ret ?_
  exact ⟨_,_,⟨.inr rfl,Tr,LI,p2⟩,rfl,rfl⟩
 ·rw [if_neg hc]
  refine cnt (ntt (bf hc)) ?_;refine .sr ?_;refine vk (vbd WX Mh Q5) ?_
  refine stn ?_ LI (by decide)
  refine asd ?_;refine rn ?_;refine .ret ?_
  exact ⟨_,_,⟨.inr rfl,Tr,LI,p2⟩,rfl,rfl⟩
def EP (x:Itm) : Option Bool:=(mIt x 0 0 0).map fun z=>z.1
theorem KY {x:Itm} {r:Bool} (h:EP x=some r) : Fn Tryz.prog 181 [dvI x] (.d (.b r)):=by
 simp only [EP,Option.map_eq_some_iff] at h
 obtain ⟨z,hz,rfl⟩:=h
 refine Fn.o1 2 6 Tryz.func181 ?_;refine .sr ?_;refine vk (vbx) ?_;refine asd ?_;refine rn ?_;refine .sr ?_
 refine al ?_ (Ai Mh) (fun w I μ=>SB w I μ)
 refine vk (AN A8 Az) ?_
 refine clR (avs:=[.bp 0 0,.d (dvI x),.d (.i .i64 0)]) (Hw T5 hz (id:=0) rfl) Tryz.call193 (fun v H' hp=>?_)
 obtain ⟨rfl,hp⟩:=hp
 refine asd ?_;refine rn ?_;refine .ret ?_
 exact ⟨rfl,rfl⟩
def Nm (s:Bool) (n:Nat) : Int×Bool:=if s=true then (if n≤9223372036854775808 then (-(n:Int),true) else (0,false)) else if n<9223372036854775808 then ((n:Int),true) else (0,false)
def KH (a:RT) : Option (Int×Bool):=(HA a).bind fun b=>if b=true then (if (okL 1048576 a.2.1&&decide (Af (val a.2.1)=a.2.1))=true then some (if Br (val a.2.1)≤64 then Nm a.1 (val a.2.1) else (0,false)) else none) else some (0,false)
theorem Xo (w:World) : (zeroValue 131).run Tryz.prog w=.ok (.int .u64 0) w:=by
 simp
theorem zu1 : AC Tryz.prog 131=1:=by kernel_rfl
theorem au1 : Cj Tryz.prog 131=some false:=by kernel_rfl
theorem Un {xs:List Nat} (h:Ok xs) (hl:xs.length≤2) : ∀ j,val (xs.drop (j+1))<4294967296:=by
 intro j
 match xs,hl with
 | [],_=>simp [val]
 | [x],_=>cases j<;>simp [val]
 | [x,y],_ =>
  have hy:y<4294967296:=h y (by simp)
  cases j with
  | zero=>simp [val];omega
  | succ j=>cases j<;>simp [val]
theorem Tf {n:Nat} (h:n≤9223372036854775808) : IntKind.i64.wrap (IntKind.u64.wrap (0-(n:Int)))=-(n:Int):=by
 simp only [IntKind.wrap,IntKind.bits,IntKind.signed];simp;omega
theorem OF {a:RT} {r:Int×Bool} (h:KH a=some r) : Fn Tryz.prog 171 [.ag [.b a.1,.sl (L a.2.1),.sl (L a.2.2)]] (.tup [.d (.i .i64 r.1),.d (.b r.2)]):=by
 unfold KH at h
 obtain ⟨x1,hx1,h⟩:=bnd h
 refine Fn.ofM (rs:=[.tmp 2,.tmp 3]) (nt:=46) Tryz.func171 rfl rfl rfl (by simp) rfl ?_;refine .seqA ?_;refine .region ?_;refine vk (vbx) ?_;refine asd ?_;refine asd ?_;refine rn ?_
 show AWM _ _ _ _ _ _
 refine .seqA ?_;refine .seq ?_;refine .region ?_;refine vk (AN BI AS) ?_;refine vk (Ar (ID hx1) Tryz.call206) ?_;refine vk (vnt) ?_
 cases x1 with
 | false =>
  replace h:=WP (by decide) h
  refine mvd ?_;refine gf ?_;refine gf ?_;refine gf ?_;refine gf ?_;refine vk (AF) ?_;refine rn ?_;refine cnt rfl ?_;refine .seq ?_;refine .region ?_;refine asd ?_;refine asd ?_;refine rn ?_;refine .ret ?_
  cases h
  exact ⟨by decide,rfl,rfl,rfl⟩
 | true =>
  replace h:=WN rfl h
  obtain ⟨hc,h⟩:=EI h
  rw [Bool.and_eq_true,CL] at hc
  obtain ⟨⟨hok,hlen⟩,hdg⟩:=hc
  have hdg:=of_decide_eq_true hdg
  refine mvd ?_;refine vk (vfa DG) ?_;refine vk (As E0) ?_
  refine cl (xs:=[.sl (L a.2.1)]) ?_ (Ur hok hlen) Tryz.call223
  refine vk (vbi) ?_;refine vk (AF) ?_;refine rn ?_
  by_cases hb:Br (val a.2.1)≤64
  ·rw [if_pos hb] at h
   cases h
   have hb1:decide ((64:Int)<(Br (val a.2.1):Nat))=false:=dF (by omega)
   refine cnf hb1 ?_;refine .skip ?_
   show AWM _ _ _ _ _ _
   have hv64:val a.2.1<18446744073709551616:=En.1 hb
   have hlen2:a.2.1.length≤2:=by rw [← hdg];exact CA (by omega)
   have hvs:=Un hok hlen2
   refine .seqA ?_;refine .region ?_
   refine al ?_ Xo (fun w I μ=>.cons (c:=.d (.i .u64 0)) (b1:=[]) (.d (.i _ _)) .nil)
   refine stb (cs:=[.d (.i .u64 0)]) (c:=.d (.i .u64 0)) rfl rfl ?_ zu1
   refine rn ?_
   show AWM _ _ _ _ _ _
   refine .seq rfl ?_;refine .seqA ?_;refine .region ?_;refine vk (vfa DG) ?_;refine vk (As E0) ?_
   refine cl (xs:=[.sl (L a.2.1)]) ?_ (Ot (L a.2.1)) Tryz.call224
   refine rn ?_
   show AWM _ _ _ _ _ _
   obtain ⟨s,xs,den⟩:=a
   dsimp only at *
   have hys:∀ ds∈Iy (L xs),ds.length=2:=fun ds hds=>by
    obtain ⟨k,hk⟩:=List.getElem?_of_mem hds
    rw [(NZ hk).2];rfl
   have hit:=WK (L xs) (by intro x hx;simp only [L,List.mem_map] at hx;obtain ⟨n,_,rfl⟩:=hx;rfl) (by rw [Ab];omega)
   refine .block ?_;refine .rangeFunc rfl rfl rfl Tryz.call243 hit hys (by decide) (by decide) rfl (fun k=>[.box [.d (.i .u64 ((val (xs.drop (xs.length-k)):Nat):Int))]]) (by simp [val]) ?_ ?_
   ·intro l k d1 d2 hk
    obtain ⟨hk1,hk2⟩:=NZ hk
    rw [Ab] at hk1 hk2
    have hj:xs.length-1-k<xs.length:=by omega
    have hxat:(L xs).getD (xs.length-1-k) .np=U xs[xs.length-1-k]:=by
     rw [lD,Fr (lG hj)];rfl
    rw [hxat] at hk2
    simp only [List.cons.injEq,and_true] at hk2
    obtain ⟨rfl,rfl⟩:=hk2
    have hva:=V2 hj
    have hx:=hok.at (lG hj)
    have hsm:=hvs (xs.length-1-k)
    have e1:xs.length-1-k+1=xs.length-k:=by omega
    have e2:xs.length-(k+1)=xs.length-1-k:=by omega
    rw [e1] at hva hsm
    rw [e2]
    generalize xs[xs.length-1-k]=x at *
    generalize val (xs.drop (xs.length-k))=n at *
    rw [hva]
    refine .region ?_;refine asd ?_;refine rn ?_
    show AW _ _ _ _ _ _
    refine .block ?_;refine .region ?_
    refine ldb (cs:=[.d (.i .u64 (n:Int))]) (c:=.d (.i .u64 (n:Int))) rfl rfl ?_ au1
    refine bie (.i .u64 ((n * 4294967296:Nat):Int)) ?_ ?_
    ·refine ⟨by decide,?_⟩
     have:IntKind.u64.wrap ((n:Int) * 4294967296)=((n * 4294967296:Nat):Int):=by
      rw [FQ _ (by omega) (by omega)];omega
     rw [← this];simp [IntKind.bits]
    refine mvd ?_
    refine cve (x:Int) (FQ _ (by omega) (by omega)) ?_ u32 u64
    refine bie (.i .u64 ((n * 4294967296+x:Nat):Int)) ?_ ?_
    ·exact ⟨trivial,by rw [IW hsm hx]⟩
    refine stb (cs:=[.d (.i .u64 (n:Int))]) (c:=.d (.i .u64 (n:Int))) rfl rfl ?_ zu1
    refine .nil ?_
    refine ⟨rfl,?_⟩
    rw [show n * 4294967296+x=x+4294967296 * n by omega]
    rfl
   ·show AWM _ _ _ _ _ _
    refine .lift ?_
    rw [Gr,Ab,Nat.sub_self,List.drop_zero]
    have hn:val xs<18446744073709551616:=hv64
    generalize val xs=n at *
    cases s with
    | true =>
     refine .seq ?_;refine .block ?_;refine .seq ?_;refine .region ?_;refine vk (vfa Dt) ?_;refine vk (As CK) ?_;refine mvd ?_
     refine ldb (cs:=[.d (.i .u64 (n:Int))]) (c:=.d (.i .u64 (n:Int))) rfl rfl ?_ au1
     refine vk (vbi) ?_;refine vk (AF) ?_;refine asd ?_;refine rn ?_
     by_cases hle:n≤9223372036854775808
     ·refine cnt (dT (show (n:Int)≤9223372036854775808 by omega)) ?_
      refine .seq ?_;refine .region ?_
      refine ldb (cs:=[.d (.i .u64 (n:Int))]) (c:=.d (.i .u64 (n:Int))) rfl rfl ?_ au1
      refine vk (vng) ?_;refine vk (vcv u64 i64) ?_;refine asd ?_;refine asd ?_;refine rn ?_;refine .ret ?_
      refine ⟨by decide,?_,rfl,rfl⟩
      rw [show Nm true n=(-(n:Int),true) by rw [Nm,if_pos rfl,if_pos hle],← Tf hle];rfl
     ·refine cnf (dF (show ¬((n:Int)≤9223372036854775808) by omega)) ?_
      refine .seq ?_;refine .region ?_;refine vk (vfa Dt) ?_;refine vk (As CK) ?_;refine vk (vnt) ?_;refine mvd ?_;refine gf ?_;refine gf ?_;refine vk (AF) ?_;refine asd ?_;refine rn ?_;refine cnf rfl ?_;refine .skip ?_
      show AW _ _ _ _ _ _
      refine .seq ?_;refine .region ?_;refine asd ?_;refine asd ?_;refine rn ?_;refine .ret ?_
      exact ⟨by decide,by rw [show Nm true n=(0,false) by rw [Nm,if_pos rfl,if_neg hle]];rfl,rfl,rfl⟩
    | false =>
     refine .seq ?_;refine .block ?_;refine .seq ?_;refine .region ?_;refine vk (vfa Dt) ?_;refine vk (As CK) ?_;refine mvd ?_;refine gf ?_;refine gf ?_;refine vk (AF) ?_;refine asd ?_;refine rn ?_;refine cnf rfl ?_;refine .seq ?_;refine .region ?_;refine vk (vfa Dt) ?_;refine vk (As CK) ?_;refine vk (vnt) ?_;refine mvd ?_
     refine ldb (cs:=[.d (.i .u64 (n:Int))]) (c:=.d (.i .u64 (n:Int))) rfl rfl ?_ au1
     refine vk (vbi) ?_;refine vk (AF) ?_;refine asd ?_;refine rn ?_
     by_cases hlt:n<9223372036854775808
     ·refine cnt (dT (show (n:Int)<9223372036854775808 by omega)) ?_
      refine .seq ?_;refine .region ?_
      refine ldb (cs:=[.d (.i .u64 (n:Int))]) (c:=.d (.i .u64 (n:Int))) rfl rfl ?_ au1
      refine vk (vcv u64 i64) ?_;refine asd ?_;refine asd ?_;refine rn ?_;refine .ret ?_
      refine ⟨by decide,?_,rfl,rfl⟩
      rw [show Nm false n=((n:Int),true) by rw [Nm,if_neg (by decide),if_pos hlt]]
      have:=Sg (n:Int) (by omega) (by omega)
      exact (show AV.tup [.d (.i .i64 (n:Int)),.d (.b true)]=.tup [.d (.i .i64 (IntKind.i64.wrap (n:Int))),.d (.b true)] by rw [this]).trans rfl
     ·refine cnf (dF (show ¬((n:Int)<9223372036854775808) by omega)) ?_
      refine .skip ?_
      show AW _ _ _ _ _ _
      refine .seq ?_;refine .region ?_;refine asd ?_;refine asd ?_;refine rn ?_;refine .ret ?_
      exact ⟨by decide,by rw [show Nm false n=(0,false) by rw [Nm,if_neg (by decide),if_neg hlt]];rfl,rfl,rfl⟩
  ·rw [if_neg hb] at h
   cases h
   have hb1:decide ((64:Int)<(Br (val a.2.1):Nat))=true:=dT (by omega)
   refine cnt hb1 ?_;refine .seq ?_;refine .region ?_;refine asd ?_;refine asd ?_;refine rn ?_;refine .ret ?_
   exact ⟨by decide,rfl,rfl,rfl⟩
def A5 (a0:Arr) : Option (Bool):=((Ei a0).bind fun x1=>(some (x1.2)))
theorem Bw {a0:Arr} {r:Bool} (h:A5 a0=some r) :
  Fn Tryz.prog 13 [.ag [.sl (Is a0.shape),.sl (Its a0.items)]] (.d (.b r)):=by
 unfold A5 at h
 refine Fn.o1 2 11 Tryz.func13 ?_;refine .sr ?_;refine vk (vbx) ?_;refine ar [1,2] ?_;refine .sr ?_;refine vk (AN An Ad) ?_
 obtain ⟨x1,g1,h⟩:=bnd h
 refine vk (VOK.tupd (vs:=[.ag [.i .i64 x1.1.1,.i .i64 x1.1.2],.b x1.2]) (Ar (HY g1) Tryz.call36)) ?_;refine vk (Aa) ?_;refine vk (vex) ?_;refine vk (vex) ?_;refine vk (van (Ai Mh) Q5) ?_
 refine stn ?_ LI (by decide)
 refine ar [2,4] ?_;refine .sr ?_;refine vk (Aa) ?_;refine ar [2] ?_;refine .ret ?_
 cases h
 exact ⟨rfl,rfl⟩
def EN (a0:Arr) : Option (Int):=((Ei a0).bind fun x1=>(some (x1.1.1)))
theorem KK {a0:Arr} {r:Int} (h:EN a0=some r) :
  Fn Tryz.prog 184 [.ag [.sl (Is a0.shape),.sl (Its a0.items)]] (.d (.i .i64 r)):=by
 unfold EN at h
 refine Fn.o1 2 12 Tryz.func184 ?_;refine .sr ?_;refine vk (vbx) ?_;refine ar [1,2] ?_;refine .sr ?_;refine vk (AN An Ad) ?_
 obtain ⟨x1,g1,h⟩:=bnd h
 refine vk (VOK.tupd (vs:=[.ag [.i .i64 x1.1.1,.i .i64 x1.1.2],.b x1.2]) (Ar (HY g1) Tryz.call36)) ?_;refine vk (Aa) ?_;refine vk (vex) ?_;refine vk (vex) ?_;refine vk (van (Ai Mh) Q5) ?_
 refine stn ?_ LI (by decide)
 refine ar [2,3] ?_;refine .seq ?_;refine .gh (Gh.nbp (t:=3) rfl) ?_;refine .region ?_;refine vk (vfa Ku) ?_;refine vk (As A9) ?_;refine ar [2] ?_;refine .ret ?_
 cases h
 exact ⟨rfl,rfl⟩
def EG (a0:Arr) (a1:Arr) : Option (Bool):=((A5 a0).bind fun x1=>(Option.bind ((if x1=true then ((A5 a1).bind fun x3=>(if x3=true then ((KU a0 a1).bind fun x4=>(some x4)) else (some false))) else (some false)) : Option (Bool)) fun (z1:Bool)=>(some (z1))))
theorem LF {a0:Arr} {a1:Arr} {r:Bool} (h:EG a0 a1=some r) :
  Fn Tryz.prog 14 [.ag [.sl (Is a0.shape),.sl (Its a0.items)],.ag [.sl (Is a1.shape),.sl (Its a1.items)]] (.d (.b r)):=by
 unfold EG at h
 refine Fn.o1 4 16 Tryz.func14 ?_;refine .sr ?_;refine vk (vbx) ?_;refine vk (vbx) ?_;refine ar [2,3,4] ?_;refine .seq ?_
 obtain ⟨x1,g1,h⟩:=bnd h
 obtain ⟨z1,hz,h⟩:=bnd h
 refine AW.mr (σ:=Unit) (fun _=>True) (fun _=>[(4,.d (.b z1))]) (fun _=>[]) ?_ ?_
 ·skip
  refine .region ?_;refine vk (AN An Ad) ?_;refine vk (Ar (Bw g1) Tryz.call13) ?_
  rcases brc hz with ⟨hc,hz⟩|⟨hc,hz⟩
  ·have hb0:x1=true:=hc
   refine vk (VOK.lit (Aa) hb0) ?_;refine vk (AN An Ad) ?_
   obtain ⟨x3,g3,hz⟩:=bnd hz
   refine vk (Ar (Bw g3) Tryz.call13) ?_;refine vk (AF) ?_
   rcases brc hz with ⟨hc,hz⟩|⟨hc,hz⟩
   ·have hb1:x3=true:=hc
    refine vk (VOK.lit (Aa) hb1) ?_;refine vk (AN An Ad) ?_;refine vk (AN An Ad) ?_
    obtain ⟨x4,g4,hz⟩:=bnd hz
    refine vk (Ar (N0 g4) Tryz.call37) ?_;refine vk (AF) ?_;refine asd ?_;refine RL.gk [4] ?_;refine .nil ?_
    cases hz
    exact jr () trivial
   have hb1:x3=false:=(bf hc)
   refine vk (VOK.lit (Aa) hb1) ?_;refine gf ?_;refine gf ?_;refine gf ?_;refine vk (AF) ?_;refine asd ?_;refine RL.gk [4] ?_;refine .nil ?_
   cases hz
   exact jr () trivial
  have hb0:x1=false:=(bf hc)
  refine vk (VOK.lit (Aa) hb0) ?_;refine gf ?_;refine gf ?_;refine vk (AF) ?_;refine vk (Aa) ?_;refine gf ?_;refine gf ?_;refine gf ?_;refine vk (AF) ?_;refine asd ?_;refine RL.gk [4] ?_;refine .nil ?_
  cases hz
  exact jr () trivial
 rintro _ _
 refine .ret ?_
 cases h
 exact ⟨rfl,rfl⟩
def Ao (a0:(List Itm)) (a1:Cb) (K0:Int→Option (Int)) : Nat→Int→Int→Option (Int)
 | 0,_,_=>none
 | k+1,s2,s3=>(if s3<((List.length a0:Nat):Int) then ((rd? a0 s3).bind fun x4=>((a1.g x4).bind fun x5=>(if x5=true then (some (s3)) else (Ao a0 a1 K0 k s2 (w64 (s3+1)))))) else (K0 s2))
def A2 (a0:(List Itm)) (a1:Cb) : Option (Int):=(jn (fun (z1:Int)=>(some ((-1)))) fun K0=>(Ao a0 a1 K0 A4 0 0))
theorem Dq {a0:(List Itm)} {a1:Cb} (oa1:I0 a1) {r:Int} (h:A2 a0 a1=some r) :
  Fn Tryz.prog 227 [.sl (Its a0),a1.dv] (.d (.i .i64 r)):=by
 unfold A2 at h
 refine Fn.o1 4 19 Tryz.func227 ?_;refine .sr ?_;refine ar [0,1,4] ?_;refine .seq ?_;refine .sr ?_;refine vk (Aa) ?_;refine vk (Cc (A0 _) (Ev _) Ej) ?_;refine vk (Aa) ?_;refine rk [0,1,4,7,8] ?_
 obtain ⟨K0,hK0,h⟩:=BU h
 refine AW.mr (σ:=Int) (fun p=>K0 p=some r) (fun p=>[(4,.d (.i .i64 p))]) (fun p=>[]) ?_ ?_
 ·skip
  refine .block ?_
  refine .loop (.gk [0,1,4,7,8] ?_)
  refine AL.ind (σ:=Nat×Int×Int) (m:=fun p=>p.1) (e:=fun p=>[(0,.d (.sl (Its a0))),(1,.d (a1.dv)),(4,.d (.i .i64 p.2.1)),(7,.d (.i .i64 ((List.length a0:Nat):Int))),(8,.d (.i .i64 p.2.2))]) (h:=fun p=>[]) (I:=fun p=>Ao a0 a1 K0 p.1 p.2.1 p.2.2=some r) ?_ (A4,0,0) h
  rintro ⟨k,s2,s3⟩ h ih
  dsimp only at h ih ⊢
  rcases k with _|k
  ·rw [Ao] at h;cases h
  rw [Ao] at h
  refine .sr ?_;refine vk (vbi) ?_;refine rk [0,1,4,7,8,9] ?_;refine .seq ?_
  rcases brc h with ⟨hc,h⟩|⟨hc,h⟩
  ·refine cnt (dT hc) ?_
   refine .skip ?_
   show AW _ _ _ _ _ _
   refine .seq ?_;refine .block ?_;refine .sr ?_;refine vk (Aa) ?_;refine ar [0,1,4,5,7,8] ?_;refine .sr ?_;refine vk (Aa) ?_;refine vk (Aa) ?_;refine vk (Aa) ?_
   obtain ⟨x4,g4,h⟩:=bnd h
   obtain ⟨n4,p04,q4⟩:=Av g4
   refine vk (vix n4 p04 (Eo q4) rfl D6) ?_;refine vk (AN A8 Az) ?_
   obtain ⟨x5,g5,h⟩:=bnd h
   refine vk (Nn (oa1 _ _ g5)) ?_;refine rk [0,1,4,5,7,8,16] ?_
   rcases brc h with ⟨hc,h⟩|⟨hc,h⟩
   ·refine cnt hc ?_
    refine .sr ?_;refine vk (Aa) ?_;refine ar [0,1,4,7,8] ?_;refine .ret ?_
    cases h
    exact ⟨rfl,rfl⟩
   refine cnf (bf hc) ?_;refine .skip ?_
   show AW _ _ _ _ _ _
   refine .region ?_;refine vk (vbi) ?_;refine vk (Aa) ?_;refine .nil ?_;refine AL.gk [0,1,4,7,8] ?_
   exact ih (k,s2,(w64 (s3+1))) h (Nat.lt_succ_self _)
  refine cnf (dF hc) ?_;refine .gk [4] ?_;refine .exit ?_
  exact jr (s2) h
 rintro z1 h
 try dsimp only at h ⊢
 subst hK0
 show AW _ _ _ _ _ _
 refine .sr ?_;refine ar [4] ?_;refine .ret ?_
 cases h
 exact ⟨rfl,rfl⟩
def AG (a0:(List Itm)) (a1:Cb) : Option (Bool):=((A2 a0 a1).bind fun x1=>(some ((decide (0≤x1)))))
theorem C7 {a0:(List Itm)} {a1:Cb} (oa1:I0 a1) {r:Bool} (h:AG a0 a1=some r) :
  Fn Tryz.prog 179 [.sl (Its a0),a1.dv] (.d (.b r)):=by
 unfold AG at h
 refine Fn.o1 4 9 Tryz.func179 ?_;refine .sr ?_;refine ar [0,1,4] ?_;refine .sr ?_;refine vk (Aa) ?_;refine vk (Aa) ?_
 obtain ⟨x1,g1,h⟩:=bnd h
 refine vk (Ar (Dq oa1 g1) Tryz.call227) ?_;refine vk (vbi) ?_;refine ar [4] ?_;refine .ret ?_
 cases h
 exact ⟨rfl,rfl⟩
def D4 (a0:Itm) : Option (Bool):=((EP a0).bind fun x1=>(some ((!x1))))
theorem Kj {a0:Itm} {r:Bool} (h:D4 a0=some r) :
  Fn Tryz.prog 180 [.ag [.i .u8 a0.kind,.b a0.num.1,.sl (L a0.num.2.1),.sl (L a0.num.2.2),.i .i32 a0.char,.sl (Ars a0.box)]] (.d (.b r)):=by
 unfold D4 at h
 refine Fn.o1 2 6 Tryz.func180 ?_;refine .sr ?_;refine vk (vbx) ?_;refine ar [1,2] ?_;refine .sr ?_;refine vk (AN A8 Az) ?_
 obtain ⟨x1,g1,h⟩:=bnd h
 refine vk (Ar (KY g1) Tryz.call181) ?_;refine vk (vnt) ?_;refine ar [2] ?_;refine .ret ?_
 cases h
 exact ⟨rfl,rfl⟩
def Cg (x12:Itm) (K4:Int→Option (Arr×Int)) : Nat→Int→Int→Option (Arr×Int)
 | 0,_,_=>none
 | k+1,s14,s15=>(if s15<((List.length x12.box:Nat):Int) then ((rd? x12.box s15).bind fun x16=>((EN x16).bind fun x17=>(Cg x12 K4 k (w64 (s14+x17)) (w64 (s15+1))))) else (K4 s14))
def BO (a1:(List Itm)) (K1:(List Int)→Option (Arr×Int)) : Nat→(List Int)→Int→Option (Arr×Int)
 | 0,_,_=>none
 | k+1,s9,s10=>(if s10<((List.length a1:Nat):Int) then (jn (fun (z11:(List Int))=>(BO a1 K1 k z11 (w64 (s10+1)))) fun K3=>((rd? a1 s10).bind fun x12=>(jn (fun (z13:Int)=>((ap? 17592186044416 s9 [z13]).bind fun x18=>(K3 x18))) fun K4=>(Cg x12 K4 A4 1 0)))) else (K1 s9))
def BR (a1:(List Itm)) (x1:Int×Int) (z8:(List Int)) (K6:Arr→Int→(List Int)→(List Itm)→Option (Arr×Int)) : Nat→Arr→Int→Int→Int→(List Int)→(List Itm)→Option (Arr×Int)
 | 0,_,_,_,_,_,_=>none
 | k+1,s23,s24,s25,s26,s27,s28=>(if s25<x1.1 then ((Fs (((List.length a1:Nat):Int)≠0)).bind fun x29=>((rd? z8 (Int.tmod s25 ((List.length a1:Nat):Int))).bind fun x30=>(if 16384<(w64 (s26+x30)) then (some ((Arr.mk [] []),8)) else ((Fs (((List.length a1:Nat):Int)≠0)).bind fun x31=>((rd? a1 (Int.tmod s25 ((List.length a1:Nat):Int))).bind fun x32=>((Fy x32).bind fun x33=>((ap? 1466015503701 s28 [x33]).bind fun x34=>(BR a1 x1 z8 K6 k s23 s24 (w64 (s25+1)) (w64 (s26+x30)) s27 x34)))))))) else (K6 s23 s24 s27 s28))
def Ax (a0:(List Int)) (a1:(List Itm)) : Option (Arr×Int):=((CU a0).bind fun x1=>(if x1.2=0 then (Option.bind ((if ((List.length a1:Nat) : Int)=0 then (some true) else ((AG a1 (⟨.fn 180 [] [],fun x=>D4 x⟩ : Cb)).bind fun x3=>(some x3))) : Option (Bool)) fun (z2:Bool)=>(if z2=true then (some ((Arr.mk [] []),22)) else ((DM a0).bind fun x4=>(jn (fun (z5:(List Itm))=>(jn (fun (z8:(List Int))=>(jn (fun (z19:Arr) (z20:Int) (z21:(List Int)) (z22:(List Itm))=>((A5 (Arr.mk z21 z22)).bind fun x35=>(if x35=true then (some ((Arr.mk z21 z22),0)) else (some ((Arr.mk [] []),8))))) fun K6=>(BR a1 x1 z8 K6 A4 (Arr.mk [] []) 0 0 0 x4 z5))) fun K1=>(BO a1 K1 A4 [] 0))) fun K0=>(if x1.1=0 then ((rd? a1 0).bind fun x6=>((IT x6).bind fun x7=>(K0 ([x7])))) else (K0 [])))))) else (some ((Arr.mk [] []),x1.2))))
set_option maxHeartbeats 4000000 in
theorem FF {a0:(List Int)} {a1:(List Itm)} {r:Arr×Int} (h:Ax a0 a1=some r) :
  Fn Tryz.prog 99 [.sl (Is a0),.sl (Its a1)] (.tup [.d (.ag [.sl (Is r.1.shape),.sl (Its r.1.items)]),.d (.i .i64 r.2)]):=by
 unfold Ax at h
 refine Fn.ofC (rs:=[.cell 4 25,.tmp 5]) (nt:=105) Tryz.func99 rfl rfl rfl (by simp) rfl ?_;refine .sr ?_;refine vk (van (Ai A1) A7) ?_;refine ar [0,1,4,5] ?_;refine .sr ?_;refine vk (Aa) ?_
 obtain ⟨x1,g1,h⟩:=bnd h
 refine vk (VOK.tupd (vs:=[.i .i64 x1.1,.i .i64 x1.2]) (Ar (Dz g1) Tryz.call98)) ?_;refine vk (Aa) ?_;refine vk (vex) ?_;refine vk (vex) ?_;refine asd ?_;refine ar [0,1,4,5,6,7] ?_;refine .seq ?_;refine .block ?_;refine .sr ?_;refine vk (Aa) ?_;refine vk (vbi) ?_;refine ar [0,1,4,5,6,7,22] ?_
 rcases brc h with ⟨hc,h⟩|⟨hc,h⟩
 ·refine cnf (ntf (dT hc)) ?_
  refine .seq ?_
  obtain ⟨z2,hz,h⟩:=bnd h
  refine AW.mr (σ:=Unit) (fun _=>True) (fun _=>[(0,.d (.sl (Is a0))),(1,.d (.sl (Its a1))),(4,.nb [.sl (Is []),.sl (Its [])]),(5,.d (.i .i64 0)),(6,.d (.i .i64 x1.1)),(27,.d (.b z2))]) (fun _=>[]) ?_ ?_
  ·skip
   refine .region ?_;refine vk (Aa) ?_;refine vk (Cc (A0 _) (Ev _) Ej) ?_;refine vk (vbi) ?_
   rcases brc hz with ⟨hc,hz⟩|⟨hc,hz⟩
   ·have hb0:(decide (((List.length a1:Nat):Int)=0))=true:=(dT hc)
    refine vk (VOK.lit (Aa) hb0) ?_;refine gf ?_;refine gf ?_;refine vk (AF) ?_;refine asd ?_;refine RL.gk [0,1,4,5,6,27] ?_;refine .nil ?_
    cases hz
    exact jr () trivial
   have hb0:(decide (((List.length a1:Nat):Int)=0))=false:=(dF hc)
   refine vk (VOK.lit (Aa) hb0) ?_;refine vk (Aa) ?_
   obtain ⟨x3,g3,hz⟩:=bnd hz
   refine vk (Ar (C7 (D5 Tryz.call180 (fun _ _ h=>Kj h)) g3) Tryz.call179) ?_;refine vk (AF) ?_;refine asd ?_;refine RL.gk [0,1,4,5,6,27] ?_;refine .nil ?_
   cases hz
   exact jr () trivial
  rintro _ _
  rcases brc h with ⟨hc,h⟩|⟨hc,h⟩
  ·refine cnt hc ?_
   refine .sr ?_;refine vk (vbd Ep A1 A7) ?_
   refine stn ?_ Ad (by decide)
   refine ar [0,1,4,5,6] ?_;refine .ret ?_
   cases h
   exact ⟨_,_,⟨.inr rfl,An,Ad,p2⟩,rfl,rfl⟩
  refine cnf (bf hc) ?_;refine .skip ?_
  show AW _ _ _ _ _ _
  refine .sr ?_;refine vk (Aa) ?_
  obtain ⟨x4,g4,h⟩:=bnd h
  refine vk ((Ar (FJ g4) Tryz.call182).deep) ?_;refine vk (WA Ep A1 (fun w I μ=>QS w I μ)) ?_;refine vk (van (Ai A1) A7) ?_
  refine V4 ?_ Ad (by decide)
  refine rk [1,4,5,6,8] ?_;refine .seq ?_;refine .sr ?_;refine vk (Aa) ?_;refine vk (vbi) ?_;refine rk [1,4,5,6,8,40] ?_
  obtain ⟨K0,hK0,h⟩:=BU h
  refine AW.mr (σ:=(List Itm)) (fun p=>K0 p=some r) (fun p=>[(1,.d (.sl (Its a1))),(4,.nb [.sl (Is []),.sl (Its [])]),(5,.d (.i .i64 0)),(6,.d (.i .i64 x1.1)),(8,.bp 0 0)]) (fun p=>[HO.box [.d (.sl (Is x4)),.own 83 (Its p)]]) ?_ ?_
  ·skip
   rcases brc h with ⟨hc,h⟩|⟨hc,h⟩
   ·refine cnt (dT hc) ?_
    refine .region ?_;refine vk (Aa) ?_
    obtain ⟨x6,g6,h⟩:=bnd h
    obtain ⟨n6,p06,q6⟩:=Av g6
    refine vk (vix n6 p06 (Eo q6) rfl D6) ?_;refine vk (AN A8 Az) ?_
    obtain ⟨x7,g7,h⟩:=bnd h
    refine vk (Ar (J9 g7) Tryz.call183) ?_;refine vk (FS (FA x7) (EH [x7]) D7) ?_;refine vk (Kl BH) ?_
    refine Rs (cs:=[.d (.sl (Is x4)),.nl]) (c:=.nl) rfl rfl ?_ Pz
    refine RL.gk [1,4,5,6,8] ?_;refine .nil ?_
    exact jr ([x7]) h
   refine cnf (dF hc) ?_;refine .gh (Gh.nlOwnC (id:=0) (off:=1) 83 (by rw [Qh];decide)) ?_;refine .gk [1,4,5,6,8] ?_;refine .skip ?_
   exact jr ([]) h
  rintro z5 h
  try dsimp only at h ⊢
  subst hK0
  show AW _ _ _ _ _ _
  refine .sr ?_;refine asn ?_;refine rk [1,4,5,6,8,9] ?_;refine .seq ?_;refine .sr ?_;refine vk (Aa) ?_;refine vk (Cc (A0 _) (Ev _) Ej) ?_;refine vk (Aa) ?_;refine rk [1,4,5,6,8,9,47,48,49] ?_
  obtain ⟨K1,hK1,h⟩:=BU h
  refine AW.mr (σ:=(List Int)) (fun p=>K1 p=some r) (fun p=>[(1,.d (.sl (Its a1))),(4,.nb [.sl (Is []),.sl (Its [])]),(5,.d (.i .i64 0)),(6,.d (.i .i64 x1.1)),(8,.bp 0 0),(9,.own 3 (Is p))]) (fun p=>[HO.box [.d (.sl (Is x4)),.own 83 (Its z5)]]) ?_ ?_
  ·skip
   refine .block ?_;refine .gh (Gh.nlOwn (t:=9) 3 (by rw [Fl];decide) rfl) ?_
   refine .loop (.gk [1,4,5,6,8,9,47,48,49] ?_)
   refine AL.ind (σ:=Nat×(List Int)×Int) (m:=fun p=>p.1) (e:=fun p=>[(1,.d (.sl (Its a1))),(4,.nb [.sl (Is []),.sl (Its [])]),(5,.d (.i .i64 0)),(6,.d (.i .i64 x1.1)),(8,.bp 0 0),(9,.own 3 (Is p.2.1)),(47,.d (.sl (Its a1))),(48,.d (.i .i64 ((List.length a1:Nat):Int))),(49,.d (.i .i64 p.2.2))]) (h:=fun p=>[HO.box [.d (.sl (Is x4)),.own 83 (Its z5)]]) (I:=fun p=>BO a1 K1 p.1 p.2.1 p.2.2=some r) ?_ (A4,[],0) h
   rintro ⟨k,s9,s10⟩ h ih
   dsimp only at h ih ⊢
   rcases k with _|k
   ·rw [BO] at h;cases h
   rw [BO] at h
   refine .sr ?_;refine vk (vbi) ?_;refine rk [1,4,5,6,8,9,47,48,49,50] ?_;refine .seq ?_
   rcases brc h with ⟨hc,h⟩|⟨hc,h⟩
   ·refine cnt (dT hc) ?_
    refine .skip ?_
    show AW _ _ _ _ _ _
    obtain ⟨K3,hK3,h⟩:=BU h
    refine AW.mj (σ:=(List Int)) (fun p=>K3 p=some r) (fun p=>[(1,.d (.sl (Its a1))),(4,.nb [.sl (Is []),.sl (Its [])]),(5,.d (.i .i64 0)),(6,.d (.i .i64 x1.1)),(8,.bp 0 0),(9,.own 3 (Is p)),(47,.d (.sl (Its a1))),(48,.d (.i .i64 ((List.length a1:Nat):Int))),(49,.d (.i .i64 s10))]) (fun p=>[HO.box [.d (.sl (Is x4)),.own 83 (Its z5)]]) ?_ ?_
    ·skip
     refine .block ?_;refine .sr ?_
     obtain ⟨x12,g12,h⟩:=bnd h
     obtain ⟨n12,p012,q12⟩:=Av g12
     refine vk (vix n12 p012 (Eo q12) rfl D6) ?_;refine vk (AN A8 Az) ?_;refine vk (van (Ai B6) B9) ?_
     refine stn ?_ Az (by decide)
     refine rk [1,4,5,6,8,9,11,47,48,49] ?_;refine .sr ?_;refine ar [1,4,5,6,8,9,11,12,47,48,49] ?_;refine .seq ?_;refine .seq ?_;refine .gh (Gh.nbp (t:=11) rfl) ?_;refine .region ?_;refine vk (vfa CN) ?_;refine vk (As EQ) ?_;refine vk (Cc (CF _) (GB _) GD) ?_;refine vk (Aa) ?_;refine rk [1,4,5,6,8,9,12,47,48,49,54,55,56] ?_
     obtain ⟨K4,hK4,h⟩:=BU h
     refine AW.mr (σ:=Int) (fun p=>K4 p=some r) (fun p=>[(1,.d (.sl (Its a1))),(4,.nb [.sl (Is []),.sl (Its [])]),(5,.d (.i .i64 0)),(6,.d (.i .i64 x1.1)),(8,.bp 0 0),(9,.own 3 (Is s9)),(12,.d (.i .i64 p)),(47,.d (.sl (Its a1))),(48,.d (.i .i64 ((List.length a1:Nat):Int))),(49,.d (.i .i64 s10))]) (fun p=>[HO.box [.d (.sl (Is x4)),.own 83 (Its z5)]]) ?_ ?_
     ·skip
      refine .block ?_
      refine .loop (.gk [1,4,5,6,8,9,12,47,48,49,54,55,56] ?_)
      refine AL.ind (σ:=Nat×Int×Int) (m:=fun p=>p.1) (e:=fun p=>[(1,.d (.sl (Its a1))),(4,.nb [.sl (Is []),.sl (Its [])]),(5,.d (.i .i64 0)),(6,.d (.i .i64 x1.1)),(8,.bp 0 0),(9,.own 3 (Is s9)),(12,.d (.i .i64 p.2.1)),(47,.d (.sl (Its a1))),(48,.d (.i .i64 ((List.length a1:Nat):Int))),(49,.d (.i .i64 s10)),(54,.d (.sl (Ars x12.box))),(55,.d (.i .i64 ((List.length x12.box:Nat):Int))),(56,.d (.i .i64 p.2.2))]) (h:=fun p=>[HO.box [.d (.sl (Is x4)),.own 83 (Its z5)]]) (I:=fun p=>Cg x12 K4 p.1 p.2.1 p.2.2=some r) ?_ (A4,1,0) h
      rintro ⟨k,s14,s15⟩ h ih
      dsimp only at h ih ⊢
      rcases k with _|k
      ·rw [Cg] at h;cases h
      rw [Cg] at h
      refine .sr ?_;refine vk (vbi) ?_;refine rk [1,4,5,6,8,9,12,47,48,49,54,55,56,57] ?_;refine .seq ?_
      rcases brc h with ⟨hc,h⟩|⟨hc,h⟩
      ·refine cnt (dT hc) ?_
       refine .skip ?_
       show AW _ _ _ _ _ _
       refine .seq ?_;refine .block ?_;refine .sr ?_
       obtain ⟨x16,g16,h⟩:=bnd h
       obtain ⟨n16,p016,q16⟩:=Av g16
       refine vk (vix n16 p016 (GC q16) rfl GI) ?_;refine vk (AN An Ad) ?_;refine vk (van (Ai A1) A7) ?_
       refine stn ?_ Ad (by decide)
       refine rk [1,4,5,6,8,9,12,14,47,48,49,54,55,56] ?_;refine .region ?_;refine vk (Aa) ?_;refine vk (GZ An Ad) ?_
       obtain ⟨x17,g17,h⟩:=bnd h
       refine vk (Ar (KK g17) Tryz.call184) ?_;refine vk (vbi) ?_;refine asd ?_;refine .nil ?_
       show AW _ _ _ _ _ _
       refine .gk [1,4,5,6,8,9,12,47,48,49,54,55,56] ?_;refine .region ?_;refine vk (vbi) ?_;refine vk (Aa) ?_;refine .nil ?_;refine AL.gk [1,4,5,6,8,9,12,47,48,49,54,55,56] ?_
       exact ih (k,(w64 (s14+x17)),(w64 (s15+1))) h (Nat.lt_succ_self _)
      refine cnf (dF hc) ?_;refine .gk [1,4,5,6,8,9,12,47,48,49] ?_;refine .exit ?_
      exact jr (s14) h
     rintro z13 h
     try dsimp only at h ⊢
     subst hK4
     show AW _ _ _ _ _ _
     refine .region ?_;refine mvo ?_;refine vk (Aa) ?_;refine vk ((IZ (IY [z13]) FT).deep) ?_
     obtain ⟨x18,g18,h⟩:=bnd h
     refine T4 NA g18 Ra ?_ Ld AB FT
     refine aso ?_;refine RL.gk [1,4,5,6,8,9,47,48,49] ?_;refine .nil ?_
     exact jr (x18) h
    rintro z11 h
    try dsimp only at h ⊢
    subst hK3
    refine .region ?_;refine vk (vbi) ?_;refine vk (Aa) ?_;refine .nil ?_;refine AL.gk [1,4,5,6,8,9,47,48,49] ?_
    exact ih (k,z11,(w64 (s10+1))) h (Nat.lt_succ_self _)
   refine cnf (dF hc) ?_;refine .gk [1,4,5,6,8,9] ?_;refine .exit ?_
   exact jr (s9) h
  rintro z8 h
  try dsimp only at h ⊢
  subst hK1
  show AW _ _ _ _ _ _
  refine .seq ?_;refine .sr ?_;refine asd ?_;refine ar [1,4,5,6,8,9,15,16] ?_
  obtain ⟨K6,hK6,h⟩:=BU h
  refine AW.mr (σ:=Arr×Int×(List Int)×(List Itm)) (fun p=>K6 p.1 p.2.1 p.2.2.1 p.2.2.2=some r) (fun p=>[(4,.nb [.sl (Is p.1.shape),.sl (Its p.1.items)]),(5,.d (.i .i64 p.2.1)),(8,.bp 0 0)]) (fun p=>[HO.box [.d (.sl (Is p.2.2.1)),.own 83 (Its p.2.2.2)]]) ?_ ?_
  ·skip
   refine .block ?_;refine .gh (Gh.frz (p:=.t 9) rfl (by (intro _ _ h;cases h<;>decide))) ?_
   refine .loop (.gk [1,4,5,6,8,9,15,16] ?_)
   refine AL.ind (σ:=Nat×Arr×Int×Int×Int×(List Int)×(List Itm)) (m:=fun p=>p.1) (e:=fun p=>[(1,.d (.sl (Its a1))),(4,.nb [.sl (Is p.2.1.shape),.sl (Its p.2.1.items)]),(5,.d (.i .i64 p.2.2.1)),(6,.d (.i .i64 x1.1)),(8,.bp 0 0),(9,.d (.sl (Is z8))),(15,.d (.i .i64 p.2.2.2.1)),(16,.d (.i .i64 p.2.2.2.2.1))]) (h:=fun p=>[HO.box [.d (.sl (Is p.2.2.2.2.2.1)),.own 83 (Its p.2.2.2.2.2.2)]]) (I:=fun p=>BR a1 x1 z8 K6 p.1 p.2.1 p.2.2.1 p.2.2.2.1 p.2.2.2.2.1 p.2.2.2.2.2.1 p.2.2.2.2.2.2=some r) ?_ (A4,(Arr.mk [] []),0,0,0,x4,z5) h
   rintro ⟨k,s23,s24,s25,s26,s27,s28⟩ h ih
   dsimp only at h ih ⊢
   rcases k with _|k
   ·rw [BR] at h;cases h
   rw [BR] at h
   refine .seq ?_;refine .sr ?_;refine vk (Aa) ?_;refine vk (Aa) ?_;refine vk (vbi) ?_;refine rk [1,4,5,6,8,9,15,16,72] ?_
   rcases brc h with ⟨hc,h⟩|⟨hc,h⟩
   ·refine cnt (dT hc) ?_
    refine .skip ?_
    show AW _ _ _ _ _ _
    refine .seq ?_;refine .block ?_;refine .seq ?_;refine .sr ?_;refine vk (Aa) ?_;refine vk (Aa) ?_;refine vk (Aa) ?_;refine vk (Aa) ?_;refine vk (Cc (A0 _) (Ev _) Ej) ?_
    obtain ⟨x29,g29,h⟩:=bnd h
    refine vk (NM (FP g29)) ?_
    obtain ⟨x30,g30,h⟩:=bnd h
    obtain ⟨n30,p030,q30⟩:=Av g30
    refine vk (vix n30 p030 (Cv q30) rfl Cw) ?_;refine vk (As A9) ?_;refine vk (vbi) ?_;refine ar [1,4,5,6,8,9,15,16] ?_;refine .sr ?_;refine vk (Aa) ?_;refine vk (vbi) ?_;refine rk [1,4,5,6,8,9,15,16,85] ?_
    rcases brc h with ⟨hc,h⟩|⟨hc,h⟩
    ·refine cnt (dT hc) ?_
     refine .sr ?_;refine vk (vbd Ep A1 A7) ?_
     refine stn ?_ Ad (by decide)
     refine ar [1,4,5,6,8,9,15,16] ?_;refine .ret ?_
     cases h
     exact ⟨_,_,⟨.inr rfl,An,Ad,p2⟩,rfl,rfl⟩
    refine cnf (dF hc) ?_;refine .skip ?_
    show AW _ _ _ _ _ _
    refine .drawn 11 BN (by kernel_rfl) ?_;refine dv (Kl BH) ?_;refine dv (QW (cs:=[.d (.sl (Is s27)),.own 83 (Its s28)]) rfl rfl DJ) ?_;refine dv (Aa) ?_;refine dv (Aa) ?_;refine dv (Aa) ?_;refine dv (Cc (A0 _) (Ev _) Ej) ?_
    obtain ⟨x31,g31,h⟩:=bnd h
    refine dv (NM (FP g31)) ?_
    obtain ⟨x32,g32,h⟩:=bnd h
    obtain ⟨n32,p032,q32⟩:=Av g32
    refine dv (vix n32 p032 (Eo q32) rfl D6) ?_;refine dv (AN A8 Az) ?_
    obtain ⟨x33,g33,h⟩:=bnd h
    refine dv (Ar (Gp g33) Tryz.call173) ?_;refine dv ((FS (FA x33) (EH [x33]) D7).deep) ?_;refine dz ?_
    obtain ⟨x34,g34,h⟩:=bnd h
    refine Wn HN g34 rfl rfl Jk ?_ Gl A0 D7
    refine RL.gk [1,4,5,6,8,9,15,16,85,87,89,90,91,92,93,94,95,96,97,98] ?_;refine vk (Kl BH) ?_
    refine Rs (cs:=[.d (.sl (Is s27)),.un]) (c:=.un) rfl rfl ?_ Pz
    refine .nil ?_
    show AW _ _ _ _ _ _
    refine .gk [1,4,5,6,8,9,15,16] ?_;refine .region ?_;refine vk (Aa) ?_;refine vk (vbi) ?_;refine asd ?_;refine .nil ?_;refine AL.gk [1,4,5,6,8,9,15,16] ?_
    exact ih (k,s23,s24,(w64 (s25+1)),(w64 (s26+x30)),s27,x34) h (Nat.lt_succ_self _)
   refine cnf (dF hc) ?_;refine .gk [4,5,8] ?_;refine .exit ?_
   exact jr (s23,s24,s27,s28) h
  rintro ⟨z19,z20,z21,z22⟩ h
  try dsimp only at h ⊢
  subst hK6
  show AW _ _ _ _ _ _
  refine .seq ?_;refine .sr ?_;refine fz (p:=.c 0 1) ?_;refine vk (N6 (cs:=[.d (.sl (Is z21)),.d (.sl (Its z22))]) (ds:=[.sl (Is z21),.sl (Its z22)]) rfl An Ad) ?_
  obtain ⟨x35,g35,h⟩:=bnd h
  refine vk (Ar (Bw g35) Tryz.call13) ?_;refine vk (vnt) ?_;refine rk [4,5,8,102] ?_
  rcases brc h with ⟨hc,h⟩|⟨hc,h⟩
  ·refine cnf (ntf hc) ?_
   refine .skip ?_
   show AW _ _ _ _ _ _
   refine .sr ?_;refine vk (N6 (cs:=[.d (.sl (Is z21)),.d (.sl (Its z22))]) (ds:=[.sl (Is z21),.sl (Its z22)]) rfl An Ad) ?_
   refine stn ?_ Ad (by decide)
   refine ar [4,5] ?_;refine .ret ?_
   cases h
   exact ⟨_,_,⟨.inr rfl,An,Ad,p2⟩,rfl,rfl⟩
  refine cnt (ntt (bf hc)) ?_;refine .sr ?_;refine vk (vbd Ep A1 A7) ?_
  refine stn ?_ Ad (by decide)
  refine ar [4,5,8] ?_;refine .ret ?_
  cases h
  exact ⟨_,_,⟨.inr rfl,An,Ad,p2⟩,rfl,rfl⟩
 refine cnt (ntt (dF hc)) ?_;refine .sr ?_;refine vk (vbd Ep A1 A7) ?_;refine vk (Aa) ?_
 refine stn ?_ Ad (by decide)
 refine ar [0,1,4,5,6] ?_;refine .ret ?_
 cases h
 exact ⟨_,_,⟨.inr rfl,An,Ad,p2⟩,rfl,rfl⟩
def Bk (a0:Arr) : Option (Itm):=((A5 a0).bind fun x1=>(if x1=true then ((Cp a0).bind fun x2=>(if x2=true then ((rd? a0.items 0).bind fun x3=>((Fy x3).bind fun x4=>(some (x4)))) else ((Ca a0 (⟨.fn 173 [] [],fun x=>Fy x⟩ : BS)).bind fun x5=>(some ((Itm.mk 3 (false,[],[]) 0 [x5])))))) else (some ((Itm.mk 0 (false,[],[]) 0 [])))))
theorem Jd {a0:Arr} {r:Itm} (h:Bk a0=some r) :
  Fn Tryz.prog 95 [.ag [.sl (Is a0.shape),.sl (Its a0.items)]] (.d (.ag [.i .u8 r.kind,.b r.num.1,.sl (L r.num.2.1),.sl (L r.num.2.2),.i .i32 r.char,.sl (Ars r.box)])):=by
 unfold Bk at h
 refine Fn.ofC (rs:=[.cell 2 83]) (nt:=20) Tryz.func95 rfl rfl rfl (by simp) rfl ?_;refine .sr ?_;refine vk (vbx) ?_;refine vk (van (Ai B6) B9) ?_;refine rk [1,2] ?_;refine .seq ?_;refine .block ?_;refine .sr ?_;refine vk (AN An Ad) ?_
 obtain ⟨x1,g1,h⟩:=bnd h
 refine vk (Ar (Bw g1) Tryz.call13) ?_;refine vk (vnt) ?_;refine ar [1,2,3] ?_
 rcases brc h with ⟨hc,h⟩|⟨hc,h⟩
 ·refine cnf (ntf hc) ?_
  refine .sr ?_;refine vk (AN An Ad) ?_
  obtain ⟨x2,g2,h⟩:=bnd h
  refine vk (Ar (D1 g2) Tryz.call172) ?_;refine ar [1,2,8] ?_
  rcases brc h with ⟨hc,h⟩|⟨hc,h⟩
  ·refine cnt hc ?_
   refine .sr ?_;refine vk (vfa BH) ?_;refine vk (As DJ) ?_
   obtain ⟨x3,g3,h⟩:=bnd h
   obtain ⟨n3,p03,q3⟩:=Av g3
   refine vk (vix n3 p03 (Eo q3) rfl D6) ?_;refine vk (AN A8 Az) ?_
   obtain ⟨x4,g4,h⟩:=bnd h
   refine vk (Ar (Gp g4) Tryz.call173) ?_
   refine stn ?_ Az (by decide)
   refine rk [1,2] ?_;refine .ret ?_
   cases h
   exact ⟨_,⟨.inr rfl,A8,Az,p6⟩,rfl⟩
  refine cnf (bf hc) ?_;refine .skip ?_
  show AW _ _ _ _ _ _
  refine .sr ?_;refine vk (AN An Ad) ?_
  obtain ⟨x5,g5,h⟩:=bnd h
  refine vk (Ar (DD (D5 Tryz.call173 (fun _ _ h=>Gp h)) g5) Tryz.call174) ?_;refine vk ((FS (Ks x5) (Jb [x5]) Lb).deep) ?_;refine vk (vbd Gy B6 B9) ?_
  refine stn ?_ Az (by decide)
  refine rk [2] ?_;refine .ret ?_
  cases h
  exact ⟨_,⟨.inr rfl,A8,Az,p6⟩,rfl⟩
 refine cnt (ntt (bf hc)) ?_;refine .sr ?_;refine vk (vbd Gy B6 B9) ?_
 refine stn ?_ Az (by decide)
 refine rk [1,2] ?_;refine .ret ?_
 cases h
 exact ⟨_,⟨.inr rfl,A8,Az,p6⟩,rfl⟩
end Go.FL
