/-
  Part 4 of the base of the proofs: a logic of our own over the calculus, the contracts of the functions
-/
import Derived.Test.YtheadnogdeajfaaGreatSmC
set_option linter.unusedVariables false
namespace Go.FL
open Go Go.Proofs
def ML : Nat→Arr→Int→Int→Int→Option M3
 | 0,_,_,_,_=>none
 | k+1,a,deep,c,d=>if a.items.length≤9223372036854775806 then VN (ML k) a deep c d else none
theorem QE : ∀ k,OA (ML k)
 | 0=>fun _ _ _ _ _ h=>by cases h
 | k+1=>fun a deep c d r h H id hH=>by
  rw [ML] at h
  obtain ⟨hl,h⟩:=GX h
  exact Ms (QE k) hl h hH
def mAr (a:Arr) (deep c d:Int) : Option M3:=ML (a.size+1) a deep c d
def mIt (x:Itm) (deep c d:Int) : Option M3:=NV mAr x deep c d
theorem VV : OA mAr:=fun a deep c d r h=>QE _ a deep c d r h
def Fm (a:Arr) : Option ((Int×Int)×Bool):=(mAr a 0 0 0).map fun z=>if z.1=true then (z.2,true) else ((0,0),false)
theorem JC {a:Arr} {r:(Int×Int)×Bool} (h:Fm a=some r) : Fn Tryz.prog 64 [dvA a] (.tup [.d (.ag [.i .i64 r.1.1,.i .i64 r.1.2]),.d (.b r.2)]):=by
 simp only [Fm,Option.map_eq_some_iff] at h
 obtain ⟨z,hz,rfl⟩:=h
 refine Fn.ofC (rs:=[.cell 2 88,.tmp 3]) (nt:=10) Tryz.func64 rfl rfl rfl (by simp) rfl ?_;refine .sr ?_;refine vk (vbx) ?_;refine vk (van (Aj Oq) SN) ?_;refine asd ?_;refine rn ?_;refine .sr ?_
 refine al ?_ (Aj Oq) (fun w I μ=>VQ w I μ)
 refine rn ?_;refine .seq ?_;refine .sr ?_;refine vk (AC Ac Aa) ?_
 refine clR (avs:=[.bp 0 0,.d (dvA a),.d (.i .i64 0)]) (VV a 0 0 0 z hz _ 0 rfl) Tryz.call106 (fun v H' hp=>?_)
 obtain ⟨rfl,hp⟩:=hp
 refine vk (vnt) ?_;refine rn ?_
 by_cases hc:z.1=true
 ·rw [if_pos hc]
  refine cnf (ntf hc) ?_;refine .skip ?_;refine aw ?_;refine .sr ?_;refine vk (GT (cs:=[.d (.i .i64 z.2.1),.d (.i .i64 z.2.2)]) (ds:=[.i .i64 z.2.1,.i .i64 z.2.2]) hp.1 V4 MR) ?_
  refine stn ?_ MR (by decide)
  refine asd ?_;refine rn ?_;refine .ret ?_
  exact ⟨_,_,⟨.inr rfl,V4,MR,p2⟩,rfl,rfl⟩
 ·rw [if_neg hc]
  refine cnt (ntt (bf hc)) ?_;refine .sr ?_;refine vk (vbd Zd Oq SN) ?_
  refine stn ?_ MR (by decide)
  refine asd ?_;refine rn ?_;refine .ret ?_
  exact ⟨_,_,⟨.inr rfl,V4,MR,p2⟩,rfl,rfl⟩
def FT (x:Itm) : Option Bool:=(mIt x 0 0 0).map fun z=>z.1
theorem MS {x:Itm} {r:Bool} (h:FT x=some r) : Fn Tryz.prog 74 [dvI x] (.d (.b r)):=by
 simp only [FT,Option.map_eq_some_iff] at h
 obtain ⟨z,hz,rfl⟩:=h
 refine Fn.o1 2 6 Tryz.func74 ?_;refine .sr ?_;refine vk (vbx) ?_;refine asd ?_;refine rn ?_;refine .sr ?_
 refine al ?_ (Aj Oq) (fun w I μ=>VQ w I μ)
 refine vk (AC AJ An) ?_
 refine clR (avs:=[.bp 0 0,.d (dvI x),.d (.i .i64 0)]) (I6 VV hz (id:=0) rfl) Tryz.call120 (fun v H' hp=>?_)
 obtain ⟨rfl,hp⟩:=hp
 refine asd ?_;refine rn ?_;refine .ret ?_
 exact ⟨rfl,rfl⟩
def Ob (s:Bool) (n:Nat) : Int×Bool:=if s=true then (if n≤9223372036854775808 then (-(n:Int),true) else (0,false)) else if n<9223372036854775808 then ((n:Int),true) else (0,false)
def I7 (a:RT) : Option (Int×Bool):=(Ht a).bind fun b=>if b=true then (if (okL 1048576 a.2.1&&decide (Ao (val a.2.1)=a.2.1))=true then some (if BN (val a.2.1)≤64 then Ob a.1 (val a.2.1) else (0,false)) else none) else some (0,false)
theorem Zs (w:World) : (zeroValue 112).run Tryz.prog w=.ok (.int .u64 0) w:=by
 simp
theorem zu1 : AN Tryz.prog 112=1:=by kernel_rfl
theorem au1 : C0 Tryz.prog 112=some false:=by kernel_rfl
theorem WR {xs:List Nat} (h:Ok xs) (hl:xs.length≤2) : ∀ j,val (xs.drop (j+1))<4294967296:=by
 intro j
 match xs,hl with
 | [],_=>simp [val]
 | [x],_=>cases j<;>simp [val]
 | [x,y],_ =>
  have hy:y<4294967296:=h y (by simp)
  cases j with
  | zero=>simp [val];omega
  | succ j=>cases j<;>simp [val]
theorem VH {n:Nat} (h:n≤9223372036854775808) : IntKind.i64.wrap (IntKind.u64.wrap (0-(n:Int)))=-(n:Int):=by
 simp only [IntKind.wrap,IntKind.bits,IntKind.signed];simp;omega
theorem Qs {a:RT} {r:Int×Bool} (h:I7 a=some r) : Fn Tryz.prog 131 [.ag [.b a.1,.sl (L a.2.1),.sl (L a.2.2)]] (.tup [.d (.i .i64 r.1),.d (.b r.2)]):=by
 unfold I7 at h
 obtain ⟨x1,hx1,h⟩:=bnd h
 refine Fn.ofM (rs:=[.tmp 2,.tmp 3]) (nt:=46) Tryz.func131 rfl rfl rfl (by simp) rfl ?_;refine .seqA ?_;refine .region ?_;refine vk vbx ?_;refine asd ?_;refine asd ?_;refine rn ?_
 show AWM _ _ _ _ _ _
 refine .seqA ?_;refine .seq ?_;refine .region ?_;refine vk (AC IS GI) ?_;refine vk (Ak (Pn hx1) Tryz.call155) ?_;refine vk vnt ?_
 cases x1 with
 | false =>
  replace h:=Vi (by decide) h
  refine mvd ?_;refine gf4 ?_;refine vk Ag ?_;refine rn ?_;refine cnt rfl ?_;refine .seq ?_;refine .region ?_;refine asd ?_;refine asd ?_;refine rn ?_;refine .ret ?_
  cases h
  exact ⟨by decide,rfl,rfl,rfl⟩
 | true =>
  replace h:=UD rfl h
  obtain ⟨hc,h⟩:=GX h
  rw [Bool.and_eq_true,KS] at hc
  obtain ⟨⟨hok,hlen⟩,hdg⟩:=hc
  have hdg:=of_decide_eq_true hdg
  refine mvd ?_;refine vk (vfa Hd) ?_;refine vk (Ai IE) ?_
  refine cl (xs:=[.sl (L a.2.1)]) ?_ (W4 hok hlen) Tryz.call156
  refine vb ?_;refine vk Ag ?_;refine rn ?_
  by_cases hb:BN (val a.2.1)≤64
  ·rw [if_pos hb] at h
   cases h
   have hb1:decide ((64:Int)<(BN (val a.2.1):Nat))=false:=dF (by omega)
   refine cnf hb1 ?_;refine .skip ?_
   show AWM _ _ _ _ _ _
   have hv64:val a.2.1<18446744073709551616:=E0.1 hb
   have hlen2:a.2.1.length≤2:=by rw [← hdg];exact EE (by omega)
   have hvs:=WR hok hlen2
   refine .seqA ?_;refine .region ?_
   refine al ?_ Zs (fun w I μ=>.cons (c:=.d (.i .u64 0)) (b1:=[]) (.d (.i _ _)) .nil)
   refine stb (cs:=[.d (.i .u64 0)]) (c:=.d (.i .u64 0)) rfl rfl ?_ zu1
   refine rn ?_
   show AWM _ _ _ _ _ _
   refine .seq rfl ?_;refine .seqA ?_;refine .region ?_;refine vk (vfa Hd) ?_;refine vk (Ai IE) ?_
   refine cl (xs:=[.sl (L a.2.1)]) ?_ (Qp (L a.2.1)) Tryz.call157
   refine rn ?_
   show AWM _ _ _ _ _ _
   obtain ⟨s,xs,den⟩:=a
   dsimp only at *
   have hys:∀ ds∈Kf (L xs),ds.length=2:=fun ds hds=>by
    obtain ⟨k,hk⟩:=List.getElem?_of_mem hds
    rw [(QI hk).2];rfl
   have hit:=Y9 (L xs) (by intro x hx;simp only [L,List.mem_map] at hx;obtain ⟨n,_,rfl⟩:=hx;rfl) (by rw [Ab];omega)
   refine .block ?_;refine .rangeFunc rfl rfl rfl Tryz.call168 hit hys (by decide) (by decide) rfl (fun k=>[.box [.d (.i .u64 ((val (xs.drop (xs.length-k)):Nat):Int))]]) (by simp [val]) ?_ ?_
   ·intro l k d1 d2 hk
    obtain ⟨hk1,hk2⟩:=QI hk
    rw [Ab] at hk1 hk2
    have hj:xs.length-1-k<xs.length:=by omega
    have hxat:(L xs).getD (xs.length-1-k) .np=U xs[xs.length-1-k]:=by
     rw [lD,EW (lG hj)];rfl
    rw [hxat] at hk2
    simp only [List.cons.injEq,and_true] at hk2
    obtain ⟨rfl,rfl⟩:=hk2
    have hva:=XP hj
    have hx:=hok.at (lG hj)
    have hsm:=hvs (xs.length-1-k)
    have e1:xs.length-1-k+1=xs.length-k:=by omega
    have e2:xs.length-(k+1)=xs.length-1-k:=by omega
    rw [e1] at hva hsm
    rw [e2]
    generalize xs[xs.length-1-k]=x at *
    generalize val (xs.drop (xs.length-k))=n at *
    rw [hva]
    refine .region ?_;refine asd ?_;refine rn ?_;refine aw ?_;refine .block ?_;refine .region ?_
    refine ldb (cs:=[.d (.i .u64 (n:Int))]) (c:=.d (.i .u64 (n:Int))) rfl rfl ?_ au1
    refine bie (.i .u64 ((n * 4294967296:Nat):Int)) ?_ ?_
    ·refine ⟨by decide,?_⟩
     have:IntKind.u64.wrap ((n:Int) * 4294967296)=((n * 4294967296:Nat):Int):=by
      rw [Gc _ (by omega) (by omega)];omega
     rw [← this];simp [IntKind.bits]
    refine mvd ?_
    refine cve (x:Int) (Gc _ (by omega) (by omega)) ?_ u32 u64
    refine bie (.i .u64 ((n * 4294967296+x:Nat):Int)) ?_ ?_
    ·exact ⟨trivial,by rw [KH hsm hx]⟩
    refine stb (cs:=[.d (.i .u64 (n:Int))]) (c:=.d (.i .u64 (n:Int))) rfl rfl ?_ zu1
    refine .nil ?_
    refine ⟨rfl,?_⟩
    rw [show n * 4294967296+x=x+4294967296 * n by omega]
    rfl
   ·show AWM _ _ _ _ _ _
    refine .lift ?_
    rw [Ih,Ab,Nat.sub_self,List.drop_zero]
    have hn:val xs<18446744073709551616:=hv64
    generalize val xs=n at *
    cases s with
    | true =>
     refine .seq ?_;refine .block ?_;refine .seq ?_;refine .region ?_;refine vk (vfa G0) ?_;refine vk (Ai FC) ?_;refine mvd ?_
     refine ldb (cs:=[.d (.i .u64 (n:Int))]) (c:=.d (.i .u64 (n:Int))) rfl rfl ?_ au1
     refine vb ?_;refine vk Ag ?_;refine asd ?_;refine rn ?_
     by_cases hle:n≤9223372036854775808
     ·refine cnt (dT (show (n:Int)≤9223372036854775808 by omega)) ?_
      refine .seq ?_;refine .region ?_
      refine ldb (cs:=[.d (.i .u64 (n:Int))]) (c:=.d (.i .u64 (n:Int))) rfl rfl ?_ au1
      refine vk vng ?_;refine vk (vcv u64 i64) ?_;refine asd ?_;refine asd ?_;refine rn ?_;refine .ret ?_
      refine ⟨by decide,?_,rfl,rfl⟩
      rw [show Ob true n=(-(n:Int),true) by rw [Ob,if_pos rfl,if_pos hle],← VH hle];rfl
     ·refine cnf (dF (show ¬((n:Int)≤9223372036854775808) by omega)) ?_
      refine .seq ?_;refine .region ?_;refine vk (vfa G0) ?_;refine vk (Ai FC) ?_;refine vk vnt ?_;refine mvd ?_;refine gf2 ?_;refine vk Ag ?_;refine asd ?_;refine rn ?_;refine cnf rfl ?_;refine .sk ?_;refine .seq ?_;refine .region ?_;refine asd ?_;refine asd ?_;refine rn ?_;refine .ret ?_
      exact ⟨by decide,by rw [show Ob true n=(0,false) by rw [Ob,if_pos rfl,if_neg hle]];rfl,rfl,rfl⟩
    | false =>
     refine .seq ?_;refine .block ?_;refine .seq ?_;refine .region ?_;refine vk (vfa G0) ?_;refine vk (Ai FC) ?_;refine mvd ?_;refine gf2 ?_;refine vk Ag ?_;refine asd ?_;refine rn ?_;refine cnf rfl ?_;refine .seq ?_;refine .region ?_;refine vk (vfa G0) ?_;refine vk (Ai FC) ?_;refine vk vnt ?_;refine mvd ?_
     refine ldb (cs:=[.d (.i .u64 (n:Int))]) (c:=.d (.i .u64 (n:Int))) rfl rfl ?_ au1
     refine vb ?_;refine vk Ag ?_;refine asd ?_;refine rn ?_
     by_cases hlt:n<9223372036854775808
     ·refine cnt (dT (show (n:Int)<9223372036854775808 by omega)) ?_
      refine .seq ?_;refine .region ?_
      refine ldb (cs:=[.d (.i .u64 (n:Int))]) (c:=.d (.i .u64 (n:Int))) rfl rfl ?_ au1
      refine vk (vcv u64 i64) ?_;refine asd ?_;refine asd ?_;refine rn ?_;refine .ret ?_
      refine ⟨by decide,?_,rfl,rfl⟩
      rw [show Ob false n=((n:Int),true) by rw [Ob,if_neg (by decide),if_pos hlt]]
      have:=Uw (n:Int) (by omega) (by omega)
      exact (show AV.tup [.d (.i .i64 (n:Int)),.d (.b true)]=.tup [.d (.i .i64 (IntKind.i64.wrap (n:Int))),.d (.b true)] by rw [this]).trans rfl
     ·refine cnf (dF (show ¬((n:Int)<9223372036854775808) by omega)) ?_
      refine .sk ?_;refine .seq ?_;refine .region ?_;refine asd ?_;refine asd ?_;refine rn ?_;refine .ret ?_
      exact ⟨by decide,by rw [show Ob false n=(0,false) by rw [Ob,if_neg (by decide),if_neg hlt]];rfl,rfl,rfl⟩
  ·rw [if_neg hb] at h
   cases h
   have hb1:decide ((64:Int)<(BN (val a.2.1):Nat))=true:=dT (by omega)
   refine cnt hb1 ?_;refine .seq ?_;refine .region ?_;refine asd ?_;refine asd ?_;refine rn ?_;refine .ret ?_
   exact ⟨by decide,rfl,rfl,rfl⟩
def Bm (a0:Arr) : Option (Bool):=((Fm a0).bind fun x1=>(some (x1.2)))
theorem B5 {a0:Arr} {r:Bool} (h:Bm a0=some r) :
  Fn Tryz.prog 26 [.ag [.sl (Is a0.shape),.sl (Its a0.items)]] (.d (.b r)):=by
 unfold Bm at h
 refine Fn.o1 2 11 Tryz.func26 ?_;refine .sr ?_;refine vk vbx ?_;refine ar [1,2] ?_;refine .sr ?_;refine vk (AC Ac Aa) ?_
 obtain ⟨x1,g1,h⟩:=bnd h
 refine vk (VOK.tupd (vs:=[.ag [.i .i64 x1.1.1,.i .i64 x1.1.2],.b x1.2]) (Ak (JC g1) Tryz.call64)) ?_;refine va ?_;refine vk vex ?_;refine vk vex ?_;refine vk (van (Aj Oq) SN) ?_
 refine stn ?_ MR (by decide)
 refine ar [2,4] ?_;refine .sr ?_;refine va ?_;refine ar [2] ?_;refine .ret ?_
 cases h
 exact ⟨rfl,rfl⟩
def FR (a0:Arr) : Option (Int):=((Fm a0).bind fun x1=>(some (x1.1.1)))
theorem Nj {a0:Arr} {r:Int} (h:FR a0=some r) :
  Fn Tryz.prog 77 [.ag [.sl (Is a0.shape),.sl (Its a0.items)]] (.d (.i .i64 r)):=by
 unfold FR at h
 refine Fn.o1 2 12 Tryz.func77 ?_;refine .sr ?_;refine vk vbx ?_;refine ar [1,2] ?_;refine .sr ?_;refine vk (AC Ac Aa) ?_
 obtain ⟨x1,g1,h⟩:=bnd h
 refine vk (VOK.tupd (vs:=[.ag [.i .i64 x1.1.1,.i .i64 x1.1.2],.b x1.2]) (Ak (JC g1) Tryz.call64)) ?_;refine va ?_;refine vk vex ?_;refine vk vex ?_;refine vk (van (Aj Oq) SN) ?_
 refine stn ?_ MR (by decide)
 refine ar [2,3] ?_;refine .seq ?_;refine .gh (Gh.nbp (t:=3) rfl) ?_;refine .region ?_;refine vk (vfa ME) ?_;refine vk (Ai AA) ?_;refine ar [2] ?_;refine .ret ?_
 cases h
 exact ⟨rfl,rfl⟩
def I8 (a0:Arr) (a1:Arr) : Option (Bool):=((Bm a0).bind fun x1=>(Option.bind ((if x1=true then ((Bm a1).bind fun x3=>(if x3=true then ((Ql a0 a1).bind fun x4=>(some x4)) else (some false))) else (some false)) : Option (Bool)) fun (z1:Bool)=>(some (z1))))
theorem Nk {a0:Arr} {a1:Arr} {r:Bool} (h:I8 a0 a1=some r) :
  Fn Tryz.prog 27 [.ag [.sl (Is a0.shape),.sl (Its a0.items)],.ag [.sl (Is a1.shape),.sl (Its a1.items)]] (.d (.b r)):=by
 unfold I8 at h
 refine Fn.o1 4 16 Tryz.func27 ?_;refine .sr ?_;refine vk vbx ?_;refine vk vbx ?_;refine ar [2,3,4] ?_;refine .seq ?_
 obtain ⟨x1,g1,h⟩:=bnd h
 obtain ⟨z1,hz,h⟩:=bnd h
 refine AW.mr (σ:=Unit) (fun _=>True) (fun _=>[(4,.d (.b z1))]) (fun _=>[]) ?_ ?_
 ·skip
  refine .region ?_;refine vk (AC Ac Aa) ?_;refine vk (Ak (B5 g1) Tryz.call26) ?_
  rcases brc hz with ⟨hc,hz⟩|⟨hc,hz⟩
  ·have hb0:x1=true:=hc
   refine vL hb0 ?_;refine vk (AC Ac Aa) ?_
   obtain ⟨x3,g3,hz⟩:=bnd hz
   refine vk (Ak (B5 g3) Tryz.call26) ?_;refine vk Ag ?_
   rcases brc hz with ⟨hc,hz⟩|⟨hc,hz⟩
   ·have hb1:x3=true:=hc
    refine vL hb1 ?_;refine vk (AC Ac Aa) ?_;refine vk (AC Ac Aa) ?_
    obtain ⟨x4,g4,hz⟩:=bnd hz
    refine vk (Ak (Qt g4) Tryz.call65) ?_;refine vk Ag ?_;refine asd ?_;refine RL.gk [4] ?_;refine .nil ?_
    cases hz
    exact jr () trivial
   have hb1:x3=false:=(bf hc)
   refine vL hb1 ?_;refine gf3 ?_;refine vk Ag ?_;refine asd ?_;refine RL.gk [4] ?_;refine .nil ?_
   cases hz
   exact jr () trivial
  have hb0:x1=false:=(bf hc)
  refine vL hb0 ?_;refine gf2 ?_;refine vk Ag ?_;refine va ?_;refine gf3 ?_;refine vk Ag ?_;refine asd ?_;refine RL.gk [4] ?_;refine .nil ?_
  cases hz
  exact jr () trivial
 rintro _ _
 refine .ret ?_
 cases h
 exact ⟨rfl,rfl⟩
def As (a0:(List Itm)) (a1:CK) (K0:Int→Option (Int)) : Nat→Int→Int→Option (Int)
 | 0,_,_=>none
 | k+1,s2,s3=>(if s3<((List.length a0:Nat):Int) then ((rd? a0 s3).bind fun x4=>((a1.g x4).bind fun x5=>(if x5=true then (some (s3)) else (As a0 a1 K0 k s2 (w64 (s3+1)))))) else (K0 s2))
def Bj (a0:(List Itm)) (a1:CK) : Option (Int):=(jn (fun (z1:Int)=>(some ((-1)))) fun K0=>(As a0 a1 K0 Aw 0 0))
theorem Ey {a0:(List Itm)} {a1:CK} (oa1:KT a1) {r:Int} (h:Bj a0 a1=some r) :
  Fn Tryz.prog 119 [.sl (Its a0),a1.dv] (.d (.i .i64 r)):=by
 unfold Bj at h
 refine Fn.o1 4 19 Tryz.func119 ?_;refine .sr ?_;refine ar [0,1,4] ?_;refine .seq ?_;refine .sr ?_;refine va ?_;refine vk (A9 (Aq _) (CC _) Ce) ?_;refine va ?_;refine rk [0,1,4,7,8] ?_
 obtain ⟨K0,hK0,h⟩:=AF h
 refine AW.mr (σ:=Int) (fun p=>K0 p=some r) (fun p=>[(4,.d (.i .i64 p))]) (fun p=>[]) ?_ ?_
 ·skip
  refine .block ?_
  refine .loop (.gk [0,1,4,7,8] ?_)
  refine AL.ind (σ:=Nat×Int×Int) (m:=fun p=>p.1) (e:=fun p=>[(0,.d (.sl (Its a0))),(1,.d (a1.dv)),(4,.d (.i .i64 p.2.1)),(7,.d (.i .i64 ((List.length a0:Nat):Int))),(8,.d (.i .i64 p.2.2))]) (h:=fun p=>[]) (I:=fun p=>As a0 a1 K0 p.1 p.2.1 p.2.2=some r) ?_ (Aw,0,0) h
  rintro ⟨k,s2,s3⟩ h ih
  dsimp only at h ih ⊢
  rcases k with _|k
  ·rw [As] at h;cases h
  rw [As] at h
  refine .sr ?_;refine vb ?_;refine rk [0,1,4,7,8,9] ?_;refine .seq ?_
  rcases brc h with ⟨hc,h⟩|⟨hc,h⟩
  ·refine cnt (dT hc) ?_
   refine .sk ?_;refine .seq ?_;refine .block ?_;refine .sr ?_;refine va ?_;refine ar [0,1,4,5,7,8] ?_;refine .sr ?_;refine va ?_;refine va ?_;refine va ?_
   obtain ⟨x4,g4,h⟩:=bnd h
   obtain ⟨n4,p04,q4⟩:=Ae g4
   refine vk (vix n4 p04 (CJ q4) rfl CL) ?_;refine vk (AC AJ An) ?_
   obtain ⟨x5,g5,h⟩:=bnd h
   refine vk (RZ (oa1 _ _ g5)) ?_;refine rk [0,1,4,5,7,8,16] ?_
   rcases brc h with ⟨hc,h⟩|⟨hc,h⟩
   ·refine cnt hc ?_
    refine .sr ?_;refine va ?_;refine ar [0,1,4,7,8] ?_;refine .ret ?_
    cases h
    exact ⟨rfl,rfl⟩
   refine cnf (bf hc) ?_;refine .sk ?_;refine .region ?_;refine vb ?_;refine va ?_;refine .nil ?_;refine AL.gk [0,1,4,7,8] ?_
   exact ih (k,s2,(w64 (s3+1))) h (Nat.lt_succ_self _)
  refine cnf (dF hc) ?_;refine .gk [4] ?_;refine .exit ?_
  exact jr (s2) h
 rintro z1 h
 try dsimp only at h ⊢
 subst hK0
 refine aw ?_;refine .sr ?_;refine ar [4] ?_;refine .ret ?_
 cases h
 exact ⟨rfl,rfl⟩
def AX (a0:(List Itm)) (a1:CK) : Option (Bool):=((Bj a0 a1).bind fun x1=>(some ((decide (0≤x1)))))
theorem Ec {a0:(List Itm)} {a1:CK} (oa1:KT a1) {r:Bool} (h:AX a0 a1=some r) :
  Fn Tryz.prog 72 [.sl (Its a0),a1.dv] (.d (.b r)):=by
 unfold AX at h
 refine Fn.o1 4 9 Tryz.func72 ?_;refine .sr ?_;refine ar [0,1,4] ?_;refine .sr ?_;refine va ?_;refine va ?_
 obtain ⟨x1,g1,h⟩:=bnd h
 refine vk (Ak (Ey oa1 g1) Tryz.call119) ?_;refine vb ?_;refine ar [4] ?_;refine .ret ?_
 cases h
 exact ⟨rfl,rfl⟩
def Ff (a0:Itm) : Option (Bool):=((FT a0).bind fun x1=>(some ((!x1))))
theorem Mf {a0:Itm} {r:Bool} (h:Ff a0=some r) :
  Fn Tryz.prog 73 [.ag [.i .u8 a0.kind,.b a0.num.1,.sl (L a0.num.2.1),.sl (L a0.num.2.2),.i .i32 a0.char,.sl (Ars a0.box)]] (.d (.b r)):=by
 unfold Ff at h
 refine Fn.o1 2 6 Tryz.func73 ?_;refine .sr ?_;refine vk vbx ?_;refine ar [1,2] ?_;refine .sr ?_;refine vk (AC AJ An) ?_
 obtain ⟨x1,g1,h⟩:=bnd h
 refine vk (Ak (MS g1) Tryz.call74) ?_;refine vk vnt ?_;refine ar [2] ?_;refine .ret ?_
 cases h
 exact ⟨rfl,rfl⟩
def CQ (x12:Itm) (K4:Int→Option (Arr×Int)) : Nat→Int→Int→Option (Arr×Int)
 | 0,_,_=>none
 | k+1,s14,s15=>(if s15<((List.length x12.box:Nat):Int) then ((rd? x12.box s15).bind fun x16=>((FR x16).bind fun x17=>(CQ x12 K4 k (w64 (s14+x17)) (w64 (s15+1))))) else (K4 s14))
def Ck (a1:(List Itm)) (K1:(List Int)→Option (Arr×Int)) : Nat→(List Int)→Int→Option (Arr×Int)
 | 0,_,_=>none
 | k+1,s9,s10=>(if s10<((List.length a1:Nat):Int) then (jn (fun (z11:(List Int))=>(Ck a1 K1 k z11 (w64 (s10+1)))) fun K3=>((rd? a1 s10).bind fun x12=>(jn (fun (z13:Int)=>((ap? 17592186044416 s9 [z13]).bind fun x18=>(K3 x18))) fun K4=>(CQ x12 K4 Aw 1 0)))) else (K1 s9))
def Cl (a1:(List Itm)) (x1:Int×Int) (z8:(List Int)) (K6:Arr→Int→(List Int)→(List Itm)→Option (Arr×Int)) : Nat→Arr→Int→Int→Int→(List Int)→(List Itm)→Option (Arr×Int)
 | 0,_,_,_,_,_,_=>none
 | k+1,s23,s24,s25,s26,s27,s28=>(if s25<x1.1 then ((E5 (((List.length a1:Nat):Int)≠0)).bind fun x29=>((rd? z8 (Int.tmod s25 ((List.length a1:Nat):Int))).bind fun x30=>(if 16384<(w64 (s26+x30)) then (some ((Arr.mk [] []),8)) else ((E5 (((List.length a1:Nat):Int)≠0)).bind fun x31=>((rd? a1 (Int.tmod s25 ((List.length a1:Nat):Int))).bind fun x32=>((Ij x32).bind fun x33=>((ap? 1466015503701 s28 [x33]).bind fun x34=>(Cl a1 x1 z8 K6 k s23 s24 (w64 (s25+1)) (w64 (s26+x30)) s27 x34)))))))) else (K6 s23 s24 s27 s28))
def AP (a0:(List Int)) (a1:(List Itm)) : Option (Arr×Int):=((D0 a0).bind fun x1=>(if x1.2=0 then (Option.bind ((if ((List.length a1:Nat) : Int)=0 then (some true) else ((AX a1 (⟨.fn 73 [] [],fun x=>Ff x⟩ : CK)).bind fun x3=>(some x3))) : Option (Bool)) fun (z2:Bool)=>(if z2=true then (some ((Arr.mk [] []),22)) else ((EN a0).bind fun x4=>(jn (fun (z5:(List Itm))=>(jn (fun (z8:(List Int))=>(jn (fun (z19:Arr) (z20:Int) (z21:(List Int)) (z22:(List Itm))=>((Bm (Arr.mk z21 z22)).bind fun x35=>(if x35=true then (some ((Arr.mk z21 z22),0)) else (some ((Arr.mk [] []),8))))) fun K6=>(Cl a1 x1 z8 K6 Aw (Arr.mk [] []) 0 0 0 x4 z5))) fun K1=>(Ck a1 K1 Aw [] 0))) fun K0=>(if x1.1=0 then ((rd? a1 0).bind fun x6=>((KC x6).bind fun x7=>(K0 ([x7])))) else (K0 [])))))) else (some ((Arr.mk [] []),x1.2))))
set_option maxHeartbeats 4000000 in
theorem G4 {a0:(List Int)} {a1:(List Itm)} {r:Arr×Int} (h:AP a0 a1=some r) :
  Fn Tryz.prog 35 [.sl (Is a0),.sl (Its a1)] (.tup [.d (.ag [.sl (Is r.1.shape),.sl (Its r.1.items)]),.d (.i .i64 r.2)]):=by
 unfold AP at h
 refine Fn.ofC (rs:=[.cell 4 30,.tmp 5]) (nt:=105) Tryz.func35 rfl rfl rfl (by simp) rfl ?_;refine .sr ?_;refine vk (van (Aj AD) AI) ?_;refine ar [0,1,4,5] ?_;refine .sr ?_;refine va ?_
 obtain ⟨x1,g1,h⟩:=bnd h
 refine vk (VOK.tupd (vs:=[.i .i64 x1.1,.i .i64 x1.2]) (Ak (ED g1) Tryz.call34)) ?_;refine va ?_;refine vk vex ?_;refine vk vex ?_;refine asd ?_;refine ar [0,1,4,5,6,7] ?_;refine .seq ?_;refine .block ?_;refine .sr ?_;refine va ?_;refine vb ?_;refine ar [0,1,4,5,6,7,22] ?_
 rcases brc h with ⟨hc,h⟩|⟨hc,h⟩
 ·refine cnf (ntf (dT hc)) ?_
  refine .seq ?_
  obtain ⟨z2,hz,h⟩:=bnd h
  refine AW.mr (σ:=Unit) (fun _=>True) (fun _=>[(0,.d (.sl (Is a0))),(1,.d (.sl (Its a1))),(4,.nb [.sl (Is []),.sl (Its [])]),(5,.d (.i .i64 0)),(6,.d (.i .i64 x1.1)),(27,.d (.b z2))]) (fun _=>[]) ?_ ?_
  ·skip
   refine .region ?_;refine va ?_;refine vk (A9 (Aq _) (CC _) Ce) ?_;refine vb ?_
   rcases brc hz with ⟨hc,hz⟩|⟨hc,hz⟩
   ·have hb0:(decide (((List.length a1:Nat):Int)=0))=true:=(dT hc)
    refine vL hb0 ?_;refine gf2 ?_;refine vk Ag ?_;refine asd ?_;refine RL.gk [0,1,4,5,6,27] ?_;refine .nil ?_
    cases hz
    exact jr () trivial
   have hb0:(decide (((List.length a1:Nat):Int)=0))=false:=(dF hc)
   refine vL hb0 ?_;refine va ?_
   obtain ⟨x3,g3,hz⟩:=bnd hz
   refine vk (Ak (Ec (IA Tryz.call73 (fun _ _ h=>Mf h)) g3) Tryz.call72) ?_;refine vk Ag ?_;refine asd ?_;refine RL.gk [0,1,4,5,6,27] ?_;refine .nil ?_
   cases hz
   exact jr () trivial
  rintro _ _
  rcases brc h with ⟨hc,h⟩|⟨hc,h⟩
  ·refine cnt hc ?_
   refine .sr ?_;refine vk (vbd CF AD AI) ?_
   refine stn ?_ Aa (by decide)
   refine ar [0,1,4,5,6] ?_;refine .ret ?_
   cases h
   exact ⟨_,_,⟨.inr rfl,Ac,Aa,p2⟩,rfl,rfl⟩
  refine cnf (bf hc) ?_;refine .sk ?_;refine .sr ?_;refine va ?_
  obtain ⟨x4,g4,h⟩:=bnd h
  refine vk ((Ak (G9 g4) Tryz.call75).deep) ?_;refine vk (Ur CF AD (fun w I μ=>Ji w I μ)) ?_;refine vk (van (Aj AD) AI) ?_
  refine TD ?_ Aa (by decide)
  refine rk [1,4,5,6,8] ?_;refine .seq ?_;refine .sr ?_;refine va ?_;refine vb ?_;refine rk [1,4,5,6,8,40] ?_
  obtain ⟨K0,hK0,h⟩:=AF h
  refine AW.mr (σ:=(List Itm)) (fun p=>K0 p=some r) (fun p=>[(1,.d (.sl (Its a1))),(4,.nb [.sl (Is []),.sl (Its [])]),(5,.d (.i .i64 0)),(6,.d (.i .i64 x1.1)),(8,.bp 0 0)]) (fun p=>[HO.box [.d (.sl (Is x4)),.own 42 (Its p)]]) ?_ ?_
  ·skip
   rcases brc h with ⟨hc,h⟩|⟨hc,h⟩
   ·refine cnt (dT hc) ?_
    refine .region ?_;refine va ?_
    obtain ⟨x6,g6,h⟩:=bnd h
    obtain ⟨n6,p06,q6⟩:=Ae g6
    refine vk (vix n6 p06 (CJ q6) rfl CL) ?_;refine vk (AC AJ An) ?_
    obtain ⟨x7,g7,h⟩:=bnd h
    refine vk (Ak (L4 g7) Tryz.call76) ?_;refine vk (C6 (Cz x7) (BW [x7]) BA) ?_;refine vk (DX Au) ?_
    refine H6 (cs:=[.d (.sl (Is x4)),.nl]) (c:=.nl) rfl rfl ?_ Ib
    refine RL.gk [1,4,5,6,8] ?_;refine .nil ?_
    exact jr ([x7]) h
   refine cnf (dF hc) ?_;refine .gh (Gh.nlOwnC (id:=0) (off:=1) 42 (by rw [G8];decide)) ?_;refine .gk [1,4,5,6,8] ?_;refine .skip ?_
   exact jr ([]) h
  rintro z5 h
  try dsimp only at h ⊢
  subst hK0
  refine aw ?_;refine .sr ?_;refine asn ?_;refine rk [1,4,5,6,8,9] ?_;refine .seq ?_;refine .sr ?_;refine va ?_;refine vk (A9 (Aq _) (CC _) Ce) ?_;refine va ?_;refine rk [1,4,5,6,8,9,47,48,49] ?_
  obtain ⟨K1,hK1,h⟩:=AF h
  refine AW.mr (σ:=(List Int)) (fun p=>K1 p=some r) (fun p=>[(1,.d (.sl (Its a1))),(4,.nb [.sl (Is []),.sl (Its [])]),(5,.d (.i .i64 0)),(6,.d (.i .i64 x1.1)),(8,.bp 0 0),(9,.own 3 (Is p))]) (fun p=>[HO.box [.d (.sl (Is x4)),.own 42 (Its z5)]]) ?_ ?_
  ·skip
   refine .block ?_;refine .gh (Gh.nlOwn (t:=9) 3 (by rw [Dh];decide) rfl) ?_
   refine .loop (.gk [1,4,5,6,8,9,47,48,49] ?_)
   refine AL.ind (σ:=Nat×(List Int)×Int) (m:=fun p=>p.1) (e:=fun p=>[(1,.d (.sl (Its a1))),(4,.nb [.sl (Is []),.sl (Its [])]),(5,.d (.i .i64 0)),(6,.d (.i .i64 x1.1)),(8,.bp 0 0),(9,.own 3 (Is p.2.1)),(47,.d (.sl (Its a1))),(48,.d (.i .i64 ((List.length a1:Nat):Int))),(49,.d (.i .i64 p.2.2))]) (h:=fun p=>[HO.box [.d (.sl (Is x4)),.own 42 (Its z5)]]) (I:=fun p=>Ck a1 K1 p.1 p.2.1 p.2.2=some r) ?_ (Aw,[],0) h
   rintro ⟨k,s9,s10⟩ h ih
   dsimp only at h ih ⊢
   rcases k with _|k
   ·rw [Ck] at h;cases h
   rw [Ck] at h
   refine .sr ?_;refine vb ?_;refine rk [1,4,5,6,8,9,47,48,49,50] ?_;refine .seq ?_
   rcases brc h with ⟨hc,h⟩|⟨hc,h⟩
   ·refine cnt (dT hc) ?_
    refine .sk ?_
    obtain ⟨K3,hK3,h⟩:=AF h
    refine AW.mj (σ:=(List Int)) (fun p=>K3 p=some r) (fun p=>[(1,.d (.sl (Its a1))),(4,.nb [.sl (Is []),.sl (Its [])]),(5,.d (.i .i64 0)),(6,.d (.i .i64 x1.1)),(8,.bp 0 0),(9,.own 3 (Is p)),(47,.d (.sl (Its a1))),(48,.d (.i .i64 ((List.length a1:Nat):Int))),(49,.d (.i .i64 s10))]) (fun p=>[HO.box [.d (.sl (Is x4)),.own 42 (Its z5)]]) ?_ ?_
    ·skip
     refine .block ?_;refine .sr ?_
     obtain ⟨x12,g12,h⟩:=bnd h
     obtain ⟨n12,p012,q12⟩:=Ae g12
     refine vk (vix n12 p012 (CJ q12) rfl CL) ?_;refine vk (AC AJ An) ?_;refine vk (van (Aj Bv) BM) ?_
     refine stn ?_ An (by decide)
     refine rk [1,4,5,6,8,9,11,47,48,49] ?_;refine .sr ?_;refine ar [1,4,5,6,8,9,11,12,47,48,49] ?_;refine .seq ?_;refine .seq ?_;refine .gh (Gh.nbp (t:=11) rfl) ?_;refine .region ?_;refine vk (vfa AQ) ?_;refine vk (Ai BF) ?_;refine vk (A9 (Ba _) (Ea _) Eb) ?_;refine va ?_;refine rk [1,4,5,6,8,9,12,47,48,49,54,55,56] ?_
     obtain ⟨K4,hK4,h⟩:=AF h
     refine AW.mr (σ:=Int) (fun p=>K4 p=some r) (fun p=>[(1,.d (.sl (Its a1))),(4,.nb [.sl (Is []),.sl (Its [])]),(5,.d (.i .i64 0)),(6,.d (.i .i64 x1.1)),(8,.bp 0 0),(9,.own 3 (Is s9)),(12,.d (.i .i64 p)),(47,.d (.sl (Its a1))),(48,.d (.i .i64 ((List.length a1:Nat):Int))),(49,.d (.i .i64 s10))]) (fun p=>[HO.box [.d (.sl (Is x4)),.own 42 (Its z5)]]) ?_ ?_
     ·skip
      refine .block ?_
      refine .loop (.gk [1,4,5,6,8,9,12,47,48,49,54,55,56] ?_)
      refine AL.ind (σ:=Nat×Int×Int) (m:=fun p=>p.1) (e:=fun p=>[(1,.d (.sl (Its a1))),(4,.nb [.sl (Is []),.sl (Its [])]),(5,.d (.i .i64 0)),(6,.d (.i .i64 x1.1)),(8,.bp 0 0),(9,.own 3 (Is s9)),(12,.d (.i .i64 p.2.1)),(47,.d (.sl (Its a1))),(48,.d (.i .i64 ((List.length a1:Nat):Int))),(49,.d (.i .i64 s10)),(54,.d (.sl (Ars x12.box))),(55,.d (.i .i64 ((List.length x12.box:Nat):Int))),(56,.d (.i .i64 p.2.2))]) (h:=fun p=>[HO.box [.d (.sl (Is x4)),.own 42 (Its z5)]]) (I:=fun p=>CQ x12 K4 p.1 p.2.1 p.2.2=some r) ?_ (Aw,1,0) h
      rintro ⟨k,s14,s15⟩ h ih
      dsimp only at h ih ⊢
      rcases k with _|k
      ·rw [CQ] at h;cases h
      rw [CQ] at h
      refine .sr ?_;refine vb ?_;refine rk [1,4,5,6,8,9,12,47,48,49,54,55,56,57] ?_;refine .seq ?_
      rcases brc h with ⟨hc,h⟩|⟨hc,h⟩
      ·refine cnt (dT hc) ?_
       refine .sk ?_;refine .seq ?_;refine .block ?_;refine .sr ?_
       obtain ⟨x16,g16,h⟩:=bnd h
       obtain ⟨n16,p016,q16⟩:=Ae g16
       refine vk (vix n16 p016 (D1 q16) rfl DU) ?_;refine vk (AC Ac Aa) ?_;refine vk (van (Aj AD) AI) ?_
       refine stn ?_ Aa (by decide)
       refine rk [1,4,5,6,8,9,12,14,47,48,49,54,55,56] ?_;refine .region ?_;refine va ?_;refine vk (Jw Ac Aa) ?_
       obtain ⟨x17,g17,h⟩:=bnd h
       refine vk (Ak (Nj g17) Tryz.call77) ?_;refine vb ?_;refine asd ?_;refine .nil ?_;refine aw ?_;refine .gk [1,4,5,6,8,9,12,47,48,49,54,55,56] ?_;refine .region ?_;refine vb ?_;refine va ?_;refine .nil ?_;refine AL.gk [1,4,5,6,8,9,12,47,48,49,54,55,56] ?_
       exact ih (k,(w64 (s14+x17)),(w64 (s15+1))) h (Nat.lt_succ_self _)
      refine cnf (dF hc) ?_;refine .gk [1,4,5,6,8,9,12,47,48,49] ?_;refine .exit ?_
      exact jr (s14) h
     rintro z13 h
     try dsimp only at h ⊢
     subst hK4
     refine aw ?_;refine .region ?_;refine mvo ?_;refine va ?_;refine vk ((Lp (Eu [z13]) CX).deep) ?_
     obtain ⟨x18,g18,h⟩:=bnd h
     refine N8 J1 g18 IP ?_ F4 Af CX
     refine aso ?_;refine RL.gk [1,4,5,6,8,9,47,48,49] ?_;refine .nil ?_
     exact jr (x18) h
    rintro z11 h
    try dsimp only at h ⊢
    subst hK3
    refine .region ?_;refine vb ?_;refine va ?_;refine .nil ?_;refine AL.gk [1,4,5,6,8,9,47,48,49] ?_
    exact ih (k,z11,(w64 (s10+1))) h (Nat.lt_succ_self _)
   refine cnf (dF hc) ?_;refine .gk [1,4,5,6,8,9] ?_;refine .exit ?_
   exact jr (s9) h
  rintro z8 h
  try dsimp only at h ⊢
  subst hK1
  refine aw ?_;refine .seq ?_;refine .sr ?_;refine asd ?_;refine ar [1,4,5,6,8,9,15,16] ?_
  obtain ⟨K6,hK6,h⟩:=AF h
  refine AW.mr (σ:=Arr×Int×(List Int)×(List Itm)) (fun p=>K6 p.1 p.2.1 p.2.2.1 p.2.2.2=some r) (fun p=>[(4,.nb [.sl (Is p.1.shape),.sl (Its p.1.items)]),(5,.d (.i .i64 p.2.1)),(8,.bp 0 0)]) (fun p=>[HO.box [.d (.sl (Is p.2.2.1)),.own 42 (Its p.2.2.2)]]) ?_ ?_
  ·skip
   refine .block ?_;refine .gh (Gh.frz (p:=.t 9) rfl (by (intro _ _ h;cases h<;>decide))) ?_
   refine .loop (.gk [1,4,5,6,8,9,15,16] ?_)
   refine AL.ind (σ:=Nat×Arr×Int×Int×Int×(List Int)×(List Itm)) (m:=fun p=>p.1) (e:=fun p=>[(1,.d (.sl (Its a1))),(4,.nb [.sl (Is p.2.1.shape),.sl (Its p.2.1.items)]),(5,.d (.i .i64 p.2.2.1)),(6,.d (.i .i64 x1.1)),(8,.bp 0 0),(9,.d (.sl (Is z8))),(15,.d (.i .i64 p.2.2.2.1)),(16,.d (.i .i64 p.2.2.2.2.1))]) (h:=fun p=>[HO.box [.d (.sl (Is p.2.2.2.2.2.1)),.own 42 (Its p.2.2.2.2.2.2)]]) (I:=fun p=>Cl a1 x1 z8 K6 p.1 p.2.1 p.2.2.1 p.2.2.2.1 p.2.2.2.2.1 p.2.2.2.2.2.1 p.2.2.2.2.2.2=some r) ?_ (Aw,(Arr.mk [] []),0,0,0,x4,z5) h
   rintro ⟨k,s23,s24,s25,s26,s27,s28⟩ h ih
   dsimp only at h ih ⊢
   rcases k with _|k
   ·rw [Cl] at h;cases h
   rw [Cl] at h
   refine .seq ?_;refine .sr ?_;refine va ?_;refine va ?_;refine vb ?_;refine rk [1,4,5,6,8,9,15,16,72] ?_
   rcases brc h with ⟨hc,h⟩|⟨hc,h⟩
   ·refine cnt (dT hc) ?_
    refine .sk ?_;refine .seq ?_;refine .block ?_;refine .seq ?_;refine .sr ?_;refine va ?_;refine va ?_;refine va ?_;refine va ?_;refine vk (A9 (Aq _) (CC _) Ce) ?_
    obtain ⟨x29,g29,h⟩:=bnd h
    refine vk (NK (EP g29)) ?_
    obtain ⟨x30,g30,h⟩:=bnd h
    obtain ⟨n30,p030,q30⟩:=Ae g30
    refine vk (vix n30 p030 (A6 q30) rfl A2) ?_;refine vk (Ai AA) ?_;refine vb ?_;refine ar [1,4,5,6,8,9,15,16] ?_;refine .sr ?_;refine va ?_;refine vb ?_;refine rk [1,4,5,6,8,9,15,16,85] ?_
    rcases brc h with ⟨hc,h⟩|⟨hc,h⟩
    ·refine cnt (dT hc) ?_
     refine .sr ?_;refine vk (vbd CF AD AI) ?_
     refine stn ?_ Aa (by decide)
     refine ar [1,4,5,6,8,9,15,16] ?_;refine .ret ?_
     cases h
     exact ⟨_,_,⟨.inr rfl,Ac,Aa,p2⟩,rfl,rfl⟩
    refine cnf (dF hc) ?_;refine .sk ?_;refine .drawn 11 Bw (by kernel_rfl) ?_;refine dv (DX Au) ?_;refine dv (LQ (cs:=[.d (.sl (Is s27)),.own 42 (Its s28)]) rfl rfl Bp) ?_;refine dv Ah ?_;refine dv Ah ?_;refine dv Ah ?_;refine dv (A9 (Aq _) (CC _) Ce) ?_
    obtain ⟨x31,g31,h⟩:=bnd h
    refine dv (NK (EP g31)) ?_
    obtain ⟨x32,g32,h⟩:=bnd h
    obtain ⟨n32,p032,q32⟩:=Ae g32
    refine dv (vix n32 p032 (CJ q32) rfl CL) ?_;refine dv (AC AJ An) ?_
    obtain ⟨x33,g33,h⟩:=bnd h
    refine dv (Ak (JN g33) Tryz.call78) ?_;refine dv ((C6 (Cz x33) (BW [x33]) BA).deep) ?_;refine dz ?_
    obtain ⟨x34,g34,h⟩:=bnd h
    refine NY Ew g34 rfl rfl Fk ?_ Ee Aq BA
    refine RL.gk [1,4,5,6,8,9,15,16,85,87,89,90,91,92,93,94,95,96,97,98] ?_;refine vk (DX Au) ?_
    refine H6 (cs:=[.d (.sl (Is s27)),.un]) (c:=.un) rfl rfl ?_ Ib
    refine .nil ?_;refine aw ?_;refine .gk [1,4,5,6,8,9,15,16] ?_;refine .region ?_;refine va ?_;refine vb ?_;refine asd ?_;refine .nil ?_;refine AL.gk [1,4,5,6,8,9,15,16] ?_
    exact ih (k,s23,s24,(w64 (s25+1)),(w64 (s26+x30)),s27,x34) h (Nat.lt_succ_self _)
   refine cnf (dF hc) ?_;refine .gk [4,5,8] ?_;refine .exit ?_
   exact jr (s23,s24,s27,s28) h
  rintro ⟨z19,z20,z21,z22⟩ h
  try dsimp only at h ⊢
  subst hK6
  refine aw ?_;refine .seq ?_;refine .sr ?_;refine fz (p:=.c 0 1) ?_;refine vk (GT (cs:=[.d (.sl (Is z21)),.d (.sl (Its z22))]) (ds:=[.sl (Is z21),.sl (Its z22)]) rfl Ac Aa) ?_
  obtain ⟨x35,g35,h⟩:=bnd h
  refine vk (Ak (B5 g35) Tryz.call26) ?_;refine vk vnt ?_;refine rk [4,5,8,102] ?_
  rcases brc h with ⟨hc,h⟩|⟨hc,h⟩
  ·refine cnf (ntf hc) ?_
   refine .sk ?_;refine .sr ?_;refine vk (GT (cs:=[.d (.sl (Is z21)),.d (.sl (Its z22))]) (ds:=[.sl (Is z21),.sl (Its z22)]) rfl Ac Aa) ?_
   refine stn ?_ Aa (by decide)
   refine ar [4,5] ?_;refine .ret ?_
   cases h
   exact ⟨_,_,⟨.inr rfl,Ac,Aa,p2⟩,rfl,rfl⟩
  refine cnt (ntt (bf hc)) ?_;refine .sr ?_;refine vk (vbd CF AD AI) ?_
  refine stn ?_ Aa (by decide)
  refine ar [4,5,8] ?_;refine .ret ?_
  cases h
  exact ⟨_,_,⟨.inr rfl,Ac,Aa,p2⟩,rfl,rfl⟩
 refine cnt (ntt (dF hc)) ?_;refine .sr ?_;refine vk (vbd CF AD AI) ?_;refine va ?_
 refine stn ?_ Aa (by decide)
 refine ar [0,1,4,5,6] ?_;refine .ret ?_
 cases h
 exact ⟨_,_,⟨.inr rfl,Ac,Aa,p2⟩,rfl,rfl⟩
def FM (a0:Arr) : Option ((List Itm)):=((D0 a0.shape).bind fun x1=>(Option.bind ((if x1.1=0 then (some true) else ((Bm a0).bind fun x3=>(some (!x3)))) : Option (Bool)) fun (z2:Bool)=>(if z2=true then (some ([])) else ((CI a0 (⟨.fn 78 [] [],fun x=>Ij x⟩ : Ct)).bind fun x4=>(some (x4.items))))))
theorem Nz {a0:Arr} {r:(List Itm)} (h:FM a0=some r) :
  Fn Tryz.prog 153 [.ag [.sl (Is a0.shape),.sl (Its a0.items)]] (.d (.sl (Its r))):=by
 unfold FM at h
 refine Fn.o1 2 21 Tryz.func153 ?_;refine .sr ?_;refine vk vbx ?_;refine asn ?_;refine rk [1,2] ?_;refine .seq ?_;refine .sr ?_;refine vk (vfa Ay) ?_;refine vk (Ai Bh) ?_
 obtain ⟨x1,g1,h⟩:=bnd h
 refine vk (VOK.tupd (vs:=[.i .i64 x1.1,.i .i64 x1.2]) (Ak (ED g1) Tryz.call34)) ?_;refine va ?_;refine vk vex ?_;refine vk vex ?_;refine asd ?_;refine ar [1,2,3] ?_;refine .seq ?_
 obtain ⟨z2,hz,h⟩:=bnd h
 refine AW.mr (σ:=Unit) (fun _=>True) (fun _=>[(1,.d (.ptr [.sl (Is a0.shape),.sl (Its a0.items)])),(2,.nl),(17,.d (.b z2))]) (fun _=>[]) ?_ ?_
 ·skip
  refine .region ?_;refine va ?_;refine vb ?_
  rcases brc hz with ⟨hc,hz⟩|⟨hc,hz⟩
  ·have hb0:(decide (x1.1=0))=true:=(dT hc)
   refine vL hb0 ?_;refine gf3 ?_;refine vk Ag ?_;refine RL.gk [1,2,17] ?_;refine .nil ?_
   cases hz
   exact jr () trivial
  have hb0:(decide (x1.1=0))=false:=(dF hc)
  refine vL hb0 ?_;refine vk (AC Ac Aa) ?_
  obtain ⟨x3,g3,hz⟩:=bnd hz
  refine vk (Ak (B5 g3) Tryz.call26) ?_;refine vk vnt ?_;refine vk Ag ?_;refine RL.gk [1,2,17] ?_;refine .nil ?_
  cases hz
  exact jr () trivial
 rintro _ _
 rcases brc h with ⟨hc,h⟩|⟨hc,h⟩
 ·refine cnt hc ?_
  refine .sr ?_;refine asn ?_;refine rk [1,2] ?_;refine .gh (Gh.nlD (t:=2) rfl) ?_;refine .ret ?_
  cases h
  exact ⟨rfl,rfl⟩
 refine cnf (bf hc) ?_;refine .sk ?_;refine .sr ?_;refine vk (AC Ac Aa) ?_
 obtain ⟨x4,g4,h⟩:=bnd h
 refine vk (Ak (EJ (IA Tryz.call78 (fun _ _ h=>JN h)) g4) Tryz.call122) ?_;refine vk (XW Au M2) ?_;refine ar [2] ?_;refine .ret ?_
 cases h
 exact ⟨rfl,rfl⟩
def chB (c:Int) : Bool:=decide (0≤c)&&(decide (c≤1114111)&&(decide (c<55296)||decide (57343<c)))
theorem UA (c:Int) : Gb c=some (chB c):=rfl
def AM (a:Arr) : Bool:=a.shape.isEmpty&&match a.items with
 | [x]=>decide (x.kind≠3)
 | _=>false
theorem LH (a:Arr) : DE a=some (AM a):=by
 unfold DE AM
 cases hs:a.shape with
 | nil =>
  rw [if_pos (by simp)]
  match hi:a.items with
  | []=>rw [if_neg (by simp)];rfl
  | [x]=>rw [if_pos (by simp),Mt];simp
  | x::y::r=>rw [if_neg (by simp;omega)];rfl
 | cons z zs=>rw [if_neg (by simp;omega)];rfl
mutual
def rI : Itm→Bool
 | .mk k n c b=>if k=1 then (EV n&&(decide (c=0)&&decide (b.length=0))) else if k=2 then (chB c&&(C7 (.mk k n c b)&&decide (b.length=0))) else if k=3 then (decide (b.length=1)&&(C7 (.mk k n c b)&&(decide (c=0)&&rBs b))) else false
def rA : Arr→Bool
 | .mk s i=>decide ((szP s).2=0)&&(decide ((i.length:Int)=if (szP s).1<1 then 1 else (szP s).1)&&rIs i)
def rIs : List Itm→Bool
 | []=>true
 | x::xs=>rI x&&rIs xs
def rBs : List Arr→Bool
 | []=>true
 | a::r=>(!AM a&&rA a)&&rBs r
end
mutual
def cI : Itm→Nat
 | .mk _ _ _ b=>cBs b
def cA : Arr→Nat
 | .mk _ i=>i.length+cIs i
def cIs : List Itm→Nat
 | []=>0
 | x::xs=>cI x+cIs xs
def cBs : List Arr→Nat
 | []=>0
 | a::r=>cA a+cBs r
end
mutual
def dI : Itm→Nat
 | .mk _ _ _ b=>dBs b
def dA : Arr→Nat
 | .mk s i=>if AM (.mk s i) then 0 else 1+dIs i
def dIs : List Itm→Nat
 | []=>0
 | x::xs=>max (dI x) (dIs xs)
def dBs : List Arr→Nat
 | []=>0
 | a::r=>max (dA a) (dBs r)
end
theorem MX (x:Itm) : rI x=if x.kind=1 then (EV x.num&&(decide (x.char=0)&&decide (x.box.length=0))) else if x.kind=2 then (chB x.char&&(C7 x&&decide (x.box.length=0))) else if x.kind=3 then (decide (x.box.length=1)&&(C7 x&&(decide (x.char=0)&&rBs x.box))) else false:=by
 cases x;simp only [rI];rfl
theorem HG (a:Arr) : rA a=(decide ((szP a.shape).2=0)&&(decide ((a.items.length:Int)=if (szP a.shape).1<1 then 1 else (szP a.shape).1)&&rIs a.items)):=by cases a;simp only [rA];rfl
theorem GK (a:Arr) : cA a=a.items.length+cIs a.items:=by cases a;simp only [cA];rfl
theorem Ku (x:Itm) : cI x=cBs x.box:=by cases x;simp only [cI];rfl
theorem Gz (a:Arr) : dA a=if AM a then 0 else 1+dIs a.items:=by cases a;simp only [dA];rfl
theorem MY (x:Itm) : dI x=dBs x.box:=by cases x;simp only [dI];rfl
def up (d deep n:Nat) : Nat:=if n=0 then d else max d (deep+n)
theorem Zm (d deep n m:Nat) : up (up d deep n) deep m=up d deep (max n m):=by unfold up;split<;>split<;>split<;>omega
theorem Zl {d deep n:Nat} (h:d≤16) (h2:deep+n≤16) : up d deep n≤16:=by unfold up;split<;>omega
def Py (f:Int→Int→Int→Option M3) (r:Bool) (n dp:Nat) : Prop:=∀ deep c d : Nat,deep≤16→c≤16384→d≤16 →
 (r=true→deep+dp≤16→c+n≤16384→f deep c d=some (true,((c+n:Nat):Int),((up d deep dp:Nat):Int))) ∧
 (¬(r=true∧deep+dp≤16∧c+n≤16384)→∃ z,f deep c d=some (false,z))
theorem Nm (x:Itm) : C7 x=true↔x.num=(false,[],[]):=by
 unfold C7
 simp only [Bool.and_eq_true,Bool.not_eq_true',decide_eq_true_eq]
 constructor
 ·rintro ⟨h1,h2,h3⟩
  exact Prod.ext h1 (Prod.ext (List.length_eq_zero_iff.1 (by omega)) (List.length_eq_zero_iff.1 (by omega)))
 ·intro h;rw [h];simp
theorem Og {rc:Arr→Int→Int→Int→Option M3} {x:Itm} (hx:okI x) (hrc:∀ a∈x.box,Py (rc a) (rA a) (cA a) (dA a)) : Py (NV rc x) (rI x) (cI x) (dI x):=by
 have ox:=(C5 x).1 hx
 intro deep c d h1 h2 h3
 unfold NV
 rw [MX,Ku,MY]
 have e0:(((x.box.length:Nat):Int)=0)↔x.box.length=0:=by omega
 have e1:(((x.box.length:Nat):Int)=1)↔x.box.length=1:=by omega
 by_cases k1:x.kind=1
 ·rw [if_pos k1,if_pos k1,LZ ox.2.1,oB]
  simp only [e0]
  by_cases hb:x.box.length=0
  ·have:x.box=[]:=List.length_eq_zero_iff.1 hb
   rw [this]
   simp only [cBs,dBs,List.length_nil,decide_true,Bool.and_true,Nat.add_zero]
   refine ⟨fun hr _ _=>by rw [hr];rfl,fun hn=>?_⟩
   have:(EV x.num&&decide (x.char=0))=false:=by
    cases hq:(EV x.num&&decide (x.char=0)) with
    | false=>rfl
    | true=>exact absurd ⟨hq,h1,h2⟩ hn
   rw [this];exact ⟨_,rfl⟩
  ·simp only [hb,decide_false,Bool.and_false]
   exact ⟨fun h=>by simp at h,fun _=>⟨_,rfl⟩⟩
 rw [if_neg k1,if_neg k1]
 by_cases k2:x.kind=2
 ·rw [if_pos k2,if_pos k2,UA,oB]
  simp only [e0]
  by_cases hb:x.box.length=0
  ·have:x.box=[]:=List.length_eq_zero_iff.1 hb
   rw [this]
   simp only [cBs,dBs,List.length_nil,decide_true,Bool.and_true,Nat.add_zero]
   refine ⟨fun hr _ _=>by rw [hr];rfl,fun hn=>?_⟩
   have:(chB x.char&&C7 x)=false:=by
    cases hq:(chB x.char&&C7 x) with
    | false=>rfl
    | true=>exact absurd ⟨hq,h1,h2⟩ hn
   rw [this];exact ⟨_,rfl⟩
  ·simp only [hb,decide_false,Bool.and_false]
   exact ⟨fun h=>by simp at h,fun _=>⟨_,rfl⟩⟩
 rw [if_neg k2,if_neg k2]
 by_cases k3:x.kind=3
 ·rw [if_pos k3,if_pos k3]
  simp only [e1]
  by_cases hb:x.box.length=1
  rotate_left
  ·rw [if_neg hb];simp only [hb,decide_false,Bool.false_and]
   exact ⟨fun h=>by simp at h,fun _=>⟨_,rfl⟩⟩
  rw [if_pos hb]
  by_cases hn:C7 x=true
  rotate_left
  ·rw [if_neg hn];simp only [hn,hb,decide_true,Bool.true_and,Bool.false_and]
   exact ⟨fun h=>by simp at h,fun _=>⟨_,rfl⟩⟩
  rw [if_pos hn]
  by_cases hc:x.char=0
  rotate_left
  ·rw [if_neg hc];simp only [hn,hb,hc,decide_true,decide_false,Bool.true_and,Bool.false_and]
   exact ⟨fun h=>by simp at h,fun _=>⟨_,rfl⟩⟩
  rw [if_pos hc]
  obtain ⟨a,ha⟩:∃ a,x.box=[a]:=List.length_eq_one_iff.1 hb
  have hm:=hrc a (by rw [ha];simp)
  rw [ha,Mt,oB,LH,oB]
  simp only [hn,hc,decide_true,Bool.true_and,rBs,cBs,dBs,Bool.and_true,Nat.add_zero,Nat.max_zero,List.length_cons,List.length_nil]
  by_cases hs:AM a=true
  ·rw [if_pos hs];simp only [hs]
   exact ⟨fun h=>by simp at h,fun _=>⟨_,rfl⟩⟩
  rw [if_neg hs,oB]
  have hs':AM a=false:=by simpa using hs
  simp only [hs',Bool.not_false,Bool.true_and]
  obtain ⟨m1,m2⟩:=hm deep c d h1 h2 h3
  refine ⟨fun hr g1 g2=>by rw [m1 hr g1 g2];rfl,fun hn=>?_⟩
  obtain ⟨z,hz⟩:=m2 hn
  exact ⟨z,by rw [hz];rfl⟩
 ·rw [if_neg k3,if_neg k3]
  exact ⟨fun h=>by simp at h,fun _=>⟨_,rfl⟩⟩
theorem NF {rc:Arr→Int→Int→Int→Option M3} : ∀ {xs:List Itm},(∀ x∈xs,Py (NV rc x) (rI x) (cI x) (dI x))→Py (fun deep c d=>Ky rc deep xs c d) (rIs xs) (cIs xs) (dIs xs)
 | [],_=>fun deep c d h1 h2 h3=>by
  simp only [Ky,rIs,cIs,dIs]
  exact ⟨fun _ _ _=>rfl,fun h=>absurd ⟨trivial,h1,h2⟩ h⟩
 | x::xs,hx=>fun deep c d h1 h2 h3=>by
  obtain ⟨m1,m2⟩:=hx x (by simp) deep c d h1 h2 h3
  have ih:=NF (xs:=xs) fun y hy=>hx y (by simp [hy])
  simp only [Ky,rIs,cIs,dIs]
  by_cases hc:rI x=true∧deep+dI x≤16∧c+cI x≤16384
  ·obtain ⟨p1,p2,p3⟩:=hc
   rw [m1 p1 p2 p3,oB,if_pos rfl,p1,Bool.true_and]
   obtain ⟨n1,n2⟩:=ih deep (c+cI x) (up d deep (dI x)) h1 p3 (Zl h3 p2)
   refine ⟨fun hr g1 g2=>?_,fun hn=>n2 fun ⟨q1,q2,q3⟩=>hn ⟨q1,by omega,by omega⟩⟩
   have:=n1 hr (by omega) (by omega)
   rw [Zm,Nat.add_assoc] at this
   exact this
  ·obtain ⟨z,hz⟩:=m2 hc
   rw [hz,oB,if_neg (by simp)]
   refine ⟨fun hr g1 g2=>absurd ⟨?_,by omega,by omega⟩ hc,fun _=>⟨_,rfl⟩⟩
   simp only [Bool.and_eq_true] at hr;exact hr.1
theorem IM {a:Arr} (hs:AM a=true) (hr:rIs a.items=true) : dIs a.items=0∧cIs a.items=0:=by
 unfold AM at hs
 rw [Bool.and_eq_true] at hs
 match hi:a.items,hs.2 with
 | [x],h2 =>
  rw [hi] at hr
  simp only [rIs,Bool.and_true] at hr
  rw [MX] at hr
  have h3:x.kind≠3:=by simpa using h2
  have hb:x.box=[]:=by
   by_cases k1:x.kind=1
   ·rw [if_pos k1] at hr;simp only [Bool.and_eq_true,decide_eq_true_eq] at hr;exact List.length_eq_zero_iff.1 hr.2.2
   rw [if_neg k1] at hr
   by_cases k2:x.kind=2
   ·rw [if_pos k2] at hr;simp only [Bool.and_eq_true,decide_eq_true_eq] at hr;exact List.length_eq_zero_iff.1 hr.2.2
   rw [if_neg k2,if_neg h3] at hr;cases hr
  simp [dIs,cIs,MY,Ku,hb,dBs,cBs]
theorem Wn {rc:Arr→Int→Int→Int→Option M3} {a:Arr} (ha:okAr a) (hx:∀ x∈a.items,Py (NV rc x) (rI x) (cI x) (dI x)) : Py (VN rc a) (rA a) (cA a) (dA a):=by
 have oa:=(AK a).1 ha
 intro deep c d h1 h2 h3
 have hl:=EQ a.shape
 unfold VN
 rw [Ik oa.2.1,oB,HG,GK,Gz]
 by_cases e1:(szP a.shape).2=0
 rotate_left
 ·rw [if_neg e1];simp only [e1,decide_false,Bool.false_and]
  exact ⟨fun h=>by simp at h,fun _=>⟨_,rfl⟩⟩
 rw [if_pos e1]
 by_cases e2:(a.items.length:Int)=if (szP a.shape).1<1 then 1 else (szP a.shape).1
 rotate_left
 ·rw [if_neg e2];simp only [e1,e2,decide_true,decide_false,Bool.true_and,Bool.false_and]
  exact ⟨fun h=>by simp at h,fun _=>⟨_,rfl⟩⟩
 rw [if_pos e2]
 have hlen:a.items.length≤4096:=by
  split at e2<;>omega
 simp only [e1,decide_true,Bool.true_and]
 rw [dT e2,Bool.true_and]
 have hw:w64 ((c:Int)+((a.items.length:Nat):Int))=((c+a.items.length:Nat):Int):=by rw [Bi (by omega) (by omega)];omega
 rw [hw]
 by_cases e3:(16384:Int)<((c+a.items.length:Nat):Int)
 ·rw [if_pos e3]
  exact ⟨fun _ _ _=>by omega,fun _=>⟨_,rfl⟩⟩
 rw [if_neg e3,LH,oB]
 have hi:=NF hx
 by_cases hs:AM a=true
 ·simp only [if_pos hs]
  rw [if_pos (show (deep:Int)≤16 by omega)]
  obtain ⟨m1,m2⟩:=hi deep (c+a.items.length) d h1 (by omega) h3
  refine ⟨fun hr g1 g2=>?_,fun hn=>m2 fun ⟨q1,q2,q3⟩=>hn ⟨q1,by omega,by omega⟩⟩
  obtain ⟨s1,s2⟩:=IM hs hr
  have:=m1 hr (by omega) (by omega)
  rw [s1,Nat.add_assoc] at this
  exact this
 simp only [if_neg hs]
 have hw2:w64 ((deep:Int)+1)=((deep+1:Nat):Int):=by rw [Bi (by omega) (by omega)];omega
 rw [hw2]
 have hmx:(if (d:Int)<((deep+1:Nat):Int) then ((deep+1:Nat):Int) else (d:Int))=((max d (deep+1):Nat):Int):=by split<;>omega
 rw [hmx]
 by_cases e4:((deep+1:Nat):Int)≤16
 rotate_left
 ·rw [if_neg e4]
  exact ⟨fun _ _ _=>by omega,fun _=>⟨_,rfl⟩⟩
 rw [if_pos e4]
 obtain ⟨m1,m2⟩:=hi (deep+1) (c+a.items.length) (max d (deep+1)) (by omega) (by omega) (by omega)
 refine ⟨fun hr g1 g2=>?_,fun hn=>m2 fun ⟨q1,q2,q3⟩=>hn ⟨q1,by omega,by omega⟩⟩
 have:=m1 hr (by omega) (by omega)
 have hup:up (max d (deep+1)) (deep+1) (dIs a.items)=up d deep (1+dIs a.items):=by unfold up;split<;>split<;>omega
 rw [hup,Nat.add_assoc] at this
 exact this
theorem M5 : ∀ (k:Nat) {a:Arr},a.size<k→okAr a→Py (ML k a) (rA a) (cA a) (dA a)
 | 0,a,h,_=>by omega
 | k+1,a,h,ha=>by
  have oa:=(AK a).1 ha
  have:=Wn (rc:=ML k) ha fun x hx=>Og (oa.2.2.2 x hx) fun b hb=>M5 k (by have:=GM hx;have:=FS hb;omega) (((C5 x).1 (oa.2.2.2 x hx)).2.2.2.2 b hb)
  intro deep c d h1 h2 h3
  simp only [ML]
  rw [if_pos (by omega)]
  exact this deep c d h1 h2 h3
theorem Qr {a:Arr} (ha:okAr a) : Py (mAr a) (rA a) (cA a) (dA a):=M5 _ (Nat.lt_succ_self _) ha
theorem VY {x:Itm} (hx:okI x) : Py (mIt x) (rI x) (cI x) (dI x):=Og hx fun a ha=>Qr (((C5 x).1 hx).2.2.2.2 a ha)
def AB (a:Arr) : Prop:=rA a=true∧dA a≤16∧cA a≤16384
def Bg (x:Itm) : Prop:=rI x=true∧dI x≤16∧cI x≤16384
instance (a:Arr) : Decidable (AB a):=by unfold AB;infer_instance
instance (x:Itm) : Decidable (Bg x):=by unfold Bg;infer_instance
theorem LN {a:Arr} (ha:okAr a) : Fm a=some (if AB a then (((cA a:Nat) : Int),((dA a:Nat) : Int)) else (0,0),decide (AB a)):=by
 obtain ⟨m1,m2⟩:=Qr ha 0 0 0 (by omega) (by omega) (by omega)
 unfold Fm
 by_cases h:AB a
 ·have:=m1 h.1 (by have:=h.2.1;omega) (by have:=h.2.2;omega)
  rw [show ((0:Nat):Int)=0 from rfl] at this
  rw [this,if_pos h,dT h]
  have hu:up 0 0 (dA a)=dA a:=by unfold up;split<;>omega
  simp [hu]
 ·obtain ⟨z,hz⟩:=m2 fun ⟨q1,q2,q3⟩=>h ⟨q1,by omega,by omega⟩
  rw [show ((0:Nat):Int)=0 from rfl] at hz
  rw [hz,if_neg h,dF h];rfl
theorem HA {a:Arr} (ha:okAr a) : Bm a=some (decide (AB a)):=by unfold Bm;rw [LN ha,oB]
theorem UI {a:Arr} (ha:okAr a) : FR a=some (if AB a then ((cA a:Nat) : Int) else 0):=by
 unfold FR;rw [LN ha,oB];split<;>rfl
theorem PM {x:Itm} (hx:okI x) : FT x=some (decide (Bg x)):=by
 obtain ⟨m1,m2⟩:=VY hx 0 0 0 (by omega) (by omega) (by omega)
 unfold FT
 by_cases h:Bg x
 ·have:=m1 h.1 (by have:=h.2.1;omega) (by have:=h.2.2;omega)
  rw [show ((0:Nat):Int)=0 from rfl] at this
  rw [this,dT h];rfl
 ·obtain ⟨z,hz⟩:=m2 fun ⟨q1,q2,q3⟩=>h ⟨q1,by omega,by omega⟩
  rw [show ((0:Nat):Int)=0 from rfl] at hz
  rw [hz,dF h];rfl
theorem TN {a b:List Nat} (ha:okL 1048576 a=true) (hb:okL 35184372087808 b=true) : Js a b=some (decide (a=b)):=if_pos (by rw [ha,hb];rfl)
theorem W9 {p:Rat} (hp:QP p) : Ht (ofQ p)=some (decide (p.den=1)):=by
 unfold Ht
 rw [LZ (HF hp),LG hp,oB,if_pos rfl,Tu,oB]
 rw [show Js (ofQ p).2.2 [1]=some (decide (Ao p.den=[1])) from TN (MQ hp.2 (by decide)) (by rfl),oB,oB]
 congr 1
 exact decide_eq_decide.2 J9
theorem Qh {z:Int} (h1:-9223372036854775808≤z) (h2:z≤9223372036854775807) : FN z=some (ofQ z):=by
 unfold FN
 have hof:∀ n:Nat,n<18446744073709551616→UZ (n:Int)=some (Ao n):=fun n hn=>by
  have:UZ (n:Int)=some (Ao ((n:Int).toNat)):=if_pos (by omega)
  rw [this,Int.toNat_natCast]
 have e:ofQ (z:Rat)=(decide (z<0),Ao z.natAbs,[1]):=by
  show (decide (z<0),Ao z.natAbs,Ao 1)=_
  rw [Kw]
 by_cases h:z<0
 ·rw [if_pos h,SV h h1,hof _ (by omega),NC,e];rfl
 ·rw [if_neg h,V9 (by omega) h2,hof _ (by omega),NC,e];rfl
end Go.FL
namespace Go.FL
open Go Go.RowKit
section
variable {P:Program} {C:Cx} {X:Snap} {o:Oper} {ops:Array Oper} {Q:Exit→Env→Ad→Prop} {env env':Env} {H H':Ad} {a:Act} {w w':World} {I I':Nat→Prop} {μ μ':List Nat} {O O':Nat→Option Loc}
 {K:Env→Ad→Prop} {k:Nat} {l:List Oper}
theorem W5 {blk:Nat} {u0 u1 v0 v1:Value} {e:TypeId} (h:w.heap[blk]?=some (.cells #[u0,u1] e (0,0))) : w.setRow blk #[v0,v1]=(w.setCell ⟨blk,0,none⟩ v0).setCell ⟨blk,1,none⟩ v1:=by
 obtain ⟨hlt,hv⟩:=Array.getElem?_eq_some_iff.1 h
 have e1:w.heap.modify blk (fun|.cells _ elem frozen=>.cells #[v0,v1] elem frozen|o=>o)=(w.heap.modify blk (fun|.cells c elem frozen=>.cells (c.setIfInBounds 0 v0) elem frozen|o=>o)).modify blk (fun|.cells c elem frozen=>.cells (c.setIfInBounds 1 v1) elem frozen|o=>o):=by
  apply Array.ext
  ·simp
  ·intro i h1 h2
   simp only [Array.getElem_modify]
   by_cases hi:blk=i
   ·subst hi;simp only [if_true,hv];simp
   ·simp only [if_neg hi]
 unfold World.setRow World.setCell
 simp only [Option.isSome_none,Bool.false_eq_true,if_false]
 exact congrArg (fun x=>({w with heap:=x}:World)) e1
theorem bdo {ty s t e:Nat} {parts:Array (Nat×Operand)} {places:List (Nat×Nat)} {z:Value} {xs:List DV} (hp:EI P ty=some places) (hz:(P.info? ty).bind (·.zero)=some z) (hzr:z=.agg #[.slice none 0 0,.slice none 0 0]) (h:RL P C ops Q (k+1) l ((t,.ag [.own e xs,.nl])::(s,.un)::env) H)
  (hpl:places=[(0,1),(1,1)]:=by rfl) (hg:grd ops env o true=true:=by rfl) (ho:o.op=.build ty parts:=by rfl) (hpa:parts=#[(0,.tmp s)]:=by rfl) (hv:get env s=.own e xs:=by rfl) (hd:o.dst=some t:=by rfl)
  (hf:Am (get env t)=false:=by rfl) (hr:D8 s env=false:=by rfl) (ht:okT C.nt t:=by rfl):RL P C ops Q k (o::l) env H:=by
 have hst:=Gd hv hf
 subst hpl hzr
 refine .go hg (.val (t:=t) (av:=.ag [.own e xs,.nl]) (env':=put env s .un) (H':=H) (by simp [ho]) hd ht (fun X a w I μ O _ _ _ hs=>?_) ?_)
 ·obtain ⟨k1,bs,k2,k3,k4⟩:=hs.take s (by rw [hv];rfl)
  rw [hv] at k2
  have hb:P.built ty [(0,a.tmps.getD s undef)]=some #[a.tmps.getD s undef,.slice none 0 0]:=by
   unfold EI at hp
   unfold Program.built
   cases hi:P.info? ty with
   | none=>rw [hi] at hz;cases hz
   | some it =>
    rw [hi] at hz
    simp only [oB] at hz
    split at hp
    ·rename_i fields hu
     simp only [hu,hz,hp]
     have hone:∃ A n c,a.tmps.getD s undef=.slice A n c:=by
      generalize a.tmps.getD s undef=u at k2
      cases k2 with
      | own _ _ _ vs hsz ho' hr' =>
       rcases ho' with ⟨A,h1,_⟩|⟨_,g,cap,h1,_⟩<;>exact ⟨_,_,_,h1⟩
     obtain ⟨A,n,c,hu3⟩:=hone
     rw [hu3]
     simp [Instr.fill,Value.cells]
    ·cases hp
  refine ⟨.agg #[a.tmps.getD s undef,.slice none 0 0],w,I,μ,_,?_,k1,bs,?_,k3,k4⟩
  ·simp only [execOp,ho,hpa,Sem.run_bind]
   have:=run_build (P:=P) w ty #[(0,a.tmps.getD s undef)] #[a.tmps.getD s undef,.slice none 0 0] (by simpa using hb)
   simp only [List.map_toArray,List.map_cons,List.map_nil,Act.eval]
   rw [this]
   simp only [Result.andThen_ok,Sem.run_pure]
  ·have:=ARep.ag (ARepAll.cons k2 (ARepAll.cons (.nl (P:=P) (w:=w) (I:=I) (μ:=μ)) .nil))
   simpa using this
 ·refine RL.gh (Gh.same fun q=>?_) h
  have h1:Am (get (put env s .un) t)=false:=by rw [DT hr];simp [get,hst,hf]
  rw [Al h1]
  simp only [get]
  split
  ·rfl
  ·rw [DT hr];rfl
theorem st2 {x:Operand} {r ty id:Nat} {c0 c1 a0 a1:AV} (hH:H[id]?=some (.box [c0,c1])) (h:RL P C ops Q (k+1) l ((r,.un)::env) (H.set id (.box [a0,a1]))) (hsz:AN P ty=2) (hg:grd ops env o true=true:=by rfl)
  (ho:o.op=.store ty x (.tmp r):=by rfl) (hv:lk env x=.bp id 0:=by rfl) (hy:get env r=.ag [a0,a1]:=by rfl) (n0:Am c0=false:=by rfl) (n1:Am c1=false:=by rfl) (m0:one a0=true:=by rfl) (m1:one a1=true:=by rfl) (hd:o.dst=none:=by rfl) (h0:C.n0=0:=by rfl):RL P C ops Q k (o::l) env H:=by
 obtain ⟨h1,h2⟩:=Av hv (by simp)
 have hlt:id<H.length:=(lS.1 hH).1
 refine .go hg (.done (env':=put env r .un) (H':=H.set id (.box [a0,a1])) (by simp [ho]) hd (fun X a w I μ O _ g2 _ hs=>?_) ?_)
 ·obtain ⟨blk,hm,he⟩:=hs.bp h1 h2
  obtain ⟨k1,bs,k2,k3,k4⟩:=hs.take r (by rw [hy];rfl)
  rw [hy] at k2
  generalize hev:a.tmps.getD r undef=u at k2
  cases k2 with
  | @ag _ vs _ k2 =>
   cases k2 with
   | @cons _ v0 _ _ b0 b1' q0 k2 =>
    cases k2 with
    | @cons _ v1 _ _ b1 b2 q1 k2 =>
     cases k2
     rw [List.append_nil] at k3 k4
     obtain ⟨d0,d1,d2⟩:=List.nodup_append.1 k3
     obtain ⟨s1,⟨y1,w1⟩,f1⟩:=k1.storeC (off:=0) hH rfl hm (by omega) q0 d0 fun b hb=>k4 b (by simp [hb])
     rw [n0] at s1
     have e1:FB H id 0 a0=H.set id (.box [a0,c1]):=by simp [FB,hH]
     rw [e1] at s1
     have hH1:(H.set id (.box [a0,c1]))[id]?=some (.box [a0,c1]):=List.getElem?_set_self hlt
     have q1':ARep P (w.setCell ⟨blk,0,none⟩ v0) I μ a1 v1 b1:=by
      obtain ⟨blk',bs',g1,⟨cells,et,g3,g4⟩,g5,_⟩:=k1.heap id _ hH
      rw [hm] at g1;cases g1
      have hOb:=(g5 (by omega)).2 blk (by simp)
      refine q1.keep (fun _ h=>h) (fun b hi=>heap_setCell_other w _ b v0 fun e=>?_) (fun _ _ h=>h) fun b hb=>heap_setCell_other w _ b v0 fun e=>?_
      ·have e':b=blk:=e
       subst e';exact (k1.own _ _ hOb).2 hi
      ·have e':b=blk:=e
       subst e'
       have h7:(O b).map (toR r)=some .r:=k4 b (by simp [hb])
       have h8:(O b).map (toR r)=some (.o id):=hOb
       rw [h7] at h8;cases h8
     obtain ⟨s2,⟨y2,w2⟩,f2⟩:=s1.storeC (off:=1) hH1 rfl hm (by omega) q1' d1 fun b hb=>by
      show (if b∈b0 then _ else _)=_
      rw [if_neg fun hm=>d2 b hm b hb rfl];exact k4 b (by simp [hb])
     rw [n1] at s2
     have e2:FB (H.set id (.box [a0,c1])) id 1 a1=H.set id (.box [a0,a1]):=by simp [FB,hH1]
     rw [e2] at s2
     refine ⟨_,I,μ,_,?_,s2⟩
     obtain ⟨blk',bs',g1,⟨cells,et,g3,g4⟩,g5,_⟩:=k1.heap id _ hH
     rw [hm] at g1;cases g1
     have hcl:cells.toList.length=2:=g4.length.symm
     obtain ⟨u0,u1,hcc⟩:∃ u0 u1,cells=#[u0,u1]:=by
      obtain ⟨l⟩:=cells
      match l,hcl with
      | [x,y],_=>exact ⟨x,y,rfl⟩
     rw [hcc] at g3
     have hone0:=HL q0 m0
     have hone1:=HL q1 m1
     obtain ⟨i,i1,i2⟩:=Ho (P:=P) (t:=ty) (by omega)
     have hsi:(P.info? ty).map (·.size)=some (#[v0,v1]:Array Value).size:=by rw [i1];simp;omega
     have hrun:=run_storeVar_row (P:=P) w blk et ty #[u0,u1] #[v0,v1] g3 hsi rfl (by simp [hone0,hone1])
     have hevr:a.eval (.tmp r)=.agg #[v0,v1]:=by show a.tmps.getD r undef=_;rw [hev]
     simp only [execOp,ho,he,hevr,Instr.storeAt,Instr.sureAddr,Sem.run_bind,Sem.run_pure,Result.andThen_ok,hrun]
     rw [W5 g3]
 ·refine RL.gh (Gh.same fun q=>?_) h
  rw [Al (by rw [hy];rfl)]
section
variable {nt:Nat×Nat} {J:JT} {ags:List Value} {QJ:Exit→Env→Ad→Nat→Prop} {n:Nat}
end
end
end Go.FL
namespace Go.FL
open Go Go.Proofs
section
variable {S:Type}
def RH (step:Itm→S→Option (Bool×S)) : List Itm→S→Option (Bool×S)
 | [],s=>some (true,s)
 | x::xs,s=>(step x s).bind fun r=>if r.1=true then RH step xs r.2 else some (false,r.2)
def TB (step:Itm→S→Option (Bool×S)) (x:Itm) (s:S) : Option (Bool×S):=(step x s).map fun r=>(!r.1,r.2)
theorem Tq {step:Itm→S→Option (Bool×S)} : ∀ {xs:List Itm} {s:S} {z:Bool×S} {i:Int},0≤i→RH step xs s=some z→∃ n,Mo (TB step) xs s i=some (n,z.2)∧(!decide (0≤n))=z.1
 | [],s,z,i,_,h=>by cases h;exact ⟨-1,rfl,rfl⟩
 | x::xs,s,z,i,hi,h=>by
  rw [RH] at h
  obtain ⟨y,hy,h⟩:=bnd h
  have hs:TB step x s=some (!y.1,y.2):=by simp [TB,hy]
  by_cases hc:y.1=true
  ·rw [if_pos hc] at h
   obtain ⟨n,h1,h2⟩:=Tq (i:=i+1) (by omega) h
   refine ⟨n,?_,h2⟩
   rw [Mo,hs,oB,if_neg (by simp [hc])];exact h1
  ·rw [if_neg hc] at h
   cases h
   refine ⟨i,?_,by simp [hi]⟩
   rw [Mo,hs,oB,if_pos (by simp [hc])]
end
theorem YC {S:Type} {step:Itm→S→Option (Bool×S)} {obj:S→HO} {f:FuncId} {caps:List AV} {id:Nat} (hcall:∀ args w,(callFunc f args).run Tryz.prog w=.ok (.enter f args) w) (hnc:noOwnL caps=true)
  (hstep:∀ (x:Itm) s r H,H[id]?=some (obj s)→step x s=some r→FnR Tryz.prog f (.d (dvI x)::caps) H fun v H'=>v=.d (.b r.1)∧Upd H id (obj r.2) H')
  {x:Itm} {s:S} {r:Bool×S} {H:Ad} {n3:Nat} (hs:H[id]?=some (obj s)) (h3:H[n3]?=some (.box [.fn f [] caps])) (h:TB step x s=some r) :
  FnR Tryz.prog 154 [.d (dvI x),.bp n3 0] H fun v H'=>v=.d (.b r.1)∧Upd H id (obj r.2) H':=by
 simp only [TB,Option.map_eq_some_iff] at h
 obtain ⟨y,hy,rfl⟩:=h
 have hfn:noOwn (.fn f [] caps)=true:=by simp [noOwn,noOwnL,hnc]
 refine FnR.of (rs:=[.tmp 3]) 8 Tryz.func154 rfl rfl rfl (by simp) ?_;refine .sr ?_;refine vk (vbx) ?_;refine asd ?_;refine rn ?_;refine .sr ?_;refine vk (OZ (cs:=[.fn f [] caps]) (c:=.fn f [] caps) h3 rfl (by kernel_rfl) (hn:=hfn)) ?_;refine vk (AC AJ An) ?_
 refine Zo (avs:=[.d (dvI x)]) (hstep _ _ _ _ hs hy) hcall (fun v H' hp=>?_) (hnc:=hnc)
 obtain ⟨rfl,hp⟩:=hp
 refine vk (vnt) ?_;refine asd ?_;refine rn ?_;refine .ret ?_
 exact ⟨_,⟨rfl,rfl⟩,rfl,hp⟩
def Wv {S:Type} (step:Itm→S→Option (Bool×S)) (a:Arr) (s:S) : Option (Bool×S) :=
 (Bm a).bind fun x1=>if x1=true then (if ((List.length a.shape:Nat):Int)≤1 then (FM a).bind fun l=>if l.length≤9223372036854775806 then RH step l s else none else some (false,s)) else some (false,s)
set_option maxRecDepth 10000 in
theorem Zg {S:Type} {step:Itm→S→Option (Bool×S)} {obj:S→HO} {f:FuncId} {caps:List AV} {id:Nat} (hcall:∀ args w,(callFunc f args).run Tryz.prog w=.ok (.enter f args) w) (hnc:noOwnL caps=true)
  (hstep:∀ (x:Itm) s r H,H[id]?=some (obj s)→step x s=some r→FnR Tryz.prog f (.d (dvI x)::caps) H fun v H'=>v=.d (.b r.1)∧Upd H id (obj r.2) H')
  {a:Arr} {s:S} {r:Bool×S} {H:Ad} (hs:H[id]?=some (obj s)) (h:Wv step a s=some r) :
  FnR Tryz.prog 129 [.d (dvA a),.fn f [] caps] H fun v H'=>v=.d (.b r.1)∧Upd H id (obj r.2) H':=by
 unfold Wv at h
 have hfn:noOwn (.fn f [] caps)=true:=by simp [noOwn,noOwnL,hnc]
 have hid:id<H.length:=(lS.1 hs).1
 refine FnR.of (rs:=[.tmp 4]) 20 Tryz.func129 rfl rfl rfl (by simp) ?_;refine .sr ?_;refine vk (vbx) ?_
 refine bxA (c:=.fn f [] caps) ?_ (hn:=hfn)
 refine asd ?_
 have f0:Upd H id (obj s) (H++[.box [.fn f [] caps]]):=⟨by rw [List.getElem?_append_left hid];exact hs,by simp,fun j h1 h2=>by rw [List.getElem?_append_left h2]⟩
 have f3:(H++[HO.box [.fn f [] caps]])[H.length]?=some (.box [.fn f [] caps]):=by simp
 have g3:H.length≠id:=by omega
 generalize H++[HO.box [.fn f [] caps]]=H2 at f0 f3 ⊢
 obtain ⟨n3,hn3⟩:∃ n3,n3=H.length:=⟨_,rfl⟩
 rw [← hn3] at f3 g3 ⊢
 refine rn ?_;refine .gh (Gh.keep [2,3] rfl) ?_;refine .sr ?_;refine vk (AC Ac Aa) ?_
 obtain ⟨x1,hx1,h⟩:=bnd h
 refine vk (Ak (B5 hx1) Tryz.call26) ?_
 by_cases hc:x1=true
 rotate_left
 ·rw [if_neg hc] at h
  cases h
  refine vk (VOK.lit (Ah) (bf hc)) ?_;refine gf4 ?_;refine vk (Ag) ?_;refine vk (Ah) ?_;refine gf4 ?_;refine gf ?_;refine vk (Ag) ?_;refine asd ?_;refine rn ?_;refine .ret ?_
  exact ⟨_,⟨rfl,rfl⟩,rfl,f0⟩
 rw [if_pos hc] at h
 refine vk (VOK.lit (Ah) hc) ?_;refine vk (vfa Ay) ?_;refine vk (Ai Bh) ?_;refine vk (A9 (Af _) (BO _) BL) ?_;refine vk (vbi) ?_;refine vk (Ag) ?_
 by_cases hc:((List.length a.shape:Nat):Int)≤1
 rotate_left
 ·rw [if_neg hc] at h
  cases h
  refine vk (VOK.lit (Ah) (dF hc)) ?_;refine gf4 ?_;refine gf ?_;refine vk (Ag) ?_;refine asd ?_;refine rn ?_;refine .ret ?_
  exact ⟨_,⟨rfl,rfl⟩,rfl,f0⟩
 rw [if_pos hc] at h
 refine vk (VOK.lit (Ah) (dT hc)) ?_;refine vk (AC Ac Aa) ?_
 obtain ⟨l,hx2,h⟩:=bnd h
 obtain ⟨hl,h⟩:=GX h
 refine vk (Ak (Nz hx2) Tryz.call153) ?_;refine Yi (avs:=[.bp n3 0]) ?_
 obtain ⟨n,h1,h2⟩:=Tq (Int.le_refl 0) h
 have step':=Ip (S:=S) (step:=TB step) (st:=fun s H'=>Upd H id (obj s) H'∧H'[n3]?=some (.box [.fn f [] caps])) (caps:=[.bp n3 0]) Tryz.call154 rfl
  (fun x s y H' hs hy=>by
   obtain ⟨hs0,hs3⟩:=hs
   refine (YC hcall hnc hstep hs0.1 hs3 hy).mono fun v H'' hp=>⟨hp.1,hs0.trans hp.2,?_⟩
   rw [hp.2.2.2 n3 g3 (lS.1 hs3).1];exact hs3)
  hl h1 (H:=H2) ⟨f0,f3⟩
 refine clR (avs:=[.d (.sl (Its l)),.fn 154 [] [.bp n3 0]]) step' Tryz.call72 (fun v H' hp=>?_)
 obtain ⟨rfl,hp⟩:=hp
 refine vk (vnt) ?_
 rw [h2]
 refine vk (Ag) ?_;refine asd ?_;refine rn ?_;refine .ret ?_
 exact ⟨_,⟨rfl,rfl⟩,rfl,hp.1⟩
abbrev Ue (s:List Int) : HO:=.box [.own 3 (Is s)]
def Ln (x:Itm) (s:List Int) : Option (Bool×List Int):=(I7 x.num).bind fun y=>(ap? 17592186044416 s [y.1]).bind fun o=>some (y.2&&decide (x.kind=1),o)
theorem Ug (id:Nat) (x:Itm) (s:List Int) (r:Bool×List Int) (H:Ad) (hH:H[id]?=some (Ue s)) (h:Ln x s=some r) :
  FnR Tryz.prog 130 (.d (dvI x)::[.bp id 0]) H fun v H'=>v=.d (.b r.1)∧Upd H id (Ue r.2) H':=by
 unfold Ln at h
 obtain ⟨y,hy,h⟩:=bnd h
 obtain ⟨z,hz,h⟩:=bnd h
 have hid:id<H.length:=(lS.1 hH).1
 refine FnR.of (rs:=[.tmp 3]) 22 Tryz.func130 rfl rfl rfl (by simp) ?_;refine .sr ?_;refine vk (vbx) ?_;refine asd ?_;refine rn ?_;refine .sr ?_;refine vk (vfa BX) ?_;refine vk (AC IS GI) ?_;refine vk (VOK.tupd (vs:=[.i .i64 y.1,.b y.2]) (Ak (Qs hy) Tryz.call131)) ?_;refine vk (Ah) ?_;refine vk (vex) ?_;refine vk (vex) ?_;refine asd ?_;refine asd ?_;refine rn ?_;refine .gh (Gh.keep [1,2,4,5] rfl) ?_;refine .sr ?_
 refine Sp (cs:=[.own 3 (Is s)]) hH rfl ?_ Bh
 refine vk (Ah) ?_;refine vk (Lp (Eu [y.1]) CX).deep ?_
 have hset:∀ c,(H.set id (.box [c]))[id]?=some (.box [c]):=fun c=>List.getElem?_set_self hid
 refine NY J1 hz hH rfl IP ?_ F4 Af CX (hnc:=by simp [Np,get,Ju,Qj])
 refine RL.gh (Gh.keep [1,2,4,5,15] rfl) ?_
 refine H6 (cs:=[.un]) (c:=.un) (hset _) rfl ?_ OV
 refine rn ?_
 have hfin:(((H.set id (.box [.un])).set id (.box [.own 3 (Is z)])):Ad)=H.set id (Ue z):=by simp
 change AW _ _ _ _ _ ((H.set id (.box [.un])).set id (.box [.own 3 (Is z)]))
 rw [hfin]
 have hup:Upd H id (Ue z) (H.set id (Ue z)):=(Upd.same hH).set_id
 refine .gh (Gh.keep [2,4,5] rfl) ?_;refine .sr ?_;refine vk (Ah) ?_
 by_cases hc:y.2=true
 ·refine vk (VOK.lit (Ah) hc) ?_
  refine vk (vfa B2) ?_;refine vk (Ai A7) ?_;refine vk (vbi) ?_;refine vk (Ag) ?_;refine asd ?_;refine rn ?_;refine .ret ?_
  cases h
  exact ⟨_,⟨rfl,rfl⟩,by rw [hc];rfl,hup⟩
 ·refine vk (VOK.lit (Ah) (bf hc)) ?_
  refine gf3 ?_;refine vk (Ag) ?_;refine asd ?_;refine rn ?_;refine .ret ?_
  cases h
  exact ⟨_,⟨rfl,rfl⟩,by rw [bf hc];rfl,hup⟩
def IT (a:Arr) : Option (List Int×Bool):=(Wv Ln a []).map fun r=>if r.1=true then (r.2,true) else ([],false)
theorem WJ : 0<AN Tryz.prog 3:=by rw [Dh];decide
theorem Rh {a:Arr} {r:List Int×Bool} (h:IT a=some r) : Fn Tryz.prog 95 [dvA a] (.tup [.d (.sl (Is r.1)),.d (.b r.2)]):=by
 simp only [IT,Option.map_eq_some_iff] at h
 obtain ⟨z,hz,rfl⟩:=h
 refine Fn.of (rs:=[.tmp 2,.tmp 3]) (nt:=12) Tryz.func95 rfl rfl rfl (by simp) rfl ?_;refine .sr ?_;refine vk (vbx) ?_;refine asn ?_;refine asd ?_;refine rn ?_;refine .sr ?_
 refine al ?_ (Aj VI) (fun w I μ=>Vt w I μ)
 refine rn ?_;refine .gh (Gh.nlOwnC (id:=0) (off:=0) 3 WJ) ?_;refine .sr ?_;refine vk (AC Ac Aa) ?_;refine Yi (avs:=[.bp 0 0]) ?_
 refine clR (avs:=[.d (dvA a),.fn 130 [] [.bp 0 0]]) (Zg (obj:=Ue) (id:=0) (caps:=[.bp 0 0]) (s:=[]) Tryz.call130 rfl (fun x s r H hH hs=>Ug 0 x s r H hH hs) rfl hz) Tryz.call129 (fun v H' hp=>?_)
 obtain ⟨rfl,hp⟩:=hp
 refine asd ?_;refine rn ?_;refine .gh (Gh.keep [2,3,4,5] rfl) ?_;refine .seq ?_;refine .sr ?_;refine vk (Ah) ?_;refine vk (vnt) ?_;refine rn ?_
 by_cases hc:z.1=true
 ·rw [if_pos hc]
  refine cnf (ntf hc) ?_;refine .skip ?_;refine aw ?_;refine .sr ?_
  refine Sp (cs:=[.own 3 (Is z.2)]) hp.1 rfl ?_ Bh
  refine fz (p:=.c 0 0) (e:=3) (xs:=Is z.2) ?_ (hp:=by simp [A1,hp.1])
  refine asd ?_;refine asd ?_;refine rn ?_;refine .ret ?_
  refine ⟨by decide,?_,rfl,rfl⟩
  show AV.tup [.d (.sl (Is z.2)),.d (.b true)]=AV.tup [.d (.sl (((Is z.2).drop 0).take (Is z.2).length)),.d (.b true)]
  rw [List.drop_zero,List.take_length]
 ·rw [if_neg hc]
  refine cnt (ntt (bf hc)) ?_;refine .sr ?_;refine asn ?_;refine asd ?_;refine rn ?_;refine .gh (Gh.nlD (t:=2) rfl) ?_;refine .ret ?_
  exact ⟨by decide,rfl,rfl,rfl⟩
def WM (x:Itm) : DV:=.ag [.i .u8 x.kind,.b x.num.1,.sl (L x.num.2.1),.sl (L x.num.2.2),.i .i32 x.char,.sl (Ars x.box)]
def GB : List Int→Option (List Itm)
 | []=>some []
 | n::ns=>(FJ n).bind fun q=>(CH q).bind fun x=>(GB ns).bind fun xs=>some (x::xs)
theorem Q8 : ∀ {l:List Int} {xs:List Itm},GB l=some xs→xs.length=l.length∧∀ (i:Nat) n,l[i]?=some n→∃ q x,FJ n=some q∧CH q=some x∧xs[i]?=some x:=by
 intro l
 induction l with
 | nil=>intro xs h;cases h;exact ⟨rfl,fun i n hn=>by simp at hn⟩
 | cons m ns ih =>
  intro xs h
  rw [GB] at h
  obtain ⟨q,hq,h⟩:=bnd h
  obtain ⟨x,hx,h⟩:=bnd h
  obtain ⟨ys,hy,h⟩:=bnd h
  cases h
  obtain ⟨h1,h2⟩:=ih hy
  refine ⟨by simp [h1],fun i n hn=>?_⟩
  cases i with
  | zero=>simp at hn;subst hn;exact ⟨q,x,hq,hx,rfl⟩
  | succ i=>simpa using h2 i n (by simpa using hn)
def itY (xs:List Itm) : List (List DV):=xs.map fun x=>[WM x]
theorem XS {xs:List Itm} {i:Nat} {x:Itm} (h:xs[i]?=some x) : (itY xs)[i]?=some [WM x]:=by simp [itY,h]
set_option maxRecDepth 10000 in
theorem UJ {l:List Int} {xs:List Itm} (h:GB l=some xs) (hl:l.length≤9223372036854775806) (m:Nat) : ItG Tryz.prog 63 [.ptr [.sl (Is l)]] (itY xs) m:=by
 obtain ⟨hlen,hat⟩:=Q8 h
 have hyl:(itY xs).length=l.length:=by simp [itY,hlen]
 refine ItG.of Tryz.func63 rfl rfl (nt:=18) rfl (by simp) fun lp J hJ hR=>?_;refine .seq ?_;refine .lift ?_;refine .region ?_;refine vk (Ai Bh) ?_;refine vk (A9 (Af _) (BO _) BL) ?_;refine vk (Ah) ?_;refine .nil ?_
 show AWJ _ _ _ _ _ _ _ _ _
 refine .block ?_;refine ALJ.loop ?_;refine ALJ.gh (Gh.keep [0,5,6,7] rfl) ?_
 refine ALJ.ind (σ:=Nat) (m:=fun i=>l.length-i) (e:=fun i=>[(0,.d (.yl lp)),(5,.d (.sl (Is l))),(6,.d (.i .i64 ((List.length l:Nat):Int))),(7,.d (.i .i64 ((i:Nat):Int)))]) (h:=fun _=>[]) (r:=fun i=>i) (I:=fun i=>i≤l.length∧i≤m) ?_ 0 ⟨Nat.zero_le _,Nat.zero_le _⟩
 rintro i ⟨hi,him⟩ ih
 refine .seq ?_;refine .lift ?_;refine .region ?_;refine vk (vbi) ?_;refine .nil ?_
 show AWJ _ _ _ _ _ _ _ _ _
 refine .seq ?_
 by_cases hc:((i:Nat):Int)<((List.length l:Nat):Int)
 ·refine .cond (x:=true) (by show AV.d (.b (decide _))=_;rw [dT hc]) (fun _=>?_) (fun h=>by cases h)
  have hlt:i<l.length:=by omega
  obtain ⟨q,x,hq,hx,hxi⟩:=hat i _ (lG hlt)
  refine .skip ?_
  show AWJ _ _ _ _ _ _ _ _ _
  refine .seq ?_;refine .block ?_;refine .seq ?_;refine .lift ?_;refine .region ?_;refine vk (vix i rfl (A6 (lG hlt)) rfl A2) ?_;refine vk (Ai AA) ?_;refine asd ?_;refine .nil ?_
  show AWJ _ _ _ _ _ _ _ _ _
  refine .seq ?_;refine .region ?_;refine vkJ (Ah) ?_;refine vkJ (Ah) ?_;refine vkJ (Ak (II hq) Tryz.call62) ?_;refine vkJ (Ak (FZ hx) Tryz.call61) ?_;refine yld (hR i [WM x] (XS hxi) him) hJ ?_;refine vkJ (vnt) ?_;refine .nil ?_
  show AWJ _ _ _ _ _ _ _ _ _
  by_cases hm:i<m
  ·refine .cond (x:=false) (by show AV.d (.b (!decide _))=_;rw [dT hm];rfl) (fun h=>by cases h) (fun _=>?_)
   refine .skip ?_
   show AWJ _ _ _ _ _ _ _ _ _
   refine .lift ?_;refine .region ?_;refine vk (vbi) ?_;refine vk (Ah) ?_;refine .nil ?_
   show ALJ _ _ _ _ _ _ _ _ _
   have hw:IntKind.wrap .i64 ((i:Int)+1)=((i+1:Nat):Int):=by simp only [IntKind.wrap,IntKind.bits,IntKind.signed];simp;omega
   rw [hw]
   refine ALJ.gh (Gh.keep [0,5,6,7] rfl) ?_
   exact ih (i+1) ⟨hlt,hm⟩ (by omega)
  ·refine .cond (x:=true) (by show AV.d (.b (!decide _))=_;rw [dF hm];rfl) (fun _=>?_) (fun h=>by cases h)
   refine .ret ?_
   exact ⟨.inr rfl,by rw [hyl];omega⟩
 ·refine .cond (x:=false) (by show AV.d (.b (decide _))=_;rw [dF hc]) (fun h=>by cases h) (fun _=>?_)
  refine .exit ?_
  exact ⟨.inl rfl,by rw [hyl];omega⟩
def Lh (s:ByteArray) : Nat→Nat→List Int
 | 0,_=>[]
 | k+1,pos=>if pos<s.size then W7 s pos::Lh s k (L7 s pos) else []
def MF (s:ByteArray) : List Int:=Lh s s.size 0
theorem Vc (s:ByteArray) (pos:Nat) : pos<L7 s pos:=by
 have:=Lib.width_pos s pos
 unfold L7;omega
def Iv (proto:Itm) (xs:List Itm) : Arr:=.mk [((min xs.length 4096:Nat) : Int)] (if xs.length=0 then [proto] else xs.take 4096)
abbrev Zw (xs:List Itm) (n:Nat) : Ad:=[.box [.own 3 (Is [((n:Nat) : Int)]),.own 42 (Its (xs.take n))]]
theorem WS : 0<AN Tryz.prog 42:=by rw [G8];decide
set_option maxRecDepth 10000 in
set_option maxHeartbeats 4000000 in
theorem Uo {proto:Itm} {xs:List Itm} {f:FuncId} {caps:List DV} (hcall:∀ args w,(callFunc f args).run Tryz.prog w=.ok (.enter f args) w) (hit:ItG Tryz.prog f caps (itY xs) 4096) :
  Fn Tryz.prog 60 [WM proto,.fn f [] caps] (.d (.ag [.sl (Is (Iv proto xs).shape),.sl (Its (Iv proto xs).items)])):=by
 refine Fn.ofMA (rs:=[.cell 4 30]) (nt:=37) Tryz.func60 rfl rfl rfl (by simp) rfl ?_;refine .seqA ?_;refine .region ?_;refine vk (vbx (cs:=[.i .u8 proto.kind,.b proto.num.1,.sl (L proto.num.2.1),.sl (L proto.num.2.2),.i .i32 proto.char,.sl (Ars proto.box)])) ?_;refine vk (van (Aj AD) AI) ?_;refine .nil ?_
 show AWM _ _ _ _ _ _
 refine .seqA ?_;refine .region ?_;refine vk (C6 (ds':=Is [0]) rfl (Eu [0]) CX) ?_;refine bdo CF AD rfl ?_
 refine al ?_ (Aj AD) (fun w I μ=>Ji w I μ)
 refine st2 (c0:=.nl) (c1:=.nl) rfl ?_ Aa
 refine .nil ?_
 show AWM _ _ _ _ _ _
 refine .gh (Gh.keep [1,2,4,5] rfl) ?_;refine .gh (Gh.nlOwnC (id:=0) (off:=1) 42 WS) ?_;refine .seq rfl ?_;refine .seqA ?_;refine .region ?_;refine vk (Ah) ?_;refine .nil ?_
 show AWM _ _ _ _ _ _
 refine .block ?_
 refine AWM.rangeFuncG (ps:=[10]) (f:=f) (caps:=caps) (ys:=itY xs) (m:=4096) (e1:=.exit 0) rfl rfl rfl hcall hit (fun ds hd=>?_) (fun p hp=>?_) rfl (fun k H=>H=Zw xs (min k 4096)) rfl (.inl ⟨0,rfl⟩) (fun l k ds H hk hkm hH=>?_) (fun H hH=>?_)
 ·simp only [itY,List.mem_map] at hd
  obtain ⟨x,_,rfl⟩:=hd;rfl
 ·simp only [List.mem_cons,List.not_mem_nil,or_false] at hp;subst hp;rfl
 ·subst hH
  simp only [itY,List.getElem?_map,Option.map_eq_some_iff] at hk
  obtain ⟨x,hx,rfl⟩:=hk
  rw [Nat.min_eq_left hkm]
  refine .region ?_;refine vk (van (Aj Bv) BM) ?_
  refine stn ?_ An (by decide)
  refine .nil ?_;refine aw ?_;refine .block ?_;refine .seq ?_;refine .seq ?_;refine .region ?_;refine vk (DX Ay) ?_
  refine Sp (cs:=[.own 3 (Is [((k:Nat):Int)]),.own 42 (Its (xs.take k))]) rfl rfl ?_ Bh
  refine ixr (len:=1) (xs:=Is [((k:Nat):Int)]) 0 rfl (by decide) ?_ A2 (by decide)
  refine lde (xs:=Is [((k:Nat):Int)]) (.i .i64 ((k:Nat):Int)) ⟨_,rfl,rfl⟩ ?_ AA
  refine vk (vbi) ?_;refine rn ?_
  by_cases hm:((k:Nat):Int)=4096
  ·refine cnt (dT hm) ?_
   refine .exit ?_
   have hk4:k=4096:=by omega
   subst hk4
   exact ⟨rfl,rfl⟩
  refine cnf (dF hm) ?_
  have hlt:k<4096:=by omega
  have hkl:k<xs.length:=(lS.1 hx).1
  refine .skip ?_;refine aw ?_;refine .gh (Gh.keep [5,6] rfl) ?_;refine .seq ?_;refine .region ?_;refine vk (DX Au) ?_
  refine Sp (cs:=[.own 3 (Is [((k:Nat):Int)]),.own 42 (Its (xs.take k))]) rfl rfl ?_ Bp
  refine vk (Jw AJ An) ?_;refine vk (C6 (Cz x) (BW [x]) BA) ?_
  have hap:ap? 1466015503701 (xs.take k) [x]=some (xs.take (k+1)):=by
   rw [ap?,if_pos (by simp;omega),List.take_add_one,hx];rfl
  refine NY Ew hap rfl rfl Fk ?_ Ee Aq BA
  refine RL.gh (Gh.keep [5,6,20] rfl) ?_;refine vk (DX Au) ?_
  refine H6 (cs:=[.own 3 (Is [((k:Nat):Int)]),.un]) (c:=.un) rfl rfl ?_ Ib
  refine rn ?_;refine .gh (Gh.keep [5] rfl) ?_;refine .region ?_;refine vk (DX Ay) ?_
  refine Sp (cs:=[.own 3 (Is [((k:Nat):Int)]),.own 42 (Its (xs.take (k+1)))]) rfl rfl ?_ Bh
  refine ixr (len:=1) (xs:=Is [((k:Nat):Int)]) 0 rfl (by decide) ?_ A2 (by decide)
  refine lde (xs:=Is [((k:Nat):Int)]) (.i .i64 ((k:Nat):Int)) ⟨_,rfl,rfl⟩ ?_ AA
  refine vk (vbi) ?_
  refine ixr (len:=1) (xs:=Is [((k:Nat):Int)]) 0 rfl (by decide) ?_ A2 (by decide)
  refine ste (xs:=Is [((k:Nat):Int)]) ⟨_,rfl,rfl⟩ ?_ Dh (hn:=fun _ _ _=>Nat.zero_le _)
  refine .nil ?_
  have hw:IntKind.wrap .i64 ((k:Int)+1)=((k+1:Nat):Int):=by simp only [IntKind.wrap,IntKind.bits,IntKind.signed];simp;omega
  refine ⟨by rw [if_pos hlt],?_⟩
  rw [Nat.min_eq_left (by omega:k+1≤4096)]
  show [HO.box [AV.own _ [.i .i64 (IntKind.wrap .i64 ((k:Int)+1))],_]]=_
  rw [hw];rfl
 ·have hlen:(itY xs).length=xs.length:=by simp [itY]
  rw [hlen] at hH ⊢
  have hn:min (min (4096+1) xs.length) 4096=min xs.length 4096:=by omega
  rw [hn] at hH
  subst hH
  by_cases hb:4096<xs.length
  case' pos=>rw [if_pos hb]
  case' neg=>rw [if_neg hb]
  all_goals
   show AWM _ _ _ _ _ _
   refine .lift ?_;refine .gh (Gh.keep [2,4,5] rfl) ?_;refine .seq ?_;refine .seq ?_;refine .region ?_;refine vk (DX Ay) ?_
   refine Sp (cs:=[.own 3 (Is [((min xs.length 4096:Nat):Int)]),.own 42 (Its (xs.take (min xs.length 4096)))]) rfl rfl ?_ Bh
   refine ixr (len:=1) (xs:=Is [((min xs.length 4096:Nat):Int)]) 0 rfl (by decide) ?_ A2 (by decide)
   refine lde (xs:=Is [((min xs.length 4096:Nat):Int)]) (.i .i64 ((min xs.length 4096:Nat):Int)) ⟨_,rfl,rfl⟩ ?_ AA
   refine vk (vbi) ?_;refine rn ?_;refine .gh (Gh.keep [2,4,5,32] rfl) ?_
   by_cases h0:((min xs.length 4096:Nat):Int)=0
   ·have hx0:xs.length=0:=by omega
    refine cnt (dT h0) ?_;refine .region ?_;refine vk (AC AJ An) ?_;refine vk (C6 (Cz proto) (BW [proto]) BA) ?_;refine vk (DX Au) ?_
    refine H6 (cs:=[.own 3 (Is [((min xs.length 4096:Nat):Int)]),.own 42 (Its (xs.take (min xs.length 4096)))]) (c:=.own 42 (Its (xs.take (min xs.length 4096)))) rfl rfl ?_ Ib
    refine .nil ?_;refine aw ?_;refine .gh (Gh.keep [4,5] rfl) ?_;refine .seq ?_;refine .region ?_;refine fz (p:=.c 0 0) ?_;refine fz (p:=.c 0 1) ?_;refine vk (GT (cs:=[.d (.sl (Is [((min xs.length 4096:Nat):Int)])),.d (.sl (Its [proto]))]) (ds:=[.sl (Is [((min xs.length 4096:Nat):Int)]),.sl (Its [proto])]) rfl Ac Aa) ?_
    refine stn ?_ Aa (by decide)
    refine rn ?_;refine .ret ?_
    exact ⟨.inr rfl,.inl ⟨_,⟨.inr rfl,Ac,Aa,(by decide:(0:Nat)<2)⟩,by simp only [Iv,if_pos hx0];rfl⟩⟩
   ·have hx0:¬xs.length=0:=by omega
    refine cnf (dF h0) ?_;refine .skip ?_;refine aw ?_;refine .gh (Gh.keep [4,5] rfl) ?_;refine .seq ?_;refine .region ?_;refine fz (p:=.c 0 0) ?_;refine fz (p:=.c 0 1) ?_;refine vk (GT (cs:=[.d (.sl (Is [((min xs.length 4096:Nat):Int)])),.d (.sl (Its (xs.take (min xs.length 4096))))]) (ds:=[.sl (Is [((min xs.length 4096:Nat):Int)]),.sl (Its (xs.take (min xs.length 4096)))]) rfl Ac Aa) ?_
    refine stn ?_ Aa (by decide)
    refine rn ?_;refine .ret ?_
    have ht:xs.take (min xs.length 4096)=xs.take 4096:=by
     rcases Nat.le_total xs.length 4096 with h|h
     ·rw [Nat.min_eq_left h,List.take_of_length_le (Nat.le_refl _),List.take_of_length_le h]
     ·rw [Nat.min_eq_right h]
    exact ⟨.inr rfl,.inl ⟨_,⟨.inr rfl,Ac,Aa,(by decide:(0:Nat)<2)⟩,by simp only [Iv,if_neg hx0,ht];rfl⟩⟩
def Le (l:List Int) : Option Arr:=if l.length≤9223372036854775806 then (GB l).bind fun xs=>(FJ 0).bind fun q=>(CH q).bind fun p=>some (Iv p xs) else none
theorem Lz {l:List Int} {r:Arr} (h:Le l=some r) : Fn Tryz.prog 25 [.sl (Is l)] (.d (.ag [.sl (Is r.shape),.sl (Its r.items)])):=by
 obtain ⟨hl,h⟩:=GX h
 obtain ⟨xs,hxs,h⟩:=bnd h
 obtain ⟨q,hq,h⟩:=bnd h
 obtain ⟨p,hp,h⟩:=bnd h
 cases h
 refine Fn.ofC (rs:=[.cell 2 30]) (nt:=7) Tryz.func25 rfl rfl rfl (by simp) rfl ?_;refine .sr ?_;refine vk (YL) ?_;refine vk (van (Aj AD) AI) ?_;refine rn ?_;refine .sr ?_;refine vk (Ak (II hq) Tryz.call62) ?_;refine vk (Ak (FZ hp) Tryz.call61) ?_;refine vk (XZ) ?_;refine vk (Ak (Uo (proto:=p) Tryz.call63 (UJ hxs hl 4096)) Tryz.call60) ?_
 refine stn ?_ Aa (by decide)
 refine rn ?_;refine .ret ?_
 exact ⟨_,⟨.inr rfl,Ac,Aa,p2⟩,rfl⟩
mutual
def tyI : Itm→Itm
 | .mk k _ _ b=>if k=1 then .mk 1 (ofQ 0) 0 [] else if k=2 then .mk 2 (false,[],[]) 32 [] else .mk 3 (false,[],[]) 0 (tyBs b)
def tyA : Arr→Arr
 | .mk s i=>.mk s (tyIs i)
def tyIs : List Itm→List Itm
 | []=>[]
 | x::xs=>tyI x::tyIs xs
def tyBs : List Arr→List Arr
 | []=>[]
 | a::_=>[tyA a]
end
theorem E7 (s:List Int) (i:List Itm) : (Arr.mk s i).shape=s:=rfl
theorem DN (s:List Int) (i:List Itm) : (Arr.mk s i).items=i:=rfl
theorem NE (k:Int) (n:RT) (c:Int) (b:List Arr) : (Itm.mk k n c b).kind=k:=rfl
theorem Xz (k:Int) (n:RT) (c:Int) (b:List Arr) : (Itm.mk k n c b).num=n:=rfl
theorem XD (k:Int) (n:RT) (c:Int) (b:List Arr) : (Itm.mk k n c b).char=c:=rfl
theorem Ve (k:Int) (n:RT) (c:Int) (b:List Arr) : (Itm.mk k n c b).box=b:=rfl
theorem Vl (xs:List Itm) : tyIs xs=xs.map tyI:=by induction xs with
 | nil=>simp [tyIs]
 | cons x xs ih=>simp [tyIs,ih]
theorem H9 (a:Arr) : tyA a=.mk a.shape (a.items.map tyI):=by cases a;simp only [tyA,Vl];rfl
theorem YN (x:Itm) : tyI x=if x.kind=1 then .mk 1 (ofQ 0) 0 [] else if x.kind=2 then .mk 2 (false,[],[]) 32 [] else .mk 3 (false,[],[]) 0 (tyBs x.box):=by cases x;simp only [tyI];rfl
theorem EM : ∀ {xs:List Itm},rIs xs=true↔∀ x∈xs,rI x=true
 | []=>by simp [rIs]
 | x::xs=>by simp [rIs,EM (xs:=xs)]
theorem SU : ∀ {xs:List Arr},rBs xs=true↔∀ a∈xs,AM a=false∧rA a=true
 | []=>by simp [rBs]
 | x::xs=>by simp [rBs,SU (xs:=xs)]
theorem FX {x:Itm} (h:rI x=true) : (x.kind=1∧EV x.num=true∧x.char=0∧x.box=[])∨(x.kind=2∧chB x.char=true∧x.num=(false,[],[])∧x.box=[])∨(x.kind=3∧x.num=(false,[],[])∧x.char=0∧∃ a,x.box=[a]∧AM a=false∧rA a=true):=by
 rw [MX] at h
 by_cases k1:x.kind=1
 ·rw [if_pos k1] at h;simp only [Bool.and_eq_true,decide_eq_true_eq] at h
  exact .inl ⟨k1,h.1,h.2.1,List.length_eq_zero_iff.1 h.2.2⟩
 rw [if_neg k1] at h
 by_cases k2:x.kind=2
 ·rw [if_pos k2] at h;simp only [Bool.and_eq_true,decide_eq_true_eq] at h
  exact .inr (.inl ⟨k2,h.1,(Nm x).1 h.2.1,List.length_eq_zero_iff.1 h.2.2⟩)
 rw [if_neg k2] at h
 by_cases k3:x.kind=3
 ·rw [if_pos k3] at h;simp only [Bool.and_eq_true,decide_eq_true_eq] at h
  obtain ⟨a,ha⟩:=List.length_eq_one_iff.1 h.1
  refine .inr (.inr ⟨k3,(Nm x).1 h.2.1,h.2.2.1,a,ha,SU.1 h.2.2.2 a (by simp [ha])⟩)
 ·rw [if_neg k3] at h;cases h
def Xf (x:Itm) : Prop:=rI (tyI x)=true∧dI (tyI x)=dI x∧cI (tyI x)=cI x∧tyI (tyI x)=tyI x∧(tyI x).kind=x.kind∧okI (tyI x)
theorem R2 {s:List Int} {i:List Itm} {f:Itm→Itm} (h:∀ x∈i,(f x).kind=x.kind) : AM (.mk s (i.map f))=AM (.mk s i):=by
 unfold AM
 match i with
 | []=>rfl
 | [x]=>simp only [E7,DN,List.map,h x (by simp)]
 | x::y::r=>rfl
theorem To {f:Itm→Itm} : ∀ {i:List Itm},(∀ x∈i,cI (f x)=cI x)→cIs (i.map f)=cIs i
 | [],_=>rfl
 | x::xs,h=>by simp only [List.map,cIs];rw [h x (by simp),To fun y hy=>h y (by simp [hy])]
theorem ST {f:Itm→Itm} : ∀ {i:List Itm},(∀ x∈i,dI (f x)=dI x)→dIs (i.map f)=dIs i
 | [],_=>rfl
 | x::xs,h=>by simp only [List.map,dIs];rw [h x (by simp),ST fun y hy=>h y (by simp [hy])]
theorem XO {a:Arr} (oa:okAr a) (hr:rA a=true) (ih:∀ x∈a.items,Xf x) : rA (tyA a)=true∧dA (tyA a)=dA a∧cA (tyA a)=cA a∧tyA (tyA a)=tyA a∧AM (tyA a)=AM a∧okAr (tyA a):=by
 have o:=(AK a).1 oa
 have hs:AM (tyA a)=AM a:=by
  rw [H9,R2 (fun x hx=>(ih x hx).2.2.2.2.1),Arr.eta]
 rw [HG] at hr
 simp only [Bool.and_eq_true,decide_eq_true_eq] at hr
 refine ⟨?_,?_,?_,?_,hs,?_⟩
 ·rw [HG,H9]
  simp only [E7,DN,List.length_map,Bool.and_eq_true,decide_eq_true_eq]
  refine ⟨dT hr.1,hr.2.1,EM.2 fun x hx=>?_⟩
  obtain ⟨y,hy,rfl⟩:=List.mem_map.1 hx
  exact (ih y hy).1
 ·rw [Gz,Gz,hs,H9]
  simp only [DN]
  rw [ST fun x hx=>(ih x hx).2.1]
 ·rw [GK,GK,H9]
  simp only [DN,List.length_map]
  rw [To fun x hx=>(ih x hx).2.2.1]
 ·rw [H9,H9]
  simp only [E7,DN,List.map_map,Arr.mk.injEq,true_and]
  exact List.map_congr_left fun x hx=>(ih x hx).2.2.2.1
 ·rw [AK,H9]
  simp only [E7,DN,List.length_map]
  refine ⟨o.1,o.2.1,o.2.2.1,fun x hx=>?_⟩
  obtain ⟨y,hy,rfl⟩:=List.mem_map.1 hx
  exact (ih y hy).2.2.2.2.2
theorem VZ (n:RT) (c:Int) (b:List Arr) : tyI (.mk 1 n c b)=.mk 1 (ofQ 0) 0 []:=by simp [tyI]
theorem Wa (n:RT) (c:Int) (b:List Arr) : tyI (.mk 2 n c b)=.mk 2 (false,[],[]) 32 []:=by simp [tyI]
theorem UE (n:RT) (c:Int) (a:Arr) : tyI (.mk 3 n c [a])=.mk 3 (false,[],[]) 0 [tyA a]:=by simp [tyI,tyBs]
theorem SH {r:RT} (h:Hq r=true) : okI (.mk 1 r 0 []):=by
 simp [okI,okAs,h]
theorem Wm {c:Int} (h:chB c=true) : okI (.mk 2 (false,[],[]) c []):=by
 simp only [chB,Bool.and_eq_true,decide_eq_true_eq] at h
 refine ⟨by omega,rfl,by omega,by simp,trivial⟩
theorem Xs {a:Arr} (h:okAr a) : okI (.mk 3 (false,[],[]) 0 [a]):=⟨by omega,rfl,by omega,by simp,h,trivial⟩
theorem U9 {r:RT} (h:EV r=true) : rI (.mk 1 r 0 [])=true:=by simp [rI,h]
theorem WA {c:Int} (h:chB c=true) : rI (.mk 2 (false,[],[]) c [])=true:=by simp [rI,h,C7,Itm.num]
theorem XV {a:Arr} (h:rA a=true) (hs:AM a=false) : rI (.mk 3 (false,[],[]) 0 [a])=true:=by simp [rI,rBs,h,hs,C7,Itm.num]
theorem V1 : ∀ (k:Nat) {x:Itm},x.size<k→okI x→rI x=true→Xf x
 | 0,x,h,_,_=>by omega
 | k+1,x,h,ho,hr=>by
  have hc:=FX hr
  cases x with
  | mk kd n c b =>
   simp only [NE,Xz,XD,Ve] at hc
   unfold Xf
   rcases hc with ⟨rfl,h1,rfl,rfl⟩|⟨rfl,h1,rfl,rfl⟩|⟨rfl,rfl,rfl,a,rfl,h2,h3⟩
   ·rw [VZ,VZ]
    exact ⟨U9 (LG Lw),rfl,rfl,rfl,rfl,SH (HF Lw)⟩
   ·rw [Wa,Wa]
    exact ⟨WA rfl,rfl,rfl,rfl,rfl,Wm rfl⟩
   ·have hb:a∈Itm.box (.mk 3 (false,[],[]) 0 [a]):=by simp [Itm.box]
    have hz:=FS hb
    have oa:okAr a:=((C5 _).1 ho).2.2.2.2 a hb
    have h3':=h3
    rw [HG] at h3';simp only [Bool.and_eq_true] at h3'
    obtain ⟨p1,p2,p3,p4,p5,p6⟩:=XO oa h3 fun y hy=>V1 k (by have:=GM hy;omega) (((AK a).1 oa).2.2.2 y hy) (EM.1 h3'.2.2 y hy)
    rw [UE,UE,p4]
    refine ⟨XV p1 (by rw [p5,h2]),?_,?_,rfl,rfl,Xs p6⟩
    ·simp only [dI,dBs,p2]
    ·simp only [cI,cBs,p3]
theorem PA {x:Itm} (ho:okI x) (hr:rI x=true) : Xf x:=V1 _ (Nat.lt_succ_self _) ho hr
theorem Nn : ∀ (k:Nat) {x:Itm},x.size<k→okI x→rI x=true→Fx k x=some (tyI x)
 | 0,x,h,_,_=>by omega
 | k+1,x,h,ho,hr=>by
  have hc:=FX hr
  cases x with
  | mk kd n c b =>
   simp only [NE,Xz,XD,Ve] at hc
   rw [Fx,Hi]
   rcases hc with ⟨rfl,h1,rfl,rfl⟩|⟨rfl,h1,rfl,rfl⟩|⟨rfl,rfl,rfl,a,rfl,h2,h3⟩
   ·rw [if_pos (NE 1 n 0 []),VZ,SE (by omega) (by omega),oB,Rat.intCast_zero,L5 (HF Lw),oB]
   ·rw [if_neg (by rw [NE];decide),if_pos (NE 2 _ c []),Wa];rfl
   ·have hb:a∈Itm.box (.mk 3 (false,[],[]) 0 [a]):=by simp [Itm.box]
    have hz:=FS hb
    have oa:okAr a:=((C5 _).1 ho).2.2.2.2 a hb
    have h3':=h3
    rw [HG] at h3';simp only [Bool.and_eq_true] at h3'
    have o:=(AK a).1 oa
    rw [if_neg (by rw [NE];decide),if_neg (by rw [NE];decide),Ve,Mt,oB,La (h:=tyI) (fun y hy=>Nn k (by have:=GM hy;omega) (o.2.2.2 y hy) (EM.1 h3'.2.2 y hy)) o.2.1 o.2.2.1,oB,UE,H9]
theorem Rj {x:Itm} (ho:okI x) (hr:rI x=true) : KC x=some (tyI x):=Nn _ (Nat.lt_succ_self _) ho hr
theorem Jc {a:Arr} (h:rA a=true) : (szP a.shape).2=0∧(a.items.length:Int)=(if (szP a.shape).1<1 then 1 else (szP a.shape).1)∧∀ x∈a.items,rI x=true:=by
 rw [HG] at h;simp only [Bool.and_eq_true,decide_eq_true_eq] at h
 exact ⟨h.1,h.2.1,EM.1 h.2.2⟩
theorem Vv {a:Arr} (ha:okAr a) : FM a=some (if (szP a.shape).1=0∨¬AB a then [] else a.items):=by
 have o:=(AK a).1 ha
 unfold FM
 rw [Ik o.2.1,oB]
 by_cases h0:(szP a.shape).1=0
 ·rw [if_pos h0,if_pos (.inl h0)];rfl
 rw [if_neg h0,HA ha,oB]
 by_cases h:AB a
 ·rw [dT h,if_neg (by rintro (q|q);exact h0 q;exact q h),Bool.not_true,oB,if_neg (by decide),LK ha];rfl
 ·rw [dF h,if_pos (.inr h)];rfl
theorem O0 {xs:List Itm} {f:CK} {p:Itm→Bool} (hf:∀ x∈xs,f.g x=some (p x)) (K:Int→Option Int) (hl:xs.length≤17592186044416) : ∀ (n i k:Nat) (s:Int),n=xs.length-i→i≤xs.length→n<k →
  (As xs f K k s (i:Int)=K s∧(xs.drop i).any p=false)∨(∃ j:Nat,As xs f K k s (i:Int)=some (j:Int)∧(xs.drop i).any p=true)
 | _,_,0,_,_,_,h=>by omega
 | n,i,k+1,s,hn,hi,hk=>by
  rw [As]
  by_cases h:i<xs.length
  ·rw [if_pos (by omega),AY h,oB,hf _ (List.getElem_mem h),oB,lC h,List.any_cons]
   by_cases hp:p xs[i]=true
   ·rw [if_pos hp,hp];exact .inr ⟨i,rfl,rfl⟩
   ·rw [if_neg hp,A4 (by omega)]
    have:p xs[i]=false:=by simpa using hp
    rw [this,Bool.false_or]
    exact O0 hf K hl (n-1) (i+1) k s (by omega) (by omega) (by omega)
  ·rw [if_neg (by omega),List.drop_of_length_le (by omega)];exact .inl ⟨rfl,rfl⟩
theorem NZ {xs:List Itm} {f:CK} {p:Itm→Bool} (hf:∀ x∈xs,f.g x=some (p x)) (hl:xs.length≤17592186044416) : AX xs f=some (xs.any p):=by
 unfold AX Bj
 rw [A3]
 rcases O0 hf (fun _=>some (-1)) hl xs.length 0 Aw 0 rfl (Nat.zero_le _) (AS (by omega)) with ⟨h1,h2⟩|⟨j,h1,h2⟩
 ·rw [show ((0:Nat):Int)=0 from rfl] at h1
  rw [h1,oB,List.drop_zero] at *
  rw [h2];rfl
 ·rw [show ((0:Nat):Int)=0 from rfl] at h1
  rw [h1,oB]
  rw [List.drop_zero] at h2
  rw [h2,dT (by omega)]
def EL (xs:List Itm) : List Int:=xs.map fun x=>((1+cI x:Nat) : Int)
theorem OS {x:Itm} (hx:okI x) (hr:Bg x) : ∀ a∈x.box,okAr a∧AB a∧cI x=cA a∧x.box=[a]:=fun a ha=>by
 have oa:=((C5 x).1 hx).2.2.2.2 a ha
 rcases FX hr.1 with ⟨_,_,_,h⟩|⟨_,_,_,h⟩|⟨_,_,_,b,h,h2,h3⟩
 ·rw [h] at ha;cases ha
 ·rw [h] at ha;cases ha
 ·have hb:=ha
  rw [h,List.mem_singleton] at hb
  subst hb
  have e1:cI x=cA a:=by rw [Ku,h];simp [cBs]
  have e2:dI x=dA a:=by rw [MY,h];simp [dBs]
  exact ⟨oa,⟨h3,e2▸hr.2.1,e1▸hr.2.2⟩,e1,h⟩
theorem WE {x:Itm} (hx:okI x) (hr:Bg x) (K:Int→Option (Arr×Int)) : CQ x K Aw 1 0=K ((1+cI x:Nat) : Int):=by
 have hF:Aw=999999999999998+1+1:=rfl
 rw [hF,CQ]
 by_cases hb:x.box=[]
 ·rw [if_neg (by rw [hb];decide)]
  have:cI x=0:=by rw [Ku,hb];rfl
  rw [this];rfl
 ·obtain ⟨a,ha⟩:=List.exists_mem_of_ne_nil _ hb
  obtain ⟨oa,ra,e1,e2⟩:=OS hx hr a ha
  have h16:=ra.2.2
  rw [e2,if_pos (by simp),Mt,oB,UI oa,oB,if_pos ra,CQ,e2,if_neg (by rw [show w64 ((0:Int)+1)=1 from rfl];simp),Bi (by omega) (by omega),e1]
  congr 1
theorem Tm {xs:List Itm} (hx:∀ x∈xs,okI x∧Bg x) (hl:xs.length≤1466015503701) (K:List Int→Option (Arr×Int)) : ∀ (n i k:Nat) (t:List Int),n=xs.length-i→i≤xs.length→n<k→t.length=i →
  Ck xs K k t (i:Int)=K (t++(EL xs).drop i)
 | _,_,0,_,_,_,h,_=>by omega
 | n,i,k+1,t,hn,hi,hk,ht=>by
  rw [Ck]
  have hcl:(EL xs).length=xs.length:=by simp [EL]
  by_cases h:i<xs.length
  ·obtain ⟨o,r⟩:=hx _ (List.getElem_mem h)
   have hd:(EL xs)[i]'(by omega)=((1+cI xs[i]:Nat):Int):=by simp [EL]
   rw [if_pos (by omega),A3,AY h,oB,A3,WE o r,Dw (by simp;omega),oB,A4 (by omega)]
   show Ck xs K k (t++[((1+cI xs[i]:Nat):Int)]) ((i+1:Nat):Int)=_
   rw [Tm hx hl K (n-1) (i+1) k _ (by omega) (by omega) (by omega) (by simp [ht]),
    lC (by omega:i<(EL xs).length),hd,List.append_assoc]
   rfl
  ·rw [if_neg (by omega),List.drop_of_length_le (by omega),List.append_nil]
def cyc (xs:List Itm) (n:Nat) : List Itm:=(List.range n).map fun i=>xs.getD (i % xs.length) default
theorem Ki (xs:List Itm) (n:Nat) : cyc xs (n+1)=cyc xs n++[xs.getD (n % xs.length) default]:=by
 unfold cyc;rw [List.range_succ,List.map_append];rfl
theorem ES (xs:List Itm) (n:Nat) : (cyc xs n).length=n:=by simp [cyc]
theorem MA (xs ys:List Itm) : cIs (xs++ys)=cIs xs+cIs ys:=by
 induction xs with
 | nil=>simp [cIs]
 | cons x xs ih=>simp only [List.cons_append,cIs,ih];omega
theorem Tp {xs:List Itm} (h:xs≠[]) {n:Nat} {x:Itm} (hx:x∈cyc xs n) : x∈xs:=by
 unfold cyc at hx
 obtain ⟨i,_,rfl⟩:=List.mem_map.1 hx
 have hp:0<xs.length:=List.length_pos_iff.2 h
 have hlt:=Nat.mod_lt i hp
 rw [lD,lG hlt]
 exact List.getElem_mem hlt
theorem VM (xs:List Itm) {i n:Nat} (h:i≤n) : i+cIs (cyc xs i)≤n+cIs (cyc xs n):=by
 induction n with
 | zero =>
  have:i=0:=by omega
  subst this;exact Nat.le_refl _
 | succ n ih =>
  by_cases he:i=n+1
  ·subst he;exact Nat.le_refl _
  ·have:=ih (by omega)
   rw [Ki,MA];omega
theorem Te {xs:List Itm} (hx:∀ x∈xs,okI x∧Bg x) (hne:xs≠[]) (hl:xs.length≤1466015503701) {m:Nat} (hm:m≤4096) (x1:Int×Int) (hx1:x1.1=(m:Int)) (K:Arr→Int→List Int→List Itm→Option (Arr×Int)) (a:Arr) (b:Int) (s:List Int) (t0:List Itm) (ht0:t0.length≤1) : ∀ (n i k:Nat),n=m-i→i≤m→n<k→i+cIs (cyc xs i)≤16384 →
  Cl xs x1 (EL xs) K k a b (i:Int) ((i+cIs (cyc xs i):Nat):Int) s (t0++cyc xs i)=if m+cIs (cyc xs m)≤16384 then K a b s (t0++cyc xs m) else some (.mk [] [],8)
 | _,_,0,_,_,h,_=>by omega
 | n,i,k+1,hn,hi,hk,hc=>by
  rw [Cl]
  have hcl:(EL xs).length=xs.length:=by simp [EL]
  have hp:0<xs.length:=List.length_pos_iff.2 hne
  by_cases h:i<m
  ·have hlt:=Nat.mod_lt i hp
   have htm:Int.tmod (i:Int) ((xs.length:Nat):Int)=((i % xs.length:Nat):Int):=by
    rw [Int.tmod_eq_emod_of_nonneg (by omega)];rfl
   have hgr:E5 (((List.length xs:Nat):Int)≠0)=some ():=if_pos (by omega)
   have hd:(EL xs)[i % xs.length]'(by omega)=((1+cI xs[i % xs.length]:Nat):Int):=by simp [EL]
   obtain ⟨o,r⟩:=hx _ (List.getElem_mem hlt)
   have hg:xs.getD (i % xs.length) default=xs[i % xs.length]:=by rw [lD,lG hlt];rfl
   have hci:cI xs[i % xs.length]≤16384:=r.2.2
   have hsum:cIs (cyc xs (i+1))=cIs (cyc xs i)+cI xs[i % xs.length]:=by rw [Ki,MA,hg];simp [cIs]
   rw [if_pos (by omega),hgr,oB,htm,AY (by omega:i % xs.length<(EL xs).length),oB,hd,Bi (by omega) (by omega)]
   by_cases hbig:(16384:Int)<((i+cIs (cyc xs i):Nat):Int)+((1+cI xs[i % xs.length]:Nat):Int)
   ·rw [if_pos hbig,if_neg]
    have:=VM xs (show i+1≤m by omega)
    omega
   ·have hlen:=ES xs i
    rw [if_neg hbig,oB,AY hlt,oB,Ou o,oB,Dw (by simp;omega),oB,A4 (by omega)]
    have ih:=Te hx hne hl hm x1 hx1 K a b s t0 ht0 (n-1) (i+1) k (by omega) (by omega) (by omega) (by omega)
    rw [Ki,hg] at ih
    rw [← ih,List.append_assoc]
    congr 1
    rw [MA];simp only [cIs];omega
  ·have:i=m:=by omega
   subst this
   rw [if_neg (by omega),if_pos hc]
def Bc (n:Int) (xs:List Itm) : List Itm:=if n=0 then [tyI (xs.headD default)] else cyc xs n.toNat
theorem Jj {s:List Int} {xs:List Itm} (hs:∀ z∈s,-9223372036854775808≤z∧z≤9223372036854775807) (hl:s.length≤17592186044416) (hxl:xs.length≤1466015503701) (hx:∀ x∈xs,okI x) :
  AP s xs=some (if (szP s).2≠0 then (.mk [] [],(szP s).2) else if xs=[]∨¬(∀ x∈xs,Bg x) then (.mk [] [],22) else if AB (.mk s (Bc (szP s).1 xs)) then (.mk s (Bc (szP s).1 xs),0) else (.mk [] [],8)):=by
 unfold AP
 rw [Ik hl,oB]
 by_cases h0:(szP s).2=0
 rotate_left
 ·rw [if_neg h0,if_pos h0]
 have h0':¬((szP s).2≠0):=fun h=>h h0
 rw [if_pos h0,if_neg h0']
 by_cases hn:xs=[]
 ·subst hn;rw [if_pos (show ((([]:List Itm).length:Nat):Int)=0 from rfl),if_pos (.inl rfl)];rfl
 have hlen:¬((xs.length:Nat):Int)=0:=by have:=List.length_pos_iff.2 hn;omega
 rw [if_neg hlen,NZ (p:=fun x=>!decide (Bg x)) (fun x hx'=>by
  show Ff x=_
  unfold Ff;rw [PM (hx x hx'),oB]) (by omega),oB,oB]
 by_cases hr:∀ x∈xs,Bg x
 rotate_left
 ·rw [if_pos (.inr hr:xs=[]∨¬∀ x∈xs,Bg x),if_pos]
  rw [List.any_eq_true]
  simp only [Classical.not_forall] at hr
  obtain ⟨x,h1,h2⟩:=hr
  exact ⟨x,h1,by rw [dF h2];rfl⟩
 rw [if_neg (show ¬(xs=[]∨¬∀ x∈xs,Bg x) from fun h=>h.elim hn fun h=>h hr),if_neg (by
  intro h
  rw [List.any_eq_true] at h
  obtain ⟨x,h1,h2⟩:=h
  rw [dT (hr x h1)] at h2;cases h2),Jl hl,oB,A3]
 have hp:0<xs.length:=List.length_pos_iff.2 hn
 have hxr:∀ x∈xs,okI x∧Bg x:=fun x h=>⟨hx x h,hr x h⟩
 obtain ⟨hz0,hz1⟩:=EQ s
 obtain ⟨m,hm⟩:∃ m:Nat,(szP s).1=(m:Int):=⟨(szP s).1.toNat,by omega⟩
 have hgo:∀ t0:List Itm,t0.length≤1→t0++cyc xs m=Bc (szP s).1 xs→(∀ x∈Bc (szP s).1 xs,okI x)→m+cIs (cyc xs m)≤cA (.mk s (Bc (szP s).1 xs)) →
   Ck xs (fun z8=>jn (fun z19 z20 z21 z22=>(Bm (Arr.mk z21 z22)).bind fun x35=>if x35=true then some (Arr.mk z21 z22,0) else some (Arr.mk [] [],8)) fun K6=>Cl xs (szP s) z8 K6 Aw (Arr.mk [] []) 0 0 0 s t0) Aw [] 0=some (if AB (.mk s (Bc (szP s).1 xs)) then (.mk s (Bc (szP s).1 xs),0) else (.mk [] [],8)):=by
  intro t0 ht0 he hok hca
  have e2:=Tm hxr hxl (fun z8=>jn (fun z19 z20 z21 z22=>(Bm (Arr.mk z21 z22)).bind fun x35=>if x35=true then some (Arr.mk z21 z22,0) else some (Arr.mk [] [],8)) fun K6=>Cl xs (szP s) z8 K6 Aw (Arr.mk [] []) 0 0 0 s t0) xs.length 0 Aw [] rfl (Nat.zero_le _) (AS (by omega)) rfl
  rw [show ((0:Nat):Int)=0 from rfl] at e2
  rw [e2,List.nil_append,List.drop_zero]
  show jn _ _=_
  rw [A3]
  have e7:=Te hxr hn hxl (show m≤4096 by omega) (szP s) hm (fun z19 z20 z21 z22=>(Bm (Arr.mk z21 z22)).bind fun x35=>if x35=true then some (Arr.mk z21 z22,0) else some (Arr.mk [] [],8)) (Arr.mk [] []) 0 s t0 ht0 m 0 Aw rfl (Nat.zero_le _) (AS (by omega)) (by show 0+0≤_;omega)
  rw [show cyc xs 0=[] from rfl,List.append_nil,show ((0:Nat):Int)=0 from rfl] at e7
  rw [show (((0+cIs []:Nat)):Int)=0 from rfl] at e7
  rw [e7,he]
  have hit:(Bc (szP s).1 xs).length≤1466015503701:=by
   rw [← he,List.length_append,ES];omega
  have ho:okAr (.mk s (Bc (szP s).1 xs)):=by
   rw [AK];exact ⟨hs,hl,hit,hok⟩
  rw [HA ho]
  by_cases hR:AB (.mk s (Bc (szP s).1 xs))
  ·rw [if_pos (nT hca hR.2.2),if_pos hR,dT hR];rfl
  ·rw [if_neg hR,dF hR];split<;>rfl
 by_cases hz:(szP s).1=0
 ·have hm0:m=0:=by omega
  subst hm0
  obtain ⟨y,ys,rfl⟩:=List.exists_cons_of_ne_nil hn
  have hmk:Bc (szP s).1 (y::ys)=[tyI y]:=by unfold Bc;rw [if_pos hz];rfl
  obtain ⟨o,r⟩:=hxr y (by simp)
  rw [if_pos hz,Mt,oB,Rj o r.1,oB]
  show jn _ _=_
  rw [A3]
  refine hgo [tyI y] (by simp) (by rw [hmk];rfl) ?_ ?_
  ·rw [hmk];intro x hx';rw [List.mem_singleton] at hx';subst hx';exact (PA o r.1).2.2.2.2.2
  ·show 0+0≤_;omega
 ·have hmk:Bc (szP s).1 xs=cyc xs m:=by unfold Bc;rw [if_neg hz,hm];rfl
  rw [if_neg hz]
  show jn _ _=_
  rw [A3]
  refine hgo [] (by simp) (by rw [hmk];rfl) ?_ ?_
  ·rw [hmk];intro x hx';exact hx x (Tp hn hx')
  ·rw [hmk,GK,DN,ES];omega
def HE (z:Int) : Prop:=-9223372036854775808≤z∧z≤9223372036854775807
def Gv (z:Int) : Itm:=.mk 1 (ofQ (z:Rat)) 0 []
theorem Ge {z:Int} (h:HE z) : QP (z:Rat):=Vf h.1 (by have:=h.2;omega)
theorem Po {z:Int} (h:HE z) : okI (Gv z):=SH (HF (Ge h))
theorem J2 {z:Int} (h:HE z) : rI (Gv z)=true:=U9 (LG (Ge h))
theorem Jp : HE 0:=by unfold HE;omega
theorem Tf {z:Int} (h:HE z) {β:Type} (f:Itm→Option β) : ((FJ z).bind fun q=>(CH q).bind f)=f (Gv z):=by
 rw [SE h.1 h.2,oB,L5 (HF (Ge h)),oB];rfl
theorem L8 : ∀ {l:List Int},(∀ z∈l,HE z)→GB l=some (l.map Gv)
 | [],_=>rfl
 | z::zs,h=>by
  rw [GB,Tf (h z (by simp)),L8 fun y hy=>h y (by simp [hy]),oB];rfl
theorem Ux {l:List Int} (h:∀ z∈l,HE z) (hl:l.length≤9223372036854775806) : Le l=some (Iv (Gv 0) (l.map Gv)):=by
 unfold Le
 rw [if_pos hl,L8 h,oB,Tf Jp]
theorem Im {n:Nat} (h:n≤4096) : szP [(n:Int)]=((n:Int),0):=by
 unfold szP Ca
 simp only [List.length_cons,List.length_nil,List.any_cons,List.any_nil,Bool.or_false,decide_eq_true_eq,List.foldl_cons,List.foldl_nil,List.mem_singleton,Int.one_mul]
 rw [if_neg (by omega),if_neg (by omega),if_neg (by omega)]
 by_cases h0:(0:Int)=n
 ·rw [if_pos h0,← h0]
 ·rw [if_neg h0,if_pos (by omega)]
theorem Kk : szP []=(1,0):=rfl
theorem NJ {s:List Int} {i:List Itm} {n:Int} (hs:szP s=(n,0)) (hl:(i.length:Int)=if n<1 then 1 else n) (hi:∀ x∈i,rI x=true∧x.box=[]) : AB (.mk s i)∧cA (.mk s i)=i.length∧dA (.mk s i)=if AM (.mk s i) then 0 else 1:=by
 have hn:=EQ s
 rw [hs] at hn
 have hc:cIs i=0:=by
  clear hl
  induction i with
  | nil=>rfl
  | cons x xs ih=>rw [cIs,Ku,(hi x (by simp)).2,ih fun y hy=>hi y (by simp [hy])];rfl
 have hd:dIs i=0:=by
  clear hl hc
  induction i with
  | nil=>rfl
  | cons x xs ih=>rw [dIs,MY,(hi x (by simp)).2,ih fun y hy=>hi y (by simp [hy])];rfl
 have hcA:cA (.mk s i)=i.length:=by rw [GK,DN,hc];rfl
 have hdA:dA (.mk s i)=if AM (.mk s i) then 0 else 1:=by rw [Gz,DN,hd]
 refine ⟨⟨?_,?_,?_⟩,hcA,hdA⟩
 ·rw [HG,E7,DN,hs,hl,dT rfl,dT rfl,EM.2 fun x hx=>(hi x hx).1];rfl
 ·rw [hdA];split<;>omega
 ·rw [hcA];have:(i.length:Int)≤4096:=by rw [hl];split<;>omega
  omega
theorem TS {p:Itm} {xs:List Itm} (hp:rI p=true∧p.box=[]) (hx:∀ x∈xs,rI x=true∧x.box=[]) : AB (Iv p xs)∧(okI p→(∀ x∈xs,okI x)→okAr (Iv p xs))∧szP (Iv p xs).shape=(((min xs.length 4096:Nat) : Int),0):=by
 have hs:szP [((min xs.length 4096:Nat):Int)]=(((min xs.length 4096:Nat):Int),0):=Im (Nat.min_le_right _ _)
 have hmem:∀ {P:Itm→Prop},P p→(∀ x∈xs,P x)→∀ x∈(if xs.length=0 then [p] else xs.take 4096),P x:=by
  intro P h1 h2 x hx
  split at hx
  ·rw [List.mem_singleton] at hx;rw [hx];exact h1
  ·exact h2 x (List.mem_of_mem_take hx)
 have hlen:((if xs.length=0 then [p] else xs.take 4096).length:Int)=if ((min xs.length 4096:Nat):Int)<1 then 1 else ((min xs.length 4096:Nat):Int):=by
  split
  ·rename_i h0;rw [h0];rfl
  ·rename_i h0
   rw [if_neg (by omega),List.length_take];omega
 refine ⟨(NJ hs hlen (hmem hp hx)).1,fun h1 h2=>?_,hs⟩
 unfold Iv
 rw [AK,E7,DN]
 refine ⟨?_,by simp,?_,hmem h1 h2⟩
 ·intro z hz;rw [List.mem_singleton] at hz;subst hz;omega
 ·have:((if xs.length=0 then [p] else xs.take 4096).length:Int)≤4096:=by rw [hlen];split<;>omega
  omega
theorem Y8 {l:List Int} (h:∀ z∈l,HE z) : ∀ x∈l.map Gv,rI x=true∧x.box=[]:=fun x hx=>by
 obtain ⟨z,hz,rfl⟩:=List.mem_map.1 hx
 exact ⟨J2 (h z hz),rfl⟩
theorem YT {l:List Int} (h:∀ z∈l,HE z) : ∀ x∈l.map Gv,okI x:=fun x hx=>by
 obtain ⟨z,hz,rfl⟩:=List.mem_map.1 hx
 exact Po (h z hz)
def Xe (l:List Int) : Arr:=Iv (Gv 0) (l.map Gv)
theorem Ww {l:List Int} (h:∀ z∈l,HE z) : okAr (Xe l):=(TS ⟨J2 Jp,rfl⟩ (Y8 h)).2.1 (Po Jp) (YT h)
theorem Sl {z:Int} (h:HE z) : I7 (ofQ (z:Rat))=some (z,true):=by
 unfold I7
 have e:(ofQ (z:Rat)).2.1=Ao z.natAbs:=rfl
 have e1:(ofQ (z:Rat)).1=decide (z<0):=rfl
 have hw:okL 1048576 (Ao z.natAbs)=true:=Q9 (nT (show (Ao z.natAbs).length≤32 from (Ge h).1) (by decide))
 have hb:BN z.natAbs≤64:=E0.2 (by have:=h.1;have:=h.2;omega)
 rw [W9 (Ge h),oB,if_pos (dT (Rat.den_intCast z)),e,e1,A8,if_pos (by rw [hw,dT rfl];rfl),if_pos hb]
 unfold Ob
 obtain ⟨h1,h2⟩:=h
 by_cases hz:z<0
 ·rw [if_pos (dT hz),if_pos (by omega)]
  congr 2;omega
 ·rw [if_neg (by rw [dF hz];decide),if_pos (by omega)]
  congr 2;omega
theorem Ol : ∀ {l:List Int} {s:List Int},(∀ z∈l,HE z)→s.length+l.length≤17592186044416→RH Ln (l.map Gv) s=some (true,s++l)
 | [],s,_,_=>by simp [RH]
 | z::zs,s,h,hl=>by
  rw [List.map_cons,RH]
  unfold Ln
  have e:(Gv z).num=ofQ (z:Rat):=rfl
  rw [e,Sl (h z (by simp)),oB,Dw (by simp at hl ⊢;omega),oB,oB]
  have hk:(true&&decide ((Gv z).kind=1))=true:=rfl
  rw [hk,if_pos rfl]
  have:=Ol (l:=zs) (s:=s++[z]) (fun y hy=>h y (by simp [hy])) (by simp at hl ⊢;omega)
  unfold Ln at this
  rw [this,List.append_assoc];rfl
theorem Kg {x:Itm} (h:rI x=true) (hb:x.box=[]) (hk:x.kind≠3) : AB (.mk [] [x])∧AM (.mk [] [x])=true:=by
 refine ⟨(NJ Kk rfl fun y hy=>by rw [List.mem_singleton] at hy;subst hy;exact ⟨h,hb⟩).1,?_⟩
 unfold AM;simp [E7,DN,hk]
theorem Sh {x:Itm} (h:okI x) : okAr (.mk [] [x]):=by
 rw [AK,E7,DN]
 exact ⟨nofun,by simp,by simp,fun y hy=>by rw [List.mem_singleton] at hy;rw [hy];exact h⟩
def CS (a0:(List Int)) (K0:Int→Int→Bool→Bool→Option (Int×Int)) : Nat→Int→Int→Bool→Bool→Int→Option (Int×Int)
 | 0,_,_,_,_,_=>none
 | k+1,s5,s6,s7,s8,s9=>(if s9<((List.length a0:Nat):Int) then ((rd? a0 s9).bind fun x10=>(if x10<0 then (some (0,3)) else (Option.bind ((if s7=true then (some true) else ((rd? a0 s9).bind fun x12=>(some (decide (x12=0))))):Option (Bool)) fun (z11:Bool)=>(if s8=true then (CS a0 K0 k s5 s6 z11 true (w64 (s9+1))) else ((rd? a0 s9).bind fun x13=>(CS a0 K0 k s5 s6 z11 (decide (4096<x13)) (w64 (s9+1)))))))) else (K0 s5 s6 s7 s8))
def Ds (a0:(List Int)) (K2:Int→Int→Int→Option (Int×Int)) : Nat→Int→Int→Int→Int→Option (Int×Int)
 | 0,_,_,_,_=>none
 | k+1,s17,s18,s19,s20=>(if s20<((List.length a0:Nat):Int) then ((rd? a0 s20).bind fun x21=>(if 4096<(w64 (s19 * x21)) then (some (0,8)) else ((rd? a0 s20).bind fun x22=>(Ds a0 K2 k s17 s18 (w64 (s19 * x22)) (w64 (s20+1)))))) else (K2 s17 s18 s19))
def DQ (a0:(List Int)) : Option (Int×Int):=(if 8<((List.length a0:Nat) : Int) then (some (0,4)) else (jn (fun (z1:Int) (z2:Int) (z3:Bool) (z4:Bool)=>(if z4=true then (some (0,8)) else (if z3=true then (some (0,0)) else (jn (fun (z14:Int) (z15:Int) (z16:Int)=>(some (z16,0))) fun K2=>(Ds a0 K2 Aw z1 z2 1 0))))) fun K0=>(CS a0 K0 Aw 0 0 false false 0)))
theorem FF {a0:(List Int)} {r:Int×Int} (h:DQ a0=some r) :
  Fn Tryz.prog 46 [.sl (Is a0)] (.tup [.d (.i .i64 r.1),.d (.i .i64 r.2)]):=by
 unfold DQ at h
 refine Fn.of (rs:=[.tmp 2,.tmp 3]) (nt:=61) Tryz.func46 rfl rfl rfl (by simp) rfl ?_;refine .sr ?_;refine asd ?_;refine ar [0,2,3] ?_;refine .seq ?_;refine .sr ?_;refine va ?_;refine vk (A9 (Af _) (BO _) BL) ?_;refine vb ?_;refine rk [0,2,3,11] ?_
 rcases brc h with ⟨hc,h⟩|⟨hc,h⟩
 ·refine cnt (dT hc) ?_
  refine .sr ?_;refine asd ?_;refine ar [0,2,3] ?_;refine .ret ?_
  cases h
  exact ⟨by decide,rfl,rfl,rfl⟩
 refine cnf (dF hc) ?_;refine .sk ?_;refine .sr ?_;refine asd ?_;refine ar [0,2,3,4,5] ?_;refine .seq ?_;refine .sr ?_;refine ar [0,2,3,4,5,6] ?_
 obtain ⟨K0,hK0,h⟩:=AF h
 refine AW.mr (σ:=Int×Int×Bool×Bool) (fun p=>K0 p.1 p.2.1 p.2.2.1 p.2.2.2=some r) (fun p=>[(0,.d (.sl (Is a0))),(2,.d (.i .i64 p.1)),(3,.d (.i .i64 p.2.1)),(4,.d (.b p.2.2.1)),(5,.d (.b p.2.2.2))]) (fun p=>[]) ?_ ?_
 ·skip
  refine .block ?_
  refine .loop (.gk [0,2,3,4,5,6] ?_)
  refine AL.ind (σ:=Nat×Int×Int×Bool×Bool×Int) (m:=fun p=>p.1) (e:=fun p=>[(0,.d (.sl (Is a0))),(2,.d (.i .i64 p.2.1)),(3,.d (.i .i64 p.2.2.1)),(4,.d (.b p.2.2.2.1)),(5,.d (.b p.2.2.2.2.1)),(6,.d (.i .i64 p.2.2.2.2.2))]) (h:=fun p=>[]) (I:=fun p=>CS a0 K0 p.1 p.2.1 p.2.2.1 p.2.2.2.1 p.2.2.2.2.1 p.2.2.2.2.2=some r) ?_ (Aw,0,0,false,false,0) h
  rintro ⟨k,s5,s6,s7,s8,s9⟩ h ih
  dsimp only at h ih ⊢
  rcases k with _|k
  ·rw [CS] at h;cases h
  rw [CS] at h
  refine .seq ?_;refine .sr ?_;refine va ?_;refine va ?_;refine vk (A9 (Af _) (BO _) BL) ?_;refine vb ?_;refine rk [0,2,3,4,5,6,15] ?_
  rcases brc h with ⟨hc,h⟩|⟨hc,h⟩
  ·refine cnt (dT hc) ?_
   refine .sk ?_;refine .seq ?_;refine .block ?_;refine .seq ?_;refine .sr ?_;refine va ?_;refine va ?_
   obtain ⟨x10,g10,h⟩:=bnd h
   obtain ⟨n10,p010,q10⟩:=Ae g10
   refine vk (vix n10 p010 (A6 q10) rfl A2) ?_;refine vk (Ai AA) ?_;refine vb ?_;refine rk [0,2,3,4,5,6,22] ?_
   rcases brc h with ⟨hc,h⟩|⟨hc,h⟩
   ·refine cnt (dT hc) ?_
    refine .sr ?_;refine asd ?_;refine ar [0,2,3,4,5,6] ?_;refine .ret ?_
    cases h
    exact ⟨by decide,rfl,rfl,rfl⟩
   refine cnf (dF hc) ?_;refine .sk ?_;refine .seq ?_
   obtain ⟨z11,hz,h⟩:=bnd h
   refine AW.mr (σ:=Unit) (fun _=>True) (fun _=>[(0,.d (.sl (Is a0))),(2,.d (.i .i64 s5)),(3,.d (.i .i64 s6)),(4,.d (.b z11)),(5,.d (.b s8)),(6,.d (.i .i64 s9))]) (fun _=>[]) ?_ ?_
   ·skip
    refine .region ?_;refine va ?_
    rcases brc hz with ⟨hc,hz⟩|⟨hc,hz⟩
    ·have hb0:s7=true:=hc
     refine vL hb0 ?_;refine gf4 ?_;refine gf ?_;refine vk Ag ?_;refine asd ?_;refine RL.gk [0,2,3,4,5,6] ?_;refine .nil ?_
     cases hz
     exact jr () trivial
    have hb0:s7=false:=(bf hc)
    refine vL hb0 ?_;refine va ?_;refine va ?_
    obtain ⟨x12,g12,hz⟩:=bnd hz
    obtain ⟨n12,p012,q12⟩:=Ae g12
    refine vk (vix n12 p012 (A6 q12) rfl A2) ?_;refine vk (Ai AA) ?_;refine vb ?_;refine vk Ag ?_;refine asd ?_;refine RL.gk [0,2,3,4,5,6] ?_;refine .nil ?_
    cases hz
    exact jr () trivial
   rintro _ _
   refine .region ?_;refine va ?_
   rcases brc h with ⟨hc,h⟩|⟨hc,h⟩
   ·have hb0:s8=true:=hc
    refine vL hb0 ?_;refine gf4 ?_;refine gf ?_;refine vk Ag ?_;refine asd ?_;refine .nil ?_;refine aw ?_;refine .gk [0,2,3,4,5,6] ?_;refine .region ?_;refine va ?_;refine vb ?_;refine asd ?_;refine .nil ?_;refine AL.gk [0,2,3,4,5,6] ?_
    exact ih (k,s5,s6,z11,true,(w64 (s9+1))) h (Nat.lt_succ_self _)
   have hb0:s8=false:=(bf hc)
   refine vL hb0 ?_;refine va ?_;refine va ?_
   obtain ⟨x13,g13,h⟩:=bnd h
   obtain ⟨n13,p013,q13⟩:=Ae g13
   refine vk (vix n13 p013 (A6 q13) rfl A2) ?_;refine vk (Ai AA) ?_;refine vb ?_;refine vk Ag ?_;refine asd ?_;refine .nil ?_;refine aw ?_;refine .gk [0,2,3,4,5,6] ?_;refine .region ?_;refine va ?_;refine vb ?_;refine asd ?_;refine .nil ?_;refine AL.gk [0,2,3,4,5,6] ?_
   exact ih (k,s5,s6,z11,(decide (4096<x13)),(w64 (s9+1))) h (Nat.lt_succ_self _)
  refine cnf (dF hc) ?_;refine .gk [0,2,3,4,5] ?_;refine .exit ?_
  exact jr (s5,s6,s7,s8) h
 rintro ⟨z1,z2,z3,z4⟩ h
 try dsimp only at h ⊢
 subst hK0
 refine aw ?_;refine .seq ?_;refine .sr ?_;refine va ?_;refine rk [0,2,3,4,39] ?_
 rcases brc h with ⟨hc,h⟩|⟨hc,h⟩
 ·refine cnt hc ?_
  refine .sr ?_;refine asd ?_;refine ar [0,2,3,4] ?_;refine .ret ?_
  cases h
  exact ⟨by decide,rfl,rfl,rfl⟩
 refine cnf (bf hc) ?_;refine .sk ?_;refine .seq ?_;refine .sr ?_;refine va ?_;refine rk [0,2,3,40] ?_
 rcases brc h with ⟨hc,h⟩|⟨hc,h⟩
 ·refine cnt hc ?_
  refine .sr ?_;refine asd ?_;refine ar [0,2,3] ?_;refine .ret ?_
  cases h
  exact ⟨by decide,rfl,rfl,rfl⟩
 refine cnf (bf hc) ?_;refine .sk ?_;refine .sr ?_;refine ar [0,2,3,7] ?_;refine .seq ?_;refine .sr ?_;refine ar [0,2,3,7,8] ?_
 obtain ⟨K2,hK2,h⟩:=AF h
 refine AW.mr (σ:=Int×Int×Int) (fun p=>K2 p.1 p.2.1 p.2.2=some r) (fun p=>[(2,.d (.i .i64 p.1)),(3,.d (.i .i64 p.2.1)),(7,.d (.i .i64 p.2.2))]) (fun p=>[]) ?_ ?_
 ·skip
  refine .block ?_
  refine .loop (.gk [0,2,3,7,8] ?_)
  refine AL.ind (σ:=Nat×Int×Int×Int×Int) (m:=fun p=>p.1) (e:=fun p=>[(0,.d (.sl (Is a0))),(2,.d (.i .i64 p.2.1)),(3,.d (.i .i64 p.2.2.1)),(7,.d (.i .i64 p.2.2.2.1)),(8,.d (.i .i64 p.2.2.2.2))]) (h:=fun p=>[]) (I:=fun p=>Ds a0 K2 p.1 p.2.1 p.2.2.1 p.2.2.2.1 p.2.2.2.2=some r) ?_ (Aw,z1,z2,1,0) h
  rintro ⟨k,s17,s18,s19,s20⟩ h ih
  dsimp only at h ih ⊢
  rcases k with _|k
  ·rw [Ds] at h;cases h
  rw [Ds] at h
  refine .seq ?_;refine .sr ?_;refine va ?_;refine va ?_;refine vk (A9 (Af _) (BO _) BL) ?_;refine vb ?_;refine rk [0,2,3,7,8,44] ?_
  rcases brc h with ⟨hc,h⟩|⟨hc,h⟩
  ·refine cnt (dT hc) ?_
   refine .sk ?_;refine .seq ?_;refine .block ?_;refine .seq ?_;refine .sr ?_;refine va ?_;refine va ?_;refine va ?_
   obtain ⟨x21,g21,h⟩:=bnd h
   obtain ⟨n21,p021,q21⟩:=Ae g21
   refine vk (vix n21 p021 (A6 q21) rfl A2) ?_;refine vk (Ai AA) ?_;refine vb ?_;refine vb ?_;refine rk [0,2,3,7,8,53] ?_
   rcases brc h with ⟨hc,h⟩|⟨hc,h⟩
   ·refine cnt (dT hc) ?_
    refine .sr ?_;refine asd ?_;refine ar [0,2,3,7,8] ?_;refine .ret ?_
    cases h
    exact ⟨by decide,rfl,rfl,rfl⟩
   refine cnf (dF hc) ?_;refine .sk ?_;refine .region ?_;refine va ?_;refine va ?_;refine va ?_
   obtain ⟨x22,g22,h⟩:=bnd h
   obtain ⟨n22,p022,q22⟩:=Ae g22
   refine vk (vix n22 p022 (A6 q22) rfl A2) ?_;refine vk (Ai AA) ?_;refine vb ?_;refine asd ?_;refine .nil ?_;refine aw ?_;refine .gk [0,2,3,7,8] ?_;refine .region ?_;refine va ?_;refine vb ?_;refine asd ?_;refine .nil ?_;refine AL.gk [0,2,3,7,8] ?_
   exact ih (k,s17,s18,(w64 (s19 * x22)),(w64 (s20+1))) h (Nat.lt_succ_self _)
  refine cnf (dF hc) ?_;refine .gk [2,3,7] ?_;refine .exit ?_
  exact jr (s17,s18,s19) h
 rintro ⟨z14,z15,z16⟩ h
 try dsimp only at h ⊢
 subst hK2
 refine aw ?_;refine .sr ?_;refine va ?_;refine asd ?_;refine ar [2,3] ?_;refine .ret ?_
 cases h
 exact ⟨by decide,rfl,rfl,rfl⟩
def Cr (a0:Arr) : Option (Bool):=(Option.bind ((if ((List.length a0.shape:Nat) : Int)=0 then (if ((List.length a0.items:Nat) : Int)=1 then ((rd? a0.items 0).bind fun x2=>(some (!(decide (x2.kind=3))))) else (some false)) else (some false)) : Option (Bool)) fun (z1:Bool)=>(some (z1)))
theorem E9 {a0:Arr} {r:Bool} (h:Cr a0=some r) :
  Fn Tryz.prog 91 [.ag [.sl (Is a0.shape),.sl (Its a0.items)]] (.d (.b r)):=by
 unfold Cr at h
 refine Fn.o1 2 21 Tryz.func91 ?_;refine .sr ?_;refine vk vbx ?_;refine ar [1,2] ?_;refine .seq ?_
 obtain ⟨z1,hz,h⟩:=bnd h
 refine AW.mr (σ:=Unit) (fun _=>True) (fun _=>[(2,.d (.b z1))]) (fun _=>[]) ?_ ?_
 ·skip
  refine .region ?_;refine vk (vfa Ay) ?_;refine vk (Ai Bh) ?_;refine vk (A9 (Af _) (BO _) BL) ?_;refine vb ?_
  rcases brc hz with ⟨hc,hz⟩|⟨hc,hz⟩
  ·have hb0:(decide (((List.length a0.shape:Nat):Int)=0))=true:=(dT hc)
   refine vL hb0 ?_;refine vk (vfa Au) ?_;refine vk (Ai Bp) ?_;refine vk (A9 (Aq _) (CC _) Ce) ?_;refine vb ?_;refine vk Ag ?_
   rcases brc hz with ⟨hc,hz⟩|⟨hc,hz⟩
   ·have hb1:(decide (((List.length a0.items:Nat):Int)=1))=true:=(dT hc)
    refine vL hb1 ?_;refine vk (vfa Au) ?_;refine vk (Ai Bp) ?_
    obtain ⟨x2,g2,hz⟩:=bnd hz
    obtain ⟨n2,p02,q2⟩:=Ae g2
    refine vk (vix n2 p02 (CJ q2) rfl CL) ?_;refine vk (vfa B2) ?_;refine vk (Ai A7) ?_;refine vb ?_;refine vk Ag ?_;refine asd ?_;refine RL.gk [2] ?_;refine .nil ?_
    cases hz
    exact jr () trivial
   have hb1:(decide (((List.length a0.items:Nat):Int)=1))=false:=(dF hc)
   refine vL hb1 ?_;refine gf4 ?_;refine gf2 ?_;refine vk Ag ?_;refine asd ?_;refine RL.gk [2] ?_;refine .nil ?_
   cases hz
   exact jr () trivial
  have hb0:(decide (((List.length a0.shape:Nat):Int)=0))=false:=(dF hc)
  refine vL hb0 ?_;refine gf4 ?_;refine vk Ag ?_;refine va ?_;refine gf4 ?_;refine gf2 ?_;refine vk Ag ?_;refine asd ?_;refine RL.gk [2] ?_;refine .nil ?_
  cases hz
  exact jr () trivial
 rintro _ _
 refine .ret ?_
 cases h
 exact ⟨rfl,rfl⟩
def DO (a0:Itm) : Option (Bool):=(some (((!a0.num.1)&&((decide (((List.length a0.num.2.1:Nat) : Int)=0))&&(decide (((List.length a0.num.2.2:Nat) : Int)=0))))))
theorem GG {a0:Itm} {r:Bool} (h:DO a0=some r) :
  Fn Tryz.prog 90 [.ag [.i .u8 a0.kind,.b a0.num.1,.sl (L a0.num.2.1),.sl (L a0.num.2.2),.i .i32 a0.char,.sl (Ars a0.box)]] (.d (.b r)):=by
 unfold DO at h
 refine Fn.o1 2 21 Tryz.func90 ?_;refine .sr ?_;refine vk vbx ?_;refine ar [1,2] ?_;refine .seq ?_;refine AW.mr (σ:=Unit) (fun _=>True) (fun _=>[(2,.d (.b ((!a0.num.1)&&((decide (((List.length a0.num.2.1:Nat):Int)=0))&&(decide (((List.length a0.num.2.2:Nat):Int)=0))))))]) (fun _=>[]) ?_ ?_
 ·skip
  refine .region ?_;refine vk (vfa BX) ?_;refine vk (vfa G0) ?_;refine vk (Ai FC) ?_;refine vk vnt ?_
  by_cases hc:a0.num.1=true
  ·have hb0:(!a0.num.1)=false:=(ntf hc)
   refine vL hb0 ?_;refine gf4 ?_;refine gf ?_;refine vk Ag ?_;refine va ?_;refine gf4 ?_;refine gf ?_;refine vk Ag ?_;refine asd ?_;refine RL.gk [2] ?_;refine .nil ?_
   exact jr () trivial (by simp only [hb0];rfl)
  have hb0:(!a0.num.1)=true:=(ntt (bf hc))
  refine vL hb0 ?_;refine vk (vfa BX) ?_;refine vk (vfa Hd) ?_;refine vk (Ai IE) ?_;refine vk (A9 (Ab _) (BP _) Wt) ?_;refine vb ?_;refine vk Ag ?_
  by_cases hc:((List.length a0.num.2.1:Nat):Int)=0
  ·have hb1:(decide (((List.length a0.num.2.1:Nat):Int)=0))=true:=(dT hc)
   refine vL hb1 ?_;refine vk (vfa BX) ?_;refine vk (vfa Ie) ?_;refine vk (Ai IE) ?_;refine vk (A9 (Ab _) (BP _) Wt) ?_;refine vb ?_;refine vk Ag ?_;refine asd ?_;refine RL.gk [2] ?_;refine .nil ?_
   exact jr () trivial (by simp only [hb0,hb1];rfl)
  have hb1:(decide (((List.length a0.num.2.1:Nat):Int)=0))=false:=(dF hc)
  refine vL hb1 ?_;refine gf4 ?_;refine gf ?_;refine vk Ag ?_;refine asd ?_;refine RL.gk [2] ?_;refine .nil ?_
  exact jr () trivial (by simp only [hb0,hb1];rfl)
 rintro _ _
 refine .ret ?_
 cases h
 exact ⟨rfl,rfl⟩
def AT (rc_ref03_measure:Arr→Int→Int→Option (Bool×Int×Int)) (a0:Arr) (a1:Int) (a2:Int) (K1:Bool→Int→Int→Int→Int→Option (Bool×Int×Int)) : Nat→Bool→Int→Int→Int→Int→Int→Option (Bool×Int×Int)
 | 0,_,_,_,_,_,_=>none
 | k+1,s8,s9,s10,s11,s12,s13=>(if s13<((List.length a0.items:Nat):Int) then (jn (fun (z14:Int) (z15:Int)=>(AT rc_ref03_measure a0 a1 a2 K1 k s8 s9 s10 z14 z15 (w64 (s13+1)))) fun K3=>((rd? a0.items s13).bind fun x16=>(Option.bind ((if x16.kind=1 then ((Je x16.num).bind fun x18=>(if x18=true then (if x16.char=0 then (some (decide (((List.length x16.box:Nat):Int)=0))) else (some false)) else (some false))) else (some false)):Option (Bool)) fun (z17:Bool)=>(if z17=true then (K3 s11 s12) else (Option.bind ((if x16.kind=2 then ((Fe x16.char).bind fun x20=>(if x20=true then ((DO x16).bind fun x21=>(if x21=true then (some (decide (((List.length x16.box:Nat):Int)=0))) else (some false))) else (some false))) else (some false)):Option (Bool)) fun (z19:Bool)=>(if z19=true then (K3 s11 s12) else (Option.bind ((if x16.kind=3 then (if ((List.length x16.box:Nat):Int)=1 then ((DO x16).bind fun x23=>(if x23=true then (if x16.char=0 then ((rd? x16.box 0).bind fun x24=>((Cr x24).bind fun x25=>(some (!x25)))) else (some false)) else (some false))) else (some false)) else (some false)):Option (Bool)) fun (z22:Bool)=>(if z22=true then ((rd? x16.box 0).bind fun x26=>((rc_ref03_measure x26 (w64 (a1+1)) (w64 (a2-s12))).bind fun x27=>(if x27.1=true then (jn (fun (z28:Int)=>(K3 z28 (w64 (s12+x27.2.2)))) fun K4=>(if s11<x27.2.1 then (K4 x27.2.1) else (K4 s11))) else (some (false,0,0))))) else (some (false,0,0)))))))))) else (K1 s8 s9 s10 s11 s12))
def Du (rc_ref03_measure:Arr→Int→Int→Option (Bool×Int×Int)) (a0:Arr) (a1:Int) (a2:Int) : Option (Bool×Int×Int):=((DQ a0.shape).bind fun x1=>(if ((!(decide (x1.2=0)))||(decide (16<a1)))=true then (some (false,0,0)) else (jn (fun (z2:Int)=>(if ((!(decide (((List.length a0.items:Nat) : Int)=z2)))||(decide (a2<z2)))=true then (some (false,0,0)) else (jn (fun (z3:Bool) (z4:Int) (z5:Int) (z6:Int) (z7:Int)=>((Cr a0).bind fun x29=>(jn (fun (z30:Int)=>(some ((decide (z7≤a2)),z30,z7))) fun K5=>(if x29=true then (K5 z6) else (K5 (w64 (z6+1))))))) fun K1=>(AT rc_ref03_measure a0 a1 a2 K1 Aw false 0 0 0 z2 0)))) fun K0=>(if x1.1=0 then (K0 1) else (K0 x1.1)))))
set_option maxHeartbeats 4000000 in
theorem Lr {rc_ref03_measure:Arr→Int→Int→Option (Bool×Int×Int)} (orc_ref03_measure:∀ x0 x1 x2 r,rc_ref03_measure x0 x1 x2=some r→Fn Tryz.prog 86 [.ag [.sl (Is x0.shape),.sl (Its x0.items)],.i .i64 x1,.i .i64 x2] (.tup [.d (.b r.1),.d (.i .i64 r.2.1),.d (.i .i64 r.2.2)])) {a0:Arr} {a1:Int} {a2:Int} {r:Bool×Int×Int} (h:Du rc_ref03_measure a0 a1 a2=some r) :
  Fn Tryz.prog 86 [.ag [.sl (Is a0.shape),.sl (Its a0.items)],.i .i64 a1,.i .i64 a2] (.tup [.d (.b r.1),.d (.i .i64 r.2.1),.d (.i .i64 r.2.2)]):=by
 unfold Du at h
 refine Fn.of (rs:=[.tmp 6,.tmp 7,.tmp 8]) (nt:=154) Tryz.func86 rfl rfl rfl (by simp) rfl ?_;refine .sr ?_;refine vk vbx ?_;refine asd ?_;refine asd ?_;refine ar [1,2,3,6,7,8] ?_;refine .sr ?_;refine vk (vfa Ay) ?_;refine vk (Ai Bh) ?_
 obtain ⟨x1,g1,h⟩:=bnd h
 refine vk (VOK.tupd (vs:=[.i .i64 x1.1,.i .i64 x1.2]) (Ak (FF g1) Tryz.call46)) ?_;refine va ?_;refine vk vex ?_;refine vk vex ?_;refine asd ?_;refine ar [1,2,3,6,7,8,9,10] ?_;refine .seq ?_;refine .seq ?_;refine AW.mr (σ:=Unit) (fun _=>True) (fun _=>[(1,.d (.i .i64 a1)),(2,.d (.i .i64 a2)),(3,.d (.ptr [.sl (Is a0.shape),.sl (Its a0.items)])),(6,.d (.b false)),(7,.d (.i .i64 0)),(8,.d (.i .i64 0)),(9,.d (.i .i64 x1.1)),(29,.d (.b ((!(decide (x1.2=0)))||(decide (16<a1)))))]) (fun _=>[]) ?_ ?_
 ·skip
  refine .region ?_;refine va ?_;refine vb ?_
  by_cases hc:x1.2=0
  ·have hb0:(!(decide (x1.2=0)))=false:=(ntf (dT hc))
   refine vL hb0 ?_;refine va ?_;refine vb ?_;refine vk Ag ?_;refine RL.gk [1,2,3,6,7,8,9,29] ?_;refine .nil ?_
   exact jr () trivial (by simp only [hb0];rfl)
  have hb0:(!(decide (x1.2=0)))=true:=(ntt (dF hc))
  refine vL hb0 ?_;refine gf2 ?_;refine vk Ag ?_;refine RL.gk [1,2,3,6,7,8,9,29] ?_;refine .nil ?_
  exact jr () trivial (by simp only [hb0];rfl)
 rintro _ _
 rcases brc h with ⟨hc,h⟩|⟨hc,h⟩
 ·refine cnt hc ?_
  refine .sr ?_;refine asd ?_;refine asd ?_;refine ar [1,2,3,6,7,8,9] ?_;refine .ret ?_
  cases h
  exact ⟨⟨by decide,by decide,by decide⟩,rfl,rfl,rfl,rfl⟩
 refine cnf (bf hc) ?_;refine .sk ?_;refine .seq ?_;refine .sr ?_;refine va ?_;refine vb ?_;refine rk [1,2,3,6,7,8,9,31] ?_
 obtain ⟨K0,hK0,h⟩:=AF h
 refine AW.mr (σ:=Int) (fun p=>K0 p=some r) (fun p=>[(1,.d (.i .i64 a1)),(2,.d (.i .i64 a2)),(3,.d (.ptr [.sl (Is a0.shape),.sl (Its a0.items)])),(6,.d (.b false)),(7,.d (.i .i64 0)),(8,.d (.i .i64 0)),(9,.d (.i .i64 p))]) (fun p=>[]) ?_ ?_
 ·skip
  rcases brc h with ⟨hc,h⟩|⟨hc,h⟩
  ·refine cnt (dT hc) ?_
   refine .region ?_;refine asd ?_;refine RL.gk [1,2,3,6,7,8,9] ?_;refine .nil ?_
   exact jr (1) h
  refine cnf (dF hc) ?_;refine .gk [1,2,3,6,7,8,9] ?_;refine .skip ?_
  exact jr (x1.1) h
 rintro z2 h
 try dsimp only at h ⊢
 subst hK0
 refine aw ?_;refine .seq ?_;refine .seq ?_;refine AW.mr (σ:=Unit) (fun _=>True) (fun _=>[(1,.d (.i .i64 a1)),(2,.d (.i .i64 a2)),(3,.d (.ptr [.sl (Is a0.shape),.sl (Its a0.items)])),(6,.d (.b false)),(7,.d (.i .i64 0)),(8,.d (.i .i64 0)),(9,.d (.i .i64 z2)),(41,.d (.b ((!(decide (((List.length a0.items:Nat):Int)=z2)))||(decide (a2<z2)))))]) (fun _=>[]) ?_ ?_
 ·skip
  refine .region ?_;refine vk (vfa Au) ?_;refine vk (Ai Bp) ?_;refine vk (A9 (Aq _) (CC _) Ce) ?_;refine va ?_;refine vb ?_
  by_cases hc:((List.length a0.items:Nat):Int)=z2
  ·have hb0:(!(decide (((List.length a0.items:Nat):Int)=z2)))=false:=(ntf (dT hc))
   refine vL hb0 ?_;refine va ?_;refine va ?_;refine vb ?_;refine vk Ag ?_;refine RL.gk [1,2,3,6,7,8,9,41] ?_;refine .nil ?_
   exact jr () trivial (by simp only [hb0];rfl)
  have hb0:(!(decide (((List.length a0.items:Nat):Int)=z2)))=true:=(ntt (dF hc))
  refine vL hb0 ?_;refine gf3 ?_;refine vk Ag ?_;refine RL.gk [1,2,3,6,7,8,9,41] ?_;refine .nil ?_
  exact jr () trivial (by simp only [hb0];rfl)
 rintro _ _
 rcases brc h with ⟨hc,h⟩|⟨hc,h⟩
 ·refine cnt hc ?_
  refine .sr ?_;refine asd ?_;refine asd ?_;refine ar [1,2,3,6,7,8,9] ?_;refine .ret ?_
  cases h
  exact ⟨⟨by decide,by decide,by decide⟩,rfl,rfl,rfl,rfl⟩
 refine cnf (bf hc) ?_;refine .sk ?_;refine .sr ?_;refine ar [1,2,3,6,7,8,9,11] ?_;refine .sr ?_;refine va ?_;refine ar [1,2,3,6,7,8,11,12] ?_;refine .seq ?_;refine .sr ?_;refine ar [1,2,3,6,7,8,11,12,13] ?_
 obtain ⟨K1,hK1,h⟩:=AF h
 refine AW.mr (σ:=Bool×Int×Int×Int×Int) (fun p=>K1 p.1 p.2.1 p.2.2.1 p.2.2.2.1 p.2.2.2.2=some r) (fun p=>[(2,.d (.i .i64 a2)),(3,.d (.ptr [.sl (Is a0.shape),.sl (Its a0.items)])),(6,.d (.b p.1)),(7,.d (.i .i64 p.2.1)),(8,.d (.i .i64 p.2.2.1)),(11,.d (.i .i64 p.2.2.2.1)),(12,.d (.i .i64 p.2.2.2.2))]) (fun p=>[]) ?_ ?_
 ·skip
  refine .block ?_
  refine .loop (.gk [1,2,3,6,7,8,11,12,13] ?_)
  refine AL.ind (σ:=Nat×Bool×Int×Int×Int×Int×Int) (m:=fun p=>p.1) (e:=fun p=>[(1,.d (.i .i64 a1)),(2,.d (.i .i64 a2)),(3,.d (.ptr [.sl (Is a0.shape),.sl (Its a0.items)])),(6,.d (.b p.2.1)),(7,.d (.i .i64 p.2.2.1)),(8,.d (.i .i64 p.2.2.2.1)),(11,.d (.i .i64 p.2.2.2.2.1)),(12,.d (.i .i64 p.2.2.2.2.2.1)),(13,.d (.i .i64 p.2.2.2.2.2.2))]) (h:=fun p=>[]) (I:=fun p=>AT rc_ref03_measure a0 a1 a2 K1 p.1 p.2.1 p.2.2.1 p.2.2.2.1 p.2.2.2.2.1 p.2.2.2.2.2.1 p.2.2.2.2.2.2=some r) ?_ (Aw,false,0,0,0,z2,0) h
  rintro ⟨k,s8,s9,s10,s11,s12,s13⟩ h ih
  dsimp only at h ih ⊢
  rcases k with _|k
  ·rw [AT] at h;cases h
  rw [AT] at h
  refine .seq ?_;refine .sr ?_;refine va ?_;refine vk (vfa Au) ?_;refine vk (Ai Bp) ?_;refine vk (A9 (Aq _) (CC _) Ce) ?_;refine vb ?_;refine rk [1,2,3,6,7,8,11,12,13,47] ?_
  rcases brc h with ⟨hc,h⟩|⟨hc,h⟩
  ·refine cnt (dT hc) ?_
   refine .sk ?_
   obtain ⟨K3,hK3,h⟩:=AF h
   refine AW.mj (σ:=Int×Int) (fun p=>K3 p.1 p.2=some r) (fun p=>[(1,.d (.i .i64 a1)),(2,.d (.i .i64 a2)),(3,.d (.ptr [.sl (Is a0.shape),.sl (Its a0.items)])),(6,.d (.b s8)),(7,.d (.i .i64 s9)),(8,.d (.i .i64 s10)),(11,.d (.i .i64 p.1)),(12,.d (.i .i64 p.2)),(13,.d (.i .i64 s13))]) (fun p=>[]) ?_ ?_
   ·skip
    refine .block ?_;refine .sr ?_;refine vk (vfa Au) ?_;refine vk (Ai Bp) ?_;refine va ?_
    obtain ⟨x16,g16,h⟩:=bnd h
    obtain ⟨n16,p016,q16⟩:=Ae g16
    refine vk (vix n16 p016 (CJ q16) rfl CL) ?_;refine vk (AC AJ An) ?_;refine vk (van (Aj Bv) BM) ?_
    refine stn ?_ An (by decide)
    refine rk [1,2,3,6,7,8,11,12,13,14] ?_;refine .block ?_;refine .seq ?_;refine .gh (Gh.nbp (t:=14) rfl) ?_
    obtain ⟨z17,hz,h⟩:=bnd h
    refine AW.mr (σ:=Unit) (fun _=>True) (fun _=>[(1,.d (.i .i64 a1)),(2,.d (.i .i64 a2)),(3,.d (.ptr [.sl (Is a0.shape),.sl (Its a0.items)])),(6,.d (.b s8)),(7,.d (.i .i64 s9)),(8,.d (.i .i64 s10)),(11,.d (.i .i64 s11)),(12,.d (.i .i64 s12)),(13,.d (.i .i64 s13)),(14,.d (.ptr [.i .u8 x16.kind,.b x16.num.1,.sl (L x16.num.2.1),.sl (L x16.num.2.2),.i .i32 x16.char,.sl (Ars x16.box)])),(55,.d (.b z17))]) (fun _=>[]) ?_ ?_
    ·skip
     refine .region ?_;refine vk (vfa B2) ?_;refine vk (Ai A7) ?_;refine vb ?_
     rcases brc hz with ⟨hc,hz⟩|⟨hc,hz⟩
     ·have hb0:(decide (x16.kind=1))=true:=(dT hc)
      refine vL hb0 ?_;refine vk (vfa BX) ?_;refine vk (AC IS GI) ?_
      obtain ⟨x18,g18,hz⟩:=bnd hz
      refine vk (Ak (PF g18) Tryz.call125) ?_;refine vk Ag ?_
      rcases brc hz with ⟨hc,hz⟩|⟨hc,hz⟩
      ·have hb1:x18=true:=hc
       refine vL hb1 ?_;refine vk (vfa Da) ?_;refine vk (Ai Dc) ?_;refine vb ?_;refine vk Ag ?_
       rcases brc hz with ⟨hc,hz⟩|⟨hc,hz⟩
       ·have hb2:(decide (x16.char=0))=true:=(dT hc)
        refine vL hb2 ?_;refine vk (vfa AQ) ?_;refine vk (Ai BF) ?_;refine vk (A9 (Ba _) (Ea _) Eb) ?_;refine vb ?_;refine vk Ag ?_;refine asd ?_;refine RL.gk [1,2,3,6,7,8,11,12,13,14,55] ?_;refine .nil ?_
        cases hz
        exact jr () trivial
       have hb2:(decide (x16.char=0))=false:=(dF hc)
       refine vL hb2 ?_;refine gf4 ?_;refine vk Ag ?_;refine asd ?_;refine RL.gk [1,2,3,6,7,8,11,12,13,14,55] ?_;refine .nil ?_
       cases hz
       exact jr () trivial
      have hb1:x18=false:=(bf hc)
      refine vL hb1 ?_;refine gf3 ?_;refine vk Ag ?_;refine va ?_;refine gf4 ?_;refine vk Ag ?_;refine asd ?_;refine RL.gk [1,2,3,6,7,8,11,12,13,14,55] ?_;refine .nil ?_
      cases hz
      exact jr () trivial
     have hb0:(decide (x16.kind=1))=false:=(dF hc)
     refine vL hb0 ?_;refine gf3 ?_;refine vk Ag ?_;refine va ?_;refine gf3 ?_;refine vk Ag ?_;refine va ?_;refine gf4 ?_;refine vk Ag ?_;refine asd ?_;refine RL.gk [1,2,3,6,7,8,11,12,13,14,55] ?_;refine .nil ?_
     cases hz
     exact jr () trivial
    rintro _ _
    rcases brc h with ⟨hc,h⟩|⟨hc,h⟩
    ·refine cnt hc ?_
     refine .gk [1,2,3,6,7,8,11,12,13] ?_;refine .skip ?_
     exact jr (s11,s12) h
    refine cnf (bf hc) ?_;refine .seq ?_
    obtain ⟨z19,hz,h⟩:=bnd h
    refine AW.mr (σ:=Unit) (fun _=>True) (fun _=>[(1,.d (.i .i64 a1)),(2,.d (.i .i64 a2)),(3,.d (.ptr [.sl (Is a0.shape),.sl (Its a0.items)])),(6,.d (.b s8)),(7,.d (.i .i64 s9)),(8,.d (.i .i64 s10)),(11,.d (.i .i64 s11)),(12,.d (.i .i64 s12)),(13,.d (.i .i64 s13)),(14,.d (.ptr [.i .u8 x16.kind,.b x16.num.1,.sl (L x16.num.2.1),.sl (L x16.num.2.2),.i .i32 x16.char,.sl (Ars x16.box)])),(75,.d (.b z19))]) (fun _=>[]) ?_ ?_
    ·skip
     refine .region ?_;refine vk (vfa B2) ?_;refine vk (Ai A7) ?_;refine vb ?_
     rcases brc hz with ⟨hc,hz⟩|⟨hc,hz⟩
     ·have hb0:(decide (x16.kind=2))=true:=(dT hc)
      refine vL hb0 ?_;refine vk (vfa Da) ?_;refine vk (Ai Dc) ?_
      obtain ⟨x20,g20,hz⟩:=bnd hz
      refine vk (Ak (Mm g20) Tryz.call126) ?_;refine vk Ag ?_
      rcases brc hz with ⟨hc,hz⟩|⟨hc,hz⟩
      ·have hb1:x20=true:=hc
       refine vL hb1 ?_;refine vk (AC AJ An) ?_
       obtain ⟨x21,g21,hz⟩:=bnd hz
       refine vk (Ak (GG g21) Tryz.call90) ?_;refine vk Ag ?_
       rcases brc hz with ⟨hc,hz⟩|⟨hc,hz⟩
       ·have hb2:x21=true:=hc
        refine vL hb2 ?_;refine vk (vfa AQ) ?_;refine vk (Ai BF) ?_;refine vk (A9 (Ba _) (Ea _) Eb) ?_;refine vb ?_;refine vk Ag ?_;refine asd ?_;refine RL.gk [1,2,3,6,7,8,11,12,13,14,75] ?_;refine .nil ?_
        cases hz
        exact jr () trivial
       have hb2:x21=false:=(bf hc)
       refine vL hb2 ?_;refine gf4 ?_;refine vk Ag ?_;refine asd ?_;refine RL.gk [1,2,3,6,7,8,11,12,13,14,75] ?_;refine .nil ?_
       cases hz
       exact jr () trivial
      have hb1:x20=false:=(bf hc)
      refine vL hb1 ?_;refine gf2 ?_;refine vk Ag ?_;refine va ?_;refine gf4 ?_;refine vk Ag ?_;refine asd ?_;refine RL.gk [1,2,3,6,7,8,11,12,13,14,75] ?_;refine .nil ?_
      cases hz
      exact jr () trivial
     have hb0:(decide (x16.kind=2))=false:=(dF hc)
     refine vL hb0 ?_;refine gf3 ?_;refine vk Ag ?_;refine va ?_;refine gf2 ?_;refine vk Ag ?_;refine va ?_;refine gf4 ?_;refine vk Ag ?_;refine asd ?_;refine RL.gk [1,2,3,6,7,8,11,12,13,14,75] ?_;refine .nil ?_
     cases hz
     exact jr () trivial
    rintro _ _
    rcases brc h with ⟨hc,h⟩|⟨hc,h⟩
    ·refine cnt hc ?_
     refine .gk [1,2,3,6,7,8,11,12,13] ?_;refine .skip ?_
     exact jr (s11,s12) h
    refine cnf (bf hc) ?_;refine .seq ?_
    obtain ⟨z22,hz,h⟩:=bnd h
    refine AW.mr (σ:=Unit) (fun _=>True) (fun _=>[(1,.d (.i .i64 a1)),(2,.d (.i .i64 a2)),(3,.d (.ptr [.sl (Is a0.shape),.sl (Its a0.items)])),(6,.d (.b s8)),(7,.d (.i .i64 s9)),(8,.d (.i .i64 s10)),(11,.d (.i .i64 s11)),(12,.d (.i .i64 s12)),(13,.d (.i .i64 s13)),(14,.d (.ptr [.i .u8 x16.kind,.b x16.num.1,.sl (L x16.num.2.1),.sl (L x16.num.2.2),.i .i32 x16.char,.sl (Ars x16.box)])),(94,.d (.b z22))]) (fun _=>[]) ?_ ?_
    ·skip
     refine .region ?_;refine vk (vfa B2) ?_;refine vk (Ai A7) ?_;refine vb ?_
     rcases brc hz with ⟨hc,hz⟩|⟨hc,hz⟩
     ·have hb0:(decide (x16.kind=3))=true:=(dT hc)
      refine vL hb0 ?_;refine vk (vfa AQ) ?_;refine vk (Ai BF) ?_;refine vk (A9 (Ba _) (Ea _) Eb) ?_;refine vb ?_;refine vk Ag ?_
      rcases brc hz with ⟨hc,hz⟩|⟨hc,hz⟩
      ·have hb1:(decide (((List.length x16.box:Nat):Int)=1))=true:=(dT hc)
       refine vL hb1 ?_;refine vk (AC AJ An) ?_
       obtain ⟨x23,g23,hz⟩:=bnd hz
       refine vk (Ak (GG g23) Tryz.call90) ?_;refine vk Ag ?_
       rcases brc hz with ⟨hc,hz⟩|⟨hc,hz⟩
       ·have hb2:x23=true:=hc
        refine vL hb2 ?_;refine vk (vfa Da) ?_;refine vk (Ai Dc) ?_;refine vb ?_;refine vk Ag ?_
        rcases brc hz with ⟨hc,hz⟩|⟨hc,hz⟩
        ·have hb3:(decide (x16.char=0))=true:=(dT hc)
         refine vL hb3 ?_;refine vk (vfa AQ) ?_;refine vk (Ai BF) ?_
         obtain ⟨x24,g24,hz⟩:=bnd hz
         obtain ⟨n24,p024,q24⟩:=Ae g24
         refine vk (vix n24 p024 (D1 q24) rfl DU) ?_;refine vk (AC Ac Aa) ?_
         obtain ⟨x25,g25,hz⟩:=bnd hz
         refine vk (Ak (E9 g25) Tryz.call91) ?_;refine vk vnt ?_;refine vk Ag ?_;refine asd ?_;refine RL.gk [1,2,3,6,7,8,11,12,13,14,94] ?_;refine .nil ?_
         cases hz
         exact jr () trivial
        have hb3:(decide (x16.char=0))=false:=(dF hc)
        refine vL hb3 ?_;refine gf4 ?_;refine gf2 ?_;refine vk Ag ?_;refine asd ?_;refine RL.gk [1,2,3,6,7,8,11,12,13,14,94] ?_;refine .nil ?_
        cases hz
        exact jr () trivial
       have hb2:x23=false:=(bf hc)
       refine vL hb2 ?_;refine gf3 ?_;refine vk Ag ?_;refine va ?_;refine gf4 ?_;refine gf2 ?_;refine vk Ag ?_;refine asd ?_;refine RL.gk [1,2,3,6,7,8,11,12,13,14,94] ?_;refine .nil ?_
       cases hz
       exact jr () trivial
      have hb1:(decide (((List.length x16.box:Nat):Int)=1))=false:=(dF hc)
      refine vL hb1 ?_;refine gf2 ?_;refine vk Ag ?_;refine va ?_;refine gf3 ?_;refine vk Ag ?_;refine va ?_;refine gf4 ?_;refine gf2 ?_;refine vk Ag ?_;refine asd ?_;refine RL.gk [1,2,3,6,7,8,11,12,13,14,94] ?_;refine .nil ?_
      cases hz
      exact jr () trivial
     have hb0:(decide (x16.kind=3))=false:=(dF hc)
     refine vL hb0 ?_;refine gf4 ?_;refine vk Ag ?_;refine va ?_;refine gf2 ?_;refine vk Ag ?_;refine va ?_;refine gf3 ?_;refine vk Ag ?_;refine va ?_;refine gf4 ?_;refine gf2 ?_;refine vk Ag ?_;refine asd ?_;refine RL.gk [1,2,3,6,7,8,11,12,13,14,94] ?_;refine .nil ?_
     cases hz
     exact jr () trivial
    rintro _ _
    rcases brc h with ⟨hc,h⟩|⟨hc,h⟩
    ·refine cnt hc ?_
     refine .sr ?_;refine vk (vfa AQ) ?_;refine vk (Ai BF) ?_
     obtain ⟨x26,g26,h⟩:=bnd h
     obtain ⟨n26,p026,q26⟩:=Ae g26
     refine vk (vix n26 p026 (D1 q26) rfl DU) ?_;refine vk (AC Ac Aa) ?_;refine va ?_;refine vb ?_;refine va ?_;refine va ?_;refine vb ?_
     obtain ⟨x27,g27,h⟩:=bnd h
     refine vk (VOK.tupd (vs:=[.b x27.1,.i .i64 x27.2.1,.i .i64 x27.2.2]) (Ak (orc_ref03_measure _ _ _ _ g27) Tryz.call86)) ?_;refine va ?_;refine vk vex ?_;refine vk vex ?_;refine vk vex ?_;refine asd ?_;refine asd ?_;refine ar [1,2,3,6,7,8,11,12,13,15,16,17] ?_;refine .seq ?_;refine .sr ?_;refine va ?_;refine vk vnt ?_;refine rk [1,2,3,6,7,8,11,12,13,16,17,136] ?_
     rcases brc h with ⟨hc,h⟩|⟨hc,h⟩
     ·refine cnf (ntf hc) ?_
      refine .sk ?_;refine .seq ?_;refine .sr ?_;refine va ?_;refine va ?_;refine vb ?_;refine rk [1,2,3,6,7,8,11,12,13,16,17,139] ?_
      obtain ⟨K4,hK4,h⟩:=AF h
      refine AW.mr (σ:=Int) (fun p=>K4 p=some r) (fun p=>[(1,.d (.i .i64 a1)),(2,.d (.i .i64 a2)),(3,.d (.ptr [.sl (Is a0.shape),.sl (Its a0.items)])),(6,.d (.b s8)),(7,.d (.i .i64 s9)),(8,.d (.i .i64 s10)),(11,.d (.i .i64 p)),(12,.d (.i .i64 s12)),(13,.d (.i .i64 s13)),(17,.d (.i .i64 x27.2.2))]) (fun p=>[]) ?_ ?_
      ·skip
       rcases brc h with ⟨hc,h⟩|⟨hc,h⟩
       ·refine cnt (dT hc) ?_
        refine .region ?_;refine va ?_;refine asd ?_;refine RL.gk [1,2,3,6,7,8,11,12,13,17] ?_;refine .nil ?_
        exact jr (x27.2.1) h
       refine cnf (dF hc) ?_;refine .gk [1,2,3,6,7,8,11,12,13,17] ?_;refine .skip ?_
       exact jr (s11) h
      rintro z28 h
      try dsimp only at h ⊢
      subst hK4
      refine aw ?_;refine .region ?_;refine va ?_;refine va ?_;refine vb ?_;refine asd ?_;refine RL.gk [1,2,3,6,7,8,11,12,13] ?_;refine .nil ?_
      exact jr (z28,(w64 (s12+x27.2.2))) h
     refine cnt (ntt (bf hc)) ?_;refine .sr ?_;refine asd ?_;refine asd ?_;refine ar [1,2,3,6,7,8,11,12,13,16,17] ?_;refine .ret ?_
     cases h
     exact ⟨⟨by decide,by decide,by decide⟩,rfl,rfl,rfl,rfl⟩
    refine cnf (bf hc) ?_;refine .sr ?_;refine asd ?_;refine asd ?_;refine ar [1,2,3,6,7,8,11,12,13] ?_;refine .ret ?_
    cases h
    exact ⟨⟨by decide,by decide,by decide⟩,rfl,rfl,rfl,rfl⟩
   rintro ⟨z14,z15⟩ h
   try dsimp only at h ⊢
   subst hK3
   refine .region ?_;refine va ?_;refine vb ?_;refine asd ?_;refine .nil ?_;refine AL.gk [1,2,3,6,7,8,11,12,13] ?_
   exact ih (k,s8,s9,s10,z14,z15,(w64 (s13+1))) h (Nat.lt_succ_self _)
  refine cnf (dF hc) ?_;refine .gk [2,3,6,7,8,11,12] ?_;refine .exit ?_
  exact jr (s8,s9,s10,s11,s12) h
 rintro ⟨z3,z4,z5,z6,z7⟩ h
 try dsimp only at h ⊢
 subst hK1
 refine aw ?_;refine .seq ?_;refine .sr ?_;refine vk (AC Ac Aa) ?_
 obtain ⟨x29,g29,h⟩:=bnd h
 refine vk (Ak (E9 g29) Tryz.call91) ?_;refine vk vnt ?_;refine rk [2,6,7,8,11,12,146] ?_
 obtain ⟨K5,hK5,h⟩:=AF h
 refine AW.mr (σ:=Int) (fun p=>K5 p=some r) (fun p=>[(2,.d (.i .i64 a2)),(6,.d (.b z3)),(7,.d (.i .i64 z4)),(8,.d (.i .i64 z5)),(11,.d (.i .i64 p)),(12,.d (.i .i64 z7))]) (fun p=>[]) ?_ ?_
 ·skip
  rcases brc h with ⟨hc,h⟩|⟨hc,h⟩
  ·refine cnf (ntf hc) ?_
   refine .gk [2,6,7,8,11,12] ?_;refine .skip ?_
   exact jr (z6) h
  refine cnt (ntt (bf hc)) ?_;refine .region ?_;refine va ?_;refine vb ?_;refine asd ?_;refine RL.gk [2,6,7,8,11,12] ?_;refine .nil ?_
  exact jr ((w64 (z6+1))) h
 rintro z30 h
 try dsimp only at h ⊢
 subst hK5
 refine aw ?_;refine .sr ?_;refine va ?_;refine va ?_;refine vb ?_;refine va ?_;refine va ?_;refine asd ?_;refine asd ?_;refine ar [6,7,8] ?_;refine .ret ?_
 cases h
 exact ⟨⟨by decide,by decide,by decide⟩,rfl,rfl,rfl,rfl⟩
def DJ : Nat→Arr→Int→Int→Option (Bool×Int×Int)
 | 0,_,_,_=>none
 | k+1,a0,a1,a2=>Du (DJ k) a0 a1 a2
theorem GU : ∀ (k:Nat) (a0:Arr) (a1:Int) (a2:Int) (r:Bool×Int×Int),DJ k a0 a1 a2=some r→Fn Tryz.prog 86 [.ag [.sl (Is a0.shape),.sl (Its a0.items)],.i .i64 a1,.i .i64 a2] (.tup [.d (.b r.1),.d (.i .i64 r.2.1),.d (.i .i64 r.2.2)])
 | 0,_,_,_,_,h=>by cases h
 | k+1,a0,a1,a2,_,h=>Lr (GU k)  (show Du (DJ k) a0 a1 a2=some _ from h)
def Fa (a0:Arr) (a1:Int) (a2:Int) : Option (Bool×Int×Int):=DJ (a0.size+1) a0 a1 a2
theorem Iu {a0:Arr} {a1:Int} {a2:Int} {r:Bool×Int×Int} (h:Fa a0 a1 a2=some r) : Fn Tryz.prog 86 [.ag [.sl (Is a0.shape),.sl (Its a0.items)],.i .i64 a1,.i .i64 a2] (.tup [.d (.b r.1),.d (.i .i64 r.2.1),.d (.i .i64 r.2.2)]):=GU _ a0 a1 a2 r  h
def BS (a0:Arr) : Option (Bool):=((Fa a0 0 16384).bind fun x1=>(some ((x1.1&&(decide (x1.2.1≤16))))))
theorem Cu {a0:Arr} {r:Bool} (h:BS a0=some r) :
  Fn Tryz.prog 44 [.ag [.sl (Is a0.shape),.sl (Its a0.items)]] (.d (.b r)):=by
 unfold BS at h
 refine Fn.o1 2 17 Tryz.func44 ?_;refine .sr ?_;refine vk vbx ?_;refine ar [1,2] ?_;refine .sr ?_;refine vk (AC Ac Aa) ?_
 obtain ⟨x1,g1,h⟩:=bnd h
 refine vk (VOK.tupd (vs:=[.b x1.1,.i .i64 x1.2.1,.i .i64 x1.2.2]) (Ak (Iu g1) Tryz.call86)) ?_;refine va ?_;refine vk vex ?_;refine vk vex ?_;refine vk vex ?_;refine asd ?_;refine asd ?_;refine ar [2,3,4] ?_;refine .seq ?_;refine AW.mr (σ:=Unit) (fun _=>True) (fun _=>[(2,.d (.b (x1.1&&(decide (x1.2.1≤16)))))]) (fun _=>[]) ?_ ?_
 ·skip
  refine .region ?_;refine va ?_
  by_cases hc:x1.1=true
  ·have hb0:x1.1=true:=hc
   refine vL hb0 ?_;refine va ?_;refine vb ?_;refine vk Ag ?_;refine asd ?_;refine RL.gk [2] ?_;refine .nil ?_
   exact jr () trivial (by simp only [hb0];rfl)
  have hb0:x1.1=false:=(bf hc)
  refine vL hb0 ?_;refine gf2 ?_;refine vk Ag ?_;refine asd ?_;refine RL.gk [2] ?_;refine .nil ?_
  exact jr () trivial (by simp only [hb0];rfl)
 rintro _ _
 refine .ret ?_
 cases h
 exact ⟨rfl,rfl⟩
def Bq (rc_ref03_Copy:Arr→Option (Arr)) (a0:Itm) (K0:Int→Bool→(List Nat)→(List Nat)→Int→(List Arr)→Option (Itm)) : Nat→Int→Int→Bool→(List Nat)→(List Nat)→Int→(List Arr)→Option (Itm)
 | 0,_,_,_,_,_,_,_=>none
 | k+1,s8,s9,s10,s11,s12,s13,s14=>(if s8<((List.length a0.box:Nat):Int) then ((rd? a0.box s8).bind fun x15=>((rc_ref03_Copy x15).bind fun x16=>((ap? 2932031007402 s14 [x16]).bind fun x17=>(Bq rc_ref03_Copy a0 K0 k (w64 (s8+1)) s9 s10 s11 s12 s13 x17)))) else (K0 s9 s10 s11 s12 s13 s14))
def C3 (rc_ref03_Copy:Arr→Option (Arr)) (a0:Itm) : Option (Itm):=((DZ a0.num).bind fun x1=>(jn (fun (z2:Int) (z3:Bool) (z4:(List Nat)) (z5:(List Nat)) (z6:Int) (z7:(List Arr))=>(some ((Itm.mk z2 (z3,z4,z5) z6 z7)))) fun K0=>(Bq rc_ref03_Copy a0 K0 Aw 0 a0.kind x1.1 x1.2.1 x1.2.2 a0.char [])))
theorem Kv {rc_ref03_Copy:Arr→Option (Arr)} (orc_ref03_Copy:∀ x0 r,rc_ref03_Copy x0=some r→Fn Tryz.prog 4 [.ag [.sl (Is x0.shape),.sl (Its x0.items)]] (.d (.ag [.sl (Is r.shape),.sl (Its r.items)]))) {a0:Itm} {r:Itm} (h:C3 rc_ref03_Copy a0=some r) :
  Fn Tryz.prog 13 [.ag [.i .u8 a0.kind,.b a0.num.1,.sl (L a0.num.2.1),.sl (L a0.num.2.2),.i .i32 a0.char,.sl (Ars a0.box)]] (.d (.ag [.i .u8 r.kind,.b r.num.1,.sl (L r.num.2.1),.sl (L r.num.2.2),.i .i32 r.char,.sl (Ars r.box)])):=by
 unfold C3 at h
 refine Fn.ofC (rs:=[.cell 2 42]) (nt:=32) Tryz.func13 rfl rfl rfl (by simp) rfl ?_;refine .sr ?_;refine vk vbx ?_;refine vk (van (Aj Bv) BM) ?_;refine rk [1,2] ?_;refine .seq ?_;refine .drawn 9 Bw (by kernel_rfl) ?_;refine dv (vfa B2) ?_;refine dv (Ai A7) ?_;refine dv (vfa Da) ?_;refine dv (Ai Dc) ?_;refine dv (vfa BX) ?_;refine dv (AC IS GI) ?_
 obtain ⟨x1,g1,h⟩:=bnd h
 refine dv (Ak (Hc g1) Tryz.call31) ?_;refine dv (Ur Fc Bv (fun w I μ=>PB w I μ)) ?_;refine dv (van (Aj Bv) BM) ?_;refine dz ?_
 refine TD ?_ An (by decide)
 refine rk [1,2,3] ?_;refine .seq ?_;refine .sr ?_;refine ar [1,2,3,4] ?_
 obtain ⟨K0,hK0,h⟩:=AF h
 refine AW.mr (σ:=Int×Bool×(List Nat)×(List Nat)×Int×(List Arr)) (fun p=>K0 p.1 p.2.1 p.2.2.1 p.2.2.2.1 p.2.2.2.2.1 p.2.2.2.2.2=some r) (fun p=>[(2,.nb [.i .u8 0,.b false,.sl (L []),.sl (L []),.i .i32 0,.sl (Ars [])]),(3,.bp 0 0)]) (fun p=>[HO.box [.d (.i .u8 p.1),.d (.b p.2.1),.d (.sl (L p.2.2.1)),.d (.sl (L p.2.2.2.1)),.d (.i .i32 p.2.2.2.2.1),.own 30 (Ars p.2.2.2.2.2)]]) ?_ ?_
 ·skip
  refine .block ?_;refine .gh (Gh.nlOwnC (id:=0) (off:=5) 30 (by rw [R6];decide)) ?_
  refine .loop (.gk [1,2,3,4] ?_)
  refine AL.ind (σ:=Nat×Int×Int×Bool×(List Nat)×(List Nat)×Int×(List Arr)) (m:=fun p=>p.1) (e:=fun p=>[(1,.d (.ptr [.i .u8 a0.kind,.b a0.num.1,.sl (L a0.num.2.1),.sl (L a0.num.2.2),.i .i32 a0.char,.sl (Ars a0.box)])),(2,.nb [.i .u8 0,.b false,.sl (L []),.sl (L []),.i .i32 0,.sl (Ars [])]),(3,.bp 0 0),(4,.d (.i .i64 p.2.1))]) (h:=fun p=>[HO.box [.d (.i .u8 p.2.2.1),.d (.b p.2.2.2.1),.d (.sl (L p.2.2.2.2.1)),.d (.sl (L p.2.2.2.2.2.1)),.d (.i .i32 p.2.2.2.2.2.2.1),.own 30 (Ars p.2.2.2.2.2.2.2)]]) (I:=fun p=>Bq rc_ref03_Copy a0 K0 p.1 p.2.1 p.2.2.1 p.2.2.2.1 p.2.2.2.2.1 p.2.2.2.2.2.1 p.2.2.2.2.2.2.1 p.2.2.2.2.2.2.2=some r) ?_ (Aw,0,a0.kind,x1.1,x1.2.1,x1.2.2,a0.char,[]) h
  rintro ⟨k,s8,s9,s10,s11,s12,s13,s14⟩ h ih
  dsimp only at h ih ⊢
  rcases k with _|k
  ·rw [Bq] at h;cases h
  rw [Bq] at h
  refine .seq ?_;refine .sr ?_;refine va ?_;refine vk (vfa AQ) ?_;refine vk (Ai BF) ?_;refine vk (A9 (Ba _) (Ea _) Eb) ?_;refine vb ?_;refine rk [1,2,3,4,17] ?_
  rcases brc h with ⟨hc,h⟩|⟨hc,h⟩
  ·refine cnt (dT hc) ?_
   refine .sk ?_;refine .seq ?_;refine .block ?_;refine .drawn 9 Bw (by kernel_rfl) ?_;refine dv (DX AQ) ?_;refine dv (LQ (cs:=[.d (.i .u8 s9),.d (.b s10),.d (.sl (L s11)),.d (.sl (L s12)),.d (.i .i32 s13),.own 30 (Ars s14)]) rfl rfl BF) ?_;refine dv (vfa AQ) ?_;refine dv (Ai BF) ?_;refine dv Ah ?_
   obtain ⟨x15,g15,h⟩:=bnd h
   obtain ⟨n15,p015,q15⟩:=Ae g15
   refine dv (vix n15 p015 (D1 q15) rfl DU) ?_;refine dv (AC Ac Aa) ?_
   obtain ⟨x16,g16,h⟩:=bnd h
   refine dv (Ak (orc_ref03_Copy _ _ g16) Tryz.call4) ?_;refine dv ((C6 (HX x16) (FQ [x16]) Gt).deep) ?_;refine dz ?_
   obtain ⟨x17,g17,h⟩:=bnd h
   refine NY Pv g17 rfl rfl RG ?_ MC Ba Gt
   refine RL.gk [1,2,3,4,17,20,22,23,24,25,26,27,28,29] ?_;refine vk (DX AQ) ?_
   refine H6 (cs:=[.d (.i .u8 s9),.d (.b s10),.d (.sl (L s11)),.d (.sl (L s12)),.d (.i .i32 s13),.un]) (c:=.un) rfl rfl ?_ Rz
   refine .nil ?_;refine aw ?_;refine .gk [1,2,3,4] ?_;refine .region ?_;refine va ?_;refine vb ?_;refine asd ?_;refine .nil ?_;refine AL.gk [1,2,3,4] ?_
   exact ih (k,(w64 (s8+1)),s9,s10,s11,s12,s13,x17) h (Nat.lt_succ_self _)
  refine cnf (dF hc) ?_;refine .gk [2,3] ?_;refine .exit ?_
  exact jr (s9,s10,s11,s12,s13,s14) h
 rintro ⟨z2,z3,z4,z5,z6,z7⟩ h
 try dsimp only at h ⊢
 subst hK0
 refine aw ?_;refine .sr ?_;refine fz (p:=.c 0 5) ?_;refine vk (GT (cs:=[.d (.i .u8 z2),.d (.b z3),.d (.sl (L z4)),.d (.sl (L z5)),.d (.i .i32 z6),.d (.sl (Ars z7))]) (ds:=[.i .u8 z2,.b z3,.sl (L z4),.sl (L z5),.i .i32 z6,.sl (Ars z7)]) rfl AJ An) ?_
 refine stn ?_ An (by decide)
 refine rk [2] ?_;refine .ret ?_
 cases h
 exact ⟨_,⟨.inr rfl,AJ,An,p6⟩,rfl⟩
def Dl (rc_ref03_Copy:Arr→Option (Arr)) (a0:Arr) (K0:(List Int)→(List Itm)→Option (Arr)) : Nat→Int→(List Int)→(List Itm)→Option (Arr)
 | 0,_,_,_=>none
 | k+1,s4,s5,s6=>(if s4<((List.length a0.items:Nat):Int) then ((rd? a0.items s4).bind fun x7=>((C3 rc_ref03_Copy x7).bind fun x8=>((ap? 1466015503701 s6 [x8]).bind fun x9=>(Dl rc_ref03_Copy a0 K0 k (w64 (s4+1)) s5 x9)))) else (K0 s5 s6))
def Gq (rc_ref03_Copy:Arr→Option (Arr)) (a0:Arr) : Option (Arr):=((ap? 17592186044416 [] a0.shape).bind fun x1=>(jn (fun (z2:(List Int)) (z3:(List Itm))=>(some ((Arr.mk z2 z3)))) fun K0=>(Dl rc_ref03_Copy a0 K0 Aw 0 x1 [])))
theorem N0 {rc_ref03_Copy:Arr→Option (Arr)} (orc_ref03_Copy:∀ x0 r,rc_ref03_Copy x0=some r→Fn Tryz.prog 4 [.ag [.sl (Is x0.shape),.sl (Its x0.items)]] (.d (.ag [.sl (Is r.shape),.sl (Its r.items)]))) {a0:Arr} {r:Arr} (h:Gq rc_ref03_Copy a0=some r) :
  Fn Tryz.prog 4 [.ag [.sl (Is a0.shape),.sl (Its a0.items)]] (.d (.ag [.sl (Is r.shape),.sl (Its r.items)])):=by
 unfold Gq at h
 refine Fn.ofC (rs:=[.cell 2 30]) (nt:=30) Tryz.func4 rfl rfl rfl (by simp) rfl ?_;refine .sr ?_;refine vk vbx ?_;refine vk (van (Aj AD) AI) ?_;refine rk [1,2] ?_;refine .sr ?_
 refine al ?_ (Aj AD) (fun w I μ=>Ji w I μ)
 refine rk [1,2,3] ?_;refine .sr ?_;refine vk (DX Ay) ?_
 refine ldb (cs:=[.nl,.nl]) (c:=.nl) rfl rfl ?_ Bh
 refine vk (vfa Ay) ?_;refine vk (Ai Bh) ?_
 obtain ⟨x1,g1,h⟩:=bnd h
 refine Tt g1 IP ?_ F4 Af CX
 refine vk (DX Ay) ?_
 refine H6 (cs:=[.nl,.nl]) (c:=.nl) rfl rfl ?_ OV
 refine rk [1,2,3] ?_;refine .seq ?_;refine .sr ?_;refine ar [1,2,3,4] ?_
 obtain ⟨K0,hK0,h⟩:=AF h
 refine AW.mr (σ:=(List Int)×(List Itm)) (fun p=>K0 p.1 p.2=some r) (fun p=>[(2,.nb [.sl (Is []),.sl (Its [])]),(3,.bp 0 0)]) (fun p=>[HO.box [.own 3 (Is p.1),.own 42 (Its p.2)]]) ?_ ?_
 ·skip
  refine .block ?_;refine .gh (Gh.nlOwnC (id:=0) (off:=1) 42 (by rw [G8];decide)) ?_
  refine .loop (.gk [1,2,3,4] ?_)
  refine AL.ind (σ:=Nat×Int×(List Int)×(List Itm)) (m:=fun p=>p.1) (e:=fun p=>[(1,.d (.ptr [.sl (Is a0.shape),.sl (Its a0.items)])),(2,.nb [.sl (Is []),.sl (Its [])]),(3,.bp 0 0),(4,.d (.i .i64 p.2.1))]) (h:=fun p=>[HO.box [.own 3 (Is p.2.2.1),.own 42 (Its p.2.2.2)]]) (I:=fun p=>Dl rc_ref03_Copy a0 K0 p.1 p.2.1 p.2.2.1 p.2.2.2=some r) ?_ (Aw,0,x1,[]) h
  rintro ⟨k,s4,s5,s6⟩ h ih
  dsimp only at h ih ⊢
  rcases k with _|k
  ·rw [Dl] at h;cases h
  rw [Dl] at h
  refine .seq ?_;refine .sr ?_;refine va ?_;refine vk (vfa Au) ?_;refine vk (Ai Bp) ?_;refine vk (A9 (Aq _) (CC _) Ce) ?_;refine vb ?_;refine rk [1,2,3,4,15] ?_
  rcases brc h with ⟨hc,h⟩|⟨hc,h⟩
  ·refine cnt (dT hc) ?_
   refine .sk ?_;refine .seq ?_;refine .block ?_;refine .drawn 9 Bw (by kernel_rfl) ?_;refine dv (DX Au) ?_;refine dv (LQ (cs:=[.own 3 (Is s5),.own 42 (Its s6)]) rfl rfl Bp) ?_;refine dv (vfa Au) ?_;refine dv (Ai Bp) ?_;refine dv Ah ?_
   obtain ⟨x7,g7,h⟩:=bnd h
   obtain ⟨n7,p07,q7⟩:=Ae g7
   refine dv (vix n7 p07 (CJ q7) rfl CL) ?_;refine dv (AC AJ An) ?_
   obtain ⟨x8,g8,h⟩:=bnd h
   refine dv (Ak (Kv orc_ref03_Copy g8) Tryz.call13) ?_;refine dv ((C6 (Cz x8) (BW [x8]) BA).deep) ?_;refine dz ?_
   obtain ⟨x9,g9,h⟩:=bnd h
   refine NY Ew g9 rfl rfl Fk ?_ Ee Aq BA
   refine RL.gk [1,2,3,4,15,18,20,21,22,23,24,25,26,27] ?_;refine vk (DX Au) ?_
   refine H6 (cs:=[.own 3 (Is s5),.un]) (c:=.un) rfl rfl ?_ Ib
   refine .nil ?_;refine aw ?_;refine .gk [1,2,3,4] ?_;refine .region ?_;refine va ?_;refine vb ?_;refine asd ?_;refine .nil ?_;refine AL.gk [1,2,3,4] ?_
   exact ih (k,(w64 (s4+1)),s5,x9) h (Nat.lt_succ_self _)
  refine cnf (dF hc) ?_;refine .gk [2,3] ?_;refine .exit ?_
  exact jr (s5,s6) h
 rintro ⟨z2,z3⟩ h
 try dsimp only at h ⊢
 subst hK0
 refine aw ?_;refine .sr ?_;refine fz (p:=.c 0 0) ?_;refine fz (p:=.c 0 1) ?_;refine vk (GT (cs:=[.d (.sl (Is z2)),.d (.sl (Its z3))]) (ds:=[.sl (Is z2),.sl (Its z3)]) rfl Ac Aa) ?_
 refine stn ?_ Aa (by decide)
 refine rk [2] ?_;refine .ret ?_
 cases h
 exact ⟨_,⟨.inr rfl,Ac,Aa,p2⟩,rfl⟩
def Em : Nat→Arr→Option (Arr)
 | 0,_=>none
 | k+1,a0=>Gq (Em k) a0
theorem IJ : ∀ (k:Nat) (a0:Arr) (r:Arr),Em k a0=some r→Fn Tryz.prog 4 [.ag [.sl (Is a0.shape),.sl (Its a0.items)]] (.d (.ag [.sl (Is r.shape),.sl (Its r.items)]))
 | 0,_,_,h=>by cases h
 | k+1,a0,_,h=>N0 (IJ k)  (show Gq (Em k) a0=some _ from h)
def Ex (a0:Arr) : Option (Arr):=Em (a0.size+1) a0
theorem F7 {a0:Arr} {r:Arr} (h:Ex a0=some r) : Fn Tryz.prog 4 [.ag [.sl (Is a0.shape),.sl (Its a0.items)]] (.d (.ag [.sl (Is r.shape),.sl (Its r.items)])):=IJ _ a0 r  h
theorem Oh {s:List Int} (hl:s.length≤8) (K:Int→Int→Bool→Bool→Option (Int×Int)) (u v:Int) : ∀ (n i k:Nat) (b g:Bool),n=s.length-i→i≤s.length→n<k →
  CS s K k u v b g (i:Int)=if (s.drop i).any (fun n=>decide (n<0)) then some (0,3) else K u v (b||decide (0∈s.drop i)) (g||(s.drop i).any (fun n=>decide (4096<n)))
 | _,_,0,_,_,_,_,h=>by omega
 | n,i,k+1,b,g,hn,hi,hk=>by
  rw [CS]
  by_cases hlt:i<s.length
  ·rw [if_pos (by omega),AY hlt,oB,lC hlt,List.any_cons]
   by_cases h0:s[i]<0
   ·rw [if_pos h0,if_pos (by simp [h0])]
   ·have e:(Option.bind (if b=true then some true else (rd? s (i:Int)).bind fun x12=>some (decide (x12=0))):(Bool→Option (Int×Int))→_)=fun f=>f (b||decide (s[i]=0)):=by
     funext f
     cases b
     ·rw [if_neg (by decide),AY hlt];rfl
     ·rw [if_pos rfl];rfl
    rw [if_neg h0,AY hlt] at *
    rw [oB] at e
    rw [oB,e]
    have ih:=fun b g=>Oh hl K u v (n-1) (i+1) k b g (by omega) (by omega) (by omega)
    rw [A4 (by omega)]
    have hm:decide (0∈s[i]::s.drop (i+1))=(decide (s[i]=0)||decide (0∈s.drop (i+1))):=by
     rw [Bool.eq_iff_iff];simp only [List.mem_cons,Bool.or_eq_true,decide_eq_true_eq]
     exact ⟨fun h=>h.imp Eq.symm id,fun h=>h.imp Eq.symm id⟩
    rw [hm,List.any_cons,dF h0,Bool.false_or]
    dsimp only
    cases g
    ·rw [if_neg (by decide),oB,ih,Bool.or_assoc,Bool.false_or]
    ·rw [if_pos (rfl:true=true),ih,Bool.or_assoc,Bool.true_or,Bool.true_or]
  ·rw [if_neg (by omega),List.drop_of_length_le (by omega)]
   simp
theorem O9 {s:List Int} (hl:s.length≤8) (hp:∀ x∈s,1≤x∧x≤4096) (K:Int→Int→Int→Option (Int×Int)) : ∀ (n i k:Nat) (a b m:Int),n=s.length-i→i≤s.length→n<k→1≤m→m≤4096 →
  Ds s K k a b m (i:Int)=if m * Ca (s.drop i)≤4096 then K a b (m * Ca (s.drop i)) else some (0,8)
 | n,i,0,a,b,m,_,_,h,_,_=>by omega
 | n,i,k+1,a,b,m,hn,hi,hk,h1,h2=>by
  rw [Ds]
  by_cases hlt:i<s.length
  ·rw [if_pos (by omega),AY hlt,oB,lC hlt]
   have hx:=hp s[i] (List.getElem_mem _)
   have hpos:1≤Ca (s.drop (i+1)):=Li fun x hx=>(hp x (List.mem_of_mem_drop hx)).1
   have hprod:Ca (s[i]::s.drop (i+1))=s[i] * Ca (s.drop (i+1)):=by unfold Ca;rw [List.foldl_cons,Hp,Int.one_mul]
   have hup:m * s[i]≤4096 * 4096:=Int.le_trans (Int.mul_le_mul_of_nonneg_right h2 (by omega)) (Int.mul_le_mul_of_nonneg_left hx.2 (by omega))
   have hm1:1≤m * s[i]:=Int.le_trans (by omega:(1:Int)≤1 * 1) (Int.mul_le_mul h1 hx.1 (by omega) (by omega))
   rw [hprod,← Int.mul_assoc,Bi (by omega) (by omega)]
   by_cases hc:4096<m * s[i]
   ·rw [if_pos hc,if_neg]
    have:m * s[i] * 1≤m * s[i] * Ca (s.drop (i+1)):=Int.mul_le_mul_of_nonneg_left hpos (by omega)
    omega
   ·rw [if_neg hc,oB,A4 (by omega),Bi (by omega) (by omega)]
    exact O9 hl hp K (n-1) (i+1) k a b (m * s[i]) (by omega) (by omega) (by omega) hm1 (by omega)
  ·rw [if_neg (by omega),List.drop_of_length_le (by omega)]
   rw [show Ca []=1 from rfl,Int.mul_one,if_pos h2]
theorem Jm (s:List Int) : DQ s=some (szP s):=by
 unfold DQ szP
 by_cases h8:8<s.length
 ·rw [if_pos (by omega),if_pos h8]
 rw [if_neg (by omega),if_neg h8,A3]
 have e1:=fun K=>Oh (s:=s) (by omega) K 0 0 s.length 0 Aw false false rfl (Nat.zero_le _) (AS (by omega))
 simp only [List.drop_zero,Bool.false_or] at e1
 rw [show ((0:Nat):Int)=0 from rfl] at e1
 rw [e1]
 by_cases h0:s.any (fun n=>decide (n<0))=true
 ·rw [if_pos h0,if_pos h0]
 rw [if_neg h0,if_neg h0]
 by_cases h1:s.any (fun n=>decide (4096<n))=true
 ·rw [if_pos h1,if_pos h1]
 rw [if_neg h1,if_neg h1]
 by_cases h2:0∈s
 ·rw [if_pos (dT h2),if_pos h2]
 rw [if_neg (by simp [h2]),if_neg h2,A3]
 have hp:∀ x∈s,1≤x∧x≤4096:=fun x hx=>by
  simp only [List.any_eq_true,decide_eq_true_eq,not_exists,not_and] at h0 h1
  have a:=h0 x hx
  have b:=h1 x hx
  have c:x≠0:=fun e=>h2 (e▸hx)
  omega
 have:=O9 (by omega) hp (fun z4 z5 z6=>some (z6,0)) s.length 0 Aw 0 0 1 rfl (Nat.zero_le _) (AS (by omega)) (by omega) (by omega)
 rw [List.drop_zero,Int.one_mul,show ((0:Nat):Int)=0 from rfl] at this
 rw [this]
 split<;>rfl
theorem JU (x:Itm) : DO x=some (C7 x):=by
 unfold DO C7
 simp
theorem IH (a:Arr) : Cr a=some (AM a):=by
 unfold Cr AM
 by_cases h:a.shape=[]
 ·rw [if_pos (by rw [h];rfl),h]
  match hi:a.items with
  | []=>rfl
  | [x]=>simp [rd?]
  | x::y::r =>
   rw [if_neg (by simp only [List.length_cons];omega)]
   rfl
 ·rw [if_neg]
  ·have:a.shape.isEmpty=false:=by simpa using h
   rw [this];rfl
  ·intro q
   exact h (List.length_eq_zero_iff.1 (by omega))
def SF (f:Int→Int→Option (Bool×Int×Int)) (r:Bool) (n dp:Nat) : Prop:=∀ (deep:Nat) (most:Int),deep≤17→-16384≤most→most≤16384 →
 ∃ b d c,f (deep:Int) most=some (b,d,c)∧(b=true→r=true∧d=(dp:Int)∧c=(n:Int)∧(n:Int)≤most∧deep+dp≤17)∧(r=true→deep+dp≤17→deep≤16→(n:Int)≤most→b=true)
theorem LU {rc:Arr→Int→Int→Option (Bool×Int×Int)} {a:Arr} {deep:Nat} {most:Int} (hd:deep≤16) (hm1:most≤16384) (ho:∀ x∈a.items,okI x) (hlen:a.items.length≤4096) (hrc:∀ x∈a.items,∀ b∈x.box,SF (rc b) (rA b) (cA b) (dA b))
  (hns:∀ x∈a.items,∀ b∈x.box,AM b=false→1≤dA b) (K:Bool→Int→Int→Int→Int→Option (Bool×Int×Int)) (u:Bool) (v w:Int):∀ (n i k:Nat) (D C:Nat),n=a.items.length-i→i≤a.items.length→n<k→(C:Int)≤most→D≤17 →
  (AT rc a (deep:Int) most K k u v w (D:Int) (C:Int) (i:Int)=some (false,0,0)∧¬(rIs (a.items.drop i)=true∧(dIs (a.items.drop i)=0∨deep+1+dIs (a.items.drop i)≤17)∧((C+cIs (a.items.drop i):Nat):Int)≤most)) ∨
  (AT rc a (deep:Int) most K k u v w (D:Int) (C:Int) (i:Int)=K u v w ((max D (dIs (a.items.drop i)):Nat):Int) ((C+cIs (a.items.drop i):Nat):Int)∧rIs (a.items.drop i)=true∧((C+cIs (a.items.drop i):Nat):Int)≤most∧(dIs (a.items.drop i)=0∨deep+1+dIs (a.items.drop i)≤17))
 | _,_,0,_,_,_,_,h,_,_=>by omega
 | n,i,k+1,D,C,hn,hi,hk,hC,hD=>by
  rw [AT]
  by_cases hlt:i<a.items.length
  rotate_left
  ·rw [if_neg (by omega),List.drop_of_length_le (by omega)]
   refine .inr ⟨?_,rfl,by simpa [cIs] using hC,.inl rfl⟩
   simp [dIs,cIs]
  have ih:=fun D C=>LU hd hm1 ho hlen hrc hns K u v w (n-1) (i+1) k D C (by omega) (by omega) (by omega)
  have hmem:=List.getElem_mem hlt
  have hox:=(C5 _).1 (ho _ hmem)
  have hrb:=hrc _ hmem
  have hnb:=hns _ hmem
  rw [if_pos (by omega),AY hlt,lC hlt,A3,oB,A4 (by omega)]
  simp only [rIs,dIs,cIs]
  generalize a.items[i]=x at *
  generalize a.items.drop (i+1)=xs at *
  have e0:(((x.box.length:Nat):Int)=0)↔x.box.length=0:=by omega
  have e1:(((x.box.length:Nat):Int)=1)↔x.box.length=1:=by omega
  -- an item without a box that is right
  have plain:rI x=true→x.box=[] →
    (AT rc a (deep:Int) most K k u v w (D:Int) (C:Int) ((i+1:Nat):Int)=some (false,0,0)∧¬((rI x&&rIs xs)=true∧(max (dI x) (dIs xs)=0∨deep+1+max (dI x) (dIs xs)≤17)∧((C+(cI x+cIs xs):Nat):Int)≤most)) ∨
    (AT rc a (deep:Int) most K k u v w (D:Int) (C:Int) ((i+1:Nat):Int)=K u v w ((max D (max (dI x) (dIs xs)):Nat):Int) ((C+(cI x+cIs xs):Nat):Int)∧(rI x&&rIs xs)=true∧((C+(cI x+cIs xs):Nat):Int)≤most∧(max (dI x) (dIs xs)=0∨deep+1+max (dI x) (dIs xs)≤17)):=by
   intro hr hb
   have hd0:dI x=0:=by rw [MY,hb];simp [dBs]
   have hc0:cI x=0:=by rw [Ku,hb];simp [cBs]
   rw [hr,hd0,hc0,Bool.true_and,Nat.zero_add,Nat.zero_max]
   exact ih D C hC hD
  have bad:rI x=false→(some (false,(0:Int),(0:Int))=some (false,(0:Int),(0:Int))∧¬((rI x&&rIs xs)=true∧(max (dI x) (dIs xs)=0∨deep+1+max (dI x) (dIs xs)≤17)∧((C+(cI x+cIs xs):Nat):Int)≤most)) ∨
    (some (false,(0:Int),(0:Int))=K u v w ((max D (max (dI x) (dIs xs)):Nat):Int) ((C+(cI x+cIs xs):Nat):Int)∧(rI x&&rIs xs)=true∧((C+(cI x+cIs xs):Nat):Int)≤most∧(max (dI x) (dIs xs)=0∨deep+1+max (dI x) (dIs xs)≤17)):=fun hr=>.inl ⟨rfl,by rw [hr];simp⟩
  by_cases k1:x.kind=1
  ·have hrI:rI x=(EV x.num&&(decide (x.char=0)&&decide (x.box.length=0))):=by rw [MX,if_pos k1]
   have c1:∀ f:Bool→Option (Bool×Int×Int),Option.bind (if x.kind=1 then (Je x.num).bind fun x18=>if x18=true then if x.char=0 then some (decide (((List.length x.box:Nat):Int)=0)) else some false else some false else some false) f=f (rI x):=by
    intro f
    rw [if_pos k1,Pg hox.2.1,oB,hrI]
    cases EV x.num
    ·rfl
    ·by_cases hc:x.char=0
     ·rw [if_pos rfl,if_pos hc,oB,dT hc,decide_eq_decide.2 e0];rfl
     ·rw [if_pos rfl,if_neg hc,dF hc];rfl
   rw [c1]
   by_cases hr:rI x=true
   ·rw [if_pos hr]
    refine plain hr ?_
    rw [hrI] at hr
    simp only [Bool.and_eq_true,decide_eq_true_eq] at hr
    exact List.length_eq_zero_iff.1 hr.2.2
   ·rw [if_neg hr,if_neg (by omega),oB,if_neg (by decide),if_neg (by omega),oB,if_neg (by decide)]
    exact bad (by simpa using hr)
  rw [if_neg k1,oB,if_neg (by decide)]
  by_cases k2:x.kind=2
  ·have hrI:rI x=(chB x.char&&(C7 x&&decide (x.box.length=0))):=by rw [MX,if_neg k1,if_pos k2]
   have c1:∀ f:Bool→Option (Bool×Int×Int),Option.bind (if x.kind=2 then (Fe x.char).bind fun x20=>if x20=true then (DO x).bind fun x21=>if x21=true then some (decide (((List.length x.box:Nat):Int)=0)) else some false else some false else some false) f=f (rI x):=by
    intro f
    rw [if_pos k2,show Fe x.char=some (chB x.char) from rfl,oB,hrI]
    cases chB x.char
    ·rfl
    ·rw [if_pos rfl,JU,oB]
     cases C7 x
     ·rfl
     ·rw [if_pos rfl,oB,decide_eq_decide.2 e0];rfl
   rw [c1]
   by_cases hr:rI x=true
   ·rw [if_pos hr]
    refine plain hr ?_
    rw [hrI] at hr
    simp only [Bool.and_eq_true,decide_eq_true_eq] at hr
    exact List.length_eq_zero_iff.1 hr.2.2
   ·rw [if_neg hr,if_neg (by omega),oB,if_neg (by decide)]
    exact bad (by simpa using hr)
  rw [if_neg k2,oB,if_neg (by decide)]
  by_cases k3:x.kind=3
  rotate_left
  ·rw [if_neg k3,oB,if_neg (by decide)]
   exact bad (by rw [MX,if_neg k1,if_neg k2,if_neg k3])
  have hrI:rI x=(decide (x.box.length=1)&&(C7 x&&(decide (x.char=0)&&rBs x.box))):=by rw [MX,if_neg k1,if_neg k2,if_pos k3]
  rw [if_pos k3]
  by_cases h1:x.box.length=1
  rotate_left
  ·rw [if_neg (by omega),oB,if_neg (by decide)]
   exact bad (by rw [hrI,dF h1];rfl)
  obtain ⟨b,hb⟩:=List.length_eq_one_iff.1 h1
  rw [if_pos (by omega),JU,oB]
  by_cases h2:C7 x=true
  rotate_left
  ·rw [if_neg h2,oB,if_neg (by decide)]
   exact bad (by rw [hrI,Bool.eq_false_iff.2 h2];simp)
  rw [if_pos h2]
  by_cases h3:x.char=0
  rotate_left
  ·rw [if_neg h3,oB,if_neg (by decide)]
   exact bad (by rw [hrI,dF h3];simp)
  rw [if_pos h3,hb,Mt,oB,IH,oB,oB]
  have hrI':rI x=(!AM b&&rA b):=by rw [hrI,dT h1,h2,dT h3,hb];simp [rBs]
  by_cases h4:AM b=true
  ·rw [if_neg (by rw [h4];decide)]
   exact bad (by rw [hrI',h4];rfl)
  have h4':AM b=false:=by simpa using h4
  rw [if_pos (by rw [h4'];rfl),oB,Bi (by omega) (by omega),Bi (by omega) (by omega)]
  have hbm:b∈x.box:=by simp [hb]
  have hdI:dI x=dA b:=by rw [MY,hb];simp [dBs]
  have hcI:cI x=cA b:=by rw [Ku,hb];simp [cBs]
  have hd1:=hnb b hbm h4'
  obtain ⟨bb,d,c,hf,p1,p2⟩:=hrb b hbm (deep+1) (most-(C:Int)) (by omega) (by omega) (by omega)
  rw [show ((deep:Int)+1)=((deep+1:Nat):Int) by omega,hf,oB]
  rw [hdI,hcI,hrI',h4']
  simp only [Bool.not_false,Bool.true_and]
  by_cases hbb:bb=true
  ·obtain ⟨q1,q2,q3,q4,q5⟩:=p1 hbb
   subst q2 q3
   rw [if_pos hbb,A3,Bi (by omega) (by omega),q1,Bool.true_and]
   have hmax:(if (D:Int)<(dA b:Int) then (AT rc a (deep:Int) most K k u v w (dA b:Int) ((C:Int)+(cA b:Int)) ((i+1:Nat):Int)) else (AT rc a (deep:Int) most K k u v w (D:Int) ((C:Int)+(cA b:Int)) ((i+1:Nat):Int)))=AT rc a (deep:Int) most K k u v w ((max D (dA b):Nat):Int) ((C+cA b:Nat):Int) ((i+1:Nat):Int):=by
    split
    ·rw [show max D (dA b)=dA b by omega];rfl
    ·rw [show max D (dA b)=D by omega];rfl
   rw [hmax]
   rcases ih (max D (dA b)) (C+cA b) (by omega) (by omega) with ⟨g1,g2⟩|⟨g1,g2,g3,g4⟩
   ·refine .inl ⟨g1,fun ⟨w1,w2,w3⟩=>g2 ⟨w1,?_,by omega⟩⟩
    rcases w2 with w2|w2
    ·omega
    ·exact .inr (by omega)
   ·refine .inr ⟨?_,g2,by omega,.inr (by omega)⟩
    rw [g1,Nat.max_assoc,Nat.add_assoc]
  ·rw [if_neg hbb]
   refine .inl ⟨rfl,fun ⟨w1,w2,w3⟩=>hbb (p2 ?_ ?_ ?_ ?_)⟩
   ·simp only [Bool.and_eq_true] at w1;exact w1.1
   ·rcases w2 with w2|w2<;>omega
   ·rcases w2 with w2|w2<;>omega
   ·omega
theorem Vk {a:Arr} (h:AM a=false) : 1≤dA a:=by rw [Gz,if_neg (by rw [h];decide)];omega
def SG (rc:Arr→Int→Int→Option (Bool×Int×Int)) (a0:Arr) (a1 a2 z2:Int) : Option (Bool×Int×Int):=(if ((!(decide (((List.length a0.items:Nat) : Int)=z2)))||(decide (a2<z2)))=true then (some (false,0,0)) else (jn (fun (_:Bool) (_:Int) (_:Int) (z6:Int) (z7:Int)=>((Cr a0).bind fun x29=>(jn (fun (z30:Int)=>(some ((decide (z7≤a2)),z30,z7))) fun K5=>(if x29=true then (K5 z6) else (K5 (w64 (z6+1))))))) fun K1=>(AT rc a0 a1 a2 K1 Aw false 0 0 0 z2 0)))
theorem Zp (rc:Arr→Int→Int→Option (Bool×Int×Int)) (a0:Arr) (a1 a2:Int) : Du rc a0 a1 a2=(DQ a0.shape).bind fun x1=>if (!decide (x1.2=0)||decide (16<a1))=true then some (false,0,0) else SG rc a0 a1 a2 (if x1.1=0 then 1 else x1.1):=by
 unfold Du
 congr 1
 funext x1
 by_cases h:(!decide (x1.2=0)||decide (16<a1))=true
 ·rw [if_pos h,if_pos h]
 ·rw [if_neg h,if_neg h,A3]
  by_cases q:x1.1=0
  ·rw [if_pos q,if_pos q];rfl
  ·rw [if_neg q,if_neg q];rfl
theorem RK {rc:Arr→Int→Int→Option (Bool×Int×Int)} {a:Arr} (oa:okAr a) (hrc:∀ x∈a.items,∀ b∈x.box,SF (rc b) (rA b) (cA b) (dA b)) : SF (Du rc a) (rA a) (cA a) (dA a):=by
 intro deep most h1 h2 h3
 have o:=(AK a).1 oa
 have hz:=EQ a.shape
 rw [Zp,Jm,oB]
 have hrA:=HG a
 by_cases g1:(szP a.shape).2=0∧deep≤16
 rotate_left
 ·rw [if_pos]
  ·refine ⟨_,_,_,rfl,fun q=>absurd q (by decide),fun q1 q2 q3=>?_⟩
   rw [hrA] at q1
   simp only [Bool.and_eq_true,decide_eq_true_eq] at q1
   exact absurd ⟨q1.1,q3⟩ g1
  ·simp only [Bool.or_eq_true,Bool.not_eq_true',decide_eq_false_iff_not,decide_eq_true_eq]
   by_cases q:(szP a.shape).2=0
   ·exact .inr (by have:¬deep≤16:=fun w=>g1 ⟨q,w⟩;omega)
   ·exact .inl q
 rw [if_neg (by
  simp only [Bool.or_eq_true,Bool.not_eq_true',decide_eq_false_iff_not,decide_eq_true_eq]
  rintro (q|q)
  ·exact q g1.1
  ·omega)]
 have hK:(if (szP a.shape).1=0 then 1 else (szP a.shape).1)=(if (szP a.shape).1<1 then 1 else (szP a.shape).1):=by
  by_cases q:(szP a.shape).1=0
  ·rw [if_pos q,if_pos (by omega)]
  ·rw [if_neg q,if_neg (by omega)]
 rw [hK]
 unfold SG
 by_cases g2:(a.items.length:Int)=(if (szP a.shape).1<1 then 1 else (szP a.shape).1)
 rotate_left
 ·rw [if_pos (by simp [g2])]
  refine ⟨_,_,_,rfl,fun q=>absurd q (by decide),fun q1 q2 q3=>?_⟩
  rw [hrA] at q1
  simp only [Bool.and_eq_true,decide_eq_true_eq] at q1
  exact absurd q1.2.1 g2
 have hcA:=GK a
 have hdA:=Gz a
 have hlen:a.items.length≤4096:=by split at g2<;>omega
 rw [← g2]
 by_cases g3:most<(a.items.length:Int)
 ·rw [if_pos (by simp [g3])]
  exact ⟨_,_,_,rfl,fun q=>absurd q (by decide),fun _ _ _ q=>by omega⟩
 rw [if_neg (by simpa using g3),A3]
 have hrA':rA a=rIs a.items:=by rw [hrA,dT g1.1,dT g2];rfl
 have loop:=fun K=>LU (rc:=rc) (a:=a) (deep:=deep) (most:=most) g1.2 h3 o.2.2.2 hlen hrc (fun _ _ b _=>Vk) K false 0 0 a.items.length 0 Aw 0 a.items.length rfl (Nat.zero_le _) (AS (by omega)) (by omega) (by omega)
 simp only [List.drop_zero] at loop
 rw [show ((0:Nat):Int)=0 from rfl] at loop
 rcases loop _ with ⟨q1,q2⟩|⟨q1,q2,q3,q4⟩
 ·rw [q1]
  refine ⟨_,_,_,rfl,fun q=>absurd q (by decide),fun w1 w2 w3 w4=>?_⟩
  refine absurd ⟨hrA'▸w1,?_,by rw [← hcA];exact w4⟩ q2
  by_cases hs:AM a=true
  ·exact .inl (IM hs (hrA'▸w1)).1
  ·rw [if_neg hs] at hdA;exact .inr (by omega)
 ·rw [q1,IH,oB,A3,Nat.zero_max]
  have hdI:dIs a.items≤17:=by omega
  have hdone:(dA a:Int)=if AM a=true then ((dIs a.items:Nat):Int) else w64 (((dIs a.items:Nat):Int)+1):=by
   by_cases hs:AM a=true
   ·rw [if_pos hs,(IM hs q2).1,hdA,if_pos hs]
   ·rw [if_neg hs,hdA,if_neg hs,Bi (by omega) (by omega)];omega
  have hle:decide (((a.items.length+cIs a.items:Nat):Int)≤most)=true:=dT q3
  have hdp:deep+dA a≤17:=by
   rw [hdA]
   by_cases hs:AM a=true
   ·rw [if_pos hs];omega
   ·rw [if_neg hs];omega
  refine ⟨true,(dA a:Int),(cA a:Int),?_,fun _=>⟨by rw [hrA',q2],rfl,rfl,by rw [hcA];exact q3,hdp⟩,fun _ _ _ _=>rfl⟩
  rw [hdone,hcA]
  by_cases hs:AM a=true
  ·rw [if_pos hs,if_pos hs,hle]
  ·rw [if_neg hs,if_neg hs,hle]
theorem NG : ∀ (k:Nat) {a:Arr},a.size<k→okAr a→SF (DJ k a) (rA a) (cA a) (dA a)
 | 0,_,h,_=>by omega
 | k+1,a,h,oa=>by
  have o:=(AK a).1 oa
  have:=RK (rc:=DJ k) oa fun x hx b hb=>NG k (by have:=GM hx;have:=FS hb;omega) (((C5 x).1 (o.2.2.2 x hx)).2.2.2.2 b hb)
  exact this
theorem GF {a:Arr} (oa:okAr a) : BS a=some (decide (AB a)):=by
 obtain ⟨b,d,c,h1,h2,h3⟩:=NG _ (Nat.lt_succ_self _) oa 0 16384 (by omega) (by omega) (by omega)
 unfold BS Fa
 rw [show ((0:Nat):Int)=0 from rfl] at h1
 rw [h1,oB]
 show some (b&&decide (d≤16))=_
 congr 1
 by_cases hb:b=true
 ·obtain ⟨q1,q2,q3,q4,q5⟩:=h2 hb
  rw [hb,q2,Bool.true_and]
  refine decide_eq_decide.2 ⟨fun w=>⟨q1,by omega,by omega⟩,fun w=>?_⟩
  have:=w.2.1;omega
 ·have hb':b=false:=by simpa using hb
  rw [hb',Bool.false_and]
  refine (dF fun w=>hb (h3 w.1 ?_ (by omega) ?_)).symm
  ·have:=w.2.1;omega
  ·have:=w.2.2;omega
theorem Qc {a:RT} (ha:Hq a=true) : DZ a=some a:=by
 obtain ⟨_,_,h1,h2⟩:=Hx.1 ha
 unfold DZ
 rw [Dw (by simp;omega),oB,Dw (by simp;omega)];rfl
theorem KU {rc:Arr→Option Arr} {x:Itm} (hrc:∀ a∈x.box,rc a=some a) (K:Int→Bool→List Nat→List Nat→Int→List Arr→Option Itm) (hl:x.box.length≤2932031007402) : ∀ (n i k:Nat) (s1:Int) (s2:Bool) (s3 s4:List Nat) (s5:Int) (t:List Arr),n=x.box.length-i→i≤x.box.length→n<k→t.length=i →
  Bq rc x K k (i:Int) s1 s2 s3 s4 s5 t=K s1 s2 s3 s4 s5 (t++x.box.drop i)
 | n,i,0,s1,s2,s3,s4,s5,t,_,_,h,_=>by omega
 | n,i,k+1,s1,s2,s3,s4,s5,t,hn,hi,hk,ht=>by
  rw [Bq]
  by_cases hlt:i<x.box.length
  ·rw [if_pos (by omega),AY hlt,oB,hrc _ (List.getElem_mem hlt),oB,Dw (by simp;omega),oB,A4 (by omega),
    KU hrc K hl (n-1) (i+1) k s1 s2 s3 s4 s5 _ (by omega) (by omega) (by omega) (by simp [ht]),lC hlt,List.append_assoc]
   rfl
  ·rw [if_neg (by omega),List.drop_of_length_le (by omega)];simp
theorem S0 {rc:Arr→Option Arr} {x:Itm} (ho:okI x) (hrc:∀ a∈x.box,rc a=some a) : C3 rc x=some x:=by
 have h1:=(C5 x).1 ho
 unfold C3
 rw [Qc h1.2.1,oB,A3]
 have:=KU hrc (fun z2 z3 z4 z5 z6 z7=>some (Itm.mk z2 (z3,z4,z5) z6 z7)) h1.2.2.2.1 x.box.length 0 Aw x.kind x.num.1 x.num.2.1 x.num.2.2 x.char [] rfl (Nat.zero_le _) (AS (by omega)) rfl
 rw [List.drop_zero,show ((0:Nat):Int)=0 from rfl,List.nil_append] at this
 rw [this]
 exact congrArg some (Itm.eta x)
theorem L9 {rc:Arr→Option Arr} {a:Arr} (ho:∀ x∈a.items,okI x) (hrc:∀ x∈a.items,∀ b∈x.box,rc b=some b) (K:List Int→List Itm→Option Arr) (hl:a.items.length≤1466015503701) : ∀ (n i k:Nat) (s:List Int) (t:List Itm),n=a.items.length-i→i≤a.items.length→n<k→t.length=i →
  Dl rc a K k (i:Int) s t=K s (t++a.items.drop i)
 | n,i,0,s,t,_,_,h,_=>by omega
 | n,i,k+1,s,t,hn,hi,hk,ht=>by
  rw [Dl]
  by_cases hlt:i<a.items.length
  ·have hm:=List.getElem_mem hlt
   rw [if_pos (by omega),AY hlt,oB,S0 (ho _ hm) (hrc _ hm),oB,Dw (by simp;omega),oB,A4 (by omega),
    L9 ho hrc K hl (n-1) (i+1) k s _ (by omega) (by omega) (by omega) (by simp [ht]),lC hlt,List.append_assoc]
   rfl
  ·rw [if_neg (by omega),List.drop_of_length_le (by omega)];simp
theorem Ro : ∀ (k:Nat) {a:Arr},a.size<k→okAr a→Em k a=some a
 | 0,_,h,_=>by omega
 | k+1,a,h,oa=>by
  have o:=(AK a).1 oa
  rw [Em,Gq,Dw (by simpa using o.2.1),oB,List.nil_append,A3]
  have:=L9 (rc:=Em k) o.2.2.2 (fun x hx b hb=>Ro k (by have:=GM hx;have:=FS hb;omega) (((C5 x).1 (o.2.2.2 x hx)).2.2.2.2 b hb)) (fun z2 z3=>some (Arr.mk z2 z3)) o.2.2.1 a.items.length 0 Aw a.shape [] rfl (Nat.zero_le _) (AS (by omega)) rfl
  rw [List.drop_zero,show ((0:Nat):Int)=0 from rfl,List.nil_append] at this
  rw [this]
  exact congrArg some (Arr.eta a)
theorem Jt {a:Arr} (oa:okAr a) : Ex a=some a:=Ro _ (Nat.lt_succ_self _) oa
theorem VE (xs:List Itm) : cyc xs xs.length=xs:=by
 apply List.ext_getElem?
 intro i
 by_cases h2:i<xs.length
 ·unfold cyc
  rw [List.getElem?_map,List.getElem?_range h2,Option.map_some,Nat.mod_eq_of_lt h2,lD,lG h2];rfl
 ·rw [List.getElem?_eq_none (by rw [ES];omega),List.getElem?_eq_none (by omega)]
theorem HT {xs:List Itm} {n:Nat} (h:xs.length=n) (h0:n≠0) : Bc ((n:Nat) : Int) xs=xs:=by
 unfold Bc
 rw [if_neg (by omega),Int.toNat_natCast,← h]
 exact VE xs
theorem CO {a:Arr} (oa:okAr a) (h:AB a) {x:Itm} (hx:x∈a.items) : okI x∧Bg x:=by
 have o:=(AK a).1 oa
 obtain ⟨h1,h2,h3⟩:=h
 have hr:=(Jc h1).2.2
 refine ⟨o.2.2.2 x hx,hr x hx,?_,?_⟩
 ·have hd:∀ {xs:List Itm},x∈xs→dI x≤dIs xs:=by
   intro xs
   induction xs with
   | nil=>intro h;cases h
   | cons y ys ih =>
    intro h
    rw [dIs]
    rcases List.mem_cons.1 h with rfl|h
    ·omega
    ·have:=ih h;omega
  have hdx:=hd hx
  rw [Gz] at h2
  by_cases hs:AM a=true
  ·have:=(IM hs (EM.2 hr)).1
   omega
  ·rw [if_neg hs] at h2;omega
 ·have hc:∀ {xs:List Itm},x∈xs→cI x≤cIs xs:=by
   intro xs
   induction xs with
   | nil=>intro h;cases h
   | cons y ys ih =>
    intro h
    rw [cIs]
    rcases List.mem_cons.1 h with rfl|h
    ·omega
    ·have:=ih h;omega
  have hcx:=hc hx
  rw [GK] at h3
  omega
theorem H7 {s:List Int} {xs:List Itm} (hne:xs≠[]) (hx:∀ x∈xs,okI x∧Bg x) : ∀ x∈Bc (szP s).1 xs,okI x:=by
 intro x hx'
 unfold Bc at hx'
 split at hx'
 ·rw [List.mem_singleton] at hx'
  obtain ⟨y,ys,rfl⟩:=List.exists_cons_of_ne_nil hne
  obtain ⟨o,r⟩:=hx y (by simp)
  subst hx'
  exact (PA o r.1).2.2.2.2.2
 ·exact (hx x (Tp hne hx')).1
theorem Rq {s:List Int} {xs:List Itm} : (Bc (szP s).1 xs).length≤4096:=by
 have:=EQ s
 unfold Bc
 split
 ·simp
 ·rw [ES];omega
theorem Hv {a:Arr} (h:AB a) : ∃ n : Nat,szP a.shape=((n:Int),0)∧a.items.length=if n=0 then 1 else n:=by
 obtain ⟨h1,h2,_⟩:=Jc h.1
 have:=EQ a.shape
 refine ⟨(szP a.shape).1.toNat,?_,?_⟩
 ·rw [← h1,Int.toNat_of_nonneg this.1]
 ·split at h2<;>split<;>omega
theorem Fj {a:Arr} (h:AB a) : 0<a.items.length:=by
 obtain ⟨n,_,hl⟩:=Hv h
 rw [hl];split<;>omega
theorem Xa {x:Itm} (h:rI x=true) (k:x.kind≠3) : x.box=[]:=by
 rcases FX h with ⟨_,_,_,q⟩|⟨_,_,_,q⟩|⟨q,_⟩
 ·exact q
 ·exact q
 ·exact absurd q k
def Gy (a0:Itm) : Option (Bool):=((BS (Arr.mk [] [a0])).bind fun x1=>(some (x1)))
theorem N5 {a0:Itm} {r:Bool} (h:Gy a0=some r) :
  Fn Tryz.prog 89 [.ag [.i .u8 a0.kind,.b a0.num.1,.sl (L a0.num.2.1),.sl (L a0.num.2.2),.i .i32 a0.char,.sl (Ars a0.box)]] (.d (.b r)):=by
 unfold Gy at h
 refine Fn.o1 2 7 Tryz.func89 ?_;refine .sr ?_;refine vk vbx ?_;refine ar [1,2] ?_;refine .sr ?_;refine vk (AC AJ An) ?_;refine vk ((C6 (Cz a0) (BW [a0]) BA).deep) ?_;refine vk (vbd CF AD AI) ?_
 obtain ⟨x1,g1,h⟩:=bnd h
 refine vk (Ak (Cu g1) Tryz.call44) ?_;refine ar [2] ?_;refine .ret ?_
 cases h
 exact ⟨rfl,rfl⟩
def D3 (a0:Itm) : Option (Bool):=(if a0.kind=3 then (Option.bind ((if ((List.length a0.box:Nat) : Int)=1 then ((DO a0).bind fun x2=>(if x2=true then (if a0.char=0 then ((rd? a0.box 0).bind fun x3=>((Cr x3).bind fun x4=>(if x4=true then (some false) else ((rd? a0.box 0).bind fun x5=>((BS x5).bind fun x6=>(some x6)))))) else (some false)) else (some false))) else (some false)) : Option (Bool)) fun (z1:Bool)=>(some (z1))) else ((Gy a0).bind fun x7=>(some (x7))))
theorem JW {a0:Itm} {r:Bool} (h:D3 a0=some r) :
  Fn Tryz.prog 47 [.ag [.i .u8 a0.kind,.b a0.num.1,.sl (L a0.num.2.1),.sl (L a0.num.2.2),.i .i32 a0.char,.sl (Ars a0.box)]] (.d (.b r)):=by
 unfold D3 at h
 refine Fn.o1 2 36 Tryz.func47 ?_;refine .sr ?_;refine vk vbx ?_;refine ar [1,2] ?_;refine .seq ?_;refine .sr ?_;refine vk (vfa B2) ?_;refine vk (Ai A7) ?_;refine vb ?_;refine rk [1,2,5] ?_
 rcases brc h with ⟨hc,h⟩|⟨hc,h⟩
 ·refine cnf (ntf (dT hc)) ?_
  refine .sk ?_;refine .seq ?_
  obtain ⟨z1,hz,h⟩:=bnd h
  refine AW.mr (σ:=Unit) (fun _=>True) (fun _=>[(2,.d (.b z1))]) (fun _=>[]) ?_ ?_
  ·skip
   refine .region ?_;refine vk (vfa AQ) ?_;refine vk (Ai BF) ?_;refine vk (A9 (Ba _) (Ea _) Eb) ?_;refine vb ?_
   rcases brc hz with ⟨hc,hz⟩|⟨hc,hz⟩
   ·have hb0:(decide (((List.length a0.box:Nat):Int)=1))=true:=(dT hc)
    refine vL hb0 ?_;refine vk (AC AJ An) ?_
    obtain ⟨x2,g2,hz⟩:=bnd hz
    refine vk (Ak (GG g2) Tryz.call90) ?_;refine vk Ag ?_
    rcases brc hz with ⟨hc,hz⟩|⟨hc,hz⟩
    ·have hb1:x2=true:=hc
     refine vL hb1 ?_;refine vk (vfa Da) ?_;refine vk (Ai Dc) ?_;refine vb ?_;refine vk Ag ?_
     rcases brc hz with ⟨hc,hz⟩|⟨hc,hz⟩
     ·have hb2:(decide (a0.char=0))=true:=(dT hc)
      refine vL hb2 ?_;refine vk (vfa AQ) ?_;refine vk (Ai BF) ?_
      obtain ⟨x3,g3,hz⟩:=bnd hz
      obtain ⟨n3,p03,q3⟩:=Ae g3
      refine vk (vix n3 p03 (D1 q3) rfl DU) ?_;refine vk (AC Ac Aa) ?_
      obtain ⟨x4,g4,hz⟩:=bnd hz
      refine vk (Ak (E9 g4) Tryz.call91) ?_;refine vk vnt ?_;refine vk Ag ?_
      rcases brc hz with ⟨hc,hz⟩|⟨hc,hz⟩
      ·have hb3:(!x4)=false:=(ntf hc)
       refine vL hb3 ?_;refine gf4 ?_;refine gf ?_;refine vk Ag ?_;refine asd ?_;refine RL.gk [2] ?_;refine .nil ?_
       cases hz
       exact jr () trivial
      have hb3:(!x4)=true:=(ntt (bf hc))
      refine vL hb3 ?_;refine vk (vfa AQ) ?_;refine vk (Ai BF) ?_
      obtain ⟨x5,g5,hz⟩:=bnd hz
      obtain ⟨n5,p05,q5⟩:=Ae g5
      refine vk (vix n5 p05 (D1 q5) rfl DU) ?_;refine vk (AC Ac Aa) ?_
      obtain ⟨x6,g6,hz⟩:=bnd hz
      refine vk (Ak (Cu g6) Tryz.call44) ?_;refine vk Ag ?_;refine asd ?_;refine RL.gk [2] ?_;refine .nil ?_
      cases hz
      exact jr () trivial
     have hb2:(decide (a0.char=0))=false:=(dF hc)
     refine vL hb2 ?_;refine gf4 ?_;refine gf2 ?_;refine vk Ag ?_;refine va ?_;refine gf4 ?_;refine gf ?_;refine vk Ag ?_;refine asd ?_;refine RL.gk [2] ?_;refine .nil ?_
     cases hz
     exact jr () trivial
    have hb1:x2=false:=(bf hc)
    refine vL hb1 ?_;refine gf3 ?_;refine vk Ag ?_;refine va ?_;refine gf4 ?_;refine gf2 ?_;refine vk Ag ?_;refine va ?_;refine gf4 ?_;refine gf ?_;refine vk Ag ?_;refine asd ?_;refine RL.gk [2] ?_;refine .nil ?_
    cases hz
    exact jr () trivial
   have hb0:(decide (((List.length a0.box:Nat):Int)=1))=false:=(dF hc)
   refine vL hb0 ?_;refine gf2 ?_;refine vk Ag ?_;refine va ?_;refine gf3 ?_;refine vk Ag ?_;refine va ?_;refine gf4 ?_;refine gf2 ?_;refine vk Ag ?_;refine va ?_;refine gf4 ?_;refine gf ?_;refine vk Ag ?_;refine asd ?_;refine RL.gk [2] ?_;refine .nil ?_
   cases hz
   exact jr () trivial
  rintro _ _
  refine .ret ?_
  cases h
  exact ⟨rfl,rfl⟩
 refine cnt (ntt (dF hc)) ?_;refine .sr ?_;refine vk (AC AJ An) ?_
 obtain ⟨x7,g7,h⟩:=bnd h
 refine vk (Ak (N5 g7) Tryz.call89) ?_;refine ar [1,2] ?_;refine .ret ?_
 cases h
 exact ⟨rfl,rfl⟩
def FO (a0:Arr) : Option (Int):=((BS a0).bind fun x1=>(if x1=true then ((Fa a0 0 16384).bind fun x2=>(some (x2.2.2))) else (some (0))))
theorem MN {a0:Arr} {r:Int} (h:FO a0=some r) :
  Fn Tryz.prog 49 [.ag [.sl (Is a0.shape),.sl (Its a0.items)]] (.d (.i .i64 r)):=by
 unfold FO at h
 refine Fn.o1 2 16 Tryz.func49 ?_;refine .sr ?_;refine vk vbx ?_;refine ar [1,2] ?_;refine .seq ?_;refine .sr ?_;refine vk (AC Ac Aa) ?_
 obtain ⟨x1,g1,h⟩:=bnd h
 refine vk (Ak (Cu g1) Tryz.call44) ?_;refine vk vnt ?_;refine rk [1,2,8] ?_
 rcases brc h with ⟨hc,h⟩|⟨hc,h⟩
 ·refine cnf (ntf hc) ?_
  refine .sk ?_;refine .sr ?_;refine vk (AC Ac Aa) ?_
  obtain ⟨x2,g2,h⟩:=bnd h
  refine vk (VOK.tupd (vs:=[.b x2.1,.i .i64 x2.2.1,.i .i64 x2.2.2]) (Ak (Iu g2) Tryz.call86)) ?_;refine va ?_;refine vk vex ?_;refine vk vex ?_;refine vk vex ?_;refine asd ?_;refine asd ?_;refine ar [2,5] ?_;refine .sr ?_;refine va ?_;refine ar [2] ?_;refine .ret ?_
  cases h
  exact ⟨rfl,rfl⟩
 refine cnt (ntt (bf hc)) ?_;refine .sr ?_;refine ar [1,2] ?_;refine .ret ?_
 cases h
 exact ⟨rfl,rfl⟩
def DG (rc_ref03_Type:Arr→Option (Arr)) (a0:Itm) : Option (Itm):=(if a0.kind=1 then (KB.bind fun x1=>(some ((Itm.mk 1 x1 0 [])))) else (if a0.kind=2 then (some ((Itm.mk 2 (false,[],[]) 32 []))) else ((rd? a0.box 0).bind fun x2=>((rc_ref03_Type x2).bind fun x3=>(some ((Itm.mk 3 (false,[],[]) 0 [x3])))))))
theorem KN {rc_ref03_Type:Arr→Option (Arr)} (orc_ref03_Type:∀ x0 r,rc_ref03_Type x0=some r→Fn Tryz.prog 93 [.ag [.sl (Is x0.shape),.sl (Its x0.items)]] (.d (.ag [.sl (Is r.shape),.sl (Its r.items)]))) {a0:Itm} {r:Itm} (h:DG rc_ref03_Type a0=some r) :
  Fn Tryz.prog 48 [.ag [.i .u8 a0.kind,.b a0.num.1,.sl (L a0.num.2.1),.sl (L a0.num.2.2),.i .i32 a0.char,.sl (Ars a0.box)]] (.d (.ag [.i .u8 r.kind,.b r.num.1,.sl (L r.num.2.1),.sl (L r.num.2.2),.i .i32 r.char,.sl (Ars r.box)])):=by
 unfold DG at h
 refine Fn.ofC (rs:=[.cell 2 42]) (nt:=19) Tryz.func48 rfl rfl rfl (by simp) rfl ?_;refine .sr ?_;refine vk vbx ?_;refine vk (van (Aj Bv) BM) ?_;refine rk [1,2] ?_;refine .seq ?_;refine .sr ?_;refine vk (vfa B2) ?_;refine vk (Ai A7) ?_;refine rk [1,2,4] ?_;refine .block ?_;refine .sr ?_;refine vb ?_;refine ar [1,2,4,5] ?_
 rcases brc h with ⟨hc,h⟩|⟨hc,h⟩
 ·refine cnt (dT hc) ?_
  refine .sr ?_
  obtain ⟨x1,g1,h⟩:=bnd h
  refine vk (Ak (LS g1) Tryz.call92) ?_;refine vk (vbd Fc Bv BM) ?_
  refine stn ?_ An (by decide)
  refine rk [1,2] ?_;refine .ret ?_
  cases h
  exact ⟨_,⟨.inr rfl,AJ,An,p6⟩,rfl⟩
 refine cnf (dF hc) ?_;refine .sr ?_;refine vb ?_;refine ar [1,2,9] ?_
 rcases brc h with ⟨hc,h⟩|⟨hc,h⟩
 ·refine cnt (dT hc) ?_
  refine .sr ?_;refine vk (vbd Fc Bv BM) ?_
  refine stn ?_ An (by decide)
  refine rk [1,2] ?_;refine .ret ?_
  cases h
  exact ⟨_,⟨.inr rfl,AJ,An,p6⟩,rfl⟩
 refine cnf (dF hc) ?_;refine .sk ?_;refine .sr ?_;refine vk (vfa AQ) ?_;refine vk (Ai BF) ?_
 obtain ⟨x2,g2,h⟩:=bnd h
 obtain ⟨n2,p02,q2⟩:=Ae g2
 refine vk (vix n2 p02 (D1 q2) rfl DU) ?_;refine vk (AC Ac Aa) ?_
 obtain ⟨x3,g3,h⟩:=bnd h
 refine vk (Ak (orc_ref03_Type _ _ g3) Tryz.call93) ?_;refine vk ((C6 (HX x3) (FQ [x3]) Gt).deep) ?_;refine vk (vbd Fc Bv BM) ?_
 refine stn ?_ An (by decide)
 refine rk [2] ?_;refine .ret ?_
 cases h
 exact ⟨_,⟨.inr rfl,AJ,An,p6⟩,rfl⟩
def Di (rc_ref03_Type:Arr→Option (Arr)) (a0:Arr) (K0:(List Int)→(List Itm)→Option (Arr)) : Nat→Int→(List Int)→(List Itm)→Option (Arr)
 | 0,_,_,_=>none
 | k+1,s4,s5,s6=>(if s4<((List.length a0.items:Nat):Int) then ((rd? a0.items s4).bind fun x7=>((DG rc_ref03_Type x7).bind fun x8=>((ap? 1466015503701 s6 [x8]).bind fun x9=>(Di rc_ref03_Type a0 K0 k (w64 (s4+1)) s5 x9)))) else (K0 s5 s6))
def Gl (rc_ref03_Type:Arr→Option (Arr)) (a0:Arr) : Option (Arr):=((ap? 17592186044416 [] a0.shape).bind fun x1=>(jn (fun (z2:(List Int)) (z3:(List Itm))=>(some ((Arr.mk z2 z3)))) fun K0=>(Di rc_ref03_Type a0 K0 Aw 0 x1 [])))
theorem NU {rc_ref03_Type:Arr→Option (Arr)} (orc_ref03_Type:∀ x0 r,rc_ref03_Type x0=some r→Fn Tryz.prog 93 [.ag [.sl (Is x0.shape),.sl (Its x0.items)]] (.d (.ag [.sl (Is r.shape),.sl (Its r.items)]))) {a0:Arr} {r:Arr} (h:Gl rc_ref03_Type a0=some r) :
  Fn Tryz.prog 93 [.ag [.sl (Is a0.shape),.sl (Its a0.items)]] (.d (.ag [.sl (Is r.shape),.sl (Its r.items)])):=by
 unfold Gl at h
 refine Fn.ofC (rs:=[.cell 2 30]) (nt:=30) Tryz.func93 rfl rfl rfl (by simp) rfl ?_;refine .sr ?_;refine vk vbx ?_;refine vk (van (Aj AD) AI) ?_;refine rk [1,2] ?_;refine .sr ?_
 refine al ?_ (Aj AD) (fun w I μ=>Ji w I μ)
 refine rk [1,2,3] ?_;refine .sr ?_;refine vk (DX Ay) ?_
 refine ldb (cs:=[.nl,.nl]) (c:=.nl) rfl rfl ?_ Bh
 refine vk (vfa Ay) ?_;refine vk (Ai Bh) ?_
 obtain ⟨x1,g1,h⟩:=bnd h
 refine Tt g1 IP ?_ F4 Af CX
 refine vk (DX Ay) ?_
 refine H6 (cs:=[.nl,.nl]) (c:=.nl) rfl rfl ?_ OV
 refine rk [1,2,3] ?_;refine .seq ?_;refine .sr ?_;refine ar [1,2,3,4] ?_
 obtain ⟨K0,hK0,h⟩:=AF h
 refine AW.mr (σ:=(List Int)×(List Itm)) (fun p=>K0 p.1 p.2=some r) (fun p=>[(2,.nb [.sl (Is []),.sl (Its [])]),(3,.bp 0 0)]) (fun p=>[HO.box [.own 3 (Is p.1),.own 42 (Its p.2)]]) ?_ ?_
 ·skip
  refine .block ?_;refine .gh (Gh.nlOwnC (id:=0) (off:=1) 42 (by rw [G8];decide)) ?_
  refine .loop (.gk [1,2,3,4] ?_)
  refine AL.ind (σ:=Nat×Int×(List Int)×(List Itm)) (m:=fun p=>p.1) (e:=fun p=>[(1,.d (.ptr [.sl (Is a0.shape),.sl (Its a0.items)])),(2,.nb [.sl (Is []),.sl (Its [])]),(3,.bp 0 0),(4,.d (.i .i64 p.2.1))]) (h:=fun p=>[HO.box [.own 3 (Is p.2.2.1),.own 42 (Its p.2.2.2)]]) (I:=fun p=>Di rc_ref03_Type a0 K0 p.1 p.2.1 p.2.2.1 p.2.2.2=some r) ?_ (Aw,0,x1,[]) h
  rintro ⟨k,s4,s5,s6⟩ h ih
  dsimp only at h ih ⊢
  rcases k with _|k
  ·rw [Di] at h;cases h
  rw [Di] at h
  refine .seq ?_;refine .sr ?_;refine va ?_;refine vk (vfa Au) ?_;refine vk (Ai Bp) ?_;refine vk (A9 (Aq _) (CC _) Ce) ?_;refine vb ?_;refine rk [1,2,3,4,15] ?_
  rcases brc h with ⟨hc,h⟩|⟨hc,h⟩
  ·refine cnt (dT hc) ?_
   refine .sk ?_;refine .seq ?_;refine .block ?_;refine .drawn 9 Bw (by kernel_rfl) ?_;refine dv (DX Au) ?_;refine dv (LQ (cs:=[.own 3 (Is s5),.own 42 (Its s6)]) rfl rfl Bp) ?_;refine dv (vfa Au) ?_;refine dv (Ai Bp) ?_;refine dv Ah ?_
   obtain ⟨x7,g7,h⟩:=bnd h
   obtain ⟨n7,p07,q7⟩:=Ae g7
   refine dv (vix n7 p07 (CJ q7) rfl CL) ?_;refine dv (AC AJ An) ?_
   obtain ⟨x8,g8,h⟩:=bnd h
   refine dv (Ak (KN orc_ref03_Type g8) Tryz.call48) ?_;refine dv ((C6 (Cz x8) (BW [x8]) BA).deep) ?_;refine dz ?_
   obtain ⟨x9,g9,h⟩:=bnd h
   refine NY Ew g9 rfl rfl Fk ?_ Ee Aq BA
   refine RL.gk [1,2,3,4,15,18,20,21,22,23,24,25,26,27] ?_;refine vk (DX Au) ?_
   refine H6 (cs:=[.own 3 (Is s5),.un]) (c:=.un) rfl rfl ?_ Ib
   refine .nil ?_;refine aw ?_;refine .gk [1,2,3,4] ?_;refine .region ?_;refine va ?_;refine vb ?_;refine asd ?_;refine .nil ?_;refine AL.gk [1,2,3,4] ?_
   exact ih (k,(w64 (s4+1)),s5,x9) h (Nat.lt_succ_self _)
  refine cnf (dF hc) ?_;refine .gk [2,3] ?_;refine .exit ?_
  exact jr (s5,s6) h
 rintro ⟨z2,z3⟩ h
 try dsimp only at h ⊢
 subst hK0
 refine aw ?_;refine .sr ?_;refine fz (p:=.c 0 0) ?_;refine fz (p:=.c 0 1) ?_;refine vk (GT (cs:=[.d (.sl (Is z2)),.d (.sl (Its z3))]) (ds:=[.sl (Is z2),.sl (Its z3)]) rfl Ac Aa) ?_
 refine stn ?_ Aa (by decide)
 refine rk [2] ?_;refine .ret ?_
 cases h
 exact ⟨_,⟨.inr rfl,Ac,Aa,p2⟩,rfl⟩
def Et : Nat→Arr→Option (Arr)
 | 0,_=>none
 | k+1,a0=>Gl (Et k) a0
theorem ID : ∀ (k:Nat) (a0:Arr) (r:Arr),Et k a0=some r→Fn Tryz.prog 93 [.ag [.sl (Is a0.shape),.sl (Its a0.items)]] (.d (.ag [.sl (Is r.shape),.sl (Its r.items)]))
 | 0,_,_,h=>by cases h
 | k+1,a0,_,h=>NU (ID k)  (show Gl (Et k) a0=some _ from h)
def Ls (a0:Arr) : Option (Arr):=Et (a0.size+1) a0
theorem PT {a0:Arr} {r:Arr} (h:Ls a0=some r) : Fn Tryz.prog 93 [.ag [.sl (Is a0.shape),.sl (Its a0.items)]] (.d (.ag [.sl (Is r.shape),.sl (Its r.items)])):=ID _ a0 r  h
def Dx (a0:Itm) : Option (Itm):=(if a0.kind=1 then (KB.bind fun x1=>(some ((Itm.mk 1 x1 0 [])))) else (if a0.kind=2 then (some ((Itm.mk 2 (false,[],[]) 32 []))) else ((rd? a0.box 0).bind fun x2=>((Ls x2).bind fun x3=>(some ((Itm.mk 3 (false,[],[]) 0 [x3])))))))
theorem GS {a0:Itm} {r:Itm} (h:Dx a0=some r) :
  Fn Tryz.prog 48 [.ag [.i .u8 a0.kind,.b a0.num.1,.sl (L a0.num.2.1),.sl (L a0.num.2.2),.i .i32 a0.char,.sl (Ars a0.box)]] (.d (.ag [.i .u8 r.kind,.b r.num.1,.sl (L r.num.2.1),.sl (L r.num.2.2),.i .i32 r.char,.sl (Ars r.box)])):=by
 unfold Dx at h
 refine Fn.ofC (rs:=[.cell 2 42]) (nt:=19) Tryz.func48 rfl rfl rfl (by simp) rfl ?_;refine .sr ?_;refine vk vbx ?_;refine vk (van (Aj Bv) BM) ?_;refine rk [1,2] ?_;refine .seq ?_;refine .sr ?_;refine vk (vfa B2) ?_;refine vk (Ai A7) ?_;refine rk [1,2,4] ?_;refine .block ?_;refine .sr ?_;refine vb ?_;refine ar [1,2,4,5] ?_
 rcases brc h with ⟨hc,h⟩|⟨hc,h⟩
 ·refine cnt (dT hc) ?_
  refine .sr ?_
  obtain ⟨x1,g1,h⟩:=bnd h
  refine vk (Ak (LS g1) Tryz.call92) ?_;refine vk (vbd Fc Bv BM) ?_
  refine stn ?_ An (by decide)
  refine rk [1,2] ?_;refine .ret ?_
  cases h
  exact ⟨_,⟨.inr rfl,AJ,An,p6⟩,rfl⟩
 refine cnf (dF hc) ?_;refine .sr ?_;refine vb ?_;refine ar [1,2,9] ?_
 rcases brc h with ⟨hc,h⟩|⟨hc,h⟩
 ·refine cnt (dT hc) ?_
  refine .sr ?_;refine vk (vbd Fc Bv BM) ?_
  refine stn ?_ An (by decide)
  refine rk [1,2] ?_;refine .ret ?_
  cases h
  exact ⟨_,⟨.inr rfl,AJ,An,p6⟩,rfl⟩
 refine cnf (dF hc) ?_;refine .sk ?_;refine .sr ?_;refine vk (vfa AQ) ?_;refine vk (Ai BF) ?_
 obtain ⟨x2,g2,h⟩:=bnd h
 obtain ⟨n2,p02,q2⟩:=Ae g2
 refine vk (vix n2 p02 (D1 q2) rfl DU) ?_;refine vk (AC Ac Aa) ?_
 obtain ⟨x3,g3,h⟩:=bnd h
 refine vk (Ak (PT g3) Tryz.call93) ?_;refine vk ((C6 (HX x3) (FQ [x3]) Gt).deep) ?_;refine vk (vbd Fc Bv BM) ?_
 refine stn ?_ An (by decide)
 refine rk [2] ?_;refine .ret ?_
 cases h
 exact ⟨_,⟨.inr rfl,AJ,An,p6⟩,rfl⟩
def En (a0:Arr) : Option (Itm):=((rd? a0.items 0).bind fun x1=>((Dx x1).bind fun x2=>(some (x2))))
theorem GA {a0:Arr} {r:Itm} (h:En a0=some r) :
  Fn Tryz.prog 53 [.ag [.sl (Is a0.shape),.sl (Its a0.items)]] (.d (.ag [.i .u8 r.kind,.b r.num.1,.sl (L r.num.2.1),.sl (L r.num.2.2),.i .i32 r.char,.sl (Ars r.box)])):=by
 unfold En at h
 refine Fn.ofC (rs:=[.cell 2 42]) (nt:=8) Tryz.func53 rfl rfl rfl (by simp) rfl ?_;refine .sr ?_;refine vk vbx ?_;refine vk (van (Aj Bv) BM) ?_;refine rk [1,2] ?_;refine .sr ?_;refine vk (vfa Au) ?_;refine vk (Ai Bp) ?_
 obtain ⟨x1,g1,h⟩:=bnd h
 obtain ⟨n1,p01,q1⟩:=Ae g1
 refine vk (vix n1 p01 (CJ q1) rfl CL) ?_;refine vk (AC AJ An) ?_
 obtain ⟨x2,g2,h⟩:=bnd h
 refine vk (Ak (GS g2) Tryz.call48) ?_
 refine stn ?_ An (by decide)
 refine rk [2] ?_;refine .ret ?_
 cases h
 exact ⟨_,⟨.inr rfl,AJ,An,p6⟩,rfl⟩
def B6 (a0:Itm) (K0:Int→Bool→(List Nat)→(List Nat)→Int→(List Arr)→Option (Itm)) : Nat→Int→Int→Bool→(List Nat)→(List Nat)→Int→(List Arr)→Option (Itm)
 | 0,_,_,_,_,_,_,_=>none
 | k+1,s8,s9,s10,s11,s12,s13,s14=>(if s8<((List.length a0.box:Nat):Int) then ((rd? a0.box s8).bind fun x15=>((Ex x15).bind fun x16=>((ap? 2932031007402 s14 [x16]).bind fun x17=>(B6 a0 K0 k (w64 (s8+1)) s9 s10 s11 s12 s13 x17)))) else (K0 s9 s10 s11 s12 s13 s14))
def DF (a0:Itm) : Option (Itm):=((DZ a0.num).bind fun x1=>(jn (fun (z2:Int) (z3:Bool) (z4:(List Nat)) (z5:(List Nat)) (z6:Int) (z7:(List Arr))=>(some ((Itm.mk z2 (z3,z4,z5) z6 z7)))) fun K0=>(B6 a0 K0 Aw 0 a0.kind x1.1 x1.2.1 x1.2.2 a0.char [])))
theorem Kp {a0:Itm} {r:Itm} (h:DF a0=some r) :
  Fn Tryz.prog 13 [.ag [.i .u8 a0.kind,.b a0.num.1,.sl (L a0.num.2.1),.sl (L a0.num.2.2),.i .i32 a0.char,.sl (Ars a0.box)]] (.d (.ag [.i .u8 r.kind,.b r.num.1,.sl (L r.num.2.1),.sl (L r.num.2.2),.i .i32 r.char,.sl (Ars r.box)])):=by
 unfold DF at h
 refine Fn.ofC (rs:=[.cell 2 42]) (nt:=32) Tryz.func13 rfl rfl rfl (by simp) rfl ?_;refine .sr ?_;refine vk vbx ?_;refine vk (van (Aj Bv) BM) ?_;refine rk [1,2] ?_;refine .seq ?_;refine .drawn 9 Bw (by kernel_rfl) ?_;refine dv (vfa B2) ?_;refine dv (Ai A7) ?_;refine dv (vfa Da) ?_;refine dv (Ai Dc) ?_;refine dv (vfa BX) ?_;refine dv (AC IS GI) ?_
 obtain ⟨x1,g1,h⟩:=bnd h
 refine dv (Ak (Hc g1) Tryz.call31) ?_;refine dv (Ur Fc Bv (fun w I μ=>PB w I μ)) ?_;refine dv (van (Aj Bv) BM) ?_;refine dz ?_
 refine TD ?_ An (by decide)
 refine rk [1,2,3] ?_;refine .seq ?_;refine .sr ?_;refine ar [1,2,3,4] ?_
 obtain ⟨K0,hK0,h⟩:=AF h
 refine AW.mr (σ:=Int×Bool×(List Nat)×(List Nat)×Int×(List Arr)) (fun p=>K0 p.1 p.2.1 p.2.2.1 p.2.2.2.1 p.2.2.2.2.1 p.2.2.2.2.2=some r) (fun p=>[(2,.nb [.i .u8 0,.b false,.sl (L []),.sl (L []),.i .i32 0,.sl (Ars [])]),(3,.bp 0 0)]) (fun p=>[HO.box [.d (.i .u8 p.1),.d (.b p.2.1),.d (.sl (L p.2.2.1)),.d (.sl (L p.2.2.2.1)),.d (.i .i32 p.2.2.2.2.1),.own 30 (Ars p.2.2.2.2.2)]]) ?_ ?_
 ·skip
  refine .block ?_;refine .gh (Gh.nlOwnC (id:=0) (off:=5) 30 (by rw [R6];decide)) ?_
  refine .loop (.gk [1,2,3,4] ?_)
  refine AL.ind (σ:=Nat×Int×Int×Bool×(List Nat)×(List Nat)×Int×(List Arr)) (m:=fun p=>p.1) (e:=fun p=>[(1,.d (.ptr [.i .u8 a0.kind,.b a0.num.1,.sl (L a0.num.2.1),.sl (L a0.num.2.2),.i .i32 a0.char,.sl (Ars a0.box)])),(2,.nb [.i .u8 0,.b false,.sl (L []),.sl (L []),.i .i32 0,.sl (Ars [])]),(3,.bp 0 0),(4,.d (.i .i64 p.2.1))]) (h:=fun p=>[HO.box [.d (.i .u8 p.2.2.1),.d (.b p.2.2.2.1),.d (.sl (L p.2.2.2.2.1)),.d (.sl (L p.2.2.2.2.2.1)),.d (.i .i32 p.2.2.2.2.2.2.1),.own 30 (Ars p.2.2.2.2.2.2.2)]]) (I:=fun p=>B6 a0 K0 p.1 p.2.1 p.2.2.1 p.2.2.2.1 p.2.2.2.2.1 p.2.2.2.2.2.1 p.2.2.2.2.2.2.1 p.2.2.2.2.2.2.2=some r) ?_ (Aw,0,a0.kind,x1.1,x1.2.1,x1.2.2,a0.char,[]) h
  rintro ⟨k,s8,s9,s10,s11,s12,s13,s14⟩ h ih
  dsimp only at h ih ⊢
  rcases k with _|k
  ·rw [B6] at h;cases h
  rw [B6] at h
  refine .seq ?_;refine .sr ?_;refine va ?_;refine vk (vfa AQ) ?_;refine vk (Ai BF) ?_;refine vk (A9 (Ba _) (Ea _) Eb) ?_;refine vb ?_;refine rk [1,2,3,4,17] ?_
  rcases brc h with ⟨hc,h⟩|⟨hc,h⟩
  ·refine cnt (dT hc) ?_
   refine .sk ?_;refine .seq ?_;refine .block ?_;refine .drawn 9 Bw (by kernel_rfl) ?_;refine dv (DX AQ) ?_;refine dv (LQ (cs:=[.d (.i .u8 s9),.d (.b s10),.d (.sl (L s11)),.d (.sl (L s12)),.d (.i .i32 s13),.own 30 (Ars s14)]) rfl rfl BF) ?_;refine dv (vfa AQ) ?_;refine dv (Ai BF) ?_;refine dv Ah ?_
   obtain ⟨x15,g15,h⟩:=bnd h
   obtain ⟨n15,p015,q15⟩:=Ae g15
   refine dv (vix n15 p015 (D1 q15) rfl DU) ?_;refine dv (AC Ac Aa) ?_
   obtain ⟨x16,g16,h⟩:=bnd h
   refine dv (Ak (F7 g16) Tryz.call4) ?_;refine dv ((C6 (HX x16) (FQ [x16]) Gt).deep) ?_;refine dz ?_
   obtain ⟨x17,g17,h⟩:=bnd h
   refine NY Pv g17 rfl rfl RG ?_ MC Ba Gt
   refine RL.gk [1,2,3,4,17,20,22,23,24,25,26,27,28,29] ?_;refine vk (DX AQ) ?_
   refine H6 (cs:=[.d (.i .u8 s9),.d (.b s10),.d (.sl (L s11)),.d (.sl (L s12)),.d (.i .i32 s13),.un]) (c:=.un) rfl rfl ?_ Rz
   refine .nil ?_;refine aw ?_;refine .gk [1,2,3,4] ?_;refine .region ?_;refine va ?_;refine vb ?_;refine asd ?_;refine .nil ?_;refine AL.gk [1,2,3,4] ?_
   exact ih (k,(w64 (s8+1)),s9,s10,s11,s12,s13,x17) h (Nat.lt_succ_self _)
  refine cnf (dF hc) ?_;refine .gk [2,3] ?_;refine .exit ?_
  exact jr (s9,s10,s11,s12,s13,s14) h
 rintro ⟨z2,z3,z4,z5,z6,z7⟩ h
 try dsimp only at h ⊢
 subst hK0
 refine aw ?_;refine .sr ?_;refine fz (p:=.c 0 5) ?_;refine vk (GT (cs:=[.d (.i .u8 z2),.d (.b z3),.d (.sl (L z4)),.d (.sl (L z5)),.d (.i .i32 z6),.d (.sl (Ars z7))]) (ds:=[.i .u8 z2,.b z3,.sl (L z4),.sl (L z5),.i .i32 z6,.sl (Ars z7)]) rfl AJ An) ?_
 refine stn ?_ An (by decide)
 refine rk [2] ?_;refine .ret ?_
 cases h
 exact ⟨_,⟨.inr rfl,AJ,An,p6⟩,rfl⟩
def Dp (a1:(List Itm)) (K0:Arr→Int→Option (Arr×Int)) : Nat→Arr→Int→Int→Option (Arr×Int)
 | 0,_,_,_=>none
 | k+1,s4,s5,s6=>(if s6<((List.length a1:Nat):Int) then ((rd? a1 s6).bind fun x7=>((D3 x7).bind fun x8=>(if x8=true then (Dp a1 K0 k s4 s5 (w64 (s6+1))) else (some ((Arr.mk [] []),22))))) else (K0 s4 s5))
def Cp (a1:(List Itm)) (x1:Int×Int) (K3:Arr→Int→(List Int)→(List Itm)→Option (Arr×Int)) : Nat→Arr→Int→Int→Int→(List Int)→(List Itm)→Option (Arr×Int)
 | 0,_,_,_,_,_,_=>none
 | k+1,s17,s18,s19,s20,s21,s22=>(if s20<x1.1 then ((E5 (((List.length a1:Nat):Int)≠0)).bind fun x23=>((rd? a1 (Int.tmod s20 ((List.length a1:Nat):Int))).bind fun x24=>((DF x24).bind fun x25=>(jn (fun (z26:Int)=>(if 16384<z26 then (some ((Arr.mk [] []),8)) else ((ap? 1466015503701 s22 [x25]).bind fun x29=>(Cp a1 x1 K3 k s17 s18 z26 (w64 (s20+1)) s21 x29)))) fun K5=>(if x25.kind=3 then ((rd? x25.box 0).bind fun x27=>((FO x27).bind fun x28=>(K5 (w64 ((w64 (s19+1))+x28))))) else (K5 (w64 (s19+1)))))))) else (K3 s17 s18 s21 s22))
def DY (a0:(List Int)) (a1:(List Itm)) : Option (Arr×Int):=((DQ a0).bind fun x1=>(if x1.2=0 then (if ((List.length a1:Nat) : Int)=0 then (some ((Arr.mk [] []),22)) else (jn (fun (z2:Arr) (z3:Int)=>((ap? 17592186044416 [] a0).bind fun x9=>(jn (fun (z10:(List Itm))=>(jn (fun (z13:Arr) (z14:Int) (z15:(List Int)) (z16:(List Itm))=>((BS (Arr.mk z15 z16)).bind fun x30=>(if x30=true then (some ((Arr.mk z15 z16),0)) else (some ((Arr.mk [] []),8))))) fun K3=>(Cp a1 x1 K3 Aw z2 z3 0 0 x9 z10))) fun K2=>(if x1.1=0 then ((rd? a1 0).bind fun x11=>((Dx x11).bind fun x12=>(K2 ([x12])))) else (K2 []))))) fun K0=>(Dp a1 K0 Aw (Arr.mk [] []) 0 0))) else (some ((Arr.mk [] []),x1.2))))
set_option maxHeartbeats 4000000 in
theorem Ha {a0:(List Int)} {a1:(List Itm)} {r:Arr×Int} (h:DY a0 a1=some r) :
  Fn Tryz.prog 18 [.sl (Is a0),.sl (Its a1)] (.tup [.d (.ag [.sl (Is r.1.shape),.sl (Its r.1.items)]),.d (.i .i64 r.2)]):=by
 unfold DY at h
 refine Fn.ofC (rs:=[.cell 4 30,.tmp 5]) (nt:=91) Tryz.func18 rfl rfl rfl (by simp) rfl ?_;refine .sr ?_;refine vk (van (Aj AD) AI) ?_;refine ar [0,1,4,5] ?_;refine .sr ?_;refine va ?_
 obtain ⟨x1,g1,h⟩:=bnd h
 refine vk (VOK.tupd (vs:=[.i .i64 x1.1,.i .i64 x1.2]) (Ak (FF g1) Tryz.call46)) ?_;refine va ?_;refine vk vex ?_;refine vk vex ?_;refine asd ?_;refine ar [0,1,4,5,6,7] ?_;refine .seq ?_;refine .sr ?_;refine va ?_;refine vb ?_;refine rk [0,1,4,5,6,7,19] ?_
 rcases brc h with ⟨hc,h⟩|⟨hc,h⟩
 ·refine cnf (ntf (dT hc)) ?_
  refine .sk ?_;refine .seq ?_;refine .sr ?_;refine va ?_;refine vk (A9 (Aq _) (CC _) Ce) ?_;refine vb ?_;refine rk [0,1,4,5,6,24] ?_
  rcases brc h with ⟨hc,h⟩|⟨hc,h⟩
  ·refine cnt (dT hc) ?_
   refine .sr ?_;refine vk (vbd CF AD AI) ?_
   refine stn ?_ Aa (by decide)
   refine ar [0,1,4,5,6] ?_;refine .ret ?_
   cases h
   exact ⟨_,_,⟨.inr rfl,Ac,Aa,p2⟩,rfl,rfl⟩
  refine cnf (dF hc) ?_;refine .sk ?_;refine .seq ?_;refine .sr ?_;refine ar [0,1,4,5,6,8] ?_
  obtain ⟨K0,hK0,h⟩:=AF h
  refine AW.mr (σ:=Arr×Int) (fun p=>K0 p.1 p.2=some r) (fun p=>[(0,.d (.sl (Is a0))),(1,.d (.sl (Its a1))),(4,.nb [.sl (Is p.1.shape),.sl (Its p.1.items)]),(5,.d (.i .i64 p.2)),(6,.d (.i .i64 x1.1))]) (fun p=>[]) ?_ ?_
  ·skip
   refine .block ?_
   refine .loop (.gk [0,1,4,5,6,8] ?_)
   refine AL.ind (σ:=Nat×Arr×Int×Int) (m:=fun p=>p.1) (e:=fun p=>[(0,.d (.sl (Is a0))),(1,.d (.sl (Its a1))),(4,.nb [.sl (Is p.2.1.shape),.sl (Its p.2.1.items)]),(5,.d (.i .i64 p.2.2.1)),(6,.d (.i .i64 x1.1)),(8,.d (.i .i64 p.2.2.2))]) (h:=fun p=>[]) (I:=fun p=>Dp a1 K0 p.1 p.2.1 p.2.2.1 p.2.2.2=some r) ?_ (Aw,(Arr.mk [] []),0,0) h
   rintro ⟨k,s4,s5,s6⟩ h ih
   dsimp only at h ih ⊢
   rcases k with _|k
   ·rw [Dp] at h;cases h
   rw [Dp] at h
   refine .seq ?_;refine .sr ?_;refine va ?_;refine va ?_;refine vk (A9 (Aq _) (CC _) Ce) ?_;refine vb ?_;refine rk [0,1,4,5,6,8,29] ?_
   rcases brc h with ⟨hc,h⟩|⟨hc,h⟩
   ·refine cnt (dT hc) ?_
    refine .sk ?_;refine .seq ?_;refine .block ?_;refine .sr ?_;refine va ?_;refine va ?_
    obtain ⟨x7,g7,h⟩:=bnd h
    obtain ⟨n7,p07,q7⟩:=Ae g7
    refine vk (vix n7 p07 (CJ q7) rfl CL) ?_;refine vk (AC AJ An) ?_
    obtain ⟨x8,g8,h⟩:=bnd h
    refine vk (Ak (JW g8) Tryz.call47) ?_;refine vk vnt ?_;refine rk [0,1,4,5,6,8,37] ?_
    rcases brc h with ⟨hc,h⟩|⟨hc,h⟩
    ·refine cnf (ntf hc) ?_
     refine .sk ?_;refine .region ?_;refine va ?_;refine vb ?_;refine asd ?_;refine .nil ?_;refine AL.gk [0,1,4,5,6,8] ?_
     exact ih (k,s4,s5,(w64 (s6+1))) h (Nat.lt_succ_self _)
    refine cnt (ntt (bf hc)) ?_;refine .sr ?_;refine vk (vbd CF AD AI) ?_
    refine stn ?_ Aa (by decide)
    refine ar [0,1,4,5,6,8] ?_;refine .ret ?_
    cases h
    exact ⟨_,_,⟨.inr rfl,Ac,Aa,p2⟩,rfl,rfl⟩
   refine cnf (dF hc) ?_;refine .gk [0,1,4,5,6] ?_;refine .exit ?_
   exact jr (s4,s5) h
  rintro ⟨z2,z3⟩ h
  try dsimp only at h ⊢
  subst hK0
  refine aw ?_;refine .sr ?_
  refine al ?_ (Aj AD) (fun w I μ=>Ji w I μ)
  refine rk [0,1,4,5,6,9] ?_;refine .sr ?_;refine vk (DX Ay) ?_
  refine ldb (cs:=[.nl,.nl]) (c:=.nl) rfl rfl ?_ Bh
  refine va ?_
  obtain ⟨x9,g9,h⟩:=bnd h
  refine Tt g9 IP ?_ F4 Af CX
  refine vk (DX Ay) ?_
  refine H6 (cs:=[.nl,.nl]) (c:=.nl) rfl rfl ?_ OV
  refine rk [1,4,5,6,9] ?_;refine .seq ?_;refine .sr ?_;refine va ?_;refine vb ?_;refine rk [1,4,5,6,9,45] ?_
  obtain ⟨K2,hK2,h⟩:=AF h
  refine AW.mr (σ:=(List Itm)) (fun p=>K2 p=some r) (fun p=>[(1,.d (.sl (Its a1))),(4,.nb [.sl (Is z2.shape),.sl (Its z2.items)]),(5,.d (.i .i64 z3)),(6,.d (.i .i64 x1.1)),(9,.bp 0 0)]) (fun p=>[HO.box [.own 3 (Is x9),.own 42 (Its p)]]) ?_ ?_
  ·skip
   rcases brc h with ⟨hc,h⟩|⟨hc,h⟩
   ·refine cnt (dT hc) ?_
    refine .region ?_;refine va ?_
    obtain ⟨x11,g11,h⟩:=bnd h
    obtain ⟨n11,p011,q11⟩:=Ae g11
    refine vk (vix n11 p011 (CJ q11) rfl CL) ?_;refine vk (AC AJ An) ?_
    obtain ⟨x12,g12,h⟩:=bnd h
    refine vk (Ak (GS g12) Tryz.call48) ?_;refine vk (C6 (Cz x12) (BW [x12]) BA) ?_;refine vk (DX Au) ?_
    refine H6 (cs:=[.own 3 (Is x9),.nl]) (c:=.nl) rfl rfl ?_ Ib
    refine RL.gk [1,4,5,6,9] ?_;refine .nil ?_
    exact jr ([x12]) h
   refine cnf (dF hc) ?_;refine .gh (Gh.nlOwnC (id:=0) (off:=1) 42 (by rw [G8];decide)) ?_;refine .gk [1,4,5,6,9] ?_;refine .skip ?_
   exact jr ([]) h
  rintro z10 h
  try dsimp only at h ⊢
  subst hK2
  refine aw ?_;refine .sr ?_;refine ar [1,4,5,6,9,10] ?_;refine .seq ?_;refine .sr ?_;refine ar [1,4,5,6,9,10,11] ?_
  obtain ⟨K3,hK3,h⟩:=AF h
  refine AW.mr (σ:=Arr×Int×(List Int)×(List Itm)) (fun p=>K3 p.1 p.2.1 p.2.2.1 p.2.2.2=some r) (fun p=>[(4,.nb [.sl (Is p.1.shape),.sl (Its p.1.items)]),(5,.d (.i .i64 p.2.1)),(9,.bp 0 0)]) (fun p=>[HO.box [.own 3 (Is p.2.2.1),.own 42 (Its p.2.2.2)]]) ?_ ?_
  ·skip
   refine .block ?_
   refine .loop (.gk [1,4,5,6,9,10,11] ?_)
   refine AL.ind (σ:=Nat×Arr×Int×Int×Int×(List Int)×(List Itm)) (m:=fun p=>p.1) (e:=fun p=>[(1,.d (.sl (Its a1))),(4,.nb [.sl (Is p.2.1.shape),.sl (Its p.2.1.items)]),(5,.d (.i .i64 p.2.2.1)),(6,.d (.i .i64 x1.1)),(9,.bp 0 0),(10,.d (.i .i64 p.2.2.2.1)),(11,.d (.i .i64 p.2.2.2.2.1))]) (h:=fun p=>[HO.box [.own 3 (Is p.2.2.2.2.2.1),.own 42 (Its p.2.2.2.2.2.2)]]) (I:=fun p=>Cp a1 x1 K3 p.1 p.2.1 p.2.2.1 p.2.2.2.1 p.2.2.2.2.1 p.2.2.2.2.2.1 p.2.2.2.2.2.2=some r) ?_ (Aw,z2,z3,0,0,x9,z10) h
   rintro ⟨k,s17,s18,s19,s20,s21,s22⟩ h ih
   dsimp only at h ih ⊢
   rcases k with _|k
   ·rw [Cp] at h;cases h
   rw [Cp] at h
   refine .seq ?_;refine .sr ?_;refine va ?_;refine va ?_;refine vb ?_;refine rk [1,4,5,6,9,10,11,54] ?_
   rcases brc h with ⟨hc,h⟩|⟨hc,h⟩
   ·refine cnt (dT hc) ?_
    refine .sk ?_;refine .seq ?_;refine .block ?_;refine .sr ?_;refine va ?_;refine va ?_;refine va ?_;refine vk (A9 (Aq _) (CC _) Ce) ?_
    obtain ⟨x23,g23,h⟩:=bnd h
    refine vk (NK (EP g23)) ?_
    obtain ⟨x24,g24,h⟩:=bnd h
    obtain ⟨n24,p024,q24⟩:=Ae g24
    refine vk (vix n24 p024 (CJ q24) rfl CL) ?_;refine vk (AC AJ An) ?_
    obtain ⟨x25,g25,h⟩:=bnd h
    refine vk (Ak (Kp g25) Tryz.call13) ?_;refine vk (van (Aj Bv) BM) ?_
    refine stn ?_ An (by decide)
    refine RL.gh (Gh.nbp (t:=12) rfl) ?_;refine rk [1,4,5,6,9,10,11,12] ?_;refine .sr ?_;refine va ?_;refine vb ?_;refine ar [1,4,5,6,9,10,11,12] ?_;refine .seq ?_;refine .sr ?_;refine vk (vfa B2) ?_;refine vk (Ai A7) ?_;refine vb ?_;refine rk [1,4,5,6,9,10,11,12,69] ?_
    obtain ⟨K5,hK5,h⟩:=AF h
    refine AW.mr (σ:=Int) (fun p=>K5 p=some r) (fun p=>[(1,.d (.sl (Its a1))),(4,.nb [.sl (Is s17.shape),.sl (Its s17.items)]),(5,.d (.i .i64 s18)),(6,.d (.i .i64 x1.1)),(9,.bp 0 0),(10,.d (.i .i64 p)),(11,.d (.i .i64 s20)),(12,.d (.ptr [.i .u8 x25.kind,.b x25.num.1,.sl (L x25.num.2.1),.sl (L x25.num.2.2),.i .i32 x25.char,.sl (Ars x25.box)]))]) (fun p=>[HO.box [.own 3 (Is s21),.own 42 (Its s22)]]) ?_ ?_
    ·skip
     rcases brc h with ⟨hc,h⟩|⟨hc,h⟩
     ·refine cnt (dT hc) ?_
      refine .region ?_;refine va ?_;refine vk (vfa AQ) ?_;refine vk (Ai BF) ?_
      obtain ⟨x27,g27,h⟩:=bnd h
      obtain ⟨n27,p027,q27⟩:=Ae g27
      refine vk (vix n27 p027 (D1 q27) rfl DU) ?_;refine vk (AC Ac Aa) ?_
      obtain ⟨x28,g28,h⟩:=bnd h
      refine vk (Ak (MN g28) Tryz.call49) ?_;refine vb ?_;refine asd ?_;refine RL.gk [1,4,5,6,9,10,11,12] ?_;refine .nil ?_
      exact jr ((w64 ((w64 (s19+1))+x28))) h
     refine cnf (dF hc) ?_;refine .gk [1,4,5,6,9,10,11,12] ?_;refine .skip ?_
     exact jr ((w64 (s19+1))) h
    rintro z26 h
    try dsimp only at h ⊢
    subst hK5
    refine aw ?_;refine .seq ?_;refine .sr ?_;refine va ?_;refine vb ?_;refine rk [1,4,5,6,9,10,11,12,78] ?_
    rcases brc h with ⟨hc,h⟩|⟨hc,h⟩
    ·refine cnt (dT hc) ?_
     refine .sr ?_;refine vk (vbd CF AD AI) ?_
     refine stn ?_ Aa (by decide)
     refine ar [1,4,5,6,9,10,11,12] ?_;refine .ret ?_
     cases h
     exact ⟨_,_,⟨.inr rfl,Ac,Aa,p2⟩,rfl,rfl⟩
    refine cnf (dF hc) ?_;refine .sk ?_;refine .region ?_;refine vk (DX Au) ?_
    refine Sp (cs:=[.own 3 (Is s21),.own 42 (Its s22)]) rfl rfl ?_ Bp
    refine vk (AC AJ An) ?_;refine vk ((C6 (Cz x25) (BW [x25]) BA).deep) ?_
    obtain ⟨x29,g29,h⟩:=bnd h
    refine NY Ew g29 rfl rfl Fk ?_ Ee Aq BA
    refine RL.gk [1,4,5,6,9,10,11,12,78,80,82,83,84] ?_;refine vk (DX Au) ?_
    refine H6 (cs:=[.own 3 (Is s21),.un]) (c:=.un) rfl rfl ?_ Ib
    refine .nil ?_;refine aw ?_;refine .gk [1,4,5,6,9,10,11] ?_;refine .region ?_;refine va ?_;refine vb ?_;refine asd ?_;refine .nil ?_;refine AL.gk [1,4,5,6,9,10,11] ?_
    exact ih (k,s17,s18,z26,(w64 (s20+1)),s21,x29) h (Nat.lt_succ_self _)
   refine cnf (dF hc) ?_;refine .gk [4,5,9] ?_;refine .exit ?_
   exact jr (s17,s18,s21,s22) h
  rintro ⟨z13,z14,z15,z16⟩ h
  try dsimp only at h ⊢
  subst hK3
  refine aw ?_;refine .seq ?_;refine .sr ?_;refine fz (p:=.c 0 0) ?_;refine fz (p:=.c 0 1) ?_;refine vk (GT (cs:=[.d (.sl (Is z15)),.d (.sl (Its z16))]) (ds:=[.sl (Is z15),.sl (Its z16)]) rfl Ac Aa) ?_
  obtain ⟨x30,g30,h⟩:=bnd h
  refine vk (Ak (Cu g30) Tryz.call44) ?_;refine vk vnt ?_;refine rk [4,5,9,88] ?_
  rcases brc h with ⟨hc,h⟩|⟨hc,h⟩
  ·refine cnf (ntf hc) ?_
   refine .sk ?_;refine .sr ?_;refine vk (GT (cs:=[.d (.sl (Is z15)),.d (.sl (Its z16))]) (ds:=[.sl (Is z15),.sl (Its z16)]) rfl Ac Aa) ?_
   refine stn ?_ Aa (by decide)
   refine ar [4,5] ?_;refine .ret ?_
   cases h
   exact ⟨_,_,⟨.inr rfl,Ac,Aa,p2⟩,rfl,rfl⟩
  refine cnt (ntt (bf hc)) ?_;refine .sr ?_;refine vk (vbd CF AD AI) ?_
  refine stn ?_ Aa (by decide)
  refine ar [4,5,9] ?_;refine .ret ?_
  cases h
  exact ⟨_,_,⟨.inr rfl,Ac,Aa,p2⟩,rfl,rfl⟩
 refine cnt (ntt (dF hc)) ?_;refine .sr ?_;refine vk (vbd CF AD AI) ?_;refine va ?_
 refine stn ?_ Aa (by decide)
 refine ar [0,1,4,5,6] ?_;refine .ret ?_
 cases h
 exact ⟨_,_,⟨.inr rfl,Ac,Aa,p2⟩,rfl,rfl⟩
theorem LV (x:Itm) (K:Int→Bool→List Nat→List Nat→Int→List Arr→Option Itm) : ∀ (k:Nat) (i s1:Int) (s2:Bool) (s3 s4:List Nat) (s5:Int) (t:List Arr),B6 x K k i s1 s2 s3 s4 s5 t=Bq Ex x K k i s1 s2 s3 s4 s5 t
 | 0,_,_,_,_,_,_,_=>rfl
 | k+1,i,s1,s2,s3,s4,s5,t=>by
  rw [B6,Bq]
  simp only [LV x K k]
theorem N2 {x:Itm} (ho:okI x) : DF x=some x:=by
 have e:DF x=C3 Ex x:=by
  unfold DF C3
  simp only [LV]
 rw [e]
 exact S0 ho fun a ha=>Jt (((C5 x).1 ho).2.2.2.2 a ha)
theorem RN {a:Arr} (oa:okAr a) (ra:AB a) : FO a=some ((cA a:Nat) : Int):=by
 obtain ⟨b,d,c,h1,h2,h3⟩:=NG _ (Nat.lt_succ_self _) oa 0 16384 (by omega) (by omega) (by omega)
 have hb:b=true:=h3 ra.1 (by have:=ra.2.1;omega) (by omega) (by have:=ra.2.2;omega)
 obtain ⟨_,_,q3,_⟩:=h2 hb
 unfold FO
 rw [GF oa,oB,dT ra,if_pos rfl]
 unfold Fa
 rw [show ((0:Nat):Int)=0 from rfl] at h1
 rw [h1,oB,q3]
theorem S3 {rc:Arr→Option Arr} {x:Itm} (hr:rI x=true) (hrc:∀ a∈x.box,rc a=some (tyA a)) : DG rc x=some (tyI x):=by
 unfold DG
 rw [YN]
 rcases FX hr with ⟨k,_⟩|⟨k,_⟩|⟨k,_,_,a,h,_⟩
 ·rw [if_pos k,if_pos k,Qq];rfl
 ·rw [if_neg (by omega),if_pos k,if_neg (by omega),if_pos k]
 ·rw [if_neg (by omega),if_neg (by omega),if_neg (by omega),if_neg (by omega),h,show rd? [a] 0=some a from rfl,oB,hrc a (by simp [h])]
  cases x with
  | mk kk n c b =>
   have hb:b=[a]:=h
   subst hb
   simp [tyBs,Itm.box]
theorem LO {rc:Arr→Option Arr} {a:Arr} (hr:∀ x∈a.items,rI x=true) (hrc:∀ x∈a.items,∀ b∈x.box,rc b=some (tyA b)) (K:List Int→List Itm→Option Arr) (hl:a.items.length≤1466015503701) : ∀ (n i k:Nat) (s:List Int) (t:List Itm),n=a.items.length-i→i≤a.items.length→n<k→t.length=i →
  Di rc a K k (i:Int) s t=K s (t++(a.items.drop i).map tyI)
 | n,i,0,s,t,_,_,h,_=>by omega
 | n,i,k+1,s,t,hn,hi,hk,ht=>by
  rw [Di]
  by_cases hlt:i<a.items.length
  ·have hm:=List.getElem_mem hlt
   rw [if_pos (by omega),AY hlt,oB,S3 (hr _ hm) (hrc _ hm),oB,Dw (by simp;omega),oB,A4 (by omega),
    LO hr hrc K hl (n-1) (i+1) k s _ (by omega) (by omega) (by omega) (by simp [ht]),lC hlt,List.map_cons,List.append_assoc]
   rfl
  ·rw [if_neg (by omega),List.drop_of_length_le (by omega)];simp
theorem Vr {a:Arr} (h:rA a=true) : ∀ x∈a.items,rI x=true:=fun x hx=>by
 rw [HG] at h
 simp only [Bool.and_eq_true] at h
 have:∀ xs:List Itm,rIs xs=true→∀ x∈xs,rI x=true:=fun xs=>by
  induction xs with
  | nil=>intro _ x hx;cases hx
  | cons y ys ih =>
   intro h x hx
   rw [rIs,Bool.and_eq_true] at h
   rcases List.mem_cons.1 hx with rfl|hx
   ·exact h.1
   ·exact ih h.2 x hx
 exact this _ h.2.2 x hx
theorem P8 : ∀ (k:Nat) {a:Arr},a.size<k→okAr a→rA a=true→Et k a=some (tyA a)
 | 0,_,h,_,_=>by omega
 | k+1,a,h,oa,ra=>by
  have o:=(AK a).1 oa
  have hi:=Vr ra
  rw [Et,Gl,Dw (by simpa using o.2.1),oB,List.nil_append,A3]
  have:=LO (rc:=Et k) hi (fun x hx b hb=>by
   rcases FX (hi x hx) with ⟨_,_,_,q⟩|⟨_,_,_,q⟩|⟨_,_,_,c,q,_,q3⟩
   ·rw [q] at hb;cases hb
   ·rw [q] at hb;cases hb
   ·have hbc:b=c:=by rw [q] at hb;exact List.mem_singleton.1 hb
    subst hbc
    exact P8 k (by have:=GM hx;have:=FS hb;omega) (((C5 x).1 (o.2.2.2 x hx)).2.2.2.2 b hb) q3) (fun z2 z3=>some (Arr.mk z2 z3)) o.2.2.1 a.items.length 0 Aw a.shape [] rfl (Nat.zero_le _) (AS (by omega)) rfl
  rw [List.drop_zero,show ((0:Nat):Int)=0 from rfl,List.nil_append] at this
  rw [this,H9]
theorem JF {x:Itm} (ho:okI x) (hr:rI x=true) : Dx x=some (tyI x):=by
 have e:Dx x=DG Ls x:=rfl
 rw [e]
 refine S3 hr fun a ha=>?_
 rcases FX hr with ⟨_,_,_,q⟩|⟨_,_,_,q⟩|⟨_,_,_,c,q,_,q3⟩
 ·rw [q] at ha;cases ha
 ·rw [q] at ha;cases ha
 ·have hac:a=c:=by rw [q] at ha;exact List.mem_singleton.1 ha
  subst hac
  exact P8 _ (Nat.lt_succ_self _) (((C5 x).1 ho).2.2.2.2 a ha) q3
theorem MU {a:Arr} (oa:okAr a) (ra:AB a) : En a=some (tyI (a.items.headD default)):=by
 have hp:=Fj ra
 unfold En
 match hi:a.items,hp with
 | x::xs,_ =>
  have hx:x∈a.items:=by rw [hi];simp
  have h:=CO oa ra hx
  rw [show rd? (x::xs) 0=some x from SD (i:=0) rfl,oB,JF h.1 h.2.1];rfl
end Go.FL
namespace Go.FL
open Go Go.RowKit
def FnN (P:Program) (f:FuncId) (args:List DV) (r:AV) : Prop :=
 ∀ (w:World) (I:Nat→Prop) (vs:List Value),(∀ b,I b→b<w.heap.size)→RepAll w I args vs →
  CallsIn (om none) 0 P f (Value.slice none 0 0::vs).toArray w fun e w'=>∃ v I' bs,e=.returned v∧Below w.heap.size w w'∧(∀ b,I b→I' b) ∧
   (∀ b,I' b→b<w'.heap.size∧(b<w.heap.size→I b))∧ARep P w' I' [] r v bs∧bs.Nodup∧∀ b∈bs,w.heap.size≤b∧b<w'.heap.size∧¬I' b
section
variable {P:Program} {H:Ad}
def Zn (P:Program) (f:FuncId) (e:TypeId) (M:Nat) : Prop:=∀ (n:Nat) (w:World),n≤M →
 Calls P f #[.slice none 0 0,.int .i64 n] w fun x w'=>(x=.returned (.slice none 0 0)∧w'=w) ∨
  (∃ (cap:Nat) (cells:Array Value),0<cap∧cap≤maxLen∧cells.size=cap * AN P e∧x=.returned (.slice (some ⟨w.heap.size,0,none⟩) 0 cap)∧w'=w.drew.alloc (.cells cells e))
theorem FnN.grow {f e M:Nat} (hsz:0<AN P e) (h:Zn P f e M) {n:Nat} (hn:n≤M) : FnN P f [.i .i64 n] (.own e []):=by
 intro w I vs hI ha
 have hvs:vs=[.int .i64 n]:=by
  cases ha with
  | cons h1 ha=>cases ha;cases h1;rfl
 subst hvs
 rw [Wr]
 refine callsIn_wide.2 ((h n w hn).mono fun x w' hx=>?_)
 rcases hx with ⟨rfl,rfl⟩|⟨cap,cells,h0,hm,hc,rfl,rfl⟩
 ·refine ⟨_,I,[],rfl,Below.refl _ _,fun _ h=>h,fun b hb=>⟨hI b hb,fun _=>hb⟩,?_,nN,nofun⟩
  exact .own e [] (.slice none 0 0) [] hsz (.inl ⟨none,rfl,rfl,rfl⟩) (.nil _)
 ·have hlt:w.heap.size<(w.drew.alloc (.cells cells e)).heap.size:=(Array.getElem?_eq_some_iff.1 (heap_alloc_new w.drew (.cells cells e))).1
  have ho:OwnR (w.drew.alloc (.cells cells e)) e (AN P e) (.slice (some ⟨w.heap.size,0,none⟩) 0 cap) 0 []:=by
   refine .inr ⟨⟨by simp,.inr ⟨w.heap.size,cap,cells,rfl,Nat.zero_le _,heap_alloc_new w.drew _,Nat.zero_le _,hm,hc,by simp⟩⟩,w.heap.size,cap,rfl,h0⟩
  refine ⟨_,I,[w.heap.size],rfl,?_,fun _ h=>h,fun b hb=>⟨Nat.lt_trans (hI b hb) hlt,fun _=>hb⟩,?_,by simp,fun b hb=>?_⟩
  ·exact ((Below.refl _ w).drew).alloc (Nat.le_refl _) _
  ·have:[w.heap.size]=B0 (.slice (some ⟨w.heap.size,0,none⟩) 0 cap):=by simp [B0,Nat.pos_iff_ne_zero.1 h0]
   rw [this]
   exact .own e [] _ [] hsz ho (.nil _)
  ·rw [List.mem_singleton] at hb
   subst hb
   exact ⟨Nat.le_refl _,hlt,fun hi=>by have:=hI _ hi;omega⟩
end
section
variable {P:Program} {C:Cx} {o:Oper} {ops:Array Oper} {Q:Exit→Env→Ad→Prop} {env:Env} {H:Ad} {k:Nat} {l:List Oper}
theorem Mu {α:Type} {F:List α→List DV} {D:α→DV} (hset:∀ xs n x,(F xs).set n (D x)=F (xs.set n x)) {us:List α} {n m:Nat} {x:α} {y:Operand} {r ty e:Nat} {p:Pl} (hm:m=n) (hx:∃ z,(F us)[0+n]?=some z∧z.leaf=true)
  (h:RL P C ops Q (k+1) l (Px p (.own e (F (us.set m x))) env) (T9 p (.own e (F (us.set m x))) H)) (hsz:AN P ty=1)
  (hg:grd ops env o true=true:=by rfl) (ho:o.op=.store ty (.tmp r) y:=by rfl) (hv:get env r=.ep p (0+n) 0:=by rfl) (hp:A1 env H p=.own e (F us):=by rfl) (hy:lk env y=.d (D x):=by rfl) (h1:(D x).leaf=true:=by rfl) (hd:o.dst=none:=by rfl)
  (hn:∀ id off,p=.c id off→C.n0≤id:=by (intro _ _ h;cases h<;>decide)):RL P C ops Q k (o::l) env H:=by
 subst hm
 exact ste hx (by rw [Nat.zero_add,hset];exact h) hsz hg ho hv hp hy h1 hd hn
end
end Go.FL
namespace Go.FL
open Go Go.RowKit
section
variable {P:Program} {C:Cx} {X:Snap} {o:Oper} {ops:Array Oper} {Q:Exit→Env→Ad→Prop} {env env':Env} {H H':Ad} {a:Act} {w w':World} {I I':Nat→Prop} {μ μ':List Nat} {O O':Nat→Option Loc}
 {K:Env→Ad→Prop} {k:Nat} {l:List Oper}
theorem ZQ {ty:Nat} (ho:o.op=.makeMap ty none:=by rfl) : VOK P C o env H (.om [] []) :=
 .val (by simp [ho]) fun X a w I μ O _ _ _ hs =>
  ⟨.map (some w.heap.size),w.alloc (.map #[] 0),I,[w.heap.size],by simp [execOp,ho,Instr.makeMap,newObj,Sem.run],Bu _,fun b hi=>hi,fun b hi=>⟨nL (hs.ilt b hi) (Bu _).size,fun _=>hi⟩,
   ARep.om [] [] [] [] w.heap.size #[] 0 (heap_alloc_new w _) .nil .nil (List.Perm.refl _) rfl,by simp,fun b hb=>by
    simp at hb;subst hb
    exact ⟨Nat.le_refl _,by simp,fun hi=>by have:=hs.ilt _ hi;omega⟩⟩
def freshK (q:IntKind) (z:Int) (ks:List DV) : Prop:=∀ k∈ks,∃ z',k=.i q z'∧z'≠z
theorem Tb {α β:Type} : ∀ {ks:List α} {vs:List β} {x:α},ks.length=vs.length→x∈ks→∃ v,(x,v)∈ks.zip vs
 | k::ks,v::vs,x,hl,h=>by
  rcases List.mem_cons.1 h with rfl|h
  ·exact ⟨v,by simp⟩
  ·obtain ⟨u,hu⟩:=Tb (ks:=ks) (vs:=vs) (by simpa using hl) h
   exact ⟨u,by simp [hu]⟩
theorem Lb {q:IntKind} {z:Int} {ty:TypeDesc} (hty:ty=.int q) : ∀ {es:List MapEntry} {ks:List DV} (n:Nat),RepAll w I ks (es.map MapEntry.key)→freshK q z ks→Instr.findNow ty (.int q z) es n=some none
 | [],_,n,_,_=>rfl
 | e::es,ks,n,hk,hf=>by
  subst hty
  cases hk with
  | @cons c _ cs _ h t =>
   obtain ⟨z',rfl,hz⟩:=hf c (by simp)
   have he:e.key=.int q z':=by
    generalize e.key=u at h
    cases h;rfl
   have hs:Instr.sameNow (.int q) (.int q z) e.key=some false:=by
    rw [he];simp [Instr.sameNow];exact fun h=>hz h.symm
   simp only [Instr.findNow,hs]
   exact Lb rfl (n+1) t fun k hk=>hf k (by simp [hk])
theorem Oj {q:IntKind} {z:Int} {ty:TypeDesc} (hty:ty=.int q) {d:DV} : ∀ {es:List MapEntry} {ks vs:List DV} (n:Nat),RepAll w I ks (es.map MapEntry.key)→RepAll w I vs (es.map MapEntry.val) →
  (∀ k∈ks,∃ z',k=.i q z')→(.i q z,d)∈ks.zip vs→(∀ d',(.i q z,d')∈ks.zip vs→d'=d)→∃ i v,Instr.findNow ty (.int q z) es n=some (some (i,v))∧Rep w I d v
 | [],_,_,n,hk,_,_,hm,_=>by cases hk;simp at hm
 | e::es,ks,vs,n,hk,hv,hi,hm,hu=>by
  subst hty
  cases hk with
  | @cons c _ cs _ h t =>
   cases hv with
   | @cons c2 _ cs2 _ h2 t2 =>
    obtain ⟨z',rfl⟩:=hi c (by simp)
    have he:e.key=.int q z':=by
     generalize e.key=u at h
     cases h;rfl
    by_cases hz:z=z'
    ·subst hz
     have hs:Instr.sameNow (.int q) (.int q z) e.key=some true:=by rw [he];simp [Instr.sameNow]
     refine ⟨n,e.val,by simp only [Instr.findNow,hs],?_⟩
     have:=hu c2 (by simp)
     subst this;exact h2
    ·have hs:Instr.sameNow (.int q) (.int q z) e.key=some false:=by rw [he];simp [Instr.sameNow];exact hz
     simp only [Instr.findNow,hs]
     refine Oj rfl (n+1) t t2 (fun k hk=>hi k (by simp [hk])) ?_ (fun d' hd=>hu d' (by simp [hd]))
     simp only [List.zip_cons_cons,List.mem_cons,Prod.mk.injEq,DV.i.injEq,true_and] at hm
     rcases hm with ⟨h3,_⟩|hm
     ·exact absurd h3 hz
     ·exact hm
theorem Ld {kt:TypeId} {q:IntKind} {z:Int} (hk:P.underlying kt=some (.int q)) (b:Bool) (n:Nat) : (Instr.checkKey b (n+1) kt (.int q z)).run P w=.ok () w:=by
 unfold Instr.checkKey
 simp [run_underlying hk]
theorem IR {kt:TypeId} {q:IntKind} {z:Int} {es:List MapEntry} {r:Option (Nat×Value)} (hk:P.underlying kt=some (.int q)) (hf:Instr.findNow (.int q) (.int q z) es 0=some r) : (Instr.findKey kt (.int q z) es).run P w=.ok r w:=by
 simp [Instr.findKey,run_underlying hk,hf]
theorem PH {r:Nat} {es:Array MapEntry} {c:Nat} (hh:w.heap[r]?=some (.map es c)) : (getObj r).run P w=.ok (.map es c) w:=by
 simp [getObj,Sem.run,hh]
theorem R4 {ty kt et:TypeId} {q:IntKind} {r:Nat} {es:Array MapEntry} {clock:Nat} {z:Int} {v:Value} (hu:P.underlying ty=some (.map kt et)) (hk:P.underlying kt=some (.int q)) (hh:w.heap[r]?=some (.map es clock)) (hf:Instr.findNow (.int q) (.int q z) es.toList 0=some none) :
  (Instr.mapUpdate ty (.map (some r)) (.int q z) v).run P w=.ok () {w with heap:=w.heap.setIfInBounds r (.map (es.push {key:=.int q z,val:=v,born:=clock}) (clock+1))}:=by
 have h1:=Ld (w:=w) (z:=z) hk false 9999
 have h2:=IR (w:=w) (z:=z) hk hf
 have h3:=PH (P:=P) hh
 unfold Instr.mapUpdate
 simp only [run_underlying hu,Sem.run_bind,Result.andThen_ok,h1,h2,h3]
 simp [setObj,Sem.run,hh]
theorem NM {ty kt et:TypeId} {q:IntKind} {r:Nat} {es:Array MapEntry} {clock:Nat} {z:Int} {i:Nat} {v:Value} (hu:P.underlying ty=some (.map kt et)) (hk:P.underlying kt=some (.int q)) (hh:w.heap[r]?=some (.map es clock)) (hf:Instr.findNow (.int q) (.int q z) es.toList 0=some (some (i,v))) :
  (Instr.lookup ty (.map (some r)) (.int q z) false).run P w=.ok v w:=by
 have h1:=Ld (w:=w) (z:=z) hk es.isEmpty 9999
 have h2:=IR (w:=w) (z:=z) hk hf
 have h3:=PH (P:=P) hh
 unfold Instr.lookup
 simp only [run_underlying hu,Sem.run_bind,Sem.run_pure,Result.andThen_ok,h1,h2,h3]
 rfl
theorem Mb {ty kt et:TypeId} {q:IntKind} {r:Nat} {es:Array MapEntry} {clock:Nat} {z:Int} {v:Value} (hu:P.underlying ty=some (.map kt et)) (hk:P.underlying kt=some (.int q)) (hz:(zeroValue et).run P w=.ok v w) (hh:w.heap[r]?=some (.map es clock)) (hf:Instr.findNow (.int q) (.int q z) es.toList 0=some none) :
  (Instr.lookup ty (.map (some r)) (.int q z) false).run P w=.ok v w:=by
 have h1:=Ld (w:=w) (z:=z) hk es.isEmpty 9999
 have h2:=IR (w:=w) (z:=z) hk hf
 have h3:=PH (P:=P) hh
 unfold Instr.lookup
 simp only [run_underlying hu,Sem.run_bind,Sem.run_pure,Result.andThen_ok,h1,h2,h3,hz]
 rfl
theorem Lt {ks vs ks' vs':List DV} (hp:(ks'.zip vs').Perm (ks.zip vs)) (hl:ks'.length=vs'.length) {k:DV} (h:k∈ks') : k∈ks:=by
 obtain ⟨v,hv⟩:=Tb hl h
 exact (List.of_mem_zip (hp.mem_iff.1 hv)).1
theorem Sim.om_inv (hs:Sim P X env H a w I μ O) {t:Nat} {ks vs:List DV} (hg:get env t=.om ks vs) :
  ∃ blk es c ks' vs',a.tmps.getD t undef=.map (some blk)∧w.heap[blk]?=some (.map es c)∧RepAll w I ks' (es.toList.map MapEntry.key)∧RepAll w I vs' (es.toList.map MapEntry.val)∧(ks'.zip vs').Perm (ks.zip vs)∧ks.length=vs.length∧O blk=some (.t t):=by
 have:=hs.envr t
 rw [hg] at this
 obtain ⟨bs,h1,h2,h3⟩:=this.plain rfl
 generalize a.tmps.getD t undef=v at h1
 cases h1 with
 | om _ _ ks' vs' blk es c hh hk hv hp hl=>exact ⟨blk,es,c,ks',vs',rfl,hh,hk,hv,hp,hl,h3 blk (by simp)⟩
theorem Sim.ins (hs:Sim P X env H a w I μ O) {t:Nat} {ks vs:List DV} (hg:get env t=.om ks vs) {ty kt et:TypeId} {q:IntKind} {z:Int} {d:DV} {v:Value} (hu:P.underlying ty=some (.map kt et)) (hk:P.underlying kt=some (.int q)) (hf:freshK q z ks) (hv:Rep w I d v) :
  ∃ w',(Instr.mapUpdate ty (a.tmps.getD t undef) (.int q z) v).run P w=.ok () w'∧Sim P X ((t,.om (ks++[.i q z]) (vs++[d]))::env) H a w' I μ O:=by
 obtain ⟨blk,es,c,ks',vs',h1,h2,h3,h4,h5,h6,hO⟩:=hs.om_inv hg
 have hl':ks'.length=vs'.length:=by rw [h3.length,h4.length,List.length_map,List.length_map]
 have hfn:=Lb (q:=q) (z:=z) rfl 0 h3 fun k hk=>hf k (Lt h5 hl' hk)
 have hlt:blk<w.heap.size:=(hs.own blk _ hO).1
 refine ⟨{w with heap:=w.heap.setIfInBounds blk (.map (es.push {key:=.int q z,val:=v,born:=c}) (c+1))},by rw [h1];exact R4 hu hk h2 hfn,?_⟩
 have hoth:∀ b,b≠blk→(w.heap.setIfInBounds blk (.map (es.push {key:=.int q z,val:=v,born:=c}) (c+1)))[b]?=w.heap[b]?:=fun b hb=>by
  rw [Array.getElem?_setIfInBounds,if_neg (Ne.symm hb)]
 obtain ⟨n1,_,_⟩:=hs.other_blk hO
 refine hs.blkSet (w':={w with heap:=w.heap.setIfInBounds blk (.map (es.push {key:=.int q z,val:=v,born:=c}) (c+1))}) (av:=.om (ks++[.i q z]) (vs++[d])) hO (by rw [hg];rfl) rfl hoth (by simp) rfl rfl rfl ?_
 rw [h1]
 have hI:∀ b,I b→(w.heap.setIfInBounds blk (.map (es.push {key:=.int q z,val:=v,born:=c}) (c+1)))[b]?=w.heap[b]?:=fun b hi=>hoth b (n1 b hi)
 refine .om _ _ (ks'++[.i q z]) (vs'++[d]) blk (es.push {key:=.int q z,val:=v,born:=c}) (c+1) ?_ ?_ ?_ ?_ (by simp [h6])
 ·show (w.heap.setIfInBounds blk _)[blk]?=_
  rw [Array.getElem?_setIfInBounds,if_pos rfl,if_pos hlt]
 ·rw [Array.toList_push,List.map_append]
  exact (h3.keep hI fun _ h=>h).append (.cons (.i _ _) .nil)
 ·rw [Array.toList_push,List.map_append]
  exact (h4.keep hI fun _ h=>h).append (.cons (hv.keep hI fun _ h=>h) .nil)
 ·rw [List.zip_append hl',List.zip_append h6]
  exact List.Perm.append h5 (List.Perm.refl _)
theorem UG {m:Nat} {x y:Operand} {ty kt et:TypeId} {q:IntKind} {z:Int} {ks vs:List DV} {d:DV} (hu:P.underlying ty=some (.map kt et)) (hk:P.underlying kt=some (.int q)) (hf:freshK q z ks) (h:RL P C ops Q (k+1) l ((m,.om (ks++[.i q z]) (vs++[d]))::env) H) (hg:grd ops env o true=true:=by rfl)
  (ho:o.op=.insert ty (.tmp m) x y:=by rfl) (hm:get env m=.om ks vs:=by rfl) (hx:Bo (lk env x)=some (.i q z):=by rfl) (hy:Bo (lk env y)=some d:=by rfl) (hd:o.dst=none:=by rfl):RL P C ops Q k (o::l) env H:=by
 refine .go hg (.done (by simp [ho]) hd (fun X a w I μ O _ _ _ hs=>?_) h)
 have h1:=hs.deep (x:=x) hx
 have h2:=hs.deep (x:=y) hy
 generalize hev:a.eval x=u at h1
 cases h1
 obtain ⟨w',r1,r2⟩:=hs.ins hm hu hk hf h2
 have he:a.eval (.tmp m)=a.tmps.getD m undef:=rfl
 exact ⟨w',I,μ,O,by simp only [execOp,ho,hev,he,r1,Sem.run_bind,Result.andThen_ok,Sem.run_pure],r2⟩
theorem Gh.omf {t:Nat} {ks vs:List DV} (hg:get env t=.om ks vs) : Gh P C env H ((t,.d (.mp ks vs))::env) H:=fun X a w I μ O _ _ _ hs=>by
 obtain ⟨blk,es,c,ks',vs',h1,h2,h3,h4,h5,h6,hO⟩:=hs.om_inv hg
 obtain ⟨n1,n2,n3⟩:=hs.other_blk hO
 refine ⟨_,_,⟨hs.toMem.frz [blk] (fun b hm=>by simp at hm;subst hm;exact (hs.own b _ hO).1) (fun b hm hk=>by simp at hm;exact n2 b hk hm) H rfl ?_,fun s=>?_,hs.nt,hs.dfs⟩⟩
 ·intro id ob ho
  obtain ⟨bb,bs,k1,k2,k3,k4⟩:=hs.heap id ob ho
  refine ⟨bb,bs,k1,k2.mono fun _ h=>.inl h,fun hn=>⟨(k3 hn).1,fun b hb=>?_⟩,k4⟩
  have:b∉[blk]:=by simpa using n3 id ob bb bs ho k1 k3 k4 b hb
  simp only [this,if_false]
  exact (k3 hn).2 b hb
 ·by_cases hst:t=s
  ·subst hst
   rw [show get ((t,.d (.mp ks vs))::env) t=.d (.mp ks vs) by simp [get]]
   refine .of (bs:=[]) ?_ nN (by simp)
   rw [h1]
   exact .d (.mp ks vs ks' vs' blk es c (.inr (by simp)) h2 (h3.keep (fun _ _=>rfl) fun _ h=>.inl h) (h4.keep (fun _ _=>rfl) fun _ h=>.inl h) h5 h6)
  ·rw [show get ((t,.d (.mp ks vs))::env) s=get env s by simp [get,hst]]
   have key:∀ p e xs,A1 env H p=.own e xs→A1 ((t,AV.d (.mp ks vs))::env) H p=.own e xs:=by
    intro p e' xs hp
    cases p with
    | t r =>
     have hr':t≠r:=fun h=>by subst h;simp only [A1] at hp;rw [hg] at hp;cases hp
     simp only [A1,get,if_neg hr'];exact hp
    | c id off=>exact hp
   have ht:=hs.envr s
   cases hgs:get env s with
   | ref p off len =>
    rw [hgs] at ht
    obtain ⟨e',xs,A,n,c,g1,g2,g3,g4⟩:=ht
    exact ⟨e',xs,A,n,c,key p e' xs g1,g2,g3,g4⟩
   | ep p i k =>
    rw [hgs] at ht
    obtain ⟨e',xs,b,n,c,g1,g2,g3,g4,g5⟩:=ht
    exact ⟨e',xs,b,n,c,key p e' xs g1,g2,g3,g4,g5⟩
   | _ =>
    rw [hgs] at ht
    obtain ⟨bs,g1,g2,g3⟩:=ht.plain rfl
    refine .of (g1.keep (fun _ h=>.inl h) (fun _ _=>rfl) (fun _ _ h=>h) fun _ _=>rfl) g2 fun b hb=>?_
    have:b∉[blk]:=fun hm=>by
     simp at hm;subst hm
     have:=g3 b hb;rw [hO] at this;simp at this;exact hst this
    simp only [this,if_false]
    exact g3 b hb
theorem ZH {x y:Operand} {ty kt et:TypeId} {q:IntKind} {z:Int} {ks vs:List DV} {d:DV} (hu:P.underlying ty=some (.map kt et)) (hk:P.underlying kt=some (.int q)) (hi:∀ k∈ks,∃ z',k=.i q z') (hm:(.i q z,d)∈ks.zip vs) (hq:∀ d',(.i q z,d')∈ks.zip vs→d'=d)
  (ho:o.op=.lookup ty x y false:=by rfl) (hx:Bo (lk env x)=some (.mp ks vs):=by rfl) (hy:Bo (lk env y)=some (.i q z):=by rfl):VOK P C o env H (.d d) :=
 .pv ⟨by simp [ho],fun X a w I μ O _ hs=>by
  have h1:=hs.deep (x:=x) hx
  have h2:=hs.deep (x:=y) hy
  generalize hev:a.eval x=u at h1
  generalize hev2:a.eval y=u2 at h2
  cases h2
  cases h1 with
  | mp _ _ ks' vs' r es c hI hh h3 h4 hp hl =>
   have hl':ks'.length=vs'.length:=by rw [h3.length,h4.length,List.length_map,List.length_map]
   obtain ⟨i,v,e1,e2⟩:=Oj (q:=q) (z:=z) (d:=d) rfl 0 h3 h4 (fun k hk=>hi k (Lt hp hl' hk)) (hp.mem_iff.2 hm) fun d' hd=>hq d' (hp.mem_iff.1 hd)
   exact ⟨v,by simp only [execOp,ho,hev,hev2,NM hu hk hh e1,Sem.run_bind,Result.andThen_ok,Sem.run_pure],.of_rep e2⟩⟩
theorem ZA {x y:Operand} {ty kt et:TypeId} {q:IntKind} {z:Int} {ks vs:List DV} {d:DV} {zv:Value} (hu:P.underlying ty=some (.map kt et)) (hk:P.underlying kt=some (.int q)) (hz:∀ w,(zeroValue et).run P w=.ok zv w) (hd:∀ w I,Rep w I d zv) (hf:freshK q z ks)
  (ho:o.op=.lookup ty x y false:=by rfl) (hx:Bo (lk env x)=some (.mp ks vs):=by rfl) (hy:Bo (lk env y)=some (.i q z):=by rfl):VOK P C o env H (.d d) :=
 .pv ⟨by simp [ho],fun X a w I μ O _ hs=>by
  have h1:=hs.deep (x:=x) hx
  have h2:=hs.deep (x:=y) hy
  generalize hev:a.eval x=u at h1
  generalize hev2:a.eval y=u2 at h2
  cases h2
  cases h1 with
  | mp _ _ ks' vs' r es c hI hh h3 h4 hp hl =>
   have hl':ks'.length=vs'.length:=by rw [h3.length,h4.length,List.length_map,List.length_map]
   have e1:=Lb (q:=q) (z:=z) rfl 0 h3 fun k hk=>hf k (Lt hp hl' hk)
   exact ⟨zv,by simp only [execOp,ho,hev,hev2,Mb hu hk (hz w) hh e1,Sem.run_bind,Result.andThen_ok,Sem.run_pure],.of_rep (hd w I)⟩⟩
end
end Go.FL
namespace Go.FL
open Go Go.RowKit
section
variable {P:Program} {C:Cx} {X:Snap} {o:Oper} {ops:Array Oper} {Q:Exit→Env→Ad→Prop} {env env':Env} {H H':Ad} {a:Act} {w w':World} {I I':Nat→Prop} {μ μ':List Nat} {O O':Nat→Option Loc}
 {K:Env→Ad→Prop} {k:Nat} {l:List Oper}
def GO (P:Program) (t:TypeId) : Bool:=match P.underlying t with
 | some (.func ..)=>true
 | _=>false
theorem Up {t:TypeId} (hu:GO P t=true) (f:Go.Fn) (fs cs:Array Value) : (Op.equal t (.func f fs cs) .nilFunc).run P w=.ok false w:=by
 unfold GO at hu
 split at hu
 ·rename_i h
  have e:Op.equal t (.func f fs cs) .nilFunc=Op.equalIn (9999+1) t (.func f fs cs) .nilFunc:=rfl
  rw [e]
  unfold Op.equalIn
  simp only [run_underlying h,Sem.run_bind,Result.andThen_ok,Sem.run_pure]
 ·cases hu
theorem TV {t:TypeId} (hu:GO P t=true) : (Op.equal t .nilFunc .nilFunc).run P w=.ok true w:=by
 unfold GO at hu
 split at hu
 ·rename_i h
  have e:Op.equal t .nilFunc .nilFunc=Op.equalIn (9999+1) t .nilFunc .nilFunc:=rfl
  rw [e]
  unfold Op.equalIn
  simp only [run_underlying h,Sem.run_bind,Result.andThen_ok,Sem.run_pure]
 ·cases hu
theorem ZJ {xt yt:TypeId} {x y:Operand} {f:FuncId} {fs cs:List DV} (hu:GO P xt=true) (ho:o.op=.binOp .eql xt x y yt:=by rfl) (hx:Bo (lk env x)=some (.fn f fs cs):=by rfl) (hy:Bo (lk env y)=some .nf:=by rfl) : VOK P C o env H (.d (.b false)):=by
 refine .same (by simp [ho]) fun X a w I μ O _ hs=>⟨.bool false,?_,.b _⟩
 have h1:=hs.deep hx
 have h2:=hs.deep hy
 generalize hev:a.eval x=v1 at h1
 generalize hev2:a.eval y=v2 at h2
 cases h1;cases h2
 simp [execOp,ho,hev,hev2,binOp,eqGuard,Up hu]
theorem ZG {xt yt:TypeId} {x y:Operand} (hu:GO P xt=true) (ho:o.op=.binOp .eql xt x y yt:=by rfl) (hx:Bo (lk env x)=some .nf:=by rfl) (hy:Bo (lk env y)=some .nf:=by rfl) : VOK P C o env H (.d (.b true)):=by
 refine .same (by simp [ho]) fun X a w I μ O _ hs=>⟨.bool true,?_,.b _⟩
 have h1:=hs.deep hx
 have h2:=hs.deep hy
 generalize hev:a.eval x=v1 at h1
 generalize hev2:a.eval y=v2 at h2
 cases h1;cases h2
 simp [execOp,ho,hev,hev2,binOp,eqGuard,TV hu]
end
end Go.FL
namespace Go.FL
open Go Go.Proofs
theorem Nl : C0 Tryz.prog 26=some true:=by kernel_rfl
theorem L2 : AN Tryz.prog 26=5:=by kernel_rfl
theorem MD : CM Tryz.prog 26 0=some (0,1):=by kernel_rfl
theorem Za : EI Tryz.prog 26=some [(0,1),(1,3),(4,1)]:=by kernel_rfl
theorem Xy : (Tryz.prog.info? 26).bind (·.zero)=some (.agg #[.int .i64 0,.bool false,.slice none 0 0,.slice none 0 0,.int .i64 0]):=by kernel_rfl
theorem XF (w:World) (I:Nat→Prop) : RepAll w I [.i .i64 0,.b false,.sl [],.sl [],.i .i64 0] (Value.agg #[.int .i64 0,.bool false,.slice none 0 0,.slice none 0 0,.int .i64 0]).cells.toList:=.cons (.i _ _) (.cons (.b _) (.cons (.sl0 _ _) (.cons (.sl0 _ _) (.cons (.i _ _) (.nil)))))
end Go.FL
namespace Go.FL
open Go Go.RowKit
section
variable {P:Program} {C:Cx} {X:Snap} {o:Oper} {ops:Array Oper} {Q:Exit→Env→Ad→Prop} {env env':Env} {H H':Ad} {a:Act} {w w':World} {I I':Nat→Prop} {μ μ':List Nat} {O O':Nat→Option Loc}
 {K:Env→Ad→Prop} {k:Nat} {l:List Oper}
theorem Sim.frzT (hs:Sim P X env H a w I μ O) {n:Nat} {e:TypeId} {xs:List DV} (hp:get env n=.own e xs) : ∃ (bs:List Nat) (O':Nat→Option Loc),Sim P X (JV (.t n) xs env) H a w (fun b=>I b∨b∈bs) μ O':=by
 obtain ⟨v,bs,hv,hr,hb,hO⟩:=hs.at_place (p:=.t n) hp
 have hO':∀ b∈bs,O b=some (.t n):=fun b hm=>(hO b hm).2.1 n rfl
 refine ⟨bs,_,⟨hs.toMem.frz bs (fun b hm=>(hO b hm).1) (fun b hm hk=>by have:=hs.kO b hk;rw [hO' b hm] at this;cases this) H rfl ?_,hs.frz_env (p:=.t n) hp hv hr hO' (fun _ _ _ _ h=>h),hs.nt,hs.dfs⟩⟩
 intro id o ho
 obtain ⟨blk,cs,h1,h2,h3,h4⟩:=hs.heap id o ho
 refine ⟨blk,cs,h1,h2.mono fun _ h=>.inl h,fun hn=>⟨(h3 hn).1,fun b hb=>?_⟩,h4⟩
 have h5:=(h3 hn).2 b hb
 have:b∉bs:=fun hm=>by have:=hO' b hm;rw [h5] at this;simp at this
 simp [this,h5]
theorem YV {c:Call} {fo:Operand} {gv:DV} {xs xs0:List DV} {q:IntKind} {n:Int} (s:Nat) {e:TypeId} {ys:List DV} (h:FnV P gv xs (.d (.i q n))) (hp:get env s=.own e ys:=by rfl) (ho:o.op=.call c:=by rfl) (hc:c.callee=.value fo:=by rfl) (hfo:lk env fo=.d gv:=by rfl) (ha:argsD (JV (.t s) ys env) c.args.toList=some xs0:=by rfl) (hx:xs0=xs:=by simp) : VOK P C o env H (.d (.i q n)):=by
 subst hx
 obtain ⟨f,first,caps,rfl,hcall,hfn⟩:=h
 intro X a w I μ O next Q h1 h2 h3 hs hn
 have hfr0:=hs.deep (x:=fo) (v:=.fn f first caps) (by rw [hfo];rfl)
 obtain ⟨bs0,O2,hs2⟩:=hs.frzT hp
 have hfr:=hfr0.keep (w':=w) (I':=fun b=>I b∨b∈bs0) (fun _ _=>rfl) (fun _ h=>.inl h)
 generalize hev:a.eval fo=u at hfr
 cases hfr with
 | fn _ _ _ fs cs hfs hcs =>
  refine ⟨fun _ _=>trivial,?_⟩
  have hres:=CA (P:=P) (w:=w) (ρ:=a.eval) (ty:=o.type) hc hev
  have hex:(execOp a.eval o).run P w=.ok (.enter f (fs.toArray++c.args.map a.eval++cs.toArray)) w:=by
   simp only [execOp,ho,Sem.run_bind,hres,Result.andThen_ok,invoke,hcall]
  rw [Oper.semAt_eq _ _ _ (by simp [ho]),hex,Oper.uponIn_enter]
  refine ⟨fun h=>(by simp [om] at h),?_⟩
  have hcl:=hfn w _ _ hs2.ilt ((hfs.append (hs2.argsD ha)).append hcs)
  have e:(fs++c.args.toList.map a.eval++cs).toArray=fs.toArray++c.args.map a.eval++cs.toArray:=by
   apply Array.ext';simp
  rw [e] at hcl
  refine ⟨trivial,fun csF hroom=>?_⟩
  obtain ⟨e,w',fr,⟨v,I',bs,rfl,q1,q2,q3,q4,q5,q6⟩,s,x⟩:=hcl.2 csF (room_wide _)
  have hv:∀ J:Nat→Prop,ARep P w' J μ (.d (.i q n)) v []:=by
   intro J
   cases q4 with
   | d h=>cases h;exact .d (.i _ _)
  exact ⟨.returned v,w',fr,hn v w' (fun b=>I' b∧(b<w.heap.size→I b)) [] q1 (fun b hb=>⟨q2 b (.inl hb),fun _=>hb⟩) (fun b hb=>⟨(q3 b hb.1).1,hb.2⟩) (P1 (hv _) rfl) nN (by simp),s,x⟩
theorem WV {y:Operand} {t ty:Nat} {c c':DV} (hsz:AN P ty=1) (ho:o.op=.store ty (.tmp t) y) (hv:get env t=.nb [c]) (hy:Bo (lk env y)=some c') (h1:c'.leaf=true) (hd:o.dst=none) (hK:K ((t,.nb [c'])::env) H) : OpOK P C o env H K:=by
 refine .done (by simp [ho]) hd (fun X a w I μ O _ _ _ hs=>?_) hK
 have hr:=hs.deep (x:=y) hy
 generalize hev:a.eval y=u at hr
 obtain ⟨blk,cells,e,q1,q2,q3,q4⟩:=hs.nbSet (vs:=[u]) hv (.cons hr .nil)
 refine ⟨_,I,μ,O,?_,q4⟩
 have hone:=hr.one h1
 obtain ⟨old,hold⟩:∃ old,cells=#[old]:=by
  have hl:=q3.length
  match hc:cells.toList,hl with
  | [old],_=>exact ⟨old,by apply Array.ext';simpa using hc⟩
 subst hold
 obtain ⟨i,i1,i2⟩:=Ho (P:=P) (t:=ty) (by omega)
 have hx:a.eval (.tmp t)=.pointer (some ⟨blk,0,none⟩):=q1
 have hsi:(P.info? ty).map (·.size)=some 1:=by rw [i1];simp;omega
 simp only [execOp,ho,hx,hev,Instr.storeAt,Instr.sureAddr,Sem.run_bind,Sem.run_pure,Result.andThen_ok,Go.run_storeVar_one w blk e ty old u q2 hsi hone]
theorem ZI {y:Operand} {t ty:Nat} {c c':DV} (h:RL P C ops Q (k+1) l ((t,.nb [c'])::env) H) (hsz:AN P ty=1) (hg:grd ops env o true=true:=by rfl) (ho:o.op=.store ty (.tmp t) y:=by rfl)
  (hv:get env t=.nb [c]:=by rfl) (hy:Bo (lk env y)=some c':=by rfl) (h1:c'.leaf=true:=by rfl) (hd:o.dst=none:=by rfl):RL P C ops Q k (o::l) env H :=
 .go hg (WV hsz ho hv hy h1 hd h)
theorem mk' {α:Type} {F:List α→List DV} {x0:α} {x c:Operand} {ty t e by_:Nat} {z:Value} {q q':IntKind} {zl:Int} (n:Nat) (hF:List.replicate n (Rx z)=F (List.replicate n x0)) (hn:zl=n) (hb:by_ * n≤281474976710656∧n≤9223372036854775807) (h:RL P C ops Q (k+1) l ((t,.own e (F (List.replicate n x0)))::env) H)
  (hT:C1 P ty=some (e,1,by_,z)) (hz:zok z=true) (hg:grd ops env o true=true:=by rfl) (ho:o.op=.makeSlice ty x c:=by rfl) (hx:lk env x=.d (.i q zl):=by rfl) (hc:lk env c=.d (.i q' zl):=by rfl) (hd:o.dst=some t:=by rfl)
  (hf:Am (get env t)=false:=by rfl) (ht:okT C.nt t:=by rfl):RL P C ops Q k (o::l) env H :=
 mk n ⟨hn,hn⟩ hb (by rw [hF];exact h) hT hz hg ho hx hc hd hf ht
end
end Go.FL
namespace Go.FL
open Go Go.RowKit
def WF (id:Nat) (cs:List DV) : AV→AV
 | .bp i off=>if i=id then .d (.ptr (cs.drop off)) else .bp i off
 | .d v=>.d v
 | .nl=>.nl
 | .own e xs=>.own e xs
 | .nb xs=>.nb xs
 | .it s p=>.it s p
 | .om k v=>.om k v
 | .ref (.t s) o n=>.ref (.t s) o n
 | .ep (.t s) i k=>.ep (.t s) i k
 | _=>.un
def TY (id:Nat) (cs:List DV) (env:Env) : Env:=env.map fun x=>(x.1,WF id cs x.2)
theorem KD (id:Nat) (cs:List DV) (t:Nat) : ∀ env : Env,get (TY id cs env) t=WF id cs (get env t)
 | []=>rfl
 | (s,v)::r=>by
  show (if s=t then WF id cs v else get (TY id cs r) t)=WF id cs (if s=t then v else get r t)
  split
  ·rfl
  ·exact KD id cs t r
def XK : HO→Bool
 | .box cs=>noBpL cs
section
variable {P:Program} {C:Cx} {X:Snap} {o:Oper} {ops:Array Oper} {Q:Exit→Env→Ad→Prop} {env env':Env} {H H':Ad} {a:Act} {w w':World} {I I':Nat→Prop} {μ μ':List Nat} {O O':Nat→Option Loc}
 {K:Env→Ad→Prop} {k:Nat} {l:List Oper}
theorem ARepAll.deepAll : ∀ {cs:List DV} {vs:List Value} {bs:List Nat},ARepAll P w I μ (cs.map .d) vs bs→bs=[]∧RepAll w I cs vs
 | [],_,_,h=>by cases h;exact ⟨rfl,.nil⟩
 | c::cs,_,_,h=>by
  cases h with
  | cons h t =>
   obtain ⟨e,r⟩:=t.deepAll
   subst e
   cases h with
   | d h=>exact ⟨rfl,.cons h r⟩
theorem Gh2.pop {H0:Ad} {bx:List AV} {cs:List DV} (hH:H=H0++[.box bx]) (hb:bx=cs.map .d) (hb0:H0.all XK=true) (hne:Nat.ble C.ne H0.length=true) : Gh2 P C env H (TY H0.length cs env) H0:=fun X a w I μ O _ h2 h3 hs=>by
 subst hH hb
 have hne':X.ne≤H0.length:=by rw [h3];exact Nat.le_of_ble_eq_true hne
 have hn0:X.n0≤H0.length:=nT hs.n0le hne'
 have hμl:μ.length=H0.length+1:=by rw [hs.μlen];simp
 obtain ⟨blk,bs,k1,⟨cells,e,m1,m2⟩,k3,_⟩:=hs.heap H0.length (.box (cs.map .d)) (by simp)
 obtain ⟨rfl,m3⟩:=m2.deepAll
 have hO:O blk=some (.o H0.length):=(k3 hn0).2 blk (by simp)
 have hKn:∀ b,X.K b→b≠blk:=fun b hk e=>by subst e;have:=hs.kO _ hk;rw [hO] at this;cases this
 have hμt:∀ i,i<H0.length→(μ.take H0.length)[i]?=μ[i]?:=fun i hi=>by rw [List.getElem?_take,if_pos hi]
 have hOn:∀ b l,O b=some l→l≠.o H0.length→(if b=blk then none else O b)=some l:=fun b l h hl=>by
  rw [if_neg fun e=>by subst e;rw [hO] at h;exact hl (oI h).symm];exact h
 refine ⟨fun b=>I b∨b=blk,μ.take H0.length,fun b=>if b=blk then none else O b,{
  prot:=hs.prot
  kO:=fun b hk=>by rw [if_neg (hKn b hk)];exact hs.kO b hk
  kI:=fun b hk hi=>hi.elim (hs.kI b hk) fun e=>absurd e (hKn b hk)
  mono:=fun b hi=>.inl (hs.mono b hi)
  os:=hs.os,tape:=hs.tape,output:=hs.output,size:=hs.size
  own:=fun b l hl=>by
   by_cases hb:b=blk
   ·rw [if_pos hb] at hl;cases hl
   ·rw [if_neg hb] at hl
    exact ⟨(hs.own b l hl).1,fun hi=>hi.elim (hs.own b l hl).2 hb⟩
  ilt:=fun b hi=>hi.elim (hs.ilt b) fun e=>by rw [e];exact (hs.own blk _ hO).1
  μlen:=by rw [List.length_take];omega
  μpre:=fun i b hi hb=>by rw [hμt i (by omega)];exact hs.μpre i b hi hb
  nle:=hne'
  heap:=fun id ob ho=>?_
  klt:=hs.klt
  n0le:=hs.n0le
  envr:=fun s=>?_
  nt:=hs.nt
  dfs:=hs.dfs}⟩
 ·have hlt:=(lS.1 ho).1
  obtain ⟨bb,bs',q1,q2,q3,q4⟩:=hs.heap id ob (by rw [List.getElem?_append_left hlt];exact ho)
  refine ⟨bb,bs',by rw [hμt id hlt];exact q1,?_,fun hn=>⟨(q3 hn).1,fun b hb=>hOn b _ ((q3 hn).2 b hb) (by simp;omega)⟩,q4⟩
  have hnb:XK ob=true:=List.all_eq_true.1 hb0 ob (List.mem_of_getElem? ho)
  cases ob with
  | box c =>
   obtain ⟨cl,et,n1,n2⟩:=q2
   exact ⟨cl,et,n1,(n2.noBp (μ':=μ.take H0.length) hnb).keep (fun _ h=>.inl h) (fun _ _=>rfl) (fun _ _ h=>h) fun _ _=>rfl⟩
 ·rw [KD]
  have ht:=hs.envr s
  have plain:∀ av,get env s=av→noBp av=true→A5 av=false→TRep P (TY H0.length cs env) H0 a w (fun b=>I b∨b=blk) (μ.take H0.length) (fun b=>if b=blk then none else O b) s av:=by
   intro av hav hn hr
   rw [hav] at ht
   obtain ⟨bs,g1,g2,g3⟩:=ht.plain hr
   exact .of ((g1.noBp (μ':=μ.take H0.length) hn).keep (fun _ h=>.inl h) (fun _ _=>rfl) (fun _ _ h=>h) fun _ _=>rfl) g2 fun b hb=>hOn b _ (g3 b hb) (by simp)
  cases hgs:get env s with
  | bp i off =>
   rw [hgs] at ht
   obtain ⟨bs,g1,g2,g3⟩:=ht.plain rfl
   show TRep P _ _ a w _ _ _ s (if i=H0.length then .d (.ptr (cs.drop off)) else .bp i off)
   generalize hv:a.tmps.getD s undef=v at g1
   cases g1 with
   | bp _ _ blk' hb' =>
    by_cases hi:i=H0.length
    ·rw [if_pos hi]
     subst hi
     rw [k1] at hb'
     obtain rfl:=oI hb'
     refine .of (bs:=[]) ?_ nN (by simp)
     rw [hv]
     have hh:Has w blk 0 cells.toList:=fun j u hj=>by
      simp [World.cell?,m1]
      simpa using hj
     have hh2:=hh.drop off
     rw [Nat.zero_add] at hh2
     exact .d (.ptr _ blk off (cells.toList.drop off) (.inr rfl) hh2 ((m3.drop off).keep (fun _ _=>rfl) fun _ h=>.inl h))
    ·rw [if_neg hi]
     have hlt:=(lS.1 hb').1
     refine .of (bs:=[]) ?_ nN (by simp)
     rw [hv]
     exact .bp i off blk' (by rw [hμt i (by omega)];exact hb')
  | ref p off len =>
   cases p with
   | c _ _=>exact .un
   | t r =>
    rw [hgs] at ht
    obtain ⟨e',xs,A,n,c,g1,g2,g3,g4⟩:=ht
    refine ⟨e',xs,A,n,c,?_,g2,g3,g4⟩
    show get (TY H0.length cs env) r=_
    rw [KD,show get env r=_ from g1];rfl
  | ep p i k =>
   cases p with
   | c _ _=>exact .un
   | t r =>
    rw [hgs] at ht
    obtain ⟨e',xs,b,n,c,g1,g2,g3,g4,g5⟩:=ht
    refine ⟨e',xs,b,n,c,?_,g2,g3,g4,g5⟩
    show get (TY H0.length cs env) r=_
    rw [KD,show get env r=_ from g1];rfl
  | d v=>exact plain _ hgs rfl rfl
  | nl=>exact plain _ hgs rfl rfl
  | own e xs=>exact plain _ hgs rfl rfl
  | nb xs=>exact plain _ hgs rfl rfl
  | it s p=>exact plain _ hgs rfl rfl
  | om k v=>exact plain _ hgs rfl rfl
  | un=>exact .un
  | ag _=>exact .un
  | fn _ _ _=>exact .un
  | tup _=>exact .un
end
end Go.FL
namespace Go.FL
open Go Go.RowKit
theorem Qd (q:IntKind) : ∀ (ps:List (Int×DV)),(ps.map fun p=>DV.i q p.1).zip (ps.map (·.2))=ps.map fun p=>(DV.i q p.1,p.2)
 | []=>rfl
 | p::ps=>by simp [Qd q ps]
section
variable {P:Program} {C:Cx} {X:Snap} {o:Oper} {ops:Array Oper} {Q:Exit→Env→Ad→Prop} {env env' envi:Env} {H H':Ad} {a:Act} {w w':World} {I I':Nat→Prop} {μ μ':List Nat} {O O':Nat→Option Loc}
 {K:Env→Ad→Prop} {k:Nat} {l:List Oper} {av:AV}
def QC : Nat:=1000000000
def ZP (P:Program) (C:Cx) (ops:Array Oper) (H:Ad) (env0 vals:Env) (tm i0 ty:Nat) (q:IntKind) (i:Nat) (o:Oper) (t:Nat) (v:AV) : Option (Int×DV)→Prop
 | none=>QZ P C ops H env0 vals o t v∧tm∉o.looksAt ops∧t<QC∧(i≠i0→t≠tm)∧(i=i0→t=tm∧v=.om [] [])
 | some (z,d)=>o.dst=none∧o.guard=none∧v=.un∧t=QC+i∧get env0 t=.un∧G6 ops i i0=true∧∃ x y,o.op=.insert ty (.tmp tm) x y∧(∀ e,lk e x=.d (.i q z)) ∧
   ((∀ e,lk e y=.d d)∨∃ s,y=.tmp s∧s≠tm∧s∈o.looksAt ops∧get (BJ (o.looksAt ops) vals++env0) s=.d d)
end
end Go.FL
namespace Go.FL
open Go Go.RowKit
section
variable {P:Program} {C:Cx} {X:Snap} {o:Oper} {ops:Array Oper} {Q:Exit→Env→Ad→Prop} {env env' envi env0 vals:Env} {H H':Ad} {a:Act} {w w':World} {I I':Nat→Prop} {μ μ':List Nat} {O O':Nat→Option Loc}
 {k:Nat} {l:List Oper} {av v:AV} {t tm i0 ty n:Nat} {q:IntKind} {ps qs:List (Int×DV)}
inductive DLM (P:Program) (C:Cx) (ops:Array Oper) (H:Ad) (env0:Env) (tm i0 ty:Nat) (q:IntKind) : Nat→Env→List (Int×DV)→List Oper→Env→List (Int×DV)→Prop
 | nil (n:Nat) (vals:Env) (ps:List (Int×DV)):DLM P C ops H env0 tm i0 ty q n vals ps [] vals ps
 | run {n:Nat} {vals fin:Env} {ps qs:List (Int×DV)} {o:Oper} {t:Nat} {v:AV} {l:List Oper} (hi:n≠i0) (hd:o.dst=some t) (ht:okT C.nt t) (h0:Sr (get env0 t)=true) (hn:(vals.map (·.1)).contains t=false) (hs:Io t v=true)
   (hg:grd ops (BJ (o.looksAt ops) vals++env0) o true=true) (hv:VOK P C o (BJ (o.looksAt ops) vals++env0) H v) (hr:DM (BJ (o.looksAt ops) vals++env0)=true) (hl:(o.looksAt ops).contains tm=false) (htd:t<QC) (htm:t≠tm)
   (h:DLM P C ops H env0 tm i0 ty q (n+1) ((t,v)::vals) ps l fin qs):DLM P C ops H env0 tm i0 ty q n vals ps (o::l) fin qs
 | mk {vals fin:Env} {ps qs:List (Int×DV)} {o:Oper} {l:List Oper} (hd:o.dst=some tm) (ht:okT C.nt tm) (h0:Sr (get env0 tm)=true) (hn:(vals.map (·.1)).contains tm=false)
   (hg:grd ops (BJ (o.looksAt ops) vals++env0) o true=true) (hv:VOK P C o (BJ (o.looksAt ops) vals++env0) H (.om [] [])) (hr:DM (BJ (o.looksAt ops) vals++env0)=true) (hl:(o.looksAt ops).contains tm=false) (htd:tm<QC)
   (h:DLM P C ops H env0 tm i0 ty q (i0+1) ((tm,.om [] [])::vals) ps l fin qs):DLM P C ops H env0 tm i0 ty q i0 vals ps (o::l) fin qs
 | ins {n:Nat} {vals fin:Env} {ps qs:List (Int×DV)} {o:Oper} {l:List Oper} {x y:Operand} {z:Int} {d:DV} (hi:n≠i0) (hd:o.dst=none) (hgn:o.guard=none) (hop:o.op=.insert ty (.tmp tm) x y) (hx:∀ e,lk e x=.d (.i q z))
   (hy:(∀ e,lk e y=.d d)∨∃ s,y=.tmp s∧s≠tm∧s∈o.looksAt ops∧get (BJ (o.looksAt ops) vals++env0) s=.d d) (hdi:G6 ops n i0=true) (h0:get env0 (QC+n)=.un)
   (h:DLM P C ops H env0 tm i0 ty q (n+1) ((QC+n,.un)::vals) (ps++[(z,d)]) l fin qs):DLM P C ops H env0 tm i0 ty q n vals ps (o::l) fin qs
theorem DLM.table {n:Nat} {vals fin:Env} {ps qs:List (Int×DV)} {l:List Oper} (h:DLM P C ops H env0 tm i0 ty q n vals ps l fin qs) : ∃ (tv:List (Nat×AV)) (iv:List (Option (Int×DV))),tv.length=l.length∧iv.length=l.length∧fin=tv.reverse++vals∧qs=ps++iv.filterMap id ∧
  ∀ (i:Nat) o,l[i]?=some o→∃ t v p,tv[i]?=some (t,v)∧iv[i]?=some p∧(n+i=i0→p=none)∧ZP P C ops H env0 ((tv.take i).reverse++vals) tm i0 ty q (n+i) o t v p:=by
 induction h with
 | nil n vals ps=>exact ⟨[],[],rfl,rfl,rfl,by simp,fun i o h=>by simp at h⟩
 | @run n vals fin ps qs o t v l hi hd ht h0 hn hs hg hv hr hl htd htm h ih =>
  obtain ⟨tv,iv,k1,k2,k3,k4,k5⟩:=ih
  refine ⟨(t,v)::tv,none::iv,by simp [k1],by simp [k2],by rw [k3];simp,by rw [k4];simp,fun i o' hio=>?_⟩
  cases i with
  | zero =>
   simp at hio;subst hio
   refine ⟨t,v,none,rfl,rfl,fun _=>rfl,⟨hd,ht,My h0,fun x hx e=>?_,hs,hr,.inl ⟨hg,hv⟩⟩,fun hm=>?_,htd,fun _=>htm,fun e=>absurd e hi⟩
   ·subst e
    have:(vals.map (·.1)).contains x.1=true:=List.contains_iff_mem.2 (List.mem_map_of_mem hx)
    rw [hn] at this;cases this
   ·have:=List.contains_iff_mem.2 hm
    rw [hl] at this;cases this
  | succ i =>
   obtain ⟨t',v',p',m1,m2,m3,m4⟩:=k5 i o' (by simpa using hio)
   have e:n+(i+1)=n+1+i:=by omega
   refine ⟨t',v',p',by simpa using m1,by simpa using m2,by rw [e];exact m3,?_⟩
   rw [e];simpa using m4
 | @mk vals fin ps qs o l hd ht h0 hn hg hv hr hl htd h ih =>
  obtain ⟨tv,iv,k1,k2,k3,k4,k5⟩:=ih
  refine ⟨(tm,.om [] [])::tv,none::iv,by simp [k1],by simp [k2],by rw [k3];simp,by rw [k4];simp,fun i o' hio=>?_⟩
  cases i with
  | zero =>
   simp at hio;subst hio
   refine ⟨tm,.om [] [],none,rfl,rfl,fun _=>rfl,⟨hd,ht,My h0,fun x hx e=>?_,rfl,hr,.inl ⟨hg,hv⟩⟩,fun hm=>?_,htd,fun e=>absurd rfl e,fun _=>⟨rfl,rfl⟩⟩
   ·subst e
    have:(vals.map (·.1)).contains x.1=true:=List.contains_iff_mem.2 (List.mem_map_of_mem hx)
    rw [hn] at this;cases this
   ·have:=List.contains_iff_mem.2 hm
    rw [hl] at this;cases this
  | succ i =>
   obtain ⟨t',v',p',m1,m2,m3,m4⟩:=k5 i o' (by simpa using hio)
   have e:i0+(i+1)=i0+1+i:=by omega
   refine ⟨t',v',p',by simpa using m1,by simpa using m2,by rw [e];exact m3,?_⟩
   rw [e];simpa using m4
 | @ins n vals fin ps qs o l x y z d hi hd hgn hop hx hy hdi h0 h ih =>
  obtain ⟨tv,iv,k1,k2,k3,k4,k5⟩:=ih
  refine ⟨(QC+n,.un)::tv,some (z,d)::iv,by simp [k1],by simp [k2],by rw [k3];simp,by rw [k4];simp,fun i o' hio=>?_⟩
  cases i with
  | zero =>
   simp at hio;subst hio
   exact ⟨QC+n,.un,some (z,d),rfl,rfl,fun e=>absurd e hi,hd,hgn,rfl,rfl,h0,hdi,x,y,hop,hx,hy⟩
  | succ i =>
   obtain ⟨t',v',p',m1,m2,m3,m4⟩:=k5 i o' (by simpa using hio)
   have e:n+(i+1)=n+1+i:=by omega
   refine ⟨t',v',p',by simpa using m1,by simpa using m2,by rw [e];exact m3,?_⟩
   rw [e];simpa using m4
end
end Go.FL
namespace Go.FL
open Go Go.RowKit
def U4 {α β:Type} (T:List (Int×FW α β)) : List (Int×DV):=T.map fun p=>(p.1,p.2.dv)
def XT {α β:Type} (q:IntKind) (T:List (Int×FW α β)) : DV:=.mp ((U4 T).map fun p=>.i q p.1) ((U4 T).map (·.2))
def Ir {α β:Type} (T:List (Int×FW α β)) (z:Int) : Option (FW α β):=(T.find? fun p=>decide (p.1=z)).map (·.2)
def Xp {α β:Type} (x:Option α) (a:β) (f:α→β) : β:=match x with
 | none=>a
 | some y=>f y
theorem XY {α β:Type} {x:Option α} {a r:β} {f:α→β} (e:x=none) (h:Xp x a f=r) : a=r:=by subst e;exact h
theorem Yz {α β:Type} {x:Option α} {y:α} {a r:β} {f:α→β} (e:x=some y) (h:Xp x a f=r) : f y=r:=by subst e;exact h
theorem PS {α β:Type} {T:List (Int×FW α β)} {z:Int} {f:FW α β} (h:Ir T z=some f) : (z,f)∈T:=by
 unfold Ir at h
 simp only [Option.map_eq_some_iff] at h
 obtain ⟨p,hp,rfl⟩:=h
 have h1:=List.find?_some hp
 have h2:=List.mem_of_find?_eq_some hp
 have:p.1=z:=by simpa using h1
 rw [← this];exact h2
theorem Wq {α β:Type} {T:List (Int×FW α β)} {z:Int} (h:Ir T z=none) : ∀ p∈T,p.1≠z:=fun p hp=>by
 unfold Ir at h
 rw [Option.map_eq_none_iff,List.find?_eq_none] at h
 simpa using h p hp
theorem SA {α β:Type} (q:IntKind) (T:List (Int×FW α β)) : ((U4 T).map fun p=>DV.i q p.1).zip ((U4 T).map (·.2))=T.map fun p=>(DV.i q p.1,p.2.dv):=by
 rw [Qd];unfold U4;rw [List.map_map];rfl
theorem OH {α β:Type} : ∀ {T:List (Int×FW α β)},(T.map (·.1)).Nodup→∀ {z f g},(z,f)∈T→(z,g)∈T→f=g
 | p::T,hn,z,f,g,h1,h2=>by
  rw [List.map_cons,List.nodup_cons] at hn
  rcases List.mem_cons.1 h1 with e1|h1<;>rcases List.mem_cons.1 h2 with e2|h2
  ·rw [← e1] at e2;cases e2;rfl
  ·exact absurd (List.mem_map.2 ⟨_,h2,by rw [← e1]⟩) hn.1
  ·exact absurd (List.mem_map.2 ⟨_,h1,by rw [← e2]⟩) hn.1
  ·exact OH hn.2 h1 h2
section
variable {P:Program} {C:Cx} {o:Oper} {ops:Array Oper} {Q:Exit→Env→Ad→Prop} {env:Env} {H:Ad} {k:Nat} {l:List Oper}
theorem Zh {α β:Type} {T:List (Int×FW α β)} {z:Int} {f:FW α β} {x y:Operand} {ty kt et:TypeId} {q:IntKind} (hnd:(T.map (·.1)).Nodup) (hu:P.underlying ty=some (.map kt et)) (hk:P.underlying kt=some (.int q)) (h:Ir T z=some f)
  (ho:o.op=.lookup ty x y false:=by rfl) (hx:Bo (lk env x)=some (XT q T):=by rfl) (hy:Bo (lk env y)=some (.i q z):=by rfl):VOK P C o env H (.d f.dv):=by
 refine ZH (q:=q) (z:=z) hu hk (fun k hk=>?_) ?_ (fun d' hd=>?_) ho hx hy
 ·obtain ⟨p,_,rfl⟩:=List.mem_map.1 hk;exact ⟨_,rfl⟩
 ·rw [SA];exact List.mem_map.2 ⟨_,PS h,rfl⟩
 ·rw [SA] at hd
  obtain ⟨p,hp,e⟩:=List.mem_map.1 hd
  simp only [Prod.mk.injEq,DV.i.injEq,true_and] at e
  obtain ⟨e1,rfl⟩:=e
  have:(z,p.2)∈T:=by rw [← e1];exact hp
  rw [OH hnd this (PS h)]
theorem Y5 {α β:Type} {T:List (Int×FW α β)} {z:Int} {x y:Operand} {ty kt et:TypeId} {q:IntKind} (hu:P.underlying ty=some (.map kt et)) (hk:P.underlying kt=some (.int q)) (hz:∀ w,(zeroValue et).run P w=.ok .nilFunc w) (h:Ir T z=none)
  (ho:o.op=.lookup ty x y false:=by rfl) (hx:Bo (lk env x)=some (XT q T):=by rfl) (hy:Bo (lk env y)=some (.i q z):=by rfl):VOK P C o env H (.d .nf):=by
 refine ZA (q:=q) (z:=z) hu hk hz (fun _ _=>.nf) (fun k hk=>?_) ho hx hy
 obtain ⟨p,hp,rfl⟩:=List.mem_map.1 hk
 obtain ⟨p',hp',rfl⟩:=List.mem_map.1 hp
 exact ⟨_,rfl,Wq h p' hp'⟩
theorem ZC {xt yt:TypeId} {x y:Operand} {d:DV} (hu:GO P xt=true) (hf:∃ f fs cs,d=.fn f fs cs) (ho:o.op=.binOp .eql xt x y yt:=by rfl) (hx:Bo (lk env x)=some d:=by rfl) (hy:Bo (lk env y)=some .nf:=by rfl) : VOK P C o env H (.d (.b false)):=by
 obtain ⟨f,fs,cs,rfl⟩:=hf
 exact ZJ hu ho hx hy
end
end Go.FL
namespace Go.FL
open Go Go.Proofs
section
variable {P:Program} {C:Cx} {o:Oper} {ops:Array Oper} {Q:Exit→Env→Ad→Prop} {env:Env} {H:Ad} {k:Nat} {l:List Oper}
theorem asu {x:Operand} {t:Nat} (h:RL P C ops Q (k+1) l ((t,.un)::env) H) (hg:grd ops env o true=true:=by rfl) (ho:o.op=.assign x:=by rfl) (hd:o.dst=some t:=by rfl) (hf:Am (get env t)=false:=by rfl) (ht:okT C.nt t:=by rfl) : RL P C ops Q k (o::l) env H:=by
 rw [← Al hf] at h
 exact .go hg (.pure (by simp [ho]) hd ht (fun X a w I μ O _ hs=>⟨a.eval x,by simp [execOp,ho],[],.un _,nN,by simp⟩) h)
theorem freshK.nil {q:IntKind} {z:Int} : freshK q z []:=nofun
theorem freshK.snoc {q:IntKind} {z z':Int} {ks:List DV} (h:freshK q z ks) (hz:z'≠z) : freshK q z (ks++[.i q z']):=fun k hk=>by
 rcases List.mem_append.1 hk with h1|h1
 ·exact h k h1
 ·rw [List.mem_singleton] at h1
  exact ⟨z',h1,hz⟩
end
theorem gkR : Tryz.prog.underlying 21=some (.int .i32):=by kernel_rfl
def isF (d:DV) : Prop:=∃ f fs cs,d=.fn f fs cs
theorem J4 {n:Nat} : List.replicate n (Rx (.int .i64 0))=Is (List.replicate n 0):=by simp [Is,Rx]
theorem Y6 (w:World) (I:Nat→Prop) : RepAll w I [.sl []] (Value.slice none 0 0).cells.toList:=.cons (.sl0 _ _) .nil
abbrev Ed : Type:=FW (Arr) (Arr×Int)
abbrev GJ (f:Ed) : Prop:=f.OK Tryz.prog (fun x=>[.ag [.sl (Is x.shape),.sl (Its x.items)]]) (fun r=>.tup [.d (.ag [.sl (Is r.1.shape),.sl (Its r.1.items)]),.d (.i .i64 r.2)])
abbrev Cf : Type:=FW ((List Int)) (Int)
abbrev RC (f:Cf) : Prop:=f.OK Tryz.prog (fun x=>[.sl (Is x)]) (fun r=>.d (.i .i64 r))
theorem Fi : GO Tryz.prog 44=true:=by kernel_rfl
def Dd (a0:Arr) : Option (Itm):=((Bm a0).bind fun x1=>(if x1=true then ((rd? a0.items 0).bind fun x2=>((KC x2).bind fun x3=>(some (x3)))) else (some ((Itm.mk 0 (false,[],[]) 0 [])))))
theorem M4 {a0:Arr} {r:Itm} (h:Dd a0=some r) :
  Fn Tryz.prog 124 [.ag [.sl (Is a0.shape),.sl (Its a0.items)]] (.d (.ag [.i .u8 r.kind,.b r.num.1,.sl (L r.num.2.1),.sl (L r.num.2.2),.i .i32 r.char,.sl (Ars r.box)])):=by
 unfold Dd at h
 refine Fn.ofC (rs:=[.cell 2 42]) (nt:=12) Tryz.func124 rfl rfl rfl (by simp) rfl ?_;refine .sr ?_;refine vk vbx ?_;refine vk (van (Aj Bv) BM) ?_;refine rk [1,2] ?_;refine .seq ?_;refine .sr ?_;refine vk (AC Ac Aa) ?_
 obtain ⟨x1,g1,h⟩:=bnd h
 refine vk (Ak (B5 g1) Tryz.call26) ?_;refine vk vnt ?_;refine rk [1,2,5] ?_
 rcases brc h with ⟨hc,h⟩|⟨hc,h⟩
 ·refine cnf (ntf hc) ?_
  refine .sk ?_;refine .sr ?_;refine vk (vfa Au) ?_;refine vk (Ai Bp) ?_
  obtain ⟨x2,g2,h⟩:=bnd h
  obtain ⟨n2,p02,q2⟩:=Ae g2
  refine vk (vix n2 p02 (CJ q2) rfl CL) ?_;refine vk (AC AJ An) ?_
  obtain ⟨x3,g3,h⟩:=bnd h
  refine vk (Ak (L4 g3) Tryz.call76) ?_
  refine stn ?_ An (by decide)
  refine rk [2] ?_;refine .ret ?_
  cases h
  exact ⟨_,⟨.inr rfl,AJ,An,p6⟩,rfl⟩
 refine cnt (ntt (bf hc)) ?_;refine .sr ?_;refine vk (vbd Fc Bv BM) ?_
 refine stn ?_ An (by decide)
 refine rk [1,2] ?_;refine .ret ?_
 cases h
 exact ⟨_,⟨.inr rfl,AJ,An,p6⟩,rfl⟩
def Gn (a0:Arr) : Option (Arr):=((Bm a0).bind fun x1=>(if x1=true then ((CI a0 (⟨.fn 78 [] [],fun x=>Ij x⟩ : Ct)).bind fun x2=>(some (x2))) else (some ((Arr.mk [] [])))))
theorem NT {a0:Arr} {r:Arr} (h:Gn a0=some r) :
  Fn Tryz.prog 79 [.ag [.sl (Is a0.shape),.sl (Its a0.items)]] (.d (.ag [.sl (Is r.shape),.sl (Its r.items)])):=by
 unfold Gn at h
 refine Fn.ofC (rs:=[.cell 2 30]) (nt:=9) Tryz.func79 rfl rfl rfl (by simp) rfl ?_;refine .sr ?_;refine vk vbx ?_;refine vk (van (Aj AD) AI) ?_;refine rk [1,2] ?_;refine .seq ?_;refine .sr ?_;refine vk (AC Ac Aa) ?_
 obtain ⟨x1,g1,h⟩:=bnd h
 refine vk (Ak (B5 g1) Tryz.call26) ?_;refine vk vnt ?_;refine rk [1,2,5] ?_
 rcases brc h with ⟨hc,h⟩|⟨hc,h⟩
 ·refine cnf (ntf hc) ?_
  refine .sk ?_;refine .sr ?_;refine vk (AC Ac Aa) ?_
  obtain ⟨x2,g2,h⟩:=bnd h
  refine vk (Ak (EJ (IA Tryz.call78 (fun _ _ h=>JN h)) g2) Tryz.call122) ?_
  refine stn ?_ Aa (by decide)
  refine rk [2] ?_;refine .ret ?_
  cases h
  exact ⟨_,⟨.inr rfl,Ac,Aa,p2⟩,rfl⟩
 refine cnt (ntt (bf hc)) ?_;refine .sr ?_;refine vk (vbd CF AD AI) ?_
 refine stn ?_ Aa (by decide)
 refine rk [1,2] ?_;refine .ret ?_
 cases h
 exact ⟨_,⟨.inr rfl,Ac,Aa,p2⟩,rfl⟩
def BV (a0:(List Int)) (K0:(List Int)→Option ((List Int))) : Nat→(List Int)→Int→Int→Option ((List Int))
 | 0,_,_,_=>none
 | k+1,s3,s4,s5=>(if 0≤s5 then ((rd? s3 s5).bind fun x6=>((rd? a0 s5).bind fun x7=>(BV a0 K0 k (List.set s3 (Int.toNat s5) s4) (w64 (s4 * x7)) (w64 (s5-1))))) else (K0 s3))
def CR (a0:(List Int)) : Option ((List Int)):=((E5 (0≤((List.length a0:Nat) : Int)∧((List.length a0:Nat) : Int)≤17592186044416)).bind fun x1=>(jn (fun (z2:(List Int))=>(some (z2))) fun K0=>(BV a0 K0 Aw (List.replicate (Int.toNat ((List.length a0:Nat) : Int)) (0:Int)) 1 (w64 (((List.length a0:Nat) : Int)-1)))))
theorem Fz {a0:(List Int)} {r:(List Int)} (h:CR a0=some r) :
  Fn Tryz.prog 81 [.sl (Is a0)] (.d (.sl (Is r))):=by
 unfold CR at h
 refine Fn.o1 2 27 Tryz.func81 ?_;refine .sr ?_;refine asn ?_;refine rk [0,2] ?_;refine .sr ?_;refine va ?_;refine vk (A9 (Af _) (BO _) BL) ?_
 obtain ⟨x1,g1,h⟩:=bnd h
 have ghx1:=EP g1
 refine mk' (F:=Is) (x0:=0) (zl:=((List.length a0:Nat):Int)) (Int.toNat ((List.length a0:Nat):Int)) J4 (by omega) (by omega) ?_ CX (by decide)
 refine aso ?_;refine rk [0,2,3] ?_;refine .sr ?_;refine ar [0,2,3,4] ?_;refine .seq ?_;refine .sr ?_;refine va ?_;refine vk (A9 (Af _) (BO _) BL) ?_;refine vb ?_;refine ar [0,2,3,4,5] ?_
 obtain ⟨K0,hK0,h⟩:=AF h
 refine AW.mr (σ:=(List Int)) (fun p=>K0 p=some r) (fun p=>[(2,.nl),(3,.own 3 (Is p))]) (fun p=>[]) ?_ ?_
 ·skip
  refine .block ?_
  refine .loop (.gk [0,2,3,4,5] ?_)
  refine AL.ind (σ:=Nat×(List Int)×Int×Int) (m:=fun p=>p.1) (e:=fun p=>[(0,.d (.sl (Is a0))),(2,.nl),(3,.own 3 (Is p.2.1)),(4,.d (.i .i64 p.2.2.1)),(5,.d (.i .i64 p.2.2.2))]) (h:=fun p=>[]) (I:=fun p=>BV a0 K0 p.1 p.2.1 p.2.2.1 p.2.2.2=some r) ?_ (Aw,(List.replicate (Int.toNat ((List.length a0:Nat):Int)) (0:Int)),1,(w64 (((List.length a0:Nat):Int)-1))) h
  rintro ⟨k,s3,s4,s5⟩ h ih
  dsimp only at h ih ⊢
  rcases k with _|k
  ·rw [BV] at h;cases h
  rw [BV] at h
  refine .seq ?_;refine .sr ?_;refine va ?_;refine vb ?_;refine rk [0,2,3,4,5,13] ?_
  rcases brc h with ⟨hc,h⟩|⟨hc,h⟩
  ·refine cnt (dT hc) ?_
   refine .sk ?_;refine .seq ?_;refine .block ?_;refine .sr ?_;refine mvo ?_;refine va ?_;refine va ?_
   obtain ⟨x6,g6,h⟩:=bnd h
   obtain ⟨n6,p06,q6⟩:=Ae g6
   refine ixr (off:=0) (len:=(Is s3).length) n6 p06 (by rw [Af];exact (lS.1 q6).1) ?_ A2 (by decide)
   refine Mu (F:=Is) (D:=fun x=>.i .i64 x) FY (us:=s3) (n:=n6) (m:=Int.toNat s5) (x:=s4) (by rw [p06];rfl) ⟨_,by rw [Nat.zero_add];exact A6 q6,rfl⟩ ?_ Dh
   refine RL.gk [0,2,3,4,5,13,17,18] ?_;refine rk [0,2,3,4,5] ?_;refine .region ?_;refine va ?_;refine va ?_;refine va ?_
   obtain ⟨x7,g7,h⟩:=bnd h
   obtain ⟨n7,p07,q7⟩:=Ae g7
   refine vk (vix n7 p07 (A6 q7) rfl A2) ?_;refine vk (Ai AA) ?_;refine vb ?_;refine asd ?_;refine .nil ?_;refine aw ?_;refine .gk [0,2,3,4,5] ?_;refine .region ?_;refine va ?_;refine vb ?_;refine asd ?_;refine .nil ?_;refine AL.gk [0,2,3,4,5] ?_
   exact ih (k,(List.set s3 (Int.toNat s5) s4),(w64 (s4 * x7)),(w64 (s5-1))) h (Nat.lt_succ_self _)
  refine cnf (dF hc) ?_;refine .gk [2,3] ?_;refine .exit ?_
  exact jr (s3) h
 rintro z2 h
 try dsimp only at h ⊢
 subst hK0
 refine aw ?_;refine .sr ?_;refine fz (p:=.t 3) ?_;refine va ?_;refine ar [2] ?_;refine .ret ?_
 cases h
 exact ⟨rfl,rfl⟩
def CY (a0:(List Int)) (a1:(List Int)) (K0:Int→Option (Int)) : Nat→Int→Int→Option (Int)
 | 0,_,_=>none
 | k+1,s2,s3=>(if s3<((List.length a0:Nat):Int) then ((rd? a0 s3).bind fun x4=>((rd? a1 s3).bind fun x5=>(CY a0 a1 K0 k (w64 (s2+(w64 (x4 * x5)))) (w64 (s3+1))))) else (K0 s2))
def El (a0:(List Int)) (a1:(List Int)) : Option (Int):=(jn (fun (z1:Int)=>(some (z1))) fun K0=>(CY a0 a1 K0 Aw 0 0))
theorem IK {a0:(List Int)} {a1:(List Int)} {r:Int} (h:El a0 a1=some r) :
  Fn Tryz.prog 84 [.sl (Is a0),.sl (Is a1)] (.d (.i .i64 r)):=by
 unfold El at h
 refine Fn.o1 4 25 Tryz.func84 ?_;refine .sr ?_;refine ar [0,1,4] ?_;refine .sr ?_;refine ar [0,1,4,5] ?_;refine .seq ?_;refine .sr ?_;refine va ?_;refine vk (A9 (Af _) (BO _) BL) ?_;refine va ?_;refine rk [1,4,5,8,9,10] ?_
 obtain ⟨K0,hK0,h⟩:=AF h
 refine AW.mr (σ:=Int) (fun p=>K0 p=some r) (fun p=>[(4,.d (.i .i64 0)),(5,.d (.i .i64 p))]) (fun p=>[]) ?_ ?_
 ·skip
  refine .block ?_
  refine .loop (.gk [1,4,5,8,9,10] ?_)
  refine AL.ind (σ:=Nat×Int×Int) (m:=fun p=>p.1) (e:=fun p=>[(1,.d (.sl (Is a1))),(4,.d (.i .i64 0)),(5,.d (.i .i64 p.2.1)),(8,.d (.sl (Is a0))),(9,.d (.i .i64 ((List.length a0:Nat):Int))),(10,.d (.i .i64 p.2.2))]) (h:=fun p=>[]) (I:=fun p=>CY a0 a1 K0 p.1 p.2.1 p.2.2=some r) ?_ (Aw,0,0) h
  rintro ⟨k,s2,s3⟩ h ih
  dsimp only at h ih ⊢
  rcases k with _|k
  ·rw [CY] at h;cases h
  rw [CY] at h
  refine .sr ?_;refine vb ?_;refine rk [1,4,5,8,9,10,11] ?_;refine .seq ?_
  rcases brc h with ⟨hc,h⟩|⟨hc,h⟩
  ·refine cnt (dT hc) ?_
   refine .sk ?_;refine .seq ?_;refine .block ?_;refine .sr ?_;refine va ?_
   obtain ⟨x4,g4,h⟩:=bnd h
   obtain ⟨n4,p04,q4⟩:=Ae g4
   refine vk (vix n4 p04 (A6 q4) rfl A2) ?_;refine vk (Ai AA) ?_;refine asd ?_;refine ar [1,4,5,6,7,8,9,10] ?_;refine .region ?_;refine va ?_;refine va ?_;refine va ?_;refine va ?_
   obtain ⟨x5,g5,h⟩:=bnd h
   obtain ⟨n5,p05,q5⟩:=Ae g5
   refine vk (vix n5 p05 (A6 q5) rfl A2) ?_;refine vk (Ai AA) ?_;refine vb ?_;refine vb ?_;refine asd ?_;refine .nil ?_;refine aw ?_;refine .gk [1,4,5,8,9,10] ?_;refine .region ?_;refine vb ?_;refine va ?_;refine .nil ?_;refine AL.gk [1,4,5,8,9,10] ?_
   exact ih (k,(w64 (s2+(w64 (x4 * x5)))),(w64 (s3+1))) h (Nat.lt_succ_self _)
  refine cnf (dF hc) ?_;refine .gk [4,5] ?_;refine .exit ?_
  exact jr (s2) h
 rintro z1 h
 try dsimp only at h ⊢
 subst hK0
 refine aw ?_;refine .sr ?_;refine va ?_;refine ar [4] ?_;refine .ret ?_
 cases h
 exact ⟨rfl,rfl⟩
def C2 (a1:(List Int)) (x3:(List Int)) (s8:Int) (K3:(List Int)→Option (Arr×Int)) : Nat→(List Int)→Int→Option (Arr×Int)
 | 0,_,_=>none
 | k+1,s12,s13=>(if s13<((List.length x3:Nat):Int) then ((rd? x3 s13).bind fun x14=>((E5 (x14≠0)).bind fun x15=>((rd? a1 s13).bind fun x16=>((E5 (x16≠0)).bind fun x17=>((rd? s12 s13).bind fun x18=>(C2 a1 x3 s8 K3 k (List.set s12 (Int.toNat s13) (Int.tmod (w64 (Int.tdiv s8 x14)) x16)) (w64 (s13+1)))))))) else (K3 s12))
def Cs (a0:Arr) (a1:(List Int)) (a2:Cf) (x1:Int×Int) (x2:Itm) (x3:(List Int)) (K0:(List Itm)→Option (Arr×Int)) : Nat→(List Int)→(List Itm)→Int→Option (Arr×Int)
 | 0,_,_,_=>none
 | k+1,s6,s7,s8=>(if s8<x1.1 then (jn (fun (z9:(List Int)) (z10:(List Itm))=>(Cs a0 a1 a2 x1 x2 x3 K0 k z9 z10 (w64 (s8+1)))) fun K2=>(jn (fun (z11:(List Int))=>((a2.g z11).bind fun x19=>(if 0≤x19 then ((rd? a0.items x19).bind fun x20=>((ap? 1466015503701 s7 [x20]).bind fun x21=>(K2 z11 x21))) else ((ap? 1466015503701 s7 [x2]).bind fun x22=>(K2 z11 x22))))) fun K3=>(C2 a1 x3 s8 K3 Aw s6 0))) else (K0 s7))
def Bn (a0:Arr) (a1:(List Int)) (a2:Cf) : Option (Arr×Int):=((D0 a1).bind fun x1=>(if x1.2=0 then ((Dd a0).bind fun x2=>((CR a1).bind fun x3=>((E5 (0≤((List.length a1:Nat) : Int)∧((List.length a1:Nat) : Int)≤17592186044416)).bind fun x4=>(jn (fun (z5:(List Itm))=>(jn (fun (z23:(List Itm))=>((AP a1 z23).bind fun x25=>(some (x25.1,x25.2)))) fun K5=>(if x1.1=0 then ((ap? 1466015503701 z5 [x2]).bind fun x24=>(K5 x24)) else (K5 z5)))) fun K0=>(Cs a0 a1 a2 x1 x2 x3 K0 Aw (List.replicate (Int.toNat ((List.length a1:Nat) : Int)) (0:Int)) [] 0))))) else (some ((Arr.mk [] []),x1.2))))
theorem I4 {a0:Arr} {a1:(List Int)} {a2:Cf} (oa2:RC a2) {r:Arr×Int} (h:Bn a0 a1 a2=some r) :
  Fn Tryz.prog 82 [.ag [.sl (Is a0.shape),.sl (Its a0.items)],.sl (Is a1),a2.dv] (.tup [.d (.ag [.sl (Is r.1.shape),.sl (Its r.1.items)]),.d (.i .i64 r.2)]):=by
 unfold Bn at h
 refine Fn.ofC (rs:=[.cell 6 30,.tmp 7]) (nt:=86) Tryz.func82 rfl rfl rfl (by simp) rfl ?_;refine .sr ?_;refine vk vbx ?_;refine vk (van (Aj AD) AI) ?_;refine ar [1,2,3,6,7] ?_;refine .sr ?_;refine va ?_
 obtain ⟨x1,g1,h⟩:=bnd h
 refine vk (VOK.tupd (vs:=[.i .i64 x1.1,.i .i64 x1.2]) (Ak (ED g1) Tryz.call34)) ?_;refine va ?_;refine vk vex ?_;refine vk vex ?_;refine asd ?_;refine ar [1,2,3,6,7,8,9] ?_;refine .seq ?_;refine .sr ?_;refine va ?_;refine vb ?_;refine rk [1,2,3,6,7,8,9,24] ?_
 rcases brc h with ⟨hc,h⟩|⟨hc,h⟩
 ·refine cnf (ntf (dT hc)) ?_
  refine .sk ?_;refine .sr ?_;refine vk (AC Ac Aa) ?_
  obtain ⟨x2,g2,h⟩:=bnd h
  refine vk (Ak (M4 g2) Tryz.call124) ?_;refine vk (van (Aj Bv) BM) ?_
  refine stn ?_ An (by decide)
  refine rk [1,2,3,6,7,8,10] ?_;refine .sr ?_;refine va ?_
  obtain ⟨x3,g3,h⟩:=bnd h
  refine vk (Ak (Fz g3) Tryz.call81) ?_;refine ar [1,2,3,6,7,8,10,11] ?_;refine .sr ?_;refine va ?_;refine vk (A9 (Af _) (BO _) BL) ?_
  obtain ⟨x4,g4,h⟩:=bnd h
  have ghx4:=EP g4
  refine mk' (F:=Is) (x0:=0) (zl:=((List.length a1:Nat):Int)) (Int.toNat ((List.length a1:Nat):Int)) J4 (by omega) (by omega) ?_ CX (by decide)
  refine aso ?_;refine rk [1,2,3,6,7,8,10,11,12] ?_;refine .sr ?_;refine asn ?_;refine rk [1,2,3,6,7,8,10,11,12,13] ?_;refine .seq ?_;refine .sr ?_;refine va ?_;refine va ?_;refine rk [1,2,3,6,7,8,10,11,12,13,34,35] ?_
  obtain ⟨K0,hK0,h⟩:=AF h
  refine AW.mr (σ:=(List Itm)) (fun p=>K0 p=some r) (fun p=>[(1,.d (.sl (Is a1))),(6,.nb [.sl (Is []),.sl (Its [])]),(7,.d (.i .i64 0)),(8,.d (.i .i64 x1.1)),(10,.nb [.i .u8 x2.kind,.b x2.num.1,.sl (L x2.num.2.1),.sl (L x2.num.2.2),.i .i32 x2.char,.sl (Ars x2.box)]),(13,.own 42 (Its p))]) (fun p=>[]) ?_ ?_
  ·skip
   refine .block ?_;refine .gh (Gh.nlOwn (t:=13) 42 (by rw [G8];decide) rfl) ?_
   refine .loop (.gk [1,2,3,6,7,8,10,11,12,13,34,35] ?_)
   refine AL.ind (σ:=Nat×(List Int)×(List Itm)×Int) (m:=fun p=>p.1) (e:=fun p=>[(1,.d (.sl (Is a1))),(2,.d (a2.dv)),(3,.d (.ptr [.sl (Is a0.shape),.sl (Its a0.items)])),(6,.nb [.sl (Is []),.sl (Its [])]),(7,.d (.i .i64 0)),(8,.d (.i .i64 x1.1)),(10,.nb [.i .u8 x2.kind,.b x2.num.1,.sl (L x2.num.2.1),.sl (L x2.num.2.2),.i .i32 x2.char,.sl (Ars x2.box)]),(11,.d (.sl (Is x3))),(12,.own 3 (Is p.2.1)),(13,.own 42 (Its p.2.2.1)),(34,.d (.i .i64 x1.1)),(35,.d (.i .i64 p.2.2.2))]) (h:=fun p=>[]) (I:=fun p=>Cs a0 a1 a2 x1 x2 x3 K0 p.1 p.2.1 p.2.2.1 p.2.2.2=some r) ?_ (Aw,(List.replicate (Int.toNat ((List.length a1:Nat):Int)) (0:Int)),[],0) h
   rintro ⟨k,s6,s7,s8⟩ h ih
   dsimp only at h ih ⊢
   rcases k with _|k
   ·rw [Cs] at h;cases h
   rw [Cs] at h
   refine .sr ?_;refine vb ?_;refine rk [1,2,3,6,7,8,10,11,12,13,34,35,36] ?_;refine .seq ?_
   rcases brc h with ⟨hc,h⟩|⟨hc,h⟩
   ·refine cnt (dT hc) ?_
    refine .sk ?_
    obtain ⟨K2,hK2,h⟩:=AF h
    refine AW.mj (σ:=(List Int)×(List Itm)) (fun p=>K2 p.1 p.2=some r) (fun p=>[(1,.d (.sl (Is a1))),(2,.d (a2.dv)),(3,.d (.ptr [.sl (Is a0.shape),.sl (Its a0.items)])),(6,.nb [.sl (Is []),.sl (Its [])]),(7,.d (.i .i64 0)),(8,.d (.i .i64 x1.1)),(10,.nb [.i .u8 x2.kind,.b x2.num.1,.sl (L x2.num.2.1),.sl (L x2.num.2.2),.i .i32 x2.char,.sl (Ars x2.box)]),(11,.d (.sl (Is x3))),(12,.own 3 (Is p.1)),(13,.own 42 (Its p.2)),(34,.d (.i .i64 x1.1)),(35,.d (.i .i64 s8))]) (fun p=>[]) ?_ ?_
    ·skip
     refine .block ?_;refine .sr ?_;refine va ?_;refine ar [1,2,3,6,7,8,10,11,12,13,14,34,35] ?_;refine .seq ?_;refine .sr ?_;refine va ?_;refine vk (A9 (Af _) (BO _) BL) ?_;refine va ?_;refine rk [1,2,3,6,7,8,10,11,12,13,14,34,35,38,39,40] ?_
     obtain ⟨K3,hK3,h⟩:=AF h
     refine AW.mr (σ:=(List Int)) (fun p=>K3 p=some r) (fun p=>[(1,.d (.sl (Is a1))),(2,.d (a2.dv)),(3,.d (.ptr [.sl (Is a0.shape),.sl (Its a0.items)])),(6,.nb [.sl (Is []),.sl (Its [])]),(7,.d (.i .i64 0)),(8,.d (.i .i64 x1.1)),(10,.nb [.i .u8 x2.kind,.b x2.num.1,.sl (L x2.num.2.1),.sl (L x2.num.2.2),.i .i32 x2.char,.sl (Ars x2.box)]),(11,.d (.sl (Is x3))),(12,.own 3 (Is p)),(13,.own 42 (Its s7)),(34,.d (.i .i64 x1.1)),(35,.d (.i .i64 s8))]) (fun p=>[]) ?_ ?_
     ·skip
      refine .block ?_
      refine .loop (.gk [1,2,3,6,7,8,10,11,12,13,14,34,35,38,39,40] ?_)
      refine AL.ind (σ:=Nat×(List Int)×Int) (m:=fun p=>p.1) (e:=fun p=>[(1,.d (.sl (Is a1))),(2,.d (a2.dv)),(3,.d (.ptr [.sl (Is a0.shape),.sl (Its a0.items)])),(6,.nb [.sl (Is []),.sl (Its [])]),(7,.d (.i .i64 0)),(8,.d (.i .i64 x1.1)),(10,.nb [.i .u8 x2.kind,.b x2.num.1,.sl (L x2.num.2.1),.sl (L x2.num.2.2),.i .i32 x2.char,.sl (Ars x2.box)]),(11,.d (.sl (Is x3))),(12,.own 3 (Is p.2.1)),(13,.own 42 (Its s7)),(14,.d (.i .i64 s8)),(34,.d (.i .i64 x1.1)),(35,.d (.i .i64 s8)),(38,.d (.sl (Is x3))),(39,.d (.i .i64 ((List.length x3:Nat):Int))),(40,.d (.i .i64 p.2.2))]) (h:=fun p=>[]) (I:=fun p=>C2 a1 x3 s8 K3 p.1 p.2.1 p.2.2=some r) ?_ (Aw,s6,0) h
      rintro ⟨k,s12,s13⟩ h ih
      dsimp only at h ih ⊢
      rcases k with _|k
      ·rw [C2] at h;cases h
      rw [C2] at h
      refine .sr ?_;refine vb ?_;refine rk [1,2,3,6,7,8,10,11,12,13,14,34,35,38,39,40,41] ?_;refine .seq ?_
      rcases brc h with ⟨hc,h⟩|⟨hc,h⟩
      ·refine cnt (dT hc) ?_
       refine .sk ?_;refine .seq ?_;refine .block ?_;refine .sr ?_;refine va ?_
       obtain ⟨x14,g14,h⟩:=bnd h
       obtain ⟨n14,p014,q14⟩:=Ae g14
       refine vk (vix n14 p014 (A6 q14) rfl A2) ?_;refine vk (Ai AA) ?_;refine asd ?_;refine ar [1,2,3,6,7,8,10,11,12,13,14,15,16,34,35,38,39,40] ?_;refine .drawn 11 Bw (by kernel_rfl) ?_;refine dv Nr ?_;refine dv Ah ?_;refine dv Ah ?_;refine dv Ah ?_
       obtain ⟨x15,g15,h⟩:=bnd h
       refine dv (NK (EP g15)) ?_;refine dv Ah ?_;refine dv Ah ?_
       obtain ⟨x16,g16,h⟩:=bnd h
       obtain ⟨n16,p016,q16⟩:=Ae g16
       refine dv (vix n16 p016 (A6 q16) rfl A2) ?_;refine dv (Ai AA) ?_
       obtain ⟨x17,g17,h⟩:=bnd h
       refine dv (NK (EP g17)) ?_
       obtain ⟨x18,g18,h⟩:=bnd h
       obtain ⟨n18,p018,q18⟩:=Ae g18
       refine dv (Oa (off:=0) (len:=(Is s12).length) n18 p018 (by rw [Af];exact (lS.1 q18).1) A2 (by decide)) ?_;refine dz ?_
       refine Mu (F:=Is) (D:=fun x=>.i .i64 x) FY (us:=s12) (n:=n18) (m:=Int.toNat s13) (x:=(Int.tmod (w64 (Int.tdiv s8 x14)) x16)) (by rw [p018];rfl) ⟨_,by rw [Nat.zero_add];exact A6 q18,rfl⟩ ?_ Dh
       refine RL.gk [1,2,3,6,7,8,10,11,12,13,14,15,16,34,35,38,39,40,46,47,48,49,50,51,52,53,54] ?_;refine .nil ?_;refine aw ?_;refine .gk [1,2,3,6,7,8,10,11,12,13,14,34,35,38,39,40] ?_;refine .region ?_;refine vb ?_;refine va ?_;refine .nil ?_;refine AL.gk [1,2,3,6,7,8,10,11,12,13,14,34,35,38,39,40] ?_
       exact ih (k,(List.set s12 (Int.toNat s13) (Int.tmod (w64 (Int.tdiv s8 x14)) x16)),(w64 (s13+1))) h (Nat.lt_succ_self _)
      refine cnf (dF hc) ?_;refine .gk [1,2,3,6,7,8,10,11,12,13,34,35] ?_;refine .exit ?_
      exact jr (s12) h
     rintro z11 h
     try dsimp only at h ⊢
     subst hK3
     refine aw ?_;refine .sr ?_;refine va ?_;refine mvo ?_
     obtain ⟨x19,g19,h⟩:=bnd h
     refine vk (YV 12 (oa2 _ _ g19)) ?_;refine ar [1,2,3,6,7,8,10,11,12,13,17,34,35] ?_;refine .sr ?_;refine va ?_;refine vb ?_;refine rk [1,2,3,6,7,8,10,11,12,13,17,34,35,61] ?_
     rcases brc h with ⟨hc,h⟩|⟨hc,h⟩
     ·refine cnt (dT hc) ?_
      refine .region ?_;refine mvo ?_;refine vk (vfa Au) ?_;refine vk (Ai Bp) ?_;refine va ?_
      obtain ⟨x20,g20,h⟩:=bnd h
      obtain ⟨n20,p020,q20⟩:=Ae g20
      refine vk (vix n20 p020 (CJ q20) rfl CL) ?_;refine vk (AC AJ An) ?_;refine vk ((C6 (Cz x20) (BW [x20]) BA).deep) ?_
      obtain ⟨x21,g21,h⟩:=bnd h
      refine N8 Ew g21 Fk ?_ Ee Aq BA
      refine aso ?_;refine RL.gk [1,2,3,6,7,8,10,11,12,13,34,35] ?_;refine .nil ?_
      exact jr (z11,x21) h
     refine cnf (dF hc) ?_;refine .region ?_;refine mvo ?_;refine vk (Jw AJ An) ?_;refine vk ((C6 (Cz x2) (BW [x2]) BA).deep) ?_
     obtain ⟨x22,g22,h⟩:=bnd h
     refine N8 Ew g22 Fk ?_ Ee Aq BA
     refine aso ?_;refine RL.gk [1,2,3,6,7,8,10,11,12,13,34,35] ?_;refine .nil ?_
     exact jr (z11,x22) h
    rintro ⟨z9,z10⟩ h
    try dsimp only at h ⊢
    subst hK2
    refine .region ?_;refine vb ?_;refine va ?_;refine .nil ?_;refine AL.gk [1,2,3,6,7,8,10,11,12,13,34,35] ?_
    exact ih (k,z9,z10,(w64 (s8+1))) h (Nat.lt_succ_self _)
   refine cnf (dF hc) ?_;refine .gk [1,6,7,8,10,13] ?_;refine .exit ?_
   exact jr (s7) h
  rintro z5 h
  try dsimp only at h ⊢
  subst hK0
  refine aw ?_;refine .seq ?_;refine .sr ?_;refine va ?_;refine vb ?_;refine rk [1,6,7,10,13,76] ?_
  obtain ⟨K5,hK5,h⟩:=AF h
  refine AW.mr (σ:=(List Itm)) (fun p=>K5 p=some r) (fun p=>[(1,.d (.sl (Is a1))),(6,.nb [.sl (Is []),.sl (Its [])]),(7,.d (.i .i64 0)),(13,.own 42 (Its p))]) (fun p=>[]) ?_ ?_
  ·skip
   rcases brc h with ⟨hc,h⟩|⟨hc,h⟩
   ·refine cnt (dT hc) ?_
    refine .region ?_;refine mvo ?_;refine vk (Jw AJ An) ?_;refine vk ((C6 (Cz x2) (BW [x2]) BA).deep) ?_
    obtain ⟨x24,g24,h⟩:=bnd h
    refine N8 Ew g24 Fk ?_ Ee Aq BA
    refine aso ?_;refine RL.gk [1,6,7,13] ?_;refine .nil ?_
    exact jr (x24) h
   refine cnf (dF hc) ?_;refine .gk [1,6,7,13] ?_;refine .skip ?_
   exact jr (z5) h
  rintro z23 h
  try dsimp only at h ⊢
  subst hK5
  refine aw ?_;refine .sr ?_;refine va ?_;refine fz (p:=.t 13) ?_;refine va ?_
  obtain ⟨x25,g25,h⟩:=bnd h
  refine vk (VOK.tupd (vs:=[.ag [.sl (Is x25.1.shape),.sl (Its x25.1.items)],.i .i64 x25.2]) (Ak (G4 g25) Tryz.call35)) ?_;refine vk vex ?_;refine vk vex ?_
  refine stn ?_ Aa (by decide)
  refine ar [6,7] ?_;refine .ret ?_
  cases h
  exact ⟨_,_,⟨.inr rfl,Ac,Aa,p2⟩,rfl,rfl⟩
 refine cnt (ntt (dF hc)) ?_;refine .sr ?_;refine vk (vbd CF AD AI) ?_;refine va ?_
 refine stn ?_ Aa (by decide)
 refine ar [1,2,3,6,7,8] ?_;refine .ret ?_
 cases h
 exact ⟨_,_,⟨.inr rfl,Ac,Aa,p2⟩,rfl,rfl⟩
def D5 (a0:(List Int)) (c0:(List Int)) (c1:Int) (c2:(List Int)) : Option (Int):=((rd? a0 c1).bind fun x1=>((rd? c0 x1).bind fun x2=>(if x2<0 then (some ((-1))) else ((El c2 a0).bind fun x3=>((rd? c2 c1).bind fun x4=>((rd? a0 c1).bind fun x5=>(some ((w64 (x3+(w64 (x4 * (w64 (x2-x5))))))))))))))
theorem LF {a0:(List Int)} {c0:(List Int)} {c1:Int} {c2:(List Int)} {r:Int} (h:D5 a0 c0 c1 c2=some r) :
  Fn Tryz.prog 123 [.sl (Is a0),.ptr [.sl (Is c0)],.ptr [.i .i64 c1],.ptr [.sl (Is c2)]] (.d (.i .i64 r)):=by
 unfold D5 at h
 refine Fn.o1 5 31 Tryz.func123 ?_;refine .sr ?_;refine ar [0,1,2,3,5] ?_;refine .seq ?_;refine .drawn 7 Bw (by kernel_rfl) ?_;refine dv (Ai Bh) ?_;refine dv Ah ?_;refine dv (Ai AA) ?_
 obtain ⟨x1,g1,h⟩:=bnd h
 obtain ⟨n1,p01,q1⟩:=Ae g1
 refine dv (vix n1 p01 (A6 q1) rfl A2) ?_;refine dv (Ai AA) ?_
 obtain ⟨x2,g2,h⟩:=bnd h
 obtain ⟨n2,p02,q2⟩:=Ae g2
 refine dv (vix n2 p02 (A6 q2) rfl A2) ?_;refine dv (Ai AA) ?_;refine dz ?_;refine ar [0,2,3,5,6] ?_;refine .seq ?_;refine .sr ?_;refine va ?_;refine vb ?_;refine rk [0,2,3,5,6,15] ?_
 rcases brc h with ⟨hc,h⟩|⟨hc,h⟩
 ·refine cnt (dT hc) ?_
  refine .sr ?_;refine ar [0,2,3,5,6] ?_;refine .ret ?_
  cases h
  exact ⟨rfl,rfl⟩
 refine cnf (dF hc) ?_;refine .sk ?_;refine .seq ?_;refine .drawn 15 Bw (by kernel_rfl) ?_;refine dv (Ai Bh) ?_;refine dv Ah ?_
 obtain ⟨x3,g3,h⟩:=bnd h
 refine dv (Ak (IK g3) Tryz.call84) ?_;refine dv (Ai Bh) ?_;refine dv (Ai AA) ?_
 obtain ⟨x4,g4,h⟩:=bnd h
 obtain ⟨n4,p04,q4⟩:=Ae g4
 refine dv (vix n4 p04 (A6 q4) rfl A2) ?_;refine dv (Ai AA) ?_;refine dv Ah ?_;refine dv Ah ?_;refine dv (Ai AA) ?_
 obtain ⟨x5,g5,h⟩:=bnd h
 obtain ⟨n5,p05,q5⟩:=Ae g5
 refine dv (vix n5 p05 (A6 q5) rfl A2) ?_;refine dv (Ai AA) ?_;refine dv vbi ?_;refine dv vbi ?_;refine dv vbi ?_;refine dz ?_;refine ar [5] ?_;refine .ret ?_
 cases h
 exact ⟨rfl,rfl⟩
def Bs (a0:Arr) (a1:Int) (a2:(List Int)) : Option (Arr×Int):=((EN a0.shape).bind fun x1=>((rd? x1 a1).bind fun x2=>((CR a0.shape).bind fun x3=>((Bn a0 (List.set x1 (Int.toNat a1) ((List.length a2:Nat) : Int)) (⟨.fn 123 [] [.ptr [.sl (Is a2)],.ptr [.i .i64 a1],.ptr [.sl (Is x3)]],fun x=>D5 x a2 a1 x3⟩ : Cf)).bind fun x4=>(some (x4.1,x4.2))))))
theorem Nu {a0:Arr} {a1:Int} {a2:(List Int)} {r:Arr×Int} (h:Bs a0 a1 a2=some r) :
  Fn Tryz.prog 80 [.ag [.sl (Is a0.shape),.sl (Its a0.items)],.i .i64 a1,.sl (Is a2)] (.tup [.d (.ag [.sl (Is r.1.shape),.sl (Its r.1.items)]),.d (.i .i64 r.2)]):=by
 unfold Bs at h
 refine Fn.ofC (rs:=[.cell 6 30,.tmp 7]) (nt:=27) Tryz.func80 rfl rfl rfl (by simp) rfl ?_;refine .sr ?_;refine vk vbx ?_;refine vk YL ?_;refine vk YL ?_;refine vk (van (Aj AD) AI) ?_;refine ar [3,4,5,6,7] ?_;refine .sr ?_;refine vk (vfa Ay) ?_;refine vk (Ai Bh) ?_
 obtain ⟨x1,g1,h⟩:=bnd h
 refine vk (Ak (G9 g1) Tryz.call75) ?_;refine aso ?_;refine rk [3,4,5,6,7,8] ?_;refine .sr ?_;refine mvo ?_;refine vk (Ai AA) ?_;refine vk (Ai Bh) ?_;refine vk (A9 (Af _) (BO _) BL) ?_
 obtain ⟨x2,g2,h⟩:=bnd h
 obtain ⟨n2,p02,q2⟩:=Ae g2
 refine ixr (off:=0) (len:=(Is x1).length) n2 p02 (by rw [Af];exact (lS.1 q2).1) ?_ A2 (by decide)
 refine Mu (F:=Is) (D:=fun x=>.i .i64 x) FY (us:=x1) (n:=n2) (m:=Int.toNat a1) (x:=((List.length a2:Nat):Int)) (by rw [p02];rfl) ⟨_,by rw [Nat.zero_add];exact A6 q2,rfl⟩ ?_ Dh
 refine RL.gk [3,4,5,6,7,8,14,15,16] ?_;refine rk [3,4,5,6,7,8] ?_;refine .sr ?_;refine vk (vfa Ay) ?_;refine vk (Ai Bh) ?_
 obtain ⟨x3,g3,h⟩:=bnd h
 refine vk (Ak (Fz g3) Tryz.call81) ?_;refine vk (van (Aj VI) Y6) ?_
 refine ZI ?_ OV
 refine rk [3,4,5,6,7,8,9] ?_;refine .sr ?_;refine vk (AC Ac Aa) ?_;refine fz (p:=.t 8) ?_;refine va ?_;refine RL.gh (Gh.nbp (t:=9) rfl) ?_;refine vk XZ ?_
 obtain ⟨x4,g4,h⟩:=bnd h
 refine vk (VOK.tupd (vs:=[.ag [.sl (Is x4.1.shape),.sl (Its x4.1.items)],.i .i64 x4.2]) (Ak (I4 (IA Tryz.call123 (fun _ _ h=>LF h)) g4) Tryz.call82)) ?_;refine vk vex ?_;refine vk vex ?_
 refine stn ?_ Aa (by decide)
 refine ar [6,7] ?_;refine .ret ?_
 cases h
 exact ⟨_,_,⟨.inr rfl,Ac,Aa,p2⟩,rfl,rfl⟩
def Hz (a0:Arr) (a1:Bool) : Option (Int):=(if a1=true then (some (0)) else (some ((if (w64 (((List.length a0.shape:Nat) : Int)-1))<0 then 0 else (w64 (((List.length a0.shape:Nat) : Int)-1))))))
theorem PQ {a0:Arr} {a1:Bool} {r:Int} (h:Hz a0 a1=some r) :
  Fn Tryz.prog 38 [.ag [.sl (Is a0.shape),.sl (Its a0.items)],.b a1] (.d (.i .i64 r)):=by
 unfold Hz at h
 refine Fn.o1 4 11 Tryz.func38 ?_;refine .sr ?_;refine vk vbx ?_;refine ar [1,2,4] ?_;refine .seq ?_;refine .sr ?_;refine va ?_;refine rk [2,4,5] ?_
 rcases brc h with ⟨hc,h⟩|⟨hc,h⟩
 ·refine cnt hc ?_
  refine .sr ?_;refine ar [2,4] ?_;refine .ret ?_
  cases h
  exact ⟨rfl,rfl⟩
 refine cnf (bf hc) ?_;refine .sk ?_;refine .sr ?_;refine vk (vfa Ay) ?_;refine vk (Ai Bh) ?_;refine vk (A9 (Af _) (BO _) BL) ?_;refine vb ?_;refine vk vmx ?_;refine ar [4] ?_;refine .ret ?_
 cases h
 exact ⟨rfl,rfl⟩
def Fv : List Int→List Int×Int
 | []=>([],1)
 | x::xs=>((Fv xs).2::(Fv xs).1,w64 ((Fv xs).2 * x))
theorem I0 : ∀ s : List Int,(Fv s).1.length=s.length
 | []=>rfl
 | x::xs=>by rw [Fv,List.length_cons,List.length_cons,I0 xs]
theorem KK {a:List Int} (hl:a.length≤17592186044416) (K:List Int→Option (List Int)) : ∀ (i k:Nat),i≤a.length→i<k →
  BV a K k (List.replicate i 0++(Fv (a.drop i)).1) (Fv (a.drop i)).2 ((i:Int)-1)=K (Fv a).1
 | _,0,_,h=>by omega
 | 0,k+1,_,_=>by rw [BV,if_neg (by omega)];rfl
 | i+1,k+1,hi,hk=>by
  have hlt:i<a.length:=by omega
  rw [BV,if_pos (by omega)]
  have e0:((i+1:Nat):Int)-1=(i:Int):=by omega
  have e1:List.replicate (i+1) (0:Int)++(Fv (a.drop (i+1))).1=List.replicate i 0++0::(Fv (a.drop (i+1))).1:=by
   rw [List.replicate_succ',List.append_assoc];rfl
  rw [e0,e1,AY (by simp),oB,AY hlt,oB,Int.toNat_natCast,List.set_append_right _ _ (by simp),List.length_replicate,Nat.sub_self,List.set_cons_zero,show w64 ((i:Int)-1)=(i:Int)-1 from Bi (by omega) (by omega)]
  have e2:a.drop i=a[i]::a.drop (i+1):=lC hlt
  have ih:=KK hl K i k (by omega) (by omega)
  rw [e2] at ih
  exact ih
theorem EU {a:List Int} (hl:a.length≤17592186044416) : CR a=some (Fv a).1:=by
 unfold CR
 have hg:E5 (0≤((List.length a:Nat):Int)∧((List.length a:Nat):Int)≤17592186044416)=some ():=if_pos (by omega)
 rw [hg,oB,A3]
 have:=KK hl (fun z=>some z) a.length Aw (Nat.le_refl _) (AS (by omega))
 rw [List.drop_of_length_le (Nat.le_refl _)] at this
 rw [Int.toNat_natCast,Bi (by omega) (by omega)]
 rw [show (Fv []).1=[] from rfl,List.append_nil] at this
 exact this
def pr : List Nat→Nat
 | []=>1
 | x::xs=>x * pr xs
def stN : List Nat→List Nat
 | []=>[]
 | _::xs=>pr xs::stN xs
def atN : List Nat→Nat→List Nat
 | [],_=>[]
 | x::xs,i=>(i / pr xs % x)::atN xs i
def plN : List Nat→List Nat→Nat
 | x::xs,y::ys=>x * y+plN xs ys
 | _,_=>0
def VC : List Nat→List Nat→Prop
 | [],[]=>True
 | x::xs,y::ys=>y<x∧VC xs ys
 | _,_=>False
theorem Lv : ∀ {t:List Nat},(∀ x∈t,0<x)→0<pr t
 | [],_=>Nat.one_pos
 | x::xs,h=>Nat.mul_pos (h x (by simp)) (Lv fun y hy=>h y (by simp [hy]))
theorem Kz : ∀ (t:List Nat) (i:Nat),plN (stN t) (atN t i)=i % pr t
 | [],i=>by rw [pr,Nat.mod_one];rfl
 | x::xs,i=>by
  show pr xs * (i / pr xs % x)+plN (stN xs) (atN xs i)=i % (x * pr xs)
  rw [Kz xs i,Nat.mul_comm x (pr xs),Nat.mod_mul,Nat.add_comm]
theorem J6 : ∀ {t:List Nat} (i:Nat),(∀ x∈t,0<x)→VC t (atN t i)
 | [],_,_=>trivial
 | x::xs,i,h=>⟨Nat.mod_lt _ (h x (by simp)),J6 i fun y hy=>h y (by simp [hy])⟩
theorem Nw : ∀ {t c:List Nat},VC t c→plN (stN t) c<pr t
 | [],[],_=>Nat.one_pos
 | x::xs,y::ys,⟨h1,h2⟩=>by
  have:=Nw h2
  show pr xs * y+plN (stN xs) ys<x * pr xs
  have h3:(y+1) * pr xs≤x * pr xs:=Nat.mul_le_mul_right _ h1
  rw [Nat.add_mul,Nat.one_mul,Nat.mul_comm y] at h3
  omega
 | [],_::_,h=>h.elim
 | _::_,[],h=>h.elim
theorem S8 : ∀ (t:List Nat) (y i:Nat),(∀ x∈t,0<x)→atN t (pr t * y+i)=atN t i
 | [],_,_,_=>rfl
 | x::xs,y,i,h=>by
  have hp:=Lv fun z hz=>h z (List.mem_cons_of_mem _ hz)
  show ((x * pr xs * y+i) / pr xs % x)::atN xs (x * pr xs * y+i)=(i / pr xs % x)::atN xs i
  have e:x * pr xs * y+i=pr xs * (x * y)+i:=by rw [Nat.mul_comm x (pr xs),Nat.mul_assoc]
  rw [e,S8 xs (x * y) i fun z hz=>h z (List.mem_cons_of_mem _ hz),Nat.mul_add_div hp,Nat.mul_add_mod]
theorem KR : ∀ {t c:List Nat},VC t c→atN t (plN (stN t) c)=c
 | [],[],_=>rfl
 | x::xs,y::ys,⟨h1,h2⟩=>by
  have hpos:∀ {t c:List Nat},VC t c→∀ z∈t,0<z:=by
   intro t
   induction t with
   | nil=>intro c _ z hz;cases hz
   | cons u us ih =>
    intro c hc z hz
    cases c with
    | nil=>exact hc.elim
    | cons v vs =>
     rcases List.mem_cons.1 hz with rfl|hz
     ·exact Nat.lt_of_le_of_lt (Nat.zero_le _) hc.1
     ·exact ih hc.2 z hz
  have hp:=hpos h2
  have hr:=Nw h2
  show ((pr xs * y+plN (stN xs) ys) / pr xs % x)::atN xs (pr xs * y+plN (stN xs) ys)=y::ys
  rw [S8 xs y _ hp,KR h2,Nat.mul_add_div (Lv hp),Nat.div_eq_of_lt hr,Nat.add_zero,Nat.mod_eq_of_lt h1]
 | [],_::_,h=>h.elim
 | _::_,[],h=>h.elim
theorem Pd : ∀ {t c:List Nat},VC t c→c.length=t.length
 | [],[],_=>rfl
 | x::xs,y::ys,⟨_,h⟩=>by rw [List.length_cons,List.length_cons,Pd h]
 | [],_::_,h=>h.elim
 | _::_,[],h=>h.elim
theorem Ko : ∀ {t c:List Nat},VC t c→∀ (k:Nat) (h1:k<c.length) (h2:k<t.length),c[k]<t[k]
 | x::xs,y::ys,⟨h,_⟩,0,_,_=>h
 | x::xs,y::ys,⟨_,h⟩,k+1,h1,h2=>Ko h k (by simpa using h1) (by simpa using h2)
 | [],[],_,_,h1,_=>by simp at h1
 | [],_::_,h,_,_,_=>h.elim
 | _::_,[],h,_,_,_=>h.elim
theorem VJ : ∀ {t c:List Nat},c.length=t.length→(∀ (k:Nat) (h1:k<c.length) (h2:k<t.length),c[k]<t[k])→VC t c
 | [],[],_,_=>trivial
 | x::xs,y::ys,hl,h=>⟨h 0 (by simp) (by simp),VJ (by simpa using hl) fun k h1 h2=>h (k+1) (by simpa using h1) (by simpa using h2)⟩
 | [],_::_,hl,_=>by simp at hl
 | _::_,[],hl,_=>by simp at hl
theorem Ci (t:List Nat) (i:Nat) : (atN t i).length=t.length:=by
 induction t with
 | nil=>rfl
 | cons x xs ih=>rw [atN,List.length_cons,List.length_cons,ih]
theorem Dt (t:List Nat) : (stN t).length=t.length:=by
 induction t with
 | nil=>rfl
 | cons x xs ih=>rw [stN,List.length_cons,List.length_cons,ih]
theorem SR : ∀ (l c:List Nat) (k v:Nat) (h1:k<c.length) (h2:k<l.length),plN l (c.set k v)+l[k] * c[k]=plN l c+l[k] * v
 | x::xs,y::ys,0,v,_,_=>by
  show x * v+plN xs ys+x * y=x * y+plN xs ys+x * v
  omega
 | x::xs,y::ys,k+1,v,h1,h2=>by
  have h1':k<ys.length:=by simpa using h1
  have h2':k<xs.length:=by simpa using h2
  have:=SR xs ys k v h1' h2'
  show x * y+plN xs (ys.set k v)+xs[k] * ys[k]=x * y+plN xs ys+xs[k] * v
  omega
 | [],_,_,_,_,h2=>by simp at h2
 | _::_,[],_,_,h1,_=>by simp at h1
def up_ (t:List Nat) : List Int:=t.map fun n : Nat=>((n:Nat) : Int)
theorem Az (t:List Nat) : (up_ t).length=t.length:=by simp [up_]
theorem I5 : ∀ t : List Nat,Ca (up_ t)=(pr t:Int)
 | []=>rfl
 | x::xs=>by
  have e:Ca (up_ (x::xs))=(x:Int) * Ca (up_ xs):=by
   show Ca ((x:Int)::up_ xs)=_
   unfold Ca;rw [List.foldl_cons,Hp,Int.one_mul]
  rw [e,I5 xs,pr]
  exact (Int.natCast_mul _ _).symm
theorem Jf {s:List Int} {n:Nat} (h:szP s=((n:Int),0)) (h0:n≠0) : ∃ t : List Nat,s=up_ t∧(∀ x∈t,0<x∧x≤4096)∧pr t=n∧n≤4096∧t.length≤8:=by
 have hle:=EQ s
 unfold szP at h
 split at h
 ·exact absurd (congrArg Prod.snd h) (by simp)
 split at h
 ·exact absurd (congrArg Prod.snd h) (by simp)
 split at h
 ·exact absurd (congrArg Prod.snd h) (by simp)
 split at h
 ·have:=congrArg Prod.fst h
  simp only at this
  omega
 split at h
 ·rename_i h8 hneg hbig hz hp
  have hp1:Ca s=(n:Int):=congrArg Prod.fst h
  have each:∀ x∈s,1≤x∧x≤4096:=fun x hx=>by
   simp only [List.any_eq_true,decide_eq_true_eq,not_exists,not_and] at hneg hbig
   have a:=hneg x hx
   have b:=hbig x hx
   have c:x≠0:=fun e=>hz (e▸hx)
   omega
  have es:s=up_ (s.map Int.toNat):=by
   unfold up_
   rw [List.map_map]
   refine (List.map_id' s).symm.trans (List.map_congr_left fun x hx=>?_)
   have:=each x hx
   show x=((x.toNat:Nat):Int)
   omega
  refine ⟨s.map Int.toNat,es,fun x hx=>?_,?_,by omega,by simp;omega⟩
  ·obtain ⟨y,hy,rfl⟩:=List.mem_map.1 hx
   have:=each y hy
   omega
  ·rw [es,I5] at hp1
   omega
 ·exact absurd (congrArg Prod.snd h) (by simp)
theorem YO {t:List Nat} (h8:t.length≤8) (h:∀ x∈t,0<x∧x≤4096) (hp:pr t≤4096) : szP (up_ t)=((pr t:Int),0):=by
 have hm:∀ x∈up_ t,1≤x∧x≤4096:=fun x hx=>by
  obtain ⟨y,hy,rfl⟩:=List.mem_map.1 hx
  have:=h y hy;omega
 unfold szP
 rw [if_neg (by rw [Az];omega),if_neg,if_neg,if_neg,I5,if_pos (by omega)]
 ·intro h0;have:=hm 0 h0;omega
 ·simp only [List.any_eq_true,decide_eq_true_eq,not_exists,not_and]
  intro x hx;have:=hm x hx;omega
 ·simp only [List.any_eq_true,decide_eq_true_eq,not_exists,not_and]
  intro x hx;have:=hm x hx;omega
theorem Kq : ∀ {t:List Nat},pr t≤4096→(∀ x∈t,0<x)→Fv (up_ t)=(up_ (stN t),(pr t:Int))
 | [],_,_=>rfl
 | x::xs,h,hp=>by
  have hx:=hp x (by simp)
  have h1:pr xs≤pr (x::xs):=by
   show pr xs≤x * pr xs
   exact Nat.le_mul_of_pos_left _ hx
  have ih:=Kq (t:=xs) (by omega) fun y hy=>hp y (by simp [hy])
  show ((Fv (up_ xs)).2::(Fv (up_ xs)).1,w64 ((Fv (up_ xs)).2 * (x:Int)))=_
  rw [ih]
  have e:(pr xs:Int) * (x:Int)=(pr (x::xs):Int):=by
   rw [← Int.natCast_mul,Nat.mul_comm];rfl
  show ((pr xs:Int)::up_ (stN xs),w64 ((pr xs:Int) * (x:Int)))=_
  rw [e,Bi (by omega) (by omega)]
  rfl
theorem RV : ∀ {t:List Nat},(∀ x∈t,0<x)→∀ y∈stN t,y≤pr t
 | x::xs,h,y,hy=>by
  have hx:=h x (by simp)
  have h1:pr xs≤pr (x::xs):=by
   show pr xs≤x * pr xs
   exact Nat.le_mul_of_pos_left _ hx
  rcases List.mem_cons.1 hy with rfl|hy
  ·exact h1
  ·have:=RV (fun z hz=>h z (List.mem_cons_of_mem _ hz)) y hy
   omega
theorem SS : ∀ {t:List Nat},(∀ x∈t,0<x)→∀ y∈stN t,0<y
 | x::xs,h,y,hy=>by
  have hp:=Lv fun z hz=>h z (List.mem_cons_of_mem x hz)
  rcases List.mem_cons.1 hy with rfl|hy
  ·exact hp
  ·exact SS (fun z hz=>h z (List.mem_cons_of_mem _ hz)) y hy
theorem GC {t:List Nat} {i:Nat} (h:i<t.length) : (up_ t)[i]'(by rw [Az];exact h)=(t[i] : Int):=by simp [up_]
theorem KO {t:List Nat} {i:Nat} (h:i<t.length) : rd? (up_ t) (i:Int)=some (t[i] : Int):=by
 rw [AY (by rw [Az];exact h),GC h]
theorem Vg : ∀ (l c:List Nat) (i:Nat) (h1:i<l.length) (h2:i<c.length),plN (l.drop i) (c.drop i)=l[i] * c[i]+plN (l.drop (i+1)) (c.drop (i+1)):=fun l c i h1 h2=>by
 rw [lC h1,lC h2];rfl
theorem KZ {a b:Nat} (ha:a≤4096) (hb:b≤4096) : a * b≤16777216:=Nat.mul_le_mul ha hb
theorem M6 {l c:List Nat} (h8:l.length≤8) (hlen:l.length≤c.length) (hl:∀ x∈l,x≤4096) (hc:∀ x∈c,x≤4096) (K:Int→Option Int) : ∀ (n i k m:Nat),n=l.length-i→i≤l.length→n<k→m≤i * 16777216 →
  CY (up_ l) (up_ c) K k (m:Int) (i:Int)=K ((m+plN (l.drop i) (c.drop i):Nat):Int)
 | _,_,0,_,_,_,h,_=>by omega
 | n,i,k+1,m,hn,hi,hk,hm=>by
  rw [CY]
  by_cases h:i<l.length
  ·have h2:i<c.length:=by omega
   have hb:=KZ (hl _ (List.getElem_mem h)) (hc _ (List.getElem_mem h2))
   rw [if_pos (by rw [Az];omega),KO h,oB,KO h2,oB,← Int.natCast_mul,show w64 ((l[i] * c[i]:Nat):Int)=((l[i] * c[i]:Nat):Int) from Bi (by omega) (by omega),show w64 ((m:Int)+((l[i] * c[i]:Nat):Int))=(m:Int)+((l[i] * c[i]:Nat):Int) from Bi (by omega) (by omega),A4 (by omega),← Int.natCast_add,
    M6 h8 hlen hl hc K (n-1) (i+1) k _ (by omega) (by omega) (by omega) (by omega),Vg l c i h h2,Nat.add_assoc]
  ·rw [if_neg (by rw [Az];omega),List.drop_of_length_le (by omega)]
   simp [plN]
theorem Rd {l c:List Nat} (h8:l.length≤8) (hlen:l.length≤c.length) (hl:∀ x∈l,x≤4096) (hc:∀ x∈c,x≤4096) : El (up_ l) (up_ c)=some ((plN l c:Nat) : Int):=by
 unfold El
 rw [A3]
 have:=M6 h8 hlen hl hc (fun z=>some z) l.length 0 Aw 0 rfl (Nat.zero_le _) (AS (by omega)) (by omega)
 rw [List.drop_zero,List.drop_zero,Nat.zero_add] at this
 exact this
end Go.FL
