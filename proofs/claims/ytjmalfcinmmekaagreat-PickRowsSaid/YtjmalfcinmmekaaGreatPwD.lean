/-
  Part 4 of the base of the proofs: a logic of our own over the calculus, the contracts of the functions
-/
import Derived.Test.YtjmalfcinmmekaaGreatPwC
set_option linter.unusedVariables false
namespace Go.FL
open Go Go.Proofs
mutual
def okI : Itm→Prop
 | .mk k n c b=>(0≤k∧k<256)∧Jr n=true∧(-2147483648≤c∧c<2147483648)∧b.length≤2932031007402∧okAs b
def okAr : Arr→Prop
 | .mk s i=>(∀ z∈s,-9223372036854775808≤z∧z≤9223372036854775807)∧s.length≤17592186044416∧i.length≤1466015503701∧okIs i
def okIs : List Itm→Prop
 | []=>True
 | x::xs=>okI x∧okIs xs
def okAs : List Arr→Prop
 | []=>True
 | x::xs=>okAr x∧okAs xs
end
theorem QB : ∀ {xs:List Itm},okIs xs↔∀ x∈xs,okI x
 | []=>by simp [okIs]
 | x::xs=>by simp [okIs,QB (xs:=xs)]
theorem PC : ∀ {xs:List Arr},okAs xs↔∀ x∈xs,okAr x
 | []=>by simp [okAs]
 | x::xs=>by simp [okAs,PC (xs:=xs)]
theorem Et (x:Itm) : okI x↔(0≤x.kind∧x.kind<256)∧Jr x.num=true∧(-2147483648≤x.char∧x.char<2147483648)∧x.box.length≤2932031007402∧∀ a∈x.box,okAr a:=by
 cases x;simp only [okI,PC,Itm.kind,Itm.num,Itm.char,Itm.box]
theorem BR (a:Arr) : okAr a↔(∀ z∈a.shape,-9223372036854775808≤z∧z≤9223372036854775807)∧a.shape.length≤17592186044416∧a.items.length≤1466015503701∧∀ x∈a.items,okI x:=by
 cases a;simp only [okAr,QB,Arr.shape,Arr.items]
theorem Ol : ∀ {xs:List Itm} {x:Itm},x∈xs→x.size≤itsSize xs
 | y::xs,x,h=>by
  rw [itsSize]
  rcases List.mem_cons.1 h with rfl|h
  ·omega
  ·have:=Ol h;omega
theorem PJ : ∀ {xs:List Arr} {x:Arr},x∈xs→x.size≤arsSize xs
 | y::xs,x,h=>by
  rw [arsSize]
  rcases List.mem_cons.1 h with rfl|h
  ·omega
  ·have:=PJ h;omega
theorem J5 {a:Arr} {x:Itm} (h:x∈a.items) : x.size<a.size:=by
 cases a;have:=Ol (xs:=_) h;simp only [Arr.size,Arr.items] at *;omega
theorem IG {x:Itm} {a:Arr} (h:a∈x.box) : a.size<x.size:=by
 cases x;have:=PJ (xs:=_) h;simp only [Itm.size,Itm.box] at *;omega
theorem B9 {n:Nat} (h:n≤140737488355328) : n<AC:=by unfold AC;omega
theorem Cr {i:Nat} (h:i≤9223372036854775806) : w64 ((i:Int)+1)=((i+1:Nat) : Int):=by rw [B8 (by omega) (by omega)];omega
theorem UV {α:Type} {xs:List α} {i:Nat} {x:α} (h:xs[i]?=some x) : rd? xs (i:Int)=some x:=by
 rw [rd?,if_pos (by omega)];simpa using h
theorem CD {α:Type} {xs:List α} {i:Nat} (h:i<xs.length) : rd? xs (i:Int)=some xs[i]:=UV (lG h)
theorem GN {α:Type} {m:Nat} {xs ys:List α} (h:xs.length+ys.length≤m) : ap? m xs ys=some (xs++ys):=if_pos h
theorem Io {α:Type} {x:α} {xs:List α} : rd? (x::xs) 0=some x:=rfl
theorem LC {xs:List Int} {f:Cj} {p:Int→Bool} (hf:∀ x∈xs,f.g x=some (p x)) (K:Int→Option Int) (hl:xs.length≤17592186044416) : ∀ (n i k:Nat) (s:Int),n=xs.length-i→i≤xs.length→n<k →
  AU xs f K k s (i:Int)=match (xs.drop i).findIdx? p with|some j=>some (((i+j:Nat)):Int)|none=>K s
 | n,i,0,s,_,_,h=>by omega
 | n,i,k+1,s,hn,hi,hk=>by
  rw [AU]
  by_cases hlt:i<xs.length
  ·rw [if_pos (by omega),CD hlt,oB,hf _ (List.getElem_mem _),oB,lC hlt,List.findIdx?_cons]
   by_cases hp:p xs[i]=true
   ·rw [if_pos hp,if_pos hp];rfl
   ·rw [if_neg hp,if_neg hp,Cr (by omega),LC hf K hl (n-1) (i+1) k s (by omega) (by omega) (by omega)]
    cases (xs.drop (i+1)).findIdx? p with
    | none=>rfl
    | some j=>simp only [Option.map_some];congr 1;omega
  ·rw [if_neg (by omega),List.drop_of_length_le (by omega)];rfl
theorem Ih {xs:List Int} {f:Cj} {p:Int→Bool} (hf:∀ x∈xs,f.g x=some (p x)) (hl:xs.length≤17592186044416) : Ba xs f=some (xs.any p):=by
 unfold Ba Cb
 simp only [jn]
 have:=LC hf (fun _=>some (-1)) hl xs.length 0 AC 0 rfl (Nat.zero_le _) (B9 (by omega))
 rw [List.drop_zero] at this
 rw [show ((0:Nat):Int)=0 from rfl] at this
 rw [this]
 cases h:xs.findIdx? p with
 | none =>
  rw [oB]
  rw [List.findIdx?_eq_none_iff] at h
  rw [show (xs.any p)=false by rw [List.any_eq_false];intro x hx;simp [h x hx]]
  rfl
 | some j =>
  rw [oB]
  rw [List.findIdx?_eq_some_iff_getElem] at h
  obtain ⟨hj,h1,_⟩:=h
  rw [show (xs.any p)=true by rw [List.any_eq_true];exact ⟨_,List.getElem_mem hj,h1⟩]
  simp
theorem Kg {xs:List Int} {v:Int} (K:Int→Option Int) (hl:xs.length≤17592186044416) : ∀ (n i k:Nat) (s:Int),n=xs.length-i→i≤xs.length→n<k →
  Bf xs v K k s (i:Int)=match (xs.drop i).findIdx? (fun x=>decide (v=x)) with|some j=>some (((i+j:Nat)):Int)|none=>K s
 | n,i,0,s,_,_,h=>by omega
 | n,i,k+1,s,hn,hi,hk=>by
  rw [Bf]
  by_cases hlt:i<xs.length
  ·rw [if_pos (by omega),CD hlt,oB,lC hlt,List.findIdx?_cons]
   by_cases hp:v=xs[i]
   ·rw [if_pos hp,if_pos (dT hp)];rfl
   ·rw [if_neg hp,if_neg (by simp [hp]),Cr (by omega),Kg K hl (n-1) (i+1) k s (by omega) (by omega) (by omega)]
    cases (xs.drop (i+1)).findIdx? (fun x=>decide (v=x)) with
    | none=>rfl
    | some j=>simp only [Option.map_some];congr 1;omega
  ·rw [if_neg (by omega),List.drop_of_length_le (by omega)];rfl
theorem Qa {xs:List Int} {v:Int} (hl:xs.length≤17592186044416) : BJ xs v=some (decide (v∈xs)):=by
 unfold BJ CX
 simp only [jn]
 have:=Kg (v:=v) (fun _=>some (-1)) hl xs.length 0 AC 0 rfl (Nat.zero_le _) (B9 (by omega))
 rw [List.drop_zero] at this
 rw [show ((0:Nat):Int)=0 from rfl] at this
 rw [this]
 cases h:xs.findIdx? (fun x=>decide (v=x)) with
 | none =>
  rw [oB]
  rw [List.findIdx?_eq_none_iff] at h
  rw [show decide (v∈xs)=false by rw [decide_eq_false_iff_not];intro hx;have:=h v hx;simp at this]
  rfl
 | some j =>
  rw [oB]
  rw [List.findIdx?_eq_some_iff_getElem] at h
  obtain ⟨hj,h1,_⟩:=h
  rw [show decide (v∈xs)=true by rw [decide_eq_true_eq];rw [decide_eq_true_eq] at h1;rw [h1];exact List.getElem_mem hj]
  simp
def E3 (s:List Int) : Int:=s.foldl (· * ·) 1
def szP (s:List Int) : Int×Int :=
 if 8<s.length then (0,4) else if s.any (fun n=>decide (n<0)) then (0,3) else if s.any (fun n=>decide (4096<n)) then (0,8) else if 0∈s then (0,0) else if E3 s≤4096 then (E3 s,0) else (0,8)
theorem KW (s:List Int) : ∀ n : Int,s.foldl (· * ·) n=n * s.foldl (· * ·) 1:=by
 induction s with
 | nil=>intro n;simp
 | cons x xs ih=>intro n;rw [List.foldl_cons,List.foldl_cons,ih (n * x),ih (1 * x),Int.one_mul,Int.mul_assoc]
theorem Ot {s:List Int} (h:∀ x∈s,1≤x) : 1≤E3 s:=by
 induction s with
 | nil=>exact Int.le_refl _
 | cons x xs ih =>
  have h1:=h x (by simp)
  have h2:=ih fun y hy=>h y (by simp [hy])
  unfold E3 at *
  rw [List.foldl_cons,KW,Int.one_mul]
  exact Int.le_trans (by omega:(1:Int)≤1 * 1) (Int.mul_le_mul h1 h2 (by omega) (by omega))
theorem N3 {s:List Int} (hl:s.length≤8) (hp:∀ x∈s,1≤x∧x≤4096) (K:Int→Int→Int→Option (Int×Int)) : ∀ (n i k:Nat) (a b m:Int),n=s.length-i→i≤s.length→n<k→1≤m→m≤4096 →
  C9 s K k a b m (i:Int)=if m * E3 (s.drop i)≤4096 then K a b (m * E3 (s.drop i)) else some (0,8)
 | n,i,0,a,b,m,_,_,h,_,_=>by omega
 | n,i,k+1,a,b,m,hn,hi,hk,h1,h2=>by
  rw [C9]
  by_cases hlt:i<s.length
  ·rw [if_pos (by omega),CD hlt,oB,Fp,if_pos (by omega),oB,lC hlt]
   have hx:=hp s[i] (List.getElem_mem _)
   have hq0:0≤Int.tdiv 4096 m:=Int.tdiv_nonneg (by omega) (by omega)
   have hq1:Int.tdiv 4096 m≤4096:=by rw [Int.tdiv_eq_ediv_of_nonneg (by omega)];exact Int.ediv_le_self _ (by omega)
   rw [B8 (by omega) (by omega)]
   have hpos:1≤E3 (s.drop (i+1)):=Ot fun x hx=>(hp x (List.mem_of_mem_drop hx)).1
   have hprod:E3 (s[i]::s.drop (i+1))=s[i] * E3 (s.drop (i+1)):=by unfold E3;rw [List.foldl_cons,KW,Int.one_mul]
   have hdiv:Int.tdiv 4096 m<s[i]↔4096<m * s[i]:=by
    rw [Int.tdiv_eq_ediv_of_nonneg (by omega),Int.ediv_lt_iff_lt_mul (by omega),Int.mul_comm]
   rw [hprod,← Int.mul_assoc]
   by_cases hc:4096<m * s[i]
   ·rw [if_pos (hdiv.2 hc),if_neg]
    have:m * s[i] * 1≤m * s[i] * E3 (s.drop (i+1)):=Int.mul_le_mul_of_nonneg_left hpos (by omega)
    omega
   ·have hm1:1≤m * s[i]:=Int.le_trans (by omega:(1:Int)≤1 * 1) (Int.mul_le_mul h1 hx.1 (by omega) (by omega))
    rw [if_neg (fun h=>hc (hdiv.1 h)),Cr (by omega),B8 (by omega) (by omega)]
    exact N3 hl hp K (n-1) (i+1) k a b (m * s[i]) (by omega) (by omega) (by omega) hm1 (by omega)
  ·rw [if_neg (by omega),List.drop_of_length_le (by omega)]
   rw [show E3 []=1 from rfl,Int.mul_one,if_pos h2]
theorem Jd {s:List Int} (hl:s.length≤17592186044416) : C7 s=some (szP s):=by
 unfold C7 szP
 by_cases h8:8<s.length
 ·rw [if_pos (by omega),if_pos h8]
 rw [if_neg (by omega),if_neg h8]
 rw [Ih (p:=fun n=>decide (n<0)) (fun x _=>rfl) hl,oB]
 by_cases h0:s.any (fun n=>decide (n<0))=true
 ·rw [if_pos h0,if_pos h0]
 rw [if_neg h0,if_neg h0]
 rw [Ih (p:=fun n=>decide (4096<n)) (fun x _=>rfl) hl,oB]
 by_cases h1:s.any (fun n=>decide (4096<n))=true
 ·rw [if_pos h1,if_pos h1]
 rw [if_neg h1,if_neg h1,Qa hl,oB]
 by_cases h2:0∈s
 ·rw [if_pos (dT h2),if_pos h2]
 rw [if_neg (by simp [h2]),if_neg h2]
 have hp:∀ x∈s,1≤x∧x≤4096:=fun x hx=>by
  simp only [List.any_eq_true,decide_eq_true_eq,not_exists,not_and] at h0 h1
  have a:=h0 x hx
  have b:=h1 x hx
  have c:x≠0:=fun e=>h2 (e▸hx)
  omega
 have:=N3 (by omega) hp (fun z4 z5 z6=>some (z6,0)) s.length 0 AC 0 0 1 rfl (Nat.zero_le _) (B9 (by omega)) (by omega) (by omega)
 rw [List.drop_zero,Int.one_mul,show ((0:Nat):Int)=0 from rfl] at this
 simp only [jn]
 rw [this]
 split<;>rfl
theorem Pg (s:List Int) : 0≤(szP s).1∧(szP s).1≤4096:=by
 unfold szP
 split
 ·exact ⟨by decide,by decide⟩
 split
 ·exact ⟨by decide,by decide⟩
 split
 ·exact ⟨by decide,by decide⟩
 split
 ·exact ⟨by decide,by decide⟩
 split
 ·rename_i h8 h0 h1 h2 h3
  refine ⟨?_,h3⟩
  have:1≤E3 s:=Ot fun x hx=>by
   simp only [List.any_eq_true,decide_eq_true_eq,not_exists,not_and] at h0 h1
   have a:=h0 x hx
   have c:x≠0:=fun e=>h2 (e▸hx)
   omega
  omega
 ·exact ⟨by decide,by decide⟩
def Bq (rc_ref03_Same:Arr→Arr→Option (Bool)) (a0:Itm) (a1:Itm) (K0:Bool→Option (Bool)) : Nat→Bool→Int→Option (Bool)
 | 0,_,_=>none
 | k+1,s4,s5=>(if s5<((List.length a0.box:Nat):Int) then ((rd? a0.box s5).bind fun x6=>((rd? a1.box s5).bind fun x7=>((rc_ref03_Same x6 x7).bind fun x8=>(if x8=true then (Bq rc_ref03_Same a0 a1 K0 k s4 (w64 (s5+1))) else (some (false)))))) else (K0 s4))
def BP (rc_ref03_Same:Arr→Arr→Option (Bool)) (a0:Itm) (a1:Itm) : Option (Bool):=(Option.bind ((if a0.kind=a1.kind then (if a0.char=a1.char then ((KC a0.num a1.num).bind fun x2=>(if x2=true then (some (!(decide (((List.length a0.box:Nat) : Int)=((List.length a1.box:Nat) : Int))))) else (some true))) else (some true)) else (some true)) : Option (Bool)) fun (z1:Bool)=>(if z1=true then (some (false)) else (jn (fun (z3:Bool)=>(some (true))) fun K0=>(Bq rc_ref03_Same a0 a1 K0 AC false 0))))
theorem KE {rc_ref03_Same:Arr→Arr→Option (Bool)} (orc_ref03_Same:∀ x0 x1 r,rc_ref03_Same x0 x1=some r→Fn Tryz.prog 21 [.ag [.sl (Is x0.shape),.sl (Its x0.items)],.ag [.sl (Is x1.shape),.sl (Its x1.items)]] (.d (.b r))) {a0:Itm} {a1:Itm} {r:Bool} (h:BP rc_ref03_Same a0 a1=some r) :
  Fn Tryz.prog 27 [.ag [.i .u8 a0.kind,.b a0.num.1,.sl (L a0.num.2.1),.sl (L a0.num.2.2),.i .i32 a0.char,.sl (Ars a0.box)],.ag [.i .u8 a1.kind,.b a1.num.1,.sl (L a1.num.2.1),.sl (L a1.num.2.2),.i .i32 a1.char,.sl (Ars a1.box)]] (.d (.b r)):=by
 unfold BP at h
 refine Fn.o1 4 54 Tryz.func27 ?_;refine .sr ?_;refine vk vbx ?_;refine vk vbx ?_;refine ar [2,3,4] ?_;refine .seq ?_;refine .seq ?_
 obtain ⟨z1,hz,h⟩:=bnd h
 refine AW.mr (σ:=Unit) (fun _=>True) (fun _=>[(2,.d (.ptr [.i .u8 a0.kind,.b a0.num.1,.sl (L a0.num.2.1),.sl (L a0.num.2.2),.i .i32 a0.char,.sl (Ars a0.box)])),(3,.d (.ptr [.i .u8 a1.kind,.b a1.num.1,.sl (L a1.num.2.1),.sl (L a1.num.2.2),.i .i32 a1.char,.sl (Ars a1.box)])),(4,.d (.b false)),(34,.d (.b z1))]) (fun _=>[]) ?_ ?_
 ·skip
  refine .region ?_;refine vk (vfa BY) ?_;refine vk (Aj Bb) ?_;refine vk (vfa BY) ?_;refine vk (Aj Bb) ?_;refine vb ?_
  rcases brc hz with ⟨hc,hz⟩|⟨hc,hz⟩
  ·have hb0:(!(decide (a0.kind=a1.kind)))=false:=(ntf (dT hc))
   refine vL hb0 ?_;refine vk (vfa DJ) ?_;refine vk (Aj DC) ?_;refine vk (vfa DJ) ?_;refine vk (Aj DC) ?_;refine vb ?_;refine vk Aq ?_
   rcases brc hz with ⟨hc,hz⟩|⟨hc,hz⟩
   ·have hb1:(!(decide (a0.char=a1.char)))=false:=(ntf (dT hc))
    refine vL hb1 ?_;refine vk (vfa BS) ?_;refine vk (Ao A8 AG) ?_;refine vk (vfa BS) ?_;refine vk (Ao A8 AG) ?_
    obtain ⟨x2,g2,hz⟩:=bnd hz
    refine vk (Ai (LN g2) Tryz.call23) ?_;refine vk vnt ?_;refine vk Aq ?_
    rcases brc hz with ⟨hc,hz⟩|⟨hc,hz⟩
    ·have hb2:(!x2)=false:=(ntf hc)
     refine vL hb2 ?_;refine vk (vfa Bh) ?_;refine vk (Aj Cv) ?_;refine vk (A0 (A6 _) (EF _) D0) ?_;refine vk (vfa Bh) ?_;refine vk (Aj Cv) ?_;refine vk (A0 (A6 _) (EF _) D0) ?_;refine vb ?_;refine vk Aq ?_;refine RL.gk [2,3,4,34] ?_;refine .nil ?_
     cases hz
     exact jr () trivial
    have hb2:(!x2)=true:=(ntt (bf hc))
    refine vL hb2 ?_;refine gf4 ?_;refine gf3 ?_;refine vk Aq ?_;refine RL.gk [2,3,4,34] ?_;refine .nil ?_
    cases hz
    exact jr () trivial
   have hb1:(!(decide (a0.char=a1.char)))=true:=(ntt (dF hc))
   refine vL hb1 ?_;refine gf4 ?_;refine gf2 ?_;refine vk Aq ?_;refine va ?_;refine gf4 ?_;refine gf3 ?_;refine vk Aq ?_;refine RL.gk [2,3,4,34] ?_;refine .nil ?_
   cases hz
   exact jr () trivial
  have hb0:(!(decide (a0.kind=a1.kind)))=true:=(ntt (dF hc))
  refine vL hb0 ?_;refine gf4 ?_;refine gf ?_;refine vk Aq ?_;refine va ?_;refine gf4 ?_;refine gf2 ?_;refine vk Aq ?_;refine va ?_;refine gf4 ?_;refine gf3 ?_;refine vk Aq ?_;refine RL.gk [2,3,4,34] ?_;refine .nil ?_
  cases hz
  exact jr () trivial
 rintro _ _
 rcases brc h with ⟨hc,h⟩|⟨hc,h⟩
 ·refine cnt hc ?_
  refine .sr ?_;refine ar [2,3,4] ?_;refine .ret ?_
  cases h
  exact ⟨rfl,rfl⟩
 refine cnf (bf hc) ?_;refine .sk ?_;refine .seq ?_;refine .sr ?_;refine ar [2,3,4,5] ?_
 obtain ⟨K0,hK0,h⟩:=AE h
 refine AW.mr (σ:=Bool) (fun p=>K0 p=some r) (fun p=>[(4,.d (.b p))]) (fun p=>[]) ?_ ?_
 ·skip
  refine .block ?_
  refine .loop (.gk [2,3,4,5] ?_)
  refine AL.ind (σ:=Nat×Bool×Int) (m:=fun p=>p.1) (e:=fun p=>[(2,.d (.ptr [.i .u8 a0.kind,.b a0.num.1,.sl (L a0.num.2.1),.sl (L a0.num.2.2),.i .i32 a0.char,.sl (Ars a0.box)])),(3,.d (.ptr [.i .u8 a1.kind,.b a1.num.1,.sl (L a1.num.2.1),.sl (L a1.num.2.2),.i .i32 a1.char,.sl (Ars a1.box)])),(4,.d (.b p.2.1)),(5,.d (.i .i64 p.2.2))]) (h:=fun p=>[]) (I:=fun p=>Bq rc_ref03_Same a0 a1 K0 p.1 p.2.1 p.2.2=some r) ?_ (AC,false,0) h
  rintro ⟨k,s4,s5⟩ h ih
  dsimp only at h ih ⊢
  rcases k with _|k
  ·rw [Bq] at h;cases h
  rw [Bq] at h
  refine .seq ?_;refine .sr ?_;refine va ?_;refine vk (vfa Bh) ?_;refine vk (Aj Cv) ?_;refine vk (A0 (A6 _) (EF _) D0) ?_;refine vb ?_;refine rk [2,3,4,5,39] ?_
  rcases brc h with ⟨hc,h⟩|⟨hc,h⟩
  ·refine cnt (dT hc) ?_
   refine .sk ?_;refine .seq ?_;refine .block ?_;refine .seq ?_;refine .drawn 12 A3 (by kernel_rfl) ?_;refine dv (vfa Bh) ?_;refine dv (Aj Cv) ?_;refine dv Ac ?_
   obtain ⟨x6,g6,h⟩:=bnd h
   obtain ⟨n6,p06,q6⟩:=Ag g6
   refine dv (vix n6 p06 (Df q6) rfl Di) ?_;refine dv (Ao Ae Aa) ?_;refine dv (vfa Bh) ?_;refine dv (Aj Cv) ?_;refine dv Ac ?_
   obtain ⟨x7,g7,h⟩:=bnd h
   obtain ⟨n7,p07,q7⟩:=Ag g7
   refine dv (vix n7 p07 (Df q7) rfl Di) ?_;refine dv (Ao Ae Aa) ?_
   obtain ⟨x8,g8,h⟩:=bnd h
   refine dv (Ai (orc_ref03_Same _ _ _ g8) Tryz.call21) ?_;refine dv vnt ?_;refine dz ?_;refine rk [2,3,4,5,53] ?_
   rcases brc h with ⟨hc,h⟩|⟨hc,h⟩
   ·refine cnf (ntf hc) ?_
    refine .sk ?_;refine .region ?_;refine va ?_;refine vb ?_;refine asd ?_;refine .nil ?_;refine AL.gk [2,3,4,5] ?_
    exact ih (k,s4,(w64 (s5+1))) h (Nat.lt_succ_self _)
   refine cnt (ntt (bf hc)) ?_;refine .sr ?_;refine ar [2,3,4,5] ?_;refine .ret ?_
   cases h
   exact ⟨rfl,rfl⟩
  refine cnf (dF hc) ?_;refine .gk [4] ?_;refine .exit ?_
  exact jr (s4) h
 rintro z3 h
 try dsimp only at h ⊢
 subst hK0
 refine aw ?_;refine .sr ?_;refine ar [4] ?_;refine .ret ?_
 cases h
 exact ⟨rfl,rfl⟩
def C1 (a0:Arr) (a1:Arr) (K0:Bool→Option (Bool)) : Nat→Bool→Int→Option (Bool)
 | 0,_,_=>none
 | k+1,s2,s3=>(if s3<((List.length a0.shape:Nat):Int) then ((rd? a0.shape s3).bind fun x4=>((rd? a1.shape s3).bind fun x5=>(if x4=x5 then (C1 a0 a1 K0 k s2 (w64 (s3+1))) else (some (false))))) else (K0 s2))
def CF (rc_ref03_Same:Arr→Arr→Option (Bool)) (a0:Arr) (a1:Arr) (K2:Bool→Option (Bool)) : Nat→Bool→Int→Option (Bool)
 | 0,_,_=>none
 | k+1,s7,s8=>(if s8<((List.length a0.items:Nat):Int) then ((rd? a0.items s8).bind fun x9=>((rd? a1.items s8).bind fun x10=>((BP rc_ref03_Same x9 x10).bind fun x11=>(if x11=true then (CF rc_ref03_Same a0 a1 K2 k s7 (w64 (s8+1))) else (some (false)))))) else (K2 s7))
def Fo (rc_ref03_Same:Arr→Arr→Option (Bool)) (a0:Arr) (a1:Arr) : Option (Bool):=(if ((!(decide (((List.length a0.shape:Nat) : Int)=((List.length a1.shape:Nat) : Int))))||(!(decide (((List.length a0.items:Nat) : Int)=((List.length a1.items:Nat) : Int)))))=true then (some (false)) else (jn (fun (z1:Bool)=>(jn (fun (z6:Bool)=>(some (true))) fun K2=>(CF rc_ref03_Same a0 a1 K2 AC z1 0))) fun K0=>(C1 a0 a1 K0 AC false 0)))
theorem Nr {rc_ref03_Same:Arr→Arr→Option (Bool)} (orc_ref03_Same:∀ x0 x1 r,rc_ref03_Same x0 x1=some r→Fn Tryz.prog 21 [.ag [.sl (Is x0.shape),.sl (Its x0.items)],.ag [.sl (Is x1.shape),.sl (Its x1.items)]] (.d (.b r))) {a0:Arr} {a1:Arr} {r:Bool} (h:Fo rc_ref03_Same a0 a1=some r) :
  Fn Tryz.prog 21 [.ag [.sl (Is a0.shape),.sl (Its a0.items)],.ag [.sl (Is a1.shape),.sl (Its a1.items)]] (.d (.b r)):=by
 unfold Fo at h
 refine Fn.o1 4 60 Tryz.func21 ?_;refine .sr ?_;refine vk vbx ?_;refine vk vbx ?_;refine ar [2,3,4] ?_;refine .seq ?_;refine .seq ?_;refine AW.mr (σ:=Unit) (fun _=>True) (fun _=>[(2,.d (.ptr [.sl (Is a0.shape),.sl (Its a0.items)])),(3,.d (.ptr [.sl (Is a1.shape),.sl (Its a1.items)])),(4,.d (.b false)),(22,.d (.b ((!(decide (((List.length a0.shape:Nat):Int)=((List.length a1.shape:Nat):Int))))||(!(decide (((List.length a0.items:Nat):Int)=((List.length a1.items:Nat):Int)))))))]) (fun _=>[]) ?_ ?_
 ·skip
  refine .region ?_;refine vk (vfa AJ) ?_;refine vk (Aj Bl) ?_;refine vk (A0 (Af _) (Bv _) Bp) ?_;refine vk (vfa AJ) ?_;refine vk (Aj Bl) ?_;refine vk (A0 (Af _) (Bv _) Bp) ?_;refine vb ?_
  by_cases hc:((List.length a0.shape:Nat):Int)=((List.length a1.shape:Nat):Int)
  ·have hb0:(!(decide (((List.length a0.shape:Nat):Int)=((List.length a1.shape:Nat):Int))))=false:=(ntf (dT hc))
   refine vL hb0 ?_;refine vk (vfa A4) ?_;refine vk (Aj BL) ?_;refine vk (A0 (Az _) (Cu _) Ct) ?_;refine vk (vfa A4) ?_;refine vk (Aj BL) ?_;refine vk (A0 (Az _) (Cu _) Ct) ?_;refine vb ?_;refine vk Aq ?_;refine RL.gk [2,3,4,22] ?_;refine .nil ?_
   exact jr () trivial (by simp only [hb0];rfl)
  have hb0:(!(decide (((List.length a0.shape:Nat):Int)=((List.length a1.shape:Nat):Int))))=true:=(ntt (dF hc))
  refine vL hb0 ?_;refine gf4 ?_;refine gf3 ?_;refine vk Aq ?_;refine RL.gk [2,3,4,22] ?_;refine .nil ?_
  exact jr () trivial (by simp only [hb0];rfl)
 rintro _ _
 rcases brc h with ⟨hc,h⟩|⟨hc,h⟩
 ·refine cnt hc ?_
  refine .sr ?_;refine ar [2,3,4] ?_;refine .ret ?_
  cases h
  exact ⟨rfl,rfl⟩
 refine cnf (bf hc) ?_;refine .sk ?_;refine .seq ?_;refine .sr ?_;refine ar [2,3,4,5] ?_
 obtain ⟨K0,hK0,h⟩:=AE h
 refine AW.mr (σ:=Bool) (fun p=>K0 p=some r) (fun p=>[(2,.d (.ptr [.sl (Is a0.shape),.sl (Its a0.items)])),(3,.d (.ptr [.sl (Is a1.shape),.sl (Its a1.items)])),(4,.d (.b p))]) (fun p=>[]) ?_ ?_
 ·skip
  refine .block ?_
  refine .loop (.gk [2,3,4,5] ?_)
  refine AL.ind (σ:=Nat×Bool×Int) (m:=fun p=>p.1) (e:=fun p=>[(2,.d (.ptr [.sl (Is a0.shape),.sl (Its a0.items)])),(3,.d (.ptr [.sl (Is a1.shape),.sl (Its a1.items)])),(4,.d (.b p.2.1)),(5,.d (.i .i64 p.2.2))]) (h:=fun p=>[]) (I:=fun p=>C1 a0 a1 K0 p.1 p.2.1 p.2.2=some r) ?_ (AC,false,0) h
  rintro ⟨k,s2,s3⟩ h ih
  dsimp only at h ih ⊢
  rcases k with _|k
  ·rw [C1] at h;cases h
  rw [C1] at h
  refine .seq ?_;refine .sr ?_;refine va ?_;refine vk (vfa AJ) ?_;refine vk (Aj Bl) ?_;refine vk (A0 (Af _) (Bv _) Bp) ?_;refine vb ?_;refine rk [2,3,4,5,27] ?_
  rcases brc h with ⟨hc,h⟩|⟨hc,h⟩
  ·refine cnt (dT hc) ?_
   refine .sk ?_;refine .seq ?_;refine .block ?_;refine .seq ?_;refine .drawn 11 A3 (by kernel_rfl) ?_;refine dv (vfa AJ) ?_;refine dv (Aj Bl) ?_;refine dv Ac ?_
   obtain ⟨x4,g4,h⟩:=bnd h
   obtain ⟨n4,p04,q4⟩:=Ag g4
   refine dv (vix n4 p04 (Be q4) rfl A9) ?_;refine dv (Aj AF) ?_;refine dv (vfa AJ) ?_;refine dv (Aj Bl) ?_;refine dv Ac ?_
   obtain ⟨x5,g5,h⟩:=bnd h
   obtain ⟨n5,p05,q5⟩:=Ag g5
   refine dv (vix n5 p05 (Be q5) rfl A9) ?_;refine dv (Aj AF) ?_;refine dv vbi ?_;refine dz ?_;refine rk [2,3,4,5,40] ?_
   rcases brc h with ⟨hc,h⟩|⟨hc,h⟩
   ·refine cnf (ntf (dT hc)) ?_
    refine .sk ?_;refine .region ?_;refine va ?_;refine vb ?_;refine asd ?_;refine .nil ?_;refine AL.gk [2,3,4,5] ?_
    exact ih (k,s2,(w64 (s3+1))) h (Nat.lt_succ_self _)
   refine cnt (ntt (dF hc)) ?_;refine .sr ?_;refine ar [2,3,4,5] ?_;refine .ret ?_
   cases h
   exact ⟨rfl,rfl⟩
  refine cnf (dF hc) ?_;refine .gk [2,3,4] ?_;refine .exit ?_
  exact jr (s2) h
 rintro z1 h
 try dsimp only at h ⊢
 subst hK0
 refine aw ?_;refine .seq ?_;refine .sr ?_;refine ar [2,3,4,6] ?_
 obtain ⟨K2,hK2,h⟩:=AE h
 refine AW.mr (σ:=Bool) (fun p=>K2 p=some r) (fun p=>[(4,.d (.b p))]) (fun p=>[]) ?_ ?_
 ·skip
  refine .block ?_
  refine .loop (.gk [2,3,4,6] ?_)
  refine AL.ind (σ:=Nat×Bool×Int) (m:=fun p=>p.1) (e:=fun p=>[(2,.d (.ptr [.sl (Is a0.shape),.sl (Its a0.items)])),(3,.d (.ptr [.sl (Is a1.shape),.sl (Its a1.items)])),(4,.d (.b p.2.1)),(6,.d (.i .i64 p.2.2))]) (h:=fun p=>[]) (I:=fun p=>CF rc_ref03_Same a0 a1 K2 p.1 p.2.1 p.2.2=some r) ?_ (AC,z1,0) h
  rintro ⟨k,s7,s8⟩ h ih
  dsimp only at h ih ⊢
  rcases k with _|k
  ·rw [CF] at h;cases h
  rw [CF] at h
  refine .seq ?_;refine .sr ?_;refine va ?_;refine vk (vfa A4) ?_;refine vk (Aj BL) ?_;refine vk (A0 (Az _) (Cu _) Ct) ?_;refine vb ?_;refine rk [2,3,4,6,45] ?_
  rcases brc h with ⟨hc,h⟩|⟨hc,h⟩
  ·refine cnt (dT hc) ?_
   refine .sk ?_;refine .seq ?_;refine .block ?_;refine .seq ?_;refine .drawn 12 A3 (by kernel_rfl) ?_;refine dv (vfa A4) ?_;refine dv (Aj BL) ?_;refine dv Ac ?_
   obtain ⟨x9,g9,h⟩:=bnd h
   obtain ⟨n9,p09,q9⟩:=Ag g9
   refine dv (vix n9 p09 (Cw q9) rfl Cl) ?_;refine dv (Ao AP Au) ?_;refine dv (vfa A4) ?_;refine dv (Aj BL) ?_;refine dv Ac ?_
   obtain ⟨x10,g10,h⟩:=bnd h
   obtain ⟨n10,p010,q10⟩:=Ag g10
   refine dv (vix n10 p010 (Cw q10) rfl Cl) ?_;refine dv (Ao AP Au) ?_
   obtain ⟨x11,g11,h⟩:=bnd h
   refine dv (Ai (KE orc_ref03_Same g11) Tryz.call27) ?_;refine dv vnt ?_;refine dz ?_;refine rk [2,3,4,6,59] ?_
   rcases brc h with ⟨hc,h⟩|⟨hc,h⟩
   ·refine cnf (ntf hc) ?_
    refine .sk ?_;refine .region ?_;refine va ?_;refine vb ?_;refine asd ?_;refine .nil ?_;refine AL.gk [2,3,4,6] ?_
    exact ih (k,s7,(w64 (s8+1))) h (Nat.lt_succ_self _)
   refine cnt (ntt (bf hc)) ?_;refine .sr ?_;refine ar [2,3,4,6] ?_;refine .ret ?_
   cases h
   exact ⟨rfl,rfl⟩
  refine cnf (dF hc) ?_;refine .gk [4] ?_;refine .exit ?_
  exact jr (s7) h
 rintro z6 h
 try dsimp only at h ⊢
 subst hK2
 refine aw ?_;refine .sr ?_;refine ar [4] ?_;refine .ret ?_
 cases h
 exact ⟨rfl,rfl⟩
def EG : Nat→Arr→Arr→Option (Bool)
 | 0,_,_=>none
 | k+1,a0,a1=>Fo (EG k) a0 a1
theorem IZ : ∀ (k:Nat) (a0:Arr) (a1:Arr) (r:Bool),EG k a0 a1=some r→Fn Tryz.prog 21 [.ag [.sl (Is a0.shape),.sl (Its a0.items)],.ag [.sl (Is a1.shape),.sl (Its a1.items)]] (.d (.b r))
 | 0,_,_,_,h=>by cases h
 | k+1,a0,a1,_,h=>Nr (IZ k) (show Fo (EG k) a0 a1=some _ from h)
def Hk (a0:Arr) (a1:Arr) : Option (Bool):=EG (a0.size+1) a0 a1
theorem Pa {a0:Arr} {a1:Arr} {r:Bool} (h:Hk a0 a1=some r) : Fn Tryz.prog 21 [.ag [.sl (Is a0.shape),.sl (Its a0.items)],.ag [.sl (Is a1.shape),.sl (Its a1.items)]] (.d (.b r)):=IZ _ a0 a1 r h
def Tells (x:Option Bool) (p:Prop) : Prop:=∃ r,x=some r∧(r=true↔p)
theorem Tells.of {x:Option Bool} {p q:Prop} (h:Tells x p) (e:p↔q) : Tells x q:=by
 obtain ⟨r,h1,h2⟩:=h;exact ⟨r,h1,h2.trans e⟩
theorem Tells.yes {x:Option Bool} {p:Prop} (h:Tells x p) (hp:p) : x=some true:=by
 obtain ⟨r,h1,h2⟩:=h;rw [h1,h2.2 hp]
theorem Tells.no {x:Option Bool} {p:Prop} (h:Tells x p) (hp:¬p) : x=some false:=by
 obtain ⟨r,h1,h2⟩:=h
 cases r with
 | true=>exact absurd (h2.1 rfl) hp
 | false=>exact h1
theorem Cn {α β:Type} (k:α) (b:α→β) : jn k b=b k:=rfl
theorem Ow {s:List Int} (h:s.length≤17592186044416) : Fe s=some s:=by unfold Fe;rw [GN (by simpa using h),List.nil_append]
theorem Kd {r:RT} (h:Jr r=true) : CU r=some r:=by
 have h1:=J4.1 h
 unfold CU
 rw [F8,if_pos h1.2.2.1,oB,F8,if_pos h1.2.2.2,oB]
theorem LD {r:RT} (h:Jr r=true) : Ca r=some (.mk 1 r 0 []):=by
 unfold Ca;rw [Kd h,oB]
theorem LH {a:Arr} {f:BV} {h:Itm→Itm} (hf:∀ x∈a.items,f.g x=some (h x)) (K:List Int→List Itm→Option Arr) (hl:a.items.length≤1466015503701) : ∀ (n i k:Nat) (s:List Int) (t:List Itm),n=a.items.length-i→i≤a.items.length→n<k→t.length=i →
  Cs a f K k (i:Int) s t=K s (t++(a.items.drop i).map h)
 | n,i,0,s,t,_,_,h,_=>by omega
 | n,i,k+1,s,t,hn,hi,hk,ht=>by
  rw [Cs]
  by_cases hlt:i<a.items.length
  ·rw [if_pos (by omega),CD hlt,oB,hf _ (List.getElem_mem _),oB,GN (by simp;omega),oB,Cr (by omega),
    LH hf K hl (n-1) (i+1) k s _ (by omega) (by omega) (by omega) (by simp [ht]),lC hlt,List.map_cons,List.append_assoc]
   rfl
  ·rw [if_neg (by omega),List.drop_of_length_le (by omega)];simp
theorem Lj {a:Arr} {f:BV} {h:Itm→Itm} (hf:∀ x∈a.items,f.g x=some (h x)) (hs:a.shape.length≤17592186044416) (hl:a.items.length≤1466015503701) : Ch a f=some (.mk a.shape (a.items.map h)):=by
 unfold Ch
 rw [Ow hs,oB]
 simp only [jn]
 have:=LH hf (fun z2 z3=>some (Arr.mk z2 z3)) hl a.items.length 0 AC a.shape [] rfl (Nat.zero_le _) (B9 (by omega)) rfl
 rw [List.drop_zero,show ((0:Nat):Int)=0 from rfl,List.nil_append] at this
 exact this
theorem Nb {rc:Itm→Option Itm} {x:Itm} (hb:∀ a∈x.box,okAr a) (hrc:∀ a∈x.box,∀ y∈a.items,rc y=some y) (K:Int→Bool→List Nat→List Nat→Int→List Arr→Option Itm) (hl:x.box.length≤2932031007402) : ∀ (n i k:Nat) (s1:Int) (s2:Bool) (s3 s4:List Nat) (s5:Int) (t:List Arr),n=x.box.length-i→i≤x.box.length→n<k→t.length=i →
  D8 rc x K k (i:Int) s1 s2 s3 s4 s5 t=K s1 s2 s3 s4 s5 (t++x.box.drop i)
 | n,i,0,s1,s2,s3,s4,s5,t,_,_,h,_=>by omega
 | n,i,k+1,s1,s2,s3,s4,s5,t,hn,hi,hk,ht=>by
  rw [D8]
  by_cases hlt:i<x.box.length
  ·have hm:=List.getElem_mem hlt
   have ho:=(BR _).1 (hb _ hm)
   have hc:=Lj (a:=x.box[i]) (f:=⟨.fn 63 [] [],fun x=>rc x⟩) (h:=id) (fun y hy=>hrc _ hm y hy) ho.2.1 ho.2.2.1
   rw [List.map_id,Arr.eta] at hc
   rw [if_pos (by omega),CD hlt,oB,hc,oB,GN (by simp;omega),oB,Cr (by omega),
    Nb hb hrc K hl (n-1) (i+1) k s1 s2 s3 s4 s5 _ (by omega) (by omega) (by omega) (by simp [ht]),lC hlt,List.append_assoc]
   rfl
  ·rw [if_neg (by omega),List.drop_of_length_le (by omega)];simp
theorem NZ : ∀ (k:Nat) {x:Itm},x.size<k→okI x→Fm k x=some x
 | 0,x,h,_=>by omega
 | k+1,x,h,ho=>by
  have h1:=(Et x).1 ho
  rw [Fm,IF,Kd h1.2.1,oB]
  simp only [jn]
  have:=Nb (rc:=Fm k) (x:=x) h1.2.2.2.2 (fun a ha y hy=>NZ k (by have:=IG ha;have:=J5 hy;omega) (((BR a).1 (h1.2.2.2.2 a ha)).2.2.2 y hy))
   (fun z2 z3 z4 z5 z6 z7=>some (Itm.mk z2 (z3,z4,z5) z6 z7)) h1.2.2.2.1 x.box.length 0 AC x.kind x.num.1 x.num.2.1 x.num.2.2 x.char [] rfl (Nat.zero_le _) (B9 (by omega)) rfl
  rw [List.drop_zero,show ((0:Nat):Int)=0 from rfl,List.nil_append] at this
  rw [this]
  exact congrArg some (Itm.eta x)
theorem Je {x:Itm} (h:okI x) : Ft x=some x:=NZ _ (Nat.lt_succ_self _) h
theorem IH {a:Arr} (h:okAr a) : Ch a (⟨.fn 63 [] [],fun x=>Ft x⟩ : BV)=some a:=by
 have ho:=(BR a).1 h
 have:=Lj (a:=a) (f:=⟨.fn 63 [] [],fun x=>Ft x⟩) (h:=id) (fun y hy=>Je (ho.2.2.2 y hy)) ho.2.1 ho.2.2.1
 rwa [List.map_id,Arr.eta] at this
mutual
def smI : Itm→Prop
 | .mk _ n _ b=>okL 1048576 n.2.1=true∧okL 1048576 n.2.2=true∧smAs b
def smA : Arr→Prop
 | .mk _ i=>smIs i
def smIs : List Itm→Prop
 | []=>True
 | x::xs=>smI x∧smIs xs
def smAs : List Arr→Prop
 | []=>True
 | x::xs=>smA x∧smAs xs
end
theorem Itm.ext_iff' (x y:Itm) : x=y↔x.kind=y.kind∧x.char=y.char∧x.num=y.num∧x.box=y.box:=by
 cases x;cases y;simp only [Itm.mk.injEq,Itm.kind,Itm.char,Itm.num,Itm.box]
 constructor
 ·rintro ⟨a,b,c,d⟩;exact ⟨a,c,b,d⟩
 ·rintro ⟨a,b,c,d⟩;exact ⟨a,c,b,d⟩
theorem Arr.ext_iff' (x y:Arr) : x=y↔x.shape=y.shape∧x.items=y.items:=by cases x;cases y;simp only [Arr.mk.injEq,Arr.shape,Arr.items]
theorem Oc {rc:Arr→Arr→Option Bool} {x y:Itm} (hrc:∀ a∈x.box,∀ b∈y.box,Tells (rc a b) (a=b)) (hab:x.box.length=y.box.length) (K:Bool→Option Bool) (hK:∀ s,K s=some true) (hl:x.box.length≤17592186044416) : ∀ (n i k:Nat) (s:Bool),n=x.box.length-i→i≤x.box.length→n<k →
  Tells (Bq rc x y K k s (i:Int)) (x.box.drop i=y.box.drop i)
 | n,i,0,s,_,_,h=>by omega
 | n,i,k+1,s,hn,hi,hk=>by
  rw [Bq]
  by_cases hlt:i<x.box.length
  ·have hlt2:i<y.box.length:=by omega
   rw [if_pos (by omega),CD hlt,oB,CD hlt2,oB,lC hlt,lC hlt2]
   obtain ⟨r,h1,h2⟩:=hrc _ (List.getElem_mem hlt) _ (List.getElem_mem hlt2)
   rw [h1,oB]
   by_cases hc:r=true
   ·rw [if_pos hc,Cr (by omega)]
    refine (Oc hrc hab K hK hl (n-1) (i+1) k s (by omega) (by omega) (by omega)).of ?_
    rw [List.cons.injEq];exact ⟨fun h=>⟨h2.1 hc,h⟩,fun h=>h.2⟩
   ·rw [if_neg hc]
    exact ⟨false,rfl,⟨nofun,fun h=>absurd (h2.2 (List.cons.inj h).1) hc⟩⟩
  ·rw [if_neg (by omega),List.drop_of_length_le (by omega),List.drop_of_length_le (by omega),hK];exact ⟨true,rfl,by simp⟩
theorem J8 {rc:Arr→Arr→Option Bool} {x y:Itm} (hx:okI x) (hrc:∀ a∈x.box,∀ b∈y.box,Tells (rc a b) (a=b)) : Tells (BP rc x y) (x=y):=by
 have ox:=(Et x).1 hx
 have on:=J4.1 ox.2.1
 unfold BP
 rw [Itm.ext_iff']
 by_cases h1:x.kind=y.kind
 rotate_left
 ·rw [if_neg h1];exact ⟨false,rfl,by simp [h1]⟩
 rw [if_pos h1]
 by_cases h2:x.char=y.char
 rotate_left
 ·rw [if_neg h2];exact ⟨false,rfl,by simp [h2]⟩
 rw [if_pos h2,KC,if_pos (by simp [on.2.2.1,on.2.2.2]),oB]
 by_cases h3:x.num=y.num
 rotate_left
 ·rw [if_neg (by simpa using h3)];exact ⟨false,rfl,by simp [h3]⟩
 rw [if_pos (by simpa using h3),oB]
 by_cases h4:x.box.length=y.box.length
 rotate_left
 ·rw [if_pos (by simp;omega)];exact ⟨false,rfl,by simp;intro _ _ _ h;rw [h] at h4;exact h4 rfl⟩
 rw [if_neg (by simp;omega)]
 simp only [jn]
 have:=Oc hrc h4 (fun _=>some true) (fun _=>rfl) (nT ox.2.2.2.1 (by decide)) x.box.length 0 AC false rfl (Nat.zero_le _) (B9 (by omega))
 rw [List.drop_zero,List.drop_zero,show ((0:Nat):Int)=0 from rfl] at this
 exact this.of (by simp [h1,h2,h3])
theorem Ou {a b:Arr} (hab:a.shape.length=b.shape.length) (K:Bool→Option Bool) {p:Prop} (hK:∀ s,Tells (K s) p) (hl:a.shape.length≤17592186044416) : ∀ (n i k:Nat) (s:Bool),n=a.shape.length-i→i≤a.shape.length→n<k →
  Tells (C1 a b K k s (i:Int)) (a.shape.drop i=b.shape.drop i∧p)
 | n,i,0,s,_,_,h=>by omega
 | n,i,k+1,s,hn,hi,hk=>by
  rw [C1]
  by_cases hlt:i<a.shape.length
  ·have hlt2:i<b.shape.length:=by omega
   rw [if_pos (by omega),CD hlt,oB,CD hlt2,oB,lC hlt,lC hlt2]
   by_cases hc:a.shape[i]=b.shape[i]
   ·rw [if_pos hc,Cr (by omega)]
    exact (Ou hab K hK hl (n-1) (i+1) k s (by omega) (by omega) (by omega)).of (by rw [List.cons.injEq];exact ⟨fun h=>⟨⟨hc,h.1⟩,h.2⟩,fun h=>⟨h.1.2,h.2⟩⟩)
   ·rw [if_neg hc]
    exact ⟨false,rfl,⟨nofun,fun h=>absurd (List.cons.inj h.1).1 hc⟩⟩
  ·rw [if_neg (by omega),List.drop_of_length_le (by omega),List.drop_of_length_le (by omega)];exact (hK s).of (by simp)
theorem NW {rc:Arr→Arr→Option Bool} {a b:Arr} (hrc:∀ x∈a.items,∀ y∈b.items,Tells (BP rc x y) (x=y)) (hab:a.items.length=b.items.length) (K:Bool→Option Bool) (hK:∀ s,K s=some true) (hl:a.items.length≤17592186044416) : ∀ (n i k:Nat) (s:Bool),n=a.items.length-i→i≤a.items.length→n<k →
  Tells (CF rc a b K k s (i:Int)) (a.items.drop i=b.items.drop i)
 | n,i,0,s,_,_,h=>by omega
 | n,i,k+1,s,hn,hi,hk=>by
  rw [CF]
  by_cases hlt:i<a.items.length
  ·have hlt2:i<b.items.length:=by omega
   rw [if_pos (by omega),CD hlt,oB,CD hlt2,oB,lC hlt,lC hlt2]
   obtain ⟨r,h1,h2⟩:=hrc _ (List.getElem_mem hlt) _ (List.getElem_mem hlt2)
   rw [h1,oB]
   by_cases hc:r=true
   ·rw [if_pos hc,Cr (by omega)]
    refine (NW hrc hab K hK hl (n-1) (i+1) k s (by omega) (by omega) (by omega)).of ?_
    rw [List.cons.injEq];exact ⟨fun h=>⟨h2.1 hc,h⟩,fun h=>h.2⟩
   ·rw [if_neg hc]
    exact ⟨false,rfl,⟨nofun,fun h=>absurd (h2.2 (List.cons.inj h).1) hc⟩⟩
  ·rw [if_neg (by omega),List.drop_of_length_le (by omega),List.drop_of_length_le (by omega),hK];exact ⟨true,rfl,by simp⟩
theorem UL {rc:Arr→Arr→Option Bool} {a b:Arr} (oa:a.shape.length≤17592186044416∧a.items.length≤1466015503701) (ih:∀ x∈a.items,∀ y∈b.items,Tells (BP rc x y) (x=y)) : Tells (Fo rc a b) (a=b):=by
 rw [Fo,Arr.ext_iff']
 by_cases h1:a.shape.length=b.shape.length∧a.items.length=b.items.length
 rotate_left
 ·rw [if_pos (by simp;omega)];exact ⟨false,rfl,by simp;intro e1 e2;exact h1 ⟨by rw [e1],by rw [e2]⟩⟩
 rw [if_neg (by simp;omega)]
 rw [Cn]
 have h2:=Ou h1.1 (p:=a.items=b.items) (fun z1=>jn (fun (z6:Bool)=>(some (true))) fun K2=>(CF rc a b K2 AC z1 0)) (fun s=>by
  rw [Cn]
  have h3:=NW ih h1.2 (fun _=>some true) (fun _=>rfl) (nT oa.2 (by decide)) a.items.length 0 AC s rfl (Nat.zero_le _) (B9 (by omega))
  rw [show ((0:Nat):Int)=0 from rfl,List.drop_zero,List.drop_zero] at h3
  exact h3) oa.1 a.shape.length 0 AC false rfl (Nat.zero_le _) (B9 (by omega))
 rw [show ((0:Nat):Int)=0 from rfl,List.drop_zero,List.drop_zero] at h2
 exact h2
theorem Oj : ∀ (k:Nat) {a b:Arr},a.size<k→okAr a→Tells (EG k a b) (a=b)
 | 0,a,b,h,_=>by omega
 | k+1,a,b,h,ha=>by
  have oa:=(BR a).1 ha
  rw [EG]
  exact UL ⟨oa.2.1,oa.2.2.1⟩ fun x hx y hy=>J8 (oa.2.2.2 x hx) fun p hp q hq =>
   Oj k (by have:=J5 hx;have:p.size<x.size:=IG hp;omega) (((Et x).1 (oa.2.2.2 x hx)).2.2.2.2 p hp)
theorem Wg {a b:Arr} (ha:okAr a) : Tells (Hk a b) (a=b):=Oj _ (Nat.lt_succ_self _) ha
section
variable {S:Type} (step:Itm→S→Option (Bool×S))
def LZ : List Itm→S→Int→Option (Int×S)
 | [],s,_=>some (-1,s)
 | x::xs,s,i=>(step x s).bind fun r=>if r.1=true then some (i,r.2) else LZ xs r.2 (i+1)
end
theorem XW {z:Int} (h1:-9223372036854775808≤z) (h2:z≤9223372036854775807) : w64 z=z:=by
 simp only [w64,IntKind.wrap,IntKind.bits,IntKind.signed];simp;omega
abbrev dvI (x:Itm) : DV:=.ag [.i .u8 x.kind,.b x.num.1,.sl (L x.num.2.1),.sl (L x.num.2.2),.i .i32 x.char,.sl (Ars x.box)]
abbrev dvA (x:Arr) : DV:=.ag [.sl (Is x.shape),.sl (Its x.items)]
set_option maxRecDepth 10000 in
theorem Pf {S:Type} {step:Itm→S→Option (Bool×S)} {st:S→Ad→Prop} {f:FuncId} {caps:List AV} (hcall:∀ args w,(callFunc f args).run Tryz.prog w=.ok (.enter f args) w) (hnc:noOwnL caps=true)
  (hstep:∀ (x:Itm) s r H,st s H→step x s=some r→FnR Tryz.prog f (.d (dvI x)::caps) H fun v H'=>v=.d (.b r.1)∧st r.2 H')
  {xs:List Itm} {s:S} {r:Int×S} (hl:xs.length≤9223372036854775806) (h:LZ step xs s 0=some r) {H:Ad} (hs:st s H) :
  FnR Tryz.prog 122 [.d (.sl (Its xs)),.fn f [] caps] H fun v H'=>v=.d (.i .i64 r.1)∧st r.2 H':=by
 have hfn:noOwn (.fn f [] caps)=true:=by simp [noOwn,noOwnL,hnc]
 refine FnR.of (rs:=[.tmp 4]) 19 Tryz.func122 rfl rfl rfl (by simp) ?_;refine .sr ?_;refine asd ?_;refine rn ?_;refine .seq ?_;refine .sr ?_;refine vk (Ac) ?_;refine vk (A0 (Az _) (Cu _) Ct) ?_;refine vk (Ac) ?_;refine rn ?_;refine .block ?_
 refine .loop (.gh (Gh.keep [0,1,7,8] rfl) ?_)
 refine AL.ind (σ:=Nat×S×Ad) (m:=fun p=>xs.length-p.1) (e:=fun p=>[(0,.d (.sl (Its xs))),(1,.fn f [] caps),(7,.d (.i .i64 ((List.length xs:Nat):Int))),(8,.d (.i .i64 ((p.1:Nat):Int)))]) (h:=fun p=>p.2.2)
  (I:=fun p=>p.1≤xs.length∧st p.2.1 p.2.2∧LZ step (xs.drop p.1) p.2.1 (p.1:Int)=some r) ?_ (0,s,H) ⟨Nat.zero_le _,hs,h⟩
 rintro ⟨i,s,H⟩ ⟨hi,hs,h⟩ ih
 dsimp only at hi hs h ih ⊢
 refine .sr ?_;refine vk (vbi) ?_;refine rn ?_;refine .seq ?_
 by_cases hc:((i:Nat):Int)<((List.length xs:Nat):Int)
 ·refine cnt (dT hc) ?_
  have hlt:i<xs.length:=by omega
  rw [lC hlt,LZ] at h
  obtain ⟨z,hz,h⟩:=bnd h
  refine .skip ?_;refine aw ?_;refine .seq ?_;refine .block ?_;refine .sr ?_;refine vk (Ac) ?_;refine asd ?_;refine rn ?_;refine .sr ?_;refine vk (X4 (av:=.fn f [] caps) (hn:=hfn)) ?_;refine vk (Ac) ?_;refine vk (Ac) ?_;refine vk (vix i rfl (Cw (lG hlt)) rfl Cl) ?_;refine vk (Ao AP Au) ?_
  refine YF (avs:=[.d (dvI xs[i])]) (hstep _ _ _ _ hs hz) hcall (fun v H' hp=>?_) (hnc:=hnc)
  obtain ⟨rfl,hs'⟩:=hp
  refine rn ?_
  by_cases hc:z.1=true
  ·refine cnt hc ?_
   rw [if_pos hc] at h
   cases h
   refine .sr ?_;refine vk (Ac) ?_;refine asd ?_;refine rn ?_;refine .ret ?_
   exact ⟨_,⟨rfl,rfl⟩,rfl,hs'⟩
  refine cnf (bf hc) ?_
  rw [if_neg hc] at h
  refine .skip ?_;refine aw ?_;refine .region ?_;refine vk (vbi) ?_;refine vk (Ac) ?_;refine .nil ?_
  have hw:IntKind.wrap .i64 ((i:Int)+1)=((i+1:Nat):Int):=by rw [show IntKind.wrap .i64 ((i:Int)+1)=(i:Int)+1 from XW (by omega) (by omega)];omega
  rw [hw]
  refine AL.gh (Gh.keep [0,1,7,8] rfl) ?_
  exact ih (i+1,z.2,H') ⟨hlt,hs',by rw [← h];simp⟩ (by dsimp only;omega)
 ·refine cnf (dF hc) ?_
  have:i=xs.length:=by omega
  subst this
  rw [List.drop_length,LZ] at h
  cases h
  refine .exit ?_;refine aw ?_;refine .sr ?_;refine asd ?_;refine rn ?_;refine .ret ?_
  exact ⟨_,⟨rfl,rfl⟩,rfl,hs⟩
theorem Il {S:Type} {step:Itm→S→Option (Bool×S)} {st:S→Ad→Prop} {f:FuncId} {caps:List AV} (hcall:∀ args w,(callFunc f args).run Tryz.prog w=.ok (.enter f args) w) (hnc:noOwnL caps=true)
  (hstep:∀ (x:Itm) s r H,st s H→step x s=some r→FnR Tryz.prog f (.d (dvI x)::caps) H fun v H'=>v=.d (.b r.1)∧st r.2 H')
  {xs:List Itm} {s:S} {r:Int×S} (hl:xs.length≤9223372036854775806) (h:LZ step xs s 0=some r) {H:Ad} (hs:st s H) :
  FnR Tryz.prog 57 [.d (.sl (Its xs)),.fn f [] caps] H fun v H'=>v=.d (.b (decide (0≤r.1)))∧st r.2 H':=by
 have hfn:noOwn (.fn f [] caps)=true:=by simp [noOwn,noOwnL,hnc]
 refine FnR.of (rs:=[.tmp 4]) 9 Tryz.func57 rfl rfl rfl (by simp) ?_;refine .sr ?_;refine asd ?_;refine rn ?_;refine .sr ?_;refine vk (Ac) ?_;refine vk (X4 (av:=.fn f [] caps) (hn:=hfn)) ?_
 refine clR (avs:=[.d (.sl (Its xs)),.fn f [] caps]) (Pf hcall hnc hstep hl h hs) Tryz.call122 (fun v H' hp=>?_) (ha:=by simp [argsA,lk,get,hfn,A5,noOwn])
 obtain ⟨rfl,hs'⟩:=hp
 refine vk (vbi) ?_;refine asd ?_;refine rn ?_;refine .ret ?_
 exact ⟨_,⟨rfl,rfl⟩,rfl,hs'⟩
abbrev M3:=Bool×Int×Int
abbrev EB (c d:Int) : HO:=.box [.d (.i .i64 c),.d (.i .i64 d)]
def Upd (H:Ad) (id:Nat) (o:HO) (H':Ad) : Prop:=H'[id]?=some o∧H.length≤H'.length∧∀ j,j≠id→j<H.length→H'[j]?=H[j]?
theorem Upd.same {H:Ad} {id:Nat} {o:HO} (h:H[id]?=some o) : Upd H id o H:=⟨h,Nat.le_refl _,fun _ _ _=>rfl⟩
theorem Upd.trans {H H' H'':Ad} {id:Nat} {o o':HO} (h:Upd H id o H') (k:Upd H' id o' H'') : Upd H id o' H'' :=
 ⟨k.1,nT h.2.1 k.2.1,fun j h1 h2=>(k.2.2 j h1 (nL h2 h.2.1)).trans (h.2.2 j h1 h2)⟩
def PE (id:Nat) (r:M3) (H:Ad) : AV→Ad→Prop:=fun v H'=>v=.d (.b r.1)∧Upd H id (EB r.2.1 r.2.2) H'
theorem PE.refl {id:Nat} {b:Bool} {c d:Int} {H:Ad} (h:H[id]?=some (EB c d)) : PE id (b,c,d) H (.d (.b b)) H:=⟨rfl,.same h⟩
def OA (rc:Arr→Int→Int→Int→Option M3) : Prop:=∀ (a:Arr) (deep c d:Int) (r:M3),rc a deep c d=some r→∀ (H:Ad) (id:Nat),H[id]?=some (EB c d) →
 FnR Tryz.prog 139 [.bp id 0,.d (dvA a),.d (.i .i64 deep)] H (PE id r H)
def ER (a1:Itm) : Bool:=((!a1.num.1)&&((decide (((List.length a1.num.2.1:Nat) : Int)=0))&&(decide (((List.length a1.num.2.2:Nat) : Int)=0))))
def NF (rc:Arr→Int→Int→Int→Option M3) (a1:Itm) (a2 c d:Int) : Option M3:=(if a1.kind=1 then ((Gr a1.num).bind fun x1=>(some ((x1&&((decide (a1.char=0))&&(decide (((List.length a1.box:Nat) : Int)=0)))),c,d))) else (if a1.kind=2 then ((Gi a1.char).bind fun x2=>(some ((x2&&(ER a1&&(decide (((List.length a1.box:Nat) : Int)=0)))),c,d))) else (if a1.kind=3 then (if ((List.length a1.box:Nat) : Int)=1 then (if ER a1=true then (if a1.char=0 then ((rd? a1.box 0).bind fun x4=>((CN x4).bind fun x5=>(if x5=true then (some (false,c,d)) else ((rd? a1.box 0).bind fun x6=>((rc x6 a2 c d).bind fun x7=>(some x7)))))) else (some (false,c,d))) else (some (false,c,d))) else (some (false,c,d))) else (some (false,c,d)))))
set_option maxHeartbeats 4000000 in
theorem Ix {rc:Arr→Int→Int→Int→Option M3} (orc:OA rc) {a1:Itm} {a2 c d:Int} {r:M3} (h:NF rc a1 a2 c d=some r) {H:Ad} {id:Nat} (hH:H[id]?=some (EB c d)) :
  FnR Tryz.prog 123 [.bp id 0,.d (dvI a1),.d (.i .i64 a2)] H (PE id r H):=by
 unfold NF ER at h
 refine FnR.of (rs:=[.tmp 6]) 89 Tryz.func123 rfl rfl rfl (by simp) ?_;refine .sr ?_;refine vk (vbx) ?_;refine asd ?_;refine rn ?_;refine .gh (Gh.keep [0,2,4,6] rfl) ?_;refine .seq ?_;refine AW.mr (σ:=Unit) (fun _=>True) (fun _=>[(0,.bp id 0),(2,.d (.i .i64 a2)),(4,.d (.ptr [.i .u8 a1.kind,.b a1.num.1,.sl (L a1.num.2.1),.sl (L a1.num.2.2),.i .i32 a1.char,.sl (Ars a1.box)])),(6,.d (.b false)),(7,.d (.b ((!a1.num.1)&&((decide (((List.length a1.num.2.1:Nat):Int)=0))&&(decide (((List.length a1.num.2.2:Nat):Int)=0))))))]) (fun _=>H) ?_ ?_
 ·skip
  refine .region ?_;refine vk (vfa BS) ?_;refine vk (vfa E5) ?_;refine vk (Aj DT) ?_;refine vk (vnt) ?_
  by_cases hc:a1.num.1=true
  ·have hb0:(!a1.num.1)=false:=(ntf hc)
   refine vk (VOK.lit (Ac) hb0) ?_;refine gf4 ?_;refine gf ?_;refine vk (Aq) ?_;refine vk (Ac) ?_;refine gf4 ?_;refine gf ?_;refine vk (Aq) ?_;refine asd ?_;refine RL.gh (Gh.keep [0,2,4,6,7] rfl) ?_;refine .nil ?_
   exact jr () trivial (by simp only [hb0];rfl)
  have hb0:(!a1.num.1)=true:=(ntt (bf hc))
  refine vk (VOK.lit (Ac) hb0) ?_;refine vk (vfa BS) ?_;refine vk (vfa EE) ?_;refine vk (Aj Gf) ?_;refine vk (A0 (Ab _) (BZ _) Qi) ?_;refine vk (vbi) ?_;refine vk (Aq) ?_
  by_cases hc:((List.length a1.num.2.1:Nat):Int)=0
  ·have hb1:(decide (((List.length a1.num.2.1:Nat):Int)=0))=true:=(dT hc)
   refine vk (VOK.lit (Ac) hb1) ?_;refine vk (vfa BS) ?_;refine vk (vfa HT) ?_;refine vk (Aj Gf) ?_;refine vk (A0 (Ab _) (BZ _) Qi) ?_;refine vk (vbi) ?_;refine vk (Aq) ?_;refine asd ?_;refine RL.gh (Gh.keep [0,2,4,6,7] rfl) ?_;refine .nil ?_
   exact jr () trivial (by simp only [hb0,hb1];rfl)
  have hb1:(decide (((List.length a1.num.2.1:Nat):Int)=0))=false:=(dF hc)
  refine vk (VOK.lit (Ac) hb1) ?_;refine gf4 ?_;refine gf ?_;refine vk (Aq) ?_;refine asd ?_;refine RL.gh (Gh.keep [0,2,4,6,7] rfl) ?_;refine .nil ?_
  exact jr () trivial (by simp only [hb0,hb1];rfl)
 rintro _ _
 refine .seq ?_;refine .sr ?_;refine vk (vfa BY) ?_;refine vk (Aj Bb) ?_;refine rn ?_;refine .gh (Gh.keep [0,2,4,6,7,27] rfl) ?_;refine .block ?_;refine .sr ?_;refine vk (vbi) ?_;refine asd ?_;refine rn ?_;refine .gh (Gh.keep [0,2,4,6,7,27,28] rfl) ?_
 rcases brc h with ⟨hc,h⟩|⟨hc,h⟩
 ·refine cnt (dT hc) ?_
  refine .seq ?_
  obtain ⟨x1,hx1,h⟩:=bnd h
  refine AW.mr (σ:=Unit) (fun _=>True) (fun _=>[(6,.d (.b (x1&&((decide (a1.char=0))&&(decide (((List.length a1.box:Nat):Int)=0))))))]) (fun _=>H) ?_ ?_
  ·skip
   refine .region ?_;refine vk (vfa BS) ?_;refine vk (Ao A8 AG) ?_;refine vk (Ai (FQ hx1) Tryz.call166) ?_
   by_cases hc:x1=true
   ·have hb0:x1=true:=hc
    refine vk (VOK.lit (Ac) hb0) ?_;refine vk (vfa DJ) ?_;refine vk (Aj DC) ?_;refine vk (vbi) ?_;refine vk (Aq) ?_
    by_cases hc:a1.char=0
    ·have hb1:(decide (a1.char=0))=true:=(dT hc)
     refine vk (VOK.lit (Ac) hb1) ?_;refine vk (vfa Bh) ?_;refine vk (Aj Cv) ?_;refine vk (A0 (A6 _) (EF _) D0) ?_;refine vk (vbi) ?_;refine vk (Aq) ?_;refine asd ?_;refine RL.gh (Gh.keep [6] rfl) ?_;refine .nil ?_
     exact jr () trivial (by simp only [hb0,hb1];rfl)
    have hb1:(decide (a1.char=0))=false:=(dF hc)
    refine vk (VOK.lit (Ac) hb1) ?_;refine gf4 ?_;refine vk (Aq) ?_;refine asd ?_;refine RL.gh (Gh.keep [6] rfl) ?_;refine .nil ?_
    exact jr () trivial (by simp only [hb0,hb1];rfl)
   have hb0:x1=false:=(bf hc)
   refine vk (VOK.lit (Ac) hb0) ?_;refine gf3 ?_;refine vk (Aq) ?_;refine vk (Ac) ?_;refine gf4 ?_;refine vk (Aq) ?_;refine asd ?_;refine RL.gh (Gh.keep [6] rfl) ?_;refine .nil ?_
   exact jr () trivial (by simp only [hb0];rfl)
  rintro _ _
  refine .ret ?_
  cases h
  exact ⟨_,⟨rfl,rfl⟩,.refl hH⟩
 refine cnf (dF hc) ?_;refine .sr ?_;refine vk (vbi) ?_;refine asd ?_;refine rn ?_;refine .gh (Gh.keep [0,2,4,6,7,27,44] rfl) ?_
 rcases brc h with ⟨hc,h⟩|⟨hc,h⟩
 ·refine cnt (dT hc) ?_
  refine .seq ?_
  obtain ⟨x2,hx2,h⟩:=bnd h
  refine AW.mr (σ:=Unit) (fun _=>True) (fun _=>[(6,.d (.b (x2&&(((!a1.num.1)&&((decide (((List.length a1.num.2.1:Nat):Int)=0))&&(decide (((List.length a1.num.2.2:Nat):Int)=0))))&&(decide (((List.length a1.box:Nat):Int)=0))))))]) (fun _=>H) ?_ ?_
  ·skip
   refine .region ?_;refine vk (vfa DJ) ?_;refine vk (Aj DC) ?_;refine vk (Ai (LQ hx2) Tryz.call170) ?_
   by_cases hc:x2=true
   ·have hb0:x2=true:=hc
    refine vk (VOK.lit (Ac) hb0) ?_;refine vk (Ac) ?_;refine vk (Aq) ?_
    by_cases hc:((!a1.num.1)&&((decide (((List.length a1.num.2.1:Nat):Int)=0))&&(decide (((List.length a1.num.2.2:Nat):Int)=0))))=true
    ·have hb1:((!a1.num.1)&&((decide (((List.length a1.num.2.1:Nat):Int)=0))&&(decide (((List.length a1.num.2.2:Nat):Int)=0))))=true:=hc
     refine vk (VOK.lit (Ac) hb1) ?_;refine vk (vfa Bh) ?_;refine vk (Aj Cv) ?_;refine vk (A0 (A6 _) (EF _) D0) ?_;refine vk (vbi) ?_;refine vk (Aq) ?_;refine asd ?_;refine RL.gh (Gh.keep [6] rfl) ?_;refine .nil ?_
     exact jr () trivial (by simp only [hb0,hb1];rfl)
    have hb1:((!a1.num.1)&&((decide (((List.length a1.num.2.1:Nat):Int)=0))&&(decide (((List.length a1.num.2.2:Nat):Int)=0))))=false:=(bf hc)
    refine vk (VOK.lit (Ac) hb1) ?_;refine gf4 ?_;refine vk (Aq) ?_;refine asd ?_;refine RL.gh (Gh.keep [6] rfl) ?_;refine .nil ?_
    exact jr () trivial (by simp only [hb0,hb1];rfl)
   have hb0:x2=false:=(bf hc)
   refine vk (VOK.lit (Ac) hb0) ?_;refine gf ?_;refine vk (Aq) ?_;refine vk (Ac) ?_;refine gf4 ?_;refine vk (Aq) ?_;refine asd ?_;refine RL.gh (Gh.keep [6] rfl) ?_;refine .nil ?_
   exact jr () trivial (by simp only [hb0];rfl)
  rintro _ _
  refine .ret ?_
  cases h
  exact ⟨_,⟨rfl,rfl⟩,.refl hH⟩
 refine cnf (dF hc) ?_;refine .sr ?_;refine vk (vbi) ?_;refine asd ?_;refine rn ?_;refine .gh (Gh.keep [0,2,4,6,7,58] rfl) ?_
 rcases brc h with ⟨hc,h⟩|⟨hc,h⟩
 ·refine cnt (dT hc) ?_
  refine .seq ?_
  ·skip
   refine .region ?_;refine vk (vfa Bh) ?_;refine vk (Aj Cv) ?_;refine vk (A0 (A6 _) (EF _) D0) ?_;refine vk (vbi) ?_
   rcases brc h with ⟨hc,h⟩|⟨hc,h⟩
   ·have hb0:(decide (((List.length a1.box:Nat):Int)=1))=true:=(dT hc)
    refine vk (VOK.lit (Ac) hb0) ?_;refine vk (Ac) ?_;refine vk (Aq) ?_
    rcases brc h with ⟨hc,h⟩|⟨hc,h⟩
    ·have hb1:((!a1.num.1)&&((decide (((List.length a1.num.2.1:Nat):Int)=0))&&(decide (((List.length a1.num.2.2:Nat):Int)=0))))=true:=hc
     refine vk (VOK.lit (Ac) hb1) ?_;refine vk (vfa DJ) ?_;refine vk (Aj DC) ?_;refine vk (vbi) ?_;refine vk (Aq) ?_
     rcases brc h with ⟨hc,h⟩|⟨hc,h⟩
     ·have hb2:(decide (a1.char=0))=true:=(dT hc)
      refine vk (VOK.lit (Ac) hb2) ?_;refine vk (vfa Bh) ?_;refine vk (Aj Cv) ?_
      obtain ⟨x4,hx4,h⟩:=bnd h
      obtain ⟨nx4,hnx4,hxx4⟩:=Ag hx4
      refine vk (vix nx4 hnx4 (Df hxx4) rfl Di) ?_;refine vk (Ao Ae Aa) ?_
      obtain ⟨x5,hx5,h⟩:=bnd h
      refine vk (Ai (EX hx5) Tryz.call82) ?_;refine vk (vnt) ?_;refine vk (Aq) ?_
      rcases brc h with ⟨hc,h⟩|⟨hc,h⟩
      ·have hb3:(!x5)=false:=(ntf hc)
       refine vk (VOK.lit (Ac) hb3) ?_;refine gf4 ?_;refine gf3 ?_;refine vk (Aq) ?_;refine asd ?_;refine rn ?_;refine .gh (Gh.keep [6] rfl) ?_;refine .ret ?_
       cases h
       exact ⟨_,⟨rfl,rfl⟩,.refl hH⟩
      have hb3:(!x5)=true:=(ntt (bf hc))
      refine vk (VOK.lit (Ac) hb3) ?_;refine vk (X4 (av:=.bp id 0)) ?_;refine vk (vfa Bh) ?_;refine vk (Aj Cv) ?_
      obtain ⟨x6,hx6,h⟩:=bnd h
      obtain ⟨nx6,hnx6,hxx6⟩:=Ag hx6
      refine vk (vix nx6 hnx6 (Df hxx6) rfl Di) ?_;refine vk (Ao Ae Aa) ?_;refine vk (Ac) ?_
      obtain ⟨x7,hx7,h⟩:=bnd h
      refine clR (avs:=[.bp id 0,.d (dvA x6),.d (.i .i64 a2)]) (orc x6 a2 c d x7 hx7 H id hH) Tryz.call139 (fun v H' hp=>?_)
      obtain ⟨rfl,hp⟩:=hp
      refine vk (Aq) ?_;refine asd ?_;refine rn ?_;refine .gh (Gh.keep [6] rfl) ?_;refine .ret ?_
      cases h
      exact ⟨_,⟨rfl,rfl⟩,rfl,hp⟩
     have hb2:(decide (a1.char=0))=false:=(dF hc)
     refine vk (VOK.lit (Ac) hb2) ?_;refine gf4 ?_;refine gf2 ?_;refine vk (Aq) ?_;refine vk (Ac) ?_;refine gf4 ?_;refine gf3 ?_;refine vk (Aq) ?_;refine asd ?_;refine rn ?_;refine .gh (Gh.keep [6] rfl) ?_;refine .ret ?_
     cases h
     exact ⟨_,⟨rfl,rfl⟩,.refl hH⟩
    have hb1:((!a1.num.1)&&((decide (((List.length a1.num.2.1:Nat):Int)=0))&&(decide (((List.length a1.num.2.2:Nat):Int)=0))))=false:=(bf hc)
    refine vk (VOK.lit (Ac) hb1) ?_;refine gf3 ?_;refine vk (Aq) ?_;refine vk (Ac) ?_;refine gf4 ?_;refine gf2 ?_;refine vk (Aq) ?_;refine vk (Ac) ?_;refine gf4 ?_;refine gf3 ?_;refine vk (Aq) ?_;refine asd ?_;refine rn ?_;refine .gh (Gh.keep [6] rfl) ?_;refine .ret ?_
    cases h
    exact ⟨_,⟨rfl,rfl⟩,.refl hH⟩
   have hb0:(decide (((List.length a1.box:Nat):Int)=1))=false:=(dF hc)
   refine vk (VOK.lit (Ac) hb0) ?_;refine gf ?_;refine vk (Aq) ?_;refine vk (Ac) ?_;refine gf3 ?_;refine vk (Aq) ?_;refine vk (Ac) ?_;refine gf4 ?_;refine gf2 ?_;refine vk (Aq) ?_;refine vk (Ac) ?_;refine gf4 ?_;refine gf3 ?_;refine vk (Aq) ?_;refine asd ?_;refine rn ?_;refine .gh (Gh.keep [6] rfl) ?_;refine .ret ?_
   cases h
   exact ⟨_,⟨rfl,rfl⟩,.refl hH⟩
 refine cnf (dF hc) ?_;refine .skip ?_;refine aw ?_;refine .sr ?_;refine asd ?_;refine rn ?_;refine .gh (Gh.keep [6] rfl) ?_;refine .ret ?_
 cases h
 exact ⟨_,⟨rfl,rfl⟩,.refl hH⟩
def Kn (rc:Arr→Int→Int→Int→Option M3) (deep:Int) : List Itm→Int→Int→Option M3
 | [],c,d=>some (true,c,d)
 | x::xs,c,d=>(NF rc x deep c d).bind fun z=>if z.1=true then Kn rc deep xs z.2.1 z.2.2 else some (false,z.2.1,z.2.2)
def Ql (rc:Arr→Int→Int→Int→Option M3) (deep:Int) (x:Itm) (s:Int×Int) : Option (Bool×(Int×Int)):=(NF rc x deep s.1 s.2).map fun z=>(!z.1,z.2)
theorem Qq {rc:Arr→Int→Int→Int→Option M3} {deep:Int} : ∀ {xs:List Itm} {c d:Int} {z:M3} {i:Int},0≤i→Kn rc deep xs c d=some z→∃ n,LZ (Ql rc deep) xs (c,d) i=some (n,z.2)∧(!decide (0≤n))=z.1
 | [],c,d,z,i,_,h=>by cases h;exact ⟨-1,rfl,rfl⟩
 | x::xs,c,d,z,i,hi,h=>by
  rw [Kn] at h
  obtain ⟨y,hy,h⟩:=bnd h
  have hs:Ql rc deep x (c,d)=some (!y.1,y.2):=by simp [Ql,hy]
  by_cases hc:y.1=true
  ·rw [if_pos hc] at h
   obtain ⟨n,h1,h2⟩:=Qq (i:=i+1) (by omega) h
   refine ⟨n,?_,h2⟩
   rw [LZ,hs,oB,if_neg (by simp [hc])];exact h1
  ·rw [if_neg hc] at h
   cases h
   refine ⟨i,?_,by simp [hi]⟩
   rw [LZ,hs,oB,if_pos (by simp [hc])]
theorem KG {rc:Arr→Int→Int→Int→Option M3} (orc:OA rc) {x:Itm} {deep c d:Int} {z:M3} (h:NF rc x deep c d=some z) {H:Ad} {id n3 n5:Nat} (hH:H[id]?=some (EB c d)) (h3:H[n3]?=some (.box [.bp id 0])) (h5:H[n5]?=some (.box [.d (.i .i64 deep)])) :
  FnR Tryz.prog 188 [.d (dvI x),.bp n3 0,.bp n5 0] H fun v H'=>v=.d (.b (!z.1))∧Upd H id (EB z.2.1 z.2.2) H':=by
 refine FnR.of (rs:=[.tmp 4]) 10 Tryz.func188 rfl rfl rfl (by simp) ?_;refine .sr ?_;refine vk (vbx) ?_;refine asd ?_;refine rn ?_;refine .sr ?_;refine vk (Og (cs:=[.bp id 0]) (c:=.bp id 0) h3 rfl (by kernel_rfl)) ?_;refine vk (Ao AP Au) ?_;refine vk (GL (cs:=[.d (.i .i64 deep)]) (c:=.i .i64 deep) h5 rfl AF) ?_
 refine clR (avs:=[.bp id 0,.d (dvI x),.d (.i .i64 deep)]) (Ix orc h hH) Tryz.call123 (fun v H' hp=>?_)
 obtain ⟨rfl,hp⟩:=hp
 refine vk (vnt) ?_;refine asd ?_;refine rn ?_;refine .ret ?_
 exact ⟨_,⟨rfl,rfl⟩,rfl,hp⟩
theorem Upd.set_new {H H':Ad} {id n:Nat} {o x:HO} (k:Upd H id o H') (h1:H.length≤n) (h2:n≠id) : Upd H id o (H'.set n x) :=
 ⟨by rw [List.getElem?_set_ne h2];exact k.1,by simpa using k.2.1,fun j h3 h4=>by rw [List.getElem?_set_ne (by omega)];exact k.2.2 j h3 h4⟩
theorem Upd.set_id {H H':Ad} {id:Nat} {o o':HO} (k:Upd H id o H') : Upd H id o' (H'.set id o') :=
 ⟨List.getElem?_set_self (lS.1 k.1).1,by simpa using k.2.1,fun j h3 h4=>by rw [List.getElem?_set_ne (Ne.symm h3)];exact k.2.2 j h3 h4⟩
def Ub (rc:Arr→Int→Int→Int→Option M3) (a:Arr) (deep c d:Int) : Option M3 :=
 (C7 a.shape).bind fun x1 =>
  if x1.2=0 then
   if ((List.length a.items:Nat):Int)=(if x1.1<1 then 1 else x1.1) then
    if 16384<w64 (c+((List.length a.items:Nat):Int)) then some (false,w64 (c+((List.length a.items:Nat):Int)),d) else
    (CN a).bind fun sm =>
     if sm=true then (if deep≤16 then Kn rc deep a.items (w64 (c+((List.length a.items:Nat):Int))) d else some (false,w64 (c+((List.length a.items:Nat):Int)),d))
     else (if w64 (deep+1)≤16 then Kn rc (w64 (deep+1)) a.items (w64 (c+((List.length a.items:Nat):Int))) (if d<w64 (deep+1) then w64 (deep+1) else d) else some (false,w64 (c+((List.length a.items:Nat):Int)),(if d<w64 (deep+1) then w64 (deep+1) else d)))
   else some (false,c,d)
  else some (false,c,d)
set_option maxHeartbeats 4000000 in
set_option maxRecDepth 20000 in
theorem LP {rc:Arr→Int→Int→Int→Option M3} (orc:OA rc) {a:Arr} {deep c d:Int} {r:M3} (hlen:a.items.length≤9223372036854775806) (h:Ub rc a deep c d=some r) {H:Ad} {id:Nat} (hH:H[id]?=some (EB c d)) :
  FnR Tryz.prog 139 [.bp id 0,.d (dvA a),.d (.i .i64 deep)] H (PE id r H):=by
 unfold Ub at h
 have hid:id<H.length:=(lS.1 hH).1
 refine FnR.of (rs:=[.tmp 6]) 63 Tryz.func139 rfl rfl rfl (by simp) ?_;refine .sr ?_;refine bxA (c:=.bp id 0) ?_;refine vk (vbx) ?_;refine bxA (c:=.d (.i .i64 deep)) ?_;refine asd ?_
 have f0:Upd H id (EB c d) (H++[.box [.bp id 0]]++[.box [.d (.i .i64 deep)]]):=by
  refine ⟨?_,by simp,fun j h1 h2=>?_⟩
  ·rw [List.append_assoc,List.getElem?_append_left hid];exact hH
  ·rw [List.append_assoc,List.getElem?_append_left h2]
 have f3:(H++[HO.box [AV.bp id 0]]++[.box [.d (.i .i64 deep)]])[H.length]?=some (.box [.bp id 0]):=by simp
 have f5:(H++[HO.box [AV.bp id 0]]++[.box [.d (.i .i64 deep)]])[(H++[HO.box [AV.bp id 0]]).length]?=some (.box [.d (.i .i64 deep)]):=by
  rw [List.getElem?_append_right (Nat.le_refl _)];simp
 have g3:H.length≠id:=by omega
 have g5:(H++[HO.box [AV.bp id 0]]).length≠id:=by simp;omega
 have g5':H.length≤(H++[HO.box [AV.bp id 0]]).length:=by simp
 have g35:H.length≠(H++[HO.box [AV.bp id 0]]).length:=by simp
 have g3':H.length≤H.length:=Nat.le_refl _
 generalize H++[HO.box [AV.bp id 0]]++[.box [.d (.i .i64 deep)]]=H2 at f0 f3 f5 ⊢
 generalize (H++[HO.box [AV.bp id 0]]).length=n5 at f5 g5 g5' g35 ⊢
 obtain ⟨n3,hn3⟩:∃ n3,n3=H.length:=⟨_,rfl⟩
 rw [← hn3] at f3 g3 g35
 rw [← hn3]
 have f1:=f0.1
 refine rn ?_;refine .gh (Gh.keep [3,4,5] rfl) ?_;refine .sr ?_;refine vk (vfa AJ) ?_;refine vk (Aj Bl) ?_
 obtain ⟨x1,hx1,h⟩:=bnd h
 refine vk (VOK.tupd (vs:=[.i .i64 x1.1,.i .i64 x1.2]) (Ai (DP hx1) Tryz.call56)) ?_;refine vk (Ac) ?_;refine vk (vex) ?_;refine vk (vex) ?_;refine asd ?_;refine asd ?_;refine rn ?_;refine .gh (Gh.keep [3,4,5,7,8] rfl) ?_;refine .seq ?_;refine .sr ?_;refine vk (Ac) ?_;refine vk (vbi) ?_
 by_cases hc:x1.2=0
 rotate_left
 ·rw [if_neg hc] at h
  cases h
  refine vk (VOK.lit (Ac) (show (!decide (x1.2=0))=true by simp [hc])) ?_;refine gf4 ?_;refine gf2 ?_;refine vk (Aq) ?_;refine rn ?_;refine cnt rfl ?_;refine .sr ?_;refine asd ?_;refine rn ?_;refine .ret ?_
  exact ⟨_,⟨rfl,rfl⟩,rfl,f0⟩
 rw [if_pos hc] at h
 refine vk (VOK.lit (Ac) (show (!decide (x1.2=0))=false by simp [hc])) ?_;refine vk (vfa A4) ?_;refine vk (Aj BL) ?_;refine vk (A0 (Az _) (Cu _) Ct) ?_;refine vk (Ac) ?_;refine vk (vmx) ?_;refine vk (vbi) ?_;refine vk (Aq) ?_;refine rn ?_
 by_cases hc:((List.length a.items:Nat):Int)=(if x1.1<1 then 1 else x1.1)
 rotate_left
 ·rw [if_neg hc] at h
  cases h
  refine cnt (ntt (dF hc)) ?_;refine .sr ?_;refine asd ?_;refine rn ?_;refine .ret ?_
  exact ⟨_,⟨rfl,rfl⟩,rfl,f0⟩
 rw [if_pos hc] at h
 refine cnf (ntf (dT hc)) ?_;refine .skip ?_;refine aw ?_;refine .gh (Gh.keep [3,4,5] rfl) ?_;refine .seq ?_;refine .drawn 10 A3 (by kernel_rfl) ?_;refine dv (Og (cs:=[.bp id 0]) (c:=.bp id 0) f3 rfl (by kernel_rfl)) ?_;refine dv (Vv) ?_;refine dv (GK L8) ?_;refine dv (GL (cs:=[.d (.i .i64 c),.d (.i .i64 d)]) (c:=.i .i64 c) f1 rfl AF) ?_;refine dv (vfa A4) ?_;refine dv (Aj BL) ?_;refine dv (A0 (Az _) (Cu _) Ct) ?_;refine dv (vbi) ?_;refine dv (Vv) ?_;refine dv (GK L8) ?_;refine dz ?_
 refine stb (cs:=[.d (.i .i64 c),.d (.i .i64 d)]) (c:=.d (.i .i64 c)) f1 rfl ?_ C6
 have q0:=f0.set_id (o':=EB (w64 (c+((List.length a.items:Nat):Int))) d)
 have q3:(H2.set id (EB (w64 (c+((List.length a.items:Nat):Int))) d))[n3]?=some (.box [.bp id 0]):=by rw [List.getElem?_set_ne (Ne.symm g3)];exact f3
 have q5:(H2.set id (EB (w64 (c+((List.length a.items:Nat):Int))) d))[n5]?=some (.box [.d (.i .i64 deep)]):=by rw [List.getElem?_set_ne (Ne.symm g5)];exact f5
 refine rn ?_
 change AW _ _ _ _ _ (H2.set id (EB (w64 (c+((List.length a.items:Nat):Int))) d))
 generalize H2.set id (EB (w64 (c+((List.length a.items:Nat):Int))) d)=H3 at q0 q3 q5 ⊢
 generalize w64 (c+((List.length a.items:Nat):Int))=c1 at h q0 ⊢
 have q1:=q0.1
 refine .gh (Gh.keep [3,4,5] rfl) ?_;refine .seq ?_;refine .sr ?_;refine vk (Og (cs:=[.bp id 0]) (c:=.bp id 0) q3 rfl (by kernel_rfl)) ?_;refine vk (Vv) ?_;refine vk (GK L8) ?_;refine vk (GL (cs:=[.d (.i .i64 c1),.d (.i .i64 d)]) (c:=.i .i64 c1) q1 rfl AF) ?_;refine vk (vbi) ?_;refine rn ?_
 by_cases hc:16384<c1
 ·rw [if_pos hc] at h
  cases h
  refine cnt (dT hc) ?_;refine .sr ?_;refine asd ?_;refine rn ?_;refine .ret ?_
  exact ⟨_,⟨rfl,rfl⟩,rfl,q0⟩
 rw [if_neg hc] at h
 refine cnf (dF hc) ?_;refine .skip ?_;refine aw ?_;refine .gh (Gh.keep [3,4,5] rfl) ?_;refine .seq ?_
 obtain ⟨sm,hsm,h⟩:=bnd h
 refine .sr ?_;refine vk (Ao Ae Aa) ?_;refine vk (Ai (EX hsm) Tryz.call82) ?_;refine vk (vnt) ?_;refine rn ?_
 refine AW.mr (σ:=Ad×Int×Int) (fun s=>Upd H id (EB c1 s.2.2) s.1∧s.1[n3]?=some (.box [.bp id 0])∧s.1[n5]?=some (.box [.d (.i .i64 s.2.1)])∧(if s.2.1≤16 then Kn rc s.2.1 a.items c1 s.2.2 else some (false,c1,s.2.2))=some r)
  (fun _=>[(3,.bp n3 0),(4,.d (.ptr [.sl (Is a.shape),.sl (Its a.items)])),(5,.bp n5 0)]) (fun s=>s.1) ?_ ?_
 ·by_cases hs:sm=true
  ·rw [if_pos hs] at h
   refine cnf (ntf hs) ?_;refine .gh (Gh.keep [3,4,5] rfl) ?_;refine .skip ?_
   exact jr (H3,deep,d) ⟨q0,q3,q5,h⟩
  rw [if_neg hs] at h
  refine cnt (ntt (bf hs)) ?_;refine .sr ?_;refine vk (GL (cs:=[.d (.i .i64 deep)]) (c:=.i .i64 deep) q5 rfl AF) ?_;refine vk (vbi) ?_
  refine stb (cs:=[.d (.i .i64 deep)]) (c:=.d (.i .i64 deep)) q5 rfl ?_ C6
  have p0:=q0.set_new (n:=n5) (x:=.box [.d (.i .i64 (w64 (deep+1)))]) g5' g5
  have p3:(H3.set n5 (.box [.d (.i .i64 (w64 (deep+1)))]))[n3]?=some (.box [.bp id 0]):=by rw [List.getElem?_set_ne (Ne.symm g35)];exact q3
  have p5:(H3.set n5 (.box [.d (.i .i64 (w64 (deep+1)))]))[n5]?=some (.box [.d (.i .i64 (w64 (deep+1)))]):=List.getElem?_set_self (lS.1 q5).1
  refine rn ?_
  change AW _ _ _ _ _ (H3.set n5 (.box [.d (.i .i64 (w64 (deep+1)))]))
  generalize H3.set n5 (.box [.d (.i .i64 (w64 (deep+1)))])=H4 at p0 p3 p5 ⊢
  generalize w64 (deep+1)=dp at h p5 ⊢
  have p1:=p0.1
  refine .gh (Gh.keep [3,4,5] rfl) ?_;refine .drawn 9 A3 (by kernel_rfl) ?_;refine dv (Og (cs:=[.bp id 0]) (c:=.bp id 0) p3 rfl (by kernel_rfl)) ?_;refine dv (Og (cs:=[.bp id 0]) (c:=.bp id 0) p3 rfl (by kernel_rfl)) ?_;refine dv (Vv) ?_;refine dv (GK OH) ?_;refine dv (GL (cs:=[.d (.i .i64 c1),.d (.i .i64 d)]) (c:=.i .i64 d) p1 rfl AF) ?_;refine dv (GL (cs:=[.d (.i .i64 dp)]) (c:=.i .i64 dp) p5 rfl AF) ?_;refine dv (vmx) ?_;refine dv (Vv) ?_;refine dv (GK OH) ?_;refine dz ?_
  refine stb (cs:=[.d (.i .i64 c1),.d (.i .i64 d)]) (c:=.d (.i .i64 d)) p1 rfl ?_ C6
  have w0:=p0.set_id (o':=EB c1 (if d<dp then dp else d))
  have w3:(H4.set id (EB c1 (if d<dp then dp else d)))[n3]?=some (.box [.bp id 0]):=by rw [List.getElem?_set_ne (Ne.symm g3)];exact p3
  have w5:(H4.set id (EB c1 (if d<dp then dp else d)))[n5]?=some (.box [.d (.i .i64 dp)]):=by rw [List.getElem?_set_ne (Ne.symm g5)];exact p5
  refine RL.gh (Gh.keep [3,4,5] rfl) ?_;refine .nil ?_
  exact jr (H4.set id (EB c1 (if d<dp then dp else d)),dp,(if d<dp then dp else d)) ⟨w0,w3,w5,h⟩
 rintro ⟨H5,dp,d1⟩ ⟨u0,u3,u5,h⟩
 dsimp only at u0 u3 u5 h ⊢
 refine aw ?_;refine .sr ?_;refine vk (GL (cs:=[.d (.i .i64 dp)]) (c:=.i .i64 dp) u5 rfl AF) ?_;refine vk (vbi) ?_
 by_cases hc:dp≤16
 rotate_left
 ·rw [if_neg hc] at h
  cases h
  refine vk (VOK.lit (Ac) (dF hc)) ?_;refine gf4 ?_;refine gf ?_;refine vk (Aq) ?_;refine asd ?_;refine rn ?_;refine .ret ?_
  exact ⟨_,⟨rfl,rfl⟩,rfl,u0⟩
 rw [if_pos hc] at h
 refine vk (VOK.lit (Ac) (dT hc)) ?_;refine vk (vfa A4) ?_;refine vk (Aj BL) ?_;refine Yl (avs:=[.bp n3 0,.bp n5 0]) ?_
 obtain ⟨n,h1,h2⟩:=Qq (Int.le_refl 0) h
 have step:=Il (S:=Int×Int) (step:=Ql rc dp) (st:=fun s H'=>Upd H id (EB s.1 s.2) H'∧H'[n3]?=some (.box [.bp id 0])∧H'[n5]?=some (.box [.d (.i .i64 dp)])) (caps:=[.bp n3 0,.bp n5 0]) Tryz.call188 rfl
  (fun x s y H' hs hy=>by
   obtain ⟨hs0,hs3,hs5⟩:=hs
   simp only [Ql,Option.map_eq_some_iff] at hy
   obtain ⟨z,hz,rfl⟩:=hy
   refine (KG orc hz hs0.1 hs3 hs5).mono fun v H'' hp=>⟨hp.1,hs0.trans hp.2,?_,?_⟩
   ·rw [hp.2.2.2 n3 g3 (lS.1 hs3).1];exact hs3
   ·rw [hp.2.2.2 n5 g5 (lS.1 hs5).1];exact hs5)
  hlen h1 (H:=H5) ⟨u0,u3,u5⟩
 refine clR (avs:=[.d (.sl (Its a.items)),.fn 188 [] [.bp n3 0,.bp n5 0]]) step Tryz.call57 (fun v H' hp=>?_)
 obtain ⟨rfl,hp⟩:=hp
 refine vk (vnt) ?_
 rw [h2]
 refine vk (Aq) ?_;refine asd ?_;refine rn ?_;refine .ret ?_
 exact ⟨_,⟨rfl,rfl⟩,rfl,hp.1⟩
def Mm : Nat→Arr→Int→Int→Int→Option M3
 | 0,_,_,_,_=>none
 | k+1,a,deep,c,d=>if a.items.length≤9223372036854775806 then Ub (Mm k) a deep c d else none
theorem PF : ∀ k,OA (Mm k)
 | 0=>fun _ _ _ _ _ h=>by cases h
 | k+1=>fun a deep c d r h H id hH=>by
  rw [Mm] at h
  obtain ⟨hl,h⟩:=En h
  exact LP (PF k) hl h hH
def mAr (a:Arr) (deep c d:Int) : Option M3:=Mm (a.size+1) a deep c d
def mIt (x:Itm) (deep c d:Int) : Option M3:=NF mAr x deep c d
theorem UH : OA mAr:=fun a deep c d r h=>PF _ a deep c d r h
def EA (a:Arr) : Option ((Int×Int)×Bool):=(mAr a 0 0 0).map fun z=>if z.1=true then (z.2,true) else ((0,0),false)
theorem G4 {a:Arr} {r:(Int×Int)×Bool} (h:EA a=some r) : Fn Tryz.prog 81 [dvA a] (.tup [.d (.ag [.i .i64 r.1.1,.i .i64 r.1.2]),.d (.b r.2)]):=by
 simp only [EA,Option.map_eq_some_iff] at h
 obtain ⟨z,hz,rfl⟩:=h
 refine Fn.ofC (rs:=[.cell 2 102,.tmp 3]) (nt:=10) Tryz.func81 rfl rfl rfl (by simp) rfl ?_;refine .sr ?_;refine vk (vbx) ?_;refine vk (van (Ah MQ) QI) ?_;refine asd ?_;refine rn ?_;refine .sr ?_
 refine al ?_ (Ah MQ) (fun w I μ=>VB w I μ)
 refine rn ?_;refine .seq ?_;refine .sr ?_;refine vk (Ao Ae Aa) ?_
 refine clR (avs:=[.bp 0 0,.d (dvA a),.d (.i .i64 0)]) (UH a 0 0 0 z hz _ 0 rfl) Tryz.call139 (fun v H' hp=>?_)
 obtain ⟨rfl,hp⟩:=hp
 refine vk (vnt) ?_;refine rn ?_
 by_cases hc:z.1=true
 ·rw [if_pos hc]
  refine cnf (ntf hc) ?_;refine .skip ?_;refine aw ?_;refine .sr ?_;refine vk (IC (cs:=[.d (.i .i64 z.2.1),.d (.i .i64 z.2.2)]) (ds:=[.i .i64 z.2.1,.i .i64 z.2.2]) hp.1 T5 Lw) ?_
  refine stn ?_ Lw (by decide)
  refine asd ?_;refine rn ?_;refine .ret ?_
  exact ⟨_,_,⟨.inr rfl,T5,Lw,p2⟩,rfl,rfl⟩
 ·rw [if_neg hc]
  refine cnt (ntt (bf hc)) ?_;refine .sr ?_;refine vk (vbd Y0 MQ QI) ?_
  refine stn ?_ Lw (by decide)
  refine asd ?_;refine rn ?_;refine .ret ?_
  exact ⟨_,_,⟨.inr rfl,T5,Lw,p2⟩,rfl,rfl⟩
def EO (x:Itm) : Option Bool:=(mIt x 0 0 0).map fun z=>z.1
theorem IY {x:Itm} {r:Bool} (h:EO x=some r) : Fn Tryz.prog 59 [dvI x] (.d (.b r)):=by
 simp only [EO,Option.map_eq_some_iff] at h
 obtain ⟨z,hz,rfl⟩:=h
 refine Fn.o1 2 6 Tryz.func59 ?_;refine .sr ?_;refine vk (vbx) ?_;refine asd ?_;refine rn ?_;refine .sr ?_
 refine al ?_ (Ah MQ) (fun w I μ=>VB w I μ)
 refine vk (Ao AP Au) ?_
 refine clR (avs:=[.bp 0 0,.d (dvI x),.d (.i .i64 0)]) (Ix UH hz (id:=0) rfl) Tryz.call123 (fun v H' hp=>?_)
 obtain ⟨rfl,hp⟩:=hp
 refine asd ?_;refine rn ?_;refine .ret ?_
 exact ⟨rfl,rfl⟩
def NG (s:Bool) (n:Nat) : Int×Bool:=if s=true then (if n≤9223372036854775808 then (-(n:Int),true) else (0,false)) else if n<9223372036854775808 then ((n:Int),true) else (0,false)
def I6 (a:RT) : Option (Int×Bool):=(Hh a).bind fun b=>if b=true then (if (okL 1048576 a.2.1&&decide (Ak (val a.2.1)=a.2.1))=true then some (if BE (val a.2.1)≤64 then NG a.1 (val a.2.1) else (0,false)) else none) else some (0,false)
theorem Zi (w:World) : (zeroValue 96).run Tryz.prog w=.ok (.int .u64 0) w:=by
 simp
theorem zu1 : Ay Tryz.prog 96=1:=by kernel_rfl
theorem au1 : B1 Tryz.prog 96=some false:=by kernel_rfl
theorem Wq {xs:List Nat} (h:Ok xs) (hl:xs.length≤2) : ∀ j,val (xs.drop (j+1))<4294967296:=by
 intro j
 match xs,hl with
 | [],_=>simp [val]
 | [x],_=>cases j<;>simp [val]
 | [x,y],_ =>
  have hy:y<4294967296:=h y (by simp)
  cases j with
  | zero=>simp [val];omega
  | succ j=>cases j<;>simp [val]
theorem VI {n:Nat} (h:n≤9223372036854775808) : IntKind.i64.wrap (IntKind.u64.wrap (0-(n:Int)))=-(n:Int):=by
 simp only [IntKind.wrap,IntKind.bits,IntKind.signed];simp;omega
theorem Qc {a:RT} {r:Int×Bool} (h:I6 a=some r) : Fn Tryz.prog 79 [.ag [.b a.1,.sl (L a.2.1),.sl (L a.2.2)]] (.tup [.d (.i .i64 r.1),.d (.b r.2)]):=by
 unfold I6 at h
 obtain ⟨x1,hx1,h⟩:=bnd h
 refine Fn.ofM (rs:=[.tmp 2,.tmp 3]) (nt:=46) Tryz.func79 rfl rfl rfl (by simp) rfl ?_;refine .seqA ?_;refine .region ?_;refine vk vbx ?_;refine asd ?_;refine asd ?_;refine rn ?_
 show AWM _ _ _ _ _ _
 refine .seqA ?_;refine .seq ?_;refine .region ?_;refine vk (Ao A8 AG) ?_;refine vk (Ai (OL hx1) Tryz.call129) ?_;refine vk vnt ?_
 cases x1 with
 | false =>
  replace h:=Lx (by decide) h
  refine mvd ?_;refine gf4 ?_;refine vk Aq ?_;refine rn ?_;refine cnt rfl ?_;refine .seq ?_;refine .region ?_;refine asd ?_;refine asd ?_;refine rn ?_;refine .ret ?_
  cases h
  exact ⟨by decide,rfl,rfl,rfl⟩
 | true =>
  replace h:=LG rfl h
  obtain ⟨hc,h⟩:=En h
  rw [Bool.and_eq_true,Db] at hc
  obtain ⟨⟨hok,hlen⟩,hdg⟩:=hc
  have hdg:=of_decide_eq_true hdg
  refine mvd ?_;refine vk (vfa EE) ?_;refine vk (Aj Gf) ?_
  refine cl (xs:=[.sl (L a.2.1)]) ?_ (WY hok hlen) Tryz.call137
  refine vb ?_;refine vk Aq ?_;refine rn ?_
  by_cases hb:BE (val a.2.1)≤64
  ·rw [if_pos hb] at h
   cases h
   have hb1:decide ((64:Int)<(BE (val a.2.1):Nat))=false:=dF (by omega)
   refine cnf hb1 ?_;refine .skip ?_
   show AWM _ _ _ _ _ _
   have hv64:val a.2.1<18446744073709551616:=EL.1 hb
   have hlen2:a.2.1.length≤2:=by rw [← hdg];exact DI (by omega)
   have hvs:=Wq hok hlen2
   refine .seqA ?_;refine .region ?_
   refine al ?_ Zi (fun w I μ=>.cons (c:=.d (.i .u64 0)) (b1:=[]) (.d (.i _ _)) .nil)
   refine stb (cs:=[.d (.i .u64 0)]) (c:=.d (.i .u64 0)) rfl rfl ?_ zu1
   refine rn ?_
   show AWM _ _ _ _ _ _
   refine .seq rfl ?_;refine .seqA ?_;refine .region ?_;refine vk (vfa EE) ?_;refine vk (Aj Gf) ?_
   refine cl (xs:=[.sl (L a.2.1)]) ?_ (Pz (L a.2.1)) Tryz.call138
   refine rn ?_
   show AWM _ _ _ _ _ _
   obtain ⟨s,xs,den⟩:=a
   dsimp only at *
   have hys:∀ ds∈J7 (L xs),ds.length=2:=fun ds hds=>by
    obtain ⟨k,hk⟩:=List.getElem?_of_mem hds
    rw [(P9 hk).2];rfl
   have hit:=Y1 (L xs) (by intro x hx;simp only [L,List.mem_map] at hx;obtain ⟨n,_,rfl⟩:=hx;rfl) (by rw [Ab];omega)
   refine .block ?_;refine .rangeFunc rfl rfl rfl Tryz.call187 hit hys (by decide) (by decide) rfl (fun k=>[.box [.d (.i .u64 ((val (xs.drop (xs.length-k)):Nat):Int))]]) (by simp [val]) ?_ ?_
   ·intro l k d1 d2 hk
    obtain ⟨hk1,hk2⟩:=P9 hk
    rw [Ab] at hk1 hk2
    have hj:xs.length-1-k<xs.length:=by omega
    have hxat:(L xs).getD (xs.length-1-k) .np=U xs[xs.length-1-k]:=by
     rw [lD,F6 (lG hj)];rfl
    rw [hxat] at hk2
    simp only [List.cons.injEq,and_true] at hk2
    obtain ⟨rfl,rfl⟩:=hk2
    have hva:=XY hj
    have hx:=hok.at (lG hj)
    have hsm:=hvs (xs.length-1-k)
    have e1:xs.length-1-k+1=xs.length-k:=by omega
    have e2:xs.length-(k+1)=xs.length-1-k:=by omega
    rw [e1] at hva hsm
    rw [e2]
    generalize xs[xs.length-1-k]=x at *
    generalize val (xs.drop (xs.length-k))=n at *
    rw [hva]
    refine .region ?_;refine asd ?_;refine rn ?_;refine aw ?_;refine .block ?_;refine .region ?_
    refine ldb (cs:=[.d (.i .u64 (n:Int))]) (c:=.d (.i .u64 (n:Int))) rfl rfl ?_ au1
    refine bie (.i .u64 ((n * 4294967296:Nat):Int)) ?_ ?_
    ·refine ⟨by decide,?_⟩
     have:IntKind.u64.wrap ((n:Int) * 4294967296)=((n * 4294967296:Nat):Int):=by
      rw [G8 _ (by omega) (by omega)];omega
     rw [← this];simp [IntKind.bits]
    refine mvd ?_
    refine cve (x:Int) (G8 _ (by omega) (by omega)) ?_ u32 u64
    refine bie (.i .u64 ((n * 4294967296+x:Nat):Int)) ?_ ?_
    ·exact ⟨trivial,by rw [Km hsm hx]⟩
    refine stb (cs:=[.d (.i .u64 (n:Int))]) (c:=.d (.i .u64 (n:Int))) rfl rfl ?_ zu1
    refine .nil ?_
    refine ⟨rfl,?_⟩
    rw [show n * 4294967296+x=x+4294967296 * n by omega]
    rfl
   ·show AWM _ _ _ _ _ _
    refine .lift ?_
    rw [HY,Ab,Nat.sub_self,List.drop_zero]
    have hn:val xs<18446744073709551616:=hv64
    generalize val xs=n at *
    cases s with
    | true =>
     refine .seq ?_;refine .block ?_;refine .seq ?_;refine .region ?_;refine vk (vfa E5) ?_;refine vk (Aj DT) ?_;refine mvd ?_
     refine ldb (cs:=[.d (.i .u64 (n:Int))]) (c:=.d (.i .u64 (n:Int))) rfl rfl ?_ au1
     refine vb ?_;refine vk Aq ?_;refine asd ?_;refine rn ?_
     by_cases hle:n≤9223372036854775808
     ·refine cnt (dT (show (n:Int)≤9223372036854775808 by omega)) ?_
      refine .seq ?_;refine .region ?_
      refine ldb (cs:=[.d (.i .u64 (n:Int))]) (c:=.d (.i .u64 (n:Int))) rfl rfl ?_ au1
      refine vk vng ?_;refine vk (vcv u64 i64) ?_;refine asd ?_;refine asd ?_;refine rn ?_;refine .ret ?_
      refine ⟨by decide,?_,rfl,rfl⟩
      rw [show NG true n=(-(n:Int),true) by rw [NG,if_pos rfl,if_pos hle],← VI hle];rfl
     ·refine cnf (dF (show ¬((n:Int)≤9223372036854775808) by omega)) ?_
      refine .seq ?_;refine .region ?_;refine vk (vfa E5) ?_;refine vk (Aj DT) ?_;refine vk vnt ?_;refine mvd ?_;refine gf2 ?_;refine vk Aq ?_;refine asd ?_;refine rn ?_;refine cnf rfl ?_;refine .sk ?_;refine .seq ?_;refine .region ?_;refine asd ?_;refine asd ?_;refine rn ?_;refine .ret ?_
      exact ⟨by decide,by rw [show NG true n=(0,false) by rw [NG,if_pos rfl,if_neg hle]];rfl,rfl,rfl⟩
    | false =>
     refine .seq ?_;refine .block ?_;refine .seq ?_;refine .region ?_;refine vk (vfa E5) ?_;refine vk (Aj DT) ?_;refine mvd ?_;refine gf2 ?_;refine vk Aq ?_;refine asd ?_;refine rn ?_;refine cnf rfl ?_;refine .seq ?_;refine .region ?_;refine vk (vfa E5) ?_;refine vk (Aj DT) ?_;refine vk vnt ?_;refine mvd ?_
     refine ldb (cs:=[.d (.i .u64 (n:Int))]) (c:=.d (.i .u64 (n:Int))) rfl rfl ?_ au1
     refine vb ?_;refine vk Aq ?_;refine asd ?_;refine rn ?_
     by_cases hlt:n<9223372036854775808
     ·refine cnt (dT (show (n:Int)<9223372036854775808 by omega)) ?_
      refine .seq ?_;refine .region ?_
      refine ldb (cs:=[.d (.i .u64 (n:Int))]) (c:=.d (.i .u64 (n:Int))) rfl rfl ?_ au1
      refine vk (vcv u64 i64) ?_;refine asd ?_;refine asd ?_;refine rn ?_;refine .ret ?_
      refine ⟨by decide,?_,rfl,rfl⟩
      rw [show NG false n=((n:Int),true) by rw [NG,if_neg (by decide),if_pos hlt]]
      have:=TJ (n:Int) (by omega) (by omega)
      exact (show AV.tup [.d (.i .i64 (n:Int)),.d (.b true)]=.tup [.d (.i .i64 (IntKind.i64.wrap (n:Int))),.d (.b true)] by rw [this]).trans rfl
     ·refine cnf (dF (show ¬((n:Int)<9223372036854775808) by omega)) ?_
      refine .sk ?_;refine .seq ?_;refine .region ?_;refine asd ?_;refine asd ?_;refine rn ?_;refine .ret ?_
      exact ⟨by decide,by rw [show NG false n=(0,false) by rw [NG,if_neg (by decide),if_neg hlt]];rfl,rfl,rfl⟩
  ·rw [if_neg hb] at h
   cases h
   have hb1:decide ((64:Int)<(BE (val a.2.1):Nat))=true:=dT (by omega)
   refine cnt hb1 ?_;refine .seq ?_;refine .region ?_;refine asd ?_;refine asd ?_;refine rn ?_;refine .ret ?_
   exact ⟨by decide,rfl,rfl,rfl⟩
def Bm (a0:Arr) : Option (Bool):=((EA a0).bind fun x1=>(some (x1.2)))
theorem BT {a0:Arr} {r:Bool} (h:Bm a0=some r) :
  Fn Tryz.prog 54 [.ag [.sl (Is a0.shape),.sl (Its a0.items)]] (.d (.b r)):=by
 unfold Bm at h
 refine Fn.o1 2 11 Tryz.func54 ?_;refine .sr ?_;refine vk vbx ?_;refine ar [1,2] ?_;refine .sr ?_;refine vk (Ao Ae Aa) ?_
 obtain ⟨x1,g1,h⟩:=bnd h
 refine vk (VOK.tupd (vs:=[.ag [.i .i64 x1.1.1,.i .i64 x1.1.2],.b x1.2]) (Ai (G4 g1) Tryz.call81)) ?_;refine va ?_;refine vk vex ?_;refine vk vex ?_;refine vk (van (Ah MQ) QI) ?_
 refine stn ?_ Lw (by decide)
 refine ar [2,4] ?_;refine .sr ?_;refine va ?_;refine ar [2] ?_;refine .ret ?_
 cases h
 exact ⟨rfl,rfl⟩
def FC (a0:Arr) : Option (Int):=((EA a0).bind fun x1=>(some (x1.1.2)))
theorem Nh {a0:Arr} {r:Int} (h:FC a0=some r) :
  Fn Tryz.prog 28 [.ag [.sl (Is a0.shape),.sl (Its a0.items)]] (.d (.i .i64 r)):=by
 unfold FC at h
 refine Fn.o1 2 12 Tryz.func28 ?_;refine .sr ?_;refine vk vbx ?_;refine ar [1,2] ?_;refine .sr ?_;refine vk (Ao Ae Aa) ?_
 obtain ⟨x1,g1,h⟩:=bnd h
 refine vk (VOK.tupd (vs:=[.ag [.i .i64 x1.1.1,.i .i64 x1.1.2],.b x1.2]) (Ai (G4 g1) Tryz.call81)) ?_;refine va ?_;refine vk vex ?_;refine vk vex ?_;refine vk (van (Ah MQ) QI) ?_
 refine stn ?_ Lw (by decide)
 refine ar [2,3] ?_;refine .seq ?_;refine .gh (Gh.nbp (t:=3) rfl) ?_;refine .region ?_;refine vk (vfa OH) ?_;refine vk (Aj AF) ?_;refine ar [2] ?_;refine .ret ?_
 cases h
 exact ⟨rfl,rfl⟩
def FM (a0:Arr) : Option (Int):=((EA a0).bind fun x1=>(some (x1.1.1)))
theorem Nl {a0:Arr} {r:Int} (h:FM a0=some r) :
  Fn Tryz.prog 62 [.ag [.sl (Is a0.shape),.sl (Its a0.items)]] (.d (.i .i64 r)):=by
 unfold FM at h
 refine Fn.o1 2 12 Tryz.func62 ?_;refine .sr ?_;refine vk vbx ?_;refine ar [1,2] ?_;refine .sr ?_;refine vk (Ao Ae Aa) ?_
 obtain ⟨x1,g1,h⟩:=bnd h
 refine vk (VOK.tupd (vs:=[.ag [.i .i64 x1.1.1,.i .i64 x1.1.2],.b x1.2]) (Ai (G4 g1) Tryz.call81)) ?_;refine va ?_;refine vk vex ?_;refine vk vex ?_;refine vk (van (Ah MQ) QI) ?_
 refine stn ?_ Lw (by decide)
 refine ar [2,3] ?_;refine .seq ?_;refine .gh (Gh.nbp (t:=3) rfl) ?_;refine .region ?_;refine vk (vfa L8) ?_;refine vk (Aj AF) ?_;refine ar [2] ?_;refine .ret ?_
 cases h
 exact ⟨rfl,rfl⟩
def GZ (a0:Arr) (a1:Arr) : Option (Bool):=((Bm a0).bind fun x1=>(Option.bind ((if x1=true then ((Bm a1).bind fun x3=>(if x3=true then ((P2 a0 a1).bind fun x4=>(some x4)) else (some false))) else (some false)) : Option (Bool)) fun (z1:Bool)=>(some (z1))))
theorem Ir {a0:Arr} {a1:Arr} {r:Bool} (h:GZ a0 a1=some r) :
  Fn Tryz.prog 17 [.ag [.sl (Is a0.shape),.sl (Its a0.items)],.ag [.sl (Is a1.shape),.sl (Its a1.items)]] (.d (.b r)):=by
 unfold GZ at h
 refine Fn.o1 4 16 Tryz.func17 ?_;refine .sr ?_;refine vk vbx ?_;refine vk vbx ?_;refine ar [2,3,4] ?_;refine .seq ?_
 obtain ⟨x1,g1,h⟩:=bnd h
 obtain ⟨z1,hz,h⟩:=bnd h
 refine AW.mr (σ:=Unit) (fun _=>True) (fun _=>[(4,.d (.b z1))]) (fun _=>[]) ?_ ?_
 ·skip
  refine .region ?_;refine vk (Ao Ae Aa) ?_;refine vk (Ai (BT g1) Tryz.call54) ?_
  rcases brc hz with ⟨hc,hz⟩|⟨hc,hz⟩
  ·have hb0:x1=true:=hc
   refine vL hb0 ?_;refine vk (Ao Ae Aa) ?_
   obtain ⟨x3,g3,hz⟩:=bnd hz
   refine vk (Ai (BT g3) Tryz.call54) ?_;refine vk Aq ?_
   rcases brc hz with ⟨hc,hz⟩|⟨hc,hz⟩
   ·have hb1:x3=true:=hc
    refine vL hb1 ?_;refine vk (Ao Ae Aa) ?_;refine vk (Ao Ae Aa) ?_
    obtain ⟨x4,g4,hz⟩:=bnd hz
    refine vk (Ai (Qp g4) Tryz.call55) ?_;refine vk Aq ?_;refine asd ?_;refine RL.gk [4] ?_;refine .nil ?_
    cases hz
    exact jr () trivial
   have hb1:x3=false:=(bf hc)
   refine vL hb1 ?_;refine gf3 ?_;refine vk Aq ?_;refine asd ?_;refine RL.gk [4] ?_;refine .nil ?_
   cases hz
   exact jr () trivial
  have hb0:x1=false:=(bf hc)
  refine vL hb0 ?_;refine gf2 ?_;refine vk Aq ?_;refine va ?_;refine gf3 ?_;refine vk Aq ?_;refine asd ?_;refine RL.gk [4] ?_;refine .nil ?_
  cases hz
  exact jr () trivial
 rintro _ _
 refine .ret ?_
 cases h
 exact ⟨rfl,rfl⟩
def Ax (a0:(List Itm)) (a1:CE) (K0:Int→Option (Int)) : Nat→Int→Int→Option (Int)
 | 0,_,_=>none
 | k+1,s2,s3=>(if s3<((List.length a0:Nat):Int) then ((rd? a0 s3).bind fun x4=>((a1.g x4).bind fun x5=>(if x5=true then (some (s3)) else (Ax a0 a1 K0 k s2 (w64 (s3+1)))))) else (K0 s2))
def Bj (a0:(List Itm)) (a1:CE) : Option (Int):=(jn (fun (z1:Int)=>(some ((-1)))) fun K0=>(Ax a0 a1 K0 AC 0 0))
theorem Ef {a0:(List Itm)} {a1:CE} (oa1:Kw a1) {r:Int} (h:Bj a0 a1=some r) :
  Fn Tryz.prog 122 [.sl (Its a0),a1.dv] (.d (.i .i64 r)):=by
 unfold Bj at h
 refine Fn.o1 4 19 Tryz.func122 ?_;refine .sr ?_;refine ar [0,1,4] ?_;refine .seq ?_;refine .sr ?_;refine va ?_;refine vk (A0 (Az _) (Cu _) Ct) ?_;refine va ?_;refine rk [0,1,4,7,8] ?_
 obtain ⟨K0,hK0,h⟩:=AE h
 refine AW.mr (σ:=Int) (fun p=>K0 p=some r) (fun p=>[(4,.d (.i .i64 p))]) (fun p=>[]) ?_ ?_
 ·skip
  refine .block ?_
  refine .loop (.gk [0,1,4,7,8] ?_)
  refine AL.ind (σ:=Nat×Int×Int) (m:=fun p=>p.1) (e:=fun p=>[(0,.d (.sl (Its a0))),(1,.d (a1.dv)),(4,.d (.i .i64 p.2.1)),(7,.d (.i .i64 ((List.length a0:Nat):Int))),(8,.d (.i .i64 p.2.2))]) (h:=fun p=>[]) (I:=fun p=>Ax a0 a1 K0 p.1 p.2.1 p.2.2=some r) ?_ (AC,0,0) h
  rintro ⟨k,s2,s3⟩ h ih
  dsimp only at h ih ⊢
  rcases k with _|k
  ·rw [Ax] at h;cases h
  rw [Ax] at h
  refine .sr ?_;refine vb ?_;refine rk [0,1,4,7,8,9] ?_;refine .seq ?_
  rcases brc h with ⟨hc,h⟩|⟨hc,h⟩
  ·refine cnt (dT hc) ?_
   refine .sk ?_;refine .seq ?_;refine .block ?_;refine .sr ?_;refine va ?_;refine ar [0,1,4,5,7,8] ?_;refine .sr ?_;refine va ?_;refine va ?_;refine va ?_
   obtain ⟨x4,g4,h⟩:=bnd h
   obtain ⟨n4,p04,q4⟩:=Ag g4
   refine vk (vix n4 p04 (Cw q4) rfl Cl) ?_;refine vk (Ao AP Au) ?_
   obtain ⟨x5,g5,h⟩:=bnd h
   refine vk (Mq (oa1 _ _ g5)) ?_;refine rk [0,1,4,5,7,8,16] ?_
   rcases brc h with ⟨hc,h⟩|⟨hc,h⟩
   ·refine cnt hc ?_
    refine .sr ?_;refine va ?_;refine ar [0,1,4,7,8] ?_;refine .ret ?_
    cases h
    exact ⟨rfl,rfl⟩
   refine cnf (bf hc) ?_;refine .sk ?_;refine .region ?_;refine vb ?_;refine va ?_;refine .nil ?_;refine AL.gk [0,1,4,7,8] ?_
   exact ih (k,s2,(w64 (s3+1))) h (Nat.lt_succ_self _)
  refine cnf (dF hc) ?_;refine .gk [4] ?_;refine .exit ?_
  exact jr (s2) h
 rintro z1 h
 try dsimp only at h ⊢
 subst hK0
 refine aw ?_;refine .sr ?_;refine ar [4] ?_;refine .ret ?_
 cases h
 exact ⟨rfl,rfl⟩
def AR (a0:(List Itm)) (a1:CE) : Option (Bool):=((Bj a0 a1).bind fun x1=>(some ((decide (0≤x1)))))
theorem DR {a0:(List Itm)} {a1:CE} (oa1:Kw a1) {r:Bool} (h:AR a0 a1=some r) :
  Fn Tryz.prog 57 [.sl (Its a0),a1.dv] (.d (.b r)):=by
 unfold AR at h
 refine Fn.o1 4 9 Tryz.func57 ?_;refine .sr ?_;refine ar [0,1,4] ?_;refine .sr ?_;refine va ?_;refine va ?_
 obtain ⟨x1,g1,h⟩:=bnd h
 refine vk (Ai (Ef oa1 g1) Tryz.call122) ?_;refine vb ?_;refine ar [4] ?_;refine .ret ?_
 cases h
 exact ⟨rfl,rfl⟩
def EP (a0:Itm) : Option (Bool):=((EO a0).bind fun x1=>(some ((!x1))))
theorem L3 {a0:Itm} {r:Bool} (h:EP a0=some r) :
  Fn Tryz.prog 58 [.ag [.i .u8 a0.kind,.b a0.num.1,.sl (L a0.num.2.1),.sl (L a0.num.2.2),.i .i32 a0.char,.sl (Ars a0.box)]] (.d (.b r)):=by
 unfold EP at h
 refine Fn.o1 2 6 Tryz.func58 ?_;refine .sr ?_;refine vk vbx ?_;refine ar [1,2] ?_;refine .sr ?_;refine vk (Ao AP Au) ?_
 obtain ⟨x1,g1,h⟩:=bnd h
 refine vk (Ai (IY g1) Tryz.call59) ?_;refine vk vnt ?_;refine ar [2] ?_;refine .ret ?_
 cases h
 exact ⟨rfl,rfl⟩
def CH (x12:Itm) (K4:Int→Option (Arr×Int)) : Nat→Int→Int→Option (Arr×Int)
 | 0,_,_=>none
 | k+1,s14,s15=>(if s15<((List.length x12.box:Nat):Int) then ((rd? x12.box s15).bind fun x16=>((FM x16).bind fun x17=>(CH x12 K4 k (w64 (s14+x17)) (w64 (s15+1))))) else (K4 s14))
def Cf (a1:(List Itm)) (K1:(List Int)→Option (Arr×Int)) : Nat→(List Int)→Int→Option (Arr×Int)
 | 0,_,_=>none
 | k+1,s9,s10=>(if s10<((List.length a1:Nat):Int) then (jn (fun (z11:(List Int))=>(Cf a1 K1 k z11 (w64 (s10+1)))) fun K3=>((rd? a1 s10).bind fun x12=>(jn (fun (z13:Int)=>((ap? 17592186044416 s9 [z13]).bind fun x18=>(K3 x18))) fun K4=>(CH x12 K4 AC 1 0)))) else (K1 s9))
def Cg (a1:(List Itm)) (x1:Int×Int) (z8:(List Int)) (K6:Arr→Int→(List Int)→(List Itm)→Option (Arr×Int)) : Nat→Arr→Int→Int→Int→(List Int)→(List Itm)→Option (Arr×Int)
 | 0,_,_,_,_,_,_=>none
 | k+1,s23,s24,s25,s26,s27,s28=>(if s25<x1.1 then ((Fp (((List.length a1:Nat):Int)≠0)).bind fun x29=>((rd? z8 (Int.tmod s25 ((List.length a1:Nat):Int))).bind fun x30=>(if 16384<(w64 (s26+x30)) then (some ((Arr.mk [] []),8)) else ((Fp (((List.length a1:Nat):Int)≠0)).bind fun x31=>((rd? a1 (Int.tmod s25 ((List.length a1:Nat):Int))).bind fun x32=>((Ft x32).bind fun x33=>((ap? 1466015503701 s28 [x33]).bind fun x34=>(Cg a1 x1 z8 K6 k s23 s24 (w64 (s25+1)) (w64 (s26+x30)) s27 x34)))))))) else (K6 s23 s24 s27 s28))
def AM (a0:(List Int)) (a1:(List Itm)) : Option (Arr×Int):=((C7 a0).bind fun x1=>(if x1.2=0 then (Option.bind ((if ((List.length a1:Nat) : Int)=0 then (some true) else ((AR a1 (⟨.fn 58 [] [],fun x=>EP x⟩ : CE)).bind fun x3=>(some x3))) : Option (Bool)) fun (z2:Bool)=>(if z2=true then (some ((Arr.mk [] []),22)) else ((Fe a0).bind fun x4=>(jn (fun (z5:(List Itm))=>(jn (fun (z8:(List Int))=>(jn (fun (z19:Arr) (z20:Int) (z21:(List Int)) (z22:(List Itm))=>((Bm (Arr.mk z21 z22)).bind fun x35=>(if x35=true then (some ((Arr.mk z21 z22),0)) else (some ((Arr.mk [] []),8))))) fun K6=>(Cg a1 x1 z8 K6 AC (Arr.mk [] []) 0 0 0 x4 z5))) fun K1=>(Cf a1 K1 AC [] 0))) fun K0=>(if x1.1=0 then ((rd? a1 0).bind fun x6=>((KF x6).bind fun x7=>(K0 ([x7])))) else (K0 [])))))) else (some ((Arr.mk [] []),x1.2))))
set_option maxHeartbeats 4000000 in
theorem DO {a0:(List Int)} {a1:(List Itm)} {r:Arr×Int} (h:AM a0 a1=some r) :
  Fn Tryz.prog 18 [.sl (Is a0),.sl (Its a1)] (.tup [.d (.ag [.sl (Is r.1.shape),.sl (Its r.1.items)]),.d (.i .i64 r.2)]):=by
 unfold AM at h
 refine Fn.ofC (rs:=[.cell 4 27,.tmp 5]) (nt:=105) Tryz.func18 rfl rfl rfl (by simp) rfl ?_;refine .sr ?_;refine vk (van (Ah AI) AK) ?_;refine ar [0,1,4,5] ?_;refine .sr ?_;refine va ?_
 obtain ⟨x1,g1,h⟩:=bnd h
 refine vk (VOK.tupd (vs:=[.i .i64 x1.1,.i .i64 x1.2]) (Ai (DP g1) Tryz.call56)) ?_;refine va ?_;refine vk vex ?_;refine vk vex ?_;refine asd ?_;refine ar [0,1,4,5,6,7] ?_;refine .seq ?_;refine .block ?_;refine .sr ?_;refine va ?_;refine vb ?_;refine ar [0,1,4,5,6,7,22] ?_
 rcases brc h with ⟨hc,h⟩|⟨hc,h⟩
 ·refine cnf (ntf (dT hc)) ?_
  refine .seq ?_
  obtain ⟨z2,hz,h⟩:=bnd h
  refine AW.mr (σ:=Unit) (fun _=>True) (fun _=>[(0,.d (.sl (Is a0))),(1,.d (.sl (Its a1))),(4,.nb [.sl (Is []),.sl (Its [])]),(5,.d (.i .i64 0)),(6,.d (.i .i64 x1.1)),(27,.d (.b z2))]) (fun _=>[]) ?_ ?_
  ·skip
   refine .region ?_;refine va ?_;refine vk (A0 (Az _) (Cu _) Ct) ?_;refine vb ?_
   rcases brc hz with ⟨hc,hz⟩|⟨hc,hz⟩
   ·have hb0:(decide (((List.length a1:Nat):Int)=0))=true:=(dT hc)
    refine vL hb0 ?_;refine gf2 ?_;refine vk Aq ?_;refine asd ?_;refine RL.gk [0,1,4,5,6,27] ?_;refine .nil ?_
    cases hz
    exact jr () trivial
   have hb0:(decide (((List.length a1:Nat):Int)=0))=false:=(dF hc)
   refine vL hb0 ?_;refine va ?_
   obtain ⟨x3,g3,hz⟩:=bnd hz
   refine vk (Ai (DR (Jb Tryz.call58 (fun _ _ h=>L3 h)) g3) Tryz.call57) ?_;refine vk Aq ?_;refine asd ?_;refine RL.gk [0,1,4,5,6,27] ?_;refine .nil ?_
   cases hz
   exact jr () trivial
  rintro _ _
  rcases brc h with ⟨hc,h⟩|⟨hc,h⟩
  ·refine cnt hc ?_
   refine .sr ?_;refine vk (vbd BW AI AK) ?_
   refine stn ?_ Aa (by decide)
   refine ar [0,1,4,5,6] ?_;refine .ret ?_
   cases h
   exact ⟨_,_,⟨.inr rfl,Ae,Aa,p2⟩,rfl,rfl⟩
  refine cnf (bf hc) ?_;refine .sk ?_;refine .sr ?_;refine va ?_
  obtain ⟨x4,g4,h⟩:=bnd h
  refine vk ((Ai (Jz g4) Tryz.call60).deep) ?_;refine vk (XT BW AI (fun w I μ=>Pk w I μ)) ?_;refine vk (van (Ah AI) AK) ?_
  refine Xs ?_ Aa (by decide)
  refine rk [1,4,5,6,8] ?_;refine .seq ?_;refine .sr ?_;refine va ?_;refine vb ?_;refine rk [1,4,5,6,8,40] ?_
  obtain ⟨K0,hK0,h⟩:=AE h
  refine AW.mr (σ:=(List Itm)) (fun p=>K0 p=some r) (fun p=>[(1,.d (.sl (Its a1))),(4,.nb [.sl (Is []),.sl (Its [])]),(5,.d (.i .i64 0)),(6,.d (.i .i64 x1.1)),(8,.bp 0 0)]) (fun p=>[HO.box [.d (.sl (Is x4)),.own 51 (Its p)]]) ?_ ?_
  ·skip
   rcases brc h with ⟨hc,h⟩|⟨hc,h⟩
   ·refine cnt (dT hc) ?_
    refine .region ?_;refine va ?_
    obtain ⟨x6,g6,h⟩:=bnd h
    obtain ⟨n6,p06,q6⟩:=Ag g6
    refine vk (vix n6 p06 (Cw q6) rfl Cl) ?_;refine vk (Ao AP Au) ?_
    obtain ⟨x7,g7,h⟩:=bnd h
    refine vk (Ai (Lv g7) Tryz.call61) ?_;refine vk (EI (EW x7) (D7 [x7]) De) ?_;refine vk (GK A4) ?_
    refine Ny (cs:=[.d (.sl (Is x4)),.nl]) (c:=.nl) rfl rfl ?_ KR
    refine RL.gk [1,4,5,6,8] ?_;refine .nil ?_
    exact jr ([x7]) h
   refine cnf (dF hc) ?_;refine .gh (Gh.nlOwnC (id:=0) (off:=1) 51 (by rw [Le];decide)) ?_;refine .gk [1,4,5,6,8] ?_;refine .skip ?_
   exact jr ([]) h
  rintro z5 h
  try dsimp only at h ⊢
  subst hK0
  refine aw ?_;refine .sr ?_;refine asn ?_;refine rk [1,4,5,6,8,9] ?_;refine .seq ?_;refine .sr ?_;refine va ?_;refine vk (A0 (Az _) (Cu _) Ct) ?_;refine va ?_;refine rk [1,4,5,6,8,9,47,48,49] ?_
  obtain ⟨K1,hK1,h⟩:=AE h
  refine AW.mr (σ:=(List Int)) (fun p=>K1 p=some r) (fun p=>[(1,.d (.sl (Its a1))),(4,.nb [.sl (Is []),.sl (Its [])]),(5,.d (.i .i64 0)),(6,.d (.i .i64 x1.1)),(8,.bp 0 0),(9,.own 3 (Is p))]) (fun p=>[HO.box [.d (.sl (Is x4)),.own 51 (Its z5)]]) ?_ ?_
  ·skip
   refine .block ?_;refine .gh (Gh.nlOwn (t:=9) 3 (by rw [C6];decide) rfl) ?_
   refine .loop (.gk [1,4,5,6,8,9,47,48,49] ?_)
   refine AL.ind (σ:=Nat×(List Int)×Int) (m:=fun p=>p.1) (e:=fun p=>[(1,.d (.sl (Its a1))),(4,.nb [.sl (Is []),.sl (Its [])]),(5,.d (.i .i64 0)),(6,.d (.i .i64 x1.1)),(8,.bp 0 0),(9,.own 3 (Is p.2.1)),(47,.d (.sl (Its a1))),(48,.d (.i .i64 ((List.length a1:Nat):Int))),(49,.d (.i .i64 p.2.2))]) (h:=fun p=>[HO.box [.d (.sl (Is x4)),.own 51 (Its z5)]]) (I:=fun p=>Cf a1 K1 p.1 p.2.1 p.2.2=some r) ?_ (AC,[],0) h
   rintro ⟨k,s9,s10⟩ h ih
   dsimp only at h ih ⊢
   rcases k with _|k
   ·rw [Cf] at h;cases h
   rw [Cf] at h
   refine .sr ?_;refine vb ?_;refine rk [1,4,5,6,8,9,47,48,49,50] ?_;refine .seq ?_
   rcases brc h with ⟨hc,h⟩|⟨hc,h⟩
   ·refine cnt (dT hc) ?_
    refine .sk ?_
    obtain ⟨K3,hK3,h⟩:=AE h
    refine AW.mj (σ:=(List Int)) (fun p=>K3 p=some r) (fun p=>[(1,.d (.sl (Its a1))),(4,.nb [.sl (Is []),.sl (Its [])]),(5,.d (.i .i64 0)),(6,.d (.i .i64 x1.1)),(8,.bp 0 0),(9,.own 3 (Is p)),(47,.d (.sl (Its a1))),(48,.d (.i .i64 ((List.length a1:Nat):Int))),(49,.d (.i .i64 s10))]) (fun p=>[HO.box [.d (.sl (Is x4)),.own 51 (Its z5)]]) ?_ ?_
    ·skip
     refine .block ?_;refine .sr ?_
     obtain ⟨x12,g12,h⟩:=bnd h
     obtain ⟨n12,p012,q12⟩:=Ag g12
     refine vk (vix n12 p012 (Cw q12) rfl Cl) ?_;refine vk (Ao AP Au) ?_;refine vk (van (Ah B6) B2) ?_
     refine stn ?_ Au (by decide)
     refine rk [1,4,5,6,8,9,11,47,48,49] ?_;refine .sr ?_;refine ar [1,4,5,6,8,9,11,12,47,48,49] ?_;refine .seq ?_;refine .seq ?_;refine .gh (Gh.nbp (t:=11) rfl) ?_;refine .region ?_;refine vk (vfa Bh) ?_;refine vk (Aj Cv) ?_;refine vk (A0 (A6 _) (EF _) D0) ?_;refine va ?_;refine rk [1,4,5,6,8,9,12,47,48,49,54,55,56] ?_
     obtain ⟨K4,hK4,h⟩:=AE h
     refine AW.mr (σ:=Int) (fun p=>K4 p=some r) (fun p=>[(1,.d (.sl (Its a1))),(4,.nb [.sl (Is []),.sl (Its [])]),(5,.d (.i .i64 0)),(6,.d (.i .i64 x1.1)),(8,.bp 0 0),(9,.own 3 (Is s9)),(12,.d (.i .i64 p)),(47,.d (.sl (Its a1))),(48,.d (.i .i64 ((List.length a1:Nat):Int))),(49,.d (.i .i64 s10))]) (fun p=>[HO.box [.d (.sl (Is x4)),.own 51 (Its z5)]]) ?_ ?_
     ·skip
      refine .block ?_
      refine .loop (.gk [1,4,5,6,8,9,12,47,48,49,54,55,56] ?_)
      refine AL.ind (σ:=Nat×Int×Int) (m:=fun p=>p.1) (e:=fun p=>[(1,.d (.sl (Its a1))),(4,.nb [.sl (Is []),.sl (Its [])]),(5,.d (.i .i64 0)),(6,.d (.i .i64 x1.1)),(8,.bp 0 0),(9,.own 3 (Is s9)),(12,.d (.i .i64 p.2.1)),(47,.d (.sl (Its a1))),(48,.d (.i .i64 ((List.length a1:Nat):Int))),(49,.d (.i .i64 s10)),(54,.d (.sl (Ars x12.box))),(55,.d (.i .i64 ((List.length x12.box:Nat):Int))),(56,.d (.i .i64 p.2.2))]) (h:=fun p=>[HO.box [.d (.sl (Is x4)),.own 51 (Its z5)]]) (I:=fun p=>CH x12 K4 p.1 p.2.1 p.2.2=some r) ?_ (AC,1,0) h
      rintro ⟨k,s14,s15⟩ h ih
      dsimp only at h ih ⊢
      rcases k with _|k
      ·rw [CH] at h;cases h
      rw [CH] at h
      refine .sr ?_;refine vb ?_;refine rk [1,4,5,6,8,9,12,47,48,49,54,55,56,57] ?_;refine .seq ?_
      rcases brc h with ⟨hc,h⟩|⟨hc,h⟩
      ·refine cnt (dT hc) ?_
       refine .sk ?_;refine .seq ?_;refine .block ?_;refine .sr ?_
       obtain ⟨x16,g16,h⟩:=bnd h
       obtain ⟨n16,p016,q16⟩:=Ag g16
       refine vk (vix n16 p016 (Df q16) rfl Di) ?_;refine vk (Ao Ae Aa) ?_;refine vk (van (Ah AI) AK) ?_
       refine stn ?_ Aa (by decide)
       refine rk [1,4,5,6,8,9,12,14,47,48,49,54,55,56] ?_;refine .region ?_;refine va ?_;refine vk (DF Ae Aa) ?_
       obtain ⟨x17,g17,h⟩:=bnd h
       refine vk (Ai (Nl g17) Tryz.call62) ?_;refine vb ?_;refine asd ?_;refine .nil ?_;refine aw ?_;refine .gk [1,4,5,6,8,9,12,47,48,49,54,55,56] ?_;refine .region ?_;refine vb ?_;refine va ?_;refine .nil ?_;refine AL.gk [1,4,5,6,8,9,12,47,48,49,54,55,56] ?_
       exact ih (k,(w64 (s14+x17)),(w64 (s15+1))) h (Nat.lt_succ_self _)
      refine cnf (dF hc) ?_;refine .gk [1,4,5,6,8,9,12,47,48,49] ?_;refine .exit ?_
      exact jr (s14) h
     rintro z13 h
     try dsimp only at h ⊢
     subst hK4
     refine aw ?_;refine .region ?_;refine mvo ?_;refine va ?_;refine vk ((FE (Ed [z13]) DE).deep) ?_
     obtain ⟨x18,g18,h⟩:=bnd h
     refine OO OZ g18 SF ?_ Ng Af DE
     refine aso ?_;refine RL.gk [1,4,5,6,8,9,47,48,49] ?_;refine .nil ?_
     exact jr (x18) h
    rintro z11 h
    try dsimp only at h ⊢
    subst hK3
    refine .region ?_;refine vb ?_;refine va ?_;refine .nil ?_;refine AL.gk [1,4,5,6,8,9,47,48,49] ?_
    exact ih (k,z11,(w64 (s10+1))) h (Nat.lt_succ_self _)
   refine cnf (dF hc) ?_;refine .gk [1,4,5,6,8,9] ?_;refine .exit ?_
   exact jr (s9) h
  rintro z8 h
  try dsimp only at h ⊢
  subst hK1
  refine aw ?_;refine .seq ?_;refine .sr ?_;refine asd ?_;refine ar [1,4,5,6,8,9,15,16] ?_
  obtain ⟨K6,hK6,h⟩:=AE h
  refine AW.mr (σ:=Arr×Int×(List Int)×(List Itm)) (fun p=>K6 p.1 p.2.1 p.2.2.1 p.2.2.2=some r) (fun p=>[(4,.nb [.sl (Is p.1.shape),.sl (Its p.1.items)]),(5,.d (.i .i64 p.2.1)),(8,.bp 0 0)]) (fun p=>[HO.box [.d (.sl (Is p.2.2.1)),.own 51 (Its p.2.2.2)]]) ?_ ?_
  ·skip
   refine .block ?_;refine .gh (Gh.frz (p:=.t 9) rfl (by (intro _ _ h;cases h<;>decide))) ?_
   refine .loop (.gk [1,4,5,6,8,9,15,16] ?_)
   refine AL.ind (σ:=Nat×Arr×Int×Int×Int×(List Int)×(List Itm)) (m:=fun p=>p.1) (e:=fun p=>[(1,.d (.sl (Its a1))),(4,.nb [.sl (Is p.2.1.shape),.sl (Its p.2.1.items)]),(5,.d (.i .i64 p.2.2.1)),(6,.d (.i .i64 x1.1)),(8,.bp 0 0),(9,.d (.sl (Is z8))),(15,.d (.i .i64 p.2.2.2.1)),(16,.d (.i .i64 p.2.2.2.2.1))]) (h:=fun p=>[HO.box [.d (.sl (Is p.2.2.2.2.2.1)),.own 51 (Its p.2.2.2.2.2.2)]]) (I:=fun p=>Cg a1 x1 z8 K6 p.1 p.2.1 p.2.2.1 p.2.2.2.1 p.2.2.2.2.1 p.2.2.2.2.2.1 p.2.2.2.2.2.2=some r) ?_ (AC,(Arr.mk [] []),0,0,0,x4,z5) h
   rintro ⟨k,s23,s24,s25,s26,s27,s28⟩ h ih
   dsimp only at h ih ⊢
   rcases k with _|k
   ·rw [Cg] at h;cases h
   rw [Cg] at h
   refine .seq ?_;refine .sr ?_;refine va ?_;refine va ?_;refine vb ?_;refine rk [1,4,5,6,8,9,15,16,72] ?_
   rcases brc h with ⟨hc,h⟩|⟨hc,h⟩
   ·refine cnt (dT hc) ?_
    refine .sk ?_;refine .seq ?_;refine .block ?_;refine .seq ?_;refine .sr ?_;refine va ?_;refine va ?_;refine va ?_;refine va ?_;refine vk (A0 (Az _) (Cu _) Ct) ?_
    obtain ⟨x29,g29,h⟩:=bnd h
    refine vk (Ip (Ey g29)) ?_
    obtain ⟨x30,g30,h⟩:=bnd h
    obtain ⟨n30,p030,q30⟩:=Ag g30
    refine vk (vix n30 p030 (Be q30) rfl A9) ?_;refine vk (Aj AF) ?_;refine vb ?_;refine ar [1,4,5,6,8,9,15,16] ?_;refine .sr ?_;refine va ?_;refine vb ?_;refine rk [1,4,5,6,8,9,15,16,85] ?_
    rcases brc h with ⟨hc,h⟩|⟨hc,h⟩
    ·refine cnt (dT hc) ?_
     refine .sr ?_;refine vk (vbd BW AI AK) ?_
     refine stn ?_ Aa (by decide)
     refine ar [1,4,5,6,8,9,15,16] ?_;refine .ret ?_
     cases h
     exact ⟨_,_,⟨.inr rfl,Ae,Aa,p2⟩,rfl,rfl⟩
    refine cnf (dF hc) ?_;refine .sk ?_;refine .drawn 11 A3 (by kernel_rfl) ?_;refine dv (GK A4) ?_;refine dv (Ss (cs:=[.d (.sl (Is s27)),.own 51 (Its s28)]) rfl rfl BL) ?_;refine dv Ac ?_;refine dv Ac ?_;refine dv Ac ?_;refine dv (A0 (Az _) (Cu _) Ct) ?_
    obtain ⟨x31,g31,h⟩:=bnd h
    refine dv (Ip (Ey g31)) ?_
    obtain ⟨x32,g32,h⟩:=bnd h
    obtain ⟨n32,p032,q32⟩:=Ag g32
    refine dv (vix n32 p032 (Cw q32) rfl Cl) ?_;refine dv (Ao AP Au) ?_
    obtain ⟨x33,g33,h⟩:=bnd h
    refine dv (Ai (Fa g33) Tryz.call63) ?_;refine dv ((EI (EW x33) (D7 [x33]) De).deep) ?_;refine dz ?_
    obtain ⟨x34,g34,h⟩:=bnd h
    refine VA GY g34 rfl rfl IU ?_ Fy Az De
    refine RL.gk [1,4,5,6,8,9,15,16,85,87,89,90,91,92,93,94,95,96,97,98] ?_;refine vk (GK A4) ?_
    refine Ny (cs:=[.d (.sl (Is s27)),.un]) (c:=.un) rfl rfl ?_ KR
    refine .nil ?_;refine aw ?_;refine .gk [1,4,5,6,8,9,15,16] ?_;refine .region ?_;refine va ?_;refine vb ?_;refine asd ?_;refine .nil ?_;refine AL.gk [1,4,5,6,8,9,15,16] ?_
    exact ih (k,s23,s24,(w64 (s25+1)),(w64 (s26+x30)),s27,x34) h (Nat.lt_succ_self _)
   refine cnf (dF hc) ?_;refine .gk [4,5,8] ?_;refine .exit ?_
   exact jr (s23,s24,s27,s28) h
  rintro ⟨z19,z20,z21,z22⟩ h
  try dsimp only at h ⊢
  subst hK6
  refine aw ?_;refine .seq ?_;refine .sr ?_;refine fz (p:=.c 0 1) ?_;refine vk (IC (cs:=[.d (.sl (Is z21)),.d (.sl (Its z22))]) (ds:=[.sl (Is z21),.sl (Its z22)]) rfl Ae Aa) ?_
  obtain ⟨x35,g35,h⟩:=bnd h
  refine vk (Ai (BT g35) Tryz.call54) ?_;refine vk vnt ?_;refine rk [4,5,8,102] ?_
  rcases brc h with ⟨hc,h⟩|⟨hc,h⟩
  ·refine cnf (ntf hc) ?_
   refine .sk ?_;refine .sr ?_;refine vk (IC (cs:=[.d (.sl (Is z21)),.d (.sl (Its z22))]) (ds:=[.sl (Is z21),.sl (Its z22)]) rfl Ae Aa) ?_
   refine stn ?_ Aa (by decide)
   refine ar [4,5] ?_;refine .ret ?_
   cases h
   exact ⟨_,_,⟨.inr rfl,Ae,Aa,p2⟩,rfl,rfl⟩
  refine cnt (ntt (bf hc)) ?_;refine .sr ?_;refine vk (vbd BW AI AK) ?_
  refine stn ?_ Aa (by decide)
  refine ar [4,5,8] ?_;refine .ret ?_
  cases h
  exact ⟨_,_,⟨.inr rfl,Ae,Aa,p2⟩,rfl,rfl⟩
 refine cnt (ntt (dF hc)) ?_;refine .sr ?_;refine vk (vbd BW AI AK) ?_;refine va ?_
 refine stn ?_ Aa (by decide)
 refine ar [0,1,4,5,6] ?_;refine .ret ?_
 cases h
 exact ⟨_,_,⟨.inr rfl,Ae,Aa,p2⟩,rfl,rfl⟩
def Dn (a0:Arr) : Option ((List Itm)):=((C7 a0.shape).bind fun x1=>(Option.bind ((if x1.1=0 then (some true) else ((Bm a0).bind fun x3=>(some (!x3)))) : Option (Bool)) fun (z2:Bool)=>(if z2=true then (some ([])) else ((Ch a0 (⟨.fn 63 [] [],fun x=>Ft x⟩ : BV)).bind fun x4=>(some (x4.items))))))
theorem GH {a0:Arr} {r:(List Itm)} (h:Dn a0=some r) :
  Fn Tryz.prog 46 [.ag [.sl (Is a0.shape),.sl (Its a0.items)]] (.d (.sl (Its r))):=by
 unfold Dn at h
 refine Fn.o1 2 21 Tryz.func46 ?_;refine .sr ?_;refine vk vbx ?_;refine asn ?_;refine rk [1,2] ?_;refine .seq ?_;refine .sr ?_;refine vk (vfa AJ) ?_;refine vk (Aj Bl) ?_
 obtain ⟨x1,g1,h⟩:=bnd h
 refine vk (VOK.tupd (vs:=[.i .i64 x1.1,.i .i64 x1.2]) (Ai (DP g1) Tryz.call56)) ?_;refine va ?_;refine vk vex ?_;refine vk vex ?_;refine asd ?_;refine ar [1,2,3] ?_;refine .seq ?_
 obtain ⟨z2,hz,h⟩:=bnd h
 refine AW.mr (σ:=Unit) (fun _=>True) (fun _=>[(1,.d (.ptr [.sl (Is a0.shape),.sl (Its a0.items)])),(2,.nl),(17,.d (.b z2))]) (fun _=>[]) ?_ ?_
 ·skip
  refine .region ?_;refine va ?_;refine vb ?_
  rcases brc hz with ⟨hc,hz⟩|⟨hc,hz⟩
  ·have hb0:(decide (x1.1=0))=true:=(dT hc)
   refine vL hb0 ?_;refine gf3 ?_;refine vk Aq ?_;refine RL.gk [1,2,17] ?_;refine .nil ?_
   cases hz
   exact jr () trivial
  have hb0:(decide (x1.1=0))=false:=(dF hc)
  refine vL hb0 ?_;refine vk (Ao Ae Aa) ?_
  obtain ⟨x3,g3,hz⟩:=bnd hz
  refine vk (Ai (BT g3) Tryz.call54) ?_;refine vk vnt ?_;refine vk Aq ?_;refine RL.gk [1,2,17] ?_;refine .nil ?_
  cases hz
  exact jr () trivial
 rintro _ _
 rcases brc h with ⟨hc,h⟩|⟨hc,h⟩
 ·refine cnt hc ?_
  refine .sr ?_;refine asn ?_;refine rk [1,2] ?_;refine .gh (Gh.nlD (t:=2) rfl) ?_;refine .ret ?_
  cases h
  exact ⟨rfl,rfl⟩
 refine cnf (bf hc) ?_;refine .sk ?_;refine .sr ?_;refine vk (Ao Ae Aa) ?_
 obtain ⟨x4,g4,h⟩:=bnd h
 refine vk (Ai (Dx (Jb Tryz.call63 (fun _ _ h=>Fa h)) g4) Tryz.call80) ?_;refine vk (Zf A4 Va) ?_;refine ar [2] ?_;refine .ret ?_
 cases h
 exact ⟨rfl,rfl⟩
def C0 (a0:Arr) : Option (Itm):=((Bm a0).bind fun x1=>(if x1=true then ((CN a0).bind fun x2=>(if x2=true then ((rd? a0.items 0).bind fun x3=>((Ft x3).bind fun x4=>(some (x4)))) else ((Ch a0 (⟨.fn 63 [] [],fun x=>Ft x⟩ : BV)).bind fun x5=>(some ((Itm.mk 3 (false,[],[]) 0 [x5])))))) else (some ((Itm.mk 0 (false,[],[]) 0 [])))))
theorem KJ {a0:Arr} {r:Itm} (h:C0 a0=some r) :
  Fn Tryz.prog 29 [.ag [.sl (Is a0.shape),.sl (Its a0.items)]] (.d (.ag [.i .u8 r.kind,.b r.num.1,.sl (L r.num.2.1),.sl (L r.num.2.2),.i .i32 r.char,.sl (Ars r.box)])):=by
 unfold C0 at h
 refine Fn.ofC (rs:=[.cell 2 51]) (nt:=20) Tryz.func29 rfl rfl rfl (by simp) rfl ?_;refine .sr ?_;refine vk vbx ?_;refine vk (van (Ah B6) B2) ?_;refine rk [1,2] ?_;refine .seq ?_;refine .block ?_;refine .sr ?_;refine vk (Ao Ae Aa) ?_
 obtain ⟨x1,g1,h⟩:=bnd h
 refine vk (Ai (BT g1) Tryz.call54) ?_;refine vk vnt ?_;refine ar [1,2,3] ?_
 rcases brc h with ⟨hc,h⟩|⟨hc,h⟩
 ·refine cnf (ntf hc) ?_
  refine .sr ?_;refine vk (Ao Ae Aa) ?_
  obtain ⟨x2,g2,h⟩:=bnd h
  refine vk (Ai (EX g2) Tryz.call82) ?_;refine ar [1,2,8] ?_
  rcases brc h with ⟨hc,h⟩|⟨hc,h⟩
  ·refine cnt hc ?_
   refine .sr ?_;refine vk (vfa A4) ?_;refine vk (Aj BL) ?_
   obtain ⟨x3,g3,h⟩:=bnd h
   obtain ⟨n3,p03,q3⟩:=Ag g3
   refine vk (vix n3 p03 (Cw q3) rfl Cl) ?_;refine vk (Ao AP Au) ?_
   obtain ⟨x4,g4,h⟩:=bnd h
   refine vk (Ai (Fa g4) Tryz.call63) ?_
   refine stn ?_ Au (by decide)
   refine rk [1,2] ?_;refine .ret ?_
   cases h
   exact ⟨_,⟨.inr rfl,AP,Au,p6⟩,rfl⟩
  refine cnf (bf hc) ?_;refine .sk ?_;refine .sr ?_;refine vk (Ao Ae Aa) ?_
  obtain ⟨x5,g5,h⟩:=bnd h
  refine vk (Ai (Dx (Jb Tryz.call63 (fun _ _ h=>Fa h)) g5) Tryz.call80) ?_;refine vk ((EI (Kr x5) (Gx [x5]) HX).deep) ?_;refine vk (vbd HI B6 B2) ?_
  refine stn ?_ Au (by decide)
  refine rk [2] ?_;refine .ret ?_
  cases h
  exact ⟨_,⟨.inr rfl,AP,Au,p6⟩,rfl⟩
 refine cnt (ntt (bf hc)) ?_;refine .sr ?_;refine vk (vbd HI B6 B2) ?_
 refine stn ?_ Au (by decide)
 refine rk [1,2] ?_;refine .ret ?_
 cases h
 exact ⟨_,⟨.inr rfl,AP,Au,p6⟩,rfl⟩
def Fl (a0:Itm) : Option (Arr):=((EO a0).bind fun x1=>(if x1=true then (if a0.kind=3 then ((rd? a0.box 0).bind fun x2=>((Ch x2 (⟨.fn 63 [] [],fun x=>Ft x⟩ : BV)).bind fun x3=>(some (x3)))) else ((Ft a0).bind fun x4=>((F9 x4).bind fun x5=>(some (x5))))) else (some ((Arr.mk [] [])))))
theorem NK {a0:Itm} {r:Arr} (h:Fl a0=some r) :
  Fn Tryz.prog 26 [.ag [.i .u8 a0.kind,.b a0.num.1,.sl (L a0.num.2.1),.sl (L a0.num.2.2),.i .i32 a0.char,.sl (Ars a0.box)]] (.d (.ag [.sl (Is r.shape),.sl (Its r.items)])):=by
 unfold Fl at h
 refine Fn.ofC (rs:=[.cell 2 27]) (nt:=20) Tryz.func26 rfl rfl rfl (by simp) rfl ?_;refine .sr ?_;refine vk vbx ?_;refine vk (van (Ah AI) AK) ?_;refine rk [1,2] ?_;refine .seq ?_;refine .block ?_;refine .sr ?_;refine vk (Ao AP Au) ?_
 obtain ⟨x1,g1,h⟩:=bnd h
 refine vk (Ai (IY g1) Tryz.call59) ?_;refine vk vnt ?_;refine ar [1,2,3] ?_
 rcases brc h with ⟨hc,h⟩|⟨hc,h⟩
 ·refine cnf (ntf hc) ?_
  refine .sr ?_;refine vk (vfa BY) ?_;refine vk (Aj Bb) ?_;refine vb ?_;refine ar [1,2,8] ?_
  rcases brc h with ⟨hc,h⟩|⟨hc,h⟩
  ·refine cnt (dT hc) ?_
   refine .sr ?_;refine vk (vfa Bh) ?_;refine vk (Aj Cv) ?_
   obtain ⟨x2,g2,h⟩:=bnd h
   obtain ⟨n2,p02,q2⟩:=Ag g2
   refine vk (vix n2 p02 (Df q2) rfl Di) ?_;refine vk (Ao Ae Aa) ?_
   obtain ⟨x3,g3,h⟩:=bnd h
   refine vk (Ai (Dx (Jb Tryz.call63 (fun _ _ h=>Fa h)) g3) Tryz.call80) ?_
   refine stn ?_ Aa (by decide)
   refine rk [1,2] ?_;refine .ret ?_
   cases h
   exact ⟨_,⟨.inr rfl,Ae,Aa,p2⟩,rfl⟩
  refine cnf (dF hc) ?_;refine .sk ?_;refine .sr ?_;refine vk (Ao AP Au) ?_
  obtain ⟨x4,g4,h⟩:=bnd h
  refine vk (Ai (Fa g4) Tryz.call63) ?_
  obtain ⟨x5,g5,h⟩:=bnd h
  refine vk (Ai (Ig g5) Tryz.call35) ?_
  refine stn ?_ Aa (by decide)
  refine rk [2] ?_;refine .ret ?_
  cases h
  exact ⟨_,⟨.inr rfl,Ae,Aa,p2⟩,rfl⟩
 refine cnt (ntt (bf hc)) ?_;refine .sr ?_;refine vk (vbd BW AI AK) ?_
 refine stn ?_ Aa (by decide)
 refine rk [1,2] ?_;refine .ret ?_
 cases h
 exact ⟨_,⟨.inr rfl,Ae,Aa,p2⟩,rfl⟩
def chB (c:Int) : Bool:=decide (0≤c)&&(decide (c≤1114111)&&(decide (c<55296)||decide (57343<c)))
theorem TK (c:Int) : Gi c=some (chB c):=rfl
def AQ (a:Arr) : Bool:=a.shape.isEmpty&&match a.items with
 | [x]=>decide (x.kind≠3)
 | _=>false
theorem Iz (a:Arr) : CN a=some (AQ a):=by
 unfold CN AQ
 cases hs:a.shape with
 | nil =>
  rw [if_pos (by simp)]
  match hi:a.items with
  | []=>rw [if_neg (by simp)];rfl
  | [x]=>rw [if_pos (by simp),Io];simp
  | x::y::r=>rw [if_neg (by simp;omega)];rfl
 | cons z zs=>rw [if_neg (by simp;omega)];rfl
mutual
def rI : Itm→Bool
 | .mk k n c b=>if k=1 then (BO n&&(decide (c=0)&&decide (b.length=0))) else if k=2 then (chB c&&(ER (.mk k n c b)&&decide (b.length=0))) else if k=3 then (decide (b.length=1)&&(ER (.mk k n c b)&&(decide (c=0)&&rBs b))) else false
def rA : Arr→Bool
 | .mk s i=>decide ((szP s).2=0)&&(decide ((i.length:Int)=if (szP s).1<1 then 1 else (szP s).1)&&rIs i)
def rIs : List Itm→Bool
 | []=>true
 | x::xs=>rI x&&rIs xs
def rBs : List Arr→Bool
 | []=>true
 | a::r=>(!AQ a&&rA a)&&rBs r
end
mutual
def cI : Itm→Nat
 | .mk _ _ _ b=>cBs b
def cA : Arr→Nat
 | .mk _ i=>i.length+cIs i
def cIs : List Itm→Nat
 | []=>0
 | x::xs=>cI x+cIs xs
def cBs : List Arr→Nat
 | []=>0
 | a::r=>cA a+cBs r
end
mutual
def dI : Itm→Nat
 | .mk _ _ _ b=>dBs b
def dA : Arr→Nat
 | .mk s i=>if AQ (.mk s i) then 0 else 1+dIs i
def dIs : List Itm→Nat
 | []=>0
 | x::xs=>max (dI x) (dIs xs)
def dBs : List Arr→Nat
 | []=>0
 | a::r=>max (dA a) (dBs r)
end
theorem Ui (x:Itm) : rI x=if x.kind=1 then (BO x.num&&(decide (x.char=0)&&decide (x.box.length=0))) else if x.kind=2 then (chB x.char&&(ER x&&decide (x.box.length=0))) else if x.kind=3 then (decide (x.box.length=1)&&(ER x&&(decide (x.char=0)&&rBs x.box))) else false:=by
 cases x;simp only [rI];rfl
theorem IX (a:Arr) : rA a=(decide ((szP a.shape).2=0)&&(decide ((a.items.length:Int)=if (szP a.shape).1<1 then 1 else (szP a.shape).1)&&rIs a.items)):=by cases a;simp only [rA];rfl
theorem IV (a:Arr) : cA a=a.items.length+cIs a.items:=by cases a;simp only [cA];rfl
theorem P4 (x:Itm) : cI x=cBs x.box:=by cases x;simp only [cI];rfl
theorem Ie (a:Arr) : dA a=if AQ a then 0 else 1+dIs a.items:=by cases a;simp only [dA];rfl
theorem QD (x:Itm) : dI x=dBs x.box:=by cases x;simp only [dI];rfl
def up (d deep n:Nat) : Nat:=if n=0 then d else max d (deep+n)
theorem YX (d deep n m:Nat) : up (up d deep n) deep m=up d deep (max n m):=by unfold up;split<;>split<;>split<;>omega
theorem YY {d deep n:Nat} (h:d≤16) (h2:deep+n≤16) : up d deep n≤16:=by unfold up;split<;>omega
def O6 (f:Int→Int→Int→Option M3) (r:Bool) (n dp:Nat) : Prop:=∀ deep c d : Nat,deep≤16→c≤16384→d≤16 →
 (r=true→deep+dp≤16→c+n≤16384→f deep c d=some (true,((c+n:Nat):Int),((up d deep dp:Nat):Int))) ∧
 (¬(r=true∧deep+dp≤16∧c+n≤16384)→∃ z,f deep c d=some (false,z))
theorem Nd (x:Itm) : ER x=true↔x.num=(false,[],[]):=by
 unfold ER
 simp only [Bool.and_eq_true,Bool.not_eq_true',decide_eq_true_eq]
 constructor
 ·rintro ⟨h1,h2,h3⟩
  exact Prod.ext h1 (Prod.ext (List.length_eq_zero_iff.1 (by omega)) (List.length_eq_zero_iff.1 (by omega)))
 ·intro h;rw [h];simp
theorem NP {rc:Arr→Int→Int→Int→Option M3} {x:Itm} (hx:okI x) (hrc:∀ a∈x.box,O6 (rc a) (rA a) (cA a) (dA a)) : O6 (NF rc x) (rI x) (cI x) (dI x):=by
 have ox:=(Et x).1 hx
 intro deep c d h1 h2 h3
 unfold NF
 rw [Ui,P4,QD]
 have e0:(((x.box.length:Nat):Int)=0)↔x.box.length=0:=by omega
 have e1:(((x.box.length:Nat):Int)=1)↔x.box.length=1:=by omega
 by_cases k1:x.kind=1
 ·rw [if_pos k1,if_pos k1,LI ox.2.1,oB]
  simp only [e0]
  by_cases hb:x.box.length=0
  ·have:x.box=[]:=List.length_eq_zero_iff.1 hb
   rw [this]
   simp only [cBs,dBs,List.length_nil,decide_true,Bool.and_true,Nat.add_zero]
   refine ⟨fun hr _ _=>by rw [hr];rfl,fun hn=>?_⟩
   have:(BO x.num&&decide (x.char=0))=false:=by
    cases hq:(BO x.num&&decide (x.char=0)) with
    | false=>rfl
    | true=>exact absurd ⟨hq,h1,h2⟩ hn
   rw [this];exact ⟨_,rfl⟩
  ·simp only [hb,decide_false,Bool.and_false]
   exact ⟨fun h=>by simp at h,fun _=>⟨_,rfl⟩⟩
 rw [if_neg k1,if_neg k1]
 by_cases k2:x.kind=2
 ·rw [if_pos k2,if_pos k2,TK,oB]
  simp only [e0]
  by_cases hb:x.box.length=0
  ·have:x.box=[]:=List.length_eq_zero_iff.1 hb
   rw [this]
   simp only [cBs,dBs,List.length_nil,decide_true,Bool.and_true,Nat.add_zero]
   refine ⟨fun hr _ _=>by rw [hr];rfl,fun hn=>?_⟩
   have:(chB x.char&&ER x)=false:=by
    cases hq:(chB x.char&&ER x) with
    | false=>rfl
    | true=>exact absurd ⟨hq,h1,h2⟩ hn
   rw [this];exact ⟨_,rfl⟩
  ·simp only [hb,decide_false,Bool.and_false]
   exact ⟨fun h=>by simp at h,fun _=>⟨_,rfl⟩⟩
 rw [if_neg k2,if_neg k2]
 by_cases k3:x.kind=3
 ·rw [if_pos k3,if_pos k3]
  simp only [e1]
  by_cases hb:x.box.length=1
  rotate_left
  ·rw [if_neg hb];simp only [hb,decide_false,Bool.false_and]
   exact ⟨fun h=>by simp at h,fun _=>⟨_,rfl⟩⟩
  rw [if_pos hb]
  by_cases hn:ER x=true
  rotate_left
  ·rw [if_neg hn];simp only [hn,hb,decide_true,Bool.true_and,Bool.false_and]
   exact ⟨fun h=>by simp at h,fun _=>⟨_,rfl⟩⟩
  rw [if_pos hn]
  by_cases hc:x.char=0
  rotate_left
  ·rw [if_neg hc];simp only [hn,hb,hc,decide_true,decide_false,Bool.true_and,Bool.false_and]
   exact ⟨fun h=>by simp at h,fun _=>⟨_,rfl⟩⟩
  rw [if_pos hc]
  obtain ⟨a,ha⟩:∃ a,x.box=[a]:=List.length_eq_one_iff.1 hb
  have hm:=hrc a (by rw [ha];simp)
  rw [ha,Io,oB,Iz,oB]
  simp only [hn,hc,decide_true,Bool.true_and,rBs,cBs,dBs,Bool.and_true,Nat.add_zero,Nat.max_zero,List.length_cons,List.length_nil]
  by_cases hs:AQ a=true
  ·rw [if_pos hs];simp only [hs]
   exact ⟨fun h=>by simp at h,fun _=>⟨_,rfl⟩⟩
  rw [if_neg hs,oB]
  have hs':AQ a=false:=by simpa using hs
  simp only [hs',Bool.not_false,Bool.true_and]
  obtain ⟨m1,m2⟩:=hm deep c d h1 h2 h3
  refine ⟨fun hr g1 g2=>by rw [m1 hr g1 g2];rfl,fun hn=>?_⟩
  obtain ⟨z,hz⟩:=m2 hn
  exact ⟨z,by rw [hz];rfl⟩
 ·rw [if_neg k3,if_neg k3]
  exact ⟨fun h=>by simp at h,fun _=>⟨_,rfl⟩⟩
theorem Nn {rc:Arr→Int→Int→Int→Option M3} : ∀ {xs:List Itm},(∀ x∈xs,O6 (NF rc x) (rI x) (cI x) (dI x))→O6 (fun deep c d=>Kn rc deep xs c d) (rIs xs) (cIs xs) (dIs xs)
 | [],_=>fun deep c d h1 h2 h3=>by
  simp only [Kn,rIs,cIs,dIs]
  exact ⟨fun _ _ _=>rfl,fun h=>absurd ⟨trivial,h1,h2⟩ h⟩
 | x::xs,hx=>fun deep c d h1 h2 h3=>by
  obtain ⟨m1,m2⟩:=hx x (by simp) deep c d h1 h2 h3
  have ih:=Nn (xs:=xs) fun y hy=>hx y (by simp [hy])
  simp only [Kn,rIs,cIs,dIs]
  by_cases hc:rI x=true∧deep+dI x≤16∧c+cI x≤16384
  ·obtain ⟨p1,p2,p3⟩:=hc
   rw [m1 p1 p2 p3,oB,if_pos rfl,p1,Bool.true_and]
   obtain ⟨n1,n2⟩:=ih deep (c+cI x) (up d deep (dI x)) h1 p3 (YY h3 p2)
   refine ⟨fun hr g1 g2=>?_,fun hn=>n2 fun ⟨q1,q2,q3⟩=>hn ⟨q1,by omega,by omega⟩⟩
   have:=n1 hr (by omega) (by omega)
   rw [YX,Nat.add_assoc] at this
   exact this
  ·obtain ⟨z,hz⟩:=m2 hc
   rw [hz,oB,if_neg (by simp)]
   refine ⟨fun hr g1 g2=>absurd ⟨?_,by omega,by omega⟩ hc,fun _=>⟨_,rfl⟩⟩
   simp only [Bool.and_eq_true] at hr;exact hr.1
theorem Qw {a:Arr} (hs:AQ a=true) (hr:rIs a.items=true) : dIs a.items=0∧cIs a.items=0:=by
 unfold AQ at hs
 rw [Bool.and_eq_true] at hs
 match hi:a.items,hs.2 with
 | [x],h2 =>
  rw [hi] at hr
  simp only [rIs,Bool.and_true] at hr
  rw [Ui] at hr
  have h3:x.kind≠3:=by simpa using h2
  have hb:x.box=[]:=by
   by_cases k1:x.kind=1
   ·rw [if_pos k1] at hr;simp only [Bool.and_eq_true,decide_eq_true_eq] at hr;exact List.length_eq_zero_iff.1 hr.2.2
   rw [if_neg k1] at hr
   by_cases k2:x.kind=2
   ·rw [if_pos k2] at hr;simp only [Bool.and_eq_true,decide_eq_true_eq] at hr;exact List.length_eq_zero_iff.1 hr.2.2
   rw [if_neg k2,if_neg h3] at hr;cases hr
  simp [dIs,cIs,QD,P4,hb,dBs,cBs]
theorem Ud {rc:Arr→Int→Int→Int→Option M3} {a:Arr} (ha:okAr a) (hx:∀ x∈a.items,O6 (NF rc x) (rI x) (cI x) (dI x)) : O6 (Ub rc a) (rA a) (cA a) (dA a):=by
 have oa:=(BR a).1 ha
 intro deep c d h1 h2 h3
 have hl:=Pg a.shape
 unfold Ub
 rw [Jd oa.2.1,oB,IX,IV,Ie]
 by_cases e1:(szP a.shape).2=0
 rotate_left
 ·rw [if_neg e1];simp only [e1,decide_false,Bool.false_and]
  exact ⟨fun h=>by simp at h,fun _=>⟨_,rfl⟩⟩
 rw [if_pos e1]
 by_cases e2:(a.items.length:Int)=if (szP a.shape).1<1 then 1 else (szP a.shape).1
 rotate_left
 ·rw [if_neg e2];simp only [e1,e2,decide_true,decide_false,Bool.true_and,Bool.false_and]
  exact ⟨fun h=>by simp at h,fun _=>⟨_,rfl⟩⟩
 rw [if_pos e2]
 have hlen:a.items.length≤4096:=by
  split at e2<;>omega
 simp only [e1,decide_true,Bool.true_and]
 rw [dT e2,Bool.true_and]
 have hw:w64 ((c:Int)+((a.items.length:Nat):Int))=((c+a.items.length:Nat):Int):=by rw [B8 (by omega) (by omega)];omega
 rw [hw]
 by_cases e3:(16384:Int)<((c+a.items.length:Nat):Int)
 ·rw [if_pos e3]
  exact ⟨fun _ _ _=>by omega,fun _=>⟨_,rfl⟩⟩
 rw [if_neg e3,Iz,oB]
 have hi:=Nn hx
 by_cases hs:AQ a=true
 ·simp only [if_pos hs]
  rw [if_pos (show (deep:Int)≤16 by omega)]
  obtain ⟨m1,m2⟩:=hi deep (c+a.items.length) d h1 (by omega) h3
  refine ⟨fun hr g1 g2=>?_,fun hn=>m2 fun ⟨q1,q2,q3⟩=>hn ⟨q1,by omega,by omega⟩⟩
  obtain ⟨s1,s2⟩:=Qw hs hr
  have:=m1 hr (by omega) (by omega)
  rw [s1,Nat.add_assoc] at this
  exact this
 simp only [if_neg hs]
 have hw2:w64 ((deep:Int)+1)=((deep+1:Nat):Int):=by rw [B8 (by omega) (by omega)];omega
 rw [hw2]
 have hmx:(if (d:Int)<((deep+1:Nat):Int) then ((deep+1:Nat):Int) else (d:Int))=((max d (deep+1):Nat):Int):=by split<;>omega
 rw [hmx]
 by_cases e4:((deep+1:Nat):Int)≤16
 rotate_left
 ·rw [if_neg e4]
  exact ⟨fun _ _ _=>by omega,fun _=>⟨_,rfl⟩⟩
 rw [if_pos e4]
 obtain ⟨m1,m2⟩:=hi (deep+1) (c+a.items.length) (max d (deep+1)) (by omega) (by omega) (by omega)
 refine ⟨fun hr g1 g2=>?_,fun hn=>m2 fun ⟨q1,q2,q3⟩=>hn ⟨q1,by omega,by omega⟩⟩
 have:=m1 hr (by omega) (by omega)
 have hup:up (max d (deep+1)) (deep+1) (dIs a.items)=up d deep (1+dIs a.items):=by unfold up;split<;>split<;>omega
 rw [hup,Nat.add_assoc] at this
 exact this
theorem M8 : ∀ (k:Nat) {a:Arr},a.size<k→okAr a→O6 (Mm k a) (rA a) (cA a) (dA a)
 | 0,a,h,_=>by omega
 | k+1,a,h,ha=>by
  have oa:=(BR a).1 ha
  have:=Ud (rc:=Mm k) ha fun x hx=>NP (oa.2.2.2 x hx) fun b hb=>M8 k (by have:=J5 hx;have:=IG hb;omega) (((Et x).1 (oa.2.2.2 x hx)).2.2.2.2 b hb)
  intro deep c d h1 h2 h3
  simp only [Mm]
  rw [if_pos (by omega)]
  exact this deep c d h1 h2 h3
theorem Qz {a:Arr} (ha:okAr a) : O6 (mAr a) (rA a) (cA a) (dA a):=M8 _ (Nat.lt_succ_self _) ha
theorem T4 {x:Itm} (hx:okI x) : O6 (mIt x) (rI x) (cI x) (dI x):=NP hx fun a ha=>Qz (((Et x).1 hx).2.2.2.2 a ha)
def A7 (a:Arr) : Prop:=rA a=true∧dA a≤16∧cA a≤16384
def BX (x:Itm) : Prop:=rI x=true∧dI x≤16∧cI x≤16384
instance (a:Arr) : Decidable (A7 a):=by unfold A7;infer_instance
instance (x:Itm) : Decidable (BX x):=by unfold BX;infer_instance
theorem IK {a:Arr} (ha:okAr a) : EA a=some (if A7 a then (((cA a:Nat) : Int),((dA a:Nat) : Int)) else (0,0),decide (A7 a)):=by
 obtain ⟨m1,m2⟩:=Qz ha 0 0 0 (by omega) (by omega) (by omega)
 unfold EA
 by_cases h:A7 a
 ·have:=m1 h.1 (by have:=h.2.1;omega) (by have:=h.2.2;omega)
  rw [show ((0:Nat):Int)=0 from rfl] at this
  rw [this,if_pos h,dT h]
  have hu:up 0 0 (dA a)=dA a:=by unfold up;split<;>omega
  simp [hu]
 ·obtain ⟨z,hz⟩:=m2 fun ⟨q1,q2,q3⟩=>h ⟨q1,by omega,by omega⟩
  rw [show ((0:Nat):Int)=0 from rfl] at hz
  rw [hz,if_neg h,dF h];rfl
theorem FD {a:Arr} (ha:okAr a) : Bm a=some (decide (A7 a)):=by unfold Bm;rw [IK ha,oB]
theorem VJ {a:Arr} (ha:okAr a) : FC a=some (if A7 a then ((dA a:Nat) : Int) else 0):=by
 unfold FC;rw [IK ha,oB];split<;>rfl
theorem UY {a:Arr} (ha:okAr a) : FM a=some (if A7 a then ((cA a:Nat) : Int) else 0):=by
 unfold FM;rw [IK ha,oB];split<;>rfl
theorem Ks {x:Itm} (hx:okI x) : EO x=some (decide (BX x)):=by
 obtain ⟨m1,m2⟩:=T4 hx 0 0 0 (by omega) (by omega) (by omega)
 unfold EO
 by_cases h:BX x
 ·have:=m1 h.1 (by have:=h.2.1;omega) (by have:=h.2.2;omega)
  rw [show ((0:Nat):Int)=0 from rfl] at this
  rw [this,dT h];rfl
 ·obtain ⟨z,hz⟩:=m2 fun ⟨q1,q2,q3⟩=>h ⟨q1,by omega,by omega⟩
  rw [show ((0:Nat):Int)=0 from rfl] at hz
  rw [hz,dF h];rfl
theorem TL {a b:List Nat} (ha:okL 1048576 a=true) (hb:okL 35184372087808 b=true) : Jf a b=some (decide (a=b)):=if_pos (by rw [ha,hb];rfl)
theorem Wu {p:Rat} (hp:PA p) : Hh (ofQ p)=some (decide (p.den=1)):=by
 unfold Hh
 rw [LI (I8 hp),Lf hp,oB,if_pos rfl,Tz,oB]
 rw [show Jf (ofQ p).2.2 [1]=some (decide (Ak p.den=[1])) from TL (MG hp.2 (by decide)) (by rfl),oB,oB]
 congr 1
 exact decide_eq_decide.2 Kj
end Go.FL
namespace Go.FL
open Go Go.RowKit
section
variable {P:Program} {C:Cx} {X:Snap} {o:Oper} {ops:Array Oper} {Q:Exit→Env→Ad→Prop} {env env':Env} {H H':Ad} {a:Act} {w w':World} {I I':Nat→Prop} {μ μ':List Nat} {O O':Nat→Option Loc}
 {K:Env→Ad→Prop} {k:Nat} {l:List Oper}
theorem V4 {blk:Nat} {u0 u1 v0 v1:Value} {e:TypeId} (h:w.heap[blk]?=some (.cells #[u0,u1] e (0,0))) : w.setRow blk #[v0,v1]=(w.setCell ⟨blk,0,none⟩ v0).setCell ⟨blk,1,none⟩ v1:=by
 obtain ⟨hlt,hv⟩:=Array.getElem?_eq_some_iff.1 h
 have e1:w.heap.modify blk (fun|.cells _ elem frozen=>.cells #[v0,v1] elem frozen|o=>o)=(w.heap.modify blk (fun|.cells c elem frozen=>.cells (c.setIfInBounds 0 v0) elem frozen|o=>o)).modify blk (fun|.cells c elem frozen=>.cells (c.setIfInBounds 1 v1) elem frozen|o=>o):=by
  apply Array.ext
  ·simp
  ·intro i h1 h2
   simp only [Array.getElem_modify]
   by_cases hi:blk=i
   ·subst hi;simp only [if_true,hv];simp
   ·simp only [if_neg hi]
 unfold World.setRow World.setCell
 simp only [Option.isSome_none,Bool.false_eq_true,if_false]
 exact congrArg (fun x=>({w with heap:=x}:World)) e1
theorem bdo {ty s t e:Nat} {parts:Array (Nat×Operand)} {places:List (Nat×Nat)} {z:Value} {xs:List DV} (hp:Da P ty=some places) (hz:(P.info? ty).bind (·.zero)=some z) (hzr:z=.agg #[.slice none 0 0,.slice none 0 0]) (h:RL P C ops Q (k+1) l ((t,.ag [.own e xs,.nl])::(s,.un)::env) H)
  (hpl:places=[(0,1),(1,1)]:=by rfl) (hg:grd ops env o true=true:=by rfl) (ho:o.op=.build ty parts:=by rfl) (hpa:parts=#[(0,.tmp s)]:=by rfl) (hv:get env s=.own e xs:=by rfl) (hd:o.dst=some t:=by rfl)
  (hf:Am (get env t)=false:=by rfl) (hr:Dr s env=false:=by rfl) (ht:okT C.nt t:=by rfl):RL P C ops Q k (o::l) env H:=by
 have hst:=Gl hv hf
 subst hpl hzr
 refine .go hg (.val (t:=t) (av:=.ag [.own e xs,.nl]) (env':=put env s .un) (H':=H) (by simp [ho]) hd ht (fun X a w I μ O _ _ _ hs=>?_) ?_)
 ·obtain ⟨k1,bs,k2,k3,k4⟩:=hs.take s (by rw [hv];rfl)
  rw [hv] at k2
  have hb:P.built ty [(0,a.tmps.getD s undef)]=some #[a.tmps.getD s undef,.slice none 0 0]:=by
   unfold Da at hp
   unfold Program.built
   cases hi:P.info? ty with
   | none=>rw [hi] at hz;cases hz
   | some it =>
    rw [hi] at hz
    simp only [oB] at hz
    split at hp
    ·rename_i fields hu
     simp only [hu,hz,hp]
     have hone:∃ A n c,a.tmps.getD s undef=.slice A n c:=by
      generalize a.tmps.getD s undef=u at k2
      cases k2 with
      | own _ _ _ vs hsz ho' hr' =>
       rcases ho' with ⟨A,h1,_⟩|⟨_,g,cap,h1,_⟩<;>exact ⟨_,_,_,h1⟩
     obtain ⟨A,n,c,hu3⟩:=hone
     rw [hu3]
     simp [Instr.fill,Value.cells]
    ·cases hp
  refine ⟨.agg #[a.tmps.getD s undef,.slice none 0 0],w,I,μ,_,?_,k1,bs,?_,k3,k4⟩
  ·simp only [execOp,ho,hpa,Sem.run_bind]
   have:=run_build (P:=P) w ty #[(0,a.tmps.getD s undef)] #[a.tmps.getD s undef,.slice none 0 0] (by simpa using hb)
   simp only [List.map_toArray,List.map_cons,List.map_nil,Act.eval]
   rw [this]
   simp only [Result.andThen_ok,Sem.run_pure]
  ·have:=ARep.ag (ARepAll.cons k2 (ARepAll.cons (.nl (P:=P) (w:=w) (I:=I) (μ:=μ)) .nil))
   simpa using this
 ·refine RL.gh (Gh.same fun q=>?_) h
  have h1:Am (get (put env s .un) t)=false:=by rw [Du hr];simp [get,hst,hf]
  rw [Al h1]
  simp only [get]
  split
  ·rfl
  ·rw [Du hr];rfl
theorem st2 {x:Operand} {r ty id:Nat} {c0 c1 a0 a1:AV} (hH:H[id]?=some (.box [c0,c1])) (h:RL P C ops Q (k+1) l ((r,.un)::env) (H.set id (.box [a0,a1]))) (hsz:Ay P ty=2) (hg:grd ops env o true=true:=by rfl)
  (ho:o.op=.store ty x (.tmp r):=by rfl) (hv:lk env x=.bp id 0:=by rfl) (hy:get env r=.ag [a0,a1]:=by rfl) (n0:Am c0=false:=by rfl) (n1:Am c1=false:=by rfl) (m0:one a0=true:=by rfl) (m1:one a1=true:=by rfl) (hd:o.dst=none:=by rfl) (h0:C.n0=0:=by rfl):RL P C ops Q k (o::l) env H:=by
 obtain ⟨h1,h2⟩:=Av hv (by simp)
 have hlt:id<H.length:=(lS.1 hH).1
 refine .go hg (.done (env':=put env r .un) (H':=H.set id (.box [a0,a1])) (by simp [ho]) hd (fun X a w I μ O _ g2 _ hs=>?_) ?_)
 ·obtain ⟨blk,hm,he⟩:=hs.bp h1 h2
  obtain ⟨k1,bs,k2,k3,k4⟩:=hs.take r (by rw [hy];rfl)
  rw [hy] at k2
  generalize hev:a.tmps.getD r undef=u at k2
  cases k2 with
  | @ag _ vs _ k2 =>
   cases k2 with
   | @cons _ v0 _ _ b0 b1' q0 k2 =>
    cases k2 with
    | @cons _ v1 _ _ b1 b2 q1 k2 =>
     cases k2
     rw [List.append_nil] at k3 k4
     obtain ⟨d0,d1,d2⟩:=List.nodup_append.1 k3
     obtain ⟨s1,⟨y1,w1⟩,f1⟩:=k1.storeC (off:=0) hH rfl hm (by omega) q0 d0 fun b hb=>k4 b (by simp [hb])
     rw [n0] at s1
     have e1:Ei H id 0 a0=H.set id (.box [a0,c1]):=by simp [Ei,hH]
     rw [e1] at s1
     have hH1:(H.set id (.box [a0,c1]))[id]?=some (.box [a0,c1]):=List.getElem?_set_self hlt
     have q1':ARep P (w.setCell ⟨blk,0,none⟩ v0) I μ a1 v1 b1:=by
      obtain ⟨blk',bs',g1,⟨cells,et,g3,g4⟩,g5,_⟩:=k1.heap id _ hH
      rw [hm] at g1;cases g1
      have hOb:=(g5 (by omega)).2 blk (by simp)
      refine q1.keep (fun _ h=>h) (fun b hi=>heap_setCell_other w _ b v0 fun e=>?_) (fun _ _ h=>h) fun b hb=>heap_setCell_other w _ b v0 fun e=>?_
      ·have e':b=blk:=e
       subst e';exact (k1.own _ _ hOb).2 hi
      ·have e':b=blk:=e
       subst e'
       have h7:(O b).map (toR r)=some .r:=k4 b (by simp [hb])
       have h8:(O b).map (toR r)=some (.o id):=hOb
       rw [h7] at h8;cases h8
     obtain ⟨s2,⟨y2,w2⟩,f2⟩:=s1.storeC (off:=1) hH1 rfl hm (by omega) q1' d1 fun b hb=>by
      show (if b∈b0 then _ else _)=_
      rw [if_neg fun hm=>d2 b hm b hb rfl];exact k4 b (by simp [hb])
     rw [n1] at s2
     have e2:Ei (H.set id (.box [a0,c1])) id 1 a1=H.set id (.box [a0,a1]):=by simp [Ei,hH1]
     rw [e2] at s2
     refine ⟨_,I,μ,_,?_,s2⟩
     obtain ⟨blk',bs',g1,⟨cells,et,g3,g4⟩,g5,_⟩:=k1.heap id _ hH
     rw [hm] at g1;cases g1
     have hcl:cells.toList.length=2:=g4.length.symm
     obtain ⟨u0,u1,hcc⟩:∃ u0 u1,cells=#[u0,u1]:=by
      obtain ⟨l⟩:=cells
      match l,hcl with
      | [x,y],_=>exact ⟨x,y,rfl⟩
     rw [hcc] at g3
     have hone0:=HS q0 m0
     have hone1:=HS q1 m1
     obtain ⟨i,i1,i2⟩:=Hp (P:=P) (t:=ty) (by omega)
     have hsi:(P.info? ty).map (·.size)=some (#[v0,v1]:Array Value).size:=by rw [i1];simp;omega
     have hrun:=run_storeVar_row (P:=P) w blk et ty #[u0,u1] #[v0,v1] g3 hsi rfl (by simp [hone0,hone1])
     have hevr:a.eval (.tmp r)=.agg #[v0,v1]:=by show a.tmps.getD r undef=_;rw [hev]
     simp only [execOp,ho,he,hevr,Instr.storeAt,Instr.sureAddr,Sem.run_bind,Sem.run_pure,Result.andThen_ok,hrun]
     rw [V4 g3]
 ·refine RL.gh (Gh.same fun q=>?_) h
  rw [Al (by rw [hy];rfl)]
section
variable {nt:Nat×Nat} {J:JT} {ags:List Value} {QJ:Exit→Env→Ad→Nat→Prop} {n:Nat}
end
end
end Go.FL
namespace Go.FL
open Go Go.Proofs
section
variable {S:Type}
def RN (step:Itm→S→Option (Bool×S)) : List Itm→S→Option (Bool×S)
 | [],s=>some (true,s)
 | x::xs,s=>(step x s).bind fun r=>if r.1=true then RN step xs r.2 else some (false,r.2)
def Tl (step:Itm→S→Option (Bool×S)) (x:Itm) (s:S) : Option (Bool×S):=(step x s).map fun r=>(!r.1,r.2)
theorem St {step:Itm→S→Option (Bool×S)} : ∀ {xs:List Itm} {s:S} {z:Bool×S} {i:Int},0≤i→RN step xs s=some z→∃ n,LZ (Tl step) xs s i=some (n,z.2)∧(!decide (0≤n))=z.1
 | [],s,z,i,_,h=>by cases h;exact ⟨-1,rfl,rfl⟩
 | x::xs,s,z,i,hi,h=>by
  rw [RN] at h
  obtain ⟨y,hy,h⟩:=bnd h
  have hs:Tl step x s=some (!y.1,y.2):=by simp [Tl,hy]
  by_cases hc:y.1=true
  ·rw [if_pos hc] at h
   obtain ⟨n,h1,h2⟩:=St (i:=i+1) (by omega) h
   refine ⟨n,?_,h2⟩
   rw [LZ,hs,oB,if_neg (by simp [hc])];exact h1
  ·rw [if_neg hc] at h
   cases h
   refine ⟨i,?_,by simp [hi]⟩
   rw [LZ,hs,oB,if_pos (by simp [hc])]
end
theorem Yw {S:Type} {step:Itm→S→Option (Bool×S)} {obj:S→HO} {f:FuncId} {caps:List AV} {id:Nat} (hcall:∀ args w,(callFunc f args).run Tryz.prog w=.ok (.enter f args) w) (hnc:noOwnL caps=true)
  (hstep:∀ (x:Itm) s r H,H[id]?=some (obj s)→step x s=some r→FnR Tryz.prog f (.d (dvI x)::caps) H fun v H'=>v=.d (.b r.1)∧Upd H id (obj r.2) H')
  {x:Itm} {s:S} {r:Bool×S} {H:Ad} {n3:Nat} (hs:H[id]?=some (obj s)) (h3:H[n3]?=some (.box [.fn f [] caps])) (h:Tl step x s=some r) :
  FnR Tryz.prog 240 [.d (dvI x),.bp n3 0] H fun v H'=>v=.d (.b r.1)∧Upd H id (obj r.2) H':=by
 simp only [Tl,Option.map_eq_some_iff] at h
 obtain ⟨y,hy,rfl⟩:=h
 have hfn:noOwn (.fn f [] caps)=true:=by simp [noOwn,noOwnL,hnc]
 refine FnR.of (rs:=[.tmp 3]) 8 Tryz.func240 rfl rfl rfl (by simp) ?_;refine .sr ?_;refine vk (vbx) ?_;refine asd ?_;refine rn ?_;refine .sr ?_;refine vk (Og (cs:=[.fn f [] caps]) (c:=.fn f [] caps) h3 rfl (by kernel_rfl) (hn:=hfn)) ?_;refine vk (Ao AP Au) ?_
 refine YF (avs:=[.d (dvI x)]) (hstep _ _ _ _ hs hy) hcall (fun v H' hp=>?_) (hnc:=hnc)
 obtain ⟨rfl,hp⟩:=hp
 refine vk (vnt) ?_;refine asd ?_;refine rn ?_;refine .ret ?_
 exact ⟨_,⟨rfl,rfl⟩,rfl,hp⟩
def TT {S:Type} (step:Itm→S→Option (Bool×S)) (a:Arr) (s:S) : Option (Bool×S) :=
 (Bm a).bind fun x1=>if x1=true then (if ((List.length a.shape:Nat):Int)≤1 then (Dn a).bind fun l=>if l.length≤9223372036854775806 then RN step l s else none else some (false,s)) else some (false,s)
set_option maxRecDepth 10000 in
theorem Yz {S:Type} {step:Itm→S→Option (Bool×S)} {obj:S→HO} {f:FuncId} {caps:List AV} {id:Nat} (hcall:∀ args w,(callFunc f args).run Tryz.prog w=.ok (.enter f args) w) (hnc:noOwnL caps=true)
  (hstep:∀ (x:Itm) s r H,H[id]?=some (obj s)→step x s=some r→FnR Tryz.prog f (.d (dvI x)::caps) H fun v H'=>v=.d (.b r.1)∧Upd H id (obj r.2) H')
  {a:Arr} {s:S} {r:Bool×S} {H:Ad} (hs:H[id]?=some (obj s)) (h:TT step a s=some r) :
  FnR Tryz.prog 202 [.d (dvA a),.fn f [] caps] H fun v H'=>v=.d (.b r.1)∧Upd H id (obj r.2) H':=by
 unfold TT at h
 have hfn:noOwn (.fn f [] caps)=true:=by simp [noOwn,noOwnL,hnc]
 have hid:id<H.length:=(lS.1 hs).1
 refine FnR.of (rs:=[.tmp 4]) 20 Tryz.func202 rfl rfl rfl (by simp) ?_;refine .sr ?_;refine vk (vbx) ?_
 refine bxA (c:=.fn f [] caps) ?_ (hn:=hfn)
 refine asd ?_
 have f0:Upd H id (obj s) (H++[.box [.fn f [] caps]]):=⟨by rw [List.getElem?_append_left hid];exact hs,by simp,fun j h1 h2=>by rw [List.getElem?_append_left h2]⟩
 have f3:(H++[HO.box [.fn f [] caps]])[H.length]?=some (.box [.fn f [] caps]):=by simp
 have g3:H.length≠id:=by omega
 generalize H++[HO.box [.fn f [] caps]]=H2 at f0 f3 ⊢
 obtain ⟨n3,hn3⟩:∃ n3,n3=H.length:=⟨_,rfl⟩
 rw [← hn3] at f3 g3 ⊢
 refine rn ?_;refine .gh (Gh.keep [2,3] rfl) ?_;refine .sr ?_;refine vk (Ao Ae Aa) ?_
 obtain ⟨x1,hx1,h⟩:=bnd h
 refine vk (Ai (BT hx1) Tryz.call54) ?_
 by_cases hc:x1=true
 rotate_left
 ·rw [if_neg hc] at h
  cases h
  refine vk (VOK.lit (Ac) (bf hc)) ?_;refine gf4 ?_;refine vk (Aq) ?_;refine vk (Ac) ?_;refine gf4 ?_;refine gf ?_;refine vk (Aq) ?_;refine asd ?_;refine rn ?_;refine .ret ?_
  exact ⟨_,⟨rfl,rfl⟩,rfl,f0⟩
 rw [if_pos hc] at h
 refine vk (VOK.lit (Ac) hc) ?_;refine vk (vfa AJ) ?_;refine vk (Aj Bl) ?_;refine vk (A0 (Af _) (Bv _) Bp) ?_;refine vk (vbi) ?_;refine vk (Aq) ?_
 by_cases hc:((List.length a.shape:Nat):Int)≤1
 rotate_left
 ·rw [if_neg hc] at h
  cases h
  refine vk (VOK.lit (Ac) (dF hc)) ?_;refine gf4 ?_;refine gf ?_;refine vk (Aq) ?_;refine asd ?_;refine rn ?_;refine .ret ?_
  exact ⟨_,⟨rfl,rfl⟩,rfl,f0⟩
 rw [if_pos hc] at h
 refine vk (VOK.lit (Ac) (dT hc)) ?_;refine vk (Ao Ae Aa) ?_
 obtain ⟨l,hx2,h⟩:=bnd h
 obtain ⟨hl,h⟩:=En h
 refine vk (Ai (GH hx2) Tryz.call46) ?_;refine Yl (avs:=[.bp n3 0]) ?_
 obtain ⟨n,h1,h2⟩:=St (Int.le_refl 0) h
 have step':=Il (S:=S) (step:=Tl step) (st:=fun s H'=>Upd H id (obj s) H'∧H'[n3]?=some (.box [.fn f [] caps])) (caps:=[.bp n3 0]) Tryz.call240 rfl
  (fun x s y H' hs hy=>by
   obtain ⟨hs0,hs3⟩:=hs
   refine (Yw hcall hnc hstep hs0.1 hs3 hy).mono fun v H'' hp=>⟨hp.1,hs0.trans hp.2,?_⟩
   rw [hp.2.2.2 n3 g3 (lS.1 hs3).1];exact hs3)
  hl h1 (H:=H2) ⟨f0,f3⟩
 refine clR (avs:=[.d (.sl (Its l)),.fn 240 [] [.bp n3 0]]) step' Tryz.call57 (fun v H' hp=>?_)
 obtain ⟨rfl,hp⟩:=hp
 refine vk (vnt) ?_
 rw [h2]
 refine vk (Aq) ?_;refine asd ?_;refine rn ?_;refine .ret ?_
 exact ⟨_,⟨rfl,rfl⟩,rfl,hp.1⟩
abbrev Tc (s:List Int) : HO:=.box [.own 3 (Is s)]
def KU (x:Itm) (s:List Int) : Option (Bool×List Int):=(I6 x.num).bind fun y=>(ap? 17592186044416 s [y.1]).bind fun o=>some (y.2&&decide (x.kind=1),o)
theorem SU (id:Nat) (x:Itm) (s:List Int) (r:Bool×List Int) (H:Ad) (hH:H[id]?=some (Tc s)) (h:KU x s=some r) :
  FnR Tryz.prog 203 (.d (dvI x)::[.bp id 0]) H fun v H'=>v=.d (.b r.1)∧Upd H id (Tc r.2) H':=by
 unfold KU at h
 obtain ⟨y,hy,h⟩:=bnd h
 obtain ⟨z,hz,h⟩:=bnd h
 have hid:id<H.length:=(lS.1 hH).1
 refine FnR.of (rs:=[.tmp 3]) 22 Tryz.func203 rfl rfl rfl (by simp) ?_;refine .sr ?_;refine vk (vbx) ?_;refine asd ?_;refine rn ?_;refine .sr ?_;refine vk (vfa BS) ?_;refine vk (Ao A8 AG) ?_;refine vk (VOK.tupd (vs:=[.i .i64 y.1,.b y.2]) (Ai (Qc hy) Tryz.call79)) ?_;refine vk (Ac) ?_;refine vk (vex) ?_;refine vk (vex) ?_;refine asd ?_;refine asd ?_;refine rn ?_;refine .gh (Gh.keep [1,2,4,5] rfl) ?_;refine .sr ?_
 refine L2 (cs:=[.own 3 (Is s)]) hH rfl ?_ Bl
 refine vk (Ac) ?_;refine vk (FE (Ed [y.1]) DE).deep ?_
 have hset:∀ c,(H.set id (.box [c]))[id]?=some (.box [c]):=fun c=>List.getElem?_set_self hid
 refine VA OZ hz hH rfl SF ?_ Ng Af DE (hnc:=by simp [MP,get,Jp,QW])
 refine RL.gh (Gh.keep [1,2,4,5,15] rfl) ?_
 refine Ny (cs:=[.un]) (c:=.un) (hset _) rfl ?_ Px
 refine rn ?_
 have hfin:(((H.set id (.box [.un])).set id (.box [.own 3 (Is z)])):Ad)=H.set id (Tc z):=by simp
 change AW _ _ _ _ _ ((H.set id (.box [.un])).set id (.box [.own 3 (Is z)]))
 rw [hfin]
 have hup:Upd H id (Tc z) (H.set id (Tc z)):=(Upd.same hH).set_id
 refine .gh (Gh.keep [2,4,5] rfl) ?_;refine .sr ?_;refine vk (Ac) ?_
 by_cases hc:y.2=true
 ·refine vk (VOK.lit (Ac) hc) ?_
  refine vk (vfa BY) ?_;refine vk (Aj Bb) ?_;refine vk (vbi) ?_;refine vk (Aq) ?_;refine asd ?_;refine rn ?_;refine .ret ?_
  cases h
  exact ⟨_,⟨rfl,rfl⟩,by rw [hc];rfl,hup⟩
 ·refine vk (VOK.lit (Ac) (bf hc)) ?_
  refine gf3 ?_;refine vk (Aq) ?_;refine asd ?_;refine rn ?_;refine .ret ?_
  cases h
  exact ⟨_,⟨rfl,rfl⟩,by rw [bf hc];rfl,hup⟩
def GF (a:Arr) : Option (List Int×Bool):=(TT KU a []).map fun r=>if r.1=true then (r.2,true) else ([],false)
theorem V2 : 0<Ay Tryz.prog 3:=by rw [C6];decide
theorem Qj {a:Arr} {r:List Int×Bool} (h:GF a=some r) : Fn Tryz.prog 155 [dvA a] (.tup [.d (.sl (Is r.1)),.d (.b r.2)]):=by
 simp only [GF,Option.map_eq_some_iff] at h
 obtain ⟨z,hz,rfl⟩:=h
 refine Fn.of (rs:=[.tmp 2,.tmp 3]) (nt:=12) Tryz.func155 rfl rfl rfl (by simp) rfl ?_;refine .sr ?_;refine vk (vbx) ?_;refine asn ?_;refine asd ?_;refine rn ?_;refine .sr ?_
 refine al ?_ (Ah R2) (fun w I μ=>Ve w I μ)
 refine rn ?_;refine .gh (Gh.nlOwnC (id:=0) (off:=0) 3 V2) ?_;refine .sr ?_;refine vk (Ao Ae Aa) ?_;refine Yl (avs:=[.bp 0 0]) ?_
 refine clR (avs:=[.d (dvA a),.fn 203 [] [.bp 0 0]]) (Yz (obj:=Tc) (id:=0) (caps:=[.bp 0 0]) (s:=[]) Tryz.call203 rfl (fun x s r H hH hs=>SU 0 x s r H hH hs) rfl hz) Tryz.call202 (fun v H' hp=>?_)
 obtain ⟨rfl,hp⟩:=hp
 refine asd ?_;refine rn ?_;refine .gh (Gh.keep [2,3,4,5] rfl) ?_;refine .seq ?_;refine .sr ?_;refine vk (Ac) ?_;refine vk (vnt) ?_;refine rn ?_
 by_cases hc:z.1=true
 ·rw [if_pos hc]
  refine cnf (ntf hc) ?_;refine .skip ?_;refine aw ?_;refine .sr ?_
  refine L2 (cs:=[.own 3 (Is z.2)]) hp.1 rfl ?_ Bl
  refine fz (p:=.c 0 0) (e:=3) (xs:=Is z.2) ?_ (hp:=by simp [AH,hp.1])
  refine asd ?_;refine asd ?_;refine rn ?_;refine .ret ?_
  refine ⟨by decide,?_,rfl,rfl⟩
  show AV.tup [.d (.sl (Is z.2)),.d (.b true)]=AV.tup [.d (.sl (((Is z.2).drop 0).take (Is z.2).length)),.d (.b true)]
  rw [List.drop_zero,List.take_length]
 ·rw [if_neg hc]
  refine cnt (ntt (bf hc)) ?_;refine .sr ?_;refine asn ?_;refine asd ?_;refine rn ?_;refine .gh (Gh.nlD (t:=2) rfl) ?_;refine .ret ?_
  exact ⟨by decide,rfl,rfl,rfl⟩
def V6 (x:Itm) : DV:=.ag [.i .u8 x.kind,.b x.num.1,.sl (L x.num.2.1),.sl (L x.num.2.2),.i .i32 x.char,.sl (Ars x.box)]
def GA : List Int→Option (List Itm)
 | []=>some []
 | n::ns=>(D1 n).bind fun q=>(Ca q).bind fun x=>(GA ns).bind fun xs=>some (x::xs)
theorem Py : ∀ {l:List Int} {xs:List Itm},GA l=some xs→xs.length=l.length∧∀ (i:Nat) n,l[i]?=some n→∃ q x,D1 n=some q∧Ca q=some x∧xs[i]?=some x:=by
 intro l
 induction l with
 | nil=>intro xs h;cases h;exact ⟨rfl,fun i n hn=>by simp at hn⟩
 | cons m ns ih =>
  intro xs h
  rw [GA] at h
  obtain ⟨q,hq,h⟩:=bnd h
  obtain ⟨x,hx,h⟩:=bnd h
  obtain ⟨ys,hy,h⟩:=bnd h
  cases h
  obtain ⟨h1,h2⟩:=ih hy
  refine ⟨by simp [h1],fun i n hn=>?_⟩
  cases i with
  | zero=>simp at hn;subst hn;exact ⟨q,x,hq,hx,rfl⟩
  | succ i=>simpa using h2 i n (by simpa using hn)
def itY (xs:List Itm) : List (List DV):=xs.map fun x=>[V6 x]
theorem X5 {xs:List Itm} {i:Nat} {x:Itm} (h:xs[i]?=some x) : (itY xs)[i]?=some [V6 x]:=by simp [itY,h]
set_option maxRecDepth 10000 in
theorem UK {l:List Int} {xs:List Itm} (h:GA l=some xs) (hl:l.length≤9223372036854775806) (m:Nat) : ItG Tryz.prog 53 [.ptr [.sl (Is l)]] (itY xs) m:=by
 obtain ⟨hlen,hat⟩:=Py h
 have hyl:(itY xs).length=l.length:=by simp [itY,hlen]
 refine ItG.of Tryz.func53 rfl rfl (nt:=18) rfl (by simp) fun lp J hJ hR=>?_;refine .seq ?_;refine .lift ?_;refine .region ?_;refine vk (Aj Bl) ?_;refine vk (A0 (Af _) (Bv _) Bp) ?_;refine vk (Ac) ?_;refine .nil ?_
 show AWJ _ _ _ _ _ _ _ _ _
 refine .block ?_;refine ALJ.loop ?_;refine ALJ.gh (Gh.keep [0,5,6,7] rfl) ?_
 refine ALJ.ind (σ:=Nat) (m:=fun i=>l.length-i) (e:=fun i=>[(0,.d (.yl lp)),(5,.d (.sl (Is l))),(6,.d (.i .i64 ((List.length l:Nat):Int))),(7,.d (.i .i64 ((i:Nat):Int)))]) (h:=fun _=>[]) (r:=fun i=>i) (I:=fun i=>i≤l.length∧i≤m) ?_ 0 ⟨Nat.zero_le _,Nat.zero_le _⟩
 rintro i ⟨hi,him⟩ ih
 refine .seq ?_;refine .lift ?_;refine .region ?_;refine vk (vbi) ?_;refine .nil ?_
 show AWJ _ _ _ _ _ _ _ _ _
 refine .seq ?_
 by_cases hc:((i:Nat):Int)<((List.length l:Nat):Int)
 ·refine .cond (x:=true) (by show AV.d (.b (decide _))=_;rw [dT hc]) (fun _=>?_) (fun h=>by cases h)
  have hlt:i<l.length:=by omega
  obtain ⟨q,x,hq,hx,hxi⟩:=hat i _ (lG hlt)
  refine .skip ?_
  show AWJ _ _ _ _ _ _ _ _ _
  refine .seq ?_;refine .block ?_;refine .seq ?_;refine .lift ?_;refine .region ?_;refine vk (vix i rfl (Be (lG hlt)) rfl A9) ?_;refine vk (Aj AF) ?_;refine asd ?_;refine .nil ?_
  show AWJ _ _ _ _ _ _ _ _ _
  refine .seq ?_;refine .region ?_;refine vkJ (Ac) ?_;refine vkJ (Ac) ?_;refine vkJ (Ai (EK hq) Tryz.call37) ?_;refine vkJ (Ai (Ew hx) Tryz.call36) ?_;refine yld (hR i [V6 x] (X5 hxi) him) hJ ?_;refine vkJ (vnt) ?_;refine .nil ?_
  show AWJ _ _ _ _ _ _ _ _ _
  by_cases hm:i<m
  ·refine .cond (x:=false) (by show AV.d (.b (!decide _))=_;rw [dT hm];rfl) (fun h=>by cases h) (fun _=>?_)
   refine .skip ?_
   show AWJ _ _ _ _ _ _ _ _ _
   refine .lift ?_;refine .region ?_;refine vk (vbi) ?_;refine vk (Ac) ?_;refine .nil ?_
   show ALJ _ _ _ _ _ _ _ _ _
   have hw:IntKind.wrap .i64 ((i:Int)+1)=((i+1:Nat):Int):=by simp only [IntKind.wrap,IntKind.bits,IntKind.signed];simp;omega
   rw [hw]
   refine ALJ.gh (Gh.keep [0,5,6,7] rfl) ?_
   exact ih (i+1) ⟨hlt,hm⟩ (by omega)
  ·refine .cond (x:=true) (by show AV.d (.b (!decide _))=_;rw [dF hm];rfl) (fun _=>?_) (fun h=>by cases h)
   refine .ret ?_
   exact ⟨.inr rfl,by rw [hyl];omega⟩
 ·refine .cond (x:=false) (by show AV.d (.b (decide _))=_;rw [dF hc]) (fun h=>by cases h) (fun _=>?_)
  refine .exit ?_
  exact ⟨.inl rfl,by rw [hyl];omega⟩
def Gw (proto:Itm) (xs:List Itm) : Arr:=.mk [((min xs.length 4096:Nat) : Int)] (if xs.length=0 then [proto] else xs.take 4096)
abbrev Y7 (xs:List Itm) (n:Nat) : Ad:=[.box [.own 3 (Is [((n:Nat) : Int)]),.own 51 (Its (xs.take n))]]
theorem WB : 0<Ay Tryz.prog 51:=by rw [Le];decide
set_option maxRecDepth 10000 in
set_option maxHeartbeats 4000000 in
theorem TA {proto:Itm} {xs:List Itm} {f:FuncId} {caps:List DV} (hcall:∀ args w,(callFunc f args).run Tryz.prog w=.ok (.enter f args) w) (hit:ItG Tryz.prog f caps (itY xs) 4096) :
  Fn Tryz.prog 52 [V6 proto,.fn f [] caps] (.d (.ag [.sl (Is (Gw proto xs).shape),.sl (Its (Gw proto xs).items)])):=by
 refine Fn.ofMA (rs:=[.cell 4 27]) (nt:=37) Tryz.func52 rfl rfl rfl (by simp) rfl ?_;refine .seqA ?_;refine .region ?_;refine vk (vbx (cs:=[.i .u8 proto.kind,.b proto.num.1,.sl (L proto.num.2.1),.sl (L proto.num.2.2),.i .i32 proto.char,.sl (Ars proto.box)])) ?_;refine vk (van (Ah AI) AK) ?_;refine .nil ?_
 show AWM _ _ _ _ _ _
 refine .seqA ?_;refine .region ?_;refine vk (EI (ds':=Is [0]) rfl (Ed [0]) DE) ?_;refine bdo BW AI rfl ?_
 refine al ?_ (Ah AI) (fun w I μ=>Pk w I μ)
 refine st2 (c0:=.nl) (c1:=.nl) rfl ?_ Aa
 refine .nil ?_
 show AWM _ _ _ _ _ _
 refine .gh (Gh.keep [1,2,4,5] rfl) ?_;refine .gh (Gh.nlOwnC (id:=0) (off:=1) 51 WB) ?_;refine .seq rfl ?_;refine .seqA ?_;refine .region ?_;refine vk (Ac) ?_;refine .nil ?_
 show AWM _ _ _ _ _ _
 refine .block ?_
 refine AWM.rangeFuncG (ps:=[10]) (f:=f) (caps:=caps) (ys:=itY xs) (m:=4096) (e1:=.exit 0) rfl rfl rfl hcall hit (fun ds hd=>?_) (fun p hp=>?_) rfl (fun k H=>H=Y7 xs (min k 4096)) rfl (.inl ⟨0,rfl⟩) (fun l k ds H hk hkm hH=>?_) (fun H hH=>?_)
 ·simp only [itY,List.mem_map] at hd
  obtain ⟨x,_,rfl⟩:=hd;rfl
 ·simp only [List.mem_cons,List.not_mem_nil,or_false] at hp;subst hp;rfl
 ·subst hH
  simp only [itY,List.getElem?_map,Option.map_eq_some_iff] at hk
  obtain ⟨x,hx,rfl⟩:=hk
  rw [Nat.min_eq_left hkm]
  refine .region ?_;refine vk (van (Ah B6) B2) ?_
  refine stn ?_ Au (by decide)
  refine .nil ?_;refine aw ?_;refine .block ?_;refine .seq ?_;refine .seq ?_;refine .region ?_;refine vk (GK AJ) ?_
  refine L2 (cs:=[.own 3 (Is [((k:Nat):Int)]),.own 51 (Its (xs.take k))]) rfl rfl ?_ Bl
  refine ixr (len:=1) (xs:=Is [((k:Nat):Int)]) 0 rfl (by decide) ?_ A9 (by decide)
  refine lde (xs:=Is [((k:Nat):Int)]) (.i .i64 ((k:Nat):Int)) ⟨_,rfl,rfl⟩ ?_ AF
  refine vk (vbi) ?_;refine rn ?_
  by_cases hm:((k:Nat):Int)=4096
  ·refine cnt (dT hm) ?_
   refine .exit ?_
   have hk4:k=4096:=by omega
   subst hk4
   exact ⟨rfl,rfl⟩
  refine cnf (dF hm) ?_
  have hlt:k<4096:=by omega
  have hkl:k<xs.length:=(lS.1 hx).1
  refine .skip ?_;refine aw ?_;refine .gh (Gh.keep [5,6] rfl) ?_;refine .seq ?_;refine .region ?_;refine vk (GK A4) ?_
  refine L2 (cs:=[.own 3 (Is [((k:Nat):Int)]),.own 51 (Its (xs.take k))]) rfl rfl ?_ BL
  refine vk (DF AP Au) ?_;refine vk (EI (EW x) (D7 [x]) De) ?_
  have hap:ap? 1466015503701 (xs.take k) [x]=some (xs.take (k+1)):=by
   rw [ap?,if_pos (by simp;omega),List.take_add_one,hx];rfl
  refine VA GY hap rfl rfl IU ?_ Fy Az De
  refine RL.gh (Gh.keep [5,6,20] rfl) ?_;refine vk (GK A4) ?_
  refine Ny (cs:=[.own 3 (Is [((k:Nat):Int)]),.un]) (c:=.un) rfl rfl ?_ KR
  refine rn ?_;refine .gh (Gh.keep [5] rfl) ?_;refine .region ?_;refine vk (GK AJ) ?_
  refine L2 (cs:=[.own 3 (Is [((k:Nat):Int)]),.own 51 (Its (xs.take (k+1)))]) rfl rfl ?_ Bl
  refine ixr (len:=1) (xs:=Is [((k:Nat):Int)]) 0 rfl (by decide) ?_ A9 (by decide)
  refine lde (xs:=Is [((k:Nat):Int)]) (.i .i64 ((k:Nat):Int)) ⟨_,rfl,rfl⟩ ?_ AF
  refine vk (vbi) ?_
  refine ixr (len:=1) (xs:=Is [((k:Nat):Int)]) 0 rfl (by decide) ?_ A9 (by decide)
  refine ste (xs:=Is [((k:Nat):Int)]) ⟨_,rfl,rfl⟩ ?_ C6 (hn:=fun _ _ _=>Nat.zero_le _)
  refine .nil ?_
  have hw:IntKind.wrap .i64 ((k:Int)+1)=((k+1:Nat):Int):=by simp only [IntKind.wrap,IntKind.bits,IntKind.signed];simp;omega
  refine ⟨by rw [if_pos hlt],?_⟩
  rw [Nat.min_eq_left (by omega:k+1≤4096)]
  show [HO.box [AV.own _ [.i .i64 (IntKind.wrap .i64 ((k:Int)+1))],_]]=_
  rw [hw];rfl
 ·have hlen:(itY xs).length=xs.length:=by simp [itY]
  rw [hlen] at hH ⊢
  have hn:min (min (4096+1) xs.length) 4096=min xs.length 4096:=by omega
  rw [hn] at hH
  subst hH
  by_cases hb:4096<xs.length
  case' pos=>rw [if_pos hb]
  case' neg=>rw [if_neg hb]
  all_goals
   show AWM _ _ _ _ _ _
   refine .lift ?_;refine .gh (Gh.keep [2,4,5] rfl) ?_;refine .seq ?_;refine .seq ?_;refine .region ?_;refine vk (GK AJ) ?_
   refine L2 (cs:=[.own 3 (Is [((min xs.length 4096:Nat):Int)]),.own 51 (Its (xs.take (min xs.length 4096)))]) rfl rfl ?_ Bl
   refine ixr (len:=1) (xs:=Is [((min xs.length 4096:Nat):Int)]) 0 rfl (by decide) ?_ A9 (by decide)
   refine lde (xs:=Is [((min xs.length 4096:Nat):Int)]) (.i .i64 ((min xs.length 4096:Nat):Int)) ⟨_,rfl,rfl⟩ ?_ AF
   refine vk (vbi) ?_;refine rn ?_;refine .gh (Gh.keep [2,4,5,32] rfl) ?_
   by_cases h0:((min xs.length 4096:Nat):Int)=0
   ·have hx0:xs.length=0:=by omega
    refine cnt (dT h0) ?_;refine .region ?_;refine vk (Ao AP Au) ?_;refine vk (EI (EW proto) (D7 [proto]) De) ?_;refine vk (GK A4) ?_
    refine Ny (cs:=[.own 3 (Is [((min xs.length 4096:Nat):Int)]),.own 51 (Its (xs.take (min xs.length 4096)))]) (c:=.own 51 (Its (xs.take (min xs.length 4096)))) rfl rfl ?_ KR
    refine .nil ?_;refine aw ?_;refine .gh (Gh.keep [4,5] rfl) ?_;refine .seq ?_;refine .region ?_;refine fz (p:=.c 0 0) ?_;refine fz (p:=.c 0 1) ?_;refine vk (IC (cs:=[.d (.sl (Is [((min xs.length 4096:Nat):Int)])),.d (.sl (Its [proto]))]) (ds:=[.sl (Is [((min xs.length 4096:Nat):Int)]),.sl (Its [proto])]) rfl Ae Aa) ?_
    refine stn ?_ Aa (by decide)
    refine rn ?_;refine .ret ?_
    exact ⟨.inr rfl,.inl ⟨_,⟨.inr rfl,Ae,Aa,(by decide:(0:Nat)<2)⟩,by simp only [Gw,if_pos hx0];rfl⟩⟩
   ·have hx0:¬xs.length=0:=by omega
    refine cnf (dF h0) ?_;refine .skip ?_;refine aw ?_;refine .gh (Gh.keep [4,5] rfl) ?_;refine .seq ?_;refine .region ?_;refine fz (p:=.c 0 0) ?_;refine fz (p:=.c 0 1) ?_;refine vk (IC (cs:=[.d (.sl (Is [((min xs.length 4096:Nat):Int)])),.d (.sl (Its (xs.take (min xs.length 4096))))]) (ds:=[.sl (Is [((min xs.length 4096:Nat):Int)]),.sl (Its (xs.take (min xs.length 4096)))]) rfl Ae Aa) ?_
    refine stn ?_ Aa (by decide)
    refine rn ?_;refine .ret ?_
    have ht:xs.take (min xs.length 4096)=xs.take 4096:=by
     rcases Nat.le_total xs.length 4096 with h|h
     ·rw [Nat.min_eq_left h,List.take_of_length_le (Nat.le_refl _),List.take_of_length_le h]
     ·rw [Nat.min_eq_right h]
    exact ⟨.inr rfl,.inl ⟨_,⟨.inr rfl,Ae,Aa,(by decide:(0:Nat)<2)⟩,by simp only [Gw,if_neg hx0,ht];rfl⟩⟩
def G0 (l:List Int) : Option Arr:=if l.length≤9223372036854775806 then (GA l).bind fun xs=>(D1 0).bind fun q=>(Ca q).bind fun p=>some (Gw p xs) else none
theorem Gn {l:List Int} {r:Arr} (h:G0 l=some r) : Fn Tryz.prog 15 [.sl (Is l)] (.d (.ag [.sl (Is r.shape),.sl (Its r.items)])):=by
 obtain ⟨hl,h⟩:=En h
 obtain ⟨xs,hxs,h⟩:=bnd h
 obtain ⟨q,hq,h⟩:=bnd h
 obtain ⟨p,hp,h⟩:=bnd h
 cases h
 refine Fn.ofC (rs:=[.cell 2 27]) (nt:=7) Tryz.func15 rfl rfl rfl (by simp) rfl ?_;refine .sr ?_;refine vk (XR) ?_;refine vk (van (Ah AI) AK) ?_;refine rn ?_;refine .sr ?_;refine vk (Ai (EK hq) Tryz.call37) ?_;refine vk (Ai (Ew hp) Tryz.call36) ?_;refine vk (Yb) ?_;refine vk (Ai (TA (proto:=p) Tryz.call53 (UK hxs hl 4096)) Tryz.call52) ?_
 refine stn ?_ Aa (by decide)
 refine rn ?_;refine .ret ?_
 exact ⟨_,⟨.inr rfl,Ae,Aa,p2⟩,rfl⟩
mutual
def tyI : Itm→Itm
 | .mk k _ _ b=>if k=1 then .mk 1 (ofQ 0) 0 [] else if k=2 then .mk 2 (false,[],[]) 32 [] else .mk 3 (false,[],[]) 0 (tyBs b)
def tyA : Arr→Arr
 | .mk s i=>.mk s (tyIs i)
def tyIs : List Itm→List Itm
 | []=>[]
 | x::xs=>tyI x::tyIs xs
def tyBs : List Arr→List Arr
 | []=>[]
 | a::_=>[tyA a]
end
theorem Ep (s:List Int) (i:List Itm) : (Arr.mk s i).shape=s:=rfl
theorem DU (s:List Int) (i:List Itm) : (Arr.mk s i).items=i:=rfl
theorem Ms (k:Int) (n:RT) (c:Int) (b:List Arr) : (Itm.mk k n c b).kind=k:=rfl
theorem Xg (k:Int) (n:RT) (c:Int) (b:List Arr) : (Itm.mk k n c b).num=n:=rfl
theorem W9 (k:Int) (n:RT) (c:Int) (b:List Arr) : (Itm.mk k n c b).char=c:=rfl
theorem VO (k:Int) (n:RT) (c:Int) (b:List Arr) : (Itm.mk k n c b).box=b:=rfl
theorem TM (xs:List Itm) : tyIs xs=xs.map tyI:=by induction xs with
 | nil=>simp [tyIs]
 | cons x xs ih=>simp [tyIs,ih]
theorem IQ (a:Arr) : tyA a=.mk a.shape (a.items.map tyI):=by cases a;simp only [tyA,TM];rfl
theorem FB : ∀ {xs:List Itm},rIs xs=true↔∀ x∈xs,rI x=true
 | []=>by simp [rIs]
 | x::xs=>by simp [rIs,FB (xs:=xs)]
theorem Sl : ∀ {xs:List Arr},rBs xs=true↔∀ a∈xs,AQ a=false∧rA a=true
 | []=>by simp [rBs]
 | x::xs=>by simp [rBs,Sl (xs:=xs)]
theorem J3 {x:Itm} (h:rI x=true) : (x.kind=1∧BO x.num=true∧x.char=0∧x.box=[])∨(x.kind=2∧chB x.char=true∧x.num=(false,[],[])∧x.box=[])∨(x.kind=3∧x.num=(false,[],[])∧x.char=0∧∃ a,x.box=[a]∧AQ a=false∧rA a=true):=by
 rw [Ui] at h
 by_cases k1:x.kind=1
 ·rw [if_pos k1] at h;simp only [Bool.and_eq_true,decide_eq_true_eq] at h
  exact .inl ⟨k1,h.1,h.2.1,List.length_eq_zero_iff.1 h.2.2⟩
 rw [if_neg k1] at h
 by_cases k2:x.kind=2
 ·rw [if_pos k2] at h;simp only [Bool.and_eq_true,decide_eq_true_eq] at h
  exact .inr (.inl ⟨k2,h.1,(Nd x).1 h.2.1,List.length_eq_zero_iff.1 h.2.2⟩)
 rw [if_neg k2] at h
 by_cases k3:x.kind=3
 ·rw [if_pos k3] at h;simp only [Bool.and_eq_true,decide_eq_true_eq] at h
  obtain ⟨a,ha⟩:=List.length_eq_one_iff.1 h.1
  refine .inr (.inr ⟨k3,(Nd x).1 h.2.1,h.2.2.1,a,ha,Sl.1 h.2.2.2 a (by simp [ha])⟩)
 ·rw [if_neg k3] at h;cases h
def WO (x:Itm) : Prop:=rI (tyI x)=true∧dI (tyI x)=dI x∧cI (tyI x)=cI x∧tyI (tyI x)=tyI x∧(tyI x).kind=x.kind∧okI (tyI x)
theorem Rd {s:List Int} {i:List Itm} {f:Itm→Itm} (h:∀ x∈i,(f x).kind=x.kind) : AQ (.mk s (i.map f))=AQ (.mk s i):=by
 unfold AQ
 match i with
 | []=>rfl
 | [x]=>simp only [Ep,DU,List.map,h x (by simp)]
 | x::y::r=>rfl
theorem SA {f:Itm→Itm} : ∀ {i:List Itm},(∀ x∈i,cI (f x)=cI x)→cIs (i.map f)=cIs i
 | [],_=>rfl
 | x::xs,h=>by simp only [List.map,cIs];rw [h x (by simp),SA fun y hy=>h y (by simp [hy])]
theorem R8 {f:Itm→Itm} : ∀ {i:List Itm},(∀ x∈i,dI (f x)=dI x)→dIs (i.map f)=dIs i
 | [],_=>rfl
 | x::xs,h=>by simp only [List.map,dIs];rw [h x (by simp),R8 fun y hy=>h y (by simp [hy])]
theorem XF {a:Arr} (oa:okAr a) (hr:rA a=true) (ih:∀ x∈a.items,WO x) : rA (tyA a)=true∧dA (tyA a)=dA a∧cA (tyA a)=cA a∧tyA (tyA a)=tyA a∧AQ (tyA a)=AQ a∧okAr (tyA a):=by
 have o:=(BR a).1 oa
 have hs:AQ (tyA a)=AQ a:=by
  rw [IQ,Rd (fun x hx=>(ih x hx).2.2.2.2.1),Arr.eta]
 rw [IX] at hr
 simp only [Bool.and_eq_true,decide_eq_true_eq] at hr
 refine ⟨?_,?_,?_,?_,hs,?_⟩
 ·rw [IX,IQ]
  simp only [Ep,DU,List.length_map,Bool.and_eq_true,decide_eq_true_eq]
  refine ⟨dT hr.1,hr.2.1,FB.2 fun x hx=>?_⟩
  obtain ⟨y,hy,rfl⟩:=List.mem_map.1 hx
  exact (ih y hy).1
 ·rw [Ie,Ie,hs,IQ]
  simp only [DU]
  rw [R8 fun x hx=>(ih x hx).2.1]
 ·rw [IV,IV,IQ]
  simp only [DU,List.length_map]
  rw [SA fun x hx=>(ih x hx).2.2.1]
 ·rw [IQ,IQ]
  simp only [Ep,DU,List.map_map,Arr.mk.injEq,true_and]
  exact List.map_congr_left fun x hx=>(ih x hx).2.2.2.1
 ·rw [BR,IQ]
  simp only [Ep,DU,List.length_map]
  refine ⟨o.1,o.2.1,o.2.2.1,fun x hx=>?_⟩
  obtain ⟨y,hy,rfl⟩:=List.mem_map.1 hx
  exact (ih y hy).2.2.2.2.2
theorem UE (n:RT) (c:Int) (b:List Arr) : tyI (.mk 1 n c b)=.mk 1 (ofQ 0) 0 []:=by simp [tyI]
theorem Ul (n:RT) (c:Int) (b:List Arr) : tyI (.mk 2 n c b)=.mk 2 (false,[],[]) 32 []:=by simp [tyI]
theorem Uq (n:RT) (c:Int) (a:Arr) : tyI (.mk 3 n c [a])=.mk 3 (false,[],[]) 0 [tyA a]:=by simp [tyI,tyBs]
theorem R0 {r:RT} (h:Jr r=true) : okI (.mk 1 r 0 []):=by
 simp [okI,okAs,h]
theorem Vz {c:Int} (h:chB c=true) : okI (.mk 2 (false,[],[]) c []):=by
 simp only [chB,Bool.and_eq_true,decide_eq_true_eq] at h
 refine ⟨by omega,rfl,by omega,by simp,trivial⟩
theorem Sj {a:Arr} (h:okAr a) : okI (.mk 3 (false,[],[]) 0 [a]):=⟨by omega,rfl,by omega,by simp,h,trivial⟩
theorem U5 {r:RT} (h:BO r=true) : rI (.mk 1 r 0 [])=true:=by simp [rI,h]
theorem V1 {c:Int} (h:chB c=true) : rI (.mk 2 (false,[],[]) c [])=true:=by simp [rI,h,ER,Itm.num]
theorem Vl {a:Arr} (h:rA a=true) (hs:AQ a=false) : rI (.mk 3 (false,[],[]) 0 [a])=true:=by simp [rI,rBs,h,hs,ER,Itm.num]
theorem VH : ∀ (k:Nat) {x:Itm},x.size<k→okI x→rI x=true→WO x
 | 0,x,h,_,_=>by omega
 | k+1,x,h,ho,hr=>by
  have hc:=J3 hr
  cases x with
  | mk kd n c b =>
   simp only [Ms,Xg,W9,VO] at hc
   unfold WO
   rcases hc with ⟨rfl,h1,rfl,rfl⟩|⟨rfl,h1,rfl,rfl⟩|⟨rfl,rfl,rfl,a,rfl,h2,h3⟩
   ·rw [UE,UE]
    exact ⟨U5 (Lf KI),rfl,rfl,rfl,rfl,R0 (I8 KI)⟩
   ·rw [Ul,Ul]
    exact ⟨V1 rfl,rfl,rfl,rfl,rfl,Vz rfl⟩
   ·have hb:a∈Itm.box (.mk 3 (false,[],[]) 0 [a]):=by simp [Itm.box]
    have hz:=IG hb
    have oa:okAr a:=((Et _).1 ho).2.2.2.2 a hb
    have h3':=h3
    rw [IX] at h3';simp only [Bool.and_eq_true] at h3'
    obtain ⟨p1,p2,p3,p4,p5,p6⟩:=XF oa h3 fun y hy=>VH k (by have:=J5 hy;omega) (((BR a).1 oa).2.2.2 y hy) (FB.1 h3'.2.2 y hy)
    rw [Uq,Uq,p4]
    refine ⟨Vl p1 (by rw [p5,h2]),?_,?_,rfl,rfl,Sj p6⟩
    ·simp only [dI,dBs,p2]
    ·simp only [cI,cBs,p3]
theorem Ra {x:Itm} (ho:okI x) (hr:rI x=true) : WO x:=VH _ (Nat.lt_succ_self _) ho hr
theorem Mu : ∀ (k:Nat) {x:Itm},x.size<k→okI x→rI x=true→Fi k x=some (tyI x)
 | 0,x,h,_,_=>by omega
 | k+1,x,h,ho,hr=>by
  have hc:=J3 hr
  cases x with
  | mk kd n c b =>
   simp only [Ms,Xg,W9,VO] at hc
   rw [Fi,Hw]
   rcases hc with ⟨rfl,h1,rfl,rfl⟩|⟨rfl,h1,rfl,rfl⟩|⟨rfl,rfl,rfl,a,rfl,h2,h3⟩
   ·rw [if_pos (Ms 1 n 0 []),UE,Sm (by omega) (by omega),oB,Rat.intCast_zero,LD (I8 KI),oB]
   ·rw [if_neg (by rw [Ms];decide),if_pos (Ms 2 _ c []),Ul];rfl
   ·have hb:a∈Itm.box (.mk 3 (false,[],[]) 0 [a]):=by simp [Itm.box]
    have hz:=IG hb
    have oa:okAr a:=((Et _).1 ho).2.2.2.2 a hb
    have h3':=h3
    rw [IX] at h3';simp only [Bool.and_eq_true] at h3'
    have o:=(BR a).1 oa
    rw [if_neg (by rw [Ms];decide),if_neg (by rw [Ms];decide),VO,Io,oB,Lj (h:=tyI) (fun y hy=>Mu k (by have:=J5 hy;omega) (o.2.2.2 y hy) (FB.1 h3'.2.2 y hy)) o.2.1 o.2.2.1,oB,Uq,IQ]
theorem PM {x:Itm} (ho:okI x) (hr:rI x=true) : KF x=some (tyI x):=Mu _ (Nat.lt_succ_self _) ho hr
theorem Lh {a:Arr} (h:rA a=true) : (szP a.shape).2=0∧(a.items.length:Int)=(if (szP a.shape).1<1 then 1 else (szP a.shape).1)∧∀ x∈a.items,rI x=true:=by
 rw [IX] at h;simp only [Bool.and_eq_true,decide_eq_true_eq] at h
 exact ⟨h.1,h.2.1,FB.1 h.2.2⟩
theorem MW {a:Arr} (ha:okAr a) : Dn a=some (if (szP a.shape).1=0∨¬A7 a then [] else a.items):=by
 have o:=(BR a).1 ha
 unfold Dn
 rw [Jd o.2.1,oB]
 by_cases h0:(szP a.shape).1=0
 ·rw [if_pos h0,if_pos (.inl h0)];rfl
 rw [if_neg h0,FD ha,oB]
 by_cases h:A7 a
 ·rw [dT h,if_neg (by rintro (q|q);exact h0 q;exact q h),Bool.not_true,oB,if_neg (by decide),IH ha];rfl
 ·rw [dF h,if_pos (.inr h)];rfl
theorem MF {a:Arr} (ha:okAr a) (hr:A7 a) : C0 a=some (if AQ a then a.items.headD default else .mk 3 (false,[],[]) 0 [a]):=by
 have o:=(BR a).1 ha
 unfold C0
 rw [FD ha,oB,dT hr,if_pos rfl,Iz,oB]
 by_cases hs:AQ a=true
 ·rw [if_pos hs,if_pos hs]
  have:=hs
  unfold AQ at this
  rw [Bool.and_eq_true] at this
  match hi:a.items,this.2 with
  | [x],_=>rw [Io,oB,Je (o.2.2.2 x (by simp [hi]))];rfl
 ·rw [if_neg hs,if_neg hs,IH ha];rfl
theorem Pm {a:Arr} (h:AQ a=true) : ∃ x,a=.mk [] [x]∧x.kind≠3:=by
 cases a with
 | mk s i =>
  unfold AQ at h
  simp only [Ep,DU,Bool.and_eq_true,List.isEmpty_iff] at h
  match i,h.2 with
  | [x],h2=>exact ⟨x,by rw [h.1],by simpa using h2⟩
theorem Wc {x:Itm} (hx:okI x) (hr:BX x) : Fl x=some (if x.kind=3 then x.box.headD default else .mk [] [x]):=by
 unfold Fl
 rw [Ks hx,oB,dT hr,if_pos rfl]
 by_cases k:x.kind=3
 ·rw [if_pos k,if_pos k]
  rcases J3 hr.1 with h|h|⟨_,_,_,a,h,_⟩
  ·omega
  ·omega
  ·rw [h,Io,oB,IH (((Et x).1 hx).2.2.2.2 a (by simp [h]))];rfl
 ·rw [if_neg k,if_neg k,Je hx];rfl
theorem NQ {xs:List Itm} {f:CE} {p:Itm→Bool} (hf:∀ x∈xs,f.g x=some (p x)) (K:Int→Option Int) (hl:xs.length≤17592186044416) : ∀ (n i k:Nat) (s:Int),n=xs.length-i→i≤xs.length→n<k →
  (Ax xs f K k s (i:Int)=K s∧(xs.drop i).any p=false)∨(∃ j:Nat,Ax xs f K k s (i:Int)=some (j:Int)∧(xs.drop i).any p=true)
 | _,_,0,_,_,_,h=>by omega
 | n,i,k+1,s,hn,hi,hk=>by
  rw [Ax]
  by_cases h:i<xs.length
  ·rw [if_pos (by omega),CD h,oB,hf _ (List.getElem_mem h),oB,lC h,List.any_cons]
   by_cases hp:p xs[i]=true
   ·rw [if_pos hp,hp];exact .inr ⟨i,rfl,rfl⟩
   ·rw [if_neg hp,Cr (by omega)]
    have:p xs[i]=false:=by simpa using hp
    rw [this,Bool.false_or]
    exact NQ hf K hl (n-1) (i+1) k s (by omega) (by omega) (by omega)
  ·rw [if_neg (by omega),List.drop_of_length_le (by omega)];exact .inl ⟨rfl,rfl⟩
theorem NI {xs:List Itm} {f:CE} {p:Itm→Bool} (hf:∀ x∈xs,f.g x=some (p x)) (hl:xs.length≤17592186044416) : AR xs f=some (xs.any p):=by
 unfold AR Bj
 rw [Cn]
 rcases NQ hf (fun _=>some (-1)) hl xs.length 0 AC 0 rfl (Nat.zero_le _) (B9 (by omega)) with ⟨h1,h2⟩|⟨j,h1,h2⟩
 ·rw [show ((0:Nat):Int)=0 from rfl] at h1
  rw [h1,oB,List.drop_zero] at *
  rw [h2];rfl
 ·rw [show ((0:Nat):Int)=0 from rfl] at h1
  rw [h1,oB]
  rw [List.drop_zero] at h2
  rw [h2,dT (by omega)]
def Er (xs:List Itm) : List Int:=xs.map fun x=>((1+cI x:Nat) : Int)
theorem S3 {x:Itm} (hx:okI x) (hr:BX x) : ∀ a∈x.box,okAr a∧A7 a∧cI x=cA a∧x.box=[a]:=fun a ha=>by
 have oa:=((Et x).1 hx).2.2.2.2 a ha
 rcases J3 hr.1 with ⟨_,_,_,h⟩|⟨_,_,_,h⟩|⟨_,_,_,b,h,h2,h3⟩
 ·rw [h] at ha;cases ha
 ·rw [h] at ha;cases ha
 ·have hb:=ha
  rw [h,List.mem_singleton] at hb
  subst hb
  have e1:cI x=cA a:=by rw [P4,h];simp [cBs]
  have e2:dI x=dA a:=by rw [QD,h];simp [dBs]
  exact ⟨oa,⟨h3,e2▸hr.2.1,e1▸hr.2.2⟩,e1,h⟩
theorem W5 {x:Itm} (hx:okI x) (hr:BX x) (K:Int→Option (Arr×Int)) : CH x K AC 1 0=K ((1+cI x:Nat) : Int):=by
 have hF:AC=999999999999998+1+1:=rfl
 rw [hF,CH]
 by_cases hb:x.box=[]
 ·rw [if_neg (by rw [hb];decide)]
  have:cI x=0:=by rw [P4,hb];rfl
  rw [this];rfl
 ·obtain ⟨a,ha⟩:=List.exists_mem_of_ne_nil _ hb
  obtain ⟨oa,ra,e1,e2⟩:=S3 hx hr a ha
  have h16:=ra.2.2
  rw [e2,if_pos (by simp),Io,oB,UY oa,oB,if_pos ra,CH,e2,if_neg (by rw [show w64 ((0:Int)+1)=1 from rfl];simp),B8 (by omega) (by omega),e1]
  congr 1
theorem Sx {xs:List Itm} (hx:∀ x∈xs,okI x∧BX x) (hl:xs.length≤1466015503701) (K:List Int→Option (Arr×Int)) : ∀ (n i k:Nat) (t:List Int),n=xs.length-i→i≤xs.length→n<k→t.length=i →
  Cf xs K k t (i:Int)=K (t++(Er xs).drop i)
 | _,_,0,_,_,_,h,_=>by omega
 | n,i,k+1,t,hn,hi,hk,ht=>by
  rw [Cf]
  have hcl:(Er xs).length=xs.length:=by simp [Er]
  by_cases h:i<xs.length
  ·obtain ⟨o,r⟩:=hx _ (List.getElem_mem h)
   have hd:(Er xs)[i]'(by omega)=((1+cI xs[i]:Nat):Int):=by simp [Er]
   rw [if_pos (by omega),Cn,CD h,oB,Cn,W5 o r,GN (by simp;omega),oB,Cr (by omega)]
   show Cf xs K k (t++[((1+cI xs[i]:Nat):Int)]) ((i+1:Nat):Int)=_
   rw [Sx hx hl K (n-1) (i+1) k _ (by omega) (by omega) (by omega) (by simp [ht]),
    lC (by omega:i<(Er xs).length),hd,List.append_assoc]
   rfl
  ·rw [if_neg (by omega),List.drop_of_length_le (by omega),List.append_nil]
def cyc (xs:List Itm) (n:Nat) : List Itm:=(List.range n).map fun i=>xs.getD (i % xs.length) default
theorem MC (xs:List Itm) (n:Nat) : cyc xs (n+1)=cyc xs n++[xs.getD (n % xs.length) default]:=by
 unfold cyc;rw [List.range_succ,List.map_append];rfl
theorem HM (xs:List Itm) (n:Nat) : (cyc xs n).length=n:=by simp [cyc]
theorem L7 (xs ys:List Itm) : cIs (xs++ys)=cIs xs+cIs ys:=by
 induction xs with
 | nil=>simp [cIs]
 | cons x xs ih=>simp only [List.cons_append,cIs,ih];omega
theorem Wy {xs:List Itm} (h:xs≠[]) {n:Nat} {x:Itm} (hx:x∈cyc xs n) : x∈xs:=by
 unfold cyc at hx
 obtain ⟨i,_,rfl⟩:=List.mem_map.1 hx
 have hp:0<xs.length:=List.length_pos_iff.2 h
 have hlt:=Nat.mod_lt i hp
 rw [lD,lG hlt]
 exact List.getElem_mem hlt
theorem X3 (xs:List Itm) {i n:Nat} (h:i≤n) : i+cIs (cyc xs i)≤n+cIs (cyc xs n):=by
 induction n with
 | zero =>
  have:i=0:=by omega
  subst this;exact Nat.le_refl _
 | succ n ih =>
  by_cases he:i=n+1
  ·subst he;exact Nat.le_refl _
  ·have:=ih (by omega)
   rw [MC,L7];omega
theorem SM {xs:List Itm} (hx:∀ x∈xs,okI x∧BX x) (hne:xs≠[]) (hl:xs.length≤1466015503701) {m:Nat} (hm:m≤4096) (x1:Int×Int) (hx1:x1.1=(m:Int)) (K:Arr→Int→List Int→List Itm→Option (Arr×Int)) (a:Arr) (b:Int) (s:List Int) (t0:List Itm) (ht0:t0.length≤1) : ∀ (n i k:Nat),n=m-i→i≤m→n<k→i+cIs (cyc xs i)≤16384 →
  Cg xs x1 (Er xs) K k a b (i:Int) ((i+cIs (cyc xs i):Nat):Int) s (t0++cyc xs i)=if m+cIs (cyc xs m)≤16384 then K a b s (t0++cyc xs m) else some (.mk [] [],8)
 | _,_,0,_,_,h,_=>by omega
 | n,i,k+1,hn,hi,hk,hc=>by
  rw [Cg]
  have hcl:(Er xs).length=xs.length:=by simp [Er]
  have hp:0<xs.length:=List.length_pos_iff.2 hne
  by_cases h:i<m
  ·have hlt:=Nat.mod_lt i hp
   have htm:Int.tmod (i:Int) ((xs.length:Nat):Int)=((i % xs.length:Nat):Int):=by
    rw [Int.tmod_eq_emod_of_nonneg (by omega)];rfl
   have hgr:Fp (((List.length xs:Nat):Int)≠0)=some ():=if_pos (by omega)
   have hd:(Er xs)[i % xs.length]'(by omega)=((1+cI xs[i % xs.length]:Nat):Int):=by simp [Er]
   obtain ⟨o,r⟩:=hx _ (List.getElem_mem hlt)
   have hg:xs.getD (i % xs.length) default=xs[i % xs.length]:=by rw [lD,lG hlt];rfl
   have hci:cI xs[i % xs.length]≤16384:=r.2.2
   have hsum:cIs (cyc xs (i+1))=cIs (cyc xs i)+cI xs[i % xs.length]:=by rw [MC,L7,hg];simp [cIs]
   rw [if_pos (by omega),hgr,oB,htm,CD (by omega:i % xs.length<(Er xs).length),oB,hd,B8 (by omega) (by omega)]
   by_cases hbig:(16384:Int)<((i+cIs (cyc xs i):Nat):Int)+((1+cI xs[i % xs.length]:Nat):Int)
   ·rw [if_pos hbig,if_neg]
    have:=X3 xs (show i+1≤m by omega)
    omega
   ·have hlen:=HM xs i
    rw [if_neg hbig,oB,CD hlt,oB,Je o,oB,GN (by simp;omega),oB,Cr (by omega)]
    have ih:=SM hx hne hl hm x1 hx1 K a b s t0 ht0 (n-1) (i+1) k (by omega) (by omega) (by omega) (by omega)
    rw [MC,hg] at ih
    rw [← ih,List.append_assoc]
    congr 1
    rw [L7];simp only [cIs];omega
  ·have:i=m:=by omega
   subst this
   rw [if_neg (by omega),if_pos hc]
def CA (n:Int) (xs:List Itm) : List Itm:=if n=0 then [tyI (xs.headD default)] else cyc xs n.toNat
theorem GV {s:List Int} {xs:List Itm} (hs:∀ z∈s,-9223372036854775808≤z∧z≤9223372036854775807) (hl:s.length≤17592186044416) (hxl:xs.length≤1466015503701) (hx:∀ x∈xs,okI x) :
  AM s xs=some (if (szP s).2≠0 then (.mk [] [],(szP s).2) else if xs=[]∨¬(∀ x∈xs,BX x) then (.mk [] [],22) else if A7 (.mk s (CA (szP s).1 xs)) then (.mk s (CA (szP s).1 xs),0) else (.mk [] [],8)):=by
 unfold AM
 rw [Jd hl,oB]
 by_cases h0:(szP s).2=0
 rotate_left
 ·rw [if_neg h0,if_pos h0]
 have h0':¬((szP s).2≠0):=fun h=>h h0
 rw [if_pos h0,if_neg h0']
 by_cases hn:xs=[]
 ·subst hn;rw [if_pos (show ((([]:List Itm).length:Nat):Int)=0 from rfl),if_pos (.inl rfl)];rfl
 have hlen:¬((xs.length:Nat):Int)=0:=by have:=List.length_pos_iff.2 hn;omega
 rw [if_neg hlen,NI (p:=fun x=>!decide (BX x)) (fun x hx'=>by
  show EP x=_
  unfold EP;rw [Ks (hx x hx'),oB]) (by omega),oB,oB]
 by_cases hr:∀ x∈xs,BX x
 rotate_left
 ·rw [if_pos (.inr hr:xs=[]∨¬∀ x∈xs,BX x),if_pos]
  rw [List.any_eq_true]
  simp only [Classical.not_forall] at hr
  obtain ⟨x,h1,h2⟩:=hr
  exact ⟨x,h1,by rw [dF h2];rfl⟩
 rw [if_neg (show ¬(xs=[]∨¬∀ x∈xs,BX x) from fun h=>h.elim hn fun h=>h hr),if_neg (by
  intro h
  rw [List.any_eq_true] at h
  obtain ⟨x,h1,h2⟩:=h
  rw [dT (hr x h1)] at h2;cases h2),Ow hl,oB,Cn]
 have hp:0<xs.length:=List.length_pos_iff.2 hn
 have hxr:∀ x∈xs,okI x∧BX x:=fun x h=>⟨hx x h,hr x h⟩
 obtain ⟨hz0,hz1⟩:=Pg s
 obtain ⟨m,hm⟩:∃ m:Nat,(szP s).1=(m:Int):=⟨(szP s).1.toNat,by omega⟩
 have hgo:∀ t0:List Itm,t0.length≤1→t0++cyc xs m=CA (szP s).1 xs→(∀ x∈CA (szP s).1 xs,okI x)→m+cIs (cyc xs m)≤cA (.mk s (CA (szP s).1 xs)) →
   Cf xs (fun z8=>jn (fun z19 z20 z21 z22=>(Bm (Arr.mk z21 z22)).bind fun x35=>if x35=true then some (Arr.mk z21 z22,0) else some (Arr.mk [] [],8)) fun K6=>Cg xs (szP s) z8 K6 AC (Arr.mk [] []) 0 0 0 s t0) AC [] 0=some (if A7 (.mk s (CA (szP s).1 xs)) then (.mk s (CA (szP s).1 xs),0) else (.mk [] [],8)):=by
  intro t0 ht0 he hok hca
  have e2:=Sx hxr hxl (fun z8=>jn (fun z19 z20 z21 z22=>(Bm (Arr.mk z21 z22)).bind fun x35=>if x35=true then some (Arr.mk z21 z22,0) else some (Arr.mk [] [],8)) fun K6=>Cg xs (szP s) z8 K6 AC (Arr.mk [] []) 0 0 0 s t0) xs.length 0 AC [] rfl (Nat.zero_le _) (B9 (by omega)) rfl
  rw [show ((0:Nat):Int)=0 from rfl] at e2
  rw [e2,List.nil_append,List.drop_zero]
  show jn _ _=_
  rw [Cn]
  have e7:=SM hxr hn hxl (show m≤4096 by omega) (szP s) hm (fun z19 z20 z21 z22=>(Bm (Arr.mk z21 z22)).bind fun x35=>if x35=true then some (Arr.mk z21 z22,0) else some (Arr.mk [] [],8)) (Arr.mk [] []) 0 s t0 ht0 m 0 AC rfl (Nat.zero_le _) (B9 (by omega)) (by show 0+0≤_;omega)
  rw [show cyc xs 0=[] from rfl,List.append_nil,show ((0:Nat):Int)=0 from rfl] at e7
  rw [show (((0+cIs []:Nat)):Int)=0 from rfl] at e7
  rw [e7,he]
  have hit:(CA (szP s).1 xs).length≤1466015503701:=by
   rw [← he,List.length_append,HM];omega
  have ho:okAr (.mk s (CA (szP s).1 xs)):=by
   rw [BR];exact ⟨hs,hl,hit,hok⟩
  rw [FD ho]
  by_cases hR:A7 (.mk s (CA (szP s).1 xs))
  ·rw [if_pos (nT hca hR.2.2),if_pos hR,dT hR];rfl
  ·rw [if_neg hR,dF hR];split<;>rfl
 by_cases hz:(szP s).1=0
 ·have hm0:m=0:=by omega
  subst hm0
  obtain ⟨y,ys,rfl⟩:=List.exists_cons_of_ne_nil hn
  have hmk:CA (szP s).1 (y::ys)=[tyI y]:=by unfold CA;rw [if_pos hz];rfl
  obtain ⟨o,r⟩:=hxr y (by simp)
  rw [if_pos hz,Io,oB,PM o r.1,oB]
  show jn _ _=_
  rw [Cn]
  refine hgo [tyI y] (by simp) (by rw [hmk];rfl) ?_ ?_
  ·rw [hmk];intro x hx';rw [List.mem_singleton] at hx';subst hx';exact (Ra o r.1).2.2.2.2.2
  ·show 0+0≤_;omega
 ·have hmk:CA (szP s).1 xs=cyc xs m:=by unfold CA;rw [if_neg hz,hm];rfl
  rw [if_neg hz]
  show jn _ _=_
  rw [Cn]
  refine hgo [] (by simp) (by rw [hmk];rfl) ?_ ?_
  ·rw [hmk];intro x hx';exact hx x (Wy hn hx')
  ·rw [hmk,IV,DU,HM];omega
def Gg (z:Int) : Prop:=-9223372036854775808≤z∧z≤9223372036854775807
def Fg (z:Int) : Itm:=.mk 1 (ofQ (z:Rat)) 0 []
theorem Hr {z:Int} (h:Gg z) : PA (z:Rat):=Um h.1 (by have:=h.2;omega)
theorem OW {z:Int} (h:Gg z) : okI (Fg z):=R0 (I8 (Hr h))
theorem GE {z:Int} (h:Gg z) : rI (Fg z)=true:=U5 (Lf (Hr h))
theorem Ht : Gg 0:=by unfold Gg;omega
theorem Sy {z:Int} (h:Gg z) {β:Type} (f:Itm→Option β) : ((D1 z).bind fun q=>(Ca q).bind f)=f (Fg z):=by
 rw [Sm h.1 h.2,oB,LD (I8 (Hr h)),oB];rfl
theorem Lz : ∀ {l:List Int},(∀ z∈l,Gg z)→GA l=some (l.map Fg)
 | [],_=>rfl
 | z::zs,h=>by
  rw [GA,Sy (h z (by simp)),Lz fun y hy=>h y (by simp [hy]),oB];rfl
theorem S1 {l:List Int} (h:∀ z∈l,Gg z) (hl:l.length≤9223372036854775806) : G0 l=some (Gw (Fg 0) (l.map Fg)):=by
 unfold G0
 rw [if_pos hl,Lz h,oB,Sy Ht]
theorem Kq {n:Nat} (h:n≤4096) : szP [(n:Int)]=((n:Int),0):=by
 unfold szP E3
 simp only [List.length_cons,List.length_nil,List.any_cons,List.any_nil,Bool.or_false,decide_eq_true_eq,List.foldl_cons,List.foldl_nil,List.mem_singleton,Int.one_mul]
 rw [if_neg (by omega),if_neg (by omega),if_neg (by omega)]
 by_cases h0:(0:Int)=n
 ·rw [if_pos h0,← h0]
 ·rw [if_neg h0,if_pos (by omega)]
theorem Kk : szP []=(1,0):=rfl
theorem MY {s:List Int} {i:List Itm} {n:Int} (hs:szP s=(n,0)) (hl:(i.length:Int)=if n<1 then 1 else n) (hi:∀ x∈i,rI x=true∧x.box=[]) : A7 (.mk s i)∧cA (.mk s i)=i.length∧dA (.mk s i)=if AQ (.mk s i) then 0 else 1:=by
 have hn:=Pg s
 rw [hs] at hn
 have hc:cIs i=0:=by
  clear hl
  induction i with
  | nil=>rfl
  | cons x xs ih=>rw [cIs,P4,(hi x (by simp)).2,ih fun y hy=>hi y (by simp [hy])];rfl
 have hd:dIs i=0:=by
  clear hl hc
  induction i with
  | nil=>rfl
  | cons x xs ih=>rw [dIs,QD,(hi x (by simp)).2,ih fun y hy=>hi y (by simp [hy])];rfl
 have hcA:cA (.mk s i)=i.length:=by rw [IV,DU,hc];rfl
 have hdA:dA (.mk s i)=if AQ (.mk s i) then 0 else 1:=by rw [Ie,DU,hd]
 refine ⟨⟨?_,?_,?_⟩,hcA,hdA⟩
 ·rw [IX,Ep,DU,hs,hl,dT rfl,dT rfl,FB.2 fun x hx=>(hi x hx).1];rfl
 ·rw [hdA];split<;>omega
 ·rw [hcA];have:(i.length:Int)≤4096:=by rw [hl];split<;>omega
  omega
theorem KQ {p:Itm} {xs:List Itm} (hp:rI p=true∧p.box=[]) (hx:∀ x∈xs,rI x=true∧x.box=[]) : A7 (Gw p xs)∧(okI p→(∀ x∈xs,okI x)→okAr (Gw p xs))∧szP (Gw p xs).shape=(((min xs.length 4096:Nat) : Int),0):=by
 have hs:szP [((min xs.length 4096:Nat):Int)]=(((min xs.length 4096:Nat):Int),0):=Kq (Nat.min_le_right _ _)
 have hmem:∀ {P:Itm→Prop},P p→(∀ x∈xs,P x)→∀ x∈(if xs.length=0 then [p] else xs.take 4096),P x:=by
  intro P h1 h2 x hx
  split at hx
  ·rw [List.mem_singleton] at hx;rw [hx];exact h1
  ·exact h2 x (List.mem_of_mem_take hx)
 have hlen:((if xs.length=0 then [p] else xs.take 4096).length:Int)=if ((min xs.length 4096:Nat):Int)<1 then 1 else ((min xs.length 4096:Nat):Int):=by
  split
  ·rename_i h0;rw [h0];rfl
  ·rename_i h0
   rw [if_neg (by omega),List.length_take];omega
 refine ⟨(MY hs hlen (hmem hp hx)).1,fun h1 h2=>?_,hs⟩
 unfold Gw
 rw [BR,Ep,DU]
 refine ⟨?_,by simp,?_,hmem h1 h2⟩
 ·intro z hz;rw [List.mem_singleton] at hz;subst hz;omega
 ·have:((if xs.length=0 then [p] else xs.take 4096).length:Int)≤4096:=by rw [hlen];split<;>omega
  omega
theorem Uu {l:List Int} (h:∀ z∈l,Gg z) : ∀ x∈l.map Fg,rI x=true∧x.box=[]:=fun x hx=>by
 obtain ⟨z,hz,rfl⟩:=List.mem_map.1 hx
 exact ⟨GE (h z hz),rfl⟩
theorem YS {l:List Int} (h:∀ z∈l,Gg z) : ∀ x∈l.map Fg,okI x:=fun x hx=>by
 obtain ⟨z,hz,rfl⟩:=List.mem_map.1 hx
 exact OW (h z hz)
def Iq (l:List Int) : Arr:=Gw (Fg 0) (l.map Fg)
theorem JF {l:List Int} (h:∀ z∈l,Gg z) : A7 (Iq l):=(KQ ⟨GE Ht,rfl⟩ (Uu h)).1
theorem OJ {l:List Int} (h:∀ z∈l,Gg z) : okAr (Iq l):=(KQ ⟨GE Ht,rfl⟩ (Uu h)).2.1 (OW Ht) (YS h)
theorem Rm {l:List Int} (h:∀ z∈l,Gg z) : Dn (Iq l)=some ((l.take 4096).map Fg):=by
 obtain ⟨h1,h2,h3⟩:=KQ ⟨GE Ht,rfl⟩ (Uu h)
 rw [MW (OJ h)]
 show some (if (szP (Gw (Fg 0) (l.map Fg)).shape).1=0∨¬A7 (Iq l) then [] else (Iq l).items)=_
 rw [h3]
 cases l with
 | nil=>rw [if_pos (.inl rfl)];rfl
 | cons z zs =>
  rw [if_neg]
  ·unfold Iq Gw;rw [DU,if_neg (by simp),List.map_take]
  ·rintro (q|q)
   ·simp only [List.length_map,List.length_cons] at q;omega
   ·exact q (JF h)
theorem RI {z:Int} (h:Gg z) : I6 (ofQ (z:Rat))=some (z,true):=by
 unfold I6
 have e:(ofQ (z:Rat)).2.1=Ak z.natAbs:=rfl
 have e1:(ofQ (z:Rat)).1=decide (z<0):=rfl
 have hw:okL 1048576 (Ak z.natAbs)=true:=QR (nT (show (Ak z.natAbs).length≤32 from (Hr h).1) (by decide))
 have hb:BE z.natAbs≤64:=EL.2 (by have:=h.1;have:=h.2;omega)
 rw [Wu (Hr h),oB,if_pos (dT (Rat.den_intCast z)),e,e1,Bi,if_pos (by rw [hw,dT rfl];rfl),if_pos hb]
 unfold NG
 obtain ⟨h1,h2⟩:=h
 by_cases hz:z<0
 ·rw [if_pos (dT hz),if_pos (by omega)]
  congr 2;omega
 ·rw [if_neg (by rw [dF hz];decide),if_pos (by omega)]
  congr 2;omega
theorem Lc : ∀ {l:List Int} {s:List Int},(∀ z∈l,Gg z)→s.length+l.length≤17592186044416→RN KU (l.map Fg) s=some (true,s++l)
 | [],s,_,_=>by simp [RN]
 | z::zs,s,h,hl=>by
  rw [List.map_cons,RN]
  unfold KU
  have e:(Fg z).num=ofQ (z:Rat):=rfl
  rw [e,RI (h z (by simp)),oB,GN (by simp at hl ⊢;omega),oB,oB]
  have hk:(true&&decide ((Fg z).kind=1))=true:=rfl
  rw [hk,if_pos rfl]
  have:=Lc (l:=zs) (s:=s++[z]) (fun y hy=>h y (by simp [hy])) (by simp at hl ⊢;omega)
  unfold KU at this
  rw [this,List.append_assoc];rfl
theorem Nw {l:List Int} (h:∀ z∈l,Gg z) : GF (Iq l)=some (l.take 4096,true):=by
 have ht:(l.take 4096).length≤4096:=by rw [List.length_take];omega
 unfold GF TT
 rw [FD (OJ h),oB,dT (JF h),if_pos rfl,if_pos (show (((Iq l).shape.length:Nat):Int)≤1 by unfold Iq Gw;rw [Ep];simp),Rm h,oB,if_pos (by rw [List.length_map];omega),
  Lc (fun z hz=>h z (List.mem_of_mem_take hz)) (by simp only [List.length_nil];omega)]
 rfl
theorem OB {x:Itm} (h:rI x=true) (hb:x.box=[]) (hk:x.kind≠3) : A7 (.mk [] [x])∧AQ (.mk [] [x])=true:=by
 refine ⟨(MY Kk rfl fun y hy=>by rw [List.mem_singleton] at hy;subst hy;exact ⟨h,hb⟩).1,?_⟩
 unfold AQ;simp [Ep,DU,hk]
theorem XN {x:Itm} (h:okI x) : okAr (.mk [] [x]):=by
 rw [BR,Ep,DU]
 exact ⟨nofun,by simp,by simp,fun y hy=>by rw [List.mem_singleton] at hy;rw [hy];exact h⟩
theorem U6 (xs:List Itm) : cyc xs xs.length=xs:=by
 apply List.ext_getElem?
 intro i
 by_cases h2:i<xs.length
 ·unfold cyc
  rw [List.getElem?_map,List.getElem?_range h2,Option.map_some,Nat.mod_eq_of_lt h2,lD,lG h2];rfl
 ·rw [List.getElem?_eq_none (by rw [HM];omega),List.getElem?_eq_none (by omega)]
theorem F5 {xs:List Itm} {n:Nat} (h:xs.length=n) (h0:n≠0) : CA ((n:Nat) : Int) xs=xs:=by
 unfold CA
 rw [if_neg (by omega),Int.toNat_natCast,← h]
 exact U6 xs
theorem GP {a:Arr} (oa:okAr a) (h:A7 a) {x:Itm} (hx:x∈a.items) : okI x∧BX x:=by
 have o:=(BR a).1 oa
 obtain ⟨h1,h2,h3⟩:=h
 have hr:=(Lh h1).2.2
 refine ⟨o.2.2.2 x hx,hr x hx,?_,?_⟩
 ·have hd:∀ {xs:List Itm},x∈xs→dI x≤dIs xs:=by
   intro xs
   induction xs with
   | nil=>intro h;cases h
   | cons y ys ih =>
    intro h
    rw [dIs]
    rcases List.mem_cons.1 h with rfl|h
    ·omega
    ·have:=ih h;omega
  have hdx:=hd hx
  rw [Ie] at h2
  by_cases hs:AQ a=true
  ·have:=(Qw hs (FB.2 hr)).1
   omega
  ·rw [if_neg hs] at h2;omega
 ·have hc:∀ {xs:List Itm},x∈xs→cI x≤cIs xs:=by
   intro xs
   induction xs with
   | nil=>intro h;cases h
   | cons y ys ih =>
    intro h
    rw [cIs]
    rcases List.mem_cons.1 h with rfl|h
    ·omega
    ·have:=ih h;omega
  have hcx:=hc hx
  rw [IV] at h3
  omega
theorem RH {a:Arr} (h:A7 a) (hs:AQ a=false) : BX (.mk 3 (false,[],[]) 0 [a]):=by
 have e1:dI (.mk 3 (false,[],[]) 0 [a])=dA a:=by simp [dI,dBs]
 have e2:cI (.mk 3 (false,[],[]) 0 [a])=cA a:=by simp [cI,cBs]
 exact ⟨Vl h.1 hs,by rw [e1];exact h.2.1,by rw [e2];exact h.2.2⟩
theorem Nx {a:Arr} (oa:okAr a) (h:A7 a) : ∃ x,C0 a=some x∧okI x∧BX x:=by
 rw [MF oa h]
 refine ⟨_,rfl,?_⟩
 by_cases hs:AQ a=true
 ·rw [if_pos hs]
  obtain ⟨x,rfl,hk⟩:=Pm hs
  exact GP oa h (by show x∈[x];simp)
 ·rw [if_neg hs]
  exact ⟨Sj oa,RH h (by simpa using hs)⟩
theorem Vn {a:Arr} (h:A7 a) : ∃ n : Nat,szP a.shape=((n:Int),0)∧a.items.length=if n=0 then 1 else n:=by
 obtain ⟨h1,h2,_⟩:=Lh h.1
 have:=Pg a.shape
 refine ⟨(szP a.shape).1.toNat,?_,?_⟩
 ·rw [← h1,Int.toNat_of_nonneg this.1]
 ·split at h2<;>split<;>omega
theorem NT {a:Arr} (h:A7 a) : 0<a.items.length:=by
 obtain ⟨n,_,hl⟩:=Vn h
 rw [hl];split<;>omega
end Go.FL
namespace Go.FL
open Go Go.RowKit
def FnN (P:Program) (f:FuncId) (args:List DV) (r:AV) : Prop :=
 ∀ (w:World) (I:Nat→Prop) (vs:List Value),(∀ b,I b→b<w.heap.size)→RepAll w I args vs →
  CallsIn (om none) 0 P f (Value.slice none 0 0::vs).toArray w fun e w'=>∃ v I' bs,e=.returned v∧Below w.heap.size w w'∧(∀ b,I b→I' b) ∧
   (∀ b,I' b→b<w'.heap.size∧(b<w.heap.size→I b))∧ARep P w' I' [] r v bs∧bs.Nodup∧∀ b∈bs,w.heap.size≤b∧b<w'.heap.size∧¬I' b
section
variable {P:Program} {H:Ad}
theorem FnR.ofFnN {f:FuncId} {xs:List DV} {r:AV} (h:FnN P f xs r) : FnR P f (.nl::xs.map .d) H fun r' H'=>r'=r∧H'=H:=by
 intro X w I μ O vs0 e1 e2 e3 e4 e5 hm ha
 have hR:∀ {xs:List DV} {vs:List Value},ARepAll P w I μ (xs.map AV.d) vs []→RepAll w I xs vs:=by
  intro xs
  induction xs with
  | nil=>intro vs h;cases h;exact .nil
  | cons x xs ih =>
   intro vs h
   generalize hbs:([]:List Nat)=bs at h
   cases h with
   | cons h t =>
    have:=hbs.symm
    rw [List.append_eq_nil_iff] at this
    rw [this.2] at t
    cases h with
    | d h=>exact .cons h (ih t)
 obtain ⟨vs,rfl,ha2⟩:∃ vs,vs0=Value.slice none 0 0::vs∧ARepAll P w I μ (xs.map AV.d) vs []:=by
  generalize hbs:([]:List Nat)=bs at ha
  cases ha with
  | cons h t =>
   have:=hbs.symm
   rw [List.append_eq_nil_iff] at this
   obtain ⟨t1,t2⟩:=this
   subst t2
   cases h
   exact ⟨_,rfl,t⟩
 refine (h w I vs hm.ilt (hR ha2)).mono ?_
 rintro e w' ⟨v,I',bs,rfl,q1,q2,q3,q4,q5,q6⟩
 let a:Act:={tmps:=#[],defers:=[]}
 have hs:Sim P {X with nt:=(0,0),dfs:=[],args:=[]} [] H a w I μ O:=⟨hm.cast rfl rfl rfl rfl rfl rfl,fun t=>.un,rfl,rfl,fun t ht=>absurd ht (by simp)⟩
 have s1:=(hs.called q1 q2 q3).newR bs fun b hb=>by
  obtain ⟨h1,h2,h3⟩:=q6 b hb
  refine ⟨h2,.inl ?_,h3,fun hk=>by have:=hs.klt b hk;have:=hs.size;omega⟩
  cases hO:O b with
  | none=>rfl
  | some l=>have:=(hs.own b l hO).1;omega
 refine ⟨v,I',μ,_,H,r,bs,rfl,(s1.toMem.relabel (toT 0) fun _=>rfl).cast rfl rfl rfl rfl rfl rfl,q4.keep (fun _ h=>h) (fun _ _=>rfl) (fun i b h=>by simp at h) fun _ _=>rfl,q5,fun b hb=>⟨0,by simp [hb,toT]⟩,rfl,rfl⟩
def Sz (P:Program) (f:FuncId) (e:TypeId) (M:Nat) : Prop:=∀ (n:Nat) (w:World),n≤M →
 Calls P f #[.slice none 0 0,.int .i64 n] w fun x w'=>(x=.returned (.slice none 0 0)∧w'=w) ∨
  (∃ (cap:Nat) (cells:Array Value),0<cap∧cap≤maxLen∧cells.size=cap * Ay P e∧x=.returned (.slice (some ⟨w.heap.size,0,none⟩) 0 cap)∧w'=w.drew.alloc (.cells cells e))
theorem FnN.grow {f e M:Nat} (hsz:0<Ay P e) (h:Sz P f e M) {n:Nat} (hn:n≤M) : FnN P f [.i .i64 n] (.own e []):=by
 intro w I vs hI ha
 have hvs:vs=[.int .i64 n]:=by
  cases ha with
  | cons h1 ha=>cases ha;cases h1;rfl
 subst hvs
 rw [WC]
 refine callsIn_wide.2 ((h n w hn).mono fun x w' hx=>?_)
 rcases hx with ⟨rfl,rfl⟩|⟨cap,cells,h0,hm,hc,rfl,rfl⟩
 ·refine ⟨_,I,[],rfl,Below.refl _ _,fun _ h=>h,fun b hb=>⟨hI b hb,fun _=>hb⟩,?_,nN,nofun⟩
  exact .own e [] (.slice none 0 0) [] hsz (.inl ⟨none,rfl,rfl,rfl⟩) (.nil _)
 ·have hlt:w.heap.size<(w.drew.alloc (.cells cells e)).heap.size:=(Array.getElem?_eq_some_iff.1 (heap_alloc_new w.drew (.cells cells e))).1
  have ho:OwnR (w.drew.alloc (.cells cells e)) e (Ay P e) (.slice (some ⟨w.heap.size,0,none⟩) 0 cap) 0 []:=by
   refine .inr ⟨⟨by simp,.inr ⟨w.heap.size,cap,cells,rfl,Nat.zero_le _,heap_alloc_new w.drew _,Nat.zero_le _,hm,hc,by simp⟩⟩,w.heap.size,cap,rfl,h0⟩
  refine ⟨_,I,[w.heap.size],rfl,?_,fun _ h=>h,fun b hb=>⟨Nat.lt_trans (hI b hb) hlt,fun _=>hb⟩,?_,by simp,fun b hb=>?_⟩
  ·exact ((Below.refl _ w).drew).alloc (Nat.le_refl _) _
  ·have:[w.heap.size]=BA (.slice (some ⟨w.heap.size,0,none⟩) 0 cap):=by simp [BA,Nat.pos_iff_ne_zero.1 h0]
   rw [this]
   exact .own e [] _ [] hsz ho (.nil _)
  ·rw [List.mem_singleton] at hb
   subst hb
   exact ⟨Nat.le_refl _,hlt,fun hi=>by have:=hI _ hi;omega⟩
theorem WT {f e M:Nat} (hsz:0<Ay P e) (h:Sz P f e M) {z:Int} (hz:0≤z∧z≤(M:Int)) : FnR P f [.nl,.d (.i .i64 z)] H fun r' H'=>r'=.own e []∧H'=H:=by
 obtain ⟨n,rfl⟩:∃ n:Nat,z=(n:Int):=⟨z.toNat,by omega⟩
 exact FnR.ofFnN (xs:=[.i .i64 (n:Int)]) (FnN.grow hsz h (by omega))
end
section
variable {P:Program} {C:Cx} {o:Oper} {ops:Array Oper} {Q:Exit→Env→Ad→Prop} {env:Env} {H:Ad} {k:Nat} {l:List Oper}
theorem OX {α:Type} {F:List α→List DV} {D:α→DV} (hset:∀ xs n x,(F xs).set n (D x)=F (xs.set n x)) {us:List α} {n m:Nat} {x:α} {y:Operand} {r ty e:Nat} {p:Pl} (hm:m=n) (hx:∃ z,(F us)[0+n]?=some z∧z.leaf=true)
  (h:RL P C ops Q (k+1) l (Gd p (.own e (F (us.set m x))) env) (Hm p (.own e (F (us.set m x))) H)) (hsz:Ay P ty=1)
  (hg:grd ops env o true=true:=by rfl) (ho:o.op=.store ty (.tmp r) y:=by rfl) (hv:get env r=.ep p (0+n) 0:=by rfl) (hp:AH env H p=.own e (F us):=by rfl) (hy:lk env y=.d (D x):=by rfl) (h1:(D x).leaf=true:=by rfl) (hd:o.dst=none:=by rfl)
  (hn:∀ id off,p=.c id off→C.n0≤id:=by (intro _ _ h;cases h<;>decide)):RL P C ops Q k (o::l) env H:=by
 subst hm
 exact ste hx (by rw [Nat.zero_add,hset];exact h) hsz hg ho hv hp hy h1 hd hn
end
end Go.FL
namespace Go.FL
open Go Go.RowKit
section
variable {P:Program} {C:Cx} {X:Snap} {o:Oper} {ops:Array Oper} {Q:Exit→Env→Ad→Prop} {env env':Env} {H H':Ad} {a:Act} {w w':World} {I I':Nat→Prop} {μ μ':List Nat} {O O':Nat→Option Loc}
 {K:Env→Ad→Prop} {k:Nat} {l:List Oper}
theorem Zc {ty:Nat} (ho:o.op=.makeMap ty none:=by rfl) : VOK P C o env H (.om [] []) :=
 .val (by simp [ho]) fun X a w I μ O _ _ _ hs =>
  ⟨.map (some w.heap.size),w.alloc (.map #[] 0),I,[w.heap.size],by simp [execOp,ho,Instr.makeMap,newObj,Sem.run],Bn _,fun b hi=>hi,fun b hi=>⟨nL (hs.ilt b hi) (Bn _).size,fun _=>hi⟩,
   ARep.om [] [] [] [] w.heap.size #[] 0 (heap_alloc_new w _) .nil .nil (List.Perm.refl _) rfl,by simp,fun b hb=>by
    simp at hb;subst hb
    exact ⟨Nat.le_refl _,by simp,fun hi=>by have:=hs.ilt _ hi;omega⟩⟩
def freshK (q:IntKind) (z:Int) (ks:List DV) : Prop:=∀ k∈ks,∃ z',k=.i q z'∧z'≠z
theorem R3 {α β:Type} : ∀ {ks:List α} {vs:List β} {x:α},ks.length=vs.length→x∈ks→∃ v,(x,v)∈ks.zip vs
 | k::ks,v::vs,x,hl,h=>by
  rcases List.mem_cons.1 h with rfl|h
  ·exact ⟨v,by simp⟩
  ·obtain ⟨u,hu⟩:=R3 (ks:=ks) (vs:=vs) (by simpa using hl) h
   exact ⟨u,by simp [hu]⟩
theorem KS {q:IntKind} {z:Int} {ty:TypeDesc} (hty:ty=.int q) : ∀ {es:List MapEntry} {ks:List DV} (n:Nat),RepAll w I ks (es.map MapEntry.key)→freshK q z ks→Instr.findNow ty (.int q z) es n=some none
 | [],_,n,_,_=>rfl
 | e::es,ks,n,hk,hf=>by
  subst hty
  cases hk with
  | @cons c _ cs _ h t =>
   obtain ⟨z',rfl,hz⟩:=hf c (by simp)
   have he:e.key=.int q z':=by
    generalize e.key=u at h
    cases h;rfl
   have hs:Instr.sameNow (.int q) (.int q z) e.key=some false:=by
    rw [he];simp [Instr.sameNow];exact fun h=>hz h.symm
   simp only [Instr.findNow,hs]
   exact KS rfl (n+1) t fun k hk=>hf k (by simp [hk])
theorem NN {q:IntKind} {z:Int} {ty:TypeDesc} (hty:ty=.int q) {d:DV} : ∀ {es:List MapEntry} {ks vs:List DV} (n:Nat),RepAll w I ks (es.map MapEntry.key)→RepAll w I vs (es.map MapEntry.val) →
  (∀ k∈ks,∃ z',k=.i q z')→(.i q z,d)∈ks.zip vs→(∀ d',(.i q z,d')∈ks.zip vs→d'=d)→∃ i v,Instr.findNow ty (.int q z) es n=some (some (i,v))∧Rep w I d v
 | [],_,_,n,hk,_,_,hm,_=>by cases hk;simp at hm
 | e::es,ks,vs,n,hk,hv,hi,hm,hu=>by
  subst hty
  cases hk with
  | @cons c _ cs _ h t =>
   cases hv with
   | @cons c2 _ cs2 _ h2 t2 =>
    obtain ⟨z',rfl⟩:=hi c (by simp)
    have he:e.key=.int q z':=by
     generalize e.key=u at h
     cases h;rfl
    by_cases hz:z=z'
    ·subst hz
     have hs:Instr.sameNow (.int q) (.int q z) e.key=some true:=by rw [he];simp [Instr.sameNow]
     refine ⟨n,e.val,by simp only [Instr.findNow,hs],?_⟩
     have:=hu c2 (by simp)
     subst this;exact h2
    ·have hs:Instr.sameNow (.int q) (.int q z) e.key=some false:=by rw [he];simp [Instr.sameNow];exact hz
     simp only [Instr.findNow,hs]
     refine NN rfl (n+1) t t2 (fun k hk=>hi k (by simp [hk])) ?_ (fun d' hd=>hu d' (by simp [hd]))
     simp only [List.zip_cons_cons,List.mem_cons,Prod.mk.injEq,DV.i.injEq,true_and] at hm
     rcases hm with ⟨h3,_⟩|hm
     ·exact absurd h3 hz
     ·exact hm
theorem Ll {kt:TypeId} {q:IntKind} {z:Int} (hk:P.underlying kt=some (.int q)) (b:Bool) (n:Nat) : (Instr.checkKey b (n+1) kt (.int q z)).run P w=.ok () w:=by
 unfold Instr.checkKey
 simp [run_underlying hk]
theorem IL {kt:TypeId} {q:IntKind} {z:Int} {es:List MapEntry} {r:Option (Nat×Value)} (hk:P.underlying kt=some (.int q)) (hf:Instr.findNow (.int q) (.int q z) es 0=some r) : (Instr.findKey kt (.int q z) es).run P w=.ok r w:=by
 simp [Instr.findKey,run_underlying hk,hf]
theorem Pq {r:Nat} {es:Array MapEntry} {c:Nat} (hh:w.heap[r]?=some (.map es c)) : (getObj r).run P w=.ok (.map es c) w:=by
 simp [getObj,Sem.run,hh]
theorem Rw {ty kt et:TypeId} {q:IntKind} {r:Nat} {es:Array MapEntry} {clock:Nat} {z:Int} {v:Value} (hu:P.underlying ty=some (.map kt et)) (hk:P.underlying kt=some (.int q)) (hh:w.heap[r]?=some (.map es clock)) (hf:Instr.findNow (.int q) (.int q z) es.toList 0=some none) :
  (Instr.mapUpdate ty (.map (some r)) (.int q z) v).run P w=.ok () {w with heap:=w.heap.setIfInBounds r (.map (es.push {key:=.int q z,val:=v,born:=clock}) (clock+1))}:=by
 have h1:=Ll (w:=w) (z:=z) hk false 9999
 have h2:=IL (w:=w) (z:=z) hk hf
 have h3:=Pq (P:=P) hh
 unfold Instr.mapUpdate
 simp only [run_underlying hu,Sem.run_bind,Result.andThen_ok,h1,h2,h3]
 simp [setObj,Sem.run,hh]
theorem MA {ty kt et:TypeId} {q:IntKind} {r:Nat} {es:Array MapEntry} {clock:Nat} {z:Int} {i:Nat} {v:Value} (hu:P.underlying ty=some (.map kt et)) (hk:P.underlying kt=some (.int q)) (hh:w.heap[r]?=some (.map es clock)) (hf:Instr.findNow (.int q) (.int q z) es.toList 0=some (some (i,v))) :
  (Instr.lookup ty (.map (some r)) (.int q z) false).run P w=.ok v w:=by
 have h1:=Ll (w:=w) (z:=z) hk es.isEmpty 9999
 have h2:=IL (w:=w) (z:=z) hk hf
 have h3:=Pq (P:=P) hh
 unfold Instr.lookup
 simp only [run_underlying hu,Sem.run_bind,Sem.run_pure,Result.andThen_ok,h1,h2,h3]
 rfl
theorem LW {ty kt et:TypeId} {q:IntKind} {r:Nat} {es:Array MapEntry} {clock:Nat} {z:Int} {v:Value} (hu:P.underlying ty=some (.map kt et)) (hk:P.underlying kt=some (.int q)) (hz:(zeroValue et).run P w=.ok v w) (hh:w.heap[r]?=some (.map es clock)) (hf:Instr.findNow (.int q) (.int q z) es.toList 0=some none) :
  (Instr.lookup ty (.map (some r)) (.int q z) false).run P w=.ok v w:=by
 have h1:=Ll (w:=w) (z:=z) hk es.isEmpty 9999
 have h2:=IL (w:=w) (z:=z) hk hf
 have h3:=Pq (P:=P) hh
 unfold Instr.lookup
 simp only [run_underlying hu,Sem.run_bind,Sem.run_pure,Result.andThen_ok,h1,h2,h3,hz]
 rfl
theorem Lm {ks vs ks' vs':List DV} (hp:(ks'.zip vs').Perm (ks.zip vs)) (hl:ks'.length=vs'.length) {k:DV} (h:k∈ks') : k∈ks:=by
 obtain ⟨v,hv⟩:=R3 hl h
 exact (List.of_mem_zip (hp.mem_iff.1 hv)).1
theorem Sim.om_inv (hs:Sim P X env H a w I μ O) {t:Nat} {ks vs:List DV} (hg:get env t=.om ks vs) :
  ∃ blk es c ks' vs',a.tmps.getD t undef=.map (some blk)∧w.heap[blk]?=some (.map es c)∧RepAll w I ks' (es.toList.map MapEntry.key)∧RepAll w I vs' (es.toList.map MapEntry.val)∧(ks'.zip vs').Perm (ks.zip vs)∧ks.length=vs.length∧O blk=some (.t t):=by
 have:=hs.envr t
 rw [hg] at this
 obtain ⟨bs,h1,h2,h3⟩:=this.plain rfl
 generalize a.tmps.getD t undef=v at h1
 cases h1 with
 | om _ _ ks' vs' blk es c hh hk hv hp hl=>exact ⟨blk,es,c,ks',vs',rfl,hh,hk,hv,hp,hl,h3 blk (by simp)⟩
theorem Sim.ins (hs:Sim P X env H a w I μ O) {t:Nat} {ks vs:List DV} (hg:get env t=.om ks vs) {ty kt et:TypeId} {q:IntKind} {z:Int} {d:DV} {v:Value} (hu:P.underlying ty=some (.map kt et)) (hk:P.underlying kt=some (.int q)) (hf:freshK q z ks) (hv:Rep w I d v) :
  ∃ w',(Instr.mapUpdate ty (a.tmps.getD t undef) (.int q z) v).run P w=.ok () w'∧Sim P X ((t,.om (ks++[.i q z]) (vs++[d]))::env) H a w' I μ O:=by
 obtain ⟨blk,es,c,ks',vs',h1,h2,h3,h4,h5,h6,hO⟩:=hs.om_inv hg
 have hl':ks'.length=vs'.length:=by rw [h3.length,h4.length,List.length_map,List.length_map]
 have hfn:=KS (q:=q) (z:=z) rfl 0 h3 fun k hk=>hf k (Lm h5 hl' hk)
 have hlt:blk<w.heap.size:=(hs.own blk _ hO).1
 refine ⟨{w with heap:=w.heap.setIfInBounds blk (.map (es.push {key:=.int q z,val:=v,born:=c}) (c+1))},by rw [h1];exact Rw hu hk h2 hfn,?_⟩
 have hoth:∀ b,b≠blk→(w.heap.setIfInBounds blk (.map (es.push {key:=.int q z,val:=v,born:=c}) (c+1)))[b]?=w.heap[b]?:=fun b hb=>by
  rw [Array.getElem?_setIfInBounds,if_neg (Ne.symm hb)]
 obtain ⟨n1,_,_⟩:=hs.other_blk hO
 refine hs.blkSet (w':={w with heap:=w.heap.setIfInBounds blk (.map (es.push {key:=.int q z,val:=v,born:=c}) (c+1))}) (av:=.om (ks++[.i q z]) (vs++[d])) hO (by rw [hg];rfl) rfl hoth (by simp) rfl rfl rfl ?_
 rw [h1]
 have hI:∀ b,I b→(w.heap.setIfInBounds blk (.map (es.push {key:=.int q z,val:=v,born:=c}) (c+1)))[b]?=w.heap[b]?:=fun b hi=>hoth b (n1 b hi)
 refine .om _ _ (ks'++[.i q z]) (vs'++[d]) blk (es.push {key:=.int q z,val:=v,born:=c}) (c+1) ?_ ?_ ?_ ?_ (by simp [h6])
 ·show (w.heap.setIfInBounds blk _)[blk]?=_
  rw [Array.getElem?_setIfInBounds,if_pos rfl,if_pos hlt]
 ·rw [Array.toList_push,List.map_append]
  exact (h3.keep hI fun _ h=>h).append (.cons (.i _ _) .nil)
 ·rw [Array.toList_push,List.map_append]
  exact (h4.keep hI fun _ h=>h).append (.cons (hv.keep hI fun _ h=>h) .nil)
 ·rw [List.zip_append hl',List.zip_append h6]
  exact List.Perm.append h5 (List.Perm.refl _)
theorem YU {m:Nat} {x y:Operand} {ty kt et:TypeId} {q:IntKind} {z:Int} {ks vs:List DV} {d:DV} (hu:P.underlying ty=some (.map kt et)) (hk:P.underlying kt=some (.int q)) (hf:freshK q z ks) (h:RL P C ops Q (k+1) l ((m,.om (ks++[.i q z]) (vs++[d]))::env) H) (hg:grd ops env o true=true:=by rfl)
  (ho:o.op=.insert ty (.tmp m) x y:=by rfl) (hm:get env m=.om ks vs:=by rfl) (hx:Bo (lk env x)=some (.i q z):=by rfl) (hy:Bo (lk env y)=some d:=by rfl) (hd:o.dst=none:=by rfl):RL P C ops Q k (o::l) env H:=by
 refine .go hg (.done (by simp [ho]) hd (fun X a w I μ O _ _ _ hs=>?_) h)
 have h1:=hs.deep (x:=x) hx
 have h2:=hs.deep (x:=y) hy
 generalize hev:a.eval x=u at h1
 cases h1
 obtain ⟨w',r1,r2⟩:=hs.ins hm hu hk hf h2
 have he:a.eval (.tmp m)=a.tmps.getD m undef:=rfl
 exact ⟨w',I,μ,O,by simp only [execOp,ho,hev,he,r1,Sem.run_bind,Result.andThen_ok,Sem.run_pure],r2⟩
theorem Gh.omf {t:Nat} {ks vs:List DV} (hg:get env t=.om ks vs) : Gh P C env H ((t,.d (.mp ks vs))::env) H:=fun X a w I μ O _ _ _ hs=>by
 obtain ⟨blk,es,c,ks',vs',h1,h2,h3,h4,h5,h6,hO⟩:=hs.om_inv hg
 obtain ⟨n1,n2,n3⟩:=hs.other_blk hO
 refine ⟨_,_,⟨hs.toMem.frz [blk] (fun b hm=>by simp at hm;subst hm;exact (hs.own b _ hO).1) (fun b hm hk=>by simp at hm;exact n2 b hk hm) H rfl ?_,fun s=>?_,hs.nt,hs.dfs⟩⟩
 ·intro id ob ho
  obtain ⟨bb,bs,k1,k2,k3,k4⟩:=hs.heap id ob ho
  refine ⟨bb,bs,k1,k2.mono fun _ h=>.inl h,fun hn=>⟨(k3 hn).1,fun b hb=>?_⟩,k4⟩
  have:b∉[blk]:=by simpa using n3 id ob bb bs ho k1 k3 k4 b hb
  simp only [this,if_false]
  exact (k3 hn).2 b hb
 ·by_cases hst:t=s
  ·subst hst
   rw [show get ((t,.d (.mp ks vs))::env) t=.d (.mp ks vs) by simp [get]]
   refine .of (bs:=[]) ?_ nN (by simp)
   rw [h1]
   exact .d (.mp ks vs ks' vs' blk es c (.inr (by simp)) h2 (h3.keep (fun _ _=>rfl) fun _ h=>.inl h) (h4.keep (fun _ _=>rfl) fun _ h=>.inl h) h5 h6)
  ·rw [show get ((t,.d (.mp ks vs))::env) s=get env s by simp [get,hst]]
   have key:∀ p e xs,AH env H p=.own e xs→AH ((t,AV.d (.mp ks vs))::env) H p=.own e xs:=by
    intro p e' xs hp
    cases p with
    | t r =>
     have hr':t≠r:=fun h=>by subst h;simp only [AH] at hp;rw [hg] at hp;cases hp
     simp only [AH,get,if_neg hr'];exact hp
    | c id off=>exact hp
   have ht:=hs.envr s
   cases hgs:get env s with
   | ref p off len =>
    rw [hgs] at ht
    obtain ⟨e',xs,A,n,c,g1,g2,g3,g4⟩:=ht
    exact ⟨e',xs,A,n,c,key p e' xs g1,g2,g3,g4⟩
   | ep p i k =>
    rw [hgs] at ht
    obtain ⟨e',xs,b,n,c,g1,g2,g3,g4,g5⟩:=ht
    exact ⟨e',xs,b,n,c,key p e' xs g1,g2,g3,g4,g5⟩
   | _ =>
    rw [hgs] at ht
    obtain ⟨bs,g1,g2,g3⟩:=ht.plain rfl
    refine .of (g1.keep (fun _ h=>.inl h) (fun _ _=>rfl) (fun _ _ h=>h) fun _ _=>rfl) g2 fun b hb=>?_
    have:b∉[blk]:=fun hm=>by
     simp at hm;subst hm
     have:=g3 b hb;rw [hO] at this;simp at this;exact hst this
    simp only [this,if_false]
    exact g3 b hb
theorem Zp {x y:Operand} {ty kt et:TypeId} {q:IntKind} {z:Int} {ks vs:List DV} {d:DV} (hu:P.underlying ty=some (.map kt et)) (hk:P.underlying kt=some (.int q)) (hi:∀ k∈ks,∃ z',k=.i q z') (hm:(.i q z,d)∈ks.zip vs) (hq:∀ d',(.i q z,d')∈ks.zip vs→d'=d)
  (ho:o.op=.lookup ty x y false:=by rfl) (hx:Bo (lk env x)=some (.mp ks vs):=by rfl) (hy:Bo (lk env y)=some (.i q z):=by rfl):VOK P C o env H (.d d) :=
 .pv ⟨by simp [ho],fun X a w I μ O _ hs=>by
  have h1:=hs.deep (x:=x) hx
  have h2:=hs.deep (x:=y) hy
  generalize hev:a.eval x=u at h1
  generalize hev2:a.eval y=u2 at h2
  cases h2
  cases h1 with
  | mp _ _ ks' vs' r es c hI hh h3 h4 hp hl =>
   have hl':ks'.length=vs'.length:=by rw [h3.length,h4.length,List.length_map,List.length_map]
   obtain ⟨i,v,e1,e2⟩:=NN (q:=q) (z:=z) (d:=d) rfl 0 h3 h4 (fun k hk=>hi k (Lm hp hl' hk)) (hp.mem_iff.2 hm) fun d' hd=>hq d' (hp.mem_iff.1 hd)
   exact ⟨v,by simp only [execOp,ho,hev,hev2,MA hu hk hh e1,Sem.run_bind,Result.andThen_ok,Sem.run_pure],.of_rep e2⟩⟩
theorem Zd {x y:Operand} {ty kt et:TypeId} {q:IntKind} {z:Int} {ks vs:List DV} {d:DV} {zv:Value} (hu:P.underlying ty=some (.map kt et)) (hk:P.underlying kt=some (.int q)) (hz:∀ w,(zeroValue et).run P w=.ok zv w) (hd:∀ w I,Rep w I d zv) (hf:freshK q z ks)
  (ho:o.op=.lookup ty x y false:=by rfl) (hx:Bo (lk env x)=some (.mp ks vs):=by rfl) (hy:Bo (lk env y)=some (.i q z):=by rfl):VOK P C o env H (.d d) :=
 .pv ⟨by simp [ho],fun X a w I μ O _ hs=>by
  have h1:=hs.deep (x:=x) hx
  have h2:=hs.deep (x:=y) hy
  generalize hev:a.eval x=u at h1
  generalize hev2:a.eval y=u2 at h2
  cases h2
  cases h1 with
  | mp _ _ ks' vs' r es c hI hh h3 h4 hp hl =>
   have hl':ks'.length=vs'.length:=by rw [h3.length,h4.length,List.length_map,List.length_map]
   have e1:=KS (q:=q) (z:=z) rfl 0 h3 fun k hk=>hf k (Lm hp hl' hk)
   exact ⟨zv,by simp only [execOp,ho,hev,hev2,LW hu hk (hz w) hh e1,Sem.run_bind,Result.andThen_ok,Sem.run_pure],.of_rep (hd w I)⟩⟩
end
end Go.FL
namespace Go.FL
open Go Go.Proofs
theorem Jx : B1 Tryz.prog 36=some true:=by kernel_rfl
theorem IM : Ay Tryz.prog 36=5:=by kernel_rfl
theorem HK : Bs Tryz.prog 36 0=some (0,1):=by kernel_rfl
theorem W6 : Da Tryz.prog 36=some [(0,1),(1,3),(4,1)]:=by kernel_rfl
theorem VE : (Tryz.prog.info? 36).bind (·.zero)=some (.agg #[.int .i64 0,.bool false,.slice none 0 0,.slice none 0 0,.int .i64 0]):=by kernel_rfl
theorem TR (w:World) (I:Nat→Prop) : RepAll w I [.i .i64 0,.b false,.sl [],.sl [],.i .i64 0] (Value.agg #[.int .i64 0,.bool false,.slice none 0 0,.slice none 0 0,.int .i64 0]).cells.toList:=.cons (.i _ _) (.cons (.b _) (.cons (.sl0 _ _) (.cons (.sl0 _ _) (.cons (.i _ _) (.nil)))))
end Go.FL
namespace Go.FL
open Go Go.RowKit
section
variable {P:Program} {C:Cx} {X:Snap} {o:Oper} {ops:Array Oper} {Q:Exit→Env→Ad→Prop} {env env':Env} {H H':Ad} {a:Act} {w w':World} {I I':Nat→Prop} {μ μ':List Nat} {O O':Nat→Option Loc}
 {K:Env→Ad→Prop} {k:Nat} {l:List Oper}
theorem Sim.frzT (hs:Sim P X env H a w I μ O) {n:Nat} {e:TypeId} {xs:List DV} (hp:get env n=.own e xs) : ∃ (bs:List Nat) (O':Nat→Option Loc),Sim P X (JI (.t n) xs env) H a w (fun b=>I b∨b∈bs) μ O':=by
 obtain ⟨v,bs,hv,hr,hb,hO⟩:=hs.at_place (p:=.t n) hp
 have hO':∀ b∈bs,O b=some (.t n):=fun b hm=>(hO b hm).2.1 n rfl
 refine ⟨bs,_,⟨hs.toMem.frz bs (fun b hm=>(hO b hm).1) (fun b hm hk=>by have:=hs.kO b hk;rw [hO' b hm] at this;cases this) H rfl ?_,hs.frz_env (p:=.t n) hp hv hr hO' (fun _ _ _ _ h=>h),hs.nt,hs.dfs⟩⟩
 intro id o ho
 obtain ⟨blk,cs,h1,h2,h3,h4⟩:=hs.heap id o ho
 refine ⟨blk,cs,h1,h2.mono fun _ h=>.inl h,fun hn=>⟨(h3 hn).1,fun b hb=>?_⟩,h4⟩
 have h5:=(h3 hn).2 b hb
 have:b∉bs:=fun hm=>by have:=hO' b hm;rw [h5] at this;simp at this
 simp [this,h5]
theorem YD {c:Call} {fo:Operand} {gv:DV} {xs xs0:List DV} {q:IntKind} {n:Int} (s:Nat) {e:TypeId} {ys:List DV} (h:FnV P gv xs (.d (.i q n))) (hp:get env s=.own e ys:=by rfl) (ho:o.op=.call c:=by rfl) (hc:c.callee=.value fo:=by rfl) (hfo:lk env fo=.d gv:=by rfl) (ha:argsD (JI (.t s) ys env) c.args.toList=some xs0:=by rfl) (hx:xs0=xs:=by simp) : VOK P C o env H (.d (.i q n)):=by
 subst hx
 obtain ⟨f,first,caps,rfl,hcall,hfn⟩:=h
 intro X a w I μ O next Q h1 h2 h3 hs hn
 have hfr0:=hs.deep (x:=fo) (v:=.fn f first caps) (by rw [hfo];rfl)
 obtain ⟨bs0,O2,hs2⟩:=hs.frzT hp
 have hfr:=hfr0.keep (w':=w) (I':=fun b=>I b∨b∈bs0) (fun _ _=>rfl) (fun _ h=>.inl h)
 generalize hev:a.eval fo=u at hfr
 cases hfr with
 | fn _ _ _ fs cs hfs hcs =>
  refine ⟨fun _ _=>trivial,?_⟩
  have hres:=Cp (P:=P) (w:=w) (ρ:=a.eval) (ty:=o.type) hc hev
  have hex:(execOp a.eval o).run P w=.ok (.enter f (fs.toArray++c.args.map a.eval++cs.toArray)) w:=by
   simp only [execOp,ho,Sem.run_bind,hres,Result.andThen_ok,invoke,hcall]
  rw [Oper.semAt_eq _ _ _ (by simp [ho]),hex,Oper.uponIn_enter]
  refine ⟨fun h=>(by simp [om] at h),?_⟩
  have hcl:=hfn w _ _ hs2.ilt ((hfs.append (hs2.argsD ha)).append hcs)
  have e:(fs++c.args.toList.map a.eval++cs).toArray=fs.toArray++c.args.map a.eval++cs.toArray:=by
   apply Array.ext';simp
  rw [e] at hcl
  refine ⟨trivial,fun csF hroom=>?_⟩
  obtain ⟨e,w',fr,⟨v,I',bs,rfl,q1,q2,q3,q4,q5,q6⟩,s,x⟩:=hcl.2 csF (room_wide _)
  have hv:∀ J:Nat→Prop,ARep P w' J μ (.d (.i q n)) v []:=by
   intro J
   cases q4 with
   | d h=>cases h;exact .d (.i _ _)
  exact ⟨.returned v,w',fr,hn v w' (fun b=>I' b∧(b<w.heap.size→I b)) [] q1 (fun b hb=>⟨q2 b (.inl hb),fun _=>hb⟩) (fun b hb=>⟨(q3 b hb.1).1,hb.2⟩) (OD (hv _) rfl) nN (by simp),s,x⟩
theorem Wo {y:Operand} {t ty:Nat} {c c':DV} (hsz:Ay P ty=1) (ho:o.op=.store ty (.tmp t) y) (hv:get env t=.nb [c]) (hy:Bo (lk env y)=some c') (h1:c'.leaf=true) (hd:o.dst=none) (hK:K ((t,.nb [c'])::env) H) : OpOK P C o env H K:=by
 refine .done (by simp [ho]) hd (fun X a w I μ O _ _ _ hs=>?_) hK
 have hr:=hs.deep (x:=y) hy
 generalize hev:a.eval y=u at hr
 obtain ⟨blk,cells,e,q1,q2,q3,q4⟩:=hs.nbSet (vs:=[u]) hv (.cons hr .nil)
 refine ⟨_,I,μ,O,?_,q4⟩
 have hone:=hr.one h1
 obtain ⟨old,hold⟩:∃ old,cells=#[old]:=by
  have hl:=q3.length
  match hc:cells.toList,hl with
  | [old],_=>exact ⟨old,by apply Array.ext';simpa using hc⟩
 subst hold
 obtain ⟨i,i1,i2⟩:=Hp (P:=P) (t:=ty) (by omega)
 have hx:a.eval (.tmp t)=.pointer (some ⟨blk,0,none⟩):=q1
 have hsi:(P.info? ty).map (·.size)=some 1:=by rw [i1];simp;omega
 simp only [execOp,ho,hx,hev,Instr.storeAt,Instr.sureAddr,Sem.run_bind,Sem.run_pure,Result.andThen_ok,Go.run_storeVar_one w blk e ty old u q2 hsi hone]
theorem S5 {y:Operand} {t ty:Nat} {c c':DV} (h:RL P C ops Q (k+1) l ((t,.nb [c'])::env) H) (hsz:Ay P ty=1) (hg:grd ops env o true=true:=by rfl) (ho:o.op=.store ty (.tmp t) y:=by rfl)
  (hv:get env t=.nb [c]:=by rfl) (hy:Bo (lk env y)=some c':=by rfl) (h1:c'.leaf=true:=by rfl) (hd:o.dst=none:=by rfl):RL P C ops Q k (o::l) env H :=
 .go hg (Wo hsz ho hv hy h1 hd h)
theorem mk' {α:Type} {F:List α→List DV} {x0:α} {x c:Operand} {ty t e by_:Nat} {z:Value} {q q':IntKind} {zl:Int} (n:Nat) (hF:List.replicate n (RR z)=F (List.replicate n x0)) (hn:zl=n) (hb:by_ * n≤281474976710656∧n≤9223372036854775807) (h:RL P C ops Q (k+1) l ((t,.own e (F (List.replicate n x0)))::env) H)
  (hT:Cz P ty=some (e,1,by_,z)) (hz:zok z=true) (hg:grd ops env o true=true:=by rfl) (ho:o.op=.makeSlice ty x c:=by rfl) (hx:lk env x=.d (.i q zl):=by rfl) (hc:lk env c=.d (.i q' zl):=by rfl) (hd:o.dst=some t:=by rfl)
  (hf:Am (get env t)=false:=by rfl) (ht:okT C.nt t:=by rfl):RL P C ops Q k (o::l) env H :=
 mk n ⟨hn,hn⟩ hb (by rw [hF];exact h) hT hz hg ho hx hc hd hf ht
end
end Go.FL
namespace Go.FL
open Go Go.RowKit
def WR (id:Nat) (cs:List DV) : AV→AV
 | .bp i off=>if i=id then .d (.ptr (cs.drop off)) else .bp i off
 | .d v=>.d v
 | .nl=>.nl
 | .own e xs=>.own e xs
 | .nb xs=>.nb xs
 | .it s p=>.it s p
 | .om k v=>.om k v
 | .ref (.t s) o n=>.ref (.t s) o n
 | .ep (.t s) i k=>.ep (.t s) i k
 | _=>.un
def Tj (id:Nat) (cs:List DV) (env:Env) : Env:=env.map fun x=>(x.1,WR id cs x.2)
theorem KA (id:Nat) (cs:List DV) (t:Nat) : ∀ env : Env,get (Tj id cs env) t=WR id cs (get env t)
 | []=>rfl
 | (s,v)::r=>by
  show (if s=t then WR id cs v else get (Tj id cs r) t)=WR id cs (if s=t then v else get r t)
  split
  ·rfl
  ·exact KA id cs t r
def SE : HO→Bool
 | .box cs=>noBpL cs
section
variable {P:Program} {C:Cx} {X:Snap} {o:Oper} {ops:Array Oper} {Q:Exit→Env→Ad→Prop} {env env':Env} {H H':Ad} {a:Act} {w w':World} {I I':Nat→Prop} {μ μ':List Nat} {O O':Nat→Option Loc}
 {K:Env→Ad→Prop} {k:Nat} {l:List Oper}
theorem ARepAll.deepAll : ∀ {cs:List DV} {vs:List Value} {bs:List Nat},ARepAll P w I μ (cs.map .d) vs bs→bs=[]∧RepAll w I cs vs
 | [],_,_,h=>by cases h;exact ⟨rfl,.nil⟩
 | c::cs,_,_,h=>by
  cases h with
  | cons h t =>
   obtain ⟨e,r⟩:=t.deepAll
   subst e
   cases h with
   | d h=>exact ⟨rfl,.cons h r⟩
theorem Gh2.pop {H0:Ad} {bx:List AV} {cs:List DV} (hH:H=H0++[.box bx]) (hb:bx=cs.map .d) (hb0:H0.all SE=true) (hne:Nat.ble C.ne H0.length=true) : Gh2 P C env H (Tj H0.length cs env) H0:=fun X a w I μ O _ h2 h3 hs=>by
 subst hH hb
 have hne':X.ne≤H0.length:=by rw [h3];exact Nat.le_of_ble_eq_true hne
 have hn0:X.n0≤H0.length:=nT hs.n0le hne'
 have hμl:μ.length=H0.length+1:=by rw [hs.μlen];simp
 obtain ⟨blk,bs,k1,⟨cells,e,m1,m2⟩,k3,_⟩:=hs.heap H0.length (.box (cs.map .d)) (by simp)
 obtain ⟨rfl,m3⟩:=m2.deepAll
 have hO:O blk=some (.o H0.length):=(k3 hn0).2 blk (by simp)
 have hKn:∀ b,X.K b→b≠blk:=fun b hk e=>by subst e;have:=hs.kO _ hk;rw [hO] at this;cases this
 have hμt:∀ i,i<H0.length→(μ.take H0.length)[i]?=μ[i]?:=fun i hi=>by rw [List.getElem?_take,if_pos hi]
 have hOn:∀ b l,O b=some l→l≠.o H0.length→(if b=blk then none else O b)=some l:=fun b l h hl=>by
  rw [if_neg fun e=>by subst e;rw [hO] at h;exact hl (oI h).symm];exact h
 refine ⟨fun b=>I b∨b=blk,μ.take H0.length,fun b=>if b=blk then none else O b,{
  prot:=hs.prot
  kO:=fun b hk=>by rw [if_neg (hKn b hk)];exact hs.kO b hk
  kI:=fun b hk hi=>hi.elim (hs.kI b hk) fun e=>absurd e (hKn b hk)
  mono:=fun b hi=>.inl (hs.mono b hi)
  os:=hs.os,tape:=hs.tape,output:=hs.output,size:=hs.size
  own:=fun b l hl=>by
   by_cases hb:b=blk
   ·rw [if_pos hb] at hl;cases hl
   ·rw [if_neg hb] at hl
    exact ⟨(hs.own b l hl).1,fun hi=>hi.elim (hs.own b l hl).2 hb⟩
  ilt:=fun b hi=>hi.elim (hs.ilt b) fun e=>by rw [e];exact (hs.own blk _ hO).1
  μlen:=by rw [List.length_take];omega
  μpre:=fun i b hi hb=>by rw [hμt i (by omega)];exact hs.μpre i b hi hb
  nle:=hne'
  heap:=fun id ob ho=>?_
  klt:=hs.klt
  n0le:=hs.n0le
  envr:=fun s=>?_
  nt:=hs.nt
  dfs:=hs.dfs}⟩
 ·have hlt:=(lS.1 ho).1
  obtain ⟨bb,bs',q1,q2,q3,q4⟩:=hs.heap id ob (by rw [List.getElem?_append_left hlt];exact ho)
  refine ⟨bb,bs',by rw [hμt id hlt];exact q1,?_,fun hn=>⟨(q3 hn).1,fun b hb=>hOn b _ ((q3 hn).2 b hb) (by simp;omega)⟩,q4⟩
  have hnb:SE ob=true:=List.all_eq_true.1 hb0 ob (List.mem_of_getElem? ho)
  cases ob with
  | box c =>
   obtain ⟨cl,et,n1,n2⟩:=q2
   exact ⟨cl,et,n1,(n2.noBp (μ':=μ.take H0.length) hnb).keep (fun _ h=>.inl h) (fun _ _=>rfl) (fun _ _ h=>h) fun _ _=>rfl⟩
 ·rw [KA]
  have ht:=hs.envr s
  have plain:∀ av,get env s=av→noBp av=true→A5 av=false→TRep P (Tj H0.length cs env) H0 a w (fun b=>I b∨b=blk) (μ.take H0.length) (fun b=>if b=blk then none else O b) s av:=by
   intro av hav hn hr
   rw [hav] at ht
   obtain ⟨bs,g1,g2,g3⟩:=ht.plain hr
   exact .of ((g1.noBp (μ':=μ.take H0.length) hn).keep (fun _ h=>.inl h) (fun _ _=>rfl) (fun _ _ h=>h) fun _ _=>rfl) g2 fun b hb=>hOn b _ (g3 b hb) (by simp)
  cases hgs:get env s with
  | bp i off =>
   rw [hgs] at ht
   obtain ⟨bs,g1,g2,g3⟩:=ht.plain rfl
   show TRep P _ _ a w _ _ _ s (if i=H0.length then .d (.ptr (cs.drop off)) else .bp i off)
   generalize hv:a.tmps.getD s undef=v at g1
   cases g1 with
   | bp _ _ blk' hb' =>
    by_cases hi:i=H0.length
    ·rw [if_pos hi]
     subst hi
     rw [k1] at hb'
     obtain rfl:=oI hb'
     refine .of (bs:=[]) ?_ nN (by simp)
     rw [hv]
     have hh:Has w blk 0 cells.toList:=fun j u hj=>by
      simp [World.cell?,m1]
      simpa using hj
     have hh2:=hh.drop off
     rw [Nat.zero_add] at hh2
     exact .d (.ptr _ blk off (cells.toList.drop off) (.inr rfl) hh2 ((m3.drop off).keep (fun _ _=>rfl) fun _ h=>.inl h))
    ·rw [if_neg hi]
     have hlt:=(lS.1 hb').1
     refine .of (bs:=[]) ?_ nN (by simp)
     rw [hv]
     exact .bp i off blk' (by rw [hμt i (by omega)];exact hb')
  | ref p off len =>
   cases p with
   | c _ _=>exact .un
   | t r =>
    rw [hgs] at ht
    obtain ⟨e',xs,A,n,c,g1,g2,g3,g4⟩:=ht
    refine ⟨e',xs,A,n,c,?_,g2,g3,g4⟩
    show get (Tj H0.length cs env) r=_
    rw [KA,show get env r=_ from g1];rfl
  | ep p i k =>
   cases p with
   | c _ _=>exact .un
   | t r =>
    rw [hgs] at ht
    obtain ⟨e',xs,b,n,c,g1,g2,g3,g4,g5⟩:=ht
    refine ⟨e',xs,b,n,c,?_,g2,g3,g4,g5⟩
    show get (Tj H0.length cs env) r=_
    rw [KA,show get env r=_ from g1];rfl
  | d v=>exact plain _ hgs rfl rfl
  | nl=>exact plain _ hgs rfl rfl
  | own e xs=>exact plain _ hgs rfl rfl
  | nb xs=>exact plain _ hgs rfl rfl
  | it s p=>exact plain _ hgs rfl rfl
  | om k v=>exact plain _ hgs rfl rfl
  | un=>exact .un
  | ag _=>exact .un
  | fn _ _ _=>exact .un
  | tup _=>exact .un
end
end Go.FL
namespace Go.FL
open Go Go.RowKit
section
variable {P:Program} {C:Cx} {X:Snap} {o:Oper} {ops:Array Oper} {Q:Exit→Env→Ad→Prop} {env env' envi:Env} {H H':Ad} {a:Act} {w w':World} {I I':Nat→Prop} {μ μ':List Nat} {O O':Nat→Option Loc}
 {K:Env→Ad→Prop} {k:Nat} {l:List Oper} {av:AV}
def Qk : Nat:=1000000000
def Zj (P:Program) (C:Cx) (ops:Array Oper) (H:Ad) (env0 vals:Env) (tm i0 ty:Nat) (q:IntKind) (i:Nat) (o:Oper) (t:Nat) (v:AV) : Option (Int×DV)→Prop
 | none=>NB P C ops H env0 vals o t v∧tm∉o.looksAt ops∧t<Qk∧(i≠i0→t≠tm)∧(i=i0→t=tm∧v=.om [] [])
 | some (z,d)=>o.dst=none∧o.guard=none∧v=.un∧t=Qk+i∧get env0 t=.un∧EU ops i i0=true∧∃ x y,o.op=.insert ty (.tmp tm) x y∧(∀ e,lk e x=.d (.i q z)) ∧
   ((∀ e,lk e y=.d d)∨∃ s,y=.tmp s∧s≠tm∧s∈o.looksAt ops∧get (Bz (o.looksAt ops) vals++env0) s=.d d)
end
end Go.FL
namespace Go.FL
open Go Go.RowKit
section
variable {P:Program} {C:Cx} {X:Snap} {o:Oper} {ops:Array Oper} {Q:Exit→Env→Ad→Prop} {env env' envi env0 vals:Env} {H H':Ad} {a:Act} {w w':World} {I I':Nat→Prop} {μ μ':List Nat} {O O':Nat→Option Loc}
 {k:Nat} {l:List Oper} {av v:AV} {t tm i0 ty n:Nat} {q:IntKind} {ps qs:List (Int×DV)}
inductive DLM (P:Program) (C:Cx) (ops:Array Oper) (H:Ad) (env0:Env) (tm i0 ty:Nat) (q:IntKind) : Nat→Env→List (Int×DV)→List Oper→Env→List (Int×DV)→Prop
 | nil (n:Nat) (vals:Env) (ps:List (Int×DV)):DLM P C ops H env0 tm i0 ty q n vals ps [] vals ps
 | run {n:Nat} {vals fin:Env} {ps qs:List (Int×DV)} {o:Oper} {t:Nat} {v:AV} {l:List Oper} (hi:n≠i0) (hd:o.dst=some t) (ht:okT C.nt t) (h0:Re (get env0 t)=true) (hn:(vals.map (·.1)).contains t=false) (hs:HR t v=true)
   (hg:grd ops (Bz (o.looksAt ops) vals++env0) o true=true) (hv:VOK P C o (Bz (o.looksAt ops) vals++env0) H v) (hr:Dd (Bz (o.looksAt ops) vals++env0)=true) (hl:(o.looksAt ops).contains tm=false) (htd:t<Qk) (htm:t≠tm)
   (h:DLM P C ops H env0 tm i0 ty q (n+1) ((t,v)::vals) ps l fin qs):DLM P C ops H env0 tm i0 ty q n vals ps (o::l) fin qs
 | mk {vals fin:Env} {ps qs:List (Int×DV)} {o:Oper} {l:List Oper} (hd:o.dst=some tm) (ht:okT C.nt tm) (h0:Re (get env0 tm)=true) (hn:(vals.map (·.1)).contains tm=false)
   (hg:grd ops (Bz (o.looksAt ops) vals++env0) o true=true) (hv:VOK P C o (Bz (o.looksAt ops) vals++env0) H (.om [] [])) (hr:Dd (Bz (o.looksAt ops) vals++env0)=true) (hl:(o.looksAt ops).contains tm=false) (htd:tm<Qk)
   (h:DLM P C ops H env0 tm i0 ty q (i0+1) ((tm,.om [] [])::vals) ps l fin qs):DLM P C ops H env0 tm i0 ty q i0 vals ps (o::l) fin qs
 | ins {n:Nat} {vals fin:Env} {ps qs:List (Int×DV)} {o:Oper} {l:List Oper} {x y:Operand} {z:Int} {d:DV} (hi:n≠i0) (hd:o.dst=none) (hgn:o.guard=none) (hop:o.op=.insert ty (.tmp tm) x y) (hx:∀ e,lk e x=.d (.i q z))
   (hy:(∀ e,lk e y=.d d)∨∃ s,y=.tmp s∧s≠tm∧s∈o.looksAt ops∧get (Bz (o.looksAt ops) vals++env0) s=.d d) (hdi:EU ops n i0=true) (h0:get env0 (Qk+n)=.un)
   (h:DLM P C ops H env0 tm i0 ty q (n+1) ((Qk+n,.un)::vals) (ps++[(z,d)]) l fin qs):DLM P C ops H env0 tm i0 ty q n vals ps (o::l) fin qs
theorem DLM.table {n:Nat} {vals fin:Env} {ps qs:List (Int×DV)} {l:List Oper} (h:DLM P C ops H env0 tm i0 ty q n vals ps l fin qs) : ∃ (tv:List (Nat×AV)) (iv:List (Option (Int×DV))),tv.length=l.length∧iv.length=l.length∧fin=tv.reverse++vals∧qs=ps++iv.filterMap id ∧
  ∀ (i:Nat) o,l[i]?=some o→∃ t v p,tv[i]?=some (t,v)∧iv[i]?=some p∧(n+i=i0→p=none)∧Zj P C ops H env0 ((tv.take i).reverse++vals) tm i0 ty q (n+i) o t v p:=by
 induction h with
 | nil n vals ps=>exact ⟨[],[],rfl,rfl,rfl,by simp,fun i o h=>by simp at h⟩
 | @run n vals fin ps qs o t v l hi hd ht h0 hn hs hg hv hr hl htd htm h ih =>
  obtain ⟨tv,iv,k1,k2,k3,k4,k5⟩:=ih
  refine ⟨(t,v)::tv,none::iv,by simp [k1],by simp [k2],by rw [k3];simp,by rw [k4];simp,fun i o' hio=>?_⟩
  cases i with
  | zero =>
   simp at hio;subst hio
   refine ⟨t,v,none,rfl,rfl,fun _=>rfl,⟨hd,ht,Mg h0,fun x hx e=>?_,hs,hr,.inl ⟨hg,hv⟩⟩,fun hm=>?_,htd,fun _=>htm,fun e=>absurd e hi⟩
   ·subst e
    have:(vals.map (·.1)).contains x.1=true:=List.contains_iff_mem.2 (List.mem_map_of_mem hx)
    rw [hn] at this;cases this
   ·have:=List.contains_iff_mem.2 hm
    rw [hl] at this;cases this
  | succ i =>
   obtain ⟨t',v',p',m1,m2,m3,m4⟩:=k5 i o' (by simpa using hio)
   have e:n+(i+1)=n+1+i:=by omega
   refine ⟨t',v',p',by simpa using m1,by simpa using m2,by rw [e];exact m3,?_⟩
   rw [e];simpa using m4
 | @mk vals fin ps qs o l hd ht h0 hn hg hv hr hl htd h ih =>
  obtain ⟨tv,iv,k1,k2,k3,k4,k5⟩:=ih
  refine ⟨(tm,.om [] [])::tv,none::iv,by simp [k1],by simp [k2],by rw [k3];simp,by rw [k4];simp,fun i o' hio=>?_⟩
  cases i with
  | zero =>
   simp at hio;subst hio
   refine ⟨tm,.om [] [],none,rfl,rfl,fun _=>rfl,⟨hd,ht,Mg h0,fun x hx e=>?_,rfl,hr,.inl ⟨hg,hv⟩⟩,fun hm=>?_,htd,fun e=>absurd rfl e,fun _=>⟨rfl,rfl⟩⟩
   ·subst e
    have:(vals.map (·.1)).contains x.1=true:=List.contains_iff_mem.2 (List.mem_map_of_mem hx)
    rw [hn] at this;cases this
   ·have:=List.contains_iff_mem.2 hm
    rw [hl] at this;cases this
  | succ i =>
   obtain ⟨t',v',p',m1,m2,m3,m4⟩:=k5 i o' (by simpa using hio)
   have e:i0+(i+1)=i0+1+i:=by omega
   refine ⟨t',v',p',by simpa using m1,by simpa using m2,by rw [e];exact m3,?_⟩
   rw [e];simpa using m4
 | @ins n vals fin ps qs o l x y z d hi hd hgn hop hx hy hdi h0 h ih =>
  obtain ⟨tv,iv,k1,k2,k3,k4,k5⟩:=ih
  refine ⟨(Qk+n,.un)::tv,some (z,d)::iv,by simp [k1],by simp [k2],by rw [k3];simp,by rw [k4];simp,fun i o' hio=>?_⟩
  cases i with
  | zero =>
   simp at hio;subst hio
   exact ⟨Qk+n,.un,some (z,d),rfl,rfl,fun e=>absurd e hi,hd,hgn,rfl,rfl,h0,hdi,x,y,hop,hx,hy⟩
  | succ i =>
   obtain ⟨t',v',p',m1,m2,m3,m4⟩:=k5 i o' (by simpa using hio)
   have e:n+(i+1)=n+1+i:=by omega
   refine ⟨t',v',p',by simpa using m1,by simpa using m2,by rw [e];exact m3,?_⟩
   rw [e];simpa using m4
end
end Go.FL
namespace Go.FL
open Go Go.Proofs
section
variable {P:Program} {C:Cx} {o:Oper} {ops:Array Oper} {Q:Exit→Env→Ad→Prop} {env:Env} {H:Ad} {k:Nat} {l:List Oper}
theorem freshK.nil {q:IntKind} {z:Int} : freshK q z []:=nofun
theorem freshK.snoc {q:IntKind} {z z':Int} {ks:List DV} (h:freshK q z ks) (hz:z'≠z) : freshK q z (ks++[.i q z']):=fun k hk=>by
 rcases List.mem_append.1 hk with h1|h1
 ·exact h k h1
 ·rw [List.mem_singleton] at h1
  exact ⟨z',h1,hz⟩
end
theorem gkR : Tryz.prog.underlying 21=some (.int .i32):=by kernel_rfl
theorem JB {n:Nat} : List.replicate n (RR (.int .i64 0))=Is (List.replicate n 0):=by simp [Is,RR]
theorem W7 (w:World) (I:Nat→Prop) : RepAll w I [.sl []] (Value.slice none 0 0).cells.toList:=.cons (.sl0 _ _) .nil
abbrev Dw : Type:=FW ((List Int)) (Int)
abbrev Rk (f:Dw) : Prop:=f.OK Tryz.prog (fun x=>[.sl (Is x)]) (fun r=>.d (.i .i64 r))
def Dp (a0:Arr) : Option (Itm):=((Bm a0).bind fun x1=>(if x1=true then ((rd? a0.items 0).bind fun x2=>((KF x2).bind fun x3=>(some (x3)))) else (some ((Itm.mk 0 (false,[],[]) 0 [])))))
theorem ID {a0:Arr} {r:Itm} (h:Dp a0=some r) :
  Fn Tryz.prog 66 [.ag [.sl (Is a0.shape),.sl (Its a0.items)]] (.d (.ag [.i .u8 r.kind,.b r.num.1,.sl (L r.num.2.1),.sl (L r.num.2.2),.i .i32 r.char,.sl (Ars r.box)])):=by
 unfold Dp at h
 refine Fn.ofC (rs:=[.cell 2 51]) (nt:=12) Tryz.func66 rfl rfl rfl (by simp) rfl ?_;refine .sr ?_;refine vk vbx ?_;refine vk (van (Ah B6) B2) ?_;refine rk [1,2] ?_;refine .seq ?_;refine .sr ?_;refine vk (Ao Ae Aa) ?_
 obtain ⟨x1,g1,h⟩:=bnd h
 refine vk (Ai (BT g1) Tryz.call54) ?_;refine vk vnt ?_;refine rk [1,2,5] ?_
 rcases brc h with ⟨hc,h⟩|⟨hc,h⟩
 ·refine cnf (ntf hc) ?_
  refine .sk ?_;refine .sr ?_;refine vk (vfa A4) ?_;refine vk (Aj BL) ?_
  obtain ⟨x2,g2,h⟩:=bnd h
  obtain ⟨n2,p02,q2⟩:=Ag g2
  refine vk (vix n2 p02 (Cw q2) rfl Cl) ?_;refine vk (Ao AP Au) ?_
  obtain ⟨x3,g3,h⟩:=bnd h
  refine vk (Ai (Lv g3) Tryz.call61) ?_
  refine stn ?_ Au (by decide)
  refine rk [2] ?_;refine .ret ?_
  cases h
  exact ⟨_,⟨.inr rfl,AP,Au,p6⟩,rfl⟩
 refine cnt (ntt (bf hc)) ?_;refine .sr ?_;refine vk (vbd HI B6 B2) ?_
 refine stn ?_ Au (by decide)
 refine rk [1,2] ?_;refine .ret ?_
 cases h
 exact ⟨_,⟨.inr rfl,AP,Au,p6⟩,rfl⟩
def BG (a0:(List Int)) (K0:(List Int)→Option ((List Int))) : Nat→(List Int)→Int→Int→Option ((List Int))
 | 0,_,_,_=>none
 | k+1,s3,s4,s5=>(if 0≤s5 then ((rd? s3 s5).bind fun x6=>((rd? a0 s5).bind fun x7=>(BG a0 K0 k (List.set s3 (Int.toNat s5) s4) (w64 (s4 * x7)) (w64 (s5-1))))) else (K0 s3))
def CI (a0:(List Int)) : Option ((List Int)):=((Fp (0≤((List.length a0:Nat) : Int)∧((List.length a0:Nat) : Int)≤17592186044416)).bind fun x1=>(jn (fun (z2:(List Int))=>(some (z2))) fun K0=>(BG a0 K0 AC (List.replicate (Int.toNat ((List.length a0:Nat) : Int)) (0:Int)) 1 (w64 (((List.length a0:Nat) : Int)-1)))))
theorem Hj {a0:(List Int)} {r:(List Int)} (h:CI a0=some r) :
  Fn Tryz.prog 218 [.sl (Is a0)] (.d (.sl (Is r))):=by
 unfold CI at h
 refine Fn.o1 2 27 Tryz.func218 ?_;refine .sr ?_;refine asn ?_;refine rk [0,2] ?_;refine .sr ?_;refine va ?_;refine vk (A0 (Af _) (Bv _) Bp) ?_
 obtain ⟨x1,g1,h⟩:=bnd h
 have ghx1:=Ey g1
 refine mk' (F:=Is) (x0:=0) (zl:=((List.length a0:Nat):Int)) (Int.toNat ((List.length a0:Nat):Int)) JB (by omega) (by omega) ?_ DE (by decide)
 refine aso ?_;refine rk [0,2,3] ?_;refine .sr ?_;refine ar [0,2,3,4] ?_;refine .seq ?_;refine .sr ?_;refine va ?_;refine vk (A0 (Af _) (Bv _) Bp) ?_;refine vb ?_;refine ar [0,2,3,4,5] ?_
 obtain ⟨K0,hK0,h⟩:=AE h
 refine AW.mr (σ:=(List Int)) (fun p=>K0 p=some r) (fun p=>[(2,.nl),(3,.own 3 (Is p))]) (fun p=>[]) ?_ ?_
 ·skip
  refine .block ?_
  refine .loop (.gk [0,2,3,4,5] ?_)
  refine AL.ind (σ:=Nat×(List Int)×Int×Int) (m:=fun p=>p.1) (e:=fun p=>[(0,.d (.sl (Is a0))),(2,.nl),(3,.own 3 (Is p.2.1)),(4,.d (.i .i64 p.2.2.1)),(5,.d (.i .i64 p.2.2.2))]) (h:=fun p=>[]) (I:=fun p=>BG a0 K0 p.1 p.2.1 p.2.2.1 p.2.2.2=some r) ?_ (AC,(List.replicate (Int.toNat ((List.length a0:Nat):Int)) (0:Int)),1,(w64 (((List.length a0:Nat):Int)-1))) h
  rintro ⟨k,s3,s4,s5⟩ h ih
  dsimp only at h ih ⊢
  rcases k with _|k
  ·rw [BG] at h;cases h
  rw [BG] at h
  refine .seq ?_;refine .sr ?_;refine va ?_;refine vb ?_;refine rk [0,2,3,4,5,13] ?_
  rcases brc h with ⟨hc,h⟩|⟨hc,h⟩
  ·refine cnt (dT hc) ?_
   refine .sk ?_;refine .seq ?_;refine .block ?_;refine .sr ?_;refine mvo ?_;refine va ?_;refine va ?_
   obtain ⟨x6,g6,h⟩:=bnd h
   obtain ⟨n6,p06,q6⟩:=Ag g6
   refine ixr (off:=0) (len:=(Is s3).length) n6 p06 (by rw [Af];exact (lS.1 q6).1) ?_ A9 (by decide)
   refine OX (F:=Is) (D:=fun x=>.i .i64 x) Fk (us:=s3) (n:=n6) (m:=Int.toNat s5) (x:=s4) (by rw [p06];rfl) ⟨_,by rw [Nat.zero_add];exact Be q6,rfl⟩ ?_ C6
   refine RL.gk [0,2,3,4,5,13,17,18] ?_;refine rk [0,2,3,4,5] ?_;refine .region ?_;refine va ?_;refine va ?_;refine va ?_
   obtain ⟨x7,g7,h⟩:=bnd h
   obtain ⟨n7,p07,q7⟩:=Ag g7
   refine vk (vix n7 p07 (Be q7) rfl A9) ?_;refine vk (Aj AF) ?_;refine vb ?_;refine asd ?_;refine .nil ?_;refine aw ?_;refine .gk [0,2,3,4,5] ?_;refine .region ?_;refine va ?_;refine vb ?_;refine asd ?_;refine .nil ?_;refine AL.gk [0,2,3,4,5] ?_
   exact ih (k,(List.set s3 (Int.toNat s5) s4),(w64 (s4 * x7)),(w64 (s5-1))) h (Nat.lt_succ_self _)
  refine cnf (dF hc) ?_;refine .gk [2,3] ?_;refine .exit ?_
  exact jr (s3) h
 rintro z2 h
 try dsimp only at h ⊢
 subst hK0
 refine aw ?_;refine .sr ?_;refine fz (p:=.t 3) ?_;refine va ?_;refine ar [2] ?_;refine .ret ?_
 cases h
 exact ⟨rfl,rfl⟩
def I0 (a0:(List Int)) (a1:(List Int)) (K0:Int→Option (Int)) : Nat→Int→Int→Option (Int)
 | 0,_,_=>none
 | k+1,s2,s3=>(if s3<((List.length a0:Nat):Int) then ((rd? a0 s3).bind fun x4=>((rd? a1 s3).bind fun x5=>(I0 a0 a1 K0 k (w64 (s2+(w64 (x4 * x5)))) (w64 (s3+1))))) else (K0 s2))
def Q4 (a0:(List Int)) (a1:(List Int)) : Option (Int):=(jn (fun (z1:Int)=>(some (z1))) fun K0=>(I0 a0 a1 K0 AC 0 0))
def CO (a1:(List Int)) (x3:(List Int)) (s8:Int) (K3:(List Int)→Option (Arr×Int)) : Nat→(List Int)→Int→Option (Arr×Int)
 | 0,_,_=>none
 | k+1,s12,s13=>(if s13<((List.length x3:Nat):Int) then ((rd? x3 s13).bind fun x14=>((Fp (x14≠0)).bind fun x15=>((rd? a1 s13).bind fun x16=>((Fp (x16≠0)).bind fun x17=>((rd? s12 s13).bind fun x18=>(CO a1 x3 s8 K3 k (List.set s12 (Int.toNat s13) (Int.tmod (w64 (Int.tdiv s8 x14)) x16)) (w64 (s13+1)))))))) else (K3 s12))
def Ck (a0:Arr) (a1:(List Int)) (a2:Dw) (x1:Int×Int) (x2:Itm) (x3:(List Int)) (K0:(List Itm)→Option (Arr×Int)) : Nat→(List Int)→(List Itm)→Int→Option (Arr×Int)
 | 0,_,_,_=>none
 | k+1,s6,s7,s8=>(if s8<x1.1 then (jn (fun (z9:(List Int)) (z10:(List Itm))=>(Ck a0 a1 a2 x1 x2 x3 K0 k z9 z10 (w64 (s8+1)))) fun K2=>(jn (fun (z11:(List Int))=>((a2.g z11).bind fun x19=>(if 0≤x19 then ((rd? a0.items x19).bind fun x20=>((ap? 1466015503701 s7 [x20]).bind fun x21=>(K2 z11 x21))) else ((ap? 1466015503701 s7 [x2]).bind fun x22=>(K2 z11 x22))))) fun K3=>(CO a1 x3 s8 K3 AC s6 0))) else (K0 s7))
def BI (a0:Arr) (a1:(List Int)) (a2:Dw) : Option (Arr×Int):=((C7 a1).bind fun x1=>(if x1.2=0 then ((Dp a0).bind fun x2=>((CI a1).bind fun x3=>((Fp (0≤((List.length a1:Nat) : Int)∧((List.length a1:Nat) : Int)≤17592186044416)).bind fun x4=>(jn (fun (z5:(List Itm))=>(jn (fun (z23:(List Itm))=>((AM a1 z23).bind fun x25=>(some (x25.1,x25.2)))) fun K5=>(if x1.1=0 then ((ap? 1466015503701 z5 [x2]).bind fun x24=>(K5 x24)) else (K5 z5)))) fun K0=>(Ck a0 a1 a2 x1 x2 x3 K0 AC (List.replicate (Int.toNat ((List.length a1:Nat) : Int)) (0:Int)) [] 0))))) else (some ((Arr.mk [] []),x1.2))))
theorem M9 {a0:Arr} {a1:(List Int)} {a2:Dw} (oa2:Rk a2) {r:Arr×Int} (h:BI a0 a1 a2=some r) :
  Fn Tryz.prog 219 [.ag [.sl (Is a0.shape),.sl (Its a0.items)],.sl (Is a1),a2.dv] (.tup [.d (.ag [.sl (Is r.1.shape),.sl (Its r.1.items)]),.d (.i .i64 r.2)]):=by
 unfold BI at h
 refine Fn.ofC (rs:=[.cell 6 27,.tmp 7]) (nt:=86) Tryz.func219 rfl rfl rfl (by simp) rfl ?_;refine .sr ?_;refine vk vbx ?_;refine vk (van (Ah AI) AK) ?_;refine ar [1,2,3,6,7] ?_;refine .sr ?_;refine va ?_
 obtain ⟨x1,g1,h⟩:=bnd h
 refine vk (VOK.tupd (vs:=[.i .i64 x1.1,.i .i64 x1.2]) (Ai (DP g1) Tryz.call56)) ?_;refine va ?_;refine vk vex ?_;refine vk vex ?_;refine asd ?_;refine ar [1,2,3,6,7,8,9] ?_;refine .seq ?_;refine .sr ?_;refine va ?_;refine vb ?_;refine rk [1,2,3,6,7,8,9,24] ?_
 rcases brc h with ⟨hc,h⟩|⟨hc,h⟩
 ·refine cnf (ntf (dT hc)) ?_
  refine .sk ?_;refine .sr ?_;refine vk (Ao Ae Aa) ?_
  obtain ⟨x2,g2,h⟩:=bnd h
  refine vk (Ai (ID g2) Tryz.call66) ?_;refine vk (van (Ah B6) B2) ?_
  refine stn ?_ Au (by decide)
  refine rk [1,2,3,6,7,8,10] ?_;refine .sr ?_;refine va ?_
  obtain ⟨x3,g3,h⟩:=bnd h
  refine vk (Ai (Hj g3) Tryz.call218) ?_;refine ar [1,2,3,6,7,8,10,11] ?_;refine .sr ?_;refine va ?_;refine vk (A0 (Af _) (Bv _) Bp) ?_
  obtain ⟨x4,g4,h⟩:=bnd h
  have ghx4:=Ey g4
  refine mk' (F:=Is) (x0:=0) (zl:=((List.length a1:Nat):Int)) (Int.toNat ((List.length a1:Nat):Int)) JB (by omega) (by omega) ?_ DE (by decide)
  refine aso ?_;refine rk [1,2,3,6,7,8,10,11,12] ?_;refine .sr ?_;refine asn ?_;refine rk [1,2,3,6,7,8,10,11,12,13] ?_;refine .seq ?_;refine .sr ?_;refine va ?_;refine va ?_;refine rk [1,2,3,6,7,8,10,11,12,13,34,35] ?_
  obtain ⟨K0,hK0,h⟩:=AE h
  refine AW.mr (σ:=(List Itm)) (fun p=>K0 p=some r) (fun p=>[(1,.d (.sl (Is a1))),(6,.nb [.sl (Is []),.sl (Its [])]),(7,.d (.i .i64 0)),(8,.d (.i .i64 x1.1)),(10,.nb [.i .u8 x2.kind,.b x2.num.1,.sl (L x2.num.2.1),.sl (L x2.num.2.2),.i .i32 x2.char,.sl (Ars x2.box)]),(13,.own 51 (Its p))]) (fun p=>[]) ?_ ?_
  ·skip
   refine .block ?_;refine .gh (Gh.nlOwn (t:=13) 51 (by rw [Le];decide) rfl) ?_
   refine .loop (.gk [1,2,3,6,7,8,10,11,12,13,34,35] ?_)
   refine AL.ind (σ:=Nat×(List Int)×(List Itm)×Int) (m:=fun p=>p.1) (e:=fun p=>[(1,.d (.sl (Is a1))),(2,.d (a2.dv)),(3,.d (.ptr [.sl (Is a0.shape),.sl (Its a0.items)])),(6,.nb [.sl (Is []),.sl (Its [])]),(7,.d (.i .i64 0)),(8,.d (.i .i64 x1.1)),(10,.nb [.i .u8 x2.kind,.b x2.num.1,.sl (L x2.num.2.1),.sl (L x2.num.2.2),.i .i32 x2.char,.sl (Ars x2.box)]),(11,.d (.sl (Is x3))),(12,.own 3 (Is p.2.1)),(13,.own 51 (Its p.2.2.1)),(34,.d (.i .i64 x1.1)),(35,.d (.i .i64 p.2.2.2))]) (h:=fun p=>[]) (I:=fun p=>Ck a0 a1 a2 x1 x2 x3 K0 p.1 p.2.1 p.2.2.1 p.2.2.2=some r) ?_ (AC,(List.replicate (Int.toNat ((List.length a1:Nat):Int)) (0:Int)),[],0) h
   rintro ⟨k,s6,s7,s8⟩ h ih
   dsimp only at h ih ⊢
   rcases k with _|k
   ·rw [Ck] at h;cases h
   rw [Ck] at h
   refine .sr ?_;refine vb ?_;refine rk [1,2,3,6,7,8,10,11,12,13,34,35,36] ?_;refine .seq ?_
   rcases brc h with ⟨hc,h⟩|⟨hc,h⟩
   ·refine cnt (dT hc) ?_
    refine .sk ?_
    obtain ⟨K2,hK2,h⟩:=AE h
    refine AW.mj (σ:=(List Int)×(List Itm)) (fun p=>K2 p.1 p.2=some r) (fun p=>[(1,.d (.sl (Is a1))),(2,.d (a2.dv)),(3,.d (.ptr [.sl (Is a0.shape),.sl (Its a0.items)])),(6,.nb [.sl (Is []),.sl (Its [])]),(7,.d (.i .i64 0)),(8,.d (.i .i64 x1.1)),(10,.nb [.i .u8 x2.kind,.b x2.num.1,.sl (L x2.num.2.1),.sl (L x2.num.2.2),.i .i32 x2.char,.sl (Ars x2.box)]),(11,.d (.sl (Is x3))),(12,.own 3 (Is p.1)),(13,.own 51 (Its p.2)),(34,.d (.i .i64 x1.1)),(35,.d (.i .i64 s8))]) (fun p=>[]) ?_ ?_
    ·skip
     refine .block ?_;refine .sr ?_;refine va ?_;refine ar [1,2,3,6,7,8,10,11,12,13,14,34,35] ?_;refine .seq ?_;refine .sr ?_;refine va ?_;refine vk (A0 (Af _) (Bv _) Bp) ?_;refine va ?_;refine rk [1,2,3,6,7,8,10,11,12,13,14,34,35,38,39,40] ?_
     obtain ⟨K3,hK3,h⟩:=AE h
     refine AW.mr (σ:=(List Int)) (fun p=>K3 p=some r) (fun p=>[(1,.d (.sl (Is a1))),(2,.d (a2.dv)),(3,.d (.ptr [.sl (Is a0.shape),.sl (Its a0.items)])),(6,.nb [.sl (Is []),.sl (Its [])]),(7,.d (.i .i64 0)),(8,.d (.i .i64 x1.1)),(10,.nb [.i .u8 x2.kind,.b x2.num.1,.sl (L x2.num.2.1),.sl (L x2.num.2.2),.i .i32 x2.char,.sl (Ars x2.box)]),(11,.d (.sl (Is x3))),(12,.own 3 (Is p)),(13,.own 51 (Its s7)),(34,.d (.i .i64 x1.1)),(35,.d (.i .i64 s8))]) (fun p=>[]) ?_ ?_
     ·skip
      refine .block ?_
      refine .loop (.gk [1,2,3,6,7,8,10,11,12,13,14,34,35,38,39,40] ?_)
      refine AL.ind (σ:=Nat×(List Int)×Int) (m:=fun p=>p.1) (e:=fun p=>[(1,.d (.sl (Is a1))),(2,.d (a2.dv)),(3,.d (.ptr [.sl (Is a0.shape),.sl (Its a0.items)])),(6,.nb [.sl (Is []),.sl (Its [])]),(7,.d (.i .i64 0)),(8,.d (.i .i64 x1.1)),(10,.nb [.i .u8 x2.kind,.b x2.num.1,.sl (L x2.num.2.1),.sl (L x2.num.2.2),.i .i32 x2.char,.sl (Ars x2.box)]),(11,.d (.sl (Is x3))),(12,.own 3 (Is p.2.1)),(13,.own 51 (Its s7)),(14,.d (.i .i64 s8)),(34,.d (.i .i64 x1.1)),(35,.d (.i .i64 s8)),(38,.d (.sl (Is x3))),(39,.d (.i .i64 ((List.length x3:Nat):Int))),(40,.d (.i .i64 p.2.2))]) (h:=fun p=>[]) (I:=fun p=>CO a1 x3 s8 K3 p.1 p.2.1 p.2.2=some r) ?_ (AC,s6,0) h
      rintro ⟨k,s12,s13⟩ h ih
      dsimp only at h ih ⊢
      rcases k with _|k
      ·rw [CO] at h;cases h
      rw [CO] at h
      refine .sr ?_;refine vb ?_;refine rk [1,2,3,6,7,8,10,11,12,13,14,34,35,38,39,40,41] ?_;refine .seq ?_
      rcases brc h with ⟨hc,h⟩|⟨hc,h⟩
      ·refine cnt (dT hc) ?_
       refine .sk ?_;refine .seq ?_;refine .block ?_;refine .sr ?_;refine va ?_
       obtain ⟨x14,g14,h⟩:=bnd h
       obtain ⟨n14,p014,q14⟩:=Ag g14
       refine vk (vix n14 p014 (Be q14) rfl A9) ?_;refine vk (Aj AF) ?_;refine asd ?_;refine ar [1,2,3,6,7,8,10,11,12,13,14,15,16,34,35,38,39,40] ?_;refine .drawn 11 A3 (by kernel_rfl) ?_;refine dv Ej ?_;refine dv Ac ?_;refine dv Ac ?_;refine dv Ac ?_
       obtain ⟨x15,g15,h⟩:=bnd h
       refine dv (Ip (Ey g15)) ?_;refine dv Ac ?_;refine dv Ac ?_
       obtain ⟨x16,g16,h⟩:=bnd h
       obtain ⟨n16,p016,q16⟩:=Ag g16
       refine dv (vix n16 p016 (Be q16) rfl A9) ?_;refine dv (Aj AF) ?_
       obtain ⟨x17,g17,h⟩:=bnd h
       refine dv (Ip (Ey g17)) ?_
       obtain ⟨x18,g18,h⟩:=bnd h
       obtain ⟨n18,p018,q18⟩:=Ag g18
       refine dv (FK (off:=0) (len:=(Is s12).length) n18 p018 (by rw [Af];exact (lS.1 q18).1) A9 (by decide)) ?_;refine dz ?_
       refine OX (F:=Is) (D:=fun x=>.i .i64 x) Fk (us:=s12) (n:=n18) (m:=Int.toNat s13) (x:=(Int.tmod (w64 (Int.tdiv s8 x14)) x16)) (by rw [p018];rfl) ⟨_,by rw [Nat.zero_add];exact Be q18,rfl⟩ ?_ C6
       refine RL.gk [1,2,3,6,7,8,10,11,12,13,14,15,16,34,35,38,39,40,46,47,48,49,50,51,52,53,54] ?_;refine .nil ?_;refine aw ?_;refine .gk [1,2,3,6,7,8,10,11,12,13,14,34,35,38,39,40] ?_;refine .region ?_;refine vb ?_;refine va ?_;refine .nil ?_;refine AL.gk [1,2,3,6,7,8,10,11,12,13,14,34,35,38,39,40] ?_
       exact ih (k,(List.set s12 (Int.toNat s13) (Int.tmod (w64 (Int.tdiv s8 x14)) x16)),(w64 (s13+1))) h (Nat.lt_succ_self _)
      refine cnf (dF hc) ?_;refine .gk [1,2,3,6,7,8,10,11,12,13,34,35] ?_;refine .exit ?_
      exact jr (s12) h
     rintro z11 h
     try dsimp only at h ⊢
     subst hK3
     refine aw ?_;refine .sr ?_;refine va ?_;refine mvo ?_
     obtain ⟨x19,g19,h⟩:=bnd h
     refine vk (YD 12 (oa2 _ _ g19)) ?_;refine ar [1,2,3,6,7,8,10,11,12,13,17,34,35] ?_;refine .sr ?_;refine va ?_;refine vb ?_;refine rk [1,2,3,6,7,8,10,11,12,13,17,34,35,61] ?_
     rcases brc h with ⟨hc,h⟩|⟨hc,h⟩
     ·refine cnt (dT hc) ?_
      refine .region ?_;refine mvo ?_;refine vk (vfa A4) ?_;refine vk (Aj BL) ?_;refine va ?_
      obtain ⟨x20,g20,h⟩:=bnd h
      obtain ⟨n20,p020,q20⟩:=Ag g20
      refine vk (vix n20 p020 (Cw q20) rfl Cl) ?_;refine vk (Ao AP Au) ?_;refine vk ((EI (EW x20) (D7 [x20]) De).deep) ?_
      obtain ⟨x21,g21,h⟩:=bnd h
      refine OO GY g21 IU ?_ Fy Az De
      refine aso ?_;refine RL.gk [1,2,3,6,7,8,10,11,12,13,34,35] ?_;refine .nil ?_
      exact jr (z11,x21) h
     refine cnf (dF hc) ?_;refine .region ?_;refine mvo ?_;refine vk (DF AP Au) ?_;refine vk ((EI (EW x2) (D7 [x2]) De).deep) ?_
     obtain ⟨x22,g22,h⟩:=bnd h
     refine OO GY g22 IU ?_ Fy Az De
     refine aso ?_;refine RL.gk [1,2,3,6,7,8,10,11,12,13,34,35] ?_;refine .nil ?_
     exact jr (z11,x22) h
    rintro ⟨z9,z10⟩ h
    try dsimp only at h ⊢
    subst hK2
    refine .region ?_;refine vb ?_;refine va ?_;refine .nil ?_;refine AL.gk [1,2,3,6,7,8,10,11,12,13,34,35] ?_
    exact ih (k,z9,z10,(w64 (s8+1))) h (Nat.lt_succ_self _)
   refine cnf (dF hc) ?_;refine .gk [1,6,7,8,10,13] ?_;refine .exit ?_
   exact jr (s7) h
  rintro z5 h
  try dsimp only at h ⊢
  subst hK0
  refine aw ?_;refine .seq ?_;refine .sr ?_;refine va ?_;refine vb ?_;refine rk [1,6,7,10,13,76] ?_
  obtain ⟨K5,hK5,h⟩:=AE h
  refine AW.mr (σ:=(List Itm)) (fun p=>K5 p=some r) (fun p=>[(1,.d (.sl (Is a1))),(6,.nb [.sl (Is []),.sl (Its [])]),(7,.d (.i .i64 0)),(13,.own 51 (Its p))]) (fun p=>[]) ?_ ?_
  ·skip
   rcases brc h with ⟨hc,h⟩|⟨hc,h⟩
   ·refine cnt (dT hc) ?_
    refine .region ?_;refine mvo ?_;refine vk (DF AP Au) ?_;refine vk ((EI (EW x2) (D7 [x2]) De).deep) ?_
    obtain ⟨x24,g24,h⟩:=bnd h
    refine OO GY g24 IU ?_ Fy Az De
    refine aso ?_;refine RL.gk [1,6,7,13] ?_;refine .nil ?_
    exact jr (x24) h
   refine cnf (dF hc) ?_;refine .gk [1,6,7,13] ?_;refine .skip ?_
   exact jr (z5) h
  rintro z23 h
  try dsimp only at h ⊢
  subst hK5
  refine aw ?_;refine .sr ?_;refine va ?_;refine fz (p:=.t 13) ?_;refine va ?_
  obtain ⟨x25,g25,h⟩:=bnd h
  refine vk (VOK.tupd (vs:=[.ag [.sl (Is x25.1.shape),.sl (Its x25.1.items)],.i .i64 x25.2]) (Ai (DO g25) Tryz.call18)) ?_;refine vk vex ?_;refine vk vex ?_
  refine stn ?_ Aa (by decide)
  refine ar [6,7] ?_;refine .ret ?_
  cases h
  exact ⟨_,_,⟨.inr rfl,Ae,Aa,p2⟩,rfl,rfl⟩
 refine cnt (ntt (dF hc)) ?_;refine .sr ?_;refine vk (vbd BW AI AK) ?_;refine va ?_
 refine stn ?_ Aa (by decide)
 refine ar [1,2,3,6,7,8] ?_;refine .ret ?_
 cases h
 exact ⟨_,_,⟨.inr rfl,Ae,Aa,p2⟩,rfl,rfl⟩
def JJ : List Int→List Int×Int
 | []=>([],1)
 | x::xs=>((JJ xs).2::(JJ xs).1,w64 ((JJ xs).2 * x))
theorem Kh {a:List Int} (hl:a.length≤17592186044416) (K:List Int→Option (List Int)) : ∀ (i k:Nat),i≤a.length→i<k →
  BG a K k (List.replicate i 0++(JJ (a.drop i)).1) (JJ (a.drop i)).2 ((i:Int)-1)=K (JJ a).1
 | _,0,_,h=>by omega
 | 0,k+1,_,_=>by rw [BG,if_neg (by omega)];rfl
 | i+1,k+1,hi,hk=>by
  have hlt:i<a.length:=by omega
  rw [BG,if_pos (by omega)]
  have e0:((i+1:Nat):Int)-1=(i:Int):=by omega
  have e1:List.replicate (i+1) (0:Int)++(JJ (a.drop (i+1))).1=List.replicate i 0++0::(JJ (a.drop (i+1))).1:=by
   rw [List.replicate_succ',List.append_assoc];rfl
  rw [e0,e1,CD (by simp),oB,CD hlt,oB,Int.toNat_natCast,List.set_append_right _ _ (by simp),List.length_replicate,Nat.sub_self,List.set_cons_zero,show w64 ((i:Int)-1)=(i:Int)-1 from B8 (by omega) (by omega)]
  have e2:a.drop i=a[i]::a.drop (i+1):=lC hlt
  have ih:=Kh hl K i k (by omega) (by omega)
  rw [e2] at ih
  exact ih
theorem HC {a:List Int} (hl:a.length≤17592186044416) : CI a=some (JJ a).1:=by
 unfold CI
 have hg:Fp (0≤((List.length a:Nat):Int)∧((List.length a:Nat):Int)≤17592186044416)=some ():=if_pos (by omega)
 rw [hg,oB,Cn]
 have:=Kh hl (fun z=>some z) a.length AC (Nat.le_refl _) (B9 (by omega))
 rw [List.drop_of_length_le (Nat.le_refl _)] at this
 rw [Int.toNat_natCast,B8 (by omega) (by omega)]
 rw [show (JJ []).1=[] from rfl,List.append_nil] at this
 exact this
def pr : List Nat→Nat
 | []=>1
 | x::xs=>x * pr xs
def stN : List Nat→List Nat
 | []=>[]
 | _::xs=>pr xs::stN xs
def atN : List Nat→Nat→List Nat
 | [],_=>[]
 | x::xs,i=>(i / pr xs % x)::atN xs i
theorem Rl : ∀ {t:List Nat},(∀ x∈t,0<x)→0<pr t
 | [],_=>Nat.one_pos
 | x::xs,h=>Nat.mul_pos (h x (by simp)) (Rl fun y hy=>h y (by simp [hy]))
theorem HU (t:List Nat) (i:Nat) : (atN t i).length=t.length:=by
 induction t with
 | nil=>rfl
 | cons x xs ih=>rw [atN,List.length_cons,List.length_cons,ih]
theorem HZ (t:List Nat) : (stN t).length=t.length:=by
 induction t with
 | nil=>rfl
 | cons x xs ih=>rw [stN,List.length_cons,List.length_cons,ih]
def up_ (t:List Nat) : List Int:=t.map fun n : Nat=>((n:Nat) : Int)
theorem Ec (t:List Nat) : (up_ t).length=t.length:=by simp [up_]
theorem PI : ∀ t : List Nat,E3 (up_ t)=(pr t:Int)
 | []=>rfl
 | x::xs=>by
  have e:E3 (up_ (x::xs))=(x:Int) * E3 (up_ xs):=by
   show E3 ((x:Int)::up_ xs)=_
   unfold E3;rw [List.foldl_cons,KW,Int.one_mul]
  rw [e,PI xs,pr]
  exact (Int.natCast_mul _ _).symm
theorem Ru {t:List Nat} (h8:t.length≤8) (h:∀ x∈t,0<x∧x≤4096) (hp:pr t≤4096) : szP (up_ t)=((pr t:Int),0):=by
 have hm:∀ x∈up_ t,1≤x∧x≤4096:=fun x hx=>by
  obtain ⟨y,hy,rfl⟩:=List.mem_map.1 hx
  have:=h y hy;omega
 unfold szP
 rw [if_neg (by rw [Ec];omega),if_neg,if_neg,if_neg,PI,if_pos (by omega)]
 ·intro h0;have:=hm 0 h0;omega
 ·simp only [List.any_eq_true,decide_eq_true_eq,not_exists,not_and]
  intro x hx;have:=hm x hx;omega
 ·simp only [List.any_eq_true,decide_eq_true_eq,not_exists,not_and]
  intro x hx;have:=hm x hx;omega
theorem Sc : ∀ {t:List Nat},pr t≤4096→(∀ x∈t,0<x)→JJ (up_ t)=(up_ (stN t),(pr t:Int))
 | [],_,_=>rfl
 | x::xs,h,hp=>by
  have hx:=hp x (by simp)
  have h1:pr xs≤pr (x::xs):=by
   show pr xs≤x * pr xs
   exact Nat.le_mul_of_pos_left _ hx
  have ih:=Sc (t:=xs) (by omega) fun y hy=>hp y (by simp [hy])
  show ((JJ (up_ xs)).2::(JJ (up_ xs)).1,w64 ((JJ (up_ xs)).2 * (x:Int)))=_
  rw [ih]
  have e:(pr xs:Int) * (x:Int)=(pr (x::xs):Int):=by
   rw [← Int.natCast_mul,Nat.mul_comm];rfl
  show ((pr xs:Int)::up_ (stN xs),w64 ((pr xs:Int) * (x:Int)))=_
  rw [e,B8 (by omega) (by omega)]
  rfl
theorem SB : ∀ {t:List Nat},(∀ x∈t,0<x)→∀ y∈stN t,0<y
 | x::xs,h,y,hy=>by
  have hp:=Rl fun z hz=>h z (List.mem_cons_of_mem x hz)
  rcases List.mem_cons.1 hy with rfl|hy
  ·exact hp
  ·exact SB (fun z hz=>h z (List.mem_cons_of_mem _ hz)) y hy
theorem Un {t:List Nat} {i:Nat} (h:i<t.length) : (up_ t)[i]'(by rw [Ec];exact h)=(t[i] : Int):=by simp [up_]
theorem Xh {t:List Nat} {i:Nat} (h:i<t.length) : rd? (up_ t) (i:Int)=some (t[i] : Int):=by
 rw [CD (by rw [Ec];exact h),Un h]
theorem P1 {a:Arr} (oa:okAr a) (ra:A7 a) : Dp a=some (tyI (a.items.headD default)):=by
 have hp:=NT ra
 unfold Dp
 rw [FD oa,oB,dT ra,if_pos rfl]
 cases hi:a.items with
 | nil=>rw [hi] at hp;simp at hp
 | cons x xs =>
  obtain ⟨ox,rx⟩:=GP oa ra (x:=x) (by rw [hi];simp)
  rw [Io,oB,PM ox rx.1];rfl
theorem RZ : ∀ (t:List Nat) (i j:Nat) (h:j<t.length),(atN t i)[j]'(by rw [HU];exact h)=i / (stN t)[j]'(by rw [HZ];exact h) % t[j]
 | x::xs,i,0,_=>rfl
 | x::xs,i,j+1,h=>RZ xs i j (by simpa using h)
 | [],_,_,h=>by simp at h
theorem T9 {α:Type} {L r:List α} {j:Nat} (hl:L.length=r.length) (h:j<L.length) : (L.take j++r.drop j).set j L[j]=L.take (j+1)++r.drop (j+1):=by
 have hj:(L.take j).length=j:=by rw [List.length_take];omega
 have e:r.drop j=r[j]'(by omega)::r.drop (j+1):=lC (by omega)
 rw [e,List.set_append_right _ _ (by omega),hj,Nat.sub_self,List.set_cons_zero,List.take_succ_eq_append_getElem h,List.append_assoc]
 rfl
theorem Qm {t:List Nat} (ht:∀ x∈t,0<x∧x≤4096) (h8:t.length≤8) {i:Nat} (hi:i≤4096) (K:List Int→Option (Arr×Int)) {r:List Int} (hr:r.length=t.length) : ∀ (n j k:Nat),n=t.length-j→j≤t.length→n<k →
  CO (up_ t) (up_ (stN t)) (i:Int) K k ((up_ (atN t i)).take j++r.drop j) (j:Int)=K (up_ (atN t i))
 | _,_,0,_,_,h=>by omega
 | n,j,k+1,hn,hj,hk=>by
  have hlen:(up_ (atN t i)).length=t.length:=by rw [Ec,HU]
  rw [CO]
  by_cases h:j<t.length
  ·have hs:j<(stN t).length:=by rw [HZ];exact h
   have hsp:=SB (fun x hx=>(ht x hx).1) _ (List.getElem_mem hs)
   have htp:=(ht _ (List.getElem_mem h)).1
   have hcur:j<((up_ (atN t i)).take j++r.drop j).length:=by rw [List.length_append,List.length_take,List.length_drop];omega
   have g1:Fp (((stN t)[j]:Int)≠0)=some ():=if_pos (by omega)
   have g2:Fp ((t[j]:Int)≠0)=some ():=if_pos (by omega)
   have e1:Int.tdiv (i:Int) ((stN t)[j]:Int)=((i / (stN t)[j]:Nat):Int):=rfl
   have hd:i / (stN t)[j]≤i:=Nat.div_le_self _ _
   have hw:w64 ((i / (stN t)[j]:Nat):Int)=((i / (stN t)[j]:Nat):Int):=by
    generalize i / (stN t)[j]=d at hd ⊢
    exact B8 (by omega) (by omega)
   have e2:Int.tmod ((i / (stN t)[j]:Nat):Int) (t[j]:Int)=((i / (stN t)[j] % t[j]:Nat):Int):=rfl
   have e3:((i / (stN t)[j] % t[j]:Nat):Int)=(up_ (atN t i))[j]'(by rw [hlen];exact h):=by
    rw [Un (by rw [HU];exact h),RZ t i j h]
   rw [if_pos (by rw [Ec,HZ];omega),Xh hs,oB,g1,oB,Xh h,oB,g2,oB,CD hcur,oB,e1,hw,e2,e3,Int.toNat_natCast,Cr (by omega),
    T9 (by rw [hlen,hr]) (by rw [hlen];exact h),Qm ht h8 hi K hr (n-1) (j+1) k (by omega) (by omega) (by omega)]
  ·rw [if_neg (by rw [Ec,HZ];omega),List.take_of_length_le (by omega),List.drop_of_length_le (by omega),List.append_nil]
def KK (a:Arr) (p:Itm) (j:Int) : Itm:=if 0≤j then a.items.getD j.toNat default else p
theorem My {a:Arr} {t:List Nat} {F:Dw} {p:Itm} {J:Nat→Int} (ht:∀ x∈t,0<x∧x≤4096) (h8:t.length≤8) (hn:pr t≤4096) (hF:∀ i,i<pr t→F.g (up_ (atN t i))=some (J i)∧J i<(a.items.length:Int)) {x1:Int×Int} (hx1:x1.1=(pr t:Int)) (K:List Itm→Option (Arr×Int)) : ∀ (n i k:Nat) (r:List Int),n=pr t-i→i≤pr t→n<k→r.length=t.length →
  Ck a (up_ t) F x1 p (up_ (stN t)) K k r (((List.range (pr t)).map fun i=>KK a p (J i)).take i) (i:Int)=K ((List.range (pr t)).map fun i=>KK a p (J i))
 | _,_,0,_,_,_,h,_=>by omega
 | n,i,k+1,r,hn',hi,hk,hr=>by
  have hlen:((List.range (pr t)).map fun i=>KK a p (J i)).length=pr t:=by simp
  rw [Ck]
  by_cases h:i<pr t
  ·have hb:=fun K=>Qm ht h8 (i:=i) (by omega) K hr t.length 0 AC rfl (Nat.zero_le _) (B9 (by omega))
   rw [List.take_zero,List.nil_append,List.drop_zero,show ((0:Nat):Int)=0 from rfl] at hb
   obtain ⟨f1,f2⟩:=hF i h
   have hg:((List.range (pr t)).map fun i=>KK a p (J i))[i]'(by rw [hlen];exact h)=KK a p (J i):=by simp
   have ih:=My (p:=p) ht h8 hn hF hx1 K (n-1) (i+1) k (up_ (atN t i)) (by omega) (by omega) (by omega) (by rw [Ec,HU])
   rw [List.take_succ_eq_append_getElem (by rw [hlen];exact h),hg] at ih
   have hcap:(((List.range (pr t)).map fun i=>KK a p (J i)).take i).length+1≤1466015503701:=by rw [List.length_take];omega
   rw [if_pos (by omega),Cn,Cn,hb,f1,oB]
   by_cases h0:0≤J i
   ·have hj:(J i).toNat<a.items.length:=by omega
    have e:rd? a.items (J i)=some (a.items.getD (J i).toNat default):=by
     unfold rd?
     rw [if_pos h0,lD,lG hj];rfl
    have ep:KK a p (J i)=a.items.getD (J i).toNat default:=if_pos h0
    rw [if_pos h0,e,oB,GN (by simpa using hcap),oB,Cr (by omega),← ep]
    exact ih
   ·have ep:KK a p (J i)=p:=if_neg h0
    rw [if_neg h0,GN (by simpa using hcap),oB,Cr (by omega)]
    rw [ep] at ih
    exact ih
  ·rw [if_neg (by omega),List.take_of_length_le (by omega)]
theorem S9 {a:Arr} {t:List Nat} {F:Dw} {p:Itm} {J:Nat→Int} (hp:Dp a=some p) (ht:∀ x∈t,0<x∧x≤4096) (h8:t.length≤8) (hn:pr t≤4096) (hF:∀ i,i<pr t→F.g (up_ (atN t i))=some (J i)∧J i<(a.items.length:Int)) :
  BI a (up_ t) F=AM (up_ t) ((List.range (pr t)).map fun i=>KK a p (J i)):=by
 have hpp:=Rl fun x hx=>(ht x hx).1
 have hl:(up_ t).length≤17592186044416:=by rw [Ec];omega
 have hg:Fp (0≤((List.length (up_ t):Nat):Int)∧((List.length (up_ t):Nat):Int)≤17592186044416)=some ():=if_pos (by omega)
 unfold BI
 rw [Jd hl,oB,Ru h8 ht hn,if_pos rfl,hp,oB,HC hl,oB,hg,oB,Cn,Sc hn fun x hx=>(ht x hx).1]
 have:=fun K=>My (p:=p) ht h8 hn hF (x1:=((pr t:Int),0)) rfl K (pr t) 0 AC (List.replicate (Int.toNat ((List.length (up_ t):Nat):Int)) 0) rfl (Nat.zero_le _) (B9 (by omega)) (by simp [Ec])
 rw [List.take_zero,show ((0:Nat):Int)=0 from rfl] at this
 rw [this,Cn,if_neg (by show ¬((pr t:Int)=0);omega)]
 show ((AM (up_ t) ((List.range (pr t)).map fun i=>KK a p (J i))).bind fun x25=>some (x25.1,x25.2))=_
 generalize AM _ _=m
 cases m<;>rfl
theorem Ni {a:Arr} {s:List Int} {F:Dw} {p:Itm} (hp:Dp a=some p) (hl:s.length≤17592186044416) (hs:szP s=(0,0)) : BI a s F=AM s [p]:=by
 have hg:Fp (0≤((List.length s:Nat):Int)∧((List.length s:Nat):Int)≤17592186044416)=some ():=if_pos (by omega)
 have hF:AC=999999999999999+1:=rfl
 unfold BI
 rw [Jd hl,oB,hs,if_pos rfl,hp,oB,HC hl,oB,hg,oB,Cn,hF,Ck,if_neg (by decide),Cn,if_pos rfl,GN (by simp),oB]
 show ((AM s [p]).bind fun x25=>some (x25.1,x25.2))=_
 generalize AM _ _=m
 cases m<;>rfl
theorem Uc {xs:List Itm} {d:Nat} (h:∀ x∈xs,dI x≤d) : dIs xs≤d:=by
 induction xs with
 | nil=>exact Nat.zero_le _
 | cons x xs ih =>
  rw [dIs]
  have h1:=h x (by simp)
  have h2:=ih fun y hy=>h y (by simp [hy])
  omega
theorem Gk {x:Itm} : ∀ {xs:List Itm},x∈xs→dI x≤dIs xs
 | y::ys,h=>by
  rw [dIs]
  rcases List.mem_cons.1 h with rfl|h
  ·omega
  ·have:=Gk h;omega
theorem Tn {a:Arr} (oa:okAr a) (ra:A7 a) (hz:szP a.shape=(0,0)) {s:List Int} (hs64:∀ z∈s,-9223372036854775808≤z∧z≤9223372036854775807) (hl:s.length≤17592186044416) (hsz:szP s=(0,0)) {p:Itm} (hp:p=a.items.headD default∨p=tyI (a.items.headD default)) :
  AM s [p]=some (.mk s [tyI (a.items.headD default)],0):=by
 have hne:=NT ra
 obtain ⟨r1,r2,r3⟩:=ra
 have hlen:a.items.length=1:=by
  have:=(Lh r1).2.1
  rw [hz] at this
  rw [if_pos (by decide)] at this
  omega
 obtain ⟨x,hx⟩:=List.length_eq_one_iff.1 hlen
 have hx':a.items.headD default=x:=by rw [hx];rfl
 rw [hx'] at hp ⊢
 obtain ⟨ox,rx⟩:=GP oa ⟨r1,r2,r3⟩ (x:=x) (by rw [hx];simp)
 obtain ⟨t1,t2,t3,t4,t5,t6⟩:=Ra ox rx.1
 have hns:∀ {s:List Int} {i:List Itm},szP s=(0,0)→AQ (.mk s i)=false:=by
  intro s i h
  unfold AQ
  cases s with
  | nil=>exact absurd (congrArg Prod.fst h) (by decide)
  | cons y ys=>rfl
 have hpr:okI p∧BX p∧tyI p=tyI x:=by
  rcases hp with rfl|rfl
  ·exact ⟨ox,rx,rfl⟩
  ·exact ⟨t6,⟨t1,t2▸rx.2.1,t3▸rx.2.2⟩,t4⟩
 have hmk:CA (szP s).1 [p]=[tyI x]:=by
  rw [hsz];show [tyI p]=_;rw [hpr.2.2]
 have hR:A7 (.mk s [tyI x]):=by
  have e1:dA a=1+dI x:=by
   have:AQ a=false:=by have:=hns (i:=a.items) hz;rwa [Arr.eta] at this
   rw [Ie,this,if_neg (by decide),hx,dIs,dIs,Nat.max_zero]
  have e2:cA a=1+cI x:=by rw [IV,hx];simp [cIs]
  refine ⟨?_,?_,?_⟩
  ·rw [IX,Ep,DU,hsz,FB.2 (by simpa using t1)];rfl
  ·rw [Ie,hns hsz,if_neg (by decide),DU,dIs,dIs,Nat.max_zero,t2];omega
  ·rw [IV,DU];simp only [cIs,List.length_singleton];omega
 have hc:¬([p]=[]∨¬∀ y∈[p],BX y):=fun q=>q.elim (fun e=>by cases e) fun q=>q fun y hy=>by rw [List.mem_singleton] at hy;subst hy;exact hpr.2.1
 rw [GV hs64 hl (by simp) (fun y hy=>by rw [List.mem_singleton] at hy;subst hy;exact hpr.1),hmk,if_neg (by rw [hsz];exact fun q=>q rfl),if_neg hc,if_pos hR]
def AA (a0:(List Arr)) (a1:Br) (K0:Int→Option (Int)) : Nat→Int→Int→Option (Int)
 | 0,_,_=>none
 | k+1,s2,s3=>(if s3<((List.length a0:Nat):Int) then ((rd? a0 s3).bind fun x4=>((a1.g x4).bind fun x5=>(if x5=true then (some (s3)) else (AA a0 a1 K0 k s2 (w64 (s3+1)))))) else (K0 s2))
def Bc (a0:(List Arr)) (a1:Br) : Option (Int):=(jn (fun (z1:Int)=>(some ((-1)))) fun K0=>(AA a0 a1 K0 AC 0 0))
theorem DX {a0:(List Arr)} {a1:Br} (oa1:Kl a1) {r:Int} (h:Bc a0 a1=some r) :
  Fn Tryz.prog 154 [.sl (Ars a0),a1.dv] (.d (.i .i64 r)):=by
 unfold Bc at h
 refine Fn.o1 4 19 Tryz.func154 ?_;refine .sr ?_;refine ar [0,1,4] ?_;refine .seq ?_;refine .sr ?_;refine va ?_;refine vk (A0 (A6 _) (EF _) D0) ?_;refine va ?_;refine rk [0,1,4,7,8] ?_
 obtain ⟨K0,hK0,h⟩:=AE h
 refine AW.mr (σ:=Int) (fun p=>K0 p=some r) (fun p=>[(4,.d (.i .i64 p))]) (fun p=>[]) ?_ ?_
 ·skip
  refine .block ?_
  refine .loop (.gk [0,1,4,7,8] ?_)
  refine AL.ind (σ:=Nat×Int×Int) (m:=fun p=>p.1) (e:=fun p=>[(0,.d (.sl (Ars a0))),(1,.d (a1.dv)),(4,.d (.i .i64 p.2.1)),(7,.d (.i .i64 ((List.length a0:Nat):Int))),(8,.d (.i .i64 p.2.2))]) (h:=fun p=>[]) (I:=fun p=>AA a0 a1 K0 p.1 p.2.1 p.2.2=some r) ?_ (AC,0,0) h
  rintro ⟨k,s2,s3⟩ h ih
  dsimp only at h ih ⊢
  rcases k with _|k
  ·rw [AA] at h;cases h
  rw [AA] at h
  refine .sr ?_;refine vb ?_;refine rk [0,1,4,7,8,9] ?_;refine .seq ?_
  rcases brc h with ⟨hc,h⟩|⟨hc,h⟩
  ·refine cnt (dT hc) ?_
   refine .sk ?_;refine .seq ?_;refine .block ?_;refine .sr ?_;refine va ?_;refine ar [0,1,4,5,7,8] ?_;refine .sr ?_;refine va ?_;refine va ?_;refine va ?_
   obtain ⟨x4,g4,h⟩:=bnd h
   obtain ⟨n4,p04,q4⟩:=Ag g4
   refine vk (vix n4 p04 (Df q4) rfl Di) ?_;refine vk (Ao Ae Aa) ?_
   obtain ⟨x5,g5,h⟩:=bnd h
   refine vk (Mq (oa1 _ _ g5)) ?_;refine rk [0,1,4,5,7,8,16] ?_
   rcases brc h with ⟨hc,h⟩|⟨hc,h⟩
   ·refine cnt hc ?_
    refine .sr ?_;refine va ?_;refine ar [0,1,4,7,8] ?_;refine .ret ?_
    cases h
    exact ⟨rfl,rfl⟩
   refine cnf (bf hc) ?_;refine .sk ?_;refine .region ?_;refine vb ?_;refine va ?_;refine .nil ?_;refine AL.gk [0,1,4,7,8] ?_
   exact ih (k,s2,(w64 (s3+1))) h (Nat.lt_succ_self _)
  refine cnf (dF hc) ?_;refine .gk [4] ?_;refine .exit ?_
  exact jr (s2) h
 rintro z1 h
 try dsimp only at h ⊢
 subst hK0
 refine aw ?_;refine .sr ?_;refine ar [4] ?_;refine .ret ?_
 cases h
 exact ⟨rfl,rfl⟩
def Ar (a0:(List Arr)) (a1:Br) : Option (Bool):=((Bc a0 a1).bind fun x1=>(some ((decide (0≤x1)))))
theorem AX {a0:(List Arr)} {a1:Br} (oa1:Kl a1) {r:Bool} (h:Ar a0 a1=some r) :
  Fn Tryz.prog 95 [.sl (Ars a0),a1.dv] (.d (.b r)):=by
 unfold Ar at h
 refine Fn.o1 4 9 Tryz.func95 ?_;refine .sr ?_;refine ar [0,1,4] ?_;refine .sr ?_;refine va ?_;refine va ?_
 obtain ⟨x1,g1,h⟩:=bnd h
 refine vk (Ai (DX oa1 g1) Tryz.call154) ?_;refine vb ?_;refine ar [4] ?_;refine .ret ?_
 cases h
 exact ⟨rfl,rfl⟩
def C8 (a0:Arr) : Option (Bool):=((Bm a0).bind fun x1=>(some ((!x1))))
theorem G9 {a0:Arr} {r:Bool} (h:C8 a0=some r) :
  Fn Tryz.prog 216 [.ag [.sl (Is a0.shape),.sl (Its a0.items)]] (.d (.b r)):=by
 unfold C8 at h
 refine Fn.o1 2 6 Tryz.func216 ?_;refine .sr ?_;refine vk vbx ?_;refine ar [1,2] ?_;refine .sr ?_;refine vk (Ao Ae Aa) ?_
 obtain ⟨x1,g1,h⟩:=bnd h
 refine vk (Ai (BT g1) Tryz.call54) ?_;refine vk vnt ?_;refine ar [2] ?_;refine .ret ?_
 cases h
 exact ⟨rfl,rfl⟩
def FN (a0:(Int×RT×Int)) (a1:(List Arr)) : Option (Bool):=(Option.bind ((if a0.1=0 then ((Ar a1 (⟨.fn 216 [] [],fun x=>C8 x⟩ : Br)).bind fun x2=>(some (!x2))) else (if a0.1=1 then ((Ar a1 (⟨.fn 216 [] [],fun x=>C8 x⟩ : Br)).bind fun x3=>(some (!x3))) else (some false))) : Option (Bool)) fun (z1:Bool)=>(some (z1)))
theorem Mt {a0:(Int×RT×Int)} {a1:(List Arr)} {r:Bool} (h:FN a0 a1=some r) :
  Fn Tryz.prog 172 [.ag [.i .i64 a0.1,.b a0.2.1.1,.sl (L a0.2.1.2.1),.sl (L a0.2.1.2.2),.i .i64 a0.2.2],.sl (Ars a1)] (.d (.b r)):=by
 unfold FN at h
 refine Fn.o1 4 18 Tryz.func172 ?_;refine .sr ?_;refine vk vbx ?_;refine ar [1,2,4] ?_;refine .seq ?_
 obtain ⟨z1,hz,h⟩:=bnd h
 refine AW.mr (σ:=Unit) (fun _=>True) (fun _=>[(4,.d (.b z1))]) (fun _=>[]) ?_ ?_
 ·skip
  refine .region ?_;refine vk (vfa HK) ?_;refine vk (Aj AF) ?_;refine vb ?_
  rcases brc hz with ⟨hc,hz⟩|⟨hc,hz⟩
  ·have hb0:(decide (a0.1=0))=true:=(dT hc)
   refine vL hb0 ?_;refine gf3 ?_;refine vk Aq ?_;refine va ?_;refine va ?_
   obtain ⟨x2,g2,hz⟩:=bnd hz
   refine vk (Ai (AX (Jb Tryz.call216 (fun _ _ h=>G9 h)) g2) Tryz.call95) ?_;refine vk vnt ?_;refine vk Aq ?_;refine asd ?_;refine RL.gk [4] ?_;refine .nil ?_
   cases hz
   exact jr () trivial
  have hb0:(decide (a0.1=0))=false:=(dF hc)
  refine vL hb0 ?_;refine vk (vfa HK) ?_;refine vk (Aj AF) ?_;refine vb ?_;refine vk Aq ?_
  rcases brc hz with ⟨hc,hz⟩|⟨hc,hz⟩
  ·have hb1:(decide (a0.1=1))=true:=(dT hc)
   refine vL hb1 ?_;refine va ?_
   obtain ⟨x3,g3,hz⟩:=bnd hz
   refine vk (Ai (AX (Jb Tryz.call216 (fun _ _ h=>G9 h)) g3) Tryz.call95) ?_;refine vk vnt ?_;refine vk Aq ?_;refine asd ?_;refine RL.gk [4] ?_;refine .nil ?_
   cases hz
   exact jr () trivial
  have hb1:(decide (a0.1=1))=false:=(dF hc)
  refine vL hb1 ?_;refine gf3 ?_;refine vk Aq ?_;refine asd ?_;refine RL.gk [4] ?_;refine .nil ?_
  cases hz
  exact jr () trivial
 rintro _ _
 refine .ret ?_
 cases h
 exact ⟨rfl,rfl⟩
theorem Uf {s:List Int} (h:(szP s).2=0) : (∀ x∈s,0≤x∧x≤4096)∧s.length≤8:=by
 unfold szP at h
 split at h
 ·exact absurd h (by decide)
 split at h
 ·exact absurd h (by decide)
 split at h
 ·exact absurd h (by decide)
 rename_i h8 hneg hbig
 refine ⟨fun x hx=>?_,by omega⟩
 simp only [List.any_eq_true,decide_eq_true_eq,not_exists,not_and] at hneg hbig
 have a:=hneg x hx
 have b:=hbig x hx
 omega
end Go.FL
namespace Go.FL
open Go Go.RowKit
section
variable {P:Program} {C:Cx} {o:Oper} {ops:Array Oper} {Q:Exit→Env→Ad→Prop} {env:Env} {H:Ad} {k:Nat} {l:List Oper}
theorem YZ {x:Operand} {src dst:Nat} {q:IntKind} {n:Int} (hs:(P.underlying src).isSome=true) (hd:P.underlying dst=some .string) (ho:o.op=.convert src dst x:=by rfl) (hv:lk env x=.d (.i q n):=by rfl) : VOK P C o env H (.d (.s (Utf8.encode n))):=by
 obtain ⟨h1,h2⟩:=Av hv (by simp)
 refine .pv ⟨by simp [ho],fun X a w I μ O _ hs'=>⟨.string (Utf8.encode n),?_,.of_rep (.s _)⟩⟩
 have e1:=hs'.look_i h1 h2
 have:=run_convert_int_string (P:=P) w src dst q n hs hd
 simp only [execOp,ho,e1,Sem.run_bind,this,Result.andThen_ok,Sem.run_pure]
theorem YA {x y:Operand} {ty:Nat} {s:ByteArray} {q:IntKind} {z:Int} (n:Nat) (hn:z=n∧n≤s.size) (hty:P.underlying ty=some .string) (ho:o.op=.slice ty x (some y) none none:=by rfl) (hv:lk env x=.d (.s s):=by rfl) (hi:lk env y=.d (.i q z):=by rfl) :
  VOK P C o env H (.d (.s (s.extract n s.size))):=by
 obtain ⟨rfl,hl⟩:=hn
 obtain ⟨h1,h2⟩:=Av hv (by simp)
 obtain ⟨h3,h4⟩:=Av hi (by simp)
 refine .pv ⟨by simp [ho],fun X a w I μ O _ hs=>⟨.string (s.extract n s.size),?_,.of_rep (.s _)⟩⟩
 have e1:=hs.look_s h1 h2
 have e2:=hs.look_i h3 h4
 have:=run_slice_string_l (P:=P) w ty s hty q (n:Int) (by omega) (by omega)
 rw [Int.toNat_natCast] at this
 simp only [execOp,ho,e1,Option.map_none,Option.map_some,e2,Instr.sliceAt,Sem.run_bind,run_underlying hty,this,Result.andThen_ok,Sem.run_pure]
theorem Y3 {c:Call} {fo:Operand} {f:FuncId} {s:ByteArray} {b z:Int} (he:∀ w,(callFunc f #[.string s,.int .u8 b]).run P w=.ok (.value (.int .i64 z)) w) (ho:o.op=.call c:=by rfl) (hc:c.callee=.value fo:=by rfl) (hf:lk env fo=.d (.fn f [] []):=by rfl)
  (ha:argsD env c.args.toList=some [.s s,.i .u8 b]:=by rfl):VOK P C o env H (.d (.i .i64 z)):=by
 refine .pv ⟨by simp [ho],fun X a w I μ O _ hs=>⟨.int .i64 z,?_,.of_rep (.i _ _)⟩⟩
 have hfr:=hs.deep (x:=fo) (v:=.fn f [] []) (by rw [hf];rfl)
 generalize hev:a.eval fo=u at hfr
 cases hfr with
 | fn _ _ _ fs cs hfs hcs =>
  cases hfs
  cases hcs
  have hres:=Cp (P:=P) (w:=w) (ρ:=a.eval) (ty:=o.type) hc hev
  have h:=hs.argsD ha
  have e:c.args.map a.eval=#[.string s,.int .u8 b]:=by
   apply Array.ext'
   rw [Array.toList_map]
   generalize c.args.toList.map a.eval=l at h
   cases h with
   | cons h1 h2 =>
    cases h1
    cases h2 with
    | cons h3 h4=>cases h3;cases h4;rfl
  have he':=he w
  rw [← e] at he'
  simp only [execOp,ho,Sem.run_bind,hres,Result.andThen_ok,invoke,List.toArray,Array.append_empty,Array.empty_append,he']
end
def noG (Q:Exit→Env→Ad→Prop) : Exit→Env→Ad→Prop
 | .goto _,_,_=>False
 | e,env,H=>Q e env H
section
variable {P:Program} {b:Frame} {a:Act} {k:List Item} {cs:List Frame} {w:World}
theorem Hq {c:Code} : step P (lone (b.atR a (.code (.scope c)::k)) cs w)=.next (lone (b.atR a (.code c::.inScope c::k)) cs w) :=
 step_lone_go (by simp [stepG,stepG.exec,Frame.atR])
theorem Tx {c:Code} : step P (lone (b.atR a (.inScope c::k)) cs w)=.next (lone (b.atR a k) cs w) :=
 step_lone_go (by simp [stepG,stepG.exec,Frame.atR])
end
theorem AW.scope {P:Program} {C:Cx} {c:Code} {Q:Exit→Env→Ad→Prop} {env:Env} {H:Ad} (h:AW P C c (noG Q) env H) : AW P C (.scope c) Q env H:=by
 intro X a w I μ O h1 h2 h3 hs b k cs hro hb hr
 have h0:(lone (b.atR a (.code (.scope c)::k)) cs w).fenced P (om C.ro):=fenced_calm hb hr rfl
 obtain ⟨e,a₁,w₁,hq,harr⟩:=h X a w I μ O h1 h2 h3 hs b (.inScope c::k) cs hro hb hr
 obtain ⟨env',H',I',μ',O',s,q⟩:=hq
 cases e with
 | normal=>exact ⟨.normal,a₁,w₁,⟨env',H',I',μ',O',s,q⟩,.head h0 Hq (StepsIn.trans harr (.one (fenced_calm hb hr rfl) Tx))⟩
 | exit id =>
  have hx:exitTo id (.inScope c::k)=exitTo id k:=by simp [exitTo]
  exact ⟨.exit id,a₁,w₁,⟨env',H',I',μ',O',s,q⟩,fun k' hk=>.head h0 Hq (harr.1 k' (by rw [hx];exact hk)),
   fun hr' hk=>let ⟨k₁,h1,h2⟩:=harr.2 hr' (by rw [hx];exact hk);⟨k₁,h1,.head h0 Hq h2⟩⟩
 | goto l=>exact q.elim
 | ret=>exact ⟨_,a₁,w₁,⟨env',H',I',μ',O',s,q⟩,.of_steps (.one h0 Hq) harr⟩
 | panic ch=>exact ⟨_,a₁,w₁,⟨env',H',I',μ',O',s,q⟩,.of_steps (.one h0 Hq) harr⟩
 | outgrown=>exact ⟨_,a₁,w₁,⟨env',H',I',μ',O',s,q⟩,.of_steps (.one h0 Hq) harr⟩
end Go.FL
namespace Go.FL
open Go Go.Proofs Go.RowKit
theorem stS : Tryz.prog.underlying 9=some .string:=by kernel_rfl
theorem XH (s:ByteArray) (b:Int) (w:World) : (callFunc 263 #[.string s,.int .u8 b]).run Tryz.prog w=.ok (.value (.int .i64 (Lib.indexByte s.data.toList b.toNat.toUInt8))) w:=by
 rw [run_callFunc_extern Tryz.func263 (by kernel_rfl) (by kernel_rfl) (by kernel_rfl) (e:=Extern.BytealgIndexByte.indexByte) (by kernel_rfl),Lib.run_indexByteString]
 rfl
def JU (s:ByteArray) (b:Int) : Int:=Lib.indexByte s.data.toList b.toNat.toUInt8
theorem Qd (s:ByteArray) (b:Int) : Fn Tryz.prog 239 [.s s,.i .u8 b] (.d (.i .i64 (JU s b))):=by
 refine Fn.of (rs:=[.tmp 4]) (nt:=8) Tryz.func239 rfl rfl rfl (by simp) rfl ?_;refine .seq ?_;refine .region ?_;refine asd ?_;refine rn ?_;refine .seq ?_;refine .region ?_;refine vk (Ac) ?_;refine vk (Ac) ?_;refine vk (Y3 (XH s b)) ?_;refine asd ?_;refine rn ?_;refine .ret ?_
 exact ⟨rfl,rfl⟩
theorem KZ (s:ByteArray) (b:Int) : Fn Tryz.prog 198 [.s s,.i .u8 b] (.d (.i .i64 (JU s b))):=by
 refine Fn.of (rs:=[.tmp 4]) (nt:=8) Tryz.func198 rfl rfl rfl (by simp) rfl ?_;refine .seq ?_;refine .region ?_;refine asd ?_;refine rn ?_;refine .seq ?_;refine .region ?_;refine vk (Ac) ?_;refine vk (Ac) ?_;refine vk (Ai (Qd s b) Tryz.call239) ?_;refine asd ?_;refine rn ?_;refine .ret ?_
 exact ⟨rfl,rfl⟩
def Dk (a0:Int) : Option (Bool):=(if ((decide (0≤a0))&&(decide (a0<55296)))=true then (some (true)) else (if ((decide (57343<a0))&&(decide (a0≤1114111)))=true then (some (true)) else (some (false))))
theorem GO {a0:Int} {r:Bool} (h:Dk a0=some r) :
  Fn Tryz.prog 199 [.i .i32 a0] (.d (.b r)):=by
 unfold Dk at h
 refine Fn.of (rs:=[.tmp 2]) (nt:=17) Tryz.func199 rfl rfl rfl (by simp) rfl ?_;refine .seq ?_;refine .region ?_;refine asd ?_;refine rn ?_;refine .gh (Gh.keep [0,2] rfl) ?_;refine .seq ?_;refine .block ?_;refine .seq ?_;refine AW.mr (σ:=Unit) (fun _=>True) (fun _=>[(0,.d (.i .i32 a0)),(2,.d (.b false)),(3,.d (.b ((decide (0≤a0))&&(decide (a0<55296)))))]) (fun _=>[]) ?_ ?_
 ·skip
  refine .region ?_;refine vk (Ac) ?_;refine vk (vbi) ?_
  by_cases hc:0≤a0
  ·have hb0:(decide (0≤a0))=true:=(dT hc)
   refine vk (VOK.lit (Ac) hb0) ?_;refine vk (Ac) ?_;refine vk (vbi) ?_;refine vk (Aq) ?_;refine asd ?_;refine RL.gh (Gh.keep [0,2,3] rfl) ?_;refine .nil ?_
   exact jr () trivial (by simp only [hb0];rfl)
  have hb0:(decide (0≤a0))=false:=(dF hc)
  refine vk (VOK.lit (Ac) hb0) ?_;refine gf2 ?_;refine vk (Aq) ?_;refine asd ?_;refine RL.gh (Gh.keep [0,2,3] rfl) ?_;refine .nil ?_
  exact jr () trivial (by simp only [hb0];rfl)
 rintro _ _
 by_cases hc:((decide (0≤a0))&&(decide (a0<55296)))=true
 ·replace h:=LG hc h
  refine cnt hc ?_;refine .seq ?_;refine .region ?_;refine asd ?_;refine rn ?_;refine .gh (Gh.keep [2] rfl) ?_;refine .ret ?_
  cases h
  exact ⟨rfl,rfl⟩
 replace h:=Lx hc h
 refine cnf (bf hc) ?_;refine .seq ?_;refine AW.mr (σ:=Unit) (fun _=>True) (fun _=>[(2,.d (.b false)),(10,.d (.b ((decide (57343<a0))&&(decide (a0≤1114111)))))]) (fun _=>[]) ?_ ?_
 ·skip
  refine .region ?_;refine vk (Ac) ?_;refine vk (vbi) ?_
  by_cases hc:57343<a0
  ·have hb0:(decide (57343<a0))=true:=(dT hc)
   refine vk (VOK.lit (Ac) hb0) ?_;refine vk (Ac) ?_;refine vk (vbi) ?_;refine vk (Aq) ?_;refine asd ?_;refine RL.gh (Gh.keep [2,10] rfl) ?_;refine .nil ?_
   exact jr () trivial (by simp only [hb0];rfl)
  have hb0:(decide (57343<a0))=false:=(dF hc)
  refine vk (VOK.lit (Ac) hb0) ?_;refine gf2 ?_;refine vk (Aq) ?_;refine asd ?_;refine RL.gh (Gh.keep [2,10] rfl) ?_;refine .nil ?_
  exact jr () trivial (by simp only [hb0];rfl)
 rintro _ _
 by_cases hc:((decide (57343<a0))&&(decide (a0≤1114111)))=true
 ·replace h:=LG hc h
  refine cnt hc ?_;refine .seq ?_;refine .region ?_;refine asd ?_;refine rn ?_;refine .gh (Gh.keep [2] rfl) ?_;refine .ret ?_
  cases h
  exact ⟨rfl,rfl⟩
 replace h:=Lx hc h
 refine cnf (bf hc) ?_;refine .skip ?_;refine aw ?_;refine .seq ?_;refine .region ?_;refine asd ?_;refine rn ?_;refine .gh (Gh.keep [2] rfl) ?_;refine .ret ?_
 cases h
 exact ⟨rfl,rfl⟩
theorem QO (s:ByteArray) (r:Int) (h0:0≤r) (h1:r<128) : Fn Tryz.prog 153 [.s s,.i .i32 r] (.d (.i .i64 (JU s r))):=by
 refine Fn.of (rs:=[.tmp 4]) (nt:=187) Tryz.func153 rfl rfl rfl (by simp) rfl ?_;refine .seq ?_;refine .region ?_;refine asd ?_;refine rn ?_;refine .gh (Gh.keep [0,1,4] rfl) ?_;refine .block ?_;refine .seq ?_;refine .region ?_;refine vk (Ac) ?_;refine vk (vbi) ?_
 have hb0:(decide (0≤r))=true:=dT h0
 refine vk (VOK.lit (Ac) hb0) ?_;refine vk (Ac) ?_;refine vk (vbi) ?_;refine vk (Aq) ?_;refine asd ?_;refine rn ?_;refine .gh (Gh.keep [0,1,4,160] rfl) ?_;refine cnt (dT h1) ?_;refine .seq ?_;refine .region ?_;refine vk (Ac) ?_;refine vk (Ac) ?_
 have hw:IntKind.u8.wrap r=r:=by
  simp only [IntKind.wrap,IntKind.bits,IntKind.signed]
  simp
  omega
 refine vk (Mp (q1:=.i32) r hw (by kernel_rfl) (by kernel_rfl)) ?_;refine vk (Ai (KZ s r) Tryz.call198) ?_;refine asd ?_;refine rn ?_;refine .ret ?_
 exact ⟨rfl,rfl⟩
theorem Lr (s:ByteArray) (r:Int) {x0 x1 x2 y2 p:Nat} (h0:2048≤r) (h1:r<55296) (he:Ha (Utf8.encode r)=[x0,x1,x2]) (hs:s.size≤1000) (h2:(Ha s)[2]?=some y2)
  (hc:(y2=x2∧p=2)∨(y2≠x2∧3≤p∧JU (s.extract 3 s.size) x2=(p:Int)-3)) (hp1:(Ha s)[p-1]?=some x1) (hp0:(Ha s)[p-2]?=some x0) (hp:p<s.size) :
  Fn Tryz.prog 153 [.s s,.i .i32 r] (.d (.i .i64 ((p:Int)-2))):=by
 have hes:(Utf8.encode r).size=3:=by rw [← FH,he];rfl
 have hsub:DV.i .i64 (IntKind.i64.wrap (((Utf8.encode r).size:Int)-1))=.i .i64 2:=by rw [hes];rfl
 have hv:Dk r=some true:=by
  unfold Dk
  rw [dT (show (0:Int)≤r by omega),dT h1];rfl
 have h3:3≤s.size:=by
  have:=(lS.1 h2).1
  rw [FH] at this;omega
 refine Fn.of (rs:=[.tmp 4]) (nt:=187) Tryz.func153 rfl rfl rfl (by simp) rfl ?_;refine .seq ?_;refine .region ?_;refine asd ?_;refine rn ?_;refine .gh (Gh.keep [0,1,4] rfl) ?_;refine .block ?_;refine .seq ?_;refine .region ?_;refine vk (Ac) ?_;refine vk (vbi) ?_
 have hb0:(decide (0≤r))=true:=dT (by omega)
 refine vk (VOK.lit (Ac) hb0) ?_;refine vk (Ac) ?_;refine vk (vbi) ?_;refine vk (Aq) ?_;refine asd ?_;refine rn ?_;refine .gh (Gh.keep [0,1,4,160] rfl) ?_;refine cnf (show decide (r<128)=false from dF (by omega)) ?_;refine .seq ?_;refine .region ?_;refine vk (Ac) ?_;refine vk (vbi) ?_;refine asd ?_;refine rn ?_;refine .gh (Gh.keep [0,1,4,171] rfl) ?_;refine cnf (show decide (r=65533)=false from dF (by omega)) ?_;refine .seq ?_;refine .region ?_;refine vk (Ac) ?_;refine vk (Ai (GO hv) Tryz.call199) ?_;refine vk (vnt) ?_;refine asd ?_;refine rn ?_;refine .gh (Gh.keep [0,1,4,183] rfl) ?_;refine Cd ?_;refine .scope ?_;refine .seq ?_;refine .region ?_;refine vk (Ac) ?_;refine vk (YZ (by kernel_rfl) stS) ?_;refine asd ?_;refine rn ?_;refine .gh (Gh.keep [0,1,4,7] rfl) ?_;refine .seq ?_;refine .region ?_;refine vk (Ac) ?_;refine vk (U8 stS) ?_;refine vk (Th (.i .i64 2) ⟨trivial,hsub⟩) ?_;refine asd ?_;refine rn ?_;refine .gh (Gh.keep [0,1,4,7,8] rfl) ?_;refine .seq ?_;refine .region ?_;refine vk (Ac) ?_;refine asd ?_;refine rn ?_;refine .gh (Gh.keep [0,1,4,7,8,9] rfl) ?_;refine .seq ?_;refine .region ?_;refine asd ?_;refine rn ?_;refine .gh (Gh.keep [0,1,4,7,8,9,10] rfl) ?_;refine .seq ?_;refine .block ?_
 refine .loop (.round ?_)
 refine .seq ?_;refine .seq ?_;refine .region ?_;refine vk (Ac) ?_;refine vk (Ac) ?_;refine vk (U8 stS) ?_;refine vk (vbi) ?_;refine rn ?_;refine .gh (Gh.keep [0,1,4,7,8,9,10,26] rfl) ?_;refine cnt (show decide ((2:Int)<((s.size:Nat):Int))=true from dT (by omega)) ?_;refine .skip ?_;refine aw ?_;refine .block ?_;refine .scope ?_;refine .seq ?_;refine .seq ?_;refine .drawn 7 A3 (by kernel_rfl) ?_;refine dv (Ac) ?_;refine dv (Ac) ?_;refine dv (PN 2 y2 rfl h2 stS) ?_;refine dv (Ac) ?_;refine dv (Ac) ?_;refine dv (PN 2 x2 rfl (by rw [he];rfl) stS) ?_;refine dv (vbi) ?_;refine dz ?_;refine rn ?_;refine .gh (Gh.keep [0,1,4,7,8,9,10,33] rfl) ?_;refine AW.mr (σ:=Unit) (fun _=>True) (fun _=>[(0,.d (.s s)),(1,.d (.i .i32 r)),(4,.d (.i .i64 0)),(7,.d (.s (Utf8.encode r))),(8,.d (.i .i64 2)),(9,.d (.i .i64 (p:Int))),(10,.d (.i .i64 0))]) (fun _=>[]) ?_ ?_
 ·skip
  rcases hc with ⟨hc1,hc2⟩|⟨hc1,hc2,hc3⟩
  ·subst hc2
   refine cnf (ntf (dT (show (y2:Int)=x2 by omega))) ?_;refine .gh (Gh.keep [0,1,4,7,8,9,10] rfl) ?_;refine .skip ?_
   exact jr () trivial rfl
  have hI:=KZ (s.extract 3 s.size) x2
  rw [hc3] at hI
  refine cnt (ntt (dF (show ¬(y2:Int)=x2 by omega))) ?_;refine .seq ?_;refine .drawn 8 A3 (by kernel_rfl) ?_;refine dv (Ac) ?_;refine dv (Ac) ?_;refine dv (vad 3 ⟨rfl,by decide,by decide⟩) ?_;refine dv (YA 3 ⟨rfl,h3⟩ stS) ?_;refine dv (Ac) ?_;refine dv (Ac) ?_;refine dv (PN 2 x2 rfl (by rw [he];rfl) stS) ?_;refine dv (Ai hI Tryz.call198) ?_;refine dz ?_;refine asd ?_;refine rn ?_;refine .gh (Gh.keep [0,1,4,7,8,9,10,11] rfl) ?_;refine .seq ?_;refine .seq ?_;refine .region ?_;refine vk (Ac) ?_;refine vk (vbi) ?_;refine rn ?_;refine .gh (Gh.keep [0,1,4,7,8,9,10,11,43] rfl) ?_;refine cnf (show decide ((p:Int)-3<0)=false from dF (by omega)) ?_;refine .skip ?_;refine aw ?_;refine .region ?_;refine vk (Ac) ?_;refine vk (Ac) ?_;refine vk (vad (m:=(p:Int)-3) (n:=1) ((p:Int)-2) ⟨by omega,by omega,by omega⟩) ?_;refine vk (vad (m:=2) (n:=(p:Int)-2) (p:Int) ⟨by omega,by omega,by omega⟩) ?_;refine asd ?_;refine RL.gh (Gh.keep [0,1,4,7,8,9,10] rfl) ?_;refine .nil ?_
  exact jr () trivial rfl
 rintro _ _
 refine .seq ?_;refine .seq ?_;refine .region ?_;refine asd ?_;refine rn ?_;refine .gh (Gh.keep [0,1,4,7,8,9,10,12] rfl) ?_;refine .block ?_;refine .loop ?_
 refine AL.ind (σ:=Nat) (m:=fun j=>3-j) (e:=fun j=>[(0,.d (.s s)),(1,.d (.i .i32 r)),(4,.d (.i .i64 0)),(7,.d (.s (Utf8.encode r))),(8,.d (.i .i64 2)),(9,.d (.i .i64 (p:Int))),(10,.d (.i .i64 0)),(12,.d (.i .i64 (j:Int)))]) (h:=fun _=>[]) (I:=fun j=>1≤j∧j≤3) ?_ 1 ⟨by omega,by omega⟩
 rintro j ⟨hj1,hj3⟩ ih
 refine .seq ?_;refine .seq ?_;refine .region ?_;refine vk (Ac) ?_;refine vk (Ac) ?_;refine vk (U8 stS) ?_;refine vk (vbi) ?_;refine rn ?_;refine .gh (Gh.keep [0,1,4,7,8,9,10,12,51] rfl) ?_
 by_cases hj:j<3
 ·refine cnt (show decide ((j:Int)<(((Utf8.encode r).size:Nat):Int))=true from dT (by rw [hes];omega)) ?_
  refine .skip ?_;refine aw ?_
  obtain ⟨xj,hA,hB⟩:∃ xj,(Ha s)[p-j]?=some xj∧(Ha (Utf8.encode r))[2-j]?=some xj:=by
   have:j=1∨j=2:=by omega
   rw [he]
   rcases this with rfl|rfl
   ·exact ⟨x1,hp1,rfl⟩
   ·exact ⟨x0,hp0,rfl⟩
  have hp2:2≤p:=by rcases hc with ⟨_,q⟩|⟨_,q,_⟩<;>omega
  refine .seq ?_;refine .block ?_;refine .seq ?_;refine .drawn 11 A3 (by kernel_rfl) ?_;refine dv (Ac) ?_;refine dv (Ac) ?_;refine dv (Ac) ?_;refine dv (vsu (m:=(p:Int)) (n:=(j:Int)) (((p-j:Nat)):Int) ⟨by omega,by omega,by omega⟩) ?_;refine dv (PN (p-j) xj rfl hA stS) ?_;refine dv (Ac) ?_;refine dv (Ac) ?_;refine dv (Ac) ?_;refine dv (vsu (m:=2) (n:=(j:Int)) (((2-j:Nat)):Int) ⟨by omega,by omega,by omega⟩) ?_;refine dv (PN (2-j) xj rfl hB stS) ?_;refine dv (vbi) ?_;refine dz ?_;refine rn ?_;refine .gh (Gh.keep [0,1,4,7,8,9,10,12,64] rfl) ?_;refine cnf (ntf (dT (show (xj:Int)=xj from rfl))) ?_;refine .skip ?_;refine aw ?_;refine .region ?_;refine vk (Ac) ?_;refine vk (vad (m:=(j:Int)) (n:=1) ((j+1:Nat):Int) ⟨by omega,by omega,by omega⟩) ?_;refine asd ?_;refine .nil ?_;refine AL.gh (Gh.keep [0,1,4,7,8,9,10,12] rfl) ?_
  exact ih (j+1) ⟨by omega,by omega⟩ (by omega)
 have hp2:2≤p:=by rcases hc with ⟨_,q⟩|⟨_,q,_⟩<;>omega
 refine cnf (show decide ((j:Int)<(((Utf8.encode r).size:Nat):Int))=false from dF (by rw [hes];omega)) ?_;refine .exit ?_;refine aw ?_;refine .seq ?_;refine .seq ?_;refine .region ?_;refine vk (Ac) ?_;refine vk (Ac) ?_;refine vk (vsu (m:=(p:Int)) (n:=2) ((p:Int)-2) ⟨by omega,by omega,by omega⟩) ?_;refine asd ?_;refine rn ?_;refine .gh (Gh.keep [4] rfl) ?_;refine .ret ?_
 exact ⟨rfl,rfl⟩
theorem PU (s:ByteArray) (r:Int) {x0 x1 x2 y2:Nat} (h0:2048≤r) (h1:r<55296) (he:Ha (Utf8.encode r)=[x0,x1,x2]) (hs:s.size≤1000) (h2:(Ha s)[2]?=some y2)
  (hc:y2≠x2) (hz:JU (s.extract 3 s.size) x2<0):Fn Tryz.prog 153 [.s s,.i .i32 r] (.d (.i .i64 (-1))):=by
 have hes:(Utf8.encode r).size=3:=by rw [← FH,he];rfl
 have hsub:DV.i .i64 (IntKind.i64.wrap (((Utf8.encode r).size:Int)-1))=.i .i64 2:=by rw [hes];rfl
 have hv:Dk r=some true:=by
  unfold Dk
  rw [dT (show (0:Int)≤r by omega),dT h1];rfl
 have h3:3≤s.size:=by
  have:=(lS.1 h2).1
  rw [FH] at this;omega
 refine Fn.of (rs:=[.tmp 4]) (nt:=187) Tryz.func153 rfl rfl rfl (by simp) rfl ?_;refine .seq ?_;refine .region ?_;refine asd ?_;refine rn ?_;refine .gh (Gh.keep [0,1,4] rfl) ?_;refine .block ?_;refine .seq ?_;refine .region ?_;refine vk (Ac) ?_;refine vk (vbi) ?_
 have hb0:(decide (0≤r))=true:=dT (by omega)
 refine vk (VOK.lit (Ac) hb0) ?_;refine vk (Ac) ?_;refine vk (vbi) ?_;refine vk (Aq) ?_;refine asd ?_;refine rn ?_;refine .gh (Gh.keep [0,1,4,160] rfl) ?_;refine cnf (show decide (r<128)=false from dF (by omega)) ?_;refine .seq ?_;refine .region ?_;refine vk (Ac) ?_;refine vk (vbi) ?_;refine asd ?_;refine rn ?_;refine .gh (Gh.keep [0,1,4,171] rfl) ?_;refine cnf (show decide (r=65533)=false from dF (by omega)) ?_;refine .seq ?_;refine .region ?_;refine vk (Ac) ?_;refine vk (Ai (GO hv) Tryz.call199) ?_;refine vk (vnt) ?_;refine asd ?_;refine rn ?_;refine .gh (Gh.keep [0,1,4,183] rfl) ?_;refine Cd ?_;refine .scope ?_;refine .seq ?_;refine .region ?_;refine vk (Ac) ?_;refine vk (YZ (by kernel_rfl) stS) ?_;refine asd ?_;refine rn ?_;refine .gh (Gh.keep [0,1,4,7] rfl) ?_;refine .seq ?_;refine .region ?_;refine vk (Ac) ?_;refine vk (U8 stS) ?_;refine vk (Th (.i .i64 2) ⟨trivial,hsub⟩) ?_;refine asd ?_;refine rn ?_;refine .gh (Gh.keep [0,1,4,7,8] rfl) ?_;refine .seq ?_;refine .region ?_;refine vk (Ac) ?_;refine asd ?_;refine rn ?_;refine .gh (Gh.keep [0,1,4,7,8,9] rfl) ?_;refine .seq ?_;refine .region ?_;refine asd ?_;refine rn ?_;refine .gh (Gh.keep [0,1,4,7,8,9,10] rfl) ?_;refine .seq ?_;refine .block ?_
 refine .loop (.round ?_)
 refine .seq ?_;refine .seq ?_;refine .region ?_;refine vk (Ac) ?_;refine vk (Ac) ?_;refine vk (U8 stS) ?_;refine vk (vbi) ?_;refine rn ?_;refine .gh (Gh.keep [0,1,4,7,8,9,10,26] rfl) ?_;refine cnt (show decide ((2:Int)<((s.size:Nat):Int))=true from dT (by omega)) ?_;refine .skip ?_;refine aw ?_;refine .block ?_;refine .scope ?_;refine .seq ?_;refine .seq ?_;refine .drawn 7 A3 (by kernel_rfl) ?_;refine dv (Ac) ?_;refine dv (Ac) ?_;refine dv (PN 2 y2 rfl h2 stS) ?_;refine dv (Ac) ?_;refine dv (Ac) ?_;refine dv (PN 2 x2 rfl (by rw [he];rfl) stS) ?_;refine dv (vbi) ?_;refine dz ?_;refine rn ?_;refine .gh (Gh.keep [0,1,4,7,8,9,10,33] rfl) ?_
 have hI:=KZ (s.extract 3 s.size) x2
 refine cnt (ntt (dF (show ¬(y2:Int)=x2 by omega))) ?_;refine .seq ?_;refine .drawn 8 A3 (by kernel_rfl) ?_;refine dv (Ac) ?_;refine dv (Ac) ?_;refine dv (vad 3 ⟨rfl,by decide,by decide⟩) ?_;refine dv (YA 3 ⟨rfl,h3⟩ stS) ?_;refine dv (Ac) ?_;refine dv (Ac) ?_;refine dv (PN 2 x2 rfl (by rw [he];rfl) stS) ?_;refine dv (Ai hI Tryz.call198) ?_;refine dz ?_;refine asd ?_;refine rn ?_;refine .gh (Gh.keep [0,1,4,7,8,9,10,11] rfl) ?_;refine .seq ?_;refine .seq ?_;refine .region ?_;refine vk (Ac) ?_;refine vk (vbi) ?_;refine rn ?_;refine .gh (Gh.keep [0,1,4,7,8,9,10,11,43] rfl) ?_;refine cnt (show decide (JU (s.extract 3 s.size) x2<0)=true from dT hz) ?_;refine .seq ?_;refine .region ?_;refine asd ?_;refine rn ?_;refine .gh (Gh.keep [4] rfl) ?_;refine .ret ?_
 exact ⟨rfl,rfl⟩
def W8 (s:ByteArray) (r:Int) : List Nat→Option Nat→Option Int
 | [x0,x1,x2],some y2=>if y2=x2 then (if 3≤s.size∧(Ha s)[1]?=some x1∧(Ha s)[0]?=some x0 then some 0 else none)
  else if JU (s.extract 3 s.size) x2<0 then some (-1)
  else if (Ha s)[(JU (s.extract 3 s.size) x2).toNat+2]?=some x1∧(Ha s)[(JU (s.extract 3 s.size) x2).toNat+1]?=some x0∧(JU (s.extract 3 s.size) x2).toNat+3<s.size then some (JU (s.extract 3 s.size) x2+1) else none
 | _,_=>none
def SK (s:ByteArray) (r:Int) : Option Int :=
 if s.size≤1000 then (if 0≤r∧r<128 then some (JU s r) else if 2048≤r∧r<55296 then W8 s r (Ha (Utf8.encode r)) (Ha s)[2]? else none) else none
theorem TY {s:ByteArray} {r z:Int} (h:SK s r=some z) : Fn Tryz.prog 153 [.s s,.i .i32 r] (.d (.i .i64 z)):=by
 unfold SK at h
 by_cases hs:s.size≤1000
 rotate_left
 ·rw [if_neg hs] at h;cases h
 rw [if_pos hs] at h
 by_cases h1:0≤r∧r<128
 ·rw [if_pos h1] at h
  cases h
  exact QO s r h1.1 h1.2
 rw [if_neg h1] at h
 by_cases h2:2048≤r∧r<55296
 rotate_left
 ·rw [if_neg h2] at h;cases h
 rw [if_pos h2] at h
 generalize he:Ha (Utf8.encode r)=e at h
 generalize hy:(Ha s)[2]?=y at h
 unfold W8 at h
 split at h
 ·rename_i x0 x1 x2 y2
  split at h
  ·rename_i q
   split at h
   ·rename_i q2
    cases h
    exact Lr s r (p:=2) h2.1 h2.2 he hs hy (.inl ⟨q,rfl⟩) q2.2.1 q2.2.2 (by omega)
   ·cases h
  ·rename_i q
   split at h
   ·rename_i q2
    cases h
    exact PU s r h2.1 h2.2 he hs hy q q2
   ·rename_i q2
    split at h
    ·rename_i q3
     cases h
     have e1:(((JU (s.extract 3 s.size) x2).toNat+3:Nat):Int)-2=JU (s.extract 3 s.size) x2+1:=by omega
     rw [← e1]
     exact Lr s r (p:=(JU (s.extract 3 s.size) x2).toNat+3) h2.1 h2.2 he hs hy (.inr ⟨q,by omega,by omega⟩) q3.1 q3.2.1 q3.2.2
    ·cases h
 ·cases h
def LO (s:ByteArray) (r:Int) : Option Bool:=(SK s r).map fun z=>decide (0≤z)
theorem MN {s:ByteArray} {r:Int} {b:Bool} (h:LO s r=some b) : Fn Tryz.prog 94 [.s s,.i .i32 r] (.d (.b b)):=by
 unfold LO at h
 rcases hz:SK s r with _|z
 ·rw [hz] at h;cases h
 rw [hz] at h
 cases h
 refine Fn.of (rs:=[.tmp 4]) (nt:=9) Tryz.func94 rfl rfl rfl (by simp) rfl ?_;refine .seq ?_;refine .region ?_;refine asd ?_;refine rn ?_;refine .seq ?_;refine .region ?_;refine vk (Ac) ?_;refine vk (Ac) ?_;refine vk (Ai (TY hz) Tryz.call153) ?_;refine vk (vbi) ?_;refine asd ?_;refine rn ?_;refine .ret ?_
 exact ⟨rfl,rfl⟩
def txA : ByteArray:=⟨#[226,141,180,44,226,141,170,226,134,145,226,134,147,226,140,189,226,138,150,226,141,137,47,226,140,191,92,226,141,128]⟩
example : LO txA 8854=some true:=by kernel_rfl
example : LO txA 9076=some true:=by kernel_rfl
example : LO txA 92=some true:=by kernel_rfl
end Go.FL
namespace Go.FL
open Go Go.Proofs
def C4 (a0:Arr) : Option ((List Int)×Int):=(if 1<((List.length a0.shape:Nat) : Int) then (some ([],4)) else ((GF a0).bind fun x1=>(if x1.2=true then (some (x1.1,0)) else (some ([],3)))))
theorem Lq {a0:Arr} {r:(List Int)×Int} (h:C4 a0=some r) :
  Fn Tryz.prog 173 [.ag [.sl (Is a0.shape),.sl (Its a0.items)]] (.tup [.d (.sl (Is r.1)),.d (.i .i64 r.2)]):=by
 unfold C4 at h
 refine Fn.of (rs:=[.tmp 2,.tmp 3]) (nt:=18) Tryz.func173 rfl rfl rfl (by simp) rfl ?_;refine .sr ?_;refine vk vbx ?_;refine asn ?_;refine ar [1,2,3] ?_;refine .seq ?_;refine .sr ?_;refine vk (vfa AJ) ?_;refine vk (Aj Bl) ?_;refine vk (A0 (Af _) (Bv _) Bp) ?_;refine vb ?_;refine rk [1,2,3,9] ?_
 rcases brc h with ⟨hc,h⟩|⟨hc,h⟩
 ·refine cnt (dT hc) ?_
  refine .sr ?_;refine asn ?_;refine ar [1,2,3] ?_;refine .gh (Gh.nlD (t:=2) rfl) ?_;refine .ret ?_
  cases h
  exact ⟨by decide,rfl,rfl,rfl⟩
 refine cnf (dF hc) ?_;refine .sk ?_;refine .sr ?_;refine vk (Ao Ae Aa) ?_
 obtain ⟨x1,g1,h⟩:=bnd h
 refine vk (VOK.tupd (vs:=[.sl (Is x1.1),.b x1.2]) (Ai (Qj g1) Tryz.call155)) ?_;refine va ?_;refine vk vex ?_;refine vk vex ?_;refine asd ?_;refine ar [2,3,4,5] ?_;refine .seq ?_;refine .sr ?_;refine va ?_;refine vk vnt ?_;refine rk [2,3,4,16] ?_
 rcases brc h with ⟨hc,h⟩|⟨hc,h⟩
 ·refine cnf (ntf hc) ?_
  refine .sk ?_;refine .sr ?_;refine va ?_;refine asd ?_;refine ar [2,3] ?_;refine .ret ?_
  cases h
  exact ⟨by decide,rfl,rfl,rfl⟩
 refine cnt (ntt (bf hc)) ?_;refine .sr ?_;refine asn ?_;refine ar [2,3,4] ?_;refine .gh (Gh.nlD (t:=2) rfl) ?_;refine .ret ?_
 cases h
 exact ⟨by decide,rfl,rfl,rfl⟩
def CY (a0:Arr) (a1:Arr) : Option ((List Int)×Arr×Int):=((C4 a0).bind fun x1=>(jn ((if ((List.length x1.1:Nat) : Int)=((List.length a1.shape:Nat) : Int) then (some (x1.1,a1,0)) else (some ([],(Arr.mk [] []),5)))) fun K0=>(if x1.2=0 then (if ((decide (((List.length a1.shape:Nat) : Int)=0))&&(decide (8<((List.length x1.1:Nat) : Int))))=true then (some ([],(Arr.mk [] []),4)) else (if ((List.length a1.shape:Nat) : Int)=0 then none else (K0))) else (some ([],(Arr.mk [] []),x1.2)))))
theorem L1 {a0:Arr} {a1:Arr} {r:(List Int)×Arr×Int} (h:CY a0 a1=some r) :
  Fn Tryz.prog 217 [.ag [.sl (Is a0.shape),.sl (Its a0.items)],.ag [.sl (Is a1.shape),.sl (Its a1.items)]] (.tup [.d (.sl (Is r.1)),.d (.ag [.sl (Is r.2.1.shape),.sl (Its r.2.1.items)]),.d (.i .i64 r.2.2)]):=by
 unfold CY at h
 refine Fn.ofA (rs:=[.tmp 4,.cell 5 27,.tmp 6]) (nt:=49) Tryz.func217 rfl rfl rfl (by simp) rfl ?_;refine .sr ?_;refine vk vbx ?_;refine vk vbn ?_;refine RL.gh2 (Gh.nbb (t:=3) rfl) ?_;refine asn ?_;refine vk (van (Ah AI) AK) ?_;refine ar [2,3,4,5,6] ?_;refine .sr ?_;refine vk (Ao Ae Aa) ?_
 obtain ⟨x1,g1,h⟩:=bnd h
 refine vk (VOK.tupd (vs:=[.sl (Is x1.1),.i .i64 x1.2]) (Ai (Lq g1) Tryz.call173)) ?_;refine va ?_;refine vk vex ?_;refine vk vex ?_;refine asd ?_;refine ar [3,4,5,6,7,8] ?_
 obtain ⟨K0,hK0,h⟩:=AE h
 refine AW.mj (σ:=Unit) (fun p=>K0=some r) (fun p=>[(3,.bp 0 0),(4,.nl),(5,.nb [.sl (Is []),.sl (Its [])]),(6,.d (.i .i64 0)),(7,.d (.sl (Is x1.1)))]) (fun p=>[HO.box [.d (.sl (Is a1.shape)),.d (.sl (Its a1.items))]]) ?_ ?_
 ·skip
  refine .block ?_;refine .sr ?_;refine va ?_;refine vb ?_;refine ar [3,4,5,6,7,8,14] ?_
  rcases brc h with ⟨hc,h⟩|⟨hc,h⟩
  ·refine cnf (ntf (dT hc)) ?_
   refine .seq ?_;refine AW.mr (σ:=Unit) (fun _=>True) (fun _=>[(3,.bp 0 0),(4,.nl),(5,.nb [.sl (Is []),.sl (Its [])]),(6,.d (.i .i64 0)),(7,.d (.sl (Is x1.1))),(19,.d (.b ((decide (((List.length a1.shape:Nat):Int)=0))&&(decide (8<((List.length x1.1:Nat):Int))))))]) (fun _=>[HO.box [.d (.sl (Is a1.shape)),.d (.sl (Its a1.items))]]) ?_ ?_
   ·skip
    refine .region ?_;refine vk (GK AJ) ?_;refine vk (GL (cs:=[.d (.sl (Is a1.shape)),.d (.sl (Its a1.items))]) (c:=.sl (Is a1.shape)) rfl rfl Bl) ?_;refine vk (A0 (Af _) (Bv _) Bp) ?_;refine vb ?_
    by_cases hc:((List.length a1.shape:Nat):Int)=0
    ·have hb0:(decide (((List.length a1.shape:Nat):Int)=0))=true:=(dT hc)
     refine vL hb0 ?_;refine va ?_;refine vk (A0 (Af _) (Bv _) Bp) ?_;refine vb ?_;refine vk Aq ?_;refine asd ?_;refine RL.gk [3,4,5,6,7,19] ?_;refine .nil ?_
     exact jr () trivial (by simp only [hb0];rfl) (by (try simp only [hb0]);rfl)
    have hb0:(decide (((List.length a1.shape:Nat):Int)=0))=false:=(dF hc)
    refine vL hb0 ?_;refine gf3 ?_;refine vk Aq ?_;refine asd ?_;refine RL.gk [3,4,5,6,7,19] ?_;refine .nil ?_
    exact jr () trivial (by simp only [hb0];rfl) (by (try simp only [hb0]);rfl)
   rintro _ _
   rcases brc h with ⟨hc,h⟩|⟨hc,h⟩
   ·refine cnt hc ?_
    refine .sr ?_;refine vk (vbd BW AI AK) ?_;refine asn ?_
    refine stn ?_ Aa (by decide)
    refine ar [3,4,5,6,7] ?_;refine .gh (Gh.nlD (t:=4) rfl) ?_;refine .ret ?_
    cases h
    exact ⟨_,_,_,rfl,⟨_,⟨.inr rfl,Ae,Aa,p2⟩,rfl⟩,rfl,rfl⟩
   refine cnf (bf hc) ?_;refine .sr ?_;refine vk (GK AJ) ?_;refine vk (GL (cs:=[.d (.sl (Is a1.shape)),.d (.sl (Its a1.items))]) (c:=.sl (Is a1.shape)) rfl rfl Bl) ?_;refine vk (A0 (Af _) (Bv _) Bp) ?_;refine vb ?_;refine ar [3,4,5,6,7,30] ?_
   rcases brc h with ⟨hc,h⟩|⟨hc,h⟩
   ·refine cnt (dT hc) ?_
    refine .region ?_;refine vk ((FE (Ed [1]) DE).deep) ?_;refine va ?_;refine vk (A0 (Af _) (Bv _) Bp) ?_
    exact nomatch h
   refine cnf (dF hc) ?_;refine .gk [3,4,5,6,7] ?_;refine .skip ?_
   exact jr () h
  refine cnt (ntt (dF hc)) ?_;refine .sr ?_;refine vk (vbd BW AI AK) ?_;refine va ?_;refine asn ?_
  refine stn ?_ Aa (by decide)
  refine ar [3,4,5,6,7] ?_;refine .gh (Gh.nlD (t:=4) rfl) ?_;refine .ret ?_
  cases h
  exact ⟨_,_,_,rfl,⟨_,⟨.inr rfl,Ae,Aa,p2⟩,rfl⟩,rfl,rfl⟩
 rintro _ h
 subst hK0
 refine .seq ?_;refine .sr ?_;refine va ?_;refine vk (A0 (Af _) (Bv _) Bp) ?_;refine vk (GK AJ) ?_;refine vk (GL (cs:=[.d (.sl (Is a1.shape)),.d (.sl (Its a1.items))]) (c:=.sl (Is a1.shape)) rfl rfl Bl) ?_;refine vk (A0 (Af _) (Bv _) Bp) ?_;refine vb ?_;refine rk [3,4,5,6,7,45] ?_
 rcases brc h with ⟨hc,h⟩|⟨hc,h⟩
 ·refine cnf (ntf (dT hc)) ?_
  refine .sk ?_;refine .seq ?_;refine .drawnF 2 [1] [(4,.d (.sl (Is x1.1)))] [HO.box [.d (.sl (Is a1.shape)),.d (.sl (Its a1.items))]] A3 (by kernel_rfl) rfl ?_;refine dv Ac ?_;refine dv (IC (cs:=[.d (.sl (Is a1.shape)),.d (.sl (Its a1.items))]) (ds:=[.sl (Is a1.shape),.sl (Its a1.items)]) rfl Ae Aa) ?_;refine dz ?_
  refine ⟨?_,?_,?_⟩
  ·intro k hk
   simp only [List.mem_cons,List.not_mem_nil,or_false] at hk
   subst hk
   exact ⟨_,_,_,rfl,rfl,rfl,rfl,rfl,rfl,(IC (cs:=[.d (.sl (Is a1.shape)),.d (.sl (Its a1.items))]) (ds:=[.sl (Is a1.shape),.sl (Its a1.items)]) rfl Ae Aa)⟩
  ·intro om e hom hge
   cases hom
   exact U4 rfl ((hge 47 (fun k hk v hv=>by
     simp only [List.mem_cons,List.not_mem_nil,or_false] at hk
     subst hk;exact (by decide:¬(some 48=some 47)) (congrArg (Option.map Prod.fst) hv))).trans rfl) rfl ((congrArg Am (hge 4 (fun k hk v hv=>by
     simp only [List.mem_cons,List.not_mem_nil,or_false] at hk
     subst hk;exact (by decide:¬(some 48=some 4)) (congrArg (Option.map Prod.fst) hv)))).trans rfl) rfl ⟨rfl,rfl⟩
  refine stn ?_ Aa (by decide)
  refine ar [4,5,6] ?_;refine .ret ?_
  cases h
  exact ⟨_,_,_,rfl,⟨_,⟨.inr rfl,Ae,Aa,p2⟩,rfl⟩,rfl,rfl⟩
 refine cnt (ntt (dF hc)) ?_;refine .sr ?_;refine vk (vbd BW AI AK) ?_;refine asn ?_
 refine stn ?_ Aa (by decide)
 refine ar [3,4,5,6,7] ?_;refine .gh (Gh.nlD (t:=4) rfl) ?_;refine .ret ?_
 cases h
 exact ⟨_,_,_,rfl,⟨_,⟨.inr rfl,Ae,Aa,p2⟩,rfl⟩,rfl,rfl⟩
def HQ (a0:(List Int)) (c0:Int) (c1:(List Int)) : Option (Int):=((Q4 c1 a0).bind fun x1=>(some ((w64 (c0+x1)))))
def DM (x1:(List Int)×Arr×Int) (x3:(List Int)) (K0:(List Int)→Int→Option (Arr×Int)) : Nat→(List Int)→Int→Int→Option (Arr×Int)
 | 0,_,_,_=>none
 | k+1,s6,s7,s8=>(if s7<((List.length x1.1:Nat):Int) then (jn (fun (z9:(List Int)) (z10:Int)=>(DM x1 x3 K0 k z9 (w64 (s7+1)) z10)) fun K2=>((rd? x1.1 s7).bind fun x11=>((rd? x1.2.1.shape s7).bind fun x12=>(if 0≤x11 then ((rd? x3 s7).bind fun x13=>((rd? s6 s7).bind fun x14=>(K2 (List.set s6 (Int.toNat s7) (w64 (x12-(if x12<x11 then x12 else x11)))) (w64 (s8+(w64 (x13 * (if x12<x11 then x12 else x11)))))))) else ((rd? s6 s7).bind fun x15=>(K2 (List.set s6 (Int.toNat s7) (if (w64 (x12+(if x11<(IntKind.wrap .i64 (0-x12)) then (IntKind.wrap .i64 (0-x12)) else x11)))<0 then 0 else (w64 (x12+(if x11<(IntKind.wrap .i64 (0-x12)) then (IntKind.wrap .i64 (0-x12)) else x11))))) s8)))))) else (K0 s6 s8))
def JE (a0:Arr) (a1:Arr) : Option (Arr×Int):=((CY a0 a1).bind fun x1=>(if x1.2.2=0 then ((Fp (0≤((List.length x1.1:Nat) : Int)∧((List.length x1.1:Nat) : Int)≤17592186044416)).bind fun x2=>((CI x1.2.1.shape).bind fun x3=>(jn (fun (z4:(List Int)) (z5:Int)=>((BI x1.2.1 z4 (⟨.fn 221 [] [.ptr [.i .i64 z5],.ptr [.sl (Is x3)]],fun x=>HQ x z5 x3⟩ : Dw)).bind fun x16=>(some (x16.1,x16.2)))) fun K0=>(DM x1 x3 K0 AC (List.replicate (Int.toNat ((List.length x1.1:Nat) : Int)) (0:Int)) 0 0)))) else (some ((Arr.mk [] []),x1.2.2))))
theorem N8 {xs:List Arr} {f:Br} {p:Arr→Bool} (hf:∀ x∈xs,f.g x=some (p x)) (K:Int→Option Int) (hl:xs.length≤17592186044416) : ∀ (n i k:Nat) (s:Int),n=xs.length-i→i≤xs.length→n<k →
  AA xs f K k s (i:Int)=match (xs.drop i).findIdx? p with|some j=>some (((i+j:Nat)):Int)|none=>K s
 | n,i,0,s,_,_,h=>by omega
 | n,i,k+1,s,hn,hi,hk=>by
  rw [AA]
  by_cases hlt:i<xs.length
  ·rw [if_pos (by omega),CD hlt,oB,hf _ (List.getElem_mem _),oB,lC hlt,List.findIdx?_cons]
   by_cases hp:p xs[i]=true
   ·rw [if_pos hp,if_pos hp];rfl
   ·rw [if_neg hp,if_neg hp,Cr (by omega),N8 hf K hl (n-1) (i+1) k s (by omega) (by omega) (by omega)]
    cases (xs.drop (i+1)).findIdx? p with
    | none=>rfl
    | some j=>simp only [Option.map_some];congr 1;omega
  ·rw [if_neg (by omega),List.drop_of_length_le (by omega)];rfl
theorem Js {xs:List Arr} {f:Br} {p:Arr→Bool} (hf:∀ x∈xs,f.g x=some (p x)) (hl:xs.length≤17592186044416) : Ar xs f=some (xs.any p):=by
 unfold Ar Bc
 rw [Cn]
 have:=N8 hf (fun _=>some (-1)) hl xs.length 0 AC 0 rfl (Nat.zero_le _) (B9 (by omega))
 rw [List.drop_zero,show ((0:Nat):Int)=0 from rfl] at this
 rw [this]
 cases h:xs.findIdx? p with
 | none =>
  rw [oB]
  have h1:=List.findIdx?_eq_none_iff.1 h
  have e:xs.any p=false:=List.any_eq_false.2 fun x hx=>by rw [h1 x hx];decide
  rw [e];rfl
 | some j =>
  rw [oB]
  congr 1
  have h2:xs.any p=true:=by
   have:=List.findIdx?_isSome (xs:=xs) (p:=p)
   rw [h] at this
   exact this.symm
  rw [h2]
  exact dT (by omega)
theorem Us {e:Int×RT×Int} (he:e.1=0∨e.1=1) {l:List Arr} (hl:l.length≤17592186044416) (ho:∀ a∈l,okAr a) : FN e l=some (!l.any fun a=>!decide (A7 a)):=by
 have hc:=Js (xs:=l) (f:=(⟨.fn 216 [] [],fun x=>C8 x⟩:Br)) (p:=fun a=>!decide (A7 a)) (fun a ha=>by
  show C8 a=_
  unfold C8;rw [FD (ho a ha)];rfl) hl
 unfold FN
 rcases he with h|h
 ·rw [if_pos h,hc];rfl
 ·rw [if_neg (by omega),if_pos h,hc];rfl
theorem Xb {p:Prop} [Decidable p] (h:p) : Fp p=some ():=if_pos h
def vec (xs:List Itm) : Arr:=.mk [(xs.length:Int)] xs
def VR (xs:List Itm) : Prop:=xs≠[]∧xs.length≤4096∧(∀ x∈xs,okI x)∧A7 (vec xs)
theorem GJ {n:Int} {xs:List Itm} : AQ (.mk [n] xs)=false:=by unfold AQ;rfl
theorem WA {xs ys:List Itm} (h:ys.Sublist xs) : cIs ys≤cIs xs:=by
 induction h with
 | slnil=>exact Nat.le_refl _
 | cons a _ ih=>simp only [cIs];omega
 | cons_cons a _ ih=>simp only [cIs];omega
theorem Uy {xs ys:List Itm} (h:∀ x∈ys,x∈xs) : dIs ys≤dIs xs:=Uc fun x hx=>Gk (h x hx)
theorem VR.ok {xs:List Itm} (h:VR xs) : okAr (vec xs):=by
 obtain ⟨_,h2,h3,_⟩:=h
 rw [BR]
 refine ⟨fun z hz=>?_,by show [(xs.length:Int)].length≤_;simp,by show xs.length≤_;omega,h3⟩
 have hz':z∈[(xs.length:Int)]:=hz
 rw [List.mem_singleton] at hz'
 omega
theorem VR.items {xs:List Itm} (h:VR xs) : ∀ x∈xs,okI x∧BX x:=fun x hx=>GP h.ok h.2.2.2 (x:=x) hx
theorem VR.sz {xs:List Itm} (h:VR xs) : szP (vec xs).shape=((xs.length:Int),0):=Kq h.2.1
theorem VR.pos {xs:List Itm} (h:VR xs) : 0<xs.length:=List.length_pos_iff.2 h.1
theorem UP {n:Nat} (h:n≤4096) : ∀ z∈[(n:Int)],-9223372036854775808≤z∧z≤9223372036854775807:=fun z hz=>by
 rw [List.mem_singleton] at hz;omega
theorem VR.make {xs:List Itm} (h:VR xs) : AM [(xs.length:Int)] xs=some (vec xs,0):=by
 obtain ⟨h1,h2,h3,h4⟩:=h
 have hs:=Kq h2
 have hp:=List.length_pos_iff.2 h1
 have hc:¬(xs=[]∨¬∀ x∈xs,BX x):=fun q=>q.elim h1 fun q=>q fun x hx=>(VR.items ⟨h1,h2,h3,h4⟩ x hx).2
 rw [GV (UP h2) (by simp) (by omega) h3,hs,if_neg (fun q=>q rfl),if_neg hc,F5 rfl (by omega),if_pos (show A7 (Arr.mk [(xs.length:Int)] xs) from h4)];rfl
theorem R4 {xs:List Itm} {a:Arr} (hx:∀ x∈xs,okI x) (hl:xs.length≤1466015503701) (h:AM [(xs.length:Int)] xs=some (a,0)) : VR xs∧a=vec xs:=by
 rw [GV (fun z hz=>by rw [List.mem_singleton] at hz;omega) (by simp) hl hx] at h
 by_cases h0:(szP [(xs.length:Int)]).2=0
 rotate_left
 ·rw [if_pos h0] at h
  exact absurd (congrArg Prod.snd (oI h)) h0
 have hd:=(Uf h0).1 _ (List.mem_singleton.2 rfl)
 have hs:=Kq (n:=xs.length) (by omega)
 rw [if_neg (fun q=>q h0)] at h
 by_cases hc:xs=[]∨¬∀ x∈xs,BX x
 ·rw [if_pos hc] at h
  exact absurd (congrArg Prod.snd (oI h)) (by show ¬(22:Int)=0;decide)
 rw [if_neg hc,hs] at h
 have h1:xs≠[]:=fun e=>hc (.inl e)
 have hp:=List.length_pos_iff.2 h1
 rw [F5 rfl (by omega)] at h
 by_cases hr:A7 (.mk [(xs.length:Int)] xs)
 ·rw [if_pos hr] at h
  exact ⟨⟨h1,by omega,hx,hr⟩,(congrArg Prod.fst (oI h)).symm⟩
 ·rw [if_neg hr] at h
  exact absurd (congrArg Prod.snd (oI h)) (by show ¬(8:Int)=0;decide)
theorem VR.of {xs:List Itm} (h1:xs≠[]) (h2:xs.length≤4096) (h3:∀ x∈xs,okI x∧rI x=true) (hd:dIs xs≤15) (hc:xs.length+cIs xs≤16384) : VR xs:=by
 refine ⟨h1,h2,fun x hx=>(h3 x hx).1,?_,?_,?_⟩
 ·rw [IX]
  show (decide ((szP [(xs.length:Int)]).2=0)&&(decide ((xs.length:Int)=if (szP [(xs.length:Int)]).1<1 then 1 else (szP [(xs.length:Int)]).1)&&rIs xs))=true
  have hp:=List.length_pos_iff.2 h1
  rw [Kq h2,FB.2 fun x hx=>(h3 x hx).2,if_neg (by show ¬(xs.length:Int)<1;omega)]
  simp
 ·rw [Ie]
  show (if AQ (.mk [(xs.length:Int)] xs)=true then 0 else 1+dIs xs)≤16
  rw [GJ,if_neg (by decide)];omega
 ·rw [IV];exact hc
theorem VR.parts {xs:List Itm} (h:VR xs) : dIs xs≤15∧xs.length+cIs xs≤16384:=by
 obtain ⟨_,_,_,_,h2,h3⟩:=h
 rw [Ie] at h2
 have h2':(if AQ (.mk [(xs.length:Int)] xs)=true then 0 else 1+dIs xs)≤16:=h2
 rw [GJ,if_neg (by decide)] at h2'
 rw [IV] at h3
 have h3':xs.length+cIs xs≤16384:=h3
 omega
theorem VR.sub {xs ys:List Itm} (h:VR xs) (hs:ys.Sublist xs) (hn:ys≠[]) : VR ys:=by
 obtain ⟨p1,p2⟩:=h.parts
 have hl:=hs.length_le
 have hc:=WA hs
 have h2:=h.2.1
 exact .of hn (by omega) (fun x hx=>⟨(h.items x (hs.subset hx)).1,(h.items x (hs.subset hx)).2.1⟩) (nT (Uy fun x hx=>hs.subset hx) p1) (by omega)
theorem VR.zero {xs:List Itm} (h:VR xs) : AM [0] [tyI (xs.headD default)]=some (.mk [0] [tyI (xs.headD default)],0)∧okAr (.mk [0] [tyI (xs.headD default)])∧A7 (.mk [0] [tyI (xs.headD default)]):=by
 obtain ⟨p1,p2⟩:=h.parts
 obtain ⟨x,ys,rfl⟩:=List.exists_cons_of_ne_nil h.1
 obtain ⟨ox,rx⟩:=h.items x (by simp)
 obtain ⟨t1,t2,t3,t4,t5,t6⟩:=Ra ox rx.1
 have hI:okI (tyI x)∧BX (tyI x):=⟨t6,t1,t2▸rx.2.1,t3▸rx.2.2⟩
 have hsz:szP [0]=(0,0):=rfl
 have hmk:CA (szP [0]).1 [tyI x]=[tyI x]:=by
  rw [hsz];show [tyI (tyI x)]=_;rw [t4]
 have hd:dI x≤15:=nT (Gk (List.mem_cons_self ..)) p1
 have hcx:1+cI x≤16384:=by
  have:cIs (x::ys)=cI x+cIs ys:=rfl
  rw [this,List.length_cons] at p2;omega
 have hR:A7 (.mk [0] [tyI x]):=by
  refine ⟨?_,?_,?_⟩
  ·rw [IX,Ep,DU,hsz,FB.2 (by simpa using t1)];rfl
  ·rw [Ie,GJ,if_neg (by decide),DU,dIs,dIs,Nat.max_zero,t2];omega
  ·rw [IV,DU];simp only [cIs,List.length_singleton];omega
 have hc:¬([tyI x]=[]∨¬∀ y∈[tyI x],BX y):=fun q=>q.elim (fun e=>by cases e) fun q=>q fun y hy=>by rw [List.mem_singleton] at hy;subst hy;exact hI.2
 refine ⟨?_,?_,hR⟩
 ·show AM [0] [tyI x]=some (.mk [0] [tyI x],0)
  rw [GV (fun z hz=>by rw [List.mem_singleton] at hz;omega) (by simp) (by simp) (fun y hy=>by rw [List.mem_singleton] at hy;subst hy;exact hI.1),hmk,if_neg (by rw [hsz];exact fun q=>q rfl),if_neg hc,if_pos hR]
 ·show okAr (.mk [0] [tyI x])
  rw [BR]
  exact ⟨fun z hz=>by rw [Ep,List.mem_singleton] at hz;omega,by simp [Ep],by simp [DU],fun y hy=>by rw [DU,List.mem_singleton] at hy;subst hy;exact hI.1⟩
theorem Ww {z:Int} (hz:Gg z) : okAr (.mk [] [Fg z])∧A7 (.mk [] [Fg z]):=⟨XN (OW hz),(OB (GE hz) rfl (by show (1:Int)≠3;decide)).1⟩
theorem OU {z:Int} (h:Gg z) : GF (.mk [] [Fg z])=some ([z],true):=by
 obtain ⟨on,rn⟩:=Ww h
 unfold GF TT
 rw [FD on,oB,dT rn,if_pos rfl,if_pos (by simp [Ep]),MW on,Ep,Kk,if_neg (by rintro (q|q);exact absurd q (by decide);exact q rn),DU,oB,if_pos (by simp)]
 have:=Lc (l:=[z]) (s:=[]) (by simpa using h) (by simp)
 rw [List.map_singleton] at this
 rw [this];rfl
theorem PQ {z:Int} (h:Gg z) : C4 (.mk [] [Fg z])=some ([z],0):=by
 unfold C4
 rw [Ep,if_neg (by simp),OU h];rfl
theorem JZ {z n:Int} {xs:List Itm} (h:Gg z) : CY (.mk [] [Fg z]) (.mk [n] xs)=some ([z],.mk [n] xs,0):=by
 unfold CY
 rw [PQ h,oB,Cn,if_pos rfl,Ep]
 rfl
theorem Tg {n:Nat} {xs:List Itm} {z:Nat} (hL:n≤4096) (hz:z≤1000) (K:List Int→Int→Option (Arr×Int)) (k:Nat) :
  DM ([(z:Int)],.mk [(n:Int)] xs,0) [1] K (k+2) [0] 0 0=K [((n-min z n:Nat):Int)] ((min z n:Nat):Int):=by
 rw [DM,if_pos (by simp),Cn,Io,oB,Ep,Io,oB,if_pos (by omega),Io,oB,Io,oB]
 have e:(if (n:Int)<(z:Int) then (n:Int) else (z:Int))=((min z n:Nat):Int):=by
  by_cases q:(n:Int)<(z:Int)
  ·rw [if_pos q];omega
  ·rw [if_neg q];omega
 have a1:w64 (1 * ((min z n:Nat):Int))=((min z n:Nat):Int):=by rw [Int.one_mul];exact B8 (by omega) (by omega)
 have a2:w64 (0+((min z n:Nat):Int))=((min z n:Nat):Int):=by rw [Int.zero_add];exact B8 (by omega) (by omega)
 have a3:w64 ((n:Int)-((min z n:Nat):Int))=((n-min z n:Nat):Int):=by rw [B8 (by omega) (by omega)];omega
 have a4:w64 (0+1)=1:=B8 (by omega) (by omega)
 rw [e,a1,a2,a3,a4]
 show DM _ [1] K (k+1) _ 1 _=_
 rw [DM,if_neg (by simp)]
 rfl
theorem Q9 {n:Nat} {xs:List Itm} {z:Nat} (hL:n≤4096) (hz:z≤1000) : JE (.mk [] [Fg z]) (.mk [(n:Int)] xs) =
  BI (.mk [(n:Int)] xs) [((n-min z n:Nat):Int)] ⟨.fn 221 [] [.ptr [.i .i64 ((min z n:Nat):Int)],.ptr [.sl (Is [1])]],fun x=>HQ x ((min z n:Nat):Int) [1]⟩:=by
 have hF:AC=999999999999998+2:=rfl
 unfold JE
 rw [JZ ⟨by omega,by omega⟩,oB,if_pos rfl,Xb (by simp),oB,HC (by simp [Ep]),oB,Cn,hF]
 have hst:(JJ (Arr.mk [(n:Int)] xs).shape).1=[1]:=rfl
 simp only [hst]
 have:=Tg (n:=n) (xs:=xs) (z:=z) hL hz (fun z4 z5=>(BI (.mk [(n:Int)] xs) z4 ⟨.fn 221 [] [.ptr [.i .i64 z5],.ptr [.sl (Is [1])]],fun x=>HQ x z5 [1]⟩).bind fun x16=>some (x16.1,x16.2)) 999999999999998
 refine Eq.trans this ?_
 generalize BI _ _ _=m
 cases m<;>rfl
theorem Yy {p:Itm} (o:okAr (.mk [0] [p])) (r:A7 (.mk [0] [p])) {z:Nat} (hz:z≤1000) : JE (.mk [] [Fg z]) (.mk [0] [p])=some (.mk [0] [tyI p],0):=by
 have:=Q9 (n:=0) (xs:=[p]) (z:=z) (by omega) hz
 rw [show ((0:Nat):Int)=0 from rfl] at this
 rw [this]
 have hm:0-min z 0=0:=by omega
 rw [hm]
 refine (Ni (P1 o r) (by simp) rfl).trans ?_
 exact Tn o r rfl (fun z hz=>by rw [List.mem_singleton] at hz;omega) (by simp) rfl (.inr rfl)
end Go.FL
