/-
  Part 4 of the base of the proofs: a logic of our own over the calculus, the contracts of the functions
-/
import Derived.Test.YtipdmmpgepoggaaGreatSdC
set_option linter.unusedVariables false
namespace Go.FL
open Go Go.Proofs
mutual
def tyI : Itm→Itm
 | .mk k _ _ b=>if k=1 then .mk 1 (ofQ 0) 0 [] else if k=2 then .mk 2 (false,[],[]) 32 [] else .mk 3 (false,[],[]) 0 (tyBs b)
def tyA : Arr→Arr
 | .mk s i=>.mk s (tyIs i)
def tyIs : List Itm→List Itm
 | []=>[]
 | x::xs=>tyI x::tyIs xs
def tyBs : List Arr→List Arr
 | []=>[]
 | a::_=>[tyA a]
end
theorem Ej (s:List Int) (i:List Itm) : (Arr.mk s i).shape=s:=rfl
theorem C9 (s:List Int) (i:List Itm) : (Arr.mk s i).items=i:=rfl
theorem JY (k:Int) (n:RT) (c:Int) (b:List Arr) : (Itm.mk k n c b).kind=k:=rfl
theorem St (k:Int) (n:RT) (c:Int) (b:List Arr) : (Itm.mk k n c b).num=n:=rfl
theorem Si (k:Int) (n:RT) (c:Int) (b:List Arr) : (Itm.mk k n c b).char=c:=rfl
theorem Qc (k:Int) (n:RT) (c:Int) (b:List Arr) : (Itm.mk k n c b).box=b:=rfl
theorem QD (xs:List Itm) : tyIs xs=xs.map tyI:=by induction xs with
 | nil=>simp [tyIs]
 | cons x xs ih=>simp [tyIs,ih]
theorem GH (a:Arr) : tyA a=.mk a.shape (a.items.map tyI):=by cases a;simp only [tyA,QD];rfl
theorem Ec : ∀ {xs:List Itm},rIs xs=true↔∀ x∈xs,rI x=true
 | []=>by simp [rIs]
 | x::xs=>by simp [rIs,Ec (xs:=xs)]
theorem NX : ∀ {xs:List Arr},rBs xs=true↔∀ a∈xs,AU a=false∧rA a=true
 | []=>by simp [rBs]
 | x::xs=>by simp [rBs,NX (xs:=xs)]
theorem JD {x:Itm} (h:rI x=true) : (x.kind=1∧EF x.num=true∧x.char=0∧x.box=[])∨(x.kind=2∧chB x.char=true∧x.num=(false,[],[])∧x.box=[])∨(x.kind=3∧x.num=(false,[],[])∧x.char=0∧∃ a,x.box=[a]∧AU a=false∧rA a=true):=by
 rw [Qk] at h
 by_cases k1:x.kind=1
 ·rw [if_pos k1] at h;simp only [Bool.and_eq_true,decide_eq_true_eq] at h
  exact .inl ⟨k1,h.1,h.2.1,List.length_eq_zero_iff.1 h.2.2⟩
 rw [if_neg k1] at h
 by_cases k2:x.kind=2
 ·rw [if_pos k2] at h;simp only [Bool.and_eq_true,decide_eq_true_eq] at h
  exact .inr (.inl ⟨k2,h.1,(Ke x).1 h.2.1,List.length_eq_zero_iff.1 h.2.2⟩)
 rw [if_neg k2] at h
 by_cases k3:x.kind=3
 ·rw [if_pos k3] at h;simp only [Bool.and_eq_true,decide_eq_true_eq] at h
  obtain ⟨a,ha⟩:=List.length_eq_one_iff.1 h.1
  refine .inr (.inr ⟨k3,(Ke x).1 h.2.1,h.2.2.1,a,ha,NX.1 h.2.2.2 a (by simp [ha])⟩)
 ·rw [if_neg k3] at h;cases h
def RQ (x:Itm) : Prop:=rI (tyI x)=true∧dI (tyI x)=dI x∧cI (tyI x)=cI x∧tyI (tyI x)=tyI x∧(tyI x).kind=x.kind∧okI (tyI x)
theorem Nf {s:List Int} {i:List Itm} {f:Itm→Itm} (h:∀ x∈i,(f x).kind=x.kind) : AU (.mk s (i.map f))=AU (.mk s i):=by
 unfold AU
 match i with
 | []=>rfl
 | [x]=>simp only [Ej,C9,List.map,h x (by simp)]
 | x::y::r=>rfl
theorem N4 {f:Itm→Itm} : ∀ {i:List Itm},(∀ x∈i,cI (f x)=cI x)→cIs (i.map f)=cIs i
 | [],_=>rfl
 | x::xs,h=>by simp only [List.map,cIs];rw [h x (by simp),N4 fun y hy=>h y (by simp [hy])]
theorem N0 {f:Itm→Itm} : ∀ {i:List Itm},(∀ x∈i,dI (f x)=dI x)→dIs (i.map f)=dIs i
 | [],_=>rfl
 | x::xs,h=>by simp only [List.map,dIs];rw [h x (by simp),N0 fun y hy=>h y (by simp [hy])]
theorem Sx {a:Arr} (oa:okAr a) (hr:rA a=true) (ih:∀ x∈a.items,RQ x) : rA (tyA a)=true∧dA (tyA a)=dA a∧cA (tyA a)=cA a∧tyA (tyA a)=tyA a∧AU (tyA a)=AU a∧okAr (tyA a):=by
 have o:=(BE a).1 oa
 have hs:AU (tyA a)=AU a:=by
  rw [GH,Nf (fun x hx=>(ih x hx).2.2.2.2.1),Arr.eta]
 rw [GX] at hr
 simp only [Bool.and_eq_true,decide_eq_true_eq] at hr
 refine ⟨?_,?_,?_,?_,hs,?_⟩
 ·rw [GX,GH]
  simp only [Ej,C9,List.length_map,Bool.and_eq_true,decide_eq_true_eq]
  refine ⟨dT hr.1,hr.2.1,Ec.2 fun x hx=>?_⟩
  obtain ⟨y,hy,rfl⟩:=List.mem_map.1 hx
  exact (ih y hy).1
 ·rw [G0,G0,hs,GH]
  simp only [C9]
  rw [N0 fun x hx=>(ih x hx).2.1]
 ·rw [Gx,Gx,GH]
  simp only [C9,List.length_map]
  rw [N4 fun x hx=>(ih x hx).2.2.1]
 ·rw [GH,GH]
  simp only [Ej,C9,List.map_map,Arr.mk.injEq,true_and]
  exact List.map_congr_left fun x hx=>(ih x hx).2.2.2.1
 ·rw [BE,GH]
  simp only [Ej,C9,List.length_map]
  refine ⟨o.1,o.2.1,o.2.2.1,fun x hx=>?_⟩
  obtain ⟨y,hy,rfl⟩:=List.mem_map.1 hx
  exact (ih y hy).2.2.2.2.2
theorem PZ (n:RT) (c:Int) (b:List Arr) : tyI (.mk 1 n c b)=.mk 1 (ofQ 0) 0 []:=by simp [tyI]
theorem QU (n:RT) (c:Int) (b:List Arr) : tyI (.mk 2 n c b)=.mk 2 (false,[],[]) 32 []:=by simp [tyI]
theorem Qq (n:RT) (c:Int) (a:Arr) : tyI (.mk 3 n c [a])=.mk 3 (false,[],[]) 0 [tyA a]:=by simp [tyI,tyBs]
theorem Od {r:RT} (h:Ig r=true) : okI (.mk 1 r 0 []):=by
 simp [okI,okAs,h]
theorem PW {c:Int} (h:chB c=true) : okI (.mk 2 (false,[],[]) c []):=by
 simp only [chB,Bool.and_eq_true,decide_eq_true_eq] at h
 refine ⟨by omega,rfl,by omega,by simp,trivial⟩
theorem RO {a:Arr} (h:okAr a) : okI (.mk 3 (false,[],[]) 0 [a]):=⟨by omega,rfl,by omega,by simp,h,trivial⟩
theorem Q9 {r:RT} (h:EF r=true) : rI (.mk 1 r 0 [])=true:=by simp [rI,h]
theorem RR {c:Int} (h:chB c=true) : rI (.mk 2 (false,[],[]) c [])=true:=by simp [rI,h,DM,Itm.num]
theorem Sy {a:Arr} (h:rA a=true) (hs:AU a=false) : rI (.mk 3 (false,[],[]) 0 [a])=true:=by simp [rI,rBs,h,hs,DM,Itm.num]
theorem Qr : ∀ (k:Nat) {x:Itm},x.size<k→okI x→rI x=true→RQ x
 | 0,x,h,_,_=>by omega
 | k+1,x,h,ho,hr=>by
  have hc:=JD hr
  cases x with
  | mk kd n c b =>
   simp only [JY,St,Si,Qc] at hc
   unfold RQ
   rcases hc with ⟨rfl,h1,rfl,rfl⟩|⟨rfl,h1,rfl,rfl⟩|⟨rfl,rfl,rfl,a,rfl,h2,h3⟩
   ·rw [PZ,PZ]
    exact ⟨Q9 (IP IM),rfl,rfl,rfl,rfl,Od (Gl IM)⟩
   ·rw [QU,QU]
    exact ⟨RR rfl,rfl,rfl,rfl,rfl,PW rfl⟩
   ·have hb:a∈Itm.box (.mk 3 (false,[],[]) 0 [a]):=by simp [Itm.box]
    have hz:=Gm hb
    have oa:okAr a:=((D8 _).1 ho).2.2.2.2 a hb
    have h3':=h3
    rw [GX] at h3';simp only [Bool.and_eq_true] at h3'
    obtain ⟨p1,p2,p3,p4,p5,p6⟩:=Sx oa h3 fun y hy=>Qr k (by have:=HT hy;omega) (((BE a).1 oa).2.2.2 y hy) (Ec.1 h3'.2.2 y hy)
    rw [Qq,Qq,p4]
    refine ⟨Sy p1 (by rw [p5,h2]),?_,?_,rfl,rfl,RO p6⟩
    ·simp only [dI,dBs,p2]
    ·simp only [cI,cBs,p3]
theorem Nn {x:Itm} (ho:okI x) (hr:rI x=true) : RQ x:=Qr _ (Nat.lt_succ_self _) ho hr
theorem JA : ∀ (k:Nat) {x:Itm},x.size<k→okI x→rI x=true→D5 k x=some (tyI x)
 | 0,x,h,_,_=>by omega
 | k+1,x,h,ho,hr=>by
  have hc:=JD hr
  cases x with
  | mk kd n c b =>
   simp only [JY,St,Si,Qc] at hc
   rw [D5,Fd]
   rcases hc with ⟨rfl,h1,rfl,rfl⟩|⟨rfl,h1,rfl,rfl⟩|⟨rfl,rfl,rfl,a,rfl,h2,h3⟩
   ·rw [if_pos (JY 1 n 0 []),PZ,Om (by omega) (by omega),oB,Rat.intCast_zero,IW (Gl IM),oB]
   ·rw [if_neg (by rw [JY];decide),if_pos (JY 2 _ c []),QU];rfl
   ·have hb:a∈Itm.box (.mk 3 (false,[],[]) 0 [a]):=by simp [Itm.box]
    have hz:=Gm hb
    have oa:okAr a:=((D8 _).1 ho).2.2.2.2 a hb
    have h3':=h3
    rw [GX] at h3';simp only [Bool.and_eq_true] at h3'
    have o:=(BE a).1 oa
    rw [if_neg (by rw [JY];decide),if_neg (by rw [JY];decide),Qc,Kv,oB,IH (h:=tyI) (fun y hy=>JA k (by have:=HT hy;omega) (o.2.2.2 y hy) (Ec.1 h3'.2.2 y hy)) o.2.1 o.2.2.1,oB,Qq,GH]
theorem Ma {x:Itm} (ho:okI x) (hr:rI x=true) : HV x=some (tyI x):=JA _ (Nat.lt_succ_self _) ho hr
theorem IL {a:Arr} (h:rA a=true) : (szP a.shape).2=0∧(a.items.length:Int)=(if (szP a.shape).1<1 then 1 else (szP a.shape).1)∧∀ x∈a.items,rI x=true:=by
 rw [GX] at h;simp only [Bool.and_eq_true,decide_eq_true_eq] at h
 exact ⟨h.1,h.2.1,Ec.1 h.2.2⟩
theorem PL {a:Arr} (ha:okAr a) : Dy a=some (if (szP a.shape).1=0∨¬A3 a then [] else a.items):=by
 have o:=(BE a).1 ha
 unfold Dy
 rw [HR o.2.1,oB]
 by_cases h0:(szP a.shape).1=0
 ·rw [if_pos h0,if_pos (.inl h0)];rfl
 rw [if_neg h0,Gt ha,oB]
 by_cases h:A3 a
 ·rw [dT h,if_neg (by rintro (q|q);exact h0 q;exact q h),Bool.not_true,oB,if_neg (by decide),M0 ha];rfl
 ·rw [dF h,if_pos (.inr h)];rfl
theorem KW {xs:List Itm} {f:BT} {p:Itm→Bool} (hf:∀ x∈xs,f.g x=some (p x)) (K:Int→Option Int) (hl:xs.length≤17592186044416) : ∀ (n i k:Nat) (s:Int),n=xs.length-i→i≤xs.length→n<k →
  (An xs f K k s (i:Int)=K s∧(xs.drop i).any p=false)∨(∃ j:Nat,An xs f K k s (i:Int)=some (j:Int)∧(xs.drop i).any p=true)
 | _,_,0,_,_,_,h=>by omega
 | n,i,k+1,s,hn,hi,hk=>by
  rw [An]
  by_cases h:i<xs.length
  ·rw [if_pos (by omega),Cp h,oB,hf _ (List.getElem_mem h),oB,lC h,List.any_cons]
   by_cases hp:p xs[i]=true
   ·rw [if_pos hp,hp];exact .inr ⟨i,rfl,rfl⟩
   ·rw [if_neg hp,Cm (by omega)]
    have:p xs[i]=false:=by simpa using hp
    rw [this,Bool.false_or]
    exact KW hf K hl (n-1) (i+1) k s (by omega) (by omega) (by omega)
  ·rw [if_neg (by omega),List.drop_of_length_le (by omega)];exact .inl ⟨rfl,rfl⟩
theorem Ku {xs:List Itm} {f:BT} {p:Itm→Bool} (hf:∀ x∈xs,f.g x=some (p x)) (hl:xs.length≤17592186044416) : AD xs f=some (xs.any p):=by
 unfold AD AX
 rw [Df]
 rcases KW hf (fun _=>some (-1)) hl xs.length 0 AT 0 rfl (Nat.zero_le _) (Cn (by omega)) with ⟨h1,h2⟩|⟨j,h1,h2⟩
 ·rw [show ((0:Nat):Int)=0 from rfl] at h1
  rw [h1,oB,List.drop_zero] at *
  rw [h2];rfl
 ·rw [show ((0:Nat):Int)=0 from rfl] at h1
  rw [h1,oB]
  rw [List.drop_zero] at h2
  rw [h2,dT (by omega)]
def Dg (xs:List Itm) : List Int:=xs.map fun x=>((1+cI x:Nat) : Int)
theorem O6 {x:Itm} (hx:okI x) (hr:B6 x) : ∀ a∈x.box,okAr a∧A3 a∧cI x=cA a∧x.box=[a]:=fun a ha=>by
 have oa:=((D8 x).1 hx).2.2.2.2 a ha
 rcases JD hr.1 with ⟨_,_,_,h⟩|⟨_,_,_,h⟩|⟨_,_,_,b,h,h2,h3⟩
 ·rw [h] at ha;cases ha
 ·rw [h] at ha;cases ha
 ·have hb:=ha
  rw [h,List.mem_singleton] at hb
  subst hb
  have e1:cI x=cA a:=by rw [Mp,h];simp [cBs]
  have e2:dI x=dA a:=by rw [NK,h];simp [dBs]
  exact ⟨oa,⟨h3,e2▸hr.2.1,e1▸hr.2.2⟩,e1,h⟩
theorem RF {x:Itm} (hx:okI x) (hr:B6 x) (K:Int→Option (Arr×Int)) : BY x K AT 1 0=K ((1+cI x:Nat) : Int):=by
 have hF:AT=999999999999998+1+1:=rfl
 rw [hF,BY]
 by_cases hb:x.box=[]
 ·rw [if_neg (by rw [hb];decide)]
  have:cI x=0:=by rw [Mp,hb];rfl
  rw [this];rfl
 ·obtain ⟨a,ha⟩:=List.exists_mem_of_ne_nil _ hb
  obtain ⟨oa,ra,e1,e2⟩:=O6 hx hr a ha
  have h16:=ra.2.2
  rw [e2,if_pos (by simp),Kv,oB,QM oa,oB,if_pos ra,BY,e2,if_neg (by rw [show w64 ((0:Int)+1)=1 from rfl];simp),CD (by omega) (by omega),e1]
  congr 1
theorem Oe {xs:List Itm} (hx:∀ x∈xs,okI x∧B6 x) (hl:xs.length≤1466015503701) (K:List Int→Option (Arr×Int)) : ∀ (n i k:Nat) (t:List Int),n=xs.length-i→i≤xs.length→n<k→t.length=i →
  Bw xs K k t (i:Int)=K (t++(Dg xs).drop i)
 | _,_,0,_,_,_,h,_=>by omega
 | n,i,k+1,t,hn,hi,hk,ht=>by
  rw [Bw]
  have hcl:(Dg xs).length=xs.length:=by simp [Dg]
  by_cases h:i<xs.length
  ·obtain ⟨o,r⟩:=hx _ (List.getElem_mem h)
   have hd:(Dg xs)[i]'(by omega)=((1+cI xs[i]:Nat):Int):=by simp [Dg]
   rw [if_pos (by omega),Df,Cp h,oB,Df,RF o r,HZ (by simp;omega),oB,Cm (by omega)]
   show Bw xs K k (t++[((1+cI xs[i]:Nat):Int)]) ((i+1:Nat):Int)=_
   rw [Oe hx hl K (n-1) (i+1) k _ (by omega) (by omega) (by omega) (by simp [ht]),
    lC (by omega:i<(Dg xs).length),hd,List.append_assoc]
   rfl
  ·rw [if_neg (by omega),List.drop_of_length_le (by omega),List.append_nil]
def cyc (xs:List Itm) (n:Nat) : List Itm:=(List.range n).map fun i=>xs.getD (i % xs.length) default
theorem Kj (xs:List Itm) (n:Nat) : cyc xs (n+1)=cyc xs n++[xs.getD (n % xs.length) default]:=by
 unfold cyc;rw [List.range_succ,List.map_append];rfl
theorem FA (xs:List Itm) (n:Nat) : (cyc xs n).length=n:=by simp [cyc]
theorem LK (xs ys:List Itm) : cIs (xs++ys)=cIs xs+cIs ys:=by
 induction xs with
 | nil=>simp [cIs]
 | cons x xs ih=>simp only [List.cons_append,cIs,ih];omega
theorem R6 {xs:List Itm} (h:xs≠[]) {n:Nat} {x:Itm} (hx:x∈cyc xs n) : x∈xs:=by
 unfold cyc at hx
 obtain ⟨i,_,rfl⟩:=List.mem_map.1 hx
 have hp:0<xs.length:=List.length_pos_iff.2 h
 have hlt:=Nat.mod_lt i hp
 rw [lD,lG hlt]
 exact List.getElem_mem hlt
theorem SC (xs:List Itm) {i n:Nat} (h:i≤n) : i+cIs (cyc xs i)≤n+cIs (cyc xs n):=by
 induction n with
 | zero =>
  have:i=0:=by omega
  subst this;exact Nat.le_refl _
 | succ n ih =>
  by_cases he:i=n+1
  ·subst he;exact Nat.le_refl _
  ·have:=ih (by omega)
   rw [Kj,LK];omega
theorem NQ {xs:List Itm} (hx:∀ x∈xs,okI x∧B6 x) (hne:xs≠[]) (hl:xs.length≤1466015503701) {m:Nat} (hm:m≤4096) (x1:Int×Int) (hx1:x1.1=(m:Int)) (K:Arr→Int→List Int→List Itm→Option (Arr×Int)) (a:Arr) (b:Int) (s:List Int) (t0:List Itm) (ht0:t0.length≤1) : ∀ (n i k:Nat),n=m-i→i≤m→n<k→i+cIs (cyc xs i)≤16384 →
  BD xs x1 (Dg xs) K k a b (i:Int) ((i+cIs (cyc xs i):Nat):Int) s (t0++cyc xs i)=if m+cIs (cyc xs m)≤16384 then K a b s (t0++cyc xs m) else some (.mk [] [],8)
 | _,_,0,_,_,h,_=>by omega
 | n,i,k+1,hn,hi,hk,hc=>by
  rw [BD]
  have hcl:(Dg xs).length=xs.length:=by simp [Dg]
  have hp:0<xs.length:=List.length_pos_iff.2 hne
  by_cases h:i<m
  ·have hlt:=Nat.mod_lt i hp
   have htm:Int.tmod (i:Int) ((xs.length:Nat):Int)=((i % xs.length:Nat):Int):=by
    rw [Int.tmod_eq_emod_of_nonneg (by omega)];rfl
   have hgr:Et (((List.length xs:Nat):Int)≠0)=some ():=if_pos (by omega)
   have hd:(Dg xs)[i % xs.length]'(by omega)=((1+cI xs[i % xs.length]:Nat):Int):=by simp [Dg]
   obtain ⟨o,r⟩:=hx _ (List.getElem_mem hlt)
   have hg:xs.getD (i % xs.length) default=xs[i % xs.length]:=by rw [lD,lG hlt];rfl
   have hci:cI xs[i % xs.length]≤16384:=r.2.2
   have hsum:cIs (cyc xs (i+1))=cIs (cyc xs i)+cI xs[i % xs.length]:=by rw [Kj,LK,hg];simp [cIs]
   rw [if_pos (by omega),hgr,oB,htm,Cp (by omega:i % xs.length<(Dg xs).length),oB,hd,CD (by omega) (by omega)]
   by_cases hbig:(16384:Int)<((i+cIs (cyc xs i):Nat):Int)+((1+cI xs[i % xs.length]:Nat):Int)
   ·rw [if_pos hbig,if_neg]
    have:=SC xs (show i+1≤m by omega)
    omega
   ·have hlen:=FA xs i
    rw [if_neg hbig,oB,Cp hlt,oB,Lm o,oB,HZ (by simp;omega),oB,Cm (by omega)]
    have ih:=NQ hx hne hl hm x1 hx1 K a b s t0 ht0 (n-1) (i+1) k (by omega) (by omega) (by omega) (by omega)
    rw [Kj,hg] at ih
    rw [← ih,List.append_assoc]
    congr 1
    rw [LK];simp only [cIs];omega
  ·have:i=m:=by omega
   subst this
   rw [if_neg (by omega),if_pos hc]
def B5 (n:Int) (xs:List Itm) : List Itm:=if n=0 then [tyI (xs.headD default)] else cyc xs n.toNat
theorem H8 {s:List Int} {xs:List Itm} (hs:∀ z∈s,-9223372036854775808≤z∧z≤9223372036854775807) (hl:s.length≤17592186044416) (hxl:xs.length≤1466015503701) (hx:∀ x∈xs,okI x) :
  AN s xs=some (if (szP s).2≠0 then (.mk [] [],(szP s).2) else if xs=[]∨¬(∀ x∈xs,B6 x) then (.mk [] [],22) else if A3 (.mk s (B5 (szP s).1 xs)) then (.mk s (B5 (szP s).1 xs),0) else (.mk [] [],8)):=by
 unfold AN
 rw [HR hl,oB]
 by_cases h0:(szP s).2=0
 rotate_left
 ·rw [if_neg h0,if_pos h0]
 have h0':¬((szP s).2≠0):=fun h=>h h0
 rw [if_pos h0,if_neg h0']
 by_cases hn:xs=[]
 ·subst hn;rw [if_pos (show ((([]:List Itm).length:Nat):Int)=0 from rfl),if_pos (.inl rfl)];rfl
 have hlen:¬((xs.length:Nat):Int)=0:=by have:=List.length_pos_iff.2 hn;omega
 rw [if_neg hlen,Ku (p:=fun x=>!decide (B6 x)) (fun x hx'=>by
  show DF x=_
  unfold DF;rw [Lv (hx x hx'),oB]) (by omega),oB,oB]
 by_cases hr:∀ x∈xs,B6 x
 rotate_left
 ·rw [if_pos (.inr hr:xs=[]∨¬∀ x∈xs,B6 x),if_pos]
  rw [List.any_eq_true]
  simp only [Classical.not_forall] at hr
  obtain ⟨x,h1,h2⟩:=hr
  exact ⟨x,h1,by rw [dF h2];rfl⟩
 rw [if_neg (show ¬(xs=[]∨¬∀ x∈xs,B6 x) from fun h=>h.elim hn fun h=>h hr),if_neg (by
  intro h
  rw [List.any_eq_true] at h
  obtain ⟨x,h1,h2⟩:=h
  rw [dT (hr x h1)] at h2;cases h2),Li hl,oB,Df]
 have hp:0<xs.length:=List.length_pos_iff.2 hn
 have hxr:∀ x∈xs,okI x∧B6 x:=fun x h=>⟨hx x h,hr x h⟩
 obtain ⟨hz0,hz1⟩:=LG s
 obtain ⟨m,hm⟩:∃ m:Nat,(szP s).1=(m:Int):=⟨(szP s).1.toNat,by omega⟩
 have hgo:∀ t0:List Itm,t0.length≤1→t0++cyc xs m=B5 (szP s).1 xs→(∀ x∈B5 (szP s).1 xs,okI x)→m+cIs (cyc xs m)≤cA (.mk s (B5 (szP s).1 xs)) →
   Bw xs (fun z8=>jn (fun z19 z20 z21 z22=>(A2 (Arr.mk z21 z22)).bind fun x35=>if x35=true then some (Arr.mk z21 z22,0) else some (Arr.mk [] [],8)) fun K6=>BD xs (szP s) z8 K6 AT (Arr.mk [] []) 0 0 0 s t0) AT [] 0=some (if A3 (.mk s (B5 (szP s).1 xs)) then (.mk s (B5 (szP s).1 xs),0) else (.mk [] [],8)):=by
  intro t0 ht0 he hok hca
  have e2:=Oe hxr hxl (fun z8=>jn (fun z19 z20 z21 z22=>(A2 (Arr.mk z21 z22)).bind fun x35=>if x35=true then some (Arr.mk z21 z22,0) else some (Arr.mk [] [],8)) fun K6=>BD xs (szP s) z8 K6 AT (Arr.mk [] []) 0 0 0 s t0) xs.length 0 AT [] rfl (Nat.zero_le _) (Cn (by omega)) rfl
  rw [show ((0:Nat):Int)=0 from rfl] at e2
  rw [e2,List.nil_append,List.drop_zero]
  show jn _ _=_
  rw [Df]
  have e7:=NQ hxr hn hxl (show m≤4096 by omega) (szP s) hm (fun z19 z20 z21 z22=>(A2 (Arr.mk z21 z22)).bind fun x35=>if x35=true then some (Arr.mk z21 z22,0) else some (Arr.mk [] [],8)) (Arr.mk [] []) 0 s t0 ht0 m 0 AT rfl (Nat.zero_le _) (Cn (by omega)) (by show 0+0≤_;omega)
  rw [show cyc xs 0=[] from rfl,List.append_nil,show ((0:Nat):Int)=0 from rfl] at e7
  rw [show (((0+cIs []:Nat)):Int)=0 from rfl] at e7
  rw [e7,he]
  have hit:(B5 (szP s).1 xs).length≤1466015503701:=by
   rw [← he,List.length_append,FA];omega
  have ho:okAr (.mk s (B5 (szP s).1 xs)):=by
   rw [BE];exact ⟨hs,hl,hit,hok⟩
  rw [Gt ho]
  by_cases hR:A3 (.mk s (B5 (szP s).1 xs))
  ·rw [if_pos (nT hca hR.2.2),if_pos hR,dT hR];rfl
  ·rw [if_neg hR,dF hR];split<;>rfl
 by_cases hz:(szP s).1=0
 ·have hm0:m=0:=by omega
  subst hm0
  obtain ⟨y,ys,rfl⟩:=List.exists_cons_of_ne_nil hn
  have hmk:B5 (szP s).1 (y::ys)=[tyI y]:=by unfold B5;rw [if_pos hz];rfl
  obtain ⟨o,r⟩:=hxr y (by simp)
  rw [if_pos hz,Kv,oB,Ma o r.1,oB]
  show jn _ _=_
  rw [Df]
  refine hgo [tyI y] (by simp) (by rw [hmk];rfl) ?_ ?_
  ·rw [hmk];intro x hx';rw [List.mem_singleton] at hx';subst hx';exact (Nn o r.1).2.2.2.2.2
  ·show 0+0≤_;omega
 ·have hmk:B5 (szP s).1 xs=cyc xs m:=by unfold B5;rw [if_neg hz,hm];rfl
  rw [if_neg hz]
  show jn _ _=_
  rw [Df]
  refine hgo [] (by simp) (by rw [hmk];rfl) ?_ ?_
  ·rw [hmk];intro x hx';exact hx x (R6 hn hx')
  ·rw [hmk,Gx,C9,FA];omega
def Hh (z:Int) : Prop:=-9223372036854775808≤z∧z≤9223372036854775807
def FG (z:Int) : Itm:=.mk 1 (ofQ (z:Rat)) 0 []
theorem Fl {z:Int} (h:Hh z) : MB (z:Rat):=Qp h.1 (by have:=h.2;omega)
theorem Rw {z:Int} (h:Hh z) : okI (FG z):=Od (Gl (Fl h))
theorem M9 {z:Int} (h:Hh z) : rI (FG z)=true:=Q9 (IP (Fl h))
theorem Rp {z:Int} (h:Hh z) {β:Type} (f:Itm→Option β) : ((DJ z).bind fun q=>(Bx q).bind f)=f (FG z):=by
 rw [Om h.1 h.2,oB,IW (Gl (Fl h)),oB];rfl
theorem NI {z:Int} (h:Hh z) : D1 z=some (.mk [] [FG z]):=by
 unfold D1;rw [Rp h];rfl
theorem Jr {n:Nat} (h:n≤4096) : szP [(n:Int)]=((n:Int),0):=by
 unfold szP DN
 simp only [List.length_cons,List.length_nil,List.any_cons,List.any_nil,Bool.or_false,decide_eq_true_eq,List.foldl_cons,List.foldl_nil,List.mem_singleton,Int.one_mul]
 rw [if_neg (by omega),if_neg (by omega),if_neg (by omega)]
 by_cases h0:(0:Int)=n
 ·rw [if_pos h0,← h0]
 ·rw [if_neg h0,if_pos (by omega)]
theorem NY : szP []=(1,0):=rfl
theorem Nk {s:List Int} {i:List Itm} {n:Int} (hs:szP s=(n,0)) (hl:(i.length:Int)=if n<1 then 1 else n) (hi:∀ x∈i,rI x=true∧x.box=[]) : A3 (.mk s i)∧cA (.mk s i)=i.length∧dA (.mk s i)=if AU (.mk s i) then 0 else 1:=by
 have hn:=LG s
 rw [hs] at hn
 have hc:cIs i=0:=by
  clear hl
  induction i with
  | nil=>rfl
  | cons x xs ih=>rw [cIs,Mp,(hi x (by simp)).2,ih fun y hy=>hi y (by simp [hy])];rfl
 have hd:dIs i=0:=by
  clear hl hc
  induction i with
  | nil=>rfl
  | cons x xs ih=>rw [dIs,NK,(hi x (by simp)).2,ih fun y hy=>hi y (by simp [hy])];rfl
 have hcA:cA (.mk s i)=i.length:=by rw [Gx,C9,hc];rfl
 have hdA:dA (.mk s i)=if AU (.mk s i) then 0 else 1:=by rw [G0,C9,hd]
 refine ⟨⟨?_,?_,?_⟩,hcA,hdA⟩
 ·rw [GX,Ej,C9,hs,hl,dT rfl,dT rfl,Ec.2 fun x hx=>(hi x hx).1];rfl
 ·rw [hdA];split<;>omega
 ·rw [hcA];have:(i.length:Int)≤4096:=by rw [hl];split<;>omega
  omega
theorem Ns {z:Int} (h:Hh z) : Ft (ofQ (z:Rat))=some (z,true):=by
 unfold Ft
 have e:(ofQ (z:Rat)).2.1=AK z.natAbs:=rfl
 have e1:(ofQ (z:Rat)).1=decide (z<0):=rfl
 have hw:okL 1048576 (AK z.natAbs)=true:=Mc (nT (show (AK z.natAbs).length≤32 from (Fl h).1) (by decide))
 have hb:Bb z.natAbs≤64:=Dv.2 (by have:=h.1;have:=h.2;omega)
 rw [Rz (Fl h),oB,if_pos (dT (Rat.den_intCast z)),e,e1,CA,if_pos (by rw [hw,dT rfl];rfl),if_pos hb]
 unfold Kn
 obtain ⟨h1,h2⟩:=h
 by_cases hz:z<0
 ·rw [if_pos (dT hz),if_pos (by omega)]
  congr 2;omega
 ·rw [if_neg (by rw [dF hz];decide),if_pos (by omega)]
  congr 2;omega
theorem Lj : ∀ {l:List Int} {s:List Int},(∀ z∈l,Hh z)→s.length+l.length≤17592186044416→Nr Iv (l.map FG) s=some (true,s++l)
 | [],s,_,_=>by simp [Nr]
 | z::zs,s,h,hl=>by
  rw [List.map_cons,Nr]
  unfold Iv
  have e:(FG z).num=ofQ (z:Rat):=rfl
  rw [e,Ns (h z (by simp)),oB,HZ (by simp at hl ⊢;omega),oB,oB]
  have hk:(true&&decide ((FG z).kind=1))=true:=rfl
  rw [hk,if_pos rfl]
  have:=Lj (l:=zs) (s:=s++[z]) (fun y hy=>h y (by simp [hy])) (by simp at hl ⊢;omega)
  unfold Iv at this
  rw [this,List.append_assoc];rfl
theorem LD {x:Itm} (h:rI x=true) (hb:x.box=[]) (hk:x.kind≠3) : A3 (.mk [] [x])∧AU (.mk [] [x])=true:=by
 refine ⟨(Nk NY rfl fun y hy=>by rw [List.mem_singleton] at hy;subst hy;exact ⟨h,hb⟩).1,?_⟩
 unfold AU;simp [Ej,C9,hk]
theorem S5 {x:Itm} (h:okI x) : okAr (.mk [] [x]):=by
 rw [BE,Ej,C9]
 exact ⟨nofun,by simp,by simp,fun y hy=>by rw [List.mem_singleton] at hy;rw [hy];exact h⟩
theorem Q5 (xs:List Itm) : cyc xs xs.length=xs:=by
 apply List.ext_getElem?
 intro i
 by_cases h2:i<xs.length
 ·unfold cyc
  rw [List.getElem?_map,List.getElem?_range h2,Option.map_some,Nat.mod_eq_of_lt h2,lD,lG h2];rfl
 ·rw [List.getElem?_eq_none (by rw [FA];omega),List.getElem?_eq_none (by omega)]
theorem HX {xs:List Itm} {n:Nat} (h:xs.length=n) (h0:n≠0) : B5 ((n:Nat) : Int) xs=xs:=by
 unfold B5
 rw [if_neg (by omega),Int.toNat_natCast,← h]
 exact Q5 xs
theorem GB {a:Arr} (oa:okAr a) (h:A3 a) {x:Itm} (hx:x∈a.items) : okI x∧B6 x:=by
 have o:=(BE a).1 oa
 obtain ⟨h1,h2,h3⟩:=h
 have hr:=(IL h1).2.2
 refine ⟨o.2.2.2 x hx,hr x hx,?_,?_⟩
 ·have hd:∀ {xs:List Itm},x∈xs→dI x≤dIs xs:=by
   intro xs
   induction xs with
   | nil=>intro h;cases h
   | cons y ys ih =>
    intro h
    rw [dIs]
    rcases List.mem_cons.1 h with rfl|h
    ·omega
    ·have:=ih h;omega
  have hdx:=hd hx
  rw [G0] at h2
  by_cases hs:AU a=true
  ·have:=(MM hs (Ec.2 hr)).1
   omega
  ·rw [if_neg hs] at h2;omega
 ·have hc:∀ {xs:List Itm},x∈xs→cI x≤cIs xs:=by
   intro xs
   induction xs with
   | nil=>intro h;cases h
   | cons y ys ih =>
    intro h
    rw [cIs]
    rcases List.mem_cons.1 h with rfl|h
    ·omega
    ·have:=ih h;omega
  have hcx:=hc hx
  rw [Gx] at h3
  omega
theorem P4 {a:Arr} (h:A3 a) : ∃ n : Nat,szP a.shape=((n:Int),0)∧a.items.length=if n=0 then 1 else n:=by
 obtain ⟨h1,h2,_⟩:=IL h.1
 have:=LG a.shape
 refine ⟨(szP a.shape).1.toNat,?_,?_⟩
 ·rw [← h1,Int.toNat_of_nonneg this.1]
 ·split at h2<;>split<;>omega
theorem KU {a:Arr} (h:A3 a) : 0<a.items.length:=by
 obtain ⟨n,_,hl⟩:=P4 h
 rw [hl];split<;>omega
end Go.FL
namespace Go.FL
open Go Go.RowKit
def FnN (P:Program) (f:FuncId) (args:List DV) (r:AV) : Prop :=
 ∀ (w:World) (I:Nat→Prop) (vs:List Value),(∀ b,I b→b<w.heap.size)→RepAll w I args vs →
  CallsIn (om none) 0 P f (Value.slice none 0 0::vs).toArray w fun e w'=>∃ v I' bs,e=.returned v∧Below w.heap.size w w'∧(∀ b,I b→I' b) ∧
   (∀ b,I' b→b<w'.heap.size∧(b<w.heap.size→I b))∧ARep P w' I' [] r v bs∧bs.Nodup∧∀ b∈bs,w.heap.size≤b∧b<w'.heap.size∧¬I' b
section
variable {P:Program} {H:Ae}
def TO (P:Program) (f:FuncId) (e:TypeId) (M:Nat) : Prop:=∀ (n:Nat) (w:World),n≤M →
 Calls P f #[.slice none 0 0,.int .i64 n] w fun x w'=>(x=.returned (.slice none 0 0)∧w'=w) ∨
  (∃ (cap:Nat) (cells:Array Value),0<cap∧cap≤maxLen∧cells.size=cap * Ax P e∧x=.returned (.slice (some ⟨w.heap.size,0,none⟩) 0 cap)∧w'=w.drew.alloc (.cells cells e))
theorem FnN.grow {f e M:Nat} (hsz:0<Ax P e) (h:TO P f e M) {n:Nat} (hn:n≤M) : FnN P f [.i .i64 n] (.own e []):=by
 intro w I vs hI ha
 have hvs:vs=[.int .i64 n]:=by
  cases ha with
  | cons h1 ha=>cases ha;cases h1;rfl
 subst hvs
 rw [Rx]
 refine callsIn_wide.2 ((h n w hn).mono fun x w' hx=>?_)
 rcases hx with ⟨rfl,rfl⟩|⟨cap,cells,h0,hm,hc,rfl,rfl⟩
 ·refine ⟨_,I,[],rfl,Below.refl _ _,fun _ h=>h,fun b hb=>⟨hI b hb,fun _=>hb⟩,?_,nN,nofun⟩
  exact .own e [] (.slice none 0 0) [] hsz (.inl ⟨none,rfl,rfl,rfl⟩) (.nil _)
 ·have hlt:w.heap.size<(w.drew.alloc (.cells cells e)).heap.size:=(Array.getElem?_eq_some_iff.1 (heap_alloc_new w.drew (.cells cells e))).1
  have ho:OwnR (w.drew.alloc (.cells cells e)) e (Ax P e) (.slice (some ⟨w.heap.size,0,none⟩) 0 cap) 0 []:=by
   refine .inr ⟨⟨by simp,.inr ⟨w.heap.size,cap,cells,rfl,Nat.zero_le _,heap_alloc_new w.drew _,Nat.zero_le _,hm,hc,by simp⟩⟩,w.heap.size,cap,rfl,h0⟩
  refine ⟨_,I,[w.heap.size],rfl,?_,fun _ h=>h,fun b hb=>⟨Nat.lt_trans (hI b hb) hlt,fun _=>hb⟩,?_,by simp,fun b hb=>?_⟩
  ·exact ((Below.refl _ w).drew).alloc (Nat.le_refl _) _
  ·have:[w.heap.size]=Bl (.slice (some ⟨w.heap.size,0,none⟩) 0 cap):=by simp [Bl,Nat.pos_iff_ne_zero.1 h0]
   rw [this]
   exact .own e [] _ [] hsz ho (.nil _)
  ·rw [List.mem_singleton] at hb
   subst hb
   exact ⟨Nat.le_refl _,hlt,fun hi=>by have:=hI _ hi;omega⟩
end
section
variable {P:Program} {C:Cx} {o:Oper} {ops:Array Oper} {Q:Exit→Env→Ae→Prop} {env:Env} {H:Ae} {k:Nat} {l:List Oper}
theorem Ls {α:Type} {F:List α→List DV} {D:α→DV} (hset:∀ xs n x,(F xs).set n (D x)=F (xs.set n x)) {us:List α} {n m:Nat} {x:α} {y:Operand} {r ty e:Nat} {p:Pl} (hm:m=n) (hx:∃ z,(F us)[0+n]?=some z∧z.leaf=true)
  (h:RL P C ops Q (k+1) l (LQ p (.own e (F (us.set m x))) env) (Pz p (.own e (F (us.set m x))) H)) (hsz:Ax P ty=1)
  (hg:grd ops env o true=true:=by rfl) (ho:o.op=.store ty (.tmp r) y:=by rfl) (hv:get env r=.ep p (0+n) 0:=by rfl) (hp:AE env H p=.own e (F us):=by rfl) (hy:lk env y=.d (D x):=by rfl) (h1:(D x).leaf=true:=by rfl) (hd:o.dst=none:=by rfl)
  (hn:∀ id off,p=.c id off→C.n0≤id:=by (intro _ _ h;cases h<;>decide)):RL P C ops Q k (o::l) env H:=by
 subst hm
 exact ste hx (by rw [Nat.zero_add,hset];exact h) hsz hg ho hv hp hy h1 hd hn
end
end Go.FL
namespace Go.FL
open Go Go.RowKit
section
variable {P:Program} {C:Cx} {X:Snap} {o:Oper} {ops:Array Oper} {Q:Exit→Env→Ae→Prop} {env env':Env} {H H':Ae} {a:Act} {w w':World} {I I':Nat→Prop} {μ μ':List Nat} {O O':Nat→Option Loc}
 {K:Env→Ae→Prop} {k:Nat} {l:List Oper}
theorem TU {ty:Nat} (ho:o.op=.makeMap ty none:=by rfl) : VOK P C o env H (.om [] []) :=
 .val (by simp [ho]) fun X a w I μ O _ _ _ hs =>
  ⟨.map (some w.heap.size),w.alloc (.map #[] 0),I,[w.heap.size],by simp [execOp,ho,Instr.makeMap,newObj,Sem.run],A0 _,fun b hi=>hi,fun b hi=>⟨nL (hs.ilt b hi) (A0 _).size,fun _=>hi⟩,
   ARep.om [] [] [] [] w.heap.size #[] 0 (heap_alloc_new w _) .nil .nil (List.Perm.refl _) rfl,by simp,fun b hb=>by
    simp at hb;subst hb
    exact ⟨Nat.le_refl _,by simp,fun hi=>by have:=hs.ilt _ hi;omega⟩⟩
def freshK (q:IntKind) (z:Int) (ks:List DV) : Prop:=∀ k∈ks,∃ z',k=.i q z'∧z'≠z
theorem N9 {α β:Type} : ∀ {ks:List α} {vs:List β} {x:α},ks.length=vs.length→x∈ks→∃ v,(x,v)∈ks.zip vs
 | k::ks,v::vs,x,hl,h=>by
  rcases List.mem_cons.1 h with rfl|h
  ·exact ⟨v,by simp⟩
  ·obtain ⟨u,hu⟩:=N9 (ks:=ks) (vs:=vs) (by simpa using hl) h
   exact ⟨u,by simp [hu]⟩
theorem Iz {q:IntKind} {z:Int} {ty:TypeDesc} (hty:ty=.int q) : ∀ {es:List MapEntry} {ks:List DV} (n:Nat),RepAll w I ks (es.map MapEntry.key)→freshK q z ks→Instr.findNow ty (.int q z) es n=some none
 | [],_,n,_,_=>rfl
 | e::es,ks,n,hk,hf=>by
  subst hty
  cases hk with
  | @cons c _ cs _ h t =>
   obtain ⟨z',rfl,hz⟩:=hf c (by simp)
   have he:e.key=.int q z':=by
    generalize e.key=u at h
    cases h;rfl
   have hs:Instr.sameNow (.int q) (.int q z) e.key=some false:=by
    rw [he];simp [Instr.sameNow];exact fun h=>hz h.symm
   simp only [Instr.findNow,hs]
   exact Iz rfl (n+1) t fun k hk=>hf k (by simp [hk])
theorem KG {q:IntKind} {z:Int} {ty:TypeDesc} (hty:ty=.int q) {d:DV} : ∀ {es:List MapEntry} {ks vs:List DV} (n:Nat),RepAll w I ks (es.map MapEntry.key)→RepAll w I vs (es.map MapEntry.val) →
  (∀ k∈ks,∃ z',k=.i q z')→(.i q z,d)∈ks.zip vs→(∀ d',(.i q z,d')∈ks.zip vs→d'=d)→∃ i v,Instr.findNow ty (.int q z) es n=some (some (i,v))∧Rep w I d v
 | [],_,_,n,hk,_,_,hm,_=>by cases hk;simp at hm
 | e::es,ks,vs,n,hk,hv,hi,hm,hu=>by
  subst hty
  cases hk with
  | @cons c _ cs _ h t =>
   cases hv with
   | @cons c2 _ cs2 _ h2 t2 =>
    obtain ⟨z',rfl⟩:=hi c (by simp)
    have he:e.key=.int q z':=by
     generalize e.key=u at h
     cases h;rfl
    by_cases hz:z=z'
    ·subst hz
     have hs:Instr.sameNow (.int q) (.int q z) e.key=some true:=by rw [he];simp [Instr.sameNow]
     refine ⟨n,e.val,by simp only [Instr.findNow,hs],?_⟩
     have:=hu c2 (by simp)
     subst this;exact h2
    ·have hs:Instr.sameNow (.int q) (.int q z) e.key=some false:=by rw [he];simp [Instr.sameNow];exact hz
     simp only [Instr.findNow,hs]
     refine KG rfl (n+1) t t2 (fun k hk=>hi k (by simp [hk])) ?_ (fun d' hd=>hu d' (by simp [hd]))
     simp only [List.zip_cons_cons,List.mem_cons,Prod.mk.injEq,DV.i.injEq,true_and] at hm
     rcases hm with ⟨h3,_⟩|hm
     ·exact absurd h3 hz
     ·exact hm
theorem Iu {kt:TypeId} {q:IntKind} {z:Int} (hk:P.underlying kt=some (.int q)) (b:Bool) (n:Nat) : (Instr.checkKey b (n+1) kt (.int q z)).run P w=.ok () w:=by
 unfold Instr.checkKey
 simp [run_underlying hk]
theorem Gq {kt:TypeId} {q:IntKind} {z:Int} {es:List MapEntry} {r:Option (Nat×Value)} (hk:P.underlying kt=some (.int q)) (hf:Instr.findNow (.int q) (.int q z) es 0=some r) : (Instr.findKey kt (.int q z) es).run P w=.ok r w:=by
 simp [Instr.findKey,run_underlying hk,hf]
theorem LN {r:Nat} {es:Array MapEntry} {c:Nat} (hh:w.heap[r]?=some (.map es c)) : (getObj r).run P w=.ok (.map es c) w:=by
 simp [getObj,Sem.run,hh]
theorem ND {ty kt et:TypeId} {q:IntKind} {r:Nat} {es:Array MapEntry} {clock:Nat} {z:Int} {v:Value} (hu:P.underlying ty=some (.map kt et)) (hk:P.underlying kt=some (.int q)) (hh:w.heap[r]?=some (.map es clock)) (hf:Instr.findNow (.int q) (.int q z) es.toList 0=some none) :
  (Instr.mapUpdate ty (.map (some r)) (.int q z) v).run P w=.ok () {w with heap:=w.heap.setIfInBounds r (.map (es.push {key:=.int q z,val:=v,born:=clock}) (clock+1))}:=by
 have h1:=Iu (w:=w) (z:=z) hk false 9999
 have h2:=Gq (w:=w) (z:=z) hk hf
 have h3:=LN (P:=P) hh
 unfold Instr.mapUpdate
 simp only [run_underlying hu,Sem.run_bind,Result.andThen_ok,h1,h2,h3]
 simp [setObj,Sem.run,hh]
theorem JS {ty kt et:TypeId} {q:IntKind} {r:Nat} {es:Array MapEntry} {clock:Nat} {z:Int} {i:Nat} {v:Value} (hu:P.underlying ty=some (.map kt et)) (hk:P.underlying kt=some (.int q)) (hh:w.heap[r]?=some (.map es clock)) (hf:Instr.findNow (.int q) (.int q z) es.toList 0=some (some (i,v))) :
  (Instr.lookup ty (.map (some r)) (.int q z) false).run P w=.ok v w:=by
 have h1:=Iu (w:=w) (z:=z) hk es.isEmpty 9999
 have h2:=Gq (w:=w) (z:=z) hk hf
 have h3:=LN (P:=P) hh
 unfold Instr.lookup
 simp only [run_underlying hu,Sem.run_bind,Sem.run_pure,Result.andThen_ok,h1,h2,h3]
 rfl
theorem Ja {ty kt et:TypeId} {q:IntKind} {r:Nat} {es:Array MapEntry} {clock:Nat} {z:Int} {v:Value} (hu:P.underlying ty=some (.map kt et)) (hk:P.underlying kt=some (.int q)) (hz:(zeroValue et).run P w=.ok v w) (hh:w.heap[r]?=some (.map es clock)) (hf:Instr.findNow (.int q) (.int q z) es.toList 0=some none) :
  (Instr.lookup ty (.map (some r)) (.int q z) false).run P w=.ok v w:=by
 have h1:=Iu (w:=w) (z:=z) hk es.isEmpty 9999
 have h2:=Gq (w:=w) (z:=z) hk hf
 have h3:=LN (P:=P) hh
 unfold Instr.lookup
 simp only [run_underlying hu,Sem.run_bind,Sem.run_pure,Result.andThen_ok,h1,h2,h3,hz]
 rfl
theorem Im {ks vs ks' vs':List DV} (hp:(ks'.zip vs').Perm (ks.zip vs)) (hl:ks'.length=vs'.length) {k:DV} (h:k∈ks') : k∈ks:=by
 obtain ⟨v,hv⟩:=N9 hl h
 exact (List.of_mem_zip (hp.mem_iff.1 hv)).1
theorem Sim.om_inv (hs:Sim P X env H a w I μ O) {t:Nat} {ks vs:List DV} (hg:get env t=.om ks vs) :
  ∃ blk es c ks' vs',a.tmps.getD t undef=.map (some blk)∧w.heap[blk]?=some (.map es c)∧RepAll w I ks' (es.toList.map MapEntry.key)∧RepAll w I vs' (es.toList.map MapEntry.val)∧(ks'.zip vs').Perm (ks.zip vs)∧ks.length=vs.length∧O blk=some (.t t):=by
 have:=hs.envr t
 rw [hg] at this
 obtain ⟨bs,h1,h2,h3⟩:=this.plain rfl
 generalize a.tmps.getD t undef=v at h1
 cases h1 with
 | om _ _ ks' vs' blk es c hh hk hv hp hl=>exact ⟨blk,es,c,ks',vs',rfl,hh,hk,hv,hp,hl,h3 blk (by simp)⟩
theorem Sim.ins (hs:Sim P X env H a w I μ O) {t:Nat} {ks vs:List DV} (hg:get env t=.om ks vs) {ty kt et:TypeId} {q:IntKind} {z:Int} {d:DV} {v:Value} (hu:P.underlying ty=some (.map kt et)) (hk:P.underlying kt=some (.int q)) (hf:freshK q z ks) (hv:Rep w I d v) :
  ∃ w',(Instr.mapUpdate ty (a.tmps.getD t undef) (.int q z) v).run P w=.ok () w'∧Sim P X ((t,.om (ks++[.i q z]) (vs++[d]))::env) H a w' I μ O:=by
 obtain ⟨blk,es,c,ks',vs',h1,h2,h3,h4,h5,h6,hO⟩:=hs.om_inv hg
 have hl':ks'.length=vs'.length:=by rw [h3.length,h4.length,List.length_map,List.length_map]
 have hfn:=Iz (q:=q) (z:=z) rfl 0 h3 fun k hk=>hf k (Im h5 hl' hk)
 have hlt:blk<w.heap.size:=(hs.own blk _ hO).1
 refine ⟨{w with heap:=w.heap.setIfInBounds blk (.map (es.push {key:=.int q z,val:=v,born:=c}) (c+1))},by rw [h1];exact ND hu hk h2 hfn,?_⟩
 have hoth:∀ b,b≠blk→(w.heap.setIfInBounds blk (.map (es.push {key:=.int q z,val:=v,born:=c}) (c+1)))[b]?=w.heap[b]?:=fun b hb=>by
  rw [Array.getElem?_setIfInBounds,if_neg (Ne.symm hb)]
 obtain ⟨n1,_,_⟩:=hs.other_blk hO
 refine hs.blkSet (w':={w with heap:=w.heap.setIfInBounds blk (.map (es.push {key:=.int q z,val:=v,born:=c}) (c+1))}) (av:=.om (ks++[.i q z]) (vs++[d])) hO (by rw [hg];rfl) rfl hoth (by simp) rfl rfl rfl ?_
 rw [h1]
 have hI:∀ b,I b→(w.heap.setIfInBounds blk (.map (es.push {key:=.int q z,val:=v,born:=c}) (c+1)))[b]?=w.heap[b]?:=fun b hi=>hoth b (n1 b hi)
 refine .om _ _ (ks'++[.i q z]) (vs'++[d]) blk (es.push {key:=.int q z,val:=v,born:=c}) (c+1) ?_ ?_ ?_ ?_ (by simp [h6])
 ·show (w.heap.setIfInBounds blk _)[blk]?=_
  rw [Array.getElem?_setIfInBounds,if_pos rfl,if_pos hlt]
 ·rw [Array.toList_push,List.map_append]
  exact (h3.keep hI fun _ h=>h).append (.cons (.i _ _) .nil)
 ·rw [Array.toList_push,List.map_append]
  exact (h4.keep hI fun _ h=>h).append (.cons (hv.keep hI fun _ h=>h) .nil)
 ·rw [List.zip_append hl',List.zip_append h6]
  exact List.Perm.append h5 (List.Perm.refl _)
theorem Ix {m:Nat} {x y:Operand} {ty kt et:TypeId} {q:IntKind} {z:Int} {ks vs:List DV} {d:DV} (hu:P.underlying ty=some (.map kt et)) (hk:P.underlying kt=some (.int q)) (hf:freshK q z ks) (h:RL P C ops Q (k+1) l ((m,.om (ks++[.i q z]) (vs++[d]))::env) H) (hg:grd ops env o true=true:=by rfl)
  (ho:o.op=.insert ty (.tmp m) x y:=by rfl) (hm:get env m=.om ks vs:=by rfl) (hx:AS (lk env x)=some (.i q z):=by rfl) (hy:AS (lk env y)=some d:=by rfl) (hd:o.dst=none:=by rfl):RL P C ops Q k (o::l) env H:=by
 refine .go hg (.done (by simp [ho]) hd (fun X a w I μ O _ _ _ hs=>?_) h)
 have h1:=hs.deep (x:=x) hx
 have h2:=hs.deep (x:=y) hy
 generalize hev:a.eval x=u at h1
 cases h1
 obtain ⟨w',r1,r2⟩:=hs.ins hm hu hk hf h2
 have he:a.eval (.tmp m)=a.tmps.getD m undef:=rfl
 exact ⟨w',I,μ,O,by simp only [execOp,ho,hev,he,r1,Sem.run_bind,Result.andThen_ok,Sem.run_pure],r2⟩
theorem Gh.omf {t:Nat} {ks vs:List DV} (hg:get env t=.om ks vs) : Gh P C env H ((t,.d (.mp ks vs))::env) H:=fun X a w I μ O _ _ _ hs=>by
 obtain ⟨blk,es,c,ks',vs',h1,h2,h3,h4,h5,h6,hO⟩:=hs.om_inv hg
 obtain ⟨n1,n2,n3⟩:=hs.other_blk hO
 refine ⟨_,_,⟨hs.toMem.frz [blk] (fun b hm=>by simp at hm;subst hm;exact (hs.own b _ hO).1) (fun b hm hk=>by simp at hm;exact n2 b hk hm) H rfl ?_,fun s=>?_,hs.nt,hs.dfs⟩⟩
 ·intro id ob ho
  obtain ⟨bb,bs,k1,k2,k3,k4⟩:=hs.heap id ob ho
  refine ⟨bb,bs,k1,k2.mono fun _ h=>.inl h,fun hn=>⟨(k3 hn).1,fun b hb=>?_⟩,k4⟩
  have:b∉[blk]:=by simpa using n3 id ob bb bs ho k1 k3 k4 b hb
  simp only [this,if_false]
  exact (k3 hn).2 b hb
 ·by_cases hst:t=s
  ·subst hst
   rw [show get ((t,.d (.mp ks vs))::env) t=.d (.mp ks vs) by simp [get]]
   refine .of (bs:=[]) ?_ nN (by simp)
   rw [h1]
   exact .d (.mp ks vs ks' vs' blk es c (.inr (by simp)) h2 (h3.keep (fun _ _=>rfl) fun _ h=>.inl h) (h4.keep (fun _ _=>rfl) fun _ h=>.inl h) h5 h6)
  ·rw [show get ((t,.d (.mp ks vs))::env) s=get env s by simp [get,hst]]
   have key:∀ p e xs,AE env H p=.own e xs→AE ((t,AV.d (.mp ks vs))::env) H p=.own e xs:=by
    intro p e' xs hp
    cases p with
    | t r =>
     have hr':t≠r:=fun h=>by subst h;simp only [AE] at hp;rw [hg] at hp;cases hp
     simp only [AE,get,if_neg hr'];exact hp
    | c id off=>exact hp
   have ht:=hs.envr s
   cases hgs:get env s with
   | ref p off len =>
    rw [hgs] at ht
    obtain ⟨e',xs,A,n,c,g1,g2,g3,g4⟩:=ht
    exact ⟨e',xs,A,n,c,key p e' xs g1,g2,g3,g4⟩
   | ep p i k =>
    rw [hgs] at ht
    obtain ⟨e',xs,b,n,c,g1,g2,g3,g4,g5⟩:=ht
    exact ⟨e',xs,b,n,c,key p e' xs g1,g2,g3,g4,g5⟩
   | _ =>
    rw [hgs] at ht
    obtain ⟨bs,g1,g2,g3⟩:=ht.plain rfl
    refine .of (g1.keep (fun _ h=>.inl h) (fun _ _=>rfl) (fun _ _ h=>h) fun _ _=>rfl) g2 fun b hb=>?_
    have:b∉[blk]:=fun hm=>by
     simp at hm;subst hm
     have:=g3 b hb;rw [hO] at this;simp at this;exact hst this
    simp only [this,if_false]
    exact g3 b hb
theorem Uc {x y:Operand} {ty kt et:TypeId} {q:IntKind} {z:Int} {ks vs:List DV} {d:DV} (hu:P.underlying ty=some (.map kt et)) (hk:P.underlying kt=some (.int q)) (hi:∀ k∈ks,∃ z',k=.i q z') (hm:(.i q z,d)∈ks.zip vs) (hq:∀ d',(.i q z,d')∈ks.zip vs→d'=d)
  (ho:o.op=.lookup ty x y false:=by rfl) (hx:AS (lk env x)=some (.mp ks vs):=by rfl) (hy:AS (lk env y)=some (.i q z):=by rfl):VOK P C o env H (.d d) :=
 .pv ⟨by simp [ho],fun X a w I μ O _ hs=>by
  have h1:=hs.deep (x:=x) hx
  have h2:=hs.deep (x:=y) hy
  generalize hev:a.eval x=u at h1
  generalize hev2:a.eval y=u2 at h2
  cases h2
  cases h1 with
  | mp _ _ ks' vs' r es c hI hh h3 h4 hp hl =>
   have hl':ks'.length=vs'.length:=by rw [h3.length,h4.length,List.length_map,List.length_map]
   obtain ⟨i,v,e1,e2⟩:=KG (q:=q) (z:=z) (d:=d) rfl 0 h3 h4 (fun k hk=>hi k (Im hp hl' hk)) (hp.mem_iff.2 hm) fun d' hd=>hq d' (hp.mem_iff.1 hd)
   exact ⟨v,by simp only [execOp,ho,hev,hev2,JS hu hk hh e1,Sem.run_bind,Result.andThen_ok,Sem.run_pure],.of_rep e2⟩⟩
theorem Un {x y:Operand} {ty kt et:TypeId} {q:IntKind} {z:Int} {ks vs:List DV} {d:DV} {zv:Value} (hu:P.underlying ty=some (.map kt et)) (hk:P.underlying kt=some (.int q)) (hz:∀ w,(zeroValue et).run P w=.ok zv w) (hd:∀ w I,Rep w I d zv) (hf:freshK q z ks)
  (ho:o.op=.lookup ty x y false:=by rfl) (hx:AS (lk env x)=some (.mp ks vs):=by rfl) (hy:AS (lk env y)=some (.i q z):=by rfl):VOK P C o env H (.d d) :=
 .pv ⟨by simp [ho],fun X a w I μ O _ hs=>by
  have h1:=hs.deep (x:=x) hx
  have h2:=hs.deep (x:=y) hy
  generalize hev:a.eval x=u at h1
  generalize hev2:a.eval y=u2 at h2
  cases h2
  cases h1 with
  | mp _ _ ks' vs' r es c hI hh h3 h4 hp hl =>
   have hl':ks'.length=vs'.length:=by rw [h3.length,h4.length,List.length_map,List.length_map]
   have e1:=Iz (q:=q) (z:=z) rfl 0 h3 fun k hk=>hf k (Im hp hl' hk)
   exact ⟨zv,by simp only [execOp,ho,hev,hev2,Ja hu hk (hz w) hh e1,Sem.run_bind,Result.andThen_ok,Sem.run_pure],.of_rep (hd w I)⟩⟩
end
end Go.FL
namespace Go.FL
open Go Go.RowKit
section
variable {P:Program} {C:Cx} {X:Snap} {o:Oper} {ops:Array Oper} {Q:Exit→Env→Ae→Prop} {env env':Env} {H H':Ae} {a:Act} {w w':World} {I I':Nat→Prop} {μ μ':List Nat} {O O':Nat→Option Loc}
 {K:Env→Ae→Prop} {k:Nat} {l:List Oper}
def EW (P:Program) (t:TypeId) : Bool:=match P.underlying t with
 | some (.func ..)=>true
 | _=>false
theorem Pr {t:TypeId} (hu:EW P t=true) (f:Go.Fn) (fs cs:Array Value) : (Op.equal t (.func f fs cs) .nilFunc).run P w=.ok false w:=by
 unfold EW at hu
 split at hu
 ·rename_i h
  have e:Op.equal t (.func f fs cs) .nilFunc=Op.equalIn (9999+1) t (.func f fs cs) .nilFunc:=rfl
  rw [e]
  unfold Op.equalIn
  simp only [run_underlying h,Sem.run_bind,Result.andThen_ok,Sem.run_pure]
 ·cases hu
theorem OI {t:TypeId} (hu:EW P t=true) : (Op.equal t .nilFunc .nilFunc).run P w=.ok true w:=by
 unfold EW at hu
 split at hu
 ·rename_i h
  have e:Op.equal t .nilFunc .nilFunc=Op.equalIn (9999+1) t .nilFunc .nilFunc:=rfl
  rw [e]
  unfold Op.equalIn
  simp only [run_underlying h,Sem.run_bind,Result.andThen_ok,Sem.run_pure]
 ·cases hu
theorem Ue {xt yt:TypeId} {x y:Operand} {f:FuncId} {fs cs:List DV} (hu:EW P xt=true) (ho:o.op=.binOp .eql xt x y yt:=by rfl) (hx:AS (lk env x)=some (.fn f fs cs):=by rfl) (hy:AS (lk env y)=some .nf:=by rfl) : VOK P C o env H (.d (.b false)):=by
 refine .same (by simp [ho]) fun X a w I μ O _ hs=>⟨.bool false,?_,.b _⟩
 have h1:=hs.deep hx
 have h2:=hs.deep hy
 generalize hev:a.eval x=v1 at h1
 generalize hev2:a.eval y=v2 at h2
 cases h1;cases h2
 simp [execOp,ho,hev,hev2,binOp,eqGuard,Pr hu]
theorem T6 {xt yt:TypeId} {x y:Operand} (hu:EW P xt=true) (ho:o.op=.binOp .eql xt x y yt:=by rfl) (hx:AS (lk env x)=some .nf:=by rfl) (hy:AS (lk env y)=some .nf:=by rfl) : VOK P C o env H (.d (.b true)):=by
 refine .same (by simp [ho]) fun X a w I μ O _ hs=>⟨.bool true,?_,.b _⟩
 have h1:=hs.deep hx
 have h2:=hs.deep hy
 generalize hev:a.eval x=v1 at h1
 generalize hev2:a.eval y=v2 at h2
 cases h1;cases h2
 simp [execOp,ho,hev,hev2,binOp,eqGuard,OI hu]
end
end Go.FL
namespace Go.FL
open Go Go.Proofs
theorem Ol : B4 Tryz.prog 36=some true:=by kernel_rfl
theorem My : Ax Tryz.prog 36=5:=by kernel_rfl
theorem N7 : BQ Tryz.prog 36 0=some (0,1):=by kernel_rfl
theorem TX : Dl Tryz.prog 36=some [(0,1),(1,3),(4,1)]:=by kernel_rfl
theorem Sm : (Tryz.prog.info? 36).bind (·.zero)=some (.agg #[.int .i64 0,.bool false,.slice none 0 0,.slice none 0 0,.int .i64 0]):=by kernel_rfl
theorem Sf (w:World) (I:Nat→Prop) : RepAll w I [.i .i64 0,.b false,.sl [],.sl [],.i .i64 0] (Value.agg #[.int .i64 0,.bool false,.slice none 0 0,.slice none 0 0,.int .i64 0]).cells.toList:=.cons (.i _ _) (.cons (.b _) (.cons (.sl0 _ _) (.cons (.sl0 _ _) (.cons (.i _ _) (.nil)))))
end Go.FL
namespace Go.FL
open Go Go.RowKit
section
variable {P:Program} {C:Cx} {X:Snap} {o:Oper} {ops:Array Oper} {Q:Exit→Env→Ae→Prop} {env env':Env} {H H':Ae} {a:Act} {w w':World} {I I':Nat→Prop} {μ μ':List Nat} {O O':Nat→Option Loc}
 {K:Env→Ae→Prop} {k:Nat} {l:List Oper}
theorem Sim.frzT (hs:Sim P X env H a w I μ O) {n:Nat} {e:TypeId} {xs:List DV} (hp:get env n=.own e xs) : ∃ (bs:List Nat) (O':Nat→Option Loc),Sim P X (Ht (.t n) xs env) H a w (fun b=>I b∨b∈bs) μ O':=by
 obtain ⟨v,bs,hv,hr,hb,hO⟩:=hs.at_place (p:=.t n) hp
 have hO':∀ b∈bs,O b=some (.t n):=fun b hm=>(hO b hm).2.1 n rfl
 refine ⟨bs,_,⟨hs.toMem.frz bs (fun b hm=>(hO b hm).1) (fun b hm hk=>by have:=hs.kO b hk;rw [hO' b hm] at this;cases this) H rfl ?_,hs.frz_env (p:=.t n) hp hv hr hO' (fun _ _ _ _ h=>h),hs.nt,hs.dfs⟩⟩
 intro id o ho
 obtain ⟨blk,cs,h1,h2,h3,h4⟩:=hs.heap id o ho
 refine ⟨blk,cs,h1,h2.mono fun _ h=>.inl h,fun hn=>⟨(h3 hn).1,fun b hb=>?_⟩,h4⟩
 have h5:=(h3 hn).2 b hb
 have:b∉bs:=fun hm=>by have:=hO' b hm;rw [h5] at this;simp at this
 simp [this,h5]
theorem Tx {c:Call} {fo:Operand} {gv:DV} {xs xs0:List DV} {q:IntKind} {n:Int} (s:Nat) {e:TypeId} {ys:List DV} (h:FnV P gv xs (.d (.i q n))) (hp:get env s=.own e ys:=by rfl) (ho:o.op=.call c:=by rfl) (hc:c.callee=.value fo:=by rfl) (hfo:lk env fo=.d gv:=by rfl) (ha:argsD (Ht (.t s) ys env) c.args.toList=some xs0:=by rfl) (hx:xs0=xs:=by simp) : VOK P C o env H (.d (.i q n)):=by
 subst hx
 obtain ⟨f,first,caps,rfl,hcall,hfn⟩:=h
 intro X a w I μ O next Q h1 h2 h3 hs hn
 have hfr0:=hs.deep (x:=fo) (v:=.fn f first caps) (by rw [hfo];rfl)
 obtain ⟨bs0,O2,hs2⟩:=hs.frzT hp
 have hfr:=hfr0.keep (w':=w) (I':=fun b=>I b∨b∈bs0) (fun _ _=>rfl) (fun _ h=>.inl h)
 generalize hev:a.eval fo=u at hfr
 cases hfr with
 | fn _ _ _ fs cs hfs hcs =>
  refine ⟨fun _ _=>trivial,?_⟩
  have hres:=BJ (P:=P) (w:=w) (ρ:=a.eval) (ty:=o.type) hc hev
  have hex:(execOp a.eval o).run P w=.ok (.enter f (fs.toArray++c.args.map a.eval++cs.toArray)) w:=by
   simp only [execOp,ho,Sem.run_bind,hres,Result.andThen_ok,invoke,hcall]
  rw [Oper.semAt_eq _ _ _ (by simp [ho]),hex,Oper.uponIn_enter]
  refine ⟨fun h=>(by simp [om] at h),?_⟩
  have hcl:=hfn w _ _ hs2.ilt ((hfs.append (hs2.argsD ha)).append hcs)
  have e:(fs++c.args.toList.map a.eval++cs).toArray=fs.toArray++c.args.map a.eval++cs.toArray:=by
   apply Array.ext';simp
  rw [e] at hcl
  refine ⟨trivial,fun csF hroom=>?_⟩
  obtain ⟨e,w',fr,⟨v,I',bs,rfl,q1,q2,q3,q4,q5,q6⟩,s,x⟩:=hcl.2 csF (room_wide _)
  have hv:∀ J:Nat→Prop,ARep P w' J μ (.d (.i q n)) v []:=by
   intro J
   cases q4 with
   | d h=>cases h;exact .d (.i _ _)
  exact ⟨.returned v,w',fr,hn v w' (fun b=>I' b∧(b<w.heap.size→I b)) [] q1 (fun b hb=>⟨q2 b (.inl hb),fun _=>hb⟩) (fun b hb=>⟨(q3 b hb.1).1,hb.2⟩) (LH (hv _) rfl) nN (by simp),s,x⟩
theorem RK {y:Operand} {t ty:Nat} {c c':DV} (hsz:Ax P ty=1) (ho:o.op=.store ty (.tmp t) y) (hv:get env t=.nb [c]) (hy:AS (lk env y)=some c') (h1:c'.leaf=true) (hd:o.dst=none) (hK:K ((t,.nb [c'])::env) H) : OpOK P C o env H K:=by
 refine .done (by simp [ho]) hd (fun X a w I μ O _ _ _ hs=>?_) hK
 have hr:=hs.deep (x:=y) hy
 generalize hev:a.eval y=u at hr
 obtain ⟨blk,cells,e,q1,q2,q3,q4⟩:=hs.nbSet (vs:=[u]) hv (.cons hr .nil)
 refine ⟨_,I,μ,O,?_,q4⟩
 have hone:=hr.one h1
 obtain ⟨old,hold⟩:∃ old,cells=#[old]:=by
  have hl:=q3.length
  match hc:cells.toList,hl with
  | [old],_=>exact ⟨old,by apply Array.ext';simpa using hc⟩
 subst hold
 obtain ⟨i,i1,i2⟩:=Fq (P:=P) (t:=ty) (by omega)
 have hx:a.eval (.tmp t)=.pointer (some ⟨blk,0,none⟩):=q1
 have hsi:(P.info? ty).map (·.size)=some 1:=by rw [i1];simp;omega
 simp only [execOp,ho,hx,hev,Instr.storeAt,Instr.sureAddr,Sem.run_bind,Sem.run_pure,Result.andThen_ok,Go.run_storeVar_one w blk e ty old u q2 hsi hone]
theorem TK {y:Operand} {t ty:Nat} {c c':DV} (h:RL P C ops Q (k+1) l ((t,.nb [c'])::env) H) (hsz:Ax P ty=1) (hg:grd ops env o true=true:=by rfl) (ho:o.op=.store ty (.tmp t) y:=by rfl)
  (hv:get env t=.nb [c]:=by rfl) (hy:AS (lk env y)=some c':=by rfl) (h1:c'.leaf=true:=by rfl) (hd:o.dst=none:=by rfl):RL P C ops Q k (o::l) env H :=
 .go hg (RK hsz ho hv hy h1 hd h)
theorem mk' {α:Type} {F:List α→List DV} {x0:α} {x c:Operand} {ty t e by_:Nat} {z:Value} {q q':IntKind} {zl:Int} (n:Nat) (hF:List.replicate n (M6 z)=F (List.replicate n x0)) (hn:zl=n) (hb:by_ * n≤281474976710656∧n≤9223372036854775807) (h:RL P C ops Q (k+1) l ((t,.own e (F (List.replicate n x0)))::env) H)
  (hT:B0 P ty=some (e,1,by_,z)) (hz:zok z=true) (hg:grd ops env o true=true:=by rfl) (ho:o.op=.makeSlice ty x c:=by rfl) (hx:lk env x=.d (.i q zl):=by rfl) (hc:lk env c=.d (.i q' zl):=by rfl) (hd:o.dst=some t:=by rfl)
  (hf:Ah (get env t)=false:=by rfl) (ht:okT C.nt t:=by rfl):RL P C ops Q k (o::l) env H :=
 mk n ⟨hn,hn⟩ hb (by rw [hF];exact h) hT hz hg ho hx hc hd hf ht
end
end Go.FL
namespace Go.FL
open Go Go.RowKit
def R9 (id:Nat) (cs:List DV) : AV→AV
 | .bp i off=>if i=id then .d (.ptr (cs.drop off)) else .bp i off
 | .d v=>.d v
 | .nl=>.nl
 | .own e xs=>.own e xs
 | .nb xs=>.nb xs
 | .it s p=>.it s p
 | .om k v=>.om k v
 | .ref (.t s) o n=>.ref (.t s) o n
 | .ep (.t s) i k=>.ep (.t s) i k
 | _=>.un
def Pm (id:Nat) (cs:List DV) (env:Env) : Env:=env.map fun x=>(x.1,R9 id cs x.2)
theorem H6 (id:Nat) (cs:List DV) (t:Nat) : ∀ env : Env,get (Pm id cs env) t=R9 id cs (get env t)
 | []=>rfl
 | (s,v)::r=>by
  show (if s=t then R9 id cs v else get (Pm id cs r) t)=R9 id cs (if s=t then v else get r t)
  split
  ·rfl
  ·exact H6 id cs t r
def Sn : HO→Bool
 | .box cs=>noBpL cs
section
variable {P:Program} {C:Cx} {X:Snap} {o:Oper} {ops:Array Oper} {Q:Exit→Env→Ae→Prop} {env env':Env} {H H':Ae} {a:Act} {w w':World} {I I':Nat→Prop} {μ μ':List Nat} {O O':Nat→Option Loc}
 {K:Env→Ae→Prop} {k:Nat} {l:List Oper}
theorem ARepAll.deepAll : ∀ {cs:List DV} {vs:List Value} {bs:List Nat},ARepAll P w I μ (cs.map .d) vs bs→bs=[]∧RepAll w I cs vs
 | [],_,_,h=>by cases h;exact ⟨rfl,.nil⟩
 | c::cs,_,_,h=>by
  cases h with
  | cons h t =>
   obtain ⟨e,r⟩:=t.deepAll
   subst e
   cases h with
   | d h=>exact ⟨rfl,.cons h r⟩
theorem Gh2.pop {H0:Ae} {bx:List AV} {cs:List DV} (hH:H=H0++[.box bx]) (hb:bx=cs.map .d) (hb0:H0.all Sn=true) (hne:Nat.ble C.ne H0.length=true) : Gh2 P C env H (Pm H0.length cs env) H0:=fun X a w I μ O _ h2 h3 hs=>by
 subst hH hb
 have hne':X.ne≤H0.length:=by rw [h3];exact Nat.le_of_ble_eq_true hne
 have hn0:X.n0≤H0.length:=nT hs.n0le hne'
 have hμl:μ.length=H0.length+1:=by rw [hs.μlen];simp
 obtain ⟨blk,bs,k1,⟨cells,e,m1,m2⟩,k3,_⟩:=hs.heap H0.length (.box (cs.map .d)) (by simp)
 obtain ⟨rfl,m3⟩:=m2.deepAll
 have hO:O blk=some (.o H0.length):=(k3 hn0).2 blk (by simp)
 have hKn:∀ b,X.K b→b≠blk:=fun b hk e=>by subst e;have:=hs.kO _ hk;rw [hO] at this;cases this
 have hμt:∀ i,i<H0.length→(μ.take H0.length)[i]?=μ[i]?:=fun i hi=>by rw [List.getElem?_take,if_pos hi]
 have hOn:∀ b l,O b=some l→l≠.o H0.length→(if b=blk then none else O b)=some l:=fun b l h hl=>by
  rw [if_neg fun e=>by subst e;rw [hO] at h;exact hl (oI h).symm];exact h
 refine ⟨fun b=>I b∨b=blk,μ.take H0.length,fun b=>if b=blk then none else O b,{
  prot:=hs.prot
  kO:=fun b hk=>by rw [if_neg (hKn b hk)];exact hs.kO b hk
  kI:=fun b hk hi=>hi.elim (hs.kI b hk) fun e=>absurd e (hKn b hk)
  mono:=fun b hi=>.inl (hs.mono b hi)
  os:=hs.os,tape:=hs.tape,output:=hs.output,size:=hs.size
  own:=fun b l hl=>by
   by_cases hb:b=blk
   ·rw [if_pos hb] at hl;cases hl
   ·rw [if_neg hb] at hl
    exact ⟨(hs.own b l hl).1,fun hi=>hi.elim (hs.own b l hl).2 hb⟩
  ilt:=fun b hi=>hi.elim (hs.ilt b) fun e=>by rw [e];exact (hs.own blk _ hO).1
  μlen:=by rw [List.length_take];omega
  μpre:=fun i b hi hb=>by rw [hμt i (by omega)];exact hs.μpre i b hi hb
  nle:=hne'
  heap:=fun id ob ho=>?_
  klt:=hs.klt
  n0le:=hs.n0le
  envr:=fun s=>?_
  nt:=hs.nt
  dfs:=hs.dfs}⟩
 ·have hlt:=(lS.1 ho).1
  obtain ⟨bb,bs',q1,q2,q3,q4⟩:=hs.heap id ob (by rw [List.getElem?_append_left hlt];exact ho)
  refine ⟨bb,bs',by rw [hμt id hlt];exact q1,?_,fun hn=>⟨(q3 hn).1,fun b hb=>hOn b _ ((q3 hn).2 b hb) (by simp;omega)⟩,q4⟩
  have hnb:Sn ob=true:=List.all_eq_true.1 hb0 ob (List.mem_of_getElem? ho)
  cases ob with
  | box c =>
   obtain ⟨cl,et,n1,n2⟩:=q2
   exact ⟨cl,et,n1,(n2.noBp (μ':=μ.take H0.length) hnb).keep (fun _ h=>.inl h) (fun _ _=>rfl) (fun _ _ h=>h) fun _ _=>rfl⟩
 ·rw [H6]
  have ht:=hs.envr s
  have plain:∀ av,get env s=av→noBp av=true→AM av=false→TRep P (Pm H0.length cs env) H0 a w (fun b=>I b∨b=blk) (μ.take H0.length) (fun b=>if b=blk then none else O b) s av:=by
   intro av hav hn hr
   rw [hav] at ht
   obtain ⟨bs,g1,g2,g3⟩:=ht.plain hr
   exact .of ((g1.noBp (μ':=μ.take H0.length) hn).keep (fun _ h=>.inl h) (fun _ _=>rfl) (fun _ _ h=>h) fun _ _=>rfl) g2 fun b hb=>hOn b _ (g3 b hb) (by simp)
  cases hgs:get env s with
  | bp i off =>
   rw [hgs] at ht
   obtain ⟨bs,g1,g2,g3⟩:=ht.plain rfl
   show TRep P _ _ a w _ _ _ s (if i=H0.length then .d (.ptr (cs.drop off)) else .bp i off)
   generalize hv:a.tmps.getD s undef=v at g1
   cases g1 with
   | bp _ _ blk' hb' =>
    by_cases hi:i=H0.length
    ·rw [if_pos hi]
     subst hi
     rw [k1] at hb'
     obtain rfl:=oI hb'
     refine .of (bs:=[]) ?_ nN (by simp)
     rw [hv]
     have hh:Has w blk 0 cells.toList:=fun j u hj=>by
      simp [World.cell?,m1]
      simpa using hj
     have hh2:=hh.drop off
     rw [Nat.zero_add] at hh2
     exact .d (.ptr _ blk off (cells.toList.drop off) (.inr rfl) hh2 ((m3.drop off).keep (fun _ _=>rfl) fun _ h=>.inl h))
    ·rw [if_neg hi]
     have hlt:=(lS.1 hb').1
     refine .of (bs:=[]) ?_ nN (by simp)
     rw [hv]
     exact .bp i off blk' (by rw [hμt i (by omega)];exact hb')
  | ref p off len =>
   cases p with
   | c _ _=>exact .un
   | t r =>
    rw [hgs] at ht
    obtain ⟨e',xs,A,n,c,g1,g2,g3,g4⟩:=ht
    refine ⟨e',xs,A,n,c,?_,g2,g3,g4⟩
    show get (Pm H0.length cs env) r=_
    rw [H6,show get env r=_ from g1];rfl
  | ep p i k =>
   cases p with
   | c _ _=>exact .un
   | t r =>
    rw [hgs] at ht
    obtain ⟨e',xs,b,n,c,g1,g2,g3,g4,g5⟩:=ht
    refine ⟨e',xs,b,n,c,?_,g2,g3,g4,g5⟩
    show get (Pm H0.length cs env) r=_
    rw [H6,show get env r=_ from g1];rfl
  | d v=>exact plain _ hgs rfl rfl
  | nl=>exact plain _ hgs rfl rfl
  | own e xs=>exact plain _ hgs rfl rfl
  | nb xs=>exact plain _ hgs rfl rfl
  | it s p=>exact plain _ hgs rfl rfl
  | om k v=>exact plain _ hgs rfl rfl
  | un=>exact .un
  | ag _=>exact .un
  | fn _ _ _=>exact .un
  | tup _=>exact .un
end
end Go.FL
namespace Go.FL
open Go Go.RowKit
theorem MZ (q:IntKind) : ∀ (ps:List (Int×DV)),(ps.map fun p=>DV.i q p.1).zip (ps.map (·.2))=ps.map fun p=>(DV.i q p.1,p.2)
 | []=>rfl
 | p::ps=>by simp [MZ q ps]
section
variable {P:Program} {C:Cx} {X:Snap} {o:Oper} {ops:Array Oper} {Q:Exit→Env→Ae→Prop} {env env' envi:Env} {H H':Ae} {a:Act} {w w':World} {I I':Nat→Prop} {μ μ':List Nat} {O O':Nat→Option Loc}
 {K:Env→Ae→Prop} {k:Nat} {l:List Oper} {av:AV}
def Mn : Nat:=1000000000
def Up (P:Program) (C:Cx) (ops:Array Oper) (H:Ae) (env0 vals:Env) (tm i0 ty:Nat) (q:IntKind) (i:Nat) (o:Oper) (t:Nat) (v:AV) : Option (Int×DV)→Prop
 | none=>MR P C ops H env0 vals o t v∧tm∉o.looksAt ops∧t<Mn∧(i≠i0→t≠tm)∧(i=i0→t=tm∧v=.om [] [])
 | some (z,d)=>o.dst=none∧o.guard=none∧v=.un∧t=Mn+i∧get env0 t=.un∧E6 ops i i0=true∧∃ x y,o.op=.insert ty (.tmp tm) x y∧(∀ e,lk e x=.d (.i q z)) ∧
   ((∀ e,lk e y=.d d)∨∃ s,y=.tmp s∧s≠tm∧s∈o.looksAt ops∧get (A9 (o.looksAt ops) vals++env0) s=.d d)
end
end Go.FL
namespace Go.FL
open Go Go.RowKit
section
variable {P:Program} {C:Cx} {X:Snap} {o:Oper} {ops:Array Oper} {Q:Exit→Env→Ae→Prop} {env env' envi env0 vals:Env} {H H':Ae} {a:Act} {w w':World} {I I':Nat→Prop} {μ μ':List Nat} {O O':Nat→Option Loc}
 {k:Nat} {l:List Oper} {av v:AV} {t tm i0 ty n:Nat} {q:IntKind} {ps qs:List (Int×DV)}
inductive DLM (P:Program) (C:Cx) (ops:Array Oper) (H:Ae) (env0:Env) (tm i0 ty:Nat) (q:IntKind) : Nat→Env→List (Int×DV)→List Oper→Env→List (Int×DV)→Prop
 | nil (n:Nat) (vals:Env) (ps:List (Int×DV)):DLM P C ops H env0 tm i0 ty q n vals ps [] vals ps
 | run {n:Nat} {vals fin:Env} {ps qs:List (Int×DV)} {o:Oper} {t:Nat} {v:AV} {l:List Oper} (hi:n≠i0) (hd:o.dst=some t) (ht:okT C.nt t) (h0:Na (get env0 t)=true) (hn:(vals.map (·.1)).contains t=false) (hs:Fv t v=true)
   (hg:grd ops (A9 (o.looksAt ops) vals++env0) o true=true) (hv:VOK P C o (A9 (o.looksAt ops) vals++env0) H v) (hr:Cy (A9 (o.looksAt ops) vals++env0)=true) (hl:(o.looksAt ops).contains tm=false) (htd:t<Mn) (htm:t≠tm)
   (h:DLM P C ops H env0 tm i0 ty q (n+1) ((t,v)::vals) ps l fin qs):DLM P C ops H env0 tm i0 ty q n vals ps (o::l) fin qs
 | mk {vals fin:Env} {ps qs:List (Int×DV)} {o:Oper} {l:List Oper} (hd:o.dst=some tm) (ht:okT C.nt tm) (h0:Na (get env0 tm)=true) (hn:(vals.map (·.1)).contains tm=false)
   (hg:grd ops (A9 (o.looksAt ops) vals++env0) o true=true) (hv:VOK P C o (A9 (o.looksAt ops) vals++env0) H (.om [] [])) (hr:Cy (A9 (o.looksAt ops) vals++env0)=true) (hl:(o.looksAt ops).contains tm=false) (htd:tm<Mn)
   (h:DLM P C ops H env0 tm i0 ty q (i0+1) ((tm,.om [] [])::vals) ps l fin qs):DLM P C ops H env0 tm i0 ty q i0 vals ps (o::l) fin qs
 | ins {n:Nat} {vals fin:Env} {ps qs:List (Int×DV)} {o:Oper} {l:List Oper} {x y:Operand} {z:Int} {d:DV} (hi:n≠i0) (hd:o.dst=none) (hgn:o.guard=none) (hop:o.op=.insert ty (.tmp tm) x y) (hx:∀ e,lk e x=.d (.i q z))
   (hy:(∀ e,lk e y=.d d)∨∃ s,y=.tmp s∧s≠tm∧s∈o.looksAt ops∧get (A9 (o.looksAt ops) vals++env0) s=.d d) (hdi:E6 ops n i0=true) (h0:get env0 (Mn+n)=.un)
   (h:DLM P C ops H env0 tm i0 ty q (n+1) ((Mn+n,.un)::vals) (ps++[(z,d)]) l fin qs):DLM P C ops H env0 tm i0 ty q n vals ps (o::l) fin qs
theorem DLM.table {n:Nat} {vals fin:Env} {ps qs:List (Int×DV)} {l:List Oper} (h:DLM P C ops H env0 tm i0 ty q n vals ps l fin qs) : ∃ (tv:List (Nat×AV)) (iv:List (Option (Int×DV))),tv.length=l.length∧iv.length=l.length∧fin=tv.reverse++vals∧qs=ps++iv.filterMap id ∧
  ∀ (i:Nat) o,l[i]?=some o→∃ t v p,tv[i]?=some (t,v)∧iv[i]?=some p∧(n+i=i0→p=none)∧Up P C ops H env0 ((tv.take i).reverse++vals) tm i0 ty q (n+i) o t v p:=by
 induction h with
 | nil n vals ps=>exact ⟨[],[],rfl,rfl,rfl,by simp,fun i o h=>by simp at h⟩
 | @run n vals fin ps qs o t v l hi hd ht h0 hn hs hg hv hr hl htd htm h ih =>
  obtain ⟨tv,iv,k1,k2,k3,k4,k5⟩:=ih
  refine ⟨(t,v)::tv,none::iv,by simp [k1],by simp [k2],by rw [k3];simp,by rw [k4];simp,fun i o' hio=>?_⟩
  cases i with
  | zero =>
   simp at hio;subst hio
   refine ⟨t,v,none,rfl,rfl,fun _=>rfl,⟨hd,ht,Jw h0,fun x hx e=>?_,hs,hr,.inl ⟨hg,hv⟩⟩,fun hm=>?_,htd,fun _=>htm,fun e=>absurd e hi⟩
   ·subst e
    have:(vals.map (·.1)).contains x.1=true:=List.contains_iff_mem.2 (List.mem_map_of_mem hx)
    rw [hn] at this;cases this
   ·have:=List.contains_iff_mem.2 hm
    rw [hl] at this;cases this
  | succ i =>
   obtain ⟨t',v',p',m1,m2,m3,m4⟩:=k5 i o' (by simpa using hio)
   have e:n+(i+1)=n+1+i:=by omega
   refine ⟨t',v',p',by simpa using m1,by simpa using m2,by rw [e];exact m3,?_⟩
   rw [e];simpa using m4
 | @mk vals fin ps qs o l hd ht h0 hn hg hv hr hl htd h ih =>
  obtain ⟨tv,iv,k1,k2,k3,k4,k5⟩:=ih
  refine ⟨(tm,.om [] [])::tv,none::iv,by simp [k1],by simp [k2],by rw [k3];simp,by rw [k4];simp,fun i o' hio=>?_⟩
  cases i with
  | zero =>
   simp at hio;subst hio
   refine ⟨tm,.om [] [],none,rfl,rfl,fun _=>rfl,⟨hd,ht,Jw h0,fun x hx e=>?_,rfl,hr,.inl ⟨hg,hv⟩⟩,fun hm=>?_,htd,fun e=>absurd rfl e,fun _=>⟨rfl,rfl⟩⟩
   ·subst e
    have:(vals.map (·.1)).contains x.1=true:=List.contains_iff_mem.2 (List.mem_map_of_mem hx)
    rw [hn] at this;cases this
   ·have:=List.contains_iff_mem.2 hm
    rw [hl] at this;cases this
  | succ i =>
   obtain ⟨t',v',p',m1,m2,m3,m4⟩:=k5 i o' (by simpa using hio)
   have e:i0+(i+1)=i0+1+i:=by omega
   refine ⟨t',v',p',by simpa using m1,by simpa using m2,by rw [e];exact m3,?_⟩
   rw [e];simpa using m4
 | @ins n vals fin ps qs o l x y z d hi hd hgn hop hx hy hdi h0 h ih =>
  obtain ⟨tv,iv,k1,k2,k3,k4,k5⟩:=ih
  refine ⟨(Mn+n,.un)::tv,some (z,d)::iv,by simp [k1],by simp [k2],by rw [k3];simp,by rw [k4];simp,fun i o' hio=>?_⟩
  cases i with
  | zero =>
   simp at hio;subst hio
   exact ⟨Mn+n,.un,some (z,d),rfl,rfl,fun e=>absurd e hi,hd,hgn,rfl,rfl,h0,hdi,x,y,hop,hx,hy⟩
  | succ i =>
   obtain ⟨t',v',p',m1,m2,m3,m4⟩:=k5 i o' (by simpa using hio)
   have e:n+(i+1)=n+1+i:=by omega
   refine ⟨t',v',p',by simpa using m1,by simpa using m2,by rw [e];exact m3,?_⟩
   rw [e];simpa using m4
end
end Go.FL
namespace Go.FL
open Go Go.RowKit
def Qv {α β:Type} (T:List (Int×FW α β)) : List (Int×DV):=T.map fun p=>(p.1,p.2.dv)
def Sc {α β:Type} (q:IntKind) (T:List (Int×FW α β)) : DV:=.mp ((Qv T).map fun p=>.i q p.1) ((Qv T).map (·.2))
def GF {α β:Type} (T:List (Int×FW α β)) (z:Int) : Option (FW α β):=(T.find? fun p=>decide (p.1=z)).map (·.2)
def Ti {α β:Type} (x:Option α) (a:β) (f:α→β) : β:=match x with
 | none=>a
 | some y=>f y
theorem SE {α β:Type} {x:Option α} {a r:β} {f:α→β} (e:x=none) (h:Ti x a f=r) : a=r:=by subst e;exact h
theorem Tt {α β:Type} {x:Option α} {y:α} {a r:β} {f:α→β} (e:x=some y) (h:Ti x a f=r) : f y=r:=by subst e;exact h
theorem Ju {α β:Type} {T:List (Int×FW α β)} {z:Int} {f:FW α β} (h:GF T z=some f) : (z,f)∈T:=by
 unfold GF at h
 simp only [Option.map_eq_some_iff] at h
 obtain ⟨p,hp,rfl⟩:=h
 have h1:=List.find?_some hp
 have h2:=List.mem_of_find?_eq_some hp
 have:p.1=z:=by simpa using h1
 rw [← this];exact h2
theorem RN {α β:Type} {T:List (Int×FW α β)} {z:Int} (h:GF T z=none) : ∀ p∈T,p.1≠z:=fun p hp=>by
 unfold GF at h
 rw [Option.map_eq_none_iff,List.find?_eq_none] at h
 simpa using h p hp
theorem Of {α β:Type} (q:IntKind) (T:List (Int×FW α β)) : ((Qv T).map fun p=>DV.i q p.1).zip ((Qv T).map (·.2))=T.map fun p=>(DV.i q p.1,p.2.dv):=by
 rw [MZ];unfold Qv;rw [List.map_map];rfl
theorem Ll {α β:Type} : ∀ {T:List (Int×FW α β)},(T.map (·.1)).Nodup→∀ {z f g},(z,f)∈T→(z,g)∈T→f=g
 | p::T,hn,z,f,g,h1,h2=>by
  rw [List.map_cons,List.nodup_cons] at hn
  rcases List.mem_cons.1 h1 with e1|h1<;>rcases List.mem_cons.1 h2 with e2|h2
  ·rw [← e1] at e2;cases e2;rfl
  ·exact absurd (List.mem_map.2 ⟨_,h2,by rw [← e1]⟩) hn.1
  ·exact absurd (List.mem_map.2 ⟨_,h1,by rw [← e2]⟩) hn.1
  ·exact Ll hn.2 h1 h2
section
variable {P:Program} {C:Cx} {o:Oper} {ops:Array Oper} {Q:Exit→Env→Ae→Prop} {env:Env} {H:Ae} {k:Nat} {l:List Oper}
theorem Sr {α β:Type} {T:List (Int×FW α β)} {z:Int} {f:FW α β} {x y:Operand} {ty kt et:TypeId} {q:IntKind} (hnd:(T.map (·.1)).Nodup) (hu:P.underlying ty=some (.map kt et)) (hk:P.underlying kt=some (.int q)) (h:GF T z=some f)
  (ho:o.op=.lookup ty x y false:=by rfl) (hx:AS (lk env x)=some (Sc q T):=by rfl) (hy:AS (lk env y)=some (.i q z):=by rfl):VOK P C o env H (.d f.dv):=by
 refine Uc (q:=q) (z:=z) hu hk (fun k hk=>?_) ?_ (fun d' hd=>?_) ho hx hy
 ·obtain ⟨p,_,rfl⟩:=List.mem_map.1 hk;exact ⟨_,rfl⟩
 ·rw [Of];exact List.mem_map.2 ⟨_,Ju h,rfl⟩
 ·rw [Of] at hd
  obtain ⟨p,hp,e⟩:=List.mem_map.1 hd
  simp only [Prod.mk.injEq,DV.i.injEq,true_and] at e
  obtain ⟨e1,rfl⟩:=e
  have:(z,p.2)∈T:=by rw [← e1];exact hp
  rw [Ll hnd this (Ju h)]
theorem TE {α β:Type} {T:List (Int×FW α β)} {z:Int} {x y:Operand} {ty kt et:TypeId} {q:IntKind} (hu:P.underlying ty=some (.map kt et)) (hk:P.underlying kt=some (.int q)) (hz:∀ w,(zeroValue et).run P w=.ok .nilFunc w) (h:GF T z=none)
  (ho:o.op=.lookup ty x y false:=by rfl) (hx:AS (lk env x)=some (Sc q T):=by rfl) (hy:AS (lk env y)=some (.i q z):=by rfl):VOK P C o env H (.d .nf):=by
 refine Un (q:=q) (z:=z) hu hk hz (fun _ _=>.nf) (fun k hk=>?_) ho hx hy
 obtain ⟨p,hp,rfl⟩:=List.mem_map.1 hk
 obtain ⟨p',hp',rfl⟩:=List.mem_map.1 hp
 exact ⟨_,rfl,RN h p' hp'⟩
theorem Ua {xt yt:TypeId} {x y:Operand} {d:DV} (hu:EW P xt=true) (hf:∃ f fs cs,d=.fn f fs cs) (ho:o.op=.binOp .eql xt x y yt:=by rfl) (hx:AS (lk env x)=some d:=by rfl) (hy:AS (lk env y)=some .nf:=by rfl) : VOK P C o env H (.d (.b false)):=by
 obtain ⟨f,fs,cs,rfl⟩:=hf
 exact Ue hu ho hx hy
end
end Go.FL
namespace Go.FL
open Go Go.Proofs
section
variable {P:Program} {C:Cx} {o:Oper} {ops:Array Oper} {Q:Exit→Env→Ae→Prop} {env:Env} {H:Ae} {k:Nat} {l:List Oper}
theorem asu {x:Operand} {t:Nat} (h:RL P C ops Q (k+1) l ((t,.un)::env) H) (hg:grd ops env o true=true:=by rfl) (ho:o.op=.assign x:=by rfl) (hd:o.dst=some t:=by rfl) (hf:Ah (get env t)=false:=by rfl) (ht:okT C.nt t:=by rfl) : RL P C ops Q k (o::l) env H:=by
 rw [← Ag hf] at h
 exact .go hg (.pure (by simp [ho]) hd ht (fun X a w I μ O _ hs=>⟨a.eval x,by simp [execOp,ho],[],.un _,nN,by simp⟩) h)
theorem freshK.nil {q:IntKind} {z:Int} : freshK q z []:=nofun
theorem freshK.snoc {q:IntKind} {z z':Int} {ks:List DV} (h:freshK q z ks) (hz:z'≠z) : freshK q z (ks++[.i q z']):=fun k hk=>by
 rcases List.mem_append.1 hk with h1|h1
 ·exact h k h1
 ·rw [List.mem_singleton] at h1
  exact ⟨z',h1,hz⟩
end
theorem gkR : Tryz.prog.underlying 21=some (.int .i32):=by kernel_rfl
def isF (d:DV) : Prop:=∃ f fs cs,d=.fn f fs cs
theorem Ic {n:Nat} : List.replicate n (M6 (.int .i64 0))=Is (List.replicate n 0):=by simp [Is,M6]
theorem Sp (w:World) (I:Nat→Prop) : RepAll w I [.sl []] (Value.slice none 0 0).cells.toList:=.cons (.sl0 _ _) .nil
abbrev DH : Type:=FW (Arr) (Arr×Int)
abbrev ER (f:DH) : Prop:=f.OK Tryz.prog (fun x=>[.ag [.sl (Is x.shape),.sl (Its x.items)]]) (fun r=>.tup [.d (.ag [.sl (Is r.1.shape),.sl (Its r.1.items)]),.d (.i .i64 r.2)])
abbrev Cg : Type:=FW ((List Int)) (Int)
abbrev Nj (f:Cg) : Prop:=f.OK Tryz.prog (fun x=>[.sl (Is x)]) (fun r=>.d (.i .i64 r))
theorem DS : EW Tryz.prog 84=true:=by kernel_rfl
def CV (a0:Arr) : Option (Itm):=((A2 a0).bind fun x1=>(if x1=true then ((rd? a0.items 0).bind fun x2=>((HV x2).bind fun x3=>(some (x3)))) else (some ((Itm.mk 0 (false,[],[]) 0 [])))))
theorem Jx {a0:Arr} {r:Itm} (h:CV a0=some r) :
  Fn Tryz.prog 126 [.ag [.sl (Is a0.shape),.sl (Its a0.items)]] (.d (.ag [.i .u8 r.kind,.b r.num.1,.sl (L r.num.2.1),.sl (L r.num.2.2),.i .i32 r.char,.sl (Ars r.box)])):=by
 unfold CV at h
 refine Fn.ofC (rs:=[.cell 2 58]) (nt:=12) Tryz.func126 rfl rfl rfl (by simp) rfl ?_;refine .sr ?_;refine vk (vbx) ?_;refine vk (van (Aj Co) CM) ?_;refine rk [1,2] ?_;refine .seq ?_;refine .sr ?_;refine vk (AI Ad Ab) ?_
 obtain ⟨x1,g1,h⟩:=bnd h
 refine vk (Aq (Bo g1) Tryz.call15) ?_;refine vk (vnt) ?_;refine rk [1,2,5] ?_
 rcases brc h with ⟨hc,h⟩|⟨hc,h⟩
 ·refine cnf (ntf hc) ?_
  refine .skip ?_
  show AW _ _ _ _ _ _
  refine .sr ?_;refine vk (vfa AJ) ?_;refine vk (Al BS) ?_
  obtain ⟨x2,g2,h⟩:=bnd h
  obtain ⟨n2,p02,q2⟩:=Ak g2
  refine vk (vix n2 p02 (C6 q2) rfl C7) ?_;refine vk (AI A4 AB) ?_
  obtain ⟨x3,g3,h⟩:=bnd h
  refine vk (Aq (IX g3) Tryz.call31) ?_
  refine stn ?_ AB (by decide)
  refine rk [2] ?_;refine .ret ?_
  cases h
  exact ⟨_,⟨.inr rfl,A4,AB,p6⟩,rfl⟩
 refine cnt (ntt (bf hc)) ?_;refine .sr ?_;refine vk (vbd Ih Co CM) ?_
 refine stn ?_ AB (by decide)
 refine rk [1,2] ?_;refine .ret ?_
 cases h
 exact ⟨_,⟨.inr rfl,A4,AB,p6⟩,rfl⟩
def FH (a0:Arr) : Option (Arr):=((A2 a0).bind fun x1=>(if x1=true then ((BR a0 (⟨.fn 33 [] [],fun x=>FI x⟩ : BG)).bind fun x2=>(some (x2))) else (some ((Arr.mk [] [])))))
theorem G6 {a0:Arr} {r:Arr} (h:FH a0=some r) :
  Fn Tryz.prog 134 [.ag [.sl (Is a0.shape),.sl (Its a0.items)]] (.d (.ag [.sl (Is r.shape),.sl (Its r.items)])):=by
 unfold FH at h
 refine Fn.ofC (rs:=[.cell 2 27]) (nt:=9) Tryz.func134 rfl rfl rfl (by simp) rfl ?_;refine .sr ?_;refine vk (vbx) ?_;refine vk (van (Aj Az) AC) ?_;refine rk [1,2] ?_;refine .seq ?_;refine .sr ?_;refine vk (AI Ad Ab) ?_
 obtain ⟨x1,g1,h⟩:=bnd h
 refine vk (Aq (Bo g1) Tryz.call15) ?_;refine vk (vnt) ?_;refine rk [1,2,5] ?_
 rcases brc h with ⟨hc,h⟩|⟨hc,h⟩
 ·refine cnf (ntf hc) ?_
  refine .skip ?_
  show AW _ _ _ _ _ _
  refine .sr ?_;refine vk (AI Ad Ab) ?_
  obtain ⟨x2,g2,h⟩:=bnd h
  refine vk (Aq (Dk (DZ Tryz.call33 (fun _ _ h=>Hf h)) g2) Tryz.call69) ?_
  refine stn ?_ Ab (by decide)
  refine rk [2] ?_;refine .ret ?_
  cases h
  exact ⟨_,⟨.inr rfl,Ad,Ab,p2⟩,rfl⟩
 refine cnt (ntt (bf hc)) ?_;refine .sr ?_;refine vk (vbd Ce Az AC) ?_
 refine stn ?_ Ab (by decide)
 refine rk [1,2] ?_;refine .ret ?_
 cases h
 exact ⟨_,⟨.inr rfl,Ad,Ab,p2⟩,rfl⟩
def Bh (a0:(List Int)) (K0:(List Int)→Option ((List Int))) : Nat→(List Int)→Int→Int→Option ((List Int))
 | 0,_,_,_=>none
 | k+1,s3,s4,s5=>(if 0≤s5 then ((rd? s3 s5).bind fun x6=>((rd? a0 s5).bind fun x7=>(Bh a0 K0 k (List.set s3 (Int.toNat s5) s4) (w64 (s4 * x7)) (w64 (s5-1))))) else (K0 s3))
def BV (a0:(List Int)) : Option ((List Int)):=((Et (0≤((List.length a0:Nat) : Int)∧((List.length a0:Nat) : Int)≤17592186044416)).bind fun x1=>(jn (fun (z2:(List Int))=>(some (z2))) fun K0=>(Bh a0 K0 AT (List.replicate (Int.toNat ((List.length a0:Nat) : Int)) (0:Int)) 1 (w64 (((List.length a0:Nat) : Int)-1)))))
theorem C4 {a0:(List Int)} {r:(List Int)} (h:BV a0=some r) :
  Fn Tryz.prog 75 [.sl (Is a0)] (.d (.sl (Is r))):=by
 unfold BV at h
 refine Fn.o1 2 27 Tryz.func75 ?_;refine .sr ?_;refine asn ?_;refine rk [0,2] ?_;refine .sr ?_;refine vk (Aa) ?_;refine vk (A5 (Af _) (Bs _) Bp) ?_
 obtain ⟨x1,g1,h⟩:=bnd h
 have ghx1:=DI g1
 refine mk' (F:=Is) (x0:=0) (zl:=((List.length a0:Nat):Int)) (Int.toNat ((List.length a0:Nat):Int)) Ic (by omega) (by omega) ?_ CS (by decide)
 refine aso ?_;refine rk [0,2,3] ?_;refine .sr ?_;refine ar [0,2,3,4] ?_;refine .seq ?_;refine .sr ?_;refine vk (Aa) ?_;refine vk (A5 (Af _) (Bs _) Bp) ?_;refine vk (vbi) ?_;refine ar [0,2,3,4,5] ?_
 obtain ⟨K0,hK0,h⟩:=A7 h
 refine AW.mr (σ:=(List Int)) (fun p=>K0 p=some r) (fun p=>[(2,.nl),(3,.own 3 (Is p))]) (fun p=>[]) ?_ ?_
 ·skip
  refine .block ?_
  refine .loop (.gk [0,2,3,4,5] ?_)
  refine AL.ind (σ:=Nat×(List Int)×Int×Int) (m:=fun p=>p.1) (e:=fun p=>[(0,.d (.sl (Is a0))),(2,.nl),(3,.own 3 (Is p.2.1)),(4,.d (.i .i64 p.2.2.1)),(5,.d (.i .i64 p.2.2.2))]) (h:=fun p=>[]) (I:=fun p=>Bh a0 K0 p.1 p.2.1 p.2.2.1 p.2.2.2=some r) ?_ (AT,(List.replicate (Int.toNat ((List.length a0:Nat):Int)) (0:Int)),1,(w64 (((List.length a0:Nat):Int)-1))) h
  rintro ⟨k,s3,s4,s5⟩ h ih
  dsimp only at h ih ⊢
  rcases k with _|k
  ·rw [Bh] at h;cases h
  rw [Bh] at h
  refine .seq ?_;refine .sr ?_;refine vk (Aa) ?_;refine vk (vbi) ?_;refine rk [0,2,3,4,5,13] ?_
  rcases brc h with ⟨hc,h⟩|⟨hc,h⟩
  ·refine cnt (dT hc) ?_
   refine .skip ?_
   show AW _ _ _ _ _ _
   refine .seq ?_;refine .block ?_;refine .sr ?_;refine mvo ?_;refine vk (Aa) ?_;refine vk (Aa) ?_
   obtain ⟨x6,g6,h⟩:=bnd h
   obtain ⟨n6,p06,q6⟩:=Ak g6
   refine ixr (off:=0) (len:=(Is s3).length) n6 p06 (by rw [Af];exact (lS.1 q6).1) ?_ A8 (by decide)
   refine Ls (F:=Is) (D:=fun x=>.i .i64 x) F6 (us:=s3) (n:=n6) (m:=Int.toNat s5) (x:=s4) (by rw [p06];rfl) ⟨_,by rw [Nat.zero_add];exact Be q6,rfl⟩ ?_ CO
   refine RL.gk [0,2,3,4,5,13,17,18] ?_;refine rk [0,2,3,4,5] ?_;refine .region ?_;refine vk (Aa) ?_;refine vk (Aa) ?_;refine vk (Aa) ?_
   obtain ⟨x7,g7,h⟩:=bnd h
   obtain ⟨n7,p07,q7⟩:=Ak g7
   refine vk (vix n7 p07 (Be q7) rfl A8) ?_;refine vk (Al AF) ?_;refine vk (vbi) ?_;refine asd ?_;refine .nil ?_
   show AW _ _ _ _ _ _
   refine .gk [0,2,3,4,5] ?_;refine .region ?_;refine vk (Aa) ?_;refine vk (vbi) ?_;refine asd ?_;refine .nil ?_;refine AL.gk [0,2,3,4,5] ?_
   exact ih (k,(List.set s3 (Int.toNat s5) s4),(w64 (s4 * x7)),(w64 (s5-1))) h (Nat.lt_succ_self _)
  refine cnf (dF hc) ?_;refine .gk [2,3] ?_;refine .exit ?_
  exact jr (s3) h
 rintro z2 h
 try dsimp only at h ⊢
 subst hK0
 show AW _ _ _ _ _ _
 refine .sr ?_;refine fz (p:=.t 3) ?_;refine vk (Aa) ?_;refine ar [2] ?_;refine .ret ?_
 cases h
 exact ⟨rfl,rfl⟩
def B3 (a0:(List Int)) (a1:(List Int)) (K0:Int→Option (Int)) : Nat→Int→Int→Option (Int)
 | 0,_,_=>none
 | k+1,s2,s3=>(if s3<((List.length a0:Nat):Int) then ((rd? a0 s3).bind fun x4=>((rd? a1 s3).bind fun x5=>(B3 a0 a1 K0 k (w64 (s2+(w64 (x4 * x5)))) (w64 (s3+1))))) else (K0 s2))
def C1 (a0:(List Int)) (a1:(List Int)) : Option (Int):=(jn (fun (z1:Int)=>(some (z1))) fun K0=>(B3 a0 a1 K0 AT 0 0))
theorem ED {a0:(List Int)} {a1:(List Int)} {r:Int} (h:C1 a0 a1=some r) :
  Fn Tryz.prog 79 [.sl (Is a0),.sl (Is a1)] (.d (.i .i64 r)):=by
 unfold C1 at h
 refine Fn.o1 4 25 Tryz.func79 ?_;refine .sr ?_;refine ar [0,1,4] ?_;refine .sr ?_;refine ar [0,1,4,5] ?_;refine .seq ?_;refine .sr ?_;refine vk (Aa) ?_;refine vk (A5 (Af _) (Bs _) Bp) ?_;refine vk (Aa) ?_;refine rk [1,4,5,8,9,10] ?_
 obtain ⟨K0,hK0,h⟩:=A7 h
 refine AW.mr (σ:=Int) (fun p=>K0 p=some r) (fun p=>[(4,.d (.i .i64 0)),(5,.d (.i .i64 p))]) (fun p=>[]) ?_ ?_
 ·skip
  refine .block ?_
  refine .loop (.gk [1,4,5,8,9,10] ?_)
  refine AL.ind (σ:=Nat×Int×Int) (m:=fun p=>p.1) (e:=fun p=>[(1,.d (.sl (Is a1))),(4,.d (.i .i64 0)),(5,.d (.i .i64 p.2.1)),(8,.d (.sl (Is a0))),(9,.d (.i .i64 ((List.length a0:Nat):Int))),(10,.d (.i .i64 p.2.2))]) (h:=fun p=>[]) (I:=fun p=>B3 a0 a1 K0 p.1 p.2.1 p.2.2=some r) ?_ (AT,0,0) h
  rintro ⟨k,s2,s3⟩ h ih
  dsimp only at h ih ⊢
  rcases k with _|k
  ·rw [B3] at h;cases h
  rw [B3] at h
  refine .sr ?_;refine vk (vbi) ?_;refine rk [1,4,5,8,9,10,11] ?_;refine .seq ?_
  rcases brc h with ⟨hc,h⟩|⟨hc,h⟩
  ·refine cnt (dT hc) ?_
   refine .skip ?_
   show AW _ _ _ _ _ _
   refine .seq ?_;refine .block ?_;refine .sr ?_;refine vk (Aa) ?_
   obtain ⟨x4,g4,h⟩:=bnd h
   obtain ⟨n4,p04,q4⟩:=Ak g4
   refine vk (vix n4 p04 (Be q4) rfl A8) ?_;refine vk (Al AF) ?_;refine asd ?_;refine ar [1,4,5,6,7,8,9,10] ?_;refine .region ?_;refine vk (Aa) ?_;refine vk (Aa) ?_;refine vk (Aa) ?_;refine vk (Aa) ?_
   obtain ⟨x5,g5,h⟩:=bnd h
   obtain ⟨n5,p05,q5⟩:=Ak g5
   refine vk (vix n5 p05 (Be q5) rfl A8) ?_;refine vk (Al AF) ?_;refine vk (vbi) ?_;refine vk (vbi) ?_;refine asd ?_;refine .nil ?_
   show AW _ _ _ _ _ _
   refine .gk [1,4,5,8,9,10] ?_;refine .region ?_;refine vk (vbi) ?_;refine vk (Aa) ?_;refine .nil ?_;refine AL.gk [1,4,5,8,9,10] ?_
   exact ih (k,(w64 (s2+(w64 (x4 * x5)))),(w64 (s3+1))) h (Nat.lt_succ_self _)
  refine cnf (dF hc) ?_;refine .gk [4,5] ?_;refine .exit ?_
  exact jr (s2) h
 rintro z1 h
 try dsimp only at h ⊢
 subst hK0
 show AW _ _ _ _ _ _
 refine .sr ?_;refine vk (Aa) ?_;refine ar [4] ?_;refine .ret ?_
 cases h
 exact ⟨rfl,rfl⟩
def B1 (a1:(List Int)) (x3:(List Int)) (s8:Int) (K3:(List Int)→Option (Arr×Int)) : Nat→(List Int)→Int→Option (Arr×Int)
 | 0,_,_=>none
 | k+1,s12,s13=>(if s13<((List.length x3:Nat):Int) then ((rd? x3 s13).bind fun x14=>((Et (x14≠0)).bind fun x15=>((rd? a1 s13).bind fun x16=>((Et (x16≠0)).bind fun x17=>((rd? s12 s13).bind fun x18=>(B1 a1 x3 s8 K3 k (List.set s12 (Int.toNat s13) (Int.tmod (w64 (Int.tdiv s8 x14)) x16)) (w64 (s13+1)))))))) else (K3 s12))
def BF (a0:Arr) (a1:(List Int)) (a2:Cg) (x1:Int×Int) (x2:Itm) (x3:(List Int)) (K0:(List Itm)→Option (Arr×Int)) : Nat→(List Int)→(List Itm)→Int→Option (Arr×Int)
 | 0,_,_,_=>none
 | k+1,s6,s7,s8=>(if s8<x1.1 then (jn (fun (z9:(List Int)) (z10:(List Itm))=>(BF a0 a1 a2 x1 x2 x3 K0 k z9 z10 (w64 (s8+1)))) fun K2=>(jn (fun (z11:(List Int))=>((a2.g z11).bind fun x19=>(if 0≤x19 then ((rd? a0.items x19).bind fun x20=>((ap? 1466015503701 s7 [x20]).bind fun x21=>(K2 z11 x21))) else ((ap? 1466015503701 s7 [x2]).bind fun x22=>(K2 z11 x22))))) fun K3=>(B1 a1 x3 s8 K3 AT s6 0))) else (K0 s7))
def Bj (a0:Arr) (a1:(List Int)) (a2:Cg) : Option (Arr×Int):=((Ck a1).bind fun x1=>(if x1.2=0 then ((CV a0).bind fun x2=>((BV a1).bind fun x3=>((Et (0≤((List.length a1:Nat) : Int)∧((List.length a1:Nat) : Int)≤17592186044416)).bind fun x4=>(jn (fun (z5:(List Itm))=>(jn (fun (z23:(List Itm))=>((AN a1 z23).bind fun x25=>(some (x25.1,x25.2)))) fun K5=>(if x1.1=0 then ((ap? 1466015503701 z5 [x2]).bind fun x24=>(K5 x24)) else (K5 z5)))) fun K0=>(BF a0 a1 a2 x1 x2 x3 K0 AT (List.replicate (Int.toNat ((List.length a1:Nat) : Int)) (0:Int)) [] 0))))) else (some ((Arr.mk [] []),x1.2))))
theorem EH {a0:Arr} {a1:(List Int)} {a2:Cg} (oa2:Nj a2) {r:Arr×Int} (h:Bj a0 a1 a2=some r) :
  Fn Tryz.prog 76 [.ag [.sl (Is a0.shape),.sl (Its a0.items)],.sl (Is a1),a2.dv] (.tup [.d (.ag [.sl (Is r.1.shape),.sl (Its r.1.items)]),.d (.i .i64 r.2)]):=by
 unfold Bj at h
 refine Fn.ofC (rs:=[.cell 6 27,.tmp 7]) (nt:=86) Tryz.func76 rfl rfl rfl (by simp) rfl ?_;refine .sr ?_;refine vk (vbx) ?_;refine vk (van (Aj Az) AC) ?_;refine ar [1,2,3,6,7] ?_;refine .sr ?_;refine vk (Aa) ?_
 obtain ⟨x1,g1,h⟩:=bnd h
 refine vk (VOK.tupd (vs:=[.i .i64 x1.1,.i .i64 x1.2]) (Aq (CJ g1) Tryz.call26)) ?_;refine vk (Aa) ?_;refine vk (vex) ?_;refine vk (vex) ?_;refine asd ?_;refine ar [1,2,3,6,7,8,9] ?_;refine .seq ?_;refine .sr ?_;refine vk (Aa) ?_;refine vk (vbi) ?_;refine rk [1,2,3,6,7,8,9,24] ?_
 rcases brc h with ⟨hc,h⟩|⟨hc,h⟩
 ·refine cnf (ntf (dT hc)) ?_
  refine .skip ?_
  show AW _ _ _ _ _ _
  refine .sr ?_;refine vk (AI Ad Ab) ?_
  obtain ⟨x2,g2,h⟩:=bnd h
  refine vk (Aq (Jx g2) Tryz.call126) ?_;refine vk (van (Aj Co) CM) ?_
  refine stn ?_ AB (by decide)
  refine rk [1,2,3,6,7,8,10] ?_;refine .sr ?_;refine vk (Aa) ?_
  obtain ⟨x3,g3,h⟩:=bnd h
  refine vk (Aq (C4 g3) Tryz.call75) ?_;refine ar [1,2,3,6,7,8,10,11] ?_;refine .sr ?_;refine vk (Aa) ?_;refine vk (A5 (Af _) (Bs _) Bp) ?_
  obtain ⟨x4,g4,h⟩:=bnd h
  have ghx4:=DI g4
  refine mk' (F:=Is) (x0:=0) (zl:=((List.length a1:Nat):Int)) (Int.toNat ((List.length a1:Nat):Int)) Ic (by omega) (by omega) ?_ CS (by decide)
  refine aso ?_;refine rk [1,2,3,6,7,8,10,11,12] ?_;refine .sr ?_;refine asn ?_;refine rk [1,2,3,6,7,8,10,11,12,13] ?_;refine .seq ?_;refine .sr ?_;refine vk (Aa) ?_;refine vk (Aa) ?_;refine rk [1,2,3,6,7,8,10,11,12,13,34,35] ?_
  obtain ⟨K0,hK0,h⟩:=A7 h
  refine AW.mr (σ:=(List Itm)) (fun p=>K0 p=some r) (fun p=>[(1,.d (.sl (Is a1))),(6,.nb [.sl (Is []),.sl (Its [])]),(7,.d (.i .i64 0)),(8,.d (.i .i64 x1.1)),(10,.nb [.i .u8 x2.kind,.b x2.num.1,.sl (L x2.num.2.1),.sl (L x2.num.2.2),.i .i32 x2.char,.sl (Ars x2.box)]),(13,.own 58 (Its p))]) (fun p=>[]) ?_ ?_
  ·skip
   refine .block ?_;refine .gh (Gh.nlOwn (t:=13) 58 (by rw [JQ];decide) rfl) ?_
   refine .loop (.gk [1,2,3,6,7,8,10,11,12,13,34,35] ?_)
   refine AL.ind (σ:=Nat×(List Int)×(List Itm)×Int) (m:=fun p=>p.1) (e:=fun p=>[(1,.d (.sl (Is a1))),(2,.d (a2.dv)),(3,.d (.ptr [.sl (Is a0.shape),.sl (Its a0.items)])),(6,.nb [.sl (Is []),.sl (Its [])]),(7,.d (.i .i64 0)),(8,.d (.i .i64 x1.1)),(10,.nb [.i .u8 x2.kind,.b x2.num.1,.sl (L x2.num.2.1),.sl (L x2.num.2.2),.i .i32 x2.char,.sl (Ars x2.box)]),(11,.d (.sl (Is x3))),(12,.own 3 (Is p.2.1)),(13,.own 58 (Its p.2.2.1)),(34,.d (.i .i64 x1.1)),(35,.d (.i .i64 p.2.2.2))]) (h:=fun p=>[]) (I:=fun p=>BF a0 a1 a2 x1 x2 x3 K0 p.1 p.2.1 p.2.2.1 p.2.2.2=some r) ?_ (AT,(List.replicate (Int.toNat ((List.length a1:Nat):Int)) (0:Int)),[],0) h
   rintro ⟨k,s6,s7,s8⟩ h ih
   dsimp only at h ih ⊢
   rcases k with _|k
   ·rw [BF] at h;cases h
   rw [BF] at h
   refine .sr ?_;refine vk (vbi) ?_;refine rk [1,2,3,6,7,8,10,11,12,13,34,35,36] ?_;refine .seq ?_
   rcases brc h with ⟨hc,h⟩|⟨hc,h⟩
   ·refine cnt (dT hc) ?_
    refine .skip ?_
    show AW _ _ _ _ _ _
    obtain ⟨K2,hK2,h⟩:=A7 h
    refine AW.mj (σ:=(List Int)×(List Itm)) (fun p=>K2 p.1 p.2=some r) (fun p=>[(1,.d (.sl (Is a1))),(2,.d (a2.dv)),(3,.d (.ptr [.sl (Is a0.shape),.sl (Its a0.items)])),(6,.nb [.sl (Is []),.sl (Its [])]),(7,.d (.i .i64 0)),(8,.d (.i .i64 x1.1)),(10,.nb [.i .u8 x2.kind,.b x2.num.1,.sl (L x2.num.2.1),.sl (L x2.num.2.2),.i .i32 x2.char,.sl (Ars x2.box)]),(11,.d (.sl (Is x3))),(12,.own 3 (Is p.1)),(13,.own 58 (Its p.2)),(34,.d (.i .i64 x1.1)),(35,.d (.i .i64 s8))]) (fun p=>[]) ?_ ?_
    ·skip
     refine .block ?_;refine .sr ?_;refine vk (Aa) ?_;refine ar [1,2,3,6,7,8,10,11,12,13,14,34,35] ?_;refine .seq ?_;refine .sr ?_;refine vk (Aa) ?_;refine vk (A5 (Af _) (Bs _) Bp) ?_;refine vk (Aa) ?_;refine rk [1,2,3,6,7,8,10,11,12,13,14,34,35,38,39,40] ?_
     obtain ⟨K3,hK3,h⟩:=A7 h
     refine AW.mr (σ:=(List Int)) (fun p=>K3 p=some r) (fun p=>[(1,.d (.sl (Is a1))),(2,.d (a2.dv)),(3,.d (.ptr [.sl (Is a0.shape),.sl (Its a0.items)])),(6,.nb [.sl (Is []),.sl (Its [])]),(7,.d (.i .i64 0)),(8,.d (.i .i64 x1.1)),(10,.nb [.i .u8 x2.kind,.b x2.num.1,.sl (L x2.num.2.1),.sl (L x2.num.2.2),.i .i32 x2.char,.sl (Ars x2.box)]),(11,.d (.sl (Is x3))),(12,.own 3 (Is p)),(13,.own 58 (Its s7)),(34,.d (.i .i64 x1.1)),(35,.d (.i .i64 s8))]) (fun p=>[]) ?_ ?_
     ·skip
      refine .block ?_
      refine .loop (.gk [1,2,3,6,7,8,10,11,12,13,14,34,35,38,39,40] ?_)
      refine AL.ind (σ:=Nat×(List Int)×Int) (m:=fun p=>p.1) (e:=fun p=>[(1,.d (.sl (Is a1))),(2,.d (a2.dv)),(3,.d (.ptr [.sl (Is a0.shape),.sl (Its a0.items)])),(6,.nb [.sl (Is []),.sl (Its [])]),(7,.d (.i .i64 0)),(8,.d (.i .i64 x1.1)),(10,.nb [.i .u8 x2.kind,.b x2.num.1,.sl (L x2.num.2.1),.sl (L x2.num.2.2),.i .i32 x2.char,.sl (Ars x2.box)]),(11,.d (.sl (Is x3))),(12,.own 3 (Is p.2.1)),(13,.own 58 (Its s7)),(14,.d (.i .i64 s8)),(34,.d (.i .i64 x1.1)),(35,.d (.i .i64 s8)),(38,.d (.sl (Is x3))),(39,.d (.i .i64 ((List.length x3:Nat):Int))),(40,.d (.i .i64 p.2.2))]) (h:=fun p=>[]) (I:=fun p=>B1 a1 x3 s8 K3 p.1 p.2.1 p.2.2=some r) ?_ (AT,s6,0) h
      rintro ⟨k,s12,s13⟩ h ih
      dsimp only at h ih ⊢
      rcases k with _|k
      ·rw [B1] at h;cases h
      rw [B1] at h
      refine .sr ?_;refine vk (vbi) ?_;refine rk [1,2,3,6,7,8,10,11,12,13,14,34,35,38,39,40,41] ?_;refine .seq ?_
      rcases brc h with ⟨hc,h⟩|⟨hc,h⟩
      ·refine cnt (dT hc) ?_
       refine .skip ?_
       show AW _ _ _ _ _ _
       refine .seq ?_;refine .block ?_;refine .sr ?_;refine vk (Aa) ?_
       obtain ⟨x14,g14,h⟩:=bnd h
       obtain ⟨n14,p014,q14⟩:=Ak g14
       refine vk (vix n14 p014 (Be q14) rfl A8) ?_;refine vk (Al AF) ?_;refine asd ?_;refine ar [1,2,3,6,7,8,10,11,12,13,14,15,16,34,35,38,39,40] ?_;refine .drawn 11 Bf (by kernel_rfl) ?_;refine dv Pg ?_;refine dv (Aa) ?_;refine dv (Aa) ?_;refine dv (Aa) ?_
       obtain ⟨x15,g15,h⟩:=bnd h
       refine dv (Ks (DI g15)) ?_;refine dv (Aa) ?_;refine dv (Aa) ?_
       obtain ⟨x16,g16,h⟩:=bnd h
       obtain ⟨n16,p016,q16⟩:=Ak g16
       refine dv (vix n16 p016 (Be q16) rfl A8) ?_;refine dv (Al AF) ?_
       obtain ⟨x17,g17,h⟩:=bnd h
       refine dv (Ks (DI g17)) ?_
       obtain ⟨x18,g18,h⟩:=bnd h
       obtain ⟨n18,p018,q18⟩:=Ak g18
       refine dv (MD (off:=0) (len:=(Is s12).length) n18 p018 (by rw [Af];exact (lS.1 q18).1) A8 (by decide)) ?_;refine dz ?_
       refine Ls (F:=Is) (D:=fun x=>.i .i64 x) F6 (us:=s12) (n:=n18) (m:=Int.toNat s13) (x:=(Int.tmod (w64 (Int.tdiv s8 x14)) x16)) (by rw [p018];rfl) ⟨_,by rw [Nat.zero_add];exact Be q18,rfl⟩ ?_ CO
       refine RL.gk [1,2,3,6,7,8,10,11,12,13,14,15,16,34,35,38,39,40,46,47,48,49,50,51,52,53,54] ?_;refine .nil ?_
       show AW _ _ _ _ _ _
       refine .gk [1,2,3,6,7,8,10,11,12,13,14,34,35,38,39,40] ?_;refine .region ?_;refine vk (vbi) ?_;refine vk (Aa) ?_;refine .nil ?_;refine AL.gk [1,2,3,6,7,8,10,11,12,13,14,34,35,38,39,40] ?_
       exact ih (k,(List.set s12 (Int.toNat s13) (Int.tmod (w64 (Int.tdiv s8 x14)) x16)),(w64 (s13+1))) h (Nat.lt_succ_self _)
      refine cnf (dF hc) ?_;refine .gk [1,2,3,6,7,8,10,11,12,13,34,35] ?_;refine .exit ?_
      exact jr (s12) h
     rintro z11 h
     try dsimp only at h ⊢
     subst hK3
     show AW _ _ _ _ _ _
     refine .sr ?_;refine vk (Aa) ?_;refine mvo ?_
     obtain ⟨x19,g19,h⟩:=bnd h
     refine vk (Tx 12 (oa2 _ _ g19)) ?_;refine ar [1,2,3,6,7,8,10,11,12,13,17,34,35] ?_;refine .sr ?_;refine vk (Aa) ?_;refine vk (vbi) ?_;refine rk [1,2,3,6,7,8,10,11,12,13,17,34,35,61] ?_
     rcases brc h with ⟨hc,h⟩|⟨hc,h⟩
     ·refine cnt (dT hc) ?_
      refine .region ?_;refine mvo ?_;refine vk (vfa AJ) ?_;refine vk (Al BS) ?_;refine vk (Aa) ?_
      obtain ⟨x20,g20,h⟩:=bnd h
      obtain ⟨n20,p020,q20⟩:=Ak g20
      refine vk (vix n20 p020 (C6 q20) rfl C7) ?_;refine vk (AI A4 AB) ?_;refine vk ((Em (Eg x20) (De [x20]) CW).deep) ?_
      obtain ⟨x21,g21,h⟩:=bnd h
      refine Rk FY g21 Hz ?_ EV Ay CW
      refine aso ?_;refine RL.gk [1,2,3,6,7,8,10,11,12,13,34,35] ?_;refine .nil ?_
      exact jr (z11,x21) h
     refine cnf (dF hc) ?_;refine .region ?_;refine mvo ?_;refine vk (Ge A4 AB) ?_;refine vk ((Em (Eg x2) (De [x2]) CW).deep) ?_
     obtain ⟨x22,g22,h⟩:=bnd h
     refine Rk FY g22 Hz ?_ EV Ay CW
     refine aso ?_;refine RL.gk [1,2,3,6,7,8,10,11,12,13,34,35] ?_;refine .nil ?_
     exact jr (z11,x22) h
    rintro ⟨z9,z10⟩ h
    try dsimp only at h ⊢
    subst hK2
    refine .region ?_;refine vk (vbi) ?_;refine vk (Aa) ?_;refine .nil ?_;refine AL.gk [1,2,3,6,7,8,10,11,12,13,34,35] ?_
    exact ih (k,z9,z10,(w64 (s8+1))) h (Nat.lt_succ_self _)
   refine cnf (dF hc) ?_;refine .gk [1,6,7,8,10,13] ?_;refine .exit ?_
   exact jr (s7) h
  rintro z5 h
  try dsimp only at h ⊢
  subst hK0
  show AW _ _ _ _ _ _
  refine .seq ?_;refine .sr ?_;refine vk (Aa) ?_;refine vk (vbi) ?_;refine rk [1,6,7,10,13,76] ?_
  obtain ⟨K5,hK5,h⟩:=A7 h
  refine AW.mr (σ:=(List Itm)) (fun p=>K5 p=some r) (fun p=>[(1,.d (.sl (Is a1))),(6,.nb [.sl (Is []),.sl (Its [])]),(7,.d (.i .i64 0)),(13,.own 58 (Its p))]) (fun p=>[]) ?_ ?_
  ·skip
   rcases brc h with ⟨hc,h⟩|⟨hc,h⟩
   ·refine cnt (dT hc) ?_
    refine .region ?_;refine mvo ?_;refine vk (Ge A4 AB) ?_;refine vk ((Em (Eg x2) (De [x2]) CW).deep) ?_
    obtain ⟨x24,g24,h⟩:=bnd h
    refine Rk FY g24 Hz ?_ EV Ay CW
    refine aso ?_;refine RL.gk [1,6,7,13] ?_;refine .nil ?_
    exact jr (x24) h
   refine cnf (dF hc) ?_;refine .gk [1,6,7,13] ?_;refine .skip ?_
   exact jr (z5) h
  rintro z23 h
  try dsimp only at h ⊢
  subst hK5
  show AW _ _ _ _ _ _
  refine .sr ?_;refine vk (Aa) ?_;refine fz (p:=.t 13) ?_;refine vk (Aa) ?_
  obtain ⟨x25,g25,h⟩:=bnd h
  refine vk (VOK.tupd (vs:=[.ag [.sl (Is x25.1.shape),.sl (Its x25.1.items)],.i .i64 x25.2]) (Aq (Ef g25) Tryz.call10)) ?_;refine vk (vex) ?_;refine vk (vex) ?_
  refine stn ?_ Ab (by decide)
  refine ar [6,7] ?_;refine .ret ?_
  cases h
  exact ⟨_,_,⟨.inr rfl,Ad,Ab,p2⟩,rfl,rfl⟩
 refine cnt (ntt (dF hc)) ?_;refine .sr ?_;refine vk (vbd Ce Az AC) ?_;refine vk (Aa) ?_
 refine stn ?_ Ab (by decide)
 refine ar [1,2,3,6,7,8] ?_;refine .ret ?_
 cases h
 exact ⟨_,_,⟨.inr rfl,Ad,Ab,p2⟩,rfl,rfl⟩
def E5 (a0:(List Int)) (c0:(List Int)) (c1:Int) (c2:(List Int)) : Option (Int):=((rd? a0 c1).bind fun x1=>((rd? c0 x1).bind fun x2=>(if x2<0 then (some ((-1))) else ((C1 c2 a0).bind fun x3=>((rd? c2 c1).bind fun x4=>((rd? a0 c1).bind fun x5=>(some ((w64 (x3+(w64 (x4 * (w64 (x2-x5))))))))))))))
theorem IA {a0:(List Int)} {c0:(List Int)} {c1:Int} {c2:(List Int)} {r:Int} (h:E5 a0 c0 c1 c2=some r) :
  Fn Tryz.prog 168 [.sl (Is a0),.ptr [.sl (Is c0)],.ptr [.i .i64 c1],.ptr [.sl (Is c2)]] (.d (.i .i64 r)):=by
 unfold E5 at h
 refine Fn.o1 5 31 Tryz.func168 ?_;refine .sr ?_;refine ar [0,1,2,3,5] ?_;refine .seq ?_;refine .drawn 7 Bf (by kernel_rfl) ?_;refine dv (Al A1) ?_;refine dv (Aa) ?_;refine dv (Al AF) ?_
 obtain ⟨x1,g1,h⟩:=bnd h
 obtain ⟨n1,p01,q1⟩:=Ak g1
 refine dv (vix n1 p01 (Be q1) rfl A8) ?_;refine dv (Al AF) ?_
 obtain ⟨x2,g2,h⟩:=bnd h
 obtain ⟨n2,p02,q2⟩:=Ak g2
 refine dv (vix n2 p02 (Be q2) rfl A8) ?_;refine dv (Al AF) ?_;refine dz ?_;refine ar [0,2,3,5,6] ?_;refine .seq ?_;refine .sr ?_;refine vk (Aa) ?_;refine vk (vbi) ?_;refine rk [0,2,3,5,6,15] ?_
 rcases brc h with ⟨hc,h⟩|⟨hc,h⟩
 ·refine cnt (dT hc) ?_
  refine .sr ?_;refine ar [0,2,3,5,6] ?_;refine .ret ?_
  cases h
  exact ⟨rfl,rfl⟩
 refine cnf (dF hc) ?_;refine .skip ?_
 show AW _ _ _ _ _ _
 refine .seq ?_;refine .drawn 15 Bf (by kernel_rfl) ?_;refine dv (Al A1) ?_;refine dv (Aa) ?_
 obtain ⟨x3,g3,h⟩:=bnd h
 refine dv (Aq (ED g3) Tryz.call79) ?_;refine dv (Al A1) ?_;refine dv (Al AF) ?_
 obtain ⟨x4,g4,h⟩:=bnd h
 obtain ⟨n4,p04,q4⟩:=Ak g4
 refine dv (vix n4 p04 (Be q4) rfl A8) ?_;refine dv (Al AF) ?_;refine dv (Aa) ?_;refine dv (Aa) ?_;refine dv (Al AF) ?_
 obtain ⟨x5,g5,h⟩:=bnd h
 obtain ⟨n5,p05,q5⟩:=Ak g5
 refine dv (vix n5 p05 (Be q5) rfl A8) ?_;refine dv (Al AF) ?_;refine dv (vbi) ?_;refine dv (vbi) ?_;refine dv (vbi) ?_;refine dz ?_;refine ar [5] ?_;refine .ret ?_
 cases h
 exact ⟨rfl,rfl⟩
def E3 (a0:Arr) (a1:Int) (a2:(List Int)) : Option (Arr×Int):=((Dp a0.shape).bind fun x1=>((rd? x1 a1).bind fun x2=>((BV a0.shape).bind fun x3=>((Bj a0 (List.set x1 (Int.toNat a1) ((List.length a2:Nat) : Int)) (⟨.fn 168 [] [.ptr [.sl (Is a2)],.ptr [.i .i64 a1],.ptr [.sl (Is x3)]],fun x=>E5 x a2 a1 x3⟩ : Cg)).bind fun x4=>(some (x4.1,x4.2))))))
theorem Gy {a0:Arr} {a1:Int} {a2:(List Int)} {r:Arr×Int} (h:E3 a0 a1 a2=some r) :
  Fn Tryz.prog 135 [.ag [.sl (Is a0.shape),.sl (Its a0.items)],.i .i64 a1,.sl (Is a2)] (.tup [.d (.ag [.sl (Is r.1.shape),.sl (Its r.1.items)]),.d (.i .i64 r.2)]):=by
 unfold E3 at h
 refine Fn.ofC (rs:=[.cell 6 27,.tmp 7]) (nt:=27) Tryz.func135 rfl rfl rfl (by simp) rfl ?_;refine .sr ?_;refine vk (vbx) ?_;refine vk (SS) ?_;refine vk (SS) ?_;refine vk (van (Aj Az) AC) ?_;refine ar [3,4,5,6,7] ?_;refine .sr ?_;refine vk (vfa Av) ?_;refine vk (Al A1) ?_
 obtain ⟨x1,g1,h⟩:=bnd h
 refine vk (Aq (E7 g1) Tryz.call30) ?_;refine aso ?_;refine rk [3,4,5,6,7,8] ?_;refine .sr ?_;refine mvo ?_;refine vk (Al AF) ?_;refine vk (Al A1) ?_;refine vk (A5 (Af _) (Bs _) Bp) ?_
 obtain ⟨x2,g2,h⟩:=bnd h
 obtain ⟨n2,p02,q2⟩:=Ak g2
 refine ixr (off:=0) (len:=(Is x1).length) n2 p02 (by rw [Af];exact (lS.1 q2).1) ?_ A8 (by decide)
 refine Ls (F:=Is) (D:=fun x=>.i .i64 x) F6 (us:=x1) (n:=n2) (m:=Int.toNat a1) (x:=((List.length a2:Nat):Int)) (by rw [p02];rfl) ⟨_,by rw [Nat.zero_add];exact Be q2,rfl⟩ ?_ CO
 refine RL.gk [3,4,5,6,7,8,14,15,16] ?_;refine rk [3,4,5,6,7,8] ?_;refine .sr ?_;refine vk (vfa Av) ?_;refine vk (Al A1) ?_
 obtain ⟨x3,g3,h⟩:=bnd h
 refine vk (Aq (C4 g3) Tryz.call75) ?_;refine vk (van (Aj NV) Sp) ?_
 refine TK ?_ MC
 refine rk [3,4,5,6,7,8,9] ?_;refine .sr ?_;refine vk (AI Ad Ab) ?_;refine fz (p:=.t 8) ?_;refine vk (Aa) ?_;refine RL.gh (Gh.nbp (t:=9) rfl) ?_;refine vk (RP) ?_
 obtain ⟨x4,g4,h⟩:=bnd h
 refine vk (VOK.tupd (vs:=[.ag [.sl (Is x4.1.shape),.sl (Its x4.1.items)],.i .i64 x4.2]) (Aq (EH (DZ Tryz.call168 (fun _ _ h=>IA h)) g4) Tryz.call76)) ?_;refine vk (vex) ?_;refine vk (vex) ?_
 refine stn ?_ Ab (by decide)
 refine ar [6,7] ?_;refine .ret ?_
 cases h
 exact ⟨_,_,⟨.inr rfl,Ad,Ab,p2⟩,rfl,rfl⟩
def GR (a0:Arr) (a1:Bool) : Option (Int):=(if a1=true then (some (0)) else (some ((if (w64 (((List.length a0.shape:Nat) : Int)-1))<0 then 0 else (w64 (((List.length a0.shape:Nat) : Int)-1))))))
theorem HM {a0:Arr} {a1:Bool} {r:Int} (h:GR a0 a1=some r) :
  Fn Tryz.prog 40 [.ag [.sl (Is a0.shape),.sl (Its a0.items)],.b a1] (.d (.i .i64 r)):=by
 unfold GR at h
 refine Fn.o1 4 11 Tryz.func40 ?_;refine .sr ?_;refine vk (vbx) ?_;refine ar [1,2,4] ?_;refine .seq ?_;refine .sr ?_;refine vk (Aa) ?_;refine rk [2,4,5] ?_
 rcases brc h with ⟨hc,h⟩|⟨hc,h⟩
 ·refine cnt hc ?_
  refine .sr ?_;refine ar [2,4] ?_;refine .ret ?_
  cases h
  exact ⟨rfl,rfl⟩
 refine cnf (bf hc) ?_;refine .skip ?_
 show AW _ _ _ _ _ _
 refine .sr ?_;refine vk (vfa Av) ?_;refine vk (Al A1) ?_;refine vk (A5 (Af _) (Bs _) Bp) ?_;refine vk (vbi) ?_;refine vk (vmx) ?_;refine ar [4] ?_;refine .ret ?_
 cases h
 exact ⟨rfl,rfl⟩
def Hl : List Int→List Int×Int
 | []=>([],1)
 | x::xs=>((Hl xs).2::(Hl xs).1,w64 ((Hl xs).2 * x))
theorem HL {a:List Int} (hl:a.length≤17592186044416) (K:List Int→Option (List Int)) : ∀ (i k:Nat),i≤a.length→i<k →
  Bh a K k (List.replicate i 0++(Hl (a.drop i)).1) (Hl (a.drop i)).2 ((i:Int)-1)=K (Hl a).1
 | _,0,_,h=>by omega
 | 0,k+1,_,_=>by rw [Bh,if_neg (by omega)];rfl
 | i+1,k+1,hi,hk=>by
  have hlt:i<a.length:=by omega
  rw [Bh,if_pos (by omega)]
  have e0:((i+1:Nat):Int)-1=(i:Int):=by omega
  have e1:List.replicate (i+1) (0:Int)++(Hl (a.drop (i+1))).1=List.replicate i 0++0::(Hl (a.drop (i+1))).1:=by
   rw [List.replicate_succ',List.append_assoc];rfl
  rw [e0,e1,Cp (by simp),oB,Cp hlt,oB,Int.toNat_natCast,List.set_append_right _ _ (by simp),List.length_replicate,Nat.sub_self,List.set_cons_zero,show w64 ((i:Int)-1)=(i:Int)-1 from CD (by omega) (by omega)]
  have e2:a.drop i=a[i]::a.drop (i+1):=lC hlt
  have ih:=HL hl K i k (by omega) (by omega)
  rw [e2] at ih
  exact ih
theorem Hp {a:List Int} (hl:a.length≤17592186044416) : BV a=some (Hl a).1:=by
 unfold BV
 have hg:Et (0≤((List.length a:Nat):Int)∧((List.length a:Nat):Int)≤17592186044416)=some ():=if_pos (by omega)
 rw [hg,oB,Df]
 have:=HL hl (fun z=>some z) a.length AT (Nat.le_refl _) (Cn (by omega))
 rw [List.drop_of_length_le (Nat.le_refl _)] at this
 rw [Int.toNat_natCast,CD (by omega) (by omega)]
 rw [show (Hl []).1=[] from rfl,List.append_nil] at this
 exact this
def pr : List Nat→Nat
 | []=>1
 | x::xs=>x * pr xs
def stN : List Nat→List Nat
 | []=>[]
 | _::xs=>pr xs::stN xs
def atN : List Nat→Nat→List Nat
 | [],_=>[]
 | x::xs,i=>(i / pr xs % x)::atN xs i
def plN : List Nat→List Nat→Nat
 | x::xs,y::ys=>x * y+plN xs ys
 | _,_=>0
theorem Np : ∀ {t:List Nat},(∀ x∈t,0<x)→0<pr t
 | [],_=>Nat.one_pos
 | x::xs,h=>Nat.mul_pos (h x (by simp)) (Np fun y hy=>h y (by simp [hy]))
theorem FU (t:List Nat) (i:Nat) : (atN t i).length=t.length:=by
 induction t with
 | nil=>rfl
 | cons x xs ih=>rw [atN,List.length_cons,List.length_cons,ih]
theorem Fw (t:List Nat) : (stN t).length=t.length:=by
 induction t with
 | nil=>rfl
 | cons x xs ih=>rw [stN,List.length_cons,List.length_cons,ih]
def up_ (t:List Nat) : List Int:=t.map fun n : Nat=>((n:Nat) : Int)
theorem Cu (t:List Nat) : (up_ t).length=t.length:=by simp [up_]
theorem MQ : ∀ t : List Nat,DN (up_ t)=(pr t:Int)
 | []=>rfl
 | x::xs=>by
  have e:DN (up_ (x::xs))=(x:Int) * DN (up_ xs):=by
   show DN ((x:Int)::up_ xs)=_
   unfold DN;rw [List.foldl_cons,Ii,Int.one_mul]
  rw [e,MQ xs,pr]
  exact (Int.natCast_mul _ _).symm
theorem Tl {t:List Nat} (h8:t.length≤8) (h:∀ x∈t,0<x∧x≤4096) (hp:pr t≤4096) : szP (up_ t)=((pr t:Int),0):=by
 have hm:∀ x∈up_ t,1≤x∧x≤4096:=fun x hx=>by
  obtain ⟨y,hy,rfl⟩:=List.mem_map.1 hx
  have:=h y hy;omega
 unfold szP
 rw [if_neg (by rw [Cu];omega),if_neg,if_neg,if_neg,MQ,if_pos (by omega)]
 ·intro h0;have:=hm 0 h0;omega
 ·simp only [List.any_eq_true,decide_eq_true_eq,not_exists,not_and]
  intro x hx;have:=hm x hx;omega
 ·simp only [List.any_eq_true,decide_eq_true_eq,not_exists,not_and]
  intro x hx;have:=hm x hx;omega
theorem N2 : ∀ {t:List Nat},pr t≤4096→(∀ x∈t,0<x)→Hl (up_ t)=(up_ (stN t),(pr t:Int))
 | [],_,_=>rfl
 | x::xs,h,hp=>by
  have hx:=hp x (by simp)
  have h1:pr xs≤pr (x::xs):=by
   show pr xs≤x * pr xs
   exact Nat.le_mul_of_pos_left _ hx
  have ih:=N2 (t:=xs) (by omega) fun y hy=>hp y (by simp [hy])
  show ((Hl (up_ xs)).2::(Hl (up_ xs)).1,w64 ((Hl (up_ xs)).2 * (x:Int)))=_
  rw [ih]
  have e:(pr xs:Int) * (x:Int)=(pr (x::xs):Int):=by
   rw [← Int.natCast_mul,Nat.mul_comm];rfl
  show ((pr xs:Int)::up_ (stN xs),w64 ((pr xs:Int) * (x:Int)))=_
  rw [e,CD (by omega) (by omega)]
  rfl
theorem Og : ∀ {t:List Nat},(∀ x∈t,0<x)→∀ y∈stN t,0<y
 | x::xs,h,y,hy=>by
  have hp:=Np fun z hz=>h z (List.mem_cons_of_mem x hz)
  rcases List.mem_cons.1 hy with rfl|hy
  ·exact hp
  ·exact Og (fun z hz=>h z (List.mem_cons_of_mem _ hz)) y hy
theorem Qf {t:List Nat} {i:Nat} (h:i<t.length) : (up_ t)[i]'(by rw [Cu];exact h)=(t[i] : Int):=by simp [up_]
theorem Oc {t:List Nat} {i:Nat} (h:i<t.length) : rd? (up_ t) (i:Int)=some (t[i] : Int):=by
 rw [Cp (by rw [Cu];exact h),Qf h]
theorem PC : ∀ (l c:List Nat) (i:Nat) (h1:i<l.length) (h2:i<c.length),plN (l.drop i) (c.drop i)=l[i] * c[i]+plN (l.drop (i+1)) (c.drop (i+1)):=fun l c i h1 h2=>by
 rw [lC h1,lC h2];rfl
theorem Pb {a b:Nat} (ha:a≤4096) (hb:b≤4096) : a * b≤16777216:=Nat.mul_le_mul ha hb
theorem J3 {l c:List Nat} (h8:l.length≤8) (hlen:l.length≤c.length) (hl:∀ x∈l,x≤4096) (hc:∀ x∈c,x≤4096) (K:Int→Option Int) : ∀ (n i k m:Nat),n=l.length-i→i≤l.length→n<k→m≤i * 16777216 →
  B3 (up_ l) (up_ c) K k (m:Int) (i:Int)=K ((m+plN (l.drop i) (c.drop i):Nat):Int)
 | _,_,0,_,_,_,h,_=>by omega
 | n,i,k+1,m,hn,hi,hk,hm=>by
  rw [B3]
  by_cases h:i<l.length
  ·have h2:i<c.length:=by omega
   have hb:=Pb (hl _ (List.getElem_mem h)) (hc _ (List.getElem_mem h2))
   rw [if_pos (by rw [Cu];omega),Oc h,oB,Oc h2,oB,← Int.natCast_mul,show w64 ((l[i] * c[i]:Nat):Int)=((l[i] * c[i]:Nat):Int) from CD (by omega) (by omega),show w64 ((m:Int)+((l[i] * c[i]:Nat):Int))=(m:Int)+((l[i] * c[i]:Nat):Int) from CD (by omega) (by omega),Cm (by omega),← Int.natCast_add,
    J3 h8 hlen hl hc K (n-1) (i+1) k _ (by omega) (by omega) (by omega) (by omega),PC l c i h h2,Nat.add_assoc]
  ·rw [if_neg (by rw [Cu];omega),List.drop_of_length_le (by omega)]
   simp [plN]
theorem Rc {l c:List Nat} (h8:l.length≤8) (hlen:l.length≤c.length) (hl:∀ x∈l,x≤4096) (hc:∀ x∈c,x≤4096) : C1 (up_ l) (up_ c)=some ((plN l c:Nat) : Int):=by
 unfold C1
 rw [Df]
 have:=J3 h8 hlen hl hc (fun z=>some z) l.length 0 AT 0 rfl (Nat.zero_le _) (Cn (by omega)) (by omega)
 rw [List.drop_zero,List.drop_zero,Nat.zero_add] at this
 exact this
theorem M1 {a:Arr} (oa:okAr a) (ra:A3 a) : CV a=some (tyI (a.items.headD default)):=by
 have hp:=KU ra
 unfold CV
 rw [Gt oa,oB,dT ra,if_pos rfl]
 cases hi:a.items with
 | nil=>rw [hi] at hp;simp at hp
 | cons x xs =>
  obtain ⟨ox,rx⟩:=GB oa ra (x:=x) (by rw [hi];simp)
  rw [Kv,oB,Ma ox rx.1];rfl
theorem NZ : ∀ (t:List Nat) (i j:Nat) (h:j<t.length),(atN t i)[j]'(by rw [FU];exact h)=i / (stN t)[j]'(by rw [Fw];exact h) % t[j]
 | x::xs,i,0,_=>rfl
 | x::xs,i,j+1,h=>NZ xs i j (by simpa using h)
 | [],_,_,h=>by simp at h
theorem QE {α:Type} {L r:List α} {j:Nat} (hl:L.length=r.length) (h:j<L.length) : (L.take j++r.drop j).set j L[j]=L.take (j+1)++r.drop (j+1):=by
 have hj:(L.take j).length=j:=by rw [List.length_take];omega
 have e:r.drop j=r[j]'(by omega)::r.drop (j+1):=lC (by omega)
 rw [e,List.set_append_right _ _ (by omega),hj,Nat.sub_self,List.set_cons_zero,List.take_succ_eq_append_getElem h,List.append_assoc]
 rfl
theorem LZ {t:List Nat} (ht:∀ x∈t,0<x∧x≤4096) (h8:t.length≤8) {i:Nat} (hi:i≤4096) (K:List Int→Option (Arr×Int)) {r:List Int} (hr:r.length=t.length) : ∀ (n j k:Nat),n=t.length-j→j≤t.length→n<k →
  B1 (up_ t) (up_ (stN t)) (i:Int) K k ((up_ (atN t i)).take j++r.drop j) (j:Int)=K (up_ (atN t i))
 | _,_,0,_,_,h=>by omega
 | n,j,k+1,hn,hj,hk=>by
  have hlen:(up_ (atN t i)).length=t.length:=by rw [Cu,FU]
  rw [B1]
  by_cases h:j<t.length
  ·have hs:j<(stN t).length:=by rw [Fw];exact h
   have hsp:=Og (fun x hx=>(ht x hx).1) _ (List.getElem_mem hs)
   have htp:=(ht _ (List.getElem_mem h)).1
   have hcur:j<((up_ (atN t i)).take j++r.drop j).length:=by rw [List.length_append,List.length_take,List.length_drop];omega
   have g1:Et (((stN t)[j]:Int)≠0)=some ():=if_pos (by omega)
   have g2:Et ((t[j]:Int)≠0)=some ():=if_pos (by omega)
   have e1:Int.tdiv (i:Int) ((stN t)[j]:Int)=((i / (stN t)[j]:Nat):Int):=rfl
   have hd:i / (stN t)[j]≤i:=Nat.div_le_self _ _
   have hw:w64 ((i / (stN t)[j]:Nat):Int)=((i / (stN t)[j]:Nat):Int):=by
    generalize i / (stN t)[j]=d at hd ⊢
    exact CD (by omega) (by omega)
   have e2:Int.tmod ((i / (stN t)[j]:Nat):Int) (t[j]:Int)=((i / (stN t)[j] % t[j]:Nat):Int):=rfl
   have e3:((i / (stN t)[j] % t[j]:Nat):Int)=(up_ (atN t i))[j]'(by rw [hlen];exact h):=by
    rw [Qf (by rw [FU];exact h),NZ t i j h]
   rw [if_pos (by rw [Cu,Fw];omega),Oc hs,oB,g1,oB,Oc h,oB,g2,oB,Cp hcur,oB,e1,hw,e2,e3,Int.toNat_natCast,Cm (by omega),
    QE (by rw [hlen,hr]) (by rw [hlen];exact h),LZ ht h8 hi K hr (n-1) (j+1) k (by omega) (by omega) (by omega)]
  ·rw [if_neg (by rw [Cu,Fw];omega),List.take_of_length_le (by omega),List.drop_of_length_le (by omega),List.append_nil]
def Ij (a:Arr) (p:Itm) (j:Int) : Itm:=if 0≤j then a.items.getD j.toNat default else p
theorem Kk {a:Arr} {t:List Nat} {F:Cg} {p:Itm} {J:Nat→Int} (ht:∀ x∈t,0<x∧x≤4096) (h8:t.length≤8) (hn:pr t≤4096) (hF:∀ i,i<pr t→F.g (up_ (atN t i))=some (J i)∧J i<(a.items.length:Int)) {x1:Int×Int} (hx1:x1.1=(pr t:Int)) (K:List Itm→Option (Arr×Int)) : ∀ (n i k:Nat) (r:List Int),n=pr t-i→i≤pr t→n<k→r.length=t.length →
  BF a (up_ t) F x1 p (up_ (stN t)) K k r (((List.range (pr t)).map fun i=>Ij a p (J i)).take i) (i:Int)=K ((List.range (pr t)).map fun i=>Ij a p (J i))
 | _,_,0,_,_,_,h,_=>by omega
 | n,i,k+1,r,hn',hi,hk,hr=>by
  have hlen:((List.range (pr t)).map fun i=>Ij a p (J i)).length=pr t:=by simp
  rw [BF]
  by_cases h:i<pr t
  ·have hb:=fun K=>LZ ht h8 (i:=i) (by omega) K hr t.length 0 AT rfl (Nat.zero_le _) (Cn (by omega))
   rw [List.take_zero,List.nil_append,List.drop_zero,show ((0:Nat):Int)=0 from rfl] at hb
   obtain ⟨f1,f2⟩:=hF i h
   have hg:((List.range (pr t)).map fun i=>Ij a p (J i))[i]'(by rw [hlen];exact h)=Ij a p (J i):=by simp
   have ih:=Kk (p:=p) ht h8 hn hF hx1 K (n-1) (i+1) k (up_ (atN t i)) (by omega) (by omega) (by omega) (by rw [Cu,FU])
   rw [List.take_succ_eq_append_getElem (by rw [hlen];exact h),hg] at ih
   have hcap:(((List.range (pr t)).map fun i=>Ij a p (J i)).take i).length+1≤1466015503701:=by rw [List.length_take];omega
   rw [if_pos (by omega),Df,Df,hb,f1,oB]
   by_cases h0:0≤J i
   ·have hj:(J i).toNat<a.items.length:=by omega
    have e:rd? a.items (J i)=some (a.items.getD (J i).toNat default):=by
     unfold rd?
     rw [if_pos h0,lD,lG hj];rfl
    have ep:Ij a p (J i)=a.items.getD (J i).toNat default:=if_pos h0
    rw [if_pos h0,e,oB,HZ (by simpa using hcap),oB,Cm (by omega),← ep]
    exact ih
   ·have ep:Ij a p (J i)=p:=if_neg h0
    rw [if_neg h0,HZ (by simpa using hcap),oB,Cm (by omega)]
    rw [ep] at ih
    exact ih
  ·rw [if_neg (by omega),List.take_of_length_le (by omega)]
theorem ON {a:Arr} {t:List Nat} {F:Cg} {p:Itm} {J:Nat→Int} (hp:CV a=some p) (ht:∀ x∈t,0<x∧x≤4096) (h8:t.length≤8) (hn:pr t≤4096) (hF:∀ i,i<pr t→F.g (up_ (atN t i))=some (J i)∧J i<(a.items.length:Int)) :
  Bj a (up_ t) F=AN (up_ t) ((List.range (pr t)).map fun i=>Ij a p (J i)):=by
 have hpp:=Np fun x hx=>(ht x hx).1
 have hl:(up_ t).length≤17592186044416:=by rw [Cu];omega
 have hg:Et (0≤((List.length (up_ t):Nat):Int)∧((List.length (up_ t):Nat):Int)≤17592186044416)=some ():=if_pos (by omega)
 unfold Bj
 rw [HR hl,oB,Tl h8 ht hn,if_pos rfl,hp,oB,Hp hl,oB,hg,oB,Df,N2 hn fun x hx=>(ht x hx).1]
 have:=fun K=>Kk (p:=p) ht h8 hn hF (x1:=((pr t:Int),0)) rfl K (pr t) 0 AT (List.replicate (Int.toNat ((List.length (up_ t):Nat):Int)) 0) rfl (Nat.zero_le _) (Cn (by omega)) (by simp [Cu])
 rw [List.take_zero,show ((0:Nat):Int)=0 from rfl] at this
 rw [this,Df,if_neg (by show ¬((pr t:Int)=0);omega)]
 show ((AN (up_ t) ((List.range (pr t)).map fun i=>Ij a p (J i))).bind fun x25=>some (x25.1,x25.2))=_
 generalize AN _ _=m
 cases m<;>rfl
theorem JO {a:Arr} {s:List Int} {F:Cg} {p:Itm} (hp:CV a=some p) (hl:s.length≤17592186044416) (hs:szP s=(0,0)) : Bj a s F=AN s [p]:=by
 have hg:Et (0≤((List.length s:Nat):Int)∧((List.length s:Nat):Int)≤17592186044416)=some ():=if_pos (by omega)
 have hF:AT=999999999999999+1:=rfl
 unfold Bj
 rw [HR hl,oB,hs,if_pos rfl,hp,oB,Hp hl,oB,hg,oB,Df,hF,BF,if_neg (by decide),Df,if_pos rfl,HZ (by simp),oB]
 show ((AN s [p]).bind fun x25=>some (x25.1,x25.2))=_
 generalize AN _ _=m
 cases m<;>rfl
theorem Sv {xs:List Itm} {d:Nat} (h:∀ x∈xs,dI x≤d) : dIs xs≤d:=by
 induction xs with
 | nil=>exact Nat.zero_le _
 | cons x xs ih =>
  rw [dIs]
  have h1:=h x (by simp)
  have h2:=ih fun y hy=>h y (by simp [hy])
  omega
theorem IE {x:Itm} : ∀ {xs:List Itm},x∈xs→dI x≤dIs xs
 | y::ys,h=>by
  rw [dIs]
  rcases List.mem_cons.1 h with rfl|h
  ·omega
  ·have:=IE h;omega
theorem Px {a:Arr} (oa:okAr a) (ra:A3 a) (hz:szP a.shape=(0,0)) {s:List Int} (hs64:∀ z∈s,-9223372036854775808≤z∧z≤9223372036854775807) (hl:s.length≤17592186044416) (hsz:szP s=(0,0)) {p:Itm} (hp:p=a.items.headD default∨p=tyI (a.items.headD default)) :
  AN s [p]=some (.mk s [tyI (a.items.headD default)],0):=by
 have hne:=KU ra
 obtain ⟨r1,r2,r3⟩:=ra
 have hlen:a.items.length=1:=by
  have:=(IL r1).2.1
  rw [hz] at this
  rw [if_pos (by decide)] at this
  omega
 obtain ⟨x,hx⟩:=List.length_eq_one_iff.1 hlen
 have hx':a.items.headD default=x:=by rw [hx];rfl
 rw [hx'] at hp ⊢
 obtain ⟨ox,rx⟩:=GB oa ⟨r1,r2,r3⟩ (x:=x) (by rw [hx];simp)
 obtain ⟨t1,t2,t3,t4,t5,t6⟩:=Nn ox rx.1
 have hns:∀ {s:List Int} {i:List Itm},szP s=(0,0)→AU (.mk s i)=false:=by
  intro s i h
  unfold AU
  cases s with
  | nil=>exact absurd (congrArg Prod.fst h) (by decide)
  | cons y ys=>rfl
 have hpr:okI p∧B6 p∧tyI p=tyI x:=by
  rcases hp with rfl|rfl
  ·exact ⟨ox,rx,rfl⟩
  ·exact ⟨t6,⟨t1,t2▸rx.2.1,t3▸rx.2.2⟩,t4⟩
 have hmk:B5 (szP s).1 [p]=[tyI x]:=by
  rw [hsz];show [tyI p]=_;rw [hpr.2.2]
 have hR:A3 (.mk s [tyI x]):=by
  have e1:dA a=1+dI x:=by
   have:AU a=false:=by have:=hns (i:=a.items) hz;rwa [Arr.eta] at this
   rw [G0,this,if_neg (by decide),hx,dIs,dIs,Nat.max_zero]
  have e2:cA a=1+cI x:=by rw [Gx,hx];simp [cIs]
  refine ⟨?_,?_,?_⟩
  ·rw [GX,Ej,C9,hsz,Ec.2 (by simpa using t1)];rfl
  ·rw [G0,hns hsz,if_neg (by decide),C9,dIs,dIs,Nat.max_zero,t2];omega
  ·rw [Gx,C9];simp only [cIs,List.length_singleton];omega
 have hc:¬([p]=[]∨¬∀ y∈[p],B6 y):=fun q=>q.elim (fun e=>by cases e) fun q=>q fun y hy=>by rw [List.mem_singleton] at hy;subst hy;exact hpr.2.1
 rw [H8 hs64 hl (by simp) (fun y hy=>by rw [List.mem_singleton] at hy;subst hy;exact hpr.1),hmk,if_neg (by rw [hsz];exact fun q=>q rfl),if_neg hc,if_pos hR]
def Ca (x2:Int) (K0:(List Int)→Option (Arr×Int)) : Nat→(List Int)→Int→Option (Arr×Int)
 | 0,_,_=>none
 | k+1,s4,s5=>(if s5<x2 then ((ap? 17592186044416 [s5] s4).bind fun x6=>(Ca x2 K0 k x6 (w64 (s5+1)))) else (K0 s4))
def DD (a0:Arr) (a1:Int) : Option (Arr×Int):=(if ((List.length a0.shape:Nat) : Int)=0 then ((FH a0).bind fun x1=>(some (x1,0))) else ((rd? a0.shape a1).bind fun x2=>(jn (fun (z3:(List Int))=>((E3 a0 a1 z3).bind fun x7=>(some (x7.1,x7.2)))) fun K0=>(Ca x2 K0 AT [] 0))))
theorem EP {a0:Arr} {a1:Int} {r:Arr×Int} (h:DD a0 a1=some r) :
  Fn Tryz.prog 94 [.ag [.sl (Is a0.shape),.sl (Its a0.items)],.i .i64 a1] (.tup [.d (.ag [.sl (Is r.1.shape),.sl (Its r.1.items)]),.d (.i .i64 r.2)]):=by
 unfold DD at h
 refine Fn.ofC (rs:=[.cell 4 27,.tmp 5]) (nt:=33) Tryz.func94 rfl rfl rfl (by simp) rfl ?_;refine .sr ?_;refine vk (vbx) ?_;refine vk (van (Aj Az) AC) ?_;refine ar [1,2,4,5] ?_;refine .seq ?_;refine .sr ?_;refine vk (vfa Av) ?_;refine vk (Al A1) ?_;refine vk (A5 (Af _) (Bs _) Bp) ?_;refine vk (vbi) ?_;refine rk [1,2,4,5,11] ?_
 rcases brc h with ⟨hc,h⟩|⟨hc,h⟩
 ·refine cnt (dT hc) ?_
  refine .sr ?_;refine vk (AI Ad Ab) ?_
  obtain ⟨x1,g1,h⟩:=bnd h
  refine vk (Aq (G6 g1) Tryz.call134) ?_
  refine stn ?_ Ab (by decide)
  refine ar [1,2,4,5] ?_;refine .ret ?_
  cases h
  exact ⟨_,_,⟨.inr rfl,Ad,Ab,p2⟩,rfl,rfl⟩
 refine cnf (dF hc) ?_;refine .skip ?_
 show AW _ _ _ _ _ _
 refine .sr ?_;refine asn ?_;refine rk [1,2,4,5,6] ?_;refine .seq ?_;refine .sr ?_;refine vk (vfa Av) ?_;refine vk (Al A1) ?_;refine vk (Aa) ?_
 obtain ⟨x2,g2,h⟩:=bnd h
 obtain ⟨n2,p02,q2⟩:=Ak g2
 refine vk (vix n2 p02 (Be q2) rfl A8) ?_;refine vk (Al AF) ?_;refine vk (Aa) ?_;refine rk [1,2,4,5,6,18,19] ?_
 obtain ⟨K0,hK0,h⟩:=A7 h
 refine AW.mr (σ:=(List Int)) (fun p=>K0 p=some r) (fun p=>[(1,.d (.i .i64 a1)),(2,.d (.ptr [.sl (Is a0.shape),.sl (Its a0.items)])),(4,.nb [.sl (Is []),.sl (Its [])]),(5,.d (.i .i64 0)),(6,.d (.sl (Is p)))]) (fun p=>[]) ?_ ?_
 ·skip
  refine .block ?_;refine .gh (Gh.nlD (t:=6) rfl) ?_
  refine .loop (.gk [1,2,4,5,6,18,19] ?_)
  refine AL.ind (σ:=Nat×(List Int)×Int) (m:=fun p=>p.1) (e:=fun p=>[(1,.d (.i .i64 a1)),(2,.d (.ptr [.sl (Is a0.shape),.sl (Its a0.items)])),(4,.nb [.sl (Is []),.sl (Its [])]),(5,.d (.i .i64 0)),(6,.d (.sl (Is p.2.1))),(18,.d (.i .i64 x2)),(19,.d (.i .i64 p.2.2))]) (h:=fun p=>[]) (I:=fun p=>Ca x2 K0 p.1 p.2.1 p.2.2=some r) ?_ (AT,[],0) h
  rintro ⟨k,s4,s5⟩ h ih
  dsimp only at h ih ⊢
  rcases k with _|k
  ·rw [Ca] at h;cases h
  rw [Ca] at h
  refine .sr ?_;refine vk (vbi) ?_;refine rk [1,2,4,5,6,18,19,20] ?_;refine .seq ?_
  rcases brc h with ⟨hc,h⟩|⟨hc,h⟩
  ·refine cnt (dT hc) ?_
   refine .skip ?_
   show AW _ _ _ _ _ _
   refine .seq ?_;refine .block ?_;refine .sr ?_;refine vk (Aa) ?_;refine ar [1,2,4,5,6,7,18,19] ?_;refine .region ?_;refine vk (Aa) ?_;refine vk (Kq (DP [s5]) CS) ?_;refine vk (Aa) ?_
   obtain ⟨x6,g6,h⟩:=bnd h
   refine S1 JC g6 KP ?_ Hg Af CS
   refine aso ?_;refine .nil ?_
   show AW _ _ _ _ _ _
   refine .gk [1,2,4,5,6,18,19] ?_;refine .region ?_;refine vk (vbi) ?_;refine vk (Aa) ?_;refine .nil ?_;refine AL.gh (Gh.frz (p:=.t 6) rfl (fun _ _ h=>by cases h)) ?_;refine AL.gk [1,2,4,5,6,18,19] ?_
   exact ih (k,x6,(w64 (s5+1))) h (Nat.lt_succ_self _)
  refine cnf (dF hc) ?_;refine .gk [1,2,4,5,6] ?_;refine .exit ?_
  exact jr (s4) h
 rintro z3 h
 try dsimp only at h ⊢
 subst hK0
 show AW _ _ _ _ _ _
 refine .sr ?_;refine vk (AI Ad Ab) ?_;refine vk (Aa) ?_;refine vk (Aa) ?_
 obtain ⟨x7,g7,h⟩:=bnd h
 refine vk (VOK.tupd (vs:=[.ag [.sl (Is x7.1.shape),.sl (Its x7.1.items)],.i .i64 x7.2]) (Aq (Gy g7) Tryz.call135)) ?_;refine vk (vex) ?_;refine vk (vex) ?_
 refine stn ?_ Ab (by decide)
 refine ar [4,5] ?_;refine .ret ?_
 cases h
 exact ⟨_,_,⟨.inr rfl,Ad,Ab,p2⟩,rfl,rfl⟩
def Dn (a0:(List Int)) (c0:(List Int)) : Option (Int):=((C1 c0 a0).bind fun x1=>(some (x1)))
theorem Gd {a0:(List Int)} {c0:(List Int)} {r:Int} (h:Dn a0 c0=some r) :
  Fn Tryz.prog 127 [.sl (Is a0),.ptr [.sl (Is c0)]] (.d (.i .i64 r)):=by
 unfold Dn at h
 refine Fn.o1 3 7 Tryz.func127 ?_;refine .sr ?_;refine ar [0,1,3] ?_;refine .sr ?_;refine vk (Al A1) ?_;refine vk (Aa) ?_
 obtain ⟨x1,g1,h⟩:=bnd h
 refine vk (Aq (ED g1) Tryz.call79) ?_;refine ar [3] ?_;refine .ret ?_
 cases h
 exact ⟨rfl,rfl⟩
def BO (a2:Int) (K0:(List Int)→Option (Arr×Int)) : Nat→(List Int)→Int→Option (Arr×Int)
 | 0,_,_=>none
 | k+1,s4,s5=>(if s5<((List.length (List.replicate (Int.toNat a2) (0:Int)):Nat):Int) then ((rd? s4 s5).bind fun x6=>(BO a2 K0 k (List.set s4 (Int.toNat s5) 4096) (w64 (s5+1)))) else (K0 s4))
def BN (a0:Arr) (a1:(List Int)) (x7:(List Int)) (K2:(List Int)→(List Int)→Option (Arr×Int)) : Nat→(List Int)→Int→(List Int)→Option (Arr×Int)
 | 0,_,_,_=>none
 | k+1,s10,s11,s12=>(if s11<((List.length x7:Nat):Int) then ((rd? x7 s11).bind fun x13=>((rd? a1 s11).bind fun x14=>((rd? a1 s11).bind fun x15=>((rd? s10 x15).bind fun x16=>((rd? a0.shape s11).bind fun x17=>((rd? s10 x14).bind fun x18=>((rd? a1 s11).bind fun x19=>((rd? s12 x19).bind fun x20=>((rd? s12 x19).bind fun x21=>(BN a0 a1 x7 K2 k (List.set s10 (Int.toNat x14) (if x17<x16 then x17 else x16)) (w64 (s11+1)) (List.set s12 (Int.toNat x19) (w64 (x20+x13))))))))))))) else (K2 s10 s12))
def DY (a0:Arr) (a1:(List Int)) (a2:Int) : Option (Arr×Int):=((Et (0≤a2∧a2≤17592186044416)).bind fun x1=>((Et (0≤a2∧a2≤17592186044416)).bind fun x2=>(jn (fun (z3:(List Int))=>((BV a0.shape).bind fun x7=>(jn (fun (z8:(List Int)) (z9:(List Int))=>((Bj a0 z8 (⟨.fn 127 [] [.ptr [.sl (Is z9)]],fun x=>Dn x z9⟩ : Cg)).bind fun x22=>(some (x22.1,x22.2)))) fun K2=>(BN a0 a1 x7 K2 AT z3 0 (List.replicate (Int.toNat a2) (0:Int)))))) fun K0=>(BO a2 K0 AT (List.replicate (Int.toNat a2) (0:Int)) 0))))
theorem GV {a0:Arr} {a1:(List Int)} {a2:Int} {r:Arr×Int} (h:DY a0 a1 a2=some r) :
  Fn Tryz.prog 80 [.ag [.sl (Is a0.shape),.sl (Its a0.items)],.sl (Is a1),.i .i64 a2] (.tup [.d (.ag [.sl (Is r.1.shape),.sl (Its r.1.items)]),.d (.i .i64 r.2)]):=by
 unfold DY at h
 refine Fn.ofC (rs:=[.cell 6 27,.tmp 7]) (nt:=71) Tryz.func80 rfl rfl rfl (by simp) rfl ?_;refine .sr ?_;refine vk (vbx) ?_;refine vk (van (Aj Az) AC) ?_;refine ar [1,2,3,6,7] ?_;refine .sr ?_;refine vk (Aa) ?_
 obtain ⟨x1,g1,h⟩:=bnd h
 have ghx1:=DI g1
 refine mk' (F:=Is) (x0:=0) (zl:=a2) (Int.toNat a2) Ic (by omega) (by omega) ?_ CS (by decide)
 refine aso ?_;refine rk [1,2,3,6,7,8] ?_;refine .sr ?_;refine vk (Aa) ?_
 obtain ⟨x2,g2,h⟩:=bnd h
 have ghx2:=DI g2
 refine mk' (F:=Is) (x0:=0) (zl:=a2) (Int.toNat a2) Ic (by omega) (by omega) ?_ CS (by decide)
 refine al ?_ (Aj NV) (fun w I μ=>PU w I μ)
 refine Il (cs:=[.nl]) (c:=.nl) rfl rfl ?_ MC
 refine rk [1,3,6,7,8,9] ?_;refine .seq ?_;refine .sr ?_;refine mvo ?_;refine vk (Sh (Af _) Bp) ?_;refine vk (Aa) ?_;refine rk [1,3,6,7,8,9,18,19] ?_
 obtain ⟨K0,hK0,h⟩:=A7 h
 refine AW.mr (σ:=(List Int)) (fun p=>K0 p=some r) (fun p=>[(1,.d (.sl (Is a1))),(3,.d (.ptr [.sl (Is a0.shape),.sl (Its a0.items)])),(6,.nb [.sl (Is []),.sl (Its [])]),(7,.d (.i .i64 0)),(8,.own 3 (Is p)),(9,.bp 0 0)]) (fun p=>[HO.box [.own 3 (Is (List.replicate (Int.toNat a2) (0:Int)))]]) ?_ ?_
 ·skip
  refine .block ?_
  refine .loop (.gk [1,3,6,7,8,9,18,19] ?_)
  refine AL.ind (σ:=Nat×(List Int)×Int) (m:=fun p=>p.1) (e:=fun p=>[(1,.d (.sl (Is a1))),(3,.d (.ptr [.sl (Is a0.shape),.sl (Its a0.items)])),(6,.nb [.sl (Is []),.sl (Its [])]),(7,.d (.i .i64 0)),(8,.own 3 (Is p.2.1)),(9,.bp 0 0),(18,.d (.i .i64 ((List.length (List.replicate (Int.toNat a2) (0:Int)):Nat):Int))),(19,.d (.i .i64 p.2.2))]) (h:=fun p=>[HO.box [.own 3 (Is (List.replicate (Int.toNat a2) (0:Int)))]]) (I:=fun p=>BO a2 K0 p.1 p.2.1 p.2.2=some r) ?_ (AT,(List.replicate (Int.toNat a2) (0:Int)),0) h
  rintro ⟨k,s4,s5⟩ h ih
  dsimp only at h ih ⊢
  rcases k with _|k
  ·rw [BO] at h;cases h
  rw [BO] at h
  refine .sr ?_;refine vk (vbi) ?_;refine rk [1,3,6,7,8,9,18,19,20] ?_;refine .seq ?_
  rcases brc h with ⟨hc,h⟩|⟨hc,h⟩
  ·refine cnt (dT hc) ?_
   refine .skip ?_
   show AW _ _ _ _ _ _
   refine .seq ?_;refine .block ?_;refine .sr ?_;refine vk (Aa) ?_;refine ar [1,3,6,7,8,9,10,18,19] ?_;refine .region ?_;refine mvo ?_;refine vk (Aa) ?_
   obtain ⟨x6,g6,h⟩:=bnd h
   obtain ⟨n6,p06,q6⟩:=Ak g6
   refine ixr (off:=0) (len:=(Is s4).length) n6 p06 (by rw [Af];exact (lS.1 q6).1) ?_ A8 (by decide)
   refine Ls (F:=Is) (D:=fun x=>.i .i64 x) F6 (us:=s4) (n:=n6) (m:=Int.toNat s5) (x:=4096) (by rw [p06];rfl) ⟨_,by rw [Nat.zero_add];exact Be q6,rfl⟩ ?_ CO
   refine RL.gk [1,3,6,7,8,9,10,18,19,23] ?_;refine .nil ?_
   show AW _ _ _ _ _ _
   refine .gk [1,3,6,7,8,9,18,19] ?_;refine .region ?_;refine vk (vbi) ?_;refine vk (Aa) ?_;refine .nil ?_;refine AL.gk [1,3,6,7,8,9,18,19] ?_
   exact ih (k,(List.set s4 (Int.toNat s5) 4096),(w64 (s5+1))) h (Nat.lt_succ_self _)
  refine cnf (dF hc) ?_;refine .gk [1,3,6,7,8,9] ?_;refine .exit ?_
  exact jr (s4) h
 rintro z3 h
 try dsimp only at h ⊢
 subst hK0
 show AW _ _ _ _ _ _
 refine .seq ?_;refine .sr ?_;refine vk (vfa Av) ?_;refine vk (Al A1) ?_
 obtain ⟨x7,g7,h⟩:=bnd h
 refine vk (Aq (C4 g7) Tryz.call75) ?_;refine vk (A5 (Af _) (Bs _) Bp) ?_;refine vk (Aa) ?_;refine rk [1,3,6,7,8,9,28,29,30] ?_
 obtain ⟨K2,hK2,h⟩:=A7 h
 refine AW.mr (σ:=(List Int)×(List Int)) (fun p=>K2 p.1 p.2=some r) (fun p=>[(3,.d (.ptr [.sl (Is a0.shape),.sl (Its a0.items)])),(6,.nb [.sl (Is []),.sl (Its [])]),(7,.d (.i .i64 0)),(8,.own 3 (Is p.1)),(9,.bp 0 0)]) (fun p=>[HO.box [.own 3 (Is p.2)]]) ?_ ?_
 ·skip
  refine .block ?_
  refine .loop (.gk [1,3,6,7,8,9,28,29,30] ?_)
  refine AL.ind (σ:=Nat×(List Int)×Int×(List Int)) (m:=fun p=>p.1) (e:=fun p=>[(1,.d (.sl (Is a1))),(3,.d (.ptr [.sl (Is a0.shape),.sl (Its a0.items)])),(6,.nb [.sl (Is []),.sl (Its [])]),(7,.d (.i .i64 0)),(8,.own 3 (Is p.2.1)),(9,.bp 0 0),(28,.d (.sl (Is x7))),(29,.d (.i .i64 ((List.length x7:Nat):Int))),(30,.d (.i .i64 p.2.2.1))]) (h:=fun p=>[HO.box [.own 3 (Is p.2.2.2)]]) (I:=fun p=>BN a0 a1 x7 K2 p.1 p.2.1 p.2.2.1 p.2.2.2=some r) ?_ (AT,z3,0,(List.replicate (Int.toNat a2) (0:Int))) h
  rintro ⟨k,s10,s11,s12⟩ h ih
  dsimp only at h ih ⊢
  rcases k with _|k
  ·rw [BN] at h;cases h
  rw [BN] at h
  refine .sr ?_;refine vk (vbi) ?_;refine rk [1,3,6,7,8,9,28,29,30,31] ?_;refine .seq ?_
  rcases brc h with ⟨hc,h⟩|⟨hc,h⟩
  ·refine cnt (dT hc) ?_
   refine .skip ?_
   show AW _ _ _ _ _ _
   refine .seq ?_;refine .block ?_;refine .sr ?_;refine vk (Aa) ?_
   obtain ⟨x13,g13,h⟩:=bnd h
   obtain ⟨n13,p013,q13⟩:=Ak g13
   refine vk (vix n13 p013 (Be q13) rfl A8) ?_;refine vk (Al AF) ?_;refine asd ?_;refine ar [1,3,6,7,8,9,11,12,28,29,30] ?_;refine .seq ?_;refine .drawn 19 Bf (by kernel_rfl) ?_;refine dv Pg ?_;refine dv (Aa) ?_;refine dv (Aa) ?_
   obtain ⟨x14,g14,h⟩:=bnd h
   obtain ⟨n14,p014,q14⟩:=Ak g14
   refine dv (vix n14 p014 (Be q14) rfl A8) ?_;refine dv (Al AF) ?_;refine dv Pg ?_;refine dv (Aa) ?_;refine dv (Aa) ?_
   obtain ⟨x15,g15,h⟩:=bnd h
   obtain ⟨n15,p015,q15⟩:=Ak g15
   refine dv (vix n15 p015 (Be q15) rfl A8) ?_;refine dv (Al AF) ?_
   obtain ⟨x16,g16,h⟩:=bnd h
   obtain ⟨n16,p016,q16⟩:=Ak g16
   refine dv (MD (off:=0) (len:=(Is s10).length) n16 p016 (by rw [Af];exact (lS.1 q16).1) A8 (by decide)) ?_;refine dv (Qb (i:=0+n16) (j:=0) (xs:=Is s10) (.i .i64 x16) ⟨_,by rw [Nat.zero_add];exact Be q16,rfl⟩ AF) ?_;refine dv (vfa Av) ?_;refine dv (Al A1) ?_;refine dv (Aa) ?_
   obtain ⟨x17,g17,h⟩:=bnd h
   obtain ⟨n17,p017,q17⟩:=Ak g17
   refine dv (vix n17 p017 (Be q17) rfl A8) ?_;refine dv (Al AF) ?_;refine dv (vmn) ?_
   obtain ⟨x18,g18,h⟩:=bnd h
   obtain ⟨n18,p018,q18⟩:=Ak g18
   refine dv (MD (off:=0) (len:=(Is s10).length) n18 p018 (by rw [Af];exact (lS.1 q18).1) A8 (by decide)) ?_;refine dz ?_
   refine Ls (F:=Is) (D:=fun x=>.i .i64 x) F6 (us:=s10) (n:=n18) (m:=Int.toNat x14) (x:=(if x17<x16 then x17 else x16)) (by rw [p018];rfl) ⟨_,by rw [Nat.zero_add];exact Be q18,rfl⟩ ?_ CO
   refine RL.gk [1,3,6,7,8,9,11,12,28,29,30,36,37,38,39,41,42,43,44,46,47,48,49,50,51,52] ?_;refine rk [1,3,6,7,8,9,11,12,28,29,30] ?_;refine .drawn 10 Bf (by kernel_rfl) ?_;refine dv (Le (cs:=[.own 3 (Is s12)]) rfl rfl A1) ?_;refine dv (Aa) ?_;refine dv (Aa) ?_
   obtain ⟨x19,g19,h⟩:=bnd h
   obtain ⟨n19,p019,q19⟩:=Ak g19
   refine dv (vix n19 p019 (Be q19) rfl A8) ?_;refine dv (Al AF) ?_
   obtain ⟨x20,g20,h⟩:=bnd h
   obtain ⟨n20,p020,q20⟩:=Ak g20
   refine dv (MD (off:=0) (len:=(Is s12).length) n20 p020 (by rw [Af];exact (lS.1 q20).1) A8 (by decide)) ?_;refine dv (Qb (i:=0+n20) (j:=0) (xs:=Is s12) (.i .i64 x20) ⟨_,by rw [Nat.zero_add];exact Be q20,rfl⟩ AF) ?_;refine dv (Aa) ?_;refine dv (vbi) ?_
   obtain ⟨x21,g21,h⟩:=bnd h
   obtain ⟨n21,p021,q21⟩:=Ak g21
   refine dv (MD (off:=0) (len:=(Is s12).length) n21 p021 (by rw [Af];exact (lS.1 q21).1) A8 (by decide)) ?_;refine dz ?_
   refine Ls (F:=Is) (D:=fun x=>.i .i64 x) F6 (us:=s12) (n:=n21) (m:=Int.toNat x19) (x:=(w64 (x20+x13))) (by rw [p021];rfl) ⟨_,by rw [Nat.zero_add];exact Be q21,rfl⟩ ?_ CO
   refine RL.gk [1,3,6,7,8,9,11,12,28,29,30,55,56,57,58,60,61,62] ?_;refine .nil ?_
   show AW _ _ _ _ _ _
   refine .gk [1,3,6,7,8,9,28,29,30] ?_;refine .region ?_;refine vk (vbi) ?_;refine vk (Aa) ?_;refine .nil ?_;refine AL.gk [1,3,6,7,8,9,28,29,30] ?_
   exact ih (k,(List.set s10 (Int.toNat x14) (if x17<x16 then x17 else x16)),(w64 (s11+1)),(List.set s12 (Int.toNat x19) (w64 (x20+x13)))) h (Nat.lt_succ_self _)
  refine cnf (dF hc) ?_;refine .gk [3,6,7,8,9] ?_;refine .exit ?_
  exact jr (s10,s12) h
 rintro ⟨z8,z9⟩ h
 try dsimp only at h ⊢
 subst hK2
 show AW _ _ _ _ _ _
 refine .sr ?_;refine vk (AI Ad Ab) ?_;refine fz (p:=.t 8) ?_;refine vk (Aa) ?_;refine fz (p:=.c 0 0) ?_;refine RL.gh2 (Gh2.pop (H0:=[]) (cs:=[.sl (Is z9)]) rfl rfl rfl rfl) ?_;refine vk (RP) ?_
 obtain ⟨x22,g22,h⟩:=bnd h
 refine vk (VOK.tupd (vs:=[.ag [.sl (Is x22.1.shape),.sl (Its x22.1.items)],.i .i64 x22.2]) (Aq (EH (DZ Tryz.call127 (fun _ _ h=>Gd h)) g22) Tryz.call76)) ?_;refine vk (vex) ?_;refine vk (vex) ?_
 refine stn ?_ Ab (by decide)
 refine ar [6,7] ?_;refine .ret ?_
 cases h
 exact ⟨_,_,⟨.inr rfl,Ad,Ab,p2⟩,rfl,rfl⟩
def F5 (a0:Arr) : Option (Arr×Int):=((Ck a0.shape).bind fun x1=>((AN ([x1.1]) a0.items).bind fun x2=>(some (x2.1,x2.2))))
theorem Je {a0:Arr} {r:Arr×Int} (h:F5 a0=some r) :
  Fn Tryz.prog 92 [.ag [.sl (Is a0.shape),.sl (Its a0.items)]] (.tup [.d (.ag [.sl (Is r.1.shape),.sl (Its r.1.items)]),.d (.i .i64 r.2)]):=by
 unfold F5 at h
 refine Fn.ofC (rs:=[.cell 2 27,.tmp 3]) (nt:=19) Tryz.func92 rfl rfl rfl (by simp) rfl ?_;refine .sr ?_;refine vk (vbx) ?_;refine vk (van (Aj Az) AC) ?_;refine ar [1,2,3] ?_;refine .sr ?_;refine vk (vfa Av) ?_;refine vk (Al A1) ?_
 obtain ⟨x1,g1,h⟩:=bnd h
 refine vk (VOK.tupd (vs:=[.i .i64 x1.1,.i .i64 x1.2]) (Aq (CJ g1) Tryz.call26)) ?_;refine vk (Aa) ?_;refine vk (vex) ?_;refine vk (vex) ?_;refine asd ?_;refine ar [1,2,3,4] ?_;refine .sr ?_;refine vk (Aa) ?_;refine vk ((Kq (DP [x1.1]) CS).deep) ?_;refine vk (vfa AJ) ?_;refine vk (Al BS) ?_
 obtain ⟨x2,g2,h⟩:=bnd h
 refine vk (VOK.tupd (vs:=[.ag [.sl (Is x2.1.shape),.sl (Its x2.1.items)],.i .i64 x2.2]) (Aq (Ef g2) Tryz.call10)) ?_;refine vk (vex) ?_;refine vk (vex) ?_
 refine stn ?_ Ab (by decide)
 refine ar [2,3] ?_;refine .ret ?_
 cases h
 exact ⟨_,_,⟨.inr rfl,Ad,Ab,p2⟩,rfl,rfl⟩
def FK (a0:Arr) : Option (Arr×Int):=((GR a0 false).bind fun x1=>((DD a0 x1).bind fun x2=>(some (x2.1,x2.2))))
theorem Jm {a0:Arr} {r:Arr×Int} (h:FK a0=some r) :
  Fn Tryz.prog 93 [.ag [.sl (Is a0.shape),.sl (Its a0.items)]] (.tup [.d (.ag [.sl (Is r.1.shape),.sl (Its r.1.items)]),.d (.i .i64 r.2)]):=by
 unfold FK at h
 refine Fn.ofC (rs:=[.cell 2 27,.tmp 3]) (nt:=10) Tryz.func93 rfl rfl rfl (by simp) rfl ?_;refine .sr ?_;refine vk (vbx) ?_;refine vk (van (Aj Az) AC) ?_;refine ar [1,2,3] ?_;refine .seq ?_;refine .drawn 6 Bf (by kernel_rfl) ?_;refine dv (AI Ad Ab) ?_;refine dv (AI Ad Ab) ?_
 obtain ⟨x1,g1,h⟩:=bnd h
 refine dv (Aq (HM g1) Tryz.call40) ?_
 obtain ⟨x2,g2,h⟩:=bnd h
 refine dv (VOK.tupd (vs:=[.ag [.sl (Is x2.1.shape),.sl (Its x2.1.items)],.i .i64 x2.2]) (Aq (EP g2) Tryz.call94)) ?_;refine dv (vex) ?_;refine dv (vex) ?_;refine dz ?_
 refine stn ?_ Ab (by decide)
 refine ar [2,3] ?_;refine .ret ?_
 cases h
 exact ⟨_,_,⟨.inr rfl,Ad,Ab,p2⟩,rfl,rfl⟩
def FE (a0:Arr) : Option (Arr×Int):=((DD a0 0).bind fun x1=>(some (x1.1,x1.2)))
theorem Jj {a0:Arr} {r:Arr×Int} (h:FE a0=some r) :
  Fn Tryz.prog 95 [.ag [.sl (Is a0.shape),.sl (Its a0.items)]] (.tup [.d (.ag [.sl (Is r.1.shape),.sl (Its r.1.items)]),.d (.i .i64 r.2)]):=by
 unfold FE at h
 refine Fn.ofC (rs:=[.cell 2 27,.tmp 3]) (nt:=8) Tryz.func95 rfl rfl rfl (by simp) rfl ?_;refine .sr ?_;refine vk (vbx) ?_;refine vk (van (Aj Az) AC) ?_;refine ar [1,2,3] ?_;refine .sr ?_;refine vk (AI Ad Ab) ?_
 obtain ⟨x1,g1,h⟩:=bnd h
 refine vk (VOK.tupd (vs:=[.ag [.sl (Is x1.1.shape),.sl (Its x1.1.items)],.i .i64 x1.2]) (Aq (EP g1) Tryz.call94)) ?_;refine vk (vex) ?_;refine vk (vex) ?_
 refine stn ?_ Ab (by decide)
 refine ar [2,3] ?_;refine .ret ?_
 cases h
 exact ⟨_,_,⟨.inr rfl,Ad,Ab,p2⟩,rfl,rfl⟩
def CI (a0:Arr) (K0:(List Int)→Option (Arr×Int)) : Nat→(List Int)→Int→Option (Arr×Int)
 | 0,_,_=>none
 | k+1,s2,s3=>(if s3<((List.length a0.shape:Nat):Int) then ((ap? 17592186044416 [s3] s2).bind fun x4=>(CI a0 K0 k x4 (w64 (s3+1)))) else (K0 s2))
def FQ (a0:Arr) : Option (Arr×Int):=(jn (fun (z1:(List Int))=>((DY a0 z1 ((List.length z1:Nat) : Int)).bind fun x5=>(some (x5.1,x5.2)))) fun K0=>(CI a0 K0 AT [] 0))
theorem Jc {a0:Arr} {r:Arr×Int} (h:FQ a0=some r) :
  Fn Tryz.prog 96 [.ag [.sl (Is a0.shape),.sl (Its a0.items)]] (.tup [.d (.ag [.sl (Is r.1.shape),.sl (Its r.1.items)]),.d (.i .i64 r.2)]):=by
 unfold FQ at h
 refine Fn.ofC (rs:=[.cell 2 27,.tmp 3]) (nt:=24) Tryz.func96 rfl rfl rfl (by simp) rfl ?_;refine .sr ?_;refine vk (vbx) ?_;refine vk (van (Aj Az) AC) ?_;refine ar [1,2,3] ?_;refine .sr ?_;refine asn ?_;refine rk [1,2,3,4] ?_;refine .seq ?_;refine .sr ?_;refine vk (vfa Av) ?_;refine vk (Al A1) ?_;refine vk (A5 (Af _) (Bs _) Bp) ?_;refine vk (Aa) ?_;refine rk [1,2,3,4,8,9] ?_
 obtain ⟨K0,hK0,h⟩:=A7 h
 refine AW.mr (σ:=(List Int)) (fun p=>K0 p=some r) (fun p=>[(1,.d (.ptr [.sl (Is a0.shape),.sl (Its a0.items)])),(2,.nb [.sl (Is []),.sl (Its [])]),(3,.d (.i .i64 0)),(4,.d (.sl (Is p)))]) (fun p=>[]) ?_ ?_
 ·skip
  refine .block ?_;refine .gh (Gh.nlD (t:=4) rfl) ?_
  refine .loop (.gk [1,2,3,4,8,9] ?_)
  refine AL.ind (σ:=Nat×(List Int)×Int) (m:=fun p=>p.1) (e:=fun p=>[(1,.d (.ptr [.sl (Is a0.shape),.sl (Its a0.items)])),(2,.nb [.sl (Is []),.sl (Its [])]),(3,.d (.i .i64 0)),(4,.d (.sl (Is p.2.1))),(8,.d (.i .i64 ((List.length a0.shape:Nat):Int))),(9,.d (.i .i64 p.2.2))]) (h:=fun p=>[]) (I:=fun p=>CI a0 K0 p.1 p.2.1 p.2.2=some r) ?_ (AT,[],0) h
  rintro ⟨k,s2,s3⟩ h ih
  dsimp only at h ih ⊢
  rcases k with _|k
  ·rw [CI] at h;cases h
  rw [CI] at h
  refine .sr ?_;refine vk (vbi) ?_;refine rk [1,2,3,4,8,9,10] ?_;refine .seq ?_
  rcases brc h with ⟨hc,h⟩|⟨hc,h⟩
  ·refine cnt (dT hc) ?_
   refine .skip ?_
   show AW _ _ _ _ _ _
   refine .seq ?_;refine .block ?_;refine .sr ?_;refine vk (Aa) ?_;refine ar [1,2,3,4,5,8,9] ?_;refine .region ?_;refine vk (Aa) ?_;refine vk (Kq (DP [s3]) CS) ?_;refine vk (Aa) ?_
   obtain ⟨x4,g4,h⟩:=bnd h
   refine S1 JC g4 KP ?_ Hg Af CS
   refine aso ?_;refine .nil ?_
   show AW _ _ _ _ _ _
   refine .gk [1,2,3,4,8,9] ?_;refine .region ?_;refine vk (vbi) ?_;refine vk (Aa) ?_;refine .nil ?_;refine AL.gh (Gh.frz (p:=.t 4) rfl (fun _ _ h=>by cases h)) ?_;refine AL.gk [1,2,3,4,8,9] ?_
   exact ih (k,x4,(w64 (s3+1))) h (Nat.lt_succ_self _)
  refine cnf (dF hc) ?_;refine .gk [1,2,3,4] ?_;refine .exit ?_
  exact jr (s2) h
 rintro z1 h
 try dsimp only at h ⊢
 subst hK0
 show AW _ _ _ _ _ _
 refine .sr ?_;refine vk (AI Ad Ab) ?_;refine vk (Aa) ?_;refine vk (Aa) ?_;refine vk (A5 (Af _) (Bs _) Bp) ?_
 obtain ⟨x5,g5,h⟩:=bnd h
 refine vk (VOK.tupd (vs:=[.ag [.sl (Is x5.1.shape),.sl (Its x5.1.items)],.i .i64 x5.2]) (Aq (GV g5) Tryz.call80)) ?_;refine vk (vex) ?_;refine vk (vex) ?_
 refine stn ?_ Ab (by decide)
 refine ar [2,3] ?_;refine .ret ?_
 cases h
 exact ⟨_,_,⟨.inr rfl,Ad,Ab,p2⟩,rfl,rfl⟩
def Ap (a0:(List Arr)) (a1:Bn) (K0:Int→Option (Int)) : Nat→Int→Int→Option (Int)
 | 0,_,_=>none
 | k+1,s2,s3=>(if s3<((List.length a0:Nat):Int) then ((rd? a0 s3).bind fun x4=>((a1.g x4).bind fun x5=>(if x5=true then (some (s3)) else (Ap a0 a1 K0 k s2 (w64 (s3+1)))))) else (K0 s2))
def AQ (a0:(List Arr)) (a1:Bn) : Option (Int):=(jn (fun (z1:Int)=>(some ((-1)))) fun K0=>(Ap a0 a1 K0 AT 0 0))
theorem CQ {a0:(List Arr)} {a1:Bn} (oa1:HF a1) {r:Int} (h:AQ a0 a1=some r) :
  Fn Tryz.prog 121 [.sl (Ars a0),a1.dv] (.d (.i .i64 r)):=by
 unfold AQ at h
 refine Fn.o1 4 19 Tryz.func121 ?_;refine .sr ?_;refine ar [0,1,4] ?_;refine .seq ?_;refine .sr ?_;refine vk (Aa) ?_;refine vk (A5 (Bc _) (D4 _) DW) ?_;refine vk (Aa) ?_;refine rk [0,1,4,7,8] ?_
 obtain ⟨K0,hK0,h⟩:=A7 h
 refine AW.mr (σ:=Int) (fun p=>K0 p=some r) (fun p=>[(4,.d (.i .i64 p))]) (fun p=>[]) ?_ ?_
 ·skip
  refine .block ?_
  refine .loop (.gk [0,1,4,7,8] ?_)
  refine AL.ind (σ:=Nat×Int×Int) (m:=fun p=>p.1) (e:=fun p=>[(0,.d (.sl (Ars a0))),(1,.d (a1.dv)),(4,.d (.i .i64 p.2.1)),(7,.d (.i .i64 ((List.length a0:Nat):Int))),(8,.d (.i .i64 p.2.2))]) (h:=fun p=>[]) (I:=fun p=>Ap a0 a1 K0 p.1 p.2.1 p.2.2=some r) ?_ (AT,0,0) h
  rintro ⟨k,s2,s3⟩ h ih
  dsimp only at h ih ⊢
  rcases k with _|k
  ·rw [Ap] at h;cases h
  rw [Ap] at h
  refine .sr ?_;refine vk (vbi) ?_;refine rk [0,1,4,7,8,9] ?_;refine .seq ?_
  rcases brc h with ⟨hc,h⟩|⟨hc,h⟩
  ·refine cnt (dT hc) ?_
   refine .skip ?_
   show AW _ _ _ _ _ _
   refine .seq ?_;refine .block ?_;refine .sr ?_;refine vk (Aa) ?_;refine ar [0,1,4,5,7,8] ?_;refine .sr ?_;refine vk (Aa) ?_;refine vk (Aa) ?_;refine vk (Aa) ?_
   obtain ⟨x4,g4,h⟩:=bnd h
   obtain ⟨n4,p04,q4⟩:=Ak g4
   refine vk (vix n4 p04 (EA q4) rfl EE) ?_;refine vk (AI Ad Ab) ?_
   obtain ⟨x5,g5,h⟩:=bnd h
   refine vk (Mv (oa1 _ _ g5)) ?_;refine rk [0,1,4,5,7,8,16] ?_
   rcases brc h with ⟨hc,h⟩|⟨hc,h⟩
   ·refine cnt hc ?_
    refine .sr ?_;refine vk (Aa) ?_;refine ar [0,1,4,7,8] ?_;refine .ret ?_
    cases h
    exact ⟨rfl,rfl⟩
   refine cnf (bf hc) ?_;refine .skip ?_
   show AW _ _ _ _ _ _
   refine .region ?_;refine vk (vbi) ?_;refine vk (Aa) ?_;refine .nil ?_;refine AL.gk [0,1,4,7,8] ?_
   exact ih (k,s2,(w64 (s3+1))) h (Nat.lt_succ_self _)
  refine cnf (dF hc) ?_;refine .gk [4] ?_;refine .exit ?_
  exact jr (s2) h
 rintro z1 h
 try dsimp only at h ⊢
 subst hK0
 show AW _ _ _ _ _ _
 refine .sr ?_;refine ar [4] ?_;refine .ret ?_
 cases h
 exact ⟨rfl,rfl⟩
def As (a0:(List Arr)) (a1:Bn) : Option (Bool):=((AQ a0 a1).bind fun x1=>(some ((decide (0≤x1)))))
theorem Bm {a0:(List Arr)} {a1:Bn} (oa1:HF a1) {r:Bool} (h:As a0 a1=some r) :
  Fn Tryz.prog 71 [.sl (Ars a0),a1.dv] (.d (.b r)):=by
 unfold As at h
 refine Fn.o1 4 9 Tryz.func71 ?_;refine .sr ?_;refine ar [0,1,4] ?_;refine .sr ?_;refine vk (Aa) ?_;refine vk (Aa) ?_
 obtain ⟨x1,g1,h⟩:=bnd h
 refine vk (Aq (CQ oa1 g1) Tryz.call121) ?_;refine vk (vbi) ?_;refine ar [4] ?_;refine .ret ?_
 cases h
 exact ⟨rfl,rfl⟩
def Ci (a0:Arr) : Option (Bool):=((A2 a0).bind fun x1=>(some ((!x1))))
theorem Fi {a0:Arr} {r:Bool} (h:Ci a0=some r) :
  Fn Tryz.prog 72 [.ag [.sl (Is a0.shape),.sl (Its a0.items)]] (.d (.b r)):=by
 unfold Ci at h
 refine Fn.o1 2 6 Tryz.func72 ?_;refine .sr ?_;refine vk (vbx) ?_;refine ar [1,2] ?_;refine .sr ?_;refine vk (AI Ad Ab) ?_
 obtain ⟨x1,g1,h⟩:=bnd h
 refine vk (Aq (Bo g1) Tryz.call15) ?_;refine vk (vnt) ?_;refine ar [2] ?_;refine .ret ?_
 cases h
 exact ⟨rfl,rfl⟩
def CU (a0:(Int×RT×Int)) (a1:(List Arr)) : Option (Bool):=(Option.bind ((if a0.1=0 then ((As a1 (⟨.fn 72 [] [],fun x=>Ci x⟩ : Bn)).bind fun x2=>(some (!x2))) else (if a0.1=1 then ((As a1 (⟨.fn 72 [] [],fun x=>Ci x⟩ : Bn)).bind fun x3=>(some (!x3))) else (some false))) : Option (Bool)) fun (z1:Bool)=>(some (z1)))
theorem Gr {a0:(Int×RT×Int)} {a1:(List Arr)} {r:Bool} (h:CU a0 a1=some r) :
  Fn Tryz.prog 34 [.ag [.i .i64 a0.1,.b a0.2.1.1,.sl (L a0.2.1.2.1),.sl (L a0.2.1.2.2),.i .i64 a0.2.2],.sl (Ars a1)] (.d (.b r)):=by
 unfold CU at h
 refine Fn.o1 4 18 Tryz.func34 ?_;refine .sr ?_;refine vk (vbx) ?_;refine ar [1,2,4] ?_;refine .seq ?_
 obtain ⟨z1,hz,h⟩:=bnd h
 refine AW.mr (σ:=Unit) (fun _=>True) (fun _=>[(4,.d (.b z1))]) (fun _=>[]) ?_ ?_
 ·skip
  refine .region ?_;refine vk (vfa N7) ?_;refine vk (Al AF) ?_;refine vk (vbi) ?_
  rcases brc hz with ⟨hc,hz⟩|⟨hc,hz⟩
  ·have hb0:(decide (a0.1=0))=true:=(dT hc)
   refine vk (VOK.lit (Aa) hb0) ?_;refine gf ?_;refine gf ?_;refine gf ?_;refine vk (Ao) ?_;refine vk (Aa) ?_;refine vk (Aa) ?_
   obtain ⟨x2,g2,hz⟩:=bnd hz
   refine vk (Aq (Bm (DZ Tryz.call72 (fun _ _ h=>Fi h)) g2) Tryz.call71) ?_;refine vk (vnt) ?_;refine vk (Ao) ?_;refine asd ?_;refine RL.gk [4] ?_;refine .nil ?_
   cases hz
   exact jr () trivial
  have hb0:(decide (a0.1=0))=false:=(dF hc)
  refine vk (VOK.lit (Aa) hb0) ?_;refine vk (vfa N7) ?_;refine vk (Al AF) ?_;refine vk (vbi) ?_;refine vk (Ao) ?_
  rcases brc hz with ⟨hc,hz⟩|⟨hc,hz⟩
  ·have hb1:(decide (a0.1=1))=true:=(dT hc)
   refine vk (VOK.lit (Aa) hb1) ?_;refine vk (Aa) ?_
   obtain ⟨x3,g3,hz⟩:=bnd hz
   refine vk (Aq (Bm (DZ Tryz.call72 (fun _ _ h=>Fi h)) g3) Tryz.call71) ?_;refine vk (vnt) ?_;refine vk (Ao) ?_;refine asd ?_;refine RL.gk [4] ?_;refine .nil ?_
   cases hz
   exact jr () trivial
  have hb1:(decide (a0.1=1))=false:=(dF hc)
  refine vk (VOK.lit (Aa) hb1) ?_;refine gf ?_;refine gf ?_;refine gf ?_;refine vk (Ao) ?_;refine asd ?_;refine RL.gk [4] ?_;refine .nil ?_
  cases hz
  exact jr () trivial
 rintro _ _
 refine .ret ?_
 cases h
 exact ⟨rfl,rfl⟩
theorem D7 : Tryz.prog.underlying 85=some (.map 21 84):=by kernel_rfl
theorem OR : ∀ w,(zeroValue 84).run Tryz.prog w=.ok .nilFunc w:=Aj (by kernel_rfl)
def NL : List (Int×DV):=[(9076,.fn 91 [] []),(44,.fn 92 [] []),(9021,.fn 93 [] []),(8854,.fn 95 [] []),(9033,.fn 96 [] [])]
theorem Pw : Fn Tryz.prog 50 [] (.d (.mp (NL.map fun p=>.i .i32 p.1) (NL.map (·.2)))):=by
 refine Fn.o1 0 3 Tryz.func50 ?_;refine .sr ?_;refine asu ?_;refine rn ?_;refine .sr ?_;refine vk (TU) ?_;refine Ix D7 gkR freshK.nil ?_;refine Ix D7 gkR (freshK.snoc (z:=44) (z':=9076) freshK.nil (by decide)) ?_;refine Ix D7 gkR (freshK.snoc (z:=9021) (z':=44) (freshK.snoc (z:=9021) (z':=9076) freshK.nil (by decide)) (by decide)) ?_;refine Ix D7 gkR (freshK.snoc (z:=8854) (z':=9021) (freshK.snoc (z:=8854) (z':=44) (freshK.snoc (z:=8854) (z':=9076) freshK.nil (by decide)) (by decide)) (by decide)) ?_;refine Ix D7 gkR (freshK.snoc (z:=9033) (z':=8854) (freshK.snoc (z:=9033) (z':=9021) (freshK.snoc (z:=9033) (z':=44) (freshK.snoc (z:=9033) (z':=9076) freshK.nil (by decide)) (by decide)) (by decide)) (by decide)) ?_;refine RL.gh (Gh.omf (t:=1) rfl) ?_;refine RL.gk [1] ?_;refine vk (Aa) ?_;refine asd ?_;refine rn ?_;refine .ret ?_
 exact ⟨rfl,rfl⟩
def Fy : List (Int×DH):=[(9076,⟨.fn 91 [] [],fun _=>none⟩),(44,⟨.fn 92 [] [],fun x=>F5 x⟩),(9021,⟨.fn 93 [] [],fun x=>FK x⟩),(8854,⟨.fn 95 [] [],fun x=>FE x⟩),(9033,⟨.fn 96 [] [],fun x=>FQ x⟩)]
theorem NB : (Fy.map (·.1)).Nodup:=by show List.Nodup [(9076:Int),(44:Int),(9021:Int),(8854:Int),(9033:Int)];decide
theorem Mw : ∀ p∈Fy,ER p.2∧isF p.2.dv:=by
 intro p hp
 simp only [Fy,List.mem_cons,List.not_mem_nil,or_false] at hp
 rcases hp with rfl|rfl|rfl|rfl|rfl
 ·exact ⟨DZ Tryz.call91 (fun _ _ h=>nomatch h),_,_,_,rfl⟩
 ·exact ⟨DZ Tryz.call92 (fun _ _ h=>Je h),_,_,_,rfl⟩
 ·exact ⟨DZ Tryz.call93 (fun _ _ h=>Jm h),_,_,_,rfl⟩
 ·exact ⟨DZ Tryz.call95 (fun _ _ h=>Jj h),_,_,_,rfl⟩
 ·exact ⟨DZ Tryz.call96 (fun _ _ h=>Jc h),_,_,_,rfl⟩
theorem NF {z:Int} {f:DH} (h:GF Fy z=some f) : ER f∧isF f.dv:=Mw _ (Ju h)
theorem NG : Fn Tryz.prog 50 [] (.d (Sc .i32 Fy)):=Pw
def E4 (a0:(Int×RT×Int)) (a1:Int) (a2:Arr) : Option (Arr×Int):=(Ti (GF Fy a1) (some ((Arr.mk [] []),23)) fun f1=>((CU a0 ([a2])).bind fun x2=>(if x2=true then ((f1.g a2).bind fun x3=>(some (x3.1,x3.2))) else (some ((Arr.mk [] []),22)))))
theorem IG {a0:(Int×RT×Int)} {a1:Int} {a2:Arr} {r:Arr×Int} (h:E4 a0 a1 a2=some r) :
  Fn Tryz.prog 17 [.ag [.i .i64 a0.1,.b a0.2.1.1,.sl (L a0.2.1.2.1),.sl (L a0.2.1.2.2),.i .i64 a0.2.2],.i .i32 a1,.ag [.sl (Is a2.shape),.sl (Its a2.items)]] (.tup [.d (.ag [.sl (Is r.1.shape),.sl (Its r.1.items)]),.d (.i .i64 r.2)]):=by
 unfold E4 at h
 refine Fn.ofC (rs:=[.cell 6 27,.tmp 7]) (nt:=28) Tryz.func17 rfl rfl rfl (by simp) rfl ?_;refine .sr ?_;refine vk (vbx) ?_;refine vk (vbx) ?_;refine vk (van (Aj Az) AC) ?_;refine ar [1,3,5,6,7] ?_;refine .sr ?_;refine vk (Aq NG Tryz.call50) ?_;refine vk (Aa) ?_
 rcases hmf1:(GF Fy a1) with _|f1
 ·replace h:=SE hmf1 h
  refine vk (TE D7 gkR OR hmf1) ?_;refine ar [3,5,6,7,8] ?_;refine .seq ?_;refine .block ?_;refine .sr ?_;refine vk (Aa) ?_;refine vk (T6 DS) ?_;refine ar [3,5,6,7,8,12] ?_;refine DC ?_;refine .sr ?_;refine vk (vbd Ce Az AC) ?_
  refine stn ?_ Ab (by decide)
  refine ar [5,6,7,8] ?_;refine .ret ?_
  cases h
  exact ⟨_,_,⟨.inr rfl,Ad,Ab,p2⟩,rfl,rfl⟩
 replace h:=Tt hmf1 h
 obtain ⟨of1,isf1⟩:=NF hmf1
 refine vk (Sr NB D7 gkR hmf1) ?_;refine ar [3,5,6,7,8] ?_;refine .seq ?_;refine .block ?_;refine .sr ?_;refine vk (Aa) ?_;refine vk (Ua DS isf1) ?_;refine ar [3,5,6,7,8,12] ?_;refine Db ?_;refine .sr ?_;refine vk (AI Ol My) ?_;refine vk (AI Ad Ab) ?_;refine vk ((Em (Js a2) (GI [a2]) Hj).deep) ?_
 obtain ⟨x2,g2,h⟩:=bnd h
 refine vk (Aq (Gr g2) Tryz.call34) ?_;refine vk (vnt) ?_;refine ar [5,6,7,8,16] ?_
 rcases brc h with ⟨hc,h⟩|⟨hc,h⟩
 ·refine cnf (ntf hc) ?_
  refine .skip ?_
  show AW _ _ _ _ _ _
  refine .sr ?_;refine vk (Aa) ?_;refine vk (AI Ad Ab) ?_
  obtain ⟨x3,g3,h⟩:=bnd h
  refine vk (VOK.tupd (vs:=[.ag [.sl (Is x3.1.shape),.sl (Its x3.1.items)],.i .i64 x3.2]) (Mv (of1 _ _ g3))) ?_;refine vk (vex) ?_;refine vk (vex) ?_
  refine stn ?_ Ab (by decide)
  refine ar [6,7] ?_;refine .ret ?_
  cases h
  exact ⟨_,_,⟨.inr rfl,Ad,Ab,p2⟩,rfl,rfl⟩
 refine cnt (ntt (bf hc)) ?_;refine .sr ?_;refine vk (vbd Ce Az AC) ?_
 refine stn ?_ Ab (by decide)
 refine ar [5,6,7,8] ?_;refine .ret ?_
 cases h
 exact ⟨_,_,⟨.inr rfl,Ad,Ab,p2⟩,rfl,rfl⟩
theorem Qt {s:List Int} (h:(szP s).2=0) : (∀ x∈s,0≤x∧x≤4096)∧s.length≤8:=by
 unfold szP at h
 split at h
 ·exact absurd h (by decide)
 split at h
 ·exact absurd h (by decide)
 split at h
 ·exact absurd h (by decide)
 rename_i h8 hneg hbig
 refine ⟨fun x hx=>?_,by omega⟩
 simp only [List.any_eq_true,decide_eq_true_eq,not_exists,not_and] at hneg hbig
 have a:=hneg x hx
 have b:=hbig x hx
 omega
end Go.FL
namespace Go.FL
open Go Go.RowKit
section
variable {P:Program} {C:Cx} {o:Oper} {ops:Array Oper} {Q:Exit→Env→Ae→Prop} {env:Env} {H:Ae} {k:Nat} {l:List Oper}
theorem Tz {x:Operand} {src dst:Nat} {q:IntKind} {n:Int} (hs:(P.underlying src).isSome=true) (hd:P.underlying dst=some .string) (ho:o.op=.convert src dst x:=by rfl) (hv:lk env x=.d (.i q n):=by rfl) : VOK P C o env H (.d (.s (Utf8.encode n))):=by
 obtain ⟨h1,h2⟩:=Ar hv (by simp)
 refine .pv ⟨by simp [ho],fun X a w I μ O _ hs'=>⟨.string (Utf8.encode n),?_,.of_rep (.s _)⟩⟩
 have e1:=hs'.look_i h1 h2
 have:=run_convert_int_string (P:=P) w src dst q n hs hd
 simp only [execOp,ho,e1,Sem.run_bind,this,Result.andThen_ok,Sem.run_pure]
theorem TG {x y:Operand} {ty:Nat} {s:ByteArray} {q:IntKind} {z:Int} (n:Nat) (hn:z=n∧n≤s.size) (hty:P.underlying ty=some .string) (ho:o.op=.slice ty x (some y) none none:=by rfl) (hv:lk env x=.d (.s s):=by rfl) (hi:lk env y=.d (.i q z):=by rfl) :
  VOK P C o env H (.d (.s (s.extract n s.size))):=by
 obtain ⟨rfl,hl⟩:=hn
 obtain ⟨h1,h2⟩:=Ar hv (by simp)
 obtain ⟨h3,h4⟩:=Ar hi (by simp)
 refine .pv ⟨by simp [ho],fun X a w I μ O _ hs=>⟨.string (s.extract n s.size),?_,.of_rep (.s _)⟩⟩
 have e1:=hs.look_s h1 h2
 have e2:=hs.look_i h3 h4
 have:=run_slice_string_l (P:=P) w ty s hty q (n:Int) (by omega) (by omega)
 rw [Int.toNat_natCast] at this
 simp only [execOp,ho,e1,Option.map_none,Option.map_some,e2,Instr.sliceAt,Sem.run_bind,run_underlying hty,this,Result.andThen_ok,Sem.run_pure]
theorem T9 {c:Call} {fo:Operand} {f:FuncId} {s:ByteArray} {b z:Int} (he:∀ w,(callFunc f #[.string s,.int .u8 b]).run P w=.ok (.value (.int .i64 z)) w) (ho:o.op=.call c:=by rfl) (hc:c.callee=.value fo:=by rfl) (hf:lk env fo=.d (.fn f [] []):=by rfl)
  (ha:argsD env c.args.toList=some [.s s,.i .u8 b]:=by rfl):VOK P C o env H (.d (.i .i64 z)):=by
 refine .pv ⟨by simp [ho],fun X a w I μ O _ hs=>⟨.int .i64 z,?_,.of_rep (.i _ _)⟩⟩
 have hfr:=hs.deep (x:=fo) (v:=.fn f [] []) (by rw [hf];rfl)
 generalize hev:a.eval fo=u at hfr
 cases hfr with
 | fn _ _ _ fs cs hfs hcs =>
  cases hfs
  cases hcs
  have hres:=BJ (P:=P) (w:=w) (ρ:=a.eval) (ty:=o.type) hc hev
  have h:=hs.argsD ha
  have e:c.args.map a.eval=#[.string s,.int .u8 b]:=by
   apply Array.ext'
   rw [Array.toList_map]
   generalize c.args.toList.map a.eval=l at h
   cases h with
   | cons h1 h2 =>
    cases h1
    cases h2 with
    | cons h3 h4=>cases h3;cases h4;rfl
  have he':=he w
  rw [← e] at he'
  simp only [execOp,ho,Sem.run_bind,hres,Result.andThen_ok,invoke,List.toArray,Array.append_empty,Array.empty_append,he']
end
def noG (Q:Exit→Env→Ae→Prop) : Exit→Env→Ae→Prop
 | .goto _,_,_=>False
 | e,env,H=>Q e env H
section
variable {P:Program} {b:Frame} {a:Act} {k:List Item} {cs:List Frame} {w:World}
theorem Fj {c:Code} : step P (lone (b.atR a (.code (.scope c)::k)) cs w)=.next (lone (b.atR a (.code c::.inScope c::k)) cs w) :=
 step_lone_go (by simp [stepG,stepG.exec,Frame.atR])
theorem OF {c:Code} : step P (lone (b.atR a (.inScope c::k)) cs w)=.next (lone (b.atR a k) cs w) :=
 step_lone_go (by simp [stepG,stepG.exec,Frame.atR])
end
theorem AW.scope {P:Program} {C:Cx} {c:Code} {Q:Exit→Env→Ae→Prop} {env:Env} {H:Ae} (h:AW P C c (noG Q) env H) : AW P C (.scope c) Q env H:=by
 intro X a w I μ O h1 h2 h3 hs b k cs hro hb hr
 have h0:(lone (b.atR a (.code (.scope c)::k)) cs w).fenced P (om C.ro):=fenced_calm hb hr rfl
 obtain ⟨e,a₁,w₁,hq,harr⟩:=h X a w I μ O h1 h2 h3 hs b (.inScope c::k) cs hro hb hr
 obtain ⟨env',H',I',μ',O',s,q⟩:=hq
 cases e with
 | normal=>exact ⟨.normal,a₁,w₁,⟨env',H',I',μ',O',s,q⟩,.head h0 Fj (StepsIn.trans harr (.one (fenced_calm hb hr rfl) OF))⟩
 | exit id =>
  have hx:exitTo id (.inScope c::k)=exitTo id k:=by simp [exitTo]
  exact ⟨.exit id,a₁,w₁,⟨env',H',I',μ',O',s,q⟩,fun k' hk=>.head h0 Fj (harr.1 k' (by rw [hx];exact hk)),
   fun hr' hk=>let ⟨k₁,h1,h2⟩:=harr.2 hr' (by rw [hx];exact hk);⟨k₁,h1,.head h0 Fj h2⟩⟩
 | goto l=>exact q.elim
 | ret=>exact ⟨_,a₁,w₁,⟨env',H',I',μ',O',s,q⟩,.of_steps (.one h0 Fj) harr⟩
 | panic ch=>exact ⟨_,a₁,w₁,⟨env',H',I',μ',O',s,q⟩,.of_steps (.one h0 Fj) harr⟩
 | outgrown=>exact ⟨_,a₁,w₁,⟨env',H',I',μ',O',s,q⟩,.of_steps (.one h0 Fj) harr⟩
end Go.FL
namespace Go.FL
open Go Go.Proofs Go.RowKit
theorem stS : Tryz.prog.underlying 9=some .string:=by kernel_rfl
theorem To (s:ByteArray) (b:Int) (w:World) : (callFunc 180 #[.string s,.int .u8 b]).run Tryz.prog w=.ok (.value (.int .i64 (Lib.indexByte s.data.toList b.toNat.toUInt8))) w:=by
 rw [run_callFunc_extern Tryz.func180 (by kernel_rfl) (by kernel_rfl) (by kernel_rfl) (e:=Extern.BytealgIndexByte.indexByte) (by kernel_rfl),Lib.run_indexByteString]
 rfl
def G9 (s:ByteArray) (b:Int) : Int:=Lib.indexByte s.data.toList b.toNat.toUInt8
theorem Ms (s:ByteArray) (b:Int) : Fn Tryz.prog 169 [.s s,.i .u8 b] (.d (.i .i64 (G9 s b))):=by
 refine Fn.of (rs:=[.tmp 4]) (nt:=8) Tryz.func169 rfl rfl rfl (by simp) rfl ?_;refine .seq ?_;refine .region ?_;refine asd ?_;refine rn ?_;refine .seq ?_;refine .region ?_;refine vk (Aa) ?_;refine vk (Aa) ?_;refine vk (T9 (To s b)) ?_;refine asd ?_;refine rn ?_;refine .ret ?_
 exact ⟨rfl,rfl⟩
theorem IN (s:ByteArray) (b:Int) : Fn Tryz.prog 139 [.s s,.i .u8 b] (.d (.i .i64 (G9 s b))):=by
 refine Fn.of (rs:=[.tmp 4]) (nt:=8) Tryz.func139 rfl rfl rfl (by simp) rfl ?_;refine .seq ?_;refine .region ?_;refine asd ?_;refine rn ?_;refine .seq ?_;refine .region ?_;refine vk (Aa) ?_;refine vk (Aa) ?_;refine vk (Aq (Ms s b) Tryz.call169) ?_;refine asd ?_;refine rn ?_;refine .ret ?_
 exact ⟨rfl,rfl⟩
def Cq (a0:Int) : Option (Bool):=(if ((decide (0≤a0))&&(decide (a0<55296)))=true then (some (true)) else (if ((decide (57343<a0))&&(decide (a0≤1114111)))=true then (some (true)) else (some (false))))
theorem EU {a0:Int} {r:Bool} (h:Cq a0=some r) :
  Fn Tryz.prog 140 [.i .i32 a0] (.d (.b r)):=by
 unfold Cq at h
 refine Fn.of (rs:=[.tmp 2]) (nt:=17) Tryz.func140 rfl rfl rfl (by simp) rfl ?_;refine .seq ?_;refine .region ?_;refine asd ?_;refine rn ?_;refine .gh (Gh.keep [0,2] rfl) ?_;refine .seq ?_;refine .block ?_;refine .seq ?_;refine AW.mr (σ:=Unit) (fun _=>True) (fun _=>[(0,.d (.i .i32 a0)),(2,.d (.b false)),(3,.d (.b ((decide (0≤a0))&&(decide (a0<55296)))))]) (fun _=>[]) ?_ ?_
 ·skip
  refine .region ?_;refine vk (Aa) ?_;refine vk (vbi) ?_
  by_cases hc:0≤a0
  ·have hb0:(decide (0≤a0))=true:=(dT hc)
   refine vk (VOK.lit (Aa) hb0) ?_;refine vk (Aa) ?_;refine vk (vbi) ?_;refine vk (Ao) ?_;refine asd ?_;refine RL.gh (Gh.keep [0,2,3] rfl) ?_;refine .nil ?_
   exact jr () trivial (by simp only [hb0];rfl)
  have hb0:(decide (0≤a0))=false:=(dF hc)
  refine vk (VOK.lit (Aa) hb0) ?_;refine gf ?_;refine gf ?_;refine vk (Ao) ?_;refine asd ?_;refine RL.gh (Gh.keep [0,2,3] rfl) ?_;refine .nil ?_
  exact jr () trivial (by simp only [hb0];rfl)
 rintro _ _
 by_cases hc:((decide (0≤a0))&&(decide (a0<55296)))=true
 ·replace h:=Qo hc h
  refine cnt hc ?_;refine .seq ?_;refine .region ?_;refine asd ?_;refine rn ?_;refine .gh (Gh.keep [2] rfl) ?_;refine .ret ?_
  cases h
  exact ⟨rfl,rfl⟩
 replace h:=Qe hc h
 refine cnf (bf hc) ?_;refine .seq ?_;refine AW.mr (σ:=Unit) (fun _=>True) (fun _=>[(2,.d (.b false)),(10,.d (.b ((decide (57343<a0))&&(decide (a0≤1114111)))))]) (fun _=>[]) ?_ ?_
 ·skip
  refine .region ?_;refine vk (Aa) ?_;refine vk (vbi) ?_
  by_cases hc:57343<a0
  ·have hb0:(decide (57343<a0))=true:=(dT hc)
   refine vk (VOK.lit (Aa) hb0) ?_;refine vk (Aa) ?_;refine vk (vbi) ?_;refine vk (Ao) ?_;refine asd ?_;refine RL.gh (Gh.keep [2,10] rfl) ?_;refine .nil ?_
   exact jr () trivial (by simp only [hb0];rfl)
  have hb0:(decide (57343<a0))=false:=(dF hc)
  refine vk (VOK.lit (Aa) hb0) ?_;refine gf ?_;refine gf ?_;refine vk (Ao) ?_;refine asd ?_;refine RL.gh (Gh.keep [2,10] rfl) ?_;refine .nil ?_
  exact jr () trivial (by simp only [hb0];rfl)
 rintro _ _
 by_cases hc:((decide (57343<a0))&&(decide (a0≤1114111)))=true
 ·replace h:=Qo hc h
  refine cnt hc ?_;refine .seq ?_;refine .region ?_;refine asd ?_;refine rn ?_;refine .gh (Gh.keep [2] rfl) ?_;refine .ret ?_
  cases h
  exact ⟨rfl,rfl⟩
 replace h:=Qe hc h
 refine cnf (bf hc) ?_;refine .skip ?_
 show AW _ _ _ _ _ _
 refine .seq ?_;refine .region ?_;refine asd ?_;refine rn ?_;refine .gh (Gh.keep [2] rfl) ?_;refine .ret ?_
 cases h
 exact ⟨rfl,rfl⟩
theorem MO (s:ByteArray) (r:Int) (h0:0≤r) (h1:r<128) : Fn Tryz.prog 85 [.s s,.i .i32 r] (.d (.i .i64 (G9 s r))):=by
 refine Fn.of (rs:=[.tmp 4]) (nt:=187) Tryz.func85 rfl rfl rfl (by simp) rfl ?_;refine .seq ?_;refine .region ?_;refine asd ?_;refine rn ?_;refine .gh (Gh.keep [0,1,4] rfl) ?_;refine .block ?_;refine .seq ?_;refine .region ?_;refine vk (Aa) ?_;refine vk (vbi) ?_
 have hb0:(decide (0≤r))=true:=dT h0
 refine vk (VOK.lit (Aa) hb0) ?_;refine vk (Aa) ?_;refine vk (vbi) ?_;refine vk (Ao) ?_;refine asd ?_;refine rn ?_;refine .gh (Gh.keep [0,1,4,160] rfl) ?_;refine cnt (dT h1) ?_;refine .seq ?_;refine .region ?_;refine vk (Aa) ?_;refine vk (Aa) ?_
 have hw:IntKind.u8.wrap r=r:=by
  simp only [IntKind.wrap,IntKind.bits,IntKind.signed]
  simp
  omega
 refine vk (QK (q1:=.i32) r hw (by kernel_rfl) (by kernel_rfl)) ?_;refine vk (Aq (IN s r) Tryz.call139) ?_;refine asd ?_;refine rn ?_;refine .ret ?_
 exact ⟨rfl,rfl⟩
theorem IZ (s:ByteArray) (r:Int) {x0 x1 x2 y2 p:Nat} (h0:2048≤r) (h1:r<55296) (he:Fr (Utf8.encode r)=[x0,x1,x2]) (hs:s.size≤1000) (h2:(Fr s)[2]?=some y2)
  (hc:(y2=x2∧p=2)∨(y2≠x2∧3≤p∧G9 (s.extract 3 s.size) x2=(p:Int)-3)) (hp1:(Fr s)[p-1]?=some x1) (hp0:(Fr s)[p-2]?=some x0) (hp:p<s.size) :
  Fn Tryz.prog 85 [.s s,.i .i32 r] (.d (.i .i64 ((p:Int)-2))):=by
 have hes:(Utf8.encode r).size=3:=by rw [← Ei,he];rfl
 have hsub:DV.i .i64 (IntKind.i64.wrap (((Utf8.encode r).size:Int)-1))=.i .i64 2:=by rw [hes];rfl
 have hv:Cq r=some true:=by
  unfold Cq
  rw [dT (show (0:Int)≤r by omega),dT h1];rfl
 have h3:3≤s.size:=by
  have:=(lS.1 h2).1
  rw [Ei] at this;omega
 refine Fn.of (rs:=[.tmp 4]) (nt:=187) Tryz.func85 rfl rfl rfl (by simp) rfl ?_;refine .seq ?_;refine .region ?_;refine asd ?_;refine rn ?_;refine .gh (Gh.keep [0,1,4] rfl) ?_;refine .block ?_;refine .seq ?_;refine .region ?_;refine vk (Aa) ?_;refine vk (vbi) ?_
 have hb0:(decide (0≤r))=true:=dT (by omega)
 refine vk (VOK.lit (Aa) hb0) ?_;refine vk (Aa) ?_;refine vk (vbi) ?_;refine vk (Ao) ?_;refine asd ?_;refine rn ?_;refine .gh (Gh.keep [0,1,4,160] rfl) ?_;refine cnf (show decide (r<128)=false from dF (by omega)) ?_;refine .seq ?_;refine .region ?_;refine vk (Aa) ?_;refine vk (vbi) ?_;refine asd ?_;refine rn ?_;refine .gh (Gh.keep [0,1,4,171] rfl) ?_;refine cnf (show decide (r=65533)=false from dF (by omega)) ?_;refine .seq ?_;refine .region ?_;refine vk (Aa) ?_;refine vk (Aq (EU hv) Tryz.call140) ?_;refine vk (vnt) ?_;refine asd ?_;refine rn ?_;refine .gh (Gh.keep [0,1,4,183] rfl) ?_;refine Db ?_;refine .scope ?_;refine .seq ?_;refine .region ?_;refine vk (Aa) ?_;refine vk (Tz (by kernel_rfl) stS) ?_;refine asd ?_;refine rn ?_;refine .gh (Gh.keep [0,1,4,7] rfl) ?_;refine .seq ?_;refine .region ?_;refine vk (Aa) ?_;refine vk (QH stS) ?_;refine vk (OE (.i .i64 2) ⟨trivial,hsub⟩) ?_;refine asd ?_;refine rn ?_;refine .gh (Gh.keep [0,1,4,7,8] rfl) ?_;refine .seq ?_;refine .region ?_;refine vk (Aa) ?_;refine asd ?_;refine rn ?_;refine .gh (Gh.keep [0,1,4,7,8,9] rfl) ?_;refine .seq ?_;refine .region ?_;refine asd ?_;refine rn ?_;refine .gh (Gh.keep [0,1,4,7,8,9,10] rfl) ?_;refine .seq ?_;refine .block ?_
 refine .loop (.round ?_)
 refine .seq ?_;refine .seq ?_;refine .region ?_;refine vk (Aa) ?_;refine vk (Aa) ?_;refine vk (QH stS) ?_;refine vk (vbi) ?_;refine rn ?_;refine .gh (Gh.keep [0,1,4,7,8,9,10,26] rfl) ?_;refine cnt (show decide ((2:Int)<((s.size:Nat):Int))=true from dT (by omega)) ?_;refine .skip ?_
 show AW _ _ _ _ _ _
 refine .block ?_;refine .scope ?_;refine .seq ?_;refine .seq ?_;refine .drawn 7 Bf (by kernel_rfl) ?_;refine dv (Aa) ?_;refine dv (Aa) ?_;refine dv (MJ 2 y2 rfl h2 stS) ?_;refine dv (Aa) ?_;refine dv (Aa) ?_;refine dv (MJ 2 x2 rfl (by rw [he];rfl) stS) ?_;refine dv (vbi) ?_;refine dz ?_;refine rn ?_;refine .gh (Gh.keep [0,1,4,7,8,9,10,33] rfl) ?_;refine AW.mr (σ:=Unit) (fun _=>True) (fun _=>[(0,.d (.s s)),(1,.d (.i .i32 r)),(4,.d (.i .i64 0)),(7,.d (.s (Utf8.encode r))),(8,.d (.i .i64 2)),(9,.d (.i .i64 (p:Int))),(10,.d (.i .i64 0))]) (fun _=>[]) ?_ ?_
 ·skip
  rcases hc with ⟨hc1,hc2⟩|⟨hc1,hc2,hc3⟩
  ·subst hc2
   refine cnf (ntf (dT (show (y2:Int)=x2 by omega))) ?_;refine .gh (Gh.keep [0,1,4,7,8,9,10] rfl) ?_;refine .skip ?_
   exact jr () trivial rfl
  have hI:=IN (s.extract 3 s.size) x2
  rw [hc3] at hI
  refine cnt (ntt (dF (show ¬(y2:Int)=x2 by omega))) ?_;refine .seq ?_;refine .drawn 8 Bf (by kernel_rfl) ?_;refine dv (Aa) ?_;refine dv (Aa) ?_;refine dv (vad 3 ⟨rfl,by decide,by decide⟩) ?_;refine dv (TG 3 ⟨rfl,h3⟩ stS) ?_;refine dv (Aa) ?_;refine dv (Aa) ?_;refine dv (MJ 2 x2 rfl (by rw [he];rfl) stS) ?_;refine dv (Aq hI Tryz.call139) ?_;refine dz ?_;refine asd ?_;refine rn ?_;refine .gh (Gh.keep [0,1,4,7,8,9,10,11] rfl) ?_;refine .seq ?_;refine .seq ?_;refine .region ?_;refine vk (Aa) ?_;refine vk (vbi) ?_;refine rn ?_;refine .gh (Gh.keep [0,1,4,7,8,9,10,11,43] rfl) ?_;refine cnf (show decide ((p:Int)-3<0)=false from dF (by omega)) ?_;refine .skip ?_
  show AW _ _ _ _ _ _
  refine .region ?_;refine vk (Aa) ?_;refine vk (Aa) ?_;refine vk (vad (m:=(p:Int)-3) (n:=1) ((p:Int)-2) ⟨by omega,by omega,by omega⟩) ?_;refine vk (vad (m:=2) (n:=(p:Int)-2) (p:Int) ⟨by omega,by omega,by omega⟩) ?_;refine asd ?_;refine RL.gh (Gh.keep [0,1,4,7,8,9,10] rfl) ?_;refine .nil ?_
  exact jr () trivial rfl
 rintro _ _
 refine .seq ?_;refine .seq ?_;refine .region ?_;refine asd ?_;refine rn ?_;refine .gh (Gh.keep [0,1,4,7,8,9,10,12] rfl) ?_;refine .block ?_;refine .loop ?_
 refine AL.ind (σ:=Nat) (m:=fun j=>3-j) (e:=fun j=>[(0,.d (.s s)),(1,.d (.i .i32 r)),(4,.d (.i .i64 0)),(7,.d (.s (Utf8.encode r))),(8,.d (.i .i64 2)),(9,.d (.i .i64 (p:Int))),(10,.d (.i .i64 0)),(12,.d (.i .i64 (j:Int)))]) (h:=fun _=>[]) (I:=fun j=>1≤j∧j≤3) ?_ 1 ⟨by omega,by omega⟩
 rintro j ⟨hj1,hj3⟩ ih
 refine .seq ?_;refine .seq ?_;refine .region ?_;refine vk (Aa) ?_;refine vk (Aa) ?_;refine vk (QH stS) ?_;refine vk (vbi) ?_;refine rn ?_;refine .gh (Gh.keep [0,1,4,7,8,9,10,12,51] rfl) ?_
 by_cases hj:j<3
 ·refine cnt (show decide ((j:Int)<(((Utf8.encode r).size:Nat):Int))=true from dT (by rw [hes];omega)) ?_
  refine .skip ?_
  show AW _ _ _ _ _ _
  obtain ⟨xj,hA,hB⟩:∃ xj,(Fr s)[p-j]?=some xj∧(Fr (Utf8.encode r))[2-j]?=some xj:=by
   have:j=1∨j=2:=by omega
   rw [he]
   rcases this with rfl|rfl
   ·exact ⟨x1,hp1,rfl⟩
   ·exact ⟨x0,hp0,rfl⟩
  have hp2:2≤p:=by rcases hc with ⟨_,q⟩|⟨_,q,_⟩<;>omega
  refine .seq ?_;refine .block ?_;refine .seq ?_;refine .drawn 11 Bf (by kernel_rfl) ?_;refine dv (Aa) ?_;refine dv (Aa) ?_;refine dv (Aa) ?_;refine dv (vsu (m:=(p:Int)) (n:=(j:Int)) (((p-j:Nat)):Int) ⟨by omega,by omega,by omega⟩) ?_;refine dv (MJ (p-j) xj rfl hA stS) ?_;refine dv (Aa) ?_;refine dv (Aa) ?_;refine dv (Aa) ?_;refine dv (vsu (m:=2) (n:=(j:Int)) (((2-j:Nat)):Int) ⟨by omega,by omega,by omega⟩) ?_;refine dv (MJ (2-j) xj rfl hB stS) ?_;refine dv (vbi) ?_;refine dz ?_;refine rn ?_;refine .gh (Gh.keep [0,1,4,7,8,9,10,12,64] rfl) ?_;refine cnf (ntf (dT (show (xj:Int)=xj from rfl))) ?_;refine .skip ?_
  show AW _ _ _ _ _ _
  refine .region ?_;refine vk (Aa) ?_;refine vk (vad (m:=(j:Int)) (n:=1) ((j+1:Nat):Int) ⟨by omega,by omega,by omega⟩) ?_;refine asd ?_;refine .nil ?_;refine AL.gh (Gh.keep [0,1,4,7,8,9,10,12] rfl) ?_
  exact ih (j+1) ⟨by omega,by omega⟩ (by omega)
 have hp2:2≤p:=by rcases hc with ⟨_,q⟩|⟨_,q,_⟩<;>omega
 refine cnf (show decide ((j:Int)<(((Utf8.encode r).size:Nat):Int))=false from dF (by rw [hes];omega)) ?_;refine .exit ?_
 show AW _ _ _ _ _ _
 refine .seq ?_;refine .seq ?_;refine .region ?_;refine vk (Aa) ?_;refine vk (Aa) ?_;refine vk (vsu (m:=(p:Int)) (n:=2) ((p:Int)-2) ⟨by omega,by omega,by omega⟩) ?_;refine asd ?_;refine rn ?_;refine .gh (Gh.keep [4] rfl) ?_;refine .ret ?_
 exact ⟨rfl,rfl⟩
theorem Mm (s:ByteArray) (r:Int) {x0 x1 x2 y2:Nat} (h0:2048≤r) (h1:r<55296) (he:Fr (Utf8.encode r)=[x0,x1,x2]) (hs:s.size≤1000) (h2:(Fr s)[2]?=some y2)
  (hc:y2≠x2) (hz:G9 (s.extract 3 s.size) x2<0):Fn Tryz.prog 85 [.s s,.i .i32 r] (.d (.i .i64 (-1))):=by
 have hes:(Utf8.encode r).size=3:=by rw [← Ei,he];rfl
 have hsub:DV.i .i64 (IntKind.i64.wrap (((Utf8.encode r).size:Int)-1))=.i .i64 2:=by rw [hes];rfl
 have hv:Cq r=some true:=by
  unfold Cq
  rw [dT (show (0:Int)≤r by omega),dT h1];rfl
 have h3:3≤s.size:=by
  have:=(lS.1 h2).1
  rw [Ei] at this;omega
 refine Fn.of (rs:=[.tmp 4]) (nt:=187) Tryz.func85 rfl rfl rfl (by simp) rfl ?_;refine .seq ?_;refine .region ?_;refine asd ?_;refine rn ?_;refine .gh (Gh.keep [0,1,4] rfl) ?_;refine .block ?_;refine .seq ?_;refine .region ?_;refine vk (Aa) ?_;refine vk (vbi) ?_
 have hb0:(decide (0≤r))=true:=dT (by omega)
 refine vk (VOK.lit (Aa) hb0) ?_;refine vk (Aa) ?_;refine vk (vbi) ?_;refine vk (Ao) ?_;refine asd ?_;refine rn ?_;refine .gh (Gh.keep [0,1,4,160] rfl) ?_;refine cnf (show decide (r<128)=false from dF (by omega)) ?_;refine .seq ?_;refine .region ?_;refine vk (Aa) ?_;refine vk (vbi) ?_;refine asd ?_;refine rn ?_;refine .gh (Gh.keep [0,1,4,171] rfl) ?_;refine cnf (show decide (r=65533)=false from dF (by omega)) ?_;refine .seq ?_;refine .region ?_;refine vk (Aa) ?_;refine vk (Aq (EU hv) Tryz.call140) ?_;refine vk (vnt) ?_;refine asd ?_;refine rn ?_;refine .gh (Gh.keep [0,1,4,183] rfl) ?_;refine Db ?_;refine .scope ?_;refine .seq ?_;refine .region ?_;refine vk (Aa) ?_;refine vk (Tz (by kernel_rfl) stS) ?_;refine asd ?_;refine rn ?_;refine .gh (Gh.keep [0,1,4,7] rfl) ?_;refine .seq ?_;refine .region ?_;refine vk (Aa) ?_;refine vk (QH stS) ?_;refine vk (OE (.i .i64 2) ⟨trivial,hsub⟩) ?_;refine asd ?_;refine rn ?_;refine .gh (Gh.keep [0,1,4,7,8] rfl) ?_;refine .seq ?_;refine .region ?_;refine vk (Aa) ?_;refine asd ?_;refine rn ?_;refine .gh (Gh.keep [0,1,4,7,8,9] rfl) ?_;refine .seq ?_;refine .region ?_;refine asd ?_;refine rn ?_;refine .gh (Gh.keep [0,1,4,7,8,9,10] rfl) ?_;refine .seq ?_;refine .block ?_
 refine .loop (.round ?_)
 refine .seq ?_;refine .seq ?_;refine .region ?_;refine vk (Aa) ?_;refine vk (Aa) ?_;refine vk (QH stS) ?_;refine vk (vbi) ?_;refine rn ?_;refine .gh (Gh.keep [0,1,4,7,8,9,10,26] rfl) ?_;refine cnt (show decide ((2:Int)<((s.size:Nat):Int))=true from dT (by omega)) ?_;refine .skip ?_
 show AW _ _ _ _ _ _
 refine .block ?_;refine .scope ?_;refine .seq ?_;refine .seq ?_;refine .drawn 7 Bf (by kernel_rfl) ?_;refine dv (Aa) ?_;refine dv (Aa) ?_;refine dv (MJ 2 y2 rfl h2 stS) ?_;refine dv (Aa) ?_;refine dv (Aa) ?_;refine dv (MJ 2 x2 rfl (by rw [he];rfl) stS) ?_;refine dv (vbi) ?_;refine dz ?_;refine rn ?_;refine .gh (Gh.keep [0,1,4,7,8,9,10,33] rfl) ?_
 have hI:=IN (s.extract 3 s.size) x2
 refine cnt (ntt (dF (show ¬(y2:Int)=x2 by omega))) ?_;refine .seq ?_;refine .drawn 8 Bf (by kernel_rfl) ?_;refine dv (Aa) ?_;refine dv (Aa) ?_;refine dv (vad 3 ⟨rfl,by decide,by decide⟩) ?_;refine dv (TG 3 ⟨rfl,h3⟩ stS) ?_;refine dv (Aa) ?_;refine dv (Aa) ?_;refine dv (MJ 2 x2 rfl (by rw [he];rfl) stS) ?_;refine dv (Aq hI Tryz.call139) ?_;refine dz ?_;refine asd ?_;refine rn ?_;refine .gh (Gh.keep [0,1,4,7,8,9,10,11] rfl) ?_;refine .seq ?_;refine .seq ?_;refine .region ?_;refine vk (Aa) ?_;refine vk (vbi) ?_;refine rn ?_;refine .gh (Gh.keep [0,1,4,7,8,9,10,11,43] rfl) ?_;refine cnt (show decide (G9 (s.extract 3 s.size) x2<0)=true from dT hz) ?_;refine .seq ?_;refine .region ?_;refine asd ?_;refine rn ?_;refine .gh (Gh.keep [4] rfl) ?_;refine .ret ?_
 exact ⟨rfl,rfl⟩
def Sk (s:ByteArray) (r:Int) : List Nat→Option Nat→Option Int
 | [x0,x1,x2],some y2=>if y2=x2 then (if 3≤s.size∧(Fr s)[1]?=some x1∧(Fr s)[0]?=some x0 then some 0 else none)
  else if G9 (s.extract 3 s.size) x2<0 then some (-1)
  else if (Fr s)[(G9 (s.extract 3 s.size) x2).toNat+2]?=some x1∧(Fr s)[(G9 (s.extract 3 s.size) x2).toNat+1]?=some x0∧(G9 (s.extract 3 s.size) x2).toNat+3<s.size then some (G9 (s.extract 3 s.size) x2+1) else none
 | _,_=>none
def Oh (s:ByteArray) (r:Int) : Option Int :=
 if s.size≤1000 then (if 0≤r∧r<128 then some (G9 s r) else if 2048≤r∧r<55296 then Sk s r (Fr (Utf8.encode r)) (Fr s)[2]? else none) else none
theorem QX {s:ByteArray} {r z:Int} (h:Oh s r=some z) : Fn Tryz.prog 85 [.s s,.i .i32 r] (.d (.i .i64 z)):=by
 unfold Oh at h
 by_cases hs:s.size≤1000
 rotate_left
 ·rw [if_neg hs] at h;cases h
 rw [if_pos hs] at h
 by_cases h1:0≤r∧r<128
 ·rw [if_pos h1] at h
  cases h
  exact MO s r h1.1 h1.2
 rw [if_neg h1] at h
 by_cases h2:2048≤r∧r<55296
 rotate_left
 ·rw [if_neg h2] at h;cases h
 rw [if_pos h2] at h
 generalize he:Fr (Utf8.encode r)=e at h
 generalize hy:(Fr s)[2]?=y at h
 unfold Sk at h
 split at h
 ·rename_i x0 x1 x2 y2
  split at h
  ·rename_i q
   split at h
   ·rename_i q2
    cases h
    exact IZ s r (p:=2) h2.1 h2.2 he hs hy (.inl ⟨q,rfl⟩) q2.2.1 q2.2.2 (by omega)
   ·cases h
  ·rename_i q
   split at h
   ·rename_i q2
    cases h
    exact Mm s r h2.1 h2.2 he hs hy q q2
   ·rename_i q2
    split at h
    ·rename_i q3
     cases h
     have e1:(((G9 (s.extract 3 s.size) x2).toNat+3:Nat):Int)-2=G9 (s.extract 3 s.size) x2+1:=by omega
     rw [← e1]
     exact IZ s r (p:=(G9 (s.extract 3 s.size) x2).toNat+3) h2.1 h2.2 he hs hy (.inr ⟨q,by omega,by omega⟩) q3.1 q3.2.1 q3.2.2
    ·cases h
 ·cases h
def I0 (s:ByteArray) (r:Int) : Option Bool:=(Oh s r).map fun z=>decide (0≤z)
theorem JW {s:ByteArray} {r:Int} {b:Bool} (h:I0 s r=some b) : Fn Tryz.prog 42 [.s s,.i .i32 r] (.d (.b b)):=by
 unfold I0 at h
 rcases hz:Oh s r with _|z
 ·rw [hz] at h;cases h
 rw [hz] at h
 cases h
 refine Fn.of (rs:=[.tmp 4]) (nt:=9) Tryz.func42 rfl rfl rfl (by simp) rfl ?_;refine .seq ?_;refine .region ?_;refine asd ?_;refine rn ?_;refine .seq ?_;refine .region ?_;refine vk (Aa) ?_;refine vk (Aa) ?_;refine vk (Aq (QX hz) Tryz.call85) ?_;refine vk (vbi) ?_;refine asd ?_;refine rn ?_;refine .ret ?_
 exact ⟨rfl,rfl⟩
def txA : ByteArray:=⟨#[226,141,180,44,226,141,170,226,134,145,226,134,147,226,140,189,226,138,150,226,141,137,47,226,140,191,92,226,141,128]⟩
example : I0 txA 8854=some true:=by kernel_rfl
example : I0 txA 9076=some true:=by kernel_rfl
example : I0 txA 92=some true:=by kernel_rfl
end Go.FL
namespace Go.FL
open Go Go.Proofs
abbrev B7 : Type:=FW (Arr×Arr×Int) (Arr×Int)
abbrev C5 (f:B7) : Prop:=f.OK Tryz.prog (fun x=>[.ag [.sl (Is x.1.shape),.sl (Its x.1.items)],.ag [.sl (Is x.2.1.shape),.sl (Its x.2.1.items)],.i .i64 x.2.2]) (fun r=>.tup [.d (.ag [.sl (Is r.1.shape),.sl (Its r.1.items)]),.d (.i .i64 r.2)])
def CK (a0:Arr) : Option ((List Int)×Int):=(if 1<((List.length a0.shape:Nat) : Int) then (some ([],4)) else ((GE a0).bind fun x1=>(if x1.2=true then (some (x1.1,0)) else (some ([],3)))))
theorem Fg {a0:Arr} {r:(List Int)×Int} (h:CK a0=some r) :
  Fn Tryz.prog 35 [.ag [.sl (Is a0.shape),.sl (Its a0.items)]] (.tup [.d (.sl (Is r.1)),.d (.i .i64 r.2)]):=by
 unfold CK at h
 refine Fn.of (rs:=[.tmp 2,.tmp 3]) (nt:=18) Tryz.func35 rfl rfl rfl (by simp) rfl ?_;refine .sr ?_;refine vk (vbx) ?_;refine asn ?_;refine ar [1,2,3] ?_;refine .seq ?_;refine .sr ?_;refine vk (vfa Av) ?_;refine vk (Al A1) ?_;refine vk (A5 (Af _) (Bs _) Bp) ?_;refine vk (vbi) ?_;refine rk [1,2,3,9] ?_
 rcases brc h with ⟨hc,h⟩|⟨hc,h⟩
 ·refine cnt (dT hc) ?_
  refine .sr ?_;refine asn ?_;refine ar [1,2,3] ?_;refine .gh (Gh.nlD (t:=2) rfl) ?_;refine .ret ?_
  cases h
  exact ⟨by decide,rfl,rfl,rfl⟩
 refine cnf (dF hc) ?_;refine .skip ?_
 show AW _ _ _ _ _ _
 refine .sr ?_;refine vk (AI Ad Ab) ?_
 obtain ⟨x1,g1,h⟩:=bnd h
 refine vk (VOK.tupd (vs:=[.sl (Is x1.1),.b x1.2]) (Aq (L5 g1) Tryz.call73)) ?_;refine vk (Aa) ?_;refine vk (vex) ?_;refine vk (vex) ?_;refine asd ?_;refine ar [2,3,4,5] ?_;refine .seq ?_;refine .sr ?_;refine vk (Aa) ?_;refine vk (vnt) ?_;refine rk [2,3,4,16] ?_
 rcases brc h with ⟨hc,h⟩|⟨hc,h⟩
 ·refine cnf (ntf hc) ?_
  refine .skip ?_
  show AW _ _ _ _ _ _
  refine .sr ?_;refine vk (Aa) ?_;refine asd ?_;refine ar [2,3] ?_;refine .ret ?_
  cases h
  exact ⟨by decide,rfl,rfl,rfl⟩
 refine cnt (ntt (bf hc)) ?_;refine .sr ?_;refine asn ?_;refine ar [2,3,4] ?_;refine .gh (Gh.nlD (t:=2) rfl) ?_;refine .ret ?_
 cases h
 exact ⟨by decide,rfl,rfl,rfl⟩
def DG (a0:Arr) (a1:Arr) : Option ((List Int)×Arr×Int):=((CK a0).bind fun x1=>(jn ((if ((List.length x1.1:Nat) : Int)=((List.length a1.shape:Nat) : Int) then (some (x1.1,a1,0)) else (some ([],(Arr.mk [] []),5)))) fun K0=>(if x1.2=0 then (if ((decide (((List.length a1.shape:Nat) : Int)=0))&&(decide (8<((List.length x1.1:Nat) : Int))))=true then (some ([],(Arr.mk [] []),4)) else (if ((List.length a1.shape:Nat) : Int)=0 then none else (K0))) else (some ([],(Arr.mk [] []),x1.2)))))
theorem Jd {a0:Arr} {a1:Arr} {r:(List Int)×Arr×Int} (h:DG a0 a1=some r) :
  Fn Tryz.prog 74 [.ag [.sl (Is a0.shape),.sl (Its a0.items)],.ag [.sl (Is a1.shape),.sl (Its a1.items)]] (.tup [.d (.sl (Is r.1)),.d (.ag [.sl (Is r.2.1.shape),.sl (Its r.2.1.items)]),.d (.i .i64 r.2.2)]):=by
 unfold DG at h
 refine Fn.ofA (rs:=[.tmp 4,.cell 5 27,.tmp 6]) (nt:=49) Tryz.func74 rfl rfl rfl (by simp) rfl ?_;refine .sr ?_;refine vk (vbx) ?_;refine vk (vbn) ?_;refine RL.gh2 (Gh.nbb (t:=3) rfl) ?_;refine asn ?_;refine vk (van (Aj Az) AC) ?_;refine ar [2,3,4,5,6] ?_;refine .sr ?_;refine vk (AI Ad Ab) ?_
 obtain ⟨x1,g1,h⟩:=bnd h
 refine vk (VOK.tupd (vs:=[.sl (Is x1.1),.i .i64 x1.2]) (Aq (Fg g1) Tryz.call35)) ?_;refine vk (Aa) ?_;refine vk (vex) ?_;refine vk (vex) ?_;refine asd ?_;refine ar [3,4,5,6,7,8] ?_
 obtain ⟨K0,hK0,h⟩:=A7 h
 refine AW.mj (σ:=Unit) (fun p=>K0=some r) (fun p=>[(3,.bp 0 0),(4,.nl),(5,.nb [.sl (Is []),.sl (Its [])]),(6,.d (.i .i64 0)),(7,.d (.sl (Is x1.1)))]) (fun p=>[HO.box [.d (.sl (Is a1.shape)),.d (.sl (Its a1.items))]]) ?_ ?_
 ·skip
  refine .block ?_;refine .sr ?_;refine vk (Aa) ?_;refine vk (vbi) ?_;refine ar [3,4,5,6,7,8,14] ?_
  rcases brc h with ⟨hc,h⟩|⟨hc,h⟩
  ·refine cnf (ntf (dT hc)) ?_
   refine .seq ?_;refine AW.mr (σ:=Unit) (fun _=>True) (fun _=>[(3,.bp 0 0),(4,.nl),(5,.nb [.sl (Is []),.sl (Its [])]),(6,.d (.i .i64 0)),(7,.d (.sl (Is x1.1))),(19,.d (.b ((decide (((List.length a1.shape:Nat):Int)=0))&&(decide (8<((List.length x1.1:Nat):Int))))))]) (fun _=>[HO.box [.d (.sl (Is a1.shape)),.d (.sl (Its a1.items))]]) ?_ ?_
   ·skip
    refine .region ?_;refine vk (Dr Av) ?_;refine vk (J5 (cs:=[.d (.sl (Is a1.shape)),.d (.sl (Its a1.items))]) (c:=.sl (Is a1.shape)) rfl rfl A1) ?_;refine vk (A5 (Af _) (Bs _) Bp) ?_;refine vk (vbi) ?_
    by_cases hc:((List.length a1.shape:Nat):Int)=0
    ·have hb0:(decide (((List.length a1.shape:Nat):Int)=0))=true:=(dT hc)
     refine vk (VOK.lit (Aa) hb0) ?_;refine vk (Aa) ?_;refine vk (A5 (Af _) (Bs _) Bp) ?_;refine vk (vbi) ?_;refine vk (Ao) ?_;refine asd ?_;refine RL.gk [3,4,5,6,7,19] ?_;refine .nil ?_
     exact jr () trivial (by simp only [hb0];rfl) (by (try simp only [hb0]);rfl)
    have hb0:(decide (((List.length a1.shape:Nat):Int)=0))=false:=(dF hc)
    refine vk (VOK.lit (Aa) hb0) ?_;refine gf ?_;refine gf ?_;refine gf ?_;refine vk (Ao) ?_;refine asd ?_;refine RL.gk [3,4,5,6,7,19] ?_;refine .nil ?_
    exact jr () trivial (by simp only [hb0];rfl) (by (try simp only [hb0]);rfl)
   rintro _ _
   rcases brc h with ⟨hc,h⟩|⟨hc,h⟩
   ·refine cnt hc ?_
    refine .sr ?_;refine vk (vbd Ce Az AC) ?_;refine asn ?_
    refine stn ?_ Ab (by decide)
    refine ar [3,4,5,6,7] ?_;refine .gh (Gh.nlD (t:=4) rfl) ?_;refine .ret ?_
    cases h
    exact ⟨_,_,_,rfl,⟨_,⟨.inr rfl,Ad,Ab,p2⟩,rfl⟩,rfl,rfl⟩
   refine cnf (bf hc) ?_;refine .sr ?_;refine vk (Dr Av) ?_;refine vk (J5 (cs:=[.d (.sl (Is a1.shape)),.d (.sl (Its a1.items))]) (c:=.sl (Is a1.shape)) rfl rfl A1) ?_;refine vk (A5 (Af _) (Bs _) Bp) ?_;refine vk (vbi) ?_;refine ar [3,4,5,6,7,30] ?_
   rcases brc h with ⟨hc,h⟩|⟨hc,h⟩
   ·refine cnt (dT hc) ?_
    refine .region ?_;refine vk ((Kq (DP [1]) CS).deep) ?_;refine vk (Aa) ?_;refine vk (A5 (Af _) (Bs _) Bp) ?_
    exact nomatch h
   refine cnf (dF hc) ?_;refine .gk [3,4,5,6,7] ?_;refine .skip ?_
   exact jr () h
  refine cnt (ntt (dF hc)) ?_;refine .sr ?_;refine vk (vbd Ce Az AC) ?_;refine vk (Aa) ?_;refine asn ?_
  refine stn ?_ Ab (by decide)
  refine ar [3,4,5,6,7] ?_;refine .gh (Gh.nlD (t:=4) rfl) ?_;refine .ret ?_
  cases h
  exact ⟨_,_,_,rfl,⟨_,⟨.inr rfl,Ad,Ab,p2⟩,rfl⟩,rfl,rfl⟩
 rintro _ h
 subst hK0
 refine .seq ?_;refine .sr ?_;refine vk (Aa) ?_;refine vk (A5 (Af _) (Bs _) Bp) ?_;refine vk (Dr Av) ?_;refine vk (J5 (cs:=[.d (.sl (Is a1.shape)),.d (.sl (Its a1.items))]) (c:=.sl (Is a1.shape)) rfl rfl A1) ?_;refine vk (A5 (Af _) (Bs _) Bp) ?_;refine vk (vbi) ?_;refine rk [3,4,5,6,7,45] ?_
 rcases brc h with ⟨hc,h⟩|⟨hc,h⟩
 ·refine cnf (ntf (dT hc)) ?_
  refine .skip ?_
  show AW _ _ _ _ _ _
  refine .seq ?_;refine .drawnF 2 [1] [(4,.d (.sl (Is x1.1)))] [HO.box [.d (.sl (Is a1.shape)),.d (.sl (Its a1.items))]] Bf (by kernel_rfl) rfl ?_;refine dv (Aa) ?_;refine dv (Ga (cs:=[.d (.sl (Is a1.shape)),.d (.sl (Its a1.items))]) (ds:=[.sl (Is a1.shape),.sl (Its a1.items)]) rfl Ad Ab) ?_;refine dz ?_
  refine ⟨?_,?_,?_⟩
  ·intro k hk
   simp only [List.mem_cons,List.not_mem_nil,or_false] at hk
   subst hk
   exact ⟨_,_,_,rfl,rfl,rfl,rfl,rfl,rfl,(Ga (cs:=[.d (.sl (Is a1.shape)),.d (.sl (Its a1.items))]) (ds:=[.sl (Is a1.shape),.sl (Its a1.items)]) rfl Ad Ab)⟩
  ·intro om e hom hge
   cases hom
   exact Tm rfl ((hge 47 (fun k hk v hv=>by
     simp only [List.mem_cons,List.not_mem_nil,or_false] at hk
     subst hk;exact (by decide:¬(some 48=some 47)) (congrArg (Option.map Prod.fst) hv))).trans rfl) rfl ((congrArg Ah (hge 4 (fun k hk v hv=>by
     simp only [List.mem_cons,List.not_mem_nil,or_false] at hk
     subst hk;exact (by decide:¬(some 48=some 4)) (congrArg (Option.map Prod.fst) hv)))).trans rfl) rfl ⟨rfl,rfl⟩
  refine stn ?_ Ab (by decide)
  refine ar [4,5,6] ?_;refine .ret ?_
  cases h
  exact ⟨_,_,_,rfl,⟨_,⟨.inr rfl,Ad,Ab,p2⟩,rfl⟩,rfl,rfl⟩
 refine cnt (ntt (dF hc)) ?_;refine .sr ?_;refine vk (vbd Ce Az AC) ?_;refine asn ?_
 refine stn ?_ Ab (by decide)
 refine ar [3,4,5,6,7] ?_;refine .gh (Gh.nlD (t:=4) rfl) ?_;refine .ret ?_
 cases h
 exact ⟨_,_,_,rfl,⟨_,⟨.inr rfl,Ad,Ab,p2⟩,rfl⟩,rfl,rfl⟩
def CC (a0:(List Int)) (c0:Int) (c1:(List Int)) : Option (Int):=((C1 c1 a0).bind fun x1=>(some ((w64 (c0+x1)))))
theorem Jg {a0:(List Int)} {c0:Int} {c1:(List Int)} {r:Int} (h:CC a0 c0 c1=some r) :
  Fn Tryz.prog 78 [.sl (Is a0),.ptr [.i .i64 c0],.ptr [.sl (Is c1)]] (.d (.i .i64 r)):=by
 unfold CC at h
 refine Fn.o1 4 10 Tryz.func78 ?_;refine .sr ?_;refine ar [0,1,2,4] ?_;refine .seq ?_;refine .drawn 5 Bf (by kernel_rfl) ?_;refine dv (Al AF) ?_;refine dv (Al A1) ?_;refine dv (Aa) ?_
 obtain ⟨x1,g1,h⟩:=bnd h
 refine dv (Aq (ED g1) Tryz.call79) ?_;refine dv (vbi) ?_;refine dz ?_;refine ar [4] ?_;refine .ret ?_
 cases h
 exact ⟨rfl,rfl⟩
def BC (x1:(List Int)×Arr×Int) (x3:(List Int)) (K0:(List Int)→Int→Option (Arr×Int)) : Nat→(List Int)→Int→Int→Option (Arr×Int)
 | 0,_,_,_=>none
 | k+1,s6,s7,s8=>(if s7<((List.length x1.1:Nat):Int) then (jn (fun (z9:(List Int)) (z10:Int)=>(BC x1 x3 K0 k z9 (w64 (s7+1)) z10)) fun K2=>((rd? x1.1 s7).bind fun x11=>((rd? x1.2.1.shape s7).bind fun x12=>(if 0≤x11 then ((rd? x3 s7).bind fun x13=>((rd? s6 s7).bind fun x14=>(K2 (List.set s6 (Int.toNat s7) (w64 (x12-(if x12<x11 then x12 else x11)))) (w64 (s8+(w64 (x13 * (if x12<x11 then x12 else x11)))))))) else ((rd? s6 s7).bind fun x15=>(K2 (List.set s6 (Int.toNat s7) (if (w64 (x12+(if x11<(IntKind.wrap .i64 (0-x12)) then (IntKind.wrap .i64 (0-x12)) else x11)))<0 then 0 else (w64 (x12+(if x11<(IntKind.wrap .i64 (0-x12)) then (IntKind.wrap .i64 (0-x12)) else x11))))) s8)))))) else (K0 s6 s8))
def Bv (a0:Arr) (a1:Arr) : Option (Arr×Int):=((DG a0 a1).bind fun x1=>(if x1.2.2=0 then ((Et (0≤((List.length x1.1:Nat) : Int)∧((List.length x1.1:Nat) : Int)≤17592186044416)).bind fun x2=>((BV x1.2.1.shape).bind fun x3=>(jn (fun (z4:(List Int)) (z5:Int)=>((Bj x1.2.1 z4 (⟨.fn 78 [] [.ptr [.i .i64 z5],.ptr [.sl (Is x3)]],fun x=>CC x z5 x3⟩ : Cg)).bind fun x16=>(some (x16.1,x16.2)))) fun K0=>(BC x1 x3 K0 AT (List.replicate (Int.toNat ((List.length x1.1:Nat) : Int)) (0:Int)) 0 0)))) else (some ((Arr.mk [] []),x1.2.2))))
theorem KC {a0:Arr} {a1:Arr} {r:Arr×Int} (h:Bv a0 a1=some r) :
  Fn Tryz.prog 37 [.ag [.sl (Is a0.shape),.sl (Its a0.items)],.ag [.sl (Is a1.shape),.sl (Its a1.items)]] (.tup [.d (.ag [.sl (Is r.1.shape),.sl (Its r.1.items)]),.d (.i .i64 r.2)]):=by
 unfold Bv at h
 refine Fn.ofC (rs:=[.cell 4 27,.tmp 5]) (nt:=80) Tryz.func37 rfl rfl rfl (by simp) rfl ?_;refine .sr ?_;refine vk (vbx) ?_;refine vk (vbn) ?_;refine vk (van (Aj Az) AC) ?_;refine ar [2,3,4,5] ?_;refine .sr ?_;refine vk (AI Ad Ab) ?_;refine vk (Ge Ad Ab) ?_
 obtain ⟨x1,g1,h⟩:=bnd h
 refine vk (VOK.tupd (vs:=[.sl (Is x1.1),.ag [.sl (Is x1.2.1.shape),.sl (Its x1.2.1.items)],.i .i64 x1.2.2]) (Aq (Jd g1) Tryz.call74)) ?_;refine vk (Aa) ?_;refine vk (vex) ?_;refine vk (vex) ?_;refine vk (vex) ?_;refine asd ?_
 refine stn ?_ Ab (by decide)
 refine ar [3,4,5,6,7] ?_;refine .seq ?_;refine .sr ?_;refine vk (Aa) ?_;refine vk (vbi) ?_;refine rk [3,4,5,6,7,22] ?_
 rcases brc h with ⟨hc,h⟩|⟨hc,h⟩
 ·refine cnf (ntf (dT hc)) ?_
  refine .skip ?_
  show AW _ _ _ _ _ _
  refine .sr ?_;refine vk (Aa) ?_;refine vk (A5 (Af _) (Bs _) Bp) ?_
  obtain ⟨x2,g2,h⟩:=bnd h
  have ghx2:=DI g2
  refine mk' (F:=Is) (x0:=0) (zl:=((List.length x1.1:Nat):Int)) (Int.toNat ((List.length x1.1:Nat):Int)) Ic (by omega) (by omega) ?_ CS (by decide)
  refine aso ?_;refine rk [3,4,5,6,8] ?_;refine .sr ?_
  refine al ?_ (Aj S4) (fun w I μ=>Ri w I μ)
  refine stb (cs:=[.d (.i .i64 0)]) (c:=.d (.i .i64 0)) rfl rfl ?_ CO
  refine rk [3,4,5,6,8,9] ?_;refine .seq ?_;refine .gh (Gh.nbp (t:=3) rfl) ?_;refine .region ?_;refine vk (vfa Av) ?_;refine vk (Al A1) ?_
  obtain ⟨x3,g3,h⟩:=bnd h
  refine vk (Aq (C4 g3) Tryz.call75) ?_;refine vk (van (Aj NV) Sp) ?_
  refine TK ?_ MC
  refine RL.gh (Gh.nbp (t:=10) rfl) ?_;refine rk [3,4,5,6,8,9,10] ?_;refine .seq ?_;refine .sr ?_;refine vk (Aa) ?_;refine vk (A5 (Af _) (Bs _) Bp) ?_;refine vk (Aa) ?_;refine rk [3,4,5,8,9,10,31,32,33] ?_
  obtain ⟨K0,hK0,h⟩:=A7 h
  refine AW.mr (σ:=(List Int)×Int) (fun p=>K0 p.1 p.2=some r) (fun p=>[(3,.d (.ptr [.sl (Is x1.2.1.shape),.sl (Its x1.2.1.items)])),(4,.nb [.sl (Is []),.sl (Its [])]),(5,.d (.i .i64 0)),(8,.own 3 (Is p.1)),(9,.bp 0 0),(10,.d (.ptr [.sl (Is x3)]))]) (fun p=>[HO.box [.d (.i .i64 p.2)]]) ?_ ?_
  ·skip
   refine .block ?_
   refine .loop (.gk [3,4,5,8,9,10,31,32,33] ?_)
   refine AL.ind (σ:=Nat×(List Int)×Int×Int) (m:=fun p=>p.1) (e:=fun p=>[(3,.d (.ptr [.sl (Is x1.2.1.shape),.sl (Its x1.2.1.items)])),(4,.nb [.sl (Is []),.sl (Its [])]),(5,.d (.i .i64 0)),(8,.own 3 (Is p.2.1)),(9,.bp 0 0),(10,.d (.ptr [.sl (Is x3)])),(31,.d (.sl (Is x1.1))),(32,.d (.i .i64 ((List.length x1.1:Nat):Int))),(33,.d (.i .i64 p.2.2.1))]) (h:=fun p=>[HO.box [.d (.i .i64 p.2.2.2)]]) (I:=fun p=>BC x1 x3 K0 p.1 p.2.1 p.2.2.1 p.2.2.2=some r) ?_ (AT,(List.replicate (Int.toNat ((List.length x1.1:Nat):Int)) (0:Int)),0,0) h
   rintro ⟨k,s6,s7,s8⟩ h ih
   dsimp only at h ih ⊢
   rcases k with _|k
   ·rw [BC] at h;cases h
   rw [BC] at h
   refine .sr ?_;refine vk (vbi) ?_;refine rk [3,4,5,8,9,10,31,32,33,34] ?_;refine .seq ?_
   rcases brc h with ⟨hc,h⟩|⟨hc,h⟩
   ·refine cnt (dT hc) ?_
    refine .skip ?_
    show AW _ _ _ _ _ _
    obtain ⟨K2,hK2,h⟩:=A7 h
    refine AW.mj (σ:=(List Int)×Int) (fun p=>K2 p.1 p.2=some r) (fun p=>[(3,.d (.ptr [.sl (Is x1.2.1.shape),.sl (Its x1.2.1.items)])),(4,.nb [.sl (Is []),.sl (Its [])]),(5,.d (.i .i64 0)),(8,.own 3 (Is p.1)),(9,.bp 0 0),(10,.d (.ptr [.sl (Is x3)])),(31,.d (.sl (Is x1.1))),(32,.d (.i .i64 ((List.length x1.1:Nat):Int))),(33,.d (.i .i64 s7))]) (fun p=>[HO.box [.d (.i .i64 p.2)]]) ?_ ?_
    ·skip
     refine .block ?_;refine .sr ?_;refine vk (Aa) ?_
     obtain ⟨x11,g11,h⟩:=bnd h
     obtain ⟨n11,p011,q11⟩:=Ak g11
     refine vk (vix n11 p011 (Be q11) rfl A8) ?_;refine vk (Al AF) ?_;refine asd ?_;refine ar [3,4,5,8,9,10,11,12,31,32,33] ?_;refine .sr ?_;refine vk (vfa Av) ?_;refine vk (Al A1) ?_;refine vk (Aa) ?_
     obtain ⟨x12,g12,h⟩:=bnd h
     obtain ⟨n12,p012,q12⟩:=Ak g12
     refine vk (vix n12 p012 (Be q12) rfl A8) ?_;refine vk (Al AF) ?_;refine ar [3,4,5,8,9,10,11,12,13,31,32,33] ?_;refine .sr ?_;refine vk (Aa) ?_;refine vk (vbi) ?_;refine rk [3,4,5,8,9,10,11,12,13,31,32,33,44] ?_
     rcases brc h with ⟨hc,h⟩|⟨hc,h⟩
     ·refine cnt (dT hc) ?_
      refine .seq ?_;refine .drawn 10 Bf (by kernel_rfl) ?_;refine dv (J5 (cs:=[.d (.i .i64 s8)]) (c:=.i .i64 s8) rfl rfl AF) ?_;refine dv (Al A1) ?_;refine dv (Aa) ?_
      obtain ⟨x13,g13,h⟩:=bnd h
      obtain ⟨n13,p013,q13⟩:=Ak g13
      refine dv (vix n13 p013 (Be q13) rfl A8) ?_;refine dv (Al AF) ?_;refine dv (Aa) ?_;refine dv (Aa) ?_;refine dv (vmn) ?_;refine dv (vbi) ?_;refine dv (vbi) ?_;refine dz ?_
      refine stb (cs:=[.d (.i .i64 s8)]) (c:=.d (.i .i64 s8)) rfl rfl ?_ CO
      refine rk [3,4,5,8,9,10,11,12,13,31,32,33] ?_;refine .region ?_;refine mvo ?_;refine vk (Aa) ?_;refine vk (Aa) ?_;refine vk (Aa) ?_;refine vk (Aa) ?_;refine vk (vmn) ?_;refine vk (vbi) ?_
      obtain ⟨x14,g14,h⟩:=bnd h
      obtain ⟨n14,p014,q14⟩:=Ak g14
      refine ixr (off:=0) (len:=(Is s6).length) n14 p014 (by rw [Af];exact (lS.1 q14).1) ?_ A8 (by decide)
      refine Ls (F:=Is) (D:=fun x=>.i .i64 x) F6 (us:=s6) (n:=n14) (m:=Int.toNat s7) (x:=(w64 (x12-(if x12<x11 then x12 else x11)))) (by rw [p014];rfl) ⟨_,by rw [Nat.zero_add];exact Be q14,rfl⟩ ?_ CO
      refine RL.gk [3,4,5,8,9,10,11,12,13,31,32,33,56,57,58,59,60,61] ?_;refine RL.gk [3,4,5,8,9,10,31,32,33] ?_;refine .nil ?_
      exact jr ((List.set s6 (Int.toNat s7) (w64 (x12-(if x12<x11 then x12 else x11)))),(w64 (s8+(w64 (x13 * (if x12<x11 then x12 else x11)))))) h
     refine cnf (dF hc) ?_;refine .region ?_;refine mvo ?_;refine vk (Aa) ?_;refine vk (Aa) ?_;refine vk (Aa) ?_;refine vk (Aa) ?_;refine vk (vng) ?_;refine vk (vmx) ?_;refine vk (vbi) ?_;refine vk (vmx) ?_
     obtain ⟨x15,g15,h⟩:=bnd h
     obtain ⟨n15,p015,q15⟩:=Ak g15
     refine ixr (off:=0) (len:=(Is s6).length) n15 p015 (by rw [Af];exact (lS.1 q15).1) ?_ A8 (by decide)
     refine Ls (F:=Is) (D:=fun x=>.i .i64 x) F6 (us:=s6) (n:=n15) (m:=Int.toNat s7) (x:=(if (w64 (x12+(if x11<(IntKind.wrap .i64 (0-x12)) then (IntKind.wrap .i64 (0-x12)) else x11)))<0 then 0 else (w64 (x12+(if x11<(IntKind.wrap .i64 (0-x12)) then (IntKind.wrap .i64 (0-x12)) else x11))))) (by rw [p015];rfl) ⟨_,by rw [Nat.zero_add];exact Be q15,rfl⟩ ?_ CO
     refine RL.gk [3,4,5,8,9,10,11,12,13,31,32,33,44,64,65,66,67,68,69,70,71] ?_;refine RL.gk [3,4,5,8,9,10,31,32,33] ?_;refine .nil ?_
     exact jr ((List.set s6 (Int.toNat s7) (if (w64 (x12+(if x11<(IntKind.wrap .i64 (0-x12)) then (IntKind.wrap .i64 (0-x12)) else x11)))<0 then 0 else (w64 (x12+(if x11<(IntKind.wrap .i64 (0-x12)) then (IntKind.wrap .i64 (0-x12)) else x11))))),s8) h
    rintro ⟨z9,z10⟩ h
    try dsimp only at h ⊢
    subst hK2
    refine .region ?_;refine vk (vbi) ?_;refine vk (Aa) ?_;refine .nil ?_;refine AL.gk [3,4,5,8,9,10,31,32,33] ?_
    exact ih (k,z9,(w64 (s7+1)),z10) h (Nat.lt_succ_self _)
   refine cnf (dF hc) ?_;refine .gk [3,4,5,8,9,10] ?_;refine .exit ?_
   exact jr (s6,s8) h
  rintro ⟨z4,z5⟩ h
  try dsimp only at h ⊢
  subst hK0
  show AW _ _ _ _ _ _
  refine .sr ?_;refine vk (AI Ad Ab) ?_;refine fz (p:=.t 8) ?_;refine vk (Aa) ?_;refine RL.gh2 (Gh2.pop (H0:=[]) (cs:=[.i .i64 z5]) rfl rfl rfl rfl) ?_;refine vk (RP) ?_
  obtain ⟨x16,g16,h⟩:=bnd h
  refine vk (VOK.tupd (vs:=[.ag [.sl (Is x16.1.shape),.sl (Its x16.1.items)],.i .i64 x16.2]) (Aq (EH (DZ Tryz.call78 (fun _ _ h=>Jg h)) g16) Tryz.call76)) ?_;refine vk (vex) ?_;refine vk (vex) ?_
  refine stn ?_ Ab (by decide)
  refine ar [4,5] ?_;refine .ret ?_
  cases h
  exact ⟨_,_,⟨.inr rfl,Ad,Ab,p2⟩,rfl,rfl⟩
 refine cnt (ntt (dF hc)) ?_;refine .sr ?_;refine vk (vbd Ce Az AC) ?_;refine vk (Aa) ?_
 refine stn ?_ Ab (by decide)
 refine ar [3,4,5,6] ?_;refine .ret ?_
 cases h
 exact ⟨_,_,⟨.inr rfl,Ad,Ab,p2⟩,rfl,rfl⟩
def Cz (x2:Int×Bool) (x4:Int) (K0:(List Int)→Option (Arr×Int)) : Nat→(List Int)→Int→Option (Arr×Int)
 | 0,_,_=>none
 | k+1,s7,s8=>(if s8<((List.length (List.replicate (Int.toNat x4) (0:Int)):Nat):Int) then ((Et (x4≠0)).bind fun x9=>((Et (x4≠0)).bind fun x10=>((Et (x4≠0)).bind fun x11=>((rd? s7 s8).bind fun x12=>(Cz x2 x4 K0 k (List.set s7 (Int.toNat s8) (Int.tmod (w64 ((Int.tmod (w64 (s8+(Int.tmod x2.1 x4))) x4)+x4)) x4)) (w64 (s8+1))))))) else (K0 s7))
def Ea (a0:Arr) (a1:Arr) (a2:Int) : Option (Arr×Int):=((Ck a0.shape).bind fun x1=>(if x1.1=1 then ((Gj a0).bind fun x2=>(if x2.2=true then (if ((List.length a1.shape:Nat) : Int)=0 then ((FH a1).bind fun x3=>(some (x3,0))) else ((rd? a1.shape a2).bind fun x4=>((Et (0≤x4∧x4≤17592186044416)).bind fun x5=>(jn (fun (z6:(List Int))=>((E3 a1 a2 z6).bind fun x13=>(some (x13.1,x13.2)))) fun K0=>(Cz x2 x4 K0 AT (List.replicate (Int.toNat x4) (0:Int)) 0))))) else (some ((Arr.mk [] []),3)))) else (some ((Arr.mk [] []),5))))
theorem Fh {a0:Arr} {a1:Arr} {a2:Int} {r:Arr×Int} (h:Ea a0 a1 a2=some r) :
  Fn Tryz.prog 82 [.ag [.sl (Is a0.shape),.sl (Its a0.items)],.ag [.sl (Is a1.shape),.sl (Its a1.items)],.i .i64 a2] (.tup [.d (.ag [.sl (Is r.1.shape),.sl (Its r.1.items)]),.d (.i .i64 r.2)]):=by
 unfold Ea at h
 refine Fn.ofC (rs:=[.cell 6 27,.tmp 7]) (nt:=73) Tryz.func82 rfl rfl rfl (by simp) rfl ?_;refine .sr ?_;refine vk (vbx) ?_;refine vk (vbx) ?_;refine vk (van (Aj Az) AC) ?_;refine ar [2,3,4,6,7] ?_;refine .seq ?_;refine .sr ?_;refine vk (vfa Av) ?_;refine vk (Al A1) ?_
 obtain ⟨x1,g1,h⟩:=bnd h
 refine vk (VOK.tupd (vs:=[.i .i64 x1.1,.i .i64 x1.2]) (Aq (CJ g1) Tryz.call26)) ?_;refine vk (Aa) ?_;refine vk (vex) ?_;refine vk (vex) ?_;refine asd ?_;refine ar [2,3,4,6,7,8] ?_;refine .sr ?_;refine vk (Aa) ?_;refine vk (vbi) ?_;refine rk [2,3,4,6,7,22] ?_
 rcases brc h with ⟨hc,h⟩|⟨hc,h⟩
 ·refine cnf (ntf (dT hc)) ?_
  refine .skip ?_
  show AW _ _ _ _ _ _
  refine .sr ?_;refine vk (AI Ad Ab) ?_
  obtain ⟨x2,g2,h⟩:=bnd h
  refine vk (VOK.tupd (vs:=[.i .i64 x2.1,.b x2.2]) (Aq (Kl g2) Tryz.call133)) ?_;refine vk (Aa) ?_;refine vk (vex) ?_;refine vk (vex) ?_;refine asd ?_;refine ar [2,4,6,7,10,11] ?_;refine .seq ?_;refine .block ?_;refine .sr ?_;refine vk (Aa) ?_;refine vk (vnt) ?_;refine ar [2,4,6,7,10,29] ?_
  rcases brc h with ⟨hc,h⟩|⟨hc,h⟩
  ·refine cnf (ntf hc) ?_
   refine .sr ?_;refine vk (vfa Av) ?_;refine vk (Al A1) ?_;refine vk (A5 (Af _) (Bs _) Bp) ?_;refine vk (vbi) ?_;refine ar [2,4,6,7,10,33] ?_
   rcases brc h with ⟨hc,h⟩|⟨hc,h⟩
   ·refine cnt (dT hc) ?_
    refine .sr ?_;refine vk (AI Ad Ab) ?_
    obtain ⟨x3,g3,h⟩:=bnd h
    refine vk (Aq (G6 g3) Tryz.call134) ?_
    refine stn ?_ Ab (by decide)
    refine ar [2,4,6,7,10] ?_;refine .ret ?_
    cases h
    exact ⟨_,_,⟨.inr rfl,Ad,Ab,p2⟩,rfl,rfl⟩
   refine cnf (dF hc) ?_;refine .skip ?_
   show AW _ _ _ _ _ _
   refine .sr ?_;refine vk (vfa Av) ?_;refine vk (Al A1) ?_;refine vk (Aa) ?_
   obtain ⟨x4,g4,h⟩:=bnd h
   obtain ⟨n4,p04,q4⟩:=Ak g4
   refine vk (vix n4 p04 (Be q4) rfl A8) ?_;refine vk (Al AF) ?_;refine ar [2,4,6,7,10,12] ?_;refine .sr ?_;refine vk (Aa) ?_
   obtain ⟨x5,g5,h⟩:=bnd h
   have ghx5:=DI g5
   refine mk' (F:=Is) (x0:=0) (zl:=x4) (Int.toNat x4) Ic (by omega) (by omega) ?_ CS (by decide)
   refine aso ?_;refine rk [2,4,6,7,10,12,13] ?_;refine .seq ?_;refine .sr ?_;refine mvo ?_;refine vk (Sh (Af _) Bp) ?_;refine vk (Aa) ?_;refine rk [2,4,6,7,10,12,13,48,49] ?_
   obtain ⟨K0,hK0,h⟩:=A7 h
   refine AW.mr (σ:=(List Int)) (fun p=>K0 p=some r) (fun p=>[(2,.d (.i .i64 a2)),(4,.d (.ptr [.sl (Is a1.shape),.sl (Its a1.items)])),(6,.nb [.sl (Is []),.sl (Its [])]),(7,.d (.i .i64 0)),(13,.own 3 (Is p))]) (fun p=>[]) ?_ ?_
   ·skip
    refine .block ?_
    refine .loop (.gk [2,4,6,7,10,12,13,48,49] ?_)
    refine AL.ind (σ:=Nat×(List Int)×Int) (m:=fun p=>p.1) (e:=fun p=>[(2,.d (.i .i64 a2)),(4,.d (.ptr [.sl (Is a1.shape),.sl (Its a1.items)])),(6,.nb [.sl (Is []),.sl (Its [])]),(7,.d (.i .i64 0)),(10,.d (.i .i64 x2.1)),(12,.d (.i .i64 x4)),(13,.own 3 (Is p.2.1)),(48,.d (.i .i64 ((List.length (List.replicate (Int.toNat x4) (0:Int)):Nat):Int))),(49,.d (.i .i64 p.2.2))]) (h:=fun p=>[]) (I:=fun p=>Cz x2 x4 K0 p.1 p.2.1 p.2.2=some r) ?_ (AT,(List.replicate (Int.toNat x4) (0:Int)),0) h
    rintro ⟨k,s7,s8⟩ h ih
    dsimp only at h ih ⊢
    rcases k with _|k
    ·rw [Cz] at h;cases h
    rw [Cz] at h
    refine .sr ?_;refine vk (vbi) ?_;refine rk [2,4,6,7,10,12,13,48,49,50] ?_;refine .seq ?_
    rcases brc h with ⟨hc,h⟩|⟨hc,h⟩
    ·refine cnt (dT hc) ?_
     refine .skip ?_
     show AW _ _ _ _ _ _
     refine .seq ?_;refine .block ?_;refine .sr ?_;refine vk (Aa) ?_;refine ar [2,4,6,7,10,12,13,14,48,49] ?_;refine .region ?_;refine mvo ?_;refine vk (Aa) ?_;refine vk (Aa) ?_;refine vk (Aa) ?_;refine vk (Aa) ?_
     obtain ⟨x9,g9,h⟩:=bnd h
     refine vk (Ks (DI g9)) ?_;refine vk (vbi) ?_;refine vk (Aa) ?_
     obtain ⟨x10,g10,h⟩:=bnd h
     refine vk (Ks (DI g10)) ?_;refine vk (Aa) ?_;refine vk (vbi) ?_;refine vk (Aa) ?_
     obtain ⟨x11,g11,h⟩:=bnd h
     refine vk (Ks (DI g11)) ?_
     obtain ⟨x12,g12,h⟩:=bnd h
     obtain ⟨n12,p012,q12⟩:=Ak g12
     refine ixr (off:=0) (len:=(Is s7).length) n12 p012 (by rw [Af];exact (lS.1 q12).1) ?_ A8 (by decide)
     refine Ls (F:=Is) (D:=fun x=>.i .i64 x) F6 (us:=s7) (n:=n12) (m:=Int.toNat s8) (x:=(Int.tmod (w64 ((Int.tmod (w64 (s8+(Int.tmod x2.1 x4))) x4)+x4)) x4)) (by rw [p012];rfl) ⟨_,by rw [Nat.zero_add];exact Be q12,rfl⟩ ?_ CO
     refine RL.gk [2,4,6,7,10,12,13,14,48,49,53,54,55,56,57,58,59,60,61,62,63,64] ?_;refine .nil ?_
     show AW _ _ _ _ _ _
     refine .gk [2,4,6,7,10,12,13,48,49] ?_;refine .region ?_;refine vk (vbi) ?_;refine vk (Aa) ?_;refine .nil ?_;refine AL.gk [2,4,6,7,10,12,13,48,49] ?_
     exact ih (k,(List.set s7 (Int.toNat s8) (Int.tmod (w64 ((Int.tmod (w64 (s8+(Int.tmod x2.1 x4))) x4)+x4)) x4)),(w64 (s8+1))) h (Nat.lt_succ_self _)
    refine cnf (dF hc) ?_;refine .gk [2,4,6,7,13] ?_;refine .exit ?_
    exact jr (s7) h
   rintro z6 h
   try dsimp only at h ⊢
   subst hK0
   show AW _ _ _ _ _ _
   refine .sr ?_;refine vk (AI Ad Ab) ?_;refine vk (Aa) ?_;refine fz (p:=.t 13) ?_;refine vk (Aa) ?_
   obtain ⟨x13,g13,h⟩:=bnd h
   refine vk (VOK.tupd (vs:=[.ag [.sl (Is x13.1.shape),.sl (Its x13.1.items)],.i .i64 x13.2]) (Aq (Gy g13) Tryz.call135)) ?_;refine vk (vex) ?_;refine vk (vex) ?_
   refine stn ?_ Ab (by decide)
   refine ar [6,7] ?_;refine .ret ?_
   cases h
   exact ⟨_,_,⟨.inr rfl,Ad,Ab,p2⟩,rfl,rfl⟩
  refine cnt (ntt (bf hc)) ?_;refine .sr ?_;refine vk (vbd Ce Az AC) ?_
  refine stn ?_ Ab (by decide)
  refine ar [2,4,6,7,10] ?_;refine .ret ?_
  cases h
  exact ⟨_,_,⟨.inr rfl,Ad,Ab,p2⟩,rfl,rfl⟩
 refine cnt (ntt (dF hc)) ?_;refine .sr ?_;refine vk (vbd Ce Az AC) ?_
 refine stn ?_ Ab (by decide)
 refine ar [2,3,4,6,7] ?_;refine .ret ?_
 cases h
 exact ⟨_,_,⟨.inr rfl,Ad,Ab,p2⟩,rfl,rfl⟩
theorem KT {xs:List Arr} {f:Bn} {p:Arr→Bool} (hf:∀ x∈xs,f.g x=some (p x)) (K:Int→Option Int) (hl:xs.length≤17592186044416) : ∀ (n i k:Nat) (s:Int),n=xs.length-i→i≤xs.length→n<k →
  Ap xs f K k s (i:Int)=match (xs.drop i).findIdx? p with|some j=>some (((i+j:Nat)):Int)|none=>K s
 | n,i,0,s,_,_,h=>by omega
 | n,i,k+1,s,hn,hi,hk=>by
  rw [Ap]
  by_cases hlt:i<xs.length
  ·rw [if_pos (by omega),Cp hlt,oB,hf _ (List.getElem_mem _),oB,lC hlt,List.findIdx?_cons]
   by_cases hp:p xs[i]=true
   ·rw [if_pos hp,if_pos hp];rfl
   ·rw [if_neg hp,if_neg hp,Cm (by omega),KT hf K hl (n-1) (i+1) k s (by omega) (by omega) (by omega)]
    cases (xs.drop (i+1)).findIdx? p with
    | none=>rfl
    | some j=>simp only [Option.map_some];congr 1;omega
  ·rw [if_neg (by omega),List.drop_of_length_le (by omega)];rfl
theorem KA {xs:List Arr} {f:Bn} {p:Arr→Bool} (hf:∀ x∈xs,f.g x=some (p x)) (hl:xs.length≤17592186044416) : As xs f=some (xs.any p):=by
 unfold As AQ
 rw [Df]
 have:=KT hf (fun _=>some (-1)) hl xs.length 0 AT 0 rfl (Nat.zero_le _) (Cn (by omega))
 rw [List.drop_zero,show ((0:Nat):Int)=0 from rfl] at this
 rw [this]
 cases h:xs.findIdx? p with
 | none =>
  rw [oB]
  have h1:=List.findIdx?_eq_none_iff.1 h
  have e:xs.any p=false:=List.any_eq_false.2 fun x hx=>by rw [h1 x hx];decide
  rw [e];rfl
 | some j =>
  rw [oB]
  congr 1
  have h2:xs.any p=true:=by
   have:=List.findIdx?_isSome (xs:=xs) (p:=p)
   rw [h] at this
   exact this.symm
  rw [h2]
  exact dT (by omega)
theorem Qy {e:Int×RT×Int} (he:e.1=0∨e.1=1) {l:List Arr} (hl:l.length≤17592186044416) (ho:∀ a∈l,okAr a) : CU e l=some (!l.any fun a=>!decide (A3 a)):=by
 have hc:=KA (xs:=l) (f:=(⟨.fn 72 [] [],fun x=>Ci x⟩:Bn)) (p:=fun a=>!decide (A3 a)) (fun a ha=>by
  show Ci a=_
  unfold Ci;rw [Gt (ho a ha)];rfl) hl
 unfold CU
 rcases he with h|h
 ·rw [if_pos h,hc];rfl
 ·rw [if_neg (by omega),if_pos h,hc];rfl
theorem TD {p:Prop} [Decidable p] (h:p) : Et p=some ():=if_pos h
def vec (xs:List Itm) : Arr:=.mk [(xs.length:Int)] xs
def VR (xs:List Itm) : Prop:=xs≠[]∧xs.length≤4096∧(∀ x∈xs,okI x)∧A3 (vec xs)
theorem Hm {n:Int} {xs:List Itm} : AU (.mk [n] xs)=false:=by unfold AU;rfl
theorem RA {xs ys:List Itm} (h:ys.Sublist xs) : cIs ys≤cIs xs:=by
 induction h with
 | slnil=>exact Nat.le_refl _
 | cons a _ ih=>simp only [cIs];omega
 | cons_cons a _ ih=>simp only [cIs];omega
theorem PF {xs ys:List Itm} (h:∀ x∈ys,x∈xs) : dIs ys≤dIs xs:=Sv fun x hx=>IE (h x hx)
theorem VR.ok {xs:List Itm} (h:VR xs) : okAr (vec xs):=by
 obtain ⟨_,h2,h3,_⟩:=h
 rw [BE]
 refine ⟨fun z hz=>?_,by show [(xs.length:Int)].length≤_;simp,by show xs.length≤_;omega,h3⟩
 have hz':z∈[(xs.length:Int)]:=hz
 rw [List.mem_singleton] at hz'
 omega
theorem VR.items {xs:List Itm} (h:VR xs) : ∀ x∈xs,okI x∧B6 x:=fun x hx=>GB h.ok h.2.2.2 (x:=x) hx
theorem VR.sz {xs:List Itm} (h:VR xs) : szP (vec xs).shape=((xs.length:Int),0):=Jr h.2.1
theorem VR.pos {xs:List Itm} (h:VR xs) : 0<xs.length:=List.length_pos_iff.2 h.1
theorem PP {n:Nat} (h:n≤4096) : ∀ z∈[(n:Int)],-9223372036854775808≤z∧z≤9223372036854775807:=fun z hz=>by
 rw [List.mem_singleton] at hz;omega
theorem VR.make {xs:List Itm} (h:VR xs) : AN [(xs.length:Int)] xs=some (vec xs,0):=by
 obtain ⟨h1,h2,h3,h4⟩:=h
 have hs:=Jr h2
 have hp:=List.length_pos_iff.2 h1
 have hc:¬(xs=[]∨¬∀ x∈xs,B6 x):=fun q=>q.elim h1 fun q=>q fun x hx=>(VR.items ⟨h1,h2,h3,h4⟩ x hx).2
 rw [H8 (PP h2) (by simp) (by omega) h3,hs,if_neg (fun q=>q rfl),if_neg hc,HX rfl (by omega),if_pos (show A3 (Arr.mk [(xs.length:Int)] xs) from h4)];rfl
theorem Rl {xs:List Itm} {a:Arr} (hx:∀ x∈xs,okI x) (hl:xs.length≤1466015503701) (h:AN [(xs.length:Int)] xs=some (a,0)) : VR xs∧a=vec xs:=by
 rw [H8 (fun z hz=>by rw [List.mem_singleton] at hz;omega) (by simp) hl hx] at h
 by_cases h0:(szP [(xs.length:Int)]).2=0
 rotate_left
 ·rw [if_pos h0] at h
  exact absurd (congrArg Prod.snd (oI h)) h0
 have hd:=(Qt h0).1 _ (List.mem_singleton.2 rfl)
 have hs:=Jr (n:=xs.length) (by omega)
 rw [if_neg (fun q=>q h0)] at h
 by_cases hc:xs=[]∨¬∀ x∈xs,B6 x
 ·rw [if_pos hc] at h
  exact absurd (congrArg Prod.snd (oI h)) (by show ¬(22:Int)=0;decide)
 rw [if_neg hc,hs] at h
 have h1:xs≠[]:=fun e=>hc (.inl e)
 have hp:=List.length_pos_iff.2 h1
 rw [HX rfl (by omega)] at h
 by_cases hr:A3 (.mk [(xs.length:Int)] xs)
 ·rw [if_pos hr] at h
  exact ⟨⟨h1,by omega,hx,hr⟩,(congrArg Prod.fst (oI h)).symm⟩
 ·rw [if_neg hr] at h
  exact absurd (congrArg Prod.snd (oI h)) (by show ¬(8:Int)=0;decide)
theorem VR.of {xs:List Itm} (h1:xs≠[]) (h2:xs.length≤4096) (h3:∀ x∈xs,okI x∧rI x=true) (hd:dIs xs≤15) (hc:xs.length+cIs xs≤16384) : VR xs:=by
 refine ⟨h1,h2,fun x hx=>(h3 x hx).1,?_,?_,?_⟩
 ·rw [GX]
  show (decide ((szP [(xs.length:Int)]).2=0)&&(decide ((xs.length:Int)=if (szP [(xs.length:Int)]).1<1 then 1 else (szP [(xs.length:Int)]).1)&&rIs xs))=true
  have hp:=List.length_pos_iff.2 h1
  rw [Jr h2,Ec.2 fun x hx=>(h3 x hx).2,if_neg (by show ¬(xs.length:Int)<1;omega)]
  simp
 ·rw [G0]
  show (if AU (.mk [(xs.length:Int)] xs)=true then 0 else 1+dIs xs)≤16
  rw [Hm,if_neg (by decide)];omega
 ·rw [Gx];exact hc
theorem VR.parts {xs:List Itm} (h:VR xs) : dIs xs≤15∧xs.length+cIs xs≤16384:=by
 obtain ⟨_,_,_,_,h2,h3⟩:=h
 rw [G0] at h2
 have h2':(if AU (.mk [(xs.length:Int)] xs)=true then 0 else 1+dIs xs)≤16:=h2
 rw [Hm,if_neg (by decide)] at h2'
 rw [Gx] at h3
 have h3':xs.length+cIs xs≤16384:=h3
 omega
theorem VR.sub {xs ys:List Itm} (h:VR xs) (hs:ys.Sublist xs) (hn:ys≠[]) : VR ys:=by
 obtain ⟨p1,p2⟩:=h.parts
 have hl:=hs.length_le
 have hc:=RA hs
 have h2:=h.2.1
 exact .of hn (by omega) (fun x hx=>⟨(h.items x (hs.subset hx)).1,(h.items x (hs.subset hx)).2.1⟩) (nT (PF fun x hx=>hs.subset hx) p1) (by omega)
theorem VR.zero {xs:List Itm} (h:VR xs) : AN [0] [tyI (xs.headD default)]=some (.mk [0] [tyI (xs.headD default)],0)∧okAr (.mk [0] [tyI (xs.headD default)])∧A3 (.mk [0] [tyI (xs.headD default)]):=by
 obtain ⟨p1,p2⟩:=h.parts
 obtain ⟨x,ys,rfl⟩:=List.exists_cons_of_ne_nil h.1
 obtain ⟨ox,rx⟩:=h.items x (by simp)
 obtain ⟨t1,t2,t3,t4,t5,t6⟩:=Nn ox rx.1
 have hI:okI (tyI x)∧B6 (tyI x):=⟨t6,t1,t2▸rx.2.1,t3▸rx.2.2⟩
 have hsz:szP [0]=(0,0):=rfl
 have hmk:B5 (szP [0]).1 [tyI x]=[tyI x]:=by
  rw [hsz];show [tyI (tyI x)]=_;rw [t4]
 have hd:dI x≤15:=nT (IE (List.mem_cons_self ..)) p1
 have hcx:1+cI x≤16384:=by
  have:cIs (x::ys)=cI x+cIs ys:=rfl
  rw [this,List.length_cons] at p2;omega
 have hR:A3 (.mk [0] [tyI x]):=by
  refine ⟨?_,?_,?_⟩
  ·rw [GX,Ej,C9,hsz,Ec.2 (by simpa using t1)];rfl
  ·rw [G0,Hm,if_neg (by decide),C9,dIs,dIs,Nat.max_zero,t2];omega
  ·rw [Gx,C9];simp only [cIs,List.length_singleton];omega
 have hc:¬([tyI x]=[]∨¬∀ y∈[tyI x],B6 y):=fun q=>q.elim (fun e=>by cases e) fun q=>q fun y hy=>by rw [List.mem_singleton] at hy;subst hy;exact hI.2
 refine ⟨?_,?_,hR⟩
 ·show AN [0] [tyI x]=some (.mk [0] [tyI x],0)
  rw [H8 (fun z hz=>by rw [List.mem_singleton] at hz;omega) (by simp) (by simp) (fun y hy=>by rw [List.mem_singleton] at hy;subst hy;exact hI.1),hmk,if_neg (by rw [hsz];exact fun q=>q rfl),if_neg hc,if_pos hR]
 ·show okAr (.mk [0] [tyI x])
  rw [BE]
  exact ⟨fun z hz=>by rw [Ej,List.mem_singleton] at hz;omega,by simp [Ej],by simp [C9],fun y hy=>by rw [C9,List.mem_singleton] at hy;subst hy;exact hI.1⟩
theorem LO {z:Int} (hz:Hh z) : okAr (.mk [] [FG z])∧A3 (.mk [] [FG z]):=⟨S5 (Rw hz),(LD (M9 hz) rfl (by show (1:Int)≠3;decide)).1⟩
theorem LR {z:Int} (h:Hh z) : GE (.mk [] [FG z])=some ([z],true):=by
 obtain ⟨on,rn⟩:=LO h
 unfold GE RB
 rw [Gt on,oB,dT rn,if_pos rfl,if_pos (by simp [Ej]),PL on,Ej,NY,if_neg (by rintro (q|q);exact absurd q (by decide);exact q rn),C9,oB,if_pos (by simp)]
 have:=Lj (l:=[z]) (s:=[]) (by simpa using h) (by simp)
 rw [List.map_singleton] at this
 rw [this];rfl
theorem MI {z:Int} (h:Hh z) : CK (.mk [] [FG z])=some ([z],0):=by
 unfold CK
 rw [Ej,if_neg (by simp),LR h];rfl
theorem NA {z n:Int} {xs:List Itm} (h:Hh z) : DG (.mk [] [FG z]) (.mk [n] xs)=some ([z],.mk [n] xs,0):=by
 unfold DG
 rw [MI h,oB,Df,if_pos rfl,Ej]
 rfl
theorem OC {n:Nat} {xs:List Itm} {z:Nat} (hL:n≤4096) (hz:z≤1000) (K:List Int→Int→Option (Arr×Int)) (k:Nat) :
  BC ([(z:Int)],.mk [(n:Int)] xs,0) [1] K (k+2) [0] 0 0=K [((n-min z n:Nat):Int)] ((min z n:Nat):Int):=by
 rw [BC,if_pos (by simp),Df,Kv,oB,Ej,Kv,oB,if_pos (by omega),Kv,oB,Kv,oB]
 have e:(if (n:Int)<(z:Int) then (n:Int) else (z:Int))=((min z n:Nat):Int):=by
  by_cases q:(n:Int)<(z:Int)
  ·rw [if_pos q];omega
  ·rw [if_neg q];omega
 have a1:w64 (1 * ((min z n:Nat):Int))=((min z n:Nat):Int):=by rw [Int.one_mul];exact CD (by omega) (by omega)
 have a2:w64 (0+((min z n:Nat):Int))=((min z n:Nat):Int):=by rw [Int.zero_add];exact CD (by omega) (by omega)
 have a3:w64 ((n:Int)-((min z n:Nat):Int))=((n-min z n:Nat):Int):=by rw [CD (by omega) (by omega)];omega
 have a4:w64 (0+1)=1:=CD (by omega) (by omega)
 rw [e,a1,a2,a3,a4]
 show BC _ [1] K (k+1) _ 1 _=_
 rw [BC,if_neg (by simp)]
 rfl
theorem JP {n:Nat} {xs:List Itm} {z:Nat} (hL:n≤4096) (hz:z≤1000) : Bv (.mk [] [FG z]) (.mk [(n:Int)] xs) =
  Bj (.mk [(n:Int)] xs) [((n-min z n:Nat):Int)] ⟨.fn 78 [] [.ptr [.i .i64 ((min z n:Nat):Int)],.ptr [.sl (Is [1])]],fun x=>CC x ((min z n:Nat):Int) [1]⟩:=by
 have hF:AT=999999999999998+2:=rfl
 unfold Bv
 rw [NA ⟨by omega,by omega⟩,oB,if_pos rfl,TD (by simp),oB,Hp (by simp [Ej]),oB,Df,hF]
 have hst:(Hl (Arr.mk [(n:Int)] xs).shape).1=[1]:=rfl
 simp only [hst]
 have:=OC (n:=n) (xs:=xs) (z:=z) hL hz (fun z4 z5=>(Bj (.mk [(n:Int)] xs) z4 ⟨.fn 78 [] [.ptr [.i .i64 z5],.ptr [.sl (Is [1])]],fun x=>CC x z5 [1]⟩).bind fun x16=>some (x16.1,x16.2)) 999999999999998
 refine Eq.trans this ?_
 generalize Bj _ _ _=m
 cases m<;>rfl
theorem JK {xs:List Itm} (h:VR xs) {z:Nat} (hz:z≤1000) : Bv (.mk [] [FG z]) (vec xs)=some (if z<xs.length then vec (xs.drop z) else .mk [0] [tyI (xs.headD default)],0):=by
 have h2:=h.2.1
 have hP:=M1 h.ok h.2.2.2
 show Bv (.mk [] [FG z]) (.mk [(xs.length:Int)] xs)=_
 rw [JP h2 hz]
 by_cases hlt:z<xs.length
 ·rw [if_pos hlt]
  have hm:min z xs.length=z:=by omega
  rw [hm]
  have hr:[((xs.length-z:Nat):Int)]=up_ [xs.length-z]:=rfl
  have hpr:pr [xs.length-z]=xs.length-z:=by show (xs.length-z) * 1=_;omega
  rw [hr]
  show Bj (vec xs) (up_ [xs.length-z]) _=_
  rw [ON (t:=[xs.length-z]) (J:=fun i=>((z+i:Nat):Int)) hP (fun x hx=>by rw [List.mem_singleton] at hx;omega) (by simp) (by rw [hpr];omega) (fun i hi=>by
   rw [hpr] at hi
   refine ⟨?_,by show ((z+i:Nat):Int)<(xs.length:Int);omega⟩
   show CC (up_ (atN [xs.length-z] i)) (z:Int) [1]=_
   have ea:atN [xs.length-z] i=[i]:=by
    show [i / 1 % (xs.length-z)]=_
    rw [Nat.div_one,Nat.mod_eq_of_lt hi]
   unfold CC
   rw [ea,show ([1]:List Int)=up_ [1] from rfl,Rc (by simp) (by simp) (by simp) (by simp;omega),oB]
   have ep:plN [1] [i]=i:=by show 1 * i+0=i;omega
   rw [ep,CD (by omega) (by omega)]
   congr 1),hpr]
  have hit:((List.range (xs.length-z)).map fun i=>Ij (vec xs) (tyI ((vec xs).items.headD default)) ((z+i:Nat):Int))=xs.drop z:=by
   refine List.ext_getElem (by simp) fun i h1 h2=>?_
   have hi:i<xs.length-z:=by simpa using h1
   rw [List.getElem_map,List.getElem_range,List.getElem_drop]
   unfold Ij
   rw [if_pos (by omega),Int.toNat_natCast]
   show xs.getD (z+i) default=_
   rw [lD,lG (by omega)];rfl
  have hd:VR (xs.drop z):=h.sub (List.drop_sublist z xs) (List.length_pos_iff.1 (by rw [List.length_drop];omega))
  have:=hd.make
  rw [List.length_drop] at this
  show AN [((xs.length-z:Nat):Int)] ((List.range (xs.length-z)).map fun i=>Ij (vec xs) (tyI ((vec xs).items.headD default)) ((z+i:Nat):Int))=_
  rw [hit,this]
 ·rw [if_neg hlt]
  have hm:xs.length-min z xs.length=0:=by omega
  rw [hm]
  exact (JO hP (by simp) rfl).trans h.zero.1
theorem OS {p:Itm} (o:okAr (.mk [0] [p])) (r:A3 (.mk [0] [p])) {z:Nat} (hz:z≤1000) : Bv (.mk [] [FG z]) (.mk [0] [p])=some (.mk [0] [tyI p],0):=by
 have:=JP (n:=0) (xs:=[p]) (z:=z) (by omega) hz
 rw [show ((0:Nat):Int)=0 from rfl] at this
 rw [this]
 have hm:0-min z 0=0:=by omega
 rw [hm]
 refine (JO (M1 o r) (by simp) rfl).trans ?_
 exact Px o r rfl (fun z hz=>by rw [List.mem_singleton] at hz;omega) (by simp) rfl (.inr rfl)
def Cc (rc_ref03_Copy:Arr→Option (Arr)) (a0:Itm) (K0:Int→Bool→(List Nat)→(List Nat)→Int→(List Arr)→Option (Itm)) : Nat→Int→Int→Bool→(List Nat)→(List Nat)→Int→(List Arr)→Option (Itm)
 | 0,_,_,_,_,_,_,_=>none
 | k+1,s8,s9,s10,s11,s12,s13,s14=>(if s8<((List.length a0.box:Nat):Int) then ((rd? a0.box s8).bind fun x15=>((rc_ref03_Copy x15).bind fun x16=>((ap? 2932031007402 s14 [x16]).bind fun x17=>(Cc rc_ref03_Copy a0 K0 k (w64 (s8+1)) s9 s10 s11 s12 s13 x17)))) else (K0 s9 s10 s11 s12 s13 s14))
def EI (rc_ref03_Copy:Arr→Option (Arr)) (a0:Itm) : Option (Itm):=((Hw a0.num).bind fun x1=>(jn (fun (z2:Int) (z3:Bool) (z4:(List Nat)) (z5:(List Nat)) (z6:Int) (z7:(List Arr))=>(some ((Itm.mk z2 (z3,z4,z5) z6 z7)))) fun K0=>(Cc rc_ref03_Copy a0 K0 AT 0 a0.kind x1.1 x1.2.1 x1.2.2 a0.char [])))
theorem HH {rc_ref03_Copy:Arr→Option (Arr)} (orc_ref03_Copy:∀ x0 r,rc_ref03_Copy x0=some r→Fn Tryz.prog 16 [.ag [.sl (Is x0.shape),.sl (Its x0.items)]] (.d (.ag [.sl (Is r.shape),.sl (Its r.items)]))) {a0:Itm} {r:Itm} (h:EI rc_ref03_Copy a0=some r) :
  Fn Tryz.prog 49 [.ag [.i .u8 a0.kind,.b a0.num.1,.sl (L a0.num.2.1),.sl (L a0.num.2.2),.i .i32 a0.char,.sl (Ars a0.box)]] (.d (.ag [.i .u8 r.kind,.b r.num.1,.sl (L r.num.2.1),.sl (L r.num.2.2),.i .i32 r.char,.sl (Ars r.box)])):=by
 unfold EI at h
 refine Fn.ofC (rs:=[.cell 2 58]) (nt:=32) Tryz.func49 rfl rfl rfl (by simp) rfl ?_;refine .sr ?_;refine vk (vbx) ?_;refine vk (van (Aj Co) CM) ?_;refine rk [1,2] ?_;refine .seq ?_;refine .drawn 9 Bf (by kernel_rfl) ?_;refine dv (vfa CT) ?_;refine dv (Al BH) ?_;refine dv (vfa DE) ?_;refine dv (Al DR) ?_;refine dv (vfa BM) ?_;refine dv (AI Ik GW) ?_
 obtain ⟨x1,g1,h⟩:=bnd h
 refine dv (Aq (Ko g1) Tryz.call90) ?_;refine dv (QA Ih Co (fun w I μ=>Ou w I μ)) ?_;refine dv (van (Aj Co) CM) ?_;refine dz ?_
 refine QW ?_ AB (by decide)
 refine rk [1,2,3] ?_;refine .seq ?_;refine .sr ?_;refine ar [1,2,3,4] ?_
 obtain ⟨K0,hK0,h⟩:=A7 h
 refine AW.mr (σ:=Int×Bool×(List Nat)×(List Nat)×Int×(List Arr)) (fun p=>K0 p.1 p.2.1 p.2.2.1 p.2.2.2.1 p.2.2.2.2.1 p.2.2.2.2.2=some r) (fun p=>[(2,.nb [.i .u8 0,.b false,.sl (L []),.sl (L []),.i .i32 0,.sl (Ars [])]),(3,.bp 0 0)]) (fun p=>[HO.box [.d (.i .u8 p.1),.d (.b p.2.1),.d (.sl (L p.2.2.1)),.d (.sl (L p.2.2.2.1)),.d (.i .i32 p.2.2.2.2.1),.own 27 (Ars p.2.2.2.2.2)]]) ?_ ?_
 ·skip
  refine .block ?_;refine .gh (Gh.nlOwnC (id:=0) (off:=5) 27 (by rw [Qa];decide)) ?_
  refine .loop (.gk [1,2,3,4] ?_)
  refine AL.ind (σ:=Nat×Int×Int×Bool×(List Nat)×(List Nat)×Int×(List Arr)) (m:=fun p=>p.1) (e:=fun p=>[(1,.d (.ptr [.i .u8 a0.kind,.b a0.num.1,.sl (L a0.num.2.1),.sl (L a0.num.2.2),.i .i32 a0.char,.sl (Ars a0.box)])),(2,.nb [.i .u8 0,.b false,.sl (L []),.sl (L []),.i .i32 0,.sl (Ars [])]),(3,.bp 0 0),(4,.d (.i .i64 p.2.1))]) (h:=fun p=>[HO.box [.d (.i .u8 p.2.2.1),.d (.b p.2.2.2.1),.d (.sl (L p.2.2.2.2.1)),.d (.sl (L p.2.2.2.2.2.1)),.d (.i .i32 p.2.2.2.2.2.2.1),.own 27 (Ars p.2.2.2.2.2.2.2)]]) (I:=fun p=>Cc rc_ref03_Copy a0 K0 p.1 p.2.1 p.2.2.1 p.2.2.2.1 p.2.2.2.2.1 p.2.2.2.2.2.1 p.2.2.2.2.2.2.1 p.2.2.2.2.2.2.2=some r) ?_ (AT,0,a0.kind,x1.1,x1.2.1,x1.2.2,a0.char,[]) h
  rintro ⟨k,s8,s9,s10,s11,s12,s13,s14⟩ h ih
  dsimp only at h ih ⊢
  rcases k with _|k
  ·rw [Cc] at h;cases h
  rw [Cc] at h
  refine .seq ?_;refine .sr ?_;refine vk (Aa) ?_;refine vk (vfa Ba) ?_;refine vk (Al CE) ?_;refine vk (A5 (Bc _) (D4 _) DW) ?_;refine vk (vbi) ?_;refine rk [1,2,3,4,17] ?_
  rcases brc h with ⟨hc,h⟩|⟨hc,h⟩
  ·refine cnt (dT hc) ?_
   refine .skip ?_
   show AW _ _ _ _ _ _
   refine .seq ?_;refine .block ?_;refine .drawn 9 Bf (by kernel_rfl) ?_;refine dv (Dr Ba) ?_;refine dv (Le (cs:=[.d (.i .u8 s9),.d (.b s10),.d (.sl (L s11)),.d (.sl (L s12)),.d (.i .i32 s13),.own 27 (Ars s14)]) rfl rfl CE) ?_;refine dv (vfa Ba) ?_;refine dv (Al CE) ?_;refine dv (Aa) ?_
   obtain ⟨x15,g15,h⟩:=bnd h
   obtain ⟨n15,p015,q15⟩:=Ak g15
   refine dv (vix n15 p015 (EA q15) rfl EE) ?_;refine dv (AI Ad Ab) ?_
   obtain ⟨x16,g16,h⟩:=bnd h
   refine dv (Aq (orc_ref03_Copy _ _ g16) Tryz.call16) ?_;refine dv ((Em (Js x16) (GI [x16]) Hj).deep) ?_;refine dz ?_
   obtain ⟨x17,g17,h⟩:=bnd h
   refine Nc N1 g17 rfl rfl PI ?_ LX Bc Hj
   refine RL.gk [1,2,3,4,17,20,22,23,24,25,26,27,28,29] ?_;refine vk (Dr Ba) ?_
   refine Il (cs:=[.d (.i .u8 s9),.d (.b s10),.d (.sl (L s11)),.d (.sl (L s12)),.d (.i .i32 s13),.un]) (c:=.un) rfl rfl ?_ PM
   refine .nil ?_
   show AW _ _ _ _ _ _
   refine .gk [1,2,3,4] ?_;refine .region ?_;refine vk (Aa) ?_;refine vk (vbi) ?_;refine asd ?_;refine .nil ?_;refine AL.gk [1,2,3,4] ?_
   exact ih (k,(w64 (s8+1)),s9,s10,s11,s12,s13,x17) h (Nat.lt_succ_self _)
  refine cnf (dF hc) ?_;refine .gk [2,3] ?_;refine .exit ?_
  exact jr (s9,s10,s11,s12,s13,s14) h
 rintro ⟨z2,z3,z4,z5,z6,z7⟩ h
 try dsimp only at h ⊢
 subst hK0
 show AW _ _ _ _ _ _
 refine .sr ?_;refine fz (p:=.c 0 5) ?_;refine vk (Ga (cs:=[.d (.i .u8 z2),.d (.b z3),.d (.sl (L z4)),.d (.sl (L z5)),.d (.i .i32 z6),.d (.sl (Ars z7))]) (ds:=[.i .u8 z2,.b z3,.sl (L z4),.sl (L z5),.i .i32 z6,.sl (Ars z7)]) rfl A4 AB) ?_
 refine stn ?_ AB (by decide)
 refine rk [2] ?_;refine .ret ?_
 cases h
 exact ⟨_,⟨.inr rfl,A4,AB,p6⟩,rfl⟩
def Dc (rc_ref03_Copy:Arr→Option (Arr)) (a0:Arr) (K0:(List Int)→(List Itm)→Option (Arr)) : Nat→Int→(List Int)→(List Itm)→Option (Arr)
 | 0,_,_,_=>none
 | k+1,s4,s5,s6=>(if s4<((List.length a0.items:Nat):Int) then ((rd? a0.items s4).bind fun x7=>((EI rc_ref03_Copy x7).bind fun x8=>((ap? 1466015503701 s6 [x8]).bind fun x9=>(Dc rc_ref03_Copy a0 K0 k (w64 (s4+1)) s5 x9)))) else (K0 s5 s6))
def FS (rc_ref03_Copy:Arr→Option (Arr)) (a0:Arr) : Option (Arr):=((ap? 17592186044416 [] a0.shape).bind fun x1=>(jn (fun (z2:(List Int)) (z3:(List Itm))=>(some ((Arr.mk z2 z3)))) fun K0=>(Dc rc_ref03_Copy a0 K0 AT 0 x1 [])))
theorem Kr {rc_ref03_Copy:Arr→Option (Arr)} (orc_ref03_Copy:∀ x0 r,rc_ref03_Copy x0=some r→Fn Tryz.prog 16 [.ag [.sl (Is x0.shape),.sl (Its x0.items)]] (.d (.ag [.sl (Is r.shape),.sl (Its r.items)]))) {a0:Arr} {r:Arr} (h:FS rc_ref03_Copy a0=some r) :
  Fn Tryz.prog 16 [.ag [.sl (Is a0.shape),.sl (Its a0.items)]] (.d (.ag [.sl (Is r.shape),.sl (Its r.items)])):=by
 unfold FS at h
 refine Fn.ofC (rs:=[.cell 2 27]) (nt:=30) Tryz.func16 rfl rfl rfl (by simp) rfl ?_;refine .sr ?_;refine vk (vbx) ?_;refine vk (van (Aj Az) AC) ?_;refine rk [1,2] ?_;refine .sr ?_
 refine al ?_ (Aj Az) (fun w I μ=>Jt w I μ)
 refine rk [1,2,3] ?_;refine .sr ?_;refine vk (Dr Av) ?_
 refine ldb (cs:=[.nl,.nl]) (c:=.nl) rfl rfl ?_ A1
 refine vk (vfa Av) ?_;refine vk (Al A1) ?_
 obtain ⟨x1,g1,h⟩:=bnd h
 refine Td g1 KP ?_ Hg Af CS
 refine vk (Dr Av) ?_
 refine Il (cs:=[.nl,.nl]) (c:=.nl) rfl rfl ?_ MC
 refine rk [1,2,3] ?_;refine .seq ?_;refine .sr ?_;refine ar [1,2,3,4] ?_
 obtain ⟨K0,hK0,h⟩:=A7 h
 refine AW.mr (σ:=(List Int)×(List Itm)) (fun p=>K0 p.1 p.2=some r) (fun p=>[(2,.nb [.sl (Is []),.sl (Its [])]),(3,.bp 0 0)]) (fun p=>[HO.box [.own 3 (Is p.1),.own 58 (Its p.2)]]) ?_ ?_
 ·skip
  refine .block ?_;refine .gh (Gh.nlOwnC (id:=0) (off:=1) 58 (by rw [JQ];decide)) ?_
  refine .loop (.gk [1,2,3,4] ?_)
  refine AL.ind (σ:=Nat×Int×(List Int)×(List Itm)) (m:=fun p=>p.1) (e:=fun p=>[(1,.d (.ptr [.sl (Is a0.shape),.sl (Its a0.items)])),(2,.nb [.sl (Is []),.sl (Its [])]),(3,.bp 0 0),(4,.d (.i .i64 p.2.1))]) (h:=fun p=>[HO.box [.own 3 (Is p.2.2.1),.own 58 (Its p.2.2.2)]]) (I:=fun p=>Dc rc_ref03_Copy a0 K0 p.1 p.2.1 p.2.2.1 p.2.2.2=some r) ?_ (AT,0,x1,[]) h
  rintro ⟨k,s4,s5,s6⟩ h ih
  dsimp only at h ih ⊢
  rcases k with _|k
  ·rw [Dc] at h;cases h
  rw [Dc] at h
  refine .seq ?_;refine .sr ?_;refine vk (Aa) ?_;refine vk (vfa AJ) ?_;refine vk (Al BS) ?_;refine vk (A5 (Ay _) (Cl _) Ch) ?_;refine vk (vbi) ?_;refine rk [1,2,3,4,15] ?_
  rcases brc h with ⟨hc,h⟩|⟨hc,h⟩
  ·refine cnt (dT hc) ?_
   refine .skip ?_
   show AW _ _ _ _ _ _
   refine .seq ?_;refine .block ?_;refine .drawn 9 Bf (by kernel_rfl) ?_;refine dv (Dr AJ) ?_;refine dv (Le (cs:=[.own 3 (Is s5),.own 58 (Its s6)]) rfl rfl BS) ?_;refine dv (vfa AJ) ?_;refine dv (Al BS) ?_;refine dv (Aa) ?_
   obtain ⟨x7,g7,h⟩:=bnd h
   obtain ⟨n7,p07,q7⟩:=Ak g7
   refine dv (vix n7 p07 (C6 q7) rfl C7) ?_;refine dv (AI A4 AB) ?_
   obtain ⟨x8,g8,h⟩:=bnd h
   refine dv (Aq (HH orc_ref03_Copy g8) Tryz.call49) ?_;refine dv ((Em (Eg x8) (De [x8]) CW).deep) ?_;refine dz ?_
   obtain ⟨x9,g9,h⟩:=bnd h
   refine Nc FY g9 rfl rfl Hz ?_ EV Ay CW
   refine RL.gk [1,2,3,4,15,18,20,21,22,23,24,25,26,27] ?_;refine vk (Dr AJ) ?_
   refine Il (cs:=[.own 3 (Is s5),.un]) (c:=.un) rfl rfl ?_ Ir
   refine .nil ?_
   show AW _ _ _ _ _ _
   refine .gk [1,2,3,4] ?_;refine .region ?_;refine vk (Aa) ?_;refine vk (vbi) ?_;refine asd ?_;refine .nil ?_;refine AL.gk [1,2,3,4] ?_
   exact ih (k,(w64 (s4+1)),s5,x9) h (Nat.lt_succ_self _)
  refine cnf (dF hc) ?_;refine .gk [2,3] ?_;refine .exit ?_
  exact jr (s5,s6) h
 rintro ⟨z2,z3⟩ h
 try dsimp only at h ⊢
 subst hK0
 show AW _ _ _ _ _ _
 refine .sr ?_;refine fz (p:=.c 0 0) ?_;refine fz (p:=.c 0 1) ?_;refine vk (Ga (cs:=[.d (.sl (Is z2)),.d (.sl (Its z3))]) (ds:=[.sl (Is z2),.sl (Its z3)]) rfl Ad Ab) ?_
 refine stn ?_ Ab (by decide)
 refine rk [2] ?_;refine .ret ?_
 cases h
 exact ⟨_,⟨.inr rfl,Ad,Ab,p2⟩,rfl⟩
def EY : Nat→Arr→Option (Arr)
 | 0,_=>none
 | k+1,a0=>FS (EY k) a0
theorem GK : ∀ (k:Nat) (a0:Arr) (r:Arr),EY k a0=some r→Fn Tryz.prog 16 [.ag [.sl (Is a0.shape),.sl (Its a0.items)]] (.d (.ag [.sl (Is r.shape),.sl (Its r.items)]))
 | 0,_,_,h=>by cases h
 | k+1,a0,_,h=>Kr (GK k)  (show FS (EY k) a0=some _ from h)
def KQ (a0:Arr) : Option (Arr):=EY (a0.size+1) a0
theorem LV {a0:Arr} {r:Arr} (h:KQ a0=some r) : Fn Tryz.prog 16 [.ag [.sl (Is a0.shape),.sl (Its a0.items)]] (.d (.ag [.sl (Is r.shape),.sl (Its r.items)])):=GK _ a0 r  h
theorem Es : Tryz.prog.underlying 70=some (.map 21 69):=by kernel_rfl
def Sq : List (Int×DV):=[(44,.fn 81 [] []),(9066,.fn 81 [] []),(9021,.fn 82 [] []),(8854,.fn 82 [] []),(47,.fn 83 [] []),(9023,.fn 83 [] []),(92,.fn 84 [] []),(9024,.fn 84 [] [])]
theorem RC : Fn Tryz.prog 39 [] (.d (.mp (Sq.map fun p=>.i .i32 p.1) (Sq.map (·.2)))):=by
 refine Fn.o1 0 3 Tryz.func39 ?_;refine .sr ?_;refine asu ?_;refine rn ?_;refine .sr ?_;refine vk (TU) ?_;refine Ix Es gkR freshK.nil ?_;refine Ix Es gkR (freshK.snoc (z:=9066) (z':=44) freshK.nil (by decide)) ?_;refine Ix Es gkR (freshK.snoc (z:=9021) (z':=9066) (freshK.snoc (z:=9021) (z':=44) freshK.nil (by decide)) (by decide)) ?_;refine Ix Es gkR (freshK.snoc (z:=8854) (z':=9021) (freshK.snoc (z:=8854) (z':=9066) (freshK.snoc (z:=8854) (z':=44) freshK.nil (by decide)) (by decide)) (by decide)) ?_;refine Ix Es gkR (freshK.snoc (z:=47) (z':=8854) (freshK.snoc (z:=47) (z':=9021) (freshK.snoc (z:=47) (z':=9066) (freshK.snoc (z:=47) (z':=44) freshK.nil (by decide)) (by decide)) (by decide)) (by decide)) ?_;refine Ix Es gkR (freshK.snoc (z:=9023) (z':=47) (freshK.snoc (z:=9023) (z':=8854) (freshK.snoc (z:=9023) (z':=9021) (freshK.snoc (z:=9023) (z':=9066) (freshK.snoc (z:=9023) (z':=44) freshK.nil (by decide)) (by decide)) (by decide)) (by decide)) (by decide)) ?_;refine Ix Es gkR (freshK.snoc (z:=92) (z':=9023) (freshK.snoc (z:=92) (z':=47) (freshK.snoc (z:=92) (z':=8854) (freshK.snoc (z:=92) (z':=9021) (freshK.snoc (z:=92) (z':=9066) (freshK.snoc (z:=92) (z':=44) freshK.nil (by decide)) (by decide)) (by decide)) (by decide)) (by decide)) (by decide)) ?_;refine Ix Es gkR (freshK.snoc (z:=9024) (z':=92) (freshK.snoc (z:=9024) (z':=9023) (freshK.snoc (z:=9024) (z':=47) (freshK.snoc (z:=9024) (z':=8854) (freshK.snoc (z:=9024) (z':=9021) (freshK.snoc (z:=9024) (z':=9066) (freshK.snoc (z:=9024) (z':=44) freshK.nil (by decide)) (by decide)) (by decide)) (by decide)) (by decide)) (by decide)) (by decide)) ?_;refine RL.gh (Gh.omf (t:=1) rfl) ?_;refine RL.gk [1] ?_;refine vk (Aa) ?_;refine asd ?_;refine rn ?_;refine .ret ?_
 exact ⟨rfl,rfl⟩
def KM : List (Int×B7):=[(44,⟨.fn 81 [] [],fun _=>none⟩),(9066,⟨.fn 81 [] [],fun _=>none⟩),(9021,⟨.fn 82 [] [],fun x=>Ea x.1 x.2.1 x.2.2⟩),(8854,⟨.fn 82 [] [],fun x=>Ea x.1 x.2.1 x.2.2⟩),(47,⟨.fn 83 [] [],fun _=>none⟩),(9023,⟨.fn 83 [] [],fun _=>none⟩),(92,⟨.fn 84 [] [],fun _=>none⟩),(9024,⟨.fn 84 [] [],fun _=>none⟩)]
theorem PJ : (KM.map (·.1)).Nodup:=by show List.Nodup [(44:Int),(9066:Int),(9021:Int),(8854:Int),(47:Int),(9023:Int),(92:Int),(9024:Int)];decide
theorem Pu : ∀ p∈KM,C5 p.2∧isF p.2.dv:=by
 intro p hp
 simp only [KM,List.mem_cons,List.not_mem_nil,or_false] at hp
 rcases hp with rfl|rfl|rfl|rfl|rfl|rfl|rfl|rfl
 ·exact ⟨DZ Tryz.call81 (fun _ _ h=>nomatch h),_,_,_,rfl⟩
 ·exact ⟨DZ Tryz.call81 (fun _ _ h=>nomatch h),_,_,_,rfl⟩
 ·exact ⟨DZ Tryz.call82 (fun _ _ h=>Fh h),_,_,_,rfl⟩
 ·exact ⟨DZ Tryz.call82 (fun _ _ h=>Fh h),_,_,_,rfl⟩
 ·exact ⟨DZ Tryz.call83 (fun _ _ h=>nomatch h),_,_,_,rfl⟩
 ·exact ⟨DZ Tryz.call83 (fun _ _ h=>nomatch h),_,_,_,rfl⟩
 ·exact ⟨DZ Tryz.call84 (fun _ _ h=>nomatch h),_,_,_,rfl⟩
 ·exact ⟨DZ Tryz.call84 (fun _ _ h=>nomatch h),_,_,_,rfl⟩
theorem P2 {z:Int} {f:B7} (h:GF KM z=some f) : C5 f∧isF f.dv:=Pu _ (Ju h)
theorem QN : Fn Tryz.prog 39 [] (.d (Sc .i32 KM)):=RC
def CZ (a0:Int) : Option (Bool):=((I0 (⟨#[226,141,180,44,226,141,170,226,134,145,226,134,147,226,140,189,226,138,150,226,141,137,47,226,140,191,92,226,141,128]⟩ : ByteArray) a0).bind fun x1=>(some (x1)))
theorem EX {a0:Int} {r:Bool} (h:CZ a0=some r) :
  Fn Tryz.prog 21 [.i .i32 a0] (.d (.b r)):=by
 unfold CZ at h
 refine Fn.o1 2 5 Tryz.func21 ?_;refine .sr ?_;refine ar [0,2] ?_;refine .sr ?_;refine vk (Aa) ?_
 obtain ⟨x1,g1,h⟩:=bnd h
 refine vk (Aq (JW g1) Tryz.call42) ?_;refine ar [2] ?_;refine .ret ?_
 cases h
 exact ⟨rfl,rfl⟩
def Fb (a0:Int) (a1:Arr) (a2:Arr) : Option (Arr):=((I0 (⟨#[44,226,141,170]⟩ : ByteArray) a0).bind fun x1=>(if (x1&&(decide (((List.length a2.shape:Nat) : Int)<((List.length a1.shape:Nat) : Int))))=true then (some (a1)) else (some (a2))))
theorem IJ {a0:Int} {a1:Arr} {a2:Arr} {r:Arr} (h:Fb a0 a1 a2=some r) :
  Fn Tryz.prog 41 [.i .i32 a0,.ag [.sl (Is a1.shape),.sl (Its a1.items)],.ag [.sl (Is a2.shape),.sl (Its a2.items)]] (.d (.ag [.sl (Is r.shape),.sl (Its r.items)])):=by
 unfold Fb at h
 refine Fn.ofC (rs:=[.cell 6 27]) (nt:=20) Tryz.func41 rfl rfl rfl (by simp) rfl ?_;refine .sr ?_;refine vk (vbx) ?_;refine vk (vbx) ?_;refine vk (van (Aj Az) AC) ?_;refine rk [0,4,5,6] ?_;refine .seq ?_;refine .seq ?_
 obtain ⟨x1,g1,h⟩:=bnd h
 refine AW.mr (σ:=Unit) (fun _=>True) (fun _=>[(4,.d (.ptr [.sl (Is a1.shape),.sl (Its a1.items)])),(5,.d (.ptr [.sl (Is a2.shape),.sl (Its a2.items)])),(6,.nb [.sl (Is []),.sl (Its [])]),(17,.d (.b (x1&&(decide (((List.length a2.shape:Nat):Int)<((List.length a1.shape:Nat):Int))))))]) (fun _=>[]) ?_ ?_
 ·skip
  refine .region ?_;refine vk (Aa) ?_;refine vk (Aq (JW g1) Tryz.call42) ?_
  by_cases hc:x1=true
  ·have hb0:x1=true:=hc
   refine vk (VOK.lit (Aa) hb0) ?_;refine vk (vfa Av) ?_;refine vk (Al A1) ?_;refine vk (A5 (Af _) (Bs _) Bp) ?_;refine vk (vfa Av) ?_;refine vk (Al A1) ?_;refine vk (A5 (Af _) (Bs _) Bp) ?_;refine vk (vbi) ?_;refine vk (Ao) ?_;refine RL.gk [4,5,6,17] ?_;refine .nil ?_
   exact jr () trivial (by simp only [hb0];rfl)
  have hb0:x1=false:=(bf hc)
  refine vk (VOK.lit (Aa) hb0) ?_;refine gf ?_;refine gf ?_;refine gf ?_;refine gf ?_;refine gf ?_;refine gf ?_;refine gf ?_;refine vk (Ao) ?_;refine RL.gk [4,5,6,17] ?_;refine .nil ?_
  exact jr () trivial (by simp only [hb0];rfl)
 rintro _ _
 rcases brc h with ⟨hc,h⟩|⟨hc,h⟩
 ·refine cnt hc ?_
  refine .sr ?_;refine vk (AI Ad Ab) ?_
  refine stn ?_ Ab (by decide)
  refine rk [5,6] ?_;refine .ret ?_
  cases h
  exact ⟨_,⟨.inr rfl,Ad,Ab,p2⟩,rfl⟩
 refine cnf (bf hc) ?_;refine .skip ?_
 show AW _ _ _ _ _ _
 refine .sr ?_;refine vk (AI Ad Ab) ?_
 refine stn ?_ Ab (by decide)
 refine rk [6] ?_;refine .ret ?_
 cases h
 exact ⟨_,⟨.inr rfl,Ad,Ab,p2⟩,rfl⟩
def Cb (a0:(Int×RT×Int)) (a1:Int) (a2:Arr) (a3:Arr) : Option (Arr×Int):=((CZ a1).bind fun x1=>(if x1=true then ((CU a0 ([a2,a3])).bind fun x2=>(if x2=true then (if a1=9076 then ((CK a2).bind fun x3=>(if x3.2=0 then ((AN x3.1 a3.items).bind fun x4=>(some (x4.1,x4.2))) else (some ((Arr.mk [] []),x3.2)))) else (if a1=8593 then none else (if a1=8595 then ((Bv a2 a3).bind fun x5=>(some (x5.1,x5.2))) else (if a1=9033 then none else ((GF KM a1).bind fun x6=>((Fb a1 a2 a3).bind fun x7=>((I0 (⟨#[226,141,170,226,138,150,226,140,191,226,141,128]⟩ : ByteArray) a1).bind fun x8=>((GR x7 x8).bind fun x9=>((x6.g (a2,a3,x9)).bind fun x10=>(some (x10.1,x10.2))))))))))) else (some ((Arr.mk [] []),22)))) else (some ((Arr.mk [] []),23))))
theorem Dh {a0:(Int×RT×Int)} {a1:Int} {a2:Arr} {a3:Arr} {r:Arr×Int} (h:Cb a0 a1 a2 a3=some r) :
  Fn Tryz.prog 11 [.ag [.i .i64 a0.1,.b a0.2.1.1,.sl (L a0.2.1.2.1),.sl (L a0.2.1.2.2),.i .i64 a0.2.2],.i .i32 a1,.ag [.sl (Is a2.shape),.sl (Its a2.items)],.ag [.sl (Is a3.shape),.sl (Its a3.items)]] (.tup [.d (.ag [.sl (Is r.1.shape),.sl (Its r.1.items)]),.d (.i .i64 r.2)]):=by
 unfold Cb at h
 refine Fn.ofC (rs:=[.cell 8 27,.tmp 9]) (nt:=80) Tryz.func11 rfl rfl rfl (by simp) rfl ?_;refine .sr ?_;refine vk (vbx) ?_;refine vk (vbx) ?_;refine vk (vbx) ?_;refine vk (van (Aj Az) AC) ?_;refine ar [1,4,6,7,8,9] ?_;refine .seq ?_;refine .block ?_;refine .sr ?_;refine vk (Aa) ?_
 obtain ⟨x1,g1,h⟩:=bnd h
 refine vk (Aq (EX g1) Tryz.call21) ?_;refine vk (vnt) ?_;refine ar [1,4,6,7,8,9,12] ?_
 rcases brc h with ⟨hc,h⟩|⟨hc,h⟩
 ·refine cnf (ntf hc) ?_
  refine .sr ?_;refine vk (AI Ol My) ?_;refine vk (AI Ad Ab) ?_;refine vk (AI Ad Ab) ?_;refine vk ((Em (RD a2 a3) (GI [a2,a3]) Hj).deep) ?_
  obtain ⟨x2,g2,h⟩:=bnd h
  refine vk (Aq (Gr g2) Tryz.call34) ?_;refine vk (vnt) ?_;refine ar [1,4,6,7,8,9,17] ?_
  rcases brc h with ⟨hc,h⟩|⟨hc,h⟩
  ·refine cnf (ntf hc) ?_
   refine .skip ?_
   show AW _ _ _ _ _ _
   refine .seq ?_;refine .sr ?_;refine vk (Aa) ?_;refine rk [1,4,6,7,8,9,25] ?_;refine .block ?_;refine .sr ?_;refine vk (vbi) ?_;refine ar [1,4,6,7,8,9,25,26] ?_
   rcases brc h with ⟨hc,h⟩|⟨hc,h⟩
   ·refine cnt (dT hc) ?_
    refine .sr ?_;refine vk (AI Ad Ab) ?_
    obtain ⟨x3,g3,h⟩:=bnd h
    refine vk (VOK.tupd (vs:=[.sl (Is x3.1),.i .i64 x3.2]) (Aq (Fg g3) Tryz.call35)) ?_;refine vk (Aa) ?_;refine vk (vex) ?_;refine vk (vex) ?_;refine asd ?_;refine ar [1,6,7,8,9,10,11] ?_;refine .seq ?_;refine .sr ?_;refine vk (Aa) ?_;refine vk (vbi) ?_;refine rk [1,6,7,8,9,10,11,34] ?_
    rcases brc h with ⟨hc,h⟩|⟨hc,h⟩
    ·refine cnf (ntf (dT hc)) ?_
     refine .skip ?_
     show AW _ _ _ _ _ _
     refine .sr ?_;refine vk (Aa) ?_;refine vk (vfa AJ) ?_;refine vk (Al BS) ?_
     obtain ⟨x4,g4,h⟩:=bnd h
     refine vk (VOK.tupd (vs:=[.ag [.sl (Is x4.1.shape),.sl (Its x4.1.items)],.i .i64 x4.2]) (Aq (Ef g4) Tryz.call10)) ?_;refine vk (vex) ?_;refine vk (vex) ?_
     refine stn ?_ Ab (by decide)
     refine ar [1,6,7,8,9] ?_;refine .ret ?_
     cases h
     exact ⟨_,_,⟨.inr rfl,Ad,Ab,p2⟩,rfl,rfl⟩
    refine cnt (ntt (dF hc)) ?_;refine .sr ?_;refine vk (vbd Ce Az AC) ?_;refine vk (Aa) ?_
    refine stn ?_ Ab (by decide)
    refine ar [1,6,7,8,9,10] ?_;refine .ret ?_
    cases h
    exact ⟨_,_,⟨.inr rfl,Ad,Ab,p2⟩,rfl,rfl⟩
   refine cnf (dF hc) ?_;refine .sr ?_;refine vk (vbi) ?_;refine ar [1,4,6,7,8,9,25,43] ?_
   rcases brc h with ⟨hc,h⟩|⟨hc,h⟩
   ·refine cnt (dT hc) ?_
    refine .sr ?_;refine vk (AI Ad Ab) ?_;refine vk (AI Ad Ab) ?_
    exact nomatch h
   refine cnf (dF hc) ?_;refine .sr ?_;refine vk (vbi) ?_;refine ar [1,4,6,7,8,9,25,50] ?_
   rcases brc h with ⟨hc,h⟩|⟨hc,h⟩
   ·refine cnt (dT hc) ?_
    refine .sr ?_;refine vk (AI Ad Ab) ?_;refine vk (AI Ad Ab) ?_
    obtain ⟨x5,g5,h⟩:=bnd h
    refine vk (VOK.tupd (vs:=[.ag [.sl (Is x5.1.shape),.sl (Its x5.1.items)],.i .i64 x5.2]) (Aq (KC g5) Tryz.call37)) ?_;refine vk (vex) ?_;refine vk (vex) ?_
    refine stn ?_ Ab (by decide)
    refine ar [1,6,7,8,9] ?_;refine .ret ?_
    cases h
    exact ⟨_,_,⟨.inr rfl,Ad,Ab,p2⟩,rfl,rfl⟩
   refine cnf (dF hc) ?_;refine .sr ?_;refine vk (vbi) ?_;refine ar [1,4,6,7,8,9,57] ?_
   rcases brc h with ⟨hc,h⟩|⟨hc,h⟩
   ·refine cnt (dT hc) ?_
    refine .sr ?_;refine vk (AI Ol My) ?_;refine vk (AI Ad Ab) ?_;refine vk (AI Ad Ab) ?_
    exact nomatch h
   refine cnf (dF hc) ?_;refine .skip ?_
   show AW _ _ _ _ _ _
   refine .seq ?_;refine .drawn 15 Bf (by kernel_rfl) ?_;refine dv (Aq QN Tryz.call39) ?_;refine dv (Aa) ?_
   obtain ⟨x6,g6,h⟩:=bnd h
   obtain ⟨ox6,isx6⟩:=P2 g6
   refine dv (Sr PJ Es gkR g6) ?_;refine dv (AI Ad Ab) ?_;refine dv (AI Ad Ab) ?_;refine dv (Aa) ?_;refine dv (AI Ad Ab) ?_;refine dv (AI Ad Ab) ?_
   obtain ⟨x7,g7,h⟩:=bnd h
   refine dv (Aq (IJ g7) Tryz.call41) ?_;refine dv (Aa) ?_
   obtain ⟨x8,g8,h⟩:=bnd h
   refine dv (Aq (JW g8) Tryz.call42) ?_
   obtain ⟨x9,g9,h⟩:=bnd h
   refine dv (Aq (HM g9) Tryz.call40) ?_
   obtain ⟨x10,g10,h⟩:=bnd h
   refine dv (VOK.tupd (vs:=[.ag [.sl (Is x10.1.shape),.sl (Its x10.1.items)],.i .i64 x10.2]) (Mv (ox6 _ _ g10))) ?_;refine dv (vex) ?_;refine dv (vex) ?_;refine dz ?_
   refine stn ?_ Ab (by decide)
   refine ar [8,9] ?_;refine .ret ?_
   cases h
   exact ⟨_,_,⟨.inr rfl,Ad,Ab,p2⟩,rfl,rfl⟩
  refine cnt (ntt (bf hc)) ?_;refine .sr ?_;refine vk (vbd Ce Az AC) ?_
  refine stn ?_ Ab (by decide)
  refine ar [1,4,6,7,8,9] ?_;refine .ret ?_
  cases h
  exact ⟨_,_,⟨.inr rfl,Ad,Ab,p2⟩,rfl,rfl⟩
 refine cnt (ntt (bf hc)) ?_;refine .sr ?_;refine vk (vbd Ce Az AC) ?_
 refine stn ?_ Ab (by decide)
 refine ar [1,4,6,7,8,9] ?_;refine .ret ?_
 cases h
 exact ⟨_,_,⟨.inr rfl,Ad,Ab,p2⟩,rfl,rfl⟩
def DB : Option ((Int×RT×Int)):=(some ((1,(false,[],[]),0)))
theorem DQ {r:(Int×RT×Int)} (h:DB=some r) :
  Fn Tryz.prog 12 [] (.d (.ag [.i .i64 r.1,.b r.2.1.1,.sl (L r.2.1.2.1),.sl (L r.2.1.2.2),.i .i64 r.2.2])):=by
 unfold DB at h
 refine Fn.ofC (rs:=[.cell 0 36]) (nt:=2) Tryz.func12 rfl rfl rfl (by simp) rfl ?_;refine .sr ?_;refine vk (van (Aj Sm) Sf) ?_;refine rk [0] ?_;refine .sr ?_;refine vk (vbd TX Sm Sf) ?_
 refine stn ?_ My (by decide)
 refine rk [0] ?_;refine .ret ?_
 cases h
 exact ⟨_,⟨.inr rfl,Ol,My,(by decide:(0:Nat)<5)⟩,rfl⟩
def D6 : Option (Bool):=(DB.bind fun x1=>((Nq ([2,2])).bind fun x2=>((Nq ([1,2,3])).bind fun x3=>((Cb x1 9076 x2 x3).bind fun x4=>(DB.bind fun x5=>((E4 x5 9033 x4.1).bind fun x6=>(Option.bind ((if x4.2=0 then (if x6.2=0 then (if ((List.length x6.1.items:Nat) : Int)=4 then ((A2 x6.1).bind fun x8=>(if x8=true then ((KQ x6.1).bind fun x9=>((GO x6.1 x9).bind fun x10=>(if x10=true then ((CZ 9066).bind fun x11=>(if x11=true then ((Gf x4.1 x6.1).bind fun x12=>(some (!x12))) else (some false))) else (some false)))) else (some false))) else (some false)) else (some false)) else (some false)) : Option (Bool)) fun (z7:Bool)=>(some (z7)))))))))
theorem E9 {r:Bool} (h:D6=some r) :
  Fn Tryz.prog 9 [] (.d (.b r)):=by
 unfold D6 at h
 refine Fn.o1 0 51 Tryz.func9 ?_;refine .sr ?_;refine ar [0] ?_;refine .sr ?_
 obtain ⟨x1,g1,h⟩:=bnd h
 refine vk (Aq (DQ g1) Tryz.call12) ?_;refine vk ((Kq (DP [2,2]) CS).deep) ?_
 obtain ⟨x2,g2,h⟩:=bnd h
 refine vk (Aq (Lr g2) Tryz.call13) ?_;refine vk ((Kq (DP [1,2,3]) CS).deep) ?_
 obtain ⟨x3,g3,h⟩:=bnd h
 refine vk (Aq (Lr g3) Tryz.call13) ?_
 obtain ⟨x4,g4,h⟩:=bnd h
 refine vk (VOK.tupd (vs:=[.ag [.sl (Is x4.1.shape),.sl (Its x4.1.items)],.i .i64 x4.2]) (Aq (Dh g4) Tryz.call11)) ?_;refine vk (Aa) ?_;refine vk (vex) ?_;refine vk (vex) ?_;refine vk (van (Aj Az) AC) ?_
 refine stn ?_ Ab (by decide)
 refine ar [0,1,2] ?_;refine .seq ?_
 obtain ⟨x5,g5,h⟩:=bnd h
 obtain ⟨x6,g6,h⟩:=bnd h
 refine .drawnF 7 [5] [(3,.nb [.sl (Is x6.1.shape),.sl (Its x6.1.items)])] [] Bf (by kernel_rfl) rfl ?_;refine dv (Aq (DQ g5) Tryz.call12) ?_;refine dv (Ge Ad Ab) ?_;refine dv (VOK.tupd (vs:=[.ag [.sl (Is x6.1.shape),.sl (Its x6.1.items)],.i .i64 x6.2]) (Aq (IG g6) Tryz.call17)) ?_;refine dv (Aa) ?_;refine dv (vex) ?_;refine dv (vex) ?_;refine dv (van (Aj Az) AC) ?_;refine dz ?_
 refine ⟨?_,?_,?_⟩
 ·intro k hk
  simp only [List.mem_cons,List.not_mem_nil,or_false] at hk
  subst hk
  exact ⟨_,_,_,rfl,rfl,rfl,rfl,rfl,rfl,vex⟩
 ·intro om e hom hge
  cases hom
  exact JB (cs:=[.sl (Is []),.sl (Its [])]) (cs':=[.sl (Is x6.1.shape),.sl (Its x6.1.items)]) Ab (by decide) rfl ((hge 3 (fun k hk v hv=>by
    simp only [List.mem_cons,List.not_mem_nil,or_false] at hk
    subst hk;exact (by decide:¬(some 19=some 3)) (congrArg (Option.map Prod.fst) hv))).trans rfl) ((congrArg AS (hge 18 (fun k hk v hv=>by
    simp only [List.mem_cons,List.not_mem_nil,or_false] at hk
    subst hk;exact (by decide:¬(some 19=some 18)) (congrArg (Option.map Prod.fst) hv)))).trans rfl) rfl rfl rfl rfl ⟨rfl,rfl⟩
 refine ar [0,1,2,3,4] ?_;refine .seq ?_;refine .gh (Gh.nbp (t:=3) rfl) ?_
 obtain ⟨z7,hz,h⟩:=bnd h
 refine AW.mr (σ:=Unit) (fun _=>True) (fun _=>[(0,.d (.b z7))]) (fun _=>[]) ?_ ?_
 ·skip
  refine .drawn 31 Bf (by kernel_rfl) ?_;refine dv (Aa) ?_;refine dv (vbi) ?_
  rcases brc hz with ⟨hc,hz⟩|⟨hc,hz⟩
  ·have hb0:(decide (x4.2=0))=true:=(dT hc)
   refine dv (VOK.lit (Aa) hb0) ?_;refine dv (Aa) ?_;refine dv (vbi) ?_;refine dv (Ao) ?_
   rcases brc hz with ⟨hc,hz⟩|⟨hc,hz⟩
   ·have hb1:(decide (x6.2=0))=true:=(dT hc)
    refine dv (VOK.lit (Aa) hb1) ?_;refine dv (vfa AJ) ?_;refine dv (Al BS) ?_;refine dv (A5 (Ay _) (Cl _) Ch) ?_;refine dv (vbi) ?_;refine dv (Ao) ?_
    rcases brc hz with ⟨hc,hz⟩|⟨hc,hz⟩
    ·have hb2:(decide (((List.length x6.1.items:Nat):Int)=4))=true:=(dT hc)
     refine dv (VOK.lit (Aa) hb2) ?_;refine dv (AI Ad Ab) ?_
     obtain ⟨x8,g8,hz⟩:=bnd hz
     refine dv (Aq (Bo g8) Tryz.call15) ?_;refine dv (Ao) ?_
     rcases brc hz with ⟨hc,hz⟩|⟨hc,hz⟩
     ·have hb3:x8=true:=hc
      refine dv (VOK.lit (Aa) hb3) ?_;refine dv (AI Ad Ab) ?_;refine dv (AI Ad Ab) ?_
      obtain ⟨x9,g9,hz⟩:=bnd hz
      refine dv (Aq (LV g9) Tryz.call16) ?_
      obtain ⟨x10,g10,hz⟩:=bnd hz
      refine dv (Aq (HY g10) Tryz.call14) ?_;refine dv (Ao) ?_
      rcases brc hz with ⟨hc,hz⟩|⟨hc,hz⟩
      ·have hb4:x10=true:=hc
       refine dv (VOK.lit (Aa) hb4) ?_
       obtain ⟨x11,g11,hz⟩:=bnd hz
       refine dv (Aq (EX g11) Tryz.call21) ?_;refine dv (Ao) ?_
       rcases brc hz with ⟨hc,hz⟩|⟨hc,hz⟩
       ·have hb5:x11=true:=hc
        refine dv (VOK.lit (Aa) hb5) ?_;refine dv (Ge Ad Ab) ?_;refine dv (AI Ad Ab) ?_
        obtain ⟨x12,g12,hz⟩:=bnd hz
        refine dv (Aq (J1 g12) Tryz.call25) ?_;refine dv (vnt) ?_;refine dv (Ao) ?_;refine dz ?_;refine asd ?_;refine RL.gk [0] ?_;refine .nil ?_
        cases hz
        exact jr () trivial
       have hb5:x11=false:=(bf hc)
       refine dv (VOK.lit (Aa) hb5) ?_;refine dgf ?_;refine dgf ?_;refine dgf ?_;refine dgf ?_;refine dv (Ao) ?_;refine dz ?_;refine asd ?_;refine RL.gk [0] ?_;refine .nil ?_
       cases hz
       exact jr () trivial
      have hb4:x10=false:=(bf hc)
      refine dv (VOK.lit (Aa) hb4) ?_;refine dgf ?_;refine dv (Ao) ?_;refine dv (Aa) ?_;refine dgf ?_;refine dgf ?_;refine dgf ?_;refine dgf ?_;refine dv (Ao) ?_;refine dz ?_;refine asd ?_;refine RL.gk [0] ?_;refine .nil ?_
      cases hz
      exact jr () trivial
     have hb3:x8=false:=(bf hc)
     refine dv (VOK.lit (Aa) hb3) ?_;refine dgf ?_;refine dgf ?_;refine dgf ?_;refine dgf ?_;refine dv (Ao) ?_;refine dv (Aa) ?_;refine dgf ?_;refine dv (Ao) ?_;refine dv (Aa) ?_;refine dgf ?_;refine dgf ?_;refine dgf ?_;refine dgf ?_;refine dv (Ao) ?_;refine dz ?_;refine asd ?_;refine RL.gk [0] ?_;refine .nil ?_
     cases hz
     exact jr () trivial
    have hb2:(decide (((List.length x6.1.items:Nat):Int)=4))=false:=(dF hc)
    refine dv (VOK.lit (Aa) hb2) ?_;refine dgf ?_;refine dgf ?_;refine dv (Ao) ?_;refine dv (Aa) ?_;refine dgf ?_;refine dgf ?_;refine dgf ?_;refine dgf ?_;refine dv (Ao) ?_;refine dv (Aa) ?_;refine dgf ?_;refine dv (Ao) ?_;refine dv (Aa) ?_;refine dgf ?_;refine dgf ?_;refine dgf ?_;refine dgf ?_;refine dv (Ao) ?_;refine dz ?_;refine asd ?_;refine RL.gk [0] ?_;refine .nil ?_
    cases hz
    exact jr () trivial
   have hb1:(decide (x6.2=0))=false:=(dF hc)
   refine dv (VOK.lit (Aa) hb1) ?_;refine dgf ?_;refine dgf ?_;refine dgf ?_;refine dgf ?_;refine dv (Ao) ?_;refine dv (Aa) ?_;refine dgf ?_;refine dgf ?_;refine dv (Ao) ?_;refine dv (Aa) ?_;refine dgf ?_;refine dgf ?_;refine dgf ?_;refine dgf ?_;refine dv (Ao) ?_;refine dv (Aa) ?_;refine dgf ?_;refine dv (Ao) ?_;refine dv (Aa) ?_;refine dgf ?_;refine dgf ?_;refine dgf ?_;refine dgf ?_;refine dv (Ao) ?_;refine dz ?_;refine asd ?_;refine RL.gk [0] ?_;refine .nil ?_
   cases hz
   exact jr () trivial
  have hb0:(decide (x4.2=0))=false:=(dF hc)
  refine dv (VOK.lit (Aa) hb0) ?_;refine dgf ?_;refine dgf ?_;refine dv (Ao) ?_;refine dv (Aa) ?_;refine dgf ?_;refine dgf ?_;refine dgf ?_;refine dgf ?_;refine dv (Ao) ?_;refine dv (Aa) ?_;refine dgf ?_;refine dgf ?_;refine dv (Ao) ?_;refine dv (Aa) ?_;refine dgf ?_;refine dgf ?_;refine dgf ?_;refine dgf ?_;refine dv (Ao) ?_;refine dv (Aa) ?_;refine dgf ?_;refine dv (Ao) ?_;refine dv (Aa) ?_;refine dgf ?_;refine dgf ?_;refine dgf ?_;refine dgf ?_;refine dv (Ao) ?_;refine dz ?_;refine asd ?_;refine RL.gk [0] ?_;refine .nil ?_
  cases hz
  exact jr () trivial
 rintro _ _
 refine .ret ?_
 cases h
 exact ⟨rfl,rfl⟩
theorem TN : D6=some true:=by kernel_rfl
theorem T8 : DB=some (1,(false,[],[]),0):=by kernel_rfl
theorem S9 {a b:Arr} {e:Int×RT×Int} (he:e.1=0∨e.1=1) (oa:okAr a) (ob:okAr b) (ra:A3 a) (rb:A3 b) : CU e [a,b]=some true:=by
 rw [Qy he (by simp) (by simpa using ⟨oa,ob⟩)]
 simp [ra,rb]
theorem QV : CZ 8595=some true:=by kernel_rfl
theorem Rr {e:Int×RT×Int} (he:e.1=0∨e.1=1) {a b:Arr} (oa:okAr a) (ra:A3 a) (ob:okAr b) (rb:A3 b) : Cb e 8595 a b=Bv a b:=by
 unfold Cb
 rw [QV,oB,if_pos rfl,S9 he oa ob ra rb,oB,if_pos rfl,if_neg (by decide),if_neg (by decide),if_pos rfl]
 cases Bv a b<;>rfl
end Go.FL
namespace Go.FL
open Go Go.RowKit Go.ChangeShapes Go.WideShapes Go.ChangeAt
section
variable {H:Type}
def OpF (enc:TypeId×Value→H) (P:Program) (W:World) (n:Nat) (t:TypeId) {α:Type} (F:α→List DV) (Q:α→Prop) : Prop :=
 ∀ (fuel:Nat) (cs:List Value) (x:DataW H×List MemPlace),fuel≤n→DataW.trod enc P W 0 (fun _=>true) true fuel t cs=some x→(∀ m∈DataW.weights P t x.1,m≤reachBytes) →
  ∃ a,Q a∧RepAll W (fun b=>b<W.heap.size) (F a) cs∧∀ u∈cs,u.oneCell'=true
variable {enc:TypeId×Value→H} {P:Program} {W:World}
theorem OpF.mono {n m t:Nat} {α:Type} {F:α→List DV} {Q:α→Prop} (h:OpF enc P W n t F Q) (hm:m≤n) : OpF enc P W m t F Q:=fun fuel cs x hf=>h fuel cs x (by omega)
theorem OpF.map {n t:Nat} {α β:Type} {F:α→List DV} {Q:α→Prop} {G:β→List DV} {R:β→Prop} (h:OpF enc P W n t F Q) (f:∀ a,Q a→∃ b,R b∧F a=G b) : OpF enc P W n t G R:=fun fuel cs x hf h1 h2=>by
 obtain ⟨a,q,r,c⟩:=h fuel cs x hf h1 h2
 obtain ⟨b,rb,e⟩:=f a q
 exact ⟨b,rb,e▸r,c⟩
theorem LM {n t:Nat} {k:IntKind} (ht:P.underlying t=some (.int k)) : OpF enc P W n t (fun z:Int=>[.i k z]) (fun z=>(Lit.int k z).wf=true):=fun fuel cs x _ h _=>by
 obtain ⟨z,rfl,_,hw⟩:=DataW.trod_int ht h
 exact ⟨z,hw,.cons (.i _ _) .nil,by simp [Value.oneCell']⟩
theorem Ry {n t:Nat} (ht:P.underlying t=some .bool) : OpF enc P W n t (fun z:Bool=>[.b z]) (fun _=>True):=fun fuel cs x _ h _=>by
 obtain ⟨z,rfl,_⟩:=DataW.trod_bool ht h
 exact ⟨z,trivial,.cons (.b _) .nil,by simp [Value.oneCell']⟩
theorem Gz {e:TypeId} : ∀ {ds:List (DataW H)} {d:DataW H},d∈ds→∀ q∈DataW.weights P e d,q∈DataW.weightsAll P e ds
 | d::ds,d',hd,q,hq=>by
  rw [DataW.weightsAll,List.mem_append]
  rcases List.mem_cons.1 hd with rfl|hd
  ·exact .inl hq
  ·exact .inr (Gz hd q hq)
theorem HK {n t e sz:Nat} {α:Type} {F:α→List DV} {Q:α→Prop} (D:α→DV) (ht:P.underlying t=some (.slice e)) (hs:P.cellsOf e=sz) (h0:0<sz) (hD:∀ a,(D a).cells=F a) (h:OpF enc P W n e F Q) :
  OpF enc P W (n+1) t (fun xs:List α=>[.sl (xs.map D)]) (fun xs=>(∀ x∈xs,Q x)∧xs.length * P.bytesOf e≤reachBytes):=by
 intro fuel cs x hf hx hw
 rcases DataW.trod_slice ht hx with ⟨rfl,rfl⟩|⟨a,len,cap,elems,rest,m,rfl,rfl,rfl,hb,hl,hm,hlen,hel,_,_⟩
 ·exact ⟨[],⟨by simp,by simp⟩,.cons (.sl0 _ _) .nil,by simp [Value.oneCell']⟩
 ·simp only [DataW.weights,ht] at hw
  have hroom:(elems.length+rest.length) * P.bytesOf e≤reachBytes:=by
   have:=hw ((elems.length+rest.length) * P.bytesOf e) (by simp)
   exact this
  have each:∀ i,i<len→∃ vs y,W.cells? 0 (a.add (i * P.cellsOf e)) (P.cellsOf e)=some vs∧DataW.trod enc P W 0 (fun _=>true) true m e vs=some y∧∀ q∈DataW.weights P e y.1,q≤reachBytes:=by
   intro i hi
   have h1:=hel i hi
   rw [lG (show i<elems.length by omega)] at h1
   obtain ⟨vs,h2,h3⟩:=Option.bind_eq_some_iff.1 h1
   refine ⟨vs,_,h2,h3,fun q hq=>hw q ?_⟩
   simp only [List.mem_cons,List.mem_append]
   exact .inr (.inl (Gz (d:=(elems[i]'(by omega)).1) (List.mem_map_of_mem (List.getElem_mem _)) q hq))
  by_cases hlen0:len=0
  ·subst hlen0
   exact ⟨[],⟨by simp,by simp⟩,.cons (.sl0 _ _) .nil,by simp [Value.oneCell']⟩
  ·obtain ⟨b,off,spot⟩:=a
   have hspot:spot=none:=by
    obtain ⟨vs,y,h1,_,_⟩:=each 0 (by omega)
    obtain ⟨_,k2,k3⟩:=World.cells?_some h1
    have h4:=k3 0 (by omega)
    rw [lG (show 0<vs.length by omega)] at h4
    simpa [Addr.add] using World.cell?_spot h4
   subst hspot
   have build:∀ j,j≤len→∃ (xs:List α) (vs:List Value),xs.length=j∧(∀ x∈xs,Q x)∧Has W b off vs∧RepRows W (fun b=>b<W.heap.size) sz (xs.map D) vs:=by
    intro j
    induction j with
    | zero=>exact fun _=>⟨[],[],rfl,by simp,fun j u hj=>by simp at hj,.nil _⟩
    | succ j ih =>
     intro hj
     obtain ⟨xs,vs,k1,k2,k3,k4⟩:=ih (by omega)
     obtain ⟨us,y,g1,g2,g3⟩:=each j (by omega)
     obtain ⟨_,g4,g5⟩:=World.cells?_some g1
     obtain ⟨x,q1,q2,q3⟩:=h m us y (by omega) g2 g3
     have hvl:=k4.length
     rw [List.length_map,k1] at hvl
     refine ⟨xs++[x],vs++us,by simp [k1],?_,?_,?_⟩
     ·intro z hz
      rcases List.mem_append.1 hz with hz|hz
      ·exact k2 z hz
      ·simp at hz;subst hz;exact q1
     ·intro i u hi
      rw [List.getElem?_append] at hi
      split at hi
      ·exact k3 i u hi
      ·rename_i hge
       have:=g5 (i-vs.length) (by have:=(lS.1 hi).1;omega)
       rw [hi] at this
       rw [← this,hs]
       have e1:off+i=off+j * sz+(i-vs.length):=by omega
       rw [e1,add_plain,add_plain]
     ·rw [List.map_append]
      refine k4.append ?_
      have:=RepRows.cons (sz:=sz) (x:=D x) (xs:=[]) (us:=us) (vs:=[]) (by omega) q3 (by rw [hD];exact q2) (.nil sz)
      simpa using this
   obtain ⟨xs,vs,k1,k2,k3,k4⟩:=build len (Nat.le_refl _)
   have hne:xs≠[]:=fun h=>by subst h;simp at k1;omega
   have hlt:b<W.heap.size:=by
    obtain ⟨us,y,g1,_,_⟩:=each 0 (by omega)
    have:=World.cells?_block g1 (by omega)
    rwa [add_plain] at this
   refine ⟨xs,⟨k2,nT (Nat.mul_le_mul_right _ (by omega)) hroom⟩,.cons ?_ .nil,by simp [Value.oneCell']⟩
   have:=Rep.sl (w:=W) (I:=fun b=>b<W.heap.size) (xs.map D) b off sz cap vs (by simpa using hne) (by rw [List.length_map,k1];exact hl) hlt h0 k3 k4
   rwa [List.length_map,k1] at this
def fTO (P:Program) (t:TypeId) : Option (List (TypeId×Nat)):=match P.underlying t with
 | some (.struct fs)=>some (fs.toList.map fun f=>(f.type,f.offset))
 | _=>none
theorem Jy {t:Nat} {l:List (TypeId×Nat)} (h:fTO P t=some l) : ∃ fs,P.underlying t=some (.struct fs)∧fs.toList.map (fun f=>(f.type,f.offset))=l:=by
 unfold fTO at h
 split at h
 ·rename_i fs hu;exact ⟨fs,hu,oI h⟩
 ·cases h
theorem NH {α0 α1:Type} {t n:Nat} {T0 s0:Nat} {F0:α0→List DV} {Q0:α0→Prop} {T1 s1:Nat} {F1:α1→List DV} {Q1:α1→Prop} (ht:fTO P t=some [(T0,0),(T1,s0)]) (hc:P.cellsOf t=s0+s1) (z0:P.cellsOf T0=s0) (h0:OpF enc P W n T0 F0 Q0) (z1:P.cellsOf T1=s1) (h1:OpF enc P W n T1 F1 Q1) :
  OpF enc P W (n+1) t (fun a:α0×α1=>F0 a.1++(F1 a.2)) (fun a=>Q0 a.1∧Q1 a.2):=by
 intro fuel cs x hf h hw
 obtain ⟨fs,hu,hfs⟩:=Jy ht
 obtain ⟨xs,m,rfl,rfl,hl,hlen,hfield⟩:=DataW.trod_struct hu h
 have hsz:fs.size=2:=by have:=congrArg List.length hfs;simpa using this
 have hm:m≤n:=by omega
 have each:∀ (i T off:Nat),[(T0,0),(T1,s0)][i]?=some (T,off)→∃ y,DataW.trod enc P W 0 (fun _=>true) true m T ((cs.drop off).take (P.cellsOf T))=some y∧∀ q∈DataW.weights P T y.1,q≤reachBytes:=by
  intro i T off hi
  rw [← hfs] at hi
  obtain ⟨f,hf1,hf2⟩:∃ f,fs[i]?=some f∧(f.type,f.offset)=(T,off):=by
   rw [List.getElem?_map,Option.map_eq_some_iff] at hi
   obtain ⟨f,h1,h2⟩:=hi
   exact ⟨f,by simpa using h1,h2⟩
  cases hf2
  have hi2:i<xs.length:=by have:=(Array.getElem?_eq_some_iff.1 hf1).1;omega
  refine ⟨xs[i],by rw [hfield i f hf1,lG hi2],fun q hq=>hw q ?_⟩
  simp only [DataW.weights,hu]
  exact DataW.weights_mem_each (j:=i) (by simp [hf1]) (by simp [hi2]) q hq
 obtain ⟨y0,e0,w0⟩:=each 0 T0 (0) rfl
 obtain ⟨a0,q0,r0,c0⟩:=h0 m _ y0 hm e0 w0
 rw [z0] at r0 c0
 obtain ⟨y1,e1,w1⟩:=each 1 T1 (s0) rfl
 obtain ⟨a1,q1,r1,c1⟩:=h1 m _ y1 hm e1 w1
 rw [z1] at r1 c1
 have hcs:cs=(cs.drop (0)).take s0++(cs.drop (s0)).take s1:=by
  have hl2:cs.length=s0+s1:=by rw [hl,hc]
  clear each hfield h
  apply List.ext_getElem?
  intro j
  simp only [List.getElem?_append,List.getElem?_take,List.getElem?_drop,List.length_take,List.length_drop]
  repeat' split
  all_goals first|(congr 1;omega)|(rw [List.getElem?_eq_none (by omega)])
 refine ⟨(a0,a1),⟨q0,q1⟩,?_,?_⟩
 ·rw [hcs];exact (r0.append r1)
 ·intro u hu2
  rw [hcs] at hu2
  simp only [List.mem_append] at hu2
  rcases hu2 with hu2|hu2
  ·exact c0 u hu2
  ·exact c1 u hu2
theorem Nv {α0 α1 α2:Type} {t n:Nat} {T0 s0:Nat} {F0:α0→List DV} {Q0:α0→Prop} {T1 s1:Nat} {F1:α1→List DV} {Q1:α1→Prop} {T2 s2:Nat} {F2:α2→List DV} {Q2:α2→Prop} (ht:fTO P t=some [(T0,0),(T1,s0),(T2,s0+s1)]) (hc:P.cellsOf t=s0+s1+s2) (z0:P.cellsOf T0=s0) (h0:OpF enc P W n T0 F0 Q0) (z1:P.cellsOf T1=s1) (h1:OpF enc P W n T1 F1 Q1) (z2:P.cellsOf T2=s2) (h2:OpF enc P W n T2 F2 Q2) :
  OpF enc P W (n+1) t (fun a:α0×α1×α2=>F0 a.1++(F1 a.2.1++(F2 a.2.2))) (fun a=>Q0 a.1∧Q1 a.2.1∧Q2 a.2.2):=by
 intro fuel cs x hf h hw
 obtain ⟨fs,hu,hfs⟩:=Jy ht
 obtain ⟨xs,m,rfl,rfl,hl,hlen,hfield⟩:=DataW.trod_struct hu h
 have hsz:fs.size=3:=by have:=congrArg List.length hfs;simpa using this
 have hm:m≤n:=by omega
 have each:∀ (i T off:Nat),[(T0,0),(T1,s0),(T2,s0+s1)][i]?=some (T,off)→∃ y,DataW.trod enc P W 0 (fun _=>true) true m T ((cs.drop off).take (P.cellsOf T))=some y∧∀ q∈DataW.weights P T y.1,q≤reachBytes:=by
  intro i T off hi
  rw [← hfs] at hi
  obtain ⟨f,hf1,hf2⟩:∃ f,fs[i]?=some f∧(f.type,f.offset)=(T,off):=by
   rw [List.getElem?_map,Option.map_eq_some_iff] at hi
   obtain ⟨f,h1,h2⟩:=hi
   exact ⟨f,by simpa using h1,h2⟩
  cases hf2
  have hi2:i<xs.length:=by have:=(Array.getElem?_eq_some_iff.1 hf1).1;omega
  refine ⟨xs[i],by rw [hfield i f hf1,lG hi2],fun q hq=>hw q ?_⟩
  simp only [DataW.weights,hu]
  exact DataW.weights_mem_each (j:=i) (by simp [hf1]) (by simp [hi2]) q hq
 obtain ⟨y0,e0,w0⟩:=each 0 T0 (0) rfl
 obtain ⟨a0,q0,r0,c0⟩:=h0 m _ y0 hm e0 w0
 rw [z0] at r0 c0
 obtain ⟨y1,e1,w1⟩:=each 1 T1 (s0) rfl
 obtain ⟨a1,q1,r1,c1⟩:=h1 m _ y1 hm e1 w1
 rw [z1] at r1 c1
 obtain ⟨y2,e2,w2⟩:=each 2 T2 (s0+s1) rfl
 obtain ⟨a2,q2,r2,c2⟩:=h2 m _ y2 hm e2 w2
 rw [z2] at r2 c2
 have hcs:cs=(cs.drop (0)).take s0++((cs.drop (s0)).take s1++(cs.drop (s0+s1)).take s2):=by
  have hl2:cs.length=s0+s1+s2:=by rw [hl,hc]
  clear each hfield h
  apply List.ext_getElem?
  intro j
  simp only [List.getElem?_append,List.getElem?_take,List.getElem?_drop,List.length_take,List.length_drop]
  repeat' split
  all_goals first|(congr 1;omega)|(rw [List.getElem?_eq_none (by omega)])
 refine ⟨(a0,a1,a2),⟨q0,q1,q2⟩,?_,?_⟩
 ·rw [hcs];exact (r0.append (r1.append r2))
 ·intro u hu2
  rw [hcs] at hu2
  simp only [List.mem_append] at hu2
  rcases hu2 with hu2|hu2|hu2
  ·exact c0 u hu2
  ·exact c1 u hu2
  ·exact c2 u hu2
theorem Nd {α0 α1 α2 α3:Type} {t n:Nat} {T0 s0:Nat} {F0:α0→List DV} {Q0:α0→Prop} {T1 s1:Nat} {F1:α1→List DV} {Q1:α1→Prop} {T2 s2:Nat} {F2:α2→List DV} {Q2:α2→Prop} {T3 s3:Nat} {F3:α3→List DV} {Q3:α3→Prop} (ht:fTO P t=some [(T0,0),(T1,s0),(T2,s0+s1),(T3,s0+s1+s2)]) (hc:P.cellsOf t=s0+s1+s2+s3) (z0:P.cellsOf T0=s0) (h0:OpF enc P W n T0 F0 Q0) (z1:P.cellsOf T1=s1) (h1:OpF enc P W n T1 F1 Q1) (z2:P.cellsOf T2=s2) (h2:OpF enc P W n T2 F2 Q2) (z3:P.cellsOf T3=s3) (h3:OpF enc P W n T3 F3 Q3) :
  OpF enc P W (n+1) t (fun a:α0×α1×α2×α3=>F0 a.1++(F1 a.2.1++(F2 a.2.2.1++(F3 a.2.2.2)))) (fun a=>Q0 a.1∧Q1 a.2.1∧Q2 a.2.2.1∧Q3 a.2.2.2):=by
 intro fuel cs x hf h hw
 obtain ⟨fs,hu,hfs⟩:=Jy ht
 obtain ⟨xs,m,rfl,rfl,hl,hlen,hfield⟩:=DataW.trod_struct hu h
 have hsz:fs.size=4:=by have:=congrArg List.length hfs;simpa using this
 have hm:m≤n:=by omega
 have each:∀ (i T off:Nat),[(T0,0),(T1,s0),(T2,s0+s1),(T3,s0+s1+s2)][i]?=some (T,off)→∃ y,DataW.trod enc P W 0 (fun _=>true) true m T ((cs.drop off).take (P.cellsOf T))=some y∧∀ q∈DataW.weights P T y.1,q≤reachBytes:=by
  intro i T off hi
  rw [← hfs] at hi
  obtain ⟨f,hf1,hf2⟩:∃ f,fs[i]?=some f∧(f.type,f.offset)=(T,off):=by
   rw [List.getElem?_map,Option.map_eq_some_iff] at hi
   obtain ⟨f,h1,h2⟩:=hi
   exact ⟨f,by simpa using h1,h2⟩
  cases hf2
  have hi2:i<xs.length:=by have:=(Array.getElem?_eq_some_iff.1 hf1).1;omega
  refine ⟨xs[i],by rw [hfield i f hf1,lG hi2],fun q hq=>hw q ?_⟩
  simp only [DataW.weights,hu]
  exact DataW.weights_mem_each (j:=i) (by simp [hf1]) (by simp [hi2]) q hq
 obtain ⟨y0,e0,w0⟩:=each 0 T0 (0) rfl
 obtain ⟨a0,q0,r0,c0⟩:=h0 m _ y0 hm e0 w0
 rw [z0] at r0 c0
 obtain ⟨y1,e1,w1⟩:=each 1 T1 (s0) rfl
 obtain ⟨a1,q1,r1,c1⟩:=h1 m _ y1 hm e1 w1
 rw [z1] at r1 c1
 obtain ⟨y2,e2,w2⟩:=each 2 T2 (s0+s1) rfl
 obtain ⟨a2,q2,r2,c2⟩:=h2 m _ y2 hm e2 w2
 rw [z2] at r2 c2
 obtain ⟨y3,e3,w3⟩:=each 3 T3 (s0+s1+s2) rfl
 obtain ⟨a3,q3,r3,c3⟩:=h3 m _ y3 hm e3 w3
 rw [z3] at r3 c3
 have hcs:cs=(cs.drop (0)).take s0++((cs.drop (s0)).take s1++((cs.drop (s0+s1)).take s2++(cs.drop (s0+s1+s2)).take s3)):=by
  have hl2:cs.length=s0+s1+s2+s3:=by rw [hl,hc]
  clear each hfield h
  apply List.ext_getElem?
  intro j
  simp only [List.getElem?_append,List.getElem?_take,List.getElem?_drop,List.length_take,List.length_drop]
  repeat' split
  all_goals first|(congr 1;omega)|(rw [List.getElem?_eq_none (by omega)])
 refine ⟨(a0,a1,a2,a3),⟨q0,q1,q2,q3⟩,?_,?_⟩
 ·rw [hcs];exact (r0.append (r1.append (r2.append r3)))
 ·intro u hu2
  rw [hcs] at hu2
  simp only [List.mem_append] at hu2
  rcases hu2 with hu2|hu2|hu2|hu2
  ·exact c0 u hu2
  ·exact c1 u hu2
  ·exact c2 u hu2
  ·exact c3 u hu2
theorem P5 {t:TypeId} {v:Value} {d:DataW H} {ps:List MemPlace} {α:Type} {D:α→DV} {Q:α→Prop} (h:∀ n,OpF enc P W n t (fun a=>[D a]) Q) (hv:v.cells.toList=[v])
  (hd:DataW.Trod enc P W 0 (fun _=>true) true t v d ps) (hw:∀ m∈DataW.weights P t d,m≤reachBytes):∃ a,Q a∧Rep W (fun b=>b<W.heap.size) (D a) v:=by
 obtain ⟨fuel,hf⟩:=hd
 obtain ⟨a,q,r,_⟩:=h fuel fuel _ _ (Nat.le_refl _) hf hw
 rw [hv] at r
 cases r with
 | cons r _=>exact ⟨a,q,r⟩
end
end Go.FL
namespace Go.FL
open Go Go.Proofs
section
variable {H:Type} {enc:TypeId×Value→H} {W:World}
theorem OZ {n:Nat} : OpF enc Tryz.prog W (n+1) 32 (fun a:List Nat=>[.sl (L a)]) (fun a=>okL 35184372087808 a=true):=by
 refine (HK (α:=Int) (F:=fun z=>[.i .u32 z]) (sz:=1) (fun z=>.i .u32 z) (by kernel_rfl:Tryz.prog.underlying 32=some (.slice 128)) (by kernel_rfl) (by decide) (fun _=>rfl) (LM (by kernel_rfl))).map fun zs hz=>?_
 obtain ⟨a,h1,h2⟩:=Mz zs hz.1
 refine ⟨a,Ib.2 ⟨h1,?_⟩,by rw [← h2]⟩
 have h3:=hz.2
 rw [show Tryz.prog.bytesOf 128=4 by kernel_rfl,show reachBytes=140737488351232 by decide] at h3
 have:=congrArg List.length h2
 rw [List.length_map,Ac] at this
 omega
theorem L8 (n:Nat) : OpF enc Tryz.prog W n 32 (fun a:List Nat=>[.sl (L a)]) (fun a=>okL 35184372087808 a=true):=OZ.mono (Nat.le_succ n)
theorem Sw (n:Nat) : OpF enc Tryz.prog W n 34 (fun r:RT=>[.b r.1,.sl (L r.2.1),.sl (L r.2.2)]) (fun r=>Ig r=true):=by
 refine OpF.mono (n:=n+1) ((Nv (t:=34) (T0:=4) (T1:=32) (T2:=32) (s0:=1) (s1:=1) (s2:=1) (by kernel_rfl) (by kernel_rfl) (by kernel_rfl) (Ry (by kernel_rfl)) (by kernel_rfl) (L8 n) (by kernel_rfl) (L8 n)).map fun r hr=>?_) (Nat.le_succ n)
 exact ⟨r,by rw [Ig,hr.2.1,hr.2.2];rfl,rfl⟩
end
section
variable {H:Type} {enc:TypeId×Value→H} {W:World}
theorem PK {n:Nat} : OpF enc Tryz.prog W (n+1) 24 (fun l:List Int=>[.sl (Is l)]) (fun l=>(∀ z∈l,-9223372036854775808≤z∧z≤9223372036854775807)∧l.length≤17592186044416):=by
 refine (HK (α:=Int) (F:=fun z=>[.i .i64 z]) (sz:=1) (fun z=>.i .i64 z) (by kernel_rfl:Tryz.prog.underlying 24=some (.slice 3)) (by kernel_rfl) (by decide) (fun _=>rfl) (LM (by kernel_rfl))).map fun zs hz=>?_
 refine ⟨zs,⟨fun z h=>?_,?_⟩,rfl⟩
 ·have:=hz.1 z h
  simp [Lit.wf,IntKind.min,IntKind.max,IntKind.signed,IntKind.bits] at this
  omega
 ·have h3:=hz.2
  rw [show Tryz.prog.bytesOf 3=8 by kernel_rfl,show reachBytes=140737488351232 by decide] at h3
  omega
theorem Sa (n:Nat) : OpF enc Tryz.prog W n 24 (fun l:List Int=>[.sl (Is l)]) (fun l=>(∀ z∈l,-9223372036854775808≤z∧z≤9223372036854775807)∧l.length≤17592186044416):=PK.mono (Nat.le_succ n)
def cI6 (x:Itm) : List DV:=[.i .u8 x.kind,.b x.num.1,.sl (L x.num.2.1),.sl (L x.num.2.2),.i .i32 x.char,.sl (Ars x.box)]
def cA2 (a:Arr) : List DV:=[.sl (Is a.shape),.sl (Its a.items)]
theorem Rb {n:Nat} (h:OpF enc Tryz.prog W n 27 cA2 okAr) : OpF enc Tryz.prog W (n+1) 56 (fun l:List Arr=>[.sl (Ars l)]) (fun l=>l.length≤2932031007402∧∀ a∈l,okAr a):=by
 refine (HK (α:=Arr) (F:=cA2) (sz:=2) Arr.dv (by kernel_rfl:Tryz.prog.underlying 56=some (.slice 27)) (by kernel_rfl) (by decide) (fun a=>by rw [Arr.dv_eq];rfl) h).map fun zs hz=>?_
 refine ⟨zs,⟨?_,hz.1⟩,by rw [EZ]⟩
 have h3:=hz.2
 rw [show Tryz.prog.bytesOf 27=48 by kernel_rfl,show reachBytes=140737488351232 by decide] at h3
 omega
theorem Lk {n:Nat} (h:OpF enc Tryz.prog W n 58 cI6 okI) : OpF enc Tryz.prog W (n+1) 23 (fun l:List Itm=>[.sl (Its l)]) (fun l=>l.length≤1466015503701∧∀ x∈l,okI x):=by
 refine (HK (α:=Itm) (F:=cI6) (sz:=6) Itm.dv (by kernel_rfl:Tryz.prog.underlying 23=some (.slice 58)) (by kernel_rfl) (by decide) (fun a=>by rw [Itm.dv_eq];rfl) h).map fun zs hz=>?_
 refine ⟨zs,⟨?_,hz.1⟩,by rw [Fz]⟩
 have h3:=hz.2
 rw [show Tryz.prog.bytesOf 58=96 by kernel_rfl,show reachBytes=140737488351232 by decide] at h3
 omega
theorem NW : ∀ n,OpF enc Tryz.prog W n 58 cI6 okI∧OpF enc Tryz.prog W n 27 cA2 okAr
 | 0=>by
  constructor <;>
  ·intro fuel cs x hf h _
   obtain rfl:fuel=0:=by omega
   simp [DataW.trod] at h
 | n+1=>by
  obtain ⟨hI,hA⟩:=NW n
  constructor
  ·refine OpF.mono (n:=n+1+1) ((Nd (t:=58) (T0:=55) (T1:=34) (T2:=21) (T3:=56) (s0:=1) (s1:=3) (s2:=1) (s3:=1) (by kernel_rfl) (by kernel_rfl) (by kernel_rfl) (LM (by kernel_rfl:Tryz.prog.underlying 55=some (.int .u8))) (by kernel_rfl) (Sw (n+1)) (by kernel_rfl) (LM (by kernel_rfl:Tryz.prog.underlying 21=some (.int .i32))) (by kernel_rfl) (Rb hA)).map fun r hr=>?_) (Nat.le_succ _)
   obtain ⟨k,q,c,b⟩:=r
   obtain ⟨h1,h2,h3,h4⟩:=hr
   refine ⟨.mk k q c b,?_,rfl⟩
   rw [D8]
   refine ⟨?_,h2,?_,h4⟩
   ·simp [Lit.wf,IntKind.min,IntKind.max,IntKind.signed,IntKind.bits] at h1
    show 0≤k∧k<256
    omega
   ·simp [Lit.wf,IntKind.min,IntKind.max,IntKind.signed,IntKind.bits] at h3
    show -2147483648≤c∧c<2147483648
    omega
  ·refine OpF.mono (n:=n+1+1) ((NH (t:=27) (T0:=24) (T1:=23) (s0:=1) (s1:=1) (by kernel_rfl) (by kernel_rfl) (by kernel_rfl) (Sa (n+1)) (by kernel_rfl) (Lk hI)).map fun r hr=>?_) (Nat.le_succ _)
   obtain ⟨s,i⟩:=r
   obtain ⟨⟨h1,h2⟩,h3,h4⟩:=hr
   refine ⟨.mk s i,?_,rfl⟩
   rw [BE]
   exact ⟨h1,h2,h3,h4⟩
theorem Qs (n:Nat) : OpF enc Tryz.prog W n 23 (fun l:List Itm=>[.sl (Its l)]) (fun l=>l.length≤1466015503701∧∀ x∈l,okI x):=(Lk (NW n).1).mono (Nat.le_succ n)
end
end Go.FL
