/-
  Part 4 of the base of the proofs: a logic of our own over the calculus, the contracts of the functions
-/
import Derived.Test.YtipdmmpgepoggaaGreatSeC
set_option linter.unusedVariables false
namespace Go.FL
open Go Go.Proofs
mutual
def tyI : Itm→Itm
 | .mk k _ _ b=>if k=1 then .mk 1 (ofQ 0) 0 [] else if k=2 then .mk 2 (false,[],[]) 32 [] else .mk 3 (false,[],[]) 0 (tyBs b)
def tyA : Arr→Arr
 | .mk s i=>.mk s (tyIs i)
def tyIs : List Itm→List Itm
 | []=>[]
 | x::xs=>tyI x::tyIs xs
def tyBs : List Arr→List Arr
 | []=>[]
 | a::_=>[tyA a]
end
theorem DH (s:List Int) (i:List Itm) : (Arr.mk s i).shape=s:=rfl
theorem Dv (s:List Int) (i:List Itm) : (Arr.mk s i).items=i:=rfl
theorem KX (k:Int) (n:RT) (c:Int) (b:List Arr) : (Itm.mk k n c b).kind=k:=rfl
theorem TV (k:Int) (n:RT) (c:Int) (b:List Arr) : (Itm.mk k n c b).num=n:=rfl
theorem T7 (k:Int) (n:RT) (c:Int) (b:List Arr) : (Itm.mk k n c b).char=c:=rfl
theorem SA (k:Int) (n:RT) (c:Int) (b:List Arr) : (Itm.mk k n c b).box=b:=rfl
theorem RQ (xs:List Itm) : tyIs xs=xs.map tyI:=by induction xs with
 | nil=>simp [tyIs]
 | cons x xs ih=>simp [tyIs,ih]
theorem Hi (a:Arr) : tyA a=.mk a.shape (a.items.map tyI):=by cases a;simp only [tyA,RQ];rfl
theorem EO : ∀ {xs:List Itm},rIs xs=true↔∀ x∈xs,rI x=true
 | []=>by simp [rIs]
 | x::xs=>by simp [rIs,EO (xs:=xs)]
theorem Pt : ∀ {xs:List Arr},rBs xs=true↔∀ a∈xs,A6 a=false∧rA a=true
 | []=>by simp [rBs]
 | x::xs=>by simp [rBs,Pt (xs:=xs)]
theorem Lf {x:Itm} (h:rI x=true) : (x.kind=1∧Fl x.num=true∧x.char=0∧x.box=[])∨(x.kind=2∧chB x.char=true∧x.num=(false,[],[])∧x.box=[])∨(x.kind=3∧x.num=(false,[],[])∧x.char=0∧∃ a,x.box=[a]∧A6 a=false∧rA a=true):=by
 rw [RE] at h
 by_cases k1:x.kind=1
 ·rw [if_pos k1] at h;simp only [Bool.and_eq_true,decide_eq_true_eq] at h
  exact .inl ⟨k1,h.1,h.2.1,List.length_eq_zero_iff.1 h.2.2⟩
 rw [if_neg k1] at h
 by_cases k2:x.kind=2
 ·rw [if_pos k2] at h;simp only [Bool.and_eq_true,decide_eq_true_eq] at h
  exact .inr (.inl ⟨k2,h.1,(Ld x).1 h.2.1,List.length_eq_zero_iff.1 h.2.2⟩)
 rw [if_neg k2] at h
 by_cases k3:x.kind=3
 ·rw [if_pos k3] at h;simp only [Bool.and_eq_true,decide_eq_true_eq] at h
  obtain ⟨a,ha⟩:=List.length_eq_one_iff.1 h.1
  refine .inr (.inr ⟨k3,(Ld x).1 h.2.1,h.2.2.1,a,ha,Pt.1 h.2.2.2 a (by simp [ha])⟩)
 ·rw [if_neg k3] at h;cases h
def Tn (x:Itm) : Prop:=rI (tyI x)=true∧dI (tyI x)=dI x∧cI (tyI x)=cI x∧tyI (tyI x)=tyI x∧(tyI x).kind=x.kind∧okI (tyI x)
theorem Oy {s:List Int} {i:List Itm} {f:Itm→Itm} (h:∀ x∈i,(f x).kind=x.kind) : A6 (.mk s (i.map f))=A6 (.mk s i):=by
 unfold A6
 match i with
 | []=>rfl
 | [x]=>simp only [DH,Dv,List.map,h x (by simp)]
 | x::y::r=>rfl
theorem PO {f:Itm→Itm} : ∀ {i:List Itm},(∀ x∈i,cI (f x)=cI x)→cIs (i.map f)=cIs i
 | [],_=>rfl
 | x::xs,h=>by simp only [List.map,cIs];rw [h x (by simp),PO fun y hy=>h y (by simp [hy])]
theorem Pu {f:Itm→Itm} : ∀ {i:List Itm},(∀ x∈i,dI (f x)=dI x)→dIs (i.map f)=dIs i
 | [],_=>rfl
 | x::xs,h=>by simp only [List.map,dIs];rw [h x (by simp),Pu fun y hy=>h y (by simp [hy])]
theorem U7 {a:Arr} (oa:okAr a) (hr:rA a=true) (ih:∀ x∈a.items,Tn x) : rA (tyA a)=true∧dA (tyA a)=dA a∧cA (tyA a)=cA a∧tyA (tyA a)=tyA a∧A6 (tyA a)=A6 a∧okAr (tyA a):=by
 have o:=(BN a).1 oa
 have hs:A6 (tyA a)=A6 a:=by
  rw [Hi,Oy (fun x hx=>(ih x hx).2.2.2.2.1),Arr.eta]
 rw [Ic] at hr
 simp only [Bool.and_eq_true,decide_eq_true_eq] at hr
 refine ⟨?_,?_,?_,?_,hs,?_⟩
 ·rw [Ic,Hi]
  simp only [DH,Dv,List.length_map,Bool.and_eq_true,decide_eq_true_eq]
  refine ⟨dT hr.1,hr.2.1,EO.2 fun x hx=>?_⟩
  obtain ⟨y,hy,rfl⟩:=List.mem_map.1 hx
  exact (ih y hy).1
 ·rw [Ie,Ie,hs,Hi]
  simp only [Dv]
  rw [Pu fun x hx=>(ih x hx).2.1]
 ·rw [Hq,Hq,Hi]
  simp only [Dv,List.length_map]
  rw [PO fun x hx=>(ih x hx).2.2.1]
 ·rw [Hi,Hi]
  simp only [DH,Dv,List.map_map,Arr.mk.injEq,true_and]
  exact List.map_congr_left fun x hx=>(ih x hx).2.2.2.1
 ·rw [BN,Hi]
  simp only [DH,Dv,List.length_map]
  refine ⟨o.1,o.2.1,o.2.2.1,fun x hx=>?_⟩
  obtain ⟨y,hy,rfl⟩:=List.mem_map.1 hx
  exact (ih y hy).2.2.2.2.2
theorem RU (n:RT) (c:Int) (b:List Arr) : tyI (.mk 1 n c b)=.mk 1 (ofQ 0) 0 []:=by simp [tyI]
theorem SB (n:RT) (c:Int) (b:List Arr) : tyI (.mk 2 n c b)=.mk 2 (false,[],[]) 32 []:=by simp [tyI]
theorem Rz (n:RT) (c:Int) (a:Arr) : tyI (.mk 3 n c [a])=.mk 3 (false,[],[]) 0 [tyA a]:=by simp [tyI,tyBs]
theorem PA {r:RT} (h:Jz r=true) : okI (.mk 1 r 0 []):=by
 simp [okI,okAs,h]
theorem SF {c:Int} (h:chB c=true) : okI (.mk 2 (false,[],[]) c []):=by
 simp only [chB,Bool.and_eq_true,decide_eq_true_eq] at h
 refine ⟨by omega,rfl,by omega,by simp,trivial⟩
theorem To {a:Arr} (h:okAr a) : okI (.mk 3 (false,[],[]) 0 [a]):=⟨by omega,rfl,by omega,by simp,h,trivial⟩
theorem Sx {r:RT} (h:Fl r=true) : rI (.mk 1 r 0 [])=true:=by simp [rI,h]
theorem Tj {c:Int} (h:chB c=true) : rI (.mk 2 (false,[],[]) c [])=true:=by simp [rI,h,Es,Itm.num]
theorem Ub {a:Arr} (h:rA a=true) (hs:A6 a=false) : rI (.mk 3 (false,[],[]) 0 [a])=true:=by simp [rI,rBs,h,hs,Es,Itm.num]
theorem RK : ∀ (k:Nat) {x:Itm},x.size<k→okI x→rI x=true→Tn x
 | 0,x,h,_,_=>by omega
 | k+1,x,h,ho,hr=>by
  have hc:=Lf hr
  cases x with
  | mk kd n c b =>
   simp only [KX,TV,T7,SA] at hc
   unfold Tn
   rcases hc with ⟨rfl,h1,rfl,rfl⟩|⟨rfl,h1,rfl,rfl⟩|⟨rfl,rfl,rfl,a,rfl,h2,h3⟩
   ·rw [RU,RU]
    exact ⟨Sx (Jw Jy),rfl,rfl,rfl,rfl,PA (Hh Jy)⟩
   ·rw [SB,SB]
    exact ⟨Tj rfl,rfl,rfl,rfl,rfl,SF rfl⟩
   ·have hb:a∈Itm.box (.mk 3 (false,[],[]) 0 [a]):=by simp [Itm.box]
    have hz:=HB hb
    have oa:okAr a:=((ER _).1 ho).2.2.2.2 a hb
    have h3':=h3
    rw [Ic] at h3';simp only [Bool.and_eq_true] at h3'
    obtain ⟨p1,p2,p3,p4,p5,p6⟩:=U7 oa h3 fun y hy=>RK k (by have:=I7 hy;omega) (((BN a).1 oa).2.2.2 y hy) (EO.1 h3'.2.2 y hy)
    rw [Rz,Rz,p4]
    refine ⟨Ub p1 (by rw [p5,h2]),?_,?_,rfl,rfl,To p6⟩
    ·simp only [dI,dBs,p2]
    ·simp only [cI,cBs,p3]
theorem MS {x:Itm} (ho:okI x) (hr:rI x=true) : Tn x:=RK _ (Nat.lt_succ_self _) ho hr
theorem Lt : ∀ (k:Nat) {x:Itm},x.size<k→okI x→rI x=true→EA k x=some (tyI x)
 | 0,x,h,_,_=>by omega
 | k+1,x,h,ho,hr=>by
  have hc:=Lf hr
  cases x with
  | mk kd n c b =>
   simp only [KX,TV,T7,SA] at hc
   rw [EA,Gf]
   rcases hc with ⟨rfl,h1,rfl,rfl⟩|⟨rfl,h1,rfl,rfl⟩|⟨rfl,rfl,rfl,a,rfl,h2,h3⟩
   ·rw [if_pos (KX 1 n 0 []),RU,Pv (by omega) (by omega),oB,Rat.intCast_zero,J7 (Hh Jy),oB]
   ·rw [if_neg (by rw [KX];decide),if_pos (KX 2 _ c []),SB];rfl
   ·have hb:a∈Itm.box (.mk 3 (false,[],[]) 0 [a]):=by simp [Itm.box]
    have hz:=HB hb
    have oa:okAr a:=((ER _).1 ho).2.2.2.2 a hb
    have h3':=h3
    rw [Ic] at h3';simp only [Bool.and_eq_true] at h3'
    have o:=(BN a).1 oa
    rw [if_neg (by rw [KX];decide),if_neg (by rw [KX];decide),SA,Js,oB,Jk (h:=tyI) (fun y hy=>Lt k (by have:=I7 hy;omega) (o.2.2.2 y hy) (EO.1 h3'.2.2 y hy)) o.2.1 o.2.2.1,oB,Rz,Hi]
theorem NC {x:Itm} (ho:okI x) (hr:rI x=true) : Ja x=some (tyI x):=Lt _ (Nat.lt_succ_self _) ho hr
theorem Jj {a:Arr} (h:rA a=true) : (szP a.shape).2=0∧(a.items.length:Int)=(if (szP a.shape).1<1 then 1 else (szP a.shape).1)∧∀ x∈a.items,rI x=true:=by
 rw [Ic] at h;simp only [Bool.and_eq_true,decide_eq_true_eq] at h
 exact ⟨h.1,h.2.1,EO.1 h.2.2⟩
theorem Nv {a:Arr} (ha:okAr a) : Du a=some (if (szP a.shape).1=0∨¬Bc a then [] else a.items):=by
 have o:=(BN a).1 ha
 unfold Du
 rw [Jd o.2.1,oB]
 by_cases h0:(szP a.shape).1=0
 ·rw [if_pos h0,if_pos (.inl h0)];rfl
 rw [if_neg h0,FC ha,oB]
 by_cases h:Bc a
 ·rw [dT h,if_neg (by rintro (q|q);exact h0 q;exact q h),Bool.not_true,oB,if_neg (by decide),Nl ha];rfl
 ·rw [dF h,if_pos (.inr h)];rfl
theorem Mz {xs:List Itm} {f:Ce} {p:Itm→Bool} (hf:∀ x∈xs,f.g x=some (p x)) (K:Int→Option Int) (hl:xs.length≤17592186044416) : ∀ (n i k:Nat) (s:Int),n=xs.length-i→i≤xs.length→n<k →
  (Ar xs f K k s (i:Int)=K s∧(xs.drop i).any p=false)∨(∃ j:Nat,Ar xs f K k s (i:Int)=some (j:Int)∧(xs.drop i).any p=true)
 | _,_,0,_,_,_,h=>by omega
 | n,i,k+1,s,hn,hi,hk=>by
  rw [Ar]
  by_cases h:i<xs.length
  ·rw [if_pos (by omega),CM h,oB,hf _ (List.getElem_mem h),oB,lC h,List.any_cons]
   by_cases hp:p xs[i]=true
   ·rw [if_pos hp,hp];exact .inr ⟨i,rfl,rfl⟩
   ·rw [if_neg hp,CS (by omega)]
    have:p xs[i]=false:=by simpa using hp
    rw [this,Bool.false_or]
    exact Mz hf K hl (n-1) (i+1) k s (by omega) (by omega) (by omega)
  ·rw [if_neg (by omega),List.drop_of_length_le (by omega)];exact .inl ⟨rfl,rfl⟩
theorem LQ {xs:List Itm} {f:Ce} {p:Itm→Bool} (hf:∀ x∈xs,f.g x=some (p x)) (hl:xs.length≤17592186044416) : AM xs f=some (xs.any p):=by
 unfold AM A9
 rw [CW]
 rcases Mz hf (fun _=>some (-1)) hl xs.length 0 AK 0 rfl (Nat.zero_le _) (Ch (by omega)) with ⟨h1,h2⟩|⟨j,h1,h2⟩
 ·rw [show ((0:Nat):Int)=0 from rfl] at h1
  rw [h1,oB,List.drop_zero] at *
  rw [h2];rfl
 ·rw [show ((0:Nat):Int)=0 from rfl] at h1
  rw [h1,oB]
  rw [List.drop_zero] at h2
  rw [h2,dT (by omega)]
def DQ (xs:List Itm) : List Int:=xs.map fun x=>((1+cI x:Nat) : Int)
theorem Qy {x:Itm} (hx:okI x) (hr:Cc x) : ∀ a∈x.box,okAr a∧Bc a∧cI x=cA a∧x.box=[a]:=fun a ha=>by
 have oa:=((ER x).1 hx).2.2.2.2 a ha
 rcases Lf hr.1 with ⟨_,_,_,h⟩|⟨_,_,_,h⟩|⟨_,_,_,b,h,h2,h3⟩
 ·rw [h] at ha;cases ha
 ·rw [h] at ha;cases ha
 ·have hb:=ha
  rw [h,List.mem_singleton] at hb
  subst hb
  have e1:cI x=cA a:=by rw [Ni,h];simp [cBs]
  have e2:dI x=dA a:=by rw [PX,h];simp [dBs]
  exact ⟨oa,⟨h3,e2▸hr.2.1,e1▸hr.2.2⟩,e1,h⟩
theorem Te {x:Itm} (hx:okI x) (hr:Cc x) (K:Int→Option (Arr×Int)) : Ck x K AK 1 0=K ((1+cI x:Nat) : Int):=by
 have hF:AK=999999999999998+1+1:=rfl
 rw [hF,Ck]
 by_cases hb:x.box=[]
 ·rw [if_neg (by rw [hb];decide)]
  have:cI x=0:=by rw [Ni,hb];rfl
  rw [this];rfl
 ·obtain ⟨a,ha⟩:=List.exists_mem_of_ne_nil _ hb
  obtain ⟨oa,ra,e1,e2⟩:=Qy hx hr a ha
  have h16:=ra.2.2
  rw [e2,if_pos (by simp),Js,oB,RH oa,oB,if_pos ra,Ck,e2,if_neg (by rw [show w64 ((0:Int)+1)=1 from rfl];simp),BP (by omega) (by omega),e1]
  congr 1
theorem Ph {xs:List Itm} (hx:∀ x∈xs,okI x∧Cc x) (hl:xs.length≤1466015503701) (K:List Int→Option (Arr×Int)) : ∀ (n i k:Nat) (t:List Int),n=xs.length-i→i≤xs.length→n<k→t.length=i →
  BS xs K k t (i:Int)=K (t++(DQ xs).drop i)
 | _,_,0,_,_,_,h,_=>by omega
 | n,i,k+1,t,hn,hi,hk,ht=>by
  rw [BS]
  have hcl:(DQ xs).length=xs.length:=by simp [DQ]
  by_cases h:i<xs.length
  ·obtain ⟨o,r⟩:=hx _ (List.getElem_mem h)
   have hd:(DQ xs)[i]'(by omega)=((1+cI xs[i]:Nat):Int):=by simp [DQ]
   rw [if_pos (by omega),CW,CM h,oB,CW,Te o r,Gk (by simp;omega),oB,CS (by omega)]
   show BS xs K k (t++[((1+cI xs[i]:Nat):Int)]) ((i+1:Nat):Int)=_
   rw [Ph hx hl K (n-1) (i+1) k _ (by omega) (by omega) (by omega) (by simp [ht]),
    lC (by omega:i<(DQ xs).length),hd,List.append_assoc]
   rfl
  ·rw [if_neg (by omega),List.drop_of_length_le (by omega),List.append_nil]
def cyc (xs:List Itm) (n:Nat) : List Itm:=(List.range n).map fun i=>xs.getD (i % xs.length) default
theorem KS (xs:List Itm) (n:Nat) : cyc xs (n+1)=cyc xs n++[xs.getD (n % xs.length) default]:=by
 unfold cyc;rw [List.range_succ,List.map_append];rfl
theorem GC (xs:List Itm) (n:Nat) : (cyc xs n).length=n:=by simp [cyc]
theorem MI (xs ys:List Itm) : cIs (xs++ys)=cIs xs+cIs ys:=by
 induction xs with
 | nil=>simp [cIs]
 | cons x xs ih=>simp only [List.cons_append,cIs,ih];omega
theorem Tf {xs:List Itm} (h:xs≠[]) {n:Nat} {x:Itm} (hx:x∈cyc xs n) : x∈xs:=by
 unfold cyc at hx
 obtain ⟨i,_,rfl⟩:=List.mem_map.1 hx
 have hp:0<xs.length:=List.length_pos_iff.2 h
 have hlt:=Nat.mod_lt i hp
 rw [lD,lG hlt]
 exact List.getElem_mem hlt
theorem Ul (xs:List Itm) {i n:Nat} (h:i≤n) : i+cIs (cyc xs i)≤n+cIs (cyc xs n):=by
 induction n with
 | zero =>
  have:i=0:=by omega
  subst this;exact Nat.le_refl _
 | succ n ih =>
  by_cases he:i=n+1
  ·subst he;exact Nat.le_refl _
  ·have:=ih (by omega)
   rw [KS,MI];omega
theorem PJ {xs:List Itm} (hx:∀ x∈xs,okI x∧Cc x) (hne:xs≠[]) (hl:xs.length≤1466015503701) {m:Nat} (hm:m≤4096) (x1:Int×Int) (hx1:x1.1=(m:Int)) (K:Arr→Int→List Int→List Itm→Option (Arr×Int)) (a:Arr) (b:Int) (s:List Int) (t0:List Itm) (ht0:t0.length≤1) : ∀ (n i k:Nat),n=m-i→i≤m→n<k→i+cIs (cyc xs i)≤16384 →
  BT xs x1 (DQ xs) K k a b (i:Int) ((i+cIs (cyc xs i):Nat):Int) s (t0++cyc xs i)=if m+cIs (cyc xs m)≤16384 then K a b s (t0++cyc xs m) else some (.mk [] [],8)
 | _,_,0,_,_,h,_=>by omega
 | n,i,k+1,hn,hi,hk,hc=>by
  rw [BT]
  have hcl:(DQ xs).length=xs.length:=by simp [DQ]
  have hp:0<xs.length:=List.length_pos_iff.2 hne
  by_cases h:i<m
  ·have hlt:=Nat.mod_lt i hp
   have htm:Int.tmod (i:Int) ((xs.length:Nat):Int)=((i % xs.length:Nat):Int):=by
    rw [Int.tmod_eq_emod_of_nonneg (by omega)];rfl
   have hgr:D4 (((List.length xs:Nat):Int)≠0)=some ():=if_pos (by omega)
   have hd:(DQ xs)[i % xs.length]'(by omega)=((1+cI xs[i % xs.length]:Nat):Int):=by simp [DQ]
   obtain ⟨o,r⟩:=hx _ (List.getElem_mem hlt)
   have hg:xs.getD (i % xs.length) default=xs[i % xs.length]:=by rw [lD,lG hlt];rfl
   have hci:cI xs[i % xs.length]≤16384:=r.2.2
   have hsum:cIs (cyc xs (i+1))=cIs (cyc xs i)+cI xs[i % xs.length]:=by rw [KS,MI,hg];simp [cIs]
   rw [if_pos (by omega),hgr,oB,htm,CM (by omega:i % xs.length<(DQ xs).length),oB,hd,BP (by omega) (by omega)]
   by_cases hbig:(16384:Int)<((i+cIs (cyc xs i):Nat):Int)+((1+cI xs[i % xs.length]:Nat):Int)
   ·rw [if_pos hbig,if_neg]
    have:=Ul xs (show i+1≤m by omega)
    omega
   ·have hlen:=GC xs i
    rw [if_neg hbig,oB,CM hlt,oB,Mw o,oB,Gk (by simp;omega),oB,CS (by omega)]
    have ih:=PJ hx hne hl hm x1 hx1 K a b s t0 ht0 (n-1) (i+1) k (by omega) (by omega) (by omega) (by omega)
    rw [KS,hg] at ih
    rw [← ih,List.append_assoc]
    congr 1
    rw [MI];simp only [cIs];omega
  ·have:i=m:=by omega
   subst this
   rw [if_neg (by omega),if_pos hc]
def Cw (n:Int) (xs:List Itm) : List Itm:=if n=0 then [tyI (xs.headD default)] else cyc xs n.toNat
theorem HM {s:List Int} {xs:List Itm} (hs:∀ z∈s,-9223372036854775808≤z∧z≤9223372036854775807) (hl:s.length≤17592186044416) (hxl:xs.length≤1466015503701) (hx:∀ x∈xs,okI x) :
  AE s xs=some (if (szP s).2≠0 then (.mk [] [],(szP s).2) else if xs=[]∨¬(∀ x∈xs,Cc x) then (.mk [] [],22) else if Bc (.mk s (Cw (szP s).1 xs)) then (.mk s (Cw (szP s).1 xs),0) else (.mk [] [],8)):=by
 unfold AE
 rw [Jd hl,oB]
 by_cases h0:(szP s).2=0
 rotate_left
 ·rw [if_neg h0,if_pos h0]
 have h0':¬((szP s).2≠0):=fun h=>h h0
 rw [if_pos h0,if_neg h0']
 by_cases hn:xs=[]
 ·subst hn;rw [if_pos (show ((([]:List Itm).length:Nat):Int)=0 from rfl),if_pos (.inl rfl)];rfl
 have hlen:¬((xs.length:Nat):Int)=0:=by have:=List.length_pos_iff.2 hn;omega
 rw [if_neg hlen,LQ (p:=fun x=>!decide (Cc x)) (fun x hx'=>by
  show Ee x=_
  unfold Ee;rw [MD (hx x hx'),oB]) (by omega),oB,oB]
 by_cases hr:∀ x∈xs,Cc x
 rotate_left
 ·rw [if_pos (.inr hr:xs=[]∨¬∀ x∈xs,Cc x),if_pos]
  rw [List.any_eq_true]
  simp only [Classical.not_forall] at hr
  obtain ⟨x,h1,h2⟩:=hr
  exact ⟨x,h1,by rw [dF h2];rfl⟩
 rw [if_neg (show ¬(xs=[]∨¬∀ x∈xs,Cc x) from fun h=>h.elim hn fun h=>h hr),if_neg (by
  intro h
  rw [List.any_eq_true] at h
  obtain ⟨x,h1,h2⟩:=h
  rw [dT (hr x h1)] at h2;cases h2),Ju hl,oB,CW]
 have hp:0<xs.length:=List.length_pos_iff.2 hn
 have hxr:∀ x∈xs,okI x∧Cc x:=fun x h=>⟨hx x h,hr x h⟩
 obtain ⟨hz0,hz1⟩:=MH s
 obtain ⟨m,hm⟩:∃ m:Nat,(szP s).1=(m:Int):=⟨(szP s).1.toNat,by omega⟩
 have hgo:∀ t0:List Itm,t0.length≤1→t0++cyc xs m=Cw (szP s).1 xs→(∀ x∈Cw (szP s).1 xs,okI x)→m+cIs (cyc xs m)≤cA (.mk s (Cw (szP s).1 xs)) →
   BS xs (fun z8=>jn (fun z19 z20 z21 z22=>(A8 (Arr.mk z21 z22)).bind fun x35=>if x35=true then some (Arr.mk z21 z22,0) else some (Arr.mk [] [],8)) fun K6=>BT xs (szP s) z8 K6 AK (Arr.mk [] []) 0 0 0 s t0) AK [] 0=some (if Bc (.mk s (Cw (szP s).1 xs)) then (.mk s (Cw (szP s).1 xs),0) else (.mk [] [],8)):=by
  intro t0 ht0 he hok hca
  have e2:=Ph hxr hxl (fun z8=>jn (fun z19 z20 z21 z22=>(A8 (Arr.mk z21 z22)).bind fun x35=>if x35=true then some (Arr.mk z21 z22,0) else some (Arr.mk [] [],8)) fun K6=>BT xs (szP s) z8 K6 AK (Arr.mk [] []) 0 0 0 s t0) xs.length 0 AK [] rfl (Nat.zero_le _) (Ch (by omega)) rfl
  rw [show ((0:Nat):Int)=0 from rfl] at e2
  rw [e2,List.nil_append,List.drop_zero]
  show jn _ _=_
  rw [CW]
  have e7:=PJ hxr hn hxl (show m≤4096 by omega) (szP s) hm (fun z19 z20 z21 z22=>(A8 (Arr.mk z21 z22)).bind fun x35=>if x35=true then some (Arr.mk z21 z22,0) else some (Arr.mk [] [],8)) (Arr.mk [] []) 0 s t0 ht0 m 0 AK rfl (Nat.zero_le _) (Ch (by omega)) (by show 0+0≤_;omega)
  rw [show cyc xs 0=[] from rfl,List.append_nil,show ((0:Nat):Int)=0 from rfl] at e7
  rw [show (((0+cIs []:Nat)):Int)=0 from rfl] at e7
  rw [e7,he]
  have hit:(Cw (szP s).1 xs).length≤1466015503701:=by
   rw [← he,List.length_append,GC];omega
  have ho:okAr (.mk s (Cw (szP s).1 xs)):=by
   rw [BN];exact ⟨hs,hl,hit,hok⟩
  rw [FC ho]
  by_cases hR:Bc (.mk s (Cw (szP s).1 xs))
  ·rw [if_pos (nT hca hR.2.2),if_pos hR,dT hR];rfl
  ·rw [if_neg hR,dF hR];split<;>rfl
 by_cases hz:(szP s).1=0
 ·have hm0:m=0:=by omega
  subst hm0
  obtain ⟨y,ys,rfl⟩:=List.exists_cons_of_ne_nil hn
  have hmk:Cw (szP s).1 (y::ys)=[tyI y]:=by unfold Cw;rw [if_pos hz];rfl
  obtain ⟨o,r⟩:=hxr y (by simp)
  rw [if_pos hz,Js,oB,NC o r.1,oB]
  show jn _ _=_
  rw [CW]
  refine hgo [tyI y] (by simp) (by rw [hmk];rfl) ?_ ?_
  ·rw [hmk];intro x hx';rw [List.mem_singleton] at hx';subst hx';exact (MS o r.1).2.2.2.2.2
  ·show 0+0≤_;omega
 ·have hmk:Cw (szP s).1 xs=cyc xs m:=by unfold Cw;rw [if_neg hz,hm];rfl
  rw [if_neg hz]
  show jn _ _=_
  rw [CW]
  refine hgo [] (by simp) (by rw [hmk];rfl) ?_ ?_
  ·rw [hmk];intro x hx';exact hx x (Tf hn hx')
  ·rw [hmk,Hq,Dv,GC];omega
def FZ (z:Int) : Prop:=-9223372036854775808≤z∧z≤9223372036854775807
def Fz (z:Int) : Itm:=.mk 1 (ofQ (z:Rat)) 0 []
theorem F7 {z:Int} (h:FZ z) : N4 (z:Rat):=RZ h.1 (by have:=h.2;omega)
theorem MT {z:Int} (h:FZ z) : okI (Fz z):=PA (Hh (F7 h))
theorem Fw {z:Int} (h:FZ z) : rI (Fz z)=true:=Sx (Jw (F7 h))
theorem F5 : FZ 0:=by unfold FZ;omega
theorem PN {z:Int} (h:FZ z) {β:Type} (f:Itm→Option β) : ((EW z).bind fun q=>(Cf q).bind f)=f (Fz z):=by
 rw [Pv h.1 h.2,oB,J7 (Hh (F7 h)),oB];rfl
theorem J8 : ∀ {l:List Int},(∀ z∈l,FZ z)→Fy l=some (l.map Fz)
 | [],_=>rfl
 | z::zs,h=>by
  rw [Fy,PN (h z (by simp)),J8 fun y hy=>h y (by simp [hy]),oB];rfl
theorem QU {l:List Int} (h:∀ z∈l,FZ z) (hl:l.length≤9223372036854775806) : Ho l=some (Fk (Fz 0) (l.map Fz)):=by
 unfold Ho
 rw [if_pos hl,J8 h,oB,PN F5]
theorem HI {n:Nat} (h:n≤4096) : szP [(n:Int)]=((n:Int),0):=by
 unfold szP Eo
 simp only [List.length_cons,List.length_nil,List.any_cons,List.any_nil,Bool.or_false,decide_eq_true_eq,List.foldl_cons,List.foldl_nil,List.mem_singleton,Int.one_mul]
 rw [if_neg (by omega),if_neg (by omega),if_neg (by omega)]
 by_cases h0:(0:Int)=n
 ·rw [if_pos h0,← h0]
 ·rw [if_neg h0,if_pos (by omega)]
theorem PI : szP []=(1,0):=rfl
theorem Le {s:List Int} {i:List Itm} {n:Int} (hs:szP s=(n,0)) (hl:(i.length:Int)=if n<1 then 1 else n) (hi:∀ x∈i,rI x=true∧x.box=[]) : Bc (.mk s i)∧cA (.mk s i)=i.length∧dA (.mk s i)=if A6 (.mk s i) then 0 else 1:=by
 have hn:=MH s
 rw [hs] at hn
 have hc:cIs i=0:=by
  clear hl
  induction i with
  | nil=>rfl
  | cons x xs ih=>rw [cIs,Ni,(hi x (by simp)).2,ih fun y hy=>hi y (by simp [hy])];rfl
 have hd:dIs i=0:=by
  clear hl hc
  induction i with
  | nil=>rfl
  | cons x xs ih=>rw [dIs,PX,(hi x (by simp)).2,ih fun y hy=>hi y (by simp [hy])];rfl
 have hcA:cA (.mk s i)=i.length:=by rw [Hq,Dv,hc];rfl
 have hdA:dA (.mk s i)=if A6 (.mk s i) then 0 else 1:=by rw [Ie,Dv,hd]
 refine ⟨⟨?_,?_,?_⟩,hcA,hdA⟩
 ·rw [Ic,DH,Dv,hs,hl,dT rfl,dT rfl,EO.2 fun x hx=>(hi x hx).1];rfl
 ·rw [hdA];split<;>omega
 ·rw [hcA];have:(i.length:Int)≤4096:=by rw [hl];split<;>omega
  omega
theorem Jl {p:Itm} {xs:List Itm} (hp:rI p=true∧p.box=[]) (hx:∀ x∈xs,rI x=true∧x.box=[]) : Bc (Fk p xs)∧(okI p→(∀ x∈xs,okI x)→okAr (Fk p xs))∧szP (Fk p xs).shape=(((min xs.length 4096:Nat) : Int),0):=by
 have hs:szP [((min xs.length 4096:Nat):Int)]=(((min xs.length 4096:Nat):Int),0):=HI (Nat.min_le_right _ _)
 have hmem:∀ {P:Itm→Prop},P p→(∀ x∈xs,P x)→∀ x∈(if xs.length=0 then [p] else xs.take 4096),P x:=by
  intro P h1 h2 x hx
  split at hx
  ·rw [List.mem_singleton] at hx;rw [hx];exact h1
  ·exact h2 x (List.mem_of_mem_take hx)
 have hlen:((if xs.length=0 then [p] else xs.take 4096).length:Int)=if ((min xs.length 4096:Nat):Int)<1 then 1 else ((min xs.length 4096:Nat):Int):=by
  split
  ·rename_i h0;rw [h0];rfl
  ·rename_i h0
   rw [if_neg (by omega),List.length_take];omega
 refine ⟨(Le hs hlen (hmem hp hx)).1,fun h1 h2=>?_,hs⟩
 unfold Fk
 rw [BN,DH,Dv]
 refine ⟨?_,by simp,?_,hmem h1 h2⟩
 ·intro z hz;rw [List.mem_singleton] at hz;subst hz;omega
 ·have:((if xs.length=0 then [p] else xs.take 4096).length:Int)≤4096:=by rw [hlen];split<;>omega
  omega
theorem Sd {l:List Int} (h:∀ z∈l,FZ z) : ∀ x∈l.map Fz,rI x=true∧x.box=[]:=fun x hx=>by
 obtain ⟨z,hz,rfl⟩:=List.mem_map.1 hx
 exact ⟨Fw (h z hz),rfl⟩
theorem VC {l:List Int} (h:∀ z∈l,FZ z) : ∀ x∈l.map Fz,okI x:=fun x hx=>by
 obtain ⟨z,hz,rfl⟩:=List.mem_map.1 hx
 exact MT (h z hz)
def Ix (l:List Int) : Arr:=Fk (Fz 0) (l.map Fz)
theorem Iz {l:List Int} (h:∀ z∈l,FZ z) : Bc (Ix l):=(Jl ⟨Fw F5,rfl⟩ (Sd h)).1
theorem ME {l:List Int} (h:∀ z∈l,FZ z) : okAr (Ix l):=(Jl ⟨Fw F5,rfl⟩ (Sd h)).2.1 (MT F5) (VC h)
theorem OX {l:List Int} (h:∀ z∈l,FZ z) : Du (Ix l)=some ((l.take 4096).map Fz):=by
 obtain ⟨h1,h2,h3⟩:=Jl ⟨Fw F5,rfl⟩ (Sd h)
 rw [Nv (ME h)]
 show some (if (szP (Fk (Fz 0) (l.map Fz)).shape).1=0∨¬Bc (Ix l) then [] else (Ix l).items)=_
 rw [h3]
 cases l with
 | nil=>rw [if_pos (.inl rfl)];rfl
 | cons z zs =>
  rw [if_neg]
  ·unfold Ix Fk;rw [Dv,if_neg (by simp),List.map_take]
  ·rintro (q|q)
   ·simp only [List.length_map,List.length_cons] at q;omega
   ·exact q (Iz h)
theorem ON {z:Int} (h:FZ z) : F8 (ofQ (z:Rat))=some (z,true):=by
 unfold F8
 have e:(ofQ (z:Rat)).2.1=A1 z.natAbs:=rfl
 have e1:(ofQ (z:Rat)).1=decide (z<0):=rfl
 have hw:okL 1048576 (A1 z.natAbs)=true:=Nd (nT (show (A1 z.natAbs).length≤32 from (F7 h).1) (by decide))
 have hb:Bu z.natAbs≤64:=D7.2 (by have:=h.1;have:=h.2;omega)
 rw [Ti (F7 h),oB,if_pos (dT (Rat.den_intCast z)),e,e1,C2,if_pos (by rw [hw,dT rfl];rfl),if_pos hb]
 unfold LO
 obtain ⟨h1,h2⟩:=h
 by_cases hz:z<0
 ·rw [if_pos (dT hz),if_pos (by omega)]
  congr 2;omega
 ·rw [if_neg (by rw [dF hz];decide),if_pos (by omega)]
  congr 2;omega
theorem JE : ∀ {l:List Int} {s:List Int},(∀ z∈l,FZ z)→s.length+l.length≤17592186044416→OO JB (l.map Fz) s=some (true,s++l)
 | [],s,_,_=>by simp [OO]
 | z::zs,s,h,hl=>by
  rw [List.map_cons,OO]
  unfold JB
  have e:(Fz z).num=ofQ (z:Rat):=rfl
  rw [e,ON (h z (by simp)),oB,Gk (by simp at hl ⊢;omega),oB,oB]
  have hk:(true&&decide ((Fz z).kind=1))=true:=rfl
  rw [hk,if_pos rfl]
  have:=JE (l:=zs) (s:=s++[z]) (fun y hy=>h y (by simp [hy])) (by simp at hl ⊢;omega)
  unfold JB at this
  rw [this,List.append_assoc];rfl
theorem LX {l:List Int} (h:∀ z∈l,FZ z) : Fr (Ix l)=some (l.take 4096,true):=by
 have ht:(l.take 4096).length≤4096:=by rw [List.length_take];omega
 unfold Fr Ss
 rw [FC (ME h),oB,dT (Iz h),if_pos rfl,if_pos (show (((Ix l).shape.length:Nat):Int)≤1 by unfold Ix Fk;rw [DH];simp),OX h,oB,if_pos (by rw [List.length_map];omega),
  JE (fun z hz=>h z (List.mem_of_mem_take hz)) (by simp only [List.length_nil];omega)]
 rfl
theorem MR {x:Itm} (h:rI x=true) (hb:x.box=[]) (hk:x.kind≠3) : Bc (.mk [] [x])∧A6 (.mk [] [x])=true:=by
 refine ⟨(Le PI rfl fun y hy=>by rw [List.mem_singleton] at hy;subst hy;exact ⟨h,hb⟩).1,?_⟩
 unfold A6;simp [DH,Dv,hk]
theorem Uv {x:Itm} (h:okI x) : okAr (.mk [] [x]):=by
 rw [BN,DH,Dv]
 exact ⟨nofun,by simp,by simp,fun y hy=>by rw [List.mem_singleton] at hy;rw [hy];exact h⟩
theorem RC (xs:List Itm) : cyc xs xs.length=xs:=by
 apply List.ext_getElem?
 intro i
 by_cases h2:i<xs.length
 ·unfold cyc
  rw [List.getElem?_map,List.getElem?_range h2,Option.map_some,Nat.mod_eq_of_lt h2,lD,lG h2];rfl
 ·rw [List.getElem?_eq_none (by rw [GC];omega),List.getElem?_eq_none (by omega)]
theorem Gu {xs:List Itm} {n:Nat} (h:xs.length=n) (h0:n≠0) : Cw ((n:Nat) : Int) xs=xs:=by
 unfold Cw
 rw [if_neg (by omega),Int.toNat_natCast,← h]
 exact RC xs
theorem Hy {a:Arr} (oa:okAr a) (h:Bc a) {x:Itm} (hx:x∈a.items) : okI x∧Cc x:=by
 have o:=(BN a).1 oa
 obtain ⟨h1,h2,h3⟩:=h
 have hr:=(Jj h1).2.2
 refine ⟨o.2.2.2 x hx,hr x hx,?_,?_⟩
 ·have hd:∀ {xs:List Itm},x∈xs→dI x≤dIs xs:=by
   intro xs
   induction xs with
   | nil=>intro h;cases h
   | cons y ys ih =>
    intro h
    rw [dIs]
    rcases List.mem_cons.1 h with rfl|h
    ·omega
    ·have:=ih h;omega
  have hdx:=hd hx
  rw [Ie] at h2
  by_cases hs:A6 a=true
  ·have:=(NX hs (EO.2 hr)).1
   omega
  ·rw [if_neg hs] at h2;omega
 ·have hc:∀ {xs:List Itm},x∈xs→cI x≤cIs xs:=by
   intro xs
   induction xs with
   | nil=>intro h;cases h
   | cons y ys ih =>
    intro h
    rw [cIs]
    rcases List.mem_cons.1 h with rfl|h
    ·omega
    ·have:=ih h;omega
  have hcx:=hc hx
  rw [Hq] at h3
  omega
theorem Sf {a:Arr} (h:Bc a) : ∃ n : Nat,szP a.shape=((n:Int),0)∧a.items.length=if n=0 then 1 else n:=by
 obtain ⟨h1,h2,_⟩:=Jj h.1
 have:=MH a.shape
 refine ⟨(szP a.shape).1.toNat,?_,?_⟩
 ·rw [← h1,Int.toNat_of_nonneg this.1]
 ·split at h2<;>split<;>omega
theorem Ms {a:Arr} (h:Bc a) : 0<a.items.length:=by
 obtain ⟨n,_,hl⟩:=Sf h
 rw [hl];split<;>omega
end Go.FL
namespace Go.FL
open Go Go.RowKit
def FnN (P:Program) (f:FuncId) (args:List DV) (r:AV) : Prop :=
 ∀ (w:World) (I:Nat→Prop) (vs:List Value),(∀ b,I b→b<w.heap.size)→RepAll w I args vs →
  CallsIn (om none) 0 P f (Value.slice none 0 0::vs).toArray w fun e w'=>∃ v I' bs,e=.returned v∧Below w.heap.size w w'∧(∀ b,I b→I' b) ∧
   (∀ b,I' b→b<w'.heap.size∧(b<w.heap.size→I b))∧ARep P w' I' [] r v bs∧bs.Nodup∧∀ b∈bs,w.heap.size≤b∧b<w'.heap.size∧¬I' b
section
variable {P:Program} {H:Af}
theorem FnR.ofFnN {f:FuncId} {xs:List DV} {r:AV} (h:FnN P f xs r) : FnR P f (.nl::xs.map .d) H fun r' H'=>r'=r∧H'=H:=by
 intro X w I μ O vs0 e1 e2 e3 e4 e5 hm ha
 have hR:∀ {xs:List DV} {vs:List Value},ARepAll P w I μ (xs.map AV.d) vs []→RepAll w I xs vs:=by
  intro xs
  induction xs with
  | nil=>intro vs h;cases h;exact .nil
  | cons x xs ih =>
   intro vs h
   generalize hbs:([]:List Nat)=bs at h
   cases h with
   | cons h t =>
    have:=hbs.symm
    rw [List.append_eq_nil_iff] at this
    rw [this.2] at t
    cases h with
    | d h=>exact .cons h (ih t)
 obtain ⟨vs,rfl,ha2⟩:∃ vs,vs0=Value.slice none 0 0::vs∧ARepAll P w I μ (xs.map AV.d) vs []:=by
  generalize hbs:([]:List Nat)=bs at ha
  cases ha with
  | cons h t =>
   have:=hbs.symm
   rw [List.append_eq_nil_iff] at this
   obtain ⟨t1,t2⟩:=this
   subst t2
   cases h
   exact ⟨_,rfl,t⟩
 refine (h w I vs hm.ilt (hR ha2)).mono ?_
 rintro e w' ⟨v,I',bs,rfl,q1,q2,q3,q4,q5,q6⟩
 let a:Act:={tmps:=#[],defers:=[]}
 have hs:Sim P {X with nt:=(0,0),dfs:=[],args:=[]} [] H a w I μ O:=⟨hm.cast rfl rfl rfl rfl rfl rfl,fun t=>.un,rfl,rfl,fun t ht=>absurd ht (by simp)⟩
 have s1:=(hs.called q1 q2 q3).newR bs fun b hb=>by
  obtain ⟨h1,h2,h3⟩:=q6 b hb
  refine ⟨h2,.inl ?_,h3,fun hk=>by have:=hs.klt b hk;have:=hs.size;omega⟩
  cases hO:O b with
  | none=>rfl
  | some l=>have:=(hs.own b l hO).1;omega
 refine ⟨v,I',μ,_,H,r,bs,rfl,(s1.toMem.relabel (toT 0) fun _=>rfl).cast rfl rfl rfl rfl rfl rfl,q4.keep (fun _ h=>h) (fun _ _=>rfl) (fun i b h=>by simp at h) fun _ _=>rfl,q5,fun b hb=>⟨0,by simp [hb,toT]⟩,rfl,rfl⟩
def Pk (P:Program) (f:FuncId) (e:TypeId) (M:Nat) : Prop:=∀ (n:Nat) (w:World),n≤M →
 Calls P f #[.slice none 0 0,.int .i64 n] w fun x w'=>(x=.returned (.slice none 0 0)∧w'=w) ∨
  (∃ (cap:Nat) (cells:Array Value),0<cap∧cap≤maxLen∧cells.size=cap * AA P e∧x=.returned (.slice (some ⟨w.heap.size,0,none⟩) 0 cap)∧w'=w.drew.alloc (.cells cells e))
theorem FnN.grow {f e M:Nat} (hsz:0<AA P e) (h:Pk P f e M) {n:Nat} (hn:n≤M) : FnN P f [.i .i64 n] (.own e []):=by
 intro w I vs hI ha
 have hvs:vs=[.int .i64 n]:=by
  cases ha with
  | cons h1 ha=>cases ha;cases h1;rfl
 subst hvs
 rw [Tx]
 refine callsIn_wide.2 ((h n w hn).mono fun x w' hx=>?_)
 rcases hx with ⟨rfl,rfl⟩|⟨cap,cells,h0,hm,hc,rfl,rfl⟩
 ·refine ⟨_,I,[],rfl,Below.refl _ _,fun _ h=>h,fun b hb=>⟨hI b hb,fun _=>hb⟩,?_,nN,nofun⟩
  exact .own e [] (.slice none 0 0) [] hsz (.inl ⟨none,rfl,rfl,rfl⟩) (.nil _)
 ·have hlt:w.heap.size<(w.drew.alloc (.cells cells e)).heap.size:=(Array.getElem?_eq_some_iff.1 (heap_alloc_new w.drew (.cells cells e))).1
  have ho:OwnR (w.drew.alloc (.cells cells e)) e (AA P e) (.slice (some ⟨w.heap.size,0,none⟩) 0 cap) 0 []:=by
   refine .inr ⟨⟨by simp,.inr ⟨w.heap.size,cap,cells,rfl,Nat.zero_le _,heap_alloc_new w.drew _,Nat.zero_le _,hm,hc,by simp⟩⟩,w.heap.size,cap,rfl,h0⟩
  refine ⟨_,I,[w.heap.size],rfl,?_,fun _ h=>h,fun b hb=>⟨Nat.lt_trans (hI b hb) hlt,fun _=>hb⟩,?_,by simp,fun b hb=>?_⟩
  ·exact ((Below.refl _ w).drew).alloc (Nat.le_refl _) _
  ·have:[w.heap.size]=BF (.slice (some ⟨w.heap.size,0,none⟩) 0 cap):=by simp [BF,Nat.pos_iff_ne_zero.1 h0]
   rw [this]
   exact .own e [] _ [] hsz ho (.nil _)
  ·rw [List.mem_singleton] at hb
   subst hb
   exact ⟨Nat.le_refl _,hlt,fun hi=>by have:=hI _ hi;omega⟩
theorem S4 {f e M:Nat} (hsz:0<AA P e) (h:Pk P f e M) {z:Int} (hz:0≤z∧z≤(M:Int)) : FnR P f [.nl,.d (.i .i64 z)] H fun r' H'=>r'=.own e []∧H'=H:=by
 obtain ⟨n,rfl⟩:∃ n:Nat,z=(n:Int):=⟨z.toNat,by omega⟩
 exact FnR.ofFnN (xs:=[.i .i64 (n:Int)]) (FnN.grow hsz h (by omega))
end
section
variable {P:Program} {C:Cx} {o:Oper} {ops:Array Oper} {Q:Exit→Env→Af→Prop} {env:Env} {H:Af} {k:Nat} {l:List Oper}
theorem IQ {α:Type} {F:List α→List DV} {D:α→DV} (hset:∀ xs n x,(F xs).set n (D x)=F (xs.set n x)) {us:List α} {n m:Nat} {x:α} {y:Operand} {r ty e:Nat} {p:Pl} (hm:m=n) (hx:∃ z,(F us)[0+n]?=some z∧z.leaf=true)
  (h:RL P C ops Q (k+1) l (Lq p (.own e (F (us.set m x))) env) (QG p (.own e (F (us.set m x))) H)) (hsz:AA P ty=1)
  (hg:grd ops env o true=true:=by rfl) (ho:o.op=.store ty (.tmp r) y:=by rfl) (hv:get env r=.ep p (0+n) 0:=by rfl) (hp:AN env H p=.own e (F us):=by rfl) (hy:lk env y=.d (D x):=by rfl) (h1:(D x).leaf=true:=by rfl) (hd:o.dst=none:=by rfl)
  (hn:∀ id off,p=.c id off→C.n0≤id:=by (intro _ _ h;cases h<;>decide)):RL P C ops Q k (o::l) env H:=by
 subst hm
 exact ste hx (by rw [Nat.zero_add,hset];exact h) hsz hg ho hv hp hy h1 hd hn
end
end Go.FL
namespace Go.FL
open Go Go.RowKit
section
variable {P:Program} {C:Cx} {X:Snap} {o:Oper} {ops:Array Oper} {Q:Exit→Env→Af→Prop} {env env':Env} {H H':Af} {a:Act} {w w':World} {I I':Nat→Prop} {μ μ':List Nat} {O O':Nat→Option Loc}
 {K:Env→Af→Prop} {k:Nat} {l:List Oper}
theorem Vz {ty:Nat} (ho:o.op=.makeMap ty none:=by rfl) : VOK P C o env H (.om [] []) :=
 .val (by simp [ho]) fun X a w I μ O _ _ _ hs =>
  ⟨.map (some w.heap.size),w.alloc (.map #[] 0),I,[w.heap.size],by simp [execOp,ho,Instr.makeMap,newObj,Sem.run],Bh _,fun b hi=>hi,fun b hi=>⟨nL (hs.ilt b hi) (Bh _).size,fun _=>hi⟩,
   ARep.om [] [] [] [] w.heap.size #[] 0 (heap_alloc_new w _) .nil .nil (List.Perm.refl _) rfl,by simp,fun b hb=>by
    simp at hb;subst hb
    exact ⟨Nat.le_refl _,by simp,fun hi=>by have:=hs.ilt _ hi;omega⟩⟩
def freshK (q:IntKind) (z:Int) (ks:List DV) : Prop:=∀ k∈ks,∃ z',k=.i q z'∧z'≠z
theorem PD {α β:Type} : ∀ {ks:List α} {vs:List β} {x:α},ks.length=vs.length→x∈ks→∃ v,(x,v)∈ks.zip vs
 | k::ks,v::vs,x,hl,h=>by
  rcases List.mem_cons.1 h with rfl|h
  ·exact ⟨v,by simp⟩
  ·obtain ⟨u,hu⟩:=PD (ks:=ks) (vs:=vs) (by simpa using hl) h
   exact ⟨u,by simp [hu]⟩
theorem Jr {q:IntKind} {z:Int} {ty:TypeDesc} (hty:ty=.int q) : ∀ {es:List MapEntry} {ks:List DV} (n:Nat),RepAll w I ks (es.map MapEntry.key)→freshK q z ks→Instr.findNow ty (.int q z) es n=some none
 | [],_,n,_,_=>rfl
 | e::es,ks,n,hk,hf=>by
  subst hty
  cases hk with
  | @cons c _ cs _ h t =>
   obtain ⟨z',rfl,hz⟩:=hf c (by simp)
   have he:e.key=.int q z':=by
    generalize e.key=u at h
    cases h;rfl
   have hs:Instr.sameNow (.int q) (.int q z) e.key=some false:=by
    rw [he];simp [Instr.sameNow];exact fun h=>hz h.symm
   simp only [Instr.findNow,hs]
   exact Jr rfl (n+1) t fun k hk=>hf k (by simp [hk])
theorem Md {q:IntKind} {z:Int} {ty:TypeDesc} (hty:ty=.int q) {d:DV} : ∀ {es:List MapEntry} {ks vs:List DV} (n:Nat),RepAll w I ks (es.map MapEntry.key)→RepAll w I vs (es.map MapEntry.val) →
  (∀ k∈ks,∃ z',k=.i q z')→(.i q z,d)∈ks.zip vs→(∀ d',(.i q z,d')∈ks.zip vs→d'=d)→∃ i v,Instr.findNow ty (.int q z) es n=some (some (i,v))∧Rep w I d v
 | [],_,_,n,hk,_,_,hm,_=>by cases hk;simp at hm
 | e::es,ks,vs,n,hk,hv,hi,hm,hu=>by
  subst hty
  cases hk with
  | @cons c _ cs _ h t =>
   cases hv with
   | @cons c2 _ cs2 _ h2 t2 =>
    obtain ⟨z',rfl⟩:=hi c (by simp)
    have he:e.key=.int q z':=by
     generalize e.key=u at h
     cases h;rfl
    by_cases hz:z=z'
    ·subst hz
     have hs:Instr.sameNow (.int q) (.int q z) e.key=some true:=by rw [he];simp [Instr.sameNow]
     refine ⟨n,e.val,by simp only [Instr.findNow,hs],?_⟩
     have:=hu c2 (by simp)
     subst this;exact h2
    ·have hs:Instr.sameNow (.int q) (.int q z) e.key=some false:=by rw [he];simp [Instr.sameNow];exact hz
     simp only [Instr.findNow,hs]
     refine Md rfl (n+1) t t2 (fun k hk=>hi k (by simp [hk])) ?_ (fun d' hd=>hu d' (by simp [hd]))
     simp only [List.zip_cons_cons,List.mem_cons,Prod.mk.injEq,DV.i.injEq,true_and] at hm
     rcases hm with ⟨h3,_⟩|hm
     ·exact absurd h3 hz
     ·exact hm
theorem Jt {kt:TypeId} {q:IntKind} {z:Int} (hk:P.underlying kt=some (.int q)) (b:Bool) (n:Nat) : (Instr.checkKey b (n+1) kt (.int q z)).run P w=.ok () w:=by
 unfold Instr.checkKey
 simp [run_underlying hk]
theorem Hw {kt:TypeId} {q:IntKind} {z:Int} {es:List MapEntry} {r:Option (Nat×Value)} (hk:P.underlying kt=some (.int q)) (hf:Instr.findNow (.int q) (.int q z) es 0=some r) : (Instr.findKey kt (.int q z) es).run P w=.ok r w:=by
 simp [Instr.findKey,run_underlying hk,hf]
theorem M2 {r:Nat} {es:Array MapEntry} {c:Nat} (hh:w.heap[r]?=some (.map es c)) : (getObj r).run P w=.ok (.map es c) w:=by
 simp [getObj,Sem.run,hh]
theorem O8 {ty kt et:TypeId} {q:IntKind} {r:Nat} {es:Array MapEntry} {clock:Nat} {z:Int} {v:Value} (hu:P.underlying ty=some (.map kt et)) (hk:P.underlying kt=some (.int q)) (hh:w.heap[r]?=some (.map es clock)) (hf:Instr.findNow (.int q) (.int q z) es.toList 0=some none) :
  (Instr.mapUpdate ty (.map (some r)) (.int q z) v).run P w=.ok () {w with heap:=w.heap.setIfInBounds r (.map (es.push {key:=.int q z,val:=v,born:=clock}) (clock+1))}:=by
 have h1:=Jt (w:=w) (z:=z) hk false 9999
 have h2:=Hw (w:=w) (z:=z) hk hf
 have h3:=M2 (P:=P) hh
 unfold Instr.mapUpdate
 simp only [run_underlying hu,Sem.run_bind,Result.andThen_ok,h1,h2,h3]
 simp [setObj,Sem.run,hh]
theorem Lc {ty kt et:TypeId} {q:IntKind} {r:Nat} {es:Array MapEntry} {clock:Nat} {z:Int} {i:Nat} {v:Value} (hu:P.underlying ty=some (.map kt et)) (hk:P.underlying kt=some (.int q)) (hh:w.heap[r]?=some (.map es clock)) (hf:Instr.findNow (.int q) (.int q z) es.toList 0=some (some (i,v))) :
  (Instr.lookup ty (.map (some r)) (.int q z) false).run P w=.ok v w:=by
 have h1:=Jt (w:=w) (z:=z) hk es.isEmpty 9999
 have h2:=Hw (w:=w) (z:=z) hk hf
 have h3:=M2 (P:=P) hh
 unfold Instr.lookup
 simp only [run_underlying hu,Sem.run_bind,Sem.run_pure,Result.andThen_ok,h1,h2,h3]
 rfl
theorem Ki {ty kt et:TypeId} {q:IntKind} {r:Nat} {es:Array MapEntry} {clock:Nat} {z:Int} {v:Value} (hu:P.underlying ty=some (.map kt et)) (hk:P.underlying kt=some (.int q)) (hz:(zeroValue et).run P w=.ok v w) (hh:w.heap[r]?=some (.map es clock)) (hf:Instr.findNow (.int q) (.int q z) es.toList 0=some none) :
  (Instr.lookup ty (.map (some r)) (.int q z) false).run P w=.ok v w:=by
 have h1:=Jt (w:=w) (z:=z) hk es.isEmpty 9999
 have h2:=Hw (w:=w) (z:=z) hk hf
 have h3:=M2 (P:=P) hh
 unfold Instr.lookup
 simp only [run_underlying hu,Sem.run_bind,Sem.run_pure,Result.andThen_ok,h1,h2,h3,hz]
 rfl
theorem JD {ks vs ks' vs':List DV} (hp:(ks'.zip vs').Perm (ks.zip vs)) (hl:ks'.length=vs'.length) {k:DV} (h:k∈ks') : k∈ks:=by
 obtain ⟨v,hv⟩:=PD hl h
 exact (List.of_mem_zip (hp.mem_iff.1 hv)).1
theorem Sim.om_inv (hs:Sim P X env H a w I μ O) {t:Nat} {ks vs:List DV} (hg:get env t=.om ks vs) :
  ∃ blk es c ks' vs',a.tmps.getD t undef=.map (some blk)∧w.heap[blk]?=some (.map es c)∧RepAll w I ks' (es.toList.map MapEntry.key)∧RepAll w I vs' (es.toList.map MapEntry.val)∧(ks'.zip vs').Perm (ks.zip vs)∧ks.length=vs.length∧O blk=some (.t t):=by
 have:=hs.envr t
 rw [hg] at this
 obtain ⟨bs,h1,h2,h3⟩:=this.plain rfl
 generalize a.tmps.getD t undef=v at h1
 cases h1 with
 | om _ _ ks' vs' blk es c hh hk hv hp hl=>exact ⟨blk,es,c,ks',vs',rfl,hh,hk,hv,hp,hl,h3 blk (by simp)⟩
theorem Sim.ins (hs:Sim P X env H a w I μ O) {t:Nat} {ks vs:List DV} (hg:get env t=.om ks vs) {ty kt et:TypeId} {q:IntKind} {z:Int} {d:DV} {v:Value} (hu:P.underlying ty=some (.map kt et)) (hk:P.underlying kt=some (.int q)) (hf:freshK q z ks) (hv:Rep w I d v) :
  ∃ w',(Instr.mapUpdate ty (a.tmps.getD t undef) (.int q z) v).run P w=.ok () w'∧Sim P X ((t,.om (ks++[.i q z]) (vs++[d]))::env) H a w' I μ O:=by
 obtain ⟨blk,es,c,ks',vs',h1,h2,h3,h4,h5,h6,hO⟩:=hs.om_inv hg
 have hl':ks'.length=vs'.length:=by rw [h3.length,h4.length,List.length_map,List.length_map]
 have hfn:=Jr (q:=q) (z:=z) rfl 0 h3 fun k hk=>hf k (JD h5 hl' hk)
 have hlt:blk<w.heap.size:=(hs.own blk _ hO).1
 refine ⟨{w with heap:=w.heap.setIfInBounds blk (.map (es.push {key:=.int q z,val:=v,born:=c}) (c+1))},by rw [h1];exact O8 hu hk h2 hfn,?_⟩
 have hoth:∀ b,b≠blk→(w.heap.setIfInBounds blk (.map (es.push {key:=.int q z,val:=v,born:=c}) (c+1)))[b]?=w.heap[b]?:=fun b hb=>by
  rw [Array.getElem?_setIfInBounds,if_neg (Ne.symm hb)]
 obtain ⟨n1,_,_⟩:=hs.other_blk hO
 refine hs.blkSet (w':={w with heap:=w.heap.setIfInBounds blk (.map (es.push {key:=.int q z,val:=v,born:=c}) (c+1))}) (av:=.om (ks++[.i q z]) (vs++[d])) hO (by rw [hg];rfl) rfl hoth (by simp) rfl rfl rfl ?_
 rw [h1]
 have hI:∀ b,I b→(w.heap.setIfInBounds blk (.map (es.push {key:=.int q z,val:=v,born:=c}) (c+1)))[b]?=w.heap[b]?:=fun b hi=>hoth b (n1 b hi)
 refine .om _ _ (ks'++[.i q z]) (vs'++[d]) blk (es.push {key:=.int q z,val:=v,born:=c}) (c+1) ?_ ?_ ?_ ?_ (by simp [h6])
 ·show (w.heap.setIfInBounds blk _)[blk]?=_
  rw [Array.getElem?_setIfInBounds,if_pos rfl,if_pos hlt]
 ·rw [Array.toList_push,List.map_append]
  exact (h3.keep hI fun _ h=>h).append (.cons (.i _ _) .nil)
 ·rw [Array.toList_push,List.map_append]
  exact (h4.keep hI fun _ h=>h).append (.cons (hv.keep hI fun _ h=>h) .nil)
 ·rw [List.zip_append hl',List.zip_append h6]
  exact List.Perm.append h5 (List.Perm.refl _)
theorem JK {m:Nat} {x y:Operand} {ty kt et:TypeId} {q:IntKind} {z:Int} {ks vs:List DV} {d:DV} (hu:P.underlying ty=some (.map kt et)) (hk:P.underlying kt=some (.int q)) (hf:freshK q z ks) (h:RL P C ops Q (k+1) l ((m,.om (ks++[.i q z]) (vs++[d]))::env) H) (hg:grd ops env o true=true:=by rfl)
  (ho:o.op=.insert ty (.tmp m) x y:=by rfl) (hm:get env m=.om ks vs:=by rfl) (hx:A7 (lk env x)=some (.i q z):=by rfl) (hy:A7 (lk env y)=some d:=by rfl) (hd:o.dst=none:=by rfl):RL P C ops Q k (o::l) env H:=by
 refine .go hg (.done (by simp [ho]) hd (fun X a w I μ O _ _ _ hs=>?_) h)
 have h1:=hs.deep (x:=x) hx
 have h2:=hs.deep (x:=y) hy
 generalize hev:a.eval x=u at h1
 cases h1
 obtain ⟨w',r1,r2⟩:=hs.ins hm hu hk hf h2
 have he:a.eval (.tmp m)=a.tmps.getD m undef:=rfl
 exact ⟨w',I,μ,O,by simp only [execOp,ho,hev,he,r1,Sem.run_bind,Result.andThen_ok,Sem.run_pure],r2⟩
theorem Gh.omf {t:Nat} {ks vs:List DV} (hg:get env t=.om ks vs) : Gh P C env H ((t,.d (.mp ks vs))::env) H:=fun X a w I μ O _ _ _ hs=>by
 obtain ⟨blk,es,c,ks',vs',h1,h2,h3,h4,h5,h6,hO⟩:=hs.om_inv hg
 obtain ⟨n1,n2,n3⟩:=hs.other_blk hO
 refine ⟨_,_,⟨hs.toMem.frz [blk] (fun b hm=>by simp at hm;subst hm;exact (hs.own b _ hO).1) (fun b hm hk=>by simp at hm;exact n2 b hk hm) H rfl ?_,fun s=>?_,hs.nt,hs.dfs⟩⟩
 ·intro id ob ho
  obtain ⟨bb,bs,k1,k2,k3,k4⟩:=hs.heap id ob ho
  refine ⟨bb,bs,k1,k2.mono fun _ h=>.inl h,fun hn=>⟨(k3 hn).1,fun b hb=>?_⟩,k4⟩
  have:b∉[blk]:=by simpa using n3 id ob bb bs ho k1 k3 k4 b hb
  simp only [this,if_false]
  exact (k3 hn).2 b hb
 ·by_cases hst:t=s
  ·subst hst
   rw [show get ((t,.d (.mp ks vs))::env) t=.d (.mp ks vs) by simp [get]]
   refine .of (bs:=[]) ?_ nN (by simp)
   rw [h1]
   exact .d (.mp ks vs ks' vs' blk es c (.inr (by simp)) h2 (h3.keep (fun _ _=>rfl) fun _ h=>.inl h) (h4.keep (fun _ _=>rfl) fun _ h=>.inl h) h5 h6)
  ·rw [show get ((t,.d (.mp ks vs))::env) s=get env s by simp [get,hst]]
   have key:∀ p e xs,AN env H p=.own e xs→AN ((t,AV.d (.mp ks vs))::env) H p=.own e xs:=by
    intro p e' xs hp
    cases p with
    | t r =>
     have hr':t≠r:=fun h=>by subst h;simp only [AN] at hp;rw [hg] at hp;cases hp
     simp only [AN,get,if_neg hr'];exact hp
    | c id off=>exact hp
   have ht:=hs.envr s
   cases hgs:get env s with
   | ref p off len =>
    rw [hgs] at ht
    obtain ⟨e',xs,A,n,c,g1,g2,g3,g4⟩:=ht
    exact ⟨e',xs,A,n,c,key p e' xs g1,g2,g3,g4⟩
   | ep p i k =>
    rw [hgs] at ht
    obtain ⟨e',xs,b,n,c,g1,g2,g3,g4,g5⟩:=ht
    exact ⟨e',xs,b,n,c,key p e' xs g1,g2,g3,g4,g5⟩
   | _ =>
    rw [hgs] at ht
    obtain ⟨bs,g1,g2,g3⟩:=ht.plain rfl
    refine .of (g1.keep (fun _ h=>.inl h) (fun _ _=>rfl) (fun _ _ h=>h) fun _ _=>rfl) g2 fun b hb=>?_
    have:b∉[blk]:=fun hm=>by
     simp at hm;subst hm
     have:=g3 b hb;rw [hO] at this;simp at this;exact hst this
    simp only [this,if_false]
    exact g3 b hb
theorem V7 {x y:Operand} {ty kt et:TypeId} {q:IntKind} {z:Int} {ks vs:List DV} {d:DV} (hu:P.underlying ty=some (.map kt et)) (hk:P.underlying kt=some (.int q)) (hi:∀ k∈ks,∃ z',k=.i q z') (hm:(.i q z,d)∈ks.zip vs) (hq:∀ d',(.i q z,d')∈ks.zip vs→d'=d)
  (ho:o.op=.lookup ty x y false:=by rfl) (hx:A7 (lk env x)=some (.mp ks vs):=by rfl) (hy:A7 (lk env y)=some (.i q z):=by rfl):VOK P C o env H (.d d) :=
 .pv ⟨by simp [ho],fun X a w I μ O _ hs=>by
  have h1:=hs.deep (x:=x) hx
  have h2:=hs.deep (x:=y) hy
  generalize hev:a.eval x=u at h1
  generalize hev2:a.eval y=u2 at h2
  cases h2
  cases h1 with
  | mp _ _ ks' vs' r es c hI hh h3 h4 hp hl =>
   have hl':ks'.length=vs'.length:=by rw [h3.length,h4.length,List.length_map,List.length_map]
   obtain ⟨i,v,e1,e2⟩:=Md (q:=q) (z:=z) (d:=d) rfl 0 h3 h4 (fun k hk=>hi k (JD hp hl' hk)) (hp.mem_iff.2 hm) fun d' hd=>hq d' (hp.mem_iff.1 hd)
   exact ⟨v,by simp only [execOp,ho,hev,hev2,Lc hu hk hh e1,Sem.run_bind,Result.andThen_ok,Sem.run_pure],.of_rep e2⟩⟩
theorem VM {x y:Operand} {ty kt et:TypeId} {q:IntKind} {z:Int} {ks vs:List DV} {d:DV} {zv:Value} (hu:P.underlying ty=some (.map kt et)) (hk:P.underlying kt=some (.int q)) (hz:∀ w,(zeroValue et).run P w=.ok zv w) (hd:∀ w I,Rep w I d zv) (hf:freshK q z ks)
  (ho:o.op=.lookup ty x y false:=by rfl) (hx:A7 (lk env x)=some (.mp ks vs):=by rfl) (hy:A7 (lk env y)=some (.i q z):=by rfl):VOK P C o env H (.d d) :=
 .pv ⟨by simp [ho],fun X a w I μ O _ hs=>by
  have h1:=hs.deep (x:=x) hx
  have h2:=hs.deep (x:=y) hy
  generalize hev:a.eval x=u at h1
  generalize hev2:a.eval y=u2 at h2
  cases h2
  cases h1 with
  | mp _ _ ks' vs' r es c hI hh h3 h4 hp hl =>
   have hl':ks'.length=vs'.length:=by rw [h3.length,h4.length,List.length_map,List.length_map]
   have e1:=Jr (q:=q) (z:=z) rfl 0 h3 fun k hk=>hf k (JD hp hl' hk)
   exact ⟨zv,by simp only [execOp,ho,hev,hev2,Ki hu hk (hz w) hh e1,Sem.run_bind,Result.andThen_ok,Sem.run_pure],.of_rep (hd w I)⟩⟩
end
end Go.FL
namespace Go.FL
open Go Go.RowKit
section
variable {P:Program} {C:Cx} {X:Snap} {o:Oper} {ops:Array Oper} {Q:Exit→Env→Af→Prop} {env env':Env} {H H':Af} {a:Act} {w w':World} {I I':Nat→Prop} {μ μ':List Nat} {O O':Nat→Option Loc}
 {K:Env→Af→Prop} {k:Nat} {l:List Oper}
def FF (P:Program) (t:TypeId) : Bool:=match P.underlying t with
 | some (.func ..)=>true
 | _=>false
theorem Qr {t:TypeId} (hu:FF P t=true) (f:Go.Fn) (fs cs:Array Value) : (Op.equal t (.func f fs cs) .nilFunc).run P w=.ok false w:=by
 unfold FF at hu
 split at hu
 ·rename_i h
  have e:Op.equal t (.func f fs cs) .nilFunc=Op.equalIn (9999+1) t (.func f fs cs) .nilFunc:=rfl
  rw [e]
  unfold Op.equalIn
  simp only [run_underlying h,Sem.run_bind,Result.andThen_ok,Sem.run_pure]
 ·cases hu
theorem Qf {t:TypeId} (hu:FF P t=true) : (Op.equal t .nilFunc .nilFunc).run P w=.ok true w:=by
 unfold FF at hu
 split at hu
 ·rename_i h
  have e:Op.equal t .nilFunc .nilFunc=Op.equalIn (9999+1) t .nilFunc .nilFunc:=rfl
  rw [e]
  unfold Op.equalIn
  simp only [run_underlying h,Sem.run_bind,Result.andThen_ok,Sem.run_pure]
 ·cases hu
theorem V3 {xt yt:TypeId} {x y:Operand} {f:FuncId} {fs cs:List DV} (hu:FF P xt=true) (ho:o.op=.binOp .eql xt x y yt:=by rfl) (hx:A7 (lk env x)=some (.fn f fs cs):=by rfl) (hy:A7 (lk env y)=some .nf:=by rfl) : VOK P C o env H (.d (.b false)):=by
 refine .same (by simp [ho]) fun X a w I μ O _ hs=>⟨.bool false,?_,.b _⟩
 have h1:=hs.deep hx
 have h2:=hs.deep hy
 generalize hev:a.eval x=v1 at h1
 generalize hev2:a.eval y=v2 at h2
 cases h1;cases h2
 simp [execOp,ho,hev,hev2,binOp,eqGuard,Qr hu]
theorem VK {xt yt:TypeId} {x y:Operand} (hu:FF P xt=true) (ho:o.op=.binOp .eql xt x y yt:=by rfl) (hx:A7 (lk env x)=some .nf:=by rfl) (hy:A7 (lk env y)=some .nf:=by rfl) : VOK P C o env H (.d (.b true)):=by
 refine .same (by simp [ho]) fun X a w I μ O _ hs=>⟨.bool true,?_,.b _⟩
 have h1:=hs.deep hx
 have h2:=hs.deep hy
 generalize hev:a.eval x=v1 at h1
 generalize hev2:a.eval y=v2 at h2
 cases h1;cases h2
 simp [execOp,ho,hev,hev2,binOp,eqGuard,Qf hu]
end
end Go.FL
namespace Go.FL
open Go Go.Proofs
theorem Pz : Cu Tryz.prog 36=some true:=by kernel_rfl
theorem Nw : AA Tryz.prog 36=5:=by kernel_rfl
theorem PF : Cg Tryz.prog 36 0=some (0,1):=by kernel_rfl
theorem Vp : DN Tryz.prog 36=some [(0,1),(1,3),(4,1)]:=by kernel_rfl
theorem TW : (Tryz.prog.info? 36).bind (·.zero)=some (.agg #[.int .i64 0,.bool false,.slice none 0 0,.slice none 0 0,.int .i64 0]):=by kernel_rfl
theorem TU (w:World) (I:Nat→Prop) : RepAll w I [.i .i64 0,.b false,.sl [],.sl [],.i .i64 0] (Value.agg #[.int .i64 0,.bool false,.slice none 0 0,.slice none 0 0,.int .i64 0]).cells.toList:=.cons (.i _ _) (.cons (.b _) (.cons (.sl0 _ _) (.cons (.sl0 _ _) (.cons (.i _ _) (.nil)))))
end Go.FL
namespace Go.FL
open Go Go.RowKit
section
variable {P:Program} {C:Cx} {X:Snap} {o:Oper} {ops:Array Oper} {Q:Exit→Env→Af→Prop} {env env':Env} {H H':Af} {a:Act} {w w':World} {I I':Nat→Prop} {μ μ':List Nat} {O O':Nat→Option Loc}
 {K:Env→Af→Prop} {k:Nat} {l:List Oper}
theorem Sim.frzT (hs:Sim P X env H a w I μ O) {n:Nat} {e:TypeId} {xs:List DV} (hp:get env n=.own e xs) : ∃ (bs:List Nat) (O':Nat→Option Loc),Sim P X (IB (.t n) xs env) H a w (fun b=>I b∨b∈bs) μ O':=by
 obtain ⟨v,bs,hv,hr,hb,hO⟩:=hs.at_place (p:=.t n) hp
 have hO':∀ b∈bs,O b=some (.t n):=fun b hm=>(hO b hm).2.1 n rfl
 refine ⟨bs,_,⟨hs.toMem.frz bs (fun b hm=>(hO b hm).1) (fun b hm hk=>by have:=hs.kO b hk;rw [hO' b hm] at this;cases this) H rfl ?_,hs.frz_env (p:=.t n) hp hv hr hO' (fun _ _ _ _ h=>h),hs.nt,hs.dfs⟩⟩
 intro id o ho
 obtain ⟨blk,cs,h1,h2,h3,h4⟩:=hs.heap id o ho
 refine ⟨blk,cs,h1,h2.mono fun _ h=>.inl h,fun hn=>⟨(h3 hn).1,fun b hb=>?_⟩,h4⟩
 have h5:=(h3 hn).2 b hb
 have:b∉bs:=fun hm=>by have:=hO' b hm;rw [h5] at this;simp at this
 simp [this,h5]
theorem TZ {c:Call} {fo:Operand} {gv:DV} {xs xs0:List DV} {q:IntKind} {n:Int} (s:Nat) {e:TypeId} {ys:List DV} (h:FnV P gv xs (.d (.i q n))) (hp:get env s=.own e ys:=by rfl) (ho:o.op=.call c:=by rfl) (hc:c.callee=.value fo:=by rfl) (hfo:lk env fo=.d gv:=by rfl) (ha:argsD (IB (.t s) ys env) c.args.toList=some xs0:=by rfl) (hx:xs0=xs:=by simp) : VOK P C o env H (.d (.i q n)):=by
 subst hx
 obtain ⟨f,first,caps,rfl,hcall,hfn⟩:=h
 intro X a w I μ O next Q h1 h2 h3 hs hn
 have hfr0:=hs.deep (x:=fo) (v:=.fn f first caps) (by rw [hfo];rfl)
 obtain ⟨bs0,O2,hs2⟩:=hs.frzT hp
 have hfr:=hfr0.keep (w':=w) (I':=fun b=>I b∨b∈bs0) (fun _ _=>rfl) (fun _ h=>.inl h)
 generalize hev:a.eval fo=u at hfr
 cases hfr with
 | fn _ _ _ fs cs hfs hcs =>
  refine ⟨fun _ _=>trivial,?_⟩
  have hres:=B2 (P:=P) (w:=w) (ρ:=a.eval) (ty:=o.type) hc hev
  have hex:(execOp a.eval o).run P w=.ok (.enter f (fs.toArray++c.args.map a.eval++cs.toArray)) w:=by
   simp only [execOp,ho,Sem.run_bind,hres,Result.andThen_ok,invoke,hcall]
  rw [Oper.semAt_eq _ _ _ (by simp [ho]),hex,Oper.uponIn_enter]
  refine ⟨fun h=>(by simp [om] at h),?_⟩
  have hcl:=hfn w _ _ hs2.ilt ((hfs.append (hs2.argsD ha)).append hcs)
  have e:(fs++c.args.toList.map a.eval++cs).toArray=fs.toArray++c.args.map a.eval++cs.toArray:=by
   apply Array.ext';simp
  rw [e] at hcl
  refine ⟨trivial,fun csF hroom=>?_⟩
  obtain ⟨e,w',fr,⟨v,I',bs,rfl,q1,q2,q3,q4,q5,q6⟩,s,x⟩:=hcl.2 csF (room_wide _)
  have hv:∀ J:Nat→Prop,ARep P w' J μ (.d (.i q n)) v []:=by
   intro J
   cases q4 with
   | d h=>cases h;exact .d (.i _ _)
  exact ⟨.returned v,w',fr,hn v w' (fun b=>I' b∧(b<w.heap.size→I b)) [] q1 (fun b hb=>⟨q2 b (.inl hb),fun _=>hb⟩) (fun b hb=>⟨(q3 b hb.1).1,hb.2⟩) (M5 (hv _) rfl) nN (by simp),s,x⟩
theorem SV {y:Operand} {t ty:Nat} {c c':DV} (hsz:AA P ty=1) (ho:o.op=.store ty (.tmp t) y) (hv:get env t=.nb [c]) (hy:A7 (lk env y)=some c') (h1:c'.leaf=true) (hd:o.dst=none) (hK:K ((t,.nb [c'])::env) H) : OpOK P C o env H K:=by
 refine .done (by simp [ho]) hd (fun X a w I μ O _ _ _ hs=>?_) hK
 have hr:=hs.deep (x:=y) hy
 generalize hev:a.eval y=u at hr
 obtain ⟨blk,cells,e,q1,q2,q3,q4⟩:=hs.nbSet (vs:=[u]) hv (.cons hr .nil)
 refine ⟨_,I,μ,O,?_,q4⟩
 have hone:=hr.one h1
 obtain ⟨old,hold⟩:∃ old,cells=#[old]:=by
  have hl:=q3.length
  match hc:cells.toList,hl with
  | [old],_=>exact ⟨old,by apply Array.ext';simpa using hc⟩
 subst hold
 obtain ⟨i,i1,i2⟩:=Gp (P:=P) (t:=ty) (by omega)
 have hx:a.eval (.tmp t)=.pointer (some ⟨blk,0,none⟩):=q1
 have hsi:(P.info? ty).map (·.size)=some 1:=by rw [i1];simp;omega
 simp only [execOp,ho,hx,hev,Instr.storeAt,Instr.sureAddr,Sem.run_bind,Sem.run_pure,Result.andThen_ok,Go.run_storeVar_one w blk e ty old u q2 hsi hone]
theorem QB {y:Operand} {t ty:Nat} {c c':DV} (h:RL P C ops Q (k+1) l ((t,.nb [c'])::env) H) (hsz:AA P ty=1) (hg:grd ops env o true=true:=by rfl) (ho:o.op=.store ty (.tmp t) y:=by rfl)
  (hv:get env t=.nb [c]:=by rfl) (hy:A7 (lk env y)=some c':=by rfl) (h1:c'.leaf=true:=by rfl) (hd:o.dst=none:=by rfl):RL P C ops Q k (o::l) env H :=
 .go hg (SV hsz ho hv hy h1 hd h)
theorem mk' {α:Type} {F:List α→List DV} {x0:α} {x c:Operand} {ty t e by_:Nat} {z:Value} {q q':IntKind} {zl:Int} (n:Nat) (hF:List.replicate n (O9 z)=F (List.replicate n x0)) (hn:zl=n) (hb:by_ * n≤281474976710656∧n≤9223372036854775807) (h:RL P C ops Q (k+1) l ((t,.own e (F (List.replicate n x0)))::env) H)
  (hT:Cn P ty=some (e,1,by_,z)) (hz:zok z=true) (hg:grd ops env o true=true:=by rfl) (ho:o.op=.makeSlice ty x c:=by rfl) (hx:lk env x=.d (.i q zl):=by rfl) (hc:lk env c=.d (.i q' zl):=by rfl) (hd:o.dst=some t:=by rfl)
  (hf:Al (get env t)=false:=by rfl) (ht:okT C.nt t:=by rfl):RL P C ops Q k (o::l) env H :=
 mk n ⟨hn,hn⟩ hb (by rw [hF];exact h) hT hz hg ho hx hc hd hf ht
end
end Go.FL
namespace Go.FL
open Go Go.RowKit
def SU (id:Nat) (cs:List DV) : AV→AV
 | .bp i off=>if i=id then .d (.ptr (cs.drop off)) else .bp i off
 | .d v=>.d v
 | .nl=>.nl
 | .own e xs=>.own e xs
 | .nb xs=>.nb xs
 | .it s p=>.it s p
 | .om k v=>.om k v
 | .ref (.t s) o n=>.ref (.t s) o n
 | .ep (.t s) i k=>.ep (.t s) i k
 | _=>.un
def Qg (id:Nat) (cs:List DV) (env:Env) : Env:=env.map fun x=>(x.1,SU id cs x.2)
theorem IY (id:Nat) (cs:List DV) (t:Nat) : ∀ env : Env,get (Qg id cs env) t=SU id cs (get env t)
 | []=>rfl
 | (s,v)::r=>by
  show (if s=t then SU id cs v else get (Qg id cs r) t)=SU id cs (if s=t then v else get r t)
  split
  ·rfl
  ·exact IY id cs t r
def TQ : HO→Bool
 | .box cs=>noBpL cs
section
variable {P:Program} {C:Cx} {X:Snap} {o:Oper} {ops:Array Oper} {Q:Exit→Env→Af→Prop} {env env':Env} {H H':Af} {a:Act} {w w':World} {I I':Nat→Prop} {μ μ':List Nat} {O O':Nat→Option Loc}
 {K:Env→Af→Prop} {k:Nat} {l:List Oper}
theorem ARepAll.deepAll : ∀ {cs:List DV} {vs:List Value} {bs:List Nat},ARepAll P w I μ (cs.map .d) vs bs→bs=[]∧RepAll w I cs vs
 | [],_,_,h=>by cases h;exact ⟨rfl,.nil⟩
 | c::cs,_,_,h=>by
  cases h with
  | cons h t =>
   obtain ⟨e,r⟩:=t.deepAll
   subst e
   cases h with
   | d h=>exact ⟨rfl,.cons h r⟩
theorem Gh2.pop {H0:Af} {bx:List AV} {cs:List DV} (hH:H=H0++[.box bx]) (hb:bx=cs.map .d) (hb0:H0.all TQ=true) (hne:Nat.ble C.ne H0.length=true) : Gh2 P C env H (Qg H0.length cs env) H0:=fun X a w I μ O _ h2 h3 hs=>by
 subst hH hb
 have hne':X.ne≤H0.length:=by rw [h3];exact Nat.le_of_ble_eq_true hne
 have hn0:X.n0≤H0.length:=nT hs.n0le hne'
 have hμl:μ.length=H0.length+1:=by rw [hs.μlen];simp
 obtain ⟨blk,bs,k1,⟨cells,e,m1,m2⟩,k3,_⟩:=hs.heap H0.length (.box (cs.map .d)) (by simp)
 obtain ⟨rfl,m3⟩:=m2.deepAll
 have hO:O blk=some (.o H0.length):=(k3 hn0).2 blk (by simp)
 have hKn:∀ b,X.K b→b≠blk:=fun b hk e=>by subst e;have:=hs.kO _ hk;rw [hO] at this;cases this
 have hμt:∀ i,i<H0.length→(μ.take H0.length)[i]?=μ[i]?:=fun i hi=>by rw [List.getElem?_take,if_pos hi]
 have hOn:∀ b l,O b=some l→l≠.o H0.length→(if b=blk then none else O b)=some l:=fun b l h hl=>by
  rw [if_neg fun e=>by subst e;rw [hO] at h;exact hl (oI h).symm];exact h
 refine ⟨fun b=>I b∨b=blk,μ.take H0.length,fun b=>if b=blk then none else O b,{
  prot:=hs.prot
  kO:=fun b hk=>by rw [if_neg (hKn b hk)];exact hs.kO b hk
  kI:=fun b hk hi=>hi.elim (hs.kI b hk) fun e=>absurd e (hKn b hk)
  mono:=fun b hi=>.inl (hs.mono b hi)
  os:=hs.os,tape:=hs.tape,output:=hs.output,size:=hs.size
  own:=fun b l hl=>by
   by_cases hb:b=blk
   ·rw [if_pos hb] at hl;cases hl
   ·rw [if_neg hb] at hl
    exact ⟨(hs.own b l hl).1,fun hi=>hi.elim (hs.own b l hl).2 hb⟩
  ilt:=fun b hi=>hi.elim (hs.ilt b) fun e=>by rw [e];exact (hs.own blk _ hO).1
  μlen:=by rw [List.length_take];omega
  μpre:=fun i b hi hb=>by rw [hμt i (by omega)];exact hs.μpre i b hi hb
  nle:=hne'
  heap:=fun id ob ho=>?_
  klt:=hs.klt
  n0le:=hs.n0le
  envr:=fun s=>?_
  nt:=hs.nt
  dfs:=hs.dfs}⟩
 ·have hlt:=(lS.1 ho).1
  obtain ⟨bb,bs',q1,q2,q3,q4⟩:=hs.heap id ob (by rw [List.getElem?_append_left hlt];exact ho)
  refine ⟨bb,bs',by rw [hμt id hlt];exact q1,?_,fun hn=>⟨(q3 hn).1,fun b hb=>hOn b _ ((q3 hn).2 b hb) (by simp;omega)⟩,q4⟩
  have hnb:TQ ob=true:=List.all_eq_true.1 hb0 ob (List.mem_of_getElem? ho)
  cases ob with
  | box c =>
   obtain ⟨cl,et,n1,n2⟩:=q2
   exact ⟨cl,et,n1,(n2.noBp (μ':=μ.take H0.length) hnb).keep (fun _ h=>.inl h) (fun _ _=>rfl) (fun _ _ h=>h) fun _ _=>rfl⟩
 ·rw [IY]
  have ht:=hs.envr s
  have plain:∀ av,get env s=av→noBp av=true→A3 av=false→TRep P (Qg H0.length cs env) H0 a w (fun b=>I b∨b=blk) (μ.take H0.length) (fun b=>if b=blk then none else O b) s av:=by
   intro av hav hn hr
   rw [hav] at ht
   obtain ⟨bs,g1,g2,g3⟩:=ht.plain hr
   exact .of ((g1.noBp (μ':=μ.take H0.length) hn).keep (fun _ h=>.inl h) (fun _ _=>rfl) (fun _ _ h=>h) fun _ _=>rfl) g2 fun b hb=>hOn b _ (g3 b hb) (by simp)
  cases hgs:get env s with
  | bp i off =>
   rw [hgs] at ht
   obtain ⟨bs,g1,g2,g3⟩:=ht.plain rfl
   show TRep P _ _ a w _ _ _ s (if i=H0.length then .d (.ptr (cs.drop off)) else .bp i off)
   generalize hv:a.tmps.getD s undef=v at g1
   cases g1 with
   | bp _ _ blk' hb' =>
    by_cases hi:i=H0.length
    ·rw [if_pos hi]
     subst hi
     rw [k1] at hb'
     obtain rfl:=oI hb'
     refine .of (bs:=[]) ?_ nN (by simp)
     rw [hv]
     have hh:Has w blk 0 cells.toList:=fun j u hj=>by
      simp [World.cell?,m1]
      simpa using hj
     have hh2:=hh.drop off
     rw [Nat.zero_add] at hh2
     exact .d (.ptr _ blk off (cells.toList.drop off) (.inr rfl) hh2 ((m3.drop off).keep (fun _ _=>rfl) fun _ h=>.inl h))
    ·rw [if_neg hi]
     have hlt:=(lS.1 hb').1
     refine .of (bs:=[]) ?_ nN (by simp)
     rw [hv]
     exact .bp i off blk' (by rw [hμt i (by omega)];exact hb')
  | ref p off len =>
   cases p with
   | c _ _=>exact .un
   | t r =>
    rw [hgs] at ht
    obtain ⟨e',xs,A,n,c,g1,g2,g3,g4⟩:=ht
    refine ⟨e',xs,A,n,c,?_,g2,g3,g4⟩
    show get (Qg H0.length cs env) r=_
    rw [IY,show get env r=_ from g1];rfl
  | ep p i k =>
   cases p with
   | c _ _=>exact .un
   | t r =>
    rw [hgs] at ht
    obtain ⟨e',xs,b,n,c,g1,g2,g3,g4,g5⟩:=ht
    refine ⟨e',xs,b,n,c,?_,g2,g3,g4,g5⟩
    show get (Qg H0.length cs env) r=_
    rw [IY,show get env r=_ from g1];rfl
  | d v=>exact plain _ hgs rfl rfl
  | nl=>exact plain _ hgs rfl rfl
  | own e xs=>exact plain _ hgs rfl rfl
  | nb xs=>exact plain _ hgs rfl rfl
  | it s p=>exact plain _ hgs rfl rfl
  | om k v=>exact plain _ hgs rfl rfl
  | un=>exact .un
  | ag _=>exact .un
  | fn _ _ _=>exact .un
  | tup _=>exact .un
end
end Go.FL
namespace Go.FL
open Go Go.RowKit
theorem Nt (q:IntKind) : ∀ (ps:List (Int×DV)),(ps.map fun p=>DV.i q p.1).zip (ps.map (·.2))=ps.map fun p=>(DV.i q p.1,p.2)
 | []=>rfl
 | p::ps=>by simp [Nt q ps]
section
variable {P:Program} {C:Cx} {X:Snap} {o:Oper} {ops:Array Oper} {Q:Exit→Env→Af→Prop} {env env' envi:Env} {H H':Af} {a:Act} {w w':World} {I I':Nat→Prop} {μ μ':List Nat} {O O':Nat→Option Loc}
 {K:Env→Af→Prop} {k:Nat} {l:List Oper} {av:AV}
def N5 : Nat:=1000000000
def V6 (P:Program) (C:Cx) (ops:Array Oper) (H:Af) (env0 vals:Env) (tm i0 ty:Nat) (q:IntKind) (i:Nat) (o:Oper) (t:Nat) (v:AV) : Option (Int×DV)→Prop
 | none=>Oc P C ops H env0 vals o t v∧tm∉o.looksAt ops∧t<N5∧(i≠i0→t≠tm)∧(i=i0→t=tm∧v=.om [] [])
 | some (z,d)=>o.dst=none∧o.guard=none∧v=.un∧t=N5+i∧get env0 t=.un∧FT ops i i0=true∧∃ x y,o.op=.insert ty (.tmp tm) x y∧(∀ e,lk e x=.d (.i q z)) ∧
   ((∀ e,lk e y=.d d)∨∃ s,y=.tmp s∧s≠tm∧s∈o.looksAt ops∧get (Bp (o.looksAt ops) vals++env0) s=.d d)
end
end Go.FL
namespace Go.FL
open Go Go.RowKit
section
variable {P:Program} {C:Cx} {X:Snap} {o:Oper} {ops:Array Oper} {Q:Exit→Env→Af→Prop} {env env' envi env0 vals:Env} {H H':Af} {a:Act} {w w':World} {I I':Nat→Prop} {μ μ':List Nat} {O O':Nat→Option Loc}
 {k:Nat} {l:List Oper} {av v:AV} {t tm i0 ty n:Nat} {q:IntKind} {ps qs:List (Int×DV)}
inductive DLM (P:Program) (C:Cx) (ops:Array Oper) (H:Af) (env0:Env) (tm i0 ty:Nat) (q:IntKind) : Nat→Env→List (Int×DV)→List Oper→Env→List (Int×DV)→Prop
 | nil (n:Nat) (vals:Env) (ps:List (Int×DV)):DLM P C ops H env0 tm i0 ty q n vals ps [] vals ps
 | run {n:Nat} {vals fin:Env} {ps qs:List (Int×DV)} {o:Oper} {t:Nat} {v:AV} {l:List Oper} (hi:n≠i0) (hd:o.dst=some t) (ht:okT C.nt t) (h0:OS (get env0 t)=true) (hn:(vals.map (·.1)).contains t=false) (hs:Gq t v=true)
   (hg:grd ops (Bp (o.looksAt ops) vals++env0) o true=true) (hv:VOK P C o (Bp (o.looksAt ops) vals++env0) H v) (hr:CT (Bp (o.looksAt ops) vals++env0)=true) (hl:(o.looksAt ops).contains tm=false) (htd:t<N5) (htm:t≠tm)
   (h:DLM P C ops H env0 tm i0 ty q (n+1) ((t,v)::vals) ps l fin qs):DLM P C ops H env0 tm i0 ty q n vals ps (o::l) fin qs
 | mk {vals fin:Env} {ps qs:List (Int×DV)} {o:Oper} {l:List Oper} (hd:o.dst=some tm) (ht:okT C.nt tm) (h0:OS (get env0 tm)=true) (hn:(vals.map (·.1)).contains tm=false)
   (hg:grd ops (Bp (o.looksAt ops) vals++env0) o true=true) (hv:VOK P C o (Bp (o.looksAt ops) vals++env0) H (.om [] [])) (hr:CT (Bp (o.looksAt ops) vals++env0)=true) (hl:(o.looksAt ops).contains tm=false) (htd:tm<N5)
   (h:DLM P C ops H env0 tm i0 ty q (i0+1) ((tm,.om [] [])::vals) ps l fin qs):DLM P C ops H env0 tm i0 ty q i0 vals ps (o::l) fin qs
 | ins {n:Nat} {vals fin:Env} {ps qs:List (Int×DV)} {o:Oper} {l:List Oper} {x y:Operand} {z:Int} {d:DV} (hi:n≠i0) (hd:o.dst=none) (hgn:o.guard=none) (hop:o.op=.insert ty (.tmp tm) x y) (hx:∀ e,lk e x=.d (.i q z))
   (hy:(∀ e,lk e y=.d d)∨∃ s,y=.tmp s∧s≠tm∧s∈o.looksAt ops∧get (Bp (o.looksAt ops) vals++env0) s=.d d) (hdi:FT ops n i0=true) (h0:get env0 (N5+n)=.un)
   (h:DLM P C ops H env0 tm i0 ty q (n+1) ((N5+n,.un)::vals) (ps++[(z,d)]) l fin qs):DLM P C ops H env0 tm i0 ty q n vals ps (o::l) fin qs
theorem DLM.table {n:Nat} {vals fin:Env} {ps qs:List (Int×DV)} {l:List Oper} (h:DLM P C ops H env0 tm i0 ty q n vals ps l fin qs) : ∃ (tv:List (Nat×AV)) (iv:List (Option (Int×DV))),tv.length=l.length∧iv.length=l.length∧fin=tv.reverse++vals∧qs=ps++iv.filterMap id ∧
  ∀ (i:Nat) o,l[i]?=some o→∃ t v p,tv[i]?=some (t,v)∧iv[i]?=some p∧(n+i=i0→p=none)∧V6 P C ops H env0 ((tv.take i).reverse++vals) tm i0 ty q (n+i) o t v p:=by
 induction h with
 | nil n vals ps=>exact ⟨[],[],rfl,rfl,rfl,by simp,fun i o h=>by simp at h⟩
 | @run n vals fin ps qs o t v l hi hd ht h0 hn hs hg hv hr hl htd htm h ih =>
  obtain ⟨tv,iv,k1,k2,k3,k4,k5⟩:=ih
  refine ⟨(t,v)::tv,none::iv,by simp [k1],by simp [k2],by rw [k3];simp,by rw [k4];simp,fun i o' hio=>?_⟩
  cases i with
  | zero =>
   simp at hio;subst hio
   refine ⟨t,v,none,rfl,rfl,fun _=>rfl,⟨hd,ht,KF h0,fun x hx e=>?_,hs,hr,.inl ⟨hg,hv⟩⟩,fun hm=>?_,htd,fun _=>htm,fun e=>absurd e hi⟩
   ·subst e
    have:(vals.map (·.1)).contains x.1=true:=List.contains_iff_mem.2 (List.mem_map_of_mem hx)
    rw [hn] at this;cases this
   ·have:=List.contains_iff_mem.2 hm
    rw [hl] at this;cases this
  | succ i =>
   obtain ⟨t',v',p',m1,m2,m3,m4⟩:=k5 i o' (by simpa using hio)
   have e:n+(i+1)=n+1+i:=by omega
   refine ⟨t',v',p',by simpa using m1,by simpa using m2,by rw [e];exact m3,?_⟩
   rw [e];simpa using m4
 | @mk vals fin ps qs o l hd ht h0 hn hg hv hr hl htd h ih =>
  obtain ⟨tv,iv,k1,k2,k3,k4,k5⟩:=ih
  refine ⟨(tm,.om [] [])::tv,none::iv,by simp [k1],by simp [k2],by rw [k3];simp,by rw [k4];simp,fun i o' hio=>?_⟩
  cases i with
  | zero =>
   simp at hio;subst hio
   refine ⟨tm,.om [] [],none,rfl,rfl,fun _=>rfl,⟨hd,ht,KF h0,fun x hx e=>?_,rfl,hr,.inl ⟨hg,hv⟩⟩,fun hm=>?_,htd,fun e=>absurd rfl e,fun _=>⟨rfl,rfl⟩⟩
   ·subst e
    have:(vals.map (·.1)).contains x.1=true:=List.contains_iff_mem.2 (List.mem_map_of_mem hx)
    rw [hn] at this;cases this
   ·have:=List.contains_iff_mem.2 hm
    rw [hl] at this;cases this
  | succ i =>
   obtain ⟨t',v',p',m1,m2,m3,m4⟩:=k5 i o' (by simpa using hio)
   have e:i0+(i+1)=i0+1+i:=by omega
   refine ⟨t',v',p',by simpa using m1,by simpa using m2,by rw [e];exact m3,?_⟩
   rw [e];simpa using m4
 | @ins n vals fin ps qs o l x y z d hi hd hgn hop hx hy hdi h0 h ih =>
  obtain ⟨tv,iv,k1,k2,k3,k4,k5⟩:=ih
  refine ⟨(N5+n,.un)::tv,some (z,d)::iv,by simp [k1],by simp [k2],by rw [k3];simp,by rw [k4];simp,fun i o' hio=>?_⟩
  cases i with
  | zero =>
   simp at hio;subst hio
   exact ⟨N5+n,.un,some (z,d),rfl,rfl,fun e=>absurd e hi,hd,hgn,rfl,rfl,h0,hdi,x,y,hop,hx,hy⟩
  | succ i =>
   obtain ⟨t',v',p',m1,m2,m3,m4⟩:=k5 i o' (by simpa using hio)
   have e:n+(i+1)=n+1+i:=by omega
   refine ⟨t',v',p',by simpa using m1,by simpa using m2,by rw [e];exact m3,?_⟩
   rw [e];simpa using m4
end
end Go.FL
namespace Go.FL
open Go Go.RowKit
def R4 {α β:Type} (T:List (Int×FW α β)) : List (Int×DV):=T.map fun p=>(p.1,p.2.dv)
def S2 {α β:Type} (q:IntKind) (T:List (Int×FW α β)) : DV:=.mp ((R4 T).map fun p=>.i q p.1) ((R4 T).map (·.2))
def Gb {α β:Type} (T:List (Int×FW α β)) (z:Int) : Option (FW α β):=(T.find? fun p=>decide (p.1=z)).map (·.2)
def Ug {α β:Type} (x:Option α) (a:β) (f:α→β) : β:=match x with
 | none=>a
 | some y=>f y
theorem UR {α β:Type} {x:Option α} {a r:β} {f:α→β} (e:x=none) (h:Ug x a f=r) : a=r:=by subst e;exact h
theorem UH {α β:Type} {x:Option α} {y:α} {a r:β} {f:α→β} (e:x=some y) (h:Ug x a f=r) : f y=r:=by subst e;exact h
theorem KC {α β:Type} {T:List (Int×FW α β)} {z:Int} {f:FW α β} (h:Gb T z=some f) : (z,f)∈T:=by
 unfold Gb at h
 simp only [Option.map_eq_some_iff] at h
 obtain ⟨p,hp,rfl⟩:=h
 have h1:=List.find?_some hp
 have h2:=List.mem_of_find?_eq_some hp
 have:p.1=z:=by simpa using h1
 rw [← this];exact h2
theorem Tu {α β:Type} {T:List (Int×FW α β)} {z:Int} (h:Gb T z=none) : ∀ p∈T,p.1≠z:=fun p hp=>by
 unfold Gb at h
 rw [Option.map_eq_none_iff,List.find?_eq_none] at h
 simpa using h p hp
theorem Pp {α β:Type} (q:IntKind) (T:List (Int×FW α β)) : ((R4 T).map fun p=>DV.i q p.1).zip ((R4 T).map (·.2))=T.map fun p=>(DV.i q p.1,p.2.dv):=by
 rw [Nt];unfold R4;rw [List.map_map];rfl
theorem Ma {α β:Type} : ∀ {T:List (Int×FW α β)},(T.map (·.1)).Nodup→∀ {z f g},(z,f)∈T→(z,g)∈T→f=g
 | p::T,hn,z,f,g,h1,h2=>by
  rw [List.map_cons,List.nodup_cons] at hn
  rcases List.mem_cons.1 h1 with e1|h1<;>rcases List.mem_cons.1 h2 with e2|h2
  ·rw [← e1] at e2;cases e2;rfl
  ·exact absurd (List.mem_map.2 ⟨_,h2,by rw [← e1]⟩) hn.1
  ·exact absurd (List.mem_map.2 ⟨_,h1,by rw [← e2]⟩) hn.1
  ·exact Ma hn.2 h1 h2
section
variable {P:Program} {C:Cx} {o:Oper} {ops:Array Oper} {Q:Exit→Env→Af→Prop} {env:Env} {H:Af} {k:Nat} {l:List Oper}
theorem T6 {α β:Type} {T:List (Int×FW α β)} {z:Int} {f:FW α β} {x y:Operand} {ty kt et:TypeId} {q:IntKind} (hnd:(T.map (·.1)).Nodup) (hu:P.underlying ty=some (.map kt et)) (hk:P.underlying kt=some (.int q)) (h:Gb T z=some f)
  (ho:o.op=.lookup ty x y false:=by rfl) (hx:A7 (lk env x)=some (S2 q T):=by rfl) (hy:A7 (lk env y)=some (.i q z):=by rfl):VOK P C o env H (.d f.dv):=by
 refine V7 (q:=q) (z:=z) hu hk (fun k hk=>?_) ?_ (fun d' hd=>?_) ho hx hy
 ·obtain ⟨p,_,rfl⟩:=List.mem_map.1 hk;exact ⟨_,rfl⟩
 ·rw [Pp];exact List.mem_map.2 ⟨_,KC h,rfl⟩
 ·rw [Pp] at hd
  obtain ⟨p,hp,e⟩:=List.mem_map.1 hd
  simp only [Prod.mk.injEq,DV.i.injEq,true_and] at e
  obtain ⟨e1,rfl⟩:=e
  have:(z,p.2)∈T:=by rw [← e1];exact hp
  rw [Ma hnd this (KC h)]
theorem Vl {α β:Type} {T:List (Int×FW α β)} {z:Int} {x y:Operand} {ty kt et:TypeId} {q:IntKind} (hu:P.underlying ty=some (.map kt et)) (hk:P.underlying kt=some (.int q)) (hz:∀ w,(zeroValue et).run P w=.ok .nilFunc w) (h:Gb T z=none)
  (ho:o.op=.lookup ty x y false:=by rfl) (hx:A7 (lk env x)=some (S2 q T):=by rfl) (hy:A7 (lk env y)=some (.i q z):=by rfl):VOK P C o env H (.d .nf):=by
 refine VM (q:=q) (z:=z) hu hk hz (fun _ _=>.nf) (fun k hk=>?_) ho hx hy
 obtain ⟨p,hp,rfl⟩:=List.mem_map.1 hk
 obtain ⟨p',hp',rfl⟩:=List.mem_map.1 hp
 exact ⟨_,rfl,Tu h p' hp'⟩
theorem VI {xt yt:TypeId} {x y:Operand} {d:DV} (hu:FF P xt=true) (hf:∃ f fs cs,d=.fn f fs cs) (ho:o.op=.binOp .eql xt x y yt:=by rfl) (hx:A7 (lk env x)=some d:=by rfl) (hy:A7 (lk env y)=some .nf:=by rfl) : VOK P C o env H (.d (.b false)):=by
 obtain ⟨f,fs,cs,rfl⟩:=hf
 exact V3 hu ho hx hy
end
end Go.FL
namespace Go.FL
open Go Go.Proofs
section
variable {P:Program} {C:Cx} {o:Oper} {ops:Array Oper} {Q:Exit→Env→Af→Prop} {env:Env} {H:Af} {k:Nat} {l:List Oper}
theorem asu {x:Operand} {t:Nat} (h:RL P C ops Q (k+1) l ((t,.un)::env) H) (hg:grd ops env o true=true:=by rfl) (ho:o.op=.assign x:=by rfl) (hd:o.dst=some t:=by rfl) (hf:Al (get env t)=false:=by rfl) (ht:okT C.nt t:=by rfl) : RL P C ops Q k (o::l) env H:=by
 rw [← Ak hf] at h
 exact .go hg (.pure (by simp [ho]) hd ht (fun X a w I μ O _ hs=>⟨a.eval x,by simp [execOp,ho],[],.un _,nN,by simp⟩) h)
theorem freshK.nil {q:IntKind} {z:Int} : freshK q z []:=nofun
theorem freshK.snoc {q:IntKind} {z z':Int} {ks:List DV} (h:freshK q z ks) (hz:z'≠z) : freshK q z (ks++[.i q z']):=fun k hk=>by
 rcases List.mem_append.1 hk with h1|h1
 ·exact h k h1
 ·rw [List.mem_singleton] at h1
  exact ⟨z',h1,hz⟩
end
theorem gkR : Tryz.prog.underlying 21=some (.int .i32):=by kernel_rfl
def isF (d:DV) : Prop:=∃ f fs cs,d=.fn f fs cs
theorem Fi {n:Nat} : List.replicate n (O9 (.int .i64 0))=Is (List.replicate n 0):=by simp [Is,O9]
theorem Mc (w:World) (I:Nat→Prop) : RepAll w I [.sl []] (Value.slice none 0 0).cells.toList:=.cons (.sl0 _ _) .nil
abbrev En : Type:=FW (Arr) (Arr×Int)
abbrev FH (f:En) : Prop:=f.OK Tryz.prog (fun x=>[.ag [.sl (Is x.shape),.sl (Its x.items)]]) (fun r=>.tup [.d (.ag [.sl (Is r.1.shape),.sl (Its r.1.items)]),.d (.i .i64 r.2)])
abbrev Bv : Type:=FW ((List Int)) (Int)
abbrev K8 (f:Bv) : Prop:=f.OK Tryz.prog (fun x=>[.sl (Is x)]) (fun r=>.d (.i .i64 r))
theorem Ew : FF Tryz.prog 84=true:=by kernel_rfl
def CI (a0:Arr) : Option (Itm):=((A8 a0).bind fun x1=>(if x1=true then ((rd? a0.items 0).bind fun x2=>((Ja x2).bind fun x3=>(some (x3)))) else (some ((Itm.mk 0 (false,[],[]) 0 [])))))
theorem G8 {a0:Arr} {r:Itm} (h:CI a0=some r) :
  Fn Tryz.prog 126 [.ag [.sl (Is a0.shape),.sl (Its a0.items)]] (.d (.ag [.i .u8 r.kind,.b r.num.1,.sl (L r.num.2.1),.sl (L r.num.2.2),.i .i32 r.char,.sl (Ars r.box)])):=by
 unfold CI at h
 refine Fn.ofC (rs:=[.cell 2 58]) (nt:=12) Tryz.func126 rfl rfl rfl (by simp) rfl ?_;refine .sr ?_;refine vk (vbx) ?_;refine vk (van (Aj CU) Dm) ?_;refine rk [1,2] ?_;refine .seq ?_;refine .sr ?_;refine vk (AH Ac Ab) ?_
 obtain ⟨x1,g1,h⟩:=bnd h
 refine vk (Am (Bs g1) Tryz.call15) ?_;refine vk (vnt) ?_;refine rk [1,2,5] ?_
 rcases brc h with ⟨hc,h⟩|⟨hc,h⟩
 ·refine cnf (ntf hc) ?_
  refine .skip ?_
  show AW _ _ _ _ _ _
  refine .sr ?_;refine vk (vfa AD) ?_;refine vk (Ah Bm) ?_
  obtain ⟨x2,g2,h⟩:=bnd h
  obtain ⟨n2,p02,q2⟩:=Ag g2
  refine vk (vix n2 p02 (C6 q2) rfl C3) ?_;refine vk (AH Bd AG) ?_
  obtain ⟨x3,g3,h⟩:=bnd h
  refine vk (Am (Ke g3) Tryz.call31) ?_
  refine stn ?_ AG (by decide)
  refine rk [2] ?_;refine .ret ?_
  cases h
  exact ⟨_,⟨.inr rfl,Bd,AG,p6⟩,rfl⟩
 refine cnt (ntt (bf hc)) ?_;refine .sr ?_;refine vk (vbd JH CU Dm) ?_
 refine stn ?_ AG (by decide)
 refine rk [1,2] ?_;refine .ret ?_
 cases h
 exact ⟨_,⟨.inr rfl,Bd,AG,p6⟩,rfl⟩
def GP (a0:Arr) : Option (Arr):=((A8 a0).bind fun x1=>(if x1=true then ((Cb a0 (⟨.fn 33 [] [],fun x=>Gv x⟩ : BZ)).bind fun x2=>(some (x2))) else (some ((Arr.mk [] [])))))
theorem H6 {a0:Arr} {r:Arr} (h:GP a0=some r) :
  Fn Tryz.prog 134 [.ag [.sl (Is a0.shape),.sl (Its a0.items)]] (.d (.ag [.sl (Is r.shape),.sl (Its r.items)])):=by
 unfold GP at h
 refine Fn.ofC (rs:=[.cell 2 27]) (nt:=9) Tryz.func134 rfl rfl rfl (by simp) rfl ?_;refine .sr ?_;refine vk (vbx) ?_;refine vk (van (Aj As) Aw) ?_;refine rk [1,2] ?_;refine .seq ?_;refine .sr ?_;refine vk (AH Ac Ab) ?_
 obtain ⟨x1,g1,h⟩:=bnd h
 refine vk (Am (Bs g1) Tryz.call15) ?_;refine vk (vnt) ?_;refine rk [1,2,5] ?_
 rcases brc h with ⟨hc,h⟩|⟨hc,h⟩
 ·refine cnf (ntf hc) ?_
  refine .skip ?_
  show AW _ _ _ _ _ _
  refine .sr ?_;refine vk (AH Ac Ab) ?_
  obtain ⟨x2,g2,h⟩:=bnd h
  refine vk (Am (DO (DY Tryz.call33 (fun _ _ h=>ID h)) g2) Tryz.call69) ?_
  refine stn ?_ Ab (by decide)
  refine rk [2] ?_;refine .ret ?_
  cases h
  exact ⟨_,⟨.inr rfl,Ac,Ab,p2⟩,rfl⟩
 refine cnt (ntt (bf hc)) ?_;refine .sr ?_;refine vk (vbd Bl As Aw) ?_
 refine stn ?_ Ab (by decide)
 refine rk [1,2] ?_;refine .ret ?_
 cases h
 exact ⟨_,⟨.inr rfl,Ac,Ab,p2⟩,rfl⟩
def Bx (a0:(List Int)) (K0:(List Int)→Option ((List Int))) : Nat→(List Int)→Int→Int→Option ((List Int))
 | 0,_,_,_=>none
 | k+1,s3,s4,s5=>(if 0≤s5 then ((rd? s3 s5).bind fun x6=>((rd? a0 s5).bind fun x7=>(Bx a0 K0 k (List.set s3 (Int.toNat s5) s4) (w64 (s4 * x7)) (w64 (s5-1))))) else (K0 s3))
def Bj (a0:(List Int)) : Option ((List Int)):=((D4 (0≤((List.length a0:Nat) : Int)∧((List.length a0:Nat) : Int)≤17592186044416)).bind fun x1=>(jn (fun (z2:(List Int))=>(some (z2))) fun K0=>(Bx a0 K0 AK (List.replicate (Int.toNat ((List.length a0:Nat) : Int)) (0:Int)) 1 (w64 (((List.length a0:Nat) : Int)-1)))))
theorem Bz {a0:(List Int)} {r:(List Int)} (h:Bj a0=some r) :
  Fn Tryz.prog 75 [.sl (Is a0)] (.d (.sl (Is r))):=by
 unfold Bj at h
 refine Fn.o1 2 27 Tryz.func75 ?_;refine .sr ?_;refine asn ?_;refine rk [0,2] ?_;refine .sr ?_;refine vk (Aa) ?_;refine vk (AR (Ad _) (A0 _) AS) ?_
 obtain ⟨x1,g1,h⟩:=bnd h
 have ghx1:=CJ g1
 refine mk' (F:=Is) (x0:=0) (zl:=((List.length a0:Nat):Int)) (Int.toNat ((List.length a0:Nat):Int)) Fi (by omega) (by omega) ?_ BL (by decide)
 refine aso ?_;refine rk [0,2,3] ?_;refine .sr ?_;refine ar [0,2,3,4] ?_;refine .seq ?_;refine .sr ?_;refine vk (Aa) ?_;refine vk (AR (Ad _) (A0 _) AS) ?_;refine vk (vbi) ?_;refine ar [0,2,3,4,5] ?_
 obtain ⟨K0,hK0,h⟩:=AQ h
 refine AW.mr (σ:=(List Int)) (fun p=>K0 p=some r) (fun p=>[(2,.nl),(3,.own 3 (Is p))]) (fun p=>[]) ?_ ?_
 ·skip
  refine .block ?_
  refine .loop (.gk [0,2,3,4,5] ?_)
  refine AL.ind (σ:=Nat×(List Int)×Int×Int) (m:=fun p=>p.1) (e:=fun p=>[(0,.d (.sl (Is a0))),(2,.nl),(3,.own 3 (Is p.2.1)),(4,.d (.i .i64 p.2.2.1)),(5,.d (.i .i64 p.2.2.2))]) (h:=fun p=>[]) (I:=fun p=>Bx a0 K0 p.1 p.2.1 p.2.2.1 p.2.2.2=some r) ?_ (AK,(List.replicate (Int.toNat ((List.length a0:Nat):Int)) (0:Int)),1,(w64 (((List.length a0:Nat):Int)-1))) h
  rintro ⟨k,s3,s4,s5⟩ h ih
  dsimp only at h ih ⊢
  rcases k with _|k
  ·rw [Bx] at h;cases h
  rw [Bx] at h
  refine .seq ?_;refine .sr ?_;refine vk (Aa) ?_;refine vk (vbi) ?_;refine rk [0,2,3,4,5,13] ?_
  rcases brc h with ⟨hc,h⟩|⟨hc,h⟩
  ·refine cnt (dT hc) ?_
   refine .skip ?_
   show AW _ _ _ _ _ _
   refine .seq ?_;refine .block ?_;refine .sr ?_;refine mvo ?_;refine vk (Aa) ?_;refine vk (Aa) ?_
   obtain ⟨x6,g6,h⟩:=bnd h
   obtain ⟨n6,p06,q6⟩:=Ag g6
   refine ixr (off:=0) (len:=(Is s3).length) n6 p06 (by rw [Ad];exact (lS.1 q6).1) ?_ AJ (by decide)
   refine IQ (F:=Is) (D:=fun x=>.i .i64 x) Ej (us:=s3) (n:=n6) (m:=Int.toNat s5) (x:=s4) (by rw [p06];rfl) ⟨_,by rw [Nat.zero_add];exact AT q6,rfl⟩ ?_ B4
   refine RL.gk [0,2,3,4,5,13,17,18] ?_;refine rk [0,2,3,4,5] ?_;refine .region ?_;refine vk (Aa) ?_;refine vk (Aa) ?_;refine vk (Aa) ?_
   obtain ⟨x7,g7,h⟩:=bnd h
   obtain ⟨n7,p07,q7⟩:=Ag g7
   refine vk (vix n7 p07 (AT q7) rfl AJ) ?_;refine vk (Ah Ap) ?_;refine vk (vbi) ?_;refine asd ?_;refine .nil ?_
   show AW _ _ _ _ _ _
   refine .gk [0,2,3,4,5] ?_;refine .region ?_;refine vk (Aa) ?_;refine vk (vbi) ?_;refine asd ?_;refine .nil ?_;refine AL.gk [0,2,3,4,5] ?_
   exact ih (k,(List.set s3 (Int.toNat s5) s4),(w64 (s4 * x7)),(w64 (s5-1))) h (Nat.lt_succ_self _)
  refine cnf (dF hc) ?_;refine .gk [2,3] ?_;refine .exit ?_
  exact jr (s3) h
 rintro z2 h
 try dsimp only at h ⊢
 subst hK0
 show AW _ _ _ _ _ _
 refine .sr ?_;refine fz (p:=.t 3) ?_;refine vk (Aa) ?_;refine ar [2] ?_;refine .ret ?_
 cases h
 exact ⟨rfl,rfl⟩
def Ct (a0:(List Int)) (a1:(List Int)) (K0:Int→Option (Int)) : Nat→Int→Int→Option (Int)
 | 0,_,_=>none
 | k+1,s2,s3=>(if s3<((List.length a0:Nat):Int) then ((rd? a0 s3).bind fun x4=>((rd? a1 s3).bind fun x5=>(Ct a0 a1 K0 k (w64 (s2+(w64 (x4 * x5)))) (w64 (s3+1))))) else (K0 s2))
def Cj (a0:(List Int)) (a1:(List Int)) : Option (Int):=(jn (fun (z1:Int)=>(some (z1))) fun K0=>(Ct a0 a1 K0 AK 0 0))
theorem Dr {a0:(List Int)} {a1:(List Int)} {r:Int} (h:Cj a0 a1=some r) :
  Fn Tryz.prog 79 [.sl (Is a0),.sl (Is a1)] (.d (.i .i64 r)):=by
 unfold Cj at h
 refine Fn.o1 4 25 Tryz.func79 ?_;refine .sr ?_;refine ar [0,1,4] ?_;refine .sr ?_;refine ar [0,1,4,5] ?_;refine .seq ?_;refine .sr ?_;refine vk (Aa) ?_;refine vk (AR (Ad _) (A0 _) AS) ?_;refine vk (Aa) ?_;refine rk [1,4,5,8,9,10] ?_
 obtain ⟨K0,hK0,h⟩:=AQ h
 refine AW.mr (σ:=Int) (fun p=>K0 p=some r) (fun p=>[(4,.d (.i .i64 0)),(5,.d (.i .i64 p))]) (fun p=>[]) ?_ ?_
 ·skip
  refine .block ?_
  refine .loop (.gk [1,4,5,8,9,10] ?_)
  refine AL.ind (σ:=Nat×Int×Int) (m:=fun p=>p.1) (e:=fun p=>[(1,.d (.sl (Is a1))),(4,.d (.i .i64 0)),(5,.d (.i .i64 p.2.1)),(8,.d (.sl (Is a0))),(9,.d (.i .i64 ((List.length a0:Nat):Int))),(10,.d (.i .i64 p.2.2))]) (h:=fun p=>[]) (I:=fun p=>Ct a0 a1 K0 p.1 p.2.1 p.2.2=some r) ?_ (AK,0,0) h
  rintro ⟨k,s2,s3⟩ h ih
  dsimp only at h ih ⊢
  rcases k with _|k
  ·rw [Ct] at h;cases h
  rw [Ct] at h
  refine .sr ?_;refine vk (vbi) ?_;refine rk [1,4,5,8,9,10,11] ?_;refine .seq ?_
  rcases brc h with ⟨hc,h⟩|⟨hc,h⟩
  ·refine cnt (dT hc) ?_
   refine .skip ?_
   show AW _ _ _ _ _ _
   refine .seq ?_;refine .block ?_;refine .sr ?_;refine vk (Aa) ?_
   obtain ⟨x4,g4,h⟩:=bnd h
   obtain ⟨n4,p04,q4⟩:=Ag g4
   refine vk (vix n4 p04 (AT q4) rfl AJ) ?_;refine vk (Ah Ap) ?_;refine asd ?_;refine ar [1,4,5,6,7,8,9,10] ?_;refine .region ?_;refine vk (Aa) ?_;refine vk (Aa) ?_;refine vk (Aa) ?_;refine vk (Aa) ?_
   obtain ⟨x5,g5,h⟩:=bnd h
   obtain ⟨n5,p05,q5⟩:=Ag g5
   refine vk (vix n5 p05 (AT q5) rfl AJ) ?_;refine vk (Ah Ap) ?_;refine vk (vbi) ?_;refine vk (vbi) ?_;refine asd ?_;refine .nil ?_
   show AW _ _ _ _ _ _
   refine .gk [1,4,5,8,9,10] ?_;refine .region ?_;refine vk (vbi) ?_;refine vk (Aa) ?_;refine .nil ?_;refine AL.gk [1,4,5,8,9,10] ?_
   exact ih (k,(w64 (s2+(w64 (x4 * x5)))),(w64 (s3+1))) h (Nat.lt_succ_self _)
  refine cnf (dF hc) ?_;refine .gk [4,5] ?_;refine .exit ?_
  exact jr (s2) h
 rintro z1 h
 try dsimp only at h ⊢
 subst hK0
 show AW _ _ _ _ _ _
 refine .sr ?_;refine vk (Aa) ?_;refine ar [4] ?_;refine .ret ?_
 cases h
 exact ⟨rfl,rfl⟩
def Cs (a1:(List Int)) (x3:(List Int)) (s8:Int) (K3:(List Int)→Option (Arr×Int)) : Nat→(List Int)→Int→Option (Arr×Int)
 | 0,_,_=>none
 | k+1,s12,s13=>(if s13<((List.length x3:Nat):Int) then ((rd? x3 s13).bind fun x14=>((D4 (x14≠0)).bind fun x15=>((rd? a1 s13).bind fun x16=>((D4 (x16≠0)).bind fun x17=>((rd? s12 s13).bind fun x18=>(Cs a1 x3 s8 K3 k (List.set s12 (Int.toNat s13) (Int.tmod (w64 (Int.tdiv s8 x14)) x16)) (w64 (s13+1)))))))) else (K3 s12))
def BY (a0:Arr) (a1:(List Int)) (a2:Bv) (x1:Int×Int) (x2:Itm) (x3:(List Int)) (K0:(List Itm)→Option (Arr×Int)) : Nat→(List Int)→(List Itm)→Int→Option (Arr×Int)
 | 0,_,_,_=>none
 | k+1,s6,s7,s8=>(if s8<x1.1 then (jn (fun (z9:(List Int)) (z10:(List Itm))=>(BY a0 a1 a2 x1 x2 x3 K0 k z9 z10 (w64 (s8+1)))) fun K2=>(jn (fun (z11:(List Int))=>((a2.g z11).bind fun x19=>(if 0≤x19 then ((rd? a0.items x19).bind fun x20=>((ap? 1466015503701 s7 [x20]).bind fun x21=>(K2 z11 x21))) else ((ap? 1466015503701 s7 [x2]).bind fun x22=>(K2 z11 x22))))) fun K3=>(Cs a1 x3 s8 K3 AK s6 0))) else (K0 s7))
def BC (a0:Arr) (a1:(List Int)) (a2:Bv) : Option (Arr×Int):=((B5 a1).bind fun x1=>(if x1.2=0 then ((CI a0).bind fun x2=>((Bj a1).bind fun x3=>((D4 (0≤((List.length a1:Nat) : Int)∧((List.length a1:Nat) : Int)≤17592186044416)).bind fun x4=>(jn (fun (z5:(List Itm))=>(jn (fun (z23:(List Itm))=>((AE a1 z23).bind fun x25=>(some (x25.1,x25.2)))) fun K5=>(if x1.1=0 then ((ap? 1466015503701 z5 [x2]).bind fun x24=>(K5 x24)) else (K5 z5)))) fun K0=>(BY a0 a1 a2 x1 x2 x3 K0 AK (List.replicate (Int.toNat ((List.length a1:Nat) : Int)) (0:Int)) [] 0))))) else (some ((Arr.mk [] []),x1.2))))
theorem Ep {a0:Arr} {a1:(List Int)} {a2:Bv} (oa2:K8 a2) {r:Arr×Int} (h:BC a0 a1 a2=some r) :
  Fn Tryz.prog 76 [.ag [.sl (Is a0.shape),.sl (Its a0.items)],.sl (Is a1),a2.dv] (.tup [.d (.ag [.sl (Is r.1.shape),.sl (Its r.1.items)]),.d (.i .i64 r.2)]):=by
 unfold BC at h
 refine Fn.ofC (rs:=[.cell 6 27,.tmp 7]) (nt:=86) Tryz.func76 rfl rfl rfl (by simp) rfl ?_;refine .sr ?_;refine vk (vbx) ?_;refine vk (van (Aj As) Aw) ?_;refine ar [1,2,3,6,7] ?_;refine .sr ?_;refine vk (Aa) ?_
 obtain ⟨x1,g1,h⟩:=bnd h
 refine vk (VOK.tupd (vs:=[.i .i64 x1.1,.i .i64 x1.2]) (Am (Cm g1) Tryz.call26)) ?_;refine vk (Aa) ?_;refine vk (vex) ?_;refine vk (vex) ?_;refine asd ?_;refine ar [1,2,3,6,7,8,9] ?_;refine .seq ?_;refine .sr ?_;refine vk (Aa) ?_;refine vk (vbi) ?_;refine rk [1,2,3,6,7,8,9,24] ?_
 rcases brc h with ⟨hc,h⟩|⟨hc,h⟩
 ·refine cnf (ntf (dT hc)) ?_
  refine .skip ?_
  show AW _ _ _ _ _ _
  refine .sr ?_;refine vk (AH Ac Ab) ?_
  obtain ⟨x2,g2,h⟩:=bnd h
  refine vk (Am (G8 g2) Tryz.call126) ?_;refine vk (van (Aj CU) Dm) ?_
  refine stn ?_ AG (by decide)
  refine rk [1,2,3,6,7,8,10] ?_;refine .sr ?_;refine vk (Aa) ?_
  obtain ⟨x3,g3,h⟩:=bnd h
  refine vk (Am (Bz g3) Tryz.call75) ?_;refine ar [1,2,3,6,7,8,10,11] ?_;refine .sr ?_;refine vk (Aa) ?_;refine vk (AR (Ad _) (A0 _) AS) ?_
  obtain ⟨x4,g4,h⟩:=bnd h
  have ghx4:=CJ g4
  refine mk' (F:=Is) (x0:=0) (zl:=((List.length a1:Nat):Int)) (Int.toNat ((List.length a1:Nat):Int)) Fi (by omega) (by omega) ?_ BL (by decide)
  refine aso ?_;refine rk [1,2,3,6,7,8,10,11,12] ?_;refine .sr ?_;refine asn ?_;refine rk [1,2,3,6,7,8,10,11,12,13] ?_;refine .seq ?_;refine .sr ?_;refine vk (Aa) ?_;refine vk (Aa) ?_;refine rk [1,2,3,6,7,8,10,11,12,13,34,35] ?_
  obtain ⟨K0,hK0,h⟩:=AQ h
  refine AW.mr (σ:=(List Itm)) (fun p=>K0 p=some r) (fun p=>[(1,.d (.sl (Is a1))),(6,.nb [.sl (Is []),.sl (Its [])]),(7,.d (.i .i64 0)),(8,.d (.i .i64 x1.1)),(10,.nb [.i .u8 x2.kind,.b x2.num.1,.sl (L x2.num.2.1),.sl (L x2.num.2.2),.i .i32 x2.char,.sl (Ars x2.box)]),(13,.own 58 (Its p))]) (fun p=>[]) ?_ ?_
  ·skip
   refine .block ?_;refine .gh (Gh.nlOwn (t:=13) 58 (by rw [JA];decide) rfl) ?_
   refine .loop (.gk [1,2,3,6,7,8,10,11,12,13,34,35] ?_)
   refine AL.ind (σ:=Nat×(List Int)×(List Itm)×Int) (m:=fun p=>p.1) (e:=fun p=>[(1,.d (.sl (Is a1))),(2,.d (a2.dv)),(3,.d (.ptr [.sl (Is a0.shape),.sl (Its a0.items)])),(6,.nb [.sl (Is []),.sl (Its [])]),(7,.d (.i .i64 0)),(8,.d (.i .i64 x1.1)),(10,.nb [.i .u8 x2.kind,.b x2.num.1,.sl (L x2.num.2.1),.sl (L x2.num.2.2),.i .i32 x2.char,.sl (Ars x2.box)]),(11,.d (.sl (Is x3))),(12,.own 3 (Is p.2.1)),(13,.own 58 (Its p.2.2.1)),(34,.d (.i .i64 x1.1)),(35,.d (.i .i64 p.2.2.2))]) (h:=fun p=>[]) (I:=fun p=>BY a0 a1 a2 x1 x2 x3 K0 p.1 p.2.1 p.2.2.1 p.2.2.2=some r) ?_ (AK,(List.replicate (Int.toNat ((List.length a1:Nat):Int)) (0:Int)),[],0) h
   rintro ⟨k,s6,s7,s8⟩ h ih
   dsimp only at h ih ⊢
   rcases k with _|k
   ·rw [BY] at h;cases h
   rw [BY] at h
   refine .sr ?_;refine vk (vbi) ?_;refine rk [1,2,3,6,7,8,10,11,12,13,34,35,36] ?_;refine .seq ?_
   rcases brc h with ⟨hc,h⟩|⟨hc,h⟩
   ·refine cnt (dT hc) ?_
    refine .skip ?_
    show AW _ _ _ _ _ _
    obtain ⟨K2,hK2,h⟩:=AQ h
    refine AW.mj (σ:=(List Int)×(List Itm)) (fun p=>K2 p.1 p.2=some r) (fun p=>[(1,.d (.sl (Is a1))),(2,.d (a2.dv)),(3,.d (.ptr [.sl (Is a0.shape),.sl (Its a0.items)])),(6,.nb [.sl (Is []),.sl (Its [])]),(7,.d (.i .i64 0)),(8,.d (.i .i64 x1.1)),(10,.nb [.i .u8 x2.kind,.b x2.num.1,.sl (L x2.num.2.1),.sl (L x2.num.2.2),.i .i32 x2.char,.sl (Ars x2.box)]),(11,.d (.sl (Is x3))),(12,.own 3 (Is p.1)),(13,.own 58 (Its p.2)),(34,.d (.i .i64 x1.1)),(35,.d (.i .i64 s8))]) (fun p=>[]) ?_ ?_
    ·skip
     refine .block ?_;refine .sr ?_;refine vk (Aa) ?_;refine ar [1,2,3,6,7,8,10,11,12,13,14,34,35] ?_;refine .seq ?_;refine .sr ?_;refine vk (Aa) ?_;refine vk (AR (Ad _) (A0 _) AS) ?_;refine vk (Aa) ?_;refine rk [1,2,3,6,7,8,10,11,12,13,14,34,35,38,39,40] ?_
     obtain ⟨K3,hK3,h⟩:=AQ h
     refine AW.mr (σ:=(List Int)) (fun p=>K3 p=some r) (fun p=>[(1,.d (.sl (Is a1))),(2,.d (a2.dv)),(3,.d (.ptr [.sl (Is a0.shape),.sl (Its a0.items)])),(6,.nb [.sl (Is []),.sl (Its [])]),(7,.d (.i .i64 0)),(8,.d (.i .i64 x1.1)),(10,.nb [.i .u8 x2.kind,.b x2.num.1,.sl (L x2.num.2.1),.sl (L x2.num.2.2),.i .i32 x2.char,.sl (Ars x2.box)]),(11,.d (.sl (Is x3))),(12,.own 3 (Is p)),(13,.own 58 (Its s7)),(34,.d (.i .i64 x1.1)),(35,.d (.i .i64 s8))]) (fun p=>[]) ?_ ?_
     ·skip
      refine .block ?_
      refine .loop (.gk [1,2,3,6,7,8,10,11,12,13,14,34,35,38,39,40] ?_)
      refine AL.ind (σ:=Nat×(List Int)×Int) (m:=fun p=>p.1) (e:=fun p=>[(1,.d (.sl (Is a1))),(2,.d (a2.dv)),(3,.d (.ptr [.sl (Is a0.shape),.sl (Its a0.items)])),(6,.nb [.sl (Is []),.sl (Its [])]),(7,.d (.i .i64 0)),(8,.d (.i .i64 x1.1)),(10,.nb [.i .u8 x2.kind,.b x2.num.1,.sl (L x2.num.2.1),.sl (L x2.num.2.2),.i .i32 x2.char,.sl (Ars x2.box)]),(11,.d (.sl (Is x3))),(12,.own 3 (Is p.2.1)),(13,.own 58 (Its s7)),(14,.d (.i .i64 s8)),(34,.d (.i .i64 x1.1)),(35,.d (.i .i64 s8)),(38,.d (.sl (Is x3))),(39,.d (.i .i64 ((List.length x3:Nat):Int))),(40,.d (.i .i64 p.2.2))]) (h:=fun p=>[]) (I:=fun p=>Cs a1 x3 s8 K3 p.1 p.2.1 p.2.2=some r) ?_ (AK,s6,0) h
      rintro ⟨k,s12,s13⟩ h ih
      dsimp only at h ih ⊢
      rcases k with _|k
      ·rw [Cs] at h;cases h
      rw [Cs] at h
      refine .sr ?_;refine vk (vbi) ?_;refine rk [1,2,3,6,7,8,10,11,12,13,14,34,35,38,39,40,41] ?_;refine .seq ?_
      rcases brc h with ⟨hc,h⟩|⟨hc,h⟩
      ·refine cnt (dT hc) ?_
       refine .skip ?_
       show AW _ _ _ _ _ _
       refine .seq ?_;refine .block ?_;refine .sr ?_;refine vk (Aa) ?_
       obtain ⟨x14,g14,h⟩:=bnd h
       obtain ⟨n14,p014,q14⟩:=Ag g14
       refine vk (vix n14 p014 (AT q14) rfl AJ) ?_;refine vk (Ah Ap) ?_;refine asd ?_;refine ar [1,2,3,6,7,8,10,11,12,13,14,15,16,34,35,38,39,40] ?_;refine .drawn 11 Bb (by kernel_rfl) ?_;refine dv LI ?_;refine dv (Aa) ?_;refine dv (Aa) ?_;refine dv (Aa) ?_
       obtain ⟨x15,g15,h⟩:=bnd h
       refine dv (Ht (CJ g15)) ?_;refine dv (Aa) ?_;refine dv (Aa) ?_
       obtain ⟨x16,g16,h⟩:=bnd h
       obtain ⟨n16,p016,q16⟩:=Ag g16
       refine dv (vix n16 p016 (AT q16) rfl AJ) ?_;refine dv (Ah Ap) ?_
       obtain ⟨x17,g17,h⟩:=bnd h
       refine dv (Ht (CJ g17)) ?_
       obtain ⟨x18,g18,h⟩:=bnd h
       obtain ⟨n18,p018,q18⟩:=Ag g18
       refine dv (Lp (off:=0) (len:=(Is s12).length) n18 p018 (by rw [Ad];exact (lS.1 q18).1) AJ (by decide)) ?_;refine dz ?_
       refine IQ (F:=Is) (D:=fun x=>.i .i64 x) Ej (us:=s12) (n:=n18) (m:=Int.toNat s13) (x:=(Int.tmod (w64 (Int.tdiv s8 x14)) x16)) (by rw [p018];rfl) ⟨_,by rw [Nat.zero_add];exact AT q18,rfl⟩ ?_ B4
       refine RL.gk [1,2,3,6,7,8,10,11,12,13,14,15,16,34,35,38,39,40,46,47,48,49,50,51,52,53,54] ?_;refine .nil ?_
       show AW _ _ _ _ _ _
       refine .gk [1,2,3,6,7,8,10,11,12,13,14,34,35,38,39,40] ?_;refine .region ?_;refine vk (vbi) ?_;refine vk (Aa) ?_;refine .nil ?_;refine AL.gk [1,2,3,6,7,8,10,11,12,13,14,34,35,38,39,40] ?_
       exact ih (k,(List.set s12 (Int.toNat s13) (Int.tmod (w64 (Int.tdiv s8 x14)) x16)),(w64 (s13+1))) h (Nat.lt_succ_self _)
      refine cnf (dF hc) ?_;refine .gk [1,2,3,6,7,8,10,11,12,13,34,35] ?_;refine .exit ?_
      exact jr (s12) h
     rintro z11 h
     try dsimp only at h ⊢
     subst hK3
     show AW _ _ _ _ _ _
     refine .sr ?_;refine vk (Aa) ?_;refine mvo ?_
     obtain ⟨x19,g19,h⟩:=bnd h
     refine vk (TZ 12 (oa2 _ _ g19)) ?_;refine ar [1,2,3,6,7,8,10,11,12,13,17,34,35] ?_;refine .sr ?_;refine vk (Aa) ?_;refine vk (vbi) ?_;refine rk [1,2,3,6,7,8,10,11,12,13,17,34,35,61] ?_
     rcases brc h with ⟨hc,h⟩|⟨hc,h⟩
     ·refine cnt (dT hc) ?_
      refine .region ?_;refine mvo ?_;refine vk (vfa AD) ?_;refine vk (Ah Bm) ?_;refine vk (Aa) ?_
      obtain ⟨x20,g20,h⟩:=bnd h
      obtain ⟨n20,p020,q20⟩:=Ag g20
      refine vk (vix n20 p020 (C6 q20) rfl C3) ?_;refine vk (AH Bd AG) ?_;refine vk ((Em (Er x20) (Db [x20]) Cz).deep) ?_
      obtain ⟨x21,g21,h⟩:=bnd h
      refine M4 Fe g21 GA ?_ Eu Ay Cz
      refine aso ?_;refine RL.gk [1,2,3,6,7,8,10,11,12,13,34,35] ?_;refine .nil ?_
      exact jr (z11,x21) h
     refine cnf (dF hc) ?_;refine .region ?_;refine mvo ?_;refine vk (Fs Bd AG) ?_;refine vk ((Em (Er x2) (Db [x2]) Cz).deep) ?_
     obtain ⟨x22,g22,h⟩:=bnd h
     refine M4 Fe g22 GA ?_ Eu Ay Cz
     refine aso ?_;refine RL.gk [1,2,3,6,7,8,10,11,12,13,34,35] ?_;refine .nil ?_
     exact jr (z11,x22) h
    rintro ⟨z9,z10⟩ h
    try dsimp only at h ⊢
    subst hK2
    refine .region ?_;refine vk (vbi) ?_;refine vk (Aa) ?_;refine .nil ?_;refine AL.gk [1,2,3,6,7,8,10,11,12,13,34,35] ?_
    exact ih (k,z9,z10,(w64 (s8+1))) h (Nat.lt_succ_self _)
   refine cnf (dF hc) ?_;refine .gk [1,6,7,8,10,13] ?_;refine .exit ?_
   exact jr (s7) h
  rintro z5 h
  try dsimp only at h ⊢
  subst hK0
  show AW _ _ _ _ _ _
  refine .seq ?_;refine .sr ?_;refine vk (Aa) ?_;refine vk (vbi) ?_;refine rk [1,6,7,10,13,76] ?_
  obtain ⟨K5,hK5,h⟩:=AQ h
  refine AW.mr (σ:=(List Itm)) (fun p=>K5 p=some r) (fun p=>[(1,.d (.sl (Is a1))),(6,.nb [.sl (Is []),.sl (Its [])]),(7,.d (.i .i64 0)),(13,.own 58 (Its p))]) (fun p=>[]) ?_ ?_
  ·skip
   rcases brc h with ⟨hc,h⟩|⟨hc,h⟩
   ·refine cnt (dT hc) ?_
    refine .region ?_;refine mvo ?_;refine vk (Fs Bd AG) ?_;refine vk ((Em (Er x2) (Db [x2]) Cz).deep) ?_
    obtain ⟨x24,g24,h⟩:=bnd h
    refine M4 Fe g24 GA ?_ Eu Ay Cz
    refine aso ?_;refine RL.gk [1,6,7,13] ?_;refine .nil ?_
    exact jr (x24) h
   refine cnf (dF hc) ?_;refine .gk [1,6,7,13] ?_;refine .skip ?_
   exact jr (z5) h
  rintro z23 h
  try dsimp only at h ⊢
  subst hK5
  show AW _ _ _ _ _ _
  refine .sr ?_;refine vk (Aa) ?_;refine fz (p:=.t 13) ?_;refine vk (Aa) ?_
  obtain ⟨x25,g25,h⟩:=bnd h
  refine vk (VOK.tupd (vs:=[.ag [.sl (Is x25.1.shape),.sl (Its x25.1.items)],.i .i64 x25.2]) (Am (CK g25) Tryz.call10)) ?_;refine vk (vex) ?_;refine vk (vex) ?_
  refine stn ?_ Ab (by decide)
  refine ar [6,7] ?_;refine .ret ?_
  cases h
  exact ⟨_,_,⟨.inr rfl,Ac,Ab,p2⟩,rfl,rfl⟩
 refine cnt (ntt (dF hc)) ?_;refine .sr ?_;refine vk (vbd Bl As Aw) ?_;refine vk (Aa) ?_
 refine stn ?_ Ab (by decide)
 refine ar [1,2,3,6,7,8] ?_;refine .ret ?_
 cases h
 exact ⟨_,_,⟨.inr rfl,Ac,Ab,p2⟩,rfl,rfl⟩
def Di (a0:(List Int)) (c0:(List Int)) (c1:Int) (c2:(List Int)) : Option (Int):=((rd? a0 c1).bind fun x1=>((rd? c0 x1).bind fun x2=>(if x2<0 then (some ((-1))) else ((Cj c2 a0).bind fun x3=>((rd? c2 c1).bind fun x4=>((rd? a0 c1).bind fun x5=>(some ((w64 (x3+(w64 (x4 * (w64 (x2-x5))))))))))))))
theorem JQ {a0:(List Int)} {c0:(List Int)} {c1:Int} {c2:(List Int)} {r:Int} (h:Di a0 c0 c1 c2=some r) :
  Fn Tryz.prog 168 [.sl (Is a0),.ptr [.sl (Is c0)],.ptr [.i .i64 c1],.ptr [.sl (Is c2)]] (.d (.i .i64 r)):=by
 unfold Di at h
 refine Fn.o1 5 31 Tryz.func168 ?_;refine .sr ?_;refine ar [0,1,2,3,5] ?_;refine .seq ?_;refine .drawn 7 Bb (by kernel_rfl) ?_;refine dv (Ah Ax) ?_;refine dv (Aa) ?_;refine dv (Ah Ap) ?_
 obtain ⟨x1,g1,h⟩:=bnd h
 obtain ⟨n1,p01,q1⟩:=Ag g1
 refine dv (vix n1 p01 (AT q1) rfl AJ) ?_;refine dv (Ah Ap) ?_
 obtain ⟨x2,g2,h⟩:=bnd h
 obtain ⟨n2,p02,q2⟩:=Ag g2
 refine dv (vix n2 p02 (AT q2) rfl AJ) ?_;refine dv (Ah Ap) ?_;refine dz ?_;refine ar [0,2,3,5,6] ?_;refine .seq ?_;refine .sr ?_;refine vk (Aa) ?_;refine vk (vbi) ?_;refine rk [0,2,3,5,6,15] ?_
 rcases brc h with ⟨hc,h⟩|⟨hc,h⟩
 ·refine cnt (dT hc) ?_
  refine .sr ?_;refine ar [0,2,3,5,6] ?_;refine .ret ?_
  cases h
  exact ⟨rfl,rfl⟩
 refine cnf (dF hc) ?_;refine .skip ?_
 show AW _ _ _ _ _ _
 refine .seq ?_;refine .drawn 15 Bb (by kernel_rfl) ?_;refine dv (Ah Ax) ?_;refine dv (Aa) ?_
 obtain ⟨x3,g3,h⟩:=bnd h
 refine dv (Am (Dr g3) Tryz.call79) ?_;refine dv (Ah Ax) ?_;refine dv (Ah Ap) ?_
 obtain ⟨x4,g4,h⟩:=bnd h
 obtain ⟨n4,p04,q4⟩:=Ag g4
 refine dv (vix n4 p04 (AT q4) rfl AJ) ?_;refine dv (Ah Ap) ?_;refine dv (Aa) ?_;refine dv (Aa) ?_;refine dv (Ah Ap) ?_
 obtain ⟨x5,g5,h⟩:=bnd h
 obtain ⟨n5,p05,q5⟩:=Ag g5
 refine dv (vix n5 p05 (AT q5) rfl AJ) ?_;refine dv (Ah Ap) ?_;refine dv (vbi) ?_;refine dv (vbi) ?_;refine dv (vbi) ?_;refine dz ?_;refine ar [5] ?_;refine .ret ?_
 cases h
 exact ⟨rfl,rfl⟩
def C5 (a0:Arr) (a1:Int) (a2:(List Int)) : Option (Arr×Int):=((CN a0.shape).bind fun x1=>((rd? x1 a1).bind fun x2=>((Bj a0.shape).bind fun x3=>((BC a0 (List.set x1 (Int.toNat a1) ((List.length a2:Nat) : Int)) (⟨.fn 168 [] [.ptr [.sl (Is a2)],.ptr [.i .i64 a1],.ptr [.sl (Is x3)]],fun x=>Di x a2 a1 x3⟩ : Bv)).bind fun x4=>(some (x4.1,x4.2))))))
theorem Et {a0:Arr} {a1:Int} {a2:(List Int)} {r:Arr×Int} (h:C5 a0 a1 a2=some r) :
  Fn Tryz.prog 135 [.ag [.sl (Is a0.shape),.sl (Its a0.items)],.i .i64 a1,.sl (Is a2)] (.tup [.d (.ag [.sl (Is r.1.shape),.sl (Its r.1.items)]),.d (.i .i64 r.2)]):=by
 unfold C5 at h
 refine Fn.ofC (rs:=[.cell 6 27,.tmp 7]) (nt:=27) Tryz.func135 rfl rfl rfl (by simp) rfl ?_;refine .sr ?_;refine vk (vbx) ?_;refine vk (TF) ?_;refine vk (TF) ?_;refine vk (van (Aj As) Aw) ?_;refine ar [3,4,5,6,7] ?_;refine .sr ?_;refine vk (vfa Ai) ?_;refine vk (Ah Ax) ?_
 obtain ⟨x1,g1,h⟩:=bnd h
 refine vk (Am (Dj g1) Tryz.call30) ?_;refine aso ?_;refine rk [3,4,5,6,7,8] ?_;refine .sr ?_;refine mvo ?_;refine vk (Ah Ap) ?_;refine vk (Ah Ax) ?_;refine vk (AR (Ad _) (A0 _) AS) ?_
 obtain ⟨x2,g2,h⟩:=bnd h
 obtain ⟨n2,p02,q2⟩:=Ag g2
 refine ixr (off:=0) (len:=(Is x1).length) n2 p02 (by rw [Ad];exact (lS.1 q2).1) ?_ AJ (by decide)
 refine IQ (F:=Is) (D:=fun x=>.i .i64 x) Ej (us:=x1) (n:=n2) (m:=Int.toNat a1) (x:=((List.length a2:Nat):Int)) (by rw [p02];rfl) ⟨_,by rw [Nat.zero_add];exact AT q2,rfl⟩ ?_ B4
 refine RL.gk [3,4,5,6,7,8,14,15,16] ?_;refine rk [3,4,5,6,7,8] ?_;refine .sr ?_;refine vk (vfa Ai) ?_;refine vk (Ah Ax) ?_
 obtain ⟨x3,g3,h⟩:=bnd h
 refine vk (Am (Bz g3) Tryz.call75) ?_;refine vk (van (Aj IP) Mc) ?_
 refine QB ?_ H7
 refine rk [3,4,5,6,7,8,9] ?_;refine .sr ?_;refine vk (AH Ac Ab) ?_;refine fz (p:=.t 8) ?_;refine vk (Aa) ?_;refine RL.gh (Gh.nbp (t:=9) rfl) ?_;refine vk (Qw) ?_
 obtain ⟨x4,g4,h⟩:=bnd h
 refine vk (VOK.tupd (vs:=[.ag [.sl (Is x4.1.shape),.sl (Its x4.1.items)],.i .i64 x4.2]) (Am (Ep (DY Tryz.call168 (fun _ _ h=>JQ h)) g4) Tryz.call76)) ?_;refine vk (vex) ?_;refine vk (vex) ?_
 refine stn ?_ Ab (by decide)
 refine ar [6,7] ?_;refine .ret ?_
 cases h
 exact ⟨_,_,⟨.inr rfl,Ac,Ab,p2⟩,rfl,rfl⟩
def D9 (a0:Arr) (a1:Bool) : Option (Int):=(if a1=true then (some (0)) else (some ((if (w64 (((List.length a0.shape:Nat) : Int)-1))<0 then 0 else (w64 (((List.length a0.shape:Nat) : Int)-1))))))
theorem IU {a0:Arr} {a1:Bool} {r:Int} (h:D9 a0 a1=some r) :
  Fn Tryz.prog 40 [.ag [.sl (Is a0.shape),.sl (Its a0.items)],.b a1] (.d (.i .i64 r)):=by
 unfold D9 at h
 refine Fn.o1 4 11 Tryz.func40 ?_;refine .sr ?_;refine vk (vbx) ?_;refine ar [1,2,4] ?_;refine .seq ?_;refine .sr ?_;refine vk (Aa) ?_;refine rk [2,4,5] ?_
 rcases brc h with ⟨hc,h⟩|⟨hc,h⟩
 ·refine cnt hc ?_
  refine .sr ?_;refine ar [2,4] ?_;refine .ret ?_
  cases h
  exact ⟨rfl,rfl⟩
 refine cnf (bf hc) ?_;refine .skip ?_
 show AW _ _ _ _ _ _
 refine .sr ?_;refine vk (vfa Ai) ?_;refine vk (Ah Ax) ?_;refine vk (AR (Ad _) (A0 _) AS) ?_;refine vk (vbi) ?_;refine vk (vmx) ?_;refine ar [4] ?_;refine .ret ?_
 cases h
 exact ⟨rfl,rfl⟩
def HV : List Int→List Int×Int
 | []=>([],1)
 | x::xs=>((HV xs).2::(HV xs).1,w64 ((HV xs).2 * x))
theorem IS {a:List Int} (hl:a.length≤17592186044416) (K:List Int→Option (List Int)) : ∀ (i k:Nat),i≤a.length→i<k →
  Bx a K k (List.replicate i 0++(HV (a.drop i)).1) (HV (a.drop i)).2 ((i:Int)-1)=K (HV a).1
 | _,0,_,h=>by omega
 | 0,k+1,_,_=>by rw [Bx,if_neg (by omega)];rfl
 | i+1,k+1,hi,hk=>by
  have hlt:i<a.length:=by omega
  rw [Bx,if_pos (by omega)]
  have e0:((i+1:Nat):Int)-1=(i:Int):=by omega
  have e1:List.replicate (i+1) (0:Int)++(HV (a.drop (i+1))).1=List.replicate i 0++0::(HV (a.drop (i+1))).1:=by
   rw [List.replicate_succ',List.append_assoc];rfl
  rw [e0,e1,CM (by simp),oB,CM hlt,oB,Int.toNat_natCast,List.set_append_right _ _ (by simp),List.length_replicate,Nat.sub_self,List.set_cons_zero,show w64 ((i:Int)-1)=(i:Int)-1 from BP (by omega) (by omega)]
  have e2:a.drop i=a[i]::a.drop (i+1):=lC hlt
  have ih:=IS hl K i k (by omega) (by omega)
  rw [e2] at ih
  exact ih
theorem GE {a:List Int} (hl:a.length≤17592186044416) : Bj a=some (HV a).1:=by
 unfold Bj
 have hg:D4 (0≤((List.length a:Nat):Int)∧((List.length a:Nat):Int)≤17592186044416)=some ():=if_pos (by omega)
 rw [hg,oB,CW]
 have:=IS hl (fun z=>some z) a.length AK (Nat.le_refl _) (Ch (by omega))
 rw [List.drop_of_length_le (Nat.le_refl _)] at this
 rw [Int.toNat_natCast,BP (by omega) (by omega)]
 rw [show (HV []).1=[] from rfl,List.append_nil] at this
 exact this
def pr : List Nat→Nat
 | []=>1
 | x::xs=>x * pr xs
def stN : List Nat→List Nat
 | []=>[]
 | _::xs=>pr xs::stN xs
def atN : List Nat→Nat→List Nat
 | [],_=>[]
 | x::xs,i=>(i / pr xs % x)::atN xs i
def plN : List Nat→List Nat→Nat
 | x::xs,y::ys=>x * y+plN xs ys
 | _,_=>0
theorem Oi : ∀ {t:List Nat},(∀ x∈t,0<x)→0<pr t
 | [],_=>Nat.one_pos
 | x::xs,h=>Nat.mul_pos (h x (by simp)) (Oi fun y hy=>h y (by simp [hy]))
theorem GB (t:List Nat) (i:Nat) : (atN t i).length=t.length:=by
 induction t with
 | nil=>rfl
 | cons x xs ih=>rw [atN,List.length_cons,List.length_cons,ih]
theorem Gz (t:List Nat) : (stN t).length=t.length:=by
 induction t with
 | nil=>rfl
 | cons x xs ih=>rw [stN,List.length_cons,List.length_cons,ih]
def up_ (t:List Nat) : List Int:=t.map fun n : Nat=>((n:Nat) : Int)
theorem BR (t:List Nat) : (up_ t).length=t.length:=by simp [up_]
theorem NY : ∀ t : List Nat,Eo (up_ t)=(pr t:Int)
 | []=>rfl
 | x::xs=>by
  have e:Eo (up_ (x::xs))=(x:Int) * Eo (up_ xs):=by
   show Eo ((x:Int)::up_ xs)=_
   unfold Eo;rw [List.foldl_cons,Jm,Int.one_mul]
  rw [e,NY xs,pr]
  exact (Int.natCast_mul _ _).symm
theorem UK {t:List Nat} (h8:t.length≤8) (h:∀ x∈t,0<x∧x≤4096) (hp:pr t≤4096) : szP (up_ t)=((pr t:Int),0):=by
 have hm:∀ x∈up_ t,1≤x∧x≤4096:=fun x hx=>by
  obtain ⟨y,hy,rfl⟩:=List.mem_map.1 hx
  have:=h y hy;omega
 unfold szP
 rw [if_neg (by rw [BR];omega),if_neg,if_neg,if_neg,NY,if_pos (by omega)]
 ·intro h0;have:=hm 0 h0;omega
 ·simp only [List.any_eq_true,decide_eq_true_eq,not_exists,not_and]
  intro x hx;have:=hm x hx;omega
 ·simp only [List.any_eq_true,decide_eq_true_eq,not_exists,not_and]
  intro x hx;have:=hm x hx;omega
theorem PH : ∀ {t:List Nat},pr t≤4096→(∀ x∈t,0<x)→HV (up_ t)=(up_ (stN t),(pr t:Int))
 | [],_,_=>rfl
 | x::xs,h,hp=>by
  have hx:=hp x (by simp)
  have h1:pr xs≤pr (x::xs):=by
   show pr xs≤x * pr xs
   exact Nat.le_mul_of_pos_left _ hx
  have ih:=PH (t:=xs) (by omega) fun y hy=>hp y (by simp [hy])
  show ((HV (up_ xs)).2::(HV (up_ xs)).1,w64 ((HV (up_ xs)).2 * (x:Int)))=_
  rw [ih]
  have e:(pr xs:Int) * (x:Int)=(pr (x::xs):Int):=by
   rw [← Int.natCast_mul,Nat.mul_comm];rfl
  show ((pr xs:Int)::up_ (stN xs),w64 ((pr xs:Int) * (x:Int)))=_
  rw [e,BP (by omega) (by omega)]
  rfl
theorem Po : ∀ {t:List Nat},(∀ x∈t,0<x)→∀ y∈stN t,0<y
 | x::xs,h,y,hy=>by
  have hp:=Oi fun z hz=>h z (List.mem_cons_of_mem x hz)
  rcases List.mem_cons.1 hy with rfl|hy
  ·exact hp
  ·exact Po (fun z hz=>h z (List.mem_cons_of_mem _ hz)) y hy
theorem SP {t:List Nat} {i:Nat} (h:i<t.length) : (up_ t)[i]'(by rw [BR];exact h)=(t[i] : Int):=by simp [up_]
theorem PM {t:List Nat} {i:Nat} (h:i<t.length) : rd? (up_ t) (i:Int)=some (t[i] : Int):=by
 rw [CM (by rw [BR];exact h),SP h]
theorem Rn : ∀ (l c:List Nat) (i:Nat) (h1:i<l.length) (h2:i<c.length),plN (l.drop i) (c.drop i)=l[i] * c[i]+plN (l.drop (i+1)) (c.drop (i+1)):=fun l c i h1 h2=>by
 rw [lC h1,lC h2];rfl
theorem QZ {a b:Nat} (ha:a≤4096) (hb:b≤4096) : a * b≤16777216:=Nat.mul_le_mul ha hb
theorem KQ {l c:List Nat} (h8:l.length≤8) (hlen:l.length≤c.length) (hl:∀ x∈l,x≤4096) (hc:∀ x∈c,x≤4096) (K:Int→Option Int) : ∀ (n i k m:Nat),n=l.length-i→i≤l.length→n<k→m≤i * 16777216 →
  Ct (up_ l) (up_ c) K k (m:Int) (i:Int)=K ((m+plN (l.drop i) (c.drop i):Nat):Int)
 | _,_,0,_,_,_,h,_=>by omega
 | n,i,k+1,m,hn,hi,hk,hm=>by
  rw [Ct]
  by_cases h:i<l.length
  ·have h2:i<c.length:=by omega
   have hb:=QZ (hl _ (List.getElem_mem h)) (hc _ (List.getElem_mem h2))
   rw [if_pos (by rw [BR];omega),PM h,oB,PM h2,oB,← Int.natCast_mul,show w64 ((l[i] * c[i]:Nat):Int)=((l[i] * c[i]:Nat):Int) from BP (by omega) (by omega),show w64 ((m:Int)+((l[i] * c[i]:Nat):Int))=(m:Int)+((l[i] * c[i]:Nat):Int) from BP (by omega) (by omega),CS (by omega),← Int.natCast_add,
    KQ h8 hlen hl hc K (n-1) (i+1) k _ (by omega) (by omega) (by omega) (by omega),Rn l c i h h2,Nat.add_assoc]
  ·rw [if_neg (by rw [BR];omega),List.drop_of_length_le (by omega)]
   simp [plN]
theorem RA {l c:List Nat} (h8:l.length≤8) (hlen:l.length≤c.length) (hl:∀ x∈l,x≤4096) (hc:∀ x∈c,x≤4096) : Cj (up_ l) (up_ c)=some ((plN l c:Nat) : Int):=by
 unfold Cj
 rw [CW]
 have:=KQ h8 hlen hl hc (fun z=>some z) l.length 0 AK 0 rfl (Nat.zero_le _) (Ch (by omega)) (by omega)
 rw [List.drop_zero,List.drop_zero,Nat.zero_add] at this
 exact this
theorem Lo {a:Arr} (oa:okAr a) (ra:Bc a) : CI a=some (tyI (a.items.headD default)):=by
 have hp:=Ms ra
 unfold CI
 rw [FC oa,oB,dT ra,if_pos rfl]
 cases hi:a.items with
 | nil=>rw [hi] at hp;simp at hp
 | cons x xs =>
  obtain ⟨ox,rx⟩:=Hy oa ra (x:=x) (by rw [hi];simp)
  rw [Js,oB,NC ox rx.1];rfl
theorem PT : ∀ (t:List Nat) (i j:Nat) (h:j<t.length),(atN t i)[j]'(by rw [GB];exact h)=i / (stN t)[j]'(by rw [Gz];exact h) % t[j]
 | x::xs,i,0,_=>rfl
 | x::xs,i,j+1,h=>PT xs i j (by simpa using h)
 | [],_,_,h=>by simp at h
theorem SL {α:Type} {L r:List α} {j:Nat} (hl:L.length=r.length) (h:j<L.length) : (L.take j++r.drop j).set j L[j]=L.take (j+1)++r.drop (j+1):=by
 have hj:(L.take j).length=j:=by rw [List.length_take];omega
 have e:r.drop j=r[j]'(by omega)::r.drop (j+1):=lC (by omega)
 rw [e,List.set_append_right _ _ (by omega),hj,Nat.sub_self,List.set_cons_zero,List.take_succ_eq_append_getElem h,List.append_assoc]
 rfl
theorem N1 {t:List Nat} (ht:∀ x∈t,0<x∧x≤4096) (h8:t.length≤8) {i:Nat} (hi:i≤4096) (K:List Int→Option (Arr×Int)) {r:List Int} (hr:r.length=t.length) : ∀ (n j k:Nat),n=t.length-j→j≤t.length→n<k →
  Cs (up_ t) (up_ (stN t)) (i:Int) K k ((up_ (atN t i)).take j++r.drop j) (j:Int)=K (up_ (atN t i))
 | _,_,0,_,_,h=>by omega
 | n,j,k+1,hn,hj,hk=>by
  have hlen:(up_ (atN t i)).length=t.length:=by rw [BR,GB]
  rw [Cs]
  by_cases h:j<t.length
  ·have hs:j<(stN t).length:=by rw [Gz];exact h
   have hsp:=Po (fun x hx=>(ht x hx).1) _ (List.getElem_mem hs)
   have htp:=(ht _ (List.getElem_mem h)).1
   have hcur:j<((up_ (atN t i)).take j++r.drop j).length:=by rw [List.length_append,List.length_take,List.length_drop];omega
   have g1:D4 (((stN t)[j]:Int)≠0)=some ():=if_pos (by omega)
   have g2:D4 ((t[j]:Int)≠0)=some ():=if_pos (by omega)
   have e1:Int.tdiv (i:Int) ((stN t)[j]:Int)=((i / (stN t)[j]:Nat):Int):=rfl
   have hd:i / (stN t)[j]≤i:=Nat.div_le_self _ _
   have hw:w64 ((i / (stN t)[j]:Nat):Int)=((i / (stN t)[j]:Nat):Int):=by
    generalize i / (stN t)[j]=d at hd ⊢
    exact BP (by omega) (by omega)
   have e2:Int.tmod ((i / (stN t)[j]:Nat):Int) (t[j]:Int)=((i / (stN t)[j] % t[j]:Nat):Int):=rfl
   have e3:((i / (stN t)[j] % t[j]:Nat):Int)=(up_ (atN t i))[j]'(by rw [hlen];exact h):=by
    rw [SP (by rw [GB];exact h),PT t i j h]
   rw [if_pos (by rw [BR,Gz];omega),PM hs,oB,g1,oB,PM h,oB,g2,oB,CM hcur,oB,e1,hw,e2,e3,Int.toNat_natCast,CS (by omega),
    SL (by rw [hlen,hr]) (by rw [hlen];exact h),N1 ht h8 hi K hr (n-1) (j+1) k (by omega) (by omega) (by omega)]
  ·rw [if_neg (by rw [BR,Gz];omega),List.take_of_length_le (by omega),List.drop_of_length_le (by omega),List.append_nil]
def G4 (a:Arr) (p:Itm) (j:Int) : Itm:=if 0≤j then a.items.getD j.toNat default else p
theorem La {a:Arr} {t:List Nat} {F:Bv} {p:Itm} {J:Nat→Int} (ht:∀ x∈t,0<x∧x≤4096) (h8:t.length≤8) (hn:pr t≤4096) (hF:∀ i,i<pr t→F.g (up_ (atN t i))=some (J i)∧J i<(a.items.length:Int)) {x1:Int×Int} (hx1:x1.1=(pr t:Int)) (K:List Itm→Option (Arr×Int)) : ∀ (n i k:Nat) (r:List Int),n=pr t-i→i≤pr t→n<k→r.length=t.length →
  BY a (up_ t) F x1 p (up_ (stN t)) K k r (((List.range (pr t)).map fun i=>G4 a p (J i)).take i) (i:Int)=K ((List.range (pr t)).map fun i=>G4 a p (J i))
 | _,_,0,_,_,_,h,_=>by omega
 | n,i,k+1,r,hn',hi,hk,hr=>by
  have hlen:((List.range (pr t)).map fun i=>G4 a p (J i)).length=pr t:=by simp
  rw [BY]
  by_cases h:i<pr t
  ·have hb:=fun K=>N1 ht h8 (i:=i) (by omega) K hr t.length 0 AK rfl (Nat.zero_le _) (Ch (by omega))
   rw [List.take_zero,List.nil_append,List.drop_zero,show ((0:Nat):Int)=0 from rfl] at hb
   obtain ⟨f1,f2⟩:=hF i h
   have hg:((List.range (pr t)).map fun i=>G4 a p (J i))[i]'(by rw [hlen];exact h)=G4 a p (J i):=by simp
   have ih:=La (p:=p) ht h8 hn hF hx1 K (n-1) (i+1) k (up_ (atN t i)) (by omega) (by omega) (by omega) (by rw [BR,GB])
   rw [List.take_succ_eq_append_getElem (by rw [hlen];exact h),hg] at ih
   have hcap:(((List.range (pr t)).map fun i=>G4 a p (J i)).take i).length+1≤1466015503701:=by rw [List.length_take];omega
   rw [if_pos (by omega),CW,CW,hb,f1,oB]
   by_cases h0:0≤J i
   ·have hj:(J i).toNat<a.items.length:=by omega
    have e:rd? a.items (J i)=some (a.items.getD (J i).toNat default):=by
     unfold rd?
     rw [if_pos h0,lD,lG hj];rfl
    have ep:G4 a p (J i)=a.items.getD (J i).toNat default:=if_pos h0
    rw [if_pos h0,e,oB,Gk (by simpa using hcap),oB,CS (by omega),← ep]
    exact ih
   ·have ep:G4 a p (J i)=p:=if_neg h0
    rw [if_neg h0,Gk (by simpa using hcap),oB,CS (by omega)]
    rw [ep] at ih
    exact ih
  ·rw [if_neg (by omega),List.take_of_length_le (by omega)]
theorem Qn {a:Arr} {t:List Nat} {F:Bv} {p:Itm} {J:Nat→Int} (hp:CI a=some p) (ht:∀ x∈t,0<x∧x≤4096) (h8:t.length≤8) (hn:pr t≤4096) (hF:∀ i,i<pr t→F.g (up_ (atN t i))=some (J i)∧J i<(a.items.length:Int)) :
  BC a (up_ t) F=AE (up_ t) ((List.range (pr t)).map fun i=>G4 a p (J i)):=by
 have hpp:=Oi fun x hx=>(ht x hx).1
 have hl:(up_ t).length≤17592186044416:=by rw [BR];omega
 have hg:D4 (0≤((List.length (up_ t):Nat):Int)∧((List.length (up_ t):Nat):Int)≤17592186044416)=some ():=if_pos (by omega)
 unfold BC
 rw [Jd hl,oB,UK h8 ht hn,if_pos rfl,hp,oB,GE hl,oB,hg,oB,CW,PH hn fun x hx=>(ht x hx).1]
 have:=fun K=>La (p:=p) ht h8 hn hF (x1:=((pr t:Int),0)) rfl K (pr t) 0 AK (List.replicate (Int.toNat ((List.length (up_ t):Nat):Int)) 0) rfl (Nat.zero_le _) (Ch (by omega)) (by simp [BR])
 rw [List.take_zero,show ((0:Nat):Int)=0 from rfl] at this
 rw [this,CW,if_neg (by show ¬((pr t:Int)=0);omega)]
 show ((AE (up_ t) ((List.range (pr t)).map fun i=>G4 a p (J i))).bind fun x25=>some (x25.1,x25.2))=_
 generalize AE _ _=m
 cases m<;>rfl
theorem OQ {a:Arr} {s:List Int} {F:Bv} {p:Itm} (hp:CI a=some p) (hl:s.length≤17592186044416) (hs:szP s=(0,0)) : BC a s F=AE s [p]:=by
 have hg:D4 (0≤((List.length s:Nat):Int)∧((List.length s:Nat):Int)≤17592186044416)=some ():=if_pos (by omega)
 have hF:AK=999999999999999+1:=rfl
 unfold BC
 rw [Jd hl,oB,hs,if_pos rfl,hp,oB,GE hl,oB,hg,oB,CW,hF,BY,if_neg (by decide),CW,if_pos rfl,Gk (by simp),oB]
 show ((AE s [p]).bind fun x25=>some (x25.1,x25.2))=_
 generalize AE _ _=m
 cases m<;>rfl
theorem Uk {xs:List Itm} {d:Nat} (h:∀ x∈xs,dI x≤d) : dIs xs≤d:=by
 induction xs with
 | nil=>exact Nat.zero_le _
 | cons x xs ih =>
  rw [dIs]
  have h1:=h x (by simp)
  have h2:=ih fun y hy=>h y (by simp [hy])
  omega
theorem Jq {x:Itm} : ∀ {xs:List Itm},x∈xs→dI x≤dIs xs
 | y::ys,h=>by
  rw [dIs]
  rcases List.mem_cons.1 h with rfl|h
  ·omega
  ·have:=Jq h;omega
theorem QK {a:Arr} (oa:okAr a) (ra:Bc a) (hz:szP a.shape=(0,0)) {s:List Int} (hs64:∀ z∈s,-9223372036854775808≤z∧z≤9223372036854775807) (hl:s.length≤17592186044416) (hsz:szP s=(0,0)) {p:Itm} (hp:p=a.items.headD default∨p=tyI (a.items.headD default)) :
  AE s [p]=some (.mk s [tyI (a.items.headD default)],0):=by
 have hne:=Ms ra
 obtain ⟨r1,r2,r3⟩:=ra
 have hlen:a.items.length=1:=by
  have:=(Jj r1).2.1
  rw [hz] at this
  rw [if_pos (by decide)] at this
  omega
 obtain ⟨x,hx⟩:=List.length_eq_one_iff.1 hlen
 have hx':a.items.headD default=x:=by rw [hx];rfl
 rw [hx'] at hp ⊢
 obtain ⟨ox,rx⟩:=Hy oa ⟨r1,r2,r3⟩ (x:=x) (by rw [hx];simp)
 obtain ⟨t1,t2,t3,t4,t5,t6⟩:=MS ox rx.1
 have hns:∀ {s:List Int} {i:List Itm},szP s=(0,0)→A6 (.mk s i)=false:=by
  intro s i h
  unfold A6
  cases s with
  | nil=>exact absurd (congrArg Prod.fst h) (by decide)
  | cons y ys=>rfl
 have hpr:okI p∧Cc p∧tyI p=tyI x:=by
  rcases hp with rfl|rfl
  ·exact ⟨ox,rx,rfl⟩
  ·exact ⟨t6,⟨t1,t2▸rx.2.1,t3▸rx.2.2⟩,t4⟩
 have hmk:Cw (szP s).1 [p]=[tyI x]:=by
  rw [hsz];show [tyI p]=_;rw [hpr.2.2]
 have hR:Bc (.mk s [tyI x]):=by
  have e1:dA a=1+dI x:=by
   have:A6 a=false:=by have:=hns (i:=a.items) hz;rwa [Arr.eta] at this
   rw [Ie,this,if_neg (by decide),hx,dIs,dIs,Nat.max_zero]
  have e2:cA a=1+cI x:=by rw [Hq,hx];simp [cIs]
  refine ⟨?_,?_,?_⟩
  ·rw [Ic,DH,Dv,hsz,EO.2 (by simpa using t1)];rfl
  ·rw [Ie,hns hsz,if_neg (by decide),Dv,dIs,dIs,Nat.max_zero,t2];omega
  ·rw [Hq,Dv];simp only [cIs,List.length_singleton];omega
 have hc:¬([p]=[]∨¬∀ y∈[p],Cc y):=fun q=>q.elim (fun e=>by cases e) fun q=>q fun y hy=>by rw [List.mem_singleton] at hy;subst hy;exact hpr.2.1
 rw [HM hs64 hl (by simp) (fun y hy=>by rw [List.mem_singleton] at hy;subst hy;exact hpr.1),hmk,if_neg (by rw [hsz];exact fun q=>q rfl),if_neg hc,if_pos hR]
def CG (x2:Int) (K0:(List Int)→Option (Arr×Int)) : Nat→(List Int)→Int→Option (Arr×Int)
 | 0,_,_=>none
 | k+1,s4,s5=>(if s5<x2 then ((ap? 17592186044416 [s5] s4).bind fun x6=>(CG x2 K0 k x6 (w64 (s5+1)))) else (K0 s4))
def Ei (a0:Arr) (a1:Int) : Option (Arr×Int):=(if ((List.length a0.shape:Nat) : Int)=0 then ((GP a0).bind fun x1=>(some (x1,0))) else ((rd? a0.shape a1).bind fun x2=>(jn (fun (z3:(List Int))=>((C5 a0 a1 z3).bind fun x7=>(some (x7.1,x7.2)))) fun K0=>(CG x2 K0 AK [] 0))))
theorem FR {a0:Arr} {a1:Int} {r:Arr×Int} (h:Ei a0 a1=some r) :
  Fn Tryz.prog 94 [.ag [.sl (Is a0.shape),.sl (Its a0.items)],.i .i64 a1] (.tup [.d (.ag [.sl (Is r.1.shape),.sl (Its r.1.items)]),.d (.i .i64 r.2)]):=by
 unfold Ei at h
 refine Fn.ofC (rs:=[.cell 4 27,.tmp 5]) (nt:=33) Tryz.func94 rfl rfl rfl (by simp) rfl ?_;refine .sr ?_;refine vk (vbx) ?_;refine vk (van (Aj As) Aw) ?_;refine ar [1,2,4,5] ?_;refine .seq ?_;refine .sr ?_;refine vk (vfa Ai) ?_;refine vk (Ah Ax) ?_;refine vk (AR (Ad _) (A0 _) AS) ?_;refine vk (vbi) ?_;refine rk [1,2,4,5,11] ?_
 rcases brc h with ⟨hc,h⟩|⟨hc,h⟩
 ·refine cnt (dT hc) ?_
  refine .sr ?_;refine vk (AH Ac Ab) ?_
  obtain ⟨x1,g1,h⟩:=bnd h
  refine vk (Am (H6 g1) Tryz.call134) ?_
  refine stn ?_ Ab (by decide)
  refine ar [1,2,4,5] ?_;refine .ret ?_
  cases h
  exact ⟨_,_,⟨.inr rfl,Ac,Ab,p2⟩,rfl,rfl⟩
 refine cnf (dF hc) ?_;refine .skip ?_
 show AW _ _ _ _ _ _
 refine .sr ?_;refine asn ?_;refine rk [1,2,4,5,6] ?_;refine .seq ?_;refine .sr ?_;refine vk (vfa Ai) ?_;refine vk (Ah Ax) ?_;refine vk (Aa) ?_
 obtain ⟨x2,g2,h⟩:=bnd h
 obtain ⟨n2,p02,q2⟩:=Ag g2
 refine vk (vix n2 p02 (AT q2) rfl AJ) ?_;refine vk (Ah Ap) ?_;refine vk (Aa) ?_;refine rk [1,2,4,5,6,18,19] ?_
 obtain ⟨K0,hK0,h⟩:=AQ h
 refine AW.mr (σ:=(List Int)) (fun p=>K0 p=some r) (fun p=>[(1,.d (.i .i64 a1)),(2,.d (.ptr [.sl (Is a0.shape),.sl (Its a0.items)])),(4,.nb [.sl (Is []),.sl (Its [])]),(5,.d (.i .i64 0)),(6,.d (.sl (Is p)))]) (fun p=>[]) ?_ ?_
 ·skip
  refine .block ?_;refine .gh (Gh.nlD (t:=6) rfl) ?_
  refine .loop (.gk [1,2,4,5,6,18,19] ?_)
  refine AL.ind (σ:=Nat×(List Int)×Int) (m:=fun p=>p.1) (e:=fun p=>[(1,.d (.i .i64 a1)),(2,.d (.ptr [.sl (Is a0.shape),.sl (Its a0.items)])),(4,.nb [.sl (Is []),.sl (Its [])]),(5,.d (.i .i64 0)),(6,.d (.sl (Is p.2.1))),(18,.d (.i .i64 x2)),(19,.d (.i .i64 p.2.2))]) (h:=fun p=>[]) (I:=fun p=>CG x2 K0 p.1 p.2.1 p.2.2=some r) ?_ (AK,[],0) h
  rintro ⟨k,s4,s5⟩ h ih
  dsimp only at h ih ⊢
  rcases k with _|k
  ·rw [CG] at h;cases h
  rw [CG] at h
  refine .sr ?_;refine vk (vbi) ?_;refine rk [1,2,4,5,6,18,19,20] ?_;refine .seq ?_
  rcases brc h with ⟨hc,h⟩|⟨hc,h⟩
  ·refine cnt (dT hc) ?_
   refine .skip ?_
   show AW _ _ _ _ _ _
   refine .seq ?_;refine .block ?_;refine .sr ?_;refine vk (Aa) ?_;refine ar [1,2,4,5,6,7,18,19] ?_;refine .region ?_;refine vk (Aa) ?_;refine vk (G5 (Cy [s5]) BL) ?_;refine vk (Aa) ?_
   obtain ⟨x6,g6,h⟩:=bnd h
   refine UY HG g6 IV ?_ FU Ad BL
   refine aso ?_;refine .nil ?_
   show AW _ _ _ _ _ _
   refine .gk [1,2,4,5,6,18,19] ?_;refine .region ?_;refine vk (vbi) ?_;refine vk (Aa) ?_;refine .nil ?_;refine AL.gh (Gh.frz (p:=.t 6) rfl (fun _ _ h=>by cases h)) ?_;refine AL.gk [1,2,4,5,6,18,19] ?_
   exact ih (k,x6,(w64 (s5+1))) h (Nat.lt_succ_self _)
  refine cnf (dF hc) ?_;refine .gk [1,2,4,5,6] ?_;refine .exit ?_
  exact jr (s4) h
 rintro z3 h
 try dsimp only at h ⊢
 subst hK0
 show AW _ _ _ _ _ _
 refine .sr ?_;refine vk (AH Ac Ab) ?_;refine vk (Aa) ?_;refine vk (Aa) ?_
 obtain ⟨x7,g7,h⟩:=bnd h
 refine vk (VOK.tupd (vs:=[.ag [.sl (Is x7.1.shape),.sl (Its x7.1.items)],.i .i64 x7.2]) (Am (Et g7) Tryz.call135)) ?_;refine vk (vex) ?_;refine vk (vex) ?_
 refine stn ?_ Ab (by decide)
 refine ar [4,5] ?_;refine .ret ?_
 cases h
 exact ⟨_,_,⟨.inr rfl,Ac,Ab,p2⟩,rfl,rfl⟩
def DW (a0:(List Int)) (c0:(List Int)) : Option (Int):=((Cj c0 a0).bind fun x1=>(some (x1)))
theorem G6 {a0:(List Int)} {c0:(List Int)} {r:Int} (h:DW a0 c0=some r) :
  Fn Tryz.prog 127 [.sl (Is a0),.ptr [.sl (Is c0)]] (.d (.i .i64 r)):=by
 unfold DW at h
 refine Fn.o1 3 7 Tryz.func127 ?_;refine .sr ?_;refine ar [0,1,3] ?_;refine .sr ?_;refine vk (Ah Ax) ?_;refine vk (Aa) ?_
 obtain ⟨x1,g1,h⟩:=bnd h
 refine vk (Am (Dr g1) Tryz.call79) ?_;refine ar [3] ?_;refine .ret ?_
 cases h
 exact ⟨rfl,rfl⟩
def B7 (a2:Int) (K0:(List Int)→Option (Arr×Int)) : Nat→(List Int)→Int→Option (Arr×Int)
 | 0,_,_=>none
 | k+1,s4,s5=>(if s5<((List.length (List.replicate (Int.toNat a2) (0:Int)):Nat):Int) then ((rd? s4 s5).bind fun x6=>(B7 a2 K0 k (List.set s4 (Int.toNat s5) 4096) (w64 (s5+1)))) else (K0 s4))
def Ca (a0:Arr) (a1:(List Int)) (x7:(List Int)) (K2:(List Int)→(List Int)→Option (Arr×Int)) : Nat→(List Int)→Int→(List Int)→Option (Arr×Int)
 | 0,_,_,_=>none
 | k+1,s10,s11,s12=>(if s11<((List.length x7:Nat):Int) then ((rd? x7 s11).bind fun x13=>((rd? a1 s11).bind fun x14=>((rd? a1 s11).bind fun x15=>((rd? s10 x15).bind fun x16=>((rd? a0.shape s11).bind fun x17=>((rd? s10 x14).bind fun x18=>((rd? a1 s11).bind fun x19=>((rd? s12 x19).bind fun x20=>((rd? s12 x19).bind fun x21=>(Ca a0 a1 x7 K2 k (List.set s10 (Int.toNat x14) (if x17<x16 then x17 else x16)) (w64 (s11+1)) (List.set s12 (Int.toNat x19) (w64 (x20+x13))))))))))))) else (K2 s10 s12))
def EE (a0:Arr) (a1:(List Int)) (a2:Int) : Option (Arr×Int):=((D4 (0≤a2∧a2≤17592186044416)).bind fun x1=>((D4 (0≤a2∧a2≤17592186044416)).bind fun x2=>(jn (fun (z3:(List Int))=>((Bj a0.shape).bind fun x7=>(jn (fun (z8:(List Int)) (z9:(List Int))=>((BC a0 z8 (⟨.fn 127 [] [.ptr [.sl (Is z9)]],fun x=>DW x z9⟩ : Bv)).bind fun x22=>(some (x22.1,x22.2)))) fun K2=>(Ca a0 a1 x7 K2 AK z3 0 (List.replicate (Int.toNat a2) (0:Int)))))) fun K0=>(B7 a2 K0 AK (List.replicate (Int.toNat a2) (0:Int)) 0))))
theorem HU {a0:Arr} {a1:(List Int)} {a2:Int} {r:Arr×Int} (h:EE a0 a1 a2=some r) :
  Fn Tryz.prog 80 [.ag [.sl (Is a0.shape),.sl (Its a0.items)],.sl (Is a1),.i .i64 a2] (.tup [.d (.ag [.sl (Is r.1.shape),.sl (Its r.1.items)]),.d (.i .i64 r.2)]):=by
 unfold EE at h
 refine Fn.ofC (rs:=[.cell 6 27,.tmp 7]) (nt:=71) Tryz.func80 rfl rfl rfl (by simp) rfl ?_;refine .sr ?_;refine vk (vbx) ?_;refine vk (van (Aj As) Aw) ?_;refine ar [1,2,3,6,7] ?_;refine .sr ?_;refine vk (Aa) ?_
 obtain ⟨x1,g1,h⟩:=bnd h
 have ghx1:=CJ g1
 refine mk' (F:=Is) (x0:=0) (zl:=a2) (Int.toNat a2) Fi (by omega) (by omega) ?_ BL (by decide)
 refine aso ?_;refine rk [1,2,3,6,7,8] ?_;refine .sr ?_;refine vk (Aa) ?_
 obtain ⟨x2,g2,h⟩:=bnd h
 have ghx2:=CJ g2
 refine mk' (F:=Is) (x0:=0) (zl:=a2) (Int.toNat a2) Fi (by omega) (by omega) ?_ BL (by decide)
 refine al ?_ (Aj IP) (fun w I μ=>O7 w I μ)
 refine IN (cs:=[.nl]) (c:=.nl) rfl rfl ?_ H7
 refine rk [1,3,6,7,8,9] ?_;refine .seq ?_;refine .sr ?_;refine mvo ?_;refine vk (Rq (Ad _) AS) ?_;refine vk (Aa) ?_;refine rk [1,3,6,7,8,9,18,19] ?_
 obtain ⟨K0,hK0,h⟩:=AQ h
 refine AW.mr (σ:=(List Int)) (fun p=>K0 p=some r) (fun p=>[(1,.d (.sl (Is a1))),(3,.d (.ptr [.sl (Is a0.shape),.sl (Its a0.items)])),(6,.nb [.sl (Is []),.sl (Its [])]),(7,.d (.i .i64 0)),(8,.own 3 (Is p)),(9,.bp 0 0)]) (fun p=>[HO.box [.own 3 (Is (List.replicate (Int.toNat a2) (0:Int)))]]) ?_ ?_
 ·skip
  refine .block ?_
  refine .loop (.gk [1,3,6,7,8,9,18,19] ?_)
  refine AL.ind (σ:=Nat×(List Int)×Int) (m:=fun p=>p.1) (e:=fun p=>[(1,.d (.sl (Is a1))),(3,.d (.ptr [.sl (Is a0.shape),.sl (Its a0.items)])),(6,.nb [.sl (Is []),.sl (Its [])]),(7,.d (.i .i64 0)),(8,.own 3 (Is p.2.1)),(9,.bp 0 0),(18,.d (.i .i64 ((List.length (List.replicate (Int.toNat a2) (0:Int)):Nat):Int))),(19,.d (.i .i64 p.2.2))]) (h:=fun p=>[HO.box [.own 3 (Is (List.replicate (Int.toNat a2) (0:Int)))]]) (I:=fun p=>B7 a2 K0 p.1 p.2.1 p.2.2=some r) ?_ (AK,(List.replicate (Int.toNat a2) (0:Int)),0) h
  rintro ⟨k,s4,s5⟩ h ih
  dsimp only at h ih ⊢
  rcases k with _|k
  ·rw [B7] at h;cases h
  rw [B7] at h
  refine .sr ?_;refine vk (vbi) ?_;refine rk [1,3,6,7,8,9,18,19,20] ?_;refine .seq ?_
  rcases brc h with ⟨hc,h⟩|⟨hc,h⟩
  ·refine cnt (dT hc) ?_
   refine .skip ?_
   show AW _ _ _ _ _ _
   refine .seq ?_;refine .block ?_;refine .sr ?_;refine vk (Aa) ?_;refine ar [1,3,6,7,8,9,10,18,19] ?_;refine .region ?_;refine mvo ?_;refine vk (Aa) ?_
   obtain ⟨x6,g6,h⟩:=bnd h
   obtain ⟨n6,p06,q6⟩:=Ag g6
   refine ixr (off:=0) (len:=(Is s4).length) n6 p06 (by rw [Ad];exact (lS.1 q6).1) ?_ AJ (by decide)
   refine IQ (F:=Is) (D:=fun x=>.i .i64 x) Ej (us:=s4) (n:=n6) (m:=Int.toNat s5) (x:=4096) (by rw [p06];rfl) ⟨_,by rw [Nat.zero_add];exact AT q6,rfl⟩ ?_ B4
   refine RL.gk [1,3,6,7,8,9,10,18,19,23] ?_;refine .nil ?_
   show AW _ _ _ _ _ _
   refine .gk [1,3,6,7,8,9,18,19] ?_;refine .region ?_;refine vk (vbi) ?_;refine vk (Aa) ?_;refine .nil ?_;refine AL.gk [1,3,6,7,8,9,18,19] ?_
   exact ih (k,(List.set s4 (Int.toNat s5) 4096),(w64 (s5+1))) h (Nat.lt_succ_self _)
  refine cnf (dF hc) ?_;refine .gk [1,3,6,7,8,9] ?_;refine .exit ?_
  exact jr (s4) h
 rintro z3 h
 try dsimp only at h ⊢
 subst hK0
 show AW _ _ _ _ _ _
 refine .seq ?_;refine .sr ?_;refine vk (vfa Ai) ?_;refine vk (Ah Ax) ?_
 obtain ⟨x7,g7,h⟩:=bnd h
 refine vk (Am (Bz g7) Tryz.call75) ?_;refine vk (AR (Ad _) (A0 _) AS) ?_;refine vk (Aa) ?_;refine rk [1,3,6,7,8,9,28,29,30] ?_
 obtain ⟨K2,hK2,h⟩:=AQ h
 refine AW.mr (σ:=(List Int)×(List Int)) (fun p=>K2 p.1 p.2=some r) (fun p=>[(3,.d (.ptr [.sl (Is a0.shape),.sl (Its a0.items)])),(6,.nb [.sl (Is []),.sl (Its [])]),(7,.d (.i .i64 0)),(8,.own 3 (Is p.1)),(9,.bp 0 0)]) (fun p=>[HO.box [.own 3 (Is p.2)]]) ?_ ?_
 ·skip
  refine .block ?_
  refine .loop (.gk [1,3,6,7,8,9,28,29,30] ?_)
  refine AL.ind (σ:=Nat×(List Int)×Int×(List Int)) (m:=fun p=>p.1) (e:=fun p=>[(1,.d (.sl (Is a1))),(3,.d (.ptr [.sl (Is a0.shape),.sl (Its a0.items)])),(6,.nb [.sl (Is []),.sl (Its [])]),(7,.d (.i .i64 0)),(8,.own 3 (Is p.2.1)),(9,.bp 0 0),(28,.d (.sl (Is x7))),(29,.d (.i .i64 ((List.length x7:Nat):Int))),(30,.d (.i .i64 p.2.2.1))]) (h:=fun p=>[HO.box [.own 3 (Is p.2.2.2)]]) (I:=fun p=>Ca a0 a1 x7 K2 p.1 p.2.1 p.2.2.1 p.2.2.2=some r) ?_ (AK,z3,0,(List.replicate (Int.toNat a2) (0:Int))) h
  rintro ⟨k,s10,s11,s12⟩ h ih
  dsimp only at h ih ⊢
  rcases k with _|k
  ·rw [Ca] at h;cases h
  rw [Ca] at h
  refine .sr ?_;refine vk (vbi) ?_;refine rk [1,3,6,7,8,9,28,29,30,31] ?_;refine .seq ?_
  rcases brc h with ⟨hc,h⟩|⟨hc,h⟩
  ·refine cnt (dT hc) ?_
   refine .skip ?_
   show AW _ _ _ _ _ _
   refine .seq ?_;refine .block ?_;refine .sr ?_;refine vk (Aa) ?_
   obtain ⟨x13,g13,h⟩:=bnd h
   obtain ⟨n13,p013,q13⟩:=Ag g13
   refine vk (vix n13 p013 (AT q13) rfl AJ) ?_;refine vk (Ah Ap) ?_;refine asd ?_;refine ar [1,3,6,7,8,9,11,12,28,29,30] ?_;refine .seq ?_;refine .drawn 19 Bb (by kernel_rfl) ?_;refine dv LI ?_;refine dv (Aa) ?_;refine dv (Aa) ?_
   obtain ⟨x14,g14,h⟩:=bnd h
   obtain ⟨n14,p014,q14⟩:=Ag g14
   refine dv (vix n14 p014 (AT q14) rfl AJ) ?_;refine dv (Ah Ap) ?_;refine dv LI ?_;refine dv (Aa) ?_;refine dv (Aa) ?_
   obtain ⟨x15,g15,h⟩:=bnd h
   obtain ⟨n15,p015,q15⟩:=Ag g15
   refine dv (vix n15 p015 (AT q15) rfl AJ) ?_;refine dv (Ah Ap) ?_
   obtain ⟨x16,g16,h⟩:=bnd h
   obtain ⟨n16,p016,q16⟩:=Ag g16
   refine dv (Lp (off:=0) (len:=(Is s10).length) n16 p016 (by rw [Ad];exact (lS.1 q16).1) AJ (by decide)) ?_;refine dv (P8 (i:=0+n16) (j:=0) (xs:=Is s10) (.i .i64 x16) ⟨_,by rw [Nat.zero_add];exact AT q16,rfl⟩ Ap) ?_;refine dv (vfa Ai) ?_;refine dv (Ah Ax) ?_;refine dv (Aa) ?_
   obtain ⟨x17,g17,h⟩:=bnd h
   obtain ⟨n17,p017,q17⟩:=Ag g17
   refine dv (vix n17 p017 (AT q17) rfl AJ) ?_;refine dv (Ah Ap) ?_;refine dv (vmn) ?_
   obtain ⟨x18,g18,h⟩:=bnd h
   obtain ⟨n18,p018,q18⟩:=Ag g18
   refine dv (Lp (off:=0) (len:=(Is s10).length) n18 p018 (by rw [Ad];exact (lS.1 q18).1) AJ (by decide)) ?_;refine dz ?_
   refine IQ (F:=Is) (D:=fun x=>.i .i64 x) Ej (us:=s10) (n:=n18) (m:=Int.toNat x14) (x:=(if x17<x16 then x17 else x16)) (by rw [p018];rfl) ⟨_,by rw [Nat.zero_add];exact AT q18,rfl⟩ ?_ B4
   refine RL.gk [1,3,6,7,8,9,11,12,28,29,30,36,37,38,39,41,42,43,44,46,47,48,49,50,51,52] ?_;refine rk [1,3,6,7,8,9,11,12,28,29,30] ?_;refine .drawn 10 Bb (by kernel_rfl) ?_;refine dv (Mn (cs:=[.own 3 (Is s12)]) rfl rfl Ax) ?_;refine dv (Aa) ?_;refine dv (Aa) ?_
   obtain ⟨x19,g19,h⟩:=bnd h
   obtain ⟨n19,p019,q19⟩:=Ag g19
   refine dv (vix n19 p019 (AT q19) rfl AJ) ?_;refine dv (Ah Ap) ?_
   obtain ⟨x20,g20,h⟩:=bnd h
   obtain ⟨n20,p020,q20⟩:=Ag g20
   refine dv (Lp (off:=0) (len:=(Is s12).length) n20 p020 (by rw [Ad];exact (lS.1 q20).1) AJ (by decide)) ?_;refine dv (P8 (i:=0+n20) (j:=0) (xs:=Is s12) (.i .i64 x20) ⟨_,by rw [Nat.zero_add];exact AT q20,rfl⟩ Ap) ?_;refine dv (Aa) ?_;refine dv (vbi) ?_
   obtain ⟨x21,g21,h⟩:=bnd h
   obtain ⟨n21,p021,q21⟩:=Ag g21
   refine dv (Lp (off:=0) (len:=(Is s12).length) n21 p021 (by rw [Ad];exact (lS.1 q21).1) AJ (by decide)) ?_;refine dz ?_
   refine IQ (F:=Is) (D:=fun x=>.i .i64 x) Ej (us:=s12) (n:=n21) (m:=Int.toNat x19) (x:=(w64 (x20+x13))) (by rw [p021];rfl) ⟨_,by rw [Nat.zero_add];exact AT q21,rfl⟩ ?_ B4
   refine RL.gk [1,3,6,7,8,9,11,12,28,29,30,55,56,57,58,60,61,62] ?_;refine .nil ?_
   show AW _ _ _ _ _ _
   refine .gk [1,3,6,7,8,9,28,29,30] ?_;refine .region ?_;refine vk (vbi) ?_;refine vk (Aa) ?_;refine .nil ?_;refine AL.gk [1,3,6,7,8,9,28,29,30] ?_
   exact ih (k,(List.set s10 (Int.toNat x14) (if x17<x16 then x17 else x16)),(w64 (s11+1)),(List.set s12 (Int.toNat x19) (w64 (x20+x13)))) h (Nat.lt_succ_self _)
  refine cnf (dF hc) ?_;refine .gk [3,6,7,8,9] ?_;refine .exit ?_
  exact jr (s10,s12) h
 rintro ⟨z8,z9⟩ h
 try dsimp only at h ⊢
 subst hK2
 show AW _ _ _ _ _ _
 refine .sr ?_;refine vk (AH Ac Ab) ?_;refine fz (p:=.t 8) ?_;refine vk (Aa) ?_;refine fz (p:=.c 0 0) ?_;refine RL.gh2 (Gh2.pop (H0:=[]) (cs:=[.sl (Is z9)]) rfl rfl rfl rfl) ?_;refine vk (Qw) ?_
 obtain ⟨x22,g22,h⟩:=bnd h
 refine vk (VOK.tupd (vs:=[.ag [.sl (Is x22.1.shape),.sl (Its x22.1.items)],.i .i64 x22.2]) (Am (Ep (DY Tryz.call127 (fun _ _ h=>G6 h)) g22) Tryz.call76)) ?_;refine vk (vex) ?_;refine vk (vex) ?_
 refine stn ?_ Ab (by decide)
 refine ar [6,7] ?_;refine .ret ?_
 cases h
 exact ⟨_,_,⟨.inr rfl,Ac,Ab,p2⟩,rfl,rfl⟩
def GR (a0:Arr) : Option (Arr×Int):=((B5 a0.shape).bind fun x1=>((AE ([x1.1]) a0.items).bind fun x2=>(some (x2.1,x2.2))))
theorem Kk {a0:Arr} {r:Arr×Int} (h:GR a0=some r) :
  Fn Tryz.prog 92 [.ag [.sl (Is a0.shape),.sl (Its a0.items)]] (.tup [.d (.ag [.sl (Is r.1.shape),.sl (Its r.1.items)]),.d (.i .i64 r.2)]):=by
 unfold GR at h
 refine Fn.ofC (rs:=[.cell 2 27,.tmp 3]) (nt:=19) Tryz.func92 rfl rfl rfl (by simp) rfl ?_;refine .sr ?_;refine vk (vbx) ?_;refine vk (van (Aj As) Aw) ?_;refine ar [1,2,3] ?_;refine .sr ?_;refine vk (vfa Ai) ?_;refine vk (Ah Ax) ?_
 obtain ⟨x1,g1,h⟩:=bnd h
 refine vk (VOK.tupd (vs:=[.i .i64 x1.1,.i .i64 x1.2]) (Am (Cm g1) Tryz.call26)) ?_;refine vk (Aa) ?_;refine vk (vex) ?_;refine vk (vex) ?_;refine asd ?_;refine ar [1,2,3,4] ?_;refine .sr ?_;refine vk (Aa) ?_;refine vk ((G5 (Cy [x1.1]) BL).deep) ?_;refine vk (vfa AD) ?_;refine vk (Ah Bm) ?_
 obtain ⟨x2,g2,h⟩:=bnd h
 refine vk (VOK.tupd (vs:=[.ag [.sl (Is x2.1.shape),.sl (Its x2.1.items)],.i .i64 x2.2]) (Am (CK g2) Tryz.call10)) ?_;refine vk (vex) ?_;refine vk (vex) ?_
 refine stn ?_ Ab (by decide)
 refine ar [2,3] ?_;refine .ret ?_
 cases h
 exact ⟨_,_,⟨.inr rfl,Ac,Ab,p2⟩,rfl,rfl⟩
def GU (a0:Arr) : Option (Arr×Int):=((D9 a0 false).bind fun x1=>((Ei a0 x1).bind fun x2=>(some (x2.1,x2.2))))
theorem Ku {a0:Arr} {r:Arr×Int} (h:GU a0=some r) :
  Fn Tryz.prog 93 [.ag [.sl (Is a0.shape),.sl (Its a0.items)]] (.tup [.d (.ag [.sl (Is r.1.shape),.sl (Its r.1.items)]),.d (.i .i64 r.2)]):=by
 unfold GU at h
 refine Fn.ofC (rs:=[.cell 2 27,.tmp 3]) (nt:=10) Tryz.func93 rfl rfl rfl (by simp) rfl ?_;refine .sr ?_;refine vk (vbx) ?_;refine vk (van (Aj As) Aw) ?_;refine ar [1,2,3] ?_;refine .seq ?_;refine .drawn 6 Bb (by kernel_rfl) ?_;refine dv (AH Ac Ab) ?_;refine dv (AH Ac Ab) ?_
 obtain ⟨x1,g1,h⟩:=bnd h
 refine dv (Am (IU g1) Tryz.call40) ?_
 obtain ⟨x2,g2,h⟩:=bnd h
 refine dv (VOK.tupd (vs:=[.ag [.sl (Is x2.1.shape),.sl (Its x2.1.items)],.i .i64 x2.2]) (Am (FR g2) Tryz.call94)) ?_;refine dv (vex) ?_;refine dv (vex) ?_;refine dz ?_
 refine stn ?_ Ab (by decide)
 refine ar [2,3] ?_;refine .ret ?_
 cases h
 exact ⟨_,_,⟨.inr rfl,Ac,Ab,p2⟩,rfl,rfl⟩
def Gy (a0:Arr) : Option (Arr×Int):=((Ei a0 0).bind fun x1=>(some (x1.1,x1.2)))
theorem Kq {a0:Arr} {r:Arr×Int} (h:Gy a0=some r) :
  Fn Tryz.prog 95 [.ag [.sl (Is a0.shape),.sl (Its a0.items)]] (.tup [.d (.ag [.sl (Is r.1.shape),.sl (Its r.1.items)]),.d (.i .i64 r.2)]):=by
 unfold Gy at h
 refine Fn.ofC (rs:=[.cell 2 27,.tmp 3]) (nt:=8) Tryz.func95 rfl rfl rfl (by simp) rfl ?_;refine .sr ?_;refine vk (vbx) ?_;refine vk (van (Aj As) Aw) ?_;refine ar [1,2,3] ?_;refine .sr ?_;refine vk (AH Ac Ab) ?_
 obtain ⟨x1,g1,h⟩:=bnd h
 refine vk (VOK.tupd (vs:=[.ag [.sl (Is x1.1.shape),.sl (Its x1.1.items)],.i .i64 x1.2]) (Am (FR g1) Tryz.call94)) ?_;refine vk (vex) ?_;refine vk (vex) ?_
 refine stn ?_ Ab (by decide)
 refine ar [2,3] ?_;refine .ret ?_
 cases h
 exact ⟨_,_,⟨.inr rfl,Ac,Ab,p2⟩,rfl,rfl⟩
def Df (a0:Arr) (K0:(List Int)→Option (Arr×Int)) : Nat→(List Int)→Int→Option (Arr×Int)
 | 0,_,_=>none
 | k+1,s2,s3=>(if s3<((List.length a0.shape:Nat):Int) then ((ap? 17592186044416 [s3] s2).bind fun x4=>(Df a0 K0 k x4 (w64 (s3+1)))) else (K0 s2))
def GV (a0:Arr) : Option (Arr×Int):=(jn (fun (z1:(List Int))=>((EE a0 z1 ((List.length z1:Nat) : Int)).bind fun x5=>(some (x5.1,x5.2)))) fun K0=>(Df a0 K0 AK [] 0))
theorem Km {a0:Arr} {r:Arr×Int} (h:GV a0=some r) :
  Fn Tryz.prog 96 [.ag [.sl (Is a0.shape),.sl (Its a0.items)]] (.tup [.d (.ag [.sl (Is r.1.shape),.sl (Its r.1.items)]),.d (.i .i64 r.2)]):=by
 unfold GV at h
 refine Fn.ofC (rs:=[.cell 2 27,.tmp 3]) (nt:=24) Tryz.func96 rfl rfl rfl (by simp) rfl ?_;refine .sr ?_;refine vk (vbx) ?_;refine vk (van (Aj As) Aw) ?_;refine ar [1,2,3] ?_;refine .sr ?_;refine asn ?_;refine rk [1,2,3,4] ?_;refine .seq ?_;refine .sr ?_;refine vk (vfa Ai) ?_;refine vk (Ah Ax) ?_;refine vk (AR (Ad _) (A0 _) AS) ?_;refine vk (Aa) ?_;refine rk [1,2,3,4,8,9] ?_
 obtain ⟨K0,hK0,h⟩:=AQ h
 refine AW.mr (σ:=(List Int)) (fun p=>K0 p=some r) (fun p=>[(1,.d (.ptr [.sl (Is a0.shape),.sl (Its a0.items)])),(2,.nb [.sl (Is []),.sl (Its [])]),(3,.d (.i .i64 0)),(4,.d (.sl (Is p)))]) (fun p=>[]) ?_ ?_
 ·skip
  refine .block ?_;refine .gh (Gh.nlD (t:=4) rfl) ?_
  refine .loop (.gk [1,2,3,4,8,9] ?_)
  refine AL.ind (σ:=Nat×(List Int)×Int) (m:=fun p=>p.1) (e:=fun p=>[(1,.d (.ptr [.sl (Is a0.shape),.sl (Its a0.items)])),(2,.nb [.sl (Is []),.sl (Its [])]),(3,.d (.i .i64 0)),(4,.d (.sl (Is p.2.1))),(8,.d (.i .i64 ((List.length a0.shape:Nat):Int))),(9,.d (.i .i64 p.2.2))]) (h:=fun p=>[]) (I:=fun p=>Df a0 K0 p.1 p.2.1 p.2.2=some r) ?_ (AK,[],0) h
  rintro ⟨k,s2,s3⟩ h ih
  dsimp only at h ih ⊢
  rcases k with _|k
  ·rw [Df] at h;cases h
  rw [Df] at h
  refine .sr ?_;refine vk (vbi) ?_;refine rk [1,2,3,4,8,9,10] ?_;refine .seq ?_
  rcases brc h with ⟨hc,h⟩|⟨hc,h⟩
  ·refine cnt (dT hc) ?_
   refine .skip ?_
   show AW _ _ _ _ _ _
   refine .seq ?_;refine .block ?_;refine .sr ?_;refine vk (Aa) ?_;refine ar [1,2,3,4,5,8,9] ?_;refine .region ?_;refine vk (Aa) ?_;refine vk (G5 (Cy [s3]) BL) ?_;refine vk (Aa) ?_
   obtain ⟨x4,g4,h⟩:=bnd h
   refine UY HG g4 IV ?_ FU Ad BL
   refine aso ?_;refine .nil ?_
   show AW _ _ _ _ _ _
   refine .gk [1,2,3,4,8,9] ?_;refine .region ?_;refine vk (vbi) ?_;refine vk (Aa) ?_;refine .nil ?_;refine AL.gh (Gh.frz (p:=.t 4) rfl (fun _ _ h=>by cases h)) ?_;refine AL.gk [1,2,3,4,8,9] ?_
   exact ih (k,x4,(w64 (s3+1))) h (Nat.lt_succ_self _)
  refine cnf (dF hc) ?_;refine .gk [1,2,3,4] ?_;refine .exit ?_
  exact jr (s2) h
 rintro z1 h
 try dsimp only at h ⊢
 subst hK0
 show AW _ _ _ _ _ _
 refine .sr ?_;refine vk (AH Ac Ab) ?_;refine vk (Aa) ?_;refine vk (Aa) ?_;refine vk (AR (Ad _) (A0 _) AS) ?_
 obtain ⟨x5,g5,h⟩:=bnd h
 refine vk (VOK.tupd (vs:=[.ag [.sl (Is x5.1.shape),.sl (Its x5.1.items)],.i .i64 x5.2]) (Am (HU g5) Tryz.call80)) ?_;refine vk (vex) ?_;refine vk (vex) ?_
 refine stn ?_ Ab (by decide)
 refine ar [2,3] ?_;refine .ret ?_
 cases h
 exact ⟨_,_,⟨.inr rfl,Ac,Ab,p2⟩,rfl,rfl⟩
def Au (a0:(List Arr)) (a1:BH) (K0:Int→Option (Int)) : Nat→Int→Int→Option (Int)
 | 0,_,_=>none
 | k+1,s2,s3=>(if s3<((List.length a0:Nat):Int) then ((rd? a0 s3).bind fun x4=>((a1.g x4).bind fun x5=>(if x5=true then (some (s3)) else (Au a0 a1 K0 k s2 (w64 (s3+1)))))) else (K0 s2))
def A4 (a0:(List Arr)) (a1:BH) : Option (Int):=(jn (fun (z1:Int)=>(some ((-1)))) fun K0=>(Au a0 a1 K0 AK 0 0))
theorem Dn {a0:(List Arr)} {a1:BH} (oa1:IZ a1) {r:Int} (h:A4 a0 a1=some r) :
  Fn Tryz.prog 121 [.sl (Ars a0),a1.dv] (.d (.i .i64 r)):=by
 unfold A4 at h
 refine Fn.o1 4 19 Tryz.func121 ?_;refine .sr ?_;refine ar [0,1,4] ?_;refine .seq ?_;refine .sr ?_;refine vk (Aa) ?_;refine vk (AR (Bw _) (EG _) EC) ?_;refine vk (Aa) ?_;refine rk [0,1,4,7,8] ?_
 obtain ⟨K0,hK0,h⟩:=AQ h
 refine AW.mr (σ:=Int) (fun p=>K0 p=some r) (fun p=>[(4,.d (.i .i64 p))]) (fun p=>[]) ?_ ?_
 ·skip
  refine .block ?_
  refine .loop (.gk [0,1,4,7,8] ?_)
  refine AL.ind (σ:=Nat×Int×Int) (m:=fun p=>p.1) (e:=fun p=>[(0,.d (.sl (Ars a0))),(1,.d (a1.dv)),(4,.d (.i .i64 p.2.1)),(7,.d (.i .i64 ((List.length a0:Nat):Int))),(8,.d (.i .i64 p.2.2))]) (h:=fun p=>[]) (I:=fun p=>Au a0 a1 K0 p.1 p.2.1 p.2.2=some r) ?_ (AK,0,0) h
  rintro ⟨k,s2,s3⟩ h ih
  dsimp only at h ih ⊢
  rcases k with _|k
  ·rw [Au] at h;cases h
  rw [Au] at h
  refine .sr ?_;refine vk (vbi) ?_;refine rk [0,1,4,7,8,9] ?_;refine .seq ?_
  rcases brc h with ⟨hc,h⟩|⟨hc,h⟩
  ·refine cnt (dT hc) ?_
   refine .skip ?_
   show AW _ _ _ _ _ _
   refine .seq ?_;refine .block ?_;refine .sr ?_;refine vk (Aa) ?_;refine ar [0,1,4,5,7,8] ?_;refine .sr ?_;refine vk (Aa) ?_;refine vk (Aa) ?_;refine vk (Aa) ?_
   obtain ⟨x4,g4,h⟩:=bnd h
   obtain ⟨n4,p04,q4⟩:=Ag g4
   refine vk (vix n4 p04 (Fv q4) rfl Fm) ?_;refine vk (AH Ac Ab) ?_
   obtain ⟨x5,g5,h⟩:=bnd h
   refine vk (N9 (oa1 _ _ g5)) ?_;refine rk [0,1,4,5,7,8,16] ?_
   rcases brc h with ⟨hc,h⟩|⟨hc,h⟩
   ·refine cnt hc ?_
    refine .sr ?_;refine vk (Aa) ?_;refine ar [0,1,4,7,8] ?_;refine .ret ?_
    cases h
    exact ⟨rfl,rfl⟩
   refine cnf (bf hc) ?_;refine .skip ?_
   show AW _ _ _ _ _ _
   refine .region ?_;refine vk (vbi) ?_;refine vk (Aa) ?_;refine .nil ?_;refine AL.gk [0,1,4,7,8] ?_
   exact ih (k,s2,(w64 (s3+1))) h (Nat.lt_succ_self _)
  refine cnf (dF hc) ?_;refine .gk [4] ?_;refine .exit ?_
  exact jr (s2) h
 rintro z1 h
 try dsimp only at h ⊢
 subst hK0
 show AW _ _ _ _ _ _
 refine .sr ?_;refine ar [4] ?_;refine .ret ?_
 cases h
 exact ⟨rfl,rfl⟩
def Az (a0:(List Arr)) (a1:BH) : Option (Bool):=((A4 a0 a1).bind fun x1=>(some ((decide (0≤x1)))))
theorem BI {a0:(List Arr)} {a1:BH} (oa1:IZ a1) {r:Bool} (h:Az a0 a1=some r) :
  Fn Tryz.prog 71 [.sl (Ars a0),a1.dv] (.d (.b r)):=by
 unfold Az at h
 refine Fn.o1 4 9 Tryz.func71 ?_;refine .sr ?_;refine ar [0,1,4] ?_;refine .sr ?_;refine vk (Aa) ?_;refine vk (Aa) ?_
 obtain ⟨x1,g1,h⟩:=bnd h
 refine vk (Am (Dn oa1 g1) Tryz.call121) ?_;refine vk (vbi) ?_;refine ar [4] ?_;refine .ret ?_
 cases h
 exact ⟨rfl,rfl⟩
def CO (a0:Arr) : Option (Bool):=((A8 a0).bind fun x1=>(some ((!x1))))
theorem Ga {a0:Arr} {r:Bool} (h:CO a0=some r) :
  Fn Tryz.prog 72 [.ag [.sl (Is a0.shape),.sl (Its a0.items)]] (.d (.b r)):=by
 unfold CO at h
 refine Fn.o1 2 6 Tryz.func72 ?_;refine .sr ?_;refine vk (vbx) ?_;refine ar [1,2] ?_;refine .sr ?_;refine vk (AH Ac Ab) ?_
 obtain ⟨x1,g1,h⟩:=bnd h
 refine vk (Am (Bs g1) Tryz.call15) ?_;refine vk (vnt) ?_;refine ar [2] ?_;refine .ret ?_
 cases h
 exact ⟨rfl,rfl⟩
def Dw (a0:(Int×RT×Int)) (a1:(List Arr)) : Option (Bool):=(Option.bind ((if a0.1=0 then ((Az a1 (⟨.fn 72 [] [],fun x=>CO x⟩ : BH)).bind fun x2=>(some (!x2))) else (if a0.1=1 then ((Az a1 (⟨.fn 72 [] [],fun x=>CO x⟩ : BH)).bind fun x3=>(some (!x3))) else (some false))) : Option (Bool)) fun (z1:Bool)=>(some (z1)))
theorem HD {a0:(Int×RT×Int)} {a1:(List Arr)} {r:Bool} (h:Dw a0 a1=some r) :
  Fn Tryz.prog 34 [.ag [.i .i64 a0.1,.b a0.2.1.1,.sl (L a0.2.1.2.1),.sl (L a0.2.1.2.2),.i .i64 a0.2.2],.sl (Ars a1)] (.d (.b r)):=by
 unfold Dw at h
 refine Fn.o1 4 18 Tryz.func34 ?_;refine .sr ?_;refine vk (vbx) ?_;refine ar [1,2,4] ?_;refine .seq ?_
 obtain ⟨z1,hz,h⟩:=bnd h
 refine AW.mr (σ:=Unit) (fun _=>True) (fun _=>[(4,.d (.b z1))]) (fun _=>[]) ?_ ?_
 ·skip
  refine .region ?_;refine vk (vfa PF) ?_;refine vk (Ah Ap) ?_;refine vk (vbi) ?_
  rcases brc hz with ⟨hc,hz⟩|⟨hc,hz⟩
  ·have hb0:(decide (a0.1=0))=true:=(dT hc)
   refine vk (VOK.lit (Aa) hb0) ?_;refine gf ?_;refine gf ?_;refine gf ?_;refine vk (An) ?_;refine vk (Aa) ?_;refine vk (Aa) ?_
   obtain ⟨x2,g2,hz⟩:=bnd hz
   refine vk (Am (BI (DY Tryz.call72 (fun _ _ h=>Ga h)) g2) Tryz.call71) ?_;refine vk (vnt) ?_;refine vk (An) ?_;refine asd ?_;refine RL.gk [4] ?_;refine .nil ?_
   cases hz
   exact jr () trivial
  have hb0:(decide (a0.1=0))=false:=(dF hc)
  refine vk (VOK.lit (Aa) hb0) ?_;refine vk (vfa PF) ?_;refine vk (Ah Ap) ?_;refine vk (vbi) ?_;refine vk (An) ?_
  rcases brc hz with ⟨hc,hz⟩|⟨hc,hz⟩
  ·have hb1:(decide (a0.1=1))=true:=(dT hc)
   refine vk (VOK.lit (Aa) hb1) ?_;refine vk (Aa) ?_
   obtain ⟨x3,g3,hz⟩:=bnd hz
   refine vk (Am (BI (DY Tryz.call72 (fun _ _ h=>Ga h)) g3) Tryz.call71) ?_;refine vk (vnt) ?_;refine vk (An) ?_;refine asd ?_;refine RL.gk [4] ?_;refine .nil ?_
   cases hz
   exact jr () trivial
  have hb1:(decide (a0.1=1))=false:=(dF hc)
  refine vk (VOK.lit (Aa) hb1) ?_;refine gf ?_;refine gf ?_;refine gf ?_;refine vk (An) ?_;refine asd ?_;refine RL.gk [4] ?_;refine .nil ?_
  cases hz
  exact jr () trivial
 rintro _ _
 refine .ret ?_
 cases h
 exact ⟨rfl,rfl⟩
theorem Ex : Tryz.prog.underlying 85=some (.map 21 84):=by kernel_rfl
theorem QA : ∀ w,(zeroValue 84).run Tryz.prog w=.ok .nilFunc w:=Aj (by kernel_rfl)
def Pd : List (Int×DV):=[(9076,.fn 91 [] []),(44,.fn 92 [] []),(9021,.fn 93 [] []),(8854,.fn 95 [] []),(9033,.fn 96 [] [])]
theorem Qo : Fn Tryz.prog 50 [] (.d (.mp (Pd.map fun p=>.i .i32 p.1) (Pd.map (·.2)))):=by
 refine Fn.o1 0 3 Tryz.func50 ?_;refine .sr ?_;refine asu ?_;refine rn ?_;refine .sr ?_;refine vk (Vz) ?_;refine JK Ex gkR freshK.nil ?_;refine JK Ex gkR (freshK.snoc (z:=44) (z':=9076) freshK.nil (by decide)) ?_;refine JK Ex gkR (freshK.snoc (z:=9021) (z':=44) (freshK.snoc (z:=9021) (z':=9076) freshK.nil (by decide)) (by decide)) ?_;refine JK Ex gkR (freshK.snoc (z:=8854) (z':=9021) (freshK.snoc (z:=8854) (z':=44) (freshK.snoc (z:=8854) (z':=9076) freshK.nil (by decide)) (by decide)) (by decide)) ?_;refine JK Ex gkR (freshK.snoc (z:=9033) (z':=8854) (freshK.snoc (z:=9033) (z':=9021) (freshK.snoc (z:=9033) (z':=44) (freshK.snoc (z:=9033) (z':=9076) freshK.nil (by decide)) (by decide)) (by decide)) (by decide)) ?_;refine RL.gh (Gh.omf (t:=1) rfl) ?_;refine RL.gk [1] ?_;refine vk (Aa) ?_;refine asd ?_;refine rn ?_;refine .ret ?_
 exact ⟨rfl,rfl⟩
def GK : List (Int×En):=[(9076,⟨.fn 91 [] [],fun _=>none⟩),(44,⟨.fn 92 [] [],fun x=>GR x⟩),(9021,⟨.fn 93 [] [],fun x=>GU x⟩),(8854,⟨.fn 95 [] [],fun x=>Gy x⟩),(9033,⟨.fn 96 [] [],fun x=>GV x⟩)]
theorem OG : (GK.map (·.1)).Nodup:=by show List.Nodup [(9076:Int),(44:Int),(9021:Int),(8854:Int),(9033:Int)];decide
theorem NH : ∀ p∈GK,FH p.2∧isF p.2.dv:=by
 intro p hp
 simp only [GK,List.mem_cons,List.not_mem_nil,or_false] at hp
 rcases hp with rfl|rfl|rfl|rfl|rfl
 ·exact ⟨DY Tryz.call91 (fun _ _ h=>nomatch h),_,_,_,rfl⟩
 ·exact ⟨DY Tryz.call92 (fun _ _ h=>Kk h),_,_,_,rfl⟩
 ·exact ⟨DY Tryz.call93 (fun _ _ h=>Ku h),_,_,_,rfl⟩
 ·exact ⟨DY Tryz.call95 (fun _ _ h=>Kq h),_,_,_,rfl⟩
 ·exact ⟨DY Tryz.call96 (fun _ _ h=>Km h),_,_,_,rfl⟩
theorem OF {z:Int} {f:En} (h:Gb GK z=some f) : FH f∧isF f.dv:=NH _ (KC h)
theorem OZ : Fn Tryz.prog 50 [] (.d (S2 .i32 GK)):=Qo
def FY (a0:(Int×RT×Int)) (a1:Int) (a2:Arr) : Option (Arr×Int):=(Ug (Gb GK a1) (some ((Arr.mk [] []),23)) fun f1=>((Dw a0 ([a2])).bind fun x2=>(if x2=true then ((f1.g a2).bind fun x3=>(some (x3.1,x3.2))) else (some ((Arr.mk [] []),22)))))
theorem Jp {a0:(Int×RT×Int)} {a1:Int} {a2:Arr} {r:Arr×Int} (h:FY a0 a1 a2=some r) :
  Fn Tryz.prog 17 [.ag [.i .i64 a0.1,.b a0.2.1.1,.sl (L a0.2.1.2.1),.sl (L a0.2.1.2.2),.i .i64 a0.2.2],.i .i32 a1,.ag [.sl (Is a2.shape),.sl (Its a2.items)]] (.tup [.d (.ag [.sl (Is r.1.shape),.sl (Its r.1.items)]),.d (.i .i64 r.2)]):=by
 unfold FY at h
 refine Fn.ofC (rs:=[.cell 6 27,.tmp 7]) (nt:=28) Tryz.func17 rfl rfl rfl (by simp) rfl ?_;refine .sr ?_;refine vk (vbx) ?_;refine vk (vbx) ?_;refine vk (van (Aj As) Aw) ?_;refine ar [1,3,5,6,7] ?_;refine .sr ?_;refine vk (Am OZ Tryz.call50) ?_;refine vk (Aa) ?_
 rcases hmf1:(Gb GK a1) with _|f1
 ·replace h:=UR hmf1 h
  refine vk (Vl Ex gkR QA hmf1) ?_;refine ar [3,5,6,7,8] ?_;refine .seq ?_;refine .block ?_;refine .sr ?_;refine vk (Aa) ?_;refine vk (VK Ew) ?_;refine ar [3,5,6,7,8,12] ?_;refine Ed ?_;refine .sr ?_;refine vk (vbd Bl As Aw) ?_
  refine stn ?_ Ab (by decide)
  refine ar [5,6,7,8] ?_;refine .ret ?_
  cases h
  exact ⟨_,_,⟨.inr rfl,Ac,Ab,p2⟩,rfl,rfl⟩
 replace h:=UH hmf1 h
 obtain ⟨of1,isf1⟩:=OF hmf1
 refine vk (T6 OG Ex gkR hmf1) ?_;refine ar [3,5,6,7,8] ?_;refine .seq ?_;refine .block ?_;refine .sr ?_;refine vk (Aa) ?_;refine vk (VI Ew isf1) ?_;refine ar [3,5,6,7,8,12] ?_;refine DF ?_;refine .sr ?_;refine vk (AH Pz Nw) ?_;refine vk (AH Ac Ab) ?_;refine vk ((Em (KA a2) (Hf [a2]) IH).deep) ?_
 obtain ⟨x2,g2,h⟩:=bnd h
 refine vk (Am (HD g2) Tryz.call34) ?_;refine vk (vnt) ?_;refine ar [5,6,7,8,16] ?_
 rcases brc h with ⟨hc,h⟩|⟨hc,h⟩
 ·refine cnf (ntf hc) ?_
  refine .skip ?_
  show AW _ _ _ _ _ _
  refine .sr ?_;refine vk (Aa) ?_;refine vk (AH Ac Ab) ?_
  obtain ⟨x3,g3,h⟩:=bnd h
  refine vk (VOK.tupd (vs:=[.ag [.sl (Is x3.1.shape),.sl (Its x3.1.items)],.i .i64 x3.2]) (N9 (of1 _ _ g3))) ?_;refine vk (vex) ?_;refine vk (vex) ?_
  refine stn ?_ Ab (by decide)
  refine ar [6,7] ?_;refine .ret ?_
  cases h
  exact ⟨_,_,⟨.inr rfl,Ac,Ab,p2⟩,rfl,rfl⟩
 refine cnt (ntt (bf hc)) ?_;refine .sr ?_;refine vk (vbd Bl As Aw) ?_
 refine stn ?_ Ab (by decide)
 refine ar [5,6,7,8] ?_;refine .ret ?_
 cases h
 exact ⟨_,_,⟨.inr rfl,Ac,Ab,p2⟩,rfl,rfl⟩
theorem SE {s:List Int} (h:(szP s).2=0) : (∀ x∈s,0≤x∧x≤4096)∧s.length≤8:=by
 unfold szP at h
 split at h
 ·exact absurd h (by decide)
 split at h
 ·exact absurd h (by decide)
 split at h
 ·exact absurd h (by decide)
 rename_i h8 hneg hbig
 refine ⟨fun x hx=>?_,by omega⟩
 simp only [List.any_eq_true,decide_eq_true_eq,not_exists,not_and] at hneg hbig
 have a:=hneg x hx
 have b:=hbig x hx
 omega
theorem RD {b:Arr} (hl:b.shape.length≤17592186044416) : D9 b false=some ((b.shape.length-1:Nat) : Int):=by
 unfold D9
 rw [if_neg (by decide),BP (by omega) (by omega)]
 congr 1
 split<;>omega
end Go.FL
namespace Go.FL
open Go Go.RowKit
section
variable {P:Program} {C:Cx} {o:Oper} {ops:Array Oper} {Q:Exit→Env→Af→Prop} {env:Env} {H:Af} {k:Nat} {l:List Oper}
theorem Vn {x:Operand} {src dst:Nat} {q:IntKind} {n:Int} (hs:(P.underlying src).isSome=true) (hd:P.underlying dst=some .string) (ho:o.op=.convert src dst x:=by rfl) (hv:lk env x=.d (.i q n):=by rfl) : VOK P C o env H (.d (.s (Utf8.encode n))):=by
 obtain ⟨h1,h2⟩:=Av hv (by simp)
 refine .pv ⟨by simp [ho],fun X a w I μ O _ hs'=>⟨.string (Utf8.encode n),?_,.of_rep (.s _)⟩⟩
 have e1:=hs'.look_i h1 h2
 have:=run_convert_int_string (P:=P) w src dst q n hs hd
 simp only [execOp,ho,e1,Sem.run_bind,this,Result.andThen_ok,Sem.run_pure]
theorem Vk {x y:Operand} {ty:Nat} {s:ByteArray} {q:IntKind} {z:Int} (n:Nat) (hn:z=n∧n≤s.size) (hty:P.underlying ty=some .string) (ho:o.op=.slice ty x (some y) none none:=by rfl) (hv:lk env x=.d (.s s):=by rfl) (hi:lk env y=.d (.i q z):=by rfl) :
  VOK P C o env H (.d (.s (s.extract n s.size))):=by
 obtain ⟨rfl,hl⟩:=hn
 obtain ⟨h1,h2⟩:=Av hv (by simp)
 obtain ⟨h3,h4⟩:=Av hi (by simp)
 refine .pv ⟨by simp [ho],fun X a w I μ O _ hs=>⟨.string (s.extract n s.size),?_,.of_rep (.s _)⟩⟩
 have e1:=hs.look_s h1 h2
 have e2:=hs.look_i h3 h4
 have:=run_slice_string_l (P:=P) w ty s hty q (n:Int) (by omega) (by omega)
 rw [Int.toNat_natCast] at this
 simp only [execOp,ho,e1,Option.map_none,Option.map_some,e2,Instr.sliceAt,Sem.run_bind,run_underlying hty,this,Result.andThen_ok,Sem.run_pure]
theorem V1 {c:Call} {fo:Operand} {f:FuncId} {s:ByteArray} {b z:Int} (he:∀ w,(callFunc f #[.string s,.int .u8 b]).run P w=.ok (.value (.int .i64 z)) w) (ho:o.op=.call c:=by rfl) (hc:c.callee=.value fo:=by rfl) (hf:lk env fo=.d (.fn f [] []):=by rfl)
  (ha:argsD env c.args.toList=some [.s s,.i .u8 b]:=by rfl):VOK P C o env H (.d (.i .i64 z)):=by
 refine .pv ⟨by simp [ho],fun X a w I μ O _ hs=>⟨.int .i64 z,?_,.of_rep (.i _ _)⟩⟩
 have hfr:=hs.deep (x:=fo) (v:=.fn f [] []) (by rw [hf];rfl)
 generalize hev:a.eval fo=u at hfr
 cases hfr with
 | fn _ _ _ fs cs hfs hcs =>
  cases hfs
  cases hcs
  have hres:=B2 (P:=P) (w:=w) (ρ:=a.eval) (ty:=o.type) hc hev
  have h:=hs.argsD ha
  have e:c.args.map a.eval=#[.string s,.int .u8 b]:=by
   apply Array.ext'
   rw [Array.toList_map]
   generalize c.args.toList.map a.eval=l at h
   cases h with
   | cons h1 h2 =>
    cases h1
    cases h2 with
    | cons h3 h4=>cases h3;cases h4;rfl
  have he':=he w
  rw [← e] at he'
  simp only [execOp,ho,Sem.run_bind,hres,Result.andThen_ok,invoke,List.toArray,Array.append_empty,Array.empty_append,he']
end
def noG (Q:Exit→Env→Af→Prop) : Exit→Env→Af→Prop
 | .goto _,_,_=>False
 | e,env,H=>Q e env H
section
variable {P:Program} {b:Frame} {a:Act} {k:List Item} {cs:List Frame} {w:World}
theorem Gm {c:Code} : step P (lone (b.atR a (.code (.scope c)::k)) cs w)=.next (lone (b.atR a (.code c::.inScope c::k)) cs w) :=
 step_lone_go (by simp [stepG,stepG.exec,Frame.atR])
theorem Qj {c:Code} : step P (lone (b.atR a (.inScope c::k)) cs w)=.next (lone (b.atR a k) cs w) :=
 step_lone_go (by simp [stepG,stepG.exec,Frame.atR])
end
theorem AW.scope {P:Program} {C:Cx} {c:Code} {Q:Exit→Env→Af→Prop} {env:Env} {H:Af} (h:AW P C c (noG Q) env H) : AW P C (.scope c) Q env H:=by
 intro X a w I μ O h1 h2 h3 hs b k cs hro hb hr
 have h0:(lone (b.atR a (.code (.scope c)::k)) cs w).fenced P (om C.ro):=fenced_calm hb hr rfl
 obtain ⟨e,a₁,w₁,hq,harr⟩:=h X a w I μ O h1 h2 h3 hs b (.inScope c::k) cs hro hb hr
 obtain ⟨env',H',I',μ',O',s,q⟩:=hq
 cases e with
 | normal=>exact ⟨.normal,a₁,w₁,⟨env',H',I',μ',O',s,q⟩,.head h0 Gm (StepsIn.trans harr (.one (fenced_calm hb hr rfl) Qj))⟩
 | exit id =>
  have hx:exitTo id (.inScope c::k)=exitTo id k:=by simp [exitTo]
  exact ⟨.exit id,a₁,w₁,⟨env',H',I',μ',O',s,q⟩,fun k' hk=>.head h0 Gm (harr.1 k' (by rw [hx];exact hk)),
   fun hr' hk=>let ⟨k₁,h1,h2⟩:=harr.2 hr' (by rw [hx];exact hk);⟨k₁,h1,.head h0 Gm h2⟩⟩
 | goto l=>exact q.elim
 | ret=>exact ⟨_,a₁,w₁,⟨env',H',I',μ',O',s,q⟩,.of_steps (.one h0 Gm) harr⟩
 | panic ch=>exact ⟨_,a₁,w₁,⟨env',H',I',μ',O',s,q⟩,.of_steps (.one h0 Gm) harr⟩
 | outgrown=>exact ⟨_,a₁,w₁,⟨env',H',I',μ',O',s,q⟩,.of_steps (.one h0 Gm) harr⟩
end Go.FL
namespace Go.FL
open Go Go.Proofs Go.RowKit
theorem stS : Tryz.prog.underlying 9=some .string:=by kernel_rfl
theorem Ve (s:ByteArray) (b:Int) (w:World) : (callFunc 180 #[.string s,.int .u8 b]).run Tryz.prog w=.ok (.value (.int .i64 (Lib.indexByte s.data.toList b.toNat.toUInt8))) w:=by
 rw [run_callFunc_extern Tryz.func180 (by kernel_rfl) (by kernel_rfl) (by kernel_rfl) (e:=Extern.BytealgIndexByte.indexByte) (by kernel_rfl),Lib.run_indexByteString]
 rfl
def Ig (s:ByteArray) (b:Int) : Int:=Lib.indexByte s.data.toList b.toNat.toUInt8
theorem NK (s:ByteArray) (b:Int) : Fn Tryz.prog 169 [.s s,.i .u8 b] (.d (.i .i64 (Ig s b))):=by
 refine Fn.of (rs:=[.tmp 4]) (nt:=8) Tryz.func169 rfl rfl rfl (by simp) rfl ?_;refine .seq ?_;refine .region ?_;refine asd ?_;refine rn ?_;refine .seq ?_;refine .region ?_;refine vk (Aa) ?_;refine vk (Aa) ?_;refine vk (V1 (Ve s b)) ?_;refine asd ?_;refine rn ?_;refine .ret ?_
 exact ⟨rfl,rfl⟩
theorem JF (s:ByteArray) (b:Int) : Fn Tryz.prog 139 [.s s,.i .u8 b] (.d (.i .i64 (Ig s b))):=by
 refine Fn.of (rs:=[.tmp 4]) (nt:=8) Tryz.func139 rfl rfl rfl (by simp) rfl ?_;refine .seq ?_;refine .region ?_;refine asd ?_;refine rn ?_;refine .seq ?_;refine .region ?_;refine vk (Aa) ?_;refine vk (Aa) ?_;refine vk (Am (NK s b) Tryz.call169) ?_;refine asd ?_;refine rn ?_;refine .ret ?_
 exact ⟨rfl,rfl⟩
def CZ (a0:Int) : Option (Bool):=(if ((decide (0≤a0))&&(decide (a0<55296)))=true then (some (true)) else (if ((decide (57343<a0))&&(decide (a0≤1114111)))=true then (some (true)) else (some (false))))
theorem FK {a0:Int} {r:Bool} (h:CZ a0=some r) :
  Fn Tryz.prog 140 [.i .i32 a0] (.d (.b r)):=by
 unfold CZ at h
 refine Fn.of (rs:=[.tmp 2]) (nt:=17) Tryz.func140 rfl rfl rfl (by simp) rfl ?_;refine .seq ?_;refine .region ?_;refine asd ?_;refine rn ?_;refine .gh (Gh.keep [0,2] rfl) ?_;refine .seq ?_;refine .block ?_;refine .seq ?_;refine AW.mr (σ:=Unit) (fun _=>True) (fun _=>[(0,.d (.i .i32 a0)),(2,.d (.b false)),(3,.d (.b ((decide (0≤a0))&&(decide (a0<55296)))))]) (fun _=>[]) ?_ ?_
 ·skip
  refine .region ?_;refine vk (Aa) ?_;refine vk (vbi) ?_
  by_cases hc:0≤a0
  ·have hb0:(decide (0≤a0))=true:=(dT hc)
   refine vk (VOK.lit (Aa) hb0) ?_;refine vk (Aa) ?_;refine vk (vbi) ?_;refine vk (An) ?_;refine asd ?_;refine RL.gh (Gh.keep [0,2,3] rfl) ?_;refine .nil ?_
   exact jr () trivial (by simp only [hb0];rfl)
  have hb0:(decide (0≤a0))=false:=(dF hc)
  refine vk (VOK.lit (Aa) hb0) ?_;refine gf ?_;refine gf ?_;refine vk (An) ?_;refine asd ?_;refine RL.gh (Gh.keep [0,2,3] rfl) ?_;refine .nil ?_
  exact jr () trivial (by simp only [hb0];rfl)
 rintro _ _
 by_cases hc:((decide (0≤a0))&&(decide (a0<55296)))=true
 ·replace h:=SM hc h
  refine cnt hc ?_;refine .seq ?_;refine .region ?_;refine asd ?_;refine rn ?_;refine .gh (Gh.keep [2] rfl) ?_;refine .ret ?_
  cases h
  exact ⟨rfl,rfl⟩
 replace h:=Sr hc h
 refine cnf (bf hc) ?_;refine .seq ?_;refine AW.mr (σ:=Unit) (fun _=>True) (fun _=>[(2,.d (.b false)),(10,.d (.b ((decide (57343<a0))&&(decide (a0≤1114111)))))]) (fun _=>[]) ?_ ?_
 ·skip
  refine .region ?_;refine vk (Aa) ?_;refine vk (vbi) ?_
  by_cases hc:57343<a0
  ·have hb0:(decide (57343<a0))=true:=(dT hc)
   refine vk (VOK.lit (Aa) hb0) ?_;refine vk (Aa) ?_;refine vk (vbi) ?_;refine vk (An) ?_;refine asd ?_;refine RL.gh (Gh.keep [2,10] rfl) ?_;refine .nil ?_
   exact jr () trivial (by simp only [hb0];rfl)
  have hb0:(decide (57343<a0))=false:=(dF hc)
  refine vk (VOK.lit (Aa) hb0) ?_;refine gf ?_;refine gf ?_;refine vk (An) ?_;refine asd ?_;refine RL.gh (Gh.keep [2,10] rfl) ?_;refine .nil ?_
  exact jr () trivial (by simp only [hb0];rfl)
 rintro _ _
 by_cases hc:((decide (57343<a0))&&(decide (a0≤1114111)))=true
 ·replace h:=SM hc h
  refine cnt hc ?_;refine .seq ?_;refine .region ?_;refine asd ?_;refine rn ?_;refine .gh (Gh.keep [2] rfl) ?_;refine .ret ?_
  cases h
  exact ⟨rfl,rfl⟩
 replace h:=Sr hc h
 refine cnf (bf hc) ?_;refine .skip ?_
 show AW _ _ _ _ _ _
 refine .seq ?_;refine .region ?_;refine asd ?_;refine rn ?_;refine .gh (Gh.keep [2] rfl) ?_;refine .ret ?_
 cases h
 exact ⟨rfl,rfl⟩
theorem No (s:ByteArray) (r:Int) (h0:0≤r) (h1:r<128) : Fn Tryz.prog 85 [.s s,.i .i32 r] (.d (.i .i64 (Ig s r))):=by
 refine Fn.of (rs:=[.tmp 4]) (nt:=187) Tryz.func85 rfl rfl rfl (by simp) rfl ?_;refine .seq ?_;refine .region ?_;refine asd ?_;refine rn ?_;refine .gh (Gh.keep [0,1,4] rfl) ?_;refine .block ?_;refine .seq ?_;refine .region ?_;refine vk (Aa) ?_;refine vk (vbi) ?_
 have hb0:(decide (0≤r))=true:=dT h0
 refine vk (VOK.lit (Aa) hb0) ?_;refine vk (Aa) ?_;refine vk (vbi) ?_;refine vk (An) ?_;refine asd ?_;refine rn ?_;refine .gh (Gh.keep [0,1,4,160] rfl) ?_;refine cnt (dT h1) ?_;refine .seq ?_;refine .region ?_;refine vk (Aa) ?_;refine vk (Aa) ?_
 have hw:IntKind.u8.wrap r=r:=by
  simp only [IntKind.wrap,IntKind.bits,IntKind.signed]
  simp
  omega
 refine vk (KW (q1:=.i32) r hw (by kernel_rfl) (by kernel_rfl)) ?_;refine vk (Am (JF s r) Tryz.call139) ?_;refine asd ?_;refine rn ?_;refine .ret ?_
 exact ⟨rfl,rfl⟩
theorem Ka (s:ByteArray) (r:Int) {x0 x1 x2 y2 p:Nat} (h0:2048≤r) (h1:r<55296) (he:F9 (Utf8.encode r)=[x0,x1,x2]) (hs:s.size≤1000) (h2:(F9 s)[2]?=some y2)
  (hc:(y2=x2∧p=2)∨(y2≠x2∧3≤p∧Ig (s.extract 3 s.size) x2=(p:Int)-3)) (hp1:(F9 s)[p-1]?=some x1) (hp0:(F9 s)[p-2]?=some x0) (hp:p<s.size) :
  Fn Tryz.prog 85 [.s s,.i .i32 r] (.d (.i .i64 ((p:Int)-2))):=by
 have hes:(Utf8.encode r).size=3:=by rw [← EY,he];rfl
 have hsub:DV.i .i64 (IntKind.i64.wrap (((Utf8.encode r).size:Int)-1))=.i .i64 2:=by rw [hes];rfl
 have hv:CZ r=some true:=by
  unfold CZ
  rw [dT (show (0:Int)≤r by omega),dT h1];rfl
 have h3:3≤s.size:=by
  have:=(lS.1 h2).1
  rw [EY] at this;omega
 refine Fn.of (rs:=[.tmp 4]) (nt:=187) Tryz.func85 rfl rfl rfl (by simp) rfl ?_;refine .seq ?_;refine .region ?_;refine asd ?_;refine rn ?_;refine .gh (Gh.keep [0,1,4] rfl) ?_;refine .block ?_;refine .seq ?_;refine .region ?_;refine vk (Aa) ?_;refine vk (vbi) ?_
 have hb0:(decide (0≤r))=true:=dT (by omega)
 refine vk (VOK.lit (Aa) hb0) ?_;refine vk (Aa) ?_;refine vk (vbi) ?_;refine vk (An) ?_;refine asd ?_;refine rn ?_;refine .gh (Gh.keep [0,1,4,160] rfl) ?_;refine cnf (show decide (r<128)=false from dF (by omega)) ?_;refine .seq ?_;refine .region ?_;refine vk (Aa) ?_;refine vk (vbi) ?_;refine asd ?_;refine rn ?_;refine .gh (Gh.keep [0,1,4,171] rfl) ?_;refine cnf (show decide (r=65533)=false from dF (by omega)) ?_;refine .seq ?_;refine .region ?_;refine vk (Aa) ?_;refine vk (Am (FK hv) Tryz.call140) ?_;refine vk (vnt) ?_;refine asd ?_;refine rn ?_;refine .gh (Gh.keep [0,1,4,183] rfl) ?_;refine DF ?_;refine .scope ?_;refine .seq ?_;refine .region ?_;refine vk (Aa) ?_;refine vk (Vn (by kernel_rfl) stS) ?_;refine asd ?_;refine rn ?_;refine .gh (Gh.keep [0,1,4,7] rfl) ?_;refine .seq ?_;refine .region ?_;refine vk (Aa) ?_;refine vk (Ru stS) ?_;refine vk (Qv (.i .i64 2) ⟨trivial,hsub⟩) ?_;refine asd ?_;refine rn ?_;refine .gh (Gh.keep [0,1,4,7,8] rfl) ?_;refine .seq ?_;refine .region ?_;refine vk (Aa) ?_;refine asd ?_;refine rn ?_;refine .gh (Gh.keep [0,1,4,7,8,9] rfl) ?_;refine .seq ?_;refine .region ?_;refine asd ?_;refine rn ?_;refine .gh (Gh.keep [0,1,4,7,8,9,10] rfl) ?_;refine .seq ?_;refine .block ?_
 refine .loop (.round ?_)
 refine .seq ?_;refine .seq ?_;refine .region ?_;refine vk (Aa) ?_;refine vk (Aa) ?_;refine vk (Ru stS) ?_;refine vk (vbi) ?_;refine rn ?_;refine .gh (Gh.keep [0,1,4,7,8,9,10,26] rfl) ?_;refine cnt (show decide ((2:Int)<((s.size:Nat):Int))=true from dT (by omega)) ?_;refine .skip ?_
 show AW _ _ _ _ _ _
 refine .block ?_;refine .scope ?_;refine .seq ?_;refine .seq ?_;refine .drawn 7 Bb (by kernel_rfl) ?_;refine dv (Aa) ?_;refine dv (Aa) ?_;refine dv (NM 2 y2 rfl h2 stS) ?_;refine dv (Aa) ?_;refine dv (Aa) ?_;refine dv (NM 2 x2 rfl (by rw [he];rfl) stS) ?_;refine dv (vbi) ?_;refine dz ?_;refine rn ?_;refine .gh (Gh.keep [0,1,4,7,8,9,10,33] rfl) ?_;refine AW.mr (σ:=Unit) (fun _=>True) (fun _=>[(0,.d (.s s)),(1,.d (.i .i32 r)),(4,.d (.i .i64 0)),(7,.d (.s (Utf8.encode r))),(8,.d (.i .i64 2)),(9,.d (.i .i64 (p:Int))),(10,.d (.i .i64 0))]) (fun _=>[]) ?_ ?_
 ·skip
  rcases hc with ⟨hc1,hc2⟩|⟨hc1,hc2,hc3⟩
  ·subst hc2
   refine cnf (ntf (dT (show (y2:Int)=x2 by omega))) ?_;refine .gh (Gh.keep [0,1,4,7,8,9,10] rfl) ?_;refine .skip ?_
   exact jr () trivial rfl
  have hI:=JF (s.extract 3 s.size) x2
  rw [hc3] at hI
  refine cnt (ntt (dF (show ¬(y2:Int)=x2 by omega))) ?_;refine .seq ?_;refine .drawn 8 Bb (by kernel_rfl) ?_;refine dv (Aa) ?_;refine dv (Aa) ?_;refine dv (vad 3 ⟨rfl,by decide,by decide⟩) ?_;refine dv (Vk 3 ⟨rfl,h3⟩ stS) ?_;refine dv (Aa) ?_;refine dv (Aa) ?_;refine dv (NM 2 x2 rfl (by rw [he];rfl) stS) ?_;refine dv (Am hI Tryz.call139) ?_;refine dz ?_;refine asd ?_;refine rn ?_;refine .gh (Gh.keep [0,1,4,7,8,9,10,11] rfl) ?_;refine .seq ?_;refine .seq ?_;refine .region ?_;refine vk (Aa) ?_;refine vk (vbi) ?_;refine rn ?_;refine .gh (Gh.keep [0,1,4,7,8,9,10,11,43] rfl) ?_;refine cnf (show decide ((p:Int)-3<0)=false from dF (by omega)) ?_;refine .skip ?_
  show AW _ _ _ _ _ _
  refine .region ?_;refine vk (Aa) ?_;refine vk (Aa) ?_;refine vk (vad (m:=(p:Int)-3) (n:=1) ((p:Int)-2) ⟨by omega,by omega,by omega⟩) ?_;refine vk (vad (m:=2) (n:=(p:Int)-2) (p:Int) ⟨by omega,by omega,by omega⟩) ?_;refine asd ?_;refine RL.gh (Gh.keep [0,1,4,7,8,9,10] rfl) ?_;refine .nil ?_
  exact jr () trivial rfl
 rintro _ _
 refine .seq ?_;refine .seq ?_;refine .region ?_;refine asd ?_;refine rn ?_;refine .gh (Gh.keep [0,1,4,7,8,9,10,12] rfl) ?_;refine .block ?_;refine .loop ?_
 refine AL.ind (σ:=Nat) (m:=fun j=>3-j) (e:=fun j=>[(0,.d (.s s)),(1,.d (.i .i32 r)),(4,.d (.i .i64 0)),(7,.d (.s (Utf8.encode r))),(8,.d (.i .i64 2)),(9,.d (.i .i64 (p:Int))),(10,.d (.i .i64 0)),(12,.d (.i .i64 (j:Int)))]) (h:=fun _=>[]) (I:=fun j=>1≤j∧j≤3) ?_ 1 ⟨by omega,by omega⟩
 rintro j ⟨hj1,hj3⟩ ih
 refine .seq ?_;refine .seq ?_;refine .region ?_;refine vk (Aa) ?_;refine vk (Aa) ?_;refine vk (Ru stS) ?_;refine vk (vbi) ?_;refine rn ?_;refine .gh (Gh.keep [0,1,4,7,8,9,10,12,51] rfl) ?_
 by_cases hj:j<3
 ·refine cnt (show decide ((j:Int)<(((Utf8.encode r).size:Nat):Int))=true from dT (by rw [hes];omega)) ?_
  refine .skip ?_
  show AW _ _ _ _ _ _
  obtain ⟨xj,hA,hB⟩:∃ xj,(F9 s)[p-j]?=some xj∧(F9 (Utf8.encode r))[2-j]?=some xj:=by
   have:j=1∨j=2:=by omega
   rw [he]
   rcases this with rfl|rfl
   ·exact ⟨x1,hp1,rfl⟩
   ·exact ⟨x0,hp0,rfl⟩
  have hp2:2≤p:=by rcases hc with ⟨_,q⟩|⟨_,q,_⟩<;>omega
  refine .seq ?_;refine .block ?_;refine .seq ?_;refine .drawn 11 Bb (by kernel_rfl) ?_;refine dv (Aa) ?_;refine dv (Aa) ?_;refine dv (Aa) ?_;refine dv (vsu (m:=(p:Int)) (n:=(j:Int)) (((p-j:Nat)):Int) ⟨by omega,by omega,by omega⟩) ?_;refine dv (NM (p-j) xj rfl hA stS) ?_;refine dv (Aa) ?_;refine dv (Aa) ?_;refine dv (Aa) ?_;refine dv (vsu (m:=2) (n:=(j:Int)) (((2-j:Nat)):Int) ⟨by omega,by omega,by omega⟩) ?_;refine dv (NM (2-j) xj rfl hB stS) ?_;refine dv (vbi) ?_;refine dz ?_;refine rn ?_;refine .gh (Gh.keep [0,1,4,7,8,9,10,12,64] rfl) ?_;refine cnf (ntf (dT (show (xj:Int)=xj from rfl))) ?_;refine .skip ?_
  show AW _ _ _ _ _ _
  refine .region ?_;refine vk (Aa) ?_;refine vk (vad (m:=(j:Int)) (n:=1) ((j+1:Nat):Int) ⟨by omega,by omega,by omega⟩) ?_;refine asd ?_;refine .nil ?_;refine AL.gh (Gh.keep [0,1,4,7,8,9,10,12] rfl) ?_
  exact ih (j+1) ⟨by omega,by omega⟩ (by omega)
 have hp2:2≤p:=by rcases hc with ⟨_,q⟩|⟨_,q,_⟩<;>omega
 refine cnf (show decide ((j:Int)<(((Utf8.encode r).size:Nat):Int))=false from dF (by rw [hes];omega)) ?_;refine .exit ?_
 show AW _ _ _ _ _ _
 refine .seq ?_;refine .seq ?_;refine .region ?_;refine vk (Aa) ?_;refine vk (Aa) ?_;refine vk (vsu (m:=(p:Int)) (n:=2) ((p:Int)-2) ⟨by omega,by omega,by omega⟩) ?_;refine asd ?_;refine rn ?_;refine .gh (Gh.keep [4] rfl) ?_;refine .ret ?_
 exact ⟨rfl,rfl⟩
theorem Nn (s:ByteArray) (r:Int) {x0 x1 x2 y2:Nat} (h0:2048≤r) (h1:r<55296) (he:F9 (Utf8.encode r)=[x0,x1,x2]) (hs:s.size≤1000) (h2:(F9 s)[2]?=some y2)
  (hc:y2≠x2) (hz:Ig (s.extract 3 s.size) x2<0):Fn Tryz.prog 85 [.s s,.i .i32 r] (.d (.i .i64 (-1))):=by
 have hes:(Utf8.encode r).size=3:=by rw [← EY,he];rfl
 have hsub:DV.i .i64 (IntKind.i64.wrap (((Utf8.encode r).size:Int)-1))=.i .i64 2:=by rw [hes];rfl
 have hv:CZ r=some true:=by
  unfold CZ
  rw [dT (show (0:Int)≤r by omega),dT h1];rfl
 have h3:3≤s.size:=by
  have:=(lS.1 h2).1
  rw [EY] at this;omega
 refine Fn.of (rs:=[.tmp 4]) (nt:=187) Tryz.func85 rfl rfl rfl (by simp) rfl ?_;refine .seq ?_;refine .region ?_;refine asd ?_;refine rn ?_;refine .gh (Gh.keep [0,1,4] rfl) ?_;refine .block ?_;refine .seq ?_;refine .region ?_;refine vk (Aa) ?_;refine vk (vbi) ?_
 have hb0:(decide (0≤r))=true:=dT (by omega)
 refine vk (VOK.lit (Aa) hb0) ?_;refine vk (Aa) ?_;refine vk (vbi) ?_;refine vk (An) ?_;refine asd ?_;refine rn ?_;refine .gh (Gh.keep [0,1,4,160] rfl) ?_;refine cnf (show decide (r<128)=false from dF (by omega)) ?_;refine .seq ?_;refine .region ?_;refine vk (Aa) ?_;refine vk (vbi) ?_;refine asd ?_;refine rn ?_;refine .gh (Gh.keep [0,1,4,171] rfl) ?_;refine cnf (show decide (r=65533)=false from dF (by omega)) ?_;refine .seq ?_;refine .region ?_;refine vk (Aa) ?_;refine vk (Am (FK hv) Tryz.call140) ?_;refine vk (vnt) ?_;refine asd ?_;refine rn ?_;refine .gh (Gh.keep [0,1,4,183] rfl) ?_;refine DF ?_;refine .scope ?_;refine .seq ?_;refine .region ?_;refine vk (Aa) ?_;refine vk (Vn (by kernel_rfl) stS) ?_;refine asd ?_;refine rn ?_;refine .gh (Gh.keep [0,1,4,7] rfl) ?_;refine .seq ?_;refine .region ?_;refine vk (Aa) ?_;refine vk (Ru stS) ?_;refine vk (Qv (.i .i64 2) ⟨trivial,hsub⟩) ?_;refine asd ?_;refine rn ?_;refine .gh (Gh.keep [0,1,4,7,8] rfl) ?_;refine .seq ?_;refine .region ?_;refine vk (Aa) ?_;refine asd ?_;refine rn ?_;refine .gh (Gh.keep [0,1,4,7,8,9] rfl) ?_;refine .seq ?_;refine .region ?_;refine asd ?_;refine rn ?_;refine .gh (Gh.keep [0,1,4,7,8,9,10] rfl) ?_;refine .seq ?_;refine .block ?_
 refine .loop (.round ?_)
 refine .seq ?_;refine .seq ?_;refine .region ?_;refine vk (Aa) ?_;refine vk (Aa) ?_;refine vk (Ru stS) ?_;refine vk (vbi) ?_;refine rn ?_;refine .gh (Gh.keep [0,1,4,7,8,9,10,26] rfl) ?_;refine cnt (show decide ((2:Int)<((s.size:Nat):Int))=true from dT (by omega)) ?_;refine .skip ?_
 show AW _ _ _ _ _ _
 refine .block ?_;refine .scope ?_;refine .seq ?_;refine .seq ?_;refine .drawn 7 Bb (by kernel_rfl) ?_;refine dv (Aa) ?_;refine dv (Aa) ?_;refine dv (NM 2 y2 rfl h2 stS) ?_;refine dv (Aa) ?_;refine dv (Aa) ?_;refine dv (NM 2 x2 rfl (by rw [he];rfl) stS) ?_;refine dv (vbi) ?_;refine dz ?_;refine rn ?_;refine .gh (Gh.keep [0,1,4,7,8,9,10,33] rfl) ?_
 have hI:=JF (s.extract 3 s.size) x2
 refine cnt (ntt (dF (show ¬(y2:Int)=x2 by omega))) ?_;refine .seq ?_;refine .drawn 8 Bb (by kernel_rfl) ?_;refine dv (Aa) ?_;refine dv (Aa) ?_;refine dv (vad 3 ⟨rfl,by decide,by decide⟩) ?_;refine dv (Vk 3 ⟨rfl,h3⟩ stS) ?_;refine dv (Aa) ?_;refine dv (Aa) ?_;refine dv (NM 2 x2 rfl (by rw [he];rfl) stS) ?_;refine dv (Am hI Tryz.call139) ?_;refine dz ?_;refine asd ?_;refine rn ?_;refine .gh (Gh.keep [0,1,4,7,8,9,10,11] rfl) ?_;refine .seq ?_;refine .seq ?_;refine .region ?_;refine vk (Aa) ?_;refine vk (vbi) ?_;refine rn ?_;refine .gh (Gh.keep [0,1,4,7,8,9,10,11,43] rfl) ?_;refine cnt (show decide (Ig (s.extract 3 s.size) x2<0)=true from dT hz) ?_;refine .seq ?_;refine .region ?_;refine asd ?_;refine rn ?_;refine .gh (Gh.keep [4] rfl) ?_;refine .ret ?_
 exact ⟨rfl,rfl⟩
def T4 (s:ByteArray) (r:Int) : List Nat→Option Nat→Option Int
 | [x0,x1,x2],some y2=>if y2=x2 then (if 3≤s.size∧(F9 s)[1]?=some x1∧(F9 s)[0]?=some x0 then some 0 else none)
  else if Ig (s.extract 3 s.size) x2<0 then some (-1)
  else if (F9 s)[(Ig (s.extract 3 s.size) x2).toNat+2]?=some x1∧(F9 s)[(Ig (s.extract 3 s.size) x2).toNat+1]?=some x0∧(Ig (s.extract 3 s.size) x2).toNat+3<s.size then some (Ig (s.extract 3 s.size) x2+1) else none
 | _,_=>none
def P2 (s:ByteArray) (r:Int) : Option Int :=
 if s.size≤1000 then (if 0≤r∧r<128 then some (Ig s r) else if 2048≤r∧r<55296 then T4 s r (F9 (Utf8.encode r)) (F9 s)[2]? else none) else none
theorem R1 {s:ByteArray} {r z:Int} (h:P2 s r=some z) : Fn Tryz.prog 85 [.s s,.i .i32 r] (.d (.i .i64 z)):=by
 unfold P2 at h
 by_cases hs:s.size≤1000
 rotate_left
 ·rw [if_neg hs] at h;cases h
 rw [if_pos hs] at h
 by_cases h1:0≤r∧r<128
 ·rw [if_pos h1] at h
  cases h
  exact No s r h1.1 h1.2
 rw [if_neg h1] at h
 by_cases h2:2048≤r∧r<55296
 rotate_left
 ·rw [if_neg h2] at h;cases h
 rw [if_pos h2] at h
 generalize he:F9 (Utf8.encode r)=e at h
 generalize hy:(F9 s)[2]?=y at h
 unfold T4 at h
 split at h
 ·rename_i x0 x1 x2 y2
  split at h
  ·rename_i q
   split at h
   ·rename_i q2
    cases h
    exact Ka s r (p:=2) h2.1 h2.2 he hs hy (.inl ⟨q,rfl⟩) q2.2.1 q2.2.2 (by omega)
   ·cases h
  ·rename_i q
   split at h
   ·rename_i q2
    cases h
    exact Nn s r h2.1 h2.2 he hs hy q q2
   ·rename_i q2
    split at h
    ·rename_i q3
     cases h
     have e1:(((Ig (s.extract 3 s.size) x2).toNat+3:Nat):Int)-2=Ig (s.extract 3 s.size) x2+1:=by omega
     rw [← e1]
     exact Ka s r (p:=(Ig (s.extract 3 s.size) x2).toNat+3) h2.1 h2.2 he hs hy (.inr ⟨q,by omega,by omega⟩) q3.1 q3.2.1 q3.2.2
    ·cases h
 ·cases h
def GY (s:ByteArray) (r:Int) : Option Bool:=(P2 s r).map fun z=>decide (0≤z)
theorem KO {s:ByteArray} {r:Int} {b:Bool} (h:GY s r=some b) : Fn Tryz.prog 42 [.s s,.i .i32 r] (.d (.b b)):=by
 unfold GY at h
 rcases hz:P2 s r with _|z
 ·rw [hz] at h;cases h
 rw [hz] at h
 cases h
 refine Fn.of (rs:=[.tmp 4]) (nt:=9) Tryz.func42 rfl rfl rfl (by simp) rfl ?_;refine .seq ?_;refine .region ?_;refine asd ?_;refine rn ?_;refine .seq ?_;refine .region ?_;refine vk (Aa) ?_;refine vk (Aa) ?_;refine vk (Am (R1 hz) Tryz.call85) ?_;refine vk (vbi) ?_;refine asd ?_;refine rn ?_;refine .ret ?_
 exact ⟨rfl,rfl⟩
def txA : ByteArray:=⟨#[226,141,180,44,226,141,170,226,134,145,226,134,147,226,140,189,226,138,150,226,141,137,47,226,140,191,92,226,141,128]⟩
example : GY txA 8854=some true:=by kernel_rfl
example : GY txA 9076=some true:=by kernel_rfl
example : GY txA 92=some true:=by kernel_rfl
end Go.FL
namespace Go.FL
open Go Go.Proofs
abbrev CA : Type:=FW (Arr×Arr×Int) (Arr×Int)
abbrev DB (f:CA) : Prop:=f.OK Tryz.prog (fun x=>[.ag [.sl (Is x.1.shape),.sl (Its x.1.items)],.ag [.sl (Is x.2.1.shape),.sl (Its x.2.1.items)],.i .i64 x.2.2]) (fun r=>.tup [.d (.ag [.sl (Is r.1.shape),.sl (Its r.1.items)]),.d (.i .i64 r.2)])
def BG (a0:Arr) : Option ((List Int)×Int):=(if 1<((List.length a0.shape:Nat) : Int) then (some ([],4)) else ((Fr a0).bind fun x1=>(if x1.2=true then (some (x1.1,0)) else (some ([],3)))))
theorem DA {a0:Arr} {r:(List Int)×Int} (h:BG a0=some r) :
  Fn Tryz.prog 35 [.ag [.sl (Is a0.shape),.sl (Its a0.items)]] (.tup [.d (.sl (Is r.1)),.d (.i .i64 r.2)]):=by
 unfold BG at h
 refine Fn.of (rs:=[.tmp 2,.tmp 3]) (nt:=18) Tryz.func35 rfl rfl rfl (by simp) rfl ?_;refine .sr ?_;refine vk (vbx) ?_;refine asn ?_;refine ar [1,2,3] ?_;refine .seq ?_;refine .sr ?_;refine vk (vfa Ai) ?_;refine vk (Ah Ax) ?_;refine vk (AR (Ad _) (A0 _) AS) ?_;refine vk (vbi) ?_;refine rk [1,2,3,9] ?_
 rcases brc h with ⟨hc,h⟩|⟨hc,h⟩
 ·refine cnt (dT hc) ?_
  refine .sr ?_;refine asn ?_;refine ar [1,2,3] ?_;refine .gh (Gh.nlD (t:=2) rfl) ?_;refine .ret ?_
  cases h
  exact ⟨by decide,rfl,rfl,rfl⟩
 refine cnf (dF hc) ?_;refine .skip ?_
 show AW _ _ _ _ _ _
 refine .sr ?_;refine vk (AH Ac Ab) ?_
 obtain ⟨x1,g1,h⟩:=bnd h
 refine vk (VOK.tupd (vs:=[.sl (Is x1.1),.b x1.2]) (Am (NW g1) Tryz.call73)) ?_;refine vk (Aa) ?_;refine vk (vex) ?_;refine vk (vex) ?_;refine asd ?_;refine ar [2,3,4,5] ?_;refine .seq ?_;refine .sr ?_;refine vk (Aa) ?_;refine vk (vnt) ?_;refine rk [2,3,4,16] ?_
 rcases brc h with ⟨hc,h⟩|⟨hc,h⟩
 ·refine cnf (ntf hc) ?_
  refine .skip ?_
  show AW _ _ _ _ _ _
  refine .sr ?_;refine vk (Aa) ?_;refine asd ?_;refine ar [2,3] ?_;refine .ret ?_
  cases h
  exact ⟨by decide,rfl,rfl,rfl⟩
 refine cnt (ntt (bf hc)) ?_;refine .sr ?_;refine asn ?_;refine ar [2,3,4] ?_;refine .gh (Gh.nlD (t:=2) rfl) ?_;refine .ret ?_
 cases h
 exact ⟨by decide,rfl,rfl,rfl⟩
def Dz (a0:Arr) (a1:Arr) : Option ((List Int)×Arr×Int):=((BG a0).bind fun x1=>(jn ((if ((List.length x1.1:Nat) : Int)=((List.length a1.shape:Nat) : Int) then (some (x1.1,a1,0)) else (some ([],(Arr.mk [] []),5)))) fun K0=>(if x1.2=0 then (if ((decide (((List.length a1.shape:Nat) : Int)=0))&&(decide (8<((List.length x1.1:Nat) : Int))))=true then (some ([],(Arr.mk [] []),4)) else (if ((List.length a1.shape:Nat) : Int)=0 then none else (K0))) else (some ([],(Arr.mk [] []),x1.2)))))
theorem GZ {a0:Arr} {a1:Arr} {r:(List Int)×Arr×Int} (h:Dz a0 a1=some r) :
  Fn Tryz.prog 74 [.ag [.sl (Is a0.shape),.sl (Its a0.items)],.ag [.sl (Is a1.shape),.sl (Its a1.items)]] (.tup [.d (.sl (Is r.1)),.d (.ag [.sl (Is r.2.1.shape),.sl (Its r.2.1.items)]),.d (.i .i64 r.2.2)]):=by
 unfold Dz at h
 refine Fn.ofA (rs:=[.tmp 4,.cell 5 27,.tmp 6]) (nt:=49) Tryz.func74 rfl rfl rfl (by simp) rfl ?_;refine .sr ?_;refine vk (vbx) ?_;refine vk (vbn) ?_;refine RL.gh2 (Gh.nbb (t:=3) rfl) ?_;refine asn ?_;refine vk (van (Aj As) Aw) ?_;refine ar [2,3,4,5,6] ?_;refine .sr ?_;refine vk (AH Ac Ab) ?_
 obtain ⟨x1,g1,h⟩:=bnd h
 refine vk (VOK.tupd (vs:=[.sl (Is x1.1),.i .i64 x1.2]) (Am (DA g1) Tryz.call35)) ?_;refine vk (Aa) ?_;refine vk (vex) ?_;refine vk (vex) ?_;refine asd ?_;refine ar [3,4,5,6,7,8] ?_
 obtain ⟨K0,hK0,h⟩:=AQ h
 refine AW.mj (σ:=Unit) (fun p=>K0=some r) (fun p=>[(3,.bp 0 0),(4,.nl),(5,.nb [.sl (Is []),.sl (Its [])]),(6,.d (.i .i64 0)),(7,.d (.sl (Is x1.1)))]) (fun p=>[HO.box [.d (.sl (Is a1.shape)),.d (.sl (Its a1.items))]]) ?_ ?_
 ·skip
  refine .block ?_;refine .sr ?_;refine vk (Aa) ?_;refine vk (vbi) ?_;refine ar [3,4,5,6,7,8,14] ?_
  rcases brc h with ⟨hc,h⟩|⟨hc,h⟩
  ·refine cnf (ntf (dT hc)) ?_
   refine .seq ?_;refine AW.mr (σ:=Unit) (fun _=>True) (fun _=>[(3,.bp 0 0),(4,.nl),(5,.nb [.sl (Is []),.sl (Its [])]),(6,.d (.i .i64 0)),(7,.d (.sl (Is x1.1))),(19,.d (.b ((decide (((List.length a1.shape:Nat):Int)=0))&&(decide (8<((List.length x1.1:Nat):Int))))))]) (fun _=>[HO.box [.d (.sl (Is a1.shape)),.d (.sl (Its a1.items))]]) ?_ ?_
   ·skip
    refine .region ?_;refine vk (DU Ai) ?_;refine vk (Kr (cs:=[.d (.sl (Is a1.shape)),.d (.sl (Its a1.items))]) (c:=.sl (Is a1.shape)) rfl rfl Ax) ?_;refine vk (AR (Ad _) (A0 _) AS) ?_;refine vk (vbi) ?_
    by_cases hc:((List.length a1.shape:Nat):Int)=0
    ·have hb0:(decide (((List.length a1.shape:Nat):Int)=0))=true:=(dT hc)
     refine vk (VOK.lit (Aa) hb0) ?_;refine vk (Aa) ?_;refine vk (AR (Ad _) (A0 _) AS) ?_;refine vk (vbi) ?_;refine vk (An) ?_;refine asd ?_;refine RL.gk [3,4,5,6,7,19] ?_;refine .nil ?_
     exact jr () trivial (by simp only [hb0];rfl) (by (try simp only [hb0]);rfl)
    have hb0:(decide (((List.length a1.shape:Nat):Int)=0))=false:=(dF hc)
    refine vk (VOK.lit (Aa) hb0) ?_;refine gf ?_;refine gf ?_;refine gf ?_;refine vk (An) ?_;refine asd ?_;refine RL.gk [3,4,5,6,7,19] ?_;refine .nil ?_
    exact jr () trivial (by simp only [hb0];rfl) (by (try simp only [hb0]);rfl)
   rintro _ _
   rcases brc h with ⟨hc,h⟩|⟨hc,h⟩
   ·refine cnt hc ?_
    refine .sr ?_;refine vk (vbd Bl As Aw) ?_;refine asn ?_
    refine stn ?_ Ab (by decide)
    refine ar [3,4,5,6,7] ?_;refine .gh (Gh.nlD (t:=4) rfl) ?_;refine .ret ?_
    cases h
    exact ⟨_,_,_,rfl,⟨_,⟨.inr rfl,Ac,Ab,p2⟩,rfl⟩,rfl,rfl⟩
   refine cnf (bf hc) ?_;refine .sr ?_;refine vk (DU Ai) ?_;refine vk (Kr (cs:=[.d (.sl (Is a1.shape)),.d (.sl (Its a1.items))]) (c:=.sl (Is a1.shape)) rfl rfl Ax) ?_;refine vk (AR (Ad _) (A0 _) AS) ?_;refine vk (vbi) ?_;refine ar [3,4,5,6,7,30] ?_
   rcases brc h with ⟨hc,h⟩|⟨hc,h⟩
   ·refine cnt (dT hc) ?_
    refine .region ?_;refine vk ((G5 (Cy [1]) BL).deep) ?_;refine vk (Aa) ?_;refine vk (AR (Ad _) (A0 _) AS) ?_
    exact nomatch h
   refine cnf (dF hc) ?_;refine .gk [3,4,5,6,7] ?_;refine .skip ?_
   exact jr () h
  refine cnt (ntt (dF hc)) ?_;refine .sr ?_;refine vk (vbd Bl As Aw) ?_;refine vk (Aa) ?_;refine asn ?_
  refine stn ?_ Ab (by decide)
  refine ar [3,4,5,6,7] ?_;refine .gh (Gh.nlD (t:=4) rfl) ?_;refine .ret ?_
  cases h
  exact ⟨_,_,_,rfl,⟨_,⟨.inr rfl,Ac,Ab,p2⟩,rfl⟩,rfl,rfl⟩
 rintro _ h
 subst hK0
 refine .seq ?_;refine .sr ?_;refine vk (Aa) ?_;refine vk (AR (Ad _) (A0 _) AS) ?_;refine vk (DU Ai) ?_;refine vk (Kr (cs:=[.d (.sl (Is a1.shape)),.d (.sl (Its a1.items))]) (c:=.sl (Is a1.shape)) rfl rfl Ax) ?_;refine vk (AR (Ad _) (A0 _) AS) ?_;refine vk (vbi) ?_;refine rk [3,4,5,6,7,45] ?_
 rcases brc h with ⟨hc,h⟩|⟨hc,h⟩
 ·refine cnf (ntf (dT hc)) ?_
  refine .skip ?_
  show AW _ _ _ _ _ _
  refine .seq ?_;refine .drawnF 2 [1] [(4,.d (.sl (Is x1.1)))] [HO.box [.d (.sl (Is a1.shape)),.d (.sl (Its a1.items))]] Bb (by kernel_rfl) rfl ?_;refine dv (Aa) ?_;refine dv (GW (cs:=[.d (.sl (Is a1.shape)),.d (.sl (Its a1.items))]) (ds:=[.sl (Is a1.shape),.sl (Its a1.items)]) rfl Ac Ab) ?_;refine dz ?_
  refine ⟨?_,?_,?_⟩
  ·intro k hk
   simp only [List.mem_cons,List.not_mem_nil,or_false] at hk
   subst hk
   exact ⟨_,_,_,rfl,rfl,rfl,rfl,rfl,rfl,(GW (cs:=[.d (.sl (Is a1.shape)),.d (.sl (Its a1.items))]) (ds:=[.sl (Is a1.shape),.sl (Its a1.items)]) rfl Ac Ab)⟩
  ·intro om e hom hge
   cases hom
   exact Um rfl ((hge 47 (fun k hk v hv=>by
     simp only [List.mem_cons,List.not_mem_nil,or_false] at hk
     subst hk;exact (by decide:¬(some 48=some 47)) (congrArg (Option.map Prod.fst) hv))).trans rfl) rfl ((congrArg Al (hge 4 (fun k hk v hv=>by
     simp only [List.mem_cons,List.not_mem_nil,or_false] at hk
     subst hk;exact (by decide:¬(some 48=some 4)) (congrArg (Option.map Prod.fst) hv)))).trans rfl) rfl ⟨rfl,rfl⟩
  refine stn ?_ Ab (by decide)
  refine ar [4,5,6] ?_;refine .ret ?_
  cases h
  exact ⟨_,_,_,rfl,⟨_,⟨.inr rfl,Ac,Ab,p2⟩,rfl⟩,rfl,rfl⟩
 refine cnt (ntt (dF hc)) ?_;refine .sr ?_;refine vk (vbd Bl As Aw) ?_;refine asn ?_
 refine stn ?_ Ab (by decide)
 refine ar [3,4,5,6,7] ?_;refine .gh (Gh.nlD (t:=4) rfl) ?_;refine .ret ?_
 cases h
 exact ⟨_,_,_,rfl,⟨_,⟨.inr rfl,Ac,Ab,p2⟩,rfl⟩,rfl,rfl⟩
def Eh (a0:(List Int)) (c0:Int) (c1:(List Int)) : Option (Int):=((Cj c1 a0).bind fun x1=>(some ((w64 (c0+x1)))))
theorem Kl {a0:(List Int)} {c0:Int} {c1:(List Int)} {r:Int} (h:Eh a0 c0 c1=some r) :
  Fn Tryz.prog 78 [.sl (Is a0),.ptr [.i .i64 c0],.ptr [.sl (Is c1)]] (.d (.i .i64 r)):=by
 unfold Eh at h
 refine Fn.o1 4 10 Tryz.func78 ?_;refine .sr ?_;refine ar [0,1,2,4] ?_;refine .seq ?_;refine .drawn 5 Bb (by kernel_rfl) ?_;refine dv (Ah Ap) ?_;refine dv (Ah Ax) ?_;refine dv (Aa) ?_
 obtain ⟨x1,g1,h⟩:=bnd h
 refine dv (Am (Dr g1) Tryz.call79) ?_;refine dv (vbi) ?_;refine dz ?_;refine ar [4] ?_;refine .ret ?_
 cases h
 exact ⟨rfl,rfl⟩
def BV (x1:(List Int)×Arr×Int) (x3:(List Int)) (K0:(List Int)→Int→Option (Arr×Int)) : Nat→(List Int)→Int→Int→Option (Arr×Int)
 | 0,_,_,_=>none
 | k+1,s6,s7,s8=>(if s7<((List.length x1.1:Nat):Int) then (jn (fun (z9:(List Int)) (z10:Int)=>(BV x1 x3 K0 k z9 (w64 (s7+1)) z10)) fun K2=>((rd? x1.1 s7).bind fun x11=>((rd? x1.2.1.shape s7).bind fun x12=>(if 0≤x11 then ((rd? x3 s7).bind fun x13=>((rd? s6 s7).bind fun x14=>(K2 (List.set s6 (Int.toNat s7) (w64 (x12-(if x12<x11 then x12 else x11)))) (w64 (s8+(w64 (x13 * (if x12<x11 then x12 else x11)))))))) else ((rd? s6 s7).bind fun x15=>(K2 (List.set s6 (Int.toNat s7) (if (w64 (x12+(if x11<(IntKind.wrap .i64 (0-x12)) then (IntKind.wrap .i64 (0-x12)) else x11)))<0 then 0 else (w64 (x12+(if x11<(IntKind.wrap .i64 (0-x12)) then (IntKind.wrap .i64 (0-x12)) else x11))))) s8)))))) else (K0 s6 s8))
def EI (a0:Arr) (a1:Arr) : Option (Arr×Int):=((Dz a0 a1).bind fun x1=>(if x1.2.2=0 then ((D4 (0≤((List.length x1.1:Nat) : Int)∧((List.length x1.1:Nat) : Int)≤17592186044416)).bind fun x2=>((Bj x1.2.1.shape).bind fun x3=>(jn (fun (z4:(List Int)) (z5:Int)=>((BC x1.2.1 z4 (⟨.fn 78 [] [.ptr [.i .i64 z5],.ptr [.sl (Is x3)]],fun x=>Eh x z5 x3⟩ : Bv)).bind fun x16=>(some (x16.1,x16.2)))) fun K0=>(BV x1 x3 K0 AK (List.replicate (Int.toNat ((List.length x1.1:Nat) : Int)) (0:Int)) 0 0)))) else (some ((Arr.mk [] []),x1.2.2))))
theorem LK {a0:Arr} {a1:Arr} {r:Arr×Int} (h:EI a0 a1=some r) :
  Fn Tryz.prog 37 [.ag [.sl (Is a0.shape),.sl (Its a0.items)],.ag [.sl (Is a1.shape),.sl (Its a1.items)]] (.tup [.d (.ag [.sl (Is r.1.shape),.sl (Its r.1.items)]),.d (.i .i64 r.2)]):=by
 unfold EI at h
 refine Fn.ofC (rs:=[.cell 4 27,.tmp 5]) (nt:=80) Tryz.func37 rfl rfl rfl (by simp) rfl ?_;refine .sr ?_;refine vk (vbx) ?_;refine vk (vbn) ?_;refine vk (van (Aj As) Aw) ?_;refine ar [2,3,4,5] ?_;refine .sr ?_;refine vk (AH Ac Ab) ?_;refine vk (Fs Ac Ab) ?_
 obtain ⟨x1,g1,h⟩:=bnd h
 refine vk (VOK.tupd (vs:=[.sl (Is x1.1),.ag [.sl (Is x1.2.1.shape),.sl (Its x1.2.1.items)],.i .i64 x1.2.2]) (Am (GZ g1) Tryz.call74)) ?_;refine vk (Aa) ?_;refine vk (vex) ?_;refine vk (vex) ?_;refine vk (vex) ?_;refine asd ?_
 refine stn ?_ Ab (by decide)
 refine ar [3,4,5,6,7] ?_;refine .seq ?_;refine .sr ?_;refine vk (Aa) ?_;refine vk (vbi) ?_;refine rk [3,4,5,6,7,22] ?_
 rcases brc h with ⟨hc,h⟩|⟨hc,h⟩
 ·refine cnf (ntf (dT hc)) ?_
  refine .skip ?_
  show AW _ _ _ _ _ _
  refine .sr ?_;refine vk (Aa) ?_;refine vk (AR (Ad _) (A0 _) AS) ?_
  obtain ⟨x2,g2,h⟩:=bnd h
  have ghx2:=CJ g2
  refine mk' (F:=Is) (x0:=0) (zl:=((List.length x1.1:Nat):Int)) (Int.toNat ((List.length x1.1:Nat):Int)) Fi (by omega) (by omega) ?_ BL (by decide)
  refine aso ?_;refine rk [3,4,5,6,8] ?_;refine .sr ?_
  refine al ?_ (Aj Uw) (fun w I μ=>SW w I μ)
  refine stb (cs:=[.d (.i .i64 0)]) (c:=.d (.i .i64 0)) rfl rfl ?_ B4
  refine rk [3,4,5,6,8,9] ?_;refine .seq ?_;refine .gh (Gh.nbp (t:=3) rfl) ?_;refine .region ?_;refine vk (vfa Ai) ?_;refine vk (Ah Ax) ?_
  obtain ⟨x3,g3,h⟩:=bnd h
  refine vk (Am (Bz g3) Tryz.call75) ?_;refine vk (van (Aj IP) Mc) ?_
  refine QB ?_ H7
  refine RL.gh (Gh.nbp (t:=10) rfl) ?_;refine rk [3,4,5,6,8,9,10] ?_;refine .seq ?_;refine .sr ?_;refine vk (Aa) ?_;refine vk (AR (Ad _) (A0 _) AS) ?_;refine vk (Aa) ?_;refine rk [3,4,5,8,9,10,31,32,33] ?_
  obtain ⟨K0,hK0,h⟩:=AQ h
  refine AW.mr (σ:=(List Int)×Int) (fun p=>K0 p.1 p.2=some r) (fun p=>[(3,.d (.ptr [.sl (Is x1.2.1.shape),.sl (Its x1.2.1.items)])),(4,.nb [.sl (Is []),.sl (Its [])]),(5,.d (.i .i64 0)),(8,.own 3 (Is p.1)),(9,.bp 0 0),(10,.d (.ptr [.sl (Is x3)]))]) (fun p=>[HO.box [.d (.i .i64 p.2)]]) ?_ ?_
  ·skip
   refine .block ?_
   refine .loop (.gk [3,4,5,8,9,10,31,32,33] ?_)
   refine AL.ind (σ:=Nat×(List Int)×Int×Int) (m:=fun p=>p.1) (e:=fun p=>[(3,.d (.ptr [.sl (Is x1.2.1.shape),.sl (Its x1.2.1.items)])),(4,.nb [.sl (Is []),.sl (Its [])]),(5,.d (.i .i64 0)),(8,.own 3 (Is p.2.1)),(9,.bp 0 0),(10,.d (.ptr [.sl (Is x3)])),(31,.d (.sl (Is x1.1))),(32,.d (.i .i64 ((List.length x1.1:Nat):Int))),(33,.d (.i .i64 p.2.2.1))]) (h:=fun p=>[HO.box [.d (.i .i64 p.2.2.2)]]) (I:=fun p=>BV x1 x3 K0 p.1 p.2.1 p.2.2.1 p.2.2.2=some r) ?_ (AK,(List.replicate (Int.toNat ((List.length x1.1:Nat):Int)) (0:Int)),0,0) h
   rintro ⟨k,s6,s7,s8⟩ h ih
   dsimp only at h ih ⊢
   rcases k with _|k
   ·rw [BV] at h;cases h
   rw [BV] at h
   refine .sr ?_;refine vk (vbi) ?_;refine rk [3,4,5,8,9,10,31,32,33,34] ?_;refine .seq ?_
   rcases brc h with ⟨hc,h⟩|⟨hc,h⟩
   ·refine cnt (dT hc) ?_
    refine .skip ?_
    show AW _ _ _ _ _ _
    obtain ⟨K2,hK2,h⟩:=AQ h
    refine AW.mj (σ:=(List Int)×Int) (fun p=>K2 p.1 p.2=some r) (fun p=>[(3,.d (.ptr [.sl (Is x1.2.1.shape),.sl (Its x1.2.1.items)])),(4,.nb [.sl (Is []),.sl (Its [])]),(5,.d (.i .i64 0)),(8,.own 3 (Is p.1)),(9,.bp 0 0),(10,.d (.ptr [.sl (Is x3)])),(31,.d (.sl (Is x1.1))),(32,.d (.i .i64 ((List.length x1.1:Nat):Int))),(33,.d (.i .i64 s7))]) (fun p=>[HO.box [.d (.i .i64 p.2)]]) ?_ ?_
    ·skip
     refine .block ?_;refine .sr ?_;refine vk (Aa) ?_
     obtain ⟨x11,g11,h⟩:=bnd h
     obtain ⟨n11,p011,q11⟩:=Ag g11
     refine vk (vix n11 p011 (AT q11) rfl AJ) ?_;refine vk (Ah Ap) ?_;refine asd ?_;refine ar [3,4,5,8,9,10,11,12,31,32,33] ?_;refine .sr ?_;refine vk (vfa Ai) ?_;refine vk (Ah Ax) ?_;refine vk (Aa) ?_
     obtain ⟨x12,g12,h⟩:=bnd h
     obtain ⟨n12,p012,q12⟩:=Ag g12
     refine vk (vix n12 p012 (AT q12) rfl AJ) ?_;refine vk (Ah Ap) ?_;refine ar [3,4,5,8,9,10,11,12,13,31,32,33] ?_;refine .sr ?_;refine vk (Aa) ?_;refine vk (vbi) ?_;refine rk [3,4,5,8,9,10,11,12,13,31,32,33,44] ?_
     rcases brc h with ⟨hc,h⟩|⟨hc,h⟩
     ·refine cnt (dT hc) ?_
      refine .seq ?_;refine .drawn 10 Bb (by kernel_rfl) ?_;refine dv (Kr (cs:=[.d (.i .i64 s8)]) (c:=.i .i64 s8) rfl rfl Ap) ?_;refine dv (Ah Ax) ?_;refine dv (Aa) ?_
      obtain ⟨x13,g13,h⟩:=bnd h
      obtain ⟨n13,p013,q13⟩:=Ag g13
      refine dv (vix n13 p013 (AT q13) rfl AJ) ?_;refine dv (Ah Ap) ?_;refine dv (Aa) ?_;refine dv (Aa) ?_;refine dv (vmn) ?_;refine dv (vbi) ?_;refine dv (vbi) ?_;refine dz ?_
      refine stb (cs:=[.d (.i .i64 s8)]) (c:=.d (.i .i64 s8)) rfl rfl ?_ B4
      refine rk [3,4,5,8,9,10,11,12,13,31,32,33] ?_;refine .region ?_;refine mvo ?_;refine vk (Aa) ?_;refine vk (Aa) ?_;refine vk (Aa) ?_;refine vk (Aa) ?_;refine vk (vmn) ?_;refine vk (vbi) ?_
      obtain ⟨x14,g14,h⟩:=bnd h
      obtain ⟨n14,p014,q14⟩:=Ag g14
      refine ixr (off:=0) (len:=(Is s6).length) n14 p014 (by rw [Ad];exact (lS.1 q14).1) ?_ AJ (by decide)
      refine IQ (F:=Is) (D:=fun x=>.i .i64 x) Ej (us:=s6) (n:=n14) (m:=Int.toNat s7) (x:=(w64 (x12-(if x12<x11 then x12 else x11)))) (by rw [p014];rfl) ⟨_,by rw [Nat.zero_add];exact AT q14,rfl⟩ ?_ B4
      refine RL.gk [3,4,5,8,9,10,11,12,13,31,32,33,56,57,58,59,60,61] ?_;refine RL.gk [3,4,5,8,9,10,31,32,33] ?_;refine .nil ?_
      exact jr ((List.set s6 (Int.toNat s7) (w64 (x12-(if x12<x11 then x12 else x11)))),(w64 (s8+(w64 (x13 * (if x12<x11 then x12 else x11)))))) h
     refine cnf (dF hc) ?_;refine .region ?_;refine mvo ?_;refine vk (Aa) ?_;refine vk (Aa) ?_;refine vk (Aa) ?_;refine vk (Aa) ?_;refine vk (vng) ?_;refine vk (vmx) ?_;refine vk (vbi) ?_;refine vk (vmx) ?_
     obtain ⟨x15,g15,h⟩:=bnd h
     obtain ⟨n15,p015,q15⟩:=Ag g15
     refine ixr (off:=0) (len:=(Is s6).length) n15 p015 (by rw [Ad];exact (lS.1 q15).1) ?_ AJ (by decide)
     refine IQ (F:=Is) (D:=fun x=>.i .i64 x) Ej (us:=s6) (n:=n15) (m:=Int.toNat s7) (x:=(if (w64 (x12+(if x11<(IntKind.wrap .i64 (0-x12)) then (IntKind.wrap .i64 (0-x12)) else x11)))<0 then 0 else (w64 (x12+(if x11<(IntKind.wrap .i64 (0-x12)) then (IntKind.wrap .i64 (0-x12)) else x11))))) (by rw [p015];rfl) ⟨_,by rw [Nat.zero_add];exact AT q15,rfl⟩ ?_ B4
     refine RL.gk [3,4,5,8,9,10,11,12,13,31,32,33,44,64,65,66,67,68,69,70,71] ?_;refine RL.gk [3,4,5,8,9,10,31,32,33] ?_;refine .nil ?_
     exact jr ((List.set s6 (Int.toNat s7) (if (w64 (x12+(if x11<(IntKind.wrap .i64 (0-x12)) then (IntKind.wrap .i64 (0-x12)) else x11)))<0 then 0 else (w64 (x12+(if x11<(IntKind.wrap .i64 (0-x12)) then (IntKind.wrap .i64 (0-x12)) else x11))))),s8) h
    rintro ⟨z9,z10⟩ h
    try dsimp only at h ⊢
    subst hK2
    refine .region ?_;refine vk (vbi) ?_;refine vk (Aa) ?_;refine .nil ?_;refine AL.gk [3,4,5,8,9,10,31,32,33] ?_
    exact ih (k,z9,(w64 (s7+1)),z10) h (Nat.lt_succ_self _)
   refine cnf (dF hc) ?_;refine .gk [3,4,5,8,9,10] ?_;refine .exit ?_
   exact jr (s6,s8) h
  rintro ⟨z4,z5⟩ h
  try dsimp only at h ⊢
  subst hK0
  show AW _ _ _ _ _ _
  refine .sr ?_;refine vk (AH Ac Ab) ?_;refine fz (p:=.t 8) ?_;refine vk (Aa) ?_;refine RL.gh2 (Gh2.pop (H0:=[]) (cs:=[.i .i64 z5]) rfl rfl rfl rfl) ?_;refine vk (Qw) ?_
  obtain ⟨x16,g16,h⟩:=bnd h
  refine vk (VOK.tupd (vs:=[.ag [.sl (Is x16.1.shape),.sl (Its x16.1.items)],.i .i64 x16.2]) (Am (Ep (DY Tryz.call78 (fun _ _ h=>Kl h)) g16) Tryz.call76)) ?_;refine vk (vex) ?_;refine vk (vex) ?_
  refine stn ?_ Ab (by decide)
  refine ar [4,5] ?_;refine .ret ?_
  cases h
  exact ⟨_,_,⟨.inr rfl,Ac,Ab,p2⟩,rfl,rfl⟩
 refine cnt (ntt (dF hc)) ?_;refine .sr ?_;refine vk (vbd Bl As Aw) ?_;refine vk (Aa) ?_
 refine stn ?_ Ab (by decide)
 refine ar [3,4,5,6] ?_;refine .ret ?_
 cases h
 exact ⟨_,_,⟨.inr rfl,Ac,Ab,p2⟩,rfl,rfl⟩
def C0 (x2:Int×Bool) (x4:Int) (K0:(List Int)→Option (Arr×Int)) : Nat→(List Int)→Int→Option (Arr×Int)
 | 0,_,_=>none
 | k+1,s7,s8=>(if s8<((List.length (List.replicate (Int.toNat x4) (0:Int)):Nat):Int) then ((D4 (x4≠0)).bind fun x9=>((D4 (x4≠0)).bind fun x10=>((D4 (x4≠0)).bind fun x11=>((rd? s7 s8).bind fun x12=>(C0 x2 x4 K0 k (List.set s7 (Int.toNat s8) (Int.tmod (w64 ((Int.tmod (w64 (s8+(Int.tmod x2.1 x4))) x4)+x4)) x4)) (w64 (s8+1))))))) else (K0 s7))
def EM (a0:Arr) (a1:Arr) (a2:Int) : Option (Arr×Int):=((B5 a0.shape).bind fun x1=>(if x1.1=1 then ((Hp a0).bind fun x2=>(if x2.2=true then (if ((List.length a1.shape:Nat) : Int)=0 then ((GP a1).bind fun x3=>(some (x3,0))) else ((rd? a1.shape a2).bind fun x4=>((D4 (0≤x4∧x4≤17592186044416)).bind fun x5=>(jn (fun (z6:(List Int))=>((C5 a1 a2 z6).bind fun x13=>(some (x13.1,x13.2)))) fun K0=>(C0 x2 x4 K0 AK (List.replicate (Int.toNat x4) (0:Int)) 0))))) else (some ((Arr.mk [] []),3)))) else (some ((Arr.mk [] []),5))))
theorem Gn {a0:Arr} {a1:Arr} {a2:Int} {r:Arr×Int} (h:EM a0 a1 a2=some r) :
  Fn Tryz.prog 82 [.ag [.sl (Is a0.shape),.sl (Its a0.items)],.ag [.sl (Is a1.shape),.sl (Its a1.items)],.i .i64 a2] (.tup [.d (.ag [.sl (Is r.1.shape),.sl (Its r.1.items)]),.d (.i .i64 r.2)]):=by
 unfold EM at h
 refine Fn.ofC (rs:=[.cell 6 27,.tmp 7]) (nt:=73) Tryz.func82 rfl rfl rfl (by simp) rfl ?_;refine .sr ?_;refine vk (vbx) ?_;refine vk (vbx) ?_;refine vk (van (Aj As) Aw) ?_;refine ar [2,3,4,6,7] ?_;refine .seq ?_;refine .sr ?_;refine vk (vfa Ai) ?_;refine vk (Ah Ax) ?_
 obtain ⟨x1,g1,h⟩:=bnd h
 refine vk (VOK.tupd (vs:=[.i .i64 x1.1,.i .i64 x1.2]) (Am (Cm g1) Tryz.call26)) ?_;refine vk (Aa) ?_;refine vk (vex) ?_;refine vk (vex) ?_;refine asd ?_;refine ar [2,3,4,6,7,8] ?_;refine .sr ?_;refine vk (Aa) ?_;refine vk (vbi) ?_;refine rk [2,3,4,6,7,22] ?_
 rcases brc h with ⟨hc,h⟩|⟨hc,h⟩
 ·refine cnf (ntf (dT hc)) ?_
  refine .skip ?_
  show AW _ _ _ _ _ _
  refine .sr ?_;refine vk (AH Ac Ab) ?_
  obtain ⟨x2,g2,h⟩:=bnd h
  refine vk (VOK.tupd (vs:=[.i .i64 x2.1,.b x2.2]) (Am (LG g2) Tryz.call133)) ?_;refine vk (Aa) ?_;refine vk (vex) ?_;refine vk (vex) ?_;refine asd ?_;refine ar [2,4,6,7,10,11] ?_;refine .seq ?_;refine .block ?_;refine .sr ?_;refine vk (Aa) ?_;refine vk (vnt) ?_;refine ar [2,4,6,7,10,29] ?_
  rcases brc h with ⟨hc,h⟩|⟨hc,h⟩
  ·refine cnf (ntf hc) ?_
   refine .sr ?_;refine vk (vfa Ai) ?_;refine vk (Ah Ax) ?_;refine vk (AR (Ad _) (A0 _) AS) ?_;refine vk (vbi) ?_;refine ar [2,4,6,7,10,33] ?_
   rcases brc h with ⟨hc,h⟩|⟨hc,h⟩
   ·refine cnt (dT hc) ?_
    refine .sr ?_;refine vk (AH Ac Ab) ?_
    obtain ⟨x3,g3,h⟩:=bnd h
    refine vk (Am (H6 g3) Tryz.call134) ?_
    refine stn ?_ Ab (by decide)
    refine ar [2,4,6,7,10] ?_;refine .ret ?_
    cases h
    exact ⟨_,_,⟨.inr rfl,Ac,Ab,p2⟩,rfl,rfl⟩
   refine cnf (dF hc) ?_;refine .skip ?_
   show AW _ _ _ _ _ _
   refine .sr ?_;refine vk (vfa Ai) ?_;refine vk (Ah Ax) ?_;refine vk (Aa) ?_
   obtain ⟨x4,g4,h⟩:=bnd h
   obtain ⟨n4,p04,q4⟩:=Ag g4
   refine vk (vix n4 p04 (AT q4) rfl AJ) ?_;refine vk (Ah Ap) ?_;refine ar [2,4,6,7,10,12] ?_;refine .sr ?_;refine vk (Aa) ?_
   obtain ⟨x5,g5,h⟩:=bnd h
   have ghx5:=CJ g5
   refine mk' (F:=Is) (x0:=0) (zl:=x4) (Int.toNat x4) Fi (by omega) (by omega) ?_ BL (by decide)
   refine aso ?_;refine rk [2,4,6,7,10,12,13] ?_;refine .seq ?_;refine .sr ?_;refine mvo ?_;refine vk (Rq (Ad _) AS) ?_;refine vk (Aa) ?_;refine rk [2,4,6,7,10,12,13,48,49] ?_
   obtain ⟨K0,hK0,h⟩:=AQ h
   refine AW.mr (σ:=(List Int)) (fun p=>K0 p=some r) (fun p=>[(2,.d (.i .i64 a2)),(4,.d (.ptr [.sl (Is a1.shape),.sl (Its a1.items)])),(6,.nb [.sl (Is []),.sl (Its [])]),(7,.d (.i .i64 0)),(13,.own 3 (Is p))]) (fun p=>[]) ?_ ?_
   ·skip
    refine .block ?_
    refine .loop (.gk [2,4,6,7,10,12,13,48,49] ?_)
    refine AL.ind (σ:=Nat×(List Int)×Int) (m:=fun p=>p.1) (e:=fun p=>[(2,.d (.i .i64 a2)),(4,.d (.ptr [.sl (Is a1.shape),.sl (Its a1.items)])),(6,.nb [.sl (Is []),.sl (Its [])]),(7,.d (.i .i64 0)),(10,.d (.i .i64 x2.1)),(12,.d (.i .i64 x4)),(13,.own 3 (Is p.2.1)),(48,.d (.i .i64 ((List.length (List.replicate (Int.toNat x4) (0:Int)):Nat):Int))),(49,.d (.i .i64 p.2.2))]) (h:=fun p=>[]) (I:=fun p=>C0 x2 x4 K0 p.1 p.2.1 p.2.2=some r) ?_ (AK,(List.replicate (Int.toNat x4) (0:Int)),0) h
    rintro ⟨k,s7,s8⟩ h ih
    dsimp only at h ih ⊢
    rcases k with _|k
    ·rw [C0] at h;cases h
    rw [C0] at h
    refine .sr ?_;refine vk (vbi) ?_;refine rk [2,4,6,7,10,12,13,48,49,50] ?_;refine .seq ?_
    rcases brc h with ⟨hc,h⟩|⟨hc,h⟩
    ·refine cnt (dT hc) ?_
     refine .skip ?_
     show AW _ _ _ _ _ _
     refine .seq ?_;refine .block ?_;refine .sr ?_;refine vk (Aa) ?_;refine ar [2,4,6,7,10,12,13,14,48,49] ?_;refine .region ?_;refine mvo ?_;refine vk (Aa) ?_;refine vk (Aa) ?_;refine vk (Aa) ?_;refine vk (Aa) ?_
     obtain ⟨x9,g9,h⟩:=bnd h
     refine vk (Ht (CJ g9)) ?_;refine vk (vbi) ?_;refine vk (Aa) ?_
     obtain ⟨x10,g10,h⟩:=bnd h
     refine vk (Ht (CJ g10)) ?_;refine vk (Aa) ?_;refine vk (vbi) ?_;refine vk (Aa) ?_
     obtain ⟨x11,g11,h⟩:=bnd h
     refine vk (Ht (CJ g11)) ?_
     obtain ⟨x12,g12,h⟩:=bnd h
     obtain ⟨n12,p012,q12⟩:=Ag g12
     refine ixr (off:=0) (len:=(Is s7).length) n12 p012 (by rw [Ad];exact (lS.1 q12).1) ?_ AJ (by decide)
     refine IQ (F:=Is) (D:=fun x=>.i .i64 x) Ej (us:=s7) (n:=n12) (m:=Int.toNat s8) (x:=(Int.tmod (w64 ((Int.tmod (w64 (s8+(Int.tmod x2.1 x4))) x4)+x4)) x4)) (by rw [p012];rfl) ⟨_,by rw [Nat.zero_add];exact AT q12,rfl⟩ ?_ B4
     refine RL.gk [2,4,6,7,10,12,13,14,48,49,53,54,55,56,57,58,59,60,61,62,63,64] ?_;refine .nil ?_
     show AW _ _ _ _ _ _
     refine .gk [2,4,6,7,10,12,13,48,49] ?_;refine .region ?_;refine vk (vbi) ?_;refine vk (Aa) ?_;refine .nil ?_;refine AL.gk [2,4,6,7,10,12,13,48,49] ?_
     exact ih (k,(List.set s7 (Int.toNat s8) (Int.tmod (w64 ((Int.tmod (w64 (s8+(Int.tmod x2.1 x4))) x4)+x4)) x4)),(w64 (s8+1))) h (Nat.lt_succ_self _)
    refine cnf (dF hc) ?_;refine .gk [2,4,6,7,13] ?_;refine .exit ?_
    exact jr (s7) h
   rintro z6 h
   try dsimp only at h ⊢
   subst hK0
   show AW _ _ _ _ _ _
   refine .sr ?_;refine vk (AH Ac Ab) ?_;refine vk (Aa) ?_;refine fz (p:=.t 13) ?_;refine vk (Aa) ?_
   obtain ⟨x13,g13,h⟩:=bnd h
   refine vk (VOK.tupd (vs:=[.ag [.sl (Is x13.1.shape),.sl (Its x13.1.items)],.i .i64 x13.2]) (Am (Et g13) Tryz.call135)) ?_;refine vk (vex) ?_;refine vk (vex) ?_
   refine stn ?_ Ab (by decide)
   refine ar [6,7] ?_;refine .ret ?_
   cases h
   exact ⟨_,_,⟨.inr rfl,Ac,Ab,p2⟩,rfl,rfl⟩
  refine cnt (ntt (bf hc)) ?_;refine .sr ?_;refine vk (vbd Bl As Aw) ?_
  refine stn ?_ Ab (by decide)
  refine ar [2,4,6,7,10] ?_;refine .ret ?_
  cases h
  exact ⟨_,_,⟨.inr rfl,Ac,Ab,p2⟩,rfl,rfl⟩
 refine cnt (ntt (dF hc)) ?_;refine .sr ?_;refine vk (vbd Bl As Aw) ?_
 refine stn ?_ Ab (by decide)
 refine ar [2,3,4,6,7] ?_;refine .ret ?_
 cases h
 exact ⟨_,_,⟨.inr rfl,Ac,Ab,p2⟩,rfl,rfl⟩
theorem My {xs:List Arr} {f:BH} {p:Arr→Bool} (hf:∀ x∈xs,f.g x=some (p x)) (K:Int→Option Int) (hl:xs.length≤17592186044416) : ∀ (n i k:Nat) (s:Int),n=xs.length-i→i≤xs.length→n<k →
  Au xs f K k s (i:Int)=match (xs.drop i).findIdx? p with|some j=>some (((i+j:Nat)):Int)|none=>K s
 | n,i,0,s,_,_,h=>by omega
 | n,i,k+1,s,hn,hi,hk=>by
  rw [Au]
  by_cases hlt:i<xs.length
  ·rw [if_pos (by omega),CM hlt,oB,hf _ (List.getElem_mem _),oB,lC hlt,List.findIdx?_cons]
   by_cases hp:p xs[i]=true
   ·rw [if_pos hp,if_pos hp];rfl
   ·rw [if_neg hp,if_neg hp,CS (by omega),My hf K hl (n-1) (i+1) k s (by omega) (by omega) (by omega)]
    cases (xs.drop (i+1)).findIdx? p with
    | none=>rfl
    | some j=>simp only [Option.map_some];congr 1;omega
  ·rw [if_neg (by omega),List.drop_of_length_le (by omega)];rfl
theorem LJ {xs:List Arr} {f:BH} {p:Arr→Bool} (hf:∀ x∈xs,f.g x=some (p x)) (hl:xs.length≤17592186044416) : Az xs f=some (xs.any p):=by
 unfold Az A4
 rw [CW]
 have:=My hf (fun _=>some (-1)) hl xs.length 0 AK 0 rfl (Nat.zero_le _) (Ch (by omega))
 rw [List.drop_zero,show ((0:Nat):Int)=0 from rfl] at this
 rw [this]
 cases h:xs.findIdx? p with
 | none =>
  rw [oB]
  have h1:=List.findIdx?_eq_none_iff.1 h
  have e:xs.any p=false:=List.any_eq_false.2 fun x hx=>by rw [h1 x hx];decide
  rw [e];rfl
 | some j =>
  rw [oB]
  congr 1
  have h2:xs.any p=true:=by
   have:=List.findIdx?_isSome (xs:=xs) (p:=p)
   rw [h] at this
   exact this.symm
  rw [h2]
  exact dT (by omega)
theorem RW {e:Int×RT×Int} (he:e.1=0∨e.1=1) {l:List Arr} (hl:l.length≤17592186044416) (ho:∀ a∈l,okAr a) : Dw e l=some (!l.any fun a=>!decide (Bc a)):=by
 have hc:=LJ (xs:=l) (f:=(⟨.fn 72 [] [],fun x=>CO x⟩:BH)) (p:=fun a=>!decide (Bc a)) (fun a ha=>by
  show CO a=_
  unfold CO;rw [FC (ho a ha)];rfl) hl
 unfold Dw
 rcases he with h|h
 ·rw [if_pos h,hc];rfl
 ·rw [if_neg (by omega),if_pos h,hc];rfl
theorem TP {p:Prop} [Decidable p] (h:p) : D4 p=some ():=if_pos h
def vec (xs:List Itm) : Arr:=.mk [(xs.length:Int)] xs
def VR (xs:List Itm) : Prop:=xs≠[]∧xs.length≤4096∧(∀ x∈xs,okI x)∧Bc (vec xs)
theorem Iq {n:Int} {xs:List Itm} : A6 (.mk [n] xs)=false:=by unfold A6;rfl
theorem SZ {xs ys:List Itm} (h:ys.Sublist xs) : cIs ys≤cIs xs:=by
 induction h with
 | slnil=>exact Nat.le_refl _
 | cons a _ ih=>simp only [cIs];omega
 | cons_cons a _ ih=>simp only [cIs];omega
theorem Sa {xs ys:List Itm} (h:∀ x∈ys,x∈xs) : dIs ys≤dIs xs:=Uk fun x hx=>Jq (h x hx)
theorem VR.ok {xs:List Itm} (h:VR xs) : okAr (vec xs):=by
 obtain ⟨_,h2,h3,_⟩:=h
 rw [BN]
 refine ⟨fun z hz=>?_,by show [(xs.length:Int)].length≤_;simp,by show xs.length≤_;omega,h3⟩
 have hz':z∈[(xs.length:Int)]:=hz
 rw [List.mem_singleton] at hz'
 omega
theorem VR.items {xs:List Itm} (h:VR xs) : ∀ x∈xs,okI x∧Cc x:=fun x hx=>Hy h.ok h.2.2.2 (x:=x) hx
theorem VR.sz {xs:List Itm} (h:VR xs) : szP (vec xs).shape=((xs.length:Int),0):=HI h.2.1
theorem VR.pos {xs:List Itm} (h:VR xs) : 0<xs.length:=List.length_pos_iff.2 h.1
theorem R8 {n:Nat} (h:n≤4096) : ∀ z∈[(n:Int)],-9223372036854775808≤z∧z≤9223372036854775807:=fun z hz=>by
 rw [List.mem_singleton] at hz;omega
theorem VR.make {xs:List Itm} (h:VR xs) : AE [(xs.length:Int)] xs=some (vec xs,0):=by
 obtain ⟨h1,h2,h3,h4⟩:=h
 have hs:=HI h2
 have hp:=List.length_pos_iff.2 h1
 have hc:¬(xs=[]∨¬∀ x∈xs,Cc x):=fun q=>q.elim h1 fun q=>q fun x hx=>(VR.items ⟨h1,h2,h3,h4⟩ x hx).2
 rw [HM (R8 h2) (by simp) (by omega) h3,hs,if_neg (fun q=>q rfl),if_neg hc,Gu rfl (by omega),if_pos (show Bc (Arr.mk [(xs.length:Int)] xs) from h4)];rfl
theorem PG {xs:List Itm} {a:Arr} (hx:∀ x∈xs,okI x) (hl:xs.length≤1466015503701) (h:AE [(xs.length:Int)] xs=some (a,0)) : VR xs∧a=vec xs:=by
 rw [HM (fun z hz=>by rw [List.mem_singleton] at hz;omega) (by simp) hl hx] at h
 by_cases h0:(szP [(xs.length:Int)]).2=0
 rotate_left
 ·rw [if_pos h0] at h
  exact absurd (congrArg Prod.snd (oI h)) h0
 have hd:=(SE h0).1 _ (List.mem_singleton.2 rfl)
 have hs:=HI (n:=xs.length) (by omega)
 rw [if_neg (fun q=>q h0)] at h
 by_cases hc:xs=[]∨¬∀ x∈xs,Cc x
 ·rw [if_pos hc] at h
  exact absurd (congrArg Prod.snd (oI h)) (by show ¬(22:Int)=0;decide)
 rw [if_neg hc,hs] at h
 have h1:xs≠[]:=fun e=>hc (.inl e)
 have hp:=List.length_pos_iff.2 h1
 rw [Gu rfl (by omega)] at h
 by_cases hr:Bc (.mk [(xs.length:Int)] xs)
 ·rw [if_pos hr] at h
  exact ⟨⟨h1,by omega,hx,hr⟩,(congrArg Prod.fst (oI h)).symm⟩
 ·rw [if_neg hr] at h
  exact absurd (congrArg Prod.snd (oI h)) (by show ¬(8:Int)=0;decide)
theorem VR.of {xs:List Itm} (h1:xs≠[]) (h2:xs.length≤4096) (h3:∀ x∈xs,okI x∧rI x=true) (hd:dIs xs≤15) (hc:xs.length+cIs xs≤16384) : VR xs:=by
 refine ⟨h1,h2,fun x hx=>(h3 x hx).1,?_,?_,?_⟩
 ·rw [Ic]
  show (decide ((szP [(xs.length:Int)]).2=0)&&(decide ((xs.length:Int)=if (szP [(xs.length:Int)]).1<1 then 1 else (szP [(xs.length:Int)]).1)&&rIs xs))=true
  have hp:=List.length_pos_iff.2 h1
  rw [HI h2,EO.2 fun x hx=>(h3 x hx).2,if_neg (by show ¬(xs.length:Int)<1;omega)]
  simp
 ·rw [Ie]
  show (if A6 (.mk [(xs.length:Int)] xs)=true then 0 else 1+dIs xs)≤16
  rw [Iq,if_neg (by decide)];omega
 ·rw [Hq];exact hc
theorem VR.parts {xs:List Itm} (h:VR xs) : dIs xs≤15∧xs.length+cIs xs≤16384:=by
 obtain ⟨_,_,_,_,h2,h3⟩:=h
 rw [Ie] at h2
 have h2':(if A6 (.mk [(xs.length:Int)] xs)=true then 0 else 1+dIs xs)≤16:=h2
 rw [Iq,if_neg (by decide)] at h2'
 rw [Hq] at h3
 have h3':xs.length+cIs xs≤16384:=h3
 omega
theorem VR.sub {xs ys:List Itm} (h:VR xs) (hs:ys.Sublist xs) (hn:ys≠[]) : VR ys:=by
 obtain ⟨p1,p2⟩:=h.parts
 have hl:=hs.length_le
 have hc:=SZ hs
 have h2:=h.2.1
 exact .of hn (by omega) (fun x hx=>⟨(h.items x (hs.subset hx)).1,(h.items x (hs.subset hx)).2.1⟩) (nT (Sa fun x hx=>hs.subset hx) p1) (by omega)
theorem VR.zero {xs:List Itm} (h:VR xs) : AE [0] [tyI (xs.headD default)]=some (.mk [0] [tyI (xs.headD default)],0)∧okAr (.mk [0] [tyI (xs.headD default)])∧Bc (.mk [0] [tyI (xs.headD default)]):=by
 obtain ⟨p1,p2⟩:=h.parts
 obtain ⟨x,ys,rfl⟩:=List.exists_cons_of_ne_nil h.1
 obtain ⟨ox,rx⟩:=h.items x (by simp)
 obtain ⟨t1,t2,t3,t4,t5,t6⟩:=MS ox rx.1
 have hI:okI (tyI x)∧Cc (tyI x):=⟨t6,t1,t2▸rx.2.1,t3▸rx.2.2⟩
 have hsz:szP [0]=(0,0):=rfl
 have hmk:Cw (szP [0]).1 [tyI x]=[tyI x]:=by
  rw [hsz];show [tyI (tyI x)]=_;rw [t4]
 have hd:dI x≤15:=nT (Jq (List.mem_cons_self ..)) p1
 have hcx:1+cI x≤16384:=by
  have:cIs (x::ys)=cI x+cIs ys:=rfl
  rw [this,List.length_cons] at p2;omega
 have hR:Bc (.mk [0] [tyI x]):=by
  refine ⟨?_,?_,?_⟩
  ·rw [Ic,DH,Dv,hsz,EO.2 (by simpa using t1)];rfl
  ·rw [Ie,Iq,if_neg (by decide),Dv,dIs,dIs,Nat.max_zero,t2];omega
  ·rw [Hq,Dv];simp only [cIs,List.length_singleton];omega
 have hc:¬([tyI x]=[]∨¬∀ y∈[tyI x],Cc y):=fun q=>q.elim (fun e=>by cases e) fun q=>q fun y hy=>by rw [List.mem_singleton] at hy;subst hy;exact hI.2
 refine ⟨?_,?_,hR⟩
 ·show AE [0] [tyI x]=some (.mk [0] [tyI x],0)
  rw [HM (fun z hz=>by rw [List.mem_singleton] at hz;omega) (by simp) (by simp) (fun y hy=>by rw [List.mem_singleton] at hy;subst hy;exact hI.1),hmk,if_neg (by rw [hsz];exact fun q=>q rfl),if_neg hc,if_pos hR]
 ·show okAr (.mk [0] [tyI x])
  rw [BN]
  exact ⟨fun z hz=>by rw [DH,List.mem_singleton] at hz;omega,by simp [DH],by simp [Dv],fun y hy=>by rw [Dv,List.mem_singleton] at hy;subst hy;exact hI.1⟩
theorem TE {z:Int} (hz:FZ z) : okAr (.mk [] [Fz z])∧Bc (.mk [] [Fz z]):=⟨Uv (MT hz),(MR (Fw hz) rfl (by show (1:Int)≠3;decide)).1⟩
theorem Nb {z:Int} (h:FZ z) : Fr (.mk [] [Fz z])=some ([z],true):=by
 obtain ⟨on,rn⟩:=TE h
 unfold Fr Ss
 rw [FC on,oB,dT rn,if_pos rfl,if_pos (by simp [DH]),Nv on,DH,PI,if_neg (by rintro (q|q);exact absurd q (by decide);exact q rn),Dv,oB,if_pos (by simp)]
 have:=JE (l:=[z]) (s:=[]) (by simpa using h) (by simp)
 rw [List.map_singleton] at this
 rw [this];rfl
theorem NV {z:Int} (h:FZ z) : BG (.mk [] [Fz z])=some ([z],0):=by
 unfold BG
 rw [DH,if_neg (by simp),Nb h];rfl
theorem OY {z n:Int} {xs:List Itm} (h:FZ z) : Dz (.mk [] [Fz z]) (.mk [n] xs)=some ([z],.mk [n] xs,0):=by
 unfold Dz
 rw [NV h,oB,CW,if_pos rfl,DH]
 rfl
theorem Qs {n:Nat} {xs:List Itm} {z:Nat} (hL:n≤4096) (hz:z≤1000) (K:List Int→Int→Option (Arr×Int)) (k:Nat) :
  BV ([(z:Int)],.mk [(n:Int)] xs,0) [1] K (k+2) [0] 0 0=K [((n-min z n:Nat):Int)] ((min z n:Nat):Int):=by
 rw [BV,if_pos (by simp),CW,Js,oB,DH,Js,oB,if_pos (by omega),Js,oB,Js,oB]
 have e:(if (n:Int)<(z:Int) then (n:Int) else (z:Int))=((min z n:Nat):Int):=by
  by_cases q:(n:Int)<(z:Int)
  ·rw [if_pos q];omega
  ·rw [if_neg q];omega
 have a1:w64 (1 * ((min z n:Nat):Int))=((min z n:Nat):Int):=by rw [Int.one_mul];exact BP (by omega) (by omega)
 have a2:w64 (0+((min z n:Nat):Int))=((min z n:Nat):Int):=by rw [Int.zero_add];exact BP (by omega) (by omega)
 have a3:w64 ((n:Int)-((min z n:Nat):Int))=((n-min z n:Nat):Int):=by rw [BP (by omega) (by omega)];omega
 have a4:w64 (0+1)=1:=BP (by omega) (by omega)
 rw [e,a1,a2,a3,a4]
 show BV _ [1] K (k+1) _ 1 _=_
 rw [BV,if_neg (by simp)]
 rfl
theorem Ol {n:Nat} {xs:List Itm} {z:Nat} (hL:n≤4096) (hz:z≤1000) : EI (.mk [] [Fz z]) (.mk [(n:Int)] xs) =
  BC (.mk [(n:Int)] xs) [((n-min z n:Nat):Int)] ⟨.fn 78 [] [.ptr [.i .i64 ((min z n:Nat):Int)],.ptr [.sl (Is [1])]],fun x=>Eh x ((min z n:Nat):Int) [1]⟩:=by
 have hF:AK=999999999999998+2:=rfl
 unfold EI
 rw [OY ⟨by omega,by omega⟩,oB,if_pos rfl,TP (by simp),oB,GE (by simp [DH]),oB,CW,hF]
 have hst:(HV (Arr.mk [(n:Int)] xs).shape).1=[1]:=rfl
 simp only [hst]
 have:=Qs (n:=n) (xs:=xs) (z:=z) hL hz (fun z4 z5=>(BC (.mk [(n:Int)] xs) z4 ⟨.fn 78 [] [.ptr [.i .i64 z5],.ptr [.sl (Is [1])]],fun x=>Eh x z5 [1]⟩).bind fun x16=>some (x16.1,x16.2)) 999999999999998
 refine Eq.trans this ?_
 generalize BC _ _ _=m
 cases m<;>rfl
theorem Vh {p:Itm} (o:okAr (.mk [0] [p])) (r:Bc (.mk [0] [p])) {z:Nat} (hz:z≤1000) : EI (.mk [] [Fz z]) (.mk [0] [p])=some (.mk [0] [tyI p],0):=by
 have:=Ol (n:=0) (xs:=[p]) (z:=z) (by omega) hz
 rw [show ((0:Nat):Int)=0 from rfl] at this
 rw [this]
 have hm:0-min z 0=0:=by omega
 rw [hm]
 refine (OQ (Lo o r) (by simp) rfl).trans ?_
 exact QK o r rfl (fun z hz=>by rw [List.mem_singleton] at hz;omega) (by simp) rfl (.inr rfl)
def CH (rc_ref03_Copy:Arr→Option (Arr)) (a0:Itm) (K0:Int→Bool→(List Nat)→(List Nat)→Int→(List Arr)→Option (Itm)) : Nat→Int→Int→Bool→(List Nat)→(List Nat)→Int→(List Arr)→Option (Itm)
 | 0,_,_,_,_,_,_,_=>none
 | k+1,s8,s9,s10,s11,s12,s13,s14=>(if s8<((List.length a0.box:Nat):Int) then ((rd? a0.box s8).bind fun x15=>((rc_ref03_Copy x15).bind fun x16=>((ap? 2932031007402 s14 [x16]).bind fun x17=>(CH rc_ref03_Copy a0 K0 k (w64 (s8+1)) s9 s10 s11 s12 s13 x17)))) else (K0 s9 s10 s11 s12 s13 s14))
def Fp (rc_ref03_Copy:Arr→Option (Arr)) (a0:Itm) : Option (Itm):=((Im a0.num).bind fun x1=>(jn (fun (z2:Int) (z3:Bool) (z4:(List Nat)) (z5:(List Nat)) (z6:Int) (z7:(List Arr))=>(some ((Itm.mk z2 (z3,z4,z5) z6 z7)))) fun K0=>(CH rc_ref03_Copy a0 K0 AK 0 a0.kind x1.1 x1.2.1 x1.2.2 a0.char [])))
theorem IJ {rc_ref03_Copy:Arr→Option (Arr)} (orc_ref03_Copy:∀ x0 r,rc_ref03_Copy x0=some r→Fn Tryz.prog 16 [.ag [.sl (Is x0.shape),.sl (Its x0.items)]] (.d (.ag [.sl (Is r.shape),.sl (Its r.items)]))) {a0:Itm} {r:Itm} (h:Fp rc_ref03_Copy a0=some r) :
  Fn Tryz.prog 49 [.ag [.i .u8 a0.kind,.b a0.num.1,.sl (L a0.num.2.1),.sl (L a0.num.2.2),.i .i32 a0.char,.sl (Ars a0.box)]] (.d (.ag [.i .u8 r.kind,.b r.num.1,.sl (L r.num.2.1),.sl (L r.num.2.2),.i .i32 r.char,.sl (Ars r.box)])):=by
 unfold Fp at h
 refine Fn.ofC (rs:=[.cell 2 58]) (nt:=32) Tryz.func49 rfl rfl rfl (by simp) rfl ?_;refine .sr ?_;refine vk (vbx) ?_;refine vk (van (Aj CU) Dm) ?_;refine rk [1,2] ?_;refine .seq ?_;refine .drawn 9 Bb (by kernel_rfl) ?_;refine dv (vfa Ds) ?_;refine dv (Ah BX) ?_;refine dv (vfa Eg) ?_;refine dv (Ah Ek) ?_;refine dv (vfa B9) ?_;refine dv (AH Jx HW) ?_
 obtain ⟨x1,g1,h⟩:=bnd h
 refine dv (Am (LZ g1) Tryz.call90) ?_;refine dv (RJ JH CU (fun w I μ=>Pf w I μ)) ?_;refine dv (van (Aj CU) Dm) ?_;refine dz ?_
 refine SG ?_ AG (by decide)
 refine rk [1,2,3] ?_;refine .seq ?_;refine .sr ?_;refine ar [1,2,3,4] ?_
 obtain ⟨K0,hK0,h⟩:=AQ h
 refine AW.mr (σ:=Int×Bool×(List Nat)×(List Nat)×Int×(List Arr)) (fun p=>K0 p.1 p.2.1 p.2.2.1 p.2.2.2.1 p.2.2.2.2.1 p.2.2.2.2.2=some r) (fun p=>[(2,.nb [.i .u8 0,.b false,.sl (L []),.sl (L []),.i .i32 0,.sl (Ars [])]),(3,.bp 0 0)]) (fun p=>[HO.box [.d (.i .u8 p.1),.d (.b p.2.1),.d (.sl (L p.2.2.1)),.d (.sl (L p.2.2.2.1)),.d (.i .i32 p.2.2.2.2.1),.own 27 (Ars p.2.2.2.2.2)]]) ?_ ?_
 ·skip
  refine .block ?_;refine .gh (Gh.nlOwnC (id:=0) (off:=5) 27 (by rw [Sk];decide)) ?_
  refine .loop (.gk [1,2,3,4] ?_)
  refine AL.ind (σ:=Nat×Int×Int×Bool×(List Nat)×(List Nat)×Int×(List Arr)) (m:=fun p=>p.1) (e:=fun p=>[(1,.d (.ptr [.i .u8 a0.kind,.b a0.num.1,.sl (L a0.num.2.1),.sl (L a0.num.2.2),.i .i32 a0.char,.sl (Ars a0.box)])),(2,.nb [.i .u8 0,.b false,.sl (L []),.sl (L []),.i .i32 0,.sl (Ars [])]),(3,.bp 0 0),(4,.d (.i .i64 p.2.1))]) (h:=fun p=>[HO.box [.d (.i .u8 p.2.2.1),.d (.b p.2.2.2.1),.d (.sl (L p.2.2.2.2.1)),.d (.sl (L p.2.2.2.2.2.1)),.d (.i .i32 p.2.2.2.2.2.2.1),.own 27 (Ars p.2.2.2.2.2.2.2)]]) (I:=fun p=>CH rc_ref03_Copy a0 K0 p.1 p.2.1 p.2.2.1 p.2.2.2.1 p.2.2.2.2.1 p.2.2.2.2.2.1 p.2.2.2.2.2.2.1 p.2.2.2.2.2.2.2=some r) ?_ (AK,0,a0.kind,x1.1,x1.2.1,x1.2.2,a0.char,[]) h
  rintro ⟨k,s8,s9,s10,s11,s12,s13,s14⟩ h ih
  dsimp only at h ih ⊢
  rcases k with _|k
  ·rw [CH] at h;cases h
  rw [CH] at h
  refine .seq ?_;refine .sr ?_;refine vk (Aa) ?_;refine vk (vfa Br) ?_;refine vk (Ah C9) ?_;refine vk (AR (Bw _) (EG _) EC) ?_;refine vk (vbi) ?_;refine rk [1,2,3,4,17] ?_
  rcases brc h with ⟨hc,h⟩|⟨hc,h⟩
  ·refine cnt (dT hc) ?_
   refine .skip ?_
   show AW _ _ _ _ _ _
   refine .seq ?_;refine .block ?_;refine .drawn 9 Bb (by kernel_rfl) ?_;refine dv (DU Br) ?_;refine dv (Mn (cs:=[.d (.i .u8 s9),.d (.b s10),.d (.sl (L s11)),.d (.sl (L s12)),.d (.i .i32 s13),.own 27 (Ars s14)]) rfl rfl C9) ?_;refine dv (vfa Br) ?_;refine dv (Ah C9) ?_;refine dv (Aa) ?_
   obtain ⟨x15,g15,h⟩:=bnd h
   obtain ⟨n15,p015,q15⟩:=Ag g15
   refine dv (vix n15 p015 (Fv q15) rfl Fm) ?_;refine dv (AH Ac Ab) ?_
   obtain ⟨x16,g16,h⟩:=bnd h
   refine dv (Am (orc_ref03_Copy _ _ g16) Tryz.call16) ?_;refine dv ((Em (KA x16) (Hf [x16]) IH).deep) ?_;refine dz ?_
   obtain ⟨x17,g17,h⟩:=bnd h
   refine Ou Pm g17 rfl rfl Si ?_ M6 Bw IH
   refine RL.gk [1,2,3,4,17,20,22,23,24,25,26,27,28,29] ?_;refine vk (DU Br) ?_
   refine IN (cs:=[.d (.i .u8 s9),.d (.b s10),.d (.sl (L s11)),.d (.sl (L s12)),.d (.i .i32 s13),.un]) (c:=.un) rfl rfl ?_ Rg
   refine .nil ?_
   show AW _ _ _ _ _ _
   refine .gk [1,2,3,4] ?_;refine .region ?_;refine vk (Aa) ?_;refine vk (vbi) ?_;refine asd ?_;refine .nil ?_;refine AL.gk [1,2,3,4] ?_
   exact ih (k,(w64 (s8+1)),s9,s10,s11,s12,s13,x17) h (Nat.lt_succ_self _)
  refine cnf (dF hc) ?_;refine .gk [2,3] ?_;refine .exit ?_
  exact jr (s9,s10,s11,s12,s13,s14) h
 rintro ⟨z2,z3,z4,z5,z6,z7⟩ h
 try dsimp only at h ⊢
 subst hK0
 show AW _ _ _ _ _ _
 refine .sr ?_;refine fz (p:=.c 0 5) ?_;refine vk (GW (cs:=[.d (.i .u8 z2),.d (.b z3),.d (.sl (L z4)),.d (.sl (L z5)),.d (.i .i32 z6),.d (.sl (Ars z7))]) (ds:=[.i .u8 z2,.b z3,.sl (L z4),.sl (L z5),.i .i32 z6,.sl (Ars z7)]) rfl Bd AG) ?_
 refine stn ?_ AG (by decide)
 refine rk [2] ?_;refine .ret ?_
 cases h
 exact ⟨_,⟨.inr rfl,Bd,AG,p6⟩,rfl⟩
def DE (rc_ref03_Copy:Arr→Option (Arr)) (a0:Arr) (K0:(List Int)→(List Itm)→Option (Arr)) : Nat→Int→(List Int)→(List Itm)→Option (Arr)
 | 0,_,_,_=>none
 | k+1,s4,s5,s6=>(if s4<((List.length a0.items:Nat):Int) then ((rd? a0.items s4).bind fun x7=>((Fp rc_ref03_Copy x7).bind fun x8=>((ap? 1466015503701 s6 [x8]).bind fun x9=>(DE rc_ref03_Copy a0 K0 k (w64 (s4+1)) s5 x9)))) else (K0 s5 s6))
def GO (rc_ref03_Copy:Arr→Option (Arr)) (a0:Arr) : Option (Arr):=((ap? 17592186044416 [] a0.shape).bind fun x1=>(jn (fun (z2:(List Int)) (z3:(List Itm))=>(some ((Arr.mk z2 z3)))) fun K0=>(DE rc_ref03_Copy a0 K0 AK 0 x1 [])))
theorem LY {rc_ref03_Copy:Arr→Option (Arr)} (orc_ref03_Copy:∀ x0 r,rc_ref03_Copy x0=some r→Fn Tryz.prog 16 [.ag [.sl (Is x0.shape),.sl (Its x0.items)]] (.d (.ag [.sl (Is r.shape),.sl (Its r.items)]))) {a0:Arr} {r:Arr} (h:GO rc_ref03_Copy a0=some r) :
  Fn Tryz.prog 16 [.ag [.sl (Is a0.shape),.sl (Its a0.items)]] (.d (.ag [.sl (Is r.shape),.sl (Its r.items)])):=by
 unfold GO at h
 refine Fn.ofC (rs:=[.cell 2 27]) (nt:=30) Tryz.func16 rfl rfl rfl (by simp) rfl ?_;refine .sr ?_;refine vk (vbx) ?_;refine vk (van (Aj As) Aw) ?_;refine rk [1,2] ?_;refine .sr ?_
 refine al ?_ (Aj As) (fun w I μ=>KI w I μ)
 refine rk [1,2,3] ?_;refine .sr ?_;refine vk (DU Ai) ?_
 refine ldb (cs:=[.nl,.nl]) (c:=.nl) rfl rfl ?_ Ax
 refine vk (vfa Ai) ?_;refine vk (Ah Ax) ?_
 obtain ⟨x1,g1,h⟩:=bnd h
 refine Va g1 IV ?_ FU Ad BL
 refine vk (DU Ai) ?_
 refine IN (cs:=[.nl,.nl]) (c:=.nl) rfl rfl ?_ H7
 refine rk [1,2,3] ?_;refine .seq ?_;refine .sr ?_;refine ar [1,2,3,4] ?_
 obtain ⟨K0,hK0,h⟩:=AQ h
 refine AW.mr (σ:=(List Int)×(List Itm)) (fun p=>K0 p.1 p.2=some r) (fun p=>[(2,.nb [.sl (Is []),.sl (Its [])]),(3,.bp 0 0)]) (fun p=>[HO.box [.own 3 (Is p.1),.own 58 (Its p.2)]]) ?_ ?_
 ·skip
  refine .block ?_;refine .gh (Gh.nlOwnC (id:=0) (off:=1) 58 (by rw [JA];decide)) ?_
  refine .loop (.gk [1,2,3,4] ?_)
  refine AL.ind (σ:=Nat×Int×(List Int)×(List Itm)) (m:=fun p=>p.1) (e:=fun p=>[(1,.d (.ptr [.sl (Is a0.shape),.sl (Its a0.items)])),(2,.nb [.sl (Is []),.sl (Its [])]),(3,.bp 0 0),(4,.d (.i .i64 p.2.1))]) (h:=fun p=>[HO.box [.own 3 (Is p.2.2.1),.own 58 (Its p.2.2.2)]]) (I:=fun p=>DE rc_ref03_Copy a0 K0 p.1 p.2.1 p.2.2.1 p.2.2.2=some r) ?_ (AK,0,x1,[]) h
  rintro ⟨k,s4,s5,s6⟩ h ih
  dsimp only at h ih ⊢
  rcases k with _|k
  ·rw [DE] at h;cases h
  rw [DE] at h
  refine .seq ?_;refine .sr ?_;refine vk (Aa) ?_;refine vk (vfa AD) ?_;refine vk (Ah Bm) ?_;refine vk (AR (Ay _) (CD _) CC) ?_;refine vk (vbi) ?_;refine rk [1,2,3,4,15] ?_
  rcases brc h with ⟨hc,h⟩|⟨hc,h⟩
  ·refine cnt (dT hc) ?_
   refine .skip ?_
   show AW _ _ _ _ _ _
   refine .seq ?_;refine .block ?_;refine .drawn 9 Bb (by kernel_rfl) ?_;refine dv (DU AD) ?_;refine dv (Mn (cs:=[.own 3 (Is s5),.own 58 (Its s6)]) rfl rfl Bm) ?_;refine dv (vfa AD) ?_;refine dv (Ah Bm) ?_;refine dv (Aa) ?_
   obtain ⟨x7,g7,h⟩:=bnd h
   obtain ⟨n7,p07,q7⟩:=Ag g7
   refine dv (vix n7 p07 (C6 q7) rfl C3) ?_;refine dv (AH Bd AG) ?_
   obtain ⟨x8,g8,h⟩:=bnd h
   refine dv (Am (IJ orc_ref03_Copy g8) Tryz.call49) ?_;refine dv ((Em (Er x8) (Db [x8]) Cz).deep) ?_;refine dz ?_
   obtain ⟨x9,g9,h⟩:=bnd h
   refine Ou Fe g9 rfl rfl GA ?_ Eu Ay Cz
   refine RL.gk [1,2,3,4,15,18,20,21,22,23,24,25,26,27] ?_;refine vk (DU AD) ?_
   refine IN (cs:=[.own 3 (Is s5),.un]) (c:=.un) rfl rfl ?_ JG
   refine .nil ?_
   show AW _ _ _ _ _ _
   refine .gk [1,2,3,4] ?_;refine .region ?_;refine vk (Aa) ?_;refine vk (vbi) ?_;refine asd ?_;refine .nil ?_;refine AL.gk [1,2,3,4] ?_
   exact ih (k,(w64 (s4+1)),s5,x9) h (Nat.lt_succ_self _)
  refine cnf (dF hc) ?_;refine .gk [2,3] ?_;refine .exit ?_
  exact jr (s5,s6) h
 rintro ⟨z2,z3⟩ h
 try dsimp only at h ⊢
 subst hK0
 show AW _ _ _ _ _ _
 refine .sr ?_;refine fz (p:=.c 0 0) ?_;refine fz (p:=.c 0 1) ?_;refine vk (GW (cs:=[.d (.sl (Is z2)),.d (.sl (Its z3))]) (ds:=[.sl (Is z2),.sl (Its z3)]) rfl Ac Ab) ?_
 refine stn ?_ Ab (by decide)
 refine rk [2] ?_;refine .ret ?_
 cases h
 exact ⟨_,⟨.inr rfl,Ac,Ab,p2⟩,rfl⟩
def FM : Nat→Arr→Option (Arr)
 | 0,_=>none
 | k+1,a0=>GO (FM k) a0
theorem Hg : ∀ (k:Nat) (a0:Arr) (r:Arr),FM k a0=some r→Fn Tryz.prog 16 [.ag [.sl (Is a0.shape),.sl (Its a0.items)]] (.d (.ag [.sl (Is r.shape),.sl (Its r.items)]))
 | 0,_,_,h=>by cases h
 | k+1,a0,_,h=>LY (Hg k)  (show GO (FM k) a0=some _ from h)
def MB (a0:Arr) : Option (Arr):=FM (a0.size+1) a0
theorem MP {a0:Arr} {r:Arr} (h:MB a0=some r) : Fn Tryz.prog 16 [.ag [.sl (Is a0.shape),.sl (Its a0.items)]] (.d (.ag [.sl (Is r.shape),.sl (Its r.items)])):=Hg _ a0 r  h
end Go.FL
namespace Go.Proofs
open Go.RowKit Go.FL
abbrev St : Value:=.agg #[.int .u8 0,.bool false,.slice none 0 0,.slice none 0 0,.int .i32 0,.slice none 0 0]
set_option maxHeartbeats 4000000 in
set_option maxRecDepth 100000 in
theorem TD (w:World) : Calls Tryz.prog 167 #[.slice none 0 0,.int .i64 0] w fun x w'=>x=.returned (.slice none 0 0)∧w'=w:=by
 go_enter Tryz.func167,Tryz.ntmps167
 go_wp2
 go_ret
 exact ⟨rfl,rfl⟩
set_option maxHeartbeats 4000000 in
set_option maxRecDepth 100000 in
theorem Vi : Pk Tryz.prog 167 58 1466015503701:=by
 intro n w hn
 rcases Nat.eq_zero_or_pos n with h0|h0
 ·subst h0
  exact (TD w).mono fun _ _ h=>.inl h
 obtain ⟨i0,i1,i2,i3,i4,i5,i6,i7,i8⟩:=C8 Cz
 have hrz:∀ ty,(Builtin.append_ #[23,3] ty #[.slice none 0 0,.int .i64 (n:Int)]).run Tryz.prog w=.ok (.slice (some ⟨w.heap.size,0,none⟩) n (grownCap w n 0 58)) (w.drew.alloc (.cells (Builtin.zeroCells (St).cells n++Builtin.zeroCells (St).cells (grownCap w n 0 58-n)) 58)):=fun ty =>
  Lib.run_append_nil_zeros w 23 3 ty 58 i0 St .i64 .i64 i1 (by kernel_rfl) i2 i3 n h0 (by omega) (by omega) (by rw [i5];omega)
 have hg1:=grownCap_ge w n 0 58
 have hg2:=grownCap_le_maxLen w n 0 58 (by unfold maxLen;omega)
 generalize hG:grownCap w n 0 58=G at *
 have hg3:G≤9223372036854775807:=by unfold maxLen at hg2;omega
 obtain ⟨cells,hcells⟩:∃ cs:Array Value,Builtin.zeroCells (St).cells n++Builtin.zeroCells (St).cells (G-n)=cs:=⟨_,rfl⟩
 rw [hcells] at hrz
 have hsz:cells.size=G * AA Tryz.prog 58:=by
  rw [← hcells,i8,Array.size_append,size_zeroCells,size_zeroCells,i6];omega
 have h1:¬((n:Int)<0):=by omega
 have h2:(n:Int) > 0:=by omega
 have hfin:0<G∧G≤maxLen∧cells.size=G * AA Tryz.prog 58:=⟨by omega,hg2,hsz⟩
 clear hsz hcells i1 i2 i3 i4 i5 i6 i7 i8 hg2
 have HF:=Lib.hid hfin
 clear hfin
 go_enter Tryz.func167,Tryz.ntmps167
 go_wp2_with (at_builtin;refine Lib.wpList_append_run _ rfl _ _ _ _ rfl _ _ rfl rfl _ _ (hrz _) ?_)
 go_ret
 exact .inr ⟨G,HF.out.1,HF.out.2.1,cells,HF.out.2.2,rfl,rfl⟩
end Go.Proofs
namespace Go.FL
open Go Go.Proofs
def HY (xs:List (List Itm)) : List DV:=xs.map fun l=>.sl (Its l)
theorem J5 (xs:List (List Itm)) : (HY xs).length=xs.length:=by simp [HY]
theorem P1 {xs:List (List Itm)} {i:Nat} {x:List Itm} (h:xs[i]?=some x) : (HY xs)[i]?=some (.sl (Its x)):=by simp [HY,h]
theorem R3 (xs:List (List Itm)) : ∀ x∈HY xs,x.cells.length=1:=fun x hx=>by
 simp only [HY,List.mem_map] at hx
 obtain ⟨n,_,rfl⟩:=hx;rfl
theorem Pw (xs:List (List Itm)) : ∃ sz,∀ x∈HY xs,x.cells.length=sz:=⟨1,R3 xs⟩
theorem Qc (xs:List (List Itm)) : ∀ d∈HY xs,d.flat=true∧d.cells.length=1:=fun x hx=>by
 simp only [HY,List.mem_map] at hx
 obtain ⟨n,_,rfl⟩:=hx
 exact ⟨by simp [DV.flat,DV.cells,DV.leaf],rfl⟩
abbrev Qd : Int:=((1466015503701:Nat) : Int)
theorem RM : Pk Tryz.prog 167 58 1466015503701:=Vi
theorem Pn : CR Tryz.prog 163=some (23,1,24):=by kernel_rfl
theorem S3 : Cn Tryz.prog 163=some (23,1,24,.slice none 0 0):=by kernel_rfl
theorem P3 : Tryz.prog.underlying 163=some (.slice (Tryz.prog.elem 163)):=by kernel_rfl
def AY (a0:(List (List Itm))) (K0:Int→Option ((List Itm))) : Nat→Int→Int→Option ((List Itm))
 | 0,_,_=>none
 | k+1,s2,s3=>(if s3<((List.length a0:Nat):Int) then (jn (fun (z4:Int)=>(AY a0 K0 k z4 (w64 (s3+1)))) fun K2=>((rd? a0 s3).bind fun x5=>((D4 (¬((w64 (s2+((List.length x5:Nat):Int)))<0))).bind fun x6=>(K2 (w64 (s2+((List.length x5:Nat):Int))))))) else (K0 s2))
def AZ (a0:(List (List Itm))) (K3:(List Itm)→Option ((List Itm))) : Nat→(List Itm)→Int→Option ((List Itm))
 | 0,_,_=>none
 | k+1,s9,s10=>(if s10<((List.length a0:Nat):Int) then ((rd? a0 s10).bind fun x11=>((ap? 1466015503701 s9 x11).bind fun x12=>(AZ a0 K3 k x12 (w64 (s10+1))))) else (K3 s9))
def BM (a0:(List (List Itm))) : Option ((List Itm)):=(jn (fun (z1:Int)=>((D4 (0≤z1∧z1≤Qd)).bind fun x7=>(jn (fun (z8:(List Itm))=>(some (z8))) fun K3=>(AZ a0 K3 AK [] 0)))) fun K0=>(AY a0 K0 AK 0 0))
theorem D5 {a0:(List (List Itm))} {r:(List Itm)} (h:BM a0=some r) :
  Fn Tryz.prog 130 [.sl (HY a0)] (.d (.sl (Its r))):=by
 unfold BM at h
 refine Fn.o1 2 36 Tryz.func130 ?_;refine .sr ?_;refine asn ?_;refine rk [0,2] ?_;refine .sr ?_;refine ar [0,2,3] ?_;refine .seq ?_;refine .sr ?_;refine vk (Aa) ?_;refine vk (AR (J5 _) (Pw _) P3) ?_;refine vk (Aa) ?_;refine rk [0,2,3,9,10,11] ?_
 obtain ⟨K0,hK0,h⟩:=AQ h
 refine AW.mr (σ:=Int) (fun p=>K0 p=some r) (fun p=>[(0,.d (.sl (HY a0))),(2,.nl),(3,.d (.i .i64 p))]) (fun p=>[]) ?_ ?_
 ·skip
  refine .block ?_
  refine .loop (.gk [0,2,3,9,10,11] ?_)
  refine AL.ind (σ:=Nat×Int×Int) (m:=fun p=>p.1) (e:=fun p=>[(0,.d (.sl (HY a0))),(2,.nl),(3,.d (.i .i64 p.2.1)),(9,.d (.sl (HY a0))),(10,.d (.i .i64 ((List.length a0:Nat):Int))),(11,.d (.i .i64 p.2.2))]) (h:=fun p=>[]) (I:=fun p=>AY a0 K0 p.1 p.2.1 p.2.2=some r) ?_ (AK,0,0) h
  rintro ⟨k,s2,s3⟩ h ih
  dsimp only at h ih ⊢
  rcases k with _|k
  ·rw [AY] at h;cases h
  rw [AY] at h
  refine .sr ?_;refine vk (vbi) ?_;refine rk [0,2,3,9,10,11,12] ?_;refine .seq ?_
  rcases brc h with ⟨hc,h⟩|⟨hc,h⟩
  ·refine cnt (dT hc) ?_
   refine .skip ?_
   show AW _ _ _ _ _ _
   obtain ⟨K2,hK2,h⟩:=AQ h
   refine AW.mj (σ:=Int) (fun p=>K2 p=some r) (fun p=>[(0,.d (.sl (HY a0))),(2,.nl),(3,.d (.i .i64 p)),(9,.d (.sl (HY a0))),(10,.d (.i .i64 ((List.length a0:Nat):Int))),(11,.d (.i .i64 s3))]) (fun p=>[]) ?_ ?_
   ·skip
    refine .block ?_;refine .sr ?_
    obtain ⟨x5,g5,h⟩:=bnd h
    obtain ⟨n5,p05,q5⟩:=Ag g5
    refine vk (vix n5 p05 (P1 q5) rfl Pn) ?_;refine vk (Ah Bm) ?_;refine ar [0,2,3,5,9,10,11] ?_;refine .sr ?_;refine vk (Aa) ?_;refine vk (Aa) ?_;refine vk (AR (Ay _) (CD _) CC) ?_;refine vk (vbi) ?_;refine ar [0,2,3,9,10,11] ?_;refine .sr ?_;refine vk (Aa) ?_;refine vk (vbi) ?_;refine rk [0,2,3,9,10,11,20] ?_
    obtain ⟨x6,g6,h⟩:=bnd h
    have hc:=CJ g6
    refine cnf (dF hc) ?_;refine .gk [0,2,3,9,10,11] ?_;refine .skip ?_
    exact jr ((w64 (s2+((List.length x5:Nat):Int)))) h
   rintro z4 h
   try dsimp only at h ⊢
   subst hK2
   refine .region ?_;refine vk (vbi) ?_;refine vk (Aa) ?_;refine .nil ?_;refine AL.gk [0,2,3,9,10,11] ?_
   exact ih (k,z4,(w64 (s3+1))) h (Nat.lt_succ_self _)
  refine cnf (dF hc) ?_;refine .gk [0,2,3] ?_;refine .exit ?_
  exact jr (s2) h
 rintro z1 h
 try dsimp only at h ⊢
 subst hK0
 show AW _ _ _ _ _ _
 refine .sr ?_;refine vk (Aa) ?_
 obtain ⟨x7,g7,h⟩:=bnd h
 refine clR (avs:=[.nl,.d (.i .i64 z1)]) (S4 PZ RM (CJ g7)) Tryz.call167 (fun r' H' hp=>?_)
 obtain ⟨rfl,rfl⟩:=hp
 refine aso ?_;refine rk [0,2,6] ?_;refine .seq ?_;refine .sr ?_;refine vk (Aa) ?_;refine vk (AR (J5 _) (Pw _) P3) ?_;refine vk (Aa) ?_;refine rk [2,6,25,26,27] ?_
 obtain ⟨K3,hK3,h⟩:=AQ h
 refine AW.mr (σ:=(List Itm)) (fun p=>K3 p=some r) (fun p=>[(2,.nl),(6,.own 58 (Its p))]) (fun p=>[]) ?_ ?_
 ·skip
  refine .block ?_
  refine .loop (.gk [2,6,25,26,27] ?_)
  refine AL.ind (σ:=Nat×(List Itm)×Int) (m:=fun p=>p.1) (e:=fun p=>[(2,.nl),(6,.own 58 (Its p.2.1)),(25,.d (.sl (HY a0))),(26,.d (.i .i64 ((List.length a0:Nat):Int))),(27,.d (.i .i64 p.2.2))]) (h:=fun p=>[]) (I:=fun p=>AZ a0 K3 p.1 p.2.1 p.2.2=some r) ?_ (AK,[],0) h
  rintro ⟨k,s9,s10⟩ h ih
  dsimp only at h ih ⊢
  rcases k with _|k
  ·rw [AZ] at h;cases h
  rw [AZ] at h
  refine .sr ?_;refine vk (vbi) ?_;refine rk [2,6,25,26,27,28] ?_;refine .seq ?_
  rcases brc h with ⟨hc,h⟩|⟨hc,h⟩
  ·refine cnt (dT hc) ?_
   refine .skip ?_
   show AW _ _ _ _ _ _
   refine .seq ?_;refine .block ?_;refine .sr ?_
   obtain ⟨x11,g11,h⟩:=bnd h
   obtain ⟨n11,p011,q11⟩:=Ag g11
   refine vk (vix n11 p011 (P1 q11) rfl Pn) ?_;refine vk (Ah Bm) ?_;refine ar [2,6,8,25,26,27] ?_;refine .region ?_;refine mvo ?_;refine vk (Aa) ?_
   obtain ⟨x12,g12,h⟩:=bnd h
   refine M4 Fe g12 GA ?_ Eu Ay Cz
   refine aso ?_;refine .nil ?_
   show AW _ _ _ _ _ _
   refine .gk [2,6,25,26,27] ?_;refine .region ?_;refine vk (vbi) ?_;refine vk (Aa) ?_;refine .nil ?_;refine AL.gk [2,6,25,26,27] ?_
   exact ih (k,x12,(w64 (s10+1))) h (Nat.lt_succ_self _)
  refine cnf (dF hc) ?_;refine .gk [2,6] ?_;refine .exit ?_
  exact jr (s9) h
 rintro z8 h
 try dsimp only at h ⊢
 subst hK3
 show AW _ _ _ _ _ _
 refine .sr ?_;refine fz (p:=.t 6) ?_;refine vk (Aa) ?_;refine ar [2] ?_;refine .ret ?_
 cases h
 exact ⟨rfl,rfl⟩
def De (a1:(List Int)) (x2:(List Int)) (s7:Int) (K3:(List Int)→Option (Arr×Int)) : Nat→(List Int)→Int→Option (Arr×Int)
 | 0,_,_=>none
 | k+1,s11,s12=>(if s12<((List.length x2:Nat):Int) then ((rd? x2 s12).bind fun x13=>((D4 (x13≠0)).bind fun x14=>((rd? a1 s12).bind fun x15=>((D4 (x15≠0)).bind fun x16=>((rd? s11 s12).bind fun x17=>(De a1 x2 s7 K3 k (List.set s11 (Int.toNat s12) (Int.tmod (w64 (Int.tdiv s7 x13)) x15)) (w64 (s12+1)))))))) else (K3 s11))
def Dg (a0:Arr) (a1:(List Int)) (a2:Bv) (x1:Int×Int) (x2:(List Int)) (K0:(List Itm)→Option (Arr×Int)) : Nat→(List Int)→(List Itm)→Int→Option (Arr×Int)
 | 0,_,_,_=>none
 | k+1,s5,s6,s7=>(if s7<x1.1 then (jn (fun (z8:(List Int)) (z9:(List Itm))=>(Dg a0 a1 a2 x1 x2 K0 k z8 z9 (w64 (s7+1)))) fun K2=>(jn (fun (z10:(List Int))=>((a2.g z10).bind fun x18=>((rd? a0.items x18).bind fun x19=>((ap? 1466015503701 s6 [x19]).bind fun x20=>(K2 z10 x20))))) fun K3=>(De a1 x2 s7 K3 AK s5 0))) else (K0 s6))
def GN (a0:Arr) (a1:(List Int)) (a2:Bv) : Option (Arr×Int):=((B5 a1).bind fun x1=>((Bj a1).bind fun x2=>((D4 (0≤((List.length a1:Nat) : Int)∧((List.length a1:Nat) : Int)≤17592186044416)).bind fun x3=>(jn (fun (z4:(List Itm))=>((AE a1 z4).bind fun x21=>(some (x21.1,x21.2)))) fun K0=>(Dg a0 a1 a2 x1 x2 K0 AK (List.replicate (Int.toNat ((List.length a1:Nat) : Int)) (0:Int)) [] 0)))))
theorem Kz {a0:Arr} {a1:(List Int)} {a2:Bv} (oa2:K8 a2) {r:Arr×Int} (h:GN a0 a1 a2=some r) :
  Fn Tryz.prog 131 [.ag [.sl (Is a0.shape),.sl (Its a0.items)],.sl (Is a1),a2.dv] (.tup [.d (.ag [.sl (Is r.1.shape),.sl (Its r.1.items)]),.d (.i .i64 r.2)]):=by
 unfold GN at h
 refine Fn.ofC (rs:=[.cell 6 27,.tmp 7]) (nt:=65) Tryz.func131 rfl rfl rfl (by simp) rfl ?_;refine .sr ?_;refine vk (vbx) ?_;refine vk (van (Aj As) Aw) ?_;refine ar [1,2,3,6,7] ?_;refine .sr ?_;refine vk (Aa) ?_
 obtain ⟨x1,g1,h⟩:=bnd h
 refine vk (VOK.tupd (vs:=[.i .i64 x1.1,.i .i64 x1.2]) (Am (Cm g1) Tryz.call26)) ?_;refine vk (Aa) ?_;refine vk (vex) ?_;refine vk (vex) ?_;refine asd ?_;refine ar [1,2,3,6,7,8] ?_;refine .sr ?_;refine vk (Aa) ?_
 obtain ⟨x2,g2,h⟩:=bnd h
 refine vk (Am (Bz g2) Tryz.call75) ?_;refine ar [1,2,3,6,7,8,10] ?_;refine .sr ?_;refine vk (Aa) ?_;refine vk (AR (Ad _) (A0 _) AS) ?_
 obtain ⟨x3,g3,h⟩:=bnd h
 have ghx3:=CJ g3
 refine mk' (F:=Is) (x0:=0) (zl:=((List.length a1:Nat):Int)) (Int.toNat ((List.length a1:Nat):Int)) Fi (by omega) (by omega) ?_ BL (by decide)
 refine aso ?_;refine rk [1,2,3,6,7,8,10,11] ?_;refine .sr ?_;refine asn ?_;refine rk [1,2,3,6,7,8,10,11,12] ?_;refine .seq ?_;refine .sr ?_;refine vk (Aa) ?_;refine vk (Aa) ?_;refine rk [1,2,3,6,7,10,11,12,26,27] ?_
 obtain ⟨K0,hK0,h⟩:=AQ h
 refine AW.mr (σ:=(List Itm)) (fun p=>K0 p=some r) (fun p=>[(1,.d (.sl (Is a1))),(6,.nb [.sl (Is []),.sl (Its [])]),(7,.d (.i .i64 0)),(12,.own 58 (Its p))]) (fun p=>[]) ?_ ?_
 ·skip
  refine .block ?_;refine .gh (Gh.nlOwn (t:=12) 58 (by rw [JA];decide) rfl) ?_
  refine .loop (.gk [1,2,3,6,7,10,11,12,26,27] ?_)
  refine AL.ind (σ:=Nat×(List Int)×(List Itm)×Int) (m:=fun p=>p.1) (e:=fun p=>[(1,.d (.sl (Is a1))),(2,.d (a2.dv)),(3,.d (.ptr [.sl (Is a0.shape),.sl (Its a0.items)])),(6,.nb [.sl (Is []),.sl (Its [])]),(7,.d (.i .i64 0)),(10,.d (.sl (Is x2))),(11,.own 3 (Is p.2.1)),(12,.own 58 (Its p.2.2.1)),(26,.d (.i .i64 x1.1)),(27,.d (.i .i64 p.2.2.2))]) (h:=fun p=>[]) (I:=fun p=>Dg a0 a1 a2 x1 x2 K0 p.1 p.2.1 p.2.2.1 p.2.2.2=some r) ?_ (AK,(List.replicate (Int.toNat ((List.length a1:Nat):Int)) (0:Int)),[],0) h
  rintro ⟨k,s5,s6,s7⟩ h ih
  dsimp only at h ih ⊢
  rcases k with _|k
  ·rw [Dg] at h;cases h
  rw [Dg] at h
  refine .sr ?_;refine vk (vbi) ?_;refine rk [1,2,3,6,7,10,11,12,26,27,28] ?_;refine .seq ?_
  rcases brc h with ⟨hc,h⟩|⟨hc,h⟩
  ·refine cnt (dT hc) ?_
   refine .skip ?_
   show AW _ _ _ _ _ _
   obtain ⟨K2,hK2,h⟩:=AQ h
   refine AW.mj (σ:=(List Int)×(List Itm)) (fun p=>K2 p.1 p.2=some r) (fun p=>[(1,.d (.sl (Is a1))),(2,.d (a2.dv)),(3,.d (.ptr [.sl (Is a0.shape),.sl (Its a0.items)])),(6,.nb [.sl (Is []),.sl (Its [])]),(7,.d (.i .i64 0)),(10,.d (.sl (Is x2))),(11,.own 3 (Is p.1)),(12,.own 58 (Its p.2)),(26,.d (.i .i64 x1.1)),(27,.d (.i .i64 s7))]) (fun p=>[]) ?_ ?_
   ·skip
    refine .block ?_;refine .sr ?_;refine vk (Aa) ?_;refine ar [1,2,3,6,7,10,11,12,13,26,27] ?_;refine .seq ?_;refine .sr ?_;refine vk (Aa) ?_;refine vk (AR (Ad _) (A0 _) AS) ?_;refine vk (Aa) ?_;refine rk [1,2,3,6,7,10,11,12,13,26,27,30,31,32] ?_
    obtain ⟨K3,hK3,h⟩:=AQ h
    refine AW.mr (σ:=(List Int)) (fun p=>K3 p=some r) (fun p=>[(1,.d (.sl (Is a1))),(2,.d (a2.dv)),(3,.d (.ptr [.sl (Is a0.shape),.sl (Its a0.items)])),(6,.nb [.sl (Is []),.sl (Its [])]),(7,.d (.i .i64 0)),(10,.d (.sl (Is x2))),(11,.own 3 (Is p)),(12,.own 58 (Its s6)),(26,.d (.i .i64 x1.1)),(27,.d (.i .i64 s7))]) (fun p=>[]) ?_ ?_
    ·skip
     refine .block ?_
     refine .loop (.gk [1,2,3,6,7,10,11,12,13,26,27,30,31,32] ?_)
     refine AL.ind (σ:=Nat×(List Int)×Int) (m:=fun p=>p.1) (e:=fun p=>[(1,.d (.sl (Is a1))),(2,.d (a2.dv)),(3,.d (.ptr [.sl (Is a0.shape),.sl (Its a0.items)])),(6,.nb [.sl (Is []),.sl (Its [])]),(7,.d (.i .i64 0)),(10,.d (.sl (Is x2))),(11,.own 3 (Is p.2.1)),(12,.own 58 (Its s6)),(13,.d (.i .i64 s7)),(26,.d (.i .i64 x1.1)),(27,.d (.i .i64 s7)),(30,.d (.sl (Is x2))),(31,.d (.i .i64 ((List.length x2:Nat):Int))),(32,.d (.i .i64 p.2.2))]) (h:=fun p=>[]) (I:=fun p=>De a1 x2 s7 K3 p.1 p.2.1 p.2.2=some r) ?_ (AK,s5,0) h
     rintro ⟨k,s11,s12⟩ h ih
     dsimp only at h ih ⊢
     rcases k with _|k
     ·rw [De] at h;cases h
     rw [De] at h
     refine .sr ?_;refine vk (vbi) ?_;refine rk [1,2,3,6,7,10,11,12,13,26,27,30,31,32,33] ?_;refine .seq ?_
     rcases brc h with ⟨hc,h⟩|⟨hc,h⟩
     ·refine cnt (dT hc) ?_
      refine .skip ?_
      show AW _ _ _ _ _ _
      refine .seq ?_;refine .block ?_;refine .sr ?_;refine vk (Aa) ?_
      obtain ⟨x13,g13,h⟩:=bnd h
      obtain ⟨n13,p013,q13⟩:=Ag g13
      refine vk (vix n13 p013 (AT q13) rfl AJ) ?_;refine vk (Ah Ap) ?_;refine asd ?_;refine ar [1,2,3,6,7,10,11,12,13,14,15,26,27,30,31,32] ?_;refine .drawn 11 Bb (by kernel_rfl) ?_;refine dv LI ?_;refine dv (Aa) ?_;refine dv (Aa) ?_;refine dv (Aa) ?_
      obtain ⟨x14,g14,h⟩:=bnd h
      refine dv (Ht (CJ g14)) ?_;refine dv (Aa) ?_;refine dv (Aa) ?_
      obtain ⟨x15,g15,h⟩:=bnd h
      obtain ⟨n15,p015,q15⟩:=Ag g15
      refine dv (vix n15 p015 (AT q15) rfl AJ) ?_;refine dv (Ah Ap) ?_
      obtain ⟨x16,g16,h⟩:=bnd h
      refine dv (Ht (CJ g16)) ?_
      obtain ⟨x17,g17,h⟩:=bnd h
      obtain ⟨n17,p017,q17⟩:=Ag g17
      refine dv (Lp (off:=0) (len:=(Is s11).length) n17 p017 (by rw [Ad];exact (lS.1 q17).1) AJ (by decide)) ?_;refine dz ?_
      refine IQ (F:=Is) (D:=fun x=>.i .i64 x) Ej (us:=s11) (n:=n17) (m:=Int.toNat s12) (x:=(Int.tmod (w64 (Int.tdiv s7 x13)) x15)) (by rw [p017];rfl) ⟨_,by rw [Nat.zero_add];exact AT q17,rfl⟩ ?_ B4
      refine RL.gk [1,2,3,6,7,10,11,12,13,14,15,26,27,30,31,32,38,39,40,41,42,43,44,45,46] ?_;refine .nil ?_
      show AW _ _ _ _ _ _
      refine .gk [1,2,3,6,7,10,11,12,13,26,27,30,31,32] ?_;refine .region ?_;refine vk (vbi) ?_;refine vk (Aa) ?_;refine .nil ?_;refine AL.gk [1,2,3,6,7,10,11,12,13,26,27,30,31,32] ?_
      exact ih (k,(List.set s11 (Int.toNat s12) (Int.tmod (w64 (Int.tdiv s7 x13)) x15)),(w64 (s12+1))) h (Nat.lt_succ_self _)
     refine cnf (dF hc) ?_;refine .gk [1,2,3,6,7,10,11,12,26,27] ?_;refine .exit ?_
     exact jr (s11) h
    rintro z10 h
    try dsimp only at h ⊢
    subst hK3
    show AW _ _ _ _ _ _
    refine .drawn 9 Bb (by kernel_rfl) ?_;refine dv LI ?_;refine dv (vfa AD) ?_;refine dv (Ah Bm) ?_;refine dv (Aa) ?_;refine dv LI ?_
    obtain ⟨x18,g18,h⟩:=bnd h
    refine dv (TZ 11 (oa2 _ _ g18)) ?_
    obtain ⟨x19,g19,h⟩:=bnd h
    obtain ⟨n19,p019,q19⟩:=Ag g19
    refine dv (vix n19 p019 (C6 q19) rfl C3) ?_;refine dv (AH Bd AG) ?_;refine dv ((Em (Er x19) (Db [x19]) Cz).deep) ?_;refine dz ?_
    obtain ⟨x20,g20,h⟩:=bnd h
    refine M4 Fe g20 GA ?_ Eu Ay Cz
    refine aso ?_;refine RL.gk [1,2,3,6,7,10,11,12,26,27] ?_;refine .nil ?_
    exact jr (z10,x20) h
   rintro ⟨z8,z9⟩ h
   try dsimp only at h ⊢
   subst hK2
   refine .region ?_;refine vk (vbi) ?_;refine vk (Aa) ?_;refine .nil ?_;refine AL.gk [1,2,3,6,7,10,11,12,26,27] ?_
   exact ih (k,z8,z9,(w64 (s7+1))) h (Nat.lt_succ_self _)
  refine cnf (dF hc) ?_;refine .gk [1,6,7,12] ?_;refine .exit ?_
  exact jr (s6) h
 rintro z4 h
 try dsimp only at h ⊢
 subst hK0
 show AW _ _ _ _ _ _
 refine .sr ?_;refine vk (Aa) ?_;refine fz (p:=.t 12) ?_;refine vk (Aa) ?_
 obtain ⟨x21,g21,h⟩:=bnd h
 refine vk (VOK.tupd (vs:=[.ag [.sl (Is x21.1.shape),.sl (Its x21.1.items)],.i .i64 x21.2]) (Am (CK g21) Tryz.call10)) ?_;refine vk (vex) ?_;refine vk (vex) ?_
 refine stn ?_ Ab (by decide)
 refine ar [6,7] ?_;refine .ret ?_
 cases h
 exact ⟨_,_,⟨.inr rfl,Ac,Ab,p2⟩,rfl,rfl⟩
def Ev (a0:(List Int)) (c0:Int) (c1:Arr) (c2:(List Int)) (c3:(List Int)) : Option (Int):=((rd? a0 c0).bind fun x1=>((rd? c1.shape c0).bind fun x2=>(if x1<x2 then ((Cj c2 a0).bind fun x3=>(some (x3))) else ((Cj c3 a0).bind fun x4=>((rd? c3 c0).bind fun x5=>((rd? c1.shape c0).bind fun x6=>(some ((w64 ((w64 (((List.length c1.items:Nat) : Int)+x4))-(w64 (x5 * x6))))))))))))
theorem HH {a0:(List Int)} {c0:Int} {c1:Arr} {c2:(List Int)} {c3:(List Int)} {r:Int} (h:Ev a0 c0 c1 c2 c3=some r) :
  Fn Tryz.prog 132 [.sl (Is a0),.ptr [.i .i64 c0],.ptr [.sl (Is c1.shape),.sl (Its c1.items)],.ptr [.sl (Is c2)],.ptr [.sl (Is c3)]] (.d (.i .i64 r)):=by
 unfold Ev at h
 refine Fn.o1 6 38 Tryz.func132 ?_;refine .sr ?_;refine ar [0,1,2,3,4,6] ?_;refine .seq ?_;refine .seq ?_;refine .drawn 10 Bb (by kernel_rfl) ?_;refine dv (Aa) ?_;refine dv (Ah Ap) ?_
 obtain ⟨x1,g1,h⟩:=bnd h
 obtain ⟨n1,p01,q1⟩:=Ag g1
 refine dv (vix n1 p01 (AT q1) rfl AJ) ?_;refine dv (Ah Ap) ?_;refine dv (vfa Ai) ?_;refine dv (Ah Ax) ?_;refine dv (Ah Ap) ?_
 obtain ⟨x2,g2,h⟩:=bnd h
 obtain ⟨n2,p02,q2⟩:=Ag g2
 refine dv (vix n2 p02 (AT q2) rfl AJ) ?_;refine dv (Ah Ap) ?_;refine dv (vbi) ?_;refine dz ?_;refine rk [0,1,2,3,4,6,16] ?_
 rcases brc h with ⟨hc,h⟩|⟨hc,h⟩
 ·refine cnt (dT hc) ?_
  refine .sr ?_;refine vk (Ah Ax) ?_;refine vk (Aa) ?_
  obtain ⟨x3,g3,h⟩:=bnd h
  refine vk (Am (Dr g3) Tryz.call79) ?_;refine ar [0,1,2,4,6] ?_;refine .ret ?_
  cases h
  exact ⟨rfl,rfl⟩
 refine cnf (dF hc) ?_;refine .skip ?_
 show AW _ _ _ _ _ _
 refine .seq ?_;refine .drawn 18 Bb (by kernel_rfl) ?_;refine dv (vfa AD) ?_;refine dv (Ah Bm) ?_;refine dv (AR (Ay _) (CD _) CC) ?_;refine dv (Ah Ax) ?_;refine dv (Aa) ?_
 obtain ⟨x4,g4,h⟩:=bnd h
 refine dv (Am (Dr g4) Tryz.call79) ?_;refine dv (vbi) ?_;refine dv (Ah Ax) ?_;refine dv (Ah Ap) ?_
 obtain ⟨x5,g5,h⟩:=bnd h
 obtain ⟨n5,p05,q5⟩:=Ag g5
 refine dv (vix n5 p05 (AT q5) rfl AJ) ?_;refine dv (Ah Ap) ?_;refine dv (vfa Ai) ?_;refine dv (Ah Ax) ?_;refine dv (Ah Ap) ?_
 obtain ⟨x6,g6,h⟩:=bnd h
 obtain ⟨n6,p06,q6⟩:=Ag g6
 refine dv (vix n6 p06 (AT q6) rfl AJ) ?_;refine dv (Ah Ap) ?_;refine dv (vbi) ?_;refine dv (vbi) ?_;refine dz ?_;refine ar [6] ?_;refine .ret ?_
 cases h
 exact ⟨rfl,rfl⟩
def Cr (a0:Arr) (a1:Arr) (a2:Int) (K1:Arr→Int→Option (Arr×Int)) : Nat→Arr→Int→Int→Option (Arr×Int)
 | 0,_,_,_=>none
 | k+1,s8,s9,s10=>(if s10<((List.length a0.shape:Nat):Int) then (Option.bind ((if s10=a2 then (some false) else ((rd? a0.shape s10).bind fun x12=>((rd? a1.shape s10).bind fun x13=>(some (!(decide (x12=x13))))))):Option (Bool)) fun (z11:Bool)=>(if z11=true then (some ((Arr.mk [] []),5)) else (Cr a0 a1 a2 K1 k s8 s9 (w64 (s10+1))))) else (K1 s8 s9))
def DS (a0:Arr) (a1:Arr) (a2:Int) : Option (Arr×Int):=(jn ((if ((List.length a0.shape:Nat) : Int)=((List.length a1.shape:Nat) : Int) then (jn (fun (z6:Arr) (z7:Int)=>((CN a0.shape).bind fun x14=>((rd? x14 a2).bind fun x15=>((rd? a1.shape a2).bind fun x16=>((rd? x14 a2).bind fun x17=>((B5 (List.set x14 (Int.toNat a2) (w64 (x15+x16)))).bind fun x18=>(if ((!(decide (x18.2=0)))||(decide (x18.1=0)))=true then (if x18.2=0 then ((CI a0).bind fun x19=>((AE (List.set x14 (Int.toNat a2) (w64 (x15+x16))) ([x19])).bind fun x20=>(some (x20.1,x20.2)))) else (some ((Arr.mk [] []),x18.2))) else ((BM ([a0.items,a1.items])).bind fun x21=>((Bj a0.shape).bind fun x22=>((Bj a1.shape).bind fun x23=>((GN (Arr.mk [] x21) (List.set x14 (Int.toNat a2) (w64 (x15+x16))) (⟨.fn 132 [] [.ptr [.i .i64 a2],.ptr [.sl (Is a0.shape),.sl (Its a0.items)],.ptr [.sl (Is x22)],.ptr [.sl (Is x23)]],fun x=>Ev x a2 a0 x22 x23⟩ : Bv)).bind fun x24=>(some (x24.1,x24.2))))))))))))) fun K1=>(Cr a0 a1 a2 K1 AK (Arr.mk [] []) 0 0)) else (some ((Arr.mk [] []),4)))) fun K0=>(if ((decide (((List.length a0.shape:Nat) : Int)=0))&&(decide (((List.length a1.shape:Nat) : Int)=0)))=true then ((rd? a0.items 0).bind fun x1=>((rd? a1.items 0).bind fun x2=>((AE ([2]) ([x1,x2])).bind fun x3=>(some (x3.1,x3.2))))) else (if ((List.length a0.shape:Nat) : Int)=0 then none else (if ((List.length a1.shape:Nat) : Int)=0 then none else (if (w64 (((List.length a0.shape:Nat) : Int)+1))=((List.length a1.shape:Nat) : Int) then ((CN a0.shape).bind fun x4=>none) else (if (w64 (((List.length a1.shape:Nat) : Int)+1))=((List.length a0.shape:Nat) : Int) then ((CN a1.shape).bind fun x5=>none) else (K0)))))))
set_option maxHeartbeats 4000000 in
theorem Fh {a0:Arr} {a1:Arr} {a2:Int} {r:Arr×Int} (h:DS a0 a1 a2=some r) :
  Fn Tryz.prog 81 [.ag [.sl (Is a0.shape),.sl (Its a0.items)],.ag [.sl (Is a1.shape),.sl (Its a1.items)],.i .i64 a2] (.tup [.d (.ag [.sl (Is r.1.shape),.sl (Its r.1.items)]),.d (.i .i64 r.2)]):=by
 unfold DS at h
 refine Fn.ofC (rs:=[.cell 6 27,.tmp 7]) (nt:=180) Tryz.func81 rfl rfl rfl (by simp) rfl ?_;refine .sr ?_;refine vk (vbx) ?_;refine vk (vbx) ?_;refine vk (TF) ?_;refine vk (van (Aj As) Aw) ?_;refine ar [3,4,5,6,7] ?_;refine .sr ?_;refine vk (AH Ac Ab) ?_;refine vk (van (Aj As) Aw) ?_
 refine stn ?_ Ab (by decide)
 refine rk [3,4,5,6,7,8] ?_
 obtain ⟨K0,hK0,h⟩:=AQ h
 refine AW.mj (σ:=Unit) (fun p=>K0=some r) (fun p=>[(3,.d (.ptr [.sl (Is a0.shape),.sl (Its a0.items)])),(4,.d (.ptr [.sl (Is a1.shape),.sl (Its a1.items)])),(5,.d (.ptr [.i .i64 a2])),(6,.nb [.sl (Is []),.sl (Its [])]),(7,.d (.i .i64 0)),(8,.nb [.sl (Is a0.shape),.sl (Its a0.items)])]) (fun p=>[]) ?_ ?_
 ·skip
  refine .block ?_;refine .seq ?_;refine AW.mr (σ:=Unit) (fun _=>True) (fun _=>[(3,.d (.ptr [.sl (Is a0.shape),.sl (Its a0.items)])),(4,.d (.ptr [.sl (Is a1.shape),.sl (Its a1.items)])),(5,.d (.ptr [.i .i64 a2])),(6,.nb [.sl (Is []),.sl (Its [])]),(7,.d (.i .i64 0)),(8,.nb [.sl (Is a0.shape),.sl (Its a0.items)]),(17,.d (.b ((decide (((List.length a0.shape:Nat):Int)=0))&&(decide (((List.length a1.shape:Nat):Int)=0)))))]) (fun _=>[]) ?_ ?_
  ·skip
   refine .region ?_;refine vk (vfa Ai) ?_;refine vk (Ah Ax) ?_;refine vk (AR (Ad _) (A0 _) AS) ?_;refine vk (vbi) ?_
   by_cases hc:((List.length a0.shape:Nat):Int)=0
   ·have hb0:(decide (((List.length a0.shape:Nat):Int)=0))=true:=(dT hc)
    refine vk (VOK.lit (Aa) hb0) ?_;refine vk (vfa Ai) ?_;refine vk (Ah Ax) ?_;refine vk (AR (Ad _) (A0 _) AS) ?_;refine vk (vbi) ?_;refine vk (An) ?_;refine asd ?_;refine RL.gk [3,4,5,6,7,8,17] ?_;refine .nil ?_
    exact jr () trivial (by simp only [hb0];rfl)
   have hb0:(decide (((List.length a0.shape:Nat):Int)=0))=false:=(dF hc)
   refine vk (VOK.lit (Aa) hb0) ?_;refine gf ?_;refine gf ?_;refine gf ?_;refine gf ?_;refine vk (An) ?_;refine asd ?_;refine RL.gk [3,4,5,6,7,8,17] ?_;refine .nil ?_
   exact jr () trivial (by simp only [hb0];rfl)
  rintro _ _
  rcases brc h with ⟨hc,h⟩|⟨hc,h⟩
  ·refine cnt hc ?_
   refine .seq ?_;refine .drawn 13 Bb (by kernel_rfl) ?_;refine dv ((G5 (Cy [2]) BL).deep) ?_;refine dv (vfa AD) ?_;refine dv (Ah Bm) ?_
   obtain ⟨x1,g1,h⟩:=bnd h
   obtain ⟨n1,p01,q1⟩:=Ag g1
   refine dv (vix n1 p01 (C6 q1) rfl C3) ?_;refine dv (AH Bd AG) ?_;refine dv (vfa AD) ?_;refine dv (Ah Bm) ?_
   obtain ⟨x2,g2,h⟩:=bnd h
   obtain ⟨n2,p02,q2⟩:=Ag g2
   refine dv (vix n2 p02 (C6 q2) rfl C3) ?_;refine dv (AH Bd AG) ?_;refine dv ((Em (SR x1 x2) (Db [x1,x2]) Cz).deep) ?_
   obtain ⟨x3,g3,h⟩:=bnd h
   refine dv (VOK.tupd (vs:=[.ag [.sl (Is x3.1.shape),.sl (Its x3.1.items)],.i .i64 x3.2]) (Am (CK g3) Tryz.call10)) ?_;refine dv (vex) ?_;refine dv (vex) ?_;refine dz ?_
   refine stn ?_ Ab (by decide)
   refine ar [3,4,5,6,7,8] ?_;refine .ret ?_
   cases h
   exact ⟨_,_,⟨.inr rfl,Ac,Ab,p2⟩,rfl,rfl⟩
  refine cnf (bf hc) ?_;refine .sr ?_;refine vk (vfa Ai) ?_;refine vk (Ah Ax) ?_;refine vk (AR (Ad _) (A0 _) AS) ?_;refine vk (vbi) ?_;refine ar [3,4,5,6,7,8,41] ?_
  rcases brc h with ⟨hc,h⟩|⟨hc,h⟩
  ·refine cnt (dT hc) ?_
   refine .region ?_;refine vk (AH Ac Ab) ?_;refine vk (vfa Ai) ?_;refine vk (Ah Ax) ?_;refine vk (Ah Ap) ?_
   exact nomatch h
  refine cnf (dF hc) ?_;refine .sr ?_;refine vk (vfa Ai) ?_;refine vk (Ah Ax) ?_;refine vk (AR (Ad _) (A0 _) AS) ?_;refine vk (vbi) ?_;refine ar [3,4,5,6,7,8,51] ?_
  rcases brc h with ⟨hc,h⟩|⟨hc,h⟩
  ·refine cnt (dT hc) ?_
   refine .region ?_;refine vk (AH Ac Ab) ?_;refine vk (vfa Ai) ?_;refine vk (Ah Ax) ?_;refine vk (Ah Ap) ?_
   exact nomatch h
  refine cnf (dF hc) ?_;refine .sr ?_;refine vk (vfa Ai) ?_;refine vk (Ah Ax) ?_;refine vk (AR (Ad _) (A0 _) AS) ?_;refine vk (vbi) ?_;refine vk (vfa Ai) ?_;refine vk (Ah Ax) ?_;refine vk (AR (Ad _) (A0 _) AS) ?_;refine vk (vbi) ?_;refine ar [3,4,5,6,7,8,61] ?_
  rcases brc h with ⟨hc,h⟩|⟨hc,h⟩
  ·refine cnt (dT hc) ?_
   refine .drawn 7 Bb (by kernel_rfl) ?_;refine dv (vfa Ai) ?_;refine dv (Ah Ax) ?_
   obtain ⟨x4,g4,h⟩:=bnd h
   refine dv ((Am (Dj g4) Tryz.call30).deep) ?_;refine dv (Ah Ap) ?_;refine dv ((G5 (Cy [1]) BL).deep) ?_
   exact nomatch h
  refine cnf (dF hc) ?_;refine .sr ?_;refine vk (vfa Ai) ?_;refine vk (Ah Ax) ?_;refine vk (AR (Ad _) (A0 _) AS) ?_;refine vk (vbi) ?_;refine vk (vfa Ai) ?_;refine vk (Ah Ax) ?_;refine vk (AR (Ad _) (A0 _) AS) ?_;refine vk (vbi) ?_;refine ar [3,4,5,6,7,8,77] ?_
  rcases brc h with ⟨hc,h⟩|⟨hc,h⟩
  ·refine cnt (dT hc) ?_
   refine .drawn 7 Bb (by kernel_rfl) ?_;refine dv (vfa Ai) ?_;refine dv (Ah Ax) ?_
   obtain ⟨x5,g5,h⟩:=bnd h
   refine dv ((Am (Dj g5) Tryz.call30).deep) ?_;refine dv (Ah Ap) ?_;refine dv ((G5 (Cy [1]) BL).deep) ?_
   exact nomatch h
  refine cnf (dF hc) ?_;refine .gk [3,4,5,6,7,8] ?_;refine .skip ?_
  exact jr () h
 rintro _ h
 subst hK0
 refine .seq ?_;refine .sr ?_;refine vk (vfa Ai) ?_;refine vk (Ah Ax) ?_;refine vk (AR (Ad _) (A0 _) AS) ?_;refine vk (vfa Ai) ?_;refine vk (Ah Ax) ?_;refine vk (AR (Ad _) (A0 _) AS) ?_;refine vk (vbi) ?_;refine rk [3,4,5,6,7,8,99] ?_
 rcases brc h with ⟨hc,h⟩|⟨hc,h⟩
 ·refine cnf (ntf (dT hc)) ?_
  refine .skip ?_
  show AW _ _ _ _ _ _
  refine .seq ?_;refine .sr ?_;refine vk (vfa Ai) ?_;refine vk (Ah Ax) ?_;refine vk (AR (Ad _) (A0 _) AS) ?_;refine vk (Aa) ?_;refine rk [3,4,5,6,7,8,103,104] ?_
  obtain ⟨K1,hK1,h⟩:=AQ h
  refine AW.mr (σ:=Arr×Int) (fun p=>K1 p.1 p.2=some r) (fun p=>[(3,.d (.ptr [.sl (Is a0.shape),.sl (Its a0.items)])),(4,.d (.ptr [.sl (Is a1.shape),.sl (Its a1.items)])),(5,.d (.ptr [.i .i64 a2])),(6,.nb [.sl (Is p.1.shape),.sl (Its p.1.items)]),(7,.d (.i .i64 p.2)),(8,.nb [.sl (Is a0.shape),.sl (Its a0.items)])]) (fun p=>[]) ?_ ?_
  ·skip
   refine .block ?_
   refine .loop (.gk [3,4,5,6,7,8,103,104] ?_)
   refine AL.ind (σ:=Nat×Arr×Int×Int) (m:=fun p=>p.1) (e:=fun p=>[(3,.d (.ptr [.sl (Is a0.shape),.sl (Its a0.items)])),(4,.d (.ptr [.sl (Is a1.shape),.sl (Its a1.items)])),(5,.d (.ptr [.i .i64 a2])),(6,.nb [.sl (Is p.2.1.shape),.sl (Its p.2.1.items)]),(7,.d (.i .i64 p.2.2.1)),(8,.nb [.sl (Is a0.shape),.sl (Its a0.items)]),(103,.d (.i .i64 ((List.length a0.shape:Nat):Int))),(104,.d (.i .i64 p.2.2.2))]) (h:=fun p=>[]) (I:=fun p=>Cr a0 a1 a2 K1 p.1 p.2.1 p.2.2.1 p.2.2.2=some r) ?_ (AK,(Arr.mk [] []),0,0) h
   rintro ⟨k,s8,s9,s10⟩ h ih
   dsimp only at h ih ⊢
   rcases k with _|k
   ·rw [Cr] at h;cases h
   rw [Cr] at h
   refine .sr ?_;refine vk (vbi) ?_;refine rk [3,4,5,6,7,8,103,104,105] ?_;refine .seq ?_
   rcases brc h with ⟨hc,h⟩|⟨hc,h⟩
   ·refine cnt (dT hc) ?_
    refine .skip ?_
    show AW _ _ _ _ _ _
    refine .seq ?_;refine .block ?_;refine .sr ?_;refine vk (Aa) ?_;refine ar [3,4,5,6,7,8,9,103,104] ?_;refine .seq ?_
    obtain ⟨z11,hz,h⟩:=bnd h
    refine AW.mr (σ:=Unit) (fun _=>True) (fun _=>[(3,.d (.ptr [.sl (Is a0.shape),.sl (Its a0.items)])),(4,.d (.ptr [.sl (Is a1.shape),.sl (Its a1.items)])),(5,.d (.ptr [.i .i64 a2])),(6,.nb [.sl (Is s8.shape),.sl (Its s8.items)]),(7,.d (.i .i64 s9)),(8,.nb [.sl (Is a0.shape),.sl (Its a0.items)]),(103,.d (.i .i64 ((List.length a0.shape:Nat):Int))),(104,.d (.i .i64 s10)),(122,.d (.b z11))]) (fun _=>[]) ?_ ?_
    ·skip
     refine .drawn 16 Bb (by kernel_rfl) ?_;refine dv (Aa) ?_;refine dv (Ah Ap) ?_;refine dv (vbi) ?_
     rcases brc hz with ⟨hc,hz⟩|⟨hc,hz⟩
     ·have hb0:(!(decide (s10=a2)))=false:=(ntf (dT hc))
      refine dv (VOK.lit (Aa) hb0) ?_;refine dgf ?_;refine dgf ?_;refine dgf ?_;refine dgf ?_;refine dgf ?_;refine dgf ?_;refine dgf ?_;refine dgf ?_;refine dgf ?_;refine dgf ?_;refine dgf ?_;refine dv (An) ?_;refine dz ?_;refine RL.gk [3,4,5,6,7,8,103,104,122] ?_;refine .nil ?_
      cases hz
      exact jr () trivial
     have hb0:(!(decide (s10=a2)))=true:=(ntt (dF hc))
     refine dv (VOK.lit (Aa) hb0) ?_;refine dv (vfa Ai) ?_;refine dv (Ah Ax) ?_;refine dv (Aa) ?_
     obtain ⟨x12,g12,hz⟩:=bnd hz
     obtain ⟨n12,p012,q12⟩:=Ag g12
     refine dv (vix n12 p012 (AT q12) rfl AJ) ?_;refine dv (Ah Ap) ?_;refine dv (vfa Ai) ?_;refine dv (Ah Ax) ?_;refine dv (Aa) ?_
     obtain ⟨x13,g13,hz⟩:=bnd hz
     obtain ⟨n13,p013,q13⟩:=Ag g13
     refine dv (vix n13 p013 (AT q13) rfl AJ) ?_;refine dv (Ah Ap) ?_;refine dv (vbi) ?_;refine dv (An) ?_;refine dz ?_;refine RL.gk [3,4,5,6,7,8,103,104,122] ?_;refine .nil ?_
     cases hz
     exact jr () trivial
    rintro _ _
    rcases brc h with ⟨hc,h⟩|⟨hc,h⟩
    ·refine cnt hc ?_
     refine .sr ?_;refine vk (vbd Bl As Aw) ?_
     refine stn ?_ Ab (by decide)
     refine ar [3,4,5,6,7,8,103,104] ?_;refine .ret ?_
     cases h
     exact ⟨_,_,⟨.inr rfl,Ac,Ab,p2⟩,rfl,rfl⟩
    refine cnf (bf hc) ?_;refine .skip ?_
    show AW _ _ _ _ _ _
    refine .region ?_;refine vk (vbi) ?_;refine vk (Aa) ?_;refine .nil ?_;refine AL.gk [3,4,5,6,7,8,103,104] ?_
    exact ih (k,s8,s9,(w64 (s10+1))) h (Nat.lt_succ_self _)
   refine cnf (dF hc) ?_;refine .gk [3,4,5,6,7,8] ?_;refine .exit ?_
   exact jr (s8,s9) h
  rintro ⟨z6,z7⟩ h
  try dsimp only at h ⊢
  subst hK1
  show AW _ _ _ _ _ _
  refine .sr ?_;refine vk (vfa Ai) ?_;refine vk (Ah Ax) ?_
  obtain ⟨x14,g14,h⟩:=bnd h
  refine vk (Am (Dj g14) Tryz.call30) ?_;refine aso ?_;refine rk [3,4,5,6,7,8,10] ?_;refine .seq ?_;refine .drawn 11 Bb (by kernel_rfl) ?_;refine dv LI ?_;refine dv (Ah Ap) ?_
  obtain ⟨x15,g15,h⟩:=bnd h
  obtain ⟨n15,p015,q15⟩:=Ag g15
  refine dv (Lp (off:=0) (len:=(Is x14).length) n15 p015 (by rw [Ad];exact (lS.1 q15).1) AJ (by decide)) ?_;refine dv (P8 (i:=0+n15) (j:=0) (xs:=Is x14) (.i .i64 x15) ⟨_,by rw [Nat.zero_add];exact AT q15,rfl⟩ Ap) ?_;refine dv (vfa Ai) ?_;refine dv (Ah Ax) ?_;refine dv (Ah Ap) ?_
  obtain ⟨x16,g16,h⟩:=bnd h
  obtain ⟨n16,p016,q16⟩:=Ag g16
  refine dv (vix n16 p016 (AT q16) rfl AJ) ?_;refine dv (Ah Ap) ?_;refine dv (vbi) ?_
  obtain ⟨x17,g17,h⟩:=bnd h
  obtain ⟨n17,p017,q17⟩:=Ag g17
  refine dv (Lp (off:=0) (len:=(Is x14).length) n17 p017 (by rw [Ad];exact (lS.1 q17).1) AJ (by decide)) ?_;refine dz ?_
  refine IQ (F:=Is) (D:=fun x=>.i .i64 x) Ej (us:=x14) (n:=n17) (m:=Int.toNat a2) (x:=(w64 (x15+x16))) (by rw [p017];rfl) ⟨_,by rw [Nat.zero_add];exact AT q17,rfl⟩ ?_ B4
  refine RL.gk [3,4,5,6,7,8,10,129,131,132,133,134,135,136,137] ?_;refine rk [3,4,5,6,7,8,10] ?_;refine .seq ?_;refine .sr ?_;refine fz (p:=.t 10) ?_;refine vk (Aa) ?_
  obtain ⟨x18,g18,h⟩:=bnd h
  refine vk (VOK.tupd (vs:=[.i .i64 x18.1,.i .i64 x18.2]) (Am (Cm g18) Tryz.call26)) ?_;refine vk (Aa) ?_;refine vk (vex) ?_;refine vk (vex) ?_;refine asd ?_;refine ar [3,4,5,6,7,8,10,11,12] ?_;refine .seq ?_;refine AW.mr (σ:=Unit) (fun _=>True) (fun _=>[(3,.d (.ptr [.sl (Is a0.shape),.sl (Its a0.items)])),(4,.d (.ptr [.sl (Is a1.shape),.sl (Its a1.items)])),(5,.d (.ptr [.i .i64 a2])),(6,.nb [.sl (Is z6.shape),.sl (Its z6.items)]),(7,.d (.i .i64 z7)),(8,.nb [.sl (Is a0.shape),.sl (Its a0.items)]),(10,.d (.sl (Is (List.set x14 (Int.toNat a2) (w64 (x15+x16)))))),(12,.d (.i .i64 x18.2)),(149,.d (.b ((!(decide (x18.2=0)))||(decide (x18.1=0)))))]) (fun _=>[]) ?_ ?_
  ·skip
   refine .region ?_;refine vk (Aa) ?_;refine vk (vbi) ?_
   by_cases hc:x18.2=0
   ·have hb0:(!(decide (x18.2=0)))=false:=(ntf (dT hc))
    refine vk (VOK.lit (Aa) hb0) ?_;refine vk (Aa) ?_;refine vk (vbi) ?_;refine vk (An) ?_;refine RL.gk [3,4,5,6,7,8,10,12,149] ?_;refine .nil ?_
    exact jr () trivial (by simp only [hb0];rfl)
   have hb0:(!(decide (x18.2=0)))=true:=(ntt (dF hc))
   refine vk (VOK.lit (Aa) hb0) ?_;refine gf ?_;refine gf ?_;refine vk (An) ?_;refine RL.gk [3,4,5,6,7,8,10,12,149] ?_;refine .nil ?_
   exact jr () trivial (by simp only [hb0];rfl)
  rintro _ _
  rcases brc h with ⟨hc,h⟩|⟨hc,h⟩
  ·refine cnt hc ?_
   refine .seq ?_;refine .sr ?_;refine vk (Aa) ?_;refine vk (vbi) ?_;refine rk [3,4,5,6,7,8,10,12,151] ?_
   rcases brc h with ⟨hc,h⟩|⟨hc,h⟩
   ·refine cnf (ntf (dT hc)) ?_
    refine .skip ?_
    show AW _ _ _ _ _ _
    refine .sr ?_;refine vk (Aa) ?_;refine vk (Fs Ac Ab) ?_
    obtain ⟨x19,g19,h⟩:=bnd h
    refine vk (Am (G8 g19) Tryz.call126) ?_;refine vk ((Em (Er x19) (Db [x19]) Cz).deep) ?_
    obtain ⟨x20,g20,h⟩:=bnd h
    refine vk (VOK.tupd (vs:=[.ag [.sl (Is x20.1.shape),.sl (Its x20.1.items)],.i .i64 x20.2]) (Am (CK g20) Tryz.call10)) ?_;refine vk (vex) ?_;refine vk (vex) ?_
    refine stn ?_ Ab (by decide)
    refine ar [3,4,5,6,7,10] ?_;refine .ret ?_
    cases h
    exact ⟨_,_,⟨.inr rfl,Ac,Ab,p2⟩,rfl,rfl⟩
   refine cnt (ntt (dF hc)) ?_;refine .sr ?_;refine vk (vbd Bl As Aw) ?_;refine vk (Aa) ?_
   refine stn ?_ Ab (by decide)
   refine ar [3,4,5,6,7,8,10] ?_;refine .ret ?_
   cases h
   exact ⟨_,_,⟨.inr rfl,Ac,Ab,p2⟩,rfl,rfl⟩
  refine cnf (bf hc) ?_;refine .skip ?_
  show AW _ _ _ _ _ _
  refine .sr ?_;refine vk (vfa AD) ?_;refine vk (Ah Bm) ?_;refine vk (vfa AD) ?_;refine vk (Ah Bm) ?_;refine vk ((G5 (Qc [a0.items,a1.items]) S3).deep) ?_
  obtain ⟨x21,g21,h⟩:=bnd h
  refine vk (Am (D5 g21) Tryz.call130) ?_;refine vk (vbd Bl As Aw) ?_;refine vk (van (Aj As) Aw) ?_
  refine stn ?_ Ab (by decide)
  refine rk [3,4,5,6,7,10,13] ?_;refine .seq ?_;refine .drawn 8 Bb (by kernel_rfl) ?_;refine dv (vfa Ai) ?_;refine dv (Ah Ax) ?_
  obtain ⟨x22,g22,h⟩:=bnd h
  refine dv (Am (Bz g22) Tryz.call75) ?_;refine dv (vfa Ai) ?_;refine dv (Ah Ax) ?_
  obtain ⟨x23,g23,h⟩:=bnd h
  refine dv (Am (Bz g23) Tryz.call75) ?_;refine dv (van (Aj IP) Mc) ?_;refine dv (van (Aj IP) Mc) ?_;refine dz ?_
  refine QB ?_ H7
  refine QB ?_ H7
  refine rk [3,5,6,7,10,13,14,15] ?_;refine .sr ?_;refine vk (Fs Ac Ab) ?_;refine vk (Aa) ?_;refine RL.gh (Gh.nbp (t:=14) rfl) ?_;refine RL.gh (Gh.nbp (t:=15) rfl) ?_;refine vk (Qw) ?_
  obtain ⟨x24,g24,h⟩:=bnd h
  refine vk (VOK.tupd (vs:=[.ag [.sl (Is x24.1.shape),.sl (Its x24.1.items)],.i .i64 x24.2]) (Am (Kz (DY Tryz.call132 (fun _ _ h=>HH h)) g24) Tryz.call131)) ?_;refine vk (vex) ?_;refine vk (vex) ?_
  refine stn ?_ Ab (by decide)
  refine ar [6,7] ?_;refine .ret ?_
  cases h
  exact ⟨_,_,⟨.inr rfl,Ac,Ab,p2⟩,rfl,rfl⟩
 refine cnt (ntt (dF hc)) ?_;refine .sr ?_;refine vk (vbd Bl As Aw) ?_
 refine stn ?_ Ab (by decide)
 refine ar [3,4,5,6,7,8] ?_;refine .ret ?_
 cases h
 exact ⟨_,_,⟨.inr rfl,Ac,Ab,p2⟩,rfl,rfl⟩
def E5 (a0:Int) (a1:Int) : Option (Int×Int):=(some ((IntKind.wrap .u64 ((IntKind.wrap .u64 ((IntKind.wrap .u64 ((a0 / 2 ^ min (Int.toNat 32) (IntKind.bits .u64)) * (a1 / 2 ^ min (Int.toNat 32) (IntKind.bits .u64))))+((IntKind.wrap .u64 ((IntKind.wrap .u64 ((a0 / 2 ^ min (Int.toNat 32) (IntKind.bits .u64)) * (bits .and .u64 a1 4294967295)))+((IntKind.wrap .u64 ((bits .and .u64 a0 4294967295) * (bits .and .u64 a1 4294967295))) / 2 ^ min (Int.toNat 32) (IntKind.bits .u64)))) / 2 ^ min (Int.toNat 32) (IntKind.bits .u64))))+((IntKind.wrap .u64 ((bits .and .u64 (IntKind.wrap .u64 ((IntKind.wrap .u64 ((a0 / 2 ^ min (Int.toNat 32) (IntKind.bits .u64)) * (bits .and .u64 a1 4294967295)))+((IntKind.wrap .u64 ((bits .and .u64 a0 4294967295) * (bits .and .u64 a1 4294967295))) / 2 ^ min (Int.toNat 32) (IntKind.bits .u64)))) 4294967295)+(IntKind.wrap .u64 ((bits .and .u64 a0 4294967295) * (a1 / 2 ^ min (Int.toNat 32) (IntKind.bits .u64)))))) / 2 ^ min (Int.toNat 32) (IntKind.bits .u64)))),(IntKind.wrap .u64 (a0 * a1))))
theorem Ih {a0:Int} {a1:Int} {r:Int×Int} (h:E5 a0 a1=some r) :
  Fn Tryz.prog 178 [.i .u64 a0,.i .u64 a1] (.tup [.d (.i .u64 r.1),.d (.i .u64 r.2)]):=by
 unfold E5 at h
 refine Fn.of (rs:=[.tmp 4,.tmp 5]) (nt:=51) Tryz.func178 rfl rfl rfl (by simp) rfl ?_;refine .sr ?_;refine asd ?_;refine ar [0,1,4,5] ?_;refine .sr ?_;refine vk (Aa) ?_;refine vk (vbi) ?_;refine ar [0,1,4,5,6] ?_;refine .sr ?_;refine vk (Aa) ?_;refine vk (Ht (c:=(0:Int)≤32) (by decide)) ?_;refine ar [0,1,4,5,6,7] ?_;refine .sr ?_;refine vk (Aa) ?_;refine vk (vbi) ?_;refine ar [0,1,4,5,6,7,8] ?_;refine .sr ?_;refine vk (Aa) ?_;refine vk (Ht (c:=(0:Int)≤32) (by decide)) ?_;refine ar [0,1,4,5,6,7,8,9] ?_;refine .sr ?_;refine vk (Aa) ?_;refine vk (Aa) ?_;refine vk (vbi) ?_;refine ar [0,1,4,5,6,7,8,9,10] ?_;refine .sr ?_;refine vk (Aa) ?_;refine vk (Aa) ?_;refine vk (vbi) ?_;refine vk (Aa) ?_;refine vk (Ht (c:=(0:Int)≤32) (by decide)) ?_;refine vk (vbi) ?_;refine ar [0,1,4,5,6,7,9,11] ?_;refine .sr ?_;refine vk (Aa) ?_;refine vk (vbi) ?_;refine ar [0,1,4,5,6,7,9,11,12] ?_;refine .sr ?_;refine vk (Aa) ?_;refine vk (Ht (c:=(0:Int)≤32) (by decide)) ?_;refine ar [0,1,4,5,6,7,9,12,13] ?_;refine .sr ?_;refine vk (Aa) ?_;refine vk (Aa) ?_;refine vk (Aa) ?_;refine vk (vbi) ?_;refine vk (vbi) ?_;refine ar [0,1,4,5,7,9,12,13] ?_;refine .sr ?_;refine vk (Aa) ?_;refine vk (Aa) ?_;refine vk (vbi) ?_;refine vk (Aa) ?_;refine vk (vbi) ?_;refine vk (Aa) ?_;refine vk (Ht (c:=(0:Int)≤32) (by decide)) ?_;refine vk (vbi) ?_;refine ar [0,1,4,5] ?_;refine .sr ?_;refine vk (Aa) ?_;refine vk (Aa) ?_;refine vk (vbi) ?_;refine ar [4,5] ?_;refine .ret ?_
 cases h
 exact ⟨by decide,rfl,rfl,rfl⟩
end Go.FL
namespace Go.FL
open Go Go.RowKit
section
variable {P:Program} {C:Cx} {o:Oper} {ops:Array Oper} {Q:Exit→Env→Af→Prop} {env:Env} {H:Af} {k:Nat} {l:List Oper}
theorem cp0 {c:Call} {r s t dT sT e el:Nat} {y:Operand} {ys:List DV} (h:RL P C ops Q (k+1) l ((t,.d (.i .i64 0))::env) H) (hu:P.underlying dT=some (.slice el)) (hsz:(P.info? el).map (·.size)=some 1)
  (hg:grd ops env o true=true:=by rfl) (ho:o.op=.call c:=by rfl) (hc:c.callee=.builtin .copy:=by rfl) (ha:c.args=#[.tmp r,y]:=by rfl) (hty:c.argTypes=#[dT,sT]:=by rfl)
  (hv:get env r=.ref (.t s) 0 0:=by rfl) (hp:get env s=.own e []:=by rfl) (hy:lk env y=.d (.sl ys):=by rfl) (hd:o.dst=some t:=by rfl) (hf:Al (get env t)=false:=by rfl) (ht:okT C.nt t:=by rfl):RL P C ops Q k (o::l) env H:=by
 rw [← Ak hf] at h
 refine .go hg (.pure (by simp [ho]) hd ht (fun X a w I μ O _ hs=>⟨.int .i64 0,?_,.of_rep (.i _ _)⟩) h)
 have hrr:=hs.envr r
 rw [hv] at hrr
 obtain ⟨e',zs,A,m,cc,g1,g2,g3,A',c',q1,q2,q3,q4⟩:=hrr
 have hev:a.eval (.tmp r)=.slice A' 0 c':=q1
 have hry:=hs.deep (x:=y) (v:=.sl ys) (by rw [hy];rfl)
 obtain ⟨A2,c2,hev2,_⟩:=hry.sl_len
 have hrun:=run_copy_none (P:=P) w dT sT o.type el A' A2 0 c' ys.length c2 hu hsz (by simp)
 simp [execOp,ho,resolve,hc,ha,hty,invoke,builtin,hev,hev2,hrun,Result.andThen,goInt]
theorem cp1 {c:Call} {r s t dT sT e el:Nat} {y:Operand} {x v:DV} (h:RL P C ops Q (k+1) l ((t,.d (.i .i64 1))::Lq (.t s) (.own e [v]) env) H) (hu:P.underlying dT=some (.slice el)) (hsz:(P.info? el).map (·.size)=some 1) (hse:AA P e=1)
  (hg:grd ops env o true=true:=by rfl) (ho:o.op=.call c:=by rfl) (hc:c.callee=.builtin .copy:=by rfl) (ha:c.args=#[.tmp r,y]:=by rfl) (hty:c.argTypes=#[dT,sT]:=by rfl)
  (hv:get env r=.ref (.t s) 0 1:=by rfl) (hp:get env s=.own e [x]:=by rfl) (hx:x.leaf=true:=by rfl) (hy:lk env y=.d (.sl [v]):=by rfl) (hl:v.leaf=true:=by rfl) (hd:o.dst=some t:=by rfl)
  (hf:Al (get (Lq (.t s) (.own e [v]) env) t)=false:=by rfl) (ht:okT C.nt t:=by rfl):RL P C ops Q k (o::l) env H:=by
 rw [← Ak hf] at h
 refine .go hg (.val (by simp [ho]) hd ht (fun X a w I μ O _ _ _ hs=>?_) h)
 have hpl:AN env H (.t s)=.own e [x]:=hp
 have hrr:=hs.envr r
 rw [hv] at hrr
 obtain ⟨e',ys,A,m,cc,g1,g2,g3,g4⟩:=hrr
 rw [hpl] at g1;cases g1
 obtain ⟨v0,bs,f1,f2,_,_⟩:=hs.at_place hpl
 rw [g2] at f1;cases f1
 have:∃ b,A=some ⟨b,0,none⟩∧m=1∧1≤cc:=by
  have k:=El f2
  obtain ⟨k1,k2,k3⟩:=k
  have hcc:0<cc:=by
   have:[x].length=1:=rfl
   omega
  obtain ⟨b,hb⟩:=k3 (by omega)
  exact ⟨b,hb,k1,by omega⟩
 obtain ⟨b,rfl,rfl,hmc⟩:=this
 obtain ⟨A',c',q1,q2,q3,q4⟩:=g4
 have hA:(some (⟨b,0,none⟩:Addr)).map (·.add (0 * AA P e))=some ⟨b,0,none⟩:=by simp [Cv]
 rw [q4 (by omega),hA] at q1
 have hev:a.eval (.tmp r)=.slice (some ⟨b,0,none⟩) 1 c':=q1
 have he:Lb P env H a w μ (.t s) 0 0 (.pointer (some ⟨b,0 * AA P e+0,none⟩)):=⟨e,[x],b,1,cc,hpl,g2,by simp,by omega,rfl⟩
 have hry:=hs.deep (x:=y) (v:=.sl [v]) (by rw [hy];rfl)
 generalize hev2:a.eval y=u at hry
 cases hry with
 | sl _ bk o2 sz c2 vs hne hc2 hI hsz2 hh hr =>
  obtain ⟨r1,r2⟩:=hr.get 0 v rfl
  rw [DV.leaf_cells hl] at r1 r2
  have hsz1:sz=1:=by simpa using r1.symm
  subst hsz1
  rw [Nat.zero_mul,List.drop_zero] at r2
  obtain ⟨u,hu1,hu2⟩:∃ u,vs.take 1=[u]∧Rep w I v u:=by
   generalize vs.take 1=q at r2
   cases r2 with
   | cons h1 h2=>cases h2;exact ⟨_,rfl,h1⟩
  have hu0:vs[0]?=some u:=by
   have:(vs.take 1)[0]?=some u:=by rw [hu1];rfl
   rwa [List.getElem?_take_of_lt (by omega)] at this
  have hone:=hu2.one hl
  obtain ⟨b',off,k1,⟨u0,k2⟩,k3,k4⟩:=hs.storeE (x:=x) (x':=v) (x0:=v) hpl (fun _ _ h=>by cases h) he rfl (by rw [DV.leaf_cells hx,DV.leaf_cells hl];rfl) hu2 hone
  have hb:b'=b∧off=0:=by
   simp only [Value.pointer.injEq,Option.some.injEq,Addr.mk.injEq] at k1
   refine ⟨k1.1.symm,?_⟩
   have:=k1.2.1
   omega
  obtain ⟨rfl,rfl⟩:=hb
  have hrun:=run_copy_cells (P:=P) w dT sT o.type el b' 0 1 c' ⟨bk,o2,none⟩ 1 c2 [u] hu hsz (by simp) (fun j z hj=>by
   have hj0:j=0:=by
    have:=(lS.1 hj).1
    simp at this;omega
   subst hj0
   simp only [List.getElem?_cons_zero,Option.some.injEq] at hj
   subst hj
   have:=hh 0 u hu0
   rw [Cv];simpa using this) (fun j hj=>by
   have hj0:j=0:=by simp at hj;omega
   subst hj0
   rw [Nat.zero_add,k2];rfl) (fun j hj=>by
   have hj0:j=0:=by simp at hj;omega
   subst hj0
   exact k3) (fun z hz=>by rw [List.mem_singleton] at hz;subst hz;exact hone)
  refine ⟨.int .i64 1,w.setCell ⟨b',0,none⟩ u,I,μ,O,?_,k4,.of_rep (.i _ _)⟩
  have hset:w.setCells b' 0 [u]=w.setCell ⟨b',0,none⟩ u:=rfl
  have hl1:[v].length=1:=rfl
  rw [hl1] at hev2
  simp [execOp,ho,resolve,hc,ha,hty,invoke,builtin,hev,hev2,hrun,hset,Result.andThen,goInt]
end
end Go.FL
namespace Go.FL
open Go Go.Proofs
theorem AW.condF {P:Program} {C:Cx} {c1 c2:Code} {Q:Exit→Env→Af→Prop} {env:Env} {H:Af} (h:AW P C c2 Q env H) : AW P C (.cond (.const (.bool false)) c1 c2) Q env H:=fun X a w I μ O g1 g2 g3 hs =>
 wpIn_cond_split (t:=false) rfl (fun e=>by cases e) fun _=>h X a w I μ O g1 g2 g3 hs
theorem QF {n:Int} (h:n=0∨n=1) : E5 1 n=some (0,n):=by
 rcases h with rfl|rfl<;>rfl
theorem SC {n:Int} (h:n=0∨n=1) : Fn Tryz.prog 163 [.i .u64 1,.i .u64 n] (.tup [.d (.i .u64 0),.d (.i .u64 n)]):=by
 refine Fn.of (rs:=[.tmp 4,.tmp 5]) (nt:=30) Tryz.func163 rfl rfl rfl (by simp) rfl ?_;refine .seq ?_;refine .region ?_;refine asd ?_;refine asd ?_;refine rn ?_;refine .gh (Gh.keep [0,1,4,5] rfl) ?_;refine .seq ?_;refine .condF ?_;refine .skip ?_
 show AW _ _ _ _ _ _
 refine .seq ?_;refine .region ?_;refine vk (Aa) ?_;refine vk (Aa) ?_;refine vk (VOK.tupd (vs:=[.i .u64 0,.i .u64 n]) (Am (Ih (QF h)) Tryz.call178)) ?_;refine vk (Aa) ?_;refine vk (vex) ?_;refine vk (vex) ?_;refine asd ?_;refine asd ?_;refine rn ?_;refine .gh (Gh.keep [4,5,8,9] rfl) ?_;refine .seq ?_;refine .region ?_;refine vk (Aa) ?_;refine vk (Aa) ?_;refine asd ?_;refine asd ?_;refine rn ?_;refine .gh (Gh.keep [4,5] rfl) ?_;refine .ret ?_
 exact ⟨by decide,rfl,rfl,rfl⟩
theorem wu1 : IntKind.u64.wrap 1=1:=rfl
theorem wu0 : IntKind.u64.wrap 0=0:=rfl
theorem wi0 : IntKind.i64.wrap 0=0:=rfl
theorem wi1 : IntKind.i64.wrap 1=1:=rfl
theorem wul (v:Int) : IntKind.u64.wrap ((List.length [v] : Nat) : Int)=1:=rfl
theorem gcS : (Tryz.prog.info? 3).map (·.size)=some 1:=by kernel_rfl
theorem guI : Tryz.prog.underlying 24=some (.slice 3):=by kernel_rfl
theorem SS (v:Int) : Fn Tryz.prog 125 [.sl (Is [v]),.i .i64 1] (.d (.sl (Is [v]))):=by
 refine Fn.of (rs:=[.tmp 4]) (nt:=48) Tryz.func125 rfl rfl rfl (by simp) rfl ?_;refine .seq ?_;refine .region ?_;refine asn ?_;refine rn ?_;refine .gh (Gh.keep [0,1,4] rfl) ?_;refine .seq ?_;refine .seq ?_;refine .region ?_;refine vk (Aa) ?_;refine vk (vbi) ?_;refine rn ?_;refine .gh (Gh.keep [0,1,4,10] rfl) ?_;refine cnf (show decide ((1:Int)<0)=false from rfl) ?_;refine .skip ?_
 show AW _ _ _ _ _ _
 refine .seq ?_;refine .region ?_;refine vk (Aa) ?_;refine vk (AR (Ad _) (A0 _) AS) ?_;refine vk (KW (q1:=.i64) 1 (wul v) (by kernel_rfl) (by kernel_rfl)) ?_;refine vk (Aa) ?_;refine vk (KW (q1:=.i64) 1 wu1 (by kernel_rfl) (by kernel_rfl)) ?_;refine vk (VOK.tupd (vs:=[.i .u64 0,.i .u64 1]) (Am (SC (.inr rfl)) Tryz.call163)) ?_;refine vk (Aa) ?_;refine vk (vex) ?_;refine vk (vex) ?_;refine asd ?_;refine asd ?_;refine rn ?_;refine .gh (Gh.keep [0,4,5,6] rfl) ?_;refine .seq ?_;refine .seq ?_;refine .region ?_;refine vk (Aa) ?_;refine vk (vbi) ?_;refine vk (VOK.lit (Aa) (show decide ((0:Int)<0)=false from rfl)) ?_;refine vk (Aa) ?_;refine vk (vbi) ?_;refine vk (An) ?_;refine rn ?_;refine .gh (Gh.keep [0,4,6,26] rfl) ?_;refine cnf (show decide ((9223372036854775807:Int)<1)=false from rfl) ?_;refine .skip ?_
 show AW _ _ _ _ _ _
 refine .seq ?_;refine .region ?_;refine vk (Aa) ?_;refine vk (KW (q1:=.u64) 1 wi1 (by kernel_rfl) (by kernel_rfl)) ?_
 refine mk' (F:=Is) (x0:=0) (zl:=1) 1 Fi rfl (by omega) ?_ BL (by decide)
 refine aso ?_;refine rn ?_;refine .gh (Gh.keep [0,4,7] rfl) ?_;refine .seq ?_;refine .region ?_;refine mvo ?_;refine vk (Aa) ?_
 refine cp1 (s:=7) ?_ guI gcS (by kernel_rfl)
 refine asd ?_;refine rn ?_;refine .gh (Gh.keep [4,7,8] rfl) ?_;refine .seq ?_;refine .block ?_
 refine .loop (.round ?_)
 refine .seq ?_;refine .seq ?_;refine .region ?_;refine vk (Aa) ?_;refine mvo ?_;refine vk (UL AS) ?_;refine vk (vbi) ?_;refine rn ?_;refine .gh (Gh.keep [4,7,8,37] rfl) ?_;refine cnf (show decide ((1:Int)<(1:Int))=false from rfl) ?_;refine .exit ?_
 show AW _ _ _ _ _ _
 refine .gh (Gh.keep [4,7] rfl) ?_;refine .seq ?_;refine .region ?_;refine fz (p:=.t 7) ?_;refine vk (Aa) ?_;refine asd ?_;refine rn ?_;refine .gh (Gh.keep [4] rfl) ?_;refine .ret ?_
 exact ⟨rfl,rfl⟩
theorem TL (v:Int) : Fn Tryz.prog 125 [.sl (Is [v]),.i .i64 0] (.d (.sl (Is []))):=by
 refine Fn.of (rs:=[.tmp 4]) (nt:=48) Tryz.func125 rfl rfl rfl (by simp) rfl ?_;refine .seq ?_;refine .region ?_;refine asn ?_;refine rn ?_;refine .gh (Gh.keep [0,1,4] rfl) ?_;refine .seq ?_;refine .seq ?_;refine .region ?_;refine vk (Aa) ?_;refine vk (vbi) ?_;refine rn ?_;refine .gh (Gh.keep [0,1,4,10] rfl) ?_;refine cnf (show decide ((0:Int)<0)=false from rfl) ?_;refine .skip ?_
 show AW _ _ _ _ _ _
 refine .seq ?_;refine .region ?_;refine vk (Aa) ?_;refine vk (AR (Ad _) (A0 _) AS) ?_;refine vk (KW (q1:=.i64) 1 (wul v) (by kernel_rfl) (by kernel_rfl)) ?_;refine vk (Aa) ?_;refine vk (KW (q1:=.i64) 0 wu0 (by kernel_rfl) (by kernel_rfl)) ?_;refine vk (VOK.tupd (vs:=[.i .u64 0,.i .u64 0]) (Am (SC (.inl rfl)) Tryz.call163)) ?_;refine vk (Aa) ?_;refine vk (vex) ?_;refine vk (vex) ?_;refine asd ?_;refine asd ?_;refine rn ?_;refine .gh (Gh.keep [0,4,5,6] rfl) ?_;refine .seq ?_;refine .seq ?_;refine .region ?_;refine vk (Aa) ?_;refine vk (vbi) ?_;refine vk (VOK.lit (Aa) (show decide ((0:Int)<0)=false from rfl)) ?_;refine vk (Aa) ?_;refine vk (vbi) ?_;refine vk (An) ?_;refine rn ?_;refine .gh (Gh.keep [0,4,6,26] rfl) ?_;refine cnf (show decide ((9223372036854775807:Int)<0)=false from rfl) ?_;refine .skip ?_
 show AW _ _ _ _ _ _
 refine .seq ?_;refine .region ?_;refine vk (Aa) ?_;refine vk (KW (q1:=.u64) 0 wi0 (by kernel_rfl) (by kernel_rfl)) ?_
 refine mk' (F:=Is) (x0:=0) (zl:=0) 0 Fi rfl (by omega) ?_ BL (by decide)
 refine aso ?_;refine rn ?_;refine .gh (Gh.keep [0,4,7] rfl) ?_;refine .seq ?_;refine .region ?_;refine mvo ?_;refine vk (Aa) ?_
 refine cp0 (s:=7) ?_ guI gcS
 refine asd ?_;refine rn ?_;refine .gh (Gh.keep [4,7,8] rfl) ?_;refine .seq ?_;refine .block ?_
 refine .loop (.round ?_)
 refine .seq ?_;refine .seq ?_;refine .region ?_;refine vk (Aa) ?_;refine mvo ?_;refine vk (UL AS) ?_;refine vk (vbi) ?_;refine rn ?_;refine .gh (Gh.keep [4,7,8,37] rfl) ?_;refine cnf (show decide ((0:Int)<(0:Int))=false from rfl) ?_;refine .exit ?_
 show AW _ _ _ _ _ _
 refine .gh (Gh.keep [4,7] rfl) ?_;refine .seq ?_;refine .region ?_;refine fz (p:=.t 7) ?_;refine vk (Aa) ?_;refine asd ?_;refine rn ?_;refine .gh (Gh.keep [4] rfl) ?_;refine .ret ?_
 exact ⟨rfl,rfl⟩
def Ow (xs:List Int) (n:Int) : Option (List Int):=match xs with
 | [v]=>if n=0 then some [] else if n=1 then some [v] else none
 | _=>none
theorem Pe {xs:List Int} {n:Int} {r:List Int} (h:Ow xs n=some r) : Fn Tryz.prog 125 [.sl (Is xs),.i .i64 n] (.d (.sl (Is r))):=by
 unfold Ow at h
 split at h
 ·rename_i v
  by_cases h0:n=0
  ·subst h0
   rw [if_pos rfl] at h
   cases h
   exact TL v
  rw [if_neg h0] at h
  by_cases h1:n=1
  ·subst h1
   rw [if_pos rfl] at h
   cases h
   exact SS v
  ·rw [if_neg h1] at h;cases h
 ·cases h
def Fg (a0:Arr) (a1:Int) : Option (Arr):=(if ((List.length a0.shape:Nat) : Int)=0 then none else (some (a0)))
theorem IW {a0:Arr} {a1:Int} {r:Arr} (h:Fg a0 a1=some r) :
  Fn Tryz.prog 136 [.ag [.sl (Is a0.shape),.sl (Its a0.items)],.i .i64 a1] (.d (.ag [.sl (Is r.shape),.sl (Its r.items)])):=by
 unfold Fg at h
 refine Fn.ofC (rs:=[.cell 4 27]) (nt:=18) Tryz.func136 rfl rfl rfl (by simp) rfl ?_;refine .sr ?_;refine vk (vbx) ?_;refine vk (van (Aj As) Aw) ?_;refine rk [1,2,4] ?_;refine .seq ?_;refine .sr ?_;refine vk (vfa Ai) ?_;refine vk (Ah Ax) ?_;refine vk (AR (Ad _) (A0 _) AS) ?_;refine vk (vbi) ?_;refine rk [1,2,4,8] ?_
 rcases brc h with ⟨hc,h⟩|⟨hc,h⟩
 ·refine cnt (dT hc) ?_
  refine .sr ?_;refine vk (Aa) ?_;refine vk ((G5 (Cy [a1]) BL).deep) ?_;refine vk (vfa AD) ?_;refine vk (Ah Bm) ?_;refine vk (Aa) ?_;refine vk (vmx) ?_
  exact nomatch h
 refine cnf (dF hc) ?_;refine .skip ?_
 show AW _ _ _ _ _ _
 refine .sr ?_;refine vk (AH Ac Ab) ?_
 refine stn ?_ Ab (by decide)
 refine rk [4] ?_;refine .ret ?_
 cases h
 exact ⟨_,⟨.inr rfl,Ac,Ab,p2⟩,rfl⟩
def D3 (a0:Int) : Option (Bool):=(some ((decide (a0<0))))
theorem G1 {a0:Int} {r:Bool} (h:D3 a0=some r) :
  Fn Tryz.prog 137 [.i .i64 a0] (.d (.b r)):=by
 unfold D3 at h
 refine Fn.o1 2 5 Tryz.func137 ?_;refine .sr ?_;refine ar [0,2] ?_;refine .sr ?_;refine vk (Aa) ?_;refine vk (vbi) ?_;refine ar [2] ?_;refine .ret ?_
 cases h
 exact ⟨rfl,rfl⟩
def EK (a0:Int) : Option (Bool):=(some (((!(decide (a0=0)))&&(!(decide (a0=1))))))
theorem HX {a0:Int} {r:Bool} (h:EK a0=some r) :
  Fn Tryz.prog 138 [.i .i64 a0] (.d (.b r)):=by
 unfold EK at h
 refine Fn.o1 2 9 Tryz.func138 ?_;refine .sr ?_;refine ar [0,2] ?_;refine .seq ?_;refine AW.mr (σ:=Unit) (fun _=>True) (fun _=>[(2,.d (.b ((!(decide (a0=0)))&&(!(decide (a0=1))))))]) (fun _=>[]) ?_ ?_
 ·skip
  refine .region ?_;refine vk (Aa) ?_;refine vk (vbi) ?_
  by_cases hc:a0=0
  ·have hb0:(!(decide (a0=0)))=false:=(ntf (dT hc))
   refine vk (VOK.lit (Aa) hb0) ?_;refine gf ?_;refine gf ?_;refine vk (An) ?_;refine asd ?_;refine RL.gk [2] ?_;refine .nil ?_
   exact jr () trivial (by simp only [hb0];rfl)
  have hb0:(!(decide (a0=0)))=true:=(ntt (dF hc))
  refine vk (VOK.lit (Aa) hb0) ?_;refine vk (Aa) ?_;refine vk (vbi) ?_;refine vk (An) ?_;refine asd ?_;refine RL.gk [2] ?_;refine .nil ?_
  exact jr () trivial (by simp only [hb0];rfl)
 rintro _ _
 refine .ret ?_
 cases h
 exact ⟨rfl,rfl⟩
def Bg (z3:(List Int)) (K1:Arr→Int→(List Int)→Option (Arr×Int)) : Nat→Arr→Int→(List Int)→Int→Option (Arr×Int)
 | 0,_,_,_,_=>none
 | k+1,s11,s12,s13,s14=>(if s14<((List.length z3:Nat):Int) then ((rd? z3 s14).bind fun x15=>(if (w64 (4096-((List.length s13:Nat):Int)))<x15 then (some ((Arr.mk [] []),8)) else ((Ow ([s14]) x15).bind fun x16=>((ap? 17592186044416 s13 x16).bind fun x17=>(Bg z3 K1 k s11 s12 x17 (w64 (s14+1))))))) else (K1 s11 s12 s13))
def Be (a0:Arr) (a1:Arr) (a2:Int) : Option (Arr×Int):=((BG a0).bind fun x1=>(if x1.2=0 then ((Fg a1 ((List.length x1.1:Nat) : Int)).bind fun x2=>(jn (fun (z3:(List Int))=>((rd? x2.shape a2).bind fun x6=>(if ((List.length z3:Nat) : Int)=x6 then ((AF x1.1 (⟨.fn 137 [] [],fun x=>D3 x⟩ : Bt)).bind fun x7=>(if x7=true then (some ((Arr.mk [] []),3)) else (jn (fun (z8:Arr) (z9:Int) (z10:(List Int))=>((C5 x2 a2 z10).bind fun x18=>(some (x18.1,x18.2)))) fun K1=>(Bg z3 K1 AK (Arr.mk [] []) 0 [] 0)))) else (some ((Arr.mk [] []),5))))) fun K0=>(if ((List.length x1.1:Nat) : Int)=1 then ((rd? x2.shape a2).bind fun x4=>((Ow x1.1 x4).bind fun x5=>(K0 x5))) else (K0 x1.1)))) else (some ((Arr.mk [] []),x1.2))))
theorem E7 {a0:Arr} {a1:Arr} {a2:Int} {r:Arr×Int} (h:Be a0 a1 a2=some r) :
  Fn Tryz.prog 83 [.ag [.sl (Is a0.shape),.sl (Its a0.items)],.ag [.sl (Is a1.shape),.sl (Its a1.items)],.i .i64 a2] (.tup [.d (.ag [.sl (Is r.1.shape),.sl (Its r.1.items)]),.d (.i .i64 r.2)]):=by
 unfold Be at h
 refine Fn.ofC (rs:=[.cell 6 27,.tmp 7]) (nt:=78) Tryz.func83 rfl rfl rfl (by simp) rfl ?_;refine .sr ?_;refine vk (vbx) ?_;refine vk (vbn) ?_;refine vk (van (Aj As) Aw) ?_;refine ar [2,3,4,6,7] ?_;refine .sr ?_;refine vk (AH Ac Ab) ?_
 obtain ⟨x1,g1,h⟩:=bnd h
 refine vk (VOK.tupd (vs:=[.sl (Is x1.1),.i .i64 x1.2]) (Am (DA g1) Tryz.call35)) ?_;refine vk (Aa) ?_;refine vk (vex) ?_;refine vk (vex) ?_;refine asd ?_;refine ar [2,4,6,7,8,9] ?_;refine .seq ?_;refine .sr ?_;refine vk (Aa) ?_;refine vk (vbi) ?_;refine rk [2,4,6,7,8,9,20] ?_
 rcases brc h with ⟨hc,h⟩|⟨hc,h⟩
 ·refine cnf (ntf (dT hc)) ?_
  refine .skip ?_
  show AW _ _ _ _ _ _
  refine .sr ?_;refine vk (Fs Ac Ab) ?_;refine vk (Aa) ?_;refine vk (AR (Ad _) (A0 _) AS) ?_
  obtain ⟨x2,g2,h⟩:=bnd h
  refine vk (Am (IW g2) Tryz.call136) ?_
  refine stn ?_ Ab (by decide)
  refine RL.gh (Gh.nbp (t:=4) rfl) ?_;refine rk [2,4,6,7,8] ?_;refine .sr ?_;refine vk (Aa) ?_;refine ar [2,4,6,7,8,10] ?_;refine .seq ?_;refine .sr ?_;refine vk (Aa) ?_;refine vk (AR (Ad _) (A0 _) AS) ?_;refine vk (vbi) ?_;refine rk [2,4,6,7,8,10,30] ?_
  obtain ⟨K0,hK0,h⟩:=AQ h
  refine AW.mr (σ:=(List Int)) (fun p=>K0 p=some r) (fun p=>[(2,.d (.i .i64 a2)),(4,.d (.ptr [.sl (Is x2.shape),.sl (Its x2.items)])),(6,.nb [.sl (Is []),.sl (Its [])]),(7,.d (.i .i64 0)),(8,.d (.sl (Is x1.1))),(10,.d (.sl (Is p)))]) (fun p=>[]) ?_ ?_
  ·skip
   rcases brc h with ⟨hc,h⟩|⟨hc,h⟩
   ·refine cnt (dT hc) ?_
    refine .region ?_;refine vk (Aa) ?_;refine vk (vfa Ai) ?_;refine vk (Ah Ax) ?_;refine vk (Aa) ?_
    obtain ⟨x4,g4,h⟩:=bnd h
    obtain ⟨n4,p04,q4⟩:=Ag g4
    refine vk (vix n4 p04 (AT q4) rfl AJ) ?_;refine vk (Ah Ap) ?_
    obtain ⟨x5,g5,h⟩:=bnd h
    refine vk (Am (Pe g5) Tryz.call125) ?_;refine asd ?_;refine RL.gk [2,4,6,7,8,10] ?_;refine .nil ?_
    exact jr (x5) h
   refine cnf (dF hc) ?_;refine .gk [2,4,6,7,8,10] ?_;refine .skip ?_
   exact jr (x1.1) h
  rintro z3 h
  try dsimp only at h ⊢
  subst hK0
  show AW _ _ _ _ _ _
  refine .seq ?_;refine .block ?_;refine .sr ?_;refine vk (Aa) ?_;refine vk (AR (Ad _) (A0 _) AS) ?_;refine vk (vfa Ai) ?_;refine vk (Ah Ax) ?_;refine vk (Aa) ?_
  obtain ⟨x6,g6,h⟩:=bnd h
  obtain ⟨n6,p06,q6⟩:=Ag g6
  refine vk (vix n6 p06 (AT q6) rfl AJ) ?_;refine vk (Ah Ap) ?_;refine vk (vbi) ?_;refine ar [2,4,6,7,8,10,38] ?_
  rcases brc h with ⟨hc,h⟩|⟨hc,h⟩
  ·refine cnf (ntf (dT hc)) ?_
   refine .sr ?_;refine vk (Aa) ?_
   obtain ⟨x7,g7,h⟩:=bnd h
   refine vk (Am (Bk (DY Tryz.call137 (fun _ _ h=>G1 h)) g7) Tryz.call62) ?_;refine ar [2,4,6,7,10,48] ?_
   rcases brc h with ⟨hc,h⟩|⟨hc,h⟩
   ·refine cnt hc ?_
    refine .sr ?_;refine vk (vbd Bl As Aw) ?_
    refine stn ?_ Ab (by decide)
    refine ar [2,4,6,7,10] ?_;refine .ret ?_
    cases h
    exact ⟨_,_,⟨.inr rfl,Ac,Ab,p2⟩,rfl,rfl⟩
   refine cnf (bf hc) ?_;refine .skip ?_
   show AW _ _ _ _ _ _
   refine .sr ?_;refine asn ?_;refine rk [2,4,6,7,10,11] ?_;refine .seq ?_;refine .sr ?_;refine vk (Aa) ?_;refine vk (AR (Ad _) (A0 _) AS) ?_;refine vk (Aa) ?_;refine rk [2,4,6,7,11,52,53,54] ?_
   obtain ⟨K1,hK1,h⟩:=AQ h
   refine AW.mr (σ:=Arr×Int×(List Int)) (fun p=>K1 p.1 p.2.1 p.2.2=some r) (fun p=>[(2,.d (.i .i64 a2)),(4,.d (.ptr [.sl (Is x2.shape),.sl (Its x2.items)])),(6,.nb [.sl (Is p.1.shape),.sl (Its p.1.items)]),(7,.d (.i .i64 p.2.1)),(11,.own 3 (Is p.2.2))]) (fun p=>[]) ?_ ?_
   ·skip
    refine .block ?_;refine .gh (Gh.nlOwn (t:=11) 3 (by rw [B4];decide) rfl) ?_
    refine .loop (.gk [2,4,6,7,11,52,53,54] ?_)
    refine AL.ind (σ:=Nat×Arr×Int×(List Int)×Int) (m:=fun p=>p.1) (e:=fun p=>[(2,.d (.i .i64 a2)),(4,.d (.ptr [.sl (Is x2.shape),.sl (Its x2.items)])),(6,.nb [.sl (Is p.2.1.shape),.sl (Its p.2.1.items)]),(7,.d (.i .i64 p.2.2.1)),(11,.own 3 (Is p.2.2.2.1)),(52,.d (.sl (Is z3))),(53,.d (.i .i64 ((List.length z3:Nat):Int))),(54,.d (.i .i64 p.2.2.2.2))]) (h:=fun p=>[]) (I:=fun p=>Bg z3 K1 p.1 p.2.1 p.2.2.1 p.2.2.2.1 p.2.2.2.2=some r) ?_ (AK,(Arr.mk [] []),0,[],0) h
    rintro ⟨k,s11,s12,s13,s14⟩ h ih
    dsimp only at h ih ⊢
    rcases k with _|k
    ·rw [Bg] at h;cases h
    rw [Bg] at h
    refine .sr ?_;refine vk (vbi) ?_;refine rk [2,4,6,7,11,52,53,54,55] ?_;refine .seq ?_
    rcases brc h with ⟨hc,h⟩|⟨hc,h⟩
    ·refine cnt (dT hc) ?_
     refine .skip ?_
     show AW _ _ _ _ _ _
     refine .seq ?_;refine .block ?_;refine .sr ?_;refine vk (Aa) ?_
     obtain ⟨x15,g15,h⟩:=bnd h
     obtain ⟨n15,p015,q15⟩:=Ag g15
     refine vk (vix n15 p015 (AT q15) rfl AJ) ?_;refine vk (Ah Ap) ?_;refine asd ?_;refine ar [2,4,6,7,11,12,13,52,53,54] ?_;refine .seq ?_;refine .sr ?_;refine vk (Aa) ?_;refine mvo ?_;refine vk (Rq (Ad _) AS) ?_;refine vk (vbi) ?_;refine vk (vbi) ?_;refine rk [2,4,6,7,11,12,13,52,53,54,63] ?_
     rcases brc h with ⟨hc,h⟩|⟨hc,h⟩
     ·refine cnt (dT hc) ?_
      refine .sr ?_;refine vk (vbd Bl As Aw) ?_
      refine stn ?_ Ab (by decide)
      refine ar [2,4,6,7,11,12,13,52,53,54] ?_;refine .ret ?_
      cases h
      exact ⟨_,_,⟨.inr rfl,Ac,Ab,p2⟩,rfl,rfl⟩
     refine cnf (dF hc) ?_;refine .skip ?_
     show AW _ _ _ _ _ _
     refine .region ?_;refine mvo ?_;refine vk (Aa) ?_;refine vk ((G5 (Cy [s14]) BL).deep) ?_;refine vk (Aa) ?_
     obtain ⟨x16,g16,h⟩:=bnd h
     refine vk (Am (Pe g16) Tryz.call125) ?_
     obtain ⟨x17,g17,h⟩:=bnd h
     refine M4 HG g17 IV ?_ FU Ad BL
     refine aso ?_;refine .nil ?_
     show AW _ _ _ _ _ _
     refine .gk [2,4,6,7,11,52,53,54] ?_;refine .region ?_;refine vk (vbi) ?_;refine vk (Aa) ?_;refine .nil ?_;refine AL.gk [2,4,6,7,11,52,53,54] ?_
     exact ih (k,s11,s12,x17,(w64 (s14+1))) h (Nat.lt_succ_self _)
    refine cnf (dF hc) ?_;refine .gk [2,4,6,7,11] ?_;refine .exit ?_
    exact jr (s11,s12,s13) h
   rintro ⟨z8,z9,z10⟩ h
   try dsimp only at h ⊢
   subst hK1
   show AW _ _ _ _ _ _
   refine .sr ?_;refine vk (AH Ac Ab) ?_;refine vk (Aa) ?_;refine fz (p:=.t 11) ?_;refine vk (Aa) ?_
   obtain ⟨x18,g18,h⟩:=bnd h
   refine vk (VOK.tupd (vs:=[.ag [.sl (Is x18.1.shape),.sl (Its x18.1.items)],.i .i64 x18.2]) (Am (Et g18) Tryz.call135)) ?_;refine vk (vex) ?_;refine vk (vex) ?_
   refine stn ?_ Ab (by decide)
   refine ar [6,7] ?_;refine .ret ?_
   cases h
   exact ⟨_,_,⟨.inr rfl,Ac,Ab,p2⟩,rfl,rfl⟩
  refine cnt (ntt (dF hc)) ?_;refine .sr ?_;refine vk (vbd Bl As Aw) ?_
  refine stn ?_ Ab (by decide)
  refine ar [2,4,6,7,10] ?_;refine .ret ?_
  cases h
  exact ⟨_,_,⟨.inr rfl,Ac,Ab,p2⟩,rfl,rfl⟩
 refine cnt (ntt (dF hc)) ?_;refine .sr ?_;refine vk (vbd Bl As Aw) ?_;refine vk (Aa) ?_
 refine stn ?_ Ab (by decide)
 refine ar [2,4,6,7,8] ?_;refine .ret ?_
 cases h
 exact ⟨_,_,⟨.inr rfl,Ac,Ab,p2⟩,rfl,rfl⟩
def Bn (x1:(List Int)×Int) (K0:(List Int)→Int→Option (Arr×Int)) : Nat→(List Int)→Int→Int→Option (Arr×Int)
 | 0,_,_,_=>none
 | k+1,s6,s7,s8=>(if s8<((List.length x1.1:Nat):Int) then (jn (fun (z9:(List Int)) (z10:Int)=>(Bn x1 K0 k z9 z10 (w64 (s8+1)))) fun K2=>((rd? x1.1 s8).bind fun x11=>((rd? s6 s8).bind fun x12=>(if x11=1 then ((rd? (List.set s6 (Int.toNat s8) (-1)) s8).bind fun x13=>(K2 (List.set (List.set s6 (Int.toNat s8) (-1)) (Int.toNat s8) s7) (w64 (s7+1)))) else (K2 (List.set s6 (Int.toNat s8) (-1)) s7))))) else (K0 s6 s7))
def Bq (a0:Arr) (a1:Arr) (a2:Int) : Option (Arr×Int):=((BG a0).bind fun x1=>(if x1.2=0 then ((AF x1.1 (⟨.fn 138 [] [],fun x=>EK x⟩ : Bt)).bind fun x2=>(if x2=true then (some ((Arr.mk [] []),3)) else ((D4 (0≤((List.length x1.1:Nat) : Int)∧((List.length x1.1:Nat) : Int)≤17592186044416)).bind fun x3=>(jn (fun (z4:(List Int)) (z5:Int)=>((Fg a1 z5).bind fun x14=>((rd? x14.shape a2).bind fun x15=>(if x15=z5 then ((C5 x14 a2 z4).bind fun x16=>(some (x16.1,x16.2))) else (some ((Arr.mk [] []),5)))))) fun K0=>(Bn x1 K0 AK (List.replicate (Int.toNat ((List.length x1.1:Nat) : Int)) (0:Int)) 0 0))))) else (some ((Arr.mk [] []),x1.2))))
theorem FI {a0:Arr} {a1:Arr} {a2:Int} {r:Arr×Int} (h:Bq a0 a1 a2=some r) :
  Fn Tryz.prog 84 [.ag [.sl (Is a0.shape),.sl (Its a0.items)],.ag [.sl (Is a1.shape),.sl (Its a1.items)],.i .i64 a2] (.tup [.d (.ag [.sl (Is r.1.shape),.sl (Its r.1.items)]),.d (.i .i64 r.2)]):=by
 unfold Bq at h
 refine Fn.ofC (rs:=[.cell 6 27,.tmp 7]) (nt:=65) Tryz.func84 rfl rfl rfl (by simp) rfl ?_;refine .sr ?_;refine vk (vbx) ?_;refine vk (vbn) ?_;refine vk (van (Aj As) Aw) ?_;refine ar [2,3,4,6,7] ?_;refine .sr ?_;refine vk (AH Ac Ab) ?_
 obtain ⟨x1,g1,h⟩:=bnd h
 refine vk (VOK.tupd (vs:=[.sl (Is x1.1),.i .i64 x1.2]) (Am (DA g1) Tryz.call35)) ?_;refine vk (Aa) ?_;refine vk (vex) ?_;refine vk (vex) ?_;refine asd ?_;refine ar [2,4,6,7,8,9] ?_;refine .seq ?_;refine .sr ?_;refine vk (Aa) ?_;refine vk (vbi) ?_;refine rk [2,4,6,7,8,9,20] ?_
 rcases brc h with ⟨hc,h⟩|⟨hc,h⟩
 ·refine cnf (ntf (dT hc)) ?_
  refine .skip ?_
  show AW _ _ _ _ _ _
  refine .seq ?_;refine .sr ?_;refine vk (Aa) ?_
  obtain ⟨x2,g2,h⟩:=bnd h
  refine vk (Am (Bk (DY Tryz.call138 (fun _ _ h=>HX h)) g2) Tryz.call62) ?_;refine rk [2,4,6,7,8,24] ?_
  rcases brc h with ⟨hc,h⟩|⟨hc,h⟩
  ·refine cnt hc ?_
   refine .sr ?_;refine vk (vbd Bl As Aw) ?_
   refine stn ?_ Ab (by decide)
   refine ar [2,4,6,7,8] ?_;refine .ret ?_
   cases h
   exact ⟨_,_,⟨.inr rfl,Ac,Ab,p2⟩,rfl,rfl⟩
  refine cnf (bf hc) ?_;refine .skip ?_
  show AW _ _ _ _ _ _
  refine .sr ?_;refine vk (Aa) ?_;refine vk (AR (Ad _) (A0 _) AS) ?_
  obtain ⟨x3,g3,h⟩:=bnd h
  have ghx3:=CJ g3
  refine mk' (F:=Is) (x0:=0) (zl:=((List.length x1.1:Nat):Int)) (Int.toNat ((List.length x1.1:Nat):Int)) Fi (by omega) (by omega) ?_ BL (by decide)
  refine aso ?_;refine rk [2,4,6,7,8,10] ?_;refine .sr ?_;refine ar [2,4,6,7,8,10,11] ?_;refine .seq ?_;refine .sr ?_;refine vk (Aa) ?_;refine vk (AR (Ad _) (A0 _) AS) ?_;refine vk (Aa) ?_;refine rk [2,4,6,7,10,11,29,30,31] ?_
  obtain ⟨K0,hK0,h⟩:=AQ h
  refine AW.mr (σ:=(List Int)×Int) (fun p=>K0 p.1 p.2=some r) (fun p=>[(2,.d (.i .i64 a2)),(4,.nb [.sl (Is a1.shape),.sl (Its a1.items)]),(6,.nb [.sl (Is []),.sl (Its [])]),(7,.d (.i .i64 0)),(10,.own 3 (Is p.1)),(11,.d (.i .i64 p.2))]) (fun p=>[]) ?_ ?_
  ·skip
   refine .block ?_
   refine .loop (.gk [2,4,6,7,10,11,29,30,31] ?_)
   refine AL.ind (σ:=Nat×(List Int)×Int×Int) (m:=fun p=>p.1) (e:=fun p=>[(2,.d (.i .i64 a2)),(4,.nb [.sl (Is a1.shape),.sl (Its a1.items)]),(6,.nb [.sl (Is []),.sl (Its [])]),(7,.d (.i .i64 0)),(10,.own 3 (Is p.2.1)),(11,.d (.i .i64 p.2.2.1)),(29,.d (.sl (Is x1.1))),(30,.d (.i .i64 ((List.length x1.1:Nat):Int))),(31,.d (.i .i64 p.2.2.2))]) (h:=fun p=>[]) (I:=fun p=>Bn x1 K0 p.1 p.2.1 p.2.2.1 p.2.2.2=some r) ?_ (AK,(List.replicate (Int.toNat ((List.length x1.1:Nat):Int)) (0:Int)),0,0) h
   rintro ⟨k,s6,s7,s8⟩ h ih
   dsimp only at h ih ⊢
   rcases k with _|k
   ·rw [Bn] at h;cases h
   rw [Bn] at h
   refine .sr ?_;refine vk (vbi) ?_;refine rk [2,4,6,7,10,11,29,30,31,32] ?_;refine .seq ?_
   rcases brc h with ⟨hc,h⟩|⟨hc,h⟩
   ·refine cnt (dT hc) ?_
    refine .skip ?_
    show AW _ _ _ _ _ _
    obtain ⟨K2,hK2,h⟩:=AQ h
    refine AW.mj (σ:=(List Int)×Int) (fun p=>K2 p.1 p.2=some r) (fun p=>[(2,.d (.i .i64 a2)),(4,.nb [.sl (Is a1.shape),.sl (Its a1.items)]),(6,.nb [.sl (Is []),.sl (Its [])]),(7,.d (.i .i64 0)),(10,.own 3 (Is p.1)),(11,.d (.i .i64 p.2)),(29,.d (.sl (Is x1.1))),(30,.d (.i .i64 ((List.length x1.1:Nat):Int))),(31,.d (.i .i64 s8))]) (fun p=>[]) ?_ ?_
    ·skip
     refine .block ?_;refine .sr ?_;refine vk (Aa) ?_
     obtain ⟨x11,g11,h⟩:=bnd h
     obtain ⟨n11,p011,q11⟩:=Ag g11
     refine vk (vix n11 p011 (AT q11) rfl AJ) ?_;refine vk (Ah Ap) ?_;refine asd ?_;refine ar [2,4,6,7,10,11,12,13,29,30,31] ?_;refine .sr ?_;refine mvo ?_;refine vk (Aa) ?_
     obtain ⟨x12,g12,h⟩:=bnd h
     obtain ⟨n12,p012,q12⟩:=Ag g12
     refine ixr (off:=0) (len:=(Is s6).length) n12 p012 (by rw [Ad];exact (lS.1 q12).1) ?_ AJ (by decide)
     refine IQ (F:=Is) (D:=fun x=>.i .i64 x) Ej (us:=s6) (n:=n12) (m:=Int.toNat s8) (x:=(-1)) (by rw [p012];rfl) ⟨_,by rw [Nat.zero_add];exact AT q12,rfl⟩ ?_ B4
     refine RL.gk [2,4,6,7,10,11,12,13,29,30,31,37] ?_;refine rk [2,4,6,7,10,11,12,13,29,30,31] ?_;refine .sr ?_;refine vk (Aa) ?_;refine vk (vbi) ?_;refine rk [2,4,6,7,10,11,12,29,30,31,40] ?_
     rcases brc h with ⟨hc,h⟩|⟨hc,h⟩
     ·refine cnt (dT hc) ?_
      refine .sr ?_;refine mvo ?_;refine vk (Aa) ?_;refine vk (Aa) ?_
      obtain ⟨x13,g13,h⟩:=bnd h
      obtain ⟨n13,p013,q13⟩:=Ag g13
      refine ixr (off:=0) (len:=(Is (List.set s6 (Int.toNat s8) (-1))).length) n13 p013 (by rw [Ad];exact (lS.1 q13).1) ?_ AJ (by decide)
      refine IQ (F:=Is) (D:=fun x=>.i .i64 x) Ej (us:=(List.set s6 (Int.toNat s8) (-1))) (n:=n13) (m:=Int.toNat s8) (x:=s7) (by rw [p013];rfl) ⟨_,by rw [Nat.zero_add];exact AT q13,rfl⟩ ?_ B4
      refine RL.gk [2,4,6,7,10,11,12,29,30,31,40,42,43] ?_;refine rk [2,4,6,7,10,11,29,30,31] ?_;refine .region ?_;refine vk (Aa) ?_;refine vk (vbi) ?_;refine asd ?_;refine RL.gk [2,4,6,7,10,11,29,30,31] ?_;refine .nil ?_
      exact jr ((List.set (List.set s6 (Int.toNat s8) (-1)) (Int.toNat s8) s7),(w64 (s7+1))) h
     refine cnf (dF hc) ?_;refine .gk [2,4,6,7,10,11,29,30,31] ?_;refine .skip ?_
     exact jr ((List.set s6 (Int.toNat s8) (-1)),s7) h
    rintro ⟨z9,z10⟩ h
    try dsimp only at h ⊢
    subst hK2
    refine .region ?_;refine vk (vbi) ?_;refine vk (Aa) ?_;refine .nil ?_;refine AL.gk [2,4,6,7,10,11,29,30,31] ?_
    exact ih (k,z9,z10,(w64 (s8+1))) h (Nat.lt_succ_self _)
   refine cnf (dF hc) ?_;refine .gk [2,4,6,7,10,11] ?_;refine .exit ?_
   exact jr (s6,s7) h
  rintro ⟨z4,z5⟩ h
  try dsimp only at h ⊢
  subst hK0
  show AW _ _ _ _ _ _
  refine .sr ?_;refine vk (Fs Ac Ab) ?_;refine vk (Aa) ?_
  obtain ⟨x14,g14,h⟩:=bnd h
  refine vk (Am (IW g14) Tryz.call136) ?_
  refine stn ?_ Ab (by decide)
  refine rk [2,4,6,7,10,11] ?_;refine .seq ?_;refine .seq ?_;refine .gh (Gh.nbp (t:=4) rfl) ?_;refine .region ?_;refine vk (vfa Ai) ?_;refine vk (Ah Ax) ?_;refine vk (Aa) ?_
  obtain ⟨x15,g15,h⟩:=bnd h
  obtain ⟨n15,p015,q15⟩:=Ag g15
  refine vk (vix n15 p015 (AT q15) rfl AJ) ?_;refine vk (Ah Ap) ?_;refine vk (Aa) ?_;refine vk (vbi) ?_;refine rk [2,4,6,7,10,57] ?_
  rcases brc h with ⟨hc,h⟩|⟨hc,h⟩
  ·refine cnf (ntf (dT hc)) ?_
   refine .skip ?_
   show AW _ _ _ _ _ _
   refine .sr ?_;refine vk (AH Ac Ab) ?_;refine vk (Aa) ?_;refine fz (p:=.t 10) ?_;refine vk (Aa) ?_
   obtain ⟨x16,g16,h⟩:=bnd h
   refine vk (VOK.tupd (vs:=[.ag [.sl (Is x16.1.shape),.sl (Its x16.1.items)],.i .i64 x16.2]) (Am (Et g16) Tryz.call135)) ?_;refine vk (vex) ?_;refine vk (vex) ?_
   refine stn ?_ Ab (by decide)
   refine ar [6,7] ?_;refine .ret ?_
   cases h
   exact ⟨_,_,⟨.inr rfl,Ac,Ab,p2⟩,rfl,rfl⟩
  refine cnt (ntt (dF hc)) ?_;refine .sr ?_;refine vk (vbd Bl As Aw) ?_
  refine stn ?_ Ab (by decide)
  refine ar [2,4,6,7,10] ?_;refine .ret ?_
  cases h
  exact ⟨_,_,⟨.inr rfl,Ac,Ab,p2⟩,rfl,rfl⟩
 refine cnt (ntt (dF hc)) ?_;refine .sr ?_;refine vk (vbd Bl As Aw) ?_;refine vk (Aa) ?_
 refine stn ?_ Ab (by decide)
 refine ar [2,4,6,7,8] ?_;refine .ret ?_
 cases h
 exact ⟨_,_,⟨.inr rfl,Ac,Ab,p2⟩,rfl,rfl⟩
theorem Fb : Tryz.prog.underlying 70=some (.map 21 69):=by kernel_rfl
def TO : List (Int×DV):=[(44,.fn 81 [] []),(9066,.fn 81 [] []),(9021,.fn 82 [] []),(8854,.fn 82 [] []),(47,.fn 83 [] []),(9023,.fn 83 [] []),(92,.fn 84 [] []),(9024,.fn 84 [] [])]
theorem S6 : Fn Tryz.prog 39 [] (.d (.mp (TO.map fun p=>.i .i32 p.1) (TO.map (·.2)))):=by
 refine Fn.o1 0 3 Tryz.func39 ?_;refine .sr ?_;refine asu ?_;refine rn ?_;refine .sr ?_;refine vk (Vz) ?_;refine JK Fb gkR freshK.nil ?_;refine JK Fb gkR (freshK.snoc (z:=9066) (z':=44) freshK.nil (by decide)) ?_;refine JK Fb gkR (freshK.snoc (z:=9021) (z':=9066) (freshK.snoc (z:=9021) (z':=44) freshK.nil (by decide)) (by decide)) ?_;refine JK Fb gkR (freshK.snoc (z:=8854) (z':=9021) (freshK.snoc (z:=8854) (z':=9066) (freshK.snoc (z:=8854) (z':=44) freshK.nil (by decide)) (by decide)) (by decide)) ?_;refine JK Fb gkR (freshK.snoc (z:=47) (z':=8854) (freshK.snoc (z:=47) (z':=9021) (freshK.snoc (z:=47) (z':=9066) (freshK.snoc (z:=47) (z':=44) freshK.nil (by decide)) (by decide)) (by decide)) (by decide)) ?_;refine JK Fb gkR (freshK.snoc (z:=9023) (z':=47) (freshK.snoc (z:=9023) (z':=8854) (freshK.snoc (z:=9023) (z':=9021) (freshK.snoc (z:=9023) (z':=9066) (freshK.snoc (z:=9023) (z':=44) freshK.nil (by decide)) (by decide)) (by decide)) (by decide)) (by decide)) ?_;refine JK Fb gkR (freshK.snoc (z:=92) (z':=9023) (freshK.snoc (z:=92) (z':=47) (freshK.snoc (z:=92) (z':=8854) (freshK.snoc (z:=92) (z':=9021) (freshK.snoc (z:=92) (z':=9066) (freshK.snoc (z:=92) (z':=44) freshK.nil (by decide)) (by decide)) (by decide)) (by decide)) (by decide)) (by decide)) ?_;refine JK Fb gkR (freshK.snoc (z:=9024) (z':=92) (freshK.snoc (z:=9024) (z':=9023) (freshK.snoc (z:=9024) (z':=47) (freshK.snoc (z:=9024) (z':=8854) (freshK.snoc (z:=9024) (z':=9021) (freshK.snoc (z:=9024) (z':=9066) (freshK.snoc (z:=9024) (z':=44) freshK.nil (by decide)) (by decide)) (by decide)) (by decide)) (by decide)) (by decide)) (by decide)) ?_;refine RL.gh (Gh.omf (t:=1) rfl) ?_;refine RL.gk [1] ?_;refine vk (Aa) ?_;refine asd ?_;refine rn ?_;refine .ret ?_
 exact ⟨rfl,rfl⟩
def JY : List (Int×CA):=[(44,⟨.fn 81 [] [],fun x=>DS x.1 x.2.1 x.2.2⟩),(9066,⟨.fn 81 [] [],fun x=>DS x.1 x.2.1 x.2.2⟩),(9021,⟨.fn 82 [] [],fun x=>EM x.1 x.2.1 x.2.2⟩),(8854,⟨.fn 82 [] [],fun x=>EM x.1 x.2.1 x.2.2⟩),(47,⟨.fn 83 [] [],fun x=>Be x.1 x.2.1 x.2.2⟩),(9023,⟨.fn 83 [] [],fun x=>Be x.1 x.2.1 x.2.2⟩),(92,⟨.fn 84 [] [],fun x=>Bq x.1 x.2.1 x.2.2⟩),(9024,⟨.fn 84 [] [],fun x=>Bq x.1 x.2.1 x.2.2⟩)]
theorem Sl : (JY.map (·.1)).Nodup:=by show List.Nodup [(44:Int),(9066:Int),(9021:Int),(8854:Int),(47:Int),(9023:Int),(92:Int),(9024:Int)];decide
theorem Re : ∀ p∈JY,DB p.2∧isF p.2.dv:=by
 intro p hp
 simp only [JY,List.mem_cons,List.not_mem_nil,or_false] at hp
 rcases hp with rfl|rfl|rfl|rfl|rfl|rfl|rfl|rfl
 ·exact ⟨DY Tryz.call81 (fun _ _ h=>Fh h),_,_,_,rfl⟩
 ·exact ⟨DY Tryz.call81 (fun _ _ h=>Fh h),_,_,_,rfl⟩
 ·exact ⟨DY Tryz.call82 (fun _ _ h=>Gn h),_,_,_,rfl⟩
 ·exact ⟨DY Tryz.call82 (fun _ _ h=>Gn h),_,_,_,rfl⟩
 ·exact ⟨DY Tryz.call83 (fun _ _ h=>E7 h),_,_,_,rfl⟩
 ·exact ⟨DY Tryz.call83 (fun _ _ h=>E7 h),_,_,_,rfl⟩
 ·exact ⟨DY Tryz.call84 (fun _ _ h=>FI h),_,_,_,rfl⟩
 ·exact ⟨DY Tryz.call84 (fun _ _ h=>FI h),_,_,_,rfl⟩
theorem SK {z:Int} {f:CA} (h:Gb JY z=some f) : DB f∧isF f.dv:=Re _ (KC h)
theorem Rt : Fn Tryz.prog 39 [] (.d (S2 .i32 JY)):=S6
end Go.FL
