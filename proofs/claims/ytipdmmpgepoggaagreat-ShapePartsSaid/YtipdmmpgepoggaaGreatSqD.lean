/-
  Part 4 of the base of the proofs: a logic of our own over the calculus, the contracts of the functions
-/
import Derived.Test.YtipdmmpgepoggaaGreatSqC
set_option linter.unusedVariables false
namespace Go.FL
open Go Go.Proofs
mutual
def tyI : Itm→Itm
 | .mk k _ _ b=>if k=1 then .mk 1 (ofQ 0) 0 [] else if k=2 then .mk 2 (false,[],[]) 32 [] else .mk 3 (false,[],[]) 0 (tyBs b)
def tyA : Arr→Arr
 | .mk s i=>.mk s (tyIs i)
def tyIs : List Itm→List Itm
 | []=>[]
 | x::xs=>tyI x::tyIs xs
def tyBs : List Arr→List Arr
 | []=>[]
 | a::_=>[tyA a]
end
theorem D8 (s:List Int) (i:List Itm) : (Arr.mk s i).shape=s:=rfl
theorem Dt (s:List Int) (i:List Itm) : (Arr.mk s i).items=i:=rfl
theorem Kl (k:Int) (n:RT) (c:Int) (b:List Arr) : (Itm.mk k n c b).kind=k:=rfl
theorem Tc (k:Int) (n:RT) (c:Int) (b:List Arr) : (Itm.mk k n c b).num=n:=rfl
theorem Tg (k:Int) (n:RT) (c:Int) (b:List Arr) : (Itm.mk k n c b).char=c:=rfl
theorem QN (k:Int) (n:RT) (c:Int) (b:List Arr) : (Itm.mk k n c b).box=b:=rfl
theorem Rl (xs:List Itm) : tyIs xs=xs.map tyI:=by induction xs with
 | nil=>simp [tyIs]
 | cons x xs ih=>simp [tyIs,ih]
theorem GT (a:Arr) : tyA a=.mk a.shape (a.items.map tyI):=by cases a;simp only [tyA,Rl];rfl
theorem ED : ∀ {xs:List Itm},rIs xs=true↔∀ x∈xs,rI x=true
 | []=>by simp [rIs]
 | x::xs=>by simp [rIs,ED (xs:=xs)]
theorem OW : ∀ {xs:List Arr},rBs xs=true↔∀ a∈xs,A7 a=false∧rA a=true
 | []=>by simp [rBs]
 | x::xs=>by simp [rBs,OW (xs:=xs)]
theorem Kv {x:Itm} (h:rI x=true) : (x.kind=1∧E1 x.num=true∧x.char=0∧x.box=[])∨(x.kind=2∧chB x.char=true∧x.num=(false,[],[])∧x.box=[])∨(x.kind=3∧x.num=(false,[],[])∧x.char=0∧∃ a,x.box=[a]∧A7 a=false∧rA a=true):=by
 rw [Ra] at h
 by_cases k1:x.kind=1
 ·rw [if_pos k1] at h;simp only [Bool.and_eq_true,decide_eq_true_eq] at h
  exact .inl ⟨k1,h.1,h.2.1,List.length_eq_zero_iff.1 h.2.2⟩
 rw [if_neg k1] at h
 by_cases k2:x.kind=2
 ·rw [if_pos k2] at h;simp only [Bool.and_eq_true,decide_eq_true_eq] at h
  exact .inr (.inl ⟨k2,h.1,(KE x).1 h.2.1,List.length_eq_zero_iff.1 h.2.2⟩)
 rw [if_neg k2] at h
 by_cases k3:x.kind=3
 ·rw [if_pos k3] at h;simp only [Bool.and_eq_true,decide_eq_true_eq] at h
  obtain ⟨a,ha⟩:=List.length_eq_one_iff.1 h.1
  refine .inr (.inr ⟨k3,(KE x).1 h.2.1,h.2.2.1,a,ha,OW.1 h.2.2.2 a (by simp [ha])⟩)
 ·rw [if_neg k3] at h;cases h
def SB (x:Itm) : Prop:=rI (tyI x)=true∧dI (tyI x)=dI x∧cI (tyI x)=cI x∧tyI (tyI x)=tyI x∧(tyI x).kind=x.kind∧okI (tyI x)
theorem NY {s:List Int} {i:List Itm} {f:Itm→Itm} (h:∀ x∈i,(f x).kind=x.kind) : A7 (.mk s (i.map f))=A7 (.mk s i):=by
 unfold A7
 match i with
 | []=>rfl
 | [x]=>simp only [D8,Dt,List.map,h x (by simp)]
 | x::y::r=>rfl
theorem OG {f:Itm→Itm} : ∀ {i:List Itm},(∀ x∈i,cI (f x)=cI x)→cIs (i.map f)=cIs i
 | [],_=>rfl
 | x::xs,h=>by simp only [List.map,cIs];rw [h x (by simp),OG fun y hy=>h y (by simp [hy])]
theorem O9 {f:Itm→Itm} : ∀ {i:List Itm},(∀ x∈i,dI (f x)=dI x)→dIs (i.map f)=dIs i
 | [],_=>rfl
 | x::xs,h=>by simp only [List.map,dIs];rw [h x (by simp),O9 fun y hy=>h y (by simp [hy])]
theorem Tv {a:Arr} (oa:okAr a) (hr:rA a=true) (ih:∀ x∈a.items,SB x) : rA (tyA a)=true∧dA (tyA a)=dA a∧cA (tyA a)=cA a∧tyA (tyA a)=tyA a∧A7 (tyA a)=A7 a∧okAr (tyA a):=by
 have o:=(BI a).1 oa
 have hs:A7 (tyA a)=A7 a:=by
  rw [GT,NY (fun x hx=>(ih x hx).2.2.2.2.1),Arr.eta]
 rw [Hw] at hr
 simp only [Bool.and_eq_true,decide_eq_true_eq] at hr
 refine ⟨?_,?_,?_,?_,hs,?_⟩
 ·rw [Hw,GT]
  simp only [D8,Dt,List.length_map,Bool.and_eq_true,decide_eq_true_eq]
  refine ⟨dT hr.1,hr.2.1,ED.2 fun x hx=>?_⟩
  obtain ⟨y,hy,rfl⟩:=List.mem_map.1 hx
  exact (ih y hy).1
 ·rw [Hz,Hz,hs,GT]
  simp only [Dt]
  rw [O9 fun x hx=>(ih x hx).2.1]
 ·rw [GG,GG,GT]
  simp only [Dt,List.length_map]
  rw [OG fun x hx=>(ih x hx).2.2.1]
 ·rw [GT,GT]
  simp only [D8,Dt,List.map_map,Arr.mk.injEq,true_and]
  exact List.map_congr_left fun x hx=>(ih x hx).2.2.2.1
 ·rw [BI,GT]
  simp only [D8,Dt,List.length_map]
  refine ⟨o.1,o.2.1,o.2.2.1,fun x hx=>?_⟩
  obtain ⟨y,hy,rfl⟩:=List.mem_map.1 hx
  exact (ih y hy).2.2.2.2.2
theorem Q5 (n:RT) (c:Int) (b:List Arr) : tyI (.mk 1 n c b)=.mk 1 (ofQ 0) 0 []:=by simp [tyI]
theorem RO (n:RT) (c:Int) (b:List Arr) : tyI (.mk 2 n c b)=.mk 2 (false,[],[]) 32 []:=by simp [tyI]
theorem Qy (n:RT) (c:Int) (a:Arr) : tyI (.mk 3 n c [a])=.mk 3 (false,[],[]) 0 [tyA a]:=by simp [tyI,tyBs]
theorem OV {r:RT} (h:I9 r=true) : okI (.mk 1 r 0 []):=by
 simp [okI,okAs,h]
theorem RI {c:Int} (h:chB c=true) : okI (.mk 2 (false,[],[]) c []):=by
 simp only [chB,Bool.and_eq_true,decide_eq_true_eq] at h
 refine ⟨by omega,rfl,by omega,by simp,trivial⟩
theorem SM {a:Arr} (h:okAr a) : okI (.mk 3 (false,[],[]) 0 [a]):=⟨by omega,rfl,by omega,by simp,h,trivial⟩
theorem Rd {r:RT} (h:E1 r=true) : rI (.mk 1 r 0 [])=true:=by simp [rI,h]
theorem Sj {c:Int} (h:chB c=true) : rI (.mk 2 (false,[],[]) c [])=true:=by simp [rI,h,Ec,Itm.num]
theorem TF {a:Arr} (h:rA a=true) (hs:A7 a=false) : rI (.mk 3 (false,[],[]) 0 [a])=true:=by simp [rI,rBs,h,hs,Ec,Itm.num]
theorem RE : ∀ (k:Nat) {x:Itm},x.size<k→okI x→rI x=true→SB x
 | 0,x,h,_,_=>by omega
 | k+1,x,h,ho,hr=>by
  have hc:=Kv hr
  cases x with
  | mk kd n c b =>
   simp only [Kl,Tc,Tg,QN] at hc
   unfold SB
   rcases hc with ⟨rfl,h1,rfl,rfl⟩|⟨rfl,h1,rfl,rfl⟩|⟨rfl,rfl,rfl,a,rfl,h2,h3⟩
   ·rw [Q5,Q5]
    exact ⟨Rd (I4 I6),rfl,rfl,rfl,rfl,OV (Hl I6)⟩
   ·rw [RO,RO]
    exact ⟨Sj rfl,rfl,rfl,rfl,rfl,RI rfl⟩
   ·have hb:a∈Itm.box (.mk 3 (false,[],[]) 0 [a]):=by simp [Itm.box]
    have hz:=G5 hb
    have oa:okAr a:=((EE _).1 ho).2.2.2.2 a hb
    have h3':=h3
    rw [Hw] at h3';simp only [Bool.and_eq_true] at h3'
    obtain ⟨p1,p2,p3,p4,p5,p6⟩:=Tv oa h3 fun y hy=>RE k (by have:=Im hy;omega) (((BI a).1 oa).2.2.2 y hy) (ED.1 h3'.2.2 y hy)
    rw [Qy,Qy,p4]
    refine ⟨TF p1 (by rw [p5,h2]),?_,?_,rfl,rfl,SM p6⟩
    ·simp only [dI,dBs,p2]
    ·simp only [cI,cBs,p3]
theorem N1 {x:Itm} (ho:okI x) (hr:rI x=true) : SB x:=RE _ (Nat.lt_succ_self _) ho hr
theorem KB : ∀ (k:Nat) {x:Itm},x.size<k→okI x→rI x=true→Em k x=some (tyI x)
 | 0,x,h,_,_=>by omega
 | k+1,x,h,ho,hr=>by
  have hc:=Kv hr
  cases x with
  | mk kd n c b =>
   simp only [Kl,Tc,Tg,QN] at hc
   rw [Em,FQ]
   rcases hc with ⟨rfl,h1,rfl,rfl⟩|⟨rfl,h1,rfl,rfl⟩|⟨rfl,rfl,rfl,a,rfl,h2,h3⟩
   ·rw [if_pos (Kl 1 n 0 []),Q5,Qs (by omega) (by omega),oB,Rat.intCast_zero,Kc (Hl I6),oB]
   ·rw [if_neg (by rw [Kl];decide),if_pos (Kl 2 _ c []),RO];rfl
   ·have hb:a∈Itm.box (.mk 3 (false,[],[]) 0 [a]):=by simp [Itm.box]
    have hz:=G5 hb
    have oa:okAr a:=((EE _).1 ho).2.2.2.2 a hb
    have h3':=h3
    rw [Hw] at h3';simp only [Bool.and_eq_true] at h3'
    have o:=(BI a).1 oa
    rw [if_neg (by rw [Kl];decide),if_neg (by rw [Kl];decide),QN,Fd,oB,Jb (h:=tyI) (fun y hy=>KB k (by have:=Im hy;omega) (o.2.2.2 y hy) (ED.1 h3'.2.2 y hy)) o.2.1 o.2.2.1,oB,Qy,GT]
theorem MY {x:Itm} (ho:okI x) (hr:rI x=true) : Ik x=some (tyI x):=KB _ (Nat.lt_succ_self _) ho hr
theorem IH {a:Arr} (h:rA a=true) : (szP a.shape).2=0∧(a.items.length:Int)=(if (szP a.shape).1<1 then 1 else (szP a.shape).1)∧∀ x∈a.items,rI x=true:=by
 rw [Hw] at h;simp only [Bool.and_eq_true,decide_eq_true_eq] at h
 exact ⟨h.1,h.2.1,ED.1 h.2.2⟩
theorem Qw {a:Arr} (ha:okAr a) : DT a=some (if (szP a.shape).1=0∨¬Be a then [] else a.items):=by
 have o:=(BI a).1 ha
 unfold DT
 rw [Ge o.2.1,oB]
 by_cases h0:(szP a.shape).1=0
 ·rw [if_pos h0,if_pos (.inl h0)];rfl
 rw [if_neg h0,GI ha,oB]
 by_cases h:Be a
 ·rw [dT h,if_neg (by rintro (q|q);exact h0 q;exact q h),Bool.not_true,oB,if_neg (by decide),Nv ha];rfl
 ·rw [dF h,if_pos (.inr h)];rfl
theorem LA {xs:List Itm} {f:Cd} {p:Itm→Bool} (hf:∀ x∈xs,f.g x=some (p x)) (K:Int→Option Int) (hl:xs.length≤17592186044416) : ∀ (n i k:Nat) (s:Int),n=xs.length-i→i≤xs.length→n<k →
  (As xs f K k s (i:Int)=K s∧(xs.drop i).any p=false)∨(∃ j:Nat,As xs f K k s (i:Int)=some (j:Int)∧(xs.drop i).any p=true)
 | _,_,0,_,_,_,h=>by omega
 | n,i,k+1,s,hn,hi,hk=>by
  rw [As]
  by_cases h:i<xs.length
  ·rw [if_pos (by omega),Cz h,oB,hf _ (List.getElem_mem h),oB,lC h,List.any_cons]
   by_cases hp:p xs[i]=true
   ·rw [if_pos hp,hp];exact .inr ⟨i,rfl,rfl⟩
   ·rw [if_neg hp,CB (by omega)]
    have:p xs[i]=false:=by simpa using hp
    rw [this,Bool.false_or]
    exact LA hf K hl (n-1) (i+1) k s (by omega) (by omega) (by omega)
  ·rw [if_neg (by omega),List.drop_of_length_le (by omega)];exact .inl ⟨rfl,rfl⟩
theorem Lf {xs:List Itm} {f:Cd} {p:Itm→Bool} (hf:∀ x∈xs,f.g x=some (p x)) (hl:xs.length≤17592186044416) : AK xs f=some (xs.any p):=by
 unfold AK Bb
 rw [B9]
 rcases LA hf (fun _=>some (-1)) hl xs.length 0 AN 0 rfl (Nat.zero_le _) (Cw (by omega)) with ⟨h1,h2⟩|⟨j,h1,h2⟩
 ·rw [show ((0:Nat):Int)=0 from rfl] at h1
  rw [h1,oB,List.drop_zero] at *
  rw [h2];rfl
 ·rw [show ((0:Nat):Int)=0 from rfl] at h1
  rw [h1,oB]
  rw [List.drop_zero] at h2
  rw [h2,dT (by omega)]
def DF (xs:List Itm) : List Int:=xs.map fun x=>((1+cI x:Nat) : Int)
theorem PI {x:Itm} (hx:okI x) (hr:Cs x) : ∀ a∈x.box,okAr a∧Be a∧cI x=cA a∧x.box=[a]:=fun a ha=>by
 have oa:=((EE x).1 hx).2.2.2.2 a ha
 rcases Kv hr.1 with ⟨_,_,_,h⟩|⟨_,_,_,h⟩|⟨_,_,_,b,h,h2,h3⟩
 ·rw [h] at ha;cases ha
 ·rw [h] at ha;cases ha
 ·have hb:=ha
  rw [h,List.mem_singleton] at hb
  subst hb
  have e1:cI x=cA a:=by rw [MO,h];simp [cBs]
  have e2:dI x=dA a:=by rw [Pk,h];simp [dBs]
  exact ⟨oa,⟨h3,e2▸hr.2.1,e1▸hr.2.2⟩,e1,h⟩
theorem SY {x:Itm} (hx:okI x) (hr:Cs x) (K:Int→Option (Arr×Int)) : Cj x K AN 1 0=K ((1+cI x:Nat) : Int):=by
 have hF:AN=999999999999998+1+1:=rfl
 rw [hF,Cj]
 by_cases hb:x.box=[]
 ·rw [if_neg (by rw [hb];decide)]
  have:cI x=0:=by rw [MO,hb];rfl
  rw [this];rfl
 ·obtain ⟨a,ha⟩:=List.exists_mem_of_ne_nil _ hb
  obtain ⟨oa,ra,e1,e2⟩:=PI hx hr a ha
  have h16:=ra.2.2
  rw [e2,if_pos (by simp),Fd,oB,QL oa,oB,if_pos ra,Cj,e2,if_neg (by rw [show w64 ((0:Int)+1)=1 from rfl];simp),Bk (by omega) (by omega),e1]
  congr 1
theorem Pf {xs:List Itm} (hx:∀ x∈xs,okI x∧Cs x) (hl:xs.length≤1466015503701) (K:List Int→Option (Arr×Int)) : ∀ (n i k:Nat) (t:List Int),n=xs.length-i→i≤xs.length→n<k→t.length=i →
  BP xs K k t (i:Int)=K (t++(DF xs).drop i)
 | _,_,0,_,_,_,h,_=>by omega
 | n,i,k+1,t,hn,hi,hk,ht=>by
  rw [BP]
  have hcl:(DF xs).length=xs.length:=by simp [DF]
  by_cases h:i<xs.length
  ·obtain ⟨o,r⟩:=hx _ (List.getElem_mem h)
   have hd:(DF xs)[i]'(by omega)=((1+cI xs[i]:Nat):Int):=by simp [DF]
   rw [if_pos (by omega),B9,Cz h,oB,B9,SY o r,Gw (by simp;omega),oB,CB (by omega)]
   show BP xs K k (t++[((1+cI xs[i]:Nat):Int)]) ((i+1:Nat):Int)=_
   rw [Pf hx hl K (n-1) (i+1) k _ (by omega) (by omega) (by omega) (by simp [ht]),
    lC (by omega:i<(DF xs).length),hd,List.append_assoc]
   rfl
  ·rw [if_neg (by omega),List.drop_of_length_le (by omega),List.append_nil]
def cyc (xs:List Itm) (n:Nat) : List Itm:=(List.range n).map fun i=>xs.getD (i % xs.length) default
theorem KJ (xs:List Itm) (n:Nat) : cyc xs (n+1)=cyc xs n++[xs.getD (n % xs.length) default]:=by
 unfold cyc;rw [List.range_succ,List.map_append];rfl
theorem Gf (xs:List Itm) (n:Nat) : (cyc xs n).length=n:=by simp [cyc]
theorem L3 (xs ys:List Itm) : cIs (xs++ys)=cIs xs+cIs ys:=by
 induction xs with
 | nil=>simp [cIs]
 | cons x xs ih=>simp only [List.cons_append,cIs,ih];omega
theorem SZ {xs:List Itm} (h:xs≠[]) {n:Nat} {x:Itm} (hx:x∈cyc xs n) : x∈xs:=by
 unfold cyc at hx
 obtain ⟨i,_,rfl⟩:=List.mem_map.1 hx
 have hp:0<xs.length:=List.length_pos_iff.2 h
 have hlt:=Nat.mod_lt i hp
 rw [lD,lG hlt]
 exact List.getElem_mem hlt
theorem TD (xs:List Itm) {i n:Nat} (h:i≤n) : i+cIs (cyc xs i)≤n+cIs (cyc xs n):=by
 induction n with
 | zero =>
  have:i=0:=by omega
  subst this;exact Nat.le_refl _
 | succ n ih =>
  by_cases he:i=n+1
  ·subst he;exact Nat.le_refl _
  ·have:=ih (by omega)
   rw [KJ,L3];omega
theorem Pa {xs:List Itm} (hx:∀ x∈xs,okI x∧Cs x) (hne:xs≠[]) (hl:xs.length≤1466015503701) {m:Nat} (hm:m≤4096) (x1:Int×Int) (hx1:x1.1=(m:Int)) (K:Arr→Int→List Int→List Itm→Option (Arr×Int)) (a:Arr) (b:Int) (s:List Int) (t0:List Itm) (ht0:t0.length≤1) : ∀ (n i k:Nat),n=m-i→i≤m→n<k→i+cIs (cyc xs i)≤16384 →
  BQ xs x1 (DF xs) K k a b (i:Int) ((i+cIs (cyc xs i):Nat):Int) s (t0++cyc xs i)=if m+cIs (cyc xs m)≤16384 then K a b s (t0++cyc xs m) else some (.mk [] [],8)
 | _,_,0,_,_,h,_=>by omega
 | n,i,k+1,hn,hi,hk,hc=>by
  rw [BQ]
  have hcl:(DF xs).length=xs.length:=by simp [DF]
  have hp:0<xs.length:=List.length_pos_iff.2 hne
  by_cases h:i<m
  ·have hlt:=Nat.mod_lt i hp
   have htm:Int.tmod (i:Int) ((xs.length:Nat):Int)=((i % xs.length:Nat):Int):=by
    rw [Int.tmod_eq_emod_of_nonneg (by omega)];rfl
   have hgr:DA (((List.length xs:Nat):Int)≠0)=some ():=if_pos (by omega)
   have hd:(DF xs)[i % xs.length]'(by omega)=((1+cI xs[i % xs.length]:Nat):Int):=by simp [DF]
   obtain ⟨o,r⟩:=hx _ (List.getElem_mem hlt)
   have hg:xs.getD (i % xs.length) default=xs[i % xs.length]:=by rw [lD,lG hlt];rfl
   have hci:cI xs[i % xs.length]≤16384:=r.2.2
   have hsum:cIs (cyc xs (i+1))=cIs (cyc xs i)+cI xs[i % xs.length]:=by rw [KJ,L3,hg];simp [cIs]
   rw [if_pos (by omega),hgr,oB,htm,Cz (by omega:i % xs.length<(DF xs).length),oB,hd,Bk (by omega) (by omega)]
   by_cases hbig:(16384:Int)<((i+cIs (cyc xs i):Nat):Int)+((1+cI xs[i % xs.length]:Nat):Int)
   ·rw [if_pos hbig,if_neg]
    have:=TD xs (show i+1≤m by omega)
    omega
   ·have hlen:=Gf xs i
    rw [if_neg hbig,oB,Cz hlt,oB,LC o,oB,Gw (by simp;omega),oB,CB (by omega)]
    have ih:=Pa hx hne hl hm x1 hx1 K a b s t0 ht0 (n-1) (i+1) k (by omega) (by omega) (by omega) (by omega)
    rw [KJ,hg] at ih
    rw [← ih,List.append_assoc]
    congr 1
    rw [L3];simp only [cIs];omega
  ·have:i=m:=by omega
   subst this
   rw [if_neg (by omega),if_pos hc]
def Cq (n:Int) (xs:List Itm) : List Itm:=if n=0 then [tyI (xs.headD default)] else cyc xs n.toNat
theorem Hb {s:List Int} {xs:List Itm} (hs:∀ z∈s,-9223372036854775808≤z∧z≤9223372036854775807) (hl:s.length≤17592186044416) (hxl:xs.length≤1466015503701) (hx:∀ x∈xs,okI x) :
  AF s xs=some (if (szP s).2≠0 then (.mk [] [],(szP s).2) else if xs=[]∨¬(∀ x∈xs,Cs x) then (.mk [] [],22) else if Be (.mk s (Cq (szP s).1 xs)) then (.mk s (Cq (szP s).1 xs),0) else (.mk [] [],8)):=by
 unfold AF
 rw [Ge hl,oB]
 by_cases h0:(szP s).2=0
 rotate_left
 ·rw [if_neg h0,if_pos h0]
 have h0':¬((szP s).2≠0):=fun h=>h h0
 rw [if_pos h0,if_neg h0']
 by_cases hn:xs=[]
 ·subst hn;rw [if_pos (show ((([]:List Itm).length:Nat):Int)=0 from rfl),if_pos (.inl rfl)];rfl
 have hlen:¬((xs.length:Nat):Int)=0:=by have:=List.length_pos_iff.2 hn;omega
 rw [if_neg hlen,Lf (p:=fun x=>!decide (Cs x)) (fun x hx'=>by
  show Ea x=_
  unfold Ea;rw [L8 (hx x hx'),oB]) (by omega),oB,oB]
 by_cases hr:∀ x∈xs,Cs x
 rotate_left
 ·rw [if_pos (.inr hr:xs=[]∨¬∀ x∈xs,Cs x),if_pos]
  rw [List.any_eq_true]
  simp only [Classical.not_forall] at hr
  obtain ⟨x,h1,h2⟩:=hr
  exact ⟨x,h1,by rw [dF h2];rfl⟩
 rw [if_neg (show ¬(xs=[]∨¬∀ x∈xs,Cs x) from fun h=>h.elim hn fun h=>h hr),if_neg (by
  intro h
  rw [List.any_eq_true] at h
  obtain ⟨x,h1,h2⟩:=h
  rw [dT (hr x h1)] at h2;cases h2),H8 hl,oB,B9]
 have hp:0<xs.length:=List.length_pos_iff.2 hn
 have hxr:∀ x∈xs,okI x∧Cs x:=fun x h=>⟨hx x h,hr x h⟩
 obtain ⟨hz0,hz1⟩:=Ms s
 obtain ⟨m,hm⟩:∃ m:Nat,(szP s).1=(m:Int):=⟨(szP s).1.toNat,by omega⟩
 have hgo:∀ t0:List Itm,t0.length≤1→t0++cyc xs m=Cq (szP s).1 xs→(∀ x∈Cq (szP s).1 xs,okI x)→m+cIs (cyc xs m)≤cA (.mk s (Cq (szP s).1 xs)) →
   BP xs (fun z8=>jn (fun z19 z20 z21 z22=>(Bg (Arr.mk z21 z22)).bind fun x35=>if x35=true then some (Arr.mk z21 z22,0) else some (Arr.mk [] [],8)) fun K6=>BQ xs (szP s) z8 K6 AN (Arr.mk [] []) 0 0 0 s t0) AN [] 0=some (if Be (.mk s (Cq (szP s).1 xs)) then (.mk s (Cq (szP s).1 xs),0) else (.mk [] [],8)):=by
  intro t0 ht0 he hok hca
  have e2:=Pf hxr hxl (fun z8=>jn (fun z19 z20 z21 z22=>(Bg (Arr.mk z21 z22)).bind fun x35=>if x35=true then some (Arr.mk z21 z22,0) else some (Arr.mk [] [],8)) fun K6=>BQ xs (szP s) z8 K6 AN (Arr.mk [] []) 0 0 0 s t0) xs.length 0 AN [] rfl (Nat.zero_le _) (Cw (by omega)) rfl
  rw [show ((0:Nat):Int)=0 from rfl] at e2
  rw [e2,List.nil_append,List.drop_zero]
  show jn _ _=_
  rw [B9]
  have e7:=Pa hxr hn hxl (show m≤4096 by omega) (szP s) hm (fun z19 z20 z21 z22=>(Bg (Arr.mk z21 z22)).bind fun x35=>if x35=true then some (Arr.mk z21 z22,0) else some (Arr.mk [] [],8)) (Arr.mk [] []) 0 s t0 ht0 m 0 AN rfl (Nat.zero_le _) (Cw (by omega)) (by show 0+0≤_;omega)
  rw [show cyc xs 0=[] from rfl,List.append_nil,show ((0:Nat):Int)=0 from rfl] at e7
  rw [show (((0+cIs []:Nat)):Int)=0 from rfl] at e7
  rw [e7,he]
  have hit:(Cq (szP s).1 xs).length≤1466015503701:=by
   rw [← he,List.length_append,Gf];omega
  have ho:okAr (.mk s (Cq (szP s).1 xs)):=by
   rw [BI];exact ⟨hs,hl,hit,hok⟩
  rw [GI ho]
  by_cases hR:Be (.mk s (Cq (szP s).1 xs))
  ·rw [if_pos (nT hca hR.2.2),if_pos hR,dT hR];rfl
  ·rw [if_neg hR,dF hR];split<;>rfl
 by_cases hz:(szP s).1=0
 ·have hm0:m=0:=by omega
  subst hm0
  obtain ⟨y,ys,rfl⟩:=List.exists_cons_of_ne_nil hn
  have hmk:Cq (szP s).1 (y::ys)=[tyI y]:=by unfold Cq;rw [if_pos hz];rfl
  obtain ⟨o,r⟩:=hxr y (by simp)
  rw [if_pos hz,Fd,oB,MY o r.1,oB]
  show jn _ _=_
  rw [B9]
  refine hgo [tyI y] (by simp) (by rw [hmk];rfl) ?_ ?_
  ·rw [hmk];intro x hx';rw [List.mem_singleton] at hx';subst hx';exact (N1 o r.1).2.2.2.2.2
  ·show 0+0≤_;omega
 ·have hmk:Cq (szP s).1 xs=cyc xs m:=by unfold Cq;rw [if_neg hz,hm];rfl
  rw [if_neg hz]
  show jn _ _=_
  rw [B9]
  refine hgo [] (by simp) (by rw [hmk];rfl) ?_ ?_
  ·rw [hmk];intro x hx';exact hx x (SZ hn hx')
  ·rw [hmk,GG,Dt,Gf];omega
def Kz (z:Int) : Prop:=-9223372036854775808≤z∧z≤9223372036854775807
def GB (z:Int) : Itm:=.mk 1 (ofQ (z:Rat)) 0 []
theorem Gt {z:Int} (h:Kz z) : ND (z:Rat):=Rg h.1 (by have:=h.2;omega)
theorem SH {z:Int} (h:Kz z) : okI (GB z):=OV (Hl (Gt h))
theorem Oh {z:Int} (h:Kz z) : rI (GB z)=true:=Rd (I4 (Gt h))
theorem Ux {z:Int} (h:Kz z) {β:Type} (f:Itm→Option β) : ((Ev z).bind fun q=>(B1 q).bind f)=f (GB z):=by
 rw [Qs h.1 h.2,oB,Kc (Hl (Gt h)),oB];rfl
theorem U4 {z:Int} (h:Kz z) : IL z=some (.mk [] [GB z]):=by
 unfold IL;rw [Ux h];rfl
theorem H6 {n:Nat} (h:n≤4096) : szP [(n:Int)]=((n:Int),0):=by
 unfold szP D9
 simp only [List.length_cons,List.length_nil,List.any_cons,List.any_nil,Bool.or_false,decide_eq_true_eq,List.foldl_cons,List.foldl_nil,List.mem_singleton,Int.one_mul]
 rw [if_neg (by omega),if_neg (by omega),if_neg (by omega)]
 by_cases h0:(0:Int)=n
 ·rw [if_pos h0,← h0]
 ·rw [if_neg h0,if_pos (by omega)]
theorem Pi : szP []=(1,0):=rfl
theorem NN {s:List Int} {i:List Itm} {n:Int} (hs:szP s=(n,0)) (hl:(i.length:Int)=if n<1 then 1 else n) (hi:∀ x∈i,rI x=true∧x.box=[]) : Be (.mk s i)∧cA (.mk s i)=i.length∧dA (.mk s i)=if A7 (.mk s i) then 0 else 1:=by
 have hn:=Ms s
 rw [hs] at hn
 have hc:cIs i=0:=by
  clear hl
  induction i with
  | nil=>rfl
  | cons x xs ih=>rw [cIs,MO,(hi x (by simp)).2,ih fun y hy=>hi y (by simp [hy])];rfl
 have hd:dIs i=0:=by
  clear hl hc
  induction i with
  | nil=>rfl
  | cons x xs ih=>rw [dIs,Pk,(hi x (by simp)).2,ih fun y hy=>hi y (by simp [hy])];rfl
 have hcA:cA (.mk s i)=i.length:=by rw [GG,Dt,hc];rfl
 have hdA:dA (.mk s i)=if A7 (.mk s i) then 0 else 1:=by rw [Hz,Dt,hd]
 refine ⟨⟨?_,?_,?_⟩,hcA,hdA⟩
 ·rw [Hw,D8,Dt,hs,hl,dT rfl,dT rfl,ED.2 fun x hx=>(hi x hx).1];rfl
 ·rw [hdA];split<;>omega
 ·rw [hcA];have:(i.length:Int)≤4096:=by rw [hl];split<;>omega
  omega
theorem Ol {z:Int} (h:Kz z) : FJ (ofQ (z:Rat))=some (z,true):=by
 unfold FJ
 have e:(ofQ (z:Rat)).2.1=AY z.natAbs:=rfl
 have e1:(ofQ (z:Rat)).1=decide (z<0):=rfl
 have hw:okL 1048576 (AY z.natAbs)=true:=MS (nT (show (AY z.natAbs).length≤32 from (Gt h).1) (by decide))
 have hb:Bq z.natAbs≤64:=DU.2 (by have:=h.1;have:=h.2;omega)
 rw [Ss (Gt h),oB,if_pos (dT (Rat.den_intCast z)),e,e1,CN,if_pos (by rw [hw,dT rfl];rfl),if_pos hb]
 unfold KY
 obtain ⟨h1,h2⟩:=h
 by_cases hz:z<0
 ·rw [if_pos (dT hz),if_pos (by omega)]
  congr 2;omega
 ·rw [if_neg (by rw [dF hz];decide),if_pos (by omega)]
  congr 2;omega
theorem Ll : ∀ {l:List Int} {s:List Int},(∀ z∈l,Kz z)→s.length+l.length≤17592186044416→NS Jc (l.map GB) s=some (true,s++l)
 | [],s,_,_=>by simp [NS]
 | z::zs,s,h,hl=>by
  rw [List.map_cons,NS]
  unfold Jc
  have e:(GB z).num=ofQ (z:Rat):=rfl
  rw [e,Ol (h z (by simp)),oB,Gw (by simp at hl ⊢;omega),oB,oB]
  have hk:(true&&decide ((GB z).kind=1))=true:=rfl
  rw [hk,if_pos rfl]
  have:=Ll (l:=zs) (s:=s++[z]) (fun y hy=>h y (by simp [hy])) (by simp at hl ⊢;omega)
  unfold Jc at this
  rw [this,List.append_assoc];rfl
theorem Mm {x:Itm} (h:rI x=true) (hb:x.box=[]) (hk:x.kind≠3) : Be (.mk [] [x])∧A7 (.mk [] [x])=true:=by
 refine ⟨(NN Pi rfl fun y hy=>by rw [List.mem_singleton] at hy;subst hy;exact ⟨h,hb⟩).1,?_⟩
 unfold A7;simp [D8,Dt,hk]
theorem Ug {x:Itm} (h:okI x) : okAr (.mk [] [x]):=by
 rw [BI,D8,Dt]
 exact ⟨nofun,by simp,by simp,fun y hy=>by rw [List.mem_singleton] at hy;rw [hy];exact h⟩
theorem RW (xs:List Itm) : cyc xs xs.length=xs:=by
 apply List.ext_getElem?
 intro i
 by_cases h2:i<xs.length
 ·unfold cyc
  rw [List.getElem?_map,List.getElem?_range h2,Option.map_some,Nat.mod_eq_of_lt h2,lD,lG h2];rfl
 ·rw [List.getElem?_eq_none (by rw [Gf];omega),List.getElem?_eq_none (by omega)]
theorem ID {xs:List Itm} {n:Nat} (h:xs.length=n) (h0:n≠0) : Cq ((n:Nat) : Int) xs=xs:=by
 unfold Cq
 rw [if_neg (by omega),Int.toNat_natCast,← h]
 exact RW xs
theorem GK {a:Arr} (oa:okAr a) (h:Be a) {x:Itm} (hx:x∈a.items) : okI x∧Cs x:=by
 have o:=(BI a).1 oa
 obtain ⟨h1,h2,h3⟩:=h
 have hr:=(IH h1).2.2
 refine ⟨o.2.2.2 x hx,hr x hx,?_,?_⟩
 ·have hd:∀ {xs:List Itm},x∈xs→dI x≤dIs xs:=by
   intro xs
   induction xs with
   | nil=>intro h;cases h
   | cons y ys ih =>
    intro h
    rw [dIs]
    rcases List.mem_cons.1 h with rfl|h
    ·omega
    ·have:=ih h;omega
  have hdx:=hd hx
  rw [Hz] at h2
  by_cases hs:A7 a=true
  ·have:=(MG hs (ED.2 hr)).1
   omega
  ·rw [if_neg hs] at h2;omega
 ·have hc:∀ {xs:List Itm},x∈xs→cI x≤cIs xs:=by
   intro xs
   induction xs with
   | nil=>intro h;cases h
   | cons y ys ih =>
    intro h
    rw [cIs]
    rcases List.mem_cons.1 h with rfl|h
    ·omega
    ·have:=ih h;omega
  have hcx:=hc hx
  rw [GG] at h3
  omega
theorem Ri {a:Arr} (h:Be a) : ∃ n : Nat,szP a.shape=((n:Int),0)∧a.items.length=if n=0 then 1 else n:=by
 obtain ⟨h1,h2,_⟩:=IH h.1
 have:=Ms a.shape
 refine ⟨(szP a.shape).1.toNat,?_,?_⟩
 ·rw [← h1,Int.toNat_of_nonneg this.1]
 ·split at h2<;>split<;>omega
theorem Lu {a:Arr} (h:Be a) : 0<a.items.length:=by
 obtain ⟨n,_,hl⟩:=Ri h
 rw [hl];split<;>omega
end Go.FL
namespace Go.FL
open Go Go.RowKit
def FnN (P:Program) (f:FuncId) (args:List DV) (r:AV) : Prop :=
 ∀ (w:World) (I:Nat→Prop) (vs:List Value),(∀ b,I b→b<w.heap.size)→RepAll w I args vs →
  CallsIn (om none) 0 P f (Value.slice none 0 0::vs).toArray w fun e w'=>∃ v I' bs,e=.returned v∧Below w.heap.size w w'∧(∀ b,I b→I' b) ∧
   (∀ b,I' b→b<w'.heap.size∧(b<w.heap.size→I b))∧ARep P w' I' [] r v bs∧bs.Nodup∧∀ b∈bs,w.heap.size≤b∧b<w'.heap.size∧¬I' b
section
variable {P:Program} {H:Af}
theorem FnR.ofFnN {f:FuncId} {xs:List DV} {r:AV} (h:FnN P f xs r) : FnR P f (.nl::xs.map .d) H fun r' H'=>r'=r∧H'=H:=by
 intro X w I μ O vs0 e1 e2 e3 e4 e5 hm ha
 have hR:∀ {xs:List DV} {vs:List Value},ARepAll P w I μ (xs.map AV.d) vs []→RepAll w I xs vs:=by
  intro xs
  induction xs with
  | nil=>intro vs h;cases h;exact .nil
  | cons x xs ih =>
   intro vs h
   generalize hbs:([]:List Nat)=bs at h
   cases h with
   | cons h t =>
    have:=hbs.symm
    rw [List.append_eq_nil_iff] at this
    rw [this.2] at t
    cases h with
    | d h=>exact .cons h (ih t)
 obtain ⟨vs,rfl,ha2⟩:∃ vs,vs0=Value.slice none 0 0::vs∧ARepAll P w I μ (xs.map AV.d) vs []:=by
  generalize hbs:([]:List Nat)=bs at ha
  cases ha with
  | cons h t =>
   have:=hbs.symm
   rw [List.append_eq_nil_iff] at this
   obtain ⟨t1,t2⟩:=this
   subst t2
   cases h
   exact ⟨_,rfl,t⟩
 refine (h w I vs hm.ilt (hR ha2)).mono ?_
 rintro e w' ⟨v,I',bs,rfl,q1,q2,q3,q4,q5,q6⟩
 let a:Act:={tmps:=#[],defers:=[]}
 have hs:Sim P {X with nt:=(0,0),dfs:=[],args:=[]} [] H a w I μ O:=⟨hm.cast rfl rfl rfl rfl rfl rfl,fun t=>.un,rfl,rfl,fun t ht=>absurd ht (by simp)⟩
 have s1:=(hs.called q1 q2 q3).newR bs fun b hb=>by
  obtain ⟨h1,h2,h3⟩:=q6 b hb
  refine ⟨h2,.inl ?_,h3,fun hk=>by have:=hs.klt b hk;have:=hs.size;omega⟩
  cases hO:O b with
  | none=>rfl
  | some l=>have:=(hs.own b l hO).1;omega
 refine ⟨v,I',μ,_,H,r,bs,rfl,(s1.toMem.relabel (toT 0) fun _=>rfl).cast rfl rfl rfl rfl rfl rfl,q4.keep (fun _ h=>h) (fun _ _=>rfl) (fun i b h=>by simp at h) fun _ _=>rfl,q5,fun b hb=>⟨0,by simp [hb,toT]⟩,rfl,rfl⟩
def OZ (P:Program) (f:FuncId) (e:TypeId) (M:Nat) : Prop:=∀ (n:Nat) (w:World),n≤M →
 Calls P f #[.slice none 0 0,.int .i64 n] w fun x w'=>(x=.returned (.slice none 0 0)∧w'=w) ∨
  (∃ (cap:Nat) (cells:Array Value),0<cap∧cap≤maxLen∧cells.size=cap * AD P e∧x=.returned (.slice (some ⟨w.heap.size,0,none⟩) 0 cap)∧w'=w.drew.alloc (.cells cells e))
theorem FnN.grow {f e M:Nat} (hsz:0<AD P e) (h:OZ P f e M) {n:Nat} (hn:n≤M) : FnN P f [.i .i64 n] (.own e []):=by
 intro w I vs hI ha
 have hvs:vs=[.int .i64 n]:=by
  cases ha with
  | cons h1 ha=>cases ha;cases h1;rfl
 subst hvs
 rw [SE]
 refine callsIn_wide.2 ((h n w hn).mono fun x w' hx=>?_)
 rcases hx with ⟨rfl,rfl⟩|⟨cap,cells,h0,hm,hc,rfl,rfl⟩
 ·refine ⟨_,I,[],rfl,Below.refl _ _,fun _ h=>h,fun b hb=>⟨hI b hb,fun _=>hb⟩,?_,nN,nofun⟩
  exact .own e [] (.slice none 0 0) [] hsz (.inl ⟨none,rfl,rfl,rfl⟩) (.nil _)
 ·have hlt:w.heap.size<(w.drew.alloc (.cells cells e)).heap.size:=(Array.getElem?_eq_some_iff.1 (heap_alloc_new w.drew (.cells cells e))).1
  have ho:OwnR (w.drew.alloc (.cells cells e)) e (AD P e) (.slice (some ⟨w.heap.size,0,none⟩) 0 cap) 0 []:=by
   refine .inr ⟨⟨by simp,.inr ⟨w.heap.size,cap,cells,rfl,Nat.zero_le _,heap_alloc_new w.drew _,Nat.zero_le _,hm,hc,by simp⟩⟩,w.heap.size,cap,rfl,h0⟩
  refine ⟨_,I,[w.heap.size],rfl,?_,fun _ h=>h,fun b hb=>⟨Nat.lt_trans (hI b hb) hlt,fun _=>hb⟩,?_,by simp,fun b hb=>?_⟩
  ·exact ((Below.refl _ w).drew).alloc (Nat.le_refl _) _
  ·have:[w.heap.size]=Bz (.slice (some ⟨w.heap.size,0,none⟩) 0 cap):=by simp [Bz,Nat.pos_iff_ne_zero.1 h0]
   rw [this]
   exact .own e [] _ [] hsz ho (.nil _)
  ·rw [List.mem_singleton] at hb
   subst hb
   exact ⟨Nat.le_refl _,hlt,fun hi=>by have:=hI _ hi;omega⟩
theorem Sr {f e M:Nat} (hsz:0<AD P e) (h:OZ P f e M) {z:Int} (hz:0≤z∧z≤(M:Int)) : FnR P f [.nl,.d (.i .i64 z)] H fun r' H'=>r'=.own e []∧H'=H:=by
 obtain ⟨n,rfl⟩:∃ n:Nat,z=(n:Int):=⟨z.toNat,by omega⟩
 exact FnR.ofFnN (xs:=[.i .i64 (n:Int)]) (FnN.grow hsz h (by omega))
end
section
variable {P:Program} {C:Cx} {o:Oper} {ops:Array Oper} {Q:Exit→Env→Af→Prop} {env:Env} {H:Af} {k:Nat} {l:List Oper}
theorem JO {α:Type} {F:List α→List DV} {D:α→DV} (hset:∀ xs n x,(F xs).set n (D x)=F (xs.set n x)) {us:List α} {n m:Nat} {x:α} {y:Operand} {r ty e:Nat} {p:Pl} (hm:m=n) (hx:∃ z,(F us)[0+n]?=some z∧z.leaf=true)
  (h:RL P C ops Q (k+1) l (L9 p (.own e (F (us.set m x))) env) (Qk p (.own e (F (us.set m x))) H)) (hsz:AD P ty=1)
  (hg:grd ops env o true=true:=by rfl) (ho:o.op=.store ty (.tmp r) y:=by rfl) (hv:get env r=.ep p (0+n) 0:=by rfl) (hp:AM env H p=.own e (F us):=by rfl) (hy:lk env y=.d (D x):=by rfl) (h1:(D x).leaf=true:=by rfl) (hd:o.dst=none:=by rfl)
  (hn:∀ id off,p=.c id off→C.n0≤id:=by (intro _ _ h;cases h<;>decide)):RL P C ops Q k (o::l) env H:=by
 subst hm
 exact ste hx (by rw [Nat.zero_add,hset];exact h) hsz hg ho hv hp hy h1 hd hn
end
end Go.FL
namespace Go.FL
open Go Go.RowKit
section
variable {P:Program} {C:Cx} {X:Snap} {o:Oper} {ops:Array Oper} {Q:Exit→Env→Af→Prop} {env env':Env} {H H':Af} {a:Act} {w w':World} {I I':Nat→Prop} {μ μ':List Nat} {O O':Nat→Option Loc}
 {K:Env→Af→Prop} {k:Nat} {l:List Oper}
theorem UM {ty:Nat} (ho:o.op=.makeMap ty none:=by rfl) : VOK P C o env H (.om [] []) :=
 .val (by simp [ho]) fun X a w I μ O _ _ _ hs =>
  ⟨.map (some w.heap.size),w.alloc (.map #[] 0),I,[w.heap.size],by simp [execOp,ho,Instr.makeMap,newObj,Sem.run],Bh _,fun b hi=>hi,fun b hi=>⟨nL (hs.ilt b hi) (Bh _).size,fun _=>hi⟩,
   ARep.om [] [] [] [] w.heap.size #[] 0 (heap_alloc_new w _) .nil .nil (List.Perm.refl _) rfl,by simp,fun b hb=>by
    simp at hb;subst hb
    exact ⟨Nat.le_refl _,by simp,fun hi=>by have:=hs.ilt _ hi;omega⟩⟩
def freshK (q:IntKind) (z:Int) (ks:List DV) : Prop:=∀ k∈ks,∃ z',k=.i q z'∧z'≠z
theorem OR {α β:Type} : ∀ {ks:List α} {vs:List β} {x:α},ks.length=vs.length→x∈ks→∃ v,(x,v)∈ks.zip vs
 | k::ks,v::vs,x,hl,h=>by
  rcases List.mem_cons.1 h with rfl|h
  ·exact ⟨v,by simp⟩
  ·obtain ⟨u,hu⟩:=OR (ks:=ks) (vs:=vs) (by simpa using hl) h
   exact ⟨u,by simp [hu]⟩
theorem IK {q:IntKind} {z:Int} {ty:TypeDesc} (hty:ty=.int q) : ∀ {es:List MapEntry} {ks:List DV} (n:Nat),RepAll w I ks (es.map MapEntry.key)→freshK q z ks→Instr.findNow ty (.int q z) es n=some none
 | [],_,n,_,_=>rfl
 | e::es,ks,n,hk,hf=>by
  subst hty
  cases hk with
  | @cons c _ cs _ h t =>
   obtain ⟨z',rfl,hz⟩:=hf c (by simp)
   have he:e.key=.int q z':=by
    generalize e.key=u at h
    cases h;rfl
   have hs:Instr.sameNow (.int q) (.int q z) e.key=some false:=by
    rw [he];simp [Instr.sameNow];exact fun h=>hz h.symm
   simp only [Instr.findNow,hs]
   exact IK rfl (n+1) t fun k hk=>hf k (by simp [hk])
theorem Ln {q:IntKind} {z:Int} {ty:TypeDesc} (hty:ty=.int q) {d:DV} : ∀ {es:List MapEntry} {ks vs:List DV} (n:Nat),RepAll w I ks (es.map MapEntry.key)→RepAll w I vs (es.map MapEntry.val) →
  (∀ k∈ks,∃ z',k=.i q z')→(.i q z,d)∈ks.zip vs→(∀ d',(.i q z,d')∈ks.zip vs→d'=d)→∃ i v,Instr.findNow ty (.int q z) es n=some (some (i,v))∧Rep w I d v
 | [],_,_,n,hk,_,_,hm,_=>by cases hk;simp at hm
 | e::es,ks,vs,n,hk,hv,hi,hm,hu=>by
  subst hty
  cases hk with
  | @cons c _ cs _ h t =>
   cases hv with
   | @cons c2 _ cs2 _ h2 t2 =>
    obtain ⟨z',rfl⟩:=hi c (by simp)
    have he:e.key=.int q z':=by
     generalize e.key=u at h
     cases h;rfl
    by_cases hz:z=z'
    ·subst hz
     have hs:Instr.sameNow (.int q) (.int q z) e.key=some true:=by rw [he];simp [Instr.sameNow]
     refine ⟨n,e.val,by simp only [Instr.findNow,hs],?_⟩
     have:=hu c2 (by simp)
     subst this;exact h2
    ·have hs:Instr.sameNow (.int q) (.int q z) e.key=some false:=by rw [he];simp [Instr.sameNow];exact hz
     simp only [Instr.findNow,hs]
     refine Ln rfl (n+1) t t2 (fun k hk=>hi k (by simp [hk])) ?_ (fun d' hd=>hu d' (by simp [hd]))
     simp only [List.zip_cons_cons,List.mem_cons,Prod.mk.injEq,DV.i.injEq,true_and] at hm
     rcases hm with ⟨h3,_⟩|hm
     ·exact absurd h3 hz
     ·exact hm
theorem IR {kt:TypeId} {q:IntKind} {z:Int} (hk:P.underlying kt=some (.int q)) (b:Bool) (n:Nat) : (Instr.checkKey b (n+1) kt (.int q z)).run P w=.ok () w:=by
 unfold Instr.checkKey
 simp [run_underlying hk]
theorem GH {kt:TypeId} {q:IntKind} {z:Int} {es:List MapEntry} {r:Option (Nat×Value)} (hk:P.underlying kt=some (.int q)) (hf:Instr.findNow (.int q) (.int q z) es 0=some r) : (Instr.findKey kt (.int q z) es).run P w=.ok r w:=by
 simp [Instr.findKey,run_underlying hk,hf]
theorem Mv {r:Nat} {es:Array MapEntry} {c:Nat} (hh:w.heap[r]?=some (.map es c)) : (getObj r).run P w=.ok (.map es c) w:=by
 simp [getObj,Sem.run,hh]
theorem Oc {ty kt et:TypeId} {q:IntKind} {r:Nat} {es:Array MapEntry} {clock:Nat} {z:Int} {v:Value} (hu:P.underlying ty=some (.map kt et)) (hk:P.underlying kt=some (.int q)) (hh:w.heap[r]?=some (.map es clock)) (hf:Instr.findNow (.int q) (.int q z) es.toList 0=some none) :
  (Instr.mapUpdate ty (.map (some r)) (.int q z) v).run P w=.ok () {w with heap:=w.heap.setIfInBounds r (.map (es.push {key:=.int q z,val:=v,born:=clock}) (clock+1))}:=by
 have h1:=IR (w:=w) (z:=z) hk false 9999
 have h2:=GH (w:=w) (z:=z) hk hf
 have h3:=Mv (P:=P) hh
 unfold Instr.mapUpdate
 simp only [run_underlying hu,Sem.run_bind,Result.andThen_ok,h1,h2,h3]
 simp [setObj,Sem.run,hh]
theorem KA {ty kt et:TypeId} {q:IntKind} {r:Nat} {es:Array MapEntry} {clock:Nat} {z:Int} {i:Nat} {v:Value} (hu:P.underlying ty=some (.map kt et)) (hk:P.underlying kt=some (.int q)) (hh:w.heap[r]?=some (.map es clock)) (hf:Instr.findNow (.int q) (.int q z) es.toList 0=some (some (i,v))) :
  (Instr.lookup ty (.map (some r)) (.int q z) false).run P w=.ok v w:=by
 have h1:=IR (w:=w) (z:=z) hk es.isEmpty 9999
 have h2:=GH (w:=w) (z:=z) hk hf
 have h3:=Mv (P:=P) hh
 unfold Instr.lookup
 simp only [run_underlying hu,Sem.run_bind,Sem.run_pure,Result.andThen_ok,h1,h2,h3]
 rfl
theorem JF {ty kt et:TypeId} {q:IntKind} {r:Nat} {es:Array MapEntry} {clock:Nat} {z:Int} {v:Value} (hu:P.underlying ty=some (.map kt et)) (hk:P.underlying kt=some (.int q)) (hz:(zeroValue et).run P w=.ok v w) (hh:w.heap[r]?=some (.map es clock)) (hf:Instr.findNow (.int q) (.int q z) es.toList 0=some none) :
  (Instr.lookup ty (.map (some r)) (.int q z) false).run P w=.ok v w:=by
 have h1:=IR (w:=w) (z:=z) hk es.isEmpty 9999
 have h2:=GH (w:=w) (z:=z) hk hf
 have h3:=Mv (P:=P) hh
 unfold Instr.lookup
 simp only [run_underlying hu,Sem.run_bind,Sem.run_pure,Result.andThen_ok,h1,h2,h3,hz]
 rfl
theorem IY {ks vs ks' vs':List DV} (hp:(ks'.zip vs').Perm (ks.zip vs)) (hl:ks'.length=vs'.length) {k:DV} (h:k∈ks') : k∈ks:=by
 obtain ⟨v,hv⟩:=OR hl h
 exact (List.of_mem_zip (hp.mem_iff.1 hv)).1
theorem Sim.om_inv (hs:Sim P X env H a w I μ O) {t:Nat} {ks vs:List DV} (hg:get env t=.om ks vs) :
  ∃ blk es c ks' vs',a.tmps.getD t undef=.map (some blk)∧w.heap[blk]?=some (.map es c)∧RepAll w I ks' (es.toList.map MapEntry.key)∧RepAll w I vs' (es.toList.map MapEntry.val)∧(ks'.zip vs').Perm (ks.zip vs)∧ks.length=vs.length∧O blk=some (.t t):=by
 have:=hs.envr t
 rw [hg] at this
 obtain ⟨bs,h1,h2,h3⟩:=this.plain rfl
 generalize a.tmps.getD t undef=v at h1
 cases h1 with
 | om _ _ ks' vs' blk es c hh hk hv hp hl=>exact ⟨blk,es,c,ks',vs',rfl,hh,hk,hv,hp,hl,h3 blk (by simp)⟩
theorem Sim.ins (hs:Sim P X env H a w I μ O) {t:Nat} {ks vs:List DV} (hg:get env t=.om ks vs) {ty kt et:TypeId} {q:IntKind} {z:Int} {d:DV} {v:Value} (hu:P.underlying ty=some (.map kt et)) (hk:P.underlying kt=some (.int q)) (hf:freshK q z ks) (hv:Rep w I d v) :
  ∃ w',(Instr.mapUpdate ty (a.tmps.getD t undef) (.int q z) v).run P w=.ok () w'∧Sim P X ((t,.om (ks++[.i q z]) (vs++[d]))::env) H a w' I μ O:=by
 obtain ⟨blk,es,c,ks',vs',h1,h2,h3,h4,h5,h6,hO⟩:=hs.om_inv hg
 have hl':ks'.length=vs'.length:=by rw [h3.length,h4.length,List.length_map,List.length_map]
 have hfn:=IK (q:=q) (z:=z) rfl 0 h3 fun k hk=>hf k (IY h5 hl' hk)
 have hlt:blk<w.heap.size:=(hs.own blk _ hO).1
 refine ⟨{w with heap:=w.heap.setIfInBounds blk (.map (es.push {key:=.int q z,val:=v,born:=c}) (c+1))},by rw [h1];exact Oc hu hk h2 hfn,?_⟩
 have hoth:∀ b,b≠blk→(w.heap.setIfInBounds blk (.map (es.push {key:=.int q z,val:=v,born:=c}) (c+1)))[b]?=w.heap[b]?:=fun b hb=>by
  rw [Array.getElem?_setIfInBounds,if_neg (Ne.symm hb)]
 obtain ⟨n1,_,_⟩:=hs.other_blk hO
 refine hs.blkSet (w':={w with heap:=w.heap.setIfInBounds blk (.map (es.push {key:=.int q z,val:=v,born:=c}) (c+1))}) (av:=.om (ks++[.i q z]) (vs++[d])) hO (by rw [hg];rfl) rfl hoth (by simp) rfl rfl rfl ?_
 rw [h1]
 have hI:∀ b,I b→(w.heap.setIfInBounds blk (.map (es.push {key:=.int q z,val:=v,born:=c}) (c+1)))[b]?=w.heap[b]?:=fun b hi=>hoth b (n1 b hi)
 refine .om _ _ (ks'++[.i q z]) (vs'++[d]) blk (es.push {key:=.int q z,val:=v,born:=c}) (c+1) ?_ ?_ ?_ ?_ (by simp [h6])
 ·show (w.heap.setIfInBounds blk _)[blk]?=_
  rw [Array.getElem?_setIfInBounds,if_pos rfl,if_pos hlt]
 ·rw [Array.toList_push,List.map_append]
  exact (h3.keep hI fun _ h=>h).append (.cons (.i _ _) .nil)
 ·rw [Array.toList_push,List.map_append]
  exact (h4.keep hI fun _ h=>h).append (.cons (hv.keep hI fun _ h=>h) .nil)
 ·rw [List.zip_append hl',List.zip_append h6]
  exact List.Perm.append h5 (List.Perm.refl _)
theorem IP {m:Nat} {x y:Operand} {ty kt et:TypeId} {q:IntKind} {z:Int} {ks vs:List DV} {d:DV} (hu:P.underlying ty=some (.map kt et)) (hk:P.underlying kt=some (.int q)) (hf:freshK q z ks) (h:RL P C ops Q (k+1) l ((m,.om (ks++[.i q z]) (vs++[d]))::env) H) (hg:grd ops env o true=true:=by rfl)
  (ho:o.op=.insert ty (.tmp m) x y:=by rfl) (hm:get env m=.om ks vs:=by rfl) (hx:A2 (lk env x)=some (.i q z):=by rfl) (hy:A2 (lk env y)=some d:=by rfl) (hd:o.dst=none:=by rfl):RL P C ops Q k (o::l) env H:=by
 refine .go hg (.done (by simp [ho]) hd (fun X a w I μ O _ _ _ hs=>?_) h)
 have h1:=hs.deep (x:=x) hx
 have h2:=hs.deep (x:=y) hy
 generalize hev:a.eval x=u at h1
 cases h1
 obtain ⟨w',r1,r2⟩:=hs.ins hm hu hk hf h2
 have he:a.eval (.tmp m)=a.tmps.getD m undef:=rfl
 exact ⟨w',I,μ,O,by simp only [execOp,ho,hev,he,r1,Sem.run_bind,Result.andThen_ok,Sem.run_pure],r2⟩
theorem Gh.omf {t:Nat} {ks vs:List DV} (hg:get env t=.om ks vs) : Gh P C env H ((t,.d (.mp ks vs))::env) H:=fun X a w I μ O _ _ _ hs=>by
 obtain ⟨blk,es,c,ks',vs',h1,h2,h3,h4,h5,h6,hO⟩:=hs.om_inv hg
 obtain ⟨n1,n2,n3⟩:=hs.other_blk hO
 refine ⟨_,_,⟨hs.toMem.frz [blk] (fun b hm=>by simp at hm;subst hm;exact (hs.own b _ hO).1) (fun b hm hk=>by simp at hm;exact n2 b hk hm) H rfl ?_,fun s=>?_,hs.nt,hs.dfs⟩⟩
 ·intro id ob ho
  obtain ⟨bb,bs,k1,k2,k3,k4⟩:=hs.heap id ob ho
  refine ⟨bb,bs,k1,k2.mono fun _ h=>.inl h,fun hn=>⟨(k3 hn).1,fun b hb=>?_⟩,k4⟩
  have:b∉[blk]:=by simpa using n3 id ob bb bs ho k1 k3 k4 b hb
  simp only [this,if_false]
  exact (k3 hn).2 b hb
 ·by_cases hst:t=s
  ·subst hst
   rw [show get ((t,.d (.mp ks vs))::env) t=.d (.mp ks vs) by simp [get]]
   refine .of (bs:=[]) ?_ nN (by simp)
   rw [h1]
   exact .d (.mp ks vs ks' vs' blk es c (.inr (by simp)) h2 (h3.keep (fun _ _=>rfl) fun _ h=>.inl h) (h4.keep (fun _ _=>rfl) fun _ h=>.inl h) h5 h6)
  ·rw [show get ((t,.d (.mp ks vs))::env) s=get env s by simp [get,hst]]
   have key:∀ p e xs,AM env H p=.own e xs→AM ((t,AV.d (.mp ks vs))::env) H p=.own e xs:=by
    intro p e' xs hp
    cases p with
    | t r =>
     have hr':t≠r:=fun h=>by subst h;simp only [AM] at hp;rw [hg] at hp;cases hp
     simp only [AM,get,if_neg hr'];exact hp
    | c id off=>exact hp
   have ht:=hs.envr s
   cases hgs:get env s with
   | ref p off len =>
    rw [hgs] at ht
    obtain ⟨e',xs,A,n,c,g1,g2,g3,g4⟩:=ht
    exact ⟨e',xs,A,n,c,key p e' xs g1,g2,g3,g4⟩
   | ep p i k =>
    rw [hgs] at ht
    obtain ⟨e',xs,b,n,c,g1,g2,g3,g4,g5⟩:=ht
    exact ⟨e',xs,b,n,c,key p e' xs g1,g2,g3,g4,g5⟩
   | _ =>
    rw [hgs] at ht
    obtain ⟨bs,g1,g2,g3⟩:=ht.plain rfl
    refine .of (g1.keep (fun _ h=>.inl h) (fun _ _=>rfl) (fun _ _ h=>h) fun _ _=>rfl) g2 fun b hb=>?_
    have:b∉[blk]:=fun hm=>by
     simp at hm;subst hm
     have:=g3 b hb;rw [hO] at this;simp at this;exact hst this
    simp only [this,if_false]
    exact g3 b hb
theorem Vb {x y:Operand} {ty kt et:TypeId} {q:IntKind} {z:Int} {ks vs:List DV} {d:DV} (hu:P.underlying ty=some (.map kt et)) (hk:P.underlying kt=some (.int q)) (hi:∀ k∈ks,∃ z',k=.i q z') (hm:(.i q z,d)∈ks.zip vs) (hq:∀ d',(.i q z,d')∈ks.zip vs→d'=d)
  (ho:o.op=.lookup ty x y false:=by rfl) (hx:A2 (lk env x)=some (.mp ks vs):=by rfl) (hy:A2 (lk env y)=some (.i q z):=by rfl):VOK P C o env H (.d d) :=
 .pv ⟨by simp [ho],fun X a w I μ O _ hs=>by
  have h1:=hs.deep (x:=x) hx
  have h2:=hs.deep (x:=y) hy
  generalize hev:a.eval x=u at h1
  generalize hev2:a.eval y=u2 at h2
  cases h2
  cases h1 with
  | mp _ _ ks' vs' r es c hI hh h3 h4 hp hl =>
   have hl':ks'.length=vs'.length:=by rw [h3.length,h4.length,List.length_map,List.length_map]
   obtain ⟨i,v,e1,e2⟩:=Ln (q:=q) (z:=z) (d:=d) rfl 0 h3 h4 (fun k hk=>hi k (IY hp hl' hk)) (hp.mem_iff.2 hm) fun d' hd=>hq d' (hp.mem_iff.1 hd)
   exact ⟨v,by simp only [execOp,ho,hev,hev2,KA hu hk hh e1,Sem.run_bind,Result.andThen_ok,Sem.run_pure],.of_rep e2⟩⟩
theorem Vm {x y:Operand} {ty kt et:TypeId} {q:IntKind} {z:Int} {ks vs:List DV} {d:DV} {zv:Value} (hu:P.underlying ty=some (.map kt et)) (hk:P.underlying kt=some (.int q)) (hz:∀ w,(zeroValue et).run P w=.ok zv w) (hd:∀ w I,Rep w I d zv) (hf:freshK q z ks)
  (ho:o.op=.lookup ty x y false:=by rfl) (hx:A2 (lk env x)=some (.mp ks vs):=by rfl) (hy:A2 (lk env y)=some (.i q z):=by rfl):VOK P C o env H (.d d) :=
 .pv ⟨by simp [ho],fun X a w I μ O _ hs=>by
  have h1:=hs.deep (x:=x) hx
  have h2:=hs.deep (x:=y) hy
  generalize hev:a.eval x=u at h1
  generalize hev2:a.eval y=u2 at h2
  cases h2
  cases h1 with
  | mp _ _ ks' vs' r es c hI hh h3 h4 hp hl =>
   have hl':ks'.length=vs'.length:=by rw [h3.length,h4.length,List.length_map,List.length_map]
   have e1:=IK (q:=q) (z:=z) rfl 0 h3 fun k hk=>hf k (IY hp hl' hk)
   exact ⟨zv,by simp only [execOp,ho,hev,hev2,JF hu hk (hz w) hh e1,Sem.run_bind,Result.andThen_ok,Sem.run_pure],.of_rep (hd w I)⟩⟩
end
end Go.FL
namespace Go.FL
open Go Go.RowKit
section
variable {P:Program} {C:Cx} {X:Snap} {o:Oper} {ops:Array Oper} {Q:Exit→Env→Af→Prop} {env env':Env} {H H':Af} {a:Act} {w w':World} {I I':Nat→Prop} {μ μ':List Nat} {O O':Nat→Option Loc}
 {K:Env→Af→Prop} {k:Nat} {l:List Oper}
def Fv (P:Program) (t:TypeId) : Bool:=match P.underlying t with
 | some (.func ..)=>true
 | _=>false
theorem Pu {t:TypeId} (hu:Fv P t=true) (f:Go.Fn) (fs cs:Array Value) : (Op.equal t (.func f fs cs) .nilFunc).run P w=.ok false w:=by
 unfold Fv at hu
 split at hu
 ·rename_i h
  have e:Op.equal t (.func f fs cs) .nilFunc=Op.equalIn (9999+1) t (.func f fs cs) .nilFunc:=rfl
  rw [e]
  unfold Op.equalIn
  simp only [run_underlying h,Sem.run_bind,Result.andThen_ok,Sem.run_pure]
 ·cases hu
theorem PP {t:TypeId} (hu:Fv P t=true) : (Op.equal t .nilFunc .nilFunc).run P w=.ok true w:=by
 unfold Fv at hu
 split at hu
 ·rename_i h
  have e:Op.equal t .nilFunc .nilFunc=Op.equalIn (9999+1) t .nilFunc .nilFunc:=rfl
  rw [e]
  unfold Op.equalIn
  simp only [run_underlying h,Sem.run_bind,Result.andThen_ok,Sem.run_pure]
 ·cases hu
theorem Va {xt yt:TypeId} {x y:Operand} {f:FuncId} {fs cs:List DV} (hu:Fv P xt=true) (ho:o.op=.binOp .eql xt x y yt:=by rfl) (hx:A2 (lk env x)=some (.fn f fs cs):=by rfl) (hy:A2 (lk env y)=some .nf:=by rfl) : VOK P C o env H (.d (.b false)):=by
 refine .same (by simp [ho]) fun X a w I μ O _ hs=>⟨.bool false,?_,.b _⟩
 have h1:=hs.deep hx
 have h2:=hs.deep hy
 generalize hev:a.eval x=v1 at h1
 generalize hev2:a.eval y=v2 at h2
 cases h1;cases h2
 simp [execOp,ho,hev,hev2,binOp,eqGuard,Pu hu]
theorem U8 {xt yt:TypeId} {x y:Operand} (hu:Fv P xt=true) (ho:o.op=.binOp .eql xt x y yt:=by rfl) (hx:A2 (lk env x)=some .nf:=by rfl) (hy:A2 (lk env y)=some .nf:=by rfl) : VOK P C o env H (.d (.b true)):=by
 refine .same (by simp [ho]) fun X a w I μ O _ hs=>⟨.bool true,?_,.b _⟩
 have h1:=hs.deep hx
 have h2:=hs.deep hy
 generalize hev:a.eval x=v1 at h1
 generalize hev2:a.eval y=v2 at h2
 cases h1;cases h2
 simp [execOp,ho,hev,hev2,binOp,eqGuard,PP hu]
end
end Go.FL
namespace Go.FL
open Go Go.Proofs
theorem Pb : Cm Tryz.prog 36=some true:=by kernel_rfl
theorem MU : AD Tryz.prog 36=5:=by kernel_rfl
theorem OD : Ca Tryz.prog 36 0=some (0,1):=by kernel_rfl
theorem Uz : DD Tryz.prog 36=some [(0,1),(1,3),(4,1)]:=by kernel_rfl
theorem Td : (Tryz.prog.info? 36).bind (·.zero)=some (.agg #[.int .i64 0,.bool false,.slice none 0 0,.slice none 0 0,.int .i64 0]):=by kernel_rfl
theorem S9 (w:World) (I:Nat→Prop) : RepAll w I [.i .i64 0,.b false,.sl [],.sl [],.i .i64 0] (Value.agg #[.int .i64 0,.bool false,.slice none 0 0,.slice none 0 0,.int .i64 0]).cells.toList:=.cons (.i _ _) (.cons (.b _) (.cons (.sl0 _ _) (.cons (.sl0 _ _) (.cons (.i _ _) (.nil)))))
end Go.FL
namespace Go.FL
open Go Go.RowKit
section
variable {P:Program} {C:Cx} {X:Snap} {o:Oper} {ops:Array Oper} {Q:Exit→Env→Af→Prop} {env env':Env} {H H':Af} {a:Act} {w w':World} {I I':Nat→Prop} {μ μ':List Nat} {O O':Nat→Option Loc}
 {K:Env→Af→Prop} {k:Nat} {l:List Oper}
theorem Sim.frzT (hs:Sim P X env H a w I μ O) {n:Nat} {e:TypeId} {xs:List DV} (hp:get env n=.own e xs) : ∃ (bs:List Nat) (O':Nat→Option Loc),Sim P X (HL (.t n) xs env) H a w (fun b=>I b∨b∈bs) μ O':=by
 obtain ⟨v,bs,hv,hr,hb,hO⟩:=hs.at_place (p:=.t n) hp
 have hO':∀ b∈bs,O b=some (.t n):=fun b hm=>(hO b hm).2.1 n rfl
 refine ⟨bs,_,⟨hs.toMem.frz bs (fun b hm=>(hO b hm).1) (fun b hm hk=>by have:=hs.kO b hk;rw [hO' b hm] at this;cases this) H rfl ?_,hs.frz_env (p:=.t n) hp hv hr hO' (fun _ _ _ _ h=>h),hs.nt,hs.dfs⟩⟩
 intro id o ho
 obtain ⟨blk,cs,h1,h2,h3,h4⟩:=hs.heap id o ho
 refine ⟨blk,cs,h1,h2.mono fun _ h=>.inl h,fun hn=>⟨(h3 hn).1,fun b hb=>?_⟩,h4⟩
 have h5:=(h3 hn).2 b hb
 have:b∉bs:=fun hm=>by have:=hO' b hm;rw [h5] at this;simp at this
 simp [this,h5]
theorem S6 {c:Call} {fo:Operand} {gv:DV} {xs xs0:List DV} {q:IntKind} {n:Int} (s:Nat) {e:TypeId} {ys:List DV} (h:FnV P gv xs (.d (.i q n))) (hp:get env s=.own e ys:=by rfl) (ho:o.op=.call c:=by rfl) (hc:c.callee=.value fo:=by rfl) (hfo:lk env fo=.d gv:=by rfl) (ha:argsD (HL (.t s) ys env) c.args.toList=some xs0:=by rfl) (hx:xs0=xs:=by simp) : VOK P C o env H (.d (.i q n)):=by
 subst hx
 obtain ⟨f,first,caps,rfl,hcall,hfn⟩:=h
 intro X a w I μ O next Q h1 h2 h3 hs hn
 have hfr0:=hs.deep (x:=fo) (v:=.fn f first caps) (by rw [hfo];rfl)
 obtain ⟨bs0,O2,hs2⟩:=hs.frzT hp
 have hfr:=hfr0.keep (w':=w) (I':=fun b=>I b∨b∈bs0) (fun _ _=>rfl) (fun _ h=>.inl h)
 generalize hev:a.eval fo=u at hfr
 cases hfr with
 | fn _ _ _ fs cs hfs hcs =>
  refine ⟨fun _ _=>trivial,?_⟩
  have hres:=BW (P:=P) (w:=w) (ρ:=a.eval) (ty:=o.type) hc hev
  have hex:(execOp a.eval o).run P w=.ok (.enter f (fs.toArray++c.args.map a.eval++cs.toArray)) w:=by
   simp only [execOp,ho,Sem.run_bind,hres,Result.andThen_ok,invoke,hcall]
  rw [Oper.semAt_eq _ _ _ (by simp [ho]),hex,Oper.uponIn_enter]
  refine ⟨fun h=>(by simp [om] at h),?_⟩
  have hcl:=hfn w _ _ hs2.ilt ((hfs.append (hs2.argsD ha)).append hcs)
  have e:(fs++c.args.toList.map a.eval++cs).toArray=fs.toArray++c.args.map a.eval++cs.toArray:=by
   apply Array.ext';simp
  rw [e] at hcl
  refine ⟨trivial,fun csF hroom=>?_⟩
  obtain ⟨e,w',fr,⟨v,I',bs,rfl,q1,q2,q3,q4,q5,q6⟩,s,x⟩:=hcl.2 csF (room_wide _)
  have hv:∀ J:Nat→Prop,ARep P w' J μ (.d (.i q n)) v []:=by
   intro J
   cases q4 with
   | d h=>cases h;exact .d (.i _ _)
  exact ⟨.returned v,w',fr,hn v w' (fun b=>I' b∧(b<w.heap.size→I b)) [] q1 (fun b hb=>⟨q2 b (.inl hb),fun _=>hb⟩) (fun b hb=>⟨(q3 b hb.1).1,hb.2⟩) (Me (hv _) rfl) nN (by simp),s,x⟩
theorem SJ {y:Operand} {t ty:Nat} {c c':DV} (hsz:AD P ty=1) (ho:o.op=.store ty (.tmp t) y) (hv:get env t=.nb [c]) (hy:A2 (lk env y)=some c') (h1:c'.leaf=true) (hd:o.dst=none) (hK:K ((t,.nb [c'])::env) H) : OpOK P C o env H K:=by
 refine .done (by simp [ho]) hd (fun X a w I μ O _ _ _ hs=>?_) hK
 have hr:=hs.deep (x:=y) hy
 generalize hev:a.eval y=u at hr
 obtain ⟨blk,cells,e,q1,q2,q3,q4⟩:=hs.nbSet (vs:=[u]) hv (.cons hr .nil)
 refine ⟨_,I,μ,O,?_,q4⟩
 have hone:=hr.one h1
 obtain ⟨old,hold⟩:∃ old,cells=#[old]:=by
  have hl:=q3.length
  match hc:cells.toList,hl with
  | [old],_=>exact ⟨old,by apply Array.ext';simpa using hc⟩
 subst hold
 obtain ⟨i,i1,i2⟩:=FG (P:=P) (t:=ty) (by omega)
 have hx:a.eval (.tmp t)=.pointer (some ⟨blk,0,none⟩):=q1
 have hsi:(P.info? ty).map (·.size)=some 1:=by rw [i1];simp;omega
 simp only [execOp,ho,hx,hev,Instr.storeAt,Instr.sureAddr,Sem.run_bind,Sem.run_pure,Result.andThen_ok,Go.run_storeVar_one w blk e ty old u q2 hsi hone]
theorem P8 {y:Operand} {t ty:Nat} {c c':DV} (h:RL P C ops Q (k+1) l ((t,.nb [c'])::env) H) (hsz:AD P ty=1) (hg:grd ops env o true=true:=by rfl) (ho:o.op=.store ty (.tmp t) y:=by rfl)
  (hv:get env t=.nb [c]:=by rfl) (hy:A2 (lk env y)=some c':=by rfl) (h1:c'.leaf=true:=by rfl) (hd:o.dst=none:=by rfl):RL P C ops Q k (o::l) env H :=
 .go hg (SJ hsz ho hv hy h1 hd h)
theorem mk' {α:Type} {F:List α→List DV} {x0:α} {x c:Operand} {ty t e by_:Nat} {z:Value} {q q':IntKind} {zl:Int} (n:Nat) (hF:List.replicate n (N3 z)=F (List.replicate n x0)) (hn:zl=n) (hb:by_ * n≤281474976710656∧n≤9223372036854775807) (h:RL P C ops Q (k+1) l ((t,.own e (F (List.replicate n x0)))::env) H)
  (hT:Cg P ty=some (e,1,by_,z)) (hz:zok z=true) (hg:grd ops env o true=true:=by rfl) (ho:o.op=.makeSlice ty x c:=by rfl) (hx:lk env x=.d (.i q zl):=by rfl) (hc:lk env c=.d (.i q' zl):=by rfl) (hd:o.dst=some t:=by rfl)
  (hf:An (get env t)=false:=by rfl) (ht:okT C.nt t:=by rfl):RL P C ops Q k (o::l) env H :=
 mk n ⟨hn,hn⟩ hb (by rw [hF];exact h) hT hz hg ho hx hc hd hf ht
end
end Go.FL
namespace Go.FL
open Go Go.RowKit
def Sa (id:Nat) (cs:List DV) : AV→AV
 | .bp i off=>if i=id then .d (.ptr (cs.drop off)) else .bp i off
 | .d v=>.d v
 | .nl=>.nl
 | .own e xs=>.own e xs
 | .nb xs=>.nb xs
 | .it s p=>.it s p
 | .om k v=>.om k v
 | .ref (.t s) o n=>.ref (.t s) o n
 | .ep (.t s) i k=>.ep (.t s) i k
 | _=>.un
def PJ (id:Nat) (cs:List DV) (env:Env) : Env:=env.map fun x=>(x.1,Sa id cs x.2)
theorem Iv (id:Nat) (cs:List DV) (t:Nat) : ∀ env : Env,get (PJ id cs env) t=Sa id cs (get env t)
 | []=>rfl
 | (s,v)::r=>by
  show (if s=t then Sa id cs v else get (PJ id cs r) t)=Sa id cs (if s=t then v else get r t)
  split
  ·rfl
  ·exact Iv id cs t r
def Tf : HO→Bool
 | .box cs=>noBpL cs
section
variable {P:Program} {C:Cx} {X:Snap} {o:Oper} {ops:Array Oper} {Q:Exit→Env→Af→Prop} {env env':Env} {H H':Af} {a:Act} {w w':World} {I I':Nat→Prop} {μ μ':List Nat} {O O':Nat→Option Loc}
 {K:Env→Af→Prop} {k:Nat} {l:List Oper}
theorem ARepAll.deepAll : ∀ {cs:List DV} {vs:List Value} {bs:List Nat},ARepAll P w I μ (cs.map .d) vs bs→bs=[]∧RepAll w I cs vs
 | [],_,_,h=>by cases h;exact ⟨rfl,.nil⟩
 | c::cs,_,_,h=>by
  cases h with
  | cons h t =>
   obtain ⟨e,r⟩:=t.deepAll
   subst e
   cases h with
   | d h=>exact ⟨rfl,.cons h r⟩
theorem Gh2.pop {H0:Af} {bx:List AV} {cs:List DV} (hH:H=H0++[.box bx]) (hb:bx=cs.map .d) (hb0:H0.all Tf=true) (hne:Nat.ble C.ne H0.length=true) : Gh2 P C env H (PJ H0.length cs env) H0:=fun X a w I μ O _ h2 h3 hs=>by
 subst hH hb
 have hne':X.ne≤H0.length:=by rw [h3];exact Nat.le_of_ble_eq_true hne
 have hn0:X.n0≤H0.length:=nT hs.n0le hne'
 have hμl:μ.length=H0.length+1:=by rw [hs.μlen];simp
 obtain ⟨blk,bs,k1,⟨cells,e,m1,m2⟩,k3,_⟩:=hs.heap H0.length (.box (cs.map .d)) (by simp)
 obtain ⟨rfl,m3⟩:=m2.deepAll
 have hO:O blk=some (.o H0.length):=(k3 hn0).2 blk (by simp)
 have hKn:∀ b,X.K b→b≠blk:=fun b hk e=>by subst e;have:=hs.kO _ hk;rw [hO] at this;cases this
 have hμt:∀ i,i<H0.length→(μ.take H0.length)[i]?=μ[i]?:=fun i hi=>by rw [List.getElem?_take,if_pos hi]
 have hOn:∀ b l,O b=some l→l≠.o H0.length→(if b=blk then none else O b)=some l:=fun b l h hl=>by
  rw [if_neg fun e=>by subst e;rw [hO] at h;exact hl (oI h).symm];exact h
 refine ⟨fun b=>I b∨b=blk,μ.take H0.length,fun b=>if b=blk then none else O b,{
  prot:=hs.prot
  kO:=fun b hk=>by rw [if_neg (hKn b hk)];exact hs.kO b hk
  kI:=fun b hk hi=>hi.elim (hs.kI b hk) fun e=>absurd e (hKn b hk)
  mono:=fun b hi=>.inl (hs.mono b hi)
  os:=hs.os,tape:=hs.tape,output:=hs.output,size:=hs.size
  own:=fun b l hl=>by
   by_cases hb:b=blk
   ·rw [if_pos hb] at hl;cases hl
   ·rw [if_neg hb] at hl
    exact ⟨(hs.own b l hl).1,fun hi=>hi.elim (hs.own b l hl).2 hb⟩
  ilt:=fun b hi=>hi.elim (hs.ilt b) fun e=>by rw [e];exact (hs.own blk _ hO).1
  μlen:=by rw [List.length_take];omega
  μpre:=fun i b hi hb=>by rw [hμt i (by omega)];exact hs.μpre i b hi hb
  nle:=hne'
  heap:=fun id ob ho=>?_
  klt:=hs.klt
  n0le:=hs.n0le
  envr:=fun s=>?_
  nt:=hs.nt
  dfs:=hs.dfs}⟩
 ·have hlt:=(lS.1 ho).1
  obtain ⟨bb,bs',q1,q2,q3,q4⟩:=hs.heap id ob (by rw [List.getElem?_append_left hlt];exact ho)
  refine ⟨bb,bs',by rw [hμt id hlt];exact q1,?_,fun hn=>⟨(q3 hn).1,fun b hb=>hOn b _ ((q3 hn).2 b hb) (by simp;omega)⟩,q4⟩
  have hnb:Tf ob=true:=List.all_eq_true.1 hb0 ob (List.mem_of_getElem? ho)
  cases ob with
  | box c =>
   obtain ⟨cl,et,n1,n2⟩:=q2
   exact ⟨cl,et,n1,(n2.noBp (μ':=μ.take H0.length) hnb).keep (fun _ h=>.inl h) (fun _ _=>rfl) (fun _ _ h=>h) fun _ _=>rfl⟩
 ·rw [Iv]
  have ht:=hs.envr s
  have plain:∀ av,get env s=av→noBp av=true→A0 av=false→TRep P (PJ H0.length cs env) H0 a w (fun b=>I b∨b=blk) (μ.take H0.length) (fun b=>if b=blk then none else O b) s av:=by
   intro av hav hn hr
   rw [hav] at ht
   obtain ⟨bs,g1,g2,g3⟩:=ht.plain hr
   exact .of ((g1.noBp (μ':=μ.take H0.length) hn).keep (fun _ h=>.inl h) (fun _ _=>rfl) (fun _ _ h=>h) fun _ _=>rfl) g2 fun b hb=>hOn b _ (g3 b hb) (by simp)
  cases hgs:get env s with
  | bp i off =>
   rw [hgs] at ht
   obtain ⟨bs,g1,g2,g3⟩:=ht.plain rfl
   show TRep P _ _ a w _ _ _ s (if i=H0.length then .d (.ptr (cs.drop off)) else .bp i off)
   generalize hv:a.tmps.getD s undef=v at g1
   cases g1 with
   | bp _ _ blk' hb' =>
    by_cases hi:i=H0.length
    ·rw [if_pos hi]
     subst hi
     rw [k1] at hb'
     obtain rfl:=oI hb'
     refine .of (bs:=[]) ?_ nN (by simp)
     rw [hv]
     have hh:Has w blk 0 cells.toList:=fun j u hj=>by
      simp [World.cell?,m1]
      simpa using hj
     have hh2:=hh.drop off
     rw [Nat.zero_add] at hh2
     exact .d (.ptr _ blk off (cells.toList.drop off) (.inr rfl) hh2 ((m3.drop off).keep (fun _ _=>rfl) fun _ h=>.inl h))
    ·rw [if_neg hi]
     have hlt:=(lS.1 hb').1
     refine .of (bs:=[]) ?_ nN (by simp)
     rw [hv]
     exact .bp i off blk' (by rw [hμt i (by omega)];exact hb')
  | ref p off len =>
   cases p with
   | c _ _=>exact .un
   | t r =>
    rw [hgs] at ht
    obtain ⟨e',xs,A,n,c,g1,g2,g3,g4⟩:=ht
    refine ⟨e',xs,A,n,c,?_,g2,g3,g4⟩
    show get (PJ H0.length cs env) r=_
    rw [Iv,show get env r=_ from g1];rfl
  | ep p i k =>
   cases p with
   | c _ _=>exact .un
   | t r =>
    rw [hgs] at ht
    obtain ⟨e',xs,b,n,c,g1,g2,g3,g4,g5⟩:=ht
    refine ⟨e',xs,b,n,c,?_,g2,g3,g4,g5⟩
    show get (PJ H0.length cs env) r=_
    rw [Iv,show get env r=_ from g1];rfl
  | d v=>exact plain _ hgs rfl rfl
  | nl=>exact plain _ hgs rfl rfl
  | own e xs=>exact plain _ hgs rfl rfl
  | nb xs=>exact plain _ hgs rfl rfl
  | it s p=>exact plain _ hgs rfl rfl
  | om k v=>exact plain _ hgs rfl rfl
  | un=>exact .un
  | ag _=>exact .un
  | fn _ _ _=>exact .un
  | tup _=>exact .un
end
end Go.FL
namespace Go.FL
open Go Go.RowKit
theorem Nn (q:IntKind) : ∀ (ps:List (Int×DV)),(ps.map fun p=>DV.i q p.1).zip (ps.map (·.2))=ps.map fun p=>(DV.i q p.1,p.2)
 | []=>rfl
 | p::ps=>by simp [Nn q ps]
section
variable {P:Program} {C:Cx} {X:Snap} {o:Oper} {ops:Array Oper} {Q:Exit→Env→Af→Prop} {env env' envi:Env} {H H':Af} {a:Act} {w w':World} {I I':Nat→Prop} {μ μ':List Nat} {O O':Nat→Option Loc}
 {K:Env→Af→Prop} {k:Nat} {l:List Oper} {av:AV}
def MK : Nat:=1000000000
def Vo (P:Program) (C:Cx) (ops:Array Oper) (H:Af) (env0 vals:Env) (tm i0 ty:Nat) (q:IntKind) (i:Nat) (o:Oper) (t:Nat) (v:AV) : Option (Int×DV)→Prop
 | none=>Nf P C ops H env0 vals o t v∧tm∉o.looksAt ops∧t<MK∧(i≠i0→t≠tm)∧(i=i0→t=tm∧v=.om [] [])
 | some (z,d)=>o.dst=none∧o.guard=none∧v=.un∧t=MK+i∧get env0 t=.un∧Fy ops i i0=true∧∃ x y,o.op=.insert ty (.tmp tm) x y∧(∀ e,lk e x=.d (.i q z)) ∧
   ((∀ e,lk e y=.d d)∨∃ s,y=.tmp s∧s≠tm∧s∈o.looksAt ops∧get (Bn (o.looksAt ops) vals++env0) s=.d d)
end
end Go.FL
namespace Go.FL
open Go Go.RowKit
section
variable {P:Program} {C:Cx} {X:Snap} {o:Oper} {ops:Array Oper} {Q:Exit→Env→Af→Prop} {env env' envi env0 vals:Env} {H H':Af} {a:Act} {w w':World} {I I':Nat→Prop} {μ μ':List Nat} {O O':Nat→Option Loc}
 {k:Nat} {l:List Oper} {av v:AV} {t tm i0 ty n:Nat} {q:IntKind} {ps qs:List (Int×DV)}
inductive DLM (P:Program) (C:Cx) (ops:Array Oper) (H:Af) (env0:Env) (tm i0 ty:Nat) (q:IntKind) : Nat→Env→List (Int×DV)→List Oper→Env→List (Int×DV)→Prop
 | nil (n:Nat) (vals:Env) (ps:List (Int×DV)):DLM P C ops H env0 tm i0 ty q n vals ps [] vals ps
 | run {n:Nat} {vals fin:Env} {ps qs:List (Int×DV)} {o:Oper} {t:Nat} {v:AV} {l:List Oper} (hi:n≠i0) (hd:o.dst=some t) (ht:okT C.nt t) (h0:Oa (get env0 t)=true) (hn:(vals.map (·.1)).contains t=false) (hs:Gq t v=true)
   (hg:grd ops (Bn (o.looksAt ops) vals++env0) o true=true) (hv:VOK P C o (Bn (o.looksAt ops) vals++env0) H v) (hr:CV (Bn (o.looksAt ops) vals++env0)=true) (hl:(o.looksAt ops).contains tm=false) (htd:t<MK) (htm:t≠tm)
   (h:DLM P C ops H env0 tm i0 ty q (n+1) ((t,v)::vals) ps l fin qs):DLM P C ops H env0 tm i0 ty q n vals ps (o::l) fin qs
 | mk {vals fin:Env} {ps qs:List (Int×DV)} {o:Oper} {l:List Oper} (hd:o.dst=some tm) (ht:okT C.nt tm) (h0:Oa (get env0 tm)=true) (hn:(vals.map (·.1)).contains tm=false)
   (hg:grd ops (Bn (o.looksAt ops) vals++env0) o true=true) (hv:VOK P C o (Bn (o.looksAt ops) vals++env0) H (.om [] [])) (hr:CV (Bn (o.looksAt ops) vals++env0)=true) (hl:(o.looksAt ops).contains tm=false) (htd:tm<MK)
   (h:DLM P C ops H env0 tm i0 ty q (i0+1) ((tm,.om [] [])::vals) ps l fin qs):DLM P C ops H env0 tm i0 ty q i0 vals ps (o::l) fin qs
 | ins {n:Nat} {vals fin:Env} {ps qs:List (Int×DV)} {o:Oper} {l:List Oper} {x y:Operand} {z:Int} {d:DV} (hi:n≠i0) (hd:o.dst=none) (hgn:o.guard=none) (hop:o.op=.insert ty (.tmp tm) x y) (hx:∀ e,lk e x=.d (.i q z))
   (hy:(∀ e,lk e y=.d d)∨∃ s,y=.tmp s∧s≠tm∧s∈o.looksAt ops∧get (Bn (o.looksAt ops) vals++env0) s=.d d) (hdi:Fy ops n i0=true) (h0:get env0 (MK+n)=.un)
   (h:DLM P C ops H env0 tm i0 ty q (n+1) ((MK+n,.un)::vals) (ps++[(z,d)]) l fin qs):DLM P C ops H env0 tm i0 ty q n vals ps (o::l) fin qs
theorem DLM.table {n:Nat} {vals fin:Env} {ps qs:List (Int×DV)} {l:List Oper} (h:DLM P C ops H env0 tm i0 ty q n vals ps l fin qs) : ∃ (tv:List (Nat×AV)) (iv:List (Option (Int×DV))),tv.length=l.length∧iv.length=l.length∧fin=tv.reverse++vals∧qs=ps++iv.filterMap id ∧
  ∀ (i:Nat) o,l[i]?=some o→∃ t v p,tv[i]?=some (t,v)∧iv[i]?=some p∧(n+i=i0→p=none)∧Vo P C ops H env0 ((tv.take i).reverse++vals) tm i0 ty q (n+i) o t v p:=by
 induction h with
 | nil n vals ps=>exact ⟨[],[],rfl,rfl,rfl,by simp,fun i o h=>by simp at h⟩
 | @run n vals fin ps qs o t v l hi hd ht h0 hn hs hg hv hr hl htd htm h ih =>
  obtain ⟨tv,iv,k1,k2,k3,k4,k5⟩:=ih
  refine ⟨(t,v)::tv,none::iv,by simp [k1],by simp [k2],by rw [k3];simp,by rw [k4];simp,fun i o' hio=>?_⟩
  cases i with
  | zero =>
   simp at hio;subst hio
   refine ⟨t,v,none,rfl,rfl,fun _=>rfl,⟨hd,ht,J2 h0,fun x hx e=>?_,hs,hr,.inl ⟨hg,hv⟩⟩,fun hm=>?_,htd,fun _=>htm,fun e=>absurd e hi⟩
   ·subst e
    have:(vals.map (·.1)).contains x.1=true:=List.contains_iff_mem.2 (List.mem_map_of_mem hx)
    rw [hn] at this;cases this
   ·have:=List.contains_iff_mem.2 hm
    rw [hl] at this;cases this
  | succ i =>
   obtain ⟨t',v',p',m1,m2,m3,m4⟩:=k5 i o' (by simpa using hio)
   have e:n+(i+1)=n+1+i:=by omega
   refine ⟨t',v',p',by simpa using m1,by simpa using m2,by rw [e];exact m3,?_⟩
   rw [e];simpa using m4
 | @mk vals fin ps qs o l hd ht h0 hn hg hv hr hl htd h ih =>
  obtain ⟨tv,iv,k1,k2,k3,k4,k5⟩:=ih
  refine ⟨(tm,.om [] [])::tv,none::iv,by simp [k1],by simp [k2],by rw [k3];simp,by rw [k4];simp,fun i o' hio=>?_⟩
  cases i with
  | zero =>
   simp at hio;subst hio
   refine ⟨tm,.om [] [],none,rfl,rfl,fun _=>rfl,⟨hd,ht,J2 h0,fun x hx e=>?_,rfl,hr,.inl ⟨hg,hv⟩⟩,fun hm=>?_,htd,fun e=>absurd rfl e,fun _=>⟨rfl,rfl⟩⟩
   ·subst e
    have:(vals.map (·.1)).contains x.1=true:=List.contains_iff_mem.2 (List.mem_map_of_mem hx)
    rw [hn] at this;cases this
   ·have:=List.contains_iff_mem.2 hm
    rw [hl] at this;cases this
  | succ i =>
   obtain ⟨t',v',p',m1,m2,m3,m4⟩:=k5 i o' (by simpa using hio)
   have e:i0+(i+1)=i0+1+i:=by omega
   refine ⟨t',v',p',by simpa using m1,by simpa using m2,by rw [e];exact m3,?_⟩
   rw [e];simpa using m4
 | @ins n vals fin ps qs o l x y z d hi hd hgn hop hx hy hdi h0 h ih =>
  obtain ⟨tv,iv,k1,k2,k3,k4,k5⟩:=ih
  refine ⟨(MK+n,.un)::tv,some (z,d)::iv,by simp [k1],by simp [k2],by rw [k3];simp,by rw [k4];simp,fun i o' hio=>?_⟩
  cases i with
  | zero =>
   simp at hio;subst hio
   exact ⟨MK+n,.un,some (z,d),rfl,rfl,fun e=>absurd e hi,hd,hgn,rfl,rfl,h0,hdi,x,y,hop,hx,hy⟩
  | succ i =>
   obtain ⟨t',v',p',m1,m2,m3,m4⟩:=k5 i o' (by simpa using hio)
   have e:n+(i+1)=n+1+i:=by omega
   refine ⟨t',v',p',by simpa using m1,by simpa using m2,by rw [e];exact m3,?_⟩
   rw [e];simpa using m4
end
end Go.FL
namespace Go.FL
open Go Go.RowKit
def RD {α β:Type} (T:List (Int×FW α β)) : List (Int×DV):=T.map fun p=>(p.1,p.2.dv)
def SV {α β:Type} (q:IntKind) (T:List (Int×FW α β)) : DV:=.mp ((RD T).map fun p=>.i q p.1) ((RD T).map (·.2))
def F5 {α β:Type} (T:List (Int×FW α β)) (z:Int) : Option (FW α β):=(T.find? fun p=>decide (p.1=z)).map (·.2)
def Uc {α β:Type} (x:Option α) (a:β) (f:α→β) : β:=match x with
 | none=>a
 | some y=>f y
theorem Tw {α β:Type} {x:Option α} {a r:β} {f:α→β} (e:x=none) (h:Uc x a f=r) : a=r:=by subst e;exact h
theorem TH {α β:Type} {x:Option α} {y:α} {a r:β} {f:α→β} (e:x=some y) (h:Uc x a f=r) : f y=r:=by subst e;exact h
theorem J0 {α β:Type} {T:List (Int×FW α β)} {z:Int} {f:FW α β} (h:F5 T z=some f) : (z,f)∈T:=by
 unfold F5 at h
 simp only [Option.map_eq_some_iff] at h
 obtain ⟨p,hp,rfl⟩:=h
 have h1:=List.find?_some hp
 have h2:=List.mem_of_find?_eq_some hp
 have:p.1=z:=by simpa using h1
 rw [← this];exact h2
theorem Sw {α β:Type} {T:List (Int×FW α β)} {z:Int} (h:F5 T z=none) : ∀ p∈T,p.1≠z:=fun p hp=>by
 unfold F5 at h
 rw [Option.map_eq_none_iff,List.find?_eq_none] at h
 simpa using h p hp
theorem OU {α β:Type} (q:IntKind) (T:List (Int×FW α β)) : ((RD T).map fun p=>DV.i q p.1).zip ((RD T).map (·.2))=T.map fun p=>(DV.i q p.1,p.2.dv):=by
 rw [Nn];unfold RD;rw [List.map_map];rfl
theorem Lm {α β:Type} : ∀ {T:List (Int×FW α β)},(T.map (·.1)).Nodup→∀ {z f g},(z,f)∈T→(z,g)∈T→f=g
 | p::T,hn,z,f,g,h1,h2=>by
  rw [List.map_cons,List.nodup_cons] at hn
  rcases List.mem_cons.1 h1 with e1|h1<;>rcases List.mem_cons.1 h2 with e2|h2
  ·rw [← e1] at e2;cases e2;rfl
  ·exact absurd (List.mem_map.2 ⟨_,h2,by rw [← e1]⟩) hn.1
  ·exact absurd (List.mem_map.2 ⟨_,h1,by rw [← e2]⟩) hn.1
  ·exact Lm hn.2 h1 h2
section
variable {P:Program} {C:Cx} {o:Oper} {ops:Array Oper} {Q:Exit→Env→Af→Prop} {env:Env} {H:Af} {k:Nat} {l:List Oper}
theorem S3 {α β:Type} {T:List (Int×FW α β)} {z:Int} {f:FW α β} {x y:Operand} {ty kt et:TypeId} {q:IntKind} (hnd:(T.map (·.1)).Nodup) (hu:P.underlying ty=some (.map kt et)) (hk:P.underlying kt=some (.int q)) (h:F5 T z=some f)
  (ho:o.op=.lookup ty x y false:=by rfl) (hx:A2 (lk env x)=some (SV q T):=by rfl) (hy:A2 (lk env y)=some (.i q z):=by rfl):VOK P C o env H (.d f.dv):=by
 refine Vb (q:=q) (z:=z) hu hk (fun k hk=>?_) ?_ (fun d' hd=>?_) ho hx hy
 ·obtain ⟨p,_,rfl⟩:=List.mem_map.1 hk;exact ⟨_,rfl⟩
 ·rw [OU];exact List.mem_map.2 ⟨_,J0 h,rfl⟩
 ·rw [OU] at hd
  obtain ⟨p,hp,e⟩:=List.mem_map.1 hd
  simp only [Prod.mk.injEq,DV.i.injEq,true_and] at e
  obtain ⟨e1,rfl⟩:=e
  have:(z,p.2)∈T:=by rw [← e1];exact hp
  rw [Lm hnd this (J0 h)]
theorem UQ {α β:Type} {T:List (Int×FW α β)} {z:Int} {x y:Operand} {ty kt et:TypeId} {q:IntKind} (hu:P.underlying ty=some (.map kt et)) (hk:P.underlying kt=some (.int q)) (hz:∀ w,(zeroValue et).run P w=.ok .nilFunc w) (h:F5 T z=none)
  (ho:o.op=.lookup ty x y false:=by rfl) (hx:A2 (lk env x)=some (SV q T):=by rfl) (hy:A2 (lk env y)=some (.i q z):=by rfl):VOK P C o env H (.d .nf):=by
 refine Vm (q:=q) (z:=z) hu hk hz (fun _ _=>.nf) (fun k hk=>?_) ho hx hy
 obtain ⟨p,hp,rfl⟩:=List.mem_map.1 hk
 obtain ⟨p',hp',rfl⟩:=List.mem_map.1 hp
 exact ⟨_,rfl,Sw h p' hp'⟩
theorem U6 {xt yt:TypeId} {x y:Operand} {d:DV} (hu:Fv P xt=true) (hf:∃ f fs cs,d=.fn f fs cs) (ho:o.op=.binOp .eql xt x y yt:=by rfl) (hx:A2 (lk env x)=some d:=by rfl) (hy:A2 (lk env y)=some .nf:=by rfl) : VOK P C o env H (.d (.b false)):=by
 obtain ⟨f,fs,cs,rfl⟩:=hf
 exact Va hu ho hx hy
end
end Go.FL
namespace Go.FL
open Go Go.Proofs
section
variable {P:Program} {C:Cx} {o:Oper} {ops:Array Oper} {Q:Exit→Env→Af→Prop} {env:Env} {H:Af} {k:Nat} {l:List Oper}
theorem asu {x:Operand} {t:Nat} (h:RL P C ops Q (k+1) l ((t,.un)::env) H) (hg:grd ops env o true=true:=by rfl) (ho:o.op=.assign x:=by rfl) (hd:o.dst=some t:=by rfl) (hf:An (get env t)=false:=by rfl) (ht:okT C.nt t:=by rfl) : RL P C ops Q k (o::l) env H:=by
 rw [← Al hf] at h
 exact .go hg (.pure (by simp [ho]) hd ht (fun X a w I μ O _ hs=>⟨a.eval x,by simp [execOp,ho],[],.un _,nN,by simp⟩) h)
theorem freshK.nil {q:IntKind} {z:Int} : freshK q z []:=nofun
theorem freshK.snoc {q:IntKind} {z z':Int} {ks:List DV} (h:freshK q z ks) (hz:z'≠z) : freshK q z (ks++[.i q z']):=fun k hk=>by
 rcases List.mem_append.1 hk with h1|h1
 ·exact h k h1
 ·rw [List.mem_singleton] at h1
  exact ⟨z',h1,hz⟩
end
theorem gkR : Tryz.prog.underlying 21=some (.int .i32):=by kernel_rfl
def isF (d:DV) : Prop:=∃ f fs cs,d=.fn f fs cs
theorem GS {n:Nat} : List.replicate n (N3 (.int .i64 0))=Is (List.replicate n 0):=by simp [Is,N3]
theorem LZ (w:World) (I:Nat→Prop) : RepAll w I [.sl []] (Value.slice none 0 0).cells.toList:=.cons (.sl0 _ _) .nil
abbrev Ed : Type:=FW (Arr) (Arr×Int)
abbrev Fk (f:Ed) : Prop:=f.OK Tryz.prog (fun x=>[.ag [.sl (Is x.shape),.sl (Its x.items)]]) (fun r=>.tup [.d (.ag [.sl (Is r.1.shape),.sl (Its r.1.items)]),.d (.i .i64 r.2)])
abbrev Bl : Type:=FW ((List Int)) (Int)
abbrev Ke (f:Bl) : Prop:=f.OK Tryz.prog (fun x=>[.sl (Is x)]) (fun r=>.d (.i .i64 r))
theorem Ej : Fv Tryz.prog 84=true:=by kernel_rfl
def C8 (a0:Arr) : Option (Itm):=((Bg a0).bind fun x1=>(if x1=true then ((rd? a0.items 0).bind fun x2=>((Ik x2).bind fun x3=>(some (x3)))) else (some ((Itm.mk 0 (false,[],[]) 0 [])))))
theorem G9 {a0:Arr} {r:Itm} (h:C8 a0=some r) :
  Fn Tryz.prog 126 [.ag [.sl (Is a0.shape),.sl (Its a0.items)]] (.d (.ag [.i .u8 r.kind,.b r.num.1,.sl (L r.num.2.1),.sl (L r.num.2.2),.i .i32 r.char,.sl (Ars r.box)])):=by
 unfold C8 at h
 refine Fn.ofC (rs:=[.cell 2 58]) (nt:=12) Tryz.func126 rfl rfl rfl (by simp) rfl ?_;refine .sr ?_;refine vk (vbx) ?_;refine vk (van (Aj CU) Df) ?_;refine rk [1,2] ?_;refine .seq ?_;refine .sr ?_;refine vk (AJ Ac Ab) ?_
 obtain ⟨x1,g1,h⟩:=bnd h
 refine vk (Aq (BC g1) Tryz.call15) ?_;refine vk (vnt) ?_;refine rk [1,2,5] ?_
 rcases brc h with ⟨hc,h⟩|⟨hc,h⟩
 ·refine cnf (ntf hc) ?_
  refine .skip ?_
  show AW _ _ _ _ _ _
  refine .sr ?_;refine vk (vfa AG) ?_;refine vk (Ag Bp) ?_
  obtain ⟨x2,g2,h⟩:=bnd h
  obtain ⟨n2,p02,q2⟩:=Ah g2
  refine vk (vix n2 p02 (C1 q2) rfl C3) ?_;refine vk (AJ Bd AH) ?_
  obtain ⟨x3,g3,h⟩:=bnd h
  refine vk (Aq (Jr g3) Tryz.call31) ?_
  refine stn ?_ AH (by decide)
  refine rk [2] ?_;refine .ret ?_
  cases h
  exact ⟨_,⟨.inr rfl,Bd,AH,p6⟩,rfl⟩
 refine cnt (ntt (bf hc)) ?_;refine .sr ?_;refine vk (vbd IU CU Df) ?_
 refine stn ?_ AH (by decide)
 refine rk [1,2] ?_;refine .ret ?_
 cases h
 exact ⟨_,⟨.inr rfl,Bd,AH,p6⟩,rfl⟩
def Gb (a0:Arr) : Option (Arr):=((Bg a0).bind fun x1=>(if x1=true then ((Cc a0 (⟨.fn 33 [] [],fun x=>Gi x⟩ : BS)).bind fun x2=>(some (x2))) else (some ((Arr.mk [] [])))))
theorem Hr {a0:Arr} {r:Arr} (h:Gb a0=some r) :
  Fn Tryz.prog 134 [.ag [.sl (Is a0.shape),.sl (Its a0.items)]] (.d (.ag [.sl (Is r.shape),.sl (Its r.items)])):=by
 unfold Gb at h
 refine Fn.ofC (rs:=[.cell 2 27]) (nt:=9) Tryz.func134 rfl rfl rfl (by simp) rfl ?_;refine .sr ?_;refine vk (vbx) ?_;refine vk (van (Aj Ax) Az) ?_;refine rk [1,2] ?_;refine .seq ?_;refine .sr ?_;refine vk (AJ Ac Ab) ?_
 obtain ⟨x1,g1,h⟩:=bnd h
 refine vk (Aq (BC g1) Tryz.call15) ?_;refine vk (vnt) ?_;refine rk [1,2,5] ?_
 rcases brc h with ⟨hc,h⟩|⟨hc,h⟩
 ·refine cnf (ntf hc) ?_
  refine .skip ?_
  show AW _ _ _ _ _ _
  refine .sr ?_;refine vk (AJ Ac Ab) ?_
  obtain ⟨x2,g2,h⟩:=bnd h
  refine vk (Aq (DE (D6 Tryz.call33 (fun _ _ h=>HW h)) g2) Tryz.call69) ?_
  refine stn ?_ Ab (by decide)
  refine rk [2] ?_;refine .ret ?_
  cases h
  exact ⟨_,⟨.inr rfl,Ac,Ab,p2⟩,rfl⟩
 refine cnt (ntt (bf hc)) ?_;refine .sr ?_;refine vk (vbd BK Ax Az) ?_
 refine stn ?_ Ab (by decide)
 refine rk [1,2] ?_;refine .ret ?_
 cases h
 exact ⟨_,⟨.inr rfl,Ac,Ab,p2⟩,rfl⟩
def Bw (a0:(List Int)) (K0:(List Int)→Option ((List Int))) : Nat→(List Int)→Int→Int→Option ((List Int))
 | 0,_,_,_=>none
 | k+1,s3,s4,s5=>(if 0≤s5 then ((rd? s3 s5).bind fun x6=>((rd? a0 s5).bind fun x7=>(Bw a0 K0 k (List.set s3 (Int.toNat s5) s4) (w64 (s4 * x7)) (w64 (s5-1))))) else (K0 s3))
def Bi (a0:(List Int)) : Option ((List Int)):=((DA (0≤((List.length a0:Nat) : Int)∧((List.length a0:Nat) : Int)≤17592186044416)).bind fun x1=>(jn (fun (z2:(List Int))=>(some (z2))) fun K0=>(Bw a0 K0 AN (List.replicate (Int.toNat ((List.length a0:Nat) : Int)) (0:Int)) 1 (w64 (((List.length a0:Nat) : Int)-1)))))
theorem Bt {a0:(List Int)} {r:(List Int)} (h:Bi a0=some r) :
  Fn Tryz.prog 75 [.sl (Is a0)] (.d (.sl (Is r))):=by
 unfold Bi at h
 refine Fn.o1 2 27 Tryz.func75 ?_;refine .sr ?_;refine asn ?_;refine rk [0,2] ?_;refine .sr ?_;refine vk (Aa) ?_;refine vk (AT (Ae _) (A9 _) A6) ?_
 obtain ⟨x1,g1,h⟩:=bnd h
 have ghx1:=CM g1
 refine mk' (F:=Is) (x0:=0) (zl:=((List.length a0:Nat):Int)) (Int.toNat ((List.length a0:Nat):Int)) GS (by omega) (by omega) ?_ Ct (by decide)
 refine aso ?_;refine rk [0,2,3] ?_;refine .sr ?_;refine ar [0,2,3,4] ?_;refine .seq ?_;refine .sr ?_;refine vk (Aa) ?_;refine vk (AT (Ae _) (A9 _) A6) ?_;refine vk (vbi) ?_;refine ar [0,2,3,4,5] ?_
 obtain ⟨K0,hK0,h⟩:=AX h
 refine AW.mr (σ:=(List Int)) (fun p=>K0 p=some r) (fun p=>[(2,.nl),(3,.own 3 (Is p))]) (fun p=>[]) ?_ ?_
 ·skip
  refine .block ?_
  refine .loop (.gk [0,2,3,4,5] ?_)
  refine AL.ind (σ:=Nat×(List Int)×Int×Int) (m:=fun p=>p.1) (e:=fun p=>[(0,.d (.sl (Is a0))),(2,.nl),(3,.own 3 (Is p.2.1)),(4,.d (.i .i64 p.2.2.1)),(5,.d (.i .i64 p.2.2.2))]) (h:=fun p=>[]) (I:=fun p=>Bw a0 K0 p.1 p.2.1 p.2.2.1 p.2.2.2=some r) ?_ (AN,(List.replicate (Int.toNat ((List.length a0:Nat):Int)) (0:Int)),1,(w64 (((List.length a0:Nat):Int)-1))) h
  rintro ⟨k,s3,s4,s5⟩ h ih
  dsimp only at h ih ⊢
  rcases k with _|k
  ·rw [Bw] at h;cases h
  rw [Bw] at h
  refine .seq ?_;refine .sr ?_;refine vk (Aa) ?_;refine vk (vbi) ?_;refine rk [0,2,3,4,5,13] ?_
  rcases brc h with ⟨hc,h⟩|⟨hc,h⟩
  ·refine cnt (dT hc) ?_
   refine .skip ?_
   show AW _ _ _ _ _ _
   refine .seq ?_;refine .block ?_;refine .sr ?_;refine mvo ?_;refine vk (Aa) ?_;refine vk (Aa) ?_
   obtain ⟨x6,g6,h⟩:=bnd h
   obtain ⟨n6,p06,q6⟩:=Ah g6
   refine ixr (off:=0) (len:=(Is s3).length) n6 p06 (by rw [Ae];exact (lS.1 q6).1) ?_ AS (by decide)
   refine JO (F:=Is) (D:=fun x=>.i .i64 x) EO (us:=s3) (n:=n6) (m:=Int.toNat s5) (x:=s4) (by rw [p06];rfl) ⟨_,by rw [Nat.zero_add];exact AZ q6,rfl⟩ ?_ CE
   refine RL.gk [0,2,3,4,5,13,17,18] ?_;refine rk [0,2,3,4,5] ?_;refine .region ?_;refine vk (Aa) ?_;refine vk (Aa) ?_;refine vk (Aa) ?_
   obtain ⟨x7,g7,h⟩:=bnd h
   obtain ⟨n7,p07,q7⟩:=Ah g7
   refine vk (vix n7 p07 (AZ q7) rfl AS) ?_;refine vk (Ag Au) ?_;refine vk (vbi) ?_;refine asd ?_;refine .nil ?_
   show AW _ _ _ _ _ _
   refine .gk [0,2,3,4,5] ?_;refine .region ?_;refine vk (Aa) ?_;refine vk (vbi) ?_;refine asd ?_;refine .nil ?_;refine AL.gk [0,2,3,4,5] ?_
   exact ih (k,(List.set s3 (Int.toNat s5) s4),(w64 (s4 * x7)),(w64 (s5-1))) h (Nat.lt_succ_self _)
  refine cnf (dF hc) ?_;refine .gk [2,3] ?_;refine .exit ?_
  exact jr (s3) h
 rintro z2 h
 try dsimp only at h ⊢
 subst hK0
 show AW _ _ _ _ _ _
 refine .sr ?_;refine fz (p:=.t 3) ?_;refine vk (Aa) ?_;refine ar [2] ?_;refine .ret ?_
 cases h
 exact ⟨rfl,rfl⟩
def Cn (a0:(List Int)) (a1:(List Int)) (K0:Int→Option (Int)) : Nat→Int→Int→Option (Int)
 | 0,_,_=>none
 | k+1,s2,s3=>(if s3<((List.length a0:Nat):Int) then ((rd? a0 s3).bind fun x4=>((rd? a1 s3).bind fun x5=>(Cn a0 a1 K0 k (w64 (s2+(w64 (x4 * x5)))) (w64 (s3+1))))) else (K0 s2))
def B2 (a0:(List Int)) (a1:(List Int)) : Option (Int):=(jn (fun (z1:Int)=>(some (z1))) fun K0=>(Cn a0 a1 K0 AN 0 0))
theorem Dm {a0:(List Int)} {a1:(List Int)} {r:Int} (h:B2 a0 a1=some r) :
  Fn Tryz.prog 79 [.sl (Is a0),.sl (Is a1)] (.d (.i .i64 r)):=by
 unfold B2 at h
 refine Fn.o1 4 25 Tryz.func79 ?_;refine .sr ?_;refine ar [0,1,4] ?_;refine .sr ?_;refine ar [0,1,4,5] ?_;refine .seq ?_;refine .sr ?_;refine vk (Aa) ?_;refine vk (AT (Ae _) (A9 _) A6) ?_;refine vk (Aa) ?_;refine rk [1,4,5,8,9,10] ?_
 obtain ⟨K0,hK0,h⟩:=AX h
 refine AW.mr (σ:=Int) (fun p=>K0 p=some r) (fun p=>[(4,.d (.i .i64 0)),(5,.d (.i .i64 p))]) (fun p=>[]) ?_ ?_
 ·skip
  refine .block ?_
  refine .loop (.gk [1,4,5,8,9,10] ?_)
  refine AL.ind (σ:=Nat×Int×Int) (m:=fun p=>p.1) (e:=fun p=>[(1,.d (.sl (Is a1))),(4,.d (.i .i64 0)),(5,.d (.i .i64 p.2.1)),(8,.d (.sl (Is a0))),(9,.d (.i .i64 ((List.length a0:Nat):Int))),(10,.d (.i .i64 p.2.2))]) (h:=fun p=>[]) (I:=fun p=>Cn a0 a1 K0 p.1 p.2.1 p.2.2=some r) ?_ (AN,0,0) h
  rintro ⟨k,s2,s3⟩ h ih
  dsimp only at h ih ⊢
  rcases k with _|k
  ·rw [Cn] at h;cases h
  rw [Cn] at h
  refine .sr ?_;refine vk (vbi) ?_;refine rk [1,4,5,8,9,10,11] ?_;refine .seq ?_
  rcases brc h with ⟨hc,h⟩|⟨hc,h⟩
  ·refine cnt (dT hc) ?_
   refine .skip ?_
   show AW _ _ _ _ _ _
   refine .seq ?_;refine .block ?_;refine .sr ?_;refine vk (Aa) ?_
   obtain ⟨x4,g4,h⟩:=bnd h
   obtain ⟨n4,p04,q4⟩:=Ah g4
   refine vk (vix n4 p04 (AZ q4) rfl AS) ?_;refine vk (Ag Au) ?_;refine asd ?_;refine ar [1,4,5,6,7,8,9,10] ?_;refine .region ?_;refine vk (Aa) ?_;refine vk (Aa) ?_;refine vk (Aa) ?_;refine vk (Aa) ?_
   obtain ⟨x5,g5,h⟩:=bnd h
   obtain ⟨n5,p05,q5⟩:=Ah g5
   refine vk (vix n5 p05 (AZ q5) rfl AS) ?_;refine vk (Ag Au) ?_;refine vk (vbi) ?_;refine vk (vbi) ?_;refine asd ?_;refine .nil ?_
   show AW _ _ _ _ _ _
   refine .gk [1,4,5,8,9,10] ?_;refine .region ?_;refine vk (vbi) ?_;refine vk (Aa) ?_;refine .nil ?_;refine AL.gk [1,4,5,8,9,10] ?_
   exact ih (k,(w64 (s2+(w64 (x4 * x5)))),(w64 (s3+1))) h (Nat.lt_succ_self _)
  refine cnf (dF hc) ?_;refine .gk [4,5] ?_;refine .exit ?_
  exact jr (s2) h
 rintro z1 h
 try dsimp only at h ⊢
 subst hK0
 show AW _ _ _ _ _ _
 refine .sr ?_;refine vk (Aa) ?_;refine ar [4] ?_;refine .ret ?_
 cases h
 exact ⟨rfl,rfl⟩
def CG (a1:(List Int)) (x3:(List Int)) (s8:Int) (K3:(List Int)→Option (Arr×Int)) : Nat→(List Int)→Int→Option (Arr×Int)
 | 0,_,_=>none
 | k+1,s12,s13=>(if s13<((List.length x3:Nat):Int) then ((rd? x3 s13).bind fun x14=>((DA (x14≠0)).bind fun x15=>((rd? a1 s13).bind fun x16=>((DA (x16≠0)).bind fun x17=>((rd? s12 s13).bind fun x18=>(CG a1 x3 s8 K3 k (List.set s12 (Int.toNat s13) (Int.tmod (w64 (Int.tdiv s8 x14)) x16)) (w64 (s13+1)))))))) else (K3 s12))
def Cb (a0:Arr) (a1:(List Int)) (a2:Bl) (x1:Int×Int) (x2:Itm) (x3:(List Int)) (K0:(List Itm)→Option (Arr×Int)) : Nat→(List Int)→(List Itm)→Int→Option (Arr×Int)
 | 0,_,_,_=>none
 | k+1,s6,s7,s8=>(if s8<x1.1 then (jn (fun (z9:(List Int)) (z10:(List Itm))=>(Cb a0 a1 a2 x1 x2 x3 K0 k z9 z10 (w64 (s8+1)))) fun K2=>(jn (fun (z11:(List Int))=>((a2.g z11).bind fun x19=>(if 0≤x19 then ((rd? a0.items x19).bind fun x20=>((ap? 1466015503701 s7 [x20]).bind fun x21=>(K2 z11 x21))) else ((ap? 1466015503701 s7 [x2]).bind fun x22=>(K2 z11 x22))))) fun K3=>(CG a1 x3 s8 K3 AN s6 0))) else (K0 s7))
def Bm (a0:Arr) (a1:(List Int)) (a2:Bl) : Option (Arr×Int):=((BZ a1).bind fun x1=>(if x1.2=0 then ((C8 a0).bind fun x2=>((Bi a1).bind fun x3=>((DA (0≤((List.length a1:Nat) : Int)∧((List.length a1:Nat) : Int)≤17592186044416)).bind fun x4=>(jn (fun (z5:(List Itm))=>(jn (fun (z23:(List Itm))=>((AF a1 z23).bind fun x25=>(some (x25.1,x25.2)))) fun K5=>(if x1.1=0 then ((ap? 1466015503701 z5 [x2]).bind fun x24=>(K5 x24)) else (K5 z5)))) fun K0=>(Cb a0 a1 a2 x1 x2 x3 K0 AN (List.replicate (Int.toNat ((List.length a1:Nat) : Int)) (0:Int)) [] 0))))) else (some ((Arr.mk [] []),x1.2))))
theorem Eb {a0:Arr} {a1:(List Int)} {a2:Bl} (oa2:Ke a2) {r:Arr×Int} (h:Bm a0 a1 a2=some r) :
  Fn Tryz.prog 76 [.ag [.sl (Is a0.shape),.sl (Its a0.items)],.sl (Is a1),a2.dv] (.tup [.d (.ag [.sl (Is r.1.shape),.sl (Its r.1.items)]),.d (.i .i64 r.2)]):=by
 unfold Bm at h
 refine Fn.ofC (rs:=[.cell 6 27,.tmp 7]) (nt:=86) Tryz.func76 rfl rfl rfl (by simp) rfl ?_;refine .sr ?_;refine vk (vbx) ?_;refine vk (van (Aj Ax) Az) ?_;refine ar [1,2,3,6,7] ?_;refine .sr ?_;refine vk (Aa) ?_
 obtain ⟨x1,g1,h⟩:=bnd h
 refine vk (VOK.tupd (vs:=[.i .i64 x1.1,.i .i64 x1.2]) (Aq (Ci g1) Tryz.call26)) ?_;refine vk (Aa) ?_;refine vk (vex) ?_;refine vk (vex) ?_;refine asd ?_;refine ar [1,2,3,6,7,8,9] ?_;refine .seq ?_;refine .sr ?_;refine vk (Aa) ?_;refine vk (vbi) ?_;refine rk [1,2,3,6,7,8,9,24] ?_
 rcases brc h with ⟨hc,h⟩|⟨hc,h⟩
 ·refine cnf (ntf (dT hc)) ?_
  refine .skip ?_
  show AW _ _ _ _ _ _
  refine .sr ?_;refine vk (AJ Ac Ab) ?_
  obtain ⟨x2,g2,h⟩:=bnd h
  refine vk (Aq (G9 g2) Tryz.call126) ?_;refine vk (van (Aj CU) Df) ?_
  refine stn ?_ AH (by decide)
  refine rk [1,2,3,6,7,8,10] ?_;refine .sr ?_;refine vk (Aa) ?_
  obtain ⟨x3,g3,h⟩:=bnd h
  refine vk (Aq (Bt g3) Tryz.call75) ?_;refine ar [1,2,3,6,7,8,10,11] ?_;refine .sr ?_;refine vk (Aa) ?_;refine vk (AT (Ae _) (A9 _) A6) ?_
  obtain ⟨x4,g4,h⟩:=bnd h
  have ghx4:=CM g4
  refine mk' (F:=Is) (x0:=0) (zl:=((List.length a1:Nat):Int)) (Int.toNat ((List.length a1:Nat):Int)) GS (by omega) (by omega) ?_ Ct (by decide)
  refine aso ?_;refine rk [1,2,3,6,7,8,10,11,12] ?_;refine .sr ?_;refine asn ?_;refine rk [1,2,3,6,7,8,10,11,12,13] ?_;refine .seq ?_;refine .sr ?_;refine vk (Aa) ?_;refine vk (Aa) ?_;refine rk [1,2,3,6,7,8,10,11,12,13,34,35] ?_
  obtain ⟨K0,hK0,h⟩:=AX h
  refine AW.mr (σ:=(List Itm)) (fun p=>K0 p=some r) (fun p=>[(1,.d (.sl (Is a1))),(6,.nb [.sl (Is []),.sl (Its [])]),(7,.d (.i .i64 0)),(8,.d (.i .i64 x1.1)),(10,.nb [.i .u8 x2.kind,.b x2.num.1,.sl (L x2.num.2.1),.sl (L x2.num.2.2),.i .i32 x2.char,.sl (Ars x2.box)]),(13,.own 58 (Its p))]) (fun p=>[]) ?_ ?_
  ·skip
   refine .block ?_;refine .gh (Gh.nlOwn (t:=13) 58 (by rw [I8];decide) rfl) ?_
   refine .loop (.gk [1,2,3,6,7,8,10,11,12,13,34,35] ?_)
   refine AL.ind (σ:=Nat×(List Int)×(List Itm)×Int) (m:=fun p=>p.1) (e:=fun p=>[(1,.d (.sl (Is a1))),(2,.d (a2.dv)),(3,.d (.ptr [.sl (Is a0.shape),.sl (Its a0.items)])),(6,.nb [.sl (Is []),.sl (Its [])]),(7,.d (.i .i64 0)),(8,.d (.i .i64 x1.1)),(10,.nb [.i .u8 x2.kind,.b x2.num.1,.sl (L x2.num.2.1),.sl (L x2.num.2.2),.i .i32 x2.char,.sl (Ars x2.box)]),(11,.d (.sl (Is x3))),(12,.own 3 (Is p.2.1)),(13,.own 58 (Its p.2.2.1)),(34,.d (.i .i64 x1.1)),(35,.d (.i .i64 p.2.2.2))]) (h:=fun p=>[]) (I:=fun p=>Cb a0 a1 a2 x1 x2 x3 K0 p.1 p.2.1 p.2.2.1 p.2.2.2=some r) ?_ (AN,(List.replicate (Int.toNat ((List.length a1:Nat):Int)) (0:Int)),[],0) h
   rintro ⟨k,s6,s7,s8⟩ h ih
   dsimp only at h ih ⊢
   rcases k with _|k
   ·rw [Cb] at h;cases h
   rw [Cb] at h
   refine .sr ?_;refine vk (vbi) ?_;refine rk [1,2,3,6,7,8,10,11,12,13,34,35,36] ?_;refine .seq ?_
   rcases brc h with ⟨hc,h⟩|⟨hc,h⟩
   ·refine cnt (dT hc) ?_
    refine .skip ?_
    show AW _ _ _ _ _ _
    obtain ⟨K2,hK2,h⟩:=AX h
    refine AW.mj (σ:=(List Int)×(List Itm)) (fun p=>K2 p.1 p.2=some r) (fun p=>[(1,.d (.sl (Is a1))),(2,.d (a2.dv)),(3,.d (.ptr [.sl (Is a0.shape),.sl (Its a0.items)])),(6,.nb [.sl (Is []),.sl (Its [])]),(7,.d (.i .i64 0)),(8,.d (.i .i64 x1.1)),(10,.nb [.i .u8 x2.kind,.b x2.num.1,.sl (L x2.num.2.1),.sl (L x2.num.2.2),.i .i32 x2.char,.sl (Ars x2.box)]),(11,.d (.sl (Is x3))),(12,.own 3 (Is p.1)),(13,.own 58 (Its p.2)),(34,.d (.i .i64 x1.1)),(35,.d (.i .i64 s8))]) (fun p=>[]) ?_ ?_
    ·skip
     refine .block ?_;refine .sr ?_;refine vk (Aa) ?_;refine ar [1,2,3,6,7,8,10,11,12,13,14,34,35] ?_;refine .seq ?_;refine .sr ?_;refine vk (Aa) ?_;refine vk (AT (Ae _) (A9 _) A6) ?_;refine vk (Aa) ?_;refine rk [1,2,3,6,7,8,10,11,12,13,14,34,35,38,39,40] ?_
     obtain ⟨K3,hK3,h⟩:=AX h
     refine AW.mr (σ:=(List Int)) (fun p=>K3 p=some r) (fun p=>[(1,.d (.sl (Is a1))),(2,.d (a2.dv)),(3,.d (.ptr [.sl (Is a0.shape),.sl (Its a0.items)])),(6,.nb [.sl (Is []),.sl (Its [])]),(7,.d (.i .i64 0)),(8,.d (.i .i64 x1.1)),(10,.nb [.i .u8 x2.kind,.b x2.num.1,.sl (L x2.num.2.1),.sl (L x2.num.2.2),.i .i32 x2.char,.sl (Ars x2.box)]),(11,.d (.sl (Is x3))),(12,.own 3 (Is p)),(13,.own 58 (Its s7)),(34,.d (.i .i64 x1.1)),(35,.d (.i .i64 s8))]) (fun p=>[]) ?_ ?_
     ·skip
      refine .block ?_
      refine .loop (.gk [1,2,3,6,7,8,10,11,12,13,14,34,35,38,39,40] ?_)
      refine AL.ind (σ:=Nat×(List Int)×Int) (m:=fun p=>p.1) (e:=fun p=>[(1,.d (.sl (Is a1))),(2,.d (a2.dv)),(3,.d (.ptr [.sl (Is a0.shape),.sl (Its a0.items)])),(6,.nb [.sl (Is []),.sl (Its [])]),(7,.d (.i .i64 0)),(8,.d (.i .i64 x1.1)),(10,.nb [.i .u8 x2.kind,.b x2.num.1,.sl (L x2.num.2.1),.sl (L x2.num.2.2),.i .i32 x2.char,.sl (Ars x2.box)]),(11,.d (.sl (Is x3))),(12,.own 3 (Is p.2.1)),(13,.own 58 (Its s7)),(14,.d (.i .i64 s8)),(34,.d (.i .i64 x1.1)),(35,.d (.i .i64 s8)),(38,.d (.sl (Is x3))),(39,.d (.i .i64 ((List.length x3:Nat):Int))),(40,.d (.i .i64 p.2.2))]) (h:=fun p=>[]) (I:=fun p=>CG a1 x3 s8 K3 p.1 p.2.1 p.2.2=some r) ?_ (AN,s6,0) h
      rintro ⟨k,s12,s13⟩ h ih
      dsimp only at h ih ⊢
      rcases k with _|k
      ·rw [CG] at h;cases h
      rw [CG] at h
      refine .sr ?_;refine vk (vbi) ?_;refine rk [1,2,3,6,7,8,10,11,12,13,14,34,35,38,39,40,41] ?_;refine .seq ?_
      rcases brc h with ⟨hc,h⟩|⟨hc,h⟩
      ·refine cnt (dT hc) ?_
       refine .skip ?_
       show AW _ _ _ _ _ _
       refine .seq ?_;refine .block ?_;refine .sr ?_;refine vk (Aa) ?_
       obtain ⟨x14,g14,h⟩:=bnd h
       obtain ⟨n14,p014,q14⟩:=Ah g14
       refine vk (vix n14 p014 (AZ q14) rfl AS) ?_;refine vk (Ag Au) ?_;refine asd ?_;refine ar [1,2,3,6,7,8,10,11,12,13,14,15,16,34,35,38,39,40] ?_;refine .drawn 11 A8 (by kernel_rfl) ?_;refine dv KS ?_;refine dv (Aa) ?_;refine dv (Aa) ?_;refine dv (Aa) ?_
       obtain ⟨x15,g15,h⟩:=bnd h
       refine dv (Jh (CM g15)) ?_;refine dv (Aa) ?_;refine dv (Aa) ?_
       obtain ⟨x16,g16,h⟩:=bnd h
       obtain ⟨n16,p016,q16⟩:=Ah g16
       refine dv (vix n16 p016 (AZ q16) rfl AS) ?_;refine dv (Ag Au) ?_
       obtain ⟨x17,g17,h⟩:=bnd h
       refine dv (Jh (CM g17)) ?_
       obtain ⟨x18,g18,h⟩:=bnd h
       obtain ⟨n18,p018,q18⟩:=Ah g18
       refine dv (KM (off:=0) (len:=(Is s12).length) n18 p018 (by rw [Ae];exact (lS.1 q18).1) AS (by decide)) ?_;refine dz ?_
       refine JO (F:=Is) (D:=fun x=>.i .i64 x) EO (us:=s12) (n:=n18) (m:=Int.toNat s13) (x:=(Int.tmod (w64 (Int.tdiv s8 x14)) x16)) (by rw [p018];rfl) ⟨_,by rw [Nat.zero_add];exact AZ q18,rfl⟩ ?_ CE
       refine RL.gk [1,2,3,6,7,8,10,11,12,13,14,15,16,34,35,38,39,40,46,47,48,49,50,51,52,53,54] ?_;refine .nil ?_
       show AW _ _ _ _ _ _
       refine .gk [1,2,3,6,7,8,10,11,12,13,14,34,35,38,39,40] ?_;refine .region ?_;refine vk (vbi) ?_;refine vk (Aa) ?_;refine .nil ?_;refine AL.gk [1,2,3,6,7,8,10,11,12,13,14,34,35,38,39,40] ?_
       exact ih (k,(List.set s12 (Int.toNat s13) (Int.tmod (w64 (Int.tdiv s8 x14)) x16)),(w64 (s13+1))) h (Nat.lt_succ_self _)
      refine cnf (dF hc) ?_;refine .gk [1,2,3,6,7,8,10,11,12,13,34,35] ?_;refine .exit ?_
      exact jr (s12) h
     rintro z11 h
     try dsimp only at h ⊢
     subst hK3
     show AW _ _ _ _ _ _
     refine .sr ?_;refine vk (Aa) ?_;refine mvo ?_
     obtain ⟨x19,g19,h⟩:=bnd h
     refine vk (S6 12 (oa2 _ _ g19)) ?_;refine ar [1,2,3,6,7,8,10,11,12,13,17,34,35] ?_;refine .sr ?_;refine vk (Aa) ?_;refine vk (vbi) ?_;refine rk [1,2,3,6,7,8,10,11,12,13,17,34,35,61] ?_
     rcases brc h with ⟨hc,h⟩|⟨hc,h⟩
     ·refine cnt (dT hc) ?_
      refine .region ?_;refine mvo ?_;refine vk (vfa AG) ?_;refine vk (Ag Bp) ?_;refine vk (Aa) ?_
      obtain ⟨x20,g20,h⟩:=bnd h
      obtain ⟨n20,p020,q20⟩:=Ah g20
      refine vk (vix n20 p020 (C1 q20) rfl C3) ?_;refine vk (AJ Bd AH) ?_;refine vk ((D0 (DQ x20) (CZ [x20]) Cr).deep) ?_
      obtain ⟨x21,g21,h⟩:=bnd h
      refine PC EQ g21 Gp ?_ EF Ay Cr
      refine aso ?_;refine RL.gk [1,2,3,6,7,8,10,11,12,13,34,35] ?_;refine .nil ?_
      exact jr (z11,x21) h
     refine cnf (dF hc) ?_;refine .region ?_;refine mvo ?_;refine vk (Ei Bd AH) ?_;refine vk ((D0 (DQ x2) (CZ [x2]) Cr).deep) ?_
     obtain ⟨x22,g22,h⟩:=bnd h
     refine PC EQ g22 Gp ?_ EF Ay Cr
     refine aso ?_;refine RL.gk [1,2,3,6,7,8,10,11,12,13,34,35] ?_;refine .nil ?_
     exact jr (z11,x22) h
    rintro ⟨z9,z10⟩ h
    try dsimp only at h ⊢
    subst hK2
    refine .region ?_;refine vk (vbi) ?_;refine vk (Aa) ?_;refine .nil ?_;refine AL.gk [1,2,3,6,7,8,10,11,12,13,34,35] ?_
    exact ih (k,z9,z10,(w64 (s8+1))) h (Nat.lt_succ_self _)
   refine cnf (dF hc) ?_;refine .gk [1,6,7,8,10,13] ?_;refine .exit ?_
   exact jr (s7) h
  rintro z5 h
  try dsimp only at h ⊢
  subst hK0
  show AW _ _ _ _ _ _
  refine .seq ?_;refine .sr ?_;refine vk (Aa) ?_;refine vk (vbi) ?_;refine rk [1,6,7,10,13,76] ?_
  obtain ⟨K5,hK5,h⟩:=AX h
  refine AW.mr (σ:=(List Itm)) (fun p=>K5 p=some r) (fun p=>[(1,.d (.sl (Is a1))),(6,.nb [.sl (Is []),.sl (Its [])]),(7,.d (.i .i64 0)),(13,.own 58 (Its p))]) (fun p=>[]) ?_ ?_
  ·skip
   rcases brc h with ⟨hc,h⟩|⟨hc,h⟩
   ·refine cnt (dT hc) ?_
    refine .region ?_;refine mvo ?_;refine vk (Ei Bd AH) ?_;refine vk ((D0 (DQ x2) (CZ [x2]) Cr).deep) ?_
    obtain ⟨x24,g24,h⟩:=bnd h
    refine PC EQ g24 Gp ?_ EF Ay Cr
    refine aso ?_;refine RL.gk [1,6,7,13] ?_;refine .nil ?_
    exact jr (x24) h
   refine cnf (dF hc) ?_;refine .gk [1,6,7,13] ?_;refine .skip ?_
   exact jr (z5) h
  rintro z23 h
  try dsimp only at h ⊢
  subst hK5
  show AW _ _ _ _ _ _
  refine .sr ?_;refine vk (Aa) ?_;refine fz (p:=.t 13) ?_;refine vk (Aa) ?_
  obtain ⟨x25,g25,h⟩:=bnd h
  refine vk (VOK.tupd (vs:=[.ag [.sl (Is x25.1.shape),.sl (Its x25.1.items)],.i .i64 x25.2]) (Aq (BT g25) Tryz.call10)) ?_;refine vk (vex) ?_;refine vk (vex) ?_
  refine stn ?_ Ab (by decide)
  refine ar [6,7] ?_;refine .ret ?_
  cases h
  exact ⟨_,_,⟨.inr rfl,Ac,Ab,p2⟩,rfl,rfl⟩
 refine cnt (ntt (dF hc)) ?_;refine .sr ?_;refine vk (vbd BK Ax Az) ?_;refine vk (Aa) ?_
 refine stn ?_ Ab (by decide)
 refine ar [1,2,3,6,7,8] ?_;refine .ret ?_
 cases h
 exact ⟨_,_,⟨.inr rfl,Ac,Ab,p2⟩,rfl,rfl⟩
def Fw (a0:(List Int)) (c0:(List Int)) (c1:Int) (c2:(List Int)) : Option (Int):=((rd? a0 c1).bind fun x1=>((rd? c0 x1).bind fun x2=>(if x2<0 then (some ((-1))) else ((B2 c2 a0).bind fun x3=>((rd? c2 c1).bind fun x4=>((rd? a0 c1).bind fun x5=>(some ((w64 (x3+(w64 (x4 * (w64 (x2-x5))))))))))))))
theorem Ja {a0:(List Int)} {c0:(List Int)} {c1:Int} {c2:(List Int)} {r:Int} (h:Fw a0 c0 c1 c2=some r) :
  Fn Tryz.prog 168 [.sl (Is a0),.ptr [.sl (Is c0)],.ptr [.i .i64 c1],.ptr [.sl (Is c2)]] (.d (.i .i64 r)):=by
 unfold Fw at h
 refine Fn.o1 5 31 Tryz.func168 ?_;refine .sr ?_;refine ar [0,1,2,3,5] ?_;refine .seq ?_;refine .drawn 7 A8 (by kernel_rfl) ?_;refine dv (Ag AB) ?_;refine dv (Aa) ?_;refine dv (Ag Au) ?_
 obtain ⟨x1,g1,h⟩:=bnd h
 obtain ⟨n1,p01,q1⟩:=Ah g1
 refine dv (vix n1 p01 (AZ q1) rfl AS) ?_;refine dv (Ag Au) ?_
 obtain ⟨x2,g2,h⟩:=bnd h
 obtain ⟨n2,p02,q2⟩:=Ah g2
 refine dv (vix n2 p02 (AZ q2) rfl AS) ?_;refine dv (Ag Au) ?_;refine dz ?_;refine ar [0,2,3,5,6] ?_;refine .seq ?_;refine .sr ?_;refine vk (Aa) ?_;refine vk (vbi) ?_;refine rk [0,2,3,5,6,15] ?_
 rcases brc h with ⟨hc,h⟩|⟨hc,h⟩
 ·refine cnt (dT hc) ?_
  refine .sr ?_;refine ar [0,2,3,5,6] ?_;refine .ret ?_
  cases h
  exact ⟨rfl,rfl⟩
 refine cnf (dF hc) ?_;refine .skip ?_
 show AW _ _ _ _ _ _
 refine .seq ?_;refine .drawn 15 A8 (by kernel_rfl) ?_;refine dv (Ag AB) ?_;refine dv (Aa) ?_
 obtain ⟨x3,g3,h⟩:=bnd h
 refine dv (Aq (Dm g3) Tryz.call79) ?_;refine dv (Ag AB) ?_;refine dv (Ag Au) ?_
 obtain ⟨x4,g4,h⟩:=bnd h
 obtain ⟨n4,p04,q4⟩:=Ah g4
 refine dv (vix n4 p04 (AZ q4) rfl AS) ?_;refine dv (Ag Au) ?_;refine dv (Aa) ?_;refine dv (Aa) ?_;refine dv (Ag Au) ?_
 obtain ⟨x5,g5,h⟩:=bnd h
 obtain ⟨n5,p05,q5⟩:=Ah g5
 refine dv (vix n5 p05 (AZ q5) rfl AS) ?_;refine dv (Ag Au) ?_;refine dv (vbi) ?_;refine dv (vbi) ?_;refine dv (vbi) ?_;refine dz ?_;refine ar [5] ?_;refine .ret ?_
 cases h
 exact ⟨rfl,rfl⟩
def Fg (a0:Arr) (a1:Int) (a2:(List Int)) : Option (Arr×Int):=((CJ a0.shape).bind fun x1=>((rd? x1 a1).bind fun x2=>((Bi a0.shape).bind fun x3=>((Bm a0 (List.set x1 (Int.toNat a1) ((List.length a2:Nat) : Int)) (⟨.fn 168 [] [.ptr [.sl (Is a2)],.ptr [.i .i64 a1],.ptr [.sl (Is x3)]],fun x=>Fw x a2 a1 x3⟩ : Bl)).bind fun x4=>(some (x4.1,x4.2))))))
theorem GU {a0:Arr} {a1:Int} {a2:(List Int)} {r:Arr×Int} (h:Fg a0 a1 a2=some r) :
  Fn Tryz.prog 135 [.ag [.sl (Is a0.shape),.sl (Its a0.items)],.i .i64 a1,.sl (Is a2)] (.tup [.d (.ag [.sl (Is r.1.shape),.sl (Its r.1.items)]),.d (.i .i64 r.2)]):=by
 unfold Fg at h
 refine Fn.ofC (rs:=[.cell 6 27,.tmp 7]) (nt:=27) Tryz.func135 rfl rfl rfl (by simp) rfl ?_;refine .sr ?_;refine vk (vbx) ?_;refine vk (St) ?_;refine vk (St) ?_;refine vk (van (Aj Ax) Az) ?_;refine ar [3,4,5,6,7] ?_;refine .sr ?_;refine vk (vfa Ak) ?_;refine vk (Ag AB) ?_
 obtain ⟨x1,g1,h⟩:=bnd h
 refine vk (Aq (Dc g1) Tryz.call30) ?_;refine aso ?_;refine rk [3,4,5,6,7,8] ?_;refine .sr ?_;refine mvo ?_;refine vk (Ag Au) ?_;refine vk (Ag AB) ?_;refine vk (AT (Ae _) (A9 _) A6) ?_
 obtain ⟨x2,g2,h⟩:=bnd h
 obtain ⟨n2,p02,q2⟩:=Ah g2
 refine ixr (off:=0) (len:=(Is x1).length) n2 p02 (by rw [Ae];exact (lS.1 q2).1) ?_ AS (by decide)
 refine JO (F:=Is) (D:=fun x=>.i .i64 x) EO (us:=x1) (n:=n2) (m:=Int.toNat a1) (x:=((List.length a2:Nat):Int)) (by rw [p02];rfl) ⟨_,by rw [Nat.zero_add];exact AZ q2,rfl⟩ ?_ CE
 refine RL.gk [3,4,5,6,7,8,14,15,16] ?_;refine rk [3,4,5,6,7,8] ?_;refine .sr ?_;refine vk (vfa Ak) ?_;refine vk (Ag AB) ?_
 obtain ⟨x3,g3,h⟩:=bnd h
 refine vk (Aq (Bt g3) Tryz.call75) ?_;refine vk (van (Aj Iq) LZ) ?_
 refine P8 ?_ Hv
 refine rk [3,4,5,6,7,8,9] ?_;refine .sr ?_;refine vk (AJ Ac Ab) ?_;refine fz (p:=.t 8) ?_;refine vk (Aa) ?_;refine RL.gh (Gh.nbp (t:=9) rfl) ?_;refine vk (PM) ?_
 obtain ⟨x4,g4,h⟩:=bnd h
 refine vk (VOK.tupd (vs:=[.ag [.sl (Is x4.1.shape),.sl (Its x4.1.items)],.i .i64 x4.2]) (Aq (Eb (D6 Tryz.call168 (fun _ _ h=>Ja h)) g4) Tryz.call76)) ?_;refine vk (vex) ?_;refine vk (vex) ?_
 refine stn ?_ Ab (by decide)
 refine ar [6,7] ?_;refine .ret ?_
 cases h
 exact ⟨_,_,⟨.inr rfl,Ac,Ab,p2⟩,rfl,rfl⟩
def Eh (a0:Arr) (a1:Bool) : Option (Int):=(if a1=true then (some (0)) else (some ((if (w64 (((List.length a0.shape:Nat) : Int)-1))<0 then 0 else (w64 (((List.length a0.shape:Nat) : Int)-1))))))
theorem Ia {a0:Arr} {a1:Bool} {r:Int} (h:Eh a0 a1=some r) :
  Fn Tryz.prog 40 [.ag [.sl (Is a0.shape),.sl (Its a0.items)],.b a1] (.d (.i .i64 r)):=by
 unfold Eh at h
 refine Fn.o1 4 11 Tryz.func40 ?_;refine .sr ?_;refine vk (vbx) ?_;refine ar [1,2,4] ?_;refine .seq ?_;refine .sr ?_;refine vk (Aa) ?_;refine rk [2,4,5] ?_
 rcases brc h with ⟨hc,h⟩|⟨hc,h⟩
 ·refine cnt hc ?_
  refine .sr ?_;refine ar [2,4] ?_;refine .ret ?_
  cases h
  exact ⟨rfl,rfl⟩
 refine cnf (bf hc) ?_;refine .skip ?_
 show AW _ _ _ _ _ _
 refine .sr ?_;refine vk (vfa Ak) ?_;refine vk (Ag AB) ?_;refine vk (AT (Ae _) (A9 _) A6) ?_;refine vk (vbi) ?_;refine vk (vmx) ?_;refine ar [4] ?_;refine .ret ?_
 cases h
 exact ⟨rfl,rfl⟩
def Hi : List Int→List Int×Int
 | []=>([],1)
 | x::xs=>((Hi xs).2::(Hi xs).1,w64 ((Hi xs).2 * x))
theorem Ic {a:List Int} (hl:a.length≤17592186044416) (K:List Int→Option (List Int)) : ∀ (i k:Nat),i≤a.length→i<k →
  Bw a K k (List.replicate i 0++(Hi (a.drop i)).1) (Hi (a.drop i)).2 ((i:Int)-1)=K (Hi a).1
 | _,0,_,h=>by omega
 | 0,k+1,_,_=>by rw [Bw,if_neg (by omega)];rfl
 | i+1,k+1,hi,hk=>by
  have hlt:i<a.length:=by omega
  rw [Bw,if_pos (by omega)]
  have e0:((i+1:Nat):Int)-1=(i:Int):=by omega
  have e1:List.replicate (i+1) (0:Int)++(Hi (a.drop (i+1))).1=List.replicate i 0++0::(Hi (a.drop (i+1))).1:=by
   rw [List.replicate_succ',List.append_assoc];rfl
  rw [e0,e1,Cz (by simp),oB,Cz hlt,oB,Int.toNat_natCast,List.set_append_right _ _ (by simp),List.length_replicate,Nat.sub_self,List.set_cons_zero,show w64 ((i:Int)-1)=(i:Int)-1 from Bk (by omega) (by omega)]
  have e2:a.drop i=a[i]::a.drop (i+1):=lC hlt
  have ih:=Ic hl K i k (by omega) (by omega)
  rw [e2] at ih
  exact ih
theorem DP {a:List Int} (hl:a.length≤17592186044416) : Bi a=some (Hi a).1:=by
 unfold Bi
 have hg:DA (0≤((List.length a:Nat):Int)∧((List.length a:Nat):Int)≤17592186044416)=some ():=if_pos (by omega)
 rw [hg,oB,B9]
 have:=Ic hl (fun z=>some z) a.length AN (Nat.le_refl _) (Cw (by omega))
 rw [List.drop_of_length_le (Nat.le_refl _)] at this
 rw [Int.toNat_natCast,Bk (by omega) (by omega)]
 rw [show (Hi []).1=[] from rfl,List.append_nil] at this
 exact this
def pr : List Nat→Nat
 | []=>1
 | x::xs=>x * pr xs
def stN : List Nat→List Nat
 | []=>[]
 | _::xs=>pr xs::stN xs
def atN : List Nat→Nat→List Nat
 | [],_=>[]
 | x::xs,i=>(i / pr xs % x)::atN xs i
def plN : List Nat→List Nat→Nat
 | x::xs,y::ys=>x * y+plN xs ys
 | _,_=>0
theorem Pn : ∀ {t:List Nat},(∀ x∈t,0<x)→0<pr t
 | [],_=>Nat.one_pos
 | x::xs,h=>Nat.mul_pos (h x (by simp)) (Pn fun y hy=>h y (by simp [hy]))
theorem El (t:List Nat) (i:Nat) : (atN t i).length=t.length:=by
 induction t with
 | nil=>rfl
 | cons x xs ih=>rw [atN,List.length_cons,List.length_cons,ih]
theorem Eo (t:List Nat) : (stN t).length=t.length:=by
 induction t with
 | nil=>rfl
 | cons x xs ih=>rw [stN,List.length_cons,List.length_cons,ih]
def up_ (t:List Nat) : List Int:=t.map fun n : Nat=>((n:Nat) : Int)
theorem BJ (t:List Nat) : (up_ t).length=t.length:=by simp [up_]
theorem Na : ∀ t : List Nat,D9 (up_ t)=(pr t:Int)
 | []=>rfl
 | x::xs=>by
  have e:D9 (up_ (x::xs))=(x:Int) * D9 (up_ xs):=by
   show D9 ((x:Int)::up_ xs)=_
   unfold D9;rw [List.foldl_cons,I5,Int.one_mul]
  rw [e,Na xs,pr]
  exact (Int.natCast_mul _ _).symm
theorem R6 {t:List Nat} (h8:t.length≤8) (h:∀ x∈t,0<x∧x≤4096) (hp:pr t≤4096) : szP (up_ t)=((pr t:Int),0):=by
 have hm:∀ x∈up_ t,1≤x∧x≤4096:=fun x hx=>by
  obtain ⟨y,hy,rfl⟩:=List.mem_map.1 hx
  have:=h y hy;omega
 unfold szP
 rw [if_neg (by rw [BJ];omega),if_neg,if_neg,if_neg,Na,if_pos (by omega)]
 ·intro h0;have:=hm 0 h0;omega
 ·simp only [List.any_eq_true,decide_eq_true_eq,not_exists,not_and]
  intro x hx;have:=hm x hx;omega
 ·simp only [List.any_eq_true,decide_eq_true_eq,not_exists,not_and]
  intro x hx;have:=hm x hx;omega
theorem MB : ∀ {t:List Nat},pr t≤4096→(∀ x∈t,0<x)→Hi (up_ t)=(up_ (stN t),(pr t:Int))
 | [],_,_=>rfl
 | x::xs,h,hp=>by
  have hx:=hp x (by simp)
  have h1:pr xs≤pr (x::xs):=by
   show pr xs≤x * pr xs
   exact Nat.le_mul_of_pos_left _ hx
  have ih:=MB (t:=xs) (by omega) fun y hy=>hp y (by simp [hy])
  show ((Hi (up_ xs)).2::(Hi (up_ xs)).1,w64 ((Hi (up_ xs)).2 * (x:Int)))=_
  rw [ih]
  have e:(pr xs:Int) * (x:Int)=(pr (x::xs):Int):=by
   rw [← Int.natCast_mul,Nat.mul_comm];rfl
  show ((pr xs:Int)::up_ (stN xs),w64 ((pr xs:Int) * (x:Int)))=_
  rw [e,Bk (by omega) (by omega)]
  rfl
theorem MD : ∀ {t:List Nat},(∀ x∈t,0<x)→∀ y∈stN t,0<y
 | x::xs,h,y,hy=>by
  have hp:=Pn fun z hz=>h z (List.mem_cons_of_mem x hz)
  rcases List.mem_cons.1 hy with rfl|hy
  ·exact hp
  ·exact MD (fun z hz=>h z (List.mem_cons_of_mem _ hz)) y hy
theorem Pq {t:List Nat} {i:Nat} (h:i<t.length) : (up_ t)[i]'(by rw [BJ];exact h)=(t[i] : Int):=by simp [up_]
theorem Mx {t:List Nat} {i:Nat} (h:i<t.length) : rd? (up_ t) (i:Int)=some (t[i] : Int):=by
 rw [Cz (by rw [BJ];exact h),Pq h]
theorem R0 : ∀ (l c:List Nat) (i:Nat) (h1:i<l.length) (h2:i<c.length),plN (l.drop i) (c.drop i)=l[i] * c[i]+plN (l.drop (i+1)) (c.drop (i+1)):=fun l c i h1 h2=>by
 rw [lC h1,lC h2];rfl
theorem P5 {a b:Nat} (ha:a≤4096) (hb:b≤4096) : a * b≤16777216:=Nat.mul_le_mul ha hb
theorem KC {l c:List Nat} (h8:l.length≤8) (hlen:l.length≤c.length) (hl:∀ x∈l,x≤4096) (hc:∀ x∈c,x≤4096) (K:Int→Option Int) : ∀ (n i k m:Nat),n=l.length-i→i≤l.length→n<k→m≤i * 16777216 →
  Cn (up_ l) (up_ c) K k (m:Int) (i:Int)=K ((m+plN (l.drop i) (c.drop i):Nat):Int)
 | _,_,0,_,_,_,h,_=>by omega
 | n,i,k+1,m,hn,hi,hk,hm=>by
  rw [Cn]
  by_cases h:i<l.length
  ·have h2:i<c.length:=by omega
   have hb:=P5 (hl _ (List.getElem_mem h)) (hc _ (List.getElem_mem h2))
   rw [if_pos (by rw [BJ];omega),Mx h,oB,Mx h2,oB,← Int.natCast_mul,show w64 ((l[i] * c[i]:Nat):Int)=((l[i] * c[i]:Nat):Int) from Bk (by omega) (by omega),show w64 ((m:Int)+((l[i] * c[i]:Nat):Int))=(m:Int)+((l[i] * c[i]:Nat):Int) from Bk (by omega) (by omega),CB (by omega),← Int.natCast_add,
    KC h8 hlen hl hc K (n-1) (i+1) k _ (by omega) (by omega) (by omega) (by omega),R0 l c i h h2,Nat.add_assoc]
  ·rw [if_neg (by rw [BJ];omega),List.drop_of_length_le (by omega)]
   simp [plN]
theorem MQ {l c:List Nat} (h8:l.length≤8) (hlen:l.length≤c.length) (hl:∀ x∈l,x≤4096) (hc:∀ x∈c,x≤4096) : B2 (up_ l) (up_ c)=some ((plN l c:Nat) : Int):=by
 unfold B2
 rw [B9]
 have:=KC h8 hlen hl hc (fun z=>some z) l.length 0 AN 0 rfl (Nat.zero_le _) (Cw (by omega)) (by omega)
 rw [List.drop_zero,List.drop_zero,Nat.zero_add] at this
 exact this
theorem Md {a:Arr} (oa:okAr a) (ra:Be a) : C8 a=some (tyI (a.items.headD default)):=by
 have hp:=Lu ra
 unfold C8
 rw [GI oa,oB,dT ra,if_pos rfl]
 cases hi:a.items with
 | nil=>rw [hi] at hp;simp at hp
 | cons x xs =>
  obtain ⟨ox,rx⟩:=GK oa ra (x:=x) (by rw [hi];simp)
  rw [Fd,oB,MY ox rx.1];rfl
theorem MC : ∀ (t:List Nat) (i j:Nat) (h:j<t.length),(atN t i)[j]'(by rw [El];exact h)=i / (stN t)[j]'(by rw [Eo];exact h) % t[j]
 | x::xs,i,0,_=>rfl
 | x::xs,i,j+1,h=>MC xs i j (by simpa using h)
 | [],_,_,h=>by simp at h
theorem NT {α:Type} {L r:List α} {j:Nat} (hl:L.length=r.length) (h:j<L.length) : (L.take j++r.drop j).set j L[j]=L.take (j+1)++r.drop (j+1):=by
 have hj:(L.take j).length=j:=by rw [List.length_take];omega
 have e:r.drop j=r[j]'(by omega)::r.drop (j+1):=lC (by omega)
 rw [e,List.set_append_right _ _ (by omega),hj,Nat.sub_self,List.set_cons_zero,List.take_succ_eq_append_getElem h,List.append_assoc]
 rfl
theorem QB {t:List Nat} (ht:∀ x∈t,0<x∧x≤4096) (h8:t.length≤8) {i:Nat} (hi:i≤4096) (K:List Int→Option (Arr×Int)) {r:List Int} (hr:r.length=t.length) : ∀ (n j k:Nat),n=t.length-j→j≤t.length→n<k →
  CG (up_ t) (up_ (stN t)) (i:Int) K k ((up_ (atN t i)).take j++r.drop j) (j:Int)=K (up_ (atN t i))
 | _,_,0,_,_,h=>by omega
 | n,j,k+1,hn,hj,hk=>by
  have hlen:(up_ (atN t i)).length=t.length:=by rw [BJ,El]
  rw [CG]
  by_cases h:j<t.length
  ·have hs:j<(stN t).length:=by rw [Eo];exact h
   have hsp:=MD (fun x hx=>(ht x hx).1) _ (List.getElem_mem hs)
   have htp:=(ht _ (List.getElem_mem h)).1
   have hcur:j<((up_ (atN t i)).take j++r.drop j).length:=by rw [List.length_append,List.length_take,List.length_drop];omega
   have g1:DA (((stN t)[j]:Int)≠0)=some ():=if_pos (by omega)
   have g2:DA ((t[j]:Int)≠0)=some ():=if_pos (by omega)
   have e1:Int.tdiv (i:Int) ((stN t)[j]:Int)=((i / (stN t)[j]:Nat):Int):=rfl
   have hd:i / (stN t)[j]≤i:=Nat.div_le_self _ _
   have hw:w64 ((i / (stN t)[j]:Nat):Int)=((i / (stN t)[j]:Nat):Int):=by
    generalize i / (stN t)[j]=d at hd ⊢
    exact Bk (by omega) (by omega)
   have e2:Int.tmod ((i / (stN t)[j]:Nat):Int) (t[j]:Int)=((i / (stN t)[j] % t[j]:Nat):Int):=rfl
   have e3:((i / (stN t)[j] % t[j]:Nat):Int)=(up_ (atN t i))[j]'(by rw [hlen];exact h):=by
    rw [Pq (by rw [El];exact h),MC t i j h]
   rw [if_pos (by rw [BJ,Eo];omega),Mx hs,oB,g1,oB,Mx h,oB,g2,oB,Cz hcur,oB,e1,hw,e2,e3,Int.toNat_natCast,CB (by omega),
    NT (by rw [hlen,hr]) (by rw [hlen];exact h),QB ht h8 hi K hr (n-1) (j+1) k (by omega) (by omega) (by omega)]
  ·rw [if_neg (by rw [BJ,Eo];omega),List.take_of_length_le (by omega),List.drop_of_length_le (by omega),List.append_nil]
def KP (a:Arr) (p:Itm) (j:Int) : Itm:=if 0≤j then a.items.getD j.toNat default else p
theorem NU {a:Arr} {t:List Nat} {F:Bl} {p:Itm} {J:Nat→Int} (ht:∀ x∈t,0<x∧x≤4096) (h8:t.length≤8) (hn:pr t≤4096) (hF:∀ i,i<pr t→F.g (up_ (atN t i))=some (J i)∧J i<(a.items.length:Int)) {x1:Int×Int} (hx1:x1.1=(pr t:Int)) (K:List Itm→Option (Arr×Int)) : ∀ (n i k:Nat) (r:List Int),n=pr t-i→i≤pr t→n<k→r.length=t.length →
  Cb a (up_ t) F x1 p (up_ (stN t)) K k r (((List.range (pr t)).map fun i=>KP a p (J i)).take i) (i:Int)=K ((List.range (pr t)).map fun i=>KP a p (J i))
 | _,_,0,_,_,_,h,_=>by omega
 | n,i,k+1,r,hn',hi,hk,hr=>by
  have hlen:((List.range (pr t)).map fun i=>KP a p (J i)).length=pr t:=by simp
  rw [Cb]
  by_cases h:i<pr t
  ·have hb:=fun K=>QB ht h8 (i:=i) (by omega) K hr t.length 0 AN rfl (Nat.zero_le _) (Cw (by omega))
   rw [List.take_zero,List.nil_append,List.drop_zero,show ((0:Nat):Int)=0 from rfl] at hb
   obtain ⟨f1,f2⟩:=hF i h
   have hg:((List.range (pr t)).map fun i=>KP a p (J i))[i]'(by rw [hlen];exact h)=KP a p (J i):=by simp
   have ih:=NU (p:=p) ht h8 hn hF hx1 K (n-1) (i+1) k (up_ (atN t i)) (by omega) (by omega) (by omega) (by rw [BJ,El])
   rw [List.take_succ_eq_append_getElem (by rw [hlen];exact h),hg] at ih
   have hcap:(((List.range (pr t)).map fun i=>KP a p (J i)).take i).length+1≤1466015503701:=by rw [List.length_take];omega
   rw [if_pos (by omega),B9,B9,hb,f1,oB]
   by_cases h0:0≤J i
   ·have hj:(J i).toNat<a.items.length:=by omega
    have e:rd? a.items (J i)=some (a.items.getD (J i).toNat default):=by
     unfold rd?
     rw [if_pos h0,lD,lG hj];rfl
    have ep:KP a p (J i)=a.items.getD (J i).toNat default:=if_pos h0
    rw [if_pos h0,e,oB,Gw (by simpa using hcap),oB,CB (by omega),← ep]
    exact ih
   ·have ep:KP a p (J i)=p:=if_neg h0
    rw [if_neg h0,Gw (by simpa using hcap),oB,CB (by omega)]
    rw [ep] at ih
    exact ih
  ·rw [if_neg (by omega),List.take_of_length_le (by omega)]
theorem P4 {a:Arr} {t:List Nat} {F:Bl} {p:Itm} {J:Nat→Int} (hp:C8 a=some p) (ht:∀ x∈t,0<x∧x≤4096) (h8:t.length≤8) (hn:pr t≤4096) (hF:∀ i,i<pr t→F.g (up_ (atN t i))=some (J i)∧J i<(a.items.length:Int)) :
  Bm a (up_ t) F=AF (up_ t) ((List.range (pr t)).map fun i=>KP a p (J i)):=by
 have hpp:=Pn fun x hx=>(ht x hx).1
 have hl:(up_ t).length≤17592186044416:=by rw [BJ];omega
 have hg:DA (0≤((List.length (up_ t):Nat):Int)∧((List.length (up_ t):Nat):Int)≤17592186044416)=some ():=if_pos (by omega)
 unfold Bm
 rw [Ge hl,oB,R6 h8 ht hn,if_pos rfl,hp,oB,DP hl,oB,hg,oB,B9,MB hn fun x hx=>(ht x hx).1]
 have:=fun K=>NU (p:=p) ht h8 hn hF (x1:=((pr t:Int),0)) rfl K (pr t) 0 AN (List.replicate (Int.toNat ((List.length (up_ t):Nat):Int)) 0) rfl (Nat.zero_le _) (Cw (by omega)) (by simp [BJ])
 rw [List.take_zero,show ((0:Nat):Int)=0 from rfl] at this
 rw [this,B9,if_neg (by show ¬((pr t:Int)=0);omega)]
 show ((AF (up_ t) ((List.range (pr t)).map fun i=>KP a p (J i))).bind fun x25=>some (x25.1,x25.2))=_
 generalize AF _ _=m
 cases m<;>rfl
theorem JA {a:Arr} {s:List Int} {F:Bl} {p:Itm} (hp:C8 a=some p) (hl:s.length≤17592186044416) (hs:szP s=(0,0)) : Bm a s F=AF s [p]:=by
 have hg:DA (0≤((List.length s:Nat):Int)∧((List.length s:Nat):Int)≤17592186044416)=some ():=if_pos (by omega)
 have hF:AN=999999999999999+1:=rfl
 unfold Bm
 rw [Ge hl,oB,hs,if_pos rfl,hp,oB,DP hl,oB,hg,oB,B9,hF,Cb,if_neg (by decide),B9,if_pos rfl,Gw (by simp),oB]
 show ((AF s [p]).bind fun x25=>some (x25.1,x25.2))=_
 generalize AF _ _=m
 cases m<;>rfl
theorem R5 (xs:List Itm) : (List.range xs.length).map (fun j=>xs.getD j default)=xs:=by
 apply List.ext_getElem
 ·simp
 ·intro i h1 h2
  rw [List.getElem_map,List.getElem_range,lD,lG h2];rfl
theorem To {xs:List Itm} {d:Nat} (h:∀ x∈xs,dI x≤d) : dIs xs≤d:=by
 induction xs with
 | nil=>exact Nat.zero_le _
 | cons x xs ih =>
  rw [dIs]
  have h1:=h x (by simp)
  have h2:=ih fun y hy=>h y (by simp [hy])
  omega
theorem Je {x:Itm} : ∀ {xs:List Itm},x∈xs→dI x≤dIs xs
 | y::ys,h=>by
  rw [dIs]
  rcases List.mem_cons.1 h with rfl|h
  ·omega
  ·have:=Je h;omega
def EN (a:Arr) (n:Nat) (J:Nat→Nat) : List Itm:=(List.range n).map fun i=>a.items.getD (J i) default
theorem FB (a:Arr) (n:Nat) (J:Nat→Nat) : (EN a n J).length=n:=by simp [EN]
theorem Pv {a:Arr} (oa:okAr a) (ra:Be a) (hz:szP a.shape=(0,0)) {s:List Int} (hs64:∀ z∈s,-9223372036854775808≤z∧z≤9223372036854775807) (hl:s.length≤17592186044416) (hsz:szP s=(0,0)) {p:Itm} (hp:p=a.items.headD default∨p=tyI (a.items.headD default)) :
  AF s [p]=some (.mk s [tyI (a.items.headD default)],0):=by
 have hne:=Lu ra
 obtain ⟨r1,r2,r3⟩:=ra
 have hlen:a.items.length=1:=by
  have:=(IH r1).2.1
  rw [hz] at this
  rw [if_pos (by decide)] at this
  omega
 obtain ⟨x,hx⟩:=List.length_eq_one_iff.1 hlen
 have hx':a.items.headD default=x:=by rw [hx];rfl
 rw [hx'] at hp ⊢
 obtain ⟨ox,rx⟩:=GK oa ⟨r1,r2,r3⟩ (x:=x) (by rw [hx];simp)
 obtain ⟨t1,t2,t3,t4,t5,t6⟩:=N1 ox rx.1
 have hns:∀ {s:List Int} {i:List Itm},szP s=(0,0)→A7 (.mk s i)=false:=by
  intro s i h
  unfold A7
  cases s with
  | nil=>exact absurd (congrArg Prod.fst h) (by decide)
  | cons y ys=>rfl
 have hpr:okI p∧Cs p∧tyI p=tyI x:=by
  rcases hp with rfl|rfl
  ·exact ⟨ox,rx,rfl⟩
  ·exact ⟨t6,⟨t1,t2▸rx.2.1,t3▸rx.2.2⟩,t4⟩
 have hmk:Cq (szP s).1 [p]=[tyI x]:=by
  rw [hsz];show [tyI p]=_;rw [hpr.2.2]
 have hR:Be (.mk s [tyI x]):=by
  have e1:dA a=1+dI x:=by
   have:A7 a=false:=by have:=hns (i:=a.items) hz;rwa [Arr.eta] at this
   rw [Hz,this,if_neg (by decide),hx,dIs,dIs,Nat.max_zero]
  have e2:cA a=1+cI x:=by rw [GG,hx];simp [cIs]
  refine ⟨?_,?_,?_⟩
  ·rw [Hw,D8,Dt,hsz,ED.2 (by simpa using t1)];rfl
  ·rw [Hz,hns hsz,if_neg (by decide),Dt,dIs,dIs,Nat.max_zero,t2];omega
  ·rw [GG,Dt];simp only [cIs,List.length_singleton];omega
 have hc:¬([p]=[]∨¬∀ y∈[p],Cs y):=fun q=>q.elim (fun e=>by cases e) fun q=>q fun y hy=>by rw [List.mem_singleton] at hy;subst hy;exact hpr.2.1
 rw [Hb hs64 hl (by simp) (fun y hy=>by rw [List.mem_singleton] at hy;subst hy;exact hpr.1),hmk,if_neg (by rw [hsz];exact fun q=>q rfl),if_neg hc,if_pos hR]
def CD (x2:Int) (K0:(List Int)→Option (Arr×Int)) : Nat→(List Int)→Int→Option (Arr×Int)
 | 0,_,_=>none
 | k+1,s4,s5=>(if s5<x2 then ((ap? 17592186044416 [s5] s4).bind fun x6=>(CD x2 K0 k x6 (w64 (s5+1)))) else (K0 s4))
def D7 (a0:Arr) (a1:Int) : Option (Arr×Int):=(if ((List.length a0.shape:Nat) : Int)=0 then ((Gb a0).bind fun x1=>(some (x1,0))) else ((rd? a0.shape a1).bind fun x2=>(jn (fun (z3:(List Int))=>((Fg a0 a1 z3).bind fun x7=>(some (x7.1,x7.2)))) fun K0=>(CD x2 K0 AN [] 0))))
theorem Fr {a0:Arr} {a1:Int} {r:Arr×Int} (h:D7 a0 a1=some r) :
  Fn Tryz.prog 94 [.ag [.sl (Is a0.shape),.sl (Its a0.items)],.i .i64 a1] (.tup [.d (.ag [.sl (Is r.1.shape),.sl (Its r.1.items)]),.d (.i .i64 r.2)]):=by
 unfold D7 at h
 refine Fn.ofC (rs:=[.cell 4 27,.tmp 5]) (nt:=33) Tryz.func94 rfl rfl rfl (by simp) rfl ?_;refine .sr ?_;refine vk (vbx) ?_;refine vk (van (Aj Ax) Az) ?_;refine ar [1,2,4,5] ?_;refine .seq ?_;refine .sr ?_;refine vk (vfa Ak) ?_;refine vk (Ag AB) ?_;refine vk (AT (Ae _) (A9 _) A6) ?_;refine vk (vbi) ?_;refine rk [1,2,4,5,11] ?_
 rcases brc h with ⟨hc,h⟩|⟨hc,h⟩
 ·refine cnt (dT hc) ?_
  refine .sr ?_;refine vk (AJ Ac Ab) ?_
  obtain ⟨x1,g1,h⟩:=bnd h
  refine vk (Aq (Hr g1) Tryz.call134) ?_
  refine stn ?_ Ab (by decide)
  refine ar [1,2,4,5] ?_;refine .ret ?_
  cases h
  exact ⟨_,_,⟨.inr rfl,Ac,Ab,p2⟩,rfl,rfl⟩
 refine cnf (dF hc) ?_;refine .skip ?_
 show AW _ _ _ _ _ _
 refine .sr ?_;refine asn ?_;refine rk [1,2,4,5,6] ?_;refine .seq ?_;refine .sr ?_;refine vk (vfa Ak) ?_;refine vk (Ag AB) ?_;refine vk (Aa) ?_
 obtain ⟨x2,g2,h⟩:=bnd h
 obtain ⟨n2,p02,q2⟩:=Ah g2
 refine vk (vix n2 p02 (AZ q2) rfl AS) ?_;refine vk (Ag Au) ?_;refine vk (Aa) ?_;refine rk [1,2,4,5,6,18,19] ?_
 obtain ⟨K0,hK0,h⟩:=AX h
 refine AW.mr (σ:=(List Int)) (fun p=>K0 p=some r) (fun p=>[(1,.d (.i .i64 a1)),(2,.d (.ptr [.sl (Is a0.shape),.sl (Its a0.items)])),(4,.nb [.sl (Is []),.sl (Its [])]),(5,.d (.i .i64 0)),(6,.d (.sl (Is p)))]) (fun p=>[]) ?_ ?_
 ·skip
  refine .block ?_;refine .gh (Gh.nlD (t:=6) rfl) ?_
  refine .loop (.gk [1,2,4,5,6,18,19] ?_)
  refine AL.ind (σ:=Nat×(List Int)×Int) (m:=fun p=>p.1) (e:=fun p=>[(1,.d (.i .i64 a1)),(2,.d (.ptr [.sl (Is a0.shape),.sl (Its a0.items)])),(4,.nb [.sl (Is []),.sl (Its [])]),(5,.d (.i .i64 0)),(6,.d (.sl (Is p.2.1))),(18,.d (.i .i64 x2)),(19,.d (.i .i64 p.2.2))]) (h:=fun p=>[]) (I:=fun p=>CD x2 K0 p.1 p.2.1 p.2.2=some r) ?_ (AN,[],0) h
  rintro ⟨k,s4,s5⟩ h ih
  dsimp only at h ih ⊢
  rcases k with _|k
  ·rw [CD] at h;cases h
  rw [CD] at h
  refine .sr ?_;refine vk (vbi) ?_;refine rk [1,2,4,5,6,18,19,20] ?_;refine .seq ?_
  rcases brc h with ⟨hc,h⟩|⟨hc,h⟩
  ·refine cnt (dT hc) ?_
   refine .skip ?_
   show AW _ _ _ _ _ _
   refine .seq ?_;refine .block ?_;refine .sr ?_;refine vk (Aa) ?_;refine ar [1,2,4,5,6,7,18,19] ?_;refine .region ?_;refine vk (Aa) ?_;refine vk (Hq (CY [s5]) Ct) ?_;refine vk (Aa) ?_
   obtain ⟨x6,g6,h⟩:=bnd h
   refine Ue Km g6 Lr ?_ HB Ae Ct
   refine aso ?_;refine .nil ?_
   show AW _ _ _ _ _ _
   refine .gk [1,2,4,5,6,18,19] ?_;refine .region ?_;refine vk (vbi) ?_;refine vk (Aa) ?_;refine .nil ?_;refine AL.gh (Gh.frz (p:=.t 6) rfl (fun _ _ h=>by cases h)) ?_;refine AL.gk [1,2,4,5,6,18,19] ?_
   exact ih (k,x6,(w64 (s5+1))) h (Nat.lt_succ_self _)
  refine cnf (dF hc) ?_;refine .gk [1,2,4,5,6] ?_;refine .exit ?_
  exact jr (s4) h
 rintro z3 h
 try dsimp only at h ⊢
 subst hK0
 show AW _ _ _ _ _ _
 refine .sr ?_;refine vk (AJ Ac Ab) ?_;refine vk (Aa) ?_;refine vk (Aa) ?_
 obtain ⟨x7,g7,h⟩:=bnd h
 refine vk (VOK.tupd (vs:=[.ag [.sl (Is x7.1.shape),.sl (Its x7.1.items)],.i .i64 x7.2]) (Aq (GU g7) Tryz.call135)) ?_;refine vk (vex) ?_;refine vk (vex) ?_
 refine stn ?_ Ab (by decide)
 refine ar [4,5] ?_;refine .ret ?_
 cases h
 exact ⟨_,_,⟨.inr rfl,Ac,Ab,p2⟩,rfl,rfl⟩
def DH (a0:(List Int)) (c0:(List Int)) : Option (Int):=((B2 c0 a0).bind fun x1=>(some (x1)))
theorem GA {a0:(List Int)} {c0:(List Int)} {r:Int} (h:DH a0 c0=some r) :
  Fn Tryz.prog 127 [.sl (Is a0),.ptr [.sl (Is c0)]] (.d (.i .i64 r)):=by
 unfold DH at h
 refine Fn.o1 3 7 Tryz.func127 ?_;refine .sr ?_;refine ar [0,1,3] ?_;refine .sr ?_;refine vk (Ag AB) ?_;refine vk (Aa) ?_
 obtain ⟨x1,g1,h⟩:=bnd h
 refine vk (Aq (Dm g1) Tryz.call79) ?_;refine ar [3] ?_;refine .ret ?_
 cases h
 exact ⟨rfl,rfl⟩
def B4 (a2:Int) (K0:(List Int)→Option (Arr×Int)) : Nat→(List Int)→Int→Option (Arr×Int)
 | 0,_,_=>none
 | k+1,s4,s5=>(if s5<((List.length (List.replicate (Int.toNat a2) (0:Int)):Nat):Int) then ((rd? s4 s5).bind fun x6=>(B4 a2 K0 k (List.set s4 (Int.toNat s5) 4096) (w64 (s5+1)))) else (K0 s4))
def B5 (a0:Arr) (a1:(List Int)) (x7:(List Int)) (K2:(List Int)→(List Int)→Option (Arr×Int)) : Nat→(List Int)→Int→(List Int)→Option (Arr×Int)
 | 0,_,_,_=>none
 | k+1,s10,s11,s12=>(if s11<((List.length x7:Nat):Int) then ((rd? x7 s11).bind fun x13=>((rd? a1 s11).bind fun x14=>((rd? a1 s11).bind fun x15=>((rd? s10 x15).bind fun x16=>((rd? a0.shape s11).bind fun x17=>((rd? s10 x14).bind fun x18=>((rd? a1 s11).bind fun x19=>((rd? s12 x19).bind fun x20=>((rd? s12 x19).bind fun x21=>(B5 a0 a1 x7 K2 k (List.set s10 (Int.toNat x14) (if x17<x16 then x17 else x16)) (w64 (s11+1)) (List.set s12 (Int.toNat x19) (w64 (x20+x13))))))))))))) else (K2 s10 s12))
def Et (a0:Arr) (a1:(List Int)) (a2:Int) : Option (Arr×Int):=((DA (0≤a2∧a2≤17592186044416)).bind fun x1=>((DA (0≤a2∧a2≤17592186044416)).bind fun x2=>(jn (fun (z3:(List Int))=>((Bi a0.shape).bind fun x7=>(jn (fun (z8:(List Int)) (z9:(List Int))=>((Bm a0 z8 (⟨.fn 127 [] [.ptr [.sl (Is z9)]],fun x=>DH x z9⟩ : Bl)).bind fun x22=>(some (x22.1,x22.2)))) fun K2=>(B5 a0 a1 x7 K2 AN z3 0 (List.replicate (Int.toNat a2) (0:Int)))))) fun K0=>(B4 a2 K0 AN (List.replicate (Int.toNat a2) (0:Int)) 0))))
theorem Hj {a0:Arr} {a1:(List Int)} {a2:Int} {r:Arr×Int} (h:Et a0 a1 a2=some r) :
  Fn Tryz.prog 80 [.ag [.sl (Is a0.shape),.sl (Its a0.items)],.sl (Is a1),.i .i64 a2] (.tup [.d (.ag [.sl (Is r.1.shape),.sl (Its r.1.items)]),.d (.i .i64 r.2)]):=by
 unfold Et at h
 refine Fn.ofC (rs:=[.cell 6 27,.tmp 7]) (nt:=71) Tryz.func80 rfl rfl rfl (by simp) rfl ?_;refine .sr ?_;refine vk (vbx) ?_;refine vk (van (Aj Ax) Az) ?_;refine ar [1,2,3,6,7] ?_;refine .sr ?_;refine vk (Aa) ?_
 obtain ⟨x1,g1,h⟩:=bnd h
 have ghx1:=CM g1
 refine mk' (F:=Is) (x0:=0) (zl:=a2) (Int.toNat a2) GS (by omega) (by omega) ?_ Ct (by decide)
 refine aso ?_;refine rk [1,2,3,6,7,8] ?_;refine .sr ?_;refine vk (Aa) ?_
 obtain ⟨x2,g2,h⟩:=bnd h
 have ghx2:=CM g2
 refine mk' (F:=Is) (x0:=0) (zl:=a2) (Int.toNat a2) GS (by omega) (by omega) ?_ Ct (by decide)
 refine al ?_ (Aj Iq) (fun w I μ=>Ov w I μ)
 refine IC (cs:=[.nl]) (c:=.nl) rfl rfl ?_ Hv
 refine rk [1,3,6,7,8,9] ?_;refine .seq ?_;refine .sr ?_;refine mvo ?_;refine vk (S5 (Ae _) A6) ?_;refine vk (Aa) ?_;refine rk [1,3,6,7,8,9,18,19] ?_
 obtain ⟨K0,hK0,h⟩:=AX h
 refine AW.mr (σ:=(List Int)) (fun p=>K0 p=some r) (fun p=>[(1,.d (.sl (Is a1))),(3,.d (.ptr [.sl (Is a0.shape),.sl (Its a0.items)])),(6,.nb [.sl (Is []),.sl (Its [])]),(7,.d (.i .i64 0)),(8,.own 3 (Is p)),(9,.bp 0 0)]) (fun p=>[HO.box [.own 3 (Is (List.replicate (Int.toNat a2) (0:Int)))]]) ?_ ?_
 ·skip
  refine .block ?_
  refine .loop (.gk [1,3,6,7,8,9,18,19] ?_)
  refine AL.ind (σ:=Nat×(List Int)×Int) (m:=fun p=>p.1) (e:=fun p=>[(1,.d (.sl (Is a1))),(3,.d (.ptr [.sl (Is a0.shape),.sl (Its a0.items)])),(6,.nb [.sl (Is []),.sl (Its [])]),(7,.d (.i .i64 0)),(8,.own 3 (Is p.2.1)),(9,.bp 0 0),(18,.d (.i .i64 ((List.length (List.replicate (Int.toNat a2) (0:Int)):Nat):Int))),(19,.d (.i .i64 p.2.2))]) (h:=fun p=>[HO.box [.own 3 (Is (List.replicate (Int.toNat a2) (0:Int)))]]) (I:=fun p=>B4 a2 K0 p.1 p.2.1 p.2.2=some r) ?_ (AN,(List.replicate (Int.toNat a2) (0:Int)),0) h
  rintro ⟨k,s4,s5⟩ h ih
  dsimp only at h ih ⊢
  rcases k with _|k
  ·rw [B4] at h;cases h
  rw [B4] at h
  refine .sr ?_;refine vk (vbi) ?_;refine rk [1,3,6,7,8,9,18,19,20] ?_;refine .seq ?_
  rcases brc h with ⟨hc,h⟩|⟨hc,h⟩
  ·refine cnt (dT hc) ?_
   refine .skip ?_
   show AW _ _ _ _ _ _
   refine .seq ?_;refine .block ?_;refine .sr ?_;refine vk (Aa) ?_;refine ar [1,3,6,7,8,9,10,18,19] ?_;refine .region ?_;refine mvo ?_;refine vk (Aa) ?_
   obtain ⟨x6,g6,h⟩:=bnd h
   obtain ⟨n6,p06,q6⟩:=Ah g6
   refine ixr (off:=0) (len:=(Is s4).length) n6 p06 (by rw [Ae];exact (lS.1 q6).1) ?_ AS (by decide)
   refine JO (F:=Is) (D:=fun x=>.i .i64 x) EO (us:=s4) (n:=n6) (m:=Int.toNat s5) (x:=4096) (by rw [p06];rfl) ⟨_,by rw [Nat.zero_add];exact AZ q6,rfl⟩ ?_ CE
   refine RL.gk [1,3,6,7,8,9,10,18,19,23] ?_;refine .nil ?_
   show AW _ _ _ _ _ _
   refine .gk [1,3,6,7,8,9,18,19] ?_;refine .region ?_;refine vk (vbi) ?_;refine vk (Aa) ?_;refine .nil ?_;refine AL.gk [1,3,6,7,8,9,18,19] ?_
   exact ih (k,(List.set s4 (Int.toNat s5) 4096),(w64 (s5+1))) h (Nat.lt_succ_self _)
  refine cnf (dF hc) ?_;refine .gk [1,3,6,7,8,9] ?_;refine .exit ?_
  exact jr (s4) h
 rintro z3 h
 try dsimp only at h ⊢
 subst hK0
 show AW _ _ _ _ _ _
 refine .seq ?_;refine .sr ?_;refine vk (vfa Ak) ?_;refine vk (Ag AB) ?_
 obtain ⟨x7,g7,h⟩:=bnd h
 refine vk (Aq (Bt g7) Tryz.call75) ?_;refine vk (AT (Ae _) (A9 _) A6) ?_;refine vk (Aa) ?_;refine rk [1,3,6,7,8,9,28,29,30] ?_
 obtain ⟨K2,hK2,h⟩:=AX h
 refine AW.mr (σ:=(List Int)×(List Int)) (fun p=>K2 p.1 p.2=some r) (fun p=>[(3,.d (.ptr [.sl (Is a0.shape),.sl (Its a0.items)])),(6,.nb [.sl (Is []),.sl (Its [])]),(7,.d (.i .i64 0)),(8,.own 3 (Is p.1)),(9,.bp 0 0)]) (fun p=>[HO.box [.own 3 (Is p.2)]]) ?_ ?_
 ·skip
  refine .block ?_
  refine .loop (.gk [1,3,6,7,8,9,28,29,30] ?_)
  refine AL.ind (σ:=Nat×(List Int)×Int×(List Int)) (m:=fun p=>p.1) (e:=fun p=>[(1,.d (.sl (Is a1))),(3,.d (.ptr [.sl (Is a0.shape),.sl (Its a0.items)])),(6,.nb [.sl (Is []),.sl (Its [])]),(7,.d (.i .i64 0)),(8,.own 3 (Is p.2.1)),(9,.bp 0 0),(28,.d (.sl (Is x7))),(29,.d (.i .i64 ((List.length x7:Nat):Int))),(30,.d (.i .i64 p.2.2.1))]) (h:=fun p=>[HO.box [.own 3 (Is p.2.2.2)]]) (I:=fun p=>B5 a0 a1 x7 K2 p.1 p.2.1 p.2.2.1 p.2.2.2=some r) ?_ (AN,z3,0,(List.replicate (Int.toNat a2) (0:Int))) h
  rintro ⟨k,s10,s11,s12⟩ h ih
  dsimp only at h ih ⊢
  rcases k with _|k
  ·rw [B5] at h;cases h
  rw [B5] at h
  refine .sr ?_;refine vk (vbi) ?_;refine rk [1,3,6,7,8,9,28,29,30,31] ?_;refine .seq ?_
  rcases brc h with ⟨hc,h⟩|⟨hc,h⟩
  ·refine cnt (dT hc) ?_
   refine .skip ?_
   show AW _ _ _ _ _ _
   refine .seq ?_;refine .block ?_;refine .sr ?_;refine vk (Aa) ?_
   obtain ⟨x13,g13,h⟩:=bnd h
   obtain ⟨n13,p013,q13⟩:=Ah g13
   refine vk (vix n13 p013 (AZ q13) rfl AS) ?_;refine vk (Ag Au) ?_;refine asd ?_;refine ar [1,3,6,7,8,9,11,12,28,29,30] ?_;refine .seq ?_;refine .drawn 19 A8 (by kernel_rfl) ?_;refine dv KS ?_;refine dv (Aa) ?_;refine dv (Aa) ?_
   obtain ⟨x14,g14,h⟩:=bnd h
   obtain ⟨n14,p014,q14⟩:=Ah g14
   refine dv (vix n14 p014 (AZ q14) rfl AS) ?_;refine dv (Ag Au) ?_;refine dv KS ?_;refine dv (Aa) ?_;refine dv (Aa) ?_
   obtain ⟨x15,g15,h⟩:=bnd h
   obtain ⟨n15,p015,q15⟩:=Ah g15
   refine dv (vix n15 p015 (AZ q15) rfl AS) ?_;refine dv (Ag Au) ?_
   obtain ⟨x16,g16,h⟩:=bnd h
   obtain ⟨n16,p016,q16⟩:=Ah g16
   refine dv (KM (off:=0) (len:=(Is s10).length) n16 p016 (by rw [Ae];exact (lS.1 q16).1) AS (by decide)) ?_;refine dv (PZ (i:=0+n16) (j:=0) (xs:=Is s10) (.i .i64 x16) ⟨_,by rw [Nat.zero_add];exact AZ q16,rfl⟩ Au) ?_;refine dv (vfa Ak) ?_;refine dv (Ag AB) ?_;refine dv (Aa) ?_
   obtain ⟨x17,g17,h⟩:=bnd h
   obtain ⟨n17,p017,q17⟩:=Ah g17
   refine dv (vix n17 p017 (AZ q17) rfl AS) ?_;refine dv (Ag Au) ?_;refine dv (vmn) ?_
   obtain ⟨x18,g18,h⟩:=bnd h
   obtain ⟨n18,p018,q18⟩:=Ah g18
   refine dv (KM (off:=0) (len:=(Is s10).length) n18 p018 (by rw [Ae];exact (lS.1 q18).1) AS (by decide)) ?_;refine dz ?_
   refine JO (F:=Is) (D:=fun x=>.i .i64 x) EO (us:=s10) (n:=n18) (m:=Int.toNat x14) (x:=(if x17<x16 then x17 else x16)) (by rw [p018];rfl) ⟨_,by rw [Nat.zero_add];exact AZ q18,rfl⟩ ?_ CE
   refine RL.gk [1,3,6,7,8,9,11,12,28,29,30,36,37,38,39,41,42,43,44,46,47,48,49,50,51,52] ?_;refine rk [1,3,6,7,8,9,11,12,28,29,30] ?_;refine .drawn 10 A8 (by kernel_rfl) ?_;refine dv (LG (cs:=[.own 3 (Is s12)]) rfl rfl AB) ?_;refine dv (Aa) ?_;refine dv (Aa) ?_
   obtain ⟨x19,g19,h⟩:=bnd h
   obtain ⟨n19,p019,q19⟩:=Ah g19
   refine dv (vix n19 p019 (AZ q19) rfl AS) ?_;refine dv (Ag Au) ?_
   obtain ⟨x20,g20,h⟩:=bnd h
   obtain ⟨n20,p020,q20⟩:=Ah g20
   refine dv (KM (off:=0) (len:=(Is s12).length) n20 p020 (by rw [Ae];exact (lS.1 q20).1) AS (by decide)) ?_;refine dv (PZ (i:=0+n20) (j:=0) (xs:=Is s12) (.i .i64 x20) ⟨_,by rw [Nat.zero_add];exact AZ q20,rfl⟩ Au) ?_;refine dv (Aa) ?_;refine dv (vbi) ?_
   obtain ⟨x21,g21,h⟩:=bnd h
   obtain ⟨n21,p021,q21⟩:=Ah g21
   refine dv (KM (off:=0) (len:=(Is s12).length) n21 p021 (by rw [Ae];exact (lS.1 q21).1) AS (by decide)) ?_;refine dz ?_
   refine JO (F:=Is) (D:=fun x=>.i .i64 x) EO (us:=s12) (n:=n21) (m:=Int.toNat x19) (x:=(w64 (x20+x13))) (by rw [p021];rfl) ⟨_,by rw [Nat.zero_add];exact AZ q21,rfl⟩ ?_ CE
   refine RL.gk [1,3,6,7,8,9,11,12,28,29,30,55,56,57,58,60,61,62] ?_;refine .nil ?_
   show AW _ _ _ _ _ _
   refine .gk [1,3,6,7,8,9,28,29,30] ?_;refine .region ?_;refine vk (vbi) ?_;refine vk (Aa) ?_;refine .nil ?_;refine AL.gk [1,3,6,7,8,9,28,29,30] ?_
   exact ih (k,(List.set s10 (Int.toNat x14) (if x17<x16 then x17 else x16)),(w64 (s11+1)),(List.set s12 (Int.toNat x19) (w64 (x20+x13)))) h (Nat.lt_succ_self _)
  refine cnf (dF hc) ?_;refine .gk [3,6,7,8,9] ?_;refine .exit ?_
  exact jr (s10,s12) h
 rintro ⟨z8,z9⟩ h
 try dsimp only at h ⊢
 subst hK2
 show AW _ _ _ _ _ _
 refine .sr ?_;refine vk (AJ Ac Ab) ?_;refine fz (p:=.t 8) ?_;refine vk (Aa) ?_;refine fz (p:=.c 0 0) ?_;refine RL.gh2 (Gh2.pop (H0:=[]) (cs:=[.sl (Is z9)]) rfl rfl rfl rfl) ?_;refine vk (PM) ?_
 obtain ⟨x22,g22,h⟩:=bnd h
 refine vk (VOK.tupd (vs:=[.ag [.sl (Is x22.1.shape),.sl (Its x22.1.items)],.i .i64 x22.2]) (Aq (Eb (D6 Tryz.call127 (fun _ _ h=>GA h)) g22) Tryz.call76)) ?_;refine vk (vex) ?_;refine vk (vex) ?_
 refine stn ?_ Ab (by decide)
 refine ar [6,7] ?_;refine .ret ?_
 cases h
 exact ⟨_,_,⟨.inr rfl,Ac,Ab,p2⟩,rfl,rfl⟩
def FZ (a0:Arr) : Option (Arr×Int):=((BZ a0.shape).bind fun x1=>((AF ([x1.1]) a0.items).bind fun x2=>(some (x2.1,x2.2))))
theorem JI {a0:Arr} {r:Arr×Int} (h:FZ a0=some r) :
  Fn Tryz.prog 92 [.ag [.sl (Is a0.shape),.sl (Its a0.items)]] (.tup [.d (.ag [.sl (Is r.1.shape),.sl (Its r.1.items)]),.d (.i .i64 r.2)]):=by
 unfold FZ at h
 refine Fn.ofC (rs:=[.cell 2 27,.tmp 3]) (nt:=19) Tryz.func92 rfl rfl rfl (by simp) rfl ?_;refine .sr ?_;refine vk (vbx) ?_;refine vk (van (Aj Ax) Az) ?_;refine ar [1,2,3] ?_;refine .sr ?_;refine vk (vfa Ak) ?_;refine vk (Ag AB) ?_
 obtain ⟨x1,g1,h⟩:=bnd h
 refine vk (VOK.tupd (vs:=[.i .i64 x1.1,.i .i64 x1.2]) (Aq (Ci g1) Tryz.call26)) ?_;refine vk (Aa) ?_;refine vk (vex) ?_;refine vk (vex) ?_;refine asd ?_;refine ar [1,2,3,4] ?_;refine .sr ?_;refine vk (Aa) ?_;refine vk ((Hq (CY [x1.1]) Ct).deep) ?_;refine vk (vfa AG) ?_;refine vk (Ag Bp) ?_
 obtain ⟨x2,g2,h⟩:=bnd h
 refine vk (VOK.tupd (vs:=[.ag [.sl (Is x2.1.shape),.sl (Its x2.1.items)],.i .i64 x2.2]) (Aq (BT g2) Tryz.call10)) ?_;refine vk (vex) ?_;refine vk (vex) ?_
 refine stn ?_ Ab (by decide)
 refine ar [2,3] ?_;refine .ret ?_
 cases h
 exact ⟨_,_,⟨.inr rfl,Ac,Ab,p2⟩,rfl,rfl⟩
def F9 (a0:Arr) : Option (Arr×Int):=((Eh a0 false).bind fun x1=>((D7 a0 x1).bind fun x2=>(some (x2.1,x2.2))))
theorem JN {a0:Arr} {r:Arr×Int} (h:F9 a0=some r) :
  Fn Tryz.prog 93 [.ag [.sl (Is a0.shape),.sl (Its a0.items)]] (.tup [.d (.ag [.sl (Is r.1.shape),.sl (Its r.1.items)]),.d (.i .i64 r.2)]):=by
 unfold F9 at h
 refine Fn.ofC (rs:=[.cell 2 27,.tmp 3]) (nt:=10) Tryz.func93 rfl rfl rfl (by simp) rfl ?_;refine .sr ?_;refine vk (vbx) ?_;refine vk (van (Aj Ax) Az) ?_;refine ar [1,2,3] ?_;refine .seq ?_;refine .drawn 6 A8 (by kernel_rfl) ?_;refine dv (AJ Ac Ab) ?_;refine dv (AJ Ac Ab) ?_
 obtain ⟨x1,g1,h⟩:=bnd h
 refine dv (Aq (Ia g1) Tryz.call40) ?_
 obtain ⟨x2,g2,h⟩:=bnd h
 refine dv (VOK.tupd (vs:=[.ag [.sl (Is x2.1.shape),.sl (Its x2.1.items)],.i .i64 x2.2]) (Aq (Fr g2) Tryz.call94)) ?_;refine dv (vex) ?_;refine dv (vex) ?_;refine dz ?_
 refine stn ?_ Ab (by decide)
 refine ar [2,3] ?_;refine .ret ?_
 cases h
 exact ⟨_,_,⟨.inr rfl,Ac,Ab,p2⟩,rfl,rfl⟩
def Gm (a0:Arr) : Option (Arr×Int):=((D7 a0 0).bind fun x1=>(some (x1.1,x1.2)))
theorem JH {a0:Arr} {r:Arr×Int} (h:Gm a0=some r) :
  Fn Tryz.prog 95 [.ag [.sl (Is a0.shape),.sl (Its a0.items)]] (.tup [.d (.ag [.sl (Is r.1.shape),.sl (Its r.1.items)]),.d (.i .i64 r.2)]):=by
 unfold Gm at h
 refine Fn.ofC (rs:=[.cell 2 27,.tmp 3]) (nt:=8) Tryz.func95 rfl rfl rfl (by simp) rfl ?_;refine .sr ?_;refine vk (vbx) ?_;refine vk (van (Aj Ax) Az) ?_;refine ar [1,2,3] ?_;refine .sr ?_;refine vk (AJ Ac Ab) ?_
 obtain ⟨x1,g1,h⟩:=bnd h
 refine vk (VOK.tupd (vs:=[.ag [.sl (Is x1.1.shape),.sl (Its x1.1.items)],.i .i64 x1.2]) (Aq (Fr g1) Tryz.call94)) ?_;refine vk (vex) ?_;refine vk (vex) ?_
 refine stn ?_ Ab (by decide)
 refine ar [2,3] ?_;refine .ret ?_
 cases h
 exact ⟨_,_,⟨.inr rfl,Ac,Ab,p2⟩,rfl,rfl⟩
def C9 (a0:Arr) (K0:(List Int)→Option (Arr×Int)) : Nat→(List Int)→Int→Option (Arr×Int)
 | 0,_,_=>none
 | k+1,s2,s3=>(if s3<((List.length a0.shape:Nat):Int) then ((ap? 17592186044416 [s3] s2).bind fun x4=>(C9 a0 K0 k x4 (w64 (s3+1)))) else (K0 s2))
def F4 (a0:Arr) : Option (Arr×Int):=(jn (fun (z1:(List Int))=>((Et a0 z1 ((List.length z1:Nat) : Int)).bind fun x5=>(some (x5.1,x5.2)))) fun K0=>(C9 a0 K0 AN [] 0))
theorem JP {a0:Arr} {r:Arr×Int} (h:F4 a0=some r) :
  Fn Tryz.prog 96 [.ag [.sl (Is a0.shape),.sl (Its a0.items)]] (.tup [.d (.ag [.sl (Is r.1.shape),.sl (Its r.1.items)]),.d (.i .i64 r.2)]):=by
 unfold F4 at h
 refine Fn.ofC (rs:=[.cell 2 27,.tmp 3]) (nt:=24) Tryz.func96 rfl rfl rfl (by simp) rfl ?_;refine .sr ?_;refine vk (vbx) ?_;refine vk (van (Aj Ax) Az) ?_;refine ar [1,2,3] ?_;refine .sr ?_;refine asn ?_;refine rk [1,2,3,4] ?_;refine .seq ?_;refine .sr ?_;refine vk (vfa Ak) ?_;refine vk (Ag AB) ?_;refine vk (AT (Ae _) (A9 _) A6) ?_;refine vk (Aa) ?_;refine rk [1,2,3,4,8,9] ?_
 obtain ⟨K0,hK0,h⟩:=AX h
 refine AW.mr (σ:=(List Int)) (fun p=>K0 p=some r) (fun p=>[(1,.d (.ptr [.sl (Is a0.shape),.sl (Its a0.items)])),(2,.nb [.sl (Is []),.sl (Its [])]),(3,.d (.i .i64 0)),(4,.d (.sl (Is p)))]) (fun p=>[]) ?_ ?_
 ·skip
  refine .block ?_;refine .gh (Gh.nlD (t:=4) rfl) ?_
  refine .loop (.gk [1,2,3,4,8,9] ?_)
  refine AL.ind (σ:=Nat×(List Int)×Int) (m:=fun p=>p.1) (e:=fun p=>[(1,.d (.ptr [.sl (Is a0.shape),.sl (Its a0.items)])),(2,.nb [.sl (Is []),.sl (Its [])]),(3,.d (.i .i64 0)),(4,.d (.sl (Is p.2.1))),(8,.d (.i .i64 ((List.length a0.shape:Nat):Int))),(9,.d (.i .i64 p.2.2))]) (h:=fun p=>[]) (I:=fun p=>C9 a0 K0 p.1 p.2.1 p.2.2=some r) ?_ (AN,[],0) h
  rintro ⟨k,s2,s3⟩ h ih
  dsimp only at h ih ⊢
  rcases k with _|k
  ·rw [C9] at h;cases h
  rw [C9] at h
  refine .sr ?_;refine vk (vbi) ?_;refine rk [1,2,3,4,8,9,10] ?_;refine .seq ?_
  rcases brc h with ⟨hc,h⟩|⟨hc,h⟩
  ·refine cnt (dT hc) ?_
   refine .skip ?_
   show AW _ _ _ _ _ _
   refine .seq ?_;refine .block ?_;refine .sr ?_;refine vk (Aa) ?_;refine ar [1,2,3,4,5,8,9] ?_;refine .region ?_;refine vk (Aa) ?_;refine vk (Hq (CY [s3]) Ct) ?_;refine vk (Aa) ?_
   obtain ⟨x4,g4,h⟩:=bnd h
   refine Ue Km g4 Lr ?_ HB Ae Ct
   refine aso ?_;refine .nil ?_
   show AW _ _ _ _ _ _
   refine .gk [1,2,3,4,8,9] ?_;refine .region ?_;refine vk (vbi) ?_;refine vk (Aa) ?_;refine .nil ?_;refine AL.gh (Gh.frz (p:=.t 4) rfl (fun _ _ h=>by cases h)) ?_;refine AL.gk [1,2,3,4,8,9] ?_
   exact ih (k,x4,(w64 (s3+1))) h (Nat.lt_succ_self _)
  refine cnf (dF hc) ?_;refine .gk [1,2,3,4] ?_;refine .exit ?_
  exact jr (s2) h
 rintro z1 h
 try dsimp only at h ⊢
 subst hK0
 show AW _ _ _ _ _ _
 refine .sr ?_;refine vk (AJ Ac Ab) ?_;refine vk (Aa) ?_;refine vk (Aa) ?_;refine vk (AT (Ae _) (A9 _) A6) ?_
 obtain ⟨x5,g5,h⟩:=bnd h
 refine vk (VOK.tupd (vs:=[.ag [.sl (Is x5.1.shape),.sl (Its x5.1.items)],.i .i64 x5.2]) (Aq (Hj g5) Tryz.call80)) ?_;refine vk (vex) ?_;refine vk (vex) ?_
 refine stn ?_ Ab (by decide)
 refine ar [2,3] ?_;refine .ret ?_
 cases h
 exact ⟨_,_,⟨.inr rfl,Ac,Ab,p2⟩,rfl,rfl⟩
def Av (a0:(List Arr)) (a1:BA) (K0:Int→Option (Int)) : Nat→Int→Int→Option (Int)
 | 0,_,_=>none
 | k+1,s2,s3=>(if s3<((List.length a0:Nat):Int) then ((rd? a0 s3).bind fun x4=>((a1.g x4).bind fun x5=>(if x5=true then (some (s3)) else (Av a0 a1 K0 k s2 (w64 (s3+1)))))) else (K0 s2))
def A3 (a0:(List Arr)) (a1:BA) : Option (Int):=(jn (fun (z1:Int)=>(some ((-1)))) fun K0=>(Av a0 a1 K0 AN 0 0))
theorem Di {a0:(List Arr)} {a1:BA} (oa1:Ig a1) {r:Int} (h:A3 a0 a1=some r) :
  Fn Tryz.prog 121 [.sl (Ars a0),a1.dv] (.d (.i .i64 r)):=by
 unfold A3 at h
 refine Fn.o1 4 19 Tryz.func121 ?_;refine .sr ?_;refine ar [0,1,4] ?_;refine .seq ?_;refine .sr ?_;refine vk (Aa) ?_;refine vk (AT (Br _) (Ex _) Ek) ?_;refine vk (Aa) ?_;refine rk [0,1,4,7,8] ?_
 obtain ⟨K0,hK0,h⟩:=AX h
 refine AW.mr (σ:=Int) (fun p=>K0 p=some r) (fun p=>[(4,.d (.i .i64 p))]) (fun p=>[]) ?_ ?_
 ·skip
  refine .block ?_
  refine .loop (.gk [0,1,4,7,8] ?_)
  refine AL.ind (σ:=Nat×Int×Int) (m:=fun p=>p.1) (e:=fun p=>[(0,.d (.sl (Ars a0))),(1,.d (a1.dv)),(4,.d (.i .i64 p.2.1)),(7,.d (.i .i64 ((List.length a0:Nat):Int))),(8,.d (.i .i64 p.2.2))]) (h:=fun p=>[]) (I:=fun p=>Av a0 a1 K0 p.1 p.2.1 p.2.2=some r) ?_ (AN,0,0) h
  rintro ⟨k,s2,s3⟩ h ih
  dsimp only at h ih ⊢
  rcases k with _|k
  ·rw [Av] at h;cases h
  rw [Av] at h
  refine .sr ?_;refine vk (vbi) ?_;refine rk [0,1,4,7,8,9] ?_;refine .seq ?_
  rcases brc h with ⟨hc,h⟩|⟨hc,h⟩
  ·refine cnt (dT hc) ?_
   refine .skip ?_
   show AW _ _ _ _ _ _
   refine .seq ?_;refine .block ?_;refine .sr ?_;refine vk (Aa) ?_;refine ar [0,1,4,5,7,8] ?_;refine .sr ?_;refine vk (Aa) ?_;refine vk (Aa) ?_;refine vk (Aa) ?_
   obtain ⟨x4,g4,h⟩:=bnd h
   obtain ⟨n4,p04,q4⟩:=Ah g4
   refine vk (vix n4 p04 (EZ q4) rfl E2) ?_;refine vk (AJ Ac Ab) ?_
   obtain ⟨x5,g5,h⟩:=bnd h
   refine vk (No (oa1 _ _ g5)) ?_;refine rk [0,1,4,5,7,8,16] ?_
   rcases brc h with ⟨hc,h⟩|⟨hc,h⟩
   ·refine cnt hc ?_
    refine .sr ?_;refine vk (Aa) ?_;refine ar [0,1,4,7,8] ?_;refine .ret ?_
    cases h
    exact ⟨rfl,rfl⟩
   refine cnf (bf hc) ?_;refine .skip ?_
   show AW _ _ _ _ _ _
   refine .region ?_;refine vk (vbi) ?_;refine vk (Aa) ?_;refine .nil ?_;refine AL.gk [0,1,4,7,8] ?_
   exact ih (k,s2,(w64 (s3+1))) h (Nat.lt_succ_self _)
  refine cnf (dF hc) ?_;refine .gk [4] ?_;refine .exit ?_
  exact jr (s2) h
 rintro z1 h
 try dsimp only at h ⊢
 subst hK0
 show AW _ _ _ _ _ _
 refine .sr ?_;refine ar [4] ?_;refine .ret ?_
 cases h
 exact ⟨rfl,rfl⟩
def AA (a0:(List Arr)) (a1:BA) : Option (Bool):=((A3 a0 a1).bind fun x1=>(some ((decide (0≤x1)))))
theorem BB {a0:(List Arr)} {a1:BA} (oa1:Ig a1) {r:Bool} (h:AA a0 a1=some r) :
  Fn Tryz.prog 71 [.sl (Ars a0),a1.dv] (.d (.b r)):=by
 unfold AA at h
 refine Fn.o1 4 9 Tryz.func71 ?_;refine .sr ?_;refine ar [0,1,4] ?_;refine .sr ?_;refine vk (Aa) ?_;refine vk (Aa) ?_
 obtain ⟨x1,g1,h⟩:=bnd h
 refine vk (Aq (Di oa1 g1) Tryz.call121) ?_;refine vk (vbi) ?_;refine ar [4] ?_;refine .ret ?_
 cases h
 exact ⟨rfl,rfl⟩
def CI (a0:Arr) : Option (Bool):=((Bg a0).bind fun x1=>(some ((!x1))))
theorem FO {a0:Arr} {r:Bool} (h:CI a0=some r) :
  Fn Tryz.prog 72 [.ag [.sl (Is a0.shape),.sl (Its a0.items)]] (.d (.b r)):=by
 unfold CI at h
 refine Fn.o1 2 6 Tryz.func72 ?_;refine .sr ?_;refine vk (vbx) ?_;refine ar [1,2] ?_;refine .sr ?_;refine vk (AJ Ac Ab) ?_
 obtain ⟨x1,g1,h⟩:=bnd h
 refine vk (Aq (BC g1) Tryz.call15) ?_;refine vk (vnt) ?_;refine ar [2] ?_;refine .ret ?_
 cases h
 exact ⟨rfl,rfl⟩
def Dp (a0:(Int×RT×Int)) (a1:(List Arr)) : Option (Bool):=(Option.bind ((if a0.1=0 then ((AA a1 (⟨.fn 72 [] [],fun x=>CI x⟩ : BA)).bind fun x2=>(some (!x2))) else (if a0.1=1 then ((AA a1 (⟨.fn 72 [] [],fun x=>CI x⟩ : BA)).bind fun x3=>(some (!x3))) else (some false))) : Option (Bool)) fun (z1:Bool)=>(some (z1)))
theorem GN {a0:(Int×RT×Int)} {a1:(List Arr)} {r:Bool} (h:Dp a0 a1=some r) :
  Fn Tryz.prog 34 [.ag [.i .i64 a0.1,.b a0.2.1.1,.sl (L a0.2.1.2.1),.sl (L a0.2.1.2.2),.i .i64 a0.2.2],.sl (Ars a1)] (.d (.b r)):=by
 unfold Dp at h
 refine Fn.o1 4 18 Tryz.func34 ?_;refine .sr ?_;refine vk (vbx) ?_;refine ar [1,2,4] ?_;refine .seq ?_
 obtain ⟨z1,hz,h⟩:=bnd h
 refine AW.mr (σ:=Unit) (fun _=>True) (fun _=>[(4,.d (.b z1))]) (fun _=>[]) ?_ ?_
 ·skip
  refine .region ?_;refine vk (vfa OD) ?_;refine vk (Ag Au) ?_;refine vk (vbi) ?_
  rcases brc hz with ⟨hc,hz⟩|⟨hc,hz⟩
  ·have hb0:(decide (a0.1=0))=true:=(dT hc)
   refine vk (VOK.lit (Aa) hb0) ?_;refine gf ?_;refine gf ?_;refine gf ?_;refine vk (Ao) ?_;refine vk (Aa) ?_;refine vk (Aa) ?_
   obtain ⟨x2,g2,hz⟩:=bnd hz
   refine vk (Aq (BB (D6 Tryz.call72 (fun _ _ h=>FO h)) g2) Tryz.call71) ?_;refine vk (vnt) ?_;refine vk (Ao) ?_;refine asd ?_;refine RL.gk [4] ?_;refine .nil ?_
   cases hz
   exact jr () trivial
  have hb0:(decide (a0.1=0))=false:=(dF hc)
  refine vk (VOK.lit (Aa) hb0) ?_;refine vk (vfa OD) ?_;refine vk (Ag Au) ?_;refine vk (vbi) ?_;refine vk (Ao) ?_
  rcases brc hz with ⟨hc,hz⟩|⟨hc,hz⟩
  ·have hb1:(decide (a0.1=1))=true:=(dT hc)
   refine vk (VOK.lit (Aa) hb1) ?_;refine vk (Aa) ?_
   obtain ⟨x3,g3,hz⟩:=bnd hz
   refine vk (Aq (BB (D6 Tryz.call72 (fun _ _ h=>FO h)) g3) Tryz.call71) ?_;refine vk (vnt) ?_;refine vk (Ao) ?_;refine asd ?_;refine RL.gk [4] ?_;refine .nil ?_
   cases hz
   exact jr () trivial
  have hb1:(decide (a0.1=1))=false:=(dF hc)
  refine vk (VOK.lit (Aa) hb1) ?_;refine gf ?_;refine gf ?_;refine gf ?_;refine vk (Ao) ?_;refine asd ?_;refine RL.gk [4] ?_;refine .nil ?_
  cases hz
  exact jr () trivial
 rintro _ _
 refine .ret ?_
 cases h
 exact ⟨rfl,rfl⟩
theorem En : Tryz.prog.underlying 85=some (.map 21 84):=by kernel_rfl
theorem Ps : ∀ w,(zeroValue 84).run Tryz.prog w=.ok .nilFunc w:=Aj (by kernel_rfl)
def OS : List (Int×DV):=[(9076,.fn 91 [] []),(44,.fn 92 [] []),(9021,.fn 93 [] []),(8854,.fn 95 [] []),(9033,.fn 96 [] [])]
theorem PA : Fn Tryz.prog 50 [] (.d (.mp (OS.map fun p=>.i .i32 p.1) (OS.map (·.2)))):=by
 refine Fn.o1 0 3 Tryz.func50 ?_;refine .sr ?_;refine asu ?_;refine rn ?_;refine .sr ?_;refine vk (UM) ?_;refine IP En gkR freshK.nil ?_;refine IP En gkR (freshK.snoc (z:=44) (z':=9076) freshK.nil (by decide)) ?_;refine IP En gkR (freshK.snoc (z:=9021) (z':=44) (freshK.snoc (z:=9021) (z':=9076) freshK.nil (by decide)) (by decide)) ?_;refine IP En gkR (freshK.snoc (z:=8854) (z':=9021) (freshK.snoc (z:=8854) (z':=44) (freshK.snoc (z:=8854) (z':=9076) freshK.nil (by decide)) (by decide)) (by decide)) ?_;refine IP En gkR (freshK.snoc (z:=9033) (z':=8854) (freshK.snoc (z:=9033) (z':=9021) (freshK.snoc (z:=9033) (z':=44) (freshK.snoc (z:=9033) (z':=9076) freshK.nil (by decide)) (by decide)) (by decide)) (by decide)) ?_;refine RL.gh (Gh.omf (t:=1) rfl) ?_;refine RL.gk [1] ?_;refine vk (Aa) ?_;refine asd ?_;refine rn ?_;refine .ret ?_
 exact ⟨rfl,rfl⟩
def Gd : List (Int×Ed):=[(9076,⟨.fn 91 [] [],fun _=>none⟩),(44,⟨.fn 92 [] [],fun x=>FZ x⟩),(9021,⟨.fn 93 [] [],fun x=>F9 x⟩),(8854,⟨.fn 95 [] [],fun x=>Gm x⟩),(9033,⟨.fn 96 [] [],fun x=>F4 x⟩)]
theorem NV : (Gd.map (·.1)).Nodup:=by show List.Nodup [(9076:Int),(44:Int),(9021:Int),(8854:Int),(9033:Int)];decide
theorem NG : ∀ p∈Gd,Fk p.2∧isF p.2.dv:=by
 intro p hp
 simp only [Gd,List.mem_cons,List.not_mem_nil,or_false] at hp
 rcases hp with rfl|rfl|rfl|rfl|rfl
 ·exact ⟨D6 Tryz.call91 (fun _ _ h=>nomatch h),_,_,_,rfl⟩
 ·exact ⟨D6 Tryz.call92 (fun _ _ h=>JI h),_,_,_,rfl⟩
 ·exact ⟨D6 Tryz.call93 (fun _ _ h=>JN h),_,_,_,rfl⟩
 ·exact ⟨D6 Tryz.call95 (fun _ _ h=>JH h),_,_,_,rfl⟩
 ·exact ⟨D6 Tryz.call96 (fun _ _ h=>JP h),_,_,_,rfl⟩
theorem N9 {z:Int} {f:Ed} (h:F5 Gd z=some f) : Fk f∧isF f.dv:=NG _ (J0 h)
theorem Of : Fn Tryz.prog 50 [] (.d (SV .i32 Gd)):=PA
def FA (a0:(Int×RT×Int)) (a1:Int) (a2:Arr) : Option (Arr×Int):=(Uc (F5 Gd a1) (some ((Arr.mk [] []),23)) fun f1=>((Dp a0 ([a2])).bind fun x2=>(if x2=true then ((f1.g a2).bind fun x3=>(some (x3.1,x3.2))) else (some ((Arr.mk [] []),22)))))
theorem IJ {a0:(Int×RT×Int)} {a1:Int} {a2:Arr} {r:Arr×Int} (h:FA a0 a1 a2=some r) :
  Fn Tryz.prog 17 [.ag [.i .i64 a0.1,.b a0.2.1.1,.sl (L a0.2.1.2.1),.sl (L a0.2.1.2.2),.i .i64 a0.2.2],.i .i32 a1,.ag [.sl (Is a2.shape),.sl (Its a2.items)]] (.tup [.d (.ag [.sl (Is r.1.shape),.sl (Its r.1.items)]),.d (.i .i64 r.2)]):=by
 unfold FA at h
 refine Fn.ofC (rs:=[.cell 6 27,.tmp 7]) (nt:=28) Tryz.func17 rfl rfl rfl (by simp) rfl ?_;refine .sr ?_;refine vk (vbx) ?_;refine vk (vbx) ?_;refine vk (van (Aj Ax) Az) ?_;refine ar [1,3,5,6,7] ?_;refine .sr ?_;refine vk (Aq Of Tryz.call50) ?_;refine vk (Aa) ?_
 rcases hmf1:(F5 Gd a1) with _|f1
 ·replace h:=Tw hmf1 h
  refine vk (UQ En gkR Ps hmf1) ?_;refine ar [3,5,6,7,8] ?_;refine .seq ?_;refine .block ?_;refine .sr ?_;refine vk (Aa) ?_;refine vk (U8 Ej) ?_;refine ar [3,5,6,7,8,12] ?_;refine DZ ?_;refine .sr ?_;refine vk (vbd BK Ax Az) ?_
  refine stn ?_ Ab (by decide)
  refine ar [5,6,7,8] ?_;refine .ret ?_
  cases h
  exact ⟨_,_,⟨.inr rfl,Ac,Ab,p2⟩,rfl,rfl⟩
 replace h:=TH hmf1 h
 obtain ⟨of1,isf1⟩:=N9 hmf1
 refine vk (S3 NV En gkR hmf1) ?_;refine ar [3,5,6,7,8] ?_;refine .seq ?_;refine .block ?_;refine .sr ?_;refine vk (Aa) ?_;refine vk (U6 Ej isf1) ?_;refine ar [3,5,6,7,8,12] ?_;refine Dy ?_;refine .sr ?_;refine vk (AJ Pb MU) ?_;refine vk (AJ Ac Ab) ?_;refine vk ((D0 (J1 a2) (GO [a2]) HZ).deep) ?_
 obtain ⟨x2,g2,h⟩:=bnd h
 refine vk (Aq (GN g2) Tryz.call34) ?_;refine vk (vnt) ?_;refine ar [5,6,7,8,16] ?_
 rcases brc h with ⟨hc,h⟩|⟨hc,h⟩
 ·refine cnf (ntf hc) ?_
  refine .skip ?_
  show AW _ _ _ _ _ _
  refine .sr ?_;refine vk (Aa) ?_;refine vk (AJ Ac Ab) ?_
  obtain ⟨x3,g3,h⟩:=bnd h
  refine vk (VOK.tupd (vs:=[.ag [.sl (Is x3.1.shape),.sl (Its x3.1.items)],.i .i64 x3.2]) (No (of1 _ _ g3))) ?_;refine vk (vex) ?_;refine vk (vex) ?_
  refine stn ?_ Ab (by decide)
  refine ar [6,7] ?_;refine .ret ?_
  cases h
  exact ⟨_,_,⟨.inr rfl,Ac,Ab,p2⟩,rfl,rfl⟩
 refine cnt (ntt (bf hc)) ?_;refine .sr ?_;refine vk (vbd BK Ax Az) ?_
 refine stn ?_ Ab (by decide)
 refine ar [5,6,7,8] ?_;refine .ret ?_
 cases h
 exact ⟨_,_,⟨.inr rfl,Ac,Ab,p2⟩,rfl,rfl⟩
theorem Oq {s:List Int} (h:(szP s).2=0) : (∀ x∈s,0≤x∧x≤4096)∧s.length≤8:=by
 unfold szP at h
 split at h
 ·exact absurd h (by decide)
 split at h
 ·exact absurd h (by decide)
 split at h
 ·exact absurd h (by decide)
 rename_i h8 hneg hbig
 refine ⟨fun x hx=>?_,by omega⟩
 simp only [List.any_eq_true,decide_eq_true_eq,not_exists,not_and] at hneg hbig
 have a:=hneg x hx
 have b:=hbig x hx
 omega
theorem S2 {b:Arr} : EN b b.items.length id=b.items:=R5 b.items
theorem S1 {b:Arr} (hl:b.shape.length≤17592186044416) : Eh b false=some ((b.shape.length-1:Nat) : Int):=by
 unfold Eh
 rw [if_neg (by decide),Bk (by omega) (by omega)]
 congr 1
 split<;>omega
end Go.FL
namespace Go.FL
open Go Go.RowKit
section
variable {P:Program} {C:Cx} {o:Oper} {ops:Array Oper} {Q:Exit→Env→Af→Prop} {env:Env} {H:Af} {k:Nat} {l:List Oper}
theorem UX {x:Operand} {src dst:Nat} {q:IntKind} {n:Int} (hs:(P.underlying src).isSome=true) (hd:P.underlying dst=some .string) (ho:o.op=.convert src dst x:=by rfl) (hv:lk env x=.d (.i q n):=by rfl) : VOK P C o env H (.d (.s (Utf8.encode n))):=by
 obtain ⟨h1,h2⟩:=Aw hv (by simp)
 refine .pv ⟨by simp [ho],fun X a w I μ O _ hs'=>⟨.string (Utf8.encode n),?_,.of_rep (.s _)⟩⟩
 have e1:=hs'.look_i h1 h2
 have:=run_convert_int_string (P:=P) w src dst q n hs hd
 simp only [execOp,ho,e1,Sem.run_bind,this,Result.andThen_ok,Sem.run_pure]
theorem UC {x y:Operand} {ty:Nat} {s:ByteArray} {q:IntKind} {z:Int} (n:Nat) (hn:z=n∧n≤s.size) (hty:P.underlying ty=some .string) (ho:o.op=.slice ty x (some y) none none:=by rfl) (hv:lk env x=.d (.s s):=by rfl) (hi:lk env y=.d (.i q z):=by rfl) :
  VOK P C o env H (.d (.s (s.extract n s.size))):=by
 obtain ⟨rfl,hl⟩:=hn
 obtain ⟨h1,h2⟩:=Aw hv (by simp)
 obtain ⟨h3,h4⟩:=Aw hi (by simp)
 refine .pv ⟨by simp [ho],fun X a w I μ O _ hs=>⟨.string (s.extract n s.size),?_,.of_rep (.s _)⟩⟩
 have e1:=hs.look_s h1 h2
 have e2:=hs.look_i h3 h4
 have:=run_slice_string_l (P:=P) w ty s hty q (n:Int) (by omega) (by omega)
 rw [Int.toNat_natCast] at this
 simp only [execOp,ho,e1,Option.map_none,Option.map_some,e2,Instr.sliceAt,Sem.run_bind,run_underlying hty,this,Result.andThen_ok,Sem.run_pure]
theorem Vi {c:Call} {fo:Operand} {f:FuncId} {s:ByteArray} {b z:Int} (he:∀ w,(callFunc f #[.string s,.int .u8 b]).run P w=.ok (.value (.int .i64 z)) w) (ho:o.op=.call c:=by rfl) (hc:c.callee=.value fo:=by rfl) (hf:lk env fo=.d (.fn f [] []):=by rfl)
  (ha:argsD env c.args.toList=some [.s s,.i .u8 b]:=by rfl):VOK P C o env H (.d (.i .i64 z)):=by
 refine .pv ⟨by simp [ho],fun X a w I μ O _ hs=>⟨.int .i64 z,?_,.of_rep (.i _ _)⟩⟩
 have hfr:=hs.deep (x:=fo) (v:=.fn f [] []) (by rw [hf];rfl)
 generalize hev:a.eval fo=u at hfr
 cases hfr with
 | fn _ _ _ fs cs hfs hcs =>
  cases hfs
  cases hcs
  have hres:=BW (P:=P) (w:=w) (ρ:=a.eval) (ty:=o.type) hc hev
  have h:=hs.argsD ha
  have e:c.args.map a.eval=#[.string s,.int .u8 b]:=by
   apply Array.ext'
   rw [Array.toList_map]
   generalize c.args.toList.map a.eval=l at h
   cases h with
   | cons h1 h2 =>
    cases h1
    cases h2 with
    | cons h3 h4=>cases h3;cases h4;rfl
  have he':=he w
  rw [← e] at he'
  simp only [execOp,ho,Sem.run_bind,hres,Result.andThen_ok,invoke,List.toArray,Array.append_empty,Array.empty_append,he']
end
def noG (Q:Exit→Env→Af→Prop) : Exit→Env→Af→Prop
 | .goto _,_,_=>False
 | e,env,H=>Q e env H
section
variable {P:Program} {b:Frame} {a:Act} {k:List Item} {cs:List Frame} {w:World}
theorem FD {c:Code} : step P (lone (b.atR a (.code (.scope c)::k)) cs w)=.next (lone (b.atR a (.code c::.inScope c::k)) cs w) :=
 step_lone_go (by simp [stepG,stepG.exec,Frame.atR])
theorem PQ {c:Code} : step P (lone (b.atR a (.inScope c::k)) cs w)=.next (lone (b.atR a k) cs w) :=
 step_lone_go (by simp [stepG,stepG.exec,Frame.atR])
end
theorem AW.scope {P:Program} {C:Cx} {c:Code} {Q:Exit→Env→Af→Prop} {env:Env} {H:Af} (h:AW P C c (noG Q) env H) : AW P C (.scope c) Q env H:=by
 intro X a w I μ O h1 h2 h3 hs b k cs hro hb hr
 have h0:(lone (b.atR a (.code (.scope c)::k)) cs w).fenced P (om C.ro):=fenced_calm hb hr rfl
 obtain ⟨e,a₁,w₁,hq,harr⟩:=h X a w I μ O h1 h2 h3 hs b (.inScope c::k) cs hro hb hr
 obtain ⟨env',H',I',μ',O',s,q⟩:=hq
 cases e with
 | normal=>exact ⟨.normal,a₁,w₁,⟨env',H',I',μ',O',s,q⟩,.head h0 FD (StepsIn.trans harr (.one (fenced_calm hb hr rfl) PQ))⟩
 | exit id =>
  have hx:exitTo id (.inScope c::k)=exitTo id k:=by simp [exitTo]
  exact ⟨.exit id,a₁,w₁,⟨env',H',I',μ',O',s,q⟩,fun k' hk=>.head h0 FD (harr.1 k' (by rw [hx];exact hk)),
   fun hr' hk=>let ⟨k₁,h1,h2⟩:=harr.2 hr' (by rw [hx];exact hk);⟨k₁,h1,.head h0 FD h2⟩⟩
 | goto l=>exact q.elim
 | ret=>exact ⟨_,a₁,w₁,⟨env',H',I',μ',O',s,q⟩,.of_steps (.one h0 FD) harr⟩
 | panic ch=>exact ⟨_,a₁,w₁,⟨env',H',I',μ',O',s,q⟩,.of_steps (.one h0 FD) harr⟩
 | outgrown=>exact ⟨_,a₁,w₁,⟨env',H',I',μ',O',s,q⟩,.of_steps (.one h0 FD) harr⟩
end Go.FL
namespace Go.FL
open Go Go.Proofs Go.RowKit
theorem stS : Tryz.prog.underlying 9=some .string:=by kernel_rfl
theorem Ty (s:ByteArray) (b:Int) (w:World) : (callFunc 180 #[.string s,.int .u8 b]).run Tryz.prog w=.ok (.value (.int .i64 (Lib.indexByte s.data.toList b.toNat.toUInt8))) w:=by
 rw [run_callFunc_extern Tryz.func180 (by kernel_rfl) (by kernel_rfl) (by kernel_rfl) (e:=Extern.BytealgIndexByte.indexByte) (by kernel_rfl),Lib.run_indexByteString]
 rfl
def HE (s:ByteArray) (b:Int) : Int:=Lib.indexByte s.data.toList b.toNat.toUInt8
theorem ML (s:ByteArray) (b:Int) : Fn Tryz.prog 169 [.s s,.i .u8 b] (.d (.i .i64 (HE s b))):=by
 refine Fn.of (rs:=[.tmp 4]) (nt:=8) Tryz.func169 rfl rfl rfl (by simp) rfl ?_;refine .seq ?_;refine .region ?_;refine asd ?_;refine rn ?_;refine .seq ?_;refine .region ?_;refine vk (Aa) ?_;refine vk (Aa) ?_;refine vk (Vi (Ty s b)) ?_;refine asd ?_;refine rn ?_;refine .ret ?_
 exact ⟨rfl,rfl⟩
theorem IM (s:ByteArray) (b:Int) : Fn Tryz.prog 139 [.s s,.i .u8 b] (.d (.i .i64 (HE s b))):=by
 refine Fn.of (rs:=[.tmp 4]) (nt:=8) Tryz.func139 rfl rfl rfl (by simp) rfl ?_;refine .seq ?_;refine .region ?_;refine asd ?_;refine rn ?_;refine .seq ?_;refine .region ?_;refine vk (Aa) ?_;refine vk (Aa) ?_;refine vk (Aq (ML s b) Tryz.call169) ?_;refine asd ?_;refine rn ?_;refine .ret ?_
 exact ⟨rfl,rfl⟩
def CS (a0:Int) : Option (Bool):=(if ((decide (0≤a0))&&(decide (a0<55296)))=true then (some (true)) else (if ((decide (57343<a0))&&(decide (a0≤1114111)))=true then (some (true)) else (some (false))))
theorem Fq {a0:Int} {r:Bool} (h:CS a0=some r) :
  Fn Tryz.prog 140 [.i .i32 a0] (.d (.b r)):=by
 unfold CS at h
 refine Fn.of (rs:=[.tmp 2]) (nt:=17) Tryz.func140 rfl rfl rfl (by simp) rfl ?_;refine .seq ?_;refine .region ?_;refine asd ?_;refine rn ?_;refine .gh (Gh.keep [0,2] rfl) ?_;refine .seq ?_;refine .block ?_;refine .seq ?_;refine AW.mr (σ:=Unit) (fun _=>True) (fun _=>[(0,.d (.i .i32 a0)),(2,.d (.b false)),(3,.d (.b ((decide (0≤a0))&&(decide (a0<55296)))))]) (fun _=>[]) ?_ ?_
 ·skip
  refine .region ?_;refine vk (Aa) ?_;refine vk (vbi) ?_
  by_cases hc:0≤a0
  ·have hb0:(decide (0≤a0))=true:=(dT hc)
   refine vk (VOK.lit (Aa) hb0) ?_;refine vk (Aa) ?_;refine vk (vbi) ?_;refine vk (Ao) ?_;refine asd ?_;refine RL.gh (Gh.keep [0,2,3] rfl) ?_;refine .nil ?_
   exact jr () trivial (by simp only [hb0];rfl)
  have hb0:(decide (0≤a0))=false:=(dF hc)
  refine vk (VOK.lit (Aa) hb0) ?_;refine gf ?_;refine gf ?_;refine vk (Ao) ?_;refine asd ?_;refine RL.gh (Gh.keep [0,2,3] rfl) ?_;refine .nil ?_
  exact jr () trivial (by simp only [hb0];rfl)
 rintro _ _
 by_cases hc:((decide (0≤a0))&&(decide (a0<55296)))=true
 ·replace h:=QI hc h
  refine cnt hc ?_;refine .seq ?_;refine .region ?_;refine asd ?_;refine rn ?_;refine .gh (Gh.keep [2] rfl) ?_;refine .ret ?_
  cases h
  exact ⟨rfl,rfl⟩
 replace h:=Rh hc h
 refine cnf (bf hc) ?_;refine .seq ?_;refine AW.mr (σ:=Unit) (fun _=>True) (fun _=>[(2,.d (.b false)),(10,.d (.b ((decide (57343<a0))&&(decide (a0≤1114111)))))]) (fun _=>[]) ?_ ?_
 ·skip
  refine .region ?_;refine vk (Aa) ?_;refine vk (vbi) ?_
  by_cases hc:57343<a0
  ·have hb0:(decide (57343<a0))=true:=(dT hc)
   refine vk (VOK.lit (Aa) hb0) ?_;refine vk (Aa) ?_;refine vk (vbi) ?_;refine vk (Ao) ?_;refine asd ?_;refine RL.gh (Gh.keep [2,10] rfl) ?_;refine .nil ?_
   exact jr () trivial (by simp only [hb0];rfl)
  have hb0:(decide (57343<a0))=false:=(dF hc)
  refine vk (VOK.lit (Aa) hb0) ?_;refine gf ?_;refine gf ?_;refine vk (Ao) ?_;refine asd ?_;refine RL.gh (Gh.keep [2,10] rfl) ?_;refine .nil ?_
  exact jr () trivial (by simp only [hb0];rfl)
 rintro _ _
 by_cases hc:((decide (57343<a0))&&(decide (a0≤1114111)))=true
 ·replace h:=QI hc h
  refine cnt hc ?_;refine .seq ?_;refine .region ?_;refine asd ?_;refine rn ?_;refine .gh (Gh.keep [2] rfl) ?_;refine .ret ?_
  cases h
  exact ⟨rfl,rfl⟩
 replace h:=Rh hc h
 refine cnf (bf hc) ?_;refine .skip ?_
 show AW _ _ _ _ _ _
 refine .seq ?_;refine .region ?_;refine asd ?_;refine rn ?_;refine .gh (Gh.keep [2] rfl) ?_;refine .ret ?_
 cases h
 exact ⟨rfl,rfl⟩
theorem Nc (s:ByteArray) (r:Int) (h0:0≤r) (h1:r<128) : Fn Tryz.prog 85 [.s s,.i .i32 r] (.d (.i .i64 (HE s r))):=by
 refine Fn.of (rs:=[.tmp 4]) (nt:=187) Tryz.func85 rfl rfl rfl (by simp) rfl ?_;refine .seq ?_;refine .region ?_;refine asd ?_;refine rn ?_;refine .gh (Gh.keep [0,1,4] rfl) ?_;refine .block ?_;refine .seq ?_;refine .region ?_;refine vk (Aa) ?_;refine vk (vbi) ?_
 have hb0:(decide (0≤r))=true:=dT h0
 refine vk (VOK.lit (Aa) hb0) ?_;refine vk (Aa) ?_;refine vk (vbi) ?_;refine vk (Ao) ?_;refine asd ?_;refine rn ?_;refine .gh (Gh.keep [0,1,4,160] rfl) ?_;refine cnt (dT h1) ?_;refine .seq ?_;refine .region ?_;refine vk (Aa) ?_;refine vk (Aa) ?_
 have hw:IntKind.u8.wrap r=r:=by
  simp only [IntKind.wrap,IntKind.bits,IntKind.signed]
  simp
  omega
 refine vk (RB (q1:=.i32) r hw (by kernel_rfl) (by kernel_rfl)) ?_;refine vk (Aq (IM s r) Tryz.call139) ?_;refine asd ?_;refine rn ?_;refine .ret ?_
 exact ⟨rfl,rfl⟩
theorem Ju (s:ByteArray) (r:Int) {x0 x1 x2 y2 p:Nat} (h0:2048≤r) (h1:r<55296) (he:FR (Utf8.encode r)=[x0,x1,x2]) (hs:s.size≤1000) (h2:(FR s)[2]?=some y2)
  (hc:(y2=x2∧p=2)∨(y2≠x2∧3≤p∧HE (s.extract 3 s.size) x2=(p:Int)-3)) (hp1:(FR s)[p-1]?=some x1) (hp0:(FR s)[p-2]?=some x0) (hp:p<s.size) :
  Fn Tryz.prog 85 [.s s,.i .i32 r] (.d (.i .i64 ((p:Int)-2))):=by
 have hes:(Utf8.encode r).size=3:=by rw [← EK,he];rfl
 have hsub:DV.i .i64 (IntKind.i64.wrap (((Utf8.encode r).size:Int)-1))=.i .i64 2:=by rw [hes];rfl
 have hv:CS r=some true:=by
  unfold CS
  rw [dT (show (0:Int)≤r by omega),dT h1];rfl
 have h3:3≤s.size:=by
  have:=(lS.1 h2).1
  rw [EK] at this;omega
 refine Fn.of (rs:=[.tmp 4]) (nt:=187) Tryz.func85 rfl rfl rfl (by simp) rfl ?_;refine .seq ?_;refine .region ?_;refine asd ?_;refine rn ?_;refine .gh (Gh.keep [0,1,4] rfl) ?_;refine .block ?_;refine .seq ?_;refine .region ?_;refine vk (Aa) ?_;refine vk (vbi) ?_
 have hb0:(decide (0≤r))=true:=dT (by omega)
 refine vk (VOK.lit (Aa) hb0) ?_;refine vk (Aa) ?_;refine vk (vbi) ?_;refine vk (Ao) ?_;refine asd ?_;refine rn ?_;refine .gh (Gh.keep [0,1,4,160] rfl) ?_;refine cnf (show decide (r<128)=false from dF (by omega)) ?_;refine .seq ?_;refine .region ?_;refine vk (Aa) ?_;refine vk (vbi) ?_;refine asd ?_;refine rn ?_;refine .gh (Gh.keep [0,1,4,171] rfl) ?_;refine cnf (show decide (r=65533)=false from dF (by omega)) ?_;refine .seq ?_;refine .region ?_;refine vk (Aa) ?_;refine vk (Aq (Fq hv) Tryz.call140) ?_;refine vk (vnt) ?_;refine asd ?_;refine rn ?_;refine .gh (Gh.keep [0,1,4,183] rfl) ?_;refine Dy ?_;refine .scope ?_;refine .seq ?_;refine .region ?_;refine vk (Aa) ?_;refine vk (UX (by kernel_rfl) stS) ?_;refine asd ?_;refine rn ?_;refine .gh (Gh.keep [0,1,4,7] rfl) ?_;refine .seq ?_;refine .region ?_;refine vk (Aa) ?_;refine vk (QV stS) ?_;refine vk (Qo (.i .i64 2) ⟨trivial,hsub⟩) ?_;refine asd ?_;refine rn ?_;refine .gh (Gh.keep [0,1,4,7,8] rfl) ?_;refine .seq ?_;refine .region ?_;refine vk (Aa) ?_;refine asd ?_;refine rn ?_;refine .gh (Gh.keep [0,1,4,7,8,9] rfl) ?_;refine .seq ?_;refine .region ?_;refine asd ?_;refine rn ?_;refine .gh (Gh.keep [0,1,4,7,8,9,10] rfl) ?_;refine .seq ?_;refine .block ?_
 refine .loop (.round ?_)
 refine .seq ?_;refine .seq ?_;refine .region ?_;refine vk (Aa) ?_;refine vk (Aa) ?_;refine vk (QV stS) ?_;refine vk (vbi) ?_;refine rn ?_;refine .gh (Gh.keep [0,1,4,7,8,9,10,26] rfl) ?_;refine cnt (show decide ((2:Int)<((s.size:Nat):Int))=true from dT (by omega)) ?_;refine .skip ?_
 show AW _ _ _ _ _ _
 refine .block ?_;refine .scope ?_;refine .seq ?_;refine .seq ?_;refine .drawn 7 A8 (by kernel_rfl) ?_;refine dv (Aa) ?_;refine dv (Aa) ?_;refine dv (Ng 2 y2 rfl h2 stS) ?_;refine dv (Aa) ?_;refine dv (Aa) ?_;refine dv (Ng 2 x2 rfl (by rw [he];rfl) stS) ?_;refine dv (vbi) ?_;refine dz ?_;refine rn ?_;refine .gh (Gh.keep [0,1,4,7,8,9,10,33] rfl) ?_;refine AW.mr (σ:=Unit) (fun _=>True) (fun _=>[(0,.d (.s s)),(1,.d (.i .i32 r)),(4,.d (.i .i64 0)),(7,.d (.s (Utf8.encode r))),(8,.d (.i .i64 2)),(9,.d (.i .i64 (p:Int))),(10,.d (.i .i64 0))]) (fun _=>[]) ?_ ?_
 ·skip
  rcases hc with ⟨hc1,hc2⟩|⟨hc1,hc2,hc3⟩
  ·subst hc2
   refine cnf (ntf (dT (show (y2:Int)=x2 by omega))) ?_;refine .gh (Gh.keep [0,1,4,7,8,9,10] rfl) ?_;refine .skip ?_
   exact jr () trivial rfl
  have hI:=IM (s.extract 3 s.size) x2
  rw [hc3] at hI
  refine cnt (ntt (dF (show ¬(y2:Int)=x2 by omega))) ?_;refine .seq ?_;refine .drawn 8 A8 (by kernel_rfl) ?_;refine dv (Aa) ?_;refine dv (Aa) ?_;refine dv (vad 3 ⟨rfl,by decide,by decide⟩) ?_;refine dv (UC 3 ⟨rfl,h3⟩ stS) ?_;refine dv (Aa) ?_;refine dv (Aa) ?_;refine dv (Ng 2 x2 rfl (by rw [he];rfl) stS) ?_;refine dv (Aq hI Tryz.call139) ?_;refine dz ?_;refine asd ?_;refine rn ?_;refine .gh (Gh.keep [0,1,4,7,8,9,10,11] rfl) ?_;refine .seq ?_;refine .seq ?_;refine .region ?_;refine vk (Aa) ?_;refine vk (vbi) ?_;refine rn ?_;refine .gh (Gh.keep [0,1,4,7,8,9,10,11,43] rfl) ?_;refine cnf (show decide ((p:Int)-3<0)=false from dF (by omega)) ?_;refine .skip ?_
  show AW _ _ _ _ _ _
  refine .region ?_;refine vk (Aa) ?_;refine vk (Aa) ?_;refine vk (vad (m:=(p:Int)-3) (n:=1) ((p:Int)-2) ⟨by omega,by omega,by omega⟩) ?_;refine vk (vad (m:=2) (n:=(p:Int)-2) (p:Int) ⟨by omega,by omega,by omega⟩) ?_;refine asd ?_;refine RL.gh (Gh.keep [0,1,4,7,8,9,10] rfl) ?_;refine .nil ?_
  exact jr () trivial rfl
 rintro _ _
 refine .seq ?_;refine .seq ?_;refine .region ?_;refine asd ?_;refine rn ?_;refine .gh (Gh.keep [0,1,4,7,8,9,10,12] rfl) ?_;refine .block ?_;refine .loop ?_
 refine AL.ind (σ:=Nat) (m:=fun j=>3-j) (e:=fun j=>[(0,.d (.s s)),(1,.d (.i .i32 r)),(4,.d (.i .i64 0)),(7,.d (.s (Utf8.encode r))),(8,.d (.i .i64 2)),(9,.d (.i .i64 (p:Int))),(10,.d (.i .i64 0)),(12,.d (.i .i64 (j:Int)))]) (h:=fun _=>[]) (I:=fun j=>1≤j∧j≤3) ?_ 1 ⟨by omega,by omega⟩
 rintro j ⟨hj1,hj3⟩ ih
 refine .seq ?_;refine .seq ?_;refine .region ?_;refine vk (Aa) ?_;refine vk (Aa) ?_;refine vk (QV stS) ?_;refine vk (vbi) ?_;refine rn ?_;refine .gh (Gh.keep [0,1,4,7,8,9,10,12,51] rfl) ?_
 by_cases hj:j<3
 ·refine cnt (show decide ((j:Int)<(((Utf8.encode r).size:Nat):Int))=true from dT (by rw [hes];omega)) ?_
  refine .skip ?_
  show AW _ _ _ _ _ _
  obtain ⟨xj,hA,hB⟩:∃ xj,(FR s)[p-j]?=some xj∧(FR (Utf8.encode r))[2-j]?=some xj:=by
   have:j=1∨j=2:=by omega
   rw [he]
   rcases this with rfl|rfl
   ·exact ⟨x1,hp1,rfl⟩
   ·exact ⟨x0,hp0,rfl⟩
  have hp2:2≤p:=by rcases hc with ⟨_,q⟩|⟨_,q,_⟩<;>omega
  refine .seq ?_;refine .block ?_;refine .seq ?_;refine .drawn 11 A8 (by kernel_rfl) ?_;refine dv (Aa) ?_;refine dv (Aa) ?_;refine dv (Aa) ?_;refine dv (vsu (m:=(p:Int)) (n:=(j:Int)) (((p-j:Nat)):Int) ⟨by omega,by omega,by omega⟩) ?_;refine dv (Ng (p-j) xj rfl hA stS) ?_;refine dv (Aa) ?_;refine dv (Aa) ?_;refine dv (Aa) ?_;refine dv (vsu (m:=2) (n:=(j:Int)) (((2-j:Nat)):Int) ⟨by omega,by omega,by omega⟩) ?_;refine dv (Ng (2-j) xj rfl hB stS) ?_;refine dv (vbi) ?_;refine dz ?_;refine rn ?_;refine .gh (Gh.keep [0,1,4,7,8,9,10,12,64] rfl) ?_;refine cnf (ntf (dT (show (xj:Int)=xj from rfl))) ?_;refine .skip ?_
  show AW _ _ _ _ _ _
  refine .region ?_;refine vk (Aa) ?_;refine vk (vad (m:=(j:Int)) (n:=1) ((j+1:Nat):Int) ⟨by omega,by omega,by omega⟩) ?_;refine asd ?_;refine .nil ?_;refine AL.gh (Gh.keep [0,1,4,7,8,9,10,12] rfl) ?_
  exact ih (j+1) ⟨by omega,by omega⟩ (by omega)
 have hp2:2≤p:=by rcases hc with ⟨_,q⟩|⟨_,q,_⟩<;>omega
 refine cnf (show decide ((j:Int)<(((Utf8.encode r).size:Nat):Int))=false from dF (by rw [hes];omega)) ?_;refine .exit ?_
 show AW _ _ _ _ _ _
 refine .seq ?_;refine .seq ?_;refine .region ?_;refine vk (Aa) ?_;refine vk (Aa) ?_;refine vk (vsu (m:=(p:Int)) (n:=2) ((p:Int)-2) ⟨by omega,by omega,by omega⟩) ?_;refine asd ?_;refine rn ?_;refine .gh (Gh.keep [4] rfl) ?_;refine .ret ?_
 exact ⟨rfl,rfl⟩
theorem MN (s:ByteArray) (r:Int) {x0 x1 x2 y2:Nat} (h0:2048≤r) (h1:r<55296) (he:FR (Utf8.encode r)=[x0,x1,x2]) (hs:s.size≤1000) (h2:(FR s)[2]?=some y2)
  (hc:y2≠x2) (hz:HE (s.extract 3 s.size) x2<0):Fn Tryz.prog 85 [.s s,.i .i32 r] (.d (.i .i64 (-1))):=by
 have hes:(Utf8.encode r).size=3:=by rw [← EK,he];rfl
 have hsub:DV.i .i64 (IntKind.i64.wrap (((Utf8.encode r).size:Int)-1))=.i .i64 2:=by rw [hes];rfl
 have hv:CS r=some true:=by
  unfold CS
  rw [dT (show (0:Int)≤r by omega),dT h1];rfl
 have h3:3≤s.size:=by
  have:=(lS.1 h2).1
  rw [EK] at this;omega
 refine Fn.of (rs:=[.tmp 4]) (nt:=187) Tryz.func85 rfl rfl rfl (by simp) rfl ?_;refine .seq ?_;refine .region ?_;refine asd ?_;refine rn ?_;refine .gh (Gh.keep [0,1,4] rfl) ?_;refine .block ?_;refine .seq ?_;refine .region ?_;refine vk (Aa) ?_;refine vk (vbi) ?_
 have hb0:(decide (0≤r))=true:=dT (by omega)
 refine vk (VOK.lit (Aa) hb0) ?_;refine vk (Aa) ?_;refine vk (vbi) ?_;refine vk (Ao) ?_;refine asd ?_;refine rn ?_;refine .gh (Gh.keep [0,1,4,160] rfl) ?_;refine cnf (show decide (r<128)=false from dF (by omega)) ?_;refine .seq ?_;refine .region ?_;refine vk (Aa) ?_;refine vk (vbi) ?_;refine asd ?_;refine rn ?_;refine .gh (Gh.keep [0,1,4,171] rfl) ?_;refine cnf (show decide (r=65533)=false from dF (by omega)) ?_;refine .seq ?_;refine .region ?_;refine vk (Aa) ?_;refine vk (Aq (Fq hv) Tryz.call140) ?_;refine vk (vnt) ?_;refine asd ?_;refine rn ?_;refine .gh (Gh.keep [0,1,4,183] rfl) ?_;refine Dy ?_;refine .scope ?_;refine .seq ?_;refine .region ?_;refine vk (Aa) ?_;refine vk (UX (by kernel_rfl) stS) ?_;refine asd ?_;refine rn ?_;refine .gh (Gh.keep [0,1,4,7] rfl) ?_;refine .seq ?_;refine .region ?_;refine vk (Aa) ?_;refine vk (QV stS) ?_;refine vk (Qo (.i .i64 2) ⟨trivial,hsub⟩) ?_;refine asd ?_;refine rn ?_;refine .gh (Gh.keep [0,1,4,7,8] rfl) ?_;refine .seq ?_;refine .region ?_;refine vk (Aa) ?_;refine asd ?_;refine rn ?_;refine .gh (Gh.keep [0,1,4,7,8,9] rfl) ?_;refine .seq ?_;refine .region ?_;refine asd ?_;refine rn ?_;refine .gh (Gh.keep [0,1,4,7,8,9,10] rfl) ?_;refine .seq ?_;refine .block ?_
 refine .loop (.round ?_)
 refine .seq ?_;refine .seq ?_;refine .region ?_;refine vk (Aa) ?_;refine vk (Aa) ?_;refine vk (QV stS) ?_;refine vk (vbi) ?_;refine rn ?_;refine .gh (Gh.keep [0,1,4,7,8,9,10,26] rfl) ?_;refine cnt (show decide ((2:Int)<((s.size:Nat):Int))=true from dT (by omega)) ?_;refine .skip ?_
 show AW _ _ _ _ _ _
 refine .block ?_;refine .scope ?_;refine .seq ?_;refine .seq ?_;refine .drawn 7 A8 (by kernel_rfl) ?_;refine dv (Aa) ?_;refine dv (Aa) ?_;refine dv (Ng 2 y2 rfl h2 stS) ?_;refine dv (Aa) ?_;refine dv (Aa) ?_;refine dv (Ng 2 x2 rfl (by rw [he];rfl) stS) ?_;refine dv (vbi) ?_;refine dz ?_;refine rn ?_;refine .gh (Gh.keep [0,1,4,7,8,9,10,33] rfl) ?_
 have hI:=IM (s.extract 3 s.size) x2
 refine cnt (ntt (dF (show ¬(y2:Int)=x2 by omega))) ?_;refine .seq ?_;refine .drawn 8 A8 (by kernel_rfl) ?_;refine dv (Aa) ?_;refine dv (Aa) ?_;refine dv (vad 3 ⟨rfl,by decide,by decide⟩) ?_;refine dv (UC 3 ⟨rfl,h3⟩ stS) ?_;refine dv (Aa) ?_;refine dv (Aa) ?_;refine dv (Ng 2 x2 rfl (by rw [he];rfl) stS) ?_;refine dv (Aq hI Tryz.call139) ?_;refine dz ?_;refine asd ?_;refine rn ?_;refine .gh (Gh.keep [0,1,4,7,8,9,10,11] rfl) ?_;refine .seq ?_;refine .seq ?_;refine .region ?_;refine vk (Aa) ?_;refine vk (vbi) ?_;refine rn ?_;refine .gh (Gh.keep [0,1,4,7,8,9,10,11,43] rfl) ?_;refine cnt (show decide (HE (s.extract 3 s.size) x2<0)=true from dT hz) ?_;refine .seq ?_;refine .region ?_;refine asd ?_;refine rn ?_;refine .gh (Gh.keep [4] rfl) ?_;refine .ret ?_
 exact ⟨rfl,rfl⟩
def Th (s:ByteArray) (r:Int) : List Nat→Option Nat→Option Int
 | [x0,x1,x2],some y2=>if y2=x2 then (if 3≤s.size∧(FR s)[1]?=some x1∧(FR s)[0]?=some x0 then some 0 else none)
  else if HE (s.extract 3 s.size) x2<0 then some (-1)
  else if (FR s)[(HE (s.extract 3 s.size) x2).toNat+2]?=some x1∧(FR s)[(HE (s.extract 3 s.size) x2).toNat+1]?=some x0∧(HE (s.extract 3 s.size) x2).toNat+3<s.size then some (HE (s.extract 3 s.size) x2+1) else none
 | _,_=>none
def Pc (s:ByteArray) (r:Int) : Option Int :=
 if s.size≤1000 then (if 0≤r∧r<128 then some (HE s r) else if 2048≤r∧r<55296 then Th s r (FR (Utf8.encode r)) (FR s)[2]? else none) else none
theorem Rs {s:ByteArray} {r z:Int} (h:Pc s r=some z) : Fn Tryz.prog 85 [.s s,.i .i32 r] (.d (.i .i64 z)):=by
 unfold Pc at h
 by_cases hs:s.size≤1000
 rotate_left
 ·rw [if_neg hs] at h;cases h
 rw [if_pos hs] at h
 by_cases h1:0≤r∧r<128
 ·rw [if_pos h1] at h
  cases h
  exact Nc s r h1.1 h1.2
 rw [if_neg h1] at h
 by_cases h2:2048≤r∧r<55296
 rotate_left
 ·rw [if_neg h2] at h;cases h
 rw [if_pos h2] at h
 generalize he:FR (Utf8.encode r)=e at h
 generalize hy:(FR s)[2]?=y at h
 unfold Th at h
 split at h
 ·rename_i x0 x1 x2 y2
  split at h
  ·rename_i q
   split at h
   ·rename_i q2
    cases h
    exact Ju s r (p:=2) h2.1 h2.2 he hs hy (.inl ⟨q,rfl⟩) q2.2.1 q2.2.2 (by omega)
   ·cases h
  ·rename_i q
   split at h
   ·rename_i q2
    cases h
    exact MN s r h2.1 h2.2 he hs hy q q2
   ·rename_i q2
    split at h
    ·rename_i q3
     cases h
     have e1:(((HE (s.extract 3 s.size) x2).toNat+3:Nat):Int)-2=HE (s.extract 3 s.size) x2+1:=by omega
     rw [← e1]
     exact Ju s r (p:=(HE (s.extract 3 s.size) x2).toNat+3) h2.1 h2.2 he hs hy (.inr ⟨q,by omega,by omega⟩) q3.1 q3.2.1 q3.2.2
    ·cases h
 ·cases h
def Hg (s:ByteArray) (r:Int) : Option Bool:=(Pc s r).map fun z=>decide (0≤z)
theorem KI {s:ByteArray} {r:Int} {b:Bool} (h:Hg s r=some b) : Fn Tryz.prog 42 [.s s,.i .i32 r] (.d (.b b)):=by
 unfold Hg at h
 rcases hz:Pc s r with _|z
 ·rw [hz] at h;cases h
 rw [hz] at h
 cases h
 refine Fn.of (rs:=[.tmp 4]) (nt:=9) Tryz.func42 rfl rfl rfl (by simp) rfl ?_;refine .seq ?_;refine .region ?_;refine asd ?_;refine rn ?_;refine .seq ?_;refine .region ?_;refine vk (Aa) ?_;refine vk (Aa) ?_;refine vk (Aq (Rs hz) Tryz.call85) ?_;refine vk (vbi) ?_;refine asd ?_;refine rn ?_;refine .ret ?_
 exact ⟨rfl,rfl⟩
def txA : ByteArray:=⟨#[226,141,180,44,226,141,170,226,134,145,226,134,147,226,140,189,226,138,150,226,141,137,47,226,140,191,92,226,141,128]⟩
example : Hg txA 8854=some true:=by kernel_rfl
example : Hg txA 9076=some true:=by kernel_rfl
example : Hg txA 92=some true:=by kernel_rfl
end Go.FL
namespace Go.FL
open Go Go.Proofs
abbrev Cv : Type:=FW (Arr×Arr×Int) (Arr×Int)
abbrev Du (f:Cv) : Prop:=f.OK Tryz.prog (fun x=>[.ag [.sl (Is x.1.shape),.sl (Its x.1.items)],.ag [.sl (Is x.2.1.shape),.sl (Its x.2.1.items)],.i .i64 x.2.2]) (fun r=>.tup [.d (.ag [.sl (Is r.1.shape),.sl (Its r.1.items)]),.d (.i .i64 r.2)])
def Db (a0:Arr) : Option ((List Int)×Int):=(if 1<((List.length a0.shape:Nat) : Int) then (some ([],4)) else ((GW a0).bind fun x1=>(if x1.2=true then (some (x1.1,0)) else (some ([],3)))))
theorem FE {a0:Arr} {r:(List Int)×Int} (h:Db a0=some r) :
  Fn Tryz.prog 35 [.ag [.sl (Is a0.shape),.sl (Its a0.items)]] (.tup [.d (.sl (Is r.1)),.d (.i .i64 r.2)]):=by
 unfold Db at h
 refine Fn.of (rs:=[.tmp 2,.tmp 3]) (nt:=18) Tryz.func35 rfl rfl rfl (by simp) rfl ?_;refine .sr ?_;refine vk (vbx) ?_;refine asn ?_;refine ar [1,2,3] ?_;refine .seq ?_;refine .sr ?_;refine vk (vfa Ak) ?_;refine vk (Ag AB) ?_;refine vk (AT (Ae _) (A9 _) A6) ?_;refine vk (vbi) ?_;refine rk [1,2,3,9] ?_
 rcases brc h with ⟨hc,h⟩|⟨hc,h⟩
 ·refine cnt (dT hc) ?_
  refine .sr ?_;refine asn ?_;refine ar [1,2,3] ?_;refine .gh (Gh.nlD (t:=2) rfl) ?_;refine .ret ?_
  cases h
  exact ⟨by decide,rfl,rfl,rfl⟩
 refine cnf (dF hc) ?_;refine .skip ?_
 show AW _ _ _ _ _ _
 refine .sr ?_;refine vk (AJ Ac Ab) ?_
 obtain ⟨x1,g1,h⟩:=bnd h
 refine vk (VOK.tupd (vs:=[.sl (Is x1.1),.b x1.2]) (Aq (MP g1) Tryz.call73)) ?_;refine vk (Aa) ?_;refine vk (vex) ?_;refine vk (vex) ?_;refine asd ?_;refine ar [2,3,4,5] ?_;refine .seq ?_;refine .sr ?_;refine vk (Aa) ?_;refine vk (vnt) ?_;refine rk [2,3,4,16] ?_
 rcases brc h with ⟨hc,h⟩|⟨hc,h⟩
 ·refine cnf (ntf hc) ?_
  refine .skip ?_
  show AW _ _ _ _ _ _
  refine .sr ?_;refine vk (Aa) ?_;refine asd ?_;refine ar [2,3] ?_;refine .ret ?_
  cases h
  exact ⟨by decide,rfl,rfl,rfl⟩
 refine cnt (ntt (bf hc)) ?_;refine .sr ?_;refine asn ?_;refine ar [2,3,4] ?_;refine .gh (Gh.nlD (t:=2) rfl) ?_;refine .ret ?_
 cases h
 exact ⟨by decide,rfl,rfl,rfl⟩
def Dr (a0:Arr) (a1:Arr) : Option ((List Int)×Arr×Int):=((Db a0).bind fun x1=>(jn ((if ((List.length x1.1:Nat) : Int)=((List.length a1.shape:Nat) : Int) then (some (x1.1,a1,0)) else (some ([],(Arr.mk [] []),5)))) fun K0=>(if x1.2=0 then (if ((decide (((List.length a1.shape:Nat) : Int)=0))&&(decide (8<((List.length x1.1:Nat) : Int))))=true then (some ([],(Arr.mk [] []),4)) else (if ((List.length a1.shape:Nat) : Int)=0 then none else (K0))) else (some ([],(Arr.mk [] []),x1.2)))))
theorem Gz {a0:Arr} {a1:Arr} {r:(List Int)×Arr×Int} (h:Dr a0 a1=some r) :
  Fn Tryz.prog 74 [.ag [.sl (Is a0.shape),.sl (Its a0.items)],.ag [.sl (Is a1.shape),.sl (Its a1.items)]] (.tup [.d (.sl (Is r.1)),.d (.ag [.sl (Is r.2.1.shape),.sl (Its r.2.1.items)]),.d (.i .i64 r.2.2)]):=by
 unfold Dr at h
 refine Fn.ofA (rs:=[.tmp 4,.cell 5 27,.tmp 6]) (nt:=49) Tryz.func74 rfl rfl rfl (by simp) rfl ?_;refine .sr ?_;refine vk (vbx) ?_;refine vk (vbn) ?_;refine RL.gh2 (Gh.nbb (t:=3) rfl) ?_;refine asn ?_;refine vk (van (Aj Ax) Az) ?_;refine ar [2,3,4,5,6] ?_;refine .sr ?_;refine vk (AJ Ac Ab) ?_
 obtain ⟨x1,g1,h⟩:=bnd h
 refine vk (VOK.tupd (vs:=[.sl (Is x1.1),.i .i64 x1.2]) (Aq (FE g1) Tryz.call35)) ?_;refine vk (Aa) ?_;refine vk (vex) ?_;refine vk (vex) ?_;refine asd ?_;refine ar [3,4,5,6,7,8] ?_
 obtain ⟨K0,hK0,h⟩:=AX h
 refine AW.mj (σ:=Unit) (fun p=>K0=some r) (fun p=>[(3,.bp 0 0),(4,.nl),(5,.nb [.sl (Is []),.sl (Its [])]),(6,.d (.i .i64 0)),(7,.d (.sl (Is x1.1)))]) (fun p=>[HO.box [.d (.sl (Is a1.shape)),.d (.sl (Its a1.items))]]) ?_ ?_
 ·skip
  refine .block ?_;refine .sr ?_;refine vk (Aa) ?_;refine vk (vbi) ?_;refine ar [3,4,5,6,7,8,14] ?_
  rcases brc h with ⟨hc,h⟩|⟨hc,h⟩
  ·refine cnf (ntf (dT hc)) ?_
   refine .seq ?_;refine AW.mr (σ:=Unit) (fun _=>True) (fun _=>[(3,.bp 0 0),(4,.nl),(5,.nb [.sl (Is []),.sl (Its [])]),(6,.d (.i .i64 0)),(7,.d (.sl (Is x1.1))),(19,.d (.b ((decide (((List.length a1.shape:Nat):Int)=0))&&(decide (8<((List.length x1.1:Nat):Int))))))]) (fun _=>[HO.box [.d (.sl (Is a1.shape)),.d (.sl (Its a1.items))]]) ?_ ?_
   ·skip
    refine .region ?_;refine vk (DG Ak) ?_;refine vk (JL (cs:=[.d (.sl (Is a1.shape)),.d (.sl (Its a1.items))]) (c:=.sl (Is a1.shape)) rfl rfl AB) ?_;refine vk (AT (Ae _) (A9 _) A6) ?_;refine vk (vbi) ?_
    by_cases hc:((List.length a1.shape:Nat):Int)=0
    ·have hb0:(decide (((List.length a1.shape:Nat):Int)=0))=true:=(dT hc)
     refine vk (VOK.lit (Aa) hb0) ?_;refine vk (Aa) ?_;refine vk (AT (Ae _) (A9 _) A6) ?_;refine vk (vbi) ?_;refine vk (Ao) ?_;refine asd ?_;refine RL.gk [3,4,5,6,7,19] ?_;refine .nil ?_
     exact jr () trivial (by simp only [hb0];rfl) (by (try simp only [hb0]);rfl)
    have hb0:(decide (((List.length a1.shape:Nat):Int)=0))=false:=(dF hc)
    refine vk (VOK.lit (Aa) hb0) ?_;refine gf ?_;refine gf ?_;refine gf ?_;refine vk (Ao) ?_;refine asd ?_;refine RL.gk [3,4,5,6,7,19] ?_;refine .nil ?_
    exact jr () trivial (by simp only [hb0];rfl) (by (try simp only [hb0]);rfl)
   rintro _ _
   rcases brc h with ⟨hc,h⟩|⟨hc,h⟩
   ·refine cnt hc ?_
    refine .sr ?_;refine vk (vbd BK Ax Az) ?_;refine asn ?_
    refine stn ?_ Ab (by decide)
    refine ar [3,4,5,6,7] ?_;refine .gh (Gh.nlD (t:=4) rfl) ?_;refine .ret ?_
    cases h
    exact ⟨_,_,_,rfl,⟨_,⟨.inr rfl,Ac,Ab,p2⟩,rfl⟩,rfl,rfl⟩
   refine cnf (bf hc) ?_;refine .sr ?_;refine vk (DG Ak) ?_;refine vk (JL (cs:=[.d (.sl (Is a1.shape)),.d (.sl (Its a1.items))]) (c:=.sl (Is a1.shape)) rfl rfl AB) ?_;refine vk (AT (Ae _) (A9 _) A6) ?_;refine vk (vbi) ?_;refine ar [3,4,5,6,7,30] ?_
   rcases brc h with ⟨hc,h⟩|⟨hc,h⟩
   ·refine cnt (dT hc) ?_
    refine .region ?_;refine vk ((Hq (CY [1]) Ct).deep) ?_;refine vk (Aa) ?_;refine vk (AT (Ae _) (A9 _) A6) ?_
    exact nomatch h
   refine cnf (dF hc) ?_;refine .gk [3,4,5,6,7] ?_;refine .skip ?_
   exact jr () h
  refine cnt (ntt (dF hc)) ?_;refine .sr ?_;refine vk (vbd BK Ax Az) ?_;refine vk (Aa) ?_;refine asn ?_
  refine stn ?_ Ab (by decide)
  refine ar [3,4,5,6,7] ?_;refine .gh (Gh.nlD (t:=4) rfl) ?_;refine .ret ?_
  cases h
  exact ⟨_,_,_,rfl,⟨_,⟨.inr rfl,Ac,Ab,p2⟩,rfl⟩,rfl,rfl⟩
 rintro _ h
 subst hK0
 refine .seq ?_;refine .sr ?_;refine vk (Aa) ?_;refine vk (AT (Ae _) (A9 _) A6) ?_;refine vk (DG Ak) ?_;refine vk (JL (cs:=[.d (.sl (Is a1.shape)),.d (.sl (Its a1.items))]) (c:=.sl (Is a1.shape)) rfl rfl AB) ?_;refine vk (AT (Ae _) (A9 _) A6) ?_;refine vk (vbi) ?_;refine rk [3,4,5,6,7,45] ?_
 rcases brc h with ⟨hc,h⟩|⟨hc,h⟩
 ·refine cnf (ntf (dT hc)) ?_
  refine .skip ?_
  show AW _ _ _ _ _ _
  refine .seq ?_;refine .drawnF 2 [1] [(4,.d (.sl (Is x1.1)))] [HO.box [.d (.sl (Is a1.shape)),.d (.sl (Its a1.items))]] A8 (by kernel_rfl) rfl ?_;refine dv (Aa) ?_;refine dv (Gu (cs:=[.d (.sl (Is a1.shape)),.d (.sl (Its a1.items))]) (ds:=[.sl (Is a1.shape),.sl (Its a1.items)]) rfl Ac Ab) ?_;refine dz ?_
  refine ⟨?_,?_,?_⟩
  ·intro k hk
   simp only [List.mem_cons,List.not_mem_nil,or_false] at hk
   subst hk
   exact ⟨_,_,_,rfl,rfl,rfl,rfl,rfl,rfl,(Gu (cs:=[.d (.sl (Is a1.shape)),.d (.sl (Its a1.items))]) (ds:=[.sl (Is a1.shape),.sl (Its a1.items)]) rfl Ac Ab)⟩
  ·intro om e hom hge
   cases hom
   exact TC rfl ((hge 47 (fun k hk v hv=>by
     simp only [List.mem_cons,List.not_mem_nil,or_false] at hk
     subst hk;exact (by decide:¬(some 48=some 47)) (congrArg (Option.map Prod.fst) hv))).trans rfl) rfl ((congrArg An (hge 4 (fun k hk v hv=>by
     simp only [List.mem_cons,List.not_mem_nil,or_false] at hk
     subst hk;exact (by decide:¬(some 48=some 4)) (congrArg (Option.map Prod.fst) hv)))).trans rfl) rfl ⟨rfl,rfl⟩
  refine stn ?_ Ab (by decide)
  refine ar [4,5,6] ?_;refine .ret ?_
  cases h
  exact ⟨_,_,_,rfl,⟨_,⟨.inr rfl,Ac,Ab,p2⟩,rfl⟩,rfl,rfl⟩
 refine cnt (ntt (dF hc)) ?_;refine .sr ?_;refine vk (vbd BK Ax Az) ?_;refine asn ?_
 refine stn ?_ Ab (by decide)
 refine ar [3,4,5,6,7] ?_;refine .gh (Gh.nlD (t:=4) rfl) ?_;refine .ret ?_
 cases h
 exact ⟨_,_,_,rfl,⟨_,⟨.inr rfl,Ac,Ab,p2⟩,rfl⟩,rfl,rfl⟩
def Dj (a0:(List Int)) (c0:Int) (c1:(List Int)) : Option (Int):=((B2 c1 a0).bind fun x1=>(some ((w64 (c0+x1)))))
theorem JD {a0:(List Int)} {c0:Int} {c1:(List Int)} {r:Int} (h:Dj a0 c0 c1=some r) :
  Fn Tryz.prog 78 [.sl (Is a0),.ptr [.i .i64 c0],.ptr [.sl (Is c1)]] (.d (.i .i64 r)):=by
 unfold Dj at h
 refine Fn.o1 4 10 Tryz.func78 ?_;refine .sr ?_;refine ar [0,1,2,4] ?_;refine .seq ?_;refine .drawn 5 A8 (by kernel_rfl) ?_;refine dv (Ag Au) ?_;refine dv (Ag AB) ?_;refine dv (Aa) ?_
 obtain ⟨x1,g1,h⟩:=bnd h
 refine dv (Aq (Dm g1) Tryz.call79) ?_;refine dv (vbi) ?_;refine dz ?_;refine ar [4] ?_;refine .ret ?_
 cases h
 exact ⟨rfl,rfl⟩
def BN (x1:(List Int)×Arr×Int) (x3:(List Int)) (K0:(List Int)→Int→Option (Arr×Int)) : Nat→(List Int)→Int→Int→Option (Arr×Int)
 | 0,_,_,_=>none
 | k+1,s6,s7,s8=>(if s7<((List.length x1.1:Nat):Int) then (jn (fun (z9:(List Int)) (z10:Int)=>(BN x1 x3 K0 k z9 (w64 (s7+1)) z10)) fun K2=>((rd? x1.1 s7).bind fun x11=>((rd? x1.2.1.shape s7).bind fun x12=>(if 0≤x11 then ((rd? x3 s7).bind fun x13=>((rd? s6 s7).bind fun x14=>(K2 (List.set s6 (Int.toNat s7) (w64 (x12-(if x12<x11 then x12 else x11)))) (w64 (s8+(w64 (x13 * (if x12<x11 then x12 else x11)))))))) else ((rd? s6 s7).bind fun x15=>(K2 (List.set s6 (Int.toNat s7) (if (w64 (x12+(if x11<(IntKind.wrap .i64 (0-x12)) then (IntKind.wrap .i64 (0-x12)) else x11)))<0 then 0 else (w64 (x12+(if x11<(IntKind.wrap .i64 (0-x12)) then (IntKind.wrap .i64 (0-x12)) else x11))))) s8)))))) else (K0 s6 s8))
def Da (a0:Arr) (a1:Arr) : Option (Arr×Int):=((Dr a0 a1).bind fun x1=>(if x1.2.2=0 then ((DA (0≤((List.length x1.1:Nat) : Int)∧((List.length x1.1:Nat) : Int)≤17592186044416)).bind fun x2=>((Bi x1.2.1.shape).bind fun x3=>(jn (fun (z4:(List Int)) (z5:Int)=>((Bm x1.2.1 z4 (⟨.fn 78 [] [.ptr [.i .i64 z5],.ptr [.sl (Is x3)]],fun x=>Dj x z5 x3⟩ : Bl)).bind fun x16=>(some (x16.1,x16.2)))) fun K0=>(BN x1 x3 K0 AN (List.replicate (Int.toNat ((List.length x1.1:Nat) : Int)) (0:Int)) 0 0)))) else (some ((Arr.mk [] []),x1.2.2))))
theorem K8 {a0:Arr} {a1:Arr} {r:Arr×Int} (h:Da a0 a1=some r) :
  Fn Tryz.prog 37 [.ag [.sl (Is a0.shape),.sl (Its a0.items)],.ag [.sl (Is a1.shape),.sl (Its a1.items)]] (.tup [.d (.ag [.sl (Is r.1.shape),.sl (Its r.1.items)]),.d (.i .i64 r.2)]):=by
 unfold Da at h
 refine Fn.ofC (rs:=[.cell 4 27,.tmp 5]) (nt:=80) Tryz.func37 rfl rfl rfl (by simp) rfl ?_;refine .sr ?_;refine vk (vbx) ?_;refine vk (vbn) ?_;refine vk (van (Aj Ax) Az) ?_;refine ar [2,3,4,5] ?_;refine .sr ?_;refine vk (AJ Ac Ab) ?_;refine vk (Ei Ac Ab) ?_
 obtain ⟨x1,g1,h⟩:=bnd h
 refine vk (VOK.tupd (vs:=[.sl (Is x1.1),.ag [.sl (Is x1.2.1.shape),.sl (Its x1.2.1.items)],.i .i64 x1.2.2]) (Aq (Gz g1) Tryz.call74)) ?_;refine vk (Aa) ?_;refine vk (vex) ?_;refine vk (vex) ?_;refine vk (vex) ?_;refine asd ?_
 refine stn ?_ Ab (by decide)
 refine ar [3,4,5,6,7] ?_;refine .seq ?_;refine .sr ?_;refine vk (Aa) ?_;refine vk (vbi) ?_;refine rk [3,4,5,6,7,22] ?_
 rcases brc h with ⟨hc,h⟩|⟨hc,h⟩
 ·refine cnf (ntf (dT hc)) ?_
  refine .skip ?_
  show AW _ _ _ _ _ _
  refine .sr ?_;refine vk (Aa) ?_;refine vk (AT (Ae _) (A9 _) A6) ?_
  obtain ⟨x2,g2,h⟩:=bnd h
  have ghx2:=CM g2
  refine mk' (F:=Is) (x0:=0) (zl:=((List.length x1.1:Nat):Int)) (Int.toNat ((List.length x1.1:Nat):Int)) GS (by omega) (by omega) ?_ Ct (by decide)
  refine aso ?_;refine rk [3,4,5,6,8] ?_;refine .sr ?_
  refine al ?_ (Aj T4) (fun w I μ=>SG w I μ)
  refine stb (cs:=[.d (.i .i64 0)]) (c:=.d (.i .i64 0)) rfl rfl ?_ CE
  refine rk [3,4,5,6,8,9] ?_;refine .seq ?_;refine .gh (Gh.nbp (t:=3) rfl) ?_;refine .region ?_;refine vk (vfa Ak) ?_;refine vk (Ag AB) ?_
  obtain ⟨x3,g3,h⟩:=bnd h
  refine vk (Aq (Bt g3) Tryz.call75) ?_;refine vk (van (Aj Iq) LZ) ?_
  refine P8 ?_ Hv
  refine RL.gh (Gh.nbp (t:=10) rfl) ?_;refine rk [3,4,5,6,8,9,10] ?_;refine .seq ?_;refine .sr ?_;refine vk (Aa) ?_;refine vk (AT (Ae _) (A9 _) A6) ?_;refine vk (Aa) ?_;refine rk [3,4,5,8,9,10,31,32,33] ?_
  obtain ⟨K0,hK0,h⟩:=AX h
  refine AW.mr (σ:=(List Int)×Int) (fun p=>K0 p.1 p.2=some r) (fun p=>[(3,.d (.ptr [.sl (Is x1.2.1.shape),.sl (Its x1.2.1.items)])),(4,.nb [.sl (Is []),.sl (Its [])]),(5,.d (.i .i64 0)),(8,.own 3 (Is p.1)),(9,.bp 0 0),(10,.d (.ptr [.sl (Is x3)]))]) (fun p=>[HO.box [.d (.i .i64 p.2)]]) ?_ ?_
  ·skip
   refine .block ?_
   refine .loop (.gk [3,4,5,8,9,10,31,32,33] ?_)
   refine AL.ind (σ:=Nat×(List Int)×Int×Int) (m:=fun p=>p.1) (e:=fun p=>[(3,.d (.ptr [.sl (Is x1.2.1.shape),.sl (Its x1.2.1.items)])),(4,.nb [.sl (Is []),.sl (Its [])]),(5,.d (.i .i64 0)),(8,.own 3 (Is p.2.1)),(9,.bp 0 0),(10,.d (.ptr [.sl (Is x3)])),(31,.d (.sl (Is x1.1))),(32,.d (.i .i64 ((List.length x1.1:Nat):Int))),(33,.d (.i .i64 p.2.2.1))]) (h:=fun p=>[HO.box [.d (.i .i64 p.2.2.2)]]) (I:=fun p=>BN x1 x3 K0 p.1 p.2.1 p.2.2.1 p.2.2.2=some r) ?_ (AN,(List.replicate (Int.toNat ((List.length x1.1:Nat):Int)) (0:Int)),0,0) h
   rintro ⟨k,s6,s7,s8⟩ h ih
   dsimp only at h ih ⊢
   rcases k with _|k
   ·rw [BN] at h;cases h
   rw [BN] at h
   refine .sr ?_;refine vk (vbi) ?_;refine rk [3,4,5,8,9,10,31,32,33,34] ?_;refine .seq ?_
   rcases brc h with ⟨hc,h⟩|⟨hc,h⟩
   ·refine cnt (dT hc) ?_
    refine .skip ?_
    show AW _ _ _ _ _ _
    obtain ⟨K2,hK2,h⟩:=AX h
    refine AW.mj (σ:=(List Int)×Int) (fun p=>K2 p.1 p.2=some r) (fun p=>[(3,.d (.ptr [.sl (Is x1.2.1.shape),.sl (Its x1.2.1.items)])),(4,.nb [.sl (Is []),.sl (Its [])]),(5,.d (.i .i64 0)),(8,.own 3 (Is p.1)),(9,.bp 0 0),(10,.d (.ptr [.sl (Is x3)])),(31,.d (.sl (Is x1.1))),(32,.d (.i .i64 ((List.length x1.1:Nat):Int))),(33,.d (.i .i64 s7))]) (fun p=>[HO.box [.d (.i .i64 p.2)]]) ?_ ?_
    ·skip
     refine .block ?_;refine .sr ?_;refine vk (Aa) ?_
     obtain ⟨x11,g11,h⟩:=bnd h
     obtain ⟨n11,p011,q11⟩:=Ah g11
     refine vk (vix n11 p011 (AZ q11) rfl AS) ?_;refine vk (Ag Au) ?_;refine asd ?_;refine ar [3,4,5,8,9,10,11,12,31,32,33] ?_;refine .sr ?_;refine vk (vfa Ak) ?_;refine vk (Ag AB) ?_;refine vk (Aa) ?_
     obtain ⟨x12,g12,h⟩:=bnd h
     obtain ⟨n12,p012,q12⟩:=Ah g12
     refine vk (vix n12 p012 (AZ q12) rfl AS) ?_;refine vk (Ag Au) ?_;refine ar [3,4,5,8,9,10,11,12,13,31,32,33] ?_;refine .sr ?_;refine vk (Aa) ?_;refine vk (vbi) ?_;refine rk [3,4,5,8,9,10,11,12,13,31,32,33,44] ?_
     rcases brc h with ⟨hc,h⟩|⟨hc,h⟩
     ·refine cnt (dT hc) ?_
      refine .seq ?_;refine .drawn 10 A8 (by kernel_rfl) ?_;refine dv (JL (cs:=[.d (.i .i64 s8)]) (c:=.i .i64 s8) rfl rfl Au) ?_;refine dv (Ag AB) ?_;refine dv (Aa) ?_
      obtain ⟨x13,g13,h⟩:=bnd h
      obtain ⟨n13,p013,q13⟩:=Ah g13
      refine dv (vix n13 p013 (AZ q13) rfl AS) ?_;refine dv (Ag Au) ?_;refine dv (Aa) ?_;refine dv (Aa) ?_;refine dv (vmn) ?_;refine dv (vbi) ?_;refine dv (vbi) ?_;refine dz ?_
      refine stb (cs:=[.d (.i .i64 s8)]) (c:=.d (.i .i64 s8)) rfl rfl ?_ CE
      refine rk [3,4,5,8,9,10,11,12,13,31,32,33] ?_;refine .region ?_;refine mvo ?_;refine vk (Aa) ?_;refine vk (Aa) ?_;refine vk (Aa) ?_;refine vk (Aa) ?_;refine vk (vmn) ?_;refine vk (vbi) ?_
      obtain ⟨x14,g14,h⟩:=bnd h
      obtain ⟨n14,p014,q14⟩:=Ah g14
      refine ixr (off:=0) (len:=(Is s6).length) n14 p014 (by rw [Ae];exact (lS.1 q14).1) ?_ AS (by decide)
      refine JO (F:=Is) (D:=fun x=>.i .i64 x) EO (us:=s6) (n:=n14) (m:=Int.toNat s7) (x:=(w64 (x12-(if x12<x11 then x12 else x11)))) (by rw [p014];rfl) ⟨_,by rw [Nat.zero_add];exact AZ q14,rfl⟩ ?_ CE
      refine RL.gk [3,4,5,8,9,10,11,12,13,31,32,33,56,57,58,59,60,61] ?_;refine RL.gk [3,4,5,8,9,10,31,32,33] ?_;refine .nil ?_
      exact jr ((List.set s6 (Int.toNat s7) (w64 (x12-(if x12<x11 then x12 else x11)))),(w64 (s8+(w64 (x13 * (if x12<x11 then x12 else x11)))))) h
     refine cnf (dF hc) ?_;refine .region ?_;refine mvo ?_;refine vk (Aa) ?_;refine vk (Aa) ?_;refine vk (Aa) ?_;refine vk (Aa) ?_;refine vk (vng) ?_;refine vk (vmx) ?_;refine vk (vbi) ?_;refine vk (vmx) ?_
     obtain ⟨x15,g15,h⟩:=bnd h
     obtain ⟨n15,p015,q15⟩:=Ah g15
     refine ixr (off:=0) (len:=(Is s6).length) n15 p015 (by rw [Ae];exact (lS.1 q15).1) ?_ AS (by decide)
     refine JO (F:=Is) (D:=fun x=>.i .i64 x) EO (us:=s6) (n:=n15) (m:=Int.toNat s7) (x:=(if (w64 (x12+(if x11<(IntKind.wrap .i64 (0-x12)) then (IntKind.wrap .i64 (0-x12)) else x11)))<0 then 0 else (w64 (x12+(if x11<(IntKind.wrap .i64 (0-x12)) then (IntKind.wrap .i64 (0-x12)) else x11))))) (by rw [p015];rfl) ⟨_,by rw [Nat.zero_add];exact AZ q15,rfl⟩ ?_ CE
     refine RL.gk [3,4,5,8,9,10,11,12,13,31,32,33,44,64,65,66,67,68,69,70,71] ?_;refine RL.gk [3,4,5,8,9,10,31,32,33] ?_;refine .nil ?_
     exact jr ((List.set s6 (Int.toNat s7) (if (w64 (x12+(if x11<(IntKind.wrap .i64 (0-x12)) then (IntKind.wrap .i64 (0-x12)) else x11)))<0 then 0 else (w64 (x12+(if x11<(IntKind.wrap .i64 (0-x12)) then (IntKind.wrap .i64 (0-x12)) else x11))))),s8) h
    rintro ⟨z9,z10⟩ h
    try dsimp only at h ⊢
    subst hK2
    refine .region ?_;refine vk (vbi) ?_;refine vk (Aa) ?_;refine .nil ?_;refine AL.gk [3,4,5,8,9,10,31,32,33] ?_
    exact ih (k,z9,(w64 (s7+1)),z10) h (Nat.lt_succ_self _)
   refine cnf (dF hc) ?_;refine .gk [3,4,5,8,9,10] ?_;refine .exit ?_
   exact jr (s6,s8) h
  rintro ⟨z4,z5⟩ h
  try dsimp only at h ⊢
  subst hK0
  show AW _ _ _ _ _ _
  refine .sr ?_;refine vk (AJ Ac Ab) ?_;refine fz (p:=.t 8) ?_;refine vk (Aa) ?_;refine RL.gh2 (Gh2.pop (H0:=[]) (cs:=[.i .i64 z5]) rfl rfl rfl rfl) ?_;refine vk (PM) ?_
  obtain ⟨x16,g16,h⟩:=bnd h
  refine vk (VOK.tupd (vs:=[.ag [.sl (Is x16.1.shape),.sl (Its x16.1.items)],.i .i64 x16.2]) (Aq (Eb (D6 Tryz.call78 (fun _ _ h=>JD h)) g16) Tryz.call76)) ?_;refine vk (vex) ?_;refine vk (vex) ?_
  refine stn ?_ Ab (by decide)
  refine ar [4,5] ?_;refine .ret ?_
  cases h
  exact ⟨_,_,⟨.inr rfl,Ac,Ab,p2⟩,rfl,rfl⟩
 refine cnt (ntt (dF hc)) ?_;refine .sr ?_;refine vk (vbd BK Ax Az) ?_;refine vk (Aa) ?_
 refine stn ?_ Ab (by decide)
 refine ar [3,4,5,6] ?_;refine .ret ?_
 cases h
 exact ⟨_,_,⟨.inr rfl,Ac,Ab,p2⟩,rfl,rfl⟩
def CO (x2:Int×Bool) (x4:Int) (K0:(List Int)→Option (Arr×Int)) : Nat→(List Int)→Int→Option (Arr×Int)
 | 0,_,_=>none
 | k+1,s7,s8=>(if s8<((List.length (List.replicate (Int.toNat x4) (0:Int)):Nat):Int) then ((DA (x4≠0)).bind fun x9=>((DA (x4≠0)).bind fun x10=>((DA (x4≠0)).bind fun x11=>((rd? s7 s8).bind fun x12=>(CO x2 x4 K0 k (List.set s7 (Int.toNat s8) (Int.tmod (w64 ((Int.tmod (w64 (s8+(Int.tmod x2.1 x4))) x4)+x4)) x4)) (w64 (s8+1))))))) else (K0 s7))
def EI (a0:Arr) (a1:Arr) (a2:Int) : Option (Arr×Int):=((BZ a0.shape).bind fun x1=>(if x1.1=1 then ((GQ a0).bind fun x2=>(if x2.2=true then (if ((List.length a1.shape:Nat) : Int)=0 then ((Gb a1).bind fun x3=>(some (x3,0))) else ((rd? a1.shape a2).bind fun x4=>((DA (0≤x4∧x4≤17592186044416)).bind fun x5=>(jn (fun (z6:(List Int))=>((Fg a1 a2 z6).bind fun x13=>(some (x13.1,x13.2)))) fun K0=>(CO x2 x4 K0 AN (List.replicate (Int.toNat x4) (0:Int)) 0))))) else (some ((Arr.mk [] []),3)))) else (some ((Arr.mk [] []),5))))
theorem FH {a0:Arr} {a1:Arr} {a2:Int} {r:Arr×Int} (h:EI a0 a1 a2=some r) :
  Fn Tryz.prog 82 [.ag [.sl (Is a0.shape),.sl (Its a0.items)],.ag [.sl (Is a1.shape),.sl (Its a1.items)],.i .i64 a2] (.tup [.d (.ag [.sl (Is r.1.shape),.sl (Its r.1.items)]),.d (.i .i64 r.2)]):=by
 unfold EI at h
 refine Fn.ofC (rs:=[.cell 6 27,.tmp 7]) (nt:=73) Tryz.func82 rfl rfl rfl (by simp) rfl ?_;refine .sr ?_;refine vk (vbx) ?_;refine vk (vbx) ?_;refine vk (van (Aj Ax) Az) ?_;refine ar [2,3,4,6,7] ?_;refine .seq ?_;refine .sr ?_;refine vk (vfa Ak) ?_;refine vk (Ag AB) ?_
 obtain ⟨x1,g1,h⟩:=bnd h
 refine vk (VOK.tupd (vs:=[.i .i64 x1.1,.i .i64 x1.2]) (Aq (Ci g1) Tryz.call26)) ?_;refine vk (Aa) ?_;refine vk (vex) ?_;refine vk (vex) ?_;refine asd ?_;refine ar [2,3,4,6,7,8] ?_;refine .sr ?_;refine vk (Aa) ?_;refine vk (vbi) ?_;refine rk [2,3,4,6,7,22] ?_
 rcases brc h with ⟨hc,h⟩|⟨hc,h⟩
 ·refine cnf (ntf (dT hc)) ?_
  refine .skip ?_
  show AW _ _ _ _ _ _
  refine .sr ?_;refine vk (AJ Ac Ab) ?_
  obtain ⟨x2,g2,h⟩:=bnd h
  refine vk (VOK.tupd (vs:=[.i .i64 x2.1,.b x2.2]) (Aq (J6 g2) Tryz.call133)) ?_;refine vk (Aa) ?_;refine vk (vex) ?_;refine vk (vex) ?_;refine asd ?_;refine ar [2,4,6,7,10,11] ?_;refine .seq ?_;refine .block ?_;refine .sr ?_;refine vk (Aa) ?_;refine vk (vnt) ?_;refine ar [2,4,6,7,10,29] ?_
  rcases brc h with ⟨hc,h⟩|⟨hc,h⟩
  ·refine cnf (ntf hc) ?_
   refine .sr ?_;refine vk (vfa Ak) ?_;refine vk (Ag AB) ?_;refine vk (AT (Ae _) (A9 _) A6) ?_;refine vk (vbi) ?_;refine ar [2,4,6,7,10,33] ?_
   rcases brc h with ⟨hc,h⟩|⟨hc,h⟩
   ·refine cnt (dT hc) ?_
    refine .sr ?_;refine vk (AJ Ac Ab) ?_
    obtain ⟨x3,g3,h⟩:=bnd h
    refine vk (Aq (Hr g3) Tryz.call134) ?_
    refine stn ?_ Ab (by decide)
    refine ar [2,4,6,7,10] ?_;refine .ret ?_
    cases h
    exact ⟨_,_,⟨.inr rfl,Ac,Ab,p2⟩,rfl,rfl⟩
   refine cnf (dF hc) ?_;refine .skip ?_
   show AW _ _ _ _ _ _
   refine .sr ?_;refine vk (vfa Ak) ?_;refine vk (Ag AB) ?_;refine vk (Aa) ?_
   obtain ⟨x4,g4,h⟩:=bnd h
   obtain ⟨n4,p04,q4⟩:=Ah g4
   refine vk (vix n4 p04 (AZ q4) rfl AS) ?_;refine vk (Ag Au) ?_;refine ar [2,4,6,7,10,12] ?_;refine .sr ?_;refine vk (Aa) ?_
   obtain ⟨x5,g5,h⟩:=bnd h
   have ghx5:=CM g5
   refine mk' (F:=Is) (x0:=0) (zl:=x4) (Int.toNat x4) GS (by omega) (by omega) ?_ Ct (by decide)
   refine aso ?_;refine rk [2,4,6,7,10,12,13] ?_;refine .seq ?_;refine .sr ?_;refine mvo ?_;refine vk (S5 (Ae _) A6) ?_;refine vk (Aa) ?_;refine rk [2,4,6,7,10,12,13,48,49] ?_
   obtain ⟨K0,hK0,h⟩:=AX h
   refine AW.mr (σ:=(List Int)) (fun p=>K0 p=some r) (fun p=>[(2,.d (.i .i64 a2)),(4,.d (.ptr [.sl (Is a1.shape),.sl (Its a1.items)])),(6,.nb [.sl (Is []),.sl (Its [])]),(7,.d (.i .i64 0)),(13,.own 3 (Is p))]) (fun p=>[]) ?_ ?_
   ·skip
    refine .block ?_
    refine .loop (.gk [2,4,6,7,10,12,13,48,49] ?_)
    refine AL.ind (σ:=Nat×(List Int)×Int) (m:=fun p=>p.1) (e:=fun p=>[(2,.d (.i .i64 a2)),(4,.d (.ptr [.sl (Is a1.shape),.sl (Its a1.items)])),(6,.nb [.sl (Is []),.sl (Its [])]),(7,.d (.i .i64 0)),(10,.d (.i .i64 x2.1)),(12,.d (.i .i64 x4)),(13,.own 3 (Is p.2.1)),(48,.d (.i .i64 ((List.length (List.replicate (Int.toNat x4) (0:Int)):Nat):Int))),(49,.d (.i .i64 p.2.2))]) (h:=fun p=>[]) (I:=fun p=>CO x2 x4 K0 p.1 p.2.1 p.2.2=some r) ?_ (AN,(List.replicate (Int.toNat x4) (0:Int)),0) h
    rintro ⟨k,s7,s8⟩ h ih
    dsimp only at h ih ⊢
    rcases k with _|k
    ·rw [CO] at h;cases h
    rw [CO] at h
    refine .sr ?_;refine vk (vbi) ?_;refine rk [2,4,6,7,10,12,13,48,49,50] ?_;refine .seq ?_
    rcases brc h with ⟨hc,h⟩|⟨hc,h⟩
    ·refine cnt (dT hc) ?_
     refine .skip ?_
     show AW _ _ _ _ _ _
     refine .seq ?_;refine .block ?_;refine .sr ?_;refine vk (Aa) ?_;refine ar [2,4,6,7,10,12,13,14,48,49] ?_;refine .region ?_;refine mvo ?_;refine vk (Aa) ?_;refine vk (Aa) ?_;refine vk (Aa) ?_;refine vk (Aa) ?_
     obtain ⟨x9,g9,h⟩:=bnd h
     refine vk (Jh (CM g9)) ?_;refine vk (vbi) ?_;refine vk (Aa) ?_
     obtain ⟨x10,g10,h⟩:=bnd h
     refine vk (Jh (CM g10)) ?_;refine vk (Aa) ?_;refine vk (vbi) ?_;refine vk (Aa) ?_
     obtain ⟨x11,g11,h⟩:=bnd h
     refine vk (Jh (CM g11)) ?_
     obtain ⟨x12,g12,h⟩:=bnd h
     obtain ⟨n12,p012,q12⟩:=Ah g12
     refine ixr (off:=0) (len:=(Is s7).length) n12 p012 (by rw [Ae];exact (lS.1 q12).1) ?_ AS (by decide)
     refine JO (F:=Is) (D:=fun x=>.i .i64 x) EO (us:=s7) (n:=n12) (m:=Int.toNat s8) (x:=(Int.tmod (w64 ((Int.tmod (w64 (s8+(Int.tmod x2.1 x4))) x4)+x4)) x4)) (by rw [p012];rfl) ⟨_,by rw [Nat.zero_add];exact AZ q12,rfl⟩ ?_ CE
     refine RL.gk [2,4,6,7,10,12,13,14,48,49,53,54,55,56,57,58,59,60,61,62,63,64] ?_;refine .nil ?_
     show AW _ _ _ _ _ _
     refine .gk [2,4,6,7,10,12,13,48,49] ?_;refine .region ?_;refine vk (vbi) ?_;refine vk (Aa) ?_;refine .nil ?_;refine AL.gk [2,4,6,7,10,12,13,48,49] ?_
     exact ih (k,(List.set s7 (Int.toNat s8) (Int.tmod (w64 ((Int.tmod (w64 (s8+(Int.tmod x2.1 x4))) x4)+x4)) x4)),(w64 (s8+1))) h (Nat.lt_succ_self _)
    refine cnf (dF hc) ?_;refine .gk [2,4,6,7,13] ?_;refine .exit ?_
    exact jr (s7) h
   rintro z6 h
   try dsimp only at h ⊢
   subst hK0
   show AW _ _ _ _ _ _
   refine .sr ?_;refine vk (AJ Ac Ab) ?_;refine vk (Aa) ?_;refine fz (p:=.t 13) ?_;refine vk (Aa) ?_
   obtain ⟨x13,g13,h⟩:=bnd h
   refine vk (VOK.tupd (vs:=[.ag [.sl (Is x13.1.shape),.sl (Its x13.1.items)],.i .i64 x13.2]) (Aq (GU g13) Tryz.call135)) ?_;refine vk (vex) ?_;refine vk (vex) ?_
   refine stn ?_ Ab (by decide)
   refine ar [6,7] ?_;refine .ret ?_
   cases h
   exact ⟨_,_,⟨.inr rfl,Ac,Ab,p2⟩,rfl,rfl⟩
  refine cnt (ntt (bf hc)) ?_;refine .sr ?_;refine vk (vbd BK Ax Az) ?_
  refine stn ?_ Ab (by decide)
  refine ar [2,4,6,7,10] ?_;refine .ret ?_
  cases h
  exact ⟨_,_,⟨.inr rfl,Ac,Ab,p2⟩,rfl,rfl⟩
 refine cnt (ntt (dF hc)) ?_;refine .sr ?_;refine vk (vbd BK Ax Az) ?_
 refine stn ?_ Ab (by decide)
 refine ar [2,3,4,6,7] ?_;refine .ret ?_
 cases h
 exact ⟨_,_,⟨.inr rfl,Ac,Ab,p2⟩,rfl,rfl⟩
theorem Lv {xs:List Arr} {f:BA} {p:Arr→Bool} (hf:∀ x∈xs,f.g x=some (p x)) (K:Int→Option Int) (hl:xs.length≤17592186044416) : ∀ (n i k:Nat) (s:Int),n=xs.length-i→i≤xs.length→n<k →
  Av xs f K k s (i:Int)=match (xs.drop i).findIdx? p with|some j=>some (((i+j:Nat)):Int)|none=>K s
 | n,i,0,s,_,_,h=>by omega
 | n,i,k+1,s,hn,hi,hk=>by
  rw [Av]
  by_cases hlt:i<xs.length
  ·rw [if_pos (by omega),Cz hlt,oB,hf _ (List.getElem_mem _),oB,lC hlt,List.findIdx?_cons]
   by_cases hp:p xs[i]=true
   ·rw [if_pos hp,if_pos hp];rfl
   ·rw [if_neg hp,if_neg hp,CB (by omega),Lv hf K hl (n-1) (i+1) k s (by omega) (by omega) (by omega)]
    cases (xs.drop (i+1)).findIdx? p with
    | none=>rfl
    | some j=>simp only [Option.map_some];congr 1;omega
  ·rw [if_neg (by omega),List.drop_of_length_le (by omega)];rfl
theorem KX {xs:List Arr} {f:BA} {p:Arr→Bool} (hf:∀ x∈xs,f.g x=some (p x)) (hl:xs.length≤17592186044416) : AA xs f=some (xs.any p):=by
 unfold AA A3
 rw [B9]
 have:=Lv hf (fun _=>some (-1)) hl xs.length 0 AN 0 rfl (Nat.zero_le _) (Cw (by omega))
 rw [List.drop_zero,show ((0:Nat):Int)=0 from rfl] at this
 rw [this]
 cases h:xs.findIdx? p with
 | none =>
  rw [oB]
  have h1:=List.findIdx?_eq_none_iff.1 h
  have e:xs.any p=false:=List.any_eq_false.2 fun x hx=>by rw [h1 x hx];decide
  rw [e];rfl
 | some j =>
  rw [oB]
  congr 1
  have h2:xs.any p=true:=by
   have:=List.findIdx?_isSome (xs:=xs) (p:=p)
   rw [h] at this
   exact this.symm
  rw [h2]
  exact dT (by omega)
theorem Ow {e:Int×RT×Int} (he:e.1=0∨e.1=1) {l:List Arr} (hl:l.length≤17592186044416) (ho:∀ a∈l,okAr a) : Dp e l=some (!l.any fun a=>!decide (Be a)):=by
 have hc:=KX (xs:=l) (f:=(⟨.fn 72 [] [],fun x=>CI x⟩:BA)) (p:=fun a=>!decide (Be a)) (fun a ha=>by
  show CI a=_
  unfold CI;rw [GI (ho a ha)];rfl) hl
 unfold Dp
 rcases he with h|h
 ·rw [if_pos h,hc];rfl
 ·rw [if_neg (by omega),if_pos h,hc];rfl
theorem J3 {p:Prop} [Decidable p] (h:p) : DA p=some ():=if_pos h
def vec (xs:List Itm) : Arr:=.mk [(xs.length:Int)] xs
def VR (xs:List Itm) : Prop:=xs≠[]∧xs.length≤4096∧(∀ x∈xs,okI x)∧Be (vec xs)
theorem HU {n:Int} {xs:List Itm} : A7 (.mk [n] xs)=false:=by unfold A7;rfl
theorem Su {xs ys:List Itm} (h:ys.Sublist xs) : cIs ys≤cIs xs:=by
 induction h with
 | slnil=>exact Nat.le_refl _
 | cons a _ ih=>simp only [cIs];omega
 | cons_cons a _ ih=>simp only [cIs];omega
theorem RK {xs ys:List Itm} (h:∀ x∈ys,x∈xs) : dIs ys≤dIs xs:=To fun x hx=>Je (h x hx)
theorem VR.ok {xs:List Itm} (h:VR xs) : okAr (vec xs):=by
 obtain ⟨_,h2,h3,_⟩:=h
 rw [BI]
 refine ⟨fun z hz=>?_,by show [(xs.length:Int)].length≤_;simp,by show xs.length≤_;omega,h3⟩
 have hz':z∈[(xs.length:Int)]:=hz
 rw [List.mem_singleton] at hz'
 omega
theorem VR.items {xs:List Itm} (h:VR xs) : ∀ x∈xs,okI x∧Cs x:=fun x hx=>GK h.ok h.2.2.2 (x:=x) hx
theorem VR.sz {xs:List Itm} (h:VR xs) : szP (vec xs).shape=((xs.length:Int),0):=H6 h.2.1
theorem VR.pos {xs:List Itm} (h:VR xs) : 0<xs.length:=List.length_pos_iff.2 h.1
theorem QF {n:Nat} (h:n≤4096) : ∀ z∈[(n:Int)],-9223372036854775808≤z∧z≤9223372036854775807:=fun z hz=>by
 rw [List.mem_singleton] at hz;omega
theorem VR.make {xs:List Itm} (h:VR xs) : AF [(xs.length:Int)] xs=some (vec xs,0):=by
 obtain ⟨h1,h2,h3,h4⟩:=h
 have hs:=H6 h2
 have hp:=List.length_pos_iff.2 h1
 have hc:¬(xs=[]∨¬∀ x∈xs,Cs x):=fun q=>q.elim h1 fun q=>q fun x hx=>(VR.items ⟨h1,h2,h3,h4⟩ x hx).2
 rw [Hb (QF h2) (by simp) (by omega) h3,hs,if_neg (fun q=>q rfl),if_neg hc,ID rfl (by omega),if_pos (show Be (Arr.mk [(xs.length:Int)] xs) from h4)];rfl
theorem Lg {xs:List Itm} {a:Arr} (hx:∀ x∈xs,okI x) (hl:xs.length≤1466015503701) (h:AF [(xs.length:Int)] xs=some (a,0)) : VR xs∧a=vec xs:=by
 rw [Hb (fun z hz=>by rw [List.mem_singleton] at hz;omega) (by simp) hl hx] at h
 by_cases h0:(szP [(xs.length:Int)]).2=0
 rotate_left
 ·rw [if_pos h0] at h
  exact absurd (congrArg Prod.snd (oI h)) h0
 have hd:=(Oq h0).1 _ (List.mem_singleton.2 rfl)
 have hs:=H6 (n:=xs.length) (by omega)
 rw [if_neg (fun q=>q h0)] at h
 by_cases hc:xs=[]∨¬∀ x∈xs,Cs x
 ·rw [if_pos hc] at h
  exact absurd (congrArg Prod.snd (oI h)) (by show ¬(22:Int)=0;decide)
 rw [if_neg hc,hs] at h
 have h1:xs≠[]:=fun e=>hc (.inl e)
 have hp:=List.length_pos_iff.2 h1
 rw [ID rfl (by omega)] at h
 by_cases hr:Be (.mk [(xs.length:Int)] xs)
 ·rw [if_pos hr] at h
  exact ⟨⟨h1,by omega,hx,hr⟩,(congrArg Prod.fst (oI h)).symm⟩
 ·rw [if_neg hr] at h
  exact absurd (congrArg Prod.snd (oI h)) (by show ¬(8:Int)=0;decide)
theorem VR.of {xs:List Itm} (h1:xs≠[]) (h2:xs.length≤4096) (h3:∀ x∈xs,okI x∧rI x=true) (hd:dIs xs≤15) (hc:xs.length+cIs xs≤16384) : VR xs:=by
 refine ⟨h1,h2,fun x hx=>(h3 x hx).1,?_,?_,?_⟩
 ·rw [Hw]
  show (decide ((szP [(xs.length:Int)]).2=0)&&(decide ((xs.length:Int)=if (szP [(xs.length:Int)]).1<1 then 1 else (szP [(xs.length:Int)]).1)&&rIs xs))=true
  have hp:=List.length_pos_iff.2 h1
  rw [H6 h2,ED.2 fun x hx=>(h3 x hx).2,if_neg (by show ¬(xs.length:Int)<1;omega)]
  simp
 ·rw [Hz]
  show (if A7 (.mk [(xs.length:Int)] xs)=true then 0 else 1+dIs xs)≤16
  rw [HU,if_neg (by decide)];omega
 ·rw [GG];exact hc
theorem VR.parts {xs:List Itm} (h:VR xs) : dIs xs≤15∧xs.length+cIs xs≤16384:=by
 obtain ⟨_,_,_,_,h2,h3⟩:=h
 rw [Hz] at h2
 have h2':(if A7 (.mk [(xs.length:Int)] xs)=true then 0 else 1+dIs xs)≤16:=h2
 rw [HU,if_neg (by decide)] at h2'
 rw [GG] at h3
 have h3':xs.length+cIs xs≤16384:=h3
 omega
theorem VR.sub {xs ys:List Itm} (h:VR xs) (hs:ys.Sublist xs) (hn:ys≠[]) : VR ys:=by
 obtain ⟨p1,p2⟩:=h.parts
 have hl:=hs.length_le
 have hc:=Su hs
 have h2:=h.2.1
 exact .of hn (by omega) (fun x hx=>⟨(h.items x (hs.subset hx)).1,(h.items x (hs.subset hx)).2.1⟩) (nT (RK fun x hx=>hs.subset hx) p1) (by omega)
theorem VR.zero {xs:List Itm} (h:VR xs) : AF [0] [tyI (xs.headD default)]=some (.mk [0] [tyI (xs.headD default)],0)∧okAr (.mk [0] [tyI (xs.headD default)])∧Be (.mk [0] [tyI (xs.headD default)]):=by
 obtain ⟨p1,p2⟩:=h.parts
 obtain ⟨x,ys,rfl⟩:=List.exists_cons_of_ne_nil h.1
 obtain ⟨ox,rx⟩:=h.items x (by simp)
 obtain ⟨t1,t2,t3,t4,t5,t6⟩:=N1 ox rx.1
 have hI:okI (tyI x)∧Cs (tyI x):=⟨t6,t1,t2▸rx.2.1,t3▸rx.2.2⟩
 have hsz:szP [0]=(0,0):=rfl
 have hmk:Cq (szP [0]).1 [tyI x]=[tyI x]:=by
  rw [hsz];show [tyI (tyI x)]=_;rw [t4]
 have hd:dI x≤15:=nT (Je (List.mem_cons_self ..)) p1
 have hcx:1+cI x≤16384:=by
  have:cIs (x::ys)=cI x+cIs ys:=rfl
  rw [this,List.length_cons] at p2;omega
 have hR:Be (.mk [0] [tyI x]):=by
  refine ⟨?_,?_,?_⟩
  ·rw [Hw,D8,Dt,hsz,ED.2 (by simpa using t1)];rfl
  ·rw [Hz,HU,if_neg (by decide),Dt,dIs,dIs,Nat.max_zero,t2];omega
  ·rw [GG,Dt];simp only [cIs,List.length_singleton];omega
 have hc:¬([tyI x]=[]∨¬∀ y∈[tyI x],Cs y):=fun q=>q.elim (fun e=>by cases e) fun q=>q fun y hy=>by rw [List.mem_singleton] at hy;subst hy;exact hI.2
 refine ⟨?_,?_,hR⟩
 ·show AF [0] [tyI x]=some (.mk [0] [tyI x],0)
  rw [Hb (fun z hz=>by rw [List.mem_singleton] at hz;omega) (by simp) (by simp) (fun y hy=>by rw [List.mem_singleton] at hy;subst hy;exact hI.1),hmk,if_neg (by rw [hsz];exact fun q=>q rfl),if_neg hc,if_pos hR]
 ·show okAr (.mk [0] [tyI x])
  rw [BI]
  exact ⟨fun z hz=>by rw [D8,List.mem_singleton] at hz;omega,by simp [D8],by simp [Dt],fun y hy=>by rw [Dt,List.mem_singleton] at hy;subst hy;exact hI.1⟩
theorem KO {z:Int} (hz:Kz z) : okAr (.mk [] [GB z])∧Be (.mk [] [GB z]):=⟨Ug (SH hz),(Mm (Oh hz) rfl (by show (1:Int)≠3;decide)).1⟩
theorem L5 {z:Int} (h:Kz z) : GW (.mk [] [GB z])=some ([z],true):=by
 obtain ⟨on,rn⟩:=KO h
 unfold GW Sl
 rw [GI on,oB,dT rn,if_pos rfl,if_pos (by simp [D8]),Qw on,D8,Pi,if_neg (by rintro (q|q);exact absurd q (by decide);exact q rn),Dt,oB,if_pos (by simp)]
 have:=Ll (l:=[z]) (s:=[]) (by simpa using h) (by simp)
 rw [List.map_singleton] at this
 rw [this];rfl
theorem Nj {z:Int} (h:Kz z) : Db (.mk [] [GB z])=some ([z],0):=by
 unfold Db
 rw [D8,if_neg (by simp),L5 h];rfl
theorem Li {z n:Int} {xs:List Itm} (h:Kz z) : Dr (.mk [] [GB z]) (.mk [n] xs)=some ([z],.mk [n] xs,0):=by
 unfold Dr
 rw [Nj h,oB,B9,if_pos rfl,D8]
 rfl
theorem PD {n:Nat} {xs:List Itm} {z:Nat} (hL:n≤4096) (hz:z≤1000) (K:List Int→Int→Option (Arr×Int)) (k:Nat) :
  BN ([(z:Int)],.mk [(n:Int)] xs,0) [1] K (k+2) [0] 0 0=K [((n-min z n:Nat):Int)] ((min z n:Nat):Int):=by
 rw [BN,if_pos (by simp),B9,Fd,oB,D8,Fd,oB,if_pos (by omega),Fd,oB,Fd,oB]
 have e:(if (n:Int)<(z:Int) then (n:Int) else (z:Int))=((min z n:Nat):Int):=by
  by_cases q:(n:Int)<(z:Int)
  ·rw [if_pos q];omega
  ·rw [if_neg q];omega
 have a1:w64 (1 * ((min z n:Nat):Int))=((min z n:Nat):Int):=by rw [Int.one_mul];exact Bk (by omega) (by omega)
 have a2:w64 (0+((min z n:Nat):Int))=((min z n:Nat):Int):=by rw [Int.zero_add];exact Bk (by omega) (by omega)
 have a3:w64 ((n:Int)-((min z n:Nat):Int))=((n-min z n:Nat):Int):=by rw [Bk (by omega) (by omega)];omega
 have a4:w64 (0+1)=1:=Bk (by omega) (by omega)
 rw [e,a1,a2,a3,a4]
 show BN _ [1] K (k+1) _ 1 _=_
 rw [BN,if_neg (by simp)]
 rfl
theorem Lh {n:Nat} {xs:List Itm} {z:Nat} (hL:n≤4096) (hz:z≤1000) : Da (.mk [] [GB z]) (.mk [(n:Int)] xs) =
  Bm (.mk [(n:Int)] xs) [((n-min z n:Nat):Int)] ⟨.fn 78 [] [.ptr [.i .i64 ((min z n:Nat):Int)],.ptr [.sl (Is [1])]],fun x=>Dj x ((min z n:Nat):Int) [1]⟩:=by
 have hF:AN=999999999999998+2:=rfl
 unfold Da
 rw [Li ⟨by omega,by omega⟩,oB,if_pos rfl,J3 (by simp),oB,DP (by simp [D8]),oB,B9,hF]
 have hst:(Hi (Arr.mk [(n:Int)] xs).shape).1=[1]:=rfl
 simp only [hst]
 have:=PD (n:=n) (xs:=xs) (z:=z) hL hz (fun z4 z5=>(Bm (.mk [(n:Int)] xs) z4 ⟨.fn 78 [] [.ptr [.i .i64 z5],.ptr [.sl (Is [1])]],fun x=>Dj x z5 [1]⟩).bind fun x16=>some (x16.1,x16.2)) 999999999999998
 refine Eq.trans this ?_
 generalize Bm _ _ _=m
 cases m<;>rfl
theorem TM {xs:List Itm} (h:VR xs) {z:Nat} (hz:z≤1000) : Da (.mk [] [GB z]) (vec xs)=some (if z<xs.length then vec (xs.drop z) else .mk [0] [tyI (xs.headD default)],0):=by
 have h2:=h.2.1
 have hP:=Md h.ok h.2.2.2
 show Da (.mk [] [GB z]) (.mk [(xs.length:Int)] xs)=_
 rw [Lh h2 hz]
 by_cases hlt:z<xs.length
 ·rw [if_pos hlt]
  have hm:min z xs.length=z:=by omega
  rw [hm]
  have hr:[((xs.length-z:Nat):Int)]=up_ [xs.length-z]:=rfl
  have hpr:pr [xs.length-z]=xs.length-z:=by show (xs.length-z) * 1=_;omega
  rw [hr]
  show Bm (vec xs) (up_ [xs.length-z]) _=_
  rw [P4 (t:=[xs.length-z]) (J:=fun i=>((z+i:Nat):Int)) hP (fun x hx=>by rw [List.mem_singleton] at hx;omega) (by simp) (by rw [hpr];omega) (fun i hi=>by
   rw [hpr] at hi
   refine ⟨?_,by show ((z+i:Nat):Int)<(xs.length:Int);omega⟩
   show Dj (up_ (atN [xs.length-z] i)) (z:Int) [1]=_
   have ea:atN [xs.length-z] i=[i]:=by
    show [i / 1 % (xs.length-z)]=_
    rw [Nat.div_one,Nat.mod_eq_of_lt hi]
   unfold Dj
   rw [ea,show ([1]:List Int)=up_ [1] from rfl,MQ (by simp) (by simp) (by simp) (by simp;omega),oB]
   have ep:plN [1] [i]=i:=by show 1 * i+0=i;omega
   rw [ep,Bk (by omega) (by omega)]
   congr 1),hpr]
  have hit:((List.range (xs.length-z)).map fun i=>KP (vec xs) (tyI ((vec xs).items.headD default)) ((z+i:Nat):Int))=xs.drop z:=by
   refine List.ext_getElem (by simp) fun i h1 h2=>?_
   have hi:i<xs.length-z:=by simpa using h1
   rw [List.getElem_map,List.getElem_range,List.getElem_drop]
   unfold KP
   rw [if_pos (by omega),Int.toNat_natCast]
   show xs.getD (z+i) default=_
   rw [lD,lG (by omega)];rfl
  have hd:VR (xs.drop z):=h.sub (List.drop_sublist z xs) (List.length_pos_iff.1 (by rw [List.length_drop];omega))
  have:=hd.make
  rw [List.length_drop] at this
  show AF [((xs.length-z:Nat):Int)] ((List.range (xs.length-z)).map fun i=>KP (vec xs) (tyI ((vec xs).items.headD default)) ((z+i:Nat):Int))=_
  rw [hit,this]
 ·rw [if_neg hlt]
  have hm:xs.length-min z xs.length=0:=by omega
  rw [hm]
  exact (JA hP (by simp) rfl).trans h.zero.1
theorem Ur {p:Itm} (o:okAr (.mk [0] [p])) (r:Be (.mk [0] [p])) {z:Nat} (hz:z≤1000) : Da (.mk [] [GB z]) (.mk [0] [p])=some (.mk [0] [tyI p],0):=by
 have:=Lh (n:=0) (xs:=[p]) (z:=z) (by omega) hz
 rw [show ((0:Nat):Int)=0 from rfl] at this
 rw [this]
 have hm:0-min z 0=0:=by omega
 rw [hm]
 refine (JA (Md o r) (by simp) rfl).trans ?_
 exact Pv o r rfl (fun z hz=>by rw [List.mem_singleton] at hz;omega) (by simp) rfl (.inr rfl)
def CC (rc_ref03_Copy:Arr→Option (Arr)) (a0:Itm) (K0:Int→Bool→(List Nat)→(List Nat)→Int→(List Arr)→Option (Itm)) : Nat→Int→Int→Bool→(List Nat)→(List Nat)→Int→(List Arr)→Option (Itm)
 | 0,_,_,_,_,_,_,_=>none
 | k+1,s8,s9,s10,s11,s12,s13,s14=>(if s8<((List.length a0.box:Nat):Int) then ((rd? a0.box s8).bind fun x15=>((rc_ref03_Copy x15).bind fun x16=>((ap? 2932031007402 s14 [x16]).bind fun x17=>(CC rc_ref03_Copy a0 K0 k (w64 (s8+1)) s9 s10 s11 s12 s13 x17)))) else (K0 s9 s10 s11 s12 s13 s14))
def E4 (rc_ref03_Copy:Arr→Option (Arr)) (a0:Itm) : Option (Itm):=((HS a0.num).bind fun x1=>(jn (fun (z2:Int) (z3:Bool) (z4:(List Nat)) (z5:(List Nat)) (z6:Int) (z7:(List Arr))=>(some ((Itm.mk z2 (z3,z4,z5) z6 z7)))) fun K0=>(CC rc_ref03_Copy a0 K0 AN 0 a0.kind x1.1 x1.2.1 x1.2.2 a0.char [])))
theorem Ij {rc_ref03_Copy:Arr→Option (Arr)} (orc_ref03_Copy:∀ x0 r,rc_ref03_Copy x0=some r→Fn Tryz.prog 16 [.ag [.sl (Is x0.shape),.sl (Its x0.items)]] (.d (.ag [.sl (Is r.shape),.sl (Its r.items)]))) {a0:Itm} {r:Itm} (h:E4 rc_ref03_Copy a0=some r) :
  Fn Tryz.prog 49 [.ag [.i .u8 a0.kind,.b a0.num.1,.sl (L a0.num.2.1),.sl (L a0.num.2.2),.i .i32 a0.char,.sl (Ars a0.box)]] (.d (.ag [.i .u8 r.kind,.b r.num.1,.sl (L r.num.2.1),.sl (L r.num.2.2),.i .i32 r.char,.sl (Ars r.box)])):=by
 unfold E4 at h
 refine Fn.ofC (rs:=[.cell 2 58]) (nt:=32) Tryz.func49 rfl rfl rfl (by simp) rfl ?_;refine .sr ?_;refine vk (vbx) ?_;refine vk (van (Aj CU) Df) ?_;refine rk [1,2] ?_;refine .seq ?_;refine .drawn 9 A8 (by kernel_rfl) ?_;refine dv (vfa Dn) ?_;refine dv (Ag BR) ?_;refine dv (vfa Ee) ?_;refine dv (Ag D2) ?_;refine dv (vfa B3) ?_;refine dv (AJ II Hm) ?_
 obtain ⟨x1,g1,h⟩:=bnd h
 refine dv (Aq (KW g1) Tryz.call90) ?_;refine dv (RQ IU CU (fun w I μ=>Pg w I μ)) ?_;refine dv (van (Aj CU) Df) ?_;refine dz ?_
 refine QT ?_ AH (by decide)
 refine rk [1,2,3] ?_;refine .seq ?_;refine .sr ?_;refine ar [1,2,3,4] ?_
 obtain ⟨K0,hK0,h⟩:=AX h
 refine AW.mr (σ:=Int×Bool×(List Nat)×(List Nat)×Int×(List Arr)) (fun p=>K0 p.1 p.2.1 p.2.2.1 p.2.2.2.1 p.2.2.2.2.1 p.2.2.2.2.2=some r) (fun p=>[(2,.nb [.i .u8 0,.b false,.sl (L []),.sl (L []),.i .i32 0,.sl (Ars [])]),(3,.bp 0 0)]) (fun p=>[HO.box [.d (.i .u8 p.1),.d (.b p.2.1),.d (.sl (L p.2.2.1)),.d (.sl (L p.2.2.2.1)),.d (.i .i32 p.2.2.2.2.1),.own 27 (Ars p.2.2.2.2.2)]]) ?_ ?_
 ·skip
  refine .block ?_;refine .gh (Gh.nlOwnC (id:=0) (off:=5) 27 (by rw [RN];decide)) ?_
  refine .loop (.gk [1,2,3,4] ?_)
  refine AL.ind (σ:=Nat×Int×Int×Bool×(List Nat)×(List Nat)×Int×(List Arr)) (m:=fun p=>p.1) (e:=fun p=>[(1,.d (.ptr [.i .u8 a0.kind,.b a0.num.1,.sl (L a0.num.2.1),.sl (L a0.num.2.2),.i .i32 a0.char,.sl (Ars a0.box)])),(2,.nb [.i .u8 0,.b false,.sl (L []),.sl (L []),.i .i32 0,.sl (Ars [])]),(3,.bp 0 0),(4,.d (.i .i64 p.2.1))]) (h:=fun p=>[HO.box [.d (.i .u8 p.2.2.1),.d (.b p.2.2.2.1),.d (.sl (L p.2.2.2.2.1)),.d (.sl (L p.2.2.2.2.2.1)),.d (.i .i32 p.2.2.2.2.2.2.1),.own 27 (Ars p.2.2.2.2.2.2.2)]]) (I:=fun p=>CC rc_ref03_Copy a0 K0 p.1 p.2.1 p.2.2.1 p.2.2.2.1 p.2.2.2.2.1 p.2.2.2.2.2.1 p.2.2.2.2.2.2.1 p.2.2.2.2.2.2.2=some r) ?_ (AN,0,a0.kind,x1.1,x1.2.1,x1.2.2,a0.char,[]) h
  rintro ⟨k,s8,s9,s10,s11,s12,s13,s14⟩ h ih
  dsimp only at h ih ⊢
  rcases k with _|k
  ·rw [CC] at h;cases h
  rw [CC] at h
  refine .seq ?_;refine .sr ?_;refine vk (Aa) ?_;refine vk (vfa Bo) ?_;refine vk (Ag C5) ?_;refine vk (AT (Br _) (Ex _) Ek) ?_;refine vk (vbi) ?_;refine rk [1,2,3,4,17] ?_
  rcases brc h with ⟨hc,h⟩|⟨hc,h⟩
  ·refine cnt (dT hc) ?_
   refine .skip ?_
   show AW _ _ _ _ _ _
   refine .seq ?_;refine .block ?_;refine .drawn 9 A8 (by kernel_rfl) ?_;refine dv (DG Bo) ?_;refine dv (LG (cs:=[.d (.i .u8 s9),.d (.b s10),.d (.sl (L s11)),.d (.sl (L s12)),.d (.i .i32 s13),.own 27 (Ars s14)]) rfl rfl C5) ?_;refine dv (vfa Bo) ?_;refine dv (Ag C5) ?_;refine dv (Aa) ?_
   obtain ⟨x15,g15,h⟩:=bnd h
   obtain ⟨n15,p015,q15⟩:=Ah g15
   refine dv (vix n15 p015 (EZ q15) rfl E2) ?_;refine dv (AJ Ac Ab) ?_
   obtain ⟨x16,g16,h⟩:=bnd h
   refine dv (Aq (orc_ref03_Copy _ _ g16) Tryz.call16) ?_;refine dv ((D0 (J1 x16) (GO [x16]) HZ).deep) ?_;refine dz ?_
   obtain ⟨x17,g17,h⟩:=bnd h
   refine Ou OX g17 rfl rfl Rt ?_ Mf Br HZ
   refine RL.gk [1,2,3,4,17,20,22,23,24,25,26,27,28,29] ?_;refine vk (DG Bo) ?_
   refine IC (cs:=[.d (.i .u8 s9),.d (.b s10),.d (.sl (L s11)),.d (.sl (L s12)),.d (.i .i32 s13),.un]) (c:=.un) rfl rfl ?_ R1
   refine .nil ?_
   show AW _ _ _ _ _ _
   refine .gk [1,2,3,4] ?_;refine .region ?_;refine vk (Aa) ?_;refine vk (vbi) ?_;refine asd ?_;refine .nil ?_;refine AL.gk [1,2,3,4] ?_
   exact ih (k,(w64 (s8+1)),s9,s10,s11,s12,s13,x17) h (Nat.lt_succ_self _)
  refine cnf (dF hc) ?_;refine .gk [2,3] ?_;refine .exit ?_
  exact jr (s9,s10,s11,s12,s13,s14) h
 rintro ⟨z2,z3,z4,z5,z6,z7⟩ h
 try dsimp only at h ⊢
 subst hK0
 show AW _ _ _ _ _ _
 refine .sr ?_;refine fz (p:=.c 0 5) ?_;refine vk (Gu (cs:=[.d (.i .u8 z2),.d (.b z3),.d (.sl (L z4)),.d (.sl (L z5)),.d (.i .i32 z6),.d (.sl (Ars z7))]) (ds:=[.i .u8 z2,.b z3,.sl (L z4),.sl (L z5),.i .i32 z6,.sl (Ars z7)]) rfl Bd AH) ?_
 refine stn ?_ AH (by decide)
 refine rk [2] ?_;refine .ret ?_
 cases h
 exact ⟨_,⟨.inr rfl,Bd,AH,p6⟩,rfl⟩
def Dw (rc_ref03_Copy:Arr→Option (Arr)) (a0:Arr) (K0:(List Int)→(List Itm)→Option (Arr)) : Nat→Int→(List Int)→(List Itm)→Option (Arr)
 | 0,_,_,_=>none
 | k+1,s4,s5,s6=>(if s4<((List.length a0.items:Nat):Int) then ((rd? a0.items s4).bind fun x7=>((E4 rc_ref03_Copy x7).bind fun x8=>((ap? 1466015503701 s6 [x8]).bind fun x9=>(Dw rc_ref03_Copy a0 K0 k (w64 (s4+1)) s5 x9)))) else (K0 s5 s6))
def F7 (rc_ref03_Copy:Arr→Option (Arr)) (a0:Arr) : Option (Arr):=((ap? 17592186044416 [] a0.shape).bind fun x1=>(jn (fun (z2:(List Int)) (z3:(List Itm))=>(some ((Arr.mk z2 z3)))) fun K0=>(Dw rc_ref03_Copy a0 K0 AN 0 x1 [])))
theorem KZ {rc_ref03_Copy:Arr→Option (Arr)} (orc_ref03_Copy:∀ x0 r,rc_ref03_Copy x0=some r→Fn Tryz.prog 16 [.ag [.sl (Is x0.shape),.sl (Its x0.items)]] (.d (.ag [.sl (Is r.shape),.sl (Its r.items)]))) {a0:Arr} {r:Arr} (h:F7 rc_ref03_Copy a0=some r) :
  Fn Tryz.prog 16 [.ag [.sl (Is a0.shape),.sl (Its a0.items)]] (.d (.ag [.sl (Is r.shape),.sl (Its r.items)])):=by
 unfold F7 at h
 refine Fn.ofC (rs:=[.cell 2 27]) (nt:=30) Tryz.func16 rfl rfl rfl (by simp) rfl ?_;refine .sr ?_;refine vk (vbx) ?_;refine vk (van (Aj Ax) Az) ?_;refine rk [1,2] ?_;refine .sr ?_
 refine al ?_ (Aj Ax) (fun w I μ=>JW w I μ)
 refine rk [1,2,3] ?_;refine .sr ?_;refine vk (DG Ak) ?_
 refine ldb (cs:=[.nl,.nl]) (c:=.nl) rfl rfl ?_ AB
 refine vk (vfa Ak) ?_;refine vk (Ag AB) ?_
 obtain ⟨x1,g1,h⟩:=bnd h
 refine TL g1 Lr ?_ HB Ae Ct
 refine vk (DG Ak) ?_
 refine IC (cs:=[.nl,.nl]) (c:=.nl) rfl rfl ?_ Hv
 refine rk [1,2,3] ?_;refine .seq ?_;refine .sr ?_;refine ar [1,2,3,4] ?_
 obtain ⟨K0,hK0,h⟩:=AX h
 refine AW.mr (σ:=(List Int)×(List Itm)) (fun p=>K0 p.1 p.2=some r) (fun p=>[(2,.nb [.sl (Is []),.sl (Its [])]),(3,.bp 0 0)]) (fun p=>[HO.box [.own 3 (Is p.1),.own 58 (Its p.2)]]) ?_ ?_
 ·skip
  refine .block ?_;refine .gh (Gh.nlOwnC (id:=0) (off:=1) 58 (by rw [I8];decide)) ?_
  refine .loop (.gk [1,2,3,4] ?_)
  refine AL.ind (σ:=Nat×Int×(List Int)×(List Itm)) (m:=fun p=>p.1) (e:=fun p=>[(1,.d (.ptr [.sl (Is a0.shape),.sl (Its a0.items)])),(2,.nb [.sl (Is []),.sl (Its [])]),(3,.bp 0 0),(4,.d (.i .i64 p.2.1))]) (h:=fun p=>[HO.box [.own 3 (Is p.2.2.1),.own 58 (Its p.2.2.2)]]) (I:=fun p=>Dw rc_ref03_Copy a0 K0 p.1 p.2.1 p.2.2.1 p.2.2.2=some r) ?_ (AN,0,x1,[]) h
  rintro ⟨k,s4,s5,s6⟩ h ih
  dsimp only at h ih ⊢
  rcases k with _|k
  ·rw [Dw] at h;cases h
  rw [Dw] at h
  refine .seq ?_;refine .sr ?_;refine vk (Aa) ?_;refine vk (vfa AG) ?_;refine vk (Ag Bp) ?_;refine vk (AT (Ay _) (B7 _) B8) ?_;refine vk (vbi) ?_;refine rk [1,2,3,4,15] ?_
  rcases brc h with ⟨hc,h⟩|⟨hc,h⟩
  ·refine cnt (dT hc) ?_
   refine .skip ?_
   show AW _ _ _ _ _ _
   refine .seq ?_;refine .block ?_;refine .drawn 9 A8 (by kernel_rfl) ?_;refine dv (DG AG) ?_;refine dv (LG (cs:=[.own 3 (Is s5),.own 58 (Its s6)]) rfl rfl Bp) ?_;refine dv (vfa AG) ?_;refine dv (Ag Bp) ?_;refine dv (Aa) ?_
   obtain ⟨x7,g7,h⟩:=bnd h
   obtain ⟨n7,p07,q7⟩:=Ah g7
   refine dv (vix n7 p07 (C1 q7) rfl C3) ?_;refine dv (AJ Bd AH) ?_
   obtain ⟨x8,g8,h⟩:=bnd h
   refine dv (Aq (Ij orc_ref03_Copy g8) Tryz.call49) ?_;refine dv ((D0 (DQ x8) (CZ [x8]) Cr).deep) ?_;refine dz ?_
   obtain ⟨x9,g9,h⟩:=bnd h
   refine Ou EQ g9 rfl rfl Gp ?_ EF Ay Cr
   refine RL.gk [1,2,3,4,15,18,20,21,22,23,24,25,26,27] ?_;refine vk (DG AG) ?_
   refine IC (cs:=[.own 3 (Is s5),.un]) (c:=.un) rfl rfl ?_ Jf
   refine .nil ?_
   show AW _ _ _ _ _ _
   refine .gk [1,2,3,4] ?_;refine .region ?_;refine vk (Aa) ?_;refine vk (vbi) ?_;refine asd ?_;refine .nil ?_;refine AL.gk [1,2,3,4] ?_
   exact ih (k,(w64 (s4+1)),s5,x9) h (Nat.lt_succ_self _)
  refine cnf (dF hc) ?_;refine .gk [2,3] ?_;refine .exit ?_
  exact jr (s5,s6) h
 rintro ⟨z2,z3⟩ h
 try dsimp only at h ⊢
 subst hK0
 show AW _ _ _ _ _ _
 refine .sr ?_;refine fz (p:=.c 0 0) ?_;refine fz (p:=.c 0 1) ?_;refine vk (Gu (cs:=[.d (.sl (Is z2)),.d (.sl (Its z3))]) (ds:=[.sl (Is z2),.sl (Its z3)]) rfl Ac Ab) ?_
 refine stn ?_ Ab (by decide)
 refine rk [2] ?_;refine .ret ?_
 cases h
 exact ⟨_,⟨.inr rfl,Ac,Ab,p2⟩,rfl⟩
def Fm : Nat→Arr→Option (Arr)
 | 0,_=>none
 | k+1,a0=>F7 (Fm k) a0
theorem G1 : ∀ (k:Nat) (a0:Arr) (r:Arr),Fm k a0=some r→Fn Tryz.prog 16 [.ag [.sl (Is a0.shape),.sl (Its a0.items)]] (.d (.ag [.sl (Is r.shape),.sl (Its r.items)]))
 | 0,_,_,h=>by cases h
 | k+1,a0,_,h=>KZ (G1 k)  (show F7 (Fm k) a0=some _ from h)
def Lp (a0:Arr) : Option (Arr):=Fm (a0.size+1) a0
theorem Mt {a0:Arr} {r:Arr} (h:Lp a0=some r) : Fn Tryz.prog 16 [.ag [.sl (Is a0.shape),.sl (Its a0.items)]] (.d (.ag [.sl (Is r.shape),.sl (Its r.items)])):=G1 _ a0 r  h
end Go.FL
namespace Go.Proofs
open Go.RowKit Go.FL
abbrev RS : Value:=.agg #[.int .u8 0,.bool false,.slice none 0 0,.slice none 0 0,.int .i32 0,.slice none 0 0]
set_option maxHeartbeats 4000000 in
set_option maxRecDepth 100000 in
theorem Sx (w:World) : Calls Tryz.prog 167 #[.slice none 0 0,.int .i64 0] w fun x w'=>x=.returned (.slice none 0 0)∧w'=w:=by
 go_enter Tryz.func167,Tryz.ntmps167
 go_wp2
 go_ret
 exact ⟨rfl,rfl⟩
set_option maxHeartbeats 4000000 in
set_option maxRecDepth 100000 in
theorem UP : OZ Tryz.prog 167 58 1466015503701:=by
 intro n w hn
 rcases Nat.eq_zero_or_pos n with h0|h0
 ·subst h0
  exact (Sx w).mono fun _ _ h=>.inl h
 obtain ⟨i0,i1,i2,i3,i4,i5,i6,i7,i8⟩:=C0 Cr
 have hrz:∀ ty,(Builtin.append_ #[23,3] ty #[.slice none 0 0,.int .i64 (n:Int)]).run Tryz.prog w=.ok (.slice (some ⟨w.heap.size,0,none⟩) n (grownCap w n 0 58)) (w.drew.alloc (.cells (Builtin.zeroCells (RS).cells n++Builtin.zeroCells (RS).cells (grownCap w n 0 58-n)) 58)):=fun ty =>
  Lib.run_append_nil_zeros w 23 3 ty 58 i0 RS .i64 .i64 i1 (by kernel_rfl) i2 i3 n h0 (by omega) (by omega) (by rw [i5];omega)
 have hg1:=grownCap_ge w n 0 58
 have hg2:=grownCap_le_maxLen w n 0 58 (by unfold maxLen;omega)
 generalize hG:grownCap w n 0 58=G at *
 have hg3:G≤9223372036854775807:=by unfold maxLen at hg2;omega
 obtain ⟨cells,hcells⟩:∃ cs:Array Value,Builtin.zeroCells (RS).cells n++Builtin.zeroCells (RS).cells (G-n)=cs:=⟨_,rfl⟩
 rw [hcells] at hrz
 have hsz:cells.size=G * AD Tryz.prog 58:=by
  rw [← hcells,i8,Array.size_append,size_zeroCells,size_zeroCells,i6];omega
 have h1:¬((n:Int)<0):=by omega
 have h2:(n:Int) > 0:=by omega
 have hfin:0<G∧G≤maxLen∧cells.size=G * AD Tryz.prog 58:=⟨by omega,hg2,hsz⟩
 clear hsz hcells i1 i2 i3 i4 i5 i6 i7 i8 hg2
 have HF:=Lib.hid hfin
 clear hfin
 go_enter Tryz.func167,Tryz.ntmps167
 go_wp2_with (at_builtin;refine Lib.wpList_append_run _ rfl _ _ _ _ rfl _ _ rfl rfl _ _ (hrz _) ?_)
 go_ret
 exact .inr ⟨G,HF.out.1,HF.out.2.1,cells,HF.out.2.2,rfl,rfl⟩
end Go.Proofs
namespace Go.FL
open Go Go.Proofs
def Ho (xs:List (List Itm)) : List DV:=xs.map fun l=>.sl (Its l)
theorem Jt (xs:List (List Itm)) : (Ho xs).length=xs.length:=by simp [Ho]
theorem ON {xs:List (List Itm)} {i:Nat} {x:List Itm} (h:xs[i]?=some x) : (Ho xs)[i]?=some (.sl (Its x)):=by simp [Ho,h]
theorem RC (xs:List (List Itm)) : ∀ x∈Ho xs,x.cells.length=1:=fun x hx=>by
 simp only [Ho,List.mem_map] at hx
 obtain ⟨n,_,rfl⟩:=hx;rfl
theorem OC (xs:List (List Itm)) : ∃ sz,∀ x∈Ho xs,x.cells.length=sz:=⟨1,RC xs⟩
theorem PO (xs:List (List Itm)) : ∀ d∈Ho xs,d.flat=true∧d.cells.length=1:=fun x hx=>by
 simp only [Ho,List.mem_map] at hx
 obtain ⟨n,_,rfl⟩:=hx
 exact ⟨by simp [DV.flat,DV.cells,DV.leaf],rfl⟩
abbrev P2 : Int:=((1466015503701:Nat) : Int)
theorem RR : OZ Tryz.prog 167 58 1466015503701:=UP
theorem OO : C2 Tryz.prog 163=some (23,1,24):=by kernel_rfl
theorem Sv : Cg Tryz.prog 163=some (23,1,24,.slice none 0 0):=by kernel_rfl
theorem OJ : Tryz.prog.underlying 163=some (.slice (Tryz.prog.elem 163)):=by kernel_rfl
def Ai (a0:(List (List Itm))) (K0:Int→Option ((List Itm))) : Nat→Int→Int→Option ((List Itm))
 | 0,_,_=>none
 | k+1,s2,s3=>(if s3<((List.length a0:Nat):Int) then (jn (fun (z4:Int)=>(Ai a0 K0 k z4 (w64 (s3+1)))) fun K2=>((rd? a0 s3).bind fun x5=>((DA (¬((w64 (s2+((List.length x5:Nat):Int)))<0))).bind fun x6=>(K2 (w64 (s2+((List.length x5:Nat):Int))))))) else (K0 s2))
def Am (a0:(List (List Itm))) (K3:(List Itm)→Option ((List Itm))) : Nat→(List Itm)→Int→Option ((List Itm))
 | 0,_,_=>none
 | k+1,s9,s10=>(if s10<((List.length a0:Nat):Int) then ((rd? a0 s10).bind fun x11=>((ap? 1466015503701 s9 x11).bind fun x12=>(Am a0 K3 k x12 (w64 (s10+1))))) else (K3 s9))
def AR (a0:(List (List Itm))) : Option ((List Itm)):=(jn (fun (z1:Int)=>((DA (0≤z1∧z1≤P2)).bind fun x7=>(jn (fun (z8:(List Itm))=>(some (z8))) fun K3=>(Am a0 K3 AN [] 0)))) fun K0=>(Ai a0 K0 AN 0 0))
theorem DN {a0:(List (List Itm))} {r:(List Itm)} (h:AR a0=some r) :
  Fn Tryz.prog 130 [.sl (Ho a0)] (.d (.sl (Its r))):=by
 unfold AR at h
 refine Fn.o1 2 36 Tryz.func130 ?_;refine .sr ?_;refine asn ?_;refine rk [0,2] ?_;refine .sr ?_;refine ar [0,2,3] ?_;refine .seq ?_;refine .sr ?_;refine vk (Aa) ?_;refine vk (AT (Jt _) (OC _) OJ) ?_;refine vk (Aa) ?_;refine rk [0,2,3,9,10,11] ?_
 obtain ⟨K0,hK0,h⟩:=AX h
 refine AW.mr (σ:=Int) (fun p=>K0 p=some r) (fun p=>[(0,.d (.sl (Ho a0))),(2,.nl),(3,.d (.i .i64 p))]) (fun p=>[]) ?_ ?_
 ·skip
  refine .block ?_
  refine .loop (.gk [0,2,3,9,10,11] ?_)
  refine AL.ind (σ:=Nat×Int×Int) (m:=fun p=>p.1) (e:=fun p=>[(0,.d (.sl (Ho a0))),(2,.nl),(3,.d (.i .i64 p.2.1)),(9,.d (.sl (Ho a0))),(10,.d (.i .i64 ((List.length a0:Nat):Int))),(11,.d (.i .i64 p.2.2))]) (h:=fun p=>[]) (I:=fun p=>Ai a0 K0 p.1 p.2.1 p.2.2=some r) ?_ (AN,0,0) h
  rintro ⟨k,s2,s3⟩ h ih
  dsimp only at h ih ⊢
  rcases k with _|k
  ·rw [Ai] at h;cases h
  rw [Ai] at h
  refine .sr ?_;refine vk (vbi) ?_;refine rk [0,2,3,9,10,11,12] ?_;refine .seq ?_
  rcases brc h with ⟨hc,h⟩|⟨hc,h⟩
  ·refine cnt (dT hc) ?_
   refine .skip ?_
   show AW _ _ _ _ _ _
   obtain ⟨K2,hK2,h⟩:=AX h
   refine AW.mj (σ:=Int) (fun p=>K2 p=some r) (fun p=>[(0,.d (.sl (Ho a0))),(2,.nl),(3,.d (.i .i64 p)),(9,.d (.sl (Ho a0))),(10,.d (.i .i64 ((List.length a0:Nat):Int))),(11,.d (.i .i64 s3))]) (fun p=>[]) ?_ ?_
   ·skip
    refine .block ?_;refine .sr ?_
    obtain ⟨x5,g5,h⟩:=bnd h
    obtain ⟨n5,p05,q5⟩:=Ah g5
    refine vk (vix n5 p05 (ON q5) rfl OO) ?_;refine vk (Ag Bp) ?_;refine ar [0,2,3,5,9,10,11] ?_;refine .sr ?_;refine vk (Aa) ?_;refine vk (Aa) ?_;refine vk (AT (Ay _) (B7 _) B8) ?_;refine vk (vbi) ?_;refine ar [0,2,3,9,10,11] ?_;refine .sr ?_;refine vk (Aa) ?_;refine vk (vbi) ?_;refine rk [0,2,3,9,10,11,20] ?_
    obtain ⟨x6,g6,h⟩:=bnd h
    have hc:=CM g6
    refine cnf (dF hc) ?_;refine .gk [0,2,3,9,10,11] ?_;refine .skip ?_
    exact jr ((w64 (s2+((List.length x5:Nat):Int)))) h
   rintro z4 h
   try dsimp only at h ⊢
   subst hK2
   refine .region ?_;refine vk (vbi) ?_;refine vk (Aa) ?_;refine .nil ?_;refine AL.gk [0,2,3,9,10,11] ?_
   exact ih (k,z4,(w64 (s3+1))) h (Nat.lt_succ_self _)
  refine cnf (dF hc) ?_;refine .gk [0,2,3] ?_;refine .exit ?_
  exact jr (s2) h
 rintro z1 h
 try dsimp only at h ⊢
 subst hK0
 show AW _ _ _ _ _ _
 refine .sr ?_;refine vk (Aa) ?_
 obtain ⟨x7,g7,h⟩:=bnd h
 refine clR (avs:=[.nl,.d (.i .i64 z1)]) (Sr Pj RR (CM g7)) Tryz.call167 (fun r' H' hp=>?_)
 obtain ⟨rfl,rfl⟩:=hp
 refine aso ?_;refine rk [0,2,6] ?_;refine .seq ?_;refine .sr ?_;refine vk (Aa) ?_;refine vk (AT (Jt _) (OC _) OJ) ?_;refine vk (Aa) ?_;refine rk [2,6,25,26,27] ?_
 obtain ⟨K3,hK3,h⟩:=AX h
 refine AW.mr (σ:=(List Itm)) (fun p=>K3 p=some r) (fun p=>[(2,.nl),(6,.own 58 (Its p))]) (fun p=>[]) ?_ ?_
 ·skip
  refine .block ?_
  refine .loop (.gk [2,6,25,26,27] ?_)
  refine AL.ind (σ:=Nat×(List Itm)×Int) (m:=fun p=>p.1) (e:=fun p=>[(2,.nl),(6,.own 58 (Its p.2.1)),(25,.d (.sl (Ho a0))),(26,.d (.i .i64 ((List.length a0:Nat):Int))),(27,.d (.i .i64 p.2.2))]) (h:=fun p=>[]) (I:=fun p=>Am a0 K3 p.1 p.2.1 p.2.2=some r) ?_ (AN,[],0) h
  rintro ⟨k,s9,s10⟩ h ih
  dsimp only at h ih ⊢
  rcases k with _|k
  ·rw [Am] at h;cases h
  rw [Am] at h
  refine .sr ?_;refine vk (vbi) ?_;refine rk [2,6,25,26,27,28] ?_;refine .seq ?_
  rcases brc h with ⟨hc,h⟩|⟨hc,h⟩
  ·refine cnt (dT hc) ?_
   refine .skip ?_
   show AW _ _ _ _ _ _
   refine .seq ?_;refine .block ?_;refine .sr ?_
   obtain ⟨x11,g11,h⟩:=bnd h
   obtain ⟨n11,p011,q11⟩:=Ah g11
   refine vk (vix n11 p011 (ON q11) rfl OO) ?_;refine vk (Ag Bp) ?_;refine ar [2,6,8,25,26,27] ?_;refine .region ?_;refine mvo ?_;refine vk (Aa) ?_
   obtain ⟨x12,g12,h⟩:=bnd h
   refine PC EQ g12 Gp ?_ EF Ay Cr
   refine aso ?_;refine .nil ?_
   show AW _ _ _ _ _ _
   refine .gk [2,6,25,26,27] ?_;refine .region ?_;refine vk (vbi) ?_;refine vk (Aa) ?_;refine .nil ?_;refine AL.gk [2,6,25,26,27] ?_
   exact ih (k,x12,(w64 (s10+1))) h (Nat.lt_succ_self _)
  refine cnf (dF hc) ?_;refine .gk [2,6] ?_;refine .exit ?_
  exact jr (s9) h
 rintro z8 h
 try dsimp only at h ⊢
 subst hK3
 show AW _ _ _ _ _ _
 refine .sr ?_;refine fz (p:=.t 6) ?_;refine vk (Aa) ?_;refine ar [2] ?_;refine .ret ?_
 cases h
 exact ⟨rfl,rfl⟩
def BY (a1:(List Int)) (x2:(List Int)) (s7:Int) (K3:(List Int)→Option (Arr×Int)) : Nat→(List Int)→Int→Option (Arr×Int)
 | 0,_,_=>none
 | k+1,s11,s12=>(if s12<((List.length x2:Nat):Int) then ((rd? x2 s12).bind fun x13=>((DA (x13≠0)).bind fun x14=>((rd? a1 s12).bind fun x15=>((DA (x15≠0)).bind fun x16=>((rd? s11 s12).bind fun x17=>(BY a1 x2 s7 K3 k (List.set s11 (Int.toNat s12) (Int.tmod (w64 (Int.tdiv s7 x13)) x15)) (w64 (s12+1)))))))) else (K3 s11))
def B0 (a0:Arr) (a1:(List Int)) (a2:Bl) (x1:Int×Int) (x2:(List Int)) (K0:(List Itm)→Option (Arr×Int)) : Nat→(List Int)→(List Itm)→Int→Option (Arr×Int)
 | 0,_,_,_=>none
 | k+1,s5,s6,s7=>(if s7<x1.1 then (jn (fun (z8:(List Int)) (z9:(List Itm))=>(B0 a0 a1 a2 x1 x2 K0 k z8 z9 (w64 (s7+1)))) fun K2=>(jn (fun (z10:(List Int))=>((a2.g z10).bind fun x18=>((rd? a0.items x18).bind fun x19=>((ap? 1466015503701 s6 [x19]).bind fun x20=>(K2 z10 x20))))) fun K3=>(BY a1 x2 s7 K3 AN s5 0))) else (K0 s6))
def D5 (a0:Arr) (a1:(List Int)) (a2:Bl) : Option (Arr×Int):=((BZ a1).bind fun x1=>((Bi a1).bind fun x2=>((DA (0≤((List.length a1:Nat) : Int)∧((List.length a1:Nat) : Int)≤17592186044416)).bind fun x3=>(jn (fun (z4:(List Itm))=>((AF a1 z4).bind fun x21=>(some (x21.1,x21.2)))) fun K0=>(B0 a0 a1 a2 x1 x2 K0 AN (List.replicate (Int.toNat ((List.length a1:Nat) : Int)) (0:Int)) [] 0)))))
theorem JQ {a0:Arr} {a1:(List Int)} {a2:Bl} (oa2:Ke a2) {r:Arr×Int} (h:D5 a0 a1 a2=some r) :
  Fn Tryz.prog 131 [.ag [.sl (Is a0.shape),.sl (Its a0.items)],.sl (Is a1),a2.dv] (.tup [.d (.ag [.sl (Is r.1.shape),.sl (Its r.1.items)]),.d (.i .i64 r.2)]):=by
 unfold D5 at h
 refine Fn.ofC (rs:=[.cell 6 27,.tmp 7]) (nt:=65) Tryz.func131 rfl rfl rfl (by simp) rfl ?_;refine .sr ?_;refine vk (vbx) ?_;refine vk (van (Aj Ax) Az) ?_;refine ar [1,2,3,6,7] ?_;refine .sr ?_;refine vk (Aa) ?_
 obtain ⟨x1,g1,h⟩:=bnd h
 refine vk (VOK.tupd (vs:=[.i .i64 x1.1,.i .i64 x1.2]) (Aq (Ci g1) Tryz.call26)) ?_;refine vk (Aa) ?_;refine vk (vex) ?_;refine vk (vex) ?_;refine asd ?_;refine ar [1,2,3,6,7,8] ?_;refine .sr ?_;refine vk (Aa) ?_
 obtain ⟨x2,g2,h⟩:=bnd h
 refine vk (Aq (Bt g2) Tryz.call75) ?_;refine ar [1,2,3,6,7,8,10] ?_;refine .sr ?_;refine vk (Aa) ?_;refine vk (AT (Ae _) (A9 _) A6) ?_
 obtain ⟨x3,g3,h⟩:=bnd h
 have ghx3:=CM g3
 refine mk' (F:=Is) (x0:=0) (zl:=((List.length a1:Nat):Int)) (Int.toNat ((List.length a1:Nat):Int)) GS (by omega) (by omega) ?_ Ct (by decide)
 refine aso ?_;refine rk [1,2,3,6,7,8,10,11] ?_;refine .sr ?_;refine asn ?_;refine rk [1,2,3,6,7,8,10,11,12] ?_;refine .seq ?_;refine .sr ?_;refine vk (Aa) ?_;refine vk (Aa) ?_;refine rk [1,2,3,6,7,10,11,12,26,27] ?_
 obtain ⟨K0,hK0,h⟩:=AX h
 refine AW.mr (σ:=(List Itm)) (fun p=>K0 p=some r) (fun p=>[(1,.d (.sl (Is a1))),(6,.nb [.sl (Is []),.sl (Its [])]),(7,.d (.i .i64 0)),(12,.own 58 (Its p))]) (fun p=>[]) ?_ ?_
 ·skip
  refine .block ?_;refine .gh (Gh.nlOwn (t:=12) 58 (by rw [I8];decide) rfl) ?_
  refine .loop (.gk [1,2,3,6,7,10,11,12,26,27] ?_)
  refine AL.ind (σ:=Nat×(List Int)×(List Itm)×Int) (m:=fun p=>p.1) (e:=fun p=>[(1,.d (.sl (Is a1))),(2,.d (a2.dv)),(3,.d (.ptr [.sl (Is a0.shape),.sl (Its a0.items)])),(6,.nb [.sl (Is []),.sl (Its [])]),(7,.d (.i .i64 0)),(10,.d (.sl (Is x2))),(11,.own 3 (Is p.2.1)),(12,.own 58 (Its p.2.2.1)),(26,.d (.i .i64 x1.1)),(27,.d (.i .i64 p.2.2.2))]) (h:=fun p=>[]) (I:=fun p=>B0 a0 a1 a2 x1 x2 K0 p.1 p.2.1 p.2.2.1 p.2.2.2=some r) ?_ (AN,(List.replicate (Int.toNat ((List.length a1:Nat):Int)) (0:Int)),[],0) h
  rintro ⟨k,s5,s6,s7⟩ h ih
  dsimp only at h ih ⊢
  rcases k with _|k
  ·rw [B0] at h;cases h
  rw [B0] at h
  refine .sr ?_;refine vk (vbi) ?_;refine rk [1,2,3,6,7,10,11,12,26,27,28] ?_;refine .seq ?_
  rcases brc h with ⟨hc,h⟩|⟨hc,h⟩
  ·refine cnt (dT hc) ?_
   refine .skip ?_
   show AW _ _ _ _ _ _
   obtain ⟨K2,hK2,h⟩:=AX h
   refine AW.mj (σ:=(List Int)×(List Itm)) (fun p=>K2 p.1 p.2=some r) (fun p=>[(1,.d (.sl (Is a1))),(2,.d (a2.dv)),(3,.d (.ptr [.sl (Is a0.shape),.sl (Its a0.items)])),(6,.nb [.sl (Is []),.sl (Its [])]),(7,.d (.i .i64 0)),(10,.d (.sl (Is x2))),(11,.own 3 (Is p.1)),(12,.own 58 (Its p.2)),(26,.d (.i .i64 x1.1)),(27,.d (.i .i64 s7))]) (fun p=>[]) ?_ ?_
   ·skip
    refine .block ?_;refine .sr ?_;refine vk (Aa) ?_;refine ar [1,2,3,6,7,10,11,12,13,26,27] ?_;refine .seq ?_;refine .sr ?_;refine vk (Aa) ?_;refine vk (AT (Ae _) (A9 _) A6) ?_;refine vk (Aa) ?_;refine rk [1,2,3,6,7,10,11,12,13,26,27,30,31,32] ?_
    obtain ⟨K3,hK3,h⟩:=AX h
    refine AW.mr (σ:=(List Int)) (fun p=>K3 p=some r) (fun p=>[(1,.d (.sl (Is a1))),(2,.d (a2.dv)),(3,.d (.ptr [.sl (Is a0.shape),.sl (Its a0.items)])),(6,.nb [.sl (Is []),.sl (Its [])]),(7,.d (.i .i64 0)),(10,.d (.sl (Is x2))),(11,.own 3 (Is p)),(12,.own 58 (Its s6)),(26,.d (.i .i64 x1.1)),(27,.d (.i .i64 s7))]) (fun p=>[]) ?_ ?_
    ·skip
     refine .block ?_
     refine .loop (.gk [1,2,3,6,7,10,11,12,13,26,27,30,31,32] ?_)
     refine AL.ind (σ:=Nat×(List Int)×Int) (m:=fun p=>p.1) (e:=fun p=>[(1,.d (.sl (Is a1))),(2,.d (a2.dv)),(3,.d (.ptr [.sl (Is a0.shape),.sl (Its a0.items)])),(6,.nb [.sl (Is []),.sl (Its [])]),(7,.d (.i .i64 0)),(10,.d (.sl (Is x2))),(11,.own 3 (Is p.2.1)),(12,.own 58 (Its s6)),(13,.d (.i .i64 s7)),(26,.d (.i .i64 x1.1)),(27,.d (.i .i64 s7)),(30,.d (.sl (Is x2))),(31,.d (.i .i64 ((List.length x2:Nat):Int))),(32,.d (.i .i64 p.2.2))]) (h:=fun p=>[]) (I:=fun p=>BY a1 x2 s7 K3 p.1 p.2.1 p.2.2=some r) ?_ (AN,s5,0) h
     rintro ⟨k,s11,s12⟩ h ih
     dsimp only at h ih ⊢
     rcases k with _|k
     ·rw [BY] at h;cases h
     rw [BY] at h
     refine .sr ?_;refine vk (vbi) ?_;refine rk [1,2,3,6,7,10,11,12,13,26,27,30,31,32,33] ?_;refine .seq ?_
     rcases brc h with ⟨hc,h⟩|⟨hc,h⟩
     ·refine cnt (dT hc) ?_
      refine .skip ?_
      show AW _ _ _ _ _ _
      refine .seq ?_;refine .block ?_;refine .sr ?_;refine vk (Aa) ?_
      obtain ⟨x13,g13,h⟩:=bnd h
      obtain ⟨n13,p013,q13⟩:=Ah g13
      refine vk (vix n13 p013 (AZ q13) rfl AS) ?_;refine vk (Ag Au) ?_;refine asd ?_;refine ar [1,2,3,6,7,10,11,12,13,14,15,26,27,30,31,32] ?_;refine .drawn 11 A8 (by kernel_rfl) ?_;refine dv KS ?_;refine dv (Aa) ?_;refine dv (Aa) ?_;refine dv (Aa) ?_
      obtain ⟨x14,g14,h⟩:=bnd h
      refine dv (Jh (CM g14)) ?_;refine dv (Aa) ?_;refine dv (Aa) ?_
      obtain ⟨x15,g15,h⟩:=bnd h
      obtain ⟨n15,p015,q15⟩:=Ah g15
      refine dv (vix n15 p015 (AZ q15) rfl AS) ?_;refine dv (Ag Au) ?_
      obtain ⟨x16,g16,h⟩:=bnd h
      refine dv (Jh (CM g16)) ?_
      obtain ⟨x17,g17,h⟩:=bnd h
      obtain ⟨n17,p017,q17⟩:=Ah g17
      refine dv (KM (off:=0) (len:=(Is s11).length) n17 p017 (by rw [Ae];exact (lS.1 q17).1) AS (by decide)) ?_;refine dz ?_
      refine JO (F:=Is) (D:=fun x=>.i .i64 x) EO (us:=s11) (n:=n17) (m:=Int.toNat s12) (x:=(Int.tmod (w64 (Int.tdiv s7 x13)) x15)) (by rw [p017];rfl) ⟨_,by rw [Nat.zero_add];exact AZ q17,rfl⟩ ?_ CE
      refine RL.gk [1,2,3,6,7,10,11,12,13,14,15,26,27,30,31,32,38,39,40,41,42,43,44,45,46] ?_;refine .nil ?_
      show AW _ _ _ _ _ _
      refine .gk [1,2,3,6,7,10,11,12,13,26,27,30,31,32] ?_;refine .region ?_;refine vk (vbi) ?_;refine vk (Aa) ?_;refine .nil ?_;refine AL.gk [1,2,3,6,7,10,11,12,13,26,27,30,31,32] ?_
      exact ih (k,(List.set s11 (Int.toNat s12) (Int.tmod (w64 (Int.tdiv s7 x13)) x15)),(w64 (s12+1))) h (Nat.lt_succ_self _)
     refine cnf (dF hc) ?_;refine .gk [1,2,3,6,7,10,11,12,26,27] ?_;refine .exit ?_
     exact jr (s11) h
    rintro z10 h
    try dsimp only at h ⊢
    subst hK3
    show AW _ _ _ _ _ _
    refine .drawn 9 A8 (by kernel_rfl) ?_;refine dv KS ?_;refine dv (vfa AG) ?_;refine dv (Ag Bp) ?_;refine dv (Aa) ?_;refine dv KS ?_
    obtain ⟨x18,g18,h⟩:=bnd h
    refine dv (S6 11 (oa2 _ _ g18)) ?_
    obtain ⟨x19,g19,h⟩:=bnd h
    obtain ⟨n19,p019,q19⟩:=Ah g19
    refine dv (vix n19 p019 (C1 q19) rfl C3) ?_;refine dv (AJ Bd AH) ?_;refine dv ((D0 (DQ x19) (CZ [x19]) Cr).deep) ?_;refine dz ?_
    obtain ⟨x20,g20,h⟩:=bnd h
    refine PC EQ g20 Gp ?_ EF Ay Cr
    refine aso ?_;refine RL.gk [1,2,3,6,7,10,11,12,26,27] ?_;refine .nil ?_
    exact jr (z10,x20) h
   rintro ⟨z8,z9⟩ h
   try dsimp only at h ⊢
   subst hK2
   refine .region ?_;refine vk (vbi) ?_;refine vk (Aa) ?_;refine .nil ?_;refine AL.gk [1,2,3,6,7,10,11,12,26,27] ?_
   exact ih (k,z8,z9,(w64 (s7+1))) h (Nat.lt_succ_self _)
  refine cnf (dF hc) ?_;refine .gk [1,6,7,12] ?_;refine .exit ?_
  exact jr (s6) h
 rintro z4 h
 try dsimp only at h ⊢
 subst hK0
 show AW _ _ _ _ _ _
 refine .sr ?_;refine vk (Aa) ?_;refine fz (p:=.t 12) ?_;refine vk (Aa) ?_
 obtain ⟨x21,g21,h⟩:=bnd h
 refine vk (VOK.tupd (vs:=[.ag [.sl (Is x21.1.shape),.sl (Its x21.1.items)],.i .i64 x21.2]) (Aq (BT g21) Tryz.call10)) ?_;refine vk (vex) ?_;refine vk (vex) ?_
 refine stn ?_ Ab (by decide)
 refine ar [6,7] ?_;refine .ret ?_
 cases h
 exact ⟨_,_,⟨.inr rfl,Ac,Ab,p2⟩,rfl,rfl⟩
def BD (a0:(List Int)) (c0:Int) (c1:Arr) (c2:(List Int)) (c3:(List Int)) : Option (Int):=((rd? a0 c0).bind fun x1=>((rd? c1.shape c0).bind fun x2=>(if x1<x2 then ((B2 c2 a0).bind fun x3=>(some (x3))) else ((B2 c3 a0).bind fun x4=>((rd? c3 c0).bind fun x5=>((rd? c1.shape c0).bind fun x6=>(some ((w64 ((w64 (((List.length c1.items:Nat) : Int)+x4))-(w64 (x5 * x6))))))))))))
theorem GX {a0:(List Int)} {c0:Int} {c1:Arr} {c2:(List Int)} {c3:(List Int)} {r:Int} (h:BD a0 c0 c1 c2 c3=some r) :
  Fn Tryz.prog 132 [.sl (Is a0),.ptr [.i .i64 c0],.ptr [.sl (Is c1.shape),.sl (Its c1.items)],.ptr [.sl (Is c2)],.ptr [.sl (Is c3)]] (.d (.i .i64 r)):=by
 unfold BD at h
 refine Fn.o1 6 38 Tryz.func132 ?_;refine .sr ?_;refine ar [0,1,2,3,4,6] ?_;refine .seq ?_;refine .seq ?_;refine .drawn 10 A8 (by kernel_rfl) ?_;refine dv (Aa) ?_;refine dv (Ag Au) ?_
 obtain ⟨x1,g1,h⟩:=bnd h
 obtain ⟨n1,p01,q1⟩:=Ah g1
 refine dv (vix n1 p01 (AZ q1) rfl AS) ?_;refine dv (Ag Au) ?_;refine dv (vfa Ak) ?_;refine dv (Ag AB) ?_;refine dv (Ag Au) ?_
 obtain ⟨x2,g2,h⟩:=bnd h
 obtain ⟨n2,p02,q2⟩:=Ah g2
 refine dv (vix n2 p02 (AZ q2) rfl AS) ?_;refine dv (Ag Au) ?_;refine dv (vbi) ?_;refine dz ?_;refine rk [0,1,2,3,4,6,16] ?_
 rcases brc h with ⟨hc,h⟩|⟨hc,h⟩
 ·refine cnt (dT hc) ?_
  refine .sr ?_;refine vk (Ag AB) ?_;refine vk (Aa) ?_
  obtain ⟨x3,g3,h⟩:=bnd h
  refine vk (Aq (Dm g3) Tryz.call79) ?_;refine ar [0,1,2,4,6] ?_;refine .ret ?_
  cases h
  exact ⟨rfl,rfl⟩
 refine cnf (dF hc) ?_;refine .skip ?_
 show AW _ _ _ _ _ _
 refine .seq ?_;refine .drawn 18 A8 (by kernel_rfl) ?_;refine dv (vfa AG) ?_;refine dv (Ag Bp) ?_;refine dv (AT (Ay _) (B7 _) B8) ?_;refine dv (Ag AB) ?_;refine dv (Aa) ?_
 obtain ⟨x4,g4,h⟩:=bnd h
 refine dv (Aq (Dm g4) Tryz.call79) ?_;refine dv (vbi) ?_;refine dv (Ag AB) ?_;refine dv (Ag Au) ?_
 obtain ⟨x5,g5,h⟩:=bnd h
 obtain ⟨n5,p05,q5⟩:=Ah g5
 refine dv (vix n5 p05 (AZ q5) rfl AS) ?_;refine dv (Ag Au) ?_;refine dv (vfa Ak) ?_;refine dv (Ag AB) ?_;refine dv (Ag Au) ?_
 obtain ⟨x6,g6,h⟩:=bnd h
 obtain ⟨n6,p06,q6⟩:=Ah g6
 refine dv (vix n6 p06 (AZ q6) rfl AS) ?_;refine dv (Ag Au) ?_;refine dv (vbi) ?_;refine dv (vbi) ?_;refine dz ?_;refine ar [6] ?_;refine .ret ?_
 cases h
 exact ⟨rfl,rfl⟩
def Ba (a0:Arr) (a1:Arr) (a2:Int) (K1:Arr→Int→Option (Arr×Int)) : Nat→Arr→Int→Int→Option (Arr×Int)
 | 0,_,_,_=>none
 | k+1,s8,s9,s10=>(if s10<((List.length a0.shape:Nat):Int) then (Option.bind ((if s10=a2 then (some false) else ((rd? a0.shape s10).bind fun x12=>((rd? a1.shape s10).bind fun x13=>(some (!(decide (x12=x13))))))):Option (Bool)) fun (z11:Bool)=>(if z11=true then (some ((Arr.mk [] []),5)) else (Ba a0 a1 a2 K1 k s8 s9 (w64 (s10+1))))) else (K1 s8 s9))
def A4 (a0:Arr) (a1:Arr) (a2:Int) : Option (Arr×Int):=(jn ((if ((List.length a0.shape:Nat) : Int)=((List.length a1.shape:Nat) : Int) then (jn (fun (z6:Arr) (z7:Int)=>((CJ a0.shape).bind fun x14=>((rd? x14 a2).bind fun x15=>((rd? a1.shape a2).bind fun x16=>((rd? x14 a2).bind fun x17=>((BZ (List.set x14 (Int.toNat a2) (w64 (x15+x16)))).bind fun x18=>(if ((!(decide (x18.2=0)))||(decide (x18.1=0)))=true then (if x18.2=0 then ((C8 a0).bind fun x19=>((AF (List.set x14 (Int.toNat a2) (w64 (x15+x16))) ([x19])).bind fun x20=>(some (x20.1,x20.2)))) else (some ((Arr.mk [] []),x18.2))) else ((AR ([a0.items,a1.items])).bind fun x21=>((Bi a0.shape).bind fun x22=>((Bi a1.shape).bind fun x23=>((D5 (Arr.mk [] x21) (List.set x14 (Int.toNat a2) (w64 (x15+x16))) (⟨.fn 132 [] [.ptr [.i .i64 a2],.ptr [.sl (Is a0.shape),.sl (Its a0.items)],.ptr [.sl (Is x22)],.ptr [.sl (Is x23)]],fun x=>BD x a2 a0 x22 x23⟩ : Bl)).bind fun x24=>(some (x24.1,x24.2))))))))))))) fun K1=>(Ba a0 a1 a2 K1 AN (Arr.mk [] []) 0 0)) else (some ((Arr.mk [] []),4)))) fun K0=>(if ((decide (((List.length a0.shape:Nat) : Int)=0))&&(decide (((List.length a1.shape:Nat) : Int)=0)))=true then ((rd? a0.items 0).bind fun x1=>((rd? a1.items 0).bind fun x2=>((AF ([2]) ([x1,x2])).bind fun x3=>(some (x3.1,x3.2))))) else (if ((List.length a0.shape:Nat) : Int)=0 then none else (if ((List.length a1.shape:Nat) : Int)=0 then none else (if (w64 (((List.length a0.shape:Nat) : Int)+1))=((List.length a1.shape:Nat) : Int) then ((CJ a0.shape).bind fun x4=>none) else (if (w64 (((List.length a1.shape:Nat) : Int)+1))=((List.length a0.shape:Nat) : Int) then ((CJ a1.shape).bind fun x5=>none) else (K0)))))))
set_option maxHeartbeats 4000000 in
theorem E0 {a0:Arr} {a1:Arr} {a2:Int} {r:Arr×Int} (h:A4 a0 a1 a2=some r) :
  Fn Tryz.prog 81 [.ag [.sl (Is a0.shape),.sl (Its a0.items)],.ag [.sl (Is a1.shape),.sl (Its a1.items)],.i .i64 a2] (.tup [.d (.ag [.sl (Is r.1.shape),.sl (Its r.1.items)]),.d (.i .i64 r.2)]):=by
 unfold A4 at h
 refine Fn.ofC (rs:=[.cell 6 27,.tmp 7]) (nt:=180) Tryz.func81 rfl rfl rfl (by simp) rfl ?_;refine .sr ?_;refine vk (vbx) ?_;refine vk (vbx) ?_;refine vk (St) ?_;refine vk (van (Aj Ax) Az) ?_;refine ar [3,4,5,6,7] ?_;refine .sr ?_;refine vk (AJ Ac Ab) ?_;refine vk (van (Aj Ax) Az) ?_
 refine stn ?_ Ab (by decide)
 refine rk [3,4,5,6,7,8] ?_
 obtain ⟨K0,hK0,h⟩:=AX h
 refine AW.mj (σ:=Unit) (fun p=>K0=some r) (fun p=>[(3,.d (.ptr [.sl (Is a0.shape),.sl (Its a0.items)])),(4,.d (.ptr [.sl (Is a1.shape),.sl (Its a1.items)])),(5,.d (.ptr [.i .i64 a2])),(6,.nb [.sl (Is []),.sl (Its [])]),(7,.d (.i .i64 0)),(8,.nb [.sl (Is a0.shape),.sl (Its a0.items)])]) (fun p=>[]) ?_ ?_
 ·skip
  refine .block ?_;refine .seq ?_;refine AW.mr (σ:=Unit) (fun _=>True) (fun _=>[(3,.d (.ptr [.sl (Is a0.shape),.sl (Its a0.items)])),(4,.d (.ptr [.sl (Is a1.shape),.sl (Its a1.items)])),(5,.d (.ptr [.i .i64 a2])),(6,.nb [.sl (Is []),.sl (Its [])]),(7,.d (.i .i64 0)),(8,.nb [.sl (Is a0.shape),.sl (Its a0.items)]),(17,.d (.b ((decide (((List.length a0.shape:Nat):Int)=0))&&(decide (((List.length a1.shape:Nat):Int)=0)))))]) (fun _=>[]) ?_ ?_
  ·skip
   refine .region ?_;refine vk (vfa Ak) ?_;refine vk (Ag AB) ?_;refine vk (AT (Ae _) (A9 _) A6) ?_;refine vk (vbi) ?_
   by_cases hc:((List.length a0.shape:Nat):Int)=0
   ·have hb0:(decide (((List.length a0.shape:Nat):Int)=0))=true:=(dT hc)
    refine vk (VOK.lit (Aa) hb0) ?_;refine vk (vfa Ak) ?_;refine vk (Ag AB) ?_;refine vk (AT (Ae _) (A9 _) A6) ?_;refine vk (vbi) ?_;refine vk (Ao) ?_;refine asd ?_;refine RL.gk [3,4,5,6,7,8,17] ?_;refine .nil ?_
    exact jr () trivial (by simp only [hb0];rfl)
   have hb0:(decide (((List.length a0.shape:Nat):Int)=0))=false:=(dF hc)
   refine vk (VOK.lit (Aa) hb0) ?_;refine gf ?_;refine gf ?_;refine gf ?_;refine gf ?_;refine vk (Ao) ?_;refine asd ?_;refine RL.gk [3,4,5,6,7,8,17] ?_;refine .nil ?_
   exact jr () trivial (by simp only [hb0];rfl)
  rintro _ _
  rcases brc h with ⟨hc,h⟩|⟨hc,h⟩
  ·refine cnt hc ?_
   refine .seq ?_;refine .drawn 13 A8 (by kernel_rfl) ?_;refine dv ((Hq (CY [2]) Ct).deep) ?_;refine dv (vfa AG) ?_;refine dv (Ag Bp) ?_
   obtain ⟨x1,g1,h⟩:=bnd h
   obtain ⟨n1,p01,q1⟩:=Ah g1
   refine dv (vix n1 p01 (C1 q1) rfl C3) ?_;refine dv (AJ Bd AH) ?_;refine dv (vfa AG) ?_;refine dv (Ag Bp) ?_
   obtain ⟨x2,g2,h⟩:=bnd h
   obtain ⟨n2,p02,q2⟩:=Ah g2
   refine dv (vix n2 p02 (C1 q2) rfl C3) ?_;refine dv (AJ Bd AH) ?_;refine dv ((D0 (SI x1 x2) (CZ [x1,x2]) Cr).deep) ?_
   obtain ⟨x3,g3,h⟩:=bnd h
   refine dv (VOK.tupd (vs:=[.ag [.sl (Is x3.1.shape),.sl (Its x3.1.items)],.i .i64 x3.2]) (Aq (BT g3) Tryz.call10)) ?_;refine dv (vex) ?_;refine dv (vex) ?_;refine dz ?_
   refine stn ?_ Ab (by decide)
   refine ar [3,4,5,6,7,8] ?_;refine .ret ?_
   cases h
   exact ⟨_,_,⟨.inr rfl,Ac,Ab,p2⟩,rfl,rfl⟩
  refine cnf (bf hc) ?_;refine .sr ?_;refine vk (vfa Ak) ?_;refine vk (Ag AB) ?_;refine vk (AT (Ae _) (A9 _) A6) ?_;refine vk (vbi) ?_;refine ar [3,4,5,6,7,8,41] ?_
  rcases brc h with ⟨hc,h⟩|⟨hc,h⟩
  ·refine cnt (dT hc) ?_
   refine .region ?_;refine vk (AJ Ac Ab) ?_;refine vk (vfa Ak) ?_;refine vk (Ag AB) ?_;refine vk (Ag Au) ?_
   exact nomatch h
  refine cnf (dF hc) ?_;refine .sr ?_;refine vk (vfa Ak) ?_;refine vk (Ag AB) ?_;refine vk (AT (Ae _) (A9 _) A6) ?_;refine vk (vbi) ?_;refine ar [3,4,5,6,7,8,51] ?_
  rcases brc h with ⟨hc,h⟩|⟨hc,h⟩
  ·refine cnt (dT hc) ?_
   refine .region ?_;refine vk (AJ Ac Ab) ?_;refine vk (vfa Ak) ?_;refine vk (Ag AB) ?_;refine vk (Ag Au) ?_
   exact nomatch h
  refine cnf (dF hc) ?_;refine .sr ?_;refine vk (vfa Ak) ?_;refine vk (Ag AB) ?_;refine vk (AT (Ae _) (A9 _) A6) ?_;refine vk (vbi) ?_;refine vk (vfa Ak) ?_;refine vk (Ag AB) ?_;refine vk (AT (Ae _) (A9 _) A6) ?_;refine vk (vbi) ?_;refine ar [3,4,5,6,7,8,61] ?_
  rcases brc h with ⟨hc,h⟩|⟨hc,h⟩
  ·refine cnt (dT hc) ?_
   refine .drawn 7 A8 (by kernel_rfl) ?_;refine dv (vfa Ak) ?_;refine dv (Ag AB) ?_
   obtain ⟨x4,g4,h⟩:=bnd h
   refine dv ((Aq (Dc g4) Tryz.call30).deep) ?_;refine dv (Ag Au) ?_;refine dv ((Hq (CY [1]) Ct).deep) ?_
   exact nomatch h
  refine cnf (dF hc) ?_;refine .sr ?_;refine vk (vfa Ak) ?_;refine vk (Ag AB) ?_;refine vk (AT (Ae _) (A9 _) A6) ?_;refine vk (vbi) ?_;refine vk (vfa Ak) ?_;refine vk (Ag AB) ?_;refine vk (AT (Ae _) (A9 _) A6) ?_;refine vk (vbi) ?_;refine ar [3,4,5,6,7,8,77] ?_
  rcases brc h with ⟨hc,h⟩|⟨hc,h⟩
  ·refine cnt (dT hc) ?_
   refine .drawn 7 A8 (by kernel_rfl) ?_;refine dv (vfa Ak) ?_;refine dv (Ag AB) ?_
   obtain ⟨x5,g5,h⟩:=bnd h
   refine dv ((Aq (Dc g5) Tryz.call30).deep) ?_;refine dv (Ag Au) ?_;refine dv ((Hq (CY [1]) Ct).deep) ?_
   exact nomatch h
  refine cnf (dF hc) ?_;refine .gk [3,4,5,6,7,8] ?_;refine .skip ?_
  exact jr () h
 rintro _ h
 subst hK0
 refine .seq ?_;refine .sr ?_;refine vk (vfa Ak) ?_;refine vk (Ag AB) ?_;refine vk (AT (Ae _) (A9 _) A6) ?_;refine vk (vfa Ak) ?_;refine vk (Ag AB) ?_;refine vk (AT (Ae _) (A9 _) A6) ?_;refine vk (vbi) ?_;refine rk [3,4,5,6,7,8,99] ?_
 rcases brc h with ⟨hc,h⟩|⟨hc,h⟩
 ·refine cnf (ntf (dT hc)) ?_
  refine .skip ?_
  show AW _ _ _ _ _ _
  refine .seq ?_;refine .sr ?_;refine vk (vfa Ak) ?_;refine vk (Ag AB) ?_;refine vk (AT (Ae _) (A9 _) A6) ?_;refine vk (Aa) ?_;refine rk [3,4,5,6,7,8,103,104] ?_
  obtain ⟨K1,hK1,h⟩:=AX h
  refine AW.mr (σ:=Arr×Int) (fun p=>K1 p.1 p.2=some r) (fun p=>[(3,.d (.ptr [.sl (Is a0.shape),.sl (Its a0.items)])),(4,.d (.ptr [.sl (Is a1.shape),.sl (Its a1.items)])),(5,.d (.ptr [.i .i64 a2])),(6,.nb [.sl (Is p.1.shape),.sl (Its p.1.items)]),(7,.d (.i .i64 p.2)),(8,.nb [.sl (Is a0.shape),.sl (Its a0.items)])]) (fun p=>[]) ?_ ?_
  ·skip
   refine .block ?_
   refine .loop (.gk [3,4,5,6,7,8,103,104] ?_)
   refine AL.ind (σ:=Nat×Arr×Int×Int) (m:=fun p=>p.1) (e:=fun p=>[(3,.d (.ptr [.sl (Is a0.shape),.sl (Its a0.items)])),(4,.d (.ptr [.sl (Is a1.shape),.sl (Its a1.items)])),(5,.d (.ptr [.i .i64 a2])),(6,.nb [.sl (Is p.2.1.shape),.sl (Its p.2.1.items)]),(7,.d (.i .i64 p.2.2.1)),(8,.nb [.sl (Is a0.shape),.sl (Its a0.items)]),(103,.d (.i .i64 ((List.length a0.shape:Nat):Int))),(104,.d (.i .i64 p.2.2.2))]) (h:=fun p=>[]) (I:=fun p=>Ba a0 a1 a2 K1 p.1 p.2.1 p.2.2.1 p.2.2.2=some r) ?_ (AN,(Arr.mk [] []),0,0) h
   rintro ⟨k,s8,s9,s10⟩ h ih
   dsimp only at h ih ⊢
   rcases k with _|k
   ·rw [Ba] at h;cases h
   rw [Ba] at h
   refine .sr ?_;refine vk (vbi) ?_;refine rk [3,4,5,6,7,8,103,104,105] ?_;refine .seq ?_
   rcases brc h with ⟨hc,h⟩|⟨hc,h⟩
   ·refine cnt (dT hc) ?_
    refine .skip ?_
    show AW _ _ _ _ _ _
    refine .seq ?_;refine .block ?_;refine .sr ?_;refine vk (Aa) ?_;refine ar [3,4,5,6,7,8,9,103,104] ?_;refine .seq ?_
    obtain ⟨z11,hz,h⟩:=bnd h
    refine AW.mr (σ:=Unit) (fun _=>True) (fun _=>[(3,.d (.ptr [.sl (Is a0.shape),.sl (Its a0.items)])),(4,.d (.ptr [.sl (Is a1.shape),.sl (Its a1.items)])),(5,.d (.ptr [.i .i64 a2])),(6,.nb [.sl (Is s8.shape),.sl (Its s8.items)]),(7,.d (.i .i64 s9)),(8,.nb [.sl (Is a0.shape),.sl (Its a0.items)]),(103,.d (.i .i64 ((List.length a0.shape:Nat):Int))),(104,.d (.i .i64 s10)),(122,.d (.b z11))]) (fun _=>[]) ?_ ?_
    ·skip
     refine .drawn 16 A8 (by kernel_rfl) ?_;refine dv (Aa) ?_;refine dv (Ag Au) ?_;refine dv (vbi) ?_
     rcases brc hz with ⟨hc,hz⟩|⟨hc,hz⟩
     ·have hb0:(!(decide (s10=a2)))=false:=(ntf (dT hc))
      refine dv (VOK.lit (Aa) hb0) ?_;refine dgf ?_;refine dgf ?_;refine dgf ?_;refine dgf ?_;refine dgf ?_;refine dgf ?_;refine dgf ?_;refine dgf ?_;refine dgf ?_;refine dgf ?_;refine dgf ?_;refine dv (Ao) ?_;refine dz ?_;refine RL.gk [3,4,5,6,7,8,103,104,122] ?_;refine .nil ?_
      cases hz
      exact jr () trivial
     have hb0:(!(decide (s10=a2)))=true:=(ntt (dF hc))
     refine dv (VOK.lit (Aa) hb0) ?_;refine dv (vfa Ak) ?_;refine dv (Ag AB) ?_;refine dv (Aa) ?_
     obtain ⟨x12,g12,hz⟩:=bnd hz
     obtain ⟨n12,p012,q12⟩:=Ah g12
     refine dv (vix n12 p012 (AZ q12) rfl AS) ?_;refine dv (Ag Au) ?_;refine dv (vfa Ak) ?_;refine dv (Ag AB) ?_;refine dv (Aa) ?_
     obtain ⟨x13,g13,hz⟩:=bnd hz
     obtain ⟨n13,p013,q13⟩:=Ah g13
     refine dv (vix n13 p013 (AZ q13) rfl AS) ?_;refine dv (Ag Au) ?_;refine dv (vbi) ?_;refine dv (Ao) ?_;refine dz ?_;refine RL.gk [3,4,5,6,7,8,103,104,122] ?_;refine .nil ?_
     cases hz
     exact jr () trivial
    rintro _ _
    rcases brc h with ⟨hc,h⟩|⟨hc,h⟩
    ·refine cnt hc ?_
     refine .sr ?_;refine vk (vbd BK Ax Az) ?_
     refine stn ?_ Ab (by decide)
     refine ar [3,4,5,6,7,8,103,104] ?_;refine .ret ?_
     cases h
     exact ⟨_,_,⟨.inr rfl,Ac,Ab,p2⟩,rfl,rfl⟩
    refine cnf (bf hc) ?_;refine .skip ?_
    show AW _ _ _ _ _ _
    refine .region ?_;refine vk (vbi) ?_;refine vk (Aa) ?_;refine .nil ?_;refine AL.gk [3,4,5,6,7,8,103,104] ?_
    exact ih (k,s8,s9,(w64 (s10+1))) h (Nat.lt_succ_self _)
   refine cnf (dF hc) ?_;refine .gk [3,4,5,6,7,8] ?_;refine .exit ?_
   exact jr (s8,s9) h
  rintro ⟨z6,z7⟩ h
  try dsimp only at h ⊢
  subst hK1
  show AW _ _ _ _ _ _
  refine .sr ?_;refine vk (vfa Ak) ?_;refine vk (Ag AB) ?_
  obtain ⟨x14,g14,h⟩:=bnd h
  refine vk (Aq (Dc g14) Tryz.call30) ?_;refine aso ?_;refine rk [3,4,5,6,7,8,10] ?_;refine .seq ?_;refine .drawn 11 A8 (by kernel_rfl) ?_;refine dv KS ?_;refine dv (Ag Au) ?_
  obtain ⟨x15,g15,h⟩:=bnd h
  obtain ⟨n15,p015,q15⟩:=Ah g15
  refine dv (KM (off:=0) (len:=(Is x14).length) n15 p015 (by rw [Ae];exact (lS.1 q15).1) AS (by decide)) ?_;refine dv (PZ (i:=0+n15) (j:=0) (xs:=Is x14) (.i .i64 x15) ⟨_,by rw [Nat.zero_add];exact AZ q15,rfl⟩ Au) ?_;refine dv (vfa Ak) ?_;refine dv (Ag AB) ?_;refine dv (Ag Au) ?_
  obtain ⟨x16,g16,h⟩:=bnd h
  obtain ⟨n16,p016,q16⟩:=Ah g16
  refine dv (vix n16 p016 (AZ q16) rfl AS) ?_;refine dv (Ag Au) ?_;refine dv (vbi) ?_
  obtain ⟨x17,g17,h⟩:=bnd h
  obtain ⟨n17,p017,q17⟩:=Ah g17
  refine dv (KM (off:=0) (len:=(Is x14).length) n17 p017 (by rw [Ae];exact (lS.1 q17).1) AS (by decide)) ?_;refine dz ?_
  refine JO (F:=Is) (D:=fun x=>.i .i64 x) EO (us:=x14) (n:=n17) (m:=Int.toNat a2) (x:=(w64 (x15+x16))) (by rw [p017];rfl) ⟨_,by rw [Nat.zero_add];exact AZ q17,rfl⟩ ?_ CE
  refine RL.gk [3,4,5,6,7,8,10,129,131,132,133,134,135,136,137] ?_;refine rk [3,4,5,6,7,8,10] ?_;refine .seq ?_;refine .sr ?_;refine fz (p:=.t 10) ?_;refine vk (Aa) ?_
  obtain ⟨x18,g18,h⟩:=bnd h
  refine vk (VOK.tupd (vs:=[.i .i64 x18.1,.i .i64 x18.2]) (Aq (Ci g18) Tryz.call26)) ?_;refine vk (Aa) ?_;refine vk (vex) ?_;refine vk (vex) ?_;refine asd ?_;refine ar [3,4,5,6,7,8,10,11,12] ?_;refine .seq ?_;refine AW.mr (σ:=Unit) (fun _=>True) (fun _=>[(3,.d (.ptr [.sl (Is a0.shape),.sl (Its a0.items)])),(4,.d (.ptr [.sl (Is a1.shape),.sl (Its a1.items)])),(5,.d (.ptr [.i .i64 a2])),(6,.nb [.sl (Is z6.shape),.sl (Its z6.items)]),(7,.d (.i .i64 z7)),(8,.nb [.sl (Is a0.shape),.sl (Its a0.items)]),(10,.d (.sl (Is (List.set x14 (Int.toNat a2) (w64 (x15+x16)))))),(12,.d (.i .i64 x18.2)),(149,.d (.b ((!(decide (x18.2=0)))||(decide (x18.1=0)))))]) (fun _=>[]) ?_ ?_
  ·skip
   refine .region ?_;refine vk (Aa) ?_;refine vk (vbi) ?_
   by_cases hc:x18.2=0
   ·have hb0:(!(decide (x18.2=0)))=false:=(ntf (dT hc))
    refine vk (VOK.lit (Aa) hb0) ?_;refine vk (Aa) ?_;refine vk (vbi) ?_;refine vk (Ao) ?_;refine RL.gk [3,4,5,6,7,8,10,12,149] ?_;refine .nil ?_
    exact jr () trivial (by simp only [hb0];rfl)
   have hb0:(!(decide (x18.2=0)))=true:=(ntt (dF hc))
   refine vk (VOK.lit (Aa) hb0) ?_;refine gf ?_;refine gf ?_;refine vk (Ao) ?_;refine RL.gk [3,4,5,6,7,8,10,12,149] ?_;refine .nil ?_
   exact jr () trivial (by simp only [hb0];rfl)
  rintro _ _
  rcases brc h with ⟨hc,h⟩|⟨hc,h⟩
  ·refine cnt hc ?_
   refine .seq ?_;refine .sr ?_;refine vk (Aa) ?_;refine vk (vbi) ?_;refine rk [3,4,5,6,7,8,10,12,151] ?_
   rcases brc h with ⟨hc,h⟩|⟨hc,h⟩
   ·refine cnf (ntf (dT hc)) ?_
    refine .skip ?_
    show AW _ _ _ _ _ _
    refine .sr ?_;refine vk (Aa) ?_;refine vk (Ei Ac Ab) ?_
    obtain ⟨x19,g19,h⟩:=bnd h
    refine vk (Aq (G9 g19) Tryz.call126) ?_;refine vk ((D0 (DQ x19) (CZ [x19]) Cr).deep) ?_
    obtain ⟨x20,g20,h⟩:=bnd h
    refine vk (VOK.tupd (vs:=[.ag [.sl (Is x20.1.shape),.sl (Its x20.1.items)],.i .i64 x20.2]) (Aq (BT g20) Tryz.call10)) ?_;refine vk (vex) ?_;refine vk (vex) ?_
    refine stn ?_ Ab (by decide)
    refine ar [3,4,5,6,7,10] ?_;refine .ret ?_
    cases h
    exact ⟨_,_,⟨.inr rfl,Ac,Ab,p2⟩,rfl,rfl⟩
   refine cnt (ntt (dF hc)) ?_;refine .sr ?_;refine vk (vbd BK Ax Az) ?_;refine vk (Aa) ?_
   refine stn ?_ Ab (by decide)
   refine ar [3,4,5,6,7,8,10] ?_;refine .ret ?_
   cases h
   exact ⟨_,_,⟨.inr rfl,Ac,Ab,p2⟩,rfl,rfl⟩
  refine cnf (bf hc) ?_;refine .skip ?_
  show AW _ _ _ _ _ _
  refine .sr ?_;refine vk (vfa AG) ?_;refine vk (Ag Bp) ?_;refine vk (vfa AG) ?_;refine vk (Ag Bp) ?_;refine vk ((Hq (PO [a0.items,a1.items]) Sv).deep) ?_
  obtain ⟨x21,g21,h⟩:=bnd h
  refine vk (Aq (DN g21) Tryz.call130) ?_;refine vk (vbd BK Ax Az) ?_;refine vk (van (Aj Ax) Az) ?_
  refine stn ?_ Ab (by decide)
  refine rk [3,4,5,6,7,10,13] ?_;refine .seq ?_;refine .drawn 8 A8 (by kernel_rfl) ?_;refine dv (vfa Ak) ?_;refine dv (Ag AB) ?_
  obtain ⟨x22,g22,h⟩:=bnd h
  refine dv (Aq (Bt g22) Tryz.call75) ?_;refine dv (vfa Ak) ?_;refine dv (Ag AB) ?_
  obtain ⟨x23,g23,h⟩:=bnd h
  refine dv (Aq (Bt g23) Tryz.call75) ?_;refine dv (van (Aj Iq) LZ) ?_;refine dv (van (Aj Iq) LZ) ?_;refine dz ?_
  refine P8 ?_ Hv
  refine P8 ?_ Hv
  refine rk [3,5,6,7,10,13,14,15] ?_;refine .sr ?_;refine vk (Ei Ac Ab) ?_;refine vk (Aa) ?_;refine RL.gh (Gh.nbp (t:=14) rfl) ?_;refine RL.gh (Gh.nbp (t:=15) rfl) ?_;refine vk (PM) ?_
  obtain ⟨x24,g24,h⟩:=bnd h
  refine vk (VOK.tupd (vs:=[.ag [.sl (Is x24.1.shape),.sl (Its x24.1.items)],.i .i64 x24.2]) (Aq (JQ (D6 Tryz.call132 (fun _ _ h=>GX h)) g24) Tryz.call131)) ?_;refine vk (vex) ?_;refine vk (vex) ?_
  refine stn ?_ Ab (by decide)
  refine ar [6,7] ?_;refine .ret ?_
  cases h
  exact ⟨_,_,⟨.inr rfl,Ac,Ab,p2⟩,rfl,rfl⟩
 refine cnt (ntt (dF hc)) ?_;refine .sr ?_;refine vk (vbd BK Ax Az) ?_
 refine stn ?_ Ab (by decide)
 refine ar [3,4,5,6,7,8] ?_;refine .ret ?_
 cases h
 exact ⟨_,_,⟨.inr rfl,Ac,Ab,p2⟩,rfl,rfl⟩
theorem EW : Tryz.prog.underlying 70=some (.map 21 69):=by kernel_rfl
def S4 : List (Int×DV):=[(44,.fn 81 [] []),(9066,.fn 81 [] []),(9021,.fn 82 [] []),(8854,.fn 82 [] []),(47,.fn 83 [] []),(9023,.fn 83 [] []),(92,.fn 84 [] []),(9024,.fn 84 [] [])]
theorem SS : Fn Tryz.prog 39 [] (.d (.mp (S4.map fun p=>.i .i32 p.1) (S4.map (·.2)))):=by
 refine Fn.o1 0 3 Tryz.func39 ?_;refine .sr ?_;refine asu ?_;refine rn ?_;refine .sr ?_;refine vk (UM) ?_;refine IP EW gkR freshK.nil ?_;refine IP EW gkR (freshK.snoc (z:=9066) (z':=44) freshK.nil (by decide)) ?_;refine IP EW gkR (freshK.snoc (z:=9021) (z':=9066) (freshK.snoc (z:=9021) (z':=44) freshK.nil (by decide)) (by decide)) ?_;refine IP EW gkR (freshK.snoc (z:=8854) (z':=9021) (freshK.snoc (z:=8854) (z':=9066) (freshK.snoc (z:=8854) (z':=44) freshK.nil (by decide)) (by decide)) (by decide)) ?_;refine IP EW gkR (freshK.snoc (z:=47) (z':=8854) (freshK.snoc (z:=47) (z':=9021) (freshK.snoc (z:=47) (z':=9066) (freshK.snoc (z:=47) (z':=44) freshK.nil (by decide)) (by decide)) (by decide)) (by decide)) ?_;refine IP EW gkR (freshK.snoc (z:=9023) (z':=47) (freshK.snoc (z:=9023) (z':=8854) (freshK.snoc (z:=9023) (z':=9021) (freshK.snoc (z:=9023) (z':=9066) (freshK.snoc (z:=9023) (z':=44) freshK.nil (by decide)) (by decide)) (by decide)) (by decide)) (by decide)) ?_;refine IP EW gkR (freshK.snoc (z:=92) (z':=9023) (freshK.snoc (z:=92) (z':=47) (freshK.snoc (z:=92) (z':=8854) (freshK.snoc (z:=92) (z':=9021) (freshK.snoc (z:=92) (z':=9066) (freshK.snoc (z:=92) (z':=44) freshK.nil (by decide)) (by decide)) (by decide)) (by decide)) (by decide)) (by decide)) ?_;refine IP EW gkR (freshK.snoc (z:=9024) (z':=92) (freshK.snoc (z:=9024) (z':=9023) (freshK.snoc (z:=9024) (z':=47) (freshK.snoc (z:=9024) (z':=8854) (freshK.snoc (z:=9024) (z':=9021) (freshK.snoc (z:=9024) (z':=9066) (freshK.snoc (z:=9024) (z':=44) freshK.nil (by decide)) (by decide)) (by decide)) (by decide)) (by decide)) (by decide)) (by decide)) ?_;refine RL.gh (Gh.omf (t:=1) rfl) ?_;refine RL.gk [1] ?_;refine vk (Aa) ?_;refine asd ?_;refine rn ?_;refine .ret ?_
 exact ⟨rfl,rfl⟩
def JZ : List (Int×Cv):=[(44,⟨.fn 81 [] [],fun x=>A4 x.1 x.2.1 x.2.2⟩),(9066,⟨.fn 81 [] [],fun x=>A4 x.1 x.2.1 x.2.2⟩),(9021,⟨.fn 82 [] [],fun x=>EI x.1 x.2.1 x.2.2⟩),(8854,⟨.fn 82 [] [],fun x=>EI x.1 x.2.1 x.2.2⟩),(47,⟨.fn 83 [] [],fun _=>none⟩),(9023,⟨.fn 83 [] [],fun _=>none⟩),(92,⟨.fn 84 [] [],fun _=>none⟩),(9024,⟨.fn 84 [] [],fun _=>none⟩)]
theorem RA : (JZ.map (·.1)).Nodup:=by show List.Nodup [(44:Int),(9066:Int),(9021:Int),(8854:Int),(47:Int),(9023:Int),(92:Int),(9024:Int)];decide
theorem Pz : ∀ p∈JZ,Du p.2∧isF p.2.dv:=by
 intro p hp
 simp only [JZ,List.mem_cons,List.not_mem_nil,or_false] at hp
 rcases hp with rfl|rfl|rfl|rfl|rfl|rfl|rfl|rfl
 ·exact ⟨D6 Tryz.call81 (fun _ _ h=>E0 h),_,_,_,rfl⟩
 ·exact ⟨D6 Tryz.call81 (fun _ _ h=>E0 h),_,_,_,rfl⟩
 ·exact ⟨D6 Tryz.call82 (fun _ _ h=>FH h),_,_,_,rfl⟩
 ·exact ⟨D6 Tryz.call82 (fun _ _ h=>FH h),_,_,_,rfl⟩
 ·exact ⟨D6 Tryz.call83 (fun _ _ h=>nomatch h),_,_,_,rfl⟩
 ·exact ⟨D6 Tryz.call83 (fun _ _ h=>nomatch h),_,_,_,rfl⟩
 ·exact ⟨D6 Tryz.call84 (fun _ _ h=>nomatch h),_,_,_,rfl⟩
 ·exact ⟨D6 Tryz.call84 (fun _ _ h=>nomatch h),_,_,_,rfl⟩
theorem QO {z:Int} {f:Cv} (h:F5 JZ z=some f) : Du f∧isF f.dv:=Pz _ (J0 h)
theorem QM : Fn Tryz.prog 39 [] (.d (SV .i32 JZ)):=SS
def Co (a0:(List Int)) (c0:(List Int)) (c1:Arr) (c2:(List Int)) (c3:(List Int)) (K0:Int→Int→Option (Int)) : Nat→Int→Int→Int→Option (Int)
 | 0,_,_,_=>none
 | k+1,s3,s4,s5=>(if s5<((List.length a0:Nat):Int) then ((rd? a0 s5).bind fun x6=>((rd? c0 s5).bind fun x7=>(jn (fun (z8:Int)=>(Option.bind ((if z8<0 then (some true) else ((rd? c1.shape s5).bind fun x12=>(some (decide (x12≤z8))))):Option (Bool)) fun (z11:Bool)=>(if z11=true then (some ((-1))) else ((rd? c3 s5).bind fun x13=>(Co a0 c0 c1 c2 c3 K0 k s3 (w64 (s4+(w64 (z8 * x13)))) (w64 (s5+1))))))) fun K2=>(if x7<0 then ((rd? c1.shape s5).bind fun x9=>((rd? c2 s5).bind fun x10=>(K2 (w64 (x6+(w64 (x9-x10))))))) else (K2 x6))))) else (K0 s3 s4))
def D3 (a0:(List Int)) (c0:(List Int)) (c1:Arr) (c2:(List Int)) (c3:(List Int)) : Option (Int):=(jn (fun (z1:Int) (z2:Int)=>(some (z2))) fun K0=>(Co a0 c0 c1 c2 c3 K0 AN 0 0 0))
theorem JE {a0:(List Int)} {c0:(List Int)} {c1:Arr} {c2:(List Int)} {c3:(List Int)} {r:Int} (h:D3 a0 c0 c1 c2 c3=some r) :
  Fn Tryz.prog 77 [.sl (Is a0),.ptr [.sl (Is c0)],.ptr [.sl (Is c1.shape),.sl (Its c1.items)],.ptr [.sl (Is c2)],.ptr [.sl (Is c3)]] (.d (.i .i64 r)):=by
 unfold D3 at h
 refine Fn.o1 6 55 Tryz.func77 ?_;refine .sr ?_;refine ar [0,1,2,3,4,6] ?_;refine .sr ?_;refine ar [0,1,2,3,4,6,7] ?_;refine .seq ?_;refine .sr ?_;refine vk (Aa) ?_;refine vk (AT (Ae _) (A9 _) A6) ?_;refine vk (Aa) ?_;refine rk [1,2,3,4,6,7,10,11,12] ?_
 obtain ⟨K0,hK0,h⟩:=AX h
 refine AW.mr (σ:=Int×Int) (fun p=>K0 p.1 p.2=some r) (fun p=>[(6,.d (.i .i64 p.1)),(7,.d (.i .i64 p.2))]) (fun p=>[]) ?_ ?_
 ·skip
  refine .block ?_
  refine .loop (.gk [1,2,3,4,6,7,10,11,12] ?_)
  refine AL.ind (σ:=Nat×Int×Int×Int) (m:=fun p=>p.1) (e:=fun p=>[(1,.d (.ptr [.sl (Is c0)])),(2,.d (.ptr [.sl (Is c1.shape),.sl (Its c1.items)])),(3,.d (.ptr [.sl (Is c2)])),(4,.d (.ptr [.sl (Is c3)])),(6,.d (.i .i64 p.2.1)),(7,.d (.i .i64 p.2.2.1)),(10,.d (.sl (Is a0))),(11,.d (.i .i64 ((List.length a0:Nat):Int))),(12,.d (.i .i64 p.2.2.2))]) (h:=fun p=>[]) (I:=fun p=>Co a0 c0 c1 c2 c3 K0 p.1 p.2.1 p.2.2.1 p.2.2.2=some r) ?_ (AN,0,0,0) h
  rintro ⟨k,s3,s4,s5⟩ h ih
  dsimp only at h ih ⊢
  rcases k with _|k
  ·rw [Co] at h;cases h
  rw [Co] at h
  refine .sr ?_;refine vk (vbi) ?_;refine rk [1,2,3,4,6,7,10,11,12,13] ?_;refine .seq ?_
  rcases brc h with ⟨hc,h⟩|⟨hc,h⟩
  ·refine cnt (dT hc) ?_
   refine .skip ?_
   show AW _ _ _ _ _ _
   refine .seq ?_;refine .block ?_;refine .sr ?_;refine vk (Aa) ?_
   obtain ⟨x6,g6,h⟩:=bnd h
   obtain ⟨n6,p06,q6⟩:=Ah g6
   refine vk (vix n6 p06 (AZ q6) rfl AS) ?_;refine vk (Ag Au) ?_;refine asd ?_;refine ar [1,2,3,4,6,7,8,9,10,11,12] ?_;refine .seq ?_;refine .sr ?_;refine vk (Ag AB) ?_;refine vk (Aa) ?_
   obtain ⟨x7,g7,h⟩:=bnd h
   obtain ⟨n7,p07,q7⟩:=Ah g7
   refine vk (vix n7 p07 (AZ q7) rfl AS) ?_;refine vk (Ag Au) ?_;refine vk (vbi) ?_;refine rk [1,2,3,4,6,7,8,9,10,11,12,21] ?_
   obtain ⟨K2,hK2,h⟩:=AX h
   refine AW.mr (σ:=Int) (fun p=>K2 p=some r) (fun p=>[(1,.d (.ptr [.sl (Is c0)])),(2,.d (.ptr [.sl (Is c1.shape),.sl (Its c1.items)])),(3,.d (.ptr [.sl (Is c2)])),(4,.d (.ptr [.sl (Is c3)])),(6,.d (.i .i64 s3)),(7,.d (.i .i64 s4)),(8,.d (.i .i64 s5)),(9,.d (.i .i64 p)),(10,.d (.sl (Is a0))),(11,.d (.i .i64 ((List.length a0:Nat):Int))),(12,.d (.i .i64 s5))]) (fun p=>[]) ?_ ?_
   ·skip
    rcases brc h with ⟨hc,h⟩|⟨hc,h⟩
    ·refine cnt (dT hc) ?_
     refine .drawn 12 A8 (by kernel_rfl) ?_;refine dv (Aa) ?_;refine dv (vfa Ak) ?_;refine dv (Ag AB) ?_;refine dv (Aa) ?_
     obtain ⟨x9,g9,h⟩:=bnd h
     obtain ⟨n9,p09,q9⟩:=Ah g9
     refine dv (vix n9 p09 (AZ q9) rfl AS) ?_;refine dv (Ag Au) ?_;refine dv (Ag AB) ?_;refine dv (Aa) ?_
     obtain ⟨x10,g10,h⟩:=bnd h
     obtain ⟨n10,p010,q10⟩:=Ah g10
     refine dv (vix n10 p010 (AZ q10) rfl AS) ?_;refine dv (Ag Au) ?_;refine dv (vbi) ?_;refine dv (vbi) ?_;refine dz ?_;refine asd ?_;refine RL.gk [1,2,3,4,6,7,8,9,10,11,12] ?_;refine .nil ?_
     exact jr ((w64 (x6+(w64 (x9-x10))))) h
    refine cnf (dF hc) ?_;refine .gk [1,2,3,4,6,7,8,9,10,11,12] ?_;refine .skip ?_
    exact jr (x6) h
   rintro z8 h
   try dsimp only at h ⊢
   subst hK2
   show AW _ _ _ _ _ _
   refine .seq ?_;refine .seq ?_
   obtain ⟨z11,hz,h⟩:=bnd h
   refine AW.mr (σ:=Unit) (fun _=>True) (fun _=>[(1,.d (.ptr [.sl (Is c0)])),(2,.d (.ptr [.sl (Is c1.shape),.sl (Its c1.items)])),(3,.d (.ptr [.sl (Is c2)])),(4,.d (.ptr [.sl (Is c3)])),(6,.d (.i .i64 s3)),(7,.d (.i .i64 s4)),(8,.d (.i .i64 s5)),(9,.d (.i .i64 z8)),(10,.d (.sl (Is a0))),(11,.d (.i .i64 ((List.length a0:Nat):Int))),(12,.d (.i .i64 s5)),(44,.d (.b z11))]) (fun _=>[]) ?_ ?_
   ·skip
    refine .region ?_;refine vk (Aa) ?_;refine vk (vbi) ?_
    rcases brc hz with ⟨hc,hz⟩|⟨hc,hz⟩
    ·have hb0:(decide (z8<0))=true:=(dT hc)
     refine vk (VOK.lit (Aa) hb0) ?_;refine gf ?_;refine gf ?_;refine gf ?_;refine gf ?_;refine gf ?_;refine gf ?_;refine gf ?_;refine vk (Ao) ?_;refine RL.gk [1,2,3,4,6,7,8,9,10,11,12,44] ?_;refine .nil ?_
     cases hz
     exact jr () trivial
    have hb0:(decide (z8<0))=false:=(dF hc)
    refine vk (VOK.lit (Aa) hb0) ?_;refine vk (Aa) ?_;refine vk (vfa Ak) ?_;refine vk (Ag AB) ?_;refine vk (Aa) ?_
    obtain ⟨x12,g12,hz⟩:=bnd hz
    obtain ⟨n12,p012,q12⟩:=Ah g12
    refine vk (vix n12 p012 (AZ q12) rfl AS) ?_;refine vk (Ag Au) ?_;refine vk (vbi) ?_;refine vk (Ao) ?_;refine RL.gk [1,2,3,4,6,7,8,9,10,11,12,44] ?_;refine .nil ?_
    cases hz
    exact jr () trivial
   rintro _ _
   rcases brc h with ⟨hc,h⟩|⟨hc,h⟩
   ·refine cnt hc ?_
    refine .sr ?_;refine ar [1,2,3,4,6,7,8,9,10,11,12] ?_;refine .ret ?_
    cases h
    exact ⟨rfl,rfl⟩
   refine cnf (bf hc) ?_;refine .skip ?_
   show AW _ _ _ _ _ _
   refine .region ?_;refine vk (Aa) ?_;refine vk (Aa) ?_;refine vk (Ag AB) ?_;refine vk (Aa) ?_
   obtain ⟨x13,g13,h⟩:=bnd h
   obtain ⟨n13,p013,q13⟩:=Ah g13
   refine vk (vix n13 p013 (AZ q13) rfl AS) ?_;refine vk (Ag Au) ?_;refine vk (vbi) ?_;refine vk (vbi) ?_;refine asd ?_;refine .nil ?_
   show AW _ _ _ _ _ _
   refine .gk [1,2,3,4,6,7,10,11,12] ?_;refine .region ?_;refine vk (vbi) ?_;refine vk (Aa) ?_;refine .nil ?_;refine AL.gk [1,2,3,4,6,7,10,11,12] ?_
   exact ih (k,s3,(w64 (s4+(w64 (z8 * x13)))),(w64 (s5+1))) h (Nat.lt_succ_self _)
  refine cnf (dF hc) ?_;refine .gk [6,7] ?_;refine .exit ?_
  exact jr (s3,s4) h
 rintro ⟨z1,z2⟩ h
 try dsimp only at h ⊢
 subst hK0
 show AW _ _ _ _ _ _
 refine .sr ?_;refine vk (Aa) ?_;refine ar [6] ?_;refine .ret ?_
 cases h
 exact ⟨rfl,rfl⟩
def Cp (x1:(List Int)×Arr×Int) (K0:Arr→Int→(List Int)→Option (Arr×Int)) : Nat→Arr→Int→Int→(List Int)→Option (Arr×Int)
 | 0,_,_,_,_=>none
 | k+1,s6,s7,s8,s9=>(if s8<((List.length x1.1:Nat):Int) then ((rd? x1.1 s8).bind fun x10=>(if x10<(-4096) then (some ((Arr.mk [] []),8)) else ((rd? s9 s8).bind fun x11=>(Cp x1 K0 k s6 s7 (w64 (s8+1)) (List.set s9 (Int.toNat s8) (if x10<(IntKind.wrap .i64 (0-x10)) then (IntKind.wrap .i64 (0-x10)) else x10)))))) else (K0 s6 s7 s9))
def DM (a0:Arr) (a1:Arr) : Option (Arr×Int):=((Dr a0 a1).bind fun x1=>(if x1.2.2=0 then ((DA (0≤((List.length x1.1:Nat) : Int)∧((List.length x1.1:Nat) : Int)≤17592186044416)).bind fun x2=>(jn (fun (z3:Arr) (z4:Int) (z5:(List Int))=>((Bi x1.2.1.shape).bind fun x12=>((Bm x1.2.1 z5 (⟨.fn 77 [] [.ptr [.sl (Is x1.1)],.ptr [.sl (Is x1.2.1.shape),.sl (Its x1.2.1.items)],.ptr [.sl (Is z5)],.ptr [.sl (Is x12)]],fun x=>D3 x x1.1 x1.2.1 z5 x12⟩ : Bl)).bind fun x13=>(some (x13.1,x13.2))))) fun K0=>(Cp x1 K0 AN (Arr.mk [] []) 0 0 (List.replicate (Int.toNat ((List.length x1.1:Nat) : Int)) (0:Int))))) else (some ((Arr.mk [] []),x1.2.2))))
theorem KU {a0:Arr} {a1:Arr} {r:Arr×Int} (h:DM a0 a1=some r) :
  Fn Tryz.prog 36 [.ag [.sl (Is a0.shape),.sl (Its a0.items)],.ag [.sl (Is a1.shape),.sl (Its a1.items)]] (.tup [.d (.ag [.sl (Is r.1.shape),.sl (Its r.1.items)]),.d (.i .i64 r.2)]):=by
 unfold DM at h
 refine Fn.ofC (rs:=[.cell 4 27,.tmp 5]) (nt:=53) Tryz.func36 rfl rfl rfl (by simp) rfl ?_;refine .sr ?_;refine vk (vbx) ?_;refine vk (vbn) ?_;refine vk (van (Aj Ax) Az) ?_;refine ar [2,3,4,5] ?_;refine .sr ?_;refine vk (AJ Ac Ab) ?_;refine vk (Ei Ac Ab) ?_
 obtain ⟨x1,g1,h⟩:=bnd h
 refine vk (VOK.tupd (vs:=[.sl (Is x1.1),.ag [.sl (Is x1.2.1.shape),.sl (Its x1.2.1.items)],.i .i64 x1.2.2]) (Aq (Gz g1) Tryz.call74)) ?_;refine vk (Aa) ?_;refine vk (vex) ?_;refine vk (vex) ?_;refine vk (vex) ?_;refine vk (van (Aj Iq) LZ) ?_
 refine P8 ?_ Hv
 refine RL.gh (Gh.nbp (t:=6) rfl) ?_
 refine stn ?_ Ab (by decide)
 refine ar [3,4,5,6,7] ?_;refine .seq ?_;refine .sr ?_;refine vk (Aa) ?_;refine vk (vbi) ?_;refine rk [3,4,5,6,7,20] ?_
 rcases brc h with ⟨hc,h⟩|⟨hc,h⟩
 ·refine cnf (ntf (dT hc)) ?_
  refine .skip ?_
  show AW _ _ _ _ _ _
  refine .sr ?_;refine vk (Ag AB) ?_;refine vk (AT (Ae _) (A9 _) A6) ?_
  obtain ⟨x2,g2,h⟩:=bnd h
  have ghx2:=CM g2
  refine mk' (F:=Is) (x0:=0) (zl:=((List.length x1.1:Nat):Int)) (Int.toNat ((List.length x1.1:Nat):Int)) GS (by omega) (by omega) ?_ Ct (by decide)
  refine al ?_ (Aj Iq) (fun w I μ=>Ov w I μ)
  refine IC (cs:=[.nl]) (c:=.nl) rfl rfl ?_ Hv
  refine rk [3,4,5,6,8] ?_;refine .seq ?_;refine .sr ?_;refine vk (Ag AB) ?_;refine vk (AT (Ae _) (A9 _) A6) ?_;refine vk (Aa) ?_;refine rk [3,4,5,6,8,26,27,28] ?_
  obtain ⟨K0,hK0,h⟩:=AX h
  refine AW.mr (σ:=Arr×Int×(List Int)) (fun p=>K0 p.1 p.2.1 p.2.2=some r) (fun p=>[(3,.nb [.sl (Is x1.2.1.shape),.sl (Its x1.2.1.items)]),(4,.nb [.sl (Is p.1.shape),.sl (Its p.1.items)]),(5,.d (.i .i64 p.2.1)),(6,.d (.ptr [.sl (Is x1.1)])),(8,.bp 0 0)]) (fun p=>[HO.box [.own 3 (Is p.2.2)]]) ?_ ?_
  ·skip
   refine .block ?_
   refine .loop (.gk [3,4,5,6,8,26,27,28] ?_)
   refine AL.ind (σ:=Nat×Arr×Int×Int×(List Int)) (m:=fun p=>p.1) (e:=fun p=>[(3,.nb [.sl (Is x1.2.1.shape),.sl (Its x1.2.1.items)]),(4,.nb [.sl (Is p.2.1.shape),.sl (Its p.2.1.items)]),(5,.d (.i .i64 p.2.2.1)),(6,.d (.ptr [.sl (Is x1.1)])),(8,.bp 0 0),(26,.d (.sl (Is x1.1))),(27,.d (.i .i64 ((List.length x1.1:Nat):Int))),(28,.d (.i .i64 p.2.2.2.1))]) (h:=fun p=>[HO.box [.own 3 (Is p.2.2.2.2)]]) (I:=fun p=>Cp x1 K0 p.1 p.2.1 p.2.2.1 p.2.2.2.1 p.2.2.2.2=some r) ?_ (AN,(Arr.mk [] []),0,0,(List.replicate (Int.toNat ((List.length x1.1:Nat):Int)) (0:Int))) h
   rintro ⟨k,s6,s7,s8,s9⟩ h ih
   dsimp only at h ih ⊢
   rcases k with _|k
   ·rw [Cp] at h;cases h
   rw [Cp] at h
   refine .sr ?_;refine vk (vbi) ?_;refine rk [3,4,5,6,8,26,27,28,29] ?_;refine .seq ?_
   rcases brc h with ⟨hc,h⟩|⟨hc,h⟩
   ·refine cnt (dT hc) ?_
    refine .skip ?_
    show AW _ _ _ _ _ _
    refine .seq ?_;refine .block ?_;refine .sr ?_;refine vk (Aa) ?_
    obtain ⟨x10,g10,h⟩:=bnd h
    obtain ⟨n10,p010,q10⟩:=Ah g10
    refine vk (vix n10 p010 (AZ q10) rfl AS) ?_;refine vk (Ag Au) ?_;refine asd ?_;refine ar [3,4,5,6,8,9,10,26,27,28] ?_;refine .seq ?_;refine .sr ?_;refine vk (Aa) ?_;refine vk (vbi) ?_;refine rk [3,4,5,6,8,9,10,26,27,28,34] ?_
    rcases brc h with ⟨hc,h⟩|⟨hc,h⟩
    ·refine cnt (dT hc) ?_
     refine .sr ?_;refine vk (vbd BK Ax Az) ?_
     refine stn ?_ Ab (by decide)
     refine ar [3,4,5,6,8,9,10,26,27,28] ?_;refine .ret ?_
     cases h
     exact ⟨_,_,⟨.inr rfl,Ac,Ab,p2⟩,rfl,rfl⟩
    refine cnf (dF hc) ?_;refine .skip ?_
    show AW _ _ _ _ _ _
    refine .region ?_
    refine N4 (cs:=[.own 3 (Is s9)]) rfl rfl ?_ AB
    refine vk (Aa) ?_;refine vk (Aa) ?_;refine vk (Aa) ?_;refine vk (vng) ?_;refine vk (vmx) ?_
    obtain ⟨x11,g11,h⟩:=bnd h
    obtain ⟨n11,p011,q11⟩:=Ah g11
    refine ixr (off:=0) (len:=(Is s9).length) n11 p011 (by rw [Ae];exact (lS.1 q11).1) ?_ AS (by decide)
    refine JO (F:=Is) (D:=fun x=>.i .i64 x) EO (us:=s9) (n:=n11) (m:=Int.toNat s8) (x:=(if x10<(IntKind.wrap .i64 (0-x10)) then (IntKind.wrap .i64 (0-x10)) else x10)) (by rw [p011];rfl) ⟨_,by rw [Nat.zero_add];exact AZ q11,rfl⟩ ?_ CE
    refine RL.gk [3,4,5,6,8,9,10,26,27,28,34,37,38,39,40,41] ?_;refine .nil ?_
    show AW _ _ _ _ _ _
    refine .gk [3,4,5,6,8,26,27,28] ?_;refine .region ?_;refine vk (vbi) ?_;refine vk (Aa) ?_;refine .nil ?_;refine AL.gk [3,4,5,6,8,26,27,28] ?_
    exact ih (k,s6,s7,(w64 (s8+1)),(List.set s9 (Int.toNat s8) (if x10<(IntKind.wrap .i64 (0-x10)) then (IntKind.wrap .i64 (0-x10)) else x10))) h (Nat.lt_succ_self _)
   refine cnf (dF hc) ?_;refine .gk [3,4,5,6,8] ?_;refine .exit ?_
   exact jr (s6,s7,s9) h
  rintro ⟨z3,z4,z5⟩ h
  try dsimp only at h ⊢
  subst hK0
  show AW _ _ _ _ _ _
  refine .seq ?_;refine .gh (Gh.nbp (t:=3) rfl) ?_;refine .region ?_;refine vk (vfa Ak) ?_;refine vk (Ag AB) ?_
  obtain ⟨x12,g12,h⟩:=bnd h
  refine vk (Aq (Bt g12) Tryz.call75) ?_;refine vk (van (Aj Iq) LZ) ?_
  refine P8 ?_ Hv
  refine RL.gh (Gh.nbp (t:=11) rfl) ?_;refine rk [3,4,5,6,8,11] ?_;refine .sr ?_;refine vk (AJ Ac Ab) ?_;refine fz (p:=.c 0 0) ?_;refine vk (JL (cs:=[.d (.sl (Is z5))]) (c:=.sl (Is z5)) rfl rfl AB) ?_;refine RL.gh2 (Gh2.pop (H0:=[]) (cs:=[.sl (Is z5)]) rfl rfl rfl rfl) ?_;refine vk (PM) ?_
  obtain ⟨x13,g13,h⟩:=bnd h
  refine vk (VOK.tupd (vs:=[.ag [.sl (Is x13.1.shape),.sl (Its x13.1.items)],.i .i64 x13.2]) (Aq (Eb (D6 Tryz.call77 (fun _ _ h=>JE h)) g13) Tryz.call76)) ?_;refine vk (vex) ?_;refine vk (vex) ?_
  refine stn ?_ Ab (by decide)
  refine ar [4,5] ?_;refine .ret ?_
  cases h
  exact ⟨_,_,⟨.inr rfl,Ac,Ab,p2⟩,rfl,rfl⟩
 refine cnt (ntt (dF hc)) ?_;refine .sr ?_;refine vk (vbd BK Ax Az) ?_;refine vk (Aa) ?_
 refine stn ?_ Ab (by decide)
 refine ar [3,4,5,6] ?_;refine .ret ?_
 cases h
 exact ⟨_,_,⟨.inr rfl,Ac,Ab,p2⟩,rfl,rfl⟩
def Cu (a0:Int) : Option (Bool):=((Hg (⟨#[226,141,180,44,226,141,170,226,134,145,226,134,147,226,140,189,226,138,150,226,141,137,47,226,140,191,92,226,141,128]⟩ : ByteArray) a0).bind fun x1=>(some (x1)))
theorem Fu {a0:Int} {r:Bool} (h:Cu a0=some r) :
  Fn Tryz.prog 21 [.i .i32 a0] (.d (.b r)):=by
 unfold Cu at h
 refine Fn.o1 2 5 Tryz.func21 ?_;refine .sr ?_;refine ar [0,2] ?_;refine .sr ?_;refine vk (Aa) ?_
 obtain ⟨x1,g1,h⟩:=bnd h
 refine vk (Aq (KI g1) Tryz.call42) ?_;refine ar [2] ?_;refine .ret ?_
 cases h
 exact ⟨rfl,rfl⟩
def Ef (a0:Int) (a1:Arr) (a2:Arr) : Option (Arr):=((Hg (⟨#[44,226,141,170]⟩ : ByteArray) a0).bind fun x1=>(if (x1&&(decide (((List.length a2.shape:Nat) : Int)<((List.length a1.shape:Nat) : Int))))=true then (some (a1)) else (some (a2))))
theorem IT {a0:Int} {a1:Arr} {a2:Arr} {r:Arr} (h:Ef a0 a1 a2=some r) :
  Fn Tryz.prog 41 [.i .i32 a0,.ag [.sl (Is a1.shape),.sl (Its a1.items)],.ag [.sl (Is a2.shape),.sl (Its a2.items)]] (.d (.ag [.sl (Is r.shape),.sl (Its r.items)])):=by
 unfold Ef at h
 refine Fn.ofC (rs:=[.cell 6 27]) (nt:=20) Tryz.func41 rfl rfl rfl (by simp) rfl ?_;refine .sr ?_;refine vk (vbx) ?_;refine vk (vbx) ?_;refine vk (van (Aj Ax) Az) ?_;refine rk [0,4,5,6] ?_;refine .seq ?_;refine .seq ?_
 obtain ⟨x1,g1,h⟩:=bnd h
 refine AW.mr (σ:=Unit) (fun _=>True) (fun _=>[(4,.d (.ptr [.sl (Is a1.shape),.sl (Its a1.items)])),(5,.d (.ptr [.sl (Is a2.shape),.sl (Its a2.items)])),(6,.nb [.sl (Is []),.sl (Its [])]),(17,.d (.b (x1&&(decide (((List.length a2.shape:Nat):Int)<((List.length a1.shape:Nat):Int))))))]) (fun _=>[]) ?_ ?_
 ·skip
  refine .region ?_;refine vk (Aa) ?_;refine vk (Aq (KI g1) Tryz.call42) ?_
  by_cases hc:x1=true
  ·have hb0:x1=true:=hc
   refine vk (VOK.lit (Aa) hb0) ?_;refine vk (vfa Ak) ?_;refine vk (Ag AB) ?_;refine vk (AT (Ae _) (A9 _) A6) ?_;refine vk (vfa Ak) ?_;refine vk (Ag AB) ?_;refine vk (AT (Ae _) (A9 _) A6) ?_;refine vk (vbi) ?_;refine vk (Ao) ?_;refine RL.gk [4,5,6,17] ?_;refine .nil ?_
   exact jr () trivial (by simp only [hb0];rfl)
  have hb0:x1=false:=(bf hc)
  refine vk (VOK.lit (Aa) hb0) ?_;refine gf ?_;refine gf ?_;refine gf ?_;refine gf ?_;refine gf ?_;refine gf ?_;refine gf ?_;refine vk (Ao) ?_;refine RL.gk [4,5,6,17] ?_;refine .nil ?_
  exact jr () trivial (by simp only [hb0];rfl)
 rintro _ _
 rcases brc h with ⟨hc,h⟩|⟨hc,h⟩
 ·refine cnt hc ?_
  refine .sr ?_;refine vk (AJ Ac Ab) ?_
  refine stn ?_ Ab (by decide)
  refine rk [5,6] ?_;refine .ret ?_
  cases h
  exact ⟨_,⟨.inr rfl,Ac,Ab,p2⟩,rfl⟩
 refine cnf (bf hc) ?_;refine .skip ?_
 show AW _ _ _ _ _ _
 refine .sr ?_;refine vk (AJ Ac Ab) ?_
 refine stn ?_ Ab (by decide)
 refine rk [6] ?_;refine .ret ?_
 cases h
 exact ⟨_,⟨.inr rfl,Ac,Ab,p2⟩,rfl⟩
def AU (a0:(Int×RT×Int)) (a1:Int) (a2:Arr) (a3:Arr) : Option (Arr×Int):=((Cu a1).bind fun x1=>(if x1=true then ((Dp a0 ([a2,a3])).bind fun x2=>(if x2=true then (if a1=9076 then ((Db a2).bind fun x3=>(if x3.2=0 then ((AF x3.1 a3.items).bind fun x4=>(some (x4.1,x4.2))) else (some ((Arr.mk [] []),x3.2)))) else (if a1=8593 then ((DM a2 a3).bind fun x5=>(some (x5.1,x5.2))) else (if a1=8595 then ((Da a2 a3).bind fun x6=>(some (x6.1,x6.2))) else (if a1=9033 then none else ((F5 JZ a1).bind fun x7=>((Ef a1 a2 a3).bind fun x8=>((Hg (⟨#[226,141,170,226,138,150,226,140,191,226,141,128]⟩ : ByteArray) a1).bind fun x9=>((Eh x8 x9).bind fun x10=>((x7.g (a2,a3,x10)).bind fun x11=>(some (x11.1,x11.2))))))))))) else (some ((Arr.mk [] []),22)))) else (some ((Arr.mk [] []),23))))
theorem CL {a0:(Int×RT×Int)} {a1:Int} {a2:Arr} {a3:Arr} {r:Arr×Int} (h:AU a0 a1 a2 a3=some r) :
  Fn Tryz.prog 11 [.ag [.i .i64 a0.1,.b a0.2.1.1,.sl (L a0.2.1.2.1),.sl (L a0.2.1.2.2),.i .i64 a0.2.2],.i .i32 a1,.ag [.sl (Is a2.shape),.sl (Its a2.items)],.ag [.sl (Is a3.shape),.sl (Its a3.items)]] (.tup [.d (.ag [.sl (Is r.1.shape),.sl (Its r.1.items)]),.d (.i .i64 r.2)]):=by
 unfold AU at h
 refine Fn.ofC (rs:=[.cell 8 27,.tmp 9]) (nt:=80) Tryz.func11 rfl rfl rfl (by simp) rfl ?_;refine .sr ?_;refine vk (vbx) ?_;refine vk (vbx) ?_;refine vk (vbx) ?_;refine vk (van (Aj Ax) Az) ?_;refine ar [1,4,6,7,8,9] ?_;refine .seq ?_;refine .block ?_;refine .sr ?_;refine vk (Aa) ?_
 obtain ⟨x1,g1,h⟩:=bnd h
 refine vk (Aq (Fu g1) Tryz.call21) ?_;refine vk (vnt) ?_;refine ar [1,4,6,7,8,9,12] ?_
 rcases brc h with ⟨hc,h⟩|⟨hc,h⟩
 ·refine cnf (ntf hc) ?_
  refine .sr ?_;refine vk (AJ Pb MU) ?_;refine vk (AJ Ac Ab) ?_;refine vk (AJ Ac Ab) ?_;refine vk ((D0 (So a2 a3) (GO [a2,a3]) HZ).deep) ?_
  obtain ⟨x2,g2,h⟩:=bnd h
  refine vk (Aq (GN g2) Tryz.call34) ?_;refine vk (vnt) ?_;refine ar [1,4,6,7,8,9,17] ?_
  rcases brc h with ⟨hc,h⟩|⟨hc,h⟩
  ·refine cnf (ntf hc) ?_
   refine .skip ?_
   show AW _ _ _ _ _ _
   refine .seq ?_;refine .sr ?_;refine vk (Aa) ?_;refine rk [1,4,6,7,8,9,25] ?_;refine .block ?_;refine .sr ?_;refine vk (vbi) ?_;refine ar [1,4,6,7,8,9,25,26] ?_
   rcases brc h with ⟨hc,h⟩|⟨hc,h⟩
   ·refine cnt (dT hc) ?_
    refine .sr ?_;refine vk (AJ Ac Ab) ?_
    obtain ⟨x3,g3,h⟩:=bnd h
    refine vk (VOK.tupd (vs:=[.sl (Is x3.1),.i .i64 x3.2]) (Aq (FE g3) Tryz.call35)) ?_;refine vk (Aa) ?_;refine vk (vex) ?_;refine vk (vex) ?_;refine asd ?_;refine ar [1,6,7,8,9,10,11] ?_;refine .seq ?_;refine .sr ?_;refine vk (Aa) ?_;refine vk (vbi) ?_;refine rk [1,6,7,8,9,10,11,34] ?_
    rcases brc h with ⟨hc,h⟩|⟨hc,h⟩
    ·refine cnf (ntf (dT hc)) ?_
     refine .skip ?_
     show AW _ _ _ _ _ _
     refine .sr ?_;refine vk (Aa) ?_;refine vk (vfa AG) ?_;refine vk (Ag Bp) ?_
     obtain ⟨x4,g4,h⟩:=bnd h
     refine vk (VOK.tupd (vs:=[.ag [.sl (Is x4.1.shape),.sl (Its x4.1.items)],.i .i64 x4.2]) (Aq (BT g4) Tryz.call10)) ?_;refine vk (vex) ?_;refine vk (vex) ?_
     refine stn ?_ Ab (by decide)
     refine ar [1,6,7,8,9] ?_;refine .ret ?_
     cases h
     exact ⟨_,_,⟨.inr rfl,Ac,Ab,p2⟩,rfl,rfl⟩
    refine cnt (ntt (dF hc)) ?_;refine .sr ?_;refine vk (vbd BK Ax Az) ?_;refine vk (Aa) ?_
    refine stn ?_ Ab (by decide)
    refine ar [1,6,7,8,9,10] ?_;refine .ret ?_
    cases h
    exact ⟨_,_,⟨.inr rfl,Ac,Ab,p2⟩,rfl,rfl⟩
   refine cnf (dF hc) ?_;refine .sr ?_;refine vk (vbi) ?_;refine ar [1,4,6,7,8,9,25,43] ?_
   rcases brc h with ⟨hc,h⟩|⟨hc,h⟩
   ·refine cnt (dT hc) ?_
    refine .sr ?_;refine vk (AJ Ac Ab) ?_;refine vk (AJ Ac Ab) ?_
    obtain ⟨x5,g5,h⟩:=bnd h
    refine vk (VOK.tupd (vs:=[.ag [.sl (Is x5.1.shape),.sl (Its x5.1.items)],.i .i64 x5.2]) (Aq (KU g5) Tryz.call36)) ?_;refine vk (vex) ?_;refine vk (vex) ?_
    refine stn ?_ Ab (by decide)
    refine ar [1,6,7,8,9] ?_;refine .ret ?_
    cases h
    exact ⟨_,_,⟨.inr rfl,Ac,Ab,p2⟩,rfl,rfl⟩
   refine cnf (dF hc) ?_;refine .sr ?_;refine vk (vbi) ?_;refine ar [1,4,6,7,8,9,25,50] ?_
   rcases brc h with ⟨hc,h⟩|⟨hc,h⟩
   ·refine cnt (dT hc) ?_
    refine .sr ?_;refine vk (AJ Ac Ab) ?_;refine vk (AJ Ac Ab) ?_
    obtain ⟨x6,g6,h⟩:=bnd h
    refine vk (VOK.tupd (vs:=[.ag [.sl (Is x6.1.shape),.sl (Its x6.1.items)],.i .i64 x6.2]) (Aq (K8 g6) Tryz.call37)) ?_;refine vk (vex) ?_;refine vk (vex) ?_
    refine stn ?_ Ab (by decide)
    refine ar [1,6,7,8,9] ?_;refine .ret ?_
    cases h
    exact ⟨_,_,⟨.inr rfl,Ac,Ab,p2⟩,rfl,rfl⟩
   refine cnf (dF hc) ?_;refine .sr ?_;refine vk (vbi) ?_;refine ar [1,4,6,7,8,9,57] ?_
   rcases brc h with ⟨hc,h⟩|⟨hc,h⟩
   ·refine cnt (dT hc) ?_
    refine .sr ?_;refine vk (AJ Pb MU) ?_;refine vk (AJ Ac Ab) ?_;refine vk (AJ Ac Ab) ?_
    exact nomatch h
   refine cnf (dF hc) ?_;refine .skip ?_
   show AW _ _ _ _ _ _
   refine .seq ?_;refine .drawn 15 A8 (by kernel_rfl) ?_;refine dv (Aq QM Tryz.call39) ?_;refine dv (Aa) ?_
   obtain ⟨x7,g7,h⟩:=bnd h
   obtain ⟨ox7,isx7⟩:=QO g7
   refine dv (S3 RA EW gkR g7) ?_;refine dv (AJ Ac Ab) ?_;refine dv (AJ Ac Ab) ?_;refine dv (Aa) ?_;refine dv (AJ Ac Ab) ?_;refine dv (AJ Ac Ab) ?_
   obtain ⟨x8,g8,h⟩:=bnd h
   refine dv (Aq (IT g8) Tryz.call41) ?_;refine dv (Aa) ?_
   obtain ⟨x9,g9,h⟩:=bnd h
   refine dv (Aq (KI g9) Tryz.call42) ?_
   obtain ⟨x10,g10,h⟩:=bnd h
   refine dv (Aq (Ia g10) Tryz.call40) ?_
   obtain ⟨x11,g11,h⟩:=bnd h
   refine dv (VOK.tupd (vs:=[.ag [.sl (Is x11.1.shape),.sl (Its x11.1.items)],.i .i64 x11.2]) (No (ox7 _ _ g11))) ?_;refine dv (vex) ?_;refine dv (vex) ?_;refine dz ?_
   refine stn ?_ Ab (by decide)
   refine ar [8,9] ?_;refine .ret ?_
   cases h
   exact ⟨_,_,⟨.inr rfl,Ac,Ab,p2⟩,rfl,rfl⟩
  refine cnt (ntt (bf hc)) ?_;refine .sr ?_;refine vk (vbd BK Ax Az) ?_
  refine stn ?_ Ab (by decide)
  refine ar [1,4,6,7,8,9] ?_;refine .ret ?_
  cases h
  exact ⟨_,_,⟨.inr rfl,Ac,Ab,p2⟩,rfl,rfl⟩
 refine cnt (ntt (bf hc)) ?_;refine .sr ?_;refine vk (vbd BK Ax Az) ?_
 refine stn ?_ Ab (by decide)
 refine ar [1,4,6,7,8,9] ?_;refine .ret ?_
 cases h
 exact ⟨_,_,⟨.inr rfl,Ac,Ab,p2⟩,rfl,rfl⟩
def Dh : Option ((Int×RT×Int)):=(some ((1,(false,[],[]),0)))
theorem Dd {r:(Int×RT×Int)} (h:Dh=some r) :
  Fn Tryz.prog 12 [] (.d (.ag [.i .i64 r.1,.b r.2.1.1,.sl (L r.2.1.2.1),.sl (L r.2.1.2.2),.i .i64 r.2.2])):=by
 unfold Dh at h
 refine Fn.ofC (rs:=[.cell 0 36]) (nt:=2) Tryz.func12 rfl rfl rfl (by simp) rfl ?_;refine .sr ?_;refine vk (van (Aj Td) S9) ?_;refine rk [0] ?_;refine .sr ?_;refine vk (vbd Uz Td S9) ?_
 refine stn ?_ MU (by decide)
 refine rk [0] ?_;refine .ret ?_
 cases h
 exact ⟨_,⟨.inr rfl,Pb,MU,(by decide:(0:Nat)<5)⟩,rfl⟩
def Eg : Option (Bool):=(Dh.bind fun x1=>((Om ([2,2])).bind fun x2=>((Om ([1,2,3])).bind fun x3=>((AU x1 9076 x2 x3).bind fun x4=>(Dh.bind fun x5=>((FA x5 9033 x4.1).bind fun x6=>(Option.bind ((if x4.2=0 then (if x6.2=0 then (if ((List.length x6.1.items:Nat) : Int)=4 then ((Bg x6.1).bind fun x8=>(if x8=true then ((Lp x6.1).bind fun x9=>((GC x6.1 x9).bind fun x10=>(if x10=true then ((Cu 9066).bind fun x11=>(if x11=true then ((G7 x4.1 x6.1).bind fun x12=>(some (!x12))) else (some false))) else (some false)))) else (some false))) else (some false)) else (some false)) else (some false)) : Option (Bool)) fun (z7:Bool)=>(some (z7)))))))))
theorem Fc {r:Bool} (h:Eg=some r) :
  Fn Tryz.prog 9 [] (.d (.b r)):=by
 unfold Eg at h
 refine Fn.o1 0 51 Tryz.func9 ?_;refine .sr ?_;refine ar [0] ?_;refine .sr ?_
 obtain ⟨x1,g1,h⟩:=bnd h
 refine vk (Aq (Dd g1) Tryz.call12) ?_;refine vk ((Hq (CY [2,2]) Ct).deep) ?_
 obtain ⟨x2,g2,h⟩:=bnd h
 refine vk (Aq (LP g2) Tryz.call13) ?_;refine vk ((Hq (CY [1,2,3]) Ct).deep) ?_
 obtain ⟨x3,g3,h⟩:=bnd h
 refine vk (Aq (LP g3) Tryz.call13) ?_
 obtain ⟨x4,g4,h⟩:=bnd h
 refine vk (VOK.tupd (vs:=[.ag [.sl (Is x4.1.shape),.sl (Its x4.1.items)],.i .i64 x4.2]) (Aq (CL g4) Tryz.call11)) ?_;refine vk (Aa) ?_;refine vk (vex) ?_;refine vk (vex) ?_;refine vk (van (Aj Ax) Az) ?_
 refine stn ?_ Ab (by decide)
 refine ar [0,1,2] ?_;refine .seq ?_
 obtain ⟨x5,g5,h⟩:=bnd h
 obtain ⟨x6,g6,h⟩:=bnd h
 refine .drawnF 7 [5] [(3,.nb [.sl (Is x6.1.shape),.sl (Its x6.1.items)])] [] A8 (by kernel_rfl) rfl ?_;refine dv (Aq (Dd g5) Tryz.call12) ?_;refine dv (Ei Ac Ab) ?_;refine dv (VOK.tupd (vs:=[.ag [.sl (Is x6.1.shape),.sl (Its x6.1.items)],.i .i64 x6.2]) (Aq (IJ g6) Tryz.call17)) ?_;refine dv (Aa) ?_;refine dv (vex) ?_;refine dv (vex) ?_;refine dv (van (Aj Ax) Az) ?_;refine dz ?_
 refine ⟨?_,?_,?_⟩
 ·intro k hk
  simp only [List.mem_cons,List.not_mem_nil,or_false] at hk
  subst hk
  exact ⟨_,_,_,rfl,rfl,rfl,rfl,rfl,rfl,vex⟩
 ·intro om e hom hge
  cases hom
  exact H7 (cs:=[.sl (Is []),.sl (Its [])]) (cs':=[.sl (Is x6.1.shape),.sl (Its x6.1.items)]) Ab (by decide) rfl ((hge 3 (fun k hk v hv=>by
    simp only [List.mem_cons,List.not_mem_nil,or_false] at hk
    subst hk;exact (by decide:¬(some 19=some 3)) (congrArg (Option.map Prod.fst) hv))).trans rfl) ((congrArg A2 (hge 18 (fun k hk v hv=>by
    simp only [List.mem_cons,List.not_mem_nil,or_false] at hk
    subst hk;exact (by decide:¬(some 19=some 18)) (congrArg (Option.map Prod.fst) hv)))).trans rfl) rfl rfl rfl rfl ⟨rfl,rfl⟩
 refine ar [0,1,2,3,4] ?_;refine .seq ?_;refine .gh (Gh.nbp (t:=3) rfl) ?_
 obtain ⟨z7,hz,h⟩:=bnd h
 refine AW.mr (σ:=Unit) (fun _=>True) (fun _=>[(0,.d (.b z7))]) (fun _=>[]) ?_ ?_
 ·skip
  refine .drawn 31 A8 (by kernel_rfl) ?_;refine dv (Aa) ?_;refine dv (vbi) ?_
  rcases brc hz with ⟨hc,hz⟩|⟨hc,hz⟩
  ·have hb0:(decide (x4.2=0))=true:=(dT hc)
   refine dv (VOK.lit (Aa) hb0) ?_;refine dv (Aa) ?_;refine dv (vbi) ?_;refine dv (Ao) ?_
   rcases brc hz with ⟨hc,hz⟩|⟨hc,hz⟩
   ·have hb1:(decide (x6.2=0))=true:=(dT hc)
    refine dv (VOK.lit (Aa) hb1) ?_;refine dv (vfa AG) ?_;refine dv (Ag Bp) ?_;refine dv (AT (Ay _) (B7 _) B8) ?_;refine dv (vbi) ?_;refine dv (Ao) ?_
    rcases brc hz with ⟨hc,hz⟩|⟨hc,hz⟩
    ·have hb2:(decide (((List.length x6.1.items:Nat):Int)=4))=true:=(dT hc)
     refine dv (VOK.lit (Aa) hb2) ?_;refine dv (AJ Ac Ab) ?_
     obtain ⟨x8,g8,hz⟩:=bnd hz
     refine dv (Aq (BC g8) Tryz.call15) ?_;refine dv (Ao) ?_
     rcases brc hz with ⟨hc,hz⟩|⟨hc,hz⟩
     ·have hb3:x8=true:=hc
      refine dv (VOK.lit (Aa) hb3) ?_;refine dv (AJ Ac Ab) ?_;refine dv (AJ Ac Ab) ?_
      obtain ⟨x9,g9,hz⟩:=bnd hz
      refine dv (Aq (Mt g9) Tryz.call16) ?_
      obtain ⟨x10,g10,hz⟩:=bnd hz
      refine dv (Aq (Hp g10) Tryz.call14) ?_;refine dv (Ao) ?_
      rcases brc hz with ⟨hc,hz⟩|⟨hc,hz⟩
      ·have hb4:x10=true:=hc
       refine dv (VOK.lit (Aa) hb4) ?_
       obtain ⟨x11,g11,hz⟩:=bnd hz
       refine dv (Aq (Fu g11) Tryz.call21) ?_;refine dv (Ao) ?_
       rcases brc hz with ⟨hc,hz⟩|⟨hc,hz⟩
       ·have hb5:x11=true:=hc
        refine dv (VOK.lit (Aa) hb5) ?_;refine dv (Ei Ac Ab) ?_;refine dv (AJ Ac Ab) ?_
        obtain ⟨x12,g12,hz⟩:=bnd hz
        refine dv (Aq (Ki g12) Tryz.call25) ?_;refine dv (vnt) ?_;refine dv (Ao) ?_;refine dz ?_;refine asd ?_;refine RL.gk [0] ?_;refine .nil ?_
        cases hz
        exact jr () trivial
       have hb5:x11=false:=(bf hc)
       refine dv (VOK.lit (Aa) hb5) ?_;refine dgf ?_;refine dgf ?_;refine dgf ?_;refine dgf ?_;refine dv (Ao) ?_;refine dz ?_;refine asd ?_;refine RL.gk [0] ?_;refine .nil ?_
       cases hz
       exact jr () trivial
      have hb4:x10=false:=(bf hc)
      refine dv (VOK.lit (Aa) hb4) ?_;refine dgf ?_;refine dv (Ao) ?_;refine dv (Aa) ?_;refine dgf ?_;refine dgf ?_;refine dgf ?_;refine dgf ?_;refine dv (Ao) ?_;refine dz ?_;refine asd ?_;refine RL.gk [0] ?_;refine .nil ?_
      cases hz
      exact jr () trivial
     have hb3:x8=false:=(bf hc)
     refine dv (VOK.lit (Aa) hb3) ?_;refine dgf ?_;refine dgf ?_;refine dgf ?_;refine dgf ?_;refine dv (Ao) ?_;refine dv (Aa) ?_;refine dgf ?_;refine dv (Ao) ?_;refine dv (Aa) ?_;refine dgf ?_;refine dgf ?_;refine dgf ?_;refine dgf ?_;refine dv (Ao) ?_;refine dz ?_;refine asd ?_;refine RL.gk [0] ?_;refine .nil ?_
     cases hz
     exact jr () trivial
    have hb2:(decide (((List.length x6.1.items:Nat):Int)=4))=false:=(dF hc)
    refine dv (VOK.lit (Aa) hb2) ?_;refine dgf ?_;refine dgf ?_;refine dv (Ao) ?_;refine dv (Aa) ?_;refine dgf ?_;refine dgf ?_;refine dgf ?_;refine dgf ?_;refine dv (Ao) ?_;refine dv (Aa) ?_;refine dgf ?_;refine dv (Ao) ?_;refine dv (Aa) ?_;refine dgf ?_;refine dgf ?_;refine dgf ?_;refine dgf ?_;refine dv (Ao) ?_;refine dz ?_;refine asd ?_;refine RL.gk [0] ?_;refine .nil ?_
    cases hz
    exact jr () trivial
   have hb1:(decide (x6.2=0))=false:=(dF hc)
   refine dv (VOK.lit (Aa) hb1) ?_;refine dgf ?_;refine dgf ?_;refine dgf ?_;refine dgf ?_;refine dv (Ao) ?_;refine dv (Aa) ?_;refine dgf ?_;refine dgf ?_;refine dv (Ao) ?_;refine dv (Aa) ?_;refine dgf ?_;refine dgf ?_;refine dgf ?_;refine dgf ?_;refine dv (Ao) ?_;refine dv (Aa) ?_;refine dgf ?_;refine dv (Ao) ?_;refine dv (Aa) ?_;refine dgf ?_;refine dgf ?_;refine dgf ?_;refine dgf ?_;refine dv (Ao) ?_;refine dz ?_;refine asd ?_;refine RL.gk [0] ?_;refine .nil ?_
   cases hz
   exact jr () trivial
  have hb0:(decide (x4.2=0))=false:=(dF hc)
  refine dv (VOK.lit (Aa) hb0) ?_;refine dgf ?_;refine dgf ?_;refine dv (Ao) ?_;refine dv (Aa) ?_;refine dgf ?_;refine dgf ?_;refine dgf ?_;refine dgf ?_;refine dv (Ao) ?_;refine dv (Aa) ?_;refine dgf ?_;refine dgf ?_;refine dv (Ao) ?_;refine dv (Aa) ?_;refine dgf ?_;refine dgf ?_;refine dgf ?_;refine dgf ?_;refine dv (Ao) ?_;refine dv (Aa) ?_;refine dgf ?_;refine dv (Ao) ?_;refine dv (Aa) ?_;refine dgf ?_;refine dgf ?_;refine dgf ?_;refine dgf ?_;refine dv (Ao) ?_;refine dz ?_;refine asd ?_;refine RL.gk [0] ?_;refine .nil ?_
  cases hz
  exact jr () trivial
 rintro _ _
 refine .ret ?_
 cases h
 exact ⟨rfl,rfl⟩
theorem Uq : Eg=some true:=by kernel_rfl
theorem U5 : Dh=some (1,(false,[],[]),0):=by kernel_rfl
theorem Po {a b:Arr} {e:Int×RT×Int} (he:e.1=0∨e.1=1) (oa:okAr a) (ob:okAr b) (ra:Be a) (rb:Be b) : Dp e [a,b]=some true:=by
 rw [Ow he (by simp) (by simpa using ⟨oa,ob⟩)]
 simp [ra,rb]
theorem TN : Cu 8595=some true:=by kernel_rfl
theorem Uu {e:Int×RT×Int} (he:e.1=0∨e.1=1) {a b:Arr} (oa:okAr a) (ra:Be a) (ob:okAr b) (rb:Be b) : AU e 8595 a b=Da a b:=by
 unfold AU
 rw [TN,oB,if_pos rfl,Po he oa ob ra rb,oB,if_pos rfl,if_neg (by decide),if_neg (by decide),if_pos rfl]
 cases Da a b<;>rfl
end Go.FL
