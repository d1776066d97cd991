/-
  Part 4 of the base of the proofs: a logic of our own over the calculus, the contracts of the functions
-/
import Derived.Test.YtjmalfcinmmekaaGreatPrC
set_option linter.unusedVariables false
namespace Go.FL
open Go Go.Proofs
def Tells (x:Option Bool) (p:Prop) : Prop:=∃ r,x=some r∧(r=true↔p)
theorem Tells.of {x:Option Bool} {p q:Prop} (h:Tells x p) (e:p↔q) : Tells x q:=by
 obtain ⟨r,h1,h2⟩:=h;exact ⟨r,h1,h2.trans e⟩
theorem Tells.yes {x:Option Bool} {p:Prop} (h:Tells x p) (hp:p) : x=some true:=by
 obtain ⟨r,h1,h2⟩:=h;rw [h1,h2.2 hp]
theorem Tells.no {x:Option Bool} {p:Prop} (h:Tells x p) (hp:¬p) : x=some false:=by
 obtain ⟨r,h1,h2⟩:=h
 cases r with
 | true=>exact absurd (h2.1 rfl) hp
 | false=>exact h1
theorem Bp {α β:Type} (k:α) (b:α→β) : jn k b=b k:=rfl
theorem Om {s:List Int} (h:s.length≤17592186044416) : Fg s=some s:=by unfold Fg;rw [IH (by simpa using h),List.nil_append]
theorem KF {r:RT} (h:HQ r=true) : C6 r=some r:=by
 have h1:=KG.1 h
 unfold C6
 rw [Gm,if_pos h1.2.2.1,oB,Gm,if_pos h1.2.2.2,oB]
theorem L6 {r:RT} (h:HQ r=true) : Cm r=some (.mk 1 r 0 []):=by
 unfold Cm;rw [KF h,oB]
theorem Mf {a:Arr} {f:Cu} {h:Itm→Itm} (hf:∀ x∈a.items,f.g x=some (h x)) (K:List Int→List Itm→Option Arr) (hl:a.items.length≤1466015503701) : ∀ (n i k:Nat) (s:List Int) (t:List Itm),n=a.items.length-i→i≤a.items.length→n<k→t.length=i →
  CE a f K k (i:Int) s t=K s (t++(a.items.drop i).map h)
 | n,i,0,s,t,_,_,h,_=>by omega
 | n,i,k+1,s,t,hn,hi,hk,ht=>by
  rw [CE]
  by_cases hlt:i<a.items.length
  ·rw [if_pos (by omega),BE hlt,oB,hf _ (List.getElem_mem _),oB,IH (by simp;omega),oB,Bo (by omega),
    Mf hf K hl (n-1) (i+1) k s _ (by omega) (by omega) (by omega) (by simp [ht]),lC hlt,List.map_cons,List.append_assoc]
   rfl
  ·rw [if_neg (by omega),List.drop_of_length_le (by omega)];simp
theorem LD {a:Arr} {f:Cu} {h:Itm→Itm} (hf:∀ x∈a.items,f.g x=some (h x)) (hs:a.shape.length≤17592186044416) (hl:a.items.length≤1466015503701) : CI a f=some (.mk a.shape (a.items.map h)):=by
 unfold CI
 rw [Om hs,oB]
 simp only [jn]
 have:=Mf hf (fun z2 z3=>some (Arr.mk z2 z3)) hl a.items.length 0 As a.shape [] rfl (Nat.zero_le _) (AY (by omega)) rfl
 rw [List.drop_zero,show ((0:Nat):Int)=0 from rfl,List.nil_append] at this
 exact this
theorem NC {rc:Itm→Option Itm} {x:Itm} (hb:∀ a∈x.box,okAr a) (hrc:∀ a∈x.box,∀ y∈a.items,rc y=some y) (K:Int→Bool→List Nat→List Nat→Int→List Arr→Option Itm) (hl:x.box.length≤2932031007402) : ∀ (n i k:Nat) (s1:Int) (s2:Bool) (s3 s4:List Nat) (s5:Int) (t:List Arr),n=x.box.length-i→i≤x.box.length→n<k→t.length=i →
  Ed rc x K k (i:Int) s1 s2 s3 s4 s5 t=K s1 s2 s3 s4 s5 (t++x.box.drop i)
 | n,i,0,s1,s2,s3,s4,s5,t,_,_,h,_=>by omega
 | n,i,k+1,s1,s2,s3,s4,s5,t,hn,hi,hk,ht=>by
  rw [Ed]
  by_cases hlt:i<x.box.length
  ·have hm:=List.getElem_mem hlt
   have ho:=(BW _).1 (hb _ hm)
   have hc:=LD (a:=x.box[i]) (f:=⟨.fn 63 [] [],fun x=>rc x⟩) (h:=id) (fun y hy=>hrc _ hm y hy) ho.2.1 ho.2.2.1
   rw [List.map_id,Arr.eta] at hc
   rw [if_pos (by omega),BE hlt,oB,hc,oB,IH (by simp;omega),oB,Bo (by omega),
    NC hb hrc K hl (n-1) (i+1) k s1 s2 s3 s4 s5 _ (by omega) (by omega) (by omega) (by simp [ht]),lC hlt,List.append_assoc]
   rfl
  ·rw [if_neg (by omega),List.drop_of_length_le (by omega)];simp
theorem OS : ∀ (k:Nat) {x:Itm},x.size<k→okI x→Fx k x=some x
 | 0,x,h,_=>by omega
 | k+1,x,h,ho=>by
  have h1:=(E5 x).1 ho
  rw [Fx,Jh,KF h1.2.1,oB]
  simp only [jn]
  have:=NC (rc:=Fx k) (x:=x) h1.2.2.2.2 (fun a ha y hy=>OS k (by have:=Hy ha;have:=HT hy;omega) (((BW a).1 (h1.2.2.2.2 a ha)).2.2.2 y hy))
   (fun z2 z3 z4 z5 z6 z7=>some (Itm.mk z2 (z3,z4,z5) z6 z7)) h1.2.2.2.1 x.box.length 0 As x.kind x.num.1 x.num.2.1 x.num.2.2 x.char [] rfl (Nat.zero_le _) (AY (by omega)) rfl
  rw [List.drop_zero,show ((0:Nat):Int)=0 from rfl,List.nil_append] at this
  rw [this]
  exact congrArg some (Itm.eta x)
theorem LI {x:Itm} (h:okI x) : Hc x=some x:=OS _ (Nat.lt_succ_self _) h
theorem LR {a:Arr} (h:okAr a) : CI a (⟨.fn 63 [] [],fun x=>Hc x⟩ : Cu)=some a:=by
 have ho:=(BW a).1 h
 have:=LD (a:=a) (f:=⟨.fn 63 [] [],fun x=>Hc x⟩) (h:=id) (fun y hy=>LI (ho.2.2.2 y hy)) ho.2.1 ho.2.2.1
 rwa [List.map_id,Arr.eta] at this
mutual
def smI : Itm→Prop
 | .mk _ n _ b=>okL 1048576 n.2.1=true∧okL 1048576 n.2.2=true∧smAs b
def smA : Arr→Prop
 | .mk _ i=>smIs i
def smIs : List Itm→Prop
 | []=>True
 | x::xs=>smI x∧smIs xs
def smAs : List Arr→Prop
 | []=>True
 | x::xs=>smA x∧smAs xs
end
theorem Itm.ext_iff' (x y:Itm) : x=y↔x.kind=y.kind∧x.char=y.char∧x.num=y.num∧x.box=y.box:=by
 cases x;cases y;simp only [Itm.mk.injEq,Itm.kind,Itm.char,Itm.num,Itm.box]
 constructor
 ·rintro ⟨a,b,c,d⟩;exact ⟨a,c,b,d⟩
 ·rintro ⟨a,b,c,d⟩;exact ⟨a,c,b,d⟩
theorem Arr.ext_iff' (x y:Arr) : x=y↔x.shape=y.shape∧x.items=y.items:=by cases x;cases y;simp only [Arr.mk.injEq,Arr.shape,Arr.items]
theorem OB {rc:Arr→Arr→Option Bool} {x y:Itm} (hrc:∀ a∈x.box,∀ b∈y.box,Tells (rc a b) (a=b)) (hab:x.box.length=y.box.length) (K:Bool→Option Bool) (hK:∀ s,K s=some true) (hl:x.box.length≤17592186044416) : ∀ (n i k:Nat) (s:Bool),n=x.box.length-i→i≤x.box.length→n<k →
  Tells (B5 rc x y K k s (i:Int)) (x.box.drop i=y.box.drop i)
 | n,i,0,s,_,_,h=>by omega
 | n,i,k+1,s,hn,hi,hk=>by
  rw [B5]
  by_cases hlt:i<x.box.length
  ·have hlt2:i<y.box.length:=by omega
   rw [if_pos (by omega),BE hlt,oB,BE hlt2,oB,lC hlt,lC hlt2]
   obtain ⟨r,h1,h2⟩:=hrc _ (List.getElem_mem hlt) _ (List.getElem_mem hlt2)
   rw [h1,oB]
   by_cases hc:r=true
   ·rw [if_pos hc,Bo (by omega)]
    refine (OB hrc hab K hK hl (n-1) (i+1) k s (by omega) (by omega) (by omega)).of ?_
    rw [List.cons.injEq];exact ⟨fun h=>⟨h2.1 hc,h⟩,fun h=>h.2⟩
   ·rw [if_neg hc]
    exact ⟨false,rfl,⟨nofun,fun h=>absurd (h2.2 (List.cons.inj h).1) hc⟩⟩
  ·rw [if_neg (by omega),List.drop_of_length_le (by omega),List.drop_of_length_le (by omega),hK];exact ⟨true,rfl,by simp⟩
theorem PB {rc:Arr→Arr→Option Bool} {x y:Itm} (hx:okI x) (hrc:∀ a∈x.box,∀ b∈y.box,Tells (rc a b) (a=b)) : Tells (CX rc x y) (x=y):=by
 have ox:=(E5 x).1 hx
 have on:=KG.1 ox.2.1
 unfold CX
 rw [Itm.ext_iff']
 by_cases h1:x.kind=y.kind
 rotate_left
 ·rw [if_neg h1];exact ⟨false,rfl,by simp [h1]⟩
 rw [if_pos h1]
 by_cases h2:x.char=y.char
 rotate_left
 ·rw [if_neg h2];exact ⟨false,rfl,by simp [h2]⟩
 rw [if_pos h2,Nc,if_pos (by simp [on.2.2.1,on.2.2.2]),oB]
 by_cases h3:x.num=y.num
 rotate_left
 ·rw [if_neg (by simpa using h3)];exact ⟨false,rfl,by simp [h3]⟩
 rw [if_pos (by simpa using h3),oB]
 by_cases h4:x.box.length=y.box.length
 rotate_left
 ·rw [if_pos (by simp;omega)];exact ⟨false,rfl,by simp;intro _ _ _ h;rw [h] at h4;exact h4 rfl⟩
 rw [if_neg (by simp;omega)]
 simp only [jn]
 have:=OB hrc h4 (fun _=>some true) (fun _=>rfl) (nT ox.2.2.2.1 (by decide)) x.box.length 0 As false rfl (Nat.zero_le _) (AY (by omega))
 rw [List.drop_zero,List.drop_zero,show ((0:Nat):Int)=0 from rfl] at this
 exact this.of (by simp [h1,h2,h3])
theorem Pd {a b:Arr} (hab:a.shape.length=b.shape.length) (K:Bool→Option Bool) {p:Prop} (hK:∀ s,Tells (K s) p) (hl:a.shape.length≤17592186044416) : ∀ (n i k:Nat) (s:Bool),n=a.shape.length-i→i≤a.shape.length→n<k →
  Tells (Di a b K k s (i:Int)) (a.shape.drop i=b.shape.drop i∧p)
 | n,i,0,s,_,_,h=>by omega
 | n,i,k+1,s,hn,hi,hk=>by
  rw [Di]
  by_cases hlt:i<a.shape.length
  ·have hlt2:i<b.shape.length:=by omega
   rw [if_pos (by omega),BE hlt,oB,BE hlt2,oB,lC hlt,lC hlt2]
   by_cases hc:a.shape[i]=b.shape[i]
   ·rw [if_pos hc,Bo (by omega)]
    exact (Pd hab K hK hl (n-1) (i+1) k s (by omega) (by omega) (by omega)).of (by rw [List.cons.injEq];exact ⟨fun h=>⟨⟨hc,h.1⟩,h.2⟩,fun h=>⟨h.1.2,h.2⟩⟩)
   ·rw [if_neg hc]
    exact ⟨false,rfl,⟨nofun,fun h=>absurd (List.cons.inj h.1).1 hc⟩⟩
  ·rw [if_neg (by omega),List.drop_of_length_le (by omega),List.drop_of_length_le (by omega)];exact (hK s).of (by simp)
theorem OY {rc:Arr→Arr→Option Bool} {a b:Arr} (hrc:∀ x∈a.items,∀ y∈b.items,Tells (CX rc x y) (x=y)) (hab:a.items.length=b.items.length) (K:Bool→Option Bool) (hK:∀ s,K s=some true) (hl:a.items.length≤17592186044416) : ∀ (n i k:Nat) (s:Bool),n=a.items.length-i→i≤a.items.length→n<k →
  Tells (CP rc a b K k s (i:Int)) (a.items.drop i=b.items.drop i)
 | n,i,0,s,_,_,h=>by omega
 | n,i,k+1,s,hn,hi,hk=>by
  rw [CP]
  by_cases hlt:i<a.items.length
  ·have hlt2:i<b.items.length:=by omega
   rw [if_pos (by omega),BE hlt,oB,BE hlt2,oB,lC hlt,lC hlt2]
   obtain ⟨r,h1,h2⟩:=hrc _ (List.getElem_mem hlt) _ (List.getElem_mem hlt2)
   rw [h1,oB]
   by_cases hc:r=true
   ·rw [if_pos hc,Bo (by omega)]
    refine (OY hrc hab K hK hl (n-1) (i+1) k s (by omega) (by omega) (by omega)).of ?_
    rw [List.cons.injEq];exact ⟨fun h=>⟨h2.1 hc,h⟩,fun h=>h.2⟩
   ·rw [if_neg hc]
    exact ⟨false,rfl,⟨nofun,fun h=>absurd (h2.2 (List.cons.inj h).1) hc⟩⟩
  ·rw [if_neg (by omega),List.drop_of_length_le (by omega),List.drop_of_length_le (by omega),hK];exact ⟨true,rfl,by simp⟩
theorem U3 {rc:Arr→Arr→Option Bool} {a b:Arr} (oa:a.shape.length≤17592186044416∧a.items.length≤1466015503701) (ih:∀ x∈a.items,∀ y∈b.items,Tells (CX rc x y) (x=y)) : Tells (Fh rc a b) (a=b):=by
 rw [Fh,Arr.ext_iff']
 by_cases h1:a.shape.length=b.shape.length∧a.items.length=b.items.length
 rotate_left
 ·rw [if_pos (by simp;omega)];exact ⟨false,rfl,by simp;intro e1 e2;exact h1 ⟨by rw [e1],by rw [e2]⟩⟩
 rw [if_neg (by simp;omega)]
 rw [Bp]
 have h2:=Pd h1.1 (p:=a.items=b.items) (fun z1=>jn (fun (z6:Bool)=>(some (true))) fun K2=>(CP rc a b K2 As z1 0)) (fun s=>by
  rw [Bp]
  have h3:=OY ih h1.2 (fun _=>some true) (fun _=>rfl) (nT oa.2 (by decide)) a.items.length 0 As s rfl (Nat.zero_le _) (AY (by omega))
  rw [show ((0:Nat):Int)=0 from rfl,List.drop_zero,List.drop_zero] at h3
  exact h3) oa.1 a.shape.length 0 As false rfl (Nat.zero_le _) (AY (by omega))
 rw [show ((0:Nat):Int)=0 from rfl,List.drop_zero,List.drop_zero] at h2
 exact h2
theorem Pc : ∀ (k:Nat) {a b:Arr},a.size<k→okAr a→Tells (EO k a b) (a=b)
 | 0,a,b,h,_=>by omega
 | k+1,a,b,h,ha=>by
  have oa:=(BW a).1 ha
  rw [EO]
  exact U3 ⟨oa.2.1,oa.2.2.1⟩ fun x hx y hy=>PB (oa.2.2.2 x hx) fun p hp q hq =>
   Pc k (by have:=HT hx;have:p.size<x.size:=Hy hp;omega) (((E5 x).1 (oa.2.2.2 x hx)).2.2.2.2 p hp)
theorem XS {a b:Arr} (ha:okAr a) : Tells (LF a b) (a=b):=Pc _ (Nat.lt_succ_self _) ha
section
variable {S:Type} (step:Itm→S→Option (Bool×S))
def PS : List Itm→S→Int→Option (Int×S)
 | [],s,_=>some (-1,s)
 | x::xs,s,i=>(step x s).bind fun r=>if r.1=true then some (i,r.2) else PS xs r.2 (i+1)
end
theorem YI {z:Int} (h1:-9223372036854775808≤z) (h2:z≤9223372036854775807) : w64 z=z:=by
 simp only [w64,IntKind.wrap,IntKind.bits,IntKind.signed];simp;omega
abbrev dvI (x:Itm) : DV:=.ag [.i .u8 x.kind,.b x.num.1,.sl (L x.num.2.1),.sl (L x.num.2.2),.i .i32 x.char,.sl (Ars x.box)]
abbrev dvA (x:Arr) : DV:=.ag [.sl (Is x.shape),.sl (Its x.items)]
set_option maxRecDepth 10000 in
theorem PF {S:Type} {step:Itm→S→Option (Bool×S)} {st:S→Ac→Prop} {f:FuncId} {caps:List AV} (hcall:∀ args w,(callFunc f args).run Tryz.prog w=.ok (.enter f args) w) (hnc:noOwnL caps=true)
  (hstep:∀ (x:Itm) s r H,st s H→step x s=some r→FnR Tryz.prog f (.d (dvI x)::caps) H fun v H'=>v=.d (.b r.1)∧st r.2 H')
  {xs:List Itm} {s:S} {r:Int×S} (hl:xs.length≤9223372036854775806) (h:PS step xs s 0=some r) {H:Ac} (hs:st s H) :
  FnR Tryz.prog 122 [.d (.sl (Its xs)),.fn f [] caps] H fun v H'=>v=.d (.i .i64 r.1)∧st r.2 H':=by
 have hfn:noOwn (.fn f [] caps)=true:=by simp [noOwn,noOwnL,hnc]
 refine FnR.of (rs:=[.tmp 4]) 19 Tryz.func122 rfl rfl rfl (by simp) ?_;refine .sr ?_;refine asd ?_;refine rn ?_;refine .seq ?_;refine .sr ?_;refine vk (Ae) ?_;refine vk (A5 (Au _) (BS _) BO) ?_;refine vk (Ae) ?_;refine rn ?_;refine .block ?_
 refine .loop (.gh (Gh.keep [0,1,7,8] rfl) ?_)
 refine AL.ind (σ:=Nat×S×Ac) (m:=fun p=>xs.length-p.1) (e:=fun p=>[(0,.d (.sl (Its xs))),(1,.fn f [] caps),(7,.d (.i .i64 ((List.length xs:Nat):Int))),(8,.d (.i .i64 ((p.1:Nat):Int)))]) (h:=fun p=>p.2.2)
  (I:=fun p=>p.1≤xs.length∧st p.2.1 p.2.2∧PS step (xs.drop p.1) p.2.1 (p.1:Int)=some r) ?_ (0,s,H) ⟨Nat.zero_le _,hs,h⟩
 rintro ⟨i,s,H⟩ ⟨hi,hs,h⟩ ih
 dsimp only at hi hs h ih ⊢
 refine .sr ?_;refine vk (vbi) ?_;refine rn ?_;refine .seq ?_
 by_cases hc:((i:Nat):Int)<((List.length xs:Nat):Int)
 ·refine cnt (dT hc) ?_
  have hlt:i<xs.length:=by omega
  rw [lC hlt,PS] at h
  obtain ⟨z,hz,h⟩:=bnd h
  refine .skip ?_;refine aw ?_;refine .seq ?_;refine .block ?_;refine .sr ?_;refine vk (Ae) ?_;refine asd ?_;refine rn ?_;refine .sr ?_;refine vk (YO (av:=.fn f [] caps) (hn:=hfn)) ?_;refine vk (Ae) ?_;refine vk (Ae) ?_;refine vk (vix i rfl (CD (lG hlt)) rfl CF) ?_;refine vk (Ar AT Az) ?_
  refine Aap (avs:=[.d (dvI xs[i])]) (hstep _ _ _ _ hs hz) hcall (fun v H' hp=>?_) (hnc:=hnc)
  obtain ⟨rfl,hs'⟩:=hp
  refine rn ?_
  by_cases hc:z.1=true
  ·refine cnt hc ?_
   rw [if_pos hc] at h
   cases h
   refine .sr ?_;refine vk (Ae) ?_;refine asd ?_;refine rn ?_;refine .ret ?_
   exact ⟨_,⟨rfl,rfl⟩,rfl,hs'⟩
  refine cnf (bf hc) ?_
  rw [if_neg hc] at h
  refine .skip ?_;refine aw ?_;refine .region ?_;refine vk (vbi) ?_;refine vk (Ae) ?_;refine .nil ?_
  have hw:IntKind.wrap .i64 ((i:Int)+1)=((i+1:Nat):Int):=by rw [show IntKind.wrap .i64 ((i:Int)+1)=(i:Int)+1 from YI (by omega) (by omega)];omega
  rw [hw]
  refine AL.gh (Gh.keep [0,1,7,8] rfl) ?_
  exact ih (i+1,z.2,H') ⟨hlt,hs',by rw [← h];simp⟩ (by dsimp only;omega)
 ·refine cnf (dF hc) ?_
  have:i=xs.length:=by omega
  subst this
  rw [List.drop_length,PS] at h
  cases h
  refine .exit ?_;refine aw ?_;refine .sr ?_;refine asd ?_;refine rn ?_;refine .ret ?_
  exact ⟨_,⟨rfl,rfl⟩,rfl,hs⟩
theorem Mq {S:Type} {step:Itm→S→Option (Bool×S)} {st:S→Ac→Prop} {f:FuncId} {caps:List AV} (hcall:∀ args w,(callFunc f args).run Tryz.prog w=.ok (.enter f args) w) (hnc:noOwnL caps=true)
  (hstep:∀ (x:Itm) s r H,st s H→step x s=some r→FnR Tryz.prog f (.d (dvI x)::caps) H fun v H'=>v=.d (.b r.1)∧st r.2 H')
  {xs:List Itm} {s:S} {r:Int×S} (hl:xs.length≤9223372036854775806) (h:PS step xs s 0=some r) {H:Ac} (hs:st s H) :
  FnR Tryz.prog 57 [.d (.sl (Its xs)),.fn f [] caps] H fun v H'=>v=.d (.b (decide (0≤r.1)))∧st r.2 H':=by
 have hfn:noOwn (.fn f [] caps)=true:=by simp [noOwn,noOwnL,hnc]
 refine FnR.of (rs:=[.tmp 4]) 9 Tryz.func57 rfl rfl rfl (by simp) ?_;refine .sr ?_;refine asd ?_;refine rn ?_;refine .sr ?_;refine vk (Ae) ?_;refine vk (YO (av:=.fn f [] caps) (hn:=hfn)) ?_
 refine clR (avs:=[.d (.sl (Its xs)),.fn f [] caps]) (PF hcall hnc hstep hl h hs) Tryz.call122 (fun v H' hp=>?_) (ha:=by simp [argsA,lk,get,hfn,A4,noOwn])
 obtain ⟨rfl,hs'⟩:=hp
 refine vk (vbi) ?_;refine asd ?_;refine rn ?_;refine .ret ?_
 exact ⟨_,⟨rfl,rfl⟩,rfl,hs'⟩
abbrev M3:=Bool×Int×Int
abbrev EB (c d:Int) : HO:=.box [.d (.i .i64 c),.d (.i .i64 d)]
def Upd (H:Ac) (id:Nat) (o:HO) (H':Ac) : Prop:=H'[id]?=some o∧H.length≤H'.length∧∀ j,j≠id→j<H.length→H'[j]?=H[j]?
theorem Upd.same {H:Ac} {id:Nat} {o:HO} (h:H[id]?=some o) : Upd H id o H:=⟨h,Nat.le_refl _,fun _ _ _=>rfl⟩
theorem Upd.trans {H H' H'':Ac} {id:Nat} {o o':HO} (h:Upd H id o H') (k:Upd H' id o' H'') : Upd H id o' H'' :=
 ⟨k.1,nT h.2.1 k.2.1,fun j h1 h2=>(k.2.2 j h1 (nL h2 h.2.1)).trans (h.2.2 j h1 h2)⟩
def PE (id:Nat) (r:M3) (H:Ac) : AV→Ac→Prop:=fun v H'=>v=.d (.b r.1)∧Upd H id (EB r.2.1 r.2.2) H'
theorem PE.refl {id:Nat} {b:Bool} {c d:Int} {H:Ac} (h:H[id]?=some (EB c d)) : PE id (b,c,d) H (.d (.b b)) H:=⟨rfl,.same h⟩
def OA (rc:Arr→Int→Int→Int→Option M3) : Prop:=∀ (a:Arr) (deep c d:Int) (r:M3),rc a deep c d=some r→∀ (H:Ac) (id:Nat),H[id]?=some (EB c d) →
 FnR Tryz.prog 139 [.bp id 0,.d (dvA a),.d (.i .i64 deep)] H (PE id r H)
def EZ (a1:Itm) : Bool:=((!a1.num.1)&&((decide (((List.length a1.num.2.1:Nat) : Int)=0))&&(decide (((List.length a1.num.2.2:Nat) : Int)=0))))
def Oe (rc:Arr→Int→Int→Int→Option M3) (a1:Itm) (a2 c d:Int) : Option M3:=(if a1.kind=1 then ((GD a1.num).bind fun x1=>(some ((x1&&((decide (a1.char=0))&&(decide (((List.length a1.box:Nat) : Int)=0)))),c,d))) else (if a1.kind=2 then ((Gn a1.char).bind fun x2=>(some ((x2&&(EZ a1&&(decide (((List.length a1.box:Nat) : Int)=0)))),c,d))) else (if a1.kind=3 then (if ((List.length a1.box:Nat) : Int)=1 then (if EZ a1=true then (if a1.char=0 then ((rd? a1.box 0).bind fun x4=>((Dx x4).bind fun x5=>(if x5=true then (some (false,c,d)) else ((rd? a1.box 0).bind fun x6=>((rc x6 a2 c d).bind fun x7=>(some x7)))))) else (some (false,c,d))) else (some (false,c,d))) else (some (false,c,d))) else (some (false,c,d)))))
set_option maxHeartbeats 4000000 in
theorem Ji {rc:Arr→Int→Int→Int→Option M3} (orc:OA rc) {a1:Itm} {a2 c d:Int} {r:M3} (h:Oe rc a1 a2 c d=some r) {H:Ac} {id:Nat} (hH:H[id]?=some (EB c d)) :
  FnR Tryz.prog 123 [.bp id 0,.d (dvI a1),.d (.i .i64 a2)] H (PE id r H):=by
 unfold Oe EZ at h
 refine FnR.of (rs:=[.tmp 6]) 89 Tryz.func123 rfl rfl rfl (by simp) ?_;refine .sr ?_;refine vk (vbx) ?_;refine asd ?_;refine rn ?_;refine .gh (Gh.keep [0,2,4,6] rfl) ?_;refine .seq ?_;refine AW.mr (σ:=Unit) (fun _=>True) (fun _=>[(0,.bp id 0),(2,.d (.i .i64 a2)),(4,.d (.ptr [.i .u8 a1.kind,.b a1.num.1,.sl (L a1.num.2.1),.sl (L a1.num.2.2),.i .i32 a1.char,.sl (Ars a1.box)])),(6,.d (.b false)),(7,.d (.b ((!a1.num.1)&&((decide (((List.length a1.num.2.1:Nat):Int)=0))&&(decide (((List.length a1.num.2.2:Nat):Int)=0))))))]) (fun _=>H) ?_ ?_
 ·skip
  refine .region ?_;refine vk (vfa BI) ?_;refine vk (vfa E6) ?_;refine vk (Ao DY) ?_;refine vk (vnt) ?_
  by_cases hc:a1.num.1=true
  ·have hb0:(!a1.num.1)=false:=(ntf hc)
   refine vk (VOK.lit (Ae) hb0) ?_;refine gf4 ?_;refine gf ?_;refine vk (Ap) ?_;refine vk (Ae) ?_;refine gf4 ?_;refine gf ?_;refine vk (Ap) ?_;refine asd ?_;refine RL.gh (Gh.keep [0,2,4,6,7] rfl) ?_;refine .nil ?_
   exact jr () trivial (by simp only [hb0];rfl)
  have hb0:(!a1.num.1)=true:=(ntt (bf hc))
  refine vk (VOK.lit (Ae) hb0) ?_;refine vk (vfa BI) ?_;refine vk (vfa EN) ?_;refine vk (Ao Gj) ?_;refine vk (A5 (Aa _) (Cd _) QH) ?_;refine vk (vbi) ?_;refine vk (Ap) ?_
  by_cases hc:((List.length a1.num.2.1:Nat):Int)=0
  ·have hb1:(decide (((List.length a1.num.2.1:Nat):Int)=0))=true:=(dT hc)
   refine vk (VOK.lit (Ae) hb1) ?_;refine vk (vfa BI) ?_;refine vk (vfa Iy) ?_;refine vk (Ao Gj) ?_;refine vk (A5 (Aa _) (Cd _) QH) ?_;refine vk (vbi) ?_;refine vk (Ap) ?_;refine asd ?_;refine RL.gh (Gh.keep [0,2,4,6,7] rfl) ?_;refine .nil ?_
   exact jr () trivial (by simp only [hb0,hb1];rfl)
  have hb1:(decide (((List.length a1.num.2.1:Nat):Int)=0))=false:=(dF hc)
  refine vk (VOK.lit (Ae) hb1) ?_;refine gf4 ?_;refine gf ?_;refine vk (Ap) ?_;refine asd ?_;refine RL.gh (Gh.keep [0,2,4,6,7] rfl) ?_;refine .nil ?_
  exact jr () trivial (by simp only [hb0,hb1];rfl)
 rintro _ _
 refine .seq ?_;refine .sr ?_;refine vk (vfa Cs) ?_;refine vk (Ao Bg) ?_;refine rn ?_;refine .gh (Gh.keep [0,2,4,6,7,27] rfl) ?_;refine .block ?_;refine .sr ?_;refine vk (vbi) ?_;refine asd ?_;refine rn ?_;refine .gh (Gh.keep [0,2,4,6,7,27,28] rfl) ?_
 rcases brc h with ⟨hc,h⟩|⟨hc,h⟩
 ·refine cnt (dT hc) ?_
  refine .seq ?_
  obtain ⟨x1,hx1,h⟩:=bnd h
  refine AW.mr (σ:=Unit) (fun _=>True) (fun _=>[(6,.d (.b (x1&&((decide (a1.char=0))&&(decide (((List.length a1.box:Nat):Int)=0))))))]) (fun _=>H) ?_ ?_
  ·skip
   refine .region ?_;refine vk (vfa BI) ?_;refine vk (Ar A0 AE) ?_;refine vk (Al (FR hx1) Tryz.call166) ?_
   by_cases hc:x1=true
   ·have hb0:x1=true:=hc
    refine vk (VOK.lit (Ae) hb0) ?_;refine vk (vfa Ep) ?_;refine vk (Ao Ex) ?_;refine vk (vbi) ?_;refine vk (Ap) ?_
    by_cases hc:a1.char=0
    ·have hb1:(decide (a1.char=0))=true:=(dT hc)
     refine vk (VOK.lit (Ae) hb1) ?_;refine vk (vfa BM) ?_;refine vk (Ao C4) ?_;refine vk (A5 (BC _) (EI _) EL) ?_;refine vk (vbi) ?_;refine vk (Ap) ?_;refine asd ?_;refine RL.gh (Gh.keep [6] rfl) ?_;refine .nil ?_
     exact jr () trivial (by simp only [hb0,hb1];rfl)
    have hb1:(decide (a1.char=0))=false:=(dF hc)
    refine vk (VOK.lit (Ae) hb1) ?_;refine gf4 ?_;refine vk (Ap) ?_;refine asd ?_;refine RL.gh (Gh.keep [6] rfl) ?_;refine .nil ?_
    exact jr () trivial (by simp only [hb0,hb1];rfl)
   have hb0:x1=false:=(bf hc)
   refine vk (VOK.lit (Ae) hb0) ?_;refine gf3 ?_;refine vk (Ap) ?_;refine vk (Ae) ?_;refine gf4 ?_;refine vk (Ap) ?_;refine asd ?_;refine RL.gh (Gh.keep [6] rfl) ?_;refine .nil ?_
   exact jr () trivial (by simp only [hb0];rfl)
  rintro _ _
  refine .ret ?_
  cases h
  exact ⟨_,⟨rfl,rfl⟩,.refl hH⟩
 refine cnf (dF hc) ?_;refine .sr ?_;refine vk (vbi) ?_;refine asd ?_;refine rn ?_;refine .gh (Gh.keep [0,2,4,6,7,27,44] rfl) ?_
 rcases brc h with ⟨hc,h⟩|⟨hc,h⟩
 ·refine cnt (dT hc) ?_
  refine .seq ?_
  obtain ⟨x2,hx2,h⟩:=bnd h
  refine AW.mr (σ:=Unit) (fun _=>True) (fun _=>[(6,.d (.b (x2&&(((!a1.num.1)&&((decide (((List.length a1.num.2.1:Nat):Int)=0))&&(decide (((List.length a1.num.2.2:Nat):Int)=0))))&&(decide (((List.length a1.box:Nat):Int)=0))))))]) (fun _=>H) ?_ ?_
  ·skip
   refine .region ?_;refine vk (vfa Ep) ?_;refine vk (Ao Ex) ?_;refine vk (Al (Mk hx2) Tryz.call170) ?_
   by_cases hc:x2=true
   ·have hb0:x2=true:=hc
    refine vk (VOK.lit (Ae) hb0) ?_;refine vk (Ae) ?_;refine vk (Ap) ?_
    by_cases hc:((!a1.num.1)&&((decide (((List.length a1.num.2.1:Nat):Int)=0))&&(decide (((List.length a1.num.2.2:Nat):Int)=0))))=true
    ·have hb1:((!a1.num.1)&&((decide (((List.length a1.num.2.1:Nat):Int)=0))&&(decide (((List.length a1.num.2.2:Nat):Int)=0))))=true:=hc
     refine vk (VOK.lit (Ae) hb1) ?_;refine vk (vfa BM) ?_;refine vk (Ao C4) ?_;refine vk (A5 (BC _) (EI _) EL) ?_;refine vk (vbi) ?_;refine vk (Ap) ?_;refine asd ?_;refine RL.gh (Gh.keep [6] rfl) ?_;refine .nil ?_
     exact jr () trivial (by simp only [hb0,hb1];rfl)
    have hb1:((!a1.num.1)&&((decide (((List.length a1.num.2.1:Nat):Int)=0))&&(decide (((List.length a1.num.2.2:Nat):Int)=0))))=false:=(bf hc)
    refine vk (VOK.lit (Ae) hb1) ?_;refine gf4 ?_;refine vk (Ap) ?_;refine asd ?_;refine RL.gh (Gh.keep [6] rfl) ?_;refine .nil ?_
    exact jr () trivial (by simp only [hb0,hb1];rfl)
   have hb0:x2=false:=(bf hc)
   refine vk (VOK.lit (Ae) hb0) ?_;refine gf ?_;refine vk (Ap) ?_;refine vk (Ae) ?_;refine gf4 ?_;refine vk (Ap) ?_;refine asd ?_;refine RL.gh (Gh.keep [6] rfl) ?_;refine .nil ?_
   exact jr () trivial (by simp only [hb0];rfl)
  rintro _ _
  refine .ret ?_
  cases h
  exact ⟨_,⟨rfl,rfl⟩,.refl hH⟩
 refine cnf (dF hc) ?_;refine .sr ?_;refine vk (vbi) ?_;refine asd ?_;refine rn ?_;refine .gh (Gh.keep [0,2,4,6,7,58] rfl) ?_
 rcases brc h with ⟨hc,h⟩|⟨hc,h⟩
 ·refine cnt (dT hc) ?_
  refine .seq ?_
  ·skip
   refine .region ?_;refine vk (vfa BM) ?_;refine vk (Ao C4) ?_;refine vk (A5 (BC _) (EI _) EL) ?_;refine vk (vbi) ?_
   rcases brc h with ⟨hc,h⟩|⟨hc,h⟩
   ·have hb0:(decide (((List.length a1.box:Nat):Int)=1))=true:=(dT hc)
    refine vk (VOK.lit (Ae) hb0) ?_;refine vk (Ae) ?_;refine vk (Ap) ?_
    rcases brc h with ⟨hc,h⟩|⟨hc,h⟩
    ·have hb1:((!a1.num.1)&&((decide (((List.length a1.num.2.1:Nat):Int)=0))&&(decide (((List.length a1.num.2.2:Nat):Int)=0))))=true:=hc
     refine vk (VOK.lit (Ae) hb1) ?_;refine vk (vfa Ep) ?_;refine vk (Ao Ex) ?_;refine vk (vbi) ?_;refine vk (Ap) ?_
     rcases brc h with ⟨hc,h⟩|⟨hc,h⟩
     ·have hb2:(decide (a1.char=0))=true:=(dT hc)
      refine vk (VOK.lit (Ae) hb2) ?_;refine vk (vfa BM) ?_;refine vk (Ao C4) ?_
      obtain ⟨x4,hx4,h⟩:=bnd h
      obtain ⟨nx4,hnx4,hxx4⟩:=Ah hx4
      refine vk (vix nx4 hnx4 (Eb hxx4) rfl Ea) ?_;refine vk (Ar Ag Ab) ?_
      obtain ⟨x5,hx5,h⟩:=bnd h
      refine vk (Al (GX hx5) Tryz.call82) ?_;refine vk (vnt) ?_;refine vk (Ap) ?_
      rcases brc h with ⟨hc,h⟩|⟨hc,h⟩
      ·have hb3:(!x5)=false:=(ntf hc)
       refine vk (VOK.lit (Ae) hb3) ?_;refine gf4 ?_;refine gf3 ?_;refine vk (Ap) ?_;refine asd ?_;refine rn ?_;refine .gh (Gh.keep [6] rfl) ?_;refine .ret ?_
       cases h
       exact ⟨_,⟨rfl,rfl⟩,.refl hH⟩
      have hb3:(!x5)=true:=(ntt (bf hc))
      refine vk (VOK.lit (Ae) hb3) ?_;refine vk (YO (av:=.bp id 0)) ?_;refine vk (vfa BM) ?_;refine vk (Ao C4) ?_
      obtain ⟨x6,hx6,h⟩:=bnd h
      obtain ⟨nx6,hnx6,hxx6⟩:=Ah hx6
      refine vk (vix nx6 hnx6 (Eb hxx6) rfl Ea) ?_;refine vk (Ar Ag Ab) ?_;refine vk (Ae) ?_
      obtain ⟨x7,hx7,h⟩:=bnd h
      refine clR (avs:=[.bp id 0,.d (dvA x6),.d (.i .i64 a2)]) (orc x6 a2 c d x7 hx7 H id hH) Tryz.call139 (fun v H' hp=>?_)
      obtain ⟨rfl,hp⟩:=hp
      refine vk (Ap) ?_;refine asd ?_;refine rn ?_;refine .gh (Gh.keep [6] rfl) ?_;refine .ret ?_
      cases h
      exact ⟨_,⟨rfl,rfl⟩,rfl,hp⟩
     have hb2:(decide (a1.char=0))=false:=(dF hc)
     refine vk (VOK.lit (Ae) hb2) ?_;refine gf4 ?_;refine gf2 ?_;refine vk (Ap) ?_;refine vk (Ae) ?_;refine gf4 ?_;refine gf3 ?_;refine vk (Ap) ?_;refine asd ?_;refine rn ?_;refine .gh (Gh.keep [6] rfl) ?_;refine .ret ?_
     cases h
     exact ⟨_,⟨rfl,rfl⟩,.refl hH⟩
    have hb1:((!a1.num.1)&&((decide (((List.length a1.num.2.1:Nat):Int)=0))&&(decide (((List.length a1.num.2.2:Nat):Int)=0))))=false:=(bf hc)
    refine vk (VOK.lit (Ae) hb1) ?_;refine gf3 ?_;refine vk (Ap) ?_;refine vk (Ae) ?_;refine gf4 ?_;refine gf2 ?_;refine vk (Ap) ?_;refine vk (Ae) ?_;refine gf4 ?_;refine gf3 ?_;refine vk (Ap) ?_;refine asd ?_;refine rn ?_;refine .gh (Gh.keep [6] rfl) ?_;refine .ret ?_
    cases h
    exact ⟨_,⟨rfl,rfl⟩,.refl hH⟩
   have hb0:(decide (((List.length a1.box:Nat):Int)=1))=false:=(dF hc)
   refine vk (VOK.lit (Ae) hb0) ?_;refine gf ?_;refine vk (Ap) ?_;refine vk (Ae) ?_;refine gf3 ?_;refine vk (Ap) ?_;refine vk (Ae) ?_;refine gf4 ?_;refine gf2 ?_;refine vk (Ap) ?_;refine vk (Ae) ?_;refine gf4 ?_;refine gf3 ?_;refine vk (Ap) ?_;refine asd ?_;refine rn ?_;refine .gh (Gh.keep [6] rfl) ?_;refine .ret ?_
   cases h
   exact ⟨_,⟨rfl,rfl⟩,.refl hH⟩
 refine cnf (dF hc) ?_;refine .skip ?_;refine aw ?_;refine .sr ?_;refine asd ?_;refine rn ?_;refine .gh (Gh.keep [6] rfl) ?_;refine .ret ?_
 cases h
 exact ⟨_,⟨rfl,rfl⟩,.refl hH⟩
def KR (rc:Arr→Int→Int→Int→Option M3) (deep:Int) : List Itm→Int→Int→Option M3
 | [],c,d=>some (true,c,d)
 | x::xs,c,d=>(Oe rc x deep c d).bind fun z=>if z.1=true then KR rc deep xs z.2.1 z.2.2 else some (false,z.2.1,z.2.2)
def RN (rc:Arr→Int→Int→Int→Option M3) (deep:Int) (x:Itm) (s:Int×Int) : Option (Bool×(Int×Int)):=(Oe rc x deep s.1 s.2).map fun z=>(!z.1,z.2)
theorem Rt {rc:Arr→Int→Int→Int→Option M3} {deep:Int} : ∀ {xs:List Itm} {c d:Int} {z:M3} {i:Int},0≤i→KR rc deep xs c d=some z→∃ n,PS (RN rc deep) xs (c,d) i=some (n,z.2)∧(!decide (0≤n))=z.1
 | [],c,d,z,i,_,h=>by cases h;exact ⟨-1,rfl,rfl⟩
 | x::xs,c,d,z,i,hi,h=>by
  rw [KR] at h
  obtain ⟨y,hy,h⟩:=bnd h
  have hs:RN rc deep x (c,d)=some (!y.1,y.2):=by simp [RN,hy]
  by_cases hc:y.1=true
  ·rw [if_pos hc] at h
   obtain ⟨n,h1,h2⟩:=Rt (i:=i+1) (by omega) h
   refine ⟨n,?_,h2⟩
   rw [PS,hs,oB,if_neg (by simp [hc])];exact h1
  ·rw [if_neg hc] at h
   cases h
   refine ⟨i,?_,by simp [hi]⟩
   rw [PS,hs,oB,if_pos (by simp [hc])]
theorem LJ {rc:Arr→Int→Int→Int→Option M3} (orc:OA rc) {x:Itm} {deep c d:Int} {z:M3} (h:Oe rc x deep c d=some z) {H:Ac} {id n3 n5:Nat} (hH:H[id]?=some (EB c d)) (h3:H[n3]?=some (.box [.bp id 0])) (h5:H[n5]?=some (.box [.d (.i .i64 deep)])) :
  FnR Tryz.prog 188 [.d (dvI x),.bp n3 0,.bp n5 0] H fun v H'=>v=.d (.b (!z.1))∧Upd H id (EB z.2.1 z.2.2) H':=by
 refine FnR.of (rs:=[.tmp 4]) 10 Tryz.func188 rfl rfl rfl (by simp) ?_;refine .sr ?_;refine vk (vbx) ?_;refine asd ?_;refine rn ?_;refine .sr ?_;refine vk (Ry (cs:=[.bp id 0]) (c:=.bp id 0) h3 rfl (by kernel_rfl)) ?_;refine vk (Ar AT Az) ?_;refine vk (II (cs:=[.d (.i .i64 deep)]) (c:=.i .i64 deep) h5 rfl AJ) ?_
 refine clR (avs:=[.bp id 0,.d (dvI x),.d (.i .i64 deep)]) (Ji orc h hH) Tryz.call123 (fun v H' hp=>?_)
 obtain ⟨rfl,hp⟩:=hp
 refine vk (vnt) ?_;refine asd ?_;refine rn ?_;refine .ret ?_
 exact ⟨_,⟨rfl,rfl⟩,rfl,hp⟩
theorem Upd.set_new {H H':Ac} {id n:Nat} {o x:HO} (k:Upd H id o H') (h1:H.length≤n) (h2:n≠id) : Upd H id o (H'.set n x) :=
 ⟨by rw [List.getElem?_set_ne h2];exact k.1,by simpa using k.2.1,fun j h3 h4=>by rw [List.getElem?_set_ne (by omega)];exact k.2.2 j h3 h4⟩
theorem Upd.set_id {H H':Ac} {id:Nat} {o o':HO} (k:Upd H id o H') : Upd H id o' (H'.set id o') :=
 ⟨List.getElem?_set_self (lS.1 k.1).1,by simpa using k.2.1,fun j h3 h4=>by rw [List.getElem?_set_ne (Ne.symm h3)];exact k.2.2 j h3 h4⟩
def V3 (rc:Arr→Int→Int→Int→Option M3) (a:Arr) (deep c d:Int) : Option M3 :=
 (CB a.shape).bind fun x1 =>
  if x1.2=0 then
   if ((List.length a.items:Nat):Int)=(if x1.1<1 then 1 else x1.1) then
    if 16384<w64 (c+((List.length a.items:Nat):Int)) then some (false,w64 (c+((List.length a.items:Nat):Int)),d) else
    (Dx a).bind fun sm =>
     if sm=true then (if deep≤16 then KR rc deep a.items (w64 (c+((List.length a.items:Nat):Int))) d else some (false,w64 (c+((List.length a.items:Nat):Int)),d))
     else (if w64 (deep+1)≤16 then KR rc (w64 (deep+1)) a.items (w64 (c+((List.length a.items:Nat):Int))) (if d<w64 (deep+1) then w64 (deep+1) else d) else some (false,w64 (c+((List.length a.items:Nat):Int)),(if d<w64 (deep+1) then w64 (deep+1) else d)))
   else some (false,c,d)
  else some (false,c,d)
set_option maxHeartbeats 4000000 in
set_option maxRecDepth 20000 in
theorem Mm {rc:Arr→Int→Int→Int→Option M3} (orc:OA rc) {a:Arr} {deep c d:Int} {r:M3} (hlen:a.items.length≤9223372036854775806) (h:V3 rc a deep c d=some r) {H:Ac} {id:Nat} (hH:H[id]?=some (EB c d)) :
  FnR Tryz.prog 139 [.bp id 0,.d (dvA a),.d (.i .i64 deep)] H (PE id r H):=by
 unfold V3 at h
 have hid:id<H.length:=(lS.1 hH).1
 refine FnR.of (rs:=[.tmp 6]) 63 Tryz.func139 rfl rfl rfl (by simp) ?_;refine .sr ?_;refine bxA (c:=.bp id 0) ?_;refine vk (vbx) ?_;refine bxA (c:=.d (.i .i64 deep)) ?_;refine asd ?_
 have f0:Upd H id (EB c d) (H++[.box [.bp id 0]]++[.box [.d (.i .i64 deep)]]):=by
  refine ⟨?_,by simp,fun j h1 h2=>?_⟩
  ·rw [List.append_assoc,List.getElem?_append_left hid];exact hH
  ·rw [List.append_assoc,List.getElem?_append_left h2]
 have f3:(H++[HO.box [AV.bp id 0]]++[.box [.d (.i .i64 deep)]])[H.length]?=some (.box [.bp id 0]):=by simp
 have f5:(H++[HO.box [AV.bp id 0]]++[.box [.d (.i .i64 deep)]])[(H++[HO.box [AV.bp id 0]]).length]?=some (.box [.d (.i .i64 deep)]):=by
  rw [List.getElem?_append_right (Nat.le_refl _)];simp
 have g3:H.length≠id:=by omega
 have g5:(H++[HO.box [AV.bp id 0]]).length≠id:=by simp;omega
 have g5':H.length≤(H++[HO.box [AV.bp id 0]]).length:=by simp
 have g35:H.length≠(H++[HO.box [AV.bp id 0]]).length:=by simp
 have g3':H.length≤H.length:=Nat.le_refl _
 generalize H++[HO.box [AV.bp id 0]]++[.box [.d (.i .i64 deep)]]=H2 at f0 f3 f5 ⊢
 generalize (H++[HO.box [AV.bp id 0]]).length=n5 at f5 g5 g5' g35 ⊢
 obtain ⟨n3,hn3⟩:∃ n3,n3=H.length:=⟨_,rfl⟩
 rw [← hn3] at f3 g3 g35
 rw [← hn3]
 have f1:=f0.1
 refine rn ?_;refine .gh (Gh.keep [3,4,5] rfl) ?_;refine .sr ?_;refine vk (vfa A7) ?_;refine vk (Ao CG) ?_
 obtain ⟨x1,hx1,h⟩:=bnd h
 refine vk (VOK.tupd (vs:=[.i .i64 x1.1,.i .i64 x1.2]) (Al (DS hx1) Tryz.call56)) ?_;refine vk (Ae) ?_;refine vk (vex) ?_;refine vk (vex) ?_;refine asd ?_;refine asd ?_;refine rn ?_;refine .gh (Gh.keep [3,4,5,7,8] rfl) ?_;refine .seq ?_;refine .sr ?_;refine vk (Ae) ?_;refine vk (vbi) ?_
 by_cases hc:x1.2=0
 rotate_left
 ·rw [if_neg hc] at h
  cases h
  refine vk (VOK.lit (Ae) (show (!decide (x1.2=0))=true by simp [hc])) ?_;refine gf4 ?_;refine gf2 ?_;refine vk (Ap) ?_;refine rn ?_;refine cnt rfl ?_;refine .sr ?_;refine asd ?_;refine rn ?_;refine .ret ?_
  exact ⟨_,⟨rfl,rfl⟩,rfl,f0⟩
 rw [if_pos hc] at h
 refine vk (VOK.lit (Ae) (show (!decide (x1.2=0))=false by simp [hc])) ?_;refine vk (vfa AU) ?_;refine vk (Ao BX) ?_;refine vk (A5 (Au _) (BS _) BO) ?_;refine vk (Ae) ?_;refine vk (vmx) ?_;refine vk (vbi) ?_;refine vk (Ap) ?_;refine rn ?_
 by_cases hc:((List.length a.items:Nat):Int)=(if x1.1<1 then 1 else x1.1)
 rotate_left
 ·rw [if_neg hc] at h
  cases h
  refine cnt (ntt (dF hc)) ?_;refine .sr ?_;refine asd ?_;refine rn ?_;refine .ret ?_
  exact ⟨_,⟨rfl,rfl⟩,rfl,f0⟩
 rw [if_pos hc] at h
 refine cnf (ntf (dT hc)) ?_;refine .skip ?_;refine aw ?_;refine .gh (Gh.keep [3,4,5] rfl) ?_;refine .seq ?_;refine .drawn 10 A6 (by kernel_rfl) ?_;refine dv (Ry (cs:=[.bp id 0]) (c:=.bp id 0) f3 rfl (by kernel_rfl)) ?_;refine dv (U1) ?_;refine dv (HN ME) ?_;refine dv (II (cs:=[.d (.i .i64 c),.d (.i .i64 d)]) (c:=.i .i64 c) f1 rfl AJ) ?_;refine dv (vfa AU) ?_;refine dv (Ao BX) ?_;refine dv (A5 (Au _) (BS _) BO) ?_;refine dv (vbi) ?_;refine dv (U1) ?_;refine dv (HN ME) ?_;refine dz ?_
 refine stb (cs:=[.d (.i .i64 c),.d (.i .i64 d)]) (c:=.d (.i .i64 c)) f1 rfl ?_ Dg
 have q0:=f0.set_id (o':=EB (w64 (c+((List.length a.items:Nat):Int))) d)
 have q3:(H2.set id (EB (w64 (c+((List.length a.items:Nat):Int))) d))[n3]?=some (.box [.bp id 0]):=by rw [List.getElem?_set_ne (Ne.symm g3)];exact f3
 have q5:(H2.set id (EB (w64 (c+((List.length a.items:Nat):Int))) d))[n5]?=some (.box [.d (.i .i64 deep)]):=by rw [List.getElem?_set_ne (Ne.symm g5)];exact f5
 refine rn ?_
 change AW _ _ _ _ _ (H2.set id (EB (w64 (c+((List.length a.items:Nat):Int))) d))
 generalize H2.set id (EB (w64 (c+((List.length a.items:Nat):Int))) d)=H3 at q0 q3 q5 ⊢
 generalize w64 (c+((List.length a.items:Nat):Int))=c1 at h q0 ⊢
 have q1:=q0.1
 refine .gh (Gh.keep [3,4,5] rfl) ?_;refine .seq ?_;refine .sr ?_;refine vk (Ry (cs:=[.bp id 0]) (c:=.bp id 0) q3 rfl (by kernel_rfl)) ?_;refine vk (U1) ?_;refine vk (HN ME) ?_;refine vk (II (cs:=[.d (.i .i64 c1),.d (.i .i64 d)]) (c:=.i .i64 c1) q1 rfl AJ) ?_;refine vk (vbi) ?_;refine rn ?_
 by_cases hc:16384<c1
 ·rw [if_pos hc] at h
  cases h
  refine cnt (dT hc) ?_;refine .sr ?_;refine asd ?_;refine rn ?_;refine .ret ?_
  exact ⟨_,⟨rfl,rfl⟩,rfl,q0⟩
 rw [if_neg hc] at h
 refine cnf (dF hc) ?_;refine .skip ?_;refine aw ?_;refine .gh (Gh.keep [3,4,5] rfl) ?_;refine .seq ?_
 obtain ⟨sm,hsm,h⟩:=bnd h
 refine .sr ?_;refine vk (Ar Ag Ab) ?_;refine vk (Al (GX hsm) Tryz.call82) ?_;refine vk (vnt) ?_;refine rn ?_
 refine AW.mr (σ:=Ac×Int×Int) (fun s=>Upd H id (EB c1 s.2.2) s.1∧s.1[n3]?=some (.box [.bp id 0])∧s.1[n5]?=some (.box [.d (.i .i64 s.2.1)])∧(if s.2.1≤16 then KR rc s.2.1 a.items c1 s.2.2 else some (false,c1,s.2.2))=some r)
  (fun _=>[(3,.bp n3 0),(4,.d (.ptr [.sl (Is a.shape),.sl (Its a.items)])),(5,.bp n5 0)]) (fun s=>s.1) ?_ ?_
 ·by_cases hs:sm=true
  ·rw [if_pos hs] at h
   refine cnf (ntf hs) ?_;refine .gh (Gh.keep [3,4,5] rfl) ?_;refine .skip ?_
   exact jr (H3,deep,d) ⟨q0,q3,q5,h⟩
  rw [if_neg hs] at h
  refine cnt (ntt (bf hs)) ?_;refine .sr ?_;refine vk (II (cs:=[.d (.i .i64 deep)]) (c:=.i .i64 deep) q5 rfl AJ) ?_;refine vk (vbi) ?_
  refine stb (cs:=[.d (.i .i64 deep)]) (c:=.d (.i .i64 deep)) q5 rfl ?_ Dg
  have p0:=q0.set_new (n:=n5) (x:=.box [.d (.i .i64 (w64 (deep+1)))]) g5' g5
  have p3:(H3.set n5 (.box [.d (.i .i64 (w64 (deep+1)))]))[n3]?=some (.box [.bp id 0]):=by rw [List.getElem?_set_ne (Ne.symm g35)];exact q3
  have p5:(H3.set n5 (.box [.d (.i .i64 (w64 (deep+1)))]))[n5]?=some (.box [.d (.i .i64 (w64 (deep+1)))]):=List.getElem?_set_self (lS.1 q5).1
  refine rn ?_
  change AW _ _ _ _ _ (H3.set n5 (.box [.d (.i .i64 (w64 (deep+1)))]))
  generalize H3.set n5 (.box [.d (.i .i64 (w64 (deep+1)))])=H4 at p0 p3 p5 ⊢
  generalize w64 (deep+1)=dp at h p5 ⊢
  have p1:=p0.1
  refine .gh (Gh.keep [3,4,5] rfl) ?_;refine .drawn 9 A6 (by kernel_rfl) ?_;refine dv (Ry (cs:=[.bp id 0]) (c:=.bp id 0) p3 rfl (by kernel_rfl)) ?_;refine dv (Ry (cs:=[.bp id 0]) (c:=.bp id 0) p3 rfl (by kernel_rfl)) ?_;refine dv (U1) ?_;refine dv (HN Tl) ?_;refine dv (II (cs:=[.d (.i .i64 c1),.d (.i .i64 d)]) (c:=.i .i64 d) p1 rfl AJ) ?_;refine dv (II (cs:=[.d (.i .i64 dp)]) (c:=.i .i64 dp) p5 rfl AJ) ?_;refine dv (vmx) ?_;refine dv (U1) ?_;refine dv (HN Tl) ?_;refine dz ?_
  refine stb (cs:=[.d (.i .i64 c1),.d (.i .i64 d)]) (c:=.d (.i .i64 d)) p1 rfl ?_ Dg
  have w0:=p0.set_id (o':=EB c1 (if d<dp then dp else d))
  have w3:(H4.set id (EB c1 (if d<dp then dp else d)))[n3]?=some (.box [.bp id 0]):=by rw [List.getElem?_set_ne (Ne.symm g3)];exact p3
  have w5:(H4.set id (EB c1 (if d<dp then dp else d)))[n5]?=some (.box [.d (.i .i64 dp)]):=by rw [List.getElem?_set_ne (Ne.symm g5)];exact p5
  refine RL.gh (Gh.keep [3,4,5] rfl) ?_;refine .nil ?_
  exact jr (H4.set id (EB c1 (if d<dp then dp else d)),dp,(if d<dp then dp else d)) ⟨w0,w3,w5,h⟩
 rintro ⟨H5,dp,d1⟩ ⟨u0,u3,u5,h⟩
 dsimp only at u0 u3 u5 h ⊢
 refine aw ?_;refine .sr ?_;refine vk (II (cs:=[.d (.i .i64 dp)]) (c:=.i .i64 dp) u5 rfl AJ) ?_;refine vk (vbi) ?_
 by_cases hc:dp≤16
 rotate_left
 ·rw [if_neg hc] at h
  cases h
  refine vk (VOK.lit (Ae) (dF hc)) ?_;refine gf4 ?_;refine gf ?_;refine vk (Ap) ?_;refine asd ?_;refine rn ?_;refine .ret ?_
  exact ⟨_,⟨rfl,rfl⟩,rfl,u0⟩
 rw [if_pos hc] at h
 refine vk (VOK.lit (Ae) (dT hc)) ?_;refine vk (vfa AU) ?_;refine vk (Ao BX) ?_;refine Aal (avs:=[.bp n3 0,.bp n5 0]) ?_
 obtain ⟨n,h1,h2⟩:=Rt (Int.le_refl 0) h
 have step:=Mq (S:=Int×Int) (step:=RN rc dp) (st:=fun s H'=>Upd H id (EB s.1 s.2) H'∧H'[n3]?=some (.box [.bp id 0])∧H'[n5]?=some (.box [.d (.i .i64 dp)])) (caps:=[.bp n3 0,.bp n5 0]) Tryz.call188 rfl
  (fun x s y H' hs hy=>by
   obtain ⟨hs0,hs3,hs5⟩:=hs
   simp only [RN,Option.map_eq_some_iff] at hy
   obtain ⟨z,hz,rfl⟩:=hy
   refine (LJ orc hz hs0.1 hs3 hs5).mono fun v H'' hp=>⟨hp.1,hs0.trans hp.2,?_,?_⟩
   ·rw [hp.2.2.2 n3 g3 (lS.1 hs3).1];exact hs3
   ·rw [hp.2.2.2 n5 g5 (lS.1 hs5).1];exact hs5)
  hlen h1 (H:=H5) ⟨u0,u3,u5⟩
 refine clR (avs:=[.d (.sl (Its a.items)),.fn 188 [] [.bp n3 0,.bp n5 0]]) step Tryz.call57 (fun v H' hp=>?_)
 obtain ⟨rfl,hp⟩:=hp
 refine vk (vnt) ?_
 rw [h2]
 refine vk (Ap) ?_;refine asd ?_;refine rn ?_;refine .ret ?_
 exact ⟨_,⟨rfl,rfl⟩,rfl,hp.1⟩
def Nr : Nat→Arr→Int→Int→Int→Option M3
 | 0,_,_,_,_=>none
 | k+1,a,deep,c,d=>if a.items.length≤9223372036854775806 then V3 (Nr k) a deep c d else none
theorem Q5 : ∀ k,OA (Nr k)
 | 0=>fun _ _ _ _ _ h=>by cases h
 | k+1=>fun a deep c d r h H id hH=>by
  rw [Nr] at h
  obtain ⟨hl,h⟩:=EW h
  exact Mm (Q5 k) hl h hH
def mAr (a:Arr) (deep c d:Int) : Option M3:=Nr (a.size+1) a deep c d
def mIt (x:Itm) (deep c d:Int) : Option M3:=Oe mAr x deep c d
theorem VH : OA mAr:=fun a deep c d r h=>Q5 _ a deep c d r h
def Fo (a:Arr) : Option ((Int×Int)×Bool):=(mAr a 0 0 0).map fun z=>if z.1=true then (z.2,true) else ((0,0),false)
theorem JW {a:Arr} {r:(Int×Int)×Bool} (h:Fo a=some r) : Fn Tryz.prog 81 [dvA a] (.tup [.d (.ag [.i .i64 r.1.1,.i .i64 r.1.2]),.d (.b r.2)]):=by
 simp only [Fo,Option.map_eq_some_iff] at h
 obtain ⟨z,hz,rfl⟩:=h
 refine Fn.ofC (rs:=[.cell 2 102,.tmp 3]) (nt:=10) Tryz.func81 rfl rfl rfl (by simp) rfl ?_;refine .sr ?_;refine vk (vbx) ?_;refine vk (van (Ak OG) Tq) ?_;refine asd ?_;refine rn ?_;refine .sr ?_
 refine al ?_ (Ak OG) (fun w I μ=>Vt w I μ)
 refine rn ?_;refine .seq ?_;refine .sr ?_;refine vk (Ar Ag Ab) ?_
 refine clR (avs:=[.bp 0 0,.d (dvA a),.d (.i .i64 0)]) (VH a 0 0 0 z hz _ 0 rfl) Tryz.call139 (fun v H' hp=>?_)
 obtain ⟨rfl,hp⟩:=hp
 refine vk (vnt) ?_;refine rn ?_
 by_cases hc:z.1=true
 ·rw [if_pos hc]
  refine cnf (ntf hc) ?_;refine .skip ?_;refine aw ?_;refine .sr ?_;refine vk (Ks (cs:=[.d (.i .i64 z.2.1),.d (.i .i64 z.2.2)]) (ds:=[.i .i64 z.2.1,.i .i64 z.2.2]) hp.1 V9 NM) ?_
  refine stn ?_ NM (by decide)
  refine asd ?_;refine rn ?_;refine .ret ?_
  exact ⟨_,_,⟨.inr rfl,V9,NM,p2⟩,rfl,rfl⟩
 ·rw [if_neg hc]
  refine cnt (ntt (bf hc)) ?_;refine .sr ?_;refine vk (vbd ZN OG Tq) ?_
  refine stn ?_ NM (by decide)
  refine asd ?_;refine rn ?_;refine .ret ?_
  exact ⟨_,_,⟨.inr rfl,V9,NM,p2⟩,rfl,rfl⟩
def EU (x:Itm) : Option Bool:=(mIt x 0 0 0).map fun z=>z.1
theorem IP {x:Itm} {r:Bool} (h:EU x=some r) : Fn Tryz.prog 59 [dvI x] (.d (.b r)):=by
 simp only [EU,Option.map_eq_some_iff] at h
 obtain ⟨z,hz,rfl⟩:=h
 refine Fn.o1 2 6 Tryz.func59 ?_;refine .sr ?_;refine vk (vbx) ?_;refine asd ?_;refine rn ?_;refine .sr ?_
 refine al ?_ (Ak OG) (fun w I μ=>Vt w I μ)
 refine vk (Ar AT Az) ?_
 refine clR (avs:=[.bp 0 0,.d (dvI x),.d (.i .i64 0)]) (Ji VH hz (id:=0) rfl) Tryz.call123 (fun v H' hp=>?_)
 obtain ⟨rfl,hp⟩:=hp
 refine asd ?_;refine rn ?_;refine .ret ?_
 exact ⟨rfl,rfl⟩
def NX (s:Bool) (n:Nat) : Int×Bool:=if s=true then (if n≤9223372036854775808 then (-(n:Int),true) else (0,false)) else if n<9223372036854775808 then ((n:Int),true) else (0,false)
def FX (a:RT) : Option (Int×Bool):=(Fu a).bind fun b=>if b=true then (if (okL 1048576 a.2.1&&decide (Ai (val a.2.1)=a.2.1))=true then some (if BQ (val a.2.1)≤64 then NX a.1 (val a.2.1) else (0,false)) else none) else some (0,false)
theorem Aam (w:World) : (zeroValue 96).run Tryz.prog w=.ok (.int .u64 0) w:=by
 simp
theorem zu1 : AB Tryz.prog 96=1:=by kernel_rfl
theorem au1 : Ct Tryz.prog 96=some false:=by kernel_rfl
theorem Xx {xs:List Nat} (h:Ok xs) (hl:xs.length≤2) : ∀ j,val (xs.drop (j+1))<4294967296:=by
 intro j
 match xs,hl with
 | [],_=>simp [val]
 | [x],_=>cases j<;>simp [val]
 | [x,y],_ =>
  have hy:y<4294967296:=h y (by simp)
  cases j with
  | zero=>simp [val];omega
  | succ j=>cases j<;>simp [val]
theorem UX {n:Nat} (h:n≤9223372036854775808) : IntKind.i64.wrap (IntKind.u64.wrap (0-(n:Int)))=-(n:Int):=by
 simp only [IntKind.wrap,IntKind.bits,IntKind.signed];simp;omega
theorem L1 {a:RT} {r:Int×Bool} (h:FX a=some r) : Fn Tryz.prog 79 [.ag [.b a.1,.sl (L a.2.1),.sl (L a.2.2)]] (.tup [.d (.i .i64 r.1),.d (.b r.2)]):=by
 unfold FX at h
 obtain ⟨x1,hx1,h⟩:=bnd h
 refine Fn.ofM (rs:=[.tmp 2,.tmp 3]) (nt:=46) Tryz.func79 rfl rfl rfl (by simp) rfl ?_;refine .seqA ?_;refine .region ?_;refine vk vbx ?_;refine asd ?_;refine asd ?_;refine rn ?_
 show AWM _ _ _ _ _ _
 refine .seqA ?_;refine .seq ?_;refine .region ?_;refine vk (Ar A0 AE) ?_;refine vk (Al (Iu hx1) Tryz.call129) ?_;refine vk vnt ?_
 cases x1 with
 | false =>
  replace h:=LW (by decide) h
  refine mvd ?_;refine gf4 ?_;refine vk Ap ?_;refine rn ?_;refine cnt rfl ?_;refine .seq ?_;refine .region ?_;refine asd ?_;refine asd ?_;refine rn ?_;refine .ret ?_
  cases h
  exact ⟨by decide,rfl,rfl,rfl⟩
 | true =>
  replace h:=Mc rfl h
  obtain ⟨hc,h⟩:=EW h
  rw [Bool.and_eq_true,Dl] at hc
  obtain ⟨⟨hok,hlen⟩,hdg⟩:=hc
  have hdg:=of_decide_eq_true hdg
  refine mvd ?_;refine vk (vfa EN) ?_;refine vk (Ao Gj) ?_
  refine cl (xs:=[.sl (L a.2.1)]) ?_ (Xn hok hlen) Tryz.call137
  refine vb ?_;refine vk Ap ?_;refine rn ?_
  by_cases hb:BQ (val a.2.1)≤64
  ·rw [if_pos hb] at h
   cases h
   have hb1:decide ((64:Int)<(BQ (val a.2.1):Nat))=false:=dF (by omega)
   refine cnf hb1 ?_;refine .skip ?_
   show AWM _ _ _ _ _ _
   have hv64:val a.2.1<18446744073709551616:=ER.1 hb
   have hlen2:a.2.1.length≤2:=by rw [← hdg];exact DQ (by omega)
   have hvs:=Xx hok hlen2
   refine .seqA ?_;refine .region ?_
   refine al ?_ Aam (fun w I μ=>.cons (c:=.d (.i .u64 0)) (b1:=[]) (.d (.i _ _)) .nil)
   refine stb (cs:=[.d (.i .u64 0)]) (c:=.d (.i .u64 0)) rfl rfl ?_ zu1
   refine rn ?_
   show AWM _ _ _ _ _ _
   refine .seq rfl ?_;refine .seqA ?_;refine .region ?_;refine vk (vfa EN) ?_;refine vk (Ao Gj) ?_
   refine cl (xs:=[.sl (L a.2.1)]) ?_ (Qr (L a.2.1)) Tryz.call138
   refine rn ?_
   show AWM _ _ _ _ _ _
   obtain ⟨s,xs,den⟩:=a
   dsimp only at *
   have hys:∀ ds∈KY (L xs),ds.length=2:=fun ds hds=>by
    obtain ⟨k,hk⟩:=List.getElem?_of_mem hds
    rw [(QY hk).2];rfl
   have hit:=Z3 (L xs) (by intro x hx;simp only [L,List.mem_map] at hx;obtain ⟨n,_,rfl⟩:=hx;rfl) (by rw [Aa];omega)
   refine .block ?_;refine .rangeFunc rfl rfl rfl Tryz.call187 hit hys (by decide) (by decide) rfl (fun k=>[.box [.d (.i .u64 ((val (xs.drop (xs.length-k)):Nat):Int))]]) (by simp [val]) ?_ ?_
   ·intro l k d1 d2 hk
    obtain ⟨hk1,hk2⟩:=QY hk
    rw [Aa] at hk1 hk2
    have hj:xs.length-1-k<xs.length:=by omega
    have hxat:(L xs).getD (xs.length-1-k) .np=U xs[xs.length-1-k]:=by
     rw [lD,Ge (lG hj)];rfl
    rw [hxat] at hk2
    simp only [List.cons.injEq,and_true] at hk2
    obtain ⟨rfl,rfl⟩:=hk2
    have hva:=YR hj
    have hx:=hok.at (lG hj)
    have hsm:=hvs (xs.length-1-k)
    have e1:xs.length-1-k+1=xs.length-k:=by omega
    have e2:xs.length-(k+1)=xs.length-1-k:=by omega
    rw [e1] at hva hsm
    rw [e2]
    generalize xs[xs.length-1-k]=x at *
    generalize val (xs.drop (xs.length-k))=n at *
    rw [hva]
    refine .region ?_;refine asd ?_;refine rn ?_;refine aw ?_;refine .block ?_;refine .region ?_
    refine ldb (cs:=[.d (.i .u64 (n:Int))]) (c:=.d (.i .u64 (n:Int))) rfl rfl ?_ au1
    refine bie (.i .u64 ((n * 4294967296:Nat):Int)) ?_ ?_
    ·refine ⟨by decide,?_⟩
     have:IntKind.u64.wrap ((n:Int) * 4294967296)=((n * 4294967296:Nat):Int):=by
      rw [HB _ (by omega) (by omega)];omega
     rw [← this];simp [IntKind.bits]
    refine mvd ?_
    refine cve (x:Int) (HB _ (by omega) (by omega)) ?_ u32 u64
    refine bie (.i .u64 ((n * 4294967296+x:Nat):Int)) ?_ ?_
    ·exact ⟨trivial,by rw [Kv hsm hx]⟩
    refine stb (cs:=[.d (.i .u64 (n:Int))]) (c:=.d (.i .u64 (n:Int))) rfl rfl ?_ zu1
    refine .nil ?_
    refine ⟨rfl,?_⟩
    rw [show n * 4294967296+x=x+4294967296 * n by omega]
    rfl
   ·show AWM _ _ _ _ _ _
    refine .lift ?_
    rw [Ib,Aa,Nat.sub_self,List.drop_zero]
    have hn:val xs<18446744073709551616:=hv64
    generalize val xs=n at *
    cases s with
    | true =>
     refine .seq ?_;refine .block ?_;refine .seq ?_;refine .region ?_;refine vk (vfa E6) ?_;refine vk (Ao DY) ?_;refine mvd ?_
     refine ldb (cs:=[.d (.i .u64 (n:Int))]) (c:=.d (.i .u64 (n:Int))) rfl rfl ?_ au1
     refine vb ?_;refine vk Ap ?_;refine asd ?_;refine rn ?_
     by_cases hle:n≤9223372036854775808
     ·refine cnt (dT (show (n:Int)≤9223372036854775808 by omega)) ?_
      refine .seq ?_;refine .region ?_
      refine ldb (cs:=[.d (.i .u64 (n:Int))]) (c:=.d (.i .u64 (n:Int))) rfl rfl ?_ au1
      refine vk vng ?_;refine vk (vcv u64 i64) ?_;refine asd ?_;refine asd ?_;refine rn ?_;refine .ret ?_
      refine ⟨by decide,?_,rfl,rfl⟩
      rw [show NX true n=(-(n:Int),true) by rw [NX,if_pos rfl,if_pos hle],← UX hle];rfl
     ·refine cnf (dF (show ¬((n:Int)≤9223372036854775808) by omega)) ?_
      refine .seq ?_;refine .region ?_;refine vk (vfa E6) ?_;refine vk (Ao DY) ?_;refine vk vnt ?_;refine mvd ?_;refine gf2 ?_;refine vk Ap ?_;refine asd ?_;refine rn ?_;refine cnf rfl ?_;refine .sk ?_;refine .seq ?_;refine .region ?_;refine asd ?_;refine asd ?_;refine rn ?_;refine .ret ?_
      exact ⟨by decide,by rw [show NX true n=(0,false) by rw [NX,if_pos rfl,if_neg hle]];rfl,rfl,rfl⟩
    | false =>
     refine .seq ?_;refine .block ?_;refine .seq ?_;refine .region ?_;refine vk (vfa E6) ?_;refine vk (Ao DY) ?_;refine mvd ?_;refine gf2 ?_;refine vk Ap ?_;refine asd ?_;refine rn ?_;refine cnf rfl ?_;refine .seq ?_;refine .region ?_;refine vk (vfa E6) ?_;refine vk (Ao DY) ?_;refine vk vnt ?_;refine mvd ?_
     refine ldb (cs:=[.d (.i .u64 (n:Int))]) (c:=.d (.i .u64 (n:Int))) rfl rfl ?_ au1
     refine vb ?_;refine vk Ap ?_;refine asd ?_;refine rn ?_
     by_cases hlt:n<9223372036854775808
     ·refine cnt (dT (show (n:Int)<9223372036854775808 by omega)) ?_
      refine .seq ?_;refine .region ?_
      refine ldb (cs:=[.d (.i .u64 (n:Int))]) (c:=.d (.i .u64 (n:Int))) rfl rfl ?_ au1
      refine vk (vcv u64 i64) ?_;refine asd ?_;refine asd ?_;refine rn ?_;refine .ret ?_
      refine ⟨by decide,?_,rfl,rfl⟩
      rw [show NX false n=((n:Int),true) by rw [NX,if_neg (by decide),if_pos hlt]]
      have:=Us (n:Int) (by omega) (by omega)
      exact (show AV.tup [.d (.i .i64 (n:Int)),.d (.b true)]=.tup [.d (.i .i64 (IntKind.i64.wrap (n:Int))),.d (.b true)] by rw [this]).trans rfl
     ·refine cnf (dF (show ¬((n:Int)<9223372036854775808) by omega)) ?_
      refine .sk ?_;refine .seq ?_;refine .region ?_;refine asd ?_;refine asd ?_;refine rn ?_;refine .ret ?_
      exact ⟨by decide,by rw [show NX false n=(0,false) by rw [NX,if_neg (by decide),if_neg hlt]];rfl,rfl,rfl⟩
  ·rw [if_neg hb] at h
   cases h
   have hb1:decide ((64:Int)<(BQ (val a.2.1):Nat))=true:=dT (by omega)
   refine cnt hb1 ?_;refine .seq ?_;refine .region ?_;refine asd ?_;refine asd ?_;refine rn ?_;refine .ret ?_
   exact ⟨by decide,rfl,rfl,rfl⟩
def Bs (a0:Arr) : Option (Bool):=((Fo a0).bind fun x1=>(some (x1.2)))
theorem CW {a0:Arr} {r:Bool} (h:Bs a0=some r) :
  Fn Tryz.prog 54 [.ag [.sl (Is a0.shape),.sl (Its a0.items)]] (.d (.b r)):=by
 unfold Bs at h
 refine Fn.o1 2 11 Tryz.func54 ?_;refine .sr ?_;refine vk vbx ?_;refine ar [1,2] ?_;refine .sr ?_;refine vk (Ar Ag Ab) ?_
 obtain ⟨x1,g1,h⟩:=bnd h
 refine vk (VOK.tupd (vs:=[.ag [.i .i64 x1.1.1,.i .i64 x1.1.2],.b x1.2]) (Al (JW g1) Tryz.call81)) ?_;refine va ?_;refine vk vex ?_;refine vk vex ?_;refine vk (van (Ak OG) Tq) ?_
 refine stn ?_ NM (by decide)
 refine ar [2,4] ?_;refine .sr ?_;refine va ?_;refine ar [2] ?_;refine .ret ?_
 cases h
 exact ⟨rfl,rfl⟩
def FI (a0:Arr) : Option (Int):=((Fo a0).bind fun x1=>(some (x1.1.1)))
theorem Nn {a0:Arr} {r:Int} (h:FI a0=some r) :
  Fn Tryz.prog 62 [.ag [.sl (Is a0.shape),.sl (Its a0.items)]] (.d (.i .i64 r)):=by
 unfold FI at h
 refine Fn.o1 2 12 Tryz.func62 ?_;refine .sr ?_;refine vk vbx ?_;refine ar [1,2] ?_;refine .sr ?_;refine vk (Ar Ag Ab) ?_
 obtain ⟨x1,g1,h⟩:=bnd h
 refine vk (VOK.tupd (vs:=[.ag [.i .i64 x1.1.1,.i .i64 x1.1.2],.b x1.2]) (Al (JW g1) Tryz.call81)) ?_;refine va ?_;refine vk vex ?_;refine vk vex ?_;refine vk (van (Ak OG) Tq) ?_
 refine stn ?_ NM (by decide)
 refine ar [2,3] ?_;refine .seq ?_;refine .gh (Gh.nbp (t:=3) rfl) ?_;refine .region ?_;refine vk (vfa ME) ?_;refine vk (Ao AJ) ?_;refine ar [2] ?_;refine .ret ?_
 cases h
 exact ⟨rfl,rfl⟩
def G0 (a0:Arr) (a1:Arr) : Option (Bool):=((Bs a0).bind fun x1=>(Option.bind ((if x1=true then ((Bs a1).bind fun x3=>(if x3=true then ((RO a0 a1).bind fun x4=>(some x4)) else (some false))) else (some false)) : Option (Bool)) fun (z1:Bool)=>(some (z1))))
theorem IL {a0:Arr} {a1:Arr} {r:Bool} (h:G0 a0 a1=some r) :
  Fn Tryz.prog 17 [.ag [.sl (Is a0.shape),.sl (Its a0.items)],.ag [.sl (Is a1.shape),.sl (Its a1.items)]] (.d (.b r)):=by
 unfold G0 at h
 refine Fn.o1 4 16 Tryz.func17 ?_;refine .sr ?_;refine vk vbx ?_;refine vk vbx ?_;refine ar [2,3,4] ?_;refine .seq ?_
 obtain ⟨x1,g1,h⟩:=bnd h
 obtain ⟨z1,hz,h⟩:=bnd h
 refine AW.mr (σ:=Unit) (fun _=>True) (fun _=>[(4,.d (.b z1))]) (fun _=>[]) ?_ ?_
 ·skip
  refine .region ?_;refine vk (Ar Ag Ab) ?_;refine vk (Al (CW g1) Tryz.call54) ?_
  rcases brc hz with ⟨hc,hz⟩|⟨hc,hz⟩
  ·have hb0:x1=true:=hc
   refine vL hb0 ?_;refine vk (Ar Ag Ab) ?_
   obtain ⟨x3,g3,hz⟩:=bnd hz
   refine vk (Al (CW g3) Tryz.call54) ?_;refine vk Ap ?_
   rcases brc hz with ⟨hc,hz⟩|⟨hc,hz⟩
   ·have hb1:x3=true:=hc
    refine vL hb1 ?_;refine vk (Ar Ag Ab) ?_;refine vk (Ar Ag Ab) ?_
    obtain ⟨x4,g4,hz⟩:=bnd hz
    refine vk (Al (RK g4) Tryz.call55) ?_;refine vk Ap ?_;refine asd ?_;refine RL.gk [4] ?_;refine .nil ?_
    cases hz
    exact jr () trivial
   have hb1:x3=false:=(bf hc)
   refine vL hb1 ?_;refine gf3 ?_;refine vk Ap ?_;refine asd ?_;refine RL.gk [4] ?_;refine .nil ?_
   cases hz
   exact jr () trivial
  have hb0:x1=false:=(bf hc)
  refine vL hb0 ?_;refine gf2 ?_;refine vk Ap ?_;refine va ?_;refine gf3 ?_;refine vk Ap ?_;refine asd ?_;refine RL.gk [4] ?_;refine .nil ?_
  cases hz
  exact jr () trivial
 rintro _ _
 refine .ret ?_
 cases h
 exact ⟨rfl,rfl⟩
def Ax (a0:(List Itm)) (a1:Cl) (K0:Int→Option (Int)) : Nat→Int→Int→Option (Int)
 | 0,_,_=>none
 | k+1,s2,s3=>(if s3<((List.length a0:Nat):Int) then ((rd? a0 s3).bind fun x4=>((a1.g x4).bind fun x5=>(if x5=true then (some (s3)) else (Ax a0 a1 K0 k s2 (w64 (s3+1)))))) else (K0 s2))
def Bj (a0:(List Itm)) (a1:Cl) : Option (Int):=(jn (fun (z1:Int)=>(some ((-1)))) fun K0=>(Ax a0 a1 K0 As 0 0))
theorem El {a0:(List Itm)} {a1:Cl} (oa1:La a1) {r:Int} (h:Bj a0 a1=some r) :
  Fn Tryz.prog 122 [.sl (Its a0),a1.dv] (.d (.i .i64 r)):=by
 unfold Bj at h
 refine Fn.o1 4 19 Tryz.func122 ?_;refine .sr ?_;refine ar [0,1,4] ?_;refine .seq ?_;refine .sr ?_;refine va ?_;refine vk (A5 (Au _) (BS _) BO) ?_;refine va ?_;refine rk [0,1,4,7,8] ?_
 obtain ⟨K0,hK0,h⟩:=AH h
 refine AW.mr (σ:=Int) (fun p=>K0 p=some r) (fun p=>[(4,.d (.i .i64 p))]) (fun p=>[]) ?_ ?_
 ·skip
  refine .block ?_
  refine .loop (.gk [0,1,4,7,8] ?_)
  refine AL.ind (σ:=Nat×Int×Int) (m:=fun p=>p.1) (e:=fun p=>[(0,.d (.sl (Its a0))),(1,.d (a1.dv)),(4,.d (.i .i64 p.2.1)),(7,.d (.i .i64 ((List.length a0:Nat):Int))),(8,.d (.i .i64 p.2.2))]) (h:=fun p=>[]) (I:=fun p=>Ax a0 a1 K0 p.1 p.2.1 p.2.2=some r) ?_ (As,0,0) h
  rintro ⟨k,s2,s3⟩ h ih
  dsimp only at h ih ⊢
  rcases k with _|k
  ·rw [Ax] at h;cases h
  rw [Ax] at h
  refine .sr ?_;refine vb ?_;refine rk [0,1,4,7,8,9] ?_;refine .seq ?_
  rcases brc h with ⟨hc,h⟩|⟨hc,h⟩
  ·refine cnt (dT hc) ?_
   refine .sk ?_;refine .seq ?_;refine .block ?_;refine .sr ?_;refine va ?_;refine ar [0,1,4,5,7,8] ?_;refine .sr ?_;refine va ?_;refine va ?_;refine va ?_
   obtain ⟨x4,g4,h⟩:=bnd h
   obtain ⟨n4,p04,q4⟩:=Ah g4
   refine vk (vix n4 p04 (CD q4) rfl CF) ?_;refine vk (Ar AT Az) ?_
   obtain ⟨x5,g5,h⟩:=bnd h
   refine vk (Mu (oa1 _ _ g5)) ?_;refine rk [0,1,4,5,7,8,16] ?_
   rcases brc h with ⟨hc,h⟩|⟨hc,h⟩
   ·refine cnt hc ?_
    refine .sr ?_;refine va ?_;refine ar [0,1,4,7,8] ?_;refine .ret ?_
    cases h
    exact ⟨rfl,rfl⟩
   refine cnf (bf hc) ?_;refine .sk ?_;refine .region ?_;refine vb ?_;refine va ?_;refine .nil ?_;refine AL.gk [0,1,4,7,8] ?_
   exact ih (k,s2,(w64 (s3+1))) h (Nat.lt_succ_self _)
  refine cnf (dF hc) ?_;refine .gk [4] ?_;refine .exit ?_
  exact jr (s2) h
 rintro z1 h
 try dsimp only at h ⊢
 subst hK0
 refine aw ?_;refine .sr ?_;refine ar [4] ?_;refine .ret ?_
 cases h
 exact ⟨rfl,rfl⟩
def AG (a0:(List Itm)) (a1:Cl) : Option (Bool):=((Bj a0 a1).bind fun x1=>(some ((decide (0≤x1)))))
theorem Cf {a0:(List Itm)} {a1:Cl} (oa1:La a1) {r:Bool} (h:AG a0 a1=some r) :
  Fn Tryz.prog 57 [.sl (Its a0),a1.dv] (.d (.b r)):=by
 unfold AG at h
 refine Fn.o1 4 9 Tryz.func57 ?_;refine .sr ?_;refine ar [0,1,4] ?_;refine .sr ?_;refine va ?_;refine va ?_
 obtain ⟨x1,g1,h⟩:=bnd h
 refine vk (Al (El oa1 g1) Tryz.call122) ?_;refine vb ?_;refine ar [4] ?_;refine .ret ?_
 cases h
 exact ⟨rfl,rfl⟩
def Fa (a0:Itm) : Option (Bool):=((EU a0).bind fun x1=>(some ((!x1))))
theorem Mh {a0:Itm} {r:Bool} (h:Fa a0=some r) :
  Fn Tryz.prog 58 [.ag [.i .u8 a0.kind,.b a0.num.1,.sl (L a0.num.2.1),.sl (L a0.num.2.2),.i .i32 a0.char,.sl (Ars a0.box)]] (.d (.b r)):=by
 unfold Fa at h
 refine Fn.o1 2 6 Tryz.func58 ?_;refine .sr ?_;refine vk vbx ?_;refine ar [1,2] ?_;refine .sr ?_;refine vk (Ar AT Az) ?_
 obtain ⟨x1,g1,h⟩:=bnd h
 refine vk (Al (IP g1) Tryz.call59) ?_;refine vk vnt ?_;refine ar [2] ?_;refine .ret ?_
 cases h
 exact ⟨rfl,rfl⟩
def CR (x12:Itm) (K4:Int→Option (Arr×Int)) : Nat→Int→Int→Option (Arr×Int)
 | 0,_,_=>none
 | k+1,s14,s15=>(if s15<((List.length x12.box:Nat):Int) then ((rd? x12.box s15).bind fun x16=>((FI x16).bind fun x17=>(CR x12 K4 k (w64 (s14+x17)) (w64 (s15+1))))) else (K4 s14))
def Co (a1:(List Itm)) (K1:(List Int)→Option (Arr×Int)) : Nat→(List Int)→Int→Option (Arr×Int)
 | 0,_,_=>none
 | k+1,s9,s10=>(if s10<((List.length a1:Nat):Int) then (jn (fun (z11:(List Int))=>(Co a1 K1 k z11 (w64 (s10+1)))) fun K3=>((rd? a1 s10).bind fun x12=>(jn (fun (z13:Int)=>((ap? 17592186044416 s9 [z13]).bind fun x18=>(K3 x18))) fun K4=>(CR x12 K4 As 1 0)))) else (K1 s9))
def Cq (a1:(List Itm)) (x1:Int×Int) (z8:(List Int)) (K6:Arr→Int→(List Int)→(List Itm)→Option (Arr×Int)) : Nat→Arr→Int→Int→Int→(List Int)→(List Itm)→Option (Arr×Int)
 | 0,_,_,_,_,_,_=>none
 | k+1,s23,s24,s25,s26,s27,s28=>(if s25<x1.1 then ((GV (((List.length a1:Nat):Int)≠0)).bind fun x29=>((rd? z8 (Int.tmod s25 ((List.length a1:Nat):Int))).bind fun x30=>(if 16384<(w64 (s26+x30)) then (some ((Arr.mk [] []),8)) else ((GV (((List.length a1:Nat):Int)≠0)).bind fun x31=>((rd? a1 (Int.tmod s25 ((List.length a1:Nat):Int))).bind fun x32=>((Hc x32).bind fun x33=>((ap? 1466015503701 s28 [x33]).bind fun x34=>(Cq a1 x1 z8 K6 k s23 s24 (w64 (s25+1)) (w64 (s26+x30)) s27 x34)))))))) else (K6 s23 s24 s27 s28))
def AZ (a0:(List Int)) (a1:(List Itm)) : Option (Arr×Int):=((CB a0).bind fun x1=>(if x1.2=0 then (Option.bind ((if ((List.length a1:Nat) : Int)=0 then (some true) else ((AG a1 (⟨.fn 58 [] [],fun x=>Fa x⟩ : Cl)).bind fun x3=>(some x3))) : Option (Bool)) fun (z2:Bool)=>(if z2=true then (some ((Arr.mk [] []),22)) else ((Fg a0).bind fun x4=>(jn (fun (z5:(List Itm))=>(jn (fun (z8:(List Int))=>(jn (fun (z19:Arr) (z20:Int) (z21:(List Int)) (z22:(List Itm))=>((Bs (Arr.mk z21 z22)).bind fun x35=>(if x35=true then (some ((Arr.mk z21 z22),0)) else (some ((Arr.mk [] []),8))))) fun K6=>(Cq a1 x1 z8 K6 As (Arr.mk [] []) 0 0 0 x4 z5))) fun K1=>(Co a1 K1 As [] 0))) fun K0=>(if x1.1=0 then ((rd? a1 0).bind fun x6=>((KO x6).bind fun x7=>(K0 ([x7])))) else (K0 [])))))) else (some ((Arr.mk [] []),x1.2))))
set_option maxHeartbeats 4000000 in
theorem Hh {a0:(List Int)} {a1:(List Itm)} {r:Arr×Int} (h:AZ a0 a1=some r) :
  Fn Tryz.prog 18 [.sl (Is a0),.sl (Its a1)] (.tup [.d (.ag [.sl (Is r.1.shape),.sl (Its r.1.items)]),.d (.i .i64 r.2)]):=by
 unfold AZ at h
 refine Fn.ofC (rs:=[.cell 4 27,.tmp 5]) (nt:=105) Tryz.func18 rfl rfl rfl (by simp) rfl ?_;refine .sr ?_;refine vk (van (Ak AK) AP) ?_;refine ar [0,1,4,5] ?_;refine .sr ?_;refine va ?_
 obtain ⟨x1,g1,h⟩:=bnd h
 refine vk (VOK.tupd (vs:=[.i .i64 x1.1,.i .i64 x1.2]) (Al (DS g1) Tryz.call56)) ?_;refine va ?_;refine vk vex ?_;refine vk vex ?_;refine asd ?_;refine ar [0,1,4,5,6,7] ?_;refine .seq ?_;refine .block ?_;refine .sr ?_;refine va ?_;refine vb ?_;refine ar [0,1,4,5,6,7,22] ?_
 rcases brc h with ⟨hc,h⟩|⟨hc,h⟩
 ·refine cnf (ntf (dT hc)) ?_
  refine .seq ?_
  obtain ⟨z2,hz,h⟩:=bnd h
  refine AW.mr (σ:=Unit) (fun _=>True) (fun _=>[(0,.d (.sl (Is a0))),(1,.d (.sl (Its a1))),(4,.nb [.sl (Is []),.sl (Its [])]),(5,.d (.i .i64 0)),(6,.d (.i .i64 x1.1)),(27,.d (.b z2))]) (fun _=>[]) ?_ ?_
  ·skip
   refine .region ?_;refine va ?_;refine vk (A5 (Au _) (BS _) BO) ?_;refine vb ?_
   rcases brc hz with ⟨hc,hz⟩|⟨hc,hz⟩
   ·have hb0:(decide (((List.length a1:Nat):Int)=0))=true:=(dT hc)
    refine vL hb0 ?_;refine gf2 ?_;refine vk Ap ?_;refine asd ?_;refine RL.gk [0,1,4,5,6,27] ?_;refine .nil ?_
    cases hz
    exact jr () trivial
   have hb0:(decide (((List.length a1:Nat):Int)=0))=false:=(dF hc)
   refine vL hb0 ?_;refine va ?_
   obtain ⟨x3,g3,hz⟩:=bnd hz
   refine vk (Al (Cf (J4 Tryz.call58 (fun _ _ h=>Mh h)) g3) Tryz.call57) ?_;refine vk Ap ?_;refine asd ?_;refine RL.gk [0,1,4,5,6,27] ?_;refine .nil ?_
   cases hz
   exact jr () trivial
  rintro _ _
  rcases brc h with ⟨hc,h⟩|⟨hc,h⟩
  ·refine cnt hc ?_
   refine .sr ?_;refine vk (vbd CJ AK AP) ?_
   refine stn ?_ Ab (by decide)
   refine ar [0,1,4,5,6] ?_;refine .ret ?_
   cases h
   exact ⟨_,_,⟨.inr rfl,Ag,Ab,p2⟩,rfl,rfl⟩
  refine cnf (bf hc) ?_;refine .sk ?_;refine .sr ?_;refine va ?_
  obtain ⟨x4,g4,h⟩:=bnd h
  refine vk ((Al (JV g4) Tryz.call60).deep) ?_;refine vk (Yw CJ AK (fun w I μ=>Px w I μ)) ?_;refine vk (van (Ak AK) AP) ?_
  refine Zn ?_ Ab (by decide)
  refine rk [1,4,5,6,8] ?_;refine .seq ?_;refine .sr ?_;refine va ?_;refine vb ?_;refine rk [1,4,5,6,8,40] ?_
  obtain ⟨K0,hK0,h⟩:=AH h
  refine AW.mr (σ:=(List Itm)) (fun p=>K0 p=some r) (fun p=>[(1,.d (.sl (Its a1))),(4,.nb [.sl (Is []),.sl (Its [])]),(5,.d (.i .i64 0)),(6,.d (.i .i64 x1.1)),(8,.bp 0 0)]) (fun p=>[HO.box [.d (.sl (Is x4)),.own 51 (Its p)]]) ?_ ?_
  ·skip
   rcases brc h with ⟨hc,h⟩|⟨hc,h⟩
   ·refine cnt (dT hc) ?_
    refine .region ?_;refine va ?_
    obtain ⟨x6,g6,h⟩:=bnd h
    obtain ⟨n6,p06,q6⟩:=Ah g6
    refine vk (vix n6 p06 (CD q6) rfl CF) ?_;refine vk (Ar AT Az) ?_
    obtain ⟨x7,g7,h⟩:=bnd h
    refine vk (Al (L4 g7) Tryz.call61) ?_;refine vk (FF (G4 x7) (FK [x7]) E9) ?_;refine vk (HN AU) ?_
    refine RG (cs:=[.d (.sl (Is x4)),.nl]) (c:=.nl) rfl rfl ?_ Lr
    refine RL.gk [1,4,5,6,8] ?_;refine .nil ?_
    exact jr ([x7]) h
   refine cnf (dF hc) ?_;refine .gh (Gh.nlOwnC (id:=0) (off:=1) 51 (by rw [Pw];decide)) ?_;refine .gk [1,4,5,6,8] ?_;refine .skip ?_
   exact jr ([]) h
  rintro z5 h
  try dsimp only at h ⊢
  subst hK0
  refine aw ?_;refine .sr ?_;refine asn ?_;refine rk [1,4,5,6,8,9] ?_;refine .seq ?_;refine .sr ?_;refine va ?_;refine vk (A5 (Au _) (BS _) BO) ?_;refine va ?_;refine rk [1,4,5,6,8,9,47,48,49] ?_
  obtain ⟨K1,hK1,h⟩:=AH h
  refine AW.mr (σ:=(List Int)) (fun p=>K1 p=some r) (fun p=>[(1,.d (.sl (Its a1))),(4,.nb [.sl (Is []),.sl (Its [])]),(5,.d (.i .i64 0)),(6,.d (.i .i64 x1.1)),(8,.bp 0 0),(9,.own 3 (Is p))]) (fun p=>[HO.box [.d (.sl (Is x4)),.own 51 (Its z5)]]) ?_ ?_
  ·skip
   refine .block ?_;refine .gh (Gh.nlOwn (t:=9) 3 (by rw [Dg];decide) rfl) ?_
   refine .loop (.gk [1,4,5,6,8,9,47,48,49] ?_)
   refine AL.ind (σ:=Nat×(List Int)×Int) (m:=fun p=>p.1) (e:=fun p=>[(1,.d (.sl (Its a1))),(4,.nb [.sl (Is []),.sl (Its [])]),(5,.d (.i .i64 0)),(6,.d (.i .i64 x1.1)),(8,.bp 0 0),(9,.own 3 (Is p.2.1)),(47,.d (.sl (Its a1))),(48,.d (.i .i64 ((List.length a1:Nat):Int))),(49,.d (.i .i64 p.2.2))]) (h:=fun p=>[HO.box [.d (.sl (Is x4)),.own 51 (Its z5)]]) (I:=fun p=>Co a1 K1 p.1 p.2.1 p.2.2=some r) ?_ (As,[],0) h
   rintro ⟨k,s9,s10⟩ h ih
   dsimp only at h ih ⊢
   rcases k with _|k
   ·rw [Co] at h;cases h
   rw [Co] at h
   refine .sr ?_;refine vb ?_;refine rk [1,4,5,6,8,9,47,48,49,50] ?_;refine .seq ?_
   rcases brc h with ⟨hc,h⟩|⟨hc,h⟩
   ·refine cnt (dT hc) ?_
    refine .sk ?_
    obtain ⟨K3,hK3,h⟩:=AH h
    refine AW.mj (σ:=(List Int)) (fun p=>K3 p=some r) (fun p=>[(1,.d (.sl (Its a1))),(4,.nb [.sl (Is []),.sl (Its [])]),(5,.d (.i .i64 0)),(6,.d (.i .i64 x1.1)),(8,.bp 0 0),(9,.own 3 (Is p)),(47,.d (.sl (Its a1))),(48,.d (.i .i64 ((List.length a1:Nat):Int))),(49,.d (.i .i64 s10))]) (fun p=>[HO.box [.d (.sl (Is x4)),.own 51 (Its z5)]]) ?_ ?_
    ·skip
     refine .block ?_;refine .sr ?_
     obtain ⟨x12,g12,h⟩:=bnd h
     obtain ⟨n12,p012,q12⟩:=Ah g12
     refine vk (vix n12 p012 (CD q12) rfl CF) ?_;refine vk (Ar AT Az) ?_;refine vk (van (Ak CO) CL) ?_
     refine stn ?_ Az (by decide)
     refine rk [1,4,5,6,8,9,11,47,48,49] ?_;refine .sr ?_;refine ar [1,4,5,6,8,9,11,12,47,48,49] ?_;refine .seq ?_;refine .seq ?_;refine .gh (Gh.nbp (t:=11) rfl) ?_;refine .region ?_;refine vk (vfa BM) ?_;refine vk (Ao C4) ?_;refine vk (A5 (BC _) (EI _) EL) ?_;refine va ?_;refine rk [1,4,5,6,8,9,12,47,48,49,54,55,56] ?_
     obtain ⟨K4,hK4,h⟩:=AH h
     refine AW.mr (σ:=Int) (fun p=>K4 p=some r) (fun p=>[(1,.d (.sl (Its a1))),(4,.nb [.sl (Is []),.sl (Its [])]),(5,.d (.i .i64 0)),(6,.d (.i .i64 x1.1)),(8,.bp 0 0),(9,.own 3 (Is s9)),(12,.d (.i .i64 p)),(47,.d (.sl (Its a1))),(48,.d (.i .i64 ((List.length a1:Nat):Int))),(49,.d (.i .i64 s10))]) (fun p=>[HO.box [.d (.sl (Is x4)),.own 51 (Its z5)]]) ?_ ?_
     ·skip
      refine .block ?_
      refine .loop (.gk [1,4,5,6,8,9,12,47,48,49,54,55,56] ?_)
      refine AL.ind (σ:=Nat×Int×Int) (m:=fun p=>p.1) (e:=fun p=>[(1,.d (.sl (Its a1))),(4,.nb [.sl (Is []),.sl (Its [])]),(5,.d (.i .i64 0)),(6,.d (.i .i64 x1.1)),(8,.bp 0 0),(9,.own 3 (Is s9)),(12,.d (.i .i64 p.2.1)),(47,.d (.sl (Its a1))),(48,.d (.i .i64 ((List.length a1:Nat):Int))),(49,.d (.i .i64 s10)),(54,.d (.sl (Ars x12.box))),(55,.d (.i .i64 ((List.length x12.box:Nat):Int))),(56,.d (.i .i64 p.2.2))]) (h:=fun p=>[HO.box [.d (.sl (Is x4)),.own 51 (Its z5)]]) (I:=fun p=>CR x12 K4 p.1 p.2.1 p.2.2=some r) ?_ (As,1,0) h
      rintro ⟨k,s14,s15⟩ h ih
      dsimp only at h ih ⊢
      rcases k with _|k
      ·rw [CR] at h;cases h
      rw [CR] at h
      refine .sr ?_;refine vb ?_;refine rk [1,4,5,6,8,9,12,47,48,49,54,55,56,57] ?_;refine .seq ?_
      rcases brc h with ⟨hc,h⟩|⟨hc,h⟩
      ·refine cnt (dT hc) ?_
       refine .sk ?_;refine .seq ?_;refine .block ?_;refine .sr ?_
       obtain ⟨x16,g16,h⟩:=bnd h
       obtain ⟨n16,p016,q16⟩:=Ah g16
       refine vk (vix n16 p016 (Eb q16) rfl Ea) ?_;refine vk (Ar Ag Ab) ?_;refine vk (van (Ak AK) AP) ?_
       refine stn ?_ Ab (by decide)
       refine rk [1,4,5,6,8,9,12,14,47,48,49,54,55,56] ?_;refine .region ?_;refine va ?_;refine vk (D7 Ag Ab) ?_
       obtain ⟨x17,g17,h⟩:=bnd h
       refine vk (Al (Nn g17) Tryz.call62) ?_;refine vb ?_;refine asd ?_;refine .nil ?_;refine aw ?_;refine .gk [1,4,5,6,8,9,12,47,48,49,54,55,56] ?_;refine .region ?_;refine vb ?_;refine va ?_;refine .nil ?_;refine AL.gk [1,4,5,6,8,9,12,47,48,49,54,55,56] ?_
       exact ih (k,(w64 (s14+x17)),(w64 (s15+1))) h (Nat.lt_succ_self _)
      refine cnf (dF hc) ?_;refine .gk [1,4,5,6,8,9,12,47,48,49] ?_;refine .exit ?_
      exact jr (s14) h
     rintro z13 h
     try dsimp only at h ⊢
     subst hK4
     refine aw ?_;refine .region ?_;refine mvo ?_;refine va ?_;refine vk ((E1 (DZ [z13]) DN).deep) ?_
     obtain ⟨x18,g18,h⟩:=bnd h
     refine Ms Jg g18 L2 ?_ Ix Af DN
     refine aso ?_;refine RL.gk [1,4,5,6,8,9,47,48,49] ?_;refine .nil ?_
     exact jr (x18) h
    rintro z11 h
    try dsimp only at h ⊢
    subst hK3
    refine .region ?_;refine vb ?_;refine va ?_;refine .nil ?_;refine AL.gk [1,4,5,6,8,9,47,48,49] ?_
    exact ih (k,z11,(w64 (s10+1))) h (Nat.lt_succ_self _)
   refine cnf (dF hc) ?_;refine .gk [1,4,5,6,8,9] ?_;refine .exit ?_
   exact jr (s9) h
  rintro z8 h
  try dsimp only at h ⊢
  subst hK1
  refine aw ?_;refine .seq ?_;refine .sr ?_;refine asd ?_;refine ar [1,4,5,6,8,9,15,16] ?_
  obtain ⟨K6,hK6,h⟩:=AH h
  refine AW.mr (σ:=Arr×Int×(List Int)×(List Itm)) (fun p=>K6 p.1 p.2.1 p.2.2.1 p.2.2.2=some r) (fun p=>[(4,.nb [.sl (Is p.1.shape),.sl (Its p.1.items)]),(5,.d (.i .i64 p.2.1)),(8,.bp 0 0)]) (fun p=>[HO.box [.d (.sl (Is p.2.2.1)),.own 51 (Its p.2.2.2)]]) ?_ ?_
  ·skip
   refine .block ?_;refine .gh (Gh.frz (p:=.t 9) rfl (by (intro _ _ h;cases h<;>decide))) ?_
   refine .loop (.gk [1,4,5,6,8,9,15,16] ?_)
   refine AL.ind (σ:=Nat×Arr×Int×Int×Int×(List Int)×(List Itm)) (m:=fun p=>p.1) (e:=fun p=>[(1,.d (.sl (Its a1))),(4,.nb [.sl (Is p.2.1.shape),.sl (Its p.2.1.items)]),(5,.d (.i .i64 p.2.2.1)),(6,.d (.i .i64 x1.1)),(8,.bp 0 0),(9,.d (.sl (Is z8))),(15,.d (.i .i64 p.2.2.2.1)),(16,.d (.i .i64 p.2.2.2.2.1))]) (h:=fun p=>[HO.box [.d (.sl (Is p.2.2.2.2.2.1)),.own 51 (Its p.2.2.2.2.2.2)]]) (I:=fun p=>Cq a1 x1 z8 K6 p.1 p.2.1 p.2.2.1 p.2.2.2.1 p.2.2.2.2.1 p.2.2.2.2.2.1 p.2.2.2.2.2.2=some r) ?_ (As,(Arr.mk [] []),0,0,0,x4,z5) h
   rintro ⟨k,s23,s24,s25,s26,s27,s28⟩ h ih
   dsimp only at h ih ⊢
   rcases k with _|k
   ·rw [Cq] at h;cases h
   rw [Cq] at h
   refine .seq ?_;refine .sr ?_;refine va ?_;refine va ?_;refine vb ?_;refine rk [1,4,5,6,8,9,15,16,72] ?_
   rcases brc h with ⟨hc,h⟩|⟨hc,h⟩
   ·refine cnt (dT hc) ?_
    refine .sk ?_;refine .seq ?_;refine .block ?_;refine .seq ?_;refine .sr ?_;refine va ?_;refine va ?_;refine va ?_;refine va ?_;refine vk (A5 (Au _) (BS _) BO) ?_
    obtain ⟨x29,g29,h⟩:=bnd h
    refine vk (PH (Ik g29)) ?_
    obtain ⟨x30,g30,h⟩:=bnd h
    obtain ⟨n30,p030,q30⟩:=Ah g30
    refine vk (vix n30 p030 (BJ q30) rfl Bt) ?_;refine vk (Ao AJ) ?_;refine vb ?_;refine ar [1,4,5,6,8,9,15,16] ?_;refine .sr ?_;refine va ?_;refine vb ?_;refine rk [1,4,5,6,8,9,15,16,85] ?_
    rcases brc h with ⟨hc,h⟩|⟨hc,h⟩
    ·refine cnt (dT hc) ?_
     refine .sr ?_;refine vk (vbd CJ AK AP) ?_
     refine stn ?_ Ab (by decide)
     refine ar [1,4,5,6,8,9,15,16] ?_;refine .ret ?_
     cases h
     exact ⟨_,_,⟨.inr rfl,Ag,Ab,p2⟩,rfl,rfl⟩
    refine cnf (dF hc) ?_;refine .sk ?_;refine .drawn 11 A6 (by kernel_rfl) ?_;refine dv (HN AU) ?_;refine dv (Tg (cs:=[.d (.sl (Is s27)),.own 51 (Its s28)]) rfl rfl BX) ?_;refine dv Ae ?_;refine dv Ae ?_;refine dv Ae ?_;refine dv (A5 (Au _) (BS _) BO) ?_
    obtain ⟨x31,g31,h⟩:=bnd h
    refine dv (PH (Ik g31)) ?_
    obtain ⟨x32,g32,h⟩:=bnd h
    obtain ⟨n32,p032,q32⟩:=Ah g32
    refine dv (vix n32 p032 (CD q32) rfl CF) ?_;refine dv (Ar AT Az) ?_
    obtain ⟨x33,g33,h⟩:=bnd h
    refine dv (Al (HY g33) Tryz.call63) ?_;refine dv ((FF (G4 x33) (FK [x33]) E9).deep) ?_;refine dz ?_
    obtain ⟨x34,g34,h⟩:=bnd h
    refine XW KE g34 rfl rfl Nl ?_ Jz Au E9
    refine RL.gk [1,4,5,6,8,9,15,16,85,87,89,90,91,92,93,94,95,96,97,98] ?_;refine vk (HN AU) ?_
    refine RG (cs:=[.d (.sl (Is s27)),.un]) (c:=.un) rfl rfl ?_ Lr
    refine .nil ?_;refine aw ?_;refine .gk [1,4,5,6,8,9,15,16] ?_;refine .region ?_;refine va ?_;refine vb ?_;refine asd ?_;refine .nil ?_;refine AL.gk [1,4,5,6,8,9,15,16] ?_
    exact ih (k,s23,s24,(w64 (s25+1)),(w64 (s26+x30)),s27,x34) h (Nat.lt_succ_self _)
   refine cnf (dF hc) ?_;refine .gk [4,5,8] ?_;refine .exit ?_
   exact jr (s23,s24,s27,s28) h
  rintro ⟨z19,z20,z21,z22⟩ h
  try dsimp only at h ⊢
  subst hK6
  refine aw ?_;refine .seq ?_;refine .sr ?_;refine fz (p:=.c 0 1) ?_;refine vk (Ks (cs:=[.d (.sl (Is z21)),.d (.sl (Its z22))]) (ds:=[.sl (Is z21),.sl (Its z22)]) rfl Ag Ab) ?_
  obtain ⟨x35,g35,h⟩:=bnd h
  refine vk (Al (CW g35) Tryz.call54) ?_;refine vk vnt ?_;refine rk [4,5,8,102] ?_
  rcases brc h with ⟨hc,h⟩|⟨hc,h⟩
  ·refine cnf (ntf hc) ?_
   refine .sk ?_;refine .sr ?_;refine vk (Ks (cs:=[.d (.sl (Is z21)),.d (.sl (Its z22))]) (ds:=[.sl (Is z21),.sl (Its z22)]) rfl Ag Ab) ?_
   refine stn ?_ Ab (by decide)
   refine ar [4,5] ?_;refine .ret ?_
   cases h
   exact ⟨_,_,⟨.inr rfl,Ag,Ab,p2⟩,rfl,rfl⟩
  refine cnt (ntt (bf hc)) ?_;refine .sr ?_;refine vk (vbd CJ AK AP) ?_
  refine stn ?_ Ab (by decide)
  refine ar [4,5,8] ?_;refine .ret ?_
  cases h
  exact ⟨_,_,⟨.inr rfl,Ag,Ab,p2⟩,rfl,rfl⟩
 refine cnt (ntt (dF hc)) ?_;refine .sr ?_;refine vk (vbd CJ AK AP) ?_;refine va ?_
 refine stn ?_ Ab (by decide)
 refine ar [0,1,4,5,6] ?_;refine .ret ?_
 cases h
 exact ⟨_,_,⟨.inr rfl,Ag,Ab,p2⟩,rfl,rfl⟩
def B9 (a0:Arr) : Option ((List Itm)):=((CB a0.shape).bind fun x1=>(Option.bind ((if x1.1=0 then (some true) else ((Bs a0).bind fun x3=>(some (!x3)))) : Option (Bool)) fun (z2:Bool)=>(if z2=true then (some ([])) else ((CI a0 (⟨.fn 63 [] [],fun x=>Hc x⟩ : Cu)).bind fun x4=>(some (x4.items))))))
theorem GO {a0:Arr} {r:(List Itm)} (h:B9 a0=some r) :
  Fn Tryz.prog 46 [.ag [.sl (Is a0.shape),.sl (Its a0.items)]] (.d (.sl (Its r))):=by
 unfold B9 at h
 refine Fn.o1 2 21 Tryz.func46 ?_;refine .sr ?_;refine vk vbx ?_;refine asn ?_;refine rk [1,2] ?_;refine .seq ?_;refine .sr ?_;refine vk (vfa A7) ?_;refine vk (Ao CG) ?_
 obtain ⟨x1,g1,h⟩:=bnd h
 refine vk (VOK.tupd (vs:=[.i .i64 x1.1,.i .i64 x1.2]) (Al (DS g1) Tryz.call56)) ?_;refine va ?_;refine vk vex ?_;refine vk vex ?_;refine asd ?_;refine ar [1,2,3] ?_;refine .seq ?_
 obtain ⟨z2,hz,h⟩:=bnd h
 refine AW.mr (σ:=Unit) (fun _=>True) (fun _=>[(1,.d (.ptr [.sl (Is a0.shape),.sl (Its a0.items)])),(2,.nl),(17,.d (.b z2))]) (fun _=>[]) ?_ ?_
 ·skip
  refine .region ?_;refine va ?_;refine vb ?_
  rcases brc hz with ⟨hc,hz⟩|⟨hc,hz⟩
  ·have hb0:(decide (x1.1=0))=true:=(dT hc)
   refine vL hb0 ?_;refine gf3 ?_;refine vk Ap ?_;refine RL.gk [1,2,17] ?_;refine .nil ?_
   cases hz
   exact jr () trivial
  have hb0:(decide (x1.1=0))=false:=(dF hc)
  refine vL hb0 ?_;refine vk (Ar Ag Ab) ?_
  obtain ⟨x3,g3,hz⟩:=bnd hz
  refine vk (Al (CW g3) Tryz.call54) ?_;refine vk vnt ?_;refine vk Ap ?_;refine RL.gk [1,2,17] ?_;refine .nil ?_
  cases hz
  exact jr () trivial
 rintro _ _
 rcases brc h with ⟨hc,h⟩|⟨hc,h⟩
 ·refine cnt hc ?_
  refine .sr ?_;refine asn ?_;refine rk [1,2] ?_;refine .gh (Gh.nlD (t:=2) rfl) ?_;refine .ret ?_
  cases h
  exact ⟨rfl,rfl⟩
 refine cnf (bf hc) ?_;refine .sk ?_;refine .sr ?_;refine vk (Ar Ag Ab) ?_
 obtain ⟨x4,g4,h⟩:=bnd h
 refine vk (Al (Ey (J4 Tryz.call63 (fun _ _ h=>HY h)) g4) Tryz.call80) ?_;refine vk (Yf AU NE) ?_;refine ar [2] ?_;refine .ret ?_
 cases h
 exact ⟨rfl,rfl⟩
def DC (a0:Itm) : Option (Arr):=((EU a0).bind fun x1=>(if x1=true then (if a0.kind=3 then ((rd? a0.box 0).bind fun x2=>((CI x2 (⟨.fn 63 [] [],fun x=>Hc x⟩ : Cu)).bind fun x3=>(some (x3)))) else ((Hc a0).bind fun x4=>((Gd x4).bind fun x5=>(some (x5))))) else (some ((Arr.mk [] [])))))
theorem JZ {a0:Itm} {r:Arr} (h:DC a0=some r) :
  Fn Tryz.prog 26 [.ag [.i .u8 a0.kind,.b a0.num.1,.sl (L a0.num.2.1),.sl (L a0.num.2.2),.i .i32 a0.char,.sl (Ars a0.box)]] (.d (.ag [.sl (Is r.shape),.sl (Its r.items)])):=by
 unfold DC at h
 refine Fn.ofC (rs:=[.cell 2 27]) (nt:=20) Tryz.func26 rfl rfl rfl (by simp) rfl ?_;refine .sr ?_;refine vk vbx ?_;refine vk (van (Ak AK) AP) ?_;refine rk [1,2] ?_;refine .seq ?_;refine .block ?_;refine .sr ?_;refine vk (Ar AT Az) ?_
 obtain ⟨x1,g1,h⟩:=bnd h
 refine vk (Al (IP g1) Tryz.call59) ?_;refine vk vnt ?_;refine ar [1,2,3] ?_
 rcases brc h with ⟨hc,h⟩|⟨hc,h⟩
 ·refine cnf (ntf hc) ?_
  refine .sr ?_;refine vk (vfa Cs) ?_;refine vk (Ao Bg) ?_;refine vb ?_;refine ar [1,2,8] ?_
  rcases brc h with ⟨hc,h⟩|⟨hc,h⟩
  ·refine cnt (dT hc) ?_
   refine .sr ?_;refine vk (vfa BM) ?_;refine vk (Ao C4) ?_
   obtain ⟨x2,g2,h⟩:=bnd h
   obtain ⟨n2,p02,q2⟩:=Ah g2
   refine vk (vix n2 p02 (Eb q2) rfl Ea) ?_;refine vk (Ar Ag Ab) ?_
   obtain ⟨x3,g3,h⟩:=bnd h
   refine vk (Al (Ey (J4 Tryz.call63 (fun _ _ h=>HY h)) g3) Tryz.call80) ?_
   refine stn ?_ Ab (by decide)
   refine rk [1,2] ?_;refine .ret ?_
   cases h
   exact ⟨_,⟨.inr rfl,Ag,Ab,p2⟩,rfl⟩
  refine cnf (dF hc) ?_;refine .sk ?_;refine .sr ?_;refine vk (Ar AT Az) ?_
  obtain ⟨x4,g4,h⟩:=bnd h
  refine vk (Al (HY g4) Tryz.call63) ?_
  obtain ⟨x5,g5,h⟩:=bnd h
  refine vk (Al (Iz g5) Tryz.call35) ?_
  refine stn ?_ Ab (by decide)
  refine rk [2] ?_;refine .ret ?_
  cases h
  exact ⟨_,⟨.inr rfl,Ag,Ab,p2⟩,rfl⟩
 refine cnt (ntt (bf hc)) ?_;refine .sr ?_;refine vk (vbd CJ AK AP) ?_
 refine stn ?_ Ab (by decide)
 refine rk [1,2] ?_;refine .ret ?_
 cases h
 exact ⟨_,⟨.inr rfl,Ag,Ab,p2⟩,rfl⟩
def chB (c:Int) : Bool:=decide (0≤c)&&(decide (c≤1114111)&&(decide (c<55296)||decide (57343<c)))
theorem T5 (c:Int) : Gn c=some (chB c):=rfl
def Bf (a:Arr) : Bool:=a.shape.isEmpty&&match a.items with
 | [x]=>decide (x.kind≠3)
 | _=>false
theorem L7 (a:Arr) : Dx a=some (Bf a):=by
 unfold Dx Bf
 cases hs:a.shape with
 | nil =>
  rw [if_pos (by simp)]
  match hi:a.items with
  | []=>rw [if_neg (by simp)];rfl
  | [x]=>rw [if_pos (by simp),MV];simp
  | x::y::r=>rw [if_neg (by simp;omega)];rfl
 | cons z zs=>rw [if_neg (by simp;omega)];rfl
mutual
def rI : Itm→Bool
 | .mk k n c b=>if k=1 then (Bz n&&(decide (c=0)&&decide (b.length=0))) else if k=2 then (chB c&&(EZ (.mk k n c b)&&decide (b.length=0))) else if k=3 then (decide (b.length=1)&&(EZ (.mk k n c b)&&(decide (c=0)&&rBs b))) else false
def rA : Arr→Bool
 | .mk s i=>decide ((szP s).2=0)&&(decide ((i.length:Int)=if (szP s).1<1 then 1 else (szP s).1)&&rIs i)
def rIs : List Itm→Bool
 | []=>true
 | x::xs=>rI x&&rIs xs
def rBs : List Arr→Bool
 | []=>true
 | a::r=>(!Bf a&&rA a)&&rBs r
end
mutual
def cI : Itm→Nat
 | .mk _ _ _ b=>cBs b
def cA : Arr→Nat
 | .mk _ i=>i.length+cIs i
def cIs : List Itm→Nat
 | []=>0
 | x::xs=>cI x+cIs xs
def cBs : List Arr→Nat
 | []=>0
 | a::r=>cA a+cBs r
end
mutual
def dI : Itm→Nat
 | .mk _ _ _ b=>dBs b
def dA : Arr→Nat
 | .mk s i=>if Bf (.mk s i) then 0 else 1+dIs i
def dIs : List Itm→Nat
 | []=>0
 | x::xs=>max (dI x) (dIs xs)
def dBs : List Arr→Nat
 | []=>0
 | a::r=>max (dA a) (dBs r)
end
theorem VG (x:Itm) : rI x=if x.kind=1 then (Bz x.num&&(decide (x.char=0)&&decide (x.box.length=0))) else if x.kind=2 then (chB x.char&&(EZ x&&decide (x.box.length=0))) else if x.kind=3 then (decide (x.box.length=1)&&(EZ x&&(decide (x.char=0)&&rBs x.box))) else false:=by
 cases x;simp only [rI];rfl
theorem JN (a:Arr) : rA a=(decide ((szP a.shape).2=0)&&(decide ((a.items.length:Int)=if (szP a.shape).1<1 then 1 else (szP a.shape).1)&&rIs a.items)):=by cases a;simp only [rA];rfl
theorem Jm (a:Arr) : cA a=a.items.length+cIs a.items:=by cases a;simp only [cA];rfl
theorem QT (x:Itm) : cI x=cBs x.box:=by cases x;simp only [cI];rfl
theorem IM (a:Arr) : dA a=if Bf a then 0 else 1+dIs a.items:=by cases a;simp only [dA];rfl
theorem Tn (x:Itm) : dI x=dBs x.box:=by cases x;simp only [dI];rfl
def up (d deep n:Nat) : Nat:=if n=0 then d else max d (deep+n)
theorem ZR (d deep n m:Nat) : up (up d deep n) deep m=up d deep (max n m):=by unfold up;split<;>split<;>split<;>omega
theorem ZK {d deep n:Nat} (h:d≤16) (h2:deep+n≤16) : up d deep n≤16:=by unfold up;split<;>omega
def PW (f:Int→Int→Int→Option M3) (r:Bool) (n dp:Nat) : Prop:=∀ deep c d : Nat,deep≤16→c≤16384→d≤16 →
 (r=true→deep+dp≤16→c+n≤16384→f deep c d=some (true,((c+n:Nat):Int),((up d deep dp:Nat):Int))) ∧
 (¬(r=true∧deep+dp≤16∧c+n≤16384)→∃ z,f deep c d=some (false,z))
theorem M9 (x:Itm) : EZ x=true↔x.num=(false,[],[]):=by
 unfold EZ
 simp only [Bool.and_eq_true,Bool.not_eq_true',decide_eq_true_eq]
 constructor
 ·rintro ⟨h1,h2,h3⟩
  exact Prod.ext h1 (Prod.ext (List.length_eq_zero_iff.1 (by omega)) (List.length_eq_zero_iff.1 (by omega)))
 ·intro h;rw [h];simp
theorem OO {rc:Arr→Int→Int→Int→Option M3} {x:Itm} (hx:okI x) (hrc:∀ a∈x.box,PW (rc a) (rA a) (cA a) (dA a)) : PW (Oe rc x) (rI x) (cI x) (dI x):=by
 have ox:=(E5 x).1 hx
 intro deep c d h1 h2 h3
 unfold Oe
 rw [VG,QT,Tn]
 have e0:(((x.box.length:Nat):Int)=0)↔x.box.length=0:=by omega
 have e1:(((x.box.length:Nat):Int)=1)↔x.box.length=1:=by omega
 by_cases k1:x.kind=1
 ·rw [if_pos k1,if_pos k1,Jc ox.2.1,oB]
  simp only [e0]
  by_cases hb:x.box.length=0
  ·have:x.box=[]:=List.length_eq_zero_iff.1 hb
   rw [this]
   simp only [cBs,dBs,List.length_nil,decide_true,Bool.and_true,Nat.add_zero]
   refine ⟨fun hr _ _=>by rw [hr];rfl,fun hn=>?_⟩
   have:(Bz x.num&&decide (x.char=0))=false:=by
    cases hq:(Bz x.num&&decide (x.char=0)) with
    | false=>rfl
    | true=>exact absurd ⟨hq,h1,h2⟩ hn
   rw [this];exact ⟨_,rfl⟩
  ·simp only [hb,decide_false,Bool.and_false]
   exact ⟨fun h=>by simp at h,fun _=>⟨_,rfl⟩⟩
 rw [if_neg k1,if_neg k1]
 by_cases k2:x.kind=2
 ·rw [if_pos k2,if_pos k2,T5,oB]
  simp only [e0]
  by_cases hb:x.box.length=0
  ·have:x.box=[]:=List.length_eq_zero_iff.1 hb
   rw [this]
   simp only [cBs,dBs,List.length_nil,decide_true,Bool.and_true,Nat.add_zero]
   refine ⟨fun hr _ _=>by rw [hr];rfl,fun hn=>?_⟩
   have:(chB x.char&&EZ x)=false:=by
    cases hq:(chB x.char&&EZ x) with
    | false=>rfl
    | true=>exact absurd ⟨hq,h1,h2⟩ hn
   rw [this];exact ⟨_,rfl⟩
  ·simp only [hb,decide_false,Bool.and_false]
   exact ⟨fun h=>by simp at h,fun _=>⟨_,rfl⟩⟩
 rw [if_neg k2,if_neg k2]
 by_cases k3:x.kind=3
 ·rw [if_pos k3,if_pos k3]
  simp only [e1]
  by_cases hb:x.box.length=1
  rotate_left
  ·rw [if_neg hb];simp only [hb,decide_false,Bool.false_and]
   exact ⟨fun h=>by simp at h,fun _=>⟨_,rfl⟩⟩
  rw [if_pos hb]
  by_cases hn:EZ x=true
  rotate_left
  ·rw [if_neg hn];simp only [hn,hb,decide_true,Bool.true_and,Bool.false_and]
   exact ⟨fun h=>by simp at h,fun _=>⟨_,rfl⟩⟩
  rw [if_pos hn]
  by_cases hc:x.char=0
  rotate_left
  ·rw [if_neg hc];simp only [hn,hb,hc,decide_true,decide_false,Bool.true_and,Bool.false_and]
   exact ⟨fun h=>by simp at h,fun _=>⟨_,rfl⟩⟩
  rw [if_pos hc]
  obtain ⟨a,ha⟩:∃ a,x.box=[a]:=List.length_eq_one_iff.1 hb
  have hm:=hrc a (by rw [ha];simp)
  rw [ha,MV,oB,L7,oB]
  simp only [hn,hc,decide_true,Bool.true_and,rBs,cBs,dBs,Bool.and_true,Nat.add_zero,Nat.max_zero,List.length_cons,List.length_nil]
  by_cases hs:Bf a=true
  ·rw [if_pos hs];simp only [hs]
   exact ⟨fun h=>by simp at h,fun _=>⟨_,rfl⟩⟩
  rw [if_neg hs,oB]
  have hs':Bf a=false:=by simpa using hs
  simp only [hs',Bool.not_false,Bool.true_and]
  obtain ⟨m1,m2⟩:=hm deep c d h1 h2 h3
  refine ⟨fun hr g1 g2=>by rw [m1 hr g1 g2];rfl,fun hn=>?_⟩
  obtain ⟨z,hz⟩:=m2 hn
  exact ⟨z,by rw [hz];rfl⟩
 ·rw [if_neg k3,if_neg k3]
  exact ⟨fun h=>by simp at h,fun _=>⟨_,rfl⟩⟩
theorem NP {rc:Arr→Int→Int→Int→Option M3} : ∀ {xs:List Itm},(∀ x∈xs,PW (Oe rc x) (rI x) (cI x) (dI x))→PW (fun deep c d=>KR rc deep xs c d) (rIs xs) (cIs xs) (dIs xs)
 | [],_=>fun deep c d h1 h2 h3=>by
  simp only [KR,rIs,cIs,dIs]
  exact ⟨fun _ _ _=>rfl,fun h=>absurd ⟨trivial,h1,h2⟩ h⟩
 | x::xs,hx=>fun deep c d h1 h2 h3=>by
  obtain ⟨m1,m2⟩:=hx x (by simp) deep c d h1 h2 h3
  have ih:=NP (xs:=xs) fun y hy=>hx y (by simp [hy])
  simp only [KR,rIs,cIs,dIs]
  by_cases hc:rI x=true∧deep+dI x≤16∧c+cI x≤16384
  ·obtain ⟨p1,p2,p3⟩:=hc
   rw [m1 p1 p2 p3,oB,if_pos rfl,p1,Bool.true_and]
   obtain ⟨n1,n2⟩:=ih deep (c+cI x) (up d deep (dI x)) h1 p3 (ZK h3 p2)
   refine ⟨fun hr g1 g2=>?_,fun hn=>n2 fun ⟨q1,q2,q3⟩=>hn ⟨q1,by omega,by omega⟩⟩
   have:=n1 hr (by omega) (by omega)
   rw [ZR,Nat.add_assoc] at this
   exact this
  ·obtain ⟨z,hz⟩:=m2 hc
   rw [hz,oB,if_neg (by simp)]
   refine ⟨fun hr g1 g2=>absurd ⟨?_,by omega,by omega⟩ hc,fun _=>⟨_,rfl⟩⟩
   simp only [Bool.and_eq_true] at hr;exact hr.1
theorem RQ {a:Arr} (hs:Bf a=true) (hr:rIs a.items=true) : dIs a.items=0∧cIs a.items=0:=by
 unfold Bf at hs
 rw [Bool.and_eq_true] at hs
 match hi:a.items,hs.2 with
 | [x],h2 =>
  rw [hi] at hr
  simp only [rIs,Bool.and_true] at hr
  rw [VG] at hr
  have h3:x.kind≠3:=by simpa using h2
  have hb:x.box=[]:=by
   by_cases k1:x.kind=1
   ·rw [if_pos k1] at hr;simp only [Bool.and_eq_true,decide_eq_true_eq] at hr;exact List.length_eq_zero_iff.1 hr.2.2
   rw [if_neg k1] at hr
   by_cases k2:x.kind=2
   ·rw [if_pos k2] at hr;simp only [Bool.and_eq_true,decide_eq_true_eq] at hr;exact List.length_eq_zero_iff.1 hr.2.2
   rw [if_neg k2,if_neg h3] at hr;cases hr
  simp [dIs,cIs,Tn,QT,hb,dBs,cBs]
theorem Ws {rc:Arr→Int→Int→Int→Option M3} {a:Arr} (ha:okAr a) (hx:∀ x∈a.items,PW (Oe rc x) (rI x) (cI x) (dI x)) : PW (V3 rc a) (rA a) (cA a) (dA a):=by
 have oa:=(BW a).1 ha
 intro deep c d h1 h2 h3
 have hl:=P3 a.shape
 unfold V3
 rw [JE oa.2.1,oB,JN,Jm,IM]
 by_cases e1:(szP a.shape).2=0
 rotate_left
 ·rw [if_neg e1];simp only [e1,decide_false,Bool.false_and]
  exact ⟨fun h=>by simp at h,fun _=>⟨_,rfl⟩⟩
 rw [if_pos e1]
 by_cases e2:(a.items.length:Int)=if (szP a.shape).1<1 then 1 else (szP a.shape).1
 rotate_left
 ·rw [if_neg e2];simp only [e1,e2,decide_true,decide_false,Bool.true_and,Bool.false_and]
  exact ⟨fun h=>by simp at h,fun _=>⟨_,rfl⟩⟩
 rw [if_pos e2]
 have hlen:a.items.length≤4096:=by
  split at e2<;>omega
 simp only [e1,decide_true,Bool.true_and]
 rw [dT e2,Bool.true_and]
 have hw:w64 ((c:Int)+((a.items.length:Nat):Int))=((c+a.items.length:Nat):Int):=by rw [AX (by omega) (by omega)];omega
 rw [hw]
 by_cases e3:(16384:Int)<((c+a.items.length:Nat):Int)
 ·rw [if_pos e3]
  exact ⟨fun _ _ _=>by omega,fun _=>⟨_,rfl⟩⟩
 rw [if_neg e3,L7,oB]
 have hi:=NP hx
 by_cases hs:Bf a=true
 ·simp only [if_pos hs]
  rw [if_pos (show (deep:Int)≤16 by omega)]
  obtain ⟨m1,m2⟩:=hi deep (c+a.items.length) d h1 (by omega) h3
  refine ⟨fun hr g1 g2=>?_,fun hn=>m2 fun ⟨q1,q2,q3⟩=>hn ⟨q1,by omega,by omega⟩⟩
  obtain ⟨s1,s2⟩:=RQ hs hr
  have:=m1 hr (by omega) (by omega)
  rw [s1,Nat.add_assoc] at this
  exact this
 simp only [if_neg hs]
 have hw2:w64 ((deep:Int)+1)=((deep+1:Nat):Int):=by rw [AX (by omega) (by omega)];omega
 rw [hw2]
 have hmx:(if (d:Int)<((deep+1:Nat):Int) then ((deep+1:Nat):Int) else (d:Int))=((max d (deep+1):Nat):Int):=by split<;>omega
 rw [hmx]
 by_cases e4:((deep+1:Nat):Int)≤16
 rotate_left
 ·rw [if_neg e4]
  exact ⟨fun _ _ _=>by omega,fun _=>⟨_,rfl⟩⟩
 rw [if_pos e4]
 obtain ⟨m1,m2⟩:=hi (deep+1) (c+a.items.length) (max d (deep+1)) (by omega) (by omega) (by omega)
 refine ⟨fun hr g1 g2=>?_,fun hn=>m2 fun ⟨q1,q2,q3⟩=>hn ⟨q1,by omega,by omega⟩⟩
 have:=m1 hr (by omega) (by omega)
 have hup:up (max d (deep+1)) (deep+1) (dIs a.items)=up d deep (1+dIs a.items):=by unfold up;split<;>split<;>omega
 rw [hup,Nat.add_assoc] at this
 exact this
theorem Ng : ∀ (k:Nat) {a:Arr},a.size<k→okAr a→PW (Nr k a) (rA a) (cA a) (dA a)
 | 0,a,h,_=>by omega
 | k+1,a,h,ha=>by
  have oa:=(BW a).1 ha
  have:=Ws (rc:=Nr k) ha fun x hx=>OO (oa.2.2.2 x hx) fun b hb=>Ng k (by have:=HT hx;have:=Hy hb;omega) (((E5 x).1 (oa.2.2.2 x hx)).2.2.2.2 b hb)
  intro deep c d h1 h2 h3
  simp only [Nr]
  rw [if_pos (by omega)]
  exact this deep c d h1 h2 h3
theorem Rz {a:Arr} (ha:okAr a) : PW (mAr a) (rA a) (cA a) (dA a):=Ng _ (Nat.lt_succ_self _) ha
theorem V0 {x:Itm} (hx:okI x) : PW (mIt x) (rI x) (cI x) (dI x):=OO hx fun a ha=>Rz (((E5 x).1 hx).2.2.2.2 a ha)
def Bk (a:Arr) : Prop:=rA a=true∧dA a≤16∧cA a≤16384
def Br (x:Itm) : Prop:=rI x=true∧dI x≤16∧cI x≤16384
instance (a:Arr) : Decidable (Bk a):=by unfold Bk;infer_instance
instance (x:Itm) : Decidable (Br x):=by unfold Br;infer_instance
theorem LV {a:Arr} (ha:okAr a) : Fo a=some (if Bk a then (((cA a:Nat) : Int),((dA a:Nat) : Int)) else (0,0),decide (Bk a)):=by
 obtain ⟨m1,m2⟩:=Rz ha 0 0 0 (by omega) (by omega) (by omega)
 unfold Fo
 by_cases h:Bk a
 ·have:=m1 h.1 (by have:=h.2.1;omega) (by have:=h.2.2;omega)
  rw [show ((0:Nat):Int)=0 from rfl] at this
  rw [this,if_pos h,dT h]
  have hu:up 0 0 (dA a)=dA a:=by unfold up;split<;>omega
  simp [hu]
 ·obtain ⟨z,hz⟩:=m2 fun ⟨q1,q2,q3⟩=>h ⟨q1,by omega,by omega⟩
  rw [show ((0:Nat):Int)=0 from rfl] at hz
  rw [hz,if_neg h,dF h];rfl
theorem Hv {a:Arr} (ha:okAr a) : Bs a=some (decide (Bk a)):=by unfold Bs;rw [LV ha,oB]
theorem Wp {a:Arr} (ha:okAr a) : FI a=some (if Bk a then ((cA a:Nat) : Int) else 0):=by
 unfold FI;rw [LV ha,oB];split<;>rfl
theorem HV {x:Itm} (hx:okI x) : EU x=some (decide (Br x)):=by
 obtain ⟨m1,m2⟩:=V0 hx 0 0 0 (by omega) (by omega) (by omega)
 unfold EU
 by_cases h:Br x
 ·have:=m1 h.1 (by have:=h.2.1;omega) (by have:=h.2.2;omega)
  rw [show ((0:Nat):Int)=0 from rfl] at this
  rw [this,dT h];rfl
 ·obtain ⟨z,hz⟩:=m2 fun ⟨q1,q2,q3⟩=>h ⟨q1,by omega,by omega⟩
  rw [show ((0:Nat):Int)=0 from rfl] at hz
  rw [hz,dF h];rfl
theorem SV {p:Rat} : (ofQ p).2.1=[]↔p=0:=by
 rw [← V8,← List.length_eq_zero_iff];omega
def Ei (p q:Rat) : Int:=if p<q then -1 else if p=q then 0 else 1
theorem S1 {p:Rat} : p.num<0↔p<0:=by
 rw [Rat.lt_iff];simp
theorem Sd {p:Rat} (hp:Kt p) : FH (ofQ p)=some (Ei p 0):=by
 unfold FH
 rw [Jc (FU hp),Gu hp,oB]
 unfold Ei
 by_cases h:p=0
 ·subst h
  rw [if_pos (by simp [SV]),if_neg Rat.lt_irrefl,if_pos rfl]
 ·rw [if_neg (by simp [SV,h])]
  show (if decide (p.num<0)=true then some (-1) else some 1)=_
  by_cases h2:p<0
  ·rw [if_pos h2,if_pos (dT (S1.2 h2))]
  ·rw [if_neg h2,if_neg (by simpa using fun h3=>h2 (S1.1 h3)),if_neg h]
theorem Ux {a b:List Nat} (ha:okL 1048576 a=true) (hb:okL 35184372087808 b=true) : JC a b=some (decide (a=b)):=if_pos (by rw [ha,hb];rfl)
theorem PJ {p:Rat} (hp:Kt p) : Fu (ofQ p)=some (decide (p.den=1)):=by
 unfold Fu
 rw [Jc (FU hp),Gu hp,oB,if_pos rfl,Uu,oB]
 rw [show JC (ofQ p).2.2 [1]=some (decide (Ai p.den=[1])) from Ux (Nh hp.2 (by decide)) (by rfl),oB,oB]
 congr 1
 exact decide_eq_decide.2 Kq
theorem Tv {x y:Q3} (hx:sm 4000 x) (hy:sm 4000 y) : IW (qN x).1 (qN y).1=some (Ai (x.2.1 * y.2.2)):=by
 have:IW (qN x).1 (qN y).1=some (Ai (val (Ai x.2.1) * val (Ai y.2.2))):=if_pos (by
  rw [Bool.and_eq_true];exact ⟨HI hx.1,HI hy.2⟩)
 rw [this,AQ,AQ]
theorem Qs {m n:Nat} (hm:(Ai m).length≤1048576) (hn:(Ai n).length≤1048576) : Lb (Ai m) (Ai n)=some (KA m n):=by
 have:Lb (Ai m) (Ai n)=some (KA (val (Ai m)) (val (Ai n))):=if_pos (by
  rw [Bool.and_eq_true];exact ⟨HI (by omega),HI (by omega)⟩)
 rw [this,AQ,AQ]
theorem RE {x y:Q3} {k:Nat} (hx:sm k x) (hy:sm k y) : (Ai (x.2.1 * y.2.2)).length≤2 * k:=by
 have l1:=Pv (BA x.2.1) (BA y.2.2) hx.1 hy.2
 rwa [AQ,AQ] at l1
theorem MZ {p q:Rat} : Ei p q=if p.num * q.den<q.num * p.den then -1 else if p.num * q.den=q.num * p.den then 0 else 1:=by
 unfold Ei
 simp only [Rat.lt_iff,Rat.eq_iff_mul_eq_mul]
theorem GP {p:Rat} : Ei p 0=if p.num<0 then -1 else if p.num=0 then 0 else 1:=by
 rw [MZ];simp
theorem T8 {p q:Rat} (h:Ei p 0=Ei q 0) : Ei p 0 * KA (p.num.natAbs * q.den) (q.num.natAbs * p.den)=Ei p q:=by
 rw [GP,GP] at h
 rw [GP,MZ]
 have hp:(0:Int)<p.den:=by have:=p.den_nz;omega
 have hq:(0:Int)<q.den:=by have:=q.den_nz;omega
 unfold KA
 by_cases h1:p.num<0
 ·rw [if_pos h1] at h ⊢
  have h2:q.num<0:=by
   by_cases h2:q.num<0
   ·exact h2
   ·rw [if_neg h2] at h;split at h<;>cases h
  have e1:((p.num.natAbs * q.den:Nat):Int)=-(p.num * q.den):=by rw [Int.natCast_mul,show ((p.num.natAbs:Nat):Int)=-p.num by omega,Int.neg_mul]
  have e2:((q.num.natAbs * p.den:Nat):Int)=-(q.num * p.den):=by rw [Int.natCast_mul,show ((q.num.natAbs:Nat):Int)=-q.num by omega,Int.neg_mul]
  generalize p.num.natAbs * q.den=a at *
  generalize q.num.natAbs * p.den=b at *
  generalize p.num * q.den=c at *
  generalize q.num * p.den=d at *
  split<;>split<;>(try split)<;>(try split)<;>omega
 ·rw [if_neg h1] at h ⊢
  by_cases h0:p.num=0
  ·rw [if_pos h0] at h ⊢
   have h2:q.num=0:=by
    by_cases h2:q.num<0
    ·rw [if_pos h2] at h;cases h
    ·rw [if_neg h2] at h
     by_cases h3:q.num=0
     ·exact h3
     ·rw [if_neg h3] at h;cases h
   rw [h0,h2];simp
  ·rw [if_neg h0] at h ⊢
   have h2:0<q.num:=by
    by_cases h2:q.num<0
    ·rw [if_pos h2] at h;cases h
    ·rw [if_neg h2] at h
     by_cases h3:q.num=0
     ·rw [if_pos h3] at h;cases h
     ·omega
   have e1:((p.num.natAbs * q.den:Nat):Int)=p.num * q.den:=by rw [Int.natCast_mul,show ((p.num.natAbs:Nat):Int)=p.num by omega]
   have e2:((q.num.natAbs * p.den:Nat):Int)=q.num * p.den:=by rw [Int.natCast_mul,show ((q.num.natAbs:Nat):Int)=q.num by omega]
   generalize p.num.natAbs * q.den=a at *
   generalize q.num.natAbs * p.den=b at *
   generalize p.num * q.den=c at *
   generalize q.num * p.den=d at *
   split<;>split<;>(try split)<;>(try split)<;>omega
theorem OR (p q:Rat) : Ei p q=-1∨Ei p q=0∨Ei p q=1:=by
 unfold Ei;split
 ·exact .inl rfl
 ·split
  ·exact .inr (.inl rfl)
  ·exact .inr (.inr rfl)
theorem TS {p q:Rat} (h:¬Ei p 0=Ei q 0) : Ei p q=if Ei p 0<Ei q 0 then -1 else 1:=by
 rw [GP,GP] at h
 rw [GP,GP,MZ]
 have hp0:(0:Int)<p.den:=by have:=p.den_nz;omega
 have hq0:(0:Int)<q.den:=by have:=q.den_nz;omega
 have m1:p.num<0→p.num * q.den<0:=fun h=>Int.mul_neg_of_neg_of_pos h hq0
 have m2:0<p.num→0<p.num * q.den:=fun h=>Int.mul_pos h hq0
 have m3:p.num=0→p.num * q.den=0:=fun h=>by rw [h,Int.zero_mul]
 have k1:q.num<0→q.num * p.den<0:=fun h=>Int.mul_neg_of_neg_of_pos h hp0
 have k2:0<q.num→0<q.num * p.den:=fun h=>Int.mul_pos h hp0
 have k3:q.num=0→q.num * p.den=0:=fun h=>by rw [h,Int.zero_mul]
 generalize p.num * q.den=c at *
 generalize q.num * p.den=d at *
 by_cases a1:p.num<0
 ·rw [if_pos a1] at h ⊢
  by_cases a3:q.num<0
  ·rw [if_pos a3] at h;exact absurd rfl h
  ·rw [if_neg a3] at h ⊢
   have:(if q.num=0 then (0:Int) else 1) > -1:=by split<;>decide
   rw [if_pos this,if_pos]
   omega
 ·rw [if_neg a1] at h ⊢
  by_cases a2:p.num=0
  ·rw [if_pos a2] at h ⊢
   by_cases a3:q.num<0
   ·rw [if_pos a3,if_neg (show ¬c<d by omega),if_neg (show ¬c=d by omega),if_neg (by decide)]
   ·rw [if_neg a3] at h ⊢
    by_cases a4:q.num=0
    ·rw [if_pos a4] at h;exact absurd rfl h
    ·rw [if_neg a4,if_pos (show c<d by omega),if_pos (by decide)]
  ·rw [if_neg a2] at h ⊢
   by_cases a3:q.num<0
   ·rw [if_pos a3,if_neg (show ¬c<d by omega),if_neg (show ¬c=d by omega),if_neg (by decide)]
   ·rw [if_neg a3] at h ⊢
    by_cases a4:q.num=0
    ·rw [if_pos a4,if_neg (show ¬c<d by omega),if_neg (show ¬c=d by omega),if_neg (by decide)]
    ·rw [if_neg a4] at h;exact absurd rfl h
theorem TU {p q:Rat} (hp:Kt p) (hq:Kt q) : FN (ofQ p) (ofQ q)=some (Ei p q):=by
 unfold FN
 refine Fy (WT (FU hp) (FU hq)) ?_
 rw [Uh hp hq,if_pos rfl]
 refine Fy (Sd hp) (Fy (Sd hq) ?_)
 have s1:=TI (T9 hp) (show 32≤4000 by decide)
 have s2:=TI (T9 hq) (show 32≤4000 by decide)
 by_cases h:Ei p 0=Ei q 0
 ·rw [if_neg (by simp [h]),if_pos h]
  refine Fy (Mz p) (Fy (Mz q) (Fy (Tv s1 s2) (Fy (Mz q) (Fy (Mz p) (Fy (Tv s2 s1) (Fy (Qs ?_ ?_) ?_))))))
  ·exact nT (RE (T9 hp) (T9 hq)) (by decide)
  ·exact nT (RE (T9 hq) (T9 hp)) (by decide)
  ·rw [T8 h,AX]<;>rcases OR p q with h|h|h<;>rw [h]<;>decide
 ·rw [if_neg h,TS h]
  by_cases h2:Ei p 0<Ei q 0
  ·rw [if_pos (by simp [h,h2]),if_pos h2]
  ·rw [if_neg (by simp [h2]),if_neg h2]
end Go.FL
namespace Go.FL
open Go Go.RowKit
section
variable {P:Program} {C:Cx} {X:Snap} {o:Oper} {ops:Array Oper} {Q:Exit→Env→Ac→Prop} {env env':Env} {H H':Ac} {a:Act} {w w':World} {I I':Nat→Prop} {μ μ':List Nat} {O O':Nat→Option Loc}
 {K:Env→Ac→Prop} {k:Nat} {l:List Oper}
theorem Xt {blk:Nat} {u0 u1 v0 v1:Value} {e:TypeId} (h:w.heap[blk]?=some (.cells #[u0,u1] e (0,0))) : w.setRow blk #[v0,v1]=(w.setCell ⟨blk,0,none⟩ v0).setCell ⟨blk,1,none⟩ v1:=by
 obtain ⟨hlt,hv⟩:=Array.getElem?_eq_some_iff.1 h
 have e1:w.heap.modify blk (fun|.cells _ elem frozen=>.cells #[v0,v1] elem frozen|o=>o)=(w.heap.modify blk (fun|.cells c elem frozen=>.cells (c.setIfInBounds 0 v0) elem frozen|o=>o)).modify blk (fun|.cells c elem frozen=>.cells (c.setIfInBounds 1 v1) elem frozen|o=>o):=by
  apply Array.ext
  ·simp
  ·intro i h1 h2
   simp only [Array.getElem_modify]
   by_cases hi:blk=i
   ·subst hi;simp only [if_true,hv];simp
   ·simp only [if_neg hi]
 unfold World.setRow World.setCell
 simp only [Option.isSome_none,Bool.false_eq_true,if_false]
 exact congrArg (fun x=>({w with heap:=x}:World)) e1
theorem bdo {ty s t e:Nat} {parts:Array (Nat×Operand)} {places:List (Nat×Nat)} {z:Value} {xs:List DV} (hp:Dm P ty=some places) (hz:(P.info? ty).bind (·.zero)=some z) (hzr:z=.agg #[.slice none 0 0,.slice none 0 0]) (h:RL P C ops Q (k+1) l ((t,.ag [.own e xs,.nl])::(s,.un)::env) H)
  (hpl:places=[(0,1),(1,1)]:=by rfl) (hg:grd ops env o true=true:=by rfl) (ho:o.op=.build ty parts:=by rfl) (hpa:parts=#[(0,.tmp s)]:=by rfl) (hv:get env s=.own e xs:=by rfl) (hd:o.dst=some t:=by rfl)
  (hf:An (get env t)=false:=by rfl) (hr:DH s env=false:=by rfl) (ht:okT C.nt t:=by rfl):RL P C ops Q k (o::l) env H:=by
 have hst:=Gp hv hf
 subst hpl hzr
 refine .go hg (.val (t:=t) (av:=.ag [.own e xs,.nl]) (env':=put env s .un) (H':=H) (by simp [ho]) hd ht (fun X a w I μ O _ _ _ hs=>?_) ?_)
 ·obtain ⟨k1,bs,k2,k3,k4⟩:=hs.take s (by rw [hv];rfl)
  rw [hv] at k2
  have hb:P.built ty [(0,a.tmps.getD s undef)]=some #[a.tmps.getD s undef,.slice none 0 0]:=by
   unfold Dm at hp
   unfold Program.built
   cases hi:P.info? ty with
   | none=>rw [hi] at hz;cases hz
   | some it =>
    rw [hi] at hz
    simp only [oB] at hz
    split at hp
    ·rename_i fields hu
     simp only [hu,hz,hp]
     have hone:∃ A n c,a.tmps.getD s undef=.slice A n c:=by
      generalize a.tmps.getD s undef=u at k2
      cases k2 with
      | own _ _ _ vs hsz ho' hr' =>
       rcases ho' with ⟨A,h1,_⟩|⟨_,g,cap,h1,_⟩<;>exact ⟨_,_,_,h1⟩
     obtain ⟨A,n,c,hu3⟩:=hone
     rw [hu3]
     simp [Instr.fill,Value.cells]
    ·cases hp
  refine ⟨.agg #[a.tmps.getD s undef,.slice none 0 0],w,I,μ,_,?_,k1,bs,?_,k3,k4⟩
  ·simp only [execOp,ho,hpa,Sem.run_bind]
   have:=run_build (P:=P) w ty #[(0,a.tmps.getD s undef)] #[a.tmps.getD s undef,.slice none 0 0] (by simpa using hb)
   simp only [List.map_toArray,List.map_cons,List.map_nil,Act.eval]
   rw [this]
   simp only [Result.andThen_ok,Sem.run_pure]
  ·have:=ARep.ag (ARepAll.cons k2 (ARepAll.cons (.nl (P:=P) (w:=w) (I:=I) (μ:=μ)) .nil))
   simpa using this
 ·refine RL.gh (Gh.same fun q=>?_) h
  have h1:An (get (put env s .un) t)=false:=by rw [DF hr];simp [get,hst,hf]
  rw [Am h1]
  simp only [get]
  split
  ·rfl
  ·rw [DF hr];rfl
theorem st2 {x:Operand} {r ty id:Nat} {c0 c1 a0 a1:AV} (hH:H[id]?=some (.box [c0,c1])) (h:RL P C ops Q (k+1) l ((r,.un)::env) (H.set id (.box [a0,a1]))) (hsz:AB P ty=2) (hg:grd ops env o true=true:=by rfl)
  (ho:o.op=.store ty x (.tmp r):=by rfl) (hv:lk env x=.bp id 0:=by rfl) (hy:get env r=.ag [a0,a1]:=by rfl) (n0:An c0=false:=by rfl) (n1:An c1=false:=by rfl) (m0:one a0=true:=by rfl) (m1:one a1=true:=by rfl) (hd:o.dst=none:=by rfl) (h0:C.n0=0:=by rfl):RL P C ops Q k (o::l) env H:=by
 obtain ⟨h1,h2⟩:=Aw hv (by simp)
 have hlt:id<H.length:=(lS.1 hH).1
 refine .go hg (.done (env':=put env r .un) (H':=H.set id (.box [a0,a1])) (by simp [ho]) hd (fun X a w I μ O _ g2 _ hs=>?_) ?_)
 ·obtain ⟨blk,hm,he⟩:=hs.bp h1 h2
  obtain ⟨k1,bs,k2,k3,k4⟩:=hs.take r (by rw [hy];rfl)
  rw [hy] at k2
  generalize hev:a.tmps.getD r undef=u at k2
  cases k2 with
  | @ag _ vs _ k2 =>
   cases k2 with
   | @cons _ v0 _ _ b0 b1' q0 k2 =>
    cases k2 with
    | @cons _ v1 _ _ b1 b2 q1 k2 =>
     cases k2
     rw [List.append_nil] at k3 k4
     obtain ⟨d0,d1,d2⟩:=List.nodup_append.1 k3
     obtain ⟨s1,⟨y1,w1⟩,f1⟩:=k1.storeC (off:=0) hH rfl hm (by omega) q0 d0 fun b hb=>k4 b (by simp [hb])
     rw [n0] at s1
     have e1:Eo H id 0 a0=H.set id (.box [a0,c1]):=by simp [Eo,hH]
     rw [e1] at s1
     have hH1:(H.set id (.box [a0,c1]))[id]?=some (.box [a0,c1]):=List.getElem?_set_self hlt
     have q1':ARep P (w.setCell ⟨blk,0,none⟩ v0) I μ a1 v1 b1:=by
      obtain ⟨blk',bs',g1,⟨cells,et,g3,g4⟩,g5,_⟩:=k1.heap id _ hH
      rw [hm] at g1;cases g1
      have hOb:=(g5 (by omega)).2 blk (by simp)
      refine q1.keep (fun _ h=>h) (fun b hi=>heap_setCell_other w _ b v0 fun e=>?_) (fun _ _ h=>h) fun b hb=>heap_setCell_other w _ b v0 fun e=>?_
      ·have e':b=blk:=e
       subst e';exact (k1.own _ _ hOb).2 hi
      ·have e':b=blk:=e
       subst e'
       have h7:(O b).map (toR r)=some .r:=k4 b (by simp [hb])
       have h8:(O b).map (toR r)=some (.o id):=hOb
       rw [h7] at h8;cases h8
     obtain ⟨s2,⟨y2,w2⟩,f2⟩:=s1.storeC (off:=1) hH1 rfl hm (by omega) q1' d1 fun b hb=>by
      show (if b∈b0 then _ else _)=_
      rw [if_neg fun hm=>d2 b hm b hb rfl];exact k4 b (by simp [hb])
     rw [n1] at s2
     have e2:Eo (H.set id (.box [a0,c1])) id 1 a1=H.set id (.box [a0,a1]):=by simp [Eo,hH1]
     rw [e2] at s2
     refine ⟨_,I,μ,_,?_,s2⟩
     obtain ⟨blk',bs',g1,⟨cells,et,g3,g4⟩,g5,_⟩:=k1.heap id _ hH
     rw [hm] at g1;cases g1
     have hcl:cells.toList.length=2:=g4.length.symm
     obtain ⟨u0,u1,hcc⟩:∃ u0 u1,cells=#[u0,u1]:=by
      obtain ⟨l⟩:=cells
      match l,hcl with
      | [x,y],_=>exact ⟨x,y,rfl⟩
     rw [hcc] at g3
     have hone0:=Ir q0 m0
     have hone1:=Ir q1 m1
     obtain ⟨i,i1,i2⟩:=HJ (P:=P) (t:=ty) (by omega)
     have hsi:(P.info? ty).map (·.size)=some (#[v0,v1]:Array Value).size:=by rw [i1];simp;omega
     have hrun:=run_storeVar_row (P:=P) w blk et ty #[u0,u1] #[v0,v1] g3 hsi rfl (by simp [hone0,hone1])
     have hevr:a.eval (.tmp r)=.agg #[v0,v1]:=by show a.tmps.getD r undef=_;rw [hev]
     simp only [execOp,ho,he,hevr,Instr.storeAt,Instr.sureAddr,Sem.run_bind,Sem.run_pure,Result.andThen_ok,hrun]
     rw [Xt g3]
 ·refine RL.gh (Gh.same fun q=>?_) h
  rw [Am (by rw [hy];rfl)]
section
variable {nt:Nat×Nat} {J:JT} {ags:List Value} {QJ:Exit→Env→Ac→Nat→Prop} {n:Nat}
end
end
end Go.FL
namespace Go.FL
open Go Go.Proofs
section
variable {S:Type}
def UM (step:Itm→S→Option (Bool×S)) : List Itm→S→Option (Bool×S)
 | [],s=>some (true,s)
 | x::xs,s=>(step x s).bind fun r=>if r.1=true then UM step xs r.2 else some (false,r.2)
end
def ZB {S:Type} (step:Itm→S→Option (Bool×S)) (a:Arr) (s:S) : Option (Bool×S) :=
 (Bs a).bind fun x1=>if x1=true then (if ((List.length a.shape:Nat):Int)≤1 then (B9 a).bind fun l=>if l.length≤9223372036854775806 then UM step l s else none else some (false,s)) else some (false,s)
def P1 (x:Itm) (s:List Int) : Option (Bool×List Int):=(FX x.num).bind fun y=>(ap? 17592186044416 s [y.1]).bind fun o=>some (y.2&&decide (x.kind=1),o)
def M0 (a:Arr) : Option (List Int×Bool):=(ZB P1 a []).map fun r=>if r.1=true then (r.2,true) else ([],false)
def Xp (x:Itm) : DV:=.ag [.i .u8 x.kind,.b x.num.1,.sl (L x.num.2.1),.sl (L x.num.2.2),.i .i32 x.char,.sl (Ars x.box)]
def GB : List Int→Option (List Itm)
 | []=>some []
 | n::ns=>(D5 n).bind fun q=>(Cm q).bind fun x=>(GB ns).bind fun xs=>some (x::xs)
theorem Qo : ∀ {l:List Int} {xs:List Itm},GB l=some xs→xs.length=l.length∧∀ (i:Nat) n,l[i]?=some n→∃ q x,D5 n=some q∧Cm q=some x∧xs[i]?=some x:=by
 intro l
 induction l with
 | nil=>intro xs h;cases h;exact ⟨rfl,fun i n hn=>by simp at hn⟩
 | cons m ns ih =>
  intro xs h
  rw [GB] at h
  obtain ⟨q,hq,h⟩:=bnd h
  obtain ⟨x,hx,h⟩:=bnd h
  obtain ⟨ys,hy,h⟩:=bnd h
  cases h
  obtain ⟨h1,h2⟩:=ih hy
  refine ⟨by simp [h1],fun i n hn=>?_⟩
  cases i with
  | zero=>simp at hn;subst hn;exact ⟨q,x,hq,hx,rfl⟩
  | succ i=>simpa using h2 i n (by simpa using hn)
def itY (xs:List Itm) : List (List DV):=xs.map fun x=>[Xp x]
theorem Yk {xs:List Itm} {i:Nat} {x:Itm} (h:xs[i]?=some x) : (itY xs)[i]?=some [Xp x]:=by simp [itY,h]
set_option maxRecDepth 10000 in
theorem Vz {l:List Int} {xs:List Itm} (h:GB l=some xs) (hl:l.length≤9223372036854775806) (m:Nat) : ItG Tryz.prog 53 [.ptr [.sl (Is l)]] (itY xs) m:=by
 obtain ⟨hlen,hat⟩:=Qo h
 have hyl:(itY xs).length=l.length:=by simp [itY,hlen]
 refine ItG.of Tryz.func53 rfl rfl (nt:=18) rfl (by simp) fun lp J hJ hR=>?_;refine .seq ?_;refine .lift ?_;refine .region ?_;refine vk (Ao CG) ?_;refine vk (A5 (Af _) (Da _) CU) ?_;refine vk (Ae) ?_;refine .nil ?_
 show AWJ _ _ _ _ _ _ _ _ _
 refine .block ?_;refine ALJ.loop ?_;refine ALJ.gh (Gh.keep [0,5,6,7] rfl) ?_
 refine ALJ.ind (σ:=Nat) (m:=fun i=>l.length-i) (e:=fun i=>[(0,.d (.yl lp)),(5,.d (.sl (Is l))),(6,.d (.i .i64 ((List.length l:Nat):Int))),(7,.d (.i .i64 ((i:Nat):Int)))]) (h:=fun _=>[]) (r:=fun i=>i) (I:=fun i=>i≤l.length∧i≤m) ?_ 0 ⟨Nat.zero_le _,Nat.zero_le _⟩
 rintro i ⟨hi,him⟩ ih
 refine .seq ?_;refine .lift ?_;refine .region ?_;refine vk (vbi) ?_;refine .nil ?_
 show AWJ _ _ _ _ _ _ _ _ _
 refine .seq ?_
 by_cases hc:((i:Nat):Int)<((List.length l:Nat):Int)
 ·refine .cond (x:=true) (by show AV.d (.b (decide _))=_;rw [dT hc]) (fun _=>?_) (fun h=>by cases h)
  have hlt:i<l.length:=by omega
  obtain ⟨q,x,hq,hx,hxi⟩:=hat i _ (lG hlt)
  refine .skip ?_
  show AWJ _ _ _ _ _ _ _ _ _
  refine .seq ?_;refine .block ?_;refine .seq ?_;refine .lift ?_;refine .region ?_;refine vk (vix i rfl (BJ (lG hlt)) rfl Bt) ?_;refine vk (Ao AJ) ?_;refine asd ?_;refine .nil ?_
  show AWJ _ _ _ _ _ _ _ _ _
  refine .seq ?_;refine .region ?_;refine vkJ (Ae) ?_;refine vkJ (Ae) ?_;refine vkJ (Al (EV hq) Tryz.call37) ?_;refine vkJ (Al (Ez hx) Tryz.call36) ?_;refine yld (hR i [Xp x] (Yk hxi) him) hJ ?_;refine vkJ (vnt) ?_;refine .nil ?_
  show AWJ _ _ _ _ _ _ _ _ _
  by_cases hm:i<m
  ·refine .cond (x:=false) (by show AV.d (.b (!decide _))=_;rw [dT hm];rfl) (fun h=>by cases h) (fun _=>?_)
   refine .skip ?_
   show AWJ _ _ _ _ _ _ _ _ _
   refine .lift ?_;refine .region ?_;refine vk (vbi) ?_;refine vk (Ae) ?_;refine .nil ?_
   show ALJ _ _ _ _ _ _ _ _ _
   have hw:IntKind.wrap .i64 ((i:Int)+1)=((i+1:Nat):Int):=by simp only [IntKind.wrap,IntKind.bits,IntKind.signed];simp;omega
   rw [hw]
   refine ALJ.gh (Gh.keep [0,5,6,7] rfl) ?_
   exact ih (i+1) ⟨hlt,hm⟩ (by omega)
  ·refine .cond (x:=true) (by show AV.d (.b (!decide _))=_;rw [dF hm];rfl) (fun _=>?_) (fun h=>by cases h)
   refine .ret ?_
   exact ⟨.inr rfl,by rw [hyl];omega⟩
 ·refine .cond (x:=false) (by show AV.d (.b (decide _))=_;rw [dF hc]) (fun h=>by cases h) (fun _=>?_)
  refine .exit ?_
  exact ⟨.inl rfl,by rw [hyl];omega⟩
def Hd (proto:Itm) (xs:List Itm) : Arr:=.mk [((min xs.length 4096:Nat) : Int)] (if xs.length=0 then [proto] else xs.take 4096)
abbrev Aae (xs:List Itm) (n:Nat) : Ac:=[.box [.own 3 (Is [((n:Nat) : Int)]),.own 51 (Its (xs.take n))]]
theorem Xz : 0<AB Tryz.prog 51:=by rw [Pw];decide
set_option maxRecDepth 10000 in
set_option maxHeartbeats 4000000 in
theorem Uo {proto:Itm} {xs:List Itm} {f:FuncId} {caps:List DV} (hcall:∀ args w,(callFunc f args).run Tryz.prog w=.ok (.enter f args) w) (hit:ItG Tryz.prog f caps (itY xs) 4096) :
  Fn Tryz.prog 52 [Xp proto,.fn f [] caps] (.d (.ag [.sl (Is (Hd proto xs).shape),.sl (Its (Hd proto xs).items)])):=by
 refine Fn.ofMA (rs:=[.cell 4 27]) (nt:=37) Tryz.func52 rfl rfl rfl (by simp) rfl ?_;refine .seqA ?_;refine .region ?_;refine vk (vbx (cs:=[.i .u8 proto.kind,.b proto.num.1,.sl (L proto.num.2.1),.sl (L proto.num.2.2),.i .i32 proto.char,.sl (Ars proto.box)])) ?_;refine vk (van (Ak AK) AP) ?_;refine .nil ?_
 show AWM _ _ _ _ _ _
 refine .seqA ?_;refine .region ?_;refine vk (FF (ds':=Is [0]) rfl (DZ [0]) DN) ?_;refine bdo CJ AK rfl ?_
 refine al ?_ (Ak AK) (fun w I μ=>Px w I μ)
 refine st2 (c0:=.nl) (c1:=.nl) rfl ?_ Ab
 refine .nil ?_
 show AWM _ _ _ _ _ _
 refine .gh (Gh.keep [1,2,4,5] rfl) ?_;refine .gh (Gh.nlOwnC (id:=0) (off:=1) 51 Xz) ?_;refine .seq rfl ?_;refine .seqA ?_;refine .region ?_;refine vk (Ae) ?_;refine .nil ?_
 show AWM _ _ _ _ _ _
 refine .block ?_
 refine AWM.rangeFuncG (ps:=[10]) (f:=f) (caps:=caps) (ys:=itY xs) (m:=4096) (e1:=.exit 0) rfl rfl rfl hcall hit (fun ds hd=>?_) (fun p hp=>?_) rfl (fun k H=>H=Aae xs (min k 4096)) rfl (.inl ⟨0,rfl⟩) (fun l k ds H hk hkm hH=>?_) (fun H hH=>?_)
 ·simp only [itY,List.mem_map] at hd
  obtain ⟨x,_,rfl⟩:=hd;rfl
 ·simp only [List.mem_cons,List.not_mem_nil,or_false] at hp;subst hp;rfl
 ·subst hH
  simp only [itY,List.getElem?_map,Option.map_eq_some_iff] at hk
  obtain ⟨x,hx,rfl⟩:=hk
  rw [Nat.min_eq_left hkm]
  refine .region ?_;refine vk (van (Ak CO) CL) ?_
  refine stn ?_ Az (by decide)
  refine .nil ?_;refine aw ?_;refine .block ?_;refine .seq ?_;refine .seq ?_;refine .region ?_;refine vk (HN A7) ?_
  refine PG (cs:=[.own 3 (Is [((k:Nat):Int)]),.own 51 (Its (xs.take k))]) rfl rfl ?_ CG
  refine ixr (len:=1) (xs:=Is [((k:Nat):Int)]) 0 rfl (by decide) ?_ Bt (by decide)
  refine lde (xs:=Is [((k:Nat):Int)]) (.i .i64 ((k:Nat):Int)) ⟨_,rfl,rfl⟩ ?_ AJ
  refine vk (vbi) ?_;refine rn ?_
  by_cases hm:((k:Nat):Int)=4096
  ·refine cnt (dT hm) ?_
   refine .exit ?_
   have hk4:k=4096:=by omega
   subst hk4
   exact ⟨rfl,rfl⟩
  refine cnf (dF hm) ?_
  have hlt:k<4096:=by omega
  have hkl:k<xs.length:=(lS.1 hx).1
  refine .skip ?_;refine aw ?_;refine .gh (Gh.keep [5,6] rfl) ?_;refine .seq ?_;refine .region ?_;refine vk (HN AU) ?_
  refine PG (cs:=[.own 3 (Is [((k:Nat):Int)]),.own 51 (Its (xs.take k))]) rfl rfl ?_ BX
  refine vk (D7 AT Az) ?_;refine vk (FF (G4 x) (FK [x]) E9) ?_
  have hap:ap? 1466015503701 (xs.take k) [x]=some (xs.take (k+1)):=by
   rw [ap?,if_pos (by simp;omega),List.take_add_one,hx];rfl
  refine XW KE hap rfl rfl Nl ?_ Jz Au E9
  refine RL.gh (Gh.keep [5,6,20] rfl) ?_;refine vk (HN AU) ?_
  refine RG (cs:=[.own 3 (Is [((k:Nat):Int)]),.un]) (c:=.un) rfl rfl ?_ Lr
  refine rn ?_;refine .gh (Gh.keep [5] rfl) ?_;refine .region ?_;refine vk (HN A7) ?_
  refine PG (cs:=[.own 3 (Is [((k:Nat):Int)]),.own 51 (Its (xs.take (k+1)))]) rfl rfl ?_ CG
  refine ixr (len:=1) (xs:=Is [((k:Nat):Int)]) 0 rfl (by decide) ?_ Bt (by decide)
  refine lde (xs:=Is [((k:Nat):Int)]) (.i .i64 ((k:Nat):Int)) ⟨_,rfl,rfl⟩ ?_ AJ
  refine vk (vbi) ?_
  refine ixr (len:=1) (xs:=Is [((k:Nat):Int)]) 0 rfl (by decide) ?_ Bt (by decide)
  refine ste (xs:=Is [((k:Nat):Int)]) ⟨_,rfl,rfl⟩ ?_ Dg (hn:=fun _ _ _=>Nat.zero_le _)
  refine .nil ?_
  have hw:IntKind.wrap .i64 ((k:Int)+1)=((k+1:Nat):Int):=by simp only [IntKind.wrap,IntKind.bits,IntKind.signed];simp;omega
  refine ⟨by rw [if_pos hlt],?_⟩
  rw [Nat.min_eq_left (by omega:k+1≤4096)]
  show [HO.box [AV.own _ [.i .i64 (IntKind.wrap .i64 ((k:Int)+1))],_]]=_
  rw [hw];rfl
 ·have hlen:(itY xs).length=xs.length:=by simp [itY]
  rw [hlen] at hH ⊢
  have hn:min (min (4096+1) xs.length) 4096=min xs.length 4096:=by omega
  rw [hn] at hH
  subst hH
  by_cases hb:4096<xs.length
  case' pos=>rw [if_pos hb]
  case' neg=>rw [if_neg hb]
  all_goals
   show AWM _ _ _ _ _ _
   refine .lift ?_;refine .gh (Gh.keep [2,4,5] rfl) ?_;refine .seq ?_;refine .seq ?_;refine .region ?_;refine vk (HN A7) ?_
   refine PG (cs:=[.own 3 (Is [((min xs.length 4096:Nat):Int)]),.own 51 (Its (xs.take (min xs.length 4096)))]) rfl rfl ?_ CG
   refine ixr (len:=1) (xs:=Is [((min xs.length 4096:Nat):Int)]) 0 rfl (by decide) ?_ Bt (by decide)
   refine lde (xs:=Is [((min xs.length 4096:Nat):Int)]) (.i .i64 ((min xs.length 4096:Nat):Int)) ⟨_,rfl,rfl⟩ ?_ AJ
   refine vk (vbi) ?_;refine rn ?_;refine .gh (Gh.keep [2,4,5,32] rfl) ?_
   by_cases h0:((min xs.length 4096:Nat):Int)=0
   ·have hx0:xs.length=0:=by omega
    refine cnt (dT h0) ?_;refine .region ?_;refine vk (Ar AT Az) ?_;refine vk (FF (G4 proto) (FK [proto]) E9) ?_;refine vk (HN AU) ?_
    refine RG (cs:=[.own 3 (Is [((min xs.length 4096:Nat):Int)]),.own 51 (Its (xs.take (min xs.length 4096)))]) (c:=.own 51 (Its (xs.take (min xs.length 4096)))) rfl rfl ?_ Lr
    refine .nil ?_;refine aw ?_;refine .gh (Gh.keep [4,5] rfl) ?_;refine .seq ?_;refine .region ?_;refine fz (p:=.c 0 0) ?_;refine fz (p:=.c 0 1) ?_;refine vk (Ks (cs:=[.d (.sl (Is [((min xs.length 4096:Nat):Int)])),.d (.sl (Its [proto]))]) (ds:=[.sl (Is [((min xs.length 4096:Nat):Int)]),.sl (Its [proto])]) rfl Ag Ab) ?_
    refine stn ?_ Ab (by decide)
    refine rn ?_;refine .ret ?_
    exact ⟨.inr rfl,.inl ⟨_,⟨.inr rfl,Ag,Ab,(by decide:(0:Nat)<2)⟩,by simp only [Hd,if_pos hx0];rfl⟩⟩
   ·have hx0:¬xs.length=0:=by omega
    refine cnf (dF h0) ?_;refine .skip ?_;refine aw ?_;refine .gh (Gh.keep [4,5] rfl) ?_;refine .seq ?_;refine .region ?_;refine fz (p:=.c 0 0) ?_;refine fz (p:=.c 0 1) ?_;refine vk (Ks (cs:=[.d (.sl (Is [((min xs.length 4096:Nat):Int)])),.d (.sl (Its (xs.take (min xs.length 4096))))]) (ds:=[.sl (Is [((min xs.length 4096:Nat):Int)]),.sl (Its (xs.take (min xs.length 4096)))]) rfl Ag Ab) ?_
    refine stn ?_ Ab (by decide)
    refine rn ?_;refine .ret ?_
    have ht:xs.take (min xs.length 4096)=xs.take 4096:=by
     rcases Nat.le_total xs.length 4096 with h|h
     ·rw [Nat.min_eq_left h,List.take_of_length_le (Nat.le_refl _),List.take_of_length_le h]
     ·rw [Nat.min_eq_right h]
    exact ⟨.inr rfl,.inl ⟨_,⟨.inr rfl,Ag,Ab,(by decide:(0:Nat)<2)⟩,by simp only [Hd,if_neg hx0,ht];rfl⟩⟩
def GF (l:List Int) : Option Arr:=if l.length≤9223372036854775806 then (GB l).bind fun xs=>(D5 0).bind fun q=>(Cm q).bind fun p=>some (Hd p xs) else none
theorem Gq {l:List Int} {r:Arr} (h:GF l=some r) : Fn Tryz.prog 15 [.sl (Is l)] (.d (.ag [.sl (Is r.shape),.sl (Its r.items)])):=by
 obtain ⟨hl,h⟩:=EW h
 obtain ⟨xs,hxs,h⟩:=bnd h
 obtain ⟨q,hq,h⟩:=bnd h
 obtain ⟨p,hp,h⟩:=bnd h
 cases h
 refine Fn.ofC (rs:=[.cell 2 27]) (nt:=7) Tryz.func15 rfl rfl rfl (by simp) rfl ?_;refine .sr ?_;refine vk (Yr) ?_;refine vk (van (Ak AK) AP) ?_;refine rn ?_;refine .sr ?_;refine vk (Al (EV hq) Tryz.call37) ?_;refine vk (Al (Ez hp) Tryz.call36) ?_;refine vk (ZE) ?_;refine vk (Al (Uo (proto:=p) Tryz.call53 (Vz hxs hl 4096)) Tryz.call52) ?_
 refine stn ?_ Ab (by decide)
 refine rn ?_;refine .ret ?_
 exact ⟨_,⟨.inr rfl,Ag,Ab,p2⟩,rfl⟩
mutual
def tyI : Itm→Itm
 | .mk k _ _ b=>if k=1 then .mk 1 (ofQ 0) 0 [] else if k=2 then .mk 2 (false,[],[]) 32 [] else .mk 3 (false,[],[]) 0 (tyBs b)
def tyA : Arr→Arr
 | .mk s i=>.mk s (tyIs i)
def tyIs : List Itm→List Itm
 | []=>[]
 | x::xs=>tyI x::tyIs xs
def tyBs : List Arr→List Arr
 | []=>[]
 | a::_=>[tyA a]
end
theorem Ff (s:List Int) (i:List Itm) : (Arr.mk s i).shape=s:=rfl
theorem D3 (s:List Int) (i:List Itm) : (Arr.mk s i).items=i:=rfl
theorem Ni (k:Int) (n:RT) (c:Int) (b:List Arr) : (Itm.mk k n c b).kind=k:=rfl
theorem X8 (k:Int) (n:RT) (c:Int) (b:List Arr) : (Itm.mk k n c b).num=n:=rfl
theorem XY (k:Int) (n:RT) (c:Int) (b:List Arr) : (Itm.mk k n c b).char=c:=rfl
theorem Wi (k:Int) (n:RT) (c:Int) (b:List Arr) : (Itm.mk k n c b).box=b:=rfl
theorem Vf (xs:List Itm) : tyIs xs=xs.map tyI:=by induction xs with
 | nil=>simp [tyIs]
 | cons x xs ih=>simp [tyIs,ih]
theorem I8 (a:Arr) : tyA a=.mk a.shape (a.items.map tyI):=by cases a;simp only [tyA,Vf];rfl
theorem FD : ∀ {xs:List Itm},rIs xs=true↔∀ x∈xs,rI x=true
 | []=>by simp [rIs]
 | x::xs=>by simp [rIs,FD (xs:=xs)]
theorem S4 : ∀ {xs:List Arr},rBs xs=true↔∀ a∈xs,Bf a=false∧rA a=true
 | []=>by simp [rBs]
 | x::xs=>by simp [rBs,S4 (xs:=xs)]
theorem Fc {x:Itm} (h:rI x=true) : (x.kind=1∧Bz x.num=true∧x.char=0∧x.box=[])∨(x.kind=2∧chB x.char=true∧x.num=(false,[],[])∧x.box=[])∨(x.kind=3∧x.num=(false,[],[])∧x.char=0∧∃ a,x.box=[a]∧Bf a=false∧rA a=true):=by
 rw [VG] at h
 by_cases k1:x.kind=1
 ·rw [if_pos k1] at h;simp only [Bool.and_eq_true,decide_eq_true_eq] at h
  exact .inl ⟨k1,h.1,h.2.1,List.length_eq_zero_iff.1 h.2.2⟩
 rw [if_neg k1] at h
 by_cases k2:x.kind=2
 ·rw [if_pos k2] at h;simp only [Bool.and_eq_true,decide_eq_true_eq] at h
  exact .inr (.inl ⟨k2,h.1,(M9 x).1 h.2.1,List.length_eq_zero_iff.1 h.2.2⟩)
 rw [if_neg k2] at h
 by_cases k3:x.kind=3
 ·rw [if_pos k3] at h;simp only [Bool.and_eq_true,decide_eq_true_eq] at h
  obtain ⟨a,ha⟩:=List.length_eq_one_iff.1 h.1
  refine .inr (.inr ⟨k3,(M9 x).1 h.2.1,h.2.2.1,a,ha,S4.1 h.2.2.2 a (by simp [ha])⟩)
 ·rw [if_neg k3] at h;cases h
def W9 (x:Itm) : Prop:=rI (tyI x)=true∧dI (tyI x)=dI x∧cI (tyI x)=cI x∧tyI (tyI x)=tyI x∧(tyI x).kind=x.kind∧okI (tyI x)
theorem Sw {s:List Int} {i:List Itm} {f:Itm→Itm} (h:∀ x∈i,(f x).kind=x.kind) : Bf (.mk s (i.map f))=Bf (.mk s i):=by
 unfold Bf
 match i with
 | []=>rfl
 | [x]=>simp only [Ff,D3,List.map,h x (by simp)]
 | x::y::r=>rfl
theorem S7 {f:Itm→Itm} : ∀ {i:List Itm},(∀ x∈i,cI (f x)=cI x)→cIs (i.map f)=cIs i
 | [],_=>rfl
 | x::xs,h=>by simp only [List.map,cIs];rw [h x (by simp),S7 fun y hy=>h y (by simp [hy])]
theorem Tu {f:Itm→Itm} : ∀ {i:List Itm},(∀ x∈i,dI (f x)=dI x)→dIs (i.map f)=dIs i
 | [],_=>rfl
 | x::xs,h=>by simp only [List.map,dIs];rw [h x (by simp),Tu fun y hy=>h y (by simp [hy])]
theorem Y4 {a:Arr} (oa:okAr a) (hr:rA a=true) (ih:∀ x∈a.items,W9 x) : rA (tyA a)=true∧dA (tyA a)=dA a∧cA (tyA a)=cA a∧tyA (tyA a)=tyA a∧Bf (tyA a)=Bf a∧okAr (tyA a):=by
 have o:=(BW a).1 oa
 have hs:Bf (tyA a)=Bf a:=by
  rw [I8,Sw (fun x hx=>(ih x hx).2.2.2.2.1),Arr.eta]
 rw [JN] at hr
 simp only [Bool.and_eq_true,decide_eq_true_eq] at hr
 refine ⟨?_,?_,?_,?_,hs,?_⟩
 ·rw [JN,I8]
  simp only [Ff,D3,List.length_map,Bool.and_eq_true,decide_eq_true_eq]
  refine ⟨dT hr.1,hr.2.1,FD.2 fun x hx=>?_⟩
  obtain ⟨y,hy,rfl⟩:=List.mem_map.1 hx
  exact (ih y hy).1
 ·rw [IM,IM,hs,I8]
  simp only [D3]
  rw [Tu fun x hx=>(ih x hx).2.1]
 ·rw [Jm,Jm,I8]
  simp only [D3,List.length_map]
  rw [S7 fun x hx=>(ih x hx).2.2.1]
 ·rw [I8,I8]
  simp only [Ff,D3,List.map_map,Arr.mk.injEq,true_and]
  exact List.map_congr_left fun x hx=>(ih x hx).2.2.2.1
 ·rw [BW,I8]
  simp only [Ff,D3,List.length_map]
  refine ⟨o.1,o.2.1,o.2.2.1,fun x hx=>?_⟩
  obtain ⟨y,hy,rfl⟩:=List.mem_map.1 hx
  exact (ih y hy).2.2.2.2.2
theorem UV (n:RT) (c:Int) (b:List Arr) : tyI (.mk 1 n c b)=.mk 1 (ofQ 0) 0 []:=by simp [tyI]
theorem Va (n:RT) (c:Int) (b:List Arr) : tyI (.mk 2 n c b)=.mk 2 (false,[],[]) 32 []:=by simp [tyI]
theorem Vv (n:RT) (c:Int) (a:Arr) : tyI (.mk 3 n c [a])=.mk 3 (false,[],[]) 0 [tyA a]:=by simp [tyI,tyBs]
theorem To {r:RT} (h:HQ r=true) : okI (.mk 1 r 0 []):=by
 simp [okI,okAs,h]
theorem UL {c:Int} (h:chB c=true) : okI (.mk 2 (false,[],[]) c []):=by
 simp only [chB,Bool.and_eq_true,decide_eq_true_eq] at h
 refine ⟨by omega,rfl,by omega,by simp,trivial⟩
theorem WK {a:Arr} (h:okAr a) : okI (.mk 3 (false,[],[]) 0 [a]):=⟨by omega,rfl,by omega,by simp,h,trivial⟩
theorem VO {r:RT} (h:Bz r=true) : rI (.mk 1 r 0 [])=true:=by simp [rI,h]
theorem XV {c:Int} (h:chB c=true) : rI (.mk 2 (false,[],[]) c [])=true:=by simp [rI,h,EZ,Itm.num]
theorem Yu {a:Arr} (h:rA a=true) (hs:Bf a=false) : rI (.mk 3 (false,[],[]) 0 [a])=true:=by simp [rI,rBs,h,hs,EZ,Itm.num]
theorem V6 : ∀ (k:Nat) {x:Itm},x.size<k→okI x→rI x=true→W9 x
 | 0,x,h,_,_=>by omega
 | k+1,x,h,ho,hr=>by
  have hc:=Fc hr
  cases x with
  | mk kd n c b =>
   simp only [Ni,X8,XY,Wi] at hc
   unfold W9
   rcases hc with ⟨rfl,h1,rfl,rfl⟩|⟨rfl,h1,rfl,rfl⟩|⟨rfl,rfl,rfl,a,rfl,h2,h3⟩
   ·rw [UV,UV]
    exact ⟨VO (Gu Lu),rfl,rfl,rfl,rfl,To (FU Lu)⟩
   ·rw [Va,Va]
    exact ⟨XV rfl,rfl,rfl,rfl,rfl,UL rfl⟩
   ·have hb:a∈Itm.box (.mk 3 (false,[],[]) 0 [a]):=by simp [Itm.box]
    have hz:=Hy hb
    have oa:okAr a:=((E5 _).1 ho).2.2.2.2 a hb
    have h3':=h3
    rw [JN] at h3';simp only [Bool.and_eq_true] at h3'
    obtain ⟨p1,p2,p3,p4,p5,p6⟩:=Y4 oa h3 fun y hy=>V6 k (by have:=HT hy;omega) (((BW a).1 oa).2.2.2 y hy) (FD.1 h3'.2.2 y hy)
    rw [Vv,Vv,p4]
    refine ⟨Yu p1 (by rw [p5,h2]),?_,?_,rfl,rfl,WK p6⟩
    ·simp only [dI,dBs,p2]
    ·simp only [cI,cBs,p3]
theorem So {x:Itm} (ho:okI x) (hr:rI x=true) : W9 x:=V6 _ (Nat.lt_succ_self _) ho hr
theorem NU : ∀ (k:Nat) {x:Itm},x.size<k→okI x→rI x=true→Ft k x=some (tyI x)
 | 0,x,h,_,_=>by omega
 | k+1,x,h,ho,hr=>by
  have hc:=Fc hr
  cases x with
  | mk kd n c b =>
   simp only [Ni,X8,XY,Wi] at hc
   rw [Ft,Hp]
   rcases hc with ⟨rfl,h1,rfl,rfl⟩|⟨rfl,h1,rfl,rfl⟩|⟨rfl,rfl,rfl,a,rfl,h2,h3⟩
   ·rw [if_pos (Ni 1 n 0 []),UV,TC (by omega) (by omega),oB,Rat.intCast_zero,L6 (FU Lu),oB]
   ·rw [if_neg (by rw [Ni];decide),if_pos (Ni 2 _ c []),Va];rfl
   ·have hb:a∈Itm.box (.mk 3 (false,[],[]) 0 [a]):=by simp [Itm.box]
    have hz:=Hy hb
    have oa:okAr a:=((E5 _).1 ho).2.2.2.2 a hb
    have h3':=h3
    rw [JN] at h3';simp only [Bool.and_eq_true] at h3'
    have o:=(BW a).1 oa
    rw [if_neg (by rw [Ni];decide),if_neg (by rw [Ni];decide),Wi,MV,oB,LD (h:=tyI) (fun y hy=>NU k (by have:=HT hy;omega) (o.2.2.2 y hy) (FD.1 h3'.2.2 y hy)) o.2.1 o.2.2.1,oB,Vv,I8]
theorem Rd {x:Itm} (ho:okI x) (hr:rI x=true) : KO x=some (tyI x):=NU _ (Nat.lt_succ_self _) ho hr
theorem Lm {a:Arr} (h:rA a=true) : (szP a.shape).2=0∧(a.items.length:Int)=(if (szP a.shape).1<1 then 1 else (szP a.shape).1)∧∀ x∈a.items,rI x=true:=by
 rw [JN] at h;simp only [Bool.and_eq_true,decide_eq_true_eq] at h
 exact ⟨h.1,h.2.1,FD.1 h.2.2⟩
theorem Ku {a:Arr} (ha:okAr a) : B9 a=some (if (szP a.shape).1=0∨¬Bk a then [] else a.items):=by
 have o:=(BW a).1 ha
 unfold B9
 rw [JE o.2.1,oB]
 by_cases h0:(szP a.shape).1=0
 ·rw [if_pos h0,if_pos (.inl h0)];rfl
 rw [if_neg h0,Hv ha,oB]
 by_cases h:Bk a
 ·rw [dT h,if_neg (by rintro (q|q);exact h0 q;exact q h),Bool.not_true,oB,if_neg (by decide),LR ha];rfl
 ·rw [dF h,if_pos (.inr h)];rfl
theorem Xk {x:Itm} (hx:okI x) (hr:Br x) : DC x=some (if x.kind=3 then x.box.headD default else .mk [] [x]):=by
 unfold DC
 rw [HV hx,oB,dT hr,if_pos rfl]
 by_cases k:x.kind=3
 ·rw [if_pos k,if_pos k]
  rcases Fc hr.1 with h|h|⟨_,_,_,a,h,_⟩
  ·omega
  ·omega
  ·rw [h,MV,oB,LR (((E5 x).1 hx).2.2.2.2 a (by simp [h]))];rfl
 ·rw [if_neg k,if_neg k,LI hx];rfl
theorem OJ {xs:List Itm} {f:Cl} {p:Itm→Bool} (hf:∀ x∈xs,f.g x=some (p x)) (K:Int→Option Int) (hl:xs.length≤17592186044416) : ∀ (n i k:Nat) (s:Int),n=xs.length-i→i≤xs.length→n<k →
  (Ax xs f K k s (i:Int)=K s∧(xs.drop i).any p=false)∨(∃ j:Nat,Ax xs f K k s (i:Int)=some (j:Int)∧(xs.drop i).any p=true)
 | _,_,0,_,_,_,h=>by omega
 | n,i,k+1,s,hn,hi,hk=>by
  rw [Ax]
  by_cases h:i<xs.length
  ·rw [if_pos (by omega),BE h,oB,hf _ (List.getElem_mem h),oB,lC h,List.any_cons]
   by_cases hp:p xs[i]=true
   ·rw [if_pos hp,hp];exact .inr ⟨i,rfl,rfl⟩
   ·rw [if_neg hp,Bo (by omega)]
    have:p xs[i]=false:=by simpa using hp
    rw [this,Bool.false_or]
    exact OJ hf K hl (n-1) (i+1) k s (by omega) (by omega) (by omega)
  ·rw [if_neg (by omega),List.drop_of_length_le (by omega)];exact .inl ⟨rfl,rfl⟩
theorem JU {xs:List Itm} {f:Cl} {p:Itm→Bool} (hf:∀ x∈xs,f.g x=some (p x)) (hl:xs.length≤17592186044416) : AG xs f=some (xs.any p):=by
 unfold AG Bj
 rw [Bp]
 rcases OJ hf (fun _=>some (-1)) hl xs.length 0 As 0 rfl (Nat.zero_le _) (AY (by omega)) with ⟨h1,h2⟩|⟨j,h1,h2⟩
 ·rw [show ((0:Nat):Int)=0 from rfl] at h1
  rw [h1,oB,List.drop_zero] at *
  rw [h2];rfl
 ·rw [show ((0:Nat):Int)=0 from rfl] at h1
  rw [h1,oB]
  rw [List.drop_zero] at h2
  rw [h2,dT (by omega)]
def EC (xs:List Itm) : List Int:=xs.map fun x=>((1+cI x:Nat) : Int)
theorem Ju {x:Itm} (hx:okI x) (hr:Br x) : ∀ a∈x.box,okAr a∧Bk a∧cI x=cA a∧x.box=[a]:=fun a ha=>by
 have oa:=((E5 x).1 hx).2.2.2.2 a ha
 rcases Fc hr.1 with ⟨_,_,_,h⟩|⟨_,_,_,h⟩|⟨_,_,_,b,h,h2,h3⟩
 ·rw [h] at ha;cases ha
 ·rw [h] at ha;cases ha
 ·have hb:=ha
  rw [h,List.mem_singleton] at hb
  subst hb
  have e1:cI x=cA a:=by rw [QT,h];simp [cBs]
  have e2:dI x=dA a:=by rw [Tn,h];simp [dBs]
  exact ⟨oa,⟨h3,e2▸hr.2.1,e1▸hr.2.2⟩,e1,h⟩
theorem Xi {x:Itm} (hx:okI x) (hr:Br x) (K:Int→Option (Arr×Int)) : CR x K As 1 0=K ((1+cI x:Nat) : Int):=by
 have hF:As=999999999999998+1+1:=rfl
 rw [hF,CR]
 by_cases hb:x.box=[]
 ·rw [if_neg (by rw [hb];decide)]
  have:cI x=0:=by rw [QT,hb];rfl
  rw [this];rfl
 ·obtain ⟨a,ha⟩:=List.exists_mem_of_ne_nil _ hb
  obtain ⟨oa,ra,e1,e2⟩:=Ju hx hr a ha
  have h16:=ra.2.2
  rw [e2,if_pos (by simp),MV,oB,Wp oa,oB,if_pos ra,CR,e2,if_neg (by rw [show w64 ((0:Int)+1)=1 from rfl];simp),AX (by omega) (by omega),e1]
  congr 1
theorem SN {xs:List Itm} (hx:∀ x∈xs,okI x∧Br x) (hl:xs.length≤1466015503701) (K:List Int→Option (Arr×Int)) : ∀ (n i k:Nat) (t:List Int),n=xs.length-i→i≤xs.length→n<k→t.length=i →
  Co xs K k t (i:Int)=K (t++(EC xs).drop i)
 | _,_,0,_,_,_,h,_=>by omega
 | n,i,k+1,t,hn,hi,hk,ht=>by
  rw [Co]
  have hcl:(EC xs).length=xs.length:=by simp [EC]
  by_cases h:i<xs.length
  ·obtain ⟨o,r⟩:=hx _ (List.getElem_mem h)
   have hd:(EC xs)[i]'(by omega)=((1+cI xs[i]:Nat):Int):=by simp [EC]
   rw [if_pos (by omega),Bp,BE h,oB,Bp,Xi o r,IH (by simp;omega),oB,Bo (by omega)]
   show Co xs K k (t++[((1+cI xs[i]:Nat):Int)]) ((i+1:Nat):Int)=_
   rw [SN hx hl K (n-1) (i+1) k _ (by omega) (by omega) (by omega) (by simp [ht]),
    lC (by omega:i<(EC xs).length),hd,List.append_assoc]
   rfl
  ·rw [if_neg (by omega),List.drop_of_length_le (by omega),List.append_nil]
def cyc (xs:List Itm) (n:Nat) : List Itm:=(List.range n).map fun i=>xs.getD (i % xs.length) default
theorem Nk (xs:List Itm) (n:Nat) : cyc xs (n+1)=cyc xs n++[xs.getD (n % xs.length) default]:=by
 unfold cyc;rw [List.range_succ,List.map_append];rfl
theorem Ic (xs:List Itm) (n:Nat) : (cyc xs n).length=n:=by simp [cyc]
theorem PY (xs ys:List Itm) : cIs (xs++ys)=cIs xs+cIs ys:=by
 induction xs with
 | nil=>simp [cIs]
 | cons x xs ih=>simp only [List.cons_append,cIs,ih];omega
theorem XE {xs:List Itm} (h:xs≠[]) {n:Nat} {x:Itm} (hx:x∈cyc xs n) : x∈xs:=by
 unfold cyc at hx
 obtain ⟨i,_,rfl⟩:=List.mem_map.1 hx
 have hp:0<xs.length:=List.length_pos_iff.2 h
 have hlt:=Nat.mod_lt i hp
 rw [lD,lG hlt]
 exact List.getElem_mem hlt
theorem YB (xs:List Itm) {i n:Nat} (h:i≤n) : i+cIs (cyc xs i)≤n+cIs (cyc xs n):=by
 induction n with
 | zero =>
  have:i=0:=by omega
  subst this;exact Nat.le_refl _
 | succ n ih =>
  by_cases he:i=n+1
  ·subst he;exact Nat.le_refl _
  ·have:=ih (by omega)
   rw [Nk,PY];omega
theorem SX {xs:List Itm} (hx:∀ x∈xs,okI x∧Br x) (hne:xs≠[]) (hl:xs.length≤1466015503701) {m:Nat} (hm:m≤4096) (x1:Int×Int) (hx1:x1.1=(m:Int)) (K:Arr→Int→List Int→List Itm→Option (Arr×Int)) (a:Arr) (b:Int) (s:List Int) (t0:List Itm) (ht0:t0.length≤1) : ∀ (n i k:Nat),n=m-i→i≤m→n<k→i+cIs (cyc xs i)≤16384 →
  Cq xs x1 (EC xs) K k a b (i:Int) ((i+cIs (cyc xs i):Nat):Int) s (t0++cyc xs i)=if m+cIs (cyc xs m)≤16384 then K a b s (t0++cyc xs m) else some (.mk [] [],8)
 | _,_,0,_,_,h,_=>by omega
 | n,i,k+1,hn,hi,hk,hc=>by
  rw [Cq]
  have hcl:(EC xs).length=xs.length:=by simp [EC]
  have hp:0<xs.length:=List.length_pos_iff.2 hne
  by_cases h:i<m
  ·have hlt:=Nat.mod_lt i hp
   have htm:Int.tmod (i:Int) ((xs.length:Nat):Int)=((i % xs.length:Nat):Int):=by
    rw [Int.tmod_eq_emod_of_nonneg (by omega)];rfl
   have hgr:GV (((List.length xs:Nat):Int)≠0)=some ():=if_pos (by omega)
   have hd:(EC xs)[i % xs.length]'(by omega)=((1+cI xs[i % xs.length]:Nat):Int):=by simp [EC]
   obtain ⟨o,r⟩:=hx _ (List.getElem_mem hlt)
   have hg:xs.getD (i % xs.length) default=xs[i % xs.length]:=by rw [lD,lG hlt];rfl
   have hci:cI xs[i % xs.length]≤16384:=r.2.2
   have hsum:cIs (cyc xs (i+1))=cIs (cyc xs i)+cI xs[i % xs.length]:=by rw [Nk,PY,hg];simp [cIs]
   rw [if_pos (by omega),hgr,oB,htm,BE (by omega:i % xs.length<(EC xs).length),oB,hd,AX (by omega) (by omega)]
   by_cases hbig:(16384:Int)<((i+cIs (cyc xs i):Nat):Int)+((1+cI xs[i % xs.length]:Nat):Int)
   ·rw [if_pos hbig,if_neg]
    have:=YB xs (show i+1≤m by omega)
    omega
   ·have hlen:=Ic xs i
    rw [if_neg hbig,oB,BE hlt,oB,LI o,oB,IH (by simp;omega),oB,Bo (by omega)]
    have ih:=SX hx hne hl hm x1 hx1 K a b s t0 ht0 (n-1) (i+1) k (by omega) (by omega) (by omega) (by omega)
    rw [Nk,hg] at ih
    rw [← ih,List.append_assoc]
    congr 1
    rw [PY];simp only [cIs];omega
  ·have:i=m:=by omega
   subst this
   rw [if_neg (by omega),if_pos hc]
def CK (n:Int) (xs:List Itm) : List Itm:=if n=0 then [tyI (xs.headD default)] else cyc xs n.toNat
theorem JF {s:List Int} {xs:List Itm} (hs:∀ z∈s,-9223372036854775808≤z∧z≤9223372036854775807) (hl:s.length≤17592186044416) (hxl:xs.length≤1466015503701) (hx:∀ x∈xs,okI x) :
  AZ s xs=some (if (szP s).2≠0 then (.mk [] [],(szP s).2) else if xs=[]∨¬(∀ x∈xs,Br x) then (.mk [] [],22) else if Bk (.mk s (CK (szP s).1 xs)) then (.mk s (CK (szP s).1 xs),0) else (.mk [] [],8)):=by
 unfold AZ
 rw [JE hl,oB]
 by_cases h0:(szP s).2=0
 rotate_left
 ·rw [if_neg h0,if_pos h0]
 have h0':¬((szP s).2≠0):=fun h=>h h0
 rw [if_pos h0,if_neg h0']
 by_cases hn:xs=[]
 ·subst hn;rw [if_pos (show ((([]:List Itm).length:Nat):Int)=0 from rfl),if_pos (.inl rfl)];rfl
 have hlen:¬((xs.length:Nat):Int)=0:=by have:=List.length_pos_iff.2 hn;omega
 rw [if_neg hlen,JU (p:=fun x=>!decide (Br x)) (fun x hx'=>by
  show Fa x=_
  unfold Fa;rw [HV (hx x hx'),oB]) (by omega),oB,oB]
 by_cases hr:∀ x∈xs,Br x
 rotate_left
 ·rw [if_pos (.inr hr:xs=[]∨¬∀ x∈xs,Br x),if_pos]
  rw [List.any_eq_true]
  simp only [Classical.not_forall] at hr
  obtain ⟨x,h1,h2⟩:=hr
  exact ⟨x,h1,by rw [dF h2];rfl⟩
 rw [if_neg (show ¬(xs=[]∨¬∀ x∈xs,Br x) from fun h=>h.elim hn fun h=>h hr),if_neg (by
  intro h
  rw [List.any_eq_true] at h
  obtain ⟨x,h1,h2⟩:=h
  rw [dT (hr x h1)] at h2;cases h2),Om hl,oB,Bp]
 have hp:0<xs.length:=List.length_pos_iff.2 hn
 have hxr:∀ x∈xs,okI x∧Br x:=fun x h=>⟨hx x h,hr x h⟩
 obtain ⟨hz0,hz1⟩:=P3 s
 obtain ⟨m,hm⟩:∃ m:Nat,(szP s).1=(m:Int):=⟨(szP s).1.toNat,by omega⟩
 have hgo:∀ t0:List Itm,t0.length≤1→t0++cyc xs m=CK (szP s).1 xs→(∀ x∈CK (szP s).1 xs,okI x)→m+cIs (cyc xs m)≤cA (.mk s (CK (szP s).1 xs)) →
   Co xs (fun z8=>jn (fun z19 z20 z21 z22=>(Bs (Arr.mk z21 z22)).bind fun x35=>if x35=true then some (Arr.mk z21 z22,0) else some (Arr.mk [] [],8)) fun K6=>Cq xs (szP s) z8 K6 As (Arr.mk [] []) 0 0 0 s t0) As [] 0=some (if Bk (.mk s (CK (szP s).1 xs)) then (.mk s (CK (szP s).1 xs),0) else (.mk [] [],8)):=by
  intro t0 ht0 he hok hca
  have e2:=SN hxr hxl (fun z8=>jn (fun z19 z20 z21 z22=>(Bs (Arr.mk z21 z22)).bind fun x35=>if x35=true then some (Arr.mk z21 z22,0) else some (Arr.mk [] [],8)) fun K6=>Cq xs (szP s) z8 K6 As (Arr.mk [] []) 0 0 0 s t0) xs.length 0 As [] rfl (Nat.zero_le _) (AY (by omega)) rfl
  rw [show ((0:Nat):Int)=0 from rfl] at e2
  rw [e2,List.nil_append,List.drop_zero]
  show jn _ _=_
  rw [Bp]
  have e7:=SX hxr hn hxl (show m≤4096 by omega) (szP s) hm (fun z19 z20 z21 z22=>(Bs (Arr.mk z21 z22)).bind fun x35=>if x35=true then some (Arr.mk z21 z22,0) else some (Arr.mk [] [],8)) (Arr.mk [] []) 0 s t0 ht0 m 0 As rfl (Nat.zero_le _) (AY (by omega)) (by show 0+0≤_;omega)
  rw [show cyc xs 0=[] from rfl,List.append_nil,show ((0:Nat):Int)=0 from rfl] at e7
  rw [show (((0+cIs []:Nat)):Int)=0 from rfl] at e7
  rw [e7,he]
  have hit:(CK (szP s).1 xs).length≤1466015503701:=by
   rw [← he,List.length_append,Ic];omega
  have ho:okAr (.mk s (CK (szP s).1 xs)):=by
   rw [BW];exact ⟨hs,hl,hit,hok⟩
  rw [Hv ho]
  by_cases hR:Bk (.mk s (CK (szP s).1 xs))
  ·rw [if_pos (nT hca hR.2.2),if_pos hR,dT hR];rfl
  ·rw [if_neg hR,dF hR];split<;>rfl
 by_cases hz:(szP s).1=0
 ·have hm0:m=0:=by omega
  subst hm0
  obtain ⟨y,ys,rfl⟩:=List.exists_cons_of_ne_nil hn
  have hmk:CK (szP s).1 (y::ys)=[tyI y]:=by unfold CK;rw [if_pos hz];rfl
  obtain ⟨o,r⟩:=hxr y (by simp)
  rw [if_pos hz,MV,oB,Rd o r.1,oB]
  show jn _ _=_
  rw [Bp]
  refine hgo [tyI y] (by simp) (by rw [hmk];rfl) ?_ ?_
  ·rw [hmk];intro x hx';rw [List.mem_singleton] at hx';subst hx';exact (So o r.1).2.2.2.2.2
  ·show 0+0≤_;omega
 ·have hmk:CK (szP s).1 xs=cyc xs m:=by unfold CK;rw [if_neg hz,hm];rfl
  rw [if_neg hz]
  show jn _ _=_
  rw [Bp]
  refine hgo [] (by simp) (by rw [hmk];rfl) ?_ ?_
  ·rw [hmk];intro x hx';exact hx x (XE hn hx')
  ·rw [hmk,Jm,D3,Ic];omega
def Ev (z:Int) : Prop:=-9223372036854775808≤z∧z≤9223372036854775807
def BH (z:Int) : Itm:=.mk 1 (ofQ (z:Rat)) 0 []
theorem ES {z:Int} (h:Ev z) : Kt (z:Rat):=Wm h.1 (by have:=h.2;omega)
theorem Qa {z:Int} (h:Ev z) : okI (BH z):=To (FU (ES h))
theorem GA {z:Int} (h:Ev z) : rI (BH z)=true:=VO (Gu (ES h))
theorem Hq : Ev 0:=by unfold Ev;omega
theorem Qg {z:Int} (h:Ev z) {β:Type} (f:Itm→Option β) : ((D5 z).bind fun q=>(Cm q).bind f)=f (BH z):=by
 rw [TC h.1 h.2,oB,L6 (FU (ES h)),oB];rfl
theorem Md : ∀ {l:List Int},(∀ z∈l,Ev z)→GB l=some (l.map BH)
 | [],_=>rfl
 | z::zs,h=>by
  rw [GB,Qg (h z (by simp)),Md fun y hy=>h y (by simp [hy]),oB];rfl
theorem OU {l:List Int} (h:∀ z∈l,Ev z) (hl:l.length≤9223372036854775806) : GF l=some (Hd (BH 0) (l.map BH)):=by
 unfold GF
 rw [if_pos hl,Md h,oB,Qg Hq]
theorem Zq {z:Int} (h:Ev z) : Gt z=some (.mk [] [BH z]):=by
 unfold Gt;rw [Qg h];rfl
theorem Jt {n:Nat} (h:n≤4096) : szP [(n:Int)]=((n:Int),0):=by
 unfold szP G5
 simp only [List.length_cons,List.length_nil,List.any_cons,List.any_nil,Bool.or_false,decide_eq_true_eq,List.foldl_cons,List.foldl_nil,List.mem_singleton,Int.one_mul]
 rw [if_neg (by omega),if_neg (by omega),if_neg (by omega)]
 by_cases h0:(0:Int)=n
 ·rw [if_pos h0,← h0]
 ·rw [if_neg h0,if_pos (by omega)]
theorem KV : szP []=(1,0):=rfl
theorem M7 {s:List Int} {i:List Itm} {n:Int} (hs:szP s=(n,0)) (hl:(i.length:Int)=if n<1 then 1 else n) (hi:∀ x∈i,rI x=true∧x.box=[]) : Bk (.mk s i)∧cA (.mk s i)=i.length∧dA (.mk s i)=if Bf (.mk s i) then 0 else 1:=by
 have hn:=P3 s
 rw [hs] at hn
 have hc:cIs i=0:=by
  clear hl
  induction i with
  | nil=>rfl
  | cons x xs ih=>rw [cIs,QT,(hi x (by simp)).2,ih fun y hy=>hi y (by simp [hy])];rfl
 have hd:dIs i=0:=by
  clear hl hc
  induction i with
  | nil=>rfl
  | cons x xs ih=>rw [dIs,Tn,(hi x (by simp)).2,ih fun y hy=>hi y (by simp [hy])];rfl
 have hcA:cA (.mk s i)=i.length:=by rw [Jm,D3,hc];rfl
 have hdA:dA (.mk s i)=if Bf (.mk s i) then 0 else 1:=by rw [IM,D3,hd]
 refine ⟨⟨?_,?_,?_⟩,hcA,hdA⟩
 ·rw [JN,Ff,D3,hs,hl,dT rfl,dT rfl,FD.2 fun x hx=>(hi x hx).1];rfl
 ·rw [hdA];split<;>omega
 ·rw [hcA];have:(i.length:Int)≤4096:=by rw [hl];split<;>omega
  omega
theorem LN {p:Itm} {xs:List Itm} (hp:rI p=true∧p.box=[]) (hx:∀ x∈xs,rI x=true∧x.box=[]) : Bk (Hd p xs)∧(okI p→(∀ x∈xs,okI x)→okAr (Hd p xs))∧szP (Hd p xs).shape=(((min xs.length 4096:Nat) : Int),0):=by
 have hs:szP [((min xs.length 4096:Nat):Int)]=(((min xs.length 4096:Nat):Int),0):=Jt (Nat.min_le_right _ _)
 have hmem:∀ {P:Itm→Prop},P p→(∀ x∈xs,P x)→∀ x∈(if xs.length=0 then [p] else xs.take 4096),P x:=by
  intro P h1 h2 x hx
  split at hx
  ·rw [List.mem_singleton] at hx;rw [hx];exact h1
  ·exact h2 x (List.mem_of_mem_take hx)
 have hlen:((if xs.length=0 then [p] else xs.take 4096).length:Int)=if ((min xs.length 4096:Nat):Int)<1 then 1 else ((min xs.length 4096:Nat):Int):=by
  split
  ·rename_i h0;rw [h0];rfl
  ·rename_i h0
   rw [if_neg (by omega),List.length_take];omega
 refine ⟨(M7 hs hlen (hmem hp hx)).1,fun h1 h2=>?_,hs⟩
 unfold Hd
 rw [BW,Ff,D3]
 refine ⟨?_,by simp,?_,hmem h1 h2⟩
 ·intro z hz;rw [List.mem_singleton] at hz;subst hz;omega
 ·have:((if xs.length=0 then [p] else xs.take 4096).length:Int)≤4096:=by rw [hlen];split<;>omega
  omega
theorem Tm {l:List Int} (h:∀ z∈l,Ev z) : ∀ x∈l.map BH,rI x=true∧x.box=[]:=fun x hx=>by
 obtain ⟨z,hz,rfl⟩:=List.mem_map.1 hx
 exact ⟨GA (h z hz),rfl⟩
theorem X0 {l:List Int} (h:∀ z∈l,Ev z) : ∀ x∈l.map BH,okI x:=fun x hx=>by
 obtain ⟨z,hz,rfl⟩:=List.mem_map.1 hx
 exact Qa (h z hz)
def GR (l:List Int) : Arr:=Hd (BH 0) (l.map BH)
theorem Nq {l:List Int} (h:∀ z∈l,Ev z) : Bk (GR l):=(LN ⟨GA Hq,rfl⟩ (Tm h)).1
theorem P8 {l:List Int} (h:∀ z∈l,Ev z) : okAr (GR l):=(LN ⟨GA Hq,rfl⟩ (Tm h)).2.1 (Qa Hq) (X0 h)
theorem Sx {l:List Int} (h:∀ z∈l,Ev z) : B9 (GR l)=some ((l.take 4096).map BH):=by
 obtain ⟨h1,h2,h3⟩:=LN ⟨GA Hq,rfl⟩ (Tm h)
 rw [Ku (P8 h)]
 show some (if (szP (Hd (BH 0) (l.map BH)).shape).1=0∨¬Bk (GR l) then [] else (GR l).items)=_
 rw [h3]
 cases l with
 | nil=>rw [if_pos (.inl rfl)];rfl
 | cons z zs =>
  rw [if_neg]
  ·unfold GR Hd;rw [D3,if_neg (by simp),List.map_take]
  ·rintro (q|q)
   ·simp only [List.length_map,List.length_cons] at q;omega
   ·exact q (Nq h)
theorem J7 {z:Int} (h:Ev z) : FX (ofQ (z:Rat))=some (z,true):=by
 unfold FX
 have e:(ofQ (z:Rat)).2.1=Ai z.natAbs:=rfl
 have e1:(ofQ (z:Rat)).1=decide (z<0):=rfl
 have hw:okL 1048576 (Ai z.natAbs)=true:=HI (nT (show (Ai z.natAbs).length≤32 from (ES h).1) (by decide))
 have hb:BQ z.natAbs≤64:=ER.2 (by have:=h.1;have:=h.2;omega)
 rw [PJ (ES h),oB,if_pos (dT (Rat.den_intCast z)),e,e1,AQ,if_pos (by rw [hw,dT rfl];rfl),if_pos hb]
 unfold NX
 obtain ⟨h1,h2⟩:=h
 by_cases hz:z<0
 ·rw [if_pos (dT hz),if_pos (by omega)]
  congr 2;omega
 ·rw [if_neg (by rw [dF hz];decide),if_pos (by omega)]
  congr 2;omega
theorem OW : ∀ {l:List Int} {s:List Int},(∀ z∈l,Ev z)→s.length+l.length≤17592186044416→UM P1 (l.map BH) s=some (true,s++l)
 | [],s,_,_=>by simp [UM]
 | z::zs,s,h,hl=>by
  rw [List.map_cons,UM]
  unfold P1
  have e:(BH z).num=ofQ (z:Rat):=rfl
  rw [e,J7 (h z (by simp)),oB,IH (by simp at hl ⊢;omega),oB,oB]
  have hk:(true&&decide ((BH z).kind=1))=true:=rfl
  rw [hk,if_pos rfl]
  have:=OW (l:=zs) (s:=s++[z]) (fun y hy=>h y (by simp [hy])) (by simp at hl ⊢;omega)
  unfold P1 at this
  rw [this,List.append_assoc];rfl
theorem KM {x:Itm} (h:rI x=true) (hb:x.box=[]) (hk:x.kind≠3) : Bk (.mk [] [x])∧Bf (.mk [] [x])=true:=by
 refine ⟨(M7 KV rfl fun y hy=>by rw [List.mem_singleton] at hy;subst hy;exact ⟨h,hb⟩).1,?_⟩
 unfold Bf;simp [Ff,D3,hk]
theorem V1 {x:Itm} (h:okI x) : okAr (.mk [] [x]):=by
 rw [BW,Ff,D3]
 exact ⟨nofun,by simp,by simp,fun y hy=>by rw [List.mem_singleton] at hy;rw [hy];exact h⟩
theorem Wa (xs:List Itm) : cyc xs xs.length=xs:=by
 apply List.ext_getElem?
 intro i
 by_cases h2:i<xs.length
 ·unfold cyc
  rw [List.getElem?_map,List.getElem?_range h2,Option.map_some,Nat.mod_eq_of_lt h2,lD,lG h2];rfl
 ·rw [List.getElem?_eq_none (by rw [Ic];omega),List.getElem?_eq_none (by omega)]
theorem Ih {xs:List Itm} {n:Nat} (h:xs.length=n) (h0:n≠0) : CK ((n:Nat) : Int) xs=xs:=by
 unfold CK
 rw [if_neg (by omega),Int.toNat_natCast,← h]
 exact Wa xs
theorem FQ {a:Arr} (oa:okAr a) (h:Bk a) {x:Itm} (hx:x∈a.items) : okI x∧Br x:=by
 have o:=(BW a).1 oa
 obtain ⟨h1,h2,h3⟩:=h
 have hr:=(Lm h1).2.2
 refine ⟨o.2.2.2 x hx,hr x hx,?_,?_⟩
 ·have hd:∀ {xs:List Itm},x∈xs→dI x≤dIs xs:=by
   intro xs
   induction xs with
   | nil=>intro h;cases h
   | cons y ys ih =>
    intro h
    rw [dIs]
    rcases List.mem_cons.1 h with rfl|h
    ·omega
    ·have:=ih h;omega
  have hdx:=hd hx
  rw [IM] at h2
  by_cases hs:Bf a=true
  ·have:=(RQ hs (FD.2 hr)).1
   omega
  ·rw [if_neg hs] at h2;omega
 ·have hc:∀ {xs:List Itm},x∈xs→cI x≤cIs xs:=by
   intro xs
   induction xs with
   | nil=>intro h;cases h
   | cons y ys ih =>
    intro h
    rw [cIs]
    rcases List.mem_cons.1 h with rfl|h
    ·omega
    ·have:=ih h;omega
  have hcx:=hc hx
  rw [Jm] at h3
  omega
theorem Wg {a:Arr} (h:Bk a) : ∃ n : Nat,szP a.shape=((n:Int),0)∧a.items.length=if n=0 then 1 else n:=by
 obtain ⟨h1,h2,_⟩:=Lm h.1
 have:=P3 a.shape
 refine ⟨(szP a.shape).1.toNat,?_,?_⟩
 ·rw [← h1,Int.toNat_of_nonneg this.1]
 ·split at h2<;>split<;>omega
theorem JB {a:Arr} (h:Bk a) : 0<a.items.length:=by
 obtain ⟨n,_,hl⟩:=Wg h
 rw [hl];split<;>omega
def Th (x:Itm) : Arr:=if x.kind=3 then x.box.headD default else .mk [] [x]
theorem XK {x:Itm} (h:rI x=true) (k:x.kind≠3) : x.box=[]:=by
 rcases Fc h with ⟨_,_,_,q⟩|⟨_,_,_,q⟩|⟨q,_⟩
 ·exact q
 ·exact q
 ·exact absurd q k
theorem LY {x:Itm} (hx:okI x∧Br x) : DC x=some (Th x)∧okAr (Th x)∧Bk (Th x):=by
 refine ⟨Xk hx.1 hx.2,?_⟩
 unfold Th
 by_cases k:x.kind=3
 ·rw [if_pos k]
  rcases Fc hx.2.1 with ⟨q,_⟩|⟨q,_⟩|⟨_,_,_,b,hb,_⟩
  ·omega
  ·omega
  ·obtain ⟨ob,rb,_⟩:=Ju hx.1 hx.2 b (by simp [hb])
   rw [hb];exact ⟨ob,rb⟩
 ·rw [if_neg k]
  exact ⟨V1 hx.1,(KM hx.2.1 (XK hx.2.1 k) k).1⟩
theorem ZQ (a:Arr) : a.size=itsSize a.items+1:=by cases a;simp only [Arr.size,Arr.items]
end Go.FL
namespace Go.FL
open Go Go.RowKit
def FnN (P:Program) (f:FuncId) (args:List DV) (r:AV) : Prop :=
 ∀ (w:World) (I:Nat→Prop) (vs:List Value),(∀ b,I b→b<w.heap.size)→RepAll w I args vs →
  CallsIn (om none) 0 P f (Value.slice none 0 0::vs).toArray w fun e w'=>∃ v I' bs,e=.returned v∧Below w.heap.size w w'∧(∀ b,I b→I' b) ∧
   (∀ b,I' b→b<w'.heap.size∧(b<w.heap.size→I b))∧ARep P w' I' [] r v bs∧bs.Nodup∧∀ b∈bs,w.heap.size≤b∧b<w'.heap.size∧¬I' b
section
variable {P:Program} {H:Ac}
theorem FnR.ofFnN {f:FuncId} {xs:List DV} {r:AV} (h:FnN P f xs r) : FnR P f (.nl::xs.map .d) H fun r' H'=>r'=r∧H'=H:=by
 intro X w I μ O vs0 e1 e2 e3 e4 e5 hm ha
 have hR:∀ {xs:List DV} {vs:List Value},ARepAll P w I μ (xs.map AV.d) vs []→RepAll w I xs vs:=by
  intro xs
  induction xs with
  | nil=>intro vs h;cases h;exact .nil
  | cons x xs ih =>
   intro vs h
   generalize hbs:([]:List Nat)=bs at h
   cases h with
   | cons h t =>
    have:=hbs.symm
    rw [List.append_eq_nil_iff] at this
    rw [this.2] at t
    cases h with
    | d h=>exact .cons h (ih t)
 obtain ⟨vs,rfl,ha2⟩:∃ vs,vs0=Value.slice none 0 0::vs∧ARepAll P w I μ (xs.map AV.d) vs []:=by
  generalize hbs:([]:List Nat)=bs at ha
  cases ha with
  | cons h t =>
   have:=hbs.symm
   rw [List.append_eq_nil_iff] at this
   obtain ⟨t1,t2⟩:=this
   subst t2
   cases h
   exact ⟨_,rfl,t⟩
 refine (h w I vs hm.ilt (hR ha2)).mono ?_
 rintro e w' ⟨v,I',bs,rfl,q1,q2,q3,q4,q5,q6⟩
 let a:Act:={tmps:=#[],defers:=[]}
 have hs:Sim P {X with nt:=(0,0),dfs:=[],args:=[]} [] H a w I μ O:=⟨hm.cast rfl rfl rfl rfl rfl rfl,fun t=>.un,rfl,rfl,fun t ht=>absurd ht (by simp)⟩
 have s1:=(hs.called q1 q2 q3).newR bs fun b hb=>by
  obtain ⟨h1,h2,h3⟩:=q6 b hb
  refine ⟨h2,.inl ?_,h3,fun hk=>by have:=hs.klt b hk;have:=hs.size;omega⟩
  cases hO:O b with
  | none=>rfl
  | some l=>have:=(hs.own b l hO).1;omega
 refine ⟨v,I',μ,_,H,r,bs,rfl,(s1.toMem.relabel (toT 0) fun _=>rfl).cast rfl rfl rfl rfl rfl rfl,q4.keep (fun _ h=>h) (fun _ _=>rfl) (fun i b h=>by simp at h) fun _ _=>rfl,q5,fun b hb=>⟨0,by simp [hb,toT]⟩,rfl,rfl⟩
def Te (P:Program) (f:FuncId) (e:TypeId) (M:Nat) : Prop:=∀ (n:Nat) (w:World),n≤M →
 Calls P f #[.slice none 0 0,.int .i64 n] w fun x w'=>(x=.returned (.slice none 0 0)∧w'=w) ∨
  (∃ (cap:Nat) (cells:Array Value),0<cap∧cap≤maxLen∧cells.size=cap * AB P e∧x=.returned (.slice (some ⟨w.heap.size,0,none⟩) 0 cap)∧w'=w.drew.alloc (.cells cells e))
theorem FnN.grow {f e M:Nat} (hsz:0<AB P e) (h:Te P f e M) {n:Nat} (hn:n≤M) : FnN P f [.i .i64 n] (.own e []):=by
 intro w I vs hI ha
 have hvs:vs=[.int .i64 n]:=by
  cases ha with
  | cons h1 ha=>cases ha;cases h1;rfl
 subst hvs
 rw [WI]
 refine callsIn_wide.2 ((h n w hn).mono fun x w' hx=>?_)
 rcases hx with ⟨rfl,rfl⟩|⟨cap,cells,h0,hm,hc,rfl,rfl⟩
 ·refine ⟨_,I,[],rfl,Below.refl _ _,fun _ h=>h,fun b hb=>⟨hI b hb,fun _=>hb⟩,?_,nN,nofun⟩
  exact .own e [] (.slice none 0 0) [] hsz (.inl ⟨none,rfl,rfl,rfl⟩) (.nil _)
 ·have hlt:w.heap.size<(w.drew.alloc (.cells cells e)).heap.size:=(Array.getElem?_eq_some_iff.1 (heap_alloc_new w.drew (.cells cells e))).1
  have ho:OwnR (w.drew.alloc (.cells cells e)) e (AB P e) (.slice (some ⟨w.heap.size,0,none⟩) 0 cap) 0 []:=by
   refine .inr ⟨⟨by simp,.inr ⟨w.heap.size,cap,cells,rfl,Nat.zero_le _,heap_alloc_new w.drew _,Nat.zero_le _,hm,hc,by simp⟩⟩,w.heap.size,cap,rfl,h0⟩
  refine ⟨_,I,[w.heap.size],rfl,?_,fun _ h=>h,fun b hb=>⟨Nat.lt_trans (hI b hb) hlt,fun _=>hb⟩,?_,by simp,fun b hb=>?_⟩
  ·exact ((Below.refl _ w).drew).alloc (Nat.le_refl _) _
  ·have:[w.heap.size]=BG (.slice (some ⟨w.heap.size,0,none⟩) 0 cap):=by simp [BG,Nat.pos_iff_ne_zero.1 h0]
   rw [this]
   exact .own e [] _ [] hsz ho (.nil _)
  ·rw [List.mem_singleton] at hb
   subst hb
   exact ⟨Nat.le_refl _,hlt,fun hi=>by have:=hI _ hi;omega⟩
theorem Xb {f e M:Nat} (hsz:0<AB P e) (h:Te P f e M) {z:Int} (hz:0≤z∧z≤(M:Int)) : FnR P f [.nl,.d (.i .i64 z)] H fun r' H'=>r'=.own e []∧H'=H:=by
 obtain ⟨n,rfl⟩:∃ n:Nat,z=(n:Int):=⟨z.toNat,by omega⟩
 exact FnR.ofFnN (xs:=[.i .i64 (n:Int)]) (FnN.grow hsz h (by omega))
end
section
variable {P:Program} {C:Cx} {o:Oper} {ops:Array Oper} {Q:Exit→Env→Ac→Prop} {env:Env} {H:Ac} {k:Nat} {l:List Oper}
theorem Ur {α:Type} {F:List α→List DV} {D:α→DV} (hset:∀ xs n x,(F xs).set n (D x)=F (xs.set n x)) {us:List α} {n m:Nat} {x:α} {y:Operand} {r ty e:Nat} {p:Pl} (hm:m=n) (hx:∃ z,(F us)[0+n]?=some z∧z.leaf=true)
  (h:RL P C ops Q (k+1) l (Hk p (.own e (F (us.set m x))) env) (Io p (.own e (F (us.set m x))) H)) (hsz:AB P ty=1)
  (hg:grd ops env o true=true:=by rfl) (ho:o.op=.store ty (.tmp r) y:=by rfl) (hv:get env r=.ep p (0+n) 0:=by rfl) (hp:AI env H p=.own e (F us):=by rfl) (hy:lk env y=.d (D x):=by rfl) (h1:(D x).leaf=true:=by rfl) (hd:o.dst=none:=by rfl)
  (hn:∀ id off,p=.c id off→C.n0≤id:=by (intro _ _ h;cases h<;>decide)):RL P C ops Q k (o::l) env H:=by
 subst hm
 exact ste hx (by rw [Nat.zero_add,hset];exact h) hsz hg ho hv hp hy h1 hd hn
end
end Go.FL
namespace Go.FL
open Go Go.RowKit
section
variable {P:Program} {C:Cx} {X:Snap} {o:Oper} {ops:Array Oper} {Q:Exit→Env→Ac→Prop} {env env':Env} {H H':Ac} {a:Act} {w w':World} {I I':Nat→Prop} {μ μ':List Nat} {O O':Nat→Option Loc}
 {K:Env→Ac→Prop} {k:Nat} {l:List Oper}
theorem Aah {ty:Nat} (ho:o.op=.makeMap ty none:=by rfl) : VOK P C o env H (.om [] []) :=
 .val (by simp [ho]) fun X a w I μ O _ _ _ hs =>
  ⟨.map (some w.heap.size),w.alloc (.map #[] 0),I,[w.heap.size],by simp [execOp,ho,Instr.makeMap,newObj,Sem.run],Bn _,fun b hi=>hi,fun b hi=>⟨nL (hs.ilt b hi) (Bn _).size,fun _=>hi⟩,
   ARep.om [] [] [] [] w.heap.size #[] 0 (heap_alloc_new w _) .nil .nil (List.Perm.refl _) rfl,by simp,fun b hb=>by
    simp at hb;subst hb
    exact ⟨Nat.le_refl _,by simp,fun hi=>by have:=hs.ilt _ hi;omega⟩⟩
def freshK (q:IntKind) (z:Int) (ks:List DV) : Prop:=∀ k∈ks,∃ z',k=.i q z'∧z'≠z
theorem SS {α β:Type} : ∀ {ks:List α} {vs:List β} {x:α},ks.length=vs.length→x∈ks→∃ v,(x,v)∈ks.zip vs
 | k::ks,v::vs,x,hl,h=>by
  rcases List.mem_cons.1 h with rfl|h
  ·exact ⟨v,by simp⟩
  ·obtain ⟨u,hu⟩:=SS (ks:=ks) (vs:=vs) (by simpa using hl) h
   exact ⟨u,by simp [hu]⟩
theorem Lh {q:IntKind} {z:Int} {ty:TypeDesc} (hty:ty=.int q) : ∀ {es:List MapEntry} {ks:List DV} (n:Nat),RepAll w I ks (es.map MapEntry.key)→freshK q z ks→Instr.findNow ty (.int q z) es n=some none
 | [],_,n,_,_=>rfl
 | e::es,ks,n,hk,hf=>by
  subst hty
  cases hk with
  | @cons c _ cs _ h t =>
   obtain ⟨z',rfl,hz⟩:=hf c (by simp)
   have he:e.key=.int q z':=by
    generalize e.key=u at h
    cases h;rfl
   have hs:Instr.sameNow (.int q) (.int q z) e.key=some false:=by
    rw [he];simp [Instr.sameNow];exact fun h=>hz h.symm
   simp only [Instr.findNow,hs]
   exact Lh rfl (n+1) t fun k hk=>hf k (by simp [hk])
theorem O0 {q:IntKind} {z:Int} {ty:TypeDesc} (hty:ty=.int q) {d:DV} : ∀ {es:List MapEntry} {ks vs:List DV} (n:Nat),RepAll w I ks (es.map MapEntry.key)→RepAll w I vs (es.map MapEntry.val) →
  (∀ k∈ks,∃ z',k=.i q z')→(.i q z,d)∈ks.zip vs→(∀ d',(.i q z,d')∈ks.zip vs→d'=d)→∃ i v,Instr.findNow ty (.int q z) es n=some (some (i,v))∧Rep w I d v
 | [],_,_,n,hk,_,_,hm,_=>by cases hk;simp at hm
 | e::es,ks,vs,n,hk,hv,hi,hm,hu=>by
  subst hty
  cases hk with
  | @cons c _ cs _ h t =>
   cases hv with
   | @cons c2 _ cs2 _ h2 t2 =>
    obtain ⟨z',rfl⟩:=hi c (by simp)
    have he:e.key=.int q z':=by
     generalize e.key=u at h
     cases h;rfl
    by_cases hz:z=z'
    ·subst hz
     have hs:Instr.sameNow (.int q) (.int q z) e.key=some true:=by rw [he];simp [Instr.sameNow]
     refine ⟨n,e.val,by simp only [Instr.findNow,hs],?_⟩
     have:=hu c2 (by simp)
     subst this;exact h2
    ·have hs:Instr.sameNow (.int q) (.int q z) e.key=some false:=by rw [he];simp [Instr.sameNow];exact hz
     simp only [Instr.findNow,hs]
     refine O0 rfl (n+1) t t2 (fun k hk=>hi k (by simp [hk])) ?_ (fun d' hd=>hu d' (by simp [hd]))
     simp only [List.zip_cons_cons,List.mem_cons,Prod.mk.injEq,DV.i.injEq,true_and] at hm
     rcases hm with ⟨h3,_⟩|hm
     ·exact absurd h3 hz
     ·exact hm
theorem Lg {kt:TypeId} {q:IntKind} {z:Int} (hk:P.underlying kt=some (.int q)) (b:Bool) (n:Nat) : (Instr.checkKey b (n+1) kt (.int q z)).run P w=.ok () w:=by
 unfold Instr.checkKey
 simp [run_underlying hk]
theorem IJ {kt:TypeId} {q:IntKind} {z:Int} {es:List MapEntry} {r:Option (Nat×Value)} (hk:P.underlying kt=some (.int q)) (hf:Instr.findNow (.int q) (.int q z) es 0=some r) : (Instr.findKey kt (.int q z) es).run P w=.ok r w:=by
 simp [Instr.findKey,run_underlying hk,hf]
theorem PO {r:Nat} {es:Array MapEntry} {c:Nat} (hh:w.heap[r]?=some (.map es c)) : (getObj r).run P w=.ok (.map es c) w:=by
 simp [getObj,Sem.run,hh]
theorem SD {ty kt et:TypeId} {q:IntKind} {r:Nat} {es:Array MapEntry} {clock:Nat} {z:Int} {v:Value} (hu:P.underlying ty=some (.map kt et)) (hk:P.underlying kt=some (.int q)) (hh:w.heap[r]?=some (.map es clock)) (hf:Instr.findNow (.int q) (.int q z) es.toList 0=some none) :
  (Instr.mapUpdate ty (.map (some r)) (.int q z) v).run P w=.ok () {w with heap:=w.heap.setIfInBounds r (.map (es.push {key:=.int q z,val:=v,born:=clock}) (clock+1))}:=by
 have h1:=Lg (w:=w) (z:=z) hk false 9999
 have h2:=IJ (w:=w) (z:=z) hk hf
 have h3:=PO (P:=P) hh
 unfold Instr.mapUpdate
 simp only [run_underlying hu,Sem.run_bind,Result.andThen_ok,h1,h2,h3]
 simp [setObj,Sem.run,hh]
theorem Nt {ty kt et:TypeId} {q:IntKind} {r:Nat} {es:Array MapEntry} {clock:Nat} {z:Int} {i:Nat} {v:Value} (hu:P.underlying ty=some (.map kt et)) (hk:P.underlying kt=some (.int q)) (hh:w.heap[r]?=some (.map es clock)) (hf:Instr.findNow (.int q) (.int q z) es.toList 0=some (some (i,v))) :
  (Instr.lookup ty (.map (some r)) (.int q z) false).run P w=.ok v w:=by
 have h1:=Lg (w:=w) (z:=z) hk es.isEmpty 9999
 have h2:=IJ (w:=w) (z:=z) hk hf
 have h3:=PO (P:=P) hh
 unfold Instr.lookup
 simp only [run_underlying hu,Sem.run_bind,Sem.run_pure,Result.andThen_ok,h1,h2,h3]
 rfl
theorem Mi {ty kt et:TypeId} {q:IntKind} {r:Nat} {es:Array MapEntry} {clock:Nat} {z:Int} {v:Value} (hu:P.underlying ty=some (.map kt et)) (hk:P.underlying kt=some (.int q)) (hz:(zeroValue et).run P w=.ok v w) (hh:w.heap[r]?=some (.map es clock)) (hf:Instr.findNow (.int q) (.int q z) es.toList 0=some none) :
  (Instr.lookup ty (.map (some r)) (.int q z) false).run P w=.ok v w:=by
 have h1:=Lg (w:=w) (z:=z) hk es.isEmpty 9999
 have h2:=IJ (w:=w) (z:=z) hk hf
 have h3:=PO (P:=P) hh
 unfold Instr.lookup
 simp only [run_underlying hu,Sem.run_bind,Sem.run_pure,Result.andThen_ok,h1,h2,h3,hz]
 rfl
theorem LO {ks vs ks' vs':List DV} (hp:(ks'.zip vs').Perm (ks.zip vs)) (hl:ks'.length=vs'.length) {k:DV} (h:k∈ks') : k∈ks:=by
 obtain ⟨v,hv⟩:=SS hl h
 exact (List.of_mem_zip (hp.mem_iff.1 hv)).1
theorem Sim.om_inv (hs:Sim P X env H a w I μ O) {t:Nat} {ks vs:List DV} (hg:get env t=.om ks vs) :
  ∃ blk es c ks' vs',a.tmps.getD t undef=.map (some blk)∧w.heap[blk]?=some (.map es c)∧RepAll w I ks' (es.toList.map MapEntry.key)∧RepAll w I vs' (es.toList.map MapEntry.val)∧(ks'.zip vs').Perm (ks.zip vs)∧ks.length=vs.length∧O blk=some (.t t):=by
 have:=hs.envr t
 rw [hg] at this
 obtain ⟨bs,h1,h2,h3⟩:=this.plain rfl
 generalize a.tmps.getD t undef=v at h1
 cases h1 with
 | om _ _ ks' vs' blk es c hh hk hv hp hl=>exact ⟨blk,es,c,ks',vs',rfl,hh,hk,hv,hp,hl,h3 blk (by simp)⟩
theorem Sim.ins (hs:Sim P X env H a w I μ O) {t:Nat} {ks vs:List DV} (hg:get env t=.om ks vs) {ty kt et:TypeId} {q:IntKind} {z:Int} {d:DV} {v:Value} (hu:P.underlying ty=some (.map kt et)) (hk:P.underlying kt=some (.int q)) (hf:freshK q z ks) (hv:Rep w I d v) :
  ∃ w',(Instr.mapUpdate ty (a.tmps.getD t undef) (.int q z) v).run P w=.ok () w'∧Sim P X ((t,.om (ks++[.i q z]) (vs++[d]))::env) H a w' I μ O:=by
 obtain ⟨blk,es,c,ks',vs',h1,h2,h3,h4,h5,h6,hO⟩:=hs.om_inv hg
 have hl':ks'.length=vs'.length:=by rw [h3.length,h4.length,List.length_map,List.length_map]
 have hfn:=Lh (q:=q) (z:=z) rfl 0 h3 fun k hk=>hf k (LO h5 hl' hk)
 have hlt:blk<w.heap.size:=(hs.own blk _ hO).1
 refine ⟨{w with heap:=w.heap.setIfInBounds blk (.map (es.push {key:=.int q z,val:=v,born:=c}) (c+1))},by rw [h1];exact SD hu hk h2 hfn,?_⟩
 have hoth:∀ b,b≠blk→(w.heap.setIfInBounds blk (.map (es.push {key:=.int q z,val:=v,born:=c}) (c+1)))[b]?=w.heap[b]?:=fun b hb=>by
  rw [Array.getElem?_setIfInBounds,if_neg (Ne.symm hb)]
 obtain ⟨n1,_,_⟩:=hs.other_blk hO
 refine hs.blkSet (w':={w with heap:=w.heap.setIfInBounds blk (.map (es.push {key:=.int q z,val:=v,born:=c}) (c+1))}) (av:=.om (ks++[.i q z]) (vs++[d])) hO (by rw [hg];rfl) rfl hoth (by simp) rfl rfl rfl ?_
 rw [h1]
 have hI:∀ b,I b→(w.heap.setIfInBounds blk (.map (es.push {key:=.int q z,val:=v,born:=c}) (c+1)))[b]?=w.heap[b]?:=fun b hi=>hoth b (n1 b hi)
 refine .om _ _ (ks'++[.i q z]) (vs'++[d]) blk (es.push {key:=.int q z,val:=v,born:=c}) (c+1) ?_ ?_ ?_ ?_ (by simp [h6])
 ·show (w.heap.setIfInBounds blk _)[blk]?=_
  rw [Array.getElem?_setIfInBounds,if_pos rfl,if_pos hlt]
 ·rw [Array.toList_push,List.map_append]
  exact (h3.keep hI fun _ h=>h).append (.cons (.i _ _) .nil)
 ·rw [Array.toList_push,List.map_append]
  exact (h4.keep hI fun _ h=>h).append (.cons (hv.keep hI fun _ h=>h) .nil)
 ·rw [List.zip_append hl',List.zip_append h6]
  exact List.Perm.append h5 (List.Perm.refl _)
theorem ZI {m:Nat} {x y:Operand} {ty kt et:TypeId} {q:IntKind} {z:Int} {ks vs:List DV} {d:DV} (hu:P.underlying ty=some (.map kt et)) (hk:P.underlying kt=some (.int q)) (hf:freshK q z ks) (h:RL P C ops Q (k+1) l ((m,.om (ks++[.i q z]) (vs++[d]))::env) H) (hg:grd ops env o true=true:=by rfl)
  (ho:o.op=.insert ty (.tmp m) x y:=by rfl) (hm:get env m=.om ks vs:=by rfl) (hx:Bh (lk env x)=some (.i q z):=by rfl) (hy:Bh (lk env y)=some d:=by rfl) (hd:o.dst=none:=by rfl):RL P C ops Q k (o::l) env H:=by
 refine .go hg (.done (by simp [ho]) hd (fun X a w I μ O _ _ _ hs=>?_) h)
 have h1:=hs.deep (x:=x) hx
 have h2:=hs.deep (x:=y) hy
 generalize hev:a.eval x=u at h1
 cases h1
 obtain ⟨w',r1,r2⟩:=hs.ins hm hu hk hf h2
 have he:a.eval (.tmp m)=a.tmps.getD m undef:=rfl
 exact ⟨w',I,μ,O,by simp only [execOp,ho,hev,he,r1,Sem.run_bind,Result.andThen_ok,Sem.run_pure],r2⟩
theorem Gh.omf {t:Nat} {ks vs:List DV} (hg:get env t=.om ks vs) : Gh P C env H ((t,.d (.mp ks vs))::env) H:=fun X a w I μ O _ _ _ hs=>by
 obtain ⟨blk,es,c,ks',vs',h1,h2,h3,h4,h5,h6,hO⟩:=hs.om_inv hg
 obtain ⟨n1,n2,n3⟩:=hs.other_blk hO
 refine ⟨_,_,⟨hs.toMem.frz [blk] (fun b hm=>by simp at hm;subst hm;exact (hs.own b _ hO).1) (fun b hm hk=>by simp at hm;exact n2 b hk hm) H rfl ?_,fun s=>?_,hs.nt,hs.dfs⟩⟩
 ·intro id ob ho
  obtain ⟨bb,bs,k1,k2,k3,k4⟩:=hs.heap id ob ho
  refine ⟨bb,bs,k1,k2.mono fun _ h=>.inl h,fun hn=>⟨(k3 hn).1,fun b hb=>?_⟩,k4⟩
  have:b∉[blk]:=by simpa using n3 id ob bb bs ho k1 k3 k4 b hb
  simp only [this,if_false]
  exact (k3 hn).2 b hb
 ·by_cases hst:t=s
  ·subst hst
   rw [show get ((t,.d (.mp ks vs))::env) t=.d (.mp ks vs) by simp [get]]
   refine .of (bs:=[]) ?_ nN (by simp)
   rw [h1]
   exact .d (.mp ks vs ks' vs' blk es c (.inr (by simp)) h2 (h3.keep (fun _ _=>rfl) fun _ h=>.inl h) (h4.keep (fun _ _=>rfl) fun _ h=>.inl h) h5 h6)
  ·rw [show get ((t,.d (.mp ks vs))::env) s=get env s by simp [get,hst]]
   have key:∀ p e xs,AI env H p=.own e xs→AI ((t,AV.d (.mp ks vs))::env) H p=.own e xs:=by
    intro p e' xs hp
    cases p with
    | t r =>
     have hr':t≠r:=fun h=>by subst h;simp only [AI] at hp;rw [hg] at hp;cases hp
     simp only [AI,get,if_neg hr'];exact hp
    | c id off=>exact hp
   have ht:=hs.envr s
   cases hgs:get env s with
   | ref p off len =>
    rw [hgs] at ht
    obtain ⟨e',xs,A,n,c,g1,g2,g3,g4⟩:=ht
    exact ⟨e',xs,A,n,c,key p e' xs g1,g2,g3,g4⟩
   | ep p i k =>
    rw [hgs] at ht
    obtain ⟨e',xs,b,n,c,g1,g2,g3,g4,g5⟩:=ht
    exact ⟨e',xs,b,n,c,key p e' xs g1,g2,g3,g4,g5⟩
   | _ =>
    rw [hgs] at ht
    obtain ⟨bs,g1,g2,g3⟩:=ht.plain rfl
    refine .of (g1.keep (fun _ h=>.inl h) (fun _ _=>rfl) (fun _ _ h=>h) fun _ _=>rfl) g2 fun b hb=>?_
    have:b∉[blk]:=fun hm=>by
     simp at hm;subst hm
     have:=g3 b hb;rw [hO] at this;simp at this;exact hst this
    simp only [this,if_false]
    exact g3 b hb
theorem Aag {x y:Operand} {ty kt et:TypeId} {q:IntKind} {z:Int} {ks vs:List DV} {d:DV} (hu:P.underlying ty=some (.map kt et)) (hk:P.underlying kt=some (.int q)) (hi:∀ k∈ks,∃ z',k=.i q z') (hm:(.i q z,d)∈ks.zip vs) (hq:∀ d',(.i q z,d')∈ks.zip vs→d'=d)
  (ho:o.op=.lookup ty x y false:=by rfl) (hx:Bh (lk env x)=some (.mp ks vs):=by rfl) (hy:Bh (lk env y)=some (.i q z):=by rfl):VOK P C o env H (.d d) :=
 .pv ⟨by simp [ho],fun X a w I μ O _ hs=>by
  have h1:=hs.deep (x:=x) hx
  have h2:=hs.deep (x:=y) hy
  generalize hev:a.eval x=u at h1
  generalize hev2:a.eval y=u2 at h2
  cases h2
  cases h1 with
  | mp _ _ ks' vs' r es c hI hh h3 h4 hp hl =>
   have hl':ks'.length=vs'.length:=by rw [h3.length,h4.length,List.length_map,List.length_map]
   obtain ⟨i,v,e1,e2⟩:=O0 (q:=q) (z:=z) (d:=d) rfl 0 h3 h4 (fun k hk=>hi k (LO hp hl' hk)) (hp.mem_iff.2 hm) fun d' hd=>hq d' (hp.mem_iff.1 hd)
   exact ⟨v,by simp only [execOp,ho,hev,hev2,Nt hu hk hh e1,Sem.run_bind,Result.andThen_ok,Sem.run_pure],.of_rep e2⟩⟩
theorem Aao {x y:Operand} {ty kt et:TypeId} {q:IntKind} {z:Int} {ks vs:List DV} {d:DV} {zv:Value} (hu:P.underlying ty=some (.map kt et)) (hk:P.underlying kt=some (.int q)) (hz:∀ w,(zeroValue et).run P w=.ok zv w) (hd:∀ w I,Rep w I d zv) (hf:freshK q z ks)
  (ho:o.op=.lookup ty x y false:=by rfl) (hx:Bh (lk env x)=some (.mp ks vs):=by rfl) (hy:Bh (lk env y)=some (.i q z):=by rfl):VOK P C o env H (.d d) :=
 .pv ⟨by simp [ho],fun X a w I μ O _ hs=>by
  have h1:=hs.deep (x:=x) hx
  have h2:=hs.deep (x:=y) hy
  generalize hev:a.eval x=u at h1
  generalize hev2:a.eval y=u2 at h2
  cases h2
  cases h1 with
  | mp _ _ ks' vs' r es c hI hh h3 h4 hp hl =>
   have hl':ks'.length=vs'.length:=by rw [h3.length,h4.length,List.length_map,List.length_map]
   have e1:=Lh (q:=q) (z:=z) rfl 0 h3 fun k hk=>hf k (LO hp hl' hk)
   exact ⟨zv,by simp only [execOp,ho,hev,hev2,Mi hu hk (hz w) hh e1,Sem.run_bind,Result.andThen_ok,Sem.run_pure],.of_rep (hd w I)⟩⟩
end
end Go.FL
namespace Go.FL
open Go Go.Proofs
theorem IX : Ct Tryz.prog 36=some true:=by kernel_rfl
theorem IF : AB Tryz.prog 36=5:=by kernel_rfl
theorem F8 : BD Tryz.prog 36 0=some (0,1):=by kernel_rfl
theorem ZJ : Dm Tryz.prog 36=some [(0,1),(1,3),(4,1)]:=by kernel_rfl
theorem X4 : (Tryz.prog.info? 36).bind (·.zero)=some (.agg #[.int .i64 0,.bool false,.slice none 0 0,.slice none 0 0,.int .i64 0]):=by kernel_rfl
theorem Yc (w:World) (I:Nat→Prop) : RepAll w I [.i .i64 0,.b false,.sl [],.sl [],.i .i64 0] (Value.agg #[.int .i64 0,.bool false,.slice none 0 0,.slice none 0 0,.int .i64 0]).cells.toList:=.cons (.i _ _) (.cons (.b _) (.cons (.sl0 _ _) (.cons (.sl0 _ _) (.cons (.i _ _) (.nil)))))
end Go.FL
namespace Go.FL
open Go Go.RowKit
section
variable {P:Program} {C:Cx} {X:Snap} {o:Oper} {ops:Array Oper} {Q:Exit→Env→Ac→Prop} {env env':Env} {H H':Ac} {a:Act} {w w':World} {I I':Nat→Prop} {μ μ':List Nat} {O O':Nat→Option Loc}
 {K:Env→Ac→Prop} {k:Nat} {l:List Oper}
theorem W4 {y:Operand} {t ty:Nat} {c c':DV} (hsz:AB P ty=1) (ho:o.op=.store ty (.tmp t) y) (hv:get env t=.nb [c]) (hy:Bh (lk env y)=some c') (h1:c'.leaf=true) (hd:o.dst=none) (hK:K ((t,.nb [c'])::env) H) : OpOK P C o env H K:=by
 refine .done (by simp [ho]) hd (fun X a w I μ O _ _ _ hs=>?_) hK
 have hr:=hs.deep (x:=y) hy
 generalize hev:a.eval y=u at hr
 obtain ⟨blk,cells,e,q1,q2,q3,q4⟩:=hs.nbSet (vs:=[u]) hv (.cons hr .nil)
 refine ⟨_,I,μ,O,?_,q4⟩
 have hone:=hr.one h1
 obtain ⟨old,hold⟩:∃ old,cells=#[old]:=by
  have hl:=q3.length
  match hc:cells.toList,hl with
  | [old],_=>exact ⟨old,by apply Array.ext';simpa using hc⟩
 subst hold
 obtain ⟨i,i1,i2⟩:=HJ (P:=P) (t:=ty) (by omega)
 have hx:a.eval (.tmp t)=.pointer (some ⟨blk,0,none⟩):=q1
 have hsi:(P.info? ty).map (·.size)=some 1:=by rw [i1];simp;omega
 simp only [execOp,ho,hx,hev,Instr.storeAt,Instr.sureAddr,Sem.run_bind,Sem.run_pure,Result.andThen_ok,Go.run_storeVar_one w blk e ty old u q2 hsi hone]
theorem WV {y:Operand} {t ty:Nat} {c c':DV} (h:RL P C ops Q (k+1) l ((t,.nb [c'])::env) H) (hsz:AB P ty=1) (hg:grd ops env o true=true:=by rfl) (ho:o.op=.store ty (.tmp t) y:=by rfl)
  (hv:get env t=.nb [c]:=by rfl) (hy:Bh (lk env y)=some c':=by rfl) (h1:c'.leaf=true:=by rfl) (hd:o.dst=none:=by rfl):RL P C ops Q k (o::l) env H :=
 .go hg (W4 hsz ho hv hy h1 hd h)
theorem mk' {α:Type} {F:List α→List DV} {x0:α} {x c:Operand} {ty t e by_:Nat} {z:Value} {q q':IntKind} {zl:Int} (n:Nat) (hF:List.replicate n (Sz z)=F (List.replicate n x0)) (hn:zl=n) (hb:by_ * n≤281474976710656∧n≤9223372036854775807) (h:RL P C ops Q (k+1) l ((t,.own e (F (List.replicate n x0)))::env) H)
  (hT:Cv P ty=some (e,1,by_,z)) (hz:zok z=true) (hg:grd ops env o true=true:=by rfl) (ho:o.op=.makeSlice ty x c:=by rfl) (hx:lk env x=.d (.i q zl):=by rfl) (hc:lk env c=.d (.i q' zl):=by rfl) (hd:o.dst=some t:=by rfl)
  (hf:An (get env t)=false:=by rfl) (ht:okT C.nt t:=by rfl):RL P C ops Q k (o::l) env H :=
 mk n ⟨hn,hn⟩ hb (by rw [hF];exact h) hT hz hg ho hx hc hd hf ht
end
end Go.FL
namespace Go.FL
open Go Go.RowKit
def X3 : HO→Bool
 | .box cs=>noBpL cs
section
variable {P:Program} {C:Cx} {X:Snap} {o:Oper} {ops:Array Oper} {Q:Exit→Env→Ac→Prop} {env env':Env} {H H':Ac} {a:Act} {w w':World} {I I':Nat→Prop} {μ μ':List Nat} {O O':Nat→Option Loc}
 {K:Env→Ac→Prop} {k:Nat} {l:List Oper}
end
end Go.FL
namespace Go.FL
open Go Go.RowKit
section
variable {P:Program} {C:Cx} {X:Snap} {o:Oper} {ops:Array Oper} {Q:Exit→Env→Ac→Prop} {env env' envi:Env} {H H':Ac} {a:Act} {w w':World} {I I':Nat→Prop} {μ μ':List Nat} {O O':Nat→Option Loc}
 {K:Env→Ac→Prop} {k:Nat} {l:List Oper} {av:AV}
def Rk : Nat:=1000000000
def Aaq (P:Program) (C:Cx) (ops:Array Oper) (H:Ac) (env0 vals:Env) (tm i0 ty:Nat) (q:IntKind) (i:Nat) (o:Oper) (t:Nat) (v:AV) : Option (Int×DV)→Prop
 | none=>N8 P C ops H env0 vals o t v∧tm∉o.looksAt ops∧t<Rk∧(i≠i0→t≠tm)∧(i=i0→t=tm∧v=.om [] [])
 | some (z,d)=>o.dst=none∧o.guard=none∧v=.un∧t=Rk+i∧get env0 t=.un∧E7 ops i i0=true∧∃ x y,o.op=.insert ty (.tmp tm) x y∧(∀ e,lk e x=.d (.i q z)) ∧
   ((∀ e,lk e y=.d d)∨∃ s,y=.tmp s∧s≠tm∧s∈o.looksAt ops∧get (BF (o.looksAt ops) vals++env0) s=.d d)
end
end Go.FL
namespace Go.FL
open Go Go.RowKit
section
variable {P:Program} {C:Cx} {X:Snap} {o:Oper} {ops:Array Oper} {Q:Exit→Env→Ac→Prop} {env env' envi env0 vals:Env} {H H':Ac} {a:Act} {w w':World} {I I':Nat→Prop} {μ μ':List Nat} {O O':Nat→Option Loc}
 {k:Nat} {l:List Oper} {av v:AV} {t tm i0 ty n:Nat} {q:IntKind} {ps qs:List (Int×DV)}
inductive DLM (P:Program) (C:Cx) (ops:Array Oper) (H:Ac) (env0:Env) (tm i0 ty:Nat) (q:IntKind) : Nat→Env→List (Int×DV)→List Oper→Env→List (Int×DV)→Prop
 | nil (n:Nat) (vals:Env) (ps:List (Int×DV)):DLM P C ops H env0 tm i0 ty q n vals ps [] vals ps
 | run {n:Nat} {vals fin:Env} {ps qs:List (Int×DV)} {o:Oper} {t:Nat} {v:AV} {l:List Oper} (hi:n≠i0) (hd:o.dst=some t) (ht:okT C.nt t) (h0:Sv (get env0 t)=true) (hn:(vals.map (·.1)).contains t=false) (hs:HS t v=true)
   (hg:grd ops (BF (o.looksAt ops) vals++env0) o true=true) (hv:VOK P C o (BF (o.looksAt ops) vals++env0) H v) (hr:Dv (BF (o.looksAt ops) vals++env0)=true) (hl:(o.looksAt ops).contains tm=false) (htd:t<Rk) (htm:t≠tm)
   (h:DLM P C ops H env0 tm i0 ty q (n+1) ((t,v)::vals) ps l fin qs):DLM P C ops H env0 tm i0 ty q n vals ps (o::l) fin qs
 | mk {vals fin:Env} {ps qs:List (Int×DV)} {o:Oper} {l:List Oper} (hd:o.dst=some tm) (ht:okT C.nt tm) (h0:Sv (get env0 tm)=true) (hn:(vals.map (·.1)).contains tm=false)
   (hg:grd ops (BF (o.looksAt ops) vals++env0) o true=true) (hv:VOK P C o (BF (o.looksAt ops) vals++env0) H (.om [] [])) (hr:Dv (BF (o.looksAt ops) vals++env0)=true) (hl:(o.looksAt ops).contains tm=false) (htd:tm<Rk)
   (h:DLM P C ops H env0 tm i0 ty q (i0+1) ((tm,.om [] [])::vals) ps l fin qs):DLM P C ops H env0 tm i0 ty q i0 vals ps (o::l) fin qs
 | ins {n:Nat} {vals fin:Env} {ps qs:List (Int×DV)} {o:Oper} {l:List Oper} {x y:Operand} {z:Int} {d:DV} (hi:n≠i0) (hd:o.dst=none) (hgn:o.guard=none) (hop:o.op=.insert ty (.tmp tm) x y) (hx:∀ e,lk e x=.d (.i q z))
   (hy:(∀ e,lk e y=.d d)∨∃ s,y=.tmp s∧s≠tm∧s∈o.looksAt ops∧get (BF (o.looksAt ops) vals++env0) s=.d d) (hdi:E7 ops n i0=true) (h0:get env0 (Rk+n)=.un)
   (h:DLM P C ops H env0 tm i0 ty q (n+1) ((Rk+n,.un)::vals) (ps++[(z,d)]) l fin qs):DLM P C ops H env0 tm i0 ty q n vals ps (o::l) fin qs
theorem DLM.table {n:Nat} {vals fin:Env} {ps qs:List (Int×DV)} {l:List Oper} (h:DLM P C ops H env0 tm i0 ty q n vals ps l fin qs) : ∃ (tv:List (Nat×AV)) (iv:List (Option (Int×DV))),tv.length=l.length∧iv.length=l.length∧fin=tv.reverse++vals∧qs=ps++iv.filterMap id ∧
  ∀ (i:Nat) o,l[i]?=some o→∃ t v p,tv[i]?=some (t,v)∧iv[i]?=some p∧(n+i=i0→p=none)∧Aaq P C ops H env0 ((tv.take i).reverse++vals) tm i0 ty q (n+i) o t v p:=by
 induction h with
 | nil n vals ps=>exact ⟨[],[],rfl,rfl,rfl,by simp,fun i o h=>by simp at h⟩
 | @run n vals fin ps qs o t v l hi hd ht h0 hn hs hg hv hr hl htd htm h ih =>
  obtain ⟨tv,iv,k1,k2,k3,k4,k5⟩:=ih
  refine ⟨(t,v)::tv,none::iv,by simp [k1],by simp [k2],by rw [k3];simp,by rw [k4];simp,fun i o' hio=>?_⟩
  cases i with
  | zero =>
   simp at hio;subst hio
   refine ⟨t,v,none,rfl,rfl,fun _=>rfl,⟨hd,ht,MG h0,fun x hx e=>?_,hs,hr,.inl ⟨hg,hv⟩⟩,fun hm=>?_,htd,fun _=>htm,fun e=>absurd e hi⟩
   ·subst e
    have:(vals.map (·.1)).contains x.1=true:=List.contains_iff_mem.2 (List.mem_map_of_mem hx)
    rw [hn] at this;cases this
   ·have:=List.contains_iff_mem.2 hm
    rw [hl] at this;cases this
  | succ i =>
   obtain ⟨t',v',p',m1,m2,m3,m4⟩:=k5 i o' (by simpa using hio)
   have e:n+(i+1)=n+1+i:=by omega
   refine ⟨t',v',p',by simpa using m1,by simpa using m2,by rw [e];exact m3,?_⟩
   rw [e];simpa using m4
 | @mk vals fin ps qs o l hd ht h0 hn hg hv hr hl htd h ih =>
  obtain ⟨tv,iv,k1,k2,k3,k4,k5⟩:=ih
  refine ⟨(tm,.om [] [])::tv,none::iv,by simp [k1],by simp [k2],by rw [k3];simp,by rw [k4];simp,fun i o' hio=>?_⟩
  cases i with
  | zero =>
   simp at hio;subst hio
   refine ⟨tm,.om [] [],none,rfl,rfl,fun _=>rfl,⟨hd,ht,MG h0,fun x hx e=>?_,rfl,hr,.inl ⟨hg,hv⟩⟩,fun hm=>?_,htd,fun e=>absurd rfl e,fun _=>⟨rfl,rfl⟩⟩
   ·subst e
    have:(vals.map (·.1)).contains x.1=true:=List.contains_iff_mem.2 (List.mem_map_of_mem hx)
    rw [hn] at this;cases this
   ·have:=List.contains_iff_mem.2 hm
    rw [hl] at this;cases this
  | succ i =>
   obtain ⟨t',v',p',m1,m2,m3,m4⟩:=k5 i o' (by simpa using hio)
   have e:i0+(i+1)=i0+1+i:=by omega
   refine ⟨t',v',p',by simpa using m1,by simpa using m2,by rw [e];exact m3,?_⟩
   rw [e];simpa using m4
 | @ins n vals fin ps qs o l x y z d hi hd hgn hop hx hy hdi h0 h ih =>
  obtain ⟨tv,iv,k1,k2,k3,k4,k5⟩:=ih
  refine ⟨(Rk+n,.un)::tv,some (z,d)::iv,by simp [k1],by simp [k2],by rw [k3];simp,by rw [k4];simp,fun i o' hio=>?_⟩
  cases i with
  | zero =>
   simp at hio;subst hio
   exact ⟨Rk+n,.un,some (z,d),rfl,rfl,fun e=>absurd e hi,hd,hgn,rfl,rfl,h0,hdi,x,y,hop,hx,hy⟩
  | succ i =>
   obtain ⟨t',v',p',m1,m2,m3,m4⟩:=k5 i o' (by simpa using hio)
   have e:n+(i+1)=n+1+i:=by omega
   refine ⟨t',v',p',by simpa using m1,by simpa using m2,by rw [e];exact m3,?_⟩
   rw [e];simpa using m4
end
end Go.FL
namespace Go.FL
open Go Go.Proofs
section
variable {P:Program} {C:Cx} {o:Oper} {ops:Array Oper} {Q:Exit→Env→Ac→Prop} {env:Env} {H:Ac} {k:Nat} {l:List Oper}
theorem freshK.nil {q:IntKind} {z:Int} : freshK q z []:=nofun
theorem freshK.snoc {q:IntKind} {z z':Int} {ks:List DV} (h:freshK q z ks) (hz:z'≠z) : freshK q z (ks++[.i q z']):=fun k hk=>by
 rcases List.mem_append.1 hk with h1|h1
 ·exact h k h1
 ·rw [List.mem_singleton] at h1
  exact ⟨z',h1,hz⟩
end
theorem gkR : Tryz.prog.underlying 21=some (.int .i32):=by kernel_rfl
theorem VW {n:Nat} : List.replicate n (Sz (.int .i64 0))=Is (List.replicate n 0):=by simp [Is,Sz]
abbrev Im : Type:=FW ((List Int)) (Int)
def DA (a0:Arr) : Option (Itm):=((Bs a0).bind fun x1=>(if x1=true then ((rd? a0.items 0).bind fun x2=>((KO x2).bind fun x3=>(some (x3)))) else (some ((Itm.mk 0 (false,[],[]) 0 [])))))
theorem M4 {a0:Arr} {r:Itm} (h:DA a0=some r) :
  Fn Tryz.prog 66 [.ag [.sl (Is a0.shape),.sl (Its a0.items)]] (.d (.ag [.i .u8 r.kind,.b r.num.1,.sl (L r.num.2.1),.sl (L r.num.2.2),.i .i32 r.char,.sl (Ars r.box)])):=by
 unfold DA at h
 refine Fn.ofC (rs:=[.cell 2 51]) (nt:=12) Tryz.func66 rfl rfl rfl (by simp) rfl ?_;refine .sr ?_;refine vk vbx ?_;refine vk (van (Ak CO) CL) ?_;refine rk [1,2] ?_;refine .seq ?_;refine .sr ?_;refine vk (Ar Ag Ab) ?_
 obtain ⟨x1,g1,h⟩:=bnd h
 refine vk (Al (CW g1) Tryz.call54) ?_;refine vk vnt ?_;refine rk [1,2,5] ?_
 rcases brc h with ⟨hc,h⟩|⟨hc,h⟩
 ·refine cnf (ntf hc) ?_
  refine .sk ?_;refine .sr ?_;refine vk (vfa AU) ?_;refine vk (Ao BX) ?_
  obtain ⟨x2,g2,h⟩:=bnd h
  obtain ⟨n2,p02,q2⟩:=Ah g2
  refine vk (vix n2 p02 (CD q2) rfl CF) ?_;refine vk (Ar AT Az) ?_
  obtain ⟨x3,g3,h⟩:=bnd h
  refine vk (Al (L4 g3) Tryz.call61) ?_
  refine stn ?_ Az (by decide)
  refine rk [2] ?_;refine .ret ?_
  cases h
  exact ⟨_,⟨.inr rfl,AT,Az,p6⟩,rfl⟩
 refine cnt (ntt (bf hc)) ?_;refine .sr ?_;refine vk (vbd Kk CO CL) ?_
 refine stn ?_ Az (by decide)
 refine rk [1,2] ?_;refine .ret ?_
 cases h
 exact ⟨_,⟨.inr rfl,AT,Az,p6⟩,rfl⟩
def Dq (a0:(List Int)) (K0:(List Int)→Option ((List Int))) : Nat→(List Int)→Int→Int→Option ((List Int))
 | 0,_,_,_=>none
 | k+1,s3,s4,s5=>(if 0≤s5 then ((rd? s3 s5).bind fun x6=>((rd? a0 s5).bind fun x7=>(Dq a0 K0 k (List.set s3 (Int.toNat s5) s4) (w64 (s4 * x7)) (w64 (s5-1))))) else (K0 s3))
def FA (a0:(List Int)) : Option ((List Int)):=((GV (0≤((List.length a0:Nat) : Int)∧((List.length a0:Nat) : Int)≤17592186044416)).bind fun x1=>(jn (fun (z2:(List Int))=>(some (z2))) fun K0=>(Dq a0 K0 As (List.replicate (Int.toNat ((List.length a0:Nat) : Int)) (0:Int)) 1 (w64 (((List.length a0:Nat) : Int)-1)))))
def Jk (a0:(List Int)) (a1:(List Int)) (K0:Int→Option (Int)) : Nat→Int→Int→Option (Int)
 | 0,_,_=>none
 | k+1,s2,s3=>(if s3<((List.length a0:Nat):Int) then ((rd? a0 s3).bind fun x4=>((rd? a1 s3).bind fun x5=>(Jk a0 a1 K0 k (w64 (s2+(w64 (x4 * x5)))) (w64 (s3+1))))) else (K0 s2))
def RP (a0:(List Int)) (a1:(List Int)) : Option (Int):=(jn (fun (z1:Int)=>(some (z1))) fun K0=>(Jk a0 a1 K0 As 0 0))
def IY (a1:(List Int)) (x3:(List Int)) (s8:Int) (K3:(List Int)→Option (Arr×Int)) : Nat→(List Int)→Int→Option (Arr×Int)
 | 0,_,_=>none
 | k+1,s12,s13=>(if s13<((List.length x3:Nat):Int) then ((rd? x3 s13).bind fun x14=>((GV (x14≠0)).bind fun x15=>((rd? a1 s13).bind fun x16=>((GV (x16≠0)).bind fun x17=>((rd? s12 s13).bind fun x18=>(IY a1 x3 s8 K3 k (List.set s12 (Int.toNat s13) (Int.tmod (w64 (Int.tdiv s8 x14)) x16)) (w64 (s13+1)))))))) else (K3 s12))
def GJ (a0:Arr) (a1:(List Int)) (a2:Im) (x1:Int×Int) (x2:Itm) (x3:(List Int)) (K0:(List Itm)→Option (Arr×Int)) : Nat→(List Int)→(List Itm)→Int→Option (Arr×Int)
 | 0,_,_,_=>none
 | k+1,s6,s7,s8=>(if s8<x1.1 then (jn (fun (z9:(List Int)) (z10:(List Itm))=>(GJ a0 a1 a2 x1 x2 x3 K0 k z9 z10 (w64 (s8+1)))) fun K2=>(jn (fun (z11:(List Int))=>((a2.g z11).bind fun x19=>(if 0≤x19 then ((rd? a0.items x19).bind fun x20=>((ap? 1466015503701 s7 [x20]).bind fun x21=>(K2 z11 x21))) else ((ap? 1466015503701 s7 [x2]).bind fun x22=>(K2 z11 x22))))) fun K3=>(IY a1 x3 s8 K3 As s6 0))) else (K0 s7))
def ET (a0:Arr) (a1:(List Int)) (a2:Im) : Option (Arr×Int):=((CB a1).bind fun x1=>(if x1.2=0 then ((DA a0).bind fun x2=>((FA a1).bind fun x3=>((GV (0≤((List.length a1:Nat) : Int)∧((List.length a1:Nat) : Int)≤17592186044416)).bind fun x4=>(jn (fun (z5:(List Itm))=>(jn (fun (z23:(List Itm))=>((AZ a1 z23).bind fun x25=>(some (x25.1,x25.2)))) fun K5=>(if x1.1=0 then ((ap? 1466015503701 z5 [x2]).bind fun x24=>(K5 x24)) else (K5 z5)))) fun K0=>(GJ a0 a1 a2 x1 x2 x3 K0 As (List.replicate (Int.toNat ((List.length a1:Nat) : Int)) (0:Int)) [] 0))))) else (some ((Arr.mk [] []),x1.2))))
def MQ : List Int→List Int×Int
 | []=>([],1)
 | x::xs=>((MQ xs).2::(MQ xs).1,w64 ((MQ xs).2 * x))
theorem KZ {a:List Int} (hl:a.length≤17592186044416) (K:List Int→Option (List Int)) : ∀ (i k:Nat),i≤a.length→i<k →
  Dq a K k (List.replicate i 0++(MQ (a.drop i)).1) (MQ (a.drop i)).2 ((i:Int)-1)=K (MQ a).1
 | _,0,_,h=>by omega
 | 0,k+1,_,_=>by rw [Dq,if_neg (by omega)];rfl
 | i+1,k+1,hi,hk=>by
  have hlt:i<a.length:=by omega
  rw [Dq,if_pos (by omega)]
  have e0:((i+1:Nat):Int)-1=(i:Int):=by omega
  have e1:List.replicate (i+1) (0:Int)++(MQ (a.drop (i+1))).1=List.replicate i 0++0::(MQ (a.drop (i+1))).1:=by
   rw [List.replicate_succ',List.append_assoc];rfl
  rw [e0,e1,BE (by simp),oB,BE hlt,oB,Int.toNat_natCast,List.set_append_right _ _ (by simp),List.length_replicate,Nat.sub_self,List.set_cons_zero,show w64 ((i:Int)-1)=(i:Int)-1 from AX (by omega) (by omega)]
  have e2:a.drop i=a[i]::a.drop (i+1):=lC hlt
  have ih:=KZ hl K i k (by omega) (by omega)
  rw [e2] at ih
  exact ih
theorem MP {a:List Int} (hl:a.length≤17592186044416) : FA a=some (MQ a).1:=by
 unfold FA
 have hg:GV (0≤((List.length a:Nat):Int)∧((List.length a:Nat):Int)≤17592186044416)=some ():=if_pos (by omega)
 rw [hg,oB,Bp]
 have:=KZ hl (fun z=>some z) a.length As (Nat.le_refl _) (AY (by omega))
 rw [List.drop_of_length_le (Nat.le_refl _)] at this
 rw [Int.toNat_natCast,AX (by omega) (by omega)]
 rw [show (MQ []).1=[] from rfl,List.append_nil] at this
 exact this
theorem V4 {a:Arr} (oa:okAr a) (ra:Bk a) : DA a=some (tyI (a.items.headD default)):=by
 have hp:=JB ra
 unfold DA
 rw [Hv oa,oB,dT ra,if_pos rfl]
 cases hi:a.items with
 | nil=>rw [hi] at hp;simp at hp
 | cons x xs =>
  obtain ⟨ox,rx⟩:=FQ oa ra (x:=x) (by rw [hi];simp)
  rw [MV,oB,Rd ox rx.1];rfl
theorem Rp {α:Type} {L r:List α} {j:Nat} (hl:L.length=r.length) (h:j<L.length) : (L.take j++r.drop j).set j L[j]=L.take (j+1)++r.drop (j+1):=by
 have hj:(L.take j).length=j:=by rw [List.length_take];omega
 have e:r.drop j=r[j]'(by omega)::r.drop (j+1):=lC (by omega)
 rw [e,List.set_append_right _ _ (by omega),hj,Nat.sub_self,List.set_cons_zero,List.take_succ_eq_append_getElem h,List.append_assoc]
 rfl
def Aav (a:Arr) (p:Itm) (j:Int) : Itm:=if 0≤j then a.items.getD j.toNat default else p
theorem SF {a:Arr} {s:List Int} {F:Im} {p:Itm} (hp:DA a=some p) (hl:s.length≤17592186044416) (hs:szP s=(0,0)) : ET a s F=AZ s [p]:=by
 have hg:GV (0≤((List.length s:Nat):Int)∧((List.length s:Nat):Int)≤17592186044416)=some ():=if_pos (by omega)
 have hF:As=999999999999999+1:=rfl
 unfold ET
 rw [JE hl,oB,hs,if_pos rfl,hp,oB,MP hl,oB,hg,oB,Bp,hF,GJ,if_neg (by decide),Bp,if_pos rfl,IH (by simp),oB]
 show ((AZ s [p]).bind fun x25=>some (x25.1,x25.2))=_
 generalize AZ _ _=m
 cases m<;>rfl
theorem YS {xs:List Itm} {d:Nat} (h:∀ x∈xs,dI x≤d) : dIs xs≤d:=by
 induction xs with
 | nil=>exact Nat.zero_le _
 | cons x xs ih =>
  rw [dIs]
  have h1:=h x (by simp)
  have h2:=ih fun y hy=>h y (by simp [hy])
  omega
theorem Jx {x:Itm} : ∀ {xs:List Itm},x∈xs→dI x≤dIs xs
 | y::ys,h=>by
  rw [dIs]
  rcases List.mem_cons.1 h with rfl|h
  ·omega
  ·have:=Jx h;omega
theorem UE {a:Arr} (oa:okAr a) (ra:Bk a) (hz:szP a.shape=(0,0)) {s:List Int} (hs64:∀ z∈s,-9223372036854775808≤z∧z≤9223372036854775807) (hl:s.length≤17592186044416) (hsz:szP s=(0,0)) {p:Itm} (hp:p=a.items.headD default∨p=tyI (a.items.headD default)) :
  AZ s [p]=some (.mk s [tyI (a.items.headD default)],0):=by
 have hne:=JB ra
 obtain ⟨r1,r2,r3⟩:=ra
 have hlen:a.items.length=1:=by
  have:=(Lm r1).2.1
  rw [hz] at this
  rw [if_pos (by decide)] at this
  omega
 obtain ⟨x,hx⟩:=List.length_eq_one_iff.1 hlen
 have hx':a.items.headD default=x:=by rw [hx];rfl
 rw [hx'] at hp ⊢
 obtain ⟨ox,rx⟩:=FQ oa ⟨r1,r2,r3⟩ (x:=x) (by rw [hx];simp)
 obtain ⟨t1,t2,t3,t4,t5,t6⟩:=So ox rx.1
 have hns:∀ {s:List Int} {i:List Itm},szP s=(0,0)→Bf (.mk s i)=false:=by
  intro s i h
  unfold Bf
  cases s with
  | nil=>exact absurd (congrArg Prod.fst h) (by decide)
  | cons y ys=>rfl
 have hpr:okI p∧Br p∧tyI p=tyI x:=by
  rcases hp with rfl|rfl
  ·exact ⟨ox,rx,rfl⟩
  ·exact ⟨t6,⟨t1,t2▸rx.2.1,t3▸rx.2.2⟩,t4⟩
 have hmk:CK (szP s).1 [p]=[tyI x]:=by
  rw [hsz];show [tyI p]=_;rw [hpr.2.2]
 have hR:Bk (.mk s [tyI x]):=by
  have e1:dA a=1+dI x:=by
   have:Bf a=false:=by have:=hns (i:=a.items) hz;rwa [Arr.eta] at this
   rw [IM,this,if_neg (by decide),hx,dIs,dIs,Nat.max_zero]
  have e2:cA a=1+cI x:=by rw [Jm,hx];simp [cIs]
  refine ⟨?_,?_,?_⟩
  ·rw [JN,Ff,D3,hsz,FD.2 (by simpa using t1)];rfl
  ·rw [IM,hns hsz,if_neg (by decide),D3,dIs,dIs,Nat.max_zero,t2];omega
  ·rw [Jm,D3];simp only [cIs,List.length_singleton];omega
 have hc:¬([p]=[]∨¬∀ y∈[p],Br y):=fun q=>q.elim (fun e=>by cases e) fun q=>q fun y hy=>by rw [List.mem_singleton] at hy;subst hy;exact hpr.2.1
 rw [JF hs64 hl (by simp) (fun y hy=>by rw [List.mem_singleton] at hy;subst hy;exact hpr.1),hmk,if_neg (by rw [hsz];exact fun q=>q rfl),if_neg hc,if_pos hR]
def AA (a0:(List Arr)) (a1:B3) (K0:Int→Option (Int)) : Nat→Int→Int→Option (Int)
 | 0,_,_=>none
 | k+1,s2,s3=>(if s3<((List.length a0:Nat):Int) then ((rd? a0 s3).bind fun x4=>((a1.g x4).bind fun x5=>(if x5=true then (some (s3)) else (AA a0 a1 K0 k s2 (w64 (s3+1)))))) else (K0 s2))
def Ba (a0:(List Arr)) (a1:B3) : Option (Int):=(jn (fun (z1:Int)=>(some ((-1)))) fun K0=>(AA a0 a1 K0 As 0 0))
theorem D1 {a0:(List Arr)} {a1:B3} (oa1:KJ a1) {r:Int} (h:Ba a0 a1=some r) :
  Fn Tryz.prog 154 [.sl (Ars a0),a1.dv] (.d (.i .i64 r)):=by
 unfold Ba at h
 refine Fn.o1 4 19 Tryz.func154 ?_;refine .sr ?_;refine ar [0,1,4] ?_;refine .seq ?_;refine .sr ?_;refine va ?_;refine vk (A5 (BC _) (EI _) EL) ?_;refine va ?_;refine rk [0,1,4,7,8] ?_
 obtain ⟨K0,hK0,h⟩:=AH h
 refine AW.mr (σ:=Int) (fun p=>K0 p=some r) (fun p=>[(4,.d (.i .i64 p))]) (fun p=>[]) ?_ ?_
 ·skip
  refine .block ?_
  refine .loop (.gk [0,1,4,7,8] ?_)
  refine AL.ind (σ:=Nat×Int×Int) (m:=fun p=>p.1) (e:=fun p=>[(0,.d (.sl (Ars a0))),(1,.d (a1.dv)),(4,.d (.i .i64 p.2.1)),(7,.d (.i .i64 ((List.length a0:Nat):Int))),(8,.d (.i .i64 p.2.2))]) (h:=fun p=>[]) (I:=fun p=>AA a0 a1 K0 p.1 p.2.1 p.2.2=some r) ?_ (As,0,0) h
  rintro ⟨k,s2,s3⟩ h ih
  dsimp only at h ih ⊢
  rcases k with _|k
  ·rw [AA] at h;cases h
  rw [AA] at h
  refine .sr ?_;refine vb ?_;refine rk [0,1,4,7,8,9] ?_;refine .seq ?_
  rcases brc h with ⟨hc,h⟩|⟨hc,h⟩
  ·refine cnt (dT hc) ?_
   refine .sk ?_;refine .seq ?_;refine .block ?_;refine .sr ?_;refine va ?_;refine ar [0,1,4,5,7,8] ?_;refine .sr ?_;refine va ?_;refine va ?_;refine va ?_
   obtain ⟨x4,g4,h⟩:=bnd h
   obtain ⟨n4,p04,q4⟩:=Ah g4
   refine vk (vix n4 p04 (Eb q4) rfl Ea) ?_;refine vk (Ar Ag Ab) ?_
   obtain ⟨x5,g5,h⟩:=bnd h
   refine vk (Mu (oa1 _ _ g5)) ?_;refine rk [0,1,4,5,7,8,16] ?_
   rcases brc h with ⟨hc,h⟩|⟨hc,h⟩
   ·refine cnt hc ?_
    refine .sr ?_;refine va ?_;refine ar [0,1,4,7,8] ?_;refine .ret ?_
    cases h
    exact ⟨rfl,rfl⟩
   refine cnf (bf hc) ?_;refine .sk ?_;refine .region ?_;refine vb ?_;refine va ?_;refine .nil ?_;refine AL.gk [0,1,4,7,8] ?_
   exact ih (k,s2,(w64 (s3+1))) h (Nat.lt_succ_self _)
  refine cnf (dF hc) ?_;refine .gk [4] ?_;refine .exit ?_
  exact jr (s2) h
 rintro z1 h
 try dsimp only at h ⊢
 subst hK0
 refine aw ?_;refine .sr ?_;refine ar [4] ?_;refine .ret ?_
 cases h
 exact ⟨rfl,rfl⟩
def AD (a0:(List Arr)) (a1:B3) : Option (Bool):=((Ba a0 a1).bind fun x1=>(some ((decide (0≤x1)))))
theorem B6 {a0:(List Arr)} {a1:B3} (oa1:KJ a1) {r:Bool} (h:AD a0 a1=some r) :
  Fn Tryz.prog 95 [.sl (Ars a0),a1.dv] (.d (.b r)):=by
 unfold AD at h
 refine Fn.o1 4 9 Tryz.func95 ?_;refine .sr ?_;refine ar [0,1,4] ?_;refine .sr ?_;refine va ?_;refine va ?_
 obtain ⟨x1,g1,h⟩:=bnd h
 refine vk (Al (D1 oa1 g1) Tryz.call154) ?_;refine vb ?_;refine ar [4] ?_;refine .ret ?_
 cases h
 exact ⟨rfl,rfl⟩
theorem Vg {s:List Int} (h:(szP s).2=0) : (∀ x∈s,0≤x∧x≤4096)∧s.length≤8:=by
 unfold szP at h
 split at h
 ·exact absurd h (by decide)
 split at h
 ·exact absurd h (by decide)
 split at h
 ·exact absurd h (by decide)
 rename_i h8 hneg hbig
 refine ⟨fun x hx=>?_,by omega⟩
 simp only [List.any_eq_true,decide_eq_true_eq,not_exists,not_and] at hneg hbig
 have a:=hneg x hx
 have b:=hbig x hx
 omega
end Go.FL
namespace Go.FL
open Go Go.RowKit
section
variable {P:Program} {C:Cx} {o:Oper} {ops:Array Oper} {Q:Exit→Env→Ac→Prop} {env:Env} {H:Ac} {k:Nat} {l:List Oper}
theorem ZV {x:Operand} {src dst:Nat} {q:IntKind} {n:Int} (hs:(P.underlying src).isSome=true) (hd:P.underlying dst=some .string) (ho:o.op=.convert src dst x:=by rfl) (hv:lk env x=.d (.i q n):=by rfl) : VOK P C o env H (.d (.s (Utf8.encode n))):=by
 obtain ⟨h1,h2⟩:=Aw hv (by simp)
 refine .pv ⟨by simp [ho],fun X a w I μ O _ hs'=>⟨.string (Utf8.encode n),?_,.of_rep (.s _)⟩⟩
 have e1:=hs'.look_i h1 h2
 have:=run_convert_int_string (P:=P) w src dst q n hs hd
 simp only [execOp,ho,e1,Sem.run_bind,this,Result.andThen_ok,Sem.run_pure]
theorem ZC {x y:Operand} {ty:Nat} {s:ByteArray} {q:IntKind} {z:Int} (n:Nat) (hn:z=n∧n≤s.size) (hty:P.underlying ty=some .string) (ho:o.op=.slice ty x (some y) none none:=by rfl) (hv:lk env x=.d (.s s):=by rfl) (hi:lk env y=.d (.i q z):=by rfl) :
  VOK P C o env H (.d (.s (s.extract n s.size))):=by
 obtain ⟨rfl,hl⟩:=hn
 obtain ⟨h1,h2⟩:=Aw hv (by simp)
 obtain ⟨h3,h4⟩:=Aw hi (by simp)
 refine .pv ⟨by simp [ho],fun X a w I μ O _ hs=>⟨.string (s.extract n s.size),?_,.of_rep (.s _)⟩⟩
 have e1:=hs.look_s h1 h2
 have e2:=hs.look_i h3 h4
 have:=run_slice_string_l (P:=P) w ty s hty q (n:Int) (by omega) (by omega)
 rw [Int.toNat_natCast] at this
 simp only [execOp,ho,e1,Option.map_none,Option.map_some,e2,Instr.sliceAt,Sem.run_bind,run_underlying hty,this,Result.andThen_ok,Sem.run_pure]
theorem Aaj {c:Call} {fo:Operand} {f:FuncId} {s:ByteArray} {b z:Int} (he:∀ w,(callFunc f #[.string s,.int .u8 b]).run P w=.ok (.value (.int .i64 z)) w) (ho:o.op=.call c:=by rfl) (hc:c.callee=.value fo:=by rfl) (hf:lk env fo=.d (.fn f [] []):=by rfl)
  (ha:argsD env c.args.toList=some [.s s,.i .u8 b]:=by rfl):VOK P C o env H (.d (.i .i64 z)):=by
 refine .pv ⟨by simp [ho],fun X a w I μ O _ hs=>⟨.int .i64 z,?_,.of_rep (.i _ _)⟩⟩
 have hfr:=hs.deep (x:=fo) (v:=.fn f [] []) (by rw [hf];rfl)
 generalize hev:a.eval fo=u at hfr
 cases hfr with
 | fn _ _ _ fs cs hfs hcs =>
  cases hfs
  cases hcs
  have hres:=C9 (P:=P) (w:=w) (ρ:=a.eval) (ty:=o.type) hc hev
  have h:=hs.argsD ha
  have e:c.args.map a.eval=#[.string s,.int .u8 b]:=by
   apply Array.ext'
   rw [Array.toList_map]
   generalize c.args.toList.map a.eval=l at h
   cases h with
   | cons h1 h2 =>
    cases h1
    cases h2 with
    | cons h3 h4=>cases h3;cases h4;rfl
  have he':=he w
  rw [← e] at he'
  simp only [execOp,ho,Sem.run_bind,hres,Result.andThen_ok,invoke,List.toArray,Array.append_empty,Array.empty_append,he']
end
def noG (Q:Exit→Env→Ac→Prop) : Exit→Env→Ac→Prop
 | .goto _,_,_=>False
 | e,env,H=>Q e env H
section
variable {P:Program} {b:Frame} {a:Act} {k:List Item} {cs:List Frame} {w:World}
theorem HL {c:Code} : step P (lone (b.atR a (.code (.scope c)::k)) cs w)=.next (lone (b.atR a (.code c::.inScope c::k)) cs w) :=
 step_lone_go (by simp [stepG,stepG.exec,Frame.atR])
theorem Up {c:Code} : step P (lone (b.atR a (.inScope c::k)) cs w)=.next (lone (b.atR a k) cs w) :=
 step_lone_go (by simp [stepG,stepG.exec,Frame.atR])
end
theorem AW.scope {P:Program} {C:Cx} {c:Code} {Q:Exit→Env→Ac→Prop} {env:Env} {H:Ac} (h:AW P C c (noG Q) env H) : AW P C (.scope c) Q env H:=by
 intro X a w I μ O h1 h2 h3 hs b k cs hro hb hr
 have h0:(lone (b.atR a (.code (.scope c)::k)) cs w).fenced P (om C.ro):=fenced_calm hb hr rfl
 obtain ⟨e,a₁,w₁,hq,harr⟩:=h X a w I μ O h1 h2 h3 hs b (.inScope c::k) cs hro hb hr
 obtain ⟨env',H',I',μ',O',s,q⟩:=hq
 cases e with
 | normal=>exact ⟨.normal,a₁,w₁,⟨env',H',I',μ',O',s,q⟩,.head h0 HL (StepsIn.trans harr (.one (fenced_calm hb hr rfl) Up))⟩
 | exit id =>
  have hx:exitTo id (.inScope c::k)=exitTo id k:=by simp [exitTo]
  exact ⟨.exit id,a₁,w₁,⟨env',H',I',μ',O',s,q⟩,fun k' hk=>.head h0 HL (harr.1 k' (by rw [hx];exact hk)),
   fun hr' hk=>let ⟨k₁,h1,h2⟩:=harr.2 hr' (by rw [hx];exact hk);⟨k₁,h1,.head h0 HL h2⟩⟩
 | goto l=>exact q.elim
 | ret=>exact ⟨_,a₁,w₁,⟨env',H',I',μ',O',s,q⟩,.of_steps (.one h0 HL) harr⟩
 | panic ch=>exact ⟨_,a₁,w₁,⟨env',H',I',μ',O',s,q⟩,.of_steps (.one h0 HL) harr⟩
 | outgrown=>exact ⟨_,a₁,w₁,⟨env',H',I',μ',O',s,q⟩,.of_steps (.one h0 HL) harr⟩
end Go.FL
namespace Go.FL
open Go Go.Proofs Go.RowKit
theorem stS : Tryz.prog.underlying 9=some .string:=by kernel_rfl
theorem YM (s:ByteArray) (b:Int) (w:World) : (callFunc 263 #[.string s,.int .u8 b]).run Tryz.prog w=.ok (.value (.int .i64 (Lib.indexByte s.data.toList b.toNat.toUInt8))) w:=by
 rw [run_callFunc_extern Tryz.func263 (by kernel_rfl) (by kernel_rfl) (by kernel_rfl) (e:=Extern.BytealgIndexByte.indexByte) (by kernel_rfl),Lib.run_indexByteString]
 rfl
def Ki (s:ByteArray) (b:Int) : Int:=Lib.indexByte s.data.toList b.toNat.toUInt8
theorem Qt (s:ByteArray) (b:Int) : Fn Tryz.prog 239 [.s s,.i .u8 b] (.d (.i .i64 (Ki s b))):=by
 refine Fn.of (rs:=[.tmp 4]) (nt:=8) Tryz.func239 rfl rfl rfl (by simp) rfl ?_;refine .seq ?_;refine .region ?_;refine asd ?_;refine rn ?_;refine .seq ?_;refine .region ?_;refine vk (Ae) ?_;refine vk (Ae) ?_;refine vk (Aaj (YM s b)) ?_;refine asd ?_;refine rn ?_;refine .ret ?_
 exact ⟨rfl,rfl⟩
theorem Lw (s:ByteArray) (b:Int) : Fn Tryz.prog 198 [.s s,.i .u8 b] (.d (.i .i64 (Ki s b))):=by
 refine Fn.of (rs:=[.tmp 4]) (nt:=8) Tryz.func198 rfl rfl rfl (by simp) rfl ?_;refine .seq ?_;refine .region ?_;refine asd ?_;refine rn ?_;refine .seq ?_;refine .region ?_;refine vk (Ae) ?_;refine vk (Ae) ?_;refine vk (Al (Qt s b) Tryz.call239) ?_;refine asd ?_;refine rn ?_;refine .ret ?_
 exact ⟨rfl,rfl⟩
def Dw (a0:Int) : Option (Bool):=(if ((decide (0≤a0))&&(decide (a0<55296)))=true then (some (true)) else (if ((decide (57343<a0))&&(decide (a0≤1114111)))=true then (some (true)) else (some (false))))
theorem G7 {a0:Int} {r:Bool} (h:Dw a0=some r) :
  Fn Tryz.prog 199 [.i .i32 a0] (.d (.b r)):=by
 unfold Dw at h
 refine Fn.of (rs:=[.tmp 2]) (nt:=17) Tryz.func199 rfl rfl rfl (by simp) rfl ?_;refine .seq ?_;refine .region ?_;refine asd ?_;refine rn ?_;refine .gh (Gh.keep [0,2] rfl) ?_;refine .seq ?_;refine .block ?_;refine .seq ?_;refine AW.mr (σ:=Unit) (fun _=>True) (fun _=>[(0,.d (.i .i32 a0)),(2,.d (.b false)),(3,.d (.b ((decide (0≤a0))&&(decide (a0<55296)))))]) (fun _=>[]) ?_ ?_
 ·skip
  refine .region ?_;refine vk (Ae) ?_;refine vk (vbi) ?_
  by_cases hc:0≤a0
  ·have hb0:(decide (0≤a0))=true:=(dT hc)
   refine vk (VOK.lit (Ae) hb0) ?_;refine vk (Ae) ?_;refine vk (vbi) ?_;refine vk (Ap) ?_;refine asd ?_;refine RL.gh (Gh.keep [0,2,3] rfl) ?_;refine .nil ?_
   exact jr () trivial (by simp only [hb0];rfl)
  have hb0:(decide (0≤a0))=false:=(dF hc)
  refine vk (VOK.lit (Ae) hb0) ?_;refine gf2 ?_;refine vk (Ap) ?_;refine asd ?_;refine RL.gh (Gh.keep [0,2,3] rfl) ?_;refine .nil ?_
  exact jr () trivial (by simp only [hb0];rfl)
 rintro _ _
 by_cases hc:((decide (0≤a0))&&(decide (a0<55296)))=true
 ·replace h:=Mc hc h
  refine cnt hc ?_;refine .seq ?_;refine .region ?_;refine asd ?_;refine rn ?_;refine .gh (Gh.keep [2] rfl) ?_;refine .ret ?_
  cases h
  exact ⟨rfl,rfl⟩
 replace h:=LW hc h
 refine cnf (bf hc) ?_;refine .seq ?_;refine AW.mr (σ:=Unit) (fun _=>True) (fun _=>[(2,.d (.b false)),(10,.d (.b ((decide (57343<a0))&&(decide (a0≤1114111)))))]) (fun _=>[]) ?_ ?_
 ·skip
  refine .region ?_;refine vk (Ae) ?_;refine vk (vbi) ?_
  by_cases hc:57343<a0
  ·have hb0:(decide (57343<a0))=true:=(dT hc)
   refine vk (VOK.lit (Ae) hb0) ?_;refine vk (Ae) ?_;refine vk (vbi) ?_;refine vk (Ap) ?_;refine asd ?_;refine RL.gh (Gh.keep [2,10] rfl) ?_;refine .nil ?_
   exact jr () trivial (by simp only [hb0];rfl)
  have hb0:(decide (57343<a0))=false:=(dF hc)
  refine vk (VOK.lit (Ae) hb0) ?_;refine gf2 ?_;refine vk (Ap) ?_;refine asd ?_;refine RL.gh (Gh.keep [2,10] rfl) ?_;refine .nil ?_
  exact jr () trivial (by simp only [hb0];rfl)
 rintro _ _
 by_cases hc:((decide (57343<a0))&&(decide (a0≤1114111)))=true
 ·replace h:=Mc hc h
  refine cnt hc ?_;refine .seq ?_;refine .region ?_;refine asd ?_;refine rn ?_;refine .gh (Gh.keep [2] rfl) ?_;refine .ret ?_
  cases h
  exact ⟨rfl,rfl⟩
 replace h:=LW hc h
 refine cnf (bf hc) ?_;refine .skip ?_;refine aw ?_;refine .seq ?_;refine .region ?_;refine asd ?_;refine rn ?_;refine .gh (Gh.keep [2] rfl) ?_;refine .ret ?_
 cases h
 exact ⟨rfl,rfl⟩
theorem QW (s:ByteArray) (r:Int) (h0:0≤r) (h1:r<128) : Fn Tryz.prog 153 [.s s,.i .i32 r] (.d (.i .i64 (Ki s r))):=by
 refine Fn.of (rs:=[.tmp 4]) (nt:=187) Tryz.func153 rfl rfl rfl (by simp) rfl ?_;refine .seq ?_;refine .region ?_;refine asd ?_;refine rn ?_;refine .gh (Gh.keep [0,1,4] rfl) ?_;refine .block ?_;refine .seq ?_;refine .region ?_;refine vk (Ae) ?_;refine vk (vbi) ?_
 have hb0:(decide (0≤r))=true:=dT h0
 refine vk (VOK.lit (Ae) hb0) ?_;refine vk (Ae) ?_;refine vk (vbi) ?_;refine vk (Ap) ?_;refine asd ?_;refine rn ?_;refine .gh (Gh.keep [0,1,4,160] rfl) ?_;refine cnt (dT h1) ?_;refine .seq ?_;refine .region ?_;refine vk (Ae) ?_;refine vk (Ae) ?_
 have hw:IntKind.u8.wrap r=r:=by
  simp only [IntKind.wrap,IntKind.bits,IntKind.signed]
  simp
  omega
 refine vk (Wj (q1:=.i32) r hw (by kernel_rfl) (by kernel_rfl)) ?_;refine vk (Al (Lw s r) Tryz.call198) ?_;refine asd ?_;refine rn ?_;refine .ret ?_
 exact ⟨rfl,rfl⟩
theorem L8 (s:ByteArray) (r:Int) {x0 x1 x2 y2 p:Nat} (h0:2048≤r) (h1:r<55296) (he:HE (Utf8.encode r)=[x0,x1,x2]) (hs:s.size≤1000) (h2:(HE s)[2]?=some y2)
  (hc:(y2=x2∧p=2)∨(y2≠x2∧3≤p∧Ki (s.extract 3 s.size) x2=(p:Int)-3)) (hp1:(HE s)[p-1]?=some x1) (hp0:(HE s)[p-2]?=some x0) (hp:p<s.size) :
  Fn Tryz.prog 153 [.s s,.i .i32 r] (.d (.i .i64 ((p:Int)-2))):=by
 have hes:(Utf8.encode r).size=3:=by rw [← FS,he];rfl
 have hsub:DV.i .i64 (IntKind.i64.wrap (((Utf8.encode r).size:Int)-1))=.i .i64 2:=by rw [hes];rfl
 have hv:Dw r=some true:=by
  unfold Dw
  rw [dT (show (0:Int)≤r by omega),dT h1];rfl
 have h3:3≤s.size:=by
  have:=(lS.1 h2).1
  rw [FS] at this;omega
 refine Fn.of (rs:=[.tmp 4]) (nt:=187) Tryz.func153 rfl rfl rfl (by simp) rfl ?_;refine .seq ?_;refine .region ?_;refine asd ?_;refine rn ?_;refine .gh (Gh.keep [0,1,4] rfl) ?_;refine .block ?_;refine .seq ?_;refine .region ?_;refine vk (Ae) ?_;refine vk (vbi) ?_
 have hb0:(decide (0≤r))=true:=dT (by omega)
 refine vk (VOK.lit (Ae) hb0) ?_;refine vk (Ae) ?_;refine vk (vbi) ?_;refine vk (Ap) ?_;refine asd ?_;refine rn ?_;refine .gh (Gh.keep [0,1,4,160] rfl) ?_;refine cnf (show decide (r<128)=false from dF (by omega)) ?_;refine .seq ?_;refine .region ?_;refine vk (Ae) ?_;refine vk (vbi) ?_;refine asd ?_;refine rn ?_;refine .gh (Gh.keep [0,1,4,171] rfl) ?_;refine cnf (show decide (r=65533)=false from dF (by omega)) ?_;refine .seq ?_;refine .region ?_;refine vk (Ae) ?_;refine vk (Al (G7 hv) Tryz.call199) ?_;refine vk (vnt) ?_;refine asd ?_;refine rn ?_;refine .gh (Gh.keep [0,1,4,183] rfl) ?_;refine Cr ?_;refine .scope ?_;refine .seq ?_;refine .region ?_;refine vk (Ae) ?_;refine vk (ZV (by kernel_rfl) stS) ?_;refine asd ?_;refine rn ?_;refine .gh (Gh.keep [0,1,4,7] rfl) ?_;refine .seq ?_;refine .region ?_;refine vk (Ae) ?_;refine vk (VN stS) ?_;refine vk (TO (.i .i64 2) ⟨trivial,hsub⟩) ?_;refine asd ?_;refine rn ?_;refine .gh (Gh.keep [0,1,4,7,8] rfl) ?_;refine .seq ?_;refine .region ?_;refine vk (Ae) ?_;refine asd ?_;refine rn ?_;refine .gh (Gh.keep [0,1,4,7,8,9] rfl) ?_;refine .seq ?_;refine .region ?_;refine asd ?_;refine rn ?_;refine .gh (Gh.keep [0,1,4,7,8,9,10] rfl) ?_;refine .seq ?_;refine .block ?_
 refine .loop (.round ?_)
 refine .seq ?_;refine .seq ?_;refine .region ?_;refine vk (Ae) ?_;refine vk (Ae) ?_;refine vk (VN stS) ?_;refine vk (vbi) ?_;refine rn ?_;refine .gh (Gh.keep [0,1,4,7,8,9,10,26] rfl) ?_;refine cnt (show decide ((2:Int)<((s.size:Nat):Int))=true from dT (by omega)) ?_;refine .skip ?_;refine aw ?_;refine .block ?_;refine .scope ?_;refine .seq ?_;refine .seq ?_;refine .drawn 7 A6 (by kernel_rfl) ?_;refine dv (Ae) ?_;refine dv (Ae) ?_;refine dv (Qz 2 y2 rfl h2 stS) ?_;refine dv (Ae) ?_;refine dv (Ae) ?_;refine dv (Qz 2 x2 rfl (by rw [he];rfl) stS) ?_;refine dv (vbi) ?_;refine dz ?_;refine rn ?_;refine .gh (Gh.keep [0,1,4,7,8,9,10,33] rfl) ?_;refine AW.mr (σ:=Unit) (fun _=>True) (fun _=>[(0,.d (.s s)),(1,.d (.i .i32 r)),(4,.d (.i .i64 0)),(7,.d (.s (Utf8.encode r))),(8,.d (.i .i64 2)),(9,.d (.i .i64 (p:Int))),(10,.d (.i .i64 0))]) (fun _=>[]) ?_ ?_
 ·skip
  rcases hc with ⟨hc1,hc2⟩|⟨hc1,hc2,hc3⟩
  ·subst hc2
   refine cnf (ntf (dT (show (y2:Int)=x2 by omega))) ?_;refine .gh (Gh.keep [0,1,4,7,8,9,10] rfl) ?_;refine .skip ?_
   exact jr () trivial rfl
  have hI:=Lw (s.extract 3 s.size) x2
  rw [hc3] at hI
  refine cnt (ntt (dF (show ¬(y2:Int)=x2 by omega))) ?_;refine .seq ?_;refine .drawn 8 A6 (by kernel_rfl) ?_;refine dv (Ae) ?_;refine dv (Ae) ?_;refine dv (vad 3 ⟨rfl,by decide,by decide⟩) ?_;refine dv (ZC 3 ⟨rfl,h3⟩ stS) ?_;refine dv (Ae) ?_;refine dv (Ae) ?_;refine dv (Qz 2 x2 rfl (by rw [he];rfl) stS) ?_;refine dv (Al hI Tryz.call198) ?_;refine dz ?_;refine asd ?_;refine rn ?_;refine .gh (Gh.keep [0,1,4,7,8,9,10,11] rfl) ?_;refine .seq ?_;refine .seq ?_;refine .region ?_;refine vk (Ae) ?_;refine vk (vbi) ?_;refine rn ?_;refine .gh (Gh.keep [0,1,4,7,8,9,10,11,43] rfl) ?_;refine cnf (show decide ((p:Int)-3<0)=false from dF (by omega)) ?_;refine .skip ?_;refine aw ?_;refine .region ?_;refine vk (Ae) ?_;refine vk (Ae) ?_;refine vk (vad (m:=(p:Int)-3) (n:=1) ((p:Int)-2) ⟨by omega,by omega,by omega⟩) ?_;refine vk (vad (m:=2) (n:=(p:Int)-2) (p:Int) ⟨by omega,by omega,by omega⟩) ?_;refine asd ?_;refine RL.gh (Gh.keep [0,1,4,7,8,9,10] rfl) ?_;refine .nil ?_
  exact jr () trivial rfl
 rintro _ _
 refine .seq ?_;refine .seq ?_;refine .region ?_;refine asd ?_;refine rn ?_;refine .gh (Gh.keep [0,1,4,7,8,9,10,12] rfl) ?_;refine .block ?_;refine .loop ?_
 refine AL.ind (σ:=Nat) (m:=fun j=>3-j) (e:=fun j=>[(0,.d (.s s)),(1,.d (.i .i32 r)),(4,.d (.i .i64 0)),(7,.d (.s (Utf8.encode r))),(8,.d (.i .i64 2)),(9,.d (.i .i64 (p:Int))),(10,.d (.i .i64 0)),(12,.d (.i .i64 (j:Int)))]) (h:=fun _=>[]) (I:=fun j=>1≤j∧j≤3) ?_ 1 ⟨by omega,by omega⟩
 rintro j ⟨hj1,hj3⟩ ih
 refine .seq ?_;refine .seq ?_;refine .region ?_;refine vk (Ae) ?_;refine vk (Ae) ?_;refine vk (VN stS) ?_;refine vk (vbi) ?_;refine rn ?_;refine .gh (Gh.keep [0,1,4,7,8,9,10,12,51] rfl) ?_
 by_cases hj:j<3
 ·refine cnt (show decide ((j:Int)<(((Utf8.encode r).size:Nat):Int))=true from dT (by rw [hes];omega)) ?_
  refine .skip ?_;refine aw ?_
  obtain ⟨xj,hA,hB⟩:∃ xj,(HE s)[p-j]?=some xj∧(HE (Utf8.encode r))[2-j]?=some xj:=by
   have:j=1∨j=2:=by omega
   rw [he]
   rcases this with rfl|rfl
   ·exact ⟨x1,hp1,rfl⟩
   ·exact ⟨x0,hp0,rfl⟩
  have hp2:2≤p:=by rcases hc with ⟨_,q⟩|⟨_,q,_⟩<;>omega
  refine .seq ?_;refine .block ?_;refine .seq ?_;refine .drawn 11 A6 (by kernel_rfl) ?_;refine dv (Ae) ?_;refine dv (Ae) ?_;refine dv (Ae) ?_;refine dv (vsu (m:=(p:Int)) (n:=(j:Int)) (((p-j:Nat)):Int) ⟨by omega,by omega,by omega⟩) ?_;refine dv (Qz (p-j) xj rfl hA stS) ?_;refine dv (Ae) ?_;refine dv (Ae) ?_;refine dv (Ae) ?_;refine dv (vsu (m:=2) (n:=(j:Int)) (((2-j:Nat)):Int) ⟨by omega,by omega,by omega⟩) ?_;refine dv (Qz (2-j) xj rfl hB stS) ?_;refine dv (vbi) ?_;refine dz ?_;refine rn ?_;refine .gh (Gh.keep [0,1,4,7,8,9,10,12,64] rfl) ?_;refine cnf (ntf (dT (show (xj:Int)=xj from rfl))) ?_;refine .skip ?_;refine aw ?_;refine .region ?_;refine vk (Ae) ?_;refine vk (vad (m:=(j:Int)) (n:=1) ((j+1:Nat):Int) ⟨by omega,by omega,by omega⟩) ?_;refine asd ?_;refine .nil ?_;refine AL.gh (Gh.keep [0,1,4,7,8,9,10,12] rfl) ?_
  exact ih (j+1) ⟨by omega,by omega⟩ (by omega)
 have hp2:2≤p:=by rcases hc with ⟨_,q⟩|⟨_,q,_⟩<;>omega
 refine cnf (show decide ((j:Int)<(((Utf8.encode r).size:Nat):Int))=false from dF (by rw [hes];omega)) ?_;refine .exit ?_;refine aw ?_;refine .seq ?_;refine .seq ?_;refine .region ?_;refine vk (Ae) ?_;refine vk (Ae) ?_;refine vk (vsu (m:=(p:Int)) (n:=2) ((p:Int)-2) ⟨by omega,by omega,by omega⟩) ?_;refine asd ?_;refine rn ?_;refine .gh (Gh.keep [4] rfl) ?_;refine .ret ?_
 exact ⟨rfl,rfl⟩
theorem Rs (s:ByteArray) (r:Int) {x0 x1 x2 y2:Nat} (h0:2048≤r) (h1:r<55296) (he:HE (Utf8.encode r)=[x0,x1,x2]) (hs:s.size≤1000) (h2:(HE s)[2]?=some y2)
  (hc:y2≠x2) (hz:Ki (s.extract 3 s.size) x2<0):Fn Tryz.prog 153 [.s s,.i .i32 r] (.d (.i .i64 (-1))):=by
 have hes:(Utf8.encode r).size=3:=by rw [← FS,he];rfl
 have hsub:DV.i .i64 (IntKind.i64.wrap (((Utf8.encode r).size:Int)-1))=.i .i64 2:=by rw [hes];rfl
 have hv:Dw r=some true:=by
  unfold Dw
  rw [dT (show (0:Int)≤r by omega),dT h1];rfl
 have h3:3≤s.size:=by
  have:=(lS.1 h2).1
  rw [FS] at this;omega
 refine Fn.of (rs:=[.tmp 4]) (nt:=187) Tryz.func153 rfl rfl rfl (by simp) rfl ?_;refine .seq ?_;refine .region ?_;refine asd ?_;refine rn ?_;refine .gh (Gh.keep [0,1,4] rfl) ?_;refine .block ?_;refine .seq ?_;refine .region ?_;refine vk (Ae) ?_;refine vk (vbi) ?_
 have hb0:(decide (0≤r))=true:=dT (by omega)
 refine vk (VOK.lit (Ae) hb0) ?_;refine vk (Ae) ?_;refine vk (vbi) ?_;refine vk (Ap) ?_;refine asd ?_;refine rn ?_;refine .gh (Gh.keep [0,1,4,160] rfl) ?_;refine cnf (show decide (r<128)=false from dF (by omega)) ?_;refine .seq ?_;refine .region ?_;refine vk (Ae) ?_;refine vk (vbi) ?_;refine asd ?_;refine rn ?_;refine .gh (Gh.keep [0,1,4,171] rfl) ?_;refine cnf (show decide (r=65533)=false from dF (by omega)) ?_;refine .seq ?_;refine .region ?_;refine vk (Ae) ?_;refine vk (Al (G7 hv) Tryz.call199) ?_;refine vk (vnt) ?_;refine asd ?_;refine rn ?_;refine .gh (Gh.keep [0,1,4,183] rfl) ?_;refine Cr ?_;refine .scope ?_;refine .seq ?_;refine .region ?_;refine vk (Ae) ?_;refine vk (ZV (by kernel_rfl) stS) ?_;refine asd ?_;refine rn ?_;refine .gh (Gh.keep [0,1,4,7] rfl) ?_;refine .seq ?_;refine .region ?_;refine vk (Ae) ?_;refine vk (VN stS) ?_;refine vk (TO (.i .i64 2) ⟨trivial,hsub⟩) ?_;refine asd ?_;refine rn ?_;refine .gh (Gh.keep [0,1,4,7,8] rfl) ?_;refine .seq ?_;refine .region ?_;refine vk (Ae) ?_;refine asd ?_;refine rn ?_;refine .gh (Gh.keep [0,1,4,7,8,9] rfl) ?_;refine .seq ?_;refine .region ?_;refine asd ?_;refine rn ?_;refine .gh (Gh.keep [0,1,4,7,8,9,10] rfl) ?_;refine .seq ?_;refine .block ?_
 refine .loop (.round ?_)
 refine .seq ?_;refine .seq ?_;refine .region ?_;refine vk (Ae) ?_;refine vk (Ae) ?_;refine vk (VN stS) ?_;refine vk (vbi) ?_;refine rn ?_;refine .gh (Gh.keep [0,1,4,7,8,9,10,26] rfl) ?_;refine cnt (show decide ((2:Int)<((s.size:Nat):Int))=true from dT (by omega)) ?_;refine .skip ?_;refine aw ?_;refine .block ?_;refine .scope ?_;refine .seq ?_;refine .seq ?_;refine .drawn 7 A6 (by kernel_rfl) ?_;refine dv (Ae) ?_;refine dv (Ae) ?_;refine dv (Qz 2 y2 rfl h2 stS) ?_;refine dv (Ae) ?_;refine dv (Ae) ?_;refine dv (Qz 2 x2 rfl (by rw [he];rfl) stS) ?_;refine dv (vbi) ?_;refine dz ?_;refine rn ?_;refine .gh (Gh.keep [0,1,4,7,8,9,10,33] rfl) ?_
 have hI:=Lw (s.extract 3 s.size) x2
 refine cnt (ntt (dF (show ¬(y2:Int)=x2 by omega))) ?_;refine .seq ?_;refine .drawn 8 A6 (by kernel_rfl) ?_;refine dv (Ae) ?_;refine dv (Ae) ?_;refine dv (vad 3 ⟨rfl,by decide,by decide⟩) ?_;refine dv (ZC 3 ⟨rfl,h3⟩ stS) ?_;refine dv (Ae) ?_;refine dv (Ae) ?_;refine dv (Qz 2 x2 rfl (by rw [he];rfl) stS) ?_;refine dv (Al hI Tryz.call198) ?_;refine dz ?_;refine asd ?_;refine rn ?_;refine .gh (Gh.keep [0,1,4,7,8,9,10,11] rfl) ?_;refine .seq ?_;refine .seq ?_;refine .region ?_;refine vk (Ae) ?_;refine vk (vbi) ?_;refine rn ?_;refine .gh (Gh.keep [0,1,4,7,8,9,10,11,43] rfl) ?_;refine cnt (show decide (Ki (s.extract 3 s.size) x2<0)=true from dT hz) ?_;refine .seq ?_;refine .region ?_;refine asd ?_;refine rn ?_;refine .gh (Gh.keep [4] rfl) ?_;refine .ret ?_
 exact ⟨rfl,rfl⟩
def X9 (s:ByteArray) (r:Int) : List Nat→Option Nat→Option Int
 | [x0,x1,x2],some y2=>if y2=x2 then (if 3≤s.size∧(HE s)[1]?=some x1∧(HE s)[0]?=some x0 then some 0 else none)
  else if Ki (s.extract 3 s.size) x2<0 then some (-1)
  else if (HE s)[(Ki (s.extract 3 s.size) x2).toNat+2]?=some x1∧(HE s)[(Ki (s.extract 3 s.size) x2).toNat+1]?=some x0∧(Ki (s.extract 3 s.size) x2).toNat+3<s.size then some (Ki (s.extract 3 s.size) x2+1) else none
 | _,_=>none
def Tc (s:ByteArray) (r:Int) : Option Int :=
 if s.size≤1000 then (if 0≤r∧r<128 then some (Ki s r) else if 2048≤r∧r<55296 then X9 s r (HE (Utf8.encode r)) (HE s)[2]? else none) else none
theorem Wq {s:ByteArray} {r z:Int} (h:Tc s r=some z) : Fn Tryz.prog 153 [.s s,.i .i32 r] (.d (.i .i64 z)):=by
 unfold Tc at h
 by_cases hs:s.size≤1000
 rotate_left
 ·rw [if_neg hs] at h;cases h
 rw [if_pos hs] at h
 by_cases h1:0≤r∧r<128
 ·rw [if_pos h1] at h
  cases h
  exact QW s r h1.1 h1.2
 rw [if_neg h1] at h
 by_cases h2:2048≤r∧r<55296
 rotate_left
 ·rw [if_neg h2] at h;cases h
 rw [if_pos h2] at h
 generalize he:HE (Utf8.encode r)=e at h
 generalize hy:(HE s)[2]?=y at h
 unfold X9 at h
 split at h
 ·rename_i x0 x1 x2 y2
  split at h
  ·rename_i q
   split at h
   ·rename_i q2
    cases h
    exact L8 s r (p:=2) h2.1 h2.2 he hs hy (.inl ⟨q,rfl⟩) q2.2.1 q2.2.2 (by omega)
   ·cases h
  ·rename_i q
   split at h
   ·rename_i q2
    cases h
    exact Rs s r h2.1 h2.2 he hs hy q q2
   ·rename_i q2
    split at h
    ·rename_i q3
     cases h
     have e1:(((Ki (s.extract 3 s.size) x2).toNat+3:Nat):Int)-2=Ki (s.extract 3 s.size) x2+1:=by omega
     rw [← e1]
     exact L8 s r (p:=(Ki (s.extract 3 s.size) x2).toNat+3) h2.1 h2.2 he hs hy (.inr ⟨q,by omega,by omega⟩) q3.1 q3.2.1 q3.2.2
    ·cases h
 ·cases h
def M5 (s:ByteArray) (r:Int) : Option Bool:=(Tc s r).map fun z=>decide (0≤z)
theorem Qp {s:ByteArray} {r:Int} {b:Bool} (h:M5 s r=some b) : Fn Tryz.prog 94 [.s s,.i .i32 r] (.d (.b b)):=by
 unfold M5 at h
 rcases hz:Tc s r with _|z
 ·rw [hz] at h;cases h
 rw [hz] at h
 cases h
 refine Fn.of (rs:=[.tmp 4]) (nt:=9) Tryz.func94 rfl rfl rfl (by simp) rfl ?_;refine .seq ?_;refine .region ?_;refine asd ?_;refine rn ?_;refine .seq ?_;refine .region ?_;refine vk (Ae) ?_;refine vk (Ae) ?_;refine vk (Al (Wq hz) Tryz.call153) ?_;refine vk (vbi) ?_;refine asd ?_;refine rn ?_;refine .ret ?_
 exact ⟨rfl,rfl⟩
def txA : ByteArray:=⟨#[226,141,180,44,226,141,170,226,134,145,226,134,147,226,140,189,226,138,150,226,141,137,47,226,140,191,92,226,141,128]⟩
example : M5 txA 8854=some true:=by kernel_rfl
example : M5 txA 9076=some true:=by kernel_rfl
example : M5 txA 92=some true:=by kernel_rfl
end Go.FL
namespace Go.FL
open Go Go.Proofs
def Hj (a0:Arr) : Option ((List Int)×Int):=(if 1<((List.length a0.shape:Nat) : Int) then (some ([],4)) else ((M0 a0).bind fun x1=>(if x1.2=true then (some (x1.1,0)) else (some ([],3)))))
def HW (a0:Arr) (a1:Arr) : Option ((List Int)×Arr×Int):=((Hj a0).bind fun x1=>(jn ((if ((List.length x1.1:Nat) : Int)=((List.length a1.shape:Nat) : Int) then (some (x1.1,a1,0)) else (some ([],(Arr.mk [] []),5)))) fun K0=>(if x1.2=0 then (if ((decide (((List.length a1.shape:Nat) : Int)=0))&&(decide (8<((List.length x1.1:Nat) : Int))))=true then (some ([],(Arr.mk [] []),4)) else (if ((List.length a1.shape:Nat) : Int)=0 then none else (K0))) else (some ([],(Arr.mk [] []),x1.2)))))
def Il (a0:(List Int)) (c0:Int) (c1:(List Int)) : Option (Int):=((RP c1 a0).bind fun x1=>(some ((w64 (c0+x1)))))
def DT (x1:(List Int)×Arr×Int) (x3:(List Int)) (K0:(List Int)→Int→Option (Arr×Int)) : Nat→(List Int)→Int→Int→Option (Arr×Int)
 | 0,_,_,_=>none
 | k+1,s6,s7,s8=>(if s7<((List.length x1.1:Nat):Int) then (jn (fun (z9:(List Int)) (z10:Int)=>(DT x1 x3 K0 k z9 (w64 (s7+1)) z10)) fun K2=>((rd? x1.1 s7).bind fun x11=>((rd? x1.2.1.shape s7).bind fun x12=>(if 0≤x11 then ((rd? x3 s7).bind fun x13=>((rd? s6 s7).bind fun x14=>(K2 (List.set s6 (Int.toNat s7) (w64 (x12-(if x12<x11 then x12 else x11)))) (w64 (s8+(w64 (x13 * (if x12<x11 then x12 else x11)))))))) else ((rd? s6 s7).bind fun x15=>(K2 (List.set s6 (Int.toNat s7) (if (w64 (x12+(if x11<(IntKind.wrap .i64 (0-x12)) then (IntKind.wrap .i64 (0-x12)) else x11)))<0 then 0 else (w64 (x12+(if x11<(IntKind.wrap .i64 (0-x12)) then (IntKind.wrap .i64 (0-x12)) else x11))))) s8)))))) else (K0 s6 s8))
def Kf (a0:Arr) (a1:Arr) : Option (Arr×Int):=((HW a0 a1).bind fun x1=>(if x1.2.2=0 then ((GV (0≤((List.length x1.1:Nat) : Int)∧((List.length x1.1:Nat) : Int)≤17592186044416)).bind fun x2=>((FA x1.2.1.shape).bind fun x3=>(jn (fun (z4:(List Int)) (z5:Int)=>((ET x1.2.1 z4 (⟨.fn 221 [] [.ptr [.i .i64 z5],.ptr [.sl (Is x3)]],fun x=>Il x z5 x3⟩ : Im)).bind fun x16=>(some (x16.1,x16.2)))) fun K0=>(DT x1 x3 K0 As (List.replicate (Int.toNat ((List.length x1.1:Nat) : Int)) (0:Int)) 0 0)))) else (some ((Arr.mk [] []),x1.2.2))))
theorem Pe {xs:List Arr} {f:B3} {p:Arr→Bool} (hf:∀ x∈xs,f.g x=some (p x)) (K:Int→Option Int) (hl:xs.length≤17592186044416) : ∀ (n i k:Nat) (s:Int),n=xs.length-i→i≤xs.length→n<k →
  AA xs f K k s (i:Int)=match (xs.drop i).findIdx? p with|some j=>some (((i+j:Nat)):Int)|none=>K s
 | n,i,0,s,_,_,h=>by omega
 | n,i,k+1,s,hn,hi,hk=>by
  rw [AA]
  by_cases hlt:i<xs.length
  ·rw [if_pos (by omega),BE hlt,oB,hf _ (List.getElem_mem _),oB,lC hlt,List.findIdx?_cons]
   by_cases hp:p xs[i]=true
   ·rw [if_pos hp,if_pos hp];rfl
   ·rw [if_neg hp,if_neg hp,Bo (by omega),Pe hf K hl (n-1) (i+1) k s (by omega) (by omega) (by omega)]
    cases (xs.drop (i+1)).findIdx? p with
    | none=>rfl
    | some j=>simp only [Option.map_some];congr 1;omega
  ·rw [if_neg (by omega),List.drop_of_length_le (by omega)];rfl
theorem N2 {xs:List Arr} {f:B3} {p:Arr→Bool} (hf:∀ x∈xs,f.g x=some (p x)) (hl:xs.length≤17592186044416) : AD xs f=some (xs.any p):=by
 unfold AD Ba
 rw [Bp]
 have:=Pe hf (fun _=>some (-1)) hl xs.length 0 As 0 rfl (Nat.zero_le _) (AY (by omega))
 rw [List.drop_zero,show ((0:Nat):Int)=0 from rfl] at this
 rw [this]
 cases h:xs.findIdx? p with
 | none =>
  rw [oB]
  have h1:=List.findIdx?_eq_none_iff.1 h
  have e:xs.any p=false:=List.any_eq_false.2 fun x hx=>by rw [h1 x hx];decide
  rw [e];rfl
 | some j =>
  rw [oB]
  congr 1
  have h2:xs.any p=true:=by
   have:=List.findIdx?_isSome (xs:=xs) (p:=p)
   rw [h] at this
   exact this.symm
  rw [h2]
  exact dT (by omega)
theorem ZH {p:Prop} [Decidable p] (h:p) : GV p=some ():=if_pos h
def vec (xs:List Itm) : Arr:=.mk [(xs.length:Int)] xs
def VR (xs:List Itm) : Prop:=xs≠[]∧xs.length≤4096∧(∀ x∈xs,okI x)∧Bk (vec xs)
theorem J8 {n:Int} {xs:List Itm} : Bf (.mk [n] xs)=false:=by unfold Bf;rfl
theorem Xf {xs ys:List Itm} (h:ys.Sublist xs) : cIs ys≤cIs xs:=by
 induction h with
 | slnil=>exact Nat.le_refl _
 | cons a _ ih=>simp only [cIs];omega
 | cons_cons a _ ih=>simp only [cIs];omega
theorem Rf {xs ys:List Itm} (h:∀ x∈ys,x∈xs) : dIs ys≤dIs xs:=YS fun x hx=>Jx (h x hx)
theorem VR.ok {xs:List Itm} (h:VR xs) : okAr (vec xs):=by
 obtain ⟨_,h2,h3,_⟩:=h
 rw [BW]
 refine ⟨fun z hz=>?_,by show [(xs.length:Int)].length≤_;simp,by show xs.length≤_;omega,h3⟩
 have hz':z∈[(xs.length:Int)]:=hz
 rw [List.mem_singleton] at hz'
 omega
theorem VR.items {xs:List Itm} (h:VR xs) : ∀ x∈xs,okI x∧Br x:=fun x hx=>FQ h.ok h.2.2.2 (x:=x) hx
theorem VR.sz {xs:List Itm} (h:VR xs) : szP (vec xs).shape=((xs.length:Int),0):=Jt h.2.1
theorem VR.pos {xs:List Itm} (h:VR xs) : 0<xs.length:=List.length_pos_iff.2 h.1
theorem UZ {n:Nat} (h:n≤4096) : ∀ z∈[(n:Int)],-9223372036854775808≤z∧z≤9223372036854775807:=fun z hz=>by
 rw [List.mem_singleton] at hz;omega
theorem VR.make {xs:List Itm} (h:VR xs) : AZ [(xs.length:Int)] xs=some (vec xs,0):=by
 obtain ⟨h1,h2,h3,h4⟩:=h
 have hs:=Jt h2
 have hp:=List.length_pos_iff.2 h1
 have hc:¬(xs=[]∨¬∀ x∈xs,Br x):=fun q=>q.elim h1 fun q=>q fun x hx=>(VR.items ⟨h1,h2,h3,h4⟩ x hx).2
 rw [JF (UZ h2) (by simp) (by omega) h3,hs,if_neg (fun q=>q rfl),if_neg hc,Ih rfl (by omega),if_pos (show Bk (Arr.mk [(xs.length:Int)] xs) from h4)];rfl
theorem XN {xs:List Itm} {a:Arr} (hx:∀ x∈xs,okI x) (hl:xs.length≤1466015503701) (h:AZ [(xs.length:Int)] xs=some (a,0)) : VR xs∧a=vec xs:=by
 rw [JF (fun z hz=>by rw [List.mem_singleton] at hz;omega) (by simp) hl hx] at h
 by_cases h0:(szP [(xs.length:Int)]).2=0
 rotate_left
 ·rw [if_pos h0] at h
  exact absurd (congrArg Prod.snd (oI h)) h0
 have hd:=(Vg h0).1 _ (List.mem_singleton.2 rfl)
 have hs:=Jt (n:=xs.length) (by omega)
 rw [if_neg (fun q=>q h0)] at h
 by_cases hc:xs=[]∨¬∀ x∈xs,Br x
 ·rw [if_pos hc] at h
  exact absurd (congrArg Prod.snd (oI h)) (by show ¬(22:Int)=0;decide)
 rw [if_neg hc,hs] at h
 have h1:xs≠[]:=fun e=>hc (.inl e)
 have hp:=List.length_pos_iff.2 h1
 rw [Ih rfl (by omega)] at h
 by_cases hr:Bk (.mk [(xs.length:Int)] xs)
 ·rw [if_pos hr] at h
  exact ⟨⟨h1,by omega,hx,hr⟩,(congrArg Prod.fst (oI h)).symm⟩
 ·rw [if_neg hr] at h
  exact absurd (congrArg Prod.snd (oI h)) (by show ¬(8:Int)=0;decide)
theorem VR.of {xs:List Itm} (h1:xs≠[]) (h2:xs.length≤4096) (h3:∀ x∈xs,okI x∧rI x=true) (hd:dIs xs≤15) (hc:xs.length+cIs xs≤16384) : VR xs:=by
 refine ⟨h1,h2,fun x hx=>(h3 x hx).1,?_,?_,?_⟩
 ·rw [JN]
  show (decide ((szP [(xs.length:Int)]).2=0)&&(decide ((xs.length:Int)=if (szP [(xs.length:Int)]).1<1 then 1 else (szP [(xs.length:Int)]).1)&&rIs xs))=true
  have hp:=List.length_pos_iff.2 h1
  rw [Jt h2,FD.2 fun x hx=>(h3 x hx).2,if_neg (by show ¬(xs.length:Int)<1;omega)]
  simp
 ·rw [IM]
  show (if Bf (.mk [(xs.length:Int)] xs)=true then 0 else 1+dIs xs)≤16
  rw [J8,if_neg (by decide)];omega
 ·rw [Jm];exact hc
theorem VR.parts {xs:List Itm} (h:VR xs) : dIs xs≤15∧xs.length+cIs xs≤16384:=by
 obtain ⟨_,_,_,_,h2,h3⟩:=h
 rw [IM] at h2
 have h2':(if Bf (.mk [(xs.length:Int)] xs)=true then 0 else 1+dIs xs)≤16:=h2
 rw [J8,if_neg (by decide)] at h2'
 rw [Jm] at h3
 have h3':xs.length+cIs xs≤16384:=h3
 omega
theorem VR.sub {xs ys:List Itm} (h:VR xs) (hs:ys.Sublist xs) (hn:ys≠[]) : VR ys:=by
 obtain ⟨p1,p2⟩:=h.parts
 have hl:=hs.length_le
 have hc:=Xf hs
 have h2:=h.2.1
 exact .of hn (by omega) (fun x hx=>⟨(h.items x (hs.subset hx)).1,(h.items x (hs.subset hx)).2.1⟩) (nT (Rf fun x hx=>hs.subset hx) p1) (by omega)
theorem VR.zero {xs:List Itm} (h:VR xs) : AZ [0] [tyI (xs.headD default)]=some (.mk [0] [tyI (xs.headD default)],0)∧okAr (.mk [0] [tyI (xs.headD default)])∧Bk (.mk [0] [tyI (xs.headD default)]):=by
 obtain ⟨p1,p2⟩:=h.parts
 obtain ⟨x,ys,rfl⟩:=List.exists_cons_of_ne_nil h.1
 obtain ⟨ox,rx⟩:=h.items x (by simp)
 obtain ⟨t1,t2,t3,t4,t5,t6⟩:=So ox rx.1
 have hI:okI (tyI x)∧Br (tyI x):=⟨t6,t1,t2▸rx.2.1,t3▸rx.2.2⟩
 have hsz:szP [0]=(0,0):=rfl
 have hmk:CK (szP [0]).1 [tyI x]=[tyI x]:=by
  rw [hsz];show [tyI (tyI x)]=_;rw [t4]
 have hd:dI x≤15:=nT (Jx (List.mem_cons_self ..)) p1
 have hcx:1+cI x≤16384:=by
  have:cIs (x::ys)=cI x+cIs ys:=rfl
  rw [this,List.length_cons] at p2;omega
 have hR:Bk (.mk [0] [tyI x]):=by
  refine ⟨?_,?_,?_⟩
  ·rw [JN,Ff,D3,hsz,FD.2 (by simpa using t1)];rfl
  ·rw [IM,J8,if_neg (by decide),D3,dIs,dIs,Nat.max_zero,t2];omega
  ·rw [Jm,D3];simp only [cIs,List.length_singleton];omega
 have hc:¬([tyI x]=[]∨¬∀ y∈[tyI x],Br y):=fun q=>q.elim (fun e=>by cases e) fun q=>q fun y hy=>by rw [List.mem_singleton] at hy;subst hy;exact hI.2
 refine ⟨?_,?_,hR⟩
 ·show AZ [0] [tyI x]=some (.mk [0] [tyI x],0)
  rw [JF (fun z hz=>by rw [List.mem_singleton] at hz;omega) (by simp) (by simp) (fun y hy=>by rw [List.mem_singleton] at hy;subst hy;exact hI.1),hmk,if_neg (by rw [hsz];exact fun q=>q rfl),if_neg hc,if_pos hR]
 ·show okAr (.mk [0] [tyI x])
  rw [BW]
  exact ⟨fun z hz=>by rw [Ff,List.mem_singleton] at hz;omega,by simp [Ff],by simp [D3],fun y hy=>by rw [D3,List.mem_singleton] at hy;subst hy;exact hI.1⟩
theorem TD {z:Int} (hz:Ev z) : okAr (.mk [] [BH z])∧Bk (.mk [] [BH z]):=⟨V1 (Qa hz),(KM (GA hz) rfl (by show (1:Int)≠3;decide)).1⟩
theorem PM {z:Int} (h:Ev z) : M0 (.mk [] [BH z])=some ([z],true):=by
 obtain ⟨on,rn⟩:=TD h
 unfold M0 ZB
 rw [Hv on,oB,dT rn,if_pos rfl,if_pos (by simp [Ff]),Ku on,Ff,KV,if_neg (by rintro (q|q);exact absurd q (by decide);exact q rn),D3,oB,if_pos (by simp)]
 have:=OW (l:=[z]) (s:=[]) (by simpa using h) (by simp)
 rw [List.map_singleton] at this
 rw [this];rfl
theorem RJ {z:Int} (h:Ev z) : Hj (.mk [] [BH z])=some ([z],0):=by
 unfold Hj
 rw [Ff,if_neg (by simp),PM h];rfl
theorem SE {z n:Int} {xs:List Itm} (h:Ev z) : HW (.mk [] [BH z]) (.mk [n] xs)=some ([z],.mk [n] xs,0):=by
 unfold HW
 rw [RJ h,oB,Bp,if_pos rfl,Ff]
 rfl
theorem TZ {n:Nat} {xs:List Itm} {z:Nat} (hL:n≤4096) (hz:z≤1000) (K:List Int→Int→Option (Arr×Int)) (k:Nat) :
  DT ([(z:Int)],.mk [(n:Int)] xs,0) [1] K (k+2) [0] 0 0=K [((n-min z n:Nat):Int)] ((min z n:Nat):Int):=by
 rw [DT,if_pos (by simp),Bp,MV,oB,Ff,MV,oB,if_pos (by omega),MV,oB,MV,oB]
 have e:(if (n:Int)<(z:Int) then (n:Int) else (z:Int))=((min z n:Nat):Int):=by
  by_cases q:(n:Int)<(z:Int)
  ·rw [if_pos q];omega
  ·rw [if_neg q];omega
 have a1:w64 (1 * ((min z n:Nat):Int))=((min z n:Nat):Int):=by rw [Int.one_mul];exact AX (by omega) (by omega)
 have a2:w64 (0+((min z n:Nat):Int))=((min z n:Nat):Int):=by rw [Int.zero_add];exact AX (by omega) (by omega)
 have a3:w64 ((n:Int)-((min z n:Nat):Int))=((n-min z n:Nat):Int):=by rw [AX (by omega) (by omega)];omega
 have a4:w64 (0+1)=1:=AX (by omega) (by omega)
 rw [e,a1,a2,a3,a4]
 show DT _ [1] K (k+1) _ 1 _=_
 rw [DT,if_neg (by simp)]
 rfl
theorem Sb {n:Nat} {xs:List Itm} {z:Nat} (hL:n≤4096) (hz:z≤1000) : Kf (.mk [] [BH z]) (.mk [(n:Int)] xs) =
  ET (.mk [(n:Int)] xs) [((n-min z n:Nat):Int)] ⟨.fn 221 [] [.ptr [.i .i64 ((min z n:Nat):Int)],.ptr [.sl (Is [1])]],fun x=>Il x ((min z n:Nat):Int) [1]⟩:=by
 have hF:As=999999999999998+2:=rfl
 unfold Kf
 rw [SE ⟨by omega,by omega⟩,oB,if_pos rfl,ZH (by simp),oB,MP (by simp [Ff]),oB,Bp,hF]
 have hst:(MQ (Arr.mk [(n:Int)] xs).shape).1=[1]:=rfl
 simp only [hst]
 have:=TZ (n:=n) (xs:=xs) (z:=z) hL hz (fun z4 z5=>(ET (.mk [(n:Int)] xs) z4 ⟨.fn 221 [] [.ptr [.i .i64 z5],.ptr [.sl (Is [1])]],fun x=>Il x z5 [1]⟩).bind fun x16=>some (x16.1,x16.2)) 999999999999998
 refine Eq.trans this ?_
 generalize ET _ _ _=m
 cases m<;>rfl
theorem Zy {p:Itm} (o:okAr (.mk [0] [p])) (r:Bk (.mk [0] [p])) {z:Nat} (hz:z≤1000) : Kf (.mk [] [BH z]) (.mk [0] [p])=some (.mk [0] [tyI p],0):=by
 have:=Sb (n:=0) (xs:=[p]) (z:=z) (by omega) hz
 rw [show ((0:Nat):Int)=0 from rfl] at this
 rw [this]
 have hm:0-min z 0=0:=by omega
 rw [hm]
 refine (SF (V4 o r) (by simp) rfl).trans ?_
 exact UE o r rfl (fun z hz=>by rw [List.mem_singleton] at hz;omega) (by simp) rfl (.inr rfl)
end Go.FL
namespace Go.FL
open Go Go.RowKit
def NR : AV→Bool
 | .ref (.c _ _) _ _=>false
 | .ep (.c _ _) _ _=>false
 | av=>noBp av
section
variable {P:Program} {C:Cx} {X:Snap} {o:Oper} {ops:Array Oper} {Q:Exit→Env→Ac→Prop} {env env':Env} {H H':Ac} {a:Act} {w w':World} {I I':Nat→Prop} {μ μ':List Nat} {O O':Nat→Option Loc}
 {K:Env→Ac→Prop} {k:Nat} {l:List Oper}
theorem PX {p:AV→Bool} (hu:p .un=true) : ∀ {env:Env},(env.all fun x=>p x.2)=true→∀ t,p (get env t)=true
 | [],_,_=>hu
 | (s,v)::r,h,t=>by
  simp only [List.all_cons,Bool.and_eq_true] at h
  simp only [get]
  split
  ·exact h.1
  ·exact PX hu h.2 t
theorem Gh2.drop (hb:(env.all fun x=>NR x.2)=true) (hne:C.ne=0) : Gh2 P C env H env []:=fun X a w I μ O _ h2 h3 hs=>by
 have hne':X.ne=0:=h3.trans hne
 refine ⟨I,[],O,{
  prot:=hs.prot,kO:=hs.kO,kI:=hs.kI,mono:=hs.mono,os:=hs.os,tape:=hs.tape,output:=hs.output,size:=hs.size,own:=hs.own,ilt:=hs.ilt
  μlen:=rfl
  μpre:=fun i b hi _=>by omega
  nle:=by simp [hne']
  heap:=fun id ob ho=>by simp at ho
  klt:=hs.klt
  n0le:=hs.n0le
  envr:=fun s=>?_
  nt:=hs.nt
  dfs:=hs.dfs}⟩
 have hp:=PX (p:=NR) rfl hb s
 have ht:=hs.envr s
 have plain:∀ av,get env s=av→noBp av=true→A4 av=false→TRep P env [] a w I [] O s av:=by
  intro av hav hn hr
  rw [hav] at ht
  obtain ⟨bs,g1,g2,g3⟩:=ht.plain hr
  exact .of (g1.noBp (μ':=[]) hn) g2 g3
 cases hgs:get env s with
 | ref p off len =>
  rw [hgs] at hp
  cases p with
  | c _ _=>simp [NR] at hp
  | t r =>
   rw [hgs] at ht
   obtain ⟨e',xs,A,n,c,g1,g2,g3,g4⟩:=ht
   exact ⟨e',xs,A,n,c,g1,g2,g3,g4⟩
 | ep p i k =>
  rw [hgs] at hp
  cases p with
  | c _ _=>simp [NR] at hp
  | t r =>
   rw [hgs] at ht
   obtain ⟨e',xs,b,n,c,g1,g2,g3,g4,g5⟩:=ht
   exact ⟨e',xs,b,n,c,g1,g2,g3,g4,g5⟩
 | _ =>
  rw [hgs] at hp
  exact plain _ hgs hp rfl
theorem Mr {c:Call} {f t s t0:Nat} {avs:List AV} {r:AV} {xa:List Operand} {e:TypeId} {xs:List DV} (xs':List DV) (h:RL P C ops Q (k+1) l ((t,r)::(t0,.own e xs')::(s,.un)::env) []) (hfn:FnG P f (.own e xs::avs) H r [.own e xs'] H)
  (hcall:∀ args w,(callFunc f args).run P w=.ok (.enter f args) w) (hg:grd ops env o true=true:=by rfl) (ho:o.op=.call c:=by rfl) (hc:c.callee=.value (.func f):=by rfl) (hx:c.args.toList=.tmp s::xa:=by rfl)
  (hv:get env s=.ref (.t t0) 0 xs.length:=by rfl) (hp:get env t0=.own e xs:=by rfl) (ha:argsA ((t0,.un)::env) xa=some avs:=by rfl) (hcr:BZ env=false:=by rfl) (hr:DH t0 ((s,.un)::env.filter fun x=>x.1 != s)=false:=by rfl) (hd:o.dst=some t:=by rfl)
  (hf:An (get env t)=false:=by rfl) (hst:s≠t0:=by decide) (htt:t≠t0:=by decide) (ht:okT C.nt t:=by rfl) (h0:C.n0=0:=by rfl) (hne:C.ne=0:=by rfl) (hb:(((t,r)::(t0,.own e xs')::(s,.un)::env).all fun x=>NR x.2)=true:=by rfl):RL P C ops Q k (o::l) env H :=
 ZY xs' (fun _=>RL.gh2 (Gh2.drop hb hne) h) hfn hcall hg ho hc hx hv hp ha hcr hr hd hf hst htt ht h0
theorem YN {e:TypeId} {xs:List DV} (hH:H=[]) (h0:get env 0=.own e xs) : Zj [] (.tup []) [.own e xs] [] .ret env H :=
 ⟨⟨[],by rw [hH];rfl⟩,rfl,fun i c hi=>by
  cases i with
  | zero=>simp at hi;subst hi;exact ⟨h0,rfl,by simp⟩
  | succ i=>simp at hi⟩
theorem NL {e:TypeId} {xs:List DV} (hH:H=[]) (h0:get env 0=.own e xs) : Zj [] (.tup []) [.own e xs] [] .normal env H:=YN (env:=env) hH h0
end
end Go.FL
namespace Go.FL
open Go Go.RowKit
section
variable {P:Program} {C:Cx} {X:Snap} {o:Oper} {ops:Array Oper} {Q:Exit→Env→Ac→Prop} {env env':Env} {H H':Ac} {a:Act} {w w':World} {I I':Nat→Prop} {μ μ':List Nat} {O O':Nat→Option Loc}
 {K:Env→Ac→Prop} {k:Nat} {l:List Oper}
theorem V7 {p:Pl} {e:TypeId} {xs:List DV} (hp:AI env H p=.own e xs) (v:AV) : AI (Hk p v env) (Io p v H) p=v:=by
 cases p with
 | t n=>simp [AI,Hk,get]
 | c id off =>
  simp only [AI] at hp
  cases hH:H[id]? with
  | none=>rw [hH] at hp;cases hp
  | some ob =>
   cases ob with
   | box cs =>
    rw [hH] at hp
    replace hp:cs.getD off .un=.own e xs:=hp
    have hlt:off<cs.length:=by
     rw [lD] at hp
     cases hx:cs[off]? with
     | none=>simp [hx] at hp
     | some y=>exact (lS.1 hx).1
    have hlt':id<H.length:=(lS.1 hH).1
    have h2:Io (.c id off) v H=H.set id (.box (cs.set off v)):=by simp [Io,Eo,hH]
    have h3:(H.set id (.box (cs.set off v)))[id]?=some (.box (cs.set off v)):=by simp [hlt']
    rw [h2]
    simp only [AI,h3]
    show (cs.set off v).getD off .un=v
    rw [lD,List.getElem?_set_self hlt];rfl
theorem TP (p:Pl) (v v':AV) (H:Ac) : Io p v (Io p v' H)=Io p v H:=by
 cases p with
 | t n=>rfl
 | c id off =>
  simp only [Io,Eo]
  cases hH:H[id]? with
  | none=>simp [hH]
  | some ob =>
   cases ob with
   | box cs =>
    have hlt':id<H.length:=(lS.1 hH).1
    simp [hlt']
theorem T6 (p:Pl) (v v':AV) (env:Env) (s:Nat) : get (Hk p v env) s=get (Hk p v (Hk p v' env)) s:=by
 cases p with
 | t n =>
  simp only [Hk,get]
  split<;>rfl
 | c id off=>rfl
theorem WG {p:Pl} {v:AV} (hp:AI env H p=v) (hv:v≠.un) : Io p v H=H:=by
 cases p with
 | t n=>rfl
 | c id off =>
  simp only [AI] at hp
  cases hH:H[id]? with
  | none=>rw [hH] at hp;exact absurd hp.symm hv
  | some ob =>
   cases ob with
   | box cs =>
    rw [hH] at hp
    replace hp:cs.getD off .un=v:=hp
    simp only [Io,Eo,hH]
    have:cs.set off v=cs:=by
     refine List.set_same _ _ ?_
     rw [lD] at hp
     cases hx:cs[off]? with
     | none=>simp [hx] at hp;exact absurd hp.symm hv
     | some y=>simp [hx] at hp;rw [hp]
    rw [this,List.set_same _ _ hH]
theorem RC {p:Pl} {v:AV} (hp:AI env H p=v) (s:Nat) : get (Hk p v env) s=get env s:=by
 cases p with
 | t n =>
  simp only [Hk,get]
  split
  ·rename_i h;subst h;exact hp.symm
  ·rfl
 | c id off=>rfl
theorem Sim.storeA {p:Pl} {i r:Nat} {e:TypeId} {addr:Addr} (ha:a.tmps.getD r undef=.pointer (some addr)) (hn:∀ id off,p=.c id off→X.n0≤id) : ∀ (us:List Value) (k:Nat) (ds zs:List DV) (env:Env) (H:Ac) (w:World) (xs:List DV),Sim P X env H a w I μ O →
  AI env H p=.own e xs→get env r=.ep p i 0→xs[i]?=some (.ag zs)→zs.length=AB P e→k+us.length≤zs.length→RepAll w I ds us→(∀ u∈us,u.oneCell'=true) →
  ∃ w',(storeCells addr us k).run P w=.ok () w'∧Sim P X (Hk p (.own e (xs.set i (.ag (zs.take k++ds++zs.drop (k+us.length))))) env) (Io p (.own e (xs.set i (.ag (zs.take k++ds++zs.drop (k+us.length))))) H) a w' I μ O
 | [],k,ds,zs,env,H,w,xs,hs,hp,hv,hx,hl,hk,hr,h1=>by
  cases hr
  have e1:xs.set i (.ag (zs.take k++[]++zs.drop (k+([]:List Value).length)))=xs:=by
   rw [List.append_nil,List.length_nil,Nat.add_zero,List.take_append_drop,List.set_same _ _ hx]
  rw [e1,WG hp (by simp)]
  exact ⟨w,rfl,hs.same fun s=>RC hp s⟩
 | u::us,k,ds,zs,env,H,w,xs,hs,hp,hv,hx,hl,hk,hr,h1=>by
  cases hr with
  | @cons d _ ds _ hd ht =>
   rw [List.length_cons] at hk
   have he0:LU P env H a w μ p i 0 (.pointer (some addr)):=by
    have:=hs.envr r
    rw [hv] at this
    rwa [← ha]
   obtain ⟨e',ys,b,n,c,g1,g2,g3,g4,g5⟩:=he0
   have hye:AV.own e xs=.own e' ys:=hp.symm.trans g1
   cases hye
   simp only [Value.pointer.injEq,Option.some.injEq,Nat.add_zero] at g5
   subst g5
   have hek:LU P env H a w μ p i k (.pointer (some ⟨b,i * AB P e+k,none⟩)):=⟨e,xs,b,n,c,g1,g2,g3,by omega,rfl⟩
   have hu:=h1 u (by simp)
   obtain ⟨b',off,q1,⟨u0,q2⟩,q3,q4⟩:=hs.storeE hp hn hek (x':=.ag (zs.set k d)) (x0:=d) hx rfl hd hu
   simp only [Value.pointer.injEq,Option.some.injEq,Addr.mk.injEq,and_true] at q1
   obtain ⟨rfl,rfl⟩:=q1
   have hIb:¬I b:=by
    obtain ⟨v,bs,m1,m2,m3,m4⟩:=hs.at_place hp
    rw [g2] at m1;cases m1
    have hc0:¬c=0:=by have:=E4 m2;omega
    have hb:b∈bs:=by rw [m3];simp [BG,hc0]
    obtain ⟨k1,k2,k3⟩:=m4 b hb
    cases p with
    | t n=>exact (hs.own b _ (k2 n rfl)).2
    | c id off=>exact (hs.own b _ ((k3 id off rfl).1 (hn id off rfl))).2
   have hst:(store ((⟨b,i * AB P e,none⟩:Addr).add k) u).run P w=.ok () (w.setCell ⟨b,i * AB P e+k,none⟩ u):=by
    have hadd:(⟨b,i * AB P e,none⟩:Addr).add k=⟨b,i * AB P e+k,none⟩:=by unfold Addr.add;split<;>simp_all
    rw [hadd,run_store P w _ u _ hu,q2]
    simp [q3]
   have hkl:k<zs.length:=by omega
   have hset:(xs.set i (.ag (zs.set k d)))[i]?=some (.ag (zs.set k d)):=by
    have:i<xs.length:=(lS.1 hx).1
    simp [this]
   have hv':get (Hk p (.own e (xs.set i (.ag (zs.set k d)))) env) r=.ep p i 0:=by
    cases p with
    | t n =>
     have:n≠r:=fun h=>by
      subst h
      simp only [AI] at hp
      rw [hp] at hv;cases hv
     simp only [Hk,get,if_neg this];exact hv
    | c id off=>exact hv
   obtain ⟨w2,z1,z2⟩:=Sim.storeA ha hn us (k+1) ds (zs.set k d) _ _ _ _ q4 (V7 hp _) hv' hset (by simpa using hl) (by simp;omega)
    (ht.keep (fun b' hb'=>heap_setCell_other w ⟨b,i * AB P e+k,none⟩ b' u fun e=>hIb (by rw [← (show b'=b from e)];exact hb')) fun _ h=>h) fun u hu=>h1 u (by simp [hu])
   refine ⟨w2,?_,?_⟩
   ·simp only [storeCells,Sem.run_bind,hst,Result.andThen_ok,z1]
   ·have e1:(zs.set k d).take (k+1)++ds++(zs.set k d).drop (k+1+us.length)=zs.take k++d::ds++zs.drop (k+(u::us).length):=by
     have t1:(zs.set k d).take (k+1)=zs.take k++[d]:=by
      rw [List.take_add_one,List.getElem?_set_self (by omega),List.take_set_of_le (Nat.le_refl k)];rfl
     have t2:(zs.set k d).drop (k+1+us.length)=zs.drop (k+1+us.length):=by
      rw [List.drop_set_of_lt (by omega)]
     rw [t1,t2,List.length_cons,show k+(us.length+1)=k+1+us.length by omega];simp
    rw [e1,List.set_set,TP] at z2
    exact z2.same fun s=>T6 _ _ _ _ _
theorem ZW {α:Type} {F:List α→List DV} {ds zs:List DV} {us:List α} {n m:Nat} {x:α} {y:Operand} {r ty e:Nat} {p:Pl} (hset:(F us).set n (.ag ds)=F (us.set n x)) (hm:m=n) (hx:(F us)[0+n]?=some (.ag zs)) (hl:zs.length=ds.length)
  (h:RL P C ops Q (k+1) l (Hk p (.own e (F (us.set m x))) env) (Io p (.own e (F (us.set m x))) H)) (hsz:AB P ty=ds.length) (hsz2:AB P e=ds.length) (h0:0<ds.length)
  (hg:grd ops env o true=true:=by rfl) (ho:o.op=.store ty (.tmp r) y:=by rfl) (hv:get env r=.ep p (0+n) 0:=by rfl) (hp:AI env H p=.own e (F us):=by rfl) (hy:lk env y=.d (.ag ds):=by rfl) (h1:ds.all DV.leaf=true:=by rfl) (hd:o.dst=none:=by rfl)
  (hn:∀ id off,p=.c id off→C.n0≤id:=by (intro _ _ h;cases h<;>decide)):RL P C ops Q k (o::l) env H:=by
 subst hm
 refine .go hg (.done (by simp [ho]) hd (fun X a w I μ O _ g2 _ hs=>?_) h)
 have hr:=hs.deep (x:=y) (v:=.ag ds) (by rw [hy];rfl)
 generalize hev:a.eval y=u at hr
 cases hr with
 | ag _ vs hr =>
  have he:=hs.envr r
  rw [hv] at he
  obtain ⟨e',ys,b,n',c,g1,g2',g3,g4,g5⟩:=he
  have hye:AV.own e (F us)=.own e' ys:=hp.symm.trans g1
  cases hye
  have hvl:vs.length=ds.length:=hr.length.symm
  obtain ⟨w',z1,z2⟩:=Sim.storeA g5 (fun id off h=>by rw [g2];exact hn id off h) vs 0 ds zs env H w (F us) hs hp hv hx (by rw [hl,hsz2]) (by omega) hr (hr.one h1)
  refine ⟨w',I,μ,O,?_,?_⟩
  ·have hx':a.eval (.tmp r)=.pointer (some ⟨b,(0+m) * AB P e+0,none⟩):=g5
   have hs':(sizeOf ty).run P w=.ok vs.length w:=by rw [hvl,← hsz];exact Ha (by omega)
   have z1':(storeCells ⟨b,m * AB P e,none⟩ vs).run P w=.ok () w':=by simpa using z1
   have hsv:(storeVar ty ⟨b,(0+m) * AB P e+0,none⟩ (.agg vs.toArray)).run P w=.ok () w':=by
    simp [storeVar,hs',Value.cells,z1']
   simp only [execOp,ho,hx',hev,Instr.storeAt,Instr.sureAddr,Sem.run_bind,Sem.run_pure,Result.andThen_ok,hsv]
  ·have e1:zs.take 0++ds++zs.drop (0+vs.length)=ds:=by
    rw [Nat.zero_add,List.drop_of_length_le (by omega)];simp
   rw [e1,Nat.zero_add,hset] at z2
   exact z2
end
end Go.FL
namespace Go.FL
open Go Go.RowKit
section
variable {P:Program} {C:Cx} {X:Snap} {o:Oper} {ops:Array Oper} {Q:Exit→Env→Ac→Prop} {env env' envi:Env} {H H' H1:Ac} {a:Act} {w w':World} {I I':Nat→Prop} {μ μ':List Nat} {O O':Nat→Option Loc}
 {K:Env→Ac→Prop} {k:Nat} {l:List Oper} {av:AV}
def MA (ops:Array Oper) (m:Nat) : Bool :=
 ((List.range ops.size).all fun i=>match ops[i]? with
  | some o=>o.after.all (fun e=>!Region.binds .any e||decide (e.on<i))&&(match o.op with|.select ..=>false|_=>true) &&
   ((List.range m).all fun j=>match ops[j]? with
     | some oj=>match oj.dst with
      | some t=>!(o.looksAt ops).contains t||(decide (j<i)&&E7 ops i j)
      | none=>false
     | none=>false)&&(decide (i<m)||o.guard.isNone)
  | none=>false)&&decide (m≤ops.size)
theorem NJ {m:Nat} (h:MA ops m=true) : m≤ops.size∧∀ (i:Nat) o,ops[i]?=some o →
  (∀ e∈o.after,Region.binds .any e=true→e.on<i)∧(∀ j,j<m→∃ oj t,ops[j]?=some oj∧oj.dst=some t∧(t∈o.looksAt ops→j<i∧E7 ops i j=true))∧(m≤i→o.guard=none):=by
 unfold MA at h
 simp only [Bool.and_eq_true,decide_eq_true_eq] at h
 obtain ⟨h,hm⟩:=h
 refine ⟨hm,fun i o ho=>?_⟩
 have hi:i<ops.size:=(Array.getElem?_eq_some_iff.1 ho).1
 have:=List.all_eq_true.1 h i (List.mem_range.2 hi)
 rw [ho] at this
 simp only [Bool.and_eq_true] at this
 obtain ⟨⟨⟨h1,_⟩,h3⟩,h4⟩:=this
 refine ⟨fun e he hb=>?_,fun j hj=>?_,fun him=>?_⟩
 ·obtain ⟨k,hk,rfl⟩:=Array.mem_iff_getElem.1 he
  have:=Array.all_eq_true.1 h1 k hk
  rw [hb] at this
  simpa using this
 ·have:=List.all_eq_true.1 h3 j (List.mem_range.2 hj)
  split at this
  ·rename_i oj hoj
   split at this
   ·rename_i t ht
    refine ⟨oj,t,hoj,ht,fun hm=>?_⟩
    have hc:(o.looksAt ops).contains t=true:=List.contains_iff_mem.2 hm
    rw [hc] at this
    simpa using this
   ·cases this
  ·cases this
 ·rw [Bool.or_eq_true] at h4
  rcases h4 with h4|h4
  ·have:=of_decide_eq_true h4;omega
  ·simpa using h4
theorem Z0 {m:Nat} {env0:Env} {tv:List (Nat×AV)} (hok:MA ops m=true) (hlen:tv.length=m) (hone:∀ i,i<m→∃ o t v,ops[i]?=some o∧tv[i]?=some (t,v)∧N8 P C ops H env0 (tv.take i).reverse o t v)
  (hdist:∀ (i j t:Nat) v u,tv[i]?=some (t,v)→tv[j]?=some (t,u)→i=j)
  (hst:∀ i o,m≤i→ops[i]?=some o→∀ e,(∀ (j t:Nat) v,E7 ops i j=true→tv[j]?=some (t,v)→get e t=v)→(∀ t,(∀ (j:Nat) v,tv[j]?≠some (t,v))→get e t=get env0 t)→OpOK P C o e H fun e' H'=>(∀ t,get e' t=get e t)∧H'=H)
  (hfin:RL P C ops Q ops.size [] (tv.reverse++env0) H) (n1:X.nt=C.nt) (n2:X.n0=C.n0) (n3:X.ne=C.ne):∀ (fuel:Nat) (L:Array Bool) (a:Act) (w:World) (I:Nat→Prop) (μ:List Nat) (O:Nat→Option Loc),L.size=ops.size→Se ops L →
   (List.range ops.size).countP (fun i=>!L.getD i false)≤fuel→Sim P X (Dz tv env0 L) H a w I μ O→wpAnyIn (om C.ro) 0 P .any ops (Post P X Q) fuel L a w:=by
 obtain ⟨hm,hat⟩:=NJ hok
 have fin:∀ (fuel:Nat) (L:Array Bool) (a:Act) (w:World) (I:Nat→Prop) (μ:List Nat) (O:Nat→Option Loc),L.size=ops.size→(∀ j,j<ops.size→L.getD j false=true) →
   Sim P X (Dz tv env0 L) H a w I μ O→wpAnyIn (om C.ro) 0 P .any ops (Post P X Q) fuel L a w:=by
  intro fuel L a w I μ O hL hall hs
  refine wpAnyIn_done ?_ ?_ fuel
  ·apply List.eq_nil_iff_forall_not_mem.2
   intro j hj
   obtain ⟨h1,o,ho,_⟩:=mem_ready.1 hj
   have hlt:=(Array.getElem?_eq_some_iff.1 ho).1
   rw [Cg (by omega),hall j hlt] at h1;cases h1
  ·refine hfin (by simp) X a w I μ O n1 n2 n3 (hs.same (env':=tv.reverse++env0) fun t=>?_)
   by_cases hex:∃ (i:Nat) (v:AV),tv[i]?=some (t,v)
   ·obtain ⟨i,v,hi⟩:=hex
    rw [BT hdist (hall i (by have:=(lS.1 hi).1;omega)) hi]
    have hmem:(t,v)∈tv.reverse:=List.mem_reverse.2 (List.mem_of_getElem? hi)
    rw [Bi,if_pos (List.contains_iff_mem.2 (List.mem_map_of_mem (f:=(·.1)) hmem))]
    refine D8 hmem fun u hu=>?_
    obtain ⟨j,hj⟩:=List.getElem?_of_mem (List.mem_reverse.1 hu)
    have:=hdist i j t v u hi hj
    subst this
    rw [hi] at hj;simp only [Option.some.injEq,Prod.mk.injEq,true_and] at hj;exact hj.symm
   ·rw [Bq fun i v _ hi=>hex ⟨i,v,hi⟩,Bi,if_neg]
    intro hc
    obtain ⟨x,hx,rfl⟩:=List.mem_map.1 (List.contains_iff_mem.1 hc)
    obtain ⟨i,hi⟩:=List.getElem?_of_mem (List.mem_reverse.1 hx)
    exact hex ⟨i,x.2,hi⟩
 intro fuel
 induction fuel with
 | zero =>
  intro L a w I μ O hL hD hf hs
  refine fin 0 L a w I μ O hL (fun j hj=>?_) hs
  cases hv:L.getD j false with
  | true=>rfl
  | false =>
   have:0<(List.range ops.size).countP (fun i=>!L.getD i false):=List.countP_pos_iff.2 ⟨j,List.mem_range.2 hj,by rw [hv];rfl⟩
   omega
 | succ fuel ih =>
  intro L a w I μ O hL hD hf hs
  by_cases hall:∀ j,j<ops.size→L.getD j false=true
  ·exact fin _ L a w I μ O hL hall hs
  obtain ⟨j0,⟨hj0,hj1⟩,hmin⟩:∃ j,(j<ops.size∧L.getD j false=false)∧∀ k,k<j→L.getD k false=true:=by
   have hex:∃ j,j<ops.size∧L.getD j false=false:=by
    apply Classical.byContradiction
    intro hno
    refine hall fun j hj=>?_
    cases hv:L.getD j false with
    | true=>rfl
    | false=>exact absurd ⟨j,hj,hv⟩ hno
   obtain ⟨j,hj⟩:=hex
   induction j using Nat.strongRecOn with
   | ind j ihj =>
    by_cases hk:∃ k,k<j∧L.getD k false=false
    ·obtain ⟨k,hk1,hk2⟩:=hk
     exact ihj k hk1 ⟨by omega,hk2⟩
    ·refine ⟨j,hj,fun k hk1=>?_⟩
     cases hv:L.getD k false with
     | true=>rfl
     | false=>exact absurd ⟨k,hk1,hv⟩ hk
  have hr0:j0∈Region.ready .any ops L:=mem_ready.2 ⟨by rw [Cg (by omega)];exact hj1,_,Array.getElem?_eq_getElem (by omega),fun e he hb=>hmin _ ((hat j0 _ (Array.getElem?_eq_getElem (by omega))).1 e he hb)⟩
  refine ⟨fun h0=>(by rw [h0] at hr0;cases hr0),fun i hi=>?_⟩
  obtain ⟨h1,o,ho,h2⟩:=mem_ready.1 hi
  have hlt:=(Array.getElem?_eq_some_iff.1 ho).1
  rw [Cg (by omega)] at h1
  have hD':Se ops (L.setIfInBounds i true):=fun k ok hk hok' e he hb=>by
   rw [AC (by omega)] at hk ⊢
   split at hk
   ·rename_i hik;subst hik
    rw [ho] at hok';cases hok'
    split
    ·rfl
    ·exact h2 e he hb
   ·split
    ·rfl
    ·exact hD k ok hk hok' e he hb
  have hcount:(List.range ops.size).countP (fun k=>!(L.setIfInBounds i true).getD k false)≤fuel:=by
   have:=Ij (fun i=>!L.getD i false) (fun k=>!(L.setIfInBounds i true).getD k false) i (by simp only [h1];rfl) (by simp only [AC (by omega:i<L.size),if_true];rfl)
    (fun j hj=>by simp only [AC (by omega:i<L.size)];rw [if_neg (Ne.symm hj)]) (List.range ops.size) (List.mem_range.2 hlt) List.nodup_range
   omega
  rcases Nat.lt_or_ge i m with him|him
  ·refine QA (fun i o _ ho=>(hat i o ho).2.1) hlen (by omega) hone hdist n1 n2 n3 hL him hi hs fun a' w' I' O' hs'=>?_
   exact ih _ a' w' I' μ O' (by simpa using hL) hD' hcount hs'
  ·have hg:=(hat i o ho).2.2 him
   unfold wpOpIn
   simp only [ho]
   rw [if_pos (by simp [Region.wanted,hg])]
   refine hst i o him ho (Dz tv env0 L) (fun j t v hd hj=>?_) (fun t ht=>Bq fun j v _ hj=>ht j v hj) X a w I μ O _ _ n1 n2 n3 hs fun env' H' a' w' I' μ' O' hs' hK=>?_
   ·obtain ⟨o2,ho2,e,he,hb,rfl⟩:=FM hd
    rw [ho] at ho2;cases ho2
    exact BT hdist (h2 e he hb) hj
   ·obtain ⟨hK,rfl⟩:=hK
    have heL:Dz tv env0 (L.setIfInBounds i true)=Dz tv env0 L:=by
     have hfm:∀ (l:List Nat),(∀ j∈l,j<m)→l.filterMap (fun j=>if (L.setIfInBounds i true).getD j false=true then tv[j]? else none)=l.filterMap fun j=>if L.getD j false=true then tv[j]? else none:=by
      intro l
      induction l with
      | nil=>intro _;rfl
      | cons x l ihl =>
       intro hx
       have:=hx x (by simp)
       have e1:=AC (L:=L) (i:=i) (j:=x) (by omega)
       rw [if_neg (by omega)] at e1
       simp only [List.filterMap_cons,e1,ihl fun j hj=>hx j (by simp [hj])]
     unfold Dz
     rw [hfm _ fun j hj=>by have:=List.mem_range.1 hj;omega]
    refine ih _ a' w' I' μ' O' (by simpa using hL) hD' hcount ?_
    rw [heL]
    exact hs'.same fun t=>(hK t).symm
theorem AW.drawnI {id:Nat} (m:Nat) {env0:Env} (hm:P.follows .mixedOrders=true) (hok:MA ops m=true)
  (h:DK P C ops H env0 [] (ops.toList.take m) fun fin =>
   (∀ i o,m≤i→ops[i]?=some o→∀ e,(∀ (j t:Nat) v,E7 ops i j=true→fin.reverse[j]?=some (t,v)→get e t=v)→(∀ t,(∀ (j:Nat) v,fin.reverse[j]?≠some (t,v))→get e t=get env0 t)→OpOK P C o e H fun e' H'=>(∀ t,get e' t=get e t)∧H'=H) ∧
   RL P C ops Q ops.size [] (fin++env0) H):AW P C (.region id ops true) Q env0 H:=fun X a w I μ O n1 n2 n3 hs=>by
 obtain ⟨fin,hDL,hst,hfin⟩:=h
 obtain ⟨tv,k1,k2,k3⟩:=hDL.table
 rw [List.append_nil] at k2
 subst k2
 rw [List.reverse_reverse] at hst
 obtain ⟨hle,_⟩:=NJ hok
 have hlen:tv.length=m:=by rw [k1];simp;omega
 refine wpIn_region_any hm ?_
 have hz:∀ j,(Array.replicate ops.size false).getD j false=false:=fun j=>by
  simp only [Array.getD_eq_getD_getElem?,Array.getElem?_replicate]
  split<;>rfl
 have hs':Sim P X (Dz tv env0 (Array.replicate ops.size false)) H a {w with drawn:=w.drawn+1} I μ O :=
  (hs.grow (w':={w with drawn:=w.drawn+1}) ⟨rfl,rfl,rfl,Nat.le_refl _,fun _ _=>rfl⟩).same fun t=>Bq fun i v h=>by
   rw [hz] at h;cases h
 have hone:∀ i,i<m→∃ o t v,ops[i]?=some o∧tv[i]?=some (t,v)∧N8 P C ops H env0 (tv.take i).reverse o t v:=fun i hi=>by
  have ho:ops[i]?=some ops[i]:=Array.getElem?_eq_getElem (by omega)
  obtain ⟨t,v,m1,m2⟩:=k3 i ops[i] (by rw [List.getElem?_take_of_lt hi];simp)
  exact ⟨_,t,v,ho,m1,by simpa using m2⟩
 have hdist:∀ (i j t:Nat) v u,tv[i]?=some (t,v)→tv[j]?=some (t,u)→i=j:=by
  have lt:∀ (i j t:Nat) v u,tv[i]?=some (t,v)→tv[j]?=some (t,u)→¬i<j:=fun i j t v u hi hj hij=>by
   have hjm:j<m:=by have:=(lS.1 hj).1;omega
   obtain ⟨o,t',v',_,k1,k2⟩:=hone j hjm
   rw [hj] at k1;cases k1
   refine k2.2.2.2.1 (t,v) ?_ rfl
   rw [List.mem_reverse]
   exact List.mem_of_getElem? (by rw [List.getElem?_take_of_lt hij];exact hi)
  intro i j t v u hi hj
  have h1:=lt i j t v u hi hj
  have h2:=lt j i t u v hj hi
  omega
 refine Z0 hok hlen hone hdist hst hfin n1 n2 n3 ops.size _ a _ I μ O (by simp) (fun i o h=>by rw [hz] at h;cases h) ?_ hs'
 have h1:=List.countP_le_length (p:=fun i=>!(Array.replicate ops.size false).getD i false) (l:=List.range ops.size)
 rw [List.length_range] at h1
 omega
theorem Nd {e:Env} {t:Nat} {v:AV} (h:get e t=v) (s:Nat) : get ((t,v)::e) s=get e s:=by
 simp only [get]
 split
 ·rename_i h1;subst h1;exact h.symm
 ·rfl
theorem Oy {l:List (Nat×AV)} {t:Nat} (h:(l.map (·.1)).contains t=false) (j:Nat) (v:AV) : l[j]?≠some (t,v):=fun hj=>by
 have:=List.mem_map_of_mem (f:=(·.1)) (List.mem_of_getElem? hj)
 rw [List.contains_iff_mem.2 this] at h;cases h
end
end Go.FL
namespace Go.FL
open Go Go.RowKit
def TV (T:List (Int×Int)) (z:Int) : Int:=((T.find? fun p=>decide (p.1=z)).map (·.2)).getD 0
section
variable {P:Program} {C:Cx} {o:Oper} {env:Env} {H:Ac}
theorem ZT {T:List (Int×Int)} {z:Int} {x y:Operand} {ty kt et:TypeId} {q q2:IntKind} (hnd:(T.map (·.1)).Nodup) (hu:P.underlying ty=some (.map kt et)) (hk:P.underlying kt=some (.int q)) (hz:∀ w,(zeroValue et).run P w=.ok (.int q2 0) w)
  (ho:o.op=.lookup ty x y false:=by rfl) (hx:Bh (lk env x)=some (.mp (T.map fun p=>.i q p.1) (T.map fun p=>.i q2 p.2)):=by rfl) (hy:Bh (lk env y)=some (.i q z):=by rfl):VOK P C o env H (.d (.i q2 (TV T z))):=by
 have hzip:(T.map fun p=>DV.i q p.1).zip (T.map fun p=>DV.i q2 p.2)=T.map fun p=>(DV.i q p.1,DV.i q2 p.2):=by
  rw [List.zip_map']
 cases hf:T.find? fun p=>decide (p.1=z) with
 | none =>
  have e:TV T z=0:=by simp [TV,hf]
  rw [e]
  refine Aao hu hk hz (fun w I=>.i q2 0) (fun k hk'=>?_) ho hx hy
  obtain ⟨p,hp,rfl⟩:=List.mem_map.1 hk'
  have:=List.find?_eq_none.1 hf p hp
  exact ⟨p.1,rfl,by simpa using this⟩
 | some p =>
  have e:TV T z=p.2:=by simp [TV,hf]
  have hp:=List.mem_of_find?_eq_some hf
  have hpz:p.1=z:=by have:=List.find?_some hf;simpa using this
  rw [e]
  refine Aag hu hk (fun k hk'=>?_) ?_ (fun d' hd'=>?_) ho hx hy
  ·obtain ⟨p',_,rfl⟩:=List.mem_map.1 hk';exact ⟨_,rfl⟩
  ·rw [hzip];exact List.mem_map.2 ⟨p,hp,by rw [hpz]⟩
  ·rw [hzip] at hd'
   obtain ⟨p',hp',e'⟩:=List.mem_map.1 hd'
   simp only [Prod.mk.injEq,DV.i.injEq,true_and] at e'
   obtain ⟨e1,rfl⟩:=e'
   have:p'=p:=by
    obtain ⟨i,hi⟩:=List.getElem?_of_mem hp'
    obtain ⟨j,hj⟩:=List.getElem?_of_mem hp
    have hij:i=j:=by
     refine (List.getElem?_inj (l:=T.map (·.1)) (by rw [List.length_map];exact (lS.1 hi).1) hnd).1 ?_
     rw [List.getElem?_map,List.getElem?_map,hi,hj]
     simp [e1,hpz]
    subst hij
    rw [hi] at hj;exact oI hj
   rw [this]
end
end Go.FL
namespace Go.Proofs
open Go.RowKit Go.FL
set_option maxHeartbeats 4000000 in
set_option maxRecDepth 100000 in
theorem Xl (w:World) : Calls Tryz.prog 157 #[.slice none 0 0,.int .i64 0] w fun x w'=>x=.returned (.slice none 0 0)∧w'=w:=by
 go_enter Tryz.func157,Tryz.ntmps157
 go_wp2
 go_ret
 exact ⟨rfl,rfl⟩
set_option maxHeartbeats 4000000 in
set_option maxRecDepth 100000 in
theorem ZS : Te Tryz.prog 157 3 17592186044416:=by
 intro n w hn
 rcases Nat.eq_zero_or_pos n with h0|h0
 ·subst h0
  exact (Xl w).mono fun _ _ h=>.inl h
 obtain ⟨i0,i1,i2,i3,i4,i5,i6,i7,i8⟩:=DJ DN
 have hrz:∀ ty,(Builtin.append_ #[24,3] ty #[.slice none 0 0,.int .i64 (n:Int)]).run Tryz.prog w=.ok (.slice (some ⟨w.heap.size,0,none⟩) n (grownCap w n 0 3)) (w.drew.alloc (.cells (Builtin.zeroCells (Value.int .i64 0).cells n++Builtin.zeroCells (Value.int .i64 0).cells (grownCap w n 0 3-n)) 3)):=fun ty =>
  Lib.run_append_nil_zeros w 24 3 ty 3 i0 (.int .i64 0) .i64 .i64 i1 (by kernel_rfl) i2 i3 n h0 (by omega) (by omega) (by rw [i5];omega)
 have hg1:=grownCap_ge w n 0 3
 have hg2:=grownCap_le_maxLen w n 0 3 (by unfold maxLen;omega)
 generalize hG:grownCap w n 0 3=G at *
 have hg3:G≤9223372036854775807:=by unfold maxLen at hg2;omega
 obtain ⟨cells,hcells⟩:∃ cs:Array Value,Builtin.zeroCells (Value.int .i64 0).cells n++Builtin.zeroCells (Value.int .i64 0).cells (G-n)=cs:=⟨_,rfl⟩
 rw [hcells] at hrz
 have hsz:cells.size=G * AB Tryz.prog 3:=by
  rw [← hcells,i8,Array.size_append,size_zeroCells,size_zeroCells,i6];omega
 have h1:¬((n:Int)<0):=by omega
 have h2:(n:Int) > 0:=by omega
 have hfin:0<G∧G≤maxLen∧cells.size=G * AB Tryz.prog 3:=⟨by omega,hg2,hsz⟩
 clear hsz hcells i1 i2 i3 i4 i5 i6 i7 i8 hg2
 have HF:=Lib.hid hfin
 clear hfin
 go_enter Tryz.func157,Tryz.ntmps157
 go_wp2_with (at_builtin;refine Lib.wpList_append_run _ rfl _ _ _ _ rfl _ _ rfl rfl _ _ (hrz _) ?_)
 go_ret
 exact .inr ⟨G,HF.out.1,HF.out.2.1,cells,HF.out.2.2,rfl,rfl⟩
end Go.Proofs
namespace Go.FL
open Go Go.Proofs
theorem UT (w:World) (I:Nat→Prop) : RepAll w I [.i .i64 0] (Value.int .i64 0).cells.toList:=.cons (.i _ _) .nil
theorem Vs {n:Nat} : List.replicate n (.ag [.i .u8 0,.b false,.sl [],.sl [],.i .i32 0,.sl []])=Its (List.replicate n (Itm.mk 0 (false,[],[]) 0 [])):=by rw [Fz,List.map_replicate,Itm.dv_eq];rfl
theorem Rb {xs:List Itm} {n:Nat} {x:Itm} {ds:List DV} (h:DV.ag ds=x.dv) : (Its xs).set n (.ag ds)=Its (xs.set n x):=by rw [h,Fz,Fz,List.map_set]
theorem Fs : Tryz.prog.underlying 89=some (.map 21 3):=by kernel_rfl
theorem Ko : ∀ w,(zeroValue 3).run Tryz.prog w=.ok (.int .i64 0) w:=Ak (by kernel_rfl)
abbrev U8 : Int:=((17592186044416:Nat) : Int)
theorem WX : Te Tryz.prog 157 3 17592186044416:=ZS
def H6 (xs:List (List Arr)) : List DV:=xs.map fun l=>.sl (Ars l)
theorem IT (xs:List (List Arr)) : (H6 xs).length=xs.length:=by simp [H6]
theorem Ts {xs:List (List Arr)} {i:Nat} {x:List Arr} (h:xs[i]?=some x) : (H6 xs)[i]?=some (.sl (Ars x)):=by simp [H6,h]
theorem UP (xs:List (List Arr)) : ∀ x∈H6 xs,x.cells.length=1:=fun x hx=>by
 simp only [H6,List.mem_map] at hx
 obtain ⟨n,_,rfl⟩:=hx;rfl
theorem Qf (xs:List (List Arr)) : ∃ sz,∀ x∈H6 xs,x.cells.length=sz:=⟨1,UP xs⟩
theorem Pi (xs:List (List Arr)) : ∀ d∈H6 xs,d.flat=true∧d.cells.length=1:=fun x hx=>by
 simp only [H6,List.mem_map] at hx
 obtain ⟨n,_,rfl⟩:=hx
 exact ⟨by simp [DV.flat,DV.cells,DV.leaf],rfl⟩
def IsS (xs:List (List Int)) : List DV:=xs.map fun l=>.sl (Is l)
theorem GQ (xs:List (List Int)) : (IsS xs).length=xs.length:=by simp [IsS]
theorem SK {xs:List (List Int)} {i:Nat} {x:List Int} (h:xs[i]?=some x) : (IsS xs)[i]?=some (.sl (Is x)):=by simp [IsS,h]
theorem PQ (xs:List (List Int)) : ∀ x∈IsS xs,x.cells.length=1:=fun x hx=>by
 simp only [IsS,List.mem_map] at hx
 obtain ⟨n,_,rfl⟩:=hx;rfl
theorem VC (xs:List (List Int)) : ∃ sz,∀ x∈IsS xs,x.cells.length=sz:=⟨1,PQ xs⟩
theorem S9 (xs ys:List (List Int)) : IsS (xs++ys)=IsS xs++IsS ys:=by simp [IsS]
theorem MO (xs:List (List Int)) : ∀ d∈IsS xs,d.flat=true∧d.cells.length=1:=fun x hx=>by
 simp only [IsS,List.mem_map] at hx
 obtain ⟨n,_,rfl⟩:=hx
 exact ⟨by simp [DV.flat,DV.cells,DV.leaf],rfl⟩
abbrev Ad : Type:=FW (Int×Int) (Int)
abbrev BP (f:Ad) : Prop:=f.OK Tryz.prog (fun x=>[.i .i64 x.1,.i .i64 x.2]) (fun r=>.d (.i .i64 r))
abbrev CC : Type:=FW (Itm×Itm) (Int)
abbrev Mn (f:CC) : Prop:=f.OK Tryz.prog (fun x=>[.ag [.i .u8 x.1.kind,.b x.1.num.1,.sl (L x.1.num.2.1),.sl (L x.1.num.2.2),.i .i32 x.1.char,.sl (Ars x.1.box)],.ag [.i .u8 x.2.kind,.b x.2.num.1,.sl (L x.2.num.2.1),.sl (L x.2.num.2.2),.i .i32 x.2.char,.sl (Ars x.2.box)]]) (fun r=>.d (.i .i64 r))
abbrev CM : Type:=FW ((List Arr)) (Bool)
abbrev Lf (f:CM) : Prop:=f.OK Tryz.prog (fun x=>[.sl (Ars x)]) (fun r=>.d (.b r))
theorem GZ : Tryz.prog.underlying 153=some (.int .u64):=by kernel_rfl
theorem S8 : CN Tryz.prog 91=some (45,1,24):=by kernel_rfl
theorem ST : Cv Tryz.prog 91=some (45,1,24,.slice none 0 0):=by kernel_rfl
theorem PZ : Tryz.prog.underlying 91=some (.slice (Tryz.prog.elem 91)):=by kernel_rfl
theorem Sh : CN Tryz.prog 147=some (24,1,24):=by kernel_rfl
theorem NA : Cv Tryz.prog 147=some (24,1,24,.slice none 0 0):=by kernel_rfl
theorem R7 : Tryz.prog.underlying 147=some (.slice (Tryz.prog.elem 147)):=by kernel_rfl
theorem U6 : (5864062014805:Nat) * 24≤140737488355328∧(5864062014805:Nat)≤9223372036854775807:=by decide
end Go.FL
