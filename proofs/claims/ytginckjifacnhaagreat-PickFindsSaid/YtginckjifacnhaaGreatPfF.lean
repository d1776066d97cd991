/-
  Part 6 of the base of the proofs: a logic of our own over the calculus, the contracts of the functions
-/
import Derived.Test.YtginckjifacnhaaGreatPfE
set_option linter.unusedVariables false
namespace Go.FL
open Go Go.Proofs
section
variable {H:Type} {enc:TypeId×Value→H} {W:World}
theorem Ur {n:Nat} : OpF enc Tryz.prog W (n+1) 31 (fun a:List Nat=>[.sl (L a)]) (fun a=>okL 35184372087808 a=true):=by
 refine (JY (α:=Int) (F:=fun z=>[.i .u32 z]) (sz:=1) (fun z=>.i .u32 z) (by kernel_rfl:Tryz.prog.underlying 31=some (.slice 133)) (by kernel_rfl) (by decide) (fun _=>rfl) (PP (by kernel_rfl))).map fun zs hz=>?_
 obtain ⟨a,h1,h2⟩:=Rf zs hz.1
 refine ⟨a,CF.2 ⟨h1,?_⟩,by rw [← h2]⟩
 have h3:=hz.2
 rw [show Tryz.prog.bytesOf 133=4 by kernel_rfl,show reachBytes=140737488351232 by decide] at h3
 have:=congrArg List.length h2
 rw [List.length_map,Aa] at this
 omega
theorem Ro (n:Nat) : OpF enc Tryz.prog W n 31 (fun a:List Nat=>[.sl (L a)]) (fun a=>okL 35184372087808 a=true):=Ur.mono (Nat.le_succ n)
theorem ZE (n:Nat) : OpF enc Tryz.prog W n 33 (fun r:RT=>[.b r.1,.sl (L r.2.1),.sl (L r.2.2)]) (fun r=>Je r=true):=by
 refine OpF.mono (n:=n+1) ((Sp (t:=33) (T0:=4) (T1:=31) (T2:=31) (s0:=1) (s1:=1) (s2:=1) (by kernel_rfl) (by kernel_rfl) (by kernel_rfl) (Xn (by kernel_rfl)) (by kernel_rfl) (Ro n) (by kernel_rfl) (Ro n)).map fun r hr=>?_) (Nat.le_succ n)
 exact ⟨r,by rw [Je,hr.2.1,hr.2.2];rfl,rfl⟩
end
section
variable {H:Type} {enc:TypeId×Value→H} {W:World}
theorem U1 {n:Nat} : OpF enc Tryz.prog W (n+1) 23 (fun l:List Int=>[.sl (Is l)]) (fun l=>(∀ z∈l,-9223372036854775808≤z∧z≤9223372036854775807)∧l.length≤17592186044416):=by
 refine (JY (α:=Int) (F:=fun z=>[.i .i64 z]) (sz:=1) (fun z=>.i .i64 z) (by kernel_rfl:Tryz.prog.underlying 23=some (.slice 3)) (by kernel_rfl) (by decide) (fun _=>rfl) (PP (by kernel_rfl))).map fun zs hz=>?_
 refine ⟨zs,⟨fun z h=>?_,?_⟩,rfl⟩
 ·have:=hz.1 z h
  simp [Lit.wf,IntKind.min,IntKind.max,IntKind.signed,IntKind.bits] at this
  omega
 ·have h3:=hz.2
  rw [show Tryz.prog.bytesOf 3=8 by kernel_rfl,show reachBytes=140737488351232 by decide] at h3
  omega
theorem Yd (n:Nat) : OpF enc Tryz.prog W n 23 (fun l:List Int=>[.sl (Is l)]) (fun l=>(∀ z∈l,-9223372036854775808≤z∧z≤9223372036854775807)∧l.length≤17592186044416):=U1.mono (Nat.le_succ n)
def cI6 (x:Itm) : List DV:=[.i .u8 x.kind,.b x.num.1,.sl (L x.num.2.1),.sl (L x.num.2.2),.i .i32 x.char,.sl (Ars x.box)]
def cA2 (a:Arr) : List DV:=[.sl (Is a.shape),.sl (Its a.items)]
theorem VC {n:Nat} (h:OpF enc Tryz.prog W n 25 cA2 okAr) : OpF enc Tryz.prog W (n+1) 42 (fun l:List Arr=>[.sl (Ars l)]) (fun l=>l.length≤2932031007402∧∀ a∈l,okAr a):=by
 refine (JY (α:=Arr) (F:=cA2) (sz:=2) Arr.dv (by kernel_rfl:Tryz.prog.underlying 42=some (.slice 25)) (by kernel_rfl) (by decide) (fun a=>by rw [Arr.dv_eq];rfl) h).map fun zs hz=>?_
 refine ⟨zs,⟨?_,hz.1⟩,by rw [GA]⟩
 have h3:=hz.2
 rw [show Tryz.prog.bytesOf 25=48 by kernel_rfl,show reachBytes=140737488351232 by decide] at h3
 omega
theorem Ow {n:Nat} (h:OpF enc Tryz.prog W n 44 cI6 okI) : OpF enc Tryz.prog W (n+1) 22 (fun l:List Itm=>[.sl (Its l)]) (fun l=>l.length≤1466015503701∧∀ x∈l,okI x):=by
 refine (JY (α:=Itm) (F:=cI6) (sz:=6) Itm.dv (by kernel_rfl:Tryz.prog.underlying 22=some (.slice 44)) (by kernel_rfl) (by decide) (fun a=>by rw [Itm.dv_eq];rfl) h).map fun zs hz=>?_
 refine ⟨zs,⟨?_,hz.1⟩,by rw [CH]⟩
 have h3:=hz.2
 rw [show Tryz.prog.bytesOf 44=96 by kernel_rfl,show reachBytes=140737488351232 by decide] at h3
 omega
theorem Tp : ∀ n,OpF enc Tryz.prog W n 44 cI6 okI∧OpF enc Tryz.prog W n 25 cA2 okAr
 | 0=>by
  constructor <;>
  ·intro fuel cs x hf h _
   obtain rfl:fuel=0:=by omega
   simp [DataW.trod] at h
 | n+1=>by
  obtain ⟨hI,hA⟩:=Tp n
  constructor
  ·refine OpF.mono (n:=n+1+1) ((R0 (t:=44) (T0:=41) (T1:=33) (T2:=21) (T3:=42) (s0:=1) (s1:=3) (s2:=1) (s3:=1) (by kernel_rfl) (by kernel_rfl) (by kernel_rfl) (PP (by kernel_rfl:Tryz.prog.underlying 41=some (.int .u8))) (by kernel_rfl) (ZE (n+1)) (by kernel_rfl) (PP (by kernel_rfl:Tryz.prog.underlying 21=some (.int .i32))) (by kernel_rfl) (VC hA)).map fun r hr=>?_) (Nat.le_succ _)
   obtain ⟨k,q,c,b⟩:=r
   obtain ⟨h1,h2,h3,h4⟩:=hr
   refine ⟨.mk k q c b,?_,rfl⟩
   rw [Eb]
   refine ⟨?_,h2,?_,h4⟩
   ·simp [Lit.wf,IntKind.min,IntKind.max,IntKind.signed,IntKind.bits] at h1
    show 0≤k∧k<256
    omega
   ·simp [Lit.wf,IntKind.min,IntKind.max,IntKind.signed,IntKind.bits] at h3
    show -2147483648≤c∧c<2147483648
    omega
  ·refine OpF.mono (n:=n+1+1) ((Sk (t:=25) (T0:=23) (T1:=22) (s0:=1) (s1:=1) (by kernel_rfl) (by kernel_rfl) (by kernel_rfl) (Yd (n+1)) (by kernel_rfl) (Ow hI)).map fun r hr=>?_) (Nat.le_succ _)
   obtain ⟨s,i⟩:=r
   obtain ⟨⟨h1,h2⟩,h3,h4⟩:=hr
   refine ⟨.mk s i,?_,rfl⟩
   rw [Ce]
   exact ⟨h1,h2,h3,h4⟩
theorem Qe (n:Nat) : OpF enc Tryz.prog W n 22 (fun l:List Itm=>[.sl (Its l)]) (fun l=>l.length≤1466015503701∧∀ x∈l,okI x):=(Ow (Tp n).1).mono (Nat.le_succ n)
end
end Go.FL
