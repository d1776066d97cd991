/-
  The law: its function printed as a pure function, its contract, the plain law, the statement
-/
import Derived.Test.YtbeekjoeaigngaaGreatTmD
import Derived.Test.YtbeekjoeaigngaaGreatRows
set_option linter.unusedVariables false
namespace Go.FL
open Go Go.Proofs
abbrev fN5 : Ah:=⟨.fn 79 [] [],fun x=>HS x⟩
theorem Vf : RatF fN5 (fun p=>-p):=fun _ hp=>⟨Xa hp,Sw hp⟩
def Gv : Option ((Int×RT×Int)):=(N2.bind fun x1=>(some ((1,x1,10))))
theorem Gw {r:(Int×RT×Int)} (h:Gv=some r) :
  Fn Tryz.prog 11 [] (.d (.ag [.i .i64 r.1,.b r.2.1.1,.sl (L r.2.1.2.1),.sl (L r.2.1.2.2),.i .i64 r.2.2])):=by
 unfold Gv at h
 refine Fn.ofC (rs:=[.cell 0 34]) (nt:=3) Tryz.func11 rfl rfl rfl (by simp) rfl ?_;refine .sr ?_;refine vk (van (Ai Vs) U7) ?_;refine rk [0] ?_;refine .sr ?_
 obtain ⟨x1,g1,h⟩:=bnd h
 refine vk (Ar (O8 g1) Tryz.call33) ?_;refine vk (vbd WS Vs U7) ?_
 refine stn ?_ SX (by decide)
 refine rk [0] ?_;refine .ret ?_
 cases h
 exact ⟨_,⟨.inr rfl,Vk,SX,(by decide:(0:Nat)<5)⟩,rfl⟩
def E1 (a0:Arr) (a1:Int) : Option (Bool):=((rd? [9021,8854,9033,44] (Int.tmod a1 4)).bind fun x1=>(Gv.bind fun x2=>((CQ x2 45 a0).bind fun x3=>(Gv.bind fun x4=>((C0 x4 x1 a0).bind fun x5=>(if ((!(decide (x3.2=0)))||(!(decide (x5.2=0))))=true then (Option.bind ((if x3.2=0 then (some false) else ((A5 a0).bind fun x7=>(some ((!(decide (x5.2=0))) == (!x7))))) : Option (Bool)) fun (z6:Bool)=>(some (z6))) else (Gv.bind fun x8=>((C0 x8 x1 x3.1).bind fun x9=>(Gv.bind fun x10=>((CQ x10 45 x5.1).bind fun x11=>(Option.bind ((if x9.2=0 then (if x11.2=0 then ((EG x9.1 x11.1).bind fun x13=>(some x13)) else (some false)) else (some false)) : Option (Bool)) fun (z12:Bool)=>(some (z12)))))))))))))
theorem Kq {a0:Arr} {a1:Int} {r:Bool} (h:E1 a0 a1=some r) :
  Fn Tryz.prog 3 [.ag [.sl (Is a0.shape),.sl (Its a0.items)],.i .u8 a1] (.d (.b r)):=by
 unfold E1 at h
 refine Fn.o1 4 72 Tryz.func3 ?_;refine .sr ?_;refine vk (vbx) ?_;refine ar [1,2,4] ?_;refine .sr ?_;refine vk ((IZ (TI [9021,8854,9033,44]) VF).deep) ?_;refine vk (Aa) ?_;refine vk (NM (c:=(4:Int)≠0) (by decide)) ?_
 obtain ⟨x1,g1,h⟩:=bnd h
 obtain ⟨n1,p01,q1⟩:=Av g1
 refine vk (vix n1 p01 (VJ q1) rfl VP) ?_;refine vk (As E8) ?_;refine ar [2,4,5] ?_;refine .seq ?_
 obtain ⟨x2,g2,h⟩:=bnd h
 obtain ⟨x3,g3,h⟩:=bnd h
 refine .drawnF 7 [5] [(6,.nb [.sl (Is x3.1.shape),.sl (Its x3.1.items)])] [] BN (by kernel_rfl) rfl ?_;refine dv (Ar (Gw g2) Tryz.call11) ?_;refine dv (AN An Ad) ?_;refine dv (VOK.tupd (vs:=[.ag [.sl (Is x3.1.shape),.sl (Its x3.1.items)],.i .i64 x3.2]) (Ar (Fx g3) Tryz.call10)) ?_;refine dv (Aa) ?_;refine dv (vex) ?_;refine dv (vex) ?_;refine dv (van (Ai A1) A7) ?_;refine dz ?_
 refine ⟨?_,?_,?_⟩
 ·intro k hk
  simp only [List.mem_cons,List.not_mem_nil,or_false] at hk
  subst hk
  exact ⟨_,_,_,rfl,rfl,rfl,rfl,rfl,rfl,vex⟩
 ·intro om e hom hge
  cases hom
  exact Il (cs:=[.sl (Is []),.sl (Its [])]) (cs':=[.sl (Is x3.1.shape),.sl (Its x3.1.items)]) Ad (by decide) rfl ((hge 6 (fun k hk v hv=>by
    simp only [List.mem_cons,List.not_mem_nil,or_false] at hk
    subst hk;exact (by decide:¬(some 24=some 6)) (congrArg (Option.map Prod.fst) hv))).trans rfl) ((congrArg A3 (hge 23 (fun k hk v hv=>by
    simp only [List.mem_cons,List.not_mem_nil,or_false] at hk
    subst hk;exact (by decide:¬(some 24=some 23)) (congrArg (Option.map Prod.fst) hv)))).trans rfl) rfl rfl rfl rfl ⟨rfl,rfl⟩
 refine ar [2,4,5,6,7] ?_;refine .seq ?_
 obtain ⟨x4,g4,h⟩:=bnd h
 obtain ⟨x5,g5,h⟩:=bnd h
 refine .drawnF 8 [6] [(8,.nb [.sl (Is x5.1.shape),.sl (Its x5.1.items)])] [] BN (by kernel_rfl) rfl ?_;refine dv (Ar (Gw g4) Tryz.call11) ?_;refine dv (Aa) ?_;refine dv (AN An Ad) ?_;refine dv (VOK.tupd (vs:=[.ag [.sl (Is x5.1.shape),.sl (Its x5.1.items)],.i .i64 x5.2]) (Ar (F4 g5) Tryz.call12)) ?_;refine dv (Aa) ?_;refine dv (vex) ?_;refine dv (vex) ?_;refine dv (van (Ai A1) A7) ?_;refine dz ?_
 refine ⟨?_,?_,?_⟩
 ·intro k hk
  simp only [List.mem_cons,List.not_mem_nil,or_false] at hk
  subst hk
  exact ⟨_,_,_,rfl,rfl,rfl,rfl,rfl,rfl,vex⟩
 ·intro om e hom hge
  cases hom
  exact Il (cs:=[.sl (Is []),.sl (Its [])]) (cs':=[.sl (Is x5.1.shape),.sl (Its x5.1.items)]) Ad (by decide) rfl ((hge 8 (fun k hk v hv=>by
    simp only [List.mem_cons,List.not_mem_nil,or_false] at hk
    subst hk;exact (by decide:¬(some 31=some 8)) (congrArg (Option.map Prod.fst) hv))).trans rfl) ((congrArg A3 (hge 30 (fun k hk v hv=>by
    simp only [List.mem_cons,List.not_mem_nil,or_false] at hk
    subst hk;exact (by decide:¬(some 31=some 30)) (congrArg (Option.map Prod.fst) hv)))).trans rfl) rfl rfl rfl rfl ⟨rfl,rfl⟩
 refine ar [2,4,5,6,7,8,9] ?_;refine .seq ?_;refine .seq ?_;refine AW.mr (σ:=Unit) (fun _=>True) (fun _=>[(2,.d (.ptr [.sl (Is a0.shape),.sl (Its a0.items)])),(4,.d (.b false)),(5,.d (.i .i32 x1)),(6,.nb [.sl (Is x3.1.shape),.sl (Its x3.1.items)]),(7,.d (.i .i64 x3.2)),(8,.nb [.sl (Is x5.1.shape),.sl (Its x5.1.items)]),(9,.d (.i .i64 x5.2)),(37,.d (.b ((!(decide (x3.2=0)))||(!(decide (x5.2=0))))))]) (fun _=>[]) ?_ ?_
 ·skip
  refine .region ?_;refine vk (Aa) ?_;refine vk (vbi) ?_
  by_cases hc:x3.2=0
  ·have hb0:(!(decide (x3.2=0)))=false:=(ntf (dT hc))
   refine vk (VOK.lit (Aa) hb0) ?_;refine vk (Aa) ?_;refine vk (vbi) ?_;refine vk (AF) ?_;refine RL.gk [2,4,5,6,7,8,9,37] ?_;refine .nil ?_
   exact jr () trivial (by simp only [hb0];rfl)
  have hb0:(!(decide (x3.2=0)))=true:=(ntt (dF hc))
  refine vk (VOK.lit (Aa) hb0) ?_;refine gf ?_;refine gf ?_;refine vk (AF) ?_;refine RL.gk [2,4,5,6,7,8,9,37] ?_;refine .nil ?_
  exact jr () trivial (by simp only [hb0];rfl)
 rintro _ _
 rcases brc h with ⟨hc,h⟩|⟨hc,h⟩
 ·refine cnt hc ?_
  refine .seq ?_
  obtain ⟨z6,hz,h⟩:=bnd h
  refine AW.mr (σ:=Unit) (fun _=>True) (fun _=>[(4,.d (.b z6)),(5,.d (.i .i32 x1)),(6,.nb [.sl (Is x3.1.shape),.sl (Its x3.1.items)]),(8,.nb [.sl (Is x5.1.shape),.sl (Its x5.1.items)])]) (fun _=>[]) ?_ ?_
  ·skip
   refine .region ?_;refine vk (Aa) ?_;refine vk (vbi) ?_
   rcases brc hz with ⟨hc,hz⟩|⟨hc,hz⟩
   ·have hb0:(!(decide (x3.2=0)))=false:=(ntf (dT hc))
    refine vk (VOK.lit (Aa) hb0) ?_;refine gf ?_;refine gf ?_;refine gf ?_;refine gf ?_;refine gf ?_;refine gf ?_;refine vk (AF) ?_;refine asd ?_;refine RL.gk [4,5,6,8] ?_;refine .nil ?_
    cases hz
    exact jr () trivial
   have hb0:(!(decide (x3.2=0)))=true:=(ntt (dF hc))
   refine vk (VOK.lit (Aa) hb0) ?_;refine vk (Aa) ?_;refine vk (vbi) ?_;refine vk (AN An Ad) ?_
   obtain ⟨x7,g7,hz⟩:=bnd hz
   refine vk (Ar (Bw g7) Tryz.call13) ?_;refine vk (vnt) ?_;refine vk (VR (.inl rfl) bo) ?_;refine vk (AF) ?_;refine asd ?_;refine RL.gk [4,5,6,8] ?_;refine .nil ?_
   cases hz
   exact jr () trivial
  rintro _ _
  refine .ret ?_
  cases h
  exact ⟨rfl,rfl⟩
 refine cnf (bf hc) ?_;refine .skip ?_
 show AW _ _ _ _ _ _
 refine .seq ?_
 obtain ⟨x8,g8,h⟩:=bnd h
 obtain ⟨x9,g9,h⟩:=bnd h
 refine .drawnF 8 [6] [(10,.nb [.sl (Is x9.1.shape),.sl (Its x9.1.items)])] [] BN (by kernel_rfl) rfl ?_;refine dv (Ar (Gw g8) Tryz.call11) ?_;refine dv (Aa) ?_;refine dv (GZ An Ad) ?_;refine dv (VOK.tupd (vs:=[.ag [.sl (Is x9.1.shape),.sl (Its x9.1.items)],.i .i64 x9.2]) (Ar (F4 g9) Tryz.call12)) ?_;refine dv (Aa) ?_;refine dv (vex) ?_;refine dv (vex) ?_;refine dv (van (Ai A1) A7) ?_;refine dz ?_
 refine ⟨?_,?_,?_⟩
 ·intro k hk
  simp only [List.mem_cons,List.not_mem_nil,or_false] at hk
  subst hk
  exact ⟨_,_,_,rfl,rfl,rfl,rfl,rfl,rfl,vex⟩
 ·intro om e hom hge
  cases hom
  exact Il (cs:=[.sl (Is []),.sl (Its [])]) (cs':=[.sl (Is x9.1.shape),.sl (Its x9.1.items)]) Ad (by decide) rfl ((hge 10 (fun k hk v hv=>by
    simp only [List.mem_cons,List.not_mem_nil,or_false] at hk
    subst hk;exact (by decide:¬(some 54=some 10)) (congrArg (Option.map Prod.fst) hv))).trans rfl) ((congrArg A3 (hge 53 (fun k hk v hv=>by
    simp only [List.mem_cons,List.not_mem_nil,or_false] at hk
    subst hk;exact (by decide:¬(some 54=some 53)) (congrArg (Option.map Prod.fst) hv)))).trans rfl) rfl rfl rfl rfl ⟨rfl,rfl⟩
 refine ar [4,8,10,11] ?_;refine .seq ?_
 obtain ⟨x10,g10,h⟩:=bnd h
 obtain ⟨x11,g11,h⟩:=bnd h
 refine .drawnF 7 [5] [(12,.nb [.sl (Is x11.1.shape),.sl (Its x11.1.items)])] [] BN (by kernel_rfl) rfl ?_;refine dv (Ar (Gw g10) Tryz.call11) ?_;refine dv (GZ An Ad) ?_;refine dv (VOK.tupd (vs:=[.ag [.sl (Is x11.1.shape),.sl (Its x11.1.items)],.i .i64 x11.2]) (Ar (Fx g11) Tryz.call10)) ?_;refine dv (Aa) ?_;refine dv (vex) ?_;refine dv (vex) ?_;refine dv (van (Ai A1) A7) ?_;refine dz ?_
 refine ⟨?_,?_,?_⟩
 ·intro k hk
  simp only [List.mem_cons,List.not_mem_nil,or_false] at hk
  subst hk
  exact ⟨_,_,_,rfl,rfl,rfl,rfl,rfl,rfl,vex⟩
 ·intro om e hom hge
  cases hom
  exact Il (cs:=[.sl (Is []),.sl (Its [])]) (cs':=[.sl (Is x11.1.shape),.sl (Its x11.1.items)]) Ad (by decide) rfl ((hge 12 (fun k hk v hv=>by
    simp only [List.mem_cons,List.not_mem_nil,or_false] at hk
    subst hk;exact (by decide:¬(some 60=some 12)) (congrArg (Option.map Prod.fst) hv))).trans rfl) ((congrArg A3 (hge 59 (fun k hk v hv=>by
    simp only [List.mem_cons,List.not_mem_nil,or_false] at hk
    subst hk;exact (by decide:¬(some 60=some 59)) (congrArg (Option.map Prod.fst) hv)))).trans rfl) rfl rfl rfl rfl ⟨rfl,rfl⟩
 refine ar [4,10,11,12,13] ?_;refine .seq ?_
 obtain ⟨z12,hz,h⟩:=bnd h
 refine AW.mr (σ:=Unit) (fun _=>True) (fun _=>[(4,.d (.b z12))]) (fun _=>[]) ?_ ?_
 ·skip
  refine .region ?_;refine vk (Aa) ?_;refine vk (vbi) ?_
  rcases brc hz with ⟨hc,hz⟩|⟨hc,hz⟩
  ·have hb0:(decide (x9.2=0))=true:=(dT hc)
   refine vk (VOK.lit (Aa) hb0) ?_;refine vk (Aa) ?_;refine vk (vbi) ?_;refine vk (AF) ?_
   rcases brc hz with ⟨hc,hz⟩|⟨hc,hz⟩
   ·have hb1:(decide (x11.2=0))=true:=(dT hc)
    refine vk (VOK.lit (Aa) hb1) ?_;refine vk (GZ An Ad) ?_;refine vk (GZ An Ad) ?_
    obtain ⟨x13,g13,hz⟩:=bnd hz
    refine vk (Ar (LF g13) Tryz.call14) ?_;refine vk (AF) ?_;refine asd ?_;refine RL.gk [4] ?_;refine .nil ?_
    cases hz
    exact jr () trivial
   have hb1:(decide (x11.2=0))=false:=(dF hc)
   refine vk (VOK.lit (Aa) hb1) ?_;refine gf ?_;refine gf ?_;refine gf ?_;refine vk (AF) ?_;refine asd ?_;refine RL.gk [4] ?_;refine .nil ?_
   cases hz
   exact jr () trivial
  have hb0:(decide (x9.2=0))=false:=(dF hc)
  refine vk (VOK.lit (Aa) hb0) ?_;refine gf ?_;refine gf ?_;refine vk (AF) ?_;refine vk (Aa) ?_;refine gf ?_;refine gf ?_;refine gf ?_;refine vk (AF) ?_;refine asd ?_;refine RL.gk [4] ?_;refine .nil ?_
  cases hz
  exact jr () trivial
 rintro _ _
 refine .ret ?_
 cases h
 exact ⟨rfl,rfl⟩
theorem ME {xs:List Arr} {f:Bu} {p:Arr→Bool} (hf:∀ x∈xs,f.g x=some (p x)) (K:Int→Option Int) (hl:xs.length≤17592186044416) : ∀ (n i k:Nat) (s:Int),n=xs.length-i→i≤xs.length→n<k →
  Aq xs f K k s (i:Int)=match (xs.drop i).findIdx? p with|some j=>some (((i+j:Nat)):Int)|none=>K s
 | n,i,0,s,_,_,h=>by omega
 | n,i,k+1,s,hn,hi,hk=>by
  rw [Aq]
  by_cases hlt:i<xs.length
  ·rw [if_pos (by omega),BT hlt,oB,hf _ (List.getElem_mem _),oB,lC hlt,List.findIdx?_cons]
   by_cases hp:p xs[i]=true
   ·rw [if_pos hp,if_pos hp];rfl
   ·rw [if_neg hp,if_neg hp,BF (by omega),ME hf K hl (n-1) (i+1) k s (by omega) (by omega) (by omega)]
    cases (xs.drop (i+1)).findIdx? p with
    | none=>rfl
    | some j=>simp only [Option.map_some];congr 1;omega
  ·rw [if_neg (by omega),List.drop_of_length_le (by omega)];rfl
theorem LP {xs:List Arr} {f:Bu} {p:Arr→Bool} (hf:∀ x∈xs,f.g x=some (p x)) (hl:xs.length≤17592186044416) : Aw xs f=some (xs.any p):=by
 unfold Aw AU
 rw [Ds]
 have:=ME hf (fun _=>some (-1)) hl xs.length 0 A4 0 rfl (Nat.zero_le _) (BE (by omega))
 rw [List.drop_zero,show ((0:Nat):Int)=0 from rfl] at this
 rw [this]
 cases h:xs.findIdx? p with
 | none =>
  rw [oB]
  have h1:=List.findIdx?_eq_none_iff.1 h
  have e:xs.any p=false:=List.any_eq_false.2 fun x hx=>by rw [h1 x hx];decide
  rw [e];rfl
 | some j =>
  rw [oB]
  congr 1
  have h2:xs.any p=true:=by
   have:=List.findIdx?_isSome (xs:=xs) (p:=p)
   rw [h] at this
   exact this.symm
  rw [h2]
  exact dT (by omega)
theorem Th {e:Int×RT×Int} (he:e.1=0∨e.1=1) {l:List Arr} (hl:l.length≤17592186044416) (ho:∀ a∈l,okAr a) : EL e l=some (!l.any fun a=>!decide (AD a)):=by
 have hc:=LP (xs:=l) (f:=(⟨.fn 107 [] [],fun x=>CE x⟩:Bu)) (p:=fun a=>!decide (AD a)) (fun a ha=>by
  show CE a=_
  unfold CE;rw [Dv (ho a ha)];rfl) hl
 unfold EL
 rcases he with h|h
 ·rw [if_pos h,hc];rfl
 ·rw [if_neg (by omega),if_pos h,hc];rfl
theorem Np {e:Int×RT×Int} (he:e.1=0∨e.1=1) {g:Int} {w:CB} (ht:Fe EU g=some w) {a:Arr} (oa:okAr a) : C0 e g a=if AD a then w.g a else some (.mk [] [],22):=by
 unfold C0
 rw [ht,Mi,Th he (by simp) (by simpa using oa),oB]
 by_cases h:AD a
 ·rw [if_pos (by simp [h]),if_pos h]
  generalize w.g a=m
  cases m<;>rfl
 ·rw [if_neg (by simp [h]),if_neg h]
theorem N8 {rc rc':Ah→Arr→Option (Arr×Int)} {f:Ah} {x:Itm} (hx:okI x∧AT x) (h:∀ b∈x.box,okAr b→AD b→rc f b=rc' f b) : GV rc f x=GV rc' f x:=by
 unfold GV
 rcases Fg hx.2.1 with ⟨q,_⟩|⟨q,_⟩|⟨q,_,_,b,hb,_⟩
 ·rw [if_pos q,if_pos q]
 ·rw [if_neg (by rw [q];decide),if_neg (by rw [q];decide),if_neg (by rw [q];decide),if_neg (by rw [q];decide)]
 ·obtain ⟨ob,rb,_⟩:=HM hx.1 hx.2 b (by simp [hb])
  rw [if_neg (by rw [q];decide),if_pos q,if_neg (by rw [q];decide),if_pos q,hb,LS,oB,oB,h b (by simp [hb]) ob rb]
theorem OT {f:Ah} (hf:U0 f) : ∀ (k k':Nat) {a:Arr},a.size<k→a.size<k'→okAr a→AD a→AH k f a=AH k' f a
 | 0,_,_,h,_,_,_=>by omega
 | _+1,0,_,_,h,_,_=>by omega
 | k+1,k'+1,a,h,h',oa,ra=>by
  have o:=(AM a).1 oa
  obtain ⟨n,hn,hl⟩:=F7 ra
  rw [AH,AH,DO,DO]
  refine NB o.2.1 hn (fun i hi=>?_) (fun i hi=>?_)
  ·have hi':i<a.items.length:=by rw [hl];split<;>omega
   obtain ⟨y,e,q,_⟩:=MS (rc:=AH k') hf (A6 oa ra (List.getElem_mem hi')) fun b hb ob rb=>IP hf k' (by have:=D3 (List.getElem_mem hi') hb;omega) ob rb
   exact ⟨(y,e),by rw [← q];exact CW (lG hi')⟩
  ·have hi':i<a.items.length:=by rw [hl];split<;>omega
   refine (CW (lG hi')).trans (Eq.trans ?_ (CW (lG hi')).symm)
   exact N8 (A6 oa ra (List.getElem_mem hi')) fun b hb ob rb=>OT hf k k' (by have:=D3 (List.getElem_mem hi') hb;omega) (by have:=D3 (List.getElem_mem hi') hb;omega) ob rb
theorem Lo {a:Arr} (oa:okAr a) (ra:AD a) {s':List Int} {n:Nat} {J:Nat→Nat} (hsz:szP a.shape=((n:Int),0)) (hsz':szP s'=((n:Int),0)) (h64:∀ z∈s',-9223372036854775808≤z∧z≤9223372036854775807) (hl:s'.length≤17592186044416)
  (hJ:n≠0→(∀ i,i<n→J i<n)∧∀ i j,i<n→j<n→J i=J j→i=j):okAr (.mk s' (if n=0 then [tyI (a.items.headD default)] else BD a n J))∧AD (.mk s' (if n=0 then [tyI (a.items.headD default)] else BD a n J)):=by
 have hlen:=G9 ra rfl hsz
 have hle:=Et s'
 rw [hsz'] at hle
 by_cases h0:n=0
 ·rw [if_pos h0] at hlen ⊢
  have hz:szP a.shape=(0,0):=by rw [hsz,h0];rfl
  have hz':szP s'=(0,0):=by rw [hsz',h0];rfl
  have hm:=FZ oa ra hz h64 hl hz' (p:=tyI (a.items.headD default)) (.inr rfl)
  obtain ⟨x,hx⟩:=List.length_eq_one_iff.1 hlen
  obtain ⟨ox,rx⟩:=A6 oa ra (x:=x) (by rw [hx];simp)
  have hh:a.items.headD default=x:=by rw [hx];rfl
  rw [hh] at hm ⊢
  obtain ⟨t1,t2,t3,t4,t5,t6⟩:=Nq ox rx.1
  obtain ⟨r,e,q1,q2,_⟩:=KM (xs:=[tyI x]) h64 hl (by simp) (by simp) (by simpa using ⟨t6,t1,t2▸rx.2.1,t3▸rx.2.2⟩)
  rw [hm] at q1
  cases q1
  exact ⟨(q2 rfl).1,(q2 rfl).2.1⟩
 ·rw [if_neg h0] at hlen ⊢
  obtain ⟨h1,h2⟩:=hJ h0
  refine ⟨?_,Lj oa ra hsz' h0 hlen h1 h2⟩
  rw [AM]
  exact ⟨h64,hl,by show (BD a n J).length≤_;rw [Ez];omega,fun x hx=>(A6 oa ra (GK (fun i hi=>by rw [hlen];exact h1 i hi) x hx)).1⟩
theorem RZ {f:Ah} {h:Rat→Rat} (hf:RatF f h) {a r:Arr} (oa:okAr a) (ra:AD a) (hr:Hm f a=some (r,0)) {s':List Int} {n:Nat} {J:Nat→Nat} (hsz:szP a.shape=((n:Int),0)) (hsz':szP s'=((n:Int),0)) (h64:∀ z∈s',-9223372036854775808≤z∧z≤9223372036854775807) (hl:s'.length≤17592186044416)
  (hJ:n≠0→(∀ i,i<n→J i<n)∧∀ i j,i<n→j<n→J i=J j→i=j):Hm f (.mk s' (if n=0 then [tyI (a.items.headD default)] else BD a n J))=some (.mk s' (if n=0 then [tyI (r.items.headD default)] else BD r n J),0):=by
 obtain ⟨ob,rb⟩:=Lo oa ra hsz hsz' h64 hl hJ
 have o:=(AM a).1 oa
 have hlen:=G9 ra rfl hsz
 have hlenb:=G9 rb rfl hsz'
 have hrel:∃ r1 r2 e,AH (a.size+1) f a=some (r1,e)∧AH (a.size+1) f a=some (r2,e)∧(e=0→RA r1 r2∧r1.shape=a.shape)∧(e≠0→r1=.mk [] []∧r2=.mk [] []):=Qo hf hf (a.size+1) (Nat.lt_succ_self _) oa ra
 have hr':AH (a.size+1) f a=some (r,0):=hr
 obtain ⟨r1,r2,e,q1,q2,q3,_⟩:=hrel
 rw [hr'] at q1 q2
 cases q1
 cases q2
 obtain ⟨hRA,hsh⟩:=q3 rfl
 have or_:=hRA.1
 have rr:=hRA.2.2.1
 have hlenr:=G9 rr hsh hsz
 unfold Hm
 rw [AH,DO,GQ]
 have hitem:∀ i,i<n→i<a.items.length:=fun i hi=>by rw [hlen];split<;>omega
 -- the items of a
 rw [AH,DO] at hr'
 have hFa:∀ i,(hi:i<n)→∃ y e,GV (AH a.size) f (a.items[i]'(hitem i hi))=some (y,e):=fun i hi=>by
  obtain ⟨y,e,q,_⟩:=MS (rc:=AH a.size) hf.tot (A6 oa ra (List.getElem_mem (hitem i hi))) fun c hc oc rc=>IP hf.tot a.size (D3 (List.getElem_mem (hitem i hi)) hc) oc rc
  exact ⟨y,e,q⟩
 by_cases h0:n=0
 ·rw [if_pos h0] at hlen ⊢
  rw [CV (n:=n) o.2.1 hsz (fun i hi=>by omega)] at hr'
  rw [CV (n:=n) hl hsz' (fun i hi=>by omega)]
  subst h0
  rw [show ∀ F:Ak,Bl F 0=[] from fun _=>rfl] at hr' ⊢
  have hm:Ax a.shape [Ec 0]=some (r,0):=hr'
  show Ax s' [Ec 0]=_
  have hhead:r.items.headD default=Ec 0:=by
   rw [GM o.1 o.2.1 (by simp) (fun x hx=>by rw [List.mem_singleton] at hx;subst hx;exact Gs.1),hsz] at hm
   have hc:¬([Ec 0]=[]∨¬∀ x∈[Ec 0],AT x):=fun q=>q.elim (fun e=>by cases e) fun q=>q fun x hx=>by rw [List.mem_singleton] at hx;subst hx;exact Gs.2
   rw [if_neg (fun q=>q rfl),if_neg hc] at hm
   split at hm
   ·have:=(oI hm)
    have e:r=.mk a.shape [tyI (Ec 0)]:=(congrArg Prod.fst this).symm
    rw [e]
    show tyI (Ec 0)=Ec 0
    unfold Ec
    rw [Rl];rfl
   ·have h8:(8:Int)=0:=congrArg Prod.snd (oI hm)
    exact absurd h8 (by decide)
  have hz:=FZ or_ rr (by rw [hsh];exact hsz) h64 hl hsz' (p:=Ec 0) (.inl hhead.symm)
  exact hz
 ·rw [if_neg h0] at hlen ⊢
  rw [if_neg h0] at hlenr
  obtain ⟨j1,j2⟩:=hJ h0
  have hbi:∀ i,(hi:i<n)→(BD a n J)[i]?=some (a.items[J i]'(by rw [hlen];exact j1 i hi)):=fun i hi=>by
   unfold BD
   rw [List.getElem?_map,List.getElem?_range hi,Option.map_some,lD,lG (by rw [hlen];exact j1 i hi)];rfl
  have hra:∀ i,(hi:i<n)→∃ y e,C8 (AH a.size) ((i:Nat):Int) a f=some (y,e)∧GV (AH a.size) f (a.items[i]'(hitem i hi))=some (y,e):=fun i hi=>by
   obtain ⟨y,e,q⟩:=hFa i hi
   exact ⟨y,e,(CW (lG (hitem i hi))).trans q,q⟩
  rw [CV (n:=n) o.2.1 hsz (fun i hi=>by obtain ⟨y,e,q,_⟩:=hra i hi;exact ⟨_,q⟩)] at hr'
  generalize hFa':(⟨.fn 93 [] [.ptr [.sl (Is a.shape),.sl (Its a.items)],.ptr [f.dv]],fun x=>C8 (AH a.size) x a f⟩:Ak)=Fa at hr'
  have hFag:∀ x,Fa.g x=C8 (AH a.size) x a f:=fun x=>by rw [← hFa']
  have herr:BL (Bl Fa n)=0:=by
   by_cases q:BL (Bl Fa n)=0
   ·exact q
   ·rw [if_neg q] at hr'
    exact absurd (congrArg Prod.snd (oI hr')) q
  have hitems:r.items=(Bl Fa n).map (·.1):=by
   rw [if_pos herr,if_neg h0,List.nil_append] at hr'
   have hx:∀ x∈(Bl Fa n).map (·.1),okI x∧AT x:=by
    intro x hx
    obtain ⟨z,hz,rfl⟩:=List.mem_map.1 hx
    have hz0:=DT herr z hz
    obtain ⟨i,hi,rfl⟩:=List.mem_map.1 hz
    have hi':=List.mem_range.1 hi
    obtain ⟨y,e,q,q2⟩:=hra i hi'
    obtain ⟨y',e',u1,u2⟩:=MS (rc:=AH a.size) hf.tot (A6 oa ra (List.getElem_mem (hitem i hi'))) fun c hc oc rc=>IP hf.tot a.size (D3 (List.getElem_mem (hitem i hi')) hc) oc rc
    rw [q2] at u1
    cases u1
    rw [hFag,q] at hz0 ⊢
    exact u2 hz0
   have hlm:((Bl Fa n).map (·.1)).length=n:=by rw [List.length_map,Ba]
   have hle:=Et a.shape
   rw [hsz] at hle
   rw [GM o.1 o.2.1 (by omega) (fun x h=>(hx x h).1),hsz,if_neg (fun q=>q rfl)] at hr'
   have hne:¬((Bl Fa n).map (·.1)=[]∨¬∀ x∈(Bl Fa n).map (·.1),AT x):=fun q=>q.elim (fun e=>by rw [e,List.length_nil] at hlm;omega) fun q=>q fun x h=>(hx x h).2
   rw [if_neg hne,ES hlm h0] at hr'
   split at hr'
   ·have e:r=.mk a.shape ((Bl Fa n).map (·.1)):=(congrArg Prod.fst (oI hr')).symm
    rw [e];rfl
   ·have h8:(8:Int)=0:=congrArg Prod.snd (oI hr')
    exact absurd h8 (by decide)
  -- the items of what is moved
  have hrb:∀ i,(hi:i<n)→C8 (AH (Arr.mk s' (BD a n J)).size) ((i:Nat):Int) (.mk s' (BD a n J)) f=Fa.g ((J i:Nat):Int):=fun i hi=>by
   have hji:J i<a.items.length:=by rw [hlen];exact j1 i hi
   rw [hFag,CW (lG hji)]
   refine (CW (x:=a.items[J i]) (hbi i hi)).trans ?_
   refine N8 (A6 oa ra (List.getElem_mem hji)) fun c hc oc rc=>OT hf.tot _ _ ?_ (D3 (List.getElem_mem hji) hc) oc rc
   have hm:a.items[J i]∈(Arr.mk s' (BD a n J)).items:=List.mem_of_getElem? (hbi i hi)
   exact D3 hm hc
  have hsome:∀ i,i<n→∃ q,Fa.g ((J i:Nat):Int)=some q:=fun i hi=>by
   obtain ⟨y,e,q,_⟩:=hra (J i) (j1 i hi)
   exact ⟨(y,e),by rw [hFag];exact q⟩
  have key:∀ F:Ak,(∀ i,i<n→F.g ((i:Nat):Int)=Fa.g ((J i:Nat):Int))→AJ s' F=some (.mk s' (BD r n J),0):=by
   intro F hF
   rw [CV (n:=n) hl hsz' (fun i hi=>by
    obtain ⟨q,hq⟩:=hsome i hi
    exact ⟨q,(hF i hi).trans hq⟩)]
   have hres:Bl F n=(List.range n).map fun i=>(Bl Fa n).getD (J i) default:=by
    show (List.range n).map _=_
    refine List.map_congr_left fun i hi=>?_
    have hi':=List.mem_range.1 hi
    rw [hF i hi',lD]
    unfold Bl
    rw [List.getElem?_map,List.getElem?_range (j1 i hi')];rfl
   have herr2:BL (Bl F n)=0:=by
    rw [hres]
    refine LN fun z hz=>?_
    obtain ⟨i,hi,rfl⟩:=List.mem_map.1 hz
    have hj:=j1 i (List.mem_range.1 hi)
    have hjl:J i<(Bl Fa n).length:=by rw [Ba];exact hj
    rw [lD,lG hjl]
    exact DT herr _ (List.getElem_mem hjl)
   have hits:(Bl F n).map (·.1)=BD r n J:=by
    rw [hres]
    unfold BD
    rw [List.map_map,hitems]
    refine List.map_congr_left fun i hi=>?_
    have hj:=j1 i (List.mem_range.1 hi)
    have hjl:J i<(Bl Fa n).length:=by rw [Ba];exact hj
    show ((Bl Fa n).getD (J i) default).1=_
    rw [lD,lG hjl,lD,List.getElem?_map,lG hjl];rfl
   rw [if_pos herr2,if_neg h0,List.nil_append,hits]
   exact HB or_ rr h64 hl hsz' h0 hlenr j1 j2
  rw [if_neg h0]
  exact key _ hrb
theorem N9 {g:Int} (hg:g∈([9021,8854,9033,44] : List Int)) : ∃ w : CB,Fe EU g=some w∧MK w.g:=by
 simp only [List.mem_cons,List.not_mem_nil,or_false] at hg
 rcases hg with rfl|rfl|rfl|rfl
 ·exact ⟨_,rfl,Py⟩
 ·exact ⟨_,rfl,NY⟩
 ·exact ⟨_,rfl,Jn⟩
 ·exact ⟨_,rfl,NI⟩
theorem P9 : Gv=some (1,(false,[],[1]),10):=by kernel_rfl
theorem Oo {a:Arr} {n:Int} (oa:okAr a) (hn:(Lit.int .u8 n).wf=true) : E1 a n=some true:=by
 have hn':0≤n:=by
  simp [Lit.wf,IntKind.min,IntKind.max,IntKind.signed,IntKind.bits] at hn;omega
 have hlt:(Int.tmod n 4).toNat<4:=by rw [Int.tmod_eq_emod_of_nonneg hn'];omega
 have hrd:rd? ([9021,8854,9033,44]:List Int) (Int.tmod n 4)=some (([9021,8854,9033,44]:List Int)[(Int.tmod n 4).toNat]'hlt):=by
  unfold rd?
  rw [if_pos (by rw [Int.tmod_eq_emod_of_nonneg hn'];omega),lG]
 obtain ⟨w,hw,hm⟩:=N9 (List.getElem_mem hlt)
 unfold E1
 rw [hrd,oB]
 revert hw
 generalize ([9021,8854,9033,44]:List Int)[(Int.tmod n 4).toNat]'hlt=g
 intro hw
 have M:=fun {b:Arr} (ob:okAr b)=>PC (e:=(1,(false,[],[1]),10)) (g:=45) (w:=fN5) rfl ob
 have S:=fun {b:Arr} (ob:okAr b)=>Np (e:=(1,(false,[],[1]),10)) (.inr rfl) hw ob
 have M1:=M oa
 have S1:=S oa
 by_cases hr:AD a
 rotate_left
 ·rw [if_neg hr] at M1 S1
  simp only [P9,M1,S1,oB,Dv oa,dF hr]
  rfl
 rw [if_pos hr] at M1 S1
 obtain ⟨m,hsz,_⟩:=F7 hr
 obtain ⟨s',J,hsz',h64,hl,hJ,hmv⟩:=hm hsz
 rw [hmv a oa hr rfl] at S1
 obtain ⟨r,e,q1,q2,q3⟩:=IP Vf.tot (a.size+1) (Nat.lt_succ_self _) oa hr
 have q1':Hm fN5 a=some (r,e):=q1
 rw [q1'] at M1
 by_cases h0:e=0
 rotate_left
 ·simp only [P9,M1,S1,oB,Dv oa,dT hr,dF h0,if_neg h0]
  rfl
 subst h0
 obtain ⟨or_,rr,hsh⟩:=q2 rfl
 obtain ⟨ob,rb⟩:=Lo oa hr hsz hsz' h64 hl hJ
 obtain ⟨oc,rc⟩:=Lo or_ rr (by rw [hsh];exact hsz) hsz' h64 hl hJ
 have S2:=S or_
 rw [if_pos rr,hmv r or_ rr hsh] at S2
 have M2:=M ob
 rw [if_pos rb,RZ Vf oa hr q1' hsz hsz' h64 hl hJ] at M2
 simp only [P9,M1,S1,S2,M2,oB,if_true,(S9 oc oc rc rc).yes rfl]
 rfl
end Go.FL
namespace Go.Proofs.YtbeekjoeaigngaaGreat.topMoves
open Go.ChangeShapes Go.WideShapes Go.ChangeAt Go.RowKit Go.FL
theorem own : ownKnob Tryz.prog.godebug=none:=by kernel_rfl
theorem laid : laidOutB Tryz.prog=true:=by kernel_rfl
theorem params : ∀ t∈Tryz.f3.params.toList,Tryz.prog.readableRec t=true∧t<Tryz.prog.types.size:=by
 intro t ht
 simp only [Tryz.params3,List.mem_cons,List.not_mem_nil,or_false] at ht
 rcases ht with rfl|rfl<;>exact ⟨by kernel_rfl,of_decide_eq_true (by kernel_rfl)⟩
set_option maxRecDepth 100000 in
theorem lifted (os:Os) (started:os.Started) (H:Type) (enc:TypeId×Value→H) :
  ReturnsInHanded {} Tryz.checked os 3 .any (Rows.topMovesSpec.pre6 enc Tryz.prog Tryz.f3 Rows.topMovesRow.domain false) (Rows.topMovesSpec.post enc Tryz.prog Tryz.f3 false true false false):=by
 refine returnsInHanded_of_change_sized (C:=Tryz.checked) own started (by kernel_rfl) Tryz.func3
  (ChangeSpec.witness6 (enc:=enc) (C:=Tryz.checked) false ⟨#[],#[.agg #[.slice none 0 0,.slice none 0 0],.int .u8 0],[]⟩ 8 (by kernel_rfl) (by kernel_rfl) (by kernel_rfl) (by kernel_rfl)) ?_
 intro W base args ds gs before hval0 hW hcnd hsz _
 have hval:∀ (j:Nat) t v,Tryz.f3.params[j]?=some t→args[j]?=some v→Value.okWide Tryz.prog W .any base t v:=hval0
 have hW':=hW
 obtain ⟨p,q,hA0,hV,rfl,hfz,hnd⟩:=hW
 have hA:DataW.TrodAll enc Tryz.prog W 0 (fun _=>true) true Tryz.f3.params.toList args.toList ds p:=hA0
 rw [Tryz.params3] at hA hval
 obtain ⟨v0,vs0,d0,ds0,p0,q0,hargs,rfl,rfl,h0,r0⟩:=trodAll_cons hA
 obtain ⟨v1,vs1,d1,ds1,p1,q1,rfl,rfl,rfl,h1,r1⟩:=trodAll_cons r0
 obtain ⟨rfl,rfl,rfl⟩:=trodAll_nil r1
 obtain rfl:args=#[v0,v1]:=by cases args;simp_all
 obtain ⟨rfl,rfl⟩:=trodVars_none hV
 rw [Tryz.params3] at hsz
 have w0:∀ m∈DataW.weights Tryz.prog 25 d0,m≤reachBytes:=fun m hm=>by simpa using List.all_eq_true.1 hsz m (DataW.weights_mem_each (j:=0) rfl rfl m hm)
 obtain ⟨a0,o0,e0⟩:=Ul (v:=v0) Wr (let ⟨cs,h,_⟩:=okWide_struct (P:=Tryz.prog) Tryz.underlying25 (hval 0 25 v0 rfl rfl);⟨cs,h⟩) h0 w0
 have w1:∀ m∈DataW.weights Tryz.prog 5 d1,m≤reachBytes:=fun m hm=>by simpa using List.all_eq_true.1 hsz m (DataW.weights_mem_each (j:=1) rfl rfl m hm)
 obtain ⟨a1,o1,e1⟩:=UR (by kernel_rfl:Tryz.prog.underlying 5=some (.int .u8)) (hval 1 5 v1 rfl rfl) h1
 refine (Se (Kq (Oo o0 o1)) (.cons e0 (.cons e1 .nil))).mono fun e W' ⟨he,hb⟩=>?_
 subst he
 exact ⟨_,rfl,Sj hW' rfl (fun _=>rfl) rfl Tryz.underlying4 laid params hb⟩
theorem over : Rows.topMovesRow.holds Tryz.pinned (OpenSpec.ofChange Rows.topMovesSpec) :=
 OpenClaim.holds_of_wide 3 Tryz.f3 rfl rfl rfl rfl rfl rfl rfl ⟨rfl,rfl,rfl,rfl,rfl⟩ rfl rfl rfl rfl rfl (by kernel_rfl) Tryz.func3 (by kernel_rfl)
  (of_decide_eq_true (by kernel_rfl)) (by unfold Func.isWrapper;first|(rw [if_pos (by decide +kernel)];kernel_rfl)|(rw [if_neg (by decide +kernel)];exact ⟨rfl,rfl⟩))
  (fun os started H enc _=>lifted os started H enc)
theorem proved : Rows.TopMovesSaid :=
 over
end Go.Proofs.YtbeekjoeaigngaaGreat.topMoves
