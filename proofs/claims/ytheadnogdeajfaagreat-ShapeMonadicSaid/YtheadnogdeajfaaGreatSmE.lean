/-
  Part 5 of the base of the proofs: a logic of our own over the calculus, the contracts of the functions
-/
import Derived.Test.YtheadnogdeajfaaGreatSmD
set_option linter.unusedVariables false
namespace Go.FL
open Go Go.Proofs
theorem Fg {a:Arr} (oa:okAr a) (ra:AB a) : Dd a=some (tyI (a.items.headD default)):=by
 have hp:=Fj ra
 unfold Dd
 rw [HA oa,oB,dT ra,if_pos rfl]
 cases hi:a.items with
 | nil=>rw [hi] at hp;simp at hp
 | cons x xs =>
  obtain ⟨ox,rx⟩:=CO oa ra (x:=x) (by rw [hi];simp)
  rw [Mt,oB,Rj ox rx.1];rfl
theorem Xc {a:Arr} (oa:okAr a) (ra:AB a) : Gn a=some a:=by
 unfold Gn
 rw [HA oa,oB,dT ra,if_pos rfl,LK oa];rfl
theorem PP : ∀ (t:List Nat) (i j:Nat) (h:j<t.length),(atN t i)[j]'(by rw [Ci];exact h)=i / (stN t)[j]'(by rw [Dt];exact h) % t[j]
 | x::xs,i,0,_=>rfl
 | x::xs,i,j+1,h=>PP xs i j (by simpa using h)
 | [],_,_,h=>by simp at h
theorem UC {α:Type} {L r:List α} {j:Nat} (hl:L.length=r.length) (h:j<L.length) : (L.take j++r.drop j).set j L[j]=L.take (j+1)++r.drop (j+1):=by
 have hj:(L.take j).length=j:=by rw [List.length_take];omega
 have e:r.drop j=r[j]'(by omega)::r.drop (j+1):=lC (by omega)
 rw [e,List.set_append_right _ _ (by omega),hj,Nat.sub_self,List.set_cons_zero,List.take_succ_eq_append_getElem h,List.append_assoc]
 rfl
theorem Qg {t:List Nat} (ht:∀ x∈t,0<x∧x≤4096) (h8:t.length≤8) {i:Nat} (hi:i≤4096) (K:List Int→Option (Arr×Int)) {r:List Int} (hr:r.length=t.length) : ∀ (n j k:Nat),n=t.length-j→j≤t.length→n<k →
  C2 (up_ t) (up_ (stN t)) (i:Int) K k ((up_ (atN t i)).take j++r.drop j) (j:Int)=K (up_ (atN t i))
 | _,_,0,_,_,h=>by omega
 | n,j,k+1,hn,hj,hk=>by
  have hlen:(up_ (atN t i)).length=t.length:=by rw [Az,Ci]
  rw [C2]
  by_cases h:j<t.length
  ·have hs:j<(stN t).length:=by rw [Dt];exact h
   have hsp:=SS (fun x hx=>(ht x hx).1) _ (List.getElem_mem hs)
   have htp:=(ht _ (List.getElem_mem h)).1
   have hcur:j<((up_ (atN t i)).take j++r.drop j).length:=by rw [List.length_append,List.length_take,List.length_drop];omega
   have g1:E5 (((stN t)[j]:Int)≠0)=some ():=if_pos (by omega)
   have g2:E5 ((t[j]:Int)≠0)=some ():=if_pos (by omega)
   have e1:Int.tdiv (i:Int) ((stN t)[j]:Int)=((i / (stN t)[j]:Nat):Int):=rfl
   have hd:i / (stN t)[j]≤i:=Nat.div_le_self _ _
   have hw:w64 ((i / (stN t)[j]:Nat):Int)=((i / (stN t)[j]:Nat):Int):=by
    generalize i / (stN t)[j]=d at hd ⊢
    exact Bi (by omega) (by omega)
   have e2:Int.tmod ((i / (stN t)[j]:Nat):Int) (t[j]:Int)=((i / (stN t)[j] % t[j]:Nat):Int):=rfl
   have e3:((i / (stN t)[j] % t[j]:Nat):Int)=(up_ (atN t i))[j]'(by rw [hlen];exact h):=by
    rw [GC (by rw [Ci];exact h),PP t i j h]
   rw [if_pos (by rw [Az,Dt];omega),KO hs,oB,g1,oB,KO h,oB,g2,oB,AY hcur,oB,e1,hw,e2,e3,Int.toNat_natCast,A4 (by omega),
    UC (by rw [hlen,hr]) (by rw [hlen];exact h),Qg ht h8 hi K hr (n-1) (j+1) k (by omega) (by omega) (by omega)]
  ·rw [if_neg (by rw [Az,Dt];omega),List.take_of_length_le (by omega),List.drop_of_length_le (by omega),List.append_nil]
def Jy (a:Arr) (p:Itm) (j:Int) : Itm:=if 0≤j then a.items.getD j.toNat default else p
theorem MK {a:Arr} {t:List Nat} {F:Cf} {p:Itm} {J:Nat→Int} (ht:∀ x∈t,0<x∧x≤4096) (h8:t.length≤8) (hn:pr t≤4096) (hF:∀ i,i<pr t→F.g (up_ (atN t i))=some (J i)∧J i<(a.items.length:Int)) {x1:Int×Int} (hx1:x1.1=(pr t:Int)) (K:List Itm→Option (Arr×Int)) : ∀ (n i k:Nat) (r:List Int),n=pr t-i→i≤pr t→n<k→r.length=t.length →
  Cs a (up_ t) F x1 p (up_ (stN t)) K k r (((List.range (pr t)).map fun i=>Jy a p (J i)).take i) (i:Int)=K ((List.range (pr t)).map fun i=>Jy a p (J i))
 | _,_,0,_,_,_,h,_=>by omega
 | n,i,k+1,r,hn',hi,hk,hr=>by
  have hlen:((List.range (pr t)).map fun i=>Jy a p (J i)).length=pr t:=by simp
  rw [Cs]
  by_cases h:i<pr t
  ·have hb:=fun K=>Qg ht h8 (i:=i) (by omega) K hr t.length 0 Aw rfl (Nat.zero_le _) (AS (by omega))
   rw [List.take_zero,List.nil_append,List.drop_zero,show ((0:Nat):Int)=0 from rfl] at hb
   obtain ⟨f1,f2⟩:=hF i h
   have hg:((List.range (pr t)).map fun i=>Jy a p (J i))[i]'(by rw [hlen];exact h)=Jy a p (J i):=by simp
   have ih:=MK (p:=p) ht h8 hn hF hx1 K (n-1) (i+1) k (up_ (atN t i)) (by omega) (by omega) (by omega) (by rw [Az,Ci])
   rw [List.take_succ_eq_append_getElem (by rw [hlen];exact h),hg] at ih
   have hcap:(((List.range (pr t)).map fun i=>Jy a p (J i)).take i).length+1≤1466015503701:=by rw [List.length_take];omega
   rw [if_pos (by omega),A3,A3,hb,f1,oB]
   by_cases h0:0≤J i
   ·have hj:(J i).toNat<a.items.length:=by omega
    have e:rd? a.items (J i)=some (a.items.getD (J i).toNat default):=by
     unfold rd?
     rw [if_pos h0,lD,lG hj];rfl
    have ep:Jy a p (J i)=a.items.getD (J i).toNat default:=if_pos h0
    rw [if_pos h0,e,oB,Dw (by simpa using hcap),oB,A4 (by omega),← ep]
    exact ih
   ·have ep:Jy a p (J i)=p:=if_neg h0
    rw [if_neg h0,Dw (by simpa using hcap),oB,A4 (by omega)]
    rw [ep] at ih
    exact ih
  ·rw [if_neg (by omega),List.take_of_length_le (by omega)]
theorem LD {a:Arr} {t:List Nat} {F:Cf} {p:Itm} {J:Nat→Int} (hp:Dd a=some p) (ht:∀ x∈t,0<x∧x≤4096) (h8:t.length≤8) (hn:pr t≤4096) (hF:∀ i,i<pr t→F.g (up_ (atN t i))=some (J i)∧J i<(a.items.length:Int)) :
  Bn a (up_ t) F=AP (up_ t) ((List.range (pr t)).map fun i=>Jy a p (J i)):=by
 have hpp:=Lv fun x hx=>(ht x hx).1
 have hl:(up_ t).length≤17592186044416:=by rw [Az];omega
 have hg:E5 (0≤((List.length (up_ t):Nat):Int)∧((List.length (up_ t):Nat):Int)≤17592186044416)=some ():=if_pos (by omega)
 unfold Bn
 rw [Ik hl,oB,YO h8 ht hn,if_pos rfl,hp,oB,EU hl,oB,hg,oB,A3,Kq hn fun x hx=>(ht x hx).1]
 have:=fun K=>MK (p:=p) ht h8 hn hF (x1:=((pr t:Int),0)) rfl K (pr t) 0 Aw (List.replicate (Int.toNat ((List.length (up_ t):Nat):Int)) 0) rfl (Nat.zero_le _) (AS (by omega)) (by simp [Az])
 rw [List.take_zero,show ((0:Nat):Int)=0 from rfl] at this
 rw [this,A3,if_neg (by show ¬((pr t:Int)=0);omega)]
 show ((AP (up_ t) ((List.range (pr t)).map fun i=>Jy a p (J i))).bind fun x25=>some (x25.1,x25.2))=_
 generalize AP _ _=m
 cases m<;>rfl
theorem H8 {a:Arr} {s:List Int} {F:Cf} {p:Itm} (hp:Dd a=some p) (hl:s.length≤17592186044416) (hs:szP s=(0,0)) : Bn a s F=AP s [p]:=by
 have hg:E5 (0≤((List.length s:Nat):Int)∧((List.length s:Nat):Int)≤17592186044416)=some ():=if_pos (by omega)
 have hF:Aw=999999999999999+1:=rfl
 unfold Bn
 rw [Ik hl,oB,hs,if_pos rfl,hp,oB,EU hl,oB,hg,oB,A3,hF,Cs,if_neg (by decide),A3,if_pos rfl,Dw (by simp),oB]
 show ((AP s [p]).bind fun x25=>some (x25.1,x25.2))=_
 generalize AP _ _=m
 cases m<;>rfl
def Cg (t:List Nat) (ax:Nat) (fr:List Nat) (i:Nat) : Nat:=plN (stN t) ((atN (t.set ax fr.length) i).set ax (fr.getD ((atN (t.set ax fr.length) i).getD ax 0) 0))
theorem K9 {t:List Nat} {ax:Nat} {fr:List Nat} (ht:∀ x∈t,0<x) (hax:ax<t.length) (hfr:∀ x∈fr,x<t[ax]) (h0:0<fr.length) (i:Nat) : VC t ((atN (t.set ax fr.length) i).set ax (fr.getD ((atN (t.set ax fr.length) i).getD ax 0) 0)):=by
 have ht':∀ x∈t.set ax fr.length,0<x:=fun x hx=>by
  rcases List.mem_or_eq_of_mem_set hx with hx|rfl
  ·exact ht x hx
  ·exact h0
 have hv:=J6 (t:=t.set ax fr.length) i ht'
 have hl:(atN (t.set ax fr.length) i).length=t.length:=by rw [Ci,List.length_set]
 have hc:(atN (t.set ax fr.length) i).getD ax 0<fr.length:=by
  have:=Ko hv ax (by omega) (by simpa using hax)
  rw [List.getElem_set_self] at this
  rw [lD,lG (by omega)]
  exact this
 refine VJ (by rw [List.length_set,hl]) fun k h1 h2=>?_
 rw [List.getElem_set]
 split
 ·rename_i e
  subst e
  refine hfr _ ?_
  rw [lD,lG hc]
  exact List.getElem_mem hc
 ·rename_i e
  have:=Ko hv k (by omega) (by simpa using h2)
  rw [List.getElem_set_ne e] at this
  exact this
theorem Jq {t:List Nat} {ax:Nat} {fr:List Nat} (ht:∀ x∈t,0<x) (hax:ax<t.length) (hfr:∀ x∈fr,x<t[ax]) (h0:0<fr.length) (i:Nat) : Cg t ax fr i<pr t:=Nw (K9 ht hax hfr h0 i)
theorem Rm {P R z v c:Nat} (hpl:R+z * c=P+z * v) (m1:z * c≤16777216) (m2:z * v≤16777216) (hz:z≤4096) (hv:v≤4096) (hc:c≤4096) (hR:R≤4096) : w64 ((P:Int)+w64 ((z:Int) * w64 ((v:Int)-(c:Int))))=(R:Int):=by
 have e1:w64 ((v:Int)-(c:Int))=(v:Int)-(c:Int):=Bi (by omega) (by omega)
 have e2:(z:Int) * ((v:Int)-(c:Int))=((z * v:Nat):Int)-((z * c:Nat):Int):=by rw [Int.mul_sub,Int.natCast_mul,Int.natCast_mul]
 rw [e1,e2]
 generalize z * v=A at *
 generalize z * c=B at *
 have e3:w64 ((A:Int)-(B:Int))=(A:Int)-(B:Int):=Bi (by omega) (by omega)
 rw [e3,show (P:Int)+((A:Int)-(B:Int))=(R:Int) by omega,Bi (by omega) (by omega)]
theorem WI {t:List Nat} {ax:Nat} {fr:List Nat} (ht:∀ x∈t,0<x∧x≤4096) (h8:t.length≤8) (hn:pr t≤4096) (hax:ax<t.length) (hfr:∀ x∈fr,x<t[ax]) (h0:0<fr.length) (hm:fr.length≤4096) (i:Nat) :
  D5 (up_ (atN (t.set ax fr.length) i)) (up_ fr) (ax:Int) (up_ (stN t))=some ((Cg t ax fr i:Nat):Int):=by
 have ht':∀ x∈t.set ax fr.length,0<x∧x≤4096:=fun x hx=>by
  rcases List.mem_or_eq_of_mem_set hx with hx|rfl
  ·exact ht x hx
  ·exact ⟨h0,hm⟩
 have hv:=J6 (t:=t.set ax fr.length) i fun x hx=>(ht' x hx).1
 have hl:(atN (t.set ax fr.length) i).length=t.length:=by rw [Ci,List.length_set]
 have hcv:=Ko hv ax (by omega) (by simpa using hax)
 rw [List.getElem_set_self] at hcv
 have hst:ax<(stN t).length:=by rw [Dt];exact hax
 have hcb:∀ x∈atN (t.set ax fr.length) i,x≤4096:=fun x hx=>by
  obtain ⟨k,hk,rfl⟩:=List.getElem_of_mem hx
  have:=Ko hv k hk (by rw [List.length_set];omega)
  have h2:=(ht' _ (List.getElem_mem (show k<(t.set ax fr.length).length by rw [List.length_set];omega))).2
  omega
 have hsb:∀ x∈stN t,x≤4096:=fun x hx=>nT (RV (fun x hx=>(ht x hx).1) x hx) hn
 have hpl:=SR (stN t) (atN (t.set ax fr.length) i) ax (fr.getD ((atN (t.set ax fr.length) i).getD ax 0) 0) (by omega) hst
 have hgd:(atN (t.set ax fr.length) i).getD ax 0=(atN (t.set ax fr.length) i)[ax]'(by omega):=by rw [lD,lG (by omega)];rfl
 have hfd:fr.getD ((atN (t.set ax fr.length) i)[ax]'(by omega)) 0=fr[(atN (t.set ax fr.length) i)[ax]'(by omega)]'hcv:=by rw [lD,lG hcv];rfl
 have hlt:=Jq (fun x hx=>(ht x hx).1) hax hfr h0 i
 unfold Cg at hlt ⊢
 rw [hgd,hfd] at hpl hlt ⊢
 have hf1:=hfr _ (List.getElem_mem hcv)
 have htx:=(ht _ (List.getElem_mem hax)).2
 have hs1:=hsb _ (List.getElem_mem hst)
 have hc1:=hcb _ (List.getElem_mem (show ax<(atN (t.set ax fr.length) i).length by omega))
 have m1:=KZ hs1 hc1
 have m2:=KZ hs1 (show fr[(atN (t.set ax fr.length) i)[ax]'(by omega)]'hcv≤4096 by omega)
 unfold D5
 rw [KO (by omega),oB,KO hcv,oB,if_neg (by omega),Rd (by rw [Dt];exact h8) (by rw [Dt];omega) hsb hcb,oB,KO hst,oB,oB]
 exact congrArg some (Rm hpl m1 m2 (by omega) (by omega) (by omega) (by omega))
theorem Om {a:Arr} {t:List Nat} {ax:Nat} {fr:List Nat} {p:Itm} (hp:Dd a=some p) (ha:a.shape=up_ t) (hit:a.items.length=pr t) (ht:∀ x∈t,0<x∧x≤4096) (h8:t.length≤8) (hn:pr t≤4096) (hax:ax<t.length) (hfr:∀ x∈fr,x<t[ax]) (h0:0<fr.length) (hm:fr.length≤4096) (hn':pr (t.set ax fr.length)≤4096) :
  Bs a (ax:Int) (up_ fr)=AP (up_ (t.set ax fr.length)) ((List.range (pr (t.set ax fr.length))).map fun i=>a.items.getD (Cg t ax fr i) default):=by
 have ht':∀ x∈t.set ax fr.length,0<x∧x≤4096:=fun x hx=>by
  rcases List.mem_or_eq_of_mem_set hx with hx|rfl
  ·exact ht x hx
  ·exact ⟨h0,hm⟩
 have hl:(up_ t).length≤17592186044416:=by rw [Az];omega
 unfold Bs
 rw [ha,Jl hl,oB,KO hax,oB,EU hl,oB,Kq hn fun x hx=>(ht x hx).1,Int.toNat_natCast]
 have e:List.set (up_ t) ax ((List.length (up_ fr):Nat):Int)=up_ (t.set ax fr.length):=by
  rw [Az];unfold up_;rw [List.map_set]
 rw [e]
 have hb:=LD (F:=(⟨.fn 123 [] [.ptr [.sl (Is (up_ fr))],.ptr [.i .i64 (ax:Int)],.ptr [.sl (Is (up_ (stN t)))]],fun x=>D5 x (up_ fr) (ax:Int) (up_ (stN t))⟩:Cf)) (J:=fun i=>((Cg t ax fr i:Nat):Int)) hp ht' (by rw [List.length_set];exact h8) hn' (fun i _=>⟨WI ht h8 hn hax hfr h0 hm i,by have:=Jq (fun x hx=>(ht x hx).1) hax hfr h0 i;show ((Cg t ax fr i:Nat):Int)<_;omega⟩)
 rw [hb]
 have e2:((List.range (pr (t.set ax fr.length))).map fun i=>Jy a p ((Cg t ax fr i:Nat):Int))=((List.range (pr (t.set ax fr.length))).map fun i=>a.items.getD (Cg t ax fr i) default):=by
  refine List.map_congr_left fun i _=>?_
  unfold Jy
  rw [if_pos (by omega),Int.toNat_natCast]
 rw [e2]
 generalize AP _ _=m
 cases m<;>rfl
theorem Nf {a:Arr} {ax:Nat} {fr:List Int} {p:Itm} (hp:Dd a=some p) (hl:a.shape.length≤17592186044416) (hax:ax<a.shape.length) (hs:szP (a.shape.set ax ((fr.length:Nat) : Int))=(0,0)) :
  Bs a (ax:Int) fr=AP (a.shape.set ax ((fr.length:Nat):Int)) [p]:=by
 unfold Bs
 rw [Jl hl,oB,AY hax,oB,EU hl,oB,Int.toNat_natCast,H8 hp (by rw [List.length_set];exact hl) hs]
 generalize AP _ _=m
 cases m<;>rfl
def G7 (g:Nat→Nat) : List Nat→Nat
 | []=>0
 | x::xs=>g x+G7 g xs
theorem TQ {g:Nat→Nat} {l m:List Nat} (h:l.Perm m) : G7 g l=G7 g m:=by
 induction h with
 | nil=>rfl
 | cons x _ ih=>rw [G7,G7,ih]
 | swap x y l=>rw [G7,G7,G7,G7];omega
 | trans _ _ a b=>exact a.trans b
theorem QR (g:Nat→Nat) : ∀ l m : List Nat,G7 g (l++m)=G7 g l+G7 g m
 | [],m=>by rw [List.nil_append,G7,Nat.zero_add]
 | x::l,m=>by rw [List.cons_append,G7,G7,QR g l m,Nat.add_assoc]
theorem Pm (g:Nat→Nat) : ∀ (n:Nat) (L:List Nat),L.Nodup→(∀ x∈L,x<n)→G7 g L≤G7 g (List.range n)
 | 0,[],_,_=>Nat.le_refl _
 | 0,x::_,_,h=>absurd (h x (by simp)) (by omega)
 | n+1,L,hd,h=>by
  rw [List.range_succ,QR]
  by_cases hn:n∈L
  ·rw [TQ (List.perm_cons_erase hn)]
   have:=Pm g n (L.erase n) (hd.erase n) fun x hx=>by
    have h1:=(hd.mem_erase_iff).1 hx
    have:=h x h1.2
    have:=h1.1
    omega
   simp only [G7]
   omega
  ·have:=Pm g n L hd fun x hx=>by
    have:=h x hx
    have:x≠n:=fun e=>hn (e▸hx)
    omega
   omega
theorem Tc (xs:List Itm) (L:List Nat) : cIs (L.map fun j=>xs.getD j default)=G7 (fun j=>cI (xs.getD j default)) L:=by
 induction L with
 | nil=>rfl
 | cons j L ih=>rw [List.map_cons,cIs,G7,ih]
theorem M1 (xs:List Itm) : (List.range xs.length).map (fun j=>xs.getD j default)=xs:=by
 apply List.ext_getElem
 ·simp
 ·intro i h1 h2
  rw [List.getElem_map,List.getElem_range,lD,lG h2];rfl
theorem U2 {xs:List Itm} {d:Nat} (h:∀ x∈xs,dI x≤d) : dIs xs≤d:=by
 induction xs with
 | nil=>exact Nat.zero_le _
 | cons x xs ih =>
  rw [dIs]
  have h1:=h x (by simp)
  have h2:=ih fun y hy=>h y (by simp [hy])
  omega
theorem Hw {x:Itm} : ∀ {xs:List Itm},x∈xs→dI x≤dIs xs
 | y::ys,h=>by
  rw [dIs]
  rcases List.mem_cons.1 h with rfl|h
  ·omega
  ·have:=Hw h;omega
def Cq (a:Arr) (n:Nat) (J:Nat→Nat) : List Itm:=(List.range n).map fun i=>a.items.getD (J i) default
theorem Fq {a:Arr} {n:Nat} {J:Nat→Nat} (hJ:∀ i,i<n→J i<a.items.length) : ∀ x∈Cq a n J,x∈a.items:=fun x hx=>by
 obtain ⟨i,hi,rfl⟩:=List.mem_map.1 hx
 have:=hJ i (List.mem_range.1 hi)
 rw [lD,lG this]
 exact List.getElem_mem this
theorem Dk (a:Arr) (n:Nat) (J:Nat→Nat) : (Cq a n J).length=n:=by simp [Cq]
theorem T5 {s:List Int} {xs:List Itm} {n:Nat} (hs64:∀ z∈s,-9223372036854775808≤z∧z≤9223372036854775807) (hl:s.length≤17592186044416) (hsz:szP s=((n:Int),0)) (h0:n≠0) (hlen:xs.length=n) (hx:∀ x∈xs,okI x∧Bg x) (hR:AB (.mk s xs)) : AP s xs=some (.mk s xs,0):=by
 have hn:=EQ s
 rw [hsz] at hn
 have hne:¬(xs=[]∨¬∀ x∈xs,Bg x):=fun q=>q.elim (fun e=>by rw [e] at hlen;simp at hlen;omega) fun q=>q fun x h=>(hx x h).2
 rw [Jj hs64 hl (by omega) (fun x h=>(hx x h).1),hsz,if_neg (fun q=>q rfl),if_neg hne,HT hlen h0,if_pos hR]
theorem R5 {a:Arr} (oa:okAr a) (ra:AB a) {s:List Int} {n:Nat} (hsz:szP s=((n:Int),0)) (h0:n≠0) (hlen:a.items.length=n) {J:Nat→Nat} (hJ:∀ i,i<n→J i<n) (hinj:∀ i j,i<n→j<n→J i=J j→i=j) : AB (.mk s (Cq a n J)):=by
 have hJ':∀ i,i<n→J i<a.items.length:=fun i hi=>by rw [hlen];exact hJ i hi
 have hx:∀ x∈Cq a n J,okI x∧Bg x:=fun x h=>CO oa ra (Fq hJ' x h)
 have hc:cIs (Cq a n J)≤cIs a.items:=by
  have e1:Cq a n J=((List.range n).map J).map fun j=>a.items.getD j default:=by unfold Cq;rw [List.map_map];rfl
  have e2:cIs a.items=G7 (fun j=>cI (a.items.getD j default)) (List.range n):=by
   rw [← Tc,← hlen,M1]
  rw [e1,Tc,e2]
  refine Pm _ n _ ?_ fun x hx=>?_
  ·rw [List.Nodup,List.pairwise_map]
   refine List.pairwise_lt_range.imp_of_mem fun {i j} hi hj hij e=>?_
   have:=hinj i j (List.mem_range.1 hi) (List.mem_range.1 hj) e
   omega
  ·obtain ⟨i,hi,rfl⟩:=List.mem_map.1 hx
   exact hJ i (List.mem_range.1 hi)
 have hd:dIs (Cq a n J)≤dIs a.items:=U2 fun x h=>Hw (Fq hJ' x h)
 obtain ⟨r1,r2,r3⟩:=ra
 have hri:=(Jc r1).2.2
 refine ⟨?_,?_,?_⟩
 ·rw [HG,E7,DN,hsz,EM.2 fun x h=>(hx x h).2.1,Dk]
  simp only [Bool.and_true,decide_true,Bool.true_and,decide_eq_true_eq]
  rw [if_neg (by omega)]
 ·rw [Gz,DN]
  rw [Gz] at r2
  split
  ·omega
  ·by_cases hs:AM a=true
   ·have:=(IM hs (EM.2 hri)).1
    omega
   ·rw [if_neg hs] at r2;omega
 ·rw [GK,DN,Dk]
  rw [GK] at r3
  omega
theorem Fu {a:Arr} (oa:okAr a) (ra:AB a) {s:List Int} {n:Nat} (hs64:∀ z∈s,-9223372036854775808≤z∧z≤9223372036854775807) (hl:s.length≤17592186044416) (hsz:szP s=((n:Int),0)) (h0:n≠0) (hlen:a.items.length=n) {J:Nat→Nat} (hJ:∀ i,i<n→J i<n) (hinj:∀ i j,i<n→j<n→J i=J j→i=j) :
  AP s (Cq a n J)=some (.mk s (Cq a n J),0) :=
 T5 hs64 hl hsz h0 (Dk a n J) (fun x h=>CO oa ra (Fq (fun i hi=>by rw [hlen];exact hJ i hi) x h)) (R5 oa ra hsz h0 hlen hJ hinj)
theorem EZ {a:Arr} (oa:okAr a) (ra:AB a) (hz:szP a.shape=(0,0)) {s:List Int} (hs64:∀ z∈s,-9223372036854775808≤z∧z≤9223372036854775807) (hl:s.length≤17592186044416) (hsz:szP s=(0,0)) {p:Itm} (hp:p=a.items.headD default∨p=tyI (a.items.headD default)) :
  AP s [p]=some (.mk s [tyI (a.items.headD default)],0):=by
 have hne:=Fj ra
 obtain ⟨r1,r2,r3⟩:=ra
 have hlen:a.items.length=1:=by
  have:=(Jc r1).2.1
  rw [hz] at this
  rw [if_pos (by decide)] at this
  omega
 obtain ⟨x,hx⟩:=List.length_eq_one_iff.1 hlen
 have hx':a.items.headD default=x:=by rw [hx];rfl
 rw [hx'] at hp ⊢
 obtain ⟨ox,rx⟩:=CO oa ⟨r1,r2,r3⟩ (x:=x) (by rw [hx];simp)
 obtain ⟨t1,t2,t3,t4,t5,t6⟩:=PA ox rx.1
 have hns:∀ {s:List Int} {i:List Itm},szP s=(0,0)→AM (.mk s i)=false:=by
  intro s i h
  unfold AM
  cases s with
  | nil=>exact absurd (congrArg Prod.fst h) (by decide)
  | cons y ys=>rfl
 have hpr:okI p∧Bg p∧tyI p=tyI x:=by
  rcases hp with rfl|rfl
  ·exact ⟨ox,rx,rfl⟩
  ·exact ⟨t6,⟨t1,t2▸rx.2.1,t3▸rx.2.2⟩,t4⟩
 have hmk:Bc (szP s).1 [p]=[tyI x]:=by
  rw [hsz];show [tyI p]=_;rw [hpr.2.2]
 have hR:AB (.mk s [tyI x]):=by
  have e1:dA a=1+dI x:=by
   have:AM a=false:=by have:=hns (i:=a.items) hz;rwa [Arr.eta] at this
   rw [Gz,this,if_neg (by decide),hx,dIs,dIs,Nat.max_zero]
  have e2:cA a=1+cI x:=by rw [GK,hx];simp [cIs]
  refine ⟨?_,?_,?_⟩
  ·rw [HG,E7,DN,hsz,EM.2 (by simpa using t1)];rfl
  ·rw [Gz,hns hsz,if_neg (by decide),DN,dIs,dIs,Nat.max_zero,t2];omega
  ·rw [GK,DN];simp only [cIs,List.length_singleton];omega
 have hc:¬([p]=[]∨¬∀ y∈[p],Bg y):=fun q=>q.elim (fun e=>by cases e) fun q=>q fun y hy=>by rw [List.mem_singleton] at hy;subst hy;exact hpr.2.1
 rw [Jj hs64 hl (by simp) (fun y hy=>by rw [List.mem_singleton] at hy;subst hy;exact hpr.1),hmk,if_neg (by rw [hsz];exact fun q=>q rfl),if_neg hc,if_pos hR]
theorem Um {l:List Nat} (hd:l.Nodup) {i j:Nat} (hi:i<l.length) (hj:j<l.length) (e:l[i]=l[j]) : i=j:=by
 have h:=List.pairwise_iff_getElem.1 hd
 rcases Nat.lt_trichotomy i j with hl|hl|hl
 ·exact absurd e (h i j hi hj hl)
 ·exact hl
 ·exact absurd e.symm (h j i hj hi hl)
theorem Nx {t:List Nat} {ax:Nat} {fr:List Nat} (ht:∀ x∈t,0<x) (hax:ax<t.length) (hfr:∀ x∈fr,x<t[ax]) (hlen:fr.length=t[ax]) (hd:fr.Nodup) : ∀ i j,i<pr t→j<pr t→Cg t ax fr i=Cg t ax fr j→i=j:=by
 intro i j hi hj e
 have h0:0<fr.length:=by rw [hlen];exact ht _ (List.getElem_mem hax)
 have hset:t.set ax fr.length=t:=by rw [hlen];exact List.set_getElem_self hax
 have vi:=K9 ht hax hfr h0 i
 have vj:=K9 ht hax hfr h0 j
 have e2:(atN (t.set ax fr.length) i).set ax (fr.getD ((atN (t.set ax fr.length) i).getD ax 0) 0)=(atN (t.set ax fr.length) j).set ax (fr.getD ((atN (t.set ax fr.length) j).getD ax 0) 0):=by
  rw [← KR vi,← KR vj]
  exact congrArg (atN t) e
 rw [hset] at e2
 have hci:=J6 (t:=t) i ht
 have hcj:=J6 (t:=t) j ht
 have li:(atN t i).length=t.length:=Ci t i
 have lj:(atN t j).length=t.length:=Ci t j
 have key:atN t i=atN t j:=by
  refine List.ext_getElem (by rw [li,lj]) fun k h1 h2=>?_
  by_cases hk:ax=k
  ·subst hk
   have hh:((atN t i).set ax (fr.getD ((atN t i).getD ax 0) 0))[ax]?=((atN t j).set ax (fr.getD ((atN t j).getD ax 0) 0))[ax]?:=by rw [e2]
   rw [List.getElem?_set_self (by omega),List.getElem?_set_self (by omega)] at hh
   have gi:(atN t i).getD ax 0=(atN t i)[ax]:=by rw [lD,lG h1];rfl
   have gj:(atN t j).getD ax 0=(atN t j)[ax]:=by rw [lD,lG h2];rfl
   have bi:=Ko hci ax h1 hax
   have bj:=Ko hcj ax h2 hax
   rw [gi,gj] at hh
   have hh:=oI hh
   rw [lD,lD,lG (by omega),lG (by omega)] at hh
   exact Um hd _ _ hh
  ·have hh:((atN t i).set ax (fr.getD ((atN t i).getD ax 0) 0))[k]?=((atN t j).set ax (fr.getD ((atN t j).getD ax 0) 0))[k]?:=by rw [e2]
   rw [List.getElem?_set_ne hk,List.getElem?_set_ne hk,lG h1,lG h2] at hh
   exact oI hh
 have pi:=Kz t i
 have pj:=Kz t j
 rw [key,pj,Nat.mod_eq_of_lt hi,Nat.mod_eq_of_lt hj] at pi
 exact pi.symm
def E6 (a0:Arr) : Option (Arr×Int):=((Le a0.shape).bind fun x1=>(some (x1,0)))
theorem Mh {a0:Arr} {r:Arr×Int} (h:E6 a0=some r) :
  Fn Tryz.prog 32 [.ag [.sl (Is a0.shape),.sl (Its a0.items)]] (.tup [.d (.ag [.sl (Is r.1.shape),.sl (Its r.1.items)]),.d (.i .i64 r.2)]):=by
 unfold E6 at h
 refine Fn.ofC (rs:=[.cell 2 30,.tmp 3]) (nt:=7) Tryz.func32 rfl rfl rfl (by simp) rfl ?_;refine .sr ?_;refine vk vbx ?_;refine vk (van (Aj AD) AI) ?_;refine ar [1,2,3] ?_;refine .sr ?_;refine vk (vfa Ay) ?_;refine vk (Ai Bh) ?_
 obtain ⟨x1,g1,h⟩:=bnd h
 refine vk (Ak (Lz g1) Tryz.call25) ?_
 refine stn ?_ Aa (by decide)
 refine ar [2,3] ?_;refine .ret ?_
 cases h
 exact ⟨_,_,⟨.inr rfl,Ac,Aa,p2⟩,rfl,rfl⟩
def B8 (x2:Int) (K0:(List Int)→Option (Arr×Int)) : Nat→(List Int)→Int→Option (Arr×Int)
 | 0,_,_=>none
 | k+1,s4,s5=>(if s5<x2 then ((ap? 17592186044416 [s5] s4).bind fun x6=>(B8 x2 K0 k x6 (w64 (s5+1)))) else (K0 s4))
def BK (a0:Arr) (a1:Int) : Option (Arr×Int):=(if ((List.length a0.shape:Nat) : Int)=0 then ((Gn a0).bind fun x1=>(some (x1,0))) else ((rd? a0.shape a1).bind fun x2=>(jn (fun (z3:(List Int))=>((Bs a0 a1 z3).bind fun x7=>(some (x7.1,x7.2)))) fun K0=>(B8 x2 K0 Aw [] 0))))
theorem GZ {a0:Arr} {a1:Int} {r:Arr×Int} (h:BK a0 a1=some r) :
  Fn Tryz.prog 37 [.ag [.sl (Is a0.shape),.sl (Its a0.items)],.i .i64 a1] (.tup [.d (.ag [.sl (Is r.1.shape),.sl (Its r.1.items)]),.d (.i .i64 r.2)]):=by
 unfold BK at h
 refine Fn.ofC (rs:=[.cell 4 30,.tmp 5]) (nt:=33) Tryz.func37 rfl rfl rfl (by simp) rfl ?_;refine .sr ?_;refine vk vbx ?_;refine vk (van (Aj AD) AI) ?_;refine ar [1,2,4,5] ?_;refine .seq ?_;refine .sr ?_;refine vk (vfa Ay) ?_;refine vk (Ai Bh) ?_;refine vk (A9 (Af _) (BO _) BL) ?_;refine vb ?_;refine rk [1,2,4,5,11] ?_
 rcases brc h with ⟨hc,h⟩|⟨hc,h⟩
 ·refine cnt (dT hc) ?_
  refine .sr ?_;refine vk (AC Ac Aa) ?_
  obtain ⟨x1,g1,h⟩:=bnd h
  refine vk (Ak (NT g1) Tryz.call79) ?_
  refine stn ?_ Aa (by decide)
  refine ar [1,2,4,5] ?_;refine .ret ?_
  cases h
  exact ⟨_,_,⟨.inr rfl,Ac,Aa,p2⟩,rfl,rfl⟩
 refine cnf (dF hc) ?_;refine .sk ?_;refine .sr ?_;refine asn ?_;refine rk [1,2,4,5,6] ?_;refine .seq ?_;refine .sr ?_;refine vk (vfa Ay) ?_;refine vk (Ai Bh) ?_;refine va ?_
 obtain ⟨x2,g2,h⟩:=bnd h
 obtain ⟨n2,p02,q2⟩:=Ae g2
 refine vk (vix n2 p02 (A6 q2) rfl A2) ?_;refine vk (Ai AA) ?_;refine va ?_;refine rk [1,2,4,5,6,18,19] ?_
 obtain ⟨K0,hK0,h⟩:=AF h
 refine AW.mr (σ:=(List Int)) (fun p=>K0 p=some r) (fun p=>[(1,.d (.i .i64 a1)),(2,.d (.ptr [.sl (Is a0.shape),.sl (Its a0.items)])),(4,.nb [.sl (Is []),.sl (Its [])]),(5,.d (.i .i64 0)),(6,.d (.sl (Is p)))]) (fun p=>[]) ?_ ?_
 ·skip
  refine .block ?_;refine .gh (Gh.nlD (t:=6) rfl) ?_
  refine .loop (.gk [1,2,4,5,6,18,19] ?_)
  refine AL.ind (σ:=Nat×(List Int)×Int) (m:=fun p=>p.1) (e:=fun p=>[(1,.d (.i .i64 a1)),(2,.d (.ptr [.sl (Is a0.shape),.sl (Its a0.items)])),(4,.nb [.sl (Is []),.sl (Its [])]),(5,.d (.i .i64 0)),(6,.d (.sl (Is p.2.1))),(18,.d (.i .i64 x2)),(19,.d (.i .i64 p.2.2))]) (h:=fun p=>[]) (I:=fun p=>B8 x2 K0 p.1 p.2.1 p.2.2=some r) ?_ (Aw,[],0) h
  rintro ⟨k,s4,s5⟩ h ih
  dsimp only at h ih ⊢
  rcases k with _|k
  ·rw [B8] at h;cases h
  rw [B8] at h
  refine .sr ?_;refine vb ?_;refine rk [1,2,4,5,6,18,19,20] ?_;refine .seq ?_
  rcases brc h with ⟨hc,h⟩|⟨hc,h⟩
  ·refine cnt (dT hc) ?_
   refine .sk ?_;refine .seq ?_;refine .block ?_;refine .sr ?_;refine va ?_;refine ar [1,2,4,5,6,7,18,19] ?_;refine .region ?_;refine va ?_;refine vk (Lp (Eu [s5]) CX) ?_;refine va ?_
   obtain ⟨x6,g6,h⟩:=bnd h
   refine XU J1 g6 IP ?_ F4 Af CX
   refine aso ?_;refine .nil ?_;refine aw ?_;refine .gk [1,2,4,5,6,18,19] ?_;refine .region ?_;refine vb ?_;refine va ?_;refine .nil ?_;refine AL.gh (Gh.frz (p:=.t 6) rfl (fun _ _ h=>by cases h)) ?_;refine AL.gk [1,2,4,5,6,18,19] ?_
   exact ih (k,x6,(w64 (s5+1))) h (Nat.lt_succ_self _)
  refine cnf (dF hc) ?_;refine .gk [1,2,4,5,6] ?_;refine .exit ?_
  exact jr (s4) h
 rintro z3 h
 try dsimp only at h ⊢
 subst hK0
 refine aw ?_;refine .sr ?_;refine vk (AC Ac Aa) ?_;refine va ?_;refine va ?_
 obtain ⟨x7,g7,h⟩:=bnd h
 refine vk (VOK.tupd (vs:=[.ag [.sl (Is x7.1.shape),.sl (Its x7.1.items)],.i .i64 x7.2]) (Ak (Nu g7) Tryz.call80)) ?_;refine vk vex ?_;refine vk vex ?_
 refine stn ?_ Aa (by decide)
 refine ar [4,5] ?_;refine .ret ?_
 cases h
 exact ⟨_,_,⟨.inr rfl,Ac,Aa,p2⟩,rfl,rfl⟩
def Bk (a0:(List Int)) (c0:(List Int)) : Option (Int):=((El c0 a0).bind fun x1=>(some (x1)))
theorem Ix {a0:(List Int)} {c0:(List Int)} {r:Int} (h:Bk a0 c0=some r) :
  Fn Tryz.prog 83 [.sl (Is a0),.ptr [.sl (Is c0)]] (.d (.i .i64 r)):=by
 unfold Bk at h
 refine Fn.o1 3 7 Tryz.func83 ?_;refine .sr ?_;refine ar [0,1,3] ?_;refine .sr ?_;refine vk (Ai Bh) ?_;refine va ?_
 obtain ⟨x1,g1,h⟩:=bnd h
 refine vk (Ak (IK g1) Tryz.call84) ?_;refine ar [3] ?_;refine .ret ?_
 cases h
 exact ⟨rfl,rfl⟩
def BB (a2:Int) (K0:(List Int)→Option (Arr×Int)) : Nat→(List Int)→Int→Option (Arr×Int)
 | 0,_,_=>none
 | k+1,s4,s5=>(if s5<((List.length (List.replicate (Int.toNat a2) (0:Int)):Nat):Int) then ((rd? s4 s5).bind fun x6=>(BB a2 K0 k (List.set s4 (Int.toNat s5) 4096) (w64 (s5+1)))) else (K0 s4))
def BE (a0:Arr) (a1:(List Int)) (x7:(List Int)) (K2:(List Int)→(List Int)→Option (Arr×Int)) : Nat→(List Int)→Int→(List Int)→Option (Arr×Int)
 | 0,_,_,_=>none
 | k+1,s10,s11,s12=>(if s11<((List.length x7:Nat):Int) then ((rd? x7 s11).bind fun x13=>((rd? a1 s11).bind fun x14=>((rd? a1 s11).bind fun x15=>((rd? s10 x15).bind fun x16=>((rd? a0.shape s11).bind fun x17=>((rd? s10 x14).bind fun x18=>((rd? a1 s11).bind fun x19=>((rd? s12 x19).bind fun x20=>((rd? s12 x19).bind fun x21=>(BE a0 a1 x7 K2 k (List.set s10 (Int.toNat x14) (if x17<x16 then x17 else x16)) (w64 (s11+1)) (List.set s12 (Int.toNat x19) (w64 (x20+x13))))))))))))) else (K2 s10 s12))
def DD (a0:Arr) (a1:(List Int)) (a2:Int) : Option (Arr×Int):=((E5 (0≤a2∧a2≤17592186044416)).bind fun x1=>((E5 (0≤a2∧a2≤17592186044416)).bind fun x2=>(jn (fun (z3:(List Int))=>((CR a0.shape).bind fun x7=>(jn (fun (z8:(List Int)) (z9:(List Int))=>((Bn a0 z8 (⟨.fn 83 [] [.ptr [.sl (Is z9)]],fun x=>Bk x z9⟩ : Cf)).bind fun x22=>(some (x22.1,x22.2)))) fun K2=>(BE a0 a1 x7 K2 Aw z3 0 (List.replicate (Int.toNat a2) (0:Int)))))) fun K0=>(BB a2 K0 Aw (List.replicate (Int.toNat a2) (0:Int)) 0))))
theorem Jz {a0:Arr} {a1:(List Int)} {a2:Int} {r:Arr×Int} (h:DD a0 a1 a2=some r) :
  Fn Tryz.prog 41 [.ag [.sl (Is a0.shape),.sl (Its a0.items)],.sl (Is a1),.i .i64 a2] (.tup [.d (.ag [.sl (Is r.1.shape),.sl (Its r.1.items)]),.d (.i .i64 r.2)]):=by
 unfold DD at h
 refine Fn.ofC (rs:=[.cell 6 30,.tmp 7]) (nt:=71) Tryz.func41 rfl rfl rfl (by simp) rfl ?_;refine .sr ?_;refine vk vbx ?_;refine vk (van (Aj AD) AI) ?_;refine ar [1,2,3,6,7] ?_;refine .sr ?_;refine va ?_
 obtain ⟨x1,g1,h⟩:=bnd h
 have ghx1:=EP g1
 refine mk' (F:=Is) (x0:=0) (zl:=a2) (Int.toNat a2) J4 (by omega) (by omega) ?_ CX (by decide)
 refine aso ?_;refine rk [1,2,3,6,7,8] ?_;refine .sr ?_;refine va ?_
 obtain ⟨x2,g2,h⟩:=bnd h
 have ghx2:=EP g2
 refine mk' (F:=Is) (x0:=0) (zl:=a2) (Int.toNat a2) J4 (by omega) (by omega) ?_ CX (by decide)
 refine al ?_ (Aj VI) (fun w I μ=>Vt w I μ)
 refine H6 (cs:=[.nl]) (c:=.nl) rfl rfl ?_ OV
 refine rk [1,3,6,7,8,9] ?_;refine .seq ?_;refine .sr ?_;refine mvo ?_;refine vk (VP (Af _) BL) ?_;refine va ?_;refine rk [1,3,6,7,8,9,18,19] ?_
 obtain ⟨K0,hK0,h⟩:=AF h
 refine AW.mr (σ:=(List Int)) (fun p=>K0 p=some r) (fun p=>[(1,.d (.sl (Is a1))),(3,.d (.ptr [.sl (Is a0.shape),.sl (Its a0.items)])),(6,.nb [.sl (Is []),.sl (Its [])]),(7,.d (.i .i64 0)),(8,.own 3 (Is p)),(9,.bp 0 0)]) (fun p=>[HO.box [.own 3 (Is (List.replicate (Int.toNat a2) (0:Int)))]]) ?_ ?_
 ·skip
  refine .block ?_
  refine .loop (.gk [1,3,6,7,8,9,18,19] ?_)
  refine AL.ind (σ:=Nat×(List Int)×Int) (m:=fun p=>p.1) (e:=fun p=>[(1,.d (.sl (Is a1))),(3,.d (.ptr [.sl (Is a0.shape),.sl (Its a0.items)])),(6,.nb [.sl (Is []),.sl (Its [])]),(7,.d (.i .i64 0)),(8,.own 3 (Is p.2.1)),(9,.bp 0 0),(18,.d (.i .i64 ((List.length (List.replicate (Int.toNat a2) (0:Int)):Nat):Int))),(19,.d (.i .i64 p.2.2))]) (h:=fun p=>[HO.box [.own 3 (Is (List.replicate (Int.toNat a2) (0:Int)))]]) (I:=fun p=>BB a2 K0 p.1 p.2.1 p.2.2=some r) ?_ (Aw,(List.replicate (Int.toNat a2) (0:Int)),0) h
  rintro ⟨k,s4,s5⟩ h ih
  dsimp only at h ih ⊢
  rcases k with _|k
  ·rw [BB] at h;cases h
  rw [BB] at h
  refine .sr ?_;refine vb ?_;refine rk [1,3,6,7,8,9,18,19,20] ?_;refine .seq ?_
  rcases brc h with ⟨hc,h⟩|⟨hc,h⟩
  ·refine cnt (dT hc) ?_
   refine .sk ?_;refine .seq ?_;refine .block ?_;refine .sr ?_;refine va ?_;refine ar [1,3,6,7,8,9,10,18,19] ?_;refine .region ?_;refine mvo ?_;refine va ?_
   obtain ⟨x6,g6,h⟩:=bnd h
   obtain ⟨n6,p06,q6⟩:=Ae g6
   refine ixr (off:=0) (len:=(Is s4).length) n6 p06 (by rw [Af];exact (lS.1 q6).1) ?_ A2 (by decide)
   refine Mu (F:=Is) (D:=fun x=>.i .i64 x) FY (us:=s4) (n:=n6) (m:=Int.toNat s5) (x:=4096) (by rw [p06];rfl) ⟨_,by rw [Nat.zero_add];exact A6 q6,rfl⟩ ?_ Dh
   refine RL.gk [1,3,6,7,8,9,10,18,19,23] ?_;refine .nil ?_;refine aw ?_;refine .gk [1,3,6,7,8,9,18,19] ?_;refine .region ?_;refine vb ?_;refine va ?_;refine .nil ?_;refine AL.gk [1,3,6,7,8,9,18,19] ?_
   exact ih (k,(List.set s4 (Int.toNat s5) 4096),(w64 (s5+1))) h (Nat.lt_succ_self _)
  refine cnf (dF hc) ?_;refine .gk [1,3,6,7,8,9] ?_;refine .exit ?_
  exact jr (s4) h
 rintro z3 h
 try dsimp only at h ⊢
 subst hK0
 refine aw ?_;refine .seq ?_;refine .sr ?_;refine vk (vfa Ay) ?_;refine vk (Ai Bh) ?_
 obtain ⟨x7,g7,h⟩:=bnd h
 refine vk (Ak (Fz g7) Tryz.call81) ?_;refine vk (A9 (Af _) (BO _) BL) ?_;refine va ?_;refine rk [1,3,6,7,8,9,28,29,30] ?_
 obtain ⟨K2,hK2,h⟩:=AF h
 refine AW.mr (σ:=(List Int)×(List Int)) (fun p=>K2 p.1 p.2=some r) (fun p=>[(3,.d (.ptr [.sl (Is a0.shape),.sl (Its a0.items)])),(6,.nb [.sl (Is []),.sl (Its [])]),(7,.d (.i .i64 0)),(8,.own 3 (Is p.1)),(9,.bp 0 0)]) (fun p=>[HO.box [.own 3 (Is p.2)]]) ?_ ?_
 ·skip
  refine .block ?_
  refine .loop (.gk [1,3,6,7,8,9,28,29,30] ?_)
  refine AL.ind (σ:=Nat×(List Int)×Int×(List Int)) (m:=fun p=>p.1) (e:=fun p=>[(1,.d (.sl (Is a1))),(3,.d (.ptr [.sl (Is a0.shape),.sl (Its a0.items)])),(6,.nb [.sl (Is []),.sl (Its [])]),(7,.d (.i .i64 0)),(8,.own 3 (Is p.2.1)),(9,.bp 0 0),(28,.d (.sl (Is x7))),(29,.d (.i .i64 ((List.length x7:Nat):Int))),(30,.d (.i .i64 p.2.2.1))]) (h:=fun p=>[HO.box [.own 3 (Is p.2.2.2)]]) (I:=fun p=>BE a0 a1 x7 K2 p.1 p.2.1 p.2.2.1 p.2.2.2=some r) ?_ (Aw,z3,0,(List.replicate (Int.toNat a2) (0:Int))) h
  rintro ⟨k,s10,s11,s12⟩ h ih
  dsimp only at h ih ⊢
  rcases k with _|k
  ·rw [BE] at h;cases h
  rw [BE] at h
  refine .sr ?_;refine vb ?_;refine rk [1,3,6,7,8,9,28,29,30,31] ?_;refine .seq ?_
  rcases brc h with ⟨hc,h⟩|⟨hc,h⟩
  ·refine cnt (dT hc) ?_
   refine .sk ?_;refine .seq ?_;refine .block ?_;refine .sr ?_;refine va ?_
   obtain ⟨x13,g13,h⟩:=bnd h
   obtain ⟨n13,p013,q13⟩:=Ae g13
   refine vk (vix n13 p013 (A6 q13) rfl A2) ?_;refine vk (Ai AA) ?_;refine asd ?_;refine ar [1,3,6,7,8,9,11,12,28,29,30] ?_;refine .seq ?_;refine .drawn 19 Bw (by kernel_rfl) ?_;refine dv Nr ?_;refine dv Ah ?_;refine dv Ah ?_
   obtain ⟨x14,g14,h⟩:=bnd h
   obtain ⟨n14,p014,q14⟩:=Ae g14
   refine dv (vix n14 p014 (A6 q14) rfl A2) ?_;refine dv (Ai AA) ?_;refine dv Nr ?_;refine dv Ah ?_;refine dv Ah ?_
   obtain ⟨x15,g15,h⟩:=bnd h
   obtain ⟨n15,p015,q15⟩:=Ae g15
   refine dv (vix n15 p015 (A6 q15) rfl A2) ?_;refine dv (Ai AA) ?_
   obtain ⟨x16,g16,h⟩:=bnd h
   obtain ⟨n16,p016,q16⟩:=Ae g16
   refine dv (Oa (off:=0) (len:=(Is s10).length) n16 p016 (by rw [Af];exact (lS.1 q16).1) A2 (by decide)) ?_;refine dv (Q4 (i:=0+n16) (j:=0) (xs:=Is s10) (.i .i64 x16) ⟨_,by rw [Nat.zero_add];exact A6 q16,rfl⟩ AA) ?_;refine dv (vfa Ay) ?_;refine dv (Ai Bh) ?_;refine dv Ah ?_
   obtain ⟨x17,g17,h⟩:=bnd h
   obtain ⟨n17,p017,q17⟩:=Ae g17
   refine dv (vix n17 p017 (A6 q17) rfl A2) ?_;refine dv (Ai AA) ?_;refine dv vmn ?_
   obtain ⟨x18,g18,h⟩:=bnd h
   obtain ⟨n18,p018,q18⟩:=Ae g18
   refine dv (Oa (off:=0) (len:=(Is s10).length) n18 p018 (by rw [Af];exact (lS.1 q18).1) A2 (by decide)) ?_;refine dz ?_
   refine Mu (F:=Is) (D:=fun x=>.i .i64 x) FY (us:=s10) (n:=n18) (m:=Int.toNat x14) (x:=(if x17<x16 then x17 else x16)) (by rw [p018];rfl) ⟨_,by rw [Nat.zero_add];exact A6 q18,rfl⟩ ?_ Dh
   refine RL.gk [1,3,6,7,8,9,11,12,28,29,30,36,37,38,39,41,42,43,44,46,47,48,49,50,51,52] ?_;refine rk [1,3,6,7,8,9,11,12,28,29,30] ?_;refine .drawn 10 Bw (by kernel_rfl) ?_;refine dv (LQ (cs:=[.own 3 (Is s12)]) rfl rfl Bh) ?_;refine dv Ah ?_;refine dv Ah ?_
   obtain ⟨x19,g19,h⟩:=bnd h
   obtain ⟨n19,p019,q19⟩:=Ae g19
   refine dv (vix n19 p019 (A6 q19) rfl A2) ?_;refine dv (Ai AA) ?_
   obtain ⟨x20,g20,h⟩:=bnd h
   obtain ⟨n20,p020,q20⟩:=Ae g20
   refine dv (Oa (off:=0) (len:=(Is s12).length) n20 p020 (by rw [Af];exact (lS.1 q20).1) A2 (by decide)) ?_;refine dv (Q4 (i:=0+n20) (j:=0) (xs:=Is s12) (.i .i64 x20) ⟨_,by rw [Nat.zero_add];exact A6 q20,rfl⟩ AA) ?_;refine dv Ah ?_;refine dv vbi ?_
   obtain ⟨x21,g21,h⟩:=bnd h
   obtain ⟨n21,p021,q21⟩:=Ae g21
   refine dv (Oa (off:=0) (len:=(Is s12).length) n21 p021 (by rw [Af];exact (lS.1 q21).1) A2 (by decide)) ?_;refine dz ?_
   refine Mu (F:=Is) (D:=fun x=>.i .i64 x) FY (us:=s12) (n:=n21) (m:=Int.toNat x19) (x:=(w64 (x20+x13))) (by rw [p021];rfl) ⟨_,by rw [Nat.zero_add];exact A6 q21,rfl⟩ ?_ Dh
   refine RL.gk [1,3,6,7,8,9,11,12,28,29,30,55,56,57,58,60,61,62] ?_;refine .nil ?_;refine aw ?_;refine .gk [1,3,6,7,8,9,28,29,30] ?_;refine .region ?_;refine vb ?_;refine va ?_;refine .nil ?_;refine AL.gk [1,3,6,7,8,9,28,29,30] ?_
   exact ih (k,(List.set s10 (Int.toNat x14) (if x17<x16 then x17 else x16)),(w64 (s11+1)),(List.set s12 (Int.toNat x19) (w64 (x20+x13)))) h (Nat.lt_succ_self _)
  refine cnf (dF hc) ?_;refine .gk [3,6,7,8,9] ?_;refine .exit ?_
  exact jr (s10,s12) h
 rintro ⟨z8,z9⟩ h
 try dsimp only at h ⊢
 subst hK2
 refine aw ?_;refine .sr ?_;refine vk (AC Ac Aa) ?_;refine fz (p:=.t 8) ?_;refine va ?_;refine fz (p:=.c 0 0) ?_;refine RL.gh2 (Gh2.pop (H0:=[]) (cs:=[.sl (Is z9)]) rfl rfl rfl rfl) ?_;refine vk XZ ?_
 obtain ⟨x22,g22,h⟩:=bnd h
 refine vk (VOK.tupd (vs:=[.ag [.sl (Is x22.1.shape),.sl (Its x22.1.items)],.i .i64 x22.2]) (Ak (I4 (IA Tryz.call83 (fun _ _ h=>Ix h)) g22) Tryz.call82)) ?_;refine vk vex ?_;refine vk vex ?_
 refine stn ?_ Aa (by decide)
 refine ar [6,7] ?_;refine .ret ?_
 cases h
 exact ⟨_,_,⟨.inr rfl,Ac,Aa,p2⟩,rfl,rfl⟩
def DR (a0:Arr) : Option (Arr×Int):=((D0 a0.shape).bind fun x1=>((AP ([x1.1]) a0.items).bind fun x2=>(some (x2.1,x2.2))))
theorem Mk {a0:Arr} {r:Arr×Int} (h:DR a0=some r) :
  Fn Tryz.prog 33 [.ag [.sl (Is a0.shape),.sl (Its a0.items)]] (.tup [.d (.ag [.sl (Is r.1.shape),.sl (Its r.1.items)]),.d (.i .i64 r.2)]):=by
 unfold DR at h
 refine Fn.ofC (rs:=[.cell 2 30,.tmp 3]) (nt:=19) Tryz.func33 rfl rfl rfl (by simp) rfl ?_;refine .sr ?_;refine vk vbx ?_;refine vk (van (Aj AD) AI) ?_;refine ar [1,2,3] ?_;refine .sr ?_;refine vk (vfa Ay) ?_;refine vk (Ai Bh) ?_
 obtain ⟨x1,g1,h⟩:=bnd h
 refine vk (VOK.tupd (vs:=[.i .i64 x1.1,.i .i64 x1.2]) (Ak (ED g1) Tryz.call34)) ?_;refine va ?_;refine vk vex ?_;refine vk vex ?_;refine asd ?_;refine ar [1,2,3,4] ?_;refine .sr ?_;refine va ?_;refine vk ((Lp (Eu [x1.1]) CX).deep) ?_;refine vk (vfa Au) ?_;refine vk (Ai Bp) ?_
 obtain ⟨x2,g2,h⟩:=bnd h
 refine vk (VOK.tupd (vs:=[.ag [.sl (Is x2.1.shape),.sl (Its x2.1.items)],.i .i64 x2.2]) (Ak (G4 g2) Tryz.call35)) ?_;refine vk vex ?_;refine vk vex ?_
 refine stn ?_ Aa (by decide)
 refine ar [2,3] ?_;refine .ret ?_
 cases h
 exact ⟨_,_,⟨.inr rfl,Ac,Aa,p2⟩,rfl,rfl⟩
def Df (a0:Arr) : Option (Arr×Int):=((Hz a0 false).bind fun x1=>((BK a0 x1).bind fun x2=>(some (x2.1,x2.2))))
theorem Mj {a0:Arr} {r:Arr×Int} (h:Df a0=some r) :
  Fn Tryz.prog 36 [.ag [.sl (Is a0.shape),.sl (Its a0.items)]] (.tup [.d (.ag [.sl (Is r.1.shape),.sl (Its r.1.items)]),.d (.i .i64 r.2)]):=by
 unfold Df at h
 refine Fn.ofC (rs:=[.cell 2 30,.tmp 3]) (nt:=10) Tryz.func36 rfl rfl rfl (by simp) rfl ?_;refine .sr ?_;refine vk vbx ?_;refine vk (van (Aj AD) AI) ?_;refine ar [1,2,3] ?_;refine .seq ?_;refine .drawn 6 Bw (by kernel_rfl) ?_;refine dv (AC Ac Aa) ?_;refine dv (AC Ac Aa) ?_
 obtain ⟨x1,g1,h⟩:=bnd h
 refine dv (Ak (PQ g1) Tryz.call38) ?_
 obtain ⟨x2,g2,h⟩:=bnd h
 refine dv (VOK.tupd (vs:=[.ag [.sl (Is x2.1.shape),.sl (Its x2.1.items)],.i .i64 x2.2]) (Ak (GZ g2) Tryz.call37)) ?_;refine dv vex ?_;refine dv vex ?_;refine dz ?_
 refine stn ?_ Aa (by decide)
 refine ar [2,3] ?_;refine .ret ?_
 cases h
 exact ⟨_,_,⟨.inr rfl,Ac,Aa,p2⟩,rfl,rfl⟩
def Dg (a0:Arr) : Option (Arr×Int):=((BK a0 0).bind fun x1=>(some (x1.1,x1.2)))
theorem Mq {a0:Arr} {r:Arr×Int} (h:Dg a0=some r) :
  Fn Tryz.prog 39 [.ag [.sl (Is a0.shape),.sl (Its a0.items)]] (.tup [.d (.ag [.sl (Is r.1.shape),.sl (Its r.1.items)]),.d (.i .i64 r.2)]):=by
 unfold Dg at h
 refine Fn.ofC (rs:=[.cell 2 30,.tmp 3]) (nt:=8) Tryz.func39 rfl rfl rfl (by simp) rfl ?_;refine .sr ?_;refine vk vbx ?_;refine vk (van (Aj AD) AI) ?_;refine ar [1,2,3] ?_;refine .sr ?_;refine vk (AC Ac Aa) ?_
 obtain ⟨x1,g1,h⟩:=bnd h
 refine vk (VOK.tupd (vs:=[.ag [.sl (Is x1.1.shape),.sl (Its x1.1.items)],.i .i64 x1.2]) (Ak (GZ g1) Tryz.call37)) ?_;refine vk vex ?_;refine vk vex ?_
 refine stn ?_ Aa (by decide)
 refine ar [2,3] ?_;refine .ret ?_
 cases h
 exact ⟨_,_,⟨.inr rfl,Ac,Aa,p2⟩,rfl,rfl⟩
def CD (a0:Arr) (K0:(List Int)→Option (Arr×Int)) : Nat→(List Int)→Int→Option (Arr×Int)
 | 0,_,_=>none
 | k+1,s2,s3=>(if s3<((List.length a0.shape:Nat):Int) then ((ap? 17592186044416 [s3] s2).bind fun x4=>(CD a0 K0 k x4 (w64 (s3+1)))) else (K0 s2))
def B9 (a0:Arr) : Option (Arr×Int):=(jn (fun (z1:(List Int))=>((DD a0 z1 ((List.length z1:Nat) : Int)).bind fun x5=>(some (x5.1,x5.2)))) fun K0=>(CD a0 K0 Aw [] 0))
theorem Mw {a0:Arr} {r:Arr×Int} (h:B9 a0=some r) :
  Fn Tryz.prog 40 [.ag [.sl (Is a0.shape),.sl (Its a0.items)]] (.tup [.d (.ag [.sl (Is r.1.shape),.sl (Its r.1.items)]),.d (.i .i64 r.2)]):=by
 unfold B9 at h
 refine Fn.ofC (rs:=[.cell 2 30,.tmp 3]) (nt:=24) Tryz.func40 rfl rfl rfl (by simp) rfl ?_;refine .sr ?_;refine vk vbx ?_;refine vk (van (Aj AD) AI) ?_;refine ar [1,2,3] ?_;refine .sr ?_;refine asn ?_;refine rk [1,2,3,4] ?_;refine .seq ?_;refine .sr ?_;refine vk (vfa Ay) ?_;refine vk (Ai Bh) ?_;refine vk (A9 (Af _) (BO _) BL) ?_;refine va ?_;refine rk [1,2,3,4,8,9] ?_
 obtain ⟨K0,hK0,h⟩:=AF h
 refine AW.mr (σ:=(List Int)) (fun p=>K0 p=some r) (fun p=>[(1,.d (.ptr [.sl (Is a0.shape),.sl (Its a0.items)])),(2,.nb [.sl (Is []),.sl (Its [])]),(3,.d (.i .i64 0)),(4,.d (.sl (Is p)))]) (fun p=>[]) ?_ ?_
 ·skip
  refine .block ?_;refine .gh (Gh.nlD (t:=4) rfl) ?_
  refine .loop (.gk [1,2,3,4,8,9] ?_)
  refine AL.ind (σ:=Nat×(List Int)×Int) (m:=fun p=>p.1) (e:=fun p=>[(1,.d (.ptr [.sl (Is a0.shape),.sl (Its a0.items)])),(2,.nb [.sl (Is []),.sl (Its [])]),(3,.d (.i .i64 0)),(4,.d (.sl (Is p.2.1))),(8,.d (.i .i64 ((List.length a0.shape:Nat):Int))),(9,.d (.i .i64 p.2.2))]) (h:=fun p=>[]) (I:=fun p=>CD a0 K0 p.1 p.2.1 p.2.2=some r) ?_ (Aw,[],0) h
  rintro ⟨k,s2,s3⟩ h ih
  dsimp only at h ih ⊢
  rcases k with _|k
  ·rw [CD] at h;cases h
  rw [CD] at h
  refine .sr ?_;refine vb ?_;refine rk [1,2,3,4,8,9,10] ?_;refine .seq ?_
  rcases brc h with ⟨hc,h⟩|⟨hc,h⟩
  ·refine cnt (dT hc) ?_
   refine .sk ?_;refine .seq ?_;refine .block ?_;refine .sr ?_;refine va ?_;refine ar [1,2,3,4,5,8,9] ?_;refine .region ?_;refine va ?_;refine vk (Lp (Eu [s3]) CX) ?_;refine va ?_
   obtain ⟨x4,g4,h⟩:=bnd h
   refine XU J1 g4 IP ?_ F4 Af CX
   refine aso ?_;refine .nil ?_;refine aw ?_;refine .gk [1,2,3,4,8,9] ?_;refine .region ?_;refine vb ?_;refine va ?_;refine .nil ?_;refine AL.gh (Gh.frz (p:=.t 4) rfl (fun _ _ h=>by cases h)) ?_;refine AL.gk [1,2,3,4,8,9] ?_
   exact ih (k,x4,(w64 (s3+1))) h (Nat.lt_succ_self _)
  refine cnf (dF hc) ?_;refine .gk [1,2,3,4] ?_;refine .exit ?_
  exact jr (s2) h
 rintro z1 h
 try dsimp only at h ⊢
 subst hK0
 refine aw ?_;refine .sr ?_;refine vk (AC Ac Aa) ?_;refine va ?_;refine va ?_;refine vk (A9 (Af _) (BO _) BL) ?_
 obtain ⟨x5,g5,h⟩:=bnd h
 refine vk (VOK.tupd (vs:=[.ag [.sl (Is x5.1.shape),.sl (Its x5.1.items)],.i .i64 x5.2]) (Ak (Jz g5) Tryz.call41)) ?_;refine vk vex ?_;refine vk vex ?_
 refine stn ?_ Aa (by decide)
 refine ar [2,3] ?_;refine .ret ?_
 cases h
 exact ⟨_,_,⟨.inr rfl,Ac,Aa,p2⟩,rfl,rfl⟩
def Ax (a0:(List Arr)) (a1:B4) (K0:Int→Option (Int)) : Nat→Int→Int→Option (Int)
 | 0,_,_=>none
 | k+1,s2,s3=>(if s3<((List.length a0:Nat):Int) then ((rd? a0 s3).bind fun x4=>((a1.g x4).bind fun x5=>(if x5=true then (some (s3)) else (Ax a0 a1 K0 k s2 (w64 (s3+1)))))) else (K0 s2))
def Be (a0:(List Arr)) (a1:B4) : Option (Int):=(jn (fun (z1:Int)=>(some ((-1)))) fun K0=>(Ax a0 a1 K0 Aw 0 0))
theorem Ef {a0:(List Arr)} {a1:B4} (oa1:KV a1) {r:Int} (h:Be a0 a1=some r) :
  Fn Tryz.prog 85 [.sl (Ars a0),a1.dv] (.d (.i .i64 r)):=by
 unfold Be at h
 refine Fn.o1 4 19 Tryz.func85 ?_;refine .sr ?_;refine ar [0,1,4] ?_;refine .seq ?_;refine .sr ?_;refine va ?_;refine vk (A9 (Ba _) (Ea _) Eb) ?_;refine va ?_;refine rk [0,1,4,7,8] ?_
 obtain ⟨K0,hK0,h⟩:=AF h
 refine AW.mr (σ:=Int) (fun p=>K0 p=some r) (fun p=>[(4,.d (.i .i64 p))]) (fun p=>[]) ?_ ?_
 ·skip
  refine .block ?_
  refine .loop (.gk [0,1,4,7,8] ?_)
  refine AL.ind (σ:=Nat×Int×Int) (m:=fun p=>p.1) (e:=fun p=>[(0,.d (.sl (Ars a0))),(1,.d (a1.dv)),(4,.d (.i .i64 p.2.1)),(7,.d (.i .i64 ((List.length a0:Nat):Int))),(8,.d (.i .i64 p.2.2))]) (h:=fun p=>[]) (I:=fun p=>Ax a0 a1 K0 p.1 p.2.1 p.2.2=some r) ?_ (Aw,0,0) h
  rintro ⟨k,s2,s3⟩ h ih
  dsimp only at h ih ⊢
  rcases k with _|k
  ·rw [Ax] at h;cases h
  rw [Ax] at h
  refine .sr ?_;refine vb ?_;refine rk [0,1,4,7,8,9] ?_;refine .seq ?_
  rcases brc h with ⟨hc,h⟩|⟨hc,h⟩
  ·refine cnt (dT hc) ?_
   refine .sk ?_;refine .seq ?_;refine .block ?_;refine .sr ?_;refine va ?_;refine ar [0,1,4,5,7,8] ?_;refine .sr ?_;refine va ?_;refine va ?_;refine va ?_
   obtain ⟨x4,g4,h⟩:=bnd h
   obtain ⟨n4,p04,q4⟩:=Ae g4
   refine vk (vix n4 p04 (D1 q4) rfl DU) ?_;refine vk (AC Ac Aa) ?_
   obtain ⟨x5,g5,h⟩:=bnd h
   refine vk (RZ (oa1 _ _ g5)) ?_;refine rk [0,1,4,5,7,8,16] ?_
   rcases brc h with ⟨hc,h⟩|⟨hc,h⟩
   ·refine cnt hc ?_
    refine .sr ?_;refine va ?_;refine ar [0,1,4,7,8] ?_;refine .ret ?_
    cases h
    exact ⟨rfl,rfl⟩
   refine cnf (bf hc) ?_;refine .sk ?_;refine .region ?_;refine vb ?_;refine va ?_;refine .nil ?_;refine AL.gk [0,1,4,7,8] ?_
   exact ih (k,s2,(w64 (s3+1))) h (Nat.lt_succ_self _)
  refine cnf (dF hc) ?_;refine .gk [4] ?_;refine .exit ?_
  exact jr (s2) h
 rintro z1 h
 try dsimp only at h ⊢
 subst hK0
 refine aw ?_;refine .sr ?_;refine ar [4] ?_;refine .ret ?_
 cases h
 exact ⟨rfl,rfl⟩
def AE (a0:(List Arr)) (a1:B4) : Option (Bool):=((Be a0 a1).bind fun x1=>(some ((decide (0≤x1)))))
theorem B3 {a0:(List Arr)} {a1:B4} (oa1:KV a1) {r:Bool} (h:AE a0 a1=some r) :
  Fn Tryz.prog 42 [.sl (Ars a0),a1.dv] (.d (.b r)):=by
 unfold AE at h
 refine Fn.o1 4 9 Tryz.func42 ?_;refine .sr ?_;refine ar [0,1,4] ?_;refine .sr ?_;refine va ?_;refine va ?_
 obtain ⟨x1,g1,h⟩:=bnd h
 refine vk (Ak (Ef oa1 g1) Tryz.call85) ?_;refine vb ?_;refine ar [4] ?_;refine .ret ?_
 cases h
 exact ⟨rfl,rfl⟩
def Dn (a0:Arr) : Option (Bool):=((Bm a0).bind fun x1=>(some ((!x1))))
theorem HI {a0:Arr} {r:Bool} (h:Dn a0=some r) :
  Fn Tryz.prog 43 [.ag [.sl (Is a0.shape),.sl (Its a0.items)]] (.d (.b r)):=by
 unfold Dn at h
 refine Fn.o1 2 6 Tryz.func43 ?_;refine .sr ?_;refine vk vbx ?_;refine ar [1,2] ?_;refine .sr ?_;refine vk (AC Ac Aa) ?_
 obtain ⟨x1,g1,h⟩:=bnd h
 refine vk (Ak (B5 g1) Tryz.call26) ?_;refine vk vnt ?_;refine ar [2] ?_;refine .ret ?_
 cases h
 exact ⟨rfl,rfl⟩
def DP (a0:(Int×RT×Int)) (a1:(List Arr)) : Option (Bool):=(Option.bind ((if a0.1=0 then ((AE a1 (⟨.fn 43 [] [],fun x=>Dn x⟩ : B4)).bind fun x2=>(some (!x2))) else (if a0.1=1 then ((AE a1 (⟨.fn 43 [] [],fun x=>Dn x⟩ : B4)).bind fun x3=>(some (!x3))) else (some false))) : Option (Bool)) fun (z1:Bool)=>(some (z1)))
theorem IW {a0:(Int×RT×Int)} {a1:(List Arr)} {r:Bool} (h:DP a0 a1=some r) :
  Fn Tryz.prog 15 [.ag [.i .i64 a0.1,.b a0.2.1.1,.sl (L a0.2.1.2.1),.sl (L a0.2.1.2.2),.i .i64 a0.2.2],.sl (Ars a1)] (.d (.b r)):=by
 unfold DP at h
 refine Fn.o1 4 18 Tryz.func15 ?_;refine .sr ?_;refine vk vbx ?_;refine ar [1,2,4] ?_;refine .seq ?_
 obtain ⟨z1,hz,h⟩:=bnd h
 refine AW.mr (σ:=Unit) (fun _=>True) (fun _=>[(4,.d (.b z1))]) (fun _=>[]) ?_ ?_
 ·skip
  refine .region ?_;refine vk (vfa MD) ?_;refine vk (Ai AA) ?_;refine vb ?_
  rcases brc hz with ⟨hc,hz⟩|⟨hc,hz⟩
  ·have hb0:(decide (a0.1=0))=true:=(dT hc)
   refine vL hb0 ?_;refine gf3 ?_;refine vk Ag ?_;refine va ?_;refine va ?_
   obtain ⟨x2,g2,hz⟩:=bnd hz
   refine vk (Ak (B3 (IA Tryz.call43 (fun _ _ h=>HI h)) g2) Tryz.call42) ?_;refine vk vnt ?_;refine vk Ag ?_;refine asd ?_;refine RL.gk [4] ?_;refine .nil ?_
   cases hz
   exact jr () trivial
  have hb0:(decide (a0.1=0))=false:=(dF hc)
  refine vL hb0 ?_;refine vk (vfa MD) ?_;refine vk (Ai AA) ?_;refine vb ?_;refine vk Ag ?_
  rcases brc hz with ⟨hc,hz⟩|⟨hc,hz⟩
  ·have hb1:(decide (a0.1=1))=true:=(dT hc)
   refine vL hb1 ?_;refine va ?_
   obtain ⟨x3,g3,hz⟩:=bnd hz
   refine vk (Ak (B3 (IA Tryz.call43 (fun _ _ h=>HI h)) g3) Tryz.call42) ?_;refine vk vnt ?_;refine vk Ag ?_;refine asd ?_;refine RL.gk [4] ?_;refine .nil ?_
   cases hz
   exact jr () trivial
  have hb1:(decide (a0.1=1))=false:=(dF hc)
  refine vL hb1 ?_;refine gf3 ?_;refine vk Ag ?_;refine asd ?_;refine RL.gk [4] ?_;refine .nil ?_
  cases hz
  exact jr () trivial
 rintro _ _
 refine .ret ?_
 cases h
 exact ⟨rfl,rfl⟩
theorem FA : Tryz.prog.underlying 45=some (.map 21 44):=by kernel_rfl
theorem Tv : ∀ w,(zeroValue 44).run Tryz.prog w=.ok .nilFunc w:=Aj (by kernel_rfl)
def SP : List (Int×DV):=[(9076,.fn 32 [] []),(44,.fn 33 [] []),(9021,.fn 36 [] []),(8854,.fn 39 [] []),(9033,.fn 40 [] [])]
theorem Uv : Fn Tryz.prog 14 [] (.d (.mp (SP.map fun p=>.i .i32 p.1) (SP.map (·.2)))):=by
 refine Fn.o1 0 3 Tryz.func14 ?_;refine .sr ?_;refine asu ?_;refine rn ?_;refine .sr ?_;refine vk ZQ ?_;refine UG FA gkR freshK.nil ?_;refine UG FA gkR (freshK.snoc (z:=44) (z':=9076) freshK.nil (by decide)) ?_;refine UG FA gkR (freshK.snoc (z:=9021) (z':=44) (freshK.snoc (z:=9021) (z':=9076) freshK.nil (by decide)) (by decide)) ?_;refine UG FA gkR (freshK.snoc (z:=8854) (z':=9021) (freshK.snoc (z:=8854) (z':=44) (freshK.snoc (z:=8854) (z':=9076) freshK.nil (by decide)) (by decide)) (by decide)) ?_;refine UG FA gkR (freshK.snoc (z:=9033) (z':=8854) (freshK.snoc (z:=9033) (z':=9021) (freshK.snoc (z:=9033) (z':=44) (freshK.snoc (z:=9033) (z':=9076) freshK.nil (by decide)) (by decide)) (by decide)) (by decide)) ?_;refine RL.gh (Gh.omf (t:=1) rfl) ?_;refine RL.gk [1] ?_;refine va ?_;refine asd ?_;refine rn ?_;refine .ret ?_
 exact ⟨rfl,rfl⟩
def FI : List (Int×Ed):=[(9076,⟨.fn 32 [] [],fun x=>E6 x⟩),(44,⟨.fn 33 [] [],fun x=>DR x⟩),(9021,⟨.fn 36 [] [],fun x=>Df x⟩),(8854,⟨.fn 39 [] [],fun x=>Dg x⟩),(9033,⟨.fn 40 [] [],fun x=>B9 x⟩)]
theorem RU : (FI.map (·.1)).Nodup:=by show List.Nodup [(9076:Int),(44:Int),(9021:Int),(8854:Int),(9033:Int)];decide
theorem Re : ∀ p∈FI,GJ p.2∧isF p.2.dv:=by
 intro p hp
 simp only [FI,List.mem_cons,List.not_mem_nil,or_false] at hp
 rcases hp with rfl|rfl|rfl|rfl|rfl
 ·exact ⟨IA Tryz.call32 (fun _ _ h=>Mh h),_,_,_,rfl⟩
 ·exact ⟨IA Tryz.call33 (fun _ _ h=>Mk h),_,_,_,rfl⟩
 ·exact ⟨IA Tryz.call36 (fun _ _ h=>Mj h),_,_,_,rfl⟩
 ·exact ⟨IA Tryz.call39 (fun _ _ h=>Mq h),_,_,_,rfl⟩
 ·exact ⟨IA Tryz.call40 (fun _ _ h=>Mw h),_,_,_,rfl⟩
theorem RE {z:Int} {f:Ed} (h:Ir FI z=some f) : GJ f∧isF f.dv:=Re _ (PS h)
theorem RB : Fn Tryz.prog 14 [] (.d (XT .i32 FI)):=Uv
def CP (a0:(Int×RT×Int)) (a1:Int) (a2:Arr) : Option (Arr×Int):=(Xp (Ir FI a1) (some ((Arr.mk [] []),23)) fun f1=>((DP a0 ([a2])).bind fun x2=>(if x2=true then ((f1.g a2).bind fun x3=>(some (x3.1,x3.2))) else (some ((Arr.mk [] []),22)))))
theorem Hm {a0:(Int×RT×Int)} {a1:Int} {a2:Arr} {r:Arr×Int} (h:CP a0 a1 a2=some r) :
  Fn Tryz.prog 5 [.ag [.i .i64 a0.1,.b a0.2.1.1,.sl (L a0.2.1.2.1),.sl (L a0.2.1.2.2),.i .i64 a0.2.2],.i .i32 a1,.ag [.sl (Is a2.shape),.sl (Its a2.items)]] (.tup [.d (.ag [.sl (Is r.1.shape),.sl (Its r.1.items)]),.d (.i .i64 r.2)]):=by
 unfold CP at h
 refine Fn.ofC (rs:=[.cell 6 30,.tmp 7]) (nt:=28) Tryz.func5 rfl rfl rfl (by simp) rfl ?_;refine .sr ?_;refine vk vbx ?_;refine vk vbx ?_;refine vk (van (Aj AD) AI) ?_;refine ar [1,3,5,6,7] ?_;refine .sr ?_;refine vk (Ak RB Tryz.call14) ?_;refine va ?_
 rcases hmf1:(Ir FI a1) with _|f1
 ·replace h:=XY hmf1 h
  refine vk (Y5 FA gkR Tv hmf1) ?_;refine ar [3,5,6,7,8] ?_;refine .seq ?_;refine .block ?_;refine .sr ?_;refine va ?_;refine vk (ZG Fi) ?_;refine ar [3,5,6,7,8,12] ?_;refine B1 ?_;refine .sr ?_;refine vk (vbd CF AD AI) ?_
  refine stn ?_ Aa (by decide)
  refine ar [5,6,7,8] ?_;refine .ret ?_
  cases h
  exact ⟨_,_,⟨.inr rfl,Ac,Aa,p2⟩,rfl,rfl⟩
 replace h:=Yz hmf1 h
 obtain ⟨of1,isf1⟩:=RE hmf1
 refine vk (Zh RU FA gkR hmf1) ?_;refine ar [3,5,6,7,8] ?_;refine .seq ?_;refine .block ?_;refine .sr ?_;refine va ?_;refine vk (ZC Fi isf1) ?_;refine ar [3,5,6,7,8,12] ?_;refine BZ ?_;refine .sr ?_;refine vk (AC Nl L2) ?_;refine vk (AC Ac Aa) ?_;refine vk ((C6 (HX a2) (FQ [a2]) Gt).deep) ?_
 obtain ⟨x2,g2,h⟩:=bnd h
 refine vk (Ak (IW g2) Tryz.call15) ?_;refine vk vnt ?_;refine ar [5,6,7,8,16] ?_
 rcases brc h with ⟨hc,h⟩|⟨hc,h⟩
 ·refine cnf (ntf hc) ?_
  refine .sk ?_;refine .sr ?_;refine va ?_;refine vk (AC Ac Aa) ?_
  obtain ⟨x3,g3,h⟩:=bnd h
  refine vk (VOK.tupd (vs:=[.ag [.sl (Is x3.1.shape),.sl (Its x3.1.items)],.i .i64 x3.2]) (RZ (of1 _ _ g3))) ?_;refine vk vex ?_;refine vk vex ?_
  refine stn ?_ Aa (by decide)
  refine ar [6,7] ?_;refine .ret ?_
  cases h
  exact ⟨_,_,⟨.inr rfl,Ac,Aa,p2⟩,rfl,rfl⟩
 refine cnt (ntt (bf hc)) ?_;refine .sr ?_;refine vk (vbd CF AD AI) ?_
 refine stn ?_ Aa (by decide)
 refine ar [5,6,7,8] ?_;refine .ret ?_
 cases h
 exact ⟨_,_,⟨.inr rfl,Ac,Aa,p2⟩,rfl,rfl⟩
theorem Gj {s:List Int} (h:(szP s).2=0) : (∀ x∈s,0≤x∧x≤4096)∧s.length≤8:=by
 unfold szP at h
 split at h
 ·exact absurd h (by decide)
 split at h
 ·exact absurd h (by decide)
 split at h
 ·exact absurd h (by decide)
 rename_i h8 hneg hbig
 refine ⟨fun x hx=>?_,by omega⟩
 simp only [List.any_eq_true,decide_eq_true_eq,not_exists,not_and] at hneg hbig
 have a:=hneg x hx
 have b:=hbig x hx
 omega
def Oz (f:Arr→Option (Arr×Int)) : Prop:=∀ {s:List Int} {n:Nat},szP s=((n:Int),0)→∃ (s':List Int) (J:Nat→Nat),szP s'=((n:Int),0)∧(∀ z∈s',-9223372036854775808≤z∧z≤9223372036854775807)∧s'.length≤17592186044416 ∧
 (n≠0→(∀ i,i<n→J i<n)∧∀ i j,i<n→j<n→J i=J j→i=j) ∧
 ∀ b,okAr b→AB b→b.shape=s→f b=some (.mk s' (if n=0 then [tyI (b.items.headD default)] else Cq b n J),0)
theorem Ev {s:List Int} (h:∀ x∈s,0≤x∧x≤4096) : ∀ z∈s,-9223372036854775808≤z∧z≤9223372036854775807:=fun z hz=>by
 have:=h z hz;omega
theorem OI {b:Arr} : Cq b b.items.length id=b.items:=M1 b.items
theorem IQ {b:Arr} {s:List Int} {n:Nat} (rb:AB b) (hs:b.shape=s) (hsz:szP s=((n:Int),0)) : b.items.length=if n=0 then 1 else n:=by
 obtain ⟨m,hm,hl⟩:=Hv rb
 rw [hs,hsz] at hm
 have:n=m:=by
  have:=congrArg Prod.fst hm
  simp only at this
  omega
 rw [this];exact hl
theorem Q7 : Oz DR:=by
 intro s n hsz
 have hle:=EQ s
 rw [hsz] at hle
 have hn:n≤4096:=by have:=hle.2;omega
 have h1:∀ z∈[(n:Int)],-9223372036854775808≤z∧z≤9223372036854775807:=fun z hz=>by rw [List.mem_singleton] at hz;omega
 refine ⟨[(n:Int)],id,Im hn,h1,by simp,fun _=>⟨fun i hi=>hi,fun i j _ _ e=>e⟩,fun b ob rb hs=>?_⟩
 have o:=(AK b).1 ob
 have hl:=IQ rb hs hsz
 unfold DR
 rw [hs,Ik (by rw [← hs];exact o.2.1),oB,hsz]
 show ((AP [(n:Int)] b.items).bind fun x2=>some (x2.1,x2.2))=_
 by_cases h0:n=0
 ·rw [if_pos h0] at hl ⊢
  subst h0
  obtain ⟨x,hx⟩:=List.length_eq_one_iff.1 hl
  have:=EZ ob rb (by rw [hs];exact hsz) (s:=[((0:Nat):Int)]) h1 (by simp) (Im (by omega)) (p:=x) (.inl (by rw [hx];rfl))
  rw [hx] at this ⊢
  rw [this];rfl
 ·rw [if_neg h0] at hl ⊢
  have:=Fu ob rb h1 (by simp) (Im hn) h0 hl (J:=id) (fun i hi=>hi) (fun i j _ _ e=>e)
  rw [← hl,OI] at this ⊢
  rw [this];rfl
theorem JE {m:Nat} (hm:m≤4096) (K:List Int→Option (Arr×Int)) : ∀ (n i k:Nat),n=m-i→i≤m→n<k →
  B8 (m:Int) K k (up_ ((List.range i).reverse)) (i:Int)=K (up_ ((List.range m).reverse))
 | _,_,0,_,_,h=>by omega
 | n,i,k+1,hn,hi,hk=>by
  rw [B8]
  by_cases h:i<m
  ·have e:[(i:Int)]++up_ ((List.range i).reverse)=up_ ((List.range (i+1)).reverse):=by
    rw [List.range_succ,List.reverse_append];rfl
   rw [if_pos (by omega),Dw (by simp [Az];omega),oB,e,A4 (by omega),JE hm K (n-1) (i+1) k (by omega) (by omega) (by omega)]
  ·rw [if_neg (by omega),show i=m by omega]
theorem IB {b:Arr} {ax m:Nat} (hl:b.shape.length≤17592186044416) (hax:ax<b.shape.length) (hm:b.shape[ax]=(m:Int)) (hm2:m≤4096) : BK b (ax:Int)=Bs b (ax:Int) (up_ ((List.range m).reverse)):=by
 unfold BK
 rw [if_neg (by omega),AY hax,oB,A3,hm]
 have:=JE hm2 (fun z3=>(Bs b (ax:Int) z3).bind fun x7=>some (x7.1,x7.2)) m 0 Aw rfl (Nat.zero_le _) (AS (by omega))
 rw [show up_ ((List.range 0).reverse)=[] from rfl,show ((0:Nat):Int)=0 from rfl] at this
 rw [this]
 generalize Bs _ _ _=z
 cases z<;>rfl
theorem M9 {s:List Int} {ax:Nat} (hax:ax<s.length) {z:Int} (h:s[ax]=z) : s.set ax z=s:=by rw [← h];exact List.set_getElem_self hax
theorem LW {fr:Nat→List Nat} (hfr:∀ m,m≤4096→(fr m).length=m∧(∀ x∈fr m,x<m)∧(fr m).Nodup) {f:Arr→Option (Arr×Int)} {axis:List Int→Nat} (hax:∀ s,s≠[]→axis s<s.length) (h0:∀ b,okAr b→AB b→b.shape=[]→f b=some (b,0))
  (hf:∀ (b:Arr) (m:Nat) (h:axis b.shape<b.shape.length),okAr b→AB b→b.shape[axis b.shape]=(m:Int)→m≤4096→f b=Bs b ((axis b.shape:Nat):Int) (up_ (fr m))):Oz f:=by
 intro s n hsz
 obtain ⟨hd,h8⟩:=Gj (s:=s) (by rw [hsz])
 by_cases hs:s=[]
 ·subst hs
  have hn:n=1:=by have:=congrArg Prod.fst hsz;simp only at this;rw [show (szP []).1=1 from rfl] at this;omega
  subst hn
  refine ⟨[],id,rfl,by simp,by simp,fun _=>⟨fun i hi=>hi,fun i j _ _ e=>e⟩,fun b ob rb hb=>?_⟩
  have hl:=IQ rb hb hsz
  rw [if_neg (by decide)] at hl ⊢
  rw [h0 b ob rb hb,← hl,OI,← hb,Arr.eta]
 have hx:=hax s hs
 obtain ⟨m,hm⟩:∃ m:Nat,s[axis s]=(m:Int):=⟨(s[axis s]).toNat,by have:=hd _ (List.getElem_mem hx);omega⟩
 have hm2:m≤4096:=by have:=hd _ (List.getElem_mem hx);omega
 obtain ⟨f1,f2,f3⟩:=hfr m hm2
 have hset:s.set (axis s) (((fr m).length:Nat):Int)=s:=M9 hx (by rw [f1];exact hm)
 by_cases h0':n=0
 ·refine ⟨s,id,hsz,Ev hd,by omega,fun h=>absurd h0' h,fun b ob rb hb=>?_⟩
  subst hb
  have hz:szP b.shape=(0,0):=by rw [hsz,h0'];rfl
  have e:b.shape.set (axis b.shape) ((List.length (up_ (fr m)):Nat):Int)=b.shape:=by rw [Az];exact hset
  have o:=(AK b).1 ob
  rw [hf b m hx ob rb hm hm2,Nf (Fg ob rb) o.2.1 hx (by rw [e];exact hz),e,if_pos h0',EZ ob rb hz o.1 o.2.1 hz (.inr rfl)]
 ·obtain ⟨t,ht,hpos,hp,hn,_⟩:=Jf hsz h0'
  subst ht
  have hxt:axis (up_ t)<t.length:=by rw [Az] at hx;exact hx
  have hmt:t[axis (up_ t)]=m:=by have:=GC hxt;rw [hm] at this;omega
  have hlen:(fr m).length=t[axis (up_ t)]:=by rw [f1,hmt]
  have hfl:∀ x∈fr m,x<t[axis (up_ t)]:=fun x hx=>by rw [hmt];exact f2 x hx
  have ht0:∀ x∈t,0<x:=fun x hx=>(hpos x hx).1
  have hst:t.set (axis (up_ t)) (fr m).length=t:=by rw [hlen];exact List.set_getElem_self hxt
  have hf0:0<(fr m).length:=by rw [hlen];exact ht0 _ (List.getElem_mem hxt)
  have hinj:=Nx ht0 hxt hfl hlen f3
  have hlt:=fun i=>Jq ht0 hxt hfl hf0 i
  rw [hp] at hinj hlt
  refine ⟨up_ t,Cg t (axis (up_ t)) (fr m),hsz,Ev hd,by omega,fun _=>⟨fun i _=>hlt i,hinj⟩,fun b ob rb hb=>?_⟩
  have hl:=IQ rb hb hsz
  rw [if_neg h0'] at hl ⊢
  have o:=(AK b).1 ob
  have hx':axis b.shape<b.shape.length:=by rw [hb];exact hx
  have hm':b.shape[axis b.shape]=(m:Int):=by simp only [hb];exact hm
  rw [hf b m hx' ob rb hm' hm2,hb,Om (Fg ob rb) hb (by rw [hl,hp]) hpos (by rw [Az] at h8;exact h8) (by rw [hp];exact hn) hxt hfl hf0 (by rw [f1];exact hm2) (by rw [hst,hp];exact hn),hst,hp]
  exact Fu ob rb (Ev hd) (by omega) hsz h0' hl (fun i _=>hlt i) hinj
theorem M7 (m:Nat) : ((List.range m).reverse).length=m∧(∀ x∈(List.range m).reverse,x<m)∧((List.range m).reverse).Nodup:=by
 refine ⟨by simp,fun x hx=>by simpa using hx,?_⟩
 rw [List.Nodup,List.pairwise_reverse]
 exact List.pairwise_lt_range.imp fun {a b} h=>by omega
theorem F6 {b:Arr} (ob:okAr b) (rb:AB b) (h:b.shape=[]) (z:Int) : BK b z=some (b,0):=by
 unfold BK
 rw [if_pos (by rw [h];rfl),Xc ob rb];rfl
theorem Qi : Oz Dg :=
 LW (fr:=fun m=>(List.range m).reverse) (fun m _=>M7 m) (axis:=fun _=>0) (fun s hs=>List.length_pos_iff.2 hs)
  (fun b ob rb hb=>by unfold Dg;rw [F6 ob rb hb];rfl)
  (fun b m h ob rb hm hm2=>by
   have o:=(AK b).1 ob
   unfold Dg
   rw [show (0:Int)=((0:Nat):Int) from rfl,IB o.2.1 h hm hm2]
   generalize Bs _ _ _=z
   cases z<;>rfl)
theorem Se {b:Arr} (hl:b.shape.length≤17592186044416) : Hz b false=some ((b.shape.length-1:Nat) : Int):=by
 unfold Hz
 rw [if_neg (by decide),Bi (by omega) (by omega)]
 congr 1
 split<;>omega
theorem Sk : Oz Df :=
 LW (fr:=fun m=>(List.range m).reverse) (fun m _=>M7 m) (axis:=fun s=>s.length-1) (fun s hs=>by have:=List.length_pos_iff.2 hs;omega)
  (fun b ob rb hb=>by unfold Df;rw [Se ((AK b).1 ob).2.1,oB,F6 ob rb hb];rfl)
  (fun b m h ob rb hm hm2=>by
   have o:=(AK b).1 ob
   unfold Df
   rw [Se o.2.1,oB,IB o.2.1 h hm hm2]
   generalize Bs _ _ _=z
   cases z<;>rfl)
theorem MI {α:Type} (d:Nat) (v w:α) (l:List α) : (List.replicate (d+1) v++l).set d w=List.replicate d v++w::l:=by
 rw [List.replicate_succ',List.append_assoc,List.set_append_right _ _ (by simp),List.length_replicate,Nat.sub_self];rfl
theorem PR (d:Nat) (v:Int) (l:List Int) : rd? (List.replicate (d+1) v++l) (d:Int)=some v:=by
 rw [AY (by simp;omega),List.getElem_append_left (by simp),List.getElem_replicate]
theorem Uc (z:Int) : -9223372036854775808≤w64 z∧w64 z≤9223372036854775807:=by
 have:=wf_wrap .i64 z
 simp [Lit.wf,IntKind.min,IntKind.max,IntKind.signed,IntKind.bits] at this
 exact this
theorem PW : ∀ s : List Int,(-9223372036854775808≤(Fv s).2∧(Fv s).2≤9223372036854775807)∧∀ z∈(Fv s).1,-9223372036854775808≤z∧z≤9223372036854775807
 | []=>⟨⟨by decide,by decide⟩,by simp [Fv]⟩
 | x::xs=>by
  obtain ⟨h1,h2⟩:=PW xs
  refine ⟨Uc _,fun z hz=>?_⟩
  rcases List.mem_cons.1 hz with rfl|hz
  ·exact h1
  ·exact h2 z hz
theorem U3 {r:Nat} (hr:r≤8) (K:List Int→Option (Arr×Int)) : ∀ (n i k:Nat),n=r-i→i≤r→n<k →
  BB (r:Int) K k (List.replicate i 4096++List.replicate (r-i) 0) (i:Int)=K (List.replicate r 4096)
 | _,_,0,_,_,h=>by omega
 | n,i,k+1,hn,hi,hk=>by
  rw [BB]
  by_cases h:i<r
  ·have e:List.replicate (r-i) (0:Int)=0::List.replicate (r-(i+1)) 0:=by
    rw [show r-i=(r-(i+1))+1 by omega];rfl
   have e2:(List.replicate i (4096:Int)++0::List.replicate (r-(i+1)) 0).set i 4096=List.replicate (i+1) 4096++List.replicate (r-(i+1)) 0:=by
    rw [List.set_append_right _ _ (by simp),List.length_replicate,Nat.sub_self,List.replicate_succ',List.append_assoc];rfl
   have ih:=U3 hr K (n-1) (i+1) k (by omega) (by omega) (by omega)
   rw [if_pos (by simp;omega),AY (by simp;omega),oB,Int.toNat_natCast,A4 (by omega),e,e2,ih]
  ·rw [if_neg (by simp;omega),show r-i=0 by omega,show i=r by omega]
   simp
theorem PG {r i:Nat} (h:i<r) : rd? (up_ ((List.range r).reverse)) (i:Int)=some ((r-1-i:Nat) : Int):=by
 rw [KO (by simpa using h)]
 simp
theorem V0 {a:Arr} {s st:List Int} (ha:a.shape=s) (hs:∀ x∈s,0≤x∧x≤4096) (h8:s.length≤8) (hst:st.length=s.length) (hsr:∀ z∈st,-9223372036854775808≤z∧z≤9223372036854775807) (K:List Int→List Int→Option (Arr×Int)) : ∀ (n i k:Nat),n=s.length-i→i≤s.length→n<k →
  BE a (up_ ((List.range s.length).reverse)) st K k (List.replicate (s.length-i) 4096++(s.take i).reverse) (i:Int) (List.replicate (s.length-i) 0++(st.take i).reverse)=K s.reverse st.reverse
 | _,_,0,_,_,h=>by omega
 | n,i,k+1,hn,hi,hk=>by
  rw [BE]
  by_cases h:i<s.length
  ·have hi2:i<st.length:=by omega
   have hb:=hs _ (List.getElem_mem h)
   have hz:=hsr _ (List.getElem_mem hi2)
   have e0:s.length-i=(s.length-1-i)+1:=by omega
   have ih:=V0 ha hs h8 hst hsr K (n-1) (i+1) k (by omega) (by omega) (by omega)
   have e1:(s.take (i+1)).reverse=s[i]::(s.take i).reverse:=by rw [List.take_succ_eq_append_getElem h,List.reverse_append];rfl
   have e2:(st.take (i+1)).reverse=st[i]::(st.take i).reverse:=by rw [List.take_succ_eq_append_getElem hi2,List.reverse_append];rfl
   have e3:(if s[i]<4096 then s[i] else 4096)=s[i]:=by split<;>omega
   rw [e1,e2,show s.length-(i+1)=s.length-1-i by omega] at ih
   rw [if_pos (by omega),AY hi2,oB,PG h,oB,oB,e0,PR,oB,ha,AY h,oB,oB,oB,PR,oB,oB,Int.toNat_natCast,MI,MI,e3,Int.zero_add,Bi hz.1 (by omega),A4 (by omega),ih]
  ·rw [if_neg (by omega),show s.length-i=0 by omega,List.take_of_length_le (by omega),List.take_of_length_le (by omega)]
   rfl
theorem Pj {a:Arr} (hr:a.shape.length≤8) (K:List Int→Option (Arr×Int)) : ∀ (n i k:Nat),n=a.shape.length-i→i≤a.shape.length→n<k →
  CD a K k (up_ ((List.range i).reverse)) (i:Int)=K (up_ ((List.range a.shape.length).reverse))
 | _,_,0,_,_,h=>by omega
 | n,i,k+1,hn,hi,hk=>by
  rw [CD]
  by_cases h:i<a.shape.length
  ·have e:[(i:Int)]++up_ ((List.range i).reverse)=up_ ((List.range (i+1)).reverse):=by
    rw [List.range_succ,List.reverse_append];rfl
   rw [if_pos (by omega),Dw (by simp [Az];omega),oB,e,A4 (by omega),Pj hr K (n-1) (i+1) k (by omega) (by omega) (by omega)]
  ·rw [if_neg (by omega),show i=a.shape.length by omega]
theorem OE (s t:List Int) : Ca (s++t)=Ca s * Ca t:=by
 unfold Ca
 rw [List.foldl_append,Hp]
theorem OM (x:Int) : Ca [x]=x:=by unfold Ca;simp
theorem Sb (x:Int) (s:List Int) : Ca (x::s)=x * Ca s:=by
 rw [show x::s=[x]++s from rfl,OE,OM]
theorem Lf : ∀ s : List Int,Ca s.reverse=Ca s
 | []=>rfl
 | x::s=>by rw [List.reverse_cons,OE,OM,Sb,Lf s,Int.mul_comm]
theorem Pt (s:List Int) : szP s.reverse=szP s:=by
 unfold szP
 rw [List.length_reverse,List.any_reverse,List.any_reverse,Lf]
 simp only [List.mem_reverse]
theorem Sw : ∀ (l1 c1 l2 c2:List Nat),l1.length=c1.length→plN (l1++l2) (c1++c2)=plN l1 c1+plN l2 c2
 | [],[],l2,c2,_=>by simp [plN]
 | x::xs,y::ys,l2,c2,h=>by
  show x * y+plN (xs++l2) (ys++c2)=x * y+plN xs ys+plN l2 c2
  rw [Sw xs ys l2 c2 (by simpa using h),Nat.add_assoc]
 | [],_::_,_,_,h=>by simp at h
 | _::_,[],_,_,h=>by simp at h
theorem Ti : ∀ (l c:List Nat),l.length=c.length→plN l.reverse c.reverse=plN l c
 | [],[],_=>rfl
 | x::xs,y::ys,h=>by
  have h':xs.length=ys.length:=by simpa using h
  rw [List.reverse_cons,List.reverse_cons,Sw _ _ _ _ (by simp [h']),Ti xs ys h']
  show plN xs ys+(x * y+plN [] [])=x * y+plN xs ys
  simp [plN,Nat.add_comm]
 | [],_::_,h=>by simp at h
 | _::_,[],h=>by simp at h
theorem Ys {t c:List Nat} (h:VC t c) : VC t.reverse c.reverse:=by
 have hl:=Pd h
 refine VJ (by simp [hl]) fun k h1 h2=>?_
 rw [List.getElem_reverse,List.getElem_reverse]
 have h1':k<c.length:=by simpa using h1
 have:=Ko h (c.length-1-k) (by omega) (by omega)
 simpa [hl] using this
def trN (t:List Nat) (i:Nat) : Nat:=plN (stN t) (atN t.reverse i).reverse
theorem J8 (t:List Nat) : (up_ t).reverse=up_ t.reverse:=by unfold up_;rw [List.map_reverse]
theorem NP (t:List Nat) : pr t.reverse=pr t:=by
 have h1:=I5 t.reverse
 rw [← J8,Lf,I5] at h1
 omega
theorem PD {t:List Nat} (ht:∀ x∈t,0<x) (i:Nat) : VC t (atN t.reverse i).reverse:=by
 have:=Ys (J6 (t:=t.reverse) i fun x hx=>ht x (by simpa using hx))
 rwa [List.reverse_reverse] at this
theorem Ta {t:List Nat} (ht:∀ x∈t,0<x) : ∀ i j,i<pr t→j<pr t→trN t i=trN t j→i=j:=by
 intro i j hi hj e
 have e2:(atN t.reverse i).reverse=(atN t.reverse j).reverse:=by
  rw [← KR (PD ht i),← KR (PD ht j)]
  exact congrArg (atN t) e
 have e3:=List.reverse_inj.1 e2
 have pi:=Kz t.reverse i
 have pj:=Kz t.reverse j
 rw [e3,pj,NP,Nat.mod_eq_of_lt hi,Nat.mod_eq_of_lt hj] at pi
 exact pi.symm
theorem Y1 {t:List Nat} (ht:∀ x∈t,0<x∧x≤4096) (h8:t.length≤8) (hn:pr t≤4096) (i:Nat) : Bk (up_ (atN t.reverse i)) (up_ (stN t)).reverse=some ((trN t i:Nat) : Int):=by
 unfold Bk
 have hl:(atN t.reverse i).length=t.length:=by rw [Ci,List.length_reverse]
 have hc:∀ x∈atN t.reverse i,x≤4096:=fun x hx=>by
  have hv:=J6 (t:=t.reverse) i fun x hx=>(ht x (by simpa using hx)).1
  obtain ⟨k,hk,rfl⟩:=List.getElem_of_mem hx
  have h1:=Ko hv k hk (by rw [List.length_reverse];omega)
  have h2:=(ht _ (by simpa using List.getElem_mem (l:=t.reverse) (n:=k) (by rw [List.length_reverse];omega))).2
  omega
 rw [J8,Rd (by rw [List.length_reverse,Dt];exact h8) (by rw [List.length_reverse,Dt,hl];exact Nat.le_refl _) (fun x hx=>nT (RV (fun x hx=>(ht x hx).1) x (by simpa using hx)) hn) hc,oB]
 congr 2
 unfold trN
 have:=Ti (stN t) (atN t.reverse i).reverse (by rw [Dt,List.length_reverse,hl])
 rw [List.reverse_reverse] at this
 exact this
theorem Lq : Oz B9:=by
 intro s n hsz
 obtain ⟨hd,h8⟩:=Gj (s:=s) (by rw [hsz])
 have hszr:szP s.reverse=((n:Int),0):=by rw [Pt];exact hsz
 have hdr:∀ x∈s.reverse,0≤x∧x≤4096:=fun x hx=>hd x (by simpa using hx)
 -- the walk, as far as to what is built
 have walk:∀ b,okAr b→b.shape=s→∃ F:Cf,(∀ x,F.g x=Bk x (Fv s).1.reverse)∧B9 b=Bn b s.reverse F:=by
  intro b ob hb
  have o:=(AK b).1 ob
  refine ⟨⟨.fn 83 [] [.ptr [.sl (Is (Fv s).1.reverse)]],fun x=>Bk x (Fv s).1.reverse⟩,fun x=>rfl,?_⟩
  unfold B9
  rw [A3]
  have e1:=fun K=>Pj (a:=b) (by rw [hb];exact h8) K b.shape.length 0 Aw rfl (Nat.zero_le _) (AS (by rw [hb];omega))
  rw [show up_ ((List.range 0).reverse)=[] from rfl,show ((0:Nat):Int)=0 from rfl] at e1
  rw [e1,hb]
  have hlen:((List.length (up_ ((List.range s.length).reverse)):Nat):Int)=(s.length:Int):=by rw [Az];simp
  rw [hlen]
  unfold DD
  have hg:E5 (0≤(s.length:Int)∧(s.length:Int)≤17592186044416)=some ():=if_pos (by omega)
  have e2:=fun K=>U3 h8 K s.length 0 Aw rfl (Nat.zero_le _) (AS (by omega))
  rw [List.replicate_zero,List.nil_append,Nat.sub_zero,show ((0:Nat):Int)=0 from rfl] at e2
  have e3:=fun K=>V0 hb hd h8 (I0 s) (PW s).2 K s.length 0 Aw rfl (Nat.zero_le _) (AS (by omega))
  rw [List.take_zero,List.take_zero,List.reverse_nil,List.append_nil,List.append_nil,Nat.sub_zero,show ((0:Nat):Int)=0 from rfl] at e3
  rw [hg,oB,oB,A3,Int.toNat_natCast,e2,hb,EU (by omega),oB,A3,e3]
  generalize Bn _ _ _=z
  cases z<;>rfl
 by_cases h0:n=0
 ·refine ⟨s.reverse,id,hszr,Ev hdr,by simp;omega,fun h=>absurd h0 h,fun b ob rb hb=>?_⟩
  obtain ⟨F,_,e⟩:=walk b ob hb
  have hz:szP s.reverse=(0,0):=by rw [hszr,h0];rfl
  rw [e,if_pos h0,H8 (Fg ob rb) (by simp;omega) hz,EZ ob rb (by rw [hb,hsz,h0];rfl) (Ev hdr) (by simp;omega) hz (.inr rfl)]
 ·obtain ⟨t,ht,hpos,hp,hn,h8'⟩:=Jf hsz h0
  subst ht
  have ht0:∀ x∈t,0<x:=fun x hx=>(hpos x hx).1
  have hinj:=Ta ht0
  have hlt:∀ i,trN t i<pr t:=fun i=>Nw (PD ht0 i)
  rw [hp] at hinj hlt
  refine ⟨(up_ t).reverse,trN t,hszr,Ev hdr,by simp;omega,fun _=>⟨fun i _=>hlt i,hinj⟩,fun b ob rb hb=>?_⟩
  obtain ⟨F,hF,e⟩:=walk b ob hb
  have hl:=IQ rb hb hsz
  rw [if_neg h0] at hl ⊢
  have hb2:=LD (F:=F) (t:=t.reverse) (J:=fun i=>((trN t i:Nat):Int)) (Fg ob rb) (fun x hx=>hpos x (by simpa using hx)) (by simpa using h8') (by rw [NP,hp];exact hn) (fun i _=>⟨by
   rw [hF,Kq (by omega) ht0]
   exact Y1 hpos h8' (by omega) i,by have:=hlt i;show ((trN t i:Nat):Int)<_;omega⟩)
  rw [e,J8,hb2,NP,hp]
  have e2:((List.range n).map fun i=>Jy b (tyI (b.items.headD default)) ((trN t i:Nat):Int))=Cq b n (trN t):=by
   unfold Cq
   refine List.map_congr_left fun i _=>?_
   unfold Jy
   rw [if_pos (by omega),Int.toNat_natCast]
  rw [e2,← J8]
  exact Fu ob rb (Ev hdr) (by simp;omega) hszr h0 hl (fun i _=>hlt i) hinj
end Go.FL
namespace Go.FL
open Go Go.RowKit
section
variable {P:Program} {C:Cx} {o:Oper} {ops:Array Oper} {Q:Exit→Env→Ad→Prop} {env:Env} {H:Ad} {k:Nat} {l:List Oper}
theorem ZN {x:Operand} {src dst:Nat} {q:IntKind} {n:Int} (hs:(P.underlying src).isSome=true) (hd:P.underlying dst=some .string) (ho:o.op=.convert src dst x:=by rfl) (hv:lk env x=.d (.i q n):=by rfl) : VOK P C o env H (.d (.s (Utf8.encode n))):=by
 obtain ⟨h1,h2⟩:=Av hv (by simp)
 refine .pv ⟨by simp [ho],fun X a w I μ O _ hs'=>⟨.string (Utf8.encode n),?_,.of_rep (.s _)⟩⟩
 have e1:=hs'.look_i h1 h2
 have:=run_convert_int_string (P:=P) w src dst q n hs hd
 simp only [execOp,ho,e1,Sem.run_bind,this,Result.andThen_ok,Sem.run_pure]
theorem Zz {x y:Operand} {ty:Nat} {s:ByteArray} {q:IntKind} {z:Int} (n:Nat) (hn:z=n∧n≤s.size) (hty:P.underlying ty=some .string) (ho:o.op=.slice ty x (some y) none none:=by rfl) (hv:lk env x=.d (.s s):=by rfl) (hi:lk env y=.d (.i q z):=by rfl) :
  VOK P C o env H (.d (.s (s.extract n s.size))):=by
 obtain ⟨rfl,hl⟩:=hn
 obtain ⟨h1,h2⟩:=Av hv (by simp)
 obtain ⟨h3,h4⟩:=Av hi (by simp)
 refine .pv ⟨by simp [ho],fun X a w I μ O _ hs=>⟨.string (s.extract n s.size),?_,.of_rep (.s _)⟩⟩
 have e1:=hs.look_s h1 h2
 have e2:=hs.look_i h3 h4
 have:=run_slice_string_l (P:=P) w ty s hty q (n:Int) (by omega) (by omega)
 rw [Int.toNat_natCast] at this
 simp only [execOp,ho,e1,Option.map_none,Option.map_some,e2,Instr.sliceAt,Sem.run_bind,run_underlying hty,this,Result.andThen_ok,Sem.run_pure]
theorem ZO {c:Call} {fo:Operand} {f:FuncId} {s:ByteArray} {b z:Int} (he:∀ w,(callFunc f #[.string s,.int .u8 b]).run P w=.ok (.value (.int .i64 z)) w) (ho:o.op=.call c:=by rfl) (hc:c.callee=.value fo:=by rfl) (hf:lk env fo=.d (.fn f [] []):=by rfl)
  (ha:argsD env c.args.toList=some [.s s,.i .u8 b]:=by rfl):VOK P C o env H (.d (.i .i64 z)):=by
 refine .pv ⟨by simp [ho],fun X a w I μ O _ hs=>⟨.int .i64 z,?_,.of_rep (.i _ _)⟩⟩
 have hfr:=hs.deep (x:=fo) (v:=.fn f [] []) (by rw [hf];rfl)
 generalize hev:a.eval fo=u at hfr
 cases hfr with
 | fn _ _ _ fs cs hfs hcs =>
  cases hfs
  cases hcs
  have hres:=CA (P:=P) (w:=w) (ρ:=a.eval) (ty:=o.type) hc hev
  have h:=hs.argsD ha
  have e:c.args.map a.eval=#[.string s,.int .u8 b]:=by
   apply Array.ext'
   rw [Array.toList_map]
   generalize c.args.toList.map a.eval=l at h
   cases h with
   | cons h1 h2 =>
    cases h1
    cases h2 with
    | cons h3 h4=>cases h3;cases h4;rfl
  have he':=he w
  rw [← e] at he'
  simp only [execOp,ho,Sem.run_bind,hres,Result.andThen_ok,invoke,List.toArray,Array.append_empty,Array.empty_append,he']
end
def noG (Q:Exit→Env→Ad→Prop) : Exit→Env→Ad→Prop
 | .goto _,_,_=>False
 | e,env,H=>Q e env H
section
variable {P:Program} {b:Frame} {a:Act} {k:List Item} {cs:List Frame} {w:World}
theorem FU {c:Code} : step P (lone (b.atR a (.code (.scope c)::k)) cs w)=.next (lone (b.atR a (.code c::.inScope c::k)) cs w) :=
 step_lone_go (by simp [stepG,stepG.exec,Frame.atR])
theorem Pa {c:Code} : step P (lone (b.atR a (.inScope c::k)) cs w)=.next (lone (b.atR a k) cs w) :=
 step_lone_go (by simp [stepG,stepG.exec,Frame.atR])
end
theorem AW.scope {P:Program} {C:Cx} {c:Code} {Q:Exit→Env→Ad→Prop} {env:Env} {H:Ad} (h:AW P C c (noG Q) env H) : AW P C (.scope c) Q env H:=by
 intro X a w I μ O h1 h2 h3 hs b k cs hro hb hr
 have h0:(lone (b.atR a (.code (.scope c)::k)) cs w).fenced P (om C.ro):=fenced_calm hb hr rfl
 obtain ⟨e,a₁,w₁,hq,harr⟩:=h X a w I μ O h1 h2 h3 hs b (.inScope c::k) cs hro hb hr
 obtain ⟨env',H',I',μ',O',s,q⟩:=hq
 cases e with
 | normal=>exact ⟨.normal,a₁,w₁,⟨env',H',I',μ',O',s,q⟩,.head h0 FU (StepsIn.trans harr (.one (fenced_calm hb hr rfl) Pa))⟩
 | exit id =>
  have hx:exitTo id (.inScope c::k)=exitTo id k:=by simp [exitTo]
  exact ⟨.exit id,a₁,w₁,⟨env',H',I',μ',O',s,q⟩,fun k' hk=>.head h0 FU (harr.1 k' (by rw [hx];exact hk)),
   fun hr' hk=>let ⟨k₁,h1,h2⟩:=harr.2 hr' (by rw [hx];exact hk);⟨k₁,h1,.head h0 FU h2⟩⟩
 | goto l=>exact q.elim
 | ret=>exact ⟨_,a₁,w₁,⟨env',H',I',μ',O',s,q⟩,.of_steps (.one h0 FU) harr⟩
 | panic ch=>exact ⟨_,a₁,w₁,⟨env',H',I',μ',O',s,q⟩,.of_steps (.one h0 FU) harr⟩
 | outgrown=>exact ⟨_,a₁,w₁,⟨env',H',I',μ',O',s,q⟩,.of_steps (.one h0 FU) harr⟩
end Go.FL
namespace Go.FL
open Go Go.Proofs Go.RowKit
theorem stS : Tryz.prog.underlying 9=some .string:=by kernel_rfl
theorem X4 (s:ByteArray) (b:Int) (w:World) : (callFunc 163 #[.string s,.int .u8 b]).run Tryz.prog w=.ok (.value (.int .i64 (Lib.indexByte s.data.toList b.toNat.toUInt8))) w:=by
 rw [run_callFunc_extern Tryz.func163 (by kernel_rfl) (by kernel_rfl) (by kernel_rfl) (e:=Extern.BytealgIndexByte.indexByte) (by kernel_rfl),Lib.run_indexByteString]
 rfl
def Iz (s:ByteArray) (b:Int) : Int:=Lib.indexByte s.data.toList b.toNat.toUInt8
theorem QT (s:ByteArray) (b:Int) : Fn Tryz.prog 146 [.s s,.i .u8 b] (.d (.i .i64 (Iz s b))):=by
 refine Fn.of (rs:=[.tmp 4]) (nt:=8) Tryz.func146 rfl rfl rfl (by simp) rfl ?_;refine .seq ?_;refine .region ?_;refine asd ?_;refine rn ?_;refine .seq ?_;refine .region ?_;refine vk (Ah) ?_;refine vk (Ah) ?_;refine vk (ZO (X4 s b)) ?_;refine asd ?_;refine rn ?_;refine .ret ?_
 exact ⟨rfl,rfl⟩
theorem OR (s:ByteArray) (b:Int) : Fn Tryz.prog 113 [.s s,.i .u8 b] (.d (.i .i64 (Iz s b))):=by
 refine Fn.of (rs:=[.tmp 4]) (nt:=8) Tryz.func113 rfl rfl rfl (by simp) rfl ?_;refine .seq ?_;refine .region ?_;refine asd ?_;refine rn ?_;refine .seq ?_;refine .region ?_;refine vk (Ah) ?_;refine vk (Ah) ?_;refine vk (Ak (QT s b) Tryz.call146) ?_;refine asd ?_;refine rn ?_;refine .ret ?_
 exact ⟨rfl,rfl⟩
def Dz (a0:Int) : Option (Bool):=(if ((decide (0≤a0))&&(decide (a0<55296)))=true then (some (true)) else (if ((decide (57343<a0))&&(decide (a0≤1114111)))=true then (some (true)) else (some (false))))
theorem GY {a0:Int} {r:Bool} (h:Dz a0=some r) :
  Fn Tryz.prog 114 [.i .i32 a0] (.d (.b r)):=by
 unfold Dz at h
 refine Fn.of (rs:=[.tmp 2]) (nt:=17) Tryz.func114 rfl rfl rfl (by simp) rfl ?_;refine .seq ?_;refine .region ?_;refine asd ?_;refine rn ?_;refine .gh (Gh.keep [0,2] rfl) ?_;refine .seq ?_;refine .block ?_;refine .seq ?_;refine AW.mr (σ:=Unit) (fun _=>True) (fun _=>[(0,.d (.i .i32 a0)),(2,.d (.b false)),(3,.d (.b ((decide (0≤a0))&&(decide (a0<55296)))))]) (fun _=>[]) ?_ ?_
 ·skip
  refine .region ?_;refine vk (Ah) ?_;refine vk (vbi) ?_
  by_cases hc:0≤a0
  ·have hb0:(decide (0≤a0))=true:=(dT hc)
   refine vk (VOK.lit (Ah) hb0) ?_;refine vk (Ah) ?_;refine vk (vbi) ?_;refine vk (Ag) ?_;refine asd ?_;refine RL.gh (Gh.keep [0,2,3] rfl) ?_;refine .nil ?_
   exact jr () trivial (by simp only [hb0];rfl)
  have hb0:(decide (0≤a0))=false:=(dF hc)
  refine vk (VOK.lit (Ah) hb0) ?_;refine gf2 ?_;refine vk (Ag) ?_;refine asd ?_;refine RL.gh (Gh.keep [0,2,3] rfl) ?_;refine .nil ?_
  exact jr () trivial (by simp only [hb0];rfl)
 rintro _ _
 by_cases hc:((decide (0≤a0))&&(decide (a0<55296)))=true
 ·replace h:=UD hc h
  refine cnt hc ?_;refine .seq ?_;refine .region ?_;refine asd ?_;refine rn ?_;refine .gh (Gh.keep [2] rfl) ?_;refine .ret ?_
  cases h
  exact ⟨rfl,rfl⟩
 replace h:=Vi hc h
 refine cnf (bf hc) ?_;refine .seq ?_;refine AW.mr (σ:=Unit) (fun _=>True) (fun _=>[(2,.d (.b false)),(10,.d (.b ((decide (57343<a0))&&(decide (a0≤1114111)))))]) (fun _=>[]) ?_ ?_
 ·skip
  refine .region ?_;refine vk (Ah) ?_;refine vk (vbi) ?_
  by_cases hc:57343<a0
  ·have hb0:(decide (57343<a0))=true:=(dT hc)
   refine vk (VOK.lit (Ah) hb0) ?_;refine vk (Ah) ?_;refine vk (vbi) ?_;refine vk (Ag) ?_;refine asd ?_;refine RL.gh (Gh.keep [2,10] rfl) ?_;refine .nil ?_
   exact jr () trivial (by simp only [hb0];rfl)
  have hb0:(decide (57343<a0))=false:=(dF hc)
  refine vk (VOK.lit (Ah) hb0) ?_;refine gf2 ?_;refine vk (Ag) ?_;refine asd ?_;refine RL.gh (Gh.keep [2,10] rfl) ?_;refine .nil ?_
  exact jr () trivial (by simp only [hb0];rfl)
 rintro _ _
 by_cases hc:((decide (57343<a0))&&(decide (a0≤1114111)))=true
 ·replace h:=UD hc h
  refine cnt hc ?_;refine .seq ?_;refine .region ?_;refine asd ?_;refine rn ?_;refine .gh (Gh.keep [2] rfl) ?_;refine .ret ?_
  cases h
  exact ⟨rfl,rfl⟩
 replace h:=Vi hc h
 refine cnf (bf hc) ?_;refine .skip ?_;refine aw ?_;refine .seq ?_;refine .region ?_;refine asd ?_;refine rn ?_;refine .gh (Gh.keep [2] rfl) ?_;refine .ret ?_
 cases h
 exact ⟨rfl,rfl⟩
def Zc (s:ByteArray) (r:Int) : List Nat→Option Nat→Option Int
 | [x0,x1,x2],some y2=>if y2=x2 then (if 3≤s.size∧(Bd s)[1]?=some x1∧(Bd s)[0]?=some x0 then some 0 else none)
  else if Iz (s.extract 3 s.size) x2<0 then some (-1)
  else if (Bd s)[(Iz (s.extract 3 s.size) x2).toNat+2]?=some x1∧(Bd s)[(Iz (s.extract 3 s.size) x2).toNat+1]?=some x0∧(Iz (s.extract 3 s.size) x2).toNat+3<s.size then some (Iz (s.extract 3 s.size) x2+1) else none
 | _,_=>none
def Ze (s:ByteArray) (r:Int) : Option Int :=
 if s.size≤1000 then (if 0≤r∧r<128 then some (Iz s r) else if 2048≤r∧r<55296 then Zc s r (Bd (Utf8.encode r)) (Bd s)[2]? else none) else none
def Wc (s:ByteArray) (r:Int) : Option Bool:=(Ze s r).map fun z=>decide (0≤z)
def txA : ByteArray:=⟨#[226,141,180,44,226,141,170,226,134,145,226,134,147,226,140,189,226,138,150,226,141,137,47,226,140,191,92,226,141,128]⟩
example : Wc txA 8854=some true:=by kernel_rfl
example : Wc txA 9076=some true:=by kernel_rfl
example : Wc txA 92=some true:=by kernel_rfl
end Go.FL
namespace Go.FL
open Go Go.Proofs
def D6 (a0:Arr) : Option ((List Int)×Int):=(if 1<((List.length a0.shape:Nat) : Int) then (some ([],4)) else ((IT a0).bind fun x1=>(if x1.2=true then (some (x1.1,0)) else (some ([],3)))))
theorem Lx {a0:Arr} {r:(List Int)×Int} (h:D6 a0=some r) :
  Fn Tryz.prog 54 [.ag [.sl (Is a0.shape),.sl (Its a0.items)]] (.tup [.d (.sl (Is r.1)),.d (.i .i64 r.2)]):=by
 unfold D6 at h
 refine Fn.of (rs:=[.tmp 2,.tmp 3]) (nt:=18) Tryz.func54 rfl rfl rfl (by simp) rfl ?_;refine .sr ?_;refine vk vbx ?_;refine asn ?_;refine ar [1,2,3] ?_;refine .seq ?_;refine .sr ?_;refine vk (vfa Ay) ?_;refine vk (Ai Bh) ?_;refine vk (A9 (Af _) (BO _) BL) ?_;refine vb ?_;refine rk [1,2,3,9] ?_
 rcases brc h with ⟨hc,h⟩|⟨hc,h⟩
 ·refine cnt (dT hc) ?_
  refine .sr ?_;refine asn ?_;refine ar [1,2,3] ?_;refine .gh (Gh.nlD (t:=2) rfl) ?_;refine .ret ?_
  cases h
  exact ⟨by decide,rfl,rfl,rfl⟩
 refine cnf (dF hc) ?_;refine .sk ?_;refine .sr ?_;refine vk (AC Ac Aa) ?_
 obtain ⟨x1,g1,h⟩:=bnd h
 refine vk (VOK.tupd (vs:=[.sl (Is x1.1),.b x1.2]) (Ak (Rh g1) Tryz.call95)) ?_;refine va ?_;refine vk vex ?_;refine vk vex ?_;refine asd ?_;refine ar [2,3,4,5] ?_;refine .seq ?_;refine .sr ?_;refine va ?_;refine vk vnt ?_;refine rk [2,3,4,16] ?_
 rcases brc h with ⟨hc,h⟩|⟨hc,h⟩
 ·refine cnf (ntf hc) ?_
  refine .sk ?_;refine .sr ?_;refine va ?_;refine asd ?_;refine ar [2,3] ?_;refine .ret ?_
  cases h
  exact ⟨by decide,rfl,rfl,rfl⟩
 refine cnt (ntt (bf hc)) ?_;refine .sr ?_;refine asn ?_;refine ar [2,3,4] ?_;refine .gh (Gh.nlD (t:=2) rfl) ?_;refine .ret ?_
 cases h
 exact ⟨by decide,rfl,rfl,rfl⟩
def Ii (a0:Arr) (a1:Arr) : Option ((List Int)×Arr×Int):=((D6 a0).bind fun x1=>(jn ((if ((List.length x1.1:Nat) : Int)=((List.length a1.shape:Nat) : Int) then (some (x1.1,a1,0)) else (some ([],(Arr.mk [] []),5)))) fun K0=>(if x1.2=0 then (if ((decide (((List.length a1.shape:Nat) : Int)=0))&&(decide (8<((List.length x1.1:Nat) : Int))))=true then (some ([],(Arr.mk [] []),4)) else (if ((List.length a1.shape:Nat) : Int)=0 then none else (K0))) else (some ([],(Arr.mk [] []),x1.2)))))
def Ic (a0:(List Int)) (c0:Int) (c1:(List Int)) : Option (Int):=((El c1 a0).bind fun x1=>(some ((w64 (c0+x1)))))
def D7 (x1:(List Int)×Arr×Int) (x3:(List Int)) (K0:(List Int)→Int→Option (Arr×Int)) : Nat→(List Int)→Int→Int→Option (Arr×Int)
 | 0,_,_,_=>none
 | k+1,s6,s7,s8=>(if s7<((List.length x1.1:Nat):Int) then (jn (fun (z9:(List Int)) (z10:Int)=>(D7 x1 x3 K0 k z9 (w64 (s7+1)) z10)) fun K2=>((rd? x1.1 s7).bind fun x11=>((rd? x1.2.1.shape s7).bind fun x12=>(if 0≤x11 then ((rd? x3 s7).bind fun x13=>((rd? s6 s7).bind fun x14=>(K2 (List.set s6 (Int.toNat s7) (w64 (x12-(if x12<x11 then x12 else x11)))) (w64 (s8+(w64 (x13 * (if x12<x11 then x12 else x11)))))))) else ((rd? s6 s7).bind fun x15=>(K2 (List.set s6 (Int.toNat s7) (if (w64 (x12+(if x11<(IntKind.wrap .i64 (0-x12)) then (IntKind.wrap .i64 (0-x12)) else x11)))<0 then 0 else (w64 (x12+(if x11<(IntKind.wrap .i64 (0-x12)) then (IntKind.wrap .i64 (0-x12)) else x11))))) s8)))))) else (K0 s6 s8))
def J7 (a0:Arr) (a1:Arr) : Option (Arr×Int):=((Ii a0 a1).bind fun x1=>(if x1.2.2=0 then ((E5 (0≤((List.length x1.1:Nat) : Int)∧((List.length x1.1:Nat) : Int)≤17592186044416)).bind fun x2=>((CR x1.2.1.shape).bind fun x3=>(jn (fun (z4:(List Int)) (z5:Int)=>((Bn x1.2.1 z4 (⟨.fn 98 [] [.ptr [.i .i64 z5],.ptr [.sl (Is x3)]],fun x=>Ic x z5 x3⟩ : Cf)).bind fun x16=>(some (x16.1,x16.2)))) fun K0=>(D7 x1 x3 K0 Aw (List.replicate (Int.toNat ((List.length x1.1:Nat) : Int)) (0:Int)) 0 0)))) else (some ((Arr.mk [] []),x1.2.2))))
theorem OD {xs:List Arr} {f:B4} {p:Arr→Bool} (hf:∀ x∈xs,f.g x=some (p x)) (K:Int→Option Int) (hl:xs.length≤17592186044416) : ∀ (n i k:Nat) (s:Int),n=xs.length-i→i≤xs.length→n<k →
  Ax xs f K k s (i:Int)=match (xs.drop i).findIdx? p with|some j=>some (((i+j:Nat)):Int)|none=>K s
 | n,i,0,s,_,_,h=>by omega
 | n,i,k+1,s,hn,hi,hk=>by
  rw [Ax]
  by_cases hlt:i<xs.length
  ·rw [if_pos (by omega),AY hlt,oB,hf _ (List.getElem_mem _),oB,lC hlt,List.findIdx?_cons]
   by_cases hp:p xs[i]=true
   ·rw [if_pos hp,if_pos hp];rfl
   ·rw [if_neg hp,if_neg hp,A4 (by omega),OD hf K hl (n-1) (i+1) k s (by omega) (by omega) (by omega)]
    cases (xs.drop (i+1)).findIdx? p with
    | none=>rfl
    | some j=>simp only [Option.map_some];congr 1;omega
  ·rw [if_neg (by omega),List.drop_of_length_le (by omega)];rfl
theorem NS {xs:List Arr} {f:B4} {p:Arr→Bool} (hf:∀ x∈xs,f.g x=some (p x)) (hl:xs.length≤17592186044416) : AE xs f=some (xs.any p):=by
 unfold AE Be
 rw [A3]
 have:=OD hf (fun _=>some (-1)) hl xs.length 0 Aw 0 rfl (Nat.zero_le _) (AS (by omega))
 rw [List.drop_zero,show ((0:Nat):Int)=0 from rfl] at this
 rw [this]
 cases h:xs.findIdx? p with
 | none =>
  rw [oB]
  have h1:=List.findIdx?_eq_none_iff.1 h
  have e:xs.any p=false:=List.any_eq_false.2 fun x hx=>by rw [h1 x hx];decide
  rw [e];rfl
 | some j =>
  rw [oB]
  congr 1
  have h2:xs.any p=true:=by
   have:=List.findIdx?_isSome (xs:=xs) (p:=p)
   rw [h] at this
   exact this.symm
  rw [h2]
  exact dT (by omega)
theorem U8 {e:Int×RT×Int} (he:e.1=0∨e.1=1) {l:List Arr} (hl:l.length≤17592186044416) (ho:∀ a∈l,okAr a) : DP e l=some (!l.any fun a=>!decide (AB a)):=by
 have hc:=NS (xs:=l) (f:=(⟨.fn 43 [] [],fun x=>Dn x⟩:B4)) (p:=fun a=>!decide (AB a)) (fun a ha=>by
  show Dn a=_
  unfold Dn;rw [HA (ho a ha)];rfl) hl
 unfold DP
 rcases he with h|h
 ·rw [if_pos h,hc];rfl
 ·rw [if_neg (by omega),if_pos h,hc];rfl
theorem WP {α β:Type} (x:α) (a:Option β) (f:α→Option β) : Xp (some x) a f=f x:=rfl
theorem YY {p:Prop} [Decidable p] (h:p) : E5 p=some ():=if_pos h
theorem MG {t:List Nat} : (up_ t).map Int.toNat=t:=by simp [up_,List.map_map,Function.comp_def]
theorem Ul {b:Arr} {ax m n:Nat} {fr:List Nat} (ob:okAr b) (rb:AB b) (hsz:szP b.shape=((n:Int),0)) (hx:ax<b.shape.length) (hm:b.shape[ax]=(m:Int)) (f1:fr.length=m) (f2:∀ x∈fr,x<m) (f3:fr.Nodup) :
  Bs b (ax:Int) (up_ fr)=some (.mk b.shape (if n=0 then [tyI (b.items.headD default)] else Cq b n (Cg (b.shape.map Int.toNat) ax fr)),0) ∧
  (n≠0→(∀ i,i<n→Cg (b.shape.map Int.toNat) ax fr i<n)∧∀ i j,i<n→j<n→Cg (b.shape.map Int.toNat) ax fr i=Cg (b.shape.map Int.toNat) ax fr j→i=j):=by
 obtain ⟨hd,h8⟩:=Gj (s:=b.shape) (by rw [hsz])
 have hm2:m≤4096:=by have:=hd _ (List.getElem_mem hx);omega
 have hset:b.shape.set ax ((fr.length:Nat):Int)=b.shape:=M9 hx (by rw [f1];exact hm)
 have o:=(AK b).1 ob
 by_cases h0':n=0
 ·refine ⟨?_,fun h=>absurd h0' h⟩
  have hz:szP b.shape=(0,0):=by rw [hsz,h0'];rfl
  have e:b.shape.set ax ((List.length (up_ fr):Nat):Int)=b.shape:=by rw [Az];exact hset
  rw [Nf (Fg ob rb) o.2.1 hx (by rw [e];exact hz),e,if_pos h0',EZ ob rb hz o.1 o.2.1 hz (.inr rfl)]
 ·obtain ⟨t,ht,hpos,hp,hn,ht8⟩:=Jf hsz h0'
  have hxt:ax<t.length:=by rw [ht,Az] at hx;exact hx
  have hmt:t[ax]=m:=by
   have:=GC hxt
   simp only [ht] at hm
   rw [hm] at this;omega
  have hlen:fr.length=t[ax]:=by rw [f1,hmt]
  have hfl:∀ x∈fr,x<t[ax]:=fun x hx=>by rw [hmt];exact f2 x hx
  have ht0:∀ x∈t,0<x:=fun x hx=>(hpos x hx).1
  have hst:t.set ax fr.length=t:=by rw [hlen];exact List.set_getElem_self hxt
  have hf0:0<fr.length:=by rw [hlen];exact ht0 _ (List.getElem_mem hxt)
  have hinj:=Nx ht0 hxt hfl hlen f3
  have hlt:=fun i=>Jq ht0 hxt hfl hf0 i
  rw [hp] at hinj hlt
  have hl:=IQ rb rfl hsz
  rw [if_neg h0'] at hl
  have hdim:b.shape.map Int.toNat=t:=by rw [ht,MG]
  rw [hdim]
  refine ⟨?_,fun _=>⟨fun i _=>hlt i,hinj⟩⟩
  rw [if_neg h0',Om (Fg ob rb) ht (by rw [hl,hp]) hpos ht8 (by rw [hp];exact hn) hxt hfl hf0 (by rw [f1];exact hm2) (by rw [hst,hp];exact hn),hst,hp,← ht]
  exact Fu ob rb o.1 o.2.1 hsz h0' hl (fun i _=>hlt i) hinj
def vec (xs:List Itm) : Arr:=.mk [(xs.length:Int)] xs
def VR (xs:List Itm) : Prop:=xs≠[]∧xs.length≤4096∧(∀ x∈xs,okI x)∧AB (vec xs)
theorem JO {n:Int} {xs:List Itm} : AM (.mk [n] xs)=false:=by unfold AM;rfl
theorem WY {xs ys:List Itm} (h:ys.Sublist xs) : cIs ys≤cIs xs:=by
 induction h with
 | slnil=>exact Nat.le_refl _
 | cons a _ ih=>simp only [cIs];omega
 | cons_cons a _ ih=>simp only [cIs];omega
theorem V3 {xs ys:List Itm} (h:∀ x∈ys,x∈xs) : dIs ys≤dIs xs:=U2 fun x hx=>Hw (h x hx)
theorem VR.ok {xs:List Itm} (h:VR xs) : okAr (vec xs):=by
 obtain ⟨_,h2,h3,_⟩:=h
 rw [AK]
 refine ⟨fun z hz=>?_,by show [(xs.length:Int)].length≤_;simp,by show xs.length≤_;omega,h3⟩
 have hz':z∈[(xs.length:Int)]:=hz
 rw [List.mem_singleton] at hz'
 omega
theorem VR.items {xs:List Itm} (h:VR xs) : ∀ x∈xs,okI x∧Bg x:=fun x hx=>CO h.ok h.2.2.2 (x:=x) hx
theorem VR.sz {xs:List Itm} (h:VR xs) : szP (vec xs).shape=((xs.length:Int),0):=Im h.2.1
theorem VR.pos {xs:List Itm} (h:VR xs) : 0<xs.length:=List.length_pos_iff.2 h.1
theorem VK {n:Nat} (h:n≤4096) : ∀ z∈[(n:Int)],-9223372036854775808≤z∧z≤9223372036854775807:=fun z hz=>by
 rw [List.mem_singleton] at hz;omega
theorem VR.make {xs:List Itm} (h:VR xs) : AP [(xs.length:Int)] xs=some (vec xs,0):=by
 obtain ⟨h1,h2,h3,h4⟩:=h
 have hs:=Im h2
 have hp:=List.length_pos_iff.2 h1
 have hc:¬(xs=[]∨¬∀ x∈xs,Bg x):=fun q=>q.elim h1 fun q=>q fun x hx=>(VR.items ⟨h1,h2,h3,h4⟩ x hx).2
 rw [Jj (VK h2) (by simp) (by omega) h3,hs,if_neg (fun q=>q rfl),if_neg hc,HT rfl (by omega),if_pos (show AB (Arr.mk [(xs.length:Int)] xs) from h4)];rfl
theorem VR.of {xs:List Itm} (h1:xs≠[]) (h2:xs.length≤4096) (h3:∀ x∈xs,okI x∧rI x=true) (hd:dIs xs≤15) (hc:xs.length+cIs xs≤16384) : VR xs:=by
 refine ⟨h1,h2,fun x hx=>(h3 x hx).1,?_,?_,?_⟩
 ·rw [HG]
  show (decide ((szP [(xs.length:Int)]).2=0)&&(decide ((xs.length:Int)=if (szP [(xs.length:Int)]).1<1 then 1 else (szP [(xs.length:Int)]).1)&&rIs xs))=true
  have hp:=List.length_pos_iff.2 h1
  rw [Im h2,EM.2 fun x hx=>(h3 x hx).2,if_neg (by show ¬(xs.length:Int)<1;omega)]
  simp
 ·rw [Gz]
  show (if AM (.mk [(xs.length:Int)] xs)=true then 0 else 1+dIs xs)≤16
  rw [JO,if_neg (by decide)];omega
 ·rw [GK];exact hc
theorem VR.parts {xs:List Itm} (h:VR xs) : dIs xs≤15∧xs.length+cIs xs≤16384:=by
 obtain ⟨_,_,_,_,h2,h3⟩:=h
 rw [Gz] at h2
 have h2':(if AM (.mk [(xs.length:Int)] xs)=true then 0 else 1+dIs xs)≤16:=h2
 rw [JO,if_neg (by decide)] at h2'
 rw [GK] at h3
 have h3':xs.length+cIs xs≤16384:=h3
 omega
theorem VR.sub {xs ys:List Itm} (h:VR xs) (hs:ys.Sublist xs) (hn:ys≠[]) : VR ys:=by
 obtain ⟨p1,p2⟩:=h.parts
 have hl:=hs.length_le
 have hc:=WY hs
 have h2:=h.2.1
 exact .of hn (by omega) (fun x hx=>⟨(h.items x (hs.subset hx)).1,(h.items x (hs.subset hx)).2.1⟩) (nT (V3 fun x hx=>hs.subset hx) p1) (by omega)
theorem VR.zero {xs:List Itm} (h:VR xs) : AP [0] [tyI (xs.headD default)]=some (.mk [0] [tyI (xs.headD default)],0)∧okAr (.mk [0] [tyI (xs.headD default)])∧AB (.mk [0] [tyI (xs.headD default)]):=by
 obtain ⟨p1,p2⟩:=h.parts
 obtain ⟨x,ys,rfl⟩:=List.exists_cons_of_ne_nil h.1
 obtain ⟨ox,rx⟩:=h.items x (by simp)
 obtain ⟨t1,t2,t3,t4,t5,t6⟩:=PA ox rx.1
 have hI:okI (tyI x)∧Bg (tyI x):=⟨t6,t1,t2▸rx.2.1,t3▸rx.2.2⟩
 have hsz:szP [0]=(0,0):=rfl
 have hmk:Bc (szP [0]).1 [tyI x]=[tyI x]:=by
  rw [hsz];show [tyI (tyI x)]=_;rw [t4]
 have hd:dI x≤15:=nT (Hw (List.mem_cons_self ..)) p1
 have hcx:1+cI x≤16384:=by
  have:cIs (x::ys)=cI x+cIs ys:=rfl
  rw [this,List.length_cons] at p2;omega
 have hR:AB (.mk [0] [tyI x]):=by
  refine ⟨?_,?_,?_⟩
  ·rw [HG,E7,DN,hsz,EM.2 (by simpa using t1)];rfl
  ·rw [Gz,JO,if_neg (by decide),DN,dIs,dIs,Nat.max_zero,t2];omega
  ·rw [GK,DN];simp only [cIs,List.length_singleton];omega
 have hc:¬([tyI x]=[]∨¬∀ y∈[tyI x],Bg y):=fun q=>q.elim (fun e=>by cases e) fun q=>q fun y hy=>by rw [List.mem_singleton] at hy;subst hy;exact hI.2
 refine ⟨?_,?_,hR⟩
 ·show AP [0] [tyI x]=some (.mk [0] [tyI x],0)
  rw [Jj (fun z hz=>by rw [List.mem_singleton] at hz;omega) (by simp) (by simp) (fun y hy=>by rw [List.mem_singleton] at hy;subst hy;exact hI.1),hmk,if_neg (by rw [hsz];exact fun q=>q rfl),if_neg hc,if_pos hR]
 ·show okAr (.mk [0] [tyI x])
  rw [AK]
  exact ⟨fun z hz=>by rw [E7,List.mem_singleton] at hz;omega,by simp [E7],by simp [DN],fun y hy=>by rw [DN,List.mem_singleton] at hy;subst hy;exact hI.1⟩
theorem Xl {z:Int} (hz:HE z) : okAr (.mk [] [Gv z])∧AB (.mk [] [Gv z]):=⟨Sh (Po hz),(Kg (J2 hz) rfl (by show (1:Int)≠3;decide)).1⟩
theorem PZ {z:Int} (h:HE z) : IT (.mk [] [Gv z])=some ([z],true):=by
 obtain ⟨on,rn⟩:=Xl h
 unfold IT Wv
 rw [HA on,oB,dT rn,if_pos rfl,if_pos (by simp [E7]),Vv on,E7,Kk,if_neg (by rintro (q|q);exact absurd q (by decide);exact q rn),DN,oB,if_pos (by simp)]
 have:=Ol (l:=[z]) (s:=[]) (by simpa using h) (by simp)
 rw [List.map_singleton] at this
 rw [this];rfl
theorem QO {z:Int} (h:HE z) : D6 (.mk [] [Gv z])=some ([z],0):=by
 unfold D6
 rw [E7,if_neg (by simp),PZ h];rfl
theorem Sd {z n:Int} {xs:List Itm} (h:HE z) : Ii (.mk [] [Gv z]) (.mk [n] xs)=some ([z],.mk [n] xs,0):=by
 unfold Ii
 rw [QO h,oB,A3,if_pos rfl,E7]
 rfl
theorem TK {n:Nat} {xs:List Itm} {z:Nat} (hL:n≤4096) (hz:z≤1000) (K:List Int→Int→Option (Arr×Int)) (k:Nat) :
  D7 ([(z:Int)],.mk [(n:Int)] xs,0) [1] K (k+2) [0] 0 0=K [((n-min z n:Nat):Int)] ((min z n:Nat):Int):=by
 rw [D7,if_pos (by simp),A3,Mt,oB,E7,Mt,oB,if_pos (by omega),Mt,oB,Mt,oB]
 have e:(if (n:Int)<(z:Int) then (n:Int) else (z:Int))=((min z n:Nat):Int):=by
  by_cases q:(n:Int)<(z:Int)
  ·rw [if_pos q];omega
  ·rw [if_neg q];omega
 have a1:w64 (1 * ((min z n:Nat):Int))=((min z n:Nat):Int):=by rw [Int.one_mul];exact Bi (by omega) (by omega)
 have a2:w64 (0+((min z n:Nat):Int))=((min z n:Nat):Int):=by rw [Int.zero_add];exact Bi (by omega) (by omega)
 have a3:w64 ((n:Int)-((min z n:Nat):Int))=((n-min z n:Nat):Int):=by rw [Bi (by omega) (by omega)];omega
 have a4:w64 (0+1)=1:=Bi (by omega) (by omega)
 rw [e,a1,a2,a3,a4]
 show D7 _ [1] K (k+1) _ 1 _=_
 rw [D7,if_neg (by simp)]
 rfl
theorem Sj {n:Nat} {xs:List Itm} {z:Nat} (hL:n≤4096) (hz:z≤1000) : J7 (.mk [] [Gv z]) (.mk [(n:Int)] xs) =
  Bn (.mk [(n:Int)] xs) [((n-min z n:Nat):Int)] ⟨.fn 98 [] [.ptr [.i .i64 ((min z n:Nat):Int)],.ptr [.sl (Is [1])]],fun x=>Ic x ((min z n:Nat):Int) [1]⟩:=by
 have hF:Aw=999999999999998+2:=rfl
 unfold J7
 rw [Sd ⟨by omega,by omega⟩,oB,if_pos rfl,YY (by simp),oB,EU (by simp [E7]),oB,A3,hF]
 have hst:(Fv (Arr.mk [(n:Int)] xs).shape).1=[1]:=rfl
 simp only [hst]
 have:=TK (n:=n) (xs:=xs) (z:=z) hL hz (fun z4 z5=>(Bn (.mk [(n:Int)] xs) z4 ⟨.fn 98 [] [.ptr [.i .i64 z5],.ptr [.sl (Is [1])]],fun x=>Ic x z5 [1]⟩).bind fun x16=>some (x16.1,x16.2)) 999999999999998
 refine Eq.trans this ?_
 generalize Bn _ _ _=m
 cases m<;>rfl
theorem YS {p:Itm} (o:okAr (.mk [0] [p])) (r:AB (.mk [0] [p])) {z:Nat} (hz:z≤1000) : J7 (.mk [] [Gv z]) (.mk [0] [p])=some (.mk [0] [tyI p],0):=by
 have:=Sj (n:=0) (xs:=[p]) (z:=z) (by omega) hz
 rw [show ((0:Nat):Int)=0 from rfl] at this
 rw [this]
 have hm:0-min z 0=0:=by omega
 rw [hm]
 refine (H8 (Fg o r) (by simp) rfl).trans ?_
 exact EZ o r rfl (fun z hz=>by rw [List.mem_singleton] at hz;omega) (by simp) rfl (.inr rfl)
end Go.FL
namespace Go.FL
open Go Go.RowKit
def P7 : AV→Bool
 | .ref (.c _ _) _ _=>false
 | .ep (.c _ _) _ _=>false
 | av=>noBp av
section
variable {P:Program} {C:Cx} {X:Snap} {o:Oper} {ops:Array Oper} {Q:Exit→Env→Ad→Prop} {env env':Env} {H H':Ad} {a:Act} {w w':World} {I I':Nat→Prop} {μ μ':List Nat} {O O':Nat→Option Loc}
 {K:Env→Ad→Prop} {k:Nat} {l:List Oper}
theorem Tk {p:AV→Bool} (hu:p .un=true) : ∀ {env:Env},(env.all fun x=>p x.2)=true→∀ t,p (get env t)=true
 | [],_,_=>hu
 | (s,v)::r,h,t=>by
  simp only [List.all_cons,Bool.and_eq_true] at h
  simp only [get]
  split
  ·exact h.1
  ·exact Tk hu h.2 t
theorem Gh2.drop (hb:(env.all fun x=>P7 x.2)=true) (hne:C.ne=0) : Gh2 P C env H env []:=fun X a w I μ O _ h2 h3 hs=>by
 have hne':X.ne=0:=h3.trans hne
 refine ⟨I,[],O,{
  prot:=hs.prot,kO:=hs.kO,kI:=hs.kI,mono:=hs.mono,os:=hs.os,tape:=hs.tape,output:=hs.output,size:=hs.size,own:=hs.own,ilt:=hs.ilt
  μlen:=rfl
  μpre:=fun i b hi _=>by omega
  nle:=by simp [hne']
  heap:=fun id ob ho=>by simp at ho
  klt:=hs.klt
  n0le:=hs.n0le
  envr:=fun s=>?_
  nt:=hs.nt
  dfs:=hs.dfs}⟩
 have hp:=Tk (p:=P7) rfl hb s
 have ht:=hs.envr s
 have plain:∀ av,get env s=av→noBp av=true→A5 av=false→TRep P env [] a w I [] O s av:=by
  intro av hav hn hr
  rw [hav] at ht
  obtain ⟨bs,g1,g2,g3⟩:=ht.plain hr
  exact .of (g1.noBp (μ':=[]) hn) g2 g3
 cases hgs:get env s with
 | ref p off len =>
  rw [hgs] at hp
  cases p with
  | c _ _=>simp [P7] at hp
  | t r =>
   rw [hgs] at ht
   obtain ⟨e',xs,A,n,c,g1,g2,g3,g4⟩:=ht
   exact ⟨e',xs,A,n,c,g1,g2,g3,g4⟩
 | ep p i k =>
  rw [hgs] at hp
  cases p with
  | c _ _=>simp [P7] at hp
  | t r =>
   rw [hgs] at ht
   obtain ⟨e',xs,b,n,c,g1,g2,g3,g4,g5⟩:=ht
   exact ⟨e',xs,b,n,c,g1,g2,g3,g4,g5⟩
 | _ =>
  rw [hgs] at hp
  exact plain _ hgs hp rfl
end
end Go.FL
namespace Go.FL
open Go Go.Proofs
theorem Yd {p:Prop} [Decidable p] (h:p) : E5 p=some ():=if_pos h
theorem Jb {α:Type} {xs:List α} {d:α} {i:Nat} (h:i<xs.length) : xs.getD i d=xs[i]:=by simp [List.getD,lG h]
theorem Rw (n:Nat) (h:n≤140737488355328:=by decide) : ∃ k,Aw=k+n:=⟨Aw-n,by have:=AS h;omega⟩
theorem Wz {x:Itm} (hx:okI x) : Gy x=some (decide (AB (.mk [] [x]))):=by
 unfold Gy
 rw [GF (Sh hx)];rfl
theorem So {x:Itm} (hx:okI x) (hk:x.kind≠3) : AB (.mk [] [x])↔Bg x:=by
 constructor
 ·intro h
  exact (CO (Sh hx) h (x:=x) (by simp [Arr.items])).2
 ·intro h
  exact (Kg h.1 (Xa h.1 hk) hk).1
theorem Qo {x:Itm} (hx:okI x) : D3 x=some (decide (Bg x)):=by
 unfold D3
 by_cases hk:x.kind=3
 rotate_left
 ·rw [if_neg hk,Wz hx,oB]
  congr 1
  exact decide_eq_decide.2 (So hx hk)
 rw [if_pos hk]
 have ox:=(C5 x).1 hx
 have hno:∀ {p:Prop} [Decidable p],(¬Bg x)→(some false:Option Bool)=some (decide (Bg x)):=fun h=>by rw [dF h]
 cases x with
 | mk k n c b =>
 have hk:k=3:=hk
 subst hk
 have er:rI (.mk 3 n c b)=(decide (b.length=1)&&(C7 (.mk 3 n c b)&&(decide (c=0)&&rBs b))):=by rw [rI];rfl
 by_cases h1:b.length=1
 rotate_left
 ·rw [if_neg (show ¬(((List.length (Itm.mk 3 n c b).box:Nat):Int)=1) from fun q=>h1 (by have:((b.length:Nat):Int)=1:=q;omega)),oB]
  rw [dF (fun q:Bg (.mk 3 n c b)=>by have:=q.1;rw [er,dF h1] at this;simp at this)]
 rw [if_pos (show ((List.length (Itm.mk 3 n c b).box:Nat):Int)=1 from by show ((b.length:Nat):Int)=1;omega),JU,oB]
 by_cases h2:C7 (.mk 3 n c b)=true
 rotate_left
 ·rw [if_neg h2,oB]
  rw [dF (fun q:Bg (.mk 3 n c b)=>by have:=q.1;rw [er] at this;simp at this;exact h2 this.2.1)]
 rw [if_pos h2]
 by_cases h3:c=0
 rotate_left
 ·rw [if_neg (show ¬(Itm.mk 3 n c b).char=0 from h3),oB]
  rw [dF (fun q:Bg (.mk 3 n c b)=>by have:=q.1;rw [er,dF h3] at this;simp at this)]
 rw [if_pos (show (Itm.mk 3 n c b).char=0 from h3)]
 match b,h1 with
 | [a],_ =>
  have oa:okAr a:=ox.2.2.2.2 a (List.mem_singleton.2 rfl)
  rw [show rd? (Itm.mk 3 n c [a]).box 0=some a from rfl,oB,IH,oB]
  have ei:Bg (.mk 3 n c [a])↔AM a=false∧AB a:=by
   unfold Bg AB
   rw [er,h2,dT h3]
   have d1:dI (.mk 3 n c [a])=dA a:=by rw [MY];simp [Itm.box,dBs]
   have c1:cI (.mk 3 n c [a])=cA a:=by simp [cI,cBs]
   rw [d1,c1]
   simp [rBs]
   constructor
   ·rintro ⟨⟨p1,p2⟩,p3,p4⟩;exact ⟨p1,p2,p3,p4⟩
   ·rintro ⟨p1,p2,p3,p4⟩;exact ⟨⟨p1,p2⟩,p3,p4⟩
  by_cases h4:AM a=true
  ·rw [if_pos h4,oB,dF (fun q=>by have:=(ei.1 q).1;rw [h4] at this;cases this)]
  ·rw [if_neg h4,oB,GF oa,oB,oB]
   congr 1
   exact decide_eq_decide.2 ⟨fun q=>ei.2 ⟨by simpa using h4,q⟩,fun q=>(ei.1 q).2⟩
theorem Oc {x:Itm} : ∀ {xs:List Itm},x∈xs→cI x≤cIs xs
 | y::ys,h=>by
  rw [cIs]
  rcases List.mem_cons.1 h with rfl|h
  ·omega
  ·have:=Oc h;omega
theorem Ub {x:Itm} (hr:rI x=true) (hd:dI x≤15) (hc:1+cI x≤16384) : AB (.mk [] [x]):=by
 refine ⟨?_,?_,?_⟩
 ·rw [rA];simp [rIs,hr,Kk]
 ·rw [Gz]
  have:dIs [x]=dI x:=by simp [dIs]
  simp only [Arr.items,this]
  split<;>omega
 ·have:cA (.mk [] [x])=1+cI x:=by simp [cA,cIs]
  omega
theorem VR.one {xs:List Itm} (h:VR xs) {x:Itm} (hx:x∈xs) : okI x∧AB (.mk [] [x])∧AP [] [x]=some (.mk [] [x],0):=by
 have hi:=h.items x hx
 have hp:=h.parts
 have hd:=Hw hx
 have hc:=Oc hx
 have hpos:=h.pos
 have r:=Ub hi.2.1 (by omega) (by omega)
 refine ⟨hi.1,r,?_⟩
 rw [Jj (by simp) (by simp) (by simp) (by simpa using hi.1),if_neg (by rw [Kk];simp),if_neg (by simp [hi.2]),Kk,show Bc 1 [x]=[x] from HT (n:=1) rfl (by decide),if_pos r]
theorem Pc {xs:List Itm} (hx:∀ x∈xs,okI x) (hl:xs.length≤1466015503701) (K:Arr→Int→Option (Arr×Int)) (u:Arr) (v:Int) : ∀ (m i k:Nat),m=xs.length-i→i≤xs.length→m<k →
  Dp xs K k u v (i:Int)=if ∀ x∈xs.drop i,Bg x then K u v else some (.mk [] [],22)
 | m,i,0,_,_,h=>by omega
 | m,i,k+1,hm,hi,hk=>by
  rw [Dp]
  by_cases hlt:i<xs.length
  ·have hmem:=List.getElem_mem hlt
   rw [if_pos (by omega),AY hlt,oB,Qo (hx _ hmem),oB,lC hlt]
   by_cases hr:Bg xs[i]
   ·rw [dT hr,if_pos rfl,A4 (by omega),Pc hx hl K u v (m-1) (i+1) k (by omega) (by omega) (by omega)]
    by_cases h:∀ x∈xs.drop (i+1),Bg x
    ·rw [if_pos h,if_pos fun x hx=>by
      rcases List.mem_cons.1 hx with rfl|hx
      ·exact hr
      ·exact h x hx]
    ·rw [if_neg h,if_neg fun q=>h fun x hx=>q x (List.mem_cons_of_mem _ hx)]
   ·rw [dF hr,if_neg (by decide),if_neg fun q=>hr (q _ (List.mem_cons_self ..))]
  ·rw [if_neg (by omega),List.drop_of_length_le (by omega),if_pos (by simp)]
theorem XR {xs:List Itm} (hne:xs≠[]) (i:Nat) : xs.getD (i % xs.length) default∈xs:=by
 have:=Nat.mod_lt i (List.length_pos_iff.2 hne)
 rw [Jb this];exact List.getElem_mem this
theorem Ov {xs:List Itm} (hx:∀ x∈xs,okI x∧Bg x) (hne:xs≠[]) (hl:xs.length≤1466015503701) {m:Nat} (hm:m≤4096) (x1:Int×Int) (hx1:x1.1=(m:Int)) (K:Arr→Int→List Int→List Itm→Option (Arr×Int)) (u:Arr) (v:Int) (s:List Int) : ∀ (n i k:Nat),n=m-i→i≤m→n<k→i+cIs (cyc xs i)≤16384 →
  Cp xs x1 K k u v ((i+cIs (cyc xs i):Nat):Int) (i:Int) s (cyc xs i)=if m+cIs (cyc xs m)≤16384 then K u v s (cyc xs m) else some (.mk [] [],8)
 | n,i,0,_,_,h,_=>by omega
 | n,i,k+1,hn,hi,hk,hb=>by
  rw [Cp,hx1]
  by_cases hlt:i<m
  ·have hp:=List.length_pos_iff.2 hne
   have hmod:=Nat.mod_lt i hp
   have e1:Int.tmod (i:Int) ((List.length xs:Nat):Int)=((i % xs.length:Nat):Int):=rfl
   have hg:xs.getD (i % xs.length) default=xs[i % xs.length]:=Jb hmod
   have hmem:=XR hne i
   have ho:=hx _ hmem
   have hs:=Ki xs i
   have hc:cIs (cyc xs (i+1))=cIs (cyc xs i)+cI (xs.getD (i % xs.length) default):=by rw [hs,MA];simp [cIs]
   have hci:cI (xs.getD (i % xs.length) default)≤16384:=ho.2.2.2
   have fin:∀ z:Int,z=((i+1+cIs (cyc xs (i+1)):Nat):Int)→(if 16384<z then (some (Arr.mk [] [],(8:Int))) else ((ap? 1466015503701 (cyc xs i) [xs.getD (i % xs.length) default]).bind fun x29=>(Cp xs x1 K k u v z (w64 ((i:Int)+1)) s x29)))=if m+cIs (cyc xs m)≤16384 then K u v s (cyc xs m) else some (.mk [] [],8):=by
    rintro z rfl
    have hle:=VM xs (i:=i+1) (n:=m) hlt
    by_cases hbig:(16384:Int)<((i+1+cIs (cyc xs (i+1)):Nat):Int)
    ·rw [if_pos hbig,if_neg (by omega)]
    ·rw [if_neg hbig,Dw (by rw [ES];simp;omega),oB,← hs,A4 (by omega)]
     exact Ov hx hne hl hm x1 hx1 K u v s (n-1) (i+1) k (by omega) (by omega) (by omega) (by omega)
   rw [if_pos (by omega),Yd (by omega),oB,e1,AY hmod,oB,← hg,N2 ho.1,oB,A3]
   generalize xs.getD (i % xs.length) default=x at *
   have w1:w64 (((i+cIs (cyc xs i):Nat):Int)+1)=((i+cIs (cyc xs i)+1:Nat):Int):=A4 (by omega)
   rw [w1]
   rcases FX ho.2.1 with ⟨k1,_,_,q⟩|⟨k1,_,_,q⟩|⟨k1,_,_,a,q,_,_⟩
   ·rw [if_neg (by omega)]
    refine fin _ ?_
    have:cI x=0:=by rw [Ku,q];rfl
    rw [hc,this];omega
   ·rw [if_neg (by omega)]
    refine fin _ ?_
    have:cI x=0:=by rw [Ku,q];rfl
    rw [hc,this];omega
   ·obtain ⟨oa,ra,e2,_⟩:=OS ho.1 ho.2 a (by rw [q];simp)
    rw [if_pos k1,q,show rd? [a] 0=some a from SD (i:=0) rfl,oB,RN oa ra,oB]
    refine fin _ ?_
    rw [Bi (by omega) (by omega),hc,e2];omega
  ·have:i=m:=by omega
   subst this
   rw [if_neg (by omega),if_pos hb]
theorem Hl {s:List Int} {xs:List Itm} (hs:∀ z∈s,-9223372036854775808≤z∧z≤9223372036854775807) (hl:s.length≤17592186044416) (hxl:xs.length≤1466015503701) (hx:∀ x∈xs,okI x) : DY s xs=AP s xs:=by
 rw [Jj hs hl hxl hx]
 unfold DY
 rw [Jm,oB]
 by_cases h0:(szP s).2=0
 rotate_left
 ·rw [if_neg h0,if_pos h0]
 rw [if_pos h0,if_neg (show ¬((szP s).2≠0) from fun q=>q h0)]
 by_cases hn:xs=[]
 ·subst hn;rw [if_pos (show ((([]:List Itm).length:Nat):Int)=0 from rfl),if_pos (.inl rfl)]
 have hlen:¬((xs.length:Nat):Int)=0:=by have:=List.length_pos_iff.2 hn;omega
 have a1:=fun K=>Pc hx hxl K (Arr.mk [] []) 0 xs.length 0 Aw rfl (Nat.zero_le _) (AS (by omega))
 rw [show ((0:Nat):Int)=0 from rfl,List.drop_zero] at a1
 rw [if_neg hlen,A3,a1]
 by_cases hr:∀ x∈xs,Bg x
 rotate_left
 ·rw [if_neg hr,if_pos (.inr hr)]
 have hx2:∀ x∈xs,okI x∧Bg x:=fun x h=>⟨hx x h,hr x h⟩
 rw [if_pos hr,if_neg (fun q=>q.elim hn fun h=>h hr),Dw (by simpa using hl),oB,List.nil_append,A3]
 obtain ⟨m,hm,hm4⟩:∃ m:Nat,(szP s).1=(m:Int)∧m≤4096:=⟨(szP s).1.toNat,by have:=EQ s;omega,by have:=EQ s;omega⟩
 have hok:okAr (.mk s (Bc (szP s).1 xs)):=(AK _).2 ⟨hs,hl,nT Rq (by decide),H7 hn hx2⟩
 have fin:∀ ys:List Itm,ys=Bc (szP s).1 xs→((BS (Arr.mk s ys)).bind fun x30=>(if x30=true then (some ((Arr.mk s ys),(0:Int))) else (some ((Arr.mk [] []),8))))=some (if AB (.mk s (Bc (szP s).1 xs)) then (.mk s (Bc (szP s).1 xs),0) else (.mk [] [],8)):=by
  rintro _ rfl
  rw [GF hok,oB]
  by_cases h:AB (.mk s (Bc (szP s).1 xs))
  ·rw [dT h,if_pos rfl,if_pos h]
  ·rw [dF h,if_neg (by decide),if_neg h]
 by_cases hz:(szP s).1=0
 ·rw [if_pos hz]
  obtain ⟨k,hk⟩:=Rw 1
  match xs,hn with
  | x::xs,_ =>
   have h:=hx2 x (by simp)
   have e9:[tyI x]=Bc (szP s).1 (x::xs):=by rw [hz];rfl
   rw [show rd? (x::xs) 0=some x from SD (i:=0) rfl,oB,JF h.1 h.2.1,oB]
   dsimp only
   rw [A3,hk,Cp,hz,if_neg (by decide)]
   have:=fin _ e9
   rw [hz] at this
   exact this
 ·rw [if_neg hz]
  have e9:cyc xs m=Bc (szP s).1 xs:=by unfold Bc;rw [if_neg hz,hm,Int.toNat_natCast]
  have a4:=fun K=>Ov hx2 hn hxl hm4 (szP s) hm K (Arr.mk [] []) 0 s m 0 Aw rfl (Nat.zero_le _) (AS (by omega)) (by simp [cyc,cIs])
  have e0:((0+cIs (cyc xs 0):Nat):Int)=0:=by simp [cyc,cIs]
  rw [e0,show ((0:Nat):Int)=0 from rfl,show cyc xs 0=[] from rfl] at a4
  dsimp only
  rw [A3,a4]
  by_cases hb:m+cIs (cyc xs m)≤16384
  ·rw [if_pos hb];exact fin _ e9
  ·rw [if_neg hb,if_neg fun q:AB _=>by
    have h3:=q.2.2
    rw [← e9,show cA (.mk s (cyc xs m))=(cyc xs m).length+cIs (cyc xs m) from by rw [cA],ES] at h3
    exact hb h3]
def ET (a0:(List Int)) : Option (Int):=((DQ a0).bind fun x1=>(some (x1.1)))
theorem JD {a0:(List Int)} {r:Int} (h:ET a0=some r) :
  Fn Tryz.prog 19 [.sl (Is a0)] (.d (.i .i64 r)):=by
 unfold ET at h
 refine Fn.o1 2 11 Tryz.func19 ?_;refine .sr ?_;refine ar [0,2] ?_;refine .sr ?_;refine va ?_
 obtain ⟨x1,g1,h⟩:=bnd h
 refine vk (VOK.tupd (vs:=[.i .i64 x1.1,.i .i64 x1.2]) (Ak (FF g1) Tryz.call46)) ?_;refine va ?_;refine vk vex ?_;refine vk vex ?_;refine asd ?_;refine ar [2,3] ?_;refine .sr ?_;refine va ?_;refine ar [2] ?_;refine .ret ?_
 cases h
 exact ⟨rfl,rfl⟩
def Gm (a0:(List Int)) (a1:Int) (a2:Int) : Option ((List Int)):=((ap? 17592186044416 [] a0).bind fun x1=>((rd? x1 a1).bind fun x2=>(some ((List.set x1 (Int.toNat a1) a2)))))
theorem N4 {a0:(List Int)} {a1:Int} {a2:Int} {r:(List Int)} (h:Gm a0 a1 a2=some r) :
  Fn Tryz.prog 94 [.sl (Is a0),.i .i64 a1,.i .i64 a2] (.d (.sl (Is r))):=by
 unfold Gm at h
 refine Fn.o1 6 16 Tryz.func94 ?_;refine .sr ?_;refine asn ?_;refine rk [0,1,2,6] ?_;refine .sr ?_;refine asn ?_;refine rk [0,1,2,6,7] ?_;refine .sr ?_;refine mvn ?_;refine va ?_
 obtain ⟨x1,g1,h⟩:=bnd h
 refine Tt g1 IP ?_ F4 Af CX
 refine aso ?_;refine rk [1,2,6,7] ?_;refine .sr ?_;refine mvo ?_;refine va ?_;refine va ?_
 obtain ⟨x2,g2,h⟩:=bnd h
 obtain ⟨n2,p02,q2⟩:=Ae g2
 refine ixr (off:=0) (len:=(Is x1).length) n2 p02 (by rw [Af];exact (lS.1 q2).1) ?_ A2 (by decide)
 refine Mu (F:=Is) (D:=fun x=>.i .i64 x) FY (us:=x1) (n:=n2) (m:=Int.toNat a1) (x:=a2) (by rw [p02];rfl) ⟨_,by rw [Nat.zero_add];exact A6 q2,rfl⟩ ?_ Dh
 refine RL.gk [1,2,6,7,11,12,13] ?_;refine rk [6,7] ?_;refine .sr ?_;refine fz (p:=.t 7) ?_;refine va ?_;refine ar [6] ?_;refine .ret ?_
 cases h
 exact ⟨rfl,rfl⟩
def CZ (a0:(List Int)) (a1:(List Int)) (K0:Int→Option (Int)) : Nat→Int→Int→Option (Int)
 | 0,_,_=>none
 | k+1,s2,s3=>(if s3<((List.length a0:Nat):Int) then ((rd? a0 s3).bind fun x4=>((rd? a1 s3).bind fun x5=>(CZ a0 a1 K0 k (w64 ((w64 (s2 * x4))+x5)) (w64 (s3+1))))) else (K0 s2))
def Eh (a0:(List Int)) (a1:(List Int)) : Option (Int):=(jn (fun (z1:Int)=>(some (z1))) fun K0=>(CZ a0 a1 K0 Aw 0 0))
theorem IG {a0:(List Int)} {a1:(List Int)} {r:Int} (h:Eh a0 a1=some r) :
  Fn Tryz.prog 52 [.sl (Is a0),.sl (Is a1)] (.d (.i .i64 r)):=by
 unfold Eh at h
 refine Fn.o1 4 25 Tryz.func52 ?_;refine .sr ?_;refine ar [0,1,4] ?_;refine .sr ?_;refine ar [0,1,4,5] ?_;refine .seq ?_;refine .sr ?_;refine ar [0,1,4,5,6] ?_
 obtain ⟨K0,hK0,h⟩:=AF h
 refine AW.mr (σ:=Int) (fun p=>K0 p=some r) (fun p=>[(4,.d (.i .i64 0)),(5,.d (.i .i64 p))]) (fun p=>[]) ?_ ?_
 ·skip
  refine .block ?_
  refine .loop (.gk [0,1,4,5,6] ?_)
  refine AL.ind (σ:=Nat×Int×Int) (m:=fun p=>p.1) (e:=fun p=>[(0,.d (.sl (Is a0))),(1,.d (.sl (Is a1))),(4,.d (.i .i64 0)),(5,.d (.i .i64 p.2.1)),(6,.d (.i .i64 p.2.2))]) (h:=fun p=>[]) (I:=fun p=>CZ a0 a1 K0 p.1 p.2.1 p.2.2=some r) ?_ (Aw,0,0) h
  rintro ⟨k,s2,s3⟩ h ih
  dsimp only at h ih ⊢
  rcases k with _|k
  ·rw [CZ] at h;cases h
  rw [CZ] at h
  refine .seq ?_;refine .sr ?_;refine va ?_;refine va ?_;refine vk (A9 (Af _) (BO _) BL) ?_;refine vb ?_;refine rk [0,1,4,5,6,10] ?_
  rcases brc h with ⟨hc,h⟩|⟨hc,h⟩
  ·refine cnt (dT hc) ?_
   refine .sk ?_;refine .seq ?_;refine .block ?_;refine .drawn 11 Bw (by kernel_rfl) ?_;refine dv Ah ?_;refine dv Ah ?_;refine dv Ah ?_
   obtain ⟨x4,g4,h⟩:=bnd h
   obtain ⟨n4,p04,q4⟩:=Ae g4
   refine dv (vix n4 p04 (A6 q4) rfl A2) ?_;refine dv (Ai AA) ?_;refine dv vbi ?_;refine dv Ah ?_;refine dv Ah ?_
   obtain ⟨x5,g5,h⟩:=bnd h
   obtain ⟨n5,p05,q5⟩:=Ae g5
   refine dv (vix n5 p05 (A6 q5) rfl A2) ?_;refine dv (Ai AA) ?_;refine dv vbi ?_;refine dz ?_;refine asd ?_;refine .nil ?_;refine aw ?_;refine .gk [0,1,4,5,6] ?_;refine .region ?_;refine va ?_;refine vb ?_;refine asd ?_;refine .nil ?_;refine AL.gk [0,1,4,5,6] ?_
   exact ih (k,(w64 ((w64 (s2 * x4))+x5)),(w64 (s3+1))) h (Nat.lt_succ_self _)
  refine cnf (dF hc) ?_;refine .gk [4,5] ?_;refine .exit ?_
  exact jr (s2) h
 rintro z1 h
 try dsimp only at h ⊢
 subst hK0
 refine aw ?_;refine .sr ?_;refine va ?_;refine ar [4] ?_;refine .ret ?_
 cases h
 exact ⟨rfl,rfl⟩
def BQ (a0:(List Int)) (K0:(List Int)→Option ((List Int))) : Nat→Int→(List Int)→Int→Option ((List Int))
 | 0,_,_,_=>none
 | k+1,s3,s4,s5=>(if 0≤s5 then ((rd? a0 s5).bind fun x6=>((E5 (x6≠0)).bind fun x7=>((rd? s4 s5).bind fun x8=>((rd? a0 s5).bind fun x9=>((E5 (x9≠0)).bind fun x10=>(BQ a0 K0 k (w64 (Int.tdiv s3 x9)) (List.set s4 (Int.toNat s5) (Int.tmod s3 x6)) (w64 (s5-1)))))))) else (K0 s4))
def D4 (a0:(List Int)) (a1:Int) : Option ((List Int)):=((E5 (0≤((List.length a0:Nat) : Int)∧((List.length a0:Nat) : Int)≤17592186044416)).bind fun x1=>(jn (fun (z2:(List Int))=>(some (z2))) fun K0=>(BQ a0 K0 Aw a1 (List.replicate (Int.toNat ((List.length a0:Nat) : Int)) (0:Int)) (w64 (((List.length a0:Nat) : Int)-1)))))
theorem HC {a0:(List Int)} {a1:Int} {r:(List Int)} (h:D4 a0 a1=some r) :
  Fn Tryz.prog 51 [.sl (Is a0),.i .i64 a1] (.own 3 (Is r)):=by
 unfold D4 at h
 refine Fn.o1 4 33 Tryz.func51 ?_;refine .sr ?_;refine asn ?_;refine rk [0,1,4] ?_;refine .sr ?_;refine va ?_;refine vk (A9 (Af _) (BO _) BL) ?_
 obtain ⟨x1,g1,h⟩:=bnd h
 have ghx1:=EP g1
 refine mk' (F:=Is) (x0:=0) (zl:=((List.length a0:Nat):Int)) (Int.toNat ((List.length a0:Nat):Int)) J4 (by omega) (by omega) ?_ CX (by decide)
 refine aso ?_;refine rk [0,1,4,5] ?_;refine .seq ?_;refine .sr ?_;refine va ?_;refine vk (A9 (Af _) (BO _) BL) ?_;refine vb ?_;refine ar [0,1,4,5,6] ?_
 obtain ⟨K0,hK0,h⟩:=AF h
 refine AW.mr (σ:=(List Int)) (fun p=>K0 p=some r) (fun p=>[(4,.nl),(5,.own 3 (Is p))]) (fun p=>[]) ?_ ?_
 ·skip
  refine .block ?_
  refine .loop (.gk [0,1,4,5,6] ?_)
  refine AL.ind (σ:=Nat×Int×(List Int)×Int) (m:=fun p=>p.1) (e:=fun p=>[(0,.d (.sl (Is a0))),(1,.d (.i .i64 p.2.1)),(4,.nl),(5,.own 3 (Is p.2.2.1)),(6,.d (.i .i64 p.2.2.2))]) (h:=fun p=>[]) (I:=fun p=>BQ a0 K0 p.1 p.2.1 p.2.2.1 p.2.2.2=some r) ?_ (Aw,a1,(List.replicate (Int.toNat ((List.length a0:Nat):Int)) (0:Int)),(w64 (((List.length a0:Nat):Int)-1))) h
  rintro ⟨k,s3,s4,s5⟩ h ih
  dsimp only at h ih ⊢
  rcases k with _|k
  ·rw [BQ] at h;cases h
  rw [BQ] at h
  refine .seq ?_;refine .sr ?_;refine va ?_;refine vb ?_;refine rk [0,1,4,5,6,14] ?_
  rcases brc h with ⟨hc,h⟩|⟨hc,h⟩
  ·refine cnt (dT hc) ?_
   refine .sk ?_;refine .seq ?_;refine .block ?_;refine .sr ?_;refine mvo ?_;refine va ?_;refine va ?_;refine va ?_;refine va ?_
   obtain ⟨x6,g6,h⟩:=bnd h
   obtain ⟨n6,p06,q6⟩:=Ae g6
   refine vk (vix n6 p06 (A6 q6) rfl A2) ?_;refine vk (Ai AA) ?_
   obtain ⟨x7,g7,h⟩:=bnd h
   refine vk (NK (EP g7)) ?_
   obtain ⟨x8,g8,h⟩:=bnd h
   obtain ⟨n8,p08,q8⟩:=Ae g8
   refine ixr (off:=0) (len:=(Is s4).length) n8 p08 (by rw [Af];exact (lS.1 q8).1) ?_ A2 (by decide)
   refine Mu (F:=Is) (D:=fun x=>.i .i64 x) FY (us:=s4) (n:=n8) (m:=Int.toNat s5) (x:=(Int.tmod s3 x6)) (by rw [p08];rfl) ⟨_,by rw [Nat.zero_add];exact A6 q8,rfl⟩ ?_ Dh
   refine RL.gk [0,1,4,5,6,14,17,18,19,20,21,22,23,24] ?_;refine rk [0,1,4,5,6] ?_;refine .region ?_;refine va ?_;refine va ?_;refine va ?_
   obtain ⟨x9,g9,h⟩:=bnd h
   obtain ⟨n9,p09,q9⟩:=Ae g9
   refine vk (vix n9 p09 (A6 q9) rfl A2) ?_;refine vk (Ai AA) ?_
   obtain ⟨x10,g10,h⟩:=bnd h
   refine vk (NK (EP g10)) ?_;refine asd ?_;refine .nil ?_;refine aw ?_;refine .gk [0,1,4,5,6] ?_;refine .region ?_;refine va ?_;refine vb ?_;refine asd ?_;refine .nil ?_;refine AL.gk [0,1,4,5,6] ?_
   exact ih (k,(w64 (Int.tdiv s3 x9)),(List.set s4 (Int.toNat s5) (Int.tmod s3 x6)),(w64 (s5-1))) h (Nat.lt_succ_self _)
  refine cnf (dF hc) ?_;refine .gk [4,5] ?_;refine .exit ?_
  exact jr (s4) h
 rintro z2 h
 try dsimp only at h ⊢
 subst hK0
 refine aw ?_;refine .sr ?_;refine Y7 ?_;refine aso ?_;refine rk [4] ?_;refine .ret ?_
 cases h
 exact ⟨rfl,rfl⟩
def Cw (a0:Arr) (a1:Int) (a2:(List Int)) (x1:(List Int)) (x2:Int×Int) (K0:(List Itm)→Option (Arr×Int)) : Nat→(List Itm)→Int→Option (Arr×Int)
 | 0,_,_=>none
 | k+1,s4,s5=>(if s5<x2.1 then (jn (fun (z6:(List Itm))=>(Cw a0 a1 a2 x1 x2 K0 k z6 (w64 (s5+1)))) fun K2=>((D4 x1 s5).bind fun x7=>((rd? x7 a1).bind fun x8=>((rd? a2 x8).bind fun x9=>(if x9<0 then ((En a0).bind fun x10=>((ap? 1466015503701 s4 [x10]).bind fun x11=>(K2 x11))) else ((rd? x7 a1).bind fun x12=>((rd? a2 x12).bind fun x13=>((rd? x7 a1).bind fun x14=>((Eh a0.shape (List.set x7 (Int.toNat a1) x13)).bind fun x15=>((rd? a0.items x15).bind fun x16=>((ap? 1466015503701 s4 [x16]).bind fun x17=>(K2 x17)))))))))))) else (K0 s4))
def E4 (a0:Arr) (a1:Int) (a2:(List Int)) : Option (Arr×Int):=((Gm a0.shape a1 ((List.length a2:Nat) : Int)).bind fun x1=>((DQ x1).bind fun x2=>(if x2.2=0 then (jn (fun (z3:(List Itm))=>(jn (fun (z18:(List Itm))=>((DY x1 z18).bind fun x20=>(some (x20.1,x20.2)))) fun K3=>(if x2.1=0 then ((En a0).bind fun x19=>(K3 ([x19]))) else (K3 z3)))) fun K0=>(Cw a0 a1 a2 x1 x2 K0 Aw [] 0)) else (some ((Arr.mk [] []),x2.2)))))
theorem NL {a0:Arr} {a1:Int} {a2:(List Int)} {r:Arr×Int} (h:E4 a0 a1 a2=some r) :
  Fn Tryz.prog 50 [.ag [.sl (Is a0.shape),.sl (Its a0.items)],.i .i64 a1,.sl (Is a2)] (.tup [.d (.ag [.sl (Is r.1.shape),.sl (Its r.1.items)]),.d (.i .i64 r.2)]):=by
 unfold E4 at h
 refine Fn.ofC (rs:=[.cell 6 30,.tmp 7]) (nt:=81) Tryz.func50 rfl rfl rfl (by simp) rfl ?_;refine .sr ?_;refine vk vbx ?_;refine vk (van (Aj AD) AI) ?_;refine ar [1,2,3,6,7] ?_;refine .sr ?_;refine vk (vfa Ay) ?_;refine vk (Ai Bh) ?_;refine va ?_;refine va ?_;refine vk (A9 (Af _) (BO _) BL) ?_
 obtain ⟨x1,g1,h⟩:=bnd h
 refine vk (Ak (N4 g1) Tryz.call94) ?_;refine ar [1,2,3,6,7,8] ?_;refine .sr ?_;refine va ?_
 obtain ⟨x2,g2,h⟩:=bnd h
 refine vk (VOK.tupd (vs:=[.i .i64 x2.1,.i .i64 x2.2]) (Ak (FF g2) Tryz.call46)) ?_;refine va ?_;refine vk vex ?_;refine vk vex ?_;refine asd ?_;refine ar [1,2,3,6,7,8,9,10] ?_;refine .seq ?_;refine .sr ?_;refine va ?_;refine vb ?_;refine rk [1,2,3,6,7,8,9,10,26] ?_
 rcases brc h with ⟨hc,h⟩|⟨hc,h⟩
 ·refine cnf (ntf (dT hc)) ?_
  refine .sk ?_;refine .sr ?_;refine asn ?_;refine rk [1,2,3,6,7,8,9,11] ?_;refine .seq ?_;refine .sr ?_;refine ar [1,2,3,6,7,8,9,11,12] ?_
  obtain ⟨K0,hK0,h⟩:=AF h
  refine AW.mr (σ:=(List Itm)) (fun p=>K0 p=some r) (fun p=>[(3,.d (.ptr [.sl (Is a0.shape),.sl (Its a0.items)])),(6,.nb [.sl (Is []),.sl (Its [])]),(7,.d (.i .i64 0)),(8,.d (.sl (Is x1))),(9,.d (.i .i64 x2.1)),(11,.own 42 (Its p))]) (fun p=>[]) ?_ ?_
  ·skip
   refine .block ?_;refine .gh (Gh.nlOwn (t:=11) 42 (by rw [G8];decide) rfl) ?_
   refine .loop (.gk [1,2,3,6,7,8,9,11,12] ?_)
   refine AL.ind (σ:=Nat×(List Itm)×Int) (m:=fun p=>p.1) (e:=fun p=>[(1,.d (.i .i64 a1)),(2,.d (.sl (Is a2))),(3,.d (.ptr [.sl (Is a0.shape),.sl (Its a0.items)])),(6,.nb [.sl (Is []),.sl (Its [])]),(7,.d (.i .i64 0)),(8,.d (.sl (Is x1))),(9,.d (.i .i64 x2.1)),(11,.own 42 (Its p.2.1)),(12,.d (.i .i64 p.2.2))]) (h:=fun p=>[]) (I:=fun p=>Cw a0 a1 a2 x1 x2 K0 p.1 p.2.1 p.2.2=some r) ?_ (Aw,[],0) h
   rintro ⟨k,s4,s5⟩ h ih
   dsimp only at h ih ⊢
   rcases k with _|k
   ·rw [Cw] at h;cases h
   rw [Cw] at h
   refine .seq ?_;refine .sr ?_;refine va ?_;refine va ?_;refine vb ?_;refine rk [1,2,3,6,7,8,9,11,12,31] ?_
   rcases brc h with ⟨hc,h⟩|⟨hc,h⟩
   ·refine cnt (dT hc) ?_
    refine .sk ?_
    obtain ⟨K2,hK2,h⟩:=AF h
    refine AW.mj (σ:=(List Itm)) (fun p=>K2 p=some r) (fun p=>[(1,.d (.i .i64 a1)),(2,.d (.sl (Is a2))),(3,.d (.ptr [.sl (Is a0.shape),.sl (Its a0.items)])),(6,.nb [.sl (Is []),.sl (Its [])]),(7,.d (.i .i64 0)),(8,.d (.sl (Is x1))),(9,.d (.i .i64 x2.1)),(11,.own 42 (Its p)),(12,.d (.i .i64 s5))]) (fun p=>[]) ?_ ?_
    ·skip
     refine .block ?_;refine .sr ?_;refine va ?_;refine va ?_
     obtain ⟨x7,g7,h⟩:=bnd h
     refine vk (Ak (HC g7) Tryz.call51) ?_;refine aso ?_;refine rk [1,2,3,6,7,8,9,11,12,13] ?_;refine .seq ?_;refine .sr ?_;refine va ?_;refine mvo ?_;refine va ?_
     obtain ⟨x8,g8,h⟩:=bnd h
     obtain ⟨n8,p08,q8⟩:=Ae g8
     refine ixr (off:=0) (len:=(Is x7).length) n8 p08 (by rw [Af];exact (lS.1 q8).1) ?_ A2 (by decide)
     refine vk (Q4 (i:=0+n8) (j:=0) (xs:=Is x7) (.i .i64 x8) ⟨_,by rw [Nat.zero_add];exact A6 q8,rfl⟩ AA) ?_
     obtain ⟨x9,g9,h⟩:=bnd h
     obtain ⟨n9,p09,q9⟩:=Ae g9
     refine vk (vix n9 p09 (A6 q9) rfl A2) ?_;refine vk (Ai AA) ?_;refine vb ?_;refine rk [1,2,3,6,7,8,9,11,12,13,44] ?_
     rcases brc h with ⟨hc,h⟩|⟨hc,h⟩
     ·refine cnt (dT hc) ?_
      refine .sr ?_;refine mvo ?_;refine vk (AC Ac Aa) ?_
      obtain ⟨x10,g10,h⟩:=bnd h
      refine vk (Ak (GA g10) Tryz.call53) ?_;refine vk ((C6 (Cz x10) (BW [x10]) BA).deep) ?_
      obtain ⟨x11,g11,h⟩:=bnd h
      refine N8 Ew g11 Fk ?_ Ee Aq BA
      refine aso ?_;refine rk [1,2,3,6,7,8,9,11,12,13] ?_;refine .gk [1,2,3,6,7,8,9,11,12] ?_;refine .exit ?_
      exact jr (x11) h
     refine cnf (dF hc) ?_;refine .sk ?_;refine .sr ?_;refine mvo ?_;refine va ?_;refine va ?_;refine mvo ?_;refine va ?_
     obtain ⟨x12,g12,h⟩:=bnd h
     obtain ⟨n12,p012,q12⟩:=Ae g12
     refine ixr (off:=0) (len:=(Is x7).length) n12 p012 (by rw [Af];exact (lS.1 q12).1) ?_ A2 (by decide)
     refine vk (Q4 (i:=0+n12) (j:=0) (xs:=Is x7) (.i .i64 x12) ⟨_,by rw [Nat.zero_add];exact A6 q12,rfl⟩ AA) ?_
     obtain ⟨x13,g13,h⟩:=bnd h
     obtain ⟨n13,p013,q13⟩:=Ae g13
     refine vk (vix n13 p013 (A6 q13) rfl A2) ?_;refine vk (Ai AA) ?_
     obtain ⟨x14,g14,h⟩:=bnd h
     obtain ⟨n14,p014,q14⟩:=Ae g14
     refine ixr (off:=0) (len:=(Is x7).length) n14 p014 (by rw [Af];exact (lS.1 q14).1) ?_ A2 (by decide)
     refine Mu (F:=Is) (D:=fun x=>.i .i64 x) FY (us:=x7) (n:=n14) (m:=Int.toNat a1) (x:=x13) (by rw [p014];rfl) ⟨_,by rw [Nat.zero_add];exact A6 q14,rfl⟩ ?_ Dh
     refine RL.gk [1,2,3,6,7,8,9,11,12,13,44,50,51,52,53,54,56,57,58] ?_;refine rk [1,2,3,6,7,8,9,11,12,13] ?_;refine .gh (Gh.frz (p:=.t 13) rfl (by (intro _ _ h;cases h<;>decide))) ?_;refine .drawn 10 Bw (by kernel_rfl) ?_;refine dv Nr ?_;refine dv (vfa Au) ?_;refine dv (Ai Bp) ?_;refine dv (vfa Ay) ?_;refine dv (Ai Bh) ?_;refine dv Ah ?_
     obtain ⟨x15,g15,h⟩:=bnd h
     refine dv (Ak (IG g15) Tryz.call52) ?_
     obtain ⟨x16,g16,h⟩:=bnd h
     obtain ⟨n16,p016,q16⟩:=Ae g16
     refine dv (vix n16 p016 (CJ q16) rfl CL) ?_;refine dv (AC AJ An) ?_;refine dv ((C6 (Cz x16) (BW [x16]) BA).deep) ?_;refine dz ?_
     obtain ⟨x17,g17,h⟩:=bnd h
     refine N8 Ew g17 Fk ?_ Ee Aq BA
     refine aso ?_;refine RL.gk [1,2,3,6,7,8,9,11,12] ?_;refine .nil ?_
     exact jr (x17) h
    rintro z6 h
    try dsimp only at h ⊢
    subst hK2
    refine .region ?_;refine va ?_;refine vb ?_;refine asd ?_;refine .nil ?_;refine AL.gk [1,2,3,6,7,8,9,11,12] ?_
    exact ih (k,z6,(w64 (s5+1))) h (Nat.lt_succ_self _)
   refine cnf (dF hc) ?_;refine .gk [3,6,7,8,9,11] ?_;refine .exit ?_
   exact jr (s4) h
  rintro z3 h
  try dsimp only at h ⊢
  subst hK0
  refine aw ?_;refine .seq ?_;refine .sr ?_;refine va ?_;refine vb ?_;refine rk [3,6,7,8,11,72] ?_
  obtain ⟨K3,hK3,h⟩:=AF h
  refine AW.mr (σ:=(List Itm)) (fun p=>K3 p=some r) (fun p=>[(6,.nb [.sl (Is []),.sl (Its [])]),(7,.d (.i .i64 0)),(8,.d (.sl (Is x1))),(11,.own 42 (Its p))]) (fun p=>[]) ?_ ?_
  ·skip
   rcases brc h with ⟨hc,h⟩|⟨hc,h⟩
   ·refine cnt (dT hc) ?_
    refine .region ?_;refine vk (AC Ac Aa) ?_
    obtain ⟨x19,g19,h⟩:=bnd h
    refine vk (Ak (GA g19) Tryz.call53) ?_;refine vk (C6 (Cz x19) (BW [x19]) BA) ?_;refine RL.gk [3,6,7,8,72,73,74,75] ?_;refine aso ?_;refine RL.gk [6,7,8,11] ?_;refine .nil ?_
    exact jr ([x19]) h
   refine cnf (dF hc) ?_;refine .gk [6,7,8,11] ?_;refine .skip ?_
   exact jr (z3) h
  rintro z18 h
  try dsimp only at h ⊢
  subst hK3
  refine aw ?_;refine .sr ?_;refine va ?_;refine fz (p:=.t 11) ?_;refine va ?_
  obtain ⟨x20,g20,h⟩:=bnd h
  refine vk (VOK.tupd (vs:=[.ag [.sl (Is x20.1.shape),.sl (Its x20.1.items)],.i .i64 x20.2]) (Ak (Ha g20) Tryz.call18)) ?_;refine vk vex ?_;refine vk vex ?_
  refine stn ?_ Aa (by decide)
  refine ar [6,7] ?_;refine .ret ?_
  cases h
  exact ⟨_,_,⟨.inr rfl,Ac,Aa,p2⟩,rfl,rfl⟩
 refine cnt (ntt (dF hc)) ?_;refine .sr ?_;refine vk (vbd CF AD AI) ?_;refine va ?_
 refine stn ?_ Aa (by decide)
 refine ar [1,2,3,6,7,8,9] ?_;refine .ret ?_
 cases h
 exact ⟨_,_,⟨.inr rfl,Ac,Aa,p2⟩,rfl,rfl⟩
def BH (K0:(List Int)→Option (Arr×Int)) : Nat→(List Int)→Int→Option (Arr×Int)
 | 0,_,_=>none
 | k+1,s3,s4=>(if 0≤s4 then ((ap? 17592186044416 s3 [s4]).bind fun x5=>(BH K0 k x5 (w64 (s4-1)))) else (K0 s3))
def CW (a0:Arr) (a1:Int) : Option (Arr×Int):=((rd? a0.shape a1).bind fun x1=>(jn (fun (z2:(List Int))=>((E4 a0 a1 z2).bind fun x6=>(some (x6.1,x6.2)))) fun K0=>(BH K0 Aw [] (w64 (x1-1)))))
theorem KQ {a0:Arr} {a1:Int} {r:Arr×Int} (h:CW a0 a1=some r) :
  Fn Tryz.prog 20 [.ag [.sl (Is a0.shape),.sl (Its a0.items)],.i .i64 a1] (.tup [.d (.ag [.sl (Is r.1.shape),.sl (Its r.1.items)]),.d (.i .i64 r.2)]):=by
 unfold CW at h
 refine Fn.ofC (rs:=[.cell 4 30,.tmp 5]) (nt:=28) Tryz.func20 rfl rfl rfl (by simp) rfl ?_;refine .sr ?_;refine vk vbx ?_;refine vk (van (Aj AD) AI) ?_;refine ar [1,2,4,5] ?_;refine .sr ?_;refine asn ?_;refine rk [1,2,4,5,6] ?_;refine .seq ?_;refine .sr ?_;refine vk (vfa Ay) ?_;refine vk (Ai Bh) ?_;refine va ?_
 obtain ⟨x1,g1,h⟩:=bnd h
 obtain ⟨n1,p01,q1⟩:=Ae g1
 refine vk (vix n1 p01 (A6 q1) rfl A2) ?_;refine vk (Ai AA) ?_;refine vb ?_;refine ar [1,2,4,5,6,7] ?_
 obtain ⟨K0,hK0,h⟩:=AF h
 refine AW.mr (σ:=(List Int)) (fun p=>K0 p=some r) (fun p=>[(1,.d (.i .i64 a1)),(2,.d (.ptr [.sl (Is a0.shape),.sl (Its a0.items)])),(4,.nb [.sl (Is []),.sl (Its [])]),(5,.d (.i .i64 0)),(6,.own 3 (Is p))]) (fun p=>[]) ?_ ?_
 ·skip
  refine .block ?_;refine .gh (Gh.nlOwn (t:=6) 3 (by rw [Dh];decide) rfl) ?_
  refine .loop (.gk [1,2,4,5,6,7] ?_)
  refine AL.ind (σ:=Nat×(List Int)×Int) (m:=fun p=>p.1) (e:=fun p=>[(1,.d (.i .i64 a1)),(2,.d (.ptr [.sl (Is a0.shape),.sl (Its a0.items)])),(4,.nb [.sl (Is []),.sl (Its [])]),(5,.d (.i .i64 0)),(6,.own 3 (Is p.2.1)),(7,.d (.i .i64 p.2.2))]) (h:=fun p=>[]) (I:=fun p=>BH K0 p.1 p.2.1 p.2.2=some r) ?_ (Aw,[],(w64 (x1-1))) h
  rintro ⟨k,s3,s4⟩ h ih
  dsimp only at h ih ⊢
  rcases k with _|k
  ·rw [BH] at h;cases h
  rw [BH] at h
  refine .seq ?_;refine .sr ?_;refine va ?_;refine vb ?_;refine rk [1,2,4,5,6,7,15] ?_
  rcases brc h with ⟨hc,h⟩|⟨hc,h⟩
  ·refine cnt (dT hc) ?_
   refine .sk ?_;refine .seq ?_;refine .block ?_;refine .region ?_;refine mvo ?_;refine va ?_;refine vk ((Lp (Eu [s4]) CX).deep) ?_
   obtain ⟨x5,g5,h⟩:=bnd h
   refine N8 J1 g5 IP ?_ F4 Af CX
   refine aso ?_;refine .nil ?_;refine aw ?_;refine .gk [1,2,4,5,6,7] ?_;refine .region ?_;refine va ?_;refine vb ?_;refine asd ?_;refine .nil ?_;refine AL.gk [1,2,4,5,6,7] ?_
   exact ih (k,x5,(w64 (s4-1))) h (Nat.lt_succ_self _)
  refine cnf (dF hc) ?_;refine .gk [1,2,4,5,6] ?_;refine .exit ?_
  exact jr (s3) h
 rintro z2 h
 try dsimp only at h ⊢
 subst hK0
 refine aw ?_;refine .sr ?_;refine vk (AC Ac Aa) ?_;refine va ?_;refine fz (p:=.t 6) ?_;refine va ?_
 obtain ⟨x6,g6,h⟩:=bnd h
 refine vk (VOK.tupd (vs:=[.ag [.sl (Is x6.1.shape),.sl (Its x6.1.items)],.i .i64 x6.2]) (Ak (NL g6) Tryz.call50)) ?_;refine vk vex ?_;refine vk vex ?_
 refine stn ?_ Aa (by decide)
 refine ar [4,5] ?_;refine .ret ?_
 cases h
 exact ⟨_,_,⟨.inr rfl,Ac,Aa,p2⟩,rfl,rfl⟩
def E3 (a0:Arr) (a1:Bool) : Option (Int):=(if a1=true then (some (0)) else (some ((w64 (((List.length a0.shape:Nat) : Int)-1)))))
theorem Pe {a0:Arr} {a1:Bool} {r:Int} (h:E3 a0 a1=some r) :
  Fn Tryz.prog 21 [.ag [.sl (Is a0.shape),.sl (Its a0.items)],.b a1] (.d (.i .i64 r)):=by
 unfold E3 at h
 refine Fn.o1 4 10 Tryz.func21 ?_;refine .sr ?_;refine vk vbx ?_;refine ar [1,2,4] ?_;refine .seq ?_;refine .sr ?_;refine va ?_;refine rk [2,4,5] ?_
 rcases brc h with ⟨hc,h⟩|⟨hc,h⟩
 ·refine cnt hc ?_
  refine .sr ?_;refine ar [2,4] ?_;refine .ret ?_
  cases h
  exact ⟨rfl,rfl⟩
 refine cnf (bf hc) ?_;refine .sk ?_;refine .sr ?_;refine vk (vfa Ay) ?_;refine vk (Ai Bh) ?_;refine vk (A9 (Af _) (BO _) BL) ?_;refine vb ?_;refine ar [4] ?_;refine .ret ?_
 cases h
 exact ⟨rfl,rfl⟩
def BC (a2:Int) (K0:(List Int)→Option (Arr×Int)) : Nat→(List Int)→Int→Option (Arr×Int)
 | 0,_,_=>none
 | k+1,s3,s4=>(if s4<a2 then ((rd? s3 s4).bind fun x5=>(BC a2 K0 k (List.set s3 (Int.toNat s4) 1048576) (w64 (s4+1)))) else (K0 s3))
def BG (a0:Arr) (a1:(List Int)) (K2:(List Int)→Option (Arr×Int)) : Nat→(List Int)→Int→Option (Arr×Int)
 | 0,_,_=>none
 | k+1,s7,s8=>(if s8<((List.length a1:Nat):Int) then (jn (fun (z9:(List Int))=>(BG a0 a1 K2 k z9 (w64 (s8+1)))) fun K4=>((rd? a0.shape s8).bind fun x10=>((rd? a1 s8).bind fun x11=>((rd? s7 x11).bind fun x12=>(if x10<x12 then ((rd? a1 s8).bind fun x13=>((rd? a0.shape s8).bind fun x14=>((rd? s7 x13).bind fun x15=>(K4 (List.set s7 (Int.toNat x13) x14))))) else (K4 s7)))))) else (K2 s7))
def BD (a1:(List Int)) (x22:(List Int)) (K8:(List Int)→Option (Arr×Int)) : Nat→(List Int)→Int→Option (Arr×Int)
 | 0,_,_=>none
 | k+1,s25,s26=>(if s26<((List.length a1:Nat):Int) then ((rd? a1 s26).bind fun x27=>((rd? x22 x27).bind fun x28=>((rd? s25 s26).bind fun x29=>(BD a1 x22 K8 k (List.set s25 (Int.toNat s26) x28) (w64 (s26+1)))))) else (K8 s25))
def Bl (a0:Arr) (a1:(List Int)) (z6:(List Int)) (K5:(List Int)→(List Itm)→Option (Arr×Int)) : Nat→(List Itm)→Int→Option (Arr×Int)
 | 0,_,_=>none
 | k+1,s18,s19=>((ET z6).bind fun x20=>(if s19<x20 then (jn (fun (z21:(List Itm))=>(Bl a0 a1 z6 K5 k z21 (w64 (s19+1)))) fun K7=>((D4 z6 s19).bind fun x22=>((E5 (0≤((List.length a1:Nat):Int)∧((List.length a1:Nat):Int)≤17592186044416)).bind fun x23=>(jn (fun (z24:(List Int))=>((Eh a0.shape z24).bind fun x30=>((rd? a0.items x30).bind fun x31=>((ap? 1466015503701 s18 [x31]).bind fun x32=>(K7 x32))))) fun K8=>(BD a1 x22 K8 Aw (List.replicate (Int.toNat ((List.length a1:Nat):Int)) (0:Int)) 0))))) else (K5 z6 s18)))
def CU (a0:Arr) (a1:(List Int)) (a2:Int) : Option (Arr×Int):=((E5 (0≤a2∧a2≤17592186044416)).bind fun x1=>(jn (fun (z2:(List Int))=>(jn (fun (z6:(List Int))=>(jn (fun (z16:(List Int)) (z17:(List Itm))=>(jn (fun (z33:(List Itm))=>((DY z16 z33).bind fun x35=>(some (x35.1,x35.2)))) fun K10=>(if ((List.length z17:Nat) : Int)=0 then ((En a0).bind fun x34=>(K10 ([x34]))) else (K10 z17)))) fun K5=>(Bl a0 a1 z6 K5 Aw [] 0))) fun K2=>(BG a0 a1 K2 Aw z2 0))) fun K0=>(BC a2 K0 Aw (List.replicate (Int.toNat a2) (0:Int)) 0)))
set_option maxHeartbeats 4000000 in
theorem Jv {a0:Arr} {a1:(List Int)} {a2:Int} {r:Arr×Int} (h:CU a0 a1 a2=some r) :
  Fn Tryz.prog 22 [.ag [.sl (Is a0.shape),.sl (Its a0.items)],.sl (Is a1),.i .i64 a2] (.tup [.d (.ag [.sl (Is r.1.shape),.sl (Its r.1.items)]),.d (.i .i64 r.2)]):=by
 unfold CU at h
 refine Fn.ofC (rs:=[.cell 6 30,.tmp 7]) (nt:=106) Tryz.func22 rfl rfl rfl (by simp) rfl ?_;refine .sr ?_;refine vk vbx ?_;refine vk (van (Aj AD) AI) ?_;refine ar [1,2,3,6,7] ?_;refine .sr ?_;refine va ?_
 obtain ⟨x1,g1,h⟩:=bnd h
 have ghx1:=EP g1
 refine mk' (F:=Is) (x0:=0) (zl:=a2) (Int.toNat a2) J4 (by omega) (by omega) ?_ CX (by decide)
 refine aso ?_;refine rk [1,2,3,6,7,8] ?_;refine .seq ?_;refine .sr ?_;refine ar [1,2,3,6,7,8,9] ?_
 obtain ⟨K0,hK0,h⟩:=AF h
 refine AW.mr (σ:=(List Int)) (fun p=>K0 p=some r) (fun p=>[(1,.d (.sl (Is a1))),(3,.d (.ptr [.sl (Is a0.shape),.sl (Its a0.items)])),(6,.nb [.sl (Is []),.sl (Its [])]),(7,.d (.i .i64 0)),(8,.own 3 (Is p))]) (fun p=>[]) ?_ ?_
 ·skip
  refine .block ?_
  refine .loop (.gk [1,2,3,6,7,8,9] ?_)
  refine AL.ind (σ:=Nat×(List Int)×Int) (m:=fun p=>p.1) (e:=fun p=>[(1,.d (.sl (Is a1))),(2,.d (.i .i64 a2)),(3,.d (.ptr [.sl (Is a0.shape),.sl (Its a0.items)])),(6,.nb [.sl (Is []),.sl (Its [])]),(7,.d (.i .i64 0)),(8,.own 3 (Is p.2.1)),(9,.d (.i .i64 p.2.2))]) (h:=fun p=>[]) (I:=fun p=>BC a2 K0 p.1 p.2.1 p.2.2=some r) ?_ (Aw,(List.replicate (Int.toNat a2) (0:Int)),0) h
  rintro ⟨k,s3,s4⟩ h ih
  dsimp only at h ih ⊢
  rcases k with _|k
  ·rw [BC] at h;cases h
  rw [BC] at h
  refine .seq ?_;refine .sr ?_;refine va ?_;refine va ?_;refine vb ?_;refine rk [1,2,3,6,7,8,9,20] ?_
  rcases brc h with ⟨hc,h⟩|⟨hc,h⟩
  ·refine cnt (dT hc) ?_
   refine .sk ?_;refine .seq ?_;refine .block ?_;refine .region ?_;refine mvo ?_;refine va ?_
   obtain ⟨x5,g5,h⟩:=bnd h
   obtain ⟨n5,p05,q5⟩:=Ae g5
   refine ixr (off:=0) (len:=(Is s3).length) n5 p05 (by rw [Af];exact (lS.1 q5).1) ?_ A2 (by decide)
   refine Mu (F:=Is) (D:=fun x=>.i .i64 x) FY (us:=s3) (n:=n5) (m:=Int.toNat s4) (x:=1048576) (by rw [p05];rfl) ⟨_,by rw [Nat.zero_add];exact A6 q5,rfl⟩ ?_ Dh
   refine RL.gk [1,2,3,6,7,8,9,20,23,24] ?_;refine .nil ?_;refine aw ?_;refine .gk [1,2,3,6,7,8,9] ?_;refine .region ?_;refine va ?_;refine vb ?_;refine asd ?_;refine .nil ?_;refine AL.gk [1,2,3,6,7,8,9] ?_
   exact ih (k,(List.set s3 (Int.toNat s4) 1048576),(w64 (s4+1))) h (Nat.lt_succ_self _)
  refine cnf (dF hc) ?_;refine .gk [1,3,6,7,8] ?_;refine .exit ?_
  exact jr (s3) h
 rintro z2 h
 try dsimp only at h ⊢
 subst hK0
 refine aw ?_;refine .seq ?_;refine .sr ?_;refine ar [1,3,6,7,8,10] ?_
 obtain ⟨K2,hK2,h⟩:=AF h
 refine AW.mr (σ:=(List Int)) (fun p=>K2 p=some r) (fun p=>[(1,.d (.sl (Is a1))),(3,.d (.ptr [.sl (Is a0.shape),.sl (Its a0.items)])),(6,.nb [.sl (Is []),.sl (Its [])]),(7,.d (.i .i64 0)),(8,.own 3 (Is p))]) (fun p=>[]) ?_ ?_
 ·skip
  refine .block ?_
  refine .loop (.gk [1,3,6,7,8,10] ?_)
  refine AL.ind (σ:=Nat×(List Int)×Int) (m:=fun p=>p.1) (e:=fun p=>[(1,.d (.sl (Is a1))),(3,.d (.ptr [.sl (Is a0.shape),.sl (Its a0.items)])),(6,.nb [.sl (Is []),.sl (Its [])]),(7,.d (.i .i64 0)),(8,.own 3 (Is p.2.1)),(10,.d (.i .i64 p.2.2))]) (h:=fun p=>[]) (I:=fun p=>BG a0 a1 K2 p.1 p.2.1 p.2.2=some r) ?_ (Aw,z2,0) h
  rintro ⟨k,s7,s8⟩ h ih
  dsimp only at h ih ⊢
  rcases k with _|k
  ·rw [BG] at h;cases h
  rw [BG] at h
  refine .seq ?_;refine .sr ?_;refine va ?_;refine va ?_;refine vk (A9 (Af _) (BO _) BL) ?_;refine vb ?_;refine rk [1,3,6,7,8,10,29] ?_
  rcases brc h with ⟨hc,h⟩|⟨hc,h⟩
  ·refine cnt (dT hc) ?_
   refine .sk ?_
   obtain ⟨K4,hK4,h⟩:=AF h
   refine AW.mj (σ:=(List Int)) (fun p=>K4 p=some r) (fun p=>[(1,.d (.sl (Is a1))),(3,.d (.ptr [.sl (Is a0.shape),.sl (Its a0.items)])),(6,.nb [.sl (Is []),.sl (Its [])]),(7,.d (.i .i64 0)),(8,.own 3 (Is p)),(10,.d (.i .i64 s8))]) (fun p=>[]) ?_ ?_
   ·skip
    refine .block ?_;refine .seq ?_;refine .drawn 13 Bw (by kernel_rfl) ?_;refine dv (vfa Ay) ?_;refine dv (Ai Bh) ?_;refine dv Ah ?_
    obtain ⟨x10,g10,h⟩:=bnd h
    obtain ⟨n10,p010,q10⟩:=Ae g10
    refine dv (vix n10 p010 (A6 q10) rfl A2) ?_;refine dv (Ai AA) ?_;refine dv Nr ?_;refine dv Ah ?_;refine dv Ah ?_
    obtain ⟨x11,g11,h⟩:=bnd h
    obtain ⟨n11,p011,q11⟩:=Ae g11
    refine dv (vix n11 p011 (A6 q11) rfl A2) ?_;refine dv (Ai AA) ?_
    obtain ⟨x12,g12,h⟩:=bnd h
    obtain ⟨n12,p012,q12⟩:=Ae g12
    refine dv (Oa (off:=0) (len:=(Is s7).length) n12 p012 (by rw [Af];exact (lS.1 q12).1) A2 (by decide)) ?_;refine dv (Q4 (i:=0+n12) (j:=0) (xs:=Is s7) (.i .i64 x12) ⟨_,by rw [Nat.zero_add];exact A6 q12,rfl⟩ AA) ?_;refine dv vbi ?_;refine dz ?_;refine rk [1,3,6,7,8,10,44] ?_
    rcases brc h with ⟨hc,h⟩|⟨hc,h⟩
    ·refine cnt (dT hc) ?_
     refine .drawn 11 Bw (by kernel_rfl) ?_;refine dv Nr ?_;refine dv Ah ?_;refine dv Ah ?_
     obtain ⟨x13,g13,h⟩:=bnd h
     obtain ⟨n13,p013,q13⟩:=Ae g13
     refine dv (vix n13 p013 (A6 q13) rfl A2) ?_;refine dv (Ai AA) ?_;refine dv (vfa Ay) ?_;refine dv (Ai Bh) ?_;refine dv Ah ?_
     obtain ⟨x14,g14,h⟩:=bnd h
     obtain ⟨n14,p014,q14⟩:=Ae g14
     refine dv (vix n14 p014 (A6 q14) rfl A2) ?_;refine dv (Ai AA) ?_
     obtain ⟨x15,g15,h⟩:=bnd h
     obtain ⟨n15,p015,q15⟩:=Ae g15
     refine dv (Oa (off:=0) (len:=(Is s7).length) n15 p015 (by rw [Af];exact (lS.1 q15).1) A2 (by decide)) ?_;refine dz ?_
     refine Mu (F:=Is) (D:=fun x=>.i .i64 x) FY (us:=s7) (n:=n15) (m:=Int.toNat x13) (x:=x14) (by rw [p015];rfl) ⟨_,by rw [Nat.zero_add];exact A6 q15,rfl⟩ ?_ Dh
     refine RL.gk [1,3,6,7,8,10,44,45,46,47,48,49,50,51,52,53,54] ?_;refine RL.gk [1,3,6,7,8,10] ?_;refine .nil ?_
     exact jr ((List.set s7 (Int.toNat x13) x14)) h
    refine cnf (dF hc) ?_;refine .gk [1,3,6,7,8,10] ?_;refine .skip ?_
    exact jr (s7) h
   rintro z9 h
   try dsimp only at h ⊢
   subst hK4
   refine .region ?_;refine va ?_;refine vb ?_;refine asd ?_;refine .nil ?_;refine AL.gk [1,3,6,7,8,10] ?_
   exact ih (k,z9,(w64 (s8+1))) h (Nat.lt_succ_self _)
  refine cnf (dF hc) ?_;refine .gk [1,3,6,7,8] ?_;refine .exit ?_
  exact jr (s7) h
 rintro z6 h
 try dsimp only at h ⊢
 subst hK2
 refine aw ?_;refine .sr ?_;refine asn ?_;refine rk [1,3,6,7,8,11] ?_;refine .seq ?_;refine .sr ?_;refine ar [1,3,6,7,8,11,12] ?_
 obtain ⟨K5,hK5,h⟩:=AF h
 refine AW.mr (σ:=(List Int)×(List Itm)) (fun p=>K5 p.1 p.2=some r) (fun p=>[(3,.d (.ptr [.sl (Is a0.shape),.sl (Its a0.items)])),(6,.nb [.sl (Is []),.sl (Its [])]),(7,.d (.i .i64 0)),(8,.d (.sl (Is p.1))),(11,.own 42 (Its p.2))]) (fun p=>[]) ?_ ?_
 ·skip
  refine .block ?_;refine .gh (Gh.frz (p:=.t 8) rfl (by (intro _ _ h;cases h<;>decide))) ?_;refine .gh (Gh.nlOwn (t:=11) 42 (by rw [G8];decide) rfl) ?_
  refine .loop (.gk [1,3,6,7,8,11,12] ?_)
  refine AL.ind (σ:=Nat×(List Itm)×Int) (m:=fun p=>p.1) (e:=fun p=>[(1,.d (.sl (Is a1))),(3,.d (.ptr [.sl (Is a0.shape),.sl (Its a0.items)])),(6,.nb [.sl (Is []),.sl (Its [])]),(7,.d (.i .i64 0)),(8,.d (.sl (Is z6))),(11,.own 42 (Its p.2.1)),(12,.d (.i .i64 p.2.2))]) (h:=fun p=>[]) (I:=fun p=>Bl a0 a1 z6 K5 p.1 p.2.1 p.2.2=some r) ?_ (Aw,[],0) h
  rintro ⟨k,s18,s19⟩ h ih
  dsimp only at h ih ⊢
  rcases k with _|k
  ·rw [Bl] at h;cases h
  rw [Bl] at h
  refine .seq ?_;refine .sr ?_;refine va ?_;refine va ?_
  obtain ⟨x20,g20,h⟩:=bnd h
  refine vk (Ak (JD g20) Tryz.call19) ?_;refine vb ?_;refine rk [1,3,6,7,8,11,12,59] ?_
  rcases brc h with ⟨hc,h⟩|⟨hc,h⟩
  ·refine cnt (dT hc) ?_
   refine .sk ?_
   obtain ⟨K7,hK7,h⟩:=AF h
   refine AW.mj (σ:=(List Itm)) (fun p=>K7 p=some r) (fun p=>[(1,.d (.sl (Is a1))),(3,.d (.ptr [.sl (Is a0.shape),.sl (Its a0.items)])),(6,.nb [.sl (Is []),.sl (Its [])]),(7,.d (.i .i64 0)),(8,.d (.sl (Is z6))),(11,.own 42 (Its p)),(12,.d (.i .i64 s19))]) (fun p=>[]) ?_ ?_
   ·skip
    refine .block ?_;refine .sr ?_;refine va ?_;refine va ?_
    obtain ⟨x22,g22,h⟩:=bnd h
    refine vk ((Ak (HC g22) Tryz.call51).deep) ?_;refine ar [1,3,6,7,8,11,12,13] ?_;refine .sr ?_;refine va ?_;refine vk (A9 (Af _) (BO _) BL) ?_
    obtain ⟨x23,g23,h⟩:=bnd h
    have ghx23:=EP g23
    refine mk' (F:=Is) (x0:=0) (zl:=((List.length a1:Nat):Int)) (Int.toNat ((List.length a1:Nat):Int)) J4 (by omega) (by omega) ?_ CX (by decide)
    refine aso ?_;refine rk [1,3,6,7,8,11,12,13,14] ?_;refine .seq ?_;refine .sr ?_;refine ar [1,3,6,7,8,11,12,13,14,15] ?_
    obtain ⟨K8,hK8,h⟩:=AF h
    refine AW.mr (σ:=(List Int)) (fun p=>K8 p=some r) (fun p=>[(1,.d (.sl (Is a1))),(3,.d (.ptr [.sl (Is a0.shape),.sl (Its a0.items)])),(6,.nb [.sl (Is []),.sl (Its [])]),(7,.d (.i .i64 0)),(8,.d (.sl (Is z6))),(11,.own 42 (Its s18)),(12,.d (.i .i64 s19)),(14,.own 3 (Is p))]) (fun p=>[]) ?_ ?_
    ·skip
     refine .block ?_
     refine .loop (.gk [1,3,6,7,8,11,12,13,14,15] ?_)
     refine AL.ind (σ:=Nat×(List Int)×Int) (m:=fun p=>p.1) (e:=fun p=>[(1,.d (.sl (Is a1))),(3,.d (.ptr [.sl (Is a0.shape),.sl (Its a0.items)])),(6,.nb [.sl (Is []),.sl (Its [])]),(7,.d (.i .i64 0)),(8,.d (.sl (Is z6))),(11,.own 42 (Its s18)),(12,.d (.i .i64 s19)),(13,.d (.sl (Is x22))),(14,.own 3 (Is p.2.1)),(15,.d (.i .i64 p.2.2))]) (h:=fun p=>[]) (I:=fun p=>BD a1 x22 K8 p.1 p.2.1 p.2.2=some r) ?_ (Aw,(List.replicate (Int.toNat ((List.length a1:Nat):Int)) (0:Int)),0) h
     rintro ⟨k,s25,s26⟩ h ih
     dsimp only at h ih ⊢
     rcases k with _|k
     ·rw [BD] at h;cases h
     rw [BD] at h
     refine .seq ?_;refine .sr ?_;refine va ?_;refine va ?_;refine vk (A9 (Af _) (BO _) BL) ?_;refine vb ?_;refine rk [1,3,6,7,8,11,12,13,14,15,71] ?_
     rcases brc h with ⟨hc,h⟩|⟨hc,h⟩
     ·refine cnt (dT hc) ?_
      refine .sk ?_;refine .seq ?_;refine .block ?_;refine .region ?_;refine mvo ?_;refine va ?_;refine va ?_;refine va ?_;refine va ?_
      obtain ⟨x27,g27,h⟩:=bnd h
      obtain ⟨n27,p027,q27⟩:=Ae g27
      refine vk (vix n27 p027 (A6 q27) rfl A2) ?_;refine vk (Ai AA) ?_
      obtain ⟨x28,g28,h⟩:=bnd h
      obtain ⟨n28,p028,q28⟩:=Ae g28
      refine vk (vix n28 p028 (A6 q28) rfl A2) ?_;refine vk (Ai AA) ?_
      obtain ⟨x29,g29,h⟩:=bnd h
      obtain ⟨n29,p029,q29⟩:=Ae g29
      refine ixr (off:=0) (len:=(Is s25).length) n29 p029 (by rw [Af];exact (lS.1 q29).1) ?_ A2 (by decide)
      refine Mu (F:=Is) (D:=fun x=>.i .i64 x) FY (us:=s25) (n:=n29) (m:=Int.toNat s26) (x:=x28) (by rw [p029];rfl) ⟨_,by rw [Nat.zero_add];exact A6 q29,rfl⟩ ?_ Dh
      refine RL.gk [1,3,6,7,8,11,12,13,14,15,71,74,75,76,77,78,79,80,81,82] ?_;refine .nil ?_;refine aw ?_;refine .gk [1,3,6,7,8,11,12,13,14,15] ?_;refine .region ?_;refine va ?_;refine vb ?_;refine asd ?_;refine .nil ?_;refine AL.gk [1,3,6,7,8,11,12,13,14,15] ?_
      exact ih (k,(List.set s25 (Int.toNat s26) x28),(w64 (s26+1))) h (Nat.lt_succ_self _)
     refine cnf (dF hc) ?_;refine .gk [1,3,6,7,8,11,12,14] ?_;refine .exit ?_
     exact jr (s25) h
    rintro z24 h
    try dsimp only at h ⊢
    subst hK8
    refine aw ?_;refine .gh (Gh.frz (p:=.t 14) rfl (by (intro _ _ h;cases h<;>decide))) ?_;refine .drawn 10 Bw (by kernel_rfl) ?_;refine dv Nr ?_;refine dv (vfa Au) ?_;refine dv (Ai Bp) ?_;refine dv (vfa Ay) ?_;refine dv (Ai Bh) ?_;refine dv Ah ?_
    obtain ⟨x30,g30,h⟩:=bnd h
    refine dv (Ak (IG g30) Tryz.call52) ?_
    obtain ⟨x31,g31,h⟩:=bnd h
    obtain ⟨n31,p031,q31⟩:=Ae g31
    refine dv (vix n31 p031 (CJ q31) rfl CL) ?_;refine dv (AC AJ An) ?_;refine dv ((C6 (Cz x31) (BW [x31]) BA).deep) ?_;refine dz ?_
    obtain ⟨x32,g32,h⟩:=bnd h
    refine N8 Ew g32 Fk ?_ Ee Aq BA
    refine aso ?_;refine RL.gk [1,3,6,7,8,11,12] ?_;refine .nil ?_
    exact jr (x32) h
   rintro z21 h
   try dsimp only at h ⊢
   subst hK7
   refine .region ?_;refine va ?_;refine vb ?_;refine asd ?_;refine .nil ?_;refine AL.gk [1,3,6,7,8,11,12] ?_
   exact ih (k,z21,(w64 (s19+1))) h (Nat.lt_succ_self _)
  refine cnf (dF hc) ?_;refine .gk [3,6,7,8,11] ?_;refine .exit ?_
  exact jr (z6,s18) h
 rintro ⟨z16,z17⟩ h
 try dsimp only at h ⊢
 subst hK5
 refine aw ?_;refine .seq ?_;refine .sr ?_;refine mvo ?_;refine vk (VP (Aq _) Ce) ?_;refine vb ?_;refine rk [3,6,7,8,11,97] ?_
 obtain ⟨K10,hK10,h⟩:=AF h
 refine AW.mr (σ:=(List Itm)) (fun p=>K10 p=some r) (fun p=>[(6,.nb [.sl (Is []),.sl (Its [])]),(7,.d (.i .i64 0)),(8,.d (.sl (Is z16))),(11,.own 42 (Its p))]) (fun p=>[]) ?_ ?_
 ·skip
  rcases brc h with ⟨hc,h⟩|⟨hc,h⟩
  ·refine cnt (dT hc) ?_
   refine .region ?_;refine vk (AC Ac Aa) ?_
   obtain ⟨x34,g34,h⟩:=bnd h
   refine vk (Ak (GA g34) Tryz.call53) ?_;refine vk (C6 (Cz x34) (BW [x34]) BA) ?_;refine RL.gk [3,6,7,8,97,98,99,100] ?_;refine aso ?_;refine RL.gk [6,7,8,11] ?_;refine .nil ?_
   exact jr ([x34]) h
  refine cnf (dF hc) ?_;refine .gk [6,7,8,11] ?_;refine .skip ?_
  exact jr (z17) h
 rintro z33 h
 try dsimp only at h ⊢
 subst hK10
 refine aw ?_;refine .sr ?_;refine va ?_;refine fz (p:=.t 11) ?_;refine va ?_
 obtain ⟨x35,g35,h⟩:=bnd h
 refine vk (VOK.tupd (vs:=[.ag [.sl (Is x35.1.shape),.sl (Its x35.1.items)],.i .i64 x35.2]) (Ak (Ha g35) Tryz.call18)) ?_;refine vk vex ?_;refine vk vex ?_
 refine stn ?_ Aa (by decide)
 refine ar [6,7] ?_;refine .ret ?_
 cases h
 exact ⟨_,_,⟨.inr rfl,Ac,Aa,p2⟩,rfl,rfl⟩
def Ek (a0:Int) (a1:ByteArray) (K0:Bool→Option (Bool)) : Nat→Bool→Nat→Option (Bool)
 | 0,_,_=>none
 | k+1,s2,s3=>(if s3<ByteArray.size a1 then (if (W7 a1 s3)=a0 then (some (true)) else (Ek a0 a1 K0 k s2 (L7 a1 s3))) else (K0 s2))
def Eo (a0:Int) (a1:ByteArray) : Option (Bool):=(jn (fun (z1:Bool)=>(some (false))) fun K0=>(Ek a0 a1 K0 Aw false 0))
theorem Ma {a0:Int} {a1:ByteArray} {r:Bool} (h:Eo a0 a1=some r) :
  Fn Tryz.prog 30 [.i .i32 a0,.s a1] (.d (.b r)):=by
 unfold Eo at h
 refine Fn.o1 4 15 Tryz.func30 ?_;refine .sr ?_;refine ar [0,1,4] ?_;refine .seq ?_;refine .sr ?_;refine va ?_;refine vk (Zk st) ?_;refine rk [0,4,8] ?_
 obtain ⟨K0,hK0,h⟩:=AF h
 refine AW.mr (σ:=Bool) (fun p=>K0 p=some r) (fun p=>[(4,.d (.b p))]) (fun p=>[]) ?_ ?_
 ·skip
  refine .block ?_
  refine .loop (.gk [0,4,8] ?_)
  refine AL.ind (σ:=Nat×Bool×Nat) (m:=fun p=>p.1) (e:=fun p=>[(0,.d (.i .i32 a0)),(4,.d (.b p.2.1)),(8,.it a1 p.2.2)]) (h:=fun p=>[]) (I:=fun p=>Ek a0 a1 K0 p.1 p.2.1 p.2.2=some r) ?_ (Aw,false,0) h
  rintro ⟨k,s2,s3⟩ h ih
  dsimp only at h ih ⊢
  rcases k with _|k
  ·rw [Ek] at h;cases h
  rw [Ek] at h
  refine .sr ?_
  rcases brc h with ⟨hc,h⟩|⟨hc,h⟩
  ·refine nxt ?_ hc
   refine vk vex ?_;refine rk [0,4,8,9,10] ?_;refine .seq ?_;refine B1 ?_;refine .sk ?_;refine .block ?_;refine .sr ?_;refine vk vex ?_;refine ar [0,4,6,8] ?_;refine .sr ?_;refine va ?_;refine va ?_;refine vb ?_;refine rk [0,4,8,14] ?_
   rcases brc h with ⟨hc,h⟩|⟨hc,h⟩
   ·refine cnt (dT hc) ?_
    refine .sr ?_;refine ar [0,4,8] ?_;refine .ret ?_
    cases h
    exact ⟨rfl,rfl⟩
   refine cnf (dF hc) ?_;refine .gk [0,4,8] ?_;refine .skip ?_
   exact ih (k,s2,(L7 a1 s3)) h (Nat.lt_succ_self _)
  refine nxe ?_ hc
  refine vk vex ?_;refine rk [0,4,8,9,10] ?_;refine .seq ?_;refine BZ ?_;refine .gk [4] ?_;refine .exit ?_
  exact jr (s2) h
 rintro z1 h
 try dsimp only at h ⊢
 subst hK0
 refine aw ?_;refine .sr ?_;refine ar [4] ?_;refine .ret ?_
 cases h
 exact ⟨rfl,rfl⟩
def C8 (a0:Int) : Option (Bool):=((Eo a0 (⟨#[226,141,180,44,226,140,189,226,138,150,226,141,137]⟩ : ByteArray)).bind fun x1=>(some (x1)))
theorem Gi {a0:Int} {r:Bool} (h:C8 a0=some r) :
  Fn Tryz.prog 10 [.i .i32 a0] (.d (.b r)):=by
 unfold C8 at h
 refine Fn.o1 2 5 Tryz.func10 ?_;refine .sr ?_;refine ar [0,2] ?_;refine .sr ?_;refine va ?_
 obtain ⟨x1,g1,h⟩:=bnd h
 refine vk (Ak (Ma g1) Tryz.call30) ?_;refine ar [2] ?_;refine .ret ?_
 cases h
 exact ⟨rfl,rfl⟩
def Fd (a0:Int) : Option (Bool):=((Eo a0 (⟨#[226,141,180,44,226,141,170,226,134,145,226,134,147,226,140,189,226,138,150,226,141,137,47,226,140,191,92,226,141,128]⟩ : ByteArray)).bind fun x1=>(some (x1)))
theorem Kc {a0:Int} {r:Bool} (h:Fd a0=some r) :
  Fn Tryz.prog 12 [.i .i32 a0] (.d (.b r)):=by
 unfold Fd at h
 refine Fn.o1 2 5 Tryz.func12 ?_;refine .sr ?_;refine ar [0,2] ?_;refine .sr ?_;refine va ?_
 obtain ⟨x1,g1,h⟩:=bnd h
 refine vk (Ak (Ma g1) Tryz.call30) ?_;refine ar [2] ?_;refine .ret ?_
 cases h
 exact ⟨rfl,rfl⟩
def FP (a0:(Int×RT×Int)) (a1:Arr) (a2:Arr) : Option (Bool):=(Option.bind ((if a0.1=0 then ((BS a1).bind fun x2=>(if x2=true then ((BS a2).bind fun x3=>(some x3)) else (some false))) else (if a0.1=1 then ((BS a1).bind fun x4=>(if x4=true then ((BS a2).bind fun x5=>(some x5)) else (some false))) else (some false))) : Option (Bool)) fun (z1:Bool)=>(some (z1)))
theorem Ng {a0:(Int×RT×Int)} {a1:Arr} {a2:Arr} {r:Bool} (h:FP a0 a1 a2=some r) :
  Fn Tryz.prog 16 [.ag [.i .i64 a0.1,.b a0.2.1.1,.sl (L a0.2.1.2.1),.sl (L a0.2.1.2.2),.i .i64 a0.2.2],.ag [.sl (Is a1.shape),.sl (Its a1.items)],.ag [.sl (Is a2.shape),.sl (Its a2.items)]] (.d (.b r)):=by
 unfold FP at h
 refine Fn.o1 6 23 Tryz.func16 ?_;refine .sr ?_;refine vk vbx ?_;refine vk vbx ?_;refine vk vbx ?_;refine ar [3,4,5,6] ?_;refine .seq ?_
 obtain ⟨z1,hz,h⟩:=bnd h
 refine AW.mr (σ:=Unit) (fun _=>True) (fun _=>[(6,.d (.b z1))]) (fun _=>[]) ?_ ?_
 ·skip
  refine .region ?_;refine vk (vfa MD) ?_;refine vk (Ai AA) ?_;refine vb ?_
  rcases brc hz with ⟨hc,hz⟩|⟨hc,hz⟩
  ·have hb0:(decide (a0.1=0))=true:=(dT hc)
   refine vL hb0 ?_;refine gf3 ?_;refine vk Ag ?_;refine va ?_;refine vk (AC Ac Aa) ?_
   obtain ⟨x2,g2,hz⟩:=bnd hz
   refine vk (Ak (Cu g2) Tryz.call44) ?_;refine vk Ag ?_
   rcases brc hz with ⟨hc,hz⟩|⟨hc,hz⟩
   ·have hb1:x2=true:=hc
    refine vL hb1 ?_;refine vk (AC Ac Aa) ?_
    obtain ⟨x3,g3,hz⟩:=bnd hz
    refine vk (Ak (Cu g3) Tryz.call44) ?_;refine vk Ag ?_;refine asd ?_;refine RL.gk [6] ?_;refine .nil ?_
    cases hz
    exact jr () trivial
   have hb1:x2=false:=(bf hc)
   refine vL hb1 ?_;refine gf2 ?_;refine vk Ag ?_;refine asd ?_;refine RL.gk [6] ?_;refine .nil ?_
   cases hz
   exact jr () trivial
  have hb0:(decide (a0.1=0))=false:=(dF hc)
  refine vL hb0 ?_;refine vk (vfa MD) ?_;refine vk (Ai AA) ?_;refine vb ?_;refine vk Ag ?_
  rcases brc hz with ⟨hc,hz⟩|⟨hc,hz⟩
  ·have hb1:(decide (a0.1=1))=true:=(dT hc)
   refine vL hb1 ?_;refine vk (AC Ac Aa) ?_
   obtain ⟨x4,g4,hz⟩:=bnd hz
   refine vk (Ak (Cu g4) Tryz.call44) ?_;refine vk Ag ?_
   rcases brc hz with ⟨hc,hz⟩|⟨hc,hz⟩
   ·have hb2:x4=true:=hc
    refine vL hb2 ?_;refine vk (AC Ac Aa) ?_
    obtain ⟨x5,g5,hz⟩:=bnd hz
    refine vk (Ak (Cu g5) Tryz.call44) ?_;refine vk Ag ?_;refine asd ?_;refine RL.gk [6] ?_;refine .nil ?_
    cases hz
    exact jr () trivial
   have hb2:x4=false:=(bf hc)
   refine vL hb2 ?_;refine gf2 ?_;refine vk Ag ?_;refine asd ?_;refine RL.gk [6] ?_;refine .nil ?_
   cases hz
   exact jr () trivial
  have hb1:(decide (a0.1=1))=false:=(dF hc)
  refine vL hb1 ?_;refine gf2 ?_;refine vk Ag ?_;refine va ?_;refine gf2 ?_;refine vk Ag ?_;refine asd ?_;refine RL.gk [6] ?_;refine .nil ?_
  cases hz
  exact jr () trivial
 rintro _ _
 refine .ret ?_
 cases h
 exact ⟨rfl,rfl⟩
def Bx (K1:(List Int)→Option (Arr×Int)) : Nat→(List Int)→Int→Option (Arr×Int)
 | 0,_,_=>none
 | k+1,s11,s12=>(if 0≤s12 then ((ap? 17592186044416 s11 [s12]).bind fun x13=>(Bx K1 k x13 (w64 (s12-1)))) else (K1 s11))
def Dv (a0:(Int×RT×Int)) (a1:Int) (a2:Arr) : Option (Arr×Int):=((C8 a1).bind fun x1=>(if x1=true then ((FP a0 a2 a2).bind fun x2=>(if x2=true then (if a1=9076 then ((Fr a2.shape).bind fun x3=>(some (x3,0))) else (if a1=44 then ((ET a2.shape).bind fun x4=>((DY ([x4]) a2.items).bind fun x5=>(some (x5.1,x5.2)))) else (jn (fun (z6:Bool)=>(if z6=true then (if ((List.length a2.shape:Nat) : Int)=0 then ((Ex a2).bind fun x7=>(some (x7,0))) else ((E3 a2 (decide (a1=8854))).bind fun x8=>((CW a2 x8).bind fun x9=>(some (x9.1,x9.2))))) else (jn (fun (z10:(List Int))=>((CU a2 z10 ((List.length z10:Nat) : Int)).bind fun x14=>(some (x14.1,x14.2)))) fun K1=>(Bx K1 Aw [] (w64 (((List.length a2.shape:Nat) : Int)-1)))))) fun K0=>(if a1=9021 then (K0 (decide (a1=9021))) else (K0 (decide (a1=8854))))))) else (some ((Arr.mk [] []),22)))) else (some ((Arr.mk [] []),23))))
theorem Lu {a0:(Int×RT×Int)} {a1:Int} {a2:Arr} {r:Arr×Int} (h:Dv a0 a1 a2=some r) :
  Fn Tryz.prog 6 [.ag [.i .i64 a0.1,.b a0.2.1.1,.sl (L a0.2.1.2.1),.sl (L a0.2.1.2.2),.i .i64 a0.2.2],.i .i32 a1,.ag [.sl (Is a2.shape),.sl (Its a2.items)]] (.tup [.d (.ag [.sl (Is r.1.shape),.sl (Its r.1.items)]),.d (.i .i64 r.2)]):=by
 unfold Dv at h
 refine Fn.ofC (rs:=[.cell 6 30,.tmp 7]) (nt:=73) Tryz.func6 rfl rfl rfl (by simp) rfl ?_;refine .sr ?_;refine vk vbx ?_;refine vk vbx ?_;refine vk (van (Aj AD) AI) ?_;refine ar [1,3,5,6,7] ?_;refine .seq ?_;refine .sr ?_;refine va ?_
 obtain ⟨x1,g1,h⟩:=bnd h
 refine vk (Ak (Gi g1) Tryz.call10) ?_;refine vk vnt ?_;refine rk [1,3,5,6,7,12] ?_
 rcases brc h with ⟨hc,h⟩|⟨hc,h⟩
 ·refine cnf (ntf hc) ?_
  refine .sk ?_;refine .seq ?_;refine .sr ?_;refine vk (AC Nl L2) ?_;refine vk (AC Ac Aa) ?_;refine vk (AC Ac Aa) ?_
  obtain ⟨x2,g2,h⟩:=bnd h
  refine vk (Ak (Ng g2) Tryz.call16) ?_;refine vk vnt ?_;refine rk [1,5,6,7,18] ?_
  rcases brc h with ⟨hc,h⟩|⟨hc,h⟩
  ·refine cnf (ntf hc) ?_
   refine .sk ?_;refine .seq ?_;refine .sr ?_;refine va ?_;refine rk [1,5,6,7,20] ?_;refine .block ?_;refine .sr ?_;refine vb ?_;refine ar [1,5,6,7,20,21] ?_
   rcases brc h with ⟨hc,h⟩|⟨hc,h⟩
   ·refine cnt (dT hc) ?_
    refine .sr ?_;refine vk (vfa Ay) ?_;refine vk (Ai Bh) ?_
    obtain ⟨x3,g3,h⟩:=bnd h
    refine vk (Ak (N3 g3) Tryz.call17) ?_
    refine stn ?_ Aa (by decide)
    refine ar [5,6,7] ?_;refine .ret ?_
    cases h
    exact ⟨_,_,⟨.inr rfl,Ac,Aa,p2⟩,rfl,rfl⟩
   refine cnf (dF hc) ?_;refine .sr ?_;refine vb ?_;refine ar [1,5,6,7,20,26] ?_
   rcases brc h with ⟨hc,h⟩|⟨hc,h⟩
   ·refine cnt (dT hc) ?_
    refine .seq ?_;refine .drawn 9 Bw (by kernel_rfl) ?_;refine dv (vfa Ay) ?_;refine dv (Ai Bh) ?_
    obtain ⟨x4,g4,h⟩:=bnd h
    refine dv (Ak (JD g4) Tryz.call19) ?_;refine dv ((Lp (Eu [x4]) CX).deep) ?_;refine dv (vfa Au) ?_;refine dv (Ai Bp) ?_
    obtain ⟨x5,g5,h⟩:=bnd h
    refine dv (VOK.tupd (vs:=[.ag [.sl (Is x5.1.shape),.sl (Its x5.1.items)],.i .i64 x5.2]) (Ak (Ha g5) Tryz.call18)) ?_;refine dv vex ?_;refine dv vex ?_;refine dz ?_
    refine stn ?_ Aa (by decide)
    refine ar [5,6,7] ?_;refine .ret ?_
    cases h
    exact ⟨_,_,⟨.inr rfl,Ac,Aa,p2⟩,rfl,rfl⟩
   refine cnf (dF hc) ?_;refine .seq ?_;refine .sr ?_;refine vb ?_;refine ar [1,5,6,7,20,37] ?_
   obtain ⟨K0,hK0,h⟩:=AF h
   refine AW.mr (σ:=Bool) (fun p=>K0 p=some r) (fun p=>[(1,.d (.i .i32 a1)),(5,.d (.ptr [.sl (Is a2.shape),.sl (Its a2.items)])),(6,.nb [.sl (Is []),.sl (Its [])]),(7,.d (.i .i64 0)),(37,.d (.b p))]) (fun p=>[]) ?_ ?_
   ·skip
    rcases brc h with ⟨hc,h⟩|⟨hc,h⟩
    ·refine cnt (dT hc) ?_
     refine .gk [1,5,6,7,37] ?_;refine .skip ?_
     exact jr ((decide (a1=9021))) h
    refine cnf (dF hc) ?_;refine .region ?_;refine vb ?_;refine asd ?_;refine RL.gk [1,5,6,7,37] ?_;refine .nil ?_
    exact jr ((decide (a1=8854))) h
   rintro z6 h
   try dsimp only at h ⊢
   subst hK0
   refine aw ?_
   rcases brc h with ⟨hc,h⟩|⟨hc,h⟩
   ·refine cnt hc ?_
    refine .seq ?_;refine .sr ?_;refine vk (vfa Ay) ?_;refine vk (Ai Bh) ?_;refine vk (A9 (Af _) (BO _) BL) ?_;refine vb ?_;refine rk [1,5,6,7,43] ?_
    rcases brc h with ⟨hc,h⟩|⟨hc,h⟩
    ·refine cnt (dT hc) ?_
     refine .sr ?_;refine vk (AC Ac Aa) ?_
     obtain ⟨x7,g7,h⟩:=bnd h
     refine vk (Ak (F7 g7) Tryz.call4) ?_
     refine stn ?_ Aa (by decide)
     refine ar [1,5,6,7] ?_;refine .ret ?_
     cases h
     exact ⟨_,_,⟨.inr rfl,Ac,Aa,p2⟩,rfl,rfl⟩
    refine cnf (dF hc) ?_;refine .sk ?_;refine .seq ?_;refine .drawn 8 Bw (by kernel_rfl) ?_;refine dv (AC Ac Aa) ?_;refine dv (AC Ac Aa) ?_;refine dv Ah ?_;refine dv vbi ?_
    obtain ⟨x8,g8,h⟩:=bnd h
    refine dv (Ak (Pe g8) Tryz.call21) ?_
    obtain ⟨x9,g9,h⟩:=bnd h
    refine dv (VOK.tupd (vs:=[.ag [.sl (Is x9.1.shape),.sl (Its x9.1.items)],.i .i64 x9.2]) (Ak (KQ g9) Tryz.call20)) ?_;refine dv vex ?_;refine dv vex ?_;refine dz ?_
    refine stn ?_ Aa (by decide)
    refine ar [5,6,7] ?_;refine .ret ?_
    cases h
    exact ⟨_,_,⟨.inr rfl,Ac,Aa,p2⟩,rfl,rfl⟩
   refine cnf (bf hc) ?_;refine .sk ?_;refine .sr ?_;refine asn ?_;refine rk [5,6,7,8] ?_;refine .seq ?_;refine .sr ?_;refine vk (vfa Ay) ?_;refine vk (Ai Bh) ?_;refine vk (A9 (Af _) (BO _) BL) ?_;refine vb ?_;refine ar [5,6,7,8,9] ?_
   obtain ⟨K1,hK1,h⟩:=AF h
   refine AW.mr (σ:=(List Int)) (fun p=>K1 p=some r) (fun p=>[(5,.d (.ptr [.sl (Is a2.shape),.sl (Its a2.items)])),(6,.nb [.sl (Is []),.sl (Its [])]),(7,.d (.i .i64 0)),(8,.own 3 (Is p))]) (fun p=>[]) ?_ ?_
   ·skip
    refine .block ?_;refine .gh (Gh.nlOwn (t:=8) 3 (by rw [Dh];decide) rfl) ?_
    refine .loop (.gk [5,6,7,8,9] ?_)
    refine AL.ind (σ:=Nat×(List Int)×Int) (m:=fun p=>p.1) (e:=fun p=>[(5,.d (.ptr [.sl (Is a2.shape),.sl (Its a2.items)])),(6,.nb [.sl (Is []),.sl (Its [])]),(7,.d (.i .i64 0)),(8,.own 3 (Is p.2.1)),(9,.d (.i .i64 p.2.2))]) (h:=fun p=>[]) (I:=fun p=>Bx K1 p.1 p.2.1 p.2.2=some r) ?_ (Aw,[],(w64 (((List.length a2.shape:Nat):Int)-1))) h
    rintro ⟨k,s11,s12⟩ h ih
    dsimp only at h ih ⊢
    rcases k with _|k
    ·rw [Bx] at h;cases h
    rw [Bx] at h
    refine .seq ?_;refine .sr ?_;refine va ?_;refine vb ?_;refine rk [5,6,7,8,9,59] ?_
    rcases brc h with ⟨hc,h⟩|⟨hc,h⟩
    ·refine cnt (dT hc) ?_
     refine .sk ?_;refine .seq ?_;refine .block ?_;refine .region ?_;refine mvo ?_;refine va ?_;refine vk ((Lp (Eu [s12]) CX).deep) ?_
     obtain ⟨x13,g13,h⟩:=bnd h
     refine N8 J1 g13 IP ?_ F4 Af CX
     refine aso ?_;refine .nil ?_;refine aw ?_;refine .gk [5,6,7,8,9] ?_;refine .region ?_;refine va ?_;refine vb ?_;refine asd ?_;refine .nil ?_;refine AL.gk [5,6,7,8,9] ?_
     exact ih (k,x13,(w64 (s12-1))) h (Nat.lt_succ_self _)
    refine cnf (dF hc) ?_;refine .gk [5,6,7,8] ?_;refine .exit ?_
    exact jr (s11) h
   rintro z10 h
   try dsimp only at h ⊢
   subst hK1
   refine aw ?_;refine .sr ?_;refine vk (AC Ac Aa) ?_;refine fz (p:=.t 8) ?_;refine va ?_;refine va ?_;refine vk (A9 (Af _) (BO _) BL) ?_
   obtain ⟨x14,g14,h⟩:=bnd h
   refine vk (VOK.tupd (vs:=[.ag [.sl (Is x14.1.shape),.sl (Its x14.1.items)],.i .i64 x14.2]) (Ak (Jv g14) Tryz.call22)) ?_;refine vk vex ?_;refine vk vex ?_
   refine stn ?_ Aa (by decide)
   refine ar [6,7] ?_;refine .ret ?_
   cases h
   exact ⟨_,_,⟨.inr rfl,Ac,Aa,p2⟩,rfl,rfl⟩
  refine cnt (ntt (bf hc)) ?_;refine .sr ?_;refine vk (vbd CF AD AI) ?_
  refine stn ?_ Aa (by decide)
  refine ar [1,5,6,7] ?_;refine .ret ?_
  cases h
  exact ⟨_,_,⟨.inr rfl,Ac,Aa,p2⟩,rfl,rfl⟩
 refine cnt (ntt (bf hc)) ?_;refine .sr ?_;refine vk (vbd CF AD AI) ?_
 refine stn ?_ Aa (by decide)
 refine ar [1,3,5,6,7] ?_;refine .ret ?_
 cases h
 exact ⟨_,_,⟨.inr rfl,Ac,Aa,p2⟩,rfl,rfl⟩
theorem Rk {p:Prop} [Decidable p] (h:p) : E5 p=some ():=if_pos h
theorem Qm {t:List Nat} {i:Nat} (h:i<t.length) : pr (t.drop i)=t[i] * pr (t.drop (i+1)):=by
 rw [lC h,pr]
theorem Nt : ∀ (t:List Nat) (i j:Nat),(atN t i).drop j=atN (t.drop j) i
 | [],i,j=>by simp [atN]
 | x::xs,i,0=>rfl
 | x::xs,i,j+1=>by rw [atN,List.drop_succ_cons,List.drop_succ_cons];exact Nt xs i j
theorem Km {t c:List Nat} (ht:∀ x∈t,0<x∧x≤4096) (hc:c.length=t.length) (hl:t.length≤8) {N:Nat} (hN:N≤4096) (K:Int→Option Int) : ∀ (n i k s:Nat),n=t.length-i→i≤t.length→n<k→s * pr (t.drop i)+plN (stN (t.drop i)) (c.drop i)=N →
  CZ (up_ t) (up_ c) K k (s:Int) (i:Int)=K (N:Int)
 | n,i,0,s,_,_,h,_=>by omega
 | n,i,k+1,s,hn,hi,hk,he=>by
  rw [CZ]
  by_cases hlt:i<t.length
  ·have hlc:i<c.length:=by omega
   have h1:i<(up_ t).length:=by rw [Az];exact hlt
   have h2:i<(up_ c).length:=by rw [Az];exact hlc
   rw [Qm hlt,lC hlt,lC hlc] at he
   have he':s * (t[i] * pr (t.drop (i+1)))+(pr (t.drop (i+1)) * c[i]+plN (stN (t.drop (i+1))) (c.drop (i+1)))=N:=he
   have hp:0<pr (t.drop (i+1)):=Lv fun x hx=>(ht x (List.mem_of_mem_drop hx)).1
   have e2:(s * t[i]+c[i]) * pr (t.drop (i+1))+plN (stN (t.drop (i+1))) (c.drop (i+1))=N:=by
    rw [← he',Nat.add_mul,Nat.mul_assoc,Nat.mul_comm c[i]];omega
   have hb:s * t[i]+c[i]≤4096:=by
    have:=Nat.le_mul_of_pos_right (s * t[i]+c[i]) hp
    omega
   have m1:w64 ((s:Int) * (t[i]:Int))=((s * t[i]:Nat):Int):=by rw [← Int.natCast_mul,Bi (by omega) (by omega)]
   have m2:w64 (((s * t[i]:Nat):Int)+(c[i]:Int))=((s * t[i]+c[i]:Nat):Int):=by rw [← Int.natCast_add,Bi (by omega) (by omega)]
   rw [if_pos (by rw [Az];omega),AY h1,oB,GC hlt,AY h2,oB,GC hlc,m1,m2,A4 (by omega)]
   exact Km ht hc hl hN K (n-1) (i+1) k (s * t[i]+c[i]) (by omega) (by omega) (by omega) e2
  ·rw [if_neg (by rw [Az];omega)]
   rw [List.drop_of_length_le (by omega),List.drop_of_length_le (by omega)] at he
   have:s=N:=by
    have h0:s * 1+0=N:=he
    omega
   rw [this]
theorem Tn {t c:List Nat} (ht:∀ x∈t,0<x∧x≤4096) (hc:c.length=t.length) (hl:t.length≤8) (hN:plN (stN t) c≤4096) : Eh (up_ t) (up_ c)=some ((plN (stN t) c : Nat) : Int):=by
 unfold Eh
 rw [A3]
 exact Km ht hc hl hN _ t.length 0 Aw 0 rfl (Nat.zero_le _) (AS (by omega)) (by simp)
theorem NN {t:List Nat} (ht:∀ x∈t,0<x∧x≤4096) (hl:t.length≤8) {q:Nat} (hq:q≤4096) (K:List Int→Option (List Int)) : ∀ (j k:Nat),j≤t.length→j<k →
  BQ (up_ t) K k ((q / pr (t.drop j):Nat):Int) (List.replicate j 0++up_ ((atN t q).drop j)) ((j:Int)-1)=K (up_ (atN t q))
 | j,0,_,h=>by omega
 | 0,k+1,_,_=>by
  rw [BQ,if_neg (by omega)];simp
 | j+1,k+1,hj,hk=>by
  rw [BQ]
  have hlt:j<t.length:=hj
  have e0:((j+1:Nat):Int)-1=(j:Int):=by omega
  have h1:j<(up_ t).length:=by rw [Az];exact hlt
  have htj:=ht _ (List.getElem_mem hlt)
  have hla:(atN t q).length=t.length:=Ci t q
  have hll:j<(List.replicate (j+1) (0:Int)++up_ ((atN t q).drop (j+1))).length:=by rw [List.length_append,List.length_replicate];omega
  have hdle:q / pr (t.drop (j+1))≤q:=Nat.div_le_self _ _
  have d1:Int.tdiv ((q / pr (t.drop (j+1)):Nat):Int) (t[j]:Int)=((q / pr (t.drop j):Nat):Int):=by
   rw [show Int.tdiv ((q / pr (t.drop (j+1)):Nat):Int) (t[j]:Int)=((q / pr (t.drop (j+1)) / t[j]:Nat):Int) from rfl,Nat.div_div_eq_div_mul,Qm hlt,Nat.mul_comm]
  have d2:Int.tmod ((q / pr (t.drop (j+1)):Nat):Int) (t[j]:Int)=((q / pr (t.drop (j+1)) % t[j]:Nat):Int):=rfl
  have hd:(atN t q).drop j=(q / pr (t.drop (j+1)) % t[j])::(atN t q).drop (j+1):=by
   rw [Nt,Nt,lC hlt,atN]
  have hset:List.set (List.replicate (j+1) (0:Int)++up_ ((atN t q).drop (j+1))) (Int.toNat (j:Int)) ((q / pr (t.drop (j+1)) % t[j]:Nat):Int)=List.replicate j 0++up_ ((atN t q).drop j):=by
   rw [Int.toNat_natCast,MI,hd];rfl
  have hq2:q / pr (t.drop j)≤q:=Nat.div_le_self _ _
  rw [e0,if_pos (by omega),AY h1,oB,GC hlt,Rk (by omega),oB,AY hll,oB,oB,Rk (by omega),oB,d1,d2,hset,show w64 ((q / pr (t.drop j):Nat):Int)=((q / pr (t.drop j):Nat):Int) from by generalize q / pr (t.drop j)=z at *;exact Bi (by omega) (by omega),show w64 ((j:Int)-1)=(j:Int)-1 from Bi (by omega) (by omega)]
  exact NN ht hl hq K j k (by omega) (by omega)
theorem O8 {t:List Nat} (ht:∀ x∈t,0<x∧x≤4096) (hl:t.length≤8) {q:Nat} (hq:q≤4096) : D4 (up_ t) (q:Int)=some (up_ (atN t q)):=by
 unfold D4
 have hla:(atN t q).length=t.length:=Ci t q
 rw [Az,Rk (by omega),oB,A3,Int.toNat_natCast,show w64 (((t.length:Nat):Int)-1)=((t.length:Nat):Int)-1 from Bi (by omega) (by omega)]
 have:=NN ht hl hq (fun (z2:List Int)=>(some (z2))) t.length Aw (Nat.le_refl _) (AS (by omega))
 rw [List.drop_of_length_le (Nat.le_refl _),List.drop_of_length_le (by omega),show pr []=1 from rfl,Nat.div_one,show up_ []=[] from rfl,List.append_nil] at this
 exact this
theorem X3 {t:List Nat} {i v:Nat} : (up_ t).set i (v:Int)=up_ (t.set i v):=by unfold up_;rw [List.map_set]
theorem YG {s:List Int} {ax:Nat} (hl:s.length≤17592186044416) (hx:ax<s.length) (z:Int) : Gm s (ax:Int) z=some (s.set ax z):=by
 unfold Gm
 rw [Dw (by simpa using hl),oB,List.nil_append,AY hx,oB,Int.toNat_natCast]
theorem KI {b:Arr} {t fr:List Nat} {ax n:Nat} (hs:b.shape=up_ t) (ht:∀ x∈t,0<x∧x≤4096) (h8:t.length≤8) (hn:pr t=n) (hn4:n≤4096) (hit:b.items.length=n) (hx:ax<t.length) (hf1:fr.length=t[ax]) (hf2:∀ x∈fr,x<t[ax]) {x2:Int×Int} (hx2:x2.1=(n:Int)) (hJ:∀ i,i<n→Cg t ax fr i<n) (K:List Itm→Option (Arr×Int)) : ∀ (m i k:Nat),m=n-i→i≤n→m<k →
  Cw b (ax:Int) (up_ fr) (up_ t) x2 K k ((List.range i).map fun j=>b.items.getD (Cg t ax fr j) default) (i:Int)=K (Cq b n (Cg t ax fr))
 | m,i,0,_,_,h=>by omega
 | m,i,k+1,hm,hi,hk=>by
  rw [Cw,hx2]
  by_cases hlt:i<n
  ·have hset:t.set ax fr.length=t:=by rw [hf1];exact List.set_getElem_self hx
   have hla:(atN t i).length=t.length:=Ci t i
   have hxa:ax<(atN t i).length:=by omega
   have hca:(atN t i)[ax]<t[ax]:=by
    rw [PP t i ax hx]
    exact Nat.mod_lt _ (ht _ (List.getElem_mem hx)).1
   have hcf:(atN t i)[ax]<fr.length:=by omega
   have hc4:fr[(atN t i)[ax]]<t[ax]:=hf2 _ (List.getElem_mem hcf)
   have eJ:plN (stN t) ((atN t i).set ax fr[(atN t i)[ax]])=Cg t ax fr i:=by
    unfold Cg
    rw [hset,Jb hxa,Jb hcf]
   have hJi:=hJ i hlt
   have hbi:Cg t ax fr i<b.items.length:=by omega
   have r1:rd? (up_ (atN t i)) (ax:Int)=some (((atN t i)[ax]:Nat):Int):=by rw [AY (by rw [Az];exact hxa),GC hxa]
   have r2:rd? (up_ fr) (((atN t i)[ax]:Nat):Int)=some ((fr[(atN t i)[ax]]:Nat):Int):=by rw [AY (by rw [Az];exact hcf),GC hcf]
   rw [if_pos (by omega),A3,O8 ht h8 (by omega),oB,r1,oB,r2,oB,if_neg (by omega),oB,r2,oB,oB,hs,Int.toNat_natCast,X3,
    Tn ht (by rw [List.length_set];exact hla) h8 (by rw [eJ];omega),oB,eJ,AY hbi,oB,Dw (by simp;omega),oB,A4 (by omega)]
   have e1:((List.range i).map fun j=>b.items.getD (Cg t ax fr j) default)++[b.items[Cg t ax fr i]]=(List.range (i+1)).map fun j=>b.items.getD (Cg t ax fr j) default:=by
    rw [List.range_succ,List.map_append]
    show _++[_]=_++[b.items.getD (Cg t ax fr i) default]
    rw [Jb hbi]
   rw [e1]
   exact KI hs ht h8 hn hn4 hit hx hf1 hf2 hx2 hJ K (m-1) (i+1) k (by omega) (by omega) (by omega)
  ·have:i=n:=by omega
   rw [if_neg (by omega),this];rfl
theorem WC {b:Arr} {ax m n:Nat} {fr:List Nat} (ob:okAr b) (rb:AB b) (hsz:szP b.shape=((n:Int),0)) (hx:ax<b.shape.length) (hm:b.shape[ax]=(m:Int)) (f1:fr.length=m) (f2:∀ x∈fr,x<m) (f3:fr.Nodup) :
  E4 b (ax:Int) (up_ fr)=Bs b (ax:Int) (up_ fr):=by
 obtain ⟨he,hJ⟩:=Ul ob rb hsz hx hm f1 f2 f3
 have o:=(AK b).1 ob
 have hset:b.shape.set ax ((fr.length:Nat):Int)=b.shape:=M9 hx (by rw [f1];exact hm)
 have hn4:n≤4096:=by have:=EQ b.shape;rw [hsz] at this;omega
 have hid:b.items.headD default∈b.items:=by
  have:=Fj rb
  match hi:b.items,this with
  | x::xs,_=>simp
 have hty:okI (tyI (b.items.headD default)):=(H7 (s:=[0]) (xs:=b.items) (fun q=>by have:=Fj rb;rw [q] at this;simp at this) (fun x hx=>CO ob rb hx)) _ (by rw [show (szP [0]).1=0 from rfl];simp [Bc])
 rw [he]
 unfold E4
 rw [Az,YG o.2.1 hx,oB,hset,Jm,oB,hsz,if_pos rfl,A3]
 by_cases h0:n=0
 ·obtain ⟨k,hk⟩:=Rw 1
  rw [hk,Cw,if_neg (by omega),A3,if_pos (by omega),MU ob rb,oB]
  dsimp only
  rw [Hl o.1 o.2.1 (by simp) (by simpa using hty),EZ ob rb (by rw [hsz,h0];rfl) o.1 o.2.1 (by rw [hsz,h0];rfl) (.inr rfl),if_pos h0];rfl
 ·obtain ⟨t,ht,hpos,hp,hn,ht8⟩:=Jf hsz h0
  obtain ⟨hJ1,hJ2⟩:=hJ h0
  have hxt:ax<t.length:=by rw [ht,Az] at hx;exact hx
  have hmt:t[ax]=m:=by
   have:=GC hxt
   simp only [ht] at hm
   rw [hm] at this;omega
  have hdim:b.shape.map Int.toNat=t:=by rw [ht,MG]
  rw [hdim] at hJ1 hJ2 ⊢
  have hl:=IQ rb rfl hsz
  rw [if_neg h0] at hl
  have hL:=fun K=>KI (fr:=fr) (ax:=ax) ht hpos ht8 hp hn4 hl hxt (by rw [f1,hmt]) (fun x hx=>by rw [hmt];exact f2 x hx) (x2:=((n:Int),0)) rfl hJ1 K n 0 Aw rfl (Nat.zero_le _) (AS (by omega))
  have hall:∀ x∈Cq b n (Cg t ax fr),okI x:=fun x hx=>o.2.2.2 x (Fq (fun i hi=>by rw [hl];exact hJ1 i hi) x hx)
  rw [show ((List.range 0).map fun j=>b.items.getD (Cg t ax fr j) default)=[] from rfl,show ((0:Nat):Int)=0 from rfl] at hL
  have hmk:=Fu ob rb o.1 o.2.1 hsz h0 hl hJ1 hJ2
  rw [ht] at hmk ⊢
  rw [hL,A3,if_neg (by omega)]
  dsimp only
  have o1:=o.1
  have o2:=o.2.1
  rw [ht] at o1 o2
  rw [Hl o1 o2 (by rw [Dk];omega) hall,hmk,if_neg h0];rfl
theorem Ya {s:List Int} {n:Nat} (hsz:szP s=((n:Int),0)) : (n≠0→(∀ i,i<n→trN (s.map Int.toNat) i<n)∧∀ i j,i<n→j<n→trN (s.map Int.toNat) i=trN (s.map Int.toNat) j→i=j)∧∀ b,okAr b→AB b→b.shape=s→B9 b=some (.mk s.reverse (if n=0 then [tyI (b.items.headD default)] else Cq b n (trN (s.map Int.toNat))),0):=by
 obtain ⟨hd,h8⟩:=Gj (s:=s) (by rw [hsz])
 have hszr:szP s.reverse=((n:Int),0):=by rw [Pt];exact hsz
 have hdr:∀ x∈s.reverse,0≤x∧x≤4096:=fun x hx=>hd x (by simpa using hx)
 -- the walk, as far as to what is built
 have walk:∀ b,okAr b→b.shape=s→∃ F:Cf,(∀ x,F.g x=Bk x (Fv s).1.reverse)∧B9 b=Bn b s.reverse F:=by
  intro b ob hb
  have o:=(AK b).1 ob
  refine ⟨⟨.fn 83 [] [.ptr [.sl (Is (Fv s).1.reverse)]],fun x=>Bk x (Fv s).1.reverse⟩,fun x=>rfl,?_⟩
  unfold B9
  rw [A3]
  have e1:=fun K=>Pj (a:=b) (by rw [hb];exact h8) K b.shape.length 0 Aw rfl (Nat.zero_le _) (AS (by rw [hb];omega))
  rw [show up_ ((List.range 0).reverse)=[] from rfl,show ((0:Nat):Int)=0 from rfl] at e1
  rw [e1,hb]
  have hlen:((List.length (up_ ((List.range s.length).reverse)):Nat):Int)=(s.length:Int):=by rw [Az];simp
  rw [hlen]
  unfold DD
  have hg:E5 (0≤(s.length:Int)∧(s.length:Int)≤17592186044416)=some ():=if_pos (by omega)
  have e2:=fun K=>U3 h8 K s.length 0 Aw rfl (Nat.zero_le _) (AS (by omega))
  rw [List.replicate_zero,List.nil_append,Nat.sub_zero,show ((0:Nat):Int)=0 from rfl] at e2
  have e3:=fun K=>V0 hb hd h8 (I0 s) (PW s).2 K s.length 0 Aw rfl (Nat.zero_le _) (AS (by omega))
  rw [List.take_zero,List.take_zero,List.reverse_nil,List.append_nil,List.append_nil,Nat.sub_zero,show ((0:Nat):Int)=0 from rfl] at e3
  rw [hg,oB,oB,A3,Int.toNat_natCast,e2,hb,EU (by omega),oB,A3,e3]
  generalize Bn _ _ _=z
  cases z<;>rfl
 by_cases h0:n=0
 ·refine ⟨fun h=>absurd h0 h,fun b ob rb hb=>?_⟩
  obtain ⟨F,_,e⟩:=walk b ob hb
  have hz:szP s.reverse=(0,0):=by rw [hszr,h0];rfl
  rw [e,if_pos h0,H8 (Fg ob rb) (by simp;omega) hz,EZ ob rb (by rw [hb,hsz,h0];rfl) (Ev hdr) (by simp;omega) hz (.inr rfl)]
 ·obtain ⟨t,ht,hpos,hp,hn,h8'⟩:=Jf hsz h0
  subst ht
  have ht0:∀ x∈t,0<x:=fun x hx=>(hpos x hx).1
  have hinj:=Ta ht0
  have hlt:∀ i,trN t i<pr t:=fun i=>Nw (PD ht0 i)
  rw [hp] at hinj hlt
  rw [MG]
  refine ⟨fun _=>⟨fun i _=>hlt i,hinj⟩,fun b ob rb hb=>?_⟩
  obtain ⟨F,hF,e⟩:=walk b ob hb
  have hl:=IQ rb hb hsz
  rw [if_neg h0] at hl ⊢
  have hb2:=LD (F:=F) (t:=t.reverse) (J:=fun i=>((trN t i:Nat):Int)) (Fg ob rb) (fun x hx=>hpos x (by simpa using hx)) (by simpa using h8') (by rw [NP,hp];exact hn) (fun i _=>⟨by
   rw [hF,Kq (by omega) ht0]
   exact Y1 hpos h8' (by omega) i,by have:=hlt i;show ((trN t i:Nat):Int)<_;omega⟩)
  rw [e,J8,hb2,NP,hp]
  have e2:((List.range n).map fun i=>Jy b (tyI (b.items.headD default)) ((trN t i:Nat):Int))=Cq b n (trN t):=by
   unfold Cq
   refine List.map_congr_left fun i _=>?_
   unfold Jy
   rw [if_pos (by omega),Int.toNat_natCast]
  rw [e2,← J8]
  exact Fu ob rb (Ev hdr) (by simp;omega) hszr h0 hl (fun i _=>hlt i) hinj
theorem Vs {m:Nat} : up_ ((List.range (m+1)).reverse)=[(m:Int)]++up_ ((List.range m).reverse):=by rw [List.range_succ,List.reverse_append];rfl
theorem Nc (K:List Int→Option (Arr×Int)) : ∀ (j k:Nat) (t:List Int),t.length+j≤10000→j<k→BH K k t ((j:Int)-1)=K (t++up_ ((List.range j).reverse))
 | j,0,_,_,h=>by omega
 | 0,k+1,t,_,_=>by rw [BH,if_neg (by omega)];simp [up_]
 | j+1,k+1,t,ht,hk=>by
  have e0:((j+1:Nat):Int)-1=(j:Int):=by omega
  rw [BH,e0,if_pos (by omega),Dw (by simp;omega),oB,Bi (by omega) (by omega),Nc K j k _ (by simp;omega) (by omega),Vs,List.append_assoc]
theorem M0 (K:List Int→Option (Arr×Int)) : ∀ (j k:Nat) (t:List Int),t.length+j≤10000→j<k→Bx K k t ((j:Int)-1)=K (t++up_ ((List.range j).reverse))
 | j,0,_,_,h=>by omega
 | 0,k+1,t,_,_=>by rw [Bx,if_neg (by omega)];simp [up_]
 | j+1,k+1,t,ht,hk=>by
  have e0:((j+1:Nat):Int)-1=(j:Int):=by omega
  rw [Bx,e0,if_pos (by omega),Dw (by simp;omega),oB,Bi (by omega) (by omega),M0 K j k _ (by simp;omega) (by omega),Vs,List.append_assoc]
theorem RR {b:Arr} {ax m n:Nat} (ob:okAr b) (rb:AB b) (hsz:szP b.shape=((n:Int),0)) (hx:ax<b.shape.length) (hm:b.shape[ax]=(m:Int)) (hm4:m≤4096) : CW b (ax:Int)=BK b (ax:Int):=by
 have o:=(AK b).1 ob
 obtain ⟨f1,f2,f3⟩:=M7 m
 rw [IB o.2.1 hx hm hm4,← WC ob rb hsz hx hm f1 f2 f3]
 unfold CW
 rw [AY hx,oB,hm,A3,Bi (by omega) (by omega),Nc _ m Aw [] (by simp;omega) (AS (by omega)),List.nil_append]
 generalize E4 _ _ _=z
 cases z<;>rfl
theorem SK {r:Nat} (hr:r≤8) (K:List Int→Option (Arr×Int)) : ∀ (n i k:Nat),n=r-i→i≤r→n<k →
  BC (r:Int) K k (List.replicate i 1048576++List.replicate (r-i) (0:Int)) (i:Int)=K (List.replicate r 1048576)
 | _,_,0,_,_,h=>by omega
 | n,i,k+1,hn,hi,hk=>by
  rw [BC]
  by_cases h:i<r
  ·have hl:i<(List.replicate i (1048576:Int)++List.replicate (r-i) (0:Int)).length:=by simp;omega
   have e:List.set (List.replicate i (1048576:Int)++List.replicate (r-i) (0:Int)) (Int.toNat (i:Int)) 1048576=List.replicate (i+1) 1048576++List.replicate (r-(i+1)) (0:Int):=by
    rw [Int.toNat_natCast,show r-i=(r-(i+1))+1 by omega,List.replicate_succ,List.set_append_right _ _ (by simp),List.length_replicate,Nat.sub_self,List.set_cons_zero,List.replicate_succ' (n:=i)]
    simp
   rw [if_pos (by omega),AY hl,oB,e,A4 (by omega)]
   exact SK hr K (n-1) (i+1) k (by omega) (by omega) (by omega)
  ·have:i=r:=by omega
   rw [if_neg (by omega),this,Nat.sub_self];simp
theorem S7 {a:Arr} {s:List Int} (ha:a.shape=s) (hs:∀ x∈s,0≤x∧x≤4096) (h8:s.length≤8) (K:List Int→Option (Arr×Int)) : ∀ (n i k:Nat),n=s.length-i→i≤s.length→n<k →
  BG a (up_ ((List.range s.length).reverse)) K k (List.replicate (s.length-i) 1048576++(s.take i).reverse) (i:Int)=K s.reverse
 | _,_,0,_,_,h=>by omega
 | n,i,k+1,hn,hi,hk=>by
  rw [BG]
  have hlr:(up_ ((List.range s.length).reverse)).length=s.length:=by rw [Az];simp
  by_cases h:i<s.length
  ·have hg:rd? a.shape (i:Int)=some s[i]:=by rw [ha,AY h]
   have hsi:=hs _ (List.getElem_mem h)
   have e1:s.length-i=(s.length-1-i)+1:=by omega
   have hget:rd? (List.replicate (s.length-i) 1048576++(s.take i).reverse) ((s.length-1-i:Nat):Int)=some 1048576:=by rw [e1];exact PR _ _ _
   have hset:List.set (List.replicate (s.length-i) (1048576:Int)++(s.take i).reverse) (Int.toNat ((s.length-1-i:Nat):Int)) s[i]=List.replicate (s.length-(i+1)) 1048576++(s.take (i+1)).reverse:=by
    rw [e1,Int.toNat_natCast,MI,List.take_succ_eq_append_getElem h,List.reverse_append,show s.length-(i+1)=s.length-1-i by omega];rfl
   rw [if_pos (by rw [hlr];omega),A3,hg,oB,PG h,oB,hget,oB,if_pos (by omega),oB,oB,hget,oB,hset,A4 (by omega)]
   exact S7 ha hs h8 K (n-1) (i+1) k (by omega) (by omega) (by omega)
  ·have:i=s.length:=by omega
   rw [if_neg (by rw [hlr];omega),this,Nat.sub_self,List.take_of_length_le (Nat.le_refl _)];rfl
theorem SY {r:Nat} {idx:List Nat} (hr:idx.length=r) (h8:r≤8) (K:List Int→Option (Arr×Int)) : ∀ (n i k:Nat),n=r-i→i≤r→n<k →
  BD (up_ ((List.range r).reverse)) (up_ idx) K k (up_ (idx.reverse.take i)++List.replicate (r-i) (0:Int)) (i:Int)=K (up_ idx.reverse)
 | _,_,0,_,_,h=>by omega
 | n,i,k+1,hn,hi,hk=>by
  rw [BD]
  have hlr:(up_ ((List.range r).reverse)).length=r:=by rw [Az];simp
  by_cases h:i<r
  ·have hj:r-1-i<idx.length:=by omega
   have hir:i<idx.reverse.length:=by rw [List.length_reverse];omega
   have hgr:idx.reverse[i]=idx[r-1-i]:=by rw [List.getElem_reverse];congr 1;omega
   have hx:rd? (up_ idx) ((r-1-i:Nat):Int)=some ((idx[r-1-i]:Nat):Int):=by rw [AY (by rw [Az];exact hj),GC hj]
   have hla:(up_ (idx.reverse.take i)).length=i:=by rw [Az,List.length_take];omega
   have hl:i<(up_ (idx.reverse.take i)++List.replicate (r-i) (0:Int)).length:=by rw [List.length_append,hla,List.length_replicate];omega
   have hset:List.set (up_ (idx.reverse.take i)++List.replicate (r-i) (0:Int)) (Int.toNat (i:Int)) ((idx[r-1-i]:Nat):Int)=up_ (idx.reverse.take (i+1))++List.replicate (r-(i+1)) (0:Int):=by
    rw [Int.toNat_natCast,List.set_append_right _ _ (by rw [hla];exact Nat.le_refl _),hla,Nat.sub_self,show r-i=(r-(i+1))+1 by omega,List.replicate_succ,List.set_cons_zero,List.take_succ_eq_append_getElem hir,hgr]
    unfold up_
    rw [List.map_append];simp
   rw [if_pos (by rw [hlr];omega),PG h,oB,hx,oB,AY hl,oB,hset,A4 (by omega)]
   exact SY hr h8 K (n-1) (i+1) k (by omega) (by omega) (by omega)
  ·have:i=r:=by omega
   rw [if_neg (by rw [hlr];omega),this,Nat.sub_self,List.take_of_length_le (by rw [List.length_reverse];omega)];simp
theorem RS (s:List Int) : ET s=some (szP s).1:=by unfold ET;rw [Jm];rfl
theorem SC {a:Arr} {t:List Nat} {n:Nat} (ha:a.shape=up_ t) (ht:∀ x∈t,0<x∧x≤4096) (h8:t.length≤8) (hsz:szP (up_ t.reverse)=((n:Int),0)) (hn4:n≤4096) (hit:a.items.length=n) (hJ:∀ i,i<n→trN t i<n) (K:List Int→List Itm→Option (Arr×Int)) : ∀ (m i k:Nat),m=n-i→i≤n→m<k →
  Bl a (up_ ((List.range t.length).reverse)) (up_ t.reverse) K k ((List.range i).map fun j=>a.items.getD (trN t j) default) (i:Int)=K (up_ t.reverse) (Cq a n (trN t))
 | _,_,0,_,_,h=>by omega
 | m,i,k+1,hm,hi,hk=>by
  rw [Bl,RS,hsz,oB]
  have hlr:((List.length (up_ ((List.range t.length).reverse)):Nat):Int)=(t.length:Int):=by rw [Az];simp
  by_cases h:i<n
  ·have hla:(atN t.reverse i).length=t.length:=by rw [Ci,List.length_reverse]
   have hJi:=hJ i h
   have hbi:trN t i<a.items.length:=by omega
   have h9:=fun K=>SY (idx:=atN t.reverse i) hla h8 K t.length 0 Aw rfl (Nat.zero_le _) (AS (by omega))
   rw [List.take_zero,show up_ []=[] from rfl,List.nil_append,Nat.sub_zero,show ((0:Nat):Int)=0 from rfl] at h9
   have hpl:Eh (up_ t) (up_ (atN t.reverse i).reverse)=some ((trN t i:Nat):Int):=Tn ht (by rw [List.length_reverse];exact hla) h8 (by show trN t i≤4096;omega)
   rw [if_pos (by omega),A3,O8 (fun x hx=>ht x (by simpa using hx)) (by simpa using h8) (by omega),oB,hlr,Rk (by omega),oB,A3,Int.toNat_natCast,h9,ha,hpl,oB,AY hbi,oB,Dw (by simp;omega),oB,A4 (by omega)]
   have e1:((List.range i).map fun j=>a.items.getD (trN t j) default)++[a.items[trN t i]]=(List.range (i+1)).map fun j=>a.items.getD (trN t j) default:=by
    rw [List.range_succ,List.map_append]
    show _++[_]=_++[a.items.getD (trN t i) default]
    rw [Jb hbi]
   rw [e1]
   exact SC ha ht h8 hsz hn4 hit hJ K (m-1) (i+1) k (by omega) (by omega) (by omega)
  ·have:i=n:=by omega
   rw [if_neg (by omega),this];rfl
theorem PJ {b:Arr} {n:Nat} (ob:okAr b) (rb:AB b) (hsz:szP b.shape=((n:Int),0)) : CU b (up_ ((List.range b.shape.length).reverse)) ((b.shape.length:Nat) : Int)=B9 b:=by
 obtain ⟨hJ,he⟩:=Ya hsz
 rw [he b ob rb rfl]
 have o:=(AK b).1 ob
 obtain ⟨hd,h8⟩:=Gj (s:=b.shape) (by rw [hsz])
 have hszr:szP b.shape.reverse=((n:Int),0):=by rw [Pt];exact hsz
 have hdr:∀ x∈b.shape.reverse,0≤x∧x≤4096:=fun x hx=>hd x (by simpa using hx)
 have hn4:n≤4096:=by have:=EQ b.shape;rw [hsz] at this;omega
 have a1:=fun K=>SK h8 K b.shape.length 0 Aw rfl (Nat.zero_le _) (AS (by omega))
 rw [List.replicate_zero,List.nil_append,Nat.sub_zero,show ((0:Nat):Int)=0 from rfl] at a1
 have a3:=fun K=>S7 (a:=b) rfl hd h8 K b.shape.length 0 Aw rfl (Nat.zero_le _) (AS (by omega))
 rw [List.take_zero,List.reverse_nil,List.append_nil,Nat.sub_zero,show ((0:Nat):Int)=0 from rfl] at a3
 unfold CU
 rw [Rk (by omega),oB,A3,Int.toNat_natCast,a1,A3,a3,A3]
 have hmovne:n≠0→¬(((List.length (Cq b n (trN (b.shape.map Int.toNat))):Nat):Int)=0):=fun h=>by rw [Dk];omega
 by_cases h0:n=0
 ·obtain ⟨k,hk⟩:=Rw 1
  have hty:okI (tyI (b.items.headD default)):=(H7 (s:=[0]) (xs:=b.items) (fun q=>by have:=Fj rb;rw [q] at this;simp at this) (fun x hx=>CO ob rb hx)) _ (by rw [show (szP [0]).1=0 from rfl];simp [Bc])
  have hz:szP b.shape.reverse=(0,0):=by rw [hszr,h0];rfl
  rw [hk,Bl,RS,hszr,oB,if_neg (by omega),A3,if_pos (by rfl),MU ob rb,oB]
  dsimp only
  rw [Hl (Ev hdr) (by simp;omega) (by simp) (by simpa using hty),EZ ob rb (by rw [hsz,h0];rfl) (Ev hdr) (by simp;omega) hz (.inr rfl),if_pos h0];rfl
 ·obtain ⟨t,ht,hpos,hp,hn,ht8⟩:=Jf hsz h0
  obtain ⟨hJ1,hJ2⟩:=hJ h0
  have hl:=IQ rb rfl hsz
  rw [if_neg h0] at hl
  have hmk:=Fu ob rb (Ev hdr) (by simp;omega) hszr h0 hl hJ1 hJ2
  have hne:=hmovne h0
  have hall:∀ x∈Cq b n (trN (b.shape.map Int.toNat)),okI x:=fun x hx=>o.2.2.2 x (Fq (fun i hi=>by rw [hl];exact hJ1 i hi) x hx)
  have hm2:=Hl (Ev hdr) (by simp;omega) (by rw [Dk];omega) hall
  have hdim:b.shape.map Int.toNat=t:=by rw [ht,MG]
  have hrev:b.shape.reverse=up_ t.reverse:=by rw [ht,J8]
  have hlt:b.shape.length=t.length:=by rw [ht,Az]
  rw [hdim] at hJ1 hJ2 hmk hne hall hm2 ⊢
  rw [hrev] at hmk hm2 hszr ⊢
  have a6:=fun K=>SC (a:=b) ht hpos ht8 hszr hn4 hl hJ1 K n 0 Aw rfl (Nat.zero_le _) (AS (by omega))
  rw [show ((List.range 0).map fun j=>b.items.getD (trN t j) default)=[] from rfl,show ((0:Nat):Int)=0 from rfl] at a6
  rw [hlt,a6,A3,if_neg hne]
  dsimp only
  rw [hm2,hmk,if_neg h0];rfl
end Go.FL
namespace Go.FL
open Go Go.RowKit
def ZM (l:Nat) (J:Env→Ad→Prop) (Q:Exit→Env→Ad→Prop) : Exit→Env→Ad→Prop
 | .goto l',env,H=>l'=l∧J env H
 | e,env,H=>Q e env H
theorem AW.scopeJ {P:Program} {C:Cx} {c rest:Code} {Q:Exit→Env→Ad→Prop} {env:Env} {H:Ad} (l:Nat) (J:Env→Ad→Prop) (hf:findLabel c l=some rest) (first:AW P C c (ZM l J Q) env H) (after:∀ env' H',J env' H'→AW P C rest (noG Q) env' H') : AW P C (.scope c) Q env H:=by
 intro X a w I μ O h1 h2 h3 hs b k cs hro hb hr
 have h0:(lone (b.atR a (.code (.scope c)::k)) cs w).fenced P (om C.ro):=fenced_calm hb hr rfl
 have hg:gotoIn l (.inScope c::k)=some (.code rest::.inScope c::k):=by simp [gotoIn,hf]
 have leave:∀ {e:Exit} {env':Env} {H':Ad} {a₁:Act} {w₁:World} {I':Nat→Prop} {μ':List Nat} {O':Nat→Option Loc} {m:Machine},(∀ l',e≠.goto l')→Sim P X env' H' a₁ w₁ I' μ' O'→Q e env' H'→ArrivesIn (Machine.fenced P (om C.ro)) P m b (.inScope c::k) cs e a₁ w₁ →
   ∃ e a' w',Post P X Q e a' w'∧ArrivesIn (Machine.fenced P (om C.ro)) P m b k cs e a' w':=by
  intro e env' H' a₁ w₁ I' μ' O' m hne s q harr
  cases e with
  | normal=>exact ⟨.normal,a₁,w₁,⟨env',H',I',μ',O',s,q⟩,StepsIn.trans harr (.one (fenced_calm hb hr rfl) Pa)⟩
  | exit id =>
   have hx:exitTo id (.inScope c::k)=exitTo id k:=by simp [exitTo]
   exact ⟨.exit id,a₁,w₁,⟨env',H',I',μ',O',s,q⟩,fun k' hk=>harr.1 k' (by rw [hx];exact hk),
    fun hr' hk=>let ⟨k₁,h1,h2⟩:=harr.2 hr' (by rw [hx];exact hk);⟨k₁,h1,h2⟩⟩
  | goto l'=>exact absurd rfl (hne l')
  | ret=>exact ⟨_,a₁,w₁,⟨env',H',I',μ',O',s,q⟩,harr⟩
  | panic ch=>exact ⟨_,a₁,w₁,⟨env',H',I',μ',O',s,q⟩,harr⟩
  | outgrown=>exact ⟨_,a₁,w₁,⟨env',H',I',μ',O',s,q⟩,harr⟩
 obtain ⟨e,a₁,w₁,hq,harr⟩:=first X a w I μ O h1 h2 h3 hs b (.inScope c::k) cs hro hb hr
 obtain ⟨env',H',I',μ',O',s,q⟩:=hq
 by_cases hgo:∃ l',e=.goto l'
 ·obtain ⟨l',rfl⟩:=hgo
  obtain ⟨rfl,hJ⟩:=q
  obtain ⟨e₂,a₂,w₂,hq₂,harr₂⟩:=after env' H' hJ X a₁ w₁ I' μ' O' h1 h2 h3 s b (.inScope c::k) cs hro hb hr
  obtain ⟨env₂,H₂,I₂,μ₂,O₂,s₂,q₂⟩:=hq₂
  have hne:∀ l',e₂≠.goto l':=fun l' e=>by subst e;exact q₂
  have q₃:Q e₂ env₂ H₂:=by cases e₂<;>first|exact q₂|exact absurd rfl (hne _)
  obtain ⟨e₃,a₃,w₃,p₃,r₃⟩:=leave hne s₂ q₃ harr₂
  exact ⟨e₃,a₃,w₃,p₃,.of_steps (.head h0 FU (harr.1 _ hg)) r₃⟩
 ·have hne:∀ l',e≠.goto l':=fun l' h=>hgo ⟨l',h⟩
  have q₃:Q e env' H':=by cases e<;>first|exact q|exact absurd rfl (hne _)
  obtain ⟨e₃,a₃,w₃,p₃,r₃⟩:=leave hne s q₃ harr
  exact ⟨e₃,a₃,w₃,p₃,.of_steps (.one h0 FU) r₃⟩
theorem AW.goto {P:Program} {C:Cx} {Q:Exit→Env→Ad→Prop} {env:Env} {H:Ad} {l:Nat} (h:Q (.goto l) env H) : AW P C (.goto l) Q env H:=fun _ _ _ I μ O _ _ _ hs=>wpIn_goto ⟨env,H,I,μ,O,hs,h⟩
end Go.FL
namespace Go.FL
open Go Go.Proofs Go.RowKit
theorem TU (s:ByteArray) (i:Nat) : Bd (s.extract i s.size)=(Bd s).drop i:=by
 have:(s.extract i s.size).data.toList=s.data.toList.drop i:=by
  rw [ByteArray.data_extract,Array.toList_extract,List.extract_eq_take_drop]
  refine List.take_of_length_le ?_
  rw [List.length_drop]
  exact Nat.le_refl _
 unfold Bd
 rw [this,List.map_drop]
theorem P2 {l:List UInt8} {k x:Nat} (hx:x<256) : l[k]?=some (x:Int).toNat.toUInt8↔(l.map UInt8.toNat)[k]?=some x:=by
 rw [List.getElem?_map]
 have e:(x:Int).toNat.toUInt8.toNat=x:=by
  rw [Int.toNat_natCast]
  simp;omega
 constructor
 ·intro h;rw [h,Option.map_some,e]
 ·intro h
  cases hl:l[k]? with
  | none=>rw [hl] at h;cases h
  | some b =>
   rw [hl,Option.map_some,Option.some.injEq] at h
   congr 1
   apply UInt8.toNat.inj
   rw [h,e]
theorem UB (s:ByteArray) (i:Nat) {x:Nat} (hx:x<256) :
  (Iz (s.extract (i+1) s.size) x=-1∧∀ q,i<q→(Bd s)[q]?≠some x) ∨
  ∃ k:Nat,Iz (s.extract (i+1) s.size) x=(k:Int)∧(Bd s)[i+1+k]?=some x∧∀ q,i<q→q<i+1+k→(Bd s)[q]?≠some x:=by
 have hb:=TU s (i+1)
 have hg:∀ k,(Bd s)[i+1+k]?=(Bd (s.extract (i+1) s.size))[k]?:=fun k=>by rw [hb,List.getElem?_drop]
 by_cases h:Iz (s.extract (i+1) s.size) x=-1
 ·refine .inl ⟨h,fun q hq e=>?_⟩
  have:=Lib.indexByte_none h (q-(i+1))
  refine this ((P2 hx).2 ?_)
  have:=hg (q-(i+1))
  rw [show i+1+(q-(i+1))=q by omega,e] at this
  exact this.symm
 ·have hge:=Lib.indexByte_ge (s.extract (i+1) s.size).data.toList (x:Int).toNat.toUInt8
  have hge':-1≤Iz (s.extract (i+1) s.size) x:=hge
  obtain ⟨k,hk⟩:∃ k:Nat,Iz (s.extract (i+1) s.size) x=(k:Int):=⟨(Iz (s.extract (i+1) s.size) x).toNat,by omega⟩
  obtain ⟨h1,h2⟩:=Lib.indexByte_some hk
  refine .inr ⟨k,hk,?_,fun q hq hq2 e=>?_⟩
  ·rw [hg];exact (P2 hx).1 h1
  ·have:=h2 (q-(i+1)) (by omega)
   refine this ((P2 hx).2 ?_)
   have:=hg (q-(i+1))
   rw [show i+1+(q-(i+1))=q by omega,e] at this
   exact this.symm
def mtc (bs es:List Nat) (p:Nat) : Bool:=(List.range es.length).all fun j=>bs[p-j]? == es[es.length-1-j]?
def frl (bs es:List Nat) (i:Nat) : Option Nat:=((List.range bs.length).drop i).find? (mtc bs es)
theorem Mx {bs es:List Nat} {i:Nat} (h:bs.length≤i) : frl bs es i=none:=by
 unfold frl
 rw [List.drop_of_length_le (by simpa using h)];rfl
theorem WT {bs es:List Nat} {i:Nat} (h:i<bs.length) (hm:mtc bs es i=true) : frl bs es i=some i:=by
 unfold frl
 rw [lC (by simpa using h),List.getElem_range,List.find?_cons,hm]
theorem UX {bs es:List Nat} {i:Nat} (h:i<bs.length) (hm:mtc bs es i=false) : frl bs es i=frl bs es (i+1):=by
 unfold frl
 rw [lC (by simpa using h),List.getElem_range,List.find?_cons,hm]
theorem NB {bs es:List Nat} : ∀ (d i:Nat),(∀ q,i≤q→q<i+d→mtc bs es q=false)→frl bs es i=frl bs es (i+d)
 | 0,_,_=>rfl
 | d+1,i,h=>by
  by_cases hi:i<bs.length
  ·rw [UX hi (h i (Nat.le_refl _) (by omega)),NB d (i+1) fun q h1 h2=>h q (by omega) (by omega)]
   congr 1;omega
  ·rw [Mx (by omega),Mx (by omega)]
theorem Ny {bs es:List Nat} {p x:Nat} (h0:es≠[]) (hx:es[es.length-1]?=some x) (h:bs[p]?≠some x) : mtc bs es p=false:=by
 have hp:=List.length_pos_iff.2 h0
 unfold mtc
 rw [List.all_eq_false]
 refine ⟨0,List.mem_range.2 hp,?_⟩
 rw [Nat.sub_zero,Nat.sub_zero,hx]
 simpa using h
end Go.FL
namespace Go.FL
open Go Go.Proofs
def Cm (a0:Int) : Option (Int):=(some ((w64 (Int.tdiv (w64 (a0+16)) 8))))
theorem Ga {a0:Int} {r:Int} (h:Cm a0=some r) :
  Fn Tryz.prog 115 [.i .i64 a0] (.d (.i .i64 r)):=by
 unfold Cm at h
 refine Fn.o1 2 6 Tryz.func115 ?_;refine .sr ?_;refine ar [0,2] ?_;refine .sr ?_;refine va ?_;refine vb ?_;refine vk (NK (c:=(8:Int)≠0) (by decide)) ?_;refine ar [2] ?_;refine .ret ?_
 cases h
 exact ⟨rfl,rfl⟩
def Mn (bs:List Nat) (x i:Nat) : Nat:=((bs.take i).filter fun y=>y == x).length
theorem TI {bs:List Nat} {x i j:Nat} (h:i≤j) : Mn bs x i≤Mn bs x j:=by
 unfold Mn
 have:(bs.take i).Sublist (bs.take j):=by
  have e:bs.take i=(bs.take j).take i:=by rw [List.take_take,Nat.min_eq_left h]
  rw [e];exact List.take_sublist _ _
 exact (this.filter _).length_le
theorem Ot {bs:List Nat} {x i:Nat} (h:bs[i]?=some x) : Mn bs x (i+1)=Mn bs x i+1:=by
 obtain ⟨hi,hx⟩:=lS.1 h
 unfold Mn
 rw [List.take_succ_eq_append_getElem hi,List.filter_append,List.length_append,hx]
 simp
theorem Pi {bs es:List Nat} {p:Nat} : mtc bs es p=true↔∀ j,j<es.length→bs[p-j]?=es[es.length-1-j]?:=by
 unfold mtc
 rw [List.all_eq_true]
 constructor
 ·intro h j hj
  have:=h j (List.mem_range.2 hj)
  simpa using this
 ·intro h j hj
  have:=h j (List.mem_range.1 hj)
  simpa using this
def atR (bs es:List Nat) : Int:=match frl bs es (es.length-1) with
 | some p=>(p:Int)-((es.length-1:Nat):Int)
 | none=>-1
set_option maxHeartbeats 1000000 in
theorem QU (s:ByteArray) (r:Int) {es:List Nat} {x:Nat} (h0:128≤r) (hne:r≠65533) (hvr:Dz r=some true) (he:Bd (Utf8.encode r)=es) (n2:2≤es.length) (n4:es.length≤4) (hx:es[es.length-1]?=some x) (hx8:x<256) (hs:s.size≤1000)
  (hcut:∀ i,i≤s.size→Mn (Bd s) x i≤(i+16) / 8):Fn Tryz.prog 67 [.s s,.i .i32 r] (.d (.i .i64 (atR (Bd s) es))):=by
 have hes:(Utf8.encode r).size=es.length:=by rw [← GL,he]
 have hbl:(Bd s).length=s.size:=GL s
 obtain ⟨L,hL⟩:∃ L,es.length=L+1:=⟨es.length-1,by omega⟩
 have hL1:es.length-1=L:=by omega
 have hsub:DV.i .i64 (IntKind.i64.wrap (((Utf8.encode r).size:Int)-1))=.i .i64 (L:Int):=by rw [hes,show IntKind.i64.wrap ((es.length:Int)-1)=(es.length:Int)-1 from G1 (by omega) (by omega),hL];congr 1;omega
 rw [hL1] at hx
 have hne0:es≠[]:=fun q=>by rw [q] at n2;simp at n2
 have hx':es[es.length-1]?=some x:=by rw [hL1];exact hx
 refine Fn.of (rs:=[.tmp 4]) (nt:=187) Tryz.func67 rfl rfl rfl (by simp) rfl ?_;refine .seq ?_;refine .region ?_;refine asd ?_;refine rn ?_;refine .gh (Gh.keep [0,1,4] rfl) ?_;refine .block ?_;refine .seq ?_;refine .region ?_;refine vk (Ah) ?_;refine vk (vbi) ?_
 have hb0:(decide (0≤r))=true:=dT (by omega)
 refine vk (VOK.lit (Ah) hb0) ?_;refine vk (Ah) ?_;refine vk (vbi) ?_;refine vk (Ag) ?_;refine asd ?_;refine rn ?_;refine .gh (Gh.keep [0,1,4,160] rfl) ?_;refine cnf (show decide (r<128)=false from dF (by omega)) ?_;refine .seq ?_;refine .region ?_;refine vk (Ah) ?_;refine vk (vbi) ?_;refine asd ?_;refine rn ?_;refine .gh (Gh.keep [0,1,4,171] rfl) ?_;refine cnf (show decide (r=65533)=false from dF hne) ?_;refine .seq ?_;refine .region ?_;refine vk (Ah) ?_;refine vk (Ak (GY hvr) Tryz.call114) ?_;refine vk (vnt) ?_;refine asd ?_;refine rn ?_;refine .gh (Gh.keep [0,1,4,183] rfl) ?_;refine BZ ?_;refine .scope ?_;refine .seq ?_;refine .region ?_;refine vk (Ah) ?_;refine vk (ZN (by kernel_rfl) stS) ?_;refine asd ?_;refine rn ?_;refine .gh (Gh.keep [0,1,4,7] rfl) ?_;refine .seq ?_;refine .region ?_;refine vk (Ah) ?_;refine vk (X6 stS) ?_;refine vk (PO (.i .i64 (L:Int)) ⟨trivial,hsub⟩) ?_;refine asd ?_;refine rn ?_;refine .gh (Gh.keep [0,1,4,7,8] rfl) ?_;refine .seq ?_;refine .region ?_;refine vk (Ah) ?_;refine asd ?_;refine rn ?_;refine .gh (Gh.keep [0,1,4,7,8,9] rfl) ?_;refine .seq ?_;refine .region ?_;refine asd ?_;refine rn ?_;refine .gh (Gh.keep [0,1,4,7,8,9,10] rfl) ?_;refine .seq ?_;refine .block ?_;refine .loop ?_
 refine AL.ind (σ:=Nat×Nat) (m:=fun p=>s.size+5-p.1) (e:=fun p=>[(0,.d (.s s)),(1,.d (.i .i32 r)),(4,.d (.i .i64 0)),(7,.d (.s (Utf8.encode r))),(8,.d (.i .i64 (L:Int))),(9,.d (.i .i64 (p.1:Int))),(10,.d (.i .i64 (p.2:Int)))]) (h:=fun _=>[]) (I:=fun p=>L≤p.1∧p.1≤s.size+L∧frl (Bd s) es p.1=frl (Bd s) es L∧p.2≤Mn (Bd s) x p.1) ?_ (L,0) ⟨Nat.le_refl _,Nat.le_add_left _ _,rfl,Nat.zero_le _⟩
 rintro ⟨i,fl⟩ ⟨i1,i2,i3,i4⟩ ih
 dsimp only at i1 i2 i3 i4 ih ⊢
 refine .seq ?_;refine .seq ?_;refine .region ?_;refine vk (Ah) ?_;refine vk (Ah) ?_;refine vk (X6 stS) ?_;refine vk (vbi) ?_;refine rn ?_;refine .gh (Gh.keep [0,1,4,7,8,9,10,26] rfl) ?_
 by_cases hlt:i<s.size
 rotate_left
 ·refine cnf (show decide ((i:Int)<((s.size:Nat):Int))=false from dF (by omega)) ?_
  refine .exit ?_;refine aw ?_;refine .seq ?_;refine .seq ?_;refine .region ?_;refine asd ?_;refine rn ?_;refine .gh (Gh.keep [4] rfl) ?_;refine .ret ?_
  have e:atR (Bd s) es=-1:=by unfold atR;rw [hL1,← i3,Mx (by rw [hbl];omega)]
  rw [e]
  exact ⟨rfl,rfl⟩
 refine cnt (show decide ((i:Int)<((s.size:Nat):Int))=true from dT (by omega)) ?_;refine .skip ?_;refine aw ?_;refine .block ?_;refine .scopeJ 0 (fun env H=>∃ (q j:Nat),L≤q∧q<s.size∧i≤q∧(Bd s)[q]?=some x∧frl (Bd s) es q=frl (Bd s) es L∧fl≤Mn (Bd s) x q∧mtc (Bd s) es q=false∧H=[]∧env=[(0,.d (.s s)),(1,.d (.i .i32 r)),(4,.d (.i .i64 0)),(7,.d (.s (Utf8.encode r))),(8,.d (.i .i64 (L:Int))),(9,.d (.i .i64 (q:Int))),(10,.d (.i .i64 (fl:Int))),(12,.d (.i .i64 (j:Int)))]) rfl ?_ ?_
 ·obtain ⟨y,hy⟩:∃ y,(Bd s)[i]?=some y:=⟨_,lG (by rw [hbl];exact hlt)⟩
  refine .seq ?_;refine .seq ?_;refine .drawn 7 Bw (by kernel_rfl) ?_;refine dv (Ah) ?_;refine dv (Ah) ?_;refine dv (VG i y rfl hy stS) ?_;refine dv (Ah) ?_;refine dv (Ah) ?_;refine dv (VG L x rfl (by rw [he];exact hx) stS) ?_;refine dv (vbi) ?_;refine dz ?_;refine rn ?_;refine .gh (Gh.keep [0,1,4,7,8,9,10,33] rfl) ?_;refine AW.mr (σ:=Nat) (fun q=>L≤q∧q<s.size∧i≤q∧(Bd s)[q]?=some x∧frl (Bd s) es q=frl (Bd s) es L∧fl≤Mn (Bd s) x q) (fun q=>[(0,.d (.s s)),(1,.d (.i .i32 r)),(4,.d (.i .i64 0)),(7,.d (.s (Utf8.encode r))),(8,.d (.i .i64 (L:Int))),(9,.d (.i .i64 (q:Int))),(10,.d (.i .i64 (fl:Int)))]) (fun _=>[]) ?_ ?_
  ·skip
   by_cases hyx:y=x
   ·refine cnf (ntf (dT (show (y:Int)=x by omega))) ?_
    refine .gh (Gh.keep [0,1,4,7,8,9,10] rfl) ?_;refine .skip ?_
    exact jr i ⟨i1,hlt,Nat.le_refl _,by rw [hy,hyx],i3,i4⟩
   have hno:mtc (Bd s) es i=false:=Ny hne0 hx' (by rw [hy];exact fun q=>hyx (oI q))
   have hI:=OR (s.extract (i+1) s.size) x
   refine cnt (ntt (dF (show ¬(y:Int)=x by omega))) ?_;refine .seq ?_;refine .drawn 8 Bw (by kernel_rfl) ?_;refine dv (Ah) ?_;refine dv (Ah) ?_;refine dv (vad (m:=(i:Int)) (n:=1) ((i+1:Nat):Int) ⟨by omega,by omega,by omega⟩) ?_;refine dv (Zz (s:=s) (i+1) ⟨rfl,by omega⟩ stS) ?_;refine dv (Ah) ?_;refine dv (Ah) ?_;refine dv (VG L x rfl (by rw [he];exact hx) stS) ?_;refine dv (Ak hI Tryz.call113) ?_;refine dz ?_;refine asd ?_;refine rn ?_;refine .gh (Gh.keep [0,1,4,7,8,9,10,11] rfl) ?_;refine .seq ?_;refine .seq ?_;refine .region ?_;refine vk (Ah) ?_;refine vk (vbi) ?_;refine rn ?_;refine .gh (Gh.keep [0,1,4,7,8,9,10,11,43] rfl) ?_
   rcases UB s i hx8 with ⟨k1,k2⟩|⟨k,k1,k2,k3⟩
   ·refine cnt (show decide (Iz (s.extract (i+1) s.size) x<0)=true from dT (by rw [k1];decide)) ?_
    refine .seq ?_;refine .region ?_;refine asd ?_;refine rn ?_;refine .gh (Gh.keep [4] rfl) ?_;refine .ret ?_
    have e:atR (Bd s) es=-1:=by
     unfold atR
     rw [hL1,← i3,NB (s.size-i) i (fun q q1 q2=>by
      by_cases hq:q=i
      ·subst hq;exact hno
      ·exact Ny hne0 hx' (k2 q (by omega))),Mx (by rw [hbl];omega)]
    rw [e]
    exact ⟨rfl,rfl⟩
   refine cnf (show decide (Iz (s.extract (i+1) s.size) x<0)=false from dF (by rw [k1];omega)) ?_;refine .skip ?_;refine aw ?_
   have hkl:i+1+k<s.size:=by
    have:=(lS.1 k2).1
    rw [hbl] at this;exact this
   refine .region ?_;refine vk (Ah) ?_;refine vk (Ah) ?_;refine vk (vad (m:=Iz (s.extract (i+1) s.size) x) (n:=1) ((k+1:Nat):Int) ⟨by rw [k1];omega,by omega,by omega⟩) ?_;refine vk (vad (m:=(i:Int)) (n:=((k+1:Nat):Int)) ((i+1+k:Nat):Int) ⟨by omega,by omega,by omega⟩) ?_;refine asd ?_;refine RL.gh (Gh.keep [0,1,4,7,8,9,10] rfl) ?_;refine .nil ?_
   refine jr (i+1+k) ⟨by omega,hkl,by omega,k2,?_,nT i4 (TI (by omega))⟩
   rw [← i3,NB (k+1) i (fun q q1 q2=>by
    by_cases hq:q=i
    ·subst hq;exact hno
    ·exact Ny hne0 hx' (k3 q (by omega) (by omega)))]
   congr 1;omega
  rintro q ⟨q1,q2,q3,q4,q5,q6⟩
  refine .seq ?_;refine .seq ?_;refine .region ?_;refine asd ?_;refine rn ?_;refine .gh (Gh.keep [0,1,4,7,8,9,10,12] rfl) ?_;refine .block ?_;refine .loop ?_
  refine AL.ind (σ:=Nat) (m:=fun j=>L+1-j) (e:=fun j=>[(0,.d (.s s)),(1,.d (.i .i32 r)),(4,.d (.i .i64 0)),(7,.d (.s (Utf8.encode r))),(8,.d (.i .i64 (L:Int))),(9,.d (.i .i64 (q:Int))),(10,.d (.i .i64 (fl:Int))),(12,.d (.i .i64 (j:Int)))]) (h:=fun _=>[]) (I:=fun j=>1≤j∧j≤L+1∧∀ t,t<j→(Bd s)[q-t]?=es[es.length-1-t]?) ?_ 1 ⟨by omega,by omega,fun t ht=>by
   have:t=0:=by omega
   subst this
   rw [Nat.sub_zero,Nat.sub_zero,q4,hx']⟩
  rintro j ⟨j1,j2,j3⟩ ih2
  refine .seq ?_;refine .seq ?_;refine .region ?_;refine vk (Ah) ?_;refine vk (Ah) ?_;refine vk (X6 stS) ?_;refine vk (vbi) ?_;refine rn ?_;refine .gh (Gh.keep [0,1,4,7,8,9,10,12,51] rfl) ?_
  by_cases hj:j<L+1
  ·refine cnt (show decide ((j:Int)<(((Utf8.encode r).size:Nat):Int))=true from dT (by rw [hes];omega)) ?_
   refine .skip ?_;refine aw ?_
   obtain ⟨a,hA⟩:∃ a,(Bd s)[q-j]?=some a:=⟨_,lG (by rw [hbl];omega)⟩
   obtain ⟨b,hB⟩:∃ b,es[L-j]?=some b:=⟨_,lG (by omega)⟩
   refine .seq ?_;refine .block ?_;refine .seq ?_;refine .drawn 11 Bw (by kernel_rfl) ?_;refine dv (Ah) ?_;refine dv (Ah) ?_;refine dv (Ah) ?_;refine dv (vsu (m:=(q:Int)) (n:=(j:Int)) (((q-j:Nat)):Int) ⟨by omega,by omega,by omega⟩) ?_;refine dv (VG (q-j) a rfl hA stS) ?_;refine dv (Ah) ?_;refine dv (Ah) ?_;refine dv (Ah) ?_;refine dv (vsu (m:=(L:Int)) (n:=(j:Int)) (((L-j:Nat)):Int) ⟨by omega,by omega,by omega⟩) ?_;refine dv (VG (L-j) b rfl (by rw [he];exact hB) stS) ?_;refine dv (vbi) ?_;refine dz ?_;refine rn ?_;refine .gh (Gh.keep [0,1,4,7,8,9,10,12,64] rfl) ?_
   by_cases hab:a=b
   ·refine cnf (ntf (dT (show (a:Int)=b by omega))) ?_
    refine .skip ?_;refine aw ?_;refine .region ?_;refine vk (Ah) ?_;refine vk (vad (m:=(j:Int)) (n:=1) ((j+1:Nat):Int) ⟨by omega,by omega,by omega⟩) ?_;refine asd ?_;refine .nil ?_;refine AL.gh (Gh.keep [0,1,4,7,8,9,10,12] rfl) ?_
    refine ih2 (j+1) ⟨by omega,by omega,fun t ht=>?_⟩ (by omega)
    by_cases htj:t=j
    ·subst htj;rw [hA,hL1,hB,hab]
    ·exact j3 t (by omega)
   ·refine cnt (ntt (dF (show ¬(a:Int)=b by omega))) ?_
    refine .gh (Gh.keep [0,1,4,7,8,9,10,12] rfl) ?_;refine .goto ?_
    refine ⟨rfl,q,j,q1,q2,q3,q4,q5,q6,?_,rfl,rfl⟩
    cases hm:mtc (Bd s) es q with
    | false=>rfl
    | true =>
     have:=Pi.1 hm j (by omega)
     rw [hA,hL1,hB] at this
     exact absurd (oI this) hab
  refine cnf (show decide ((j:Int)<(((Utf8.encode r).size:Nat):Int))=false from dF (by rw [hes];omega)) ?_;refine .exit ?_;refine aw ?_;refine .seq ?_;refine .seq ?_;refine .region ?_;refine vk (Ah) ?_;refine vk (Ah) ?_;refine vk (vsu (m:=(q:Int)) (n:=(L:Int)) ((q:Int)-(L:Int)) ⟨by omega,by omega,by omega⟩) ?_;refine asd ?_;refine rn ?_;refine .gh (Gh.keep [4] rfl) ?_;refine .ret ?_
  have hm:mtc (Bd s) es q=true:=Pi.2 fun t ht=>j3 t (by omega)
  have e:atR (Bd s) es=(q:Int)-(L:Int):=by unfold atR;rw [hL1,← q5,WT (by rw [hbl];exact q2) hm]
  rw [e]
  exact ⟨rfl,rfl⟩
 ·rintro env' H' ⟨q,j,q1,q2,q3,q4,q5,q6,q7,rfl,rfl⟩
  have hC:=hcut (q+1) (by omega)
  rw [Ot q4] at hC
  have hcu:Cm ((q+1:Nat):Int)=some (((q+1+16) / 8:Nat):Int):=by
   unfold Cm
   have e1:w64 (((q+1:Nat):Int)+16)=((q+1+16:Nat):Int):=by rw [show w64 (((q+1:Nat):Int)+16)=((q+1:Nat):Int)+16 from G1 (by omega) (by omega)];omega
   rw [e1,show Int.tdiv ((q+1+16:Nat):Int) 8=(((q+1+16) / 8:Nat):Int) from rfl,show w64 (((q+1+16) / 8:Nat):Int)=(((q+1+16) / 8:Nat):Int) from G1 (by omega) (by omega)]
  refine .seq ?_;refine .skip ?_;refine aw ?_;refine .seq ?_;refine .region ?_;refine vk (Ah) ?_;refine vk (vad (m:=(fl:Int)) (n:=1) ((fl+1:Nat):Int) ⟨by omega,by omega,by omega⟩) ?_;refine asd ?_;refine rn ?_;refine .gh (Gh.keep [0,1,4,7,8,9,10] rfl) ?_;refine .seq ?_;refine .region ?_;refine vk (Ah) ?_;refine vk (vad (m:=(q:Int)) (n:=1) ((q+1:Nat):Int) ⟨by omega,by omega,by omega⟩) ?_;refine asd ?_;refine rn ?_;refine .gh (Gh.keep [0,1,4,7,8,9,10] rfl) ?_;refine .seq ?_;refine .region ?_;refine vk (Ah) ?_;refine vk (Ah) ?_;refine vk (Ah) ?_;refine vk (Ak (Ga hcu) Tryz.call115) ?_;refine vk (vbi) ?_;refine vk (Ag) ?_
  have hgt:decide ((((q+1+16) / 8:Nat):Int)<((fl+1:Nat):Int))=false:=dF (by omega)
  refine vk (VOK.lit (Ah) hgt) ?_;refine gf4 ?_;refine vk (Ag) ?_;refine vk (Ah) ?_;refine vk (Ah) ?_;refine gf4 ?_;refine gf ?_;refine vk (Ag) ?_;refine vk (Ah) ?_;refine gf4 ?_;refine vk (Ag) ?_;refine vk (Ag) ?_;refine rn ?_;refine .gh (Gh.keep [0,1,4,7,8,9,10,98] rfl) ?_;refine BZ ?_;refine .skip ?_;refine AL.gh (Gh.keep [0,1,4,7,8,9,10] rfl) ?_
  refine ih (q+1,fl+1) ⟨by omega,by omega,?_,?_⟩ (by dsimp only;omega)
  ·dsimp only
   rw [← q5,UX (by rw [hbl];exact q2) q7]
  ·dsimp only
   rw [Ot q4];omega
def XB (s:ByteArray) (b:Int) : Option Int:=some (Iz s b)
theorem VX {s:ByteArray} {b z:Int} (h:XB s b=some z) : Fn Tryz.prog 113 [.s s,.i .u8 b] (.d (.i .i64 z)):=by
 cases h;exact OR s b
def HD (a0:ByteArray) (K0:Int→Option (Int)) : Nat→Int→Nat→Option (Int)
 | 0,_,_=>none
 | k+1,s3,s4=>(if s4<ByteArray.size a0 then (if (W7 a0 s4)=65533 then (some (((s4:Nat):Int))) else (HD a0 K0 k s3 (L7 a0 s4))) else (K0 s3))
def Ps (a0:ByteArray) (a1:Int) : Option (Int):=(if ((decide (0≤a1))&&(decide (a1<128)))=true then ((XB a0 (IntKind.wrap .u8 a1)).bind fun x1=>(some (x1))) else (if a1=65533 then (jn (fun (z2:Int)=>(some ((-1)))) fun K0=>(HD a0 K0 Aw 0 0)) else ((Dz a1).bind fun x5=>(if x5=true then none else (some ((-1)))))))
theorem TR {a0:ByteArray} {a1:Int} {r:Int} (h:Ps a0 a1=some r) :
  Fn Tryz.prog 67 [.s a0,.i .i32 a1] (.d (.i .i64 r)):=by
 unfold Ps at h
 refine Fn.o1 4 187 Tryz.func67 ?_;refine .sr ?_;refine ar [0,1,4] ?_;refine .block ?_;refine .seq ?_;refine AW.mr (σ:=Unit) (fun _=>True) (fun _=>[(0,.d (.s a0)),(1,.d (.i .i32 a1)),(4,.d (.i .i64 0)),(160,.d (.b ((decide (0≤a1))&&(decide (a1<128)))))]) (fun _=>[]) ?_ ?_
 ·skip
  refine .region ?_;refine va ?_;refine vb ?_
  by_cases hc:0≤a1
  ·have hb0:(decide (0≤a1))=true:=(dT hc)
   refine vL hb0 ?_;refine va ?_;refine vb ?_;refine vk Ag ?_;refine asd ?_;refine RL.gk [0,1,4,160] ?_;refine .nil ?_
   exact jr () trivial (by simp only [hb0];rfl)
  have hb0:(decide (0≤a1))=false:=(dF hc)
  refine vL hb0 ?_;refine gf2 ?_;refine vk Ag ?_;refine asd ?_;refine RL.gk [0,1,4,160] ?_;refine .nil ?_
  exact jr () trivial (by simp only [hb0];rfl)
 rintro _ _
 rcases brc h with ⟨hc,h⟩|⟨hc,h⟩
 ·refine cnt hc ?_
  refine .sr ?_;refine va ?_;refine va ?_;refine vk (vcv VA UW) ?_
  obtain ⟨x1,g1,h⟩:=bnd h
  refine vk (Ak (VX g1) Tryz.call113) ?_;refine ar [4] ?_;refine .ret ?_
  cases h
  exact ⟨rfl,rfl⟩
 refine cnf (bf hc) ?_;refine .sr ?_;refine va ?_;refine vb ?_;refine ar [0,1,4,171] ?_
 rcases brc h with ⟨hc,h⟩|⟨hc,h⟩
 ·refine cnt (dT hc) ?_
  refine .seq ?_;refine .sr ?_;refine va ?_;refine vk (Zk st) ?_;refine rk [4,175] ?_
  obtain ⟨K0,hK0,h⟩:=AF h
  refine AW.mr (σ:=Int) (fun p=>K0 p=some r) (fun p=>[(4,.d (.i .i64 p))]) (fun p=>[]) ?_ ?_
  ·skip
   refine .block ?_
   refine .loop (.gk [4,175] ?_)
   refine AL.ind (σ:=Nat×Int×Nat) (m:=fun p=>p.1) (e:=fun p=>[(4,.d (.i .i64 p.2.1)),(175,.it a0 p.2.2)]) (h:=fun p=>[]) (I:=fun p=>HD a0 K0 p.1 p.2.1 p.2.2=some r) ?_ (Aw,0,0) h
   rintro ⟨k,s3,s4⟩ h ih
   dsimp only at h ih ⊢
   rcases k with _|k
   ·rw [HD] at h;cases h
   rw [HD] at h
   refine .sr ?_
   rcases brc h with ⟨hc,h⟩|⟨hc,h⟩
   ·refine nxt ?_ hc
    refine vk vex ?_;refine rk [4,175,176,177] ?_;refine .seq ?_;refine B1 ?_;refine .sk ?_;refine .block ?_;refine .sr ?_;refine vk vex ?_;refine vk vex ?_;refine asd ?_;refine ar [4,5,6,175] ?_;refine .sr ?_;refine va ?_;refine vb ?_;refine rk [4,5,175,181] ?_
    rcases brc h with ⟨hc,h⟩|⟨hc,h⟩
    ·refine cnt (dT hc) ?_
     refine .sr ?_;refine va ?_;refine ar [4,175] ?_;refine .ret ?_
     cases h
     exact ⟨rfl,rfl⟩
    refine cnf (dF hc) ?_;refine .gk [4,175] ?_;refine .skip ?_
    exact ih (k,s3,(L7 a0 s4)) h (Nat.lt_succ_self _)
   refine nxe ?_ hc
   refine vk vex ?_;refine rk [4,175,176,177] ?_;refine .seq ?_;refine BZ ?_;refine .gk [4] ?_;refine .exit ?_
   exact jr (s3) h
  rintro z2 h
  try dsimp only at h ⊢
  subst hK0
  refine aw ?_;refine .sr ?_;refine ar [4] ?_;refine .ret ?_
  cases h
  exact ⟨rfl,rfl⟩
 refine cnf (dF hc) ?_;refine .sr ?_;refine va ?_
 obtain ⟨x5,g5,h⟩:=bnd h
 refine vk (Ak (GY g5) Tryz.call114) ?_;refine vk vnt ?_;refine ar [0,1,4,183] ?_
 rcases brc h with ⟨hc,h⟩|⟨hc,h⟩
 ·exact nomatch h
 refine cnt (ntt (bf hc)) ?_;refine .sr ?_;refine ar [4] ?_;refine .ret ?_
 cases h
 exact ⟨rfl,rfl⟩
theorem Qw {r:Int} (h:128≤r) (hv:Utf8.valid r=true) : 2≤(Bd (Utf8.encode r)).length∧(Bd (Utf8.encode r)).length≤4∧∃ t,t<64∧(Bd (Utf8.encode r))[(Bd (Utf8.encode r)).length-1]?=some (128+t):=by
 have hm:∀ c:Nat,(UInt8.ofNat (128+c % 64)).toNat=128+c % 64:=fun c=>by rw [UInt8.toNat_ofNat',Nat.mod_eq_of_lt (by omega)]
 unfold Utf8.encode
 rw [if_pos hv]
 simp only
 generalize hc:r.toNat=c
 have h8:128≤c:=by omega
 rw [if_neg (show ¬c<128 by omega)]
 split
 ·refine ⟨by simp [Bd],by simp [Bd],c % 64,Nat.mod_lt _ (by decide),?_⟩
  show some (UInt8.ofNat (128+c % 64)).toNat=_
  rw [hm]
 ·split
  ·refine ⟨by simp [Bd],by simp [Bd],c % 64,Nat.mod_lt _ (by decide),?_⟩
   show some (UInt8.ofNat (128+c % 64)).toNat=_
   rw [hm]
  ·refine ⟨by simp [Bd],by simp [Bd],c % 64,Nat.mod_lt _ (by decide),?_⟩
   show some (UInt8.ofNat (128+c % 64)).toNat=_
   rw [hm]
def JG (bs:List Nat) : Bool:=(List.range 64).all fun t=>(List.range (bs.length+1)).all fun i=>Nat.ble (Mn bs (128+t) i) ((i+16) / 8)
theorem Vp {bs:List Nat} (h:JG bs=true) {t i:Nat} (ht:t<64) (hi:i≤bs.length) : Mn bs (128+t) i≤(i+16) / 8:=by
 unfold JG at h
 have h1:=List.all_eq_true.1 h t (List.mem_range.2 ht)
 have h2:=List.all_eq_true.1 h1 i (List.mem_range.2 (by omega))
 exact Nat.le_of_ble_eq_true h2
theorem KA (r:Int) : Dz r=some (Utf8.valid r):=by
 unfold Dz Utf8.valid
 by_cases h1:((decide (0≤r))&&(decide (r<55296)))=true
 ·rw [if_pos h1];simp at h1 ⊢;omega
 ·rw [if_neg h1]
  by_cases h2:((decide (57343<r))&&(decide (r≤1114111)))=true
  ·rw [if_pos h2];simp at h1 h2 ⊢;omega
  ·rw [if_neg h2];simp at h1 h2 ⊢;omega
def HY (s:ByteArray) (r:Int) : Option Int:=if 128≤r∧r≠65533∧Utf8.valid r=true then (if JG (Bd s)=true∧s.size≤1000 then some (atR (Bd s) (Bd (Utf8.encode r))) else none) else Ps s r
theorem T4 {s:ByteArray} {r z:Int} (h:HY s r=some z) : Fn Tryz.prog 67 [.s s,.i .i32 r] (.d (.i .i64 z)):=by
 unfold HY at h
 by_cases h1:128≤r∧r≠65533∧Utf8.valid r=true
 ·rw [if_pos h1] at h
  by_cases h2:JG (Bd s)=true∧s.size≤1000
  ·rw [if_pos h2] at h
   cases h
   obtain ⟨l2,l4,t,ht,hx⟩:=Qw h1.1 h1.2.2
   refine QU s r h1.1 h1.2.1 (by rw [KA,h1.2.2]) rfl l2 l4 hx (by omega) h2.2 fun i hi=>Vp h2.1 ht (by rw [GL];exact hi)
  ·rw [if_neg h2] at h;cases h
 ·rw [if_neg h1] at h
  exact TR h
def Bz (s:ByteArray) (r:Int) : Option Bool:=(HY s r).map fun z=>decide (0≤z)
theorem OQ {s:ByteArray} {r:Int} {b:Bool} (h:Bz s r=some b) : Fn Tryz.prog 29 [.s s,.i .i32 r] (.d (.b b)):=by
 unfold Bz at h
 rcases hz:HY s r with _|z
 ·rw [hz] at h;cases h
 rw [hz] at h
 cases h
 refine Fn.of (rs:=[.tmp 4]) (nt:=9) Tryz.func29 rfl rfl rfl (by simp) rfl ?_;refine .seq ?_;refine .region ?_;refine asd ?_;refine rn ?_;refine .seq ?_;refine .region ?_;refine vk (Ah) ?_;refine vk (Ah) ?_;refine vk (Ak (T4 hz) Tryz.call67) ?_;refine vk (vbi) ?_;refine asd ?_;refine rn ?_;refine .ret ?_
 exact ⟨rfl,rfl⟩
example : Bz ⟨#[226,138,131,226,141,179,226,136,138,126,226,136,170,226,137,161,226,137,162,226,138,164,226,138,165,226,140,183]⟩ 8714=some true:=by kernel_rfl
def V8 : List Nat→Option Nat
 | [a,b]=>some ((a-192) * 64+(b-128))
 | [a,b,c]=>some ((a-224) * 4096+(b-128) * 64+(c-128))
 | [a,b,c,d]=>some ((a-240) * 262144+(b-128) * 4096+(c-128) * 64+(d-128))
 | _=>none
theorem u8n {n:Nat} (h:n<256) : (UInt8.ofNat n).toNat=n:=by rw [UInt8.toNat_ofNat',Nat.mod_eq_of_lt h]
theorem Y3 {a b:Nat} (ha:a<256) (hb:b<256) : Bd (⟨#[UInt8.ofNat a,UInt8.ofNat b]⟩ : ByteArray)=[a,b]:=by
 simp only [Bd,List.map_cons,List.map_nil,u8n ha,u8n hb]
theorem YX {a b c:Nat} (ha:a<256) (hb:b<256) (hc:c<256) : Bd (⟨#[UInt8.ofNat a,UInt8.ofNat b,UInt8.ofNat c]⟩ : ByteArray)=[a,b,c]:=by
 simp only [Bd,List.map_cons,List.map_nil,u8n ha,u8n hb,u8n hc]
theorem Y4 {a b c d:Nat} (ha:a<256) (hb:b<256) (hc:c<256) (hd:d<256) : Bd (⟨#[UInt8.ofNat a,UInt8.ofNat b,UInt8.ofNat c,UInt8.ofNat d]⟩ : ByteArray)=[a,b,c,d]:=by
 simp only [Bd,List.map_cons,List.map_nil,u8n ha,u8n hb,u8n hc,u8n hd]
theorem WU {c:Nat} (h:128≤c) (hv:Utf8.valid (c:Int)=true) : V8 (Bd (Utf8.encode (c:Int)))=some c:=by
 have hc:c≤1114111:=by simp [Utf8.valid] at hv;omega
 unfold Utf8.encode
 rw [if_pos hv]
 simp only [Int.toNat_natCast]
 rw [if_neg (show ¬c<128 by omega)]
 split
 ·rw [Y3 (by omega) (by omega),V8]
  exact congrArg some (by omega)
 ·split
  ·rw [YX (by omega) (by omega) (by omega),V8]
   exact congrArg some (by omega)
  ·rw [Y4 (by omega) (by omega) (by omega) (by omega),V8]
   exact congrArg some (by omega)
theorem WL {bs es:List Nat} {p:Nat} (h:mtc bs es p=true) (h0:0<es.length) (hp:es.length-1≤p) (hp2:p<bs.length) : (bs.drop (p-(es.length-1))).take es.length=es:=by
 have h1:=Pi.1 h
 apply List.ext_getElem?
 intro i
 by_cases hi:i<es.length
 ·have h2:=h1 (es.length-1-i) (by omega)
  rw [List.getElem?_take,if_pos hi,List.getElem?_drop,← show p-(es.length-1-i)=p-(es.length-1)+i by omega,h2]
  congr 1;omega
 ·rw [List.getElem?_eq_none (by rw [List.length_take];omega),List.getElem?_eq_none (by omega)]
def R9 (bs R:List Nat) : Bool:=(List.range bs.length).all fun q=>[2,3,4].all fun n=>match V8 ((bs.drop q).take n) with
 | some c=>!(Bd (Utf8.encode (c:Int)) == (bs.drop q).take n)||R.contains c
 | none=>true
theorem Xh {bs R:List Nat} (h:R9 bs R=true) {c:Nat} (hc:128≤c) (hv:Utf8.valid (c:Int)=true) {p:Nat} (hf:frl bs (Bd (Utf8.encode (c:Int))) ((Bd (Utf8.encode (c:Int))).length-1)=some p) : c∈R:=by
 obtain ⟨l2,l4,_⟩:=Qw (r:=(c:Int)) (by omega) hv
 have hd:=WU hc hv
 generalize he:Bd (Utf8.encode (c:Int))=es at *
 have hm:=List.find?_some hf
 have hmem:=List.mem_of_find?_eq_some hf
 obtain ⟨k,hk,hkp⟩:=List.mem_iff_getElem.1 hmem
 rw [List.getElem_drop,List.getElem_range] at hkp
 rw [List.length_drop,List.length_range] at hk
 have hsub:=WL hm (by omega) (by omega) (by omega)
 have h1:=List.all_eq_true.1 h (p-(es.length-1)) (List.mem_range.2 (by omega))
 have h2:=List.all_eq_true.1 h1 es.length (by
  have:es.length=2∨es.length=3∨es.length=4:=by omega
  rcases this with q|q|q<;>simp [q])
 rw [hsub,hd] at h2
 simp only [he] at h2
 simpa using h2
theorem TO {s:ByteArray} {r:Int} (ha:¬(0≤r∧r<128)) (h6:r≠65533) (hv:¬Utf8.valid r=true) : Bz s r=some false:=by
 have hn:¬(((decide (0≤r))&&(decide (r<128)))=true):=by simp;omega
 have e:HY s r=some (-1):=by
  unfold HY Ps
  rw [if_neg (fun q=>hv q.2.2),if_neg hn,if_neg h6,KA,oB,if_neg hv]
 unfold Bz
 rw [e];rfl
theorem Qv {s:ByteArray} {R:List Nat} (h2:((List.range 128).all fun t=>Bz s (t:Int) == some (R.contains t))=true) {t:Nat} (ht:t<128) (hR:¬t∈R) : Bz s (t:Int)=some false:=by
 have:=List.all_eq_true.1 h2 t (List.mem_range.2 ht)
 have e:R.contains t=false:=by
  cases hct:R.contains t with
  | false=>rfl
  | true=>exact absurd (List.contains_iff_mem.1 hct) hR
 rw [e] at this
 exact eq_of_beq this
theorem Pf {s:ByteArray} {r:Int} (hg:128≤r) (h6:r≠65533) (hv:Utf8.valid r=true) (hc:JG (Bd s)=true) (hs:s.size≤1000) : HY s r=some (atR (Bd s) (Bd (Utf8.encode r))):=by
 unfold HY
 rw [if_pos ⟨hg,h6,hv⟩,if_pos ⟨hc,hs⟩]
theorem Wg {bs es:List Nat} (h:frl bs es (es.length-1)=none) : atR bs es=-1:=by unfold atR;rw [h]
theorem RP {s:ByteArray} {r:Int} (h:HY s r=some (-1)) : Bz s r=some false:=by unfold Bz;rw [h];rfl
theorem UV {bs R:List Nat} (h1:R9 bs R=true) {c:Nat} (hg:128≤c) (hv:Utf8.valid (c:Int)=true) (hR:¬c∈R) : frl bs (Bd (Utf8.encode (c:Int))) ((Bd (Utf8.encode (c:Int))).length-1)=none :=
 match hf:frl bs (Bd (Utf8.encode (c:Int))) ((Bd (Utf8.encode (c:Int))).length-1) with
 | some _=>absurd (Xh h1 hg hv hf) hR
 | none=>rfl
theorem Qy {s:ByteArray} {R:List Nat} (hc:JG (Bd s)=true) (hs:s.size≤1000) (h1:R9 (Bd s) R=true) {c:Nat} (hg:128≤c) (h6:(c:Int)≠65533) (hv:Utf8.valid (c:Int)=true) (hR:¬c∈R) : Bz s (c:Int)=some false :=
 RP ((Pf (Int.ofNat_le.2 hg) h6 hv hc hs).trans (congrArg some (Wg (UV h1 hg hv hR))))
theorem LA {s:ByteArray} {R:List Nat} (hc:JG (Bd s)=true) (hs:s.size≤1000) (h1:R9 (Bd s) R=true) (h2:((List.range 128).all fun t=>Bz s (t:Int) == some (R.contains t))=true) (h3:∀ c∈R,Bz s (c:Int)=some true) (h4:Bz s 65533=some false) (r:Int) : Bz s r=some (decide (∃ c∈R,r=(c:Int))):=by
 by_cases hR:∃ c∈R,r=(c:Int)
 ·obtain ⟨c,hcR,hrc⟩:=hR
  rw [dT ⟨c,hcR,hrc⟩,hrc]
  exact h3 c hcR
 rw [dF hR]
 by_cases ha:0≤r∧r<128
 ·have e:r=(r.toNat:Int):=by omega
  rw [e]
  exact Qv h2 (by omega) fun q=>hR ⟨r.toNat,q,e⟩
 by_cases h6:r=65533
 ·rw [h6];exact h4
 by_cases hv:Utf8.valid r=true
 ·have hg:128≤r:=by simp [Utf8.valid] at hv;omega
  have e:r=(r.toNat:Int):=by omega
  rw [e] at h6 hv ⊢
  exact Qy hc hs h1 (by omega) h6 hv fun q=>hR ⟨r.toNat,q,e⟩
 ·exact TO ha h6 hv
theorem Sv {r:Int} {s:ByteArray} (K:Bool→Option Bool) (hK:∀ b,K b=some false) : ∀ (n k k' pos:Nat) (b:Bool),s.size-pos≤n→n<k→n≤k' →
  Ek r s K k b pos=some (decide (r∈Lh s k' pos))
 | n,0,_,pos,b,_,h,_=>by omega
 | n,k+1,k',pos,b,hn,hk,hk'=>by
  rw [Ek]
  by_cases hlt:pos<s.size
  ·obtain ⟨k'',rfl⟩:∃ k'',k'=k''+1:=⟨k'-1,by omega⟩
   have hg:=Vc s pos
   rw [if_pos hlt,Lh,if_pos hlt]
   by_cases he:W7 s pos=r
   ·rw [if_pos he,dT (by rw [← he];exact List.mem_cons_self ..)]
   ·rw [if_neg he]
    match n,hn with
    | 0,hn=>omega
    | n+1,hn =>
     rw [Sv K hK n k k'' (L7 s pos) b (by omega) (by omega) (by omega)]
     congr 1
     refine decide_eq_decide.2 ⟨fun q=>List.mem_cons_of_mem _ q,fun q=>?_⟩
     rcases List.mem_cons.1 q with h|h
     ·exact absurd h.symm he
     ·exact h
  ·rw [if_neg hlt,hK]
   have:Lh s k' pos=[]:=by
    cases k' with
    | zero=>rfl
    | succ k'=>rw [Lh,if_neg hlt]
   rw [this];simp
theorem WQ {r:Int} {s:ByteArray} (hs:s.size≤1000) : Eo r s=some (decide (r∈MF s)):=by
 unfold Eo
 rw [show ∀ (k:Bool→Option Bool) (b:(Bool→Option Bool)→Option Bool),jn k b=b k from fun _ _=>rfl]
 exact Sv _ (fun _=>rfl) s.size Aw s.size 0 false (by omega) (by unfold Aw;omega) (Nat.le_refl _)
theorem OP {s:ByteArray} {R:List Nat} (hc:JG (Bd s)=true) (hs:s.size≤1000) (h1:R9 (Bd s) R=true) (h2:((List.range 128).all fun t=>Bz s (t:Int) == some (R.contains t))=true) (h3:∀ c∈R,Bz s (c:Int)=some true) (h4:Bz s 65533=some false) (hR:MF s=R.map fun (c:Nat)=>(c:Int)) (r:Int) : Eo r s=Bz s r:=by
 rw [WQ hs,LA hc hs h1 h2 h3 h4 r,hR]
 congr 1
 refine decide_eq_decide.2 ⟨fun q=>?_,fun ⟨c,h5,h6⟩=>?_⟩
 ·obtain ⟨c,h5,h6⟩:=List.mem_map.1 q
  exact ⟨c,h5,h6.symm⟩
 ·exact List.mem_map.2 ⟨c,h5,h6.symm⟩
theorem R3 {a:RT} (ha:Hq a=true) : DZ a=some a:=by
 obtain ⟨_,_,h1,h2⟩:=Hx.1 ha
 unfold DZ
 rw [Dw (by simp;omega),oB,Dw (by simp;omega)];rfl
theorem Un {a:RT} (ha:Hq a=true) : Hr a=some (.mk [] [.mk 1 a 0 []]):=by
 unfold Hr;rw [R3 ha];rfl
theorem OT {z:Int} (h:HE z) : Fs z=some (.mk [] [Gv z]):=by
 unfold Fs;rw [Qh h.1 h.2,oB,Un (HF (Ge h))];rfl
theorem KF {l:List Int} (h:∀ z∈l,HE z) (hl:l.length≤140737488355327) (K:List Itm→Option Arr) : ∀ (n i k:Nat) (t:List Itm),n=l.length-i→i≤l.length→i≤4096→n<k→t.length=i →
  Dq l K k t (i:Int)=K (t++((l.take 4096).drop i).map Gv)
 | _,_,0,_,_,_,_,h,_=>by omega
 | n,i,k+1,t,hn,hi,hm,hk,ht=>by
  rw [Dq]
  have hlen:(l.take 4096).length=min 4096 l.length:=List.length_take
  by_cases hc:i<l.length∧i<4096
  ·have hz:=h _ (List.getElem_mem hc.1)
   have hg:(l.take 4096)[i]'(by omega)=l[i]:=List.getElem_take
   rw [if_pos (by rw [dT (by omega),dT (by omega)];rfl),AY hc.1,oB,OT hz,oB,DN,Mt,oB,Dw (by simp;omega),oB,A4 (by omega),
    KF h hl K (n-1) (i+1) k _ (by omega) (by omega) (by omega) (by omega) (by simp [ht]),lC (by omega:i<(l.take 4096).length),hg,List.append_assoc]
   rfl
  ·rw [if_neg (by
    rw [Bool.and_eq_true,decide_eq_true_eq,decide_eq_true_eq];omega),List.drop_of_length_le (by omega),List.map_nil,List.append_nil]
theorem RA {l:List Int} (h:∀ z∈l,HE z) (hl:l.length≤140737488355327) : Fr l=some (Xe l):=by
 unfold Fr
 rw [A3]
 have:=KF h hl (fun z1=>jn (fun (z8:List Itm)=>some (Arr.mk [((List.length z1:Nat):Int)] z8)) fun K2=>if ((List.length z1:Nat):Int)=0 then ((Fs 0).bind fun x9=>K2 x9.items) else K2 z1) l.length 0 Aw [] rfl (Nat.zero_le _) (Nat.zero_le _) (AS (by omega)) rfl
 rw [show ((0:Nat):Int)=0 from rfl,List.drop_zero,List.nil_append] at this
 rw [this]
 show jn _ _=_
 rw [A3]
 unfold Xe Iv
 have hlen:((l.take 4096).map Gv).length=min l.length 4096:=by rw [List.length_map,List.length_take,Nat.min_comm]
 rw [hlen,List.length_map]
 by_cases h0:l.length=0
 ·rw [if_pos (by omega),if_pos h0,OT Jp];rfl
 ·rw [if_neg (by omega),if_neg h0,List.map_take]
theorem Tj {f:Arr→Option (Arr×Int)} (hf:Oz f) {a:Arr} (oa:okAr a) (ra:AB a) : ∃ r,f a=some (r,0)∧okAr r:=by
 obtain ⟨n,hsz,hl⟩:=Hv ra
 obtain ⟨s',J,h1,h2,h3,h4,h5⟩:=hf hsz
 refine ⟨_,h5 a oa ra rfl,(AK _).2 ⟨h2,h3,?_,?_⟩⟩
 ·have hn4:n≤4096:=by have:=EQ a.shape;rw [hsz] at this;omega
  show (if n=0 then [tyI (a.items.headD default)] else Cq a n J).length≤_
  split
  ·simp
  ·rw [Dk];omega
 ·have o:=(AK a).1 oa
  intro x hx
  have hx':x∈(if n=0 then [tyI (a.items.headD default)] else Cq a n J):=hx
  by_cases h0:n=0
  ·rw [if_pos h0,List.mem_singleton] at hx'
   subst hx'
   exact (H7 (s:=[0]) (xs:=a.items) (fun q=>by have:=Fj ra;rw [q] at this;simp at this) (fun x hx=>CO oa ra hx)) _ (by rw [show (szP [0]).1=0 from rfl];simp [Bc])
  ·rw [if_neg h0] at hx'
   rw [if_neg h0] at hl
   exact o.2.2.2 x (Fq (fun i hi=>by rw [hl];exact (h4 h0).1 i hi) x hx')
theorem W6 {e:Int×RT×Int} {a:Arr} (oa:okAr a) : FP e a a=some (decide ((e.1=0∨e.1=1)∧AB a)):=by
 unfold FP
 rw [GF oa]
 by_cases h0:e.1=0
 ·rw [if_pos h0]
  by_cases hr:AB a
  ·simp [hr,h0]
  ·simp [hr]
 ·rw [if_neg h0]
  by_cases h1:e.1=1
  ·rw [if_pos h1]
   by_cases hr:AB a
   ·simp [hr,h1]
   ·simp [hr]
  ·rw [if_neg h1];simp [h0,h1]
theorem Wp {e:Int×RT×Int} {a:Arr} (oa:okAr a) : DP e [a]=some (decide ((e.1=0∨e.1=1)∧AB a)):=by
 by_cases he:e.1=0∨e.1=1
 ·rw [U8 he (by simp) (by simpa using oa)]
  by_cases hr:AB a
  ·simp [hr,he]
  ·simp [hr]
 ·have h0:¬e.1=0:=fun h=>he (.inl h)
  have h1:¬e.1=1:=fun h=>he (.inr h)
  unfold DP
  rw [if_neg h0,if_neg h1];simp [h0,h1]
theorem Zf (x:Option (Arr×Int)) : (x.bind fun x3=>some (x3.1,x3.2))=x:=by cases x<;>rfl
theorem We {e:Int×RT×Int} {g:Int} {a:Arr} (oa:okAr a) (hM:C8 g=some (decide (∃ c∈([9076,44,9021,8854,9033] : List Nat),g=((c:Nat) : Int)))) : ∃ r,CP e g a=some r∧Dv e g a=some r∧okAr r.1:=by
 have hbad:okAr (.mk [] []):=(AK _).2 ⟨by simp [Arr.shape],by simp [Arr.shape],by simp [Arr.items],by simp [Arr.items]⟩
 have o:=(AK a).1 oa
 -- of a function of the table
 have key:∀ (f:Ed) (rf:Option (Arr×Int)),Ir FI g=some f→(∃ c∈([9076,44,9021,8854,9033]:List Nat),g=((c:Nat):Int))→(AB a→f.g a=rf∧∃ r,rf=some r∧okAr r.1) →
   (AB a→(if g=9076 then ((Fr a.shape).bind fun x3=>(some (x3,(0:Int)))) else (if g=44 then ((ET a.shape).bind fun x4=>((DY ([x4]) a.items).bind fun x5=>(some (x5.1,x5.2)))) else (jn (fun (z6:Bool)=>(if z6=true then (if ((List.length a.shape:Nat):Int)=0 then ((Ex a).bind fun x7=>(some (x7,0))) else ((E3 a (decide (g=8854))).bind fun x8=>((CW a x8).bind fun x9=>(some (x9.1,x9.2))))) else (jn (fun (z10:(List Int))=>((CU a z10 ((List.length z10:Nat):Int)).bind fun x14=>(some (x14.1,x14.2)))) fun K1=>(Bx K1 Aw [] (w64 (((List.length a.shape:Nat):Int)-1)))))) fun K0=>(if g=9021 then (K0 (decide (g=9021))) else (K0 (decide (g=8854)))))))=rf)→∃ r,CP e g a=some r∧Dv e g a=some r∧okAr r.1:=by
  intro f rf ht hg h1 h2
  unfold CP Dv
  rw [ht,WP,Wp oa,oB,hM,dT hg,oB,if_pos rfl,W6 oa,oB]
  by_cases hr:(e.1=0∨e.1=1)∧AB a
  ·obtain ⟨h3,r,h4,h5⟩:=h1 hr.2
   rw [dT hr,if_pos rfl,if_pos rfl,h2 hr.2,Zf,h3]
   exact ⟨r,h4,h4,h5⟩
  ·rw [dF hr,if_neg (by decide),if_neg (by decide)]
   exact ⟨_,rfl,rfl,hbad⟩
 by_cases g1:g=9076
 ·subst g1
  have hi:=Ux (l:=a.shape) o.1 (by omega)
  refine key _ (some (Xe a.shape,0)) rfl ⟨9076,by simp,rfl⟩ (fun ra=>⟨?_,_,rfl,Ww o.1⟩) (fun ra=>?_)
  ·show E6 a=_
   unfold E6;rw [hi];rfl
  ·rw [if_pos rfl,RA o.1 (by omega)];rfl
 by_cases g2:g=44
 ·subst g2
  refine key _ (DR a) rfl ⟨44,by simp,rfl⟩ (fun ra=>⟨rfl,?_⟩) (fun ra=>?_)
  ·obtain ⟨r,h1,h2⟩:=Tj Q7 oa ra;exact ⟨_,h1,h2⟩
  ·obtain ⟨n,hsz,hl⟩:=Hv ra
   have hn4:n≤4096:=by have:=EQ a.shape;rw [hsz] at this;omega
   rw [if_neg (by decide),if_pos rfl,RS,oB,hsz]
   unfold DR
   rw [Ik o.2.1,hsz,oB]
   show ((DY [(n:Int)] a.items).bind _)=((AP [(n:Int)] a.items).bind _)
   rw [Hl (fun z hz=>by rw [List.mem_singleton] at hz;omega) (by simp) o.2.2.1 o.2.2.2]
 -- reversed
 have hrev:∀ (ax:Nat),AB a→a.shape≠[]→ax<a.shape.length→CW a (ax:Int)=BK a (ax:Int):=fun ax ra hne hax=>by
  obtain ⟨n,hsz,hl⟩:=Hv ra
  obtain ⟨hd,h8⟩:=Gj (s:=a.shape) (by rw [hsz])
  have hx:=hd _ (List.getElem_mem hax)
  exact RR oa ra hsz hax (m:=(a.shape[ax]).toNat) (by omega) (by omega)
 by_cases g3:g=9021
 ·subst g3
  refine key _ (Df a) rfl ⟨9021,by simp,rfl⟩ (fun ra=>⟨rfl,?_⟩) (fun ra=>?_)
  ·obtain ⟨r,h1,h2⟩:=Tj Sk oa ra;exact ⟨_,h1,h2⟩
  ·rw [if_neg (by decide),if_neg (by decide),A3,if_pos rfl]
   dsimp only
   rw [if_pos (by decide)]
   unfold Df
   rw [Se o.2.1,oB]
   by_cases h0:a.shape=[]
   ·rw [if_pos (by rw [h0];rfl),Jt oa,F6 oa ra h0];rfl
   ·have hp:=List.length_pos_iff.2 h0
    have hend:E3 a (decide ((9021:Int)=8854))=some ((a.shape.length-1:Nat):Int):=by
     unfold E3
     rw [if_neg (by decide),Bi (by omega) (by omega)];congr 1;omega
    rw [if_neg (by omega),hend,oB,hrev _ ra h0 (by omega)]
 by_cases g4:g=8854
 ·subst g4
  refine key _ (Dg a) rfl ⟨8854,by simp,rfl⟩ (fun ra=>⟨rfl,?_⟩) (fun ra=>?_)
  ·obtain ⟨r,h1,h2⟩:=Tj Qi oa ra;exact ⟨_,h1,h2⟩
  ·rw [if_neg (by decide),if_neg (by decide),A3,if_neg (by decide)]
   dsimp only
   rw [if_pos (by decide)]
   unfold Dg
   by_cases h0:a.shape=[]
   ·rw [if_pos (by rw [h0];rfl),Jt oa,F6 oa ra h0];rfl
   ·have hp:=List.length_pos_iff.2 h0
    have hend:E3 a (decide ((8854:Int)=8854))=some ((0:Nat):Int):=by
     unfold E3
     rw [if_pos (by decide)];rfl
    rw [if_neg (by omega),hend,oB,hrev 0 ra h0 hp];rfl
 by_cases g5:g=9033
 ·subst g5
  refine key _ (B9 a) rfl ⟨9033,by simp,rfl⟩ (fun ra=>⟨rfl,?_⟩) (fun ra=>?_)
  ·obtain ⟨r,h1,h2⟩:=Tj Lq oa ra;exact ⟨_,h1,h2⟩
  ·obtain ⟨n,hsz,hl⟩:=Hv ra
   obtain ⟨hd,h8⟩:=Gj (s:=a.shape) (by rw [hsz])
   rw [if_neg (by decide),if_neg (by decide),A3,if_neg (by decide)]
   dsimp only
   rw [if_neg (by decide),A3,Bi (by omega) (by omega),M0 _ a.shape.length Aw [] (by simp;omega) (AS (by omega)),List.nil_append]
   have hlr:((List.length (up_ ((List.range a.shape.length).reverse)):Nat):Int)=((a.shape.length:Nat):Int):=by rw [Az];simp
   rw [hlr,PJ oa ra hsz,Zf]
 ·have hn:¬∃ c∈([9076,44,9021,8854,9033]:List Nat),g=((c:Nat):Int):=by
   rintro ⟨c,hc,he⟩
   simp only [List.mem_cons,List.not_mem_nil,or_false] at hc
   rcases hc with rfl|rfl|rfl|rfl|rfl
   ·exact g1 he
   ·exact g2 he
   ·exact g3 he
   ·exact g4 he
   ·exact g5 he
  have ht:Ir FI g=none:=by
   unfold Ir FI
   simp [List.find?_cons,Ne.symm g1,Ne.symm g2,Ne.symm g3,Ne.symm g4,Ne.symm g5]
  unfold CP Dv
  rw [ht,hM,dF hn]
  exact ⟨_,rfl,rfl,hbad⟩
def Dy (a0:Int) : Option (Bool):=((Bz (⟨#[226,141,180,44,226,141,170,226,134,145,226,134,147,226,140,189,226,138,150,226,141,137,47,226,140,191,92,226,141,128]⟩ : ByteArray) a0).bind fun x1=>(some (x1)))
theorem E8 {a0:Int} {r:Bool} (h:Dy a0=some r) :
  Fn Tryz.prog 11 [.i .i32 a0] (.d (.b r)):=by
 unfold Dy at h
 refine Fn.o1 2 5 Tryz.func11 ?_;refine .sr ?_;refine ar [0,2] ?_;refine .sr ?_;refine va ?_
 obtain ⟨x1,g1,h⟩:=bnd h
 refine vk (Ak (OQ g1) Tryz.call29) ?_;refine ar [2] ?_;refine .ret ?_
 cases h
 exact ⟨rfl,rfl⟩
def EG (a0:Int) : Option (Bool):=((Bz (⟨#[226,141,180,44,226,140,189,226,138,150,226,141,137]⟩ : ByteArray) a0).bind fun x1=>(some (x1)))
theorem JS {a0:Int} {r:Bool} (h:EG a0=some r) :
  Fn Tryz.prog 9 [.i .i32 a0] (.d (.b r)):=by
 unfold EG at h
 refine Fn.o1 2 5 Tryz.func9 ?_;refine .sr ?_;refine ar [0,2] ?_;refine .sr ?_;refine va ?_
 obtain ⟨x1,g1,h⟩:=bnd h
 refine vk (Ak (OQ g1) Tryz.call29) ?_;refine ar [2] ?_;refine .ret ?_
 cases h
 exact ⟨rfl,rfl⟩
def HN (a0:(Int×RT×Int)) (a1:Int) (a2:Arr) (a3:Arr) : Option (Arr×Int):=((Dy a1).bind fun x1=>(if x1=true then ((DP a0 ([a2,a3])).bind fun x2=>(if x2=true then (if a1=9076 then ((D6 a2).bind fun x3=>(if x3.2=0 then ((AP x3.1 a3.items).bind fun x4=>(some (x4.1,x4.2))) else (some ((Arr.mk [] []),x3.2)))) else (if a1=8593 then none else (if a1=8595 then none else (if a1=9033 then none else none)))) else (some ((Arr.mk [] []),22)))) else (some ((Arr.mk [] []),23))))
theorem Mg {a0:(Int×RT×Int)} {a1:Int} {a2:Arr} {a3:Arr} {r:Arr×Int} (h:HN a0 a1 a2 a3=some r) :
  Fn Tryz.prog 23 [.ag [.i .i64 a0.1,.b a0.2.1.1,.sl (L a0.2.1.2.1),.sl (L a0.2.1.2.2),.i .i64 a0.2.2],.i .i32 a1,.ag [.sl (Is a2.shape),.sl (Its a2.items)],.ag [.sl (Is a3.shape),.sl (Its a3.items)]] (.tup [.d (.ag [.sl (Is r.1.shape),.sl (Its r.1.items)]),.d (.i .i64 r.2)]):=by
 unfold HN at h
 refine Fn.ofC (rs:=[.cell 8 30,.tmp 9]) (nt:=80) Tryz.func23 rfl rfl rfl (by simp) rfl ?_;refine .sr ?_;refine vk vbx ?_;refine vk vbx ?_;refine vk vbx ?_;refine vk (van (Aj AD) AI) ?_;refine ar [1,4,6,7,8,9] ?_;refine .seq ?_;refine .block ?_;refine .sr ?_;refine va ?_
 obtain ⟨x1,g1,h⟩:=bnd h
 refine vk (Ak (E8 g1) Tryz.call11) ?_;refine vk vnt ?_;refine ar [1,4,6,7,8,9,12] ?_
 rcases brc h with ⟨hc,h⟩|⟨hc,h⟩
 ·refine cnf (ntf hc) ?_
  refine .sr ?_;refine vk (AC Nl L2) ?_;refine vk (AC Ac Aa) ?_;refine vk (AC Ac Aa) ?_;refine vk ((C6 (Xg a2 a3) (FQ [a2,a3]) Gt).deep) ?_
  obtain ⟨x2,g2,h⟩:=bnd h
  refine vk (Ak (IW g2) Tryz.call15) ?_;refine vk vnt ?_;refine ar [1,4,6,7,8,9,17] ?_
  rcases brc h with ⟨hc,h⟩|⟨hc,h⟩
  ·refine cnf (ntf hc) ?_
   refine .sk ?_;refine .seq ?_;refine .sr ?_;refine va ?_;refine rk [1,4,6,7,8,9,25] ?_;refine .block ?_;refine .sr ?_;refine vb ?_;refine ar [1,4,6,7,8,9,25,26] ?_
   rcases brc h with ⟨hc,h⟩|⟨hc,h⟩
   ·refine cnt (dT hc) ?_
    refine .sr ?_;refine vk (AC Ac Aa) ?_
    obtain ⟨x3,g3,h⟩:=bnd h
    refine vk (VOK.tupd (vs:=[.sl (Is x3.1),.i .i64 x3.2]) (Ak (Lx g3) Tryz.call54)) ?_;refine va ?_;refine vk vex ?_;refine vk vex ?_;refine asd ?_;refine ar [1,6,7,8,9,10,11] ?_;refine .seq ?_;refine .sr ?_;refine va ?_;refine vb ?_;refine rk [1,6,7,8,9,10,11,34] ?_
    rcases brc h with ⟨hc,h⟩|⟨hc,h⟩
    ·refine cnf (ntf (dT hc)) ?_
     refine .sk ?_;refine .sr ?_;refine va ?_;refine vk (vfa Au) ?_;refine vk (Ai Bp) ?_
     obtain ⟨x4,g4,h⟩:=bnd h
     refine vk (VOK.tupd (vs:=[.ag [.sl (Is x4.1.shape),.sl (Its x4.1.items)],.i .i64 x4.2]) (Ak (G4 g4) Tryz.call35)) ?_;refine vk vex ?_;refine vk vex ?_
     refine stn ?_ Aa (by decide)
     refine ar [1,6,7,8,9] ?_;refine .ret ?_
     cases h
     exact ⟨_,_,⟨.inr rfl,Ac,Aa,p2⟩,rfl,rfl⟩
    refine cnt (ntt (dF hc)) ?_;refine .sr ?_;refine vk (vbd CF AD AI) ?_;refine va ?_
    refine stn ?_ Aa (by decide)
    refine ar [1,6,7,8,9,10] ?_;refine .ret ?_
    cases h
    exact ⟨_,_,⟨.inr rfl,Ac,Aa,p2⟩,rfl,rfl⟩
   refine cnf (dF hc) ?_;refine .sr ?_;refine vb ?_;refine ar [1,4,6,7,8,9,25,43] ?_
   rcases brc h with ⟨hc,h⟩|⟨hc,h⟩
   ·refine cnt (dT hc) ?_
    refine .sr ?_;refine vk (AC Ac Aa) ?_;refine vk (AC Ac Aa) ?_
    exact nomatch h
   refine cnf (dF hc) ?_;refine .sr ?_;refine vb ?_;refine ar [1,4,6,7,8,9,25,50] ?_
   rcases brc h with ⟨hc,h⟩|⟨hc,h⟩
   ·refine cnt (dT hc) ?_
    refine .sr ?_;refine vk (AC Ac Aa) ?_;refine vk (AC Ac Aa) ?_
    exact nomatch h
   refine cnf (dF hc) ?_;refine .sr ?_;refine vb ?_;refine ar [1,4,6,7,8,9,57] ?_
   rcases brc h with ⟨hc,h⟩|⟨hc,h⟩
   ·refine cnt (dT hc) ?_
    refine .sr ?_;refine vk (AC Nl L2) ?_;refine vk (AC Ac Aa) ?_;refine vk (AC Ac Aa) ?_
    exact nomatch h
   refine cnf (dF hc) ?_;refine .sk ?_;refine .seq ?_;refine .drawn 15 Bw (by kernel_rfl) ?_
   exact nomatch h
  refine cnt (ntt (bf hc)) ?_;refine .sr ?_;refine vk (vbd CF AD AI) ?_
  refine stn ?_ Aa (by decide)
  refine ar [1,4,6,7,8,9] ?_;refine .ret ?_
  cases h
  exact ⟨_,_,⟨.inr rfl,Ac,Aa,p2⟩,rfl,rfl⟩
 refine cnt (ntt (bf hc)) ?_;refine .sr ?_;refine vk (vbd CF AD AI) ?_
 refine stn ?_ Aa (by decide)
 refine ar [1,4,6,7,8,9] ?_;refine .ret ?_
 cases h
 exact ⟨_,_,⟨.inr rfl,Ac,Aa,p2⟩,rfl,rfl⟩
def Jk : Option ((Int×RT×Int)):=(some ((1,(false,[],[]),0)))
theorem KX {r:(Int×RT×Int)} (h:Jk=some r) :
  Fn Tryz.prog 24 [] (.d (.ag [.i .i64 r.1,.b r.2.1.1,.sl (L r.2.1.2.1),.sl (L r.2.1.2.2),.i .i64 r.2.2])):=by
 unfold Jk at h
 refine Fn.ofC (rs:=[.cell 0 26]) (nt:=2) Tryz.func24 rfl rfl rfl (by simp) rfl ?_;refine .sr ?_;refine vk (van (Aj Xy) XF) ?_;refine rk [0] ?_;refine .sr ?_;refine vk (vbd Za Xy XF) ?_
 refine stn ?_ L2 (by decide)
 refine rk [0] ?_;refine .ret ?_
 cases h
 exact ⟨_,⟨.inr rfl,Nl,L2,(by decide:(0:Nat)<5)⟩,rfl⟩
def Ia : Option (Bool):=(Jk.bind fun x1=>((Le ([2,2])).bind fun x2=>((Le ([1,2,3])).bind fun x3=>((HN x1 9076 x2 x3).bind fun x4=>(Jk.bind fun x5=>((CP x5 9033 x4.1).bind fun x6=>(Option.bind ((if x4.2=0 then (if x6.2=0 then (if ((List.length x6.1.items:Nat) : Int)=4 then ((Bm x6.1).bind fun x8=>(if x8=true then ((Ex x6.1).bind fun x9=>((Hy x6.1 x9).bind fun x10=>(if x10=true then ((Dy 9066).bind fun x11=>(if x11=true then ((I8 x4.1 x6.1).bind fun x12=>(some (!x12))) else (some false))) else (some false)))) else (some false))) else (some false)) else (some false)) else (some false)) : Option (Bool)) fun (z7:Bool)=>(some (z7)))))))))
theorem N6 {r:Bool} (h:Ia=some r) :
  Fn Tryz.prog 7 [] (.d (.b r)):=by
 unfold Ia at h
 refine Fn.o1 0 51 Tryz.func7 ?_;refine .sr ?_;refine ar [0] ?_;refine .sr ?_
 obtain ⟨x1,g1,h⟩:=bnd h
 refine vk (Ak (KX g1) Tryz.call24) ?_;refine vk ((Lp (Eu [2,2]) CX).deep) ?_
 obtain ⟨x2,g2,h⟩:=bnd h
 refine vk (Ak (Lz g2) Tryz.call25) ?_;refine vk ((Lp (Eu [1,2,3]) CX).deep) ?_
 obtain ⟨x3,g3,h⟩:=bnd h
 refine vk (Ak (Lz g3) Tryz.call25) ?_
 obtain ⟨x4,g4,h⟩:=bnd h
 refine vk (VOK.tupd (vs:=[.ag [.sl (Is x4.1.shape),.sl (Its x4.1.items)],.i .i64 x4.2]) (Ak (Mg g4) Tryz.call23)) ?_;refine va ?_;refine vk vex ?_;refine vk vex ?_;refine vk (van (Aj AD) AI) ?_
 refine stn ?_ Aa (by decide)
 refine ar [0,1,2] ?_;refine .seq ?_
 obtain ⟨x5,g5,h⟩:=bnd h
 obtain ⟨x6,g6,h⟩:=bnd h
 refine .drawnF 7 [5] [(3,.nb [.sl (Is x6.1.shape),.sl (Its x6.1.items)])] [] Bw (by kernel_rfl) rfl ?_;refine dv (Ak (KX g5) Tryz.call24) ?_;refine dv (Jw Ac Aa) ?_;refine dv (VOK.tupd (vs:=[.ag [.sl (Is x6.1.shape),.sl (Its x6.1.items)],.i .i64 x6.2]) (Ak (Hm g6) Tryz.call5)) ?_;refine dv Ah ?_;refine dv vex ?_;refine dv vex ?_;refine dv (van (Aj AD) AI) ?_;refine dz ?_
 refine ⟨?_,?_,?_⟩
 ·intro k hk
  simp only [List.mem_cons,List.not_mem_nil,or_false] at hk
  subst hk
  exact ⟨_,_,_,rfl,rfl,rfl,rfl,rfl,rfl,vex⟩
 ·intro om e hom hge
  cases hom
  exact Vh (cs:=[.sl (Is []),.sl (Its [])]) (cs':=[.sl (Is x6.1.shape),.sl (Its x6.1.items)]) Aa (by decide) rfl ((hge 3 (fun k hk v hv=>by
    simp only [List.mem_cons,List.not_mem_nil,or_false] at hk
    subst hk;exact (by decide:¬(some 19=some 3)) (congrArg (Option.map Prod.fst) hv))).trans rfl) ((congrArg Bo (hge 18 (fun k hk v hv=>by
    simp only [List.mem_cons,List.not_mem_nil,or_false] at hk
    subst hk;exact (by decide:¬(some 19=some 18)) (congrArg (Option.map Prod.fst) hv)))).trans rfl) rfl rfl rfl rfl ⟨rfl,rfl⟩
 refine ar [0,1,2,3,4] ?_;refine .seq ?_;refine .gh (Gh.nbp (t:=3) rfl) ?_
 obtain ⟨z7,hz,h⟩:=bnd h
 refine AW.mr (σ:=Unit) (fun _=>True) (fun _=>[(0,.d (.b z7))]) (fun _=>[]) ?_ ?_
 ·skip
  refine .drawn 31 Bw (by kernel_rfl) ?_;refine dv Ah ?_;refine dv vbi ?_
  rcases brc hz with ⟨hc,hz⟩|⟨hc,hz⟩
  ·have hb0:(decide (x4.2=0))=true:=(dT hc)
   refine dv (VOK.lit (Ah) hb0) ?_;refine dv Ah ?_;refine dv vbi ?_;refine dv Ag ?_
   rcases brc hz with ⟨hc,hz⟩|⟨hc,hz⟩
   ·have hb1:(decide (x6.2=0))=true:=(dT hc)
    refine dv (VOK.lit (Ah) hb1) ?_;refine dv (vfa Au) ?_;refine dv (Ai Bp) ?_;refine dv (A9 (Aq _) (CC _) Ce) ?_;refine dv vbi ?_;refine dv Ag ?_
    rcases brc hz with ⟨hc,hz⟩|⟨hc,hz⟩
    ·have hb2:(decide (((List.length x6.1.items:Nat):Int)=4))=true:=(dT hc)
     refine dv (VOK.lit (Ah) hb2) ?_;refine dv (AC Ac Aa) ?_
     obtain ⟨x8,g8,hz⟩:=bnd hz
     refine dv (Ak (B5 g8) Tryz.call26) ?_;refine dv Ag ?_
     rcases brc hz with ⟨hc,hz⟩|⟨hc,hz⟩
     ·have hb3:x8=true:=hc
      refine dv (VOK.lit (Ah) hb3) ?_;refine dv (AC Ac Aa) ?_;refine dv (AC Ac Aa) ?_
      obtain ⟨x9,g9,hz⟩:=bnd hz
      refine dv (Ak (F7 g9) Tryz.call4) ?_
      obtain ⟨x10,g10,hz⟩:=bnd hz
      refine dv (Ak (Ig g10) Tryz.call8) ?_;refine dv Ag ?_
      rcases brc hz with ⟨hc,hz⟩|⟨hc,hz⟩
      ·have hb4:x10=true:=hc
       refine dv (VOK.lit (Ah) hb4) ?_
       obtain ⟨x11,g11,hz⟩:=bnd hz
       refine dv (Ak (E8 g11) Tryz.call11) ?_;refine dv Ag ?_
       rcases brc hz with ⟨hc,hz⟩|⟨hc,hz⟩
       ·have hb5:x11=true:=hc
        refine dv (VOK.lit (Ah) hb5) ?_;refine dv (Jw Ac Aa) ?_;refine dv (AC Ac Aa) ?_
        obtain ⟨x12,g12,hz⟩:=bnd hz
        refine dv (Ak (Nk g12) Tryz.call27) ?_;refine dv vnt ?_;refine dv Ag ?_;refine dz ?_;refine asd ?_;refine RL.gk [0] ?_;refine .nil ?_
        cases hz
        exact jr () trivial
       have hb5:x11=false:=(bf hc)
       refine dv (VOK.lit (Ah) hb5) ?_;refine dgf ?_;refine dgf ?_;refine dgf ?_;refine dgf ?_;refine dv Ag ?_;refine dz ?_;refine asd ?_;refine RL.gk [0] ?_;refine .nil ?_
       cases hz
       exact jr () trivial
      have hb4:x10=false:=(bf hc)
      refine dv (VOK.lit (Ah) hb4) ?_;refine dgf ?_;refine dv Ag ?_;refine dv Ah ?_;refine dgf ?_;refine dgf ?_;refine dgf ?_;refine dgf ?_;refine dv Ag ?_;refine dz ?_;refine asd ?_;refine RL.gk [0] ?_;refine .nil ?_
      cases hz
      exact jr () trivial
     have hb3:x8=false:=(bf hc)
     refine dv (VOK.lit (Ah) hb3) ?_;refine dgf ?_;refine dgf ?_;refine dgf ?_;refine dgf ?_;refine dv Ag ?_;refine dv Ah ?_;refine dgf ?_;refine dv Ag ?_;refine dv Ah ?_;refine dgf ?_;refine dgf ?_;refine dgf ?_;refine dgf ?_;refine dv Ag ?_;refine dz ?_;refine asd ?_;refine RL.gk [0] ?_;refine .nil ?_
     cases hz
     exact jr () trivial
    have hb2:(decide (((List.length x6.1.items:Nat):Int)=4))=false:=(dF hc)
    refine dv (VOK.lit (Ah) hb2) ?_;refine dgf ?_;refine dgf ?_;refine dv Ag ?_;refine dv Ah ?_;refine dgf ?_;refine dgf ?_;refine dgf ?_;refine dgf ?_;refine dv Ag ?_;refine dv Ah ?_;refine dgf ?_;refine dv Ag ?_;refine dv Ah ?_;refine dgf ?_;refine dgf ?_;refine dgf ?_;refine dgf ?_;refine dv Ag ?_;refine dz ?_;refine asd ?_;refine RL.gk [0] ?_;refine .nil ?_
    cases hz
    exact jr () trivial
   have hb1:(decide (x6.2=0))=false:=(dF hc)
   refine dv (VOK.lit (Ah) hb1) ?_;refine dgf ?_;refine dgf ?_;refine dgf ?_;refine dgf ?_;refine dv Ag ?_;refine dv Ah ?_;refine dgf ?_;refine dgf ?_;refine dv Ag ?_;refine dv Ah ?_;refine dgf ?_;refine dgf ?_;refine dgf ?_;refine dgf ?_;refine dv Ag ?_;refine dv Ah ?_;refine dgf ?_;refine dv Ag ?_;refine dv Ah ?_;refine dgf ?_;refine dgf ?_;refine dgf ?_;refine dgf ?_;refine dv Ag ?_;refine dz ?_;refine asd ?_;refine RL.gk [0] ?_;refine .nil ?_
   cases hz
   exact jr () trivial
  have hb0:(decide (x4.2=0))=false:=(dF hc)
  refine dv (VOK.lit (Ah) hb0) ?_;refine dgf ?_;refine dgf ?_;refine dv Ag ?_;refine dv Ah ?_;refine dgf ?_;refine dgf ?_;refine dgf ?_;refine dgf ?_;refine dv Ag ?_;refine dv Ah ?_;refine dgf ?_;refine dgf ?_;refine dv Ag ?_;refine dv Ah ?_;refine dgf ?_;refine dgf ?_;refine dgf ?_;refine dgf ?_;refine dv Ag ?_;refine dv Ah ?_;refine dgf ?_;refine dv Ag ?_;refine dv Ah ?_;refine dgf ?_;refine dgf ?_;refine dgf ?_;refine dgf ?_;refine dv Ag ?_;refine dz ?_;refine asd ?_;refine RL.gk [0] ?_;refine .nil ?_
  cases hz
  exact jr () trivial
 rintro _ _
 refine .ret ?_
 cases h
 exact ⟨rfl,rfl⟩
end Go.FL
namespace Go.FL
open Go Go.RowKit Go.ChangeShapes Go.WideShapes Go.ChangeAt
section
variable {H:Type}
def OpF (enc:TypeId×Value→H) (P:Program) (W:World) (n:Nat) (t:TypeId) {α:Type} (F:α→List DV) (Q:α→Prop) : Prop :=
 ∀ (fuel:Nat) (cs:List Value) (x:DataW H×List MemPlace),fuel≤n→DataW.trod enc P W 0 (fun _=>true) true fuel t cs=some x→(∀ m∈DataW.weights P t x.1,m≤reachBytes) →
  ∃ a,Q a∧RepAll W (fun b=>b<W.heap.size) (F a) cs∧∀ u∈cs,u.oneCell'=true
variable {enc:TypeId×Value→H} {P:Program} {W:World}
theorem OpF.mono {n m t:Nat} {α:Type} {F:α→List DV} {Q:α→Prop} (h:OpF enc P W n t F Q) (hm:m≤n) : OpF enc P W m t F Q:=fun fuel cs x hf=>h fuel cs x (by omega)
theorem OpF.map {n t:Nat} {α β:Type} {F:α→List DV} {Q:α→Prop} {G:β→List DV} {R:β→Prop} (h:OpF enc P W n t F Q) (f:∀ a,Q a→∃ b,R b∧F a=G b) : OpF enc P W n t G R:=fun fuel cs x hf h1 h2=>by
 obtain ⟨a,q,r,c⟩:=h fuel cs x hf h1 h2
 obtain ⟨b,rb,e⟩:=f a q
 exact ⟨b,rb,e▸r,c⟩
theorem Lc {n t:Nat} {k:IntKind} (ht:P.underlying t=some (.int k)) : OpF enc P W n t (fun z:Int=>[.i k z]) (fun z=>(Lit.int k z).wf=true):=fun fuel cs x _ h _=>by
 obtain ⟨z,rfl,_,hw⟩:=DataW.trod_int ht h
 exact ⟨z,hw,.cons (.i _ _) .nil,by simp [Value.oneCell']⟩
theorem WK {n t:Nat} (ht:P.underlying t=some .bool) : OpF enc P W n t (fun z:Bool=>[.b z]) (fun _=>True):=fun fuel cs x _ h _=>by
 obtain ⟨z,rfl,_⟩:=DataW.trod_bool ht h
 exact ⟨z,trivial,.cons (.b _) .nil,by simp [Value.oneCell']⟩
theorem IN {e:TypeId} : ∀ {ds:List (DataW H)} {d:DataW H},d∈ds→∀ q∈DataW.weights P e d,q∈DataW.weightsAll P e ds
 | d::ds,d',hd,q,hq=>by
  rw [DataW.weightsAll,List.mem_append]
  rcases List.mem_cons.1 hd with rfl|hd
  ·exact .inl hq
  ·exact .inr (IN hd q hq)
theorem Kj {n t e sz:Nat} {α:Type} {F:α→List DV} {Q:α→Prop} (D:α→DV) (ht:P.underlying t=some (.slice e)) (hs:P.cellsOf e=sz) (h0:0<sz) (hD:∀ a,(D a).cells=F a) (h:OpF enc P W n e F Q) :
  OpF enc P W (n+1) t (fun xs:List α=>[.sl (xs.map D)]) (fun xs=>(∀ x∈xs,Q x)∧xs.length * P.bytesOf e≤reachBytes):=by
 intro fuel cs x hf hx hw
 rcases DataW.trod_slice ht hx with ⟨rfl,rfl⟩|⟨a,len,cap,elems,rest,m,rfl,rfl,rfl,hb,hl,hm,hlen,hel,_,_⟩
 ·exact ⟨[],⟨by simp,by simp⟩,.cons (.sl0 _ _) .nil,by simp [Value.oneCell']⟩
 ·simp only [DataW.weights,ht] at hw
  have hroom:(elems.length+rest.length) * P.bytesOf e≤reachBytes:=by
   have:=hw ((elems.length+rest.length) * P.bytesOf e) (by simp)
   exact this
  have each:∀ i,i<len→∃ vs y,W.cells? 0 (a.add (i * P.cellsOf e)) (P.cellsOf e)=some vs∧DataW.trod enc P W 0 (fun _=>true) true m e vs=some y∧∀ q∈DataW.weights P e y.1,q≤reachBytes:=by
   intro i hi
   have h1:=hel i hi
   rw [lG (show i<elems.length by omega)] at h1
   obtain ⟨vs,h2,h3⟩:=Option.bind_eq_some_iff.1 h1
   refine ⟨vs,_,h2,h3,fun q hq=>hw q ?_⟩
   simp only [List.mem_cons,List.mem_append]
   exact .inr (.inl (IN (d:=(elems[i]'(by omega)).1) (List.mem_map_of_mem (List.getElem_mem _)) q hq))
  by_cases hlen0:len=0
  ·subst hlen0
   exact ⟨[],⟨by simp,by simp⟩,.cons (.sl0 _ _) .nil,by simp [Value.oneCell']⟩
  ·obtain ⟨b,off,spot⟩:=a
   have hspot:spot=none:=by
    obtain ⟨vs,y,h1,_,_⟩:=each 0 (by omega)
    obtain ⟨_,k2,k3⟩:=World.cells?_some h1
    have h4:=k3 0 (by omega)
    rw [lG (show 0<vs.length by omega)] at h4
    simpa [Addr.add] using World.cell?_spot h4
   subst hspot
   have build:∀ j,j≤len→∃ (xs:List α) (vs:List Value),xs.length=j∧(∀ x∈xs,Q x)∧Has W b off vs∧RepRows W (fun b=>b<W.heap.size) sz (xs.map D) vs:=by
    intro j
    induction j with
    | zero=>exact fun _=>⟨[],[],rfl,by simp,fun j u hj=>by simp at hj,.nil _⟩
    | succ j ih =>
     intro hj
     obtain ⟨xs,vs,k1,k2,k3,k4⟩:=ih (by omega)
     obtain ⟨us,y,g1,g2,g3⟩:=each j (by omega)
     obtain ⟨_,g4,g5⟩:=World.cells?_some g1
     obtain ⟨x,q1,q2,q3⟩:=h m us y (by omega) g2 g3
     have hvl:=k4.length
     rw [List.length_map,k1] at hvl
     refine ⟨xs++[x],vs++us,by simp [k1],?_,?_,?_⟩
     ·intro z hz
      rcases List.mem_append.1 hz with hz|hz
      ·exact k2 z hz
      ·simp at hz;subst hz;exact q1
     ·intro i u hi
      rw [List.getElem?_append] at hi
      split at hi
      ·exact k3 i u hi
      ·rename_i hge
       have:=g5 (i-vs.length) (by have:=(lS.1 hi).1;omega)
       rw [hi] at this
       rw [← this,hs]
       have e1:off+i=off+j * sz+(i-vs.length):=by omega
       rw [e1,add_plain,add_plain]
     ·rw [List.map_append]
      refine k4.append ?_
      have:=RepRows.cons (sz:=sz) (x:=D x) (xs:=[]) (us:=us) (vs:=[]) (by omega) q3 (by rw [hD];exact q2) (.nil sz)
      simpa using this
   obtain ⟨xs,vs,k1,k2,k3,k4⟩:=build len (Nat.le_refl _)
   have hne:xs≠[]:=fun h=>by subst h;simp at k1;omega
   have hlt:b<W.heap.size:=by
    obtain ⟨us,y,g1,_,_⟩:=each 0 (by omega)
    have:=World.cells?_block g1 (by omega)
    rwa [add_plain] at this
   refine ⟨xs,⟨k2,nT (Nat.mul_le_mul_right _ (by omega)) hroom⟩,.cons ?_ .nil,by simp [Value.oneCell']⟩
   have:=Rep.sl (w:=W) (I:=fun b=>b<W.heap.size) (xs.map D) b off sz cap vs (by simpa using hne) (by rw [List.length_map,k1];exact hl) hlt h0 k3 k4
   rwa [List.length_map,k1] at this
def fTO (P:Program) (t:TypeId) : Option (List (TypeId×Nat)):=match P.underlying t with
 | some (.struct fs)=>some (fs.toList.map fun f=>(f.type,f.offset))
 | _=>none
theorem MV {t:Nat} {l:List (TypeId×Nat)} (h:fTO P t=some l) : ∃ fs,P.underlying t=some (.struct fs)∧fs.toList.map (fun f=>(f.type,f.offset))=l:=by
 unfold fTO at h
 split at h
 ·rename_i fs hu;exact ⟨fs,hu,oI h⟩
 ·cases h
theorem RF {α0 α1:Type} {t n:Nat} {T0 s0:Nat} {F0:α0→List DV} {Q0:α0→Prop} {T1 s1:Nat} {F1:α1→List DV} {Q1:α1→Prop} (ht:fTO P t=some [(T0,0),(T1,s0)]) (hc:P.cellsOf t=s0+s1) (z0:P.cellsOf T0=s0) (h0:OpF enc P W n T0 F0 Q0) (z1:P.cellsOf T1=s1) (h1:OpF enc P W n T1 F1 Q1) :
  OpF enc P W (n+1) t (fun a:α0×α1=>F0 a.1++(F1 a.2)) (fun a=>Q0 a.1∧Q1 a.2):=by
 intro fuel cs x hf h hw
 obtain ⟨fs,hu,hfs⟩:=MV ht
 obtain ⟨xs,m,rfl,rfl,hl,hlen,hfield⟩:=DataW.trod_struct hu h
 have hsz:fs.size=2:=by have:=congrArg List.length hfs;simpa using this
 have hm:m≤n:=by omega
 have each:∀ (i T off:Nat),[(T0,0),(T1,s0)][i]?=some (T,off)→∃ y,DataW.trod enc P W 0 (fun _=>true) true m T ((cs.drop off).take (P.cellsOf T))=some y∧∀ q∈DataW.weights P T y.1,q≤reachBytes:=by
  intro i T off hi
  rw [← hfs] at hi
  obtain ⟨f,hf1,hf2⟩:∃ f,fs[i]?=some f∧(f.type,f.offset)=(T,off):=by
   rw [List.getElem?_map,Option.map_eq_some_iff] at hi
   obtain ⟨f,h1,h2⟩:=hi
   exact ⟨f,by simpa using h1,h2⟩
  cases hf2
  have hi2:i<xs.length:=by have:=(Array.getElem?_eq_some_iff.1 hf1).1;omega
  refine ⟨xs[i],by rw [hfield i f hf1,lG hi2],fun q hq=>hw q ?_⟩
  simp only [DataW.weights,hu]
  exact DataW.weights_mem_each (j:=i) (by simp [hf1]) (by simp [hi2]) q hq
 obtain ⟨y0,e0,w0⟩:=each 0 T0 (0) rfl
 obtain ⟨a0,q0,r0,c0⟩:=h0 m _ y0 hm e0 w0
 rw [z0] at r0 c0
 obtain ⟨y1,e1,w1⟩:=each 1 T1 (s0) rfl
 obtain ⟨a1,q1,r1,c1⟩:=h1 m _ y1 hm e1 w1
 rw [z1] at r1 c1
 have hcs:cs=(cs.drop (0)).take s0++(cs.drop (s0)).take s1:=by
  have hl2:cs.length=s0+s1:=by rw [hl,hc]
  clear each hfield h
  apply List.ext_getElem?
  intro j
  simp only [List.getElem?_append,List.getElem?_take,List.getElem?_drop,List.length_take,List.length_drop]
  repeat' split
  all_goals first|(congr 1;omega)|(rw [List.getElem?_eq_none (by omega)])
 refine ⟨(a0,a1),⟨q0,q1⟩,?_,?_⟩
 ·rw [hcs];exact (r0.append r1)
 ·intro u hu2
  rw [hcs] at hu2
  simp only [List.mem_append] at hu2
  rcases hu2 with hu2|hu2
  ·exact c0 u hu2
  ·exact c1 u hu2
theorem NI {α0 α1 α2:Type} {t n:Nat} {T0 s0:Nat} {F0:α0→List DV} {Q0:α0→Prop} {T1 s1:Nat} {F1:α1→List DV} {Q1:α1→Prop} {T2 s2:Nat} {F2:α2→List DV} {Q2:α2→Prop} (ht:fTO P t=some [(T0,0),(T1,s0),(T2,s0+s1)]) (hc:P.cellsOf t=s0+s1+s2) (z0:P.cellsOf T0=s0) (h0:OpF enc P W n T0 F0 Q0) (z1:P.cellsOf T1=s1) (h1:OpF enc P W n T1 F1 Q1) (z2:P.cellsOf T2=s2) (h2:OpF enc P W n T2 F2 Q2) :
  OpF enc P W (n+1) t (fun a:α0×α1×α2=>F0 a.1++(F1 a.2.1++(F2 a.2.2))) (fun a=>Q0 a.1∧Q1 a.2.1∧Q2 a.2.2):=by
 intro fuel cs x hf h hw
 obtain ⟨fs,hu,hfs⟩:=MV ht
 obtain ⟨xs,m,rfl,rfl,hl,hlen,hfield⟩:=DataW.trod_struct hu h
 have hsz:fs.size=3:=by have:=congrArg List.length hfs;simpa using this
 have hm:m≤n:=by omega
 have each:∀ (i T off:Nat),[(T0,0),(T1,s0),(T2,s0+s1)][i]?=some (T,off)→∃ y,DataW.trod enc P W 0 (fun _=>true) true m T ((cs.drop off).take (P.cellsOf T))=some y∧∀ q∈DataW.weights P T y.1,q≤reachBytes:=by
  intro i T off hi
  rw [← hfs] at hi
  obtain ⟨f,hf1,hf2⟩:∃ f,fs[i]?=some f∧(f.type,f.offset)=(T,off):=by
   rw [List.getElem?_map,Option.map_eq_some_iff] at hi
   obtain ⟨f,h1,h2⟩:=hi
   exact ⟨f,by simpa using h1,h2⟩
  cases hf2
  have hi2:i<xs.length:=by have:=(Array.getElem?_eq_some_iff.1 hf1).1;omega
  refine ⟨xs[i],by rw [hfield i f hf1,lG hi2],fun q hq=>hw q ?_⟩
  simp only [DataW.weights,hu]
  exact DataW.weights_mem_each (j:=i) (by simp [hf1]) (by simp [hi2]) q hq
 obtain ⟨y0,e0,w0⟩:=each 0 T0 (0) rfl
 obtain ⟨a0,q0,r0,c0⟩:=h0 m _ y0 hm e0 w0
 rw [z0] at r0 c0
 obtain ⟨y1,e1,w1⟩:=each 1 T1 (s0) rfl
 obtain ⟨a1,q1,r1,c1⟩:=h1 m _ y1 hm e1 w1
 rw [z1] at r1 c1
 obtain ⟨y2,e2,w2⟩:=each 2 T2 (s0+s1) rfl
 obtain ⟨a2,q2,r2,c2⟩:=h2 m _ y2 hm e2 w2
 rw [z2] at r2 c2
 have hcs:cs=(cs.drop (0)).take s0++((cs.drop (s0)).take s1++(cs.drop (s0+s1)).take s2):=by
  have hl2:cs.length=s0+s1+s2:=by rw [hl,hc]
  clear each hfield h
  apply List.ext_getElem?
  intro j
  simp only [List.getElem?_append,List.getElem?_take,List.getElem?_drop,List.length_take,List.length_drop]
  repeat' split
  all_goals first|(congr 1;omega)|(rw [List.getElem?_eq_none (by omega)])
 refine ⟨(a0,a1,a2),⟨q0,q1,q2⟩,?_,?_⟩
 ·rw [hcs];exact (r0.append (r1.append r2))
 ·intro u hu2
  rw [hcs] at hu2
  simp only [List.mem_append] at hu2
  rcases hu2 with hu2|hu2|hu2
  ·exact c0 u hu2
  ·exact c1 u hu2
  ·exact c2 u hu2
theorem Sc {α0 α1 α2 α3:Type} {t n:Nat} {T0 s0:Nat} {F0:α0→List DV} {Q0:α0→Prop} {T1 s1:Nat} {F1:α1→List DV} {Q1:α1→Prop} {T2 s2:Nat} {F2:α2→List DV} {Q2:α2→Prop} {T3 s3:Nat} {F3:α3→List DV} {Q3:α3→Prop} (ht:fTO P t=some [(T0,0),(T1,s0),(T2,s0+s1),(T3,s0+s1+s2)]) (hc:P.cellsOf t=s0+s1+s2+s3) (z0:P.cellsOf T0=s0) (h0:OpF enc P W n T0 F0 Q0) (z1:P.cellsOf T1=s1) (h1:OpF enc P W n T1 F1 Q1) (z2:P.cellsOf T2=s2) (h2:OpF enc P W n T2 F2 Q2) (z3:P.cellsOf T3=s3) (h3:OpF enc P W n T3 F3 Q3) :
  OpF enc P W (n+1) t (fun a:α0×α1×α2×α3=>F0 a.1++(F1 a.2.1++(F2 a.2.2.1++(F3 a.2.2.2)))) (fun a=>Q0 a.1∧Q1 a.2.1∧Q2 a.2.2.1∧Q3 a.2.2.2):=by
 intro fuel cs x hf h hw
 obtain ⟨fs,hu,hfs⟩:=MV ht
 obtain ⟨xs,m,rfl,rfl,hl,hlen,hfield⟩:=DataW.trod_struct hu h
 have hsz:fs.size=4:=by have:=congrArg List.length hfs;simpa using this
 have hm:m≤n:=by omega
 have each:∀ (i T off:Nat),[(T0,0),(T1,s0),(T2,s0+s1),(T3,s0+s1+s2)][i]?=some (T,off)→∃ y,DataW.trod enc P W 0 (fun _=>true) true m T ((cs.drop off).take (P.cellsOf T))=some y∧∀ q∈DataW.weights P T y.1,q≤reachBytes:=by
  intro i T off hi
  rw [← hfs] at hi
  obtain ⟨f,hf1,hf2⟩:∃ f,fs[i]?=some f∧(f.type,f.offset)=(T,off):=by
   rw [List.getElem?_map,Option.map_eq_some_iff] at hi
   obtain ⟨f,h1,h2⟩:=hi
   exact ⟨f,by simpa using h1,h2⟩
  cases hf2
  have hi2:i<xs.length:=by have:=(Array.getElem?_eq_some_iff.1 hf1).1;omega
  refine ⟨xs[i],by rw [hfield i f hf1,lG hi2],fun q hq=>hw q ?_⟩
  simp only [DataW.weights,hu]
  exact DataW.weights_mem_each (j:=i) (by simp [hf1]) (by simp [hi2]) q hq
 obtain ⟨y0,e0,w0⟩:=each 0 T0 (0) rfl
 obtain ⟨a0,q0,r0,c0⟩:=h0 m _ y0 hm e0 w0
 rw [z0] at r0 c0
 obtain ⟨y1,e1,w1⟩:=each 1 T1 (s0) rfl
 obtain ⟨a1,q1,r1,c1⟩:=h1 m _ y1 hm e1 w1
 rw [z1] at r1 c1
 obtain ⟨y2,e2,w2⟩:=each 2 T2 (s0+s1) rfl
 obtain ⟨a2,q2,r2,c2⟩:=h2 m _ y2 hm e2 w2
 rw [z2] at r2 c2
 obtain ⟨y3,e3,w3⟩:=each 3 T3 (s0+s1+s2) rfl
 obtain ⟨a3,q3,r3,c3⟩:=h3 m _ y3 hm e3 w3
 rw [z3] at r3 c3
 have hcs:cs=(cs.drop (0)).take s0++((cs.drop (s0)).take s1++((cs.drop (s0+s1)).take s2++(cs.drop (s0+s1+s2)).take s3)):=by
  have hl2:cs.length=s0+s1+s2+s3:=by rw [hl,hc]
  clear each hfield h
  apply List.ext_getElem?
  intro j
  simp only [List.getElem?_append,List.getElem?_take,List.getElem?_drop,List.length_take,List.length_drop]
  repeat' split
  all_goals first|(congr 1;omega)|(rw [List.getElem?_eq_none (by omega)])
 refine ⟨(a0,a1,a2,a3),⟨q0,q1,q2,q3⟩,?_,?_⟩
 ·rw [hcs];exact (r0.append (r1.append (r2.append r3)))
 ·intro u hu2
  rw [hcs] at hu2
  simp only [List.mem_append] at hu2
  rcases hu2 with hu2|hu2|hu2|hu2
  ·exact c0 u hu2
  ·exact c1 u hu2
  ·exact c2 u hu2
  ·exact c3 u hu2
theorem S4 {t:TypeId} {v:Value} {d:DataW H} {ps:List MemPlace} {α:Type} {F:α→List DV} {Q:α→Prop} (h:∀ n,OpF enc P W n t F Q) (hv:∃ cs,v=.agg cs)
  (hd:DataW.Trod enc P W 0 (fun _=>true) true t v d ps) (hw:∀ m∈DataW.weights P t d,m≤reachBytes):∃ a,Q a∧Rep W (fun b=>b<W.heap.size) (.ag (F a)) v:=by
 obtain ⟨cs,rfl⟩:=hv
 obtain ⟨fuel,hf⟩:=hd
 obtain ⟨a,q,r,_⟩:=h fuel fuel _ _ (Nat.le_refl _) hf hw
 have:=Rep.ag _ _ r
 exact ⟨a,q,by simpa [Value.cells] using this⟩
end
end Go.FL
namespace Go.FL
open Go Go.Proofs
section
variable {H:Type} {enc:TypeId×Value→H} {W:World}
theorem Us {n:Nat} : OpF enc Tryz.prog W (n+1) 22 (fun a:List Nat=>[.sl (L a)]) (fun a=>okL 35184372087808 a=true):=by
 refine (Kj (α:=Int) (F:=fun z=>[.i .u32 z]) (sz:=1) (fun z=>.i .u32 z) (by kernel_rfl:Tryz.prog.underlying 22=some (.slice 118)) (by kernel_rfl) (by decide) (fun _=>rfl) (Lc (by kernel_rfl))).map fun zs hz=>?_
 obtain ⟨a,h1,h2⟩:=Rb zs hz.1
 refine ⟨a,KS.2 ⟨h1,?_⟩,by rw [← h2]⟩
 have h3:=hz.2
 rw [show Tryz.prog.bytesOf 118=4 by kernel_rfl,show reachBytes=140737488351232 by decide] at h3
 have:=congrArg List.length h2
 rw [List.length_map,Ab] at this
 omega
theorem Ra (n:Nat) : OpF enc Tryz.prog W n 22 (fun a:List Nat=>[.sl (L a)]) (fun a=>okL 35184372087808 a=true):=Us.mono (Nat.le_succ n)
theorem Vn (n:Nat) : OpF enc Tryz.prog W n 24 (fun r:RT=>[.b r.1,.sl (L r.2.1),.sl (L r.2.2)]) (fun r=>Hq r=true):=by
 refine OpF.mono (n:=n+1) ((NI (t:=24) (T0:=4) (T1:=22) (T2:=22) (s0:=1) (s1:=1) (s2:=1) (by kernel_rfl) (by kernel_rfl) (by kernel_rfl) (WK (by kernel_rfl)) (by kernel_rfl) (Ra n) (by kernel_rfl) (Ra n)).map fun r hr=>?_) (Nat.le_succ n)
 exact ⟨r,by rw [Hq,hr.2.1,hr.2.2];rfl,rfl⟩
end
section
variable {H:Type} {enc:TypeId×Value→H} {W:World}
theorem VT {n:Nat} : OpF enc Tryz.prog W (n+1) 27 (fun l:List Int=>[.sl (Is l)]) (fun l=>(∀ z∈l,-9223372036854775808≤z∧z≤9223372036854775807)∧l.length≤17592186044416):=by
 refine (Kj (α:=Int) (F:=fun z=>[.i .i64 z]) (sz:=1) (fun z=>.i .i64 z) (by kernel_rfl:Tryz.prog.underlying 27=some (.slice 3)) (by kernel_rfl) (by decide) (fun _=>rfl) (Lc (by kernel_rfl))).map fun zs hz=>?_
 refine ⟨zs,⟨fun z h=>?_,?_⟩,rfl⟩
 ·have:=hz.1 z h
  simp [Lit.wf,IntKind.min,IntKind.max,IntKind.signed,IntKind.bits] at this
  omega
 ·have h3:=hz.2
  rw [show Tryz.prog.bytesOf 3=8 by kernel_rfl,show reachBytes=140737488351232 by decide] at h3
  omega
theorem Xd (n:Nat) : OpF enc Tryz.prog W n 27 (fun l:List Int=>[.sl (Is l)]) (fun l=>(∀ z∈l,-9223372036854775808≤z∧z≤9223372036854775807)∧l.length≤17592186044416):=VT.mono (Nat.le_succ n)
def cI6 (x:Itm) : List DV:=[.i .u8 x.kind,.b x.num.1,.sl (L x.num.2.1),.sl (L x.num.2.2),.i .i32 x.char,.sl (Ars x.box)]
def cA2 (a:Arr) : List DV:=[.sl (Is a.shape),.sl (Its a.items)]
theorem V7 {n:Nat} (h:OpF enc Tryz.prog W n 30 cA2 okAr) : OpF enc Tryz.prog W (n+1) 40 (fun l:List Arr=>[.sl (Ars l)]) (fun l=>l.length≤2932031007402∧∀ a∈l,okAr a):=by
 refine (Kj (α:=Arr) (F:=cA2) (sz:=2) Arr.dv (by kernel_rfl:Tryz.prog.underlying 40=some (.slice 30)) (by kernel_rfl) (by decide) (fun a=>by rw [Arr.dv_eq];rfl) h).map fun zs hz=>?_
 refine ⟨zs,⟨?_,hz.1⟩,by rw [GP]⟩
 have h3:=hz.2
 rw [show Tryz.prog.bytesOf 30=48 by kernel_rfl,show reachBytes=140737488351232 by decide] at h3
 omega
theorem TC {n:Nat} (h:OpF enc Tryz.prog W n 42 cI6 okI) : OpF enc Tryz.prog W (n+1) 28 (fun l:List Itm=>[.sl (Its l)]) (fun l=>l.length≤1466015503701∧∀ x∈l,okI x):=by
 refine (Kj (α:=Itm) (F:=cI6) (sz:=6) Itm.dv (by kernel_rfl:Tryz.prog.underlying 28=some (.slice 42)) (by kernel_rfl) (by decide) (fun a=>by rw [Itm.dv_eq];rfl) h).map fun zs hz=>?_
 refine ⟨zs,⟨?_,hz.1⟩,by rw [HK]⟩
 have h3:=hz.2
 rw [show Tryz.prog.bytesOf 42=96 by kernel_rfl,show reachBytes=140737488351232 by decide] at h3
 omega
theorem SB : ∀ n,OpF enc Tryz.prog W n 42 cI6 okI∧OpF enc Tryz.prog W n 30 cA2 okAr
 | 0=>by
  constructor <;>
  ·intro fuel cs x hf h _
   obtain rfl:fuel=0:=by omega
   simp [DataW.trod] at h
 | n+1=>by
  obtain ⟨hI,hA⟩:=SB n
  constructor
  ·refine OpF.mono (n:=n+1+1) ((Sc (t:=42) (T0:=39) (T1:=24) (T2:=21) (T3:=40) (s0:=1) (s1:=3) (s2:=1) (s3:=1) (by kernel_rfl) (by kernel_rfl) (by kernel_rfl) (Lc (by kernel_rfl:Tryz.prog.underlying 39=some (.int .u8))) (by kernel_rfl) (Vn (n+1)) (by kernel_rfl) (Lc (by kernel_rfl:Tryz.prog.underlying 21=some (.int .i32))) (by kernel_rfl) (V7 hA)).map fun r hr=>?_) (Nat.le_succ _)
   obtain ⟨k,q,c,b⟩:=r
   obtain ⟨h1,h2,h3,h4⟩:=hr
   refine ⟨.mk k q c b,?_,rfl⟩
   rw [C5]
   refine ⟨?_,h2,?_,h4⟩
   ·simp [Lit.wf,IntKind.min,IntKind.max,IntKind.signed,IntKind.bits] at h1
    show 0≤k∧k<256
    omega
   ·simp [Lit.wf,IntKind.min,IntKind.max,IntKind.signed,IntKind.bits] at h3
    show -2147483648≤c∧c<2147483648
    omega
  ·refine OpF.mono (n:=n+1+1) ((RF (t:=30) (T0:=27) (T1:=28) (s0:=1) (s1:=1) (by kernel_rfl) (by kernel_rfl) (by kernel_rfl) (Xd (n+1)) (by kernel_rfl) (TC hI)).map fun r hr=>?_) (Nat.le_succ _)
   obtain ⟨s,i⟩:=r
   obtain ⟨⟨h1,h2⟩,h3,h4⟩:=hr
   refine ⟨.mk s i,?_,rfl⟩
   rw [AK]
   exact ⟨h1,h2,h3,h4⟩
theorem X7 (n:Nat) : OpF enc Tryz.prog W n 30 (fun a:Arr=>[.sl (Is a.shape),.sl (Its a.items)]) okAr:=(SB n).2
end
section
variable {H:Type} {enc:TypeId×Value→H} {W:World}
theorem X0 (n:Nat) : OpF enc Tryz.prog W n 26 (fun r:Int×RT×Int=>[.i .i64 r.1,.b r.2.1.1,.sl (L r.2.1.2.1),.sl (L r.2.1.2.2),.i .i64 r.2.2]) (fun r=>((Lit.int .i64 r.1).wf=true)∧Hq r.2.1=true∧(Lit.int .i64 r.2.2).wf=true):=by
 refine OpF.mono (n:=n+1) ((NI (t:=26) (T0:=3) (T1:=24) (T2:=3) (s0:=1) (s1:=3) (s2:=1) (by kernel_rfl) (by kernel_rfl) (by kernel_rfl) (Lc (by kernel_rfl:Tryz.prog.underlying 3=some (.int .i64))) (by kernel_rfl) (Vn n) (by kernel_rfl) (Lc (by kernel_rfl:Tryz.prog.underlying 3=some (.int .i64)))).map fun r hr=>?_) (Nat.le_succ n)
 exact ⟨r,hr,rfl⟩
end
end Go.FL
