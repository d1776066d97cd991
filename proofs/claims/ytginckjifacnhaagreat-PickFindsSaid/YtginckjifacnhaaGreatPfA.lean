/-
  Part 1 of the base of the proofs: a logic of our own over the calculus, the contracts of the functions
-/
import Derived.CallsIn
import Derived.OrdersIn
import Derived.Laws.AppendOwn
import Derived.Laws.MakeOwn
import Derived.Below
import Derived.Maps.AppendAt
import Derived.Laws.OwnMore
import Derived.Laws.Small
import Derived.Laws.Cover3
import Derived.Laws.Slices
import Derived.Laws.Strings
import Derived.OwnWalk
import Derived.ArgAppend
import Derived.Great.BuildSlice
import Derived.WalkKit
import Derived.ProofKit
import Derived.OpenShut
import Derived.RangeFuncSeq
import Derived.RangeFuncRecord
import Derived.Laws.IdiomStrings
import Derived.Laws.Concat
import Derived.Laws.Tables
import Derived.Test.YtginckjifacnhaaGreatProg
import Derived.KernelRfl
import Derived.Laws.Runes
import Derived.Laws.RangeAny
import Derived.Laws.Strings2
import Derived.OwnWalkIn
import Derived.TacticsInMore
import Derived.LoopNIn
import Derived.LoopIn
import Derived.Laws.BitsLemmas
import Derived.Lib.EndianBits
import Derived.Lib.TrimU
import Derived.Lib.AppendZerosOnto
import Derived.Lib.Bytealg
import Derived.Lib.Hide
import Derived.Lib.TrimUEq
import Derived.Lib.IndexLaws
import Derived.SizedLaws
set_option linter.unusedVariables false
namespace Go.FL
open Go
inductive DV where
 | b (x:Bool)
 | i (k:IntKind) (n:Int)
 | s (x:ByteArray)
 | sl (xs:List DV)
 | ag (cs:List DV)
 | fn (f:FuncId) (first caps:List DV)
 | nf
 | np
 | ni
 | ptr (cs:List DV)
 | tup (vs:List DV)
 | ifc (t:TypeId) (v:DV)
 | slx (xs sp:List DV)
 | yl (l:Nat)
 | mp (ks vs:List DV)
 deriving Inhabited
def DV.cells : DV→List DV
 | .ag cs=>cs
 | v=>[v]
def Has (w:World) (b o:Nat) (vs:List Value) : Prop:=∀ j u,vs[j]?=some u→w.cell? ⟨b,o+j,none⟩=some u
mutual
inductive Rep (w:World) (I:Nat→Prop) : DV→Value→Prop
 | b (x:Bool):Rep w I (.b x) (.bool x)
 | i (k:IntKind) (n:Int):Rep w I (.i k n) (.int k n)
 | s (x:ByteArray):Rep w I (.s x) (.string x)
 | sl0 (A:Option Addr) (c:Nat):Rep w I (.sl []) (.slice A 0 c)
 | sl (xs:List DV) (bk o sz c:Nat) (vs:List Value) (hne:xs≠[]) (hc:xs.length≤c) (hI:I bk) (hsz:0<sz) (hh:Has w bk o vs) (hr:RepRows w I sz xs vs) :
   Rep w I (.sl xs) (.slice (some ⟨bk,o,none⟩) xs.length c)
 | ag (cs:List DV) (vs:List Value) (h:RepAll w I cs vs):Rep w I (.ag cs) (.agg vs.toArray)
 | fn (f:FuncId) (first caps:List DV) (fs cs:List Value) (h1:RepAll w I first fs) (h2:RepAll w I caps cs):Rep w I (.fn f first caps) (.func (.func f) fs.toArray cs.toArray)
 | nf:Rep w I .nf .nilFunc
 | np:Rep w I .np (.pointer none)
 | ni:Rep w I .ni .nilIface
 | ptr (cs:List DV) (bk o:Nat) (vs:List Value) (hI:I bk) (hh:Has w bk o vs) (hr:RepAll w I cs vs):Rep w I (.ptr cs) (.pointer (some ⟨bk,o,none⟩))
 | tup (vs:List DV) (us:List Value) (h:RepAll w I vs us):Rep w I (.tup vs) (.tuple us.toArray)
 | ifc (t:TypeId) (v:DV) (u:Value) (h:Rep w I v u):Rep w I (.ifc t v) (.iface t u)
 | slx (xs sp:List DV) (bk o sz c:Nat) (vs:List Value) (hc:xs.length+sp.length≤c) (hI:I bk) (hsz:0<sz) (hh:Has w bk o vs) (hr:RepRows w I sz (xs++sp) vs) :
   Rep w I (.slx xs sp) (.slice (some ⟨bk,o,none⟩) xs.length c)
 | yl (l:Nat):Rep w I (.yl l) (.func (.yield l) #[] #[])
 | mp (ks vs ks' vs':List DV) (r:Nat) (es:Array MapEntry) (clock:Nat) (hI:I r) (hh:w.heap[r]?=some (.map es clock)) (hk:RepAll w I ks' (es.toList.map MapEntry.key)) (hv:RepAll w I vs' (es.toList.map MapEntry.val)) (hp:(ks'.zip vs').Perm (ks.zip vs)) (hl:ks.length=vs.length) :
   Rep w I (.mp ks vs) (.map (some r))
inductive RepAll (w:World) (I:Nat→Prop) : List DV→List Value→Prop
 | nil:RepAll w I [] []
 | cons {c:DV} {v:Value} {cs:List DV} {vs:List Value} (h:Rep w I c v) (t:RepAll w I cs vs):RepAll w I (c::cs) (v::vs)
inductive RepRows (w:World) (I:Nat→Prop) : Nat→List DV→List Value→Prop
 | nil (sz:Nat):RepRows w I sz [] []
 | cons {sz:Nat} {x:DV} {xs:List DV} {us vs:List Value} (hl:us.length=sz) (h1:∀ u∈us,u.oneCell'=true) (h:RepAll w I x.cells us) (t:RepRows w I sz xs vs):RepRows w I sz (x::xs) (us++vs)
end
section
variable {w w':World} {I I':Nat→Prop}
theorem Has.keep {b o:Nat} {vs:List Value} (h:Has w b o vs) (hb:w'.heap[b]?=w.heap[b]?) : Has w' b o vs:=fun j u hj=>by
 rw [World.cell?_of_block (w:=w) (w':=w') (a:=⟨b,o+j,none⟩) hb];exact h j u hj
mutual
theorem Rep.keep (hw:∀ b,I b→w'.heap[b]?=w.heap[b]?) (hI:∀ b,I b→I' b) : ∀ {d:DV} {v:Value},Rep w I d v→Rep w' I' d v
 | _,_,.b x=>.b x
 | _,_,.i k n=>.i k n
 | _,_,.s x=>.s x
 | _,_,.sl0 A c=>.sl0 A c
 | _,_,.sl xs bk o sz c vs hne hc hb hsz hh hr=>.sl xs bk o sz c vs hne hc (hI _ hb) hsz (hh.keep (hw _ hb)) (hr.keep hw hI)
 | _,_,.ag cs vs h=>.ag cs vs (h.keep hw hI)
 | _,_,.fn f first caps fs cs h1 h2=>.fn f first caps fs cs (h1.keep hw hI) (h2.keep hw hI)
 | _,_,.nf=>.nf
 | _,_,.np=>.np
 | _,_,.ni=>.ni
 | _,_,.ptr cs bk o vs hb hh hr=>.ptr cs bk o vs (hI _ hb) (hh.keep (hw _ hb)) (hr.keep hw hI)
 | _,_,.tup vs us h=>.tup vs us (h.keep hw hI)
 | _,_,.ifc t v u h=>.ifc t v u (h.keep hw hI)
 | _,_,.slx xs sp bk o sz c vs hc hb hsz hh hr=>.slx xs sp bk o sz c vs hc (hI _ hb) hsz (hh.keep (hw _ hb)) (hr.keep hw hI)
 | _,_,.yl l=>.yl l
 | _,_,.mp ks vs ks' vs' r es c hi hh hk hv hp hl=>.mp ks vs ks' vs' r es c (hI _ hi) ((hw _ hi).trans hh) (hk.keep hw hI) (hv.keep hw hI) hp hl
theorem RepAll.keep (hw:∀ b,I b→w'.heap[b]?=w.heap[b]?) (hI:∀ b,I b→I' b) : ∀ {cs:List DV} {vs:List Value},RepAll w I cs vs→RepAll w' I' cs vs
 | _,_,.nil=>.nil
 | _,_,.cons h t=>.cons (h.keep hw hI) (t.keep hw hI)
theorem RepRows.keep (hw:∀ b,I b→w'.heap[b]?=w.heap[b]?) (hI:∀ b,I b→I' b) : ∀ {sz:Nat} {xs:List DV} {vs:List Value},RepRows w I sz xs vs→RepRows w' I' sz xs vs
 | _,_,_,.nil sz=>.nil sz
 | _,_,_,.cons hl h1 h t=>.cons hl h1 (h.keep hw hI) (t.keep hw hI)
end
theorem RepAll.length : ∀ {cs:List DV} {vs:List Value},RepAll w I cs vs→cs.length=vs.length
 | _,_,.nil=>rfl
 | _,_,.cons _ t=>by simp [t.length]
theorem RepAll.append : ∀ {a:List DV} {u:List Value} {c:List DV} {v:List Value},RepAll w I a u→RepAll w I c v→RepAll w I (a++c) (u++v)
 | _,_,_,_,.nil,k=>k
 | _,_,_,_,.cons h t,k=>.cons h (t.append k)
theorem RepAll.get {cs:List DV} {vs:List Value} (h:RepAll w I cs vs) : ∀ (j:Nat) (c:DV),cs[j]?=some c→∃ v,vs[j]?=some v∧Rep w I c v:=by
 induction cs generalizing vs with
 | nil=>intro j c hj;simp at hj
 | cons x xs ih =>
  cases h with
  | cons h t =>
   intro j c hj
   cases j with
   | zero=>simp at hj;subst hj;exact ⟨_,rfl,h⟩
   | succ j=>exact ih t j c (by simpa using hj)
theorem RepAll.drop : ∀ {cs:List DV} {vs:List Value} (n:Nat),RepAll w I cs vs→RepAll w I (cs.drop n) (vs.drop n)
 | _,_,0,h=>h
 | _,_,_+1,.nil=>.nil
 | _,_,n+1,.cons _ t=>t.drop n
theorem RepAll.take : ∀ {cs:List DV} {vs:List Value} (n:Nat),RepAll w I cs vs→RepAll w I (cs.take n) (vs.take n)
 | _,_,0,_=>.nil
 | _,_,_+1,.nil=>.nil
 | _,_,n+1,.cons h t=>.cons h (t.take n)
theorem RepAll.set {cs:List DV} {vs:List Value} (h:RepAll w I cs vs) (j:Nat) {c:DV} {v:Value} (hv:Rep w I c v) : RepAll w I (cs.set j c) (vs.set j v):=by
 induction cs generalizing vs j with
 | nil=>cases h;simp;exact .nil
 | cons x xs ih =>
  cases h with
  | cons h t =>
   cases j with
   | zero=>exact .cons hv t
   | succ j=>exact .cons h (ih t j)
theorem RepRows.length : ∀ {sz:Nat} {xs:List DV} {vs:List Value},RepRows w I sz xs vs→vs.length=xs.length * sz
 | _,_,_,.nil _=>by simp
 | _,_,_,.cons hl _ _ t=>by simp [t.length,hl,Nat.add_mul,Nat.add_comm]
theorem RepRows.append : ∀ {sz:Nat} {a:List DV} {u:List Value} {c:List DV} {v:List Value},RepRows w I sz a u→RepRows w I sz c v→RepRows w I sz (a++c) (u++v)
 | _,_,_,_,_,.nil _,k=>k
 | _,_,_,_,_,.cons hl h1 h t,k=>by rw [List.cons_append,List.append_assoc];exact .cons hl h1 h (t.append k)
theorem HW {α:Type} (us vs:List α) (n:Nat) : (us++vs).drop (us.length+n)=vs.drop n:=by
 rw [← List.drop_drop,List.drop_left]
theorem L5 {α:Type} (us vs:List α) (n:Nat) : (us++vs).take (us.length+n)=us++vs.take n:=by
 rw [List.take_append,List.take_of_length_le (by omega)];simp
theorem RepRows.drop {sz:Nat} {xs:List DV} {vs:List Value} (h:RepRows w I sz xs vs) (n:Nat) : RepRows w I sz (xs.drop n) (vs.drop (n * sz)):=by
 induction n generalizing xs vs with
 | zero=>simpa using h
 | succ n ih =>
  cases h with
  | nil=>simp;exact .nil _
  | cons hl h1 h t =>
   subst hl
   rw [List.drop_succ_cons,Nat.succ_mul,Nat.add_comm,HW]
   exact ih t
theorem RepRows.take {sz:Nat} {xs:List DV} {vs:List Value} (h:RepRows w I sz xs vs) (n:Nat) : RepRows w I sz (xs.take n) (vs.take (n * sz)):=by
 induction n generalizing xs vs with
 | zero=>simp;exact .nil _
 | succ n ih =>
  cases h with
  | nil=>simp;exact .nil _
  | cons hl h1 h t =>
   subst hl
   rw [List.take_succ_cons,Nat.succ_mul,Nat.add_comm,L5]
   exact .cons rfl h1 h (ih t)
theorem RepRows.get {sz:Nat} {xs:List DV} {vs:List Value} (h:RepRows w I sz xs vs) (n:Nat) (x:DV) (hx:xs[n]?=some x) :
  x.cells.length=sz∧RepAll w I x.cells ((vs.drop (n * sz)).take sz):=by
 induction n generalizing xs vs with
 | zero =>
  cases h with
  | nil=>simp at hx
  | cons hl h1 h t =>
   simp at hx;subst hx;subst hl
   simp [h.length]
   exact h
 | succ n ih =>
  cases h with
  | nil=>simp at hx
  | cons hl h1 h t =>
   subst hl
   rw [Nat.succ_mul,Nat.add_comm,HW]
   exact ih t (by simpa using hx)
theorem RepRows.oneCell {sz:Nat} {xs:List DV} {vs:List Value} (h:RepRows w I sz xs vs) : ∀ u∈vs,u.oneCell'=true:=by
 induction xs generalizing vs with
 | nil=>cases h;simp
 | cons x xs ih =>
  cases h with
  | cons hl h1 h t =>
   intro u hu
   rcases List.mem_append.1 hu with hu|hu
   ·exact h1 u hu
   ·exact ih t u hu
theorem RepRows.set {sz:Nat} {xs:List DV} {vs:List Value} (h:RepRows w I sz xs vs) (n k:Nat) (x x':DV) (u:Value) (hx:xs[n]?=some x) (hk:k<sz) (hu:u.oneCell'=true) {x0:DV}
  (hc:x'.cells=x.cells.set k x0) (hr:Rep w I x0 u):RepRows w I sz (xs.set n x') (vs.set (n * sz+k) u):=by
 induction n generalizing xs vs with
 | zero =>
  cases h with
  | nil=>simp at hx
  | @cons _ y ys us vs' hl h1 h t =>
   simp at hx;subst hx;subst hl
   rw [List.set_cons_zero,Nat.zero_mul,Nat.zero_add,List.set_append_left _ _ (by exact hk)]
   refine .cons (by simp) (fun v hv=>?_) (by rw [hc];exact h.set k hr) t
   rcases List.mem_or_eq_of_mem_set hv with hv|rfl
   ·exact h1 v hv
   ·exact hu
 | succ n ih =>
  cases h with
  | nil=>simp at hx
  | @cons _ y ys us vs' hl h1 h t =>
   subst hl
   have e:(n+1) * us.length+k=us.length+(n * us.length+k):=by rw [Nat.succ_mul];omega
   rw [List.set_cons_succ,e,List.set_append_right _ _ (by omega),Nat.add_sub_cancel_left]
   exact .cons rfl h1 h (ih t (by simpa using hx))
def DV.leaf : DV→Bool
 | .ag _=>false
 | .tup _=>false
 | _=>true
theorem DV.leaf_cells {d:DV} (h:d.leaf=true) : d.cells=[d]:=by cases d<;>first | rfl | simp [DV.leaf] at h
theorem Rep.one {d:DV} {v:Value} (h:Rep w I d v) (hl:d.leaf=true) : v.oneCell'=true:=by cases h<;>first | rfl | simp [DV.leaf] at hl
theorem RepAll.one {ds:List DV} {vs:List Value} (h:RepAll w I ds vs) (hl:ds.all DV.leaf=true) : ∀ u∈vs,u.oneCell'=true:=by
 induction ds generalizing vs with
 | nil=>cases h;simp
 | cons d ds ih =>
  cases h with
  | cons h t =>
   simp only [List.all_cons,Bool.and_eq_true] at hl
   intro u hu
   rcases List.mem_cons.1 hu with rfl|hu
   ·exact h.one hl.1
   ·exact ih t hl.2 u hu
theorem Has.drop {b o:Nat} {vs:List Value} (h:Has w b o vs) (n:Nat) : Has w b (o+n) (vs.drop n):=fun j u hj=>by
 rw [List.getElem?_drop] at hj
 rw [Nat.add_assoc];exact h _ _ hj
theorem Has.take {b o:Nat} {vs:List Value} (h:Has w b o vs) (n:Nat) : Has w b o (vs.take n):=fun j u hj=>by
 rw [List.getElem?_take] at hj
 split at hj
 ·exact h _ _ hj
 ·cases hj
end
inductive Pl where
 | t (n:Nat)
 | c (id off:Nat)
 deriving DecidableEq
inductive AV where
 | un
 | d (v:DV)
 | nl
 | own (e:TypeId) (xs:List DV)
 | ref (p:Pl) (off len:Nat)
 | ep (p:Pl) (i k:Nat)
 | bp (id off:Nat)
 | ag (cs:List AV)
 | fn (f:FuncId) (first caps:List AV)
 | tup (vs:List AV)
 | nb (cs:List DV)
 | it (s:ByteArray) (pos:Nat)
 | om (ks vs:List DV)
 | mr (id:Nat)
 deriving Inhabited
def Bv : Value→List Nat
 | .slice (some a) _ c=>if c=0 then [] else [a.block]
 | _=>[]
def OwnR (w:World) (e:TypeId) (sz:Nat) (v:Value) (n:Nat) (vs:List Value) : Prop :=
 (∃ A,v=.slice A 0 0∧n=0∧vs=[])∨(w.ownsRow 0 e sz v n vs∧∃ g cap,v=.slice (some ⟨g,0,none⟩) n cap∧0<cap)
def Av (P:Program) (e:TypeId) : Nat:=P.cellsOf e
mutual
inductive ARep (P:Program) (w:World) (I:Nat→Prop) (μ:List Nat) : AV→Value→List Nat→Prop
 | un (v:Value):ARep P w I μ .un v []
 | d {v:DV} {u:Value} (h:Rep w I v u):ARep P w I μ (.d v) u []
 | nl:ARep P w I μ .nl (.slice none 0 0) []
 | own (e:TypeId) (xs:List DV) (v:Value) (vs:List Value) (hsz:0<Av P e) (ho:OwnR w e (Av P e) v xs.length vs) (hr:RepRows w I (Av P e) xs vs) :
   ARep P w I μ (.own e xs) v (Bv v)
 | bp (id off blk:Nat) (h:μ[id]?=some blk):ARep P w I μ (.bp id off) (.pointer (some ⟨blk,off,none⟩)) []
 | ag {cs:List AV} {vs:List Value} {bs:List Nat} (h:ARepAll P w I μ cs vs bs):ARep P w I μ (.ag cs) (.agg vs.toArray) bs
 | fn {f:FuncId} {first caps:List AV} {fs cs:List Value} {b1 b2:List Nat} (h1:ARepAll P w I μ first fs b1) (h2:ARepAll P w I μ caps cs b2) :
   ARep P w I μ (.fn f first caps) (.func (.func f) fs.toArray cs.toArray) (b1++b2)
 | tup {vs:List AV} {us:List Value} {bs:List Nat} (h:ARepAll P w I μ vs us bs):ARep P w I μ (.tup vs) (.tuple us.toArray) bs
 | nb (cs:List DV) (blk:Nat) (cells:Array Value) (e:TypeId) (hh:w.heap[blk]?=some (.cells cells e (0,0))) (hr:RepAll w I cs cells.toList):ARep P w I μ (.nb cs) (.pointer (some ⟨blk,0,none⟩)) [blk]
 | it (s:ByteArray) (pos blk:Nat) (hh:w.heap[blk]?=some (.stringIter s pos)):ARep P w I μ (.it s pos) (.pointer (some ⟨blk,0,none⟩)) [blk]
 | om (ks vs ks' vs':List DV) (blk:Nat) (es:Array MapEntry) (clock:Nat) (hh:w.heap[blk]?=some (.map es clock)) (hk:RepAll w I ks' (es.toList.map MapEntry.key)) (hv:RepAll w I vs' (es.toList.map MapEntry.val)) (hp:(ks'.zip vs').Perm (ks.zip vs)) (hl:ks.length=vs.length):ARep P w I μ (.om ks vs) (.map (some blk)) [blk]
 | mr (id blk:Nat) (h:μ[id]?=some blk):ARep P w I μ (.mr id) (.map (some blk)) []
inductive ARepAll (P:Program) (w:World) (I:Nat→Prop) (μ:List Nat) : List AV→List Value→List Nat→Prop
 | nil:ARepAll P w I μ [] [] []
 | cons {c:AV} {v:Value} {cs:List AV} {vs:List Value} {b1 b2:List Nat} (h:ARep P w I μ c v b1) (t:ARepAll P w I μ cs vs b2):ARepAll P w I μ (c::cs) (v::vs) (b1++b2)
end
section
variable {P:Program} {w w':World} {I I':Nat→Prop} {μ μ':List Nat}
theorem OwnR.of {v:Value} {e:TypeId} {sz n:Nat} {vs:List Value} (h:w.ownsRow 0 e sz v n vs) : OwnR w e sz v n vs:=by
 rcases h.2 with ⟨rfl,rfl⟩|⟨g,cap,cur,rfl,h0,hg,hn,rest⟩
 ·exact .inl ⟨none,rfl,rfl,by have:=h.1;simpa using this⟩
 ·by_cases hc:cap=0
  ·subst hc
   have:n=0:=by omega
   subst this
   exact .inl ⟨_,rfl,rfl,by have:=h.1;simpa using this⟩
  ·exact .inr ⟨h,g,cap,rfl,by omega⟩
theorem OwnR.keep {v:Value} {e:TypeId} {sz n:Nat} {vs:List Value} (h:OwnR w e sz v n vs) (hb:∀ b∈Bv v,w'.heap[b]?=w.heap[b]?) : OwnR w' e sz v n vs:=by
 rcases h with h|⟨h,g,cap,rfl,hc⟩
 ·exact .inl h
 ·refine .inr ⟨⟨h.1,?_⟩,g,cap,rfl,hc⟩
  have hc':¬cap=0:=by omega
  rcases h.2 with ⟨h1,_⟩|⟨g',cap',cur,h1,h0,hg,rest⟩
  ·cases h1
  ·simp only [Value.slice.injEq,Option.some.injEq,Addr.mk.injEq] at h1
   obtain ⟨⟨rfl,_⟩,_,rfl⟩:=h1
   exact .inr ⟨g,cap,cur,rfl,h0,(hb g (by simp [Bv,hc'])).trans hg,rest⟩
mutual
theorem ARep.keep (hI:∀ b,I b→I' b) (hw:∀ b,I b→w'.heap[b]?=w.heap[b]?) (hμ:∀ (i b:Nat),μ[i]?=some b→μ'[i]?=some b) :
  ∀ {a:AV} {v:Value} {bs:List Nat},ARep P w I μ a v bs→(∀ b∈bs,w'.heap[b]?=w.heap[b]?)→ARep P w' I' μ' a v bs
 | _,_,_,.un v,_=>.un v
 | _,_,_,.d h,_=>.d (h.keep hw hI)
 | _,_,_,.nl,_=>.nl
 | _,_,_,.own e xs v vs hsz ho hr,hb=>.own e xs v vs hsz (ho.keep hb) (hr.keep hw hI)
 | _,_,_,.bp id off blk h,_=>.bp id off blk (hμ _ _ h)
 | _,_,_,.mr id blk h,_=>.mr id blk (hμ _ _ h)
 | _,_,_,.ag h,hb=>.ag (h.keep hI hw hμ hb)
 | _,_,_,.fn h1 h2,hb=>.fn (h1.keep hI hw hμ fun b hm=>hb b (by simp [hm])) (h2.keep hI hw hμ fun b hm=>hb b (by simp [hm]))
 | _,_,_,.tup h,hb=>.tup (h.keep hI hw hμ hb)
 | _,_,_,.nb cs blk cells e hh hr,hb=>.nb cs blk cells e ((hb blk (by simp)).trans hh) (hr.keep hw hI)
 | _,_,_,.it s pos blk hh,hb=>.it s pos blk ((hb blk (by simp)).trans hh)
 | _,_,_,.om ks vs ks' vs' blk es c hh hk hv hp hl,hb=>.om ks vs ks' vs' blk es c ((hb blk (by simp)).trans hh) (hk.keep hw hI) (hv.keep hw hI) hp hl
theorem ARepAll.keep (hI:∀ b,I b→I' b) (hw:∀ b,I b→w'.heap[b]?=w.heap[b]?) (hμ:∀ (i b:Nat),μ[i]?=some b→μ'[i]?=some b) :
  ∀ {cs:List AV} {vs:List Value} {bs:List Nat},ARepAll P w I μ cs vs bs→(∀ b∈bs,w'.heap[b]?=w.heap[b]?)→ARepAll P w' I' μ' cs vs bs
 | _,_,_,.nil,_=>.nil
 | _,_,_,.cons h t,hb=>.cons (h.keep hI hw hμ fun b hm=>hb b (by simp [hm])) (t.keep hI hw hμ fun b hm=>hb b (by simp [hm]))
end
theorem ARep.own_inv {e:TypeId} {xs:List DV} {v:Value} {bs:List Nat} (h:ARep P w I μ (.own e xs) v bs) : bs=Bv v∧∃ vs,0<Av P e∧OwnR w e (Av P e) v xs.length vs∧RepRows w I (Av P e) xs vs:=by
 cases h with
 | own _ _ _ vs hsz ho hr=>exact ⟨rfl,vs,hsz,ho,hr⟩
theorem ARepAll.length : ∀ {cs:List AV} {vs:List Value} {bs:List Nat},ARepAll P w I μ cs vs bs→cs.length=vs.length
 | _,_,_,.nil=>rfl
 | _,_,_,.cons _ t=>by simp [t.length]
end
end Go.FL
namespace Go.FL
open Go
abbrev Env:=List (Nat×AV)
def get : Env→Nat→AV
 | [],_=>.un
 | (s,v)::r,t=>if s=t then v else get r t
inductive HO where
 | box (cs:List AV)
 | mo (ks vs:List DV)
 deriving Inhabited
abbrev Ab:=List HO
inductive Loc where
 | t (n:Nat)
 | o (id:Nat)
 | r
 deriving DecidableEq
def AB (env:Env) (H:Ab) : Pl→AV
 | .t n=>get env n
 | .c id off=>match H[id]? with
  | some (.box cs)=>cs.getD off .un
  | some (.mo _ _)=>.un
  | none=>.un
def AR (a:Act) (w:World) (μ:List Nat) : Pl→Option Value
 | .t n=>some (a.tmps.getD n undef)
 | .c id off=>(μ[id]?).bind fun b=>w.cell? ⟨b,off,none⟩
def SubV (sz:Nat) (A:Option Addr) (c off len:Nat) (v:Value) : Prop :=
 ∃ A' c',v=.slice A' len c'∧len≤c'∧(off=0→A'=A∧c'=c)∧(0<len→A'=A.map (·.add (off * sz)))
def RefRel (P:Program) (env:Env) (H:Ab) (a:Act) (w:World) (μ:List Nat) (p:Pl) (off len:Nat) (v:Value) : Prop :=
 ∃ e xs A n c,AB env H p=.own e xs∧AR a w μ p=some (.slice A n c)∧off+len≤xs.length ∧
  SubV (Av P e) A c off len v
def Kq (P:Program) (env:Env) (H:Ab) (a:Act) (w:World) (μ:List Nat) (p:Pl) (i k:Nat) (v:Value) : Prop :=
 ∃ e xs b n c,AB env H p=.own e xs∧AR a w μ p=some (.slice (some ⟨b,0,none⟩) n c)∧i<xs.length∧k<Av P e ∧
  v=.pointer (some ⟨b,i * Av P e+k,none⟩)
def TRep (P:Program) (env:Env) (H:Ab) (a:Act) (w:World) (I:Nat→Prop) (μ:List Nat) (O:Nat→Option Loc) (t:Nat) : AV→Prop
 | .ref p off len=>RefRel P env H a w μ p off len (a.tmps.getD t undef)
 | .ep p i k=>Kq P env H a w μ p i k (a.tmps.getD t undef)
 | av=>∃ bs,ARep P w I μ av (a.tmps.getD t undef) bs∧bs.Nodup∧∀ b∈bs,O b=some (.t t)
def MoR (w:World) (I:Nat→Prop) (ks vs:List DV) (blk:Nat) : Prop :=
 ∃ es c,w.heap[blk]?=some (.map es c)∧RepAll w I ks (es.toList.map MapEntry.key)∧RepAll w I vs (es.toList.map MapEntry.val)
theorem MoR.keep {w w':World} {I I':Nat→Prop} {ks vs:List DV} {blk:Nat} (h:MoR w I ks vs blk) (hb:w'.heap[blk]?=w.heap[blk]?) (hw:∀ b,I b→w'.heap[b]?=w.heap[b]?) (hI:∀ b,I b→I' b) : MoR w' I' ks vs blk :=
 let ⟨es,c,g1,g2,g3⟩:=h
 ⟨es,c,hb.trans g1,g2.keep hw hI,g3.keep hw hI⟩
def ORep (P:Program) (w:World) (I:Nat→Prop) (μ:List Nat) : HO→Nat→List Nat→Prop
 | .box cs,blk,bs=>∃ cells e,w.heap[blk]?=some (.cells cells e (0,0))∧ARepAll P w I μ cs cells.toList bs
 | .mo ks vs,blk,bs=>bs=[]∧MoR w I ks vs blk
structure Snap where
 w:World
 I:Nat→Prop
 K:Nat→Prop
 n0:Nat
 ne:Nat
 μ:List Nat
 nt:Nat×Nat
 dfs:List Deferred
 args:List Value:=[]
structure Mem (P:Program) (X:Snap) (H:Ab) (w:World) (I:Nat→Prop) (μ:List Nat) (O:Nat→Option Loc) : Prop where
 prot:∀ b,X.K b→w.heap[b]?=X.w.heap[b]?
 kO:∀ b,X.K b→O b=none
 kI:∀ b,X.K b→I b→X.I b
 mono:∀ b,X.I b→I b
 os:w.os=X.w.os
 tape:w.tape=X.w.tape
 output:w.output=X.w.output
 size:X.w.heap.size≤w.heap.size
 own:∀ b l,O b=some l→b<w.heap.size∧¬I b
 ilt:∀ b,I b→b<w.heap.size
 μlen:μ.length=H.length
 μpre:∀ (i b:Nat),i<X.ne→X.μ[i]?=some b→μ[i]?=some b
 nle:X.ne≤H.length
 heap:∀ id o,H[id]?=some o→∃ blk bs,μ[id]?=some blk∧ORep P w I μ o blk bs ∧
  (X.n0≤id→(blk::bs).Nodup∧∀ b∈blk::bs,O b=some (.o id))∧(id<X.n0→∀ b∈blk::bs,X.K b)
 klt:∀ b,X.K b→b<X.w.heap.size
 n0le:X.n0≤X.ne
structure Sim (P:Program) (X:Snap) (env:Env) (H:Ab) (a:Act) (w:World) (I:Nat→Prop) (μ:List Nat) (O:Nat→Option Loc) : Prop extends Mem P X H w I μ O where
 envr:∀ t,TRep P env H a w I μ O t (get env t)
 nt:a.tmps.size=X.nt.2
 dfs:a.defers=X.dfs∧∀ t,t<X.nt.1→a.tmps.getD t undef=X.args.getD t undef
abbrev okT (p:Nat×Nat) (t:Nat) : Prop:=(Nat.ble p.1 t&&Nat.blt t p.2)=true
theorem Pt {p:Nat×Nat} {t:Nat} (h:okT p t) : p.1≤t:=by simp [okT] at h;exact h.1
theorem RK {p:Nat×Nat} {t:Nat} (h:okT p t) : t<p.2:=by simp [okT,Nat.blt] at h;omega
def om (ro:Option Nat) : Fence:={fn:=fun _=>True,depth:=none,alive:=false,round:=ro}
theorem XS : om none=Fence.wide:=rfl
def Post (P:Program) (X:Snap) (Q:Exit→Env→Ab→Prop) : Exit→Act→World→Prop:=fun e a w =>
 ∃ env H I μ O,Sim P X env H a w I μ O∧Q e env H
structure Cx where
 nt:Nat×Nat
 n0:Nat
 ne:Nat
 ro:Option Nat:=none
def AW (P:Program) (C:Cx) (c:Code) (Q:Exit→Env→Ab→Prop) (env:Env) (H:Ab) : Prop :=
 ∀ X a w I μ O,X.nt=C.nt→X.n0=C.n0→X.ne=C.ne→Sim P X env H a w I μ O→c.wpIn (om C.ro) 0 P (Post P X Q) a w
section
variable {P:Program} {C:Cx} {Q:Exit→Env→Ab→Prop} {env:Env} {H:Ab}
theorem AW.mono {c:Code} {Q':Exit→Env→Ab→Prop} (h:AW P C c Q env H) (hq:∀ e env H,Q e env H→Q' e env H) : AW P C c Q' env H :=
 fun X a w I μ O h1 h2 h3 hs=>wpIn_mono (h X a w I μ O h1 h2 h3 hs) fun _ _ _ ⟨env,H,I,μ,O,s,q⟩=>⟨env,H,I,μ,O,s,hq _ _ _ q⟩
theorem AW.skip (h:Q .normal env H) : AW P C .skip Q env H:=fun _ _ _ I μ O _ _ _ hs=>wpIn_skip ⟨env,H,I,μ,O,hs,h⟩
theorem AW.exit {id:Nat} (h:Q (.exit id) env H) : AW P C (.exit id) Q env H:=fun _ _ _ I μ O _ _ _ hs=>wpIn_exit ⟨env,H,I,μ,O,hs,h⟩
theorem AW.ret (h:Q .ret env H) : AW P C .ret Q env H:=fun _ _ _ I μ O _ _ _ hs=>wpIn_ret ⟨env,H,I,μ,O,hs,h⟩
def FB (K:Env→Ab→Prop) (Q:Exit→Env→Ab→Prop) : Exit→Env→Ab→Prop
 | .normal,env,H=>K env H
 | e,env,H=>Q e env H
def SR (id:Nat) (Q:Exit→Env→Ab→Prop) : Exit→Env→Ab→Prop
 | .exit id',env,H=>if id'=id then Q .normal env H else Q (.exit id') env H
 | e,env,H=>Q e env H
theorem AW.seq {x y:Code} (h:AW P C x (FB (AW P C y Q) Q) env H) : AW P C (.seq x y) Q env H:=fun X a w I μ O h1 h2 h3 hs =>
 wpIn_seq (wpIn_mono (h X a w I μ O h1 h2 h3 hs) fun e _ _ ⟨env',H',I',μ',O',s,q⟩=>by
  cases e with
  | normal=>exact q X _ _ I' μ' O' h1 h2 h3 s
  | _=>exact ⟨env',H',I',μ',O',s,q⟩)
theorem AW.block {id:Nat} {c:Code} (h:AW P C c (SR id Q) env H) : AW P C (.block id c) Q env H:=fun X a w I μ O h1 h2 h3 hs =>
 wpIn_block (wpIn_mono (h X a w I μ O h1 h2 h3 hs) fun e _ _ ⟨env',H',I',μ',O',s,q⟩=>by
  cases e with
  | exit id' =>
   simp only [Exit.inBlock]
   simp only [SR] at q
   split
   ·rename_i he;rw [if_pos he] at q;exact ⟨env',H',I',μ',O',s,q⟩
   ·rename_i he;rw [if_neg he] at q;exact ⟨env',H',I',μ',O',s,q⟩
  | _=>exact ⟨env',H',I',μ',O',s,q⟩)
theorem Sim.bool {X:Snap} {a:Act} {w:World} {I:Nat→Prop} {μ:List Nat} {O:Nat→Option Loc} (hs:Sim P X env H a w I μ O) {t:Nat} {x:Bool} (h:get env t=.d (.b x)) :
  a.eval (.tmp t)=.bool x:=by
 have:=hs.envr t
 rw [h] at this
 obtain ⟨bs,hr,_⟩:=this
 show a.tmps.getD t undef=_
 generalize a.tmps.getD t undef=v at hr
 cases hr with
 | d h=>cases h;rfl
theorem AW.cond {t:Nat} {x:Bool} {c1 c2:Code} (hx:get env t=.d (.b x)) (h1:x=true→AW P C c1 Q env H) (h2:x=false→AW P C c2 Q env H) :
  AW P C (.cond (.tmp t) c1 c2) Q env H:=fun X a w I μ O g1 g2 g3 hs =>
 wpIn_cond_split (t:=x) (hs.bool hx) (fun e=>h1 e X a w I μ O g1 g2 g3 hs) (fun e=>h2 e X a w I μ O g1 g2 g3 hs)
def LB (F:Fence) (n:Nat) (P:Program) (c:Code) (Q:Exit→Act→World→Prop) (a:Act) (w:World) : Prop :=
 ∀ (b:Frame) (k:List Item) (cs:List Frame),b.roundOf=F.round→F.fn b.fn→F.room (cs.length+1+n) →
  ∃ e a' w',Q e a' w'∧ArrivesIn (Machine.fenced P F) P (lone (b.atR a (.code c::.inLoop c::k)) cs w) b k cs e a' w'
theorem LB.loop {F:Fence} {n:Nat} {c:Code} {Q:Exit→Act→World→Prop} {a:Act} {w:World} (h:LB F n P c Q a w) : (Code.loop c).wpIn F n P Q a w:=fun b k cs hro hb hr =>
 let ⟨e,a',w',q,r⟩:=h b k cs hro hb hr
 ⟨e,a',w',q,.of_steps (.one (fenced_calm hb hr rfl) stepR_loop) r⟩
theorem LB.round {F:Fence} {n:Nat} {c:Code} {Q:Exit→Act→World→Prop} {a:Act} {w:World} (h:c.wpIn F n P (Exit.then (LB F n P c Q) Q) a w) : LB F n P c Q a w:=by
 intro b k cs hro hb hr
 obtain ⟨e,a₁,w₁,hq,harr⟩:=h b (.inLoop c::k) cs hro hb hr
 cases e with
 | normal =>
  obtain ⟨e₂,a₂,w₂,hq₂,harr₂⟩:=hq b k cs hro hb hr
  exact ⟨e₂,a₂,w₂,hq₂,.of_steps (StepsIn.trans harr (.one (fenced_calm hb hr rfl) stepR_inLoop)) harr₂⟩
 | exit id=>exact ⟨_,a₁,w₁,hq,.pass (x:=.inLoop c) rfl (fun _ _=>.inl (by simp)) harr⟩
 | goto l=>exact ⟨_,a₁,w₁,hq,.pass (x:=.inLoop c) rfl (fun _ _=>.inl (by simp)) harr⟩
 | ret=>exact ⟨_,a₁,w₁,hq,.pass (x:=.inLoop c) rfl (fun _ _=>.inl (by simp)) harr⟩
 | panic ch=>exact ⟨_,a₁,w₁,hq,.pass (x:=.inLoop c) rfl (fun _ _=>.inl (by simp)) harr⟩
 | outgrown=>exact ⟨_,a₁,w₁,hq,.pass (x:=.inLoop c) rfl (fun _ _=>.inl (by simp)) harr⟩
def AL (P:Program) (C:Cx) (c:Code) (Q:Exit→Env→Ab→Prop) (env:Env) (H:Ab) : Prop :=
 ∀ X a w I μ O,X.nt=C.nt→X.n0=C.n0→X.ne=C.ne→Sim P X env H a w I μ O→LB (om C.ro) 0 P c (Post P X Q) a w
theorem AL.loop {c:Code} (h:AL P C c Q env H) : AW P C (.loop c) Q env H:=fun X a w I μ O h1 h2 h3 hs=>(h X a w I μ O h1 h2 h3 hs).loop
theorem AL.round {c:Code} (h:AW P C c (FB (AL P C c Q) Q) env H) : AL P C c Q env H:=fun X a w I μ O h1 h2 h3 hs =>
 .round (wpIn_mono (h X a w I μ O h1 h2 h3 hs) fun e _ _ ⟨env',H',I',μ',O',s,q⟩=>by
  cases e with
  | normal=>exact q X _ _ I' μ' O' h1 h2 h3 s
  | _=>exact ⟨env',H',I',μ',O',s,q⟩)
end
end Go.FL
namespace Go.FL
open Go Go.RowKit
def clr (p:Pl) : AV→AV
 | .ref q o n=>if q=p then .un else .ref q o n
 | .ep q i k=>if q=p then .un else .ep q i k
 | v=>v
def G8 (p:Pl) (env:Env) : Env:=env.map fun x=>(x.1,clr p x.2)
def Aj : AV→Bool
 | .own _ _=>true
 | _=>false
def put (env:Env) (t:Nat) (v:AV) : Env:=(t,v)::(if Aj (get env t) then G8 (.t t) env else env)
theorem Eo (p:Pl) (env:Env) (t:Nat) : get (G8 p env) t=clr p (get env t):=by
 induction env with
 | nil=>rfl
 | cons x r ih =>
  obtain ⟨s,v⟩:=x
  simp only [G8,List.map_cons,get]
  split
  ·rfl
  ·exact ih
theorem EE (env:Env) (t:Nat) (v:AV) : get (put env t v) t=v:=by simp [put,get]
theorem Nz (env:Env) {t s:Nat} (v:AV) (h:s≠t) : get (put env t v) s=if Aj (get env t) then clr (.t t) (get env s) else get env s:=by
 simp only [put,get]
 rw [if_neg (Ne.symm h)]
 split
 ·exact Eo _ _ _
 ·rfl
theorem Iz {env:Env} {t s:Nat} {v:AV} {e:TypeId} {xs:List DV} (h:s≠t) (hs:get env s=.own e xs) : get (put env t v) s=.own e xs:=by
 rw [Nz env v h,hs];split<;>rfl
def AI : AV→Bool
 | .ref _ _ _=>true
 | .ep _ _ _=>true
 | _=>false
section
variable {P:Program} {X:Snap} {env:Env} {H:Ab} {a:Act} {w w':World} {I I':Nat→Prop} {μ μ':List Nat} {O O':Nat→Option Loc}
theorem TRep.plain {t:Nat} {av:AV} (hr:AI av=false) (h:TRep P env H a w I μ O t av) : ∃ bs,ARep P w I μ av (a.tmps.getD t undef) bs∧bs.Nodup∧∀ b∈bs,O b=some (.t t):=by
 cases av<;>first|exact h|simp [AI] at hr
theorem TRep.of {t:Nat} {av:AV} {bs:List Nat} (h:ARep P w I μ av (a.tmps.getD t undef) bs) (hn:bs.Nodup) (hO:∀ b∈bs,O b=some (.t t)) : TRep P env H a w I μ O t av:=by
 cases av<;>first|exact ⟨bs,h,hn,hO⟩|cases h
theorem TRep.un {t:Nat} : TRep P env H a w I μ O t .un:=⟨[],.un _,List.nodup_nil,by simp⟩
def Hand (P:Program) (w:World) (I:Nat→Prop) (μ:List Nat) (O:Nat→Option Loc) (av:AV) (v:Value) : Prop :=
 ∃ bs,ARep P w I μ av v bs∧bs.Nodup∧∀ b∈bs,O b=some .r
theorem Hand.d {v:DV} {u:Value} (h:Rep w I v u) : Hand P w I μ O (.d v) u:=⟨[],.d h,List.nodup_nil,by simp⟩
theorem GQ {t:Nat} (v:Value) (h:t<a.tmps.size) : (a.put (some t) v).tmps.getD t undef=v:=by
 simp [Act.put,h]
theorem Cs {t s:Nat} (v:Value) (h:s≠t) : (a.put (some t) v).tmps.getD s undef=a.tmps.getD s undef:=by
 simp [Act.put,Array.getElem?_setIfInBounds_ne (Ne.symm h)]
theorem Fe (d:Option Tmp) (v:Value) : (a.put d v).tmps.size=a.tmps.size:=by
 cases d<;>simp [Act.put]
theorem Ee (d:Option Tmp) (v:Value) : (a.put d v).defers=a.defers:=by
 cases d<;>rfl
theorem TRep.other {t s:Nat} {v:AV} {a':Act} (hts:s≠t) (ha:∀ r,r≠t→a'.tmps.getD r undef=a.tmps.getD r undef) (hO:∀ b,O b=some (.t s)→O' b=some (.t s))
  (h:TRep P env H a w I μ O s (get env s)):TRep P (put env t v) H a' w I μ O' s (get (put env t v) s):=by
 have key:∀ av,get env s=av→TRep P (put env t v) H a' w I μ O' s (get (put env t v) s):=by
  intro av hav
  rw [hav] at h
  have hpl:∀ p e xs,p≠.t t→AB env H p=.own e xs→AB (put env t v) H p=.own e xs∧AR a' w μ p=AR a w μ p:=by
   intro p e xs hp hx
   cases p with
   | t r =>
    have hr:r≠t:=fun e=>hp (by rw [e])
    exact ⟨Iz hr hx,by simp only [AR];rw [ha r hr]⟩
   | c id off=>exact ⟨hx,rfl⟩
  rw [Nz env v hts,hav]
  by_cases hro:AI av=true
  ·cases av with
   | ref p off len =>
    obtain ⟨e,xs,A,n,c,h1,h2,h3,h4⟩:=h
    by_cases hp:p=.t t
    ·subst hp
     have:Aj (get env t)=true:=by rw [show get env t=_ from h1];rfl
     rw [this];simp only [if_true,clr];exact .un
    ·obtain ⟨g1,g2⟩:=hpl p e xs hp h1
     have:(if Aj (get env t)=true then clr (.t t) (.ref p off len) else .ref p off len)=.ref p off len:=by
      split<;>simp [clr,hp]
     rw [this]
     exact ⟨e,xs,A,n,c,g1,by rw [g2];exact h2,h3,by rw [ha s hts];exact h4⟩
   | ep p i k =>
    obtain ⟨e,xs,b,n,c,h1,h2,h3,h4,h5⟩:=h
    by_cases hp:p=.t t
    ·subst hp
     have:Aj (get env t)=true:=by rw [show get env t=_ from h1];rfl
     rw [this];simp only [if_true,clr];exact .un
    ·obtain ⟨g1,g2⟩:=hpl p e xs hp h1
     have:(if Aj (get env t)=true then clr (.t t) (.ep p i k) else .ep p i k)=.ep p i k:=by
      split<;>simp [clr,hp]
     rw [this]
     exact ⟨e,xs,b,n,c,g1,by rw [g2];exact h2,h3,h4,by rw [ha s hts];exact h5⟩
   | _=>simp [AI] at hro
  ·have hro':AI av=false:=by simpa using hro
   obtain ⟨bs,h1,h2,h3⟩:=h.plain hro'
   have:(if Aj (get env t)=true then clr (.t t) av else av)=av:=by
    split
    ·cases av<;>first|rfl|simp [AI] at hro'
    ·rfl
   rw [this]
   exact .of (by rw [ha s hts];exact h1) h2 fun b hb=>hO b (h3 b hb)
 exact key _ rfl
theorem Mem.relabel (h:Mem P X H w I μ O) (f:Loc→Loc) (hf:∀ id,f (.o id)=.o id) : Mem P X H w I μ (fun b=>(O b).map f) where
 prot:=h.prot
 kO b hb:=by simp [h.kO b hb]
 kI:=h.kI
 mono:=h.mono
 os:=h.os
 tape:=h.tape
 output:=h.output
 size:=h.size
 own b l hl:=by
  simp only [Option.map_eq_some_iff] at hl
  obtain ⟨l',hl',_⟩:=hl
  exact h.own b l' hl'
 ilt:=h.ilt
 μlen:=h.μlen
 μpre:=h.μpre
 nle:=h.nle
 heap id o ho:=by
  obtain ⟨blk,bs,h1,h2,h3,h4⟩:=h.heap id o ho
  exact ⟨blk,bs,h1,h2,fun hn=>⟨(h3 hn).1,fun b hb=>by simp [(h3 hn).2 b hb,hf]⟩,h4⟩
 klt:=h.klt
 n0le:=h.n0le
def toT (t:Nat) : Loc→Loc
 | .r=>.t t
 | l=>l
def toR (t:Nat) : Loc→Loc
 | .t s=>if s=t then .r else .t s
 | l=>l
theorem Sim.put_hand (hs:Sim P X env H a w I μ O) {t:Nat} (ht:okT X.nt t) {av:AV} {v:Value} (hh:Hand P w I μ O av v) :
  Sim P X (put env t av) H (a.put (some t) v) w I μ (fun b=>(O b).map (toT t)) where
 toMem:=hs.toMem.relabel (toT t) fun _=>rfl
 envr s:=by
  by_cases hst:s=t
  ·subst hst
   rw [EE]
   obtain ⟨bs,h1,h2,h3⟩:=hh
   refine .of (bs:=bs) ?_ h2 fun b hb=>by simp [h3 b hb,toT]
   rw [GQ v (by rw [hs.nt];exact RK ht)]
   exact h1
  ·exact .other hst (fun r hr=>Cs v hr) (fun b hb=>by simp [hb,toT]) (hs.envr s)
 nt:=(Fe _ _).trans hs.nt
 dfs:=⟨(Ee _ _).trans hs.dfs.1,fun s hs'=>(Cs v (by have:=Pt ht;omega)).trans (hs.dfs.2 s hs')⟩
theorem Sim.put_ref (hs:Sim P X env H a w I μ O) {t:Nat} (ht:okT X.nt t) {p:Pl} (hp:p≠.t t) {off len:Nat} {v:Value} (hh:RefRel P env H a w μ p off len v) :
  Sim P X (put env t (.ref p off len)) H (a.put (some t) v) w I μ O where
 toMem:=hs.toMem
 envr s:=by
  by_cases hst:s=t
  ·subst hst
   rw [EE]
   obtain ⟨e,xs,A,n,c,h1,h2,h3,h4⟩:=hh
   refine ⟨e,xs,A,n,c,?_,?_,h3,by rw [GQ v (by rw [hs.nt];exact RK ht)];exact h4⟩
   ·cases p with
    | t r=>exact Iz (fun e=>hp (by rw [e])) h1
    | c id o=>exact h1
   ·cases p with
    | t r=>simp only [AR] at h2 ⊢;rw [Cs v (fun e=>hp (by rw [e]))];exact h2
    | c id o=>exact h2
  ·exact .other hst (fun r hr=>Cs v hr) (fun b hb=>hb) (hs.envr s)
 nt:=(Fe _ _).trans hs.nt
 dfs:=⟨(Ee _ _).trans hs.dfs.1,fun s hs'=>(Cs v (by have:=Pt ht;omega)).trans (hs.dfs.2 s hs')⟩
theorem Sim.put_ep (hs:Sim P X env H a w I μ O) {t:Nat} (ht:okT X.nt t) {p:Pl} (hp:p≠.t t) {i k:Nat} {v:Value} (hh:Kq P env H a w μ p i k v) :
  Sim P X (put env t (.ep p i k)) H (a.put (some t) v) w I μ O where
 toMem:=hs.toMem
 envr s:=by
  by_cases hst:s=t
  ·subst hst
   rw [EE]
   obtain ⟨e,xs,b,n,c,h1,h2,h3,h4,h5⟩:=hh
   refine ⟨e,xs,b,n,c,?_,?_,h3,h4,by rw [GQ v (by rw [hs.nt];exact RK ht)];exact h5⟩
   ·cases p with
    | t r=>exact Iz (fun e=>hp (by rw [e])) h1
    | c id o=>exact h1
   ·cases p with
    | t r=>simp only [AR] at h2 ⊢;rw [Cs v (fun e=>hp (by rw [e]))];exact h2
    | c id o=>exact h2
  ·exact .other hst (fun r hr=>Cs v hr) (fun b hb=>hb) (hs.envr s)
 nt:=(Fe _ _).trans hs.nt
 dfs:=⟨(Ee _ _).trans hs.dfs.1,fun s hs'=>(Cs v (by have:=Pt ht;omega)).trans (hs.dfs.2 s hs')⟩
theorem Sim.put_un (hs:Sim P X env H a w I μ O) (t:Nat) (ht:okT X.nt t) (v:Value) : Sim P X (put env t .un) H (a.put (some t) v) w I μ O where
 toMem:=hs.toMem
 envr s:=by
  by_cases hst:s=t
  ·subst hst;rw [EE];exact .un
  ·exact .other hst (fun r hr=>Cs v hr) (fun b hb=>hb) (hs.envr s)
 nt:=(Fe _ _).trans hs.nt
 dfs:=⟨(Ee _ _).trans hs.dfs.1,fun s hs'=>(Cs v (by have:=Pt ht;omega)).trans (hs.dfs.2 s hs')⟩
theorem Sim.take (hs:Sim P X env H a w I μ O) (t:Nat) (hr:AI (get env t)=false) :
  Sim P X (put env t .un) H a w I μ (fun b=>(O b).map (toR t))∧Hand P w I μ (fun b=>(O b).map (toR t)) (get env t) (a.tmps.getD t undef):=by
 refine ⟨⟨hs.toMem.relabel (toR t) fun _=>rfl,fun s=>?_,hs.nt,hs.dfs⟩,?_⟩
 ·by_cases hst:s=t
  ·subst hst;rw [EE];exact .un
  ·exact .other hst (fun _ _=>rfl) (fun b hb=>by simp [hb,toR,hst]) (hs.envr s)
 ·obtain ⟨bs,h1,h2,h3⟩:=(hs.envr t).plain hr
  exact ⟨bs,h1,h2,fun b hb=>by simp [h3 b hb,toR]⟩
theorem Mem.grow (h:Mem P X H w I μ O) (hb:Below w.heap.size w w') : Mem P X H w' I μ O where
 prot b hk:=(hb.block b (Nat.lt_of_lt_of_le (h.klt b hk) h.size)).trans (h.prot b hk)
 kO:=h.kO
 kI:=h.kI
 mono:=h.mono
 os:=hb.os.trans h.os
 tape:=hb.tape.trans h.tape
 output:=hb.output.trans h.output
 size:=Nat.le_trans h.size hb.size
 own b l hl:=⟨Nat.lt_of_lt_of_le (h.own b l hl).1 hb.size,(h.own b l hl).2⟩
 ilt b hi:=Nat.lt_of_lt_of_le (h.ilt b hi) hb.size
 μlen:=h.μlen
 μpre:=h.μpre
 nle:=h.nle
 heap id o ho:=by
  obtain ⟨blk,bs,h1,h2,h3,h4⟩:=h.heap id o ho
  refine ⟨blk,bs,h1,?_,h3,h4⟩
  have hlt:∀ b∈blk::bs,b<w.heap.size:=fun b hm=>by
   rcases Nat.lt_or_ge id X.n0 with hn|hn
   ·exact Nat.lt_of_lt_of_le (h.klt b (h4 hn b hm)) h.size
   ·exact (h.own b _ ((h3 hn).2 b hm)).1
  cases o with
  | box cs =>
   obtain ⟨cells,e,g1,g2⟩:=h2
   exact ⟨cells,e,(hb.block blk (hlt blk (by simp))).trans g1,g2.keep (fun _ h=>h) (fun b hi=>hb.block b (h.ilt b hi)) (fun _ _ h=>h) fun b hm=>hb.block b (hlt b (by simp [hm]))⟩
  | mo _ _=>exact ⟨h2.1,h2.2.keep (hb.block blk (hlt blk (by simp))) (fun b hi=>hb.block b (h.ilt b hi)) fun _ h=>h⟩
 klt:=h.klt
 n0le:=h.n0le
theorem RH (h:Mem P X H w I μ O) {p:Pl} {v:Value} (hv:AR a w μ p=some v) (hb:Below w.heap.size w w') : AR a w' μ p=some v:=by
 cases p with
 | t n=>exact hv
 | c id off =>
  simp only [AR] at hv ⊢
  cases hm:μ[id]? with
  | none=>simp [hm] at hv
  | some b =>
   simp only [hm,Option.bind_some] at hv ⊢
   rw [hb.cell (p:=⟨b,off,none⟩) (World.block_lt_of_cell? w _ hv)];exact hv
theorem Sim.grow (h:Sim P X env H a w I μ O) (hb:Below w.heap.size w w') : Sim P X env H a w' I μ O where
 toMem:=h.toMem.grow hb
 envr t:=by
  have ht:=h.envr t
  by_cases hr:AI (get env t)=true
  ·cases hg:get env t with
   | ref p off len =>
    rw [hg] at ht
    obtain ⟨e,xs,A,n,c,h1,h2,h3,h4⟩:=ht
    exact ⟨e,xs,A,n,c,h1,RH h.toMem h2 hb,h3,h4⟩
   | ep p i k =>
    rw [hg] at ht
    obtain ⟨e,xs,b,n,c,h1,h2,h3,h4,h5⟩:=ht
    exact ⟨e,xs,b,n,c,h1,RH h.toMem h2 hb,h3,h4,h5⟩
   | _=>rw [hg] at hr;simp [AI] at hr
  ·obtain ⟨bs,h1,h2,h3⟩:=ht.plain (by simpa using hr)
   exact .of (h1.keep (fun _ h=>h) (fun b hi=>hb.block b (h.ilt b hi)) (fun _ _ h=>h) fun b hm=>hb.block b (h.own b _ (h3 b hm)).1) h2 h3
 nt:=h.nt
 dfs:=h.dfs
end
end Go.FL
namespace Go.FL
open Go Go.RowKit
def conv (p:Pl) (xs:List DV) : AV→AV
 | .ref q o n=>if q=p then .d (.sl ((xs.drop o).take n)) else .ref q o n
 | .ep q i k=>if q=p then .un else .ep q i k
 | v=>v
def Da (H:Ab) (id off:Nat) (v:AV) : Ab :=
 match H[id]? with
 | some (.box cs)=>H.set id (.box (cs.set off v))
 | _=>H
def KH (p:Pl) (xs:List DV) (env:Env) : Env :=
 match p with
 | .t t=>(t,.d (.sl xs))::env.map fun x=>(x.1,conv p xs x.2)
 | .c _ _=>env.map fun x=>(x.1,conv p xs x.2)
def TR (p:Pl) (xs:List DV) (H:Ab) : Ab :=
 match p with
 | .t _=>H
 | .c id off=>Da H id off (.d (.sl xs))
theorem JP (p:Pl) (xs:List DV) (env:Env) (t:Nat) : get (env.map fun x=>(x.1,conv p xs x.2)) t=conv p xs (get env t):=by
 induction env with
 | nil=>rfl
 | cons x r ih =>
  obtain ⟨s,v⟩:=x
  simp only [List.map_cons,get]
  split
  ·rfl
  ·exact ih
section
variable {P:Program} {X:Snap} {env:Env} {H:Ab} {a:Act} {w w':World} {I I':Nat→Prop} {μ μ':List Nat} {O O':Nat→Option Loc}
theorem ARepAll.at {cs:List AV} {vs:List Value} {bs:List Nat} (h:ARepAll P w I μ cs vs bs) : ∀ (j:Nat) (c:AV),cs[j]?=some c →
  ∃ v b1 bk b2,vs[j]?=some v∧ARep P w I μ c v bk∧bs=b1++(bk++b2) ∧
   ∀ {w':World} {I':Nat→Prop} {μ':List Nat},(∀ b,I b→I' b)→(∀ b,I b→w'.heap[b]?=w.heap[b]?)→(∀ (i b:Nat),μ[i]?=some b→μ'[i]?=some b) →
    (∀ b∈b1++b2,w'.heap[b]?=w.heap[b]?)→∀ {c':AV} {v':Value} {bk':List Nat},ARep P w' I' μ' c' v' bk'→ARepAll P w' I' μ' (cs.set j c') (vs.set j v') (b1++(bk'++b2)):=by
 induction cs generalizing vs bs with
 | nil=>intro j c hj;simp at hj
 | cons x xs ih =>
  cases h with
  | @cons _ v _ vs b1 b2 h t =>
   intro j c hj
   cases j with
   | zero =>
    simp at hj;subst hj
    exact ⟨v,[],b1,b2,rfl,h,rfl,fun hI hw hμ hb _ _ _ k=>by rw [List.nil_append];exact .cons k (t.keep hI hw hμ fun b hm=>hb b (by simpa using hm))⟩
   | succ j =>
    obtain ⟨u,c1,ck,c2,h1,h2,rfl,h4⟩:=ih t j c (by simpa using hj)
    refine ⟨u,b1++c1,ck,c2,by simpa using h1,h2,by simp,fun hI hw hμ hb _ _ _ k=>?_⟩
    rw [List.append_assoc]
    exact .cons (h.keep hI hw hμ fun b hm=>hb b (by simp [hm])) (h4 hI hw hμ (fun b hm=>hb b (by simp at hm ⊢;rcases hm with h|h<;>simp [h])) k)
theorem List.set_same {α:Type} (l:List α) (j:Nat) {x:α} (h:l[j]?=some x) : l.set j x=l:=by
 apply List.ext_getElem?
 intro i
 rw [List.getElem?_set]
 split
 ·rename_i e;subst e;split
  ·exact h.symm
  ·rename_i hn;rw [List.getElem?_eq_none (by omega)]
 ·rfl
theorem Gv {e:TypeId} {xs:List DV} {v:Value} {bs:List Nat} (h:ARep P w I μ (.own e xs) v bs) (hI:∀ b,I b→I' b) (hb:∀ b∈bs,I' b) (off len:Nat) (hl:off+len≤xs.length) :
  ∃ A c,v=.slice A xs.length c∧bs=Bv v∧∀ u,SubV (Av P e) A c off len u→Rep w I' (.sl ((xs.drop off).take len)) u:=by
 cases h with
 | own _ _ _ vs hsz ho hr =>
  rcases ho with ⟨A,rfl,h0,_⟩|⟨ho,g',cap',hv',hc'⟩
  ·have:xs=[]:=by cases xs<;>simp_all
   subst this
   have:len=0:=by simp at hl;omega
   subst this
   refine ⟨A,0,rfl,rfl,fun u ⟨A',c',h1,_⟩=>?_⟩
   subst h1;simp;exact .sl0 _ _
  rcases ho.2 with ⟨rfl,h0⟩|⟨g,cap,cur,rfl,_,hg,hn,_,hcs,htk⟩
  ·cases hv'
  ·simp only [Value.slice.injEq,Option.some.injEq,Addr.mk.injEq] at hv'
   obtain ⟨⟨rfl,_⟩,_,rfl⟩:=hv'
   have hc0:¬cap=0:=by omega
   refine ⟨_,_,rfl,rfl,fun u ⟨A',c',h1,h2,h3,h4⟩=>?_⟩
   subst h1
   have hI':I' g:=hb g (by simp [Bv,hc0])
   by_cases h0:len=0
   ·subst h0;simp;exact .sl0 _ _
   ·have hA:=h4 (by omega)
    have hlen:((xs.drop off).take len).length=len:=by simp;omega
    have hadd:(some (⟨g,0,none⟩:Addr)).map (·.add (off * Av P e))=some ⟨g,off * Av P e,none⟩:=by
     simp [Addr.add];omega
    rw [hA,hadd]
    have hh:Has w g 0 vs:=fun j u hj=>by
     have:=ho.cells (g:=g) rfl j u hj
     have hadd:(⟨g,0,none⟩:Addr).add j=⟨g,0+j,none⟩:=by unfold Addr.add;split<;>simp_all
     rwa [hadd] at this
    have hr':=((hr.drop off).take len).keep (w':=w) (I':=I') (fun _ _=>rfl) hI
    have:=Rep.sl (w:=w) (I:=I') ((xs.drop off).take len) g (off * Av P e) (Av P e) c' _ (by intro h;rw [h] at hlen;simp at hlen;omega) (by omega) hI' hsz
     (by have:=(hh.drop (off * Av P e)).take (len * Av P e);rwa [Nat.zero_add] at this) hr'
    rwa [hlen] at this
theorem SubV.self (sz:Nat) (A:Option Addr) (c n:Nat) (h:n≤c) : SubV sz A c 0 n (.slice A n c):=⟨A,c,rfl,h,fun _=>⟨rfl,rfl⟩,fun _=>by simp [Addr.add]⟩
theorem DX {e:TypeId} {xs:List DV} {A:Option Addr} {n c:Nat} {bs:List Nat} (h:ARep P w I μ (.own e xs) (.slice A n c) bs) : n=xs.length∧n≤c∧(0<n→∃ b,A=some ⟨b,0,none⟩):=by
 cases h with
 | own _ _ _ vs hsz ho hr =>
  rcases ho with ⟨A,h,h',_⟩|⟨ho,_⟩
  ·simp only [Value.slice.injEq] at h;omega
  rcases ho.2 with ⟨h,h'⟩|⟨g,cap,cur,h,_,_,hh,_⟩
  ·simp only [Value.slice.injEq] at h;omega
  ·simp only [Value.slice.injEq] at h;obtain ⟨rfl,rfl,rfl⟩:=h;exact ⟨rfl,hh,fun _=>⟨g,rfl⟩⟩
theorem Sim.at_place (hs:Sim P X env H a w I μ O) {p:Pl} {e:TypeId} {xs:List DV} (hp:AB env H p=.own e xs) :
  ∃ v bs,AR a w μ p=some v∧ARep P w I μ (.own e xs) v bs∧bs=Bv v ∧
   (∀ b∈bs,(b<w.heap.size)∧(∀ n,p=.t n→O b=some (.t n))∧∀ id off,p=.c id off→(X.n0≤id→O b=some (.o id))∧(id<X.n0→X.K b)):=by
 cases p with
 | t n =>
  have h:=hs.envr n
  rw [show get env n=_ from hp] at h
  obtain ⟨bs,h1,_,h3⟩:=h
  refine ⟨_,bs,rfl,h1,?_,fun b hb=>⟨(hs.own b _ (h3 b hb)).1,fun m hm=>(by cases hm;exact h3 b hb),fun _ _ hm=>(by cases hm)⟩⟩
  generalize a.tmps.getD n undef=v at h1
  cases h1;rfl
 | c id off =>
  simp only [AB] at hp
  cases hH:H[id]? with
  | none=>rw [hH] at hp;cases hp
  | some o =>
   cases o with
   | mo _ _=>rw [hH] at hp;cases hp
   | box cs =>
    rw [hH] at hp
    obtain ⟨blk,bs,h1,⟨cells,et,g1,g2⟩,h3,h4⟩:=hs.heap id _ hH
    have hlt:∀ b∈blk::bs,b<w.heap.size:=fun b hm=>by
     rcases Nat.lt_or_ge id X.n0 with hn|hn
     ·exact Nat.lt_of_lt_of_le (hs.klt b (h4 hn b hm)) hs.size
     ·exact (hs.own b _ ((h3 hn).2 b hm)).1
    have hc:cs[off]?=some (.own e xs):=by
     replace hp:cs.getD off .un=.own e xs:=hp
     rw [List.getD_eq_getElem?_getD] at hp
     cases hx:cs[off]? with
     | none=>simp [hx] at hp
     | some y=>simp [hx] at hp;rw [hp]
    obtain ⟨v,b1,bk,b2,k1,k2,rfl,_⟩:=g2.at off _ hc
    refine ⟨v,bk,?_,k2,by cases k2;rfl,fun b hb=>⟨hlt b (by simp [hb]),⟨fun _ hm=>(by cases hm),fun id' off' hm=>by cases hm;exact ⟨fun hn=>(h3 hn).2 b (by simp [hb]),fun hn=>h4 hn b (by simp [hb])⟩⟩⟩⟩
    simp only [AR,h1,Option.bind_some]
    rw [cell_of_row w blk off cells et (0,0) g1]
    simpa using k1
theorem RJ {p:Pl} {xs:List DV} {av:AV} (h:AI av=false) : conv p xs av=av:=by cases av<;>first | rfl | simp [AI] at h
theorem Mem.frz (h:Mem P X H w I μ O) (bs:List Nat) (hb:∀ b∈bs,b<w.heap.size) (hK:∀ b∈bs,¬X.K b) (H':Ab) (hl:H'.length=H.length)
  (heap:∀ id o,H'[id]?=some o→∃ blk cs,μ[id]?=some blk∧ORep P w (fun b=>I b∨b∈bs) μ o blk cs ∧
   (X.n0≤id→(blk::cs).Nodup∧∀ b∈blk::cs,(if b∈bs then none else O b)=some (.o id))∧(id<X.n0→∀ b∈blk::cs,X.K b)) :
  Mem P X H' w (fun b=>I b∨b∈bs) μ (fun b=>if b∈bs then none else O b) where
 prot:=h.prot
 kO b hk:=by simp [h.kO b hk]
 kI b hk hi:=hi.elim (h.kI b hk) fun hm=>absurd hk (hK b hm)
 mono b hi:=.inl (h.mono b hi)
 os:=h.os
 tape:=h.tape
 output:=h.output
 size:=h.size
 own b l hl:=by
  by_cases hm:b∈bs
  ·simp [hm] at hl
  ·simp [hm] at hl
   exact ⟨(h.own b l hl).1,fun hi=>hi.elim (h.own b l hl).2 hm⟩
 ilt b hi:=hi.elim (h.ilt b) (hb b)
 μlen:=by rw [hl];exact h.μlen
 μpre:=h.μpre
 nle:=by rw [hl];exact h.nle
 heap:=heap
 klt:=h.klt
 n0le:=h.n0le
theorem ORep.mono {o:HO} {blk:Nat} {bs:List Nat} (h:ORep P w I μ o blk bs) (hI:∀ b,I b→I' b) : ORep P w I' μ o blk bs:=by
 cases o with
 | box cs =>
  obtain ⟨cells,e,g1,g2⟩:=h
  exact ⟨cells,e,g1,g2.keep hI (fun _ _=>rfl) (fun _ _ h=>h) fun _ _=>rfl⟩
 | mo ks vs =>
  exact ⟨h.1,h.2.keep rfl (fun _ _=>rfl) hI⟩
theorem Sim.frz_env (hs:Sim P X env H a w I μ O) {p:Pl} {e:TypeId} {xs:List DV} (hp:AB env H p=.own e xs) {v:Value} {bs:List Nat} (hv:AR a w μ p=some v)
  (hr:ARep P w I μ (.own e xs) v bs) (hO:∀ b∈bs,match p with|.t n=>O b=some (.t n)|.c id _=>O b=some (.o id)) {H':Ab} (hH:∀ q e ys,q≠p→AB env H q=.own e ys→AB env H' q=.own e ys)
  (s:Nat):TRep P (KH p xs env) H' a w (fun b=>I b∨b∈bs) μ (fun b=>if b∈bs then none else O b) s (get (KH p xs env) s):=by
 have hI:∀ b,I b→(I b∨b∈bs):=fun _ h=>.inl h
 have hbs:∀ b∈bs,(fun b=>I b∨b∈bs) b:=fun _ h=>.inr h
 by_cases hself:p=.t s
 ·subst hself
  have:get (KH (.t s) xs env) s=.d (.sl xs):=by simp [KH,get]
  rw [this]
  obtain ⟨A,c,e1,e2,e3⟩:=Gv hr hI hbs 0 xs.length (by omega)
  simp only [AR,Option.some.injEq] at hv
  refine .of (bs:=[]) (.d ?_) List.nodup_nil (by simp)
  rw [hv]
  rw [e1] at hr ⊢
  simpa using e3 _ (SubV.self _ A c _ (DX hr).2.1)
 ·have hget:get (KH p xs env) s=conv p xs (get env s):=by
   cases p with
   | t n =>
    simp only [KH,get]
    rw [if_neg (fun e=>hself (by rw [e]))]
    exact JP _ _ _ _
   | c id off=>exact JP _ _ _ _
  have hst:=hs.envr s
  have hpl:∀ q e ys,q≠p→AB env H q=.own e ys→AB (KH p xs env) H' q=.own e ys:=by
   intro q e ys hq hx
   cases q with
   | t r =>
    have:get (KH p xs env) r=conv p xs (get env r):=by
     cases p with
     | t n =>
      simp only [KH,get]
      rw [if_neg (fun e=>hq (by rw [e]))]
      exact JP _ _ _ _
     | c id off=>exact JP _ _ _ _
    show get (KH p xs env) r=_
    rw [this,show get env r=_ from hx];rfl
   | c id off=>exact hH _ _ _ hq hx
  rw [hget]
  cases hg:get env s with
  | ref q off len =>
   rw [hg] at hst
   obtain ⟨e',ys,A,n,c,h1,h2,h3,h4⟩:=hst
   by_cases hq:q=p
   ·subst hq
    simp only [conv,if_true]
    rw [hp] at h1
    obtain ⟨rfl,rfl⟩:e'=e∧ys=xs:=by cases h1;exact ⟨rfl,rfl⟩
    obtain ⟨A',c',e1,e2,e3⟩:=Gv hr hI hbs off len h3
    rw [hv,e1] at h2
    simp only [Option.some.injEq,Value.slice.injEq] at h2
    obtain ⟨rfl,_,rfl⟩:=h2
    exact .of (bs:=[]) (.d (e3 _ h4)) List.nodup_nil (by simp)
   ·simp only [conv,hq,if_false]
    exact ⟨e',ys,A,n,c,hpl q e' ys hq h1,h2,h3,h4⟩
  | ep q i k =>
   rw [hg] at hst
   by_cases hq:q=p
   ·simp only [conv,hq,if_true];exact .un
   ·obtain ⟨e',ys,b,n,c,h1,h2,h3,h4,h5⟩:=hst
    simp only [conv,hq,if_false]
    exact ⟨e',ys,b,n,c,hpl q e' ys hq h1,h2,h3,h4,h5⟩
  | _ =>
   rw [hg] at hst
   obtain ⟨cs,g1,g2,g3⟩:=hst.plain rfl
   rw [RJ rfl]
   refine .of (g1.keep hI (fun _ _=>rfl) (fun _ _ h=>h) fun _ _=>rfl) g2 fun b hb=>?_
   have:b∉bs:=fun hm=>by
    have h1:=g3 b hb
    have h2:=hO b hm
    cases p with
    | t n=>rw [h1] at h2;simp at h2;exact hself (by rw [h2])
    | c id off=>rw [h1] at h2;simp at h2
   simp [this,g3 b hb]
theorem Sim.frz (hs:Sim P X env H a w I μ O) {p:Pl} {e:TypeId} {xs:List DV} (hp:AB env H p=.own e xs) (hn:∀ id off,p=.c id off→X.n0≤id) :
  ∃ I' O',Sim P X (KH p xs env) (TR p xs H) a w I' μ O':=by
 obtain ⟨v,bs,hv,hr,hb,hO⟩:=hs.at_place hp
 cases p with
 | t n =>
  have hO':∀ b∈bs,O b=some (.t n):=fun b hm=>(hO b hm).2.1 n rfl
  refine ⟨_,_,⟨hs.toMem.frz bs (fun b hm=>(hO b hm).1) (fun b hm hk=>by have:=hs.kO b hk;rw [hO' b hm] at this;cases this) H rfl ?_,hs.frz_env hp hv hr hO' (fun _ _ _ _ h=>h),hs.nt,hs.dfs⟩⟩
  intro id o ho
  obtain ⟨blk,cs,h1,h2,h3,h4⟩:=hs.heap id o ho
  refine ⟨blk,cs,h1,h2.mono fun _ h=>.inl h,fun hn=>⟨(h3 hn).1,fun b hb=>?_⟩,h4⟩
  have h5:=(h3 hn).2 b hb
  have:b∉bs:=fun hm=>by have:=hO' b hm;rw [h5] at this;simp at this
  simp [this,h5]
 | c id off =>
  have hid:=hn id off rfl
  have hO':∀ b∈bs,O b=some (.o id):=fun b hm=>((hO b hm).2.2 id off rfl).1 hid
  simp only [AB] at hp
  cases hH:H[id]? with
  | none=>rw [hH] at hp;cases hp
  | some o =>
   cases o with
   | mo _ _=>rw [hH] at hp;cases hp
   | box cs =>
    rw [hH] at hp
    have hc:cs[off]?=some (.own e xs):=by
     replace hp:cs.getD off .un=.own e xs:=hp
     rw [List.getD_eq_getElem?_getD] at hp
     cases hx:cs[off]? with
     | none=>simp [hx] at hp
     | some y=>simp [hx] at hp;rw [hp]
    have hset:TR (.c id off) xs H=H.set id (.box (cs.set off (.d (.sl xs)))):=by simp [TR,Da,hH]
    have hlt:id<H.length:=(List.getElem?_eq_some_iff.1 hH).1
    have hpp:AB env H (.c id off)=.own e xs:=by simp only [AB,hH];exact hp
    refine ⟨_,_,⟨hs.toMem.frz bs (fun b hm=>(hO b hm).1) (fun b hm hk=>by have:=hs.kO b hk;rw [hO' b hm] at this;cases this) (TR (.c id off) xs H) (by rw [hset];simp) ?_,
     hs.frz_env hpp hv hr hO' ?_,hs.nt,hs.dfs⟩⟩
    ·intro id' o' ho'
     rw [hset,List.getElem?_set] at ho'
     by_cases he:id=id'
     ·subst he
      rw [if_pos rfl,if_pos hlt] at ho'
      simp only [Option.some.injEq] at ho'
      subst ho'
      obtain ⟨blk,ds,h1,⟨cells,et,g1,g2⟩,h3,h4⟩:=hs.heap id _ hH
      obtain ⟨u,b1,bk,b2,k1,k2,rfl,k4⟩:=g2.at off _ hc
      have huv:u=v:=by
       simp only [AR,h1,Option.bind_some] at hv
       rw [cell_of_row w blk off cells et (0,0) g1] at hv
       rw [show cells.toList[off]?=cells[off]? by simp] at k1
       rw [k1] at hv;exact Option.some.inj hv
      subst huv
      have hbk:bk=bs:=by rw [hb];cases k2;rfl
      subst hbk
      obtain ⟨A,c,e1,e2,e3⟩:=Gv (I':=fun b=>I b∨b∈bk) hr (fun _ h=>.inl h) (fun _ h=>.inr h) 0 xs.length (by omega)
      have e4:Rep w (fun b=>I b∨b∈bk) (.sl xs) u:=by
       rw [e1] at hr ⊢
       simpa using e3 _ (SubV.self _ A c _ (DX hr).2.1)
      have k5:=k4 (w':=w) (I':=fun b=>I b∨b∈bk) (μ':=μ) (fun _ h=>.inl h) (fun _ _=>rfl) (fun _ _ h=>h) (fun _ _=>rfl) (ARep.d e4)
      rw [List.set_same _ _ k1] at k5
      refine ⟨blk,b1++b2,h1,⟨cells,et,g1,by simpa using k5⟩,fun hn=>?_,fun hn=>?_⟩
      ·obtain ⟨m1,m2⟩:=h3 hn
       have m3:(blk::(b1++(bk++b2))).Nodup:=m1
       refine ⟨?_,fun b hb=>?_⟩
       ·refine m3.sublist ?_
        refine List.Sublist.cons_cons _ (List.Sublist.append_left (List.sublist_append_right _ _) _)
       ·have hin:b∈blk::(b1++(bk++b2)):=by
         simp at hb ⊢;rcases hb with h|h|h<;>simp [h]
        have:b∉bk:=fun hm=>by
         simp only [List.nodup_cons,List.mem_append,List.nodup_append,not_or] at m3
         obtain ⟨⟨n1,n2,n3⟩,n4,⟨n5,n6,n7⟩,n8⟩:=m3
         simp only [List.mem_cons,List.mem_append] at hb
         rcases hb with rfl|hb|hb
         ·exact n2 hm
         ·exact n8 b hb b (.inl hm) rfl
         ·exact n7 b hm b hb rfl
        simp [this,m2 b hin]
      ·intro b hb
       exact h4 hn b (by simp at hb ⊢;rcases hb with h|h|h<;>simp [h])
     ·rw [if_neg he] at ho'
      obtain ⟨blk,ds,h1,h2,h3,h4⟩:=hs.heap id' o' ho'
      refine ⟨blk,ds,h1,h2.mono fun _ h=>.inl h,fun hn=>⟨(h3 hn).1,fun b hb=>?_⟩,h4⟩
      have h5:=(h3 hn).2 b hb
      have:b∉bs:=fun hm=>by have:=hO' b hm;rw [h5] at this;simp at this;exact he this.symm
      simp [this,h5]
    ·intro q e' ys hq hx
     cases q with
     | t r=>exact hx
     | c id' off' =>
      simp only [AB] at hx ⊢
      rw [hset,List.getElem?_set]
      by_cases he:id=id'
      ·subst he
       rw [if_pos rfl,if_pos hlt]
       rw [hH] at hx
       have:off≠off':=fun e=>hq (by rw [e])
       simp only [List.getD_eq_getElem?_getD] at hx ⊢
       rw [List.getElem?_set_ne this];exact hx
      ·rw [if_neg he];exact hx
end
end Go.FL
namespace Go.FL
open Go Go.RowKit
def HandAll (P:Program) (w:World) (I:Nat→Prop) (μ:List Nat) (O:Nat→Option Loc) (cs:List AV) (vs:List Value) : Prop :=
 ∃ bs,ARepAll P w I μ cs vs bs∧bs.Nodup∧∀ b∈bs,O b=some .r
def toO (id:Nat) : Loc→Loc
 | .r=>.o id
 | l=>l
mutual
def noOwn : AV→Bool
 | .own _ _=>false
 | .nb _=>false
 | .it _ _=>false
 | .om _ _=>false
 | .ag cs=>noOwnL cs
 | .fn _ a b=>noOwnL a&&noOwnL b
 | .tup vs=>noOwnL vs
 | _=>true
def noOwnL : List AV→Bool
 | []=>true
 | c::r=>noOwn c&&noOwnL r
end
section
variable {P:Program} {X:Snap} {env:Env} {H H':Ab} {a:Act} {w w':World} {I I':Nat→Prop} {μ μ':List Nat} {O O':Nat→Option Loc}
mutual
theorem noOwn_bs : ∀ {c:AV} {v:Value} {bs:List Nat},ARep P w I μ c v bs→noOwn c=true→bs=[]
 | _,_,_,.un _,_=>rfl
 | _,_,_,.d _,_=>rfl
 | _,_,_,.nl,_=>rfl
 | _,_,_,.own ..,h=>by simp [noOwn] at h
 | _,_,_,.bp ..,_=>rfl
 | _,_,_,.mr ..,_=>rfl
 | _,_,_,.ag k,h=>noOwnL_bs k (by simpa [noOwn] using h)
 | _,_,_,.fn k1 k2,h=>by
  simp only [noOwn,Bool.and_eq_true] at h
  rw [noOwnL_bs k1 h.1,noOwnL_bs k2 h.2];rfl
 | _,_,_,.tup k,h=>noOwnL_bs k (by simpa [noOwn] using h)
 | _,_,_,.nb ..,h=>by simp [noOwn] at h
 | _,_,_,.it ..,h=>by simp [noOwn] at h
 | _,_,_,.om ..,h=>by simp [noOwn] at h
theorem noOwnL_bs : ∀ {cs:List AV} {vs:List Value} {bs:List Nat},ARepAll P w I μ cs vs bs→noOwnL cs=true→bs=[]
 | _,_,_,.nil,_=>rfl
 | _,_,_,.cons k t,h=>by
  simp only [noOwnL,Bool.and_eq_true] at h
  rw [noOwn_bs k h.1,noOwnL_bs t h.2];rfl
end
theorem TRep.keepG (hI:∀ b,I b→I' b) (hw:∀ b,I b→w'.heap[b]?=w.heap[b]?) (hμ:∀ (i b:Nat),μ[i]?=some b→μ'[i]?=some b) {t:Nat}
  (hb:∀ b,O b=some (.t t)→w'.heap[b]?=w.heap[b]?∧O' b=some (.t t))
  (hpl:∀ p e xs,AB env H p=.own e xs→AB env H' p=.own e xs∧∀ v,AR a w μ p=some v→AR a w' μ' p=some v)
  (h:TRep P env H a w I μ O t (get env t)):TRep P env H' a w' I' μ' O' t (get env t):=by
 cases hg:get env t with
 | ref p off len =>
  rw [hg] at h
  obtain ⟨e,xs,A,n,c,h1,h2,h3,h4⟩:=h
  exact ⟨e,xs,A,n,c,(hpl p e xs h1).1,(hpl p e xs h1).2 _ h2,h3,h4⟩
 | ep p i k =>
  rw [hg] at h
  obtain ⟨e,xs,b,n,c,h1,h2,h3,h4,h5⟩:=h
  exact ⟨e,xs,b,n,c,(hpl p e xs h1).1,(hpl p e xs h1).2 _ h2,h3,h4,h5⟩
 | _ =>
  rw [hg] at h
  obtain ⟨bs,h1,h2,h3⟩:=h.plain rfl
  exact .of (h1.keep hI hw hμ fun b hm=>(hb b (h3 b hm)).1) h2 fun b hm=>(hb b (h3 b hm)).2
theorem HandAll.grow {cs:List AV} {vs:List Value} (h:Mem P X H w I μ O) (hh:HandAll P w I μ O cs vs) (hb:Below w.heap.size w w') : HandAll P w' I μ O cs vs:=by
 obtain ⟨bs,h1,h2,h3⟩:=hh
 exact ⟨bs,h1.keep (fun _ h=>h) (fun b hi=>hb.block b (h.ilt b hi)) (fun _ _ h=>h) fun b hm=>hb.block b (h.own b _ (h3 b hm)).1,h2,h3⟩
theorem Sim.box (hs:Sim P X env H a w I μ O) {cs:List AV} {vs:List Value} (hh:HandAll P w I μ O cs vs) (e:TypeId) :
  ∃ μ' O',Sim P X env (H++[.box cs]) a (w.alloc (.cells vs.toArray e)) I μ' O'∧Hand P (w.alloc (.cells vs.toArray e)) I μ' O' (.bp H.length 0) (.pointer (some ⟨w.heap.size,0,none⟩)):=by
 have hbel:Below w.heap.size w (w.alloc (.cells vs.toArray e)):=(Below.refl _ _).alloc (Nat.le_refl _) _
 have h1:=hs.grow hbel
 obtain ⟨bs,g1,g2,g3⟩:=hh.grow hs.toMem hbel
 have hμ:∀ (i b:Nat),μ[i]?=some b→(μ++[w.heap.size])[i]?=some b:=fun i b h=>by
  rw [List.getElem?_append_left (List.getElem?_eq_some_iff.1 h).1];exact h
 have hlast:(μ++[w.heap.size])[H.length]?=some w.heap.size:=by rw [← hs.μlen];simp
 have hOlt:∀ b l,O b=some l→b≠w.heap.size:=fun b l h e=>by have:=(hs.own b l h).1;omega
 let O':Nat→Option Loc:=fun b=>if b=w.heap.size then some (.o H.length) else (O b).map (toO H.length)
 have hO':∀ b l,O b=some l→O' b=some (toO H.length l):=fun b l h=>by
  show (if b=w.heap.size then _ else _)=_
  rw [if_neg (hOlt b l h),h];rfl
 have hmem:Mem P X (H++[.box cs]) (w.alloc (.cells vs.toArray e)) I (μ++[w.heap.size]) O':={
  prot:=h1.prot
  kO:=fun b hk=>by
   have:=h1.klt b hk
   have:=h1.kO b hk
   show (if b=w.heap.size then _ else _)=_
   rw [if_neg (by have:=hs.size;omega),this];rfl
  kI:=h1.kI
  mono:=h1.mono
  os:=h1.os
  tape:=h1.tape
  output:=h1.output
  size:=h1.size
  own:=fun b l hl=>by
   by_cases hb:b=w.heap.size
   ·subst hb;exact ⟨by simp,fun hi=>by have:=hs.ilt _ hi;omega⟩
   ·have:(if b=w.heap.size then some (Loc.o H.length) else (O b).map (toO H.length))=some l:=hl
    rw [if_neg hb] at this
    simp only [Option.map_eq_some_iff] at this
    obtain ⟨l',hl',_⟩:=this
    exact h1.own b l' hl'
  ilt:=h1.ilt
  μlen:=by simp [hs.μlen]
  μpre:=fun i b hi hb=>hμ i b (hs.μpre i b hi hb)
  nle:=by simp;have:=hs.nle;omega
  heap:=fun id o ho=>by
   rcases Nat.lt_or_ge id H.length with hlt|hge
   ·rw [List.getElem?_append_left hlt] at ho
    obtain ⟨blk,ds,k1,k2,k3,k4⟩:=h1.heap id o ho
    refine ⟨blk,ds,hμ _ _ k1,?_,fun hn=>⟨(k3 hn).1,fun b hb=>hO' b _ ((k3 hn).2 b hb)⟩,k4⟩
    cases o with
    | box c =>
     obtain ⟨cells,et,m1,m2⟩:=k2
     exact ⟨cells,et,m1,m2.keep (fun _ h=>h) (fun _ _=>rfl) hμ fun _ _=>rfl⟩
    | mo _ _=>exact k2
   ·rw [List.getElem?_append_right hge] at ho
    have hid:id=H.length:=by
     have:=(List.getElem?_eq_some_iff.1 ho).1;simp at this;omega
    subst hid
    simp at ho;subst ho
    refine ⟨w.heap.size,bs,hlast,⟨vs.toArray,e,heap_alloc_new w _,g1.keep (fun _ h=>h) (fun _ _=>rfl) hμ fun _ _=>rfl⟩,fun _=>⟨?_,fun b hb=>?_⟩,fun hn=>?_⟩
    ·exact List.nodup_cons.2 ⟨fun hm=>hOlt _ _ (g3 _ hm) rfl,g2⟩
    ·rcases List.mem_cons.1 hb with rfl|hb
     ·show (if _=_ then _ else _)=_;rw [if_pos rfl]
     ·exact hO' b _ (g3 b hb)
    ·have:=hs.nle;have:=hs.n0le;omega
  klt:=h1.klt
  n0le:=h1.n0le}
 refine ⟨μ++[w.heap.size],O',⟨hmem,fun t=>?_,h1.nt,h1.dfs⟩,[],.bp _ _ _ hlast,List.nodup_nil,by simp⟩
 refine (h1.envr t).keepG (fun _ h=>h) (fun _ _=>rfl) hμ (fun b hb=>⟨rfl,hO' b _ hb⟩) fun p et xs hp=>?_
 cases p with
 | t n=>exact ⟨hp,fun v hv=>hv⟩
 | c id off =>
  simp only [AB] at hp ⊢
  have hlt:id<H.length:=by
   rcases Nat.lt_or_ge id H.length with h|h
   ·exact h
   ·rw [List.getElem?_eq_none h] at hp;cases hp
  refine ⟨by rw [List.getElem?_append_left hlt];exact hp,fun v hv=>?_⟩
  simp only [AR] at hv ⊢
  rw [List.getElem?_append_left (by rw [hs.μlen];exact hlt)];exact hv
theorem Sim.cell (hs:Sim P X env H a w I μ O) {id off blk:Nat} {cs:List AV} {c:AV} (hH:H[id]?=some (.box cs)) (hc:cs[off]?=some c) (hm:μ[id]?=some blk) :
  ∃ v bk,w.cell? ⟨blk,off,none⟩=some v∧ARep P w I μ c v bk:=by
 obtain ⟨blk',bs,h1,⟨cells,et,g1,g2⟩,_⟩:=hs.heap id _ hH
 rw [hm] at h1;cases h1
 obtain ⟨v,b1,bk,b2,k1,k2,_⟩:=g2.at off _ hc
 exact ⟨v,bk,by rw [cell_of_row w blk off cells et (0,0) g1];simpa using k1,k2⟩
theorem G9 {id off:Nat} {cs:List AV} (hH:H[id]?=some (.box cs)) : AB env H (.c id off)=cs.getD off .un:=by simp [AB,hH]
def EP (b:Bool) (p:Pl) (env:Env) : Env:=if b then G8 p env else env
theorem Jy (b:Bool) (p:Pl) (env:Env) (t:Nat) : get (EP b p env) t=if b then clr p (get env t) else get env t:=by
 unfold EP;split
 ·exact Eo _ _ _
 ·rfl
theorem TRep.cellSet {id off blk:Nat} {cs:List AV} {c c':AV} (hH:H[id]?=some (.box cs)) (hc:cs[off]?=some c) (hm:μ[id]?=some blk)
  (hI:∀ b,I b→I' b) (hw:∀ b,I b→w'.heap[b]?=w.heap[b]?) {t:Nat} (hb:∀ b,O b=some (.t t)→w'.heap[b]?=w.heap[b]?∧O' b=some (.t t))
  (hcell:∀ id' off' b',μ[id']?=some b'→(id',off')≠(id,off)→∀ v,w.cell? ⟨b',off',none⟩=some v→w'.cell? ⟨b',off',none⟩=some v)
  (h:TRep P env H a w I μ O t (get env t)):TRep P (EP (Aj c) (.c id off) env) (Da H id off c') a w' I' μ O' t (get (EP (Aj c) (.c id off) env) t):=by
 have hset:Da H id off c'=H.set id (.box (cs.set off c')):=by simp [Da,hH]
 have hlt:id<H.length:=(List.getElem?_eq_some_iff.1 hH).1
 have hpl:∀ p e xs,p≠.c id off→AB env H p=.own e xs→AB (EP (Aj c) (.c id off) env) (Da H id off c') p=.own e xs∧∀ v,AR a w μ p=some v→AR a w' μ p=some v:=by
  intro p e xs hp hx
  cases p with
  | t r =>
   refine ⟨?_,fun v hv=>hv⟩
   show get (EP _ _ env) r=_
   rw [Jy,show get env r=_ from hx]
   split<;>rfl
  | c id' off' =>
   refine ⟨?_,fun v hv=>?_⟩
   ·simp only [AB] at hx ⊢
    rw [hset,List.getElem?_set]
    by_cases he:id=id'
    ·subst he
     rw [if_pos rfl,if_pos hlt]
     rw [hH] at hx
     have:off≠off':=fun e=>hp (by rw [e])
     simp only [List.getD_eq_getElem?_getD] at hx ⊢
     rw [List.getElem?_set_ne this];exact hx
    ·rw [if_neg he];exact hx
   ·simp only [AR] at hv ⊢
    cases hm':μ[id']? with
    | none=>simp [hm'] at hv
    | some b' =>
     simp only [hm',Option.bind_some] at hv ⊢
     exact hcell id' off' b' hm' (fun e=>hp (by cases e;rfl)) v hv
 have hcl:∀ av,get env t=av→TRep P (EP (Aj c) (.c id off) env) (Da H id off c') a w' I' μ O' t (get (EP (Aj c) (.c id off) env) t):=by
  intro av hav
  rw [Jy,hav]
  rw [hav] at h
  by_cases hro:AI av=true
  ·cases av with
   | ref p o len =>
    obtain ⟨e,xs,A,n,k,h1,h2,h3,h4⟩:=h
    by_cases hp:p=.c id off
    ·subst hp
     have:Aj c=true:=by
      rw [G9 hH,List.getD_eq_getElem?_getD,hc] at h1
      simp at h1;rw [h1];rfl
     rw [this];simp only [if_true,clr];exact .un
    ·have:(if Aj c=true then clr (.c id off) (.ref p o len) else .ref p o len)=.ref p o len:=by split<;>simp [clr,hp]
     rw [this]
     exact ⟨e,xs,A,n,k,(hpl p e xs hp h1).1,(hpl p e xs hp h1).2 _ h2,h3,h4⟩
   | ep p i j =>
    obtain ⟨e,xs,b,n,k,h1,h2,h3,h4,h5⟩:=h
    by_cases hp:p=.c id off
    ·subst hp
     have:Aj c=true:=by
      rw [G9 hH,List.getD_eq_getElem?_getD,hc] at h1
      simp at h1;rw [h1];rfl
     rw [this];simp only [if_true,clr];exact .un
    ·have:(if Aj c=true then clr (.c id off) (.ep p i j) else .ep p i j)=.ep p i j:=by split<;>simp [clr,hp]
     rw [this]
     exact ⟨e,xs,b,n,k,(hpl p e xs hp h1).1,(hpl p e xs hp h1).2 _ h2,h3,h4,h5⟩
   | _=>simp [AI] at hro
  ·have hro':AI av=false:=by simpa using hro
   have:(if Aj c=true then clr (.c id off) av else av)=av:=by
    split
    ·cases av<;>first|rfl|simp [AI] at hro'
    ·rfl
   rw [this]
   obtain ⟨bs,h1,h2,h3⟩:=h.plain hro'
   exact .of (h1.keep hI hw (fun _ _ h=>h) fun b hm=>(hb b (h3 b hm)).1) h2 fun b hm=>(hb b (h3 b hm)).2
 exact hcl _ rfl
theorem Mem.block_ne (h:Mem P X H w I μ O) {id id' blk blk':Nat} {o o':HO} (h1:H[id]?=some o) (h2:H[id']?=some o') (m1:μ[id]?=some blk) (m2:μ[id']?=some blk') (hn:X.n0≤id) (hne:id'≠id) : blk'≠blk:=by
 obtain ⟨b,bs,k1,_,k3,_⟩:=h.heap id o h1
 obtain ⟨b',bs',k1',_,k3',k4'⟩:=h.heap id' o' h2
 rw [m1] at k1;cases k1
 rw [m2] at k1';cases k1'
 intro e
 have hO:=(k3 hn).2 blk (by simp)
 rcases Nat.lt_or_ge id' X.n0 with hlt|hge
 ·have:=h.kO _ (k4' hlt blk' (by simp));rw [e,hO] at this;cases this
 ·have:=(k3' hge).2 blk' (by simp);rw [e,hO] at this;simp at this;exact hne this.symm
theorem Sim.takeC (hs:Sim P X env H a w I μ O) {id off blk:Nat} {cs:List AV} {c:AV} (hH:H[id]?=some (.box cs)) (hc:cs[off]?=some c) (hm:μ[id]?=some blk) (hn:X.n0≤id) :
  ∃ v bk O',w.cell? ⟨blk,off,none⟩=some v∧(∀ b,O b=some .r→O' b=some .r∧b∉bk)∧ARep P w I μ c v bk∧bk.Nodup∧(∀ b∈bk,O' b=some .r) ∧
   Sim P X (EP (Aj c) (.c id off) env) (Da H id off .un) a w I μ O':=by
 obtain ⟨blk',bs,h1,⟨cells,et,g1,g2⟩,h3,h4⟩:=hs.heap id _ hH
 rw [hm] at h1;cases h1
 obtain ⟨v,b1,bk,b2,k1,k2,rfl,k4⟩:=g2.at off _ hc
 obtain ⟨m1,m2⟩:=h3 hn
 have m3:(blk::(b1++(bk++b2))).Nodup:=m1
 simp only [List.nodup_cons,List.mem_append,List.nodup_append,not_or] at m3
 obtain ⟨⟨n1,n2,n3⟩,n4,⟨n5,n6,n7⟩,n8⟩:=m3
 have hbkO:∀ b∈bk,O b=some (.o id):=fun b hb=>m2 b (by simp [hb])
 have hset:Da H id off .un=H.set id (.box (cs.set off .un)):=by simp [Da,hH]
 have hlt:id<H.length:=(List.getElem?_eq_some_iff.1 hH).1
 let O':Nat→Option Loc:=fun b=>if b∈bk then some .r else O b
 have hO'ne:∀ b l,O b=some l→l≠.o id→O' b=some l:=fun b l h hl=>by
  show (if b∈bk then _ else _)=_
  rw [if_neg fun hm=>hl (by have:=hbkO b hm;rw [h] at this;exact Option.some.inj this)];exact h
 have hO'not:∀ b,b∉bk→O' b=O b:=fun b hb=>if_neg hb
 refine ⟨v,bk,O',by rw [cell_of_row w blk off cells et (0,0) g1];simpa using k1,fun b hb=>⟨hO'ne b _ hb (by simp),fun hm=>by have:=hbkO b hm;rw [hb] at this;simp at this⟩,k2,n5,
  fun b hb=>if_pos hb,⟨{
   prot:=hs.prot
   kO:=fun b hk=>by
    have:=hs.kO b hk
    rw [hO'not b fun hm=>by rw [hbkO b hm] at this;cases this];exact this
   kI:=hs.kI,mono:=hs.mono,os:=hs.os,tape:=hs.tape,output:=hs.output,size:=hs.size
   own:=fun b l hl=>by
    by_cases hb:b∈bk
    ·exact hs.own b _ (hbkO b hb)
    ·rw [hO'not b hb] at hl;exact hs.own b l hl
   ilt:=hs.ilt
   μlen:=by rw [hset];simp [hs.μlen]
   μpre:=hs.μpre
   nle:=by rw [hset];simpa using hs.nle
   heap:=fun id' o' ho'=>by
    rw [hset,List.getElem?_set] at ho'
    by_cases he:id=id'
    ·subst he
     rw [if_pos rfl,if_pos hlt] at ho'
     simp only [Option.some.injEq] at ho'
     subst ho'
     have k5:=k4 (w':=w) (I':=I) (μ':=μ) (fun _ h=>h) (fun _ _=>rfl) (fun _ _ h=>h) (fun _ _=>rfl) (ARep.un v)
     rw [List.set_same _ _ k1] at k5
     refine ⟨blk,b1++b2,hm,⟨cells,et,g1,by simpa using k5⟩,fun _=>⟨?_,fun b hb=>?_⟩,fun hn'=>by omega⟩
     ·refine m1.sublist (List.Sublist.cons_cons _ (List.Sublist.append_left (List.sublist_append_right _ _) _))
     ·have:b∉bk:=fun hmm=>by
       simp only [List.mem_cons,List.mem_append] at hb
       rcases hb with rfl|hb|hb
       ·exact n2 hmm
       ·exact n8 b hb b (.inl hmm) rfl
       ·exact n7 b hmm b hb rfl
      rw [hO'not b this]
      exact m2 b (by simp at hb ⊢;rcases hb with h|h|h<;>simp [h])
    ·rw [if_neg he] at ho'
     obtain ⟨blk',ds,j1,j2,j3,j4⟩:=hs.heap id' o' ho'
     exact ⟨blk',ds,j1,j2,fun hn'=>⟨(j3 hn').1,fun b hb=>hO'ne b _ ((j3 hn').2 b hb) (fun e=>he (by cases e;rfl))⟩,j4⟩
   klt:=hs.klt,n0le:=hs.n0le},fun t=>?_,hs.nt,hs.dfs⟩⟩
 exact (hs.envr t).cellSet hH hc hm (fun _ h=>h) (fun _ _=>rfl) (fun b hb=>⟨rfl,hO'ne b _ hb (by simp)⟩) (fun _ _ _ _ _ v hv=>hv)
theorem Sim.storeC (hs:Sim P X env H a w I μ O) {id off blk:Nat} {cs:List AV} {c av:AV} {v:Value} (hH:H[id]?=some (.box cs)) (hc:cs[off]?=some c) (hm:μ[id]?=some blk) (hn:X.n0≤id)
  {hbs:List Nat} (p1:ARep P w I μ av v hbs) (p2:hbs.Nodup) (p3:∀ b∈hbs,O b=some .r) :
  Sim P X (EP (Aj c) (.c id off) env) (Da H id off av) a (w.setCell ⟨blk,off,none⟩ v) I μ (fun b=>if b∈hbs then some (.o id) else O b)∧(∃ u,w.cell? ⟨blk,off,none⟩=some u)∧w.frozen? ⟨blk,off,none⟩=false:=by
 obtain ⟨blk',bs,h1,⟨cells,et,g1,g2⟩,h3,h4⟩:=hs.heap id _ hH
 rw [hm] at h1;cases h1
 obtain ⟨u,b1,bk,b2,k1,k2,rfl,k4⟩:=g2.at off _ hc
 obtain ⟨m1,m2⟩:=h3 hn
 have hrl:∀ b l,O b=some l→l≠.r→(if b∈hbs then some (Loc.o id) else O b)=some l:=fun b l hl hne=>by
  rw [if_neg fun hm=>hne (by have:=p3 b hm;rw [hl] at this;exact Option.some.inj this)];exact hl
 have hset:Da H id off av=H.set id (.box (cs.set off av)):=by simp [Da,hH]
 have hlt:id<H.length:=(List.getElem?_eq_some_iff.1 hH).1
 have hOb:O blk=some (.o id):=m2 blk (by simp)
 have hoth:∀ b,b≠blk→(w.setCell ⟨blk,off,none⟩ v).heap[b]?=w.heap[b]?:=fun b hb=>heap_setCell_other w _ b v hb
 have hIb:∀ b,I b→b≠blk:=fun b hi e=>(hs.own blk _ hOb).2 (e▸hi)
 have hb':∀ b l,O b=some l→l≠.o id→b≠blk:=fun b l hl hne e=>by rw [e,hOb] at hl;exact hne (Option.some.inj hl).symm
 refine ⟨⟨{
   prot:=fun b hk=>by
    rw [hoth b fun e=>by have:=hs.kO b hk;rw [e,hOb] at this;cases this];exact hs.prot b hk
   kO:=fun b hk=>by rw [if_neg fun hm=>by have:=p3 b hm;rw [hs.kO b hk] at this;cases this];exact hs.kO b hk
   kI:=hs.kI,mono:=hs.mono,os:=hs.os,tape:=hs.tape,output:=hs.output,size:=by simpa using hs.size
   own:=fun b l hl=>by
    by_cases hm:b∈hbs
    ·simpa using hs.own b _ (p3 b hm)
    ·rw [if_neg hm] at hl;simpa using hs.own b l hl
   ilt:=fun b hi=>by simpa using hs.ilt b hi
   μlen:=by rw [hset];simp [hs.μlen]
   μpre:=hs.μpre
   nle:=by rw [hset];simpa using hs.nle
   heap:=fun id' o' ho'=>by
    rw [hset,List.getElem?_set] at ho'
    by_cases he:id=id'
    ·subst he
     rw [if_pos rfl,if_pos hlt] at ho'
     simp only [Option.some.injEq] at ho'
     subst ho'
     have hkeep:∀ b∈b1++b2,(w.setCell ⟨blk,off,none⟩ v).heap[b]?=w.heap[b]?:=fun b hb=>hoth b fun e=>by
      have:=(List.nodup_cons.1 m1).1
      rw [← e] at this
      exact this (by simp at hb ⊢;rcases hb with h|h<;>simp [h])
     have k5:=k4 (w':=w.setCell ⟨blk,off,none⟩ v) (I':=I) (μ':=μ) (fun _ h=>h) (fun b hi=>hoth b (hIb b hi)) (fun _ _ h=>h) hkeep
      (p1.keep (fun _ h=>h) (fun b hi=>hoth b (hIb b hi)) (fun _ _ h=>h) fun b hb=>hoth b (hb' b _ (p3 b hb) (by simp)))
     refine ⟨blk,b1++(hbs++b2),hm,⟨cells.setIfInBounds off v,et,heap_setCell_same w blk off cells et v g1,by simpa using k5⟩,fun _=>⟨?_,fun b hb=>?_⟩,fun hn'=>by omega⟩
     ·have m3:(blk::(b1++b2)).Nodup:=m1.sublist (List.Sublist.cons_cons _ (List.Sublist.append_left (List.sublist_append_right _ _) _))
      have hd:∀ b∈hbs,b∉blk::(b1++b2):=fun b hb hm=>by
       have h5:=p3 b hb
       have h6:O b=some (.o id):=m2 b (by simp at hm ⊢;rcases hm with h|h|h<;>simp [h])
       rw [h5] at h6;simp at h6
      have:(blk::(b1++(hbs++b2))).Perm (hbs++(blk::(b1++b2))):=by
       have h7:(b1++(hbs++b2)).Perm (hbs++(b1++b2)):=by
        rw [← List.append_assoc,← List.append_assoc]
        exact (List.perm_append_comm).append_right _
       exact (h7.cons blk).trans (List.perm_middle.symm)
      refine this.nodup_iff.2 (List.nodup_append.2 ⟨p2,m3,fun a ha b hb e=>hd a ha (e▸hb)⟩)
     ·have:b∈hbs∨b∈blk::(b1++(bk++b2)):=by
       simp at hb ⊢;rcases hb with h|h|h|h<;>simp [h]
      rcases this with h|h
      ·rw [if_pos h]
      ·exact hrl b _ (m2 b h) (by simp)
    ·rw [if_neg he] at ho'
     obtain ⟨blk',ds,j1,j2,j3,j4⟩:=hs.heap id' o' ho'
     have hne:∀ b∈blk'::ds,b≠blk:=fun b hb e=>by
      rcases Nat.lt_or_ge id' X.n0 with hlt'|hge
      ·have:=hs.kO _ (j4 hlt' b hb);rw [e,hOb] at this;cases this
      ·have:=(j3 hge).2 b hb;rw [e,hOb] at this;simp at this;exact he this
     refine ⟨blk',ds,j1,?_,fun hn'=>⟨(j3 hn').1,fun b hb=>hrl b _ ((j3 hn').2 b hb) (by simp)⟩,j4⟩
     cases o' with
     | box c' =>
      obtain ⟨cells',et',q1,q2⟩:=j2
      exact ⟨cells',et',(hoth blk' (hne blk' (by simp))).trans q1,q2.keep (fun _ h=>h) (fun b hi=>hoth b (hIb b hi)) (fun _ _ h=>h) fun b hb=>hoth b (hne b (by simp [hb]))⟩
     | mo _ _=>exact ⟨j2.1,j2.2.keep (hoth blk' (hne blk' (by simp))) (fun b hi=>hoth b (hIb b hi)) fun _ h=>h⟩
   klt:=hs.klt,n0le:=hs.n0le},fun t=>?_,hs.nt,hs.dfs⟩,?_,frozen_of_row w blk off cells et g1⟩
 ·refine (hs.envr t).cellSet hH hc hm (fun _ h=>h) (fun b hi=>hoth b (hIb b hi)) (fun b hb=>⟨hoth b (hb' b _ hb (by simp)),hrl b _ hb (by simp)⟩) fun id' off' b' hm' hne v' hv'=>?_
  rw [World.cell?_setCell_other]
  ·exact hv'
  ·intro e
   cases e
   by_cases hid:id'=id
   ·subst hid;exact hne rfl
   ·have hid':id'<H.length:=by rw [← hs.μlen];exact (List.getElem?_eq_some_iff.1 hm').1
    exact hs.toMem.block_ne hH (List.getElem?_eq_getElem hid') hm hm' hn hid rfl
 ·exact ⟨u,by rw [cell_of_row w blk off cells et (0,0) g1];simpa using k1⟩
end
end Go.FL
namespace Go.FL
open Go Go.RowKit
def FJ (p:Pl) (v:AV) (env:Env) : Env :=
 match p with
 | .t t=>(t,v)::env
 | .c _ _=>env
def HM (p:Pl) (v:AV) (H:Ab) : Ab :=
 match p with
 | .t _=>H
 | .c id off=>Da H id off v
section
variable {P:Program} {X:Snap} {env env':Env} {H H':Ab} {a a':Act} {w w':World} {I I':Nat→Prop} {μ μ':List Nat} {O O':Nat→Option Loc}
theorem TRep.keepL (hI:∀ b,I b→I' b) (hw:∀ b,I b→w'.heap[b]?=w.heap[b]?) (hμ:∀ (i b:Nat),μ[i]?=some b→μ'[i]?=some b) {t:Nat} (he:get env' t=get env t)
  (hb:∀ b,O b=some (.t t)→w'.heap[b]?=w.heap[b]?∧O' b=some (.t t))
  (hpl:∀ p e xs,AB env H p=.own e xs→∃ xs',AB env' H' p=.own e xs'∧xs'.length=xs.length∧∀ v,AR a w μ p=some v→AR a w' μ' p=some v)
  (h:TRep P env H a w I μ O t (get env t)):TRep P env' H' a w' I' μ' O' t (get env' t):=by
 rw [he]
 cases hg:get env t with
 | ref p off len =>
  rw [hg] at h
  obtain ⟨e,xs,A,n,c,h1,h2,h3,h4⟩:=h
  obtain ⟨xs',g1,g2,g3⟩:=hpl p e xs h1
  exact ⟨e,xs',A,n,c,g1,g3 _ h2,by omega,h4⟩
 | ep p i k =>
  rw [hg] at h
  obtain ⟨e,xs,b,n,c,h1,h2,h3,h4,h5⟩:=h
  obtain ⟨xs',g1,g2,g3⟩:=hpl p e xs h1
  exact ⟨e,xs',b,n,c,g1,g3 _ h2,by omega,h4,h5⟩
 | _ =>
  rw [hg] at h
  obtain ⟨bs,h1,h2,h3⟩:=h.plain rfl
  exact .of (h1.keep hI hw hμ fun b hm=>(hb b (h3 b hm)).1) h2 fun b hm=>(hb b (h3 b hm)).2
theorem Sim.storeE (hs:Sim P X env H a w I μ O) {p:Pl} {i k:Nat} {pv:Value} {e:TypeId} {xs:List DV} (hp:AB env H p=.own e xs) (hn:∀ id off,p=.c id off→X.n0≤id)
  (he:Kq P env H a w μ p i k pv) {x x' x0:DV} {u:Value} (hx:xs[i]?=some x) (hc:x'.cells=x.cells.set k x0) (hr:Rep w I x0 u) (hu:u.oneCell'=true) :
  ∃ b off,pv=.pointer (some ⟨b,off,none⟩)∧(∃ u0,w.cell? ⟨b,off,none⟩=some u0)∧w.frozen? ⟨b,off,none⟩=false ∧
   Sim P X (FJ p (.own e (xs.set i x')) env) (HM p (.own e (xs.set i x')) H) a (w.setCell ⟨b,off,none⟩ u) I μ O:=by
 obtain ⟨v,bs,hv,hr0,hbs,hO⟩:=hs.at_place hp
 obtain ⟨e',ys,b,n,c,h1,h2,h3,h4,h5⟩:=he
 rw [hp] at h1;cases h1
 rw [hv] at h2;cases h2
 have hc0:¬c=0:=by
  have:=DX hr0;omega
 have hb:bs=[b]:=by rw [hbs];simp [Bv,hc0]
 subst hb
 obtain ⟨_,vs,hsz,ho,hrow⟩:=hr0.own_inv
 ·replace ho:w.ownsRow 0 e (Av P e) (.slice (some ⟨b,0,none⟩) n c) xs.length vs:=by
   rcases ho with ⟨A,h,_⟩|⟨h,_⟩
   ·simp only [Value.slice.injEq] at h;omega
   ·exact h
  have hnn:n=xs.length:=by
   rcases ho.2 with ⟨h,_⟩|⟨g,cap,cur,h,_⟩
   ·cases h
   ·simp only [Value.slice.injEq] at h;exact h.2.1
  subst hnn
  have hj:i * Av P e+k<xs.length * Av P e:=by
   calc i * Av P e+k<i * Av P e+Av P e:=by omega
    _=(i+1) * Av P e:=by rw [Nat.add_mul,Nat.one_mul]
    _≤xs.length * Av P e:=Nat.mul_le_mul_right _ h3
  obtain ⟨s1,s2⟩:=ho.stored (i * Av P e+k) u
  have hlenvs:vs.length=xs.length * Av P e:=ho.1
  have hcell:∃ u0,w.cell? ⟨b,i * Av P e+k,none⟩=some u0:=by
   rw [ho.cellAt _ hj,List.getElem?_eq_getElem (by omega)];exact ⟨_,rfl⟩
  have hlt:b<w.heap.size:=(hO b (by simp)).1
  have hIb:¬I b:=by
   cases p with
   | t n=>exact (hs.own b _ ((hO b (by simp)).2.1 n rfl)).2
   | c id off=>exact (hs.own b _ (((hO b (by simp)).2.2 id off rfl).1 (hn id off rfl))).2
  have hKb:¬X.K b:=fun hk=>by
   have:=hs.kO b hk
   cases p with
   | t n=>rw [(hO b (by simp)).2.1 n rfl] at this;cases this
   | c id off=>rw [((hO b (by simp)).2.2 id off rfl).1 (hn id off rfl)] at this;cases this
  have hoth:∀ b',b'≠b→(w.setCell ⟨b,i * Av P e+k,none⟩ u).heap[b']?=w.heap[b']?:=fun b' hb'=>heap_setCell_other w _ b' u hb'
  have hII:∀ b',I b'→(w.setCell ⟨b,i * Av P e+k,none⟩ u).heap[b']?=w.heap[b']?:=fun b' hi=>hoth b' fun e=>hIb (e▸hi)
  have hnew:ARep P (w.setCell ⟨b,i * Av P e+k,none⟩ u) I μ (.own e (xs.set i x')) (.slice (some ⟨b,0,none⟩) xs.length c) [b]:=by
   have:=ARep.own (P:=P) (w:=w.setCell ⟨b,i * Av P e+k,none⟩ u) (I:=I) (μ:=μ) e (xs.set i x') (.slice (some ⟨b,0,none⟩) xs.length c) (vs.set (i * Av P e+k) u) hsz
    (by rw [List.length_set];exact .of s1)
    ((hrow.keep hII fun _ h=>h).set i k x x' u hx h4 hu hc (hr.keep hII fun _ h=>h))
   rwa [show Bv (.slice (some ⟨b,0,none⟩) xs.length c)=[b] by simp [Bv,hc0]] at this
  refine ⟨b,_,h5,hcell,ho.frozenAt _,?_⟩
  have hmem:∀ H',(∀ (hlen:H'.length=H.length) ,(∀ id o,H'[id]?=some o→∃ blk cs,μ[id]?=some blk∧ORep P (w.setCell ⟨b,i * Av P e+k,none⟩ u) I μ o blk cs ∧
    (X.n0≤id→(blk::cs).Nodup∧∀ b∈blk::cs,O b=some (.o id))∧(id<X.n0→∀ b∈blk::cs,X.K b))→Mem P X H' (w.setCell ⟨b,i * Av P e+k,none⟩ u) I μ O):=fun H' hlen hh=>{
   prot:=fun b' hk=>(hoth b' fun e=>hKb (e▸hk)).trans (hs.prot b' hk)
   kO:=hs.kO,kI:=hs.kI,mono:=hs.mono,os:=hs.os,tape:=hs.tape,output:=hs.output
   size:=by simpa using hs.size
   own:=fun b' l hl=>by simpa using hs.own b' l hl
   ilt:=fun b' hi=>by simpa using hs.ilt b' hi
   μlen:=by rw [hlen];exact hs.μlen
   μpre:=hs.μpre
   nle:=by rw [hlen];exact hs.nle
   heap:=hh,klt:=hs.klt,n0le:=hs.n0le}
  have hobj:∀ id o,H[id]?=some o→(∀ b'∈[b],O b'≠some (.o id))→∃ blk cs,μ[id]?=some blk∧ORep P (w.setCell ⟨b,i * Av P e+k,none⟩ u) I μ o blk cs ∧
    (X.n0≤id→(blk::cs).Nodup∧∀ b∈blk::cs,O b=some (.o id))∧(id<X.n0→∀ b∈blk::cs,X.K b):=fun id o ho' hne=>by
   obtain ⟨blk,cs,j1,j2,j3,j4⟩:=hs.heap id o ho'
   have hx':∀ b'∈blk::cs,b'≠b:=fun b' hb' e=>by
    rcases Nat.lt_or_ge id X.n0 with hlt'|hge
    ·exact hKb (e▸j4 hlt' b' hb')
    ·exact hne b (by simp) (e▸(j3 hge).2 b' hb')
   refine ⟨blk,cs,j1,?_,j3,j4⟩
   cases o with
   | box c' =>
    obtain ⟨cells',et',q1,q2⟩:=j2
    exact ⟨cells',et',(hoth blk (hx' blk (by simp))).trans q1,q2.keep (fun _ h=>h) hII (fun _ _ h=>h) fun b' hb'=>hoth b' (hx' b' (by simp [hb']))⟩
   | mo _ _=>exact ⟨j2.1,j2.2.keep (hoth blk (hx' blk (by simp))) hII fun _ h=>h⟩
  cases p with
  | t t0 =>
   have hOb:O b=some (.t t0):=(hO b (by simp)).2.1 t0 rfl
   refine ⟨hmem H rfl fun id o ho'=>hobj id o ho' (fun b' hb'=>by simp at hb';subst hb';rw [hOb];simp),fun s=>?_,hs.nt,hs.dfs⟩
   by_cases hst:s=t0
   ·subst hst
    have:get (FJ (.t s) (.own e (xs.set i x')) env) s=.own e (xs.set i x'):=by simp [FJ,get]
    rw [this]
    simp only [AR,Option.some.injEq] at hv
    exact .of (by rw [hv];exact hnew) (by simp) fun b' hb'=>by simp at hb';subst hb';exact hOb
   ·refine (hs.envr s).keepL (fun _ h=>h) hII (fun _ _ h=>h) (by simp [FJ,get,Ne.symm hst]) (fun b' hb'=>⟨hoth b' fun e=>by rw [e,hOb] at hb';simp at hb';exact hst hb'.symm,hb'⟩) fun q e' ys hq=>?_
    cases q with
    | t r =>
     by_cases hrt:r=t0
     ·subst hrt
      have:AV.own e xs=.own e' ys:=hp.symm.trans hq
      cases this
      exact ⟨xs.set i x',by simp [FJ,AB,get],by simp,fun v hv=>hv⟩
     ·exact ⟨ys,by simp only [FJ,AB,get];rw [if_neg (Ne.symm hrt)];exact hq,rfl,fun v hv=>hv⟩
    | c id off =>
     refine ⟨ys,hq,rfl,fun v' hv'=>?_⟩
     simp only [AR] at hv' ⊢
     cases hm':μ[id]? with
     | none=>simp [hm'] at hv'
     | some b' =>
      simp only [hm',Option.bind_some] at hv' ⊢
      have hid:id<H.length:=by rw [← hs.μlen];exact (List.getElem?_eq_some_iff.1 hm').1
      obtain ⟨blk,cs,j1,j2,j3,j4⟩:=hs.heap id _ (List.getElem?_eq_getElem hid)
      rw [hm'] at j1;cases j1
      have hne:b'≠b:=fun e=>by
       rcases Nat.lt_or_ge id X.n0 with hlt'|hge
       ·exact hKb (e▸j4 hlt' b' (by simp))
       ·have:=(j3 hge).2 b' (by simp);rw [e,hOb] at this;simp at this
      rw [World.cell?_setCell_other]
      ·exact hv'
      ·intro e;cases e;exact hne rfl
  | c id off =>
   have hid0:=hn id off rfl
   have hOb:O b=some (.o id):=((hO b (by simp)).2.2 id off rfl).1 hid0
   simp only [AB] at hp
   cases hH:H[id]? with
   | none=>rw [hH] at hp;cases hp
   | some o =>
    cases o with
    | mo _ _=>rw [hH] at hp;cases hp
    | box cs =>
     rw [hH] at hp
     replace hp:cs.getD off .un=.own e xs:=hp
     have hcs:cs[off]?=some (.own e xs):=by
      rw [List.getD_eq_getElem?_getD] at hp
      cases hx:cs[off]? with
      | none=>simp [hx] at hp
      | some y=>simp [hx] at hp;rw [hp]
     have hset:HM (.c id off) (.own e (xs.set i x')) H=H.set id (.box (cs.set off (.own e (xs.set i x')))):=by simp [HM,Da,hH]
     have hlt':id<H.length:=(List.getElem?_eq_some_iff.1 hH).1
     obtain ⟨blk,ds,j1,⟨cells,et,g1,g2⟩,j3,j4⟩:=hs.heap id _ hH
     have hblk:blk≠b:=fun e=>by
      obtain ⟨u',b1,bk,b2,k1,k2,rfl,k4⟩:=g2.at off _ hcs
      have:u'=.slice (some ⟨b,0,none⟩) xs.length c:=by
       simp only [AR,j1,Option.bind_some] at hv
       rw [cell_of_row w blk off cells et (0,0) g1] at hv
       rw [show cells.toList[off]?=cells[off]? by simp] at k1
       rw [k1] at hv;exact Option.some.inj hv
      subst this
      have hbk:bk=[b]:=by rw [k2.own_inv.1];simp [Bv,hc0]
      subst hbk
      have:=(List.nodup_cons.1 (j3 hid0).1).1
      rw [e] at this;exact this (by simp)
     have hcellb:∀ id' off' b' v',μ[id']?=some b'→w.cell? ⟨b',off',none⟩=some v'→(w.setCell ⟨b,i * Av P e+k,none⟩ u).cell? ⟨b',off',none⟩=some v':=fun id' off' b' v' hm' hv'=>by
      have hid:id'<H.length:=by rw [← hs.μlen];exact (List.getElem?_eq_some_iff.1 hm').1
      have hne:b'≠b:=fun e=>by
       by_cases hii:id'=id
       ·subst hii;rw [j1] at hm';cases hm';exact hblk e
       ·obtain ⟨blk',cs',q1,q2,q3,q4⟩:=hs.heap id' _ (List.getElem?_eq_getElem hid)
        rw [hm'] at q1;cases q1
        rcases Nat.lt_or_ge id' X.n0 with hlt2|hge
        ·exact hKb (e▸q4 hlt2 b' (by simp))
        ·have:=(q3 hge).2 b' (by simp);rw [e,hOb] at this;simp at this;exact hii this.symm
      rw [World.cell?_setCell_other]
      ·exact hv'
      ·intro e;cases e;exact hne rfl
     refine ⟨hmem _ (by rw [hset];simp) fun id' o' ho'=>?_,fun s=>?_,hs.nt,hs.dfs⟩
     ·rw [hset,List.getElem?_set] at ho'
      by_cases hii:id=id'
      ·subst hii
       rw [if_pos rfl,if_pos hlt'] at ho'
       simp only [Option.some.injEq] at ho'
       subst ho'
       obtain ⟨u',b1,bk,b2,k1,k2,rfl,k4⟩:=g2.at off _ hcs
       have:u'=.slice (some ⟨b,0,none⟩) xs.length c:=by
        simp only [AR,j1,Option.bind_some] at hv
        rw [cell_of_row w blk off cells et (0,0) g1] at hv
        rw [show cells.toList[off]?=cells[off]? by simp] at k1
        rw [k1] at hv;exact Option.some.inj hv
       subst this
       have hbk:bk=[b]:=by rw [k2.own_inv.1];simp [Bv,hc0]
       subst hbk
       have hnd:=(j3 hid0).1
       have hkeep:∀ b'∈b1++b2,(w.setCell ⟨b,i * Av P e+k,none⟩ u).heap[b']?=w.heap[b']?:=fun b' hb'=>hoth b' fun e=>by
        subst e
        simp only [List.nodup_cons,List.mem_append,List.nodup_append,not_or] at hnd
        obtain ⟨⟨n1,n2,n3⟩,n4,⟨n5,n6,n7⟩,n8⟩:=hnd
        rcases List.mem_append.1 hb' with hb'|hb'
        ·exact n8 b' hb' b' (.inl (by simp)) rfl
        ·exact n7 b' (by simp) b' hb' rfl
       have k5:=k4 (w':=w.setCell ⟨b,i * Av P e+k,none⟩ u) (I':=I) (μ':=μ) (fun _ h=>h) hII (fun _ _ h=>h) hkeep hnew
       rw [List.set_same _ _ k1] at k5
       exact ⟨blk,b1++([b]++b2),j1,⟨cells,et,(hoth blk hblk).trans g1,k5⟩,j3,j4⟩
      ·rw [if_neg hii] at ho'
       exact hobj id' o' ho' (fun b' hb'=>by simp at hb';subst hb';rw [hOb];intro e;cases e;exact hii rfl)
     ·refine (hs.envr s).keepL (fun _ h=>h) hII (fun _ _ h=>h) rfl (fun b' hb'=>⟨hoth b' fun e=>by rw [e,hOb] at hb';simp at hb',hb'⟩) fun q e' ys hq=>?_
      cases q with
      | t r=>exact ⟨ys,hq,rfl,fun v hv=>hv⟩
      | c id' off' =>
       have hvv:∀ v',AR a w μ (.c id' off')=some v'→AR a (w.setCell ⟨b,i * Av P e+k,none⟩ u) μ (.c id' off')=some v':=fun v' hv'=>by
        simp only [AR] at hv' ⊢
        cases hm':μ[id']? with
        | none=>simp [hm'] at hv'
        | some b' =>
         simp only [hm',Option.bind_some] at hv' ⊢
         exact hcellb id' off' b' v' hm' hv'
       by_cases hqq:id'=id∧off'=off
       ·obtain ⟨rfl,rfl⟩:=hqq
        have hq':AB env H (.c id' off')=.own e xs:=by simp only [AB,hH];exact hp
        replace hq:AB env H (.c id' off')=.own e' ys:=hq
        rw [hq'] at hq;cases hq
        have hol:off'<cs.length:=(List.getElem?_eq_some_iff.1 hcs).1
        refine ⟨xs.set i x',?_,by simp,hvv⟩
        simp only [AB]
        rw [hset,List.getElem?_set,if_pos rfl,if_pos hlt']
        simp [List.getD_eq_getElem?_getD,hol]
       ·refine ⟨ys,?_,rfl,hvv⟩
        simp only [AB] at hq ⊢
        rw [hset,List.getElem?_set]
        by_cases he:id=id'
        ·subst he
         rw [if_pos rfl,if_pos hlt']
         rw [hH] at hq
         have:off≠off':=fun e=>hqq ⟨rfl,e.symm⟩
         simp only [List.getD_eq_getElem?_getD] at hq ⊢
         rw [List.getElem?_set_ne this];exact hq
        ·rw [if_neg he];exact hq
theorem Sim.grownR (h:Sim P X env H a w I μ O) {row:Option Nat} (hg:w.grownBy w' row) (hr:∀ b,row=some b→O b=some .r) : Sim P X env H a w' I μ O:=by
 have hoth:∀ b,b<w.heap.size→O b≠some .r→w'.heap[b]?=w.heap[b]?:=fun b hb hne=>hg.block b hb fun e=>hne (hr b e.symm)
 have hII:∀ b,I b→w'.heap[b]?=w.heap[b]?:=fun b hi=>hoth b (h.ilt b hi) fun e=>(h.own b _ e).2 hi
 refine ⟨{
  prot:=fun b hk=>(hoth b (Nat.lt_of_lt_of_le (h.klt b hk) h.size) (by rw [h.kO b hk];simp)).trans (h.prot b hk)
  kO:=h.kO,kI:=h.kI,mono:=h.mono,os:=hg.os.trans h.os,tape:=hg.tape.trans h.tape,output:=hg.output.trans h.output
  size:=Nat.le_trans h.size hg.size
  own:=fun b l hl=>⟨Nat.lt_of_lt_of_le (h.own b l hl).1 hg.size,(h.own b l hl).2⟩
  ilt:=fun b hi=>Nat.lt_of_lt_of_le (h.ilt b hi) hg.size
  μlen:=h.μlen,μpre:=h.μpre,nle:=h.nle
  heap:=fun id o ho=>by
   obtain ⟨blk,bs,h1,h2,h3,h4⟩:=h.heap id o ho
   refine ⟨blk,bs,h1,?_,h3,h4⟩
   have hx:∀ b∈blk::bs,w'.heap[b]?=w.heap[b]?:=fun b hm=>by
    rcases Nat.lt_or_ge id X.n0 with hn|hn
    ·exact hoth b (Nat.lt_of_lt_of_le (h.klt b (h4 hn b hm)) h.size) (by rw [h.kO b (h4 hn b hm)];simp)
    ·exact hoth b (h.own b _ ((h3 hn).2 b hm)).1 (by rw [(h3 hn).2 b hm];simp)
   cases o with
   | box cs =>
    obtain ⟨cells,e,g1,g2⟩:=h2
    exact ⟨cells,e,(hx blk (by simp)).trans g1,g2.keep (fun _ h=>h) hII (fun _ _ h=>h) fun b hm=>hx b (by simp [hm])⟩
   | mo _ _=>exact ⟨h2.1,h2.2.keep (hx blk (by simp)) hII fun _ h=>h⟩
  klt:=h.klt,n0le:=h.n0le},fun t=>?_,h.nt,h.dfs⟩
 refine (h.envr t).keepG (fun _ h=>h) hII (fun _ _ h=>h) (fun b hb=>⟨hoth b (h.own b _ hb).1 (by rw [hb];simp),hb⟩) fun p e xs hp=>⟨hp,fun v hv=>?_⟩
 cases p with
 | t n=>exact hv
 | c id off =>
  simp only [AR] at hv ⊢
  cases hm:μ[id]? with
  | none=>simp [hm] at hv
  | some b =>
   simp only [hm,Option.bind_some] at hv ⊢
   have hid:id<H.length:=by rw [← h.μlen];exact (List.getElem?_eq_some_iff.1 hm).1
   obtain ⟨blk,bs,h1,_,h3,h4⟩:=h.heap id _ (List.getElem?_eq_getElem hid)
   rw [hm] at h1;cases h1
   rw [World.cell?_of_block (w:=w) (w':=w') (a:=⟨b,off,none⟩)]
   ·exact hv
   ·rcases Nat.lt_or_ge id X.n0 with hn|hn
    ·exact hoth b (Nat.lt_of_lt_of_le (h.klt b (h4 hn b (by simp))) h.size) (by rw [h.kO b (h4 hn b (by simp))];simp)
    ·exact hoth b (h.own b _ ((h3 hn).2 b (by simp))).1 (by rw [(h3 hn).2 b (by simp)];simp)
theorem Sim.newR (h:Sim P X env H a w I μ O) (bs:List Nat) (hb:∀ b∈bs,b<w.heap.size∧(O b=none∨O b=some .r)∧¬I b∧¬X.K b) :
  Sim P X env H a w I μ (fun b=>if b∈bs then some .r else O b):=by
 have hO:∀ b l,O b=some l→l≠.r→(if b∈bs then some Loc.r else O b)=some l:=fun b l hl hne=>by
  by_cases hm:b∈bs
  ·rcases (hb b hm).2.1 with h|h
   ·rw [h] at hl;cases hl
   ·rw [h] at hl;exact absurd (Option.some.inj hl).symm hne
  ·rw [if_neg hm];exact hl
 refine ⟨{
  prot:=h.prot
  kO:=fun b hk=>by rw [if_neg fun hm=>(hb b hm).2.2.2 hk];exact h.kO b hk
  kI:=h.kI,mono:=h.mono,os:=h.os,tape:=h.tape,output:=h.output,size:=h.size
  own:=fun b l hl=>by
   by_cases hm:b∈bs
   ·exact ⟨(hb b hm).1,(hb b hm).2.2.1⟩
   ·rw [if_neg hm] at hl;exact h.own b l hl
  ilt:=h.ilt,μlen:=h.μlen,μpre:=h.μpre,nle:=h.nle
  heap:=fun id o ho=>by
   obtain ⟨blk,cs,h1,h2,h3,h4⟩:=h.heap id o ho
   exact ⟨blk,cs,h1,h2,fun hn=>⟨(h3 hn).1,fun b hm=>hO b _ ((h3 hn).2 b hm) (by simp)⟩,h4⟩
  klt:=h.klt,n0le:=h.n0le},fun t=>?_,h.nt,h.dfs⟩
 exact (h.envr t).keepG (fun _ h=>h) (fun _ _=>rfl) (fun _ _ h=>h) (fun b hb'=>⟨rfl,hO b _ hb' (by simp)⟩) fun p e xs hp=>⟨hp,fun v hv=>hv⟩
theorem Sim.newOwn (h:Sim P X env H a w I μ O) {e:TypeId} (xs:List DV) (vs:List Value) (hsz:0<Av P e) (hm:xs.length≤maxLen) (hr:RepRows w I (Av P e) xs vs) :
  ∃ O',Sim P X env H a (w.alloc (.cells vs.toArray e)) I μ O'∧Hand P (w.alloc (.cells vs.toArray e)) I μ O' (.own e xs) (.slice (some ⟨w.heap.size,0,none⟩) xs.length xs.length):=by
 have hbel:Below w.heap.size w (w.alloc (.cells vs.toArray e)):=(Below.refl _ _).alloc (Nat.le_refl _) _
 have h1:=h.grow hbel
 have hO:O w.heap.size=none:=by
  cases hx:O w.heap.size with
  | none=>rfl
  | some l=>have:=(h.own _ l hx).1;omega
 have h2:=h1.newR [w.heap.size] fun b hb=>by
  simp at hb;subst hb
  exact ⟨by simp,.inl hO,fun hi=>by have:=h.ilt _ hi;omega,fun hk=>by have:=h.klt _ hk;have:=h.size;omega⟩
 have hbs:∀ b∈Bv (.slice (some ⟨w.heap.size,0,none⟩) xs.length xs.length),b=w.heap.size:=fun b hb=>by
  simp only [Bv] at hb
  split at hb<;>simp at hb
  exact hb
 refine ⟨_,h2,Bv (.slice (some ⟨w.heap.size,0,none⟩) xs.length xs.length),?_,by simp only [Bv];split<;>simp,fun b hb=>by rw [hbs b hb];simp⟩
 have hl:vs.toArray.size=xs.length * Av P e:=by simpa using hr.length
 have:=ARep.own (P:=P) (μ:=μ) (I:=I) e xs _ vs.toArray.toList hsz (.of <| World.ownsRow_lit w vs.toArray xs.length (base:=0) (e:=e) (Nat.zero_le _) hm hl)
  (by simpa using hr.keep (fun b hi=>hbel.block b (h.ilt b hi)) fun _ h=>h)
 exact this
end
end Go.FL
namespace Go.FL
open Go Go.RowKit
def OpOK (P:Program) (C:Cx) (o:Oper) (env:Env) (H:Ab) (K:Env→Ab→Prop) : Prop :=
 ∀ X a w I μ O (next:Act→World→Prop) Q,X.nt=C.nt→X.n0=C.n0→X.ne=C.ne→Sim P X env H a w I μ O →
  (∀ env' H' a' w' I' μ' O',Sim P X env' H' a' w' I' μ' O'→K env' H'→next a' w')→o.wpIn (om C.ro) 0 P a w next Q
inductive AO where
 | t (n:Nat)
 | k (v:DV)
 | nl
 | f (g:FuncId)
def look (env:Env) : AO→AV
 | .t n=>get env n
 | .k v=>.d v
 | .nl=>.nl
 | .f g=>.d (.fn g [] [])
def TG : Value→DV→Bool
 | .bool b,.b x=>b == x
 | .int k n,.i k' n'=>k == k'&&n == n'
 | .string s,.s x=>s.data.toList == x.data.toList
 | .nilFunc,.nf=>true
 | .pointer none,.np=>true
 | .nilIface,.ni=>true
 | _,_=>false
def AA : Operand→AO→Bool
 | .tmp t,.t s=>t == s
 | .const (.slice none 0 0),.nl=>true
 | .const v,.k x=>TG v x
 | .func g,.f h=>g == h
 | _,_=>false
section
variable {P:Program} {C:Cx} {X:Snap} {o:Oper} {env env':Env} {H H':Ab} {a:Act} {w w':World} {I I':Nat→Prop} {μ μ':List Nat} {O O':Nat→Option Loc} {K:Env→Ab→Prop}
theorem UI {v:Value} {x:DV} (h:TG v x=true) : Rep w I x v:=by
 unfold TG at h
 split at h
 ·simp at h;subst h;exact .b _
 ·simp at h;obtain ⟨rfl,rfl⟩:=h;exact .i _ _
 ·rename_i s x
  have:s=x:=by
   cases s;cases x;simp at h;rw [h]
  subst this;exact .s _
 ·exact .nf
 ·exact .np
 ·exact .ni
 ·cases h
theorem Sim.look (hs:Sim P X env H a w I μ O) {x:Operand} {ax:AO} (hf:AA x ax=true) (hr:AI (look env ax)=false) : ∃ bs,ARep P w I μ (look env ax) (a.eval x) bs:=by
 unfold AA at hf
 split at hf
 ·simp at hf;subst hf
  obtain ⟨bs,h1,_⟩:=(hs.envr _).plain hr
  exact ⟨bs,h1⟩
 ·exact ⟨[],.nl⟩
 ·exact ⟨[],.d (UI hf)⟩
 ·simp at hf;subst hf
  exact ⟨[],.d (.fn _ _ _ [] [] .nil .nil)⟩
 ·cases hf
theorem Sim.look_d (hs:Sim P X env H a w I μ O) {x:Operand} {ax:AO} (hf:AA x ax=true) {v:DV} (hv:Go.FL.look env ax=.d v) : Rep w I v (a.eval x):=by
 obtain ⟨bs,h⟩:=hs.look hf (by rw [hv];rfl)
 rw [hv] at h
 cases h with
 | d h=>exact h
theorem Sim.look_i (hs:Sim P X env H a w I μ O) {x:Operand} {ax:AO} (hf:AA x ax=true) {k:IntKind} {n:Int} (hv:Go.FL.look env ax=.d (.i k n)) : a.eval x=.int k n:=by
 have:=hs.look_d hf hv
 generalize a.eval x=u at this
 cases this;rfl
theorem Sim.look_b (hs:Sim P X env H a w I μ O) {x:Operand} {ax:AO} (hf:AA x ax=true) {b:Bool} (hv:Go.FL.look env ax=.d (.b b)) : a.eval x=.bool b:=by
 have:=hs.look_d hf hv
 generalize a.eval x=u at this
 cases this;rfl
theorem Sim.look_s (hs:Sim P X env H a w I μ O) {x:Operand} {ax:AO} (hf:AA x ax=true) {s:ByteArray} (hv:Go.FL.look env ax=.d (.s s)) : a.eval x=.string s:=by
 have:=hs.look_d hf hv
 generalize a.eval x=u at this
 cases this;rfl
theorem Sim.look_copy (hs:Sim P X env H a w I μ O) {x:Operand} {ax:AO} (hf:AA x ax=true) (hr:AI (Go.FL.look env ax)=false) (hn:noOwn (Go.FL.look env ax)=true) :
  Hand P w I μ O (Go.FL.look env ax) (a.eval x):=by
 obtain ⟨bs,h⟩:=hs.look hf hr
 have:=noOwn_bs h hn
 subst this
 exact ⟨[],h,List.nodup_nil,by simp⟩
theorem Hand.of_rep {d:DV} {v:Value} (h:Rep w I d v) : Hand P w I μ O (.d d) v:=⟨[],.d h,List.nodup_nil,by simp⟩
theorem OpOK.val {t:Nat} {av:AV} (hdef:∀ c,o.op≠.defer c) (hd:o.dst=some t) (ht:okT C.nt t)
  (h:∀ X a w I μ O,X.nt=C.nt→X.n0=C.n0→X.ne=C.ne→Sim P X env H a w I μ O →
   ∃ v w' I' μ' O',(execOp a.eval o).run P w=.ok (.value v) w'∧Sim P X env' H' a w' I' μ' O'∧Hand P w' I' μ' O' av v)
  (hK:K (put env' t av) H'):OpOK P C o env H K:=by
 intro X a w I μ O next Q h1 h2 h3 hs hn
 obtain ⟨v,w',I',μ',O',hr,hs',hh⟩:=h X a w I μ O h1 h2 h3 hs
 refine ⟨fun _ _=>trivial,?_⟩
 rw [Oper.semAt_eq _ _ _ hdef,hr,Oper.uponIn_value,hd]
 exact hn _ _ _ _ _ _ _ (hs'.put_hand (by rw [h1];exact ht) hh) hK
theorem OpOK.pure {t:Nat} {av:AV} (hdef:∀ c,o.op≠.defer c) (hd:o.dst=some t) (ht:okT C.nt t)
  (h:∀ X a w I μ O,X.n0=C.n0→Sim P X env H a w I μ O→∃ v,(execOp a.eval o).run P w=.ok (.value v) w∧Hand P w I μ O av v)
  (hK:K (put env t av) H):OpOK P C o env H K :=
 .val hdef hd ht (fun X a w I μ O _ h2 _ hs=>let ⟨v,hr,hh⟩:=h X a w I μ O h2 hs;⟨v,w,I,μ,O,hr,hs,hh⟩) hK
theorem OpOK.done (hdef:∀ c,o.op≠.defer c) (hd:o.dst=none)
  (h:∀ X a w I μ O,X.nt=C.nt→X.n0=C.n0→X.ne=C.ne→Sim P X env H a w I μ O →
   ∃ w' I' μ' O',(execOp a.eval o).run P w=.ok .skip w'∧Sim P X env' H' a w' I' μ' O')
  (hK:K env' H'):OpOK P C o env H K:=by
 intro X a w I μ O next Q h1 h2 h3 hs hn
 obtain ⟨w',I',μ',O',hr,hs'⟩:=h X a w I μ O h1 h2 h3 hs
 refine ⟨fun _ _=>trivial,?_⟩
 rw [Oper.semAt_eq _ _ _ hdef,hr,Oper.uponIn_skip,hd]
 exact hn _ _ _ _ _ _ _ hs' hK
theorem RefRel.self {e:TypeId} {xs:List DV} {p:Pl} (hs:Sim P X env H a w I μ O) (hp:AB env H p=.own e xs) {v:Value} (hv:AR a w μ p=some v) : RefRel P env H a w μ p 0 xs.length v:=by
 obtain ⟨v',bs,h1,h2,_⟩:=hs.at_place hp
 rw [hv] at h1;cases h1
 obtain ⟨A,c,rfl,_,_⟩:=Gv (I':=fun b=>I b∨b∈bs) h2 (fun _ h=>.inl h) (fun _ h=>.inr h) 0 xs.length (by omega)
 exact ⟨e,xs,A,_,c,hp,hv,by omega,SubV.self _ _ _ _ (DX h2).2.1⟩
theorem TW {x s t:Nat} {e:TypeId} {xs:List DV} (ho:o.op=.move (.tmp s)∨o.op=.assign (.tmp s)) (hx:x=s) (hd:o.dst=some t) (ht:okT C.nt t) (hst:s≠t) (hg:get env s=.own e xs)
  (hK:K (put env t (.ref (.t s) 0 xs.length)) H):OpOK P C o env H K:=by
 subst hx
 intro X a w I μ O next Q h1 h2 h3 hs hn
 have hr:(execOp a.eval o).run P w=.ok (.value (a.tmps.getD x undef)) w:=by rcases ho with ho|ho<;>simp [execOp,ho,Act.eval]
 refine ⟨fun _ _=>trivial,?_⟩
 rw [Oper.semAt_eq _ _ _ (by rcases ho with ho|ho<;>simp [ho]),hr,Oper.uponIn_value,hd]
 refine hn _ _ _ _ _ _ _ (hs.put_ref (by rw [h1];exact ht) (by simp [hst]) ?_) hK
 exact RefRel.self (p:=.t x) hs hg rfl
theorem HJ {x:Operand} {ax:AO} {t:Nat} (ho:o.op=.move x∨o.op=.assign x) (hx:AA x ax=true) (hd:o.dst=some t) (ht:okT C.nt t) (hr:AI (look env ax)=false) (hn:noOwn (look env ax)=true)
  (hK:K (put env t (look env ax)) H):OpOK P C o env H K :=
 .pure (by rcases ho with ho|ho<;>simp [ho]) hd ht (fun X a w I μ O _ hs=>⟨_,by rcases ho with ho|ho<;>simp [execOp,ho],hs.look_copy hx hr hn⟩) hK
theorem JF {s t:Nat} (ho:o.op=.move (.tmp s)∨o.op=.assign (.tmp s)) (hd:o.dst=some t) (ht:okT C.nt t) (hr:AI (get env s)=false)
  (hK:K (put (put env s .un) t (get env s)) H):OpOK P C o env H K :=
 .val (by rcases ho with ho|ho<;>simp [ho]) hd ht (fun X a w I μ O _ _ _ hs=>by
  obtain ⟨h1,h2⟩:=hs.take s hr
  exact ⟨_,w,I,μ,_,by rcases ho with ho|ho<;>simp [execOp,ho,Act.eval],h1,h2⟩) hK
theorem Ny {e:TypeId} {sz n m c:Nat} {A:Option Addr} {vs:List Value} (h:w.ownsRow 0 e sz (.slice A n c) n vs) (hm:m≤n) : w.ownsRow 0 e sz (.slice A m c) m (vs.take (m * sz)):=by
 refine ⟨by rw [List.length_take,h.1];exact Nat.min_eq_left (Nat.mul_le_mul_right _ hm),?_⟩
 rcases h.2 with ⟨h1,h2⟩|⟨g,cap,cur,h1,h2,h3,h4,h5,h6,h7⟩
 ·simp only [Value.slice.injEq] at h1
  obtain ⟨rfl,_,rfl⟩:=h1
  have:m=0:=by omega
  subst this;exact .inl ⟨rfl,rfl⟩
 ·simp only [Value.slice.injEq] at h1
  obtain ⟨rfl,_,rfl⟩:=h1
  refine .inr ⟨g,c,cur,rfl,h2,h3,by omega,h5,h6,?_⟩
  rw [← h7,List.take_take,Nat.min_eq_left (Nat.mul_le_mul_right _ hm)]
theorem OwnR.prefix_ {e:TypeId} {sz n m c:Nat} {A:Option Addr} {vs:List Value} (h:OwnR w e sz (.slice A n c) n vs) (hm:m≤n) : OwnR w e sz (.slice A m c) m (vs.take (m * sz)):=by
 rcases h with ⟨B,h,rfl,rfl⟩|⟨h,g,cap,e1,hc⟩
 ·simp only [Value.slice.injEq] at h
  obtain ⟨rfl,_,rfl⟩:=h
  have:m=0:=by omega
  subst this
  exact .inl ⟨_,rfl,rfl,by simp⟩
 ·simp only [Value.slice.injEq] at e1
  obtain ⟨rfl,_,rfl⟩:=e1
  exact .inr ⟨Ny h hm,g,c,rfl,hc⟩
theorem Hand.prefix_ {e:TypeId} {xs:List DV} {A:Option Addr} {n c:Nat} (h:Hand P w I μ O (.own e xs) (.slice A n c)) {m:Nat} (hm:m≤xs.length) : Hand P w I μ O (.own e (xs.take m)) (.slice A m c):=by
 obtain ⟨bs,h1,h2,h3⟩:=h
 cases h1 with
 | own _ _ _ vs hsz ho hr =>
  have hn:n=xs.length:=by
   rcases ho with ⟨A,h,h',_⟩|⟨_,g,cap,h,_⟩<;>(simp only [Value.slice.injEq] at h;omega)
  subst hn
  have hl:(xs.take m).length=m:=by simp;omega
  refine ⟨_,.own e (xs.take m) (.slice A m c) _ hsz (by rw [hl];exact ho.prefix_ hm) (hr.take m),?_,?_⟩
  ·exact (by cases A<;>exact h2)
  ·intro b hb
   exact h3 b (by cases A<;>exact hb)
theorem SI {s t:Nat} {e:TypeId} {xs:List DV} {len:Nat} (ho:o.op=.move (.tmp s)∨o.op=.assign (.tmp s)) (hd:o.dst=some t) (ht:okT C.nt t) (hg:get env s=.ref (.t t) 0 len) (hx:get env t=.own e xs)
  (hK:K (put (put env t .un) t (.own e (xs.take len))) H):OpOK P C o env H K :=
 .val (by rcases ho with ho|ho<;>simp [ho]) hd ht (fun X a w I μ O _ _ _ hs=>by
  have hrs:=hs.envr s
  rw [hg] at hrs
  obtain ⟨e',ys,A,n,c,g1,g2,g3,g4⟩:=hrs
  have:AV.own e xs=.own e' ys:=hx.symm.trans g1
  cases this
  obtain ⟨h1,h2⟩:=hs.take t (by rw [hx];rfl)
  rw [hx] at h2
  simp only [AR,Option.some.injEq] at g2
  rw [g2] at h2
  refine ⟨a.tmps.getD s undef,w,I,μ,_,by rcases ho with ho|ho<;>simp [execOp,ho,Act.eval],h1,?_⟩
  obtain ⟨A',c',q1,q2,q3,q4⟩:=g4
  obtain ⟨rfl,rfl⟩:=q3 rfl
  rw [q1]
  exact h2.prefix_ (by omega)) hK
theorem XO {c x y:Operand} {ac ax:AO} {t:Nat} {b:Bool} (ho:o.op=.pick c x y) (hc:AA c ac=true) (hcv:look env ac=.d (.b b)) (hx:AA (if b then x else y) ax=true) (hd:o.dst=some t) (ht:okT C.nt t)
  (hr:AI (look env ax)=false) (hn:noOwn (look env ax)=true) (hK:K (put env t (look env ax)) H):OpOK P C o env H K :=
 .pure (by simp [ho]) hd ht (fun X a w I μ O _ hs=>⟨a.eval (if b then x else y),by
  have:=hs.look_b hc hcv
  cases b<;>simp [execOp,ho,this,asBool],hs.look_copy hx hr hn⟩) hK
def NA (op:BinOp) (k:IntKind) (x:Int) (y:Int) : Option (Prop×DV) :=
 match op with
 | .add=>some (True,.i k (k.wrap (x+y)))
 | .sub=>some (True,.i k (k.wrap (x-y)))
 | .mul=>some (True,.i k (k.wrap (x * y)))
 | .quo=>some (y≠0,.i k (k.wrap (x.tdiv y)))
 | .rem=>some (y≠0,.i k (x.tmod y))
 | .and=>some (True,.i k (bits .and k x y))
 | .or=>some (True,.i k (bits .or k x y))
 | .xor=>some (True,.i k (bits .xor k x y))
 | .andNot=>some (True,.i k (bits .andNot k x y))
 | .shl=>some (0≤y,.i k (k.wrap (x * 2 ^ min y.toNat k.bits)))
 | .shr=>some (0≤y,.i k (x / 2 ^ min y.toNat k.bits))
 | .eql=>some (True,.b (decide (x=y)))
 | .neq=>some (True,.b (!decide (x=y)))
 | .lss=>some (True,.b (decide (x<y)))
 | .leq=>some (True,.b (decide (x≤y)))
 | .gtr=>some (True,.b (decide (y<x)))
 | .geq=>some (True,.b (decide (y≤x)))
def EF : BinOp→Bool
 | .shl|.shr=>true
 | _=>false
theorem RA {op:BinOp} {k k':IntKind} {x y:Int} {c:Prop} {d:DV} (h:NA op k x y=some (c,d)) (hk:k'=k∨EF op=true) (hc:c) (t:TypeId) (w:World) :
  ∃ v,(binOp op t (.int k x) (.int k' y)).run P w=.ok v w∧∀ I,Rep w I d v:=by
 have hp:(0:Int)≤2 ^ min y.toNat k.bits:=Int.pow_nonneg (by decide)
 cases op<;>simp only [NA,Option.some.injEq,Prod.mk.injEq] at h<;>obtain ⟨rfl,rfl⟩:=h<;>simp only [EF,or_false,Bool.false_eq_true,or_true] at hk
 case add=>subst hk;refine ⟨_,?_,fun _=>.i _ _⟩;simp [binOp,Op.intArith]
 case sub=>subst hk;refine ⟨_,?_,fun _=>.i _ _⟩;simp [binOp,Op.intArith]
 case mul=>subst hk;refine ⟨_,?_,fun _=>.i _ _⟩;simp [binOp,Op.intArith]
 case quo=>subst hk;refine ⟨_,?_,fun _=>.i _ _⟩;simp [binOp,Op.intDiv,hc]
 case rem=>subst hk;refine ⟨_,?_,fun _=>.i _ _⟩;simp [binOp,Op.intDiv,hc]
 case and=>subst hk;refine ⟨_,?_,fun _=>.i _ _⟩;simp [binOp,intBits_and]
 case or=>subst hk;refine ⟨_,?_,fun _=>.i _ _⟩;simp [binOp,intBits_or]
 case xor=>subst hk;refine ⟨_,?_,fun _=>.i _ _⟩;simp [binOp,intBits_xor]
 case andNot=>subst hk;refine ⟨_,?_,fun _=>.i _ _⟩;simp [binOp,intBits_andNot]
 case shl =>
  have hc':¬y<0:=by omega
  refine ⟨_,?_,fun _=>.i _ _⟩;simp [binOp,Op.shift,hc']
 case shr =>
  have hc':¬y<0:=by omega
  refine ⟨_,?_,fun _=>.i _ _⟩;simp [binOp,Op.shift,hc',Int.fdiv_eq_ediv_of_nonneg _ hp]
 case eql=>subst hk;refine ⟨_,?_,fun _=>.b _⟩;simp [binOp,Op.intCmp];by_cases h:x=y<;>simp [h]
 case neq=>subst hk;refine ⟨_,?_,fun _=>.b _⟩;simp [binOp,Op.intCmp,bne];by_cases h:x=y<;>simp [h]
 case lss=>subst hk;refine ⟨_,?_,fun _=>.b _⟩;simp [binOp,Op.intCmp]
 case leq=>subst hk;refine ⟨_,?_,fun _=>.b _⟩;simp [binOp,Op.intCmp]
 case gtr=>subst hk;refine ⟨_,?_,fun _=>.b _⟩;simp [binOp,Op.intCmp]
 case geq=>subst hk;refine ⟨_,?_,fun _=>.b _⟩;simp [binOp,Op.intCmp]
theorem S5 {op:BinOp} {xt yt:TypeId} {x y:Operand} {ax ay:AO} {t:Nat} {k k':IntKind} {m n:Int} {c:Prop} {d:DV} (ho:o.op=.binOp op xt x y yt) (hx:AA x ax=true) (hy:AA y ay=true)
  (hd:o.dst=some t) (ht:okT C.nt t) (hxv:look env ax=.d (.i k m)) (hyv:look env ay=.d (.i k' n)) (hk:k'=k∨EF op=true) (hb:NA op k m n=some (c,d)) (hc:c)
  (hK:K (put env t (.d d)) H):OpOK P C o env H K :=
 .pure (by simp [ho]) hd ht (fun X a w I μ O _ hs=>by
  obtain ⟨v,h1,h2⟩:=RA (P:=P) hb hk hc xt w
  refine ⟨v,?_,.of_rep (h2 I)⟩
  simp [execOp,ho,hs.look_i hx hxv,hs.look_i hy hyv,eqGuard_at_int,h1]) hK
theorem YN {x:Operand} {ax:AO} {xt:TypeId} {t:Nat} {b:Bool} (ho:o.op=.unOp .not xt x) (hx:AA x ax=true) (hd:o.dst=some t) (ht:okT C.nt t) (hxv:look env ax=.d (.b b))
  (hK:K (put env t (.d (.b (!b)))) H):OpOK P C o env H K :=
 .pure (by simp [ho]) hd ht (fun X a w I μ O _ hs=>⟨.bool (!b),by simp [execOp,ho,hs.look_b hx hxv,Op.unary],.of_rep (.b _)⟩) hK
theorem YK {x:Operand} {ax:AO} {xt:TypeId} {t:Nat} {k:IntKind} {n:Int} (ho:o.op=.unOp .neg xt x) (hx:AA x ax=true) (hd:o.dst=some t) (ht:okT C.nt t) (hxv:look env ax=.d (.i k n))
  (hK:K (put env t (.d (.i k (k.wrap (0-n))))) H):OpOK P C o env H K :=
 .pure (by simp [ho]) hd ht (fun X a w I μ O _ hs=>⟨.int k (k.wrap (0-n)),by simp [execOp,ho,hs.look_i hx hxv,Op.unary,Op.intArith],.of_rep (.i _ _)⟩) hK
theorem Zl {x:Operand} {ax:AO} {xt:TypeId} {t:Nat} {k:IntKind} {n:Int} (ho:o.op=.unOp .xor xt x) (hx:AA x ax=true) (hd:o.dst=some t) (ht:okT C.nt t) (hxv:look env ax=.d (.i k n))
  (hK:K (put env t (.d (.i k (bits .xor k (if k.signed then -1 else k.max) n)))) H):OpOK P C o env H K :=
 .pure (by simp [ho]) hd ht (fun X a w I μ O _ hs=>⟨.int k (bits .xor k (if k.signed then -1 else k.max) n),by simp [execOp,ho,hs.look_i hx hxv,Op.unary,intBits_xor],.of_rep (.i _ _)⟩) hK
theorem W7 {op:BinOp} {xt yt:TypeId} {x y:Operand} {ax ay:AO} {t:Nat} {b c:Bool} (ho:o.op=.binOp op xt x y yt) (hop:op=.eql∨op=.neq) (hu:P.underlying xt=some .bool) (hx:AA x ax=true) (hy:AA y ay=true)
  (hd:o.dst=some t) (ht:okT C.nt t) (hxv:look env ax=.d (.b b)) (hyv:look env ay=.d (.b c)) (hK:K (put env t (.d (.b (if op=.eql then b == c else b != c)))) H):OpOK P C o env H K :=
 .pure (by simp [ho]) hd ht (fun X a w I μ O _ hs=>by
  refine ⟨.bool (if op=.eql then b == c else b != c),?_,.of_rep (.b _)⟩
  have he:(Op.equal xt (.bool b) (.bool c)).run P w=.ok (b == c) w:=run_equal_bool w xt b c hu
  rcases hop with rfl|rfl
  ·simp only [execOp,ho,hs.look_b hx hxv,hs.look_b hy hyv,eqGuard_at_bool,binOp,Sem.run_bind,Sem.run_pure,Result.andThen_ok,he]
   rfl
  ·simp only [execOp,ho,hs.look_b hx hxv,hs.look_b hy hyv,eqGuard_at_bool,binOp,Sem.run_bind,Sem.run_pure,Result.andThen_ok,he]
   rfl) hK
end
end Go.FL
namespace Go.FL
open Go Go.RowKit
def BH (P:Program) (t:TypeId) : Option Bool :=
 match P.underlying t with
 | some (.struct _)=>some true
 | some (.array _ _)=>some true
 | some _=>some false
 | none=>none
section
variable {P:Program} {C:Cx} {X:Snap} {o:Oper} {env env':Env} {H H':Ab} {a:Act} {w w':World} {I I':Nat→Prop} {μ μ':List Nat} {O O':Nat→Option Loc} {K:Env→Ab→Prop}
theorem Hm {t:TypeId} {b:Bool} (h:BH P t=some b) : (isAgg t).run P w=.ok b w:=by
 unfold BH at h
 cases hu:P.underlying t with
 | none=>rw [hu] at h;cases h
 | some d =>
  rw [hu] at h
  cases d<;>simp at h<;>subst h<;>simp [isAgg,run_underlying hu]
theorem Bo {t:TypeId} (h:BH P t=some false) {p:Addr} {v:Value} (hc:w.cell? p=some v) : (loadVar t p).run P w=.ok v w:=by
 simp [loadVar,Hm h,hc]
theorem DR {t:TypeId} {i:TypeInfo} (h:P.info? t=some i) : (sizeOf t).run P w=.ok i.size w:=by simp [sizeOf,typeInfo,h]
theorem GX {t:TypeId} (h:0<Av P t) : ∃ i,P.info? t=some i∧i.size=Av P t:=by
 unfold Av Program.cellsOf at *
 cases hi:P.info? t with
 | none=>rw [hi] at h;simp at h
 | some i=>exact ⟨i,rfl,by simp⟩
theorem GL {t:TypeId} (h:0<Av P t) : (sizeOf t).run P w=.ok (Av P t) w:=by
 obtain ⟨i,h1,h2⟩:=GX h
 rw [DR h1,h2]
theorem CX (b off j:Nat) : (⟨b,off,none⟩:Addr).add j=⟨b,off+j,none⟩:=by
 unfold Addr.add;split<;>simp_all
theorem BX {t:TypeId} (h:BH P t=some true) {n:Nat} (hn:Av P t=n) (h0:0<n) {b off:Nat} {vs:List Value} (hh:Has w b off vs) (hl:vs.length=n) :
  (loadVar t ⟨b,off,none⟩).run P w=.ok (.agg vs.toArray) w:=by
 have hc:=run_loadCells_list (P:=P) w ⟨b,off,none⟩ vs (fun j v hj=>by rw [CX];exact hh j v hj)
 have hs:(sizeOf t).run P w=.ok vs.length w:=by rw [hl,← hn];exact GL (by omega)
 simp [loadVar,Hm h,hs,hc]
theorem Hc {t:TypeId} (ht:Av P t=1) {p:Addr} {v u:Value} (hv:v.oneCell'=true) (hc:w.cell? p=some u) (hf:w.frozen? p=false) : (storeVar t p v).run P w=.ok () (w.setCell p v):=by
 have hcells:v.cells=#[v]:=by cases v<;>first|rfl|simp [Value.oneCell'] at hv
 have hs:(sizeOf t).run P w=.ok 1 w:=by rw [← ht];exact GL (by omega)
 have hadd:p.add 0=p:=by simp [Addr.add]
 simp [storeVar,hs,hcells,storeCells,hadd,run_store P w p v .plain hv,hc,hf]
theorem AV.scalar {av:AV} {v:Value} {bs:List Nat} (h:ARep P w I μ av v bs) (h1:(match av with | .d x=>x.leaf | .ag _=>false | .tup _=>false | .un=>false | _=>true)=true) : v.oneCell'=true:=by
 cases h with
 | un=>simp at h1
 | d h=>exact h.one h1
 | nl=>rfl
 | own e xs v vs hsz ho hr =>
  rcases ho with ⟨A,rfl,_⟩|⟨ho,_⟩
  ·rfl
  rcases ho.2 with ⟨rfl,_⟩|⟨g,cap,cur,rfl,_⟩<;>rfl
 | bp=>rfl
 | ag=>simp at h1
 | fn=>rfl
 | tup=>simp at h1
 | nb=>rfl
 | it=>rfl
 | om=>rfl
 | mr=>rfl
def one : AV→Bool
 | .d x=>x.leaf
 | .ag _=>false
 | .tup _=>false
 | .un=>false
 | .ref _ _ _=>false
 | .ep _ _ _=>false
 | _=>true
theorem HQ {av:AV} {v:Value} {bs:List Nat} (h:ARep P w I μ av v bs) (h1:one av=true) : v.oneCell'=true :=
 AV.scalar h (by cases av<;>first|exact h1|rfl|simp [one] at h1)
theorem OI {av:AV} (h:one av=true) : AI av=false:=by cases av<;>first | rfl | simp [one] at h
theorem FH {x:Operand} {s:Nat} (h:AA x (.t s)=true) : x=.tmp s:=by
 unfold AA at h
 split at h<;>simp_all
theorem Sim.bp (hs:Sim P X env H a w I μ O) {x:Operand} {ax:AO} (hf:AA x ax=true) {id off:Nat} (hv:Go.FL.look env ax=.bp id off) : ∃ blk,μ[id]?=some blk∧a.eval x=.pointer (some ⟨blk,off,none⟩):=by
 obtain ⟨bs,h⟩:=hs.look hf (by rw [hv];rfl)
 rw [hv] at h
 generalize a.eval x=u at h
 cases h with
 | bp _ _ blk h=>exact ⟨blk,h,rfl⟩
theorem Sim.dp (hs:Sim P X env H a w I μ O) {x:Operand} {ax:AO} (hf:AA x ax=true) {cs:List DV} (hv:Go.FL.look env ax=.d (.ptr cs)) : ∃ b off vs,a.eval x=.pointer (some ⟨b,off,none⟩)∧I b∧Has w b off vs∧RepAll w I cs vs:=by
 have:=hs.look_d hf hv
 generalize a.eval x=u at this
 cases this with
 | ptr _ b off vs h1 h2 h3=>exact ⟨b,off,vs,rfl,h1,h2,h3⟩
theorem Sim.epr (hs:Sim P X env H a w I μ O) {x:Operand} {s:Nat} (hf:AA x (.t s)=true) {p:Pl} {i k:Nat} (hv:get env s=.ep p i k) : Kq P env H a w μ p i k (a.eval x):=by
 have:=FH hf
 subst this
 have:=hs.envr s
 rw [hv] at this
 exact this
theorem UF {x:Operand} {ax:AO} {ty t:Nat} {id off:Nat} {cs:List AV} {c:AV} (ho:o.op=.load ty x) (hx:AA x ax=true) (hd:o.dst=some t) (ht:okT C.nt t) (hag:BH P ty=some false)
  (hv:look env ax=.bp id off) (hH:H[id]?=some (.box cs)) (hc:cs[off]?=some c) (hn:noOwn c=true) (hK:K (put env t c) H):OpOK P C o env H K :=
 .pure (by simp [ho]) hd ht (fun X a w I μ O _ hs=>by
  obtain ⟨blk,hm,he⟩:=hs.bp hx hv
  obtain ⟨v,bk,h1,h2⟩:=hs.cell hH hc hm
  have:=noOwn_bs h2 hn;subst this
  exact ⟨v,by simp [execOp,ho,Instr.loadAt,he,Instr.sureAddr,Bo hag h1],[],h2,List.nodup_nil,by simp⟩) hK
theorem NJ {x:Operand} {ax:AO} {ty t:Nat} {id off:Nat} {cs:List AV} {e:TypeId} {xs:List DV} (ho:o.op=.load ty x) (hx:AA x ax=true) (hd:o.dst=some t) (ht:okT C.nt t) (hag:BH P ty=some false)
  (hv:look env ax=.bp id off) (hH:H[id]?=some (.box cs)) (hc:cs[off]?=some (.own e xs)) (hK:K (put env t (.ref (.c id off) 0 xs.length)) H):OpOK P C o env H K:=by
 intro X a w I μ O next Q h1 h2 h3 hs hn
 obtain ⟨blk,hm,he⟩:=hs.bp hx hv
 obtain ⟨v,bk,g1,g2⟩:=hs.cell hH hc hm
 have hr:(execOp a.eval o).run P w=.ok (.value v) w:=by simp [execOp,ho,Instr.loadAt,he,Instr.sureAddr,Bo hag g1]
 refine ⟨fun _ _=>trivial,?_⟩
 rw [Oper.semAt_eq _ _ _ (by simp [ho]),hr,Oper.uponIn_value,hd]
 refine hn _ _ _ _ _ _ _ (hs.put_ref (by rw [h1];exact ht) (by simp) ?_) hK
 refine RefRel.self hs (p:=.c id off) ?_ ?_ (e:=e)
 ·rw [G9 hH,List.getD_eq_getElem?_getD,hc];rfl
 ·simp [AR,hm,g1]
theorem Sim.ep_cells (hs:Sim P X env H a w I μ O) {p:Pl} {i k:Nat} {pv:Value} {e:TypeId} {xs:List DV} (hp:AB env H p=.own e xs) (he:Kq P env H a w μ p i k pv) :
  ∃ b vs,pv=.pointer (some ⟨b,i * Av P e+k,none⟩)∧i<xs.length∧k<Av P e∧Has w b (i * Av P e+k) (vs.drop k)∧vs.length=Av P e∧(xs.getD i default).cells.length=Av P e∧RepAll w I (xs.getD i default).cells vs:=by
 obtain ⟨v,bs,hv,hr0,hbs,hO⟩:=hs.at_place hp
 obtain ⟨e',ys,b,n,c,h1,h2,h3,h4,h5⟩:=he
 rw [hp] at h1;cases h1
 rw [hv] at h2;cases h2
 cases hr0 with
 | own _ _ _ vs hsz ho hrow =>
  have hx:xs[i]?=some (xs.getD i default):=by rw [List.getD_eq_getElem?_getD,List.getElem?_eq_getElem h3];rfl
  obtain ⟨g1,g2⟩:=hrow.get i _ hx
  replace ho:w.ownsRow 0 e (Av P e) (.slice (some ⟨b,0,none⟩) n c) xs.length vs:=by
   rcases ho with ⟨A,h,h0,_⟩|⟨h,_⟩
   ·omega
   ·exact h
  have hh:Has w b 0 vs:=fun j u hj=>by
   have:=ho.cells (g:=b) rfl j u hj
   rwa [CX] at this
  have hh2:=((hh.drop (i * Av P e)).take (Av P e)).drop k
  rw [Nat.zero_add] at hh2
  exact ⟨b,(vs.drop (i * Av P e)).take (Av P e),h5,h3,h4,hh2,by rw [← g2.length,g1],g1,g2⟩
theorem V2 {x:Operand} {s ty t:Nat} {p:Pl} {i k:Nat} {e:TypeId} {xs:List DV} (ho:o.op=.load ty x) (hx:AA x (.t s)=true) (hd:o.dst=some t) (ht:okT C.nt t) (hag:BH P ty=some false)
  (hv:get env s=.ep p i k) (hp:AB env H p=.own e xs) (hK:K (put env t (.d ((xs.getD i default).cells.getD k default))) H):OpOK P C o env H K :=
 .pure (by simp [ho]) hd ht (fun X a w I μ O _ hs=>by
  obtain ⟨b,vs,he,h3,h4,h5,h6,h7,h8⟩:=hs.ep_cells hp (hs.epr hx hv)
  have hkl:k<(xs.getD i default).cells.length:=by omega
  have hck:(xs.getD i default).cells[k]?=some ((xs.getD i default).cells.getD k default):=by
   generalize (xs.getD i default).cells=l at hkl
   rw [List.getD_eq_getElem?_getD,List.getElem?_eq_getElem hkl];rfl
  obtain ⟨v,g1,g2⟩:=h8.get k _ hck
  have hc:w.cell? ⟨b,i * Av P e+k,none⟩=some v:=by
   have:=h5 0 v (by rw [List.getElem?_drop];simpa using g1)
   simpa using this
  exact ⟨v,by simp [execOp,ho,Instr.loadAt,he,Instr.sureAddr,Bo hag hc],.of_rep g2⟩) hK
theorem Uv {x:Operand} {ax:AO} {ty t:Nat} {cs:List DV} (ho:o.op=.load ty x) (hx:AA x ax=true) (hd:o.dst=some t) (ht:okT C.nt t) (hag:BH P ty=some false)
  (hv:look env ax=.d (.ptr cs)) (hc:0<cs.length) (hK:K (put env t (.d (cs.getD 0 default))) H):OpOK P C o env H K :=
 .pure (by simp [ho]) hd ht (fun X a w I μ O _ hs=>by
  obtain ⟨b,off,vs,he,_,h2,h3⟩:=hs.dp hx hv
  obtain ⟨v,g1,g2⟩:=h3.get 0 (cs.getD 0 default) (by rw [List.getD_eq_getElem?_getD,List.getElem?_eq_getElem hc];rfl)
  have hcell:w.cell? ⟨b,off,none⟩=some v:=by simpa using h2 0 v g1
  exact ⟨v,by simp [execOp,ho,Instr.loadAt,he,Instr.sureAddr,Bo hag hcell],.of_rep g2⟩) hK
def GT (id:Nat) : (off n:Nat)→List AV→Env→Ab→Env×Ab
 | _,0,_,env,H=>(env,H)
 | off,n+1,cs,env,H =>
  match cs[off]? with
  | some c=>if noOwn c then GT id (off+1) n cs env H else GT id (off+1) n (cs.set off .un) (EP (Aj c) (.c id off) env) (Da H id off .un)
  | none=>(env,H)
theorem Sim.takeN (n:Nat) : ∀ {env:Env} {H:Ab} {O:Nat→Option Loc} {id off blk:Nat} {cs:List AV},Sim P X env H a w I μ O→H[id]?=some (.box cs)→μ[id]?=some blk→off+n≤cs.length →
  (X.n0≤id∨noOwnL ((cs.drop off).take n)=true) →
  ∃ O' vs bs,Sim P X (GT id off n cs env H).1 (GT id off n cs env H).2 a w I μ O'∧Has w blk off vs∧vs.length=n∧ARepAll P w I μ ((cs.drop off).take n) vs bs∧bs.Nodup ∧
   (∀ b∈bs,O' b=some .r)∧(∀ b,O b=some .r→O' b=some .r∧b∉bs):=by
 induction n with
 | zero=>intro env H O id off blk cs hs hH hm hl _;exact ⟨O,[],[],hs,fun j u h=>by simp at h,rfl,by simp;exact .nil,List.nodup_nil,by simp,fun b hb=>⟨hb,by simp⟩⟩
 | succ n ih =>
  intro env H O id off blk cs hs hH hm hl hw
  have hlt:off<cs.length:=by omega
  have hc:cs[off]?=some cs[off]:=List.getElem?_eq_getElem hlt
  have hdrop:(cs.drop off).take (n+1)=cs[off]::((cs.drop (off+1)).take n):=by rw [List.drop_eq_getElem_cons hlt,List.take_succ_cons]
  rw [hdrop]
  obtain ⟨v0,bk0,e1,e2⟩:=hs.cell hH hc hm
  by_cases hno:noOwn cs[off]=true
  ·have hbk:=noOwn_bs e2 hno
   subst hbk
   obtain ⟨O',vs,bs,h1,h2,h3,h4,h5,h6,h7⟩:=ih hs hH hm (by omega:off+1+n≤cs.length) (hw.imp (fun h=>h) fun h=>by rw [hdrop,noOwnL,Bool.and_eq_true] at h;exact h.2)
   refine ⟨O',v0::vs,bs,by simp only [GT,hc,hno,if_true];exact h1,fun j u hj=>?_,by simp [h3],.cons e2 h4,h5,h6,h7⟩
   cases j with
   | zero=>simp at hj;subst hj;simpa using e1
   | succ j=>have:=h2 j u (by simpa using hj);rwa [show off+1+j=off+(j+1) by omega] at this
  ·have hn:X.n0≤id:=by
    rcases hw with h|h
    ·exact h
    ·rw [hdrop,noOwnL,Bool.and_eq_true] at h;exact absurd h.1 hno
   obtain ⟨v,bk,O1,f1,f2,f3,f4,f5,f6⟩:=hs.takeC hH hc hm hn
   have hset:Da H id off .un=H.set id (.box (cs.set off .un)):=by simp [Da,hH]
   have hlt':id<H.length:=(List.getElem?_eq_some_iff.1 hH).1
   have hH':(Da H id off .un)[id]?=some (.box (cs.set off .un)):=by rw [hset,List.getElem?_set,if_pos rfl,if_pos hlt']
   have hdr:((cs.set off .un).drop (off+1)).take n=(cs.drop (off+1)).take n:=by rw [List.drop_set_of_lt (by omega)]
   obtain ⟨O',vs,bs,h1,h2,h3,h4,h5,h6,h7⟩:=ih f6 hH' hm (by simpa using (by omega:off+1+n≤cs.length)) (.inl hn)
   rw [hdr] at h4
   refine ⟨O',v::vs,bk++bs,by simp only [GT,hc,hno];exact h1,fun j u hj=>?_,by simp [h3],.cons f3 h4,?_,fun b hb=>?_,fun b hb=>?_⟩
   ·cases j with
    | zero=>simp at hj;subst hj;simpa using f1
    | succ j=>have:=h2 j u (by simpa using hj);rwa [show off+1+j=off+(j+1) by omega] at this
   ·exact List.nodup_append.2 ⟨f4,h5,fun x hx y hy e=>(h7 x (f5 x hx)).2 (e▸hy)⟩
   ·rcases List.mem_append.1 hb with hb|hb
    ·exact (h7 b (f5 b hb)).1
    ·exact h6 b hb
   ·obtain ⟨g1,g2⟩:=f2 b hb
    exact ⟨(h7 b g1).1,fun hm=>by
     rcases List.mem_append.1 hm with hm|hm
     ·exact g2 hm
     ·exact (h7 b g1).2 hm⟩
def Yg (cs:List AV) : AV :=
 match cs.mapM (fun c=>match c with|.d v=>some v|.nl=>some (.sl [])|_=>none) with
 | some ds=>.d (.ag ds)
 | none=>.ag cs
theorem VV {cs:List AV} {vs:List Value} {bs:List Nat} (h:ARepAll P w I μ cs vs bs) : ARep P w I μ (Yg cs) (.agg vs.toArray) bs:=by
 unfold Yg
 split
 ·rename_i ds hds
  have key:∀ {cs:List AV} {vs:List Value} {bs:List Nat} {ds:List DV},ARepAll P w I μ cs vs bs→cs.mapM (fun c=>match c with|.d v=>some v|.nl=>some (.sl [])|_=>none)=some ds→RepAll w I ds vs∧bs=[]:=by
   intro cs
   induction cs with
   | nil=>intro vs bs ds h hd;cases h;simp at hd;subst hd;exact ⟨.nil,rfl⟩
   | cons c cs ih =>
    intro vs bs ds h hd
    cases h with
    | @cons _ v _ vs b1 b2 h t =>
     simp only [List.mapM_cons,Option.bind_eq_bind,Option.bind_eq_some_iff] at hd
     obtain ⟨d,hd1,ds',hd2,hd3⟩:=hd
     simp at hd3;subst hd3
     obtain ⟨r1,rfl⟩:=ih t hd2
     cases c with
     | d v=>simp at hd1;subst hd1;cases h with|d h=>exact ⟨.cons h r1,rfl⟩
     | nl=>simp at hd1;subst hd1;cases h;exact ⟨.cons (.sl0 _ _) r1,rfl⟩
     | _=>simp at hd1
  obtain ⟨r,rfl⟩:=key h hds
  exact .d (.ag _ _ r)
 ·exact .ag h
theorem SH {x:Operand} {ax:AO} {ty t n:Nat} {id off:Nat} {cs:List AV} (ho:o.op=.load ty x) (hx:AA x ax=true) (hd:o.dst=some t) (ht:okT C.nt t) (hag:BH P ty=some true) (hn:Av P ty=n) (hn0:0<n)
  (hv:look env ax=.bp id off) (hH:H[id]?=some (.box cs)) (hc:off+n≤cs.length) (hw:C.n0≤id∨noOwnL ((cs.drop off).take n)=true)
  (hK:K (put (GT id off n cs env H).1 t (Yg ((cs.drop off).take n))) (GT id off n cs env H).2):OpOK P C o env H K :=
 .val (by simp [ho]) hd ht (fun X a w I μ O _ g2 _ hs=>by
  obtain ⟨blk,hm,he⟩:=hs.bp hx hv
  obtain ⟨O',vs,bs,h1,h2,h3,h4,h5,h6,h7⟩:=Sim.takeN n hs hH hm hc (by rw [g2];exact hw)
  exact ⟨_,w,I,μ,O',by simp only [execOp,ho,Instr.loadAt,he,Instr.sureAddr,Sem.run_bind,Sem.run_pure,Result.andThen_ok,BX hag hn hn0 h2 h3],h1,bs,VV h4,h5,h6⟩) hK
theorem Aao {x:Operand} {ax:AO} {t:Nat} (ho:o.op=.nilCheck x) (hx:AA x ax=true) (hd:o.dst=some t) (ht:okT C.nt t)
  (hv:(∃ id off,look env ax=.bp id off)∨(∃ cs,look env ax=.d (.ptr cs))) (hK:K (put env t (look env ax)) H):OpOK P C o env H K :=
 .pure (by simp [ho]) hd ht (fun X a w I μ O _ hs=>by
  rcases hv with ⟨id,off,hv⟩|⟨cs,hv⟩
  ·obtain ⟨blk,hm,he⟩:=hs.bp hx hv
   exact ⟨.pointer (some ⟨blk,off,none⟩),by simp [execOp,ho,he],by rw [hv];exact ⟨[],.bp _ _ _ hm,List.nodup_nil,by simp⟩⟩
  ·obtain ⟨b,off,vs,he,h1,h2,h3⟩:=hs.dp hx hv
   exact ⟨.pointer (some ⟨b,off,none⟩),by simp [execOp,ho,he],by rw [hv];exact .of_rep (.ptr _ _ _ _ h1 h2 h3)⟩) hK
end
end Go.FL
namespace Go.FL
open Go Go.RowKit
def Br (P:Program) (s f:Nat) : Option (Nat×Nat) :=
 match P.underlying s with
 | some (.struct fs)=>(fs[f]?).bind fun fl=>(P.info? fl.type).map fun i=>(fl.offset,i.size)
 | _=>none
def B3 (P:Program) (t:TypeId) : Option (TypeId×Nat×Nat) :=
 match P.underlying t with
 | some (.slice e)=>(P.info? e).map fun i=>(e,i.size,i.bytes)
 | _=>none
section
variable {P:Program} {C:Cx} {X:Snap} {o:Oper} {env env':Env} {H H':Ab} {a:Act} {w w':World} {I I':Nat→Prop} {μ μ':List Nat} {O O':Nat→Option Loc} {K:Env→Ab→Prop}
theorem Gz {s f off n:Nat} (h:Br P s f=some (off,n)) : ∃ fs fl i,P.underlying s=some (.struct fs)∧fs[f]?=some fl∧fl.offset=off∧P.info? fl.type=some i∧i.size=n:=by
 unfold Br at h
 cases hu:P.underlying s with
 | none=>rw [hu] at h;cases h
 | some d =>
  rw [hu] at h
  cases d with
  | struct fs =>
   simp only [Option.bind_eq_some_iff,Option.map_eq_some_iff,Prod.mk.injEq] at h
   obtain ⟨fl,h1,i,h2,h3,h4⟩:=h
   exact ⟨fs,fl,i,rfl,h1,h3,h2,h4⟩
  | _=>simp at h
theorem C9 {t e n b:Nat} (h:B3 P t=some (e,n,b)) : ∃ i,P.underlying t=some (.slice e)∧P.info? e=some i∧i.size=n∧i.bytes=b∧Av P e=n:=by
 unfold B3 at h
 cases hu:P.underlying t with
 | none=>rw [hu] at h;cases h
 | some d =>
  rw [hu] at h
  cases d with
  | slice e' =>
   simp only [Option.map_eq_some_iff,Prod.mk.injEq] at h
   obtain ⟨i,h2,rfl,h3,h4⟩:=h
   exact ⟨i,rfl,h2,h3,h4,by simp [Av,Program.cellsOf,h2,h3]⟩
  | _=>simp at h
theorem IL {s f off n:Nat} (h:Br P s f=some (off,n)) (hn:0<n) (b p:Nat) : (Instr.fieldAt s (.pointer (some ⟨b,p,none⟩)) f).run P w=.ok (.pointer (some ⟨b,p+off,none⟩)) w:=by
 obtain ⟨fs,fl,i,h1,h2,h3,h4,h5⟩:=Gz h
 have h6:¬i.size=0:=by omega
 simp [Instr.fieldAt,run_underlying h1,h2,Instr.sureAddr,fieldPlace,DR h4,h6,h3,CX]
theorem Uf {x:Operand} {ax:AO} {s f t off n:Nat} {id p:Nat} (ho:o.op=.fieldAddr s x f) (hx:AA x ax=true) (hd:o.dst=some t) (ht:okT C.nt t) (hf:Br P s f=some (off,n)) (hn:0<n)
  (hv:look env ax=.bp id p) (hK:K (put env t (.bp id (p+off))) H):OpOK P C o env H K :=
 .pure (by simp [ho]) hd ht (fun X a w I μ O _ hs=>by
  obtain ⟨blk,hm,he⟩:=hs.bp hx hv
  exact ⟨.pointer (some ⟨blk,p+off,none⟩),by simp [execOp,ho,he,IL hf hn],[],.bp _ _ _ hm,List.nodup_nil,by simp⟩) hK
theorem Ww {x i:Operand} {ax ai:AO} {ty t e sz by_:Nat} {xs:List DV} {k:IntKind} {n:Int} (ho:o.op=.indexAddr ty x i) (hx:AA x ax=true) (hi:AA i ai=true) (hd:o.dst=some t) (ht:okT C.nt t)
  (hty:B3 P ty=some (e,sz,by_)) (hv:look env ax=.d (.sl xs)) (hiv:look env ai=.d (.i k n)) (h0:0≤n) (hl:n<xs.length) (hsz:(xs.getD n.toNat default).cells.length=sz)
  (hK:K (put env t (.d (.ptr (xs.getD n.toNat default).cells))) H):OpOK P C o env H K :=
 .pure (by simp [ho]) hd ht (fun X a w I μ O _ hs=>by
  obtain ⟨inf,s1,s2,s3,_,s5⟩:=C9 hty
  have hr:=hs.look_d hx hv
  have hni:=hs.look_i hi hiv
  generalize hev:a.eval x=u at hr
  cases hr with
  | sl0=>simp at hl;omega
  | sl _ bk off sz' c vs hne hc hI hsz' hh hrow =>
   have hlt:n.toNat<xs.length:=by omega
   have hg:xs[n.toNat]?=some (xs.getD n.toNat default):=by
    rw [List.getD_eq_getElem?_getD,List.getElem?_eq_getElem hlt];rfl
   obtain ⟨q1,q2⟩:=hrow.get _ _ hg
   have hszz:sz'=sz:=by rw [← q1,hsz]
   subst hszz
   refine ⟨.pointer (some ⟨bk,off+n.toNat * sz',none⟩),?_,.of_rep (.ptr _ _ _ _ hI ((hh.drop (n.toNat * sz')).take sz') q2)⟩
   have hc1:0≤n∧n<(xs.length:Int):=⟨h0,hl⟩
   simp [execOp,ho,hev,hni,Instr.indexAt,asIntOf,run_underlying s1,hc1,DR s2,s3,CX]) hK
theorem RU {x i:Operand} {ai:AO} {r ty t e sz by_:Nat} {p:Pl} {off len:Nat} {xs:List DV} {k:IntKind} {n:Int} (ho:o.op=.indexAddr ty x i) (hx:AA x (.t r)=true) (hi:AA i ai=true) (hd:o.dst=some t) (ht:okT C.nt t)
  (hty:B3 P ty=some (e,sz,by_)) (hsz0:0<sz) (hv:get env r=.ref p off len) (hp:AB env H p=.own e xs) (hpt:p≠.t t) (hiv:look env ai=.d (.i k n)) (h0:0≤n) (hl:n<len)
  (hK:K (put env t (.ep p (off+n.toNat) 0)) H):OpOK P C o env H K:=by
 intro X a w I μ O next Q h1 h2 h3 hs hn'
 obtain ⟨inf,s1,s2,s3,_,s5⟩:=C9 hty
 have hni:=hs.look_i hi hiv
 have hxe:=FH hx
 subst hxe
 have hrr:=hs.envr r
 rw [hv] at hrr
 obtain ⟨e',ys,A,m,c,g1,g2,g3,g4⟩:=hrr
 rw [hp] at g1;cases g1
 obtain ⟨v0,bs,f1,f2,_,_⟩:=hs.at_place hp
 rw [g2] at f1;cases f1
 have:∃ b,A=some ⟨b,0,none⟩∧m=xs.length∧xs.length≤c:=by
  have k:=DX f2
  obtain ⟨k1,k2,k3⟩:=k
  obtain ⟨b,hb⟩:=k3 (by omega)
  exact ⟨b,hb,k1,by omega⟩
 obtain ⟨b,rfl,rfl,hmc⟩:=this
 obtain ⟨A',c',q1,q2,q3,q4⟩:=g4
 have hA:(some (⟨b,0,none⟩:Addr)).map (·.add (off * Av P e))=some ⟨b,off * Av P e,none⟩:=by simp [CX]
 rw [q4 (by omega),hA] at q1
 have hc1:0≤n∧n<(len:Int):=⟨h0,hl⟩
 have hr:(execOp a.eval o).run P w=.ok (.value (.pointer (some ⟨b,(off+n.toNat) * Av P e+0,none⟩))) w:=by
  have:a.eval (.tmp r)=.slice (some ⟨b,off * Av P e,none⟩) len c':=q1
  simp [execOp,ho,this,hni,Instr.indexAt,asIntOf,run_underlying s1,hc1,DR s2,s3,CX,Nat.add_mul,s5]
 refine ⟨fun _ _=>trivial,?_⟩
 rw [Oper.semAt_eq _ _ _ (by simp [ho]),hr,Oper.uponIn_value,hd]
 exact hn' _ _ _ _ _ _ _ (hs.put_ep (by rw [h1];exact ht) hpt ⟨e,xs,b,xs.length,c,hp,g2,by omega,by omega,rfl⟩) hK
theorem Z2 {x i:Operand} {ax ai:AO} {ty t:Nat} {s:ByteArray} {k:IntKind} {n:Int} (ho:o.op=.index ty x i) (hx:AA x ax=true) (hi:AA i ai=true) (hd:o.dst=some t) (ht:okT C.nt t)
  (hty:P.underlying ty=some .string) (hv:look env ax=.d (.s s)) (hiv:look env ai=.d (.i k n)) (h0:0≤n) (hl:n<s.size)
  (hK:K (put env t (.d (.i .u8 ((s.data.toList.getD n.toNat 0).toNat)))) H):OpOK P C o env H K :=
 .pure (by simp [ho]) hd ht (fun X a w I μ O _ hs=>by
  have hs1:=hs.look_s hx hv
  have hni:=hs.look_i hi hiv
  have hlt:n.toNat<s.size:=by omega
  refine ⟨.int .u8 ((s.data.toList.getD n.toNat 0).toNat),?_,.of_rep (.i _ _)⟩
  have hg:s[n.toNat]?=some (s.data.toList.getD n.toNat 0):=by
   rw [getElem?_pos s n.toNat hlt]
   have:n.toNat<s.data.toList.length:=by simpa using hlt
   rw [List.getD_eq_getElem?_getD,List.getElem?_eq_getElem this];rfl
  simp [execOp,ho,hs1,hni,Instr.index,asIntOf,run_underlying hty,h0,hg]) hK
def K8 (env:Env) : AO→Env
 | .t s=>if noOwn (get env s) then env else put env s .un
 | _=>env
theorem Sim.operand (hs:Sim P X env H a w I μ O) {x:Operand} {ax:AO} (hf:AA x ax=true) (hr:AI (Go.FL.look env ax)=false) (hw:noOwn (Go.FL.look env ax)=true∨∃ s,ax=.t s) :
  ∃ O',Sim P X (K8 env ax) H a w I μ O'∧Hand P w I μ O' (Go.FL.look env ax) (a.eval x):=by
 by_cases hn:noOwn (Go.FL.look env ax)=true
 ·refine ⟨O,?_,hs.look_copy hf hr hn⟩
  cases ax with
  | t s =>
   have hn':noOwn (get env s)=true:=hn
   simp only [K8,hn',if_true];exact hs
  | _=>exact hs
 ·rcases hw with h|⟨s,rfl⟩
  ·exact absurd h hn
  ·have:=FH hf
   subst this
   obtain ⟨h1,h2⟩:=hs.take s hr
   have hn':noOwn (get env s)=false:=by
    cases hq:noOwn (get env s) with
    | false=>rfl
    | true=>exact absurd hq hn
   exact ⟨_,by simp only [K8,hn',Bool.false_eq_true,if_false];exact h1,h2⟩
theorem KN {x y:Operand} {ax ay:AO} {ty:Nat} {id off:Nat} {cs:List AV} {c:AV} (ho:o.op=.store ty x y) (hx:AA x ax=true) (hy:AA y ay=true) (hd:o.dst=none) (hsz:Av P ty=1)
  (hv:look env ax=.bp id off) (hH:H[id]?=some (.box cs)) (hc:cs[off]?=some c) (hn:C.n0≤id) (h1:one (look env ay)=true) (hw:noOwn (look env ay)=true∨∃ s,ay=.t s)
  (hK:K (EP (Aj c) (.c id off) (K8 env ay)) (Da H id off (look env ay))):OpOK P C o env H K :=
 .done (by simp [ho]) hd (fun X a w I μ O _ g2 _ hs=>by
  obtain ⟨blk,hm,he⟩:=hs.bp hx hv
  obtain ⟨O1,k1,k2⟩:=hs.operand hy (OI h1) hw
  obtain ⟨hbs,q1,q2,q3⟩:=k2
  obtain ⟨k3,⟨u,k4⟩,k5⟩:=k1.storeC hH hc hm (by rw [g2];exact hn) q1 q2 q3
  refine ⟨_,I,μ,_,?_,k3⟩
  have hone:(a.eval y).oneCell'=true:=HQ q1 h1
  simp [execOp,ho,he,Instr.storeAt,Instr.sureAddr,Hc hsz hone k4 k5]) hK
theorem Ni {x y:Operand} {ay:AO} {r ty:Nat} {p:Pl} {i k:Nat} {e:TypeId} {xs:List DV} {v x':DV} (ho:o.op=.store ty x y) (hx:AA x (.t r)=true) (hy:AA y ay=true) (hd:o.dst=none) (hsz:Av P ty=1)
  (hv:get env r=.ep p i k) (hp:AB env H p=.own e xs) (hn:∀ id off,p=.c id off→C.n0≤id) (hyv:look env ay=.d v) (h1:v.leaf=true) (hx':x'.cells=(xs.getD i default).cells.set k v)
  (hK:K (FJ p (.own e (xs.set i x')) env) (HM p (.own e (xs.set i x')) H)):OpOK P C o env H K :=
 .done (by simp [ho]) hd (fun X a w I μ O _ g2 _ hs=>by
  have hr:=hs.look_d hy hyv
  have he:=hs.epr hx hv
  obtain ⟨_,_,_,hi,_,_,_,_⟩:=hs.ep_cells hp he
  have hxi:xs[i]?=some (xs.getD i default):=by rw [List.getD_eq_getElem?_getD,List.getElem?_eq_getElem hi];rfl
  obtain ⟨b,off,k1,⟨u0,k2⟩,k3,k4⟩:=hs.storeE hp (fun id off h=>by rw [g2];exact hn id off h) he hxi hx' hr (hr.one h1)
  refine ⟨_,I,μ,O,?_,k4⟩
  simp [execOp,ho,k1,Instr.storeAt,Instr.sureAddr,Hc hsz (hr.one h1) k2 k3]) hK
theorem Eh {t:TypeId} {v:Value} : (newVar t v).run P w=.ok ⟨w.heap.size,0,none⟩ (w.alloc (.cells v.cells t)):=by
 simp [newVar,newRow]
theorem Ze {x:Operand} {ax:AO} {ty t:Nat} (ho:o.op=.box ty x) (hx:AA x ax=true) (hd:o.dst=some t) (ht:okT C.nt t) (h1:one (look env ax)=true) (hw:noOwn (look env ax)=true∨∃ s,ax=.t s)
  (hK:K (put (K8 env ax) t (.bp H.length 0)) (H++[.box [look env ax]])):OpOK P C o env H K :=
 .val (by simp [ho]) hd ht (fun X a w I μ O _ _ _ hs=>by
  obtain ⟨O1,k1,bs,k2,k3,k4⟩:=hs.operand hx (OI h1) hw
  have hone:=HQ k2 h1
  have hcells:(a.eval x).cells=#[a.eval x]:=by
   generalize a.eval x=v at hone
   cases v<;>first|rfl|simp [Value.oneCell'] at hone
  have hA:ARepAll P w I μ [look env ax] [a.eval x] bs:=by
   have:=ARepAll.cons k2 .nil;simpa using this
  obtain ⟨μ',O',q1,q2⟩:=k1.box (cs:=[look env ax]) (vs:=[a.eval x]) ⟨bs,hA,k3,k4⟩ ty
  exact ⟨_,_,I,μ',O',by simp only [execOp,ho,Instr.box,Sem.run_bind,Eh,Result.andThen_ok,Sem.run_pure,hcells],q1,q2⟩) hK
end
end Go.FL
namespace Go.FL
open Go Go.RowKit
def Cc : Option Operand→Option AO→Bool
 | none,none=>true
 | some x,some y=>AA x y
 | _,_=>false
def D7 (env:Env) (dflt:Int) : Option AO→Option Int
 | none=>some dflt
 | some x=>match look env x with
  | .d (.i _ n)=>some n
  | _=>none
section
variable {P:Program} {C:Cx} {X:Snap} {o:Oper} {env env':Env} {H H':Ab} {a:Act} {w w':World} {I I':Nat→Prop} {μ μ':List Nat} {O O':Nat→Option Loc} {K:Env→Ab→Prop}
theorem Sim.bound (hs:Sim P X env H a w I μ O) {x:Option Operand} {ax:Option AO} (hf:Cc x ax=true) {dflt n:Int} (h:D7 env dflt ax=some n) :
  (x.map a.eval=none∧n=dflt)∨∃ k,x.map a.eval=some (.int k n):=by
 cases x with
 | none =>
  cases ax with
  | none=>simp [D7] at h;exact .inl ⟨rfl,h.symm⟩
  | some y=>simp [Cc] at hf
 | some x =>
  cases ax with
  | none=>simp [Cc] at hf
  | some y =>
   simp only [D7] at h
   split at h
   ·rename_i k m hk
    simp at h;subst h
    exact .inr ⟨k,by simp [hs.look_i (by simpa [Cc] using hf) hk]⟩
   ·cases h
theorem E5 {isS:Bool} {len cap:Nat} {lo hi mx:Option Value} {l h:Int} (h0:0≤l) (h1:l≤h) (hl:(lo=none∧l=0)∨∃ k,lo=some (.int k l)) (hh:(hi=none∧h=len∧mx=none)∨∃ k,hi=some (.int k h))
  {m:Int} (hm:(mx=none∧m=cap)∨∃ k,mx=some (.int k m)) (h2:h≤m) (h3:m≤cap) :
  (Instr.sliceBounds isS len cap lo hi mx).run P w=.ok (l.toNat,h.toNat,m.toNat) w:=by
 have eh:(h.toNat:Int)=h:=Int.toNat_of_nonneg (by omega)
 have em:(m.toNat:Int)=m:=Int.toNat_of_nonneg (by omega)
 have g0:0≤h:=by omega
 have g1:0≤m:=by omega
 rcases hm with ⟨rfl,rfl⟩|⟨km,rfl⟩<;>rcases hh with ⟨rfl,rfl,hx⟩|⟨kh,rfl⟩<;>rcases hl with ⟨rfl,rfl⟩|⟨kl,rfl⟩ <;>
  first
  | (cases hx;done)
  | simp [Instr.sliceBounds,Instr.sliceBound,asIntOf,h0,h1,h2,h3,eh,em,g0,g1]
theorem Md {ty e:TypeId} {i:TypeInfo} (h1:P.underlying ty=some (.slice e)) (h2:P.info? e=some i) {A:Option Addr} {len cap:Nat} {lo hi mx:Option Value} {l h m:Nat}
  (hb:(Instr.sliceBounds true len cap lo hi mx).run P w=.ok (l,h,m) w) :
  (Instr.sliceAt ty (.slice A len cap) lo hi mx).run P w=.ok (.slice (if m=l then A else A.map (·.add (l * i.size))) (h-l) (m-l)) w:=by
 simp [Instr.sliceAt,Instr.slice,run_underlying h1,hb,DR h2]
theorem Rep.cut {xs:List DV} {A:Option Addr} {len c:Nat} (h:Rep w I (.sl xs) (.slice A len c)) {sz:Nat} (hsz:∀ x∈xs,x.cells.length=sz) {l hh m:Nat} (h1:l≤hh) (h2:hh≤xs.length) (h3:hh≤m) :
  Rep w I (.sl ((xs.drop l).take (hh-l))) (.slice (if m=l then A else A.map (·.add (l * sz))) (hh-l) (m-l)):=by
 cases h with
 | sl0=>simp at h2;subst h2;simp at h1;subst h1;simp;exact .sl0 _ _
 | sl _ bk off sz' _ vs hne hc hI hsz' hr hrow =>
  by_cases he:hh=l
  ·subst he;simp;exact .sl0 _ _
  ·have hm:¬m=l:=by omega
   rw [if_neg hm]
   obtain ⟨x0,hx0⟩:∃ x,xs[0]?=some x:=by cases xs with|nil=>exact absurd rfl hne|cons x _=>exact ⟨x,rfl⟩
   have hs:sz'=sz:=by rw [← (hrow.get 0 x0 hx0).1];exact hsz x0 (List.mem_of_getElem? hx0)
   subst hs
   have hA:(some (⟨bk,off,none⟩:Addr)).map (·.add (l * sz'))=some ⟨bk,off+l * sz',none⟩:=by simp [CX]
   rw [hA]
   have hlen:((xs.drop l).take (hh-l)).length=hh-l:=by simp;omega
   have:=Rep.sl (w:=w) (I:=I) ((xs.drop l).take (hh-l)) bk (off+l * sz') sz' (m-l) _ (by intro h;rw [h] at hlen;simp at hlen;omega) (by omega) hI hsz'
    ((hr.drop (l * sz')).take ((hh-l) * sz')) ((hrow.drop l).take (hh-l))
   rwa [hlen] at this
theorem Rep.sl_len {xs:List DV} {v:Value} (h:Rep w I (.sl xs) v) : ∃ A c,v=.slice A xs.length c∧xs.length≤c:=by
 cases h with
 | sl0 A c=>exact ⟨A,c,rfl,by simp⟩
 | sl _ bk off sz c vs hne hc=>exact ⟨_,c,rfl,hc⟩
theorem UU {x:Operand} {ax:AO} {ty t e sz by_:Nat} {lo hi mx:Option Operand} {al ah am:Option AO} {xs:List DV} {l h m:Int} (ho:o.op=.slice ty x lo hi mx) (hx:AA x ax=true) (hfl:Cc lo al=true) (hfh:Cc hi ah=true)
  (hfm:Cc mx am=true) (hd:o.dst=some t) (ht:okT C.nt t) (hty:B3 P ty=some (e,sz,by_)) (hv:look env ax=.d (.sl xs)) (hl:D7 env 0 al=some l) (hh:D7 env xs.length ah=some h) (hm:D7 env h am=some m)
  (hmh:am=none∨ah≠none) (h0:0≤l) (h1:l≤h) (h2:h≤m) (h3:m≤xs.length) (hsz:∀ x∈xs,x.cells.length=sz)
  (hK:K (put env t (.d (.sl ((xs.drop l.toNat).take (h.toNat-l.toNat))))) H):OpOK P C o env H K :=
 .pure (by simp [ho]) hd ht (fun X a w I μ O _ hs=>by
  obtain ⟨inf,s1,s2,s3,_,s5⟩:=C9 hty
  have hr:=hs.look_d hx hv
  obtain ⟨A,c,hev,hc⟩:=hr.sl_len
  rw [hev] at hr
  have b1:=hs.bound hfl hl
  have b2:=hs.bound hfh hh
  have b3:=hs.bound hfm hm
  have hmx:mx=none↔am=none:=by cases mx<;>cases am<;>simp [Cc] at hfm ⊢
  have hhi:hi=none↔ah=none:=by cases hi<;>cases ah<;>simp [Cc] at hfh ⊢
  have hb:∃ m':Nat,(Instr.sliceBounds true xs.length c (lo.map a.eval) (hi.map a.eval) (mx.map a.eval)).run P w=.ok (l.toNat,h.toNat,m') w∧h.toNat≤m':=by
   have hh':(hi.map a.eval=none∧h=(xs.length:Int)∧mx.map a.eval=none)∨∃ k,hi.map a.eval=some (.int k h):=by
    rcases b2 with ⟨g1,g2⟩|g
    ·refine .inl ⟨g1,g2,?_⟩
     rcases hmh with g|g
     ·rw [hmx.2 g];rfl
     ·have:hi=none:=by cases hi<;>simp at g1 ⊢
      exact absurd (hhi.1 this) g
    ·exact .inr g
   by_cases hmn:mx=none
   ·have e1:h≤(c:Int):=by omega
    exact ⟨c,by simpa using E5 (P:=P) (w:=w) (isS:=true) h0 h1 b1 hh' (m:=c) (.inl ⟨by rw [hmn];rfl,rfl⟩) e1 (Int.le_refl _),by omega⟩
   ·rcases b3 with ⟨g1,_⟩|g
    ·exact absurd (by cases mx<;>simp at g1 ⊢) hmn
    ·exact ⟨m.toNat,E5 (P:=P) (w:=w) (isS:=true) h0 h1 b1 hh' (.inr g) h2 (by omega),by omega⟩
  obtain ⟨m',hb1,hb2⟩:=hb
  refine ⟨.slice (if m'=l.toNat then A else A.map (·.add (l.toNat * sz))) (h.toNat-l.toNat) (m'-l.toNat),by simp only [execOp,ho,hev,Sem.run_bind,Md s1 s2 hb1,Result.andThen_ok,Sem.run_pure,s3],.of_rep ?_⟩
  exact hr.cut hsz (by omega) (by omega) hb2) hK
theorem Sh {x:Operand} {r ty t e sz by_:Nat} {lo hi:Option Operand} {al ah:Option AO} {p:Pl} {off len:Nat} {xs:List DV} {l h:Int} (ho:o.op=.slice ty x lo hi none) (hx:AA x (.t r)=true) (hfl:Cc lo al=true) (hfh:Cc hi ah=true)
  (hd:o.dst=some t) (ht:okT C.nt t) (hty:B3 P ty=some (e,sz,by_)) (hv:get env r=.ref p off len) (hp:AB env H p=.own e xs) (hpt:p≠.t t) (hl:D7 env 0 al=some l) (hh:D7 env len ah=some h)
  (h0:0≤l) (h1:l≤h) (h2:h≤len) (hK:K (put env t (.ref p (off+l.toNat) (h.toNat-l.toNat))) H):OpOK P C o env H K:=by
 intro X a w I μ O next Q g1 g2 g3 hs hn
 obtain ⟨inf,s1,s2,s3,_,s5⟩:=C9 hty
 have hxe:=FH hx
 subst hxe
 have hrr:=hs.envr r
 rw [hv] at hrr
 obtain ⟨e',ys,A,n,c,f1,f2,f3,f4⟩:=hrr
 rw [hp] at f1;cases f1
 have b1:=hs.bound hfl hl
 have b2:=hs.bound hfh hh
 obtain ⟨A',c',q1,q2,q3,q4⟩:=f4
 have e1:h≤(c':Int):=by omega
 have hb:=E5 (P:=P) (w:=w) (isS:=true) (len:=len) (cap:=c') h0 h1 b1 (b2.imp (fun ⟨x,y⟩=>⟨x,y,rfl⟩) fun h=>h) (m:=(c':Int)) (mx:=none) (.inl ⟨rfl,rfl⟩) e1 (Int.le_refl _)
 have hev:a.eval (.tmp r)=.slice A' len c':=q1
 have hr:(execOp a.eval o).run P w=.ok (.value (.slice (if c'=l.toNat then A' else A'.map (·.add (l.toNat * sz))) (h.toNat-l.toNat) (c'-l.toNat))) w:=by
  simp only [execOp,ho,hev,Sem.run_bind,Option.map_none,Md s1 s2 hb,Result.andThen_ok,Sem.run_pure,s3,Int.toNat_natCast]
 refine ⟨fun _ _=>trivial,?_⟩
 rw [Oper.semAt_eq _ _ _ (by simp [ho]),hr,Oper.uponIn_value,hd]
 refine hn _ _ _ _ _ _ _ (hs.put_ref (by rw [g1];exact ht) hpt ⟨e,xs,A,n,c,hp,f2,by omega,_,_,rfl,by omega,fun h0'=>?_,fun hpos=>?_⟩) hK
 ·have:l.toNat=0:=by omega
  obtain ⟨rfl,rfl⟩:=q3 (by omega)
  rw [this]
  refine ⟨?_,by omega⟩
  split
  ·rfl
  ·simp [Addr.add]
 ·have hne:¬c'=l.toNat:=by omega
  rw [if_neg hne,q4 (by omega),s5,Option.map_map]
  congr 1
  funext p
  simp only [Function.comp,Addr.add,Nat.add_mul]
  by_cases h1:off * sz=0<;>by_cases h2:l.toNat * sz=0<;>simp [h1,h2]<;>omega
end
end Go.FL
namespace Go.FL
open Go Go.RowKit
def RL (P:Program) (C:Cx) (ops:Array Oper) (Q:Exit→Env→Ab→Prop) (k:Nat) (l:List Oper) (env:Env) (H:Ab) : Prop :=
 ops.toList.drop k=l→∀ X a w I μ O,X.nt=C.nt→X.n0=C.n0→X.ne=C.ne→Sim P X env H a w I μ O →
  wpOpsIn (om C.ro) 0 P ops (Post P X Q) (List.range' k l.length) a w
section
variable {P:Program} {C:Cx} {X:Snap} {o:Oper} {ops:Array Oper} {Q:Exit→Env→Ab→Prop} {env env':Env} {H H':Ab} {a:Act} {w w':World} {I I':Nat→Prop} {μ μ':List Nat} {O O':Nat→Option Loc}
 {K:Env→Ab→Prop} {k:Nat} {l:List Oper}
theorem Ex {α:Type} {xs:List α} {k:Nat} {x:α} {l:List α} (h:xs.drop k=x::l) : xs[k]?=some x∧xs.drop (k+1)=l:=by
 have h1:xs[k]?=some x:=by
  have:=congrArg (·[0]?) h
  simpa using this
 refine ⟨h1,?_⟩
 have:=congrArg (List.drop 1) h
 simpa using this
theorem RL.nil (h:Q .normal env H) : RL P C ops Q k [] env H:=fun _ _ _ _ I μ O _ _ _ hs=>⟨env,H,I,μ,O,hs,h⟩
theorem RL.cons (hg:o.guard=none) (h:OpOK P C o env H (RL P C ops Q (k+1) l)) : RL P C ops Q k (o::l) env H:=by
 intro hl X a w I μ O h1 h2 h3 hs
 obtain ⟨e1,e2⟩:=Ex hl
 rw [List.length_cons,List.range'_succ]
 have e1':ops[k]?=some o:=by simpa using e1
 simp only [wpOpsIn,e1',Region.wanted,hg,if_true]
 exact h X a w I μ O _ _ h1 h2 h3 hs fun env' H' a' w' I' μ' O' hs' hK=>hK e2 X a' w' I' μ' O' h1 h2 h3 hs'
theorem Sim.yields (hs:Sim P X env H a w I μ O) {j d:Nat} {oj:Oper} {x:Bool} (hj:ops[j]?=some oj) (hd:oj.dst=some d) (hv:get env d=.d (.b x)) : yielded ops a.tmps j=some x:=by
 have:=hs.bool hv
 simp only [yielded,hj,Option.bind_some,hd]
 simp only [Act.eval,Array.getD_eq_getD_getElem?] at this
 cases hx:a.tmps[d]? with
 | none=>rw [hx] at this;simp [undef] at this
 | some v=>rw [hx] at this;simp at this;rw [this]
theorem RL.guard_t {j d:Nat} {oj:Oper} {x:Bool} (hg:o.guard=some (j,x)) (hj:ops[j]?=some oj) (hd:oj.dst=some d) (hv:get env d=.d (.b x))
  (h:OpOK P C o env H (RL P C ops Q (k+1) l)):RL P C ops Q k (o::l) env H:=by
 intro hl X a w I μ O h1 h2 h3 hs
 obtain ⟨e1,e2⟩:=Ex hl
 rw [List.length_cons,List.range'_succ]
 have e1':ops[k]?=some o:=by simpa using e1
 simp only [wpOpsIn,e1',Region.wanted,hg,hs.yields hj hd hv,beq_self_eq_true,if_true]
 exact h X a w I μ O _ _ h1 h2 h3 hs fun env' H' a' w' I' μ' O' hs' hK=>hK e2 X a' w' I' μ' O' h1 h2 h3 hs'
theorem RL.guard_f {j d t:Nat} {oj:Oper} {x y:Bool} (hg:o.guard=some (j,x)) (hj:ops[j]?=some oj) (hd:oj.dst=some d) (hv:get env d=.d (.b y)) (hxy:y≠x) (ht:o.dst=some t) (hto:okT C.nt t)
  (h:RL P C ops Q (k+1) l (put env t .un) H):RL P C ops Q k (o::l) env H:=by
 intro hl X a w I μ O h1 h2 h3 hs
 obtain ⟨e1,e2⟩:=Ex hl
 rw [List.length_cons,List.range'_succ]
 have e1':ops[k]?=some o:=by simpa using e1
 have:(some y == some x)=false:=by simp [hxy]
 simp only [wpOpsIn,e1',Region.wanted,hg,hs.yields hj hd hv,this,Bool.false_eq_true,if_false]
 refine ⟨fun _ _=>trivial,?_⟩
 rw [ht]
 exact h e2 X _ w I μ O h1 h2 h3 (hs.put_un t (by rw [h1];exact hto) undef)
theorem Sim.yields_not (hs:Sim P X env H a w I μ O) {j d:Nat} {oj:Oper} (hj:ops[j]?=some oj) (hd:oj.dst=some d) (hv:get env d=.tup []) : yielded ops a.tmps j=none:=by
 have this:=hs.envr d
 rw [hv] at this
 obtain ⟨bs,hr,_⟩:=this
 have he:a.tmps.getD d undef=.tuple #[]:=by
  generalize a.tmps.getD d undef=v at hr
  cases hr with
  | tup h=>cases h;rfl
 simp only [yielded,hj,Option.bind_some,hd]
 rw [Array.getD_eq_getD_getElem?] at he
 cases hx:a.tmps[d]? with
 | none=>rfl
 | some v=>rw [hx] at he;simp at he;rw [he]
theorem RL.guard_fu {j d t:Nat} {oj:Oper} {x y:Bool} (hg:o.guard=some (j,x)) (hj:ops[j]?=some oj) (hd:oj.dst=some d) (hv:get env d=.d (.b y)) (hxy:y≠x) (ht:o.dst=some t) (hto:okT C.nt t)
  (h:RL P C ops Q (k+1) l (put env t (.tup [])) H):RL P C ops Q k (o::l) env H:=by
 intro hl X a w I μ O h1 h2 h3 hs
 obtain ⟨e1,e2⟩:=Ex hl
 rw [List.length_cons,List.range'_succ]
 have e1':ops[k]?=some o:=by simpa using e1
 have:(some y == some x)=false:=by simp [hxy]
 simp only [wpOpsIn,e1',Region.wanted,hg,hs.yields hj hd hv,this,Bool.false_eq_true,if_false]
 refine ⟨fun _ _=>trivial,?_⟩
 rw [ht]
 exact h e2 X _ w I μ _ h1 h2 h3 (hs.put_hand (by rw [h1];exact hto) (av:=.tup []) (v:=undef) ⟨[],.tup .nil,List.nodup_nil,by simp⟩)
theorem RL.guard_n {j d t:Nat} {oj:Oper} {x:Bool} (hg:o.guard=some (j,x)) (hj:ops[j]?=some oj) (hd:oj.dst=some d) (hv:get env d=.tup []) (ht:o.dst=some t) (hto:okT C.nt t)
  (h:RL P C ops Q (k+1) l (put env t (.tup [])) H):RL P C ops Q k (o::l) env H:=by
 intro hl X a w I μ O h1 h2 h3 hs
 obtain ⟨e1,e2⟩:=Ex hl
 rw [List.length_cons,List.range'_succ]
 have e1':ops[k]?=some o:=by simpa using e1
 have:((none:Option Bool) == some x)=false:=rfl
 simp only [wpOpsIn,e1',Region.wanted,hg,hs.yields_not hj hd hv,this,Bool.false_eq_true,if_false]
 refine ⟨fun _ _=>trivial,?_⟩
 rw [ht]
 exact h e2 X _ w I μ _ h1 h2 h3 (hs.put_hand (by rw [h1];exact hto) (av:=.tup []) (v:=undef) ⟨[],.tup .nil,List.nodup_nil,by simp⟩)
theorem RL.guard_nu {j d t:Nat} {oj:Oper} {x:Bool} (hg:o.guard=some (j,x)) (hj:ops[j]?=some oj) (hd:oj.dst=some d) (hv:get env d=.tup []) (ht:o.dst=some t) (hto:okT C.nt t)
  (h:RL P C ops Q (k+1) l (put env t .un) H):RL P C ops Q k (o::l) env H:=by
 intro hl X a w I μ O h1 h2 h3 hs
 obtain ⟨e1,e2⟩:=Ex hl
 rw [List.length_cons,List.range'_succ]
 have e1':ops[k]?=some o:=by simpa using e1
 have:((none:Option Bool) == some x)=false:=rfl
 simp only [wpOpsIn,e1',Region.wanted,hg,hs.yields_not hj hd hv,this,Bool.false_eq_true,if_false]
 refine ⟨fun _ _=>trivial,?_⟩
 rw [ht]
 exact h e2 X _ w I μ O h1 h2 h3 (hs.put_un t (by rw [h1];exact hto) undef)
theorem AW.region {id:Nat} {ops:Array Oper} (h:RL P C ops Q 0 ops.toList env H) : AW P C (.region id ops false) Q env H:=fun X a w I μ O h1 h2 h3 hs=>by
 refine wpIn_region ?_
 have:=h (by simp) X a w I μ O h1 h2 h3 hs
 rwa [Array.length_toList,← List.range_eq_range'] at this
def Gh (P:Program) (C:Cx) (env:Env) (H:Ab) (env':Env) (H':Ab) : Prop :=
 ∀ X a w I μ O,X.nt=C.nt→X.n0=C.n0→X.ne=C.ne→Sim P X env H a w I μ O→∃ I' O',Sim P X env' H' a w I' μ O'
theorem AW.gh {c:Code} (g:Gh P C env H env' H') (h:AW P C c Q env' H') : AW P C c Q env H:=fun X a w I μ O h1 h2 h3 hs =>
 let ⟨I',O',hs'⟩:=g X a w I μ O h1 h2 h3 hs;h X a w I' μ O' h1 h2 h3 hs'
theorem AL.gh {c:Code} (g:Gh P C env H env' H') (h:AL P C c Q env' H') : AL P C c Q env H:=fun X a w I μ O h1 h2 h3 hs =>
 let ⟨I',O',hs'⟩:=g X a w I μ O h1 h2 h3 hs;h X a w I' μ O' h1 h2 h3 hs'
theorem RL.gh (g:Gh P C env H env' H') (h:RL P C ops Q k l env' H') : RL P C ops Q k l env H:=fun hl X a w I μ O h1 h2 h3 hs =>
 let ⟨I',O',hs'⟩:=g X a w I μ O h1 h2 h3 hs;h hl X a w I' μ O' h1 h2 h3 hs'
theorem Gh.frz {p:Pl} {e:TypeId} {xs:List DV} (hp:AB env H p=.own e xs) (hn:∀ id off,p=.c id off→C.n0≤id) : Gh P C env H (KH p xs env) (TR p xs H):=fun X a w I μ O _ h2 _ hs =>
 hs.frz hp fun id off h=>by rw [h2];exact hn id off h
def Jq (ts:List Nat) (env:Env) : Env:=ts.map fun t=>(t,get env t)
def Nn (ts:List Nat) : AV→Bool
 | .ref (.t s) _ _=>ts.contains s
 | .ep (.t s) _ _=>ts.contains s
 | _=>true
theorem OB (ts:List Nat) (env:Env) (t:Nat) : get (Jq ts env) t=if t∈ts then get env t else .un:=by
 induction ts with
 | nil=>simp [Jq,get]
 | cons s ts ih =>
  simp only [Jq,List.map_cons,get]
  by_cases h:s=t
  ·subst h;simp
  ·rw [if_neg h]
   rw [show get (List.map (fun t=>(t,get env t)) ts) t=_ from ih]
   simp [Ne.symm h]
theorem Gh.keep (ts:List Nat) (hr:ts.all (fun t=>Nn ts (get env t))=true) : Gh P C env H (Jq ts env) H:=fun X a w I μ O _ _ _ hs=>by
 refine ⟨I,O,⟨hs.toMem,fun t=>?_,hs.nt,hs.dfs⟩⟩
 rw [OB]
 split
 ·rename_i ht
  have hrt:Nn ts (get env t)=true:=by
   have:=List.all_eq_true.1 hr t ht
   simpa using this
  have h:=hs.envr t
  have hpl:∀ p e xs,(∀ s,p=.t s→s∈ts)→AB env H p=.own e xs→AB (Jq ts env) H p=.own e xs:=by
   intro p e xs hp hx
   cases p with
   | t s =>
    show get (Jq ts env) s=_
    rw [OB,if_pos (hp s rfl)];exact hx
   | c id off=>exact hx
  cases hg:get env t with
  | ref p off len =>
   rw [hg] at h hrt
   obtain ⟨e,xs,A,n,c,h1,h2,h3,h4⟩:=h
   refine ⟨e,xs,A,n,c,hpl p e xs (fun s hs=>?_) h1,h2,h3,h4⟩
   subst hs;simpa [Nn] using hrt
  | ep p i k =>
   rw [hg] at h hrt
   obtain ⟨e,xs,b,n,c,h1,h2,h3,h4,h5⟩:=h
   refine ⟨e,xs,b,n,c,hpl p e xs (fun s hs=>?_) h1,h2,h3,h4,h5⟩
   subst hs;simpa [Nn] using hrt
  | _ =>
   rw [hg] at h
   obtain ⟨bs,h1,h2,h3⟩:=h.plain rfl
   exact .of h1 h2 h3
 ·exact .un
theorem Gh.nlOwn {t:Nat} (e:TypeId) (hsz:0<Av P e) (h:get env t=.nl) : Gh P C env H ((t,.own e [])::env) H:=fun X a w I μ O _ _ _ hs=>by
 have ht:=hs.envr t
 rw [h] at ht
 obtain ⟨bs,h1,h2,h3⟩:=ht.plain rfl
 refine ⟨I,O,⟨hs.toMem,fun s=>?_,hs.nt,hs.dfs⟩⟩
 by_cases hst:t=s
 ·subst hst
  have:get ((t,AV.own e [])::env) t=.own e []:=by simp [get]
  rw [this]
  generalize hv:a.tmps.getD t undef=v at h1
  cases h1
  refine .of (bs:=[]) ?_ List.nodup_nil (by simp)
  rw [hv]
  exact .own e [] (.slice none 0 0) [] hsz (.inl ⟨none,rfl,rfl,rfl⟩) (.nil _)
 ·have hg:get ((t,AV.own e [])::env) s=get env s:=by simp [get,hst]
  rw [hg]
  have hpl:∀ p e' xs,AB env H p=.own e' xs→AB ((t,AV.own e [])::env) H p=.own e' xs:=by
   intro p e' xs hx
   cases p with
   | t r =>
    show get _ r=_
    by_cases hr:t=r
    ·subst hr;rw [show AB env H (.t t)=get env t from rfl,h] at hx;cases hx
    ·simp only [get,if_neg hr];exact hx
   | c id off=>exact hx
  have h:=hs.envr s
  cases hg:get env s with
  | ref p off len =>
   rw [hg] at h
   obtain ⟨e',xs,A,n,c,h1,h2,h3,h4⟩:=h
   exact ⟨e',xs,A,n,c,hpl p e' xs h1,h2,h3,h4⟩
  | ep p i k =>
   rw [hg] at h
   obtain ⟨e',xs,b,n,c,h1,h2,h3,h4,h5⟩:=h
   exact ⟨e',xs,b,n,c,hpl p e' xs h1,h2,h3,h4,h5⟩
  | _ =>
   rw [hg] at h
   obtain ⟨bs,h1,h2,h3⟩:=h.plain rfl
   exact .of h1 h2 h3
theorem Gh.nlD {t:Nat} (h:get env t=.nl) : Gh P C env H ((t,.d (.sl []))::env) H:=fun X a w I μ O _ _ _ hs=>by
 have ht:=hs.envr t
 rw [h] at ht
 obtain ⟨bs,h1,h2,h3⟩:=ht.plain rfl
 refine ⟨I,O,⟨hs.toMem,fun s=>?_,hs.nt,hs.dfs⟩⟩
 by_cases hst:t=s
 ·subst hst
  have:get ((t,AV.d (.sl []))::env) t=.d (.sl []):=by simp [get]
  rw [this]
  generalize hv:a.tmps.getD t undef=v at h1
  cases h1
  refine .of (bs:=[]) ?_ List.nodup_nil (by simp)
  rw [hv]
  exact .d (.sl0 _ _)
 ·have hg:get ((t,AV.d (.sl []))::env) s=get env s:=by simp [get,hst]
  rw [hg]
  have hpl:∀ p e' xs,AB env H p=.own e' xs→AB ((t,AV.d (.sl []))::env) H p=.own e' xs:=by
   intro p e' xs hx
   cases p with
   | t r =>
    show get _ r=_
    by_cases hr:t=r
    ·subst hr;rw [show AB env H (.t t)=get env t from rfl,h] at hx;cases hx
    ·simp only [get,if_neg hr];exact hx
   | c id off=>exact hx
  have h:=hs.envr s
  cases hg:get env s with
  | ref p off len =>
   rw [hg] at h
   obtain ⟨e',xs,A,n,c,h1,h2,h3,h4⟩:=h
   exact ⟨e',xs,A,n,c,hpl p e' xs h1,h2,h3,h4⟩
  | ep p i k =>
   rw [hg] at h
   obtain ⟨e',xs,b,n,c,h1,h2,h3,h4,h5⟩:=h
   exact ⟨e',xs,b,n,c,hpl p e' xs h1,h2,h3,h4,h5⟩
  | _ =>
   rw [hg] at h
   obtain ⟨bs,h1,h2,h3⟩:=h.plain rfl
   exact .of h1 h2 h3
end
end Go.FL
namespace Go.FL
open Go Go.RowKit
def Fn (P:Program) (f:FuncId) (args:List DV) (r:AV) : Prop :=
 ∀ (w:World) (I:Nat→Prop) (vs:List Value),(∀ b,I b→b<w.heap.size)→RepAll w I args vs →
  CallsIn (om none) 0 P f vs.toArray w fun e w'=>∃ v I' bs,e=.returned v∧Below w.heap.size w w'∧(∀ b,I b→I' b) ∧
   (∀ b,I' b→b<w'.heap.size∧(b<w.heap.size→I b))∧ARep P w' I' [] r v bs∧bs.Nodup∧∀ b∈bs,w.heap.size≤b∧b<w'.heap.size∧¬I' b
def C5 : Operand→AO
 | .tmp t=>.t t
 | .const (.slice none 0 0)=>.nl
 | .const (.bool b)=>.k (.b b)
 | .const (.int k n)=>.k (.i k n)
 | .const (.string s)=>.k (.s s)
 | .const .nilFunc=>.k .nf
 | .const (.pointer none)=>.k .np
 | .const .nilIface=>.k .ni
 | .func g=>.f g
 | _=>.nl
def lk (env:Env) : Operand→AV
 | .tmp t=>get env t
 | .const (.string s)=>.d (.s s)
 | x=>if AA x (C5 x)=true then look env (C5 x) else .un
def A0 : AV→Option DV
 | .d v=>some v
 | .nl=>some (.sl [])
 | _=>none
def argsD (env:Env) : List Operand→Option (List DV)
 | []=>some []
 | x::xs=>match A0 (lk env x),argsD env xs with
  | some v,some vs=>some (v::vs)
  | _,_=>none
def CI : Nat→List DV→Env
 | _,[]=>[]
 | k,d::ds=>(k,.d d)::CI (k+1) ds
section
variable {P:Program} {C:Cx} {X:Snap} {o:Oper} {ops:Array Oper} {Q:Exit→Env→Ab→Prop} {env env':Env} {H H':Ab} {a:Act} {w w':World} {I I':Nat→Prop} {μ μ':List Nat} {O O':Nat→Option Loc}
 {K:Env→Ab→Prop}
theorem Ts (env:Env) (x:Operand) : lk env x=.un∨(AA x (C5 x)=true∧look env (C5 x)=lk env x):=by
 unfold lk;split
 ·exact .inr ⟨by simp [C5,AA],rfl⟩
 ·exact .inr ⟨by simp [C5,AA,TG],rfl⟩
 ·split
  ·rename_i h;exact .inr ⟨h,rfl⟩
  ·exact .inl rfl
theorem SW {x:Operand} {av:AV} (h:lk env x=av) (hn:av≠.un) : AA x (C5 x)=true∧look env (C5 x)=av:=by
 rcases Ts env x with h1|⟨h1,h2⟩
 ·rw [h] at h1;exact absurd h1 hn
 ·exact ⟨h1,h2.trans h⟩
theorem Sim.lk (hs:Sim P X env H a w I μ O) {x:Operand} (hr:AI (Go.FL.lk env x)=false) : ∃ bs,ARep P w I μ (Go.FL.lk env x) (a.eval x) bs:=by
 rcases Ts env x with h|⟨h1,h2⟩
 ·rw [h];exact ⟨[],.un _⟩
 ·rw [← h2] at hr ⊢;exact hs.look h1 hr
theorem Sim.deep (hs:Sim P X env H a w I μ O) {x:Operand} {v:DV} (h:A0 (Go.FL.lk env x)=some v) : Rep w I v (a.eval x):=by
 have hr:AI (Go.FL.lk env x)=false:=by
  generalize Go.FL.lk env x=av at h
  cases av<;>first|rfl|simp [A0] at h
 obtain ⟨bs,hb⟩:=hs.lk hr
 generalize Go.FL.lk env x=av at h hb
 generalize a.eval x=u at hb
 cases hb<;>simp only [A0,Option.some.injEq,reduceCtorEq] at h
 ·subst h;assumption
 ·subst h;exact .sl0 _ _
theorem Sim.argsD (hs:Sim P X env H a w I μ O) : ∀ {xs:List Operand} {ds:List DV},Go.FL.argsD env xs=some ds→RepAll w I ds (xs.map a.eval):=by
 intro xs
 induction xs with
 | nil=>intro ds h;simp [Go.FL.argsD] at h;subst h;exact .nil
 | cons x xs ih =>
  intro ds h
  simp only [Go.FL.argsD] at h
  split at h
  ·rename_i v vs h1 h2
   simp at h;subst h
   exact .cons (hs.deep h1) (ih h2)
  ·cases h
theorem CG {ρ:Operand→Value} {c:Call} {ty:TypeId} {fo:Operand} {f:FuncId} {fs cs:Array Value} (hc:c.callee=.value fo) (hf:ρ fo=.func (.func f) fs cs) :
  (resolve ρ c ty).run P w=.ok {target:=.fn (.func f) cs,args:=fs++c.args.map ρ} w:=by
 simp [resolve,hc,hf,Deferred.ofValue]
theorem Sim.called (hs:Sim P X env H a w I μ O) (hb:Below w.heap.size w w') (hI:∀ b,I b→I' b) (hI':∀ b,I' b→b<w'.heap.size∧(b<w.heap.size→I b)) : Sim P X env H a w' I' μ O:=by
 have h:=hs.grow hb
 refine ⟨{h.toMem with
  kI:=fun b hk hi=>h.kI b hk ((hI' b hi).2 (Nat.lt_of_lt_of_le (hs.klt b hk) hs.size))
  mono:=fun b hi=>hI b (h.mono b hi)
  own:=fun b l hl=>⟨(h.own b l hl).1,fun hi=>(hs.own b l hl).2 ((hI' b hi).2 (hs.own b l hl).1)⟩
  ilt:=fun b hi=>(hI' b hi).1
  heap:=fun id o ho=>?_},fun t=>?_,h.nt,h.dfs⟩
 ·obtain ⟨blk,bs,h1,h2,h3,h4⟩:=h.heap id o ho
  exact ⟨blk,bs,h1,h2.mono hI,h3,h4⟩
 ·exact (h.envr t).keepG hI (fun _ _=>rfl) (fun _ _ h=>h) (fun b hb'=>⟨rfl,hb'⟩) fun p e xs hp=>⟨hp,fun v hv=>hv⟩
theorem Sim.given (hs:Sim P X env H a w I μ O) (hb:Below w.heap.size w w') (hI:∀ b,I b→I' b) (hI':∀ b,I' b→b<w'.heap.size∧(b<w.heap.size→I b)) {r:AV} {v:Value} {bs:List Nat}
  (hr:ARep P w' I' [] r v bs) (hn:bs.Nodup) (hbs:∀ b∈bs,w.heap.size≤b∧b<w'.heap.size∧¬I' b):∃ O',Sim P X env H a w' I' μ O'∧Hand P w' I' μ O' r v:=by
 have h:=(hs.called hb hI hI').newR bs fun b hm=>by
  obtain ⟨h1,h2,h3⟩:=hbs b hm
  refine ⟨h2,.inl ?_,h3,fun hk=>by have:=hs.klt b hk;have:=hs.size;omega⟩
  cases hO:O b with
  | none=>rfl
  | some l=>have:=(hs.own b l hO).1;omega
 exact ⟨_,h,bs,hr.keep (fun _ h=>h) (fun _ _=>rfl) (fun i b h=>by simp at h) fun _ _=>rfl,hn,fun b hm=>by simp [hm]⟩
theorem OpOK.call {c:Call} {fo:Operand} {f:FuncId} {first xs caps:List DV} {r:AV} (ho:o.op=.call c) (hc:c.callee=.value fo) (hf:lk env fo=.d (.fn f first caps)) (ha:argsD env c.args.toList=some xs)
  (hcall:∀ args w,(callFunc f args).run P w=.ok (.enter f args) w) (hfn:Fn P f (first++xs++caps) r) (hd:∀ t,o.dst=some t→okT C.nt t)
  (hK:K (match o.dst with|some t=>put env t r|none=>env) H):OpOK P C o env H K:=by
 intro X a w I μ O next Q h1 h2 h3 hs hn
 have hfr:=hs.deep (x:=fo) (v:=.fn f first caps) (by rw [hf];rfl)
 generalize hev:a.eval fo=u at hfr
 cases hfr with
 | fn _ _ _ fs cs hfs hcs =>
  refine ⟨fun _ _=>trivial,?_⟩
  have hres:=CG (P:=P) (w:=w) (ρ:=a.eval) (ty:=o.type) hc hev
  have hex:(execOp a.eval o).run P w=.ok (.enter f (fs.toArray++c.args.map a.eval++cs.toArray)) w:=by
   simp only [execOp,ho,Sem.run_bind,hres,Result.andThen_ok,invoke,hcall]
  rw [Oper.semAt_eq _ _ _ (by simp [ho]),hex,Oper.uponIn_enter]
  refine ⟨fun h=>(by simp [om] at h),?_⟩
  have hargs:RepAll w I (first++xs++caps) (fs++c.args.toList.map a.eval++cs):=(hfs.append (hs.argsD ha)).append hcs
  have hcl:=hfn w I _ hs.ilt hargs
  have hfe:(om C.ro)={(om none) with round:=C.ro}:=rfl
  have e:(fs++c.args.toList.map a.eval++cs).toArray=fs.toArray++c.args.map a.eval++cs.toArray:=by
   apply Array.ext';simp
  rw [e] at hcl
  refine ⟨trivial,fun csF hroom=>?_⟩
  obtain ⟨e,w',fr,⟨v,I',bs,rfl,q1,q2,q3,q4,q5,q6⟩,s,x⟩:=hcl.2 csF (room_wide _)
  refine ⟨.returned v,w',fr,?_,s,x⟩
  obtain ⟨O',k1,k2⟩:=hs.given q1 q2 q3 q4 q5 q6
  show next (a.put o.dst v) w'
  cases hdst:o.dst with
  | none=>exact hn _ _ _ _ _ _ _ k1 (by rw [hdst] at hK;exact hK)
  | some t=>exact hn _ _ _ _ _ _ _ (k1.put_hand (by rw [h1];exact hd t hdst) k2) (by rw [hdst] at hK;exact hK)
mutual
def noBp : AV→Bool
 | .bp _ _=>false
 | .mr _=>false
 | .ag cs=>noBpL cs
 | .fn _ a b=>noBpL a&&noBpL b
 | .tup vs=>noBpL vs
 | _=>true
def noBpL : List AV→Bool
 | []=>true
 | c::r=>noBp c&&noBpL r
end
mutual
theorem ARep.noBp : ∀ {c:AV} {v:Value} {bs:List Nat},ARep P w I μ c v bs→Go.FL.noBp c=true→ARep P w I μ' c v bs
 | _,_,_,.un v,_=>.un v
 | _,_,_,.d h,_=>.d h
 | _,_,_,.nl,_=>.nl
 | _,_,_,.own e xs v vs h1 h2 h3,_=>.own e xs v vs h1 h2 h3
 | _,_,_,.bp ..,h=>by simp [Go.FL.noBp] at h
 | _,_,_,.mr ..,h=>by simp [Go.FL.noBp] at h
 | _,_,_,.ag k,h=>.ag (k.noBp (by simpa [Go.FL.noBp] using h))
 | _,_,_,.fn k1 k2,h=>by
  simp only [Go.FL.noBp,Bool.and_eq_true] at h
  exact .fn (k1.noBp h.1) (k2.noBp h.2)
 | _,_,_,.tup k,h=>.tup (k.noBp (by simpa [Go.FL.noBp] using h))
 | _,_,_,.nb cs blk cells e hh hr,_=>.nb cs blk cells e hh hr
 | _,_,_,.it s pos blk hh,_=>.it s pos blk hh
 | _,_,_,.om ks vs ks' vs' blk es c hh hk hv hp hl,_=>.om ks vs ks' vs' blk es c hh hk hv hp hl
theorem ARepAll.noBp : ∀ {cs:List AV} {vs:List Value} {bs:List Nat},ARepAll P w I μ cs vs bs→noBpL cs=true→ARepAll P w I μ' cs vs bs
 | _,_,_,.nil,_=>.nil
 | _,_,_,.cons k t,h=>by
  simp only [noBpL,Bool.and_eq_true] at h
  exact .cons (k.noBp h.1) (t.noBp h.2)
end
def ES (env:Env) (r:AV) : List ResultVar→Prop
 | []=>r=.tup []
 | [.tmp t]=>get env t=r∧AI r=false
 | [.tmp t,.tmp u]=>t≠u∧r=.tup [get env t,get env u]∧AI (get env t)=false∧AI (get env u)=false
 | [.tmp t,.tmp u,.tmp v]=>(t≠u∧t≠v∧u≠v)∧r=.tup [get env t,get env u,get env v]∧AI (get env t)=false∧AI (get env u)=false∧AI (get env v)=false
 | _=>False
def Z6 (rs:List ResultVar) (r:AV) : Exit→Env→Ab→Prop
 | .normal,env,_=>ES env r rs
 | .ret,env,_=>ES env r rs
 | _,_,_=>False
theorem Sim.results (hs:Sim P X env H a w I μ O) {fn:Func} {rs:List ResultVar} (hrs:fn.results=rs.toArray) {r:AV} (h:ES env r rs) :
  ∃ v bs,(results fn a.tmps).run P w=.ok v w∧ARep P w I μ r v bs∧bs.Nodup∧∀ b∈bs,∃ l,O b=some l:=by
 have one:∀ t,AI (get env t)=false→∃ bs,ARep P w I μ (get env t) (a.tmps.getD t undef) bs∧bs.Nodup∧∀ b∈bs,O b=some (.t t):=fun t ht=>(hs.envr t).plain ht
 have dis:∀ {t u:Nat} {b1 b2:List Nat},t≠u→(∀ b∈b1,O b=some (.t t))→(∀ b∈b2,O b=some (.t u))→∀ x∈b1,∀ y∈b2,x≠y:=by
  intro t u b1 b2 h h1 h2 x hx y hy e
  have:=h1 x hx;rw [e,h2 y hy] at this;simp at this;exact h this.symm
 unfold ES at h
 split at h
 ·subst h
  exact ⟨_,[],results_none (by rw [hrs]) _ _ _,.tup .nil,List.nodup_nil,by simp⟩
 ·obtain ⟨rfl,h2⟩:=h
  obtain ⟨bs,k1,k2,k3⟩:=one _ h2
  exact ⟨_,bs,results_tmp (by rw [hrs]) _ _ _,k1,k2,fun b hb=>⟨_,k3 b hb⟩⟩
 ·obtain ⟨hne,rfl,h2,h3⟩:=h
  obtain ⟨b1,k1,k2,k3⟩:=one _ h2
  obtain ⟨b2,m1,m2,m3⟩:=one _ h3
  refine ⟨_,_,results_tmp2 (by rw [hrs]) _ _ _,.tup (.cons k1 (.cons m1 .nil)),?_,?_⟩
  ·simp only [List.append_nil]
   exact List.nodup_append.2 ⟨k2,m2,dis hne k3 m3⟩
  ·intro b hb
   simp only [List.append_nil,List.mem_append] at hb
   rcases hb with hb|hb
   ·exact ⟨_,k3 b hb⟩
   ·exact ⟨_,m3 b hb⟩
 ·obtain ⟨⟨n1,n2,n3⟩,rfl,h2,h3,h4⟩:=h
  obtain ⟨b1,k1,k2,k3⟩:=one _ h2
  obtain ⟨b2,m1,m2,m3⟩:=one _ h3
  obtain ⟨b3,p1,p2,p3⟩:=one _ h4
  refine ⟨_,_,results_tmp3 (by rw [hrs]) _ _ _,.tup (.cons k1 (.cons m1 (.cons p1 .nil))),?_,?_⟩
  ·simp only [List.append_nil]
   refine List.nodup_append.2 ⟨k2,List.nodup_append.2 ⟨m2,p2,dis n3 m3 p3⟩,fun x hx y hy=>?_⟩
   rcases List.mem_append.1 hy with hy|hy
   ·exact dis n1 k3 m3 x hx y hy
   ·exact dis n2 k3 p3 x hx y hy
  ·intro b hb
   simp only [List.append_nil,List.mem_append] at hb
   rcases hb with hb|hb|hb
   ·exact ⟨_,k3 b hb⟩
   ·exact ⟨_,m3 b hb⟩
   ·exact ⟨_,p3 b hb⟩
 ·exact h.elim
theorem DT {ds:List DV} : ∀ {vs:List Value} {k:Nat} {tmps:Array Value},RepAll w I ds vs→(∀ j v,vs[j]?=some v→tmps.getD (k+j) undef=v) →
  ∀ t,get (CI k ds) t=.un∨∃ d,get (CI k ds) t=.d d∧Rep w I d (tmps.getD t undef):=by
 induction ds with
 | nil=>intro vs k tmps _ _ t;exact .inl rfl
 | cons d ds ih =>
  intro vs k tmps h ht t
  cases h with
  | @cons _ v _ vs h1 h2 =>
   simp only [CI,get]
   by_cases hk:k=t
   ·subst hk
    rw [if_pos rfl]
    refine .inr ⟨d,rfl,?_⟩
    have:=ht 0 v rfl
    rw [Nat.add_zero] at this
    rw [this];exact h1
   ·rw [if_neg hk]
    exact ih h2 (fun j u hj=>by
     have:=ht (j+1) u (by simpa using hj)
     rw [← this];congr 1;omega) t
theorem Fn.of {f:FuncId} {fn:Func} {c:Code} {args:List DV} {r:AV} {rs:List ResultVar} {nt:Nat} (hf:P.funcs[f]?=some fn) (hb:fn.body=some c) (hrs:fn.results=rs.toArray) (hnt:fn.ntmps=nt) (hn:args.length≤nt) (hbp:noBp r=true)
  (h:AW P {nt:=(0,nt),n0:=0,ne:=0} c (Z6 rs r) (CI 0 args) []):Fn P f args r:=by
 intro w I vs hI ha
 refine callsIn_of_wp hf hb trivial ?_
 have hlen:=ha.length
 let X:Snap:={w:=w,I:=I,K:=fun b=>b<w.heap.size,n0:=0,ne:=0,μ:=[],nt:=(0,nt),dfs:=[]}
 let a:Act:={tmps:=vs.toArray++Array.replicate (fn.ntmps-vs.toArray.size) undef,defers:=[]}
 have hs:Sim P X (CI 0 args) [] a w I [] (fun _=>none):=by
  refine ⟨{prot:=fun _ _=>rfl,kO:=fun _ _=>rfl,kI:=fun _ _ h=>h,mono:=fun _ h=>h,os:=rfl,tape:=rfl,output:=rfl,size:=Nat.le_refl _,own:=(fun b l h=>by simp at h),ilt:=hI,μlen:=rfl,μpre:=(fun i b hi _=>by simp [X] at hi),nle:=(by simp [X]),heap:=(fun id o h=>by simp at h),klt:=fun b hb=>hb,n0le:=(by simp [X])},fun t=>?_,?_,rfl,fun t h=>absurd h (by simp [X])⟩
  ·rcases DT (tmps:=a.tmps) (k:=0) ha (fun j v hj=>by
    have hjl:j<vs.length:=(List.getElem?_eq_some_iff.1 hj).1
    have e2:(vs.toArray++Array.replicate (fn.ntmps-vs.length) undef)[j]?=some v:=by
     rw [Array.getElem?_append_left (by simpa using hjl)];simpa using hj
    simp [a,e2]) t with h0|⟨d,h0,h1⟩
   ·rw [h0];exact .un
   ·rw [h0];exact .of (bs:=[]) (.d h1) List.nodup_nil (by simp)
  ·simp [a,X,hnt];omega
 have hw:=h X a w I [] (fun _=>none) rfl rfl rfl hs
 refine wpIn_mono hw fun e a' w' hp=>?_
 obtain ⟨env',H',I',μ',O',s,q⟩:=hp
 have fin:ES env' r rs→a'.defers=[]∧∃ v,(results fn a'.tmps).run P w'=.ok v w'∧∃ v' I' bs,Ending.returned v=.returned v'∧Below w.heap.size w w'∧(∀ b,I b→I' b) ∧
   (∀ b,I' b→b<w'.heap.size∧(b<w.heap.size→I b))∧ARep P w' I' [] r v' bs∧bs.Nodup∧∀ b∈bs,w.heap.size≤b∧b<w'.heap.size∧¬I' b:=by
  intro hres
  obtain ⟨v,bs,h1,h2,h3,h4⟩:=s.results hrs hres
  refine ⟨s.dfs.1,v,h1,v,I',bs,rfl,⟨s.os,s.tape,s.output,s.size,fun b hb=>s.prot b hb⟩,s.mono,fun b hi=>⟨s.ilt b hi,fun hb=>s.kI b hb hi⟩,h2.noBp hbp,h3,fun b hm=>?_⟩
  obtain ⟨l,hl⟩:=h4 b hm
  refine ⟨?_,(s.own b l hl).1,(s.own b l hl).2⟩
  rcases Nat.lt_or_ge b w.heap.size with hlt|hge
  ·have:=s.kO b hlt;rw [this] at hl;cases hl
  ·exact hge
 cases e with
 | normal=>exact fin q
 | ret=>exact fin q
 | _=>exact q.elim
end
end Go.FL
namespace Go.FL
open Go Go.RowKit
def rd (env:Env) (H:Ab) : AV→Option (List DV)
 | .d (.sl xs)=>some xs
 | .nl=>some []
 | .own _ xs=>some xs
 | .ref p off len=>match AB env H p with
  | .own _ xs=>some ((xs.drop off).take len)
  | _=>none
 | _=>none
def Reads (w:World) (v:Value) (m sz:Nat) (news:List Value) : Prop :=
 news.length=m * sz∧∃ A c,v=.slice A m c∧m≤c∧(0<m→∃ b off,A=some ⟨b,off,none⟩∧Has w b off news)
section
variable {P:Program} {C:Cx} {X:Snap} {o:Oper} {ops:Array Oper} {Q:Exit→Env→Ab→Prop} {env env':Env} {H H':Ab} {a:Act} {w w':World} {I I':Nat→Prop} {μ μ':List Nat} {O O':Nat→Option Loc}
 {K:Env→Ab→Prop}
theorem Reads.part {A:Option Addr} {c n:Nat} {sz:Nat} {news:List Value} (h:Reads w (.slice A n c) n sz news) {off len:Nat} (hl:off+len≤n) {u:Value} (hu:SubV sz A c off len u) :
  Reads w u len sz ((news.drop (off * sz)).take (len * sz)):=by
 obtain ⟨h1,A',c',h2,h3,h4⟩:=h
 simp only [Value.slice.injEq] at h2
 obtain ⟨rfl,_,rfl⟩:=h2
 obtain ⟨A',c',rfl,k1,k2,k3⟩:=hu
 have hlen:((news.drop (off * sz)).take (len * sz)).length=len * sz:=by
  rw [List.length_take,List.length_drop,h1,← Nat.sub_mul]
  exact Nat.min_eq_left (Nat.mul_le_mul_right _ (by omega))
 refine ⟨hlen,A',c',rfl,k1,fun h0=>?_⟩
 obtain ⟨b,o,rfl,hh⟩:=h4 (by omega)
 refine ⟨b,o+off * sz,?_,(hh.drop _).take _⟩
 rw [k3 h0];simp [CX]
theorem Rep.reads {xs:List DV} {v:Value} (h:Rep w I (.sl xs) v) {sz:Nat} (hsz:∀ x∈xs,x.cells.length=sz) : ∃ news,Reads w v xs.length sz news∧RepRows w I sz xs news:=by
 cases h with
 | sl0 A c=>exact ⟨[],⟨by simp,A,c,rfl,by simp,fun h=>absurd h (by simp)⟩,.nil _⟩
 | sl _ bk off sz' c vs hne hc hI hsz' hr hrow =>
  obtain ⟨x0,hx0⟩:∃ x,xs[0]?=some x:=by cases xs with|nil=>exact absurd rfl hne|cons x _=>exact ⟨x,rfl⟩
  have hs:sz'=sz:=by rw [← (hrow.get 0 x0 hx0).1];exact hsz x0 (List.mem_of_getElem? hx0)
  subst hs
  exact ⟨vs,⟨hrow.length,_,c,rfl,hc,fun _=>⟨bk,off,rfl,hr⟩⟩,hrow⟩
theorem ARep.reads {e:TypeId} {xs:List DV} {v:Value} {bs:List Nat} (h:ARep P w I μ (.own e xs) v bs) : ∃ news,Reads w v xs.length (Av P e) news∧RepRows w I (Av P e) xs news:=by
 obtain ⟨_,vs,hsz,ho,hr⟩:=h.own_inv
 rcases ho with ⟨A,rfl,h0,rfl⟩|⟨ho,g,cap,rfl,hc⟩
 ·have:xs=[]:=by cases xs<;>simp_all
  subst this
  exact ⟨[],⟨by simp,A,0,rfl,by simp,fun h=>absurd h (by simp)⟩,.nil _⟩
 ·have hc:xs.length≤cap:=by
   rcases ho.2 with ⟨h,_⟩|⟨g',cap',cur,h,_,_,hh,_⟩
   ·cases h
   ·simp only [Value.slice.injEq] at h;omega
  refine ⟨vs,⟨ho.1,_,cap,rfl,hc,fun _=>⟨g,0,rfl,fun j u hj=>?_⟩⟩,hr⟩
  have:=ho.cells (g:=g) rfl j u hj
  rwa [CX] at this
theorem RepRows.sizes {sz:Nat} {xs:List DV} {vs:List Value} (h:RepRows w I sz xs vs) : ∀ x∈xs,x.cells.length=sz:=fun x hx=>by
 obtain ⟨n,hn⟩:=List.getElem?_of_mem hx
 exact (h.get n x hn).1
theorem Reads.size {sz sz':Nat} {v:Value} {xs:List DV} {news:List Value} (hsz:∀ x∈xs,x.cells.length=sz) (h1:Reads w v xs.length sz' news) (h2:RepRows w I sz' xs news) : ∃ news,Reads w v xs.length sz news∧RepRows w I sz xs news:=by
 cases xs with
 | nil =>
  obtain ⟨k1,A,c,k2,k3,k4⟩:=h1
  exact ⟨[],⟨by simp,A,c,k2,k3,fun h=>absurd h (by simp)⟩,.nil _⟩
 | cons x xs =>
  have:sz'=sz:=by rw [← h2.sizes x (by simp)];exact hsz x (by simp)
  subst this
  exact ⟨news,h1,h2⟩
theorem ARep.rd {av:AV} {v:Value} {bs:List Nat} (hb:ARep P w I μ av v bs) {xs:List DV} (h:Go.FL.rd env H av=some xs) {sz:Nat} (hsz:∀ x∈xs,x.cells.length=sz) :
  ∃ news,Reads w v xs.length sz news∧RepRows w I sz xs news:=by
 cases hb with
 | @d d _ hd =>
  cases d with
  | sl ys =>
   simp only [Go.FL.rd,Option.some.injEq] at h
   subst h
   exact hd.reads hsz
  | _=>cases h
 | nl =>
  simp only [Go.FL.rd,Option.some.injEq] at h
  subst h
  exact ⟨[],⟨by simp,none,0,rfl,by simp,fun h=>absurd h (by simp)⟩,.nil _⟩
 | own e ys _ vs' g1 g2 g3 =>
  simp only [Go.FL.rd,Option.some.injEq] at h
  subst h
  obtain ⟨news,m1,m2⟩:=(ARep.own (P:=P) (μ:=μ) e ys v vs' g1 g2 g3).reads
  exact m1.size hsz m2
 | _=>cases h
theorem Sim.rd_t (hs:Sim P X env H a w I μ O) {t:Nat} {xs:List DV} (h:Go.FL.rd env H (get env t)=some xs) {sz:Nat} (hsz:∀ x∈xs,x.cells.length=sz) :
  ∃ news,Reads w (a.tmps.getD t undef) xs.length sz news∧RepRows w I sz xs news:=by
 have ht:=hs.envr t
 cases hg:get env t with
 | ref p off len =>
  rw [hg] at h ht
  simp only [Go.FL.rd] at h
  split at h
  ·rename_i e ys hp
   simp only [Option.some.injEq] at h
   subst h
   obtain ⟨e',ys',A,n,c,h1,h2,h3,h4⟩:=ht
   rw [hp] at h1;cases h1
   obtain ⟨v',bs,k1,k2,_⟩:=hs.at_place hp
   rw [h2] at k1;cases k1
   obtain ⟨news,m1,m2⟩:=k2.reads
   have hn:=(DX k2).1
   subst hn
   have m3:=m1.part h3 h4
   have hl:((ys.drop off).take len).length=len:=by simp;omega
   exact Reads.size hsz (by rw [hl];exact m3) ((m2.drop off).take len)
  ·cases h
 | ep p i k=>rw [hg] at h;cases h
 | _ =>
  rw [hg] at h ht
  obtain ⟨bs,k1,_⟩:=ht.plain rfl
  exact k1.rd h hsz
theorem Sim.rd (hs:Sim P X env H a w I μ O) {x:Operand} {xs:List DV} (h:Go.FL.rd env H (Go.FL.lk env x)=some xs) {sz:Nat} (hsz:∀ x∈xs,x.cells.length=sz) :
  ∃ news,Reads w (a.eval x) xs.length sz news∧RepRows w I sz xs news:=by
 have hne:Go.FL.lk env x≠.un:=fun e=>by rw [e] at h;simp [Go.FL.rd] at h
 obtain ⟨hf,hl⟩:=SW rfl hne
 cases hx:C5 x with
 | t n =>
  rw [hx] at hf hl
  have:=FH hf
  subst this
  rw [← hl] at h
  exact hs.rd_t h hsz
 | _ =>
  rw [hx] at hf hl
  rw [← hl] at h
  obtain ⟨bs,hb⟩:=hs.look hf (by rfl)
  exact hb.rd h hsz
theorem ZD {c:Call} {x:Operand} {ty t:Nat} {xs:List DV} (ho:o.op=.call c) (hc:c.callee=.builtin .len) (hx:c.args=#[x]) (hty:c.argTypes=#[ty]) (hu:P.underlying ty=some (.slice (P.elem ty)))
  (hd:o.dst=some t) (ht:okT C.nt t) (hv:rd env H (lk env x)=some xs) (hsz:∃ sz,∀ x∈xs,x.cells.length=sz) (hK:K (put env t (.d (.i .i64 xs.length))) H):OpOK P C o env H K :=
 .pure (by simp [ho]) hd ht (fun X a w I μ O _ hs=>by
  obtain ⟨sz,hsz⟩:=hsz
  obtain ⟨news,⟨_,A,cc,h2,_⟩,_⟩:=hs.rd hv hsz
  exact ⟨.int .i64 xs.length,by simp [execOp,ho,resolve,hc,hx,hty,invoke,builtin,h2,run_len_slice w ty o.type A xs.length cc hu,goInt],.of_rep (.i _ _)⟩) hK
theorem ZT {x:Operand} {s t i:Nat} {cs:List AV} (ho:o.op=.extract x i) (hx:AA x (.t s)=true) (hd:o.dst=some t) (ht:okT C.nt t) (hst:s≠t) (hv:get env s=.tup cs) (hi:i<cs.length)
  (hn:AI (cs.getD i .un)=false) (hK:K (put ((s,.tup (cs.set i .un))::env) t (cs.getD i .un)) H):OpOK P C o env H K:=by
 have hxe:=FH hx
 subst hxe
 refine .val (env':=(s,.tup (cs.set i .un))::env) (H':=H) (by simp [ho]) hd ht (fun X a w I μ O _ _ _ hs=>?_) hK
 have hr:=hs.envr s
 rw [hv] at hr
 obtain ⟨bs,h1,h2,h3⟩:=hr.plain rfl
 generalize hval:a.tmps.getD s undef=u at h1
 cases h1 with
 | @tup _ us _ h =>
  have hci:cs[i]?=some (cs.getD i .un):=by rw [List.getD_eq_getElem?_getD,List.getElem?_eq_getElem hi];rfl
  obtain ⟨v,b1,bk,b2,k1,k2,rfl,k4⟩:=h.at i _ hci
  have hnd:=List.nodup_append.1 h2
  have hnd2:=List.nodup_append.1 hnd.2.1
  let O1:Nat→Option Loc:=fun b=>if b∈bk then some .r else O b
  have hO1:∀ b l,O b=some l→l≠.t s→O1 b=some l:=fun b l hb hl=>by
   show (if b∈bk then _ else _)=_
   rw [if_neg fun hm=>hl (by have:=h3 b (by simp [hm]);rw [hb] at this;exact Option.some.inj this)];exact hb
  have hset:=k4 (w':=w) (I':=I) (μ':=μ) (fun _ h=>h) (fun _ _=>rfl) (fun _ _ h=>h) (fun _ _=>rfl) (ARep.un v)
  rw [List.set_same _ _ k1] at hset
  refine ⟨v,w,I,μ,O1,?_,⟨{hs.toMem with
   kO:=fun b hk=>by
    have:=hs.kO b hk
    show (if b∈bk then _ else _)=_
    rw [if_neg fun hm=>by rw [h3 b (by simp [hm])] at this;cases this];exact this
   own:=fun b l hl=>by
    by_cases hm:b∈bk
    ·exact hs.own b _ (h3 b (by simp [hm]))
    ·have:O b=some l:=by
      have hl':(if b∈bk then some Loc.r else O b)=some l:=hl
      rwa [if_neg hm] at hl'
     exact hs.own b l this
   heap:=fun id o' ho'=>by
    obtain ⟨blk,ds,j1,j2,j3,j4⟩:=hs.heap id o' ho'
    exact ⟨blk,ds,j1,j2,fun hn=>⟨(j3 hn).1,fun b hb=>hO1 b _ ((j3 hn).2 b hb) (by simp)⟩,j4⟩},fun r=>?_,hs.nt,hs.dfs⟩,bk,k2,hnd2.1,fun b hb=>by show (if b∈bk then _ else _)=_;rw [if_pos hb]⟩
  ·have he:a.eval (.tmp s)=.tuple us.toArray:=hval
   have:us.toArray[i]?=some v:=by simpa using k1
   simp only [execOp,ho,Instr.extract,he,this,Sem.run_bind,Sem.run_pure,Result.andThen_ok]
  ·by_cases hrs:s=r
   ·subst hrs
    have:get ((s,AV.tup (cs.set i .un))::env) s=.tup (cs.set i .un):=by simp [get]
    rw [this]
    refine .of (bs:=b1++([]++b2)) ?_ ?_ ?_
    ·rw [hval];exact .tup (by simpa using hset)
    ·rw [List.nil_append]
     refine List.nodup_append.2 ⟨hnd.1,hnd2.2.1,fun x hx y hy=>hnd.2.2 x hx y (by simp [hy])⟩
    ·intro b hb
     simp only [List.nil_append,List.mem_append] at hb
     have hin:b∈b1++(bk++b2):=by simp only [List.mem_append];rcases hb with hb|hb<;>simp [hb]
     have hnot:b∉bk:=fun hm=>by
      rcases hb with hb|hb
      ·exact hnd.2.2 b hb b (by simp [hm]) rfl
      ·exact hnd2.2.2 b hm b hb rfl
     show (if b∈bk then _ else _)=_
     rw [if_neg hnot];exact h3 b hin
   ·have hg:get ((s,AV.tup (cs.set i .un))::env) r=get env r:=by simp [get,hrs]
    have hpl:∀ p e xs,AB env H p=.own e xs→AB ((s,AV.tup (cs.set i .un))::env) H p=.own e xs:=by
     intro p e xs hx
     cases p with
     | t q =>
      show get _ q=_
      by_cases hq:s=q
      ·subst hq;rw [show AB env H (.t s)=get env s from rfl,hv] at hx;cases hx
      ·simp only [get,if_neg hq];exact hx
     | c id off=>exact hx
    rw [hg]
    have h:=hs.envr r
    cases hgr:get env r with
    | ref p off len =>
     rw [hgr] at h
     obtain ⟨e,xs,A,n,c,h1,h2,h3,h4⟩:=h
     exact ⟨e,xs,A,n,c,hpl p e xs h1,h2,h3,h4⟩
    | ep p i k =>
     rw [hgr] at h
     obtain ⟨e,xs,b,n,c,h1,h2,h3,h4,h5⟩:=h
     exact ⟨e,xs,b,n,c,hpl p e xs h1,h2,h3,h4,h5⟩
    | _ =>
     rw [hgr] at h
     obtain ⟨bs,h1,h2,h3'⟩:=h.plain rfl
     exact .of h1 h2 fun b hb=>hO1 b _ (h3' b hb) (by simp [Ne.symm hrs])
theorem ZJ {x:Operand} {src dst t:Nat} {k k':IntKind} {n:Int} (ho:o.op=.convert src dst x) (hd:o.dst=some t) (ht:okT C.nt t) (hs':∃ q,P.underlying src=some (.int q)) (hd':P.underlying dst=some (.int k')) (hv:lk env x=.d (.i k n))
  (hK:K (put env t (.d (.i k' (k'.wrap n)))) H):OpOK P C o env H K :=
 .pure (by simp [ho]) hd ht (fun X a w I μ O _ hs=>by
  have hr:=hs.deep (x:=x) (v:=.i k n) (by rw [hv];rfl)
  generalize hev:a.eval x=u at hr
  cases hr
  obtain ⟨q,hq⟩:=hs'
  exact ⟨.int k' (k'.wrap n),by simp [execOp,ho,hev,convert,run_underlying hq,run_underlying hd',Conv.intToInt],.of_rep (.i _ _)⟩) hK
end
end Go.FL
namespace Go.FL
open Go Go.RowKit
def Cb (P:Program) (t:TypeId) : Option (TypeId×Nat×Nat×Value) :=
 match P.underlying t with
 | some (.slice e)=>match P.info? e with
  | some i=>match i.zero with
   | some z=>if z.cells.size=i.size∧0<i.size then some (e,i.size,i.bytes,z) else none
   | none=>none
  | none=>none
 | _=>none
section
variable {P:Program} {C:Cx} {X:Snap} {o:Oper} {ops:Array Oper} {Q:Exit→Env→Ab→Prop} {env env':Env} {H H':Ab} {a:Act} {w w':World} {I I':Nat→Prop} {μ μ':List Nat} {O O':Nat→Option Loc}
 {K:Env→Ab→Prop}
theorem CL {t e sz by_:Nat} {z:Value} (h:Cb P t=some (e,sz,by_,z)) :
  ∃ i,P.underlying t=some (.slice e)∧P.info? e=some i∧i.zero=some z∧i.size=sz∧i.bytes=by_∧z.cells.size=sz∧0<sz∧Av P e=sz:=by
 unfold Cb at h
 split at h
 ·rename_i e' h1
  split at h
  ·rename_i i h2
   split at h
   ·rename_i z' h3
    split at h
    ·rename_i h4
     simp only [Option.some.injEq,Prod.mk.injEq] at h
     obtain ⟨rfl,rfl,rfl,rfl⟩:=h
     exact ⟨i,h1,h2,h3,rfl,rfl,h4.1,h4.2,by simp [Av,Program.cellsOf,h2]⟩
    ·cases h
   ·cases h
  ·cases h
 ·cases h
theorem LU {t ty e sz by_:Nat} {z:Value} (ht:Cb P t=some (e,sz,by_,z)) {A B:Option Addr} {n cap c:Nat} (hn:n≤cap) :
  (Builtin.append_ #[t,t] ty #[.slice A n cap,.slice B 0 c]).run P w=.ok (.slice A n cap) w:=by
 obtain ⟨i,h1,h2,h3,h4,h5,h6,h7,h8⟩:=CL ht
 cases A<;>cases B<;>simp [Builtin.append_,run_underlying h1,sizeOf,typeInfo,h2,Builtin.lenOf,Builtin.firstCells,loadCells,loadCellsFrom,storeCells,hn]
theorem Xs {t ty e sz by_:Nat} {z:Value} (ht:Cb P t=some (e,sz,by_,z)) {v:Value} {n:Nat} {xs:List Value} (hv:OwnR w e sz v n xs) {u:Value} {m:Nat} {news:List Value} (hu:Reads w u m sz news)
  (h1:∀ x∈news,x.oneCell'=true) (h63:n+m≤maxLen) (hby:(n+m) * by_≤140737488355328) :
  ∃ v' w' row,(Builtin.append_ #[t,t] ty #[v,u]).run P w=.ok v' w'∧OwnR w' e sz v' (n+m) (xs++news)∧w.grownBy w' row∧(∀ b,row=some b→b∈Bv v)∧∀ b∈Bv v',b∈Bv v∨w.heap.size≤b:=by
 obtain ⟨i,i1,i2,i3,i4,i5,i6,i7,i8⟩:=CL ht
 obtain ⟨hl,A,c,rfl,hmc,hr⟩:=hu
 by_cases hm:m=0
 ·subst hm
  have:news=[]:=by simpa using hl
  subst this
  have hv':∃ A n' cap,v=.slice A n' cap∧n'≤cap:=by
   rcases hv with ⟨A,rfl,_⟩|⟨hv,g,cap,rfl,_⟩
   ·exact ⟨A,0,0,rfl,Nat.le_refl _⟩
   ·refine ⟨_,n,cap,rfl,?_⟩
    rcases hv.2 with ⟨h,_⟩|⟨g',cap',cur,h,_,_,hh,_⟩
    ·cases h
    ·simp only [Value.slice.injEq] at h;omega
  obtain ⟨A',n',cap,rfl,hn⟩:=hv'
  exact ⟨_,w,none,LU ht hn,by simpa using hv,⟨rfl,rfl,rfl,Nat.le_refl _,fun _ _ _=>rfl⟩,fun b h=>(by cases h),fun b hb=>.inl hb⟩
 ·obtain ⟨b,off,rfl,hh⟩:=hr (by omega)
  have hh':∀ j u,news[j]?=some u→w.cell? ((⟨b,off,none⟩:Addr).add j)=some u:=fun j u hj=>by rw [CX];exact hh j u hj
  rcases hv with ⟨A,rfl,rfl,rfl⟩|⟨hv,g,cap,rfl,hc⟩
  ·cases A with
   | none =>
    obtain ⟨v',w',q1,q2,q3,_,q5⟩:=run_append_own_at w 0 t ty e i z sz by_ i1 i2 i3 i4 i5 i6 i7 (.slice none 0 0) 0 [] ⟨by simp,.inl ⟨rfl,rfl⟩⟩ ⟨b,off,none⟩ m c news hl hh' h1 h63 hby (Nat.zero_le _)
    refine ⟨v',w',_,q1,.of q2,q3,fun b hb=>(by cases hb),fun b hb=>.inr ?_⟩
    have:v'.ownBlock=some b:=by
     unfold Bv at hb
     split at hb
     ·split at hb
      ·simp at hb
      ·simp at hb;simp [Value.ownBlock,hb]
     ·simp at hb
    rcases q5 with q5|q5
    ·rw [this] at q5;cases q5
    ·rw [this] at q5;cases q5;exact Nat.le_refl _
   | some a0 =>
    obtain ⟨v',w',q1,q2,q3⟩:=run_append_arg_grows w t ty e i z sz by_ i1 i2 i3 i4 i5 i6 i7 a0 0 0 [] (by simp) (by simp) ⟨b,off,none⟩ m c news hl hh' (by omega) h63 hby
    refine ⟨v',w',_,q1,.of ⟨q2.1,?_⟩,q3,fun b hb=>(by cases hb),fun b hb=>.inr ?_⟩
    ·rcases q2.2 with h|⟨g,cap,cur,k1,k2,k3⟩
     ·exact .inl h
     ·exact .inr ⟨g,cap,cur,k1,Nat.zero_le _,k3⟩
    ·rcases q2.2 with ⟨rfl,_⟩|⟨g,cap,cur,rfl,k2,k3⟩
     ·simp [Bv] at hb
     ·simp only [Bv] at hb
      split at hb<;>simp at hb
      subst hb;exact k2
  ·obtain ⟨v',w',q1,q2,q3,_,q5⟩:=run_append_own_at w 0 t ty e i z sz by_ i1 i2 i3 i4 i5 i6 i7 _ n xs hv ⟨b,off,none⟩ m c news hl hh' h1 h63 hby (Nat.zero_le _)
   have hc':¬cap=0:=by omega
   refine ⟨v',w',_,q1,.of q2,q3,fun b hb=>(by simp only [Value.ownBlock,Option.some.injEq] at hb;subst hb;simp [Bv,hc']),fun b hb=>?_⟩
   have:v'.ownBlock=some b:=by
    unfold Bv at hb
    split at hb
    ·split at hb
     ·simp at hb
     ·simp at hb;simp [Value.ownBlock,hb]
    ·simp at hb
   rcases q5 with q5|q5
   ·rw [this] at q5
    simp only [Value.ownBlock,Option.some.injEq] at q5
    subst q5;exact .inl (by simp [Bv,hc'])
   ·rw [this] at q5;cases q5;exact .inr (Nat.le_refl _)
theorem OwnR.lt {v:Value} {e:TypeId} {sz n:Nat} {vs:List Value} (h:OwnR w e sz v n vs) : ∀ b∈Bv v,b<w.heap.size:=fun b hb=>by
 rcases h with ⟨A,rfl,_⟩|⟨h,g,cap,rfl,hc⟩
 ·cases A<;>simp [Bv] at hb
 ·simp only [Bv] at hb
  split at hb<;>simp at hb
  subst hb
  rcases h.2 with ⟨h,_⟩|⟨g',cap',cur,h,_,hg,_⟩
  ·cases h
  ·simp only [Value.slice.injEq,Option.some.injEq,Addr.mk.injEq] at h
   obtain ⟨⟨rfl,_⟩,_⟩:=h
   exact (Array.getElem?_eq_some_iff.1 hg).1
theorem GD (v:Value) : (Bv v).Nodup:=by
 unfold Bv;split
 ·split<;>simp
 ·simp
theorem Sim.appended (hs:Sim P X env H a w I μ O) {t ty e sz by_:Nat} {z:Value} (ht:Cb P t=some (e,sz,by_,z)) {xs ys:List DV} {v u:Value} (hh:Hand P w I μ O (.own e xs) v) {news:List Value} (hu:Reads w u ys.length sz news)
  (hy:RepRows w I sz ys news) (h63:xs.length+ys.length≤maxLen) (hby:(xs.length+ys.length) * by_≤140737488355328) :
  ∃ v' w' O',(Builtin.append_ #[t,t] ty #[v,u]).run P w=.ok v' w'∧Sim P X env H a w' I μ O'∧Hand P w' I μ O' (.own e (xs++ys)) v':=by
 obtain ⟨i,i1,i2,i3,i4,i5,i6,i7,i8⟩:=CL ht
 obtain ⟨bs,k1,k2,k3⟩:=hh
 obtain ⟨rfl,vs,hsz,ho,hr⟩:=k1.own_inv
 rw [i8] at ho hr
 obtain ⟨v',w',row,q1,q2,q3,q4,q5⟩:=Xs (ty:=ty) ht ho hu hy.oneCell h63 hby
 have h2:=hs.grownR q3 fun b hb=>k3 b (q4 b hb)
 have hII:∀ b,I b→w'.heap[b]?=w.heap[b]?:=fun b hi=>q3.block b (hs.ilt b hi) fun e=>by
  have:=k3 b (q4 b e.symm)
  exact (hs.own b _ this).2 hi
 have h3:=h2.newR (Bv v') fun b hb=>by
  refine ⟨q2.lt b hb,?_,?_,?_⟩
  ·rcases q5 b hb with h|h
   ·exact .inr (k3 b h)
   ·refine .inl ?_
    cases hO:O b with
    | none=>rfl
    | some l=>have:=(hs.own b l hO).1;omega
  ·intro hi
   rcases q5 b hb with h|h
   ·exact (hs.own b _ (k3 b h)).2 hi
   ·have:=hs.ilt b hi;omega
  ·intro hk
   rcases q5 b hb with h|h
   ·have:=hs.kO b hk;rw [k3 b h] at this;cases this
   ·have:=hs.klt b hk;have:=hs.size;omega
 refine ⟨v',w',_,q1,h3,Bv v',?_,GD _,fun b hb=>by simp [hb]⟩
 refine .own e (xs++ys) v' (vs++news) hsz (by rw [i8,List.length_append];exact q2) ?_
 rw [i8]
 exact (hr.keep hII fun _ h=>h).append (hy.keep hII fun _ h=>h)
theorem IM {c:Call} {x y:Operand} {ty:Nat} (ho:o.op=.call c) (hc:c.callee=.builtin .append) (hx:c.args=#[x,y]) (hty:c.argTypes=#[ty,ty]) {v':Value} (h:(Builtin.append_ #[ty,ty] o.type #[a.eval x,a.eval y]).run P w=.ok v' w') :
  (execOp a.eval o).run P w=.ok (.value v') w':=by
 simp only [execOp,ho,resolve,hc,hx,hty,invoke,builtin,List.map_toArray,List.map_cons,List.map_nil,Sem.run_bind,Sem.run_pure,Result.andThen_ok,h]
theorem RY {c:Call} {x y:Operand} {r ty t e sz by_:Nat} {z:Value} {xs ys:List DV} (ho:o.op=.call c) (hc:c.callee=.builtin .append) (hx:c.args=#[x,y]) (hty:c.argTypes=#[ty,ty]) (hd:o.dst=some t) (ht:okT C.nt t)
  (hfx:AA x (.t r)=true) (hT:Cb P ty=some (e,sz,by_,z)) (hv:get env r=.own e xs) (hy:rd env H (lk env y)=some ys) (hsz:∀ x∈ys,x.cells.length=sz) (h63:xs.length+ys.length≤maxLen) (hby:(xs.length+ys.length) * by_≤140737488355328)
  (hK:K (put (put env r .un) t (.own e (xs++ys))) H):OpOK P C o env H K :=
 .val (by simp [ho]) hd ht (fun X a w I μ O _ _ _ hs=>by
  have:=FH hfx
  subst this
  obtain ⟨news,r1,r2⟩:=hs.rd hy hsz
  obtain ⟨k1,k2⟩:=hs.take r (by rw [hv];rfl)
  rw [hv] at k2
  obtain ⟨v',w',O',q1,q2,q3⟩:=k1.appended (ty:=o.type) hT k2 r1 r2 h63 hby
  exact ⟨v',w',I,μ,O',IM ho hc hx hty q1,q2,q3⟩) hK
theorem RP {c:Call} {x y:Operand} {r s ty t e sz by_ len:Nat} {z:Value} {xs ys:List DV} (ho:o.op=.call c) (hc:c.callee=.builtin .append) (hx:c.args=#[x,y]) (hty:c.argTypes=#[ty,ty]) (hd:o.dst=some t) (ht:okT C.nt t)
  (hfx:AA x (.t r)=true) (hT:Cb P ty=some (e,sz,by_,z)) (hv:get env r=.ref (.t s) 0 len) (hp:get env s=.own e xs) (hy:rd env H (lk env y)=some ys) (hsz:∀ x∈ys,x.cells.length=sz) (h63:len+ys.length≤maxLen) (hby:(len+ys.length) * by_≤140737488355328)
  (hK:K (put (put env s .un) t (.own e (xs.take len++ys))) H):OpOK P C o env H K :=
 .val (by simp [ho]) hd ht (fun X a w I μ O _ _ _ hs=>by
  have:=FH hfx
  subst this
  obtain ⟨news,r1,r2⟩:=hs.rd hy hsz
  have hrs:=hs.envr r
  rw [hv] at hrs
  obtain ⟨e',ys',A,n,cc,g1,g2,g3,g4⟩:=hrs
  have:AV.own e xs=.own e' ys':=hp.symm.trans g1
  cases this
  obtain ⟨k1,k2⟩:=hs.take s (by rw [hp];rfl)
  rw [hp] at k2
  simp only [AR,Option.some.injEq] at g2
  rw [g2] at k2
  obtain ⟨A',c',q1,q2,q3,q4⟩:=g4
  obtain ⟨rfl,rfl⟩:=q3 rfl
  have hl:(xs.take len).length=len:=by simp;omega
  obtain ⟨v',w',O',p1,p2,p3⟩:=k1.appended (ty:=o.type) hT (k2.prefix_ (m:=len) (by omega)) r1 r2 (by rw [hl];exact h63) (by rw [hl];exact hby)
  refine ⟨v',w',I,μ,O',IM ho hc hx hty ?_,p2,p3⟩
  rw [show a.eval (.tmp r)=_ from q1];exact p1) hK
theorem Q9 {c:Call} {x y:Operand} {r id off ty t e sz by_ len:Nat} {z:Value} {cs:List AV} {xs ys:List DV} (ho:o.op=.call c) (hc:c.callee=.builtin .append) (hx:c.args=#[x,y]) (hty:c.argTypes=#[ty,ty]) (hd:o.dst=some t) (ht:okT C.nt t)
  (hfx:AA x (.t r)=true) (hT:Cb P ty=some (e,sz,by_,z)) (hv:get env r=.ref (.c id off) 0 len) (hH:H[id]?=some (.box cs)) (hcs:cs[off]?=some (.own e xs)) (hn:C.n0≤id)
  (hy:rd env H (lk env y)=some ys) (hsz:∀ x∈ys,x.cells.length=sz) (h63:len+ys.length≤maxLen) (hby:(len+ys.length) * by_≤140737488355328)
  (hK:K (put (G8 (.c id off) env) t (.own e (xs.take len++ys))) (Da H id off .un)):OpOK P C o env H K :=
 .val (by simp [ho]) hd ht (fun X a w I μ O _ g5 _ hs=>by
  have:=FH hfx
  subst this
  obtain ⟨news,r1,r2⟩:=hs.rd hy hsz
  have hrs:=hs.envr r
  rw [hv] at hrs
  obtain ⟨e',ys',A,n,cc,g1,g2,g3,g4⟩:=hrs
  have hpp:AB env H (.c id off)=.own e xs:=by rw [G9 hH,List.getD_eq_getElem?_getD,hcs];rfl
  rw [hpp] at g1
  cases g1
  obtain ⟨blk,hbm⟩:∃ blk,μ[id]?=some blk:=by
   obtain ⟨blk,_,h,_⟩:=hs.heap id _ hH
   exact ⟨blk,h⟩
  obtain ⟨v,bk,O1,m1,m2,m3,m4,m5,m6⟩:=hs.takeC hH hcs hbm (by rw [g5];exact hn)
  have hvv:v=.slice A n cc:=by
   simp only [AR,hbm,Option.bind_some] at g2
   rw [m1] at g2;exact Option.some.inj g2
  subst hvv
  obtain ⟨A',c',q1,q2,q3,q4⟩:=g4
  obtain ⟨rfl,rfl⟩:=q3 rfl
  have hl:(xs.take len).length=len:=by simp;omega
  have k2:Hand P w I μ O1 (.own e xs) (.slice A' n c'):=⟨bk,m3,m4,m5⟩
  obtain ⟨v',w',O',p1,p2,p3⟩:=m6.appended (ty:=o.type) hT (k2.prefix_ (m:=len) (by omega)) r1 r2 (by rw [hl];exact h63) (by rw [hl];exact hby)
  refine ⟨v',w',I,μ,O',IM ho hc hx hty ?_,by simpa [EP,Aj] using p2,p3⟩
  rw [show a.eval (.tmp r)=_ from q1];exact p1) hK
def Si : Value→DV
 | .int k n=>.i k n
 | .bool b=>.b b
 | .string s=>.s s
 | .slice none 0 0=>.sl []
 | .nilFunc=>.nf
 | .pointer none=>.np
 | .nilIface=>.ni
 | _=>.np
def zok : Value→Bool
 | .int _ _=>true
 | .bool _=>true
 | .string _=>true
 | .slice none 0 0=>true
 | .nilFunc=>true
 | .pointer none=>true
 | .nilIface=>true
 | _=>false
theorem UN {z:Value} (h:zok z=true) : Rep w I (Si z) z∧z.oneCell'=true∧(Si z).leaf=true∧z.cells=#[z]:=by
 unfold zok at h
 split at h<;>first|(cases h;done)|skip
 ·exact ⟨.i _ _,rfl,rfl,rfl⟩
 ·exact ⟨.b _,rfl,rfl,rfl⟩
 ·exact ⟨.s _,rfl,rfl,rfl⟩
 ·exact ⟨.sl0 _ _,rfl,rfl,rfl⟩
 ·exact ⟨.nf,rfl,rfl,rfl⟩
 ·exact ⟨.np,rfl,rfl,rfl⟩
 ·exact ⟨.ni,rfl,rfl,rfl⟩
theorem IN {d:DV} {v:Value} (h:Rep w I d v) (h1:v.oneCell'=true) (hl:d.leaf=true) : ∀ n,RepRows w I 1 (List.replicate n d) (List.replicate n v)
 | 0=>.nil _
 | n+1=>by
  have:=RepRows.cons (sz:=1) (x:=d) (us:=[v]) rfl (by simpa using h1) (by rw [DV.leaf_cells hl];exact .cons h .nil) (IN h h1 hl n)
  simpa [List.replicate_succ] using this
theorem W9 {l c:Operand} {ty t e by_:Nat} {z:Value} {k k':IntKind} {n:Nat} (ho:o.op=.makeSlice ty l c) (hd:o.dst=some t) (ht:okT C.nt t) (hT:Cb P ty=some (e,1,by_,z)) (hz:zok z=true)
  (hl:lk env l=.d (.i k n)) (hc:lk env c=.d (.i k' n)) (hby:by_ * n≤281474976710656) (h63:n≤maxLen)
  (hK:K (put env t (.own e (List.replicate n (Si z)))) H):OpOK P C o env H K :=
 .val (by simp [ho]) hd ht (fun X a w I μ O _ _ _ hs=>by
  obtain ⟨i,i1,i2,i3,i4,i5,i6,i7,i8⟩:=CL hT
  have e1:a.eval l=.int k n:=by
   have hr:=hs.deep (x:=l) (v:=.i k n) (by rw [hl];rfl)
   generalize a.eval l=u at hr
   cases hr;rfl
  have e2:a.eval c=.int k' n:=by
   have hr:=hs.deep (x:=c) (v:=.i k' n) (by rw [hc];rfl)
   generalize a.eval c=u at hr
   cases hr;rfl
  obtain ⟨w',q1,q2,q3⟩:=run_make_full w 0 ty e i z 1 i1 i2 i3 i4 k k' n (by rw [i5];exact hby) h63 (Nat.zero_le _)
  obtain ⟨z1,z2,z3,z4⟩:=UN (w:=w') (I:=I) hz
  have hcells:(madeCells z.cells (n * 1)).toList=List.replicate n z:=by
   rw [z4]
   apply List.ext_getElem
   ·simp [madeCells]
   ·intro j h1 h2
    simp [madeCells,Nat.mod_one]
  rw [hcells] at q2
  have h2:=hs.grownR q3 fun b hb=>(by cases hb)
  have hO:∀ b,w.heap.size≤b→O b=none:=fun b hb=>by
   cases hx:O b with
   | none=>rfl
   | some l=>have:=(hs.own b l hx).1;omega
  have h3:=h2.newR (Bv (.slice (some ⟨w.heap.size,0,none⟩) n n)) fun b hb=>by
   have hlt:=(OwnR.of q2).lt b hb
   have:b=w.heap.size:=by
    simp only [Bv] at hb
    split at hb<;>simp at hb
    exact hb
   subst this
   exact ⟨hlt,.inl (hO _ (Nat.le_refl _)),fun hi=>by have:=hs.ilt _ hi;omega,fun hk=>by have:=hs.klt _ hk;have:=hs.size;omega⟩
  refine ⟨.slice (some ⟨w.heap.size,0,none⟩) n n,w',I,μ,_,?_,h3,Bv (.slice (some ⟨w.heap.size,0,none⟩) n n),?_,GD _,fun b hb=>by simp [hb]⟩
  ·simp only [execOp,ho,e1,e2,q1,Sem.run_bind,Result.andThen_ok,Sem.run_pure]
  ·exact .own e _ _ (List.replicate n z) (by omega) (by rw [List.length_replicate,i8];exact .of q2) (by rw [i8];exact IN z1 z2 z3 n)) hK
def Im (k:Nat) : List (Nat×Operand)→Option (List Operand)
 | []=>some []
 | (i,x)::r=>if i=k then (Im (k+1) r).map (x::·) else none
def DV.flat (d:DV) : Bool:=d.cells.all DV.leaf&&(match d with | .tup _=>false | _=>true)
theorem Rep.vcells {d:DV} {v:Value} (h:Rep w I d v) (hf:d.flat=true) : RepAll w I d.cells v.cells.toList∧∀ u∈v.cells.toList,u.oneCell'=true:=by
 cases h with
 | ag cs vs h =>
  have:cs.all DV.leaf=true:=by simpa [DV.flat,DV.cells] using hf
  exact ⟨h,fun u hu=>h.one this u hu⟩
 | tup=>simp [DV.flat] at hf
 | _=>exact ⟨.cons (by first|exact .b _|exact .i _ _|exact .s _|exact .sl0 _ _|(constructor<;>assumption)|exact .nf|exact .np|exact .ni) .nil,by simp [Value.cells,Value.oneCell']⟩
end
end Go.FL
namespace Go.FL
open Go Go.RowKit
theorem Uu (cs:List Value) : ∀ (j off:Nat) (cells:Array Value),off+j+cs.length≤cells.size →
  (cs.zipIdx j).foldl (fun acc (x:Value×Nat)=>acc.setIfInBounds (off+x.2) x.1) cells=(cells.toList.take (off+j)++cs++cells.toList.drop (off+j+cs.length)).toArray:=by
 induction cs with
 | nil=>intro j off cells h;simp
 | cons c cs ih =>
  intro j off cells h
  simp only [List.length_cons] at h
  simp only [List.zipIdx_cons,List.foldl_cons,List.length_cons]
  rw [ih (j+1) off _ (by simp;omega)]
  congr 1
  have hlt:off+j<cells.toList.length:=by simp;omega
  have e1:(cells.setIfInBounds (off+j) c).toList=cells.toList.set (off+j) c:=by simp
  rw [e1]
  have e2:(cells.toList.set (off+j) c).take (off+(j+1))=cells.toList.take (off+j)++[c]:=by
   rw [← Nat.add_assoc,List.take_add_one,List.take_set]
   rw [List.getElem?_set_self hlt,List.set_eq_of_length_le (by rw [List.length_take];exact Nat.min_le_left _ _)];rfl
  have e3:(cells.toList.set (off+j) c).drop (off+(j+1)+cs.length)=cells.toList.drop (off+j+(cs.length+1)):=by
   rw [List.drop_set_of_lt (by omega)];congr 1;omega
  rw [e2,e3];simp
theorem UG (sz:Nat) : ∀ (vs:List Value) (k:Nat) (cells:Array Value),(∀ v∈vs,v.cells.size=sz)→cells.size=(k+vs.length) * sz →
  Instr.fill (fun i=>some (i * sz,sz)) cells ((vs.zipIdx k).map fun x=>(x.2,x.1))=some (cells.toList.take (k * sz)++vs.flatMap (·.cells.toList)).toArray:=by
 intro vs
 induction vs with
 | nil =>
  intro k cells _ h
  simp only [List.zipIdx_nil,List.map_nil,Instr.fill,List.flatMap_nil,List.append_nil]
  rw [List.take_of_length_le (by simp [h])]
 | cons v vs ih =>
  intro k cells hv h
  have hsv:v.cells.size=sz:=hv v (by simp)
  have hle:k * sz+sz≤cells.size:=by
   rw [h,← Nat.succ_mul];exact Nat.mul_le_mul_right _ (by simp)
  simp only [List.zipIdx_cons,List.map_cons,Instr.fill,hsv]
  rw [if_neg (by simp;omega)]
  have hf:=Uu v.cells.toList 0 (k * sz) cells (by simp [hsv];omega)
  have e:Array.foldl (fun (cs:Array Value) (x:Value×Nat)=>match x with|(c,j)=>cs.setIfInBounds (k * sz+j) c) cells v.cells.zipIdx =
    ((v.cells.toList.zipIdx 0).foldl (fun acc (x:Value×Nat)=>acc.setIfInBounds (k * sz+x.2) x.1) cells):=by
   rw [← Array.foldl_toList,Array.toList_zipIdx]
  rw [e,hf]
  rw [ih (k+1) _ (fun v hv'=>hv v (by simp [hv'])) (by
   simp only [List.length_cons] at h
   have e1:(k+(vs.length+1)) * sz=k * sz+vs.length * sz+sz:=by rw [Nat.add_mul,Nat.add_mul,Nat.one_mul];omega
   have e2:(k+1+vs.length) * sz=k * sz+vs.length * sz+sz:=by rw [Nat.add_mul,Nat.add_mul,Nat.one_mul];omega
   rw [e1] at h
   simp [hsv,h,e2]
   omega)]
  congr 1
  simp only [List.flatMap_cons]
  congr 1
  rw [← List.append_assoc]
  congr 1
  have hl:(cells.toList.take (k * sz)++v.cells.toList).length=(k+1) * sz:=by
   simp [hsv,Nat.succ_mul];omega
  simp only [Nat.add_zero]
  rw [← hl,List.take_left]
section
variable {P:Program} {C:Cx} {X:Snap} {o:Oper} {ops:Array Oper} {Q:Exit→Env→Ab→Prop} {env env':Env} {H H':Ab} {a:Act} {w w':World} {I I':Nat→Prop} {μ μ':List Nat} {O O':Nat→Option Loc}
 {K:Env→Ab→Prop}
theorem LJ : ∀ {ps:List (Nat×Operand)} {k:Nat} {xs:List Operand},Im k ps=some xs→ps=(xs.zipIdx k).map fun x=>(x.2,x.1):=by
 intro ps
 induction ps with
 | nil=>intro k xs h;simp [Im] at h;subst h;rfl
 | cons p ps ih =>
  intro k xs h
  obtain ⟨i,x⟩:=p
  simp only [Im] at h
  split at h
  ·rename_i hi
   simp only [Option.map_eq_some_iff] at h
   obtain ⟨ys,h1,rfl⟩:=h
   subst hi
   rw [ih h1];rfl
  ·cases h
theorem S9 {sz:Nat} : ∀ {ds:List DV} {vs:List Value},RepAll w I ds vs→(∀ d∈ds,d.flat=true∧d.cells.length=sz) →
  RepRows w I sz ds (vs.flatMap (·.cells.toList))∧∀ v∈vs,v.cells.size=sz:=by
 intro ds
 induction ds with
 | nil=>intro vs h _;cases h;exact ⟨.nil _,by simp⟩
 | cons d ds ih =>
  intro vs h hd
  cases h with
  | @cons _ v _ vs h t =>
   obtain ⟨h1,h2⟩:=hd d (by simp)
   obtain ⟨k1,k2⟩:=h.vcells h1
   obtain ⟨m1,m2⟩:=ih t fun x hx=>hd x (by simp [hx])
   have hl:v.cells.toList.length=sz:=by rw [← k1.length];exact h2
   refine ⟨?_,fun u hu=>?_⟩
   ·simp only [List.flatMap_cons]
    exact .cons hl k2 k1 m1
   ·rcases List.mem_cons.1 hu with rfl|hu
    ·simpa using hl
    ·exact m2 u hu
theorem FC {t e sz by_:Nat} {z:Value} (hT:Cb P t=some (e,sz,by_,z)) {vs:List Value} (hsmall:vs.length * sz≤16777216) (hv:∀ v∈vs,v.cells.size=sz) :
  (Instr.buildSlice t vs.length ((vs.zipIdx 0).map fun x=>(x.2,x.1)).toArray).run P w=.ok (.slice (some ⟨w.heap.size,0,none⟩) vs.length vs.length) (w.alloc (.cells (vs.flatMap (·.cells.toList)).toArray e)):=by
 obtain ⟨i,i1,i2,i3,i4,i5,i6,i7,i8⟩:=CL hT
 by_cases h0:vs.length=0
 ·have:vs=[]:=by cases vs<;>simp_all
  subst this
  simp [Instr.buildSlice,run_underlying i1,sizeOf,typeInfo,i2,newRow,Instr.fill]
  rw [show Array.map (fun _=>(default:Value)) (Array.range 0)=#[] from Array.ext (by simp) (by simp)]
 ·have hf:=UG sz vs 0 ((Array.range (vs.length * i.size)).map (z.cells[· % z.cells.size]!)) hv (by simp [i4])
  refine run_buildSlice w t e vs.length _ _ i z i1 i2 i3 (by rw [i4];omega) (by rw [i4];exact Nat.mul_ne_zero h0 (by omega)) ?_
  rw [i4] at hf ⊢
  simpa using hf
theorem YV {ty t e sz by_ len:Nat} {z:Value} {parts:Array (Nat×Operand)} {xs:List Operand} {ds:List DV} (ho:o.op=.buildSlice ty len parts) (hd:o.dst=some t) (ht:okT C.nt t) (hT:Cb P ty=some (e,sz,by_,z))
  (hp:Im 0 parts.toList=some xs) (hlen:xs.length=len) (ha:argsD env xs=some ds) (hsz:∀ d∈ds,d.flat=true∧d.cells.length=sz) (hsmall:len * sz≤16777216)
  (hK:K (put env t (.own e ds)) H):OpOK P C o env H K :=
 .val (by simp [ho]) hd ht (fun X a w I μ O _ _ _ hs=>by
  obtain ⟨i,i1,i2,i3,i4,i5,i6,i7,i8⟩:=CL hT
  have hr:=hs.argsD ha
  obtain ⟨k1,k2⟩:=S9 hr hsz
  have hdl:ds.length=len:=by rw [hr.length];simpa using hlen
  have hm:ds.length≤maxLen:=by
   rw [hdl]
   have:len≤16777216:=Nat.le_trans (Nat.le_mul_of_pos_right _ i7) hsmall
   simp only [maxLen];omega
  obtain ⟨O',q1,q2⟩:=hs.newOwn (e:=e) ds _ (by omega) hm (by rw [i8];exact k1)
  refine ⟨.slice (some ⟨w.heap.size,0,none⟩) ds.length ds.length,_,I,μ,O',?_,q1,q2⟩
  have hl:(xs.map a.eval).length=len:=by simpa using hlen
  have:=FC (P:=P) (w:=w) hT (vs:=xs.map a.eval) (by rw [hl];exact hsmall) k2
  have hparts:parts.map (fun (x:Nat×Operand)=>(x.1,a.eval x.2))=(((xs.map a.eval).zipIdx 0).map fun x=>(x.2,x.1)).toArray:=by
   apply Array.ext'
   rw [Array.toList_map,LJ hp]
   simp [List.zipIdx_map]
  simp only [execOp,ho,Sem.run_bind]
  rw [show (parts.map fun x=>match x with|(i,x)=>(i,a.eval x))=parts.map (fun (x:Nat×Operand)=>(x.1,a.eval x.2)) from rfl,hparts,hdl,← hl,this]
  simp only [Result.andThen_ok,Sem.run_pure]) hK
theorem YT {c:Call} {x y:Operand} {t:Nat} {k k':IntKind} {m n:Int} (ho:o.op=.call c) (hc:c.callee=.builtin .min) (hx:c.args=#[x,y]) (hd:o.dst=some t) (ht:okT C.nt t)
  (hxv:lk env x=.d (.i k m)) (hyv:lk env y=.d (.i k' n)) (hK:K (put env t (.d (.i k (if n<m then n else m)))) H):OpOK P C o env H K :=
 .pure (by simp [ho]) hd ht (fun X a w I μ O _ hs=>by
  have e1:a.eval x=.int k m:=by
   have hr:=hs.deep (x:=x) (v:=.i k m) (by rw [hxv];rfl)
   generalize a.eval x=u at hr
   cases hr;rfl
  have e2:a.eval y=.int k' n:=by
   have hr:=hs.deep (x:=y) (v:=.i k' n) (by rw [hyv];rfl)
   generalize a.eval y=u at hr
   cases hr;rfl
  refine ⟨.int k (if n<m then n else m),?_,.of_rep (.i _ _)⟩
  simp [execOp,ho,resolve,hc,hx,invoke,builtin,e1,e2,Builtin.min_,Builtin.min2]) hK
theorem Zx {c:Call} {x y:Operand} {t:Nat} {k k':IntKind} {m n:Int} (ho:o.op=.call c) (hc:c.callee=.builtin .max) (hx:c.args=#[x,y]) (hd:o.dst=some t) (ht:okT C.nt t)
  (hxv:lk env x=.d (.i k m)) (hyv:lk env y=.d (.i k' n)) (hK:K (put env t (.d (.i k (if m<n then n else m)))) H):OpOK P C o env H K :=
 .pure (by simp [ho]) hd ht (fun X a w I μ O _ hs=>by
  have e1:a.eval x=.int k m:=by
   have hr:=hs.deep (x:=x) (v:=.i k m) (by rw [hxv];rfl)
   generalize a.eval x=u at hr
   cases hr;rfl
  have e2:a.eval y=.int k' n:=by
   have hr:=hs.deep (x:=y) (v:=.i k' n) (by rw [hyv];rfl)
   generalize a.eval y=u at hr
   cases hr;rfl
  refine ⟨.int k (if m<n then n else m),?_,.of_rep (.i _ _)⟩
  simp [execOp,ho,resolve,hc,hx,invoke,builtin,e1,e2,Builtin.max_,Builtin.max2,gt_iff_lt]) hK
theorem X6 {op:BinOp} {xt yt e:TypeId} {x y:Operand} {t:Nat} {xs:List DV} (ho:o.op=.binOp op xt x y yt) (hop:op=.eql∨op=.neq) (hu:P.underlying xt=some (.slice e)) (hd:o.dst=some t) (ht:okT C.nt t)
  (hx:rd env H (lk env x)=some xs) (hsz:∃ sz,∀ x∈xs,x.cells.length=sz) (hy:lk env y=.nl) (hK:∀ b,(xs≠[]→b=false)→K (put env t (.d (.b (if op=.eql then b else !b)))) H):OpOK P C o env H K:=by
 intro X a w I μ O next Q h1 h2 h3 hs hn
 obtain ⟨sz,hsz⟩:=hsz
 obtain ⟨news,⟨_,A,c,hev,hc,hA⟩,_⟩:=hs.rd hx hsz
 obtain ⟨bs,hb⟩:=hs.lk (x:=y) (by rw [hy];rfl)
 rw [hy] at hb
 have e2:a.eval y=.slice none 0 0:=by
  generalize a.eval y=u at hb
  cases hb;rfl
 have hb1:xs≠[]→A.isNone=false:=fun h=>by
  obtain ⟨b,off,rfl,_⟩:=hA (by cases xs with|nil=>exact absurd rfl h|cons _ _=>simp)
  rfl
 have hr:(execOp a.eval o).run P w=.ok (.value (.bool (if op=.eql then A.isNone else !A.isNone))) w:=by
  have he:=run_equal_slice_nil (P:=P) w xt e A xs.length c hu
  rcases hop with rfl|rfl
  ·simp only [execOp,ho,hev,e2,eqGuard_at_slice,binOp,Sem.run_bind,Sem.run_pure,Result.andThen_ok,he];rfl
  ·simp only [execOp,ho,hev,e2,eqGuard_at_slice,binOp,Sem.run_bind,Sem.run_pure,Result.andThen_ok,he];rfl
 refine ⟨fun _ _=>trivial,?_⟩
 rw [Oper.semAt_eq _ _ _ (by simp [ho]),hr,Oper.uponIn_value,hd]
 exact hn _ _ _ _ _ _ _ (hs.put_hand (by rw [h1];exact ht) (.of_rep (.b _))) (hK A.isNone hb1)
end
end Go.FL
namespace Go.FL
open Go Go.RowKit
def grd (ops:Array Oper) (env:Env) (o:Oper) (yes:Bool) : Bool :=
 match o.guard with
 | none=>yes
 | some (j,want)=>match ops[j]? with
  | none=>false
  | some oj=>match oj.dst with
   | none=>false
   | some d=>match get env d with
    | .d (.b x)=>if yes then x == want else x != want
    | .tup []=>!yes
    | _=>false
def CY (s:Nat) : Env→Bool
 | []=>false
 | (_,.ref (.t q) _ _)::r=>q == s||CY s r
 | (_,.ep (.t q) _ _)::r=>q == s||CY s r
 | _::r=>CY s r
section
variable {P:Program} {C:Cx} {X:Snap} {o:Oper} {ops:Array Oper} {Q:Exit→Env→Ab→Prop} {env env':Env} {H H':Ab} {a:Act} {w w':World} {I I':Nat→Prop} {μ μ':List Nat} {O O':Nat→Option Loc}
 {K:Env→Ab→Prop} {k:Nat} {l:List Oper}
theorem Gh.same (h:∀ t,get env' t=get env t) : Gh P C env H env' H:=fun X a w I μ O _ _ _ hs=>by
 have hpl:∀ p,AB env' H p=AB env H p:=fun p=>by cases p<;>simp [AB,h]
 refine ⟨I,O,⟨hs.toMem,fun t=>?_,hs.nt,hs.dfs⟩⟩
 have ht:=hs.envr t
 rw [h]
 cases hg:get env t with
 | ref p off len =>
  rw [hg] at ht
  obtain ⟨e,xs,A,n,c,h1,rest⟩:=ht
  exact ⟨e,xs,A,n,c,by rw [hpl];exact h1,rest⟩
 | ep p i k =>
  rw [hg] at ht
  obtain ⟨e,xs,b,n,c,h1,rest⟩:=ht
  exact ⟨e,xs,b,n,c,by rw [hpl];exact h1,rest⟩
 | _=>rw [hg] at ht;obtain ⟨bs,h1,h2,h3⟩:=ht.plain rfl;exact .of h1 h2 h3
theorem Ak {t:Nat} {v:AV} (h:Aj (get env t)=false) : put env t v=(t,v)::env:=by simp [put,h]
theorem OL (p:Pl) (v:AV) : Aj (clr p v)=Aj v:=by
 cases v<;>first|rfl|(simp only [clr];split<;>rfl)
theorem M2 {s:Nat} : ∀ {env:Env},CY s env=false→∀ t,clr (.t s) (get env t)=get env t:=by
 intro env
 induction env with
 | nil=>intro _ t;rfl
 | cons x r ih =>
  obtain ⟨q,v⟩:=x
  intro h t
  have hr:CY s r=false:=by
   cases v<;>first|exact h|(rename_i p _ _;cases p<;>first|exact h|(simp [CY] at h;exact h.2))
  simp only [get]
  split
  ·cases v<;>first|rfl|(rename_i p _ _;cases p<;>first|rfl|(simp [CY] at h;simp [clr,h.1]))
  ·exact ih hr t
theorem Cw {s:Nat} {v:AV} (h:CY s env=false) : ∀ t,get (put env s v) t=get ((s,v)::env) t:=fun t=>by
 simp only [put,get]
 split
 ·rfl
 ·split
  ·rw [Eo];exact M2 h t
  ·rfl
theorem RL.go (hg:grd ops env o true=true) (h:OpOK P C o env H (RL P C ops Q (k+1) l)) : RL P C ops Q k (o::l) env H:=by
 unfold grd at hg
 split at hg
 ·rename_i h1;exact .cons h1 h
 ·rename_i j want h1
  split at hg
  ·cases hg
  ·rename_i oj h2
   split at hg
   ·cases hg
   ·rename_i d h3
    split at hg
    ·rename_i x h4
     simp at hg;subst hg
     exact .guard_t h1 h2 h3 h4 h
    ·simp at hg
    ·cases hg
theorem gf {t:Nat} (h:RL P C ops Q (k+1) l ((t,.un)::env) H) (hg:grd ops env o false=true:=by rfl) (hd:o.dst=some t:=by rfl) (hf:Aj (get env t)=false:=by rfl) (ht:okT C.nt t:=by rfl) : RL P C ops Q k (o::l) env H:=by
 rw [← Ak hf] at h
 unfold grd at hg
 split at hg
 ·cases hg
 ·rename_i j want h1
  split at hg
  ·cases hg
  ·rename_i oj h2
   split at hg
   ·cases hg
   ·rename_i d h3
    split at hg
    ·rename_i x h4
     simp at hg
     exact .guard_f h1 h2 h3 h4 hg hd ht h
    ·rename_i h4;exact .guard_nu h1 h2 h3 h4 hd ht h
    ·cases hg
theorem Ar {x:Operand} {av:AV} (hv:lk env x=av) (hn:av≠.un) : AA x (C5 x)=true∧look env (C5 x)=av:=SW hv hn
theorem mvd {x:Operand} {t:Nat} {v:DV} (h:RL P C ops Q (k+1) l ((t,.d v)::env) H) (hg:grd ops env o true=true:=by rfl) (ho:o.op=.move x:=by rfl) (hv:lk env x=.d v:=by rfl) (hd:o.dst=some t:=by rfl)
  (hf:Aj (get env t)=false:=by rfl) (ht:okT C.nt t:=by rfl):RL P C ops Q k (o::l) env H:=by
 obtain ⟨h1,h2⟩:=Ar hv (by simp)
 rw [← Ak hf] at h
 exact .go hg (HJ (.inl ho) h1 hd ht (by rw [h2];rfl) (by rw [h2];rfl) (by rw [h2];exact h))
theorem asd {x:Operand} {t:Nat} {v:DV} (h:RL P C ops Q (k+1) l ((t,.d v)::env) H) (hg:grd ops env o true=true:=by rfl) (ho:o.op=.assign x:=by rfl) (hv:lk env x=.d v:=by rfl) (hd:o.dst=some t:=by rfl)
  (hf:Aj (get env t)=false:=by rfl) (ht:okT C.nt t:=by rfl):RL P C ops Q k (o::l) env H:=by
 obtain ⟨h1,h2⟩:=Ar hv (by simp)
 rw [← Ak hf] at h
 exact .go hg (HJ (.inr ho) h1 hd ht (by rw [h2];rfl) (by rw [h2];rfl) (by rw [h2];exact h))
theorem asn {x:Operand} {t:Nat} (h:RL P C ops Q (k+1) l ((t,.nl)::env) H) (hg:grd ops env o true=true:=by rfl) (ho:o.op=.assign x:=by rfl) (hv:lk env x=.nl:=by rfl) (hd:o.dst=some t:=by rfl)
  (hf:Aj (get env t)=false:=by rfl) (ht:okT C.nt t:=by rfl):RL P C ops Q k (o::l) env H:=by
 obtain ⟨h1,h2⟩:=Ar hv (by simp)
 rw [← Ak hf] at h
 exact .go hg (HJ (.inr ho) h1 hd ht (by rw [h2];rfl) (by rw [h2];rfl) (by rw [h2];exact h))
theorem mvb {x:Operand} {t id off:Nat} (h:RL P C ops Q (k+1) l ((t,.bp id off)::env) H) (hg:grd ops env o true=true:=by rfl) (ho:o.op=.move x:=by rfl) (hv:lk env x=.bp id off:=by rfl) (hd:o.dst=some t:=by rfl)
  (hf:Aj (get env t)=false:=by rfl) (ht:okT C.nt t:=by rfl):RL P C ops Q k (o::l) env H:=by
 obtain ⟨h1,h2⟩:=Ar hv (by simp)
 rw [← Ak hf] at h
 exact .go hg (HJ (.inl ho) h1 hd ht (by rw [h2];rfl) (by rw [h2];rfl) (by rw [h2];exact h))
theorem EX {s t:Nat} {e:TypeId} {xs:List DV} (hv:get env s=.own e xs) (hf:Aj (get env t)=false) : s≠t:=fun e=>by subst e;rw [hv] at hf;cases hf
theorem mvo {s t:Nat} {e:TypeId} {xs:List DV} (h:RL P C ops Q (k+1) l ((t,.ref (.t s) 0 xs.length)::env) H) (hg:grd ops env o true=true:=by rfl) (ho:o.op=.move (.tmp s):=by rfl) (hv:get env s=.own e xs:=by rfl)
  (hd:o.dst=some t:=by rfl) (hf:Aj (get env t)=false:=by rfl) (ht:okT C.nt t:=by rfl):RL P C ops Q k (o::l) env H:=by
 rw [← Ak hf] at h
 exact .go hg (TW (.inl ho) rfl hd ht (EX hv hf) hv h)
theorem aso {s t:Nat} {e:TypeId} {xs:List DV} (h:RL P C ops Q (k+1) l ((t,.own e xs)::(s,.un)::env) H) (hg:grd ops env o true=true:=by rfl) (ho:o.op=.assign (.tmp s):=by rfl) (hv:get env s=.own e xs:=by rfl)
  (hd:o.dst=some t:=by rfl) (hf:Aj (get env t)=false:=by rfl) (hr:CY s env=false:=by rfl) (ht:okT C.nt t:=by rfl):RL P C ops Q k (o::l) env H:=by
 have hst:=EX hv hf
 refine .go hg (JF (.inr ho) hd ht (by rw [hv];rfl) ?_)
 rw [hv]
 refine RL.gh (Gh.same fun r=>?_) h
 have h1:Aj (get (put env s .un) t)=false:=by rw [Cw hr];simp [get,hst,hf]
 rw [Ak h1]
 simp only [get]
 split
 ·rfl
 ·have:=Cw (v:=.un) hr r
  simp only [get] at this
  exact this.symm
theorem Y5 {s t:Nat} {e:TypeId} {xs:List DV} (h:RL P C ops Q (k+1) l ((t,.own e xs)::(s,.un)::env) H) (hg:grd ops env o true=true:=by rfl) (ho:o.op=.move (.tmp s):=by rfl) (hv:get env s=.own e xs:=by rfl)
  (hd:o.dst=some t:=by rfl) (hf:Aj (get env t)=false:=by rfl) (hr:CY s env=false:=by rfl) (ht:okT C.nt t:=by rfl):RL P C ops Q k (o::l) env H:=by
 have hst:=EX hv hf
 refine .go hg (JF (.inl ho) hd ht (by rw [hv];rfl) ?_)
 rw [hv]
 refine RL.gh (Gh.same fun r=>?_) h
 have h1:Aj (get (put env s .un) t)=false:=by rw [Cw hr];simp [get,hst,hf]
 rw [Ak h1]
 simp only [get]
 split
 ·rfl
 ·have:=Cw (v:=.un) hr r
  simp only [get] at this
  exact this.symm
theorem mvt {s t:Nat} {cs:List AV} (h:RL P C ops Q (k+1) l ((t,.tup cs)::(s,.un)::env) H) (hg:grd ops env o true=true:=by rfl) (ho:o.op=.move (.tmp s):=by rfl) (hv:get env s=.tup cs:=by rfl)
  (hd:o.dst=some t:=by rfl) (hf:Aj (get env t)=false:=by rfl) (ht:okT C.nt t:=by rfl):RL P C ops Q k (o::l) env H:=by
 refine .go hg (JF (.inl ho) hd ht (by rw [hv];rfl) ?_)
 rw [hv]
 have h0:Aj (get env s)=false:=by rw [hv];rfl
 have h1:Aj (get ((s,.un)::env) t)=false:=by
  simp only [get];split
  ·rfl
  ·exact hf
 rw [Ak h0,Ak h1]
 exact h
theorem ass {s t len:Nat} {e:TypeId} {xs:List DV} (h:RL P C ops Q (k+1) l ((t,.own e (xs.take len))::G8 (.t t) env) H) (hg:grd ops env o true=true:=by rfl) (ho:o.op=.assign (.tmp s):=by rfl)
  (hv:get env s=.ref (.t t) 0 len:=by rfl) (hx:get env t=.own e xs:=by rfl) (hd:o.dst=some t:=by rfl) (ht:okT C.nt t:=by rfl):RL P C ops Q k (o::l) env H:=by
 refine .go hg (SI (.inr ho) hd ht hv hx ?_)
 have h1:put env t .un=(t,.un)::G8 (.t t) env:=by simp [put,hx,Aj]
 have h2:Aj (get ((t,.un)::G8 (.t t) env) t)=false:=by simp [get,Aj]
 rw [h1,Ak h2]
 refine RL.gh (Gh.same fun r=>?_) h
 simp only [get]
 split<;>rfl
theorem pkd {c x y:Operand} {t:Nat} {b:Bool} {v:DV} (h:RL P C ops Q (k+1) l ((t,.d v)::env) H) (hg:grd ops env o true=true:=by rfl) (ho:o.op=.pick c x y:=by rfl) (hc:lk env c=.d (.b b):=by rfl)
  (hv:lk env (if b then x else y)=.d v:=by rfl) (hd:o.dst=some t:=by rfl) (hf:Aj (get env t)=false:=by rfl) (ht:okT C.nt t:=by rfl):RL P C ops Q k (o::l) env H:=by
 obtain ⟨h1,h2⟩:=Ar hv (by simp)
 obtain ⟨h3,h4⟩:=Ar hc (by simp)
 rw [← Ak hf] at h
 exact .go hg (XO ho h3 h4 h1 hd ht (by rw [h2];rfl) (by rw [h2];rfl) (by rw [h2];exact h))
theorem bi {op:BinOp} {xt yt:TypeId} {x y:Operand} {t:Nat} {q q':IntKind} {m n:Int} {d:DV} (h:RL P C ops Q (k+1) l ((t,.d d)::env) H) (hg:grd ops env o true=true:=by rfl) (ho:o.op=.binOp op xt x y yt:=by rfl)
  (hx:lk env x=.d (.i q m):=by rfl) (hy:lk env y=.d (.i q' n):=by rfl) (hb:NA op q m n=some (True,d):=by rfl) (hd:o.dst=some t:=by rfl) (hk:(decide (q'=q)||EF op)=true:=by rfl)
  (hf:Aj (get env t)=false:=by rfl) (ht:okT C.nt t:=by rfl):RL P C ops Q k (o::l) env H:=by
 obtain ⟨h1,h2⟩:=Ar hx (by simp)
 obtain ⟨h3,h4⟩:=Ar hy (by simp)
 rw [← Ak hf] at h
 exact .go hg (S5 ho h1 h3 hd ht h2 h4 (by simpa using hk) hb trivial h)
theorem bic {op:BinOp} {xt yt:TypeId} {x y:Operand} {t:Nat} {q q':IntKind} {m n:Int} {c:Prop} {d:DV} (hc:c) (h:RL P C ops Q (k+1) l ((t,.d d)::env) H) (hg:grd ops env o true=true:=by rfl) (ho:o.op=.binOp op xt x y yt:=by rfl)
  (hx:lk env x=.d (.i q m):=by rfl) (hy:lk env y=.d (.i q' n):=by rfl) (hb:NA op q m n=some (c,d):=by rfl) (hd:o.dst=some t:=by rfl) (hk:(decide (q'=q)||EF op)=true:=by rfl)
  (hf:Aj (get env t)=false:=by rfl) (ht:okT C.nt t:=by rfl):RL P C ops Q k (o::l) env H:=by
 obtain ⟨h1,h2⟩:=Ar hx (by simp)
 obtain ⟨h3,h4⟩:=Ar hy (by simp)
 rw [← Ak hf] at h
 exact .go hg (S5 ho h1 h3 hd ht h2 h4 (by simpa using hk) hb hc h)
theorem bie {op:BinOp} {xt yt:TypeId} {x y:Operand} {t:Nat} {q q':IntKind} {m n:Int} {c:Prop} {d:DV} (d':DV) (hc:c∧d=d') (h:RL P C ops Q (k+1) l ((t,.d d')::env) H) (hg:grd ops env o true=true:=by rfl) (ho:o.op=.binOp op xt x y yt:=by rfl)
  (hx:lk env x=.d (.i q m):=by rfl) (hy:lk env y=.d (.i q' n):=by rfl) (hb:NA op q m n=some (c,d):=by rfl) (hd:o.dst=some t:=by rfl) (hk:(decide (q'=q)||EF op)=true:=by rfl)
  (hf:Aj (get env t)=false:=by rfl) (ht:okT C.nt t:=by rfl):RL P C ops Q k (o::l) env H:=by
 obtain ⟨hc,rfl⟩:=hc
 exact bic hc h hg ho hx hy hb hd hk hf ht
theorem bbn {op:BinOp} {xt yt:TypeId} {x y:Operand} {t:Nat} {b c:Bool} (h:RL P C ops Q (k+1) l ((t,.d (.b (if op=.eql then b == c else b != c)))::env) H) (hop:op=.eql∨op=.neq) (hu:P.underlying xt=some .bool)
  (hg:grd ops env o true=true:=by rfl) (ho:o.op=.binOp op xt x y yt:=by rfl)
  (hx:lk env x=.d (.b b):=by rfl) (hy:lk env y=.d (.b c):=by rfl) (hd:o.dst=some t:=by rfl) (hf:Aj (get env t)=false:=by rfl) (ht:okT C.nt t:=by rfl):RL P C ops Q k (o::l) env H:=by
 obtain ⟨h1,h2⟩:=Ar hx (by simp)
 obtain ⟨h3,h4⟩:=Ar hy (by simp)
 rw [← Ak hf] at h
 exact .go hg (W7 ho hop hu h1 h3 hd ht h2 h4 h)
theorem nt_ {xt:TypeId} {x:Operand} {t:Nat} {b:Bool} (h:RL P C ops Q (k+1) l ((t,.d (.b (!b)))::env) H) (hg:grd ops env o true=true:=by rfl) (ho:o.op=.unOp .not xt x:=by rfl) (hx:lk env x=.d (.b b):=by rfl)
  (hd:o.dst=some t:=by rfl) (hf:Aj (get env t)=false:=by rfl) (ht:okT C.nt t:=by rfl):RL P C ops Q k (o::l) env H:=by
 obtain ⟨h1,h2⟩:=Ar hx (by simp)
 rw [← Ak hf] at h
 exact .go hg (YN ho h1 hd ht h2 h)
theorem xr {xt:TypeId} {x:Operand} {t:Nat} {q:IntKind} {n:Int} (h:RL P C ops Q (k+1) l ((t,.d (.i q (bits .xor q (if q.signed then -1 else q.max) n)))::env) H) (hg:grd ops env o true=true:=by rfl) (ho:o.op=.unOp .xor xt x:=by rfl)
  (hx:lk env x=.d (.i q n):=by rfl) (hd:o.dst=some t:=by rfl) (hf:Aj (get env t)=false:=by rfl) (ht:okT C.nt t:=by rfl):RL P C ops Q k (o::l) env H:=by
 obtain ⟨h1,h2⟩:=Ar hx (by simp)
 rw [← Ak hf] at h
 exact .go hg (Zl ho h1 hd ht h2 h)
theorem ng {xt:TypeId} {x:Operand} {t:Nat} {q:IntKind} {n:Int} (h:RL P C ops Q (k+1) l ((t,.d (.i q (q.wrap (0-n))))::env) H) (hg:grd ops env o true=true:=by rfl) (ho:o.op=.unOp .neg xt x:=by rfl)
  (hx:lk env x=.d (.i q n):=by rfl) (hd:o.dst=some t:=by rfl) (hf:Aj (get env t)=false:=by rfl) (ht:okT C.nt t:=by rfl):RL P C ops Q k (o::l) env H:=by
 obtain ⟨h1,h2⟩:=Ar hx (by simp)
 rw [← Ak hf] at h
 exact .go hg (YK ho h1 hd ht h2 h)
theorem cv {src dst t:Nat} {x:Operand} {q q1 q':IntKind} {n:Int} (h:RL P C ops Q (k+1) l ((t,.d (.i q' (q'.wrap n)))::env) H) (hs:P.underlying src=some (.int q1)) (hd':P.underlying dst=some (.int q')) (hg:grd ops env o true=true:=by rfl)
  (ho:o.op=.convert src dst x:=by rfl) (hx:lk env x=.d (.i q n):=by rfl) (hd:o.dst=some t:=by rfl) (hf:Aj (get env t)=false:=by rfl) (ht:okT C.nt t:=by rfl):RL P C ops Q k (o::l) env H:=by
 rw [← Ak hf] at h
 exact .go hg (ZJ ho hd ht ⟨q1,hs⟩ hd' hx h)
theorem cve {src dst t:Nat} {x:Operand} {q q1 q':IntKind} {n:Int} (n':Int) (hn:q'.wrap n=n') (h:RL P C ops Q (k+1) l ((t,.d (.i q' n'))::env) H) (hs:P.underlying src=some (.int q1)) (hd':P.underlying dst=some (.int q'))
  (hg:grd ops env o true=true:=by rfl) (ho:o.op=.convert src dst x:=by rfl) (hx:lk env x=.d (.i q n):=by rfl) (hd:o.dst=some t:=by rfl) (hf:Aj (get env t)=false:=by rfl) (ht:okT C.nt t:=by rfl) :
  RL P C ops Q k (o::l) env H:=by
 subst hn;exact cv h hs hd' hg ho hx hd hf ht
theorem ln {c:Call} {x:Operand} {ty t:Nat} {xs:List DV} (h:RL P C ops Q (k+1) l ((t,.d (.i .i64 xs.length))::env) H) (hsz:∃ sz,∀ x∈xs,x.cells.length=sz) (hu:P.underlying ty=some (.slice (P.elem ty)))
  (hg:grd ops env o true=true:=by rfl) (ho:o.op=.call c:=by rfl) (hc:c.callee=.builtin .len:=by rfl) (hx:c.args=#[x]:=by rfl) (hty:c.argTypes=#[ty]:=by rfl) (hv:rd env H (lk env x)=some xs:=by rfl)
  (hd:o.dst=some t:=by rfl) (hf:Aj (get env t)=false:=by rfl) (ht:okT C.nt t:=by rfl):RL P C ops Q k (o::l) env H:=by
 rw [← Ak hf] at h
 exact .go hg (ZD ho hc hx hty hu hd ht hv hsz h)
theorem S4 {c:Call} {r ty off len:Nat} {p:Pl} (ho:o.op=.call c) (hc:c.callee=.builtin .len) (hx:c.args=#[.tmp r]) (hty:c.argTypes=#[ty]) (hu:P.underlying ty=some (.slice (P.elem ty))) (hv:get env r=.ref p off len) (hs:Sim P X env H a w I μ O) :
  (execOp a.eval o).run P w=.ok (.value (.int .i64 len)) w:=by
 have hrr:=hs.envr r
 rw [hv] at hrr
 obtain ⟨e',ys,A,n,cc,f1,f2,f3,A',c',q1,q2⟩:=hrr
 have hev:a.eval (.tmp r)=.slice A' len c':=q1
 simp [execOp,ho,resolve,hc,hx,hty,invoke,builtin,hev,run_len_slice w ty o.type A' len c' hu,goInt]
theorem lnr {c:Call} {r ty t off len:Nat} {p:Pl} (h:RL P C ops Q (k+1) l ((t,.d (.i .i64 len))::env) H) (hu:P.underlying ty=some (.slice (P.elem ty)))
  (hg:grd ops env o true=true:=by rfl) (ho:o.op=.call c:=by rfl) (hc:c.callee=.builtin .len:=by rfl) (hx:c.args=#[.tmp r]:=by rfl) (hty:c.argTypes=#[ty]:=by rfl) (hv:get env r=.ref p off len:=by rfl)
  (hd:o.dst=some t:=by rfl) (hf:Aj (get env t)=false:=by rfl) (ht:okT C.nt t:=by rfl):RL P C ops Q k (o::l) env H:=by
 rw [← Ak hf] at h
 exact .go hg (.pure (by simp [ho]) hd ht (fun X a w I μ O _ hs=>⟨_,S4 ho hc hx hty hu hv hs,.of_rep (.i _ _)⟩) h)
theorem ix {x i:Operand} {ty t e sz by_:Nat} {xs:List DV} {q:IntKind} {z:Int} {v:DV} (n:Nat) (h:RL P C ops Q (k+1) l ((t,.d (.ptr v.cells))::env) H) (hn:z=n) (hx:xs[n]?=some v) (hsz:v.cells.length=sz) (hty:B3 P ty=some (e,sz,by_))
  (hg:grd ops env o true=true:=by rfl) (ho:o.op=.indexAddr ty x i:=by rfl) (hv:lk env x=.d (.sl xs):=by rfl) (hi:lk env i=.d (.i q z):=by rfl) (hd:o.dst=some t:=by rfl)
  (hf:Aj (get env t)=false:=by rfl) (ht:okT C.nt t:=by rfl):RL P C ops Q k (o::l) env H:=by
 subst hn
 have hl:n<xs.length:=(List.getElem?_eq_some_iff.1 hx).1
 have hg':xs.getD (n:Int).toNat default=v:=by simp [List.getD_eq_getElem?_getD,hx]
 obtain ⟨h1,h2⟩:=Ar hv (by simp)
 obtain ⟨h3,h4⟩:=Ar hi (by simp)
 rw [← Ak hf] at h
 exact .go hg (Ww ho h1 h3 hd ht hty h2 h4 (by omega) (by omega) (by rw [hg'];exact hsz) (by rw [hg'];exact h))
theorem ixr {r:Nat} {i:Operand} {ty t e sz by_ off len:Nat} {p:Pl} {xs:List DV} {q:IntKind} {z:Int} (n:Nat) (hn:z=n) (hl:n<len) (h:RL P C ops Q (k+1) l ((t,.ep p (off+n) 0)::env) H) (hty:B3 P ty=some (e,sz,by_)) (hz:0<sz)
  (hg:grd ops env o true=true:=by rfl) (ho:o.op=.indexAddr ty (.tmp r) i:=by rfl) (hv:get env r=.ref p off len:=by rfl) (hp:AB env H p=.own e xs:=by rfl) (hi:lk env i=.d (.i q z):=by rfl) (hd:o.dst=some t:=by rfl)
  (hf:Aj (get env t)=false:=by rfl) (ht:okT C.nt t:=by rfl) (hpt:p≠.t t:=by first|decide|(intro h;cases h)):RL P C ops Q k (o::l) env H:=by
 subst hn
 obtain ⟨h3,h4⟩:=Ar hi (by simp)
 rw [← Ak hf] at h
 exact .go hg (RU ho (by simp [AA]) h3 hd ht hty hz hv hp hpt h4 (by omega) (by omega) (by simpa using h))
theorem ldp {x:Operand} {ty t:Nat} {v:DV} {cs:List DV} (h:RL P C ops Q (k+1) l ((t,.d v)::env) H) (hag:BH P ty=some false) (hg:grd ops env o true=true:=by rfl) (ho:o.op=.load ty x:=by rfl)
  (hv:lk env x=.d (.ptr (v::cs)):=by rfl) (hd:o.dst=some t:=by rfl) (hf:Aj (get env t)=false:=by rfl) (ht:okT C.nt t:=by rfl):RL P C ops Q k (o::l) env H:=by
 obtain ⟨h1,h2⟩:=Ar hv (by simp)
 rw [← Ak hf] at h
 exact .go hg (Uv ho h1 hd ht hag h2 (by simp) h)
theorem lde {s ty t i j e:Nat} {p:Pl} {xs:List DV} (v:DV) (hx:∃ x,xs[i]?=some x∧x.cells[j]?=some v) (h:RL P C ops Q (k+1) l ((t,.d v)::env) H) (hag:BH P ty=some false) (hg:grd ops env o true=true:=by rfl)
  (ho:o.op=.load ty (.tmp s):=by rfl) (hv:get env s=.ep p i j:=by rfl) (hp:AB env H p=.own e xs:=by rfl) (hd:o.dst=some t:=by rfl) (hf:Aj (get env t)=false:=by rfl) (ht:okT C.nt t:=by rfl) :
  RL P C ops Q k (o::l) env H:=by
 obtain ⟨x,hx,hj⟩:=hx
 rw [← Ak hf] at h
 refine .go hg (V2 ho (by simp [AA]) hd ht hag hv hp ?_)
 simpa [List.getD_eq_getElem?_getD,hx,hj] using h
theorem ste {y:Operand} {r ty i e:Nat} {p:Pl} {xs:List DV} {v:DV} (hx:∃ x,xs[i]?=some x∧x.leaf=true) (h:RL P C ops Q (k+1) l (FJ p (.own e (xs.set i v)) env) (HM p (.own e (xs.set i v)) H)) (hsz:Av P ty=1)
  (hg:grd ops env o true=true:=by rfl) (ho:o.op=.store ty (.tmp r) y:=by rfl) (hv:get env r=.ep p i 0:=by rfl) (hp:AB env H p=.own e xs:=by rfl) (hy:lk env y=.d v:=by rfl) (h1:v.leaf=true:=by rfl) (hd:o.dst=none:=by rfl)
  (hn:∀ id off,p=.c id off→C.n0≤id:=by (intro _ _ h;cases h<;>decide)):RL P C ops Q k (o::l) env H:=by
 obtain ⟨x,hx,hxl⟩:=hx
 obtain ⟨h3,h4⟩:=Ar hy (by simp)
 refine .go hg (Ni ho (by simp [AA]) h3 hd hsz hv hp hn h4 h1 ?_ h)
 simp [List.getD_eq_getElem?_getD,hx,DV.leaf_cells hxl,DV.leaf_cells h1]
theorem ids {x i:Operand} {ty t:Nat} {s:ByteArray} {q:IntKind} {z:Int} {b:UInt8} (n:Nat) (hn:z=n) (hb:s.data.toList[n]?=some b) (h:RL P C ops Q (k+1) l ((t,.d (.i .u8 b.toNat))::env) H) (hty:P.underlying ty=some .string)
  (hg:grd ops env o true=true:=by rfl) (ho:o.op=.index ty x i:=by rfl) (hv:lk env x=.d (.s s):=by rfl) (hi:lk env i=.d (.i q z):=by rfl) (hd:o.dst=some t:=by rfl) (hf:Aj (get env t)=false:=by rfl) (ht:okT C.nt t:=by rfl) :
  RL P C ops Q k (o::l) env H:=by
 subst hn
 obtain ⟨h1,h2⟩:=Ar hv (by simp)
 obtain ⟨h3,h4⟩:=Ar hi (by simp)
 have hl:n<s.size:=by have:=(List.getElem?_eq_some_iff.1 hb).1;simpa using this
 rw [← Ak hf] at h
 refine .go hg (Z2 ho h1 h3 hd ht hty h2 h4 (by omega) (by omega) ?_)
 simpa [List.getD_eq_getElem?_getD,hb] using h
theorem cl {c:Call} {fo:Operand} {f t:Nat} {first xs caps:List DV} {r:AV} (h:RL P C ops Q (k+1) l ((t,r)::env) H) (hfn:Fn P f (first++xs++caps) r) (hcall:∀ args w,(callFunc f args).run P w=.ok (.enter f args) w)
  (hg:grd ops env o true=true:=by rfl) (ho:o.op=.call c:=by rfl) (hc:c.callee=.value fo:=by rfl) (hfo:lk env fo=.d (.fn f first caps):=by rfl) (ha:argsD env c.args.toList=some xs:=by rfl) (hd:o.dst=some t:=by rfl)
  (hf:Aj (get env t)=false:=by rfl) (ht:okT C.nt t:=by rfl):RL P C ops Q k (o::l) env H:=by
 rw [← Ak hf] at h
 refine .go hg (OpOK.call ho hc hfo ha hcall hfn (fun t' h'=>by rw [hd] at h';cases h';exact ht) ?_)
 rw [hd];exact h
theorem ex {s t i:Nat} {cs:List AV} {v:AV} (h:RL P C ops Q (k+1) l ((t,v)::(s,.tup (cs.set i .un))::env) H) (hg:grd ops env o true=true:=by rfl) (ho:o.op=.extract (.tmp s) i:=by rfl) (hv:get env s=.tup cs:=by rfl) (hc:cs[i]?=some v:=by rfl)
  (hd:o.dst=some t:=by rfl) (hr:AI v=false:=by rfl) (hf:Aj (get env t)=false:=by rfl) (ht:okT C.nt t:=by rfl) (hst:s≠t:=by decide):RL P C ops Q k (o::l) env H:=by
 have hi:i<cs.length:=(List.getElem?_eq_some_iff.1 hc).1
 have hg':cs.getD i .un=v:=by simp [List.getD_eq_getElem?_getD,hc]
 refine .go hg (ZT ho (by simp [AA]) hd ht hst hv hi (by rw [hg'];exact hr) ?_)
 rw [hg',Ak (by simp [get,hst,hf])];exact h
theorem GO {z:Int} (h1:-9223372036854775808≤z) (h2:z≤9223372036854775807) : IntKind.i64.wrap z=z:=by
 simp only [IntKind.wrap,IntKind.bits,IntKind.signed]
 simp
 omega
theorem ad {xt yt:TypeId} {x y:Operand} {t:Nat} {q':IntKind} {m n:Int} (z:Int) (hz:m+n=z∧-9223372036854775808≤z∧z≤9223372036854775807) (h:RL P C ops Q (k+1) l ((t,.d (.i .i64 z))::env) H)
  (hg:grd ops env o true=true:=by rfl) (ho:o.op=.binOp .add xt x y yt:=by rfl)
  (hx:lk env x=.d (.i .i64 m):=by rfl) (hy:lk env y=.d (.i q' n):=by rfl) (hd:o.dst=some t:=by rfl) (hk:q'=.i64:=by rfl)
  (hf:Aj (get env t)=false:=by rfl) (ht:okT C.nt t:=by rfl):RL P C ops Q k (o::l) env H:=by
 obtain ⟨rfl,h1,h2⟩:=hz
 exact bie (.i .i64 (m+n)) ⟨trivial,by rw [GO h1 h2]⟩ h hg ho hx hy rfl hd (by simp [hk]) hf ht
theorem su {xt yt:TypeId} {x y:Operand} {t:Nat} {q':IntKind} {m n:Int} (z:Int) (hz:m-n=z∧-9223372036854775808≤z∧z≤9223372036854775807) (h:RL P C ops Q (k+1) l ((t,.d (.i .i64 z))::env) H)
  (hg:grd ops env o true=true:=by rfl) (ho:o.op=.binOp .sub xt x y yt:=by rfl)
  (hx:lk env x=.d (.i .i64 m):=by rfl) (hy:lk env y=.d (.i q' n):=by rfl) (hd:o.dst=some t:=by rfl) (hk:q'=.i64:=by rfl)
  (hf:Aj (get env t)=false:=by rfl) (ht:okT C.nt t:=by rfl):RL P C ops Q k (o::l) env H:=by
 obtain ⟨rfl,h1,h2⟩:=hz
 exact bie (.i .i64 (m-n)) ⟨trivial,by rw [GO h1 h2]⟩ h hg ho hx hy rfl hd (by simp [hk]) hf ht
theorem ml {xt yt:TypeId} {x y:Operand} {t:Nat} {q':IntKind} {m n:Int} (z:Int) (hz:m * n=z∧-9223372036854775808≤z∧z≤9223372036854775807) (h:RL P C ops Q (k+1) l ((t,.d (.i .i64 z))::env) H)
  (hg:grd ops env o true=true:=by rfl) (ho:o.op=.binOp .mul xt x y yt:=by rfl)
  (hx:lk env x=.d (.i .i64 m):=by rfl) (hy:lk env y=.d (.i q' n):=by rfl) (hd:o.dst=some t:=by rfl) (hk:q'=.i64:=by rfl)
  (hf:Aj (get env t)=false:=by rfl) (ht:okT C.nt t:=by rfl):RL P C ops Q k (o::l) env H:=by
 obtain ⟨rfl,h1,h2⟩:=hz
 exact bie (.i .i64 (m * n)) ⟨trivial,by rw [GO h1 h2]⟩ h hg ho hx hy rfl hd (by simp [hk]) hf ht
theorem sl {x:Operand} {ty t e sz by_:Nat} {lo hi mx:Option Operand} {xs:List DV} {zl zh zm:Int} (l' h':Nat) (hb:zl=l'∧zh=h'∧l'≤h'∧zh≤zm∧zm≤xs.length) (h:RL P C ops Q (k+1) l ((t,.d (.sl ((xs.drop l').take (h'-l'))))::env) H) (hsz:∀ x∈xs,x.cells.length=sz) (hty:B3 P ty=some (e,sz,by_)) (hg:grd ops env o true=true:=by rfl) (ho:o.op=.slice ty x lo hi mx:=by rfl) (hv:lk env x=.d (.sl xs):=by rfl)
  (hl:D7 env 0 (lo.map C5)=some zl:=by rfl) (hh:D7 env xs.length (hi.map C5)=some zh:=by rfl) (hm:D7 env zh (mx.map C5)=some zm:=by rfl)
  (hfl:Cc lo (lo.map C5)=true:=by rfl) (hfh:Cc hi (hi.map C5)=true:=by rfl) (hfm:Cc mx (mx.map C5)=true:=by rfl) (hmh:(mx.isNone||hi.isSome)=true:=by rfl)
  (hd:o.dst=some t:=by rfl) (hf:Aj (get env t)=false:=by rfl) (ht:okT C.nt t:=by rfl):RL P C ops Q k (o::l) env H:=by
 obtain ⟨rfl,rfl,h1,h2,h3⟩:=hb
 obtain ⟨k1,k2⟩:=Ar hv (by simp)
 rw [← Ak hf] at h
 refine .go hg (UU ho k1 hfl hfh hfm hd ht hty k2 hl hh hm ?_ (by omega) (by omega) h2 h3 hsz (by simpa using h))
 cases mx<;>cases hi<;>simp at hmh ⊢
theorem slr {r:Nat} {ty t e sz by_ off len:Nat} {p:Pl} {lo hi:Option Operand} {xs:List DV} {zl zh:Int} (l' h':Nat) (hb:zl=l'∧zh=h'∧l'≤h'∧h'≤len) (h:RL P C ops Q (k+1) l ((t,.ref p (off+l') (h'-l'))::env) H) (hty:B3 P ty=some (e,sz,by_)) (hg:grd ops env o true=true:=by rfl) (ho:o.op=.slice ty (.tmp r) lo hi none:=by rfl) (hv:get env r=.ref p off len:=by rfl) (hp:AB env H p=.own e xs:=by rfl)
  (hl:D7 env 0 (lo.map C5)=some zl:=by rfl) (hh:D7 env len (hi.map C5)=some zh:=by rfl)
  (hfl:Cc lo (lo.map C5)=true:=by rfl) (hfh:Cc hi (hi.map C5)=true:=by rfl)
  (hd:o.dst=some t:=by rfl) (hf:Aj (get env t)=false:=by rfl) (ht:okT C.nt t:=by rfl) (hpt:p≠.t t:=by first|decide|(intro h;cases h)):RL P C ops Q k (o::l) env H:=by
 obtain ⟨rfl,rfl,h1,h2⟩:=hb
 rw [← Ak hf] at h
 exact .go hg (Sh ho (by simp [AA]) hfl hfh hd ht hty hv hp hpt hl hh (by omega) (by omega) (by omega) (by simpa using h))
theorem apo {c:Call} {y:Operand} {r ty t e sz by_:Nat} {z:Value} {xs ys:List DV} (hb:xs.length+ys.length≤9223372036854775807∧(xs.length+ys.length) * by_≤140737488355328) (h:RL P C ops Q (k+1) l ((t,.own e (xs++ys))::(r,.un)::env) H) (hsz:∀ x∈ys,x.cells.length=sz)
  (hT:Cb P ty=some (e,sz,by_,z)) (hg:grd ops env o true=true:=by rfl) (ho:o.op=.call c:=by rfl) (hc:c.callee=.builtin .append:=by rfl)
  (hx:c.args=#[.tmp r,y]:=by rfl) (hty:c.argTypes=#[ty,ty]:=by rfl) (hv:get env r=.own e xs:=by rfl) (hy:rd env H (lk env y)=some ys:=by rfl) (hd:o.dst=some t:=by rfl)
  (hf:Aj (get env t)=false:=by rfl) (hr:CY r env=false:=by rfl) (ht:okT C.nt t:=by rfl):RL P C ops Q k (o::l) env H:=by
 have hst:=EX hv hf
 refine .go hg (RY ho hc hx hty hd ht (by simp [AA]) hT hv hy hsz (by simpa [maxLen] using hb.1) hb.2 ?_)
 refine RL.gh (Gh.same fun q=>?_) h
 have h1:Aj (get (put env r .un) t)=false:=by rw [Cw hr];simp [get,hst,hf]
 rw [Ak h1]
 simp only [get]
 split
 ·rfl
 ·have:=Cw (v:=.un) hr q
  simp only [get] at this
  exact this.symm
theorem MW {s r:Nat} (h:CY s ((r,.un)::env.filter fun x=>x.1 != r)=false) (t:Nat) (ht:t≠r) : clr (.t s) (get env t)=get env t:=by
 have hf:∀ env:Env,get (env.filter fun x=>x.1 != r) t=get env t:=fun env=>by
  induction env with
  | nil=>rfl
  | cons x xs ih =>
   obtain ⟨q,v⟩:=x
   by_cases hq:q=r
   ·subst hq;simp [get,ih,Ne.symm ht]
   ·have hq':(q != r)=true:=by simpa using hq
    rw [List.filter_cons_of_pos (by exact hq')]
    simp only [get,ih]
 have:=M2 h t
 simpa [get,Ne.symm ht,hf] using this
theorem apr {c:Call} {y:Operand} {r s ty t e sz by_ len:Nat} {z:Value} {xs ys:List DV} (hb:len+ys.length≤9223372036854775807∧(len+ys.length) * by_≤140737488355328) (h:RL P C ops Q (k+1) l ((t,.own e (xs.take len++ys))::(s,.un)::(r,.un)::env) H) (hsz:∀ x∈ys,x.cells.length=sz)
  (hT:Cb P ty=some (e,sz,by_,z)) (hg:grd ops env o true=true:=by rfl) (ho:o.op=.call c:=by rfl) (hc:c.callee=.builtin .append:=by rfl)
  (hx:c.args=#[.tmp r,y]:=by rfl) (hty:c.argTypes=#[ty,ty]:=by rfl) (hv:get env r=.ref (.t s) 0 len:=by rfl) (hp:get env s=.own e xs:=by rfl) (hy:rd env H (lk env y)=some ys:=by rfl) (hd:o.dst=some t:=by rfl)
  (hf:Aj (get env t)=false:=by rfl) (hr:CY s ((r,.un)::env.filter fun x=>x.1 != r)=false:=by rfl) (ht:okT C.nt t:=by rfl):RL P C ops Q k (o::l) env H:=by
 have hst:=EX hp hf
 refine .go hg (RP ho hc hx hty hd ht (by simp [AA]) hT hv hp hy hsz (by simpa [maxLen] using hb.1) hb.2 ?_)
 refine RL.gh (Gh.same fun q=>?_) h
 have hput:put env s .un=(s,.un)::G8 (.t s) env:=by simp [put,hp,Aj]
 rw [hput]
 have h1:Aj (get ((s,.un)::G8 (.t s) env) t)=false:=by
  simp only [get,if_neg hst,Eo,OL];exact hf
 rw [Ak h1]
 simp only [get,Eo]
 split
 ·rfl
 ·split
  ·rfl
  ·split
   ·rename_i hq;subst hq;rw [hv];simp [clr]
   ·rename_i hq;exact (MW hr q (Ne.symm hq)).symm
theorem mk {x c:Operand} {ty t e by_:Nat} {z:Value} {q q':IntKind} {zl zc:Int} (n:Nat) (hn:zl=n∧zc=n) (hb:by_ * n≤281474976710656∧n≤9223372036854775807) (h:RL P C ops Q (k+1) l ((t,.own e (List.replicate n (Si z)))::env) H)
  (hT:Cb P ty=some (e,1,by_,z)) (hz:zok z=true) (hg:grd ops env o true=true:=by rfl) (ho:o.op=.makeSlice ty x c:=by rfl) (hx:lk env x=.d (.i q zl):=by rfl) (hc:lk env c=.d (.i q' zc):=by rfl) (hd:o.dst=some t:=by rfl)
  (hf:Aj (get env t)=false:=by rfl) (ht:okT C.nt t:=by rfl):RL P C ops Q k (o::l) env H:=by
 obtain ⟨rfl,rfl⟩:=hn
 rw [← Ak hf] at h
 exact .go hg (W9 ho hd ht hT hz hx hc hb.1 (by simpa [maxLen] using hb.2) h)
theorem bsl {ty t e sz by_ len:Nat} {z:Value} {parts:Array (Nat×Operand)} {xs:List Operand} {ds:List DV} (hsz:∀ d∈ds,d.flat=true∧d.cells.length=sz) (h:RL P C ops Q (k+1) l ((t,.own e ds)::env) H) (hT:Cb P ty=some (e,sz,by_,z))
  (hg:grd ops env o true=true:=by rfl) (ho:o.op=.buildSlice ty len parts:=by rfl) (hp:Im 0 parts.toList=some xs:=by rfl) (hlen:xs.length=len:=by rfl) (ha:argsD env xs=some ds:=by rfl) (hd:o.dst=some t:=by rfl)
  (hf:Aj (get env t)=false:=by rfl) (ht:okT C.nt t:=by rfl) (hsmall:len * sz≤16777216:=by decide):RL P C ops Q k (o::l) env H:=by
 rw [← Ak hf] at h
 exact .go hg (YV ho hd ht hT hp hlen ha hsz hsmall h)
theorem nq {op:BinOp} {xt yt e:TypeId} {x y:Operand} {t:Nat} {xs:List DV} (h:∀ b,(xs≠[]→b=false)→RL P C ops Q (k+1) l ((t,.d (.b (if op=.eql then b else !b)))::env) H) (hsz:∃ sz,∀ x∈xs,x.cells.length=sz) (hu:P.underlying xt=some (.slice e))
  (hg:grd ops env o true=true:=by rfl) (ho:o.op=.binOp op xt x y yt:=by rfl) (hx:rd env H (lk env x)=some xs:=by rfl) (hy:lk env y=.nl:=by rfl) (hd:o.dst=some t:=by rfl)
  (hf:Aj (get env t)=false:=by rfl) (ht:okT C.nt t:=by rfl) (hop:op=.eql∨op=.neq:=by simp):RL P C ops Q k (o::l) env H:=by
 exact .go hg (X6 ho hop hu hd ht hx hsz hy fun b hb=>by rw [Ak hf];exact h b hb)
theorem mn {c:Call} {x y:Operand} {t:Nat} {q q':IntKind} {m n:Int} (h:RL P C ops Q (k+1) l ((t,.d (.i q (if n<m then n else m)))::env) H) (hg:grd ops env o true=true:=by rfl) (ho:o.op=.call c:=by rfl) (hc:c.callee=.builtin .min:=by rfl)
  (hx:c.args=#[x,y]:=by rfl) (hxv:lk env x=.d (.i q m):=by rfl) (hyv:lk env y=.d (.i q' n):=by rfl) (hd:o.dst=some t:=by rfl) (hf:Aj (get env t)=false:=by rfl) (ht:okT C.nt t:=by rfl):RL P C ops Q k (o::l) env H:=by
 rw [← Ak hf] at h
 exact .go hg (YT ho hc hx hd ht hxv hyv h)
theorem mx {c:Call} {x y:Operand} {t:Nat} {q q':IntKind} {m n:Int} (h:RL P C ops Q (k+1) l ((t,.d (.i q (if m<n then n else m)))::env) H) (hg:grd ops env o true=true:=by rfl) (ho:o.op=.call c:=by rfl) (hc:c.callee=.builtin .max:=by rfl)
  (hx:c.args=#[x,y]:=by rfl) (hxv:lk env x=.d (.i q m):=by rfl) (hyv:lk env y=.d (.i q' n):=by rfl) (hd:o.dst=some t:=by rfl) (hf:Aj (get env t)=false:=by rfl) (ht:okT C.nt t:=by rfl):RL P C ops Q k (o::l) env H:=by
 rw [← Ak hf] at h
 exact .go hg (Zx ho hc hx hd ht hxv hyv h)
theorem fz {p:Pl} {e:TypeId} {xs:List DV} (h:RL P C ops Q k l (KH p xs env) (TR p xs H)) (hp:AB env H p=.own e xs:=by rfl) (hn:∀ id off,p=.c id off→C.n0≤id:=by (intro _ _ h;cases h<;>decide)) : RL P C ops Q k l env H:=.gh (Gh.frz hp hn) h
theorem rn {K:Env→Ab→Prop} (h:K env H) : RL P C ops (FB K Q) k [] env H:=RL.nil h
theorem AW.mid {x y:Code} (R:Env→Ab→Prop) (h1:AW P C x (FB R Q) env H) (h2:∀ env' H',R env' H'→AW P C y Q env' H') : AW P C (.seq x y) Q env H :=
 .seq (h1.mono fun e env' H' h=>by cases e<;>first|exact h2 _ _ h|exact h)
theorem AW.loop {c:Code} (h:AL P C c Q env H) : AW P C (.loop c) Q env H:=AL.loop h
theorem AL.cast {c:Code} (he:env=env') (h:AL P C c Q env' H) : AL P C c Q env H:=he▸h
theorem AL.castH {c:Code} (he:H=H') (h:AL P C c Q env H') : AL P C c Q env H:=he▸h
theorem AL.ind {c:Code} {σ:Type} (m:σ→Nat) (e:σ→Env) (h:σ→Ab) (I:σ→Prop)
  (step:∀ s,I s→(∀ s',I s'→m s'<m s→AL P C c Q (e s') (h s'))→AW P C c (FB (AL P C c Q) Q) (e s) (h s)):∀ s,I s→AL P C c Q (e s) (h s):=by
 suffices H:∀ n s,m s=n→I s→AL P C c Q (e s) (h s) from fun s hs=>H _ s rfl hs
 intro n
 induction n using Nat.strongRecOn with
 | ind n ih =>
  intro s hm hs
  exact .round (step s hs fun s' h1 h2=>ih (m s') (by omega) s' rfl h1)
theorem cnd {t:Nat} {x:Bool} {c1 c2:Code} (h1:x=true→AW P C c1 Q env H) (h2:x=false→AW P C c2 Q env H) (hx:get env t=.d (.b x):=by rfl) : AW P C (.cond (.tmp t) c1 c2) Q env H:=.cond hx h1 h2
theorem BN {t:Nat} {c1 c2:Code} (h1:AW P C c1 Q env H) (hx:get env t=.d (.b true):=by rfl) : AW P C (.cond (.tmp t) c1 c2) Q env H:=.cond hx (fun _=>h1) (fun h=>by cases h)
theorem BD {t:Nat} {c1 c2:Code} (h2:AW P C c2 Q env H) (hx:get env t=.d (.b false):=by rfl) : AW P C (.cond (.tmp t) c1 c2) Q env H:=.cond hx (fun h=>by cases h) (fun _=>h2)
end
end Go.FL
namespace Go.FL
open Go
theorem dT {p:Prop} [Decidable p] (h:p) : decide p=true:=decide_eq_true h
theorem dF {p:Prop} [Decidable p] (h:¬p) : decide p=false:=decide_eq_false h
theorem oB {α β:Type} {a:α} {f:α→Option β} : (some a).bind f=f a:=rfl
theorem lG {α:Type} {xs:List α} {i:Nat} (h:i<xs.length) : xs[i]?=some xs[i]:=List.getElem?_eq_getElem h
theorem lD {α:Type} {xs:List α} {i:Nat} {a:α} : xs.getD i a=xs[i]?.getD a:=List.getD_eq_getElem?_getD
theorem lC {α:Type} {xs:List α} {i:Nat} (h:i<xs.length) : xs.drop i=xs[i]::xs.drop (i+1):=List.drop_eq_getElem_cons h
theorem oI {α:Type} {a b:α} (h:some a=some b) : a=b:=Option.some.inj h
theorem lS {α:Type} {xs:List α} {i:Nat} {a:α} : xs[i]?=some a↔∃ h : i<xs.length,xs[i]=a:=List.getElem?_eq_some_iff
theorem p1 : (0:Nat)<1:=by decide
theorem p2 : (0:Nat)<2:=by decide
theorem p3 : (0:Nat)<3:=by decide
theorem p6 : (0:Nat)<6:=by decide
theorem nT {a b c:Nat} (h:a≤b) (k:b≤c) : a≤c:=Nat.le_trans h k
theorem nL {a b c:Nat} (h:a<b) (k:b≤c) : a<c:=Nat.lt_of_lt_of_le h k
theorem nN {α:Type} : ([] : List α).Nodup:=List.nodup_nil
theorem brc {p:Prop} [Decidable p] {α:Type} {a b r:α} (h:(if p then a else b)=r) : (p∧a=r)∨(¬p∧b=r):=by
 by_cases hp:p
 ·exact .inl ⟨hp,by rwa [if_pos hp] at h⟩
 ·exact .inr ⟨hp,by rwa [if_neg hp] at h⟩
section
variable {P:Program} {C:Cx} {o:Oper} {ops:Array Oper} {Q Q':Exit→Env→Ab→Prop} {env env':Env} {H H':Ab} {k:Nat} {l:List Oper}
theorem AW.sr {id:Nat} {y:Code} (h:RL P C ops (FB (AW P C y Q) Q) 0 ops.toList env H) : AW P C (.seq (.region id ops false) y) Q env H:=.seq (.region h)
theorem AW.gk {c:Code} (ts:List Nat) (h:AW P C c Q (Jq ts env) H) (hr:ts.all (fun t=>Nn ts (get env t))=true:=by rfl) : AW P C c Q env H:=.gh (Gh.keep ts hr) h
theorem AL.gk {c:Code} (ts:List Nat) (h:AL P C c Q (Jq ts env) H) (hr:ts.all (fun t=>Nn ts (get env t))=true:=by rfl) : AL P C c Q env H:=.gh (Gh.keep ts hr) h
theorem RL.gk (ts:List Nat) (h:RL P C ops Q k l (Jq ts env) H) (hr:ts.all (fun t=>Nn ts (get env t))=true:=by rfl) : RL P C ops Q k l env H:=.gh (Gh.keep ts hr) h
theorem rk {c:Code} (ts:List Nat) (h:AW P C c Q' (Jq ts env) H) (hr:ts.all (fun t=>Nn ts (get env t))=true:=by rfl) : RL P C ops (FB (AW P C c Q') Q) k [] env H:=rn (AW.gh (Gh.keep ts hr) h)
theorem ar {x:Operand} {t:Nat} {v:DV} {c:Code} (ts:List Nat) (h:AW P C c Q' (Jq ts ((t,.d v)::env)) H) (hg:grd ops env o true=true:=by rfl) (ho:o.op=.assign x:=by rfl) (hv:lk env x=.d v:=by rfl) (hd:o.dst=some t:=by rfl)
  (hf:Aj (get env t)=false:=by rfl) (ht:okT C.nt t:=by rfl) (hr:ts.all (fun t'=>Nn ts (get ((t,.d v)::env) t'))=true:=by rfl):RL P C ops (FB (AW P C c Q') Q) k [o] env H:=asd (rk ts h hr) hg ho hv hd hf ht
theorem Fn.o1 (t nt:Nat) {f:FuncId} {fn:Func} {c:Code} {args:List DV} {r:AV} (hf:P.funcs[f]?=some fn) (h:AW P {nt:=(0,nt),n0:=0,ne:=0} c (Z6 [.tmp t] r) (CI 0 args) []) (hb:fn.body=some c:=by rfl) (hrs:fn.results=[ResultVar.tmp t].toArray:=by rfl) (hnt:fn.ntmps=nt:=by rfl) (hn:args.length≤nt:=by simp) (hbp:noBp r=true:=by rfl) : Fn P f args r:=Fn.of hf hb hrs hnt hn hbp h
theorem gf2 {o1 o2:Oper} {t1 t2:Nat} (h:RL P C ops Q (k+1+1) l ((t2,.un)::(t1,.un)::env) H) (a1:grd ops env o1 false=true:=by rfl) (b1:o1.dst=some t1:=by rfl) (c1:Aj (get env t1)=false:=by rfl) (d1:okT C.nt t1:=by rfl) (a2:grd ops ((t1,.un)::env) o2 false=true:=by rfl) (b2:o2.dst=some t2:=by rfl) (c2:Aj (get ((t1,.un)::env) t2)=false:=by rfl) (d2:okT C.nt t2:=by rfl) : RL P C ops Q k (o1::o2::l) env H:=gf (gf h a2 b2 c2 d2) a1 b1 c1 d1
theorem gf3 {o1 o2 o3:Oper} {t1 t2 t3:Nat} (h:RL P C ops Q (k+1+1+1) l ((t3,.un)::(t2,.un)::(t1,.un)::env) H) (a1:grd ops env o1 false=true:=by rfl) (b1:o1.dst=some t1:=by rfl) (c1:Aj (get env t1)=false:=by rfl) (d1:okT C.nt t1:=by rfl) (a2:grd ops ((t1,.un)::env) o2 false=true:=by rfl) (b2:o2.dst=some t2:=by rfl) (c2:Aj (get ((t1,.un)::env) t2)=false:=by rfl) (d2:okT C.nt t2:=by rfl) (a3:grd ops ((t2,.un)::(t1,.un)::env) o3 false=true:=by rfl) (b3:o3.dst=some t3:=by rfl) (c3:Aj (get ((t2,.un)::(t1,.un)::env) t3)=false:=by rfl) (d3:okT C.nt t3:=by rfl) : RL P C ops Q k (o1::o2::o3::l) env H:=gf (gf (gf h a3 b3 c3 d3) a2 b2 c2 d2) a1 b1 c1 d1
theorem gf4 {o1 o2 o3 o4:Oper} {t1 t2 t3 t4:Nat} (h:RL P C ops Q (k+1+1+1+1) l ((t4,.un)::(t3,.un)::(t2,.un)::(t1,.un)::env) H) (a1:grd ops env o1 false=true:=by rfl) (b1:o1.dst=some t1:=by rfl) (c1:Aj (get env t1)=false:=by rfl) (d1:okT C.nt t1:=by rfl) (a2:grd ops ((t1,.un)::env) o2 false=true:=by rfl) (b2:o2.dst=some t2:=by rfl) (c2:Aj (get ((t1,.un)::env) t2)=false:=by rfl) (d2:okT C.nt t2:=by rfl) (a3:grd ops ((t2,.un)::(t1,.un)::env) o3 false=true:=by rfl) (b3:o3.dst=some t3:=by rfl) (c3:Aj (get ((t2,.un)::(t1,.un)::env) t3)=false:=by rfl) (d3:okT C.nt t3:=by rfl) (a4:grd ops ((t3,.un)::(t2,.un)::(t1,.un)::env) o4 false=true:=by rfl) (b4:o4.dst=some t4:=by rfl) (c4:Aj (get ((t3,.un)::(t2,.un)::(t1,.un)::env) t4)=false:=by rfl) (d4:okT C.nt t4:=by rfl) : RL P C ops Q k (o1::o2::o3::o4::l) env H:=gf (gf (gf (gf h a4 b4 c4 d4) a3 b3 c3 d3) a2 b2 c2 d2) a1 b1 c1 d1
theorem aw {c:Code} (h:AW P C c Q env H) : AW P C c Q env H:=h
end
end Go.FL
namespace Go.FL
open Go Go.RowKit
def PV (P:Program) (C:Cx) (o:Oper) (env:Env) (H:Ab) (av:AV) : Prop :=
 (∀ c,o.op≠.defer c)∧∀ X a w I μ O,X.n0=C.n0→Sim P X env H a w I μ O→∃ v,(execOp a.eval o).run P w=.ok (.value v) w∧Hand P w I μ O av v
section
variable {P:Program} {C:Cx} {X:Snap} {o:Oper} {env env':Env} {H H':Ab} {a:Act} {w w':World} {I I':Nat→Prop} {μ μ':List Nat} {O O':Nat→Option Loc} {t:Nat}
theorem JE {x:Operand} {ax:AO} (ho:o.op=.move x∨o.op=.assign x) (hx:AA x ax=true) (hr:AI (look env ax)=false) (hn:noOwn (look env ax)=true) : PV P C o env H ((look env ax)) :=
 ⟨(by rcases ho with ho|ho<;>simp [ho]),(fun X a w I μ O _ hs=>⟨_,by rcases ho with ho|ho<;>simp [execOp,ho],hs.look_copy hx hr hn⟩)⟩
theorem XQ {c x y:Operand} {ac ax:AO} {b:Bool} (ho:o.op=.pick c x y) (hc:AA c ac=true) (hcv:look env ac=.d (.b b)) (hx:AA (if b then x else y) ax=true) (hr:AI (look env ax)=false) (hn:noOwn (look env ax)=true) : PV P C o env H ((look env ax)) :=
 ⟨(by simp [ho]),(fun X a w I μ O _ hs=>⟨a.eval (if b then x else y),by
  have:=hs.look_b hc hcv
  cases b<;>simp [execOp,ho,this,asBool],hs.look_copy hx hr hn⟩)⟩
theorem WZ {op:BinOp} {xt yt:TypeId} {x y:Operand} {ax ay:AO} {k k':IntKind} {m n:Int} {c:Prop} {d:DV} (ho:o.op=.binOp op xt x y yt) (hx:AA x ax=true) (hy:AA y ay=true) (hxv:look env ax=.d (.i k m)) (hyv:look env ay=.d (.i k' n)) (hk:k'=k∨EF op=true) (hb:NA op k m n=some (c,d)) (hc:c) : PV P C o env H ((.d d)) :=
 ⟨(by simp [ho]),(fun X a w I μ O _ hs=>by
  obtain ⟨v,h1,h2⟩:=RA (P:=P) hb hk hc xt w
  refine ⟨v,?_,.of_rep (h2 I)⟩
  simp [execOp,ho,hs.look_i hx hxv,hs.look_i hy hyv,eqGuard_at_int,h1])⟩
theorem ZQ {x:Operand} {ax:AO} {xt:TypeId} {b:Bool} (ho:o.op=.unOp .not xt x) (hx:AA x ax=true) (hxv:look env ax=.d (.b b)) : PV P C o env H ((.d (.b (!b)))) :=
 ⟨(by simp [ho]),(fun X a w I μ O _ hs=>⟨.bool (!b),by simp [execOp,ho,hs.look_b hx hxv,Op.unary],.of_rep (.b _)⟩)⟩
theorem ZR {x:Operand} {ax:AO} {xt:TypeId} {k:IntKind} {n:Int} (ho:o.op=.unOp .neg xt x) (hx:AA x ax=true) (hxv:look env ax=.d (.i k n)) : PV P C o env H ((.d (.i k (k.wrap (0-n))))) :=
 ⟨(by simp [ho]),(fun X a w I μ O _ hs=>⟨.int k (k.wrap (0-n)),by simp [execOp,ho,hs.look_i hx hxv,Op.unary,Op.intArith],.of_rep (.i _ _)⟩)⟩
theorem XE {op:BinOp} {xt yt:TypeId} {x y:Operand} {ax ay:AO} {b c:Bool} (ho:o.op=.binOp op xt x y yt) (hop:op=.eql∨op=.neq) (hu:P.underlying xt=some .bool) (hx:AA x ax=true) (hy:AA y ay=true) (hxv:look env ax=.d (.b b)) (hyv:look env ay=.d (.b c)) : PV P C o env H ((.d (.b (if op=.eql then b == c else b != c)))) :=
 ⟨(by simp [ho]),(fun X a w I μ O _ hs=>by
  refine ⟨.bool (if op=.eql then b == c else b != c),?_,.of_rep (.b _)⟩
  have he:(Op.equal xt (.bool b) (.bool c)).run P w=.ok (b == c) w:=run_equal_bool w xt b c hu
  rcases hop with rfl|rfl
  ·simp only [execOp,ho,hs.look_b hx hxv,hs.look_b hy hyv,eqGuard_at_bool,binOp,Sem.run_bind,Sem.run_pure,Result.andThen_ok,he]
   rfl
  ·simp only [execOp,ho,hs.look_b hx hxv,hs.look_b hy hyv,eqGuard_at_bool,binOp,Sem.run_bind,Sem.run_pure,Result.andThen_ok,he]
   rfl)⟩
theorem Ox {x:Operand} {ax:AO} {ty:Nat} {id off:Nat} {cs:List AV} {c:AV} (ho:o.op=.load ty x) (hx:AA x ax=true) (hag:BH P ty=some false) (hv:look env ax=.bp id off) (hH:H[id]?=some (.box cs)) (hc:cs[off]?=some c) (hn:noOwn c=true) : PV P C o env H (c) :=
 ⟨(by simp [ho]),(fun X a w I μ O _ hs=>by
  obtain ⟨blk,hm,he⟩:=hs.bp hx hv
  obtain ⟨v,bk,h1,h2⟩:=hs.cell hH hc hm
  have:=noOwn_bs h2 hn;subst this
  exact ⟨v,by simp [execOp,ho,Instr.loadAt,he,Instr.sureAddr,Bo hag h1],[],h2,nN,by simp⟩)⟩
theorem WE {x:Operand} {s ty:Nat} {p:Pl} {i k:Nat} {e:TypeId} {xs:List DV} (ho:o.op=.load ty x) (hx:AA x (.t s)=true) (hag:BH P ty=some false) (hv:get env s=.ep p i k) (hp:AB env H p=.own e xs) : PV P C o env H ((.d ((xs.getD i default).cells.getD k default))) :=
 ⟨(by simp [ho]),(fun X a w I μ O _ hs=>by
  obtain ⟨b,vs,he,h3,h4,h5,h6,h7,h8⟩:=hs.ep_cells hp (hs.epr hx hv)
  have hkl:k<(xs.getD i default).cells.length:=by omega
  have hck:(xs.getD i default).cells[k]?=some ((xs.getD i default).cells.getD k default):=by
   generalize (xs.getD i default).cells=l at hkl
   rw [lD,lG hkl];rfl
  obtain ⟨v,g1,g2⟩:=h8.get k _ hck
  have hc:w.cell? ⟨b,i * Av P e+k,none⟩=some v:=by
   have:=h5 0 v (by rw [List.getElem?_drop];simpa using g1)
   simpa using this
  exact ⟨v,by simp [execOp,ho,Instr.loadAt,he,Instr.sureAddr,Bo hag hc],.of_rep g2⟩)⟩
theorem T5 {x:Operand} {ax:AO} {ty:Nat} {cs:List DV} (ho:o.op=.load ty x) (hx:AA x ax=true) (hag:BH P ty=some false) (hv:look env ax=.d (.ptr cs)) (hc:0<cs.length) : PV P C o env H ((.d (cs.getD 0 default))) :=
 ⟨(by simp [ho]),(fun X a w I μ O _ hs=>by
  obtain ⟨b,off,vs,he,_,h2,h3⟩:=hs.dp hx hv
  obtain ⟨v,g1,g2⟩:=h3.get 0 (cs.getD 0 default) (by rw [lD,lG hc];rfl)
  have hcell:w.cell? ⟨b,off,none⟩=some v:=by simpa using h2 0 v g1
  exact ⟨v,by simp [execOp,ho,Instr.loadAt,he,Instr.sureAddr,Bo hag hcell],.of_rep g2⟩)⟩
theorem Sl {x:Operand} {ax:AO} {ty n:Nat} {cs:List DV} (ho:o.op=.load ty x) (hx:AA x ax=true) (hag:BH P ty=some true) (hn:Av P ty=n) (hn0:0<n) (hv:look env ax=.d (.ptr cs)) (hc:n≤cs.length) : PV P C o env H ((.d (.ag (cs.take n)))) :=
 ⟨(by simp [ho]),(fun X a w I μ O _ hs=>by
  obtain ⟨b,off,vs,he,_,h2,h3⟩:=hs.dp hx hv
  have hl:(vs.take n).length=n:=by rw [List.length_take,← h3.length];omega
  exact ⟨_,by simp only [execOp,ho,Instr.loadAt,he,Instr.sureAddr,Sem.run_bind,Sem.run_pure,Result.andThen_ok,BX hag hn hn0 (h2.take n) hl],.of_rep (.ag _ _ (h3.take n))⟩)⟩
theorem TT {x:Operand} {s ty n:Nat} {p:Pl} {i k:Nat} {e:TypeId} {xs:List DV} (ho:o.op=.load ty x) (hx:AA x (.t s)=true) (hag:BH P ty=some true) (hn:Av P ty=n) (hn0:0<n) (hv:get env s=.ep p i k) (hp:AB env H p=.own e xs) (hc:k+n≤(xs.getD i default).cells.length) : PV P C o env H ((.d (.ag (((xs.getD i default).cells.drop k).take n)))) :=
 ⟨(by simp [ho]),(fun X a w I μ O _ hs=>by
  obtain ⟨b,vs,he,h3,h4,h5,h6,h7,h8⟩:=hs.ep_cells hp (hs.epr hx hv)
  have hl:((vs.drop k).take n).length=n:=by rw [List.length_take,List.length_drop];omega
  exact ⟨_,by simp only [execOp,ho,Instr.loadAt,he,Instr.sureAddr,Sem.run_bind,Sem.run_pure,Result.andThen_ok,BX hag hn hn0 (h5.take n) hl],.of_rep (.ag _ _ ((h8.drop k).take n))⟩)⟩
theorem Aa1 {x:Operand} {ax:AO} (ho:o.op=.nilCheck x) (hx:AA x ax=true) (hv:(∃ id off,look env ax=.bp id off)∨(∃ cs,look env ax=.d (.ptr cs))) : PV P C o env H ((look env ax)) :=
 ⟨(by simp [ho]),(fun X a w I μ O _ hs=>by
  rcases hv with ⟨id,off,hv⟩|⟨cs,hv⟩
  ·obtain ⟨blk,hm,he⟩:=hs.bp hx hv
   exact ⟨.pointer (some ⟨blk,off,none⟩),by simp [execOp,ho,he],by rw [hv];exact ⟨[],.bp _ _ _ hm,nN,by simp⟩⟩
  ·obtain ⟨b,off,vs,he,h1,h2,h3⟩:=hs.dp hx hv
   exact ⟨.pointer (some ⟨b,off,none⟩),by simp [execOp,ho,he],by rw [hv];exact .of_rep (.ptr _ _ _ _ h1 h2 h3)⟩)⟩
theorem Ud {x:Operand} {ax:AO} {s f off n:Nat} {id p:Nat} (ho:o.op=.fieldAddr s x f) (hx:AA x ax=true) (hf:Br P s f=some (off,n)) (hn:0<n) (hv:look env ax=.bp id p) : PV P C o env H ((.bp id (p+off))) :=
 ⟨(by simp [ho]),(fun X a w I μ O _ hs=>by
  obtain ⟨blk,hm,he⟩:=hs.bp hx hv
  exact ⟨.pointer (some ⟨blk,p+off,none⟩),by simp [execOp,ho,he,IL hf hn],[],.bp _ _ _ hm,nN,by simp⟩)⟩
theorem Sx {x:Operand} {ax:AO} {s f off n:Nat} {cs:List DV} (ho:o.op=.fieldAddr s x f) (hx:AA x ax=true) (hf:Br P s f=some (off,n)) (hn:0<n) (hv:look env ax=.d (.ptr cs)) : PV P C o env H ((.d (.ptr (cs.drop off)))) :=
 ⟨(by simp [ho]),(fun X a w I μ O _ hs=>by
  obtain ⟨b,p,vs,he,h1,h2,h3⟩:=hs.dp hx hv
  exact ⟨.pointer (some ⟨b,p+off,none⟩),by simp [execOp,ho,he,IL hf hn],.of_rep (.ptr _ _ _ _ h1 (h2.drop off) (h3.drop off))⟩)⟩
theorem UP {x i:Operand} {ax ai:AO} {ty e sz by_:Nat} {xs:List DV} {k:IntKind} {n:Int} (ho:o.op=.indexAddr ty x i) (hx:AA x ax=true) (hi:AA i ai=true) (hty:B3 P ty=some (e,sz,by_)) (hv:look env ax=.d (.sl xs)) (hiv:look env ai=.d (.i k n)) (h0:0≤n) (hl:n<xs.length) (hsz:(xs.getD n.toNat default).cells.length=sz) : PV P C o env H ((.d (.ptr (xs.getD n.toNat default).cells))) :=
 ⟨(by simp [ho]),(fun X a w I μ O _ hs=>by
  obtain ⟨inf,s1,s2,s3,_,s5⟩:=C9 hty
  have hr:=hs.look_d hx hv
  have hni:=hs.look_i hi hiv
  generalize hev:a.eval x=u at hr
  cases hr with
  | sl0=>simp at hl;omega
  | sl _ bk off sz' c vs hne hc hI hsz' hh hrow =>
   have hlt:n.toNat<xs.length:=by omega
   have hg:xs[n.toNat]?=some (xs.getD n.toNat default):=by
    rw [lD,lG hlt];rfl
   obtain ⟨q1,q2⟩:=hrow.get _ _ hg
   have hszz:sz'=sz:=by rw [← q1,hsz]
   subst hszz
   refine ⟨.pointer (some ⟨bk,off+n.toNat * sz',none⟩),?_,.of_rep (.ptr _ _ _ _ hI ((hh.drop (n.toNat * sz')).take sz') q2)⟩
   have hc1:0≤n∧n<(xs.length:Int):=⟨h0,hl⟩
   simp [execOp,ho,hev,hni,Instr.indexAt,asIntOf,run_underlying s1,hc1,DR s2,s3,CX])⟩
theorem YY {x i:Operand} {ax ai:AO} {ty:Nat} {s:ByteArray} {k:IntKind} {n:Int} (ho:o.op=.index ty x i) (hx:AA x ax=true) (hi:AA i ai=true) (hty:P.underlying ty=some .string) (hv:look env ax=.d (.s s)) (hiv:look env ai=.d (.i k n)) (h0:0≤n) (hl:n<s.size) : PV P C o env H ((.d (.i .u8 ((s.data.toList.getD n.toNat 0).toNat)))) :=
 ⟨(by simp [ho]),(fun X a w I μ O _ hs=>by
  have hs1:=hs.look_s hx hv
  have hni:=hs.look_i hi hiv
  have hlt:n.toNat<s.size:=by omega
  refine ⟨.int .u8 ((s.data.toList.getD n.toNat 0).toNat),?_,.of_rep (.i _ _)⟩
  have hg:s[n.toNat]?=some (s.data.toList.getD n.toNat 0):=by
   rw [getElem?_pos s n.toNat hlt]
   have:n.toNat<s.data.toList.length:=by simpa using hlt
   rw [lD,lG this];rfl
  simp [execOp,ho,hs1,hni,Instr.index,asIntOf,run_underlying hty,h0,hg])⟩
theorem Vs {x:Operand} {ax:AO} {ty e sz by_:Nat} {lo hi mx:Option Operand} {al ah am:Option AO} {xs:List DV} {l h m:Int} (ho:o.op=.slice ty x lo hi mx) (hx:AA x ax=true) (hfl:Cc lo al=true) (hfh:Cc hi ah=true) (hfm:Cc mx am=true) (hty:B3 P ty=some (e,sz,by_)) (hv:look env ax=.d (.sl xs)) (hl:D7 env 0 al=some l) (hh:D7 env xs.length ah=some h) (hm:D7 env h am=some m) (hmh:am=none∨ah≠none) (h0:0≤l) (h1:l≤h) (h2:h≤m) (h3:m≤xs.length) (hsz:∀ x∈xs,x.cells.length=sz) : PV P C o env H ((.d (.sl ((xs.drop l.toNat).take (h.toNat-l.toNat))))) :=
 ⟨(by simp [ho]),(fun X a w I μ O _ hs=>by
  obtain ⟨inf,s1,s2,s3,_,s5⟩:=C9 hty
  have hr:=hs.look_d hx hv
  obtain ⟨A,c,hev,hc⟩:=hr.sl_len
  rw [hev] at hr
  have b1:=hs.bound hfl hl
  have b2:=hs.bound hfh hh
  have b3:=hs.bound hfm hm
  have hmx:mx=none↔am=none:=by cases mx<;>cases am<;>simp [Cc] at hfm ⊢
  have hhi:hi=none↔ah=none:=by cases hi<;>cases ah<;>simp [Cc] at hfh ⊢
  have hb:∃ m':Nat,(Instr.sliceBounds true xs.length c (lo.map a.eval) (hi.map a.eval) (mx.map a.eval)).run P w=.ok (l.toNat,h.toNat,m') w∧h.toNat≤m':=by
   have hh':(hi.map a.eval=none∧h=(xs.length:Int)∧mx.map a.eval=none)∨∃ k,hi.map a.eval=some (.int k h):=by
    rcases b2 with ⟨g1,g2⟩|g
    ·refine .inl ⟨g1,g2,?_⟩
     rcases hmh with g|g
     ·rw [hmx.2 g];rfl
     ·have:hi=none:=by cases hi<;>simp at g1 ⊢
      exact absurd (hhi.1 this) g
    ·exact .inr g
   by_cases hmn:mx=none
   ·have e1:h≤(c:Int):=by omega
    exact ⟨c,by simpa using E5 (P:=P) (w:=w) (isS:=true) h0 h1 b1 hh' (m:=c) (.inl ⟨by rw [hmn];rfl,rfl⟩) e1 (Int.le_refl _),by omega⟩
   ·rcases b3 with ⟨g1,_⟩|g
    ·exact absurd (by cases mx<;>simp at g1 ⊢) hmn
    ·exact ⟨m.toNat,E5 (P:=P) (w:=w) (isS:=true) h0 h1 b1 hh' (.inr g) h2 (by omega),by omega⟩
  obtain ⟨m',hb1,hb2⟩:=hb
  refine ⟨.slice (if m'=l.toNat then A else A.map (·.add (l.toNat * sz))) (h.toNat-l.toNat) (m'-l.toNat),by simp only [execOp,ho,hev,Sem.run_bind,Md s1 s2 hb1,Result.andThen_ok,Sem.run_pure,s3],.of_rep ?_⟩
  exact hr.cut hsz (by omega) (by omega) hb2)⟩
theorem ZM {c:Call} {x:Operand} {ty:Nat} {xs:List DV} (ho:o.op=.call c) (hc:c.callee=.builtin .len) (hx:c.args=#[x]) (hty:c.argTypes=#[ty]) (hu:P.underlying ty=some (.slice (P.elem ty))) (hv:rd env H (lk env x)=some xs) (hsz:∃ sz,∀ x∈xs,x.cells.length=sz) : PV P C o env H ((.d (.i .i64 xs.length))) :=
 ⟨(by simp [ho]),(fun X a w I μ O _ hs=>by
  obtain ⟨sz,hsz⟩:=hsz
  obtain ⟨news,⟨_,A,cc,h2,_⟩,_⟩:=hs.rd hv hsz
  exact ⟨.int .i64 xs.length,by simp [execOp,ho,resolve,hc,hx,hty,invoke,builtin,h2,run_len_slice w ty o.type A xs.length cc hu,goInt],.of_rep (.i _ _)⟩)⟩
theorem Vl {c:Call} {x:Operand} {ty:Nat} {s:ByteArray} (ho:o.op=.call c) (hc:c.callee=.builtin .len) (hx:c.args=#[x]) (hty:c.argTypes=#[ty]) (hu:P.underlying ty=some .string) (hv:lk env x=.d (.s s)) : PV P C o env H ((.d (.i .i64 s.size))) :=
 ⟨(by simp [ho]),(fun X a w I μ O _ hs=>by
  have hr:=hs.deep (x:=x) (v:=.s s) (by rw [hv];rfl)
  generalize hev:a.eval x=u at hr
  cases hr
  exact ⟨.int .i64 s.size,by simp [execOp,ho,resolve,hc,hx,hty,invoke,builtin,hev,run_len_string w ty o.type s hu,goInt],.of_rep (.i _ _)⟩)⟩
theorem Zc {x:Operand} {src dst:Nat} {k k':IntKind} {n:Int} (ho:o.op=.convert src dst x) (hs':∃ q,P.underlying src=some (.int q)) (hd':P.underlying dst=some (.int k')) (hv:lk env x=.d (.i k n)) : PV P C o env H ((.d (.i k' (k'.wrap n)))) :=
 ⟨(by simp [ho]),(fun X a w I μ O _ hs=>by
  have hr:=hs.deep (x:=x) (v:=.i k n) (by rw [hv];rfl)
  generalize hev:a.eval x=u at hr
  cases hr
  obtain ⟨q,hq⟩:=hs'
  exact ⟨.int k' (k'.wrap n),by simp [execOp,ho,hev,convert,run_underlying hq,run_underlying hd',Conv.intToInt],.of_rep (.i _ _)⟩)⟩
theorem YX {c:Call} {x y:Operand} {k k':IntKind} {m n:Int} (ho:o.op=.call c) (hc:c.callee=.builtin .max) (hx:c.args=#[x,y]) (hxv:lk env x=.d (.i k m)) (hyv:lk env y=.d (.i k' n)) : PV P C o env H ((.d (.i k (if m<n then n else m)))) :=
 ⟨(by simp [ho]),(fun X a w I μ O _ hs=>by
  have e1:a.eval x=.int k m:=by
   have hr:=hs.deep (x:=x) (v:=.i k m) (by rw [hxv];rfl)
   generalize a.eval x=u at hr
   cases hr;rfl
  have e2:a.eval y=.int k' n:=by
   have hr:=hs.deep (x:=y) (v:=.i k' n) (by rw [hyv];rfl)
   generalize a.eval y=u at hr
   cases hr;rfl
  refine ⟨.int k (if m<n then n else m),?_,.of_rep (.i _ _)⟩
  simp [execOp,ho,resolve,hc,hx,invoke,builtin,e1,e2,Builtin.max_,Builtin.max2,gt_iff_lt])⟩
end
end Go.FL
namespace Go.FL
open Go Go.RowKit
def Wn (P:Program) (env:Env) (H:Ab) (a:Act) (w:World) (I:Nat→Prop) (μ:List Nat) : AV→Value→List Nat→Prop
 | .ref p off len,v,bs=>bs=[]∧RefRel P env H a w μ p off len v
 | .ep p i k,v,bs=>bs=[]∧Kq P env H a w μ p i k v
 | av,v,bs=>ARep P w I μ av v bs
def VOK (P:Program) (C:Cx) (o:Oper) (env:Env) (H:Ab) (av:AV) : Prop :=
 ∀ X a w I μ O (next:Act→World→Prop) Q,X.nt=C.nt→X.n0=C.n0→X.ne=C.ne→Sim P X env H a w I μ O →
  (∀ v w' I' bs,Below w.heap.size w w'→(∀ b,I b→I' b)→(∀ b,I' b→b<w'.heap.size∧(b<w.heap.size→I b))→Wn P env H a w' I' μ av v bs→bs.Nodup →
   (∀ b∈bs,w.heap.size≤b∧b<w'.heap.size∧¬I' b)→next (a.put o.dst v) w')→o.wpIn (om C.ro) 0 P a w next Q
section
variable {P:Program} {C:Cx} {X:Snap} {o:Oper} {ops:Array Oper} {Q:Exit→Env→Ab→Prop} {env env' envi:Env} {H H':Ab} {a:Act} {w w':World} {I I':Nat→Prop} {μ μ':List Nat} {O O':Nat→Option Loc}
 {K:Env→Ab→Prop} {k:Nat} {l:List Oper} {av:AV}
theorem Sim.noR (hs:Sim P X env H a w I μ O) : Sim P X env H a w I μ (fun b=>match O b with | some .r=>none | x=>x):=by
 have hO:∀ b l,O b=some l→l≠.r→(match O b with|some .r=>none|x=>x)=some l:=fun b l h hl=>by
  rw [h];cases l<;>first|rfl|exact absurd rfl hl
 refine ⟨{hs.toMem with
  kO:=fun b hk=>by rw [hs.kO b hk]
  own:=fun b l hl=>by
   cases hx:O b with
   | none=>rw [hx] at hl;cases hl
   | some l'=>exact hs.own b l' hx
  heap:=fun id o' ho'=>by
   obtain ⟨blk,ds,j1,j2,j3,j4⟩:=hs.heap id o' ho'
   exact ⟨blk,ds,j1,j2,fun hn=>⟨(j3 hn).1,fun b hb=>hO b _ ((j3 hn).2 b hb) (by simp)⟩,j4⟩},fun t=>?_,hs.nt,hs.dfs⟩
 exact (hs.envr t).keepG (fun _ h=>h) (fun _ _=>rfl) (fun _ _ h=>h) (fun b hb=>⟨rfl,hO b _ hb (by simp)⟩) fun p e xs hp=>⟨hp,fun v hv=>hv⟩
theorem Tv {v:Value} {bs:List Nat} (h:ARep P w I μ av v bs) (hr:AI av=false) : Wn P env H a w I μ av v bs:=by
 cases av<;>first|exact h|simp [AI] at hr
theorem VOK.pv (h:PV P C o env H av) (hr:AI av=false:=by rfl) : VOK P C o env H av:=fun X a w I μ O next Q h1 h2 h3 hs hn=>by
 obtain ⟨v,hrun,bs,k1,k2,k3⟩:=h.2 X a w I μ _ h2 hs.noR
 have hb:bs=[]:=by
  cases bs with
  | nil=>rfl
  | cons b bs =>
   have:=k3 b (by simp)
   simp only at this
   split at this
   ·cases this
   ·rename_i hx;exact absurd this hx
 subst hb
 refine ⟨fun _ _=>trivial,?_⟩
 rw [Oper.semAt_eq _ _ _ h.1,hrun,Oper.uponIn_value]
 exact hn v w I [] (Below.refl _ _) (fun _ h=>h) (fun b hi=>⟨hs.ilt b hi,fun _=>hi⟩) (Tv k1 hr) nN (by simp)
theorem VOK.rel (hdef:∀ c,o.op≠.defer c) (h:∀ X a w I μ O,X.n0=C.n0→Sim P X env H a w I μ O→∃ v,(execOp a.eval o).run P w=.ok (.value v) w∧Wn P env H a w I μ av v []) : VOK P C o env H av :=
 fun X a w I μ O next Q h1 h2 h3 hs hn=>by
  obtain ⟨v,hrun,k1⟩:=h X a w I μ O h2 hs
  refine ⟨fun _ _=>trivial,?_⟩
  rw [Oper.semAt_eq _ _ _ hdef,hrun,Oper.uponIn_value]
  exact hn v w I [] (Below.refl _ _) (fun _ h=>h) (fun b hi=>⟨hs.ilt b hi,fun _=>hi⟩) k1 nN (by simp)
theorem Sim.less (hs:Sim P X env H a w I μ O) (h1:∀ s,get envi s=.un∨get envi s=get env s) (h2:∀ s q off len,get envi s=.ref (.t q) off len→get envi q=get env q) (h3:∀ s q i k,get envi s=.ep (.t q) i k→get envi q=get env q) :
  Sim P X envi H a w I μ O:=by
 refine ⟨hs.toMem,fun t=>?_,hs.nt,hs.dfs⟩
 rcases h1 t with h|h
 ·rw [h];exact .un
 ·have ht:=hs.envr t
  rw [← h] at ht
  cases hg:get envi t with
  | ref p off len =>
   rw [hg] at ht
   obtain ⟨e,xs,A,n,c,k1,k2⟩:=ht
   refine ⟨e,xs,A,n,c,?_,k2⟩
   cases p with
   | t q=>exact (h2 t q off len hg).trans k1
   | c id o=>exact k1
  | ep p i k =>
   rw [hg] at ht
   obtain ⟨e,xs,b,n,c,k1,k2⟩:=ht
   refine ⟨e,xs,b,n,c,?_,k2⟩
   cases p with
   | t q=>exact (h3 t q i k hg).trans k1
   | c id o=>exact k1
  | _=>rw [hg] at ht;obtain ⟨bs,q1,q2,q3⟩:=ht.plain rfl;exact .of q1 q2 q3
theorem VOK.step {t:Nat} (hv:VOK P C o envi H av) (hd:o.dst=some t) (ht:okT C.nt t) (h1:∀ s,get envi s=.un∨get envi s=get env s) (h2:∀ s q off len,get envi s=.ref (.t q) off len→get envi q=get env q)
  (h3:∀ s q i k,get envi s=.ep (.t q) i k→get envi q=get env q) (hf:Aj (get env t)=false) (hp:∀ p,(∃ off len,av=.ref p off len)∨(∃ i k,av=.ep p i k)→p≠.t t)
  (n1:X.nt=C.nt) (n2:X.n0=C.n0) (n3:X.ne=C.ne) (hs:Sim P X env H a w I μ O) {next:Act→World→Prop} {Q:Exit→Act→World→Prop}
  (hn:∀ a' w' I' O',Sim P X ((t,av)::env) H a' w' I' μ O'→next a' w'):o.wpIn (om C.ro) 0 P a w next Q:=by
 refine hv X a w I μ O next Q n1 n2 n3 (hs.less h1 h2 h3) fun v w' I' bs k1 k2 k3 k4 k5 k6=>?_
 have hpl:∀ p e xs,AB envi H p=.own e xs→AB env H p=.own e xs:=fun p e xs hx=>by
  cases p with
  | t q =>
   rcases h1 q with h|h
   ·rw [show AB envi H (.t q)=get envi q from rfl,h] at hx;cases hx
   ·exact h.symm.trans hx
  | c id o=>exact hx
 have hs':=hs.called k1 k2 k3
 rw [hd]
 rw [← Ak hf] at hn
 have ht':okT X.nt t:=by rw [n1];exact ht
 have gen:ARep P w' I' μ av v bs→next (a.put (some t) v) w':=fun hr=>by
  have h:=hs'.newR bs fun b hm=>by
   obtain ⟨m1,m2,m3⟩:=k6 b hm
   refine ⟨m2,.inl ?_,m3,fun hk=>by have:=hs.klt b hk;have:=hs.size;omega⟩
   cases hO:O b with
   | none=>rfl
   | some l=>have:=(hs.own b l hO).1;omega
  exact hn _ _ _ _ (h.put_hand ht' ⟨bs,hr,k5,fun b hm=>by simp [hm]⟩)
 cases av with
 | ref p off len =>
  obtain ⟨e,xs,A,n,c,q1,q2⟩:=k4.2
  exact hn _ _ _ _ (hs'.put_ref ht' (hp p (.inl ⟨off,len,rfl⟩)) ⟨e,xs,A,n,c,hpl _ _ _ q1,q2⟩)
 | ep p i k =>
  obtain ⟨e,xs,b,n,c,q1,q2⟩:=k4.2
  exact hn _ _ _ _ (hs'.put_ep ht' (hp p (.inr ⟨i,k,rfl⟩)) ⟨e,xs,b,n,c,hpl _ _ _ q1,q2⟩)
 | _=>exact gen k4
def Bq (rs:List Nat) (vals:Env) : Env:=vals.filter fun x=>rs.contains x.1
def CB (env:Env) : Bool:=env.all fun x=>match x.2 with
 | .ref (.t q) _ _=>Aj (get env q)
 | .ep (.t q) _ _=>Aj (get env q)
 | _=>true
def GW (t:Nat) : AV→Bool
 | .ref (.t q) _ _=>q != t
 | .ep (.t q) _ _=>q != t
 | _=>true
def P0 : AV→Bool
 | .un=>true
 | _=>false
inductive DL (P:Program) (C:Cx) (ops:Array Oper) (H:Ab) (env0:Env) : Env→List Oper→Env→Prop
 | nil (vals:Env):DL P C ops H env0 vals [] vals
 | run {vals fin:Env} {o:Oper} {t:Nat} {v:AV} {l:List Oper} (hd:o.dst=some t) (ht:okT C.nt t) (h0:P0 (get env0 t)=true) (hn:(vals.map (·.1)).contains t=false) (hs:GW t v=true)
   (hg:grd ops (Bq (o.looksAt ops) vals++env0) o true=true) (hv:VOK P C o (Bq (o.looksAt ops) vals++env0) H v) (hr:CB (Bq (o.looksAt ops) vals++env0)=true) (h:DL P C ops H env0 ((t,v)::vals) l fin):DL P C ops H env0 vals (o::l) fin
 | skip {vals fin:Env} {o:Oper} {t:Nat} {l:List Oper} (hd:o.dst=some t) (ht:okT C.nt t) (h0:P0 (get env0 t)=true) (hn:(vals.map (·.1)).contains t=false)
   (hg:grd ops (Bq (o.looksAt ops) vals++env0) o false=true) (hr:CB (Bq (o.looksAt ops) vals++env0)=true) {v:AV} (hv:v=.un∨v=.tup []) (h:DL P C ops H env0 ((t,v)::vals) l fin):DL P C ops H env0 vals (o::l) fin
def PO (P:Program) (C:Cx) (ops:Array Oper) (H:Ab) (env0 vals:Env) (o:Oper) (t:Nat) (v:AV) : Prop :=
 o.dst=some t∧okT C.nt t∧get env0 t=.un∧(∀ x∈vals,x.1≠t)∧GW t v=true∧CB (Bq (o.looksAt ops) vals++env0)=true ∧
 ((grd ops (Bq (o.looksAt ops) vals++env0) o true=true∧VOK P C o (Bq (o.looksAt ops) vals++env0) H v)∨(grd ops (Bq (o.looksAt ops) vals++env0) o false=true∧(v=.un∨v=.tup [])))
theorem S3 {v:AV} (h:P0 v=true) : v=.un:=by cases v<;>first | rfl | cases h
theorem DL.table {env0 vals fin:Env} (h:DL P C ops H env0 vals l fin) : ∃ tv : List (Nat×AV),tv.length=l.length∧fin=tv.reverse++vals ∧
  ∀ (i:Nat) o,l[i]?=some o→∃ t v,tv[i]?=some (t,v)∧PO P C ops H env0 ((tv.take i).reverse++vals) o t v:=by
 induction h with
 | nil vals=>exact ⟨[],rfl,rfl,fun i o h=>by simp at h⟩
 | @run vals fin o t v l hd ht h0 hn hs hg hv hr h ih =>
  obtain ⟨tv,k1,k2,k3⟩:=ih
  refine ⟨(t,v)::tv,by simp [k1],by rw [k2];simp,fun i o' hi=>?_⟩
  cases i with
  | zero =>
   simp at hi;subst hi
   refine ⟨t,v,rfl,hd,ht,S3 h0,fun x hx e=>?_,hs,hr,.inl ⟨hg,hv⟩⟩
   subst e
   have:(vals.map (·.1)).contains x.1=true:=List.contains_iff_mem.2 (List.mem_map_of_mem hx)
   rw [hn] at this;cases this
  | succ i =>
   obtain ⟨t',v',m1,m2⟩:=k3 i o' (by simpa using hi)
   refine ⟨t',v',by simpa using m1,?_⟩
   simpa using m2
 | @skip vals fin o t l hd ht h0 hn hg hr v hv h ih =>
  obtain ⟨tv,k1,k2,k3⟩:=ih
  refine ⟨(t,v)::tv,by simp [k1],by rw [k2];simp,fun i o' hi=>?_⟩
  cases i with
  | zero =>
   simp at hi;subst hi
   refine ⟨t,v,rfl,hd,ht,S3 h0,fun x hx e=>?_,by rcases hv with rfl|rfl<;>rfl,hr,.inr ⟨hg,hv⟩⟩
   subst e
   have:(vals.map (·.1)).contains x.1=true:=List.contains_iff_mem.2 (List.mem_map_of_mem hx)
   rw [hn] at this;cases this
  | succ i =>
   obtain ⟨t',v',m1,m2⟩:=k3 i o' (by simpa using hi)
   exact ⟨t',v',by simpa using m1,by simpa using m2⟩
def EY (ops:Array Oper) (s j:Nat) : Bool:=match ops[s]? with
 | some o=>o.after.any fun e=>Region.binds .any e&&e.on == j
 | none=>false
def IF (ops:Array Oper) : Nat→Nat→Nat→Bool
 | 0,_,_=>false
 | f+1,s,j=>EY ops s j||match ops[s]? with
  | some o=>o.after.any fun e=>Region.binds .any e&&IF ops f e.on j
  | none=>false
def JC (ops:Array Oper) (m:Nat) : Bool :=
 ((List.range ops.size).all fun i=>match ops[i]? with
  | some o=>o.after.all (fun e=>!Region.binds .any e||decide (e.on<i))&&(match o.op with|.select ..=>false|_=>true) &&
   (if i<m then (List.range m).all fun j=>match ops[j]? with
     | some oj=>match oj.dst with
      | some t=>!(o.looksAt ops).contains t||(decide (j<i)&&EY ops i j)
      | none=>false
     | none=>false
    else (List.range i).all fun j=>IF ops i i j)
  | none=>false)&&decide (m≤ops.size)
theorem Ft {s j:Nat} (h:EY ops s j=true) : ∃ o,ops[s]?=some o∧∃ e∈o.after,Region.binds .any e=true∧e.on=j:=by
 unfold EY at h
 split at h
 ·rename_i o ho
  obtain ⟨i,hi,h2⟩:=Array.any_eq_true.1 h
  simp only [Bool.and_eq_true,beq_iff_eq] at h2
  exact ⟨o,ho,_,Array.getElem_mem hi,h2⟩
 ·cases h
def RM (ops:Array Oper) (L:Array Bool) : Prop:=∀ i o,L.getD i false=true→ops[i]?=some o→∀ e∈o.after,Region.binds .any e=true→L.getD e.on false=true
theorem F9 {L:Array Bool} (hL:RM ops L) : ∀ (f s j:Nat),IF ops f s j=true→(∀ o,ops[s]?=some o→∀ e∈o.after,Region.binds .any e=true→L.getD e.on false=true)→L.getD j false=true:=by
 intro f
 induction f with
 | zero=>intro s j h;simp [IF] at h
 | succ f ih =>
  intro s j h hs
  simp only [IF,Bool.or_eq_true] at h
  rcases h with h|h
  ·obtain ⟨o,ho,e,he,hb,rfl⟩:=Ft h
   exact hs o ho e he hb
  ·split at h
   ·rename_i o ho
    obtain ⟨i,hi,h2⟩:=Array.any_eq_true.1 h
    simp only [Bool.and_eq_true] at h2
    have he:=Array.getElem_mem hi
    have hl:=hs o ho _ he h2.1
    refine ih _ _ h2.2 fun o' ho' e' he' hb'=>?_
    exact hL _ o' hl ho' e' he' hb'
   ·cases h
theorem HI (p p':Nat→Bool) (i:Nat) (h0:p i=true) (h1:p' i=false) (h2:∀ j,j≠i→p' j=p j) : ∀ (l:List Nat),i∈l→l.Nodup→l.countP p'+1=l.countP p:=by
 intro l
 induction l with
 | nil=>intro h;simp at h
 | cons x l ih =>
  intro hm hn
  obtain ⟨hx,hn⟩:=List.nodup_cons.1 hn
  by_cases hxi:x=i
  ·subst hxi
   have:l.countP p'=l.countP p:=List.countP_congr fun j hj=>by rw [h2 j fun e=>hx (e▸hj)]
   rw [List.countP_cons,List.countP_cons,h0,h1,this];simp
  ·have hm':i∈l:=by
    rcases List.mem_cons.1 hm with h|h
    ·exact absurd h.symm hxi
    ·exact h
   rw [List.countP_cons,List.countP_cons,h2 x hxi,← ih hm' hn]
   omega
theorem N4 {m:Nat} (h:JC ops m=true) : m≤ops.size:=by
 unfold JC at h;rw [Bool.and_eq_true] at h;simpa using h.2
theorem Ha {m:Nat} (h:JC ops m=true) {i:Nat} {o:Oper} (ho:ops[i]?=some o) :
  (∀ e∈o.after,Region.binds .any e=true→e.on<i) ∧
  (i<m→∀ j,j<m→∃ oj t,ops[j]?=some oj∧oj.dst=some t∧(t∈o.looksAt ops→j<i∧EY ops i j=true))∧(¬i<m→∀ j,j<i→IF ops i i j=true):=by
 unfold JC at h
 rw [Bool.and_eq_true] at h
 have hi:i<ops.size:=(Array.getElem?_eq_some_iff.1 ho).1
 have:=List.all_eq_true.1 h.1 i (List.mem_range.2 hi)
 rw [ho] at this
 simp only [Bool.and_eq_true] at this
 obtain ⟨⟨h1,_⟩,h3⟩:=this
 refine ⟨fun e he hb=>?_,fun him j hj=>?_,fun him j hj=>?_⟩
 ·obtain ⟨k,hk,rfl⟩:=Array.mem_iff_getElem.1 he
  have:=Array.all_eq_true.1 h1 k hk
  rw [hb] at this
  simpa using this
 ·rw [if_pos him] at h3
  have:=List.all_eq_true.1 h3 j (List.mem_range.2 hj)
  split at this
  ·rename_i oj hoj
   split at this
   ·rename_i t ht
    refine ⟨oj,t,hoj,ht,fun hm=>?_⟩
    have hc:(o.looksAt ops).contains t=true:=List.contains_iff_mem.2 hm
    rw [hc] at this
    simpa using this
   ·cases this
  ·cases this
 ·rw [if_neg him] at h3
  exact List.all_eq_true.1 h3 j (List.mem_range.2 hj)
theorem Ay {L:Array Bool} {i j:Nat} (hi:i<L.size) : (L.setIfInBounds i true).getD j false=if i=j then true else L.getD j false:=by
 simp only [Array.getD_eq_getD_getElem?,Array.getElem?_setIfInBounds]
 split
 ·rename_i h;subst h;simp
 ·rfl
theorem B1 {L:Array Bool} {i:Nat} (h:i<L.size) : L.getD i true=L.getD i false:=by simp [Array.getD_eq_getD_getElem?,h]
theorem Yv {F:Fence} {n:Nat} {Q:Exit→Act→World→Prop} {m:Nat} (hpre:∀ (i:Nat) o,ops[i]?=some o→∀ e∈o.after,Region.binds .any e=true→e.on<i) (hrch:∀ (i:Nat) o,ops[i]?=some o→m≤i→∀ j,j<i→IF ops i i j=true) : ∀ (d s fuel:Nat) (L:Array Bool) (a:Act) (w:World),m≤s→s+d=ops.size→d≤fuel→L.size=ops.size →
  (∀ j,j<ops.size→(L.getD j false=true↔j<s))→wpOpsIn F n P ops Q (List.range' s d) a w→wpAnyIn F n P .any ops Q fuel L a w:=by
 intro d
 induction d with
 | zero =>
  intro s fuel L a w hms hsd hf hL hl h
  refine wpAnyIn_done ?_ h fuel
  apply List.eq_nil_iff_forall_not_mem.2
  intro j hj
  obtain ⟨h1,o,ho,_⟩:=mem_ready.1 hj
  have hlt:=(Array.getElem?_eq_some_iff.1 ho).1
  rw [B1 (by omega)] at h1
  rw [(hl j hlt).2 (by omega)] at h1;cases h1
 | succ d ih =>
  intro s fuel L a w hms hsd hf hL hl h
  obtain ⟨fuel,rfl⟩:∃ f,fuel=f+1:=⟨fuel-1,by omega⟩
  have hs:s<ops.size:=by omega
  have hos:ops[s]?=some ops[s]:=Array.getElem?_eq_getElem hs
  have hdown:∀ (i:Nat) o,ops[i]?=some o→∀ e∈o.after,Region.binds .any e=true→i≤s→L.getD e.on false=true:=fun i o ho e he hb his =>
   (hl e.on (by have:=hpre i o ho e he hb;omega)).2 (by have:=hpre i o ho e he hb;omega)
  have hready:s∈Region.ready .any ops L:=mem_ready.2 ⟨by
   rw [B1 (by omega)]
   cases hx:L.getD s false with
   | false=>rfl
   | true=>have:=(hl s hs).1 hx;omega,_,hos,fun e he hb=>hdown s _ hos e he hb (Nat.le_refl _)⟩
  refine ⟨fun h0=>(by rw [h0] at hready;cases hready),fun i hi=>?_⟩
  obtain ⟨h1,o,ho,h2⟩:=mem_ready.1 hi
  have hlt:=(Array.getElem?_eq_some_iff.1 ho).1
  have hge:s≤i:=by
   rcases Nat.lt_or_ge i s with hx|hx
   ·rw [B1 (by omega),(hl i hlt).2 hx] at h1;cases h1
   ·exact hx
  have his:i=s:=by
   rcases Nat.lt_or_ge s i with hx|hx
   ·have hr:=hrch i o ho (by omega) s hx
    have hD:RM ops L:=fun i' o' hl' ho' e he hb=>by
     have hi':i'<s:=(hl i' (Array.getElem?_eq_some_iff.1 ho').1).1 hl'
     exact hdown i' o' ho' e he hb (by omega)
    have:=F9 hD _ _ _ hr fun o' ho' e he hb=>by rw [ho] at ho';cases ho';exact h2 e he hb
    have:=(hl s hs).1 this;omega
   ·omega
  subst his
  rw [List.range'_succ,wpOpsIn_cons] at h
  refine wpOpIn_mono (fun a w h=>ih (i+1) fuel _ a w (by omega) (by omega) (by omega) (by simpa using hL) (fun j hj=>?_) h) h
  rw [Ay (by omega)]
  split
  ·rename_i h;subst h;simp
  ·rename_i h;rw [hl j hj];omega
def C4 (tv:List (Nat×AV)) (env0:Env) (L:Array Bool) : Env:=((List.range tv.length).filterMap fun i=>if L.getD i false=true then tv[i]? else none)++env0
theorem Bc (e e':Env) (t:Nat) : get (e++e') t=if (e.map (·.1)).contains t then get e t else get e' t:=by
 induction e with
 | nil=>simp
 | cons x r ih =>
  obtain ⟨s,v⟩:=x
  simp only [List.cons_append,get,List.map_cons,List.contains_cons]
  by_cases h:s=t
  ·subst h;simp
  ·have:(t == s)=false:=by simp [Ne.symm h]
   rw [if_neg h,ih,this,Bool.false_or];simp [h]
theorem Fh {e:Env} {t:Nat} {v:AV} (h:get e t=v) (hv:v≠.un) : (t,v)∈e:=by
 induction e with
 | nil=>exact absurd h.symm hv
 | cons x r ih =>
  obtain ⟨s,u⟩:=x
  simp only [get] at h
  split at h
  ·rename_i hs;subst hs;subst h;simp
  ·exact List.mem_cons_of_mem _ (ih h)
theorem DS {e:Env} {t:Nat} {v:AV} (h:(t,v)∈e) (hu:∀ u,(t,u)∈e→u=v) : get e t=v:=by
 induction e with
 | nil=>simp at h
 | cons x r ih =>
  obtain ⟨s,u⟩:=x
  simp only [get]
  split
  ·rename_i hs;subst hs;exact hu u (by simp)
  ·rename_i hs
   rcases List.mem_cons.1 h with h|h
   ·cases h;exact absurd rfl hs
   ·exact ih h fun u' hu'=>hu u' (by simp [hu'])
theorem BI {tv:List (Nat×AV)} {env0:Env} {L:Array Bool} (hd:∀ (i j t:Nat) v u,tv[i]?=some (t,v)→tv[j]?=some (t,u)→i=j) {i s:Nat} {v:AV} (hl:L.getD i false=true) (hi:tv[i]?=some (s,v)) :
  get (C4 tv env0 L) s=v:=by
 have hm:(s,v)∈(List.range tv.length).filterMap fun i=>if L.getD i false=true then tv[i]? else none :=
  List.mem_filterMap.2 ⟨i,List.mem_range.2 (lS.1 hi).1,by rw [if_pos hl];exact hi⟩
 have hu:∀ u,(s,u)∈((List.range tv.length).filterMap fun i=>if L.getD i false=true then tv[i]? else none)→u=v:=fun u hu=>by
  obtain ⟨j,_,hj⟩:=List.mem_filterMap.1 hu
  split at hj
  ·have:=hd i j s v u hi hj
   subst this
   rw [hi] at hj;cases hj;rfl
  ·cases hj
 unfold C4
 rw [Bc,if_pos (List.contains_iff_mem.2 (List.mem_map_of_mem (f:=(·.1)) hm))]
 exact DS hm hu
theorem Bk {tv:List (Nat×AV)} {env0:Env} {L:Array Bool} {s:Nat} (h:∀ (i:Nat) v,L.getD i false=true→tv[i]?≠some (s,v)) : get (C4 tv env0 L) s=get env0 s:=by
 unfold C4
 rw [Bc,if_neg]
 intro hc
 obtain ⟨x,hx,rfl⟩:=List.mem_map.1 (List.contains_iff_mem.1 hc)
 obtain ⟨j,_,hj⟩:=List.mem_filterMap.1 hx
 split at hj
 ·rename_i hl;exact h j x.2 hl hj
 ·cases hj
theorem Hr (hs:Sim P X env H a w I μ O) {yes:Bool} (h:grd ops env o yes=true) : Region.wanted o (yielded ops a.tmps)=yes:=by
 unfold grd at h
 unfold Region.wanted
 split at h
 ·rename_i h1;rw [h1];simpa using h.symm
 ·rename_i j want h1
  rw [h1]
  split at h
  ·cases h
  ·rename_i oj h2
   split at h
   ·cases h
   ·rename_i d h3
    split at h
    ·rename_i x h4
     simp only [hs.yields h2 h3 h4]
     cases yes<;>simp at h ⊢<;>exact h
    ·rename_i h4
     simp only [hs.yields_not h2 h3 h4]
     cases yes<;>simp at h ⊢
    ·cases h
theorem Sim.same (hs:Sim P X env H a w I μ O) (h:∀ t,get env' t=get env t) : Sim P X env' H a w I μ O :=
 hs.less (fun s=>.inr (h s)) (fun s q off len _=>h q) fun s q i k _=>h q
theorem Aae {m:Nat} {env0:Env} {tv:List (Nat×AV)} (hok:JC ops m=true) (hlen:tv.length=m) (htab:∀ (i:Nat) o,i<m→ops[i]?=some o→∃ t v,tv[i]?=some (t,v)∧PO P C ops H env0 (tv.take i).reverse o t v)
  (hsuf:RL P C ops Q m (ops.toList.drop m) (tv.reverse++env0) H) (n1:X.nt=C.nt) (n2:X.n0=C.n0) (n3:X.ne=C.ne) :
  ∀ (fuel:Nat) (L:Array Bool) (a:Act) (w:World) (I:Nat→Prop) (O:Nat→Option Loc),L.size=ops.size→RM ops L→(∀ j,m≤j→L.getD j false=false) →
   (List.range m).countP (fun i=>!L.getD i false)+(ops.size-m)≤fuel→Sim P X (C4 tv env0 L) H a w I μ O→wpAnyIn (om C.ro) 0 P .any ops (Post P X Q) fuel L a w:=by
 have hle:=N4 hok
 have hone:∀ i,i<m→∃ o t v,ops[i]?=some o∧tv[i]?=some (t,v)∧PO P C ops H env0 (tv.take i).reverse o t v:=fun i hi=>by
  obtain ⟨t,v,h1,h2⟩:=htab i _ hi (Array.getElem?_eq_getElem (by omega))
  exact ⟨_,t,v,Array.getElem?_eq_getElem (by omega),h1,h2⟩
 have hdist:∀ (i j t:Nat) v u,tv[i]?=some (t,v)→tv[j]?=some (t,u)→i=j:=by
  have lt:∀ (i j t:Nat) v u,tv[i]?=some (t,v)→tv[j]?=some (t,u)→¬i<j:=fun i j t v u hi hj hij=>by
   have hjm:j<m:=by have:=(lS.1 hj).1;omega
   obtain ⟨o,t',v',_,k1,k2⟩:=hone j hjm
   rw [hj] at k1;cases k1
   refine k2.2.2.2.1 (t,v) ?_ rfl
   rw [List.mem_reverse]
   exact List.mem_of_getElem? (by rw [List.getElem?_take_of_lt hij];exact hi)
  intro i j t v u hi hj
  have h1:=lt i j t v u hi hj
  have h2:=lt j i t u v hj hi
  omega
 have hpre:∀ {e:Env},(∀ x,x∈e↔x∈tv)→∀ t,(∃ i v,tv[i]?=some (t,v)∧get (e++env0) t=v)∨((∀ (i:Nat) v,tv[i]?≠some (t,v))∧get (e++env0) t=get env0 t):=fun {e} he t=>by
  rw [Bc]
  by_cases hc:(e.map (·.1)).contains t=true
  ·obtain ⟨x,hx,rfl⟩:=List.mem_map.1 (List.contains_iff_mem.1 hc)
   obtain ⟨i,hi⟩:=List.getElem?_of_mem ((he x).1 hx)
   refine .inl ⟨i,x.2,hi,?_⟩
   rw [if_pos hc]
   refine DS hx fun u hu=>?_
   obtain ⟨j,hj⟩:=List.getElem?_of_mem ((he _).1 hu)
   have:=hdist i j x.1 x.2 u hi hj
   subst this
   rw [hi] at hj
   simp only [Option.some.injEq] at hj
   rw [hj]
  ·refine .inr ⟨fun i v hi=>hc (List.contains_iff_mem.2 (List.mem_map.2 ⟨(t,v),(he _).2 (List.mem_of_getElem? hi),rfl⟩)),by rw [if_neg hc]⟩
 have fin:∀ (fuel:Nat) (L:Array Bool) (a:Act) (w:World) (I:Nat→Prop) (O:Nat→Option Loc),L.size=ops.size→(∀ j,m≤j→L.getD j false=false)→(∀ j,j<m→L.getD j false=true)→ops.size-m≤fuel →
   Sim P X (C4 tv env0 L) H a w I μ O→wpAnyIn (om C.ro) 0 P .any ops (Post P X Q) fuel L a w:=by
  intro fuel L a w I O hL hup hall hf hs
  refine Yv (fun i o ho=>(Ha hok ho).1) (fun i o ho hm=>(Ha hok ho).2.2 (by omega)) (ops.size-m) m fuel L a w (Nat.le_refl _) (by omega) hf hL (fun j hj=>⟨fun h=>?_,hall j⟩) ?_
  ·rcases Nat.lt_or_ge j m with hx|hx
   ·exact hx
   ·rw [hup j hx] at h;cases h
  have hs':=hs.same (env':=tv.reverse++env0) fun t=>by
   rcases hpre (e:=tv.reverse) (fun x=>List.mem_reverse) t with ⟨i,v,h1,h2⟩|⟨h1,h2⟩
   ·rw [h2,BI hdist (hall i (by have:=(lS.1 h1).1;omega)) h1]
   ·rw [h2,Bk fun i v _=>h1 i v]
  have:=hsuf rfl X a w I μ O n1 n2 n3 hs'
  rw [List.length_drop,Array.length_toList] at this
  exact this
 intro fuel
 induction fuel with
 | zero =>
  intro L a w I O hL hD hup hf hs
  refine fin 0 L a w I O hL hup (fun j hj=>?_) (by omega) hs
  cases hv:L.getD j false with
  | true=>rfl
  | false =>
   have:0<(List.range m).countP (fun i=>!L.getD i false):=List.countP_pos_iff.2 ⟨j,List.mem_range.2 hj,by rw [hv];rfl⟩
   omega
 | succ fuel ih =>
  intro L a w I O hL hD hup hf hs
  by_cases hall:∀ j,j<m→L.getD j false=true
  ·exact fin _ L a w I O hL hup hall (by omega) hs
  -- the least that is not listed
  have hex:∃ j,j<m∧L.getD j false=false:=by
   apply Classical.byContradiction
   intro hno
   refine hall fun j hj=>?_
   cases hv:L.getD j false with
   | true=>rfl
   | false=>exact absurd ⟨j,hj,hv⟩ hno
  obtain ⟨j0,⟨hj0,hj1⟩,hmin⟩:∃ j,(j<m∧L.getD j false=false)∧∀ k,k<j→L.getD k false=true:=by
   obtain ⟨j,hj⟩:=hex
   induction j using Nat.strongRecOn with
   | ind j ihj =>
    by_cases hk:∃ k,k<j∧L.getD k false=false
    ·obtain ⟨k,hk1,hk2⟩:=hk
     exact ihj k hk1 ⟨by omega,hk2⟩
    ·refine ⟨j,hj,fun k hk1=>?_⟩
     cases hv:L.getD k false with
     | true=>rfl
     | false=>exact absurd ⟨k,hk1,hv⟩ hk
  have hr0:j0∈Region.ready .any ops L:=mem_ready.2 ⟨by rw [B1 (by omega)];exact hj1,_,Array.getElem?_eq_getElem (by omega),fun e he hb=>hmin _ ((Ha hok (Array.getElem?_eq_getElem (by omega))).1 e he hb)⟩
  refine ⟨fun h0=>(by rw [h0] at hr0;cases hr0),fun i hi=>?_⟩
  obtain ⟨h1,o,ho,h2⟩:=mem_ready.1 hi
  have hlt:=(Array.getElem?_eq_some_iff.1 ho).1
  rw [B1 (by omega)] at h1
  have him:i<m:=by
   rcases Nat.lt_or_ge i m with hx|hx
   ·exact hx
   ·have:=F9 hD _ _ _ ((Ha hok ho).2.2 (by omega) j0 (by omega)) fun o' ho' e he hb=>by rw [ho] at ho';cases ho';exact h2 e he hb
    rw [hj1] at this;cases this
  obtain ⟨o',t,v,ho',htv,hd,htn,h0t,hnt,hself,hrk,hrun⟩:=hone i him
  rw [ho] at ho';cases ho'
  -- what it looks at is known
  have hdir:∀ (j s:Nat) u,tv[j]?=some (s,u)→s∈o.looksAt ops→L.getD j false=true:=fun j s u hj hm=>by
   have hjm:j<m:=by have:=(lS.1 hj).1;omega
   obtain ⟨oj,tj,q1,q2,q3⟩:=(Ha hok ho).2.1 him j hjm
   obtain ⟨oj',tj',vj',r1,r2,r3⟩:=hone j hjm
   rw [q1] at r1;cases r1
   rw [hj] at r2;cases r2
   have:tj=s:=by have:=r3.1;rw [q2] at this;exact oI this
   subst this
   obtain ⟨o2,ho2,e,he,hb,rfl⟩:=Ft (q3 hm).2
   rw [ho] at ho2;cases ho2
   exact h2 e he hb
  have hle1:∀ s,get (Bq (o.looksAt ops) (tv.take i).reverse++env0) s=.un∨get (Bq (o.looksAt ops) (tv.take i).reverse++env0) s=get (C4 tv env0 L) s:=fun s=>by
   rw [Bc]
   split
   ·rename_i hc
    obtain ⟨x,hx,rfl⟩:=List.mem_map.1 (List.contains_iff_mem.1 hc)
    have hx':=List.mem_filter.1 hx
    have hin:=List.mem_reverse.1 hx'.1
    obtain ⟨j,hj⟩:=List.getElem?_of_mem (List.mem_of_mem_take hin)
    have hlk:x.1∈o.looksAt ops:=List.contains_iff_mem.1 hx'.2
    refine .inr ?_
    rw [BI hdist (hdir j x.1 x.2 hj hlk) hj]
    refine DS hx fun u hu=>?_
    have hu':=List.mem_reverse.1 (List.mem_filter.1 hu).1
    obtain ⟨j',hj'⟩:=List.getElem?_of_mem (List.mem_of_mem_take hu')
    have:=hdist j j' x.1 x.2 u hj hj'
    subst this
    rw [hj] at hj'
    simp only [Option.some.injEq] at hj'
    rw [hj']
   ·by_cases hex:∃ (j:Nat) (u:AV),tv[j]?=some (s,u)
    ·obtain ⟨j,u,hj⟩:=hex
     have hjm:j<m:=by have:=(lS.1 hj).1;omega
     obtain ⟨oj,tj,vj,_,r2,r3⟩:=hone j hjm
     rw [hj] at r2;cases r2
     exact .inl r3.2.2.1
    ·exact .inr (Bk fun j u _ hj=>hex ⟨j,u,hj⟩).symm
  have hkn:∀ s,Aj (get (Bq (o.looksAt ops) (tv.take i).reverse++env0) s)=true→get (Bq (o.looksAt ops) (tv.take i).reverse++env0) s=get (C4 tv env0 L) s:=fun s hs=>by
   rcases hle1 s with h|h
   ·rw [h] at hs;cases hs
   ·exact h
  have hle2:∀ s q off len,get (Bq (o.looksAt ops) (tv.take i).reverse++env0) s=.ref (.t q) off len→get (Bq (o.looksAt ops) (tv.take i).reverse++env0) q=get (C4 tv env0 L) q:=fun s q off len h=>by
   have:=List.all_eq_true.1 hrk _ (Fh h (by simp))
   exact hkn q (by simpa using this)
  have hle3:∀ s q x y,get (Bq (o.looksAt ops) (tv.take i).reverse++env0) s=.ep (.t q) x y→get (Bq (o.looksAt ops) (tv.take i).reverse++env0) q=get (C4 tv env0 L) q:=fun s q x y h=>by
   have:=List.all_eq_true.1 hrk _ (Fh h (by simp))
   exact hkn q (by simpa using this)
  have htL:get (C4 tv env0 L) t=.un:=by
   rw [Bk fun j u hl hj=>by
    have:=hdist i j t v u htv hj
    subst this;rw [h1] at hl;cases hl]
   exact h0t
  have hsi:=hs.less hle1 hle2 hle3
  have hnext:∀ a' w' I' O',Sim P X ((t,v)::C4 tv env0 L) H a' w' I' μ O'→wpAnyIn (om C.ro) 0 P .any ops (Post P X Q) fuel (L.setIfInBounds i true) a' w':=fun a' w' I' O' hs'=>by
   refine ih _ a' w' I' O' (by simpa using hL) (fun k ok hk hok' e he hb=>?_) (fun j hj=>?_) ?_ (hs'.same fun s=>?_)
   ·rw [Ay (by omega)] at hk ⊢
    split at hk
    ·rename_i hik;subst hik
     rw [ho] at hok';cases hok'
     split
     ·rfl
     ·exact h2 e he hb
    ·split
     ·rfl
     ·exact hD k ok hk hok' e he hb
   ·rw [Ay (by omega),if_neg (by omega)];exact hup j hj
   ·have:=HI (fun i=>!L.getD i false) (fun k=>!(L.setIfInBounds i true).getD k false) i (by simp only [h1];rfl) (by simp only [Ay (by omega:i<L.size),if_true];rfl)
     (fun j hj=>by simp only [Ay (by omega:i<L.size)];rw [if_neg (Ne.symm hj)]) (List.range m) (List.mem_range.2 him) List.nodup_range
    omega
   ·simp only [get]
    split
    ·rename_i hts;subst hts
     exact BI hdist (by rw [Ay (by omega),if_pos rfl]) htv
    ·rename_i hts
     by_cases hex:∃ (j:Nat) (u:AV),L.getD j false=true∧tv[j]?=some (s,u)
     ·obtain ⟨j,u,hj1,hj2⟩:=hex
      rw [BI hdist hj1 hj2]
      exact BI hdist (by rw [Ay (by omega)];split<;>first|rfl|exact hj1) hj2
     ·rw [Bk fun j u hl hj=>hex ⟨j,u,hl,hj⟩]
      refine Bk fun j u hl hj=>?_
      rw [Ay (by omega)] at hl
      split at hl
      ·rename_i hij;subst hij
       rw [htv] at hj;cases hj;exact hts rfl
      ·exact hex ⟨j,u,hl,hj⟩
  unfold wpOpIn
  simp only [ho]
  rcases hrun with ⟨hg,hv⟩|⟨hg,hv⟩
  ·rw [if_pos (Hr hsi hg)]
   refine hv.step hd htn hle1 hle2 hle3 (by rw [htL];rfl) (fun p hp e=>?_) n1 n2 n3 hs hnext
   subst e
   rcases hp with ⟨off,len,rfl⟩|⟨x,y,rfl⟩<;>simp [GW] at hself
  ·have:=Hr hsi hg
   rw [if_neg (by rw [this];simp)]
   refine ⟨fun _ _=>trivial,?_⟩
   rw [hd]
   rcases hv with rfl|rfl
   ·have hp:=hs.put_un t (by rw [n1];exact htn) undef
    rw [Ak (by rw [htL];rfl)] at hp
    exact hnext _ _ _ _ hp
   ·have hp:=hs.put_hand (t:=t) (by rw [n1];exact htn) (av:=.tup []) (v:=undef) ⟨[],.tup .nil,nN,by simp⟩
    rw [Ak (by rw [htL];rfl)] at hp
    exact hnext _ _ _ _ hp
theorem AW.draws {id m:Nat} {env0 fin:Env} {pre:List Oper} (hm:P.follows .mixedOrders=true) (hok:JC ops m=true) (hpre:ops.toList.take m=pre) (hDL:DL P C ops H env0 [] pre fin)
  (hsuf:RL P C ops Q m (ops.toList.drop m) (fin++env0) H):AW P C (.region id ops true) Q env0 H:=fun X a w I μ O n1 n2 n3 hs=>by
 obtain ⟨tv,k1,k2,k3⟩:=hDL.table
 subst hpre
 have hle:=N4 hok
 have hlen:tv.length=m:=by rw [k1];simp;omega
 refine wpIn_region_any hm ?_
 have hz:∀ j,(Array.replicate ops.size false).getD j false=false:=fun j=>by
  simp only [Array.getD_eq_getD_getElem?,Array.getElem?_replicate]
  split<;>rfl
 have hs':Sim P X (C4 tv env0 (Array.replicate ops.size false)) H a {w with drawn:=w.drawn+1} I μ O :=
  (hs.grow (w':={w with drawn:=w.drawn+1}) ⟨rfl,rfl,rfl,Nat.le_refl _,fun _ _=>rfl⟩).same fun t=>Bk fun i v h=>by
   rw [hz] at h;cases h
 rw [k2,List.append_nil] at hsuf
 refine Aae hok hlen (fun i o hi ho=>?_) hsuf n1 n2 n3 ops.size _ a _ I O (by simp) (fun i o h=>by rw [hz] at h;cases h) (fun j _=>hz j) ?_ hs'
 ·obtain ⟨t,v,m1,m2⟩:=k3 i o (by rw [List.getElem?_take_of_lt hi];simpa using ho)
  exact ⟨t,v,m1,by simpa using m2⟩
 ·have:(List.range m).countP (fun i=>!(Array.replicate ops.size false).getD i false)≤m:=by
   have:=List.countP_le_length (p:=fun i=>!(Array.replicate ops.size false).getD i false) (l:=List.range m)
   simpa using this
  omega
end
end Go.FL
