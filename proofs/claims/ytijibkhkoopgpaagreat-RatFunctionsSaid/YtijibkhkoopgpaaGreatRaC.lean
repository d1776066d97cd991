/-
  Part 3 of the base of the proofs: a logic of our own over the calculus, the contracts of the functions
-/
import Derived.Test.YtijibkhkoopgpaaGreatRaB
set_option linter.unusedVariables false
/-
  glyphref01's limb, Same, Of, Right; the law's few.
-/
namespace Go.FL
open Go Go.Proofs

theorem toU64 {n : Nat} (h : n < 18446744073709551616) : IntKind.u64.wrap (n : Int) = n := by
  simp only [IntKind.wrap, IntKind.bits, IntKind.signed]
  simp; omega
theorem toU32 {n : Nat} (h : n < 4294967296) : IntKind.u32.wrap (n : Int) = n := by
  rw [wrapU32, Nat.mod_eq_of_lt h]
theorem limb_fn {a : List Nat} (h : Ok a) {i : Nat} (hi : i < 9223372036854775807) : Fn Tryz.prog 86 [.sl (L a), .i .i64 i] (.d (.i .u64 (a.getD i 0 : Nat))) := by
  refine Fn.of (rs := [.tmp 4]) (nt := 14) Tryz.func86 rfl rfl rfl (by simp) rfl ?_
  refine .seq ?_
  refine .region ?_
  refine asd ?_
  refine rn ?_
  refine .seq ?_
  refine .seq ?_
  refine .region ?_
  refine mvd ?_
  refine mvd ?_
  refine ln ?_ (L_sz _) l32
  refine bi ?_
  refine rn ?_
  by_cases hl : i < a.length
  · rw [decide_eq_true (show (i:Int) < ((L a).length : Int) by rw [L_length]; omega)]
    have hx : a[i]? = some a[i] := List.getElem?_eq_getElem hl
    refine cndt ?_
    refine .seq ?_
    refine .region ?_
    refine mvd ?_
    refine mvd ?_
    refine ix i ?_ rfl (L_at hx) rfl s32
    refine ldp ?_ a32
    refine cve ((a[i] : Nat) : Int) (toU64 (by have := h.at hx; omega)) ?_ u32 u64
    refine asd ?_
    refine rn ?_
    refine .ret ?_
    exact ⟨by rw [List.getD_eq_getElem?_getD, hx]; rfl, rfl⟩
  · rw [decide_eq_false (show ¬ (i:Int) < ((L a).length : Int) by rw [L_length]; omega)]
    refine cndf ?_
    refine .skip ?_
    show AW _ _ _ _ _ _
    refine .seq ?_
    refine .region ?_
    refine asd ?_
    refine rn ?_
    refine .ret ?_
    exact ⟨by rw [List.getD_eq_getElem?_getD, List.getElem?_eq_none (by omega)]; rfl, rfl⟩
theorem refOf_fn {n : Nat} (h : n < 18446744073709551616) : Fn Tryz.prog 50 [.i .u64 n] (.own 40 (L (digs n))) := by
  obtain ⟨h1, h2⟩ := two_limbs h
  refine Fn.of (rs := [.tmp 2]) (nt := 10) Tryz.func50 rfl rfl rfl (by simp) rfl ?_
  refine .seq ?_
  refine .region ?_
  refine asn ?_
  refine rn ?_
  refine .seq ?_
  refine .region ?_
  refine mvd ?_
  refine cve ((n % 4294967296 : Nat) : Int) (wrapU32 n) ?_ u64 u32
  refine mvd ?_
  refine bie (.i .u64 ((n / 4294967296 : Nat) : Int)) ?_ ?_
  · simp [IntKind.bits]
  refine cve ((n / 4294967296 : Nat) : Int) (by rw [wrapU32, Nat.mod_eq_of_lt]; omega) ?_ u64 u32
  refine bsl ?_ ?_ e32
  · simp [DV.flat, DV.cells, DV.leaf]
  refine fz (p := .t 8) ?_
  refine cl (xs := [.sl (L [n % 4294967296, n / 4294967296])]) ?_ (refTrim_fn h2 (by simp)) Tryz.call70
  refine aso ?_
  refine rn ?_
  refine .ret ?_
  exact ⟨by rw [h1]; rfl, rfl⟩
theorem Same_fn (a b : List Nat) (hl : a.length ≤ 35184372087808) : Fn Tryz.prog 40 [.sl (L a), .sl (L b)] (.d (.b (decide (a = b)))) := by
  refine Fn.of (rs := [.tmp 4]) (nt := 26) Tryz.func40 rfl rfl rfl (by simp) rfl ?_
  refine .seq ?_
  refine .region ?_
  refine asd ?_
  refine rn ?_
  refine .seq ?_
  refine .seq ?_
  refine .region ?_
  refine mvd ?_
  refine ln ?_ (L_sz _) l32
  refine mvd ?_
  refine ln ?_ (L_sz _) l32
  refine bi ?_
  refine rn ?_
  by_cases hlen : a.length = b.length
  · have e1 : (!decide (((L a).length : Int) = ((L b).length : Int))) = false := by simp [L_length]; omega
    rw [e1]
    refine cndf ?_
    refine .skip ?_
    show AW _ _ _ _ _ _
    refine .mid (fun e H' => e = [(0, .d (.sl (L a))), (1, .d (.sl (L b)))] ∧ a = b) ?_ ?_
    · refine .seq ?_
      refine .region ?_
      refine asd ?_
      refine rn ?_
      refine .block ?_
      refine .loop (.gh (Gh.keep [0, 1, 5] rfl) ?_)
      refine AL.ind (σ := Nat) (m := fun i => a.length - i) (e := fun i => [(0, .d (.sl (L a))), (1, .d (.sl (L b))), (5, .d (.i .i64 i))]) (h := fun _ => []) (I := fun i => i ≤ a.length ∧ a.take i = b.take i) ?_ 0 ⟨by omega, by simp⟩
      intro i ⟨hi, hc⟩ ih
      refine .seq ?_
      refine .seq ?_
      refine .region ?_
      refine mvd ?_
      refine mvd ?_
      refine ln ?_ (L_sz _) l32
      refine bi ?_
      refine rn ?_
      by_cases hil : i < a.length
      · rw [decide_eq_true (show (i:Int) < ((L a).length : Int) by rw [L_length]; omega)]
        have hx : a[i]? = some a[i] := List.getElem?_eq_getElem hil
        have hy : b[i]? = some b[i] := List.getElem?_eq_getElem (by omega)
        refine cndt ?_
        refine .skip ?_
        show AW _ _ _ _ _ _
        refine .gh (Gh.keep [0, 1, 5] rfl) ?_
        refine .seq ?_
        refine .block ?_
        refine .seq ?_
        refine .drawn 9 mixed (by kernel_rfl) ?_
        refine dv vmvd ?_
        refine dv vmvd ?_
        refine dv (vix i rfl (L_at hx) rfl s32) ?_
        refine dv (vldp a32) ?_
        refine dv vmvd ?_
        refine dv vmvd ?_
        refine dv (vix i rfl (L_at hy) rfl s32) ?_
        refine dv (vldp a32) ?_
        refine dv vbi ?_
        refine dz ?_
        refine rn ?_
        by_cases hxy : a[i] = b[i]
        · have e2 : (!decide (((a[i] : Nat) : Int) = ((b[i] : Nat) : Int))) = false := by simp; omega
          rw [e2]
          refine cndf ?_
          refine .skip ?_
          show AW _ _ _ _ _ _
          refine .region ?_
          refine mvd ?_
          refine ad ((i + 1 : Nat) : Int) ?_ ?_
          · omega
          refine asd ?_
          refine .nil ?_
          refine AL.gh (Gh.keep [0, 1, 5] rfl) (ih (i + 1) ⟨by omega, ?_⟩ (by omega))
          rw [List.take_add_one, List.take_add_one, hc, hx, hy, hxy]
        · have e2 : (!decide (((a[i] : Nat) : Int) = ((b[i] : Nat) : Int))) = true := by simp; omega
          rw [e2]
          refine cndt ?_
          refine .seq ?_
          refine .region ?_
          refine asd ?_
          refine rn ?_
          refine .ret ?_
          have : a ≠ b := fun e => hxy (by subst e; rfl)
          exact ⟨by rw [decide_eq_false this]; rfl, rfl⟩
      · rw [decide_eq_false (show ¬ (i:Int) < ((L a).length : Int) by rw [L_length]; omega)]
        refine cndf ?_
        refine .gh (Gh.keep [0, 1] rfl) ?_
        refine .exit ?_
        refine ⟨rfl, ?_⟩
        rwa [List.take_of_length_le (by omega), List.take_of_length_le (by omega)] at hc
    · rintro _ _ ⟨rfl, rfl⟩
      refine .seq ?_
      refine .region ?_
      refine asd ?_
      refine rn ?_
      refine .ret ?_
      exact ⟨by rw [decide_eq_true rfl]; rfl, rfl⟩
  · have e1 : (!decide (((L a).length : Int) = ((L b).length : Int))) = true := by simp [L_length]; omega
    rw [e1]
    refine cndt ?_
    refine .seq ?_
    refine .region ?_
    refine asd ?_
    refine rn ?_
    refine .ret ?_
    have : a ≠ b := fun e => hlen (by rw [e])
    exact ⟨by rw [decide_eq_false this]; rfl, rfl⟩
end Go.FL
/-
  slices.Backward: its iterator.
-/
namespace Go.FL
open Go Go.Proofs Go.RowKit

attribute [local go_sem] Oper.semAt_some

set_option maxRecDepth 100000 in
set_option maxHeartbeats 2000000 in
theorem bw_in (F : Fence) (n : Nat) (hF : F.fn 102) (hro : F.round = none) (hn : 1 ≤ n) (l : Nat) (bx : Nat) (ox : Nat) (A : Option Addr) (b off cap : Nat) (vs : List Value) (J : Nat → World → Prop) (hr : vs.length ≤ 1048576) (hA : 0 < vs.length → A = some ⟨b, off, none⟩)
    (hbx : ∀ k W', J k W' → W'.cell? ⟨bx, ox, none⟩ = some (.slice A vs.length cap)) (hc : ∀ k W', J k W' → ∀ j u, vs[j]? = some u → W'.cell? ⟨b, off + j, none⟩ = some u)
    (hY : ∀ k W1 u, J k W1 → k < vs.length → vs[vs.length - 1 - k]? = some u → YieldAt F (n - 1) Tryz.prog l #[.int .i64 ((vs.length - 1 - k : Nat) : Int), u] W1 fun e W' => e = .returned (.bool true) ∧ J (k + 1) W')
    (W : World) (h0 : J 0 W) :
    CallsIn F n Tryz.prog 102 #[.func (.yield l) #[] #[], .pointer (some ⟨bx, ox, none⟩)] W fun e W' => (∃ v, e = .returned v) ∧ J vs.length W' := by
  refine callsIn_of_wp Tryz.func102 rfl hF ?_ hro
  simp only [Tryz.ntmps102, List.size_toArray, List.length_cons, List.length_nil, Nat.reduceAdd, Nat.reduceSub, Array.replicate_succ, Array.replicate_zero, List.push_toArray, List.append_toArray, List.nil_append, List.cons_append]
  have hbx0 := hbx 0 W h0
  gi_wp2
  gi_loopw [3] (fun i wr => ∃ k : Nat, k ≤ vs.length ∧ i = .int .i64 ((vs.length : Int) - 1 - k) ∧ J k wr) (fun i _ => ((intOf i) + 1).toNat)
  case atStart => exact ⟨0, Nat.zero_le _, by simp, h0⟩
  case round =>
    obtain ⟨k, hk, rfl, hJs⟩ := hrel
    have hbx' := hbx k wr hJs
    by_cases hlt : k < vs.length
    · have hvk : vs[vs.length - 1 - k]? = some vs[vs.length - 1 - k] := List.getElem?_eq_getElem (by omega)
      obtain ⟨fn, tmps, assign, body, hy, hR⟩ := hY k wr _ hJs hlt hvk
      rw [show ((vs.length - 1 - k : Nat) : Int) = (vs.length : Int) - 1 - k by omega] at hy
      have hcx' := hc k wr hJs _ _ hvk
      have hAA := hA (by omega)
      subst hAA
      gi_wp2
      refine hR.mono ?_
      rintro e W3 ⟨rfl, hJ3⟩
      gi_wp2
      go_roundw
      case rel => exact ⟨k + 1, by omega, by simp; omega, hJ3⟩
      case measure => simp [intOf]; omega
    · obtain rfl : k = vs.length := by omega
      gi_wp2
      go_end0
      exact ⟨⟨_, rfl⟩, hJs⟩

/-- What it yields: the places, from the last on, with what stands there. -/
def backY (xs : List DV) : List (List DV) := (List.range xs.length).map fun k => [.i .i64 ((xs.length - 1 - k : Nat) : Int), xs.getD (xs.length - 1 - k) .np]
theorem backY_length (xs : List DV) : (backY xs).length = xs.length := by simp [backY]
theorem backY_at {xs : List DV} {k : Nat} {ds : List DV} (h : (backY xs)[k]? = some ds) : k < xs.length ∧ ds = [.i .i64 ((xs.length - 1 - k : Nat) : Int), xs.getD (xs.length - 1 - k) .np] := by
  have h1 : k < (backY xs).length := (List.getElem?_eq_some_iff.1 h).1
  rw [backY_length] at h1
  refine ⟨h1, ?_⟩
  simp [backY, h1] at h
  rw [← h]; simp
theorem calls_any {P : Program} {n m : Nat} {f : FuncId} {args : Array Value} {w : World} {R : Ending → World → Prop} (h : CallsIn (om none) n P f args w R) : CallsIn (om none) m P f args w R := ⟨h.1, fun cs _ => h.2 cs (room_wide _)⟩
theorem RepRows.leaf1 {w : World} {I : Nat → Prop} : ∀ {xs : List DV} {vs : List Value}, RepRows w I 1 xs vs → (∀ x ∈ xs, x.leaf = true) → RepAll w I xs vs := by
  intro xs
  induction xs with
  | nil => intro vs h _; cases h; exact .nil
  | cons x xs ih =>
    intro vs h hx
    cases h with
    | cons hl h1 h t =>
      rename_i us vs'
      rw [DV.leaf_cells (hx x (by simp))] at h
      cases h with
      | cons hh tt => cases tt; exact .cons hh (ih t fun y hy => hx y (by simp [hy]))
theorem RepRows.size1 {w : World} {I : Nat → Prop} {sz : Nat} {xs : List DV} {vs : List Value} (h : RepRows w I sz xs vs) (hx : ∀ x ∈ xs, x.leaf = true) (hne : xs ≠ []) : sz = 1 := by
  cases h with
  | nil => exact absurd rfl hne
  | cons hl h1 h t =>
    rename_i x xs' us vs'
    rw [DV.leaf_cells (hx x (by simp))] at h
    have := h.length
    rw [← hl, ← this]; rfl
theorem bw_it (xs : List DV) (hx : ∀ x ∈ xs, x.leaf = true) (hl : xs.length ≤ 1048576) : It Tryz.prog 102 [.ptr [.sl xs]] (backY xs) := by
  intro l W I cv J hJ hcv hY h0
  cases hcv with
  | cons hp ht =>
  cases ht
  cases hp with
  | ptr _ bk o us hI hh hr =>
  cases hr with
  | cons hs hn =>
  cases hn
  rename_i u
  have hbx : ∀ k W', J k W' → W'.cell? ⟨bk, o, none⟩ = some u := fun k W' hj => by
    have := hh 0 u rfl
    rw [World.cell?_of_block (w := W) (w' := W') (a := ⟨bk, o, none⟩) (hJ k W' hj bk hI)]
    simpa using this
  cases hs with
  | sl0 A c =>
    exact calls_any (bw_in (om none) 1 trivial rfl (Nat.le_refl _) l bk o A 0 0 c [] J (by simp) (by simp) hbx (by simp) (by simp) W h0)
  | sl xs bk' o' sz c vs hne hc hI' hsz hh' hr =>
    have hs1 := hr.size1 hx hne
    subst hs1
    have hra := hr.leaf1 hx
    have hlv : xs.length = vs.length := hra.length
    have hcell : ∀ k W', J k W' → ∀ j v, vs[j]? = some v → W'.cell? ⟨bk', o' + j, none⟩ = some v := fun k W' hj j v hv => by
      rw [World.cell?_of_block (w := W) (w' := W') (a := ⟨bk', o' + j, none⟩) (hJ k W' hj bk' hI')]
      exact hh' j v hv
    have := bw_in (om none) 1 trivial rfl (Nat.le_refl _) l bk o (some ⟨bk', o', none⟩) bk' o' c vs J (by omega) (fun _ => rfl) (by rw [← hlv]; exact hbx) hcell (fun k W1 v hj hk hv => ?_) W h0
    · rw [backY_length, hlv]; exact calls_any this
    · have hk' : k < xs.length := by omega
      have hx1 : xs[xs.length - 1 - k]? = some xs[xs.length - 1 - k] := List.getElem?_eq_getElem (by omega)
      obtain ⟨v', hv1, hv2⟩ := hra.get _ _ hx1
      rw [hlv, hv] at hv1
      cases hv1
      have hyk : (backY xs)[k]? = some [.i .i64 ((xs.length - 1 - k : Nat) : Int), xs.getD (xs.length - 1 - k) .np] := by
        simp [backY, hk']
      rw [← hlv]
      refine hY k W1 _ [.int .i64 ((xs.length - 1 - k : Nat) : Int), v] hj hyk (.cons (.i _ _) (.cons ?_ .nil))
      rw [List.getD_eq_getElem?_getD, hx1]
      exact hv2.keep (hJ k W1 hj) fun _ h => h
end Go.FL
/-
  slices.Backward.
-/
namespace Go.FL
open Go Go.Proofs

theorem Backward_fn (xs : List DV) : Fn Tryz.prog 81 [.sl xs] (.d (.fn 102 [] [.ptr [.sl xs]])) := by
  refine Fn.of (rs := [.tmp 2]) (nt := 4) Tryz.func81 rfl rfl rfl (by simp) rfl ?_
  refine .seq ?_
  refine .region ?_
  refine bxd ?_
  refine asd ?_
  refine rn ?_
  refine .seq ?_
  refine .region ?_
  refine mkf ?_
  refine asd ?_
  refine rn ?_
  refine .ret ?_
  exact ⟨rfl, rfl⟩
end Go.FL
/-
  math/bits: Len32, LeadingZeros32; Bits, of nat and of glyphref01.
-/
namespace Go.FL
open Go Go.Proofs

/-- How many bits a number has. -/
def bitsN (n : Nat) : Nat := if n = 0 then 0 else n.log2 + 1
theorem bitsN_iff {n k : Nat} : bitsN n ≤ k ↔ n < 2 ^ k := by
  unfold bitsN; split
  · rename_i h; subst h; simp [Nat.two_pow_pos]
  · rename_i h; rw [← Nat.log2_lt h]; omega
theorem bitsN_eq {n k : Nat} (h1 : 2 ^ k ≤ n) (h2 : n < 2 ^ (k + 1)) : bitsN n = k + 1 := by
  have a := bitsN_iff.2 h2
  have b : ¬ bitsN n ≤ k := fun h => by have := bitsN_iff.1 h; omega
  omega
theorem bitsN_pos {n : Nat} (h : n ≠ 0) : ∃ k, bitsN n = k + 1 ∧ 2 ^ k ≤ n ∧ n < 2 ^ (k + 1) := by
  refine ⟨n.log2, by simp [bitsN, h], Nat.log2_self_le h, Nat.lt_log2_self⟩
theorem bitsN_shift {n m : Nat} (h : 2 ^ m ≤ n) : bitsN n = m + bitsN (n / 2 ^ m) := by
  have hp : 0 < 2 ^ m := Nat.two_pow_pos m
  have h0 : n / 2 ^ m ≠ 0 := by have := Nat.div_pos h hp; omega
  obtain ⟨k, h1, h2, h3⟩ := bitsN_pos h0
  rw [h1]
  rw [show m + (k + 1) = (m + k) + 1 by omega]
  refine bitsN_eq ?_ ?_
  · rw [Nat.pow_add, Nat.mul_comm]
    exact (Nat.le_div_iff_mul_le hp).1 h2
  · rw [show m + k + 1 = (k + 1) + m by omega, Nat.pow_add]
    exact (Nat.div_lt_iff_lt_mul hp).1 h3
theorem tab_of {l : List UInt8} (n : Nat) (h : n < 256) (hl : (List.range 256).map (fun n => (bitsN n).toUInt8) = l) : l[n]? = some (bitsN n).toUInt8 := by
  subst hl; simp [h]
theorem wrapU8 {n : Nat} (h : n < 256) : IntKind.u8.wrap (n : Int) = n := by
  simp only [IntKind.wrap, IntKind.bits, IntKind.signed]
  simp; omega
theorem Len32_fn {n : Nat} (h : n < 4294967296) : Fn Tryz.prog 105 [.i .u32 n] (.d (.i .i64 (bitsN n))) := by
  refine Fn.of (rs := [.tmp 2]) (nt := 19) Tryz.func105 rfl rfl rfl (by simp) rfl ?_
  refine .seq ?_
  refine .region ?_
  refine asd ?_
  refine rn ?_
  refine .mid (fun e H' => ∃ y k : Nat, e = [(0, .d (.i .u32 y)), (2, .d (.i .i64 k))] ∧ y < 65536 ∧ k ≤ 16 ∧ bitsN n = k + bitsN y) ?_ ?_
  · refine .seq ?_
    refine .region ?_
    refine mvd ?_
    refine bi ?_
    refine rn ?_
    by_cases hc : 65536 ≤ n
    · rw [decide_eq_true (show (65536:Int) ≤ (n:Int) by omega)]
      refine cndt ?_
      refine .seq ?_
      refine .region ?_
      refine mvd ?_
      refine bie (.i .u32 ((n / 65536 : Nat) : Int)) ?_ ?_
      · simp [IntKind.bits]
      refine asd ?_
      refine rn ?_
      refine .region ?_
      refine asd ?_
      refine RL.gh (Gh.keep [0, 2] rfl) ?_
      refine rn ?_
      exact ⟨n / 65536, 16, rfl, by omega, by omega, bitsN_shift (m := 16) (by omega)⟩
    · rw [decide_eq_false (show ¬ (65536:Int) ≤ (n:Int) by omega)]
      refine cndf ?_
      refine .gh (Gh.keep [0, 2] rfl) ?_
      refine .skip ?_
      exact ⟨n, 0, rfl, by omega, by omega, by omega⟩
  rintro _ _ ⟨y, k, rfl, hy, hk, e1⟩
  refine .mid (fun e H' => ∃ z j : Nat, e = [(0, .d (.i .u32 z)), (2, .d (.i .i64 j))] ∧ z < 256 ∧ j ≤ 24 ∧ bitsN n = j + bitsN z) ?_ ?_
  · refine .seq ?_
    refine .region ?_
    refine mvd ?_
    refine bi ?_
    refine rn ?_
    by_cases hc : 256 ≤ y
    · rw [decide_eq_true (show (256:Int) ≤ (y:Int) by omega)]
      refine cndt ?_
      refine .seq ?_
      refine .region ?_
      refine mvd ?_
      refine bie (.i .u32 ((y / 256 : Nat) : Int)) ?_ ?_
      · simp [IntKind.bits]
      refine asd ?_
      refine rn ?_
      refine .region ?_
      refine mvd ?_
      refine ad ((k + 8 : Nat) : Int) ?_ ?_
      · omega
      refine asd ?_
      refine RL.gh (Gh.keep [0, 2] rfl) ?_
      refine rn ?_
      exact ⟨y / 256, k + 8, rfl, by omega, by omega, by rw [e1, bitsN_shift (m := 8) (by omega)]; simp; omega⟩
    · rw [decide_eq_false (show ¬ (256:Int) ≤ (y:Int) by omega)]
      refine cndf ?_
      refine .gh (Gh.keep [0, 2] rfl) ?_
      refine .skip ?_
      exact ⟨y, k, rfl, by omega, by omega, e1⟩
  rintro _ _ ⟨z, j, rfl, hz, hj, e2⟩
  have hb : bitsN z ≤ 8 := bitsN_iff.2 (by omega)
  refine .seq ?_
  refine .region ?_
  refine mvd ?_
  refine mvd ?_
  refine cve (z : Int) (wrapU8 hz) ?_ u32 u8
  refine ids (b := (bitsN z).toUInt8) z rfl ?_ ?_ st
  · exact tab_of z hz (by kernel_rfl)
  have e3 : ((bitsN z).toUInt8).toNat = bitsN z := by simp; omega
  rw [e3]
  refine cve ((bitsN z : Nat) : Int) (wrap64 (by omega) (by omega)) ?_ u8 i64
  refine ad ((bitsN n : Nat) : Int) ?_ ?_
  · omega
  refine asd ?_
  refine rn ?_
  refine .ret ?_
  exact ⟨rfl, rfl⟩
theorem LeadingZeros32_fn {n : Nat} (h : n < 4294967296) : Fn Tryz.prog 89 [.i .u32 n] (.d (.i .i64 ((32 - bitsN n : Nat) : Int))) := by
  have hb : bitsN n ≤ 32 := bitsN_iff.2 (by omega)
  refine Fn.of (rs := [.tmp 2]) (nt := 6) Tryz.func89 rfl rfl rfl (by simp) rfl ?_
  refine .seq ?_
  refine .region ?_
  refine asd ?_
  refine rn ?_
  refine .seq ?_
  refine .region ?_
  refine mvd ?_
  refine cl ?_ (Len32_fn h) Tryz.call105
  refine su ((32 - bitsN n : Nat) : Int) ?_ ?_
  · omega
  refine asd ?_
  refine rn ?_
  refine .ret ?_
  exact ⟨rfl, rfl⟩
end Go.FL
/-
  nat.Bits; math/bits.Div32; nat.small.
-/
namespace Go.FL
open Go Go.Proofs

theorem pow32 (n : Nat) : 4294967296 ^ n = 2 ^ (32 * n) := by rw [Nat.pow_mul]
theorem bitsN_val {b : List Nat} {x : Nat} (h : Ok b) (hx : x ≠ 0) : bitsN (val (b ++ [x])) = 32 * b.length + bitsN x := by
  obtain ⟨k, h1, h2, h3⟩ := bitsN_pos hx
  have hv := val_lt h
  rw [h1, val_append, ← Nat.add_assoc]
  simp only [val]
  rw [pow32] at hv ⊢
  have hp := Nat.two_pow_pos (32 * b.length)
  refine bitsN_eq ?_ ?_
  · rw [Nat.pow_add]
    have := Nat.mul_le_mul_left (2 ^ (32 * b.length)) h2
    simp only [Nat.mul_zero, Nat.add_zero]; omega
  · rw [show 32 * b.length + k + 1 = 32 * b.length + (k + 1) by omega, Nat.pow_add]
    have := Nat.mul_le_mul_left (2 ^ (32 * b.length)) (Nat.succ_le_of_lt h3)
    rw [Nat.mul_succ] at this
    simp only [Nat.mul_zero, Nat.add_zero]; omega
theorem digs_split {n : Nat} (h : n ≠ 0) : ∃ b x, digs n = b ++ [x] ∧ x ≠ 0 ∧ Ok b ∧ x < 4294967296 := by
  rcases List.eq_nil_or_concat (digs n) with h0 | ⟨b, x, h0⟩
  · rw [digs_pos h] at h0; cases h0
  · rw [List.concat_eq_append] at h0
    have ho := digs_ok n
    rw [h0] at ho
    exact ⟨b, x, h0, top_digs n x (by rw [h0]; simp), ho.left, ho.right x (by simp)⟩
theorem digs_nil_iff {n : Nat} : digs n = [] ↔ n = 0 := by
  constructor
  · intro h
    apply Classical.byContradiction
    intro h0; rw [digs_pos h0] at h; cases h
  · rintro rfl; exact digs_zero
theorem Bits_fn {a : List Nat} (h : Ok a) (hl : a.length ≤ 1048576) : Fn Tryz.prog 80 [.sl (L a)] (.d (.i .i64 (bitsN (val a)))) := by
  have hd := digs_len_le h
  refine Fn.of (rs := [.tmp 2]) (nt := 19) Tryz.func80 rfl rfl rfl (by simp) rfl ?_
  refine .seq ?_
  refine .region ?_
  refine asd ?_
  refine rn ?_
  refine .seq ?_
  refine .region ?_
  refine mvd ?_
  refine cl ?_ (cut_val h (by omega)) Tryz.call82
  refine asd ?_
  refine rn ?_
  refine .seq ?_
  refine .seq ?_
  refine .region ?_
  refine mvd ?_
  refine ln ?_ (L_sz _) l32
  refine bi ?_
  refine rn ?_
  by_cases hz : val a = 0
  · rw [hz, digs_zero]
    refine cndt ?_
    refine .seq ?_
    refine .region ?_
    refine asd ?_
    refine rn ?_
    refine .ret ?_
    exact ⟨rfl, rfl⟩
  · obtain ⟨b, x, e1, hx, hb, hxl⟩ := digs_split hz
    have hval : bitsN (val a) = 32 * b.length + bitsN x := by rw [← bitsN_val hb hx, ← e1, val_digs]
    have hlx : bitsN x ≤ 32 := bitsN_iff.2 (by omega)
    rw [e1] at hd ⊢
    simp only [List.length_append, List.length_singleton] at hd
    rw [decide_eq_false (show ¬ ((L (b ++ [x])).length : Int) = 0 by simp [L_length]; omega)]
    refine cndf ?_
    refine .skip ?_
    show AW _ _ _ _ _ _
    refine .seq ?_
    refine .region ?_
    refine mvd ?_
    refine ln ?_ (L_sz _) l32
    refine ml ((32 * (b.length + 1) : Nat) : Int) ?_ ?_
    · simp [L_length]; omega
    refine mvd ?_
    refine mvd ?_
    refine ln ?_ (L_sz _) l32
    refine su (b.length : Int) ?_ ?_
    · simp [L_length]; omega
    refine ix b.length ?_ rfl (L_at (xs := b ++ [x]) (n := x) (by simp)) rfl s32
    refine ldp ?_ a32
    refine cl ?_ (LeadingZeros32_fn hxl) Tryz.call89
    refine su ((bitsN (val a) : Nat) : Int) ?_ ?_
    · omega
    refine asd ?_
    refine rn ?_
    refine .ret ?_
    exact ⟨rfl, rfl⟩
theorem wraps_u64 (n : Int) (h₀ : 0 ≤ n) (h₁ : n < 2 ^ 64) : IntKind.u64.wrap n = n := by
  simp only [IntKind.wrap, IntKind.bits, IntKind.signed]; simp; omega
theorem wraps_u32 (n : Int) (h₀ : 0 ≤ n) (h₁ : n < 2 ^ 32) : IntKind.u32.wrap n = n := by
  simp only [IntKind.wrap, IntKind.bits, IntKind.signed]; simp; omega
theorem u64_join {x y : Nat} (hx : x < 4294967296) (hy : y < 4294967296) : bits .or .u64 ((x * 4294967296 : Nat) : Int) (y : Int) = ((x * 4294967296 + y : Nat) : Int) := by
  rw [bits_join .u64 64 (by decide) wraps_u64 32 ((x * 4294967296 : Nat) : Int) (y : Int) (by omega) (by omega) (by omega) (by omega) (by omega) (by omega)]
  omega
theorem tdiv_nat (n m : Nat) : Int.tdiv (n : Int) (m : Int) = ((n / m : Nat) : Int) := rfl
theorem tmod_nat (n m : Nat) : Int.tmod (n : Int) (m : Int) = ((n % m : Nat) : Int) := rfl
theorem Div32_fn {hi lo y : Nat} (h1 : hi < y) (h2 : lo < 4294967296) (h3 : y < 4294967296) : Fn Tryz.prog 104 [.i .u32 hi, .i .u32 lo, .i .u32 y]
    (.tup [.d (.i .u32 (((hi * 4294967296 + lo) / y : Nat) : Int)), .d (.i .u32 (((hi * 4294967296 + lo) % y : Nat) : Int))]) := by
  have hq : (hi * 4294967296 + lo) / y < 4294967296 := by
    rw [Nat.div_lt_iff_lt_mul (by omega)]
    have : hi * 4294967296 + 4294967296 ≤ y * 4294967296 := by rw [← Nat.succ_mul]; exact Nat.mul_le_mul_right _ h1
    omega
  have hr : (hi * 4294967296 + lo) % y < 4294967296 := by have := Nat.mod_lt (hi * 4294967296 + lo) (show 0 < y by omega); omega
  refine Fn.of (rs := [.tmp 6, .tmp 7]) (nt := 33) Tryz.func104 rfl rfl rfl (by simp) rfl ?_
  refine .seq ?_
  refine .region ?_
  refine asd ?_
  refine asd ?_
  refine rn ?_
  refine .seq ?_
  refine .seq ?_
  refine .region ?_
  refine mvd ?_
  refine bi ?_
  refine mvd ?_
  have e1 : (!decide ((y:Int) = 0)) = true := by simp; omega
  rw [e1]
  refine mvd ?_
  refine mvd ?_
  refine bi ?_
  rw [decide_eq_false (show ¬ ((y:Int) ≤ (hi:Int)) by omega)]
  refine pkd ?_
  refine rn ?_
  refine cndf ?_
  refine .skip ?_
  show AW _ _ _ _ _ _
  refine .seq ?_
  refine .region ?_
  refine mvd ?_
  refine cve (hi : Int) (toU64 (by omega)) ?_ u32 u64
  refine bie (.i .u64 ((hi * 4294967296 : Nat) : Int)) ?_ ?_
  · refine ⟨by decide, ?_⟩
    rw [show min (32 : Int).toNat IntKind.u64.bits = 32 from rfl, wraps_u64 _ (by omega) (by omega)]
    simp
  refine mvd ?_
  refine cve (lo : Int) (toU64 (by omega)) ?_ u32 u64
  refine bie (.i .u64 ((hi * 4294967296 + lo : Nat) : Int)) ?_ ?_
  · exact ⟨trivial, by rw [u64_join (by omega) h2]⟩
  refine asd ?_
  refine rn ?_
  refine .seq ?_
  refine .gh (Gh.keep [2, 8] rfl) ?_
  refine .drawn 12 mixed (by kernel_rfl) ?_
  refine dv vmvd ?_
  refine dv vmvd ?_
  refine dv (vcve (y : Int) (toU64 (by omega)) u32 u64) ?_
  refine dv (vbie (.i .u64 (((hi * 4294967296 + lo) / y : Nat) : Int)) ?_) ?_
  · refine ⟨by omega, ?_⟩
    rw [tdiv_nat, toU64 (by omega)]
  refine dv (vcve (((hi * 4294967296 + lo) / y : Nat) : Int) (toU32 hq) u64 u32) ?_
  refine dv vmvd ?_
  refine dv vmvd ?_
  refine dv (vcve (y : Int) (toU64 (by omega)) u32 u64) ?_
  refine dv (vbie (.i .u64 (((hi * 4294967296 + lo) % y : Nat) : Int)) ?_) ?_
  · refine ⟨by omega, ?_⟩
    rw [tmod_nat]
  refine dv (vcve (((hi * 4294967296 + lo) % y : Nat) : Int) (toU32 hr) u64 u32) ?_
  refine dv vasd ?_
  refine dv vasd ?_
  refine dz ?_
  refine rn ?_
  refine .ret ?_
  exact ⟨by decide, rfl, rfl, rfl⟩
end Go.FL
/-
  nat.Small.
-/
namespace Go.FL
open Go Go.Proofs

theorem wraps_i64 (n : Int) (h₀ : 0 ≤ n) (h₁ : n < 2 ^ 63) : IntKind.i64.wrap n = n := by
  simp only [IntKind.wrap, IntKind.bits, IntKind.signed]; simp; omega
theorem i64_join {x y : Nat} (hx : x < 2147483648) (hy : y < 4294967296) : bits .or .i64 ((x * 4294967296 : Nat) : Int) (y : Int) = ((x * 4294967296 + y : Nat) : Int) := by
  rw [bits_join .i64 63 (by decide) wraps_i64 32 ((x * 4294967296 : Nat) : Int) (y : Int) (by omega) (by omega) (by omega) (by omega) (by omega) (by omega)]
  omega
theorem zi64 (w : World) : (zeroValue 3).run Tryz.prog w = .ok (.int .i64 0) w := by
  simp
theorem zi1 : szOf Tryz.prog 3 = 1 := by kernel_rfl
theorem ai1 : aggT Tryz.prog 3 = some false := by kernel_rfl
theorem val_at {xs : List Nat} {j : Nat} (h : j < xs.length) : val (xs.drop j) = xs[j] + 4294967296 * val (xs.drop (j + 1)) := by
  rw [List.drop_eq_getElem_cons h]; simp [val]
theorem val_small {xs : List Nat} (h : Ok xs) (hl : xs.length ≤ 2) (hv : val xs < 9223372036854775808) : ∀ j, val (xs.drop (j + 1)) < 2147483648 := by
  intro j
  match xs, hl with
  | [], _ => simp [val]
  | [x], _ => cases j <;> simp [val]
  | [x, y], _ =>
    cases j with
    | zero => simp [val] at hv ⊢; omega
    | succ j => cases j <;> simp [val]
def smallN (a : List Nat) : Nat := if bitsN (val a) ≤ 63 then val a else 0
theorem Small_fn {a : List Nat} (h : Ok a) (hl : a.length ≤ 1048576) : Fn Tryz.prog 35 [.sl (L a)] (.tup [.d (.i .i64 (smallN a : Nat)), .d (.b (decide (bitsN (val a) ≤ 63)))]) := by
  refine Fn.ofM (rs := [.tmp 2, .tmp 3]) (nt := 21) Tryz.func35 rfl rfl rfl (by simp) rfl ?_
  refine .seqA ?_
  refine .region ?_
  refine asd ?_
  refine asd ?_
  refine rn ?_
  show AWM _ _ _ _ _ _
  refine .seqA ?_
  refine .seq ?_
  refine .region ?_
  refine mvd ?_
  refine cl (xs := [.sl (L a)]) ?_ (Bits_fn h hl) Tryz.call80
  refine bi ?_
  refine rn ?_
  by_cases hb : bitsN (val a) ≤ 63
  · rw [decide_eq_false (show ¬ ((63 : Int) < (bitsN (val a) : Int)) by omega)]
    refine cndf ?_
    refine .skip ?_
    show AWM _ _ _ _ _ _
    have hv63 : val a < 9223372036854775808 := bitsN_iff.1 hb
    have hlen2 : (digs (val a)).length ≤ 2 := digs_len (by omega)
    have hvd := val_digs (val a)
    have hvs := val_small (digs_ok (val a)) hlen2 (by rw [hvd]; exact hv63)
    have hdok := digs_ok (val a)
    refine .seqA ?_
    refine .region ?_
    refine al ?_ zi64 (fun w I μ => .cons (c := .d (.i .i64 0)) (b1 := []) (.d (.i _ _)) .nil)
    refine stb (cs := [.d (.i .i64 0)]) (c := .d (.i .i64 0)) rfl rfl ?_ zi1
    refine rn ?_
    show AWM _ _ _ _ _ _
    refine .seq rfl ?_
    refine .seqA ?_
    refine .region ?_
    refine mvd ?_
    refine cl (xs := [.sl (L a)]) ?_ (cut_fn a (by omega)) Tryz.call82
    rw [cutL_val h]
    refine cl (xs := [.sl (L (digs (val a)))]) ?_ (Backward_fn (L (digs (val a)))) Tryz.call81
    refine rn ?_
    show AWM _ _ _ _ _ _
    generalize digs (val a) = xs at *
    have hys : ∀ ds ∈ backY (L xs), ds.length = 2 := fun ds hds => by
      obtain ⟨k, hk⟩ := List.getElem?_of_mem hds
      rw [(backY_at hk).2]; rfl
    have hit := bw_it (L xs) (by intro x hx; simp only [L, List.mem_map] at hx; obtain ⟨n, _, rfl⟩ := hx; rfl) (by rw [L_length]; omega)
    refine .block ?_
    refine .rangeFunc rfl rfl rfl Tryz.call102 hit hys (by decide) (by decide) rfl (fun k => [.box [.d (.i .i64 ((val (xs.drop (xs.length - k)) : Nat) : Int))]]) (by simp [val]) ?_ ?_
    · intro l k d1 d2 hk
      obtain ⟨hk1, hk2⟩ := backY_at hk
      rw [L_length] at hk1 hk2
      have hj : xs.length - 1 - k < xs.length := by omega
      have hxat : (L xs).getD (xs.length - 1 - k) .np = U xs[xs.length - 1 - k] := by
        rw [List.getD_eq_getElem?_getD, L_at (List.getElem?_eq_getElem hj)]; rfl
      rw [hxat] at hk2
      simp only [List.cons.injEq, and_true] at hk2
      obtain ⟨rfl, rfl⟩ := hk2
      have hva := val_at hj
      have hx := hdok.at (List.getElem?_eq_getElem hj)
      have hsm := hvs (xs.length - 1 - k)
      have e1 : xs.length - 1 - k + 1 = xs.length - k := by omega
      have e2 : xs.length - (k + 1) = xs.length - 1 - k := by omega
      rw [e1] at hva hsm
      rw [e2]
      generalize xs[xs.length - 1 - k] = x at *
      generalize val (xs.drop (xs.length - k)) = n at *
      rw [hva]
      refine .region ?_
      refine asd ?_
      refine rn ?_
      show AW _ _ _ _ _ _
      refine .block ?_
      refine .region ?_
      refine ldb (cs := [.d (.i .i64 (n : Int))]) (c := .d (.i .i64 (n : Int))) rfl rfl ?_ ai1
      refine bie (.i .i64 ((n * 4294967296 : Nat) : Int)) ?_ ?_
      · refine ⟨by decide, ?_⟩
        have : IntKind.i64.wrap ((n : Int) * 4294967296) = ((n * 4294967296 : Nat) : Int) := by
          rw [wraps_i64 _ (by omega) (by omega)]; omega
        rw [← this]; simp [IntKind.bits]
      refine mvd ?_
      refine cve (x : Int) (wraps_i64 _ (by omega) (by omega)) ?_ u32 i64
      refine bie (.i .i64 ((n * 4294967296 + x : Nat) : Int)) ?_ ?_
      · exact ⟨trivial, by rw [i64_join hsm hx]⟩
      refine stb (cs := [.d (.i .i64 (n : Int))]) (c := .d (.i .i64 (n : Int))) rfl rfl ?_ zi1
      refine .nil ?_
      refine ⟨rfl, ?_⟩
      rw [show n * 4294967296 + x = x + 4294967296 * n by omega]
      rfl
    · show AWM _ _ _ _ _ _
      refine .lift ?_
      rw [backY_length, L_length, Nat.sub_self, List.drop_zero, hvd]
      refine .seq ?_
      refine .region ?_
      refine ldb (cs := [.d (.i .i64 ((val a : Nat) : Int))]) (c := .d (.i .i64 ((val a : Nat) : Int))) rfl rfl ?_ ai1
      refine asd ?_
      refine asd ?_
      refine rn ?_
      refine .ret ?_
      exact ⟨by decide, by rw [decide_eq_true hb, smallN, if_pos hb]; rfl, rfl, rfl⟩
  · rw [decide_eq_true (show ((63 : Int) < (bitsN (val a) : Int)) by omega)]
    refine cndt ?_
    refine .seq ?_
    refine .region ?_
    refine asd ?_
    refine asd ?_
    refine rn ?_
    refine .ret ?_
    exact ⟨by decide, by rw [decide_eq_false hb, smallN, if_neg hb]; rfl, rfl, rfl⟩
end Go.FL
/-
  nat.small: division by one limb.
-/
namespace Go.FL
open Go Go.Proofs

theorem L_set (xs : List Nat) (i n : Nat) : (L xs).set i (U n) = L (xs.set i n) := by simp [L, List.map_set]
theorem L_at' {xs : List Nat} {i n : Nat} (h : xs[i]? = some n) : ∃ x, (L xs)[i]? = some x ∧ x.cells[0]? = some (U n) := ⟨U n, L_at h, rfl⟩
theorem L_leaf {xs : List Nat} {i n : Nat} (h : xs[i]? = some n) : ∃ x, (L xs)[i]? = some x ∧ x.leaf = true := ⟨U n, L_at h, rfl⟩
/-- One round of the division. -/
theorem small_round {ds qs : List Nat} {k x r d : Nat} (hx : ds[k]? = some x) (h : val (ds.drop (k + 1)) = val qs * d + r) :
    val (ds.drop k) = val ((r * 4294967296 + x) / d :: qs) * d + (r * 4294967296 + x) % d := by
  have hk : k < ds.length := (List.getElem?_eq_some_iff.1 hx).1
  have e : ds.drop k = x :: ds.drop (k + 1) := by
    rw [List.drop_eq_getElem_cons hk]
    rw [List.getElem?_eq_getElem hk] at hx; cases hx; rfl
  rw [e, val, h, val]
  have := Nat.div_add_mod (r * 4294967296 + x) d
  generalize (r * 4294967296 + x) / d = q at *
  generalize (r * 4294967296 + x) % d = s at *
  rw [Nat.add_mul, Nat.mul_add, Nat.mul_comm q d]
  have e2 : 4294967296 * (val qs * d) = 4294967296 * val qs * d := by rw [Nat.mul_assoc]
  omega
theorem divmod_of {n q r d : Nat} (h : n = q * d + r) (hr : r < d) : n / d = q ∧ n % d = r := by
  subst h
  have hd : 0 < d := by omega
  constructor
  · rw [Nat.mul_comm, Nat.mul_add_div hd, Nat.div_eq_of_lt hr]; omega
  · rw [Nat.mul_comm, Nat.mul_add_mod, Nat.mod_eq_of_lt hr]
theorem small_fn {a : List Nat} (h : Ok a) (hl : a.length ≤ 1048576) {d : Nat} (hd0 : 0 < d) (hd : d < 4294967296) : Fn Tryz.prog 88 [.sl (L a), .i .u32 d]
    (.tup [.d (.sl (L (digs (val a / d)))), .d (.sl (L (digs (val a % d))))]) := by
  have hdl := digs_len_le h
  refine Fn.of (rs := [.tmp 4, .tmp 5]) (nt := 35) Tryz.func88 rfl rfl rfl (by simp) rfl ?_
  refine .seq ?_
  refine .region ?_
  refine asn ?_
  refine asn ?_
  refine rn ?_
  refine .seq ?_
  refine .region ?_
  refine mvd ?_
  refine cl ?_ (Trim_fn h (by omega)) Tryz.call83
  refine aso ?_
  refine rn ?_
  refine .seq ?_
  refine .region ?_
  refine asd ?_
  refine rn ?_
  generalize hds : digs (val a) = ds at *
  have hok : Ok ds := by rw [← hds]; exact digs_ok _
  have hv : val ds = val a := by rw [← hds, val_digs]
  refine .mid (fun e H' => ∃ qs r, e = [(4, .own 40 (L qs)), (6, .d (.i .u32 ((r : Nat) : Int)))] ∧ H' = [] ∧ Ok qs ∧ qs.length = ds.length ∧ r < d ∧ val a = val qs * d + r) ?_ ?_
  · refine .seq ?_
    refine .region ?_
    refine mvo ?_
    refine lnr ?_ l32
    refine su ((ds.length : Int) - 1) ?_ ?_
    · simp [L_length]; omega
    refine asd ?_
    refine rn ?_
    refine .block ?_
    refine .loop (.gh (Gh.keep [1, 4, 6, 7] rfl) ?_)
    refine AL.cast (env' := [(1, .d (.i .u32 d)), (4, .own 40 (L (ds.take ds.length ++ []))), (6, .d (.i .u32 ((0 : Nat) : Int))), (7, .d (.i .i64 ((ds.length : Int) - 1)))]) (by simp [keepE, get, argEnv]) ?_
    refine AL.ind (σ := Nat × List Nat × Nat) (m := fun s => s.1) (e := fun s => [(1, .d (.i .u32 d)), (4, .own 40 (L (ds.take s.1 ++ s.2.1))), (6, .d (.i .u32 (s.2.2 : Int))), (7, .d (.i .i64 ((s.1 : Int) - 1)))]) (h := fun _ => [])
      (I := fun s => s.1 ≤ ds.length ∧ Ok s.2.1 ∧ s.2.1.length + s.1 = ds.length ∧ s.2.2 < d ∧ val (ds.drop s.1) = val s.2.1 * d + s.2.2) ?_ (ds.length, [], 0) ?_
    rotate_left
    · exact ⟨Nat.le_refl _, .nil, by simp, hd0, by simp [val]⟩
    rintro ⟨k, qs, r⟩ ⟨h1, h2, h3, h4, h5⟩ ih
    dsimp only at h1 h2 h3 h4 h5 ih ⊢
    refine .seq ?_
    refine .seq ?_
    refine .region ?_
    refine mvd ?_
    refine bi ?_
    refine rn ?_
    rcases Nat.eq_zero_or_pos k with rfl | hk
    · rw [decide_eq_false (show ¬ (0:Int) ≤ ((0 : Nat) : Int) - 1 by omega)]
      refine cndf ?_
      refine .gh (Gh.keep [4, 6] rfl) ?_
      refine .exit ?_
      refine ⟨qs, r, rfl, rfl, h2, by omega, h4, ?_⟩
      rw [← hv, ← h5, List.drop_zero]
    · obtain ⟨k, rfl⟩ : ∃ j, k = j + 1 := ⟨k - 1, by omega⟩
      have hx : ds[k]? = some ds[k] := List.getElem?_eq_getElem (by omega)
      generalize ds[k] = x at hx
      have hx' : (ds.take (k + 1) ++ qs)[k]? = some x := by
        rw [List.getElem?_append_left (by simp; omega), List.getElem?_take_of_lt (by omega)]; exact hx
      rw [decide_eq_true (show (0:Int) ≤ ((k + 1 : Nat) : Int) - 1 by omega)]
      refine cndt ?_
      refine .skip ?_
      show AW _ _ _ _ _ _
      refine .seq ?_
      refine .block ?_
      refine .region ?_
      refine mvo ?_
      refine mvd ?_
      refine mvd ?_
      refine mvo ?_
      refine mvd ?_
      refine ixr k ?_ ?_ ?_ s32 (by decide)
      · omega
      · simp [L_length]; omega
      refine lde (U x) ?_ ?_ a32
      · rw [Nat.zero_add]; exact L_at' hx'
      refine mvd ?_
      refine cl (xs := [.i .u32 r, .i .u32 x, .i .u32 d]) ?_ (Div32_fn h4 (hok.at hx) hd) Tryz.call104
      refine mvt ?_
      refine ex ?_
      refine ex ?_
      refine ixr k ?_ ?_ ?_ s32 (by decide)
      · omega
      · simp [L_length]; omega
      refine ste ?_ ?_ z32
      · rw [Nat.zero_add]; exact L_leaf hx'
      refine asd ?_
      refine .nil ?_
      show AW _ _ _ _ _ _
      refine .region ?_
      refine mvd ?_
      refine su ((k : Int) - 1) ?_ ?_
      · omega
      refine asd ?_
      refine .nil ?_
      have hq : (r * 4294967296 + x) / d < 4294967296 := by
        rw [Nat.div_lt_iff_lt_mul (by omega)]
        have : r * 4294967296 + 4294967296 ≤ d * 4294967296 := by rw [← Nat.succ_mul]; exact Nat.mul_le_mul_right _ h4
        have := hok.at hx
        omega
      have e1 : (L (ds.take (k + 1) ++ qs)).set (0 + k) (U ((r * 4294967296 + x) / d)) = L (ds.take k ++ ((r * 4294967296 + x) / d :: qs)) := by
        rw [L_set, Nat.zero_add, List.take_add_one, hx]
        congr 1
        rw [List.append_assoc, List.set_append_right _ _ (by simp; omega)]
        simp [Nat.min_eq_left (show k ≤ ds.length by omega)]
      refine AL.gh (Gh.keep [1, 4, 6, 7] rfl) ?_
      have := ih (k, (r * 4294967296 + x) / d :: qs, (r * 4294967296 + x) % d) ⟨by omega, .cons hq h2, by simp; omega, Nat.mod_lt _ hd0, small_round hx h5⟩ (by simp)
      dsimp only at this
      rw [← e1] at this
      exact this
  · rintro _ _ ⟨qs, r, rfl, rfl, h1, h2, h3, h4⟩
    obtain ⟨e1, e2⟩ := divmod_of h4 h3
    rw [e1, e2]
    refine .seq ?_
    refine .region ?_
    refine fz (p := .t 4) ?_
    refine mvd ?_
    refine cl (xs := [.sl (L qs)]) ?_ (cut_val h1 (by omega)) Tryz.call82
    refine mvd ?_
    refine cve (r : Int) (toU64 (by omega)) ?_ u32 u64
    refine cl ?_ (Of_fn (n := r) (by omega)) Tryz.call79
    refine asd ?_
    refine asd ?_
    refine rn ?_
    refine .ret ?_
    exact ⟨by decide, rfl, rfl, rfl⟩
end Go.FL
/-
  slices.Reverse of bytes.
-/
namespace Go.FL
open Go Go.Proofs

theorem s8 : sliceT Tryz.prog 101 = some (5, 1, 1) := by kernel_rfl
theorem e8 : elemT Tryz.prog 101 = some (5, 1, 1, .int .u8 0) := by kernel_rfl
theorem l8 : Tryz.prog.underlying 101 = some (.slice (Tryz.prog.elem 101)) := by kernel_rfl
theorem q8 : Tryz.prog.underlying 101 = some (.slice 5) := by kernel_rfl
theorem a8 : aggT Tryz.prog 5 = some false := by kernel_rfl
theorem z8 : szOf Tryz.prog 5 = 1 := by kernel_rfl
theorem B_at' {ns : List Nat} {i n : Nat} (h : ns[i]? = some n) : ∃ x, (B ns)[i]? = some x ∧ x.cells[0]? = some (.i .u8 (n : Int)) := ⟨_, B_at h, rfl⟩
theorem B_leaf {ns : List Nat} {i n : Nat} (h : ns[i]? = some n) : ∃ x, (B ns)[i]? = some x ∧ x.leaf = true := ⟨_, B_at h, rfl⟩

/-- The first i and the last i are exchanged. -/
def revI (ns : List Nat) (i : Nat) : List Nat := (List.range ns.length).map fun j => if j < i ∨ ns.length < j + i + 1 then ns.getD (ns.length - 1 - j) 0 else ns.getD j 0
theorem revI_length (ns : List Nat) (i : Nat) : (revI ns i).length = ns.length := by simp [revI]
theorem revI_at {ns : List Nat} {i j : Nat} (h : j < ns.length) : (revI ns i)[j]? = some (if j < i ∨ ns.length < j + i + 1 then ns.getD (ns.length - 1 - j) 0 else ns.getD j 0) := by simp [revI, h]
theorem revI_zero (ns : List Nat) : revI ns 0 = ns := by
  apply List.ext_getElem?
  intro j
  by_cases h : j < ns.length
  · rw [revI_at h, if_neg (by omega), List.getD_eq_getElem?_getD, List.getElem?_eq_getElem h]; rfl
  · rw [List.getElem?_eq_none (by rw [revI_length]; omega), List.getElem?_eq_none (by omega)]
theorem revI_full (ns : List Nat) {i : Nat} (hi : ns.length ≤ 2 * i + 1) : revI ns i = ns.reverse := by
  apply List.ext_getElem?
  intro j
  by_cases h : j < ns.length
  · rw [revI_at h, List.getElem?_reverse h]
    by_cases hc : j < i ∨ ns.length < j + i + 1
    · rw [if_pos hc, List.getD_eq_getElem?_getD, List.getElem?_eq_getElem (by omega)]; rfl
    · have : ns.length - 1 - j = j := by omega
      rw [if_neg hc, this, List.getD_eq_getElem?_getD, List.getElem?_eq_getElem h]; rfl
  · rw [List.getElem?_eq_none (by rw [revI_length]; omega), List.getElem?_eq_none (by simp; omega)]
theorem revI_step (ns : List Nat) {i : Nat} (hi : 2 * i + 1 < ns.length) : ((revI ns i).set i (ns.getD (ns.length - 1 - i) 0)).set (ns.length - 1 - i) (ns.getD i 0) = revI ns (i + 1) := by
  apply List.ext_getElem?
  intro j
  by_cases h : j < ns.length
  · rw [revI_at h, List.getElem?_set, List.getElem?_set, revI_at h, List.length_set, revI_length]
    by_cases h1 : ns.length - 1 - i = j
    · rw [if_pos h1, if_pos (by omega), if_pos (by omega), ← h1, show ns.length - 1 - (ns.length - 1 - i) = i by omega]
    · rw [if_neg h1]
      by_cases h2 : i = j
      · rw [if_pos h2, if_pos (by omega), if_pos (by omega), h2]
      · rw [if_neg h2]
        by_cases hc : j < i ∨ ns.length < j + i + 1
        · rw [if_pos hc, if_pos (by omega)]
        · rw [if_neg hc, if_neg (by omega)]
  · rw [List.getElem?_eq_none (by simp [revI_length]; omega), List.getElem?_eq_none (by rw [revI_length]; omega)]

theorem Reverse_fn {H : Heap} {ns : List Nat} (hl : ns.length ≤ 1073741824) : FnG Tryz.prog 101 [.own 5 (B ns)] H (.tup []) [.own 5 (B ns.reverse)] H := by
  refine FnG.of (rs := []) 1 28 Tryz.func101 rfl rfl rfl (by simp) (by simp) (by simp) ?_
  refine .seq ?_
  refine .region ?_
  refine mvo ?_
  refine lnr ?_ l8
  refine su ((ns.length : Int) - 1) ?_ ?_
  · rw [B_length]; omega
  refine asd ?_
  refine asd ?_
  refine rn ?_
  refine .block ?_
  refine .loop (.gh (Gh.keep [0, 2, 3] rfl) ?_)
  refine AL.cast (env' := [(0, .own 5 (B (revI ns 0))), (2, .d (.i .i64 ((0 : Nat) : Int))), (3, .d (.i .i64 ((ns.length : Int) - 1 - ((0 : Nat) : Int))))]) (by rw [revI_zero]; simp; rfl) ?_
  refine AL.ind (σ := Nat) (m := fun i => ns.length - i) (e := fun i => [(0, .own 5 (B (revI ns i))), (2, .d (.i .i64 (i : Int))), (3, .d (.i .i64 ((ns.length : Int) - 1 - (i : Int))))]) (h := fun _ => H)
    (I := fun i => i ≤ ns.length) ?_ 0 (Nat.zero_le _)
  intro i h1 ih
  refine .seq ?_
  refine .seq ?_
  refine .region ?_
  refine mvd ?_
  refine mvd ?_
  refine bi ?_
  refine rn ?_
  by_cases hi : 2 * i + 1 < ns.length
  · rw [decide_eq_true (show (i:Int) < (ns.length : Int) - 1 - (i : Int) by omega)]
    refine cndt ?_
    refine .skip ?_
    show AW _ _ _ _ _ _
    have hjl : ns.length - 1 - i < ns.length := by omega
    have hxi : (revI ns i)[i]? = some (ns.getD i 0) := by rw [revI_at (by omega), if_neg (by omega)]
    have hxj : (revI ns i)[ns.length - 1 - i]? = some (ns.getD (ns.length - 1 - i) 0) := by rw [revI_at hjl, if_neg (by omega)]
    have hst := revI_step ns hi
    have hrl := revI_length ns i
    generalize ns.getD i 0 = x at *
    generalize ns.getD (ns.length - 1 - i) 0 = y at *
    refine .seq ?_
    refine .block ?_
    refine .drawnF 13 [2, 3] [(0, .own 5 ((B (revI ns i)).set i (.i .u8 (y : Int))))] H mixed (by kernel_rfl) rfl ?_
    refine dv vmvo ?_
    refine dv vmvd ?_
    refine dv vmvo ?_
    refine dv vmvd ?_
    refine dv vmvo ?_
    refine dv vmvd ?_
    refine dv (vixr (ns.length - 1 - i) ?_ ?_ s8 (by decide)) ?_
    · omega
    · rw [B_length, hrl]; omega
    refine dv (vlde (.i .u8 (y : Int)) ?_ a8) ?_
    · rw [Nat.zero_add]; exact B_at' hxj
    refine dv vmvo ?_
    refine dv vmvd ?_
    refine dv (vixr i ?_ ?_ s8 (by decide)) ?_
    · omega
    · rw [B_length, hrl]; omega
    refine dv (vlde (.i .u8 (x : Int)) ?_ a8) ?_
    · rw [Nat.zero_add]; exact B_at' hxi
    refine dv (vixr i ?_ ?_ s8 (by decide)) ?_
    · omega
    · rw [B_length, hrl]; omega
    refine dz ?_
    refine ⟨?_, ?_, ?_⟩
    · intro k hk
      simp only [List.mem_cons, List.not_mem_nil, or_false] at hk
      rcases hk with rfl | rfl
      · refine ⟨_, _, _, rfl, rfl, rfl, rfl, rfl, rfl, ?_⟩
        show VOK _ _ _ _ _ (.ref (.t 0) 0 (B (revI ns i)).length)
        rw [show (B (revI ns i)).length = ((B (revI ns i)).set i (.i .u8 (y : Int))).length by rw [List.length_set]]
        exact vmvo
      · exact ⟨_, _, _, rfl, rfl, rfl, rfl, rfl, rfl, vmvd⟩
    · intro om e hom hge
      cases hom
      have hnf : ∀ t, t ≠ 16 → t ≠ 17 → ∀ k ∈ [2, 3], ∀ v, ([(26, AV.ep (.t 0) (0 + i) 0), (25, .d (.i .u8 (x : Int))), (24, .ep (.t 0) (0 + i) 0), (23, .d (.i .i64 (i : Int))), (22, .ref (.t 0) 0 (B (revI ns i)).length), (21, .d (.i .u8 (y : Int))), (20, .ep (.t 0) (0 + (ns.length - 1 - i)) 0), (19, .d (.i .i64 ((ns.length : Int) - 1 - (i : Int)))), (18, .ref (.t 0) 0 (B (revI ns i)).length), (17, .d (.i .i64 ((ns.length : Int) - 1 - (i : Int)))), (16, .ref (.t 0) 0 (B (revI ns i)).length), (15, .d (.i .i64 (i : Int))), (14, .ref (.t 0) 0 (B (revI ns i)).length)] : Env).reverse[k]? ≠ some (t, v) := by
        intro t ht1 ht2 k hk v
        simp only [List.mem_cons, List.not_mem_nil, or_false] at hk
        rcases hk with rfl | rfl <;> simp [Ne.symm ht1, Ne.symm ht2]
      have g26 : get e 26 = .ep (.t 0) i 0 := (hge 26 (hnf 26 (by decide) (by decide))).trans (by show AV.ep (.t 0) (0 + i) 0 = _; rw [Nat.zero_add])
      have g21 : get e 21 = .d (.i .u8 (y : Int)) := hge 21 (hnf 21 (by decide) (by decide))
      have g0 : get e 0 = .own 5 (B (revI ns i)) := hge 0 (hnf 0 (by decide) (by decide))
      refine ok_st_ep (x := .tmp 26) (y := .tmp 21) (r := 26) (ay := .t 21) (p := .t 0) (i := i) (k := 0) (v := .i .u8 (y : Int)) (x' := .i .u8 (y : Int)) rfl rfl rfl rfl z8 g26 g0 (fun _ _ h => by cases h) g21 rfl ?_ ⟨rfl, rfl⟩
      rw [List.getD_eq_getElem?_getD, B_at hxi]; rfl
    · refine ixr (ns.length - 1 - i) ?_ ?_ ?_ s8 (by decide)
      · omega
      · rw [B_length, hrl]; omega
      refine ste ?_ ?_ z8
      · rw [Nat.zero_add]
        rw [B_set]
        exact B_leaf (n := y) (by rw [List.getElem?_set_ne (by omega)]; exact hxj)
      refine .nil ?_
      show AW _ _ _ _ _ _
      rw [Nat.zero_add, B_set, B_set, hst]
      refine .region ?_
      refine mvd ?_
      refine ad ((i + 1 : Nat) : Int) ?_ ?_
      · omega
      refine mvd ?_
      refine su ((ns.length : Int) - 1 - ((i + 1 : Nat) : Int)) ?_ ?_
      · omega
      refine asd ?_
      refine asd ?_
      refine rn ?_
      refine .gh (Gh.keep [0, 2, 3] rfl) ?_
      exact ih (i + 1) (by omega) (by omega)
  · rw [decide_eq_false (show ¬ ((i:Int) < (ns.length : Int) - 1 - (i : Int)) by omega)]
    refine cndf ?_
    refine .exit ?_
    refine ⟨⟨[], by simp⟩, rfl, ?_⟩
    intro k c hk
    cases k with
    | zero =>
      simp at hk; subst hk
      exact ⟨by rw [← revI_full ns (i := i) (by omega)]; rfl, rfl, by simp⟩
    | succ k => simp at hk
end Go.FL
/-
  Decimal digits, the last one first.
-/
namespace Go.FL
open Go Go.Proofs

def decR (n : Nat) : List Nat := if h : n = 0 then [] else (48 + n % 10) :: decR (n / 10)
termination_by n
decreasing_by omega
theorem decR_zero : decR 0 = [] := by unfold decR; simp
theorem decR_pos {n : Nat} (h : n ≠ 0) : decR n = (48 + n % 10) :: decR (n / 10) := by
  rw [decR]; simp [h]
/-- A number's text. -/
def decT (n : Nat) : List Nat := if n = 0 then [48] else (decR n).reverse
def dval : List Nat → Nat
  | [] => 0
  | x :: r => (x - 48) + 10 * dval r
def Dig (xs : List Nat) : Prop := ∀ x ∈ xs, 48 ≤ x ∧ x ≤ 57
theorem dval_append (a b : List Nat) : dval (a ++ b) = dval a + 10 ^ a.length * dval b := by
  induction a with
  | nil => simp [dval]
  | cons x r ih => simp only [List.cons_append, dval, ih, List.length_cons, Nat.pow_succ, Nat.mul_add]; rw [Nat.mul_comm (10 ^ r.length) 10, Nat.mul_assoc]; omega
/-- Digits are those of their value, and noughts behind. -/
theorem dig_pad : ∀ (xs : List Nat), Dig xs → ∃ k, xs = decR (dval xs) ++ List.replicate k 48
  | [], _ => ⟨0, by simp [dval, decR_zero]⟩
  | x :: r, h => by
    obtain ⟨k, hk⟩ := dig_pad r (fun y hy => h y (by simp [hy]))
    have hx := h x (by simp)
    by_cases h0 : x - 48 + 10 * dval r = 0
    · have h1 : dval r = 0 := by omega
      rw [h1, decR_zero] at hk
      refine ⟨k + 1, ?_⟩
      rw [dval, h0, decR_zero, List.replicate_succ, List.nil_append, show x = 48 by omega]
      congr 1
    · refine ⟨k, ?_⟩
      rw [dval, decR_pos h0, show (x - 48 + 10 * dval r) / 10 = dval r by omega, show 48 + (x - 48 + 10 * dval r) % 10 = x by omega, List.cons_append, ← hk]
theorem decR_last {n : Nat} (h : n ≠ 0) : ∃ xs x, decR n = xs ++ [x] ∧ x ≠ 48 := by
  induction n using Nat.strongRecOn with
  | ind n ih =>
    rw [decR_pos h]
    by_cases h1 : n / 10 = 0
    · rw [h1, decR_zero]
      exact ⟨[], _, rfl, by omega⟩
    · obtain ⟨xs, x, e, hx⟩ := ih (n / 10) (by omega) h1
      exact ⟨_ :: xs, x, by rw [e]; rfl, hx⟩
theorem decR_ne {n : Nat} (h : n ≠ 0) : decR n ≠ [] := by rw [decR_pos h]; simp
end Go.FL
/-
  nat.Print.
-/
namespace Go.FL
open Go Go.Proofs

theorem z8p : 0 < szOf Tryz.prog 5 := by rw [z8]; decide
theorem tmod10 (n : Nat) : Int.tmod (n : Int) 10 = ((n % 10 : Nat) : Int) := rfl
theorem tdiv10 (n : Nat) : Int.tdiv (n : Int) 10 = ((n / 10 : Nat) : Int) := rfl
theorem Dig.snoc {xs : List Nat} {x : Nat} (h : Dig xs) (h1 : 48 ≤ x) (h2 : x ≤ 57) : Dig (xs ++ [x]) := by
  intro y hy
  rcases List.mem_append.1 hy with hy | hy
  · exact h y hy
  · simp at hy; subst hy; exact ⟨h1, h2⟩
theorem dval_snoc (xs : List Nat) (n : Nat) (M : Nat) : dval (xs ++ [48 + n % 10]) + 10 ^ (xs ++ [48 + n % 10]).length * (n / 10 + M) = dval xs + 10 ^ xs.length * (n + 10 * M) := by
  have e1 : (xs ++ [48 + n % 10]).length = xs.length + 1 := by simp
  have e2 : n + 10 * M = n % 10 + 10 * (n / 10 + M) := by omega
  have e3 : dval [48 + n % 10] = n % 10 := by simp [dval]
  rw [e1, e2, dval_append, e3, Nat.pow_succ, Nat.mul_add (10 ^ xs.length) (n % 10), Nat.mul_assoc, Nat.add_assoc]
theorem out_len {xs : List Nat} {m N l : Nat} (h : dval xs + 10 ^ xs.length * m = N) (hm : 0 < m) (hN : N < 4294967296 ^ l) : xs.length ≤ 32 * l := by
  have h1 : 10 ^ xs.length ≤ N := by
    have := Nat.mul_le_mul_left (10 ^ xs.length) hm
    omega
  have h2 : 2 ^ xs.length ≤ 10 ^ xs.length := Nat.pow_le_pow_left (by decide) _
  have h3 : 4294967296 ^ l = 2 ^ (32 * l) := by rw [Nat.pow_mul]
  rw [h3] at hN
  have h4 : 2 ^ xs.length < 2 ^ (32 * l) := by omega
  have := (Nat.pow_lt_pow_iff_right (a := 2) (by decide)).1 h4
  omega
theorem digs_ne {m : Nat} (h : 0 < m) : 0 < (digs m).length := by rw [digs_pos (by omega)]; simp
/-- While noughts stand behind, more than one. -/
theorem strip_step {N : Nat} {xs : List Nat} {k : Nat} (hN : N ≠ 0) (hx : xs = decR N ++ List.replicate k 48) :
    (k = 0 → ∃ x, xs[xs.length - 1]? = some x ∧ x ≠ 48) ∧ (k ≠ 0 → 1 < xs.length ∧ xs[xs.length - 1]? = some 48 ∧ xs.take (xs.length - 1) = decR N ++ List.replicate (k - 1) 48) := by
  refine ⟨fun h => ?_, fun h => ?_⟩
  · subst h
    obtain ⟨ys, y, e, hy⟩ := decR_last hN
    subst hx
    refine ⟨y, ?_, hy⟩
    rw [e]; simp
  · obtain ⟨j, rfl⟩ := Nat.exists_eq_succ_of_ne_zero h
    have hne := List.length_pos_iff.2 (decR_ne hN)
    have e : xs = (decR N ++ List.replicate j 48) ++ [48] := by rw [hx, List.replicate_succ', List.append_assoc]
    have hl : xs.length = (decR N ++ List.replicate j 48).length + 1 := by rw [e]; simp; omega
    have hl2 : (decR N ++ List.replicate j 48).length = (decR N).length + j := by simp
    refine ⟨by omega, ?_, ?_⟩
    · rw [hl, Nat.add_sub_cancel, e, List.getElem?_append_right (by omega), Nat.sub_self]; rfl
    · rw [hl, Nat.add_sub_cancel, e, List.take_left]; rfl

theorem Print_fn {a : List Nat} (h : Ok a) (hl : a.length ≤ 1048576) : Fn Tryz.prog 76 [.sl (L a)] (.d (.s (bstr (decT (val a))))) := by
  have hNl := val_lt h
  refine Fn.of (rs := [.tmp 2]) (nt := 60) Tryz.func76 rfl rfl rfl (by simp) rfl ?_
  refine .seq ?_
  refine .region ?_
  refine asd ?_
  refine rn ?_
  refine .seq ?_
  refine .region ?_
  refine asn ?_
  refine rn ?_
  refine .mid (fun e H' => ∃ out, e = [(3, .own 5 (B out))] ∧ H' = [] ∧ Dig out ∧ dval out = val a ∧ out.length ≤ 33554441 ∧ (val a = 0 → out = [])) ?_ ?_
  · refine .seq ?_
    refine .region ?_
    refine mvd ?_
    refine cl (xs := [.sl (L a)]) ?_ (Trim_fn h (by omega)) Tryz.call83
    refine aso ?_
    refine rn ?_
    refine .block ?_
    refine .gh (Gh.nlOwn (t := 3) 5 z8p rfl) ?_
    refine .gh (Gh.frz (p := .t 0) rfl (fun _ _ h => by cases h)) ?_
    refine .loop (.gh (Gh.keep [0, 3] rfl) ?_)
    refine AL.ind (σ := List Nat × Nat) (m := fun s => s.2) (e := fun s => [(0, .d (.sl (L (digs s.2)))), (3, .own 5 (B s.1))]) (h := fun _ => [])
      (I := fun s => Dig s.1 ∧ dval s.1 + 10 ^ s.1.length * s.2 = val a ∧ (s.1 ≠ [] → val a ≠ 0) ∧ s.1.length ≤ 33554441) ?_ ([], val a) ⟨by intro x hx; simp at hx, by simp [dval], by simp, by simp⟩
    rintro ⟨out, m⟩ ⟨h1, h2, h3, h3'⟩ ih
    dsimp only at h1 h2 h3 h3' ih ⊢
    refine .seq ?_
    refine .seq ?_
    refine .region ?_
    refine mvd ?_
    refine ln ?_ (L_sz _) l32
    refine bi ?_
    refine rn ?_
    by_cases hm : m = 0
    · subst hm
      rw [digs_zero]
      refine cndf ?_
      refine .gh (Gh.keep [3] rfl) ?_
      refine .exit ?_
      refine ⟨out, rfl, rfl, h1, by simpa using h2, h3', fun h0 => ?_⟩
      by_cases ho : out = []
      · exact ho
      · exact absurd h0 (h3 ho)
    · have hdl := digs_ne (show 0 < m by omega)
      rw [decide_eq_true (show (0:Int) < ((L (digs m)).length : Nat) by rw [L_length]; omega)]
      have hol := out_len h2 (by omega) hNl
      have hmN : m ≤ val a := by
        have := Nat.mul_le_mul_right m (Nat.pow_pos (n := out.length) (show 0 < 10 by decide))
        omega
      have hml : (digs m).length ≤ 1048576 := Nat.le_trans (digs_len (Nat.lt_of_le_of_lt hmN hNl)) hl
      have hvm := val_digs m
      refine cndt ?_
      refine .skip ?_
      show AW _ _ _ _ _ _
      refine .block ?_
      refine .seq ?_
      refine .region ?_
      refine mvd ?_
      refine cl (xs := [.sl (L (digs m)), .i .u32 ((1000000000 : Nat) : Int)]) ?_ (small_fn (d := 1000000000) (digs_ok m) hml (by decide) (by decide)) Tryz.call88
      refine mvt ?_
      refine ex ?_
      refine ex ?_
      refine asd ?_
      refine asd ?_
      refine rn ?_
      rw [hvm]
      have hr : m % 1000000000 < 1000000000 := Nat.mod_lt _ (by decide)
      have hq : m = m % 1000000000 + 1000000000 * (m / 1000000000) := by omega
      have hqlt : m / 1000000000 < m := by omega
      generalize m % 1000000000 = r at *
      generalize m / 1000000000 = q at *
      refine .seq ?_
      refine .region ?_
      refine mvd ?_
      have hrl : (digs r).length ≤ 1048576 := Nat.le_trans (digs_len (n := r) (k := 1) (by omega)) (by decide)
      refine cl (xs := [.sl (L (digs r))]) ?_ (Small_fn (digs_ok r) hrl) Tryz.call35
      refine mvt ?_
      refine ex ?_
      refine ex ?_
      refine asd ?_
      refine asd ?_
      refine rn ?_
      have hsm : smallN (digs r) = r := by
        unfold smallN; rw [val_digs, if_pos (bitsN_iff.2 (by omega))]
      rw [hsm]
      refine .mid (fun e H' => ∃ out', e = [(3, .own 5 (B out')), (4, .d (.sl (L (digs q))))] ∧ H' = [] ∧ Dig out' ∧ dval out' + 10 ^ out'.length * q = val a ∧ out'.length = out.length + 9) ?_ ?_
      · refine .seq ?_
        refine .region ?_
        refine mvd ?_
        refine rn ?_
        refine .block ?_
        refine .loop (.gh (Gh.keep [3, 4, 6, 23] rfl) ?_)
        refine AL.ind (σ := List Nat × Nat × Nat) (m := fun s => 9 - s.2.2) (e := fun s => [(3, .own 5 (B s.1)), (4, .d (.sl (L (digs q)))), (6, .d (.i .i64 (s.2.1 : Int))), (23, .d (.i .i64 (s.2.2 : Int)))]) (h := fun _ => [])
          (I := fun s => Dig s.1 ∧ s.2.2 ≤ 9 ∧ s.2.1 < 10 ^ (9 - s.2.2) ∧ dval s.1 + 10 ^ s.1.length * (s.2.1 + 10 ^ (9 - s.2.2) * q) = val a ∧ s.1.length = out.length + s.2.2) ?_ (out, r, 0) ⟨h1, by simp, by simpa using hr, by rw [← h2, hq]; rfl, by simp⟩
        rintro ⟨o2, n, j⟩ ⟨g1, g2, g3, g4, g5⟩ ih2
        dsimp only at g1 g2 g3 g4 g5 ih2 ⊢
        refine .seq ?_
        refine .region ?_
        refine bi ?_
        refine rn ?_
        refine .seq ?_
        by_cases hj : j < 9
        · rw [decide_eq_true (show (j:Int) < 9 by omega)]
          have hpj : 10 ^ (9 - j) = 10 * 10 ^ (9 - (j + 1)) := by rw [show 9 - j = (9 - (j + 1)) + 1 by omega, Nat.pow_succ, Nat.mul_comm]
          have hn9 : n < 1000000000 := Nat.lt_of_lt_of_le g3 (by
            have := Nat.pow_le_pow_right (n := 10) (by decide) (show 9 - j ≤ 9 by omega)
            exact this)
          refine cndt ?_
          refine .skip ?_
          show AW _ _ _ _ _ _
          refine .seq ?_
          refine .block ?_
          refine .seq ?_
          refine .region ?_
          refine mvo ?_
          refine mvd ?_
          refine bie (.i .i64 ((n % 10 : Nat) : Int)) ?_ ?_
          · exact ⟨by decide, by rw [tmod10]⟩
          refine ad ((48 + n % 10 : Nat) : Int) ?_ ?_
          · omega
          refine cve ((48 + n % 10 : Nat) : Int) (wrapU8 (by omega)) ?_ i64 u8
          refine bsl ?_ ?_ e8
          · simp [DV.flat, DV.cells, DV.leaf]
          refine apr ?_ ?_ (B_sz [48 + n % 10]) e8
          · rw [B_length, B_length]; simp; omega
          refine aso ?_
          refine rn ?_
          refine .region ?_
          refine mvd ?_
          refine bie (.i .i64 ((n / 10 : Nat) : Int)) ?_ ?_
          · refine ⟨by decide, ?_⟩
            rw [tdiv10, wraps_i64 _ (by omega) (by omega)]
          refine asd ?_
          refine .nil ?_
          show AW _ _ _ _ _ _
          refine .region ?_
          refine ad ((j + 1 : Nat) : Int) ?_ ?_
          · omega
          refine mvd ?_
          refine rn ?_
          refine .gh (Gh.keep [3, 4, 6, 23] rfl) ?_
          have hB : (B o2).take (B o2).length ++ [DV.i .u8 ((48 + n % 10 : Nat) : Int)] = B (o2 ++ [48 + n % 10]) := by rw [List.take_length, B_append]; rfl
          have := ih2 (o2 ++ [48 + n % 10], n / 10, j + 1) ⟨g1.snoc (by omega) (by omega), by dsimp only; omega, ?_, ?_, by simp; omega⟩ (by dsimp only; omega)
          · rw [← hB] at this; exact this
          · dsimp only
            rw [hpj] at g3
            exact Nat.div_lt_of_lt_mul g3
          · dsimp only
            rw [dval_snoc, ← g4, hpj, Nat.mul_assoc]
        · have hj9 : j = 9 := by omega
          subst hj9
          refine cndf ?_
          refine .gh (Gh.keep [3, 4] rfl) ?_
          refine .exit ?_
          have hn0 : n = 0 := by simpa using g3
          subst hn0
          refine ⟨o2, rfl, rfl, g1, by simpa using g4, g5⟩
      · rintro _ _ ⟨out', rfl, rfl, k1, k2, k3⟩
        refine .region ?_
        refine mvd ?_
        refine asd ?_
        refine .gh (Gh.keep [0, 3] rfl) ?_
        refine .nil ?_
        exact ih (out', q) ⟨k1, k2, fun _ => by omega, by dsimp only; omega⟩ hqlt
  rintro _ _ ⟨out, rfl, rfl, h1, h2, h3, h4⟩
  obtain ⟨k, hk⟩ := dig_pad out h1
  rw [h2] at hk
  refine .mid (fun e H' => e = [(3, .own 5 (B (decR (val a))))] ∧ H' = []) ?_ ?_
  · refine .block ?_
    refine .loop (.gh (Gh.keep [3] rfl) ?_)
    refine AL.ind (σ := List Nat × Nat) (m := fun s => s.2) (e := fun s => [(3, .own 5 (B s.1))]) (h := fun _ => [])
      (I := fun s => (val a = 0 → s.1 = []) ∧ s.1 = decR (val a) ++ List.replicate s.2 48 ∧ s.1.length ≤ 33554441) ?_ (out, k) ⟨h4, hk, h3⟩
    rintro ⟨xs, k⟩ ⟨g1, g2, g3⟩ ih
    dsimp only at g1 g2 g3 ih ⊢
    refine .seq ?_
    refine .seq ?_
    refine .region ?_
    refine mvo ?_
    refine lnr ?_ l8
    refine bi ?_
    refine mvd ?_
    by_cases hx : 1 < xs.length
    · have hN : val a ≠ 0 := fun h0 => by rw [g1 h0] at hx; simp at hx
      obtain ⟨s1, s2⟩ := strip_step hN g2
      rw [decide_eq_true (show (1:Int) < ((B xs).length : Nat) by rw [B_length]; omega)]
      refine mvo ?_
      refine mvo ?_
      refine lnr ?_ l8
      refine su ((xs.length - 1 : Nat) : Int) ?_ ?_
      · rw [B_length]; omega
      refine ixr (xs.length - 1) ?_ ?_ ?_ s8 (by decide)
      · rfl
      · rw [B_length]; omega
      by_cases hk0 : k = 0
      · obtain ⟨x, hx1, hx2⟩ := s1 hk0
        subst hk0
        refine lde (.i .u8 (x : Int)) ?_ ?_ a8
        · rw [Nat.zero_add]; exact B_at' hx1
        refine bi ?_
        rw [decide_eq_false (show ¬ ((x : Int) = 48) from fun h48 => hx2 (by exact_mod_cast h48))]
        refine pkd ?_
        refine rn ?_
        refine cndf ?_
        refine .gh (Gh.keep [3] rfl) ?_
        refine .exit ?_
        refine ⟨?_, rfl⟩
        rw [g2]; simp; rfl
      · obtain ⟨t1, t2, t3⟩ := s2 hk0
        refine lde (.i .u8 ((48 : Nat) : Int)) ?_ ?_ a8
        · rw [Nat.zero_add]; exact B_at' t2
        refine bi ?_
        refine pkd ?_
        refine rn ?_
        refine cndt ?_
        refine .skip ?_
        show AW _ _ _ _ _ _
        refine .gh (Gh.keep [3] rfl) ?_
        refine .block ?_
        refine .region ?_
        refine mvo ?_
        refine mvo ?_
        refine lnr ?_ l8
        refine su ((xs.length - 1 : Nat) : Int) ?_ ?_
        · rw [B_length]; omega
        refine slr 0 (xs.length - 1) ?_ ?_ s8
        · rw [B_length]; omega
        refine ass ?_
        refine .nil ?_
        refine .gh (Gh.keep [3] rfl) ?_
        have := ih (xs.take (xs.length - 1), k - 1) ⟨fun h0 => absurd h0 hN, t3, by rw [List.length_take]; omega⟩ (by dsimp only; omega)
        rw [← B_take] at this
        exact this
    · rw [decide_eq_false (show ¬ ((1:Int) < ((B xs).length : Nat)) by rw [B_length]; omega)]
      refine gf ?_
      refine gf ?_
      refine gf ?_
      refine gf ?_
      refine gf ?_
      refine gf ?_
      refine gf ?_
      refine pkd ?_
      refine rn ?_
      refine cndf ?_
      refine .gh (Gh.keep [3] rfl) ?_
      refine .exit ?_
      refine ⟨?_, rfl⟩
      by_cases hN : val a = 0
      · rw [g1 hN, hN, decR_zero]; rfl
      · have : k = 0 := by
          by_cases hk0 : k = 0
          · exact hk0
          · exact absurd ((strip_step hN g2).2 hk0).1 hx
        subst this
        rw [g2]; simp; rfl
  rintro _ _ ⟨rfl, rfl⟩
  have hdl : (decR (val a)).length ≤ 33554441 := by rw [hk] at h3; simp at h3; omega
  refine .seq ?_
  refine .seq ?_
  refine .region ?_
  refine mvo ?_
  refine lnr ?_ l8
  refine bi ?_
  refine rn ?_
  by_cases hN : val a = 0
  · rw [hN, decR_zero]
    refine cndt ?_
    refine .seq ?_
    refine .region ?_
    refine asd ?_
    refine rn ?_
    refine .ret ?_
    exact ⟨rfl, rfl⟩
  · have hpos := List.length_pos_iff.2 (decR_ne hN)
    rw [decide_eq_false (show ¬ (((B (decR (val a))).length : Nat) : Int) = 0 by rw [B_length]; omega)]
    refine cndf ?_
    refine .skip ?_
    show AW _ _ _ _ _ _
    refine .seq ?_
    refine .gh (Gh.keep [3] rfl) ?_
    refine .region ?_
    refine mvo ?_
    refine clg1 (B (decR (val a)).reverse) (fun G => ?_) (Reverse_fn (by omega)) Tryz.call101
    refine rn ?_
    refine .seq ?_
    refine .region ?_
    refine fz (p := .t 3) ?_
    refine mvd ?_
    refine cvs (ns := (decR (val a)).reverse) q8 u8 st ?_ ?_
    · simpa using decR_ne hN
    refine asd ?_
    refine rn ?_
    refine .ret ?_
    exact ⟨by unfold decT; rw [if_neg hN]; rfl, rfl⟩
end Go.FL
/-
  nat.Compare.
-/
namespace Go.FL
open Go Go.Proofs

def cmpN (m n : Nat) : Int := if m < n then -1 else if m = n then 0 else 1
theorem digs_lt {m n : Nat} (h : (digs m).length < (digs n).length) : m < n := by
  rcases Nat.lt_or_ge m n with h1 | h1
  · exact h1
  · have h2 := val_lt (digs_ok m)
    rw [val_digs] at h2
    have := digs_len (n := n) (k := (digs m).length) (by omega)
    omega
/-- Behind equal limbs, the limb decides. -/
theorem cmp_at {xs ys : List Nat} (hx : Ok xs) (hy : Ok ys) {i : Nat} (h : xs.drop (i + 1) = ys.drop (i + 1)) {x y : Nat} (h1 : xs[i]? = some x) (h2 : ys[i]? = some y) (hxy : x < y) : val xs < val ys := by
  have hxl : i < xs.length := (List.getElem?_eq_some_iff.1 h1).1
  have hyl : i < ys.length := (List.getElem?_eq_some_iff.1 h2).1
  have ex : xs = xs.take i ++ x :: xs.drop (i + 1) := by
    have := List.getElem?_eq_some_iff.1 h1
    rw [← this.2, ← List.drop_eq_getElem_cons hxl, List.take_append_drop]
  have ey : ys = ys.take i ++ y :: ys.drop (i + 1) := by
    have := List.getElem?_eq_some_iff.1 h2
    rw [← this.2, ← List.drop_eq_getElem_cons hyl, List.take_append_drop]
  have lx : (xs.take i).length = i := by rw [List.length_take]; omega
  have ly : (ys.take i).length = i := by rw [List.length_take]; omega
  have vx := val_lt (hx.take i)
  rw [ex, ey, val_append, val_append, lx, ly, h]
  rw [lx] at vx
  simp only [val]
  have h3 : 4294967296 ^ i * (x + 4294967296 * val (ys.drop (i + 1))) + 4294967296 ^ i ≤ 4294967296 ^ i * (y + 4294967296 * val (ys.drop (i + 1))) := by
    rw [← Nat.mul_succ]
    exact Nat.mul_le_mul_left _ (by omega)
  omega
theorem Compare_fn {a b : List Nat} (ha : Ok a) (hb : Ok b) (hla : a.length ≤ 35184372087808) (hlb : b.length ≤ 35184372087808) : Fn Tryz.prog 45 [.sl (L a), .sl (L b)] (.d (.i .i64 (cmpN (val a) (val b)))) := by
  have dla := Nat.le_trans (digs_len_le ha) hla
  have dlb := Nat.le_trans (digs_len_le hb) hlb
  have va := val_digs (val a)
  have vb := val_digs (val b)
  have oa := digs_ok (val a)
  have ob := digs_ok (val b)
  have lt1 := @digs_lt (val a) (val b)
  have lt2 := @digs_lt (val b) (val a)
  refine Fn.of (rs := [.tmp 4]) (nt := 47) Tryz.func45 rfl rfl rfl (by simp) rfl ?_
  refine .seq ?_
  refine .region ?_
  refine asd ?_
  refine rn ?_
  refine .seq ?_
  refine .region ?_
  refine mvd ?_
  refine cl (xs := [.sl (L a)]) ?_ (cut_fn a (by omega)) Tryz.call82
  refine mvd ?_
  refine cl (xs := [.sl (L b)]) ?_ (cut_fn b (by omega)) Tryz.call82
  refine asd ?_
  refine asd ?_
  refine rn ?_
  rw [cutL_val ha, cutL_val hb]
  generalize digs (val a) = xs at *
  generalize digs (val b) = ys at *
  refine .seq ?_
  refine .seq ?_
  refine .region ?_
  refine mvd ?_
  refine ln ?_ (L_sz _) l32
  refine mvd ?_
  refine ln ?_ (L_sz _) l32
  refine bi ?_
  refine rn ?_
  by_cases hlen : xs.length = ys.length
  · have e1 : (!decide (((L xs).length : Int) = ((L ys).length : Int))) = false := by simp [L_length]; omega
    rw [e1]
    refine cndf ?_
    refine .skip ?_
    show AW _ _ _ _ _ _
    refine .seq ?_
    refine .seq ?_
    refine .region ?_
    refine mvd ?_
    refine ln ?_ (L_sz _) l32
    refine su ((xs.length : Int) - 1) ?_ ?_
    · rw [L_length]; omega
    refine asd ?_
    refine rn ?_
    refine .block ?_
    refine .loop (.gh (Gh.keep [0, 1, 5] rfl) ?_)
    refine AL.ind (σ := Nat) (m := fun i => i) (e := fun i => [(0, .d (.sl (L xs))), (1, .d (.sl (L ys))), (5, .d (.i .i64 ((i : Int) - 1)))]) (h := fun _ => [])
      (I := fun i => i ≤ xs.length ∧ xs.drop i = ys.drop i) ?_ xs.length ⟨Nat.le_refl _, by rw [List.drop_of_length_le (Nat.le_refl _), List.drop_of_length_le (by omega)]⟩
    rintro i ⟨h1, h2⟩ ih
    refine .seq ?_
    refine .seq ?_
    refine .region ?_
    refine mvd ?_
    refine bi ?_
    refine rn ?_
    cases i with
    | zero =>
      rw [decide_eq_false (show ¬ (0 : Int) ≤ ((0 : Nat) : Int) - 1 by omega)]
      refine cndf ?_
      refine .exit ?_
      show AW _ _ _ _ _ _
      refine .seq ?_
      refine .region ?_
      refine asd ?_
      refine rn ?_
      refine .ret ?_
      simp only [List.drop_zero] at h2
      subst h2
      exact ⟨by rw [← va, ← vb]; unfold cmpN; rw [if_neg (by omega), if_pos rfl]; rfl, rfl⟩
    | succ i =>
      have hx : xs[i]? = some xs[i] := List.getElem?_eq_getElem (by omega)
      have hy : ys[i]? = some ys[i] := List.getElem?_eq_getElem (by omega)
      have hdx : xs.drop i = xs[i] :: xs.drop (i + 1) := List.drop_eq_getElem_cons (by omega)
      have hdy : ys.drop i = ys[i] :: ys.drop (i + 1) := List.drop_eq_getElem_cons (by omega)
      generalize xs[i] = x at hx hdx
      generalize ys[i] = y at hy hdy
      rw [decide_eq_true (show (0 : Int) ≤ ((i + 1 : Nat) : Int) - 1 by omega)]
      refine cndt ?_
      refine .skip ?_
      show AW _ _ _ _ _ _
      refine .gh (Gh.keep [0, 1, 5] rfl) ?_
      refine .seq ?_
      refine .block ?_
      refine .seq ?_
      refine .drawn 9 mixed (by kernel_rfl) ?_
      refine dv vmvd ?_
      refine dv vmvd ?_
      refine dv (vix (z := ((i + 1 : Nat) : Int) - 1) i (by omega) (L_at hx) rfl s32) ?_
      refine dv (vldp a32) ?_
      refine dv vmvd ?_
      refine dv vmvd ?_
      refine dv (vix (z := ((i + 1 : Nat) : Int) - 1) i (by omega) (L_at hy) rfl s32) ?_
      refine dv (vldp a32) ?_
      refine dv vbi ?_
      refine dz ?_
      refine rn ?_
      by_cases hxy : x = y
      · subst hxy
        have e1 : (!decide ((x : Int) = (x : Int))) = false := by simp
        rw [e1]
        refine cndf ?_
        refine .skip ?_
        show AW _ _ _ _ _ _
        refine .gh (Gh.keep [0, 1, 5] rfl) ?_
        refine .region ?_
        refine mvd ?_
        refine su ((i : Int) - 1) ?_ ?_
        · omega
        refine asd ?_
        refine rn ?_
        refine .gh (Gh.keep [0, 1, 5] rfl) ?_
        exact ih i ⟨by omega, by rw [hdx, hdy, h2]⟩ (by omega)
      · have e1 : (!decide ((x : Int) = (y : Int))) = true := by simp; omega
        rw [e1]
        refine cndt ?_
        refine .seq ?_
        refine .seq ?_
        refine .gh (Gh.keep [0, 1, 5] rfl) ?_
        refine .drawn 9 mixed (by kernel_rfl) ?_
        refine dv vmvd ?_
        refine dv vmvd ?_
        refine dv (vix (z := ((i + 1 : Nat) : Int) - 1) i (by omega) (L_at hx) rfl s32) ?_
        refine dv (vldp a32) ?_
        refine dv vmvd ?_
        refine dv vmvd ?_
        refine dv (vix (z := ((i + 1 : Nat) : Int) - 1) i (by omega) (L_at hy) rfl s32) ?_
        refine dv (vldp a32) ?_
        refine dv vbi ?_
        refine dz ?_
        refine rn ?_
        by_cases hlt : x < y
        · rw [decide_eq_true (show (x : Int) < (y : Int) by omega)]
          refine cndt ?_
          refine .seq ?_
          refine .region ?_
          refine asd ?_
          refine rn ?_
          refine .ret ?_
          have := cmp_at oa ob h2 hx hy hlt
          exact ⟨by unfold cmpN; rw [if_pos (by omega)]; rfl, rfl⟩
        · rw [decide_eq_false (show ¬ (x : Int) < (y : Int) by omega)]
          refine cndf ?_
          refine .skip ?_
          show AW _ _ _ _ _ _
          refine .seq ?_
          refine .region ?_
          refine asd ?_
          refine rn ?_
          refine .ret ?_
          have := cmp_at ob oa h2.symm hy hx (by omega)
          exact ⟨by unfold cmpN; rw [if_neg (by omega), if_neg (by omega)]; rfl, rfl⟩
  · have e1 : (!decide (((L xs).length : Int) = ((L ys).length : Int))) = true := by simp [L_length]; omega
    rw [e1]
    refine cndt ?_
    refine .seq ?_
    refine .region ?_
    refine mvd ?_
    refine ln ?_ (L_sz _) l32
    refine mvd ?_
    refine ln ?_ (L_sz _) l32
    refine su ((xs.length : Int) - ys.length) ?_ ?_
    · rw [L_length, L_length]; omega
    refine mx ?_
    refine mn ?_
    refine asd ?_
    refine rn ?_
    refine .ret ?_
    refine ⟨?_, rfl⟩
    show AV.d (.i .i64 _) = _
    congr 2
    unfold cmpN
    by_cases hl : xs.length < ys.length
    · have h1 := lt1 hl
      rw [if_pos h1]
      have hd : (xs.length : Int) - ys.length ≤ -1 := by omega
      generalize (xs.length : Int) - ys.length = d at hd
      have e2 : (if d < -1 then (-1 : Int) else d) = -1 := by split <;> omega
      rw [e2]; rfl
    · have h1 := lt2 (by omega)
      rw [if_neg (show ¬ val a < val b by omega), if_neg (show ¬ val a = val b by omega)]
      have hd : 1 ≤ (xs.length : Int) - ys.length := by omega
      generalize (xs.length : Int) - ys.length = d at hd
      have e2 : (if d < -1 then (-1 : Int) else d) = d := if_neg (by omega)
      rw [e2]
      split <;> omega
end Go.FL
/-
  nat.DivMod by one limb; live.
-/
namespace Go.FL
open Go Go.Proofs

theorem one_limb {n : Nat} (h0 : 0 < n) (h : n < 4294967296) : digs n = [n] := by
  rw [digs_pos (by omega), Nat.mod_eq_of_lt h, Nat.div_eq_of_lt h, digs_zero]
end Go.FL
/-
  (*nat.limbs).add: a number is added at a place.
-/
namespace Go.FL
open Go Go.Proofs

/-- Limbs to which n is added at a place. -/
def padL (xs : List Nat) (at_ : Nat) : List Nat := xs ++ List.replicate (at_ + 1 - xs.length) 0
theorem padL_len (xs : List Nat) (at_ : Nat) : at_ < (padL xs at_).length ∧ (at_ < xs.length → padL xs at_ = xs) := by
  constructor
  · simp [padL]; omega
  · intro h; simp [padL, show at_ + 1 - xs.length = 0 by omega]
theorem padL_zero {xs : List Nat} {at_ : Nat} (h : ¬ at_ < xs.length) : (padL xs at_).getD at_ 0 = 0 := by
  simp only [padL, List.getD_eq_getElem?_getD]
  rw [List.getElem?_append_right (by omega)]
  simp only [List.getElem?_replicate]
  split <;> rfl
theorem padL_length (xs : List Nat) (at_ : Nat) : (padL xs at_).length = max xs.length (at_ + 1) := by simp [padL]; omega
def addL (xs : List Nat) (n at_ : Nat) : List Nat :=
  if h : n = 0 then xs
  else addL ((padL xs at_).set at_ ((n + (padL xs at_).getD at_ 0) % 4294967296)) ((n + (padL xs at_).getD at_ 0) / 4294967296) (at_ + 1)
termination_by (xs.length - at_, n)
decreasing_by
  by_cases hl : at_ < xs.length
  · apply Prod.Lex.left
    rw [List.length_set, (padL_len xs at_).2 hl]; omega
  · rw [padL_zero hl, Nat.add_zero, List.length_set, padL_length]
    rw [show max xs.length (at_ + 1) - (at_ + 1) = xs.length - at_ by omega]
    apply Prod.Lex.right
    exact Nat.div_lt_self (by omega) (by decide)
theorem addL_zero (xs : List Nat) (at_ : Nat) : addL xs 0 at_ = xs := by unfold addL; simp
theorem addL_pos {xs : List Nat} {n at_ : Nat} (h : n ≠ 0) : addL xs n at_ = addL ((padL xs at_).set at_ ((n + (padL xs at_).getD at_ 0) % 4294967296)) ((n + (padL xs at_).getD at_ 0) / 4294967296) (at_ + 1) := by
  conv => lhs; unfold addL
  simp [h]
theorem val_replicate (k : Nat) : val (List.replicate k 0) = 0 := by
  induction k with
  | zero => rfl
  | succ k ih => simp [List.replicate_succ, val, ih]
theorem padL_val (xs : List Nat) (at_ : Nat) : val (padL xs at_) = val xs := by simp [padL, val_append, val_replicate]
theorem padL_ok {xs : List Nat} (h : Ok xs) (at_ : Nat) : Ok (padL xs at_) := h.append fun x hx => by
  rw [List.eq_of_mem_replicate hx]; decide
theorem val_set : ∀ {xs : List Nat} {i x y : Nat}, xs[i]? = some x → val (xs.set i y) + x * 4294967296 ^ i = val xs + y * 4294967296 ^ i := by
  intro xs
  induction xs with
  | nil => intro i x y h; simp at h
  | cons z zs ih =>
    intro i x y h
    cases i with
    | zero => simp at h; subst h; simp only [List.set_cons_zero, val, Nat.pow_zero, Nat.mul_one]; omega
    | succ i =>
      have := ih (y := y) (by simpa using h)
      simp only [List.set_cons_succ, val, Nat.pow_succ]
      have e1 : x * (4294967296 ^ i * 4294967296) = 4294967296 * (x * 4294967296 ^ i) := by rw [← Nat.mul_assoc, Nat.mul_comm]
      have e2 : y * (4294967296 ^ i * 4294967296) = 4294967296 * (y * 4294967296 ^ i) := by rw [← Nat.mul_assoc, Nat.mul_comm]
      rw [e1, e2]; omega
theorem addL_val (xs : List Nat) (n at_ : Nat) (h : Ok xs) : val (addL xs n at_) = val xs + n * 4294967296 ^ at_ ∧ Ok (addL xs n at_) := by
  induction xs, n, at_ using addL.induct with
  | case1 xs at_ => rw [addL_zero]; exact ⟨by simp, h⟩
  | case2 xs n at_ hn ih =>
    rw [addL_pos hn]
    have hlt := (padL_len xs at_).1
    have hx : (padL xs at_)[at_]? = some ((padL xs at_).getD at_ 0) := by rw [List.getD_eq_getElem?_getD, List.getElem?_eq_getElem hlt]; rfl
    generalize (padL xs at_).getD at_ 0 = x at *
    have hp := padL_ok h at_
    obtain ⟨i1, i2⟩ := ih (hp.set _ (Nat.mod_lt _ (by decide)))
    refine ⟨?_, i2⟩
    rw [i1]
    have hs := val_set (y := (n + x) % 4294967296) hx
    rw [padL_val] at hs
    have e1 : (n + x) / 4294967296 * 4294967296 ^ (at_ + 1) = (n + x) / 4294967296 * 4294967296 * 4294967296 ^ at_ := by rw [Nat.pow_succ, Nat.mul_comm (4294967296 ^ at_), Nat.mul_assoc]
    have e2 : (n + x) % 4294967296 * 4294967296 ^ at_ + (n + x) / 4294967296 * 4294967296 * 4294967296 ^ at_ = (n + x) * 4294967296 ^ at_ := by
      rw [← Nat.add_mul]; congr 1; omega
    have e3 : (n + x) * 4294967296 ^ at_ = n * 4294967296 ^ at_ + x * 4294967296 ^ at_ := Nat.add_mul _ _ _
    omega
theorem addL_len (xs : List Nat) (n at_ : Nat) (h : Ok xs) : ∀ j, n ≤ 4294967296 ^ j → (addL xs n at_).length ≤ max xs.length (at_ + j) + 1 := by
  induction xs, n, at_ using addL.induct with
  | case1 xs at_ => intro j _; rw [addL_zero]; omega
  | case2 xs n at_ hn0 ih =>
    intro j hj
    rw [addL_pos hn0]
    have hlt := (padL_len xs at_).1
    have hx : (padL xs at_)[at_]? = some ((padL xs at_).getD at_ 0) := by rw [List.getD_eq_getElem?_getD, List.getElem?_eq_getElem hlt]; rfl
    have hp := padL_ok h at_
    have hxl := hp.at hx
    have ih := ih (hp.set _ (Nat.mod_lt _ (by decide)))
    rw [List.length_set, padL_length] at ih
    by_cases hl : at_ < xs.length
    · cases j with
      | zero =>
        have := ih 0 (by rw [Nat.pow_zero] at hj ⊢; omega)
        omega
      | succ j =>
        have := ih j (by
          rw [Nat.pow_succ] at hj
          have : (n + (padL xs at_).getD at_ 0) / 4294967296 < 4294967296 ^ j + 1 := by
            rw [Nat.div_lt_iff_lt_mul (by decide), Nat.add_mul]; omega
          omega)
        omega
    · have h0 := padL_zero hl
      rw [h0] at ih ⊢
      cases j with
      | zero =>
        simp at hj
        have e : (n + 0) / 4294967296 = 0 := by omega
        rw [e, addL_zero, List.length_set, padL_length]; omega
      | succ j =>
        have := ih j (by
          rw [Nat.pow_succ] at hj
          rw [Nat.add_zero]
          exact (Nat.div_le_iff_le_mul_add_pred (by decide)).2 (by omega))
        omega

theorem addL_ge (xs : List Nat) (n at_ : Nat) : xs.length ≤ (addL xs n at_).length ∧ (n ≠ 0 → at_ < (addL xs n at_).length) := by
  induction xs, n, at_ using addL.induct with
  | case1 xs at_ => rw [addL_zero]; exact ⟨Nat.le_refl _, fun h => absurd rfl h⟩
  | case2 xs n at_ hn0 ih =>
    rw [addL_pos hn0]
    have h1 := ih.1
    rw [List.length_set, padL_length] at h1
    exact ⟨by omega, fun _ => by omega⟩
/-- A box whose cell holds limbs. -/
abbrev hb (H : Heap) (id off : Nat) (cs : List AV) (xs : List Nat) : Heap := H.set id (.box (cs.set off (.own 40 (L xs))))
theorem hb_get {H : Heap} {id off : Nat} {cs : List AV} {xs : List Nat} (h : id < H.length) : (hb H id off cs xs)[id]? = some (.box (cs.set off (.own 40 (L xs)))) := by simp [hb, h]
theorem hb_cell {off : Nat} {cs : List AV} {v : AV} (h : off < cs.length) : (cs.set off v)[off]? = some v := by simp [h]
theorem hb_plAV (H : Heap) {id off : Nat} {cs : List AV} {xs : List Nat} (env : Env) (h : id < H.length) (ho : off < cs.length) : plAV env (hb H id off cs xs) (.c id off) = .own 40 (L xs) := by
  simp [plAV, hb, h, List.getD_eq_getElem?_getD, ho]
theorem hb_setP (H : Heap) {id off : Nat} {cs : List AV} {xs ys : List Nat} (h : id < H.length) : setP (.c id off) (.own 40 (L ys)) (hb H id off cs xs) = hb H id off cs ys := by
  simp [setP, setC, hb, h]
end Go.FL
/-
  (*nat.limbs).add: the walk.
-/
namespace Go.FL
open Go Go.Proofs

theorem add_fn {H : Heap} {id off : Nat} {cs : List AV} {xs0 : List Nat} (hH : H[id]? = some (.box cs)) (hc : cs[off]? = some (.own 40 (L xs0))) (hx0 : Ok xs0) (hl0 : xs0.length ≤ 1048576) {n0 at0 : Nat} (hn0 : n0 < 18446744069414584320) (hat0 : at0 ≤ 1048576) :
    FnG Tryz.prog 103 [.bp id off, .d (.i .u64 n0), .d (.i .i64 at0)] H (.tup []) [] (hb H id off cs (addL xs0 n0 at0)) := by
  have hid : id < H.length := (List.getElem?_eq_some_iff.1 hH).1
  have hoff : off < cs.length := (List.getElem?_eq_some_iff.1 hc).1
  have hHe : H = hb H id off cs xs0 := by
    unfold hb
    rw [List.set_same _ _ hc, List.set_same _ _ hH]
  have hlen : (addL xs0 n0 at0).length ≤ 1048580 := by
    have := addL_len xs0 n0 at0 hx0 2 (by simp; omega); omega
  refine FnG.of (rs := []) 0 41 Tryz.func103 rfl rfl rfl (by simp) (by simp) (by simp) ?_
  refine .block ?_
  refine .loop (.gh (Gh.keep [0, 1, 2] rfl) ?_)
  refine AL.castH hHe ?_
  refine AL.ind (σ := List Nat × Nat × Nat) (m := fun s => (s.1.length - s.2.2) * 36893488147419103232 + s.2.1) (e := fun s => [(0, .bp id off), (1, .d (.i .u64 (s.2.1 : Int))), (2, .d (.i .i64 (s.2.2 : Int)))]) (h := fun s => hb H id off cs s.1)
    (I := fun s => addL s.1 s.2.1 s.2.2 = addL xs0 n0 at0 ∧ Ok s.1 ∧ s.2.1 < 18446744069414584320) ?_ (xs0, n0, at0) ⟨rfl, hx0, hn0⟩
  rintro ⟨xs, n, at_⟩ ⟨h1, h2, h3⟩ ih
  dsimp only at h1 h2 h3 ih ⊢
  have hge := addL_ge xs n at_
  rw [h1] at hge
  refine .seq ?_
  refine .seq ?_
  refine .region ?_
  refine mvd ?_
  refine bi ?_
  refine rn ?_
  by_cases hn : n = 0
  · subst hn
    refine cndf ?_
    refine .exit ?_
    rw [addL_zero] at h1
    subst h1
    exact ⟨⟨[], by simp⟩, rfl, by simp⟩
  · rw [decide_eq_true (show (0:Int) < (n:Int) by omega)]
    have hat := hge.2 hn
    refine cndt ?_
    refine .skip ?_
    show AW _ _ _ _ _ _
    refine .seq ?_
    refine .block ?_
    refine .mid (fun e H' => e = [(0, .bp id off), (1, .d (.i .u64 (n : Int))), (2, .d (.i .i64 (at_ : Int)))] ∧ H' = hb H id off cs (padL xs at_)) ?_ ?_
    · refine .block ?_
      refine .loop (.gh (Gh.keep [0, 1, 2] rfl) ?_)
      refine AL.ind (σ := List Nat) (m := fun ys => at_ + 1 - ys.length) (e := fun _ => [(0, .bp id off), (1, .d (.i .u64 (n : Int))), (2, .d (.i .i64 (at_ : Int)))]) (h := fun ys => hb H id off cs ys)
        (I := fun ys => padL ys at_ = padL xs at_ ∧ ys.length ≤ 1048580) ?_ xs ⟨rfl, by omega⟩
      rintro ys ⟨g1, g2⟩ ih2
      refine .seq ?_
      refine .seq ?_
      refine .region ?_
      refine mvd ?_
      refine mvb ?_
      refine ncb ?_
      refine ldbo (hb_get hid) (hb_cell hoff) ?_ alm
      refine lnr ?_ llm
      refine bi ?_
      refine rn ?_
      by_cases hl : at_ < ys.length
      · rw [decide_eq_false (show ¬ (((L ys).length : Nat) : Int) ≤ (at_:Int) by rw [L_length]; omega)]
        refine cndf ?_
        refine .gh (Gh.keep [0, 1, 2] rfl) ?_
        refine .exit ?_
        refine ⟨rfl, ?_⟩
        rw [← g1, (padL_len ys at_).2 hl]
      · rw [decide_eq_true (show (((L ys).length : Nat) : Int) ≤ (at_:Int) by rw [L_length]; omega)]
        refine cndt ?_
        refine .skip ?_
        show AW _ _ _ _ _ _
        refine .gh (Gh.keep [0, 1, 2] rfl) ?_
        refine .block ?_
        refine .region ?_
        refine mvb ?_
        refine mvb ?_
        refine ncb ?_
        refine ldbo (hb_get hid) (hb_cell hoff) ?_ alm
        refine bsl ?_ ?_ elm
        · simp [DV.flat, DV.cells, DV.leaf]
        refine apc (ys := [.i .u32 0]) (hb_get hid) (hb_cell hoff) ?_ ?_ (by simp [DV.cells]) elm
        · simp [L_length]; omega
        refine ncb ?_
        refine RL.gh (Gh.keep [0, 1, 2, 21, 22] rfl) ?_
        refine stbo (id := id) (off := off) (cs := (cs.set off (.own 40 (L ys))).set off .un) (c := .un) ?_ ?_ ?_ zlm
        · simp [hb, hid]
        · simp [hoff]
        refine .nil ?_
        refine AL.gh (Gh.keep [0, 1, 2] rfl) ?_
        have e1 : padL (ys ++ [0]) at_ = padL xs at_ := by
          rw [← g1]
          simp only [padL, List.length_append, List.length_singleton, List.append_assoc]
          rw [show at_ + 1 - ys.length = (at_ + 1 - (ys.length + 1)) + 1 by omega, List.replicate_succ]; rfl
        have := ih2 (ys ++ [0]) ⟨e1, by simp; omega⟩ (by simp; omega)
        have e2 : (L ys).take (L ys).length ++ [DV.i .u32 0] = L (ys ++ [0]) := by rw [List.take_length]; simp [L, U]
        refine AL.castH ?_ this
        rw [e2]
        simp [hb]
    · rintro _ _ ⟨rfl, rfl⟩
      have hpl := padL_len xs at_
      have hx : (padL xs at_)[at_]? = some ((padL xs at_).getD at_ 0) := by rw [List.getD_eq_getElem?_getD, List.getElem?_eq_getElem hpl.1]; rfl
      have hpo := padL_ok h2 at_
      have hstep := addL_pos (xs := xs) (at_ := at_) hn
      rw [h1] at hstep
      have hxb := hpo.at hx
      have hm1 : ¬ at_ < xs.length → (padL xs at_).getD at_ 0 = 0 := fun h => padL_zero h
      have hpll := padL_length xs at_
      generalize (padL xs at_).getD at_ 0 = x at hx hstep hxb hm1
      generalize padL xs at_ = ys at hx hstep hpo hpl hpll
      have hylen : ys.length ≤ 1048580 := by omega
      refine .seq ?_
      refine .region ?_
      refine mvd ?_
      refine mvb ?_
      refine ncb ?_
      refine ldbo (hb_get hid) (hb_cell hoff) ?_ alm
      refine mvd ?_
      refine ixr (p := .c id off) (xs := L ys) at_ rfl ?_ ?_ slm (by decide) (hp := hb_plAV H _ hid hoff)
      · rw [L_length]; exact hpl.1
      refine lde (p := .c id off) (xs := L ys) (U x) ?_ ?_ a32 (hp := hb_plAV H _ hid hoff)
      · rw [Nat.zero_add]; exact L_at' hx
      refine cve (x : Int) (toU64 (by omega)) ?_ u32 u64
      refine bie (.i .u64 ((n + x : Nat) : Int)) ?_ ?_
      · exact ⟨trivial, by rw [← Int.natCast_add, toU64 (by omega)]⟩
      refine asd ?_
      refine rn ?_
      refine .seq ?_
      refine .region ?_
      refine mvb ?_
      refine ncb ?_
      refine ldbo (hb_get hid) (hb_cell hoff) ?_ alm
      refine mvd ?_
      refine mvd ?_
      refine cve (((n + x) % 4294967296 : Nat) : Int) (wrapU32 _) ?_ u64 u32
      refine ixr (p := .c id off) (xs := L ys) at_ rfl ?_ ?_ slm (by decide) (hp := hb_plAV H _ hid hoff)
      · rw [L_length]; exact hpl.1
      refine ste (p := .c id off) (xs := L ys) ?_ ?_ z32 (hp := hb_plAV H _ hid hoff) (hn := fun _ _ _ => Nat.zero_le _)
      · rw [Nat.zero_add]; exact L_leaf hx
      rw [show 0 + at_ = at_ from Nat.zero_add _, show DV.i .u32 (((n + x) % 4294967296 : Nat) : Int) = U ((n + x) % 4294967296) from rfl, L_set, hb_setP H hid]
      refine rn ?_
      refine .region ?_
      refine mvd ?_
      refine bie (.i .u64 (((n + x) / 4294967296 : Nat) : Int)) ?_ ?_
      · simp [IntKind.bits]
      refine asd ?_
      refine .nil ?_
      show AW _ _ _ _ _ _
      refine .region ?_
      refine mvd ?_
      refine ad ((at_ + 1 : Nat) : Int) ?_ ?_
      · omega
      refine asd ?_
      refine .nil ?_
      refine AL.gh (Gh.keep [0, 1, 2] rfl) ?_
      refine AL.cast (env' := [(0, .bp id off), (1, .d (.i .u64 (((n + x) / 4294967296 : Nat) : Int))), (2, .d (.i .i64 ((at_ + 1 : Nat) : Int)))]) ?_ ?_
      · rfl
      refine (ih (ys.set at_ ((n + x) % 4294967296), (n + x) / 4294967296, at_ + 1) ⟨hstep.symm, hpo.set _ (Nat.mod_lt _ (by decide)), by show (n + x) / 4294967296 < 18446744069414584320; omega⟩ ?_)
      simp only [List.length_set]
      by_cases hl : at_ < xs.length
      · have : ys.length = xs.length := by omega
        rw [this]
        have e : xs.length - at_ = (xs.length - (at_ + 1)) + 1 := by omega
        rw [e, Nat.add_mul]; omega
      · have := hm1 hl
        subst this
        have e1 : ys.length - (at_ + 1) = 0 := by omega
        have e2 : xs.length - at_ = 0 := by omega
        rw [e1, e2]; omega
end Go.FL
/-
  (*nat.adder).number.
-/
namespace Go.FL
open Go Go.Proofs

theorem fad : fieldT Tryz.prog 86 0 = some (0, 1) := by kernel_rfl
/-- Limbs to which others are added, from a place on. -/
def addAll : List Nat → List Nat → Nat → List Nat
  | xs, [], _ => xs
  | xs, y :: ys, i => addAll (addL xs y i) ys (i + 1)
theorem addAll_val : ∀ (ys xs : List Nat) (i : Nat), Ok xs → val (addAll xs ys i) = val xs + val ys * 4294967296 ^ i ∧ Ok (addAll xs ys i)
  | [], xs, i, h => ⟨by simp [addAll, val], h⟩
  | y :: ys, xs, i, h => by
    obtain ⟨a1, a2⟩ := addL_val xs y i h
    obtain ⟨b1, b2⟩ := addAll_val ys (addL xs y i) (i + 1) a2
    refine ⟨?_, b2⟩
    show val (addAll (addL xs y i) ys (i + 1)) = _
    rw [b1, a1, val, Nat.add_mul, Nat.pow_succ, Nat.add_assoc]
    congr 2
    rw [← Nat.mul_assoc, Nat.mul_comm (val ys * _), ← Nat.mul_assoc]
theorem addAll_ge : ∀ (ys xs : List Nat) (i : Nat), xs.length ≤ (addAll xs ys i).length
  | [], xs, i => Nat.le_refl _
  | y :: ys, xs, i => Nat.le_trans (addL_ge xs y i).1 (addAll_ge ys (addL xs y i) (i + 1))
theorem hb_app {H G : Heap} {id off : Nat} {cs : List AV} {xs ys : List Nat} (h : id < H.length) : hb (hb H id off cs xs ++ G) id off (cs.set off (.own 40 (L xs))) ys = hb H id off cs ys ++ G := by
  simp [hb, h]
theorem hb_getG {H G : Heap} {id off : Nat} {cs : List AV} {xs : List Nat} (h : id < H.length) : (hb H id off cs xs ++ G)[id]? = some (.box (cs.set off (.own 40 (L xs)))) := by
  rw [List.getElem?_append_left (by simpa using h)]; exact hb_get h
theorem number_fn {H : Heap} {id off : Nat} {cs : List AV} {xs0 b : List Nat} (hH : H[id]? = some (.box cs)) (hc : cs[off]? = some (.own 40 (L xs0))) (hx0 : Ok xs0) (hb0 : Ok b) (hl : b.length ≤ 1048576) (hl0 : (addAll xs0 b 0).length ≤ 1048576) :
    FnG Tryz.prog 85 [.bp id off, .d (.sl (L b))] H (.tup []) [] (hb H id off cs (addAll xs0 b 0)) := by
  have hid : id < H.length := (List.getElem?_eq_some_iff.1 hH).1
  have hoff : off < cs.length := (List.getElem?_eq_some_iff.1 hc).1
  have hHe : H = hb H id off cs xs0 ++ [] := by
    unfold hb
    rw [List.set_same _ _ hc, List.set_same _ _ hH, List.append_nil]
  refine FnG.of (rs := []) 0 21 Tryz.func85 rfl rfl rfl (by simp) (by simp) (by simp) ?_
  refine .seq ?_
  refine .region ?_
  refine mvd ?_
  refine ln ?_ (L_sz _) l32
  refine mvd ?_
  refine rn ?_
  refine .block ?_
  refine .loop (.gh (Gh.keep [0, 6, 7, 8] rfl) ?_)
  refine AL.castH hHe ?_
  refine AL.ind (σ := List Nat × Nat × Heap) (m := fun s => b.length - s.2.1) (e := fun s => [(0, .bp id off), (6, .d (.sl (L b))), (7, .d (.i .i64 ((L b).length : Nat))), (8, .d (.i .i64 (s.2.1 : Int)))]) (h := fun s => hb H id off cs s.1 ++ s.2.2)
    (I := fun s => s.2.1 ≤ b.length ∧ Ok s.1 ∧ addAll s.1 (b.drop s.2.1) s.2.1 = addAll xs0 b 0) ?_ (xs0, 0, []) ⟨by simp, hx0, rfl⟩
  rintro ⟨xs, i, G⟩ ⟨h1, h2, h3⟩ ih
  dsimp only at h1 h2 h3 ih ⊢
  refine .seq ?_
  refine .region ?_
  refine bi ?_
  refine rn ?_
  refine .seq ?_
  by_cases hi : i < b.length
  · rw [decide_eq_true (show (i:Int) < ((L b).length : Nat) by rw [L_length]; omega)]
    have hy : b[i]? = some b[i] := List.getElem?_eq_getElem hi
    have hdr : b.drop i = b[i] :: b.drop (i + 1) := List.drop_eq_getElem_cons hi
    generalize b[i] = y at hy hdr
    have hyl := hb0.at hy
    rw [hdr] at h3
    have hge := addAll_ge (b.drop (i + 1)) (addL xs y i) (i + 1)
    replace h3 : addAll (addL xs y i) (b.drop (i + 1)) (i + 1) = addAll xs0 b 0 := h3
    rw [h3] at hge
    have hge2 := (addL_ge xs y i).1
    refine cndt ?_
    refine .skip ?_
    show AW _ _ _ _ _ _
    refine .seq ?_
    refine .block ?_
    refine .seq ?_
    refine .region ?_
    refine mvd ?_
    refine ix i ?_ rfl (L_at hy) rfl s32
    refine ldp ?_ a32
    refine asd ?_
    refine asd ?_
    refine rn ?_
    refine .region ?_
    refine mvb ?_
    refine ncb ?_
    refine fab ?_ fad (by decide)
    refine mvd ?_
    refine cve (y : Int) (toU64 (by omega)) ?_ u32 u64
    refine mvd ?_
    refine clg (fun G2 => ?_) (add_fn (n0 := y) (at0 := i) (hb_getG hid) (hb_cell hoff) h2 (by omega) (by omega) (by omega)) Tryz.call103
    refine .nil ?_
    show AW _ _ _ _ _ _
    refine .region ?_
    refine ad ((i + 1 : Nat) : Int) ?_ ?_
    · omega
    refine mvd ?_
    refine .nil ?_
    refine AL.gh (Gh.keep [0, 6, 7, 8] rfl) ?_
    refine AL.castH (H' := hb H id off cs (addL xs y i) ++ (G ++ G2)) (by rw [hb_app hid, List.append_assoc]) ?_
    exact ih (addL xs y i, i + 1, G ++ G2) ⟨by show i + 1 ≤ b.length; omega, (addL_val xs y i h2).2, h3⟩ (by show b.length - (i + 1) < b.length - i; omega)
  · rw [decide_eq_false (show ¬ (i:Int) < ((L b).length : Nat) by rw [L_length]; omega)]
    have : b.drop i = [] := List.drop_eq_nil_of_le (by omega)
    rw [this] at h3
    replace h3 : xs = addAll xs0 b 0 := h3
    refine cndf ?_
    refine .exit ?_
    rw [h3]
    exact ⟨⟨G, rfl⟩, rfl, by simp⟩
end Go.FL
/-
  nat.Sum.
-/
namespace Go.FL
open Go Go.Proofs

theorem s2 : sliceT Tryz.prog 72 = some (22, 1, 24) := by kernel_rfl
theorem l2 : Tryz.prog.underlying 72 = some (.slice (Tryz.prog.elem 72)) := by kernel_rfl
theorem a2 : aggT Tryz.prog 22 = some false := by kernel_rfl
def LL (ls : List (List Nat)) : List DV := ls.map fun a => .sl (L a)
theorem LL_length (ls : List (List Nat)) : (LL ls).length = ls.length := by simp [LL]
theorem LL_sz (ls : List (List Nat)) : ∃ sz, ∀ x ∈ LL ls, x.cells.length = sz := ⟨1, fun x hx => by
  simp only [LL, List.mem_map] at hx
  obtain ⟨n, _, rfl⟩ := hx; rfl⟩
theorem LL_at {ls : List (List Nat)} {i : Nat} {a : List Nat} (h : ls[i]? = some a) : (LL ls)[i]? = some (.sl (L a)) := by simp [LL, h]
def sumAll : List (List Nat) → List Nat → List Nat
  | [], xs => xs
  | a :: r, xs => sumAll r (addAll xs a 0)
theorem sumAll_val : ∀ (ls : List (List Nat)) (xs : List Nat), Ok xs → val (sumAll ls xs) = val xs + (ls.map val).sum ∧ Ok (sumAll ls xs)
  | [], xs, h => ⟨by simp [sumAll], h⟩
  | a :: r, xs, h => by
    obtain ⟨a1, a2⟩ := addAll_val a xs 0 h
    obtain ⟨b1, b2⟩ := sumAll_val r _ a2
    refine ⟨?_, b2⟩
    show val (sumAll r (addAll xs a 0)) = _
    rw [b1, a1]; simp; omega
theorem sumAll_ge : ∀ (ls : List (List Nat)) (xs : List Nat), xs.length ≤ (sumAll ls xs).length
  | [], xs => Nat.le_refl _
  | a :: r, xs => Nat.le_trans (addAll_ge a xs 0) (sumAll_ge r _)
theorem zadder (w : World) : (zeroValue 86).run Tryz.prog w = .ok (.agg #[.slice none 0 0]) w := by simp
theorem adder_cells (w : World) (I : Nat → Prop) (μ : List Nat) : ARepAll Tryz.prog w I μ [.own 40 (L [])] (Value.agg #[.slice none 0 0]).cells.toList [] := by
  have := ARepAll.cons (ARep.own (P := Tryz.prog) (w := w) (I := I) (μ := μ) 40 [] (.slice none 0 0) [] z32p (.inl ⟨none, rfl, rfl, rfl⟩) (.nil _)) .nil
  exact this
theorem Sum_fn {ls : List (List Nat)} (h : ∀ a ∈ ls, Ok a) (hl : ls.length ≤ 1048576) (hla : ∀ a ∈ ls, a.length ≤ 1048576) (hs : (sumAll ls []).length ≤ 1048576) : Fn Tryz.prog 46 [.sl (LL ls)] (.d (.sl (L (digs (ls.map val).sum)))) := by
  have hv := sumAll_val ls [] .nil
  refine Fn.of (rs := [.tmp 2]) (nt := 18) Tryz.func46 rfl rfl rfl (by simp) rfl ?_
  refine .seq ?_
  refine .region ?_
  refine asn ?_
  refine rn ?_
  refine .seq ?_
  refine .region ?_
  refine al ?_ zadder adder_cells
  refine rn ?_
  refine .mid (fun e H' => ∃ G, e = [(3, .bp 0 0)] ∧ H' = [.box [.own 40 (L (sumAll ls []))]] ++ G) ?_ ?_
  · refine .seq ?_
    refine .region ?_
    refine mvd ?_
    refine ln ?_ (LL_sz _) l2
    refine mvd ?_
    refine rn ?_
    refine .block ?_
    refine .loop (.gh (Gh.keep [3, 6, 7, 8] rfl) ?_)
    refine AL.ind (σ := List Nat × Nat × Heap) (m := fun s => ls.length - s.2.1) (e := fun s => [(3, .bp 0 0), (6, .d (.sl (LL ls))), (7, .d (.i .i64 ((LL ls).length : Nat))), (8, .d (.i .i64 (s.2.1 : Int)))]) (h := fun s => [.box [.own 40 (L s.1)]] ++ s.2.2)
      (I := fun s => s.2.1 ≤ ls.length ∧ Ok s.1 ∧ sumAll (ls.drop s.2.1) s.1 = sumAll ls []) ?_ ([], 0, []) ⟨by simp, .nil, rfl⟩
    rintro ⟨xs, i, G⟩ ⟨h1, h2, h3⟩ ih
    dsimp only at h1 h2 h3 ih ⊢
    refine .seq ?_
    refine .region ?_
    refine bi ?_
    refine rn ?_
    refine .seq ?_
    by_cases hi : i < ls.length
    · rw [decide_eq_true (show (i:Int) < ((LL ls).length : Nat) by rw [LL_length]; omega)]
      have hy : ls[i]? = some ls[i] := List.getElem?_eq_getElem hi
      have hdr : ls.drop i = ls[i] :: ls.drop (i + 1) := List.drop_eq_getElem_cons hi
      generalize ls[i] = y at hy hdr
      have hyo := h y (List.mem_of_getElem? hy)
      have hyl := hla y (List.mem_of_getElem? hy)
      rw [hdr] at h3
      replace h3 : sumAll (ls.drop (i + 1)) (addAll xs y 0) = sumAll ls [] := h3
      have hge := sumAll_ge (ls.drop (i + 1)) (addAll xs y 0)
      rw [h3] at hge
      refine cndt ?_
      refine .skip ?_
      show AW _ _ _ _ _ _
      refine .seq ?_
      refine .block ?_
      refine .seq ?_
      refine .region ?_
      refine ix i ?_ rfl (LL_at hy) rfl s2
      refine ldp ?_ a2
      refine asd ?_
      refine rn ?_
      refine .region ?_
      refine mvd ?_
      refine clg (fun G2 => ?_) (number_fn (cs := [.own 40 (L xs)]) (b := y) rfl rfl h2 hyo hyl (by omega)) Tryz.call85
      refine .nil ?_
      show AW _ _ _ _ _ _
      refine .region ?_
      refine ad ((i + 1 : Nat) : Int) ?_ ?_
      · omega
      refine mvd ?_
      refine .nil ?_
      refine AL.gh (Gh.keep [3, 6, 7, 8] rfl) ?_
      refine AL.castH (H' := [.box [.own 40 (L (addAll xs y 0))]] ++ (G ++ G2)) (by rw [← List.append_assoc]; rfl) ?_
      exact ih (addAll xs y 0, i + 1, G ++ G2) ⟨by show i + 1 ≤ ls.length; omega, (addAll_val y xs 0 h2).2, h3⟩ (by show ls.length - (i + 1) < ls.length - i; omega)
    · rw [decide_eq_false (show ¬ (i:Int) < ((LL ls).length : Nat) by rw [LL_length]; omega)]
      have : ls.drop i = [] := List.drop_eq_nil_of_le (by omega)
      rw [this] at h3
      replace h3 : xs = sumAll ls [] := h3
      refine cndf ?_
      refine .gh (Gh.keep [3] rfl) ?_
      refine .exit ?_
      rw [h3]
      exact ⟨G, rfl, rfl⟩
  · rintro _ _ ⟨G, rfl, rfl⟩
    refine .seq ?_
    refine .region ?_
    refine fz (p := .c 0 0) ?_
    refine fab ?_ fad (by decide)
    refine ldb (cs := [.d (.sl (L (sumAll ls [])))]) (c := .d (.sl (L (sumAll ls [])))) rfl rfl ?_ alm
    refine cl (xs := [.sl (L (sumAll ls []))]) ?_ (cut_val hv.2 (by omega)) Tryz.call82
    refine asd ?_
    refine rn ?_
    refine .ret ?_
    exact ⟨by rw [hv.1]; simp [val]; rfl, rfl⟩
end Go.FL
/-
  nat.product.
-/
namespace Go.FL
open Go Go.Proofs

/-- A number's limbs are added, multiplied by x, from a place on. -/
def mulRow (i x : Nat) : List Nat → Nat → List Nat → List Nat
  | [], _, xs => xs
  | y :: r, k, xs => mulRow i x r (k + 1) (addL xs (x * y) (i + k))
def prodAll (b : List Nat) : List Nat → Nat → List Nat → List Nat
  | [], _, xs => xs
  | x :: r, i, xs => prodAll b r (i + 1) (mulRow i x b 0 xs)
theorem mulRow_val (i x : Nat) : ∀ (ys : List Nat) (k : Nat) (xs : List Nat), Ok xs → val (mulRow i x ys k xs) = val xs + x * val ys * 4294967296 ^ (i + k) ∧ Ok (mulRow i x ys k xs)
  | [], k, xs, h => ⟨by simp [mulRow, val], h⟩
  | y :: r, k, xs, h => by
    obtain ⟨a1, a2⟩ := addL_val xs (x * y) (i + k) h
    obtain ⟨b1, b2⟩ := mulRow_val i x r (k + 1) _ a2
    refine ⟨?_, b2⟩
    show val (mulRow i x r (k + 1) (addL xs (x * y) (i + k))) = _
    rw [b1, a1, val, ← Nat.add_assoc i k 1, Nat.pow_succ, Nat.mul_add, Nat.add_mul, Nat.add_assoc]
    congr 2
    simp only [Nat.mul_assoc, Nat.mul_comm, Nat.mul_left_comm]
theorem prodAll_val (b : List Nat) : ∀ (a : List Nat) (i : Nat) (xs : List Nat), Ok xs → val (prodAll b a i xs) = val xs + val a * val b * 4294967296 ^ i ∧ Ok (prodAll b a i xs)
  | [], i, xs, h => ⟨by simp [prodAll, val], h⟩
  | x :: r, i, xs, h => by
    obtain ⟨a1, a2⟩ := mulRow_val i x b 0 xs h
    obtain ⟨b1, b2⟩ := prodAll_val b r (i + 1) _ a2
    refine ⟨?_, b2⟩
    show val (prodAll b r (i + 1) (mulRow i x b 0 xs)) = _
    rw [b1, a1, val, Nat.pow_succ, Nat.add_zero, Nat.add_mul, Nat.add_mul, Nat.add_assoc]
    congr 2
    simp only [Nat.mul_assoc, Nat.mul_comm, Nat.mul_left_comm]
theorem mulRow_ge (i x : Nat) : ∀ (ys : List Nat) (k : Nat) (xs : List Nat), xs.length ≤ (mulRow i x ys k xs).length
  | [], k, xs => Nat.le_refl _
  | y :: r, k, xs => Nat.le_trans (addL_ge xs (x * y) (i + k)).1 (mulRow_ge i x r (k + 1) _)
theorem prodAll_ge (b : List Nat) : ∀ (a : List Nat) (i : Nat) (xs : List Nat), xs.length ≤ (prodAll b a i xs).length
  | [], i, xs => Nat.le_refl _
  | x :: r, i, xs => Nat.le_trans (mulRow_ge i x b 0 xs) (prodAll_ge b r (i + 1) _)
theorem u64lt {x y : Nat} (hx : x < 4294967296) (hy : y < 4294967296) : x * y < 18446744069414584320 := by
  have : x * y ≤ 4294967295 * 4294967295 := Nat.mul_le_mul (by omega) (by omega)
  omega
theorem product_fn {a b : List Nat} (ha : Ok a) (hb : Ok b) (hla : a.length ≤ 524288) (hlb : b.length ≤ 524288) (hs : (prodAll b a 0 []).length ≤ 1048576) : Fn Tryz.prog 84 [.sl (L a), .sl (L b)] (.d (.sl (L (digs (val a * val b))))) := by
  have hv := prodAll_val b a 0 [] .nil
  refine Fn.of (rs := [.tmp 4]) (nt := 39) Tryz.func84 rfl rfl rfl (by simp) rfl ?_
  refine .seq ?_
  refine .region ?_
  refine asn ?_
  refine rn ?_
  refine .seq ?_
  refine .region ?_
  refine al ?_ zadder adder_cells
  refine rn ?_
  refine .mid (fun e H' => ∃ G, e = [(5, .bp 0 0)] ∧ H' = [.box [.own 40 (L (prodAll b a 0 []))]] ++ G) ?_ ?_
  · refine .seq ?_
    refine .region ?_
    refine mvd ?_
    refine ln ?_ (L_sz _) l32
    refine mvd ?_
    refine rn ?_
    refine .block ?_
    refine .loop (.gh (Gh.keep [1, 5, 10, 11, 12] rfl) ?_)
    refine AL.ind (σ := List Nat × Nat × Heap) (m := fun s => a.length - s.2.1) (e := fun s => [(1, .d (.sl (L b))), (5, .bp 0 0), (10, .d (.sl (L a))), (11, .d (.i .i64 ((L a).length : Nat))), (12, .d (.i .i64 (s.2.1 : Int)))]) (h := fun s => [.box [.own 40 (L s.1)]] ++ s.2.2)
      (I := fun s => s.2.1 ≤ a.length ∧ Ok s.1 ∧ prodAll b (a.drop s.2.1) s.2.1 s.1 = prodAll b a 0 []) ?_ ([], 0, []) ⟨by simp, .nil, rfl⟩
    rintro ⟨xs, i, G⟩ ⟨h1, h2, h3⟩ ih
    dsimp only at h1 h2 h3 ih ⊢
    refine .seq ?_
    refine .region ?_
    refine bi ?_
    refine rn ?_
    refine .seq ?_
    by_cases hi : i < a.length
    · rw [decide_eq_true (show (i:Int) < ((L a).length : Nat) by rw [L_length]; omega)]
      have hx : a[i]? = some a[i] := List.getElem?_eq_getElem hi
      have hdr : a.drop i = a[i] :: a.drop (i + 1) := List.drop_eq_getElem_cons hi
      generalize a[i] = x at hx hdr
      have hxl := ha.at hx
      rw [hdr] at h3
      replace h3 : prodAll b (a.drop (i + 1)) (i + 1) (mulRow i x b 0 xs) = prodAll b a 0 [] := h3
      have hge := prodAll_ge b (a.drop (i + 1)) (i + 1) (mulRow i x b 0 xs)
      rw [h3] at hge
      refine cndt ?_
      refine .skip ?_
      show AW _ _ _ _ _ _
      refine .seq ?_
      refine .block ?_
      refine .seq ?_
      refine .region ?_
      refine mvd ?_
      refine ix i ?_ rfl (L_at hx) rfl s32
      refine ldp ?_ a32
      refine asd ?_
      refine asd ?_
      refine rn ?_
      refine .seq ?_
      refine .region ?_
      refine mvd ?_
      refine ln ?_ (L_sz _) l32
      refine mvd ?_
      refine rn ?_
      refine .block ?_
      refine .loop (.gh (Gh.keep [1, 5, 10, 11, 12, 6, 7, 17, 18, 19] rfl) ?_)
      refine AL.ind (σ := List Nat × Nat × Heap) (m := fun s => b.length - s.2.1) (e := fun s => [(1, .d (.sl (L b))), (5, .bp 0 0), (10, .d (.sl (L a))), (11, .d (.i .i64 ((L a).length : Nat))), (12, .d (.i .i64 (i : Int))), (6, .d (.i .i64 (i : Int))), (7, .d (U x)), (17, .d (.sl (L b))), (18, .d (.i .i64 ((L b).length : Nat))), (19, .d (.i .i64 (s.2.1 : Int)))]) (h := fun s => [.box [.own 40 (L s.1)]] ++ s.2.2)
        (I := fun s => s.2.1 ≤ b.length ∧ Ok s.1 ∧ mulRow i x (b.drop s.2.1) s.2.1 s.1 = mulRow i x b 0 xs) ?_ (xs, 0, G) ⟨by simp, h2, rfl⟩
      rintro ⟨zs, k, G1⟩ ⟨g1, g2, g3⟩ ih2
      dsimp only at g1 g2 g3 ih2 ⊢
      refine .seq ?_
      refine .region ?_
      refine bi ?_
      refine rn ?_
      refine .seq ?_
      by_cases hk : k < b.length
      · rw [decide_eq_true (show (k:Int) < ((L b).length : Nat) by rw [L_length]; omega)]
        have hy : b[k]? = some b[k] := List.getElem?_eq_getElem hk
        have hdr2 : b.drop k = b[k] :: b.drop (k + 1) := List.drop_eq_getElem_cons hk
        generalize b[k] = y at hy hdr2
        have hyl := hb.at hy
        rw [hdr2] at g3
        replace g3 : mulRow i x (b.drop (k + 1)) (k + 1) (addL zs (x * y) (i + k)) = mulRow i x b 0 xs := g3
        have hge2 := mulRow_ge i x (b.drop (k + 1)) (k + 1) (addL zs (x * y) (i + k))
        rw [g3] at hge2
        have hge3 := (addL_ge zs (x * y) (i + k)).1
        have hxy := u64lt hxl hyl
        refine cndt ?_
        refine .skip ?_
        show AW _ _ _ _ _ _
        refine .seq ?_
        refine .block ?_
        refine .seq ?_
        refine .region ?_
        refine mvd ?_
        refine ix k ?_ rfl (L_at hy) rfl s32
        refine ldp ?_ a32
        refine asd ?_
        refine asd ?_
        refine rn ?_
        refine .region ?_
        refine fab ?_ fad (by decide)
        refine mvd ?_
        refine cve (x : Int) (toU64 (by omega)) ?_ u32 u64
        refine mvd ?_
        refine cve (y : Int) (toU64 (by omega)) ?_ u32 u64
        refine bie (.i .u64 ((x * y : Nat) : Int)) ?_ ?_
        · exact ⟨trivial, by rw [← Int.natCast_mul, toU64 (by omega)]⟩
        refine mvd ?_
        refine mvd ?_
        refine ad ((i + k : Nat) : Int) ?_ ?_
        · omega
        refine clg (fun G2 => ?_) (add_fn (cs := [.own 40 (L zs)]) (n0 := x * y) (at0 := i + k) rfl rfl g2 (by omega) (by omega) (by omega)) Tryz.call103
        refine .nil ?_
        show AW _ _ _ _ _ _
        refine .region ?_
        refine ad ((k + 1 : Nat) : Int) ?_ ?_
        · omega
        refine mvd ?_
        refine .nil ?_
        refine AL.gh (Gh.keep [1, 5, 10, 11, 12, 6, 7, 17, 18, 19] rfl) ?_
        refine AL.castH (H' := [.box [.own 40 (L (addL zs (x * y) (i + k)))]] ++ (G1 ++ G2)) (by rw [← List.append_assoc]; rfl) ?_
        exact ih2 (addL zs (x * y) (i + k), k + 1, G1 ++ G2) ⟨by show k + 1 ≤ b.length; omega, (addL_val zs (x * y) (i + k) g2).2, g3⟩ (by show b.length - (k + 1) < b.length - k; omega)
      · rw [decide_eq_false (show ¬ (k:Int) < ((L b).length : Nat) by rw [L_length]; omega)]
        have : b.drop k = [] := List.drop_eq_nil_of_le (by omega)
        rw [this] at g3
        replace g3 : zs = mulRow i x b 0 xs := g3
        refine cndf ?_
        refine .exit ?_
        show AW _ _ _ _ _ _
        refine .region ?_
        refine ad ((i + 1 : Nat) : Int) ?_ ?_
        · omega
        refine mvd ?_
        refine .nil ?_
        refine AL.gh (Gh.keep [1, 5, 10, 11, 12] rfl) ?_
        rw [g3]
        exact ih (mulRow i x b 0 xs, i + 1, G1) ⟨by show i + 1 ≤ a.length; omega, (mulRow_val i x b 0 xs h2).2, h3⟩ (by show a.length - (i + 1) < a.length - i; omega)
    · rw [decide_eq_false (show ¬ (i:Int) < ((L a).length : Nat) by rw [L_length]; omega)]
      have : a.drop i = [] := List.drop_eq_nil_of_le (by omega)
      rw [this] at h3
      replace h3 : xs = prodAll b a 0 [] := h3
      refine cndf ?_
      refine .gh (Gh.keep [5] rfl) ?_
      refine .exit ?_
      rw [h3]
      exact ⟨G, rfl, rfl⟩
  · rintro _ _ ⟨G, rfl, rfl⟩
    refine .seq ?_
    refine .region ?_
    refine fz (p := .c 0 0) ?_
    refine fab ?_ fad (by decide)
    refine ldb (cs := [.d (.sl (L (prodAll b a 0 [])))]) (c := .d (.sl (L (prodAll b a 0 [])))) rfl rfl ?_ alm
    refine cl (xs := [.sl (L (prodAll b a 0 []))]) ?_ (cut_val hv.2 (by omega)) Tryz.call82
    refine asd ?_
    refine rn ?_
    refine .ret ?_
    exact ⟨by rw [hv.1]; simp [val]; rfl, rfl⟩
end Go.FL
/-
  nat.product: how many limbs; nat.Product.
-/
namespace Go.FL
open Go Go.Proofs

theorem pow_lt_iff {a N : Nat} {n : Nat} (hn : n ≠ 0) (h : n * 4294967296 ^ a < 4294967296 ^ N) : a < N := by
  apply Classical.byContradiction
  intro hc
  have h1 : 4294967296 ^ N ≤ 4294967296 ^ a := Nat.pow_le_pow_right (by decide) (by omega)
  have h2 : 1 * 4294967296 ^ a ≤ n * 4294967296 ^ a := Nat.mul_le_mul_right _ (by omega)
  omega
theorem addL_fit {N : Nat} (xs : List Nat) (n at_ : Nat) (h : Ok xs) (hN : xs.length ≤ N) (hv : val xs + n * 4294967296 ^ at_ < 4294967296 ^ N) : (addL xs n at_).length ≤ N := by
  induction xs, n, at_ using addL.induct with
  | case1 xs at_ => rw [addL_zero]; exact hN
  | case2 xs n at_ hn ih =>
    have e1 := (addL_val xs n at_ h).1
    have hat : at_ < N := pow_lt_iff hn (by omega)
    have hlen := padL_length xs at_
    have hok : Ok ((padL xs at_).set at_ ((n + (padL xs at_).getD at_ 0) % 4294967296)) := (padL_ok h at_).set _ (Nat.mod_lt _ (by decide))
    rw [addL_pos hn] at e1 ⊢
    have e2 := (addL_val _ ((n + (padL xs at_).getD at_ 0) / 4294967296) (at_ + 1) hok).1
    refine ih hok ?_ ?_
    · rw [List.length_set, hlen]; omega
    · rw [← e2, e1]; exact hv
theorem mulRow_fit {N : Nat} (i x : Nat) : ∀ (ys : List Nat) (k : Nat) (xs : List Nat), Ok xs → xs.length ≤ N → val xs + x * val ys * 4294967296 ^ (i + k) < 4294967296 ^ N → (mulRow i x ys k xs).length ≤ N
  | [], k, xs, h, hN, _ => hN
  | y :: r, k, xs, h, hN, hv => by
    obtain ⟨a1, a2⟩ := addL_val xs (x * y) (i + k) h
    have e1 := (mulRow_val i x (y :: r) k xs h).1
    have e2 := (mulRow_val i x r (k + 1) _ a2).1
    have hv2 : val (addL xs (x * y) (i + k)) + x * val r * 4294967296 ^ (i + (k + 1)) < 4294967296 ^ N := by
      rw [← e2]; rw [← e1] at hv; exact hv
    exact mulRow_fit i x r (k + 1) _ a2 (addL_fit xs (x * y) (i + k) h hN (by omega)) hv2
theorem prodAll_fit {N : Nat} (b : List Nat) : ∀ (a : List Nat) (i : Nat) (xs : List Nat), Ok xs → xs.length ≤ N → val xs + val a * val b * 4294967296 ^ i < 4294967296 ^ N → (prodAll b a i xs).length ≤ N
  | [], i, xs, h, hN, _ => hN
  | x :: r, i, xs, h, hN, hv => by
    obtain ⟨a1, a2⟩ := mulRow_val i x b 0 xs h
    have e1 := (prodAll_val b (x :: r) i xs h).1
    have e2 := (prodAll_val b r (i + 1) _ a2).1
    have hv2 : val (mulRow i x b 0 xs) + val r * val b * 4294967296 ^ (i + 1) < 4294967296 ^ N := by
      rw [← e2]; rw [← e1] at hv; exact hv
    exact prodAll_fit b r (i + 1) _ a2 (mulRow_fit i x b 0 xs h hN (by omega)) hv2
theorem prodAll_len {a b : List Nat} (ha : Ok a) (hb : Ok b) : (prodAll b a 0 []).length ≤ a.length + b.length := by
  refine prodAll_fit b a 0 [] .nil (Nat.zero_le _) ?_
  have h1 := val_lt ha
  have h2 := val_lt hb
  rw [Nat.pow_add]
  simp only [val, Nat.pow_zero, Nat.mul_one, Nat.zero_add]
  exact Nat.mul_lt_mul'' h1 h2
theorem prod_fn {a b : List Nat} (ha : Ok a) (hb : Ok b) (hla : a.length ≤ 524288) (hlb : b.length ≤ 524288) : Fn Tryz.prog 84 [.sl (L a), .sl (L b)] (.d (.sl (L (digs (val a * val b))))) :=
  product_fn ha hb hla hlb (by have := prodAll_len ha hb; omega)
end Go.FL
/-
  nat.Product.
-/
namespace Go.FL
open Go Go.Proofs

/-- The product, times what stood. -/
def prodF (ls : List (List Nat)) (p : Nat) : Nat := ls.foldl (fun q a => q * val a) p
theorem Product_fn {ls : List (List Nat)} (h : ∀ a ∈ ls, Ok a) (hl : ls.length ≤ 1048576) (hla : ∀ a ∈ ls, a.length ≤ 524288) (hs : ∀ k, (digs (prodF (ls.take k) 1)).length ≤ 524288) :
    Fn Tryz.prog 47 [.sl (LL ls)] (.d (.sl (L (digs (prodF ls 1))))) := by
  refine Fn.of (rs := [.tmp 2]) (nt := 18) Tryz.func47 rfl rfl rfl (by simp) rfl ?_
  refine .seq ?_
  refine .region ?_
  refine asn ?_
  refine rn ?_
  refine .seq ?_
  refine .region ?_
  refine bsl ?_ ?_ e32
  · simp [DV.flat, DV.cells, DV.leaf]
  refine fz (p := .t 6) ?_
  refine asd ?_
  refine rn ?_
  refine .mid (fun e H' => e = [(3, .d (.sl (L (digs (prodF ls 1)))))] ∧ H' = []) ?_ ?_
  · refine .seq ?_
    refine .region ?_
    refine mvd ?_
    refine ln ?_ (LL_sz _) l2
    refine mvd ?_
    refine rn ?_
    refine .block ?_
    refine .loop (.gh (Gh.keep [3, 7, 8, 9] rfl) ?_)
    refine AL.cast (env' := [(3, .d (.sl (L (digs (prodF (ls.take 0) 1))))), (7, .d (.sl (LL ls))), (8, .d (.i .i64 ((LL ls).length : Nat))), (9, .d (.i .i64 ((0 : Nat) : Int)))]) (by
      have e1 : digs (prodF (ls.take 0) 1) = [1] := by
        rw [List.take_zero]; show digs 1 = [1]; rw [digs]; simp; rw [digs]; simp
      rw [e1]; rfl) ?_
    refine AL.ind (σ := Nat) (m := fun i => ls.length - i) (e := fun i => [(3, .d (.sl (L (digs (prodF (ls.take i) 1))))), (7, .d (.sl (LL ls))), (8, .d (.i .i64 ((LL ls).length : Nat))), (9, .d (.i .i64 (i : Int)))]) (h := fun _ => [])
      (I := fun i => i ≤ ls.length) ?_ 0 (Nat.zero_le _)
    intro i h1 ih
    refine .seq ?_
    refine .region ?_
    refine bi ?_
    refine rn ?_
    refine .seq ?_
    by_cases hi : i < ls.length
    · rw [decide_eq_true (show (i:Int) < ((LL ls).length : Nat) by rw [LL_length]; omega)]
      have hy : ls[i]? = some ls[i] := List.getElem?_eq_getElem hi
      have htk : ls.take (i + 1) = ls.take i ++ [ls[i]] := List.take_succ_eq_append_getElem hi
      generalize ls[i] = y at hy htk
      have hyo := h y (List.mem_of_getElem? hy)
      have hyl := hla y (List.mem_of_getElem? hy)
      have hst : prodF (ls.take (i + 1)) 1 = prodF (ls.take i) 1 * val y := by rw [htk, prodF, prodF, List.foldl_append]; rfl
      refine cndt ?_
      refine .skip ?_
      show AW _ _ _ _ _ _
      refine .seq ?_
      refine .block ?_
      refine .seq ?_
      refine .region ?_
      refine ix i ?_ rfl (LL_at hy) rfl s2
      refine ldp ?_ a2
      refine asd ?_
      refine rn ?_
      refine .region ?_
      refine mvd ?_
      refine mvd ?_
      refine cl (xs := [.sl (L (digs (prodF (ls.take i) 1))), .sl (L y)]) ?_ (prod_fn (digs_ok _) hyo (hs i) hyl) Tryz.call84
      refine asd ?_
      refine .nil ?_
      show AW _ _ _ _ _ _
      refine .region ?_
      refine ad ((i + 1 : Nat) : Int) ?_ ?_
      · omega
      refine mvd ?_
      refine .nil ?_
      refine AL.gh (Gh.keep [3, 7, 8, 9] rfl) ?_
      rw [val_digs, ← hst]
      exact ih (i + 1) (by show i + 1 ≤ ls.length; omega) (by show ls.length - (i + 1) < ls.length - i; omega)
    · rw [decide_eq_false (show ¬ (i:Int) < ((LL ls).length : Nat) by rw [LL_length]; omega)]
      rw [List.take_of_length_le (by omega)]
      refine cndf ?_
      refine .gh (Gh.keep [3] rfl) ?_
      refine .exit ?_
      exact ⟨rfl, rfl⟩
  · rintro _ _ ⟨rfl, rfl⟩
    refine .seq ?_
    refine .region ?_
    refine mvd ?_
    refine asd ?_
    refine rn ?_
    refine .ret ?_
    exact ⟨rfl, rfl⟩
end Go.FL
/-
  What laws need: arguments as limbs; how many limbs sums and products have.
-/
namespace Go.FL
open Go Go.Proofs

theorem e2 : elemT Tryz.prog 72 = some (22, 1, 24, .slice none 0 0) := by kernel_rfl
theorem addAll_fit {N : Nat} : ∀ (ys xs : List Nat) (i : Nat), Ok xs → xs.length ≤ N → val xs + val ys * 4294967296 ^ i < 4294967296 ^ N → (addAll xs ys i).length ≤ N
  | [], xs, i, h, hN, _ => hN
  | y :: ys, xs, i, h, hN, hv => by
    obtain ⟨a1, a2⟩ := addL_val xs y i h
    have e1 := (addAll_val (y :: ys) xs i h).1
    have e2 := (addAll_val ys _ (i + 1) a2).1
    have hv2 : val (addL xs y i) + val ys * 4294967296 ^ (i + 1) < 4294967296 ^ N := by
      rw [← e2]; rw [← e1] at hv; exact hv
    exact addAll_fit ys _ (i + 1) a2 (addL_fit xs y i h hN (by omega)) hv2
theorem sumAll_fit {N : Nat} : ∀ (ls : List (List Nat)) (xs : List Nat), Ok xs → xs.length ≤ N → val xs + (ls.map val).sum < 4294967296 ^ N → (sumAll ls xs).length ≤ N
  | [], xs, h, hN, _ => hN
  | a :: r, xs, h, hN, hv => by
    obtain ⟨a1, a2⟩ := addAll_val a xs 0 h
    have hv2 : val (addAll xs a 0) + (r.map val).sum < 4294967296 ^ N := by
      rw [a1]; simp at hv ⊢; omega
    exact sumAll_fit r _ a2 (addAll_fit a xs 0 h hN (by omega)) hv2
theorem pow_split (M : Nat) : 4294967296 ^ (M + 1) = 4294967296 ^ M * 4294967296 := Nat.pow_succ ..
theorem sum_lt {M : Nat} : ∀ {ls : List (List Nat)}, (∀ a ∈ ls, val a < 4294967296 ^ M) → (ls.map val).sum ≤ ls.length * 4294967296 ^ M
  | [], _ => by simp
  | a :: r, h => by
    have h1 := h a (by simp)
    have h2 := sum_lt (ls := r) fun b hb => h b (by simp [hb])
    simp only [List.map_cons, List.sum_cons, List.length_cons, Nat.add_mul, Nat.one_mul]
    omega
/-- Sums of numbers of at most M limbs. -/
theorem sum_fn {M : Nat} {ls : List (List Nat)} (h : ∀ a ∈ ls, Ok a) (hM : ∀ a ∈ ls, a.length ≤ M) (hl : ls.length ≤ 1000) (hM2 : M ≤ 100000) : Fn Tryz.prog 46 [.sl (LL ls)] (.d (.sl (L (digs (ls.map val).sum)))) := by
  have hv : ∀ a ∈ ls, val a < 4294967296 ^ M := fun a ha => Nat.lt_of_lt_of_le (val_lt (h a ha)) (Nat.pow_le_pow_right (by decide) (hM a ha))
  refine Sum_fn h (by omega) (fun a ha => Nat.le_trans (hM a ha) (by omega)) ?_
  have h1 := sum_lt hv
  have h2 : ls.length * 4294967296 ^ M < 4294967296 ^ (M + 1) := by
    rw [pow_split, Nat.mul_comm]
    exact Nat.mul_lt_mul_of_pos_left (by omega) (Nat.pow_pos (by decide))
  have := sumAll_fit (N := M + 1) ls [] .nil (Nat.zero_le _) (by simp only [val, Nat.zero_add]; omega)
  omega
theorem prodF_lt {M : Nat} : ∀ (ls : List (List Nat)) (p j : Nat), (∀ a ∈ ls, val a < 4294967296 ^ M) → p < 4294967296 ^ j → prodF ls p < 4294967296 ^ (j + M * ls.length)
  | [], p, j, _, hp => by simpa [prodF] using hp
  | a :: r, p, j, h, hp => by
    have h1 : p * val a < 4294967296 ^ (j + M) := by rw [Nat.pow_add]; exact Nat.mul_lt_mul'' hp (h a (by simp))
    have := prodF_lt r (p * val a) (j + M) (fun b hb => h b (by simp [hb])) h1
    rw [show j + M * (a :: r).length = j + M + M * r.length by simp [Nat.mul_add]; omega]
    exact this
theorem prods_fn {M : Nat} {ls : List (List Nat)} (h : ∀ a ∈ ls, Ok a) (hM : ∀ a ∈ ls, a.length ≤ M) (hl : ls.length ≤ 10) (hM2 : M ≤ 40000) : Fn Tryz.prog 47 [.sl (LL ls)] (.d (.sl (L (digs (prodF ls 1))))) := by
  have hv : ∀ a ∈ ls, val a < 4294967296 ^ M := fun a ha => Nat.lt_of_lt_of_le (val_lt (h a ha)) (Nat.pow_le_pow_right (by decide) (hM a ha))
  refine Product_fn h (by omega) (fun a ha => Nat.le_trans (hM a ha) (by omega)) fun k => ?_
  have h1 := prodF_lt (ls.take k) 1 1 (fun a ha => hv a (List.mem_of_mem_take ha)) (by decide)
  have h2 := digs_len h1
  have h3 : M * (ls.take k).length ≤ 40000 * 10 := Nat.mul_le_mul hM2 (by rw [List.length_take]; omega)
  omega
/-- Arguments, as limbs. -/
theorem as_limbs : ∀ zs : List Int, (∀ z ∈ zs, (Lit.int .u32 z).wf = true) → ∃ a : List Nat, Ok a ∧ zs.map (DV.i .u32) = L a
  | [], _ => ⟨[], .nil, rfl⟩
  | z :: zs, h => by
    obtain ⟨a, h1, h2⟩ := as_limbs zs fun y hy => h y (by simp [hy])
    have hz := h z (by simp)
    have hz2 : 0 ≤ z ∧ z ≤ 4294967295 := by simpa [Lit.wf, IntKind.min, IntKind.max, IntKind.signed, IntKind.bits] using hz
    refine ⟨z.toNat :: a, h1.cons (by omega), ?_⟩
    rw [List.map_cons, h2]
    show _ = U z.toNat :: L a
    rw [U, Int.toNat_of_nonneg hz2.1]
end Go.FL
/-
  Bits of products; arguments; a number is the same as itself.
-/
namespace Go.FL
open Go Go.Proofs

theorem bits_len {x : List Nat} {k : Nat} (h : Ok x) (hl : x.length ≤ k) : bitsN (val x) ≤ 32 * k := bitsN_iff.2 (by
  rw [Nat.pow_mul]
  exact Nat.lt_of_lt_of_le (val_lt h) (Nat.pow_le_pow_right (by decide) hl))
end Go.FL
/-
  glyphref01: Right, Small.
-/
namespace Go.FL
open Go Go.Proofs

theorem right_last {b : List Nat} {x : Nat} (h : Ok (b ++ [x])) : (digs (val (b ++ [x])) = b ++ [x]) ↔ x ≠ 0 := by
  constructor
  · intro he h0
    subst h0
    rw [← cutL_val h, cutL_zero] at he
    have hb : Ok b := fun y hy => h y (by simp [hy])
    rw [cutL_val hb] at he
    have h1 := digs_len_le hb
    rw [he] at h1
    simp at h1
    omega
  · intro h0
    rw [← cutL_val h, cutL_pos _ h0]
theorem refRight_fn {a : List Nat} (h : Ok a) (hl : a.length ≤ 35184372087808) : Fn Tryz.prog 68 [.sl (L a)] (.d (.b (decide (digs (val a) = a)))) := by
  refine Fn.of (rs := [.tmp 2]) (nt := 15) Tryz.func68 rfl rfl rfl (by simp) rfl ?_
  refine .seq ?_
  refine .region ?_
  refine asd ?_
  refine rn ?_
  refine .seq ?_
  refine .region ?_
  refine mvd ?_
  refine ln ?_ (L_sz _) l32
  refine bi ?_
  refine mvd ?_
  rcases List.eq_nil_or_concat a with rfl | ⟨b, x, rfl⟩
  · refine gf ?_
    refine gf ?_
    refine gf ?_
    refine gf ?_
    refine gf ?_
    refine gf ?_
    refine gf ?_
    refine pkd ?_
    refine asd ?_
    refine rn ?_
    refine .ret ?_
    exact ⟨by rw [decide_eq_true (show digs (val []) = [] by rw [val, digs_zero])]; rfl, rfl⟩
  · rw [List.concat_eq_append] at *
    have hll : (b ++ [x]).length = b.length + 1 := by simp
    rw [decide_eq_false (show ¬ ((L (b ++ [x])).length : Int) = 0 by rw [L_length]; omega)]
    refine mvd ?_
    refine mvd ?_
    refine ln ?_ (L_sz _) l32
    refine su (b.length : Int) ?_ ?_
    · rw [L_length]; omega
    refine ix b.length ?_ rfl (L_at (xs := b ++ [x]) (n := x) (by simp)) rfl s32
    refine ldp ?_ a32
    refine bi ?_
    refine pkd ?_
    refine asd ?_
    refine rn ?_
    refine .ret ?_
    refine ⟨?_, rfl⟩
    show AV.d (.b (!decide ((x : Int) = 0))) = _
    congr 2
    rw [decide_eq_decide.2 (right_last h)]
    by_cases h0 : x = 0
    · subst h0; rfl
    · rw [decide_eq_true h0, decide_eq_false (by omega)]; rfl
theorem digs_two_lt {n : Nat} (h : (digs n).length ≤ 2) : n < 18446744073709551616 := by
  have h1 := val_lt (digs_ok n)
  rw [val_digs] at h1
  exact Nat.lt_of_lt_of_le h1 (Nat.pow_le_pow_right (n := 4294967296) (by decide) h)
theorem refSmall_fn {a : List Nat} (h : Ok a) (hl : a.length ≤ 1048576) : Fn Tryz.prog 42 [.sl (L a)] (.tup [.d (.i .i64 (smallN a : Nat)), .d (.b (decide (bitsN (val a) ≤ 63)))]) := by
  have hok := digs_ok (val a)
  have hvd := val_digs (val a)
  refine Fn.of (rs := [.tmp 2, .tmp 3]) (nt := 39) Tryz.func42 rfl rfl rfl (by simp) rfl ?_
  refine .seq ?_
  refine .region ?_
  refine asd ?_
  refine asd ?_
  refine rn ?_
  refine .seq ?_
  refine .region ?_
  refine mvd ?_
  refine cl (xs := [.sl (L a)]) ?_ (refTrim_fn h (by omega)) Tryz.call70
  refine aso ?_
  refine rn ?_
  refine .gh (Gh.frz (p := .t 4) rfl (fun _ _ h => by cases h)) ?_
  refine .gh (Gh.keep [4] rfl) ?_
  refine .mid (fun e H' => H' = [] ∧ val a < 9223372036854775808 ∧ (digs (val a)).length ≤ 2 ∧ e = [(4, .d (.sl (L (digs (val a)))))]) ?_ ?_
  · have hno : 9223372036854775808 ≤ val a → smallN a = 0 ∧ decide (bitsN (val a) ≤ 63) = false := fun hge => by
      have : ¬ bitsN (val a) ≤ 63 := fun hb => by
        have := bitsN_iff.1 hb
        omega
      exact ⟨by rw [smallN, if_neg this], decide_eq_false this⟩
    have hlt2 := @digs_two_lt (val a)
    have hdl : val a < 4294967296 ^ 2 → (digs (val a)).length ≤ 2 := digs_len
    generalize digs (val a) = xs at *
    refine .seq ?_
    refine .region ?_
    refine mvd ?_
    refine ln ?_ (L_sz _) l32
    refine bi ?_
    refine mvd ?_
    by_cases h2 : 2 < xs.length
    · obtain ⟨e1, e2⟩ := hno (by omega)
      rw [decide_eq_true (show (2 : Int) < ((L xs).length : Nat) by rw [L_length]; omega)]
      refine gf ?_
      refine gf ?_
      refine gf ?_
      refine gfu ?_
      refine gfn ?_
      refine gfn ?_
      refine gfn ?_
      refine gfn ?_
      refine gf ?_
      refine pkd ?_
      refine rn ?_
      refine cndt ?_
      refine .seq ?_
      refine .region ?_
      refine asd ?_
      refine asd ?_
      refine rn ?_
      refine .ret ?_
      exact ⟨by decide, by rw [e1, e2]; rfl, rfl, rfl⟩
    · rw [decide_eq_false (show ¬ (2 : Int) < ((L xs).length : Nat) by rw [L_length]; omega)]
      refine mvd ?_
      refine ln ?_ (L_sz _) l32
      refine bi ?_
      refine mvd ?_
      by_cases h3 : xs.length = 2
      · rw [decide_eq_true (show ((L xs).length : Nat) = (2 : Int) by rw [L_length]; omega)]
        match xs, h3 with
        | [x, y], _ =>
          have hxl := hok.head
          have hyl := hok.tail.head
          have hve : val a = x + 4294967296 * y := by rw [← hvd]; simp [val]
          refine mvd ?_
          refine ix 1 ?_ rfl (L_at (xs := [x, y]) (n := y) rfl) rfl s32
          refine ldp ?_ a32
          refine bi ?_
          refine pkd ?_
          refine pkd ?_
          refine rn ?_
          by_cases h4 : 2147483648 ≤ y
          · obtain ⟨e1, e2⟩ := hno (by omega)
            rw [decide_eq_true (show (2147483648 : Int) ≤ (y : Int) by omega)]
            refine cndt ?_
            refine .seq ?_
            refine .region ?_
            refine asd ?_
            refine asd ?_
            refine rn ?_
            refine .ret ?_
            exact ⟨by decide, by rw [e1, e2]; rfl, rfl, rfl⟩
          · rw [decide_eq_false (show ¬ (2147483648 : Int) ≤ (y : Int) by omega)]
            refine cndf ?_
            refine .gh (Gh.keep [4] rfl) ?_
            refine .skip ?_
            exact ⟨rfl, by omega, by simp, rfl⟩
      · rw [decide_eq_false (show ¬ ((L xs).length : Nat) = (2 : Int) by rw [L_length]; omega)]
        refine gf ?_
        refine gf ?_
        refine gf ?_
        refine gf ?_
        refine pkd ?_
        refine pkd ?_
        refine rn ?_
        refine cndf ?_
        refine .gh (Gh.keep [4] rfl) ?_
        refine .skip ?_
        refine ⟨rfl, ?_, by omega, rfl⟩
        rw [← hvd]
        exact Nat.lt_of_lt_of_le (val_lt hok) (Nat.le_trans (Nat.pow_le_pow_right (by decide) (show xs.length ≤ 1 by omega)) (by decide))
  rintro _ _ ⟨rfl, h63, hlen, rfl⟩
  have hb : bitsN (val a) ≤ 63 := bitsN_iff.2 h63
  have hvs := val_small hok hlen (by rw [hvd]; exact h63)
  generalize digs (val a) = xs at *
  refine .seq ?_
  refine .region ?_
  refine asd ?_
  refine rn ?_
  refine .mid (fun e H' => H' = [] ∧ e = [(5, .d (.i .i64 ((val a : Nat) : Int)))]) ?_ ?_
  · refine .seq ?_
    refine .region ?_
    refine mvd ?_
    refine ln ?_ (L_sz _) l32
    refine su ((xs.length : Int) - 1) ?_ ?_
    · rw [L_length]; omega
    refine asd ?_
    refine rn ?_
    refine .block ?_
    refine .loop (.gh (Gh.keep [4, 5, 6] rfl) ?_)
    refine AL.cast (env' := [(4, .d (.sl (L xs))), (5, .d (.i .i64 ((val (xs.drop xs.length) : Nat) : Int))), (6, .d (.i .i64 ((xs.length : Int) - 1)))]) (by rw [List.drop_length]; rfl) ?_
    refine AL.ind (σ := Nat) (m := fun i => i) (e := fun i => [(4, .d (.sl (L xs))), (5, .d (.i .i64 ((val (xs.drop i) : Nat) : Int))), (6, .d (.i .i64 ((i : Int) - 1)))]) (h := fun _ => [])
      (I := fun i => i ≤ xs.length) ?_ xs.length (Nat.le_refl _)
    intro i h1 ih
    refine .seq ?_
    refine .seq ?_
    refine .region ?_
    refine mvd ?_
    refine bi ?_
    refine rn ?_
    cases i with
    | zero =>
      rw [decide_eq_false (show ¬ (0 : Int) ≤ ((0 : Nat) : Int) - 1 by omega)]
      refine cndf ?_
      refine .gh (Gh.keep [5] rfl) ?_
      refine .exit ?_
      rw [List.drop_zero, hvd]
      exact ⟨rfl, rfl⟩
    | succ i =>
      have hj : i < xs.length := by omega
      have hx : xs[i]? = some xs[i] := List.getElem?_eq_getElem hj
      have hva := val_at hj
      have hxl := hok.at hx
      have hsm := hvs i
      generalize xs[i] = x at *
      generalize val (xs.drop (i + 1)) = n at *
      have ih' := ih i (by omega) (by omega)
      rw [hva] at ih'
      rw [decide_eq_true (show (0 : Int) ≤ ((i + 1 : Nat) : Int) - 1 by omega)]
      refine cndt ?_
      refine .skip ?_
      show AW _ _ _ _ _ _
      refine .seq ?_
      refine .block ?_
      refine .region ?_
      refine mvd ?_
      refine bie (.i .i64 ((n * 4294967296 : Nat) : Int)) ?_ ?_
      · refine ⟨by decide, ?_⟩
        have : IntKind.i64.wrap ((n : Int) * 4294967296) = ((n * 4294967296 : Nat) : Int) := by
          rw [wraps_i64 _ (by omega) (by omega)]; omega
        rw [← this]; simp [IntKind.bits]
      refine mvd ?_
      refine mvd ?_
      refine ix (z := ((i + 1 : Nat) : Int) - 1) i ?_ (by omega) (L_at hx) rfl s32
      refine ldp ?_ a32
      refine cve (x : Int) (wraps_i64 _ (by omega) (by omega)) ?_ u32 i64
      refine bie (.i .i64 ((x + 4294967296 * n : Nat) : Int)) ?_ ?_
      · exact ⟨trivial, by rw [i64_join hsm hxl, show n * 4294967296 + x = x + 4294967296 * n by omega]⟩
      refine asd ?_
      refine .nil ?_
      show AW _ _ _ _ _ _
      refine .region ?_
      refine mvd ?_
      refine su ((i : Int) - 1) ?_ ?_
      · omega
      refine asd ?_
      refine rn ?_
      refine .gh (Gh.keep [4, 5, 6] rfl) ?_
      exact ih'
  rintro _ _ ⟨rfl, rfl⟩
  refine .seq ?_
  refine .region ?_
  refine mvd ?_
  refine asd ?_
  refine asd ?_
  refine rn ?_
  refine .ret ?_
  exact ⟨by decide, by rw [decide_eq_true hb, smallN, if_pos hb]; rfl, rfl, rfl⟩
end Go.FL
/-
  glyphref01.Mul.
-/
namespace Go.FL
open Go Go.Proofs

theorem mul_step {V V' o P r q x y c D D' s : Nat} (vs : V' + o * P = V + r * P) (hs : s = o + x * y + c) (hq : s = 4294967296 * q + r) (hD : D = y + 4294967296 * D') : V' + (x * D' + q) * (P * 4294967296) = V + (x * D + c) * P := by
  grind
theorem drop_val {b : List Nat} (k : Nat) : val (b.drop k) = b.getD k 0 + 4294967296 * val (b.drop (k + 1)) := by
  by_cases h : k < b.length
  · rw [List.drop_eq_getElem_cons h, List.getD_eq_getElem?_getD, List.getElem?_eq_getElem h]; simp only [val, Option.getD_some]
  · rw [List.drop_eq_nil_of_le (by omega), List.drop_eq_nil_of_le (by omega), List.getD_eq_getElem?_getD, List.getElem?_eq_none (by omega)]; simp [val]
theorem getD_lt {b : List Nat} (h : Ok b) (k : Nat) : b.getD k 0 < 4294967296 := by
  rw [List.getD_eq_getElem?_getD]
  cases hk : b[k]? with
  | none => decide
  | some y => exact h.at hk
theorem s_lt {o x y c : Nat} (ho : o < 4294967296) (hx : x < 4294967296) (hy : y < 4294967296) (hc : c < 4294967296) : o + x * y + c < 18446744073709551616 := by
  have : x * y ≤ 4294967295 * 4294967295 := Nat.mul_le_mul (by omega) (by omega)
  omega
theorem set_val {xs : List Nat} {j o y : Nat} (h : xs[j]? = some o) : val (xs.set j y) + o * 4294967296 ^ j = val xs + y * 4294967296 ^ j := val_set h
/-- In a product there is room for the carry. -/
theorem mul_room {V c x D P T N j : Nat} (h : V + (x * D + c) * P ≤ T) (hP : P = 4294967296 ^ j) (hT : T < 4294967296 ^ N) (hc : c ≠ 0) : j < N := by
  refine pow_lt_iff hc ?_
  have h1 : c * 4294967296 ^ j ≤ (x * D + c) * P := by rw [hP]; exact Nat.mul_le_mul_right _ (by omega)
  omega
theorem rep_val : ∀ n, val (List.replicate n 0) = 0
  | 0 => rfl
  | n + 1 => by rw [List.replicate_succ, val, rep_val n]
theorem rep_ok (n : Nat) : Ok (List.replicate n 0) := fun x hx => by rw [List.eq_of_mem_replicate hx]; decide

theorem Mul_fn {a b : List Nat} (ha : Ok a) (hb : Ok b) (hla : a.length ≤ 400000) (hlb : b.length ≤ 400000) : Fn Tryz.prog 49 [.sl (L a), .sl (L b)] (.own 40 (L (digs (val a * val b)))) := by
  have hT : val a * val b < 4294967296 ^ (a.length + b.length) := by
    rw [Nat.pow_add]; exact Nat.mul_lt_mul'' (val_lt ha) (val_lt hb)
  refine Fn.of (rs := [.tmp 4]) (nt := 63) Tryz.func49 rfl rfl rfl (by simp) rfl ?_
  refine .seq ?_
  refine .region ?_
  refine asn ?_
  refine rn ?_
  refine .seq ?_
  refine .region ?_
  refine mvd ?_
  refine ln ?_ (L_sz _) l32
  refine mvd ?_
  refine ln ?_ (L_sz _) l32
  refine ad ((a.length + b.length : Nat) : Int) ?_ ?_
  · rw [L_length, L_length]; omega
  refine ad ((a.length + b.length + 1 : Nat) : Int) ?_ ?_
  · omega
  refine mk (a.length + b.length + 1) ⟨rfl, rfl⟩ ?_ ?_ e32 rfl
  · omega
  refine aso ?_
  refine rn ?_
  refine .mid (fun e H' => ∃ out, e = [(5, .own 40 (L out))] ∧ H' = [] ∧ Ok out ∧ out.length = a.length + b.length + 1 ∧ val out = val a * val b) ?_ ?_
  · refine .seq ?_
    refine .region ?_
    refine asd ?_
    refine rn ?_
    refine .block ?_
    refine .loop (.gh (Gh.keep [0, 1, 5, 6] rfl) ?_)
    refine AL.cast (env' := [(0, .d (.sl (L a))), (1, .d (.sl (L b))), (5, .own 40 (L (List.replicate (a.length + b.length + 1) 0))), (6, .d (.i .i64 ((0 : Nat) : Int)))]) (by simp [L]; rfl) ?_
    refine AL.ind (σ := List Nat × Nat) (m := fun s => a.length - s.2) (e := fun s => [(0, .d (.sl (L a))), (1, .d (.sl (L b))), (5, .own 40 (L s.1)), (6, .d (.i .i64 (s.2 : Int)))]) (h := fun _ => [])
      (I := fun s => Ok s.1 ∧ s.1.length = a.length + b.length + 1 ∧ s.2 ≤ a.length ∧ val s.1 + val (a.drop s.2) * val b * 4294967296 ^ s.2 = val a * val b) ?_ (List.replicate (a.length + b.length + 1) 0, 0) ⟨rep_ok _, by simp, Nat.zero_le _, by simp [rep_val]⟩
    rintro ⟨out, i⟩ ⟨h1, h2, h3, h4⟩ ih
    dsimp only at h1 h2 h3 h4 ih ⊢
    refine .seq ?_
    refine .seq ?_
    refine .region ?_
    refine mvd ?_
    refine mvd ?_
    refine ln ?_ (L_sz _) l32
    refine bi ?_
    refine rn ?_
    by_cases hi : i < a.length
    · rw [decide_eq_true (show (i : Int) < ((L a).length : Nat) by rw [L_length]; omega)]
      have hx : a[i]? = some a[i] := List.getElem?_eq_getElem hi
      have hdr : val (a.drop i) = a[i] + 4294967296 * val (a.drop (i + 1)) := by rw [List.drop_eq_getElem_cons hi, val]
      generalize a[i] = x at hx hdr
      have hxl := ha.at hx
      refine cndt ?_
      refine .skip ?_
      show AW _ _ _ _ _ _
      refine .seq ?_
      refine .block ?_
      refine .seq ?_
      refine .region ?_
      refine asd ?_
      refine rn ?_
      refine .seq ?_
      refine .region ?_
      refine asd ?_
      refine rn ?_
      refine .block ?_
      refine .loop (.gh (Gh.keep [0, 1, 5, 6, 7, 8] rfl) ?_)
      refine AL.ind (σ := List Nat × Nat × Nat) (m := fun s => a.length + b.length - i - s.2.1) (e := fun s => [(0, .d (.sl (L a))), (1, .d (.sl (L b))), (5, .own 40 (L s.1)), (6, .d (.i .i64 (i : Int))), (7, .d (.i .u64 (s.2.2 : Int))), (8, .d (.i .i64 (s.2.1 : Int)))]) (h := fun _ => [])
        (I := fun s => Ok s.1 ∧ s.1.length = a.length + b.length + 1 ∧ s.2.2 < 4294967296 ∧ val s.1 + (x * val (b.drop s.2.1) + s.2.2) * 4294967296 ^ (i + s.2.1) = val out + x * val b * 4294967296 ^ i) ?_ (out, 0, 0) ⟨h1, h2, by simp, by simp⟩
      rintro ⟨xs, k, c⟩ ⟨g1, g2, g3, g4⟩ ih2
      dsimp only at g1 g2 g3 g4 ih2 ⊢
      have hTle : val xs + (x * val (b.drop k) + c) * 4294967296 ^ (i + k) ≤ val a * val b := by
        rw [g4, ← h4, hdr, Nat.add_mul, Nat.add_mul]; omega
      refine .mid (fun e H' => H' = [] ∧ i + k < a.length + b.length ∧ e = [(0, .d (.sl (L a))), (1, .d (.sl (L b))), (5, .own 40 (L xs)), (6, .d (.i .i64 (i : Int))), (7, .d (.i .u64 (c : Int))), (8, .d (.i .i64 (k : Int)))]) ?_ ?_
      · refine .seq ?_
        refine .region ?_
        refine mvd ?_
        refine mvd ?_
        refine ln ?_ (L_sz _) l32
        refine bi ?_
        refine mvd ?_
        by_cases hk : k < b.length
        · rw [decide_eq_true (show (k : Int) < ((L b).length : Nat) by rw [L_length]; omega)]
          refine gf ?_
          refine gf ?_
          refine pkd ?_
          refine rn ?_
          refine cndt ?_
          refine .gh (Gh.keep [0, 1, 5, 6, 7, 8] rfl) ?_
          refine .skip ?_
          exact ⟨rfl, by omega, rfl⟩
        · rw [decide_eq_false (show ¬ (k : Int) < ((L b).length : Nat) by rw [L_length]; omega)]
          refine mvd ?_
          refine bi ?_
          refine pkd ?_
          refine rn ?_
          by_cases hc : c = 0
          · subst hc
            refine cndf ?_
            refine .gh (Gh.keep [0, 1, 5, 6] rfl) ?_
            refine .exit ?_
            show AW _ _ _ _ _ _
            rw [List.drop_eq_nil_of_le (by omega)] at g4
            simp only [val, Nat.mul_zero, Nat.zero_mul, Nat.add_zero] at g4
            refine .region ?_
            refine mvd ?_
            refine ad ((i + 1 : Nat) : Int) ?_ ?_
            · omega
            refine asd ?_
            refine rn ?_
            refine .gh (Gh.keep [0, 1, 5, 6] rfl) ?_
            refine ih (xs, i + 1) ⟨g1, g2, by dsimp only; omega, ?_⟩ (by dsimp only; omega)
            dsimp only
            rw [g4, ← h4, hdr, Nat.pow_succ]
            grind
          · rw [decide_eq_true (show (0 : Int) < (c : Int) by omega)]
            have := mul_room hTle rfl hT hc
            refine cndt ?_
            refine .gh (Gh.keep [0, 1, 5, 6, 7, 8] rfl) ?_
            refine .skip ?_
            exact ⟨rfl, this, rfl⟩
      rintro _ _ ⟨rfl, hik, rfl⟩
      have ho : xs[i + k]? = some xs[i + k] := List.getElem?_eq_getElem (by omega)
      generalize xs[i + k] = o at ho
      have hol := g1.at ho
      have hyl := getD_lt hb k
      have hdb := drop_val (b := b) k
      have hlim := limb_fn (a := b) hb (i := k) (by omega)
      generalize b.getD k 0 = y at *
      have hs := s_lt hol hxl hyl g3
      have hset := set_val ho (y := (o + x * y + c) % 4294967296)
      have hstep := mul_step (x := x) (y := y) (c := c) (s := o + x * y + c) (q := (o + x * y + c) / 4294967296) hset rfl (Nat.div_add_mod _ _).symm hdb
      have hxy := u64lt hxl hyl
      refine .seq ?_
      refine .block ?_
      refine .seq ?_
      refine .drawn 19 mixed (by kernel_rfl) ?_
      refine dv vmvo ?_
      refine dv vmvd ?_
      refine dv vmvd ?_
      refine dv (vad ((i + k : Nat) : Int) ?_) ?_
      · omega
      refine dv (vixr (i + k) ?_ ?_ s32 (by decide)) ?_
      · rfl
      · rw [L_length, g2]; omega
      refine dv (vlde (U o) ?_ a32) ?_
      · rw [Nat.zero_add]; exact L_at' ho
      refine dv (vcve (o : Int) (toU64 (by omega)) u32 u64) ?_
      refine dv vmvd ?_
      refine dv vmvd ?_
      refine dv (vix i rfl (L_at hx) rfl s32) ?_
      refine dv (vldp a32) ?_
      refine dv (vcve (x : Int) (toU64 (by omega)) u32 u64) ?_
      refine dv vmvd ?_
      refine dv vmvd ?_
      refine dv (v := .d (.i .u64 (y : Int))) (vcl (xs := [.sl (L b), .i .i64 (k : Int)]) hlim Tryz.call86) ?_
      refine dv (vbie (.i .u64 ((x * y : Nat) : Int)) ?_) ?_
      · exact ⟨trivial, by rw [← Int.natCast_mul, toU64 (by omega)]⟩
      refine dv (vbie (.i .u64 ((o + x * y : Nat) : Int)) ?_) ?_
      · exact ⟨trivial, by rw [← Int.natCast_add, toU64 (by omega)]⟩
      refine dv vmvd ?_
      refine dv (vbie (.i .u64 ((o + x * y + c : Nat) : Int)) ?_) ?_
      · exact ⟨trivial, by rw [← Int.natCast_add, toU64 (by omega)]⟩
      refine dz ?_
      generalize o + x * y + c = s at *
      refine asd ?_
      refine rn ?_
      refine .gh (Gh.keep [0, 1, 5, 6, 7, 8, 9] rfl) ?_
      refine .seq ?_
      refine .region ?_
      refine mvo ?_
      refine mvd ?_
      refine mvd ?_
      refine ad ((i + k : Nat) : Int) ?_ ?_
      · omega
      refine mvd ?_
      refine cve ((s % 4294967296 : Nat) : Int) (wrapU32 _) ?_ u64 u32
      refine ixr (i + k) ?_ ?_ ?_ s32 (by decide)
      · rfl
      · rw [L_length, g2]; omega
      refine ste ?_ ?_ z32
      · rw [Nat.zero_add]; exact L_leaf ho
      refine .nil ?_
      show AW _ _ _ _ _ _
      refine .region ?_
      refine mvd ?_
      refine bie (.i .u64 ((s / 4294967296 : Nat) : Int)) ?_ ?_
      · simp [IntKind.bits]
      refine asd ?_
      refine .nil ?_
      show AW _ _ _ _ _ _
      refine .region ?_
      refine mvd ?_
      refine ad ((k + 1 : Nat) : Int) ?_ ?_
      · omega
      refine asd ?_
      refine rn ?_
      refine .gh (Gh.keep [0, 1, 5, 6, 7, 8] rfl) ?_
      have := ih2 (xs.set (i + k) (s % 4294967296), k + 1, s / 4294967296) ⟨g1.set _ (Nat.mod_lt _ (by decide)), by dsimp only; rw [List.length_set]; exact g2, by dsimp only; omega, ?_⟩ (by dsimp only; omega)
      · dsimp only at this
        rw [← L_set, ← Nat.zero_add (i + k)] at this
        exact this
      · dsimp only
        rw [← g4, ← hstep, show i + (k + 1) = i + k + 1 by omega, Nat.pow_succ]
    · rw [decide_eq_false (show ¬ (i : Int) < ((L a).length : Nat) by rw [L_length]; omega)]
      refine cndf ?_
      refine .gh (Gh.keep [5] rfl) ?_
      refine .exit ?_
      refine ⟨out, rfl, rfl, h1, h2, ?_⟩
      rw [List.drop_eq_nil_of_le (by omega)] at h4
      simpa [val] using h4
  rintro _ _ ⟨out, rfl, rfl, h1, h2, h3⟩
  refine .seq ?_
  refine .region ?_
  refine fz (p := .t 5) ?_
  refine mvd ?_
  refine cl (xs := [.sl (L out)]) ?_ (refTrim_fn h1 (by omega)) Tryz.call70
  rw [h3]
  refine aso ?_
  refine rn ?_
  refine .ret ?_
  exact ⟨rfl, rfl⟩
end Go.FL
/-
  glyphref01: Add, Compare, Minus.
-/
namespace Go.FL
open Go Go.Proofs

theorem add_step {V P x y c A A' B B' s q r : Nat} (hs : s = x + y + c) (hq : s = 4294967296 * q + r) (hA : A = x + 4294967296 * A') (hB : B = y + 4294967296 * B') : (V + P * r) + (A' + B' + q) * (P * 4294967296) = V + (A + B + c) * P := by
  grind
theorem val_snoc (xs : List Nat) (y : Nat) : val (xs ++ [y]) = val xs + 4294967296 ^ xs.length * y := by rw [val_append]; simp [val]
theorem Ok.snoc {xs : List Nat} {y : Nat} (h : Ok xs) (hy : y < 4294967296) : Ok (xs ++ [y]) := h.append (by intro x hx; simp at hx; subst hx; exact hy)
theorem L_snoc (xs : List Nat) (y : Nat) : (L xs).take (L xs).length ++ [DV.i .u32 (y : Int)] = L (xs ++ [y]) := by rw [List.take_length, L_append]; rfl

theorem Add_fn {a b : List Nat} (ha : Ok a) (hb : Ok b) (hla : a.length ≤ 500000) (hlb : b.length ≤ 500000) : Fn Tryz.prog 56 [.sl (L a), .sl (L b)] (.own 40 (L (digs (val a + val b)))) := by
  refine Fn.of (rs := [.tmp 4]) (nt := 43) Tryz.func56 rfl rfl rfl (by simp) rfl ?_
  refine .seq ?_
  refine .region ?_
  refine asn ?_
  refine rn ?_
  refine .seq ?_
  refine .region ?_
  refine asn ?_
  refine rn ?_
  refine .seq ?_
  refine .region ?_
  refine asd ?_
  refine rn ?_
  refine .mid (fun e H' => ∃ out, e = [(5, .own 40 (L out))] ∧ H' = [] ∧ Ok out ∧ out.length ≤ a.length + b.length + 1 ∧ val out = val a + val b) ?_ ?_
  · refine .seq ?_
    refine .region ?_
    refine asd ?_
    refine rn ?_
    refine .block ?_
    refine .gh (Gh.nlOwn (t := 5) 40 z32p rfl) ?_
    refine .loop (.gh (Gh.keep [0, 1, 5, 6, 7] rfl) ?_)
    refine AL.ind (σ := List Nat × Nat) (m := fun s => (a.length + b.length - s.1.length) * 2 + s.2) (e := fun s => [(0, .d (.sl (L a))), (1, .d (.sl (L b))), (5, .own 40 (L s.1)), (6, .d (.i .u64 (s.2 : Int))), (7, .d (.i .i64 (s.1.length : Int)))]) (h := fun _ => [])
      (I := fun s => Ok s.1 ∧ s.2 ≤ 1 ∧ s.1.length + s.2 ≤ a.length + b.length + 1 ∧ val s.1 + (val (a.drop s.1.length) + val (b.drop s.1.length) + s.2) * 4294967296 ^ s.1.length = val a + val b) ?_ ([], 0) ⟨.nil, by simp, by simp, by simp [val]⟩
    rintro ⟨out, c⟩ ⟨h1, h2, h3, h4⟩ ih
    dsimp only at h1 h2 h3 h4 ih ⊢
    refine .mid (fun e H' => H' = [] ∧ (out.length < a.length ∨ out.length < b.length ∨ c = 1) ∧ e = [(0, .d (.sl (L a))), (1, .d (.sl (L b))), (5, .own 40 (L out)), (6, .d (.i .u64 (c : Int))), (7, .d (.i .i64 (out.length : Int)))]) ?_ ?_
    · refine .seq ?_
      refine .region ?_
      refine mvd ?_
      refine mvd ?_
      refine ln ?_ (L_sz _) l32
      refine bi ?_
      refine mvd ?_
      by_cases hA : out.length < a.length
      · rw [decide_eq_true (show (out.length : Int) < ((L a).length : Nat) by rw [L_length]; omega)]
        refine gf ?_
        refine gf ?_
        refine gf ?_
        refine gf ?_
        refine pkd ?_
        refine mvd ?_
        refine gf ?_
        refine gf ?_
        refine pkd ?_
        refine rn ?_
        refine cndt ?_
        refine .gh (Gh.keep [0, 1, 5, 6, 7] rfl) ?_
        refine .skip ?_
        exact ⟨rfl, .inl hA, rfl⟩
      · rw [decide_eq_false (show ¬ (out.length : Int) < ((L a).length : Nat) by rw [L_length]; omega)]
        refine mvd ?_
        refine mvd ?_
        refine ln ?_ (L_sz _) l32
        refine bi ?_
        refine pkd ?_
        refine mvd ?_
        by_cases hB : out.length < b.length
        · rw [decide_eq_true (show (out.length : Int) < ((L b).length : Nat) by rw [L_length]; omega)]
          refine gf ?_
          refine gf ?_
          refine pkd ?_
          refine rn ?_
          refine cndt ?_
          refine .gh (Gh.keep [0, 1, 5, 6, 7] rfl) ?_
          refine .skip ?_
          exact ⟨rfl, .inr (.inl hB), rfl⟩
        · rw [decide_eq_false (show ¬ (out.length : Int) < ((L b).length : Nat) by rw [L_length]; omega)]
          refine mvd ?_
          refine bi ?_
          refine pkd ?_
          refine rn ?_
          by_cases hc : c = 0
          · subst hc
            refine cndf ?_
            refine .gh (Gh.keep [5] rfl) ?_
            refine .exit ?_
            refine ⟨out, rfl, rfl, h1, by omega, ?_⟩
            rw [List.drop_eq_nil_of_le (by omega), List.drop_eq_nil_of_le (by omega)] at h4
            simpa [val] using h4
          · rw [decide_eq_true (show (0 : Int) < (c : Int) by omega)]
            refine cndt ?_
            refine .gh (Gh.keep [0, 1, 5, 6, 7] rfl) ?_
            refine .skip ?_
            exact ⟨rfl, .inr (.inr (by omega)), rfl⟩
    rintro _ _ ⟨rfl, hgo, rfl⟩
    have hxl := getD_lt ha out.length
    have hyl := getD_lt hb out.length
    have hdx := drop_val (b := a) out.length
    have hdy := drop_val (b := b) out.length
    have f1 := limb_fn (a := a) ha (i := out.length) (by omega)
    have f2 := limb_fn (a := b) hb (i := out.length) (by omega)
    have hz : ¬ out.length < a.length → ¬ out.length < b.length → a.getD out.length 0 = 0 ∧ b.getD out.length 0 = 0 := fun h5 h6 => by
      rw [List.getD_eq_getElem?_getD, List.getD_eq_getElem?_getD, List.getElem?_eq_none (by omega), List.getElem?_eq_none (by omega)]; simp
    generalize a.getD out.length 0 = x at *
    generalize b.getD out.length 0 = y at *
    have hstep := add_step (V := val out) (P := 4294967296 ^ out.length) (x := x) (y := y) (c := c) (s := x + y + c) (q := (x + y + c) / 4294967296) (r := (x + y + c) % 4294967296) rfl (Nat.div_add_mod _ _).symm hdx hdy
    refine .seq ?_
    refine .block ?_
    refine .seq ?_
    refine .region ?_
    refine mvd ?_
    refine mvd ?_
    refine cl (xs := [.sl (L a), .i .i64 (out.length : Int)]) ?_ f1 Tryz.call86
    refine mvd ?_
    refine mvd ?_
    refine cl (xs := [.sl (L b), .i .i64 (out.length : Int)]) ?_ f2 Tryz.call86
    refine bie (.i .u64 ((x + y : Nat) : Int)) ?_ ?_
    · exact ⟨trivial, by rw [← Int.natCast_add, toU64 (by omega)]⟩
    refine mvd ?_
    refine bie (.i .u64 ((x + y + c : Nat) : Int)) ?_ ?_
    · exact ⟨trivial, by rw [← Int.natCast_add, toU64 (by omega)]⟩
    refine asd ?_
    refine rn ?_
    have hs2 : x + y + c < 8589934592 := by omega
    have hcz : ¬ out.length < a.length → ¬ out.length < b.length → (x + y + c) / 4294967296 = 0 := fun h5 h6 => by
      obtain ⟨e1, e2⟩ := hz h5 h6
      omega
    generalize x + y + c = s at *
    refine .seq ?_
    refine .region ?_
    refine mvo ?_
    refine mvd ?_
    refine cve ((s % 4294967296 : Nat) : Int) (wrapU32 _) ?_ u64 u32
    refine bsl ?_ ?_ e32
    · simp [DV.flat, DV.cells, DV.leaf]
    refine apr ?_ ?_ (L_sz1 [s % 4294967296]) e32
    · simp [L_length]; omega
    refine aso ?_
    refine rn ?_
    refine .region ?_
    refine mvd ?_
    refine bie (.i .u64 ((s / 4294967296 : Nat) : Int)) ?_ ?_
    · simp [IntKind.bits]
    refine asd ?_
    refine .nil ?_
    show AW _ _ _ _ _ _
    refine .region ?_
    refine mvd ?_
    refine ad ((out.length + 1 : Nat) : Int) ?_ ?_
    · omega
    refine asd ?_
    refine rn ?_
    refine .gh (Gh.keep [0, 1, 5, 6, 7] rfl) ?_
    have := ih (out ++ [s % 4294967296], s / 4294967296) ⟨h1.snoc (Nat.mod_lt _ (by decide)), by dsimp only; omega, ?_, ?_⟩ ?_
    · rw [← L_snoc] at this
      dsimp only at this
      rw [List.length_append] at this
      exact this
    · dsimp only
      rw [List.length_append, List.length_singleton]
      by_cases h5 : out.length < a.length ∨ out.length < b.length
      · omega
      · have := hcz (fun h => h5 (.inl h)) (fun h => h5 (.inr h)); omega
    · dsimp only
      rw [val_snoc, List.length_append, List.length_singleton, Nat.pow_succ, hstep, h4]
    · dsimp only
      rw [List.length_append, List.length_singleton]
      by_cases h5 : out.length < a.length ∨ out.length < b.length
      · omega
      · have := hcz (fun h => h5 (.inl h)) (fun h => h5 (.inr h)); omega
  rintro _ _ ⟨out, rfl, rfl, h1, h2, h3⟩
  refine .seq ?_
  refine .region ?_
  refine fz (p := .t 5) ?_
  refine mvd ?_
  refine cl (xs := [.sl (L out)]) ?_ (refTrim_fn h1 (by omega)) Tryz.call70
  rw [h3]
  refine aso ?_
  refine rn ?_
  refine .ret ?_
  exact ⟨rfl, rfl⟩
end Go.FL
/-
  glyphref01: Compare, Minus.
-/
namespace Go.FL
open Go Go.Proofs

theorem refCompare_fn {a b : List Nat} (ha : Ok a) (hb : Ok b) (hla : a.length ≤ 35184372087808) (hlb : b.length ≤ 35184372087808) : Fn Tryz.prog 55 [.sl (L a), .sl (L b)] (.d (.i .i64 (cmpN (val a) (val b)))) := by
  have dla := Nat.le_trans (digs_len_le ha) hla
  have dlb := Nat.le_trans (digs_len_le hb) hlb
  have va := val_digs (val a)
  have vb := val_digs (val b)
  have oa := digs_ok (val a)
  have ob := digs_ok (val b)
  have lt1 := @digs_lt (val a) (val b)
  have lt2 := @digs_lt (val b) (val a)
  refine Fn.of (rs := [.tmp 4]) (nt := 47) Tryz.func55 rfl rfl rfl (by simp) rfl ?_
  refine .seq ?_
  refine .region ?_
  refine asd ?_
  refine rn ?_
  refine .seq ?_
  refine .region ?_
  refine mvd ?_
  refine cl (xs := [.sl (L a)]) ?_ (refTrim_fn ha (by omega)) Tryz.call70
  refine mvd ?_
  refine cl (xs := [.sl (L b)]) ?_ (refTrim_fn hb (by omega)) Tryz.call70
  refine aso ?_
  refine aso ?_
  refine rn ?_
  refine .gh (Gh.frz (p := .t 5) rfl (fun _ _ h => by cases h)) ?_
  refine .gh (Gh.frz (p := .t 6) rfl (fun _ _ h => by cases h)) ?_
  refine .gh (Gh.keep [5, 6] rfl) ?_
  generalize digs (val a) = xs at *
  generalize digs (val b) = ys at *
  refine .seq ?_
  refine .seq ?_
  refine .region ?_
  refine mvd ?_
  refine ln ?_ (L_sz _) l32
  refine mvd ?_
  refine ln ?_ (L_sz _) l32
  refine bi ?_
  refine rn ?_
  by_cases hlen : xs.length = ys.length
  · have e1 : (!decide (((L xs).length : Int) = ((L ys).length : Int))) = false := by simp [L_length]; omega
    rw [e1]
    refine cndf ?_
    refine .skip ?_
    show AW _ _ _ _ _ _
    refine .seq ?_
    refine .seq ?_
    refine .region ?_
    refine mvd ?_
    refine ln ?_ (L_sz _) l32
    refine su ((xs.length : Int) - 1) ?_ ?_
    · rw [L_length]; omega
    refine asd ?_
    refine rn ?_
    refine .block ?_
    refine .loop (.gh (Gh.keep [5, 6, 7] rfl) ?_)
    refine AL.ind (σ := Nat) (m := fun i => i) (e := fun i => [(5, .d (.sl (L xs))), (6, .d (.sl (L ys))), (7, .d (.i .i64 ((i : Int) - 1)))]) (h := fun _ => [])
      (I := fun i => i ≤ xs.length ∧ xs.drop i = ys.drop i) ?_ xs.length ⟨Nat.le_refl _, by rw [List.drop_of_length_le (Nat.le_refl _), List.drop_of_length_le (by omega)]⟩
    rintro i ⟨h1, h2⟩ ih
    refine .seq ?_
    refine .seq ?_
    refine .region ?_
    refine mvd ?_
    refine bi ?_
    refine rn ?_
    cases i with
    | zero =>
      rw [decide_eq_false (show ¬ (0 : Int) ≤ ((0 : Nat) : Int) - 1 by omega)]
      refine cndf ?_
      refine .exit ?_
      show AW _ _ _ _ _ _
      refine .seq ?_
      refine .region ?_
      refine asd ?_
      refine rn ?_
      refine .ret ?_
      simp only [List.drop_zero] at h2
      subst h2
      exact ⟨by rw [← va, ← vb]; unfold cmpN; rw [if_neg (by omega), if_pos rfl]; rfl, rfl⟩
    | succ i =>
      have hx : xs[i]? = some xs[i] := List.getElem?_eq_getElem (by omega)
      have hy : ys[i]? = some ys[i] := List.getElem?_eq_getElem (by omega)
      have hdx : xs.drop i = xs[i] :: xs.drop (i + 1) := List.drop_eq_getElem_cons (by omega)
      have hdy : ys.drop i = ys[i] :: ys.drop (i + 1) := List.drop_eq_getElem_cons (by omega)
      generalize xs[i] = x at hx hdx
      generalize ys[i] = y at hy hdy
      rw [decide_eq_true (show (0 : Int) ≤ ((i + 1 : Nat) : Int) - 1 by omega)]
      refine cndt ?_
      refine .skip ?_
      show AW _ _ _ _ _ _
      refine .gh (Gh.keep [5, 6, 7] rfl) ?_
      refine .seq ?_
      refine .block ?_
      refine .seq ?_
      refine .seq ?_
      refine .drawn 9 mixed (by kernel_rfl) ?_
      refine dv vmvd ?_
      refine dv vmvd ?_
      refine dv (vix (z := ((i + 1 : Nat) : Int) - 1) i (by omega) (L_at hx) rfl s32) ?_
      refine dv (vldp a32) ?_
      refine dv vmvd ?_
      refine dv vmvd ?_
      refine dv (vix (z := ((i + 1 : Nat) : Int) - 1) i (by omega) (L_at hy) rfl s32) ?_
      refine dv (vldp a32) ?_
      refine dv vbi ?_
      refine dz ?_
      refine rn ?_
      by_cases hlt : x < y
      · rw [decide_eq_true (show (x : Int) < (y : Int) by omega)]
        refine cndt ?_
        refine .seq ?_
        refine .region ?_
        refine asd ?_
        refine rn ?_
        refine .ret ?_
        have := cmp_at oa ob h2 hx hy hlt
        exact ⟨by unfold cmpN; rw [if_pos (by omega)]; rfl, rfl⟩
      · rw [decide_eq_false (show ¬ (x : Int) < (y : Int) by omega)]
        refine cndf ?_
        refine .skip ?_
        show AW _ _ _ _ _ _
        refine .gh (Gh.keep [5, 6, 7] rfl) ?_
        refine .seq ?_
        refine .drawn 9 mixed (by kernel_rfl) ?_
        refine dv vmvd ?_
        refine dv vmvd ?_
        refine dv (vix (z := ((i + 1 : Nat) : Int) - 1) i (by omega) (L_at hx) rfl s32) ?_
        refine dv (vldp a32) ?_
        refine dv vmvd ?_
        refine dv vmvd ?_
        refine dv (vix (z := ((i + 1 : Nat) : Int) - 1) i (by omega) (L_at hy) rfl s32) ?_
        refine dv (vldp a32) ?_
        refine dv vbi ?_
        refine dz ?_
        refine rn ?_
        by_cases hgt : y < x
        · rw [decide_eq_true (show (y : Int) < (x : Int) by omega)]
          refine cndt ?_
          refine .seq ?_
          refine .region ?_
          refine asd ?_
          refine rn ?_
          refine .ret ?_
          have := cmp_at ob oa h2.symm hy hx hgt
          exact ⟨by unfold cmpN; rw [if_neg (by omega), if_neg (by omega)]; rfl, rfl⟩
        · have hxy : x = y := by omega
          subst hxy
          rw [decide_eq_false (show ¬ (x : Int) < (x : Int) by omega)]
          refine cndf ?_
          refine .skip ?_
          show AW _ _ _ _ _ _
          refine .gh (Gh.keep [5, 6, 7] rfl) ?_
          refine .region ?_
          refine mvd ?_
          refine su ((i : Int) - 1) ?_ ?_
          · omega
          refine asd ?_
          refine rn ?_
          refine .gh (Gh.keep [5, 6, 7] rfl) ?_
          exact ih i ⟨by omega, by rw [hdx, hdy, h2]⟩ (by omega)
  · have e1 : (!decide (((L xs).length : Int) = ((L ys).length : Int))) = true := by simp [L_length]; omega
    rw [e1]
    refine cndt ?_
    refine .seq ?_
    refine .seq ?_
    refine .region ?_
    refine mvd ?_
    refine ln ?_ (L_sz _) l32
    refine mvd ?_
    refine ln ?_ (L_sz _) l32
    refine bi ?_
    refine rn ?_
    by_cases hl : xs.length < ys.length
    · have h1 := lt1 hl
      rw [decide_eq_true (show (((L xs).length : Nat) : Int) < ((L ys).length : Nat) by rw [L_length, L_length]; omega)]
      refine cndt ?_
      refine .seq ?_
      refine .region ?_
      refine asd ?_
      refine rn ?_
      refine .ret ?_
      exact ⟨by unfold cmpN; rw [if_pos (by omega)]; rfl, rfl⟩
    · have h1 := lt2 (by omega)
      rw [decide_eq_false (show ¬ (((L xs).length : Nat) : Int) < ((L ys).length : Nat) by rw [L_length, L_length]; omega)]
      refine cndf ?_
      refine .skip ?_
      show AW _ _ _ _ _ _
      refine .seq ?_
      refine .region ?_
      refine asd ?_
      refine rn ?_
      refine .ret ?_
      exact ⟨by unfold cmpN; rw [if_neg (by omega), if_neg (by omega)]; rfl, rfl⟩

theorem sub_step {O P x y c A A' B B' q r : Nat} (hq : x + 4294967296 * q = y + c + r) (hA : A = x + 4294967296 * A') (hB : B = y + 4294967296 * B') {T U : Nat} (h : T + (B + c) * P = U + O + A * P) : T + (B' + q) * (P * 4294967296) = U + (O + P * r) + A' * (P * 4294967296) := by
  grind
/-- What is taken away; nothing, if it would be below nought. -/
def minN (m n : Nat) : Nat := if n ≤ m then m - n else 0
theorem refMinus_fn {a b : List Nat} (ha : Ok a) (hb : Ok b) (hla : a.length ≤ 500000) (hlb : b.length ≤ 500000) : Fn Tryz.prog 54 [.sl (L a), .sl (L b)] (.tup [.d (.sl (L (digs (minN (val a) (val b))))), .d (.b (decide (val b ≤ val a)))]) := by
  refine Fn.of (rs := [.tmp 4, .tmp 5]) (nt := 43) Tryz.func54 rfl rfl rfl (by simp) rfl ?_
  refine .seq ?_
  refine .region ?_
  refine asn ?_
  refine asd ?_
  refine rn ?_
  refine .seq ?_
  refine .seq ?_
  refine .region ?_
  refine mvd ?_
  refine mvd ?_
  refine cl (xs := [.sl (L a), .sl (L b)]) ?_ (refCompare_fn ha hb (by omega) (by omega)) Tryz.call55
  refine bi ?_
  refine rn ?_
  by_cases hlt : val a < val b
  · rw [decide_eq_true (show cmpN (val a) (val b) < 0 by unfold cmpN; rw [if_pos hlt]; decide)]
    refine cndt ?_
    refine .seq ?_
    refine .region ?_
    refine asn ?_
    refine asd ?_
    refine rn ?_
    refine .gh (Gh.nlD (t := 4) rfl) ?_
    refine .ret ?_
    exact ⟨by decide, by rw [decide_eq_false (show ¬ val b ≤ val a by omega), minN, if_neg (by omega), digs_zero]; rfl, rfl, rfl⟩
  · have hle : val b ≤ val a := by omega
    rw [decide_eq_false (show ¬ cmpN (val a) (val b) < 0 by unfold cmpN; rw [if_neg hlt]; split <;> decide)]
    refine cndf ?_
    refine .skip ?_
    show AW _ _ _ _ _ _
    refine .seq ?_
    refine .region ?_
    refine asn ?_
    refine rn ?_
    refine .seq ?_
    refine .region ?_
    refine asd ?_
    refine rn ?_
    refine .mid (fun e H' => ∃ out, e = [(6, .own 40 (L out))] ∧ H' = [] ∧ Ok out ∧ out.length = a.length ∧ val out = val a - val b) ?_ ?_
    · refine .seq ?_
      refine .region ?_
      refine asd ?_
      refine rn ?_
      refine .block ?_
      refine .gh (Gh.nlOwn (t := 6) 40 z32p rfl) ?_
      refine .loop (.gh (Gh.keep [0, 1, 6, 7, 8] rfl) ?_)
      refine AL.ind (σ := List Nat × Nat) (m := fun s => a.length - s.1.length) (e := fun s => [(0, .d (.sl (L a))), (1, .d (.sl (L b))), (6, .own 40 (L s.1)), (7, .d (.i .u64 (s.2 : Int))), (8, .d (.i .i64 (s.1.length : Int)))]) (h := fun _ => [])
        (I := fun s => Ok s.1 ∧ s.2 ≤ 1 ∧ s.1.length ≤ a.length ∧ val a + (val (b.drop s.1.length) + s.2) * 4294967296 ^ s.1.length = val b + val s.1 + val (a.drop s.1.length) * 4294967296 ^ s.1.length) ?_ ([], 0) ⟨.nil, by simp, by simp, by simp [val]; omega⟩
      rintro ⟨out, c⟩ ⟨h1, h2, h3, h4⟩ ih
      dsimp only at h1 h2 h3 h4 ih ⊢
      refine .seq ?_
      refine .seq ?_
      refine .region ?_
      refine mvd ?_
      refine mvd ?_
      refine ln ?_ (L_sz _) l32
      refine bi ?_
      refine rn ?_
      by_cases hA : out.length < a.length
      · rw [decide_eq_true (show (out.length : Int) < ((L a).length : Nat) by rw [L_length]; omega)]
        refine cndt ?_
        refine .skip ?_
        show AW _ _ _ _ _ _
        have hxl := getD_lt ha out.length
        have hyl := getD_lt hb out.length
        have hdx := drop_val (b := a) out.length
        have hdy := drop_val (b := b) out.length
        have f1 := limb_fn (a := a) ha (i := out.length) (by omega)
        have f2 := limb_fn (a := b) hb (i := out.length) (by omega)
        generalize a.getD out.length 0 = x at *
        generalize b.getD out.length 0 = y at *
        refine .seq ?_
        refine .block ?_
        refine .seq ?_
        refine .region ?_
        refine mvd ?_
        refine mvd ?_
        refine cl (xs := [.sl (L a), .i .i64 (out.length : Int)]) ?_ f1 Tryz.call86
        refine mvd ?_
        refine mvd ?_
        refine cl (xs := [.sl (L b), .i .i64 (out.length : Int)]) ?_ f2 Tryz.call86
        refine mvd ?_
        refine bie (.i .u64 ((y + c : Nat) : Int)) ?_ ?_
        · exact ⟨trivial, by rw [← Int.natCast_add, toU64 (by omega)]⟩
        refine asd ?_
        refine asd ?_
        refine rn ?_
        refine .seq ?_
        refine .region ?_
        refine asd ?_
        refine rn ?_
        refine .mid (fun e H' => H' = [] ∧ ∃ q r, x + 4294967296 * q = y + c + r ∧ r < 4294967296 ∧ q ≤ 1 ∧ e = [(0, .d (.sl (L a))), (1, .d (.sl (L b))), (6, .own 40 (L out)), (7, .d (.i .u64 (q : Int))), (8, .d (.i .i64 (out.length : Int))), (9, .d (.i .u64 ((x + 4294967296 * q : Nat) : Int))), (10, .d (.i .u64 ((y + c : Nat) : Int)))]) ?_ ?_
        · refine .seq ?_
          refine .region ?_
          refine mvd ?_
          refine mvd ?_
          refine bi ?_
          refine rn ?_
          by_cases hxy : x < y + c
          · rw [decide_eq_true (show (x : Int) < ((y + c : Nat) : Int) by omega)]
            refine cndt ?_
            refine .seq ?_
            refine .region ?_
            refine mvd ?_
            refine bie (.i .u64 ((x + 4294967296 : Nat) : Int)) ?_ ?_
            · refine ⟨trivial, ?_⟩
              rw [← toU64 (show x + 4294967296 < 18446744073709551616 by omega)]; rfl
            refine asd ?_
            refine rn ?_
            refine .region ?_
            refine asd ?_
            refine RL.gh (Gh.keep [0, 1, 6, 7, 8, 9, 10] rfl) ?_
            refine .nil ?_
            exact ⟨rfl, 1, x + 4294967296 - (y + c), by omega, by omega, by omega, rfl⟩
          · rw [decide_eq_false (show ¬ (x : Int) < ((y + c : Nat) : Int) by omega)]
            refine cndf ?_
            refine .gh (Gh.keep [0, 1, 6, 7, 8, 9, 10] rfl) ?_
            refine .skip ?_
            exact ⟨rfl, 0, x - (y + c), by omega, by omega, by omega, rfl⟩
        rintro _ _ ⟨rfl, q, r, w1, w2, w3, rfl⟩
        have hstep := sub_step w1 hdx hdy h4
        refine .region ?_
        refine mvo ?_
        refine mvd ?_
        refine mvd ?_
        refine bie (.i .u64 (r : Int)) ?_ ?_
        · refine ⟨trivial, ?_⟩
          rw [show ((x + 4294967296 * q : Nat) : Int) - ((y + c : Nat) : Int) = (r : Int) by omega, toU64 (by omega)]
        refine cve (r : Int) (toU32 w2) ?_ u64 u32
        refine bsl ?_ ?_ e32
        · simp [DV.flat, DV.cells, DV.leaf]
        refine apr ?_ ?_ (L_sz1 [r]) e32
        · simp [L_length]; omega
        refine aso ?_
        refine .nil ?_
        show AW _ _ _ _ _ _
        refine .region ?_
        refine mvd ?_
        refine ad ((out.length + 1 : Nat) : Int) ?_ ?_
        · omega
        refine asd ?_
        refine rn ?_
        refine .gh (Gh.keep [0, 1, 6, 7, 8] rfl) ?_
        have := ih (out ++ [r], q) ⟨h1.snoc w2, w3, by simp; omega, ?_⟩ (by simp; omega)
        · rw [← L_snoc] at this
          dsimp only at this
          rw [List.length_append] at this
          exact this
        · dsimp only
          rw [val_snoc, List.length_append, List.length_singleton, Nat.pow_succ]
          exact hstep
      · rw [decide_eq_false (show ¬ (out.length : Int) < ((L a).length : Nat) by rw [L_length]; omega)]
        refine cndf ?_
        refine .gh (Gh.keep [6] rfl) ?_
        refine .exit ?_
        have hlen : out.length = a.length := by omega
        refine ⟨out, rfl, rfl, h1, hlen, ?_⟩
        rw [List.drop_eq_nil_of_le (show a.length ≤ out.length by omega), hlen] at h4
        simp only [val, Nat.zero_mul, Nat.add_zero] at h4
        have hvo := val_lt h1
        rw [hlen] at hvo
        have hz : val (b.drop a.length) + c = 0 := by
          apply Classical.byContradiction
          intro hne
          have : 1 * 4294967296 ^ a.length ≤ (val (b.drop a.length) + c) * 4294967296 ^ a.length := Nat.mul_le_mul_right _ (by omega)
          omega
        rw [hz] at h4
        omega
    rintro _ _ ⟨out, rfl, rfl, h1, h2, h3⟩
    refine .seq ?_
    refine .region ?_
    refine fz (p := .t 6) ?_
    refine mvd ?_
    refine cl (xs := [.sl (L out)]) ?_ (refTrim_fn h1 (by omega)) Tryz.call70
    rw [h3]
    refine aso ?_
    refine asd ?_
    refine rn ?_
    refine .gh (Gh.frz (p := .t 4) rfl (fun _ _ h => by cases h)) ?_
    refine .ret ?_
    exact ⟨by decide, by rw [decide_eq_true hle, minN, if_pos hle]; rfl, rfl, rfl⟩
end Go.FL
/-
  math/bits: Sub32, Add32.
-/
namespace Go.FL
open Go Go.Proofs

theorem w32 (X : BitVec 32) : IntKind.u32.wrap (X.toNat : Int) = X.toNat := wraps_u32 _ (by omega) (by have := X.isLt; omega)
theorem o32 (X : BitVec 32) : BitVec.ofInt IntKind.u32.bits (X.toNat : Int) = X := by
  show BitVec.ofInt 32 (X.toNat : Int) = X
  rw [BitVec.ofInt_natCast, BitVec.ofNat_toNat]; simp
theorem u32_and (X Y : BitVec 32) : bits .and .u32 (X.toNat : Int) (Y.toNat : Int) = ((X &&& Y).toNat : Int) := by
  unfold bits; simp only [o32]; exact w32 _
theorem u32_or (X Y : BitVec 32) : bits .or .u32 (X.toNat : Int) (Y.toNat : Int) = ((X ||| Y).toNat : Int) := by
  unfold bits; simp only [o32]; exact w32 _
theorem u32_xor (X Y : BitVec 32) : bits .xor .u32 (X.toNat : Int) (Y.toNat : Int) = ((X ^^^ Y).toNat : Int) := by
  unfold bits; simp only [o32]; exact w32 _
theorem u32_not (X : BitVec 32) : bits .xor .u32 (if IntKind.u32.signed then -1 else IntKind.u32.max) (X.toNat : Int) = ((~~~X).toNat : Int) := by
  have := u32_xor (BitVec.allOnes 32) X
  rw [BitVec.allOnes_xor] at this
  exact this
theorem u32_sub (X Y : BitVec 32) : IntKind.u32.wrap ((X.toNat : Int) - (Y.toNat : Int)) = ((X - Y).toNat : Int) := by
  simp only [IntKind.wrap, IntKind.bits, IntKind.signed, BitVec.toNat_sub]; simp
  have := X.isLt; have := Y.isLt; omega
theorem u32_top (X : BitVec 32) : (X.toNat : Int) / 2 ^ 31 = if X.msb then 1 else 0 := by
  rw [BitVec.msb_eq_decide]
  have := X.isLt
  by_cases h : 2 ^ (32 - 1) ≤ X.toNat
  · simp [h]; omega
  · simp [h]; omega
theorem sub_top (X Y B : BitVec 32) (hB : B.toNat ≤ 1) : ((~~~X &&& Y) ||| (~~~(X ^^^ Y) &&& (X - Y - B))).msb = decide (X.toNat < Y.toNat + B.toNat) := by
  have hx := X.isLt; have hy := Y.isLt
  simp only [BitVec.msb_or, BitVec.msb_and, BitVec.msb_not, BitVec.msb_xor]
  rw [BitVec.msb_eq_decide X, BitVec.msb_eq_decide Y, BitVec.msb_eq_decide (X - Y - B)]
  simp only [BitVec.toNat_sub]
  by_cases h1 : 2 ^ (32 - 1) ≤ X.toNat <;> by_cases h2 : 2 ^ (32 - 1) ≤ Y.toNat <;> simp [h1, h2] <;> omega
theorem Sub32_fn' (X Y B : BitVec 32) (hB : B.toNat ≤ 1) : Fn Tryz.prog 87 [.i .u32 X.toNat, .i .u32 Y.toNat, .i .u32 B.toNat]
    (.tup [.d (.i .u32 (X - Y - B).toNat), .d (.i .u32 (if decide (X.toNat < Y.toNat + B.toNat) = true then 1 else 0))]) := by
  refine Fn.of (rs := [.tmp 6, .tmp 7]) (nt := 25) Tryz.func87 rfl rfl rfl (by simp) rfl ?_
  refine .seq ?_
  refine .region ?_
  refine asd ?_
  refine asd ?_
  refine rn ?_
  refine .seq ?_
  refine .region ?_
  refine mvd ?_
  refine mvd ?_
  refine bi ?_
  rw [u32_sub]
  refine mvd ?_
  refine bi ?_
  rw [u32_sub]
  refine asd ?_
  refine rn ?_
  refine .seq ?_
  refine .region ?_
  refine mvd ?_
  refine xr ?_
  rw [u32_not]
  refine mvd ?_
  refine bi ?_
  rw [u32_and]
  refine mvd ?_
  refine mvd ?_
  refine bi ?_
  rw [u32_xor]
  refine xr ?_
  rw [u32_not]
  refine mvd ?_
  refine bi ?_
  rw [u32_and]
  refine bi ?_
  rw [u32_or]
  refine bic ?_ ?_
  · decide
  refine asd ?_
  refine rn ?_
  refine .ret ?_
  rw [← sub_top X Y B hB, ← u32_top]
  exact ⟨by decide, rfl, rfl, rfl⟩
theorem Sub32_fn {x y b : Nat} (hx : x < 4294967296) (hy : y < 4294967296) (hb : b ≤ 1) : Fn Tryz.prog 87 [U x, U y, U b]
    (.tup [.d (U ((x + 8589934592 - y - b) % 4294967296)), .d (U (if x < y + b then 1 else 0))]) := by
  have := Sub32_fn' (BitVec.ofNat 32 x) (BitVec.ofNat 32 y) (BitVec.ofNat 32 b) (by simp only [BitVec.toNat_ofNat]; omega)
  have e1 : x % 2 ^ 32 = x := Nat.mod_eq_of_lt hx
  have e2 : y % 2 ^ 32 = y := Nat.mod_eq_of_lt hy
  have e3 : b % 2 ^ 32 = b := Nat.mod_eq_of_lt (by omega)
  simp only [BitVec.toNat_ofNat, BitVec.toNat_sub, e1, e2, e3] at this
  rw [show (2 ^ 32 - b + (2 ^ 32 - y + x) % 2 ^ 32) % 2 ^ 32 = (x + 8589934592 - y - b) % 4294967296 by omega] at this
  by_cases h : x < y + b
  · simp only [h, decide_true, if_true] at this ⊢; exact this
  · simp only [h, decide_false, if_false, Bool.false_eq_true] at this ⊢; exact this
theorem Add32_fn {x y b : Nat} (hx : x < 4294967296) (hy : y < 4294967296) (hb : b < 4294967296) : Fn Tryz.prog 93 [U x, U y, U b]
    (.tup [.d (U ((x + y + b) % 4294967296)), .d (U ((x + y + b) / 4294967296))]) := by
  refine Fn.of (rs := [.tmp 6, .tmp 7]) (nt := 22) Tryz.func93 rfl rfl rfl (by simp) rfl ?_
  refine .seq ?_
  refine .region ?_
  refine asd ?_
  refine asd ?_
  refine rn ?_
  refine .seq ?_
  refine .region ?_
  refine mvd ?_
  refine cve (x : Int) (toU64 (by omega)) ?_ u32 u64
  refine mvd ?_
  refine cve (y : Int) (toU64 (by omega)) ?_ u32 u64
  refine bie (.i .u64 ((x + y : Nat) : Int)) ?_ ?_
  · exact ⟨trivial, by rw [← Int.natCast_add, toU64 (by omega)]⟩
  refine mvd ?_
  refine cve (b : Int) (toU64 (by omega)) ?_ u32 u64
  refine bie (.i .u64 ((x + y + b : Nat) : Int)) ?_ ?_
  · exact ⟨trivial, by rw [← Int.natCast_add, toU64 (by omega)]⟩
  refine asd ?_
  refine rn ?_
  refine .seq ?_
  refine .region ?_
  refine mvd ?_
  refine cve (((x + y + b) % 4294967296 : Nat) : Int) (wrapU32 _) ?_ u64 u32
  refine asd ?_
  refine rn ?_
  refine .seq ?_
  refine .region ?_
  refine mvd ?_
  refine bie (.i .u64 (((x + y + b) / 4294967296 : Nat) : Int)) ?_ ?_
  · simp [IntKind.bits]
  refine cve (((x + y + b) / 4294967296 : Nat) : Int) (toU32 (by omega)) ?_ u64 u32
  refine asd ?_
  refine rn ?_
  refine .ret ?_
  exact ⟨by decide, rfl, rfl, rfl⟩
end Go.FL
/-
  nat.Minus.
-/
namespace Go.FL
open Go Go.Proofs

/-- One limb less another, with what was lent. -/
theorem sub_limb {x y c : Nat} (hx : x < 4294967296) (hy : y < 4294967296) (hc : c ≤ 1) : x + 4294967296 * (if x < y + c then 1 else 0) = y + c + (x + 8589934592 - y - c) % 4294967296 := by
  split <;> omega
theorem subset_step {O O' P x y c A A' B B' q r T U : Nat} (hq : x + 4294967296 * q = y + c + r) (hA : A = x + 4294967296 * A') (hB : B = y + 4294967296 * B') (h : T + (B + c) * P = U + O) (hs : O' + x * P = O + r * P) : T + (B' + q) * (P * 4294967296) = U + O' := by
  grind
theorem Minus_fn {a b : List Nat} (ha : Ok a) (hb : Ok b) (hla : a.length ≤ 500000) (hlb : b.length ≤ 500000) : Fn Tryz.prog 52 [.sl (L a), .sl (L b)] (.tup [.d (.sl (L (digs (minN (val a) (val b))))), .d (.b (decide (val b ≤ val a)))]) := by
  refine Fn.of (rs := [.tmp 4, .tmp 5]) (nt := 47) Tryz.func52 rfl rfl rfl (by simp) rfl ?_
  refine .seq ?_
  refine .region ?_
  refine asn ?_
  refine asd ?_
  refine rn ?_
  refine .seq ?_
  refine .seq ?_
  refine .region ?_
  refine mvd ?_
  refine mvd ?_
  refine cl (xs := [.sl (L a), .sl (L b)]) ?_ (Compare_fn ha hb (by omega) (by omega)) Tryz.call45
  refine bi ?_
  refine rn ?_
  by_cases hlt : val a < val b
  · rw [decide_eq_true (show cmpN (val a) (val b) < 0 by unfold cmpN; rw [if_pos hlt]; decide)]
    refine cndt ?_
    refine .seq ?_
    refine .region ?_
    refine asn ?_
    refine asd ?_
    refine rn ?_
    refine .gh (Gh.nlD (t := 4) rfl) ?_
    refine .ret ?_
    exact ⟨by decide, by rw [decide_eq_false (show ¬ val b ≤ val a by omega), minN, if_neg (by omega), digs_zero]; rfl, rfl, rfl⟩
  · have hle : val b ≤ val a := by omega
    rw [decide_eq_false (show ¬ cmpN (val a) (val b) < 0 by unfold cmpN; rw [if_neg hlt]; split <;> decide)]
    refine cndf ?_
    refine .skip ?_
    show AW _ _ _ _ _ _
    refine .gh (Gh.keep [0, 1, 4, 5] rfl) ?_
    have oa := digs_ok (val a)
    have ob := digs_ok (val b)
    have va := val_digs (val a)
    have vb := val_digs (val b)
    have la := Nat.le_trans (digs_len_le ha) hla
    have lb := Nat.le_trans (digs_len_le hb) hlb
    refine .seq ?_
    refine .region ?_
    refine mvd ?_
    refine cl (xs := [.sl (L a)]) ?_ (Trim_fn ha (by omega)) Tryz.call83
    refine aso ?_
    refine rn ?_
    refine .seq ?_
    refine .region ?_
    refine mvd ?_
    refine cl (xs := [.sl (L b)]) ?_ (cut_val hb (by omega)) Tryz.call82
    refine asd ?_
    refine rn ?_
    generalize digs (val a) = xs at *
    generalize digs (val b) = ys at *
    refine .seq ?_
    refine .region ?_
    refine asd ?_
    refine rn ?_
    refine .mid (fun e H' => ∃ out, e = [(6, .own 40 (L out))] ∧ H' = [] ∧ Ok out ∧ out.length = xs.length ∧ val out = val a - val b) ?_ ?_
    · refine .seq ?_
      refine .region ?_
      refine mvo ?_
      refine lnr ?_ l32
      refine mvd ?_
      refine rn ?_
      refine .block ?_
      refine .loop (.gh (Gh.keep [1, 6, 7, 19, 20] rfl) ?_)
      refine AL.ind (σ := List Nat × Nat × Nat) (m := fun s => xs.length - s.2.1) (e := fun s => [(1, .d (.sl (L ys))), (6, .own 40 (L s.1)), (7, .d (.i .u32 (s.2.2 : Int))), (19, .d (.i .i64 ((L xs).length : Nat))), (20, .d (.i .i64 (s.2.1 : Int)))]) (h := fun _ => [])
        (I := fun s => Ok s.1 ∧ s.1.length = xs.length ∧ s.2.1 ≤ xs.length ∧ s.2.2 ≤ 1 ∧ s.1.drop s.2.1 = xs.drop s.2.1 ∧ val a + (val (ys.drop s.2.1) + s.2.2) * 4294967296 ^ s.2.1 = val b + val s.1) ?_ (xs, 0, 0) ⟨oa, rfl, Nat.zero_le _, by simp, rfl, by simp [va, vb]; omega⟩
      rintro ⟨out, i, c⟩ ⟨h1, h2, h3, h4, h5, h6⟩ ih
      dsimp only at h1 h2 h3 h4 h5 h6 ih ⊢
      refine .seq ?_
      refine .region ?_
      refine bi ?_
      refine rn ?_
      refine .seq ?_
      by_cases hi : i < xs.length
      · rw [decide_eq_true (show (i : Int) < ((L xs).length : Nat) by rw [L_length]; omega)]
        have hx : out[i]? = some out[i] := List.getElem?_eq_getElem (by omega)
        have hdr : out.drop i = out[i] :: out.drop (i + 1) := List.drop_eq_getElem_cons (by omega)
        have hdx : val (out.drop i) = out[i] + 4294967296 * val (out.drop (i + 1)) := by rw [hdr, val]
        have hxl := h1.at hx
        have hyl := getD_lt ob i
        have hdy := drop_val (b := ys) i
        have hy : ∀ h : i < ys.length, ys[i]? = some (ys.getD i 0) := fun h => by rw [List.getD_eq_getElem?_getD, List.getElem?_eq_getElem h]; rfl
        have hy0 : ¬ i < ys.length → ys.getD i 0 = 0 := fun h => by rw [List.getD_eq_getElem?_getD, List.getElem?_eq_none (by omega)]; rfl
        generalize out[i] = x at *
        generalize ys.getD i 0 = y at *
        have f1 := Sub32_fn hxl hyl h4
        have hq := sub_limb hxl hyl h4
        have hq1 : (if x < y + c then 1 else 0) ≤ 1 := by split <;> omega
        have hr1 : (x + 8589934592 - y - c) % 4294967296 < 4294967296 := Nat.mod_lt _ (by decide)
        generalize (if x < y + c then 1 else 0) = q at *
        generalize (x + 8589934592 - y - c) % 4294967296 = r at *
        have hset := set_val hx (y := r)
        have hstep := subset_step hq hdx hdy h6 hset
        refine cndt ?_
        refine .skip ?_
        show AW _ _ _ _ _ _
        refine .seq ?_
        refine .block ?_
        refine .seq ?_
        refine .region ?_
        refine mvd ?_
        refine asd ?_
        refine rn ?_
        refine .seq ?_
        refine .region ?_
        refine asd ?_
        refine rn ?_
        refine .mid (fun e H' => H' = [] ∧ e = [(1, .d (.sl (L ys))), (6, .own 40 (L out)), (7, .d (.i .u32 (c : Int))), (8, .d (.i .i64 (i : Int))), (9, .d (.i .u32 (y : Int))), (19, .d (.i .i64 ((L xs).length : Nat))), (20, .d (.i .i64 (i : Int)))]) ?_ ?_
        · refine .seq ?_
          refine .region ?_
          refine mvd ?_
          refine mvd ?_
          refine ln ?_ (L_sz _) l32
          refine bi ?_
          refine rn ?_
          by_cases hiy : i < ys.length
          · rw [decide_eq_true (show (i : Int) < ((L ys).length : Nat) by rw [L_length]; omega)]
            refine cndt ?_
            refine .region ?_
            refine mvd ?_
            refine mvd ?_
            refine ix i ?_ rfl (L_at (hy hiy)) rfl s32
            refine ldp ?_ a32
            refine asd ?_
            refine RL.gh (Gh.keep [1, 6, 7, 8, 9, 19, 20] rfl) ?_
            refine .nil ?_
            exact ⟨rfl, rfl⟩
          · rw [decide_eq_false (show ¬ (i : Int) < ((L ys).length : Nat) by rw [L_length]; omega)]
            have := hy0 hiy
            subst this
            refine cndf ?_
            refine .gh (Gh.keep [1, 6, 7, 8, 9, 19, 20] rfl) ?_
            refine .skip ?_
            exact ⟨rfl, rfl⟩
        rintro _ _ ⟨rfl, rfl⟩
        refine .region ?_
        refine mvo ?_
        refine mvd ?_
        refine mvo ?_
        refine mvd ?_
        refine ixr i ?_ ?_ ?_ s32 (by decide)
        · rfl
        · rw [L_length, h2]; omega
        refine lde (U x) ?_ ?_ a32
        · rw [Nat.zero_add]; exact L_at' hx
        refine mvd ?_
        refine mvd ?_
        refine cl (xs := [U x, U y, U c]) ?_ f1 Tryz.call87
        refine mvt ?_
        refine ex ?_
        refine ex ?_
        refine ixr i ?_ ?_ ?_ s32 (by decide)
        · rfl
        · rw [L_length, h2]; omega
        refine ste ?_ ?_ z32
        · rw [Nat.zero_add]; exact L_leaf hx
        refine asd ?_
        refine .nil ?_
        show AW _ _ _ _ _ _
        refine .region ?_
        refine ad ((i + 1 : Nat) : Int) ?_ ?_
        · omega
        refine mvd ?_
        refine rn ?_
        refine .gh (Gh.keep [1, 6, 7, 19, 20] rfl) ?_
        have := ih (out.set i r, i + 1, q) ⟨h1.set _ hr1, by dsimp only; rw [List.length_set]; exact h2, by dsimp only; omega, hq1, ?_, ?_⟩ (by dsimp only; omega)
        · dsimp only at this
          have e0 : (L out).set (0 + i) (U r) = L (out.set i r) := by rw [Nat.zero_add, L_set]
          rw [← e0] at this
          exact this
        · dsimp only
          rw [List.drop_set_of_lt (by omega)]
          have e1 : xs.drop (i + 1) = (xs.drop i).drop 1 := by rw [List.drop_drop]
          have e2 : out.drop (i + 1) = (out.drop i).drop 1 := by rw [List.drop_drop]
          rw [e1, e2, h5]
        · dsimp only
          rw [Nat.pow_succ]; exact hstep
      · rw [decide_eq_false (show ¬ (i : Int) < ((L xs).length : Nat) by rw [L_length]; omega)]
        refine cndf ?_
        refine .gh (Gh.keep [6] rfl) ?_
        refine .exit ?_
        have hie : i = xs.length := by omega
        refine ⟨out, rfl, rfl, h1, h2, ?_⟩
        have hvo := val_lt h1
        rw [h2] at hvo
        rw [hie] at h6
        have hz : val (ys.drop xs.length) + c = 0 := by
          apply Classical.byContradiction
          intro hne
          have : 1 * 4294967296 ^ xs.length ≤ (val (ys.drop xs.length) + c) * 4294967296 ^ xs.length := Nat.mul_le_mul_right _ (by omega)
          omega
        rw [hz] at h6
        omega
    rintro _ _ ⟨out, rfl, rfl, h1, h2, h3⟩
    refine .seq ?_
    refine .region ?_
    refine fz (p := .t 6) ?_
    refine mvd ?_
    refine cl (xs := [.sl (L out)]) ?_ (cut_val h1 (by omega)) Tryz.call82
    rw [h3]
    refine asd ?_
    refine asd ?_
    refine rn ?_
    refine .ret ?_
    exact ⟨by decide, by rw [decide_eq_true hle, minN, if_pos hle]; rfl, rfl, rfl⟩
end Go.FL
/-
  nat.take: q times v taken off; and adding it back.
-/
namespace Go.FL
open Go Go.Proofs

theorem take_step {V' V P x r b b' c c' lo q y R : Nat} (hs : V' + x * P = V + r * P) (hl : x + 4294967296 * b' = lo + b + r) (hc : c + q * y = 4294967296 * c' + lo) {F Z : Nat} (ih : F + (q * R + c' + b') * (P * 4294967296) = V' + Z) : F + (q * (y + 4294967296 * R) + c + b) * P = V + Z := by
  grind
theorem take_last {V' V P x r b b' c : Nat} (hs : V' + x * P = V + r * P) (hl : x + 4294967296 * b' = c + b + r) : V' + (0 + c + b) * P = V + b' * (P * 4294967296) := by
  grind
/-- What 'take' leaves, and what it lends. -/
def takeGo (q : Nat) : List Nat → List Nat → Nat → Nat → Nat → List Nat × Nat
  | [], u, c, b, j => (u.set j ((u.getD j 0 + 8589934592 - c % 4294967296 - b) % 4294967296), if u.getD j 0 < c % 4294967296 + b then 1 else 0)
  | y :: r, u, c, b, j => takeGo q r (u.set j ((u.getD j 0 + 8589934592 - (c + q * y) % 4294967296 - b) % 4294967296)) ((c + q * y) / 4294967296) (if u.getD j 0 < (c + q * y) % 4294967296 + b then 1 else 0) (j + 1)
theorem getD_some {u : List Nat} {j : Nat} (h : j < u.length) : u[j]? = some (u.getD j 0) := by
  rw [List.getD_eq_getElem?_getD, List.getElem?_eq_getElem h]; rfl
theorem qy_lt {q y c : Nat} (hq : q < 4294967296) (hy : y < 4294967296) (hc : c < 4294967296) : c + q * y < 18446744073709551616 := by
  have : q * y ≤ 4294967295 * 4294967295 := Nat.mul_le_mul (by omega) (by omega)
  omega
theorem div_B {s : Nat} (h : s < 18446744073709551616) : s / 4294967296 < 4294967296 := by omega
theorem takeGo_val {q : Nat} (hq : q < 4294967296) : ∀ (v u : List Nat) (c b j : Nat), Ok v → Ok u → c < 4294967296 → b ≤ 1 → j + v.length < u.length →
    val (takeGo q v u c b j).1 + (q * val v + c + b) * 4294967296 ^ j = val u + (takeGo q v u c b j).2 * 4294967296 ^ (j + v.length + 1) ∧ Ok (takeGo q v u c b j).1 ∧ (takeGo q v u c b j).2 ≤ 1 ∧
    (takeGo q v u c b j).1.length = u.length ∧ (takeGo q v u c b j).1.take j = u.take j ∧ (takeGo q v u c b j).1.drop (j + v.length + 1) = u.drop (j + v.length + 1)
  | [], u, c, b, j, hv, hu, hc, hb, hj => by
    simp only [takeGo]
    have hx := getD_some (u := u) (j := j) (by simpa using hj)
    have hxl := getD_lt hu j
    rw [Nat.mod_eq_of_lt hc]
    have hl := sub_limb hxl hc hb
    have hset := set_val hx (y := (u.getD j 0 + 8589934592 - c - b) % 4294967296)
    have h1 := take_last hset hl
    refine ⟨?_, hu.set _ (Nat.mod_lt _ (by decide)), by split <;> omega, by simp, ?_, ?_⟩
    · simp only [val, Nat.mul_zero, List.length_nil, Nat.add_zero]
      rw [h1, Nat.pow_succ]
    · rw [List.take_set_of_le (Nat.le_refl _)]
    · rw [List.drop_set_of_lt (by simp)]
  | y :: r, u, c, b, j, hv, hu, hc, hb, hj => by
    simp only [takeGo]
    have hj' : j + r.length + 1 < u.length := by simpa [Nat.add_assoc] using hj
    have hx := getD_some (u := u) (j := j) (by omega)
    have hxl := getD_lt hu j
    have hlo : (c + q * y) % 4294967296 < 4294967296 := Nat.mod_lt _ (by decide)
    have hl := sub_limb hxl hlo hb
    have hq1 : (if u.getD j 0 < (c + q * y) % 4294967296 + b then 1 else 0) ≤ 1 := by split <;> omega
    have hset := set_val hx (y := (u.getD j 0 + 8589934592 - (c + q * y) % 4294967296 - b) % 4294967296)
    have hcy : c + q * y = 4294967296 * ((c + q * y) / 4294967296) + (c + q * y) % 4294967296 := (Nat.div_add_mod _ _).symm
    have hok := hu.set j (x := (u.getD j 0 + 8589934592 - (c + q * y) % 4294967296 - b) % 4294967296) (Nat.mod_lt _ (by decide))
    have hc' := div_B (qy_lt hq hv.head hc)
    generalize (u.getD j 0 + 8589934592 - (c + q * y) % 4294967296 - b) % 4294967296 = rr at *
    generalize (if u.getD j 0 < (c + q * y) % 4294967296 + b then 1 else 0) = b' at *
    generalize u.getD j 0 = x at *
    obtain ⟨i1, i2, i3, i4, i5, i6⟩ := takeGo_val hq r (u.set j rr) ((c + q * y) / 4294967296) b' (j + 1) hv.tail hok hc' hq1 (by rw [List.length_set]; omega)
    generalize takeGo q r (u.set j rr) ((c + q * y) / 4294967296) b' (j + 1) = res at *
    rw [Nat.pow_succ] at i1
    refine ⟨?_, i2, i3, by rw [i4, List.length_set], ?_, ?_⟩
    · rw [val, show j + (y :: r).length + 1 = j + 1 + r.length + 1 by simp; omega]
      exact take_step hset hl hcy i1
    · have := congrArg (List.take j) i5
      rw [List.take_take, List.take_take, Nat.min_eq_left (by omega), List.take_set_of_le (Nat.le_refl _)] at this
      exact this
    · rw [show j + (y :: r).length + 1 = j + 1 + r.length + 1 by simp; omega, i6, List.drop_set_of_lt (by omega)]
theorem takeGo_nil (q : Nat) (u : List Nat) (c b j : Nat) : takeGo q [] u c b j = (u.set j ((u.getD j 0 + 8589934592 - c % 4294967296 - b) % 4294967296), if u.getD j 0 < c % 4294967296 + b then 1 else 0) := rfl
theorem takeGo_cons (q y : Nat) (r u : List Nat) (c b j : Nat) : takeGo q (y :: r) u c b j = takeGo q r (u.set j ((u.getD j 0 + 8589934592 - (c + q * y) % 4294967296 - b) % 4294967296)) ((c + q * y) / 4294967296) (if u.getD j 0 < (c + q * y) % 4294967296 + b then 1 else 0) (j + 1) := rfl
theorem L_set0 (xs : List Nat) (j x : Nat) : (L xs).set (0 + j) (U x) = L (xs.set j x) := by rw [Nat.zero_add, L_set]
theorem take_fn {H : Heap} {u0 v : List Nat} {q at0 : Nat} (hu : Ok u0) (hv : Ok v) (hq : q < 4294967296) (hj : at0 + v.length < u0.length) (hl : u0.length ≤ 1048576) :
    FnG Tryz.prog 92 [.own 40 (L u0), .d (.sl (L v)), .d (.i .u64 (q : Int)), .d (.i .i64 (at0 : Int))] H (.d (U (takeGo q v u0 0 0 at0).2)) [.own 40 (L (takeGo q v u0 0 0 at0).1)] H := by
  refine FnG.of (rs := [.tmp 8]) 1 68 Tryz.func92 rfl rfl rfl (by simp) (by simp) (by simp) ?_
  refine .seq ?_
  refine .region ?_
  refine asd ?_
  refine rn ?_
  refine .seq ?_
  refine .region ?_
  refine asd ?_
  refine asd ?_
  refine rn ?_
  refine .mid (fun e H' => H' = H ∧ ∃ u c b, Ok u ∧ u.length = u0.length ∧ c < 4294967296 ∧ b ≤ 1 ∧ takeGo q v u0 0 0 at0 = takeGo q [] u c b (at0 + v.length) ∧ e = [(0, .own 40 (L u)), (1, .d (.sl (L v))), (3, .d (.i .i64 (at0 : Int))), (9, .d (.i .u64 (c : Int))), (10, .d (.i .u32 (b : Int)))]) ?_ ?_
  · refine .seq ?_
    refine .region ?_
    refine mvd ?_
    refine ln ?_ (L_sz _) l32
    refine mvd ?_
    refine rn ?_
    refine .block ?_
    refine .loop (.gh (Gh.keep [0, 1, 2, 3, 9, 10, 13, 14, 15] rfl) ?_)
    refine AL.ind (σ := Nat × List Nat × Nat × Nat) (m := fun s => v.length - s.1) (e := fun s => [(0, .own 40 (L s.2.1)), (1, .d (.sl (L v))), (2, .d (.i .u64 (q : Int))), (3, .d (.i .i64 (at0 : Int))), (9, .d (.i .u64 (s.2.2.1 : Int))), (10, .d (.i .u32 (s.2.2.2 : Int))), (13, .d (.sl (L v))), (14, .d (.i .i64 ((L v).length : Nat))), (15, .d (.i .i64 (s.1 : Int)))]) (h := fun _ => H)
      (I := fun s => s.1 ≤ v.length ∧ Ok s.2.1 ∧ s.2.1.length = u0.length ∧ s.2.2.1 < 4294967296 ∧ s.2.2.2 ≤ 1 ∧ takeGo q v u0 0 0 at0 = takeGo q (v.drop s.1) s.2.1 s.2.2.1 s.2.2.2 (at0 + s.1)) ?_ (0, u0, 0, 0) ⟨Nat.zero_le _, hu, rfl, by simp, by simp, rfl⟩
    rintro ⟨i, u, c, b⟩ ⟨h1, h2, h3, h4, h5, h6⟩ ih
    dsimp only at h1 h2 h3 h4 h5 h6 ih ⊢
    refine .seq ?_
    refine .region ?_
    refine bi ?_
    refine rn ?_
    refine .seq ?_
    by_cases hi : i < v.length
    · rw [decide_eq_true (show (i : Int) < ((L v).length : Nat) by rw [L_length]; omega)]
      have hy : v[i]? = some v[i] := List.getElem?_eq_getElem hi
      have hdr : v.drop i = v[i] :: v.drop (i + 1) := List.drop_eq_getElem_cons hi
      generalize v[i] = y at hy hdr
      rw [hdr, takeGo_cons] at h6
      have hyl := hv.at hy
      have hx := getD_some (u := u) (j := at0 + i) (by omega)
      have hxl := getD_lt h2 (at0 + i)
      have hlo : (c + q * y) % 4294967296 < 4294967296 := Nat.mod_lt _ (by decide)
      have f1 := Sub32_fn hxl hlo h5
      have hq1 : (if u.getD (at0 + i) 0 < (c + q * y) % 4294967296 + b then 1 else 0) ≤ 1 := by split <;> omega
      have hrr : (u.getD (at0 + i) 0 + 8589934592 - (c + q * y) % 4294967296 - b) % 4294967296 < 4294967296 := Nat.mod_lt _ (by decide)
      have hcs := qy_lt hq hyl h4
      have hc' := div_B hcs
      have hqy : q * y < 18446744073709551616 := by omega
      generalize (u.getD (at0 + i) 0 + 8589934592 - (c + q * y) % 4294967296 - b) % 4294967296 = rr at *
      generalize (if u.getD (at0 + i) 0 < (c + q * y) % 4294967296 + b then 1 else 0) = b' at *
      generalize u.getD (at0 + i) 0 = x at *
      refine cndt ?_
      refine .skip ?_
      show AW _ _ _ _ _ _
      refine .seq ?_
      refine .block ?_
      refine .seq ?_
      refine .region ?_
      refine mvd ?_
      refine ix i ?_ rfl (L_at hy) rfl s32
      refine ldp ?_ a32
      refine asd ?_
      refine asd ?_
      refine rn ?_
      refine .seq ?_
      refine .region ?_
      refine mvd ?_
      refine mvd ?_
      refine mvd ?_
      refine cve (y : Int) (toU64 (by omega)) ?_ u32 u64
      refine bie (.i .u64 ((q * y : Nat) : Int)) ?_ ?_
      · exact ⟨trivial, by rw [← Int.natCast_mul, toU64 hqy]⟩
      refine bie (.i .u64 ((c + q * y : Nat) : Int)) ?_ ?_
      · exact ⟨trivial, by rw [← Int.natCast_add, toU64 hcs]⟩
      refine asd ?_
      refine rn ?_
      refine .gh (Gh.keep [0, 1, 2, 3, 9, 10, 11, 13, 14, 15] rfl) ?_
      generalize c + q * y = s at *
      refine .seq ?_
      refine .region ?_
      refine mvo ?_
      refine mvd ?_
      refine mvd ?_
      refine ad ((at0 + i : Nat) : Int) ?_ ?_
      · omega
      refine mvo ?_
      refine mvd ?_
      refine mvd ?_
      refine ad ((at0 + i : Nat) : Int) ?_ ?_
      · omega
      refine ixr (at0 + i) ?_ ?_ ?_ s32 (by decide)
      · rfl
      · rw [L_length, h3]; omega
      refine lde (U x) ?_ ?_ a32
      · rw [Nat.zero_add]; exact L_at' hx
      refine mvd ?_
      refine cve ((s % 4294967296 : Nat) : Int) (wrapU32 _) ?_ u64 u32
      refine mvd ?_
      refine cl (xs := [U x, U (s % 4294967296), U b]) ?_ f1 Tryz.call87
      refine mvt ?_
      refine ex ?_
      refine ex ?_
      refine ixr (at0 + i) ?_ ?_ ?_ s32 (by decide)
      · rfl
      · rw [L_length, h3]; omega
      refine ste ?_ ?_ z32
      · rw [Nat.zero_add]; exact L_leaf hx
      refine asd ?_
      refine rn ?_
      refine .region ?_
      refine mvd ?_
      refine bie (.i .u64 ((s / 4294967296 : Nat) : Int)) ?_ ?_
      · simp [IntKind.bits]
      refine asd ?_
      refine .nil ?_
      show AW _ _ _ _ _ _
      refine .region ?_
      refine ad ((i + 1 : Nat) : Int) ?_ ?_
      · omega
      refine mvd ?_
      refine rn ?_
      refine .gh (Gh.keep [0, 1, 2, 3, 9, 10, 13, 14, 15] rfl) ?_
      have := ih (i + 1, u.set (at0 + i) rr, s / 4294967296, b') ⟨by dsimp only; omega, h2.set _ hrr, by dsimp only; rw [List.length_set]; exact h3, hc', hq1, h6⟩ (by dsimp only; omega)
      dsimp only at this
      rw [← L_set0] at this
      exact this
    · rw [decide_eq_false (show ¬ (i : Int) < ((L v).length : Nat) by rw [L_length]; omega)]
      refine cndf ?_
      refine .gh (Gh.keep [0, 1, 3, 9, 10] rfl) ?_
      refine .exit ?_
      have hie : i = v.length := by omega
      subst hie
      rw [List.drop_eq_nil_of_le (Nat.le_refl _)] at h6
      exact ⟨rfl, u, c, b, h2, h3, h4, h5, h6, rfl⟩
  rintro _ _ ⟨rfl, u, c, b, h2, h3, h4, h5, h6, rfl⟩
  rw [h6, takeGo_nil, Nat.mod_eq_of_lt h4]
  have hx := getD_some (u := u) (j := at0 + v.length) (by omega)
  have hxl := getD_lt h2 (at0 + v.length)
  have f1 := Sub32_fn hxl h4 h5
  generalize (u.getD (at0 + v.length) 0 + 8589934592 - c - b) % 4294967296 = rr at *
  generalize (if u.getD (at0 + v.length) 0 < c + b then 1 else 0) = b' at *
  generalize u.getD (at0 + v.length) 0 = x at *
  refine .seq ?_
  refine .region ?_
  refine mvo ?_
  refine mvd ?_
  refine mvd ?_
  refine ln ?_ (L_sz _) l32
  refine ad ((at0 + v.length : Nat) : Int) ?_ ?_
  · rw [L_length]; omega
  refine mvo ?_
  refine mvd ?_
  refine mvd ?_
  refine ln ?_ (L_sz _) l32
  refine ad ((at0 + v.length : Nat) : Int) ?_ ?_
  · rw [L_length]; omega
  refine ixr (at0 + v.length) ?_ ?_ ?_ s32 (by decide)
  · rfl
  · rw [L_length, h3]; omega
  refine lde (U x) ?_ ?_ a32
  · rw [Nat.zero_add]; exact L_at' hx
  refine mvd ?_
  refine cve (c : Int) (toU32 h4) ?_ u64 u32
  refine mvd ?_
  refine cl (xs := [U x, U c, U b]) ?_ f1 Tryz.call87
  refine mvt ?_
  refine ex ?_
  refine ex ?_
  refine ixr (at0 + v.length) ?_ ?_ ?_ s32 (by decide)
  · rfl
  · rw [L_length, h3]; omega
  refine ste ?_ ?_ z32
  · rw [Nat.zero_add]; exact L_leaf hx
  refine asd ?_
  refine rn ?_
  refine .seq ?_
  refine .region ?_
  refine mvd ?_
  refine asd ?_
  refine rn ?_
  refine .ret ?_
  refine ⟨⟨[], by simp; rfl⟩, ⟨rfl, rfl⟩, ?_⟩
  intro k cc hk
  cases k with
  | zero =>
    simp at hk; subst hk
    exact ⟨by rw [← L_set0]; rfl, rfl, by simp⟩
  | succ k => simp at hk
end Go.FL
/-
  nat.shifted.
-/
namespace Go.FL
open Go Go.Proofs

/-- Limbs times 2 to n, with what comes from below. -/
def shL (n : Nat) : Nat → List Nat → List Nat
  | c, [] => [c]
  | c, x :: r => (c + x * 2 ^ n % 4294967296) :: shL n (x * 2 ^ n / 4294967296) r
theorem shL_length (n : Nat) : ∀ (a : List Nat) (c : Nat), (shL n c a).length = a.length + 1
  | [], c => rfl
  | x :: r, c => by simp [shL, shL_length n r]
theorem pow32n {n : Nat} (h : n < 32) : 2 ^ n * 2 ^ (32 - n) = 4294967296 := by
  rw [← Nat.pow_add, show n + (32 - n) = 32 by omega]
theorem shl_low {n x : Nat} (h : n < 32) : x * 2 ^ n % 4294967296 = x % 2 ^ (32 - n) * 2 ^ n := by
  rw [← pow32n h, Nat.mul_comm (2 ^ n), Nat.mul_mod_mul_right]
theorem shl_join {n x c : Nat} (h : n < 32) (hc : c < 2 ^ n) : c + x * 2 ^ n % 4294967296 < 4294967296 := by
  rw [shl_low h]
  have h1 : x % 2 ^ (32 - n) < 2 ^ (32 - n) := Nat.mod_lt _ (Nat.two_pow_pos _)
  have h2 : (x % 2 ^ (32 - n) + 1) * 2 ^ n ≤ 2 ^ (32 - n) * 2 ^ n := Nat.mul_le_mul_right _ h1
  have h3 : (2:Nat) ^ (32 - n) * 2 ^ n = 4294967296 := by rw [Nat.mul_comm]; exact pow32n h
  rw [Nat.add_mul] at h2
  omega
theorem shl_high {n x : Nat} (hx : x < 4294967296) : x * 2 ^ n / 4294967296 < 2 ^ n := by
  rw [Nat.div_lt_iff_lt_mul (by decide), Nat.mul_comm]
  exact Nat.mul_lt_mul_of_pos_left hx (Nat.two_pow_pos n)
theorem shL_val {n : Nat} (hn : n < 32) : ∀ (a : List Nat) (c : Nat), Ok a → c < 2 ^ n → val (shL n c a) = c + val a * 2 ^ n ∧ Ok (shL n c a)
  | [], c, h, hc => by
    have : (2:Nat) ^ n ≤ 2 ^ 32 := Nat.pow_le_pow_right (by decide) (by omega)
    exact ⟨by simp [shL, val], .cons (by omega) .nil⟩
  | x :: r, c, h, hc => by
    obtain ⟨a1, a2⟩ := shL_val hn r _ h.tail (shl_high (n := n) h.head)
    refine ⟨?_, .cons (shl_join hn hc) a2⟩
    show (c + x * 2 ^ n % 4294967296) + 4294967296 * val (shL n (x * 2 ^ n / 4294967296) r) = c + (x + 4294967296 * val r) * 2 ^ n
    rw [a1, Nat.add_mul, Nat.mul_add, Nat.mul_assoc]
    omega
theorem u32_join {n x c : Nat} (hn : n < 32) (hc : c < 2 ^ n) : bits .or .u32 (c : Int) ((x * 2 ^ n % 4294967296 : Nat) : Int) = ((c + x * 2 ^ n % 4294967296 : Nat) : Int) := by
  have h1 := shl_join (x := x) hn hc
  rw [bits_join_low .u32 32 (by decide) wraps_u32 n (c : Int) ((x * 2 ^ n % 4294967296 : Nat) : Int) (by omega) (by exact_mod_cast hc) (by omega) (by omega) ?_ (by omega)]
  · omega
  · rw [shl_low hn]; exact_mod_cast Nat.mul_mod_left _ _
theorem shifted_fn {a : List Nat} {n : Nat} (ha : Ok a) (hl : a.length ≤ 1048576) (hn : n < 32) : Fn Tryz.prog 90 [.sl (L a), .i .i64 n] (.own 40 (L (shL n 0 a))) := by
  refine Fn.of (rs := [.tmp 4]) (nt := 41) Tryz.func90 rfl rfl rfl (by simp) rfl ?_
  refine .seq ?_
  refine .region ?_
  refine asn ?_
  refine rn ?_
  refine .seq ?_
  refine .region ?_
  refine mvd ?_
  refine ln ?_ (L_sz _) l32
  refine ad ((a.length + 1 : Nat) : Int) ?_ ?_
  · rw [L_length]; omega
  refine mk (a.length + 1) ⟨rfl, rfl⟩ ?_ ?_ e32 rfl
  · omega
  refine aso ?_
  refine rn ?_
  refine .mid (fun e H' => e = [(5, .own 40 (L (shL n 0 a)))] ∧ H' = []) ?_ ?_
  · refine .seq ?_
    refine .region ?_
    refine mvd ?_
    refine ln ?_ (L_sz _) l32
    refine mvd ?_
    refine rn ?_
    refine .block ?_
    refine .loop (.gh (Gh.keep [1, 5, 13, 14, 15] rfl) ?_)
    refine AL.cast (env' := [(1, .d (.i .i64 n)), (5, .own 40 (L ([] ++ 0 :: List.replicate (a.length - 0) 0))), (13, .d (.sl (L a))), (14, .d (.i .i64 ((L a).length : Nat))), (15, .d (.i .i64 ((0 : Nat) : Int)))]) (by
      have e1 : L ([] ++ 0 :: List.replicate (a.length - 0) 0) = List.replicate (a.length + 1) (U 0) := by simp [L, List.replicate_succ]
      rw [e1]; rfl) ?_
    refine AL.ind (σ := List Nat × Nat × Nat) (m := fun s => a.length - s.2.2) (e := fun s => [(1, .d (.i .i64 n)), (5, .own 40 (L (s.1 ++ s.2.1 :: List.replicate (a.length - s.2.2) 0))), (13, .d (.sl (L a))), (14, .d (.i .i64 ((L a).length : Nat))), (15, .d (.i .i64 (s.2.2 : Int)))]) (h := fun _ => [])
      (I := fun s => s.2.2 ≤ a.length ∧ s.1.length = s.2.2 ∧ s.2.1 < 2 ^ n ∧ s.1 ++ shL n s.2.1 (a.drop s.2.2) = shL n 0 a) ?_ ([], 0, 0) ⟨by simp, rfl, Nat.two_pow_pos n, rfl⟩
    rintro ⟨ps, c, i⟩ ⟨h1, h2, h3, h4⟩ ih
    dsimp only at h1 h2 h3 h4 ih ⊢
    refine .seq ?_
    refine .region ?_
    refine bi ?_
    refine rn ?_
    refine .seq ?_
    by_cases hi : i < a.length
    · rw [decide_eq_true (show (i:Int) < ((L a).length : Nat) by rw [L_length]; omega)]
      have hx : a[i]? = some a[i] := List.getElem?_eq_getElem hi
      have hdr : a.drop i = a[i] :: a.drop (i + 1) := List.drop_eq_getElem_cons hi
      generalize a[i] = x at hx hdr
      have hxl := ha.at hx
      rw [hdr] at h4
      obtain ⟨m, hm⟩ : ∃ m, a.length - i = m + 1 := ⟨a.length - i - 1, by omega⟩
      rw [hm, List.replicate_succ]
      have hz0 : (ps ++ c :: 0 :: List.replicate m 0)[i]? = some c := by
        rw [List.getElem?_append_right (by omega), h2, Nat.sub_self]; rfl
      have hw : x * 2 ^ n < 18446744073709551616 := by
        have : (2:Nat) ^ n ≤ 2 ^ 31 := Nat.pow_le_pow_right (by decide) (by omega)
        have := Nat.mul_le_mul (show x ≤ 4294967295 by omega) this
        omega
      refine cndt ?_
      refine .skip ?_
      show AW _ _ _ _ _ _
      refine .seq ?_
      refine .block ?_
      refine .seq ?_
      refine .region ?_
      refine mvd ?_
      refine ix i ?_ rfl (L_at hx) rfl s32
      refine ldp ?_ a32
      refine asd ?_
      refine asd ?_
      refine rn ?_
      refine .seq ?_
      refine .region ?_
      refine mvd ?_
      refine cve (x : Int) (toU64 (by omega)) ?_ u32 u64
      refine mvd ?_
      refine bie (.i .u64 ((x * 2 ^ n : Nat) : Int)) ?_ ?_
      · refine ⟨by omega, ?_⟩
        have e1 : min ((n:Int).toNat) IntKind.u64.bits = n := by simp [IntKind.bits]; omega
        rw [e1, ← toU64 hw]
        simp
      refine asd ?_
      refine rn ?_
      refine .seq ?_
      refine .region ?_
      refine mvo ?_
      refine mvd ?_
      refine ixr i ?_ ?_ ?_ s32 (by decide)
      · omega
      · rw [L_length]; simp; omega
      refine lde (U c) ?_ ?_ a32
      · rw [Nat.zero_add]; exact L_at' hz0
      refine mvd ?_
      refine cve ((x * 2 ^ n % 4294967296 : Nat) : Int) (wrapU32 _) ?_ u64 u32
      refine bie (U (c + x * 2 ^ n % 4294967296)) ?_ ?_
      · exact ⟨trivial, by rw [u32_join hn h3]; rfl⟩
      refine ixr i ?_ ?_ ?_ s32 (by decide)
      · omega
      · rw [L_length]; simp; omega
      refine ste ?_ ?_ z32
      · rw [Nat.zero_add]; exact L_leaf hz0
      refine rn ?_
      have hs1 : (L (ps ++ c :: 0 :: List.replicate m 0)).set (0 + i) (U (c + x * 2 ^ n % 4294967296)) = L (ps ++ (c + x * 2 ^ n % 4294967296) :: 0 :: List.replicate m 0) := by
        rw [L_set, Nat.zero_add, List.set_append_right _ _ (by omega), h2, Nat.sub_self]; rfl
      have hs2 : (L (ps ++ (c + x * 2 ^ n % 4294967296) :: 0 :: List.replicate m 0)).set (0 + (i + 1)) (U (x * 2 ^ n / 4294967296)) = L ((ps ++ [c + x * 2 ^ n % 4294967296]) ++ (x * 2 ^ n / 4294967296) :: List.replicate m 0) := by
        rw [L_set, Nat.zero_add, List.set_append_right _ _ (by omega), h2, show i + 1 - i = 1 by omega, List.append_assoc]; rfl
      have hz1 : (ps ++ (c + x * 2 ^ n % 4294967296) :: 0 :: List.replicate m 0)[i + 1]? = some 0 := by
        rw [List.getElem?_append_right (by omega), h2, show i + 1 - i = 1 by omega]; rfl
      rw [hs1]
      refine .region ?_
      refine mvo ?_
      refine mvd ?_
      refine ad ((i + 1 : Nat) : Int) ?_ ?_
      · omega
      refine mvd ?_
      refine bie (.i .u64 ((x * 2 ^ n / 4294967296 : Nat) : Int)) ?_ ?_
      · simp [IntKind.bits]
      refine cve ((x * 2 ^ n / 4294967296 : Nat) : Int) (toU32 (by omega)) ?_ u64 u32
      refine ixr (i + 1) ?_ ?_ ?_ s32 (by decide)
      · omega
      · rw [L_length]; simp; omega
      refine ste ?_ ?_ z32
      · rw [Nat.zero_add]; exact L_leaf hz1
      refine .nil ?_
      show AW _ _ _ _ _ _
      refine .region ?_
      refine ad ((i + 1 : Nat) : Int) ?_ ?_
      · omega
      refine mvd ?_
      refine .nil ?_
      refine AL.gh (Gh.keep [1, 5, 13, 14, 15] rfl) ?_
      refine AL.cast (env' := [(1, .d (.i .i64 n)), (5, .own 40 (L ((ps ++ [c + x * 2 ^ n % 4294967296]) ++ (x * 2 ^ n / 4294967296) :: List.replicate (a.length - (i + 1)) 0))), (13, .d (.sl (L a))), (14, .d (.i .i64 ((L a).length : Nat))), (15, .d (.i .i64 ((i + 1 : Nat) : Int)))]) (by rw [show a.length - (i + 1) = m by omega, ← hs2]; rfl) ?_
      refine ih (ps ++ [c + x * 2 ^ n % 4294967296], x * 2 ^ n / 4294967296, i + 1) ⟨by show i + 1 ≤ a.length; omega, by simp [h2], shl_high hxl, ?_⟩ (by show a.length - (i + 1) < a.length - i; omega)
      rw [← h4, List.append_assoc]; rfl
    · rw [decide_eq_false (show ¬ (i:Int) < ((L a).length : Nat) by rw [L_length]; omega)]
      have e1 : a.drop i = [] := List.drop_eq_nil_of_le (by omega)
      rw [e1] at h4
      replace h4 : ps ++ [c] = shL n 0 a := h4
      rw [show a.length - i = 0 by omega]
      refine cndf ?_
      refine .gh (Gh.keep [5] rfl) ?_
      refine .exit ?_
      exact ⟨by rw [← h4]; rfl, rfl⟩
  · rintro _ _ ⟨rfl, rfl⟩
    refine .seq ?_
    refine .region ?_
    refine mvoo ?_
    refine aso ?_
    refine rn ?_
    refine .ret ?_
    exact ⟨rfl, rfl⟩
end Go.FL
/-
  nat.back: the sum.
-/
namespace Go.FL
open Go Go.Proofs

/-- Limbs over 2 to n. -/
def shR (n : Nat) : List Nat → List Nat
  | [] => []
  | x :: r => ((x + r.headD 0 * 4294967296) / 2 ^ n % 4294967296) :: shR n r
theorem val_mod : ∀ (r : List Nat), ∃ k, val r = r.headD 0 + 4294967296 * k
  | [] => ⟨0, rfl⟩
  | _ :: r => ⟨val r, rfl⟩
theorem shR_val {n : Nat} (hn : n < 32) : ∀ (a : List Nat), Ok a → val (shR n a) = val a / 2 ^ n ∧ Ok (shR n a)
  | [], _ => ⟨by simp [shR, val], .nil⟩
  | x :: r, h => by
    obtain ⟨a1, a2⟩ := shR_val hn r h.tail
    refine ⟨?_, .cons (Nat.mod_lt _ (by decide)) a2⟩
    show (x + r.headD 0 * 4294967296) / 2 ^ n % 4294967296 + 4294967296 * val (shR n r) = (x + 4294967296 * val r) / 2 ^ n
    rw [a1]
    obtain ⟨k, hk⟩ := val_mod r
    have hx := h.head
    have hp := pow32n hn
    have h2 : 0 < 2 ^ n := Nat.two_pow_pos n
    have e1 : (x + 4294967296 * val r) / 2 ^ n / 4294967296 = val r / 2 ^ n := by
      rw [Nat.div_div_eq_div_mul, Nat.mul_comm (2 ^ n) 4294967296, ← Nat.div_div_eq_div_mul]
      congr 1
      omega
    have e2 : (x + 4294967296 * val r) / 2 ^ n % 4294967296 = (x + r.headD 0 * 4294967296) / 2 ^ n % 4294967296 := by
      have : x + 4294967296 * val r = x + r.headD 0 * 4294967296 + 2 ^ n * (2 ^ (32 - n) * k * 4294967296) := by
        rw [hk, ← Nat.mul_assoc, ← Nat.mul_assoc, hp]; omega
      rw [this, Nat.add_mul_div_left _ _ h2, Nat.add_mul_mod_self_right]
    have := Nat.mod_add_div ((x + 4294967296 * val r) / 2 ^ n) 4294967296
    rw [e1, e2] at this
    exact this
theorem u64_join_low {x y : Nat} (hx : x < 4294967296) (hy : y < 4294967296) : bits .or .u64 (x : Int) ((y * 4294967296 : Nat) : Int) = ((x + y * 4294967296 : Nat) : Int) := by
  rw [bits_join_low .u64 64 (by decide) wraps_u64 32 (x : Int) ((y * 4294967296 : Nat) : Int) (by omega) (by omega) (by omega) (by omega) (by omega) (by omega)]
  omega
theorem shR_length (n : Nat) : ∀ (a : List Nat), (shR n a).length = a.length
  | [] => rfl
  | x :: r => by simp [shR, shR_length n r]
theorem shR_at (n : Nat) : ∀ (a : List Nat) (i x : Nat), a[i]? = some x → (shR n a)[i]? = some ((x + (a.drop (i + 1)).headD 0 * 4294967296) / 2 ^ n % 4294967296)
  | [], i, x, h => by simp at h
  | y :: r, 0, x, h => by simp at h; subst h; rfl
  | y :: r, i + 1, x, h => by
    have := shR_at n r i x (by simpa using h)
    simpa [shR] using this
end Go.FL
/-
  nat.back: the walk.
-/
namespace Go.FL
open Go Go.Proofs

theorem back_fn {a : List Nat} {n : Nat} (ha : Ok a) (hl : a.length ≤ 1048576) (hn : n < 32) : Fn Tryz.prog 94 [.sl (L a), .i .i64 n] (.d (.sl (L (digs (val a / 2 ^ n))))) := by
  have hv := shR_val hn a ha
  refine Fn.of (rs := [.tmp 4]) (nt := 44) Tryz.func94 rfl rfl rfl (by simp) rfl ?_
  refine .seq ?_
  refine .region ?_
  refine asn ?_
  refine rn ?_
  refine .seq ?_
  refine .region ?_
  refine mvd ?_
  refine cl (xs := [.sl (L a)]) ?_ (clone_fn a (by omega)) Tryz.call60
  refine aso ?_
  refine rn ?_
  refine .mid (fun e H' => e = [(5, .own 40 (L (shR n a)))] ∧ H' = []) ?_ ?_
  · refine .seq ?_
    refine .region ?_
    refine mvo ?_
    refine lnr ?_ l32
    refine mvd ?_
    refine rn ?_
    refine .block ?_
    refine .loop (.gh (Gh.keep [1, 5, 11, 12] rfl) ?_)
    refine AL.ind (σ := Nat) (m := fun i => a.length - i) (e := fun i => [(1, .d (.i .i64 n)), (5, .own 40 (L ((shR n a).take i ++ a.drop i))), (11, .d (.i .i64 ((L a).length : Nat))), (12, .d (.i .i64 (i : Int)))]) (h := fun _ => [])
      (I := fun i => i ≤ a.length) ?_ 0 (Nat.zero_le _)
    intro i h1 ih
    refine .seq ?_
    refine .region ?_
    refine bi ?_
    refine rn ?_
    refine .seq ?_
    by_cases hi : i < a.length
    · rw [decide_eq_true (show (i:Int) < ((L a).length : Nat) by rw [L_length]; omega)]
      have hx : a[i]? = some a[i] := List.getElem?_eq_getElem hi
      have hdr : a.drop i = a[i] :: a.drop (i + 1) := List.drop_eq_getElem_cons hi
      generalize a[i] = x at hx hdr
      have hxl := ha.at hx
      have hsr := shR_at n a i x hx
      have hrl := shR_length n a
      have htl : ((shR n a).take i).length = i := by rw [List.length_take, hrl]; omega
      have hzl : ((shR n a).take i ++ a.drop i).length = a.length := by rw [List.length_append, htl, List.length_drop]; omega
      have hz0 : ((shR n a).take i ++ a.drop i)[i]? = some x := by
        rw [List.getElem?_append_right (by omega), htl, Nat.sub_self, hdr]; rfl
      refine cndt ?_
      refine .skip ?_
      show AW _ _ _ _ _ _
      refine .seq ?_
      refine .block ?_
      refine .seq ?_
      refine .region ?_
      refine mvd ?_
      refine asd ?_
      refine rn ?_
      refine .seq ?_
      refine .region ?_
      refine mvo ?_
      refine mvd ?_
      refine ixr i ?_ ?_ ?_ s32 (by decide)
      · omega
      · rw [L_length, hzl]; omega
      refine lde (U x) ?_ ?_ a32
      · rw [Nat.zero_add]; exact L_at' hz0
      refine cve (x : Int) (toU64 (by omega)) ?_ u32 u64
      refine asd ?_
      refine rn ?_
      refine .mid (fun e H' => H' = [] ∧ e = [(1, .d (.i .i64 n)), (5, .own 40 (L ((shR n a).take i ++ a.drop i))), (6, .d (.i .i64 (i : Int))), (7, .d (.i .u64 ((x + (a.drop (i + 1)).headD 0 * 4294967296 : Nat) : Int))), (11, .d (.i .i64 ((L a).length : Nat))), (12, .d (.i .i64 (i : Int)))]) ?_ ?_
      · refine .seq ?_
        refine .region ?_
        refine mvd ?_
        refine ad ((i + 1 : Nat) : Int) ?_ ?_
        · omega
        refine mvo ?_
        refine lnr ?_ l32
        refine bi ?_
        refine rn ?_
        by_cases hj : i + 1 < a.length
        · have hy : a[i + 1]? = some a[i + 1] := List.getElem?_eq_getElem hj
          have hdr2 : a.drop (i + 1) = a[i + 1] :: a.drop (i + 1 + 1) := List.drop_eq_getElem_cons hj
          generalize a[i + 1] = y at hy hdr2
          have hyl := ha.at hy
          have hz1 : ((shR n a).take i ++ a.drop i)[i + 1]? = some y := by
            rw [List.getElem?_append_right (by omega), htl, show i + 1 - i = 1 by omega, hdr, hdr2]; rfl
          rw [decide_eq_true (show ((i + 1 : Nat) : Int) < ((L ((shR n a).take i ++ a.drop i)).length : Nat) by rw [L_length, hzl]; omega)]
          refine cndt ?_
          refine .region ?_
          refine mvd ?_
          refine mvo ?_
          refine mvd ?_
          refine ad ((i + 1 : Nat) : Int) ?_ ?_
          · omega
          refine ixr (i + 1) ?_ ?_ ?_ s32 (by decide)
          · omega
          · rw [L_length, hzl]; omega
          refine lde (U y) ?_ ?_ a32
          · rw [Nat.zero_add]; exact L_at' hz1
          refine cve (y : Int) (toU64 (by omega)) ?_ u32 u64
          refine bie (.i .u64 ((y * 4294967296 : Nat) : Int)) ?_ ?_
          · refine ⟨by decide, ?_⟩
            rw [← toU64 (show y * 4294967296 < 18446744073709551616 by omega)]; simp [IntKind.bits]
          refine bie (.i .u64 ((x + y * 4294967296 : Nat) : Int)) ?_ ?_
          · exact ⟨trivial, by rw [u64_join_low hxl hyl]⟩
          refine asd ?_
          refine .gh (Gh.keep [1, 5, 6, 7, 11, 12] rfl) ?_
          refine rn ?_
          refine ⟨rfl, ?_⟩
          rw [hdr2]; rfl
        · have e1 : a.drop (i + 1) = [] := List.drop_eq_nil_of_le (by omega)
          rw [decide_eq_false (show ¬ ((i + 1 : Nat) : Int) < ((L ((shR n a).take i ++ a.drop i)).length : Nat) by rw [L_length, hzl]; omega)]
          refine cndf ?_
          refine .gh (Gh.keep [1, 5, 6, 7, 11, 12] rfl) ?_
          refine .skip ?_
          refine ⟨rfl, ?_⟩
          rw [e1]; simp; rfl
      · rintro _ _ ⟨rfl, rfl⟩
        have hw : x + (a.drop (i + 1)).headD 0 * 4294967296 < 18446744073709551616 := by
          have h3 : (a.drop (i + 1)).headD 0 < 4294967296 := by
            cases h4 : a.drop (i + 1) with
            | nil => decide
            | cons y r => exact (ha.drop (i + 1)) y (by rw [h4]; simp)
          omega
        generalize x + (a.drop (i + 1)).headD 0 * 4294967296 = w at hsr hw
        refine .region ?_
        refine mvo ?_
        refine mvd ?_
        refine mvd ?_
        refine mvd ?_
        refine bie (.i .u64 ((w / 2 ^ n : Nat) : Int)) ?_ ?_
        · refine ⟨by omega, ?_⟩
          have e1 : min ((n:Int).toNat) IntKind.u64.bits = n := by simp [IntKind.bits]; omega
          rw [e1]; simp
        refine cve ((w / 2 ^ n % 4294967296 : Nat) : Int) (wrapU32 _) ?_ u64 u32
        refine ixr i ?_ ?_ ?_ s32 (by decide)
        · omega
        · rw [L_length, hzl]; omega
        refine ste ?_ ?_ z32
        · rw [Nat.zero_add]; exact L_leaf hz0
        refine .nil ?_
        show AW _ _ _ _ _ _
        have hset : (L ((shR n a).take i ++ a.drop i)).set (0 + i) (U (w / 2 ^ n % 4294967296)) = L ((shR n a).take (i + 1) ++ a.drop (i + 1)) := by
          rw [L_set, Nat.zero_add, List.set_append_right _ _ (by omega), htl, Nat.sub_self, hdr, List.take_add_one, hsr, List.append_assoc]; rfl
        refine .region ?_
        refine ad ((i + 1 : Nat) : Int) ?_ ?_
        · omega
        refine mvd ?_
        refine .nil ?_
        refine AL.gh (Gh.keep [1, 5, 11, 12] rfl) ?_
        refine AL.cast (env' := [(1, .d (.i .i64 n)), (5, .own 40 (L ((shR n a).take (i + 1) ++ a.drop (i + 1)))), (11, .d (.i .i64 ((L a).length : Nat))), (12, .d (.i .i64 ((i + 1 : Nat) : Int)))]) (by rw [← hset]; rfl) ?_
        exact ih (i + 1) (by show i + 1 ≤ a.length; omega) (by show a.length - (i + 1) < a.length - i; omega)
    · rw [decide_eq_false (show ¬ (i:Int) < ((L a).length : Nat) by rw [L_length]; omega)]
      have e1 : a.drop i = [] := List.drop_eq_nil_of_le (by omega)
      have e2 : (shR n a).take i = shR n a := List.take_of_length_le (by rw [shR_length]; omega)
      rw [e1, e2, List.append_nil]
      refine cndf ?_
      refine .gh (Gh.keep [5] rfl) ?_
      refine .exit ?_
      exact ⟨rfl, rfl⟩
  · rintro _ _ ⟨rfl, rfl⟩
    refine .seq ?_
    refine .region ?_
    refine fz (p := .t 5) ?_
    refine mvd ?_
    refine cl (xs := [.sl (L (shR n a))]) ?_ (cut_val hv.2 (by rw [shR_length]; omega)) Tryz.call82
    refine asd ?_
    refine rn ?_
    refine .ret ?_
    exact ⟨by rw [hv.1]; rfl, rfl⟩
end Go.FL
/-
  nat.guess.
-/
namespace Go.FL
open Go Go.Proofs

/-- The guess: what three limbs over two are, or the greatest limb. -/
def guessQ (u2 u1 u0 v1 v0 : Nat) : Nat := min (((u2 * 4294967296 + u1) * 4294967296 + u0) / (v1 * 4294967296 + v0)) 4294967295
theorem top_lt {u v : Nat} (hu : u < 4294967296) (hv : v < 4294967296) : u * 4294967296 + v < 18446744073709551616 := by omega
theorem top_le {N v1 u2 u1 : Nat} (hN : N = u2 * 4294967296 + u1) (h2 : u2 ≤ v1) (h1 : u1 < 4294967296) : N < v1 * 4294967296 + 4294967296 := by omega
theorem guess_top {N v1 : Nat} (hN : N < v1 * 4294967296 + 4294967296) (g1 : v1 < 4294967296) (hv : 0 < v1) :
    ∃ r, min (N / v1) 4294967295 * v1 + r = N ∧ r < 8589934592 := by
  have hdm := Nat.div_add_mod N v1
  have hml := Nat.mod_lt N hv
  by_cases h : N / v1 ≤ 4294967295
  · rw [Nat.min_eq_left h]
    exact ⟨N % v1, by rw [Nat.mul_comm]; exact hdm, by omega⟩
  · rw [Nat.min_eq_right (by omega)]
    have h3 : v1 * 4294967296 ≤ v1 * (N / v1) := Nat.mul_le_mul_left _ (by omega)
    exact ⟨N - 4294967295 * v1, by omega, by omega⟩
theorem g_up {N M v1 D u0 v0 : Nat} (hM : M = N * 4294967296 + u0) (hD : D = v1 * 4294967296 + v0) (h0 : u0 < 4294967296) (hv : 0 < v1) : M / D ≤ N / v1 := by
  subst hM hD
  have h1 : (N * 4294967296 + u0) / (v1 * 4294967296 + v0) ≤ (N * 4294967296 + u0) / (v1 * 4294967296) := Nat.div_le_div_left (by omega) (by omega)
  have h2 : (N * 4294967296 + u0) / (v1 * 4294967296) = N / v1 := by
    rw [Nat.mul_comm v1, ← Nat.div_div_eq_div_mul]
    congr 1
    omega
  omega
theorem g1_ {q v0 r u0 : Nat} (hq : q ≤ 4294967295) (g0 : v0 < 4294967296) (h : 4294967296 ≤ r) : q * v0 ≤ r * 4294967296 + u0 := by
  have a1 : q * v0 ≤ 4294967295 * 4294967295 := Nat.mul_le_mul hq (by omega)
  omega
theorem g2_ {q v1 r B N u0 v0 : Nat} (hr : q * v1 + r = N) (h1 : q * v0 ≤ r * B + u0) : q * (v1 * B + v0) ≤ N * B + u0 := by
  have e1 : q * (v1 * B + v0) = q * v1 * B + q * v0 := by grind
  have e2 : N * B = q * v1 * B + r * B := by grind
  omega
theorem g3_ {p v1 r B N u0 v0 : Nat} (hr : (p + 1) * v1 + r = N) (h1 : r * B + u0 < (p + 1) * v0) : N * B + u0 < (p + 1) * (v1 * B + v0) := by
  have e1 : (p + 1) * (v1 * B + v0) = (p + 1) * v1 * B + (p + 1) * v0 := by grind
  have e2 : N * B = (p + 1) * v1 * B + r * B := by grind
  omega
theorem guess_end {N M D v1 v0 u0 q r : Nat} (hM : M = N * 4294967296 + u0) (hD : D = v1 * 4294967296 + v0) (hq : q ≤ 4294967295) (hg : min (M / D) 4294967295 ≤ q) (hr : q * v1 + r = N) (g0 : v0 < 4294967296) (hv : 0 < v1) (h : 4294967296 ≤ r ∨ q * v0 ≤ r * 4294967296 + u0) : q = min (M / D) 4294967295 := by
  have h1 : q * v0 ≤ r * 4294967296 + u0 := by
    rcases h with h | h
    · exact g1_ hq g0 h
    · exact h
  have h2 := g2_ (B := 4294967296) hr h1
  rw [← hM, ← hD] at h2
  have h3 : q ≤ M / D := (Nat.le_div_iff_mul_le (by omega)).2 h2
  clear h2 h1 hM hD hr
  omega
theorem guess_step {N M D v1 v0 u0 q r : Nat} (hM : M = N * 4294967296 + u0) (hD : D = v1 * 4294967296 + v0) (hr : q * v1 + r = N) (h : r * 4294967296 + u0 < q * v0) (hv : 0 < v1) : ∃ p, q = p + 1 ∧ min (M / D) 4294967295 ≤ p ∧ p * v1 + (r + v1) = N := by
  cases q with
  | zero => simp at h
  | succ p =>
    have h2 := g3_ (B := 4294967296) hr h
    rw [← hM, ← hD] at h2
    have h3 : M / D < p + 1 := (Nat.div_lt_iff_lt_mul (by omega)).2 h2
    refine ⟨p, rfl, ?_, by grind⟩
    clear h2 hM hD hr h
    omega
theorem u64_shl32 {r : Nat} (h : r < 4294967296) : IntKind.u64.wrap ((r : Int) * 2 ^ (min ((32 : Int).toNat) IntKind.u64.bits)) = ((r * 4294967296 : Nat) : Int) := by
  rw [← toU64 (n := r * 4294967296) (by omega)]; simp [IntKind.bits]
theorem q_v0 {q v0 : Nat} (hq : q ≤ 4294967295) (g0 : v0 < 4294967296) : q * v0 < 18446744073709551616 := by
  have a1 : q * v0 ≤ 4294967295 * 4294967295 := Nat.mul_le_mul hq (by omega)
  omega
theorem guess_fn {u2 u1 u0 v1 v0 : Nat} (h2 : u2 ≤ v1) (h1 : u1 < 4294967296) (h0 : u0 < 4294967296) (g1 : v1 < 4294967296) (g0 : v0 < 4294967296) (hv : 0 < v1) :
    Fn Tryz.prog 91 [U u2, U u1, U u0, U v1, U v0] (.d (.i .u64 (guessQ u2 u1 u0 v1 v0 : Nat))) := by
  have hu2 : u2 < 4294967296 := Nat.lt_of_le_of_lt h2 g1
  have ht := top_lt hu2 h1
  have htl := top_le (N := u2 * 4294967296 + u1) rfl h2 h1
  have hj := u64_join hu2 h1
  have hs := u64_shl32 hu2
  have hgq : guessQ u2 u1 u0 v1 v0 = min (((u2 * 4294967296 + u1) * 4294967296 + u0) / (v1 * 4294967296 + v0)) 4294967295 := rfl
  obtain ⟨N, hN⟩ : ∃ N, N = u2 * 4294967296 + u1 := ⟨_, rfl⟩
  rw [← hN] at ht htl hj hgq
  obtain ⟨M, hM⟩ : ∃ M, M = N * 4294967296 + u0 := ⟨_, rfl⟩
  obtain ⟨D, hD⟩ : ∃ D, D = v1 * 4294967296 + v0 := ⟨_, rfl⟩
  rw [← hM, ← hD] at hgq
  rw [hgq]
  obtain ⟨u2B, hu2B⟩ : ∃ z, z = u2 * 4294967296 := ⟨_, rfl⟩
  rw [← hu2B] at hj hs
  have w1 : IntKind.u64.wrap (u2 : Int) = (u2 : Int) := toU64 (Nat.lt_trans hu2 (by decide))
  have w2 : IntKind.u64.wrap (u1 : Int) = (u1 : Int) := toU64 (Nat.lt_trans h1 (by decide))
  have w3 : IntKind.u64.wrap (v1 : Int) = (v1 : Int) := toU64 (Nat.lt_trans g1 (by decide))
  have w4 : IntKind.u64.wrap (v0 : Int) = (v0 : Int) := toU64 (Nat.lt_trans g0 (by decide))
  have w5 : IntKind.u64.wrap (u0 : Int) = (u0 : Int) := toU64 (Nat.lt_trans h0 (by decide))
  have w6 : IntKind.u64.wrap ((N / v1 : Nat) : Int) = ((N / v1 : Nat) : Int) := toU64 (Nat.lt_of_le_of_lt (Nat.div_le_self _ _) ht)
  obtain ⟨r0, hr0, hr1⟩ := guess_top htl g1 hv
  have hup := g_up hM hD h0 hv
  clear hN hu2B htl
  refine Fn.of (rs := [.tmp 10]) (nt := 52) Tryz.func91 rfl rfl rfl (by simp) rfl ?_
  refine .seq ?_
  refine .region ?_
  refine asd ?_
  refine rn ?_
  refine .seq ?_
  refine .region ?_
  refine mvd ?_
  refine cve (u2 : Int) w1 ?_ u32 u64
  refine bie (.i .u64 (u2B : Int)) ?_ ?_
  · exact ⟨by decide, by rw [hs]⟩
  refine mvd ?_
  refine cve (u1 : Int) w2 ?_ u32 u64
  refine bie (.i .u64 (N : Int)) ?_ ?_
  · exact ⟨trivial, by rw [hj]⟩
  refine asd ?_
  refine rn ?_
  refine .gh (Gh.keep [2, 3, 4, 11] rfl) ?_
  refine .seq ?_
  refine .region ?_
  refine mvd ?_
  refine mvd ?_
  refine cve (v1 : Int) w3 ?_ u32 u64
  refine bie (.i .u64 ((N / v1 : Nat) : Int)) ?_ ?_
  · exact ⟨by omega, by rw [tdiv_nat, w6]⟩
  refine mn ?_
  rw [show (if (4294967295 : Int) < ((N / v1 : Nat) : Int) then (4294967295 : Int) else ((N / v1 : Nat) : Int)) = ((min (N / v1) 4294967295 : Nat) : Int) by
    by_cases h : 4294967295 < N / v1
    · rw [if_pos (by omega), Nat.min_eq_right (by omega)]; rfl
    · rw [if_neg (by omega), Nat.min_eq_left (by omega)]]
  refine asd ?_
  refine rn ?_
  have hq0 : min (N / v1) 4294967295 ≤ 4294967295 := Nat.min_le_right _ _
  have hgq0 : min (M / D) 4294967295 ≤ min (N / v1) 4294967295 := by omega
  generalize min (N / v1) 4294967295 = q0 at *
  have hqv : q0 * v1 ≤ N := by omega
  have hw7 : IntKind.u64.wrap ((q0 : Int) * (v1 : Int)) = ((q0 * v1 : Nat) : Int) := by rw [← Int.natCast_mul, toU64 (Nat.lt_of_le_of_lt hqv ht)]
  have hw8 : IntKind.u64.wrap ((N : Int) - ((q0 * v1 : Nat) : Int)) = (r0 : Int) := by
    rw [show (N : Int) - ((q0 * v1 : Nat) : Int) = (r0 : Int) by omega, toU64 (by omega)]
  refine .seq ?_
  refine .region ?_
  refine mvd ?_
  refine mvd ?_
  refine mvd ?_
  refine cve (v1 : Int) w3 ?_ u32 u64
  refine bie (.i .u64 ((q0 * v1 : Nat) : Int)) ?_ ?_
  · exact ⟨trivial, by rw [hw7]⟩
  refine bie (.i .u64 (r0 : Int)) ?_ ?_
  · exact ⟨trivial, by rw [hw8]⟩
  refine asd ?_
  refine rn ?_
  refine .mid (fun e H' => e = [(12, .d (.i .u64 ((min (M / D) 4294967295 : Nat) : Int)))]) ?_ ?_
  · refine .block ?_
    refine .loop (.gh (Gh.keep [2, 3, 4, 12, 13] rfl) ?_)
    refine AL.ind (σ := Nat × Nat) (m := fun s => s.1) (e := fun s => [(2, .d (U u0)), (3, .d (U v1)), (4, .d (U v0)), (12, .d (.i .u64 (s.1 : Int))), (13, .d (.i .u64 (s.2 : Int)))]) (h := fun _ => [])
      (I := fun s => min (M / D) 4294967295 ≤ s.1 ∧ s.1 ≤ 4294967295 ∧ s.1 * v1 + s.2 = N ∧ s.2 < 8589934592) ?_ (q0, r0) ⟨hgq0, hq0, hr0, hr1⟩
    clear hq0 hgq0 hqv hw7 hw8 hr0 hr1 hup w6
    clear q0 r0
    rintro ⟨q, r⟩ ⟨i1, i2, i3, i4⟩ ih
    dsimp only at i1 i2 i3 i4 ih ⊢
    have fin : (4294967296 ≤ r ∨ q * v0 ≤ r * 4294967296 + u0) → q = min (M / D) 4294967295 := fun h => guess_end hM hD i2 i1 i3 g0 hv h
    refine .seq ?_
    refine .seq ?_
    refine .region ?_
    refine mvd ?_
    refine bi ?_
    refine mvd ?_
    by_cases hr : r < 4294967296
    · rw [decide_eq_true (show (r : Int) < 4294967296 by omega)]
      have hqv0 := q_v0 i2 g0
      have hsr := u64_shl32 hr
      have hjr := u64_join hr h0
      have hst : r * 4294967296 + u0 < q * v0 → ∃ p, q = p + 1 ∧ min (M / D) 4294967295 ≤ p ∧ p * v1 + (r + v1) = N := fun h => guess_step hM hD i3 h hv
      obtain ⟨rB, hrB⟩ : ∃ z, z = r * 4294967296 := ⟨_, rfl⟩
      rw [← hrB] at hsr hjr fin hst
      clear hM hD
      refine mvd ?_
      refine mvd ?_
      refine cve (v0 : Int) w4 ?_ u32 u64
      refine bie (.i .u64 ((q * v0 : Nat) : Int)) ?_ ?_
      · exact ⟨trivial, by rw [← Int.natCast_mul, toU64 hqv0]⟩
      refine mvd ?_
      refine bie (.i .u64 (rB : Int)) ?_ ?_
      · exact ⟨by decide, by rw [hsr]⟩
      refine mvd ?_
      refine cve (u0 : Int) w5 ?_ u32 u64
      refine bie (.i .u64 ((rB + u0 : Nat) : Int)) ?_ ?_
      · exact ⟨trivial, by rw [hjr]⟩
      refine bi ?_
      refine pkd ?_
      refine rn ?_
      by_cases hc : rB + u0 < q * v0
      · rw [decide_eq_true (show ((rB + u0 : Nat) : Int) < ((q * v0 : Nat) : Int) by omega)]
        obtain ⟨p, rfl, j1, j2⟩ := hst hc
        refine cndt ?_
        refine .skip ?_
        show AW _ _ _ _ _ _
        refine .gh (Gh.keep [2, 3, 4, 12, 13] rfl) ?_
        refine .block ?_
        refine .seq ?_
        refine .region ?_
        refine mvd ?_
        refine bie (.i .u64 (p : Int)) ?_ ?_
        · refine ⟨trivial, ?_⟩
          rw [show ((p + 1 : Nat) : Int) - 1 = (p : Int) by omega, toU64 (by omega)]
        refine asd ?_
        refine rn ?_
        refine .region ?_
        refine mvd ?_
        refine mvd ?_
        refine cve (v1 : Int) w3 ?_ u32 u64
        refine bie (.i .u64 ((r + v1 : Nat) : Int)) ?_ ?_
        · exact ⟨trivial, by rw [← Int.natCast_add, toU64 (by omega)]⟩
        refine asd ?_
        refine .nil ?_
        show AL _ _ _ _ _ _
        refine .gh (Gh.keep [2, 3, 4, 12, 13] rfl) ?_
        exact ih (p, r + v1) ⟨j1, by dsimp only; omega, j2, by dsimp only; omega⟩ (by dsimp only; omega)
      · rw [decide_eq_false (show ¬ ((rB + u0 : Nat) : Int) < ((q * v0 : Nat) : Int) by omega)]
        refine cndf ?_
        refine .gh (Gh.keep [12] rfl) ?_
        refine .exit ?_
        show _ = _
        rw [← fin (.inr (by omega))]; rfl
    · rw [decide_eq_false (show ¬ (r : Int) < 4294967296 by omega)]
      refine gf ?_
      refine gf ?_
      refine gf ?_
      refine gf ?_
      refine gf ?_
      refine gf ?_
      refine gf ?_
      refine gf ?_
      refine gf ?_
      refine gf ?_
      refine pkd ?_
      refine rn ?_
      refine cndf ?_
      refine .gh (Gh.keep [12] rfl) ?_
      refine .exit ?_
      show _ = _
      rw [← fin (.inl (by omega))]; rfl
  rintro _ _ rfl
  refine .seq ?_
  refine .region ?_
  refine mvd ?_
  refine asd ?_
  refine rn ?_
  refine .ret ?_
  exact ⟨rfl, rfl⟩
end Go.FL
/-
  glyphref01: Bits, bit, twice.
-/
namespace Go.FL
open Go Go.Proofs

theorem bits_half {t : Nat} (h : t ≠ 0) : bitsN t = 1 + bitsN (t / 2) := by
  by_cases h1 : t = 1
  · subst h1; rw [bitsN_eq (k := 0) (by decide) (by decide)]; simp [bitsN]
  · exact bitsN_shift (m := 1) (by omega)
theorem refBits_fn {a : List Nat} (h : Ok a) (hl : a.length ≤ 1048576) : Fn Tryz.prog 95 [.sl (L a)] (.d (.i .i64 (bitsN (val a) : Nat))) := by
  have hd := digs_len_le h
  refine Fn.of (rs := [.tmp 2]) (nt := 28) Tryz.func95 rfl rfl rfl (by simp) rfl ?_
  refine .seq ?_
  refine .region ?_
  refine asd ?_
  refine rn ?_
  refine .seq ?_
  refine .region ?_
  refine mvd ?_
  refine cl (xs := [.sl (L a)]) ?_ (refTrim_fn h (by omega)) Tryz.call70
  refine aso ?_
  refine rn ?_
  refine .gh (Gh.frz (p := .t 3) rfl (fun _ _ h => by cases h)) ?_
  refine .gh (Gh.keep [3] rfl) ?_
  refine .seq ?_
  refine .seq ?_
  refine .region ?_
  refine mvd ?_
  refine ln ?_ (L_sz _) l32
  refine bi ?_
  refine rn ?_
  by_cases hz : val a = 0
  · rw [hz, digs_zero]
    refine cndt ?_
    refine .seq ?_
    refine .region ?_
    refine asd ?_
    refine rn ?_
    refine .ret ?_
    exact ⟨rfl, rfl⟩
  · obtain ⟨b, x, e1, hx, hb, hxl⟩ := digs_split hz
    have hval : bitsN (val a) = 32 * b.length + bitsN x := by rw [← bitsN_val hb hx, ← e1, val_digs]
    have hlx : bitsN x ≤ 32 := bitsN_iff.2 (by omega)
    rw [e1] at hd ⊢
    simp only [List.length_append, List.length_singleton] at hd
    rw [decide_eq_false (show ¬ ((L (b ++ [x])).length : Int) = 0 by simp [L_length]; omega)]
    refine cndf ?_
    refine .skip ?_
    show AW _ _ _ _ _ _
    refine .seq ?_
    refine .region ?_
    refine mvd ?_
    refine ln ?_ (L_sz _) l32
    refine su (b.length : Int) ?_ ?_
    · simp [L_length]; omega
    refine ml ((32 * b.length : Nat) : Int) ?_ ?_
    · omega
    refine asd ?_
    refine rn ?_
    refine .seq ?_
    refine .seq ?_
    refine .region ?_
    refine mvd ?_
    refine mvd ?_
    refine ln ?_ (L_sz _) l32
    refine su (b.length : Int) ?_ ?_
    · simp [L_length]; omega
    refine ix b.length ?_ rfl (L_at (xs := b ++ [x]) (n := x) (by simp)) rfl s32
    refine ldp ?_ a32
    refine asd ?_
    refine rn ?_
    refine .block ?_
    refine .loop (.gh (Gh.keep [4, 5] rfl) ?_)
    refine AL.ind (σ := Nat × Nat) (m := fun s => s.2) (e := fun s => [(4, .d (.i .i64 (s.1 : Int))), (5, .d (.i .u32 (s.2 : Int)))]) (h := fun _ => [])
      (I := fun s => s.1 + bitsN s.2 = bitsN (val a)) ?_ (32 * b.length, x) hval.symm
    rintro ⟨n, t⟩ h1 ih
    dsimp only at h1 ih ⊢
    refine .seq ?_
    refine .seq ?_
    refine .region ?_
    refine mvd ?_
    refine bi ?_
    refine rn ?_
    by_cases ht : t = 0
    · subst ht
      refine cndf ?_
      refine .exit ?_
      show AW _ _ _ _ _ _
      refine .seq ?_
      refine .region ?_
      refine mvd ?_
      refine asd ?_
      refine rn ?_
      refine .ret ?_
      have : n = bitsN (val a) := by rw [← h1]; simp [bitsN]
      exact ⟨by rw [← this]; rfl, rfl⟩
    · rw [decide_eq_true (show (0 : Int) < (t : Int) by omega)]
      have hsh : bitsN t = 1 + bitsN (t / 2) := bits_half ht
      refine cndt ?_
      refine .skip ?_
      show AW _ _ _ _ _ _
      refine .seq ?_
      refine .block ?_
      refine .region ?_
      refine mvd ?_
      refine ad ((n + 1 : Nat) : Int) ?_ ?_
      · omega
      refine asd ?_
      refine .nil ?_
      show AW _ _ _ _ _ _
      refine .region ?_
      refine mvd ?_
      refine bie (.i .u32 ((t / 2 : Nat) : Int)) ?_ ?_
      · simp [IntKind.bits]
      refine asd ?_
      refine rn ?_
      refine .gh (Gh.keep [4, 5] rfl) ?_
      exact ih (n + 1, t / 2) (by dsimp only; omega) (by dsimp only; omega)

theorem twice_step {V P x c A A' q r : Nat} (hq : 2 * x + c = 4294967296 * q + r) (hA : A = x + 4294967296 * A') : (V + P * r) + (2 * A' + q) * (P * 4294967296) = V + (2 * A + c) * P := by
  grind
theorem or_low {x c : Nat} (hc : c ≤ 1) : bits .or .u32 ((x * 2 % 4294967296 : Nat) : Int) (c : Int) = ((x * 2 % 4294967296 + c : Nat) : Int) := by
  rw [bits_join .u32 32 (by decide) wraps_u32 1 _ _ (by omega) (by omega) (by omega) (by omega) (by omega) (by omega)]
  omega
theorem twice_fn {a : List Nat} {c0 : Nat} (ha : Ok a) (hl : a.length ≤ 1000000) (hc0 : c0 ≤ 1) : Fn Tryz.prog 96 [.sl (L a), .i .u32 (c0 : Int)] (.own 40 (L (digs (2 * val a + c0)))) := by
  refine Fn.of (rs := [.tmp 4]) (nt := 35) Tryz.func96 rfl rfl rfl (by simp) rfl ?_
  refine .seq ?_
  refine .region ?_
  refine asn ?_
  refine rn ?_
  refine .seq ?_
  refine .region ?_
  refine asn ?_
  refine rn ?_
  refine .seq ?_
  refine .region ?_
  refine mvd ?_
  refine asd ?_
  refine rn ?_
  refine .mid (fun e H' => ∃ out c, e = [(5, .own 40 (L out)), (6, .d (.i .u32 (c : Nat)))] ∧ H' = [] ∧ Ok out ∧ c ≤ 1 ∧ out.length = a.length ∧ val (out ++ [c]) = 2 * val a + c0) ?_ ?_
  · refine .seq ?_
    refine .region ?_
    refine asd ?_
    refine rn ?_
    refine .block ?_
    refine .gh (Gh.nlOwn (t := 5) 40 z32p rfl) ?_
    refine .loop (.gh (Gh.keep [0, 5, 6, 7] rfl) ?_)
    refine AL.ind (σ := List Nat × Nat) (m := fun s => a.length - s.1.length) (e := fun s => [(0, .d (.sl (L a))), (5, .own 40 (L s.1)), (6, .d (.i .u32 (s.2 : Int))), (7, .d (.i .i64 (s.1.length : Int)))]) (h := fun _ => [])
      (I := fun s => Ok s.1 ∧ s.2 ≤ 1 ∧ s.1.length ≤ a.length ∧ val s.1 + (2 * val (a.drop s.1.length) + s.2) * 4294967296 ^ s.1.length = 2 * val a + c0) ?_ ([], c0) ⟨.nil, hc0, by simp, by simp [val]⟩
    rintro ⟨out, c⟩ ⟨h1, h2, h3, h4⟩ ih
    dsimp only at h1 h2 h3 h4 ih ⊢
    refine .seq ?_
    refine .seq ?_
    refine .region ?_
    refine mvd ?_
    refine mvd ?_
    refine ln ?_ (L_sz _) l32
    refine bi ?_
    refine rn ?_
    by_cases hA : out.length < a.length
    · rw [decide_eq_true (show (out.length : Int) < ((L a).length : Nat) by rw [L_length]; omega)]
      have hx : a[out.length]? = some a[out.length] := List.getElem?_eq_getElem hA
      have hdx : val (a.drop out.length) = a[out.length] + 4294967296 * val (a.drop (out.length + 1)) := by rw [List.drop_eq_getElem_cons hA, val]
      generalize a[out.length] = x at hx hdx
      have hxl := ha.at hx
      have hstep := twice_step (V := val out) (P := 4294967296 ^ out.length) (x := x) (c := c) (q := x / 2147483648) (r := x * 2 % 4294967296 + c) (by omega) hdx
      refine cndt ?_
      refine .skip ?_
      show AW _ _ _ _ _ _
      refine .seq ?_
      refine .block ?_
      refine .seq ?_
      refine .region ?_
      refine mvo ?_
      refine mvd ?_
      refine mvd ?_
      refine ix out.length ?_ rfl (L_at hx) rfl s32
      refine ldp ?_ a32
      refine bie (.i .u32 ((x * 2 % 4294967296 : Nat) : Int)) ?_ ?_
      · refine ⟨by decide, ?_⟩
        rw [← wrapU32]; simp [IntKind.bits]
      refine mvd ?_
      refine bie (.i .u32 ((x * 2 % 4294967296 + c : Nat) : Int)) ?_ ?_
      · exact ⟨trivial, by rw [or_low h2]⟩
      refine bsl ?_ ?_ e32
      · simp [DV.flat, DV.cells, DV.leaf]
      refine apr ?_ ?_ (L_sz1 [x * 2 % 4294967296 + c]) e32
      · simp [L_length]; omega
      refine aso ?_
      refine rn ?_
      refine .region ?_
      refine mvd ?_
      refine mvd ?_
      refine ix out.length ?_ rfl (L_at hx) rfl s32
      refine ldp ?_ a32
      refine bie (.i .u32 ((x / 2147483648 : Nat) : Int)) ?_ ?_
      · simp [IntKind.bits]
      refine asd ?_
      refine .nil ?_
      show AW _ _ _ _ _ _
      refine .region ?_
      refine mvd ?_
      refine ad ((out.length + 1 : Nat) : Int) ?_ ?_
      · omega
      refine asd ?_
      refine rn ?_
      refine .gh (Gh.keep [0, 5, 6, 7] rfl) ?_
      have := ih (out ++ [x * 2 % 4294967296 + c], x / 2147483648) ⟨h1.snoc (by omega), by dsimp only; omega, by simp; omega, ?_⟩ (by simp; omega)
      · rw [← L_snoc] at this
        dsimp only at this
        rw [List.length_append] at this
        exact this
      · dsimp only
        rw [val_snoc, List.length_append, List.length_singleton, Nat.pow_succ, hstep, h4]
    · rw [decide_eq_false (show ¬ (out.length : Int) < ((L a).length : Nat) by rw [L_length]; omega)]
      refine cndf ?_
      refine .gh (Gh.keep [5, 6] rfl) ?_
      refine .exit ?_
      refine ⟨out, c, rfl, rfl, h1, h2, by omega, ?_⟩
      rw [List.drop_eq_nil_of_le (by omega)] at h4
      rw [val_snoc, Nat.mul_comm, ← h4]
      simp [val]
  rintro _ _ ⟨out, c, rfl, rfl, h1, h2, h3, h4⟩
  refine .seq ?_
  refine .region ?_
  refine mvo ?_
  refine mvd ?_
  refine bsl ?_ ?_ e32
  · simp [DV.flat, DV.cells, DV.leaf]
  refine apr ?_ ?_ (L_sz1 [c]) e32
  · simp [L_length]; omega
  refine fz (p := .t 33) ?_
  have f1 := refTrim_fn (a := out ++ [c]) (h1.snoc (by omega)) (by simp; omega)
  rw [h4, ← L_snoc] at f1
  refine cl (xs := [.sl ((L out).take (L out).length ++ [DV.i .u32 (c : Int)])]) ?_ f1 Tryz.call70
  refine aso ?_
  refine rn ?_
  refine .ret ?_
  exact ⟨rfl, rfl⟩

theorem bit_val {a : List Nat} {j k x : Nat} (h : Ok a) (hx : a[j]? = some x) (hk : k < 32) : val a / 2 ^ (32 * j + k) % 2 = x / 2 ^ k % 2 := by
  have hj : j < a.length := (List.getElem?_eq_some_iff.1 hx).1
  have ex : a = a.take j ++ x :: a.drop (j + 1) := by
    rw [← (List.getElem?_eq_some_iff.1 hx).2, ← List.drop_eq_getElem_cons hj, List.take_append_drop]
  have lx : (a.take j).length = j := by rw [List.length_take]; omega
  have vx := val_lt (h.take j)
  rw [lx] at vx
  have hv : val a = val (a.take j) + 4294967296 ^ j * (x + 4294967296 * val (a.drop (j + 1))) := by
    conv => lhs; rw [ex]
    rw [val_append, lx]; rfl
  have hp : 2 ^ (32 * j) = 4294967296 ^ j := by rw [Nat.pow_mul]
  rw [hv, Nat.pow_add, hp, ← Nat.div_div_eq_div_mul, Nat.add_mul_div_left _ _ (Nat.pow_pos (by decide)), Nat.div_eq_of_lt vx, Nat.zero_add]
  have h32 : 4294967296 = 2 ^ k * (2 * 2 ^ (31 - k)) := by rw [← Nat.mul_assoc, ← Nat.pow_succ, ← Nat.pow_add]; rw [show k.succ + (31 - k) = 32 by omega]
  rw [show x + 4294967296 * val (a.drop (j + 1)) = x + 2 ^ k * (2 * (2 ^ (31 - k) * val (a.drop (j + 1)))) by
    conv => lhs; rw [h32]
    simp only [Nat.mul_assoc]]
  rw [Nat.add_mul_div_left _ _ (Nat.pow_pos (by decide))]
  omega
theorem u32_and1 (m : Nat) (h : m < 4294967296) : bits .and .u32 (m : Int) 1 = ((m % 2 : Nat) : Int) := by
  have := bits_mask .u32 32 (by decide) wraps_u32 1 (by decide) (m : Int) (by omega) (by omega)
  rw [show (2 : Int) ^ 1 - 1 = 1 by decide] at this
  rw [this]; simp
theorem tdiv32 (n : Nat) : Int.tdiv (n : Int) 32 = ((n / 32 : Nat) : Int) := rfl
theorem tmod32 (n : Nat) : Int.tmod (n : Int) 32 = ((n % 32 : Nat) : Int) := rfl
theorem bit_fn {a : List Nat} {i : Nat} (ha : Ok a) (hl : a.length ≤ 1048576) (hi : i < 32 * a.length) : Fn Tryz.prog 97 [.sl (L a), .i .i64 (i : Int)] (.d (.i .u32 ((val a / 2 ^ i % 2 : Nat) : Int))) := by
  have hj : i / 32 < a.length := by omega
  have hx : a[i / 32]? = some a[i / 32] := List.getElem?_eq_getElem hj
  have hb := bit_val (k := i % 32) ha hx (by omega)
  rw [show 32 * (i / 32) + i % 32 = i by omega] at hb
  rw [hb]
  generalize a[i / 32] = x at *
  have hxl := ha.at hx
  have hxk : x / 2 ^ (i % 32) ≤ x := Nat.div_le_self _ _
  refine Fn.of (rs := [.tmp 4]) (nt := 14) Tryz.func97 rfl rfl rfl (by simp) rfl ?_
  refine .seq ?_
  refine .region ?_
  refine asd ?_
  refine rn ?_
  refine .seq ?_
  refine .region ?_
  refine mvd ?_
  refine mvd ?_
  refine bie (.i .i64 ((i / 32 : Nat) : Int)) ?_ ?_
  · refine ⟨by decide, ?_⟩
    rw [tdiv32, wraps_i64 _ (by omega) (by omega)]
  refine ix (i / 32) ?_ rfl (L_at hx) rfl s32
  refine ldp ?_ a32
  refine mvd ?_
  refine bie (.i .i64 ((i % 32 : Nat) : Int)) ?_ ?_
  · exact ⟨by decide, by rw [tmod32]⟩
  refine bie (.i .u32 ((x / 2 ^ (i % 32) : Nat) : Int)) ?_ ?_
  · refine ⟨by omega, ?_⟩
    have e1 : min (((i % 32 : Nat) : Int).toNat) IntKind.u32.bits = i % 32 := by simp [IntKind.bits]; omega
    rw [e1]; simp
  refine bie (.i .u32 ((x / 2 ^ (i % 32) % 2 : Nat) : Int)) ?_ ?_
  · exact ⟨trivial, by rw [u32_and1 _ (by omega)]⟩
  refine asd ?_
  refine rn ?_
  refine .ret ?_
  exact ⟨rfl, rfl⟩
end Go.FL
/-
  nat.Power.
-/
namespace Go.FL
open Go Go.Proofs

theorem digs_mono {m n : Nat} (h : m ≤ n) : (digs m).length ≤ (digs n).length := by
  have h2 := val_lt (digs_ok n)
  rw [val_digs] at h2
  exact digs_len (by omega)
theorem i64_and1 (m : Nat) (h : m < 9223372036854775808) : bits .and .i64 (m : Int) 1 = ((m % 2 : Nat) : Int) := by
  have := bits_mask .i64 63 (by decide) wraps_i64 1 (by decide) (m : Int) (by omega) (by omega)
  rw [show (2 : Int) ^ 1 - 1 = 1 by decide] at this
  rw [this]; simp
theorem i64_shr1 (m : Nat) : (m : Int) / 2 ^ (min ((1 : Int).toNat) IntKind.i64.bits) = ((m / 2 : Nat) : Int) := by
  simp [IntKind.bits]
/-- A power, if it has at most so many limbs. -/
def pwOK (a n most : Nat) : Prop := (digs (a ^ n)).length ≤ most
instance (a n most : Nat) : Decidable (pwOK a n most) := inferInstanceAs (Decidable (_ ≤ _))
def pwV (a n most : Nat) : Nat := if pwOK a n most then a ^ n else 0
theorem pow_half {A m : Nat} : A ^ m = A ^ (m % 2) * (A * A) ^ (m / 2) := by
  rw [← Nat.pow_two, ← Nat.pow_mul, ← Nat.pow_add]
  congr 1; omega
theorem Power_fn {a : List Nat} (h : Ok a) (hl : a.length ≤ 1000) {n most : Nat} (hn : n < 9223372036854775808) (hm : most ≤ 1000) : Fn Tryz.prog 36 [.sl (L a), .i .i64 (n : Int), .i .i64 (most : Int)]
    (.tup [.d (.sl (L (digs (pwV (val a) n most)))), .d (.b (decide (pwOK (val a) n most)))]) := by
  refine Fn.of (rs := [.tmp 6, .tmp 7]) (nt := 42) Tryz.func36 rfl rfl rfl (by simp) rfl ?_
  refine .seq ?_
  refine .region ?_
  refine asn ?_
  refine asd ?_
  refine rn ?_
  refine .seq ?_
  refine .region ?_
  refine mvd ?_
  refine cl (xs := [.sl (L a)]) ?_ (Trim_fn h (by omega)) Tryz.call83
  refine aso ?_
  refine rn ?_
  have hdl : (digs (val a)).length ≤ 1000 := Nat.le_trans (digs_len_le h) hl
  refine .gh (Gh.frz (p := .t 0) rfl (fun _ _ h => by cases h)) ?_
  refine .gh (Gh.keep [0, 1, 2, 6, 7] rfl) ?_
  generalize val a = V at *
  clear h hl
  refine .seq ?_
  refine .seq ?_
  refine .region ?_
  refine mvd ?_
  refine bi ?_
  refine rn ?_
  rw [decide_eq_false (show ¬ (n : Int) < 0 by omega)]
  refine cndf ?_
  refine .skip ?_
  show AW _ _ _ _ _ _
  refine .seq ?_
  refine .region ?_
  refine bsl ?_ ?_ e32
  · simp [DV.flat, DV.cells, DV.leaf]
  refine aso ?_
  refine rn ?_
  refine .gh (Gh.frz (p := .t 8) rfl (fun _ _ h => by cases h)) ?_
  have fail : ∀ {W : Nat}, V ≠ 0 → W ≤ V ^ n → most < (digs W).length → ¬ pwOK V n most := fun hV hW hd hp => by
    have := digs_mono hW
    unfold pwOK at hp; omega
  refine .mid (fun e H' => H' = [] ∧ e = [(2, .d (.i .i64 (most : Int))), (8, .d (.sl (L (digs (V ^ n)))))]) ?_ ?_
  · refine .block ?_
    refine .loop (.gh (Gh.keep [0, 1, 2, 6, 7, 8] rfl) ?_)
    refine AL.cast (env' := [(0, .d (.sl (L (digs V)))), (1, .d (.i .i64 ((n : Nat) : Int))), (2, .d (.i .i64 (most : Int))), (6, .nl), (7, .d (.b false)), (8, .d (.sl (L (digs 1))))]) (by rw [one_limb (n := 1) (by decide) (by decide)]; rfl) ?_
    refine AL.ind (σ := Nat × Nat × Nat) (m := fun s => s.2.2) (e := fun s => [(0, .d (.sl (L (digs s.1)))), (1, .d (.i .i64 (s.2.2 : Int))), (2, .d (.i .i64 (most : Int))), (6, .nl), (7, .d (.b false)), (8, .d (.sl (L (digs s.2.1))))]) (h := fun _ => [])
      (I := fun s => V ^ n = s.2.1 * s.1 ^ s.2.2 ∧ s.2.2 < 9223372036854775808 ∧ (digs s.1).length ≤ 1000 ∧ (digs s.2.1).length ≤ 1000 ∧ (V ≠ 0 → s.1 ≠ 0 ∧ s.2.1 ≠ 0) ∧ (V = 0 → s.1 = 0)) ?_ (V, 1, n) ⟨by simp, hn, hdl, by rw [one_limb (n := 1) (by decide) (by decide)]; simp, fun h => ⟨h, by simp⟩, fun h => h⟩
    rintro ⟨A, p, m⟩ ⟨h1, h2, h3, h4, h5, h6⟩ ih
    dsimp only at h1 h2 h3 h4 h5 h6 ih ⊢
    refine .seq ?_
    refine .seq ?_
    refine .region ?_
    refine mvd ?_
    refine bi ?_
    refine rn ?_
    by_cases hm0 : m = 0
    · subst hm0
      refine cndf ?_
      refine .gh (Gh.keep [2, 8] rfl) ?_
      refine .exit ?_
      refine ⟨rfl, ?_⟩
      rw [h1, Nat.pow_zero, Nat.mul_one]; rfl
    · rw [decide_eq_true (show (0:Int) < (m:Int) by omega)]
      refine cndt ?_
      refine .skip ?_
      show AW _ _ _ _ _ _
      have hph := pow_half (A := A) (m := m)
      have okA := digs_ok A
      have okp := digs_ok p
      have vA := val_digs A
      have vp := val_digs p
      refine .block ?_
      refine .mid (fun e H' => H' = [] ∧ e = [(0, .d (.sl (L (digs A)))), (1, .d (.i .i64 (m : Int))), (2, .d (.i .i64 (most : Int))), (6, .nl), (7, .d (.b false)), (8, .d (.sl (L (digs (p * A ^ (m % 2))))))] ∧ (digs (p * A ^ (m % 2))).length ≤ 1000) ?_ ?_
      · refine .seq ?_
        refine .region ?_
        refine mvd ?_
        refine bie (.i .i64 ((m % 2 : Nat) : Int)) ?_ ?_
        · exact ⟨trivial, by rw [i64_and1 m h2]⟩
        refine bi ?_
        refine rn ?_
        by_cases hodd : m % 2 = 1
        · rw [decide_eq_true (show ((m % 2 : Nat) : Int) = 1 by omega), hodd, Nat.pow_one]
          refine cndt ?_
          refine .seq ?_
          refine .region ?_
          refine mvd ?_
          refine mvd ?_
          refine cl (xs := [.sl (L (digs p)), .sl (L (digs A))]) ?_ (prod_fn okp okA (by omega) (by omega)) Tryz.call84
          rw [vA, vp]
          refine asd ?_
          refine rn ?_
          refine .seq ?_
          refine .region ?_
          refine mvd ?_
          refine ln ?_ (L_sz _) l32
          refine mvd ?_
          refine bi ?_
          refine rn ?_
          by_cases hbig : most < (digs (p * A)).length
          · rw [decide_eq_true (show (most : Int) < ((L (digs (p * A))).length : Nat) by rw [L_length]; omega)]
            have hV : V ≠ 0 := fun h0 => by rw [h6 h0, Nat.mul_zero, digs_zero] at hbig; simp at hbig
            have hA := (h5 hV).1
            have hle : p * A ≤ V ^ n := by
              rw [h1, show m = (m - 1) + 1 by omega, Nat.pow_succ, Nat.mul_comm (A ^ (m - 1)), ← Nat.mul_assoc]
              exact Nat.le_mul_of_pos_right _ (Nat.pow_pos (by omega))
            have hf := fail hV hle hbig
            refine cndt ?_
            refine .seq ?_
            refine .region ?_
            refine asn ?_
            refine asd ?_
            refine rn ?_
            refine .gh (Gh.nlD (t := 6) rfl) ?_
            refine .ret ?_
            exact ⟨by decide, by rw [decide_eq_false hf, pwV, if_neg hf, digs_zero]; rfl, rfl, rfl⟩
          · rw [decide_eq_false (show ¬ (most : Int) < ((L (digs (p * A))).length : Nat) by rw [L_length]; omega)]
            refine cndf ?_
            refine .gh (Gh.keep [0, 1, 2, 6, 7, 8] rfl) ?_
            refine .skip ?_
            exact ⟨rfl, rfl, by omega⟩
        · have hev : m % 2 = 0 := by omega
          rw [decide_eq_false (show ¬ ((m % 2 : Nat) : Int) = 1 by omega), hev, Nat.pow_zero, Nat.mul_one]
          refine cndf ?_
          refine .gh (Gh.keep [0, 1, 2, 6, 7, 8] rfl) ?_
          refine .skip ?_
          exact ⟨rfl, rfl, h4⟩
      rintro _ _ ⟨rfl, rfl, hpl⟩
      have h1' : V ^ n = (p * A ^ (m % 2)) * (A * A) ^ (m / 2) := by rw [h1, hph, Nat.mul_assoc]
      have h5' : V ≠ 0 → p * A ^ (m % 2) ≠ 0 := fun h0 => Nat.mul_ne_zero (h5 h0).2 (Nat.pos_iff_ne_zero.1 (Nat.pow_pos (Nat.pos_of_ne_zero (h5 h0).1)))
      generalize p * A ^ (m % 2) = P at *
      refine .seq ?_
      refine .region ?_
      refine mvd ?_
      refine bie (.i .i64 ((m / 2 : Nat) : Int)) ?_ ?_
      · exact ⟨by decide, by rw [i64_shr1]⟩
      refine asd ?_
      refine rn ?_
      refine .seq ?_
      refine .region ?_
      refine mvd ?_
      refine bi ?_
      refine rn ?_
      by_cases hh : m / 2 = 0
      · rw [decide_eq_false (show ¬ (0 : Int) < ((m / 2 : Nat) : Int) by omega)]
        refine cndf ?_
        refine .gh (Gh.keep [0, 1, 2, 6, 7, 8] rfl) ?_
        refine .skip ?_
        show AL _ _ _ _ _ _
        refine ih (A, P, m / 2) ⟨?_, by dsimp only; omega, h3, hpl, fun h0 => ⟨(h5 h0).1, h5' h0⟩, h6⟩ (by dsimp only; omega)
        dsimp only
        rw [h1', hh]; simp
      · rw [decide_eq_true (show (0 : Int) < ((m / 2 : Nat) : Int) by omega)]
        refine cndt ?_
        refine .seq ?_
        refine .region ?_
        refine mvd ?_
        refine mvd ?_
        refine cl (xs := [.sl (L (digs A)), .sl (L (digs A))]) ?_ (prod_fn okA okA (by omega) (by omega)) Tryz.call84
        rw [vA]
        refine asd ?_
        refine rn ?_
        refine .seq ?_
        refine .region ?_
        refine mvd ?_
        refine ln ?_ (L_sz _) l32
        refine mvd ?_
        refine bi ?_
        refine rn ?_
        by_cases hbig : most < (digs (A * A)).length
        · rw [decide_eq_true (show (most : Int) < ((L (digs (A * A))).length : Nat) by rw [L_length]; omega)]
          have hV : V ≠ 0 := fun h0 => by rw [h6 h0, Nat.mul_zero, digs_zero] at hbig; simp at hbig
          have hA := (h5 hV).1
          have hP := h5' hV
          have hle : A * A ≤ V ^ n := by
            rw [h1', show m / 2 = (m / 2 - 1) + 1 by omega, Nat.pow_succ, ← Nat.mul_assoc]
            exact Nat.le_mul_of_pos_left _ (Nat.mul_pos (by omega) (Nat.pow_pos (Nat.mul_pos (by omega) (by omega))))
          have hf := fail hV hle hbig
          refine cndt ?_
          refine .seq ?_
          refine .region ?_
          refine asn ?_
          refine asd ?_
          refine rn ?_
          refine .gh (Gh.nlD (t := 6) rfl) ?_
          refine .ret ?_
          exact ⟨by decide, by rw [decide_eq_false hf, pwV, if_neg hf, digs_zero]; rfl, rfl, rfl⟩
        · rw [decide_eq_false (show ¬ (most : Int) < ((L (digs (A * A))).length : Nat) by rw [L_length]; omega)]
          refine cndf ?_
          refine .gh (Gh.keep [0, 1, 2, 6, 7, 8] rfl) ?_
          refine .skip ?_
          show AL _ _ _ _ _ _
          exact ih (A * A, P, m / 2) ⟨h1', by dsimp only; omega, by dsimp only; omega, hpl, fun h0 => ⟨Nat.mul_ne_zero (h5 h0).1 (h5 h0).1, h5' h0⟩, fun h0 => by rw [h6 h0]⟩ (by dsimp only; omega)
  rintro _ _ ⟨rfl, rfl⟩
  refine .seq ?_
  refine .seq ?_
  refine .region ?_
  refine mvd ?_
  refine ln ?_ (L_sz _) l32
  refine mvd ?_
  refine bi ?_
  refine rn ?_
  by_cases hf : pwOK V n most
  · rw [decide_eq_false (show ¬ (most : Int) < ((L (digs (V ^ n))).length : Nat) by unfold pwOK at hf; rw [L_length]; omega)]
    refine cndf ?_
    refine .skip ?_
    show AW _ _ _ _ _ _
    refine .seq ?_
    refine .region ?_
    refine mvd ?_
    refine asd ?_
    refine asd ?_
    refine rn ?_
    refine .ret ?_
    exact ⟨by decide, by rw [decide_eq_true hf, pwV, if_pos hf]; rfl, rfl, rfl⟩
  · rw [decide_eq_true (show (most : Int) < ((L (digs (V ^ n))).length : Nat) by unfold pwOK at hf; rw [L_length]; omega)]
    refine cndt ?_
    refine .seq ?_
    refine .region ?_
    refine asn ?_
    refine asd ?_
    refine rn ?_
    refine .gh (Gh.nlD (t := 6) rfl) ?_
    refine .ret ?_
    exact ⟨by decide, by rw [decide_eq_false hf, pwV, if_neg hf, digs_zero]; rfl, rfl, rfl⟩
theorem PowerNeg_fn {a : List Nat} (h : Ok a) (hl : a.length ≤ 1000) {n : Int} (hn : n < 0) {most : Int} : Fn Tryz.prog 36 [.sl (L a), .i .i64 n, .i .i64 most] (.tup [.d (.sl []), .d (.b false)]) := by
  refine Fn.of (rs := [.tmp 6, .tmp 7]) (nt := 42) Tryz.func36 rfl rfl rfl (by simp) rfl ?_
  refine .seq ?_
  refine .region ?_
  refine asn ?_
  refine asd ?_
  refine rn ?_
  refine .seq ?_
  refine .region ?_
  refine mvd ?_
  refine cl (xs := [.sl (L a)]) ?_ (Trim_fn h (by omega)) Tryz.call83
  refine aso ?_
  refine rn ?_
  refine .seq ?_
  refine .seq ?_
  refine .region ?_
  refine mvd ?_
  refine bi ?_
  refine rn ?_
  rw [decide_eq_true (show n < 0 by omega)]
  refine cndt ?_
  refine .seq ?_
  refine .region ?_
  refine asn ?_
  refine asd ?_
  refine rn ?_
  refine .gh (Gh.nlD (t := 6) rfl) ?_
  refine .ret ?_
  exact ⟨by decide, rfl, rfl, rfl⟩
end Go.FL
/-
  glyphref01: DivMod.
-/
namespace Go.FL
open Go Go.Proofs

def remN (m n : Nat) : Nat := if n = 0 then 0 else m % n
theorem half_bit (V j : Nat) : V / 2 ^ j = 2 * (V / 2 ^ (j + 1)) + V / 2 ^ j % 2 := by
  rw [Nat.pow_succ, ← Nat.div_div_eq_div_mul]; omega
theorem refDivMod_fn {a b : List Nat} (ha : Ok a) (hb : Ok b) (hla : a.length ≤ 100000) (hlb : b.length ≤ 100000) : Fn Tryz.prog 57 [.sl (L a), .sl (L b)]
    (.tup [.d (.sl (L (digs (val a / val b)))), .d (.sl (L (digs (remN (val a) (val b))))), .d (.b (decide (val b ≠ 0)))]) := by
  refine Fn.of (rs := [.tmp 4, .tmp 5, .tmp 6]) (nt := 42) Tryz.func57 rfl rfl rfl (by simp) rfl ?_
  refine .seq ?_
  refine .region ?_
  refine asn ?_
  refine asn ?_
  refine asd ?_
  refine rn ?_
  refine .seq ?_
  refine .seq ?_
  refine .region ?_
  refine mvd ?_
  refine cl (xs := [.sl (L b)]) ?_ (refTrim_fn hb (by omega)) Tryz.call70
  refine ln ?_ (L_sz _) l32
  refine bi ?_
  refine rn ?_
  by_cases hD : val b = 0
  · rw [hD, digs_zero]
    refine cndt ?_
    refine .seq ?_
    refine .region ?_
    refine asn ?_
    refine asn ?_
    refine asd ?_
    refine rn ?_
    refine .gh (Gh.nlD (t := 4) rfl) ?_
    refine .gh (Gh.nlD (t := 5) rfl) ?_
    refine .ret ?_
    refine ⟨by decide, ?_, rfl, rfl, rfl⟩
    simp [remN, digs_zero]; exact ⟨rfl, rfl, rfl⟩
  · have hdn := digs_ne (show 0 < val b by omega)
    rw [decide_eq_false (show ¬ (((L (digs (val b))).length : Nat) : Int) = 0 by rw [L_length]; omega)]
    refine cndf ?_
    refine .skip ?_
    show AW _ _ _ _ _ _
    refine .gh (Gh.keep [0, 1] rfl) ?_
    refine .seq ?_
    refine .region ?_
    refine asn ?_
    refine asn ?_
    refine rn ?_
    have hbl := bits_len ha (Nat.le_refl _)
    have hDl : val b < 4294967296 ^ b.length := val_lt hb
    refine .mid (fun e H' => e = [(7, .d (.sl (L (digs (val a / val b))))), (8, .d (.sl (L (digs (val a % val b)))))]) ?_ ?_
    · refine .seq ?_
      refine .region ?_
      refine mvd ?_
      refine cl (xs := [.sl (L a)]) ?_ (refBits_fn ha (by omega)) Tryz.call95
      refine su ((bitsN (val a) : Nat) - 1 : Int) ?_ ?_
      · omega
      refine asd ?_
      refine rn ?_
      refine .block ?_
      refine .gh (Gh.nlD (t := 7) rfl) ?_
      refine .gh (Gh.nlD (t := 8) rfl) ?_
      refine .loop (.gh (Gh.keep [0, 1, 7, 8, 9] rfl) ?_)
      refine AL.cast (env' := [(0, .d (.sl (L a))), (1, .d (.sl (L b))), (7, .d (.sl (L (digs 0)))), (8, .d (.sl (L (digs 0)))), (9, .d (.i .i64 ((bitsN (val a) : Nat) - 1 : Int)))]) (by rw [digs_zero]; rfl) ?_
      refine AL.ind (σ := Nat × Nat × Nat) (m := fun s => s.1) (e := fun s => [(0, .d (.sl (L a))), (1, .d (.sl (L b))), (7, .d (.sl (L (digs s.2.1)))), (8, .d (.sl (L (digs s.2.2)))), (9, .d (.i .i64 ((s.1 : Int) - 1)))]) (h := fun _ => [])
        (I := fun s => s.1 ≤ bitsN (val a) ∧ s.2.1 * val b + s.2.2 = val a / 2 ^ s.1 ∧ s.2.2 < val b) ?_ (bitsN (val a), 0, 0) ⟨Nat.le_refl _, by
          have := bitsN_iff.1 (Nat.le_refl (bitsN (val a)))
          rw [Nat.div_eq_of_lt this]; simp, by dsimp only; omega⟩
      rintro ⟨i, q, r⟩ ⟨h1, h2, h3⟩ ih
      dsimp only at h1 h2 h3 ih ⊢
      refine .seq ?_
      refine .seq ?_
      refine .region ?_
      refine mvd ?_
      refine bi ?_
      refine rn ?_
      cases i with
      | zero =>
        rw [decide_eq_false (show ¬ (0 : Int) ≤ ((0 : Nat) : Int) - 1 by omega)]
        refine cndf ?_
        refine .gh (Gh.keep [7, 8] rfl) ?_
        refine .exit ?_
        rw [Nat.pow_zero, Nat.div_one] at h2
        have e1 : val a / val b = q := by
          rw [← h2, Nat.mul_comm, Nat.mul_add_div (by omega), Nat.div_eq_of_lt h3, Nat.add_zero]
        have e2 : val a % val b = r := by
          rw [← h2, Nat.mul_comm, Nat.mul_add_mod, Nat.mod_eq_of_lt h3]
        show _ = _
        rw [e1, e2]; rfl
      | succ j =>
        rw [decide_eq_true (show (0 : Int) ≤ ((j + 1 : Nat) : Int) - 1 by omega)]
        have hT := half_bit (val a) j
        rw [← h2] at hT
        have fb := bit_fn (a := a) (i := j) ha (by omega) (by omega)
        have hb2 : val a / 2 ^ j % 2 ≤ 1 := by omega
        have hqV : 2 * q + 1 ≤ 2 * val a + 1 := by
          have hq1 : q ≤ q * val b := Nat.le_mul_of_pos_right _ (by omega)
          have hq2 : val a / 2 ^ (j + 1) ≤ val a := Nat.div_le_self _ _
          omega
        have hrl : (digs r).length ≤ b.length := digs_len (by omega)
        have hql : (digs q).length ≤ a.length := digs_len (by have := val_lt ha; omega)
        generalize val a / 2 ^ j % 2 = bt at *
        refine cndt ?_
        refine .skip ?_
        show AW _ _ _ _ _ _
        refine .seq ?_
        refine .block ?_
        refine .seq ?_
        refine .region ?_
        refine mvd ?_
        refine mvd ?_
        refine mvd ?_
        rw [show ((j + 1 : Nat) : Int) - 1 = (j : Int) by omega]
        refine cl (xs := [.sl (L a), .i .i64 (j : Int)]) ?_ fb Tryz.call97
        refine cl (xs := [.sl (L (digs r)), .i .u32 (bt : Int)]) ?_ (twice_fn (digs_ok r) (by omega) hb2) Tryz.call96
        rw [val_digs]
        refine aso ?_
        refine rn ?_
        refine .gh (Gh.frz (p := .t 8) rfl (fun _ _ h => by cases h)) ?_
        refine .gh (Gh.keep [0, 1, 7, 8, 9] rfl) ?_
        have hr2l : (digs (2 * r + bt)).length ≤ b.length + 1 := digs_len (by rw [Nat.pow_succ]; omega)
        refine .seq ?_
        refine .region ?_
        refine asd ?_
        refine rn ?_
        refine .mid (fun e H' => H' = [] ∧ ∃ g r', g ≤ 1 ∧ (2 * q + g) * val b + r' = val a / 2 ^ j ∧ r' < val b ∧ e = [(0, .d (.sl (L a))), (1, .d (.sl (L b))), (7, .d (.sl (L (digs q)))), (8, .d (.sl (L (digs r')))), (9, .d (.i .i64 (j : Int))), (10, .d (.i .u32 ((g : Nat) : Int)))]) ?_ ?_
        · refine .seq ?_
          refine .region ?_
          refine mvd ?_
          refine mvd ?_
          refine cl (xs := [.sl (L (digs (2 * r + bt))), .sl (L b)]) ?_ (refCompare_fn (a := digs (2 * r + bt)) (digs_ok _) hb (by omega) (by omega)) Tryz.call55
          rw [val_digs]
          refine bi ?_
          refine rn ?_
          by_cases hge : val b ≤ 2 * r + bt
          · rw [decide_eq_true (show 0 ≤ cmpN (2 * r + bt) (val b) by unfold cmpN; rw [if_neg (by omega)]; split <;> decide)]
            have fm := refMinus_fn (a := digs (2 * r + bt)) (b := b) (digs_ok _) hb (by omega) (by omega)
            rw [val_digs, minN, if_pos hge, decide_eq_true hge] at fm
            refine cndt ?_
            refine .seq ?_
            refine .region ?_
            refine mvd ?_
            refine mvd ?_
            refine cl (xs := [.sl (L (digs (2 * r + bt))), .sl (L b)]) ?_ fm Tryz.call54
            refine mvt ?_
            refine ex ?_
            refine ex ?_
            refine asd ?_
            refine rn ?_
            refine .region ?_
            refine asd ?_
            refine RL.gh (Gh.keep [0, 1, 7, 8, 9, 10] rfl) ?_
            refine .nil ?_
            refine ⟨rfl, 1, 2 * r + bt - val b, by omega, ?_, by omega, rfl⟩
            rw [hT, Nat.add_mul, Nat.mul_assoc]; omega
          · rw [decide_eq_false (show ¬ 0 ≤ cmpN (2 * r + bt) (val b) by unfold cmpN; rw [if_pos (by omega)]; decide)]
            refine cndf ?_
            refine .gh (Gh.keep [0, 1, 7, 8, 9, 10] rfl) ?_
            refine .skip ?_
            refine ⟨rfl, 0, 2 * r + bt, by omega, ?_, by omega, rfl⟩
            rw [hT, Nat.add_zero, Nat.mul_assoc]; omega
        rintro _ _ ⟨rfl, g, r', w1, w2, w3, rfl⟩
        refine .region ?_
        refine mvd ?_
        refine mvd ?_
        refine cl (xs := [.sl (L (digs q)), .i .u32 ((g : Nat) : Int)]) ?_ (twice_fn (digs_ok q) (by omega) w1) Tryz.call96
        rw [val_digs]
        refine aso ?_
        refine RL.gh (Gh.frz (p := .t 7) rfl (fun _ _ h => by cases h)) ?_
        refine .nil ?_
        show AW _ _ _ _ _ _
        refine .region ?_
        refine mvd ?_
        refine su ((j : Int) - 1) ?_ ?_
        · omega
        refine asd ?_
        refine rn ?_
        refine .gh (Gh.keep [0, 1, 7, 8, 9] rfl) ?_
        exact ih (j, 2 * q + g, r') ⟨by dsimp only; omega, w2, w3⟩ (by dsimp only; omega)
    rintro _ _ rfl
    refine .seq ?_
    refine .region ?_
    refine mvd ?_
    refine mvd ?_
    refine asd ?_
    refine asd ?_
    refine asd ?_
    refine rn ?_
    refine .ret ?_
    exact ⟨by decide, by rw [remN, if_neg hD, decide_eq_true hD]; rfl, rfl, rfl, rfl⟩
end Go.FL
/-
  Long division: the guess, one round, the end: plain numbers.
-/
namespace Go.FL
open Go Go.Proofs

/-- The guess is right, or one too great. -/
theorem guess_ok {T V N D P lo lv g : Nat} (hT : T = lo + P * N) (hlo : lo < P) (hV : V = lv + P * D) (hlv : lv < P) (hD : 4294967296 ≤ D) (hTV : T < 4294967296 * V) (hg : g = min (N / D) 4294967295) : T / V ≤ g ∧ g ≤ T / V + 1 := by
  have hVpos : 0 < V := by
    have : P * 1 ≤ P * D := Nat.mul_le_mul_left _ (by omega)
    omega
  have hq1 : T / V ≤ 4294967295 := by
    have : T / V < 4294967296 := (Nat.div_lt_iff_lt_mul hVpos).2 hTV
    omega
  have hq2 : T / V ≤ N / D := by
    refine (Nat.le_div_iff_mul_le (by omega)).2 ?_
    have h1 : T / V * V ≤ T := Nat.div_mul_le_self _ _
    have h2 : T / V * (P * D) ≤ T / V * V := Nat.mul_le_mul_left _ (by omega)
    have h3 : P * (T / V * D) < P * (N + 1) := by
      have e1 : P * (T / V * D) = T / V * (P * D) := by grind
      have e2 : P * (N + 1) = P * N + P := by grind
      omega
    have := Nat.lt_of_mul_lt_mul_left h3
    omega
  have hgN : g ≤ N / D := by rw [hg]; exact Nat.min_le_left _ _
  have hgB : g ≤ 4294967295 := by rw [hg]; exact Nat.min_le_right _ _
  have hTg : T / V ≤ g := by rw [hg]; exact Nat.le_min.2 ⟨hq2, hq1⟩
  refine ⟨hTg, ?_⟩
  apply Classical.byContradiction
  intro hc
  obtain ⟨m, hgm⟩ := Nat.exists_eq_succ_of_ne_zero (show g ≠ 0 from fun h0 => hc (by rw [h0]; exact Nat.zero_le _))
  subst hgm
  have hm : T < m * V := (Nat.div_lt_iff_lt_mul hVpos).1 (Nat.lt_of_succ_lt_succ (Nat.lt_of_not_le hc))
  have h1 : (m + 1) * D ≤ N := (Nat.le_div_iff_mul_le (by omega)).1 hgN
  clear hg hq1 hq2 hTg hgN hc
  have h2 : P * ((m + 1) * D) ≤ P * N := Nat.mul_le_mul_left _ h1
  have h3 : m * V ≤ m * (P * (D + 1)) := Nat.mul_le_mul_left _ (by
    have e : P * (D + 1) = P * D + P := by grind
    omega)
  have h4 : P * ((m + 1) * D) < P * (m * (D + 1)) := by
    have e : P * (m * (D + 1)) = m * (P * (D + 1)) := by grind
    omega
  have h5 := Nat.lt_of_mul_lt_mul_left h4
  have e1 : (m + 1) * D = m * D + D := by grind
  have e2 : m * (D + 1) = m * D + m := by grind
  omega
/-- Without a loan, the guess was right. -/
theorem round0 {T V W g : Nat} (hV : 0 < V) (h : W + g * V = T) (hg : T / V ≤ g) : g = T / V ∧ W = T % V := by
  have h1 : g ≤ T / V := (Nat.le_div_iff_mul_le hV).2 (by omega)
  have h2 : g = T / V := by omega
  refine ⟨h2, ?_⟩
  have := Nat.div_add_mod T V
  rw [← h2, Nat.mul_comm] at this
  omega
/-- With one, it was one too great; adding gives what is left. -/
theorem round1 {T V W W' M e g : Nat} (hV : 0 < V) (h : W + g * V = T + M) (hW : W < M) (hg : g ≤ T / V + 1) (ha : W' + e * M = W + V) (hW' : W' < M) (hVM : V < M) : g - 1 = T / V ∧ W' = T % V ∧ 0 < g := by
  have hdm := Nat.div_add_mod T V
  have hml := Nat.mod_lt T hV
  have hdl := Nat.div_mul_le_self T V
  rw [Nat.mul_comm] at hdm
  generalize T / V = Q at *
  generalize T % V = R at *
  have h1 : Q < g := by
    apply Classical.byContradiction
    intro hc
    have : g * V ≤ Q * V := Nat.mul_le_mul_right _ (by omega)
    omega
  have h2 : g = Q + 1 := by omega
  subst h2
  rw [Nat.add_mul, Nat.one_mul] at h
  have h3 : W' + e * M = M + R := by omega
  have he : e = 1 := by
    match e with
    | 0 => simp at h3; omega
    | 1 => rfl
    | e + 2 =>
      have : 2 * M ≤ (e + 2) * M := Nat.mul_le_mul_right _ (by omega)
      omega
  subst he
  exact ⟨by omega, by omega, by omega⟩

theorem val_split (u : List Nat) (i : Nat) (hi : i ≤ u.length) : val u = val (u.take i) + 4294967296 ^ i * val (u.drop i) := by
  conv => lhs; rw [← List.take_append_drop i u]
  rw [val_append, List.length_take, Nat.min_eq_left hi]
theorem val_zero_drop {u : List Nat} {k : Nat} (hk : k ≤ u.length) (h : val u < 4294967296 ^ k) : val (u.drop k) = 0 := by
  rw [val_split u k hk] at h
  apply Classical.byContradiction
  intro hc
  have : 4294967296 ^ k * 1 ≤ 4294967296 ^ k * val (u.drop k) := Nat.mul_le_mul_left _ (by omega)
  omega
theorem val_lt_of {u : List Nat} {k : Nat} (hu : Ok u) (hk : k ≤ u.length) (h : val (u.drop k) = 0) : val u < 4294967296 ^ k := by
  rw [val_split u k hk, h, Nat.mul_zero, Nat.add_zero]
  have := val_lt (hu.take k)
  rwa [List.length_take, Nat.min_eq_left hk] at this
/-- Three limbs at a place, and nothing behind them. -/
theorem three_at {u : List Nat} {j : Nat} (h : j + 3 ≤ u.length) (hz : val (u.drop (j + 3)) = 0) :
    val u = val (u.take j) + 4294967296 ^ j * ((u.getD (j + 2) 0 * 4294967296 + u.getD (j + 1) 0) * 4294967296 + u.getD j 0) := by
  rw [val_split u j (by omega), drop_val j, drop_val (j + 1), drop_val (j + 2), hz]
  congr 2
  omega
theorem two_at {v : List Nat} {j : Nat} (h : v.length = j + 2) : val v = val (v.take j) + 4294967296 ^ j * (v.getD (j + 1) 0 * 4294967296 + v.getD j 0) := by
  rw [val_split v j (by omega), drop_val j, drop_val (j + 1), List.drop_eq_nil_of_le (show v.length ≤ j + 1 + 1 by omega)]
  congr 2
  simp only [val]; omega
theorem take_lt {u : List Nat} {j : Nat} (hu : Ok u) (hj : j ≤ u.length) : val (u.take j) < 4294967296 ^ j := by
  have := val_lt (hu.take j)
  rwa [List.length_take, Nat.min_eq_left hj] at this
/-- What the guess is asked of. -/
theorem top_ok {T V P N D lo lv u2 u1 u0 v1 v0 : Nat} (hT : T = lo + P * N) (hV : V = lv + P * D) (hlv : lv < P) (hTV : T < 4294967296 * V) (hN : N = (u2 * 4294967296 + u1) * 4294967296 + u0) (hD : D = v1 * 4294967296 + v0) (h0 : v0 < 4294967296) : u2 ≤ v1 := by
  have h1 : P * N < P * (4294967296 * (D + 1)) := by
    have e : P * (4294967296 * (D + 1)) = 4294967296 * (P * D + P) := by grind
    omega
  have h2 := Nat.lt_of_mul_lt_mul_left h1
  omega

/-- Added from a place on. -/
def addGo : List Nat → List Nat → Nat → Nat → List Nat × Nat
  | [], u, c, _ => (u, c)
  | y :: r, u, c, j => addGo r (u.set j ((u.getD j 0 + y + c) % 4294967296)) ((u.getD j 0 + y + c) / 4294967296) (j + 1)
theorem addGo_cons (y : Nat) (r u : List Nat) (c j : Nat) : addGo (y :: r) u c j = addGo r (u.set j ((u.getD j 0 + y + c) % 4294967296)) ((u.getD j 0 + y + c) / 4294967296) (j + 1) := rfl
theorem addGo_step {V' V P x y c c' r R F Z : Nat} (hs : V' + x * P = V + r * P) (hc : x + y + c = 4294967296 * c' + r) (ih : F + Z = V' + (R + c') * (P * 4294967296)) : F + Z = V + (y + 4294967296 * R + c) * P := by
  grind
theorem addGo_val : ∀ (v u : List Nat) (c j : Nat), Ok v → Ok u → c ≤ 1 → j + v.length ≤ u.length →
    val (addGo v u c j).1 + (addGo v u c j).2 * 4294967296 ^ (j + v.length) = val u + (val v + c) * 4294967296 ^ j ∧ Ok (addGo v u c j).1 ∧ (addGo v u c j).2 ≤ 1 ∧ (addGo v u c j).1.length = u.length ∧
    (addGo v u c j).1.take j = u.take j ∧ (addGo v u c j).1.drop (j + v.length) = u.drop (j + v.length)
  | [], u, c, j, hv, hu, hc, hj => by simp [addGo, val, hu, hc]
  | y :: r, u, c, j, hv, hu, hc, hj => by
    simp only [addGo]
    have hj' : j + r.length + 1 ≤ u.length := by simpa [Nat.add_assoc] using hj
    have hx := getD_some (u := u) (j := j) (by omega)
    have hxl := getD_lt hu j
    have hyl := hv.head
    have hset := set_val hx (y := (u.getD j 0 + y + c) % 4294967296)
    have hcy : u.getD j 0 + y + c = 4294967296 * ((u.getD j 0 + y + c) / 4294967296) + (u.getD j 0 + y + c) % 4294967296 := (Nat.div_add_mod _ _).symm
    have hok := hu.set j (x := (u.getD j 0 + y + c) % 4294967296) (Nat.mod_lt _ (by decide))
    have hc' : (u.getD j 0 + y + c) / 4294967296 ≤ 1 := by omega
    generalize (u.getD j 0 + y + c) % 4294967296 = rr at *
    generalize (u.getD j 0 + y + c) / 4294967296 = c' at *
    generalize u.getD j 0 = x at *
    obtain ⟨i1, i2, i3, i4, i5, i6⟩ := addGo_val r (u.set j rr) c' (j + 1) hv.tail hok hc' (by rw [List.length_set]; omega)
    generalize addGo r (u.set j rr) c' (j + 1) = res at *
    rw [Nat.pow_succ] at i1
    refine ⟨?_, i2, i3, by rw [i4, List.length_set], ?_, ?_⟩
    · rw [val, show j + (y :: r).length = j + 1 + r.length by simp; omega]
      exact addGo_step hset hcy i1
    · have := congrArg (List.take j) i5
      rw [List.take_take, List.take_take, Nat.min_eq_left (by omega), List.take_set_of_le (Nat.le_refl _)] at this
      exact this
    · rw [show j + (y :: r).length = j + 1 + r.length by simp; omega, i6, List.drop_set_of_lt (by omega)]

/-- One round of the division. -/
theorem knuth_round {u v : List Nat} {i k : Nat} (hu : Ok u) (hv : Ok v) (hk : v.length = k + 2) (hi : i + k + 3 ≤ u.length) (hr : val (u.drop (i + 1)) < val v) (htop : 2147483648 ≤ v.getD (k + 1) 0) :
    u.getD (i + k + 2) 0 ≤ v.getD (k + 1) 0 ∧ val (u.drop i) < 4294967296 * val v ∧
    (∀ g, g = guessQ (u.getD (i + k + 2) 0) (u.getD (i + k + 1) 0) (u.getD (i + k) 0) (v.getD (k + 1) 0) (v.getD k 0) → val (u.drop i) / val v ≤ g ∧ g ≤ val (u.drop i) / val v + 1 ∧ g ≤ 4294967295) := by
  have hT : val (u.drop i) < 4294967296 * val v := by
    rw [drop_val i]
    have h1 := getD_lt hu i
    have : 4294967296 * (val (u.drop (i + 1)) + 1) ≤ 4294967296 * val v := Nat.mul_le_mul_left _ hr
    omega
  have hvl := val_lt hv
  rw [hk] at hvl
  have hTk : val (u.drop i) < 4294967296 ^ (k + 3) := by
    rw [show k + 3 = (k + 2) + 1 by omega, Nat.pow_succ, Nat.mul_comm]
    have : 4294967296 * val v < 4294967296 * 4294967296 ^ (k + 2) := Nat.mul_lt_mul_of_pos_left hvl (by decide)
    omega
  have hz := val_zero_drop (u := u.drop i) (k := k + 3) (by rw [List.length_drop]; omega) hTk
  have h3 := three_at (u := u.drop i) (j := k) (by rw [List.length_drop]; omega) hz
  have hg : ∀ m, (u.drop i).getD m 0 = u.getD (i + m) 0 := fun m => by rw [List.getD_eq_getElem?_getD, List.getElem?_drop, List.getD_eq_getElem?_getD]
  rw [hg, hg, hg] at h3
  have h2 := two_at hk
  have hlv := take_lt (j := k) hv (by omega)
  have hlu := take_lt (j := k) (hu.drop i) (by rw [List.length_drop]; omega)
  have hv0 := getD_lt hv k
  rw [show i + (k + 2) = i + k + 2 by omega, show i + (k + 1) = i + k + 1 by omega] at h3
  have htp := top_ok h3 h2 hlv hT rfl rfl hv0
  refine ⟨htp, hT, fun g hgq => ?_⟩
  obtain ⟨j1, j2⟩ := guess_ok (g := g) h3 hlu h2 hlv (by omega) hT hgq
  refine ⟨j1, j2, ?_⟩
  rw [hgq]; exact Nat.min_le_right _ _
theorem win_alg {lo P W g V T b M : Nat} (h1 : lo + P * W + (g * V + 0 + 0) * P = lo + P * T + b * (P * M)) : P * (W + g * V) = P * (T + b * M) := by
  grind
theorem win_add {lo P W T V c K x r e Z S : Nat} (h1 : Z + c * (P * K) = lo + P * T + V * P) (hset : lo + P * W + x * (P * K) = Z + r * (P * K)) (hdm : x + c = 4294967296 * e + r) (hS : S = K * 4294967296) : P * (W + e * S) = P * (T + V) := by
  grind
/-- The window behind 'take'. -/
theorem take_window {u v : List Nat} {i g : Nat} (hu : Ok u) (hv : Ok v) (hi : i + v.length < u.length) (hg : g < 4294967296) (hz : val (u.drop (i + v.length + 1)) = 0) :
    Ok (takeGo g v u 0 0 i).1 ∧ (takeGo g v u 0 0 i).1.length = u.length ∧ (takeGo g v u 0 0 i).1.take i = u.take i ∧ (takeGo g v u 0 0 i).2 ≤ 1 ∧ val ((takeGo g v u 0 0 i).1.drop (i + v.length + 1)) = 0 ∧
    val ((takeGo g v u 0 0 i).1.drop i) + g * val v = val (u.drop i) + (takeGo g v u 0 0 i).2 * 4294967296 ^ (v.length + 1) ∧ val ((takeGo g v u 0 0 i).1.drop i) < 4294967296 ^ (v.length + 1) := by
  obtain ⟨h1, h2, h3, h4, h5, h6⟩ := takeGo_val hg v u 0 0 i hv hu (by decide) (by decide) hi
  generalize takeGo g v u 0 0 i = res at *
  have hz' : val (res.1.drop (i + v.length + 1)) = 0 := by rw [h6]; exact hz
  refine ⟨h2, h4, h5, h3, hz', ?_, ?_⟩
  · rw [val_split u i (by omega), val_split res.1 i (by omega), h5, show i + v.length + 1 = i + (v.length + 1) by omega, Nat.pow_add] at h1
    have hp : 0 < 4294967296 ^ i := Nat.pow_pos (by decide)
    exact Nat.eq_of_mul_eq_mul_left hp (win_alg h1)
  · refine val_lt_of (h2.drop i) (by rw [List.length_drop]; omega) ?_
    rw [List.drop_drop, show i + (v.length + 1) = i + v.length + 1 by omega]
    exact hz'
/-- .. and behind adding. -/
theorem add_window {u v : List Nat} {i : Nat} (hu : Ok u) (hv : Ok v) (hi : i + v.length < u.length) (hz : val (u.drop (i + v.length + 1)) = 0) {w : List Nat} {c : Nat} (hw : addGo v u 0 i = (w, c)) {w' : List Nat}
    (hw' : w' = w.set (i + v.length) ((w.getD (i + v.length) 0 + c) % 4294967296)) : Ok w' ∧ w'.length = u.length ∧ w'.take i = u.take i ∧ c ≤ 1 ∧
    (∃ e, val (w'.drop i) + e * 4294967296 ^ (v.length + 1) = val (u.drop i) + val v) ∧ val (w'.drop i) < 4294967296 ^ (v.length + 1) := by
  obtain ⟨h1, h2, h3, h4, h5, h6⟩ := addGo_val v u 0 i hv hu (by decide) (by omega)
  rw [hw] at h1 h2 h3 h4 h5 h6
  dsimp only at h1 h2 h3 h4 h5 h6
  have hx := getD_some (u := w) (j := i + v.length) (by omega)
  have hset := set_val hx (y := (w.getD (i + v.length) 0 + c) % 4294967296)
  rw [← hw'] at hset
  have hdm : w.getD (i + v.length) 0 + c = 4294967296 * ((w.getD (i + v.length) 0 + c) / 4294967296) + (w.getD (i + v.length) 0 + c) % 4294967296 := (Nat.div_add_mod _ _).symm
  have hok : Ok w' := by rw [hw']; exact h2.set _ (Nat.mod_lt _ (by decide))
  have hlen : w'.length = u.length := by rw [hw', List.length_set, h4]
  have htk : w'.take i = u.take i := by rw [hw', List.take_set_of_le (by omega), h5]
  have hz' : val (w'.drop (i + v.length + 1)) = 0 := by
    rw [hw', List.drop_set_of_lt (by omega)]
    have : w.drop (i + v.length + 1) = u.drop (i + v.length + 1) := by
      have e1 : w.drop (i + v.length + 1) = (w.drop (i + v.length)).drop 1 := by rw [List.drop_drop]
      have e2 : u.drop (i + v.length + 1) = (u.drop (i + v.length)).drop 1 := by rw [List.drop_drop]
      rw [e1, e2, h6]
    rw [this]; exact hz
  refine ⟨hok, hlen, htk, h3, ⟨(w.getD (i + v.length) 0 + c) / 4294967296, ?_⟩, ?_⟩
  · clear hw hw' hx
    generalize (w.getD (i + v.length) 0 + c) / 4294967296 = e at *
    generalize (w.getD (i + v.length) 0 + c) % 4294967296 = r at *
    generalize w.getD (i + v.length) 0 = x at *
    rw [val_split u i (by omega)] at h1
    rw [val_split w' i (by omega), htk] at hset
    rw [Nat.add_zero, Nat.pow_add] at h1
    rw [Nat.pow_add] at hset
    have hp : 0 < 4294967296 ^ i := Nat.pow_pos (by decide)
    exact Nat.eq_of_mul_eq_mul_left hp (win_add h1 hset hdm (Nat.pow_succ ..))
  · refine val_lt_of (hok.drop i) (by rw [List.length_drop]; omega) ?_
    rw [List.drop_drop, show i + (v.length + 1) = i + v.length + 1 by omega]
    exact hz'
end Go.FL
