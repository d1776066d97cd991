/-
  Part 3 of the base of the proofs: a logic of our own over the calculus, the contracts of the functions
-/
import Derived.Test.YtbeekjoeaigngaaGreatScB
set_option linter.unusedVariables false
/-
  math/bits: Len32, LeadingZeros32; Bits, of nat and of glyphref01.
-/
namespace Go.FL
open Go Go.Proofs

def bitsN (n : Nat) : Nat := if n = 0 then 0 else n.log2 + 1
theorem bitsN_iff {n k : Nat} : bitsN n ≤ k ↔ n < 2 ^ k := by
  unfold bitsN; split
  · rename_i h; subst h; simp [Nat.two_pow_pos]
  · rename_i h; rw [← Nat.log2_lt h]; omega
theorem bitsN_eq {n k : Nat} (h1 : 2 ^ k ≤ n) (h2 : n < 2 ^ (k + 1)) : bitsN n = k + 1 := by
  have a := bitsN_iff.2 h2
  have b : ¬ bitsN n ≤ k := fun h => by have := bitsN_iff.1 h; omega
  omega
theorem bitsN_pos {n : Nat} (h : n ≠ 0) : ∃ k, bitsN n = k + 1 ∧ 2 ^ k ≤ n ∧ n < 2 ^ (k + 1) := by
  refine ⟨n.log2, by simp [bitsN, h], Nat.log2_self_le h, Nat.lt_log2_self⟩
theorem bitsN_shift {n m : Nat} (h : 2 ^ m ≤ n) : bitsN n = m + bitsN (n / 2 ^ m) := by
  have hp : 0 < 2 ^ m := Nat.two_pow_pos m
  have h0 : n / 2 ^ m ≠ 0 := by have := Nat.div_pos h hp; omega
  obtain ⟨k, h1, h2, h3⟩ := bitsN_pos h0
  rw [h1]
  rw [show m + (k + 1) = (m + k) + 1 by omega]
  refine bitsN_eq ?_ ?_
  · rw [Nat.pow_add, Nat.mul_comm]
    exact (Nat.le_div_iff_mul_le hp).1 h2
  · rw [show m + k + 1 = (k + 1) + m by omega, Nat.pow_add]
    exact (Nat.div_lt_iff_lt_mul hp).1 h3
theorem tab_of {l : List UInt8} (n : Nat) (h : n < 256) (hl : (List.range 256).map (fun n => (bitsN n).toUInt8) = l) : l[n]? = some (bitsN n).toUInt8 := by
  subst hl; simp [h]
theorem wrapU8 {n : Nat} (h : n < 256) : IntKind.u8.wrap (n : Int) = n := by
  simp only [IntKind.wrap, IntKind.bits, IntKind.signed]
  simp; omega
theorem Len32_fn {n : Nat} (h : n < 4294967296) : Fn Tryz.prog 245 [.i .u32 n] (.d (.i .i64 (bitsN n))) := by
  refine Fn.of (rs := [.tmp 2]) (nt := 19) Tryz.func245 rfl rfl rfl (by simp) rfl ?_; refine .seq ?_; refine .region ?_; refine asd ?_; refine rn ?_; refine .mid (fun e H' => ∃ y k : Nat, e = [(0, .d (.i .u32 y)), (2, .d (.i .i64 k))] ∧ y < 65536 ∧ k ≤ 16 ∧ bitsN n = k + bitsN y) ?_ ?_
  · refine .seq ?_
    refine .region ?_; refine mvd ?_; refine bi ?_; refine rn ?_
    by_cases hc : 65536 ≤ n
    · rw [decide_eq_true (show (65536:Int) ≤ (n:Int) by omega)]
      refine cndt ?_; refine .seq ?_; refine .region ?_; refine mvd ?_; refine bie (.i .u32 ((n / 65536 : Nat) : Int)) ?_ ?_
      · simp [IntKind.bits]
      refine asd ?_; refine rn ?_; refine .region ?_; refine asd ?_; refine RL.gh (Gh.keep [0, 2] rfl) ?_; refine rn ?_
      exact ⟨n / 65536, 16, rfl, by omega, by omega, bitsN_shift (m := 16) (by omega)⟩
    · rw [decide_eq_false (show ¬ (65536:Int) ≤ (n:Int) by omega)]
      refine cndf ?_; refine .gh (Gh.keep [0, 2] rfl) ?_; refine .skip ?_
      exact ⟨n, 0, rfl, by omega, by omega, by omega⟩
  rintro _ _ ⟨y, k, rfl, hy, hk, e1⟩
  refine .mid (fun e H' => ∃ z j : Nat, e = [(0, .d (.i .u32 z)), (2, .d (.i .i64 j))] ∧ z < 256 ∧ j ≤ 24 ∧ bitsN n = j + bitsN z) ?_ ?_
  · refine .seq ?_
    refine .region ?_; refine mvd ?_; refine bi ?_; refine rn ?_
    by_cases hc : 256 ≤ y
    · rw [decide_eq_true (show (256:Int) ≤ (y:Int) by omega)]
      refine cndt ?_; refine .seq ?_; refine .region ?_; refine mvd ?_; refine bie (.i .u32 ((y / 256 : Nat) : Int)) ?_ ?_
      · simp [IntKind.bits]
      refine asd ?_; refine rn ?_; refine .region ?_; refine mvd ?_; refine ad ((k + 8 : Nat) : Int) ?_ ?_
      · omega
      refine asd ?_; refine RL.gh (Gh.keep [0, 2] rfl) ?_; refine rn ?_
      exact ⟨y / 256, k + 8, rfl, by omega, by omega, by rw [e1, bitsN_shift (m := 8) (by omega)]; simp; omega⟩
    · rw [decide_eq_false (show ¬ (256:Int) ≤ (y:Int) by omega)]
      refine cndf ?_; refine .gh (Gh.keep [0, 2] rfl) ?_; refine .skip ?_
      exact ⟨y, k, rfl, by omega, by omega, e1⟩
  rintro _ _ ⟨z, j, rfl, hz, hj, e2⟩
  have hb : bitsN z ≤ 8 := bitsN_iff.2 (by omega)
  refine .seq ?_; refine .region ?_; refine mvd ?_; refine mvd ?_
  refine cve (z : Int) (wrapU8 hz) ?_ u32 u8
  refine ids (b := (bitsN z).toUInt8) z rfl ?_ ?_ st
  · exact tab_of z hz (by kernel_rfl)
  have e3 : ((bitsN z).toUInt8).toNat = bitsN z := by simp; omega
  rw [e3]
  refine cve ((bitsN z : Nat) : Int) (wrap64 (by omega) (by omega)) ?_ u8 i64
  refine ad ((bitsN n : Nat) : Int) ?_ ?_
  · omega
  refine asd ?_; refine rn ?_; refine .ret ?_
  exact ⟨rfl, rfl⟩
theorem LeadingZeros32_fn {n : Nat} (h : n < 4294967296) : Fn Tryz.prog 233 [.i .u32 n] (.d (.i .i64 ((32 - bitsN n : Nat) : Int))) := by
  have hb : bitsN n ≤ 32 := bitsN_iff.2 (by omega)
  refine Fn.of (rs := [.tmp 2]) (nt := 6) Tryz.func233 rfl rfl rfl (by simp) rfl ?_; refine .seq ?_; refine .region ?_; refine asd ?_; refine rn ?_; refine .seq ?_; refine .region ?_; refine mvd ?_
  refine cl ?_ (Len32_fn h) Tryz.call245
  refine su ((32 - bitsN n : Nat) : Int) ?_ ?_
  · omega
  refine asd ?_; refine rn ?_; refine .ret ?_
  exact ⟨rfl, rfl⟩
end Go.FL
/-
  nat.Bits; math/bits.Div32; nat.small.
-/
namespace Go.FL
open Go Go.Proofs

theorem pow32 (n : Nat) : 4294967296 ^ n = 2 ^ (32 * n) := by rw [Nat.pow_mul]
theorem bitsN_val {b : List Nat} {x : Nat} (h : Ok b) (hx : x ≠ 0) : bitsN (val (b ++ [x])) = 32 * b.length + bitsN x := by
  obtain ⟨k, h1, h2, h3⟩ := bitsN_pos hx
  have hv := val_lt h
  rw [h1, val_append, ← Nat.add_assoc]
  simp only [val]
  rw [pow32] at hv ⊢
  have hp := Nat.two_pow_pos (32 * b.length)
  refine bitsN_eq ?_ ?_
  · rw [Nat.pow_add]
    have := Nat.mul_le_mul_left (2 ^ (32 * b.length)) h2
    simp only [Nat.mul_zero, Nat.add_zero]; omega
  · rw [show 32 * b.length + k + 1 = 32 * b.length + (k + 1) by omega, Nat.pow_add]
    have := Nat.mul_le_mul_left (2 ^ (32 * b.length)) (Nat.succ_le_of_lt h3)
    rw [Nat.mul_succ] at this
    simp only [Nat.mul_zero, Nat.add_zero]; omega
theorem digs_split {n : Nat} (h : n ≠ 0) : ∃ b x, digs n = b ++ [x] ∧ x ≠ 0 ∧ Ok b ∧ x < 4294967296 := by
  rcases List.eq_nil_or_concat (digs n) with h0 | ⟨b, x, h0⟩
  · rw [digs_pos h] at h0; cases h0
  · rw [List.concat_eq_append] at h0
    have ho := digs_ok n
    rw [h0] at ho
    exact ⟨b, x, h0, top_digs n x (by rw [h0]; simp), ho.left, ho.right x (by simp)⟩
theorem digs_nil_iff {n : Nat} : digs n = [] ↔ n = 0 := by
  constructor
  · intro h
    apply Classical.byContradiction
    intro h0; rw [digs_pos h0] at h; cases h
  · rintro rfl; exact digs_zero
theorem Bits_fn {a : List Nat} (h : Ok a) (hl : a.length ≤ 1048576) : Fn Tryz.prog 223 [.sl (L a)] (.d (.i .i64 (bitsN (val a)))) := by
  have hd := digs_len_le h
  refine Fn.of (rs := [.tmp 2]) (nt := 19) Tryz.func223 rfl rfl rfl (by simp) rfl ?_; refine .seq ?_; refine .region ?_; refine asd ?_; refine rn ?_; refine .seq ?_; refine .region ?_; refine mvd ?_
  refine cl ?_ (cut_val h (by omega)) Tryz.call197
  refine asd ?_; refine rn ?_; refine .seq ?_; refine .seq ?_; refine .region ?_; refine mvd ?_
  refine ln ?_ (L_sz _) l32
  refine bi ?_; refine rn ?_
  by_cases hz : val a = 0
  · rw [hz, digs_zero]
    refine cndt ?_; refine .seq ?_; refine .region ?_; refine asd ?_; refine rn ?_; refine .ret ?_
    exact ⟨rfl, rfl⟩
  · obtain ⟨b, x, e1, hx, hb, hxl⟩ := digs_split hz
    have hval : bitsN (val a) = 32 * b.length + bitsN x := by rw [← bitsN_val hb hx, ← e1, val_digs]
    have hlx : bitsN x ≤ 32 := bitsN_iff.2 (by omega)
    rw [e1] at hd ⊢
    simp only [List.length_append, List.length_singleton] at hd
    rw [decide_eq_false (show ¬ ((L (b ++ [x])).length : Int) = 0 by simp [L_length]; omega)]
    refine cndf ?_; refine .skip ?_
    show AW _ _ _ _ _ _
    refine .seq ?_; refine .region ?_; refine mvd ?_
    refine ln ?_ (L_sz _) l32
    refine ml ((32 * (b.length + 1) : Nat) : Int) ?_ ?_
    · simp [L_length]; omega
    refine mvd ?_; refine mvd ?_
    refine ln ?_ (L_sz _) l32
    refine su (b.length : Int) ?_ ?_
    · simp [L_length]; omega
    refine ix b.length ?_ rfl (L_at (xs := b ++ [x]) (n := x) (by simp)) rfl s32
    refine ldp ?_ a32
    refine cl ?_ (LeadingZeros32_fn hxl) Tryz.call233
    refine su ((bitsN (val a) : Nat) : Int) ?_ ?_
    · omega
    refine asd ?_; refine rn ?_; refine .ret ?_
    exact ⟨rfl, rfl⟩
theorem wraps_u64 (n : Int) (h₀ : 0 ≤ n) (h₁ : n < 2 ^ 64) : IntKind.u64.wrap n = n := by
  simp only [IntKind.wrap, IntKind.bits, IntKind.signed]; simp; omega
theorem wraps_u32 (n : Int) (h₀ : 0 ≤ n) (h₁ : n < 2 ^ 32) : IntKind.u32.wrap n = n := by
  simp only [IntKind.wrap, IntKind.bits, IntKind.signed]; simp; omega
theorem u64_join {x y : Nat} (hx : x < 4294967296) (hy : y < 4294967296) : bits .or .u64 ((x * 4294967296 : Nat) : Int) (y : Int) = ((x * 4294967296 + y : Nat) : Int) := by
  rw [bits_join .u64 64 (by decide) wraps_u64 32 ((x * 4294967296 : Nat) : Int) (y : Int) (by omega) (by omega) (by omega) (by omega) (by omega) (by omega)]
  omega
theorem tdiv_nat (n m : Nat) : Int.tdiv (n : Int) (m : Int) = ((n / m : Nat) : Int) := rfl
theorem tmod_nat (n m : Nat) : Int.tmod (n : Int) (m : Int) = ((n % m : Nat) : Int) := rfl
theorem Div32_fn {hi lo y : Nat} (h1 : hi < y) (h2 : lo < 4294967296) (h3 : y < 4294967296) : Fn Tryz.prog 244 [.i .u32 hi, .i .u32 lo, .i .u32 y]
    (.tup [.d (.i .u32 (((hi * 4294967296 + lo) / y : Nat) : Int)), .d (.i .u32 (((hi * 4294967296 + lo) % y : Nat) : Int))]) := by
  have hq : (hi * 4294967296 + lo) / y < 4294967296 := by
    rw [Nat.div_lt_iff_lt_mul (by omega)]
    have : hi * 4294967296 + 4294967296 ≤ y * 4294967296 := by rw [← Nat.succ_mul]; exact Nat.mul_le_mul_right _ h1
    omega
  have hr : (hi * 4294967296 + lo) % y < 4294967296 := by have := Nat.mod_lt (hi * 4294967296 + lo) (show 0 < y by omega); omega
  refine Fn.of (rs := [.tmp 6, .tmp 7]) (nt := 33) Tryz.func244 rfl rfl rfl (by simp) rfl ?_; refine .seq ?_; refine .region ?_; refine asd ?_; refine asd ?_; refine rn ?_; refine .seq ?_; refine .seq ?_; refine .region ?_; refine mvd ?_; refine bi ?_; refine mvd ?_
  have e1 : (!decide ((y:Int) = 0)) = true := by simp; omega
  rw [e1]
  refine mvd ?_; refine mvd ?_; refine bi ?_
  rw [decide_eq_false (show ¬ ((y:Int) ≤ (hi:Int)) by omega)]
  refine pkd ?_; refine rn ?_; refine cndf ?_; refine .skip ?_
  show AW _ _ _ _ _ _
  refine .seq ?_; refine .region ?_; refine mvd ?_
  refine cve (hi : Int) (toU64 (by omega)) ?_ u32 u64
  refine bie (.i .u64 ((hi * 4294967296 : Nat) : Int)) ?_ ?_
  · refine ⟨by decide, ?_⟩
    rw [show min (32 : Int).toNat IntKind.u64.bits = 32 from rfl, wraps_u64 _ (by omega) (by omega)]
    simp
  refine mvd ?_
  refine cve (lo : Int) (toU64 (by omega)) ?_ u32 u64
  refine bie (.i .u64 ((hi * 4294967296 + lo : Nat) : Int)) ?_ ?_
  · exact ⟨trivial, by rw [u64_join (by omega) h2]⟩
  refine asd ?_; refine rn ?_; refine .seq ?_; refine .gh (Gh.keep [2, 8] rfl) ?_; refine .drawn 12 mixed (by kernel_rfl) ?_; refine dv vmvd ?_; refine dv vmvd ?_; refine dv (vcve (y : Int) (toU64 (by omega)) u32 u64) ?_; refine dv (vbie (.i .u64 (((hi * 4294967296 + lo) / y : Nat) : Int)) ?_) ?_
  · refine ⟨by omega, ?_⟩
    rw [tdiv_nat, toU64 (by omega)]
  refine dv (vcve (((hi * 4294967296 + lo) / y : Nat) : Int) (toU32 hq) u64 u32) ?_; refine dv vmvd ?_; refine dv vmvd ?_; refine dv (vcve (y : Int) (toU64 (by omega)) u32 u64) ?_; refine dv (vbie (.i .u64 (((hi * 4294967296 + lo) % y : Nat) : Int)) ?_) ?_
  · refine ⟨by omega, ?_⟩
    rw [tmod_nat]
  refine dv (vcve (((hi * 4294967296 + lo) % y : Nat) : Int) (toU32 hr) u64 u32) ?_; refine dv vasd ?_; refine dv vasd ?_; refine dz ?_; refine rn ?_; refine .ret ?_
  exact ⟨by decide, rfl, rfl, rfl⟩
end Go.FL
/-
  nat.Small.
-/
namespace Go.FL
open Go Go.Proofs

theorem wraps_i64 (n : Int) (h₀ : 0 ≤ n) (h₁ : n < 2 ^ 63) : IntKind.i64.wrap n = n := by
  simp only [IntKind.wrap, IntKind.bits, IntKind.signed]; simp; omega
theorem i64_join {x y : Nat} (hx : x < 2147483648) (hy : y < 4294967296) : bits .or .i64 ((x * 4294967296 : Nat) : Int) (y : Int) = ((x * 4294967296 + y : Nat) : Int) := by
  rw [bits_join .i64 63 (by decide) wraps_i64 32 ((x * 4294967296 : Nat) : Int) (y : Int) (by omega) (by omega) (by omega) (by omega) (by omega) (by omega)]
  omega
theorem zi64 (w : World) : (zeroValue 3).run Tryz.prog w = .ok (.int .i64 0) w := by
  simp
theorem zi1 : szOf Tryz.prog 3 = 1 := by kernel_rfl
theorem ai1 : aggT Tryz.prog 3 = some false := by kernel_rfl
theorem val_at {xs : List Nat} {j : Nat} (h : j < xs.length) : val (xs.drop j) = xs[j] + 4294967296 * val (xs.drop (j + 1)) := by
  rw [List.drop_eq_getElem_cons h]; simp [val]
theorem val_small {xs : List Nat} (h : Ok xs) (hl : xs.length ≤ 2) (hv : val xs < 9223372036854775808) : ∀ j, val (xs.drop (j + 1)) < 2147483648 := by
  intro j
  match xs, hl with
  | [], _ => simp [val]
  | [x], _ => cases j <;> simp [val]
  | [x, y], _ =>
    cases j with
    | zero => simp [val] at hv ⊢; omega
    | succ j => cases j <;> simp [val]
def smallN (a : List Nat) : Nat := if bitsN (val a) ≤ 63 then val a else 0
theorem Small_fn {a : List Nat} (h : Ok a) (hl : a.length ≤ 1048576) : Fn Tryz.prog 207 [.sl (L a)] (.tup [.d (.i .i64 (smallN a : Nat)), .d (.b (decide (bitsN (val a) ≤ 63)))]) := by
  refine Fn.ofM (rs := [.tmp 2, .tmp 3]) (nt := 21) Tryz.func207 rfl rfl rfl (by simp) rfl ?_; refine .seqA ?_; refine .region ?_; refine asd ?_; refine asd ?_; refine rn ?_
  show AWM _ _ _ _ _ _
  refine .seqA ?_; refine .seq ?_; refine .region ?_; refine mvd ?_
  refine cl (xs := [.sl (L a)]) ?_ (Bits_fn h hl) Tryz.call223
  refine bi ?_; refine rn ?_
  by_cases hb : bitsN (val a) ≤ 63
  · rw [decide_eq_false (show ¬ ((63 : Int) < (bitsN (val a) : Int)) by omega)]
    refine cndf ?_; refine .skip ?_
    show AWM _ _ _ _ _ _
    have hv63 : val a < 9223372036854775808 := bitsN_iff.1 hb
    have hlen2 : (digs (val a)).length ≤ 2 := digs_len (by omega)
    have hvd := val_digs (val a)
    have hvs := val_small (digs_ok (val a)) hlen2 (by rw [hvd]; exact hv63)
    have hdok := digs_ok (val a)
    refine .seqA ?_; refine .region ?_
    refine al ?_ zi64 (fun w I μ => .cons (c := .d (.i .i64 0)) (b1 := []) (.d (.i _ _)) .nil)
    refine stb (cs := [.d (.i .i64 0)]) (c := .d (.i .i64 0)) rfl rfl ?_ zi1
    refine rn ?_
    show AWM _ _ _ _ _ _
    refine .seq rfl ?_; refine .seqA ?_; refine .region ?_; refine mvd ?_
    refine cl (xs := [.sl (L a)]) ?_ (cut_fn a (by omega)) Tryz.call197
    rw [cutL_val h]
    refine cl (xs := [.sl (L (digs (val a)))]) ?_ (Backward_fn (L (digs (val a)))) Tryz.call224
    refine rn ?_
    show AWM _ _ _ _ _ _
    generalize digs (val a) = xs at *
    have hys : ∀ ds ∈ backY (L xs), ds.length = 2 := fun ds hds => by
      obtain ⟨k, hk⟩ := List.getElem?_of_mem hds
      rw [(backY_at hk).2]; rfl
    have hit := bw_it (L xs) (by intro x hx; simp only [L, List.mem_map] at hx; obtain ⟨n, _, rfl⟩ := hx; rfl) (by rw [L_length]; omega)
    refine .block ?_; refine .rangeFunc rfl rfl rfl Tryz.call243 hit hys (by decide) (by decide) rfl (fun k => [.box [.d (.i .i64 ((val (xs.drop (xs.length - k)) : Nat) : Int))]]) (by simp [val]) ?_ ?_
    · intro l k d1 d2 hk
      obtain ⟨hk1, hk2⟩ := backY_at hk
      rw [L_length] at hk1 hk2
      have hj : xs.length - 1 - k < xs.length := by omega
      have hxat : (L xs).getD (xs.length - 1 - k) .np = U xs[xs.length - 1 - k] := by
        rw [List.getD_eq_getElem?_getD, L_at (List.getElem?_eq_getElem hj)]; rfl
      rw [hxat] at hk2
      simp only [List.cons.injEq, and_true] at hk2
      obtain ⟨rfl, rfl⟩ := hk2
      have hva := val_at hj
      have hx := hdok.at (List.getElem?_eq_getElem hj)
      have hsm := hvs (xs.length - 1 - k)
      have e1 : xs.length - 1 - k + 1 = xs.length - k := by omega
      have e2 : xs.length - (k + 1) = xs.length - 1 - k := by omega
      rw [e1] at hva hsm
      rw [e2]
      generalize xs[xs.length - 1 - k] = x at *
      generalize val (xs.drop (xs.length - k)) = n at *
      rw [hva]
      refine .region ?_; refine asd ?_; refine rn ?_
      show AW _ _ _ _ _ _
      refine .block ?_; refine .region ?_
      refine ldb (cs := [.d (.i .i64 (n : Int))]) (c := .d (.i .i64 (n : Int))) rfl rfl ?_ ai1
      refine bie (.i .i64 ((n * 4294967296 : Nat) : Int)) ?_ ?_
      · refine ⟨by decide, ?_⟩
        have : IntKind.i64.wrap ((n : Int) * 4294967296) = ((n * 4294967296 : Nat) : Int) := by
          rw [wraps_i64 _ (by omega) (by omega)]; omega
        rw [← this]; simp [IntKind.bits]
      refine mvd ?_
      refine cve (x : Int) (wraps_i64 _ (by omega) (by omega)) ?_ u32 i64
      refine bie (.i .i64 ((n * 4294967296 + x : Nat) : Int)) ?_ ?_
      · exact ⟨trivial, by rw [i64_join hsm hx]⟩
      refine stb (cs := [.d (.i .i64 (n : Int))]) (c := .d (.i .i64 (n : Int))) rfl rfl ?_ zi1
      refine .nil ?_
      refine ⟨rfl, ?_⟩
      rw [show n * 4294967296 + x = x + 4294967296 * n by omega]
      rfl
    · show AWM _ _ _ _ _ _
      refine .lift ?_
      rw [backY_length, L_length, Nat.sub_self, List.drop_zero, hvd]
      refine .seq ?_; refine .region ?_
      refine ldb (cs := [.d (.i .i64 ((val a : Nat) : Int))]) (c := .d (.i .i64 ((val a : Nat) : Int))) rfl rfl ?_ ai1
      refine asd ?_; refine asd ?_; refine rn ?_; refine .ret ?_
      exact ⟨by decide, by rw [decide_eq_true hb, smallN, if_pos hb]; rfl, rfl, rfl⟩
  · rw [decide_eq_true (show ((63 : Int) < (bitsN (val a) : Int)) by omega)]
    refine cndt ?_; refine .seq ?_; refine .region ?_; refine asd ?_; refine asd ?_; refine rn ?_; refine .ret ?_
    exact ⟨by decide, by rw [decide_eq_false hb, smallN, if_neg hb]; rfl, rfl, rfl⟩
end Go.FL
/-
  nat.small: division by one limb.
-/
namespace Go.FL
open Go Go.Proofs

theorem L_set (xs : List Nat) (i n : Nat) : (L xs).set i (U n) = L (xs.set i n) := by simp [L, List.map_set]
theorem L_at' {xs : List Nat} {i n : Nat} (h : xs[i]? = some n) : ∃ x, (L xs)[i]? = some x ∧ x.cells[0]? = some (U n) := ⟨U n, L_at h, rfl⟩
theorem L_leaf {xs : List Nat} {i n : Nat} (h : xs[i]? = some n) : ∃ x, (L xs)[i]? = some x ∧ x.leaf = true := ⟨U n, L_at h, rfl⟩
theorem small_round {ds qs : List Nat} {k x r d : Nat} (hx : ds[k]? = some x) (h : val (ds.drop (k + 1)) = val qs * d + r) :
    val (ds.drop k) = val ((r * 4294967296 + x) / d :: qs) * d + (r * 4294967296 + x) % d := by
  have hk : k < ds.length := (List.getElem?_eq_some_iff.1 hx).1
  have e : ds.drop k = x :: ds.drop (k + 1) := by
    rw [List.drop_eq_getElem_cons hk]
    rw [List.getElem?_eq_getElem hk] at hx; cases hx; rfl
  rw [e, val, h, val]
  have := Nat.div_add_mod (r * 4294967296 + x) d
  generalize (r * 4294967296 + x) / d = q at *
  generalize (r * 4294967296 + x) % d = s at *
  rw [Nat.add_mul, Nat.mul_add, Nat.mul_comm q d]
  have e2 : 4294967296 * (val qs * d) = 4294967296 * val qs * d := by rw [Nat.mul_assoc]
  omega
theorem divmod_of {n q r d : Nat} (h : n = q * d + r) (hr : r < d) : n / d = q ∧ n % d = r := by
  subst h
  have hd : 0 < d := by omega
  constructor
  · rw [Nat.mul_comm, Nat.mul_add_div hd, Nat.div_eq_of_lt hr]; omega
  · rw [Nat.mul_comm, Nat.mul_add_mod, Nat.mod_eq_of_lt hr]
theorem small_fn {a : List Nat} (h : Ok a) (hl : a.length ≤ 1048576) {d : Nat} (hd0 : 0 < d) (hd : d < 4294967296) : Fn Tryz.prog 232 [.sl (L a), .i .u32 d]
    (.tup [.d (.sl (L (digs (val a / d)))), .d (.sl (L (digs (val a % d))))]) := by
  have hdl := digs_len_le h
  refine Fn.of (rs := [.tmp 4, .tmp 5]) (nt := 35) Tryz.func232 rfl rfl rfl (by simp) rfl ?_; refine .seq ?_; refine .region ?_; refine asn ?_; refine asn ?_; refine rn ?_; refine .seq ?_; refine .region ?_; refine mvd ?_
  refine cl ?_ (Trim_fn h (by omega)) Tryz.call198
  refine aso ?_; refine rn ?_; refine .seq ?_; refine .region ?_; refine asd ?_; refine rn ?_
  generalize hds : digs (val a) = ds at *
  have hok : Ok ds := by rw [← hds]; exact digs_ok _
  have hv : val ds = val a := by rw [← hds, val_digs]
  refine .mid (fun e H' => ∃ qs r, e = [(4, .own 121 (L qs)), (6, .d (.i .u32 ((r : Nat) : Int)))] ∧ H' = [] ∧ Ok qs ∧ qs.length = ds.length ∧ r < d ∧ val a = val qs * d + r) ?_ ?_
  · refine .seq ?_
    refine .region ?_; refine mvo ?_
    refine lnr ?_ l32
    refine su ((ds.length : Int) - 1) ?_ ?_
    · simp [L_length]; omega
    refine asd ?_; refine rn ?_; refine .block ?_
    refine .loop (.gh (Gh.keep [1, 4, 6, 7] rfl) ?_)
    refine AL.cast (env' := [(1, .d (.i .u32 d)), (4, .own 121 (L (ds.take ds.length ++ []))), (6, .d (.i .u32 ((0 : Nat) : Int))), (7, .d (.i .i64 ((ds.length : Int) - 1)))]) (by simp [keepE, get, argEnv]) ?_
    refine AL.ind (σ := Nat × List Nat × Nat) (m := fun s => s.1) (e := fun s => [(1, .d (.i .u32 d)), (4, .own 121 (L (ds.take s.1 ++ s.2.1))), (6, .d (.i .u32 (s.2.2 : Int))), (7, .d (.i .i64 ((s.1 : Int) - 1)))]) (h := fun _ => [])
      (I := fun s => s.1 ≤ ds.length ∧ Ok s.2.1 ∧ s.2.1.length + s.1 = ds.length ∧ s.2.2 < d ∧ val (ds.drop s.1) = val s.2.1 * d + s.2.2) ?_ (ds.length, [], 0) ?_
    rotate_left
    · exact ⟨Nat.le_refl _, .nil, by simp, hd0, by simp [val]⟩
    rintro ⟨k, qs, r⟩ ⟨h1, h2, h3, h4, h5⟩ ih
    dsimp only at h1 h2 h3 h4 h5 ih ⊢
    refine .seq ?_; refine .seq ?_; refine .region ?_; refine mvd ?_; refine bi ?_; refine rn ?_
    rcases Nat.eq_zero_or_pos k with rfl | hk
    · rw [decide_eq_false (show ¬ (0:Int) ≤ ((0 : Nat) : Int) - 1 by omega)]
      refine cndf ?_; refine .gh (Gh.keep [4, 6] rfl) ?_; refine .exit ?_
      refine ⟨qs, r, rfl, rfl, h2, by omega, h4, ?_⟩
      rw [← hv, ← h5, List.drop_zero]
    · obtain ⟨k, rfl⟩ : ∃ j, k = j + 1 := ⟨k - 1, by omega⟩
      have hx : ds[k]? = some ds[k] := List.getElem?_eq_getElem (by omega)
      generalize ds[k] = x at hx
      have hx' : (ds.take (k + 1) ++ qs)[k]? = some x := by
        rw [List.getElem?_append_left (by simp; omega), List.getElem?_take_of_lt (by omega)]; exact hx
      rw [decide_eq_true (show (0:Int) ≤ ((k + 1 : Nat) : Int) - 1 by omega)]
      refine cndt ?_; refine .skip ?_
      show AW _ _ _ _ _ _
      refine .seq ?_; refine .block ?_; refine .region ?_; refine mvo ?_; refine mvd ?_; refine mvd ?_; refine mvo ?_; refine mvd ?_
      refine ixr k ?_ ?_ ?_ s32 (by decide)
      · omega
      · simp [L_length]; omega
      refine lde (U x) ?_ ?_ a32
      · rw [Nat.zero_add]; exact L_at' hx'
      refine mvd ?_
      refine cl (xs := [.i .u32 r, .i .u32 x, .i .u32 d]) ?_ (Div32_fn h4 (hok.at hx) hd) Tryz.call244
      refine mvt ?_; refine ex ?_; refine ex ?_
      refine ixr k ?_ ?_ ?_ s32 (by decide)
      · omega
      · simp [L_length]; omega
      refine ste ?_ ?_ z32
      · rw [Nat.zero_add]; exact L_leaf hx'
      refine asd ?_; refine .nil ?_
      show AW _ _ _ _ _ _
      refine .region ?_; refine mvd ?_; refine su ((k : Int) - 1) ?_ ?_
      · omega
      refine asd ?_; refine .nil ?_
      have hq : (r * 4294967296 + x) / d < 4294967296 := by
        rw [Nat.div_lt_iff_lt_mul (by omega)]
        have : r * 4294967296 + 4294967296 ≤ d * 4294967296 := by rw [← Nat.succ_mul]; exact Nat.mul_le_mul_right _ h4
        have := hok.at hx
        omega
      have e1 : (L (ds.take (k + 1) ++ qs)).set (0 + k) (U ((r * 4294967296 + x) / d)) = L (ds.take k ++ ((r * 4294967296 + x) / d :: qs)) := by
        rw [L_set, Nat.zero_add, List.take_add_one, hx]
        congr 1
        rw [List.append_assoc, List.set_append_right _ _ (by simp; omega)]
        simp [Nat.min_eq_left (show k ≤ ds.length by omega)]
      refine AL.gh (Gh.keep [1, 4, 6, 7] rfl) ?_
      have := ih (k, (r * 4294967296 + x) / d :: qs, (r * 4294967296 + x) % d) ⟨by omega, .cons hq h2, by simp; omega, Nat.mod_lt _ hd0, small_round hx h5⟩ (by simp)
      dsimp only at this
      rw [← e1] at this
      exact this
  · rintro _ _ ⟨qs, r, rfl, rfl, h1, h2, h3, h4⟩
    obtain ⟨e1, e2⟩ := divmod_of h4 h3
    rw [e1, e2]
    refine .seq ?_; refine .region ?_; refine fz (p := .t 4) ?_; refine mvd ?_
    refine cl (xs := [.sl (L qs)]) ?_ (cut_val h1 (by omega)) Tryz.call197
    refine mvd ?_
    refine cve (r : Int) (toU64 (by omega)) ?_ u32 u64
    refine cl ?_ (Of_fn (n := r) (by omega)) Tryz.call158
    refine asd ?_; refine asd ?_; refine rn ?_; refine .ret ?_
    exact ⟨by decide, rfl, rfl, rfl⟩
end Go.FL
/-
  slices.Reverse of bytes.
-/
namespace Go.FL
open Go Go.Proofs

theorem z8 : szOf Tryz.prog 5 = 1 := by kernel_rfl
end Go.FL
/-
  Decimal digits, the last one first.
-/
namespace Go.FL
open Go Go.Proofs

def Dig (xs : List Nat) : Prop := ∀ x ∈ xs, 48 ≤ x ∧ x ≤ 57
end Go.FL
/-
  nat.Print.
-/
namespace Go.FL
open Go Go.Proofs

theorem Dig.snoc {xs : List Nat} {x : Nat} (h : Dig xs) (h1 : 48 ≤ x) (h2 : x ≤ 57) : Dig (xs ++ [x]) := by
  intro y hy
  rcases List.mem_append.1 hy with hy | hy
  · exact h y hy
  · simp at hy; subst hy; exact ⟨h1, h2⟩
theorem digs_ne {m : Nat} (h : 0 < m) : 0 < (digs m).length := by rw [digs_pos (by omega)]; simp
end Go.FL
/-
  nat.Compare.
-/
namespace Go.FL
open Go Go.Proofs

def cmpN (m n : Nat) : Int := if m < n then -1 else if m = n then 0 else 1
theorem digs_lt {m n : Nat} (h : (digs m).length < (digs n).length) : m < n := by
  rcases Nat.lt_or_ge m n with h1 | h1
  · exact h1
  · have h2 := val_lt (digs_ok m)
    rw [val_digs] at h2
    have := digs_len (n := n) (k := (digs m).length) (by omega)
    omega
theorem cmp_at {xs ys : List Nat} (hx : Ok xs) (hy : Ok ys) {i : Nat} (h : xs.drop (i + 1) = ys.drop (i + 1)) {x y : Nat} (h1 : xs[i]? = some x) (h2 : ys[i]? = some y) (hxy : x < y) : val xs < val ys := by
  have hxl : i < xs.length := (List.getElem?_eq_some_iff.1 h1).1
  have hyl : i < ys.length := (List.getElem?_eq_some_iff.1 h2).1
  have ex : xs = xs.take i ++ x :: xs.drop (i + 1) := by
    have := List.getElem?_eq_some_iff.1 h1
    rw [← this.2, ← List.drop_eq_getElem_cons hxl, List.take_append_drop]
  have ey : ys = ys.take i ++ y :: ys.drop (i + 1) := by
    have := List.getElem?_eq_some_iff.1 h2
    rw [← this.2, ← List.drop_eq_getElem_cons hyl, List.take_append_drop]
  have lx : (xs.take i).length = i := by rw [List.length_take]; omega
  have ly : (ys.take i).length = i := by rw [List.length_take]; omega
  have vx := val_lt (hx.take i)
  rw [ex, ey, val_append, val_append, lx, ly, h]
  rw [lx] at vx
  simp only [val]
  have h3 : 4294967296 ^ i * (x + 4294967296 * val (ys.drop (i + 1))) + 4294967296 ^ i ≤ 4294967296 ^ i * (y + 4294967296 * val (ys.drop (i + 1))) := by
    rw [← Nat.mul_succ]
    exact Nat.mul_le_mul_left _ (by omega)
  omega
theorem Compare_fn {a b : List Nat} (ha : Ok a) (hb : Ok b) (hla : a.length ≤ 35184372087808) (hlb : b.length ≤ 35184372087808) : Fn Tryz.prog 164 [.sl (L a), .sl (L b)] (.d (.i .i64 (cmpN (val a) (val b)))) := by
  have dla := Nat.le_trans (digs_len_le ha) hla
  have dlb := Nat.le_trans (digs_len_le hb) hlb
  have va := val_digs (val a)
  have vb := val_digs (val b)
  have oa := digs_ok (val a)
  have ob := digs_ok (val b)
  have lt1 := @digs_lt (val a) (val b)
  have lt2 := @digs_lt (val b) (val a)
  refine Fn.of (rs := [.tmp 4]) (nt := 47) Tryz.func164 rfl rfl rfl (by simp) rfl ?_; refine .seq ?_; refine .region ?_; refine asd ?_; refine rn ?_; refine .seq ?_; refine .region ?_; refine mvd ?_
  refine cl (xs := [.sl (L a)]) ?_ (cut_fn a (by omega)) Tryz.call197
  refine mvd ?_
  refine cl (xs := [.sl (L b)]) ?_ (cut_fn b (by omega)) Tryz.call197
  refine asd ?_; refine asd ?_; refine rn ?_
  rw [cutL_val ha, cutL_val hb]
  generalize digs (val a) = xs at *
  generalize digs (val b) = ys at *
  refine .seq ?_; refine .seq ?_; refine .region ?_; refine mvd ?_
  refine ln ?_ (L_sz _) l32
  refine mvd ?_
  refine ln ?_ (L_sz _) l32
  refine bi ?_; refine rn ?_
  by_cases hlen : xs.length = ys.length
  · have e1 : (!decide (((L xs).length : Int) = ((L ys).length : Int))) = false := by simp [L_length]; omega
    rw [e1]
    refine cndf ?_; refine .skip ?_
    show AW _ _ _ _ _ _
    refine .seq ?_; refine .seq ?_; refine .region ?_; refine mvd ?_
    refine ln ?_ (L_sz _) l32
    refine su ((xs.length : Int) - 1) ?_ ?_
    · rw [L_length]; omega
    refine asd ?_; refine rn ?_; refine .block ?_
    refine .loop (.gh (Gh.keep [0, 1, 5] rfl) ?_)
    refine AL.ind (σ := Nat) (m := fun i => i) (e := fun i => [(0, .d (.sl (L xs))), (1, .d (.sl (L ys))), (5, .d (.i .i64 ((i : Int) - 1)))]) (h := fun _ => [])
      (I := fun i => i ≤ xs.length ∧ xs.drop i = ys.drop i) ?_ xs.length ⟨Nat.le_refl _, by rw [List.drop_of_length_le (Nat.le_refl _), List.drop_of_length_le (by omega)]⟩
    rintro i ⟨h1, h2⟩ ih
    refine .seq ?_; refine .seq ?_; refine .region ?_; refine mvd ?_; refine bi ?_; refine rn ?_
    cases i with
    | zero =>
      rw [decide_eq_false (show ¬ (0 : Int) ≤ ((0 : Nat) : Int) - 1 by omega)]
      refine cndf ?_; refine .exit ?_
      show AW _ _ _ _ _ _
      refine .seq ?_; refine .region ?_; refine asd ?_; refine rn ?_; refine .ret ?_
      simp only [List.drop_zero] at h2
      subst h2
      exact ⟨by rw [← va, ← vb]; unfold cmpN; rw [if_neg (by omega), if_pos rfl]; rfl, rfl⟩
    | succ i =>
      have hx : xs[i]? = some xs[i] := List.getElem?_eq_getElem (by omega)
      have hy : ys[i]? = some ys[i] := List.getElem?_eq_getElem (by omega)
      have hdx : xs.drop i = xs[i] :: xs.drop (i + 1) := List.drop_eq_getElem_cons (by omega)
      have hdy : ys.drop i = ys[i] :: ys.drop (i + 1) := List.drop_eq_getElem_cons (by omega)
      generalize xs[i] = x at hx hdx
      generalize ys[i] = y at hy hdy
      rw [decide_eq_true (show (0 : Int) ≤ ((i + 1 : Nat) : Int) - 1 by omega)]
      refine cndt ?_; refine .skip ?_
      show AW _ _ _ _ _ _
      refine .gh (Gh.keep [0, 1, 5] rfl) ?_; refine .seq ?_; refine .block ?_; refine .seq ?_; refine .drawn 9 mixed (by kernel_rfl) ?_; refine dv vmvd ?_; refine dv vmvd ?_; refine dv (vix (z := ((i + 1 : Nat) : Int) - 1) i (by omega) (L_at hx) rfl s32) ?_; refine dv (vldp a32) ?_; refine dv vmvd ?_; refine dv vmvd ?_; refine dv (vix (z := ((i + 1 : Nat) : Int) - 1) i (by omega) (L_at hy) rfl s32) ?_; refine dv (vldp a32) ?_; refine dv vbi ?_; refine dz ?_; refine rn ?_
      by_cases hxy : x = y
      · subst hxy
        have e1 : (!decide ((x : Int) = (x : Int))) = false := by simp
        rw [e1]
        refine cndf ?_; refine .skip ?_
        show AW _ _ _ _ _ _
        refine .gh (Gh.keep [0, 1, 5] rfl) ?_; refine .region ?_; refine mvd ?_; refine su ((i : Int) - 1) ?_ ?_
        · omega
        refine asd ?_; refine rn ?_; refine .gh (Gh.keep [0, 1, 5] rfl) ?_
        exact ih i ⟨by omega, by rw [hdx, hdy, h2]⟩ (by omega)
      · have e1 : (!decide ((x : Int) = (y : Int))) = true := by simp; omega
        rw [e1]
        refine cndt ?_; refine .seq ?_; refine .seq ?_; refine .gh (Gh.keep [0, 1, 5] rfl) ?_; refine .drawn 9 mixed (by kernel_rfl) ?_; refine dv vmvd ?_; refine dv vmvd ?_; refine dv (vix (z := ((i + 1 : Nat) : Int) - 1) i (by omega) (L_at hx) rfl s32) ?_; refine dv (vldp a32) ?_; refine dv vmvd ?_; refine dv vmvd ?_; refine dv (vix (z := ((i + 1 : Nat) : Int) - 1) i (by omega) (L_at hy) rfl s32) ?_; refine dv (vldp a32) ?_; refine dv vbi ?_; refine dz ?_; refine rn ?_
        by_cases hlt : x < y
        · rw [decide_eq_true (show (x : Int) < (y : Int) by omega)]
          refine cndt ?_; refine .seq ?_; refine .region ?_; refine asd ?_; refine rn ?_; refine .ret ?_
          have := cmp_at oa ob h2 hx hy hlt
          exact ⟨by unfold cmpN; rw [if_pos (by omega)]; rfl, rfl⟩
        · rw [decide_eq_false (show ¬ (x : Int) < (y : Int) by omega)]
          refine cndf ?_; refine .skip ?_
          show AW _ _ _ _ _ _
          refine .seq ?_; refine .region ?_; refine asd ?_; refine rn ?_; refine .ret ?_
          have := cmp_at ob oa h2.symm hy hx (by omega)
          exact ⟨by unfold cmpN; rw [if_neg (by omega), if_neg (by omega)]; rfl, rfl⟩
  · have e1 : (!decide (((L xs).length : Int) = ((L ys).length : Int))) = true := by simp [L_length]; omega
    rw [e1]
    refine cndt ?_; refine .seq ?_; refine .region ?_; refine mvd ?_
    refine ln ?_ (L_sz _) l32
    refine mvd ?_
    refine ln ?_ (L_sz _) l32
    refine su ((xs.length : Int) - ys.length) ?_ ?_
    · rw [L_length, L_length]; omega
    refine mx ?_; refine mn ?_; refine asd ?_; refine rn ?_; refine .ret ?_
    refine ⟨?_, rfl⟩
    show AV.d (.i .i64 _) = _
    congr 2
    unfold cmpN
    by_cases hl : xs.length < ys.length
    · have h1 := lt1 hl
      rw [if_pos h1]
      have hd : (xs.length : Int) - ys.length ≤ -1 := by omega
      generalize (xs.length : Int) - ys.length = d at hd
      have e2 : (if d < -1 then (-1 : Int) else d) = -1 := by split <;> omega
      rw [e2]; rfl
    · have h1 := lt2 (by omega)
      rw [if_neg (show ¬ val a < val b by omega), if_neg (show ¬ val a = val b by omega)]
      have hd : 1 ≤ (xs.length : Int) - ys.length := by omega
      generalize (xs.length : Int) - ys.length = d at hd
      have e2 : (if d < -1 then (-1 : Int) else d) = d := if_neg (by omega)
      rw [e2]
      split <;> omega
end Go.FL
/-
  nat.DivMod by one limb; live.
-/
namespace Go.FL
open Go Go.Proofs

theorem one_limb {n : Nat} (h0 : 0 < n) (h : n < 4294967296) : digs n = [n] := by
  rw [digs_pos (by omega), Nat.mod_eq_of_lt h, Nat.div_eq_of_lt h, digs_zero]
end Go.FL
/-
  (*nat.limbs).add: a number is added at a place.
-/
namespace Go.FL
open Go Go.Proofs

def padL (xs : List Nat) (at_ : Nat) : List Nat := xs ++ List.replicate (at_ + 1 - xs.length) 0
theorem padL_len (xs : List Nat) (at_ : Nat) : at_ < (padL xs at_).length ∧ (at_ < xs.length → padL xs at_ = xs) := by
  constructor
  · simp [padL]; omega
  · intro h; simp [padL, show at_ + 1 - xs.length = 0 by omega]
theorem padL_zero {xs : List Nat} {at_ : Nat} (h : ¬ at_ < xs.length) : (padL xs at_).getD at_ 0 = 0 := by
  simp only [padL, List.getD_eq_getElem?_getD]
  rw [List.getElem?_append_right (by omega)]
  simp only [List.getElem?_replicate]
  split <;> rfl
theorem padL_length (xs : List Nat) (at_ : Nat) : (padL xs at_).length = max xs.length (at_ + 1) := by simp [padL]; omega
def addL (xs : List Nat) (n at_ : Nat) : List Nat :=
  if h : n = 0 then xs
  else addL ((padL xs at_).set at_ ((n + (padL xs at_).getD at_ 0) % 4294967296)) ((n + (padL xs at_).getD at_ 0) / 4294967296) (at_ + 1)
termination_by (xs.length - at_, n)
decreasing_by
  by_cases hl : at_ < xs.length
  · apply Prod.Lex.left
    rw [List.length_set, (padL_len xs at_).2 hl]; omega
  · rw [padL_zero hl, Nat.add_zero, List.length_set, padL_length]
    rw [show max xs.length (at_ + 1) - (at_ + 1) = xs.length - at_ by omega]
    apply Prod.Lex.right
    exact Nat.div_lt_self (by omega) (by decide)
theorem addL_zero (xs : List Nat) (at_ : Nat) : addL xs 0 at_ = xs := by unfold addL; simp
theorem addL_pos {xs : List Nat} {n at_ : Nat} (h : n ≠ 0) : addL xs n at_ = addL ((padL xs at_).set at_ ((n + (padL xs at_).getD at_ 0) % 4294967296)) ((n + (padL xs at_).getD at_ 0) / 4294967296) (at_ + 1) := by
  conv => lhs; unfold addL
  simp [h]
theorem val_replicate (k : Nat) : val (List.replicate k 0) = 0 := by
  induction k with
  | zero => rfl
  | succ k ih => simp [List.replicate_succ, val, ih]
theorem padL_val (xs : List Nat) (at_ : Nat) : val (padL xs at_) = val xs := by simp [padL, val_append, val_replicate]
theorem padL_ok {xs : List Nat} (h : Ok xs) (at_ : Nat) : Ok (padL xs at_) := h.append fun x hx => by
  rw [List.eq_of_mem_replicate hx]; decide
theorem val_set : ∀ {xs : List Nat} {i x y : Nat}, xs[i]? = some x → val (xs.set i y) + x * 4294967296 ^ i = val xs + y * 4294967296 ^ i := by
  intro xs
  induction xs with
  | nil => intro i x y h; simp at h
  | cons z zs ih =>
    intro i x y h
    cases i with
    | zero => simp at h; subst h; simp only [List.set_cons_zero, val, Nat.pow_zero, Nat.mul_one]; omega
    | succ i =>
      have := ih (y := y) (by simpa using h)
      simp only [List.set_cons_succ, val, Nat.pow_succ]
      have e1 : x * (4294967296 ^ i * 4294967296) = 4294967296 * (x * 4294967296 ^ i) := by rw [← Nat.mul_assoc, Nat.mul_comm]
      have e2 : y * (4294967296 ^ i * 4294967296) = 4294967296 * (y * 4294967296 ^ i) := by rw [← Nat.mul_assoc, Nat.mul_comm]
      rw [e1, e2]; omega
theorem addL_val (xs : List Nat) (n at_ : Nat) (h : Ok xs) : val (addL xs n at_) = val xs + n * 4294967296 ^ at_ ∧ Ok (addL xs n at_) := by
  induction xs, n, at_ using addL.induct with
  | case1 xs at_ => rw [addL_zero]; exact ⟨by simp, h⟩
  | case2 xs n at_ hn ih =>
    rw [addL_pos hn]
    have hlt := (padL_len xs at_).1
    have hx : (padL xs at_)[at_]? = some ((padL xs at_).getD at_ 0) := by rw [List.getD_eq_getElem?_getD, List.getElem?_eq_getElem hlt]; rfl
    generalize (padL xs at_).getD at_ 0 = x at *
    have hp := padL_ok h at_
    obtain ⟨i1, i2⟩ := ih (hp.set _ (Nat.mod_lt _ (by decide)))
    refine ⟨?_, i2⟩
    rw [i1]
    have hs := val_set (y := (n + x) % 4294967296) hx
    rw [padL_val] at hs
    have e1 : (n + x) / 4294967296 * 4294967296 ^ (at_ + 1) = (n + x) / 4294967296 * 4294967296 * 4294967296 ^ at_ := by rw [Nat.pow_succ, Nat.mul_comm (4294967296 ^ at_), Nat.mul_assoc]
    have e2 : (n + x) % 4294967296 * 4294967296 ^ at_ + (n + x) / 4294967296 * 4294967296 * 4294967296 ^ at_ = (n + x) * 4294967296 ^ at_ := by
      rw [← Nat.add_mul]; congr 1; omega
    have e3 : (n + x) * 4294967296 ^ at_ = n * 4294967296 ^ at_ + x * 4294967296 ^ at_ := Nat.add_mul _ _ _
    omega
theorem addL_len (xs : List Nat) (n at_ : Nat) (h : Ok xs) : ∀ j, n ≤ 4294967296 ^ j → (addL xs n at_).length ≤ max xs.length (at_ + j) + 1 := by
  induction xs, n, at_ using addL.induct with
  | case1 xs at_ => intro j _; rw [addL_zero]; omega
  | case2 xs n at_ hn0 ih =>
    intro j hj
    rw [addL_pos hn0]
    have hlt := (padL_len xs at_).1
    have hx : (padL xs at_)[at_]? = some ((padL xs at_).getD at_ 0) := by rw [List.getD_eq_getElem?_getD, List.getElem?_eq_getElem hlt]; rfl
    have hp := padL_ok h at_
    have hxl := hp.at hx
    have ih := ih (hp.set _ (Nat.mod_lt _ (by decide)))
    rw [List.length_set, padL_length] at ih
    by_cases hl : at_ < xs.length
    · cases j with
      | zero =>
        have := ih 0 (by rw [Nat.pow_zero] at hj ⊢; omega)
        omega
      | succ j =>
        have := ih j (by
          rw [Nat.pow_succ] at hj
          have : (n + (padL xs at_).getD at_ 0) / 4294967296 < 4294967296 ^ j + 1 := by
            rw [Nat.div_lt_iff_lt_mul (by decide), Nat.add_mul]; omega
          omega)
        omega
    · have h0 := padL_zero hl
      rw [h0] at ih ⊢
      cases j with
      | zero =>
        simp at hj
        have e : (n + 0) / 4294967296 = 0 := by omega
        rw [e, addL_zero, List.length_set, padL_length]; omega
      | succ j =>
        have := ih j (by
          rw [Nat.pow_succ] at hj
          rw [Nat.add_zero]
          exact (Nat.div_le_iff_le_mul_add_pred (by decide)).2 (by omega))
        omega

theorem addL_ge (xs : List Nat) (n at_ : Nat) : xs.length ≤ (addL xs n at_).length ∧ (n ≠ 0 → at_ < (addL xs n at_).length) := by
  induction xs, n, at_ using addL.induct with
  | case1 xs at_ => rw [addL_zero]; exact ⟨Nat.le_refl _, fun h => absurd rfl h⟩
  | case2 xs n at_ hn0 ih =>
    rw [addL_pos hn0]
    have h1 := ih.1
    rw [List.length_set, padL_length] at h1
    exact ⟨by omega, fun _ => by omega⟩
abbrev hb (H : Heap) (id off : Nat) (cs : List AV) (xs : List Nat) : Heap := H.set id (.box (cs.set off (.own 121 (L xs))))
theorem hb_get {H : Heap} {id off : Nat} {cs : List AV} {xs : List Nat} (h : id < H.length) : (hb H id off cs xs)[id]? = some (.box (cs.set off (.own 121 (L xs)))) := by simp [hb, h]
theorem hb_cell {off : Nat} {cs : List AV} {v : AV} (h : off < cs.length) : (cs.set off v)[off]? = some v := by simp [h]
theorem hb_plAV (H : Heap) {id off : Nat} {cs : List AV} {xs : List Nat} (env : Env) (h : id < H.length) (ho : off < cs.length) : plAV env (hb H id off cs xs) (.c id off) = .own 121 (L xs) := by
  simp [plAV, hb, h, List.getD_eq_getElem?_getD, ho]
theorem hb_setP (H : Heap) {id off : Nat} {cs : List AV} {xs ys : List Nat} (h : id < H.length) : setP (.c id off) (.own 121 (L ys)) (hb H id off cs xs) = hb H id off cs ys := by
  simp [setP, setC, hb, h]
end Go.FL
/-
  (*nat.limbs).add: the walk.
-/
namespace Go.FL
open Go Go.Proofs

theorem add_fn {H : Heap} {id off : Nat} {cs : List AV} {xs0 : List Nat} (hH : H[id]? = some (.box cs)) (hc : cs[off]? = some (.own 121 (L xs0))) (hx0 : Ok xs0) (hl0 : xs0.length ≤ 1048576) {n0 at0 : Nat} (hn0 : n0 < 18446744069414584320) (hat0 : at0 ≤ 1048576) :
    FnG Tryz.prog 241 [.bp id off, .d (.i .u64 n0), .d (.i .i64 at0)] H (.tup []) [] (hb H id off cs (addL xs0 n0 at0)) := by
  have hid : id < H.length := (List.getElem?_eq_some_iff.1 hH).1
  have hoff : off < cs.length := (List.getElem?_eq_some_iff.1 hc).1
  have hHe : H = hb H id off cs xs0 := by
    unfold hb
    rw [List.set_same _ _ hc, List.set_same _ _ hH]
  have hlen : (addL xs0 n0 at0).length ≤ 1048580 := by
    have := addL_len xs0 n0 at0 hx0 2 (by simp; omega); omega
  refine FnG.of (rs := []) 0 41 Tryz.func241 rfl rfl rfl (by simp) (by simp) (by simp) ?_; refine .block ?_
  refine .loop (.gh (Gh.keep [0, 1, 2] rfl) ?_)
  refine AL.castH hHe ?_
  refine AL.ind (σ := List Nat × Nat × Nat) (m := fun s => (s.1.length - s.2.2) * 36893488147419103232 + s.2.1) (e := fun s => [(0, .bp id off), (1, .d (.i .u64 (s.2.1 : Int))), (2, .d (.i .i64 (s.2.2 : Int)))]) (h := fun s => hb H id off cs s.1)
    (I := fun s => addL s.1 s.2.1 s.2.2 = addL xs0 n0 at0 ∧ Ok s.1 ∧ s.2.1 < 18446744069414584320) ?_ (xs0, n0, at0) ⟨rfl, hx0, hn0⟩
  rintro ⟨xs, n, at_⟩ ⟨h1, h2, h3⟩ ih
  dsimp only at h1 h2 h3 ih ⊢
  have hge := addL_ge xs n at_
  rw [h1] at hge
  refine .seq ?_; refine .seq ?_; refine .region ?_; refine mvd ?_; refine bi ?_; refine rn ?_
  by_cases hn : n = 0
  · subst hn
    refine cndf ?_; refine .exit ?_
    rw [addL_zero] at h1
    subst h1
    exact ⟨⟨[], by simp⟩, rfl, by simp⟩
  · rw [decide_eq_true (show (0:Int) < (n:Int) by omega)]
    have hat := hge.2 hn
    refine cndt ?_; refine .skip ?_
    show AW _ _ _ _ _ _
    refine .seq ?_; refine .block ?_; refine .mid (fun e H' => e = [(0, .bp id off), (1, .d (.i .u64 (n : Int))), (2, .d (.i .i64 (at_ : Int)))] ∧ H' = hb H id off cs (padL xs at_)) ?_ ?_
    · refine .block ?_
      refine .loop (.gh (Gh.keep [0, 1, 2] rfl) ?_)
      refine AL.ind (σ := List Nat) (m := fun ys => at_ + 1 - ys.length) (e := fun _ => [(0, .bp id off), (1, .d (.i .u64 (n : Int))), (2, .d (.i .i64 (at_ : Int)))]) (h := fun ys => hb H id off cs ys)
        (I := fun ys => padL ys at_ = padL xs at_ ∧ ys.length ≤ 1048580) ?_ xs ⟨rfl, by omega⟩
      rintro ys ⟨g1, g2⟩ ih2
      refine .seq ?_; refine .seq ?_; refine .region ?_; refine mvd ?_; refine mvb ?_; refine ncb ?_
      refine ldbo (hb_get hid) (hb_cell hoff) ?_ alm
      refine lnr ?_ llm
      refine bi ?_; refine rn ?_
      by_cases hl : at_ < ys.length
      · rw [decide_eq_false (show ¬ (((L ys).length : Nat) : Int) ≤ (at_:Int) by rw [L_length]; omega)]
        refine cndf ?_; refine .gh (Gh.keep [0, 1, 2] rfl) ?_; refine .exit ?_
        refine ⟨rfl, ?_⟩
        rw [← g1, (padL_len ys at_).2 hl]
      · rw [decide_eq_true (show (((L ys).length : Nat) : Int) ≤ (at_:Int) by rw [L_length]; omega)]
        refine cndt ?_; refine .skip ?_
        show AW _ _ _ _ _ _
        refine .gh (Gh.keep [0, 1, 2] rfl) ?_; refine .block ?_; refine .region ?_; refine mvb ?_; refine mvb ?_; refine ncb ?_
        refine ldbo (hb_get hid) (hb_cell hoff) ?_ alm
        refine bsl ?_ ?_ elm
        · simp [DV.flat, DV.cells, DV.leaf]
        refine apc (ys := [.i .u32 0]) (hb_get hid) (hb_cell hoff) ?_ ?_ (by simp [DV.cells]) elm
        · simp [L_length]; omega
        refine ncb ?_; refine RL.gh (Gh.keep [0, 1, 2, 21, 22] rfl) ?_
        refine stbo (id := id) (off := off) (cs := (cs.set off (.own 121 (L ys))).set off .un) (c := .un) ?_ ?_ ?_ zlm
        · simp [hb, hid]
        · simp [hoff]
        refine .nil ?_; refine AL.gh (Gh.keep [0, 1, 2] rfl) ?_
        have e1 : padL (ys ++ [0]) at_ = padL xs at_ := by
          rw [← g1]
          simp only [padL, List.length_append, List.length_singleton, List.append_assoc]
          rw [show at_ + 1 - ys.length = (at_ + 1 - (ys.length + 1)) + 1 by omega, List.replicate_succ]; rfl
        have := ih2 (ys ++ [0]) ⟨e1, by simp; omega⟩ (by simp; omega)
        have e2 : (L ys).take (L ys).length ++ [DV.i .u32 0] = L (ys ++ [0]) := by rw [List.take_length]; simp [L, U]
        refine AL.castH ?_ this
        rw [e2]
        simp [hb]
    · rintro _ _ ⟨rfl, rfl⟩
      have hpl := padL_len xs at_
      have hx : (padL xs at_)[at_]? = some ((padL xs at_).getD at_ 0) := by rw [List.getD_eq_getElem?_getD, List.getElem?_eq_getElem hpl.1]; rfl
      have hpo := padL_ok h2 at_
      have hstep := addL_pos (xs := xs) (at_ := at_) hn
      rw [h1] at hstep
      have hxb := hpo.at hx
      have hm1 : ¬ at_ < xs.length → (padL xs at_).getD at_ 0 = 0 := fun h => padL_zero h
      have hpll := padL_length xs at_
      generalize (padL xs at_).getD at_ 0 = x at hx hstep hxb hm1
      generalize padL xs at_ = ys at hx hstep hpo hpl hpll
      have hylen : ys.length ≤ 1048580 := by omega
      refine .seq ?_; refine .region ?_; refine mvd ?_; refine mvb ?_; refine ncb ?_
      refine ldbo (hb_get hid) (hb_cell hoff) ?_ alm
      refine mvd ?_
      refine ixr (p := .c id off) (xs := L ys) at_ rfl ?_ ?_ slm (by decide) (hp := hb_plAV H _ hid hoff)
      · rw [L_length]; exact hpl.1
      refine lde (p := .c id off) (xs := L ys) (U x) ?_ ?_ a32 (hp := hb_plAV H _ hid hoff)
      · rw [Nat.zero_add]; exact L_at' hx
      refine cve (x : Int) (toU64 (by omega)) ?_ u32 u64
      refine bie (.i .u64 ((n + x : Nat) : Int)) ?_ ?_
      · exact ⟨trivial, by rw [← Int.natCast_add, toU64 (by omega)]⟩
      refine asd ?_; refine rn ?_; refine .seq ?_; refine .region ?_; refine mvb ?_; refine ncb ?_
      refine ldbo (hb_get hid) (hb_cell hoff) ?_ alm
      refine mvd ?_; refine mvd ?_
      refine cve (((n + x) % 4294967296 : Nat) : Int) (wrapU32 _) ?_ u64 u32
      refine ixr (p := .c id off) (xs := L ys) at_ rfl ?_ ?_ slm (by decide) (hp := hb_plAV H _ hid hoff)
      · rw [L_length]; exact hpl.1
      refine ste (p := .c id off) (xs := L ys) ?_ ?_ z32 (hp := hb_plAV H _ hid hoff) (hn := fun _ _ _ => Nat.zero_le _)
      · rw [Nat.zero_add]; exact L_leaf hx
      rw [show 0 + at_ = at_ from Nat.zero_add _, show DV.i .u32 (((n + x) % 4294967296 : Nat) : Int) = U ((n + x) % 4294967296) from rfl, L_set, hb_setP H hid]
      refine rn ?_; refine .region ?_; refine mvd ?_; refine bie (.i .u64 (((n + x) / 4294967296 : Nat) : Int)) ?_ ?_
      · simp [IntKind.bits]
      refine asd ?_; refine .nil ?_
      show AW _ _ _ _ _ _
      refine .region ?_; refine mvd ?_; refine ad ((at_ + 1 : Nat) : Int) ?_ ?_
      · omega
      refine asd ?_; refine .nil ?_; refine AL.gh (Gh.keep [0, 1, 2] rfl) ?_; refine AL.cast (env' := [(0, .bp id off), (1, .d (.i .u64 (((n + x) / 4294967296 : Nat) : Int))), (2, .d (.i .i64 ((at_ + 1 : Nat) : Int)))]) ?_ ?_
      · rfl
      refine (ih (ys.set at_ ((n + x) % 4294967296), (n + x) / 4294967296, at_ + 1) ⟨hstep.symm, hpo.set _ (Nat.mod_lt _ (by decide)), by show (n + x) / 4294967296 < 18446744069414584320; omega⟩ ?_)
      simp only [List.length_set]
      by_cases hl : at_ < xs.length
      · have : ys.length = xs.length := by omega
        rw [this]
        have e : xs.length - at_ = (xs.length - (at_ + 1)) + 1 := by omega
        rw [e, Nat.add_mul]; omega
      · have := hm1 hl
        subst this
        have e1 : ys.length - (at_ + 1) = 0 := by omega
        have e2 : xs.length - at_ = 0 := by omega
        rw [e1, e2]; omega
end Go.FL
/-
  (*nat.adder).number.
-/
namespace Go.FL
open Go Go.Proofs

theorem fad : fieldT Tryz.prog 186 0 = some (0, 1) := by kernel_rfl
def addAll : List Nat → List Nat → Nat → List Nat
  | xs, [], _ => xs
  | xs, y :: ys, i => addAll (addL xs y i) ys (i + 1)
theorem addAll_val : ∀ (ys xs : List Nat) (i : Nat), Ok xs → val (addAll xs ys i) = val xs + val ys * 4294967296 ^ i ∧ Ok (addAll xs ys i)
  | [], xs, i, h => ⟨by simp [addAll, val], h⟩
  | y :: ys, xs, i, h => by
    obtain ⟨a1, a2⟩ := addL_val xs y i h
    obtain ⟨b1, b2⟩ := addAll_val ys (addL xs y i) (i + 1) a2
    refine ⟨?_, b2⟩
    show val (addAll (addL xs y i) ys (i + 1)) = _
    rw [b1, a1, val, Nat.add_mul, Nat.pow_succ, Nat.add_assoc]
    congr 2
    rw [← Nat.mul_assoc, Nat.mul_comm (val ys * _), ← Nat.mul_assoc]
theorem addAll_ge : ∀ (ys xs : List Nat) (i : Nat), xs.length ≤ (addAll xs ys i).length
  | [], xs, i => Nat.le_refl _
  | y :: ys, xs, i => Nat.le_trans (addL_ge xs y i).1 (addAll_ge ys (addL xs y i) (i + 1))
theorem hb_app {H G : Heap} {id off : Nat} {cs : List AV} {xs ys : List Nat} (h : id < H.length) : hb (hb H id off cs xs ++ G) id off (cs.set off (.own 121 (L xs))) ys = hb H id off cs ys ++ G := by
  simp [hb, h]
theorem hb_getG {H G : Heap} {id off : Nat} {cs : List AV} {xs : List Nat} (h : id < H.length) : (hb H id off cs xs ++ G)[id]? = some (.box (cs.set off (.own 121 (L xs)))) := by
  rw [List.getElem?_append_left (by simpa using h)]; exact hb_get h
theorem number_fn {H : Heap} {id off : Nat} {cs : List AV} {xs0 b : List Nat} (hH : H[id]? = some (.box cs)) (hc : cs[off]? = some (.own 121 (L xs0))) (hx0 : Ok xs0) (hb0 : Ok b) (hl : b.length ≤ 1048576) (hl0 : (addAll xs0 b 0).length ≤ 1048576) :
    FnG Tryz.prog 219 [.bp id off, .d (.sl (L b))] H (.tup []) [] (hb H id off cs (addAll xs0 b 0)) := by
  have hid : id < H.length := (List.getElem?_eq_some_iff.1 hH).1
  have hoff : off < cs.length := (List.getElem?_eq_some_iff.1 hc).1
  have hHe : H = hb H id off cs xs0 ++ [] := by
    unfold hb
    rw [List.set_same _ _ hc, List.set_same _ _ hH, List.append_nil]
  refine FnG.of (rs := []) 0 21 Tryz.func219 rfl rfl rfl (by simp) (by simp) (by simp) ?_; refine .seq ?_; refine .region ?_; refine mvd ?_
  refine ln ?_ (L_sz _) l32
  refine mvd ?_; refine rn ?_; refine .block ?_
  refine .loop (.gh (Gh.keep [0, 6, 7, 8] rfl) ?_)
  refine AL.castH hHe ?_
  refine AL.ind (σ := List Nat × Nat × Heap) (m := fun s => b.length - s.2.1) (e := fun s => [(0, .bp id off), (6, .d (.sl (L b))), (7, .d (.i .i64 ((L b).length : Nat))), (8, .d (.i .i64 (s.2.1 : Int)))]) (h := fun s => hb H id off cs s.1 ++ s.2.2)
    (I := fun s => s.2.1 ≤ b.length ∧ Ok s.1 ∧ addAll s.1 (b.drop s.2.1) s.2.1 = addAll xs0 b 0) ?_ (xs0, 0, []) ⟨by simp, hx0, rfl⟩
  rintro ⟨xs, i, G⟩ ⟨h1, h2, h3⟩ ih
  dsimp only at h1 h2 h3 ih ⊢
  refine .seq ?_; refine .region ?_; refine bi ?_; refine rn ?_; refine .seq ?_
  by_cases hi : i < b.length
  · rw [decide_eq_true (show (i:Int) < ((L b).length : Nat) by rw [L_length]; omega)]
    have hy : b[i]? = some b[i] := List.getElem?_eq_getElem hi
    have hdr : b.drop i = b[i] :: b.drop (i + 1) := List.drop_eq_getElem_cons hi
    generalize b[i] = y at hy hdr
    have hyl := hb0.at hy
    rw [hdr] at h3
    have hge := addAll_ge (b.drop (i + 1)) (addL xs y i) (i + 1)
    replace h3 : addAll (addL xs y i) (b.drop (i + 1)) (i + 1) = addAll xs0 b 0 := h3
    rw [h3] at hge
    have hge2 := (addL_ge xs y i).1
    refine cndt ?_; refine .skip ?_
    show AW _ _ _ _ _ _
    refine .seq ?_; refine .block ?_; refine .seq ?_; refine .region ?_; refine mvd ?_
    refine ix i ?_ rfl (L_at hy) rfl s32
    refine ldp ?_ a32
    refine asd ?_; refine asd ?_; refine rn ?_; refine .region ?_; refine mvb ?_; refine ncb ?_
    refine fab ?_ fad (by decide)
    refine mvd ?_
    refine cve (y : Int) (toU64 (by omega)) ?_ u32 u64
    refine mvd ?_
    refine clg (fun G2 => ?_) (add_fn (n0 := y) (at0 := i) (hb_getG hid) (hb_cell hoff) h2 (by omega) (by omega) (by omega)) Tryz.call241
    refine .nil ?_
    show AW _ _ _ _ _ _
    refine .region ?_; refine ad ((i + 1 : Nat) : Int) ?_ ?_
    · omega
    refine mvd ?_; refine .nil ?_; refine AL.gh (Gh.keep [0, 6, 7, 8] rfl) ?_; refine AL.castH (H' := hb H id off cs (addL xs y i) ++ (G ++ G2)) (by rw [hb_app hid, List.append_assoc]) ?_
    exact ih (addL xs y i, i + 1, G ++ G2) ⟨by show i + 1 ≤ b.length; omega, (addL_val xs y i h2).2, h3⟩ (by show b.length - (i + 1) < b.length - i; omega)
  · rw [decide_eq_false (show ¬ (i:Int) < ((L b).length : Nat) by rw [L_length]; omega)]
    have : b.drop i = [] := List.drop_eq_nil_of_le (by omega)
    rw [this] at h3
    replace h3 : xs = addAll xs0 b 0 := h3
    refine cndf ?_; refine .exit ?_
    rw [h3]
    exact ⟨⟨G, rfl⟩, rfl, by simp⟩
end Go.FL
/-
  nat.Sum.
-/
namespace Go.FL
open Go Go.Proofs

theorem s2 : sliceT Tryz.prog 87 = some (30, 1, 24) := by kernel_rfl
theorem l2 : Tryz.prog.underlying 87 = some (.slice (Tryz.prog.elem 87)) := by kernel_rfl
theorem a2 : aggT Tryz.prog 30 = some false := by kernel_rfl
def LL (ls : List (List Nat)) : List DV := ls.map fun a => .sl (L a)
theorem LL_length (ls : List (List Nat)) : (LL ls).length = ls.length := by simp [LL]
theorem LL_sz (ls : List (List Nat)) : ∃ sz, ∀ x ∈ LL ls, x.cells.length = sz := ⟨1, fun x hx => by
  simp only [LL, List.mem_map] at hx
  obtain ⟨n, _, rfl⟩ := hx; rfl⟩
theorem LL_at {ls : List (List Nat)} {i : Nat} {a : List Nat} (h : ls[i]? = some a) : (LL ls)[i]? = some (.sl (L a)) := by simp [LL, h]
def sumAll : List (List Nat) → List Nat → List Nat
  | [], xs => xs
  | a :: r, xs => sumAll r (addAll xs a 0)
theorem sumAll_val : ∀ (ls : List (List Nat)) (xs : List Nat), Ok xs → val (sumAll ls xs) = val xs + (ls.map val).sum ∧ Ok (sumAll ls xs)
  | [], xs, h => ⟨by simp [sumAll], h⟩
  | a :: r, xs, h => by
    obtain ⟨a1, a2⟩ := addAll_val a xs 0 h
    obtain ⟨b1, b2⟩ := sumAll_val r _ a2
    refine ⟨?_, b2⟩
    show val (sumAll r (addAll xs a 0)) = _
    rw [b1, a1]; simp; omega
theorem sumAll_ge : ∀ (ls : List (List Nat)) (xs : List Nat), xs.length ≤ (sumAll ls xs).length
  | [], xs => Nat.le_refl _
  | a :: r, xs => Nat.le_trans (addAll_ge a xs 0) (sumAll_ge r _)
theorem zadder (w : World) : (zeroValue 186).run Tryz.prog w = .ok (.agg #[.slice none 0 0]) w := by simp
theorem adder_cells (w : World) (I : Nat → Prop) (μ : List Nat) : ARepAll Tryz.prog w I μ [.own 121 (L [])] (Value.agg #[.slice none 0 0]).cells.toList [] := by
  have := ARepAll.cons (ARep.own (P := Tryz.prog) (w := w) (I := I) (μ := μ) 121 [] (.slice none 0 0) [] z32p (.inl ⟨none, rfl, rfl, rfl⟩) (.nil _)) .nil
  exact this
theorem Sum_fn {ls : List (List Nat)} (h : ∀ a ∈ ls, Ok a) (hl : ls.length ≤ 1048576) (hla : ∀ a ∈ ls, a.length ≤ 1048576) (hs : (sumAll ls []).length ≤ 1048576) : Fn Tryz.prog 165 [.sl (LL ls)] (.d (.sl (L (digs (ls.map val).sum)))) := by
  have hv := sumAll_val ls [] .nil
  refine Fn.of (rs := [.tmp 2]) (nt := 18) Tryz.func165 rfl rfl rfl (by simp) rfl ?_; refine .seq ?_; refine .region ?_; refine asn ?_; refine rn ?_; refine .seq ?_; refine .region ?_
  refine al ?_ zadder adder_cells
  refine rn ?_; refine .mid (fun e H' => ∃ G, e = [(3, .bp 0 0)] ∧ H' = [.box [.own 121 (L (sumAll ls []))]] ++ G) ?_ ?_
  · refine .seq ?_
    refine .region ?_; refine mvd ?_
    refine ln ?_ (LL_sz _) l2
    refine mvd ?_; refine rn ?_; refine .block ?_
    refine .loop (.gh (Gh.keep [3, 6, 7, 8] rfl) ?_)
    refine AL.ind (σ := List Nat × Nat × Heap) (m := fun s => ls.length - s.2.1) (e := fun s => [(3, .bp 0 0), (6, .d (.sl (LL ls))), (7, .d (.i .i64 ((LL ls).length : Nat))), (8, .d (.i .i64 (s.2.1 : Int)))]) (h := fun s => [.box [.own 121 (L s.1)]] ++ s.2.2)
      (I := fun s => s.2.1 ≤ ls.length ∧ Ok s.1 ∧ sumAll (ls.drop s.2.1) s.1 = sumAll ls []) ?_ ([], 0, []) ⟨by simp, .nil, rfl⟩
    rintro ⟨xs, i, G⟩ ⟨h1, h2, h3⟩ ih
    dsimp only at h1 h2 h3 ih ⊢
    refine .seq ?_; refine .region ?_; refine bi ?_; refine rn ?_; refine .seq ?_
    by_cases hi : i < ls.length
    · rw [decide_eq_true (show (i:Int) < ((LL ls).length : Nat) by rw [LL_length]; omega)]
      have hy : ls[i]? = some ls[i] := List.getElem?_eq_getElem hi
      have hdr : ls.drop i = ls[i] :: ls.drop (i + 1) := List.drop_eq_getElem_cons hi
      generalize ls[i] = y at hy hdr
      have hyo := h y (List.mem_of_getElem? hy)
      have hyl := hla y (List.mem_of_getElem? hy)
      rw [hdr] at h3
      replace h3 : sumAll (ls.drop (i + 1)) (addAll xs y 0) = sumAll ls [] := h3
      have hge := sumAll_ge (ls.drop (i + 1)) (addAll xs y 0)
      rw [h3] at hge
      refine cndt ?_; refine .skip ?_
      show AW _ _ _ _ _ _
      refine .seq ?_; refine .block ?_; refine .seq ?_; refine .region ?_
      refine ix i ?_ rfl (LL_at hy) rfl s2
      refine ldp ?_ a2
      refine asd ?_; refine rn ?_; refine .region ?_; refine mvd ?_
      refine clg (fun G2 => ?_) (number_fn (cs := [.own 121 (L xs)]) (b := y) rfl rfl h2 hyo hyl (by omega)) Tryz.call219
      refine .nil ?_
      show AW _ _ _ _ _ _
      refine .region ?_; refine ad ((i + 1 : Nat) : Int) ?_ ?_
      · omega
      refine mvd ?_; refine .nil ?_; refine AL.gh (Gh.keep [3, 6, 7, 8] rfl) ?_; refine AL.castH (H' := [.box [.own 121 (L (addAll xs y 0))]] ++ (G ++ G2)) (by rw [← List.append_assoc]; rfl) ?_
      exact ih (addAll xs y 0, i + 1, G ++ G2) ⟨by show i + 1 ≤ ls.length; omega, (addAll_val y xs 0 h2).2, h3⟩ (by show ls.length - (i + 1) < ls.length - i; omega)
    · rw [decide_eq_false (show ¬ (i:Int) < ((LL ls).length : Nat) by rw [LL_length]; omega)]
      have : ls.drop i = [] := List.drop_eq_nil_of_le (by omega)
      rw [this] at h3
      replace h3 : xs = sumAll ls [] := h3
      refine cndf ?_; refine .gh (Gh.keep [3] rfl) ?_; refine .exit ?_
      rw [h3]
      exact ⟨G, rfl, rfl⟩
  · rintro _ _ ⟨G, rfl, rfl⟩
    refine .seq ?_; refine .region ?_; refine fz (p := .c 0 0) ?_
    refine fab ?_ fad (by decide)
    refine ldb (cs := [.d (.sl (L (sumAll ls [])))]) (c := .d (.sl (L (sumAll ls [])))) rfl rfl ?_ alm
    refine cl (xs := [.sl (L (sumAll ls []))]) ?_ (cut_val hv.2 (by omega)) Tryz.call197
    refine asd ?_; refine rn ?_; refine .ret ?_
    exact ⟨by rw [hv.1]; simp [val]; rfl, rfl⟩
end Go.FL
/-
  nat.product.
-/
namespace Go.FL
open Go Go.Proofs

def mulRow (i x : Nat) : List Nat → Nat → List Nat → List Nat
  | [], _, xs => xs
  | y :: r, k, xs => mulRow i x r (k + 1) (addL xs (x * y) (i + k))
def prodAll (b : List Nat) : List Nat → Nat → List Nat → List Nat
  | [], _, xs => xs
  | x :: r, i, xs => prodAll b r (i + 1) (mulRow i x b 0 xs)
theorem mulRow_val (i x : Nat) : ∀ (ys : List Nat) (k : Nat) (xs : List Nat), Ok xs → val (mulRow i x ys k xs) = val xs + x * val ys * 4294967296 ^ (i + k) ∧ Ok (mulRow i x ys k xs)
  | [], k, xs, h => ⟨by simp [mulRow, val], h⟩
  | y :: r, k, xs, h => by
    obtain ⟨a1, a2⟩ := addL_val xs (x * y) (i + k) h
    obtain ⟨b1, b2⟩ := mulRow_val i x r (k + 1) _ a2
    refine ⟨?_, b2⟩
    show val (mulRow i x r (k + 1) (addL xs (x * y) (i + k))) = _
    rw [b1, a1, val, ← Nat.add_assoc i k 1, Nat.pow_succ, Nat.mul_add, Nat.add_mul, Nat.add_assoc]
    congr 2
    simp only [Nat.mul_assoc, Nat.mul_comm, Nat.mul_left_comm]
theorem prodAll_val (b : List Nat) : ∀ (a : List Nat) (i : Nat) (xs : List Nat), Ok xs → val (prodAll b a i xs) = val xs + val a * val b * 4294967296 ^ i ∧ Ok (prodAll b a i xs)
  | [], i, xs, h => ⟨by simp [prodAll, val], h⟩
  | x :: r, i, xs, h => by
    obtain ⟨a1, a2⟩ := mulRow_val i x b 0 xs h
    obtain ⟨b1, b2⟩ := prodAll_val b r (i + 1) _ a2
    refine ⟨?_, b2⟩
    show val (prodAll b r (i + 1) (mulRow i x b 0 xs)) = _
    rw [b1, a1, val, Nat.pow_succ, Nat.add_zero, Nat.add_mul, Nat.add_mul, Nat.add_assoc]
    congr 2
    simp only [Nat.mul_assoc, Nat.mul_comm, Nat.mul_left_comm]
theorem mulRow_ge (i x : Nat) : ∀ (ys : List Nat) (k : Nat) (xs : List Nat), xs.length ≤ (mulRow i x ys k xs).length
  | [], k, xs => Nat.le_refl _
  | y :: r, k, xs => Nat.le_trans (addL_ge xs (x * y) (i + k)).1 (mulRow_ge i x r (k + 1) _)
theorem prodAll_ge (b : List Nat) : ∀ (a : List Nat) (i : Nat) (xs : List Nat), xs.length ≤ (prodAll b a i xs).length
  | [], i, xs => Nat.le_refl _
  | x :: r, i, xs => Nat.le_trans (mulRow_ge i x b 0 xs) (prodAll_ge b r (i + 1) _)
theorem u64lt {x y : Nat} (hx : x < 4294967296) (hy : y < 4294967296) : x * y < 18446744069414584320 := by
  have : x * y ≤ 4294967295 * 4294967295 := Nat.mul_le_mul (by omega) (by omega)
  omega
theorem product_fn {a b : List Nat} (ha : Ok a) (hb : Ok b) (hla : a.length ≤ 524288) (hlb : b.length ≤ 524288) (hs : (prodAll b a 0 []).length ≤ 1048576) : Fn Tryz.prog 220 [.sl (L a), .sl (L b)] (.d (.sl (L (digs (val a * val b))))) := by
  have hv := prodAll_val b a 0 [] .nil
  refine Fn.of (rs := [.tmp 4]) (nt := 39) Tryz.func220 rfl rfl rfl (by simp) rfl ?_; refine .seq ?_; refine .region ?_; refine asn ?_; refine rn ?_; refine .seq ?_; refine .region ?_
  refine al ?_ zadder adder_cells
  refine rn ?_; refine .mid (fun e H' => ∃ G, e = [(5, .bp 0 0)] ∧ H' = [.box [.own 121 (L (prodAll b a 0 []))]] ++ G) ?_ ?_
  · refine .seq ?_
    refine .region ?_; refine mvd ?_
    refine ln ?_ (L_sz _) l32
    refine mvd ?_; refine rn ?_; refine .block ?_
    refine .loop (.gh (Gh.keep [1, 5, 10, 11, 12] rfl) ?_)
    refine AL.ind (σ := List Nat × Nat × Heap) (m := fun s => a.length - s.2.1) (e := fun s => [(1, .d (.sl (L b))), (5, .bp 0 0), (10, .d (.sl (L a))), (11, .d (.i .i64 ((L a).length : Nat))), (12, .d (.i .i64 (s.2.1 : Int)))]) (h := fun s => [.box [.own 121 (L s.1)]] ++ s.2.2)
      (I := fun s => s.2.1 ≤ a.length ∧ Ok s.1 ∧ prodAll b (a.drop s.2.1) s.2.1 s.1 = prodAll b a 0 []) ?_ ([], 0, []) ⟨by simp, .nil, rfl⟩
    rintro ⟨xs, i, G⟩ ⟨h1, h2, h3⟩ ih
    dsimp only at h1 h2 h3 ih ⊢
    refine .seq ?_; refine .region ?_; refine bi ?_; refine rn ?_; refine .seq ?_
    by_cases hi : i < a.length
    · rw [decide_eq_true (show (i:Int) < ((L a).length : Nat) by rw [L_length]; omega)]
      have hx : a[i]? = some a[i] := List.getElem?_eq_getElem hi
      have hdr : a.drop i = a[i] :: a.drop (i + 1) := List.drop_eq_getElem_cons hi
      generalize a[i] = x at hx hdr
      have hxl := ha.at hx
      rw [hdr] at h3
      replace h3 : prodAll b (a.drop (i + 1)) (i + 1) (mulRow i x b 0 xs) = prodAll b a 0 [] := h3
      have hge := prodAll_ge b (a.drop (i + 1)) (i + 1) (mulRow i x b 0 xs)
      rw [h3] at hge
      refine cndt ?_; refine .skip ?_
      show AW _ _ _ _ _ _
      refine .seq ?_; refine .block ?_; refine .seq ?_; refine .region ?_; refine mvd ?_
      refine ix i ?_ rfl (L_at hx) rfl s32
      refine ldp ?_ a32
      refine asd ?_; refine asd ?_; refine rn ?_; refine .seq ?_; refine .region ?_; refine mvd ?_
      refine ln ?_ (L_sz _) l32
      refine mvd ?_; refine rn ?_; refine .block ?_
      refine .loop (.gh (Gh.keep [1, 5, 10, 11, 12, 6, 7, 17, 18, 19] rfl) ?_)
      refine AL.ind (σ := List Nat × Nat × Heap) (m := fun s => b.length - s.2.1) (e := fun s => [(1, .d (.sl (L b))), (5, .bp 0 0), (10, .d (.sl (L a))), (11, .d (.i .i64 ((L a).length : Nat))), (12, .d (.i .i64 (i : Int))), (6, .d (.i .i64 (i : Int))), (7, .d (U x)), (17, .d (.sl (L b))), (18, .d (.i .i64 ((L b).length : Nat))), (19, .d (.i .i64 (s.2.1 : Int)))]) (h := fun s => [.box [.own 121 (L s.1)]] ++ s.2.2)
        (I := fun s => s.2.1 ≤ b.length ∧ Ok s.1 ∧ mulRow i x (b.drop s.2.1) s.2.1 s.1 = mulRow i x b 0 xs) ?_ (xs, 0, G) ⟨by simp, h2, rfl⟩
      rintro ⟨zs, k, G1⟩ ⟨g1, g2, g3⟩ ih2
      dsimp only at g1 g2 g3 ih2 ⊢
      refine .seq ?_; refine .region ?_; refine bi ?_; refine rn ?_; refine .seq ?_
      by_cases hk : k < b.length
      · rw [decide_eq_true (show (k:Int) < ((L b).length : Nat) by rw [L_length]; omega)]
        have hy : b[k]? = some b[k] := List.getElem?_eq_getElem hk
        have hdr2 : b.drop k = b[k] :: b.drop (k + 1) := List.drop_eq_getElem_cons hk
        generalize b[k] = y at hy hdr2
        have hyl := hb.at hy
        rw [hdr2] at g3
        replace g3 : mulRow i x (b.drop (k + 1)) (k + 1) (addL zs (x * y) (i + k)) = mulRow i x b 0 xs := g3
        have hge2 := mulRow_ge i x (b.drop (k + 1)) (k + 1) (addL zs (x * y) (i + k))
        rw [g3] at hge2
        have hge3 := (addL_ge zs (x * y) (i + k)).1
        have hxy := u64lt hxl hyl
        refine cndt ?_; refine .skip ?_
        show AW _ _ _ _ _ _
        refine .seq ?_; refine .block ?_; refine .seq ?_; refine .region ?_; refine mvd ?_
        refine ix k ?_ rfl (L_at hy) rfl s32
        refine ldp ?_ a32
        refine asd ?_; refine asd ?_; refine rn ?_; refine .region ?_
        refine fab ?_ fad (by decide)
        refine mvd ?_
        refine cve (x : Int) (toU64 (by omega)) ?_ u32 u64
        refine mvd ?_
        refine cve (y : Int) (toU64 (by omega)) ?_ u32 u64
        refine bie (.i .u64 ((x * y : Nat) : Int)) ?_ ?_
        · exact ⟨trivial, by rw [← Int.natCast_mul, toU64 (by omega)]⟩
        refine mvd ?_; refine mvd ?_; refine ad ((i + k : Nat) : Int) ?_ ?_
        · omega
        refine clg (fun G2 => ?_) (add_fn (cs := [.own 121 (L zs)]) (n0 := x * y) (at0 := i + k) rfl rfl g2 (by omega) (by omega) (by omega)) Tryz.call241
        refine .nil ?_
        show AW _ _ _ _ _ _
        refine .region ?_; refine ad ((k + 1 : Nat) : Int) ?_ ?_
        · omega
        refine mvd ?_; refine .nil ?_; refine AL.gh (Gh.keep [1, 5, 10, 11, 12, 6, 7, 17, 18, 19] rfl) ?_; refine AL.castH (H' := [.box [.own 121 (L (addL zs (x * y) (i + k)))]] ++ (G1 ++ G2)) (by rw [← List.append_assoc]; rfl) ?_
        exact ih2 (addL zs (x * y) (i + k), k + 1, G1 ++ G2) ⟨by show k + 1 ≤ b.length; omega, (addL_val zs (x * y) (i + k) g2).2, g3⟩ (by show b.length - (k + 1) < b.length - k; omega)
      · rw [decide_eq_false (show ¬ (k:Int) < ((L b).length : Nat) by rw [L_length]; omega)]
        have : b.drop k = [] := List.drop_eq_nil_of_le (by omega)
        rw [this] at g3
        replace g3 : zs = mulRow i x b 0 xs := g3
        refine cndf ?_; refine .exit ?_
        show AW _ _ _ _ _ _
        refine .region ?_; refine ad ((i + 1 : Nat) : Int) ?_ ?_
        · omega
        refine mvd ?_; refine .nil ?_; refine AL.gh (Gh.keep [1, 5, 10, 11, 12] rfl) ?_
        rw [g3]
        exact ih (mulRow i x b 0 xs, i + 1, G1) ⟨by show i + 1 ≤ a.length; omega, (mulRow_val i x b 0 xs h2).2, h3⟩ (by show a.length - (i + 1) < a.length - i; omega)
    · rw [decide_eq_false (show ¬ (i:Int) < ((L a).length : Nat) by rw [L_length]; omega)]
      have : a.drop i = [] := List.drop_eq_nil_of_le (by omega)
      rw [this] at h3
      replace h3 : xs = prodAll b a 0 [] := h3
      refine cndf ?_; refine .gh (Gh.keep [5] rfl) ?_; refine .exit ?_
      rw [h3]
      exact ⟨G, rfl, rfl⟩
  · rintro _ _ ⟨G, rfl, rfl⟩
    refine .seq ?_; refine .region ?_; refine fz (p := .c 0 0) ?_
    refine fab ?_ fad (by decide)
    refine ldb (cs := [.d (.sl (L (prodAll b a 0 [])))]) (c := .d (.sl (L (prodAll b a 0 [])))) rfl rfl ?_ alm
    refine cl (xs := [.sl (L (prodAll b a 0 []))]) ?_ (cut_val hv.2 (by omega)) Tryz.call197
    refine asd ?_; refine rn ?_; refine .ret ?_
    exact ⟨by rw [hv.1]; simp [val]; rfl, rfl⟩
end Go.FL
/-
  nat.product: how many limbs; nat.Product.
-/
namespace Go.FL
open Go Go.Proofs

theorem pow_lt_iff {a N : Nat} {n : Nat} (hn : n ≠ 0) (h : n * 4294967296 ^ a < 4294967296 ^ N) : a < N := by
  apply Classical.byContradiction
  intro hc
  have h1 : 4294967296 ^ N ≤ 4294967296 ^ a := Nat.pow_le_pow_right (by decide) (by omega)
  have h2 : 1 * 4294967296 ^ a ≤ n * 4294967296 ^ a := Nat.mul_le_mul_right _ (by omega)
  omega
theorem addL_fit {N : Nat} (xs : List Nat) (n at_ : Nat) (h : Ok xs) (hN : xs.length ≤ N) (hv : val xs + n * 4294967296 ^ at_ < 4294967296 ^ N) : (addL xs n at_).length ≤ N := by
  induction xs, n, at_ using addL.induct with
  | case1 xs at_ => rw [addL_zero]; exact hN
  | case2 xs n at_ hn ih =>
    have e1 := (addL_val xs n at_ h).1
    have hat : at_ < N := pow_lt_iff hn (by omega)
    have hlen := padL_length xs at_
    have hok : Ok ((padL xs at_).set at_ ((n + (padL xs at_).getD at_ 0) % 4294967296)) := (padL_ok h at_).set _ (Nat.mod_lt _ (by decide))
    rw [addL_pos hn] at e1 ⊢
    have e2 := (addL_val _ ((n + (padL xs at_).getD at_ 0) / 4294967296) (at_ + 1) hok).1
    refine ih hok ?_ ?_
    · rw [List.length_set, hlen]; omega
    · rw [← e2, e1]; exact hv
theorem mulRow_fit {N : Nat} (i x : Nat) : ∀ (ys : List Nat) (k : Nat) (xs : List Nat), Ok xs → xs.length ≤ N → val xs + x * val ys * 4294967296 ^ (i + k) < 4294967296 ^ N → (mulRow i x ys k xs).length ≤ N
  | [], k, xs, h, hN, _ => hN
  | y :: r, k, xs, h, hN, hv => by
    obtain ⟨a1, a2⟩ := addL_val xs (x * y) (i + k) h
    have e1 := (mulRow_val i x (y :: r) k xs h).1
    have e2 := (mulRow_val i x r (k + 1) _ a2).1
    have hv2 : val (addL xs (x * y) (i + k)) + x * val r * 4294967296 ^ (i + (k + 1)) < 4294967296 ^ N := by
      rw [← e2]; rw [← e1] at hv; exact hv
    exact mulRow_fit i x r (k + 1) _ a2 (addL_fit xs (x * y) (i + k) h hN (by omega)) hv2
theorem prodAll_fit {N : Nat} (b : List Nat) : ∀ (a : List Nat) (i : Nat) (xs : List Nat), Ok xs → xs.length ≤ N → val xs + val a * val b * 4294967296 ^ i < 4294967296 ^ N → (prodAll b a i xs).length ≤ N
  | [], i, xs, h, hN, _ => hN
  | x :: r, i, xs, h, hN, hv => by
    obtain ⟨a1, a2⟩ := mulRow_val i x b 0 xs h
    have e1 := (prodAll_val b (x :: r) i xs h).1
    have e2 := (prodAll_val b r (i + 1) _ a2).1
    have hv2 : val (mulRow i x b 0 xs) + val r * val b * 4294967296 ^ (i + 1) < 4294967296 ^ N := by
      rw [← e2]; rw [← e1] at hv; exact hv
    exact prodAll_fit b r (i + 1) _ a2 (mulRow_fit i x b 0 xs h hN (by omega)) hv2
theorem prodAll_len {a b : List Nat} (ha : Ok a) (hb : Ok b) : (prodAll b a 0 []).length ≤ a.length + b.length := by
  refine prodAll_fit b a 0 [] .nil (Nat.zero_le _) ?_
  have h1 := val_lt ha
  have h2 := val_lt hb
  rw [Nat.pow_add]
  simp only [val, Nat.pow_zero, Nat.mul_one, Nat.zero_add]
  exact Nat.mul_lt_mul'' h1 h2
theorem prod_fn {a b : List Nat} (ha : Ok a) (hb : Ok b) (hla : a.length ≤ 524288) (hlb : b.length ≤ 524288) : Fn Tryz.prog 220 [.sl (L a), .sl (L b)] (.d (.sl (L (digs (val a * val b))))) :=
  product_fn ha hb hla hlb (by have := prodAll_len ha hb; omega)
end Go.FL
/-
  nat.Product.
-/
namespace Go.FL
open Go Go.Proofs

def prodF (ls : List (List Nat)) (p : Nat) : Nat := ls.foldl (fun q a => q * val a) p
theorem Product_fn {ls : List (List Nat)} (h : ∀ a ∈ ls, Ok a) (hl : ls.length ≤ 1048576) (hla : ∀ a ∈ ls, a.length ≤ 524288) (hs : ∀ k, (digs (prodF (ls.take k) 1)).length ≤ 524288) :
    Fn Tryz.prog 166 [.sl (LL ls)] (.d (.sl (L (digs (prodF ls 1))))) := by
  refine Fn.of (rs := [.tmp 2]) (nt := 18) Tryz.func166 rfl rfl rfl (by simp) rfl ?_; refine .seq ?_; refine .region ?_; refine asn ?_; refine rn ?_; refine .seq ?_; refine .region ?_
  refine bsl ?_ ?_ e32
  · simp [DV.flat, DV.cells, DV.leaf]
  refine fz (p := .t 6) ?_; refine asd ?_; refine rn ?_; refine .mid (fun e H' => e = [(3, .d (.sl (L (digs (prodF ls 1)))))] ∧ H' = []) ?_ ?_
  · refine .seq ?_
    refine .region ?_; refine mvd ?_
    refine ln ?_ (LL_sz _) l2
    refine mvd ?_; refine rn ?_; refine .block ?_
    refine .loop (.gh (Gh.keep [3, 7, 8, 9] rfl) ?_)
    refine AL.cast (env' := [(3, .d (.sl (L (digs (prodF (ls.take 0) 1))))), (7, .d (.sl (LL ls))), (8, .d (.i .i64 ((LL ls).length : Nat))), (9, .d (.i .i64 ((0 : Nat) : Int)))]) (by
      have e1 : digs (prodF (ls.take 0) 1) = [1] := by
        rw [List.take_zero]; show digs 1 = [1]; rw [digs]; simp; rw [digs]; simp
      rw [e1]; rfl) ?_
    refine AL.ind (σ := Nat) (m := fun i => ls.length - i) (e := fun i => [(3, .d (.sl (L (digs (prodF (ls.take i) 1))))), (7, .d (.sl (LL ls))), (8, .d (.i .i64 ((LL ls).length : Nat))), (9, .d (.i .i64 (i : Int)))]) (h := fun _ => [])
      (I := fun i => i ≤ ls.length) ?_ 0 (Nat.zero_le _)
    intro i h1 ih
    refine .seq ?_; refine .region ?_; refine bi ?_; refine rn ?_; refine .seq ?_
    by_cases hi : i < ls.length
    · rw [decide_eq_true (show (i:Int) < ((LL ls).length : Nat) by rw [LL_length]; omega)]
      have hy : ls[i]? = some ls[i] := List.getElem?_eq_getElem hi
      have htk : ls.take (i + 1) = ls.take i ++ [ls[i]] := List.take_succ_eq_append_getElem hi
      generalize ls[i] = y at hy htk
      have hyo := h y (List.mem_of_getElem? hy)
      have hyl := hla y (List.mem_of_getElem? hy)
      have hst : prodF (ls.take (i + 1)) 1 = prodF (ls.take i) 1 * val y := by rw [htk, prodF, prodF, List.foldl_append]; rfl
      refine cndt ?_; refine .skip ?_
      show AW _ _ _ _ _ _
      refine .seq ?_; refine .block ?_; refine .seq ?_; refine .region ?_
      refine ix i ?_ rfl (LL_at hy) rfl s2
      refine ldp ?_ a2
      refine asd ?_; refine rn ?_; refine .region ?_; refine mvd ?_; refine mvd ?_
      refine cl (xs := [.sl (L (digs (prodF (ls.take i) 1))), .sl (L y)]) ?_ (prod_fn (digs_ok _) hyo (hs i) hyl) Tryz.call220
      refine asd ?_; refine .nil ?_
      show AW _ _ _ _ _ _
      refine .region ?_; refine ad ((i + 1 : Nat) : Int) ?_ ?_
      · omega
      refine mvd ?_; refine .nil ?_; refine AL.gh (Gh.keep [3, 7, 8, 9] rfl) ?_
      rw [val_digs, ← hst]
      exact ih (i + 1) (by show i + 1 ≤ ls.length; omega) (by show ls.length - (i + 1) < ls.length - i; omega)
    · rw [decide_eq_false (show ¬ (i:Int) < ((LL ls).length : Nat) by rw [LL_length]; omega)]
      rw [List.take_of_length_le (by omega)]
      refine cndf ?_; refine .gh (Gh.keep [3] rfl) ?_; refine .exit ?_
      exact ⟨rfl, rfl⟩
  · rintro _ _ ⟨rfl, rfl⟩
    refine .seq ?_; refine .region ?_; refine mvd ?_; refine asd ?_; refine rn ?_; refine .ret ?_
    exact ⟨rfl, rfl⟩
end Go.FL
/-
  What laws need: arguments as limbs; how many limbs sums and products have.
-/
namespace Go.FL
open Go Go.Proofs

theorem e2 : elemT Tryz.prog 87 = some (30, 1, 24, .slice none 0 0) := by kernel_rfl
theorem addAll_fit {N : Nat} : ∀ (ys xs : List Nat) (i : Nat), Ok xs → xs.length ≤ N → val xs + val ys * 4294967296 ^ i < 4294967296 ^ N → (addAll xs ys i).length ≤ N
  | [], xs, i, h, hN, _ => hN
  | y :: ys, xs, i, h, hN, hv => by
    obtain ⟨a1, a2⟩ := addL_val xs y i h
    have e1 := (addAll_val (y :: ys) xs i h).1
    have e2 := (addAll_val ys _ (i + 1) a2).1
    have hv2 : val (addL xs y i) + val ys * 4294967296 ^ (i + 1) < 4294967296 ^ N := by
      rw [← e2]; rw [← e1] at hv; exact hv
    exact addAll_fit ys _ (i + 1) a2 (addL_fit xs y i h hN (by omega)) hv2
theorem sumAll_fit {N : Nat} : ∀ (ls : List (List Nat)) (xs : List Nat), Ok xs → xs.length ≤ N → val xs + (ls.map val).sum < 4294967296 ^ N → (sumAll ls xs).length ≤ N
  | [], xs, h, hN, _ => hN
  | a :: r, xs, h, hN, hv => by
    obtain ⟨a1, a2⟩ := addAll_val a xs 0 h
    have hv2 : val (addAll xs a 0) + (r.map val).sum < 4294967296 ^ N := by
      rw [a1]; simp at hv ⊢; omega
    exact sumAll_fit r _ a2 (addAll_fit a xs 0 h hN (by omega)) hv2
theorem pow_split (M : Nat) : 4294967296 ^ (M + 1) = 4294967296 ^ M * 4294967296 := Nat.pow_succ ..
theorem sum_lt {M : Nat} : ∀ {ls : List (List Nat)}, (∀ a ∈ ls, val a < 4294967296 ^ M) → (ls.map val).sum ≤ ls.length * 4294967296 ^ M
  | [], _ => by simp
  | a :: r, h => by
    have h1 := h a (by simp)
    have h2 := sum_lt (ls := r) fun b hb => h b (by simp [hb])
    simp only [List.map_cons, List.sum_cons, List.length_cons, Nat.add_mul, Nat.one_mul]
    omega
theorem sum_fn {M : Nat} {ls : List (List Nat)} (h : ∀ a ∈ ls, Ok a) (hM : ∀ a ∈ ls, a.length ≤ M) (hl : ls.length ≤ 1000) (hM2 : M ≤ 100000) : Fn Tryz.prog 165 [.sl (LL ls)] (.d (.sl (L (digs (ls.map val).sum)))) := by
  have hv : ∀ a ∈ ls, val a < 4294967296 ^ M := fun a ha => Nat.lt_of_lt_of_le (val_lt (h a ha)) (Nat.pow_le_pow_right (by decide) (hM a ha))
  refine Sum_fn h (by omega) (fun a ha => Nat.le_trans (hM a ha) (by omega)) ?_
  have h1 := sum_lt hv
  have h2 : ls.length * 4294967296 ^ M < 4294967296 ^ (M + 1) := by
    rw [pow_split, Nat.mul_comm]
    exact Nat.mul_lt_mul_of_pos_left (by omega) (Nat.pow_pos (by decide))
  have := sumAll_fit (N := M + 1) ls [] .nil (Nat.zero_le _) (by simp only [val, Nat.zero_add]; omega)
  omega
theorem prodF_lt {M : Nat} : ∀ (ls : List (List Nat)) (p j : Nat), (∀ a ∈ ls, val a < 4294967296 ^ M) → p < 4294967296 ^ j → prodF ls p < 4294967296 ^ (j + M * ls.length)
  | [], p, j, _, hp => by simpa [prodF] using hp
  | a :: r, p, j, h, hp => by
    have h1 : p * val a < 4294967296 ^ (j + M) := by rw [Nat.pow_add]; exact Nat.mul_lt_mul'' hp (h a (by simp))
    have := prodF_lt r (p * val a) (j + M) (fun b hb => h b (by simp [hb])) h1
    rw [show j + M * (a :: r).length = j + M + M * r.length by simp [Nat.mul_add]; omega]
    exact this
theorem prods_fn {M : Nat} {ls : List (List Nat)} (h : ∀ a ∈ ls, Ok a) (hM : ∀ a ∈ ls, a.length ≤ M) (hl : ls.length ≤ 10) (hM2 : M ≤ 40000) : Fn Tryz.prog 166 [.sl (LL ls)] (.d (.sl (L (digs (prodF ls 1))))) := by
  have hv : ∀ a ∈ ls, val a < 4294967296 ^ M := fun a ha => Nat.lt_of_lt_of_le (val_lt (h a ha)) (Nat.pow_le_pow_right (by decide) (hM a ha))
  refine Product_fn h (by omega) (fun a ha => Nat.le_trans (hM a ha) (by omega)) fun k => ?_
  have h1 := prodF_lt (ls.take k) 1 1 (fun a ha => hv a (List.mem_of_mem_take ha)) (by decide)
  have h2 := digs_len h1
  have h3 : M * (ls.take k).length ≤ 40000 * 10 := Nat.mul_le_mul hM2 (by rw [List.length_take]; omega)
  omega
theorem as_limbs : ∀ zs : List Int, (∀ z ∈ zs, (Lit.int .u32 z).wf = true) → ∃ a : List Nat, Ok a ∧ zs.map (DV.i .u32) = L a
  | [], _ => ⟨[], .nil, rfl⟩
  | z :: zs, h => by
    obtain ⟨a, h1, h2⟩ := as_limbs zs fun y hy => h y (by simp [hy])
    have hz := h z (by simp)
    have hz2 : 0 ≤ z ∧ z ≤ 4294967295 := by simpa [Lit.wf, IntKind.min, IntKind.max, IntKind.signed, IntKind.bits] using hz
    refine ⟨z.toNat :: a, h1.cons (by omega), ?_⟩
    rw [List.map_cons, h2]
    show _ = U z.toNat :: L a
    rw [U, Int.toNat_of_nonneg hz2.1]
end Go.FL
/-
  Bits of products; arguments; a number is the same as itself.
-/
namespace Go.FL
open Go Go.Proofs

end Go.FL
/-
  glyphref01: Right, Small.
-/
namespace Go.FL
open Go Go.Proofs

theorem right_last {b : List Nat} {x : Nat} (h : Ok (b ++ [x])) : (digs (val (b ++ [x])) = b ++ [x]) ↔ x ≠ 0 := by
  constructor
  · intro he h0
    subst h0
    rw [← cutL_val h, cutL_zero] at he
    have hb : Ok b := fun y hy => h y (by simp [hy])
    rw [cutL_val hb] at he
    have h1 := digs_len_le hb
    rw [he] at h1
    simp at h1
    omega
  · intro h0
    rw [← cutL_val h, cutL_pos _ h0]
theorem refRight_fn {a : List Nat} (h : Ok a) (hl : a.length ≤ 35184372087808) : Fn Tryz.prog 41 [.sl (L a)] (.d (.b (decide (digs (val a) = a)))) := by
  refine Fn.of (rs := [.tmp 2]) (nt := 15) Tryz.func41 rfl rfl rfl (by simp) rfl ?_; refine .seq ?_; refine .region ?_; refine asd ?_; refine rn ?_; refine .seq ?_; refine .region ?_; refine mvd ?_
  refine ln ?_ (L_sz _) l32
  refine bi ?_; refine mvd ?_
  rcases List.eq_nil_or_concat a with rfl | ⟨b, x, rfl⟩
  · refine gf ?_
    refine gf ?_; refine gf ?_; refine gf ?_; refine gf ?_; refine gf ?_; refine gf ?_; refine pkd ?_; refine asd ?_; refine rn ?_; refine .ret ?_
    exact ⟨by rw [decide_eq_true (show digs (val []) = [] by rw [val, digs_zero])]; rfl, rfl⟩
  · rw [List.concat_eq_append] at *
    have hll : (b ++ [x]).length = b.length + 1 := by simp
    rw [decide_eq_false (show ¬ ((L (b ++ [x])).length : Int) = 0 by rw [L_length]; omega)]
    refine mvd ?_; refine mvd ?_
    refine ln ?_ (L_sz _) l32
    refine su (b.length : Int) ?_ ?_
    · rw [L_length]; omega
    refine ix b.length ?_ rfl (L_at (xs := b ++ [x]) (n := x) (by simp)) rfl s32
    refine ldp ?_ a32
    refine bi ?_; refine pkd ?_; refine asd ?_; refine rn ?_; refine .ret ?_
    refine ⟨?_, rfl⟩
    show AV.d (.b (!decide ((x : Int) = 0))) = _
    congr 2
    rw [decide_eq_decide.2 (right_last h)]
    by_cases h0 : x = 0
    · subst h0; rfl
    · rw [decide_eq_true h0, decide_eq_false (by omega)]; rfl
end Go.FL
/-
  glyphref01.Mul.
-/
namespace Go.FL
open Go Go.Proofs

theorem drop_val {b : List Nat} (k : Nat) : val (b.drop k) = b.getD k 0 + 4294967296 * val (b.drop (k + 1)) := by
  by_cases h : k < b.length
  · rw [List.drop_eq_getElem_cons h, List.getD_eq_getElem?_getD, List.getElem?_eq_getElem h]; simp only [val, Option.getD_some]
  · rw [List.drop_eq_nil_of_le (by omega), List.drop_eq_nil_of_le (by omega), List.getD_eq_getElem?_getD, List.getElem?_eq_none (by omega)]; simp [val]
theorem getD_lt {b : List Nat} (h : Ok b) (k : Nat) : b.getD k 0 < 4294967296 := by
  rw [List.getD_eq_getElem?_getD]
  cases hk : b[k]? with
  | none => decide
  | some y => exact h.at hk
theorem set_val {xs : List Nat} {j o y : Nat} (h : xs[j]? = some o) : val (xs.set j y) + o * 4294967296 ^ j = val xs + y * 4294967296 ^ j := val_set h
theorem rep_val : ∀ n, val (List.replicate n 0) = 0
  | 0 => rfl
  | n + 1 => by rw [List.replicate_succ, val, rep_val n]
theorem rep_ok (n : Nat) : Ok (List.replicate n 0) := fun x hx => by rw [List.eq_of_mem_replicate hx]; decide

end Go.FL
/-
  glyphref01: Add, Compare, Minus.
-/
namespace Go.FL
open Go Go.Proofs

theorem add_step {V P x y c A A' B B' s q r : Nat} (hs : s = x + y + c) (hq : s = 4294967296 * q + r) (hA : A = x + 4294967296 * A') (hB : B = y + 4294967296 * B') : (V + P * r) + (A' + B' + q) * (P * 4294967296) = V + (A + B + c) * P := by
  grind
theorem val_snoc (xs : List Nat) (y : Nat) : val (xs ++ [y]) = val xs + 4294967296 ^ xs.length * y := by rw [val_append]; simp [val]
theorem Ok.snoc {xs : List Nat} {y : Nat} (h : Ok xs) (hy : y < 4294967296) : Ok (xs ++ [y]) := h.append (by intro x hx; simp at hx; subst hx; exact hy)
theorem L_snoc (xs : List Nat) (y : Nat) : (L xs).take (L xs).length ++ [DV.i .u32 (y : Int)] = L (xs ++ [y]) := by rw [List.take_length, L_append]; rfl

theorem Add_fn {a b : List Nat} (ha : Ok a) (hb : Ok b) (hla : a.length ≤ 500000) (hlb : b.length ≤ 500000) : Fn Tryz.prog 128 [.sl (L a), .sl (L b)] (.own 121 (L (digs (val a + val b)))) := by
  refine Fn.of (rs := [.tmp 4]) (nt := 43) Tryz.func128 rfl rfl rfl (by simp) rfl ?_; refine .seq ?_; refine .region ?_; refine asn ?_; refine rn ?_; refine .seq ?_; refine .region ?_; refine asn ?_; refine rn ?_; refine .seq ?_; refine .region ?_; refine asd ?_; refine rn ?_; refine .mid (fun e H' => ∃ out, e = [(5, .own 121 (L out))] ∧ H' = [] ∧ Ok out ∧ out.length ≤ a.length + b.length + 1 ∧ val out = val a + val b) ?_ ?_
  · refine .seq ?_
    refine .region ?_; refine asd ?_; refine rn ?_; refine .block ?_; refine .gh (Gh.nlOwn (t := 5) 121 z32p rfl) ?_
    refine .loop (.gh (Gh.keep [0, 1, 5, 6, 7] rfl) ?_)
    refine AL.ind (σ := List Nat × Nat) (m := fun s => (a.length + b.length - s.1.length) * 2 + s.2) (e := fun s => [(0, .d (.sl (L a))), (1, .d (.sl (L b))), (5, .own 121 (L s.1)), (6, .d (.i .u64 (s.2 : Int))), (7, .d (.i .i64 (s.1.length : Int)))]) (h := fun _ => [])
      (I := fun s => Ok s.1 ∧ s.2 ≤ 1 ∧ s.1.length + s.2 ≤ a.length + b.length + 1 ∧ val s.1 + (val (a.drop s.1.length) + val (b.drop s.1.length) + s.2) * 4294967296 ^ s.1.length = val a + val b) ?_ ([], 0) ⟨.nil, by simp, by simp, by simp [val]⟩
    rintro ⟨out, c⟩ ⟨h1, h2, h3, h4⟩ ih
    dsimp only at h1 h2 h3 h4 ih ⊢
    refine .mid (fun e H' => H' = [] ∧ (out.length < a.length ∨ out.length < b.length ∨ c = 1) ∧ e = [(0, .d (.sl (L a))), (1, .d (.sl (L b))), (5, .own 121 (L out)), (6, .d (.i .u64 (c : Int))), (7, .d (.i .i64 (out.length : Int)))]) ?_ ?_
    · refine .seq ?_
      refine .region ?_; refine mvd ?_; refine mvd ?_
      refine ln ?_ (L_sz _) l32
      refine bi ?_; refine mvd ?_
      by_cases hA : out.length < a.length
      · rw [decide_eq_true (show (out.length : Int) < ((L a).length : Nat) by rw [L_length]; omega)]
        refine gf ?_; refine gf ?_; refine gf ?_; refine gf ?_; refine pkd ?_; refine mvd ?_; refine gf ?_; refine gf ?_; refine pkd ?_; refine rn ?_; refine cndt ?_; refine .gh (Gh.keep [0, 1, 5, 6, 7] rfl) ?_; refine .skip ?_
        exact ⟨rfl, .inl hA, rfl⟩
      · rw [decide_eq_false (show ¬ (out.length : Int) < ((L a).length : Nat) by rw [L_length]; omega)]
        refine mvd ?_; refine mvd ?_
        refine ln ?_ (L_sz _) l32
        refine bi ?_; refine pkd ?_; refine mvd ?_
        by_cases hB : out.length < b.length
        · rw [decide_eq_true (show (out.length : Int) < ((L b).length : Nat) by rw [L_length]; omega)]
          refine gf ?_; refine gf ?_; refine pkd ?_; refine rn ?_; refine cndt ?_; refine .gh (Gh.keep [0, 1, 5, 6, 7] rfl) ?_; refine .skip ?_
          exact ⟨rfl, .inr (.inl hB), rfl⟩
        · rw [decide_eq_false (show ¬ (out.length : Int) < ((L b).length : Nat) by rw [L_length]; omega)]
          refine mvd ?_; refine bi ?_; refine pkd ?_; refine rn ?_
          by_cases hc : c = 0
          · subst hc
            refine cndf ?_; refine .gh (Gh.keep [5] rfl) ?_; refine .exit ?_
            refine ⟨out, rfl, rfl, h1, by omega, ?_⟩
            rw [List.drop_eq_nil_of_le (by omega), List.drop_eq_nil_of_le (by omega)] at h4
            simpa [val] using h4
          · rw [decide_eq_true (show (0 : Int) < (c : Int) by omega)]
            refine cndt ?_; refine .gh (Gh.keep [0, 1, 5, 6, 7] rfl) ?_; refine .skip ?_
            exact ⟨rfl, .inr (.inr (by omega)), rfl⟩
    rintro _ _ ⟨rfl, hgo, rfl⟩
    have hxl := getD_lt ha out.length
    have hyl := getD_lt hb out.length
    have hdx := drop_val (b := a) out.length
    have hdy := drop_val (b := b) out.length
    have f1 := limb_fn (a := a) ha (i := out.length) (by omega)
    have f2 := limb_fn (a := b) hb (i := out.length) (by omega)
    have hz : ¬ out.length < a.length → ¬ out.length < b.length → a.getD out.length 0 = 0 ∧ b.getD out.length 0 = 0 := fun h5 h6 => by
      rw [List.getD_eq_getElem?_getD, List.getD_eq_getElem?_getD, List.getElem?_eq_none (by omega), List.getElem?_eq_none (by omega)]; simp
    generalize a.getD out.length 0 = x at *
    generalize b.getD out.length 0 = y at *
    have hstep := add_step (V := val out) (P := 4294967296 ^ out.length) (x := x) (y := y) (c := c) (s := x + y + c) (q := (x + y + c) / 4294967296) (r := (x + y + c) % 4294967296) rfl (Nat.div_add_mod _ _).symm hdx hdy
    refine .seq ?_; refine .block ?_; refine .seq ?_; refine .region ?_; refine mvd ?_; refine mvd ?_
    refine cl (xs := [.sl (L a), .i .i64 (out.length : Int)]) ?_ f1 Tryz.call200
    refine mvd ?_; refine mvd ?_
    refine cl (xs := [.sl (L b), .i .i64 (out.length : Int)]) ?_ f2 Tryz.call200
    refine bie (.i .u64 ((x + y : Nat) : Int)) ?_ ?_
    · exact ⟨trivial, by rw [← Int.natCast_add, toU64 (by omega)]⟩
    refine mvd ?_; refine bie (.i .u64 ((x + y + c : Nat) : Int)) ?_ ?_
    · exact ⟨trivial, by rw [← Int.natCast_add, toU64 (by omega)]⟩
    refine asd ?_; refine rn ?_
    have hs2 : x + y + c < 8589934592 := by omega
    have hcz : ¬ out.length < a.length → ¬ out.length < b.length → (x + y + c) / 4294967296 = 0 := fun h5 h6 => by
      obtain ⟨e1, e2⟩ := hz h5 h6
      omega
    generalize x + y + c = s at *
    refine .seq ?_; refine .region ?_; refine mvo ?_; refine mvd ?_
    refine cve ((s % 4294967296 : Nat) : Int) (wrapU32 _) ?_ u64 u32
    refine bsl ?_ ?_ e32
    · simp [DV.flat, DV.cells, DV.leaf]
    refine apr ?_ ?_ (L_sz1 [s % 4294967296]) e32
    · simp [L_length]; omega
    refine aso ?_; refine rn ?_; refine .region ?_; refine mvd ?_; refine bie (.i .u64 ((s / 4294967296 : Nat) : Int)) ?_ ?_
    · simp [IntKind.bits]
    refine asd ?_; refine .nil ?_
    show AW _ _ _ _ _ _
    refine .region ?_; refine mvd ?_; refine ad ((out.length + 1 : Nat) : Int) ?_ ?_
    · omega
    refine asd ?_; refine rn ?_; refine .gh (Gh.keep [0, 1, 5, 6, 7] rfl) ?_
    have := ih (out ++ [s % 4294967296], s / 4294967296) ⟨h1.snoc (Nat.mod_lt _ (by decide)), by dsimp only; omega, ?_, ?_⟩ ?_
    · rw [← L_snoc] at this
      dsimp only at this
      rw [List.length_append] at this
      exact this
    · dsimp only
      rw [List.length_append, List.length_singleton]
      by_cases h5 : out.length < a.length ∨ out.length < b.length
      · omega
      · have := hcz (fun h => h5 (.inl h)) (fun h => h5 (.inr h)); omega
    · dsimp only
      rw [val_snoc, List.length_append, List.length_singleton, Nat.pow_succ, hstep, h4]
    · dsimp only
      rw [List.length_append, List.length_singleton]
      by_cases h5 : out.length < a.length ∨ out.length < b.length
      · omega
      · have := hcz (fun h => h5 (.inl h)) (fun h => h5 (.inr h)); omega
  rintro _ _ ⟨out, rfl, rfl, h1, h2, h3⟩
  refine .seq ?_; refine .region ?_; refine fz (p := .t 5) ?_; refine mvd ?_
  refine cl (xs := [.sl (L out)]) ?_ (refTrim_fn h1 (by omega)) Tryz.call117
  rw [h3]
  refine aso ?_; refine rn ?_; refine .ret ?_
  exact ⟨rfl, rfl⟩
end Go.FL
/-
  glyphref01: Compare, Minus.
-/
namespace Go.FL
open Go Go.Proofs

theorem refCompare_fn {a b : List Nat} (ha : Ok a) (hb : Ok b) (hla : a.length ≤ 35184372087808) (hlb : b.length ≤ 35184372087808) : Fn Tryz.prog 42 [.sl (L a), .sl (L b)] (.d (.i .i64 (cmpN (val a) (val b)))) := by
  have dla := Nat.le_trans (digs_len_le ha) hla
  have dlb := Nat.le_trans (digs_len_le hb) hlb
  have va := val_digs (val a)
  have vb := val_digs (val b)
  have oa := digs_ok (val a)
  have ob := digs_ok (val b)
  have lt1 := @digs_lt (val a) (val b)
  have lt2 := @digs_lt (val b) (val a)
  refine Fn.of (rs := [.tmp 4]) (nt := 47) Tryz.func42 rfl rfl rfl (by simp) rfl ?_; refine .seq ?_; refine .region ?_; refine asd ?_; refine rn ?_; refine .seq ?_; refine .region ?_; refine mvd ?_
  refine cl (xs := [.sl (L a)]) ?_ (refTrim_fn ha (by omega)) Tryz.call117
  refine mvd ?_
  refine cl (xs := [.sl (L b)]) ?_ (refTrim_fn hb (by omega)) Tryz.call117
  refine aso ?_; refine aso ?_; refine rn ?_; refine .gh (Gh.frz (p := .t 5) rfl (fun _ _ h => by cases h)) ?_; refine .gh (Gh.frz (p := .t 6) rfl (fun _ _ h => by cases h)) ?_; refine .gh (Gh.keep [5, 6] rfl) ?_
  generalize digs (val a) = xs at *
  generalize digs (val b) = ys at *
  refine .seq ?_; refine .seq ?_; refine .region ?_; refine mvd ?_
  refine ln ?_ (L_sz _) l32
  refine mvd ?_
  refine ln ?_ (L_sz _) l32
  refine bi ?_; refine rn ?_
  by_cases hlen : xs.length = ys.length
  · have e1 : (!decide (((L xs).length : Int) = ((L ys).length : Int))) = false := by simp [L_length]; omega
    rw [e1]
    refine cndf ?_; refine .skip ?_
    show AW _ _ _ _ _ _
    refine .seq ?_; refine .seq ?_; refine .region ?_; refine mvd ?_
    refine ln ?_ (L_sz _) l32
    refine su ((xs.length : Int) - 1) ?_ ?_
    · rw [L_length]; omega
    refine asd ?_; refine rn ?_; refine .block ?_
    refine .loop (.gh (Gh.keep [5, 6, 7] rfl) ?_)
    refine AL.ind (σ := Nat) (m := fun i => i) (e := fun i => [(5, .d (.sl (L xs))), (6, .d (.sl (L ys))), (7, .d (.i .i64 ((i : Int) - 1)))]) (h := fun _ => [])
      (I := fun i => i ≤ xs.length ∧ xs.drop i = ys.drop i) ?_ xs.length ⟨Nat.le_refl _, by rw [List.drop_of_length_le (Nat.le_refl _), List.drop_of_length_le (by omega)]⟩
    rintro i ⟨h1, h2⟩ ih
    refine .seq ?_; refine .seq ?_; refine .region ?_; refine mvd ?_; refine bi ?_; refine rn ?_
    cases i with
    | zero =>
      rw [decide_eq_false (show ¬ (0 : Int) ≤ ((0 : Nat) : Int) - 1 by omega)]
      refine cndf ?_; refine .exit ?_
      show AW _ _ _ _ _ _
      refine .seq ?_; refine .region ?_; refine asd ?_; refine rn ?_; refine .ret ?_
      simp only [List.drop_zero] at h2
      subst h2
      exact ⟨by rw [← va, ← vb]; unfold cmpN; rw [if_neg (by omega), if_pos rfl]; rfl, rfl⟩
    | succ i =>
      have hx : xs[i]? = some xs[i] := List.getElem?_eq_getElem (by omega)
      have hy : ys[i]? = some ys[i] := List.getElem?_eq_getElem (by omega)
      have hdx : xs.drop i = xs[i] :: xs.drop (i + 1) := List.drop_eq_getElem_cons (by omega)
      have hdy : ys.drop i = ys[i] :: ys.drop (i + 1) := List.drop_eq_getElem_cons (by omega)
      generalize xs[i] = x at hx hdx
      generalize ys[i] = y at hy hdy
      rw [decide_eq_true (show (0 : Int) ≤ ((i + 1 : Nat) : Int) - 1 by omega)]
      refine cndt ?_; refine .skip ?_
      show AW _ _ _ _ _ _
      refine .gh (Gh.keep [5, 6, 7] rfl) ?_; refine .seq ?_; refine .block ?_; refine .seq ?_; refine .seq ?_; refine .drawn 9 mixed (by kernel_rfl) ?_; refine dv vmvd ?_; refine dv vmvd ?_; refine dv (vix (z := ((i + 1 : Nat) : Int) - 1) i (by omega) (L_at hx) rfl s32) ?_; refine dv (vldp a32) ?_; refine dv vmvd ?_; refine dv vmvd ?_; refine dv (vix (z := ((i + 1 : Nat) : Int) - 1) i (by omega) (L_at hy) rfl s32) ?_; refine dv (vldp a32) ?_; refine dv vbi ?_; refine dz ?_; refine rn ?_
      by_cases hlt : x < y
      · rw [decide_eq_true (show (x : Int) < (y : Int) by omega)]
        refine cndt ?_; refine .seq ?_; refine .region ?_; refine asd ?_; refine rn ?_; refine .ret ?_
        have := cmp_at oa ob h2 hx hy hlt
        exact ⟨by unfold cmpN; rw [if_pos (by omega)]; rfl, rfl⟩
      · rw [decide_eq_false (show ¬ (x : Int) < (y : Int) by omega)]
        refine cndf ?_; refine .skip ?_
        show AW _ _ _ _ _ _
        refine .gh (Gh.keep [5, 6, 7] rfl) ?_; refine .seq ?_; refine .drawn 9 mixed (by kernel_rfl) ?_; refine dv vmvd ?_; refine dv vmvd ?_; refine dv (vix (z := ((i + 1 : Nat) : Int) - 1) i (by omega) (L_at hx) rfl s32) ?_; refine dv (vldp a32) ?_; refine dv vmvd ?_; refine dv vmvd ?_; refine dv (vix (z := ((i + 1 : Nat) : Int) - 1) i (by omega) (L_at hy) rfl s32) ?_; refine dv (vldp a32) ?_; refine dv vbi ?_; refine dz ?_; refine rn ?_
        by_cases hgt : y < x
        · rw [decide_eq_true (show (y : Int) < (x : Int) by omega)]
          refine cndt ?_; refine .seq ?_; refine .region ?_; refine asd ?_; refine rn ?_; refine .ret ?_
          have := cmp_at ob oa h2.symm hy hx hgt
          exact ⟨by unfold cmpN; rw [if_neg (by omega), if_neg (by omega)]; rfl, rfl⟩
        · have hxy : x = y := by omega
          subst hxy
          rw [decide_eq_false (show ¬ (x : Int) < (x : Int) by omega)]
          refine cndf ?_; refine .skip ?_
          show AW _ _ _ _ _ _
          refine .gh (Gh.keep [5, 6, 7] rfl) ?_; refine .region ?_; refine mvd ?_; refine su ((i : Int) - 1) ?_ ?_
          · omega
          refine asd ?_; refine rn ?_; refine .gh (Gh.keep [5, 6, 7] rfl) ?_
          exact ih i ⟨by omega, by rw [hdx, hdy, h2]⟩ (by omega)
  · have e1 : (!decide (((L xs).length : Int) = ((L ys).length : Int))) = true := by simp [L_length]; omega
    rw [e1]
    refine cndt ?_; refine .seq ?_; refine .seq ?_; refine .region ?_; refine mvd ?_
    refine ln ?_ (L_sz _) l32
    refine mvd ?_
    refine ln ?_ (L_sz _) l32
    refine bi ?_; refine rn ?_
    by_cases hl : xs.length < ys.length
    · have h1 := lt1 hl
      rw [decide_eq_true (show (((L xs).length : Nat) : Int) < ((L ys).length : Nat) by rw [L_length, L_length]; omega)]
      refine cndt ?_; refine .seq ?_; refine .region ?_; refine asd ?_; refine rn ?_; refine .ret ?_
      exact ⟨by unfold cmpN; rw [if_pos (by omega)]; rfl, rfl⟩
    · have h1 := lt2 (by omega)
      rw [decide_eq_false (show ¬ (((L xs).length : Nat) : Int) < ((L ys).length : Nat) by rw [L_length, L_length]; omega)]
      refine cndf ?_; refine .skip ?_
      show AW _ _ _ _ _ _
      refine .seq ?_; refine .region ?_; refine asd ?_; refine rn ?_; refine .ret ?_
      exact ⟨by unfold cmpN; rw [if_neg (by omega), if_neg (by omega)]; rfl, rfl⟩

theorem sub_step {O P x y c A A' B B' q r : Nat} (hq : x + 4294967296 * q = y + c + r) (hA : A = x + 4294967296 * A') (hB : B = y + 4294967296 * B') {T U : Nat} (h : T + (B + c) * P = U + O + A * P) : T + (B' + q) * (P * 4294967296) = U + (O + P * r) + A' * (P * 4294967296) := by
  grind
def minN (m n : Nat) : Nat := if n ≤ m then m - n else 0
theorem refMinus_fn {a b : List Nat} (ha : Ok a) (hb : Ok b) (hla : a.length ≤ 500000) (hlb : b.length ≤ 500000) : Fn Tryz.prog 156 [.sl (L a), .sl (L b)] (.tup [.d (.sl (L (digs (minN (val a) (val b))))), .d (.b (decide (val b ≤ val a)))]) := by
  refine Fn.of (rs := [.tmp 4, .tmp 5]) (nt := 43) Tryz.func156 rfl rfl rfl (by simp) rfl ?_; refine .seq ?_; refine .region ?_; refine asn ?_; refine asd ?_; refine rn ?_; refine .seq ?_; refine .seq ?_; refine .region ?_; refine mvd ?_; refine mvd ?_
  refine cl (xs := [.sl (L a), .sl (L b)]) ?_ (refCompare_fn ha hb (by omega) (by omega)) Tryz.call42
  refine bi ?_; refine rn ?_
  by_cases hlt : val a < val b
  · rw [decide_eq_true (show cmpN (val a) (val b) < 0 by unfold cmpN; rw [if_pos hlt]; decide)]
    refine cndt ?_; refine .seq ?_; refine .region ?_; refine asn ?_; refine asd ?_; refine rn ?_; refine .gh (Gh.nlD (t := 4) rfl) ?_; refine .ret ?_
    exact ⟨by decide, by rw [decide_eq_false (show ¬ val b ≤ val a by omega), minN, if_neg (by omega), digs_zero]; rfl, rfl, rfl⟩
  · have hle : val b ≤ val a := by omega
    rw [decide_eq_false (show ¬ cmpN (val a) (val b) < 0 by unfold cmpN; rw [if_neg hlt]; split <;> decide)]
    refine cndf ?_; refine .skip ?_
    show AW _ _ _ _ _ _
    refine .seq ?_; refine .region ?_; refine asn ?_; refine rn ?_; refine .seq ?_; refine .region ?_; refine asd ?_; refine rn ?_; refine .mid (fun e H' => ∃ out, e = [(6, .own 121 (L out))] ∧ H' = [] ∧ Ok out ∧ out.length = a.length ∧ val out = val a - val b) ?_ ?_
    · refine .seq ?_
      refine .region ?_; refine asd ?_; refine rn ?_; refine .block ?_; refine .gh (Gh.nlOwn (t := 6) 121 z32p rfl) ?_
      refine .loop (.gh (Gh.keep [0, 1, 6, 7, 8] rfl) ?_)
      refine AL.ind (σ := List Nat × Nat) (m := fun s => a.length - s.1.length) (e := fun s => [(0, .d (.sl (L a))), (1, .d (.sl (L b))), (6, .own 121 (L s.1)), (7, .d (.i .u64 (s.2 : Int))), (8, .d (.i .i64 (s.1.length : Int)))]) (h := fun _ => [])
        (I := fun s => Ok s.1 ∧ s.2 ≤ 1 ∧ s.1.length ≤ a.length ∧ val a + (val (b.drop s.1.length) + s.2) * 4294967296 ^ s.1.length = val b + val s.1 + val (a.drop s.1.length) * 4294967296 ^ s.1.length) ?_ ([], 0) ⟨.nil, by simp, by simp, by simp [val]; omega⟩
      rintro ⟨out, c⟩ ⟨h1, h2, h3, h4⟩ ih
      dsimp only at h1 h2 h3 h4 ih ⊢
      refine .seq ?_; refine .seq ?_; refine .region ?_; refine mvd ?_; refine mvd ?_
      refine ln ?_ (L_sz _) l32
      refine bi ?_; refine rn ?_
      by_cases hA : out.length < a.length
      · rw [decide_eq_true (show (out.length : Int) < ((L a).length : Nat) by rw [L_length]; omega)]
        refine cndt ?_; refine .skip ?_
        show AW _ _ _ _ _ _
        have hxl := getD_lt ha out.length
        have hyl := getD_lt hb out.length
        have hdx := drop_val (b := a) out.length
        have hdy := drop_val (b := b) out.length
        have f1 := limb_fn (a := a) ha (i := out.length) (by omega)
        have f2 := limb_fn (a := b) hb (i := out.length) (by omega)
        generalize a.getD out.length 0 = x at *
        generalize b.getD out.length 0 = y at *
        refine .seq ?_; refine .block ?_; refine .seq ?_; refine .region ?_; refine mvd ?_; refine mvd ?_
        refine cl (xs := [.sl (L a), .i .i64 (out.length : Int)]) ?_ f1 Tryz.call200
        refine mvd ?_; refine mvd ?_
        refine cl (xs := [.sl (L b), .i .i64 (out.length : Int)]) ?_ f2 Tryz.call200
        refine mvd ?_; refine bie (.i .u64 ((y + c : Nat) : Int)) ?_ ?_
        · exact ⟨trivial, by rw [← Int.natCast_add, toU64 (by omega)]⟩
        refine asd ?_; refine asd ?_; refine rn ?_; refine .seq ?_; refine .region ?_; refine asd ?_; refine rn ?_; refine .mid (fun e H' => H' = [] ∧ ∃ q r, x + 4294967296 * q = y + c + r ∧ r < 4294967296 ∧ q ≤ 1 ∧ e = [(0, .d (.sl (L a))), (1, .d (.sl (L b))), (6, .own 121 (L out)), (7, .d (.i .u64 (q : Int))), (8, .d (.i .i64 (out.length : Int))), (9, .d (.i .u64 ((x + 4294967296 * q : Nat) : Int))), (10, .d (.i .u64 ((y + c : Nat) : Int)))]) ?_ ?_
        · refine .seq ?_
          refine .region ?_; refine mvd ?_; refine mvd ?_; refine bi ?_; refine rn ?_
          by_cases hxy : x < y + c
          · rw [decide_eq_true (show (x : Int) < ((y + c : Nat) : Int) by omega)]
            refine cndt ?_; refine .seq ?_; refine .region ?_; refine mvd ?_; refine bie (.i .u64 ((x + 4294967296 : Nat) : Int)) ?_ ?_
            · refine ⟨trivial, ?_⟩
              rw [← toU64 (show x + 4294967296 < 18446744073709551616 by omega)]; rfl
            refine asd ?_; refine rn ?_; refine .region ?_; refine asd ?_; refine RL.gh (Gh.keep [0, 1, 6, 7, 8, 9, 10] rfl) ?_; refine .nil ?_
            exact ⟨rfl, 1, x + 4294967296 - (y + c), by omega, by omega, by omega, rfl⟩
          · rw [decide_eq_false (show ¬ (x : Int) < ((y + c : Nat) : Int) by omega)]
            refine cndf ?_; refine .gh (Gh.keep [0, 1, 6, 7, 8, 9, 10] rfl) ?_; refine .skip ?_
            exact ⟨rfl, 0, x - (y + c), by omega, by omega, by omega, rfl⟩
        rintro _ _ ⟨rfl, q, r, w1, w2, w3, rfl⟩
        have hstep := sub_step w1 hdx hdy h4
        refine .region ?_; refine mvo ?_; refine mvd ?_; refine mvd ?_; refine bie (.i .u64 (r : Int)) ?_ ?_
        · refine ⟨trivial, ?_⟩
          rw [show ((x + 4294967296 * q : Nat) : Int) - ((y + c : Nat) : Int) = (r : Int) by omega, toU64 (by omega)]
        refine cve (r : Int) (toU32 w2) ?_ u64 u32
        refine bsl ?_ ?_ e32
        · simp [DV.flat, DV.cells, DV.leaf]
        refine apr ?_ ?_ (L_sz1 [r]) e32
        · simp [L_length]; omega
        refine aso ?_; refine .nil ?_
        show AW _ _ _ _ _ _
        refine .region ?_; refine mvd ?_; refine ad ((out.length + 1 : Nat) : Int) ?_ ?_
        · omega
        refine asd ?_; refine rn ?_; refine .gh (Gh.keep [0, 1, 6, 7, 8] rfl) ?_
        have := ih (out ++ [r], q) ⟨h1.snoc w2, w3, by simp; omega, ?_⟩ (by simp; omega)
        · rw [← L_snoc] at this
          dsimp only at this
          rw [List.length_append] at this
          exact this
        · dsimp only
          rw [val_snoc, List.length_append, List.length_singleton, Nat.pow_succ]
          exact hstep
      · rw [decide_eq_false (show ¬ (out.length : Int) < ((L a).length : Nat) by rw [L_length]; omega)]
        refine cndf ?_; refine .gh (Gh.keep [6] rfl) ?_; refine .exit ?_
        have hlen : out.length = a.length := by omega
        refine ⟨out, rfl, rfl, h1, hlen, ?_⟩
        rw [List.drop_eq_nil_of_le (show a.length ≤ out.length by omega), hlen] at h4
        simp only [val, Nat.zero_mul, Nat.add_zero] at h4
        have hvo := val_lt h1
        rw [hlen] at hvo
        have hz : val (b.drop a.length) + c = 0 := by
          apply Classical.byContradiction
          intro hne
          have : 1 * 4294967296 ^ a.length ≤ (val (b.drop a.length) + c) * 4294967296 ^ a.length := Nat.mul_le_mul_right _ (by omega)
          omega
        rw [hz] at h4
        omega
    rintro _ _ ⟨out, rfl, rfl, h1, h2, h3⟩
    refine .seq ?_; refine .region ?_; refine fz (p := .t 6) ?_; refine mvd ?_
    refine cl (xs := [.sl (L out)]) ?_ (refTrim_fn h1 (by omega)) Tryz.call117
    rw [h3]
    refine aso ?_; refine asd ?_; refine rn ?_; refine .gh (Gh.frz (p := .t 4) rfl (fun _ _ h => by cases h)) ?_; refine .ret ?_
    exact ⟨by decide, by rw [decide_eq_true hle, minN, if_pos hle]; rfl, rfl, rfl⟩
end Go.FL
/-
  math/bits: Sub32, Add32.
-/
namespace Go.FL
open Go Go.Proofs

theorem w32 (X : BitVec 32) : IntKind.u32.wrap (X.toNat : Int) = X.toNat := wraps_u32 _ (by omega) (by have := X.isLt; omega)
theorem o32 (X : BitVec 32) : BitVec.ofInt IntKind.u32.bits (X.toNat : Int) = X := by
  show BitVec.ofInt 32 (X.toNat : Int) = X
  rw [BitVec.ofInt_natCast, BitVec.ofNat_toNat]; simp
theorem u32_and (X Y : BitVec 32) : bits .and .u32 (X.toNat : Int) (Y.toNat : Int) = ((X &&& Y).toNat : Int) := by
  unfold bits; simp only [o32]; exact w32 _
theorem u32_or (X Y : BitVec 32) : bits .or .u32 (X.toNat : Int) (Y.toNat : Int) = ((X ||| Y).toNat : Int) := by
  unfold bits; simp only [o32]; exact w32 _
theorem u32_xor (X Y : BitVec 32) : bits .xor .u32 (X.toNat : Int) (Y.toNat : Int) = ((X ^^^ Y).toNat : Int) := by
  unfold bits; simp only [o32]; exact w32 _
theorem u32_not (X : BitVec 32) : bits .xor .u32 (if IntKind.u32.signed then -1 else IntKind.u32.max) (X.toNat : Int) = ((~~~X).toNat : Int) := by
  have := u32_xor (BitVec.allOnes 32) X
  rw [BitVec.allOnes_xor] at this
  exact this
theorem u32_sub (X Y : BitVec 32) : IntKind.u32.wrap ((X.toNat : Int) - (Y.toNat : Int)) = ((X - Y).toNat : Int) := by
  simp only [IntKind.wrap, IntKind.bits, IntKind.signed, BitVec.toNat_sub]; simp
  have := X.isLt; have := Y.isLt; omega
theorem u32_top (X : BitVec 32) : (X.toNat : Int) / 2 ^ 31 = if X.msb then 1 else 0 := by
  rw [BitVec.msb_eq_decide]
  have := X.isLt
  by_cases h : 2 ^ (32 - 1) ≤ X.toNat
  · simp [h]; omega
  · simp [h]; omega
theorem sub_top (X Y B : BitVec 32) (hB : B.toNat ≤ 1) : ((~~~X &&& Y) ||| (~~~(X ^^^ Y) &&& (X - Y - B))).msb = decide (X.toNat < Y.toNat + B.toNat) := by
  have hx := X.isLt; have hy := Y.isLt
  simp only [BitVec.msb_or, BitVec.msb_and, BitVec.msb_not, BitVec.msb_xor]
  rw [BitVec.msb_eq_decide X, BitVec.msb_eq_decide Y, BitVec.msb_eq_decide (X - Y - B)]
  simp only [BitVec.toNat_sub]
  by_cases h1 : 2 ^ (32 - 1) ≤ X.toNat <;> by_cases h2 : 2 ^ (32 - 1) ≤ Y.toNat <;> simp [h1, h2] <;> omega
theorem Sub32_fn' (X Y B : BitVec 32) (hB : B.toNat ≤ 1) : Fn Tryz.prog 240 [.i .u32 X.toNat, .i .u32 Y.toNat, .i .u32 B.toNat]
    (.tup [.d (.i .u32 (X - Y - B).toNat), .d (.i .u32 (if decide (X.toNat < Y.toNat + B.toNat) = true then 1 else 0))]) := by
  refine Fn.of (rs := [.tmp 6, .tmp 7]) (nt := 25) Tryz.func240 rfl rfl rfl (by simp) rfl ?_; refine .seq ?_; refine .region ?_; refine asd ?_; refine asd ?_; refine rn ?_; refine .seq ?_; refine .region ?_; refine mvd ?_; refine mvd ?_; refine bi ?_
  rw [u32_sub]
  refine mvd ?_; refine bi ?_
  rw [u32_sub]
  refine asd ?_; refine rn ?_; refine .seq ?_; refine .region ?_; refine mvd ?_; refine xr ?_
  rw [u32_not]
  refine mvd ?_; refine bi ?_
  rw [u32_and]
  refine mvd ?_; refine mvd ?_; refine bi ?_
  rw [u32_xor]
  refine xr ?_
  rw [u32_not]
  refine mvd ?_; refine bi ?_
  rw [u32_and]
  refine bi ?_
  rw [u32_or]
  refine bic ?_ ?_
  · decide
  refine asd ?_; refine rn ?_; refine .ret ?_
  rw [← sub_top X Y B hB, ← u32_top]
  exact ⟨by decide, rfl, rfl, rfl⟩
theorem Sub32_fn {x y b : Nat} (hx : x < 4294967296) (hy : y < 4294967296) (hb : b ≤ 1) : Fn Tryz.prog 240 [U x, U y, U b]
    (.tup [.d (U ((x + 8589934592 - y - b) % 4294967296)), .d (U (if x < y + b then 1 else 0))]) := by
  have := Sub32_fn' (BitVec.ofNat 32 x) (BitVec.ofNat 32 y) (BitVec.ofNat 32 b) (by simp only [BitVec.toNat_ofNat]; omega)
  have e1 : x % 2 ^ 32 = x := Nat.mod_eq_of_lt hx
  have e2 : y % 2 ^ 32 = y := Nat.mod_eq_of_lt hy
  have e3 : b % 2 ^ 32 = b := Nat.mod_eq_of_lt (by omega)
  simp only [BitVec.toNat_ofNat, BitVec.toNat_sub, e1, e2, e3] at this
  rw [show (2 ^ 32 - b + (2 ^ 32 - y + x) % 2 ^ 32) % 2 ^ 32 = (x + 8589934592 - y - b) % 4294967296 by omega] at this
  by_cases h : x < y + b
  · simp only [h, decide_true, if_true] at this ⊢; exact this
  · simp only [h, decide_false, if_false, Bool.false_eq_true] at this ⊢; exact this
theorem Add32_fn {x y b : Nat} (hx : x < 4294967296) (hy : y < 4294967296) (hb : b < 4294967296) : Fn Tryz.prog 237 [U x, U y, U b]
    (.tup [.d (U ((x + y + b) % 4294967296)), .d (U ((x + y + b) / 4294967296))]) := by
  refine Fn.of (rs := [.tmp 6, .tmp 7]) (nt := 22) Tryz.func237 rfl rfl rfl (by simp) rfl ?_; refine .seq ?_; refine .region ?_; refine asd ?_; refine asd ?_; refine rn ?_; refine .seq ?_; refine .region ?_; refine mvd ?_
  refine cve (x : Int) (toU64 (by omega)) ?_ u32 u64
  refine mvd ?_
  refine cve (y : Int) (toU64 (by omega)) ?_ u32 u64
  refine bie (.i .u64 ((x + y : Nat) : Int)) ?_ ?_
  · exact ⟨trivial, by rw [← Int.natCast_add, toU64 (by omega)]⟩
  refine mvd ?_
  refine cve (b : Int) (toU64 (by omega)) ?_ u32 u64
  refine bie (.i .u64 ((x + y + b : Nat) : Int)) ?_ ?_
  · exact ⟨trivial, by rw [← Int.natCast_add, toU64 (by omega)]⟩
  refine asd ?_; refine rn ?_; refine .seq ?_; refine .region ?_; refine mvd ?_
  refine cve (((x + y + b) % 4294967296 : Nat) : Int) (wrapU32 _) ?_ u64 u32
  refine asd ?_; refine rn ?_; refine .seq ?_; refine .region ?_; refine mvd ?_; refine bie (.i .u64 (((x + y + b) / 4294967296 : Nat) : Int)) ?_ ?_
  · simp [IntKind.bits]
  refine cve (((x + y + b) / 4294967296 : Nat) : Int) (toU32 (by omega)) ?_ u64 u32
  refine asd ?_; refine rn ?_; refine .ret ?_
  exact ⟨by decide, rfl, rfl, rfl⟩
end Go.FL
/-
  nat.Minus.
-/
namespace Go.FL
open Go Go.Proofs

theorem sub_limb {x y c : Nat} (hx : x < 4294967296) (hy : y < 4294967296) (hc : c ≤ 1) : x + 4294967296 * (if x < y + c then 1 else 0) = y + c + (x + 8589934592 - y - c) % 4294967296 := by
  split <;> omega
theorem subset_step {O O' P x y c A A' B B' q r T U : Nat} (hq : x + 4294967296 * q = y + c + r) (hA : A = x + 4294967296 * A') (hB : B = y + 4294967296 * B') (h : T + (B + c) * P = U + O) (hs : O' + x * P = O + r * P) : T + (B' + q) * (P * 4294967296) = U + O' := by
  grind
theorem Minus_fn {a b : List Nat} (ha : Ok a) (hb : Ok b) (hla : a.length ≤ 500000) (hlb : b.length ≤ 500000) : Fn Tryz.prog 209 [.sl (L a), .sl (L b)] (.tup [.d (.sl (L (digs (minN (val a) (val b))))), .d (.b (decide (val b ≤ val a)))]) := by
  refine Fn.of (rs := [.tmp 4, .tmp 5]) (nt := 47) Tryz.func209 rfl rfl rfl (by simp) rfl ?_; refine .seq ?_; refine .region ?_; refine asn ?_; refine asd ?_; refine rn ?_; refine .seq ?_; refine .seq ?_; refine .region ?_; refine mvd ?_; refine mvd ?_
  refine cl (xs := [.sl (L a), .sl (L b)]) ?_ (Compare_fn ha hb (by omega) (by omega)) Tryz.call164
  refine bi ?_; refine rn ?_
  by_cases hlt : val a < val b
  · rw [decide_eq_true (show cmpN (val a) (val b) < 0 by unfold cmpN; rw [if_pos hlt]; decide)]
    refine cndt ?_; refine .seq ?_; refine .region ?_; refine asn ?_; refine asd ?_; refine rn ?_; refine .gh (Gh.nlD (t := 4) rfl) ?_; refine .ret ?_
    exact ⟨by decide, by rw [decide_eq_false (show ¬ val b ≤ val a by omega), minN, if_neg (by omega), digs_zero]; rfl, rfl, rfl⟩
  · have hle : val b ≤ val a := by omega
    rw [decide_eq_false (show ¬ cmpN (val a) (val b) < 0 by unfold cmpN; rw [if_neg hlt]; split <;> decide)]
    refine cndf ?_; refine .skip ?_
    show AW _ _ _ _ _ _
    refine .gh (Gh.keep [0, 1, 4, 5] rfl) ?_
    have oa := digs_ok (val a)
    have ob := digs_ok (val b)
    have va := val_digs (val a)
    have vb := val_digs (val b)
    have la := Nat.le_trans (digs_len_le ha) hla
    have lb := Nat.le_trans (digs_len_le hb) hlb
    refine .seq ?_; refine .region ?_; refine mvd ?_
    refine cl (xs := [.sl (L a)]) ?_ (Trim_fn ha (by omega)) Tryz.call198
    refine aso ?_; refine rn ?_; refine .seq ?_; refine .region ?_; refine mvd ?_
    refine cl (xs := [.sl (L b)]) ?_ (cut_val hb (by omega)) Tryz.call197
    refine asd ?_; refine rn ?_
    generalize digs (val a) = xs at *
    generalize digs (val b) = ys at *
    refine .seq ?_; refine .region ?_; refine asd ?_; refine rn ?_; refine .mid (fun e H' => ∃ out, e = [(6, .own 121 (L out))] ∧ H' = [] ∧ Ok out ∧ out.length = xs.length ∧ val out = val a - val b) ?_ ?_
    · refine .seq ?_
      refine .region ?_; refine mvo ?_
      refine lnr ?_ l32
      refine mvd ?_; refine rn ?_; refine .block ?_
      refine .loop (.gh (Gh.keep [1, 6, 7, 19, 20] rfl) ?_)
      refine AL.ind (σ := List Nat × Nat × Nat) (m := fun s => xs.length - s.2.1) (e := fun s => [(1, .d (.sl (L ys))), (6, .own 121 (L s.1)), (7, .d (.i .u32 (s.2.2 : Int))), (19, .d (.i .i64 ((L xs).length : Nat))), (20, .d (.i .i64 (s.2.1 : Int)))]) (h := fun _ => [])
        (I := fun s => Ok s.1 ∧ s.1.length = xs.length ∧ s.2.1 ≤ xs.length ∧ s.2.2 ≤ 1 ∧ s.1.drop s.2.1 = xs.drop s.2.1 ∧ val a + (val (ys.drop s.2.1) + s.2.2) * 4294967296 ^ s.2.1 = val b + val s.1) ?_ (xs, 0, 0) ⟨oa, rfl, Nat.zero_le _, by simp, rfl, by simp [va, vb]; omega⟩
      rintro ⟨out, i, c⟩ ⟨h1, h2, h3, h4, h5, h6⟩ ih
      dsimp only at h1 h2 h3 h4 h5 h6 ih ⊢
      refine .seq ?_; refine .region ?_; refine bi ?_; refine rn ?_; refine .seq ?_
      by_cases hi : i < xs.length
      · rw [decide_eq_true (show (i : Int) < ((L xs).length : Nat) by rw [L_length]; omega)]
        have hx : out[i]? = some out[i] := List.getElem?_eq_getElem (by omega)
        have hdr : out.drop i = out[i] :: out.drop (i + 1) := List.drop_eq_getElem_cons (by omega)
        have hdx : val (out.drop i) = out[i] + 4294967296 * val (out.drop (i + 1)) := by rw [hdr, val]
        have hxl := h1.at hx
        have hyl := getD_lt ob i
        have hdy := drop_val (b := ys) i
        have hy : ∀ h : i < ys.length, ys[i]? = some (ys.getD i 0) := fun h => by rw [List.getD_eq_getElem?_getD, List.getElem?_eq_getElem h]; rfl
        have hy0 : ¬ i < ys.length → ys.getD i 0 = 0 := fun h => by rw [List.getD_eq_getElem?_getD, List.getElem?_eq_none (by omega)]; rfl
        generalize out[i] = x at *
        generalize ys.getD i 0 = y at *
        have f1 := Sub32_fn hxl hyl h4
        have hq := sub_limb hxl hyl h4
        have hq1 : (if x < y + c then 1 else 0) ≤ 1 := by split <;> omega
        have hr1 : (x + 8589934592 - y - c) % 4294967296 < 4294967296 := Nat.mod_lt _ (by decide)
        generalize (if x < y + c then 1 else 0) = q at *
        generalize (x + 8589934592 - y - c) % 4294967296 = r at *
        have hset := set_val hx (y := r)
        have hstep := subset_step hq hdx hdy h6 hset
        refine cndt ?_; refine .skip ?_
        show AW _ _ _ _ _ _
        refine .seq ?_; refine .block ?_; refine .seq ?_; refine .region ?_; refine mvd ?_; refine asd ?_; refine rn ?_; refine .seq ?_; refine .region ?_; refine asd ?_; refine rn ?_; refine .mid (fun e H' => H' = [] ∧ e = [(1, .d (.sl (L ys))), (6, .own 121 (L out)), (7, .d (.i .u32 (c : Int))), (8, .d (.i .i64 (i : Int))), (9, .d (.i .u32 (y : Int))), (19, .d (.i .i64 ((L xs).length : Nat))), (20, .d (.i .i64 (i : Int)))]) ?_ ?_
        · refine .seq ?_
          refine .region ?_; refine mvd ?_; refine mvd ?_
          refine ln ?_ (L_sz _) l32
          refine bi ?_; refine rn ?_
          by_cases hiy : i < ys.length
          · rw [decide_eq_true (show (i : Int) < ((L ys).length : Nat) by rw [L_length]; omega)]
            refine cndt ?_; refine .region ?_; refine mvd ?_; refine mvd ?_
            refine ix i ?_ rfl (L_at (hy hiy)) rfl s32
            refine ldp ?_ a32
            refine asd ?_; refine RL.gh (Gh.keep [1, 6, 7, 8, 9, 19, 20] rfl) ?_; refine .nil ?_
            exact ⟨rfl, rfl⟩
          · rw [decide_eq_false (show ¬ (i : Int) < ((L ys).length : Nat) by rw [L_length]; omega)]
            have := hy0 hiy
            subst this
            refine cndf ?_; refine .gh (Gh.keep [1, 6, 7, 8, 9, 19, 20] rfl) ?_; refine .skip ?_
            exact ⟨rfl, rfl⟩
        rintro _ _ ⟨rfl, rfl⟩
        refine .region ?_; refine mvo ?_; refine mvd ?_; refine mvo ?_; refine mvd ?_
        refine ixr i ?_ ?_ ?_ s32 (by decide)
        · rfl
        · rw [L_length, h2]; omega
        refine lde (U x) ?_ ?_ a32
        · rw [Nat.zero_add]; exact L_at' hx
        refine mvd ?_; refine mvd ?_
        refine cl (xs := [U x, U y, U c]) ?_ f1 Tryz.call240
        refine mvt ?_; refine ex ?_; refine ex ?_
        refine ixr i ?_ ?_ ?_ s32 (by decide)
        · rfl
        · rw [L_length, h2]; omega
        refine ste ?_ ?_ z32
        · rw [Nat.zero_add]; exact L_leaf hx
        refine asd ?_; refine .nil ?_
        show AW _ _ _ _ _ _
        refine .region ?_; refine ad ((i + 1 : Nat) : Int) ?_ ?_
        · omega
        refine mvd ?_; refine rn ?_; refine .gh (Gh.keep [1, 6, 7, 19, 20] rfl) ?_
        have := ih (out.set i r, i + 1, q) ⟨h1.set _ hr1, by dsimp only; rw [List.length_set]; exact h2, by dsimp only; omega, hq1, ?_, ?_⟩ (by dsimp only; omega)
        · dsimp only at this
          have e0 : (L out).set (0 + i) (U r) = L (out.set i r) := by rw [Nat.zero_add, L_set]
          rw [← e0] at this
          exact this
        · dsimp only
          rw [List.drop_set_of_lt (by omega)]
          have e1 : xs.drop (i + 1) = (xs.drop i).drop 1 := by rw [List.drop_drop]
          have e2 : out.drop (i + 1) = (out.drop i).drop 1 := by rw [List.drop_drop]
          rw [e1, e2, h5]
        · dsimp only
          rw [Nat.pow_succ]; exact hstep
      · rw [decide_eq_false (show ¬ (i : Int) < ((L xs).length : Nat) by rw [L_length]; omega)]
        refine cndf ?_; refine .gh (Gh.keep [6] rfl) ?_; refine .exit ?_
        have hie : i = xs.length := by omega
        refine ⟨out, rfl, rfl, h1, h2, ?_⟩
        have hvo := val_lt h1
        rw [h2] at hvo
        rw [hie] at h6
        have hz : val (ys.drop xs.length) + c = 0 := by
          apply Classical.byContradiction
          intro hne
          have : 1 * 4294967296 ^ xs.length ≤ (val (ys.drop xs.length) + c) * 4294967296 ^ xs.length := Nat.mul_le_mul_right _ (by omega)
          omega
        rw [hz] at h6
        omega
    rintro _ _ ⟨out, rfl, rfl, h1, h2, h3⟩
    refine .seq ?_; refine .region ?_; refine fz (p := .t 6) ?_; refine mvd ?_
    refine cl (xs := [.sl (L out)]) ?_ (cut_val h1 (by omega)) Tryz.call197
    rw [h3]
    refine asd ?_; refine asd ?_; refine rn ?_; refine .ret ?_
    exact ⟨by decide, by rw [decide_eq_true hle, minN, if_pos hle]; rfl, rfl, rfl⟩
end Go.FL
/-
  nat.take: q times v taken off; and adding it back.
-/
namespace Go.FL
open Go Go.Proofs

theorem take_step {V' V P x r b b' c c' lo q y R : Nat} (hs : V' + x * P = V + r * P) (hl : x + 4294967296 * b' = lo + b + r) (hc : c + q * y = 4294967296 * c' + lo) {F Z : Nat} (ih : F + (q * R + c' + b') * (P * 4294967296) = V' + Z) : F + (q * (y + 4294967296 * R) + c + b) * P = V + Z := by
  grind
theorem take_last {V' V P x r b b' c : Nat} (hs : V' + x * P = V + r * P) (hl : x + 4294967296 * b' = c + b + r) : V' + (0 + c + b) * P = V + b' * (P * 4294967296) := by
  grind
def takeGo (q : Nat) : List Nat → List Nat → Nat → Nat → Nat → List Nat × Nat
  | [], u, c, b, j => (u.set j ((u.getD j 0 + 8589934592 - c % 4294967296 - b) % 4294967296), if u.getD j 0 < c % 4294967296 + b then 1 else 0)
  | y :: r, u, c, b, j => takeGo q r (u.set j ((u.getD j 0 + 8589934592 - (c + q * y) % 4294967296 - b) % 4294967296)) ((c + q * y) / 4294967296) (if u.getD j 0 < (c + q * y) % 4294967296 + b then 1 else 0) (j + 1)
theorem getD_some {u : List Nat} {j : Nat} (h : j < u.length) : u[j]? = some (u.getD j 0) := by
  rw [List.getD_eq_getElem?_getD, List.getElem?_eq_getElem h]; rfl
theorem qy_lt {q y c : Nat} (hq : q < 4294967296) (hy : y < 4294967296) (hc : c < 4294967296) : c + q * y < 18446744073709551616 := by
  have : q * y ≤ 4294967295 * 4294967295 := Nat.mul_le_mul (by omega) (by omega)
  omega
theorem div_B {s : Nat} (h : s < 18446744073709551616) : s / 4294967296 < 4294967296 := by omega
theorem takeGo_val {q : Nat} (hq : q < 4294967296) : ∀ (v u : List Nat) (c b j : Nat), Ok v → Ok u → c < 4294967296 → b ≤ 1 → j + v.length < u.length →
    val (takeGo q v u c b j).1 + (q * val v + c + b) * 4294967296 ^ j = val u + (takeGo q v u c b j).2 * 4294967296 ^ (j + v.length + 1) ∧ Ok (takeGo q v u c b j).1 ∧ (takeGo q v u c b j).2 ≤ 1 ∧
    (takeGo q v u c b j).1.length = u.length ∧ (takeGo q v u c b j).1.take j = u.take j ∧ (takeGo q v u c b j).1.drop (j + v.length + 1) = u.drop (j + v.length + 1)
  | [], u, c, b, j, hv, hu, hc, hb, hj => by
    simp only [takeGo]
    have hx := getD_some (u := u) (j := j) (by simpa using hj)
    have hxl := getD_lt hu j
    rw [Nat.mod_eq_of_lt hc]
    have hl := sub_limb hxl hc hb
    have hset := set_val hx (y := (u.getD j 0 + 8589934592 - c - b) % 4294967296)
    have h1 := take_last hset hl
    refine ⟨?_, hu.set _ (Nat.mod_lt _ (by decide)), by split <;> omega, by simp, ?_, ?_⟩
    · simp only [val, Nat.mul_zero, List.length_nil, Nat.add_zero]
      rw [h1, Nat.pow_succ]
    · rw [List.take_set_of_le (Nat.le_refl _)]
    · rw [List.drop_set_of_lt (by simp)]
  | y :: r, u, c, b, j, hv, hu, hc, hb, hj => by
    simp only [takeGo]
    have hj' : j + r.length + 1 < u.length := by simpa [Nat.add_assoc] using hj
    have hx := getD_some (u := u) (j := j) (by omega)
    have hxl := getD_lt hu j
    have hlo : (c + q * y) % 4294967296 < 4294967296 := Nat.mod_lt _ (by decide)
    have hl := sub_limb hxl hlo hb
    have hq1 : (if u.getD j 0 < (c + q * y) % 4294967296 + b then 1 else 0) ≤ 1 := by split <;> omega
    have hset := set_val hx (y := (u.getD j 0 + 8589934592 - (c + q * y) % 4294967296 - b) % 4294967296)
    have hcy : c + q * y = 4294967296 * ((c + q * y) / 4294967296) + (c + q * y) % 4294967296 := (Nat.div_add_mod _ _).symm
    have hok := hu.set j (x := (u.getD j 0 + 8589934592 - (c + q * y) % 4294967296 - b) % 4294967296) (Nat.mod_lt _ (by decide))
    have hc' := div_B (qy_lt hq hv.head hc)
    generalize (u.getD j 0 + 8589934592 - (c + q * y) % 4294967296 - b) % 4294967296 = rr at *
    generalize (if u.getD j 0 < (c + q * y) % 4294967296 + b then 1 else 0) = b' at *
    generalize u.getD j 0 = x at *
    obtain ⟨i1, i2, i3, i4, i5, i6⟩ := takeGo_val hq r (u.set j rr) ((c + q * y) / 4294967296) b' (j + 1) hv.tail hok hc' hq1 (by rw [List.length_set]; omega)
    generalize takeGo q r (u.set j rr) ((c + q * y) / 4294967296) b' (j + 1) = res at *
    rw [Nat.pow_succ] at i1
    refine ⟨?_, i2, i3, by rw [i4, List.length_set], ?_, ?_⟩
    · rw [val, show j + (y :: r).length + 1 = j + 1 + r.length + 1 by simp; omega]
      exact take_step hset hl hcy i1
    · have := congrArg (List.take j) i5
      rw [List.take_take, List.take_take, Nat.min_eq_left (by omega), List.take_set_of_le (Nat.le_refl _)] at this
      exact this
    · rw [show j + (y :: r).length + 1 = j + 1 + r.length + 1 by simp; omega, i6, List.drop_set_of_lt (by omega)]
theorem takeGo_nil (q : Nat) (u : List Nat) (c b j : Nat) : takeGo q [] u c b j = (u.set j ((u.getD j 0 + 8589934592 - c % 4294967296 - b) % 4294967296), if u.getD j 0 < c % 4294967296 + b then 1 else 0) := rfl
theorem takeGo_cons (q y : Nat) (r u : List Nat) (c b j : Nat) : takeGo q (y :: r) u c b j = takeGo q r (u.set j ((u.getD j 0 + 8589934592 - (c + q * y) % 4294967296 - b) % 4294967296)) ((c + q * y) / 4294967296) (if u.getD j 0 < (c + q * y) % 4294967296 + b then 1 else 0) (j + 1) := rfl
theorem L_set0 (xs : List Nat) (j x : Nat) : (L xs).set (0 + j) (U x) = L (xs.set j x) := by rw [Nat.zero_add, L_set]
theorem take_fn {H : Heap} {u0 v : List Nat} {q at0 : Nat} (hu : Ok u0) (hv : Ok v) (hq : q < 4294967296) (hj : at0 + v.length < u0.length) (hl : u0.length ≤ 1048576) :
    FnG Tryz.prog 236 [.own 121 (L u0), .d (.sl (L v)), .d (.i .u64 (q : Int)), .d (.i .i64 (at0 : Int))] H (.d (U (takeGo q v u0 0 0 at0).2)) [.own 121 (L (takeGo q v u0 0 0 at0).1)] H := by
  refine FnG.of (rs := [.tmp 8]) 1 68 Tryz.func236 rfl rfl rfl (by simp) (by simp) (by simp) ?_; refine .seq ?_; refine .region ?_; refine asd ?_; refine rn ?_; refine .seq ?_; refine .region ?_; refine asd ?_; refine asd ?_; refine rn ?_; refine .mid (fun e H' => H' = H ∧ ∃ u c b, Ok u ∧ u.length = u0.length ∧ c < 4294967296 ∧ b ≤ 1 ∧ takeGo q v u0 0 0 at0 = takeGo q [] u c b (at0 + v.length) ∧ e = [(0, .own 121 (L u)), (1, .d (.sl (L v))), (3, .d (.i .i64 (at0 : Int))), (9, .d (.i .u64 (c : Int))), (10, .d (.i .u32 (b : Int)))]) ?_ ?_
  · refine .seq ?_
    refine .region ?_; refine mvd ?_
    refine ln ?_ (L_sz _) l32
    refine mvd ?_; refine rn ?_; refine .block ?_
    refine .loop (.gh (Gh.keep [0, 1, 2, 3, 9, 10, 13, 14, 15] rfl) ?_)
    refine AL.ind (σ := Nat × List Nat × Nat × Nat) (m := fun s => v.length - s.1) (e := fun s => [(0, .own 121 (L s.2.1)), (1, .d (.sl (L v))), (2, .d (.i .u64 (q : Int))), (3, .d (.i .i64 (at0 : Int))), (9, .d (.i .u64 (s.2.2.1 : Int))), (10, .d (.i .u32 (s.2.2.2 : Int))), (13, .d (.sl (L v))), (14, .d (.i .i64 ((L v).length : Nat))), (15, .d (.i .i64 (s.1 : Int)))]) (h := fun _ => H)
      (I := fun s => s.1 ≤ v.length ∧ Ok s.2.1 ∧ s.2.1.length = u0.length ∧ s.2.2.1 < 4294967296 ∧ s.2.2.2 ≤ 1 ∧ takeGo q v u0 0 0 at0 = takeGo q (v.drop s.1) s.2.1 s.2.2.1 s.2.2.2 (at0 + s.1)) ?_ (0, u0, 0, 0) ⟨Nat.zero_le _, hu, rfl, by simp, by simp, rfl⟩
    rintro ⟨i, u, c, b⟩ ⟨h1, h2, h3, h4, h5, h6⟩ ih
    dsimp only at h1 h2 h3 h4 h5 h6 ih ⊢
    refine .seq ?_; refine .region ?_; refine bi ?_; refine rn ?_; refine .seq ?_
    by_cases hi : i < v.length
    · rw [decide_eq_true (show (i : Int) < ((L v).length : Nat) by rw [L_length]; omega)]
      have hy : v[i]? = some v[i] := List.getElem?_eq_getElem hi
      have hdr : v.drop i = v[i] :: v.drop (i + 1) := List.drop_eq_getElem_cons hi
      generalize v[i] = y at hy hdr
      rw [hdr, takeGo_cons] at h6
      have hyl := hv.at hy
      have hx := getD_some (u := u) (j := at0 + i) (by omega)
      have hxl := getD_lt h2 (at0 + i)
      have hlo : (c + q * y) % 4294967296 < 4294967296 := Nat.mod_lt _ (by decide)
      have f1 := Sub32_fn hxl hlo h5
      have hq1 : (if u.getD (at0 + i) 0 < (c + q * y) % 4294967296 + b then 1 else 0) ≤ 1 := by split <;> omega
      have hrr : (u.getD (at0 + i) 0 + 8589934592 - (c + q * y) % 4294967296 - b) % 4294967296 < 4294967296 := Nat.mod_lt _ (by decide)
      have hcs := qy_lt hq hyl h4
      have hc' := div_B hcs
      have hqy : q * y < 18446744073709551616 := by omega
      generalize (u.getD (at0 + i) 0 + 8589934592 - (c + q * y) % 4294967296 - b) % 4294967296 = rr at *
      generalize (if u.getD (at0 + i) 0 < (c + q * y) % 4294967296 + b then 1 else 0) = b' at *
      generalize u.getD (at0 + i) 0 = x at *
      refine cndt ?_; refine .skip ?_
      show AW _ _ _ _ _ _
      refine .seq ?_; refine .block ?_; refine .seq ?_; refine .region ?_; refine mvd ?_
      refine ix i ?_ rfl (L_at hy) rfl s32
      refine ldp ?_ a32
      refine asd ?_; refine asd ?_; refine rn ?_; refine .seq ?_; refine .region ?_; refine mvd ?_; refine mvd ?_; refine mvd ?_
      refine cve (y : Int) (toU64 (by omega)) ?_ u32 u64
      refine bie (.i .u64 ((q * y : Nat) : Int)) ?_ ?_
      · exact ⟨trivial, by rw [← Int.natCast_mul, toU64 hqy]⟩
      refine bie (.i .u64 ((c + q * y : Nat) : Int)) ?_ ?_
      · exact ⟨trivial, by rw [← Int.natCast_add, toU64 hcs]⟩
      refine asd ?_; refine rn ?_; refine .gh (Gh.keep [0, 1, 2, 3, 9, 10, 11, 13, 14, 15] rfl) ?_
      generalize c + q * y = s at *
      refine .seq ?_; refine .region ?_; refine mvo ?_; refine mvd ?_; refine mvd ?_; refine ad ((at0 + i : Nat) : Int) ?_ ?_
      · omega
      refine mvo ?_; refine mvd ?_; refine mvd ?_; refine ad ((at0 + i : Nat) : Int) ?_ ?_
      · omega
      refine ixr (at0 + i) ?_ ?_ ?_ s32 (by decide)
      · rfl
      · rw [L_length, h3]; omega
      refine lde (U x) ?_ ?_ a32
      · rw [Nat.zero_add]; exact L_at' hx
      refine mvd ?_
      refine cve ((s % 4294967296 : Nat) : Int) (wrapU32 _) ?_ u64 u32
      refine mvd ?_
      refine cl (xs := [U x, U (s % 4294967296), U b]) ?_ f1 Tryz.call240
      refine mvt ?_; refine ex ?_; refine ex ?_
      refine ixr (at0 + i) ?_ ?_ ?_ s32 (by decide)
      · rfl
      · rw [L_length, h3]; omega
      refine ste ?_ ?_ z32
      · rw [Nat.zero_add]; exact L_leaf hx
      refine asd ?_; refine rn ?_; refine .region ?_; refine mvd ?_; refine bie (.i .u64 ((s / 4294967296 : Nat) : Int)) ?_ ?_
      · simp [IntKind.bits]
      refine asd ?_; refine .nil ?_
      show AW _ _ _ _ _ _
      refine .region ?_; refine ad ((i + 1 : Nat) : Int) ?_ ?_
      · omega
      refine mvd ?_; refine rn ?_; refine .gh (Gh.keep [0, 1, 2, 3, 9, 10, 13, 14, 15] rfl) ?_
      have := ih (i + 1, u.set (at0 + i) rr, s / 4294967296, b') ⟨by dsimp only; omega, h2.set _ hrr, by dsimp only; rw [List.length_set]; exact h3, hc', hq1, h6⟩ (by dsimp only; omega)
      dsimp only at this
      rw [← L_set0] at this
      exact this
    · rw [decide_eq_false (show ¬ (i : Int) < ((L v).length : Nat) by rw [L_length]; omega)]
      refine cndf ?_; refine .gh (Gh.keep [0, 1, 3, 9, 10] rfl) ?_; refine .exit ?_
      have hie : i = v.length := by omega
      subst hie
      rw [List.drop_eq_nil_of_le (Nat.le_refl _)] at h6
      exact ⟨rfl, u, c, b, h2, h3, h4, h5, h6, rfl⟩
  rintro _ _ ⟨rfl, u, c, b, h2, h3, h4, h5, h6, rfl⟩
  rw [h6, takeGo_nil, Nat.mod_eq_of_lt h4]
  have hx := getD_some (u := u) (j := at0 + v.length) (by omega)
  have hxl := getD_lt h2 (at0 + v.length)
  have f1 := Sub32_fn hxl h4 h5
  generalize (u.getD (at0 + v.length) 0 + 8589934592 - c - b) % 4294967296 = rr at *
  generalize (if u.getD (at0 + v.length) 0 < c + b then 1 else 0) = b' at *
  generalize u.getD (at0 + v.length) 0 = x at *
  refine .seq ?_; refine .region ?_; refine mvo ?_; refine mvd ?_; refine mvd ?_
  refine ln ?_ (L_sz _) l32
  refine ad ((at0 + v.length : Nat) : Int) ?_ ?_
  · rw [L_length]; omega
  refine mvo ?_; refine mvd ?_; refine mvd ?_
  refine ln ?_ (L_sz _) l32
  refine ad ((at0 + v.length : Nat) : Int) ?_ ?_
  · rw [L_length]; omega
  refine ixr (at0 + v.length) ?_ ?_ ?_ s32 (by decide)
  · rfl
  · rw [L_length, h3]; omega
  refine lde (U x) ?_ ?_ a32
  · rw [Nat.zero_add]; exact L_at' hx
  refine mvd ?_
  refine cve (c : Int) (toU32 h4) ?_ u64 u32
  refine mvd ?_
  refine cl (xs := [U x, U c, U b]) ?_ f1 Tryz.call240
  refine mvt ?_; refine ex ?_; refine ex ?_
  refine ixr (at0 + v.length) ?_ ?_ ?_ s32 (by decide)
  · rfl
  · rw [L_length, h3]; omega
  refine ste ?_ ?_ z32
  · rw [Nat.zero_add]; exact L_leaf hx
  refine asd ?_; refine rn ?_; refine .seq ?_; refine .region ?_; refine mvd ?_; refine asd ?_; refine rn ?_; refine .ret ?_
  refine ⟨⟨[], by simp; rfl⟩, ⟨rfl, rfl⟩, ?_⟩
  intro k cc hk
  cases k with
  | zero =>
    simp at hk; subst hk
    exact ⟨by rw [← L_set0]; rfl, rfl, by simp⟩
  | succ k => simp at hk
end Go.FL
/-
  nat.shifted.
-/
namespace Go.FL
open Go Go.Proofs

def shL (n : Nat) : Nat → List Nat → List Nat
  | c, [] => [c]
  | c, x :: r => (c + x * 2 ^ n % 4294967296) :: shL n (x * 2 ^ n / 4294967296) r
theorem shL_length (n : Nat) : ∀ (a : List Nat) (c : Nat), (shL n c a).length = a.length + 1
  | [], c => rfl
  | x :: r, c => by simp [shL, shL_length n r]
theorem pow32n {n : Nat} (h : n < 32) : 2 ^ n * 2 ^ (32 - n) = 4294967296 := by
  rw [← Nat.pow_add, show n + (32 - n) = 32 by omega]
theorem shl_low {n x : Nat} (h : n < 32) : x * 2 ^ n % 4294967296 = x % 2 ^ (32 - n) * 2 ^ n := by
  rw [← pow32n h, Nat.mul_comm (2 ^ n), Nat.mul_mod_mul_right]
theorem shl_join {n x c : Nat} (h : n < 32) (hc : c < 2 ^ n) : c + x * 2 ^ n % 4294967296 < 4294967296 := by
  rw [shl_low h]
  have h1 : x % 2 ^ (32 - n) < 2 ^ (32 - n) := Nat.mod_lt _ (Nat.two_pow_pos _)
  have h2 : (x % 2 ^ (32 - n) + 1) * 2 ^ n ≤ 2 ^ (32 - n) * 2 ^ n := Nat.mul_le_mul_right _ h1
  have h3 : (2:Nat) ^ (32 - n) * 2 ^ n = 4294967296 := by rw [Nat.mul_comm]; exact pow32n h
  rw [Nat.add_mul] at h2
  omega
theorem shl_high {n x : Nat} (hx : x < 4294967296) : x * 2 ^ n / 4294967296 < 2 ^ n := by
  rw [Nat.div_lt_iff_lt_mul (by decide), Nat.mul_comm]
  exact Nat.mul_lt_mul_of_pos_left hx (Nat.two_pow_pos n)
theorem shL_val {n : Nat} (hn : n < 32) : ∀ (a : List Nat) (c : Nat), Ok a → c < 2 ^ n → val (shL n c a) = c + val a * 2 ^ n ∧ Ok (shL n c a)
  | [], c, h, hc => by
    have : (2:Nat) ^ n ≤ 2 ^ 32 := Nat.pow_le_pow_right (by decide) (by omega)
    exact ⟨by simp [shL, val], .cons (by omega) .nil⟩
  | x :: r, c, h, hc => by
    obtain ⟨a1, a2⟩ := shL_val hn r _ h.tail (shl_high (n := n) h.head)
    refine ⟨?_, .cons (shl_join hn hc) a2⟩
    show (c + x * 2 ^ n % 4294967296) + 4294967296 * val (shL n (x * 2 ^ n / 4294967296) r) = c + (x + 4294967296 * val r) * 2 ^ n
    rw [a1, Nat.add_mul, Nat.mul_add, Nat.mul_assoc]
    omega
theorem u32_join {n x c : Nat} (hn : n < 32) (hc : c < 2 ^ n) : bits .or .u32 (c : Int) ((x * 2 ^ n % 4294967296 : Nat) : Int) = ((c + x * 2 ^ n % 4294967296 : Nat) : Int) := by
  have h1 := shl_join (x := x) hn hc
  rw [bits_join_low .u32 32 (by decide) wraps_u32 n (c : Int) ((x * 2 ^ n % 4294967296 : Nat) : Int) (by omega) (by exact_mod_cast hc) (by omega) (by omega) ?_ (by omega)]
  · omega
  · rw [shl_low hn]; exact_mod_cast Nat.mul_mod_left _ _
theorem shifted_fn {a : List Nat} {n : Nat} (ha : Ok a) (hl : a.length ≤ 1048576) (hn : n < 32) : Fn Tryz.prog 234 [.sl (L a), .i .i64 n] (.own 121 (L (shL n 0 a))) := by
  refine Fn.of (rs := [.tmp 4]) (nt := 41) Tryz.func234 rfl rfl rfl (by simp) rfl ?_; refine .seq ?_; refine .region ?_; refine asn ?_; refine rn ?_; refine .seq ?_; refine .region ?_; refine mvd ?_
  refine ln ?_ (L_sz _) l32
  refine ad ((a.length + 1 : Nat) : Int) ?_ ?_
  · rw [L_length]; omega
  refine mk (a.length + 1) ⟨rfl, rfl⟩ ?_ ?_ e32 rfl
  · omega
  refine aso ?_; refine rn ?_; refine .mid (fun e H' => e = [(5, .own 121 (L (shL n 0 a)))] ∧ H' = []) ?_ ?_
  · refine .seq ?_
    refine .region ?_; refine mvd ?_
    refine ln ?_ (L_sz _) l32
    refine mvd ?_; refine rn ?_; refine .block ?_
    refine .loop (.gh (Gh.keep [1, 5, 13, 14, 15] rfl) ?_)
    refine AL.cast (env' := [(1, .d (.i .i64 n)), (5, .own 121 (L ([] ++ 0 :: List.replicate (a.length - 0) 0))), (13, .d (.sl (L a))), (14, .d (.i .i64 ((L a).length : Nat))), (15, .d (.i .i64 ((0 : Nat) : Int)))]) (by
      have e1 : L ([] ++ 0 :: List.replicate (a.length - 0) 0) = List.replicate (a.length + 1) (U 0) := by simp [L, List.replicate_succ]
      rw [e1]; rfl) ?_
    refine AL.ind (σ := List Nat × Nat × Nat) (m := fun s => a.length - s.2.2) (e := fun s => [(1, .d (.i .i64 n)), (5, .own 121 (L (s.1 ++ s.2.1 :: List.replicate (a.length - s.2.2) 0))), (13, .d (.sl (L a))), (14, .d (.i .i64 ((L a).length : Nat))), (15, .d (.i .i64 (s.2.2 : Int)))]) (h := fun _ => [])
      (I := fun s => s.2.2 ≤ a.length ∧ s.1.length = s.2.2 ∧ s.2.1 < 2 ^ n ∧ s.1 ++ shL n s.2.1 (a.drop s.2.2) = shL n 0 a) ?_ ([], 0, 0) ⟨by simp, rfl, Nat.two_pow_pos n, rfl⟩
    rintro ⟨ps, c, i⟩ ⟨h1, h2, h3, h4⟩ ih
    dsimp only at h1 h2 h3 h4 ih ⊢
    refine .seq ?_; refine .region ?_; refine bi ?_; refine rn ?_; refine .seq ?_
    by_cases hi : i < a.length
    · rw [decide_eq_true (show (i:Int) < ((L a).length : Nat) by rw [L_length]; omega)]
      have hx : a[i]? = some a[i] := List.getElem?_eq_getElem hi
      have hdr : a.drop i = a[i] :: a.drop (i + 1) := List.drop_eq_getElem_cons hi
      generalize a[i] = x at hx hdr
      have hxl := ha.at hx
      rw [hdr] at h4
      obtain ⟨m, hm⟩ : ∃ m, a.length - i = m + 1 := ⟨a.length - i - 1, by omega⟩
      rw [hm, List.replicate_succ]
      have hz0 : (ps ++ c :: 0 :: List.replicate m 0)[i]? = some c := by
        rw [List.getElem?_append_right (by omega), h2, Nat.sub_self]; rfl
      have hw : x * 2 ^ n < 18446744073709551616 := by
        have : (2:Nat) ^ n ≤ 2 ^ 31 := Nat.pow_le_pow_right (by decide) (by omega)
        have := Nat.mul_le_mul (show x ≤ 4294967295 by omega) this
        omega
      refine cndt ?_; refine .skip ?_
      show AW _ _ _ _ _ _
      refine .seq ?_; refine .block ?_; refine .seq ?_; refine .region ?_; refine mvd ?_
      refine ix i ?_ rfl (L_at hx) rfl s32
      refine ldp ?_ a32
      refine asd ?_; refine asd ?_; refine rn ?_; refine .seq ?_; refine .region ?_; refine mvd ?_
      refine cve (x : Int) (toU64 (by omega)) ?_ u32 u64
      refine mvd ?_; refine bie (.i .u64 ((x * 2 ^ n : Nat) : Int)) ?_ ?_
      · refine ⟨by omega, ?_⟩
        have e1 : min ((n:Int).toNat) IntKind.u64.bits = n := by simp [IntKind.bits]; omega
        rw [e1, ← toU64 hw]
        simp
      refine asd ?_; refine rn ?_; refine .seq ?_; refine .region ?_; refine mvo ?_; refine mvd ?_
      refine ixr i ?_ ?_ ?_ s32 (by decide)
      · omega
      · rw [L_length]; simp; omega
      refine lde (U c) ?_ ?_ a32
      · rw [Nat.zero_add]; exact L_at' hz0
      refine mvd ?_
      refine cve ((x * 2 ^ n % 4294967296 : Nat) : Int) (wrapU32 _) ?_ u64 u32
      refine bie (U (c + x * 2 ^ n % 4294967296)) ?_ ?_
      · exact ⟨trivial, by rw [u32_join hn h3]; rfl⟩
      refine ixr i ?_ ?_ ?_ s32 (by decide)
      · omega
      · rw [L_length]; simp; omega
      refine ste ?_ ?_ z32
      · rw [Nat.zero_add]; exact L_leaf hz0
      refine rn ?_
      have hs1 : (L (ps ++ c :: 0 :: List.replicate m 0)).set (0 + i) (U (c + x * 2 ^ n % 4294967296)) = L (ps ++ (c + x * 2 ^ n % 4294967296) :: 0 :: List.replicate m 0) := by
        rw [L_set, Nat.zero_add, List.set_append_right _ _ (by omega), h2, Nat.sub_self]; rfl
      have hs2 : (L (ps ++ (c + x * 2 ^ n % 4294967296) :: 0 :: List.replicate m 0)).set (0 + (i + 1)) (U (x * 2 ^ n / 4294967296)) = L ((ps ++ [c + x * 2 ^ n % 4294967296]) ++ (x * 2 ^ n / 4294967296) :: List.replicate m 0) := by
        rw [L_set, Nat.zero_add, List.set_append_right _ _ (by omega), h2, show i + 1 - i = 1 by omega, List.append_assoc]; rfl
      have hz1 : (ps ++ (c + x * 2 ^ n % 4294967296) :: 0 :: List.replicate m 0)[i + 1]? = some 0 := by
        rw [List.getElem?_append_right (by omega), h2, show i + 1 - i = 1 by omega]; rfl
      rw [hs1]
      refine .region ?_; refine mvo ?_; refine mvd ?_; refine ad ((i + 1 : Nat) : Int) ?_ ?_
      · omega
      refine mvd ?_; refine bie (.i .u64 ((x * 2 ^ n / 4294967296 : Nat) : Int)) ?_ ?_
      · simp [IntKind.bits]
      refine cve ((x * 2 ^ n / 4294967296 : Nat) : Int) (toU32 (by omega)) ?_ u64 u32
      refine ixr (i + 1) ?_ ?_ ?_ s32 (by decide)
      · omega
      · rw [L_length]; simp; omega
      refine ste ?_ ?_ z32
      · rw [Nat.zero_add]; exact L_leaf hz1
      refine .nil ?_
      show AW _ _ _ _ _ _
      refine .region ?_; refine ad ((i + 1 : Nat) : Int) ?_ ?_
      · omega
      refine mvd ?_; refine .nil ?_; refine AL.gh (Gh.keep [1, 5, 13, 14, 15] rfl) ?_; refine AL.cast (env' := [(1, .d (.i .i64 n)), (5, .own 121 (L ((ps ++ [c + x * 2 ^ n % 4294967296]) ++ (x * 2 ^ n / 4294967296) :: List.replicate (a.length - (i + 1)) 0))), (13, .d (.sl (L a))), (14, .d (.i .i64 ((L a).length : Nat))), (15, .d (.i .i64 ((i + 1 : Nat) : Int)))]) (by rw [show a.length - (i + 1) = m by omega, ← hs2]; rfl) ?_
      refine ih (ps ++ [c + x * 2 ^ n % 4294967296], x * 2 ^ n / 4294967296, i + 1) ⟨by show i + 1 ≤ a.length; omega, by simp [h2], shl_high hxl, ?_⟩ (by show a.length - (i + 1) < a.length - i; omega)
      rw [← h4, List.append_assoc]; rfl
    · rw [decide_eq_false (show ¬ (i:Int) < ((L a).length : Nat) by rw [L_length]; omega)]
      have e1 : a.drop i = [] := List.drop_eq_nil_of_le (by omega)
      rw [e1] at h4
      replace h4 : ps ++ [c] = shL n 0 a := h4
      rw [show a.length - i = 0 by omega]
      refine cndf ?_; refine .gh (Gh.keep [5] rfl) ?_; refine .exit ?_
      exact ⟨by rw [← h4]; rfl, rfl⟩
  · rintro _ _ ⟨rfl, rfl⟩
    refine .seq ?_; refine .region ?_; refine mvoo ?_; refine aso ?_; refine rn ?_; refine .ret ?_
    exact ⟨rfl, rfl⟩
end Go.FL
/-
  nat.back: the sum.
-/
namespace Go.FL
open Go Go.Proofs

def shR (n : Nat) : List Nat → List Nat
  | [] => []
  | x :: r => ((x + r.headD 0 * 4294967296) / 2 ^ n % 4294967296) :: shR n r
theorem val_mod : ∀ (r : List Nat), ∃ k, val r = r.headD 0 + 4294967296 * k
  | [] => ⟨0, rfl⟩
  | _ :: r => ⟨val r, rfl⟩
theorem shR_val {n : Nat} (hn : n < 32) : ∀ (a : List Nat), Ok a → val (shR n a) = val a / 2 ^ n ∧ Ok (shR n a)
  | [], _ => ⟨by simp [shR, val], .nil⟩
  | x :: r, h => by
    obtain ⟨a1, a2⟩ := shR_val hn r h.tail
    refine ⟨?_, .cons (Nat.mod_lt _ (by decide)) a2⟩
    show (x + r.headD 0 * 4294967296) / 2 ^ n % 4294967296 + 4294967296 * val (shR n r) = (x + 4294967296 * val r) / 2 ^ n
    rw [a1]
    obtain ⟨k, hk⟩ := val_mod r
    have hx := h.head
    have hp := pow32n hn
    have h2 : 0 < 2 ^ n := Nat.two_pow_pos n
    have e1 : (x + 4294967296 * val r) / 2 ^ n / 4294967296 = val r / 2 ^ n := by
      rw [Nat.div_div_eq_div_mul, Nat.mul_comm (2 ^ n) 4294967296, ← Nat.div_div_eq_div_mul]
      congr 1
      omega
    have e2 : (x + 4294967296 * val r) / 2 ^ n % 4294967296 = (x + r.headD 0 * 4294967296) / 2 ^ n % 4294967296 := by
      have : x + 4294967296 * val r = x + r.headD 0 * 4294967296 + 2 ^ n * (2 ^ (32 - n) * k * 4294967296) := by
        rw [hk, ← Nat.mul_assoc, ← Nat.mul_assoc, hp]; omega
      rw [this, Nat.add_mul_div_left _ _ h2, Nat.add_mul_mod_self_right]
    have := Nat.mod_add_div ((x + 4294967296 * val r) / 2 ^ n) 4294967296
    rw [e1, e2] at this
    exact this
theorem u64_join_low {x y : Nat} (hx : x < 4294967296) (hy : y < 4294967296) : bits .or .u64 (x : Int) ((y * 4294967296 : Nat) : Int) = ((x + y * 4294967296 : Nat) : Int) := by
  rw [bits_join_low .u64 64 (by decide) wraps_u64 32 (x : Int) ((y * 4294967296 : Nat) : Int) (by omega) (by omega) (by omega) (by omega) (by omega) (by omega)]
  omega
theorem shR_length (n : Nat) : ∀ (a : List Nat), (shR n a).length = a.length
  | [] => rfl
  | x :: r => by simp [shR, shR_length n r]
theorem shR_at (n : Nat) : ∀ (a : List Nat) (i x : Nat), a[i]? = some x → (shR n a)[i]? = some ((x + (a.drop (i + 1)).headD 0 * 4294967296) / 2 ^ n % 4294967296)
  | [], i, x, h => by simp at h
  | y :: r, 0, x, h => by simp at h; subst h; rfl
  | y :: r, i + 1, x, h => by
    have := shR_at n r i x (by simpa using h)
    simpa [shR] using this
end Go.FL
/-
  nat.back: the walk.
-/
namespace Go.FL
open Go Go.Proofs

theorem back_fn {a : List Nat} {n : Nat} (ha : Ok a) (hl : a.length ≤ 1048576) (hn : n < 32) : Fn Tryz.prog 238 [.sl (L a), .i .i64 n] (.d (.sl (L (digs (val a / 2 ^ n))))) := by
  have hv := shR_val hn a ha
  refine Fn.of (rs := [.tmp 4]) (nt := 44) Tryz.func238 rfl rfl rfl (by simp) rfl ?_; refine .seq ?_; refine .region ?_; refine asn ?_; refine rn ?_; refine .seq ?_; refine .region ?_; refine mvd ?_
  refine cl (xs := [.sl (L a)]) ?_ (clone_fn a (by omega)) Tryz.call215
  refine aso ?_; refine rn ?_; refine .mid (fun e H' => e = [(5, .own 121 (L (shR n a)))] ∧ H' = []) ?_ ?_
  · refine .seq ?_
    refine .region ?_; refine mvo ?_
    refine lnr ?_ l32
    refine mvd ?_; refine rn ?_; refine .block ?_
    refine .loop (.gh (Gh.keep [1, 5, 11, 12] rfl) ?_)
    refine AL.ind (σ := Nat) (m := fun i => a.length - i) (e := fun i => [(1, .d (.i .i64 n)), (5, .own 121 (L ((shR n a).take i ++ a.drop i))), (11, .d (.i .i64 ((L a).length : Nat))), (12, .d (.i .i64 (i : Int)))]) (h := fun _ => [])
      (I := fun i => i ≤ a.length) ?_ 0 (Nat.zero_le _)
    intro i h1 ih
    refine .seq ?_; refine .region ?_; refine bi ?_; refine rn ?_; refine .seq ?_
    by_cases hi : i < a.length
    · rw [decide_eq_true (show (i:Int) < ((L a).length : Nat) by rw [L_length]; omega)]
      have hx : a[i]? = some a[i] := List.getElem?_eq_getElem hi
      have hdr : a.drop i = a[i] :: a.drop (i + 1) := List.drop_eq_getElem_cons hi
      generalize a[i] = x at hx hdr
      have hxl := ha.at hx
      have hsr := shR_at n a i x hx
      have hrl := shR_length n a
      have htl : ((shR n a).take i).length = i := by rw [List.length_take, hrl]; omega
      have hzl : ((shR n a).take i ++ a.drop i).length = a.length := by rw [List.length_append, htl, List.length_drop]; omega
      have hz0 : ((shR n a).take i ++ a.drop i)[i]? = some x := by
        rw [List.getElem?_append_right (by omega), htl, Nat.sub_self, hdr]; rfl
      refine cndt ?_; refine .skip ?_
      show AW _ _ _ _ _ _
      refine .seq ?_; refine .block ?_; refine .seq ?_; refine .region ?_; refine mvd ?_; refine asd ?_; refine rn ?_; refine .seq ?_; refine .region ?_; refine mvo ?_; refine mvd ?_
      refine ixr i ?_ ?_ ?_ s32 (by decide)
      · omega
      · rw [L_length, hzl]; omega
      refine lde (U x) ?_ ?_ a32
      · rw [Nat.zero_add]; exact L_at' hz0
      refine cve (x : Int) (toU64 (by omega)) ?_ u32 u64
      refine asd ?_; refine rn ?_; refine .mid (fun e H' => H' = [] ∧ e = [(1, .d (.i .i64 n)), (5, .own 121 (L ((shR n a).take i ++ a.drop i))), (6, .d (.i .i64 (i : Int))), (7, .d (.i .u64 ((x + (a.drop (i + 1)).headD 0 * 4294967296 : Nat) : Int))), (11, .d (.i .i64 ((L a).length : Nat))), (12, .d (.i .i64 (i : Int)))]) ?_ ?_
      · refine .seq ?_
        refine .region ?_; refine mvd ?_; refine ad ((i + 1 : Nat) : Int) ?_ ?_
        · omega
        refine mvo ?_
        refine lnr ?_ l32
        refine bi ?_; refine rn ?_
        by_cases hj : i + 1 < a.length
        · have hy : a[i + 1]? = some a[i + 1] := List.getElem?_eq_getElem hj
          have hdr2 : a.drop (i + 1) = a[i + 1] :: a.drop (i + 1 + 1) := List.drop_eq_getElem_cons hj
          generalize a[i + 1] = y at hy hdr2
          have hyl := ha.at hy
          have hz1 : ((shR n a).take i ++ a.drop i)[i + 1]? = some y := by
            rw [List.getElem?_append_right (by omega), htl, show i + 1 - i = 1 by omega, hdr, hdr2]; rfl
          rw [decide_eq_true (show ((i + 1 : Nat) : Int) < ((L ((shR n a).take i ++ a.drop i)).length : Nat) by rw [L_length, hzl]; omega)]
          refine cndt ?_; refine .region ?_; refine mvd ?_; refine mvo ?_; refine mvd ?_; refine ad ((i + 1 : Nat) : Int) ?_ ?_
          · omega
          refine ixr (i + 1) ?_ ?_ ?_ s32 (by decide)
          · omega
          · rw [L_length, hzl]; omega
          refine lde (U y) ?_ ?_ a32
          · rw [Nat.zero_add]; exact L_at' hz1
          refine cve (y : Int) (toU64 (by omega)) ?_ u32 u64
          refine bie (.i .u64 ((y * 4294967296 : Nat) : Int)) ?_ ?_
          · refine ⟨by decide, ?_⟩
            rw [← toU64 (show y * 4294967296 < 18446744073709551616 by omega)]; simp [IntKind.bits]
          refine bie (.i .u64 ((x + y * 4294967296 : Nat) : Int)) ?_ ?_
          · exact ⟨trivial, by rw [u64_join_low hxl hyl]⟩
          refine asd ?_; refine .gh (Gh.keep [1, 5, 6, 7, 11, 12] rfl) ?_; refine rn ?_
          refine ⟨rfl, ?_⟩
          rw [hdr2]; rfl
        · have e1 : a.drop (i + 1) = [] := List.drop_eq_nil_of_le (by omega)
          rw [decide_eq_false (show ¬ ((i + 1 : Nat) : Int) < ((L ((shR n a).take i ++ a.drop i)).length : Nat) by rw [L_length, hzl]; omega)]
          refine cndf ?_; refine .gh (Gh.keep [1, 5, 6, 7, 11, 12] rfl) ?_; refine .skip ?_
          refine ⟨rfl, ?_⟩
          rw [e1]; simp; rfl
      · rintro _ _ ⟨rfl, rfl⟩
        have hw : x + (a.drop (i + 1)).headD 0 * 4294967296 < 18446744073709551616 := by
          have h3 : (a.drop (i + 1)).headD 0 < 4294967296 := by
            cases h4 : a.drop (i + 1) with
            | nil => decide
            | cons y r => exact (ha.drop (i + 1)) y (by rw [h4]; simp)
          omega
        generalize x + (a.drop (i + 1)).headD 0 * 4294967296 = w at hsr hw
        refine .region ?_; refine mvo ?_; refine mvd ?_; refine mvd ?_; refine mvd ?_; refine bie (.i .u64 ((w / 2 ^ n : Nat) : Int)) ?_ ?_
        · refine ⟨by omega, ?_⟩
          have e1 : min ((n:Int).toNat) IntKind.u64.bits = n := by simp [IntKind.bits]; omega
          rw [e1]; simp
        refine cve ((w / 2 ^ n % 4294967296 : Nat) : Int) (wrapU32 _) ?_ u64 u32
        refine ixr i ?_ ?_ ?_ s32 (by decide)
        · omega
        · rw [L_length, hzl]; omega
        refine ste ?_ ?_ z32
        · rw [Nat.zero_add]; exact L_leaf hz0
        refine .nil ?_
        show AW _ _ _ _ _ _
        have hset : (L ((shR n a).take i ++ a.drop i)).set (0 + i) (U (w / 2 ^ n % 4294967296)) = L ((shR n a).take (i + 1) ++ a.drop (i + 1)) := by
          rw [L_set, Nat.zero_add, List.set_append_right _ _ (by omega), htl, Nat.sub_self, hdr, List.take_add_one, hsr, List.append_assoc]; rfl
        refine .region ?_; refine ad ((i + 1 : Nat) : Int) ?_ ?_
        · omega
        refine mvd ?_; refine .nil ?_; refine AL.gh (Gh.keep [1, 5, 11, 12] rfl) ?_; refine AL.cast (env' := [(1, .d (.i .i64 n)), (5, .own 121 (L ((shR n a).take (i + 1) ++ a.drop (i + 1)))), (11, .d (.i .i64 ((L a).length : Nat))), (12, .d (.i .i64 ((i + 1 : Nat) : Int)))]) (by rw [← hset]; rfl) ?_
        exact ih (i + 1) (by show i + 1 ≤ a.length; omega) (by show a.length - (i + 1) < a.length - i; omega)
    · rw [decide_eq_false (show ¬ (i:Int) < ((L a).length : Nat) by rw [L_length]; omega)]
      have e1 : a.drop i = [] := List.drop_eq_nil_of_le (by omega)
      have e2 : (shR n a).take i = shR n a := List.take_of_length_le (by rw [shR_length]; omega)
      rw [e1, e2, List.append_nil]
      refine cndf ?_; refine .gh (Gh.keep [5] rfl) ?_; refine .exit ?_
      exact ⟨rfl, rfl⟩
  · rintro _ _ ⟨rfl, rfl⟩
    refine .seq ?_; refine .region ?_; refine fz (p := .t 5) ?_; refine mvd ?_
    refine cl (xs := [.sl (L (shR n a))]) ?_ (cut_val hv.2 (by rw [shR_length]; omega)) Tryz.call197
    refine asd ?_; refine rn ?_; refine .ret ?_
    exact ⟨by rw [hv.1]; rfl, rfl⟩
end Go.FL
/-
  nat.guess.
-/
namespace Go.FL
open Go Go.Proofs

def guessQ (u2 u1 u0 v1 v0 : Nat) : Nat := min (((u2 * 4294967296 + u1) * 4294967296 + u0) / (v1 * 4294967296 + v0)) 4294967295
theorem top_lt {u v : Nat} (hu : u < 4294967296) (hv : v < 4294967296) : u * 4294967296 + v < 18446744073709551616 := by omega
theorem top_le {N v1 u2 u1 : Nat} (hN : N = u2 * 4294967296 + u1) (h2 : u2 ≤ v1) (h1 : u1 < 4294967296) : N < v1 * 4294967296 + 4294967296 := by omega
theorem guess_top {N v1 : Nat} (hN : N < v1 * 4294967296 + 4294967296) (g1 : v1 < 4294967296) (hv : 0 < v1) :
    ∃ r, min (N / v1) 4294967295 * v1 + r = N ∧ r < 8589934592 := by
  have hdm := Nat.div_add_mod N v1
  have hml := Nat.mod_lt N hv
  by_cases h : N / v1 ≤ 4294967295
  · rw [Nat.min_eq_left h]
    exact ⟨N % v1, by rw [Nat.mul_comm]; exact hdm, by omega⟩
  · rw [Nat.min_eq_right (by omega)]
    have h3 : v1 * 4294967296 ≤ v1 * (N / v1) := Nat.mul_le_mul_left _ (by omega)
    exact ⟨N - 4294967295 * v1, by omega, by omega⟩
theorem g_up {N M v1 D u0 v0 : Nat} (hM : M = N * 4294967296 + u0) (hD : D = v1 * 4294967296 + v0) (h0 : u0 < 4294967296) (hv : 0 < v1) : M / D ≤ N / v1 := by
  subst hM hD
  have h1 : (N * 4294967296 + u0) / (v1 * 4294967296 + v0) ≤ (N * 4294967296 + u0) / (v1 * 4294967296) := Nat.div_le_div_left (by omega) (by omega)
  have h2 : (N * 4294967296 + u0) / (v1 * 4294967296) = N / v1 := by
    rw [Nat.mul_comm v1, ← Nat.div_div_eq_div_mul]
    congr 1
    omega
  omega
theorem g1_ {q v0 r u0 : Nat} (hq : q ≤ 4294967295) (g0 : v0 < 4294967296) (h : 4294967296 ≤ r) : q * v0 ≤ r * 4294967296 + u0 := by
  have a1 : q * v0 ≤ 4294967295 * 4294967295 := Nat.mul_le_mul hq (by omega)
  omega
theorem g2_ {q v1 r B N u0 v0 : Nat} (hr : q * v1 + r = N) (h1 : q * v0 ≤ r * B + u0) : q * (v1 * B + v0) ≤ N * B + u0 := by
  have e1 : q * (v1 * B + v0) = q * v1 * B + q * v0 := by grind
  have e2 : N * B = q * v1 * B + r * B := by grind
  omega
theorem g3_ {p v1 r B N u0 v0 : Nat} (hr : (p + 1) * v1 + r = N) (h1 : r * B + u0 < (p + 1) * v0) : N * B + u0 < (p + 1) * (v1 * B + v0) := by
  have e1 : (p + 1) * (v1 * B + v0) = (p + 1) * v1 * B + (p + 1) * v0 := by grind
  have e2 : N * B = (p + 1) * v1 * B + r * B := by grind
  omega
theorem guess_end {N M D v1 v0 u0 q r : Nat} (hM : M = N * 4294967296 + u0) (hD : D = v1 * 4294967296 + v0) (hq : q ≤ 4294967295) (hg : min (M / D) 4294967295 ≤ q) (hr : q * v1 + r = N) (g0 : v0 < 4294967296) (hv : 0 < v1) (h : 4294967296 ≤ r ∨ q * v0 ≤ r * 4294967296 + u0) : q = min (M / D) 4294967295 := by
  have h1 : q * v0 ≤ r * 4294967296 + u0 := by
    rcases h with h | h
    · exact g1_ hq g0 h
    · exact h
  have h2 := g2_ (B := 4294967296) hr h1
  rw [← hM, ← hD] at h2
  have h3 : q ≤ M / D := (Nat.le_div_iff_mul_le (by omega)).2 h2
  clear h2 h1 hM hD hr
  omega
theorem guess_step {N M D v1 v0 u0 q r : Nat} (hM : M = N * 4294967296 + u0) (hD : D = v1 * 4294967296 + v0) (hr : q * v1 + r = N) (h : r * 4294967296 + u0 < q * v0) (hv : 0 < v1) : ∃ p, q = p + 1 ∧ min (M / D) 4294967295 ≤ p ∧ p * v1 + (r + v1) = N := by
  cases q with
  | zero => simp at h
  | succ p =>
    have h2 := g3_ (B := 4294967296) hr h
    rw [← hM, ← hD] at h2
    have h3 : M / D < p + 1 := (Nat.div_lt_iff_lt_mul (by omega)).2 h2
    refine ⟨p, rfl, ?_, by grind⟩
    clear h2 hM hD hr h
    omega
theorem u64_shl32 {r : Nat} (h : r < 4294967296) : IntKind.u64.wrap ((r : Int) * 2 ^ (min ((32 : Int).toNat) IntKind.u64.bits)) = ((r * 4294967296 : Nat) : Int) := by
  rw [← toU64 (n := r * 4294967296) (by omega)]; simp [IntKind.bits]
theorem q_v0 {q v0 : Nat} (hq : q ≤ 4294967295) (g0 : v0 < 4294967296) : q * v0 < 18446744073709551616 := by
  have a1 : q * v0 ≤ 4294967295 * 4294967295 := Nat.mul_le_mul hq (by omega)
  omega
theorem guess_fn {u2 u1 u0 v1 v0 : Nat} (h2 : u2 ≤ v1) (h1 : u1 < 4294967296) (h0 : u0 < 4294967296) (g1 : v1 < 4294967296) (g0 : v0 < 4294967296) (hv : 0 < v1) :
    Fn Tryz.prog 235 [U u2, U u1, U u0, U v1, U v0] (.d (.i .u64 (guessQ u2 u1 u0 v1 v0 : Nat))) := by
  have hu2 : u2 < 4294967296 := Nat.lt_of_le_of_lt h2 g1
  have ht := top_lt hu2 h1
  have htl := top_le (N := u2 * 4294967296 + u1) rfl h2 h1
  have hj := u64_join hu2 h1
  have hs := u64_shl32 hu2
  have hgq : guessQ u2 u1 u0 v1 v0 = min (((u2 * 4294967296 + u1) * 4294967296 + u0) / (v1 * 4294967296 + v0)) 4294967295 := rfl
  obtain ⟨N, hN⟩ : ∃ N, N = u2 * 4294967296 + u1 := ⟨_, rfl⟩
  rw [← hN] at ht htl hj hgq
  obtain ⟨M, hM⟩ : ∃ M, M = N * 4294967296 + u0 := ⟨_, rfl⟩
  obtain ⟨D, hD⟩ : ∃ D, D = v1 * 4294967296 + v0 := ⟨_, rfl⟩
  rw [← hM, ← hD] at hgq
  rw [hgq]
  obtain ⟨u2B, hu2B⟩ : ∃ z, z = u2 * 4294967296 := ⟨_, rfl⟩
  rw [← hu2B] at hj hs
  have w1 : IntKind.u64.wrap (u2 : Int) = (u2 : Int) := toU64 (Nat.lt_trans hu2 (by decide))
  have w2 : IntKind.u64.wrap (u1 : Int) = (u1 : Int) := toU64 (Nat.lt_trans h1 (by decide))
  have w3 : IntKind.u64.wrap (v1 : Int) = (v1 : Int) := toU64 (Nat.lt_trans g1 (by decide))
  have w4 : IntKind.u64.wrap (v0 : Int) = (v0 : Int) := toU64 (Nat.lt_trans g0 (by decide))
  have w5 : IntKind.u64.wrap (u0 : Int) = (u0 : Int) := toU64 (Nat.lt_trans h0 (by decide))
  have w6 : IntKind.u64.wrap ((N / v1 : Nat) : Int) = ((N / v1 : Nat) : Int) := toU64 (Nat.lt_of_le_of_lt (Nat.div_le_self _ _) ht)
  obtain ⟨r0, hr0, hr1⟩ := guess_top htl g1 hv
  have hup := g_up hM hD h0 hv
  clear hN hu2B htl
  refine Fn.of (rs := [.tmp 10]) (nt := 52) Tryz.func235 rfl rfl rfl (by simp) rfl ?_; refine .seq ?_; refine .region ?_; refine asd ?_; refine rn ?_; refine .seq ?_; refine .region ?_; refine mvd ?_
  refine cve (u2 : Int) w1 ?_ u32 u64
  refine bie (.i .u64 (u2B : Int)) ?_ ?_
  · exact ⟨by decide, by rw [hs]⟩
  refine mvd ?_
  refine cve (u1 : Int) w2 ?_ u32 u64
  refine bie (.i .u64 (N : Int)) ?_ ?_
  · exact ⟨trivial, by rw [hj]⟩
  refine asd ?_; refine rn ?_; refine .gh (Gh.keep [2, 3, 4, 11] rfl) ?_; refine .seq ?_; refine .region ?_; refine mvd ?_; refine mvd ?_
  refine cve (v1 : Int) w3 ?_ u32 u64
  refine bie (.i .u64 ((N / v1 : Nat) : Int)) ?_ ?_
  · exact ⟨by omega, by rw [tdiv_nat, w6]⟩
  refine mn ?_
  rw [show (if (4294967295 : Int) < ((N / v1 : Nat) : Int) then (4294967295 : Int) else ((N / v1 : Nat) : Int)) = ((min (N / v1) 4294967295 : Nat) : Int) by
    by_cases h : 4294967295 < N / v1
    · rw [if_pos (by omega), Nat.min_eq_right (by omega)]; rfl
    · rw [if_neg (by omega), Nat.min_eq_left (by omega)]]
  refine asd ?_; refine rn ?_
  have hq0 : min (N / v1) 4294967295 ≤ 4294967295 := Nat.min_le_right _ _
  have hgq0 : min (M / D) 4294967295 ≤ min (N / v1) 4294967295 := by omega
  generalize min (N / v1) 4294967295 = q0 at *
  have hqv : q0 * v1 ≤ N := by omega
  have hw7 : IntKind.u64.wrap ((q0 : Int) * (v1 : Int)) = ((q0 * v1 : Nat) : Int) := by rw [← Int.natCast_mul, toU64 (Nat.lt_of_le_of_lt hqv ht)]
  have hw8 : IntKind.u64.wrap ((N : Int) - ((q0 * v1 : Nat) : Int)) = (r0 : Int) := by
    rw [show (N : Int) - ((q0 * v1 : Nat) : Int) = (r0 : Int) by omega, toU64 (by omega)]
  refine .seq ?_; refine .region ?_; refine mvd ?_; refine mvd ?_; refine mvd ?_
  refine cve (v1 : Int) w3 ?_ u32 u64
  refine bie (.i .u64 ((q0 * v1 : Nat) : Int)) ?_ ?_
  · exact ⟨trivial, by rw [hw7]⟩
  refine bie (.i .u64 (r0 : Int)) ?_ ?_
  · exact ⟨trivial, by rw [hw8]⟩
  refine asd ?_; refine rn ?_; refine .mid (fun e H' => e = [(12, .d (.i .u64 ((min (M / D) 4294967295 : Nat) : Int)))]) ?_ ?_
  · refine .block ?_
    refine .loop (.gh (Gh.keep [2, 3, 4, 12, 13] rfl) ?_)
    refine AL.ind (σ := Nat × Nat) (m := fun s => s.1) (e := fun s => [(2, .d (U u0)), (3, .d (U v1)), (4, .d (U v0)), (12, .d (.i .u64 (s.1 : Int))), (13, .d (.i .u64 (s.2 : Int)))]) (h := fun _ => [])
      (I := fun s => min (M / D) 4294967295 ≤ s.1 ∧ s.1 ≤ 4294967295 ∧ s.1 * v1 + s.2 = N ∧ s.2 < 8589934592) ?_ (q0, r0) ⟨hgq0, hq0, hr0, hr1⟩
    clear hq0 hgq0 hqv hw7 hw8 hr0 hr1 hup w6
    clear q0 r0
    rintro ⟨q, r⟩ ⟨i1, i2, i3, i4⟩ ih
    dsimp only at i1 i2 i3 i4 ih ⊢
    have fin : (4294967296 ≤ r ∨ q * v0 ≤ r * 4294967296 + u0) → q = min (M / D) 4294967295 := fun h => guess_end hM hD i2 i1 i3 g0 hv h
    refine .seq ?_; refine .seq ?_; refine .region ?_; refine mvd ?_; refine bi ?_; refine mvd ?_
    by_cases hr : r < 4294967296
    · rw [decide_eq_true (show (r : Int) < 4294967296 by omega)]
      have hqv0 := q_v0 i2 g0
      have hsr := u64_shl32 hr
      have hjr := u64_join hr h0
      have hst : r * 4294967296 + u0 < q * v0 → ∃ p, q = p + 1 ∧ min (M / D) 4294967295 ≤ p ∧ p * v1 + (r + v1) = N := fun h => guess_step hM hD i3 h hv
      obtain ⟨rB, hrB⟩ : ∃ z, z = r * 4294967296 := ⟨_, rfl⟩
      rw [← hrB] at hsr hjr fin hst
      clear hM hD
      refine mvd ?_; refine mvd ?_
      refine cve (v0 : Int) w4 ?_ u32 u64
      refine bie (.i .u64 ((q * v0 : Nat) : Int)) ?_ ?_
      · exact ⟨trivial, by rw [← Int.natCast_mul, toU64 hqv0]⟩
      refine mvd ?_; refine bie (.i .u64 (rB : Int)) ?_ ?_
      · exact ⟨by decide, by rw [hsr]⟩
      refine mvd ?_
      refine cve (u0 : Int) w5 ?_ u32 u64
      refine bie (.i .u64 ((rB + u0 : Nat) : Int)) ?_ ?_
      · exact ⟨trivial, by rw [hjr]⟩
      refine bi ?_; refine pkd ?_; refine rn ?_
      by_cases hc : rB + u0 < q * v0
      · rw [decide_eq_true (show ((rB + u0 : Nat) : Int) < ((q * v0 : Nat) : Int) by omega)]
        obtain ⟨p, rfl, j1, j2⟩ := hst hc
        refine cndt ?_; refine .skip ?_
        show AW _ _ _ _ _ _
        refine .gh (Gh.keep [2, 3, 4, 12, 13] rfl) ?_; refine .block ?_; refine .seq ?_; refine .region ?_; refine mvd ?_; refine bie (.i .u64 (p : Int)) ?_ ?_
        · refine ⟨trivial, ?_⟩
          rw [show ((p + 1 : Nat) : Int) - 1 = (p : Int) by omega, toU64 (by omega)]
        refine asd ?_; refine rn ?_; refine .region ?_; refine mvd ?_; refine mvd ?_
        refine cve (v1 : Int) w3 ?_ u32 u64
        refine bie (.i .u64 ((r + v1 : Nat) : Int)) ?_ ?_
        · exact ⟨trivial, by rw [← Int.natCast_add, toU64 (by omega)]⟩
        refine asd ?_; refine .nil ?_
        show AL _ _ _ _ _ _
        refine .gh (Gh.keep [2, 3, 4, 12, 13] rfl) ?_
        exact ih (p, r + v1) ⟨j1, by dsimp only; omega, j2, by dsimp only; omega⟩ (by dsimp only; omega)
      · rw [decide_eq_false (show ¬ ((rB + u0 : Nat) : Int) < ((q * v0 : Nat) : Int) by omega)]
        refine cndf ?_; refine .gh (Gh.keep [12] rfl) ?_; refine .exit ?_
        show _ = _
        rw [← fin (.inr (by omega))]; rfl
    · rw [decide_eq_false (show ¬ (r : Int) < 4294967296 by omega)]
      refine gf ?_; refine gf ?_; refine gf ?_; refine gf ?_; refine gf ?_; refine gf ?_; refine gf ?_; refine gf ?_; refine gf ?_; refine gf ?_; refine pkd ?_; refine rn ?_; refine cndf ?_; refine .gh (Gh.keep [12] rfl) ?_; refine .exit ?_
      show _ = _
      rw [← fin (.inl (by omega))]; rfl
  rintro _ _ rfl
  refine .seq ?_; refine .region ?_; refine mvd ?_; refine asd ?_; refine rn ?_; refine .ret ?_
  exact ⟨rfl, rfl⟩
end Go.FL
/-
  glyphref01: Bits, bit, twice.
-/
namespace Go.FL
open Go Go.Proofs

theorem twice_step {V P x c A A' q r : Nat} (hq : 2 * x + c = 4294967296 * q + r) (hA : A = x + 4294967296 * A') : (V + P * r) + (2 * A' + q) * (P * 4294967296) = V + (2 * A + c) * P := by
  grind
theorem or_low {x c : Nat} (hc : c ≤ 1) : bits .or .u32 ((x * 2 % 4294967296 : Nat) : Int) (c : Int) = ((x * 2 % 4294967296 + c : Nat) : Int) := by
  rw [bits_join .u32 32 (by decide) wraps_u32 1 _ _ (by omega) (by omega) (by omega) (by omega) (by omega) (by omega)]
  omega
theorem twice_fn {a : List Nat} {c0 : Nat} (ha : Ok a) (hl : a.length ≤ 1000000) (hc0 : c0 ≤ 1) : Fn Tryz.prog 196 [.sl (L a), .i .u32 (c0 : Int)] (.own 121 (L (digs (2 * val a + c0)))) := by
  refine Fn.of (rs := [.tmp 4]) (nt := 35) Tryz.func196 rfl rfl rfl (by simp) rfl ?_; refine .seq ?_; refine .region ?_; refine asn ?_; refine rn ?_; refine .seq ?_; refine .region ?_; refine asn ?_; refine rn ?_; refine .seq ?_; refine .region ?_; refine mvd ?_; refine asd ?_; refine rn ?_; refine .mid (fun e H' => ∃ out c, e = [(5, .own 121 (L out)), (6, .d (.i .u32 (c : Nat)))] ∧ H' = [] ∧ Ok out ∧ c ≤ 1 ∧ out.length = a.length ∧ val (out ++ [c]) = 2 * val a + c0) ?_ ?_
  · refine .seq ?_
    refine .region ?_; refine asd ?_; refine rn ?_; refine .block ?_; refine .gh (Gh.nlOwn (t := 5) 121 z32p rfl) ?_
    refine .loop (.gh (Gh.keep [0, 5, 6, 7] rfl) ?_)
    refine AL.ind (σ := List Nat × Nat) (m := fun s => a.length - s.1.length) (e := fun s => [(0, .d (.sl (L a))), (5, .own 121 (L s.1)), (6, .d (.i .u32 (s.2 : Int))), (7, .d (.i .i64 (s.1.length : Int)))]) (h := fun _ => [])
      (I := fun s => Ok s.1 ∧ s.2 ≤ 1 ∧ s.1.length ≤ a.length ∧ val s.1 + (2 * val (a.drop s.1.length) + s.2) * 4294967296 ^ s.1.length = 2 * val a + c0) ?_ ([], c0) ⟨.nil, hc0, by simp, by simp [val]⟩
    rintro ⟨out, c⟩ ⟨h1, h2, h3, h4⟩ ih
    dsimp only at h1 h2 h3 h4 ih ⊢
    refine .seq ?_; refine .seq ?_; refine .region ?_; refine mvd ?_; refine mvd ?_
    refine ln ?_ (L_sz _) l32
    refine bi ?_; refine rn ?_
    by_cases hA : out.length < a.length
    · rw [decide_eq_true (show (out.length : Int) < ((L a).length : Nat) by rw [L_length]; omega)]
      have hx : a[out.length]? = some a[out.length] := List.getElem?_eq_getElem hA
      have hdx : val (a.drop out.length) = a[out.length] + 4294967296 * val (a.drop (out.length + 1)) := by rw [List.drop_eq_getElem_cons hA, val]
      generalize a[out.length] = x at hx hdx
      have hxl := ha.at hx
      have hstep := twice_step (V := val out) (P := 4294967296 ^ out.length) (x := x) (c := c) (q := x / 2147483648) (r := x * 2 % 4294967296 + c) (by omega) hdx
      refine cndt ?_; refine .skip ?_
      show AW _ _ _ _ _ _
      refine .seq ?_; refine .block ?_; refine .seq ?_; refine .region ?_; refine mvo ?_; refine mvd ?_; refine mvd ?_
      refine ix out.length ?_ rfl (L_at hx) rfl s32
      refine ldp ?_ a32
      refine bie (.i .u32 ((x * 2 % 4294967296 : Nat) : Int)) ?_ ?_
      · refine ⟨by decide, ?_⟩
        rw [← wrapU32]; simp [IntKind.bits]
      refine mvd ?_; refine bie (.i .u32 ((x * 2 % 4294967296 + c : Nat) : Int)) ?_ ?_
      · exact ⟨trivial, by rw [or_low h2]⟩
      refine bsl ?_ ?_ e32
      · simp [DV.flat, DV.cells, DV.leaf]
      refine apr ?_ ?_ (L_sz1 [x * 2 % 4294967296 + c]) e32
      · simp [L_length]; omega
      refine aso ?_; refine rn ?_; refine .region ?_; refine mvd ?_; refine mvd ?_
      refine ix out.length ?_ rfl (L_at hx) rfl s32
      refine ldp ?_ a32
      refine bie (.i .u32 ((x / 2147483648 : Nat) : Int)) ?_ ?_
      · simp [IntKind.bits]
      refine asd ?_; refine .nil ?_
      show AW _ _ _ _ _ _
      refine .region ?_; refine mvd ?_; refine ad ((out.length + 1 : Nat) : Int) ?_ ?_
      · omega
      refine asd ?_; refine rn ?_; refine .gh (Gh.keep [0, 5, 6, 7] rfl) ?_
      have := ih (out ++ [x * 2 % 4294967296 + c], x / 2147483648) ⟨h1.snoc (by omega), by dsimp only; omega, by simp; omega, ?_⟩ (by simp; omega)
      · rw [← L_snoc] at this
        dsimp only at this
        rw [List.length_append] at this
        exact this
      · dsimp only
        rw [val_snoc, List.length_append, List.length_singleton, Nat.pow_succ, hstep, h4]
    · rw [decide_eq_false (show ¬ (out.length : Int) < ((L a).length : Nat) by rw [L_length]; omega)]
      refine cndf ?_; refine .gh (Gh.keep [5, 6] rfl) ?_; refine .exit ?_
      refine ⟨out, c, rfl, rfl, h1, h2, by omega, ?_⟩
      rw [List.drop_eq_nil_of_le (by omega)] at h4
      rw [val_snoc, Nat.mul_comm, ← h4]
      simp [val]
  rintro _ _ ⟨out, c, rfl, rfl, h1, h2, h3, h4⟩
  refine .seq ?_; refine .region ?_; refine mvo ?_; refine mvd ?_
  refine bsl ?_ ?_ e32
  · simp [DV.flat, DV.cells, DV.leaf]
  refine apr ?_ ?_ (L_sz1 [c]) e32
  · simp [L_length]; omega
  refine fz (p := .t 33) ?_
  have f1 := refTrim_fn (a := out ++ [c]) (h1.snoc (by omega)) (by simp; omega)
  rw [h4, ← L_snoc] at f1
  refine cl (xs := [.sl ((L out).take (L out).length ++ [DV.i .u32 (c : Int)])]) ?_ f1 Tryz.call117
  refine aso ?_; refine rn ?_; refine .ret ?_
  exact ⟨rfl, rfl⟩

theorem u32_and1 (m : Nat) (h : m < 4294967296) : bits .and .u32 (m : Int) 1 = ((m % 2 : Nat) : Int) := by
  have := bits_mask .u32 32 (by decide) wraps_u32 1 (by decide) (m : Int) (by omega) (by omega)
  rw [show (2 : Int) ^ 1 - 1 = 1 by decide] at this
  rw [this]; simp
end Go.FL
/-
  nat.Power.
-/
namespace Go.FL
open Go Go.Proofs

theorem digs_mono {m n : Nat} (h : m ≤ n) : (digs m).length ≤ (digs n).length := by
  have h2 := val_lt (digs_ok n)
  rw [val_digs] at h2
  exact digs_len (by omega)
theorem i64_and1 (m : Nat) (h : m < 9223372036854775808) : bits .and .i64 (m : Int) 1 = ((m % 2 : Nat) : Int) := by
  have := bits_mask .i64 63 (by decide) wraps_i64 1 (by decide) (m : Int) (by omega) (by omega)
  rw [show (2 : Int) ^ 1 - 1 = 1 by decide] at this
  rw [this]; simp
theorem i64_shr1 (m : Nat) : (m : Int) / 2 ^ (min ((1 : Int).toNat) IntKind.i64.bits) = ((m / 2 : Nat) : Int) := by
  simp [IntKind.bits]
def pwOK (a n most : Nat) : Prop := (digs (a ^ n)).length ≤ most
instance (a n most : Nat) : Decidable (pwOK a n most) := inferInstanceAs (Decidable (_ ≤ _))
def pwV (a n most : Nat) : Nat := if pwOK a n most then a ^ n else 0
theorem pow_half {A m : Nat} : A ^ m = A ^ (m % 2) * (A * A) ^ (m / 2) := by
  rw [← Nat.pow_two, ← Nat.pow_mul, ← Nat.pow_add]
  congr 1; omega
theorem Power_fn {a : List Nat} (h : Ok a) (hl : a.length ≤ 1000) {n most : Nat} (hn : n < 9223372036854775808) (hm : most ≤ 1000) : Fn Tryz.prog 208 [.sl (L a), .i .i64 (n : Int), .i .i64 (most : Int)]
    (.tup [.d (.sl (L (digs (pwV (val a) n most)))), .d (.b (decide (pwOK (val a) n most)))]) := by
  refine Fn.of (rs := [.tmp 6, .tmp 7]) (nt := 42) Tryz.func208 rfl rfl rfl (by simp) rfl ?_; refine .seq ?_; refine .region ?_; refine asn ?_; refine asd ?_; refine rn ?_; refine .seq ?_; refine .region ?_; refine mvd ?_
  refine cl (xs := [.sl (L a)]) ?_ (Trim_fn h (by omega)) Tryz.call198
  refine aso ?_; refine rn ?_
  have hdl : (digs (val a)).length ≤ 1000 := Nat.le_trans (digs_len_le h) hl
  refine .gh (Gh.frz (p := .t 0) rfl (fun _ _ h => by cases h)) ?_; refine .gh (Gh.keep [0, 1, 2, 6, 7] rfl) ?_
  generalize val a = V at *
  clear h hl
  refine .seq ?_; refine .seq ?_; refine .region ?_; refine mvd ?_; refine bi ?_; refine rn ?_
  rw [decide_eq_false (show ¬ (n : Int) < 0 by omega)]
  refine cndf ?_; refine .skip ?_
  show AW _ _ _ _ _ _
  refine .seq ?_; refine .region ?_
  refine bsl ?_ ?_ e32
  · simp [DV.flat, DV.cells, DV.leaf]
  refine aso ?_; refine rn ?_; refine .gh (Gh.frz (p := .t 8) rfl (fun _ _ h => by cases h)) ?_
  have fail : ∀ {W : Nat}, V ≠ 0 → W ≤ V ^ n → most < (digs W).length → ¬ pwOK V n most := fun hV hW hd hp => by
    have := digs_mono hW
    unfold pwOK at hp; omega
  refine .mid (fun e H' => H' = [] ∧ e = [(2, .d (.i .i64 (most : Int))), (8, .d (.sl (L (digs (V ^ n)))))]) ?_ ?_
  · refine .block ?_
    refine .loop (.gh (Gh.keep [0, 1, 2, 6, 7, 8] rfl) ?_)
    refine AL.cast (env' := [(0, .d (.sl (L (digs V)))), (1, .d (.i .i64 ((n : Nat) : Int))), (2, .d (.i .i64 (most : Int))), (6, .nl), (7, .d (.b false)), (8, .d (.sl (L (digs 1))))]) (by rw [one_limb (n := 1) (by decide) (by decide)]; rfl) ?_
    refine AL.ind (σ := Nat × Nat × Nat) (m := fun s => s.2.2) (e := fun s => [(0, .d (.sl (L (digs s.1)))), (1, .d (.i .i64 (s.2.2 : Int))), (2, .d (.i .i64 (most : Int))), (6, .nl), (7, .d (.b false)), (8, .d (.sl (L (digs s.2.1))))]) (h := fun _ => [])
      (I := fun s => V ^ n = s.2.1 * s.1 ^ s.2.2 ∧ s.2.2 < 9223372036854775808 ∧ (digs s.1).length ≤ 1000 ∧ (digs s.2.1).length ≤ 1000 ∧ (V ≠ 0 → s.1 ≠ 0 ∧ s.2.1 ≠ 0) ∧ (V = 0 → s.1 = 0)) ?_ (V, 1, n) ⟨by simp, hn, hdl, by rw [one_limb (n := 1) (by decide) (by decide)]; simp, fun h => ⟨h, by simp⟩, fun h => h⟩
    rintro ⟨A, p, m⟩ ⟨h1, h2, h3, h4, h5, h6⟩ ih
    dsimp only at h1 h2 h3 h4 h5 h6 ih ⊢
    refine .seq ?_; refine .seq ?_; refine .region ?_; refine mvd ?_; refine bi ?_; refine rn ?_
    by_cases hm0 : m = 0
    · subst hm0
      refine cndf ?_; refine .gh (Gh.keep [2, 8] rfl) ?_; refine .exit ?_
      refine ⟨rfl, ?_⟩
      rw [h1, Nat.pow_zero, Nat.mul_one]; rfl
    · rw [decide_eq_true (show (0:Int) < (m:Int) by omega)]
      refine cndt ?_; refine .skip ?_
      show AW _ _ _ _ _ _
      have hph := pow_half (A := A) (m := m)
      have okA := digs_ok A
      have okp := digs_ok p
      have vA := val_digs A
      have vp := val_digs p
      refine .block ?_; refine .mid (fun e H' => H' = [] ∧ e = [(0, .d (.sl (L (digs A)))), (1, .d (.i .i64 (m : Int))), (2, .d (.i .i64 (most : Int))), (6, .nl), (7, .d (.b false)), (8, .d (.sl (L (digs (p * A ^ (m % 2))))))] ∧ (digs (p * A ^ (m % 2))).length ≤ 1000) ?_ ?_
      · refine .seq ?_
        refine .region ?_; refine mvd ?_; refine bie (.i .i64 ((m % 2 : Nat) : Int)) ?_ ?_
        · exact ⟨trivial, by rw [i64_and1 m h2]⟩
        refine bi ?_; refine rn ?_
        by_cases hodd : m % 2 = 1
        · rw [decide_eq_true (show ((m % 2 : Nat) : Int) = 1 by omega), hodd, Nat.pow_one]
          refine cndt ?_; refine .seq ?_; refine .region ?_; refine mvd ?_; refine mvd ?_
          refine cl (xs := [.sl (L (digs p)), .sl (L (digs A))]) ?_ (prod_fn okp okA (by omega) (by omega)) Tryz.call220
          rw [vA, vp]
          refine asd ?_; refine rn ?_; refine .seq ?_; refine .region ?_; refine mvd ?_
          refine ln ?_ (L_sz _) l32
          refine mvd ?_; refine bi ?_; refine rn ?_
          by_cases hbig : most < (digs (p * A)).length
          · rw [decide_eq_true (show (most : Int) < ((L (digs (p * A))).length : Nat) by rw [L_length]; omega)]
            have hV : V ≠ 0 := fun h0 => by rw [h6 h0, Nat.mul_zero, digs_zero] at hbig; simp at hbig
            have hA := (h5 hV).1
            have hle : p * A ≤ V ^ n := by
              rw [h1, show m = (m - 1) + 1 by omega, Nat.pow_succ, Nat.mul_comm (A ^ (m - 1)), ← Nat.mul_assoc]
              exact Nat.le_mul_of_pos_right _ (Nat.pow_pos (by omega))
            have hf := fail hV hle hbig
            refine cndt ?_; refine .seq ?_; refine .region ?_; refine asn ?_; refine asd ?_; refine rn ?_; refine .gh (Gh.nlD (t := 6) rfl) ?_; refine .ret ?_
            exact ⟨by decide, by rw [decide_eq_false hf, pwV, if_neg hf, digs_zero]; rfl, rfl, rfl⟩
          · rw [decide_eq_false (show ¬ (most : Int) < ((L (digs (p * A))).length : Nat) by rw [L_length]; omega)]
            refine cndf ?_; refine .gh (Gh.keep [0, 1, 2, 6, 7, 8] rfl) ?_; refine .skip ?_
            exact ⟨rfl, rfl, by omega⟩
        · have hev : m % 2 = 0 := by omega
          rw [decide_eq_false (show ¬ ((m % 2 : Nat) : Int) = 1 by omega), hev, Nat.pow_zero, Nat.mul_one]
          refine cndf ?_; refine .gh (Gh.keep [0, 1, 2, 6, 7, 8] rfl) ?_; refine .skip ?_
          exact ⟨rfl, rfl, h4⟩
      rintro _ _ ⟨rfl, rfl, hpl⟩
      have h1' : V ^ n = (p * A ^ (m % 2)) * (A * A) ^ (m / 2) := by rw [h1, hph, Nat.mul_assoc]
      have h5' : V ≠ 0 → p * A ^ (m % 2) ≠ 0 := fun h0 => Nat.mul_ne_zero (h5 h0).2 (Nat.pos_iff_ne_zero.1 (Nat.pow_pos (Nat.pos_of_ne_zero (h5 h0).1)))
      generalize p * A ^ (m % 2) = P at *
      refine .seq ?_; refine .region ?_; refine mvd ?_; refine bie (.i .i64 ((m / 2 : Nat) : Int)) ?_ ?_
      · exact ⟨by decide, by rw [i64_shr1]⟩
      refine asd ?_; refine rn ?_; refine .seq ?_; refine .region ?_; refine mvd ?_; refine bi ?_; refine rn ?_
      by_cases hh : m / 2 = 0
      · rw [decide_eq_false (show ¬ (0 : Int) < ((m / 2 : Nat) : Int) by omega)]
        refine cndf ?_; refine .gh (Gh.keep [0, 1, 2, 6, 7, 8] rfl) ?_; refine .skip ?_
        show AL _ _ _ _ _ _
        refine ih (A, P, m / 2) ⟨?_, by dsimp only; omega, h3, hpl, fun h0 => ⟨(h5 h0).1, h5' h0⟩, h6⟩ (by dsimp only; omega)
        dsimp only
        rw [h1', hh]; simp
      · rw [decide_eq_true (show (0 : Int) < ((m / 2 : Nat) : Int) by omega)]
        refine cndt ?_; refine .seq ?_; refine .region ?_; refine mvd ?_; refine mvd ?_
        refine cl (xs := [.sl (L (digs A)), .sl (L (digs A))]) ?_ (prod_fn okA okA (by omega) (by omega)) Tryz.call220
        rw [vA]
        refine asd ?_; refine rn ?_; refine .seq ?_; refine .region ?_; refine mvd ?_
        refine ln ?_ (L_sz _) l32
        refine mvd ?_; refine bi ?_; refine rn ?_
        by_cases hbig : most < (digs (A * A)).length
        · rw [decide_eq_true (show (most : Int) < ((L (digs (A * A))).length : Nat) by rw [L_length]; omega)]
          have hV : V ≠ 0 := fun h0 => by rw [h6 h0, Nat.mul_zero, digs_zero] at hbig; simp at hbig
          have hA := (h5 hV).1
          have hP := h5' hV
          have hle : A * A ≤ V ^ n := by
            rw [h1', show m / 2 = (m / 2 - 1) + 1 by omega, Nat.pow_succ, ← Nat.mul_assoc]
            exact Nat.le_mul_of_pos_left _ (Nat.mul_pos (by omega) (Nat.pow_pos (Nat.mul_pos (by omega) (by omega))))
          have hf := fail hV hle hbig
          refine cndt ?_; refine .seq ?_; refine .region ?_; refine asn ?_; refine asd ?_; refine rn ?_; refine .gh (Gh.nlD (t := 6) rfl) ?_; refine .ret ?_
          exact ⟨by decide, by rw [decide_eq_false hf, pwV, if_neg hf, digs_zero]; rfl, rfl, rfl⟩
        · rw [decide_eq_false (show ¬ (most : Int) < ((L (digs (A * A))).length : Nat) by rw [L_length]; omega)]
          refine cndf ?_; refine .gh (Gh.keep [0, 1, 2, 6, 7, 8] rfl) ?_; refine .skip ?_
          show AL _ _ _ _ _ _
          exact ih (A * A, P, m / 2) ⟨h1', by dsimp only; omega, by dsimp only; omega, hpl, fun h0 => ⟨Nat.mul_ne_zero (h5 h0).1 (h5 h0).1, h5' h0⟩, fun h0 => by rw [h6 h0]⟩ (by dsimp only; omega)
  rintro _ _ ⟨rfl, rfl⟩
  refine .seq ?_; refine .seq ?_; refine .region ?_; refine mvd ?_
  refine ln ?_ (L_sz _) l32
  refine mvd ?_; refine bi ?_; refine rn ?_
  by_cases hf : pwOK V n most
  · rw [decide_eq_false (show ¬ (most : Int) < ((L (digs (V ^ n))).length : Nat) by unfold pwOK at hf; rw [L_length]; omega)]
    refine cndf ?_; refine .skip ?_
    show AW _ _ _ _ _ _
    refine .seq ?_; refine .region ?_; refine mvd ?_; refine asd ?_; refine asd ?_; refine rn ?_; refine .ret ?_
    exact ⟨by decide, by rw [decide_eq_true hf, pwV, if_pos hf]; rfl, rfl, rfl⟩
  · rw [decide_eq_true (show (most : Int) < ((L (digs (V ^ n))).length : Nat) by unfold pwOK at hf; rw [L_length]; omega)]
    refine cndt ?_; refine .seq ?_; refine .region ?_; refine asn ?_; refine asd ?_; refine rn ?_; refine .gh (Gh.nlD (t := 6) rfl) ?_; refine .ret ?_
    exact ⟨by decide, by rw [decide_eq_false hf, pwV, if_neg hf, digs_zero]; rfl, rfl, rfl⟩
theorem PowerNeg_fn {a : List Nat} (h : Ok a) (hl : a.length ≤ 1000) {n : Int} (hn : n < 0) {most : Int} : Fn Tryz.prog 208 [.sl (L a), .i .i64 n, .i .i64 most] (.tup [.d (.sl []), .d (.b false)]) := by
  refine Fn.of (rs := [.tmp 6, .tmp 7]) (nt := 42) Tryz.func208 rfl rfl rfl (by simp) rfl ?_; refine .seq ?_; refine .region ?_; refine asn ?_; refine asd ?_; refine rn ?_; refine .seq ?_; refine .region ?_; refine mvd ?_
  refine cl (xs := [.sl (L a)]) ?_ (Trim_fn h (by omega)) Tryz.call198
  refine aso ?_; refine rn ?_; refine .seq ?_; refine .seq ?_; refine .region ?_; refine mvd ?_; refine bi ?_; refine rn ?_
  rw [decide_eq_true (show n < 0 by omega)]
  refine cndt ?_; refine .seq ?_; refine .region ?_; refine asn ?_; refine asd ?_; refine rn ?_; refine .gh (Gh.nlD (t := 6) rfl) ?_; refine .ret ?_
  exact ⟨by decide, rfl, rfl, rfl⟩
end Go.FL
/-
  glyphref01: DivMod.
-/
namespace Go.FL
open Go Go.Proofs

def remN (m n : Nat) : Nat := if n = 0 then 0 else m % n
end Go.FL
/-
  Long division: the guess, one round, the end: plain numbers.
-/
namespace Go.FL
open Go Go.Proofs

theorem guess_ok {T V N D P lo lv g : Nat} (hT : T = lo + P * N) (hlo : lo < P) (hV : V = lv + P * D) (hlv : lv < P) (hD : 4294967296 ≤ D) (hTV : T < 4294967296 * V) (hg : g = min (N / D) 4294967295) : T / V ≤ g ∧ g ≤ T / V + 1 := by
  have hVpos : 0 < V := by
    have : P * 1 ≤ P * D := Nat.mul_le_mul_left _ (by omega)
    omega
  have hq1 : T / V ≤ 4294967295 := by
    have : T / V < 4294967296 := (Nat.div_lt_iff_lt_mul hVpos).2 hTV
    omega
  have hq2 : T / V ≤ N / D := by
    refine (Nat.le_div_iff_mul_le (by omega)).2 ?_
    have h1 : T / V * V ≤ T := Nat.div_mul_le_self _ _
    have h2 : T / V * (P * D) ≤ T / V * V := Nat.mul_le_mul_left _ (by omega)
    have h3 : P * (T / V * D) < P * (N + 1) := by
      have e1 : P * (T / V * D) = T / V * (P * D) := by grind
      have e2 : P * (N + 1) = P * N + P := by grind
      omega
    have := Nat.lt_of_mul_lt_mul_left h3
    omega
  have hgN : g ≤ N / D := by rw [hg]; exact Nat.min_le_left _ _
  have hgB : g ≤ 4294967295 := by rw [hg]; exact Nat.min_le_right _ _
  have hTg : T / V ≤ g := by rw [hg]; exact Nat.le_min.2 ⟨hq2, hq1⟩
  refine ⟨hTg, ?_⟩
  apply Classical.byContradiction
  intro hc
  obtain ⟨m, hgm⟩ := Nat.exists_eq_succ_of_ne_zero (show g ≠ 0 from fun h0 => hc (by rw [h0]; exact Nat.zero_le _))
  subst hgm
  have hm : T < m * V := (Nat.div_lt_iff_lt_mul hVpos).1 (Nat.lt_of_succ_lt_succ (Nat.lt_of_not_le hc))
  have h1 : (m + 1) * D ≤ N := (Nat.le_div_iff_mul_le (by omega)).1 hgN
  clear hg hq1 hq2 hTg hgN hc
  have h2 : P * ((m + 1) * D) ≤ P * N := Nat.mul_le_mul_left _ h1
  have h3 : m * V ≤ m * (P * (D + 1)) := Nat.mul_le_mul_left _ (by
    have e : P * (D + 1) = P * D + P := by grind
    omega)
  have h4 : P * ((m + 1) * D) < P * (m * (D + 1)) := by
    have e : P * (m * (D + 1)) = m * (P * (D + 1)) := by grind
    omega
  have h5 := Nat.lt_of_mul_lt_mul_left h4
  have e1 : (m + 1) * D = m * D + D := by grind
  have e2 : m * (D + 1) = m * D + m := by grind
  omega
theorem round0 {T V W g : Nat} (hV : 0 < V) (h : W + g * V = T) (hg : T / V ≤ g) : g = T / V ∧ W = T % V := by
  have h1 : g ≤ T / V := (Nat.le_div_iff_mul_le hV).2 (by omega)
  have h2 : g = T / V := by omega
  refine ⟨h2, ?_⟩
  have := Nat.div_add_mod T V
  rw [← h2, Nat.mul_comm] at this
  omega
theorem round1 {T V W W' M e g : Nat} (hV : 0 < V) (h : W + g * V = T + M) (hW : W < M) (hg : g ≤ T / V + 1) (ha : W' + e * M = W + V) (hW' : W' < M) (hVM : V < M) : g - 1 = T / V ∧ W' = T % V ∧ 0 < g := by
  have hdm := Nat.div_add_mod T V
  have hml := Nat.mod_lt T hV
  have hdl := Nat.div_mul_le_self T V
  rw [Nat.mul_comm] at hdm
  generalize T / V = Q at *
  generalize T % V = R at *
  have h1 : Q < g := by
    apply Classical.byContradiction
    intro hc
    have : g * V ≤ Q * V := Nat.mul_le_mul_right _ (by omega)
    omega
  have h2 : g = Q + 1 := by omega
  subst h2
  rw [Nat.add_mul, Nat.one_mul] at h
  have h3 : W' + e * M = M + R := by omega
  have he : e = 1 := by
    match e with
    | 0 => simp at h3; omega
    | 1 => rfl
    | e + 2 =>
      have : 2 * M ≤ (e + 2) * M := Nat.mul_le_mul_right _ (by omega)
      omega
  subst he
  exact ⟨by omega, by omega, by omega⟩

theorem val_split (u : List Nat) (i : Nat) (hi : i ≤ u.length) : val u = val (u.take i) + 4294967296 ^ i * val (u.drop i) := by
  conv => lhs; rw [← List.take_append_drop i u]
  rw [val_append, List.length_take, Nat.min_eq_left hi]
theorem val_zero_drop {u : List Nat} {k : Nat} (hk : k ≤ u.length) (h : val u < 4294967296 ^ k) : val (u.drop k) = 0 := by
  rw [val_split u k hk] at h
  apply Classical.byContradiction
  intro hc
  have : 4294967296 ^ k * 1 ≤ 4294967296 ^ k * val (u.drop k) := Nat.mul_le_mul_left _ (by omega)
  omega
theorem val_lt_of {u : List Nat} {k : Nat} (hu : Ok u) (hk : k ≤ u.length) (h : val (u.drop k) = 0) : val u < 4294967296 ^ k := by
  rw [val_split u k hk, h, Nat.mul_zero, Nat.add_zero]
  have := val_lt (hu.take k)
  rwa [List.length_take, Nat.min_eq_left hk] at this
theorem three_at {u : List Nat} {j : Nat} (h : j + 3 ≤ u.length) (hz : val (u.drop (j + 3)) = 0) :
    val u = val (u.take j) + 4294967296 ^ j * ((u.getD (j + 2) 0 * 4294967296 + u.getD (j + 1) 0) * 4294967296 + u.getD j 0) := by
  rw [val_split u j (by omega), drop_val j, drop_val (j + 1), drop_val (j + 2), hz]
  congr 2
  omega
theorem two_at {v : List Nat} {j : Nat} (h : v.length = j + 2) : val v = val (v.take j) + 4294967296 ^ j * (v.getD (j + 1) 0 * 4294967296 + v.getD j 0) := by
  rw [val_split v j (by omega), drop_val j, drop_val (j + 1), List.drop_eq_nil_of_le (show v.length ≤ j + 1 + 1 by omega)]
  congr 2
  simp only [val]; omega
theorem take_lt {u : List Nat} {j : Nat} (hu : Ok u) (hj : j ≤ u.length) : val (u.take j) < 4294967296 ^ j := by
  have := val_lt (hu.take j)
  rwa [List.length_take, Nat.min_eq_left hj] at this
theorem top_ok {T V P N D lo lv u2 u1 u0 v1 v0 : Nat} (hT : T = lo + P * N) (hV : V = lv + P * D) (hlv : lv < P) (hTV : T < 4294967296 * V) (hN : N = (u2 * 4294967296 + u1) * 4294967296 + u0) (hD : D = v1 * 4294967296 + v0) (h0 : v0 < 4294967296) : u2 ≤ v1 := by
  have h1 : P * N < P * (4294967296 * (D + 1)) := by
    have e : P * (4294967296 * (D + 1)) = 4294967296 * (P * D + P) := by grind
    omega
  have h2 := Nat.lt_of_mul_lt_mul_left h1
  omega

def addGo : List Nat → List Nat → Nat → Nat → List Nat × Nat
  | [], u, c, _ => (u, c)
  | y :: r, u, c, j => addGo r (u.set j ((u.getD j 0 + y + c) % 4294967296)) ((u.getD j 0 + y + c) / 4294967296) (j + 1)
theorem addGo_cons (y : Nat) (r u : List Nat) (c j : Nat) : addGo (y :: r) u c j = addGo r (u.set j ((u.getD j 0 + y + c) % 4294967296)) ((u.getD j 0 + y + c) / 4294967296) (j + 1) := rfl
theorem addGo_step {V' V P x y c c' r R F Z : Nat} (hs : V' + x * P = V + r * P) (hc : x + y + c = 4294967296 * c' + r) (ih : F + Z = V' + (R + c') * (P * 4294967296)) : F + Z = V + (y + 4294967296 * R + c) * P := by
  grind
theorem addGo_val : ∀ (v u : List Nat) (c j : Nat), Ok v → Ok u → c ≤ 1 → j + v.length ≤ u.length →
    val (addGo v u c j).1 + (addGo v u c j).2 * 4294967296 ^ (j + v.length) = val u + (val v + c) * 4294967296 ^ j ∧ Ok (addGo v u c j).1 ∧ (addGo v u c j).2 ≤ 1 ∧ (addGo v u c j).1.length = u.length ∧
    (addGo v u c j).1.take j = u.take j ∧ (addGo v u c j).1.drop (j + v.length) = u.drop (j + v.length)
  | [], u, c, j, hv, hu, hc, hj => by simp [addGo, val, hu, hc]
  | y :: r, u, c, j, hv, hu, hc, hj => by
    simp only [addGo]
    have hj' : j + r.length + 1 ≤ u.length := by simpa [Nat.add_assoc] using hj
    have hx := getD_some (u := u) (j := j) (by omega)
    have hxl := getD_lt hu j
    have hyl := hv.head
    have hset := set_val hx (y := (u.getD j 0 + y + c) % 4294967296)
    have hcy : u.getD j 0 + y + c = 4294967296 * ((u.getD j 0 + y + c) / 4294967296) + (u.getD j 0 + y + c) % 4294967296 := (Nat.div_add_mod _ _).symm
    have hok := hu.set j (x := (u.getD j 0 + y + c) % 4294967296) (Nat.mod_lt _ (by decide))
    have hc' : (u.getD j 0 + y + c) / 4294967296 ≤ 1 := by omega
    generalize (u.getD j 0 + y + c) % 4294967296 = rr at *
    generalize (u.getD j 0 + y + c) / 4294967296 = c' at *
    generalize u.getD j 0 = x at *
    obtain ⟨i1, i2, i3, i4, i5, i6⟩ := addGo_val r (u.set j rr) c' (j + 1) hv.tail hok hc' (by rw [List.length_set]; omega)
    generalize addGo r (u.set j rr) c' (j + 1) = res at *
    rw [Nat.pow_succ] at i1
    refine ⟨?_, i2, i3, by rw [i4, List.length_set], ?_, ?_⟩
    · rw [val, show j + (y :: r).length = j + 1 + r.length by simp; omega]
      exact addGo_step hset hcy i1
    · have := congrArg (List.take j) i5
      rw [List.take_take, List.take_take, Nat.min_eq_left (by omega), List.take_set_of_le (Nat.le_refl _)] at this
      exact this
    · rw [show j + (y :: r).length = j + 1 + r.length by simp; omega, i6, List.drop_set_of_lt (by omega)]

theorem knuth_round {u v : List Nat} {i k : Nat} (hu : Ok u) (hv : Ok v) (hk : v.length = k + 2) (hi : i + k + 3 ≤ u.length) (hr : val (u.drop (i + 1)) < val v) (htop : 2147483648 ≤ v.getD (k + 1) 0) :
    u.getD (i + k + 2) 0 ≤ v.getD (k + 1) 0 ∧ val (u.drop i) < 4294967296 * val v ∧
    (∀ g, g = guessQ (u.getD (i + k + 2) 0) (u.getD (i + k + 1) 0) (u.getD (i + k) 0) (v.getD (k + 1) 0) (v.getD k 0) → val (u.drop i) / val v ≤ g ∧ g ≤ val (u.drop i) / val v + 1 ∧ g ≤ 4294967295) := by
  have hT : val (u.drop i) < 4294967296 * val v := by
    rw [drop_val i]
    have h1 := getD_lt hu i
    have : 4294967296 * (val (u.drop (i + 1)) + 1) ≤ 4294967296 * val v := Nat.mul_le_mul_left _ hr
    omega
  have hvl := val_lt hv
  rw [hk] at hvl
  have hTk : val (u.drop i) < 4294967296 ^ (k + 3) := by
    rw [show k + 3 = (k + 2) + 1 by omega, Nat.pow_succ, Nat.mul_comm]
    have : 4294967296 * val v < 4294967296 * 4294967296 ^ (k + 2) := Nat.mul_lt_mul_of_pos_left hvl (by decide)
    omega
  have hz := val_zero_drop (u := u.drop i) (k := k + 3) (by rw [List.length_drop]; omega) hTk
  have h3 := three_at (u := u.drop i) (j := k) (by rw [List.length_drop]; omega) hz
  have hg : ∀ m, (u.drop i).getD m 0 = u.getD (i + m) 0 := fun m => by rw [List.getD_eq_getElem?_getD, List.getElem?_drop, List.getD_eq_getElem?_getD]
  rw [hg, hg, hg] at h3
  have h2 := two_at hk
  have hlv := take_lt (j := k) hv (by omega)
  have hlu := take_lt (j := k) (hu.drop i) (by rw [List.length_drop]; omega)
  have hv0 := getD_lt hv k
  rw [show i + (k + 2) = i + k + 2 by omega, show i + (k + 1) = i + k + 1 by omega] at h3
  have htp := top_ok h3 h2 hlv hT rfl rfl hv0
  refine ⟨htp, hT, fun g hgq => ?_⟩
  obtain ⟨j1, j2⟩ := guess_ok (g := g) h3 hlu h2 hlv (by omega) hT hgq
  refine ⟨j1, j2, ?_⟩
  rw [hgq]; exact Nat.min_le_right _ _
theorem win_alg {lo P W g V T b M : Nat} (h1 : lo + P * W + (g * V + 0 + 0) * P = lo + P * T + b * (P * M)) : P * (W + g * V) = P * (T + b * M) := by
  grind
theorem win_add {lo P W T V c K x r e Z S : Nat} (h1 : Z + c * (P * K) = lo + P * T + V * P) (hset : lo + P * W + x * (P * K) = Z + r * (P * K)) (hdm : x + c = 4294967296 * e + r) (hS : S = K * 4294967296) : P * (W + e * S) = P * (T + V) := by
  grind
theorem take_window {u v : List Nat} {i g : Nat} (hu : Ok u) (hv : Ok v) (hi : i + v.length < u.length) (hg : g < 4294967296) (hz : val (u.drop (i + v.length + 1)) = 0) :
    Ok (takeGo g v u 0 0 i).1 ∧ (takeGo g v u 0 0 i).1.length = u.length ∧ (takeGo g v u 0 0 i).1.take i = u.take i ∧ (takeGo g v u 0 0 i).2 ≤ 1 ∧ val ((takeGo g v u 0 0 i).1.drop (i + v.length + 1)) = 0 ∧
    val ((takeGo g v u 0 0 i).1.drop i) + g * val v = val (u.drop i) + (takeGo g v u 0 0 i).2 * 4294967296 ^ (v.length + 1) ∧ val ((takeGo g v u 0 0 i).1.drop i) < 4294967296 ^ (v.length + 1) := by
  obtain ⟨h1, h2, h3, h4, h5, h6⟩ := takeGo_val hg v u 0 0 i hv hu (by decide) (by decide) hi
  generalize takeGo g v u 0 0 i = res at *
  have hz' : val (res.1.drop (i + v.length + 1)) = 0 := by rw [h6]; exact hz
  refine ⟨h2, h4, h5, h3, hz', ?_, ?_⟩
  · rw [val_split u i (by omega), val_split res.1 i (by omega), h5, show i + v.length + 1 = i + (v.length + 1) by omega, Nat.pow_add] at h1
    have hp : 0 < 4294967296 ^ i := Nat.pow_pos (by decide)
    exact Nat.eq_of_mul_eq_mul_left hp (win_alg h1)
  · refine val_lt_of (h2.drop i) (by rw [List.length_drop]; omega) ?_
    rw [List.drop_drop, show i + (v.length + 1) = i + v.length + 1 by omega]
    exact hz'
theorem add_window {u v : List Nat} {i : Nat} (hu : Ok u) (hv : Ok v) (hi : i + v.length < u.length) (hz : val (u.drop (i + v.length + 1)) = 0) {w : List Nat} {c : Nat} (hw : addGo v u 0 i = (w, c)) {w' : List Nat}
    (hw' : w' = w.set (i + v.length) ((w.getD (i + v.length) 0 + c) % 4294967296)) : Ok w' ∧ w'.length = u.length ∧ w'.take i = u.take i ∧ c ≤ 1 ∧
    (∃ e, val (w'.drop i) + e * 4294967296 ^ (v.length + 1) = val (u.drop i) + val v) ∧ val (w'.drop i) < 4294967296 ^ (v.length + 1) := by
  obtain ⟨h1, h2, h3, h4, h5, h6⟩ := addGo_val v u 0 i hv hu (by decide) (by omega)
  rw [hw] at h1 h2 h3 h4 h5 h6
  dsimp only at h1 h2 h3 h4 h5 h6
  have hx := getD_some (u := w) (j := i + v.length) (by omega)
  have hset := set_val hx (y := (w.getD (i + v.length) 0 + c) % 4294967296)
  rw [← hw'] at hset
  have hdm : w.getD (i + v.length) 0 + c = 4294967296 * ((w.getD (i + v.length) 0 + c) / 4294967296) + (w.getD (i + v.length) 0 + c) % 4294967296 := (Nat.div_add_mod _ _).symm
  have hok : Ok w' := by rw [hw']; exact h2.set _ (Nat.mod_lt _ (by decide))
  have hlen : w'.length = u.length := by rw [hw', List.length_set, h4]
  have htk : w'.take i = u.take i := by rw [hw', List.take_set_of_le (by omega), h5]
  have hz' : val (w'.drop (i + v.length + 1)) = 0 := by
    rw [hw', List.drop_set_of_lt (by omega)]
    have : w.drop (i + v.length + 1) = u.drop (i + v.length + 1) := by
      have e1 : w.drop (i + v.length + 1) = (w.drop (i + v.length)).drop 1 := by rw [List.drop_drop]
      have e2 : u.drop (i + v.length + 1) = (u.drop (i + v.length)).drop 1 := by rw [List.drop_drop]
      rw [e1, e2, h6]
    rw [this]; exact hz
  refine ⟨hok, hlen, htk, h3, ⟨(w.getD (i + v.length) 0 + c) / 4294967296, ?_⟩, ?_⟩
  · clear hw hw' hx
    generalize (w.getD (i + v.length) 0 + c) / 4294967296 = e at *
    generalize (w.getD (i + v.length) 0 + c) % 4294967296 = r at *
    generalize w.getD (i + v.length) 0 = x at *
    rw [val_split u i (by omega)] at h1
    rw [val_split w' i (by omega), htk] at hset
    rw [Nat.add_zero, Nat.pow_add] at h1
    rw [Nat.pow_add] at hset
    have hp : 0 < 4294967296 ^ i := Nat.pow_pos (by decide)
    exact Nat.eq_of_mul_eq_mul_left hp (win_add h1 hset hdm (Nat.pow_succ ..))
  · refine val_lt_of (hok.drop i) (by rw [List.length_drop]; omega) ?_
    rw [List.drop_drop, show i + (v.length + 1) = i + v.length + 1 by omega]
    exact hz'
end Go.FL
/-
  nat.DivMod.
-/
namespace Go.FL
open Go Go.Proofs

theorem norm_ok {ys b : List Nat} {x n : Nat} (e : ys = b ++ [x]) (hb : Ok b) (hx : x ≠ 0) (hxl : x < 4294967296) (hn : n = 32 - bitsN x) : n < 32 ∧ val ys * 2 ^ n < 4294967296 ^ ys.length ∧ 4294967296 ^ b.length * 2147483648 ≤ val ys * 2 ^ n := by
  have hlx : bitsN x ≤ 32 := bitsN_iff.2 (by omega)
  obtain ⟨j, hj, hj1, hj2⟩ := bitsN_pos hx
  have hv : bitsN (val ys) = 32 * b.length + bitsN x := by rw [e]; exact bitsN_val hb hx
  have hlen : ys.length = b.length + 1 := by rw [e]; simp
  have hvp : val ys ≠ 0 := fun h0 => by rw [h0, show bitsN 0 = 0 from rfl] at hv; omega
  obtain ⟨m, hm, hm1, hm2⟩ := bitsN_pos hvp
  have hB : ∀ k, 4294967296 ^ k = 2 ^ (32 * k) := fun k => by rw [Nat.pow_mul]
  refine ⟨by omega, ?_, ?_⟩
  · rw [hB, hlen, show 32 * (b.length + 1) = (m + 1) + n by omega, Nat.pow_add]
    exact Nat.mul_lt_mul_of_pos_right hm2 (Nat.pow_pos (by decide))
  · rw [hB, show (2147483648 : Nat) = 2 ^ 31 by rfl, ← Nat.pow_add, show 32 * b.length + 31 = m + n by omega, Nat.pow_add]
    exact Nat.mul_le_mul_right _ hm1
theorem top_big {v : List Nat} {k : Nat} (hv : Ok v) (hk : v.length = k + 1) (h : 4294967296 ^ k * 2147483648 ≤ val v) : 2147483648 ≤ v.getD k 0 := by
  have h1 := take_lt (j := k) hv (by omega)
  have h2 := val_split v k (by omega)
  rw [drop_val, List.drop_eq_nil_of_le (by omega)] at h2
  simp only [val, Nat.mul_zero, Nat.add_zero] at h2
  apply Classical.byContradiction
  intro hc
  have h3 : 4294967296 ^ k * (v.getD k 0 + 1) ≤ 4294967296 ^ k * 2147483648 := Nat.mul_le_mul_left _ (by omega)
  rw [Nat.mul_add, Nat.mul_one] at h3
  omega
theorem div_end {R D E Q A : Nat} (hE : 0 < E) (h : R + D * E * Q = A * E) (hR : R < D * E) : A / D = Q ∧ R / E = A % D ∧ 0 < D := by
  have hD : 0 < D := by
    rcases Nat.eq_zero_or_pos D with h0 | h0
    · subst h0; simp at hR
    · exact h0
  have e1 : D * E * Q = (D * Q) * E := by grind
  rw [e1] at h
  have hle : D * Q ≤ A := by
    have : (D * Q) * E ≤ A * E := by omega
    exact Nat.le_of_mul_le_mul_right this hE
  obtain ⟨r, rfl⟩ := Nat.exists_eq_add_of_le hle
  rw [Nat.add_mul] at h
  have hr : R = r * E := by omega
  rw [hr] at hR
  have hrD : r < D := Nat.lt_of_mul_lt_mul_right hR
  refine ⟨?_, ?_, hD⟩
  · rw [Nat.mul_add_div hD, Nat.div_eq_of_lt hrD, Nat.add_zero]
  · rw [hr, Nat.mul_div_cancel _ hE, Nat.mul_add_mod, Nat.mod_eq_of_lt hrD]
theorem start_ok {xs : List Nat} {n m V k : Nat} (hx : Ok xs) (hn : n < 32) (hm : xs.length = m + k) (hV : 4294967296 ^ k * 2147483648 ≤ V) {u : List Nat} (hu : val u = val xs * 2 ^ n) (hl : m ≤ u.length) : val (u.drop m) < V := by
  rw [val_split u m hl] at hu
  have h1 := val_lt hx
  rw [hm, Nat.pow_add] at h1
  have h2 : (2 : Nat) ^ n ≤ 2147483648 := Nat.pow_le_pow_right (n := 2) (by decide) (show n ≤ 31 by omega)
  have h3 : val xs * 2 ^ n < 4294967296 ^ m * 4294967296 ^ k * 2 ^ n := Nat.mul_lt_mul_of_pos_right h1 (Nat.pow_pos (by decide))
  have h4 : 4294967296 ^ m * 4294967296 ^ k * 2 ^ n ≤ 4294967296 ^ m * (4294967296 ^ k * 2147483648) := by
    rw [Nat.mul_assoc]
    exact Nat.mul_le_mul_left _ (Nat.mul_le_mul_left _ h2)
  have h5 : 4294967296 ^ m * (4294967296 ^ k * 2147483648) ≤ 4294967296 ^ m * V := Nat.mul_le_mul_left _ hV
  have h6 : 4294967296 ^ m * val (u.drop m) < 4294967296 ^ m * V := by omega
  exact Nat.lt_of_mul_lt_mul_left h6
theorem total_step {lo P T V Q U Z W : Nat} (h : lo + P * T + V * Z = U) (hT : T = V * Q + W) {Z' : Nat} (hZ : Z' + 0 * P = Z + Q * P) : lo + P * W + V * Z' = U := by
  grind
theorem L_rep (n : Nat) : L (List.replicate n 0) = List.replicate n (U 0) := by simp [L]

theorem DivMod_fn {a b : List Nat} (ha : Ok a) (hb : Ok b) (hla : a.length ≤ 500000) (hlb : b.length ≤ 500000) : Fn Tryz.prog 199 [.sl (L a), .sl (L b)]
    (.tup [.d (.sl (L (digs (val a / val b)))), .d (.sl (L (digs (remN (val a) (val b))))), .d (.b (decide (val b ≠ 0)))]) := by
  have oa := digs_ok (val a)
  have ob := digs_ok (val b)
  have va := val_digs (val a)
  have vb := val_digs (val b)
  have la := Nat.le_trans (digs_len_le ha) hla
  have lb := Nat.le_trans (digs_len_le hb) hlb
  have hspl := @digs_split (val b)
  have hlt := @digs_lt (val a) (val b)
  have hnil := @digs_nil_iff (val b)
  refine Fn.of (rs := [.tmp 4, .tmp 5, .tmp 6]) (nt := 163) Tryz.func199 rfl rfl rfl (by simp) rfl ?_; refine .seq ?_; refine .region ?_; refine asn ?_; refine asn ?_; refine asd ?_; refine rn ?_; refine .seq ?_; refine .region ?_; refine mvd ?_
  refine cl (xs := [.sl (L a)]) ?_ (cut_val ha (by omega)) Tryz.call197
  refine mvd ?_
  refine cl (xs := [.sl (L b)]) ?_ (cut_val hb (by omega)) Tryz.call197
  refine asd ?_; refine asd ?_; refine rn ?_
  generalize digs (val a) = xs at *
  generalize digs (val b) = ys at *
  refine .gh (Gh.keep [0, 1, 4, 5, 6] rfl) ?_; refine .mid (fun e H' => H' = [] ∧ 2 ≤ ys.length ∧ ys.length ≤ xs.length ∧ e = [(0, .d (.sl (L xs))), (1, .d (.sl (L ys)))]) ?_ ?_
  · refine .block ?_
    refine .seq ?_; refine .region ?_; refine mvd ?_
    refine ln ?_ (L_sz _) l32
    refine bi ?_; refine asd ?_; refine rn ?_
    by_cases h0 : val b = 0
    · have hy := hnil.2 h0
      subst hy
      refine cndt ?_; refine .seq ?_; refine .region ?_; refine asn ?_; refine asn ?_; refine asd ?_; refine rn ?_; refine .gh (Gh.nlD (t := 4) rfl) ?_; refine .gh (Gh.nlD (t := 5) rfl) ?_; refine .ret ?_
      refine ⟨by decide, ?_, rfl, rfl, rfl⟩
      rw [h0]
      simp [remN, digs_zero]; exact ⟨rfl, rfl, rfl⟩
    · obtain ⟨bb, x, hyx, hx0, hbb, hxl⟩ := hspl h0
      have hyl : ys.length = bb.length + 1 := by rw [hyx]; simp
      rw [decide_eq_false (show ¬ (((L ys).length : Nat) : Int) = 0 by rw [L_length]; omega)]
      refine cndf ?_; refine .seq ?_; refine .region ?_; refine mvd ?_
      refine ln ?_ (L_sz _) l32
      refine bi ?_; refine asd ?_; refine rn ?_
      by_cases h1 : ys.length = 1
      · have hbb0 : bb = [] := List.length_eq_zero_iff.1 (by omega)
        rw [hbb0, List.nil_append] at hyx
        have hvx : val b = x := by rw [← vb, hyx]; simp [val]
        rw [decide_eq_true (show (((L ys).length : Nat) : Int) = 1 by rw [L_length]; omega)]
        have hy0 : ys[0]? = some (val b) := by rw [hyx, hvx]; rfl
        have fsm := small_fn (a := xs) (d := val b) oa (by omega) (by omega) (by omega)
        rw [va] at fsm
        refine cndt ?_; refine .seq ?_; refine .region ?_; refine mvd ?_; refine mvd ?_
        refine ix 0 ?_ rfl (L_at hy0) rfl s32
        refine ldp ?_ a32
        refine cl (xs := [.sl (L xs), U (val b)]) ?_ fsm Tryz.call232
        refine mvt ?_; refine ex ?_; refine ex ?_; refine asd ?_; refine asd ?_; refine rn ?_; refine .seq ?_; refine .region ?_; refine mvd ?_; refine mvd ?_; refine asd ?_; refine asd ?_; refine asd ?_; refine rn ?_; refine .ret ?_
        exact ⟨by decide, by rw [remN, if_neg h0, decide_eq_true h0]; rfl, rfl, rfl, rfl⟩
      · rw [decide_eq_false (show ¬ (((L ys).length : Nat) : Int) = 1 by rw [L_length]; omega)]
        refine cndf ?_; refine .seq ?_; refine .region ?_; refine mvd ?_
        refine ln ?_ (L_sz _) l32
        refine mvd ?_
        refine ln ?_ (L_sz _) l32
        refine bi ?_; refine asd ?_; refine rn ?_
        by_cases h2 : xs.length < ys.length
        · have hab := hlt h2
          rw [decide_eq_true (show (((L xs).length : Nat) : Int) < ((L ys).length : Nat) by rw [L_length, L_length]; omega)]
          have ft := Trim_fn (a := xs) oa (by omega)
          rw [va] at ft
          refine cndt ?_; refine .seq ?_; refine .region ?_; refine mvd ?_
          refine cl (xs := [.sl (L xs)]) ?_ ft Tryz.call198
          refine asn ?_; refine aso ?_; refine asd ?_; refine rn ?_; refine .gh (Gh.nlD (t := 4) rfl) ?_; refine .gh (Gh.frz (p := .t 5) rfl (fun _ _ h => by cases h)) ?_; refine .ret ?_
          refine ⟨by decide, ?_, rfl, rfl, rfl⟩
          rw [remN, if_neg h0, decide_eq_true h0, Nat.div_eq_of_lt hab, Nat.mod_eq_of_lt hab, digs_zero]; rfl
        · rw [decide_eq_false (show ¬ (((L xs).length : Nat) : Int) < ((L ys).length : Nat) by rw [L_length, L_length]; omega)]
          refine cndf ?_; refine .gh (Gh.keep [0, 1] rfl) ?_; refine .skip ?_
          exact ⟨rfl, by omega, by omega, rfl⟩
  rintro _ _ ⟨rfl, hy2, hyx, rfl⟩
  have h0 : val b ≠ 0 := fun h => by have := hnil.2 h; rw [this] at hy2; simp at hy2
  obtain ⟨bb, x, hys, hx0, hbb, hxl⟩ := hspl h0
  obtain ⟨k, hk⟩ : ∃ k, ys.length = k + 2 := ⟨ys.length - 2, by omega⟩
  have hyl : bb.length = k + 1 := by rw [hys] at hk; simp at hk; omega
  obtain ⟨m0, hm0⟩ : ∃ m0, xs.length = m0 + (k + 2) := ⟨xs.length - (k + 2), by omega⟩
  obtain ⟨n, hn⟩ : ∃ n, n = 32 - bitsN x := ⟨_, rfl⟩
  obtain ⟨hn32, hV1, hV2⟩ := norm_ok hys hbb hx0 hxl hn
  have hxat : ys[k + 1]? = some x := by rw [hys, ← hyl]; simp
  have flz := LeadingZeros32_fn hxl
  rw [← hn] at flz
  have fsx := shifted_fn (a := xs) (n := n) oa (by omega) hn32
  have fsy := shifted_fn (a := ys) (n := n) ob (by omega) hn32
  obtain ⟨ux1, ux2⟩ := shL_val hn32 xs 0 oa (Nat.pow_pos (by decide))
  obtain ⟨uy1, uy2⟩ := shL_val hn32 ys 0 ob (Nat.pow_pos (by decide))
  have ux3 := shL_length n xs 0
  have uy3 := shL_length n ys 0
  rw [Nat.zero_add] at ux1 uy1
  generalize shL n 0 xs = u0 at *
  generalize shL n 0 ys = w0 at *
  have hvz := val_zero_drop (u := w0) (k := ys.length) (by omega) (by rw [uy1]; exact hV1)
  have hvv : val (w0.take ys.length) = val b * 2 ^ n := by
    have := val_split w0 ys.length (by omega)
    rw [hvz, Nat.mul_zero, Nat.add_zero, uy1, vb] at this
    exact this.symm
  have ov := uy2.take ys.length
  have lv : (w0.take ys.length).length = k + 2 := by rw [List.length_take]; omega
  generalize hvdef : w0.take ys.length = v at *
  rw [vb, hyl] at hV2
  rw [vb, hk] at hV1
  rw [va] at ux1
  have htop := top_big ov (show v.length = (k + 1) + 1 by omega) (by rw [hvv]; exact hV2)
  have hst := start_ok (V := val v) (m := m0 + 1) (k := k + 1) oa hn32 (by omega) (by rw [hvv]; exact hV2) (by rw [ux1, va]) (u := u0) (by omega)
  have hVpos : 0 < val v := by rw [hvv]; exact Nat.mul_pos (by omega) (Nat.pow_pos (by decide))
  have e2n : 0 < 2 ^ n := Nat.pow_pos (by decide)
  have hvlen : val v < 4294967296 ^ (k + 2) := by rw [hvv]; exact hV1
  have hdend : ∀ R Q, R + val v * Q = val a * 2 ^ n → R < val v → val a / val b = Q ∧ R / 2 ^ n = val a % val b := fun R Q h1 h2 => by
    rw [hvv] at h1 h2
    obtain ⟨e1, e2, _⟩ := div_end e2n h1 h2
    exact ⟨e1, e2⟩
  clear hspl hlt hnil hV2 hvz hV1 hvv uy1 vb va
  refine .seq ?_; refine .region ?_; refine mvd ?_; refine mvd ?_
  refine ln ?_ (L_sz _) l32
  refine su ((k + 1 : Nat) : Int) ?_ ?_
  · rw [L_length]; omega
  refine ix (k + 1) ?_ rfl (L_at hxat) rfl s32
  refine ldp ?_ a32
  refine cl (xs := [.i .u32 (x : Int)]) ?_ flz Tryz.call233
  refine asd ?_; refine rn ?_; refine .gh (Gh.keep [0, 1, 7] rfl) ?_; refine .seq ?_; refine .drawn 10 mixed (by kernel_rfl) ?_; refine dv vmvd ?_; refine dv vmvd ?_; refine dv (v := .own 121 (L u0)) (vcl (xs := [.sl (L xs), .i .i64 (n : Int)]) (r := .own 121 (L u0)) fsx Tryz.call234) ?_; refine dv vmvd ?_; refine dv vmvd ?_; refine dv (v := .d (.sl (L w0))) (vcl (xs := [.sl (L ys), .i .i64 (n : Int)]) (r := .own 121 (L w0)) fsy Tryz.call234).deep ?_; refine dv vmvd ?_; refine dv (vln (L_sz _) l32) ?_; refine dv (vsl 0 ys.length ?_ (L_sz1 _) s32) ?_
  · rw [L_length, L_length]; omega
  refine dv vaso ?_; refine dz ?_; refine asd ?_; refine RL.gh (Gh.swap (s := 55) (t := 8) rfl rfl rfl) ?_; refine rn ?_
  rw [List.drop_zero, Nat.sub_zero, L_take, hvdef]
  refine .gh (Gh.keep [0, 7, 8, 9] rfl) ?_; refine .seq ?_; refine .region ?_; refine mvd ?_
  refine ln ?_ (L_sz _) l32
  refine asd ?_; refine rn ?_; refine .seq ?_; refine .region ?_; refine mvd ?_
  refine ln ?_ (L_sz _) l32
  refine mvd ?_; refine su (m0 : Int) ?_ ?_
  · rw [L_length, L_length]; omega
  refine ad ((m0 + 1 : Nat) : Int) ?_ ?_
  · omega
  refine mk (m0 + 1) ⟨rfl, rfl⟩ ?_ ?_ e32 rfl
  · omega
  refine aso ?_; refine rn ?_; refine .mid (fun e H' => ∃ u q, Ok u ∧ Ok q ∧ u.length = u0.length ∧ q.length = m0 + 1 ∧ val u + val v * val q = val a * 2 ^ n ∧ val u < val v ∧ e = [(4, .own 121 (L q)), (7, .d (.i .i64 (n : Int))), (8, .own 121 (L u)), (10, .d (.i .i64 ((L v).length : Nat)))]) ?_ ?_
  · refine .seq ?_
    refine .region ?_; refine mvd ?_
    refine ln ?_ (L_sz _) l32
    refine mvd ?_; refine su (m0 : Int) ?_ ?_
    · rw [L_length, L_length]; omega
    refine asd ?_; refine rn ?_; refine .block ?_
    refine .loop (.gh (Gh.keep [4, 7, 8, 9, 10, 11] rfl) ?_)
    refine AL.cast (env' := [(4, .own 121 (L (List.replicate (m0 + 1) 0))), (7, .d (.i .i64 (n : Int))), (8, .own 121 (L u0)), (9, .d (.sl (L v))), (10, .d (.i .i64 ((L v).length : Nat))), (11, .d (.i .i64 (((m0 + 1 : Nat) : Int) - 1)))]) (by rw [L_rep, show ((m0 + 1 : Nat) : Int) - 1 = (m0 : Int) by omega]; rfl) ?_
    refine AL.ind (σ := Nat × List Nat × List Nat × Heap) (m := fun s => s.1) (e := fun s => [(4, .own 121 (L s.2.2.1)), (7, .d (.i .i64 (n : Int))), (8, .own 121 (L s.2.1)), (9, .d (.sl (L v))), (10, .d (.i .i64 ((L v).length : Nat))), (11, .d (.i .i64 ((s.1 : Int) - 1)))]) (h := fun s => s.2.2.2)
      (I := fun s => s.1 ≤ m0 + 1 ∧ Ok s.2.1 ∧ Ok s.2.2.1 ∧ s.2.1.length = u0.length ∧ s.2.2.1.length = m0 + 1 ∧ val s.2.1 + val v * val s.2.2.1 = val a * 2 ^ n ∧ val (s.2.1.drop s.1) < val v ∧ ∀ j, j < s.1 → s.2.2.1[j]? = some 0) ?_ (m0 + 1, u0, List.replicate (m0 + 1) 0, []) ⟨Nat.le_refl _, ux2, rep_ok _, rfl, by simp, by simp [rep_val, ux1], hst, fun j hj => by
      dsimp only at hj ⊢
      rw [List.getElem?_replicate, if_pos hj]⟩
    rintro ⟨m, u, q, G⟩ ⟨h1, h2, h3, h4, h5, h6, h7, h8⟩ ih
    dsimp only at h1 h2 h3 h4 h5 h6 h7 h8 ih ⊢
    refine .seq ?_; refine .seq ?_; refine .region ?_; refine mvd ?_; refine bi ?_; refine rn ?_
    cases m with
    | zero =>
      rw [decide_eq_false (show ¬ (0 : Int) ≤ ((0 : Nat) : Int) - 1 by omega)]
      refine cndf ?_; refine .gh (Gh.keep [4, 7, 8, 10] rfl) ?_; refine .exit ?_
      exact ⟨u, q, h2, h3, h4, h5, h6, by simpa using h7, rfl⟩
    | succ i =>
      rw [decide_eq_true (show (0 : Int) ≤ ((i + 1 : Nat) : Int) - 1 by omega)]
      obtain ⟨t1, t2, t3⟩ := knuth_round (u := u) (v := v) (i := i) (k := k) h2 ov lv (by omega) h7 htop
      obtain ⟨g1, g2, g3⟩ := t3 _ rfl
      have fg := guess_fn t1 (getD_lt h2 (i + k + 1)) (getD_lt h2 (i + k)) (getD_lt ov (k + 1)) (getD_lt ov k) (by omega)
      have hx2 := getD_some (u := u) (j := i + k + 2) (by omega)
      have hx1 := getD_some (u := u) (j := i + k + 1) (by omega)
      have hx0' := getD_some (u := u) (j := i + k) (by omega)
      have hy1 := getD_some (u := v) (j := k + 1) (by omega)
      have hy0 := getD_some (u := v) (j := k) (by omega)
      have hzd : val (u.drop (i + v.length + 1)) = 0 := by
        have h9 := val_zero_drop (u := u.drop (i + 1)) (k := k + 2) (by rw [List.length_drop]; omega) (by omega)
        rw [List.drop_drop] at h9
        rw [lv, show i + (k + 2) + 1 = i + 1 + (k + 2) by omega]; exact h9
      generalize guessQ (u.getD (i + k + 2) 0) (u.getD (i + k + 1) 0) (u.getD (i + k) 0) (v.getD (k + 1) 0) (v.getD k 0) = g at *
      have ftk := take_fn (H := G) (u0 := u) (v := v) (q := g) (at0 := i) h2 ov (by omega) (by omega) (by omega)
      obtain ⟨w1, w2, w3, w4, w5, w6, w7⟩ := take_window (u := u) (v := v) (i := i) (g := g) h2 ov (by omega) (by omega) hzd
      generalize hres : takeGo g v u 0 0 i = res at *
      obtain ⟨u1, bf⟩ := res
      dsimp only at w1 w2 w3 w4 w5 w6 w7 ftk
      generalize u.getD (i + k + 2) 0 = x2 at *
      generalize u.getD (i + k + 1) 0 = x1 at *
      generalize u.getD (i + k) 0 = x0 at *
      generalize v.getD (k + 1) 0 = y1 at *
      generalize v.getD k 0 = y0 at *
      clear t1 t2 t3 hres
      refine cndt ?_; refine .skip ?_
      show AW _ _ _ _ _ _
      refine .gh (Gh.keep [4, 7, 8, 9, 10, 11] rfl) ?_; refine .seq ?_; refine .block ?_; refine .seq ?_; refine .drawn 31 mixed (by kernel_rfl) ?_; refine dv vmvo ?_; refine dv vmvd ?_; refine dv vmvd ?_; refine dv (vad ((i + k + 2 : Nat) : Int) ?_) ?_
      · rw [L_length]; omega
      refine dv (vixr (i + k + 2) ?_ ?_ s32 (by decide)) ?_
      · rfl
      · rw [L_length]; omega
      refine dv (vlde (U x2) ?_ a32) ?_
      · rw [Nat.zero_add]; exact L_at' hx2
      refine dv vmvo ?_; refine dv vmvd ?_; refine dv vmvd ?_; refine dv (vad ((i + k + 2 : Nat) : Int) ?_) ?_
      · rw [L_length]; omega
      refine dv (vsu ((i + k + 1 : Nat) : Int) ?_) ?_
      · omega
      refine dv (vixr (i + k + 1) ?_ ?_ s32 (by decide)) ?_
      · rfl
      · rw [L_length]; omega
      refine dv (vlde (U x1) ?_ a32) ?_
      · rw [Nat.zero_add]; exact L_at' hx1
      refine dv vmvo ?_; refine dv vmvd ?_; refine dv vmvd ?_; refine dv (vad ((i + k + 2 : Nat) : Int) ?_) ?_
      · rw [L_length]; omega
      refine dv (vsu ((i + k : Nat) : Int) ?_) ?_
      · omega
      refine dv (vixr (i + k) ?_ ?_ s32 (by decide)) ?_
      · rfl
      · rw [L_length]; omega
      refine dv (vlde (U x0) ?_ a32) ?_
      · rw [Nat.zero_add]; exact L_at' hx0'
      refine dv vmvd ?_; refine dv vmvd ?_; refine dv (vsu ((k + 1 : Nat) : Int) ?_) ?_
      · rw [L_length]; omega
      refine dv (vix (k + 1) rfl (L_at hy1) rfl s32) ?_; refine dv (vldp a32) ?_; refine dv vmvd ?_; refine dv vmvd ?_; refine dv (vsu ((k : Nat) : Int) ?_) ?_
      · rw [L_length]; omega
      refine dv (vix k rfl (L_at hy0) rfl s32) ?_; refine dv (vldp a32) ?_; refine dv (v := .d (.i .u64 (g : Int))) (vcl (xs := [U x2, U x1, U x0, U y1, U y0]) (r := .d (.i .u64 (g : Int))) fg Tryz.call235) ?_; refine dz ?_; refine asd ?_; refine rn ?_; refine .gh (Gh.keep [4, 7, 8, 9, 10, 11, 12] rfl) ?_
      rw [show ((i + 1 : Nat) : Int) - 1 = (i : Int) by omega]
      refine .mid (fun e H' => ∃ u', Ok u' ∧ u'.length = u.length ∧ u'.take i = u.take i ∧ val (u'.drop i) = val (u.drop i) % val v ∧ e = [(4, .own 121 (L q)), (7, .d (.i .i64 (n : Int))), (8, .own 121 (L u')), (9, .d (.sl (L v))), (10, .d (.i .i64 ((L v).length : Nat))), (11, .d (.i .i64 (i : Int))), (12, .d (.i .u64 ((val (u.drop i) / val v : Nat) : Int)))]) ?_ ?_
      · refine .seq ?_
        refine .region ?_; refine mvo ?_; refine mvd ?_; refine mvd ?_; refine mvd ?_
        refine clg1 (L u1) (fun G2 => ?_) ftk Tryz.call236
        refine bi ?_; refine rn ?_
        by_cases hbf : bf = 0
        · subst hbf
          obtain ⟨r1, r2⟩ := round0 (g := g) (W := val (u1.drop i)) hVpos (by simpa using w6) g1
          rw [decide_eq_false (show ¬ (0 : Int) < ((0 : Nat) : Int) by omega)]
          refine cndf ?_; refine .gh (Gh.keep [4, 7, 8, 9, 10, 11, 12] rfl) ?_; refine .skip ?_
          exact ⟨u1, w1, w2, w3, r2, by rw [← r1]; rfl⟩
        · have hbf1 : bf = 1 := by omega
          subst hbf1
          rw [decide_eq_true (show (0 : Int) < ((1 : Nat) : Int) by omega)]
          obtain ⟨ag, hag⟩ : ∃ ag, addGo v u1 0 i = ag := ⟨_, rfl⟩
          obtain ⟨wl, c⟩ := ag
          obtain ⟨z1, z2, z3, z4, ⟨ec, z5⟩, z6⟩ := add_window (u := u1) (v := v) (i := i) w1 ov (by omega) w5 hag rfl
          rw [Nat.one_mul] at w6
          obtain ⟨r1, r2, r3⟩ := round1 (T := val (u.drop i)) hVpos w6 w7 g2 z5 z6 (by rw [lv, Nat.pow_succ]; omega)
          have hwl := addGo_val v u1 0 i ov w1 (by decide) (by omega)
          rw [hag] at hwl
          obtain ⟨y1', y2', y3', y4', _, _⟩ := hwl
          dsimp only at y1' y2' y3' y4'
          have hxw := getD_some (u := wl) (j := i + v.length) (by omega)
          generalize wl.getD (i + v.length) 0 = xw at *
          refine cndt ?_; refine .gh (Gh.keep [4, 7, 8, 9, 10, 11, 12] rfl) ?_; refine .seq ?_; refine .region ?_; refine mvd ?_; refine bie (.i .u64 ((g - 1 : Nat) : Int)) ?_ ?_
          · refine ⟨trivial, ?_⟩
            rw [show (g : Int) - 1 = ((g - 1 : Nat) : Int) by omega, toU64 (by omega)]
          refine asd ?_; refine rn ?_
          rw [r1]
          refine .seq ?_; refine .region ?_; refine asd ?_; refine rn ?_; refine .mid (fun e H' => e = [(4, .own 121 (L q)), (7, .d (.i .i64 (n : Int))), (8, .own 121 (L wl)), (9, .d (.sl (L v))), (10, .d (.i .i64 ((L v).length : Nat))), (11, .d (.i .i64 (i : Int))), (12, .d (.i .u64 ((val (u.drop i) / val v : Nat) : Int))), (13, .d (.i .u32 (c : Int)))]) ?_ ?_
          · refine .seq ?_
            refine .region ?_; refine mvd ?_
            refine ln ?_ (L_sz _) l32
            refine mvd ?_; refine rn ?_; refine .block ?_
            refine .loop (.gh (Gh.keep [4, 7, 8, 9, 10, 11, 12, 13, 117, 118, 119] rfl) ?_)
            refine AL.ind (σ := Nat × List Nat × Nat) (m := fun s => v.length - s.1) (e := fun s => [(4, .own 121 (L q)), (7, .d (.i .i64 (n : Int))), (8, .own 121 (L s.2.1)), (9, .d (.sl (L v))), (10, .d (.i .i64 ((L v).length : Nat))), (11, .d (.i .i64 (i : Int))), (12, .d (.i .u64 ((val (u.drop i) / val v : Nat) : Int))), (13, .d (.i .u32 (s.2.2 : Int))), (117, .d (.sl (L v))), (118, .d (.i .i64 ((L v).length : Nat))), (119, .d (.i .i64 (s.1 : Int)))]) (h := fun _ => G ++ G2)
              (I := fun s => s.1 ≤ v.length ∧ Ok s.2.1 ∧ s.2.1.length = u.length ∧ s.2.2 ≤ 1 ∧ addGo (v.drop s.1) s.2.1 s.2.2 (i + s.1) = (wl, c)) ?_ (0, u1, 0) ⟨Nat.zero_le _, w1, w2, by simp, hag⟩
            rintro ⟨j, uu, cc⟩ ⟨a1, a2', a3, a4, a5⟩ ih2
            dsimp only at a1 a2' a3 a4 a5 ih2 ⊢
            refine .seq ?_; refine .region ?_; refine bi ?_; refine rn ?_; refine .seq ?_
            by_cases hj : j < v.length
            · rw [decide_eq_true (show (j : Int) < ((L v).length : Nat) by rw [L_length]; omega)]
              have hyv : v[j]? = some v[j] := List.getElem?_eq_getElem hj
              have hdr : v.drop j = v[j] :: v.drop (j + 1) := List.drop_eq_getElem_cons hj
              generalize v[j] = yv at hyv hdr
              rw [hdr, addGo_cons] at a5
              have hyvl := ov.at hyv
              have hxv := getD_some (u := uu) (j := i + j) (by omega)
              have hxvl := getD_lt a2' (i + j)
              have fadd := Add32_fn hxvl hyvl (show cc < 4294967296 by omega)
              have hrr : (uu.getD (i + j) 0 + yv + cc) % 4294967296 < 4294967296 := Nat.mod_lt _ (by decide)
              have hc1 : (uu.getD (i + j) 0 + yv + cc) / 4294967296 ≤ 1 := by omega
              generalize (uu.getD (i + j) 0 + yv + cc) % 4294967296 = rr at *
              generalize (uu.getD (i + j) 0 + yv + cc) / 4294967296 = c' at *
              generalize uu.getD (i + j) 0 = xv at *
              refine cndt ?_; refine .skip ?_
              show AW _ _ _ _ _ _
              refine .seq ?_; refine .block ?_; refine .seq ?_; refine .region ?_; refine mvd ?_
              refine ix j ?_ rfl (L_at hyv) rfl s32
              refine ldp ?_ a32
              refine asd ?_; refine asd ?_; refine rn ?_; refine .region ?_; refine mvo ?_; refine mvd ?_; refine mvd ?_; refine ad ((i + j : Nat) : Int) ?_ ?_
              · omega
              refine mvo ?_; refine mvd ?_; refine mvd ?_; refine ad ((i + j : Nat) : Int) ?_ ?_
              · omega
              refine ixr (i + j) ?_ ?_ ?_ s32 (by decide)
              · rfl
              · rw [L_length]; omega
              refine lde (U xv) ?_ ?_ a32
              · rw [Nat.zero_add]; exact L_at' hxv
              refine mvd ?_; refine mvd ?_
              refine cl (xs := [U xv, U yv, U cc]) ?_ fadd Tryz.call237
              refine mvt ?_; refine ex ?_; refine ex ?_
              refine ixr (i + j) ?_ ?_ ?_ s32 (by decide)
              · rfl
              · rw [L_length]; omega
              refine ste ?_ ?_ z32
              · rw [Nat.zero_add]; exact L_leaf hxv
              refine asd ?_; refine .nil ?_
              show AW _ _ _ _ _ _
              refine .region ?_; refine ad ((j + 1 : Nat) : Int) ?_ ?_
              · omega
              refine mvd ?_; refine rn ?_; refine .gh (Gh.keep [4, 7, 8, 9, 10, 11, 12, 13, 117, 118, 119] rfl) ?_
              have := ih2 (j + 1, uu.set (i + j) rr, c') ⟨by dsimp only; omega, a2'.set _ hrr, by dsimp only; rw [List.length_set]; exact a3, hc1, a5⟩ (by dsimp only; omega)
              dsimp only at this
              rw [← L_set0] at this
              exact this
            · rw [decide_eq_false (show ¬ (j : Int) < ((L v).length : Nat) by rw [L_length]; omega)]
              refine cndf ?_; refine .gh (Gh.keep [4, 7, 8, 9, 10, 11, 12, 13] rfl) ?_; refine .exit ?_
              have hje : j = v.length := by omega
              subst hje
              rw [List.drop_eq_nil_of_le (Nat.le_refl _)] at a5
              have e1 : uu = wl ∧ cc = c := by simpa [addGo] using a5
              show _ = _
              rw [← e1.1, ← e1.2]; rfl
          rintro _ H3 rfl
          refine .region ?_; refine mvo ?_; refine mvd ?_; refine mvd ?_; refine ad ((i + v.length : Nat) : Int) ?_ ?_
          · rw [L_length]; omega
          refine ixr (i + v.length) ?_ ?_ ?_ s32 (by decide)
          · rfl
          · rw [L_length]; omega
          refine lde (U xw) ?_ ?_ a32
          · rw [Nat.zero_add]; exact L_at' hxw
          refine mvd ?_; refine bie (.i .u32 (((xw + c) % 4294967296 : Nat) : Int)) ?_ ?_
          · exact ⟨trivial, by rw [← Int.natCast_add, wrapU32]⟩
          refine ixr (i + v.length) ?_ ?_ ?_ s32 (by decide)
          · rfl
          · rw [L_length]; omega
          refine ste ?_ ?_ z32
          · rw [Nat.zero_add]; exact L_leaf hxw
          refine RL.gh (Gh.keep [4, 7, 8, 9, 10, 11, 12] rfl) ?_; refine .nil ?_
          exact ⟨_, z1, by rw [z2]; exact w2, by rw [z3]; exact w3, r2, by rw [← L_set0]; rfl⟩
      rintro _ G3 ⟨u', p1, p2, p3, p4, rfl⟩
      have hq0 := h8 i (by omega)
      have hQlt : val (u.drop i) / val v < 4294967296 := by omega
      have hdm := Nat.div_add_mod (val (u.drop i)) (val v)
      have hml := Nat.mod_lt (val (u.drop i)) hVpos
      have hqs := set_val hq0 (y := val (u.drop i) / val v)
      have hnew : val u' + val v * val (q.set i (val (u.drop i) / val v)) = val a * 2 ^ n := by
        have e1 := val_split u i (by omega)
        have e2 := val_split u' i (by omega)
        rw [p3, p4] at e2
        rw [e1] at h6
        rw [e2]
        exact total_step h6 hdm.symm hqs
      generalize val (u.drop i) / val v = Q at *
      refine .region ?_; refine mvo ?_; refine mvd ?_; refine mvd ?_
      refine cve (Q : Int) (toU32 hQlt) ?_ u64 u32
      refine ixr i ?_ ?_ ?_ s32 (by decide)
      · rfl
      · rw [L_length]; omega
      refine ste ?_ ?_ z32
      · rw [Nat.zero_add]; exact L_leaf hq0
      refine .nil ?_
      show AW _ _ _ _ _ _
      refine .region ?_; refine mvd ?_; refine su ((i : Int) - 1) ?_ ?_
      · omega
      refine asd ?_; refine rn ?_; refine .gh (Gh.keep [4, 7, 8, 9, 10, 11] rfl) ?_
      have := ih (i, u', q.set i Q, G3) ⟨by dsimp only; omega, p1, h3.set _ hQlt, by dsimp only; rw [p2]; exact h4, by dsimp only; rw [List.length_set]; exact h5, hnew, by dsimp only; rw [p4]; exact hml, fun j hj => by
        dsimp only at hj ⊢
        rw [List.getElem?_set_ne (by omega)]
        exact h8 j (by omega)⟩ (by dsimp only; omega)
      dsimp only at this
      rw [← L_set0] at this
      exact this
  rintro _ H4 ⟨u, q, h2, h3, h4, h5, h6, h7, rfl⟩
  obtain ⟨d1, d2⟩ := hdend _ _ h6 h7
  have htk : val (u.take v.length) = val u := by
    have e1 := val_split u v.length (by omega)
    have e2 := val_zero_drop (u := u) (k := v.length) (by omega) (by rw [lv]; omega)
    rw [e2, Nat.mul_zero, Nat.add_zero] at e1
    exact e1.symm
  have fbk := back_fn (a := u.take v.length) (n := n) (h2.take _) (by rw [List.length_take]; omega) hn32
  rw [htk, d2] at fbk
  have e9 : ((L u).drop 0).take (v.length - 0) = L (u.take v.length) := by rw [List.drop_zero, Nat.sub_zero, L_take]
  rw [← e9] at fbk
  have fct := cut_val (a := q) h3 (by omega)
  rw [← d1] at fct
  refine .gh (Gh.frz (p := .t 4) rfl (fun _ _ h => by cases h)) ?_; refine .gh (Gh.frz (p := .t 8) rfl (fun _ _ h => by cases h)) ?_; refine .gh (Gh.keep [4, 7, 8, 10] rfl) ?_; refine .seq ?_; refine .drawn 7 mixed (by kernel_rfl) ?_; refine dv vmvd ?_; refine dv (v := .d (.sl (L (digs (val a / val b))))) (vcl (xs := [.sl (L q)]) (r := .d (.sl (L (digs (val a / val b))))) fct Tryz.call197) ?_; refine dv vmvd ?_; refine dv vmvd ?_; refine dv (vsl 0 v.length ?_ (L_sz1 _) s32) ?_
  · rw [L_length, L_length]; omega
  refine dv vmvd ?_; refine dv (v := .d (.sl (L (digs (val a % val b))))) (vcl (xs := [.sl (((L u).drop 0).take (v.length - 0)), .i .i64 (n : Int)]) (r := .d (.sl (L (digs (val a % val b))))) fbk Tryz.call238) ?_; refine dz ?_; refine asd ?_; refine asd ?_; refine asd ?_; refine rn ?_; refine .ret ?_
  exact ⟨by decide, by rw [remN, if_neg h0, decide_eq_true h0]; rfl, rfl, rfl, rfl⟩
end Go.FL
/-
  nat.Gcd: Euclid's way, number after number.
-/
namespace Go.FL
open Go Go.Proofs

def gcdF (ls : List (List Nat)) : Nat := ls.foldl (fun g a => Nat.gcd g (val a)) 0
theorem gcdF_snoc (ls : List (List Nat)) (y : List Nat) : gcdF (ls ++ [y]) = Nat.gcd (gcdF ls) (val y) := by
  rw [gcdF, gcdF, List.foldl_append]; rfl
theorem gcd_lt {g x P : Nat} (hg : g < P) (hx : x < P) : Nat.gcd g x < P := by
  by_cases h : x = 0
  · subst h; rwa [Nat.gcd_zero_right]
  · exact Nat.lt_of_le_of_lt (Nat.gcd_le_right g (Nat.pos_of_ne_zero h)) hx
theorem gcd_step {g x : Nat} : Nat.gcd x (g % x) = Nat.gcd g x := by
  rw [Nat.gcd_comm g x, Nat.gcd_rec x g, Nat.gcd_comm]
theorem Gcd_fn {M : Nat} {ls : List (List Nat)} (h : ∀ a ∈ ls, Ok a) (hM : ∀ a ∈ ls, a.length ≤ M) (hl : ls.length ≤ 1000) (hM2 : M ≤ 500000) : Fn Tryz.prog 120 [.sl (LL ls)] (.d (.sl (L (digs (gcdF ls))))) := by
  have hv : ∀ a ∈ ls, val a < 4294967296 ^ M := fun a ha => Nat.lt_of_lt_of_le (val_lt (h a ha)) (Nat.pow_le_pow_right (by decide) (hM a ha))
  have hP : 0 < 4294967296 ^ M := Nat.pow_pos (by decide)
  refine Fn.of (rs := [.tmp 2]) (nt := 31) Tryz.func120 rfl rfl rfl (by simp) rfl ?_; refine .seq ?_; refine .region ?_; refine asn ?_; refine rn ?_; refine .seq ?_; refine .region ?_; refine asn ?_; refine rn ?_; refine .mid (fun e H' => e = [(3, .d (.sl (L (digs (gcdF ls)))))]) ?_ ?_
  · refine .seq ?_
    refine .region ?_; refine mvd ?_
    refine ln ?_ (LL_sz _) l2
    refine mvd ?_; refine rn ?_; refine .block ?_; refine .gh (Gh.nlD (t := 3) rfl) ?_
    refine .loop (.gh (Gh.keep [3, 9, 10, 11] rfl) ?_)
    refine AL.cast (env' := [(3, .d (.sl (L (digs (gcdF (ls.take 0)))))), (9, .d (.sl (LL ls))), (10, .d (.i .i64 ((LL ls).length : Nat))), (11, .d (.i .i64 ((0 : Nat) : Int)))]) (by rw [List.take_zero]; show _ = [(3, AV.d (.sl (L (digs 0)))), (9, AV.d (.sl (LL ls))), _, _]; rw [digs_zero]; rfl) ?_
    refine AL.ind (σ := Nat) (m := fun i => ls.length - i) (e := fun i => [(3, .d (.sl (L (digs (gcdF (ls.take i)))))), (9, .d (.sl (LL ls))), (10, .d (.i .i64 ((LL ls).length : Nat))), (11, .d (.i .i64 (i : Int)))]) (h := fun _ => [])
      (I := fun i => i ≤ ls.length ∧ gcdF (ls.take i) < 4294967296 ^ M) ?_ 0 ⟨Nat.zero_le _, by rw [List.take_zero]; exact hP⟩
    rintro i ⟨h1, h2⟩ ih
    refine .seq ?_; refine .region ?_; refine bi ?_; refine rn ?_; refine .seq ?_
    by_cases hi : i < ls.length
    · rw [decide_eq_true (show (i:Int) < ((LL ls).length : Nat) by rw [LL_length]; omega)]
      have hy : ls[i]? = some ls[i] := List.getElem?_eq_getElem hi
      have htk : ls.take (i + 1) = ls.take i ++ [ls[i]] := List.take_succ_eq_append_getElem hi
      generalize ls[i] = y at hy htk
      have hyo := h y (List.mem_of_getElem? hy)
      have hyl := hM y (List.mem_of_getElem? hy)
      have hyv := hv y (List.mem_of_getElem? hy)
      have hst : gcdF (ls.take (i + 1)) = Nat.gcd (gcdF (ls.take i)) (val y) := by rw [htk, gcdF_snoc]
      generalize gcdF (ls.take i) = g at *
      refine cndt ?_; refine .skip ?_
      show AW _ _ _ _ _ _
      refine .seq ?_; refine .block ?_; refine .seq ?_; refine .region ?_
      refine ix i ?_ rfl (LL_at hy) rfl s2
      refine ldp ?_ a2
      refine asd ?_; refine rn ?_; refine .seq ?_; refine .region ?_; refine mvd ?_
      refine cl (xs := [.sl (L y)]) ?_ (Trim_fn hyo (by omega)) Tryz.call198
      refine aso ?_; refine RL.gh (Gh.frz (p := .t 5) rfl (fun _ _ h => by cases h)) ?_; refine rn ?_; refine .block ?_
      refine .loop (.gh (Gh.keep [3, 5, 9, 10, 11] rfl) ?_)
      refine AL.ind (σ := Nat × Nat) (m := fun s => s.2) (e := fun s => [(3, .d (.sl (L (digs s.1)))), (5, .d (.sl (L (digs s.2)))), (9, .d (.sl (LL ls))), (10, .d (.i .i64 ((LL ls).length : Nat))), (11, .d (.i .i64 (i : Int)))]) (h := fun _ => [])
        (I := fun s => s.1 < 4294967296 ^ M ∧ s.2 < 4294967296 ^ M ∧ Nat.gcd s.1 s.2 = Nat.gcd g (val y)) ?_ (g, val y) ⟨h2, hyv, rfl⟩
      rintro ⟨p, x⟩ ⟨g1, g2, g3⟩ ih2
      dsimp only at g1 g2 g3 ih2 ⊢
      refine .seq ?_; refine .seq ?_; refine .region ?_; refine mvd ?_
      refine ln ?_ (L_sz _) l32
      refine bi ?_; refine rn ?_
      by_cases hx : x = 0
      · subst hx
        rw [decide_eq_false (show ¬ (0 : Int) < ((L (digs 0)).length : Nat) by rw [digs_zero]; decide)]
        rw [Nat.gcd_zero_right, ← hst] at g3
        refine cndf ?_; refine .exit ?_
        show AW _ _ _ _ _ _
        refine .region ?_; refine ad ((i + 1 : Nat) : Int) ?_ ?_
        · omega
        refine mvd ?_; refine rn ?_; refine .gh (Gh.keep [3, 9, 10, 11] rfl) ?_
        rw [g3]
        exact ih (i + 1) ⟨by omega, by rw [← g3]; exact g1⟩ (by omega)
      · have hd := digs_ne (m := x) (by omega)
        rw [decide_eq_true (show (0 : Int) < ((L (digs x)).length : Nat) by rw [L_length]; omega)]
        have fd := DivMod_fn (a := digs p) (b := digs x) (digs_ok _) (digs_ok _) (Nat.le_trans (digs_len g1) hM2) (Nat.le_trans (digs_len g2) hM2)
        rw [val_digs, val_digs, remN, if_neg hx] at fd
        refine cndt ?_; refine .skip ?_
        show AW _ _ _ _ _ _
        refine .block ?_; refine .seq ?_; refine .region ?_; refine mvd ?_; refine mvd ?_
        refine cl (xs := [.sl (L (digs p)), .sl (L (digs x))]) ?_ fd Tryz.call199
        refine mvt ?_; refine ex ?_; refine ex ?_; refine ex ?_; refine asd ?_; refine asd ?_; refine asd ?_; refine rn ?_; refine .region ?_; refine mvd ?_; refine mvd ?_; refine asd ?_; refine asd ?_; refine .nil ?_; refine AL.gh (Gh.keep [3, 5, 9, 10, 11] rfl) ?_
        have hlt := Nat.mod_lt p (Nat.pos_of_ne_zero hx)
        exact ih2 (x, p % x) ⟨g2, by show p % x < _; omega, by show Nat.gcd x (p % x) = _; rw [gcd_step, g3]⟩ hlt
    · rw [decide_eq_false (show ¬ (i:Int) < ((LL ls).length : Nat) by rw [LL_length]; omega)]
      refine cndf ?_; refine .gh (Gh.keep [3] rfl) ?_; refine .exit ?_
      have e1 : ls.take i = ls := List.take_of_length_le (by omega)
      show _ = _
      rw [e1]; rfl
  rintro _ _ rfl
  refine .seq ?_; refine .region ?_; refine mvd ?_; refine asd ?_; refine rn ?_; refine .ret ?_
  exact ⟨rfl, rfl⟩
end Go.FL
/-
  glyphref01: half, gcd (by halves and differences), Gcd.
-/
namespace Go.FL
open Go Go.Proofs

theorem u64_and1 (m : Nat) (h : m < 18446744073709551616) : bits .and .u64 (m : Int) 1 = ((m % 2 : Nat) : Int) := by
  have := bits_mask .u64 64 (by decide) wraps_u64 1 (by decide) (m : Int) (by omega) (by omega)
  rw [show (2 : Int) ^ 1 - 1 = 1 by decide] at this
  rw [this]; simp
theorem half_join {x y : Nat} (hx : x < 4294967296) : bits .or .u32 ((x / 2 : Nat) : Int) ((y % 2 * 2147483648 : Nat) : Int) = (((x + y * 4294967296) / 2 ^ 1 % 4294967296 : Nat) : Int) := by
  rw [bits_join_low .u32 32 (by decide) wraps_u32 31 _ _ (by omega) (by omega) (by omega) (by omega) (by omega) (by omega)]
  omega
theorem headD_drop (a : List Nat) (i : Nat) : (a.drop i).headD 0 = a.getD i 0 := by
  rw [List.headD_eq_head?_getD, List.head?_drop, List.getD_eq_getElem?_getD]
theorem half_fn {a : List Nat} (ha : Ok a) (hl : a.length ≤ 1000000) : Fn Tryz.prog 195 [.sl (L a)] (.own 121 (L (digs (val a / 2)))) := by
  obtain ⟨s1, s2⟩ := shR_val (n := 1) (by decide) a ha
  have s3 := shR_length 1 a
  refine Fn.of (rs := [.tmp 2]) (nt := 29) Tryz.func195 rfl rfl rfl (by simp) rfl ?_; refine .seq ?_; refine .region ?_; refine asn ?_; refine rn ?_; refine .seq ?_; refine .region ?_; refine asn ?_; refine rn ?_; refine .mid (fun e H' => e = [(3, .own 121 (L (shR 1 a)))] ∧ H' = []) ?_ ?_
  · refine .seq ?_
    refine .region ?_; refine asd ?_; refine rn ?_; refine .block ?_; refine .gh (Gh.nlOwn (t := 3) 121 z32p rfl) ?_
    refine .loop (.gh (Gh.keep [0, 3, 4] rfl) ?_)
    refine AL.ind (σ := Nat) (m := fun i => a.length - i) (e := fun i => [(0, .d (.sl (L a))), (3, .own 121 (L ((shR 1 a).take i))), (4, .d (.i .i64 (i : Int)))]) (h := fun _ => [])
      (I := fun i => i ≤ a.length) ?_ 0 (Nat.zero_le _)
    intro i h1 ih
    refine .seq ?_; refine .seq ?_; refine .region ?_; refine mvd ?_; refine mvd ?_
    refine ln ?_ (L_sz _) l32
    refine bi ?_; refine rn ?_
    by_cases hi : i < a.length
    · rw [decide_eq_true (show (i : Int) < ((L a).length : Nat) by rw [L_length]; omega)]
      have hx : a[i]? = some a[i] := List.getElem?_eq_getElem hi
      generalize a[i] = x at hx
      have hxl := ha.at hx
      have hyl := getD_lt ha (i + 1)
      have hsh := shR_at 1 a i x hx
      rw [headD_drop] at hsh
      have flm := limb_fn (a := a) ha (i := i + 1) (by omega)
      have htk : (shR 1 a).take (i + 1) = (shR 1 a).take i ++ [(x + a.getD (i + 1) 0 * 4294967296) / 2 ^ 1 % 4294967296] := by
        rw [List.take_add_one, hsh]; rfl
      generalize a.getD (i + 1) 0 = y at *
      have hout : ((shR 1 a).take i).length = i := by rw [List.length_take]; omega
      generalize (shR 1 a).take i = out at *
      have hj := half_join (x := x) (y := y) hxl
      generalize (x + y * 4294967296) / 2 ^ 1 % 4294967296 = z at *
      have hsz : ∀ d ∈ L [z], d.flat = true ∧ d.cells.length = 1 := by
        intro d hd
        simp only [L, List.map_cons, List.map_nil, List.mem_cons, List.not_mem_nil, or_false] at hd
        subst hd; exact ⟨rfl, rfl⟩
      refine cndt ?_; refine .skip ?_
      show AW _ _ _ _ _ _
      refine .seq ?_; refine .block ?_; refine .drawn 15 mixed (by kernel_rfl) ?_; refine dv vmvo ?_; refine dv vmvd ?_; refine dv vmvd ?_; refine dv (vix i rfl (L_at hx) rfl s32) ?_; refine dv (vldp a32) ?_; refine dv (vbie (.i .u32 ((x / 2 : Nat) : Int)) ?_) ?_
      · simp [IntKind.bits]
      refine dv vmvd ?_; refine dv vmvd ?_; refine dv (vad ((i + 1 : Nat) : Int) ?_) ?_
      · omega
      refine dv (v := .d (.i .u64 (y : Int))) (vcl (xs := [.sl (L a), .i .i64 ((i + 1 : Nat) : Int)]) flm Tryz.call200) ?_; refine dv (vbie (.i .u64 ((y % 2 : Nat) : Int)) ?_) ?_
      · exact ⟨trivial, by rw [u64_and1 y (by omega)]⟩
      refine dv (vcve ((y % 2 : Nat) : Int) (toU32 (by omega)) u64 u32) ?_; refine dv (vbie (.i .u32 ((y % 2 * 2147483648 : Nat) : Int)) ?_) ?_
      · refine ⟨by decide, ?_⟩
        have : IntKind.u32.wrap ((y % 2 * 2147483648 : Nat) : Int) = ((y % 2 * 2147483648 : Nat) : Int) := toU32 (by omega)
        rw [← this]; simp [IntKind.bits]
      refine dv (vbie (.i .u32 (z : Int)) ?_) ?_
      · exact ⟨trivial, by rw [hj]⟩
      refine dv (v := .d (.sl (L [z]))) (vbsl hsz e32).deep ?_; refine dz ?_
      refine apr ?_ ?_ (L_sz1 [z]) e32
      · simp [L_length]; omega
      refine aso ?_; refine .nil ?_
      show AW _ _ _ _ _ _
      refine .region ?_; refine mvd ?_; refine ad ((i + 1 : Nat) : Int) ?_ ?_
      · omega
      refine asd ?_; refine rn ?_; refine .gh (Gh.keep [0, 3, 4] rfl) ?_
      have := ih (i + 1) (by omega) (by omega)
      rw [htk, ← L_snoc] at this
      exact this
    · rw [decide_eq_false (show ¬ (i : Int) < ((L a).length : Nat) by rw [L_length]; omega)]
      refine cndf ?_; refine .gh (Gh.keep [3] rfl) ?_; refine .exit ?_
      have e1 : (shR 1 a).take i = shR 1 a := List.take_of_length_le (by omega)
      exact ⟨by rw [e1]; rfl, rfl⟩
  rintro _ _ ⟨rfl, rfl⟩
  refine .gh (Gh.frz (p := .t 3) rfl (fun _ _ h => by cases h)) ?_; refine .seq ?_; refine .region ?_; refine mvd ?_
  refine cl (xs := [.sl (L (shR 1 a))]) ?_ (refTrim_fn s2 (by omega)) Tryz.call117
  refine aso ?_; refine rn ?_; refine .ret ?_
  exact ⟨by rw [s1]; rfl, rfl⟩

theorem gcd_even {k y : Nat} (h : y % 2 = 1) : Nat.gcd (2 * k) y = Nat.gcd k y := by
  have hc : Nat.Coprime 2 y := by rw [Nat.coprime_iff_gcd_eq_one, Nat.gcd_rec, h]; decide
  exact hc.gcd_mul_left_cancel k
theorem gcd_halfL {x y : Nat} (hx : x % 2 = 0) (h : y % 2 = 1) : Nat.gcd (x / 2) y = Nat.gcd x y := by
  have := gcd_even (k := x / 2) h
  rw [show 2 * (x / 2) = x by omega] at this
  exact this.symm
theorem gcd_halfR {x y : Nat} (hx : x % 2 = 1) (h : y % 2 = 0) : Nat.gcd x (y / 2) = Nat.gcd x y := by
  rw [Nat.gcd_comm x, Nat.gcd_comm x]; exact gcd_halfL h hx
theorem gcd_subL {x y : Nat} (h : y ≤ x) : Nat.gcd (x - y) y = Nat.gcd x y := by
  have := Nat.gcd_sub_mul_right_left (m := y) (n := x) (k := 1) (by omega)
  rwa [Nat.one_mul] at this
theorem gcd_subR {x y : Nat} (h : x ≤ y) : Nat.gcd x (y - x) = Nat.gcd x y := by
  rw [Nat.gcd_comm x, Nat.gcd_comm x]; exact gcd_subL h
theorem gcd_end {x y : Nat} (h : x = 0 ∨ y = 0) : x + y = Nat.gcd x y := by
  rcases h with rfl | rfl <;> simp
theorem two_lim {x t M V : Nat} (h : x * 2 ^ t = V) (hx : 0 < x) (hV : V < 4294967296 ^ M) : t < 32 * M := by
  have h1 : 2 ^ t ≤ V := by rw [← h]; exact Nat.le_mul_of_pos_left _ hx
  have h2 : 2 ^ t < 2 ^ (32 * M) := by rw [Nat.pow_mul]; exact Nat.lt_of_le_of_lt h1 hV
  exact (Nat.pow_lt_pow_iff_right (by decide)).1 h2
theorem two_up {x t V : Nat} (h : x * 2 ^ t = V) (he : x % 2 = 0) : x / 2 * 2 ^ (t + 1) = V := by
  have : x = 2 * (x / 2) := by omega
  generalize x / 2 = k at *
  subst this
  rw [← h, Nat.pow_succ]; grind
theorem digs_head {x : Nat} (h : 0 < x) : (digs x)[0]? = some (x % 4294967296) := by
  rw [digs_pos (by omega)]; rfl
theorem par32 (x : Nat) : decide (((x % 4294967296 % 2 : Nat) : Int) = 0) = decide (x % 2 = 0) := by
  rw [show x % 4294967296 % 2 = x % 2 by omega]
  by_cases h : x % 2 = 0
  · rw [h]; rfl
  · rw [decide_eq_false h, decide_eq_false (by omega)]
theorem pos_ln {x : Nat} (h : 0 < x) : (0 : Int) < ((L (digs x)).length : Nat) := by
  have := digs_ne h
  rw [L_length]; omega
theorem cmp_ge {x y : Nat} : (0 : Int) ≤ cmpN x y ↔ y ≤ x := by
  unfold cmpN
  by_cases h1 : x < y
  · rw [if_pos h1]; omega
  · rw [if_neg h1]; split <;> omega
theorem minN_of {x y : Nat} (h : y ≤ x) : minN x y = x - y := by
  unfold minN; split <;> omega
theorem ref_gcd_fn {M : Nat} {a b : List Nat} (ha : Ok a) (hb : Ok b) (hla : a.length ≤ M) (hlb : b.length ≤ M) (hM : M ≤ 100000) : Fn Tryz.prog 118 [.sl (L a), .sl (L b)] (.d (.sl (L (digs (Nat.gcd (val a) (val b)))))) := by
  have hva : val a < 4294967296 ^ M := Nat.lt_of_lt_of_le (val_lt ha) (Nat.pow_le_pow_right (by decide) hla)
  have hvb : val b < 4294967296 ^ M := Nat.lt_of_lt_of_le (val_lt hb) (Nat.pow_le_pow_right (by decide) hlb)
  have hgl : Nat.gcd (val a) (val b) < 4294967296 ^ M := gcd_lt hva hvb
  have dl : ∀ {x : Nat}, x < 4294967296 ^ M → (digs x).length ≤ 100000 := fun h => Nat.le_trans (digs_len h) hM
  refine Fn.of (rs := [.tmp 4]) (nt := 90) Tryz.func118 rfl rfl rfl (by simp) rfl ?_; refine .seq ?_; refine .region ?_; refine asn ?_; refine rn ?_; refine .seq ?_; refine .region ?_; refine mvd ?_
  refine cl (xs := [.sl (L a)]) ?_ (refTrim_fn ha (by omega)) Tryz.call117
  refine mvd ?_
  refine cl (xs := [.sl (L b)]) ?_ (refTrim_fn hb (by omega)) Tryz.call117
  refine aso ?_; refine aso ?_; refine rn ?_; refine .gh (Gh.frz (p := .t 0) rfl (fun _ _ h => by cases h)) ?_; refine .gh (Gh.frz (p := .t 1) rfl (fun _ _ h => by cases h)) ?_; refine .seq ?_; refine .region ?_; refine asd ?_; refine rn ?_; refine .gh (Gh.keep [0, 1, 5] rfl) ?_; refine .mid (fun e H' => H' = [] ∧ ∃ x y t, x < 4294967296 ^ M ∧ y < 4294967296 ^ M ∧ t ≤ 32 * M ∧ x * 2 ^ t = val a ∧ y * 2 ^ t = val b ∧ (x = 0 ∨ y = 0 ∨ x % 2 = 1 ∨ y % 2 = 1) ∧ e = [(0, .d (.sl (L (digs x)))), (1, .d (.sl (L (digs y)))), (5, .d (.i .i64 (t : Int)))]) ?_ ?_
  · refine .block ?_
    refine .loop ?_
    refine AL.ind (σ := Nat × Nat × Nat) (m := fun s => s.1) (e := fun s => [(0, .d (.sl (L (digs s.1)))), (1, .d (.sl (L (digs s.2.1)))), (5, .d (.i .i64 (s.2.2 : Int)))]) (h := fun _ => [])
      (I := fun s => s.1 < 4294967296 ^ M ∧ s.2.1 < 4294967296 ^ M ∧ s.2.2 ≤ 32 * M ∧ s.1 * 2 ^ s.2.2 = val a ∧ s.2.1 * 2 ^ s.2.2 = val b) ?_ (val a, val b, 0) ⟨hva, hvb, Nat.zero_le _, by simp, by simp⟩
    rintro ⟨x, y, t⟩ ⟨h1, h2, h3, h4, h5⟩ ih
    dsimp only at h1 h2 h3 h4 h5 ih ⊢
    refine .mid (fun e H' => H' = [] ∧ 0 < x ∧ 0 < y ∧ x % 2 = 0 ∧ y % 2 = 0 ∧ e = [(0, .d (.sl (L (digs x)))), (1, .d (.sl (L (digs y)))), (5, .d (.i .i64 (t : Int)))]) ?_ ?_
    · refine .seq ?_
      refine .region ?_; refine mvd ?_
      refine ln ?_ (L_sz _) l32
      refine bi ?_; refine mvd ?_
      by_cases hx : x = 0
      · rw [hx, decide_eq_false (show ¬ (0 : Int) < ((L (digs 0)).length : Nat) by rw [digs_zero]; decide)]
        refine gf ?_; refine gf ?_; refine gf ?_; refine pkd ?_; refine mvd ?_; refine gf ?_; refine gf ?_; refine gf ?_; refine gf ?_; refine gf ?_; refine pkd ?_; refine mvd ?_; refine gf ?_; refine gf ?_; refine gf ?_; refine gf ?_; refine gf ?_; refine pkd ?_; refine rn ?_; refine cndf ?_; refine .gh (Gh.keep [0, 1, 5] rfl) ?_; refine .exit ?_
        subst hx
        exact ⟨rfl, 0, y, t, h1, h2, h3, h4, h5, .inl rfl, rfl⟩
      rw [decide_eq_true (pos_ln (show 0 < x by omega))]
      refine mvd ?_
      refine ln ?_ (L_sz _) l32
      refine bi ?_
      by_cases hy : y = 0
      · rw [hy, decide_eq_false (show ¬ (0 : Int) < ((L (digs 0)).length : Nat) by rw [digs_zero]; decide)]
        refine pkd ?_; refine mvd ?_; refine gf ?_; refine gf ?_; refine gf ?_; refine gf ?_; refine gf ?_; refine pkd ?_; refine mvd ?_; refine gf ?_; refine gf ?_; refine gf ?_; refine gf ?_; refine gf ?_; refine pkd ?_; refine rn ?_; refine cndf ?_; refine .gh (Gh.keep [0, 1, 5] rfl) ?_; refine .exit ?_
        subst hy
        exact ⟨rfl, x, 0, t, h1, h2, h3, h4, h5, .inr (.inl rfl), rfl⟩
      rw [decide_eq_true (pos_ln (show 0 < y by omega))]
      refine pkd ?_; refine mvd ?_; refine mvd ?_
      refine ix 0 ?_ rfl (L_at (digs_head (show 0 < x by omega))) rfl s32
      refine ldp ?_ a32
      refine bie (.i .u32 ((x % 4294967296 % 2 : Nat) : Int)) ?_ ?_
      · exact ⟨trivial, by rw [u32_and1 _ (Nat.mod_lt _ (by decide))]⟩
      refine bi ?_
      rw [par32]
      by_cases hx2 : x % 2 = 0
      · rw [decide_eq_true hx2]
        refine pkd ?_; refine mvd ?_; refine mvd ?_
        refine ix 0 ?_ rfl (L_at (digs_head (show 0 < y by omega))) rfl s32
        refine ldp ?_ a32
        refine bie (.i .u32 ((y % 4294967296 % 2 : Nat) : Int)) ?_ ?_
        · exact ⟨trivial, by rw [u32_and1 _ (Nat.mod_lt _ (by decide))]⟩
        refine bi ?_
        rw [par32]
        by_cases hy2 : y % 2 = 0
        · rw [decide_eq_true hy2]
          refine pkd ?_; refine rn ?_; refine cndt ?_; refine .gh (Gh.keep [0, 1, 5] rfl) ?_; refine .skip ?_
          exact ⟨rfl, by omega, by omega, hx2, hy2, rfl⟩
        · rw [decide_eq_false hy2]
          refine pkd ?_; refine rn ?_; refine cndf ?_; refine .gh (Gh.keep [0, 1, 5] rfl) ?_; refine .exit ?_
          exact ⟨rfl, x, y, t, h1, h2, h3, h4, h5, .inr (.inr (.inr (by omega))), rfl⟩
      · rw [decide_eq_false hx2]
        refine pkd ?_; refine mvd ?_; refine gf ?_; refine gf ?_; refine gf ?_; refine gf ?_; refine gf ?_; refine pkd ?_; refine rn ?_; refine cndf ?_; refine .gh (Gh.keep [0, 1, 5] rfl) ?_; refine .exit ?_
        exact ⟨rfl, x, y, t, h1, h2, h3, h4, h5, .inr (.inr (.inl (by omega))), rfl⟩
    rintro _ _ ⟨rfl, hx, hy, hx2, hy2, rfl⟩
    have hlim := two_lim h4 hx hva
    have f1 := half_fn (a := digs x) (digs_ok x) (Nat.le_trans (dl h1) (by decide))
    have f2 := half_fn (a := digs y) (digs_ok y) (Nat.le_trans (dl h2) (by decide))
    rw [val_digs] at f1 f2
    refine .block ?_; refine .seq ?_; refine .region ?_; refine mvd ?_
    refine cl (xs := [.sl (L (digs x))]) ?_ f1 Tryz.call195
    refine mvd ?_
    refine cl (xs := [.sl (L (digs y))]) ?_ f2 Tryz.call195
    refine aso ?_; refine aso ?_; refine rn ?_; refine .gh (Gh.frz (p := .t 0) rfl (fun _ _ h => by cases h)) ?_; refine .gh (Gh.frz (p := .t 1) rfl (fun _ _ h => by cases h)) ?_; refine .gh (Gh.keep [0, 1, 5] rfl) ?_; refine .region ?_; refine mvd ?_; refine ad ((t + 1 : Nat) : Int) ?_ ?_
    · omega
    refine asd ?_; refine .nil ?_; refine AL.gh (Gh.keep [0, 1, 5] rfl) ?_
    exact ih (x / 2, y / 2, t + 1) ⟨by dsimp only; omega, by dsimp only; omega, by dsimp only; omega, two_up h4 hx2, two_up h5 hy2⟩ (by dsimp only; omega)
  rintro _ _ ⟨rfl, x0, y0, t, h1, h2, h3, h4, h5, h6, rfl⟩
  have hG : Nat.gcd x0 y0 * 2 ^ t = Nat.gcd (val a) (val b) := by rw [← h4, ← h5, Nat.gcd_mul_right]
  rw [← hG] at hgl ⊢
  have htl : 32 * M ≤ 3200000 := by omega
  clear h4 h5 hG
  refine .mid (fun e H' => H' = [] ∧ ∃ x y, x < 4294967296 ^ M ∧ y < 4294967296 ^ M ∧ x + y = Nat.gcd x0 y0 ∧ e = [(0, .d (.sl (L (digs x)))), (1, .d (.sl (L (digs y)))), (5, .d (.i .i64 (t : Int)))]) ?_ ?_
  · refine .block ?_
    refine .loop ?_
    refine AL.ind (σ := Nat × Nat) (m := fun s => s.1 + s.2) (e := fun s => [(0, .d (.sl (L (digs s.1)))), (1, .d (.sl (L (digs s.2)))), (5, .d (.i .i64 (t : Int)))]) (h := fun _ => [])
      (I := fun s => s.1 < 4294967296 ^ M ∧ s.2 < 4294967296 ^ M ∧ Nat.gcd s.1 s.2 = Nat.gcd x0 y0 ∧ (s.1 = 0 ∨ s.2 = 0 ∨ s.1 % 2 = 1 ∨ s.2 % 2 = 1)) ?_ (x0, y0) ⟨h1, h2, rfl, h6⟩
    rintro ⟨x, y⟩ ⟨g1, g2, g3, g4⟩ ih
    dsimp only at g1 g2 g3 g4 ih ⊢
    refine .mid (fun e H' => H' = [] ∧ 0 < x ∧ 0 < y ∧ e = [(0, .d (.sl (L (digs x)))), (1, .d (.sl (L (digs y)))), (5, .d (.i .i64 (t : Int)))]) ?_ ?_
    · refine .seq ?_
      refine .region ?_; refine mvd ?_
      refine ln ?_ (L_sz _) l32
      refine bi ?_; refine mvd ?_
      by_cases hx : x = 0
      · rw [hx, decide_eq_false (show ¬ (0 : Int) < ((L (digs 0)).length : Nat) by rw [digs_zero]; decide)]
        refine gf ?_; refine gf ?_; refine gf ?_; refine pkd ?_; refine rn ?_; refine cndf ?_; refine .gh (Gh.keep [0, 1, 5] rfl) ?_; refine .exit ?_
        subst hx
        exact ⟨rfl, 0, y, g1, g2, by rw [gcd_end (.inl rfl), g3], rfl⟩
      rw [decide_eq_true (pos_ln (show 0 < x by omega))]
      refine mvd ?_
      refine ln ?_ (L_sz _) l32
      refine bi ?_
      by_cases hy : y = 0
      · rw [hy, decide_eq_false (show ¬ (0 : Int) < ((L (digs 0)).length : Nat) by rw [digs_zero]; decide)]
        refine pkd ?_; refine rn ?_; refine cndf ?_; refine .gh (Gh.keep [0, 1, 5] rfl) ?_; refine .exit ?_
        subst hy
        exact ⟨rfl, x, 0, g1, g2, by rw [gcd_end (.inr rfl), g3], rfl⟩
      rw [decide_eq_true (pos_ln (show 0 < y by omega))]
      refine pkd ?_; refine rn ?_; refine cndt ?_; refine .gh (Gh.keep [0, 1, 5] rfl) ?_; refine .skip ?_
      exact ⟨rfl, by omega, by omega, rfl⟩
    rintro _ _ ⟨rfl, hx, hy, rfl⟩
    refine .block ?_; refine .block ?_; refine .seq ?_; refine .region ?_; refine mvd ?_
    refine ix 0 ?_ rfl (L_at (digs_head hx)) rfl s32
    refine ldp ?_ a32
    refine bie (.i .u32 ((x % 4294967296 % 2 : Nat) : Int)) ?_ ?_
    · exact ⟨trivial, by rw [u32_and1 _ (Nat.mod_lt _ (by decide))]⟩
    refine bi ?_; refine asd ?_; refine rn ?_
    rw [par32]
    by_cases hx2 : x % 2 = 0
    · rw [decide_eq_true hx2]
      have f1 := half_fn (a := digs x) (digs_ok x) (Nat.le_trans (dl g1) (by decide))
      rw [val_digs] at f1
      refine cndt ?_; refine .gh (Gh.keep [0, 1, 5] rfl) ?_; refine .region ?_; refine mvd ?_
      refine cl (xs := [.sl (L (digs x))]) ?_ f1 Tryz.call195
      refine aso ?_; refine RL.gh (Gh.frz (p := .t 0) rfl (fun _ _ h => by cases h)) ?_; refine .nil ?_; refine AL.gh (Gh.keep [0, 1, 5] rfl) ?_
      exact ih (x / 2, y) ⟨by dsimp only; omega, g2, by dsimp only; rw [← g3]; exact gcd_halfL hx2 (by omega), .inr (.inr (.inr (by dsimp only; omega)))⟩ (by dsimp only; omega)
    rw [decide_eq_false hx2]
    refine cndf ?_; refine .gh (Gh.keep [0, 1, 5] rfl) ?_; refine .seq ?_; refine .region ?_; refine mvd ?_
    refine ix 0 ?_ rfl (L_at (digs_head hy)) rfl s32
    refine ldp ?_ a32
    refine bie (.i .u32 ((y % 4294967296 % 2 : Nat) : Int)) ?_ ?_
    · exact ⟨trivial, by rw [u32_and1 _ (Nat.mod_lt _ (by decide))]⟩
    refine bi ?_; refine asd ?_; refine rn ?_
    rw [par32]
    by_cases hy2 : y % 2 = 0
    · rw [decide_eq_true hy2]
      have f1 := half_fn (a := digs y) (digs_ok y) (Nat.le_trans (dl g2) (by decide))
      rw [val_digs] at f1
      refine cndt ?_; refine .gh (Gh.keep [0, 1, 5] rfl) ?_; refine .region ?_; refine mvd ?_
      refine cl (xs := [.sl (L (digs y))]) ?_ f1 Tryz.call195
      refine aso ?_; refine RL.gh (Gh.frz (p := .t 1) rfl (fun _ _ h => by cases h)) ?_; refine .nil ?_; refine AL.gh (Gh.keep [0, 1, 5] rfl) ?_
      exact ih (x, y / 2) ⟨g1, by dsimp only; omega, by dsimp only; rw [← g3]; exact gcd_halfR (by omega) hy2, .inr (.inr (.inl (by dsimp only; omega)))⟩ (by dsimp only; omega)
    rw [decide_eq_false hy2]
    have fc := refCompare_fn (a := digs x) (b := digs y) (digs_ok x) (digs_ok y) (Nat.le_trans (dl g1) (by decide)) (Nat.le_trans (dl g2) (by decide))
    rw [val_digs, val_digs] at fc
    refine cndf ?_; refine .gh (Gh.keep [0, 1, 5] rfl) ?_; refine .seq ?_; refine .region ?_; refine mvd ?_; refine mvd ?_
    refine cl (xs := [.sl (L (digs x)), .sl (L (digs y))]) ?_ fc Tryz.call42
    refine bi ?_; refine asd ?_; refine rn ?_
    by_cases hle : y ≤ x
    · rw [decide_eq_true (cmp_ge.2 hle)]
      have fm := refMinus_fn (a := digs x) (b := digs y) (digs_ok x) (digs_ok y) (Nat.le_trans (dl g1) (by decide)) (Nat.le_trans (dl g2) (by decide))
      rw [val_digs, val_digs, minN_of hle] at fm
      refine cndt ?_; refine .gh (Gh.keep [0, 1, 5] rfl) ?_; refine .region ?_; refine mvd ?_; refine mvd ?_
      refine cl (xs := [.sl (L (digs x)), .sl (L (digs y))]) ?_ fm Tryz.call156
      refine mvt ?_; refine ex ?_; refine ex ?_; refine asd ?_; refine .nil ?_; refine AL.gh (Gh.keep [0, 1, 5] rfl) ?_
      exact ih (x - y, y) ⟨by dsimp only; omega, g2, by dsimp only; rw [← g3]; exact gcd_subL hle, .inr (.inr (.inr (by dsimp only; omega)))⟩ (by dsimp only; omega)
    · rw [decide_eq_false (fun h => hle (cmp_ge.1 h))]
      have fm := refMinus_fn (a := digs y) (b := digs x) (digs_ok y) (digs_ok x) (Nat.le_trans (dl g2) (by decide)) (Nat.le_trans (dl g1) (by decide))
      rw [val_digs, val_digs, minN_of (show x ≤ y by omega)] at fm
      refine cndf ?_; refine .gh (Gh.keep [0, 1, 5] rfl) ?_; refine .region ?_; refine mvd ?_; refine mvd ?_
      refine cl (xs := [.sl (L (digs y)), .sl (L (digs x))]) ?_ fm Tryz.call156
      refine mvt ?_; refine ex ?_; refine ex ?_; refine asd ?_; refine .nil ?_; refine AL.gh (Gh.keep [0, 1, 5] rfl) ?_
      exact ih (x, y - x) ⟨g1, by dsimp only; omega, by dsimp only; rw [← g3]; exact gcd_subR (by omega), .inr (.inr (.inl (by dsimp only; omega)))⟩ (by dsimp only; omega)
  rintro _ _ ⟨rfl, x, y, k1, k2, k3, rfl⟩
  have fa := Add_fn (a := digs x) (b := digs y) (digs_ok x) (digs_ok y) (Nat.le_trans (dl k1) (by decide)) (Nat.le_trans (dl k2) (by decide))
  rw [val_digs, val_digs, k3] at fa
  refine .seq ?_; refine .region ?_; refine mvd ?_; refine mvd ?_
  refine cl (xs := [.sl (L (digs x)), .sl (L (digs y))]) ?_ fa Tryz.call128
  refine aso ?_; refine rn ?_; refine .gh (Gh.frz (p := .t 6) rfl (fun _ _ h => by cases h)) ?_; refine .gh (Gh.keep [5, 6] rfl) ?_
  generalize Nat.gcd x0 y0 = G at *
  refine .mid (fun e H' => e = [(6, .d (.sl (L (digs (G * 2 ^ t)))))]) ?_ ?_
  · refine .block ?_
    refine .loop ?_
    refine AL.ind (σ := Nat × Nat) (m := fun s => s.1) (e := fun s => [(5, .d (.i .i64 (s.1 : Int))), (6, .d (.sl (L (digs s.2))))]) (h := fun _ => [])
      (I := fun s => s.1 ≤ 3200000 ∧ s.2 * 2 ^ s.1 = G * 2 ^ t) ?_ (t, G) ⟨by dsimp only; omega, rfl⟩
    rintro ⟨s, g⟩ ⟨g1, g2⟩ ih
    dsimp only at g1 g2 ih ⊢
    have hgv : g < 4294967296 ^ M := by
      have : g ≤ g * 2 ^ s := Nat.le_mul_of_pos_right _ (Nat.pow_pos (by decide))
      omega
    refine .seq ?_; refine .seq ?_; refine .region ?_; refine mvd ?_; refine bi ?_; refine rn ?_
    cases s with
    | zero =>
      refine cndf ?_; refine .gh (Gh.keep [6] rfl) ?_; refine .exit ?_
      rw [← g2, Nat.pow_zero, Nat.mul_one]; rfl
    | succ s =>
      have ft := twice_fn (a := digs g) (c0 := 0) (digs_ok g) (Nat.le_trans (dl hgv) (by decide)) (by decide)
      rw [val_digs, Nat.add_zero] at ft
      rw [decide_eq_true (show (0 : Int) < ((s + 1 : Nat) : Int) by omega)]
      refine cndt ?_; refine .skip ?_
      show AW _ _ _ _ _ _
      refine .seq ?_; refine .block ?_; refine .region ?_; refine mvd ?_
      refine cl (xs := [.sl (L (digs g)), .i .u32 ((0 : Nat) : Int)]) ?_ ft Tryz.call196
      refine aso ?_; refine RL.gh (Gh.frz (p := .t 6) rfl (fun _ _ h => by cases h)) ?_; refine .nil ?_
      show AW _ _ _ _ _ _
      refine .region ?_; refine mvd ?_; refine su (s : Int) ?_ ?_
      · omega
      refine asd ?_; refine rn ?_; refine .gh (Gh.keep [5, 6] rfl) ?_
      exact ih (s, 2 * g) ⟨by dsimp only; omega, by dsimp only; rw [← g2, Nat.pow_succ]; grind⟩ (by dsimp only; omega)
  rintro _ _ rfl
  refine .seq ?_; refine .region ?_; refine mvd ?_; refine asd ?_; refine rn ?_; refine .ret ?_
  exact ⟨rfl, rfl⟩
end Go.FL
/-
  glyphref01.Gcd.
-/
namespace Go.FL
open Go Go.Proofs

theorem refGcd_fn {M : Nat} {ls : List (List Nat)} (h : ∀ a ∈ ls, Ok a) (hM : ∀ a ∈ ls, a.length ≤ M) (hl : ls.length ≤ 1000) (hM2 : M ≤ 100000) : Fn Tryz.prog 43 [.sl (LL ls)] (.d (.sl (L (digs (gcdF ls))))) := by
  have hv : ∀ a ∈ ls, val a < 4294967296 ^ M := fun a ha => Nat.lt_of_lt_of_le (val_lt (h a ha)) (Nat.pow_le_pow_right (by decide) (hM a ha))
  have hP : 0 < 4294967296 ^ M := Nat.pow_pos (by decide)
  refine Fn.of (rs := [.tmp 2]) (nt := 18) Tryz.func43 rfl rfl rfl (by simp) rfl ?_; refine .seq ?_; refine .region ?_; refine asn ?_; refine rn ?_; refine .seq ?_; refine .region ?_; refine asn ?_; refine rn ?_; refine .mid (fun e H' => e = [(3, .d (.sl (L (digs (gcdF ls)))))]) ?_ ?_
  · refine .seq ?_
    refine .region ?_; refine asd ?_; refine rn ?_; refine .block ?_; refine .gh (Gh.nlD (t := 3) rfl) ?_
    refine .loop (.gh (Gh.keep [0, 3, 4] rfl) ?_)
    refine AL.cast (env' := [(0, .d (.sl (LL ls))), (3, .d (.sl (L (digs (gcdF (ls.take 0)))))), (4, .d (.i .i64 ((0 : Nat) : Int)))]) (by rw [List.take_zero]; show _ = [(0, AV.d (.sl (LL ls))), (3, AV.d (.sl (L (digs 0)))), _]; rw [digs_zero]; rfl) ?_
    refine AL.ind (σ := Nat) (m := fun i => ls.length - i) (e := fun i => [(0, .d (.sl (LL ls))), (3, .d (.sl (L (digs (gcdF (ls.take i)))))), (4, .d (.i .i64 (i : Int)))]) (h := fun _ => [])
      (I := fun i => i ≤ ls.length ∧ gcdF (ls.take i) < 4294967296 ^ M) ?_ 0 ⟨Nat.zero_le _, by rw [List.take_zero]; exact hP⟩
    rintro i ⟨h1, h2⟩ ih
    refine .seq ?_; refine .seq ?_; refine .region ?_; refine mvd ?_; refine mvd ?_
    refine ln ?_ (LL_sz _) l2
    refine bi ?_; refine rn ?_
    by_cases hi : i < ls.length
    · rw [decide_eq_true (show (i:Int) < ((LL ls).length : Nat) by rw [LL_length]; omega)]
      have hy : ls[i]? = some ls[i] := List.getElem?_eq_getElem hi
      have htk : ls.take (i + 1) = ls.take i ++ [ls[i]] := List.take_succ_eq_append_getElem hi
      generalize ls[i] = y at hy htk
      have hyo := h y (List.mem_of_getElem? hy)
      have hyl := hM y (List.mem_of_getElem? hy)
      have hyv := hv y (List.mem_of_getElem? hy)
      have hst : gcdF (ls.take (i + 1)) = Nat.gcd (gcdF (ls.take i)) (val y) := by rw [htk, gcdF_snoc]
      generalize gcdF (ls.take i) = g at *
      have fg := ref_gcd_fn (M := M) (a := digs g) (b := y) (digs_ok g) hyo (digs_len h2) hyl hM2
      rw [val_digs, ← hst] at fg
      refine cndt ?_; refine .skip ?_
      show AW _ _ _ _ _ _
      refine .seq ?_; refine .block ?_; refine .region ?_; refine mvd ?_; refine mvd ?_; refine mvd ?_
      refine ix i ?_ rfl (LL_at hy) rfl s2
      refine ldp ?_ a2
      refine cl (xs := [.sl (L (digs g)), .sl (L y)]) ?_ fg Tryz.call118
      refine asd ?_; refine .nil ?_
      show AW _ _ _ _ _ _
      refine .region ?_; refine mvd ?_; refine ad ((i + 1 : Nat) : Int) ?_ ?_
      · omega
      refine asd ?_; refine rn ?_; refine .gh (Gh.keep [0, 3, 4] rfl) ?_
      exact ih (i + 1) ⟨by omega, by rw [hst]; exact gcd_lt h2 hyv⟩ (by omega)
    · rw [decide_eq_false (show ¬ (i:Int) < ((LL ls).length : Nat) by rw [LL_length]; omega)]
      refine cndf ?_; refine .gh (Gh.keep [3] rfl) ?_; refine .exit ?_
      have e1 : ls.take i = ls := List.take_of_length_le (by omega)
      show _ = _
      rw [e1]; rfl
  rintro _ _ rfl
  refine .seq ?_; refine .region ?_; refine mvd ?_; refine asd ?_; refine rn ?_; refine .ret ?_
  exact ⟨rfl, rfl⟩
end Go.FL
/-
  Types of the layer rat: numbers as structs.
-/
namespace Go.FL
open Go Go.Proofs

abbrev Rv (b : Bool) (n d : List Nat) : DV := .ag [.b b, .sl (L n), .sl (L d)]
abbrev Nv (b : Bool) (n d : List Nat) : DV := .ag [.sl (L n), .sl (L d), .b b]
abbrev Zv (n d : List Nat) : DV := .ag [.sl (L n), .sl (L d)]
theorem fR0 : fieldT Tryz.prog 32 0 = some (0, 1) := by kernel_rfl
theorem fR1 : fieldT Tryz.prog 32 1 = some (1, 1) := by kernel_rfl
theorem fR2 : fieldT Tryz.prog 32 2 = some (2, 1) := by kernel_rfl
theorem fN0 : fieldT Tryz.prog 157 0 = some (0, 2) := by kernel_rfl
theorem fN1 : fieldT Tryz.prog 157 1 = some (2, 1) := by kernel_rfl
theorem fZ0 : fieldT Tryz.prog 155 0 = some (0, 1) := by kernel_rfl
theorem fZ1 : fieldT Tryz.prog 155 1 = some (1, 1) := by kernel_rfl
theorem aR : aggT Tryz.prog 32 = some true := by kernel_rfl
theorem aN : aggT Tryz.prog 157 = some true := by kernel_rfl
theorem aZ : aggT Tryz.prog 155 = some true := by kernel_rfl
theorem sR : szOf Tryz.prog 32 = 3 := by kernel_rfl
theorem sN : szOf Tryz.prog 157 = 3 := by kernel_rfl
theorem sZ : szOf Tryz.prog 155 = 2 := by kernel_rfl
theorem pR : structT Tryz.prog 32 = some [(0, 1), (1, 1), (2, 1)] := by kernel_rfl
theorem pN : structT Tryz.prog 157 = some [(0, 2), (2, 1)] := by kernel_rfl
theorem pZ : structT Tryz.prog 155 = some [(0, 1), (1, 1)] := by kernel_rfl
theorem iR : (Tryz.prog.info? 32).bind (·.zero) = some (.agg #[.bool false, .slice none 0 0, .slice none 0 0]) := by kernel_rfl
theorem iN : (Tryz.prog.info? 157).bind (·.zero) = some (.agg #[.slice none 0 0, .slice none 0 0, .bool false]) := by kernel_rfl
theorem iZ : (Tryz.prog.info? 155).bind (·.zero) = some (.agg #[.slice none 0 0, .slice none 0 0]) := by kernel_rfl
theorem zero_of {P : Program} {t : TypeId} {z : Value} (h : (P.info? t).bind (·.zero) = some z) (w : World) : (zeroValue t).run P w = .ok z w := by
  cases hi : P.info? t with
  | none => rw [hi] at h; cases h
  | some i =>
    rw [hi] at h
    simp only [Option.bind_some] at h
    simp [zeroValue, typeInfo, hi, h]
theorem rR (w : World) (I : Nat → Prop) : RepAll w I [.b false, .sl [], .sl []] (Value.agg #[.bool false, .slice none 0 0, .slice none 0 0]).cells.toList := .cons (.b _) (.cons (.sl0 _ _) (.cons (.sl0 _ _) .nil))
theorem rN (w : World) (I : Nat → Prop) : RepAll w I [.sl [], .sl [], .b false] (Value.agg #[.slice none 0 0, .slice none 0 0, .bool false]).cells.toList := .cons (.sl0 _ _) (.cons (.sl0 _ _) (.cons (.b _) .nil))
theorem rZ (w : World) (I : Nat → Prop) : RepAll w I [.sl [], .sl []] (Value.agg #[.slice none 0 0, .slice none 0 0]).cells.toList := .cons (.sl0 _ _) (.cons (.sl0 _ _) .nil)
theorem aB : aggT Tryz.prog 4 = some false := by kernel_rfl
theorem aS : aggT Tryz.prog 30 = some false := by kernel_rfl
end Go.FL
/-
  rat: one, of, cross, lowest, Make.
-/
namespace Go.FL
open Go Go.Proofs

theorem LL_flat (ls : List (List Nat)) : ∀ d ∈ LL ls, d.flat = true ∧ d.cells.length = 1 := by
  intro d hd
  simp only [LL, List.mem_map] at hd
  obtain ⟨n, _, rfl⟩ := hd
  exact ⟨rfl, rfl⟩
theorem noBpL_d : ∀ vs : List DV, noBpL (vs.map .d) = true
  | [] => rfl
  | v :: vs => by simp only [List.map_cons, noBpL, noBp, noBpL_d vs, Bool.and_self]
theorem noBp_d (vs : List DV) : noBp (.tup (vs.map .d)) = true := by simp only [noBp, noBpL_d vs]
theorem one_fn : Fn Tryz.prog 121 [] (.own 121 (L [1])) := by
  refine Fn.of (rs := [.tmp 0]) (nt := 2) Tryz.func121 rfl rfl rfl (by simp) rfl ?_; refine .seq ?_; refine .region ?_; refine asn ?_; refine rn ?_; refine .seq ?_; refine .region ?_
  refine bsl ?_ ?_ e32
  · simp [DV.flat, DV.cells, DV.leaf]
  refine aso ?_; refine rn ?_; refine .ret ?_
  exact ⟨rfl, rfl⟩

theorem of_fn (b : Bool) (n d : List Nat) : Fn Tryz.prog 168 [Rv b n d] (.d (Nv b n d)) := by
  refine Fn.ofC (rs := [.cell 2 157]) (nt := 11) Tryz.func168 rfl rfl rfl (by simp) rfl ?_; refine .seq ?_; refine .region ?_; refine vk vbx ?_; refine vk (van (zero_of iN) rN) ?_; refine rn ?_; refine .seq ?_; refine .region ?_; refine vk (vfa fR1) ?_
  refine ldp ?_ aS
  refine vk (vfa fR2) ?_
  refine ldp ?_ aS
  refine vk (vbd pZ iZ rZ) ?_; refine vk (vfa fR0) ?_
  refine ldp ?_ aB
  refine vk (vbd pN iN rN) ?_
  refine stn ?_ sN (by decide)
  refine rn ?_; refine .ret ?_
  exact ⟨_, ⟨.inr rfl, aN, sN, (by decide : (0 : Nat) < 3)⟩, rfl⟩

theorem cross_fn {n d m e : List Nat} (hn : Ok n) (he : Ok e) (hln : n.length ≤ 4000) (hle : e.length ≤ 4000) : Fn Tryz.prog 239 [Zv n d, Zv m e] (.d (.sl (L (digs (val n * val e))))) := by
  have p1 := prods_fn (M := 4000) (ls := [n, e]) (by simp [hn, he]) (by simp [hln, hle]) (by simp) (by decide)
  rw [show prodF [n, e] 1 = val n * val e by show 1 * val n * val e = _; rw [Nat.one_mul]] at p1
  refine Fn.of (rs := [.tmp 4]) (nt := 11) Tryz.func239 rfl rfl rfl (by simp) rfl ?_; refine .seq ?_; refine .region ?_; refine vk vbx ?_; refine vk vbx ?_; refine asn ?_; refine rn ?_; refine .seq ?_; refine .region ?_; refine vk (vfa fZ0) ?_
  refine ldp ?_ aS
  refine vk (vfa fZ1) ?_
  refine ldp ?_ aS
  refine bsl ?_ ?_ e2
  · simp [DV.flat, DV.cells, DV.leaf]
  refine fz (p := .t 9) ?_
  refine cl (xs := [.sl (LL [n, e])]) ?_ p1 Tryz.call166
  refine asd ?_; refine rn ?_; refine .ret ?_
  exact ⟨rfl, rfl⟩

def lowN (b : Bool) (n d : Nat) : List DV :=
  if Nat.gcd n d = 0 then [Rv false [] [], .i .i64 22]
  else if 32 < (digs (n / Nat.gcd n d)).length ∨ 32 < (digs (d / Nat.gcd n d)).length then [Rv false [] [], .i .i64 8]
  else [Rv (b && decide (n / Nat.gcd n d ≠ 0)) (digs (n / Nat.gcd n d)) (digs (d / Nat.gcd n d)), .i .i64 0]
theorem pos_digs {n : Nat} : decide ((0 : Int) < ((L (digs n)).length : Nat)) = decide (n ≠ 0) := by
  by_cases h : n = 0
  · subst h; rw [digs_zero]; rfl
  · have := digs_ne (m := n) (by omega)
    rw [decide_eq_true h, decide_eq_true (by rw [L_length]; omega)]

theorem lowest_fn {M : Nat} {b : Bool} {n d : List Nat} (hn : Ok n) (hd : Ok d) (hln : n.length ≤ M) (hld : d.length ≤ M) (hM : M ≤ 100000) : Fn Tryz.prog 170 [Nv b n d] (.tup ((lowN b (val n) (val d)).map .d)) := by
  have g1 := Gcd_fn (M := M) (ls := [n, d]) (by simp [hn, hd]) (by simp [hln, hld]) (by simp) (by omega)
  rw [show gcdF [n, d] = Nat.gcd (val n) (val d) by show Nat.gcd (Nat.gcd 0 (val n)) (val d) = _; rw [Nat.gcd_zero_left]] at g1
  have lg : (digs (Nat.gcd (val n) (val d))).length ≤ M := digs_len (gcd_lt (Nat.lt_of_lt_of_le (val_lt hn) (Nat.pow_le_pow_right (by decide) hln)) (Nat.lt_of_lt_of_le (val_lt hd) (Nat.pow_le_pow_right (by decide) hld)))
  unfold lowN
  generalize Nat.gcd (val n) (val d) = g at *
  have d1 := DivMod_fn (a := n) (b := digs g) hn (digs_ok g) (by omega) (by omega)
  have d2 := DivMod_fn (a := d) (b := digs g) hd (digs_ok g) (by omega) (by omega)
  rw [val_digs] at d1 d2
  generalize remN (val n) g = r1 at *
  generalize remN (val d) g = r2 at *
  generalize val n / g = x at *
  generalize val d / g = y at *
  refine Fn.ofC (rs := [.cell 2 32, .tmp 3]) (nt := 61) Tryz.func170 rfl rfl rfl (by simp) (noBp_d _) ?_; refine .seq ?_; refine .region ?_; refine vk vbx ?_; refine vk (van (zero_of iR) rR) ?_; refine asd ?_; refine rn ?_; refine .seq ?_; refine .region ?_; refine vk (vfa fN0) ?_; refine vk (vfa fZ0) ?_
  refine ldp ?_ aS
  refine vk (vfa fN0) ?_; refine vk (vfa fZ1) ?_
  refine ldp ?_ aS
  refine bsl ?_ ?_ e2
  · simp [DV.flat, DV.cells, DV.leaf]
  refine fz (p := .t 17) ?_
  refine cl (xs := [.sl (LL [n, d])]) ?_ g1 Tryz.call120
  refine asd ?_; refine rn ?_; refine .gh (Gh.keep [1, 2, 3, 4] rfl) ?_; refine .seq ?_; refine .region ?_; refine vk (vfa fN0) ?_; refine vk (vfa fZ0) ?_
  refine ldp ?_ aS
  refine mvd ?_
  refine cl (xs := [.sl (L n), .sl (L (digs g))]) ?_ d1 Tryz.call199
  refine mvt ?_; refine ex ?_; refine ex ?_; refine ex ?_; refine asd ?_; refine asd ?_; refine asd ?_; refine rn ?_; refine .gh (Gh.keep [1, 2, 3, 4, 5, 7] rfl) ?_; refine .seq ?_; refine .region ?_; refine vk (vfa fN0) ?_; refine vk (vfa fZ1) ?_
  refine ldp ?_ aS
  refine mvd ?_
  refine cl (xs := [.sl (L d), .sl (L (digs g))]) ?_ d2 Tryz.call199
  refine mvt ?_; refine ex ?_; refine ex ?_; refine ex ?_; refine asd ?_; refine asd ?_; refine asd ?_; refine rn ?_; refine .gh (Gh.keep [1, 2, 3, 5, 7, 8] rfl) ?_; refine .seq ?_; refine .block ?_; refine .seq ?_; refine .region ?_; refine mvd ?_; refine nt_ ?_; refine asd ?_; refine rn ?_
  by_cases hg : g = 0
  · rw [decide_eq_false (show ¬ (g ≠ 0) from fun h => h hg), if_pos hg]
    refine cndt ?_; refine .seq ?_; refine .region ?_; refine vk (vbd pR iR rR) ?_
    refine stn ?_ sR (by decide)
    refine asd ?_; refine rn ?_; refine .ret ?_
    exact ⟨_, _, ⟨.inr rfl, aR, sR, (by decide : (0 : Nat) < 3)⟩, rfl, rfl⟩
  rw [decide_eq_true (show g ≠ 0 from hg), if_neg hg]
  refine cndf ?_; refine .seq ?_; refine .region ?_; refine mvd ?_
  refine ln ?_ (L_sz _) l32
  refine bi ?_
  by_cases hx : 32 < (digs x).length
  · rw [decide_eq_true (show (32 : Int) < ((L (digs x)).length : Nat) by rw [L_length]; omega), if_pos (.inl hx)]
    refine mvd ?_; refine gf ?_; refine gf ?_; refine gf ?_; refine pkd ?_; refine asd ?_; refine rn ?_; refine cndt ?_; refine .seq ?_; refine .region ?_; refine vk (vbd pR iR rR) ?_
    refine stn ?_ sR (by decide)
    refine asd ?_; refine rn ?_; refine .ret ?_
    exact ⟨_, _, ⟨.inr rfl, aR, sR, (by decide : (0 : Nat) < 3)⟩, rfl, rfl⟩
  rw [decide_eq_false (show ¬ (32 : Int) < ((L (digs x)).length : Nat) by rw [L_length]; omega)]
  refine mvd ?_; refine mvd ?_
  refine ln ?_ (L_sz _) l32
  refine bi ?_
  by_cases hy : 32 < (digs y).length
  · rw [decide_eq_true (show (32 : Int) < ((L (digs y)).length : Nat) by rw [L_length]; omega), if_pos (.inr hy)]
    refine pkd ?_; refine asd ?_; refine rn ?_; refine cndt ?_; refine .seq ?_; refine .region ?_; refine vk (vbd pR iR rR) ?_
    refine stn ?_ sR (by decide)
    refine asd ?_; refine rn ?_; refine .ret ?_
    exact ⟨_, _, ⟨.inr rfl, aR, sR, (by decide : (0 : Nat) < 3)⟩, rfl, rfl⟩
  rw [decide_eq_false (show ¬ (32 : Int) < ((L (digs y)).length : Nat) by rw [L_length]; omega), if_neg (by omega)]
  refine pkd ?_; refine asd ?_; refine rn ?_; refine cndf ?_; refine .skip ?_
  show AW _ _ _ _ _ _
  refine .seq ?_; refine .region ?_; refine vk (vfa fN1) ?_
  refine ldp ?_ aB
  refine mvd ?_
  by_cases hb : b = true
  · subst hb
    refine mvd ?_
    refine ln ?_ (L_sz _) l32
    refine bi ?_
    rw [pos_digs]
    refine pkd ?_; refine mvd ?_; refine mvd ?_; refine vk (vbd pR iR rR) ?_
    refine stn ?_ sR (by decide)
    refine asd ?_; refine rn ?_; refine .ret ?_
    exact ⟨_, _, ⟨.inr rfl, aR, sR, (by decide : (0 : Nat) < 3)⟩, rfl, rfl⟩
  rw [Bool.not_eq_true] at hb; subst hb
  refine gf ?_; refine gf ?_; refine gf ?_; refine pkd ?_; refine mvd ?_; refine mvd ?_; refine vk (vbd pR iR rR) ?_
  refine stn ?_ sR (by decide)
  refine asd ?_; refine rn ?_; refine .ret ?_
  exact ⟨_, _, ⟨.inr rfl, aR, sR, (by decide : (0 : Nat) < 3)⟩, rfl, rfl⟩
end Go.FL
