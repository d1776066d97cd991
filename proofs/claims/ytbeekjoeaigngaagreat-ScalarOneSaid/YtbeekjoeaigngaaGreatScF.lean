/-
  Part 6 of the base of the proofs: a logic of our own over the calculus, the contracts of the functions
-/
import Derived.Test.YtbeekjoeaigngaaGreatScE
set_option linter.unusedVariables false
/-
  GP: scalar functions of numbers.
-/
namespace Go.FL
open Go Go.Proofs

def scalar_truth (a0 : Bool) : Option (RT) := (if a0 = true then ((ratOfInt 1).bind fun x1 => (some (x1))) else ((ratOfInt 0).bind fun x2 => (some (x2))))
theorem scalar_truth_ok {a0 : Bool} {r : RT} (h : scalar_truth a0 = some r) :
    Fn Tryz.prog 91 [.b a0] (.d (.ag [.b r.1, .sl (L r.2.1), .sl (L r.2.2)])) := by
  unfold scalar_truth at h
  refine Fn.ofC (rs := [.cell 2 32]) (nt := 6) Tryz.func91 rfl rfl rfl (by simp) rfl ?_; refine .seq ?_; refine .region ?_; refine vk (van (zero_of gI_R) gZ_R) ?_; refine rn ?_; refine .gh (Gh.keep [0, 2] rfl) ?_; refine .seq ?_; refine .seq ?_; refine .region ?_; refine vk (vmvd) ?_; refine rn ?_; refine .gh (Gh.keep [2, 3] rfl) ?_
  by_cases hc : a0 = true
  · replace h := ite_t hc h
    refine cnt hc ?_; refine .seq ?_; refine .region ?_
    obtain ⟨x1, hx1, h⟩ := bnd h
    refine vk (vcl0 (ratOfInt_ok hx1) Tryz.call72) ?_
    refine stn ?_ gS_R (by decide)
    refine rn ?_; refine .gh (Gh.keep [2] rfl) ?_; refine .ret ?_
    cases h
    exact ⟨_, ⟨.inr rfl, gA_R, gS_R, (by decide : (0 : Nat) < 3)⟩, rfl⟩
  replace h := ite_f hc h
  refine cnf (bf hc) ?_; refine .skip ?_
  show AW _ _ _ _ _ _
  refine .seq ?_; refine .region ?_
  obtain ⟨x2, hx2, h⟩ := bnd h
  refine vk (vcl0 (ratOfInt_ok hx2) Tryz.call72) ?_
  refine stn ?_ gS_R (by decide)
  refine rn ?_; refine .gh (Gh.keep [2] rfl) ?_; refine .ret ?_
  cases h
  exact ⟨_, ⟨.inr rfl, gA_R, gS_R, (by decide : (0 : Nat) < 3)⟩, rfl⟩

def scalar_bit (a0 : RT) : Option (Bool × Bool) := ((ratToInt a0).bind fun x1 => (some ((decide (x1.1 = 1)), (x1.2 && ((decide (x1.1 = 0)) || (decide (x1.1 = 1)))))))
theorem scalar_bit_ok {a0 : RT} {r : Bool × Bool} (h : scalar_bit a0 = some r) :
    Fn Tryz.prog 90 [.ag [.b a0.1, .sl (L a0.2.1), .sl (L a0.2.2)]] (.tup [.d (.b r.1), .d (.b r.2)]) := by
  unfold scalar_bit at h
  refine Fn.of (rs := [.tmp 2, .tmp 3]) (nt := 22) Tryz.func90 rfl rfl rfl (by simp) rfl ?_; refine .seq ?_; refine .region ?_; refine vk (vbx) ?_; refine asd ?_; refine asd ?_; refine rn ?_; refine .gh (Gh.keep [1, 2, 3] rfl) ?_; refine .seq ?_; refine .region ?_; refine vk (vlda gA_R gS_R) ?_
  obtain ⟨x1, hx1, h⟩ := bnd h
  refine vk (VOK.tupd (vs := [.i .i64 x1.1, .b x1.2]) (vcl0 (ratToInt_ok hx1) Tryz.call171)) ?_; refine vk (vmvd) ?_; refine vk (vex) ?_; refine vk (vex) ?_; refine asd ?_; refine asd ?_; refine rn ?_; refine .gh (Gh.keep [2, 3, 4, 5] rfl) ?_; refine .seq ?_; refine AW.mr (σ := Unit) (fun _ => True) (fun _ => [(2, .d (.b (decide (x1.1 = 1)))), (3, .d (.b (x1.2 && ((decide (x1.1 = 0)) || (decide (x1.1 = 1))))))]) (fun _ => []) ?_ ?_
  · skip
    refine .region ?_; refine vk (vmvd) ?_; refine vk (vbi) ?_; refine vk (vmvd) ?_
    by_cases hc : x1.2 = true
    · have hb0 : x1.2 = true := hc
      refine vk (VOK.lit (vmvd) hb0) ?_; refine vk (vmvd) ?_; refine vk (vbi) ?_
      by_cases hc : x1.1 = 0
      · have hb1 : (decide (x1.1 = 0)) = true := (decide_eq_true hc)
        refine vk (VOK.lit (vmvd) hb1) ?_; refine gf ?_; refine gf ?_; refine vk (vpkd) ?_; refine vk (vpkd) ?_; refine asd ?_; refine asd ?_; refine RL.gh (Gh.keep [2, 3] rfl) ?_; refine .nil ?_
        exact jr () trivial (by simp only [hb0, hb1]; rfl)
      have hb1 : (decide (x1.1 = 0)) = false := (decide_eq_false hc)
      refine vk (VOK.lit (vmvd) hb1) ?_; refine vk (vmvd) ?_; refine vk (vbi) ?_; refine vk (vpkd) ?_; refine vk (vpkd) ?_; refine asd ?_; refine asd ?_; refine RL.gh (Gh.keep [2, 3] rfl) ?_; refine .nil ?_
      exact jr () trivial (by simp only [hb0, hb1]; rfl)
    have hb0 : x1.2 = false := (bf hc)
    refine vk (VOK.lit (vmvd) hb0) ?_; refine gf ?_; refine gf ?_; refine gfu ?_; refine gf ?_; refine gf ?_; refine gf ?_; refine vk (vpkd) ?_; refine asd ?_; refine asd ?_; refine RL.gh (Gh.keep [2, 3] rfl) ?_; refine .nil ?_
    exact jr () trivial (by simp only [hb0]; rfl)
  rintro _ _
  refine .ret ?_
  cases h
  exact ⟨by decide, rfl, rfl, rfl⟩

def scalar_same (a0 : RT) : Option (RT × Int) := ((ratAdd ([a0])).bind fun x1 => (some (x1.1, x1.2)))
theorem scalar_same_ok {a0 : RT} {r : RT × Int} (h : scalar_same a0 = some r) :
    Fn Tryz.prog 78 [.ag [.b a0.1, .sl (L a0.2.1), .sl (L a0.2.2)]] (.tup [.d (.ag [.b r.1.1, .sl (L r.1.2.1), .sl (L r.1.2.2)]), .d (.i .i64 r.2)]) := by
  unfold scalar_same at h
  refine Fn.ofC (rs := [.cell 2 32, .tmp 3]) (nt := 9) Tryz.func78 rfl rfl rfl (by simp) rfl ?_; refine .seq ?_; refine .region ?_; refine vk (vbx) ?_; refine vk (van (zero_of gI_R) gZ_R) ?_; refine asd ?_; refine rn ?_; refine .gh (Gh.keep [1, 2, 3] rfl) ?_; refine .seq ?_; refine .region ?_; refine vk (vlda gA_R gS_R) ?_; refine vk ((vbsl (RVs_flat [a0]) ge_RVs).deep) ?_
  obtain ⟨x1, hx1, h⟩ := bnd h
  refine vk (VOK.tupd (vs := [.ag [.b x1.1.1, .sl (L x1.1.2.1), .sl (L x1.1.2.2)], .i .i64 x1.2]) (vcl0 (ratAdd_ok hx1) Tryz.call133)) ?_; refine vk (vex) ?_; refine vk (vex) ?_
  refine stn ?_ gS_R (by decide)
  refine asd ?_; refine rn ?_; refine .gh (Gh.keep [2, 3] rfl) ?_; refine .ret ?_
  cases h
  exact ⟨_, _, ⟨.inr rfl, gA_R, gS_R, (by decide : (0 : Nat) < 3)⟩, rfl, rfl⟩

def scalar_twos_1 (a0 : RT) (a1 : RT) : Option (RT × Int) := ((ratAdd ([a0, a1])).bind fun x1 => (some (x1.1, x1.2)))
theorem scalar_twos_1_ok {a0 : RT} {a1 : RT} {r : RT × Int} (h : scalar_twos_1 a0 a1 = some r) :
    Fn Tryz.prog 132 [.ag [.b a0.1, .sl (L a0.2.1), .sl (L a0.2.2)], .ag [.b a1.1, .sl (L a1.2.1), .sl (L a1.2.2)]] (.tup [.d (.ag [.b r.1.1, .sl (L r.1.2.1), .sl (L r.1.2.2)]), .d (.i .i64 r.2)]) := by
  unfold scalar_twos_1 at h
  refine Fn.ofC (rs := [.cell 4 32, .tmp 5]) (nt := 12) Tryz.func132 rfl rfl rfl (by simp) rfl ?_; refine .seq ?_; refine .region ?_; refine vk (vbx) ?_; refine vk (vbx) ?_; refine vk (van (zero_of gI_R) gZ_R) ?_; refine asd ?_; refine rn ?_; refine .gh (Gh.keep [2, 3, 4, 5] rfl) ?_; refine .seq ?_; refine .region ?_; refine vk (vlda gA_R gS_R) ?_; refine vk (vlda gA_R gS_R) ?_; refine vk ((vbsl (RVs_flat [a0, a1]) ge_RVs).deep) ?_
  obtain ⟨x1, hx1, h⟩ := bnd h
  refine vk (VOK.tupd (vs := [.ag [.b x1.1.1, .sl (L x1.1.2.1), .sl (L x1.1.2.2)], .i .i64 x1.2]) (vcl0 (ratAdd_ok hx1) Tryz.call133)) ?_; refine vk (vex) ?_; refine vk (vex) ?_
  refine stn ?_ gS_R (by decide)
  refine asd ?_; refine rn ?_; refine .gh (Gh.keep [4, 5] rfl) ?_; refine .ret ?_
  cases h
  exact ⟨_, _, ⟨.inr rfl, gA_R, gS_R, (by decide : (0 : Nat) < 3)⟩, rfl, rfl⟩

def scalar_twos_2 (a0 : RT) (a1 : RT) : Option (RT × Int) := ((ratMul ([a0, a1])).bind fun x1 => (some (x1.1, x1.2)))
theorem scalar_twos_2_ok {a0 : RT} {a1 : RT} {r : RT × Int} (h : scalar_twos_2 a0 a1 = some r) :
    Fn Tryz.prog 134 [.ag [.b a0.1, .sl (L a0.2.1), .sl (L a0.2.2)], .ag [.b a1.1, .sl (L a1.2.1), .sl (L a1.2.2)]] (.tup [.d (.ag [.b r.1.1, .sl (L r.1.2.1), .sl (L r.1.2.2)]), .d (.i .i64 r.2)]) := by
  unfold scalar_twos_2 at h
  refine Fn.ofC (rs := [.cell 4 32, .tmp 5]) (nt := 12) Tryz.func134 rfl rfl rfl (by simp) rfl ?_; refine .seq ?_; refine .region ?_; refine vk (vbx) ?_; refine vk (vbx) ?_; refine vk (van (zero_of gI_R) gZ_R) ?_; refine asd ?_; refine rn ?_; refine .gh (Gh.keep [2, 3, 4, 5] rfl) ?_; refine .seq ?_; refine .region ?_; refine vk (vlda gA_R gS_R) ?_; refine vk (vlda gA_R gS_R) ?_; refine vk ((vbsl (RVs_flat [a0, a1]) ge_RVs).deep) ?_
  obtain ⟨x1, hx1, h⟩ := bnd h
  refine vk (VOK.tupd (vs := [.ag [.b x1.1.1, .sl (L x1.1.2.1), .sl (L x1.1.2.2)], .i .i64 x1.2]) (vcl0 (ratMul_ok hx1) Tryz.call135)) ?_; refine vk (vex) ?_; refine vk (vex) ?_
  refine stn ?_ gS_R (by decide)
  refine asd ?_; refine rn ?_; refine .gh (Gh.keep [4, 5] rfl) ?_; refine .ret ?_
  cases h
  exact ⟨_, _, ⟨.inr rfl, gA_R, gS_R, (by decide : (0 : Nat) < 3)⟩, rfl, rfl⟩

def scalar_twos_3 (a0 : Int) : Option (Bool) := (some ((decide (a0 < 0))))
theorem scalar_twos_3_ok {a0 : Int} {r : Bool} (h : scalar_twos_3 a0 = some r) :
    Fn Tryz.prog 142 [.i .i64 a0] (.d (.b r)) := by
  unfold scalar_twos_3 at h
  refine Fn.of (rs := [.tmp 2]) (nt := 5) Tryz.func142 rfl rfl rfl (by simp) rfl ?_; refine .seq ?_; refine .region ?_; refine asd ?_; refine rn ?_; refine .gh (Gh.keep [0, 2] rfl) ?_; refine .seq ?_; refine .region ?_; refine vk (vmvd) ?_; refine vk (vbi) ?_; refine asd ?_; refine rn ?_; refine .gh (Gh.keep [2] rfl) ?_; refine .ret ?_
  cases h
  exact ⟨rfl, rfl⟩

def scalar_twos_4 (a0 : Int) : Option (Bool) := (some ((decide (a0 ≤ 0))))
theorem scalar_twos_4_ok {a0 : Int} {r : Bool} (h : scalar_twos_4 a0 = some r) :
    Fn Tryz.prog 143 [.i .i64 a0] (.d (.b r)) := by
  unfold scalar_twos_4 at h
  refine Fn.of (rs := [.tmp 2]) (nt := 5) Tryz.func143 rfl rfl rfl (by simp) rfl ?_; refine .seq ?_; refine .region ?_; refine asd ?_; refine rn ?_; refine .gh (Gh.keep [0, 2] rfl) ?_; refine .seq ?_; refine .region ?_; refine vk (vmvd) ?_; refine vk (vbi) ?_; refine asd ?_; refine rn ?_; refine .gh (Gh.keep [2] rfl) ?_; refine .ret ?_
  cases h
  exact ⟨rfl, rfl⟩

def scalar_twos_5 (a0 : Int) : Option (Bool) := (some ((decide (a0 = 0))))
theorem scalar_twos_5_ok {a0 : Int} {r : Bool} (h : scalar_twos_5 a0 = some r) :
    Fn Tryz.prog 144 [.i .i64 a0] (.d (.b r)) := by
  unfold scalar_twos_5 at h
  refine Fn.of (rs := [.tmp 2]) (nt := 5) Tryz.func144 rfl rfl rfl (by simp) rfl ?_; refine .seq ?_; refine .region ?_; refine asd ?_; refine rn ?_; refine .gh (Gh.keep [0, 2] rfl) ?_; refine .seq ?_; refine .region ?_; refine vk (vmvd) ?_; refine vk (vbi) ?_; refine asd ?_; refine rn ?_; refine .gh (Gh.keep [2] rfl) ?_; refine .ret ?_
  cases h
  exact ⟨rfl, rfl⟩

def scalar_twos_6 (a0 : Int) : Option (Bool) := (some ((decide (0 ≤ a0))))
theorem scalar_twos_6_ok {a0 : Int} {r : Bool} (h : scalar_twos_6 a0 = some r) :
    Fn Tryz.prog 145 [.i .i64 a0] (.d (.b r)) := by
  unfold scalar_twos_6 at h
  refine Fn.of (rs := [.tmp 2]) (nt := 5) Tryz.func145 rfl rfl rfl (by simp) rfl ?_; refine .seq ?_; refine .region ?_; refine asd ?_; refine rn ?_; refine .gh (Gh.keep [0, 2] rfl) ?_; refine .seq ?_; refine .region ?_; refine vk (vmvd) ?_; refine vk (vbi) ?_; refine asd ?_; refine rn ?_; refine .gh (Gh.keep [2] rfl) ?_; refine .ret ?_
  cases h
  exact ⟨rfl, rfl⟩

def scalar_twos_7 (a0 : Int) : Option (Bool) := (some ((decide (0 < a0))))
theorem scalar_twos_7_ok {a0 : Int} {r : Bool} (h : scalar_twos_7 a0 = some r) :
    Fn Tryz.prog 146 [.i .i64 a0] (.d (.b r)) := by
  unfold scalar_twos_7 at h
  refine Fn.of (rs := [.tmp 2]) (nt := 5) Tryz.func146 rfl rfl rfl (by simp) rfl ?_; refine .seq ?_; refine .region ?_; refine asd ?_; refine rn ?_; refine .gh (Gh.keep [0, 2] rfl) ?_; refine .seq ?_; refine .region ?_; refine vk (vmvd) ?_; refine vk (vbi) ?_; refine asd ?_; refine rn ?_; refine .gh (Gh.keep [2] rfl) ?_; refine .ret ?_
  cases h
  exact ⟨rfl, rfl⟩

def scalar_twos_8 (a0 : Int) : Option (Bool) := (some ((!(decide (a0 = 0)))))
theorem scalar_twos_8_ok {a0 : Int} {r : Bool} (h : scalar_twos_8 a0 = some r) :
    Fn Tryz.prog 147 [.i .i64 a0] (.d (.b r)) := by
  unfold scalar_twos_8 at h
  refine Fn.of (rs := [.tmp 2]) (nt := 5) Tryz.func147 rfl rfl rfl (by simp) rfl ?_; refine .seq ?_; refine .region ?_; refine asd ?_; refine rn ?_; refine .gh (Gh.keep [0, 2] rfl) ?_; refine .seq ?_; refine .region ?_; refine vk (vmvd) ?_; refine vk (vbi) ?_; refine asd ?_; refine rn ?_; refine .gh (Gh.keep [2] rfl) ?_; refine .ret ?_
  cases h
  exact ⟨rfl, rfl⟩

def scalar_twos_9 (a0 : Bool) (a1 : Bool) : Option (Bool) := (some ((a0 && a1)))
theorem scalar_twos_9_ok {a0 : Bool} {a1 : Bool} {r : Bool} (h : scalar_twos_9 a0 a1 = some r) :
    Fn Tryz.prog 149 [.b a0, .b a1] (.d (.b r)) := by
  unfold scalar_twos_9 at h
  refine Fn.of (rs := [.tmp 4]) (nt := 9) Tryz.func149 rfl rfl rfl (by simp) rfl ?_; refine .seq ?_; refine .region ?_; refine asd ?_; refine rn ?_; refine .gh (Gh.keep [0, 1, 4] rfl) ?_; refine .seq ?_; refine AW.mr (σ := Unit) (fun _ => True) (fun _ => [(4, .d (.b (a0 && a1)))]) (fun _ => []) ?_ ?_
  · skip
    refine .region ?_; refine vk (vmvd) ?_
    by_cases hc : a0 = true
    · have hb0 : a0 = true := hc
      refine vk (VOK.lit (vmvd) hb0) ?_; refine vk (vmvd) ?_; refine vk (vpkd) ?_; refine asd ?_; refine RL.gh (Gh.keep [4] rfl) ?_; refine .nil ?_
      exact jr () trivial (by simp only [hb0]; rfl)
    have hb0 : a0 = false := (bf hc)
    refine vk (VOK.lit (vmvd) hb0) ?_; refine gf ?_; refine vk (vpkd) ?_; refine asd ?_; refine RL.gh (Gh.keep [4] rfl) ?_; refine .nil ?_
    exact jr () trivial (by simp only [hb0]; rfl)
  rintro _ _
  refine .ret ?_
  cases h
  exact ⟨rfl, rfl⟩

def scalar_twos_10 (a0 : Bool) (a1 : Bool) : Option (Bool) := (some ((a0 || a1)))
theorem scalar_twos_10_ok {a0 : Bool} {a1 : Bool} {r : Bool} (h : scalar_twos_10 a0 a1 = some r) :
    Fn Tryz.prog 150 [.b a0, .b a1] (.d (.b r)) := by
  unfold scalar_twos_10 at h
  refine Fn.of (rs := [.tmp 4]) (nt := 9) Tryz.func150 rfl rfl rfl (by simp) rfl ?_; refine .seq ?_; refine .region ?_; refine asd ?_; refine rn ?_; refine .gh (Gh.keep [0, 1, 4] rfl) ?_; refine .seq ?_; refine AW.mr (σ := Unit) (fun _ => True) (fun _ => [(4, .d (.b (a0 || a1)))]) (fun _ => []) ?_ ?_
  · skip
    refine .region ?_; refine vk (vmvd) ?_
    by_cases hc : a0 = true
    · have hb0 : a0 = true := hc
      refine vk (VOK.lit (vmvd) hb0) ?_; refine gf ?_; refine vk (vpkd) ?_; refine asd ?_; refine RL.gh (Gh.keep [4] rfl) ?_; refine .nil ?_
      exact jr () trivial (by simp only [hb0]; rfl)
    have hb0 : a0 = false := (bf hc)
    refine vk (VOK.lit (vmvd) hb0) ?_; refine vk (vmvd) ?_; refine vk (vpkd) ?_; refine asd ?_; refine RL.gh (Gh.keep [4] rfl) ?_; refine .nil ?_
    exact jr () trivial (by simp only [hb0]; rfl)
  rintro _ _
  refine .ret ?_
  cases h
  exact ⟨rfl, rfl⟩

def scalar_twos_11 (a0 : Bool) (a1 : Bool) : Option (Bool) := (some ((!a0 || (!a1))))
theorem scalar_twos_11_ok {a0 : Bool} {a1 : Bool} {r : Bool} (h : scalar_twos_11 a0 a1 = some r) :
    Fn Tryz.prog 151 [.b a0, .b a1] (.d (.b r)) := by
  unfold scalar_twos_11 at h
  refine Fn.of (rs := [.tmp 4]) (nt := 10) Tryz.func151 rfl rfl rfl (by simp) rfl ?_; refine .seq ?_; refine .region ?_; refine asd ?_; refine rn ?_; refine .gh (Gh.keep [0, 1, 4] rfl) ?_; refine .seq ?_; refine AW.mr (σ := Unit) (fun _ => True) (fun _ => [(4, .d (.b (!a0 || (!a1))))]) (fun _ => []) ?_ ?_
  · skip
    refine .region ?_; refine vk (vmvd) ?_
    by_cases hc : a0 = true
    · have hb0 : a0 = true := hc
      refine vk (VOK.lit (vmvd) hb0) ?_; refine vk (vmvd) ?_; refine vk (vpkd) ?_; refine vk (vnt) ?_; refine asd ?_; refine RL.gh (Gh.keep [4] rfl) ?_; refine .nil ?_
      exact jr () trivial (by simp only [hb0]; rfl)
    have hb0 : a0 = false := (bf hc)
    refine vk (VOK.lit (vmvd) hb0) ?_; refine gf ?_; refine vk (vpkd) ?_; refine vk (vnt) ?_; refine asd ?_; refine RL.gh (Gh.keep [4] rfl) ?_; refine .nil ?_
    exact jr () trivial (by simp only [hb0]; rfl)
  rintro _ _
  refine .ret ?_
  cases h
  exact ⟨rfl, rfl⟩

def scalar_twos_12 (a0 : Bool) (a1 : Bool) : Option (Bool) := (some ((!a0 && (!a1))))
theorem scalar_twos_12_ok {a0 : Bool} {a1 : Bool} {r : Bool} (h : scalar_twos_12 a0 a1 = some r) :
    Fn Tryz.prog 152 [.b a0, .b a1] (.d (.b r)) := by
  unfold scalar_twos_12 at h
  refine Fn.of (rs := [.tmp 4]) (nt := 10) Tryz.func152 rfl rfl rfl (by simp) rfl ?_; refine .seq ?_; refine .region ?_; refine asd ?_; refine rn ?_; refine .gh (Gh.keep [0, 1, 4] rfl) ?_; refine .seq ?_; refine AW.mr (σ := Unit) (fun _ => True) (fun _ => [(4, .d (.b (!a0 && (!a1))))]) (fun _ => []) ?_ ?_
  · skip
    refine .region ?_; refine vk (vmvd) ?_
    by_cases hc : a0 = true
    · have hb0 : a0 = true := hc
      refine vk (VOK.lit (vmvd) hb0) ?_; refine gf ?_; refine vk (vpkd) ?_; refine vk (vnt) ?_; refine asd ?_; refine RL.gh (Gh.keep [4] rfl) ?_; refine .nil ?_
      exact jr () trivial (by simp only [hb0]; rfl)
    have hb0 : a0 = false := (bf hc)
    refine vk (VOK.lit (vmvd) hb0) ?_; refine vk (vmvd) ?_; refine vk (vpkd) ?_; refine vk (vnt) ?_; refine asd ?_; refine RL.gh (Gh.keep [4] rfl) ?_; refine .nil ?_
    exact jr () trivial (by simp only [hb0]; rfl)
  rintro _ _
  refine .ret ?_
  cases h
  exact ⟨rfl, rfl⟩

def scalar_extreme_1 (a0 : RT) (a1 : RT) (c0 : Int) : Option (RT × Int) := ((rat_Compare a0 a1).bind fun x1 => (if (w64 (c0 * x1)) < 0 then ((scalar_same a1).bind fun x2 => (some (x2.1, x2.2))) else ((scalar_same a0).bind fun x3 => (some (x3.1, x3.2)))))
theorem scalar_extreme_1_ok {a0 : RT} {a1 : RT} {c0 : Int} {r : RT × Int} (h : scalar_extreme_1 a0 a1 c0 = some r) :
    Fn Tryz.prog 210 [.ag [.b a0.1, .sl (L a0.2.1), .sl (L a0.2.2)], .ag [.b a1.1, .sl (L a1.2.1), .sl (L a1.2.2)], .ptr [.i .i64 c0]] (.tup [.d (.ag [.b r.1.1, .sl (L r.1.2.1), .sl (L r.1.2.2)]), .d (.i .i64 r.2)]) := by
  unfold scalar_extreme_1 at h
  refine Fn.ofC (rs := [.cell 5 32, .tmp 6]) (nt := 21) Tryz.func210 rfl rfl rfl (by simp) rfl ?_; refine .seq ?_; refine .region ?_; refine vk (vbx) ?_; refine vk (vbx) ?_; refine vk (van (zero_of gI_R) gZ_R) ?_; refine asd ?_; refine rn ?_; refine .gh (Gh.keep [2, 3, 4, 5, 6] rfl) ?_; refine .seq ?_; refine .seq ?_; refine .drawn 6 mixed (by kernel_rfl) ?_; refine dv (vldp ga_int) ?_; refine dv (vlda gA_R gS_R) ?_; refine dv (vlda gA_R gS_R) ?_
  obtain ⟨x1, hx1, h⟩ := bnd h
  refine dv (vcl0 (rat_Compare_ok hx1) Tryz.call211) ?_; refine dv (vbi) ?_; refine dv (vbi) ?_; refine dz ?_; refine rn ?_; refine .gh (Gh.keep [3, 4, 5, 6, 12] rfl) ?_
  by_cases hc : (w64 (c0 * x1)) < 0
  · replace h := ite_t hc h
    refine cnt (decide_eq_true hc) ?_; refine .seq ?_; refine .region ?_; refine vk (vlda gA_R gS_R) ?_
    obtain ⟨x2, hx2, h⟩ := bnd h
    refine vk (VOK.tupd (vs := [.ag [.b x2.1.1, .sl (L x2.1.2.1), .sl (L x2.1.2.2)], .i .i64 x2.2]) (vcl0 (scalar_same_ok hx2) Tryz.call78)) ?_; refine vk (vex) ?_; refine vk (vex) ?_
    refine stn ?_ gS_R (by decide)
    refine asd ?_; refine rn ?_; refine .gh (Gh.keep [3, 5, 6] rfl) ?_; refine .ret ?_
    cases h
    exact ⟨_, _, ⟨.inr rfl, gA_R, gS_R, (by decide : (0 : Nat) < 3)⟩, rfl, rfl⟩
  replace h := ite_f hc h
  refine cnf (decide_eq_false hc) ?_; refine .skip ?_
  show AW _ _ _ _ _ _
  refine .seq ?_; refine .region ?_; refine vk (vlda gA_R gS_R) ?_
  obtain ⟨x3, hx3, h⟩ := bnd h
  refine vk (VOK.tupd (vs := [.ag [.b x3.1.1, .sl (L x3.1.2.1), .sl (L x3.1.2.2)], .i .i64 x3.2]) (vcl0 (scalar_same_ok hx3) Tryz.call78)) ?_; refine vk (vex) ?_; refine vk (vex) ?_
  refine stn ?_ gS_R (by decide)
  refine asd ?_; refine rn ?_; refine .gh (Gh.keep [5, 6] rfl) ?_; refine .ret ?_
  cases h
  exact ⟨_, _, ⟨.inr rfl, gA_R, gS_R, (by decide : (0 : Nat) < 3)⟩, rfl, rfl⟩

def scalar_comparing_1 (a0 : RT) (a1 : RT) (c0 : FT_int__bool) (c1 : RT) : Option (RT × Int) := ((rat_Tolerant c1 a0 a1).bind fun x1 => ((c0.g x1).bind fun x2 => ((scalar_truth x2).bind fun x3 => (some (x3, 0)))))
theorem scalar_comparing_1_ok {a0 : RT} {a1 : RT} {c0 : FT_int__bool} {c1 : RT} (oc0 : FO_int__bool c0) {r : RT × Int} (h : scalar_comparing_1 a0 a1 c0 c1 = some r) :
    Fn Tryz.prog 212 [.ag [.b a0.1, .sl (L a0.2.1), .sl (L a0.2.2)], .ag [.b a1.1, .sl (L a1.2.1), .sl (L a1.2.2)], .ptr [c0.dv], .ptr [.b c1.1, .sl (L c1.2.1), .sl (L c1.2.2)]] (.tup [.d (.ag [.b r.1.1, .sl (L r.1.2.1), .sl (L r.1.2.2)]), .d (.i .i64 r.2)]) := by
  unfold scalar_comparing_1 at h
  refine Fn.ofC (rs := [.cell 6 32, .tmp 7]) (nt := 15) Tryz.func212 rfl rfl rfl (by simp) rfl ?_; refine .seq ?_; refine .region ?_; refine vk (vbx) ?_; refine vk (vbx) ?_; refine vk (van (zero_of gI_R) gZ_R) ?_; refine asd ?_; refine rn ?_; refine .gh (Gh.keep [2, 3, 4, 5, 6, 7] rfl) ?_; refine .seq ?_; refine .drawn 7 mixed (by kernel_rfl) ?_; refine dv (vldp ga_FT_int__bool) ?_; refine dv (vlda gA_R gS_R) ?_; refine dv (vlda gA_R gS_R) ?_; refine dv (vlda gA_R gS_R) ?_
  obtain ⟨x1, hx1, h⟩ := bnd h
  refine dv (vcl0 (rat_Tolerant_ok hx1) Tryz.call213) ?_
  obtain ⟨x2, hx2, h⟩ := bnd h
  refine dv (vclv (oc0 _ _ hx2)) ?_
  obtain ⟨x3, hx3, h⟩ := bnd h
  refine dv (vcl0 (scalar_truth_ok hx3) Tryz.call91) ?_; refine dz ?_
  refine stn ?_ gS_R (by decide)
  refine asd ?_; refine rn ?_; refine .gh (Gh.keep [6, 7] rfl) ?_; refine .ret ?_
  cases h
  exact ⟨_, _, ⟨.inr rfl, gA_R, gS_R, (by decide : (0 : Nat) < 3)⟩, rfl, rfl⟩

def scalar_logical_1 (a0 : RT) (a1 : RT) (c0 : FT_bool_bool__bool) : Option (RT × Int) := ((scalar_bit a0).bind fun x1 => ((scalar_bit a1).bind fun x2 => (if ((!x1.2) || (!x2.2)) = true then (some ((false, [], []), 3)) else ((c0.g (x1.1, x2.1)).bind fun x3 => ((scalar_truth x3).bind fun x4 => (some (x4, 0)))))))
theorem scalar_logical_1_ok {a0 : RT} {a1 : RT} {c0 : FT_bool_bool__bool} (oc0 : FO_bool_bool__bool c0) {r : RT × Int} (h : scalar_logical_1 a0 a1 c0 = some r) :
    Fn Tryz.prog 214 [.ag [.b a0.1, .sl (L a0.2.1), .sl (L a0.2.2)], .ag [.b a1.1, .sl (L a1.2.1), .sl (L a1.2.2)], .ptr [c0.dv]] (.tup [.d (.ag [.b r.1.1, .sl (L r.1.2.1), .sl (L r.1.2.2)]), .d (.i .i64 r.2)]) := by
  unfold scalar_logical_1 at h
  refine Fn.ofC (rs := [.cell 5 32, .tmp 6]) (nt := 33) Tryz.func214 rfl rfl rfl (by simp) rfl ?_; refine .seq ?_; refine .region ?_; refine vk (vbx) ?_; refine vk (vbx) ?_; refine vk (van (zero_of gI_R) gZ_R) ?_; refine asd ?_; refine rn ?_; refine .gh (Gh.keep [2, 3, 4, 5, 6] rfl) ?_; refine .seq ?_; refine .region ?_; refine vk (vlda gA_R gS_R) ?_
  obtain ⟨x1, hx1, h⟩ := bnd h
  refine vk (VOK.tupd (vs := [.b x1.1, .b x1.2]) (vcl0 (scalar_bit_ok hx1) Tryz.call90)) ?_; refine vk (vmvd) ?_; refine vk (vex) ?_; refine vk (vex) ?_; refine asd ?_; refine asd ?_; refine rn ?_; refine .gh (Gh.keep [2, 4, 5, 6, 7, 8] rfl) ?_; refine .seq ?_; refine .region ?_; refine vk (vlda gA_R gS_R) ?_
  obtain ⟨x2, hx2, h⟩ := bnd h
  refine vk (VOK.tupd (vs := [.b x2.1, .b x2.2]) (vcl0 (scalar_bit_ok hx2) Tryz.call90)) ?_; refine vk (vmvd) ?_; refine vk (vex) ?_; refine vk (vex) ?_; refine asd ?_; refine asd ?_; refine rn ?_; refine .gh (Gh.keep [2, 5, 6, 7, 8, 9, 10] rfl) ?_; refine .seq ?_; refine .seq ?_; refine AW.mr (σ := Unit) (fun _ => True) (fun _ => [(2, .d (.ptr [c0.dv])), (5, .nb [.b false, .sl (L []), .sl (L [])]), (6, .d (.i .i64 0)), (7, .d (.b x1.1)), (9, .d (.b x2.1)), (26, .d (.b ((!x1.2) || (!x2.2))))]) (fun _ => []) ?_ ?_
  · skip
    refine .region ?_; refine vk (vmvd) ?_; refine vk (vnt) ?_
    by_cases hc : x1.2 = true
    · have hb0 : (!x1.2) = false := (ntf hc)
      refine vk (VOK.lit (vmvd) hb0) ?_; refine vk (vmvd) ?_; refine vk (vnt) ?_; refine vk (vpkd) ?_; refine RL.gh (Gh.keep [2, 5, 6, 7, 9, 26] rfl) ?_; refine .nil ?_
      exact jr () trivial (by simp only [hb0]; rfl)
    have hb0 : (!x1.2) = true := (ntt (bf hc))
    refine vk (VOK.lit (vmvd) hb0) ?_; refine gf ?_; refine gf ?_; refine vk (vpkd) ?_; refine RL.gh (Gh.keep [2, 5, 6, 7, 9, 26] rfl) ?_; refine .nil ?_
    exact jr () trivial (by simp only [hb0]; rfl)
  rintro _ _
  by_cases hc : ((!x1.2) || (!x2.2)) = true
  · replace h := ite_t hc h
    refine cnt hc ?_; refine .seq ?_; refine .region ?_; refine vk (vbd gP_R gI_R gZ_R) ?_
    refine stn ?_ gS_R (by decide)
    refine asd ?_; refine rn ?_; refine .gh (Gh.keep [2, 5, 6, 7, 9] rfl) ?_; refine .ret ?_
    cases h
    exact ⟨_, _, ⟨.inr rfl, gA_R, gS_R, (by decide : (0 : Nat) < 3)⟩, rfl, rfl⟩
  replace h := ite_f hc h
  refine cnf (bf hc) ?_; refine .skip ?_
  show AW _ _ _ _ _ _
  refine .seq ?_; refine .region ?_; refine vk (vldp ga_FT_bool_bool__bool) ?_; refine vk (vmvd) ?_; refine vk (vmvd) ?_
  obtain ⟨x3, hx3, h⟩ := bnd h
  refine vk (vclv (oc0 _ _ hx3)) ?_
  obtain ⟨x4, hx4, h⟩ := bnd h
  refine vk (vcl0 (scalar_truth_ok hx4) Tryz.call91) ?_
  refine stn ?_ gS_R (by decide)
  refine asd ?_; refine rn ?_; refine .gh (Gh.keep [5, 6] rfl) ?_; refine .ret ?_
  cases h
  exact ⟨_, _, ⟨.inr rfl, gA_R, gS_R, (by decide : (0 : Nat) < 3)⟩, rfl, rfl⟩

def scalar_number (a0 : RT) : Option (Itm) := (some ((Itm.mk 1 a0 0 [])))
theorem scalar_number_ok {a0 : RT} {r : Itm} (h : scalar_number a0 = some r) :
    Fn Tryz.prog 94 [.ag [.b a0.1, .sl (L a0.2.1), .sl (L a0.2.2)]] (.d (.ag [.i .u8 r.kind, .b r.num.1, .sl (L r.num.2.1), .sl (L r.num.2.2), .i .i32 r.char, .sl (Ars r.box)])) := by
  unfold scalar_number at h
  refine Fn.ofC (rs := [.cell 2 83]) (nt := 5) Tryz.func94 rfl rfl rfl (by simp) rfl ?_; refine .seq ?_; refine .region ?_; refine vk (vbx) ?_; refine vk (van (zero_of gI_Itm) gZ_Itm) ?_; refine rn ?_; refine .gh (Gh.keep [1, 2] rfl) ?_; refine .seq ?_; refine .region ?_; refine vk (vlda gA_R gS_R) ?_; refine vk (vbd gP_Itm gI_Itm gZ_Itm) ?_
  refine stn ?_ gS_Itm (by decide)
  refine rn ?_; refine .gh (Gh.keep [2] rfl) ?_; refine .ret ?_
  cases h
  exact ⟨_, ⟨.inr rfl, gA_Itm, gS_Itm, (by decide : (0 : Nat) < 6)⟩, rfl⟩

def scalar_together (a0 : Arr) (a1 : Arr) : Option ((List Int) × Int) := ((array_Size a0.shape).bind fun x1 => ((array_Size a1.shape).bind fun x2 => ((slices_Equal_int_int a0.shape a1.shape).bind fun x3 => (if x3 = true then (some (a0.shape, 0)) else (if ((decide (x1.1 = 1)) && ((!(decide (x2.1 = 1))) || (decide (((List.length a0.shape : Nat) : Int) < ((List.length a1.shape : Nat) : Int))))) = true then (some (a1.shape, 0)) else (if x2.1 = 1 then (some (a0.shape, 0)) else (if ((List.length a0.shape : Nat) : Int) = ((List.length a1.shape : Nat) : Int) then (some ([], 5)) else (some ([], 4)))))))))
theorem scalar_together_ok {a0 : Arr} {a1 : Arr} {r : (List Int) × Int} (h : scalar_together a0 a1 = some r) :
    Fn Tryz.prog 114 [.ag [.sl (Is a0.shape), .sl (Its a0.items)], .ag [.sl (Is a1.shape), .sl (Its a1.items)]] (.tup [.d (.sl (Is r.1)), .d (.i .i64 r.2)]) := by
  unfold scalar_together at h
  refine Fn.of (rs := [.tmp 4, .tmp 5]) (nt := 61) Tryz.func114 rfl rfl rfl (by simp) rfl ?_; refine .seq ?_; refine .region ?_; refine vk (vbx) ?_; refine vk (vbx) ?_; refine asn ?_; refine asd ?_; refine rn ?_; refine .gh (Gh.keep [2, 3, 4, 5] rfl) ?_; refine .seq ?_; refine .region ?_; refine vk (vfa gF_Arr_0) ?_; refine vk (vldp ga_Is) ?_
  obtain ⟨x1, hx1, h⟩ := bnd h
  refine vk (VOK.tupd (vs := [.i .i64 x1.1, .i .i64 x1.2]) (vcl0 (array_Size_ok hx1) Tryz.call98)) ?_; refine vk (vmvd) ?_; refine vk (vex) ?_; refine vk (vex) ?_; refine asd ?_; refine asd ?_; refine rn ?_; refine .gh (Gh.keep [2, 3, 4, 5, 6] rfl) ?_; refine .seq ?_; refine .region ?_; refine vk (vfa gF_Arr_0) ?_; refine vk (vldp ga_Is) ?_
  obtain ⟨x2, hx2, h⟩ := bnd h
  refine vk (VOK.tupd (vs := [.i .i64 x2.1, .i .i64 x2.2]) (vcl0 (array_Size_ok hx2) Tryz.call98)) ?_; refine vk (vmvd) ?_; refine vk (vex) ?_; refine vk (vex) ?_; refine asd ?_; refine asd ?_; refine rn ?_; refine .gh (Gh.keep [2, 3, 4, 5, 6, 8] rfl) ?_; refine .seq ?_; refine .block ?_; refine .seq ?_; refine .region ?_; refine vk (vfa gF_Arr_0) ?_; refine vk (vldp ga_Is) ?_; refine vk (vfa gF_Arr_0) ?_; refine vk (vldp ga_Is) ?_
  obtain ⟨x3, hx3, h⟩ := bnd h
  refine vk (vcl0 (slices_Equal_int_int_ok hx3) Tryz.call109) ?_; refine asd ?_; refine rn ?_; refine .gh (Gh.keep [2, 3, 4, 5, 6, 8, 22] rfl) ?_
  by_cases hc : x3 = true
  · replace h := ite_t hc h
    refine cnt hc ?_; refine .seq ?_; refine .region ?_; refine vk (vfa gF_Arr_0) ?_; refine vk (vldp ga_Is) ?_; refine asd ?_; refine asd ?_; refine rn ?_; refine .gh (Gh.keep [4, 5] rfl) ?_; refine .ret ?_
    cases h
    exact ⟨by decide, rfl, rfl, rfl⟩
  replace h := ite_f hc h
  refine cnf (bf hc) ?_; refine .seq ?_; refine AW.mr (σ := Unit) (fun _ => True) (fun _ => [(2, .d (.ptr [.sl (Is a0.shape), .sl (Its a0.items)])), (3, .d (.ptr [.sl (Is a1.shape), .sl (Its a1.items)])), (4, .nl), (5, .d (.i .i64 0)), (8, .d (.i .i64 x2.1)), (30, .d (.b ((decide (x1.1 = 1)) && ((!(decide (x2.1 = 1))) || (decide (((List.length a0.shape : Nat) : Int) < ((List.length a1.shape : Nat) : Int)))))))]) (fun _ => []) ?_ ?_
  · skip
    refine .region ?_; refine vk (vmvd) ?_; refine vk (vbi) ?_
    by_cases hc : x1.1 = 1
    · have hb0 : (decide (x1.1 = 1)) = true := (decide_eq_true hc)
      refine vk (VOK.lit (vmvd) hb0) ?_; refine vk (vmvd) ?_; refine vk (vbi) ?_
      by_cases hc : x2.1 = 1
      · have hb1 : (!(decide (x2.1 = 1))) = false := (ntf (decide_eq_true hc))
        refine vk (VOK.lit (vmvd) hb1) ?_; refine vk (vfa gF_Arr_0) ?_; refine vk (vldp ga_Is) ?_; refine vk (vlnE (Is_length _) (Is_sz _) gu_Is) ?_; refine vk (vfa gF_Arr_0) ?_; refine vk (vldp ga_Is) ?_; refine vk (vlnE (Is_length _) (Is_sz _) gu_Is) ?_; refine vk (vbi) ?_; refine vk (vpkd) ?_; refine vk (vpkd) ?_; refine asd ?_; refine RL.gh (Gh.keep [2, 3, 4, 5, 8, 30] rfl) ?_; refine .nil ?_
        exact jr () trivial (by simp only [hb0, hb1]; rfl)
      have hb1 : (!(decide (x2.1 = 1))) = true := (ntt (decide_eq_false hc))
      refine vk (VOK.lit (vmvd) hb1) ?_; refine gf ?_; refine gf ?_; refine gf ?_; refine gf ?_; refine gf ?_; refine gf ?_; refine gf ?_; refine vk (vpkd) ?_; refine vk (vpkd) ?_; refine asd ?_; refine RL.gh (Gh.keep [2, 3, 4, 5, 8, 30] rfl) ?_; refine .nil ?_
      exact jr () trivial (by simp only [hb0, hb1]; rfl)
    have hb0 : (decide (x1.1 = 1)) = false := (decide_eq_false hc)
    refine vk (VOK.lit (vmvd) hb0) ?_; refine gf ?_; refine gf ?_; refine gfu ?_; refine gf ?_; refine gf ?_; refine gf ?_; refine gf ?_; refine gf ?_; refine gf ?_; refine gf ?_; refine gf ?_; refine vk (vpkd) ?_; refine asd ?_; refine RL.gh (Gh.keep [2, 3, 4, 5, 8, 30] rfl) ?_; refine .nil ?_
    exact jr () trivial (by simp only [hb0]; rfl)
  rintro _ _
  by_cases hc : ((decide (x1.1 = 1)) && ((!(decide (x2.1 = 1))) || (decide (((List.length a0.shape : Nat) : Int) < ((List.length a1.shape : Nat) : Int))))) = true
  · replace h := ite_t hc h
    refine cnt hc ?_; refine .seq ?_; refine .region ?_; refine vk (vfa gF_Arr_0) ?_; refine vk (vldp ga_Is) ?_; refine asd ?_; refine asd ?_; refine rn ?_; refine .gh (Gh.keep [4, 5] rfl) ?_; refine .ret ?_
    cases h
    exact ⟨by decide, rfl, rfl, rfl⟩
  replace h := ite_f hc h
  refine cnf (bf hc) ?_; refine .seq ?_; refine .region ?_; refine vk (vmvd) ?_; refine vk (vbi) ?_; refine asd ?_; refine rn ?_; refine .gh (Gh.keep [2, 3, 4, 5, 48] rfl) ?_
  by_cases hc : x2.1 = 1
  · replace h := ite_t hc h
    refine cnt (decide_eq_true hc) ?_; refine .seq ?_; refine .region ?_; refine vk (vfa gF_Arr_0) ?_; refine vk (vldp ga_Is) ?_; refine asd ?_; refine asd ?_; refine rn ?_; refine .gh (Gh.keep [4, 5] rfl) ?_; refine .ret ?_
    cases h
    exact ⟨by decide, rfl, rfl, rfl⟩
  replace h := ite_f hc h
  refine cnf (decide_eq_false hc) ?_; refine .seq ?_; refine .region ?_; refine vk (vfa gF_Arr_0) ?_; refine vk (vldp ga_Is) ?_; refine vk (vlnE (Is_length _) (Is_sz _) gu_Is) ?_; refine vk (vfa gF_Arr_0) ?_; refine vk (vldp ga_Is) ?_; refine vk (vlnE (Is_length _) (Is_sz _) gu_Is) ?_; refine vk (vbi) ?_; refine asd ?_; refine rn ?_; refine .gh (Gh.keep [4, 5, 53] rfl) ?_
  by_cases hc : ((List.length a0.shape : Nat) : Int) = ((List.length a1.shape : Nat) : Int)
  · replace h := ite_t hc h
    refine cnf (ntf (decide_eq_true hc)) ?_; refine .skip ?_
    show AW _ _ _ _ _ _
    refine .seq ?_; refine .region ?_; refine asn ?_; refine asd ?_; refine rn ?_; refine .gh (Gh.keep [4, 5] rfl) ?_; refine .gh (Gh.nlD (t := 4) rfl) ?_; refine .ret ?_
    cases h
    exact ⟨by decide, rfl, rfl, rfl⟩
  replace h := ite_f hc h
  refine cnt (ntt (decide_eq_false hc)) ?_; refine .seq ?_; refine .region ?_; refine asn ?_; refine asd ?_; refine rn ?_; refine .gh (Gh.keep [4, 5] rfl) ?_; refine .gh (Gh.nlD (t := 4) rfl) ?_; refine .ret ?_
  cases h
  exact ⟨by decide, rfl, rfl, rfl⟩
end Go.FL
/-
  The tables of scalar functions, with what the functions compute.
-/
namespace Go.FL
open Go Go.Proofs

def isF (d : DV) : Prop := ∃ f fs cs, d = .fn f fs cs
def twosF (c : RT) : List (Int × FT_R_R__R_Errno) := [(43, ⟨.fn 132 [] [], fun x => scalar_twos_1 x.1 x.2⟩), (215, ⟨.fn 134 [] [], fun x => scalar_twos_2 x.1 x.2⟩), (45, ⟨.fn 136 [] [], fun x => rat_Sub x.1 x.2⟩), (247, ⟨.fn 88 [] [], fun x => rat_Div x.1 x.2⟩), (124, ⟨.fn 137 [] [], fun x => rat_Residue x.1 x.2⟩), (42, ⟨.fn 138 [] [], fun x => rat_Power x.1 x.2⟩), (33, ⟨.fn 139 [] [], fun x => rat_Binomial x.1 x.2⟩), (8968, ⟨.fn 210 [] [.ptr [.i .i64 1]], fun x => scalar_extreme_1 x.1 x.2 1⟩), (8970, ⟨.fn 210 [] [.ptr [.i .i64 (-1)]], fun x => scalar_extreme_1 x.1 x.2 (-1)⟩), (60, ⟨.fn 212 [] [.ptr [.fn 142 [] []], .ptr [.b c.1, .sl (L c.2.1), .sl (L c.2.2)]], fun x => scalar_comparing_1 x.1 x.2 ⟨.fn 142 [] [], fun y => scalar_twos_3 y⟩ c⟩), (8804, ⟨.fn 212 [] [.ptr [.fn 143 [] []], .ptr [.b c.1, .sl (L c.2.1), .sl (L c.2.2)]], fun x => scalar_comparing_1 x.1 x.2 ⟨.fn 143 [] [], fun y => scalar_twos_4 y⟩ c⟩), (61, ⟨.fn 212 [] [.ptr [.fn 144 [] []], .ptr [.b c.1, .sl (L c.2.1), .sl (L c.2.2)]], fun x => scalar_comparing_1 x.1 x.2 ⟨.fn 144 [] [], fun y => scalar_twos_5 y⟩ c⟩), (8805, ⟨.fn 212 [] [.ptr [.fn 145 [] []], .ptr [.b c.1, .sl (L c.2.1), .sl (L c.2.2)]], fun x => scalar_comparing_1 x.1 x.2 ⟨.fn 145 [] [], fun y => scalar_twos_6 y⟩ c⟩), (62, ⟨.fn 212 [] [.ptr [.fn 146 [] []], .ptr [.b c.1, .sl (L c.2.1), .sl (L c.2.2)]], fun x => scalar_comparing_1 x.1 x.2 ⟨.fn 146 [] [], fun y => scalar_twos_7 y⟩ c⟩), (8800, ⟨.fn 212 [] [.ptr [.fn 147 [] []], .ptr [.b c.1, .sl (L c.2.1), .sl (L c.2.2)]], fun x => scalar_comparing_1 x.1 x.2 ⟨.fn 147 [] [], fun y => scalar_twos_8 y⟩ c⟩), (8743, ⟨.fn 214 [] [.ptr [.fn 149 [] []]], fun x => scalar_logical_1 x.1 x.2 ⟨.fn 149 [] [], fun y => scalar_twos_9 y.1 y.2⟩⟩), (8744, ⟨.fn 214 [] [.ptr [.fn 150 [] []]], fun x => scalar_logical_1 x.1 x.2 ⟨.fn 150 [] [], fun y => scalar_twos_10 y.1 y.2⟩⟩), (9074, ⟨.fn 214 [] [.ptr [.fn 151 [] []]], fun x => scalar_logical_1 x.1 x.2 ⟨.fn 151 [] [], fun y => scalar_twos_11 y.1 y.2⟩⟩), (9073, ⟨.fn 214 [] [.ptr [.fn 152 [] []]], fun x => scalar_logical_1 x.1 x.2 ⟨.fn 152 [] [], fun y => scalar_twos_12 y.1 y.2⟩⟩)]
theorem twosF_nd (c : RT) : ((twosF c).map (·.1)).Nodup := by show List.Nodup [(43 : Int), (215 : Int), (45 : Int), (247 : Int), (124 : Int), (42 : Int), (33 : Int), (8968 : Int), (8970 : Int), (60 : Int), (8804 : Int), (61 : Int), (8805 : Int), (62 : Int), (8800 : Int), (8743 : Int), (8744 : Int), (9074 : Int), (9073 : Int)]; decide
theorem twosF_all (c : RT) : ∀ p ∈ twosF c, FO_R_R__R_Errno p.2 ∧ isF p.2.dv := by
  intro p hp
  simp only [twosF, List.mem_cons, List.not_mem_nil, or_false] at hp
  rcases hp with rfl | rfl | rfl | rfl | rfl | rfl | rfl | rfl | rfl | rfl | rfl | rfl | rfl | rfl | rfl | rfl | rfl | rfl | rfl
  · exact ⟨FWOK Tryz.call132 (fun _ _ h => scalar_twos_1_ok h), _, _, _, rfl⟩
  · exact ⟨FWOK Tryz.call134 (fun _ _ h => scalar_twos_2_ok h), _, _, _, rfl⟩
  · exact ⟨FWOK Tryz.call136 (fun _ _ h => rat_Sub_ok h), _, _, _, rfl⟩
  · exact ⟨FWOK Tryz.call88 (fun _ _ h => rat_Div_ok h), _, _, _, rfl⟩
  · exact ⟨FWOK Tryz.call137 (fun _ _ h => rat_Residue_ok h), _, _, _, rfl⟩
  · exact ⟨FWOK Tryz.call138 (fun _ _ h => rat_Power_ok h), _, _, _, rfl⟩
  · exact ⟨FWOK Tryz.call139 (fun _ _ h => rat_Binomial_ok h), _, _, _, rfl⟩
  · exact ⟨FWOK Tryz.call210 (fun _ _ h => scalar_extreme_1_ok h), _, _, _, rfl⟩
  · exact ⟨FWOK Tryz.call210 (fun _ _ h => scalar_extreme_1_ok h), _, _, _, rfl⟩
  · exact ⟨FWOK Tryz.call212 (fun _ _ h => scalar_comparing_1_ok (FWOK Tryz.call142 (fun _ _ h => scalar_twos_3_ok h)) h), _, _, _, rfl⟩
  · exact ⟨FWOK Tryz.call212 (fun _ _ h => scalar_comparing_1_ok (FWOK Tryz.call143 (fun _ _ h => scalar_twos_4_ok h)) h), _, _, _, rfl⟩
  · exact ⟨FWOK Tryz.call212 (fun _ _ h => scalar_comparing_1_ok (FWOK Tryz.call144 (fun _ _ h => scalar_twos_5_ok h)) h), _, _, _, rfl⟩
  · exact ⟨FWOK Tryz.call212 (fun _ _ h => scalar_comparing_1_ok (FWOK Tryz.call145 (fun _ _ h => scalar_twos_6_ok h)) h), _, _, _, rfl⟩
  · exact ⟨FWOK Tryz.call212 (fun _ _ h => scalar_comparing_1_ok (FWOK Tryz.call146 (fun _ _ h => scalar_twos_7_ok h)) h), _, _, _, rfl⟩
  · exact ⟨FWOK Tryz.call212 (fun _ _ h => scalar_comparing_1_ok (FWOK Tryz.call147 (fun _ _ h => scalar_twos_8_ok h)) h), _, _, _, rfl⟩
  · exact ⟨FWOK Tryz.call214 (fun _ _ h => scalar_logical_1_ok (FWOK Tryz.call149 (fun _ _ h => scalar_twos_9_ok h)) h), _, _, _, rfl⟩
  · exact ⟨FWOK Tryz.call214 (fun _ _ h => scalar_logical_1_ok (FWOK Tryz.call150 (fun _ _ h => scalar_twos_10_ok h)) h), _, _, _, rfl⟩
  · exact ⟨FWOK Tryz.call214 (fun _ _ h => scalar_logical_1_ok (FWOK Tryz.call151 (fun _ _ h => scalar_twos_11_ok h)) h), _, _, _, rfl⟩
  · exact ⟨FWOK Tryz.call214 (fun _ _ h => scalar_logical_1_ok (FWOK Tryz.call152 (fun _ _ h => scalar_twos_12_ok h)) h), _, _, _, rfl⟩
theorem twosF_ok {c : RT} {z : Int} {f : FT_R_R__R_Errno} (h : tabAt (twosF c) z = some f) : FO_R_R__R_Errno f ∧ isF f.dv := twosF_all c _ (tab_mem h)
theorem twos_tab {c : RT} : Fn Tryz.prog 59 [.ag [.b c.1, .sl (L c.2.1), .sl (L c.2.2)]] (.d (tabV .i32 (twosF c))) := twos_fn
theorem gzTwo : ∀ w, (zeroValue 73).run Tryz.prog w = .ok .nilFunc w := zero_of (by kernel_rfl)
end Go.FL
/-
  GP: scalar functions: One, Two.
-/
namespace Go.FL
open Go Go.Proofs

def scalar_Two (a0 : (Int × RT × Int)) (a1 : Int) (a2 : RT) (a3 : RT) : Option (RT × Int) := (optC (tabAt (twosF a0.2.1) a1) (some ((false, [], []), 23)) fun f1 => ((ratRight a0.2.1).bind fun x2 => (Option.bind ((if x2 = true then ((ratRight a2).bind fun x4 => (if x4 = true then ((ratRight a3).bind fun x5 => (some (!x5))) else (some true))) else (some true)) : Option (Bool)) fun (z2 : Bool) => (if z2 = true then (some ((false, [], []), 22)) else ((f1.g (a2, a3)).bind fun x6 => (some (x6.1, x6.2)))))))
theorem scalar_Two_ok {a0 : (Int × RT × Int)} {a1 : Int} {a2 : RT} {a3 : RT} {r : RT × Int} (h : scalar_Two a0 a1 a2 a3 = some r) :
    Fn Tryz.prog 24 [.ag [.i .i64 a0.1, .b a0.2.1.1, .sl (L a0.2.1.2.1), .sl (L a0.2.1.2.2), .i .i64 a0.2.2], .i .i32 a1, .ag [.b a2.1, .sl (L a2.2.1), .sl (L a2.2.2)], .ag [.b a3.1, .sl (L a3.2.1), .sl (L a3.2.2)]] (.tup [.d (.ag [.b r.1.1, .sl (L r.1.2.1), .sl (L r.1.2.2)]), .d (.i .i64 r.2)]) := by
  unfold scalar_Two at h
  refine Fn.ofC (rs := [.cell 8 32, .tmp 9]) (nt := 42) Tryz.func24 rfl rfl rfl (by simp) rfl ?_; refine .seq ?_; refine .region ?_; refine vk (vbx) ?_; refine vk (vbx) ?_; refine vk (vbx) ?_; refine vk (van (zero_of gI_R) gZ_R) ?_; refine asd ?_; refine rn ?_; refine .gh (Gh.keep [1, 4, 6, 7, 8, 9] rfl) ?_; refine .seq ?_; refine .region ?_; refine vk (vfa gF_Ev_1) ?_; refine vk (vlda gA_R gS_R) ?_; refine vk (vcl0 twos_tab Tryz.call59) ?_; refine vk (vmvd) ?_
  rcases hmf1 : (tabAt (twosF a0.2.1) a1) with _ | f1
  · replace h := optC_n hmf1 h
    refine vk (vtabN gmTwo gkR gzTwo hmf1) ?_; refine asd ?_; refine rn ?_; refine .gh (Gh.keep [4, 6, 7, 8, 9, 10] rfl) ?_; refine .seq ?_; refine .block ?_; refine .seq ?_; refine .region ?_; refine vk (vmvd) ?_; refine vk (vfqn gfn_FT_R_R__R_Errno) ?_; refine asd ?_; refine rn ?_; refine .gh (Gh.keep [4, 6, 7, 8, 9, 10, 16] rfl) ?_; refine cndt ?_; refine .seq ?_; refine .region ?_; refine vk (vbd gP_R gI_R gZ_R) ?_
    refine stn ?_ gS_R (by decide)
    refine asd ?_; refine rn ?_; refine .gh (Gh.keep [6, 7, 8, 9, 10] rfl) ?_; refine .ret ?_
    cases h
    exact ⟨_, _, ⟨.inr rfl, gA_R, gS_R, (by decide : (0 : Nat) < 3)⟩, rfl, rfl⟩
  replace h := optC_s hmf1 h
  obtain ⟨of1, isf1⟩ := twosF_ok hmf1
  refine vk (vtabS (twosF_nd _) gmTwo gkR hmf1) ?_; refine asd ?_; refine rn ?_; refine .gh (Gh.keep [4, 6, 7, 8, 9, 10] rfl) ?_; refine .seq ?_; refine .block ?_; refine .seq ?_; refine .region ?_; refine vk (vmvd) ?_; refine vk (vfqv gfn_FT_R_R__R_Errno isf1) ?_; refine asd ?_; refine rn ?_; refine .gh (Gh.keep [4, 6, 7, 8, 9, 10, 16] rfl) ?_; refine cndf ?_; refine .seq ?_
  obtain ⟨x2, hx2, h⟩ := bnd h
  obtain ⟨z2, hz, h⟩ := bnd h
  refine AW.mr (σ := Unit) (fun _ => True) (fun _ => [(6, .d (.ptr [.b a2.1, .sl (L a2.2.1), .sl (L a2.2.2)])), (7, .d (.ptr [.b a3.1, .sl (L a3.2.1), .sl (L a3.2.2)])), (8, .nb [.b false, .sl (L []), .sl (L [])]), (9, .d (.i .i64 0)), (10, .d (f1.dv)), (20, .d (.b z2))]) (fun _ => []) ?_ ?_
  · skip
    refine .region ?_; refine vk (vfa gF_Ev_1) ?_; refine vk (vlda gA_R gS_R) ?_; refine vk (vcl0 (ratRight_ok hx2) Tryz.call45) ?_; refine vk (vnt) ?_
    by_cases hc : x2 = true
    · replace hz := ite_t hc hz
      have hb0 : (!x2) = false := (ntf hc)
      refine vk (VOK.lit (vmvd) hb0) ?_; refine vk (vlda gA_R gS_R) ?_
      obtain ⟨x4, hx4, hz⟩ := bnd hz
      refine vk (vcl0 (ratRight_ok hx4) Tryz.call45) ?_; refine vk (vnt) ?_; refine vk (vpkd) ?_
      by_cases hc : x4 = true
      · replace hz := ite_t hc hz
        have hb1 : (!x4) = false := (ntf hc)
        refine vk (VOK.lit (vmvd) hb1) ?_; refine vk (vlda gA_R gS_R) ?_
        obtain ⟨x5, hx5, hz⟩ := bnd hz
        refine vk (vcl0 (ratRight_ok hx5) Tryz.call45) ?_; refine vk (vnt) ?_; refine vk (vpkd) ?_; refine asd ?_; refine RL.gh (Gh.keep [6, 7, 8, 9, 10, 20] rfl) ?_; refine .nil ?_
        cases hz
        exact jr () trivial
      replace hz := ite_f hc hz
      have hb1 : (!x4) = true := (ntt (bf hc))
      refine vk (VOK.lit (vmvd) hb1) ?_; refine gf ?_; refine gf ?_; refine gf ?_; refine vk (vpkd) ?_; refine asd ?_; refine RL.gh (Gh.keep [6, 7, 8, 9, 10, 20] rfl) ?_; refine .nil ?_
      cases hz
      exact jr () trivial
    replace hz := ite_f hc hz
    have hb0 : (!x2) = true := (ntt (bf hc))
    refine vk (VOK.lit (vmvd) hb0) ?_; refine gf ?_; refine gf ?_; refine gf ?_; refine vk (vpkd) ?_; refine vk (vmvd) ?_; refine gf ?_; refine gf ?_; refine gf ?_; refine vk (vpkd) ?_; refine asd ?_; refine RL.gh (Gh.keep [6, 7, 8, 9, 10, 20] rfl) ?_; refine .nil ?_
    cases hz
    exact jr () trivial
  rintro _ _
  by_cases hc : z2 = true
  · replace h := ite_t hc h
    refine cnt hc ?_; refine .seq ?_; refine .region ?_; refine vk (vbd gP_R gI_R gZ_R) ?_
    refine stn ?_ gS_R (by decide)
    refine asd ?_; refine rn ?_; refine .gh (Gh.keep [6, 7, 8, 9, 10] rfl) ?_; refine .ret ?_
    cases h
    exact ⟨_, _, ⟨.inr rfl, gA_R, gS_R, (by decide : (0 : Nat) < 3)⟩, rfl, rfl⟩
  replace h := ite_f hc h
  refine cnf (bf hc) ?_; refine .skip ?_
  show AW _ _ _ _ _ _
  refine .seq ?_; refine .region ?_; refine vk (vmvd) ?_; refine vk (vlda gA_R gS_R) ?_; refine vk (vlda gA_R gS_R) ?_
  obtain ⟨x6, hx6, h⟩ := bnd h
  refine vk (VOK.tupd (vs := [.ag [.b x6.1.1, .sl (L x6.1.2.1), .sl (L x6.1.2.2)], .i .i64 x6.2]) (vclv (of1 _ _ hx6))) ?_; refine vk (vex) ?_; refine vk (vex) ?_
  refine stn ?_ gS_R (by decide)
  refine asd ?_; refine rn ?_; refine .gh (Gh.keep [8, 9] rfl) ?_; refine .ret ?_
  cases h
  exact ⟨_, _, ⟨.inr rfl, gA_R, gS_R, (by decide : (0 : Nat) < 3)⟩, rfl, rfl⟩
end Go.FL
/-
  A FUNCTIONAL LOGIC: the first elements of a slice of the call's own go over.
-/
namespace Go.FL
open Go Go.RowKit

section
variable {P : Program} {C : Cx} {X : Snap} {o : Oper} {ops : Array Oper} {Q : Exit → Env → Heap → Prop} {env env' : Env} {H H' : Heap} {a : Act} {w w' : World} {I I' : Nat → Prop} {μ μ' : List Nat} {O O' : Nat → Option Loc}
  {K : Env → Heap → Prop} {k : Nat} {l : List Oper}
theorem ok_slc_own {s t ty e sz by_ : Nat} {hi : Operand} {ah : Option AO} {xs : List DV} {h : Int} (ho : o.op = .slice ty (.tmp s) none (some hi) none) (hfh : fitsOo (some hi) ah = true) (hd : o.dst = some t) (ht : okT C.nt t) (hty : sliceT P ty = some (e, sz, by_)) (hv : get env s = .own e xs)
    (hh : lookB env xs.length ah = some h) (h0 : 0 ≤ h) (h1 : h ≤ xs.length) (hK : K (put (put env s .un) t (.own e (xs.take h.toNat))) H) : OpOK P C o env H K :=
  .val (by simp [ho]) hd ht (fun X a w I μ O _ _ _ hs => by
    obtain ⟨inf, s1, s2, s3, _, s5⟩ := sliceT_spec hty
    have b1 := hs.bound (x := none) (ax := none) rfl (dflt := 0) (n := 0) rfl
    have b2 := hs.bound hfh hh
    obtain ⟨q1, q2⟩ := hs.take s (by rw [hv]; rfl)
    rw [hv] at q2
    have hform : ∃ A c, a.tmps.getD s undef = .slice A xs.length c ∧ xs.length ≤ c ∧ A.map (·.add 0) = A := by
      obtain ⟨bs, k1, _, _⟩ := q2
      generalize a.tmps.getD s undef = v at k1
      cases k1 with
      | own _ _ _ vs hsz hown hr =>
        rcases hown with ⟨A, rfl, hn, _⟩ | ⟨hr2, g, cap, rfl, hc⟩
        · refine ⟨A, 0, by rw [hn], by omega, ?_⟩
          cases A <;> simp [Addr.add]
        · refine ⟨some ⟨g, 0, none⟩, cap, rfl, ?_, by simp [Addr.add]⟩
          rcases hr2.2 with ⟨h2, h3⟩ | ⟨g', cap', cur, h2, _, _, h5, _⟩
          · omega
          · simp only [Value.slice.injEq] at h2
            omega
    obtain ⟨A, c, hval, hcap, hA⟩ := hform
    have e1 : h ≤ (c : Int) := by omega
    have hb := run_bounds (P := P) (w := w) (isS := true) (len := xs.length) (cap := c) (Int.le_refl 0) h0 b1 (b2.imp (fun ⟨x, y⟩ => ⟨x, y, rfl⟩) fun h => h) (m := (c : Int)) (mx := none) (.inl ⟨rfl, rfl⟩) e1 (Int.le_refl _)
    have hev : a.eval (.tmp s) = .slice A xs.length c := hval
    refine ⟨.slice A h.toNat c, w, I, μ, _, ?_, q1, ?_⟩
    · have hr := run_slc s1 s2 hb (A := A)
      simp only [Option.map_none, Option.map_some] at hr
      simp only [execOp, ho, hev, Sem.run_bind, Option.map_none, Option.map_some, hr, Result.andThen_ok, Sem.run_pure]
      have e2 : (if (c : Int).toNat = (0 : Int).toNat then A else A.map (·.add ((0 : Int).toNat * inf.size))) = A := by
        split
        · rfl
        · simpa using hA
      rw [e2]; simp
    · rw [hval] at q2
      exact q2.prefix_ (by omega)) hK
theorem slo {s t ty e sz by_ : Nat} {hi : Operand} {xs : List DV} {z : Int} (k' : Nat) (hz : z = k') (hle : k' ≤ xs.length) (h : RL P C ops Q (k + 1) l ((t, .own e (xs.take k')) :: (s, .un) :: env) H) (hty : sliceT P ty = some (e, sz, by_)) (hg : grd ops env o true = true := by rfl)
    (ho : o.op = .slice ty (.tmp s) none (some hi) none := by rfl) (hv : get env s = .own e xs := by rfl) (hh : lookB env xs.length (some (aoOf hi)) = some z := by rfl) (hfh : fitsOo (some hi) (some (aoOf hi)) = true := by rfl) (hd : o.dst = some t := by rfl)
    (hf : isOwn (get env t) = false := by rfl) (hr : refsTo s env = false := by rfl) (ht : okT C.nt t := by rfl) : RL P C ops Q k (o :: l) env H := by
  subst hz
  have hst := ne_of_own hv hf
  refine .go hg (ok_slc_own ho hfh hd ht hty hv hh (by omega) (by omega) ?_)
  rw [Int.toNat_natCast]
  refine RL.gh (Gh.same fun r => ?_) h
  have h1 : isOwn (get (put env s .un) t) = false := by rw [put_noRefs hr]; simp [get, hst, hf]
  rw [put_cons h1]
  simp only [get]
  split
  · rfl
  · have := put_noRefs (v := .un) hr r
    simp only [get] at this
    exact this.symm
end
end Go.FL
/-
  GP: scalar functions: through arrays.
-/
namespace Go.FL
open Go Go.Proofs

def scalar_filled_l1 (a1 : FT_int__Itm_Errno) (x1 : Int × Int) (K0 : Arr → Int → (List Itm) → Option (Arr × Int)) : Nat → Arr → Int → (List Itm) → Int → Option (Arr × Int)
  | 0, _, _, _, _ => none
  | k + 1, s8, s9, s10, s11 => (if s11 < x1.1 then ((a1.g s11).bind fun x12 => (if x12.2 = 0 then ((ap? 1466015503701 s10 [x12.1]).bind fun x13 => (scalar_filled_l1 a1 x1 K0 k s8 s9 x13 (w64 (s11 + 1)))) else (some ((Arr.mk [] []), x12.2)))) else (K0 s8 s9 s10))
def scalar_filled (a0 : (List Int)) (a1 : FT_int__Itm_Errno) : Option (Arr × Int) := ((array_Size a0).bind fun x1 => ((ratOfInt 0).bind fun x2 => ((scalar_number x2).bind fun x3 => ((grd? (0 ≤ (if (w64 (1 - (if 1 < x1.1 then 1 else x1.1))) < 1 then (w64 (1 - (if 1 < x1.1 then 1 else x1.1))) else 1) ∧ (if (w64 (1 - (if 1 < x1.1 then 1 else x1.1))) < 1 then (w64 (1 - (if 1 < x1.1 then 1 else x1.1))) else 1) ≤ ((List.length [x3] : Nat) : Int))).bind fun x4 => (jn (fun (z5 : Arr) (z6 : Int) (z7 : (List Itm)) => ((array_Make a0 z7).bind fun x14 => (some (x14.1, x14.2)))) fun K0 => (scalar_filled_l1 a1 x1 K0 FUEL (Arr.mk [] []) 0 (List.take (Int.toNat (if (w64 (1 - (if 1 < x1.1 then 1 else x1.1))) < 1 then (w64 (1 - (if 1 < x1.1 then 1 else x1.1))) else 1)) ([x3])) 0))))))
theorem scalar_filled_ok {a0 : (List Int)} {a1 : FT_int__Itm_Errno} (oa1 : FO_int__Itm_Errno a1) {r : Arr × Int} (h : scalar_filled a0 a1 = some r) :
    Fn Tryz.prog 92 [.sl (Is a0), a1.dv] (.tup [.d (.ag [.sl (Is r.1.shape), .sl (Its r.1.items)]), .d (.i .i64 r.2)]) := by
  unfold scalar_filled at h
  refine Fn.ofC (rs := [.cell 4 25, .tmp 5]) (nt := 49) Tryz.func92 rfl rfl rfl (by simp) rfl ?_; refine .seq ?_; refine .region ?_; refine vk (van (zero_of gI_Arr) gZ_Arr) ?_; refine asd ?_; refine rn ?_; refine .gh (Gh.keep [0, 1, 4, 5] rfl) ?_; refine .seq ?_; refine .region ?_; refine vk (vmvd) ?_
  obtain ⟨x1, hx1, h⟩ := bnd h
  refine vk (VOK.tupd (vs := [.i .i64 x1.1, .i .i64 x1.2]) (vcl0 (array_Size_ok hx1) Tryz.call98)) ?_; refine vk (vmvd) ?_; refine vk (vex) ?_; refine vk (vex) ?_; refine asd ?_; refine asd ?_; refine rn ?_; refine .gh (Gh.keep [0, 1, 4, 5, 6] rfl) ?_; refine .seq ?_; refine .region ?_
  obtain ⟨x2, hx2, h⟩ := bnd h
  refine vk (vcl0 (ratOfInt_ok hx2) Tryz.call72) ?_
  obtain ⟨x3, hx3, h⟩ := bnd h
  refine vk (vcl0 (scalar_number_ok hx3) Tryz.call94) ?_; refine vk (vbslE (Its_bs1 x3) (Its_flat [x3]) ge_Its) ?_; refine vk (vmvd) ?_; refine vk (vmn) ?_; refine vk (vbi) ?_; refine vk (vmn) ?_
  obtain ⟨x4, hx4, h⟩ := bnd h
  have ghx4 := grd_ok hx4
  refine slo (xs := Its [x3]) (z := (if (w64 (1 - (if 1 < x1.1 then 1 else x1.1))) < 1 then (w64 (1 - (if 1 < x1.1 then 1 else x1.1))) else 1)) (Int.toNat (if (w64 (1 - (if 1 < x1.1 then 1 else x1.1))) < 1 then (w64 (1 - (if 1 < x1.1 then 1 else x1.1))) else 1)) (by omega) (by rw [Its_length]; omega) ?_ gs_Its
  rw [Its_tk]
  refine aso ?_; refine rn ?_; refine .gh (Gh.keep [0, 1, 4, 5, 6, 8] rfl) ?_; refine .seq ?_; refine .seq ?_; refine .region ?_; refine vk (vmvd) ?_; refine vk (vmvd) ?_; refine rn ?_; refine .gh (Gh.keep [0, 1, 4, 5, 8, 25, 26] rfl) ?_
  obtain ⟨K0, hK0, h⟩ := jn_out h
  refine AW.mr (σ := Arr × Int × (List Itm)) (fun p => K0 p.1 p.2.1 p.2.2 = some r) (fun p => [(0, .d (.sl (Is a0))), (4, .nb [.sl (Is p.1.shape), .sl (Its p.1.items)]), (5, .d (.i .i64 p.2.1)), (8, .own 83 (Its p.2.2))]) (fun p => []) ?_ ?_
  · skip
    refine .block ?_
    refine .loop (.gh (Gh.keep [0, 1, 4, 5, 8, 25, 26] rfl) ?_)
    refine AL.ind (σ := Nat × Arr × Int × (List Itm) × Int) (m := fun p => p.1) (e := fun p => [(0, .d (.sl (Is a0))), (1, .d (a1.dv)), (4, .nb [.sl (Is p.2.1.shape), .sl (Its p.2.1.items)]), (5, .d (.i .i64 p.2.2.1)), (8, .own 83 (Its p.2.2.2.1)), (25, .d (.i .i64 x1.1)), (26, .d (.i .i64 p.2.2.2.2))]) (h := fun p => []) (I := fun p => scalar_filled_l1 a1 x1 K0 p.1 p.2.1 p.2.2.1 p.2.2.2.1 p.2.2.2.2 = some r) ?_ (FUEL, (Arr.mk [] []), 0, (List.take (Int.toNat (if (w64 (1 - (if 1 < x1.1 then 1 else x1.1))) < 1 then (w64 (1 - (if 1 < x1.1 then 1 else x1.1))) else 1)) ([x3])), 0) h
    rintro ⟨k, s8, s9, s10, s11⟩ h ih
    dsimp only at h ih ⊢
    rcases k with _ | k
    · rw [scalar_filled_l1] at h; cases h
    rw [scalar_filled_l1] at h
    refine .seq ?_; refine .region ?_; refine vk (vbi) ?_; refine rn ?_; refine .gh (Gh.keep [0, 1, 4, 5, 8, 25, 26, 27] rfl) ?_; refine .seq ?_
    by_cases hc : s11 < x1.1
    · replace h := ite_t hc h
      refine cnt (decide_eq_true hc) ?_; refine .skip ?_
      show AW _ _ _ _ _ _
      refine .seq ?_; refine .block ?_; refine .seq ?_; refine .region ?_; refine vk (vmvd) ?_; refine asd ?_; refine rn ?_; refine .gh (Gh.keep [0, 1, 4, 5, 8, 9, 25, 26] rfl) ?_; refine .seq ?_; refine .region ?_; refine vk (vmvd) ?_; refine vk (vmvd) ?_
      obtain ⟨x12, hx12, h⟩ := bnd h
      refine vk (VOK.tupd (vs := [.ag [.i .u8 x12.1.kind, .b x12.1.num.1, .sl (L x12.1.num.2.1), .sl (L x12.1.num.2.2), .i .i32 x12.1.char, .sl (Ars x12.1.box)], .i .i64 x12.2]) (vclv (oa1 _ _ hx12))) ?_; refine vk (vmvd) ?_; refine vk (vex) ?_; refine vk (vex) ?_; refine vk (van (zero_of gI_Itm) gZ_Itm) ?_
      refine stn ?_ gS_Itm (by decide)
      refine asd ?_; refine rn ?_; refine .gh (Gh.keep [0, 1, 4, 5, 8, 10, 11, 25, 26] rfl) ?_; refine .seq ?_; refine .seq ?_; refine .region ?_; refine vk (vmvd) ?_; refine vk (vbi) ?_; refine rn ?_; refine .gh (Gh.keep [0, 1, 4, 5, 8, 10, 11, 25, 26, 36] rfl) ?_
      by_cases hc : x12.2 = 0
      · replace h := ite_t hc h
        refine cnf (ntf (decide_eq_true hc)) ?_; refine .skip ?_
        show AW _ _ _ _ _ _
        refine .region ?_; refine mvo ?_; refine vk (vldn gA_Itm gS_Itm) ?_; refine vk ((vbslE (Its_bs1 x12.1) (Its_flat [x12.1]) ge_Its).deep) ?_
        obtain ⟨x13, hx13, h⟩ := bnd h
        refine apr' Its_app hx13 gB_Its ?_ Its_sz1 Its_length ge_Its
        refine aso ?_; refine .nil ?_
        show AW _ _ _ _ _ _
        refine .gh (Gh.keep [0, 1, 4, 5, 8, 25, 26] rfl) ?_; refine .region ?_; refine vk (vbi) ?_; refine vk (vmvd) ?_; refine .nil ?_; refine AL.gh (Gh.keep [0, 1, 4, 5, 8, 25, 26] rfl) ?_
        exact ih (k, s8, s9, x13, (w64 (s11 + 1))) h (Nat.lt_succ_self _)
      replace h := ite_f hc h
      refine cnt (ntt (decide_eq_false hc)) ?_; refine .seq ?_; refine .region ?_; refine vk (vbd gP_Arr gI_Arr gZ_Arr) ?_; refine vk (vmvd) ?_
      refine stn ?_ gS_Arr (by decide)
      refine asd ?_; refine rn ?_; refine .gh (Gh.keep [0, 1, 4, 5, 8, 10, 25, 26] rfl) ?_; refine .ret ?_
      cases h
      exact ⟨_, _, ⟨.inr rfl, gA_Arr, gS_Arr, (by decide : (0 : Nat) < 2)⟩, rfl, rfl⟩
    replace h := ite_f hc h
    refine cnf (decide_eq_false hc) ?_; refine .gh (Gh.keep [0, 4, 5, 8] rfl) ?_; refine .exit ?_
    exact jr (s8, s9, s10) h
  rintro ⟨z5, z6, z7⟩ h
  try dsimp only at h ⊢
  subst hK0
  show AW _ _ _ _ _ _
  refine .seq ?_; refine .region ?_; refine vk (vmvd) ?_; refine fz (p := .t 8) ?_; refine vk (vmvd) ?_
  obtain ⟨x14, hx14, h⟩ := bnd h
  refine vk (VOK.tupd (vs := [.ag [.sl (Is x14.1.shape), .sl (Its x14.1.items)], .i .i64 x14.2]) (vcl0 (array_Make_ok hx14) Tryz.call99)) ?_; refine vk (vex) ?_; refine vk (vex) ?_
  refine stn ?_ gS_Arr (by decide)
  refine asd ?_; refine rn ?_; refine .gh (Gh.keep [4, 5] rfl) ?_; refine .ret ?_
  cases h
  exact ⟨_, _, ⟨.inr rfl, gA_Arr, gS_Arr, (by decide : (0 : Nat) < 2)⟩, rfl, rfl⟩

end Go.FL
/-
  GP: scalar functions: through two arrays.
-/
namespace Go.FL
open Go Go.Proofs

def sc_items (rc_scalar_pair_through : (FT_R_R__R_Errno × Int) → Arr → Arr → Option (Arr × Int)) (a0 : (FT_R_R__R_Errno × Int)) (a1 : Itm) (a2 : Itm) : Option (Itm × Int) := (if ((decide (a1.kind = 3)) || (decide (a2.kind = 3))) = true then ((array_Open a1).bind fun x1 => ((array_Open a2).bind fun x2 => ((rc_scalar_pair_through a0 x1 x2).bind fun x3 => ((array_Enclose x3.1).bind fun x4 => (some (x4, x3.2)))))) else (if ((decide (a1.kind = 1)) && (decide (a2.kind = 1))) = true then ((a0.1.g (a1.num, a2.num)).bind fun x5 => ((scalar_number x5.1).bind fun x6 => (some (x6, x5.2)))) else (if ((decide (a0.2 = 61)) || (decide (a0.2 = 8800))) = true then ((scalar_truth (((decide (a1.kind = a2.kind)) && (decide (a1.char = a2.char))) == (decide (a0.2 = 61)))).bind fun x7 => ((scalar_number x7).bind fun x8 => (some (x8, 0)))) else (some ((Itm.mk 0 (false, [], []) 0 []), 3)))))
theorem sc_items_ok {rc_scalar_pair_through : (FT_R_R__R_Errno × Int) → Arr → Arr → Option (Arr × Int)} (orc_scalar_pair_through : ∀ x0 x1 x2 r, FO_R_R__R_Errno x0.1 → rc_scalar_pair_through x0 x1 x2 = some r → Fn Tryz.prog 39 [.ag [x0.1.dv, .i .i32 x0.2], .ag [.sl (Is x1.shape), .sl (Its x1.items)], .ag [.sl (Is x2.shape), .sl (Its x2.items)]] (.tup [.d (.ag [.sl (Is r.1.shape), .sl (Its r.1.items)]), .d (.i .i64 r.2)])) {a0 : (FT_R_R__R_Errno × Int)} {a1 : Itm} {a2 : Itm} (oa0 : FO_R_R__R_Errno a0.1) {r : Itm × Int} (h : sc_items rc_scalar_pair_through a0 a1 a2 = some r) :
    Fn Tryz.prog 116 [.ag [a0.1.dv, .i .i32 a0.2], .ag [.i .u8 a1.kind, .b a1.num.1, .sl (L a1.num.2.1), .sl (L a1.num.2.2), .i .i32 a1.char, .sl (Ars a1.box)], .ag [.i .u8 a2.kind, .b a2.num.1, .sl (L a2.num.2.1), .sl (L a2.num.2.2), .i .i32 a2.char, .sl (Ars a2.box)]] (.tup [.d (.ag [.i .u8 r.1.kind, .b r.1.num.1, .sl (L r.1.num.2.1), .sl (L r.1.num.2.2), .i .i32 r.1.char, .sl (Ars r.1.box)]), .d (.i .i64 r.2)]) := by
  unfold sc_items at h
  refine Fn.ofC (rs := [.cell 6 83, .tmp 7]) (nt := 85) Tryz.func116 rfl rfl rfl (by simp) rfl ?_; refine .seq ?_; refine .region ?_; refine vk (vbx) ?_; refine vk (vbx) ?_; refine vk (vbx) ?_; refine vk (van (zero_of gI_Itm) gZ_Itm) ?_; refine asd ?_; refine rn ?_; refine .gh (Gh.keep [3, 4, 5, 6, 7] rfl) ?_; refine .seq ?_; refine .block ?_; refine .seq ?_; refine AW.mr (σ := Unit) (fun _ => True) (fun _ => [(3, .d (.ptr [a0.1.dv, .i .i32 a0.2])), (4, .d (.ptr [.i .u8 a1.kind, .b a1.num.1, .sl (L a1.num.2.1), .sl (L a1.num.2.2), .i .i32 a1.char, .sl (Ars a1.box)])), (5, .d (.ptr [.i .u8 a2.kind, .b a2.num.1, .sl (L a2.num.2.1), .sl (L a2.num.2.2), .i .i32 a2.char, .sl (Ars a2.box)])), (6, .nb [.i .u8 0, .b false, .sl (L []), .sl (L []), .i .i32 0, .sl (Ars [])]), (7, .d (.i .i64 0)), (13, .d (.b ((decide (a1.kind = 3)) || (decide (a2.kind = 3)))))]) (fun _ => []) ?_ ?_
  · skip
    refine .region ?_; refine vk (vfa gF_Itm_0) ?_; refine vk (vldp ga_ItemKind) ?_; refine vk (vbi) ?_
    by_cases hc : a1.kind = 3
    · have hb0 : (decide (a1.kind = 3)) = true := (decide_eq_true hc)
      refine vk (VOK.lit (vmvd) hb0) ?_; refine gf ?_; refine gf ?_; refine gf ?_; refine vk (vpkd) ?_; refine asd ?_; refine RL.gh (Gh.keep [3, 4, 5, 6, 7, 13] rfl) ?_; refine .nil ?_
      exact jr () trivial (by simp only [hb0]; rfl)
    have hb0 : (decide (a1.kind = 3)) = false := (decide_eq_false hc)
    refine vk (VOK.lit (vmvd) hb0) ?_; refine vk (vfa gF_Itm_0) ?_; refine vk (vldp ga_ItemKind) ?_; refine vk (vbi) ?_; refine vk (vpkd) ?_; refine asd ?_; refine RL.gh (Gh.keep [3, 4, 5, 6, 7, 13] rfl) ?_; refine .nil ?_
    exact jr () trivial (by simp only [hb0]; rfl)
  rintro _ _
  by_cases hc : ((decide (a1.kind = 3)) || (decide (a2.kind = 3))) = true
  · replace h := ite_t hc h
    refine cnt hc ?_; refine .seq ?_
    obtain ⟨x1, hx1, h⟩ := bnd h
    obtain ⟨x2, hx2, h⟩ := bnd h
    obtain ⟨x3, hx3, h⟩ := bnd h
    refine .drawnF 10 [8] [(8, .nb [.sl (Is x3.1.shape), .sl (Its x3.1.items)])] [] mixed (by kernel_rfl) rfl ?_; refine dv (vlda gA_Pr gS_Pr) ?_; refine dv (vlda gA_Itm gS_Itm) ?_; refine dv (vcl0 (array_Open_ok hx1) Tryz.call194) ?_; refine dv (vlda gA_Itm gS_Itm) ?_; refine dv (vcl0 (array_Open_ok hx2) Tryz.call194) ?_; refine dv (VOK.tupd (vs := [.ag [.sl (Is x3.1.shape), .sl (Its x3.1.items)], .i .i64 x3.2]) (vcl0 (orc_scalar_pair_through _ _ _ _ oa0 hx3) Tryz.call39)) ?_; refine dv (vmvd) ?_; refine dv (vex) ?_; refine dv (vex) ?_; refine dv (van (zero_of gI_Arr) gZ_Arr) ?_; refine dz ?_
    refine ⟨?_, ?_, ?_⟩
    · intro k hk
      simp only [List.mem_cons, List.not_mem_nil, or_false] at hk
      subst hk
      exact ⟨_, _, _, rfl, rfl, rfl, rfl, rfl, rfl, vex⟩
    · intro om e hom hge
      cases hom
      exact ok_stn (cs := [.sl (Is []), .sl (Its [])]) (cs' := [.sl (Is x3.1.shape), .sl (Its x3.1.items)]) gS_Arr (by decide) rfl ((hge 8 (fun k hk v hv => by
          simp only [List.mem_cons, List.not_mem_nil, or_false] at hk
          subst hk; exact (by decide : ¬ (some 30 = some 8)) (congrArg (Option.map Prod.fst) hv))).trans rfl) ((congrArg deepOf (hge 29 (fun k hk v hv => by
          simp only [List.mem_cons, List.not_mem_nil, or_false] at hk
          subst hk; exact (by decide : ¬ (some 30 = some 29)) (congrArg (Option.map Prod.fst) hv)))).trans rfl) rfl rfl rfl rfl ⟨rfl, rfl⟩
    refine asd ?_; refine rn ?_; refine .gh (Gh.keep [6, 7, 8, 9] rfl) ?_; refine .seq ?_; refine .region ?_; refine vk (vldn gA_Arr gS_Arr) ?_
    obtain ⟨x4, hx4, h⟩ := bnd h
    refine vk (vcl0 (array_Enclose_ok hx4) Tryz.call95) ?_; refine vk (vmvd) ?_
    refine stn ?_ gS_Itm (by decide)
    refine asd ?_; refine rn ?_; refine .gh (Gh.keep [6, 7] rfl) ?_; refine .ret ?_
    cases h
    exact ⟨_, _, ⟨.inr rfl, gA_Itm, gS_Itm, (by decide : (0 : Nat) < 6)⟩, rfl, rfl⟩
  replace h := ite_f hc h
  refine cnf (bf hc) ?_; refine .seq ?_; refine AW.mr (σ := Unit) (fun _ => True) (fun _ => [(3, .d (.ptr [a0.1.dv, .i .i32 a0.2])), (4, .d (.ptr [.i .u8 a1.kind, .b a1.num.1, .sl (L a1.num.2.1), .sl (L a1.num.2.2), .i .i32 a1.char, .sl (Ars a1.box)])), (5, .d (.ptr [.i .u8 a2.kind, .b a2.num.1, .sl (L a2.num.2.1), .sl (L a2.num.2.2), .i .i32 a2.char, .sl (Ars a2.box)])), (6, .nb [.i .u8 0, .b false, .sl (L []), .sl (L []), .i .i32 0, .sl (Ars [])]), (7, .d (.i .i64 0)), (34, .d (.b ((decide (a1.kind = 1)) && (decide (a2.kind = 1)))))]) (fun _ => []) ?_ ?_
  · skip
    refine .region ?_; refine vk (vfa gF_Itm_0) ?_; refine vk (vldp ga_ItemKind) ?_; refine vk (vbi) ?_
    by_cases hc : a1.kind = 1
    · have hb0 : (decide (a1.kind = 1)) = true := (decide_eq_true hc)
      refine vk (VOK.lit (vmvd) hb0) ?_; refine vk (vfa gF_Itm_0) ?_; refine vk (vldp ga_ItemKind) ?_; refine vk (vbi) ?_; refine vk (vpkd) ?_; refine asd ?_; refine RL.gh (Gh.keep [3, 4, 5, 6, 7, 34] rfl) ?_; refine .nil ?_
      exact jr () trivial (by simp only [hb0]; rfl)
    have hb0 : (decide (a1.kind = 1)) = false := (decide_eq_false hc)
    refine vk (VOK.lit (vmvd) hb0) ?_; refine gf ?_; refine gf ?_; refine gf ?_; refine vk (vpkd) ?_; refine asd ?_; refine RL.gh (Gh.keep [3, 4, 5, 6, 7, 34] rfl) ?_; refine .nil ?_
    exact jr () trivial (by simp only [hb0]; rfl)
  rintro _ _
  by_cases hc : ((decide (a1.kind = 1)) && (decide (a2.kind = 1))) = true
  · replace h := ite_t hc h
    refine cnt hc ?_; refine .seq ?_; refine .region ?_; refine vk (vfa gF_Pr_0) ?_; refine vk (vldp ga_FT_R_R__R_Errno) ?_; refine vk (vfa gF_Itm_1) ?_; refine vk (vlda gA_R gS_R) ?_; refine vk (vfa gF_Itm_1) ?_; refine vk (vlda gA_R gS_R) ?_
    obtain ⟨x5, hx5, h⟩ := bnd h
    refine vk (VOK.tupd (vs := [.ag [.b x5.1.1, .sl (L x5.1.2.1), .sl (L x5.1.2.2)], .i .i64 x5.2]) (vclv (oa0 _ _ hx5))) ?_; refine vk (vmvd) ?_; refine vk (vex) ?_; refine vk (vex) ?_; refine vk (van (zero_of gI_R) gZ_R) ?_
    refine stn ?_ gS_R (by decide)
    refine asd ?_; refine rn ?_; refine .gh (Gh.keep [6, 7, 10, 11] rfl) ?_; refine .seq ?_; refine .region ?_; refine vk (vldn gA_R gS_R) ?_
    obtain ⟨x6, hx6, h⟩ := bnd h
    refine vk (vcl0 (scalar_number_ok hx6) Tryz.call94) ?_; refine vk (vmvd) ?_
    refine stn ?_ gS_Itm (by decide)
    refine asd ?_; refine rn ?_; refine .gh (Gh.keep [6, 7] rfl) ?_; refine .ret ?_
    cases h
    exact ⟨_, _, ⟨.inr rfl, gA_Itm, gS_Itm, (by decide : (0 : Nat) < 6)⟩, rfl, rfl⟩
  replace h := ite_f hc h
  refine cnf (bf hc) ?_; refine .seq ?_; refine AW.mr (σ := Unit) (fun _ => True) (fun _ => [(3, .d (.ptr [a0.1.dv, .i .i32 a0.2])), (4, .d (.ptr [.i .u8 a1.kind, .b a1.num.1, .sl (L a1.num.2.1), .sl (L a1.num.2.2), .i .i32 a1.char, .sl (Ars a1.box)])), (5, .d (.ptr [.i .u8 a2.kind, .b a2.num.1, .sl (L a2.num.2.1), .sl (L a2.num.2.2), .i .i32 a2.char, .sl (Ars a2.box)])), (6, .nb [.i .u8 0, .b false, .sl (L []), .sl (L []), .i .i32 0, .sl (Ars [])]), (7, .d (.i .i64 0)), (56, .d (.b ((decide (a0.2 = 61)) || (decide (a0.2 = 8800)))))]) (fun _ => []) ?_ ?_
  · skip
    refine .region ?_; refine vk (vfa gF_Pr_1) ?_; refine vk (vldp ga_int32) ?_; refine vk (vbi) ?_
    by_cases hc : a0.2 = 61
    · have hb0 : (decide (a0.2 = 61)) = true := (decide_eq_true hc)
      refine vk (VOK.lit (vmvd) hb0) ?_; refine gf ?_; refine gf ?_; refine gf ?_; refine vk (vpkd) ?_; refine asd ?_; refine RL.gh (Gh.keep [3, 4, 5, 6, 7, 56] rfl) ?_; refine .nil ?_
      exact jr () trivial (by simp only [hb0]; rfl)
    have hb0 : (decide (a0.2 = 61)) = false := (decide_eq_false hc)
    refine vk (VOK.lit (vmvd) hb0) ?_; refine vk (vfa gF_Pr_1) ?_; refine vk (vldp ga_int32) ?_; refine vk (vbi) ?_; refine vk (vpkd) ?_; refine asd ?_; refine RL.gh (Gh.keep [3, 4, 5, 6, 7, 56] rfl) ?_; refine .nil ?_
    exact jr () trivial (by simp only [hb0]; rfl)
  rintro _ _
  by_cases hc : ((decide (a0.2 = 61)) || (decide (a0.2 = 8800))) = true
  · replace h := ite_t hc h
    refine cnt hc ?_; refine .seq ?_; refine AW.mr (σ := Unit) (fun _ => True) (fun _ => [(3, .d (.ptr [a0.1.dv, .i .i32 a0.2])), (6, .nb [.i .u8 0, .b false, .sl (L []), .sl (L []), .i .i32 0, .sl (Ars [])]), (7, .d (.i .i64 0)), (12, .d (.b ((decide (a1.kind = a2.kind)) && (decide (a1.char = a2.char)))))]) (fun _ => []) ?_ ?_
    · skip
      refine .region ?_; refine vk (vfa gF_Itm_0) ?_; refine vk (vldp ga_ItemKind) ?_; refine vk (vfa gF_Itm_0) ?_; refine vk (vldp ga_ItemKind) ?_; refine vk (vbi) ?_
      by_cases hc : a1.kind = a2.kind
      · have hb0 : (decide (a1.kind = a2.kind)) = true := (decide_eq_true hc)
        refine vk (VOK.lit (vmvd) hb0) ?_; refine vk (vfa gF_Itm_2) ?_; refine vk (vldp ga_int32) ?_; refine vk (vfa gF_Itm_2) ?_; refine vk (vldp ga_int32) ?_; refine vk (vbi) ?_; refine vk (vpkd) ?_; refine asd ?_; refine RL.gh (Gh.keep [3, 6, 7, 12] rfl) ?_; refine .nil ?_
        exact jr () trivial (by simp only [hb0]; rfl)
      have hb0 : (decide (a1.kind = a2.kind)) = false := (decide_eq_false hc)
      refine vk (VOK.lit (vmvd) hb0) ?_; refine gf ?_; refine gf ?_; refine gf ?_; refine gf ?_; refine gf ?_; refine vk (vpkd) ?_; refine asd ?_; refine RL.gh (Gh.keep [3, 6, 7, 12] rfl) ?_; refine .nil ?_
      exact jr () trivial (by simp only [hb0]; rfl)
    rintro _ _
    refine .seq ?_; refine .region ?_; refine vk (vmvd) ?_; refine vk (vfa gF_Pr_1) ?_; refine vk (vldp ga_int32) ?_; refine vk (vbi) ?_; refine vk (vbbn (.inl rfl) bo) ?_
    obtain ⟨x7, hx7, h⟩ := bnd h
    refine vk (vcl0 (scalar_truth_ok hx7) Tryz.call91) ?_
    obtain ⟨x8, hx8, h⟩ := bnd h
    refine vk (vcl0 (scalar_number_ok hx8) Tryz.call94) ?_
    refine stn ?_ gS_Itm (by decide)
    refine asd ?_; refine rn ?_; refine .gh (Gh.keep [6, 7] rfl) ?_; refine .ret ?_
    cases h
    exact ⟨_, _, ⟨.inr rfl, gA_Itm, gS_Itm, (by decide : (0 : Nat) < 6)⟩, rfl, rfl⟩
  replace h := ite_f hc h
  refine cnf (bf hc) ?_; refine .skip ?_
  show AW _ _ _ _ _ _
  refine .seq ?_; refine .region ?_; refine vk (vbd gP_Itm gI_Itm gZ_Itm) ?_
  refine stn ?_ gS_Itm (by decide)
  refine asd ?_; refine rn ?_; refine .gh (Gh.keep [6, 7] rfl) ?_; refine .ret ?_
  cases h
  exact ⟨_, _, ⟨.inr rfl, gA_Itm, gS_Itm, (by decide : (0 : Nat) < 6)⟩, rfl, rfl⟩

def sc_two1 (rc_scalar_pair_through : (FT_R_R__R_Errno × Int) → Arr → Arr → Option (Arr × Int)) (a0 : Int) (c0 : (FT_R_R__R_Errno × Int)) (c1 : Arr) (c2 : Arr) : Option (Itm × Int) := ((grd? (((List.length c1.items : Nat) : Int) ≠ 0)).bind fun x1 => ((rd? c1.items (Int.tmod a0 ((List.length c1.items : Nat) : Int))).bind fun x2 => ((grd? (((List.length c2.items : Nat) : Int) ≠ 0)).bind fun x3 => ((rd? c2.items (Int.tmod a0 ((List.length c2.items : Nat) : Int))).bind fun x4 => ((sc_items rc_scalar_pair_through c0 x2 x4).bind fun x5 => (some (x5.1, x5.2)))))))
theorem sc_two1_ok {rc_scalar_pair_through : (FT_R_R__R_Errno × Int) → Arr → Arr → Option (Arr × Int)} (orc_scalar_pair_through : ∀ x0 x1 x2 r, FO_R_R__R_Errno x0.1 → rc_scalar_pair_through x0 x1 x2 = some r → Fn Tryz.prog 39 [.ag [x0.1.dv, .i .i32 x0.2], .ag [.sl (Is x1.shape), .sl (Its x1.items)], .ag [.sl (Is x2.shape), .sl (Its x2.items)]] (.tup [.d (.ag [.sl (Is r.1.shape), .sl (Its r.1.items)]), .d (.i .i64 r.2)])) {a0 : Int} {c0 : (FT_R_R__R_Errno × Int)} {c1 : Arr} {c2 : Arr} (oc0 : FO_R_R__R_Errno c0.1) {r : Itm × Int} (h : sc_two1 rc_scalar_pair_through a0 c0 c1 c2 = some r) :
    Fn Tryz.prog 115 [.i .i64 a0, .ptr [c0.1.dv, .i .i32 c0.2], .ptr [.sl (Is c1.shape), .sl (Its c1.items)], .ptr [.sl (Is c2.shape), .sl (Its c2.items)]] (.tup [.d (.ag [.i .u8 r.1.kind, .b r.1.num.1, .sl (L r.1.num.2.1), .sl (L r.1.num.2.2), .i .i32 r.1.char, .sl (Ars r.1.box)]), .d (.i .i64 r.2)]) := by
  unfold sc_two1 at h
  refine Fn.ofC (rs := [.cell 5 83, .tmp 6]) (nt := 29) Tryz.func115 rfl rfl rfl (by simp) rfl ?_; refine .seq ?_; refine .region ?_; refine vk (van (zero_of gI_Itm) gZ_Itm) ?_; refine asd ?_; refine rn ?_; refine .gh (Gh.keep [0, 1, 2, 3, 5, 6] rfl) ?_; refine .seq ?_; refine .drawn 22 mixed (by kernel_rfl) ?_; refine dv (vlda gA_Pr gS_Pr) ?_; refine dv (vfa gF_Arr_1) ?_; refine dv (vldp ga_Its) ?_; refine dv (vmvd) ?_; refine dv (vfa gF_Arr_1) ?_; refine dv (vldp ga_Its) ?_; refine dv (vlnE (Its_length _) (Its_sz _) gu_Its) ?_
  obtain ⟨x1, hx1, h⟩ := bnd h
  refine dv (vbic (grd_ok hx1)) ?_
  obtain ⟨x2, hx2, h⟩ := bnd h
  obtain ⟨nx2, hnx2, hxx2⟩ := rd_some hx2
  refine dv (vix nx2 hnx2 (Its_at hxx2) rfl gs_Its) ?_; refine dv (vlda gA_Itm gS_Itm) ?_; refine dv (vfa gF_Arr_1) ?_; refine dv (vldp ga_Its) ?_; refine dv (vmvd) ?_; refine dv (vfa gF_Arr_1) ?_; refine dv (vldp ga_Its) ?_; refine dv (vlnE (Its_length _) (Its_sz _) gu_Its) ?_
  obtain ⟨x3, hx3, h⟩ := bnd h
  refine dv (vbic (grd_ok hx3)) ?_
  obtain ⟨x4, hx4, h⟩ := bnd h
  obtain ⟨nx4, hnx4, hxx4⟩ := rd_some hx4
  refine dv (vix nx4 hnx4 (Its_at hxx4) rfl gs_Its) ?_; refine dv (vlda gA_Itm gS_Itm) ?_
  obtain ⟨x5, hx5, h⟩ := bnd h
  refine dv (VOK.tupd (vs := [.ag [.i .u8 x5.1.kind, .b x5.1.num.1, .sl (L x5.1.num.2.1), .sl (L x5.1.num.2.2), .i .i32 x5.1.char, .sl (Ars x5.1.box)], .i .i64 x5.2]) (vcl0 (sc_items_ok orc_scalar_pair_through oc0 hx5) Tryz.call116)) ?_; refine dv (vex) ?_; refine dv (vex) ?_; refine dz ?_
  refine stn ?_ gS_Itm (by decide)
  refine asd ?_; refine rn ?_; refine .gh (Gh.keep [5, 6] rfl) ?_; refine .ret ?_
  cases h
  exact ⟨_, _, ⟨.inr rfl, gA_Itm, gS_Itm, (by decide : (0 : Nat) < 6)⟩, rfl, rfl⟩

def sc_twoB (rc_scalar_pair_through : (FT_R_R__R_Errno × Int) → Arr → Arr → Option (Arr × Int)) (a0 : (FT_R_R__R_Errno × Int)) (a1 : Arr) (a2 : Arr) : Option (Arr × Int) := ((scalar_together a1 a2).bind fun x1 => (if x1.2 = 0 then ((scalar_filled x1.1 (⟨.fn 115 [] [.ptr [a0.1.dv, .i .i32 a0.2], .ptr [.sl (Is a1.shape), .sl (Its a1.items)], .ptr [.sl (Is a2.shape), .sl (Its a2.items)]], fun x => sc_two1 rc_scalar_pair_through x a0 a1 a2⟩ : FT_int__Itm_Errno)).bind fun x2 => (some (x2.1, x2.2))) else (some ((Arr.mk [] []), x1.2))))
theorem sc_twoB_ok {rc_scalar_pair_through : (FT_R_R__R_Errno × Int) → Arr → Arr → Option (Arr × Int)} (orc_scalar_pair_through : ∀ x0 x1 x2 r, FO_R_R__R_Errno x0.1 → rc_scalar_pair_through x0 x1 x2 = some r → Fn Tryz.prog 39 [.ag [x0.1.dv, .i .i32 x0.2], .ag [.sl (Is x1.shape), .sl (Its x1.items)], .ag [.sl (Is x2.shape), .sl (Its x2.items)]] (.tup [.d (.ag [.sl (Is r.1.shape), .sl (Its r.1.items)]), .d (.i .i64 r.2)])) {a0 : (FT_R_R__R_Errno × Int)} {a1 : Arr} {a2 : Arr} (oa0 : FO_R_R__R_Errno a0.1) {r : Arr × Int} (h : sc_twoB rc_scalar_pair_through a0 a1 a2 = some r) :
    Fn Tryz.prog 39 [.ag [a0.1.dv, .i .i32 a0.2], .ag [.sl (Is a1.shape), .sl (Its a1.items)], .ag [.sl (Is a2.shape), .sl (Its a2.items)]] (.tup [.d (.ag [.sl (Is r.1.shape), .sl (Its r.1.items)]), .d (.i .i64 r.2)]) := by
  unfold sc_twoB at h
  refine Fn.ofC (rs := [.cell 6 25, .tmp 7]) (nt := 25) Tryz.func39 rfl rfl rfl (by simp) rfl ?_; refine .seq ?_; refine .region ?_; refine vk (vbx) ?_; refine vk (vbx) ?_; refine vk (vbx) ?_; refine vk (van (zero_of gI_Arr) gZ_Arr) ?_; refine asd ?_; refine rn ?_; refine .gh (Gh.keep [3, 4, 5, 6, 7] rfl) ?_; refine .seq ?_; refine .region ?_; refine vk (vlda gA_Arr gS_Arr) ?_; refine vk (vlda gA_Arr gS_Arr) ?_
  obtain ⟨x1, hx1, h⟩ := bnd h
  refine vk (VOK.tupd (vs := [.sl (Is x1.1), .i .i64 x1.2]) (vcl0 (scalar_together_ok hx1) Tryz.call114)) ?_; refine vk (vmvd) ?_; refine vk (vex) ?_; refine vk (vex) ?_; refine asd ?_; refine asd ?_; refine rn ?_; refine .gh (Gh.keep [3, 4, 5, 6, 7, 8, 9] rfl) ?_; refine .seq ?_; refine .seq ?_; refine .region ?_; refine vk (vmvd) ?_; refine vk (vbi) ?_; refine rn ?_; refine .gh (Gh.keep [3, 4, 5, 6, 7, 8, 9, 17] rfl) ?_
  by_cases hc : x1.2 = 0
  · replace h := ite_t hc h
    refine cnf (ntf (decide_eq_true hc)) ?_; refine .skip ?_
    show AW _ _ _ _ _ _
    refine .seq ?_; refine .region ?_; refine vk (vmvd) ?_; refine vk (vmkf) ?_
    obtain ⟨x2, hx2, h⟩ := bnd h
    refine vk (VOK.tupd (vs := [.ag [.sl (Is x2.1.shape), .sl (Its x2.1.items)], .i .i64 x2.2]) (vcl0 (scalar_filled_ok (FWOK Tryz.call115 (fun _ _ h => sc_two1_ok orc_scalar_pair_through oa0 h)) hx2) Tryz.call92)) ?_; refine vk (vex) ?_; refine vk (vex) ?_
    refine stn ?_ gS_Arr (by decide)
    refine asd ?_; refine rn ?_; refine .gh (Gh.keep [6, 7] rfl) ?_; refine .ret ?_
    cases h
    exact ⟨_, _, ⟨.inr rfl, gA_Arr, gS_Arr, (by decide : (0 : Nat) < 2)⟩, rfl, rfl⟩
  replace h := ite_f hc h
  refine cnt (ntt (decide_eq_false hc)) ?_; refine .seq ?_; refine .region ?_; refine vk (vbd gP_Arr gI_Arr gZ_Arr) ?_; refine vk (vmvd) ?_
  refine stn ?_ gS_Arr (by decide)
  refine asd ?_; refine rn ?_; refine .gh (Gh.keep [3, 4, 5, 6, 7, 8] rfl) ?_; refine .ret ?_
  cases h
  exact ⟨_, _, ⟨.inr rfl, gA_Arr, gS_Arr, (by decide : (0 : Nat) < 2)⟩, rfl, rfl⟩

def sc_two_r : Nat → (FT_R_R__R_Errno × Int) → Arr → Arr → Option (Arr × Int)
  | 0, _, _, _ => none
  | k + 1, a0, a1, a2 => sc_twoB (sc_two_r k) a0 a1 a2
theorem sc_two_r_ok : ∀ (k : Nat) (a0 : (FT_R_R__R_Errno × Int)) (a1 : Arr) (a2 : Arr) (r : Arr × Int), FO_R_R__R_Errno a0.1 → sc_two_r k a0 a1 a2 = some r → Fn Tryz.prog 39 [.ag [a0.1.dv, .i .i32 a0.2], .ag [.sl (Is a1.shape), .sl (Its a1.items)], .ag [.sl (Is a2.shape), .sl (Its a2.items)]] (.tup [.d (.ag [.sl (Is r.1.shape), .sl (Its r.1.items)]), .d (.i .i64 r.2)])
  | 0, _, _, _, _, _, h => by cases h
  | k + 1, a0, a1, a2, _, oa0, h => sc_twoB_ok (sc_two_r_ok k) oa0 (show sc_twoB (sc_two_r k) a0 a1 a2 = some _ from h)
def sc_two (a0 : (FT_R_R__R_Errno × Int)) (a1 : Arr) (a2 : Arr) : Option (Arr × Int) := sc_two_r (a1.size + a2.size + 1) a0 a1 a2
theorem sc_two_ok {a0 : (FT_R_R__R_Errno × Int)} {a1 : Arr} {a2 : Arr} (oa0 : FO_R_R__R_Errno a0.1) {r : Arr × Int} (h : sc_two a0 a1 a2 = some r) : Fn Tryz.prog 39 [.ag [a0.1.dv, .i .i32 a0.2], .ag [.sl (Is a1.shape), .sl (Its a1.items)], .ag [.sl (Is a2.shape), .sl (Its a2.items)]] (.tup [.d (.ag [.sl (Is r.1.shape), .sl (Its r.1.items)]), .d (.i .i64 r.2)]) := sc_two_r_ok _ a0 a1 a2 r oa0 h
end Go.FL
/-
  GP: scalar functions: Dyadic.
-/
namespace Go.FL
open Go Go.Proofs

def optD {α β : Type} : Option (FW α β) → DV
  | none => .nf
  | some f => f.dv
def scalar_of (a0 : (Int × RT × Int)) (a1 : Int) (a2 : Arr) (a3 : Arr) : Option ((Option FT_R_R__R_Errno × Int) × Int) := (optC (tabAt (twosF a0.2.1) a1) (some ((none, 0), 23)) fun f1 => ((ratRight a0.2.1).bind fun x2 => (Option.bind ((if x2 = true then ((array_Right a2).bind fun x4 => (if x4 = true then ((array_Right a3).bind fun x5 => (some (!x5))) else (some true))) else (some true)) : Option (Bool)) fun (z2 : Bool) => (if z2 = true then (some ((none, 0), 22)) else (some ((some f1, a1), 0))))))
theorem scalar_of_ok {a0 : (Int × RT × Int)} {a1 : Int} {a2 : Arr} {a3 : Arr} {r : (Option FT_R_R__R_Errno × Int) × Int} (h : scalar_of a0 a1 a2 a3 = some r) :
    Fn Tryz.prog 38 [.ag [.i .i64 a0.1, .b a0.2.1.1, .sl (L a0.2.1.2.1), .sl (L a0.2.1.2.2), .i .i64 a0.2.2], .i .i32 a1, .ag [.sl (Is a2.shape), .sl (Its a2.items)], .ag [.sl (Is a3.shape), .sl (Its a3.items)]] (.tup [.d (.ag [optD r.1.1, .i .i32 r.1.2]), .d (.i .i64 r.2)]) := by
  unfold scalar_of at h
  refine Fn.ofC (rs := [.cell 8 75, .tmp 9]) (nt := 39) Tryz.func38 rfl rfl rfl (by simp) rfl ?_; refine .seq ?_; refine .region ?_; refine vk (vbx) ?_; refine vk (vbx) ?_; refine vk (vbx) ?_; refine vk (van (zero_of gI_Pr) gZ_Pr) ?_; refine asd ?_; refine rn ?_; refine .gh (Gh.keep [1, 4, 6, 7, 8, 9] rfl) ?_; refine .seq ?_; refine .region ?_; refine vk (vfa gF_Ev_1) ?_; refine vk (vlda gA_R gS_R) ?_; refine vk (vcl0 twos_tab Tryz.call59) ?_; refine vk (vmvd) ?_
  rcases hmf1 : (tabAt (twosF a0.2.1) a1) with _ | f1
  · replace h := optC_n hmf1 h
    refine vk (vtabN gmTwo gkR gzTwo hmf1) ?_; refine asd ?_; refine rn ?_; refine .gh (Gh.keep [1, 4, 6, 7, 8, 9, 10] rfl) ?_; refine .seq ?_; refine .block ?_; refine .seq ?_; refine .region ?_; refine vk (vmvd) ?_; refine vk (vfqn gfn_FT_R_R__R_Errno) ?_; refine asd ?_; refine rn ?_; refine .gh (Gh.keep [1, 4, 6, 7, 8, 9, 10, 16] rfl) ?_; refine cndt ?_; refine .seq ?_; refine .region ?_; refine vk (vbd gP_Pr gI_Pr gZ_Pr) ?_
    refine stn ?_ gS_Pr (by decide)
    refine asd ?_; refine rn ?_; refine .gh (Gh.keep [1, 8, 9, 10] rfl) ?_; refine .ret ?_
    cases h
    exact ⟨_, _, ⟨.inr rfl, gA_Pr, gS_Pr, (by decide : (0 : Nat) < 2)⟩, rfl, rfl⟩
  replace h := optC_s hmf1 h
  obtain ⟨of1, isf1⟩ := twosF_ok hmf1
  refine vk (vtabS (twosF_nd _) gmTwo gkR hmf1) ?_; refine asd ?_; refine rn ?_; refine .gh (Gh.keep [1, 4, 6, 7, 8, 9, 10] rfl) ?_; refine .seq ?_; refine .block ?_; refine .seq ?_; refine .region ?_; refine vk (vmvd) ?_; refine vk (vfqv gfn_FT_R_R__R_Errno isf1) ?_; refine asd ?_; refine rn ?_; refine .gh (Gh.keep [1, 4, 6, 7, 8, 9, 10, 16] rfl) ?_; refine cndf ?_; refine .seq ?_
  obtain ⟨x2, hx2, h⟩ := bnd h
  obtain ⟨z2, hz, h⟩ := bnd h
  refine AW.mr (σ := Unit) (fun _ => True) (fun _ => [(1, .d (.i .i32 a1)), (8, .nb [.nf, .i .i32 0]), (9, .d (.i .i64 0)), (10, .d (f1.dv)), (20, .d (.b z2))]) (fun _ => []) ?_ ?_
  · skip
    refine .region ?_; refine vk (vfa gF_Ev_1) ?_; refine vk (vlda gA_R gS_R) ?_; refine vk (vcl0 (ratRight_ok hx2) Tryz.call45) ?_; refine vk (vnt) ?_
    by_cases hc : x2 = true
    · replace hz := ite_t hc hz
      have hb0 : (!x2) = false := (ntf hc)
      refine vk (VOK.lit (vmvd) hb0) ?_; refine vk (vlda gA_Arr gS_Arr) ?_
      obtain ⟨x4, hx4, hz⟩ := bnd hz
      refine vk (vcl0 (array_Right_ok hx4) Tryz.call13) ?_; refine vk (vnt) ?_; refine vk (vpkd) ?_
      by_cases hc : x4 = true
      · replace hz := ite_t hc hz
        have hb1 : (!x4) = false := (ntf hc)
        refine vk (VOK.lit (vmvd) hb1) ?_; refine vk (vlda gA_Arr gS_Arr) ?_
        obtain ⟨x5, hx5, hz⟩ := bnd hz
        refine vk (vcl0 (array_Right_ok hx5) Tryz.call13) ?_; refine vk (vnt) ?_; refine vk (vpkd) ?_; refine asd ?_; refine RL.gh (Gh.keep [1, 8, 9, 10, 20] rfl) ?_; refine .nil ?_
        cases hz
        exact jr () trivial
      replace hz := ite_f hc hz
      have hb1 : (!x4) = true := (ntt (bf hc))
      refine vk (VOK.lit (vmvd) hb1) ?_; refine gf ?_; refine gf ?_; refine gf ?_; refine vk (vpkd) ?_; refine asd ?_; refine RL.gh (Gh.keep [1, 8, 9, 10, 20] rfl) ?_; refine .nil ?_
      cases hz
      exact jr () trivial
    replace hz := ite_f hc hz
    have hb0 : (!x2) = true := (ntt (bf hc))
    refine vk (VOK.lit (vmvd) hb0) ?_; refine gf ?_; refine gf ?_; refine gf ?_; refine vk (vpkd) ?_; refine vk (vmvd) ?_; refine gf ?_; refine gf ?_; refine gf ?_; refine vk (vpkd) ?_; refine asd ?_; refine RL.gh (Gh.keep [1, 8, 9, 10, 20] rfl) ?_; refine .nil ?_
    cases hz
    exact jr () trivial
  rintro _ _
  by_cases hc : z2 = true
  · replace h := ite_t hc h
    refine cnt hc ?_; refine .seq ?_; refine .region ?_; refine vk (vbd gP_Pr gI_Pr gZ_Pr) ?_
    refine stn ?_ gS_Pr (by decide)
    refine asd ?_; refine rn ?_; refine .gh (Gh.keep [1, 8, 9, 10] rfl) ?_; refine .ret ?_
    cases h
    exact ⟨_, _, ⟨.inr rfl, gA_Pr, gS_Pr, (by decide : (0 : Nat) < 2)⟩, rfl, rfl⟩
  replace h := ite_f hc h
  refine cnf (bf hc) ?_; refine .skip ?_
  show AW _ _ _ _ _ _
  refine .seq ?_; refine .region ?_; refine vk (vmvd) ?_; refine vk (vmvd) ?_; refine vk (vbd gP_Pr gI_Pr gZ_Pr) ?_
  refine stn ?_ gS_Pr (by decide)
  refine asd ?_; refine rn ?_; refine .gh (Gh.keep [8, 9] rfl) ?_; refine .ret ?_
  cases h
  exact ⟨_, _, ⟨.inr rfl, gA_Pr, gS_Pr, (by decide : (0 : Nat) < 2)⟩, rfl, rfl⟩
theorem scalar_of_fo {a0 : (Int × RT × Int)} {a1 : Int} {a2 : Arr} {a3 : Arr} {r : (Option FT_R_R__R_Errno × Int) × Int} (h : scalar_of a0 a1 a2 a3 = some r) : ∀ p, r.1.1 = some p → FO_R_R__R_Errno p := by
  unfold scalar_of at h
  rcases hmf1 : (tabAt (twosF a0.2.1) a1) with _ | f1
  · replace h := optC_n hmf1 h
    cases h; intro p hp; cases hp
  · replace h := optC_s hmf1 h
    obtain ⟨x2, hx2, h⟩ := bnd h
    obtain ⟨z2, hz, h⟩ := bnd h
    by_cases hc : z2 = true
    · replace h := ite_t hc h
      cases h; intro p hp; cases hp
    · replace h := ite_f hc h
      cases h; intro p hp; cases hp
      exact (twosF_ok hmf1).1
def scalar_Dyadic (a0 : (Int × RT × Int)) (a1 : Int) (a2 : Arr) (a3 : Arr) : Option (Arr × Int) := ((scalar_of a0 a1 a2 a3).bind fun x1 => (if x1.2 = 0 then (optC x1.1.1 none fun p => ((sc_two (p, x1.1.2) a2 a3).bind fun x2 => (some (x2.1, x2.2)))) else (some ((Arr.mk [] []), x1.2))))
theorem scalar_Dyadic_ok {a0 : (Int × RT × Int)} {a1 : Int} {a2 : Arr} {a3 : Arr} {r : Arr × Int} (h : scalar_Dyadic a0 a1 a2 a3 = some r) :
    Fn Tryz.prog 15 [.ag [.i .i64 a0.1, .b a0.2.1.1, .sl (L a0.2.1.2.1), .sl (L a0.2.1.2.2), .i .i64 a0.2.2], .i .i32 a1, .ag [.sl (Is a2.shape), .sl (Its a2.items)], .ag [.sl (Is a3.shape), .sl (Its a3.items)]] (.tup [.d (.ag [.sl (Is r.1.shape), .sl (Its r.1.items)]), .d (.i .i64 r.2)]) := by
  unfold scalar_Dyadic at h
  refine Fn.ofC (rs := [.cell 8 25, .tmp 9]) (nt := 30) Tryz.func15 rfl rfl rfl (by simp) rfl ?_; refine .seq ?_; refine .region ?_; refine vk (vbx) ?_; refine vk (vbx) ?_; refine vk (vbx) ?_; refine vk (van (zero_of gI_Arr) gZ_Arr) ?_; refine asd ?_; refine rn ?_; refine .gh (Gh.keep [1, 4, 6, 7, 8, 9] rfl) ?_; refine .seq ?_; refine .region ?_; refine vk (vlda gA_Ev gS_Ev) ?_; refine vk (vmvd) ?_; refine vk (vlda gA_Arr gS_Arr) ?_; refine vk (vlda gA_Arr gS_Arr) ?_
  obtain ⟨x1, hx1, h⟩ := bnd h
  obtain ⟨⟨po, z⟩, e⟩ := x1
  rcases po with _ | p
  · skip
    refine vk (VOK.tupd (vs := [.ag [DV.nf, .i .i32 z], .i .i64 e]) (vcl0 (scalar_of_ok hx1) Tryz.call38)) ?_; refine vk (vmvd) ?_; refine vk (vex) ?_; refine vk (vex) ?_; refine vk (van (zero_of gI_Pr) gZ_Pr) ?_
    refine stn ?_ gS_Pr (by decide)
    refine asd ?_; refine rn ?_; refine .gh (Gh.keep [6, 7, 8, 9, 10, 11] rfl) ?_; refine .seq ?_; refine .seq ?_; refine .region ?_; refine vk (vmvd) ?_; refine vk (vbi) ?_; refine rn ?_; refine .gh (Gh.keep [6, 7, 8, 9, 10, 11, 21] rfl) ?_
    by_cases hc : e = 0
    · replace h := ite_t hc h
      exact nomatch (show (none : Option (Arr × Int)) = some r from h)
    replace h := ite_f hc h
    refine cnt (ntt (decide_eq_false hc)) ?_; refine .seq ?_; refine .region ?_; refine vk (vbd gP_Arr gI_Arr gZ_Arr) ?_; refine vk (vmvd) ?_
    refine stn ?_ gS_Arr (by decide)
    refine asd ?_; refine rn ?_; refine .gh (Gh.keep [6, 7, 8, 9, 10] rfl) ?_; refine .ret ?_
    cases h
    exact ⟨_, _, ⟨.inr rfl, gA_Arr, gS_Arr, (by decide : (0 : Nat) < 2)⟩, rfl, rfl⟩
  refine vk (VOK.tupd (vs := [.ag [p.dv, .i .i32 z], .i .i64 e]) (vcl0 (scalar_of_ok hx1) Tryz.call38)) ?_; refine vk (vmvd) ?_; refine vk (vex) ?_; refine vk (vex) ?_; refine vk (van (zero_of gI_Pr) gZ_Pr) ?_
  refine stn ?_ gS_Pr (by decide)
  refine asd ?_; refine rn ?_; refine .gh (Gh.keep [6, 7, 8, 9, 10, 11] rfl) ?_; refine .seq ?_; refine .seq ?_; refine .region ?_; refine vk (vmvd) ?_; refine vk (vbi) ?_; refine rn ?_; refine .gh (Gh.keep [6, 7, 8, 9, 10, 11, 21] rfl) ?_
  by_cases hc : e = 0
  · replace h := ite_t hc h
    replace h : ((sc_two (p, z) a2 a3).bind fun x2 => (some (x2.1, x2.2))) = some r := h
    refine cnf (ntf (decide_eq_true hc)) ?_; refine .skip ?_
    show AW _ _ _ _ _ _
    refine .seq ?_; refine .region ?_; refine vk (vldn gA_Pr gS_Pr) ?_; refine vk (vlda gA_Arr gS_Arr) ?_; refine vk (vlda gA_Arr gS_Arr) ?_
    obtain ⟨x2, hx2, h⟩ := bnd h
    refine vk (VOK.tupd (vs := [.ag [.sl (Is x2.1.shape), .sl (Its x2.1.items)], .i .i64 x2.2]) (vcl0 (sc_two_ok (scalar_of_fo hx1 p rfl) hx2) Tryz.call39)) ?_; refine vk (vex) ?_; refine vk (vex) ?_
    refine stn ?_ gS_Arr (by decide)
    refine asd ?_; refine rn ?_; refine .gh (Gh.keep [8, 9] rfl) ?_; refine .ret ?_
    cases h
    exact ⟨_, _, ⟨.inr rfl, gA_Arr, gS_Arr, (by decide : (0 : Nat) < 2)⟩, rfl, rfl⟩
  replace h := ite_f hc h
  refine cnt (ntt (decide_eq_false hc)) ?_; refine .seq ?_; refine .region ?_; refine vk (vbd gP_Arr gI_Arr gZ_Arr) ?_; refine vk (vmvd) ?_
  refine stn ?_ gS_Arr (by decide)
  refine asd ?_; refine rn ?_; refine .gh (Gh.keep [6, 7, 8, 9, 10] rfl) ?_; refine .ret ?_
  cases h
  exact ⟨_, _, ⟨.inr rfl, gA_Arr, gS_Arr, (by decide : (0 : Nat) < 2)⟩, rfl, rfl⟩
end Go.FL
/-
  Plain laws of scalar functions, 1: filled.
-/
namespace Go.FL
open Go Go.Proofs

end Go.FL
/-
  GP: glyphlaw05: env, live.
-/
namespace Go.FL
open Go Go.Proofs

def law05_env : Option ((Int × RT × Int)) := (ref2Zero.bind fun x1 => (some ((1, x1, 0))))
theorem law05_env_ok {r : (Int × RT × Int)} (h : law05_env = some r) :
    Fn Tryz.prog 16 [] (.d (.ag [.i .i64 r.1, .b r.2.1.1, .sl (L r.2.1.2.1), .sl (L r.2.1.2.2), .i .i64 r.2.2])) := by
  unfold law05_env at h
  refine Fn.ofC (rs := [.cell 0 34]) (nt := 3) Tryz.func16 rfl rfl rfl (by simp) rfl ?_; refine .seq ?_; refine .region ?_; refine vk (van (zero_of gI_Ev) gZ_Ev) ?_; refine rn ?_; refine .gh (Gh.keep [0] rfl) ?_; refine .seq ?_; refine .region ?_
  obtain ⟨x1, hx1, h⟩ := bnd h
  refine vk (vcl0 (ref2Zero_ok hx1) Tryz.call33) ?_; refine vk (vbd gP_Ev gI_Ev gZ_Ev) ?_
  refine stn ?_ gS_Ev (by decide)
  refine rn ?_; refine .gh (Gh.keep [0] rfl) ?_; refine .ret ?_
  cases h
  exact ⟨_, ⟨.inr rfl, gA_Ev, gS_Ev, (by decide : (0 : Nat) < 5)⟩, rfl⟩

def law05_live : Option (Bool) := (law05_env.bind fun x1 => ((arInts ([1, 2])).bind fun x2 => ((array_Int 10).bind fun x3 => ((scalar_Dyadic x1 43 x2 x3).bind fun x4 => (law05_env.bind fun x5 => ((arInts ([1, 2])).bind fun x6 => ((arInts ([1, 2, 3])).bind fun x7 => ((scalar_Dyadic x5 43 x6 x7).bind fun x8 => (Option.bind ((if x4.2 = 0 then ((arInts ([11, 12])).bind fun x10 => ((array_Match x4.1 x10).bind fun x11 => (if x11 = true then (some (decide (x8.2 = 5))) else (some false)))) else (some false)) : Option (Bool)) fun (z9 : Bool) => (some (z9)))))))))))
theorem law05_live_ok {r : Bool} (h : law05_live = some r) :
    Fn Tryz.prog 17 [] (.d (.b r)) := by
  unfold law05_live at h
  refine Fn.of (rs := [.tmp 0]) (nt := 34) Tryz.func17 rfl rfl rfl (by simp) rfl ?_; refine .seq ?_; refine .region ?_; refine asd ?_; refine rn ?_; refine .gh (Gh.keep [0] rfl) ?_; refine .seq ?_; refine .region ?_
  obtain ⟨x1, hx1, h⟩ := bnd h
  refine vk (vcl0 (law05_env_ok hx1) Tryz.call16) ?_; refine vk ((vbsl (Is_flat [1, 2]) ge_Is).deep) ?_
  obtain ⟨x2, hx2, h⟩ := bnd h
  refine vk (vcl0 (arInts_ok hx2) Tryz.call30) ?_
  obtain ⟨x3, hx3, h⟩ := bnd h
  refine vk (vcl0 (array_Int_ok hx3) Tryz.call26) ?_
  obtain ⟨x4, hx4, h⟩ := bnd h
  refine vk (VOK.tupd (vs := [.ag [.sl (Is x4.1.shape), .sl (Its x4.1.items)], .i .i64 x4.2]) (vcl0 (scalar_Dyadic_ok hx4) Tryz.call15)) ?_; refine vk (vmvd) ?_; refine vk (vex) ?_; refine vk (vex) ?_; refine vk (van (zero_of gI_Arr) gZ_Arr) ?_
  refine stn ?_ gS_Arr (by decide)
  refine asd ?_; refine rn ?_; refine .gh (Gh.keep [0, 1, 2] rfl) ?_; refine .seq ?_; refine .region ?_
  obtain ⟨x5, hx5, h⟩ := bnd h
  refine vk (vcl0 (law05_env_ok hx5) Tryz.call16) ?_; refine vk ((vbsl (Is_flat [1, 2]) ge_Is).deep) ?_
  obtain ⟨x6, hx6, h⟩ := bnd h
  refine vk (vcl0 (arInts_ok hx6) Tryz.call30) ?_; refine vk ((vbsl (Is_flat [1, 2, 3]) ge_Is).deep) ?_
  obtain ⟨x7, hx7, h⟩ := bnd h
  refine vk (vcl0 (arInts_ok hx7) Tryz.call30) ?_
  obtain ⟨x8, hx8, h⟩ := bnd h
  refine vk (VOK.tupd (vs := [.ag [.sl (Is x8.1.shape), .sl (Its x8.1.items)], .i .i64 x8.2]) (vcl0 (scalar_Dyadic_ok hx8) Tryz.call15)) ?_; refine vk (vmvd) ?_; refine vk (vex) ?_; refine vk (vex) ?_; refine vk (van (zero_of gI_Arr) gZ_Arr) ?_
  refine stn ?_ gS_Arr (by decide)
  refine asd ?_; refine rn ?_; refine .gh (Gh.keep [0, 1, 2, 4] rfl) ?_; refine .seq ?_
  obtain ⟨z9, hz, h⟩ := bnd h
  refine AW.mr (σ := Unit) (fun _ => True) (fun _ => [(0, .d (.b z9))]) (fun _ => []) ?_ ?_
  · skip
    refine .drawn 12 mixed (by kernel_rfl) ?_; refine dv (vmvd) ?_; refine dv (vbi) ?_
    by_cases hc : x4.2 = 0
    · replace hz := ite_t hc hz
      have hb0 : (decide (x4.2 = 0)) = true := (decide_eq_true hc)
      refine dv (VOK.lit (vmvd) hb0) ?_; refine dv (vldn gA_Arr gS_Arr) ?_; refine dv ((vbsl (Is_flat [11, 12]) ge_Is).deep) ?_
      obtain ⟨x10, hx10, hz⟩ := bnd hz
      refine dv (vcl0 (arInts_ok hx10) Tryz.call30) ?_
      obtain ⟨x11, hx11, hz⟩ := bnd hz
      refine dv (vcl0 (array_Match_ok hx11) Tryz.call14) ?_; refine dv (vpkd) ?_
      by_cases hc : x11 = true
      · replace hz := ite_t hc hz
        have hb1 : x11 = true := hc
        refine dv (VOK.lit (vmvd) hb1) ?_; refine dv (vmvd) ?_; refine dv (vbi) ?_; refine dv (vpkd) ?_; refine dz ?_; refine asd ?_; refine RL.gh (Gh.keep [0] rfl) ?_; refine .nil ?_
        cases hz
        exact jr () trivial
      replace hz := ite_f hc hz
      have hb1 : x11 = false := (bf hc)
      refine dv (VOK.lit (vmvd) hb1) ?_; refine dgf ?_; refine dgf ?_; refine dv (vpkd) ?_; refine dz ?_; refine asd ?_; refine RL.gh (Gh.keep [0] rfl) ?_; refine .nil ?_
      cases hz
      exact jr () trivial
    replace hz := ite_f hc hz
    have hb0 : (decide (x4.2 = 0)) = false := (decide_eq_false hc)
    refine dv (VOK.lit (vmvd) hb0) ?_; refine dgf ?_; refine dgf ?_; refine dgf ?_; refine dgf ?_; refine dv (vpkd) ?_; refine dv (vmvd) ?_; refine dgf ?_; refine dgf ?_; refine dv (vpkd) ?_; refine dz ?_; refine asd ?_; refine RL.gh (Gh.keep [0] rfl) ?_; refine .nil ?_
    cases hz
    exact jr () trivial
  rintro _ _
  refine .ret ?_
  cases h
  exact ⟨rfl, rfl⟩

def law05_isSo (a0 : Int) (a1 : RT) (a2 : RT) : Option (Bool) := (law05_env.bind fun x1 => ((scalar_Two x1 a0 a1 a2).bind fun x2 => (some (((decide (x2.2 = 0)) && (decide (((List.length x2.1.2.1 : Nat) : Int) = 1)))))))
theorem law05_isSo_ok {a0 : Int} {a1 : RT} {a2 : RT} {r : Bool} (h : law05_isSo a0 a1 a2 = some r) :
    Fn Tryz.prog 20 [.i .i32 a0, .ag [.b a1.1, .sl (L a1.2.1), .sl (L a1.2.2)], .ag [.b a2.1, .sl (L a2.2.1), .sl (L a2.2.2)]] (.d (.b r)) := by
  unfold law05_isSo at h
  refine Fn.of (rs := [.tmp 6]) (nt := 25) Tryz.func20 rfl rfl rfl (by simp) rfl ?_; refine .seq ?_; refine .region ?_; refine vk (vbx) ?_; refine vk (vbx) ?_; refine asd ?_; refine rn ?_; refine .gh (Gh.keep [0, 4, 5, 6] rfl) ?_; refine .seq ?_
  obtain ⟨x1, hx1, h⟩ := bnd h
  obtain ⟨x2, hx2, h⟩ := bnd h
  refine .drawnF 9 [7] [(7, .nb [.b x2.1.1, .sl (L x2.1.2.1), .sl (L x2.1.2.2)])] [] mixed (by kernel_rfl) rfl ?_; refine dv (vcl0 (law05_env_ok hx1) Tryz.call16) ?_; refine dv (vmvd) ?_; refine dv (vlda gA_R gS_R) ?_; refine dv (vlda gA_R gS_R) ?_; refine dv (VOK.tupd (vs := [.ag [.b x2.1.1, .sl (L x2.1.2.1), .sl (L x2.1.2.2)], .i .i64 x2.2]) (vcl0 (scalar_Two_ok hx2) Tryz.call24)) ?_; refine dv (vmvd) ?_; refine dv (vex) ?_; refine dv (vex) ?_; refine dv (van (zero_of gI_R) gZ_R) ?_; refine dz ?_
  refine ⟨?_, ?_, ?_⟩
  · intro k hk
    simp only [List.mem_cons, List.not_mem_nil, or_false] at hk
    subst hk
    exact ⟨_, _, _, rfl, rfl, rfl, rfl, rfl, rfl, vex⟩
  · intro om e hom hge
    cases hom
    exact ok_stn (cs := [.b false, .sl (L []), .sl (L [])]) (cs' := [.b x2.1.1, .sl (L x2.1.2.1), .sl (L x2.1.2.2)]) gS_R (by decide) rfl ((hge 7 (fun k hk v hv => by
        simp only [List.mem_cons, List.not_mem_nil, or_false] at hk
        subst hk; exact (by decide : ¬ (some 16 = some 7)) (congrArg (Option.map Prod.fst) hv))).trans rfl) ((congrArg deepOf (hge 15 (fun k hk v hv => by
        simp only [List.mem_cons, List.not_mem_nil, or_false] at hk
        subst hk; exact (by decide : ¬ (some 16 = some 15)) (congrArg (Option.map Prod.fst) hv)))).trans rfl) rfl rfl rfl rfl ⟨rfl, rfl⟩
  refine asd ?_; refine rn ?_; refine .gh (Gh.keep [6, 7, 8] rfl) ?_; refine .seq ?_; refine .gh (Gh.nbp (t := 7) rfl) ?_; refine AW.mr (σ := Unit) (fun _ => True) (fun _ => [(6, .d (.b ((decide (x2.2 = 0)) && (decide (((List.length x2.1.2.1 : Nat) : Int) = 1)))))]) (fun _ => []) ?_ ?_
  · skip
    refine .region ?_; refine vk (vmvd) ?_; refine vk (vbi) ?_
    by_cases hc : x2.2 = 0
    · have hb0 : (decide (x2.2 = 0)) = true := (decide_eq_true hc)
      refine vk (VOK.lit (vmvd) hb0) ?_; refine vk (vfa gF_R_1) ?_; refine vk (vldp ga_L) ?_; refine vk (vlnE (L_length _) (L_sz _) gu_L) ?_; refine vk (vbi) ?_; refine vk (vpkd) ?_; refine asd ?_; refine RL.gh (Gh.keep [6] rfl) ?_; refine .nil ?_
      exact jr () trivial (by simp only [hb0]; rfl)
    have hb0 : (decide (x2.2 = 0)) = false := (decide_eq_false hc)
    refine vk (VOK.lit (vmvd) hb0) ?_; refine gf ?_; refine gf ?_; refine gf ?_; refine gf ?_; refine vk (vpkd) ?_; refine asd ?_; refine RL.gh (Gh.keep [6] rfl) ?_; refine .nil ?_
    exact jr () trivial (by simp only [hb0]; rfl)
  rintro _ _
  refine .ret ?_
  cases h
  exact ⟨rfl, rfl⟩

end Go.FL
/-
  Law 05's example, computed.
-/
namespace Go.FL
open Go Go.Proofs

theorem live5 : law05_live = some true := by kernel_rfl
end Go.FL
/-
  GP: rat: numbers out of texts.
-/
namespace Go.FL
open Go Go.Proofs

end Go.FL
/-
  GP: glyphlaw02: live, same.
-/
namespace Go.FL
open Go Go.Proofs

end Go.FL
/-
  Plain laws, rat 6: what must be whatever is asked.
-/
namespace Go.FL
open Go Go.Proofs

end Go.FL
/-
  GP: glyphref02: comparison by a tolerance.
-/
namespace Go.FL
open Go Go.Proofs

end Go.FL
/-
  GP: scalar functions, the reference: of numbers.
-/
namespace Go.FL
open Go Go.Proofs

end Go.FL
