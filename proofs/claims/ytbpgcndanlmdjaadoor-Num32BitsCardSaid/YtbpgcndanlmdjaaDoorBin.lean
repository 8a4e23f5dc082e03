/-
  WHAT num32.Bin AND THE FUNCTIONS UNDER IT ANSWER: for every operation's number and any two numbers of 32 bits. No condition.
-/
import Derived.Test.YtbpgcndanlmdjaaDoorRows
import Derived.Test.YtbpgcndanlmdjaaDoorNum
import Derived.WalkSpells
import Derived.Lib.Hide
import Derived.WalkLawsBesides
namespace Go.Proofs.YtbpgcndanlmdjaaDoor
open Go.RowKit

theorem ret_int {k : IntKind} {a b : Int} (h : a = b) : Ending.returned (.int k a) = .returned (.int k b) := by rw [h]
/-- a number of 32 bits. -/
def Is (a : Int) : Prop := 0 ≤ a ∧ a < 4294967296

set_option maxHeartbeats 400000 in
theorem rot_any (x k : Int) (w : World) (hx : Is x) :
    Calls Tryd.prog 56 #[.int .u32 x, .int .i64 k] w fun e w' => e = .returned (.int .u32 (rotl x (k % 32).toNat)) ∧ w = w' := by
  obtain ⟨s, hs⟩ : ∃ s, s = k % 32 := ⟨_, rfl⟩
  have hc := count_of k
  rw [← hs] at hc
  have h0 : 0 ≤ s := by omega
  have h1 : s < 32 := by omega
  have HS := Lib.hid (v23 s hx.1 hx.2 h0 h1)
  have HK := Lib.hid hs
  have hx0 := hx.1
  clear hs
  go_enter Tryd.func56, Tryd.ntmps56
  go_wp2
  go_ret
  exact ⟨ret_int (by rw [← HK.out]; exact HS.out), rfl⟩

set_option maxHeartbeats 400000 in
theorem leaf_0 (a b : Int) (w : World) (_ : Is a) (_ : Is b) :
    Calls Tryd.prog 23 #[.int .u32 a, .int .u32 b] w fun e w' => e = .returned (.int .u32 (val 0 a b)) ∧ w = w' := by
  go_enter Tryd.func23, Tryd.ntmps23
  go_wp2
  · go_ret
    exact ⟨ret_int (fl_t (by simpa using (show (a == b) = true by assumption))).symm, rfl⟩
  · go_ret
    exact ⟨ret_int (fl_f (by simpa using (show (a == b) = false by assumption))).symm, rfl⟩

set_option maxHeartbeats 400000 in
theorem leaf_1 (a b : Int) (w : World) (_ : Is a) (_ : Is b) :
    Calls Tryd.prog 24 #[.int .u32 a, .int .u32 b] w fun e w' => e = .returned (.int .u32 (val 1 a b)) ∧ w = w' := by
  go_enter Tryd.func24, Tryd.ntmps24
  go_wp2
  · go_ret
    exact ⟨ret_int (fl_t (by simpa using (show (a != b) = true by assumption))).symm, rfl⟩
  · go_ret
    exact ⟨ret_int (fl_f (by simpa using (show (a != b) = false by assumption))).symm, rfl⟩

set_option maxHeartbeats 400000 in
theorem leaf_2 (a b : Int) (w : World) (_ : Is a) (_ : Is b) :
    Calls Tryd.prog 25 #[.int .u32 a, .int .u32 b] w fun e w' => e = .returned (.int .u32 (val 2 a b)) ∧ w = w' := by
  go_enter Tryd.func25, Tryd.ntmps25
  go_wp2
  · go_ret
    have h : wrap32 a < wrap32 b := by assumption
    exact ⟨ret_int (fl_t (decide_eq_true h)).symm, rfl⟩
  · go_ret
    have h : wrap32 b ≤ wrap32 a := by assumption
    exact ⟨ret_int (fl_f (decide_eq_false (Int.not_lt.2 h))).symm, rfl⟩

set_option maxHeartbeats 400000 in
theorem leaf_3 (a b : Int) (w : World) (_ : Is a) (_ : Is b) :
    Calls Tryd.prog 26 #[.int .u32 a, .int .u32 b] w fun e w' => e = .returned (.int .u32 (val 3 a b)) ∧ w = w' := by
  go_enter Tryd.func26, Tryd.ntmps26
  go_wp2
  · go_ret
    have h : a < b := by assumption
    exact ⟨ret_int (fl_t (decide_eq_true h)).symm, rfl⟩
  · go_ret
    have h : b ≤ a := by assumption
    exact ⟨ret_int (fl_f (decide_eq_false (Int.not_lt.2 h))).symm, rfl⟩

set_option maxHeartbeats 400000 in
theorem leaf_4 (a b : Int) (w : World) (_ : Is a) (_ : Is b) :
    Calls Tryd.prog 27 #[.int .u32 a, .int .u32 b] w fun e w' => e = .returned (.int .u32 (val 4 a b)) ∧ w = w' := by
  go_enter Tryd.func27, Tryd.ntmps27
  go_wp2
  · go_ret
    have h : wrap32 b < wrap32 a := by assumption
    exact ⟨ret_int (fl_t (decide_eq_true h)).symm, rfl⟩
  · go_ret
    have h : wrap32 a ≤ wrap32 b := by assumption
    exact ⟨ret_int (fl_f (decide_eq_false (Int.not_lt.2 h))).symm, rfl⟩

set_option maxHeartbeats 400000 in
theorem leaf_5 (a b : Int) (w : World) (_ : Is a) (_ : Is b) :
    Calls Tryd.prog 28 #[.int .u32 a, .int .u32 b] w fun e w' => e = .returned (.int .u32 (val 5 a b)) ∧ w = w' := by
  go_enter Tryd.func28, Tryd.ntmps28
  go_wp2
  · go_ret
    have h : b < a := by assumption
    exact ⟨ret_int (fl_t (decide_eq_true h)).symm, rfl⟩
  · go_ret
    have h : a ≤ b := by assumption
    exact ⟨ret_int (fl_f (decide_eq_false (Int.not_lt.2 h))).symm, rfl⟩

set_option maxHeartbeats 400000 in
theorem leaf_6 (a b : Int) (w : World) (_ : Is a) (_ : Is b) :
    Calls Tryd.prog 29 #[.int .u32 a, .int .u32 b] w fun e w' => e = .returned (.int .u32 (val 6 a b)) ∧ w = w' := by
  go_enter Tryd.func29, Tryd.ntmps29
  go_wp2
  · go_ret
    have h : wrap32 b < wrap32 a := by assumption
    exact ⟨ret_int (fl_f (decide_eq_false (Int.not_le.2 h))).symm, rfl⟩
  · go_ret
    have h : wrap32 a ≤ wrap32 b := by assumption
    exact ⟨ret_int (fl_t (decide_eq_true h)).symm, rfl⟩

set_option maxHeartbeats 400000 in
theorem leaf_7 (a b : Int) (w : World) (_ : Is a) (_ : Is b) :
    Calls Tryd.prog 30 #[.int .u32 a, .int .u32 b] w fun e w' => e = .returned (.int .u32 (val 7 a b)) ∧ w = w' := by
  go_enter Tryd.func30, Tryd.ntmps30
  go_wp2
  · go_ret
    have h : b < a := by assumption
    exact ⟨ret_int (fl_f (decide_eq_false (Int.not_le.2 h))).symm, rfl⟩
  · go_ret
    have h : a ≤ b := by assumption
    exact ⟨ret_int (fl_t (decide_eq_true h)).symm, rfl⟩

set_option maxHeartbeats 400000 in
theorem leaf_8 (a b : Int) (w : World) (_ : Is a) (_ : Is b) :
    Calls Tryd.prog 31 #[.int .u32 a, .int .u32 b] w fun e w' => e = .returned (.int .u32 (val 8 a b)) ∧ w = w' := by
  go_enter Tryd.func31, Tryd.ntmps31
  go_wp2
  · go_ret
    have h : wrap32 a < wrap32 b := by assumption
    exact ⟨ret_int (fl_f (decide_eq_false (Int.not_le.2 h))).symm, rfl⟩
  · go_ret
    have h : wrap32 b ≤ wrap32 a := by assumption
    exact ⟨ret_int (fl_t (decide_eq_true h)).symm, rfl⟩

set_option maxHeartbeats 400000 in
theorem leaf_9 (a b : Int) (w : World) (_ : Is a) (_ : Is b) :
    Calls Tryd.prog 32 #[.int .u32 a, .int .u32 b] w fun e w' => e = .returned (.int .u32 (val 9 a b)) ∧ w = w' := by
  go_enter Tryd.func32, Tryd.ntmps32
  go_wp2
  · go_ret
    have h : a < b := by assumption
    exact ⟨ret_int (fl_f (decide_eq_false (Int.not_le.2 h))).symm, rfl⟩
  · go_ret
    have h : b ≤ a := by assumption
    exact ⟨ret_int (fl_t (decide_eq_true h)).symm, rfl⟩

set_option maxHeartbeats 400000 in
theorem leaf_10 (a b : Int) (w : World) (hA : Is a) (hB : Is b) :
    Calls Tryd.prog 33 #[.int .u32 a, .int .u32 b] w fun e w' => e = .returned (.int .u32 (val 10 a b)) ∧ w = w' := by
  have ha0 := hA.1
  have hb0 := hB.1
  go_enter Tryd.func33, Tryd.ntmps33
  go_wp2
  go_ret
  exact ⟨rfl, rfl⟩

set_option maxHeartbeats 400000 in
theorem leaf_11 (a b : Int) (w : World) (hA : Is a) (hB : Is b) :
    Calls Tryd.prog 34 #[.int .u32 a, .int .u32 b] w fun e w' => e = .returned (.int .u32 (val 11 a b)) ∧ w = w' := by
  have ha0 := hA.1
  have hb0 := hB.1
  go_enter Tryd.func34, Tryd.ntmps34
  go_wp2
  go_ret
  exact ⟨rfl, rfl⟩

set_option maxHeartbeats 400000 in
theorem leaf_12 (a b : Int) (w : World) (hA : Is a) (hB : Is b) :
    Calls Tryd.prog 35 #[.int .u32 a, .int .u32 b] w fun e w' => e = .returned (.int .u32 (val 12 a b)) ∧ w = w' := by
  have ha0 := hA.1
  have hb0 := hB.1
  go_enter Tryd.func35, Tryd.ntmps35
  go_wp2
  go_ret
  exact ⟨rfl, rfl⟩

set_option maxHeartbeats 400000 in
theorem leaf_13 (a b : Int) (w : World) (hA : Is a) (hB : Is b) (hz : ¬ b = 0) :
    Calls Tryd.prog 36 #[.int .u32 a, .int .u32 b] w fun e w' => e = .returned (.int .u32 (val 13 a b)) ∧ w = w' := by
  have hz2 : ¬ wrap32 b = 0 := sgn_ne hB.1 hB.2 hz
  have ha0 := hA.1
  have hb0 := hB.1
  go_enter Tryd.func36, Tryd.ntmps36
  go_wp2
  · go_ret
    exact ⟨ret_int (v13 (by simpa using ‹(b == 4294967295) = true›)), rfl⟩
  · go_ret
    exact ⟨ret_int (v13' a b), rfl⟩

set_option maxHeartbeats 400000 in
theorem leaf_14 (a b : Int) (w : World) (hA : Is a) (hB : Is b) (hz : ¬ b = 0) :
    Calls Tryd.prog 37 #[.int .u32 a, .int .u32 b] w fun e w' => e = .returned (.int .u32 (val 14 a b)) ∧ w = w' := by
  have hp : 1 ≤ b := by have := hB.1; omega
  have ha0 := hA.1
  have hb0 := hB.1
  go_enter Tryd.func37, Tryd.ntmps37
  go_wp2
  go_ret
  exact ⟨ret_int (v14 hA.1 hA.2 hp), rfl⟩

set_option maxHeartbeats 400000 in
theorem leaf_15 (a b : Int) (w : World) (hA : Is a) (hB : Is b) (hz : ¬ b = 0) :
    Calls Tryd.prog 38 #[.int .u32 a, .int .u32 b] w fun e w' => e = .returned (.int .u32 (val 15 a b)) ∧ w = w' := by
  have hz2 : ¬ wrap32 b = 0 := sgn_ne hB.1 hB.2 hz
  have ha0 := hA.1
  have hb0 := hB.1
  go_enter Tryd.func38, Tryd.ntmps38
  go_wp2
  · go_ret
    exact ⟨ret_int (v15 (by simpa using ‹(b == 4294967295) = true›)), rfl⟩
  · go_ret
    exact ⟨rfl, rfl⟩

set_option maxHeartbeats 400000 in
theorem leaf_16 (a b : Int) (w : World) (hA : Is a) (hB : Is b) (hz : ¬ b = 0) :
    Calls Tryd.prog 39 #[.int .u32 a, .int .u32 b] w fun e w' => e = .returned (.int .u32 (val 16 a b)) ∧ w = w' := by
  have hp : 1 ≤ b := by have := hB.1; omega
  have ha0 := hA.1
  have hb0 := hB.1
  go_enter Tryd.func39, Tryd.ntmps39
  go_wp2
  go_ret
  exact ⟨rfl, rfl⟩

set_option maxHeartbeats 400000 in
theorem leaf_17 (a b : Int) (w : World) (hA : Is a) (hB : Is b) :
    Calls Tryd.prog 40 #[.int .u32 a, .int .u32 b] w fun e w' => e = .returned (.int .u32 (val 17 a b)) ∧ w = w' := by
  have ha0 := hA.1
  have hb0 := hB.1
  go_enter Tryd.func40, Tryd.ntmps40
  go_wp2
  go_ret
  exact ⟨ret_int (u32_and a b hA.1 hA.2 hB.1 hB.2), rfl⟩

set_option maxHeartbeats 400000 in
theorem leaf_18 (a b : Int) (w : World) (hA : Is a) (hB : Is b) :
    Calls Tryd.prog 41 #[.int .u32 a, .int .u32 b] w fun e w' => e = .returned (.int .u32 (val 18 a b)) ∧ w = w' := by
  have ha0 := hA.1
  have hb0 := hB.1
  go_enter Tryd.func41, Tryd.ntmps41
  go_wp2
  go_ret
  exact ⟨ret_int (u32_or a b hA.1 hA.2 hB.1 hB.2), rfl⟩

set_option maxHeartbeats 400000 in
theorem leaf_19 (a b : Int) (w : World) (hA : Is a) (hB : Is b) :
    Calls Tryd.prog 42 #[.int .u32 a, .int .u32 b] w fun e w' => e = .returned (.int .u32 (val 19 a b)) ∧ w = w' := by
  have ha0 := hA.1
  have hb0 := hB.1
  go_enter Tryd.func42, Tryd.ntmps42
  go_wp2
  go_ret
  exact ⟨ret_int (u32_xor a b hA.1 hA.2 hB.1 hB.2), rfl⟩

set_option maxHeartbeats 400000 in
theorem leaf_20 (a b : Int) (w : World) (hA : Is a) (hB : Is b) :
    Calls Tryd.prog 43 #[.int .u32 a, .int .u32 b] w fun e w' => e = .returned (.int .u32 (val 20 a b)) ∧ w = w' := by
  have ha0 := hA.1
  have hb0 := hB.1
  go_enter Tryd.func43, Tryd.ntmps43
  go_wp2
  go_ret
  exact ⟨rfl, rfl⟩

set_option maxHeartbeats 400000 in
theorem leaf_21 (a b : Int) (w : World) (hA : Is a) (hB : Is b) :
    Calls Tryd.prog 44 #[.int .u32 a, .int .u32 b] w fun e w' => e = .returned (.int .u32 (val 21 a b)) ∧ w = w' := by
  have ha0 := hA.1
  have hb0 := hB.1
  go_enter Tryd.func44, Tryd.ntmps44
  go_wp2
  go_ret
  exact ⟨rfl, rfl⟩

set_option maxHeartbeats 400000 in
theorem leaf_22 (a b : Int) (w : World) (hA : Is a) (hB : Is b) :
    Calls Tryd.prog 45 #[.int .u32 a, .int .u32 b] w fun e w' => e = .returned (.int .u32 (val 22 a b)) ∧ w = w' := by
  have ha0 := hA.1
  have hb0 := hB.1
  go_enter Tryd.func45, Tryd.ntmps45
  go_wp2
  go_ret
  exact ⟨rfl, rfl⟩

set_option maxHeartbeats 400000 in
theorem leaf_23 (a b : Int) (w : World) (hA : Is a) (hB : Is b) :
    Calls Tryd.prog 46 #[.int .u32 a, .int .u32 b] w fun e w' => e = .returned (.int .u32 (val 23 a b)) ∧ w = w' := by
  have ha0 := hA.1
  have hb0 := hB.1
  have h0 : 0 ≤ b % 32 := by omega
  have h1 : b % 32 < 32 := by omega
  have h2 : -32 < b % 32 := by omega
  go_enter Tryd.func46, Tryd.ntmps46
  go_wp2_with (go_at_call 56; refine (rot_any _ _ _ hA).mono ?_; rintro e w' ⟨rfl, rfl⟩)
  go_ret
  exact ⟨rfl, rfl⟩

set_option maxHeartbeats 400000 in
theorem leaf_24 (a b : Int) (w : World) (hA : Is a) (hB : Is b) :
    Calls Tryd.prog 47 #[.int .u32 a, .int .u32 b] w fun e w' => e = .returned (.int .u32 (val 24 a b)) ∧ w = w' := by
  have ha0 := hA.1
  have hb0 := hB.1
  have h0 : 0 ≤ b % 32 := by omega
  have h1 : b % 32 < 32 := by omega
  have h2 : -32 < -(b % 32) := by omega
  have h3 : -(b % 32) < 32 := by omega
  have HM := Lib.hid (show -(b % 32) % 32 = -b % 32 by omega)
  go_enter Tryd.func47, Tryd.ntmps47
  go_wp2_with (go_at_call 56; refine (rot_any _ _ _ hA).mono ?_; rintro e w' ⟨rfl, rfl⟩)
  go_ret
  exact ⟨ret_int (by rw [HM.out]; rfl), rfl⟩

/-! THE TABLE -/
def RowsAt (w : World) (b1 b2 b3 : Nat) : Prop :=
  w.cell? ⟨b3, 0, none⟩ = some (.int .i64 70) ∧ w.cell? ⟨b3, 1, none⟩ = some (.slice (some ⟨b1, 0, none⟩) 10 10) ∧
  w.cell? ⟨b3, 2, none⟩ = some (.int .i64 106) ∧ w.cell? ⟨b3, 3, none⟩ = some (.slice (some ⟨b2, 0, none⟩) 15 15) ∧
  (∀ i v, #[.func (.func 23) #[] #[], .func (.func 24) #[] #[], .func (.func 25) #[] #[], .func (.func 26) #[] #[], .func (.func 27) #[] #[], .func (.func 28) #[] #[], .func (.func 29) #[] #[], .func (.func 30) #[] #[], .func (.func 31) #[] #[], .func (.func 32) #[] #[]][i]? = some v → w.cell? ⟨b1, i, none⟩ = some v) ∧
  (∀ i v, #[.func (.func 33) #[] #[], .func (.func 34) #[] #[], .func (.func 35) #[] #[], .func (.func 36) #[] #[], .func (.func 37) #[] #[], .func (.func 38) #[] #[], .func (.func 39) #[] #[], .func (.func 40) #[] #[], .func (.func 41) #[] #[], .func (.func 42) #[] #[], .func (.func 43) #[] #[], .func (.func 44) #[] #[], .func (.func 45) #[] #[], .func (.func 46) #[] #[], .func (.func 47) #[] #[]][i]? = some v → w.cell? ⟨b2, i, none⟩ = some v) ∧ b1 < w.heap.size ∧ b2 < w.heap.size ∧ b3 < w.heap.size

theorem cells_at {w : World} {b : Nat} {cs : Array Value} {t : TypeId} (h : w.heap[b]? = some (.cells cs t (0, 0))) : ∀ i v, cs[i]? = some v → w.cell? ⟨b, i, none⟩ = some v := by
  intro i v hv
  simp [World.cell?, h, hv]

set_option maxHeartbeats 400000 in
theorem rows_any (w : World) : Calls Tryd.prog 15 #[] w fun e w' => ∃ b1 b2 b3, e = .returned (.slice (some ⟨b3, 0, none⟩) 2 2) ∧ RowsAt w' b1 b2 b3 ∧ Below w.heap.size w w' := by
  go_enter Tryd.func15, Tryd.ntmps15
  go_wp2
  go_ret
  refine ⟨w.heap.size, w.heap.size + 1, w.heap.size + 1 + 1, rfl, ?_, (((Below.refl _ _).alloc (Nat.le_refl _) _).alloc (by simp) _).alloc (by simp; omega) _⟩
  refine ⟨by go_simp, by go_simp, by go_simp, by go_simp, cells_at (t := 53) ?_, cells_at (t := 53) ?_, ?_, ?_, ?_⟩
  · show (((w.heap.push _).push _).push _)[w.heap.size]? = _
    simp only [Array.getElem?_push, Array.size_push]
    rw [if_neg (by omega), if_neg (by omega), if_pos trivial]
  · show (((w.heap.push _).push _).push _)[w.heap.size + 1]? = _
    simp only [Array.getElem?_push, Array.size_push]
    rw [if_neg (by omega), if_pos trivial]
  · show w.heap.size < (((w.heap.push _).push _).push _).size
    simp only [Array.size_push]
    omega
  · show w.heap.size + 1 < (((w.heap.push _).push _).push _).size
    simp only [Array.size_push]
    omega
  · show w.heap.size + 1 + 1 < (((w.heap.push _).push _).push _).size
    simp only [Array.size_push]
    omega

/-! WHY THEY TRAP -/
set_option maxHeartbeats 400000 in
theorem traps_out (op a b : Int) (w : World) (h : op < 109 ∨ 112 < op) : Calls Tryd.prog 16 #[.int .i64 op, .int .u32 a, .int .u32 b] w fun e w' => e = .returned (.int .i64 0) ∧ w = w' := by
  by_cases h1 : op < 109
  · go_enter Tryd.func16, Tryd.ntmps16
    go_wp2
    go_ret
    exact ⟨rfl, rfl⟩
  · have h2 : 112 < op := by omega
    clear h
    go_enter Tryd.func16, Tryd.ntmps16
    go_wp2
    go_ret
    exact ⟨rfl, rfl⟩
set_option maxHeartbeats 400000 in
theorem traps_zero (op a b : Int) (w : World) (h1 : ¬ op < 109) (h2 : ¬ 112 < op) (hz : (b == 0) = true) : Calls Tryd.prog 16 #[.int .i64 op, .int .u32 a, .int .u32 b] w fun e w' => e = .returned (.int .i64 2) ∧ w = w' := by
  go_enter Tryd.func16, Tryd.ntmps16
  go_wp2
  go_ret
  exact ⟨rfl, rfl⟩
set_option maxHeartbeats 400000 in
theorem traps_over (w : World) : Calls Tryd.prog 16 #[.int .i64 109, .int .u32 2147483648, .int .u32 4294967295] w fun e w' => e = .returned (.int .i64 3) ∧ w = w' := by
  go_enter Tryd.func16, Tryd.ntmps16
  go_wp2
  go_ret
  exact ⟨rfl, rfl⟩
set_option maxHeartbeats 400000 in
theorem traps_none (op a b : Int) (w : World) (h1 : ¬ op < 109) (h2 : ¬ 112 < op) (hz : (b == 0) = false) (h : (op == 109) = false ∨ ((a == 2147483648) = false ∨ (b == 4294967295) = false)) : Calls Tryd.prog 16 #[.int .i64 op, .int .u32 a, .int .u32 b] w fun e w' => e = .returned (.int .i64 0) ∧ w = w' := by
  by_cases g1 : (op == 109) = true
  · by_cases g2 : (a == 2147483648) = true
    · have g3 : (b == 4294967295) = false := by
        rcases h with h | h | h
        · rw [h] at g1; cases g1
        · rw [h] at g2; cases g2
        · exact h
      clear h
      go_enter Tryd.func16, Tryd.ntmps16
      go_wp2
      go_ret
      exact ⟨rfl, rfl⟩
    · have g4 : (a == 2147483648) = false := by simpa using g2
      clear h g2
      go_enter Tryd.func16, Tryd.ntmps16
      go_wp2
      go_ret
      exact ⟨rfl, rfl⟩
  · have g4 : (op == 109) = false := by simpa using g1
    clear h g1
    go_enter Tryd.func16, Tryd.ntmps16
    go_wp2
    go_ret
    exact ⟨rfl, rfl⟩


set_option maxHeartbeats 400000 in
theorem bin_0 (a b : Int) (hA : Is a) (hB : Is b) (w : World) :
    Calls Tryd.prog 10 #[.int .i64 70, .int .u32 a, .int .u32 b] w fun e w' => e = .returned (.tuple #[.int .u32 (val 0 a b), .int .i64 0, .int .i64 0]) ∧ Below w.heap.size w w' := by
  go_enter Tryd.func10, Tryd.ntmps10
  go_wp2_with fail
  refine (rows_any w).mono ?_
  rintro e w' ⟨b1, b2, b3, rfl, ⟨c0, c1, c2, c3, m1, m2, s1, s2, s3⟩, hb⟩
  have m : w'.cell? ⟨b1, 0, none⟩ = some (.func (.func 23) #[] #[]) := m1 0 _ rfl
  clear m1 m2
  have HB := Lib.hid hb
  clear hb
  go_wp2
  refine wp_loop_rounds 1 ?_; rw [rounds_succ]
  go_wp2_with (first | (go_at_call 16; refine (traps_out _ _ _ _ (by omega)).mono ?_; rintro e w' ⟨rfl, rfl⟩) | (go_at_call 23; refine (leaf_0 _ _ _ hA hB).mono ?_; rintro e w' ⟨rfl, rfl⟩))
  go_ret3
  exact ⟨rfl, HB.out.alloc HB.out.size _⟩

set_option maxHeartbeats 400000 in
theorem bin_1 (a b : Int) (hA : Is a) (hB : Is b) (w : World) :
    Calls Tryd.prog 10 #[.int .i64 71, .int .u32 a, .int .u32 b] w fun e w' => e = .returned (.tuple #[.int .u32 (val 1 a b), .int .i64 0, .int .i64 0]) ∧ Below w.heap.size w w' := by
  go_enter Tryd.func10, Tryd.ntmps10
  go_wp2_with fail
  refine (rows_any w).mono ?_
  rintro e w' ⟨b1, b2, b3, rfl, ⟨c0, c1, c2, c3, m1, m2, s1, s2, s3⟩, hb⟩
  have m : w'.cell? ⟨b1, 1, none⟩ = some (.func (.func 24) #[] #[]) := m1 1 _ rfl
  clear m1 m2
  have HB := Lib.hid hb
  clear hb
  go_wp2
  refine wp_loop_rounds 1 ?_; rw [rounds_succ]
  go_wp2_with (first | (go_at_call 16; refine (traps_out _ _ _ _ (by omega)).mono ?_; rintro e w' ⟨rfl, rfl⟩) | (go_at_call 24; refine (leaf_1 _ _ _ hA hB).mono ?_; rintro e w' ⟨rfl, rfl⟩))
  go_ret3
  exact ⟨rfl, HB.out.alloc HB.out.size _⟩

set_option maxHeartbeats 400000 in
theorem bin_2 (a b : Int) (hA : Is a) (hB : Is b) (w : World) :
    Calls Tryd.prog 10 #[.int .i64 72, .int .u32 a, .int .u32 b] w fun e w' => e = .returned (.tuple #[.int .u32 (val 2 a b), .int .i64 0, .int .i64 0]) ∧ Below w.heap.size w w' := by
  go_enter Tryd.func10, Tryd.ntmps10
  go_wp2_with fail
  refine (rows_any w).mono ?_
  rintro e w' ⟨b1, b2, b3, rfl, ⟨c0, c1, c2, c3, m1, m2, s1, s2, s3⟩, hb⟩
  have m : w'.cell? ⟨b1, 2, none⟩ = some (.func (.func 25) #[] #[]) := m1 2 _ rfl
  clear m1 m2
  have HB := Lib.hid hb
  clear hb
  go_wp2
  refine wp_loop_rounds 1 ?_; rw [rounds_succ]
  go_wp2_with (first | (go_at_call 16; refine (traps_out _ _ _ _ (by omega)).mono ?_; rintro e w' ⟨rfl, rfl⟩) | (go_at_call 25; refine (leaf_2 _ _ _ hA hB).mono ?_; rintro e w' ⟨rfl, rfl⟩))
  go_ret3
  exact ⟨rfl, HB.out.alloc HB.out.size _⟩

set_option maxHeartbeats 400000 in
theorem bin_3 (a b : Int) (hA : Is a) (hB : Is b) (w : World) :
    Calls Tryd.prog 10 #[.int .i64 73, .int .u32 a, .int .u32 b] w fun e w' => e = .returned (.tuple #[.int .u32 (val 3 a b), .int .i64 0, .int .i64 0]) ∧ Below w.heap.size w w' := by
  go_enter Tryd.func10, Tryd.ntmps10
  go_wp2_with fail
  refine (rows_any w).mono ?_
  rintro e w' ⟨b1, b2, b3, rfl, ⟨c0, c1, c2, c3, m1, m2, s1, s2, s3⟩, hb⟩
  have m : w'.cell? ⟨b1, 3, none⟩ = some (.func (.func 26) #[] #[]) := m1 3 _ rfl
  clear m1 m2
  have HB := Lib.hid hb
  clear hb
  go_wp2
  refine wp_loop_rounds 1 ?_; rw [rounds_succ]
  go_wp2_with (first | (go_at_call 16; refine (traps_out _ _ _ _ (by omega)).mono ?_; rintro e w' ⟨rfl, rfl⟩) | (go_at_call 26; refine (leaf_3 _ _ _ hA hB).mono ?_; rintro e w' ⟨rfl, rfl⟩))
  go_ret3
  exact ⟨rfl, HB.out.alloc HB.out.size _⟩

set_option maxHeartbeats 400000 in
theorem bin_4 (a b : Int) (hA : Is a) (hB : Is b) (w : World) :
    Calls Tryd.prog 10 #[.int .i64 74, .int .u32 a, .int .u32 b] w fun e w' => e = .returned (.tuple #[.int .u32 (val 4 a b), .int .i64 0, .int .i64 0]) ∧ Below w.heap.size w w' := by
  go_enter Tryd.func10, Tryd.ntmps10
  go_wp2_with fail
  refine (rows_any w).mono ?_
  rintro e w' ⟨b1, b2, b3, rfl, ⟨c0, c1, c2, c3, m1, m2, s1, s2, s3⟩, hb⟩
  have m : w'.cell? ⟨b1, 4, none⟩ = some (.func (.func 27) #[] #[]) := m1 4 _ rfl
  clear m1 m2
  have HB := Lib.hid hb
  clear hb
  go_wp2
  refine wp_loop_rounds 1 ?_; rw [rounds_succ]
  go_wp2_with (first | (go_at_call 16; refine (traps_out _ _ _ _ (by omega)).mono ?_; rintro e w' ⟨rfl, rfl⟩) | (go_at_call 27; refine (leaf_4 _ _ _ hA hB).mono ?_; rintro e w' ⟨rfl, rfl⟩))
  go_ret3
  exact ⟨rfl, HB.out.alloc HB.out.size _⟩

set_option maxHeartbeats 400000 in
theorem bin_5 (a b : Int) (hA : Is a) (hB : Is b) (w : World) :
    Calls Tryd.prog 10 #[.int .i64 75, .int .u32 a, .int .u32 b] w fun e w' => e = .returned (.tuple #[.int .u32 (val 5 a b), .int .i64 0, .int .i64 0]) ∧ Below w.heap.size w w' := by
  go_enter Tryd.func10, Tryd.ntmps10
  go_wp2_with fail
  refine (rows_any w).mono ?_
  rintro e w' ⟨b1, b2, b3, rfl, ⟨c0, c1, c2, c3, m1, m2, s1, s2, s3⟩, hb⟩
  have m : w'.cell? ⟨b1, 5, none⟩ = some (.func (.func 28) #[] #[]) := m1 5 _ rfl
  clear m1 m2
  have HB := Lib.hid hb
  clear hb
  go_wp2
  refine wp_loop_rounds 1 ?_; rw [rounds_succ]
  go_wp2_with (first | (go_at_call 16; refine (traps_out _ _ _ _ (by omega)).mono ?_; rintro e w' ⟨rfl, rfl⟩) | (go_at_call 28; refine (leaf_5 _ _ _ hA hB).mono ?_; rintro e w' ⟨rfl, rfl⟩))
  go_ret3
  exact ⟨rfl, HB.out.alloc HB.out.size _⟩

set_option maxHeartbeats 400000 in
theorem bin_6 (a b : Int) (hA : Is a) (hB : Is b) (w : World) :
    Calls Tryd.prog 10 #[.int .i64 76, .int .u32 a, .int .u32 b] w fun e w' => e = .returned (.tuple #[.int .u32 (val 6 a b), .int .i64 0, .int .i64 0]) ∧ Below w.heap.size w w' := by
  go_enter Tryd.func10, Tryd.ntmps10
  go_wp2_with fail
  refine (rows_any w).mono ?_
  rintro e w' ⟨b1, b2, b3, rfl, ⟨c0, c1, c2, c3, m1, m2, s1, s2, s3⟩, hb⟩
  have m : w'.cell? ⟨b1, 6, none⟩ = some (.func (.func 29) #[] #[]) := m1 6 _ rfl
  clear m1 m2
  have HB := Lib.hid hb
  clear hb
  go_wp2
  refine wp_loop_rounds 1 ?_; rw [rounds_succ]
  go_wp2_with (first | (go_at_call 16; refine (traps_out _ _ _ _ (by omega)).mono ?_; rintro e w' ⟨rfl, rfl⟩) | (go_at_call 29; refine (leaf_6 _ _ _ hA hB).mono ?_; rintro e w' ⟨rfl, rfl⟩))
  go_ret3
  exact ⟨rfl, HB.out.alloc HB.out.size _⟩

set_option maxHeartbeats 400000 in
theorem bin_7 (a b : Int) (hA : Is a) (hB : Is b) (w : World) :
    Calls Tryd.prog 10 #[.int .i64 77, .int .u32 a, .int .u32 b] w fun e w' => e = .returned (.tuple #[.int .u32 (val 7 a b), .int .i64 0, .int .i64 0]) ∧ Below w.heap.size w w' := by
  go_enter Tryd.func10, Tryd.ntmps10
  go_wp2_with fail
  refine (rows_any w).mono ?_
  rintro e w' ⟨b1, b2, b3, rfl, ⟨c0, c1, c2, c3, m1, m2, s1, s2, s3⟩, hb⟩
  have m : w'.cell? ⟨b1, 7, none⟩ = some (.func (.func 30) #[] #[]) := m1 7 _ rfl
  clear m1 m2
  have HB := Lib.hid hb
  clear hb
  go_wp2
  refine wp_loop_rounds 1 ?_; rw [rounds_succ]
  go_wp2_with (first | (go_at_call 16; refine (traps_out _ _ _ _ (by omega)).mono ?_; rintro e w' ⟨rfl, rfl⟩) | (go_at_call 30; refine (leaf_7 _ _ _ hA hB).mono ?_; rintro e w' ⟨rfl, rfl⟩))
  go_ret3
  exact ⟨rfl, HB.out.alloc HB.out.size _⟩

set_option maxHeartbeats 400000 in
theorem bin_8 (a b : Int) (hA : Is a) (hB : Is b) (w : World) :
    Calls Tryd.prog 10 #[.int .i64 78, .int .u32 a, .int .u32 b] w fun e w' => e = .returned (.tuple #[.int .u32 (val 8 a b), .int .i64 0, .int .i64 0]) ∧ Below w.heap.size w w' := by
  go_enter Tryd.func10, Tryd.ntmps10
  go_wp2_with fail
  refine (rows_any w).mono ?_
  rintro e w' ⟨b1, b2, b3, rfl, ⟨c0, c1, c2, c3, m1, m2, s1, s2, s3⟩, hb⟩
  have m : w'.cell? ⟨b1, 8, none⟩ = some (.func (.func 31) #[] #[]) := m1 8 _ rfl
  clear m1 m2
  have HB := Lib.hid hb
  clear hb
  go_wp2
  refine wp_loop_rounds 1 ?_; rw [rounds_succ]
  go_wp2_with (first | (go_at_call 16; refine (traps_out _ _ _ _ (by omega)).mono ?_; rintro e w' ⟨rfl, rfl⟩) | (go_at_call 31; refine (leaf_8 _ _ _ hA hB).mono ?_; rintro e w' ⟨rfl, rfl⟩))
  go_ret3
  exact ⟨rfl, HB.out.alloc HB.out.size _⟩

set_option maxHeartbeats 400000 in
theorem bin_9 (a b : Int) (hA : Is a) (hB : Is b) (w : World) :
    Calls Tryd.prog 10 #[.int .i64 79, .int .u32 a, .int .u32 b] w fun e w' => e = .returned (.tuple #[.int .u32 (val 9 a b), .int .i64 0, .int .i64 0]) ∧ Below w.heap.size w w' := by
  go_enter Tryd.func10, Tryd.ntmps10
  go_wp2_with fail
  refine (rows_any w).mono ?_
  rintro e w' ⟨b1, b2, b3, rfl, ⟨c0, c1, c2, c3, m1, m2, s1, s2, s3⟩, hb⟩
  have m : w'.cell? ⟨b1, 9, none⟩ = some (.func (.func 32) #[] #[]) := m1 9 _ rfl
  clear m1 m2
  have HB := Lib.hid hb
  clear hb
  go_wp2
  refine wp_loop_rounds 1 ?_; rw [rounds_succ]
  go_wp2_with (first | (go_at_call 16; refine (traps_out _ _ _ _ (by omega)).mono ?_; rintro e w' ⟨rfl, rfl⟩) | (go_at_call 32; refine (leaf_9 _ _ _ hA hB).mono ?_; rintro e w' ⟨rfl, rfl⟩))
  go_ret3
  exact ⟨rfl, HB.out.alloc HB.out.size _⟩

set_option maxHeartbeats 400000 in
theorem bin_10 (a b : Int) (hA : Is a) (hB : Is b) (w : World) :
    Calls Tryd.prog 10 #[.int .i64 106, .int .u32 a, .int .u32 b] w fun e w' => e = .returned (.tuple #[.int .u32 (val 10 a b), .int .i64 0, .int .i64 0]) ∧ Below w.heap.size w w' := by
  go_enter Tryd.func10, Tryd.ntmps10
  go_wp2_with fail
  refine (rows_any w).mono ?_
  rintro e w' ⟨b1, b2, b3, rfl, ⟨c0, c1, c2, c3, m1, m2, s1, s2, s3⟩, hb⟩
  have m : w'.cell? ⟨b2, 0, none⟩ = some (.func (.func 33) #[] #[]) := m2 0 _ rfl
  clear m1 m2
  have HB := Lib.hid hb
  clear hb
  go_wp2
  refine wp_loop_rounds 2 ?_; rw [rounds_succ]
  go_wp2
  rw [rounds_succ]
  go_wp2_with (first | (go_at_call 16; refine (traps_out _ _ _ _ (by omega)).mono ?_; rintro e w' ⟨rfl, rfl⟩) | (go_at_call 33; refine (leaf_10 _ _ _ hA hB).mono ?_; rintro e w' ⟨rfl, rfl⟩))
  go_ret3
  exact ⟨rfl, (HB.out.alloc HB.out.size _).alloc (by have := HB.out.size; simp; omega) _⟩

set_option maxHeartbeats 400000 in
theorem bin_11 (a b : Int) (hA : Is a) (hB : Is b) (w : World) :
    Calls Tryd.prog 10 #[.int .i64 107, .int .u32 a, .int .u32 b] w fun e w' => e = .returned (.tuple #[.int .u32 (val 11 a b), .int .i64 0, .int .i64 0]) ∧ Below w.heap.size w w' := by
  go_enter Tryd.func10, Tryd.ntmps10
  go_wp2_with fail
  refine (rows_any w).mono ?_
  rintro e w' ⟨b1, b2, b3, rfl, ⟨c0, c1, c2, c3, m1, m2, s1, s2, s3⟩, hb⟩
  have m : w'.cell? ⟨b2, 1, none⟩ = some (.func (.func 34) #[] #[]) := m2 1 _ rfl
  clear m1 m2
  have HB := Lib.hid hb
  clear hb
  go_wp2
  refine wp_loop_rounds 2 ?_; rw [rounds_succ]
  go_wp2
  rw [rounds_succ]
  go_wp2_with (first | (go_at_call 16; refine (traps_out _ _ _ _ (by omega)).mono ?_; rintro e w' ⟨rfl, rfl⟩) | (go_at_call 34; refine (leaf_11 _ _ _ hA hB).mono ?_; rintro e w' ⟨rfl, rfl⟩))
  go_ret3
  exact ⟨rfl, (HB.out.alloc HB.out.size _).alloc (by have := HB.out.size; simp; omega) _⟩

set_option maxHeartbeats 400000 in
theorem bin_12 (a b : Int) (hA : Is a) (hB : Is b) (w : World) :
    Calls Tryd.prog 10 #[.int .i64 108, .int .u32 a, .int .u32 b] w fun e w' => e = .returned (.tuple #[.int .u32 (val 12 a b), .int .i64 0, .int .i64 0]) ∧ Below w.heap.size w w' := by
  go_enter Tryd.func10, Tryd.ntmps10
  go_wp2_with fail
  refine (rows_any w).mono ?_
  rintro e w' ⟨b1, b2, b3, rfl, ⟨c0, c1, c2, c3, m1, m2, s1, s2, s3⟩, hb⟩
  have m : w'.cell? ⟨b2, 2, none⟩ = some (.func (.func 35) #[] #[]) := m2 2 _ rfl
  clear m1 m2
  have HB := Lib.hid hb
  clear hb
  go_wp2
  refine wp_loop_rounds 2 ?_; rw [rounds_succ]
  go_wp2
  rw [rounds_succ]
  go_wp2_with (first | (go_at_call 16; refine (traps_out _ _ _ _ (by omega)).mono ?_; rintro e w' ⟨rfl, rfl⟩) | (go_at_call 35; refine (leaf_12 _ _ _ hA hB).mono ?_; rintro e w' ⟨rfl, rfl⟩))
  go_ret3
  exact ⟨rfl, (HB.out.alloc HB.out.size _).alloc (by have := HB.out.size; simp; omega) _⟩

set_option maxHeartbeats 400000 in
theorem bin_13_zero (a : Int) (w : World) :
    Calls Tryd.prog 10 #[.int .i64 109, .int .u32 a, .int .u32 0] w fun e w' => e = .returned (.tuple #[.int .u32 0, .int .i64 2, .int .i64 0]) ∧ Below w.heap.size w w' := by
  go_enter Tryd.func10, Tryd.ntmps10
  go_wp2_with fail
  refine (rows_any w).mono ?_
  rintro e w' ⟨b1, b2, b3, rfl, ⟨c0, c1, c2, c3, m1, m2, s1, s2, s3⟩, hb⟩
  clear m1 m2
  have HB := Lib.hid hb
  clear hb
  go_wp2
  refine wp_loop_rounds 2 ?_; rw [rounds_succ]
  go_wp2
  rw [rounds_succ]
  go_wp2_with ((go_at_call 16; refine (traps_zero _ _ _ _ (by omega) (by omega) rfl).mono ?_; rintro e w' ⟨rfl, rfl⟩))
  go_ret3
  exact ⟨rfl, (HB.out.alloc HB.out.size _).alloc (by have := HB.out.size; simp; omega) _⟩

set_option maxHeartbeats 400000 in
theorem bin_13_over (w : World) :
    Calls Tryd.prog 10 #[.int .i64 109, .int .u32 2147483648, .int .u32 4294967295] w fun e w' => e = .returned (.tuple #[.int .u32 0, .int .i64 3, .int .i64 0]) ∧ Below w.heap.size w w' := by
  go_enter Tryd.func10, Tryd.ntmps10
  go_wp2_with fail
  refine (rows_any w).mono ?_
  rintro e w' ⟨b1, b2, b3, rfl, ⟨c0, c1, c2, c3, m1, m2, s1, s2, s3⟩, hb⟩
  clear m1 m2
  have HB := Lib.hid hb
  clear hb
  go_wp2
  refine wp_loop_rounds 2 ?_; rw [rounds_succ]
  go_wp2
  rw [rounds_succ]
  go_wp2_with ((go_at_call 16; refine (traps_over _).mono ?_; rintro e w' ⟨rfl, rfl⟩))
  go_ret3
  exact ⟨rfl, (HB.out.alloc HB.out.size _).alloc (by have := HB.out.size; simp; omega) _⟩

set_option maxHeartbeats 400000 in
theorem bin_13 (a b : Int) (hA : Is a) (hB : Is b) (hz : ¬ b = 0) (ho : Hid (¬ (a = 2147483648 ∧ b = 4294967295))) (w : World) :
    Calls Tryd.prog 10 #[.int .i64 109, .int .u32 a, .int .u32 b] w fun e w' => e = .returned (.tuple #[.int .u32 (val 13 a b), .int .i64 0, .int .i64 0]) ∧ Below w.heap.size w w' := by
  have hz' : (b == 0) = false := by simpa using hz
  have TR := Lib.hid (hz')
  clear hz'
  go_enter Tryd.func10, Tryd.ntmps10
  go_wp2_with fail
  refine (rows_any w).mono ?_
  rintro e w' ⟨b1, b2, b3, rfl, ⟨c0, c1, c2, c3, m1, m2, s1, s2, s3⟩, hb⟩
  have m : w'.cell? ⟨b2, 3, none⟩ = some (.func (.func 36) #[] #[]) := m2 3 _ rfl
  clear m1 m2
  have HB := Lib.hid hb
  clear hb
  go_wp2
  refine wp_loop_rounds 2 ?_; rw [rounds_succ]
  go_wp2
  rw [rounds_succ]
  go_wp2_with (first | (go_at_call 16; refine (traps_none _ _ _ _ (by omega) (by omega) TR.out (by rcases Decidable.not_and_iff_or_not.1 ho.out with h | h <;> simp [h])).mono ?_; rintro e w' ⟨rfl, rfl⟩) | (go_at_call 36; refine (leaf_13 _ _ _ hA hB hz).mono ?_; rintro e w' ⟨rfl, rfl⟩))
  go_ret3
  exact ⟨rfl, (HB.out.alloc HB.out.size _).alloc (by have := HB.out.size; simp; omega) _⟩

set_option maxHeartbeats 400000 in
theorem bin_14_zero (a : Int) (w : World) :
    Calls Tryd.prog 10 #[.int .i64 110, .int .u32 a, .int .u32 0] w fun e w' => e = .returned (.tuple #[.int .u32 0, .int .i64 2, .int .i64 0]) ∧ Below w.heap.size w w' := by
  go_enter Tryd.func10, Tryd.ntmps10
  go_wp2_with fail
  refine (rows_any w).mono ?_
  rintro e w' ⟨b1, b2, b3, rfl, ⟨c0, c1, c2, c3, m1, m2, s1, s2, s3⟩, hb⟩
  clear m1 m2
  have HB := Lib.hid hb
  clear hb
  go_wp2
  refine wp_loop_rounds 2 ?_; rw [rounds_succ]
  go_wp2
  rw [rounds_succ]
  go_wp2_with ((go_at_call 16; refine (traps_zero _ _ _ _ (by omega) (by omega) rfl).mono ?_; rintro e w' ⟨rfl, rfl⟩))
  go_ret3
  exact ⟨rfl, (HB.out.alloc HB.out.size _).alloc (by have := HB.out.size; simp; omega) _⟩

set_option maxHeartbeats 400000 in
theorem bin_14 (a b : Int) (hA : Is a) (hB : Is b) (hz : ¬ b = 0) (w : World) :
    Calls Tryd.prog 10 #[.int .i64 110, .int .u32 a, .int .u32 b] w fun e w' => e = .returned (.tuple #[.int .u32 (val 14 a b), .int .i64 0, .int .i64 0]) ∧ Below w.heap.size w w' := by
  have hz' : (b == 0) = false := by simpa using hz
  have TR := Lib.hid (hz')
  clear hz'
  go_enter Tryd.func10, Tryd.ntmps10
  go_wp2_with fail
  refine (rows_any w).mono ?_
  rintro e w' ⟨b1, b2, b3, rfl, ⟨c0, c1, c2, c3, m1, m2, s1, s2, s3⟩, hb⟩
  have m : w'.cell? ⟨b2, 4, none⟩ = some (.func (.func 37) #[] #[]) := m2 4 _ rfl
  clear m1 m2
  have HB := Lib.hid hb
  clear hb
  go_wp2
  refine wp_loop_rounds 2 ?_; rw [rounds_succ]
  go_wp2
  rw [rounds_succ]
  go_wp2_with (first | (go_at_call 16; refine (traps_none _ _ _ _ (by omega) (by omega) TR.out (.inl (by decide))).mono ?_; rintro e w' ⟨rfl, rfl⟩) | (go_at_call 37; refine (leaf_14 _ _ _ hA hB hz).mono ?_; rintro e w' ⟨rfl, rfl⟩))
  go_ret3
  exact ⟨rfl, (HB.out.alloc HB.out.size _).alloc (by have := HB.out.size; simp; omega) _⟩

set_option maxHeartbeats 400000 in
theorem bin_15_zero (a : Int) (w : World) :
    Calls Tryd.prog 10 #[.int .i64 111, .int .u32 a, .int .u32 0] w fun e w' => e = .returned (.tuple #[.int .u32 0, .int .i64 2, .int .i64 0]) ∧ Below w.heap.size w w' := by
  go_enter Tryd.func10, Tryd.ntmps10
  go_wp2_with fail
  refine (rows_any w).mono ?_
  rintro e w' ⟨b1, b2, b3, rfl, ⟨c0, c1, c2, c3, m1, m2, s1, s2, s3⟩, hb⟩
  clear m1 m2
  have HB := Lib.hid hb
  clear hb
  go_wp2
  refine wp_loop_rounds 2 ?_; rw [rounds_succ]
  go_wp2
  rw [rounds_succ]
  go_wp2_with ((go_at_call 16; refine (traps_zero _ _ _ _ (by omega) (by omega) rfl).mono ?_; rintro e w' ⟨rfl, rfl⟩))
  go_ret3
  exact ⟨rfl, (HB.out.alloc HB.out.size _).alloc (by have := HB.out.size; simp; omega) _⟩

set_option maxHeartbeats 400000 in
theorem bin_15 (a b : Int) (hA : Is a) (hB : Is b) (hz : ¬ b = 0) (w : World) :
    Calls Tryd.prog 10 #[.int .i64 111, .int .u32 a, .int .u32 b] w fun e w' => e = .returned (.tuple #[.int .u32 (val 15 a b), .int .i64 0, .int .i64 0]) ∧ Below w.heap.size w w' := by
  have hz' : (b == 0) = false := by simpa using hz
  have TR := Lib.hid (hz')
  clear hz'
  go_enter Tryd.func10, Tryd.ntmps10
  go_wp2_with fail
  refine (rows_any w).mono ?_
  rintro e w' ⟨b1, b2, b3, rfl, ⟨c0, c1, c2, c3, m1, m2, s1, s2, s3⟩, hb⟩
  have m : w'.cell? ⟨b2, 5, none⟩ = some (.func (.func 38) #[] #[]) := m2 5 _ rfl
  clear m1 m2
  have HB := Lib.hid hb
  clear hb
  go_wp2
  refine wp_loop_rounds 2 ?_; rw [rounds_succ]
  go_wp2
  rw [rounds_succ]
  go_wp2_with (first | (go_at_call 16; refine (traps_none _ _ _ _ (by omega) (by omega) TR.out (.inl (by decide))).mono ?_; rintro e w' ⟨rfl, rfl⟩) | (go_at_call 38; refine (leaf_15 _ _ _ hA hB hz).mono ?_; rintro e w' ⟨rfl, rfl⟩))
  go_ret3
  exact ⟨rfl, (HB.out.alloc HB.out.size _).alloc (by have := HB.out.size; simp; omega) _⟩

set_option maxHeartbeats 400000 in
theorem bin_16_zero (a : Int) (w : World) :
    Calls Tryd.prog 10 #[.int .i64 112, .int .u32 a, .int .u32 0] w fun e w' => e = .returned (.tuple #[.int .u32 0, .int .i64 2, .int .i64 0]) ∧ Below w.heap.size w w' := by
  go_enter Tryd.func10, Tryd.ntmps10
  go_wp2_with fail
  refine (rows_any w).mono ?_
  rintro e w' ⟨b1, b2, b3, rfl, ⟨c0, c1, c2, c3, m1, m2, s1, s2, s3⟩, hb⟩
  clear m1 m2
  have HB := Lib.hid hb
  clear hb
  go_wp2
  refine wp_loop_rounds 2 ?_; rw [rounds_succ]
  go_wp2
  rw [rounds_succ]
  go_wp2_with ((go_at_call 16; refine (traps_zero _ _ _ _ (by omega) (by omega) rfl).mono ?_; rintro e w' ⟨rfl, rfl⟩))
  go_ret3
  exact ⟨rfl, (HB.out.alloc HB.out.size _).alloc (by have := HB.out.size; simp; omega) _⟩

set_option maxHeartbeats 400000 in
theorem bin_16 (a b : Int) (hA : Is a) (hB : Is b) (hz : ¬ b = 0) (w : World) :
    Calls Tryd.prog 10 #[.int .i64 112, .int .u32 a, .int .u32 b] w fun e w' => e = .returned (.tuple #[.int .u32 (val 16 a b), .int .i64 0, .int .i64 0]) ∧ Below w.heap.size w w' := by
  have hz' : (b == 0) = false := by simpa using hz
  have TR := Lib.hid (hz')
  clear hz'
  go_enter Tryd.func10, Tryd.ntmps10
  go_wp2_with fail
  refine (rows_any w).mono ?_
  rintro e w' ⟨b1, b2, b3, rfl, ⟨c0, c1, c2, c3, m1, m2, s1, s2, s3⟩, hb⟩
  have m : w'.cell? ⟨b2, 6, none⟩ = some (.func (.func 39) #[] #[]) := m2 6 _ rfl
  clear m1 m2
  have HB := Lib.hid hb
  clear hb
  go_wp2
  refine wp_loop_rounds 2 ?_; rw [rounds_succ]
  go_wp2
  rw [rounds_succ]
  go_wp2_with (first | (go_at_call 16; refine (traps_none _ _ _ _ (by omega) (by omega) TR.out (.inl (by decide))).mono ?_; rintro e w' ⟨rfl, rfl⟩) | (go_at_call 39; refine (leaf_16 _ _ _ hA hB hz).mono ?_; rintro e w' ⟨rfl, rfl⟩))
  go_ret3
  exact ⟨rfl, (HB.out.alloc HB.out.size _).alloc (by have := HB.out.size; simp; omega) _⟩

set_option maxHeartbeats 400000 in
theorem bin_17 (a b : Int) (hA : Is a) (hB : Is b) (w : World) :
    Calls Tryd.prog 10 #[.int .i64 113, .int .u32 a, .int .u32 b] w fun e w' => e = .returned (.tuple #[.int .u32 (val 17 a b), .int .i64 0, .int .i64 0]) ∧ Below w.heap.size w w' := by
  go_enter Tryd.func10, Tryd.ntmps10
  go_wp2_with fail
  refine (rows_any w).mono ?_
  rintro e w' ⟨b1, b2, b3, rfl, ⟨c0, c1, c2, c3, m1, m2, s1, s2, s3⟩, hb⟩
  have m : w'.cell? ⟨b2, 7, none⟩ = some (.func (.func 40) #[] #[]) := m2 7 _ rfl
  clear m1 m2
  have HB := Lib.hid hb
  clear hb
  go_wp2
  refine wp_loop_rounds 2 ?_; rw [rounds_succ]
  go_wp2
  rw [rounds_succ]
  go_wp2_with (first | (go_at_call 16; refine (traps_out _ _ _ _ (by omega)).mono ?_; rintro e w' ⟨rfl, rfl⟩) | (go_at_call 40; refine (leaf_17 _ _ _ hA hB).mono ?_; rintro e w' ⟨rfl, rfl⟩))
  go_ret3
  exact ⟨rfl, (HB.out.alloc HB.out.size _).alloc (by have := HB.out.size; simp; omega) _⟩

set_option maxHeartbeats 400000 in
theorem bin_18 (a b : Int) (hA : Is a) (hB : Is b) (w : World) :
    Calls Tryd.prog 10 #[.int .i64 114, .int .u32 a, .int .u32 b] w fun e w' => e = .returned (.tuple #[.int .u32 (val 18 a b), .int .i64 0, .int .i64 0]) ∧ Below w.heap.size w w' := by
  go_enter Tryd.func10, Tryd.ntmps10
  go_wp2_with fail
  refine (rows_any w).mono ?_
  rintro e w' ⟨b1, b2, b3, rfl, ⟨c0, c1, c2, c3, m1, m2, s1, s2, s3⟩, hb⟩
  have m : w'.cell? ⟨b2, 8, none⟩ = some (.func (.func 41) #[] #[]) := m2 8 _ rfl
  clear m1 m2
  have HB := Lib.hid hb
  clear hb
  go_wp2
  refine wp_loop_rounds 2 ?_; rw [rounds_succ]
  go_wp2
  rw [rounds_succ]
  go_wp2_with (first | (go_at_call 16; refine (traps_out _ _ _ _ (by omega)).mono ?_; rintro e w' ⟨rfl, rfl⟩) | (go_at_call 41; refine (leaf_18 _ _ _ hA hB).mono ?_; rintro e w' ⟨rfl, rfl⟩))
  go_ret3
  exact ⟨rfl, (HB.out.alloc HB.out.size _).alloc (by have := HB.out.size; simp; omega) _⟩

set_option maxHeartbeats 400000 in
theorem bin_19 (a b : Int) (hA : Is a) (hB : Is b) (w : World) :
    Calls Tryd.prog 10 #[.int .i64 115, .int .u32 a, .int .u32 b] w fun e w' => e = .returned (.tuple #[.int .u32 (val 19 a b), .int .i64 0, .int .i64 0]) ∧ Below w.heap.size w w' := by
  go_enter Tryd.func10, Tryd.ntmps10
  go_wp2_with fail
  refine (rows_any w).mono ?_
  rintro e w' ⟨b1, b2, b3, rfl, ⟨c0, c1, c2, c3, m1, m2, s1, s2, s3⟩, hb⟩
  have m : w'.cell? ⟨b2, 9, none⟩ = some (.func (.func 42) #[] #[]) := m2 9 _ rfl
  clear m1 m2
  have HB := Lib.hid hb
  clear hb
  go_wp2
  refine wp_loop_rounds 2 ?_; rw [rounds_succ]
  go_wp2
  rw [rounds_succ]
  go_wp2_with (first | (go_at_call 16; refine (traps_out _ _ _ _ (by omega)).mono ?_; rintro e w' ⟨rfl, rfl⟩) | (go_at_call 42; refine (leaf_19 _ _ _ hA hB).mono ?_; rintro e w' ⟨rfl, rfl⟩))
  go_ret3
  exact ⟨rfl, (HB.out.alloc HB.out.size _).alloc (by have := HB.out.size; simp; omega) _⟩

set_option maxHeartbeats 400000 in
theorem bin_20 (a b : Int) (hA : Is a) (hB : Is b) (w : World) :
    Calls Tryd.prog 10 #[.int .i64 116, .int .u32 a, .int .u32 b] w fun e w' => e = .returned (.tuple #[.int .u32 (val 20 a b), .int .i64 0, .int .i64 0]) ∧ Below w.heap.size w w' := by
  go_enter Tryd.func10, Tryd.ntmps10
  go_wp2_with fail
  refine (rows_any w).mono ?_
  rintro e w' ⟨b1, b2, b3, rfl, ⟨c0, c1, c2, c3, m1, m2, s1, s2, s3⟩, hb⟩
  have m : w'.cell? ⟨b2, 10, none⟩ = some (.func (.func 43) #[] #[]) := m2 10 _ rfl
  clear m1 m2
  have HB := Lib.hid hb
  clear hb
  go_wp2
  refine wp_loop_rounds 2 ?_; rw [rounds_succ]
  go_wp2
  rw [rounds_succ]
  go_wp2_with (first | (go_at_call 16; refine (traps_out _ _ _ _ (by omega)).mono ?_; rintro e w' ⟨rfl, rfl⟩) | (go_at_call 43; refine (leaf_20 _ _ _ hA hB).mono ?_; rintro e w' ⟨rfl, rfl⟩))
  go_ret3
  exact ⟨rfl, (HB.out.alloc HB.out.size _).alloc (by have := HB.out.size; simp; omega) _⟩

set_option maxHeartbeats 400000 in
theorem bin_21 (a b : Int) (hA : Is a) (hB : Is b) (w : World) :
    Calls Tryd.prog 10 #[.int .i64 117, .int .u32 a, .int .u32 b] w fun e w' => e = .returned (.tuple #[.int .u32 (val 21 a b), .int .i64 0, .int .i64 0]) ∧ Below w.heap.size w w' := by
  go_enter Tryd.func10, Tryd.ntmps10
  go_wp2_with fail
  refine (rows_any w).mono ?_
  rintro e w' ⟨b1, b2, b3, rfl, ⟨c0, c1, c2, c3, m1, m2, s1, s2, s3⟩, hb⟩
  have m : w'.cell? ⟨b2, 11, none⟩ = some (.func (.func 44) #[] #[]) := m2 11 _ rfl
  clear m1 m2
  have HB := Lib.hid hb
  clear hb
  go_wp2
  refine wp_loop_rounds 2 ?_; rw [rounds_succ]
  go_wp2
  rw [rounds_succ]
  go_wp2_with (first | (go_at_call 16; refine (traps_out _ _ _ _ (by omega)).mono ?_; rintro e w' ⟨rfl, rfl⟩) | (go_at_call 44; refine (leaf_21 _ _ _ hA hB).mono ?_; rintro e w' ⟨rfl, rfl⟩))
  go_ret3
  exact ⟨rfl, (HB.out.alloc HB.out.size _).alloc (by have := HB.out.size; simp; omega) _⟩

set_option maxHeartbeats 400000 in
theorem bin_22 (a b : Int) (hA : Is a) (hB : Is b) (w : World) :
    Calls Tryd.prog 10 #[.int .i64 118, .int .u32 a, .int .u32 b] w fun e w' => e = .returned (.tuple #[.int .u32 (val 22 a b), .int .i64 0, .int .i64 0]) ∧ Below w.heap.size w w' := by
  go_enter Tryd.func10, Tryd.ntmps10
  go_wp2_with fail
  refine (rows_any w).mono ?_
  rintro e w' ⟨b1, b2, b3, rfl, ⟨c0, c1, c2, c3, m1, m2, s1, s2, s3⟩, hb⟩
  have m : w'.cell? ⟨b2, 12, none⟩ = some (.func (.func 45) #[] #[]) := m2 12 _ rfl
  clear m1 m2
  have HB := Lib.hid hb
  clear hb
  go_wp2
  refine wp_loop_rounds 2 ?_; rw [rounds_succ]
  go_wp2
  rw [rounds_succ]
  go_wp2_with (first | (go_at_call 16; refine (traps_out _ _ _ _ (by omega)).mono ?_; rintro e w' ⟨rfl, rfl⟩) | (go_at_call 45; refine (leaf_22 _ _ _ hA hB).mono ?_; rintro e w' ⟨rfl, rfl⟩))
  go_ret3
  exact ⟨rfl, (HB.out.alloc HB.out.size _).alloc (by have := HB.out.size; simp; omega) _⟩

set_option maxHeartbeats 400000 in
theorem bin_23 (a b : Int) (hA : Is a) (hB : Is b) (w : World) :
    Calls Tryd.prog 10 #[.int .i64 119, .int .u32 a, .int .u32 b] w fun e w' => e = .returned (.tuple #[.int .u32 (val 23 a b), .int .i64 0, .int .i64 0]) ∧ Below w.heap.size w w' := by
  go_enter Tryd.func10, Tryd.ntmps10
  go_wp2_with fail
  refine (rows_any w).mono ?_
  rintro e w' ⟨b1, b2, b3, rfl, ⟨c0, c1, c2, c3, m1, m2, s1, s2, s3⟩, hb⟩
  have m : w'.cell? ⟨b2, 13, none⟩ = some (.func (.func 46) #[] #[]) := m2 13 _ rfl
  clear m1 m2
  have HB := Lib.hid hb
  clear hb
  go_wp2
  refine wp_loop_rounds 2 ?_; rw [rounds_succ]
  go_wp2
  rw [rounds_succ]
  go_wp2_with (first | (go_at_call 16; refine (traps_out _ _ _ _ (by omega)).mono ?_; rintro e w' ⟨rfl, rfl⟩) | (go_at_call 46; refine (leaf_23 _ _ _ hA hB).mono ?_; rintro e w' ⟨rfl, rfl⟩))
  go_ret3
  exact ⟨rfl, (HB.out.alloc HB.out.size _).alloc (by have := HB.out.size; simp; omega) _⟩

set_option maxHeartbeats 400000 in
theorem bin_24 (a b : Int) (hA : Is a) (hB : Is b) (w : World) :
    Calls Tryd.prog 10 #[.int .i64 120, .int .u32 a, .int .u32 b] w fun e w' => e = .returned (.tuple #[.int .u32 (val 24 a b), .int .i64 0, .int .i64 0]) ∧ Below w.heap.size w w' := by
  go_enter Tryd.func10, Tryd.ntmps10
  go_wp2_with fail
  refine (rows_any w).mono ?_
  rintro e w' ⟨b1, b2, b3, rfl, ⟨c0, c1, c2, c3, m1, m2, s1, s2, s3⟩, hb⟩
  have m : w'.cell? ⟨b2, 14, none⟩ = some (.func (.func 47) #[] #[]) := m2 14 _ rfl
  clear m1 m2
  have HB := Lib.hid hb
  clear hb
  go_wp2
  refine wp_loop_rounds 2 ?_; rw [rounds_succ]
  go_wp2
  rw [rounds_succ]
  go_wp2_with (first | (go_at_call 16; refine (traps_out _ _ _ _ (by omega)).mono ?_; rintro e w' ⟨rfl, rfl⟩) | (go_at_call 47; refine (leaf_24 _ _ _ hA hB).mono ?_; rintro e w' ⟨rfl, rfl⟩))
  go_ret3
  exact ⟨rfl, (HB.out.alloc HB.out.size _).alloc (by have := HB.out.size; simp; omega) _⟩

end Go.Proofs.YtbpgcndanlmdjaaDoor
