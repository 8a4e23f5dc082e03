/-
  WHAT num32.Bin ANSWERS, said at once: for every number of an operation (or none) and any two numbers of 32 bits. No condition.
-/
import Derived.Test.YtbpgcndanlmdjaaDoorBin
namespace Go.Proofs.YtbpgcndanlmdjaaDoor
open Go.RowKit

set_option maxHeartbeats 400000 in
theorem bin_lo (op a b : Int) (h : op < 70) (w : World) :
    Calls Tryd.prog 10 #[.int .i64 op, .int .u32 a, .int .u32 b] w fun e w' => e = .returned (.tuple #[.int .u32 0, .int .i64 0, .int .i64 100]) ∧ Below w.heap.size w w' := by
  go_enter Tryd.func10, Tryd.ntmps10
  go_wp2_with fail
  refine (rows_any w).mono ?_
  rintro e w' ⟨b1, b2, b3, rfl, ⟨c0, c1, c2, c3, m1, m2, s1, s2, s3⟩, hb⟩
  clear m1 m2
  have HB := Lib.hid hb
  clear hb
  go_wp2
  refine wp_loop_rounds 3 ?_; rw [rounds_succ]
  go_wp2
  rw [rounds_succ]
  go_wp2
  rw [rounds_succ]
  go_wp2
  go_ret3
  exact ⟨rfl, (HB.out.alloc HB.out.size _).alloc (by have := HB.out.size; simp; omega) _⟩

set_option maxHeartbeats 400000 in
theorem bin_mid (op a b : Int) (h1 : 79 < op) (h2 : op < 106) (w : World) :
    Calls Tryd.prog 10 #[.int .i64 op, .int .u32 a, .int .u32 b] w fun e w' => e = .returned (.tuple #[.int .u32 0, .int .i64 0, .int .i64 100]) ∧ Below w.heap.size w w' := by
  go_enter Tryd.func10, Tryd.ntmps10
  go_wp2_with fail
  refine (rows_any w).mono ?_
  rintro e w' ⟨b1, b2, b3, rfl, ⟨c0, c1, c2, c3, m1, m2, s1, s2, s3⟩, hb⟩
  clear m1 m2
  have HB := Lib.hid hb
  clear hb
  go_wp2
  refine wp_loop_rounds 3 ?_; rw [rounds_succ]
  go_wp2
  rw [rounds_succ]
  go_wp2
  rw [rounds_succ]
  go_wp2
  go_ret3
  exact ⟨rfl, (HB.out.alloc HB.out.size _).alloc (by have := HB.out.size; simp; omega) _⟩

set_option maxHeartbeats 400000 in
theorem bin_hi (op a b : Int) (h : 120 < op) (w : World) :
    Calls Tryd.prog 10 #[.int .i64 op, .int .u32 a, .int .u32 b] w fun e w' => e = .returned (.tuple #[.int .u32 0, .int .i64 0, .int .i64 100]) ∧ Below w.heap.size w w' := by
  go_enter Tryd.func10, Tryd.ntmps10
  go_wp2_with fail
  refine (rows_any w).mono ?_
  rintro e w' ⟨b1, b2, b3, rfl, ⟨c0, c1, c2, c3, m1, m2, s1, s2, s3⟩, hb⟩
  clear m1 m2
  have HB := Lib.hid hb
  clear hb
  go_wp2
  refine wp_loop_rounds 3 ?_; rw [rounds_succ]
  go_wp2
  rw [rounds_succ]
  go_wp2
  rw [rounds_succ]
  go_wp2
  go_ret3
  exact ⟨rfl, (HB.out.alloc HB.out.size _).alloc (by have := HB.out.size; simp; omega) _⟩

theorem bin_any (op a b : Int) (hA : Is a) (hB : Is b) (w : World) :
    Calls Tryd.prog 10 #[.int .i64 op, .int .u32 a, .int .u32 b] w fun e w' => e = .returned (.tuple #[.int .u32 (rv op a b), .int .i64 (rt op a b), .int .i64 (re op)]) ∧ Below w.heap.size w w' := by
  by_cases h1 : op < 70 ∨ (79 < op ∧ op < 106) ∨ 120 < op
  · have hp := place_none h1
    have e1 : rv op a b = 0 := by unfold rv; rw [hp]
    have e2 : rt op a b = 0 := by unfold rt; rw [hp]
    have e3 : re op = 100 := by unfold re; rw [hp]
    rw [e1, e2, e3]
    rcases h1 with h | ⟨h, h'⟩ | h
    · exact bin_lo op a b h w
    · exact bin_mid op a b h h' w
    · exact bin_hi op a b h w
  · have hop : op = 70 ∨ op = 71 ∨ op = 72 ∨ op = 73 ∨ op = 74 ∨ op = 75 ∨ op = 76 ∨ op = 77 ∨ op = 78 ∨ op = 79 ∨ op = 106 ∨ op = 107 ∨ op = 108 ∨ op = 109 ∨ op = 110 ∨ op = 111 ∨ op = 112 ∨ op = 113 ∨ op = 114 ∨ op = 115 ∨ op = 116 ∨ op = 117 ∨ op = 118 ∨ op = 119 ∨ op = 120 := by omega
    rcases hop with rfl | rfl | rfl | rfl | rfl | rfl | rfl | rfl | rfl | rfl | rfl | rfl | rfl | rfl | rfl | rfl | rfl | rfl | rfl | rfl | rfl | rfl | rfl | rfl | rfl
    · exact bin_0 a b hA hB w
    · exact bin_1 a b hA hB w
    · exact bin_2 a b hA hB w
    · exact bin_3 a b hA hB w
    · exact bin_4 a b hA hB w
    · exact bin_5 a b hA hB w
    · exact bin_6 a b hA hB w
    · exact bin_7 a b hA hB w
    · exact bin_8 a b hA hB w
    · exact bin_9 a b hA hB w
    · exact bin_10 a b hA hB w
    · exact bin_11 a b hA hB w
    · exact bin_12 a b hA hB w
    · by_cases hz : b = 0
      · subst hz
        exact bin_13_zero a w
      · by_cases ho : a = 2147483648 ∧ b = 4294967295
        · obtain ⟨rfl, rfl⟩ := ho
          exact bin_13_over w
        · have e0 : trap 13 a b = 0 := by simp [trap, hz, ho]
          rw [show rv 109 a b = val 13 a b by simp [rv, place, e0], show rt 109 a b = 0 by simp [rt, place, e0]]
          exact bin_13 a b hA hB hz ho w
    · by_cases hz : b = 0
      · subst hz
        exact bin_14_zero a w
      · have e0 : trap 14 a b = 0 := by simp [trap, hz]
        rw [show rv 110 a b = val 14 a b by simp [rv, place, e0], show rt 110 a b = 0 by simp [rt, place, e0]]
        exact bin_14 a b hA hB hz w
    · by_cases hz : b = 0
      · subst hz
        exact bin_15_zero a w
      · have e0 : trap 15 a b = 0 := by simp [trap, hz]
        rw [show rv 111 a b = val 15 a b by simp [rv, place, e0], show rt 111 a b = 0 by simp [rt, place, e0]]
        exact bin_15 a b hA hB hz w
    · by_cases hz : b = 0
      · subst hz
        exact bin_16_zero a w
      · have e0 : trap 16 a b = 0 := by simp [trap, hz]
        rw [show rv 112 a b = val 16 a b by simp [rv, place, e0], show rt 112 a b = 0 by simp [rt, place, e0]]
        exact bin_16 a b hA hB hz w
    · exact bin_17 a b hA hB w
    · exact bin_18 a b hA hB w
    · exact bin_19 a b hA hB w
    · exact bin_20 a b hA hB w
    · exact bin_21 a b hA hB w
    · exact bin_22 a b hA hB w
    · exact bin_23 a b hA hB w
    · exact bin_24 a b hA hB w
end Go.Proofs.YtbpgcndanlmdjaaDoor
