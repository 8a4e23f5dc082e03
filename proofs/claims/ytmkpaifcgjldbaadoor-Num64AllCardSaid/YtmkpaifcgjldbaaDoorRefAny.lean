/-
  WHAT gangwayref3.Bin64 ANSWERS, said at once: of every number of an operation (or none) and any two numbers of 64 bits. No condition.
-/
import Derived.Test.YtmkpaifcgjldbaaDoorRef
namespace Go.Proofs.YtmkpaifcgjldbaaDoor
open Go.RowKit
def ro (op : Int) : Bool := (place op).isSome

def BinSays (op a b v t : Int) (ok : Bool) : Prop := ∀ w, Calls Tryd.prog 15 #[.int .i64 op, .int .u64 a, .int .u64 b, .int .i64 64] w fun e w' => e = .returned (.tuple #[.int .u64 v, .int .i64 t, .bool ok]) ∧ w = w'
set_option maxHeartbeats 400000 in
theorem ref_of (op a b v t : Int) (ok : Bool) (h2 : BinSays op a b v t ok) (w : World) :
    Calls Tryd.prog 10 #[.int .i64 op, .int .u64 a, .int .u64 b] w fun e w' => e = .returned (.tuple #[.int .u64 v, .int .i64 t, .bool ok]) ∧ w = w' := by
  go_enter Tryd.func10, Tryd.ntmps10
  go_wp2_with (first | (go_at_call 15; refine (h2 _).mono ?_; rintro e w' ⟨rfl, rfl⟩))
  go_ret3
  exact ⟨rfl, rfl⟩

theorem ref_any (op a b : Int) (hA : Is a) (hB : Is b) (w : World) :
    Calls Tryd.prog 10 #[.int .i64 op, .int .u64 a, .int .u64 b] w fun e w' => e = .returned (.tuple #[.int .u64 (rv op a b), .int .i64 (rt op a b), .bool (ro op)]) ∧ w = w' := by
  by_cases h1 : op < 81 ∨ (90 < op ∧ op < 124) ∨ 138 < op
  · have hp := place_none h1
    have e1 : rv op a b = 0 := by unfold rv; rw [hp]
    have e2 : rt op a b = 0 := by unfold rt; rw [hp]
    have e3 : ro op = false := by unfold ro; rw [hp]; rfl
    rw [e1, e2, e3]
    exact ref_of op a b 0 0 false (fun w => refbin_none op a b hA hB (by simp; omega) (by simp; omega) (by simp; omega) (by simp; omega) (by simp; omega) (by simp; omega) (by simp; omega) (by simp; omega) (by simp; omega) (by simp; omega) (by simp; omega) (by simp; omega) (by simp; omega) (by simp; omega) (by simp; omega) (by simp; omega) (by simp; omega) (by simp; omega) (by simp; omega) (by simp; omega) (by simp; omega) (by simp; omega) (by simp; omega) (by simp; omega) (by simp; omega) w) w
  · have hop : op = 81 ∨ op = 82 ∨ op = 83 ∨ op = 84 ∨ op = 85 ∨ op = 86 ∨ op = 87 ∨ op = 88 ∨ op = 89 ∨ op = 90 ∨ op = 124 ∨ op = 125 ∨ op = 126 ∨ op = 127 ∨ op = 128 ∨ op = 129 ∨ op = 130 ∨ op = 131 ∨ op = 132 ∨ op = 133 ∨ op = 134 ∨ op = 135 ∨ op = 136 ∨ op = 137 ∨ op = 138 := by omega
    rcases hop with rfl | rfl | rfl | rfl | rfl | rfl | rfl | rfl | rfl | rfl | rfl | rfl | rfl | rfl | rfl | rfl | rfl | rfl | rfl | rfl | rfl | rfl | rfl | rfl | rfl
    · exact ref_of 81 _ _ _ _ true (fun w => refbin_0 a b hA hB w) w
    · exact ref_of 82 _ _ _ _ true (fun w => refbin_1 a b hA hB w) w
    · exact ref_of 83 _ _ _ _ true (fun w => refbin_2 a b hA hB w) w
    · exact ref_of 84 _ _ _ _ true (fun w => refbin_3 a b hA hB w) w
    · exact ref_of 85 _ _ _ _ true (fun w => refbin_4 a b hA hB w) w
    · exact ref_of 86 _ _ _ _ true (fun w => refbin_5 a b hA hB w) w
    · exact ref_of 87 _ _ _ _ true (fun w => refbin_6 a b hA hB w) w
    · exact ref_of 88 _ _ _ _ true (fun w => refbin_7 a b hA hB w) w
    · exact ref_of 89 _ _ _ _ true (fun w => refbin_8 a b hA hB w) w
    · exact ref_of 90 _ _ _ _ true (fun w => refbin_9 a b hA hB w) w
    · exact ref_of 124 _ _ _ _ true (fun w => refbin_10 a b hA hB w) w
    · exact ref_of 125 _ _ _ _ true (fun w => refbin_11 a b hA hB w) w
    · exact ref_of 126 _ _ _ _ true (fun w => refbin_12 a b hA hB w) w
    · by_cases hz : b = 0
      · subst hz
        exact ref_of 127 _ _ _ _ true (fun w => refbin_13_zero a hA w) w
      · by_cases ho : a = 9223372036854775808 ∧ b = 18446744073709551615
        · obtain ⟨rfl, rfl⟩ := ho
          exact ref_of 127 _ _ _ _ true (fun w => refbin_13_over w) w
        · have e0 : trap 13 a b = 0 := by simp [trap, hz, ho]
          rw [show rv 127 a b = val 13 a b by simp [rv, place, e0], show rt 127 a b = 0 by simp [rt, place, e0]]
          exact ref_of 127 _ _ _ _ true (fun w => refbin_13 a b hA hB hz ho w) w
    · by_cases hz : b = 0
      · subst hz
        exact ref_of 128 _ _ _ _ true (fun w => refbin_14_zero a hA w) w
      · have e0 : trap 14 a b = 0 := by simp [trap, hz]
        rw [show rv 128 a b = val 14 a b by simp [rv, place, e0], show rt 128 a b = 0 by simp [rt, place, e0]]
        exact ref_of 128 _ _ _ _ true (fun w => refbin_14 a b hA hB hz w) w
    · by_cases hz : b = 0
      · subst hz
        exact ref_of 129 _ _ _ _ true (fun w => refbin_15_zero a hA w) w
      · have e0 : trap 15 a b = 0 := by simp [trap, hz]
        rw [show rv 129 a b = val 15 a b by simp [rv, place, e0], show rt 129 a b = 0 by simp [rt, place, e0]]
        exact ref_of 129 _ _ _ _ true (fun w => refbin_15 a b hA hB hz w) w
    · by_cases hz : b = 0
      · subst hz
        exact ref_of 130 _ _ _ _ true (fun w => refbin_16_zero a hA w) w
      · have e0 : trap 16 a b = 0 := by simp [trap, hz]
        rw [show rv 130 a b = val 16 a b by simp [rv, place, e0], show rt 130 a b = 0 by simp [rt, place, e0]]
        exact ref_of 130 _ _ _ _ true (fun w => refbin_16 a b hA hB hz w) w
    · exact ref_of 131 _ _ _ _ true (fun w => refbin_17 a b hA hB w) w
    · exact ref_of 132 _ _ _ _ true (fun w => refbin_18 a b hA hB w) w
    · exact ref_of 133 _ _ _ _ true (fun w => refbin_19 a b hA hB w) w
    · exact ref_of 134 _ _ _ _ true (fun w => refbin_20 a b hA hB w) w
    · exact ref_of 135 _ _ _ _ true (fun w => refbin_21 a b hA hB w) w
    · exact ref_of 136 _ _ _ _ true (fun w => refbin_22 a b hA hB w) w
    · exact ref_of 137 _ _ _ _ true (fun w => refbin_23 a b hA hB w) w
    · exact ref_of 138 _ _ _ _ true (fun w => refbin_24 a b hA hB w) w
end Go.Proofs.YtmkpaifcgjldbaaDoor
