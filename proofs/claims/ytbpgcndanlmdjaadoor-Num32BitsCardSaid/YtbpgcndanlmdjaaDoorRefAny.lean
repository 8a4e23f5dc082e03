/-
  WHAT gangwayref3.Bin32 ANSWERS, said at once: of every number of an operation (or none) and any two numbers of 32 bits. No condition.
-/
import Derived.Test.YtbpgcndanlmdjaaDoorRef
namespace Go.Proofs.YtbpgcndanlmdjaaDoor
open Go.RowKit
def ro (op : Int) : Bool := (place op).isSome

set_option maxHeartbeats 400000 in
theorem wide_1 (op : Int) (w : World) (h0 : 69 ≤ op) (h1 : op ≤ 79) : Calls Tryd.prog 14 #[.int .i64 op] w fun e w' => e = .returned (.int .i64 (op + 11)) ∧ w = w' := by
  go_enter Tryd.func14, Tryd.ntmps14
  go_wp2
  go_ret
  exact ⟨rfl, rfl⟩
set_option maxHeartbeats 400000 in
theorem wide_2 (op : Int) (w : World) (h0 : 103 ≤ op) (h1 : op ≤ 120) : Calls Tryd.prog 14 #[.int .i64 op] w fun e w' => e = .returned (.int .i64 (op + 18)) ∧ w = w' := by
  go_enter Tryd.func14, Tryd.ntmps14
  go_wp2
  go_ret
  exact ⟨rfl, rfl⟩
set_option maxHeartbeats 400000 in
theorem wide_lo (op : Int) (w : World) (h0 : op < 69) : Calls Tryd.prog 14 #[.int .i64 op] w fun e w' => e = .returned (.int .i64 0) ∧ w = w' := by
  go_enter Tryd.func14, Tryd.ntmps14
  go_wp2
  go_ret
  exact ⟨rfl, rfl⟩
set_option maxHeartbeats 400000 in
theorem wide_mid (op : Int) (w : World) (h0 : 79 < op) (h1 : op < 103) : Calls Tryd.prog 14 #[.int .i64 op] w fun e w' => e = .returned (.int .i64 0) ∧ w = w' := by
  go_enter Tryd.func14, Tryd.ntmps14
  go_wp2
  go_ret
  exact ⟨rfl, rfl⟩
set_option maxHeartbeats 400000 in
theorem wide_hi (op : Int) (w : World) (h0 : 120 < op) : Calls Tryd.prog 14 #[.int .i64 op] w fun e w' => e = .returned (.int .i64 0) ∧ w = w' := by
  go_enter Tryd.func14, Tryd.ntmps14
  go_wp2
  go_ret
  exact ⟨rfl, rfl⟩
def WideSays (op o : Int) : Prop := ∀ w, Calls Tryd.prog 14 #[.int .i64 op] w fun e w' => e = .returned (.int .i64 o) ∧ w = w'

def BinSays (op a b v t : Int) (ok : Bool) : Prop := ∀ w, Calls Tryd.prog 17 #[.int .i64 op, .int .u64 a, .int .u64 b, .int .i64 32] w fun e w' => e = .returned (.tuple #[.int .u64 v, .int .i64 t, .bool ok]) ∧ w = w'
set_option maxHeartbeats 400000 in
theorem ref_of (op o a b v t : Int) (ok : Bool) (hA : Is a) (hB : Is b) (hV : Is v) (h1 : WideSays op o) (h2 : BinSays o a b v t ok) (w : World) :
    Calls Tryd.prog 11 #[.int .i64 op, .int .u32 a, .int .u32 b] w fun e w' => e = .returned (.tuple #[.int .u32 v, .int .i64 t, .bool ok]) ∧ w = w' := by
  have a0 := hA.1
  have a1 := hA.2
  have b0 := hB.1
  have b1 := hB.2
  have v0 := hV.1
  have v1 := hV.2
  go_enter Tryd.func11, Tryd.ntmps11
  go_wp2_with (first | (go_at_call 14; refine (h1 _).mono ?_; rintro e w' ⟨rfl, rfl⟩) | (go_at_call 17; refine (h2 _).mono ?_; rintro e w' ⟨rfl, rfl⟩))
  go_ret3
  exact ⟨rfl, rfl⟩

theorem ref_any (op a b : Int) (hA : Is a) (hB : Is b) (w : World) :
    Calls Tryd.prog 11 #[.int .i64 op, .int .u32 a, .int .u32 b] w fun e w' => e = .returned (.tuple #[.int .u32 (rv op a b), .int .i64 (rt op a b), .bool (ro op)]) ∧ w = w' := by
  by_cases h1 : op < 70 ∨ (79 < op ∧ op < 106) ∨ 120 < op
  · have hp := place_none h1
    have e1 : rv op a b = 0 := by unfold rv; rw [hp]
    have e2 : rt op a b = 0 := by unfold rt; rw [hp]
    have e3 : ro op = false := by unfold ro; rw [hp]; rfl
    rw [e1, e2, e3]
    have z0 : Is 0 := ⟨by decide, by decide⟩
    have hn : ∀ o : Int, (o = 0 ∨ o = 80 ∨ o = 121 ∨ o = 122 ∨ o = 123) → BinSays o a b 0 0 false := by
      intro o ho
      rcases ho with rfl | rfl | rfl | rfl | rfl <;> exact fun w => refbin_none _ a b hA hB (by decide) (by decide) (by decide) (by decide) (by decide) (by decide) (by decide) (by decide) (by decide) (by decide) (by decide) (by decide) (by decide) (by decide) (by decide) (by decide) (by decide) (by decide) (by decide) (by decide) (by decide) (by decide) (by decide) (by decide) (by decide) w
    rcases h1 with h | ⟨h, h'⟩ | h
    · by_cases h69 : op < 69
      · exact ref_of op 0 a b 0 0 false hA hB z0 (fun w => wide_lo op w h69) (hn _ (by omega)) w
      · exact ref_of op (op + 11) a b 0 0 false hA hB z0 (fun w => wide_1 op w (by omega) (by omega)) (hn _ (by omega)) w
    · by_cases h103 : op < 103
      · exact ref_of op 0 a b 0 0 false hA hB z0 (fun w => wide_mid op w (by omega) h103) (hn _ (by omega)) w
      · exact ref_of op (op + 18) a b 0 0 false hA hB z0 (fun w => wide_2 op w (by omega) (by omega)) (hn _ (by omega)) w
    · exact ref_of op 0 a b 0 0 false hA hB z0 (fun w => wide_hi op w h) (hn _ (by omega)) w
  · have hop : op = 70 ∨ op = 71 ∨ op = 72 ∨ op = 73 ∨ op = 74 ∨ op = 75 ∨ op = 76 ∨ op = 77 ∨ op = 78 ∨ op = 79 ∨ op = 106 ∨ op = 107 ∨ op = 108 ∨ op = 109 ∨ op = 110 ∨ op = 111 ∨ op = 112 ∨ op = 113 ∨ op = 114 ∨ op = 115 ∨ op = 116 ∨ op = 117 ∨ op = 118 ∨ op = 119 ∨ op = 120 := by omega
    rcases hop with rfl | rfl | rfl | rfl | rfl | rfl | rfl | rfl | rfl | rfl | rfl | rfl | rfl | rfl | rfl | rfl | rfl | rfl | rfl | rfl | rfl | rfl | rfl | rfl | rfl
    · exact ref_of 70 81 _ _ _ _ true hA hB (val_bd 0 hA.1 hA.2 hB.1 hB.2 (by simp)) (fun w => wide_1 70 w (by decide) (by decide)) (fun w => refbin_0 a b hA hB w) w
    · exact ref_of 71 82 _ _ _ _ true hA hB (val_bd 1 hA.1 hA.2 hB.1 hB.2 (by simp)) (fun w => wide_1 71 w (by decide) (by decide)) (fun w => refbin_1 a b hA hB w) w
    · exact ref_of 72 83 _ _ _ _ true hA hB (val_bd 2 hA.1 hA.2 hB.1 hB.2 (by simp)) (fun w => wide_1 72 w (by decide) (by decide)) (fun w => refbin_2 a b hA hB w) w
    · exact ref_of 73 84 _ _ _ _ true hA hB (val_bd 3 hA.1 hA.2 hB.1 hB.2 (by simp)) (fun w => wide_1 73 w (by decide) (by decide)) (fun w => refbin_3 a b hA hB w) w
    · exact ref_of 74 85 _ _ _ _ true hA hB (val_bd 4 hA.1 hA.2 hB.1 hB.2 (by simp)) (fun w => wide_1 74 w (by decide) (by decide)) (fun w => refbin_4 a b hA hB w) w
    · exact ref_of 75 86 _ _ _ _ true hA hB (val_bd 5 hA.1 hA.2 hB.1 hB.2 (by simp)) (fun w => wide_1 75 w (by decide) (by decide)) (fun w => refbin_5 a b hA hB w) w
    · exact ref_of 76 87 _ _ _ _ true hA hB (val_bd 6 hA.1 hA.2 hB.1 hB.2 (by simp)) (fun w => wide_1 76 w (by decide) (by decide)) (fun w => refbin_6 a b hA hB w) w
    · exact ref_of 77 88 _ _ _ _ true hA hB (val_bd 7 hA.1 hA.2 hB.1 hB.2 (by simp)) (fun w => wide_1 77 w (by decide) (by decide)) (fun w => refbin_7 a b hA hB w) w
    · exact ref_of 78 89 _ _ _ _ true hA hB (val_bd 8 hA.1 hA.2 hB.1 hB.2 (by simp)) (fun w => wide_1 78 w (by decide) (by decide)) (fun w => refbin_8 a b hA hB w) w
    · exact ref_of 79 90 _ _ _ _ true hA hB (val_bd 9 hA.1 hA.2 hB.1 hB.2 (by simp)) (fun w => wide_1 79 w (by decide) (by decide)) (fun w => refbin_9 a b hA hB w) w
    · exact ref_of 106 124 _ _ _ _ true hA hB (val_bd 10 hA.1 hA.2 hB.1 hB.2 (by simp)) (fun w => wide_2 106 w (by decide) (by decide)) (fun w => refbin_10 a b hA hB w) w
    · exact ref_of 107 125 _ _ _ _ true hA hB (val_bd 11 hA.1 hA.2 hB.1 hB.2 (by simp)) (fun w => wide_2 107 w (by decide) (by decide)) (fun w => refbin_11 a b hA hB w) w
    · exact ref_of 108 126 _ _ _ _ true hA hB (val_bd 12 hA.1 hA.2 hB.1 hB.2 (by simp)) (fun w => wide_2 108 w (by decide) (by decide)) (fun w => refbin_12 a b hA hB w) w
    · by_cases hz : b = 0
      · subst hz
        exact ref_of 109 127 _ _ _ _ true hA hB ⟨by decide, by decide⟩ (fun w => wide_2 109 w (by decide) (by decide)) (fun w => refbin_13_zero a hA w) w
      · by_cases ho : a = 2147483648 ∧ b = 4294967295
        · obtain ⟨rfl, rfl⟩ := ho
          exact ref_of 109 127 _ _ _ _ true hA hB ⟨by decide, by decide⟩ (fun w => wide_2 109 w (by decide) (by decide)) (fun w => refbin_13_over w) w
        · have e0 : trap 13 a b = 0 := by simp [trap, hz, ho]
          rw [show rv 109 a b = val 13 a b by simp [rv, place, e0], show rt 109 a b = 0 by simp [rt, place, e0]]
          exact ref_of 109 127 _ _ _ _ true hA hB (val_bd 13 hA.1 hA.2 hB.1 hB.2 (fun _ => hz)) (fun w => wide_2 109 w (by decide) (by decide)) (fun w => refbin_13 a b hA hB hz ho w) w
    · by_cases hz : b = 0
      · subst hz
        exact ref_of 110 128 _ _ _ _ true hA hB ⟨by decide, by decide⟩ (fun w => wide_2 110 w (by decide) (by decide)) (fun w => refbin_14_zero a hA w) w
      · have e0 : trap 14 a b = 0 := by simp [trap, hz]
        rw [show rv 110 a b = val 14 a b by simp [rv, place, e0], show rt 110 a b = 0 by simp [rt, place, e0]]
        exact ref_of 110 128 _ _ _ _ true hA hB (val_bd 14 hA.1 hA.2 hB.1 hB.2 (fun _ => hz)) (fun w => wide_2 110 w (by decide) (by decide)) (fun w => refbin_14 a b hA hB hz w) w
    · by_cases hz : b = 0
      · subst hz
        exact ref_of 111 129 _ _ _ _ true hA hB ⟨by decide, by decide⟩ (fun w => wide_2 111 w (by decide) (by decide)) (fun w => refbin_15_zero a hA w) w
      · have e0 : trap 15 a b = 0 := by simp [trap, hz]
        rw [show rv 111 a b = val 15 a b by simp [rv, place, e0], show rt 111 a b = 0 by simp [rt, place, e0]]
        exact ref_of 111 129 _ _ _ _ true hA hB (val_bd 15 hA.1 hA.2 hB.1 hB.2 (fun _ => hz)) (fun w => wide_2 111 w (by decide) (by decide)) (fun w => refbin_15 a b hA hB hz w) w
    · by_cases hz : b = 0
      · subst hz
        exact ref_of 112 130 _ _ _ _ true hA hB ⟨by decide, by decide⟩ (fun w => wide_2 112 w (by decide) (by decide)) (fun w => refbin_16_zero a hA w) w
      · have e0 : trap 16 a b = 0 := by simp [trap, hz]
        rw [show rv 112 a b = val 16 a b by simp [rv, place, e0], show rt 112 a b = 0 by simp [rt, place, e0]]
        exact ref_of 112 130 _ _ _ _ true hA hB (val_bd 16 hA.1 hA.2 hB.1 hB.2 (fun _ => hz)) (fun w => wide_2 112 w (by decide) (by decide)) (fun w => refbin_16 a b hA hB hz w) w
    · exact ref_of 113 131 _ _ _ _ true hA hB (val_bd 17 hA.1 hA.2 hB.1 hB.2 (by simp)) (fun w => wide_2 113 w (by decide) (by decide)) (fun w => refbin_17 a b hA hB w) w
    · exact ref_of 114 132 _ _ _ _ true hA hB (val_bd 18 hA.1 hA.2 hB.1 hB.2 (by simp)) (fun w => wide_2 114 w (by decide) (by decide)) (fun w => refbin_18 a b hA hB w) w
    · exact ref_of 115 133 _ _ _ _ true hA hB (val_bd 19 hA.1 hA.2 hB.1 hB.2 (by simp)) (fun w => wide_2 115 w (by decide) (by decide)) (fun w => refbin_19 a b hA hB w) w
    · exact ref_of 116 134 _ _ _ _ true hA hB (val_bd 20 hA.1 hA.2 hB.1 hB.2 (by simp)) (fun w => wide_2 116 w (by decide) (by decide)) (fun w => refbin_20 a b hA hB w) w
    · exact ref_of 117 135 _ _ _ _ true hA hB (val_bd 21 hA.1 hA.2 hB.1 hB.2 (by simp)) (fun w => wide_2 117 w (by decide) (by decide)) (fun w => refbin_21 a b hA hB w) w
    · exact ref_of 118 136 _ _ _ _ true hA hB (val_bd 22 hA.1 hA.2 hB.1 hB.2 (by simp)) (fun w => wide_2 118 w (by decide) (by decide)) (fun w => refbin_22 a b hA hB w) w
    · exact ref_of 119 137 _ _ _ _ true hA hB (val_bd 23 hA.1 hA.2 hB.1 hB.2 (by simp)) (fun w => wide_2 119 w (by decide) (by decide)) (fun w => refbin_23 a b hA hB w) w
    · exact ref_of 120 138 _ _ _ _ true hA hB (val_bd 24 hA.1 hA.2 hB.1 hB.2 (by simp)) (fun w => wide_2 120 w (by decide) (by decide)) (fun w => refbin_24 a b hA hB w) w
end Go.Proofs.YtbpgcndanlmdjaaDoor
