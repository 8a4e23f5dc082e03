/-
  WHAT num32.Un ANSWERS: for every number of an operation (or none) and any number of 32 bits. Condition (told by the row): the library's table reads as its text lays it.
-/
import Derived.Test.YtbpgcndanlmdjaaDoorUn
namespace Go.Proofs.YtbpgcndanlmdjaaDoor
open Go.RowKit
theorem below_drewN {B : Nat} {a w : World} (h : Below B a w) (n : Nat) : Below B a (w.drewN n) := ⟨h.os, h.tape, h.output, h.size, h.block⟩
theorem tz_any (a : Int) (w : World) (hA : Is a) (hT : Tab w) : Calls Tryd.prog 54 #[.int .u32 a] w fun e w' => e = .returned (.int .i64 (uval 2 a)) ∧ w = w' := by
  by_cases h : a = 0
  · subst h
    exact tz_zero w
  · exact tz_some a w hA h hT

/-- the call leaves what was there; the answer is n. -/
def Tells (n : Int) (w : World) (e : Ending) (w' : World) : Prop := e = .returned (.int .u32 n) ∧ Below w.heap.size w w'
set_option maxHeartbeats 400000 in
theorem un_0 (a : Int) (w : World) : Calls Tryd.prog 18 #[.int .u32 a] w (Tells (uval 0 a) w) := by
  go_enter Tryd.func18, Tryd.ntmps18
  go_wp2
  · go_ret
    exact ⟨ret_int (fl_t (by simpa using (show (a == 0) = true by assumption))).symm, Below.refl _ _⟩
  · go_ret
    exact ⟨ret_int (fl_f (by simpa using (show (a == 0) = false by assumption))).symm, Below.refl _ _⟩
set_option maxHeartbeats 400000 in
theorem un_1 (a : Int) (w : World) (hA : Is a) : Calls Tryd.prog 19 #[.int .u32 a] w (Tells (uval 1 a) w) := by
  obtain ⟨h0, h1⟩ := uval_bd 1 a
  go_enter Tryd.func19, Tryd.ntmps19
  go_wp2_with (go_at_call 53; refine (lz_any _ _ hA).mono ?_; rintro e w' ⟨rfl, rfl⟩)
  go_ret
  exact ⟨rfl, Below.refl _ _⟩
set_option maxHeartbeats 400000 in
theorem un_2 (a : Int) (w : World) (hA : Is a) (hT : Tab w) : Calls Tryd.prog 20 #[.int .u32 a] w (Tells (uval 2 a) w) := by
  obtain ⟨h0, h1⟩ := uval_bd 2 a
  have HT := Lib.hid hT
  clear hT
  go_enter Tryd.func20, Tryd.ntmps20
  go_wp2_with (go_at_call 54; refine (tz_any _ _ hA HT.out).mono ?_; rintro e w' ⟨rfl, rfl⟩)
  go_ret
  exact ⟨rfl, Below.refl _ _⟩
set_option maxHeartbeats 400000 in
theorem un_3 (a : Int) (w : World) (hA : Is a) : Calls Tryd.prog 21 #[.int .u32 a] w (Tells (uval 3 a) w) := by
  obtain ⟨h0, h1⟩ := uval_bd 3 a
  go_enter Tryd.func21, Tryd.ntmps21
  go_wp2_with (go_at_call 55; refine (oc_any _ _ hA).mono ?_; rintro e w' ⟨rfl, n, rfl⟩)
  go_ret
  exact ⟨rfl, below_drewN (Below.refl _ _) _⟩
theorem find_none {op : Int} (a : Int) (n0 : ¬ op = 69) (n1 : ¬ op = 103) (n2 : ¬ op = 104) (n3 : ¬ op = 105) : Instr.findNow (.int .i64) (.int .i64 op) (#[⟨.int .i64 69, .func (.func 18) #[.int .u32 a] #[], 0⟩, ⟨.int .i64 103, .func (.func 19) #[.int .u32 a] #[], 1⟩, ⟨.int .i64 104, .func (.func 20) #[.int .u32 a] #[], 2⟩, ⟨.int .i64 105, .func (.func 21) #[.int .u32 a] #[], 3⟩] : Array MapEntry).toList 0 = some none := by
  have b0 : (op == 69) = false := by simpa using n0
  have b1 : (op == 103) = false := by simpa using n1
  have b2 : (op == 104) = false := by simpa using n2
  have b3 : (op == 105) = false := by simpa using n3
  simp [Instr.findNow, Instr.sameNow, b0, b1, b2, b3]
set_option maxHeartbeats 400000 in
theorem uns_any (a : Int) (w : World) : Calls Tryd.prog 12 #[.int .u32 a] w fun e w' => e = .returned (.map (some w.heap.size)) ∧ w' = w.alloc (.map #[⟨.int .i64 69, .func (.func 18) #[.int .u32 a] #[], 0⟩, ⟨.int .i64 103, .func (.func 19) #[.int .u32 a] #[], 1⟩, ⟨.int .i64 104, .func (.func 20) #[.int .u32 a] #[], 2⟩, ⟨.int .i64 105, .func (.func 21) #[.int .u32 a] #[], 3⟩] 4) := by
  have hmm := @run_makeMap Tryd.prog
  have i0 := run_ins Tryd.underlying40 Tryd.underlying3 w #[] 0 69 (.func (.func 18) #[.int .u32 a] #[]) rfl
  have i1 := run_ins Tryd.underlying40 Tryd.underlying3 w #[⟨.int .i64 69, .func (.func 18) #[.int .u32 a] #[], 0⟩] 1 103 (.func (.func 19) #[.int .u32 a] #[]) rfl
  have i2 := run_ins Tryd.underlying40 Tryd.underlying3 w #[⟨.int .i64 69, .func (.func 18) #[.int .u32 a] #[], 0⟩, ⟨.int .i64 103, .func (.func 19) #[.int .u32 a] #[], 1⟩] 2 104 (.func (.func 20) #[.int .u32 a] #[]) rfl
  have i3 := run_ins Tryd.underlying40 Tryd.underlying3 w #[⟨.int .i64 69, .func (.func 18) #[.int .u32 a] #[], 0⟩, ⟨.int .i64 103, .func (.func 19) #[.int .u32 a] #[], 1⟩, ⟨.int .i64 104, .func (.func 20) #[.int .u32 a] #[], 2⟩] 3 105 (.func (.func 21) #[.int .u32 a] #[]) rfl
  simp only [List.push_toArray, List.cons_append, List.nil_append, Nat.zero_add, Nat.reduceAdd] at i0 i1 i2 i3
  go_enter Tryd.func12, Tryd.ntmps12
  go_wp2
  go_ret
  exact ⟨rfl, rfl⟩

set_option maxHeartbeats 400000 in
theorem unat_0 (a : Int) (w : World) (_hA : Is a) (hT : Tab w) : Calls Tryd.prog 6 #[.int .i64 69, .int .u32 a] w fun e w' => e = .returned (.tuple #[.int .u32 (uval 0 a), .int .i64 0]) ∧ Below w.heap.size w w' := by
  have q := run_ask Tryd.underlying40 Tryd.underlying3 (w.alloc (.map #[⟨.int .i64 69, .func (.func 18) #[.int .u32 a] #[], 0⟩, ⟨.int .i64 103, .func (.func 19) #[.int .u32 a] #[], 1⟩, ⟨.int .i64 104, .func (.func 20) #[.int .u32 a] #[], 2⟩, ⟨.int .i64 105, .func (.func 21) #[.int .u32 a] #[], 3⟩] 4)) w.heap.size _ _ 69 (.func (.func 18) #[.int .u32 a] #[]) 0 (heap_alloc_new w _) rfl
  have heq : ∀ w, (binOp .eql 39 (.func (.func 18) #[.int .u32 a] #[]) .nilFunc).run Tryd.prog w = .ok (.bool false) w := fun _ => by kernel_rfl
  have HT : Hid (Tab (w.alloc (.map #[⟨.int .i64 69, .func (.func 18) #[.int .u32 a] #[], 0⟩, ⟨.int .i64 103, .func (.func 19) #[.int .u32 a] #[], 1⟩, ⟨.int .i64 104, .func (.func 20) #[.int .u32 a] #[], 2⟩, ⟨.int .i64 105, .func (.func 21) #[.int .u32 a] #[], 3⟩] 4))) := Lib.hid (hT.below (Nat.lt_of_lt_of_le hT.1 (Nat.le_refl _)) ((Below.refl _ _).alloc (Nat.le_refl _) _) (by simp))
  clear hT
  go_enter Tryd.func6, Tryd.ntmps6
  go_wp2_with (go_at_call 12; refine (uns_any _ _).mono ?_; rintro e w' ⟨rfl, rfl⟩)
  refine (un_0 a _).mono ?_
  rintro e w1 ⟨rfl, hb⟩
  have HB := Lib.hid (((Below.refl w.heap.size w).alloc (Nat.le_refl _) _).trans (hb.mono (by simp)))
  clear hb
  go_wp2
  go_ret2
  exact ⟨rfl, HB.out⟩

set_option maxHeartbeats 400000 in
theorem unat_1 (a : Int) (w : World) (hA : Is a) (hT : Tab w) : Calls Tryd.prog 6 #[.int .i64 103, .int .u32 a] w fun e w' => e = .returned (.tuple #[.int .u32 (uval 1 a), .int .i64 0]) ∧ Below w.heap.size w w' := by
  have q := run_ask Tryd.underlying40 Tryd.underlying3 (w.alloc (.map #[⟨.int .i64 69, .func (.func 18) #[.int .u32 a] #[], 0⟩, ⟨.int .i64 103, .func (.func 19) #[.int .u32 a] #[], 1⟩, ⟨.int .i64 104, .func (.func 20) #[.int .u32 a] #[], 2⟩, ⟨.int .i64 105, .func (.func 21) #[.int .u32 a] #[], 3⟩] 4)) w.heap.size _ _ 103 (.func (.func 19) #[.int .u32 a] #[]) 1 (heap_alloc_new w _) rfl
  have heq : ∀ w, (binOp .eql 39 (.func (.func 19) #[.int .u32 a] #[]) .nilFunc).run Tryd.prog w = .ok (.bool false) w := fun _ => by kernel_rfl
  have HT : Hid (Tab (w.alloc (.map #[⟨.int .i64 69, .func (.func 18) #[.int .u32 a] #[], 0⟩, ⟨.int .i64 103, .func (.func 19) #[.int .u32 a] #[], 1⟩, ⟨.int .i64 104, .func (.func 20) #[.int .u32 a] #[], 2⟩, ⟨.int .i64 105, .func (.func 21) #[.int .u32 a] #[], 3⟩] 4))) := Lib.hid (hT.below (Nat.lt_of_lt_of_le hT.1 (Nat.le_refl _)) ((Below.refl _ _).alloc (Nat.le_refl _) _) (by simp))
  clear hT
  go_enter Tryd.func6, Tryd.ntmps6
  go_wp2_with (go_at_call 12; refine (uns_any _ _).mono ?_; rintro e w' ⟨rfl, rfl⟩)
  refine (un_1 a _ hA).mono ?_
  rintro e w1 ⟨rfl, hb⟩
  have HB := Lib.hid (((Below.refl w.heap.size w).alloc (Nat.le_refl _) _).trans (hb.mono (by simp)))
  clear hb
  go_wp2
  go_ret2
  exact ⟨rfl, HB.out⟩

set_option maxHeartbeats 400000 in
theorem unat_2 (a : Int) (w : World) (hA : Is a) (hT : Tab w) : Calls Tryd.prog 6 #[.int .i64 104, .int .u32 a] w fun e w' => e = .returned (.tuple #[.int .u32 (uval 2 a), .int .i64 0]) ∧ Below w.heap.size w w' := by
  have q := run_ask Tryd.underlying40 Tryd.underlying3 (w.alloc (.map #[⟨.int .i64 69, .func (.func 18) #[.int .u32 a] #[], 0⟩, ⟨.int .i64 103, .func (.func 19) #[.int .u32 a] #[], 1⟩, ⟨.int .i64 104, .func (.func 20) #[.int .u32 a] #[], 2⟩, ⟨.int .i64 105, .func (.func 21) #[.int .u32 a] #[], 3⟩] 4)) w.heap.size _ _ 104 (.func (.func 20) #[.int .u32 a] #[]) 2 (heap_alloc_new w _) rfl
  have heq : ∀ w, (binOp .eql 39 (.func (.func 20) #[.int .u32 a] #[]) .nilFunc).run Tryd.prog w = .ok (.bool false) w := fun _ => by kernel_rfl
  have HT : Hid (Tab (w.alloc (.map #[⟨.int .i64 69, .func (.func 18) #[.int .u32 a] #[], 0⟩, ⟨.int .i64 103, .func (.func 19) #[.int .u32 a] #[], 1⟩, ⟨.int .i64 104, .func (.func 20) #[.int .u32 a] #[], 2⟩, ⟨.int .i64 105, .func (.func 21) #[.int .u32 a] #[], 3⟩] 4))) := Lib.hid (hT.below (Nat.lt_of_lt_of_le hT.1 (Nat.le_refl _)) ((Below.refl _ _).alloc (Nat.le_refl _) _) (by simp))
  clear hT
  go_enter Tryd.func6, Tryd.ntmps6
  go_wp2_with (go_at_call 12; refine (uns_any _ _).mono ?_; rintro e w' ⟨rfl, rfl⟩)
  refine (un_2 a _ hA HT.out).mono ?_
  rintro e w1 ⟨rfl, hb⟩
  have HB := Lib.hid (((Below.refl w.heap.size w).alloc (Nat.le_refl _) _).trans (hb.mono (by simp)))
  clear hb
  go_wp2
  go_ret2
  exact ⟨rfl, HB.out⟩

set_option maxHeartbeats 400000 in
theorem unat_3 (a : Int) (w : World) (hA : Is a) (hT : Tab w) : Calls Tryd.prog 6 #[.int .i64 105, .int .u32 a] w fun e w' => e = .returned (.tuple #[.int .u32 (uval 3 a), .int .i64 0]) ∧ Below w.heap.size w w' := by
  have q := run_ask Tryd.underlying40 Tryd.underlying3 (w.alloc (.map #[⟨.int .i64 69, .func (.func 18) #[.int .u32 a] #[], 0⟩, ⟨.int .i64 103, .func (.func 19) #[.int .u32 a] #[], 1⟩, ⟨.int .i64 104, .func (.func 20) #[.int .u32 a] #[], 2⟩, ⟨.int .i64 105, .func (.func 21) #[.int .u32 a] #[], 3⟩] 4)) w.heap.size _ _ 105 (.func (.func 21) #[.int .u32 a] #[]) 3 (heap_alloc_new w _) rfl
  have heq : ∀ w, (binOp .eql 39 (.func (.func 21) #[.int .u32 a] #[]) .nilFunc).run Tryd.prog w = .ok (.bool false) w := fun _ => by kernel_rfl
  have HT : Hid (Tab (w.alloc (.map #[⟨.int .i64 69, .func (.func 18) #[.int .u32 a] #[], 0⟩, ⟨.int .i64 103, .func (.func 19) #[.int .u32 a] #[], 1⟩, ⟨.int .i64 104, .func (.func 20) #[.int .u32 a] #[], 2⟩, ⟨.int .i64 105, .func (.func 21) #[.int .u32 a] #[], 3⟩] 4))) := Lib.hid (hT.below (Nat.lt_of_lt_of_le hT.1 (Nat.le_refl _)) ((Below.refl _ _).alloc (Nat.le_refl _) _) (by simp))
  clear hT
  go_enter Tryd.func6, Tryd.ntmps6
  go_wp2_with (go_at_call 12; refine (uns_any _ _).mono ?_; rintro e w' ⟨rfl, rfl⟩)
  refine (un_3 a _ hA).mono ?_
  rintro e w1 ⟨rfl, hb⟩
  have HB := Lib.hid (((Below.refl w.heap.size w).alloc (Nat.le_refl _) _).trans (hb.mono (by simp)))
  clear hb
  go_wp2
  go_ret2
  exact ⟨rfl, HB.out⟩

set_option maxHeartbeats 400000 in
theorem unat_none (op a : Int) (w : World) (n0 : ¬ op = 69) (n1 : ¬ op = 103) (n2 : ¬ op = 104) (n3 : ¬ op = 105) : Calls Tryd.prog 6 #[.int .i64 op, .int .u32 a] w fun e w' => e = .returned (.tuple #[.int .u32 0, .int .i64 100]) ∧ Below w.heap.size w w' := by
  have q := run_ask_none Tryd.underlying40 Tryd.underlying3 (w.alloc (.map #[⟨.int .i64 69, .func (.func 18) #[.int .u32 a] #[], 0⟩, ⟨.int .i64 103, .func (.func 19) #[.int .u32 a] #[], 1⟩, ⟨.int .i64 104, .func (.func 20) #[.int .u32 a] #[], 2⟩, ⟨.int .i64 105, .func (.func 21) #[.int .u32 a] #[], 3⟩] 4)) w.heap.size _ _ op .nilFunc (by kernel_rfl) (heap_alloc_new w _) (find_none a n0 n1 n2 n3)
  have heq : ∀ w, (binOp .eql 39 .nilFunc .nilFunc).run Tryd.prog w = .ok (.bool true) w := fun _ => by kernel_rfl
  go_enter Tryd.func6, Tryd.ntmps6
  go_wp2_with (go_at_call 12; refine (uns_any _ _).mono ?_; rintro e w' ⟨rfl, rfl⟩)
  go_ret2
  exact ⟨rfl, (Below.refl _ _).alloc (Nat.le_refl _) _⟩
/-- the operation's place among the four. -/
def uplace (op : Int) : Option Nat := if op = 69 then some 0 else if op = 103 then some 1 else if op = 104 then some 2 else if op = 105 then some 3 else none
def uv (op a : Int) : Int := match uplace op with
  | none => 0
  | some k => uval k a
def ue (op : Int) : Int := match uplace op with
  | none => 100
  | some _ => 0
def uo (op : Int) : Bool := (uplace op).isSome
theorem ue_uo (op : Int) : (ue op = 0 ∧ uo op = true) ∨ (ue op = 100 ∧ uo op = false) := by
  unfold ue uo
  cases uplace op with
  | none => exact .inr ⟨rfl, rfl⟩
  | some k => exact .inl ⟨rfl, rfl⟩
theorem un_any (op a : Int) (w : World) (hA : Is a) (hT : Tab w) :
    Calls Tryd.prog 6 #[.int .i64 op, .int .u32 a] w fun e w' => e = .returned (.tuple #[.int .u32 (uv op a), .int .i64 (ue op)]) ∧ Below w.heap.size w w' := by
  by_cases n0 : op = 69
  · subst n0; exact unat_0 a w hA hT
  · by_cases n1 : op = 103
    · subst n1; exact unat_1 a w hA hT
    · by_cases n2 : op = 104
      · subst n2; exact unat_2 a w hA hT
      · by_cases n3 : op = 105
        · subst n3; exact unat_3 a w hA hT
        · have e : uplace op = none := by simp [uplace, n0, n1, n2, n3]
          rw [show uv op a = 0 by unfold uv; rw [e], show ue op = 100 by unfold ue; rw [e]]
          exact unat_none op a w n0 n1 n2 n3
end Go.Proofs.YtbpgcndanlmdjaaDoor
