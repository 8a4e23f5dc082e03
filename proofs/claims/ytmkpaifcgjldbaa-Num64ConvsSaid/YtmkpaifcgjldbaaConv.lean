/-
  THE CONVERSIONS (num64.Conv), AND THE DOCUMENT'S OWN. No condition.
-/
import Derived.Test.YtmkpaifcgjldbaaWords
import Derived.Test.YtmkpaifcgjldbaaMaps
namespace Go.Proofs.Ytmkpaifcgjldbaa
open Go.RowKit
def lowv (a : Int) : Int := a % 4294967296
def lowSv (a : Int) : Int := wrap32 a % 18446744073709551616
def cv (op a : Int) : Int := if op = 167 then lowv a else if op = 172 then lowSv a else if op = 173 then lowv a else 0
def cok (op : Int) : Bool := decide (op = 167 ∨ op = 172 ∨ op = 173)
def ce (op : Int) : Int := if op = 167 ∨ op = 172 ∨ op = 173 then 0 else 100
theorem find_none {op : Int} (n1 : ¬ op = 167) (n2 : ¬ op = 172) (n3 : ¬ op = 173) : Instr.findNow (.int .i64) (.int .i64 op) (#[⟨.int .i64 167, .func (.func 22) #[] #[], 0⟩, ⟨.int .i64 172, .func (.func 23) #[] #[], 1⟩, ⟨.int .i64 173, .func (.func 22) #[] #[], 2⟩] : Array MapEntry).toList 0 = some none := by
  have b1 : (op == 167) = false := by simpa using n1
  have b2 : (op == 172) = false := by simpa using n2
  have b3 : (op == 173) = false := by simpa using n3
  simp [Instr.findNow, Instr.sameNow, b1, b2, b3]
theorem low_eq {a : Int} (h : Is a) : bits .and .u64 a 4294967295 = lowv a := and_low32 a h.1 h.2
theorem ret2 {k : IntKind} {a b : Int} {x : Value} (h : a = b) : Ending.returned (.tuple #[.int k a, x]) = .returned (.tuple #[.int k b, x]) := by rw [h]
theorem lowS_eq (a : Int) : IntKind.u64.wrap (wrap64 (wrap32 a)) = lowSv a := by
  rw [u64_wrap]
  unfold lowSv wrap64 wrap32
  omega
set_option maxHeartbeats 400000 in
theorem low_any (a : Int) (w : World) (hA : Is a) : Calls Try.prog 22 #[.int .u64 a] w fun e w' => e = .returned (.int .u64 (lowv a)) ∧ w = w' := by
  go_enter Try.func22, Try.ntmps22
  go_wp2
  go_ret
  exact ⟨ret_int (low_eq hA), rfl⟩
set_option maxHeartbeats 400000 in
theorem lowS_any (a : Int) (w : World) : Calls Try.prog 23 #[.int .u64 a] w fun e w' => e = .returned (.int .u64 (lowSv a)) ∧ w = w' := by
  go_enter Try.func23, Try.ntmps23
  go_wp2
  go_ret
  exact ⟨ret_int (lowS_eq a), rfl⟩

set_option maxHeartbeats 400000 in
theorem conv_167 (a : Int) (w : World) (hA : Is a) :
    Calls Try.prog 16 #[.int .i64 167, .int .u64 a] w fun e w' => e = .returned (.tuple #[.int .u64 (lowv a), .int .i64 0]) ∧ Below w.heap.size w w' := by
  have hmm := @run_makeMap Try.prog
  have i1 := run_ins Try.underlying56 Try.underlying3 w #[] 0 167 (.func (.func 22) #[] #[]) rfl
  have i2 := run_ins Try.underlying56 Try.underlying3 w #[⟨.int .i64 167, .func (.func 22) #[] #[], 0⟩] 1 172 (.func (.func 23) #[] #[]) rfl
  have i3 := run_ins Try.underlying56 Try.underlying3 w #[⟨.int .i64 167, .func (.func 22) #[] #[], 0⟩, ⟨.int .i64 172, .func (.func 23) #[] #[], 1⟩] 2 173 (.func (.func 22) #[] #[]) rfl
  have q := run_ask Try.underlying56 Try.underlying3 (w.alloc (.map #[⟨.int .i64 167, .func (.func 22) #[] #[], 0⟩, ⟨.int .i64 172, .func (.func 23) #[] #[], 1⟩, ⟨.int .i64 173, .func (.func 22) #[] #[], 2⟩] 3)) w.heap.size _ _ 167 (.func (.func 22) #[] #[]) 0 (heap_alloc_new w _) rfl
  simp only [List.push_toArray, List.cons_append, List.nil_append, Nat.zero_add, Nat.reduceAdd] at i1 i2 i3 q
  have heq : ∀ w, (binOp .eql 54 (.func (.func 22) #[] #[]) .nilFunc).run Try.prog w = .ok (.bool false) w := fun _ => by kernel_rfl
  go_enter Try.func16, Try.ntmps16
  go_wp2_with (go_at_call 22; refine (low_any a _ hA).mono ?_; rintro e w1 ⟨rfl, rfl⟩)
  go_ret2
  exact ⟨rfl, (Below.refl _ _).alloc (Nat.le_refl _) _⟩

set_option maxHeartbeats 400000 in
theorem conv_172 (a : Int) (w : World) :
    Calls Try.prog 16 #[.int .i64 172, .int .u64 a] w fun e w' => e = .returned (.tuple #[.int .u64 (lowSv a), .int .i64 0]) ∧ Below w.heap.size w w' := by
  have hmm := @run_makeMap Try.prog
  have i1 := run_ins Try.underlying56 Try.underlying3 w #[] 0 167 (.func (.func 22) #[] #[]) rfl
  have i2 := run_ins Try.underlying56 Try.underlying3 w #[⟨.int .i64 167, .func (.func 22) #[] #[], 0⟩] 1 172 (.func (.func 23) #[] #[]) rfl
  have i3 := run_ins Try.underlying56 Try.underlying3 w #[⟨.int .i64 167, .func (.func 22) #[] #[], 0⟩, ⟨.int .i64 172, .func (.func 23) #[] #[], 1⟩] 2 173 (.func (.func 22) #[] #[]) rfl
  have q := run_ask Try.underlying56 Try.underlying3 (w.alloc (.map #[⟨.int .i64 167, .func (.func 22) #[] #[], 0⟩, ⟨.int .i64 172, .func (.func 23) #[] #[], 1⟩, ⟨.int .i64 173, .func (.func 22) #[] #[], 2⟩] 3)) w.heap.size _ _ 172 (.func (.func 23) #[] #[]) 1 (heap_alloc_new w _) rfl
  simp only [List.push_toArray, List.cons_append, List.nil_append, Nat.zero_add, Nat.reduceAdd] at i1 i2 i3 q
  have heq : ∀ w, (binOp .eql 54 (.func (.func 23) #[] #[]) .nilFunc).run Try.prog w = .ok (.bool false) w := fun _ => by kernel_rfl
  go_enter Try.func16, Try.ntmps16
  go_wp2_with (go_at_call 23; refine (lowS_any a _).mono ?_; rintro e w1 ⟨rfl, rfl⟩)
  go_ret2
  exact ⟨rfl, (Below.refl _ _).alloc (Nat.le_refl _) _⟩

set_option maxHeartbeats 400000 in
theorem conv_173 (a : Int) (w : World) (hA : Is a) :
    Calls Try.prog 16 #[.int .i64 173, .int .u64 a] w fun e w' => e = .returned (.tuple #[.int .u64 (lowv a), .int .i64 0]) ∧ Below w.heap.size w w' := by
  have hmm := @run_makeMap Try.prog
  have i1 := run_ins Try.underlying56 Try.underlying3 w #[] 0 167 (.func (.func 22) #[] #[]) rfl
  have i2 := run_ins Try.underlying56 Try.underlying3 w #[⟨.int .i64 167, .func (.func 22) #[] #[], 0⟩] 1 172 (.func (.func 23) #[] #[]) rfl
  have i3 := run_ins Try.underlying56 Try.underlying3 w #[⟨.int .i64 167, .func (.func 22) #[] #[], 0⟩, ⟨.int .i64 172, .func (.func 23) #[] #[], 1⟩] 2 173 (.func (.func 22) #[] #[]) rfl
  have q := run_ask Try.underlying56 Try.underlying3 (w.alloc (.map #[⟨.int .i64 167, .func (.func 22) #[] #[], 0⟩, ⟨.int .i64 172, .func (.func 23) #[] #[], 1⟩, ⟨.int .i64 173, .func (.func 22) #[] #[], 2⟩] 3)) w.heap.size _ _ 173 (.func (.func 22) #[] #[]) 2 (heap_alloc_new w _) rfl
  simp only [List.push_toArray, List.cons_append, List.nil_append, Nat.zero_add, Nat.reduceAdd] at i1 i2 i3 q
  have heq : ∀ w, (binOp .eql 54 (.func (.func 22) #[] #[]) .nilFunc).run Try.prog w = .ok (.bool false) w := fun _ => by kernel_rfl
  go_enter Try.func16, Try.ntmps16
  go_wp2_with (go_at_call 22; refine (low_any a _ hA).mono ?_; rintro e w1 ⟨rfl, rfl⟩)
  go_ret2
  exact ⟨rfl, (Below.refl _ _).alloc (Nat.le_refl _) _⟩

set_option maxHeartbeats 400000 in
theorem conv_none (op : Int) (n1 : ¬ op = 167) (n2 : ¬ op = 172) (n3 : ¬ op = 173) (a : Int) (w : World) :
    Calls Try.prog 16 #[.int .i64 op, .int .u64 a] w fun e w' => e = .returned (.tuple #[.int .u64 0, .int .i64 100]) ∧ Below w.heap.size w w' := by
  have hmm := @run_makeMap Try.prog
  have i1 := run_ins Try.underlying56 Try.underlying3 w #[] 0 167 (.func (.func 22) #[] #[]) rfl
  have i2 := run_ins Try.underlying56 Try.underlying3 w #[⟨.int .i64 167, .func (.func 22) #[] #[], 0⟩] 1 172 (.func (.func 23) #[] #[]) rfl
  have i3 := run_ins Try.underlying56 Try.underlying3 w #[⟨.int .i64 167, .func (.func 22) #[] #[], 0⟩, ⟨.int .i64 172, .func (.func 23) #[] #[], 1⟩] 2 173 (.func (.func 22) #[] #[]) rfl
  have q := run_ask_none Try.underlying56 Try.underlying3 (w.alloc (.map #[⟨.int .i64 167, .func (.func 22) #[] #[], 0⟩, ⟨.int .i64 172, .func (.func 23) #[] #[], 1⟩, ⟨.int .i64 173, .func (.func 22) #[] #[], 2⟩] 3)) w.heap.size _ _ op .nilFunc (by kernel_rfl) (heap_alloc_new w _) (find_none n1 n2 n3)
  simp only [List.push_toArray, List.cons_append, List.nil_append, Nat.zero_add, Nat.reduceAdd] at i1 i2 i3 q
  have heq : ∀ w, (binOp .eql 54 .nilFunc .nilFunc).run Try.prog w = .ok (.bool true) w := fun _ => by kernel_rfl
  go_enter Try.func16, Try.ntmps16
  go_wp2
  go_ret2
  exact ⟨rfl, (Below.refl _ _).alloc (Nat.le_refl _) _⟩

theorem conv_any (op a : Int) (w : World) (hA : Is a) :
    Calls Try.prog 16 #[.int .i64 op, .int .u64 a] w fun e w' => e = .returned (.tuple #[.int .u64 (cv op a), .int .i64 (ce op)]) ∧ Below w.heap.size w w' := by
  by_cases n1 : op = 167
  · subst n1; exact conv_167 a w hA
  · by_cases n2 : op = 172
    · subst n2; exact conv_172 a w
    · by_cases n3 : op = 173
      · subst n3; exact conv_173 a w hA
      · rw [show cv op a = 0 by simp [cv, n1, n2, n3], show ce op = 100 by simp [ce, n1, n2, n3]]
        exact conv_none op n1 n2 n3 a w
set_option maxHeartbeats 400000 in
theorem rconv_low (op a : Int) (w : World) (hA : Is a) (h : op = 167 ∨ op = 173) : Calls Try.prog 17 #[.int .i64 op, .int .u64 a] w fun e w' => e = .returned (.tuple #[.int .u64 (lowv a), .bool true]) ∧ w = w' := by
  rcases h with rfl | rfl
  all_goals
    go_enter Try.func17, Try.ntmps17
    go_wp2
    go_ret2
    exact ⟨ret2 (low_eq hA), rfl⟩
theorem lowS_ref (a : Int) : IntKind.u64.wrap (wrap64 (wrap32 (a % 4294967296))) = lowSv a := by
  rw [u64_wrap]
  unfold lowSv wrap64 wrap32
  omega
set_option maxHeartbeats 400000 in
theorem rconv_lowS (a : Int) (w : World) : Calls Try.prog 17 #[.int .i64 172, .int .u64 a] w fun e w' => e = .returned (.tuple #[.int .u64 (lowSv a), .bool true]) ∧ w = w' := by
  go_enter Try.func17, Try.ntmps17
  go_wp2
  go_ret2
  exact ⟨ret2 (lowS_ref a), rfl⟩
set_option maxHeartbeats 400000 in
theorem rconv_none (op a : Int) (w : World) (n1 : (op == 167) = false) (n2 : (op == 172) = false) (n3 : (op == 173) = false) : Calls Try.prog 17 #[.int .i64 op, .int .u64 a] w fun e w' => e = .returned (.tuple #[.int .u64 0, .bool false]) ∧ w = w' := by
  go_enter Try.func17, Try.ntmps17
  go_wp2
  go_ret2
  exact ⟨rfl, rfl⟩
theorem rconv_any (op a : Int) (w : World) (hA : Is a) :
    Calls Try.prog 17 #[.int .i64 op, .int .u64 a] w fun e w' => e = .returned (.tuple #[.int .u64 (cv op a), .bool (cok op)]) ∧ w = w' := by
  by_cases n1 : op = 167
  · subst n1; exact rconv_low _ a w hA (.inl rfl)
  · by_cases n2 : op = 172
    · subst n2; exact rconv_lowS a w
    · by_cases n3 : op = 173
      · subst n3; exact rconv_low _ a w hA (.inr rfl)
      · rw [show cv op a = 0 by simp [cv, n1, n2, n3], show cok op = false by simp [cok, n1, n2, n3]]
        exact rconv_none op a w (by simpa using n1) (by simpa using n2) (by simpa using n3)
theorem ce_ok (op : Int) : (ce op = 0 ∧ cok op = true) ∨ (ce op = 100 ∧ cok op = false) := by
  unfold ce cok
  by_cases h : op = 167 ∨ op = 172 ∨ op = 173
  · exact .inl ⟨if_pos h, decide_eq_true h⟩
  · exact .inr ⟨if_neg h, decide_eq_false h⟩

end Go.Proofs.Ytmkpaifcgjldbaa
