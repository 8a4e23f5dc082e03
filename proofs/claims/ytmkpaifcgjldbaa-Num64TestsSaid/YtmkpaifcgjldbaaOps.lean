/-
  THE LOOP THAT THE LAWS Tests, Sums, Shifts SHARE: operations from one number to another, at every list of pairs. No condition.
-/
import Derived.Test.YtmkpaifcgjldbaaWords
import Derived.Deep.RegionHeld3
import Derived.Deep.QuietTactic
import Derived.BigQuiet
namespace Go.Proofs.Ytmkpaifcgjldbaa
open Go.RowKit
theorem place_in {op : Int} (h : (81 ≤ op ∧ op ≤ 90) ∨ (124 ≤ op ∧ op ≤ 138)) : re op = 0 ∧ ro op = true := by
  unfold re ro place
  rcases h with h | h
  · rw [if_pos h]
    exact ⟨rfl, rfl⟩
  · rw [if_neg (by omega), if_pos h]
    exact ⟨rfl, rfl⟩
set_option maxHeartbeats 400000 in
theorem ops_none (a : Option Addr) (cap : Nat) (from_ to_ : Int) (w : World) : Calls Try.prog 15 #[.slice a 0 cap, .int .i64 from_, .int .i64 to_] w fun r w' => r = .returned (.bool true) ∧ Below w.heap.size w w' := by
  go_enter Try.func15, Try.ntmps15
  go_wp2
  refine wp_loop_rounds 1 ?_; rw [rounds_succ]
  go_wp2_with (go_at_call 13; refine (wakes_any w).mono ?_; rintro e w' ⟨rfl, hb⟩)
  go_ret
  exact ⟨rfl, by assumption⟩
theorem bcell {W w1 : World} (hb : Below W.heap.size W w1) : (∀ b o, b < W.heap.size → w1.cell? ⟨b, o, none⟩ = W.cell? ⟨b, o, none⟩) :=
  fun b o h => hb.cell (p := ⟨b, o, none⟩) h
theorem ref_same (op a b : Int) (hA : Is a) (hB : Is b) (w : World) :
    Calls Try.prog 11 #[.int .i64 op, .int .u64 a, .int .u64 b] w fun e w' => e = .returned (.tuple #[.int .u64 (rv op a b), .int .i64 (rt op a b), .bool (ro op)]) ∧ w' = w :=
  (ref_any op a b hA hB w).mono fun _ _ ⟨he, hw⟩ => ⟨he, hw.symm⟩
theorem below_drewN {B : Nat} {a w : World} (h : Below B a w) (n : Nat) : Below B a (w.drewN n) := ⟨h.os, h.tape, h.output, h.size, h.block⟩
set_option maxHeartbeats 400000 in
theorem ops_walk (b off len cap : Nat) (X Y O : Nat → Int) (from_ to_ : Int) (w : World) (h : Twos w b off len X Y O) (hft : 0 ≤ from_) (hto : to_ ≤ 200) (hle : from_ ≤ to_ + 1) (hp : Hid (∀ o, from_ ≤ o → o ≤ to_ → re o = 0 ∧ ro o = true)) :
    Calls Try.prog 15 #[.slice (some ⟨b, off, none⟩) len cap, .int .i64 from_, .int .i64 to_] w fun r w' => r = .returned (.bool true) ∧ Below w.heap.size w w' := by
  obtain ⟨hbs, hlen, hc⟩ := h
  go_enter Try.func15, Try.ntmps15
  go_wp2
  go_loopw [7, 8] (fun i _ wr => ∃ k : Nat, k ≤ len ∧ k ≤ 30 ∧ i = .int .i64 k ∧ Below w.heap.size w wr) (fun i _ _ => 30 - (intOf i).toNat)
  case atStart => exact ⟨0, by omega, by omega, rfl, Below.refl _ _⟩
  case round =>
    obtain ⟨k, hk, hk30, rfl, hb⟩ := hrel
    have HB := Lib.hid hb
    by_cases hlt : k < len ∧ k < 30
    · obtain ⟨hl, h30⟩ := hlt
      obtain ⟨ca, cb, co, ia, ib⟩ := hc k hl
      have hk0 : (0 : Int) ≤ (k : Int) := by omega
      have hkl : (k : Int) < (len : Int) := by omega
      have h30b : decide ((k : Int) < 30) = true := by simp; omega
      clear hc hb
      obtain ⟨wo, rfl⟩ : ∃ wo : World, wo = wr := ⟨_, rfl⟩
      go_wp2
      go_loopw [8] (fun o wr => ∃ j : Int, from_ ≤ j ∧ j ≤ to_ + 1 ∧ o = .int .i64 j ∧ Below w.heap.size w wr) (fun o _ => (to_ + 1 - intOf o).toNat)
      case atStart => exact ⟨from_, by omega, by omega, rfl, HB.out⟩
      case round =>
        obtain ⟨j, hj0, hj1, rfl, hb⟩ := hrel
        by_cases hjt : j ≤ to_
        · have HR := Lib.hid (hp.out j hj0 hjt)
          have HB2 := Lib.hid hb
          have ca' := (hb.cell (p := ⟨b, off + k * 3, none⟩) hbs).trans ca
          have cb' := (hb.cell (p := ⟨b, off + k * 3 + 1, none⟩) hbs).trans cb
          have hbs' : b < wr.heap.size := Nat.lt_of_lt_of_le hbs hb.size
          clear hb ca cb co
          go_wp2_with fail
          go_region_held3 (fun w' => w'.cell? ⟨b, off + k * 3, none⟩ = some (.int .u64 (X k)) ∧ w'.cell? ⟨b, off + k * 3 + 1, none⟩ = some (.int .u64 (Y k)))
            (first | go_keep | (refine ⟨(hc1 _ _ ?_).trans ?_, (hc1 _ _ ?_).trans ?_⟩ <;> first | assumption | (simp; done) | (simp; omega) | go_keep)) (first | (go_at_call 10; refine (bin_any _ _ _ ia ib _).mono ?_; rintro e w1 ⟨rfl, hb1⟩; have hc1 := bcell hb1))
          have HB3 := Lib.hid (HB2.out.drew.trans (hb1.mono HB2.out.drew.size))
          obtain ⟨ca1, cb1⟩ : w1.cell? ⟨b, off + k * 3, none⟩ = some (.int .u64 (X k)) ∧ w1.cell? ⟨b, off + k * 3 + 1, none⟩ = some (.int .u64 (Y k)) := by assumption
          clear hb1 hc1 ca' cb'
          go_wp2_with fail
          go_quiet ((go_at_call 11; exact Calls.quiet_of_same (ref_same _ _ _ ia ib _)))
          obtain ⟨h1, h2⟩ := HR.out
          go_wp2_with (go_at_call 12; refine (num_any _ _).mono ?_; rintro e w' ⟨rfl, rfl⟩)
          go_roundw
          case rel => exact ⟨j + 1, by omega, by omega, rfl, below_drewN HB3.out _⟩
          case measure => simp [intOf]; omega
        · have hje : to_ < j := by omega
          have HB2 := Lib.hid hb
          clear hjt hb ca cb co
          go_wp2
          go_roundw
          case rel => exact ⟨k + 1, by omega, by omega, by go_num, HB2.out⟩
          case measure => simp [intOf]; omega
    · have ht : ¬ k < len ∨ (k < len ∧ ¬ k < 30) := by omega
      clear hc hb hlt
      rcases ht with h1 | ⟨h1, h2⟩
      all_goals
        go_wp2_with fail
        refine (wakes_any wr).mono ?_
        rintro e w' ⟨rfl, hb2⟩
        have HB2 := Lib.hid (HB.out.trans (hb2.mono HB.out.size))
        clear hb2
        go_wp2
        go_ret
        exact ⟨rfl, HB2.out⟩
end Go.Proofs.Ytmkpaifcgjldbaa
