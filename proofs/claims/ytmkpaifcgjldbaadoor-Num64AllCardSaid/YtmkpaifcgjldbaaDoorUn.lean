/-
  HOW MANY NOUGHTS AND ONES: Go's math/bits over this program, and num64's own functions over it. Condition (told by the row): the library's table reads as its text lays it.
-/
import Derived.Test.YtmkpaifcgjldbaaDoorBin
import Derived.Test.YtmkpaifcgjldbaaDoorUnNum
import Derived.Test.YtmkpaifcgjldbaaDoorMaps
import Derived.Deep.QuietTactic
import Derived.BigQuiet
namespace Go.Proofs.YtmkpaifcgjldbaaDoor
open Go.RowKit
/-- the table of Go's library, as its text lays it. -/
def Tab (w : World) : Prop := 0 < w.heap.size ∧ ∀ t : Nat, t < 64 → ∀ i : Nat, deTab[i]? = some t → w.cell? ⟨0, i, none⟩ = some (.int .u8 ((t : Nat) : Int))
theorem Tab.below {w w' : World} {B : Nat} (h : Tab w) (hB : 0 < B) (hb : Below B w w') (hs : w.heap.size ≤ w'.heap.size) : Tab w' :=
  ⟨Nat.lt_of_lt_of_le h.1 hs, fun t ht i hi => (hb.cell (p := ⟨0, i, none⟩) hB).trans (h.2 t ht i hi)⟩
theorem len_0 {a x : Int} (hx : x.toNat = a.toNat) (h8 : x.toNat < 256) : wrap64 (wrap64 ((bitLen x.toNat : Nat) : Int)) = ((bitLen a.toNat : Nat) : Int) := by
  have := bitLen_le8 _ h8
  rw [hx] at this ⊢
  unfold wrap64
  omega
theorem len_s (s : Nat) (hs : s ≤ 56) {a x S : Int} (hS : S = (s : Int)) (hx : x.toNat = a.toNat / 2 ^ s) (h0 : x.toNat ≠ 0) (h8 : x.toNat < 256) : wrap64 (S + wrap64 ((bitLen x.toNat : Nat) : Int)) = ((bitLen a.toNat : Nat) : Int) := by
  have := bitLen_le8 _ h8
  have e := bitLen_shift a.toNat s (by rw [← hx]; exact h0)
  rw [e, ← hx, hS]
  unfold wrap64
  omega
set_option maxRecDepth 100000 in
set_option maxHeartbeats 4000000 in
theorem len_any (a : Int) (w : World) (hA : Is a) : Calls Tryd.prog 55 #[.int .u64 a] w fun e w' => e = .returned (.int .i64 ((bitLen a.toNat : Nat) : Int)) ∧ w = w' := by
  have h0 := hA.1
  go_enter Tryd.func55, Tryd.ntmps55
  go_wp2
  all_goals
    go_ret
    refine ⟨ret_int ?_, rfl⟩
    rw [len8tab_get]
    have h1 := hA.2
    first
      | exact len_0 (by omega) (by omega)
      | exact len_s 8 (by decide) (S := 8) rfl (by omega) (by omega) (by omega)
      | exact len_s 16 (by decide) (S := 16) rfl (by omega) (by omega) (by omega)
      | exact len_s 24 (by decide) (S := 24) rfl (by omega) (by omega) (by omega)
      | exact len_s 32 (by decide) (S := 32) rfl (by omega) (by omega) (by omega)
      | exact len_s 40 (by decide) (S := 40) rfl (by omega) (by omega) (by omega)
      | exact len_s 48 (by decide) (S := 48) rfl (by omega) (by omega) (by omega)
      | exact len_s 56 (by decide) (S := 56) rfl (by omega) (by omega) (by omega)
set_option maxHeartbeats 400000 in
theorem lz_any (a : Int) (w : World) (hA : Is a) : Calls Tryd.prog 51 #[.int .u64 a] w fun e w' => e = .returned (.int .i64 (uval 1 a)) ∧ w = w' := by
  have hl : bitLen a.toNat ≤ 64 := bitLen_le (by have := hA.1; have := hA.2; omega)
  have HE := Lib.hid (show 64 - ((bitLen a.toNat : Nat) : Int) = uval 1 a by show _ = ((64 - bitLen a.toNat : Nat) : Int); omega)
  have hl' : ((bitLen a.toNat : Nat) : Int) ≤ 64 := by omega
  have hl0 : (0 : Int) ≤ ((bitLen a.toNat : Nat) : Int) := by omega
  obtain ⟨n, hn⟩ : ∃ n, n = ((bitLen a.toNat : Nat) : Int) := ⟨_, rfl⟩
  have c := len_any a
  rw [← hn] at c hl' hl0 HE
  have HC := Lib.hid c
  clear c hn
  go_enter Tryd.func51, Tryd.ntmps51
  go_wp2_with (go_at_call 55; refine (HC.out _ hA).mono ?_; rintro e w' ⟨rfl, rfl⟩)
  go_ret
  exact ⟨ret_int HE.out, rfl⟩
set_option maxRecDepth 100000 in
set_option maxHeartbeats 4000000 in
theorem tz_zero (w : World) : Calls Tryd.prog 52 #[.int .u64 0] w fun e w' => e = .returned (.int .i64 (uval 2 0)) ∧ w = w' := by
  have HE := Lib.hid (show ((64 : Nat) : Int) = uval 2 0 by show _ = ((tzF 64 0 : Nat) : Int); rw [tzF_zero])
  go_enter Tryd.func52, Tryd.ntmps52
  go_wp2
  go_ret
  exact ⟨ret_int HE.out, rfl⟩
theorem neg_and {a : Int} (hA : Is a) (h : ¬ a = 0) : bits .and .u64 a (IntKind.u64.wrap (-a)) = ((2 ^ tzF 64 a.toNat : Nat) : Int) := by
  obtain ⟨h0, h1⟩ := hA
  rw [show IntKind.u64.wrap (-a) = -a % 18446744073709551616 by simp [IntKind.wrap, IntKind.bits, IntKind.signed]]
  rw [u64_and _ _ h0 h1 (by omega) (by omega), show (-a % 18446744073709551616).toNat = 18446744073709551616 - a.toNat by omega, and_neg (by omega) (by omega)]
set_option maxRecDepth 100000 in
set_option maxHeartbeats 4000000 in
theorem tz_some (a : Int) (w : World) (hA : Is a) (h : ¬ a = 0) (hT : Tab w) : Calls Tryd.prog 52 #[.int .u64 a] w fun e w' => e = .returned (.int .i64 (uval 2 a)) ∧ w = w' := by
  have hz : (a == 0) = false := by simpa using h
  have h0 := hA.1
  obtain ⟨m, _, ht⟩ := tzF_odd 64 a.toNat (by omega) (by have := hA.2; omega)
  have he := neg_and hA h
  have hg := de_get (tzF 64 a.toNat) ht
  obtain ⟨q, hq0⟩ : ∃ q : Nat, q = 2 ^ tzF 64 a.toNat := ⟨_, rfl⟩
  rw [← hq0] at he hg
  obtain ⟨p, hp⟩ : ∃ p : Int, (q : Int) = p := ⟨_, rfl⟩
  have hq : (IntKind.u64.wrap (p * 285870213051353865) / 288230376151711744).toNat = q * 285870213051353865 % 18446744073709551616 / 2 ^ 58 := by
    rw [show IntKind.u64.wrap (p * 285870213051353865) = p * 285870213051353865 % 18446744073709551616 by simp [IntKind.wrap, IntKind.bits, IntKind.signed]]
    rw [← hp, show (q : Int) * 285870213051353865 % 18446744073709551616 / 288230376151711744 = ((q * 285870213051353865 % 18446744073709551616 / 288230376151711744 : Nat) : Int) by rw [Int.natCast_ediv, Int.natCast_emod, Int.natCast_mul]; rfl, Int.toNat_natCast]
  have hidx : 0 ≤ IntKind.u64.wrap (p * 285870213051353865) / 288230376151711744 ∧ IntKind.u64.wrap (p * 285870213051353865) / 288230376151711744 < 64 := by
    rw [show IntKind.u64.wrap (p * 285870213051353865) = p * 285870213051353865 % 18446744073709551616 by simp [IntKind.wrap, IntKind.bits, IntKind.signed]]
    omega
  obtain ⟨hi0, hi1⟩ := hidx
  have hcell := hT.2 _ ht _ hg
  rw [← hq] at hcell
  rw [hp] at he
  have hp0 : 0 ≤ p := by rw [← hp]; exact Int.natCast_nonneg _
  have HU := Lib.hid (show ((tzF 64 a.toNat : Nat) : Int) = uval 2 a from rfl)
  have ht' : ((tzF 64 a.toNat : Nat) : Int) < 64 := by omega
  have ht0 : (0 : Int) ≤ ((tzF 64 a.toNat : Nat) : Int) := by omega
  obtain ⟨t, hn⟩ : ∃ t, t = ((tzF 64 a.toNat : Nat) : Int) := ⟨_, rfl⟩
  rw [← hn] at HU hcell ht' ht0
  clear hp hq hg ht hn h hq0
  go_enter Tryd.func52, Tryd.ntmps52
  go_wp2
  go_ret
  exact ⟨ret_int HU.out, rfl⟩

end Go.Proofs.YtmkpaifcgjldbaaDoor
