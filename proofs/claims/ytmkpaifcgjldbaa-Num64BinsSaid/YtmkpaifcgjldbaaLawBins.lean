/-
  PROVED: 'gangwaylaw4.Num64Bins' answers true at every list of pairs and leaves it as it was (any operation of any two numbers is the page's, with its trap, or there is none). No condition.
-/
import Derived.Test.YtmkpaifcgjldbaaWords
namespace Go.Proofs.Ytmkpaifcgjldbaa.lawBins
open Go.ChangeShapes Go.WideShapes Go.ChangeAt Go.RowKit

set_option maxHeartbeats 400000 in
theorem walk_none (a : Option Addr) (cap : Nat) (w : World) : Calls Try.prog 3 #[.slice a 0 cap] w fun r w' => r = .returned (.bool true) ∧ Below w.heap.size w w' := by
  go_enter Try.func3, Try.ntmps3
  go_wp2
  refine wp_loop_rounds 1 ?_; rw [rounds_succ]
  go_wp2_with (go_at_call 13; refine (wakes_any w).mono ?_; rintro e w' ⟨rfl, hb⟩)
  go_ret
  exact ⟨rfl, by assumption⟩

set_option maxHeartbeats 400000 in
theorem walk (b off len cap : Nat) (X Y O : Nat → Int) (w : World) (h : Twos w b off len X Y O) : Calls Try.prog 3 #[.slice (some ⟨b, off, none⟩) len cap] w fun r w' => r = .returned (.bool true) ∧ Below w.heap.size w w' := by
  obtain ⟨hbs, hlen, hc⟩ := h
  go_enter Try.func3, Try.ntmps3
  go_wp2
  go_loopw [3] (fun i wr => ∃ k : Nat, k ≤ len ∧ k ≤ 30 ∧ i = .int .i64 k ∧ Below w.heap.size w wr) (fun i _ => 30 - (intOf i).toNat)
  case atStart => exact ⟨0, by omega, by omega, rfl, Below.refl _ _⟩
  case round =>
    obtain ⟨k, hk, hk30, rfl, hb⟩ := hrel
    have HB := Lib.hid hb
    by_cases hlt : k < len ∧ k < 30
    · obtain ⟨hl, h30⟩ := hlt
      obtain ⟨ca, cb, co, ia, ib⟩ := hc k hl
      have ca' := (hb.cell (p := ⟨b, off + k * 3, none⟩) hbs).trans ca
      have cb' := (hb.cell (p := ⟨b, off + k * 3 + 1, none⟩) hbs).trans cb
      have co' := (hb.cell (p := ⟨b, off + k * 3 + 2, none⟩) hbs).trans co
      have hs := hb.size
      clear hc hb ca cb co
      have HR := Lib.hid (re_ro (O k))
      go_wp2_with fail
      refine (bin_any (O k) (X k) (Y k) ia ib _).mono ?_
      rintro e w1 ⟨rfl, hb1⟩
      have p0 : w1.cell? ⟨wr.heap.size, 0, none⟩ = some (.int .u64 (X k)) := (hb1.cell (p := ⟨wr.heap.size, 0, none⟩) (by simp)).trans (by go_simp)
      have p1 : w1.cell? ⟨wr.heap.size, 1, none⟩ = some (.int .u64 (Y k)) := (hb1.cell (p := ⟨wr.heap.size, 1, none⟩) (by simp)).trans (by go_simp)
      have p2 : w1.cell? ⟨wr.heap.size, 2, none⟩ = some (.int .i64 (O k)) := (hb1.cell (p := ⟨wr.heap.size, 2, none⟩) (by simp)).trans (by go_simp)
      have HB1 := Lib.hid (HB.out.trans (((Below.refl _ wr).alloc (Nat.le_refl _) _).trans (hb1.mono (by simp)) |>.mono hs))
      clear hb1
      go_wp2_with fail
      refine (ref_any (O k) (X k) (Y k) ia ib _).mono ?_
      rintro e w' ⟨rfl, rfl⟩
      rcases HR.out with ⟨_, h1, h2⟩ | ⟨h1, h2⟩
      all_goals
        go_wp2_with (go_at_call 12; refine (num_any _ _).mono ?_; rintro e w' ⟨rfl, rfl⟩)
        go_roundw
        case rel => exact ⟨k + 1, by omega, by omega, by go_num, HB1.out⟩
        case measure => simp [intOf]; omega
    · have ht : ¬ k < len ∨ (k < len ∧ ¬ k < 30) := by omega
      clear hc hb hlt
      rcases ht with h1 | ⟨h1, h2⟩
      all_goals
        go_wp2_with fail
        refine (wakes_any wr).mono ?_
        rintro e w' ⟨rfl, hb2⟩
        have HB2 := Lib.hid (HB.out.trans (hb2.mono HB.out.size))
        clear hb2
        go_wp2
        go_ret
        exact ⟨rfl, HB2.out⟩

/-! THE ROW's STEP -/
set_option maxRecDepth 100000 in
theorem lifted (os : Os) (started : os.Started) (H : Type) (enc : TypeId × Value → H) :
    ReturnsInHanded {} Try.checked os 3 .any (Rows.num64BinsSpec.pre6 enc Try.prog Try.f3 Rows.num64BinsRow.domain false) (Rows.num64BinsSpec.post enc Try.prog Try.f3 false true false false) := by
  refine returnsInHanded_of_change (C := Try.checked) (by kernel_rfl) started (by kernel_rfl) Try.func3
    (ChangeSpec.witness6 (enc := enc) (C := Try.checked) false ⟨#[], #[.slice none 0 0], []⟩ 8 (by kernel_rfl) (by kernel_rfl) (by kernel_rfl) (by kernel_rfl)) ?_
  intro W base args ds gs before hval0 hW hcnd _
  have hval : ∀ (j : Nat) t v, Try.f3.params[j]? = some t → args[j]? = some v → Value.okWide Try.prog W .any base t v := hval0
  have hW' := hW
  obtain ⟨p, q, hA0, hV, rfl, hfz, hnd⟩ := hW
  have hA : DataW.TrodAll enc Try.prog W 0 (fun _ => true) true Try.f3.params.toList args.toList ds p := hA0
  rw [Try.params3] at hA hval
  obtain ⟨v0, vs0, d0, ds0, p0, q0, hargs, rfl, rfl, h0, r0⟩ := trodAll_cons hA
  obtain ⟨rfl, rfl, rfl⟩ := trodAll_nil r0
  obtain rfl : args = #[v0] := by cases args; simp_all
  obtain ⟨rfl, rfl⟩ := trodVars_none hV
  obtain ⟨a0, len0, cap0, rfl⟩ := okWide_slice Try.underlying22 (hval 0 22 v0 rfl rfl)
  have k0 := h0
  have lt0 : ∀ x ∈ p0, x.block < W.heap.size := by obtain ⟨m, hm⟩ := k0; exact DataW.trod_lt m _ _ _ hm
  have hopen := open_twos h0
  have walked : Calls Try.prog 3 #[.slice a0 len0 cap0] W fun r w' => r = .returned (.bool true) ∧ Below W.heap.size W w' := by
    rcases hopen with rfl | ⟨b, off, rfl, X, Y, O, hT⟩
    · exact walk_none a0 cap0 W
    · exact walk b off len0 cap0 X Y O W hT
  clear hA0 hval0
  refine walked.mono fun e W' ⟨he, bel⟩ => ?_
  subst he
  exact ⟨_, rfl, _, _, _, [], _, [], hW', trodAll_mk1 (shut_bool Try.underlying4 _), (trodAll_cons_mk (Below.trod laidOut (by kernel_rfl) (of_decide_eq_true (by kernel_rfl)) k0 bel lt0) trodAll_mk0), rfl, bel.frame _, fun h => by cases h⟩

theorem over : Rows.num64BinsRow.holds Try.pinned (OpenSpec.ofChange Rows.num64BinsSpec) :=
  OpenClaim.holds_of_wide 3 Try.f3 rfl rfl rfl rfl rfl rfl rfl ⟨rfl, rfl, rfl, rfl, rfl⟩ rfl rfl rfl rfl rfl (by kernel_rfl) Try.func3 (by kernel_rfl)
    (of_decide_eq_true (by kernel_rfl)) (by unfold Func.isWrapper; first | (rw [if_pos (by decide +kernel)]; kernel_rfl) | (rw [if_neg (by decide +kernel)]; exact ⟨rfl, rfl⟩))
    (fun os started H enc _ => lifted os started H enc)

/-- THE STATEMENT -/
theorem proved : Rows.Num64BinsSaid := over
#print axioms proved

end Go.Proofs.Ytmkpaifcgjldbaa.lawBins
