/-
  PROVED: 'gangwaylaw4.Num64Convs' answers true at every list of pairs and leaves it as it was (the conversions of any number are the page's; all other bytes are none). No condition.
-/
import Derived.Test.YtmkpaifcgjldbaaWords
import Derived.Test.YtmkpaifcgjldbaaConv
namespace Go.Proofs.Ytmkpaifcgjldbaa.lawConvs
open Go.ChangeShapes Go.WideShapes Go.ChangeAt Go.RowKit

set_option maxHeartbeats 400000 in
theorem walk_none (a : Option Addr) (cap : Nat) (w : World) : Calls Try.prog 8 #[.slice a 0 cap] w fun r w' => r = .returned (.bool true) ∧ Below w.heap.size w w' := by
  go_enter Try.func8, Try.ntmps8
  go_wp2
  refine wp_loop_rounds 1 ?_; rw [rounds_succ]
  go_wp2_with (go_at_call 13; refine (wakes_any w).mono ?_; rintro e w' ⟨rfl, hb⟩)
  go_ret
  exact ⟨rfl, by assumption⟩

set_option maxHeartbeats 400000 in
theorem walk (b off len cap : Nat) (X Y O : Nat → Int) (w : World) (h : Twos w b off len X Y O) : Calls Try.prog 8 #[.slice (some ⟨b, off, none⟩) len cap] w fun r w' => r = .returned (.bool true) ∧ Below w.heap.size w w' := by
  obtain ⟨hbs, hlen, hc⟩ := h
  go_enter Try.func8, Try.ntmps8
  go_wp2
  go_loopw [3, 4] (fun i _ wr => ∃ k : Nat, k ≤ len ∧ k ≤ 30 ∧ i = .int .i64 k ∧ Below w.heap.size w wr) (fun i _ _ => 30 - (intOf i).toNat)
  case atStart => exact ⟨0, by omega, by omega, rfl, Below.refl _ _⟩
  case round =>
    obtain ⟨k, hk, hk30, rfl, hb⟩ := hrel
    have HB := Lib.hid hb
    by_cases hlt : k < len ∧ k < 30
    · obtain ⟨hl, h30⟩ := hlt
      obtain ⟨ca, cb, co, ia, ib⟩ := hc k hl
      have hk0 : (0 : Int) ≤ (k : Int) := by omega
      have hkl : (k : Int) < (len : Int) := by omega
      have h30b : decide ((k : Int) < 30) = true := by simp; omega
      clear hc hb cb co ib
      obtain ⟨wo, rfl⟩ : ∃ wo : World, wo = wr := ⟨_, rfl⟩
      go_wp2
      go_loopw [4] (fun o wr => ∃ j : Int, 160 ≤ j ∧ j ≤ 177 ∧ o = .int .i64 j ∧ Below w.heap.size w wr) (fun o _ => (177 - intOf o).toNat)
      case atStart => exact ⟨160, by omega, by omega, rfl, HB.out⟩
      case round =>
        obtain ⟨j, hj0, hj1, rfl, hb⟩ := hrel
        by_cases hjt : j ≤ 176
        · have HR := Lib.hid (ce_ok j)
          replace HB := Lib.hid hb
          have ca' := (hb.cell (p := ⟨b, off + k * 3, none⟩) hbs).trans ca
          have hbs' : b < wr.heap.size := Nat.lt_of_lt_of_le hbs hb.size
          clear hb ca
          go_wp2_with fail
          refine (conv_any j (X k) _ ia).mono ?_
          rintro e w1 ⟨rfl, hb1⟩
          replace HB := Lib.hid (HB.out.trans (hb1.mono HB.out.size))
          have ca1 := (hb1.cell (p := ⟨b, off + k * 3, none⟩) hbs').trans ca'
          clear hb1 ca'
          go_wp2_with fail
          refine (rconv_any j (X k) _ ia).mono ?_
          rintro e w2 ⟨rfl, rfl⟩
          rcases HR.out with ⟨h1, h2⟩ | ⟨h1, h2⟩
          all_goals
            go_wp2_with (go_at_call 12; refine (num_any _ _).mono ?_; rintro e w' ⟨rfl, rfl⟩)
            go_roundw
            case rel => exact ⟨j + 1, by omega, by omega, rfl, HB.out⟩
            case measure => simp [intOf]; omega
        · have hje : 176 < j := by omega
          replace HB := Lib.hid hb
          clear hjt hb ca
          go_wp2
          go_roundw
          case rel => exact ⟨k + 1, by omega, by omega, by go_num, HB.out⟩
          case measure => simp [intOf]; omega
    · have ht : ¬ k < len ∨ (k < len ∧ ¬ k < 30) := by omega
      clear hc hb hlt
      rcases ht with h1 | ⟨h1, h2⟩
      all_goals
        go_wp2_with fail
        refine (wakes_any wr).mono ?_
        rintro e w' ⟨rfl, hb2⟩
        have HB2 := Lib.hid (HB.out.trans (hb2.mono HB.out.size))
        clear hb2
        go_wp2
        go_ret
        exact ⟨rfl, HB2.out⟩

/-! THE ROW's STEP -/
set_option maxRecDepth 100000 in
theorem lifted (os : Os) (started : os.Started) (H : Type) (enc : TypeId × Value → H) :
    ReturnsInHanded {} Try.checked os 8 .any (Rows.num64ConvsSpec.pre6 enc Try.prog Try.f8 Rows.num64ConvsRow.domain false) (Rows.num64ConvsSpec.post enc Try.prog Try.f8 false true false false) := by
  refine returnsInHanded_of_change (C := Try.checked) (by kernel_rfl) started (by kernel_rfl) Try.func8
    (ChangeSpec.witness6 (enc := enc) (C := Try.checked) false ⟨#[], #[.slice none 0 0], []⟩ 8 (by kernel_rfl) (by kernel_rfl) (by kernel_rfl) (by kernel_rfl)) ?_
  intro W base args ds gs before hval0 hW hcnd _
  have hval : ∀ (j : Nat) t v, Try.f8.params[j]? = some t → args[j]? = some v → Value.okWide Try.prog W .any base t v := hval0
  have hW' := hW
  obtain ⟨p, q, hA0, hV, rfl, hfz, hnd⟩ := hW
  have hA : DataW.TrodAll enc Try.prog W 0 (fun _ => true) true Try.f8.params.toList args.toList ds p := hA0
  rw [Try.params8] at hA hval
  obtain ⟨v0, vs0, d0, ds0, p0, q0, hargs, rfl, rfl, h0, r0⟩ := trodAll_cons hA
  obtain ⟨rfl, rfl, rfl⟩ := trodAll_nil r0
  obtain rfl : args = #[v0] := by cases args; simp_all
  obtain ⟨rfl, rfl⟩ := trodVars_none hV
  obtain ⟨a0, len0, cap0, rfl⟩ := okWide_slice Try.underlying22 (hval 0 22 v0 rfl rfl)
  have k0 := h0
  have lt0 : ∀ x ∈ p0, x.block < W.heap.size := by obtain ⟨m, hm⟩ := k0; exact DataW.trod_lt m _ _ _ hm
  have hopen := open_twos h0
  have walked : Calls Try.prog 8 #[.slice a0 len0 cap0] W fun r w' => r = .returned (.bool true) ∧ Below W.heap.size W w' := by
    rcases hopen with rfl | ⟨b, off, rfl, X, Y, O, hT⟩
    · exact walk_none a0 cap0 W
    · exact walk b off len0 cap0 X Y O W hT
  clear hA0 hval0
  refine walked.mono fun e W' ⟨he, bel⟩ => ?_
  subst he
  exact ⟨_, rfl, _, _, _, [], _, [], hW', trodAll_mk1 (shut_bool Try.underlying4 _), (trodAll_cons_mk (Below.trod laidOut (by kernel_rfl) (of_decide_eq_true (by kernel_rfl)) k0 bel lt0) trodAll_mk0), rfl, bel.frame _, fun h => by cases h⟩

theorem over : Rows.num64ConvsRow.holds Try.pinned (OpenSpec.ofChange Rows.num64ConvsSpec) :=
  OpenClaim.holds_of_wide 8 Try.f8 rfl rfl rfl rfl rfl rfl rfl ⟨rfl, rfl, rfl, rfl, rfl⟩ rfl rfl rfl rfl rfl (by kernel_rfl) Try.func8 (by kernel_rfl)
    (of_decide_eq_true (by kernel_rfl)) (by unfold Func.isWrapper; first | (rw [if_pos (by decide +kernel)]; kernel_rfl) | (rw [if_neg (by decide +kernel)]; exact ⟨rfl, rfl⟩))
    (fun os started H enc _ => lifted os started H enc)

/-- THE STATEMENT -/
theorem proved : Rows.Num64ConvsSaid := over
#print axioms proved

end Go.Proofs.Ytmkpaifcgjldbaa.lawConvs
