/-
  The walks of the laws on whole pixels.
-/
import Derived.Test.YtkcmjpbnjdedlaaDraw
namespace Go.Proofs.Ytkcmjpbnjdedlaa
open Go.RowKit
set_option linter.unusedSimpArgs false
set_option linter.unusedVariables false

theorem floorUnit_in {v : Int} (h1 : -1000 ≤ v) (h2 : v ≤ 1000) : floorUnit v = v / 16 := by simp [floorUnit, inB_mk h1 h2]
theorem roundUnit_in {v : Int} (h1 : -1000 ≤ v) (h2 : v ≤ 1000) : roundUnit v = (2 * v + 16) / 32 := by simp [roundUnit, rnd, inB_mk h1 h2]
theorem walk_FnFloorUnit (w : World) (a0 : Option Addr) (len0 cap0 : Nat) (z0 : List Int) (w0 : IsRow .u8 w a0 len0 cap0 z0) :
    Calls Try.prog 6 #[.slice a0 len0 cap0] w fun e w' => e = .returned (.bool true) ∧ Below w.heap.size w w' := by
  have HC := Lib.hid w0.code
  clear w0
  by_cases hl : 1048576 < len0
  · have hl2 : (1048576 : Int) < (len0 : Int) := by omega
    go_enter Try.func6, Try.ntmps6
    go_wp2
    go_ret
    exact ⟨rfl, Below.refl _ _⟩
  have hl2 : ¬ (1048576 : Int) < (len0 : Int) := by omega
  go_enter Try.func6, Try.ntmps6
  go_wp2_with fail
  refine (DrawFloorUnit_c _ _ _ _ HC.out).mono ?_
  rintro e w1 ⟨v, ⟨hv1, hv2⟩, rfl, hb1⟩
  have HB := Lib.hid hb1
  clear hb1
  by_cases hv : -1000 ≤ v ∧ v ≤ 1000
  · obtain ⟨h1, h2⟩ := hv
    have e := floorUnit_in h1 h2
    go_wp2_with (first | (go_at_call 22; refine (FloorUnit_i _ _).mono ?_; rintro e w1 ⟨rfl, rfl⟩) | (go_at_call 23; refine (FloorUnit_s _ _).mono ?_; rintro e w1 ⟨rfl, rfl⟩))
    all_goals
      go_ret
      exact ⟨ret_b (by first | rfl | (simp; done) | (simp; omega)), HB.out⟩
  · go_wp2_with (first | (go_at_call 22; refine (FloorUnit_i _ _).mono ?_; rintro e w1 ⟨rfl, rfl⟩) | (go_at_call 23; refine (FloorUnit_s _ _).mono ?_; rintro e w1 ⟨rfl, rfl⟩))
    all_goals
      go_ret
      exact ⟨ret_b (by first | rfl | (simp; done) | (simp; omega)), HB.out⟩

theorem walk_FnFloorUnitShift (w : World) (a0 : Option Addr) (len0 cap0 : Nat) (z0 : List Int) (w0 : IsRow .u8 w a0 len0 cap0 z0) :
    Calls Try.prog 10 #[.slice a0 len0 cap0] w fun e w' => e = .returned (.bool true) ∧ Below w.heap.size w w' := by
  have HC := Lib.hid w0.code
  clear w0
  by_cases hl : 1048576 < len0
  · have hl2 : (1048576 : Int) < (len0 : Int) := by omega
    go_enter Try.func10, Try.ntmps10
    go_wp2
    go_ret
    exact ⟨rfl, Below.refl _ _⟩
  have hl2 : ¬ (1048576 : Int) < (len0 : Int) := by omega
  go_enter Try.func10, Try.ntmps10
  go_wp2_with fail
  refine (DrawFloorUnit_c _ _ _ _ HC.out).mono ?_
  rintro e w1 ⟨v, ⟨hv1, hv2⟩, rfl, hb1⟩
  have HB := Lib.hid hb1
  clear hb1
  by_cases hv : -1000 ≤ v ∧ v ≤ 984
  · obtain ⟨h1, h2⟩ := hv
    have e := floorUnit_in h1 (show v ≤ 1000 by omega)
    have e1 := floorUnit_in (v := v + 16) (by omega) (by omega)
    have e2 := roundUnit_in h1 (show v ≤ 1000 by omega)
    have e3 := roundUnit_in (v := v + 16) (by omega) (by omega)
    go_wp2_with (first | (go_at_call 22; refine (FloorUnit_i _ _).mono ?_; rintro e w1 ⟨rfl, rfl⟩) | (go_at_call 23; refine (FloorUnit_s _ _).mono ?_; rintro e w1 ⟨rfl, rfl⟩) | (go_at_call 32; refine (RoundUnit_i _ _).mono ?_; rintro e w1 ⟨rfl, rfl⟩) | (go_at_call 34; refine (RoundUnit_s _ _).mono ?_; rintro e w1 ⟨rfl, rfl⟩) | go_in)
    all_goals
      go_ret
      exact ⟨ret_b (by first | rfl | (simp; done) | (simp; omega)), HB.out⟩
  · go_wp2_with (first | (go_at_call 22; refine (FloorUnit_i _ _).mono ?_; rintro e w1 ⟨rfl, rfl⟩) | (go_at_call 23; refine (FloorUnit_s _ _).mono ?_; rintro e w1 ⟨rfl, rfl⟩) | (go_at_call 32; refine (RoundUnit_i _ _).mono ?_; rintro e w1 ⟨rfl, rfl⟩) | (go_at_call 34; refine (RoundUnit_s _ _).mono ?_; rintro e w1 ⟨rfl, rfl⟩) | go_in)
    all_goals
      go_ret
      exact ⟨ret_b (by first | rfl | (simp; done) | (simp; omega)), HB.out⟩

theorem walk_FnRoundUnit (w : World) (a0 : Option Addr) (len0 cap0 : Nat) (z0 : List Int) (w0 : IsRow .u8 w a0 len0 cap0 z0) :
    Calls Try.prog 11 #[.slice a0 len0 cap0] w fun e w' => e = .returned (.bool true) ∧ Below w.heap.size w w' := by
  have HC := Lib.hid w0.code
  clear w0
  by_cases hl : 1048576 < len0
  · have hl2 : (1048576 : Int) < (len0 : Int) := by omega
    go_enter Try.func11, Try.ntmps11
    go_wp2
    go_ret
    exact ⟨rfl, Below.refl _ _⟩
  have hl2 : ¬ (1048576 : Int) < (len0 : Int) := by omega
  go_enter Try.func11, Try.ntmps11
  go_wp2_with fail
  refine (DrawRoundUnit_c _ _ _ _ HC.out).mono ?_
  rintro e w1 ⟨v, ⟨hv1, hv2⟩, rfl, hb1⟩
  have HB := Lib.hid hb1
  clear hb1
  by_cases hv : -1000 ≤ v ∧ v ≤ 984
  · obtain ⟨h1, h2⟩ := hv
    have e1 := floorUnit_in (v := v + 8) (by omega) (by omega)
    have e2 := roundUnit_in h1 (show v ≤ 1000 by omega)
    go_wp2_with (first | (go_at_call 22; refine (FloorUnit_i _ _).mono ?_; rintro e w1 ⟨rfl, rfl⟩) | (go_at_call 23; refine (FloorUnit_s _ _).mono ?_; rintro e w1 ⟨rfl, rfl⟩) | (go_at_call 32; refine (RoundUnit_i _ _).mono ?_; rintro e w1 ⟨rfl, rfl⟩) | (go_at_call 34; refine (RoundUnit_s _ _).mono ?_; rintro e w1 ⟨rfl, rfl⟩) | go_in)
    all_goals
      go_ret
      exact ⟨ret_b (by first | rfl | (simp; done) | (simp; omega)), HB.out⟩
  · go_wp2_with (first | (go_at_call 22; refine (FloorUnit_i _ _).mono ?_; rintro e w1 ⟨rfl, rfl⟩) | (go_at_call 23; refine (FloorUnit_s _ _).mono ?_; rintro e w1 ⟨rfl, rfl⟩) | (go_at_call 32; refine (RoundUnit_i _ _).mono ?_; rintro e w1 ⟨rfl, rfl⟩) | (go_at_call 34; refine (RoundUnit_s _ _).mono ?_; rintro e w1 ⟨rfl, rfl⟩) | go_in)
    all_goals
      go_ret
      exact ⟨ret_b (by first | rfl | (simp; done) | (simp; omega)), HB.out⟩

end Go.Proofs.Ytkcmjpbnjdedlaa
