/-
  What the reference leaves of masks.
-/
import Derived.Test.YtjfbbieacpnpkaaMask
import Derived.OwnWalk
import Derived.Maps.AppendAt
namespace Go.Proofs.Ytjfbbieacpnpkaa
open Go.RowKit
set_option linter.unusedSimpArgs false
set_option linter.unusedVariables false

set_option maxHeartbeats 1000000 in
theorem InvertMask_s (zs : List Int) (A : Option Addr) (n cap : Nat) (w : World) (h : Ints w A zs) (hn : zs.length = n) (hm : zs.length ≤ 1000000000000) :
    Calls Try.prog 15 #[.slice A n cap] w (Made w (invV zs)) := by
  have HI := Lib.hid h
  clear h
  subst hn
  cases hv : maskB zs
  · rw [show invV zs = [] by simp [invV, hv]]
    go_enter Try.func15, Try.ntmps15
    go_wp2_with (go_at_call 35; refine (validMask_c zs _ _ _ _ (HI.out.below (by go_grown)) rfl hm).mono ?_; rintro e w' ⟨rfl, rfl⟩)
    go_ret
    exact ⟨none, 0, rfl, Nat.le_refl _, Own.nil _ _ _ _, by go_grown⟩
  · rw [show invV zs = invM zs by simp [invV, hv]]
    obtain ⟨hlen, hval⟩ := maskB_true.1 hv
    have HV := Lib.hid hval
    clear hval
    have hm1 : (zs.length : Int) ≤ 144 := by omega
    obtain ⟨i0, hi, hz0, hz1, hz2⟩ := info_parts int_info
    have hstart : (w.alloc (.cells #[] 3)).ownsRow w.heap.size 3 1 (.slice (some ⟨w.heap.size, 0, none⟩) 0 0) 0 [] := by
      exact World.ownsRow_lit w #[] 0 (Nat.le_refl _) (by unfold maxLen; omega) rfl
    have HS := Lib.hid hstart
    clear hstart
    go_enter Try.func15, Try.ntmps15
    go_wp2_with (go_at_call 35; refine (validMask_c zs _ _ _ _ (HI.out.below (by go_grown)) rfl hm).mono ?_; rintro e w' ⟨rfl, rfl⟩)
    go_loopw [3, 4] (fun v i wr => ∃ k : Nat, k ≤ zs.length ∧ i = .int .i64 k ∧ wr.ownsRow w.heap.size 3 1 v k (((invM zs).take k).map (Value.int .i64)) ∧ Below w.heap.size w wr) (fun _ i _ => zs.length - (intOf i).toNat)
    case atStart => exact ⟨0, Nat.zero_le _, rfl, by simpa using HS.out, by go_grown⟩
    case round =>
      obtain ⟨k, hk, rfl, hown, hbel⟩ := hrel
      have HO := Lib.hid hown
      have HBel := Lib.hid hbel
      have hsz := hbel.size
      clear hown hbel
      by_cases hlt : k < zs.length
      · obtain ⟨b, off, rfl, hb, hc⟩ := HI.out (by omega)
        have hsrc : wr.cell? ⟨b, off + k, none⟩ = some (.int .i64 (nth zs k)) := (HBel.out.cell (p := ⟨b, off + k, none⟩) hb).trans (hc k hlt)
        obtain ⟨v1, v2⟩ := HV.out k hlt
        clear hc
        go_wp2_with (at_builtin; go_loud (refine wpList_append_own _ rfl _ _ 29 rfl w.heap.size 3 i0 (.int .i64 0) 1 8 Try.underlying29 hi hz0 hz1 hz2 rfl (by decide) _ _ _ rfl (HO.out.alloc _) ⟨wr.heap.size, 0, none⟩ 1 1 [.int .i64 (16 - nth zs k)] rfl rfl (cell_one_new _ _ _) (by simp [Value.oneCell']) (by unfold maxLen; omega) (by omega) (by simp; omega) ?_); intro v' w1 hown' hgrow _; have HO1 := Lib.hid hown'; have HG1 := Lib.hid hgrow; clear hown' hgrow)
        go_roundw
        case rel =>
          refine ⟨k + 1, by omega, by go_num, ?_, (HBel.out.alloc (by omega) _).grown HG1.out (by simp; omega) (fun j hj => (HO.out.lt j hj).1)⟩
          rw [take_snoc (by rw [invM_length]; exact hlt), List.map_append, nth_invM hlt]
          exact HO1.out
        case measure => simp [intOf]; omega
      · have he : k = zs.length := by omega
        go_wp2
        go_ret
        obtain ⟨A', cap', rfl, hcap, hl', ho⟩ := own_of_row (zs := (invM zs).take k) HO.out
        have et : (invM zs).take k = invM zs := List.take_of_length_le (by rw [invM_length]; omega)
        rw [et] at ho hl'
        exact ⟨A', cap', by rw [hl']; rfl, by omega, ho, HBel.out⟩
end Go.Proofs.Ytjfbbieacpnpkaa
