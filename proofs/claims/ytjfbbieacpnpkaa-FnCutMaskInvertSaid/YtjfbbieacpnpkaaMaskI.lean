/-
  What the program leaves of masks.
-/
import Derived.Test.YtjfbbieacpnpkaaMask
namespace Go.Proofs.Ytjfbbieacpnpkaa
open Go.RowKit
set_option linter.unusedSimpArgs false
set_option linter.unusedVariables false

set_option maxHeartbeats 800000 in
theorem InvertMask_i (zs : List Int) (A : Option Addr) (n cap : Nat) (w : World) (h : Ints w A zs) (hn : zs.length = n) (hm : zs.length ≤ 1000000000000) :
    Calls Try.prog 17 #[.slice A n cap] w (Made w (invV zs)) := by
  have HI := Lib.hid h
  clear h
  subst hn
  cases hv : maskB zs
  · rw [show invV zs = [] by simp [invV, hv]]
    go_enter Try.func17, Try.ntmps17
    go_wp2_with (go_at_call 36; refine (maskValid_c zs _ _ _ _ HI.out rfl hm).mono ?_; rintro e w' ⟨rfl, rfl⟩)
    go_ret
    exact ⟨none, 0, rfl, Nat.le_refl _, Own.nil _ _ _ _, Below.refl _ _⟩
  · rw [show invV zs = invM zs by simp [invV, hv]]
    obtain ⟨hlen, hval⟩ := maskB_true.1 hv
    have HV := Lib.hid hval
    clear hval
    have hmk := run_make_ints zs.length hm
    have hm1 : (zs.length : Int) ≤ 144 := by omega
    have hrow := row_made zs.length w
    have HR := Lib.hid hrow
    clear hrow
    go_enter Try.func17, Try.ntmps17
    go_wp2_with (go_at_call 36; refine (maskValid_c zs _ _ _ _ HI.out rfl hm).mono ?_; rintro e w' ⟨rfl, rfl⟩)
    clear hmk
    go_loopw [14] (fun i wr => ∃ k : Nat, k ≤ zs.length ∧ i = .int .i64 k ∧ Row wr w.heap.size 3 zs.length (fun j => .int .i64 (if j < k then 16 - nth zs j else 0)) ∧ Below w.heap.size w wr) (fun i _ => zs.length - (intOf i).toNat)
    case atStart => exact ⟨0, Nat.zero_le _, rfl, HR.out.congr fun i hi => by simp, by go_grown⟩
    case round =>
      obtain ⟨k, hk, rfl, hrow, hbel⟩ := hrel
      have HRow := Lib.hid hrow
      have HBel := Lib.hid hbel
      clear hrow hbel
      by_cases hlt : k < zs.length
      · obtain ⟨b, off, rfl, hb, hc⟩ := HI.out (by omega)
        have hsrc : wr.cell? ⟨b, off + k, none⟩ = some (.int .i64 (nth zs k)) := (HBel.out.cell (p := ⟨b, off + k, none⟩) hb).trans (hc k hlt)
        have hdst : wr.cell? ⟨w.heap.size, k, none⟩ = some (.int .i64 0) := by have := HRow.out.cell hlt; simpa using this
        have hfr := HRow.out.free k
        obtain ⟨v1, v2⟩ := HV.out k hlt
        clear hc
        go_wp2
        go_roundw
        case rel =>
          refine ⟨k + 1, by omega, by go_num, (HRow.out.set hlt _).congr fun j hj => ?_, HBel.out.setCell (Nat.le_refl _) _⟩
          by_cases hjk : j = k
          · subst hjk; simp 
          · simp only [if_neg hjk]
            by_cases hj2 : j < k
            · rw [if_pos hj2, if_pos (by omega)]
            · rw [if_neg hj2, if_neg (by omega)]
        case measure => simp [intOf]; omega
      · have he : k = zs.length := by omega
        go_wp2
        go_ret
        refine ⟨some ⟨w.heap.size, 0, none⟩, zs.length, (by show Ending.returned (Value.slice (some ⟨w.heap.size, 0, none⟩) zs.length zs.length) = _; rw [invM_length]), by rw [invM_length]; exact Nat.le_refl _, fun hn => ⟨w.heap.size, rfl, Nat.le_refl _, ?_, ?_⟩, HBel.out⟩
        · exact HRow.out.lt
        · rw [invM_length]
          exact HRow.out.congr fun j hj => by rw [if_pos (by omega), nth_invM hj]
end Go.Proofs.Ytjfbbieacpnpkaa
