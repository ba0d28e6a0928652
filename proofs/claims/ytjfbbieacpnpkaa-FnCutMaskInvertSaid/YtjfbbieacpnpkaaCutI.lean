/-
  What the program makes of two masks.
-/
import Derived.Test.YtjfbbieacpnpkaaMask
import Derived.Deep.RegionHeld3
import Derived.Deep.DrawnRows
namespace Go.Proofs.Ytjfbbieacpnpkaa
open Go.RowKit
set_option linter.unusedSimpArgs false
set_option linter.unusedVariables false

attribute [local go_sem ↓] Go.wp_at_zero Go.wp_at_succ
set_option maxHeartbeats 4000000 in
theorem CutMask_i (xs ys : List Int) (A B : Option Addr) (n ca m cb : Nat) (w : World) (ha : Ints w A xs) (hb : Ints w B ys) (hn : xs.length = n) (hm : ys.length = m) (hx : xs.length ≤ 1000000000000) (hy : ys.length ≤ 1000000000000) :
    Calls Try.prog 22 #[.slice A n ca, .slice B m cb] w (Made w (cutV xs ys)) := by
  have HA := Lib.hid ha
  have HB := Lib.hid hb
  clear ha hb
  subst hn
  subst hm
  cases hv : maskB xs
  · rw [show cutV xs ys = [] by simp [cutV, hv]]
    go_enter Try.func22, Try.ntmps22
    go_wp2_with (first | (go_at_call_of 36 (Value.slice A xs.length ca); refine (maskValid_c xs _ _ _ _ HA.out rfl hx).mono ?_; rintro e w' ⟨rfl, rfl⟩) | (go_at_call 36; refine (maskValid_c ys _ _ _ _ HB.out rfl hy).mono ?_; rintro e w' ⟨rfl, rfl⟩))
    go_ret
    exact ⟨none, 0, rfl, Nat.le_refl _, Own.nil _ _ _ _, Below.refl _ _⟩
  cases hu : maskB ys
  · rw [show cutV xs ys = [] by simp [cutV, hv, hu]]
    go_enter Try.func22, Try.ntmps22
    go_wp2_with (first | (go_at_call_of 36 (Value.slice A xs.length ca); refine (maskValid_c xs _ _ _ _ HA.out rfl hx).mono ?_; rintro e w' ⟨rfl, rfl⟩) | (go_at_call 36; refine (maskValid_c ys _ _ _ _ HB.out rfl hy).mono ?_; rintro e w' ⟨rfl, rfl⟩))
    go_ret
    exact ⟨none, 0, rfl, Nat.le_refl _, Own.nil _ _ _ _, Below.refl _ _⟩
  by_cases hl : xs.length = ys.length
  rotate_left
  · rw [show cutV xs ys = [] by simp [cutV, hv, hu, hl]]
    have hl2 : ((xs.length : Int) != (ys.length : Int)) = true := by rw [bne_iff_ne]; omega
    clear hl
    go_enter Try.func22, Try.ntmps22
    go_wp2_with (first | (go_at_call_of 36 (Value.slice A xs.length ca); refine (maskValid_c xs _ _ _ _ HA.out rfl hx).mono ?_; rintro e w' ⟨rfl, rfl⟩) | (go_at_call 36; refine (maskValid_c ys _ _ _ _ HB.out rfl hy).mono ?_; rintro e w' ⟨rfl, rfl⟩))
    go_ret
    exact ⟨none, 0, rfl, Nat.le_refl _, Own.nil _ _ _ _, Below.refl _ _⟩
  · rw [show cutV xs ys = cutM xs ys by simp [cutV, hv, hu, hl]]
    have hl2 : ((xs.length : Int) != (ys.length : Int)) = false := by simp [hl]
    have HL := Lib.hid hl
    obtain ⟨hlen, hval⟩ := maskB_true.1 hv
    obtain ⟨hlen2, hval2⟩ := maskB_true.1 hu
    have HV := Lib.hid hval
    have HU := Lib.hid hval2
    clear hval hval2 hl
    have hm1 : (xs.length : Int) ≤ 144 := by omega
    have hmk := run_make_ints xs.length hx
    have hrow := row_made xs.length w
    have HR := Lib.hid hrow
    clear hrow
    go_enter Try.func22, Try.ntmps22
    go_wp2_with (first | (go_at_call_of 36 (Value.slice A xs.length ca); refine (maskValid_c xs _ _ _ _ HA.out rfl hx).mono ?_; rintro e w' ⟨rfl, rfl⟩) | (go_at_call 36; refine (maskValid_c ys _ _ _ _ HB.out rfl hy).mono ?_; rintro e w' ⟨rfl, rfl⟩))
    clear hmk
    go_loopw [27] (fun i wr => ∃ k : Nat, k ≤ xs.length ∧ i = .int .i64 k ∧ Row wr w.heap.size 3 xs.length (fun j => .int .i64 (if j < k then rnd (nth xs j * nth ys j) 16 else 0)) ∧ Below w.heap.size w wr) (fun i _ => xs.length - (intOf i).toNat)
    case atStart => exact ⟨0, Nat.zero_le _, rfl, HR.out.congr fun i hi => by simp, by go_grown⟩
    case round =>
      obtain ⟨k, hk, rfl, hrow, hbel⟩ := hrel
      have HRow := Lib.hid hrow
      have HBel := Lib.hid hbel
      clear hrow hbel
      by_cases hlt : k < xs.length
      · obtain ⟨b1, o1, rfl, q1, c1⟩ := HA.out (by omega)
        obtain ⟨b2, o2, rfl, q2, c2⟩ := HB.out (by have := HL.out; omega)
        have hlt2 : k < ys.length := by have := HL.out; omega
        have s1 : wr.cell? ⟨b1, o1 + k, none⟩ = some (.int .i64 (nth xs k)) := (HBel.out.cell (p := ⟨b1, o1 + k, none⟩) q1).trans (c1 k hlt)
        have s2 : wr.cell? ⟨b2, o2 + k, none⟩ = some (.int .i64 (nth ys k)) := (HBel.out.cell (p := ⟨b2, o2 + k, none⟩) q2).trans (c2 k hlt2)
        obtain ⟨v1, v2⟩ := HV.out k hlt
        obtain ⟨u1, u2⟩ := HU.out k hlt2
        obtain ⟨m1, m2⟩ := prod_bd (x := nth xs k) (p := nth ys k) v1 (by omega) u1 (by omega)
        have e1 := IntWalk.i64_in (nth xs k * nth ys k) (by omega)
        have hk0 : (0 : Int) ≤ (k : Int) := by omega
        have hk1 : (k : Int) < (xs.length : Int) := by omega
        have hk2 : (k : Int) < (ys.length : Int) := by omega
        clear c1 c2
        have hdst : wr.cell? ⟨w.heap.size, k, none⟩ = some (.int .i64 0) := by have := HRow.out.cell hlt; simpa using this
        have hfr := HRow.out.free k
        go_wp2
        go_region_held3 (fun w' => w'.cell? ⟨b1, o1 + k, none⟩ = some (.int .i64 (nth xs k)) ∧ w'.cell? ⟨b2, o2 + k, none⟩ = some (.int .i64 (nth ys k))) ((repeat' apply And.intro) <;> (first | ((repeat (first | (with_reducible assumption) | (with_reducible refine cell_keepD ?_) | (with_reducible refine cell_keepA ?_ _) | (with_reducible refine cell_keepS ?_ _ (by simp only []; omega)) | (with_reducible refine (hc1 _ _ (by go_size)).trans ?_))); done) | (go_cell; done)))
          (first | (go_at_call 38; refine (round_c _ _ _ (by omega) (by omega) (by omega) (by omega)).mono ?_; rintro e w' ⟨rfl, rfl⟩))
        go_wp2
        go_roundw
        case rel =>
          refine ⟨k + 1, by omega, by go_num, Row.congr (Row.set (w := wr) HRow.out hlt _) fun j hj => ?_, (HBel.out.setCell (Nat.le_refl _) _).drew⟩
          by_cases hjk : j = k
          · subst hjk; simp
          · simp only [if_neg hjk]
            by_cases hj2 : j < k
            · rw [if_pos hj2, if_pos (by omega)]
            · rw [if_neg hj2, if_neg (by omega)]
        case measure => simp [intOf]; omega
      · have he : k = xs.length := by omega
        go_wp2
        go_ret
        refine ⟨some ⟨w.heap.size, 0, none⟩, xs.length, (by show Ending.returned (Value.slice (some ⟨w.heap.size, 0, none⟩) xs.length xs.length) = _; rw [cutM_length]), by rw [cutM_length]; exact Nat.le_refl _, fun hn => ⟨w.heap.size, rfl, Nat.le_refl _, ?_, ?_⟩, HBel.out⟩
        · exact HRow.out.lt
        · rw [cutM_length]
          exact HRow.out.congr fun j hj => by rw [if_pos (by omega), nth_cutM hj]
end Go.Proofs.Ytjfbbieacpnpkaa
