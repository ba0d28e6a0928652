/-
  What the reference makes of two masks.
-/
import Derived.Test.YtjfbbieacpnpkaaMask
import Derived.Deep.RegionHeld3
import Derived.Deep.DrawnRows
import Derived.Deep.AppendLies
import Derived.OwnWalk
import Derived.Maps.AppendAt
namespace Go.Proofs.Ytjfbbieacpnpkaa
open Go.RowKit
set_option linter.unusedSimpArgs false
set_option linter.unusedVariables false

attribute [local go_sem ↓] Go.wp_at_zero Go.wp_at_succ
set_option maxHeartbeats 4000000 in
theorem CutMask_s (xs ys : List Int) (A B : Option Addr) (n ca m cb : Nat) (w : World) (ha : Ints w A xs) (hb : Ints w B ys) (hn : xs.length = n) (hm : ys.length = m) (hx : xs.length ≤ 1000000000000) (hy : ys.length ≤ 1000000000000) :
    Calls Try.prog 21 #[.slice A n ca, .slice B m cb] w (Made w (cutV xs ys)) := by
  have HA := Lib.hid ha
  have HB := Lib.hid hb
  clear ha hb
  subst hn
  subst hm
  cases hv : maskB xs
  · rw [show cutV xs ys = [] by simp [cutV, hv]]
    go_enter Try.func21, Try.ntmps21
    go_wp2_with (first | (go_at_call_of 35 (Value.slice A xs.length ca); refine (validMask_c xs _ _ _ _ (HA.out.below (by go_grown)) rfl hx).mono ?_; rintro e w' ⟨rfl, rfl⟩) | (go_at_call 35; refine (validMask_c ys _ _ _ _ (HB.out.below (by go_grown)) rfl hy).mono ?_; rintro e w' ⟨rfl, rfl⟩))
    go_ret
    exact ⟨none, 0, rfl, Nat.le_refl _, Own.nil _ _ _ _, by go_grown⟩
  cases hu : maskB ys
  · rw [show cutV xs ys = [] by simp [cutV, hv, hu]]
    go_enter Try.func21, Try.ntmps21
    go_wp2_with (first | (go_at_call_of 35 (Value.slice A xs.length ca); refine (validMask_c xs _ _ _ _ (HA.out.below (by go_grown)) rfl hx).mono ?_; rintro e w' ⟨rfl, rfl⟩) | (go_at_call 35; refine (validMask_c ys _ _ _ _ (HB.out.below (by go_grown)) rfl hy).mono ?_; rintro e w' ⟨rfl, rfl⟩))
    go_ret
    exact ⟨none, 0, rfl, Nat.le_refl _, Own.nil _ _ _ _, by go_grown⟩
  by_cases hl : xs.length = ys.length
  rotate_left
  · rw [show cutV xs ys = [] by simp [cutV, hv, hu, hl]]
    have hl2 : ((xs.length : Int) != (ys.length : Int)) = true := by rw [bne_iff_ne]; omega
    clear hl
    go_enter Try.func21, Try.ntmps21
    go_wp2_with (first | (go_at_call_of 35 (Value.slice A xs.length ca); refine (validMask_c xs _ _ _ _ (HA.out.below (by go_grown)) rfl hx).mono ?_; rintro e w' ⟨rfl, rfl⟩) | (go_at_call 35; refine (validMask_c ys _ _ _ _ (HB.out.below (by go_grown)) rfl hy).mono ?_; rintro e w' ⟨rfl, rfl⟩))
    go_ret
    exact ⟨none, 0, rfl, Nat.le_refl _, Own.nil _ _ _ _, by go_grown⟩
  · rw [show cutV xs ys = cutM xs ys by simp [cutV, hv, hu, hl]]
    have hl2 : ((xs.length : Int) != (ys.length : Int)) = false := by simp [hl]
    have HL := Lib.hid hl
    obtain ⟨hlen, hval⟩ := maskB_true.1 hv
    obtain ⟨hlen2, hval2⟩ := maskB_true.1 hu
    have HV := Lib.hid hval
    have HU := Lib.hid hval2
    clear hval hval2 hl
    have hm1 : (xs.length : Int) ≤ 144 := by omega
    obtain ⟨i0, hi, hz0, hz1, hz2⟩ := info_parts int_info
    have hstart : (w.alloc (.cells #[] 3)).ownsRow w.heap.size 3 1 (.slice (some ⟨w.heap.size, 0, none⟩) 0 0) 0 [] := by
      exact World.ownsRow_lit w #[] 0 (Nat.le_refl _) (by unfold maxLen; omega) rfl
    have HS := Lib.hid hstart
    clear hstart
    go_enter Try.func21, Try.ntmps21
    go_wp2_with (first | (go_at_call_of 35 (Value.slice A xs.length ca); refine (validMask_c xs _ _ _ _ (HA.out.below (by go_grown)) rfl hx).mono ?_; rintro e w' ⟨rfl, rfl⟩) | (go_at_call 35; refine (validMask_c ys _ _ _ _ (HB.out.below (by go_grown)) rfl hy).mono ?_; rintro e w' ⟨rfl, rfl⟩))
    go_loopw [5, 6] (fun v i wr => ∃ k : Nat, k ≤ xs.length ∧ i = .int .i64 k ∧ wr.ownsRow w.heap.size 3 1 v k (((cutM xs ys).take k).map (Value.int .i64)) ∧ Below w.heap.size w wr) (fun _ i _ => xs.length - (intOf i).toNat)
    case atStart => exact ⟨0, Nat.zero_le _, rfl, by simpa using HS.out, by go_grown⟩
    case round =>
      obtain ⟨k, hk, rfl, hown, hbel⟩ := hrel
      have HO := Lib.hid hown
      have HBel := Lib.hid hbel
      have hsz := hbel.size
      clear hown hbel
      by_cases hlt : k < xs.length
      · obtain ⟨b1, o1, rfl, q1, c1⟩ := HA.out (by omega)
        obtain ⟨b2, o2, rfl, q2, c2⟩ := HB.out (by have := HL.out; omega)
        have hlt2 : k < ys.length := by have := HL.out; omega
        have s1 : wr.cell? ⟨b1, o1 + k, none⟩ = some (.int .i64 (nth xs k)) := (HBel.out.cell (p := ⟨b1, o1 + k, none⟩) q1).trans (c1 k hlt)
        have s2 : wr.cell? ⟨b2, o2 + k, none⟩ = some (.int .i64 (nth ys k)) := (HBel.out.cell (p := ⟨b2, o2 + k, none⟩) q2).trans (c2 k hlt2)
        obtain ⟨v1, v2⟩ := HV.out k hlt
        obtain ⟨u1, u2⟩ := HU.out k hlt2
        obtain ⟨m1, m2⟩ := prod_bd (x := nth xs k) (p := nth ys k) v1 (by omega) u1 (by omega)
        have e1 := IntWalk.i64_in (nth xs k * nth ys k) (by omega)
        have hk0 : (0 : Int) ≤ (k : Int) := by omega
        have hk1 : (k : Int) < (xs.length : Int) := by omega
        have hk2 : (k : Int) < (ys.length : Int) := by omega
        clear c1 c2
        have ag1 : u5.ownBlock ≠ some b1 := fun e => by have := (HO.out.lt _ e).1; omega
        have ag2 : u5.ownBlock ≠ some b2 := fun e => by have := (HO.out.lt _ e).1; omega
        have hw1 : b1 < wr.heap.size := by omega
        have hw2 : b2 < wr.heap.size := by omega
        go_wp2
        go_region_held3 (fun w' => w'.cell? ⟨b1, o1 + k, none⟩ = some (.int .i64 (nth xs k)) ∧ w'.cell? ⟨b2, o2 + k, none⟩ = some (.int .i64 (nth ys k)))
          (first | go_keep | exact ⟨hgrow.cell (cell_keepD (cell_keepA s1 _)) (Ne.symm ag1), hgrow.cell (cell_keepD (cell_keepA s2 _)) (Ne.symm ag2)⟩)
          (first | (go_at_call 37; refine (nearest_c _ _ _ (by omega) (by omega) (by omega) (by omega)).mono ?_; rintro e w' ⟨rfl, rfl⟩) | ((refine step_append_lies _ (by rfl) _ _ _ (by rfl) w.heap.size 3 i0 (.int .i64 0) 1 8 Try.underlying29 hi hz0 hz1 hz2 rfl (by omega) u5 k (((cutM xs ys).take k).map (Value.int .i64)) (by rfl) ((HO.out.alloc _).drew) ⟨wr.heap.size, 0, none⟩ 1 1 [.int .i64 (rnd (nth xs k * nth ys k) 16)] (by rfl) (by rfl) (World.news_of_block (cs := #[.int .i64 (rnd (nth xs k * nth ys k) 16)]) (t := 3) (fr := (0, 0)) (heap_alloc_new wr _)) (by simp [Value.oneCell']) (by omega) (by unfold maxLen; omega) (by omega) (by simp; omega) (wr.heap.size + 1) (by simp) ?_; intro gg cap w1 hown1 hgrow hat hlt1)))
        have HO1 := Lib.hid hown1
        have HG1 := Lib.hid hgrow
        clear hown1 hgrow hat
        go_wp2
        go_roundw
        case rel =>
          refine ⟨k + 1, by omega, by go_num, ?_, ((HBel.out.alloc (by omega) _).drew).grown HG1.out (by simp; omega) (fun j hj => (HO.out.lt j hj).1)⟩
          rw [take_snoc (by rw [cutM_length]; exact hlt), List.map_append, nth_cutM hlt]
          exact HO1.out
        case measure => simp [intOf]; omega
      · have he : k = xs.length := by omega
        go_wp2
        go_ret
        obtain ⟨A', cap', rfl, hcap, hl', ho⟩ := own_of_row (zs := (cutM xs ys).take k) HO.out
        have et : (cutM xs ys).take k = cutM xs ys := List.take_of_length_le (by rw [cutM_length]; omega)
        rw [et] at ho hl'
        exact ⟨A', cap', by rw [hl']; rfl, by omega, ho, HBel.out⟩
end Go.Proofs.Ytjfbbieacpnpkaa
