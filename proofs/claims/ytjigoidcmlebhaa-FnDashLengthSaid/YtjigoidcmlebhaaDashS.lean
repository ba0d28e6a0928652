/-
  The runs of a line: by the reference.
-/
import Derived.Test.YtjigoidcmlebhaaDashI
namespace Go.Proofs.Ytjigoidcmlebhaa
open Go.RowKit
set_option linter.unusedSimpArgs false
set_option linter.unusedVariables false

set_option maxHeartbeats 2000000 in
theorem DashSpans_s (zs : List Int) (A : Option Addr) (n cap : Nat) (b t : Int) (w : World) (h : Ints w A zs) (hn : zs.length = n) (hm : zs.length ≤ 1000000000000) :
    Calls Try.prog 23 #[.slice A n cap, .int .i64 b, .int .i64 t] w (MadeT 38 (spansV zs b t).length w (flat (spansV zs b t))) := by
  subst hn
  have HI := Lib.hid h
  clear h
  cases h1 : patB zs
  · rw [show spansV zs b t = [] by simp [spansV, dashB, h1]]
    go_enter Try.func23, Try.ntmps23
    go_wp2_with (first | (go_at_call 30; refine (validDash_c zs _ _ _ _ (HI.out.below (by go_grown)) rfl hm).mono ?_; rintro e w' ⟨rfl, rfl⟩) | (go_at_call 31; refine (inRange_c _ _ _ _).mono ?_; rintro e w' ⟨rfl, rfl⟩))
    go_ret
    exact ⟨none, 0, rfl, Nat.le_refl _, OwnT.nil _ _ _ _ _, by go_grown⟩
  cases h2 : inB b 0 400
  · rw [show spansV zs b t = [] by simp [spansV, dashB, h2]]
    go_enter Try.func23, Try.ntmps23
    go_wp2_with (first | (go_at_call 30; refine (validDash_c zs _ _ _ _ (HI.out.below (by go_grown)) rfl hm).mono ?_; rintro e w' ⟨rfl, rfl⟩) | (go_at_call 31; refine (inRange_c _ _ _ _).mono ?_; rintro e w' ⟨rfl, rfl⟩))
    go_ret
    exact ⟨none, 0, rfl, Nat.le_refl _, OwnT.nil _ _ _ _ _, by go_grown⟩
  cases h3 : inB t 0 400
  · rw [show spansV zs b t = [] by simp [spansV, dashB, h3]]
    go_enter Try.func23, Try.ntmps23
    go_wp2_with (first | (go_at_call 30; refine (validDash_c zs _ _ _ _ (HI.out.below (by go_grown)) rfl hm).mono ?_; rintro e w' ⟨rfl, rfl⟩) | (go_at_call 31; refine (inRange_c _ _ _ _).mono ?_; rintro e w' ⟨rfl, rfl⟩))
    go_ret
    exact ⟨none, 0, rfl, Nat.le_refl _, OwnT.nil _ _ _ _ _, by go_grown⟩
  rw [show spansV zs b t = runs (dr zs b) t.toNat by simp [spansV, dashB, h1, h2, h3]]
  obtain ⟨b0, b1⟩ := inB_true.1 h2
  obtain ⟨t0, t1⟩ := inB_true.1 h3
  have HP := Lib.hid (patB_pat h1)
  obtain ⟨i0, hi, hz0, hz1, hz2⟩ := info_parts span_info
  have HS0 := Lib.hid (show (w.alloc (.cells #[] 38)).ownsRow w.heap.size 38 2 (.slice (some ⟨w.heap.size, 0, none⟩) 0 0) 0 [] from World.ownsRow_lit w #[] 0 (Nat.le_refl _) (by unfold maxLen; omega) rfl)
  go_enter Try.func23, Try.ntmps23
  go_wp2_with (first | (go_at_call 30; refine (validDash_c zs _ _ _ _ (HI.out.below (by go_grown)) rfl hm).mono ?_; rintro e w' ⟨rfl, rfl⟩) | (go_at_call 31; refine (inRange_c _ _ _ _).mono ?_; rintro e w' ⟨rfl, rfl⟩))
  go_loopw [7, 8, 9] (fun v o i wr => ∃ k : Nat, (k : Int) ≤ t ∧ i = .int .i64 k ∧ o = .int .i64 (sp (dr zs b) k).2 ∧ wr.ownsRow w.heap.size 38 2 v (sp (dr zs b) k).1.length ((flat (sp (dr zs b) k).1).map (Value.int .i64)) ∧ Below w.heap.size w wr) (fun _ _ i _ => t.toNat - (intOf i).toNat)
  case atStart => exact ⟨0, by omega, rfl, rfl, HS0.out, by go_grown⟩
  case round =>
    obtain ⟨k, hk, rfl, rfl, ho, hbel⟩ := hrel
    have HO := Lib.hid ho
    have HBel := Lib.hid hbel
    have hsr := hbel.size
    have HIw := Lib.hid (HI.out.below hbel)
    have HS := Lib.hid (sp_ok (dr zs b) k)
    clear ho hbel
    have hl1 := (sp_len (dr zs b) k).1
    have hl2 := (sp_len (dr zs b) k).2
    have o1 := HS.out.o1
    by_cases hlt : (k : Int) < t
    · cases hd : drB zs (b + (k : Int)) <;> by_cases ho : (sp (dr zs b) k).2 < 0
      · have HN := Lib.hid (show sp (dr zs b) (k + 1) = sp (dr zs b) k by simp only [sp]; rw [show dr zs b k = false from hd]; simp [ho])
        go_wp2_with (first | (go_at_call 32; refine (drawn_s zs _ _ _ _ _ HIw.out rfl HP.out (by omega) (by omega)).mono ?_; rintro e w' ⟨rfl, rfl⟩))
        go_roundw
        case rel => exact ⟨k + 1, by omega, by go_num, by rw [HN.out], by rw [HN.out]; exact HO.out, HBel.out⟩
        case measure => simp [intOf]; omega
      · have HN := Lib.hid (show sp (dr zs b) (k + 1) = ((sp (dr zs b) k).1 ++ [((sp (dr zs b) k).2, (k : Int))], -1) by simp only [sp]; rw [show dr zs b k = false from hd]; simp [ho])
        have hl3 := hl2 ho
        go_wp2_with (first | (go_at_call 32; refine (drawn_s zs _ _ _ _ _ HIw.out rfl HP.out (by omega) (by omega)).mono ?_; rintro e w' ⟨rfl, rfl⟩) | (at_builtin; refine wpList_append_own _ rfl _ _ 35 rfl w.heap.size 38 i0 (.agg #[.int .i64 0, .int .i64 0]) 2 16 Try.underlying35 hi hz0 hz1 hz2 rfl (by decide) _ _ _ rfl (HO.out.alloc _) ⟨wr.heap.size, 0, none⟩ 1 1 [.int .i64 (sp (dr zs b) k).2, .int .i64 (k : Int)] rfl rfl (cell_two_new _ _ _ _) (by simp [Value.oneCell']) (by unfold maxLen; omega) (by omega) (by simp; omega) ?_; intro v' w9 hown' hgrow hnil; have HO4 := Lib.hid hown'; have HG4 := Lib.hid hgrow; clear hown' hgrow hnil))
        go_roundw
        case rel => exact ⟨k + 1, by omega, by go_num, by rw [HN.out], by rw [HN.out, flat_snoc, List.length_append]; exact HO4.out, (HBel.out.alloc (by omega) _).grown HG4.out (by simp; omega) (fun j hj => (HO.out.lt j hj).1)⟩
        case measure => simp [intOf]; omega
      · have HN := Lib.hid (show sp (dr zs b) (k + 1) = ((sp (dr zs b) k).1, (k : Int)) by simp only [sp]; rw [show dr zs b k = true from hd]; simp [ho])
        go_wp2_with (first | (go_at_call 32; refine (drawn_s zs _ _ _ _ _ HIw.out rfl HP.out (by omega) (by omega)).mono ?_; rintro e w' ⟨rfl, rfl⟩))
        go_roundw
        case rel => exact ⟨k + 1, by omega, by go_num, by rw [HN.out], by rw [HN.out]; exact HO.out, HBel.out⟩
        case measure => simp [intOf]; omega
      · have HN := Lib.hid (show sp (dr zs b) (k + 1) = sp (dr zs b) k by simp only [sp]; rw [show dr zs b k = true from hd]; simp [ho])
        go_wp2_with (first | (go_at_call 32; refine (drawn_s zs _ _ _ _ _ HIw.out rfl HP.out (by omega) (by omega)).mono ?_; rintro e w' ⟨rfl, rfl⟩))
        go_roundw
        case rel => exact ⟨k + 1, by omega, by go_num, by rw [HN.out], by rw [HN.out]; exact HO.out, HBel.out⟩
        case measure => simp [intOf]; omega
    · obtain rfl : t = (k : Int) := by omega
      rw [Int.toNat_natCast]
      by_cases ho : (sp (dr zs b) k).2 < 0
      · have HN := Lib.hid (show runs (dr zs b) k = (sp (dr zs b) k).1 by unfold runs; rw [if_pos ho])
        obtain ⟨A', cap', rfl, hcap, hl', hown⟩ := ownT_of_row HO.out
        have HW := Lib.hid hown
        clear hown hl'
        go_wp2
        go_ret
        rw [HN.out]
        exact ⟨A', cap', rfl, hcap, HW.out, HBel.out⟩
      · have HN := Lib.hid (show runs (dr zs b) k = (sp (dr zs b) k).1 ++ [((sp (dr zs b) k).2, (k : Int))] by unfold runs; rw [if_neg ho])
        have hl3 := hl2 ho
        go_wp2_with (first | (at_builtin; refine wpList_append_own _ rfl _ _ 35 rfl w.heap.size 38 i0 (.agg #[.int .i64 0, .int .i64 0]) 2 16 Try.underlying35 hi hz0 hz1 hz2 rfl (by decide) _ _ _ rfl (HO.out.alloc _) ⟨wr.heap.size, 0, none⟩ 1 1 [.int .i64 (sp (dr zs b) k).2, .int .i64 (k : Int)] rfl rfl (cell_two_new _ _ _ _) (by simp [Value.oneCell']) (by unfold maxLen; omega) (by omega) (by simp; omega) ?_; intro v' w9 hown' hgrow hnil; have HO4 := Lib.hid hown'; have HG4 := Lib.hid hgrow; clear hown' hgrow hnil))
        go_ret
        rw [HN.out]
        have hO := HO4.out
        rw [← flat_snoc] at hO
        obtain ⟨A', cap', rfl, hcap, hl', hown⟩ := ownT_of_row hO
        exact ⟨A', cap', by rw [List.length_append]; rfl, by rw [List.length_append]; exact hcap, hown, (HBel.out.alloc (by omega) _).grown HG4.out (by simp; omega) (fun j hj => (HO.out.lt j hj).1)⟩
end Go.Proofs.Ytjigoidcmlebhaa
