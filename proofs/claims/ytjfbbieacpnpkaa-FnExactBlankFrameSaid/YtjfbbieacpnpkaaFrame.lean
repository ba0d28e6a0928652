/-
  Frames without colors. (Conditions: none.)
-/
import Derived.Test.YtjfbbieacpnpkaaColorK
namespace Go.Proofs.Ytjfbbieacpnpkaa
open Go.RowKit
set_option linter.unusedSimpArgs false
set_option linter.unusedVariables false

theorem run_make_colors (n : Nat) (hn : n ≤ 1000000000) (w : World) : (Instr.makeSlice 40 (.int .i64 (n : Int)) (.int .i64 (n : Int))).run Try.prog w = .ok (.slice (some ⟨w.heap.size, 0, none⟩) n n) (w.alloc (.cells (madeCells #[.int .i64 0, .int .i64 0, .int .i64 0, .int .i64 0] (n * 4)) 69)) := by
  obtain ⟨i0, hi, hz0, hz1, hz2⟩ := info_parts color_info
  have hr := run_make (P := Try.prog) w 40 69 i0 _ Try.underlying40 hi hz0 .i64 .i64 (n : Int) (n : Int) (by omega) (Int.le_refl _) (by rw [hz2]; omega) (by omega)
  simpa [Int.toNat_natCast, hz1, Value.cells] using hr
def zeros (n : Nat) : List Int := List.replicate n 0
theorem zeros_length (n : Nat) : (zeros n).length = n := by simp [zeros]
theorem nth_zeros (n i : Nat) : nth (zeros n) i = 0 := by
  unfold nth zeros; rw [List.getD_eq_getElem?_getD, List.getElem?_replicate]; split <;> rfl
theorem row_made4 (n : Nat) (w : World) : Row (w.alloc (.cells (madeCells #[.int .i64 0, .int .i64 0, .int .i64 0, .int .i64 0] (n * 4)) 69)) w.heap.size 69 (zeros (4 * n)).length (fun i => .int .i64 (nth (zeros (4 * n)) i)) := by
  refine ⟨_, heap_alloc_new w _, fun i hi => ?_⟩
  rw [zeros_length] at hi
  have hi2 : i < n * 4 := by omega
  have hr : i % 4 = 0 ∨ i % 4 = 1 ∨ i % 4 = 2 ∨ i % 4 = 3 := by omega
  rcases hr with hr | hr | hr | hr <;> simp [madeCells, hi2, hr, nth_zeros]
theorem row_made4x (n : Nat) (w : World) (g : Nat) (hg : g = w.heap.size) : Row (w.alloc (.cells (madeCells #[.int .i64 0, .int .i64 0, .int .i64 0, .int .i64 0] (n * 4)) 69)) g 69 (zeros (4 * n)).length (fun i => .int .i64 (nth (zeros (4 * n)) i)) := by subst hg; exact row_made4 n w
/-- How many pixels; what a frame without colors has. -/
def pxN (a b : Int) : Nat := if sizedB a b = true then a.toNat * b.toNat else 0
def fsel (a b x : Int) : Int := if sizedB a b = true then x else 0
def MadeF (a b : Int) (w : World) (e : Ending) (w' : World) : Prop := ∃ (A : Option Addr) (cap : Nat), e = .returned (.agg #[.int .i64 (fsel a b a), .int .i64 (fsel a b b), .slice A (pxN a b) cap]) ∧ OwnT 69 w.heap.size w'.heap.size w' A (zeros (4 * pxN a b)) ∧ Below w.heap.size w w'
theorem sizedB_true {a b : Int} (h : sizedB a b = true) : 1 ≤ a ∧ a ≤ 12 ∧ 1 ≤ b ∧ b ≤ 12 := by
  simp only [sizedB, Bool.and_eq_true, inB_true] at h; omega
theorem px_bd (a b : Int) : pxN a b ≤ 144 := by
  unfold pxN; split
  · rename_i h
    obtain ⟨h1, h2, h3, h4⟩ := sizedB_true h
    have : a.toNat * b.toNat ≤ 12 * 12 := Nat.mul_le_mul (by omega) (by omega)
    omega
  · omega
theorem BlankFrame_i (a b : Int) (w : World) : Calls Try.prog 27 #[.int .i64 a, .int .i64 b] w (MadeF a b w) := by
  cases h : sizedB a b
  · have hp : pxN a b = 0 := by simp [pxN, h]
    have hf : ∀ x, fsel a b x = 0 := fun x => by simp [fsel, h]
    have HF := Lib.hid hf
    clear hf
    go_enter Try.func27, Try.ntmps27
    go_wp2_with (first | (go_at_call 45; refine (sized_c _ _ _).mono ?_; rintro e w1 ⟨rfl, rfl⟩))
    go_returns
    exact ⟨none, 0, by rw [hp, HF.out, HF.out], by rw [hp]; exact OwnT.nil _ _ _ _ _, by go_grown⟩
  · obtain ⟨h1, h2, h3, h4⟩ := sizedB_true h
    have hp : pxN a b = a.toNat * b.toNat := by simp [pxN, h]
    have hf : ∀ x, fsel a b x = x := fun x => by simp [fsel, h]
    have HF := Lib.hid hf
    have hbd := px_bd a b
    obtain ⟨n, hn⟩ : ∃ n, n = pxN a b := ⟨_, rfl⟩
    rw [← hn] at hp hbd
    have HN := Lib.hid hn
    have hm : a * b = (n : Int) := by rw [hp, Int.natCast_mul, Int.toNat_of_nonneg (by omega), Int.toNat_of_nonneg (by omega)]
    have hm2 : IntKind.i64.wrap (a * b) = (n : Int) := by rw [hm, IntWalk.i64_in _ (by omega)]
    have hmk := fun w => run_make_colors n (by omega) w
    clear hf hn hp
    go_enter Try.func27, Try.ntmps27
    go_wp2_with (first | (go_at_call 45; refine (sized_c _ _ _).mono ?_; rintro e w1 ⟨rfl, rfl⟩) | go_in)
    go_returns
    exact ⟨_, _, by rw [HF.out, HF.out, ← HN.out], by rw [← HN.out]; exact fun _ => ⟨_, rfl, by go_size, by go_size, row_made4x _ _ _ (by go_size)⟩, by go_grown⟩
theorem BlankFrame_s (a b : Int) (w : World) : Calls Try.prog 26 #[.int .i64 a, .int .i64 b] w (MadeF a b w) := by
  cases h : sizedB a b
  · have hp : pxN a b = 0 := by simp [pxN, h]
    have hf : ∀ x, fsel a b x = 0 := fun x => by simp [fsel, h]
    have HF := Lib.hid hf
    clear hf
    go_enter Try.func26, Try.ntmps26
    go_wp2_with (first | (go_at_call 43; refine (validSize_c _ _ _).mono ?_; rintro e w1 ⟨rfl, rfl⟩))
    go_returns
    exact ⟨none, 0, by rw [hp, HF.out, HF.out], by rw [hp]; exact OwnT.nil _ _ _ _ _, by go_grown⟩
  · obtain ⟨h1, h2, h3, h4⟩ := sizedB_true h
    have hp : pxN a b = a.toNat * b.toNat := by simp [pxN, h]
    have hf : ∀ x, fsel a b x = x := fun x => by simp [fsel, h]
    have HF := Lib.hid hf
    have hbd := px_bd a b
    obtain ⟨n, hn⟩ : ∃ n, n = pxN a b := ⟨_, rfl⟩
    rw [← hn] at hp hbd
    have HN := Lib.hid hn
    have hm : a * b = (n : Int) := by rw [hp, Int.natCast_mul, Int.toNat_of_nonneg (by omega), Int.toNat_of_nonneg (by omega)]
    have hm2 : IntKind.i64.wrap (a * b) = (n : Int) := by rw [hm, IntWalk.i64_in _ (by omega)]
    have hmk := fun w => run_make_colors n (by omega) w
    clear hf hn hp
    go_enter Try.func26, Try.ntmps26
    go_wp2_with (first | (go_at_call 43; refine (validSize_c _ _ _).mono ?_; rintro e w1 ⟨rfl, rfl⟩) | go_in)
    go_returns
    exact ⟨_, _, by rw [HF.out, HF.out, ← HN.out], by rw [← HN.out]; exact fun _ => ⟨_, rfl, by go_size, by go_size, row_made4x _ _ _ (by go_size)⟩, by go_grown⟩
end Go.Proofs.Ytjfbbieacpnpkaa
