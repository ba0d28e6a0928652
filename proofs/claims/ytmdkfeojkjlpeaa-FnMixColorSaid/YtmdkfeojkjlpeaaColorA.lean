/-
  What comes back for every two colors: the combined color, or the zero color.
-/
import Derived.Test.YtmdkfeojkjlpeaaColorI
import Derived.Test.YtmdkfeojkjlpeaaColorS
import Derived.Test.YtmdkfeojkjlpeaaColor0
namespace Go.Proofs.Ytmdkfeojkjlpeaa
open Go.RowKit
set_option linter.unusedSimpArgs false
set_option linter.unusedVariables false

def sel (v : Bool) (x : Int) : Int := if v = true then x else 0
theorem OverColor_iA (r g b a r' g' b' a' : Int) (w : World) :
    Calls Try.prog 23 #[.agg #[.int .i64 r, .int .i64 g, .int .i64 b, .int .i64 a], .agg #[.int .i64 r', .int .i64 g', .int .i64 b', .int .i64 a']] w fun e w' => e = .returned (.agg #[.int .i64 (sel (colB r g b a && colB r' g' b' a') (r + rnd (r' * (255 - a)) 255)), .int .i64 (sel (colB r g b a && colB r' g' b' a') (g + rnd (g' * (255 - a)) 255)), .int .i64 (sel (colB r g b a && colB r' g' b' a') (b + rnd (b' * (255 - a)) 255)), .int .i64 (sel (colB r g b a && colB r' g' b' a') (a + rnd (a' * (255 - a)) 255))]) ∧ Below w.heap.size w w' := by
  cases h : (colB r g b a && colB r' g' b' a')
  · simp only [sel, Bool.false_eq_true, if_false]
    exact OverColor_i0 _ _ _ _ _ _ _ _ w h
  · simp only [sel, if_true]
    simp only [Bool.and_eq_true, colB_true, inB_true] at h
    exact OverColor_i _ _ _ _ _ _ _ _ w h.1 h.2
theorem MixColor_iA (r g b a r' g' b' a' t : Int) (w : World) :
    Calls Try.prog 21 #[.agg #[.int .i64 r, .int .i64 g, .int .i64 b, .int .i64 a], .agg #[.int .i64 r', .int .i64 g', .int .i64 b', .int .i64 a'], .int .i64 t] w fun e w' => e = .returned (.agg #[.int .i64 (sel (colB r g b a && colB r' g' b' a' && inB t 0 256) (rnd (r * (256 - t) + r' * t) 256)), .int .i64 (sel (colB r g b a && colB r' g' b' a' && inB t 0 256) (rnd (g * (256 - t) + g' * t) 256)), .int .i64 (sel (colB r g b a && colB r' g' b' a' && inB t 0 256) (rnd (b * (256 - t) + b' * t) 256)), .int .i64 (sel (colB r g b a && colB r' g' b' a' && inB t 0 256) (rnd (a * (256 - t) + a' * t) 256))]) ∧ Below w.heap.size w w' := by
  cases h : (colB r g b a && colB r' g' b' a' && inB t 0 256)
  · simp only [sel, Bool.false_eq_true, if_false]
    exact MixColor_i0 _ _ _ _ _ _ _ _ _ w h
  · simp only [sel, if_true]
    simp only [Bool.and_eq_true, colB_true, inB_true] at h
    exact MixColor_i _ _ _ _ _ _ _ _ _ w h.1.1 h.1.2 h.2.1 h.2.2
theorem CoverColor_iA (r g b a t : Int) (w : World) :
    Calls Try.prog 18 #[.agg #[.int .i64 r, .int .i64 g, .int .i64 b, .int .i64 a], .int .i64 t] w fun e w' => e = .returned (.agg #[.int .i64 (sel (colB r g b a && inB t 0 16) (rnd (r * t) 16)), .int .i64 (sel (colB r g b a && inB t 0 16) (rnd (g * t) 16)), .int .i64 (sel (colB r g b a && inB t 0 16) (rnd (b * t) 16)), .int .i64 (sel (colB r g b a && inB t 0 16) (rnd (a * t) 16))]) ∧ Below w.heap.size w w' := by
  cases h : (colB r g b a && inB t 0 16)
  · simp only [sel, Bool.false_eq_true, if_false]
    exact CoverColor_i0 _ _ _ _ _ w h
  · simp only [sel, if_true]
    simp only [Bool.and_eq_true, colB_true, inB_true] at h
    exact CoverColor_i _ _ _ _ _ w h.1 h.2.1 h.2.2
theorem OverColor_sA (r g b a r' g' b' a' : Int) (w : World) :
    Calls Try.prog 22 #[.agg #[.int .i64 r, .int .i64 g, .int .i64 b, .int .i64 a], .agg #[.int .i64 r', .int .i64 g', .int .i64 b', .int .i64 a']] w fun e w' => e = .returned (.agg #[.int .i64 (sel (colB r g b a && colB r' g' b' a') (r + rnd (r' * (255 - a)) 255)), .int .i64 (sel (colB r g b a && colB r' g' b' a') (g + rnd (g' * (255 - a)) 255)), .int .i64 (sel (colB r g b a && colB r' g' b' a') (b + rnd (b' * (255 - a)) 255)), .int .i64 (sel (colB r g b a && colB r' g' b' a') (a + rnd (a' * (255 - a)) 255))]) ∧ Below w.heap.size w w' := by
  cases h : (colB r g b a && colB r' g' b' a')
  · simp only [sel, Bool.false_eq_true, if_false]
    exact OverColor_s0 _ _ _ _ _ _ _ _ w h
  · simp only [sel, if_true]
    simp only [Bool.and_eq_true, colB_true, inB_true] at h
    exact OverColor_s _ _ _ _ _ _ _ _ w h.1 h.2
theorem MixColor_sA (r g b a r' g' b' a' t : Int) (w : World) :
    Calls Try.prog 20 #[.agg #[.int .i64 r, .int .i64 g, .int .i64 b, .int .i64 a], .agg #[.int .i64 r', .int .i64 g', .int .i64 b', .int .i64 a'], .int .i64 t] w fun e w' => e = .returned (.agg #[.int .i64 (sel (colB r g b a && colB r' g' b' a' && inB t 0 256) (rnd (r * (256 - t) + r' * t) 256)), .int .i64 (sel (colB r g b a && colB r' g' b' a' && inB t 0 256) (rnd (g * (256 - t) + g' * t) 256)), .int .i64 (sel (colB r g b a && colB r' g' b' a' && inB t 0 256) (rnd (b * (256 - t) + b' * t) 256)), .int .i64 (sel (colB r g b a && colB r' g' b' a' && inB t 0 256) (rnd (a * (256 - t) + a' * t) 256))]) ∧ Below w.heap.size w w' := by
  cases h : (colB r g b a && colB r' g' b' a' && inB t 0 256)
  · simp only [sel, Bool.false_eq_true, if_false]
    exact MixColor_s0 _ _ _ _ _ _ _ _ _ w h
  · simp only [sel, if_true]
    simp only [Bool.and_eq_true, colB_true, inB_true] at h
    exact MixColor_s _ _ _ _ _ _ _ _ _ w h.1.1 h.1.2 h.2.1 h.2.2
theorem CoverColor_sA (r g b a t : Int) (w : World) :
    Calls Try.prog 17 #[.agg #[.int .i64 r, .int .i64 g, .int .i64 b, .int .i64 a], .int .i64 t] w fun e w' => e = .returned (.agg #[.int .i64 (sel (colB r g b a && inB t 0 16) (rnd (r * t) 16)), .int .i64 (sel (colB r g b a && inB t 0 16) (rnd (g * t) 16)), .int .i64 (sel (colB r g b a && inB t 0 16) (rnd (b * t) 16)), .int .i64 (sel (colB r g b a && inB t 0 16) (rnd (a * t) 16))]) ∧ Below w.heap.size w w' := by
  cases h : (colB r g b a && inB t 0 16)
  · simp only [sel, Bool.false_eq_true, if_false]
    exact CoverColor_s0 _ _ _ _ _ w h
  · simp only [sel, if_true]
    simp only [Bool.and_eq_true, colB_true, inB_true] at h
    exact CoverColor_s _ _ _ _ _ w h.1 h.2.1 h.2.2
end Go.Proofs.Ytmdkfeojkjlpeaa
