-- Laid by a program of this session's (xprint.py) over the print's text; contracts proved by hand stand among them. Lean checks it.
import Derived.Test.YtbmeebhcanknmaaDoorXRepx0
import Derived.Test.YtbmeebhcanknmaaDoorXRepx2
import Derived.Test.YtbmeebhcanknmaaDoorXRepx13
namespace Go.Proofs.YtbmeebhcanknmaaDoor.XRep
open Go.RowKit Go.Proofs.YtbmeebhcanknmaaDoorW.PrintWords Go.Proofs.YtbmeebhcanknmaaDoorW.PrintLast Go.Proofs.YtbmeebhcanknmaaDoorW.PrintMore
attribute [local go_sem] max2_int min2_int max_two min_two max_three min_three max_four min_four   -- for this text's walks alone
set_option linter.unusedVariables false
set_option linter.unusedSimpArgs false

/-! ### posthouseref3_ReplyOf: function 52 -/
mutual
def posthouseref3_ReplyOf.l0 : Nat → List ByteArray → Int → Int → Int → List ByteArray → Option (Int × List ByteArray × Int × Int × Int)
  | 0, _, _, _, _, _ => none
  | k + 1, x0, x7, x249000, x252000, x252001 => if x7 < (x0.length : Int) then (if 0 ≤ x7 then (if x7 = 20 then ((posthouseref3_At.f 2 x7).bind fun bt255 => (some (x249000, ([] : List ByteArray), 0, bt255.1, bt255.2))) else (if ((rdOf ByteArray.empty x0 x7).size : Int) ≥ 4 then (if 3 < ((rdOf ByteArray.empty x0 x7).size : Int) then (if (bt (rdOf ByteArray.empty x0 x7) 3) = 45 then ((posthouseref3_ends.f k (rdOf ByteArray.empty x0 x7)).bind fun t257 => (posthouseref3_ReplyOf.j1 k x0 x7 (rdOf ByteArray.empty x0 x7) (-1) (!t257) x249000 x252000 x252001)) else (if (bt (rdOf ByteArray.empty x0 x7) 3) = 32 then ((posthouseref3_ends.f k (rdOf ByteArray.empty x0 x7)).bind fun t258 => (posthouseref3_ReplyOf.j1 k x0 x7 (rdOf ByteArray.empty x0 x7) (-1) (!t258) x249000 x252000 x252001)) else (posthouseref3_ReplyOf.j1 k x0 x7 (rdOf ByteArray.empty x0 x7) (-1) false x249000 x252000 x252001))) else (none)) else (posthouseref3_ReplyOf.j1 k x0 x7 (rdOf ByteArray.empty x0 x7) (-1) false x249000 x252000 x252001))) else (none)) else ((posthouseref3_At.f 9 (-2)).bind fun bt252 => (some (x249000, ([] : List ByteArray), 0, bt252.1, bt252.2)))
def posthouseref3_ReplyOf.j1 : Nat → List ByteArray → Int → ByteArray → Int → Bool → Int → Int → List ByteArray → Option (Int × List ByteArray × Int × Int × Int)
  | 0, _, _, _, _, _, _, _, _ => none
  | k + 1, x0, x7, x8, x9, x49, x249000, x252000, x252001 => if x49 = true then (if 0 ≤ 3 then (if 3 ≤ (x8.size : Int) then ((posthouseref3_Amount.f k (x8.extract 0 3)).bind fun t259 => (posthouseref3_ReplyOf.j2 k x0 x7 x8 t259 x249000 x252000 x252001)) else (none)) else (none)) else (posthouseref3_ReplyOf.j2 k x0 x7 x8 x9 x249000 x252000 x252001)
def posthouseref3_ReplyOf.j2 : Nat → List ByteArray → Int → ByteArray → Int → Int → Int → List ByteArray → Option (Int × List ByteArray × Int × Int × Int)
  | 0, _, _, _, _, _, _, _ => none
  | k + 1, x0, x7, x8, x9, x249000, x252000, x252001 => (posthouseref3_In.f x9 200 599).bind fun t260 => (if t260 = true then (if (x8.size : Int) > 504 then ((posthouseref3_At.f 1 x7).bind fun bt263 => (some (x249000, ([] : List ByteArray), 0, bt263.1, bt263.2))) else (if x7 > 0 then (posthouseref3_ReplyOf.j3 k x0 x7 x8 x9 (x9 != x252000) x249000 x252000 x252001) else (posthouseref3_ReplyOf.j3 k x0 x7 x8 x9 false x249000 x252000 x252001))) else ((posthouseref3_At.f 11 x7).bind fun bt261 => (some (x249000, ([] : List ByteArray), 0, bt261.1, bt261.2))))
def posthouseref3_ReplyOf.j3 : Nat → List ByteArray → Int → ByteArray → Int → Bool → Int → Int → List ByteArray → Option (Int × List ByteArray × Int × Int × Int)
  | 0, _, _, _, _, _, _, _, _ => none
  | k + 1, x0, x7, x8, x9, x72, x249000, x252000, x252001 => if x72 = true then ((posthouseref3_At.f 5 x7).bind fun bt265 => (some (x249000, ([] : List ByteArray), 0, bt265.1, bt265.2))) else (if 4 ≤ (x8.size : Int) then (if x252001.length < 8796093022208 then ((some (x252001 ++ [x8.extract 4 x8.size] : List ByteArray)).bind fun y267 => (if 3 < (x8.size : Int) then (if (bt x8 3) = 32 then (some (x9, y267, wrap64 (x7 + 1), 0, 0)) else (posthouseref3_ReplyOf.l0 k x0 (wrap64 (x7 + 1)) x249000 x9 y267)) else (none))) else (none)) else (none))
end
def posthouseref3_ReplyOf.f (k : Nat) (l0 : List ByteArray) : Option (Int × List ByteArray × Int × Int × Int) := if (l0.length : Int) > 300 then ((posthouseref3_At.f 2 (-1)).bind fun bt249 => (some (0, ([] : List ByteArray), 0, bt249.1, bt249.2))) else (posthouseref3_ReplyOf.l0 k l0 0 0 0 ([] : List ByteArray))
theorem posthouseref3_ReplyOf.mono_l : ∀ k, (∀ y0 y1 y2 y3 y4, LeO (posthouseref3_ReplyOf.l0 k y0 y1 y2 y3 y4) (posthouseref3_ReplyOf.l0 (k + 1) y0 y1 y2 y3 y4)) ∧ (∀ y0 y1 y2 y3 y4 y5 y6 y7, LeO (posthouseref3_ReplyOf.j1 k y0 y1 y2 y3 y4 y5 y6 y7) (posthouseref3_ReplyOf.j1 (k + 1) y0 y1 y2 y3 y4 y5 y6 y7)) ∧ (∀ y0 y1 y2 y3 y4 y5 y6, LeO (posthouseref3_ReplyOf.j2 k y0 y1 y2 y3 y4 y5 y6) (posthouseref3_ReplyOf.j2 (k + 1) y0 y1 y2 y3 y4 y5 y6)) ∧ (∀ y0 y1 y2 y3 y4 y5 y6 y7, LeO (posthouseref3_ReplyOf.j3 k y0 y1 y2 y3 y4 y5 y6 y7) (posthouseref3_ReplyOf.j3 (k + 1) y0 y1 y2 y3 y4 y5 y6 y7))
  | 0 => ⟨fun _ _ _ _ _ r h => by simp [posthouseref3_ReplyOf.l0] at h, fun _ _ _ _ _ _ _ _ r h => by simp [posthouseref3_ReplyOf.j1] at h, fun _ _ _ _ _ _ _ r h => by simp [posthouseref3_ReplyOf.j2] at h, fun _ _ _ _ _ _ _ _ r h => by simp [posthouseref3_ReplyOf.j3] at h⟩
  | k + 1 => by
    obtain ⟨ih0, ih1, ih2, ih3⟩ := posthouseref3_ReplyOf.mono_l k
    refine ⟨?_, ?_, ?_, ?_⟩
    · intro y0 y1 y2 y3 y4
      unfold posthouseref3_ReplyOf.l0
      repeat' first
      | (with_reducible exact ih0 _ _ _ _ _)
      | (with_reducible exact ih1 _ _ _ _ _ _ _ _)
      | (with_reducible exact ih2 _ _ _ _ _ _ _)
      | (with_reducible exact ih3 _ _ _ _ _ _ _ _)
      | (with_reducible exact posthouseref3_Amount.mono _ _)
      | (with_reducible exact posthouseref3_ends.mono _ _)
      | (with_reducible exact LeO.refl _)
      | (with_reducible exact LeO.none _)
      | (with_reducible refine LeO.ite ?_ ?_)
      | (with_reducible refine LeO.bind ?_ (fun _ => ?_))
      | exact ih0 _ _ _ _ _
      | exact ih1 _ _ _ _ _ _ _ _
      | exact ih2 _ _ _ _ _ _ _
      | exact ih3 _ _ _ _ _ _ _ _
      | exact posthouseref3_Amount.mono _ _
      | exact posthouseref3_ends.mono _ _
      | exact LeO.none _
      | refine LeO.ite ?_ ?_
      | refine LeO.bind ?_ (fun _ => ?_)
    · intro y0 y1 y2 y3 y4 y5 y6 y7
      unfold posthouseref3_ReplyOf.j1
      repeat' first
      | (with_reducible exact ih0 _ _ _ _ _)
      | (with_reducible exact ih1 _ _ _ _ _ _ _ _)
      | (with_reducible exact ih2 _ _ _ _ _ _ _)
      | (with_reducible exact ih3 _ _ _ _ _ _ _ _)
      | (with_reducible exact posthouseref3_Amount.mono _ _)
      | (with_reducible exact posthouseref3_ends.mono _ _)
      | (with_reducible exact LeO.refl _)
      | (with_reducible exact LeO.none _)
      | (with_reducible refine LeO.ite ?_ ?_)
      | (with_reducible refine LeO.bind ?_ (fun _ => ?_))
      | exact ih0 _ _ _ _ _
      | exact ih1 _ _ _ _ _ _ _ _
      | exact ih2 _ _ _ _ _ _ _
      | exact ih3 _ _ _ _ _ _ _ _
      | exact posthouseref3_Amount.mono _ _
      | exact posthouseref3_ends.mono _ _
      | exact LeO.none _
      | refine LeO.ite ?_ ?_
      | refine LeO.bind ?_ (fun _ => ?_)
    · intro y0 y1 y2 y3 y4 y5 y6
      unfold posthouseref3_ReplyOf.j2
      repeat' first
      | (with_reducible exact ih0 _ _ _ _ _)
      | (with_reducible exact ih1 _ _ _ _ _ _ _ _)
      | (with_reducible exact ih2 _ _ _ _ _ _ _)
      | (with_reducible exact ih3 _ _ _ _ _ _ _ _)
      | (with_reducible exact posthouseref3_Amount.mono _ _)
      | (with_reducible exact posthouseref3_ends.mono _ _)
      | (with_reducible exact LeO.refl _)
      | (with_reducible exact LeO.none _)
      | (with_reducible refine LeO.ite ?_ ?_)
      | (with_reducible refine LeO.bind ?_ (fun _ => ?_))
      | exact ih0 _ _ _ _ _
      | exact ih1 _ _ _ _ _ _ _ _
      | exact ih2 _ _ _ _ _ _ _
      | exact ih3 _ _ _ _ _ _ _ _
      | exact posthouseref3_Amount.mono _ _
      | exact posthouseref3_ends.mono _ _
      | exact LeO.none _
      | refine LeO.ite ?_ ?_
      | refine LeO.bind ?_ (fun _ => ?_)
    · intro y0 y1 y2 y3 y4 y5 y6 y7
      unfold posthouseref3_ReplyOf.j3
      repeat' first
      | (with_reducible exact ih0 _ _ _ _ _)
      | (with_reducible exact ih1 _ _ _ _ _ _ _ _)
      | (with_reducible exact ih2 _ _ _ _ _ _ _)
      | (with_reducible exact ih3 _ _ _ _ _ _ _ _)
      | (with_reducible exact posthouseref3_Amount.mono _ _)
      | (with_reducible exact posthouseref3_ends.mono _ _)
      | (with_reducible exact LeO.refl _)
      | (with_reducible exact LeO.none _)
      | (with_reducible refine LeO.ite ?_ ?_)
      | (with_reducible refine LeO.bind ?_ (fun _ => ?_))
      | exact ih0 _ _ _ _ _
      | exact ih1 _ _ _ _ _ _ _ _
      | exact ih2 _ _ _ _ _ _ _
      | exact ih3 _ _ _ _ _ _ _ _
      | exact posthouseref3_Amount.mono _ _
      | exact posthouseref3_ends.mono _ _
      | exact LeO.none _
      | refine LeO.ite ?_ ?_
      | refine LeO.bind ?_ (fun _ => ?_)
theorem posthouseref3_ReplyOf.mono : ∀ a0 k, LeO (posthouseref3_ReplyOf.f k a0) (posthouseref3_ReplyOf.f (k + 1) a0) := by
  intro a0 k
  obtain ⟨ih0, ih1, ih2, ih3⟩ := posthouseref3_ReplyOf.mono_l k
  unfold posthouseref3_ReplyOf.f
  repeat' first
      | (with_reducible exact ih0 _ _ _ _ _)
      | (with_reducible exact ih1 _ _ _ _ _ _ _ _)
      | (with_reducible exact ih2 _ _ _ _ _ _ _)
      | (with_reducible exact ih3 _ _ _ _ _ _ _ _)
      | (with_reducible exact posthouseref3_Amount.mono _ _)
      | (with_reducible exact posthouseref3_ends.mono _ _)
      | (with_reducible exact LeO.refl _)
      | (with_reducible exact LeO.none _)
      | (with_reducible refine LeO.ite ?_ ?_)
      | (with_reducible refine LeO.bind ?_ (fun _ => ?_))
      | exact ih0 _ _ _ _ _
      | exact ih1 _ _ _ _ _ _ _ _
      | exact ih2 _ _ _ _ _ _ _
      | exact ih3 _ _ _ _ _ _ _ _
      | exact posthouseref3_Amount.mono _ _
      | exact posthouseref3_ends.mono _ _
      | exact LeO.none _
      | refine LeO.ite ?_ ?_
      | refine LeO.bind ?_ (fun _ => ?_)
def posthouseref3_ReplyOf.T21 : Bool × List (List Nat × List Nat) := (true, [([], []), ([0], [0]), ([], []), ([2], [2]), ([3], [3]), ([1, 4], [1, 4]), ([0, 1, 2, 3, 4, 5], []), ([6, 5, 5, 0, 1, 2, 3, 4, 5], [5, 6])])
def posthouseref3_ReplyOf.B21 : List Nat := [0, 1, 0, 4, 12, 31, 63, 127]
theorem posthouseref3_ReplyOf.tab21 : rtab .any (opsOf Tryd.f52 21) = posthouseref3_ReplyOf.T21 := by kernel_rfl
theorem posthouseref3_ReplyOf.bits21 : waitsOk posthouseref3_ReplyOf.T21.2 posthouseref3_ReplyOf.B21 = true := by kernel_rfl
set_option maxHeartbeats 8000000 in
set_option maxRecDepth 100000 in
theorem posthouseref3_ReplyOf.calls (k : Nat) (A0 : Option Addr) (c0 : Nat) (l0 : List ByteArray) (r1 : Int) (r2 : List ByteArray) (r3 : Int) (r4 : Int) (r5 : Int) (w : World) (hr0 : Kd.C Kd.string w A0 l0.length l0) (hc0 : l0.length ≤ c0) (h : posthouseref3_ReplyOf.f k l0 = some (r1, r2, r3, r4, r5)) :
    Calls Tryd.prog 52 #[.slice A0 l0.length c0] w fun e w' => ∃ v1_ : Value, e = .returned (.tuple #[.agg #[.int .i64 r1, v1_], .int .i64 r3, .agg #[.int .i64 r4, .int .i64 r5]]) ∧ Kd.R Kd.string 9 w' w.heap.size (fun _ => True) v1_ r2 ∧ Below w.heap.size w w' := by
  have hu69 := Tryd.underlying69
  have hu25 := Tryd.underlying25
  have HR0 := Aside0.mk hr0
  have HC0 := Aside0.mk hc0
  clear hr0 hc0
  have HB := Aside0.mk (Below.refl w.heap.size w)
  have H : (if (l0.length : Int) > 300 then ((posthouseref3_At.f 2 (-1)).bind fun bt249 => (some (0, ([] : List ByteArray), 0, bt249.1, bt249.2))) else (posthouseref3_ReplyOf.l0 k l0 0 0 0 ([] : List ByteArray))) = some (r1, r2, r3, r4, r5) := h
  clear h
  by_cases c2 : (l0.length : Int) > 300
  · rw [if_pos c2] at H
    have c2b0 : decide (300 < (l0.length : Int)) = true := decide_eq_true c2
    have c2b1 : decide (300 < l0.length) = true := decide_eq_true (by omega)
    clear c2
    replace H := Option.bind_eq_some_iff.mp H
    obtain ⟨⟨t249, t250⟩, A30, H⟩ := H
    replace H : (some (0, ([] : List ByteArray), 0, t249, t250)) = some (r1, r2, r3, r4, r5) := H
    have A3 := Aside0.mk A30
    clear A30
    simp only [Option.some.injEq, Prod.mk.injEq] at H
    obtain ⟨rfl, rfl, rfl, rfl, rfl⟩ := H
    go_enter Tryd.func52, Tryd.ntmps52
    try go_wp2_with (first | ((with_reducible refine gate_dst (N := 2) rfl ?_); refine box_event ?hg (N := 2) ?hd (cs := #[.int .i64 0, .slice none 0 0]) (t := 69) ?hr ?_; (case hd => rfl); (case hg => rfl); (case hr => first | (go_simp; done) | (go_simp; rfl)); intro gb246 hg w4 hbox hb; have n0_ := Aside0.mk (below_step (by repeat (first | (with_reducible first | exact HB.out | apply below_alloc | apply pw_below_drewN | apply below_drew1) | exact HB.out)) hb); have n1_ := Aside0.mk (hbox); have n2_ := Aside0.mk ((by rw [hg]; exact (below_size (by repeat (first | (with_reducible first | exact HB.out | apply below_alloc | apply pw_below_drewN | apply below_drew1) | exact HB.out))) : w.heap.size ≤ gb246)); have n3_ := Aside0.mk ((by rw [hg]; exact (below_size (by repeat (first | (with_reducible first | exact HB.out | apply below_alloc | apply pw_below_drewN | apply below_drew1) | exact HB.out))) : w.heap.size ≤ gb246)); clear HB; have HB := n0_; have BK246 := n1_; have GW246 := n2_; have GE246 := n3_; clear n0_ n1_ n2_ n3_; clear hb hbox hg) | ((with_reducible refine gate_dst (N := 4) rfl ?_); refine box_event ?hg (N := 4) ?hd (cs := #[.int .i64 0, .int .i64 0]) (t := 25) ?hr ?_; (case hd => rfl); (case hg => rfl); (case hr => first | (go_simp; done) | (go_simp; rfl)); intro gb247 hg w5 hbox hb; have n0_ := Aside0.mk (blk_below (g := gb246) (o := .cells #[.int .i64 0, .slice none 0 0] 69 (0, 0)) (by (with_reducible repeat (first | refine blk_drewN ?_ _ | refine blk_drew ?_ | refine blk_alloc ?_ _)); exact BK246.out) hb); have n1_ := Aside0.mk (below_step (by repeat (first | (with_reducible first | exact HB.out | apply below_alloc | apply pw_below_drewN | apply below_drew1 | refine below_set ?_ GE246.out) | exact HB.out)) hb); have n2_ := Aside0.mk (hbox); have n3_ := Aside0.mk ((by rw [hg]; exact (below_size (by repeat (first | (with_reducible first | exact HB.out | apply below_alloc | apply pw_below_drewN | apply below_drew1 | refine below_set ?_ GE246.out) | exact HB.out))) : w.heap.size ≤ gb247)); have n4_ := Aside0.mk ((by rw [hg]; exact (below_size (by repeat (first | (with_reducible first | exact HB.out | apply below_alloc | apply pw_below_drewN | apply below_drew1 | refine below_set ?_ GE246.out) | exact HB.out))) : w.heap.size ≤ gb247)); have n5_ := Aside0.mk ((by rw [hg]; exact Nat.ne_of_lt (blk_lt (g := gb246) (o := .cells #[.int .i64 0, .slice none 0 0] 69 (0, 0)) (by (with_reducible repeat (first | refine blk_drewN ?_ _ | refine blk_drew ?_ | refine blk_alloc ?_ _)); exact BK246.out)) : gb246 ≠ gb247)); have n6_ := Aside0.mk ((by rw [hg]; exact Nat.ne_of_gt (blk_lt (g := gb246) (o := .cells #[.int .i64 0, .slice none 0 0] 69 (0, 0)) (by (with_reducible repeat (first | refine blk_drewN ?_ _ | refine blk_drew ?_ | refine blk_alloc ?_ _)); exact BK246.out)) : gb247 ≠ gb246)); clear BK246; clear HB; have BK246 := n0_; have HB := n1_; have BK247 := n2_; have GW247 := n3_; have GE247 := n4_; have NB246_247 := n5_; have NB247_246 := n6_; clear n0_ n1_ n2_ n3_ n4_ n5_ n6_; clear hb hbox hg) | ((with_reducible refine gate_dst (N := 5) rfl ?_); refine box_event ?hg (N := 5) ?hd (cs := #[.int .i64 0, .slice none 0 0]) (t := 69) ?hr ?_; (case hd => rfl); (case hg => rfl); (case hr => first | (go_simp; done) | (go_simp; rfl)); intro gb248 hg w6 hbox hb; have n0_ := Aside0.mk (blk_below (g := gb246) (o := .cells #[.int .i64 0, .slice none 0 0] 69 (0, 0)) (by (with_reducible repeat (first | refine blk_drewN ?_ _ | refine blk_drew ?_ | refine blk_alloc ?_ _)); exact BK246.out) hb); have n1_ := Aside0.mk (blk_below (g := gb247) (o := .cells #[.int .i64 0, .int .i64 0] 25 (0, 0)) (by (with_reducible repeat (first | refine blk_drewN ?_ _ | refine blk_drew ?_ | refine blk_alloc ?_ _)); exact BK247.out) hb); have n2_ := Aside0.mk (below_step (by repeat (first | (with_reducible first | exact HB.out | apply below_alloc | apply pw_below_drewN | apply below_drew1 | refine below_set ?_ GE246.out | refine below_set ?_ GE247.out) | exact HB.out)) hb); have n3_ := Aside0.mk (hbox); have n4_ := Aside0.mk ((by rw [hg]; exact (below_size (by repeat (first | (with_reducible first | exact HB.out | apply below_alloc | apply pw_below_drewN | apply below_drew1 | refine below_set ?_ GE246.out | refine below_set ?_ GE247.out) | exact HB.out))) : w.heap.size ≤ gb248)); have n5_ := Aside0.mk ((by rw [hg]; exact (below_size (by repeat (first | (with_reducible first | exact HB.out | apply below_alloc | apply pw_below_drewN | apply below_drew1 | refine below_set ?_ GE246.out | refine below_set ?_ GE247.out) | exact HB.out))) : w.heap.size ≤ gb248)); have n6_ := Aside0.mk ((by rw [hg]; exact Nat.ne_of_lt (blk_lt (g := gb246) (o := .cells #[.int .i64 0, .slice none 0 0] 69 (0, 0)) (by (with_reducible repeat (first | refine blk_drewN ?_ _ | refine blk_drew ?_ | refine blk_alloc ?_ _)); exact BK246.out)) : gb246 ≠ gb248)); have n7_ := Aside0.mk ((by rw [hg]; exact Nat.ne_of_gt (blk_lt (g := gb246) (o := .cells #[.int .i64 0, .slice none 0 0] 69 (0, 0)) (by (with_reducible repeat (first | refine blk_drewN ?_ _ | refine blk_drew ?_ | refine blk_alloc ?_ _)); exact BK246.out)) : gb248 ≠ gb246)); have n8_ := Aside0.mk ((by rw [hg]; exact Nat.ne_of_lt (blk_lt (g := gb247) (o := .cells #[.int .i64 0, .int .i64 0] 25 (0, 0)) (by (with_reducible repeat (first | refine blk_drewN ?_ _ | refine blk_drew ?_ | refine blk_alloc ?_ _)); exact BK247.out)) : gb247 ≠ gb248)); have n9_ := Aside0.mk ((by rw [hg]; exact Nat.ne_of_gt (blk_lt (g := gb247) (o := .cells #[.int .i64 0, .int .i64 0] 25 (0, 0)) (by (with_reducible repeat (first | refine blk_drewN ?_ _ | refine blk_drew ?_ | refine blk_alloc ?_ _)); exact BK247.out)) : gb248 ≠ gb247)); clear BK246; clear BK247; clear HB; have BK246 := n0_; have BK247 := n1_; have HB := n2_; have BK248 := n3_; have GW248 := n4_; have GE248 := n5_; have NB246_248 := n6_; have NB248_246 := n7_; have NB247_248 := n8_; have NB248_247 := n9_; clear n0_ n1_ n2_ n3_ n4_ n5_ n6_ n7_ n8_ n9_; clear hb hbox hg; have hnb7 := NB248_246.out; have hnc7 := NB246_248.out; have hnb8 := NB248_247.out; have hnc8 := NB247_248.out; have hcz9_0 : w6.cell? ⟨gb248, 0, none⟩ = some (.int .i64 0) := (blk_cell BK248.out 0).trans rfl; have hcz9_1 : w6.cell? ⟨gb248, 1, none⟩ = some (.slice none 0 0) := (blk_cell BK248.out 1).trans rfl; have hfz9_0 := blk_frozen BK248.out 0; have hfz9_1 := blk_frozen BK248.out 1))
    have n0_ : Aside0 (((w6.setCell ⟨gb248, 0, none⟩ (.int .i64 0)).setCell ⟨gb248, 1, none⟩ (.slice none 0 0)).heap[gb246]? = some (.cells #[.int .i64 0, .slice none 0 0] 69 (0, 0))) := ⟨by (with_reducible repeat (first | refine blk_drewN ?_ _ | refine blk_drew ?_ | refine blk_alloc ?_ _)); refine blk_far ?_ NB246_248.out _; (with_reducible repeat (first | refine blk_drewN ?_ _ | refine blk_drew ?_ | refine blk_alloc ?_ _)); refine blk_far ?_ NB246_248.out _; (with_reducible repeat (first | refine blk_drewN ?_ _ | refine blk_drew ?_ | refine blk_alloc ?_ _)); exact BK246.out⟩
    have n1_ : Aside0 (((w6.setCell ⟨gb248, 0, none⟩ (.int .i64 0)).setCell ⟨gb248, 1, none⟩ (.slice none 0 0)).heap[gb247]? = some (.cells #[.int .i64 0, .int .i64 0] 25 (0, 0))) := ⟨by (with_reducible repeat (first | refine blk_drewN ?_ _ | refine blk_drew ?_ | refine blk_alloc ?_ _)); refine blk_far ?_ NB247_248.out _; (with_reducible repeat (first | refine blk_drewN ?_ _ | refine blk_drew ?_ | refine blk_alloc ?_ _)); refine blk_far ?_ NB247_248.out _; (with_reducible repeat (first | refine blk_drewN ?_ _ | refine blk_drew ?_ | refine blk_alloc ?_ _)); exact BK247.out⟩
    have n2_ : Aside0 (((w6.setCell ⟨gb248, 0, none⟩ (.int .i64 0)).setCell ⟨gb248, 1, none⟩ (.slice none 0 0)).heap[gb248]? = some (.cells #[.int .i64 0, .slice none 0 0] 69 (0, 0))) := ⟨by (with_reducible repeat (first | refine blk_drewN ?_ _ | refine blk_drew ?_ | refine blk_alloc ?_ _)); refine blk_put (cs := #[.int .i64 0, .slice none 0 0]) ?_ 1 _ rfl; (with_reducible repeat (first | refine blk_drewN ?_ _ | refine blk_drew ?_ | refine blk_alloc ?_ _)); refine blk_put (cs := #[.int .i64 0, .slice none 0 0]) ?_ 0 _ rfl; (with_reducible repeat (first | refine blk_drewN ?_ _ | refine blk_drew ?_ | refine blk_alloc ?_ _)); exact BK248.out⟩
    have n3_ : Aside0 (Below w.heap.size w ((w6.setCell ⟨gb248, 0, none⟩ (.int .i64 0)).setCell ⟨gb248, 1, none⟩ (.slice none 0 0))) := ⟨by repeat (first | (with_reducible first | exact HB.out | apply below_alloc | apply pw_below_drewN | apply below_drew1 | refine below_set ?_ GE246.out | refine below_set ?_ GE247.out | refine below_set ?_ GE248.out) | exact HB.out)⟩
    (try clear BK246)
    (try clear BK247)
    (try clear BK248)
    (try clear HB)
    generalize ((w6.setCell ⟨gb248, 0, none⟩ (.int .i64 0)).setCell ⟨gb248, 1, none⟩ (.slice none 0 0)) = w10 at n0_ n1_ n2_ n3_ ⊢
    have BK246 := n0_
    have BK247 := n1_
    have BK248 := n2_
    have HB := n3_
    clear n0_ n1_ n2_ n3_
    have n0_ := Aside0.mk (blk_drew BK246.out)
    have n1_ := Aside0.mk (blk_drew BK247.out)
    have n2_ := Aside0.mk (blk_drew BK248.out)
    have n3_ := Aside0.mk (below_drew1 HB.out)
    clear BK246
    clear BK247
    clear BK248
    clear HB
    have BK246 := n0_
    have BK247 := n1_
    have BK248 := n2_
    have HB := n3_
    clear n0_ n1_ n2_ n3_
    refine start_ (n := 5) (S := fun w' => w'.cell? ⟨gb248, 0, none⟩ = some (.int .i64 0) ∧ w'.cell? ⟨gb248, 1, none⟩ = some (.slice none 0 0)) (ds := []) #[false, false, false, false, false] (by kernel_rfl) rfl rfl ⟨(blk_cell BK248.out 0).trans rfl, (blk_cell BK248.out 1).trans rfl⟩ (fun hHeld => ?_)
    generalize w10.drew = w11 at BK246 BK247 BK248 HB hHeld ⊢
    refine take_ (i := 0) (N := some 14) (v := ?_) (a' := ?_) #[true, false, false, false, false] rfl rfl (by kernel_rfl) (fun _ _ _ h => h) (Or.inl ⟨by rfl, ?_⟩) hHeld ?_ ?_
    rotate_left
    · rintro w' ⟨s0, s1⟩
      go_simp
      with_reducible rfl
    rotate_left
    · simp only [Act.put, List.setIfInBounds_toArray, List.set_cons_zero, List.set_cons_succ, i64_w, i32_w]
      rfl
    refine one_ (i := 1) (N := some 15) #[true, true, false, false, false] rfl rfl (by kernel_rfl) (by decide) (fun K hK => ?_)
    refine goes_ Tryd.func31 (by kernel_rfl) rfl #[.int .i64 2, .int .i64 (-1)] (by rfl) rfl rfl (by (try simp only [List.map_toArray, List.map_cons, List.map_nil]); first | done | rfl | (simp only [List.length_drop, List.length_take]; rfl)) ?_
    with_reducible refine (posthouseref3_At.calls 2 (-1) t249 t250 _ A3.out).mono ?_
    rintro e w12 ⟨rfl, hb⟩
    refine ⟨_, rfl, ?_⟩
    have n0_ := Aside0.mk (blk_below (g := gb246) (o := .cells #[.int .i64 0, .slice none 0 0] 69 (0, 0)) (by (with_reducible repeat (first | refine blk_drewN ?_ _ | refine blk_drew ?_ | refine blk_alloc ?_ _)); exact BK246.out) hb)
    have n1_ := Aside0.mk (blk_below (g := gb247) (o := .cells #[.int .i64 0, .int .i64 0] 25 (0, 0)) (by (with_reducible repeat (first | refine blk_drewN ?_ _ | refine blk_drew ?_ | refine blk_alloc ?_ _)); exact BK247.out) hb)
    have n2_ := Aside0.mk (blk_below (g := gb248) (o := .cells #[.int .i64 0, .slice none 0 0] 69 (0, 0)) (by (with_reducible repeat (first | refine blk_drewN ?_ _ | refine blk_drew ?_ | refine blk_alloc ?_ _)); exact BK248.out) hb)
    have n3_ := Aside0.mk (below_step (by repeat (first | (with_reducible first | exact HB.out | apply below_alloc | apply pw_below_drewN | apply below_drew1 | refine below_set ?_ GE246.out | refine below_set ?_ GE247.out | refine below_set ?_ GE248.out) | exact HB.out)) hb)
    clear BK246
    clear BK247
    clear BK248
    clear HB
    have BK246 := n0_
    have BK247 := n1_
    have BK248 := n2_
    have HB := n3_
    clear n0_ n1_ n2_ n3_
    (try clear hb)
    (try clear hb2)
    (try clear hk)
    (try clear hi)
    refine hK.out _ _ ⟨(blk_cell BK248.out 0).trans rfl, (blk_cell BK248.out 1).trans rfl⟩ (fun hHeld => ?_)
    clear hK K
    refine norm_ (a' := ?_) ?_ ?_
    rotate_left
    · show Act.put _ (some 15) _ = _
      simp only [Act.put, List.setIfInBounds_toArray, List.set_cons_zero, List.set_cons_succ, i64_w, i32_w]
      rfl
    refine one_ (i := 2) (N := none) #[true, true, true, false, false] rfl rfl (by kernel_rfl) (by decide) (fun K hK => ?_)
    have hs13 : w12.cell? ⟨gb246, 0, none⟩ = some (.int .i64 0) := (blk_cell BK246.out 0).trans rfl
    have hfs13 := blk_frozen BK246.out 0
    have hns13_1 := NB247_246.out
    have hns13_2 := NB248_246.out
    have hms13_1 := NB246_247.out
    have hms13_2 := NB246_248.out
    have hs14 : w12.cell? ⟨gb246, 1, none⟩ = some (.slice none 0 0) := (blk_cell BK246.out 1).trans rfl
    have hfs14 := blk_frozen BK246.out 1
    have hns14_1 := NB247_246.out
    have hns14_2 := NB248_246.out
    have hms14_1 := NB246_247.out
    have hms14_2 := NB246_248.out
    refine skip_ (w1 := ?_) (by rfl) rfl ?_ ?_
    rotate_left
    · go_simp
      rfl
    refine hK.out _ _ ⟨((cell_far (p := ⟨gb246, _, none⟩) NB248_246.out _).trans (((cell_far (p := ⟨gb246, _, none⟩) NB248_246.out _).trans (hHeld.1)))), ((cell_far (p := ⟨gb246, _, none⟩) NB248_246.out _).trans (((cell_far (p := ⟨gb246, _, none⟩) NB248_246.out _).trans (hHeld.2))))⟩ (fun hHeld => ?_)
    clear hK K
    refine pure_ (i := 3) (N := some 3) (v := ?_) (a' := ?_) #[true, true, true, true, false] rfl rfl (by kernel_rfl) (fun _ _ _ h => h) (Or.inl ⟨by rfl, ?_⟩) ?_ ?_
    rotate_left
    · intro w'
      go_simp
      with_reducible rfl
    rotate_left
    · simp only [Act.put, List.setIfInBounds_toArray, List.set_cons_zero, List.set_cons_succ, i64_w, i32_w]
      rfl
    refine one_ (i := 4) (N := none) #[true, true, true, true, true] rfl rfl (by kernel_rfl) (by decide) (fun K hK => ?_)
    have hs15 : w12.cell? ⟨gb247, 0, none⟩ = some (.int .i64 0) := (blk_cell BK247.out 0).trans rfl
    have hfs15 := blk_frozen BK247.out 0
    have hns15_0 := NB246_247.out
    have hns15_2 := NB248_247.out
    have hms15_0 := NB247_246.out
    have hms15_2 := NB247_248.out
    have hs16 : w12.cell? ⟨gb247, 1, none⟩ = some (.int .i64 0) := (blk_cell BK247.out 1).trans rfl
    have hfs16 := blk_frozen BK247.out 1
    have hns16_0 := NB246_247.out
    have hns16_2 := NB248_247.out
    have hms16_0 := NB247_246.out
    have hms16_2 := NB247_248.out
    refine skip_ (w1 := ?_) (by rfl) rfl ?_ ?_
    rotate_left
    · go_simp
      rfl
    refine hK.out _ _ ⟨((cell_far (p := ⟨gb247, _, none⟩) NB248_247.out _).trans (((cell_far (p := ⟨gb247, _, none⟩) NB248_247.out _).trans (hHeld.1)))), ((cell_far (p := ⟨gb247, _, none⟩) NB248_247.out _).trans (((cell_far (p := ⟨gb247, _, none⟩) NB248_247.out _).trans (hHeld.2))))⟩ (fun hHeld => ?_)
    clear hK K
    refine done_ (by kernel_rfl) ?_
    try go_wp2
    refine bodyPost_ret (results_list (rs := [.cell 2 69, .tmp 3, .cell 4 25]) rfl (by simp) (.cell gb246 69 #[.int .i64 0, .slice none 0 0] (0, 0) _ rfl (by (with_reducible repeat (first | refine blk_drewN ?_ _ | refine blk_drew ?_ | refine blk_alloc ?_ _)); refine blk_far ?_ NB246_247.out _; (with_reducible repeat (first | refine blk_drewN ?_ _ | refine blk_drew ?_ | refine blk_alloc ?_ _)); refine blk_far ?_ NB246_247.out _; (with_reducible repeat (first | refine blk_drewN ?_ _ | refine blk_drew ?_ | refine blk_alloc ?_ _)); refine blk_put (cs := #[.int .i64 0, .slice none 0 0]) ?_ 1 _ rfl; (with_reducible repeat (first | refine blk_drewN ?_ _ | refine blk_drew ?_ | refine blk_alloc ?_ _)); refine blk_put (cs := #[.int .i64 0, .slice none 0 0]) ?_ 0 _ rfl; (with_reducible repeat (first | refine blk_drewN ?_ _ | refine blk_drew ?_ | refine blk_alloc ?_ _)); exact BK246.out) Tryd.underlying69 rfl (by kernel_rfl) (.tmp (.cell gb247 25 #[.int .i64 t249, .int .i64 t250] (0, 0) _ rfl (by (with_reducible repeat (first | refine blk_drewN ?_ _ | refine blk_drew ?_ | refine blk_alloc ?_ _)); refine blk_put (cs := #[.int .i64 t249, .int .i64 0]) ?_ 1 _ rfl; (with_reducible repeat (first | refine blk_drewN ?_ _ | refine blk_drew ?_ | refine blk_alloc ?_ _)); refine blk_put (cs := #[.int .i64 0, .int .i64 0]) ?_ 0 _ rfl; (with_reducible repeat (first | refine blk_drewN ?_ _ | refine blk_drew ?_ | refine blk_alloc ?_ _)); refine blk_far ?_ NB247_246.out _; (with_reducible repeat (first | refine blk_drewN ?_ _ | refine blk_drew ?_ | refine blk_alloc ?_ _)); refine blk_far ?_ NB247_246.out _; (with_reducible repeat (first | refine blk_drewN ?_ _ | refine blk_drew ?_ | refine blk_alloc ?_ _)); exact BK247.out) Tryd.underlying25 rfl (by kernel_rfl) .nil)))) rfl ?_
    exact ⟨_, by first | rfl | (simp [errW_none, errW_some] <;> rfl) | (simp [*, errW_none, errW_some] <;> rfl), by first | exact Kd.R_nil _ _ _ _ _ | exact Kd.N_nil _ _ _ _ _ | exact Kd.V_nil _ _ _ _ _ | exact Kd.Q_nil _ _ _ _ _ | exact Kd.S_nil _ _ _ _ _, by repeat (first | (with_reducible first | exact HB.out | apply below_alloc | apply pw_below_drewN | apply below_drew1 | refine below_set ?_ GE246.out | refine below_set ?_ GE247.out | refine below_set ?_ GE248.out) | exact HB.out)⟩
  · rw [if_neg c2] at H
    have c2b0 : decide (300 < (l0.length : Int)) = false := decide_eq_false c2
    have c2b1 : decide (300 < l0.length) = false := decide_eq_false (by omega)
    clear c2
    have H' := Aside0.mk H
    clear H
    go_enter Tryd.func52, Tryd.ntmps52
    go_wp2_with (first | ((with_reducible refine gate_dst (N := 2) rfl ?_); refine box_event ?hg (N := 2) ?hd (cs := #[.int .i64 0, .slice none 0 0]) (t := 69) ?hr ?_; (case hd => rfl); (case hg => rfl); (case hr => first | (go_simp; done) | (go_simp; rfl)); intro gb246 hg w17 hbox hb; have n0_ := Aside0.mk (below_step (by repeat (first | (with_reducible first | exact HB.out | apply below_alloc | apply pw_below_drewN | apply below_drew1) | exact HB.out)) hb); have n1_ := Aside0.mk (hbox); have n2_ := Aside0.mk ((by rw [hg]; exact (below_size (by repeat (first | (with_reducible first | exact HB.out | apply below_alloc | apply pw_below_drewN | apply below_drew1) | exact HB.out))) : w.heap.size ≤ gb246)); have n3_ := Aside0.mk ((by rw [hg]; exact (below_size (by repeat (first | (with_reducible first | exact HB.out | apply below_alloc | apply pw_below_drewN | apply below_drew1) | exact HB.out))) : w.heap.size ≤ gb246)); clear HB; have HB := n0_; have BK246 := n1_; have GW246 := n2_; have GE246 := n3_; clear n0_ n1_ n2_ n3_; clear hb hbox hg) | ((with_reducible refine gate_dst (N := 4) rfl ?_); refine box_event ?hg (N := 4) ?hd (cs := #[.int .i64 0, .int .i64 0]) (t := 25) ?hr ?_; (case hd => rfl); (case hg => rfl); (case hr => first | (go_simp; done) | (go_simp; rfl)); intro gb247 hg w18 hbox hb; have n0_ := Aside0.mk (blk_below (g := gb246) (o := .cells #[.int .i64 0, .slice none 0 0] 69 (0, 0)) (by (with_reducible repeat (first | refine blk_drewN ?_ _ | refine blk_drew ?_ | refine blk_alloc ?_ _)); exact BK246.out) hb); have n1_ := Aside0.mk (below_step (by repeat (first | (with_reducible first | exact HB.out | apply below_alloc | apply pw_below_drewN | apply below_drew1 | refine below_set ?_ GE246.out) | exact HB.out)) hb); have n2_ := Aside0.mk (hbox); have n3_ := Aside0.mk ((by rw [hg]; exact (below_size (by repeat (first | (with_reducible first | exact HB.out | apply below_alloc | apply pw_below_drewN | apply below_drew1 | refine below_set ?_ GE246.out) | exact HB.out))) : w.heap.size ≤ gb247)); have n4_ := Aside0.mk ((by rw [hg]; exact (below_size (by repeat (first | (with_reducible first | exact HB.out | apply below_alloc | apply pw_below_drewN | apply below_drew1 | refine below_set ?_ GE246.out) | exact HB.out))) : w.heap.size ≤ gb247)); have n5_ := Aside0.mk ((by rw [hg]; exact Nat.ne_of_lt (blk_lt (g := gb246) (o := .cells #[.int .i64 0, .slice none 0 0] 69 (0, 0)) (by (with_reducible repeat (first | refine blk_drewN ?_ _ | refine blk_drew ?_ | refine blk_alloc ?_ _)); exact BK246.out)) : gb246 ≠ gb247)); have n6_ := Aside0.mk ((by rw [hg]; exact Nat.ne_of_gt (blk_lt (g := gb246) (o := .cells #[.int .i64 0, .slice none 0 0] 69 (0, 0)) (by (with_reducible repeat (first | refine blk_drewN ?_ _ | refine blk_drew ?_ | refine blk_alloc ?_ _)); exact BK246.out)) : gb247 ≠ gb246)); clear BK246; clear HB; have BK246 := n0_; have HB := n1_; have BK247 := n2_; have GW247 := n3_; have GE247 := n4_; have NB246_247 := n5_; have NB247_246 := n6_; clear n0_ n1_ n2_ n3_ n4_ n5_ n6_; clear hb hbox hg) | ((with_reducible refine gate_dst (N := 5) rfl ?_); refine box_event ?hg (N := 5) ?hd (cs := #[.int .i64 0, .slice none 0 0]) (t := 69) ?hr ?_; (case hd => rfl); (case hg => rfl); (case hr => first | (go_simp; done) | (go_simp; rfl)); intro gb248 hg w19 hbox hb; have n0_ := Aside0.mk (blk_below (g := gb246) (o := .cells #[.int .i64 0, .slice none 0 0] 69 (0, 0)) (by (with_reducible repeat (first | refine blk_drewN ?_ _ | refine blk_drew ?_ | refine blk_alloc ?_ _)); exact BK246.out) hb); have n1_ := Aside0.mk (blk_below (g := gb247) (o := .cells #[.int .i64 0, .int .i64 0] 25 (0, 0)) (by (with_reducible repeat (first | refine blk_drewN ?_ _ | refine blk_drew ?_ | refine blk_alloc ?_ _)); exact BK247.out) hb); have n2_ := Aside0.mk (below_step (by repeat (first | (with_reducible first | exact HB.out | apply below_alloc | apply pw_below_drewN | apply below_drew1 | refine below_set ?_ GE246.out | refine below_set ?_ GE247.out) | exact HB.out)) hb); have n3_ := Aside0.mk (hbox); have n4_ := Aside0.mk ((by rw [hg]; exact (below_size (by repeat (first | (with_reducible first | exact HB.out | apply below_alloc | apply pw_below_drewN | apply below_drew1 | refine below_set ?_ GE246.out | refine below_set ?_ GE247.out) | exact HB.out))) : w.heap.size ≤ gb248)); have n5_ := Aside0.mk ((by rw [hg]; exact (below_size (by repeat (first | (with_reducible first | exact HB.out | apply below_alloc | apply pw_below_drewN | apply below_drew1 | refine below_set ?_ GE246.out | refine below_set ?_ GE247.out) | exact HB.out))) : w.heap.size ≤ gb248)); have n6_ := Aside0.mk ((by rw [hg]; exact Nat.ne_of_lt (blk_lt (g := gb246) (o := .cells #[.int .i64 0, .slice none 0 0] 69 (0, 0)) (by (with_reducible repeat (first | refine blk_drewN ?_ _ | refine blk_drew ?_ | refine blk_alloc ?_ _)); exact BK246.out)) : gb246 ≠ gb248)); have n7_ := Aside0.mk ((by rw [hg]; exact Nat.ne_of_gt (blk_lt (g := gb246) (o := .cells #[.int .i64 0, .slice none 0 0] 69 (0, 0)) (by (with_reducible repeat (first | refine blk_drewN ?_ _ | refine blk_drew ?_ | refine blk_alloc ?_ _)); exact BK246.out)) : gb248 ≠ gb246)); have n8_ := Aside0.mk ((by rw [hg]; exact Nat.ne_of_lt (blk_lt (g := gb247) (o := .cells #[.int .i64 0, .int .i64 0] 25 (0, 0)) (by (with_reducible repeat (first | refine blk_drewN ?_ _ | refine blk_drew ?_ | refine blk_alloc ?_ _)); exact BK247.out)) : gb247 ≠ gb248)); have n9_ := Aside0.mk ((by rw [hg]; exact Nat.ne_of_gt (blk_lt (g := gb247) (o := .cells #[.int .i64 0, .int .i64 0] 25 (0, 0)) (by (with_reducible repeat (first | refine blk_drewN ?_ _ | refine blk_drew ?_ | refine blk_alloc ?_ _)); exact BK247.out)) : gb248 ≠ gb247)); clear BK246; clear BK247; clear HB; have BK246 := n0_; have BK247 := n1_; have HB := n2_; have BK248 := n3_; have GW248 := n4_; have GE248 := n5_; have NB246_248 := n6_; have NB248_246 := n7_; have NB247_248 := n8_; have NB248_247 := n9_; clear n0_ n1_ n2_ n3_ n4_ n5_ n6_ n7_ n8_ n9_; clear hb hbox hg; have hnb20 := NB248_246.out; have hnc20 := NB246_248.out; have hnb21 := NB248_247.out; have hnc21 := NB247_248.out; have hcz22_0 : w19.cell? ⟨gb248, 0, none⟩ = some (.int .i64 0) := (blk_cell BK248.out 0).trans rfl; have hcz22_1 : w19.cell? ⟨gb248, 1, none⟩ = some (.slice none 0 0) := (blk_cell BK248.out 1).trans rfl; have hfz22_0 := blk_frozen BK248.out 0; have hfz22_1 := blk_frozen BK248.out 1) | ((with_reducible refine gate_dst (N := 6) rfl ?_); refine box_event ?hg (N := 6) ?hd (cs := #[.int .i64 0, .slice none 0 0]) (t := 69) ?hr ?_; (case hd => rfl); (case hg => rfl); (case hr => first | (go_simp; done) | (go_simp; rfl)); intro gb251 hg w23 hbox hb; have n0_ := Aside0.mk (blk_below (g := gb246) (o := .cells #[.int .i64 0, .slice none 0 0] 69 (0, 0)) (by (with_reducible repeat (first | refine blk_drewN ?_ _ | refine blk_drew ?_ | refine blk_alloc ?_ _)); refine blk_far ?_ NB246_248.out _; (with_reducible repeat (first | refine blk_drewN ?_ _ | refine blk_drew ?_ | refine blk_alloc ?_ _)); refine blk_far ?_ NB246_248.out _; (with_reducible repeat (first | refine blk_drewN ?_ _ | refine blk_drew ?_ | refine blk_alloc ?_ _)); exact BK246.out) hb); have n1_ := Aside0.mk (blk_below (g := gb247) (o := .cells #[.int .i64 0, .int .i64 0] 25 (0, 0)) (by (with_reducible repeat (first | refine blk_drewN ?_ _ | refine blk_drew ?_ | refine blk_alloc ?_ _)); refine blk_far ?_ NB247_248.out _; (with_reducible repeat (first | refine blk_drewN ?_ _ | refine blk_drew ?_ | refine blk_alloc ?_ _)); refine blk_far ?_ NB247_248.out _; (with_reducible repeat (first | refine blk_drewN ?_ _ | refine blk_drew ?_ | refine blk_alloc ?_ _)); exact BK247.out) hb); have n2_ := Aside0.mk (blk_below (g := gb248) (o := .cells #[.int .i64 0, .slice none 0 0] 69 (0, 0)) (by (with_reducible repeat (first | refine blk_drewN ?_ _ | refine blk_drew ?_ | refine blk_alloc ?_ _)); refine blk_put (cs := #[.int .i64 0, .slice none 0 0]) ?_ 1 _ rfl; (with_reducible repeat (first | refine blk_drewN ?_ _ | refine blk_drew ?_ | refine blk_alloc ?_ _)); refine blk_put (cs := #[.int .i64 0, .slice none 0 0]) ?_ 0 _ rfl; (with_reducible repeat (first | refine blk_drewN ?_ _ | refine blk_drew ?_ | refine blk_alloc ?_ _)); exact BK248.out) hb); have n3_ := Aside0.mk (below_step (by repeat (first | (with_reducible first | exact HB.out | apply below_alloc | apply pw_below_drewN | apply below_drew1 | refine below_set ?_ GE246.out | refine below_set ?_ GE247.out | refine below_set ?_ GE248.out) | exact HB.out)) hb); have n4_ := Aside0.mk (hbox); have n5_ := Aside0.mk ((by rw [hg]; exact (below_size (by repeat (first | (with_reducible first | exact HB.out | apply below_alloc | apply pw_below_drewN | apply below_drew1 | refine below_set ?_ GE246.out | refine below_set ?_ GE247.out | refine below_set ?_ GE248.out) | exact HB.out))) : w.heap.size ≤ gb251)); have n6_ := Aside0.mk ((by rw [hg]; exact (below_size (by repeat (first | (with_reducible first | exact HB.out | apply below_alloc | apply pw_below_drewN | apply below_drew1 | refine below_set ?_ GE246.out | refine below_set ?_ GE247.out | refine below_set ?_ GE248.out) | exact HB.out))) : w.heap.size ≤ gb251)); have n7_ := Aside0.mk ((by rw [hg]; exact Nat.ne_of_lt (blk_lt (g := gb246) (o := .cells #[.int .i64 0, .slice none 0 0] 69 (0, 0)) (by (with_reducible repeat (first | refine blk_drewN ?_ _ | refine blk_drew ?_ | refine blk_alloc ?_ _)); refine blk_far ?_ NB246_248.out _; (with_reducible repeat (first | refine blk_drewN ?_ _ | refine blk_drew ?_ | refine blk_alloc ?_ _)); refine blk_far ?_ NB246_248.out _; (with_reducible repeat (first | refine blk_drewN ?_ _ | refine blk_drew ?_ | refine blk_alloc ?_ _)); exact BK246.out)) : gb246 ≠ gb251)); have n8_ := Aside0.mk ((by rw [hg]; exact Nat.ne_of_gt (blk_lt (g := gb246) (o := .cells #[.int .i64 0, .slice none 0 0] 69 (0, 0)) (by (with_reducible repeat (first | refine blk_drewN ?_ _ | refine blk_drew ?_ | refine blk_alloc ?_ _)); refine blk_far ?_ NB246_248.out _; (with_reducible repeat (first | refine blk_drewN ?_ _ | refine blk_drew ?_ | refine blk_alloc ?_ _)); refine blk_far ?_ NB246_248.out _; (with_reducible repeat (first | refine blk_drewN ?_ _ | refine blk_drew ?_ | refine blk_alloc ?_ _)); exact BK246.out)) : gb251 ≠ gb246)); have n9_ := Aside0.mk ((by rw [hg]; exact Nat.ne_of_lt (blk_lt (g := gb247) (o := .cells #[.int .i64 0, .int .i64 0] 25 (0, 0)) (by (with_reducible repeat (first | refine blk_drewN ?_ _ | refine blk_drew ?_ | refine blk_alloc ?_ _)); refine blk_far ?_ NB247_248.out _; (with_reducible repeat (first | refine blk_drewN ?_ _ | refine blk_drew ?_ | refine blk_alloc ?_ _)); refine blk_far ?_ NB247_248.out _; (with_reducible repeat (first | refine blk_drewN ?_ _ | refine blk_drew ?_ | refine blk_alloc ?_ _)); exact BK247.out)) : gb247 ≠ gb251)); have n10_ := Aside0.mk ((by rw [hg]; exact Nat.ne_of_gt (blk_lt (g := gb247) (o := .cells #[.int .i64 0, .int .i64 0] 25 (0, 0)) (by (with_reducible repeat (first | refine blk_drewN ?_ _ | refine blk_drew ?_ | refine blk_alloc ?_ _)); refine blk_far ?_ NB247_248.out _; (with_reducible repeat (first | refine blk_drewN ?_ _ | refine blk_drew ?_ | refine blk_alloc ?_ _)); refine blk_far ?_ NB247_248.out _; (with_reducible repeat (first | refine blk_drewN ?_ _ | refine blk_drew ?_ | refine blk_alloc ?_ _)); exact BK247.out)) : gb251 ≠ gb247)); have n11_ := Aside0.mk ((by rw [hg]; exact Nat.ne_of_lt (blk_lt (g := gb248) (o := .cells #[.int .i64 0, .slice none 0 0] 69 (0, 0)) (by (with_reducible repeat (first | refine blk_drewN ?_ _ | refine blk_drew ?_ | refine blk_alloc ?_ _)); refine blk_put (cs := #[.int .i64 0, .slice none 0 0]) ?_ 1 _ rfl; (with_reducible repeat (first | refine blk_drewN ?_ _ | refine blk_drew ?_ | refine blk_alloc ?_ _)); refine blk_put (cs := #[.int .i64 0, .slice none 0 0]) ?_ 0 _ rfl; (with_reducible repeat (first | refine blk_drewN ?_ _ | refine blk_drew ?_ | refine blk_alloc ?_ _)); exact BK248.out)) : gb248 ≠ gb251)); have n12_ := Aside0.mk ((by rw [hg]; exact Nat.ne_of_gt (blk_lt (g := gb248) (o := .cells #[.int .i64 0, .slice none 0 0] 69 (0, 0)) (by (with_reducible repeat (first | refine blk_drewN ?_ _ | refine blk_drew ?_ | refine blk_alloc ?_ _)); refine blk_put (cs := #[.int .i64 0, .slice none 0 0]) ?_ 1 _ rfl; (with_reducible repeat (first | refine blk_drewN ?_ _ | refine blk_drew ?_ | refine blk_alloc ?_ _)); refine blk_put (cs := #[.int .i64 0, .slice none 0 0]) ?_ 0 _ rfl; (with_reducible repeat (first | refine blk_drewN ?_ _ | refine blk_drew ?_ | refine blk_alloc ?_ _)); exact BK248.out)) : gb251 ≠ gb248)); clear BK246; clear BK247; clear BK248; clear HB; have BK246 := n0_; have BK247 := n1_; have BK248 := n2_; have HB := n3_; have BK251 := n4_; have GW251 := n5_; have GE251 := n6_; have NB246_251 := n7_; have NB251_246 := n8_; have NB247_251 := n9_; have NB251_247 := n10_; have NB248_251 := n11_; have NB251_248 := n12_; clear n0_ n1_ n2_ n3_ n4_ n5_ n6_ n7_ n8_ n9_ n10_ n11_ n12_; clear hb hbox hg; have hnb24 := NB251_246.out; have hnc24 := NB246_251.out; have hnb25 := NB251_247.out; have hnc25 := NB247_251.out; have hnb26 := NB251_248.out; have hnc26 := NB248_251.out; have hcz27_0 : w23.cell? ⟨gb251, 0, none⟩ = some (.int .i64 0) := (blk_cell BK251.out 0).trans rfl; have hcz27_1 : w23.cell? ⟨gb251, 1, none⟩ = some (.slice none 0 0) := (blk_cell BK251.out 1).trans rfl; have hfz27_0 := blk_frozen BK251.out 0; have hfz27_1 := blk_frozen BK251.out 1))
    go_loopg [7] k (fun kq v7 w' => ∃ (x7_1 : Int) (x247000_1 : Int) (x248000_1 : Int) (x248001_1 : Int) (x252000_1 : Int) (x252001_1 : List ByteArray) (u252001 : Value), v7 = .int .i64 x7_1 ∧ Aside0 (posthouseref3_ReplyOf.l0 kq l0 x7_1 0 x252000_1 x252001_1 = some (r1, r2, r3, r4, r5)) ∧ Aside0 (kq ≤ k) ∧ Aside0 (Kd.R Kd.string 9 w' w.heap.size (fun _ => True) u252001 x252001_1) ∧ Aside0 (w'.heap[gb246]? = some (.cells #[.int .i64 x247000_1, (.slice none 0 0)] 69 (0, 0))) ∧ Aside0 (w'.heap[gb247]? = some (.cells #[.int .i64 x248000_1, .int .i64 x248001_1] 25 (0, 0))) ∧ Aside0 (w'.heap[gb248]? = some (.cells #[.int .i64 0, (.slice none 0 0)] 69 (0, 0))) ∧ Aside0 (w'.heap[gb251]? = some (.cells #[.int .i64 x252000_1, u252001] 69 (0, 0))) ∧ Aside0 (Below w.heap.size w w'))
    case atStart => exact ⟨(0), (0), (0), (0), (0), (([] : List ByteArray)), (.slice none 0 0), (by first | rfl | (simp; done) | (simp [*]; done)), H', ⟨Nat.le_refl _⟩, ⟨by first | exact Kd.R_nil _ _ _ _ _ | exact Kd.N_nil _ _ _ _ _ | exact Kd.V_nil _ _ _ _ _ | exact Kd.Q_nil _ _ _ _ _ | exact Kd.S_nil _ _ _ _ _⟩, ⟨by (with_reducible repeat (first | refine blk_drewN ?_ _ | refine blk_drew ?_ | refine blk_alloc ?_ _)); refine blk_far ?_ NB246_251.out _; (with_reducible repeat (first | refine blk_drewN ?_ _ | refine blk_drew ?_ | refine blk_alloc ?_ _)); refine blk_far ?_ NB246_251.out _; (with_reducible repeat (first | refine blk_drewN ?_ _ | refine blk_drew ?_ | refine blk_alloc ?_ _)); exact BK246.out⟩, ⟨by (with_reducible repeat (first | refine blk_drewN ?_ _ | refine blk_drew ?_ | refine blk_alloc ?_ _)); refine blk_far ?_ NB247_251.out _; (with_reducible repeat (first | refine blk_drewN ?_ _ | refine blk_drew ?_ | refine blk_alloc ?_ _)); refine blk_far ?_ NB247_251.out _; (with_reducible repeat (first | refine blk_drewN ?_ _ | refine blk_drew ?_ | refine blk_alloc ?_ _)); exact BK247.out⟩, ⟨by (with_reducible repeat (first | refine blk_drewN ?_ _ | refine blk_drew ?_ | refine blk_alloc ?_ _)); refine blk_far ?_ NB248_251.out _; (with_reducible repeat (first | refine blk_drewN ?_ _ | refine blk_drew ?_ | refine blk_alloc ?_ _)); refine blk_far ?_ NB248_251.out _; (with_reducible repeat (first | refine blk_drewN ?_ _ | refine blk_drew ?_ | refine blk_alloc ?_ _)); exact BK248.out⟩, ⟨by (with_reducible repeat (first | refine blk_drewN ?_ _ | refine blk_drew ?_ | refine blk_alloc ?_ _)); refine blk_put (cs := #[.int .i64 0, .slice none 0 0]) ?_ 1 _ rfl; (with_reducible repeat (first | refine blk_drewN ?_ _ | refine blk_drew ?_ | refine blk_alloc ?_ _)); refine blk_put (cs := #[.int .i64 0, .slice none 0 0]) ?_ 0 _ rfl; (with_reducible repeat (first | refine blk_drewN ?_ _ | refine blk_drew ?_ | refine blk_alloc ?_ _)); exact BK251.out⟩, ⟨by repeat (first | (with_reducible first | exact HB.out | apply below_alloc | apply pw_below_drewN | apply below_drew1 | refine below_set ?_ GE246.out | refine below_set ?_ GE247.out | refine below_set ?_ GE248.out | refine below_set ?_ GE251.out) | exact HB.out)⟩⟩
    case round =>
      clear H'
      try clear c2
      try clear c2b0
      try clear c2b1
      try clear p2
      try clear c3
      try clear c5
      try clear c7
      try clear c8
      try clear c20
      try clear c21
      try clear c24
      try clear c25
      try clear c26
      try clear hcz22_0
      try clear hcz22_1
      try clear hcz27_0
      try clear hcz27_1
      try clear hcz9_0
      try clear hcz9_1
      try clear hfz22_0
      try clear hfz22_1
      try clear hfz27_0
      try clear hfz27_1
      try clear hfz9_0
      try clear hfz9_1
      obtain ⟨x7_1, x247000_1, x248000_1, x248001_1, x252000_1, x252001_1, u252001, rfl, HA, HK1, HO_252001, BK246, BK247, BK248, BK251, HB⟩ := hrel
      cases gk with
      | zero => exact absurd HA.out (by simp [posthouseref3_ReplyOf.l0])
      | succ k1 =>
        have H := HA.out
        clear HA
        simp only [posthouseref3_ReplyOf.l0] at H
        by_cases c28 : x7_1 < (l0.length : Int)
        · rw [if_pos c28] at H
          have c28b0 : decide (x7_1 < (l0.length : Int)) = true := decide_eq_true c28
          clear c28
          by_cases c29 : 0 ≤ x7_1
          · rw [if_pos c29] at H
            have c29b0 : decide (0 ≤ x7_1) = true := decide_eq_true c29
            clear c29
            by_cases c30 : x7_1 = 20
            · rw [if_pos c30] at H
              have c30b0 : (x7_1 == 20) = true := beq_iff_eq.mpr c30
              have c30b1 : (x7_1 != 20) = false := bne_eq_false_iff_eq.mpr c30
              clear c30
              replace H := Option.bind_eq_some_iff.mp H
              obtain ⟨⟨t255, t256⟩, A310, H⟩ := H
              replace H : (some (0, ([] : List ByteArray), 0, t255, t256)) = some (r1, r2, r3, r4, r5) := H
              have A31 := Aside0.mk A310
              clear A310
              simp only [Option.some.injEq, Prod.mk.injEq] at H
              obtain ⟨rfl, rfl, rfl, rfl, rfl⟩ := H
              have p254 : 0 ≤ (x7_1 : Int) := of_decide_eq_true (by first | (with_reducible assumption) | assumption)
              have q254 : x7_1 < (l0.length : Int) := of_decide_eq_true (by first | (with_reducible assumption) | assumption)
              obtain ⟨ad254, e254, hx254_0⟩ := Kd.at_string HR0.out x7_1 p254 q254
              cases e254
              replace hx254_0 := (HB.out.cell (World.block_lt_of_cell? w _ hx254_0)).trans hx254_0
              replace p254 := eq_true p254
              replace q254 := eq_true q254
              try go_wp2
              have n0_ := Aside0.mk (Kd.R_drew HO_252001.out)
              have n1_ := Aside0.mk (blk_drew BK246.out)
              have n2_ := Aside0.mk (blk_drew BK247.out)
              have n3_ := Aside0.mk (blk_drew BK248.out)
              have n4_ := Aside0.mk (blk_drew BK251.out)
              have n5_ := Aside0.mk (below_drew1 HB.out)
              clear HO_252001
              clear BK246
              clear BK247
              clear BK248
              clear BK251
              clear HB
              have HO_252001 := n0_
              have BK246 := n1_
              have BK247 := n2_
              have BK248 := n3_
              have BK251 := n4_
              have HB := n5_
              clear n0_ n1_ n2_ n3_ n4_ n5_
              refine start_ (n := 6) (S := fun w' => w'.cell? ⟨gb248, 0, none⟩ = some (.int .i64 0) ∧ w'.cell? ⟨gb248, 1, none⟩ = some (.slice none 0 0)) (ds := []) #[false, false, false, false, false, false] (by kernel_rfl) rfl rfl ⟨(blk_cell BK248.out 0).trans rfl, (blk_cell BK248.out 1).trans rfl⟩ (fun hHeld => ?_)
              generalize wr.drew = w32 at HO_252001 BK246 BK247 BK248 BK251 HB hHeld ⊢
              refine pure_ (i := 1) (N := some 30) (v := ?_) (a' := ?_) #[false, true, false, false, false, false] rfl rfl (by kernel_rfl) (fun _ _ _ h => h) (Or.inl ⟨by rfl, ?_⟩) ?_ ?_
              rotate_left
              · intro w'
                go_simp
                with_reducible rfl
              rotate_left
              · simp only [Act.put, List.setIfInBounds_toArray, List.set_cons_zero, List.set_cons_succ, i64_w, i32_w]
                rfl
              refine take_ (i := 0) (N := some 29) (v := ?_) (a' := ?_) #[true, true, false, false, false, false] rfl rfl (by kernel_rfl) (fun _ _ _ h => h) (Or.inl ⟨by rfl, ?_⟩) hHeld ?_ ?_
              rotate_left
              · rintro w' ⟨s0, s1⟩
                go_simp
                with_reducible rfl
              rotate_left
              · simp only [Act.put, List.setIfInBounds_toArray, List.set_cons_zero, List.set_cons_succ, i64_w, i32_w]
                rfl
              refine one_ (i := 2) (N := some 31) #[true, true, true, false, false, false] rfl rfl (by kernel_rfl) (by decide) (fun K hK => ?_)
              refine goes_ Tryd.func31 (by kernel_rfl) rfl #[.int .i64 2, .int .i64 x7_1] (by rfl) rfl rfl (by (try simp only [List.map_toArray, List.map_cons, List.map_nil]); first | done | rfl | (simp only [List.length_drop, List.length_take]; rfl)) ?_
              with_reducible refine (posthouseref3_At.calls 2 x7_1 t255 t256 _ A31.out).mono ?_
              rintro e w33 ⟨rfl, hb⟩
              refine ⟨_, rfl, ?_⟩
              have n0_ := Aside0.mk (Kd.R_below (by (with_reducible repeat (first | apply Kd.R_alloc | apply Kd.R_drewN | apply Kd.R_drew)); exact HO_252001.out) hb)
              have n1_ := Aside0.mk (blk_below (g := gb246) (o := .cells #[.int .i64 x247000_1, .slice none 0 0] 69 (0, 0)) (by (with_reducible repeat (first | refine blk_drewN ?_ _ | refine blk_drew ?_ | refine blk_alloc ?_ _)); exact BK246.out) hb)
              have n2_ := Aside0.mk (blk_below (g := gb247) (o := .cells #[.int .i64 x248000_1, .int .i64 x248001_1] 25 (0, 0)) (by (with_reducible repeat (first | refine blk_drewN ?_ _ | refine blk_drew ?_ | refine blk_alloc ?_ _)); exact BK247.out) hb)
              have n3_ := Aside0.mk (blk_below (g := gb248) (o := .cells #[.int .i64 0, .slice none 0 0] 69 (0, 0)) (by (with_reducible repeat (first | refine blk_drewN ?_ _ | refine blk_drew ?_ | refine blk_alloc ?_ _)); exact BK248.out) hb)
              have n4_ := Aside0.mk (blk_below (g := gb251) (o := .cells #[.int .i64 x252000_1, u252001] 69 (0, 0)) (by (with_reducible repeat (first | refine blk_drewN ?_ _ | refine blk_drew ?_ | refine blk_alloc ?_ _)); exact BK251.out) hb)
              have n5_ := Aside0.mk (below_step (by repeat (first | (with_reducible first | exact HB.out | apply below_alloc | apply pw_below_drewN | apply below_drew1 | refine below_set ?_ GE246.out | refine below_set ?_ GE247.out | refine below_set ?_ GE248.out | refine below_set ?_ GE251.out) | exact HB.out)) hb)
              clear HO_252001
              clear BK246
              clear BK247
              clear BK248
              clear BK251
              clear HB
              have HO_252001 := n0_
              have BK246 := n1_
              have BK247 := n2_
              have BK248 := n3_
              have BK251 := n4_
              have HB := n5_
              clear n0_ n1_ n2_ n3_ n4_ n5_
              (try clear hb)
              (try clear hb2)
              (try clear hk)
              (try clear hi)
              refine hK.out _ _ ⟨(blk_cell BK248.out 0).trans rfl, (blk_cell BK248.out 1).trans rfl⟩ (fun hHeld => ?_)
              clear hK K
              refine norm_ (a' := ?_) ?_ ?_
              rotate_left
              · show Act.put _ (some 31) _ = _
                simp only [Act.put, List.setIfInBounds_toArray, List.set_cons_zero, List.set_cons_succ, i64_w, i32_w]
                rfl
              refine one_ (i := 3) (N := none) #[true, true, true, true, false, false] rfl rfl (by kernel_rfl) (by decide) (fun K hK => ?_)
              have hs34 : w33.cell? ⟨gb246, 0, none⟩ = some (.int .i64 x247000_1) := (blk_cell BK246.out 0).trans rfl
              have hfs34 := blk_frozen BK246.out 0
              have hns34_1 := NB247_246.out
              have hns34_2 := NB248_246.out
              have hns34_3 := NB251_246.out
              have hms34_1 := NB246_247.out
              have hms34_2 := NB246_248.out
              have hms34_3 := NB246_251.out
              have hs35 : w33.cell? ⟨gb246, 1, none⟩ = some (.slice none 0 0) := (blk_cell BK246.out 1).trans rfl
              have hfs35 := blk_frozen BK246.out 1
              have hns35_1 := NB247_246.out
              have hns35_2 := NB248_246.out
              have hns35_3 := NB251_246.out
              have hms35_1 := NB246_247.out
              have hms35_2 := NB246_248.out
              have hms35_3 := NB246_251.out
              refine skip_ (w1 := ?_) (by rfl) rfl ?_ ?_
              rotate_left
              · go_simp
                rfl
              refine hK.out _ _ ⟨((cell_far (p := ⟨gb246, _, none⟩) NB248_246.out _).trans (((cell_far (p := ⟨gb246, _, none⟩) NB248_246.out _).trans (hHeld.1)))), ((cell_far (p := ⟨gb246, _, none⟩) NB248_246.out _).trans (((cell_far (p := ⟨gb246, _, none⟩) NB248_246.out _).trans (hHeld.2))))⟩ (fun hHeld => ?_)
              clear hK K
              refine pure_ (i := 4) (N := some 3) (v := ?_) (a' := ?_) #[true, true, true, true, true, false] rfl rfl (by kernel_rfl) (fun _ _ _ h => h) (Or.inl ⟨by rfl, ?_⟩) ?_ ?_
              rotate_left
              · intro w'
                go_simp
                with_reducible rfl
              rotate_left
              · simp only [Act.put, List.setIfInBounds_toArray, List.set_cons_zero, List.set_cons_succ, i64_w, i32_w]
                rfl
              refine one_ (i := 5) (N := none) #[true, true, true, true, true, true] rfl rfl (by kernel_rfl) (by decide) (fun K hK => ?_)
              have hs36 : w33.cell? ⟨gb247, 0, none⟩ = some (.int .i64 x248000_1) := (blk_cell BK247.out 0).trans rfl
              have hfs36 := blk_frozen BK247.out 0
              have hns36_0 := NB246_247.out
              have hns36_2 := NB248_247.out
              have hns36_3 := NB251_247.out
              have hms36_0 := NB247_246.out
              have hms36_2 := NB247_248.out
              have hms36_3 := NB247_251.out
              have hs37 : w33.cell? ⟨gb247, 1, none⟩ = some (.int .i64 x248001_1) := (blk_cell BK247.out 1).trans rfl
              have hfs37 := blk_frozen BK247.out 1
              have hns37_0 := NB246_247.out
              have hns37_2 := NB248_247.out
              have hns37_3 := NB251_247.out
              have hms37_0 := NB247_246.out
              have hms37_2 := NB247_248.out
              have hms37_3 := NB247_251.out
              refine skip_ (w1 := ?_) (by rfl) rfl ?_ ?_
              rotate_left
              · go_simp
                rfl
              refine hK.out _ _ ⟨((cell_far (p := ⟨gb247, _, none⟩) NB248_247.out _).trans (((cell_far (p := ⟨gb247, _, none⟩) NB248_247.out _).trans (hHeld.1)))), ((cell_far (p := ⟨gb247, _, none⟩) NB248_247.out _).trans (((cell_far (p := ⟨gb247, _, none⟩) NB248_247.out _).trans (hHeld.2))))⟩ (fun hHeld => ?_)
              clear hK K
              refine done_ (by kernel_rfl) ?_
              try go_wp2
              refine bodyPost_ret (results_list (rs := [.cell 2 69, .tmp 3, .cell 4 25]) rfl (by simp) (.cell gb246 69 #[.int .i64 0, .slice none 0 0] (0, 0) _ rfl (by (with_reducible repeat (first | refine blk_drewN ?_ _ | refine blk_drew ?_ | refine blk_alloc ?_ _)); refine blk_far ?_ NB246_247.out _; (with_reducible repeat (first | refine blk_drewN ?_ _ | refine blk_drew ?_ | refine blk_alloc ?_ _)); refine blk_far ?_ NB246_247.out _; (with_reducible repeat (first | refine blk_drewN ?_ _ | refine blk_drew ?_ | refine blk_alloc ?_ _)); refine blk_put (cs := #[.int .i64 0, .slice none 0 0]) ?_ 1 _ rfl; (with_reducible repeat (first | refine blk_drewN ?_ _ | refine blk_drew ?_ | refine blk_alloc ?_ _)); refine blk_put (cs := #[.int .i64 x247000_1, .slice none 0 0]) ?_ 0 _ rfl; (with_reducible repeat (first | refine blk_drewN ?_ _ | refine blk_drew ?_ | refine blk_alloc ?_ _)); exact BK246.out) Tryd.underlying69 rfl (by kernel_rfl) (.tmp (.cell gb247 25 #[.int .i64 t255, .int .i64 t256] (0, 0) _ rfl (by (with_reducible repeat (first | refine blk_drewN ?_ _ | refine blk_drew ?_ | refine blk_alloc ?_ _)); refine blk_put (cs := #[.int .i64 t255, .int .i64 x248001_1]) ?_ 1 _ rfl; (with_reducible repeat (first | refine blk_drewN ?_ _ | refine blk_drew ?_ | refine blk_alloc ?_ _)); refine blk_put (cs := #[.int .i64 x248000_1, .int .i64 x248001_1]) ?_ 0 _ rfl; (with_reducible repeat (first | refine blk_drewN ?_ _ | refine blk_drew ?_ | refine blk_alloc ?_ _)); refine blk_far ?_ NB247_246.out _; (with_reducible repeat (first | refine blk_drewN ?_ _ | refine blk_drew ?_ | refine blk_alloc ?_ _)); refine blk_far ?_ NB247_246.out _; (with_reducible repeat (first | refine blk_drewN ?_ _ | refine blk_drew ?_ | refine blk_alloc ?_ _)); exact BK247.out) Tryd.underlying25 rfl (by kernel_rfl) .nil)))) rfl ?_
              exact ⟨_, by first | rfl | (simp [errW_none, errW_some] <;> rfl) | (simp [*, errW_none, errW_some] <;> rfl), by first | exact Kd.R_nil _ _ _ _ _ | exact Kd.N_nil _ _ _ _ _ | exact Kd.V_nil _ _ _ _ _ | exact Kd.Q_nil _ _ _ _ _ | exact Kd.S_nil _ _ _ _ _, by repeat (first | (with_reducible first | exact HB.out | apply below_alloc | apply pw_below_drewN | apply below_drew1 | refine below_set ?_ GE246.out | refine below_set ?_ GE247.out | refine below_set ?_ GE248.out | refine below_set ?_ GE251.out) | exact HB.out)⟩
            · rw [if_neg c30] at H
              have c30b0 : (x7_1 == 20) = false := beq_eq_false_iff_ne.mpr c30
              have c30b1 : (x7_1 != 20) = true := bne_iff_ne.mpr c30
              have HC38 := Aside0.mk H
              clear H
              have p254 : 0 ≤ (x7_1 : Int) := of_decide_eq_true (by first | (with_reducible assumption) | assumption)
              have q254 : x7_1 < (l0.length : Int) := of_decide_eq_true (by first | (with_reducible assumption) | assumption)
              obtain ⟨ad254, e254, hx254_0⟩ := Kd.at_string HR0.out x7_1 p254 q254
              cases e254
              replace hx254_0 := (HB.out.cell (World.block_lt_of_cell? w _ hx254_0)).trans hx254_0
              replace p254 := eq_true p254
              replace q254 := eq_true q254
              go_upto_region 12 with (fail)
              go_cut [49] (fun v49 wc => ∃ (kq : Nat) (x49_37 : Bool), v49 = .bool x49_37 ∧ Aside0 (posthouseref3_ReplyOf.j1 kq l0 x7_1 (rdOf ByteArray.empty l0 x7_1) (-1) x49_37 0 x252000_1 x252001_1 = some (r1, r2, r3, r4, r5)) ∧ Aside0 (kq ≤ k1) ∧ Aside0 (Kd.R Kd.string 9 wc w.heap.size (fun _ => True) u252001 x252001_1) ∧ Aside0 (wc.heap[gb246]? = some (.cells #[.int .i64 x247000_1, (.slice none 0 0)] 69 (0, 0))) ∧ Aside0 (wc.heap[gb247]? = some (.cells #[.int .i64 x248000_1, .int .i64 x248001_1] 25 (0, 0))) ∧ Aside0 (wc.heap[gb248]? = some (.cells #[.int .i64 0, (.slice none 0 0)] 69 (0, 0))) ∧ Aside0 (wc.heap[gb251]? = some (.cells #[.int .i64 x252000_1, u252001] 69 (0, 0))) ∧ Aside0 (Below w.heap.size w wc))
              case first =>
                have H := HC38.out
                clear HC38
                by_cases c39 : ((rdOf ByteArray.empty l0 x7_1).size : Int) ≥ 4
                · rw [if_pos c39] at H
                  have c39b0 : decide (4 ≤ ((rdOf ByteArray.empty l0 x7_1).size : Int)) = true := decide_eq_true c39
                  have c39b1 : decide (4 ≤ (rdOf ByteArray.empty l0 x7_1).size) = true := decide_eq_true (by omega)
                  clear c39
                  (first | rw [c39b0] | (simp only [i64_w, i32_w]; rw [c39b0]) | skip)
                  by_cases c40 : 3 < ((rdOf ByteArray.empty l0 x7_1).size : Int)
                  · rw [if_pos c40] at H
                    have c40b0 : decide (3 < ((rdOf ByteArray.empty l0 x7_1).size : Int)) = true := decide_eq_true c40
                    have c40b1 : decide (3 < (rdOf ByteArray.empty l0 x7_1).size) = true := decide_eq_true (by omega)
                    clear c40
                    by_cases c42 : (bt (rdOf ByteArray.empty l0 x7_1) 3) = 45
                    · rw [if_pos c42] at H
                      have c42b0 : ((bt (rdOf ByteArray.empty l0 x7_1) 3) == 45) = true := beq_iff_eq.mpr c42
                      have c42b1 : ((bt (rdOf ByteArray.empty l0 x7_1) 3) != 45) = false := bne_eq_false_iff_eq.mpr c42
                      clear c42
                      replace H := Option.bind_eq_some_iff.mp H
                      obtain ⟨t257, A430, H⟩ := H
                      replace H : (posthouseref3_ReplyOf.j1 k1 l0 x7_1 (rdOf ByteArray.empty l0 x7_1) (-1) (!t257) 0 x252000_1 x252001_1) = some (r1, r2, r3, r4, r5) := H
                      have A43 := Aside0.mk A430
                      clear A430
                      have H' := Aside0.mk H
                      clear H
                      have p41 : 0 ≤ (3 : Int) := (by omega)
                      have q41 : 3 < (rdOf ByteArray.empty l0 x7_1).size := (by have : (3 : Int) < ((rdOf ByteArray.empty l0 x7_1).size : Int) := of_decide_eq_true (by first | (with_reducible assumption) | assumption); omega)
                      have hx41 : ∀ h : 3 < (rdOf ByteArray.empty l0 x7_1).size, (((rdOf ByteArray.empty l0 x7_1)[3]'h).toNat : Int) = bt (rdOf ByteArray.empty l0 x7_1) 3 := bt_at (rdOf ByteArray.empty l0 x7_1) 3
                      clear p41
                      have qi41 : (3 < ((rdOf ByteArray.empty l0 x7_1).size : Int)) = True := eq_true (of_decide_eq_true (by first | (with_reducible assumption) | assumption))
                      replace q41 := eq_true q41
                      go_wp2_with (first | (go_at_call 90; (with_reducible refine (posthouseref3_ends.calls k1 (rdOf ByteArray.empty l0 x7_1) t257 _ A43.out).mono ?_); rintro e w' ⟨rfl, ⟨nd, rfl⟩⟩))
                      go_meet
                      case rel => exact ⟨_, (!t257), (by first | rfl | (simp; done) | (simp [*]; done)), H', ⟨by have := HK1.out; first | omega | exact Nat.le_refl _⟩, ⟨by (with_reducible repeat (first | apply Kd.R_alloc | apply Kd.R_drewN | apply Kd.R_drew)); exact HO_252001.out⟩, ⟨by (with_reducible repeat (first | refine blk_drewN ?_ _ | refine blk_drew ?_ | refine blk_alloc ?_ _)); exact BK246.out⟩, ⟨by (with_reducible repeat (first | refine blk_drewN ?_ _ | refine blk_drew ?_ | refine blk_alloc ?_ _)); exact BK247.out⟩, ⟨by (with_reducible repeat (first | refine blk_drewN ?_ _ | refine blk_drew ?_ | refine blk_alloc ?_ _)); exact BK248.out⟩, ⟨by (with_reducible repeat (first | refine blk_drewN ?_ _ | refine blk_drew ?_ | refine blk_alloc ?_ _)); exact BK251.out⟩, ⟨by repeat (first | (with_reducible first | exact HB.out | apply below_alloc | apply pw_below_drewN | apply below_drew1 | refine below_set ?_ GE246.out | refine below_set ?_ GE247.out | refine below_set ?_ GE248.out | refine below_set ?_ GE251.out) | exact HB.out)⟩⟩
                    · rw [if_neg c42] at H
                      have c42b0 : ((bt (rdOf ByteArray.empty l0 x7_1) 3) == 45) = false := beq_eq_false_iff_ne.mpr c42
                      have c42b1 : ((bt (rdOf ByteArray.empty l0 x7_1) 3) != 45) = true := bne_iff_ne.mpr c42
                      by_cases c45 : (bt (rdOf ByteArray.empty l0 x7_1) 3) = 32
                      · rw [if_pos c45] at H
                        have c45b0 : ((bt (rdOf ByteArray.empty l0 x7_1) 3) == 32) = true := beq_iff_eq.mpr c45
                        have c45b1 : ((bt (rdOf ByteArray.empty l0 x7_1) 3) != 32) = false := bne_eq_false_iff_eq.mpr c45
                        clear c45
                        replace H := Option.bind_eq_some_iff.mp H
                        obtain ⟨t258, A460, H⟩ := H
                        replace H : (posthouseref3_ReplyOf.j1 k1 l0 x7_1 (rdOf ByteArray.empty l0 x7_1) (-1) (!t258) 0 x252000_1 x252001_1) = some (r1, r2, r3, r4, r5) := H
                        have A46 := Aside0.mk A460
                        clear A460
                        have H' := Aside0.mk H
                        clear H
                        have p41 : 0 ≤ (3 : Int) := (by omega)
                        have q41 : 3 < (rdOf ByteArray.empty l0 x7_1).size := (by have : (3 : Int) < ((rdOf ByteArray.empty l0 x7_1).size : Int) := of_decide_eq_true (by first | (with_reducible assumption) | assumption); omega)
                        have hx41 : ∀ h : 3 < (rdOf ByteArray.empty l0 x7_1).size, (((rdOf ByteArray.empty l0 x7_1)[3]'h).toNat : Int) = bt (rdOf ByteArray.empty l0 x7_1) 3 := bt_at (rdOf ByteArray.empty l0 x7_1) 3
                        clear p41
                        have qi41 : (3 < ((rdOf ByteArray.empty l0 x7_1).size : Int)) = True := eq_true (of_decide_eq_true (by first | (with_reducible assumption) | assumption))
                        replace q41 := eq_true q41
                        have p44 : 0 ≤ (3 : Int) := (by omega)
                        have q44 : 3 < (rdOf ByteArray.empty l0 x7_1).size := (by have : (3 : Int) < ((rdOf ByteArray.empty l0 x7_1).size : Int) := of_decide_eq_true (by first | (with_reducible assumption) | assumption); omega)
                        have hx44 : ∀ h : 3 < (rdOf ByteArray.empty l0 x7_1).size, (((rdOf ByteArray.empty l0 x7_1)[3]'h).toNat : Int) = bt (rdOf ByteArray.empty l0 x7_1) 3 := bt_at (rdOf ByteArray.empty l0 x7_1) 3
                        clear p44
                        have qi44 : (3 < ((rdOf ByteArray.empty l0 x7_1).size : Int)) = True := eq_true (of_decide_eq_true (by first | (with_reducible assumption) | assumption))
                        replace q44 := eq_true q44
                        go_wp2_with (first | (go_at_call 90; (with_reducible refine (posthouseref3_ends.calls k1 (rdOf ByteArray.empty l0 x7_1) t258 _ A46.out).mono ?_); rintro e w' ⟨rfl, ⟨nd, rfl⟩⟩))
                        go_meet
                        case rel => exact ⟨_, (!t258), (by first | rfl | (simp; done) | (simp [*]; done)), H', ⟨by have := HK1.out; first | omega | exact Nat.le_refl _⟩, ⟨by (with_reducible repeat (first | apply Kd.R_alloc | apply Kd.R_drewN | apply Kd.R_drew)); exact HO_252001.out⟩, ⟨by (with_reducible repeat (first | refine blk_drewN ?_ _ | refine blk_drew ?_ | refine blk_alloc ?_ _)); exact BK246.out⟩, ⟨by (with_reducible repeat (first | refine blk_drewN ?_ _ | refine blk_drew ?_ | refine blk_alloc ?_ _)); exact BK247.out⟩, ⟨by (with_reducible repeat (first | refine blk_drewN ?_ _ | refine blk_drew ?_ | refine blk_alloc ?_ _)); exact BK248.out⟩, ⟨by (with_reducible repeat (first | refine blk_drewN ?_ _ | refine blk_drew ?_ | refine blk_alloc ?_ _)); exact BK251.out⟩, ⟨by repeat (first | (with_reducible first | exact HB.out | apply below_alloc | apply pw_below_drewN | apply below_drew1 | refine below_set ?_ GE246.out | refine below_set ?_ GE247.out | refine below_set ?_ GE248.out | refine below_set ?_ GE251.out) | exact HB.out)⟩⟩
                      · rw [if_neg c45] at H
                        have c45b0 : ((bt (rdOf ByteArray.empty l0 x7_1) 3) == 32) = false := beq_eq_false_iff_ne.mpr c45
                        have c45b1 : ((bt (rdOf ByteArray.empty l0 x7_1) 3) != 32) = true := bne_iff_ne.mpr c45
                        have H' := Aside0.mk H
                        clear H
                        have p41 : 0 ≤ (3 : Int) := (by omega)
                        have q41 : 3 < (rdOf ByteArray.empty l0 x7_1).size := (by have : (3 : Int) < ((rdOf ByteArray.empty l0 x7_1).size : Int) := of_decide_eq_true (by first | (with_reducible assumption) | assumption); omega)
                        have hx41 : ∀ h : 3 < (rdOf ByteArray.empty l0 x7_1).size, (((rdOf ByteArray.empty l0 x7_1)[3]'h).toNat : Int) = bt (rdOf ByteArray.empty l0 x7_1) 3 := bt_at (rdOf ByteArray.empty l0 x7_1) 3
                        clear p41
                        have qi41 : (3 < ((rdOf ByteArray.empty l0 x7_1).size : Int)) = True := eq_true (of_decide_eq_true (by first | (with_reducible assumption) | assumption))
                        replace q41 := eq_true q41
                        have p44 : 0 ≤ (3 : Int) := (by omega)
                        have q44 : 3 < (rdOf ByteArray.empty l0 x7_1).size := (by have : (3 : Int) < ((rdOf ByteArray.empty l0 x7_1).size : Int) := of_decide_eq_true (by first | (with_reducible assumption) | assumption); omega)
                        have hx44 : ∀ h : 3 < (rdOf ByteArray.empty l0 x7_1).size, (((rdOf ByteArray.empty l0 x7_1)[3]'h).toNat : Int) = bt (rdOf ByteArray.empty l0 x7_1) 3 := bt_at (rdOf ByteArray.empty l0 x7_1) 3
                        clear p44
                        have qi44 : (3 < ((rdOf ByteArray.empty l0 x7_1).size : Int)) = True := eq_true (of_decide_eq_true (by first | (with_reducible assumption) | assumption))
                        replace q44 := eq_true q44
                        go_wp2
                        go_meet
                        case rel => exact ⟨_, (false), (by first | rfl | (simp; done) | (simp [*]; done)), H', ⟨by have := HK1.out; first | omega | exact Nat.le_refl _⟩, ⟨by (with_reducible repeat (first | apply Kd.R_alloc | apply Kd.R_drewN | apply Kd.R_drew)); exact HO_252001.out⟩, ⟨by (with_reducible repeat (first | refine blk_drewN ?_ _ | refine blk_drew ?_ | refine blk_alloc ?_ _)); exact BK246.out⟩, ⟨by (with_reducible repeat (first | refine blk_drewN ?_ _ | refine blk_drew ?_ | refine blk_alloc ?_ _)); exact BK247.out⟩, ⟨by (with_reducible repeat (first | refine blk_drewN ?_ _ | refine blk_drew ?_ | refine blk_alloc ?_ _)); exact BK248.out⟩, ⟨by (with_reducible repeat (first | refine blk_drewN ?_ _ | refine blk_drew ?_ | refine blk_alloc ?_ _)); exact BK251.out⟩, ⟨by repeat (first | (with_reducible first | exact HB.out | apply below_alloc | apply pw_below_drewN | apply below_drew1 | refine below_set ?_ GE246.out | refine below_set ?_ GE247.out | refine below_set ?_ GE248.out | refine below_set ?_ GE251.out) | exact HB.out)⟩⟩
                  · rw [if_neg c40] at H
                    exact absurd H (by simp)
                · rw [if_neg c39] at H
                  have c39b0 : decide (4 ≤ ((rdOf ByteArray.empty l0 x7_1).size : Int)) = false := decide_eq_false c39
                  have c39b1 : decide (4 ≤ (rdOf ByteArray.empty l0 x7_1).size) = false := decide_eq_false (by omega)
                  clear c39
                  (first | rw [c39b0] | (simp only [i64_w, i32_w]; rw [c39b0]) | skip)
                  have H' := Aside0.mk H
                  clear H
                  go_wp2
                  go_meet
                  case rel => exact ⟨_, (false), (by first | rfl | (simp; done) | (simp [*]; done)), H', ⟨by have := HK1.out; first | omega | exact Nat.le_refl _⟩, ⟨by (with_reducible repeat (first | apply Kd.R_alloc | apply Kd.R_drewN | apply Kd.R_drew)); exact HO_252001.out⟩, ⟨by (with_reducible repeat (first | refine blk_drewN ?_ _ | refine blk_drew ?_ | refine blk_alloc ?_ _)); exact BK246.out⟩, ⟨by (with_reducible repeat (first | refine blk_drewN ?_ _ | refine blk_drew ?_ | refine blk_alloc ?_ _)); exact BK247.out⟩, ⟨by (with_reducible repeat (first | refine blk_drewN ?_ _ | refine blk_drew ?_ | refine blk_alloc ?_ _)); exact BK248.out⟩, ⟨by (with_reducible repeat (first | refine blk_drewN ?_ _ | refine blk_drew ?_ | refine blk_alloc ?_ _)); exact BK251.out⟩, ⟨by repeat (first | (with_reducible first | exact HB.out | apply below_alloc | apply pw_below_drewN | apply below_drew1 | refine below_set ?_ GE246.out | refine below_set ?_ GE247.out | refine below_set ?_ GE248.out | refine below_set ?_ GE251.out) | exact HB.out)⟩⟩
              case rest =>
                clear HC38
                try clear c2
                try clear c2b0
                try clear c2b1
                try clear p2
                try clear q2
                try clear hx2
                try clear c3
                try clear c4
                try clear p4
                try clear q4
                try clear hx4
                try clear qi4
                try clear c5
                try clear c7
                try clear c8
                try clear c20
                try clear c21
                try clear c24
                try clear c25
                try clear p25
                try clear q25
                try clear hx25
                try clear c26
                try clear c28
                try clear c28b0
                try clear c29
                try clear c29b0
                try clear c30
                try clear c30b0
                try clear c30b1
                try clear c31
                try clear c39
                try clear c39b0
                try clear c39b1
                try clear c40
                try clear c40b0
                try clear c40b1
                try clear p41
                try clear q41
                try clear hx41
                try clear qi41
                try clear c42
                try clear c42b0
                try clear c42b1
                try clear p44
                try clear q44
                try clear hx44
                try clear qi44
                try clear c45
                try clear c45b0
                try clear c45b1
                try clear hcz22_0
                try clear hcz22_1
                try clear hcz27_0
                try clear hcz27_1
                try clear hcz9_0
                try clear hcz9_1
                try clear hfz22_0
                try clear hfz22_1
                try clear hfz27_0
                try clear hfz27_1
                try clear hfz9_0
                try clear hfz9_1
                try clear hx254_0
                try clear p2
                try clear p254
                try clear p41
                try clear p44
                try clear q254
                try clear q41
                try clear q44
                obtain ⟨kq, x49_37, rfl, HA, HJ37, HO_252001, BK246, BK247, BK248, BK251, HB⟩ := hcut
                cases kq with
                | zero => exact absurd HA.out (by simp [posthouseref3_ReplyOf.j1])
                | succ kj37 =>
                  have H := HA.out
                  clear HA
                  simp only [posthouseref3_ReplyOf.j1] at H
                  have HC47 := Aside0.mk H
                  clear H
                  go_upto_if 49 with (fail)
                  go_cut [9] (fun v9 wc => ∃ (kq : Nat) (x9_46 : Int), v9 = .int .i64 x9_46 ∧ Aside0 (posthouseref3_ReplyOf.j2 kq l0 x7_1 (rdOf ByteArray.empty l0 x7_1) x9_46 0 x252000_1 x252001_1 = some (r1, r2, r3, r4, r5)) ∧ Aside0 (kq ≤ kj37) ∧ Aside0 (Kd.R Kd.string 9 wc w.heap.size (fun _ => True) u252001 x252001_1) ∧ Aside0 (wc.heap[gb246]? = some (.cells #[.int .i64 x247000_1, (.slice none 0 0)] 69 (0, 0))) ∧ Aside0 (wc.heap[gb247]? = some (.cells #[.int .i64 x248000_1, .int .i64 x248001_1] 25 (0, 0))) ∧ Aside0 (wc.heap[gb248]? = some (.cells #[.int .i64 0, (.slice none 0 0)] 69 (0, 0))) ∧ Aside0 (wc.heap[gb251]? = some (.cells #[.int .i64 x252000_1, u252001] 69 (0, 0))) ∧ Aside0 (Below w.heap.size w wc))
                  case first =>
                    have H := HC47.out
                    clear HC47
                    by_cases c48 : x49_37 = true
                    · subst c48
                      have H1 : (if 0 ≤ 3 then (if 3 ≤ ((rdOf ByteArray.empty l0 x7_1).size : Int) then ((posthouseref3_Amount.f kj37 ((rdOf ByteArray.empty l0 x7_1).extract 0 3)).bind fun t259 => (posthouseref3_ReplyOf.j2 kj37 l0 x7_1 (rdOf ByteArray.empty l0 x7_1) t259 0 x252000_1 x252001_1)) else (none)) else (none)) = some (r1, r2, r3, r4, r5) := by rw [if_pos rfl] at H; exact H
                      clear H
                      have H := H1
                      clear H1
                      by_cases c49 : 0 ≤ 3
                      · rw [if_pos c49] at H
                        have c49b0 := eq_true c49
                        have c49b1 : decide (0 ≤ 3) = true := decide_eq_true c49
                        clear c49
                        by_cases c50 : 3 ≤ ((rdOf ByteArray.empty l0 x7_1).size : Int)
                        · rw [if_pos c50] at H
                          have c50b0 := eq_true c50
                          have c50b1 : decide (3 ≤ ((rdOf ByteArray.empty l0 x7_1).size : Int)) = true := decide_eq_true c50
                          clear c50
                          replace H := Option.bind_eq_some_iff.mp H
                          obtain ⟨t259, A510, H⟩ := H
                          replace H : (posthouseref3_ReplyOf.j2 kj37 l0 x7_1 (rdOf ByteArray.empty l0 x7_1) t259 0 x252000_1 x252001_1) = some (r1, r2, r3, r4, r5) := H
                          have A51 := Aside0.mk A510
                          clear A510
                          have H' := Aside0.mk H
                          clear H
                          go_wp2_with (first | ((with_reducible refine gate_callee (f := 95) rfl ?_); refine goesL_ (some 52) rfl rfl Tryd.func95 (by kernel_rfl) rfl #[.string ((rdOf ByteArray.empty l0 x7_1).extract 0 3)] rfl (by (try simp only [List.map_toArray, List.map_cons, List.map_nil]); first | done | rfl | (simp only [List.length_drop, List.length_take]; rfl)) ?_; (with_reducible refine (posthouseref3_Amount.calls kj37 ((rdOf ByteArray.empty l0 x7_1).extract 0 3) t259 _ A51.out).mono ?_); rintro e w' ⟨rfl, ⟨nd, rfl⟩⟩; refine ⟨_, rfl, ?_⟩))
                          go_meet
                          case rel => exact ⟨_, (t259), (by first | rfl | (simp; done) | (simp [*]; done)), H', ⟨by have := HK1.out; have := HJ37.out; first | omega | exact Nat.le_refl _⟩, ⟨by (with_reducible repeat (first | apply Kd.R_alloc | apply Kd.R_drewN | apply Kd.R_drew)); exact HO_252001.out⟩, ⟨by (with_reducible repeat (first | refine blk_drewN ?_ _ | refine blk_drew ?_ | refine blk_alloc ?_ _)); exact BK246.out⟩, ⟨by (with_reducible repeat (first | refine blk_drewN ?_ _ | refine blk_drew ?_ | refine blk_alloc ?_ _)); exact BK247.out⟩, ⟨by (with_reducible repeat (first | refine blk_drewN ?_ _ | refine blk_drew ?_ | refine blk_alloc ?_ _)); exact BK248.out⟩, ⟨by (with_reducible repeat (first | refine blk_drewN ?_ _ | refine blk_drew ?_ | refine blk_alloc ?_ _)); exact BK251.out⟩, ⟨by repeat (first | (with_reducible first | exact HB.out | apply below_alloc | apply pw_below_drewN | apply below_drew1 | refine below_set ?_ GE246.out | refine below_set ?_ GE247.out | refine below_set ?_ GE248.out | refine below_set ?_ GE251.out) | exact HB.out)⟩⟩
                        · rw [if_neg c50] at H
                          exact absurd H (by simp)
                      · rw [if_neg c49] at H
                        exact absurd H (by simp)
                    · replace c48 := Bool.eq_false_iff.mpr c48
                      subst c48
                      have H1 : (posthouseref3_ReplyOf.j2 kj37 l0 x7_1 (rdOf ByteArray.empty l0 x7_1) (-1) 0 x252000_1 x252001_1) = some (r1, r2, r3, r4, r5) := by rw [if_neg (show ¬ (false = true) by decide)] at H; exact H
                      clear H
                      have H := H1
                      clear H1
                      have H' := Aside0.mk H
                      clear H
                      go_wp2
                      go_meet
                      case rel => exact ⟨_, ((-1)), (by first | rfl | (simp; done) | (simp [*]; done)), H', ⟨by have := HK1.out; have := HJ37.out; first | omega | exact Nat.le_refl _⟩, ⟨by (with_reducible repeat (first | apply Kd.R_alloc | apply Kd.R_drewN | apply Kd.R_drew)); exact HO_252001.out⟩, ⟨by (with_reducible repeat (first | refine blk_drewN ?_ _ | refine blk_drew ?_ | refine blk_alloc ?_ _)); exact BK246.out⟩, ⟨by (with_reducible repeat (first | refine blk_drewN ?_ _ | refine blk_drew ?_ | refine blk_alloc ?_ _)); exact BK247.out⟩, ⟨by (with_reducible repeat (first | refine blk_drewN ?_ _ | refine blk_drew ?_ | refine blk_alloc ?_ _)); exact BK248.out⟩, ⟨by (with_reducible repeat (first | refine blk_drewN ?_ _ | refine blk_drew ?_ | refine blk_alloc ?_ _)); exact BK251.out⟩, ⟨by repeat (first | (with_reducible first | exact HB.out | apply below_alloc | apply pw_below_drewN | apply below_drew1 | refine below_set ?_ GE246.out | refine below_set ?_ GE247.out | refine below_set ?_ GE248.out | refine below_set ?_ GE251.out) | exact HB.out)⟩⟩
                  case rest =>
                    clear HC47
                    try clear c2
                    try clear c2b0
                    try clear c2b1
                    try clear p2
                    try clear q2
                    try clear hx2
                    try clear c3
                    try clear c4
                    try clear p4
                    try clear q4
                    try clear hx4
                    try clear qi4
                    try clear c5
                    try clear c7
                    try clear c8
                    try clear c9
                    try clear c20
                    try clear c21
                    try clear c24
                    try clear c25
                    try clear p25
                    try clear q25
                    try clear hx25
                    try clear c26
                    try clear c28
                    try clear c28b0
                    try clear c29
                    try clear c29b0
                    try clear c30
                    try clear c30b0
                    try clear c30b1
                    try clear c31
                    try clear c39
                    try clear c39b0
                    try clear c39b1
                    try clear c40
                    try clear c40b0
                    try clear c40b1
                    try clear p41
                    try clear q41
                    try clear hx41
                    try clear qi41
                    try clear c42
                    try clear c42b0
                    try clear c42b1
                    try clear p44
                    try clear q44
                    try clear hx44
                    try clear qi44
                    try clear c45
                    try clear c45b0
                    try clear c45b1
                    try clear c48
                    try clear c49
                    try clear c49b0
                    try clear c49b1
                    try clear c50
                    try clear c50b0
                    try clear c50b1
                    try clear hcz22_0
                    try clear hcz22_1
                    try clear hcz27_0
                    try clear hcz27_1
                    try clear hcz9_0
                    try clear hcz9_1
                    try clear hfz22_0
                    try clear hfz22_1
                    try clear hfz27_0
                    try clear hfz27_1
                    try clear hfz9_0
                    try clear hfz9_1
                    try clear hx254_0
                    try clear p2
                    try clear p25
                    try clear p254
                    try clear p4
                    try clear p41
                    try clear p44
                    try clear q2
                    try clear q25
                    try clear q254
                    try clear q4
                    try clear q41
                    try clear q44
                    obtain ⟨kq, x9_46, rfl, HA, HJ46, HO_252001, BK246, BK247, BK248, BK251, HB⟩ := hcut
                    cases kq with
                    | zero => exact absurd HA.out (by simp [posthouseref3_ReplyOf.j2])
                    | succ kj46 =>
                      have H := HA.out
                      clear HA
                      simp only [posthouseref3_ReplyOf.j2] at H
                      replace H := Option.bind_eq_some_iff.mp H
                      obtain ⟨t260, A520, H⟩ := H
                      replace H : (if t260 = true then (if ((rdOf ByteArray.empty l0 x7_1).size : Int) > 504 then ((posthouseref3_At.f 1 x7_1).bind fun bt263 => (some (0, ([] : List ByteArray), 0, bt263.1, bt263.2))) else (if x7_1 > 0 then (posthouseref3_ReplyOf.j3 kj46 l0 x7_1 (rdOf ByteArray.empty l0 x7_1) x9_46 (x9_46 != x252000_1) 0 x252000_1 x252001_1) else (posthouseref3_ReplyOf.j3 kj46 l0 x7_1 (rdOf ByteArray.empty l0 x7_1) x9_46 false 0 x252000_1 x252001_1))) else ((posthouseref3_At.f 11 x7_1).bind fun bt261 => (some (0, ([] : List ByteArray), 0, bt261.1, bt261.2)))) = some (r1, r2, r3, r4, r5) := H
                      have A52 := Aside0.mk A520
                      clear A520
                      by_cases c53 : t260 = true
                      · subst c53
                        have H1 : (if ((rdOf ByteArray.empty l0 x7_1).size : Int) > 504 then ((posthouseref3_At.f 1 x7_1).bind fun bt263 => (some (0, ([] : List ByteArray), 0, bt263.1, bt263.2))) else (if x7_1 > 0 then (posthouseref3_ReplyOf.j3 kj46 l0 x7_1 (rdOf ByteArray.empty l0 x7_1) x9_46 (x9_46 != x252000_1) 0 x252000_1 x252001_1) else (posthouseref3_ReplyOf.j3 kj46 l0 x7_1 (rdOf ByteArray.empty l0 x7_1) x9_46 false 0 x252000_1 x252001_1))) = some (r1, r2, r3, r4, r5) := by rw [if_pos rfl] at H; exact H
                        clear H
                        have H := H1
                        clear H1
                        by_cases c54 : ((rdOf ByteArray.empty l0 x7_1).size : Int) > 504
                        · rw [if_pos c54] at H
                          have c54b0 : decide (504 < ((rdOf ByteArray.empty l0 x7_1).size : Int)) = true := decide_eq_true c54
                          have c54b1 : decide (504 < (rdOf ByteArray.empty l0 x7_1).size) = true := decide_eq_true (by omega)
                          clear c54
                          replace H := Option.bind_eq_some_iff.mp H
                          obtain ⟨⟨t263, t264⟩, A550, H⟩ := H
                          replace H : (some (0, ([] : List ByteArray), 0, t263, t264)) = some (r1, r2, r3, r4, r5) := H
                          have A55 := Aside0.mk A550
                          clear A550
                          simp only [Option.some.injEq, Prod.mk.injEq] at H
                          obtain ⟨rfl, rfl, rfl, rfl, rfl⟩ := H
                          try go_wp2_with (first | ((with_reducible refine gate_callee (f := 35) rfl ?_); refine goesL_ (some 54) rfl rfl Tryd.func35 (by kernel_rfl) rfl #[.int .i64 x9_46, .int .i64 200, .int .i64 599] rfl (by (try simp only [List.map_toArray, List.map_cons, List.map_nil]); first | done | rfl | (simp only [List.length_drop, List.length_take]; rfl)) ?_; (with_reducible refine (posthouseref3_In.calls x9_46 200 599 true _ A52.out).mono ?_); rintro e w' ⟨rfl, ⟨nd, rfl⟩⟩; refine ⟨_, rfl, ?_⟩; (try (rw [drewN_self wc]; generalize hq_ : World.drewN wc _ = wc; have n0_ : Aside0 (Kd.R Kd.string 9 wc w.heap.size (fun _ => True) u252001 x252001_1) := ⟨by rw [← hq_]; exact (by (with_reducible repeat (first | apply Kd.R_alloc | apply Kd.R_drewN | apply Kd.R_drew)); exact HO_252001.out)⟩; have n1_ : Aside0 (wc.heap[gb246]? = some (.cells #[.int .i64 x247000_1, .slice none 0 0] 69 (0, 0))) := ⟨by rw [← hq_]; exact (by (with_reducible repeat (first | refine blk_drewN ?_ _ | refine blk_drew ?_ | refine blk_alloc ?_ _)); exact BK246.out)⟩; have n2_ : Aside0 (wc.heap[gb247]? = some (.cells #[.int .i64 x248000_1, .int .i64 x248001_1] 25 (0, 0))) := ⟨by rw [← hq_]; exact (by (with_reducible repeat (first | refine blk_drewN ?_ _ | refine blk_drew ?_ | refine blk_alloc ?_ _)); exact BK247.out)⟩; have n3_ : Aside0 (wc.heap[gb248]? = some (.cells #[.int .i64 0, .slice none 0 0] 69 (0, 0))) := ⟨by rw [← hq_]; exact (by (with_reducible repeat (first | refine blk_drewN ?_ _ | refine blk_drew ?_ | refine blk_alloc ?_ _)); exact BK248.out)⟩; have n4_ : Aside0 (wc.heap[gb251]? = some (.cells #[.int .i64 x252000_1, u252001] 69 (0, 0))) := ⟨by rw [← hq_]; exact (by (with_reducible repeat (first | refine blk_drewN ?_ _ | refine blk_drew ?_ | refine blk_alloc ?_ _)); exact BK251.out)⟩; have n5_ : Aside0 (Below w.heap.size w wc) := ⟨by rw [← hq_]; exact (by repeat (first | (with_reducible first | exact HB.out | apply below_alloc | apply pw_below_drewN | apply below_drew1 | refine below_set ?_ GE246.out | refine below_set ?_ GE247.out | refine below_set ?_ GE248.out | refine below_set ?_ GE251.out) | exact HB.out))⟩; clear HO_252001 BK246 BK247 BK248 BK251 HB hq_; have HO_252001 := n0_; have BK246 := n1_; have BK247 := n2_; have BK248 := n3_; have BK251 := n4_; have HB := n5_; clear n0_ n1_ n2_ n3_ n4_ n5_)); (try (have hu246_0 : wc.cell? ⟨gb246, 0, none⟩ = some (.int .i64 x247000_1) := (blk_cell BK246.out 0).trans rfl; have hv246_0 := blk_frozen BK246.out 0)); (try (have hu246_1 : wc.cell? ⟨gb246, 1, none⟩ = some (.slice none 0 0) := (blk_cell BK246.out 1).trans rfl; have hv246_1 := blk_frozen BK246.out 1)); (try (have hu247_0 : wc.cell? ⟨gb247, 0, none⟩ = some (.int .i64 x248000_1) := (blk_cell BK247.out 0).trans rfl; have hv247_0 := blk_frozen BK247.out 0)); (try (have hu247_1 : wc.cell? ⟨gb247, 1, none⟩ = some (.int .i64 x248001_1) := (blk_cell BK247.out 1).trans rfl; have hv247_1 := blk_frozen BK247.out 1)); (try (have hu248_0 : wc.cell? ⟨gb248, 0, none⟩ = some (.int .i64 0) := (blk_cell BK248.out 0).trans rfl; have hv248_0 := blk_frozen BK248.out 0)); (try (have hu248_1 : wc.cell? ⟨gb248, 1, none⟩ = some (.slice none 0 0) := (blk_cell BK248.out 1).trans rfl; have hv248_1 := blk_frozen BK248.out 1)); (try (have hu251_0 : wc.cell? ⟨gb251, 0, none⟩ = some (.int .i64 x252000_1) := (blk_cell BK251.out 0).trans rfl; have hv251_0 := blk_frozen BK251.out 0)); (try (have hu251_1 : wc.cell? ⟨gb251, 1, none⟩ = some (u252001) := (blk_cell BK251.out 1).trans rfl; have hv251_1 := blk_frozen BK251.out 1))))
                          have n0_ := Aside0.mk (Kd.R_drew HO_252001.out)
                          have n1_ := Aside0.mk (blk_drew BK246.out)
                          have n2_ := Aside0.mk (blk_drew BK247.out)
                          have n3_ := Aside0.mk (blk_drew BK248.out)
                          have n4_ := Aside0.mk (blk_drew BK251.out)
                          have n5_ := Aside0.mk (below_drew1 HB.out)
                          clear HO_252001
                          clear BK246
                          clear BK247
                          clear BK248
                          clear BK251
                          clear HB
                          have HO_252001 := n0_
                          have BK246 := n1_
                          have BK247 := n2_
                          have BK248 := n3_
                          have BK251 := n4_
                          have HB := n5_
                          clear n0_ n1_ n2_ n3_ n4_ n5_
                          refine start_ (n := 6) (S := fun w' => w'.cell? ⟨gb248, 0, none⟩ = some (.int .i64 0) ∧ w'.cell? ⟨gb248, 1, none⟩ = some (.slice none 0 0)) (ds := []) #[false, false, false, false, false, false] (by kernel_rfl) rfl rfl ⟨(blk_cell BK248.out 0).trans rfl, (blk_cell BK248.out 1).trans rfl⟩ (fun hHeld => ?_)
                          generalize wc.drew = w56 at HO_252001 BK246 BK247 BK248 BK251 HB hHeld ⊢
                          refine pure_ (i := 1) (N := some 63) (v := ?_) (a' := ?_) #[false, true, false, false, false, false] rfl rfl (by kernel_rfl) (fun _ _ _ h => h) (Or.inl ⟨by rfl, ?_⟩) ?_ ?_
                          rotate_left
                          · intro w'
                            go_simp
                            with_reducible rfl
                          rotate_left
                          · simp only [Act.put, List.setIfInBounds_toArray, List.set_cons_zero, List.set_cons_succ, i64_w, i32_w]
                            rfl
                          refine take_ (i := 0) (N := some 62) (v := ?_) (a' := ?_) #[true, true, false, false, false, false] rfl rfl (by kernel_rfl) (fun _ _ _ h => h) (Or.inl ⟨by rfl, ?_⟩) hHeld ?_ ?_
                          rotate_left
                          · rintro w' ⟨s0, s1⟩
                            go_simp
                            with_reducible rfl
                          rotate_left
                          · simp only [Act.put, List.setIfInBounds_toArray, List.set_cons_zero, List.set_cons_succ, i64_w, i32_w]
                            rfl
                          refine one_ (i := 2) (N := some 64) #[true, true, true, false, false, false] rfl rfl (by kernel_rfl) (by decide) (fun K hK => ?_)
                          refine goes_ Tryd.func31 (by kernel_rfl) rfl #[.int .i64 1, .int .i64 x7_1] (by rfl) rfl rfl (by (try simp only [List.map_toArray, List.map_cons, List.map_nil]); first | done | rfl | (simp only [List.length_drop, List.length_take]; rfl)) ?_
                          with_reducible refine (posthouseref3_At.calls 1 x7_1 t263 t264 _ A55.out).mono ?_
                          rintro e w57 ⟨rfl, hb⟩
                          refine ⟨_, rfl, ?_⟩
                          have n0_ := Aside0.mk (Kd.R_below (by (with_reducible repeat (first | apply Kd.R_alloc | apply Kd.R_drewN | apply Kd.R_drew)); exact HO_252001.out) hb)
                          have n1_ := Aside0.mk (blk_below (g := gb246) (o := .cells #[.int .i64 x247000_1, .slice none 0 0] 69 (0, 0)) (by (with_reducible repeat (first | refine blk_drewN ?_ _ | refine blk_drew ?_ | refine blk_alloc ?_ _)); exact BK246.out) hb)
                          have n2_ := Aside0.mk (blk_below (g := gb247) (o := .cells #[.int .i64 x248000_1, .int .i64 x248001_1] 25 (0, 0)) (by (with_reducible repeat (first | refine blk_drewN ?_ _ | refine blk_drew ?_ | refine blk_alloc ?_ _)); exact BK247.out) hb)
                          have n3_ := Aside0.mk (blk_below (g := gb248) (o := .cells #[.int .i64 0, .slice none 0 0] 69 (0, 0)) (by (with_reducible repeat (first | refine blk_drewN ?_ _ | refine blk_drew ?_ | refine blk_alloc ?_ _)); exact BK248.out) hb)
                          have n4_ := Aside0.mk (blk_below (g := gb251) (o := .cells #[.int .i64 x252000_1, u252001] 69 (0, 0)) (by (with_reducible repeat (first | refine blk_drewN ?_ _ | refine blk_drew ?_ | refine blk_alloc ?_ _)); exact BK251.out) hb)
                          have n5_ := Aside0.mk (below_step (by repeat (first | (with_reducible first | exact HB.out | apply below_alloc | apply pw_below_drewN | apply below_drew1 | refine below_set ?_ GE246.out | refine below_set ?_ GE247.out | refine below_set ?_ GE248.out | refine below_set ?_ GE251.out) | exact HB.out)) hb)
                          clear HO_252001
                          clear BK246
                          clear BK247
                          clear BK248
                          clear BK251
                          clear HB
                          have HO_252001 := n0_
                          have BK246 := n1_
                          have BK247 := n2_
                          have BK248 := n3_
                          have BK251 := n4_
                          have HB := n5_
                          clear n0_ n1_ n2_ n3_ n4_ n5_
                          (try clear hb)
                          (try clear hb2)
                          (try clear hk)
                          (try clear hi)
                          refine hK.out _ _ ⟨(blk_cell BK248.out 0).trans rfl, (blk_cell BK248.out 1).trans rfl⟩ (fun hHeld => ?_)
                          clear hK K
                          refine norm_ (a' := ?_) ?_ ?_
                          rotate_left
                          · show Act.put _ (some 64) _ = _
                            simp only [Act.put, List.setIfInBounds_toArray, List.set_cons_zero, List.set_cons_succ, i64_w, i32_w]
                            rfl
                          refine one_ (i := 3) (N := none) #[true, true, true, true, false, false] rfl rfl (by kernel_rfl) (by decide) (fun K hK => ?_)
                          have hs58 : w57.cell? ⟨gb246, 0, none⟩ = some (.int .i64 x247000_1) := (blk_cell BK246.out 0).trans rfl
                          have hfs58 := blk_frozen BK246.out 0
                          have hns58_1 := NB247_246.out
                          have hns58_2 := NB248_246.out
                          have hns58_3 := NB251_246.out
                          have hms58_1 := NB246_247.out
                          have hms58_2 := NB246_248.out
                          have hms58_3 := NB246_251.out
                          have hs59 : w57.cell? ⟨gb246, 1, none⟩ = some (.slice none 0 0) := (blk_cell BK246.out 1).trans rfl
                          have hfs59 := blk_frozen BK246.out 1
                          have hns59_1 := NB247_246.out
                          have hns59_2 := NB248_246.out
                          have hns59_3 := NB251_246.out
                          have hms59_1 := NB246_247.out
                          have hms59_2 := NB246_248.out
                          have hms59_3 := NB246_251.out
                          refine skip_ (w1 := ?_) (by rfl) rfl ?_ ?_
                          rotate_left
                          · go_simp
                            rfl
                          refine hK.out _ _ ⟨((cell_far (p := ⟨gb246, _, none⟩) NB248_246.out _).trans (((cell_far (p := ⟨gb246, _, none⟩) NB248_246.out _).trans (hHeld.1)))), ((cell_far (p := ⟨gb246, _, none⟩) NB248_246.out _).trans (((cell_far (p := ⟨gb246, _, none⟩) NB248_246.out _).trans (hHeld.2))))⟩ (fun hHeld => ?_)
                          clear hK K
                          refine pure_ (i := 4) (N := some 3) (v := ?_) (a' := ?_) #[true, true, true, true, true, false] rfl rfl (by kernel_rfl) (fun _ _ _ h => h) (Or.inl ⟨by rfl, ?_⟩) ?_ ?_
                          rotate_left
                          · intro w'
                            go_simp
                            with_reducible rfl
                          rotate_left
                          · simp only [Act.put, List.setIfInBounds_toArray, List.set_cons_zero, List.set_cons_succ, i64_w, i32_w]
                            rfl
                          refine one_ (i := 5) (N := none) #[true, true, true, true, true, true] rfl rfl (by kernel_rfl) (by decide) (fun K hK => ?_)
                          have hs60 : w57.cell? ⟨gb247, 0, none⟩ = some (.int .i64 x248000_1) := (blk_cell BK247.out 0).trans rfl
                          have hfs60 := blk_frozen BK247.out 0
                          have hns60_0 := NB246_247.out
                          have hns60_2 := NB248_247.out
                          have hns60_3 := NB251_247.out
                          have hms60_0 := NB247_246.out
                          have hms60_2 := NB247_248.out
                          have hms60_3 := NB247_251.out
                          have hs61 : w57.cell? ⟨gb247, 1, none⟩ = some (.int .i64 x248001_1) := (blk_cell BK247.out 1).trans rfl
                          have hfs61 := blk_frozen BK247.out 1
                          have hns61_0 := NB246_247.out
                          have hns61_2 := NB248_247.out
                          have hns61_3 := NB251_247.out
                          have hms61_0 := NB247_246.out
                          have hms61_2 := NB247_248.out
                          have hms61_3 := NB247_251.out
                          refine skip_ (w1 := ?_) (by rfl) rfl ?_ ?_
                          rotate_left
                          · go_simp
                            rfl
                          refine hK.out _ _ ⟨((cell_far (p := ⟨gb247, _, none⟩) NB248_247.out _).trans (((cell_far (p := ⟨gb247, _, none⟩) NB248_247.out _).trans (hHeld.1)))), ((cell_far (p := ⟨gb247, _, none⟩) NB248_247.out _).trans (((cell_far (p := ⟨gb247, _, none⟩) NB248_247.out _).trans (hHeld.2))))⟩ (fun hHeld => ?_)
                          clear hK K
                          refine done_ (by kernel_rfl) ?_
                          try go_wp2
                          refine bodyPost_ret (results_list (rs := [.cell 2 69, .tmp 3, .cell 4 25]) rfl (by simp) (.cell gb246 69 #[.int .i64 0, .slice none 0 0] (0, 0) _ rfl (by (with_reducible repeat (first | refine blk_drewN ?_ _ | refine blk_drew ?_ | refine blk_alloc ?_ _)); refine blk_far ?_ NB246_247.out _; (with_reducible repeat (first | refine blk_drewN ?_ _ | refine blk_drew ?_ | refine blk_alloc ?_ _)); refine blk_far ?_ NB246_247.out _; (with_reducible repeat (first | refine blk_drewN ?_ _ | refine blk_drew ?_ | refine blk_alloc ?_ _)); refine blk_put (cs := #[.int .i64 0, .slice none 0 0]) ?_ 1 _ rfl; (with_reducible repeat (first | refine blk_drewN ?_ _ | refine blk_drew ?_ | refine blk_alloc ?_ _)); refine blk_put (cs := #[.int .i64 x247000_1, .slice none 0 0]) ?_ 0 _ rfl; (with_reducible repeat (first | refine blk_drewN ?_ _ | refine blk_drew ?_ | refine blk_alloc ?_ _)); exact BK246.out) Tryd.underlying69 rfl (by kernel_rfl) (.tmp (.cell gb247 25 #[.int .i64 t263, .int .i64 t264] (0, 0) _ rfl (by (with_reducible repeat (first | refine blk_drewN ?_ _ | refine blk_drew ?_ | refine blk_alloc ?_ _)); refine blk_put (cs := #[.int .i64 t263, .int .i64 x248001_1]) ?_ 1 _ rfl; (with_reducible repeat (first | refine blk_drewN ?_ _ | refine blk_drew ?_ | refine blk_alloc ?_ _)); refine blk_put (cs := #[.int .i64 x248000_1, .int .i64 x248001_1]) ?_ 0 _ rfl; (with_reducible repeat (first | refine blk_drewN ?_ _ | refine blk_drew ?_ | refine blk_alloc ?_ _)); refine blk_far ?_ NB247_246.out _; (with_reducible repeat (first | refine blk_drewN ?_ _ | refine blk_drew ?_ | refine blk_alloc ?_ _)); refine blk_far ?_ NB247_246.out _; (with_reducible repeat (first | refine blk_drewN ?_ _ | refine blk_drew ?_ | refine blk_alloc ?_ _)); exact BK247.out) Tryd.underlying25 rfl (by kernel_rfl) .nil)))) rfl ?_
                          exact ⟨_, by first | rfl | (simp [errW_none, errW_some] <;> rfl) | (simp [*, errW_none, errW_some] <;> rfl), by first | exact Kd.R_nil _ _ _ _ _ | exact Kd.N_nil _ _ _ _ _ | exact Kd.V_nil _ _ _ _ _ | exact Kd.Q_nil _ _ _ _ _ | exact Kd.S_nil _ _ _ _ _, by repeat (first | (with_reducible first | exact HB.out | apply below_alloc | apply pw_below_drewN | apply below_drew1 | refine below_set ?_ GE246.out | refine below_set ?_ GE247.out | refine below_set ?_ GE248.out | refine below_set ?_ GE251.out) | exact HB.out)⟩
                        · rw [if_neg c54] at H
                          have c54b0 : decide (504 < ((rdOf ByteArray.empty l0 x7_1).size : Int)) = false := decide_eq_false c54
                          have c54b1 : decide (504 < (rdOf ByteArray.empty l0 x7_1).size) = false := decide_eq_false (by omega)
                          clear c54
                          have HC62 := Aside0.mk H
                          clear H
                          go_upto_region 18 with (first | ((with_reducible refine gate_callee (f := 35) rfl ?_); refine goesL_ (some 54) rfl rfl Tryd.func35 (by kernel_rfl) rfl #[.int .i64 x9_46, .int .i64 200, .int .i64 599] rfl (by (try simp only [List.map_toArray, List.map_cons, List.map_nil]); first | done | rfl | (simp only [List.length_drop, List.length_take]; rfl)) ?_; (with_reducible refine (posthouseref3_In.calls x9_46 200 599 true _ A52.out).mono ?_); rintro e w' ⟨rfl, ⟨nd, rfl⟩⟩; refine ⟨_, rfl, ?_⟩))
                          (try simp only [Act.put, List.setIfInBounds_toArray, List.set_cons_zero, List.set_cons_succ])
                          go_cut [72] (fun v72 wc => ∃ (kq : Nat) (x72_61 : Bool), v72 = .bool x72_61 ∧ Aside0 (posthouseref3_ReplyOf.j3 kq l0 x7_1 (rdOf ByteArray.empty l0 x7_1) x9_46 x72_61 0 x252000_1 x252001_1 = some (r1, r2, r3, r4, r5)) ∧ Aside0 (kq ≤ kj46) ∧ Aside0 (Kd.R Kd.string 9 wc w.heap.size (fun _ => True) u252001 x252001_1) ∧ Aside0 (wc.heap[gb246]? = some (.cells #[.int .i64 x247000_1, (.slice none 0 0)] 69 (0, 0))) ∧ Aside0 (wc.heap[gb247]? = some (.cells #[.int .i64 x248000_1, .int .i64 x248001_1] 25 (0, 0))) ∧ Aside0 (wc.heap[gb248]? = some (.cells #[.int .i64 0, (.slice none 0 0)] 69 (0, 0))) ∧ Aside0 (wc.heap[gb251]? = some (.cells #[.int .i64 x252000_1, u252001] 69 (0, 0))) ∧ Aside0 (Below w.heap.size w wc))
                          case first =>
                            have H := HC62.out
                            clear HC62
                            by_cases c63 : x7_1 > 0
                            · rw [if_pos c63] at H
                              have c63b0 : decide (0 < x7_1) = true := decide_eq_true c63
                              clear c63
                              (first | rw [c63b0] | (simp only [i64_w, i32_w]; rw [c63b0]) | skip)
                              have H' := Aside0.mk H
                              clear H
                              have hnb64 := NB251_246.out
                              have hnc64 := NB246_251.out
                              have hnb65 := NB251_247.out
                              have hnc65 := NB247_251.out
                              have hnb66 := NB251_248.out
                              have hnc66 := NB248_251.out
                              have hcz67_0 : wc.cell? ⟨gb251, 0, none⟩ = some (.int .i64 x252000_1) := (blk_cell BK251.out 0).trans rfl
                              have hcz67_1 : wc.cell? ⟨gb251, 1, none⟩ = some (u252001) := (blk_cell BK251.out 1).trans rfl
                              have hfz67_0 := blk_frozen BK251.out 0
                              have hfz67_1 := blk_frozen BK251.out 1
                              go_wp2
                              go_meet
                              case rel => exact ⟨_, ((x9_46 != x252000_1)), (by first | rfl | (simp; done) | (simp [*]; done)), H', ⟨by have := HK1.out; have := HJ37.out; have := HJ46.out; first | omega | exact Nat.le_refl _⟩, ⟨by (with_reducible repeat (first | apply Kd.R_alloc | apply Kd.R_drewN | apply Kd.R_drew)); exact HO_252001.out⟩, ⟨by (with_reducible repeat (first | refine blk_drewN ?_ _ | refine blk_drew ?_ | refine blk_alloc ?_ _)); exact BK246.out⟩, ⟨by (with_reducible repeat (first | refine blk_drewN ?_ _ | refine blk_drew ?_ | refine blk_alloc ?_ _)); exact BK247.out⟩, ⟨by (with_reducible repeat (first | refine blk_drewN ?_ _ | refine blk_drew ?_ | refine blk_alloc ?_ _)); exact BK248.out⟩, ⟨by (with_reducible repeat (first | refine blk_drewN ?_ _ | refine blk_drew ?_ | refine blk_alloc ?_ _)); exact BK251.out⟩, ⟨by repeat (first | (with_reducible first | exact HB.out | apply below_alloc | apply pw_below_drewN | apply below_drew1 | refine below_set ?_ GE246.out | refine below_set ?_ GE247.out | refine below_set ?_ GE248.out | refine below_set ?_ GE251.out) | exact HB.out)⟩⟩
                            · rw [if_neg c63] at H
                              have c63b0 : decide (0 < x7_1) = false := decide_eq_false c63
                              clear c63
                              (first | rw [c63b0] | (simp only [i64_w, i32_w]; rw [c63b0]) | skip)
                              have H' := Aside0.mk H
                              clear H
                              go_wp2
                              go_meet
                              case rel => exact ⟨_, (false), (by first | rfl | (simp; done) | (simp [*]; done)), H', ⟨by have := HK1.out; have := HJ37.out; have := HJ46.out; first | omega | exact Nat.le_refl _⟩, ⟨by (with_reducible repeat (first | apply Kd.R_alloc | apply Kd.R_drewN | apply Kd.R_drew)); exact HO_252001.out⟩, ⟨by (with_reducible repeat (first | refine blk_drewN ?_ _ | refine blk_drew ?_ | refine blk_alloc ?_ _)); exact BK246.out⟩, ⟨by (with_reducible repeat (first | refine blk_drewN ?_ _ | refine blk_drew ?_ | refine blk_alloc ?_ _)); exact BK247.out⟩, ⟨by (with_reducible repeat (first | refine blk_drewN ?_ _ | refine blk_drew ?_ | refine blk_alloc ?_ _)); exact BK248.out⟩, ⟨by (with_reducible repeat (first | refine blk_drewN ?_ _ | refine blk_drew ?_ | refine blk_alloc ?_ _)); exact BK251.out⟩, ⟨by repeat (first | (with_reducible first | exact HB.out | apply below_alloc | apply pw_below_drewN | apply below_drew1 | refine below_set ?_ GE246.out | refine below_set ?_ GE247.out | refine below_set ?_ GE248.out | refine below_set ?_ GE251.out) | exact HB.out)⟩⟩
                          case rest =>
                            clear HC62
                            try clear c2
                            try clear c2b0
                            try clear c2b1
                            try clear p2
                            try clear q2
                            try clear hx2
                            try clear c3
                            try clear c4
                            try clear p4
                            try clear q4
                            try clear hx4
                            try clear qi4
                            try clear c5
                            try clear c6
                            try clear c7
                            try clear c8
                            try clear c9
                            try clear c20
                            try clear c21
                            try clear c24
                            try clear c25
                            try clear p25
                            try clear q25
                            try clear hx25
                            try clear c26
                            try clear c28
                            try clear c28b0
                            try clear c29
                            try clear c29b0
                            try clear c30
                            try clear c30b0
                            try clear c30b1
                            try clear c31
                            try clear c35
                            try clear c39
                            try clear c39b0
                            try clear c39b1
                            try clear c40
                            try clear c40b0
                            try clear c40b1
                            try clear p41
                            try clear q41
                            try clear hx41
                            try clear qi41
                            try clear c42
                            try clear c42b0
                            try clear c42b1
                            try clear p44
                            try clear q44
                            try clear hx44
                            try clear qi44
                            try clear c45
                            try clear c45b0
                            try clear c45b1
                            try clear c48
                            try clear c49
                            try clear c49b0
                            try clear c49b1
                            try clear c50
                            try clear c50b0
                            try clear c50b1
                            try clear c53
                            try clear c54
                            try clear c54b0
                            try clear c54b1
                            try clear c63
                            try clear c63b0
                            try clear c64
                            try clear c65
                            try clear c66
                            try clear hcz22_0
                            try clear hcz22_1
                            try clear hcz27_0
                            try clear hcz27_1
                            try clear hcz67_0
                            try clear hcz67_1
                            try clear hcz9_0
                            try clear hcz9_1
                            try clear hfz22_0
                            try clear hfz22_1
                            try clear hfz27_0
                            try clear hfz27_1
                            try clear hfz67_0
                            try clear hfz67_1
                            try clear hfz9_0
                            try clear hfz9_1
                            try clear hx254_0
                            try clear p2
                            try clear p25
                            try clear p254
                            try clear p4
                            try clear p41
                            try clear p44
                            try clear q2
                            try clear q25
                            try clear q254
                            try clear q4
                            try clear q41
                            try clear q44
                            obtain ⟨kq, x72_61, rfl, HA, HJ61, HO_252001, BK246, BK247, BK248, BK251, HB⟩ := hcut
                            cases kq with
                            | zero => exact absurd HA.out (by simp [posthouseref3_ReplyOf.j3])
                            | succ kj61 =>
                              have H := HA.out
                              clear HA
                              simp only [posthouseref3_ReplyOf.j3] at H
                              by_cases c68 : x72_61 = true
                              · subst c68
                                have H1 : ((posthouseref3_At.f 5 x7_1).bind fun bt265 => (some (0, ([] : List ByteArray), 0, bt265.1, bt265.2))) = some (r1, r2, r3, r4, r5) := by rw [if_pos rfl] at H; exact H
                                clear H
                                have H := H1
                                clear H1
                                replace H := Option.bind_eq_some_iff.mp H
                                obtain ⟨⟨t265, t266⟩, A690, H⟩ := H
                                replace H : (some (0, ([] : List ByteArray), 0, t265, t266)) = some (r1, r2, r3, r4, r5) := H
                                have A69 := Aside0.mk A690
                                clear A690
                                simp only [Option.some.injEq, Prod.mk.injEq] at H
                                obtain ⟨rfl, rfl, rfl, rfl, rfl⟩ := H
                                try go_wp2
                                have n0_ := Aside0.mk (Kd.R_drew HO_252001.out)
                                have n1_ := Aside0.mk (blk_drew BK246.out)
                                have n2_ := Aside0.mk (blk_drew BK247.out)
                                have n3_ := Aside0.mk (blk_drew BK248.out)
                                have n4_ := Aside0.mk (blk_drew BK251.out)
                                have n5_ := Aside0.mk (below_drew1 HB.out)
                                clear HO_252001
                                clear BK246
                                clear BK247
                                clear BK248
                                clear BK251
                                clear HB
                                have HO_252001 := n0_
                                have BK246 := n1_
                                have BK247 := n2_
                                have BK248 := n3_
                                have BK251 := n4_
                                have HB := n5_
                                clear n0_ n1_ n2_ n3_ n4_ n5_
                                refine start_ (n := 6) (S := fun w' => w'.cell? ⟨gb248, 0, none⟩ = some (.int .i64 0) ∧ w'.cell? ⟨gb248, 1, none⟩ = some (.slice none 0 0)) (ds := []) #[false, false, false, false, false, false] (by kernel_rfl) rfl rfl ⟨(blk_cell BK248.out 0).trans rfl, (blk_cell BK248.out 1).trans rfl⟩ (fun hHeld => ?_)
                                generalize wc.drew = w70 at HO_252001 BK246 BK247 BK248 BK251 HB hHeld ⊢
                                refine pure_ (i := 1) (N := some 74) (v := ?_) (a' := ?_) #[false, true, false, false, false, false] rfl rfl (by kernel_rfl) (fun _ _ _ h => h) (Or.inl ⟨by rfl, ?_⟩) ?_ ?_
                                rotate_left
                                · intro w'
                                  go_simp
                                  with_reducible rfl
                                rotate_left
                                · simp only [Act.put, List.setIfInBounds_toArray, List.set_cons_zero, List.set_cons_succ, i64_w, i32_w]
                                  rfl
                                refine take_ (i := 0) (N := some 73) (v := ?_) (a' := ?_) #[true, true, false, false, false, false] rfl rfl (by kernel_rfl) (fun _ _ _ h => h) (Or.inl ⟨by rfl, ?_⟩) hHeld ?_ ?_
                                rotate_left
                                · rintro w' ⟨s0, s1⟩
                                  go_simp
                                  with_reducible rfl
                                rotate_left
                                · simp only [Act.put, List.setIfInBounds_toArray, List.set_cons_zero, List.set_cons_succ, i64_w, i32_w]
                                  rfl
                                refine one_ (i := 2) (N := some 75) #[true, true, true, false, false, false] rfl rfl (by kernel_rfl) (by decide) (fun K hK => ?_)
                                refine goes_ Tryd.func31 (by kernel_rfl) rfl #[.int .i64 5, .int .i64 x7_1] (by rfl) rfl rfl (by (try simp only [List.map_toArray, List.map_cons, List.map_nil]); first | done | rfl | (simp only [List.length_drop, List.length_take]; rfl)) ?_
                                with_reducible refine (posthouseref3_At.calls 5 x7_1 t265 t266 _ A69.out).mono ?_
                                rintro e w71 ⟨rfl, hb⟩
                                refine ⟨_, rfl, ?_⟩
                                have n0_ := Aside0.mk (Kd.R_below (by (with_reducible repeat (first | apply Kd.R_alloc | apply Kd.R_drewN | apply Kd.R_drew)); exact HO_252001.out) hb)
                                have n1_ := Aside0.mk (blk_below (g := gb246) (o := .cells #[.int .i64 x247000_1, .slice none 0 0] 69 (0, 0)) (by (with_reducible repeat (first | refine blk_drewN ?_ _ | refine blk_drew ?_ | refine blk_alloc ?_ _)); exact BK246.out) hb)
                                have n2_ := Aside0.mk (blk_below (g := gb247) (o := .cells #[.int .i64 x248000_1, .int .i64 x248001_1] 25 (0, 0)) (by (with_reducible repeat (first | refine blk_drewN ?_ _ | refine blk_drew ?_ | refine blk_alloc ?_ _)); exact BK247.out) hb)
                                have n3_ := Aside0.mk (blk_below (g := gb248) (o := .cells #[.int .i64 0, .slice none 0 0] 69 (0, 0)) (by (with_reducible repeat (first | refine blk_drewN ?_ _ | refine blk_drew ?_ | refine blk_alloc ?_ _)); exact BK248.out) hb)
                                have n4_ := Aside0.mk (blk_below (g := gb251) (o := .cells #[.int .i64 x252000_1, u252001] 69 (0, 0)) (by (with_reducible repeat (first | refine blk_drewN ?_ _ | refine blk_drew ?_ | refine blk_alloc ?_ _)); exact BK251.out) hb)
                                have n5_ := Aside0.mk (below_step (by repeat (first | (with_reducible first | exact HB.out | apply below_alloc | apply pw_below_drewN | apply below_drew1 | refine below_set ?_ GE246.out | refine below_set ?_ GE247.out | refine below_set ?_ GE248.out | refine below_set ?_ GE251.out) | exact HB.out)) hb)
                                clear HO_252001
                                clear BK246
                                clear BK247
                                clear BK248
                                clear BK251
                                clear HB
                                have HO_252001 := n0_
                                have BK246 := n1_
                                have BK247 := n2_
                                have BK248 := n3_
                                have BK251 := n4_
                                have HB := n5_
                                clear n0_ n1_ n2_ n3_ n4_ n5_
                                (try clear hb)
                                (try clear hb2)
                                (try clear hk)
                                (try clear hi)
                                refine hK.out _ _ ⟨(blk_cell BK248.out 0).trans rfl, (blk_cell BK248.out 1).trans rfl⟩ (fun hHeld => ?_)
                                clear hK K
                                refine norm_ (a' := ?_) ?_ ?_
                                rotate_left
                                · show Act.put _ (some 75) _ = _
                                  simp only [Act.put, List.setIfInBounds_toArray, List.set_cons_zero, List.set_cons_succ, i64_w, i32_w]
                                  rfl
                                refine one_ (i := 3) (N := none) #[true, true, true, true, false, false] rfl rfl (by kernel_rfl) (by decide) (fun K hK => ?_)
                                have hs72 : w71.cell? ⟨gb246, 0, none⟩ = some (.int .i64 x247000_1) := (blk_cell BK246.out 0).trans rfl
                                have hfs72 := blk_frozen BK246.out 0
                                have hns72_1 := NB247_246.out
                                have hns72_2 := NB248_246.out
                                have hns72_3 := NB251_246.out
                                have hms72_1 := NB246_247.out
                                have hms72_2 := NB246_248.out
                                have hms72_3 := NB246_251.out
                                have hs73 : w71.cell? ⟨gb246, 1, none⟩ = some (.slice none 0 0) := (blk_cell BK246.out 1).trans rfl
                                have hfs73 := blk_frozen BK246.out 1
                                have hns73_1 := NB247_246.out
                                have hns73_2 := NB248_246.out
                                have hns73_3 := NB251_246.out
                                have hms73_1 := NB246_247.out
                                have hms73_2 := NB246_248.out
                                have hms73_3 := NB246_251.out
                                refine skip_ (w1 := ?_) (by rfl) rfl ?_ ?_
                                rotate_left
                                · go_simp
                                  rfl
                                refine hK.out _ _ ⟨((cell_far (p := ⟨gb246, _, none⟩) NB248_246.out _).trans (((cell_far (p := ⟨gb246, _, none⟩) NB248_246.out _).trans (hHeld.1)))), ((cell_far (p := ⟨gb246, _, none⟩) NB248_246.out _).trans (((cell_far (p := ⟨gb246, _, none⟩) NB248_246.out _).trans (hHeld.2))))⟩ (fun hHeld => ?_)
                                clear hK K
                                refine pure_ (i := 4) (N := some 3) (v := ?_) (a' := ?_) #[true, true, true, true, true, false] rfl rfl (by kernel_rfl) (fun _ _ _ h => h) (Or.inl ⟨by rfl, ?_⟩) ?_ ?_
                                rotate_left
                                · intro w'
                                  go_simp
                                  with_reducible rfl
                                rotate_left
                                · simp only [Act.put, List.setIfInBounds_toArray, List.set_cons_zero, List.set_cons_succ, i64_w, i32_w]
                                  rfl
                                refine one_ (i := 5) (N := none) #[true, true, true, true, true, true] rfl rfl (by kernel_rfl) (by decide) (fun K hK => ?_)
                                have hs74 : w71.cell? ⟨gb247, 0, none⟩ = some (.int .i64 x248000_1) := (blk_cell BK247.out 0).trans rfl
                                have hfs74 := blk_frozen BK247.out 0
                                have hns74_0 := NB246_247.out
                                have hns74_2 := NB248_247.out
                                have hns74_3 := NB251_247.out
                                have hms74_0 := NB247_246.out
                                have hms74_2 := NB247_248.out
                                have hms74_3 := NB247_251.out
                                have hs75 : w71.cell? ⟨gb247, 1, none⟩ = some (.int .i64 x248001_1) := (blk_cell BK247.out 1).trans rfl
                                have hfs75 := blk_frozen BK247.out 1
                                have hns75_0 := NB246_247.out
                                have hns75_2 := NB248_247.out
                                have hns75_3 := NB251_247.out
                                have hms75_0 := NB247_246.out
                                have hms75_2 := NB247_248.out
                                have hms75_3 := NB247_251.out
                                refine skip_ (w1 := ?_) (by rfl) rfl ?_ ?_
                                rotate_left
                                · go_simp
                                  rfl
                                refine hK.out _ _ ⟨((cell_far (p := ⟨gb247, _, none⟩) NB248_247.out _).trans (((cell_far (p := ⟨gb247, _, none⟩) NB248_247.out _).trans (hHeld.1)))), ((cell_far (p := ⟨gb247, _, none⟩) NB248_247.out _).trans (((cell_far (p := ⟨gb247, _, none⟩) NB248_247.out _).trans (hHeld.2))))⟩ (fun hHeld => ?_)
                                clear hK K
                                refine done_ (by kernel_rfl) ?_
                                try go_wp2
                                refine bodyPost_ret (results_list (rs := [.cell 2 69, .tmp 3, .cell 4 25]) rfl (by simp) (.cell gb246 69 #[.int .i64 0, .slice none 0 0] (0, 0) _ rfl (by (with_reducible repeat (first | refine blk_drewN ?_ _ | refine blk_drew ?_ | refine blk_alloc ?_ _)); refine blk_far ?_ NB246_247.out _; (with_reducible repeat (first | refine blk_drewN ?_ _ | refine blk_drew ?_ | refine blk_alloc ?_ _)); refine blk_far ?_ NB246_247.out _; (with_reducible repeat (first | refine blk_drewN ?_ _ | refine blk_drew ?_ | refine blk_alloc ?_ _)); refine blk_put (cs := #[.int .i64 0, .slice none 0 0]) ?_ 1 _ rfl; (with_reducible repeat (first | refine blk_drewN ?_ _ | refine blk_drew ?_ | refine blk_alloc ?_ _)); refine blk_put (cs := #[.int .i64 x247000_1, .slice none 0 0]) ?_ 0 _ rfl; (with_reducible repeat (first | refine blk_drewN ?_ _ | refine blk_drew ?_ | refine blk_alloc ?_ _)); exact BK246.out) Tryd.underlying69 rfl (by kernel_rfl) (.tmp (.cell gb247 25 #[.int .i64 t265, .int .i64 t266] (0, 0) _ rfl (by (with_reducible repeat (first | refine blk_drewN ?_ _ | refine blk_drew ?_ | refine blk_alloc ?_ _)); refine blk_put (cs := #[.int .i64 t265, .int .i64 x248001_1]) ?_ 1 _ rfl; (with_reducible repeat (first | refine blk_drewN ?_ _ | refine blk_drew ?_ | refine blk_alloc ?_ _)); refine blk_put (cs := #[.int .i64 x248000_1, .int .i64 x248001_1]) ?_ 0 _ rfl; (with_reducible repeat (first | refine blk_drewN ?_ _ | refine blk_drew ?_ | refine blk_alloc ?_ _)); refine blk_far ?_ NB247_246.out _; (with_reducible repeat (first | refine blk_drewN ?_ _ | refine blk_drew ?_ | refine blk_alloc ?_ _)); refine blk_far ?_ NB247_246.out _; (with_reducible repeat (first | refine blk_drewN ?_ _ | refine blk_drew ?_ | refine blk_alloc ?_ _)); exact BK247.out) Tryd.underlying25 rfl (by kernel_rfl) .nil)))) rfl ?_
                                exact ⟨_, by first | rfl | (simp [errW_none, errW_some] <;> rfl) | (simp [*, errW_none, errW_some] <;> rfl), by first | exact Kd.R_nil _ _ _ _ _ | exact Kd.N_nil _ _ _ _ _ | exact Kd.V_nil _ _ _ _ _ | exact Kd.Q_nil _ _ _ _ _ | exact Kd.S_nil _ _ _ _ _, by repeat (first | (with_reducible first | exact HB.out | apply below_alloc | apply pw_below_drewN | apply below_drew1 | refine below_set ?_ GE246.out | refine below_set ?_ GE247.out | refine below_set ?_ GE248.out | refine below_set ?_ GE251.out) | exact HB.out)⟩
                              · replace c68 := Bool.eq_false_iff.mpr c68
                                subst c68
                                have H1 : (if 4 ≤ ((rdOf ByteArray.empty l0 x7_1).size : Int) then (if x252001_1.length < 8796093022208 then ((some (x252001_1 ++ [(rdOf ByteArray.empty l0 x7_1).extract 4 (rdOf ByteArray.empty l0 x7_1).size] : List ByteArray)).bind fun y267 => (if 3 < ((rdOf ByteArray.empty l0 x7_1).size : Int) then (if (bt (rdOf ByteArray.empty l0 x7_1) 3) = 32 then (some (x9_46, y267, wrap64 (x7_1 + 1), 0, 0)) else (posthouseref3_ReplyOf.l0 kj61 l0 (wrap64 (x7_1 + 1)) 0 x9_46 y267)) else (none))) else (none)) else (none)) = some (r1, r2, r3, r4, r5) := by rw [if_neg (show ¬ (false = true) by decide)] at H; exact H
                                clear H
                                have H := H1
                                clear H1
                                by_cases c76 : 4 ≤ ((rdOf ByteArray.empty l0 x7_1).size : Int)
                                · rw [if_pos c76] at H
                                  have c76b0 := eq_true c76
                                  have c76b1 : decide (4 ≤ ((rdOf ByteArray.empty l0 x7_1).size : Int)) = true := decide_eq_true c76
                                  clear c76
                                  by_cases c77 : x252001_1.length < 8796093022208
                                  · rw [if_pos c77] at H
                                    have LMc77 := Aside0.mk c77
                                    clear c77
                                    obtain ⟨y267, hy267⟩ : ∃ y_ : List ByteArray, y_ = (x252001_1 ++ [(rdOf ByteArray.empty l0 x7_1).extract 4 (rdOf ByteArray.empty l0 x7_1).size]) := ⟨_, rfl⟩
                                    replace H : (if 3 < ((rdOf ByteArray.empty l0 x7_1).size : Int) then (if (bt (rdOf ByteArray.empty l0 x7_1) 3) = 32 then (some (x9_46, y267, wrap64 (x7_1 + 1), 0, 0)) else (posthouseref3_ReplyOf.l0 kj61 l0 (wrap64 (x7_1 + 1)) 0 x9_46 y267)) else (none)) = some (r1, r2, r3, r4, r5) := by first | (rw [hy267]; with_reducible exact H) | (have H2_ := (Option.bind_some _ _).symm.trans H; rw [hy267]; with_reducible exact H2_) | (have H2_ := (Option.bind_some _ _).symm.trans H; with_reducible exact H2_) | with_reducible exact H | (rw [hy267]; exact H) | exact H
                                    have Ny267 := Aside0.mk hy267
                                    clear hy267
                                    by_cases c78 : 3 < ((rdOf ByteArray.empty l0 x7_1).size : Int)
                                    · rw [if_pos c78] at H
                                      have c78b0 : decide (3 < ((rdOf ByteArray.empty l0 x7_1).size : Int)) = true := decide_eq_true c78
                                      have c78b1 : decide (3 < (rdOf ByteArray.empty l0 x7_1).size) = true := decide_eq_true (by omega)
                                      clear c78
                                      by_cases c80 : (bt (rdOf ByteArray.empty l0 x7_1) 3) = 32
                                      · rw [if_pos c80] at H
                                        have c80b0 : ((bt (rdOf ByteArray.empty l0 x7_1) 3) == 32) = true := beq_iff_eq.mpr c80
                                        have c80b1 : ((bt (rdOf ByteArray.empty l0 x7_1) 3) != 32) = false := bne_eq_false_iff_eq.mpr c80
                                        clear c80
                                        simp only [Option.some.injEq, Prod.mk.injEq] at H
                                        obtain ⟨rfl, rfl, rfl, rfl, rfl⟩ := H
                                        have hnb81 := NB251_246.out
                                        have hnc81 := NB246_251.out
                                        have hnb82 := NB251_247.out
                                        have hnc82 := NB247_251.out
                                        have hnb83 := NB251_248.out
                                        have hnc83 := NB248_251.out
                                        have hcz84_0 : wc.cell? ⟨gb251, 0, none⟩ = some (.int .i64 x252000_1) := (blk_cell BK251.out 0).trans rfl
                                        have hcz84_1 : wc.cell? ⟨gb251, 1, none⟩ = some (u252001) := (blk_cell BK251.out 1).trans rfl
                                        have hfz84_0 := blk_frozen BK251.out 0
                                        have hfz84_1 := blk_frozen BK251.out 1
                                        try go_wp2
                                        have n0_ : Aside0 (Kd.R Kd.string 9 (wc.setCell ⟨gb251, 0, none⟩ (.int .i64 x9_46)) w.heap.size (fun _ => True) u252001 x252001_1) := ⟨by (with_reducible repeat (first | apply Kd.R_alloc | apply Kd.R_drewN | apply Kd.R_drew)); exact Kd.R_mono (Kd.R_far (p := ⟨gb251, 0, none⟩) (Kd.R_types HO_252001.out BK251.out (by decide)) (fun _ hk => hk.2) (.int .i64 x9_46)) (fun _ hk => trivial)⟩
                                        have n1_ : Aside0 ((wc.setCell ⟨gb251, 0, none⟩ (.int .i64 x9_46)).heap[gb246]? = some (.cells #[.int .i64 x247000_1, .slice none 0 0] 69 (0, 0))) := ⟨by (with_reducible repeat (first | refine blk_drewN ?_ _ | refine blk_drew ?_ | refine blk_alloc ?_ _)); refine blk_far ?_ NB246_251.out _; (with_reducible repeat (first | refine blk_drewN ?_ _ | refine blk_drew ?_ | refine blk_alloc ?_ _)); exact BK246.out⟩
                                        have n2_ : Aside0 ((wc.setCell ⟨gb251, 0, none⟩ (.int .i64 x9_46)).heap[gb247]? = some (.cells #[.int .i64 x248000_1, .int .i64 x248001_1] 25 (0, 0))) := ⟨by (with_reducible repeat (first | refine blk_drewN ?_ _ | refine blk_drew ?_ | refine blk_alloc ?_ _)); refine blk_far ?_ NB247_251.out _; (with_reducible repeat (first | refine blk_drewN ?_ _ | refine blk_drew ?_ | refine blk_alloc ?_ _)); exact BK247.out⟩
                                        have n3_ : Aside0 ((wc.setCell ⟨gb251, 0, none⟩ (.int .i64 x9_46)).heap[gb248]? = some (.cells #[.int .i64 0, .slice none 0 0] 69 (0, 0))) := ⟨by (with_reducible repeat (first | refine blk_drewN ?_ _ | refine blk_drew ?_ | refine blk_alloc ?_ _)); refine blk_far ?_ NB248_251.out _; (with_reducible repeat (first | refine blk_drewN ?_ _ | refine blk_drew ?_ | refine blk_alloc ?_ _)); exact BK248.out⟩
                                        have n4_ : Aside0 ((wc.setCell ⟨gb251, 0, none⟩ (.int .i64 x9_46)).heap[gb251]? = some (.cells #[.int .i64 x9_46, u252001] 69 (0, 0))) := ⟨by (with_reducible repeat (first | refine blk_drewN ?_ _ | refine blk_drew ?_ | refine blk_alloc ?_ _)); refine blk_put (cs := #[.int .i64 x252000_1, u252001]) ?_ 0 _ rfl; (with_reducible repeat (first | refine blk_drewN ?_ _ | refine blk_drew ?_ | refine blk_alloc ?_ _)); exact BK251.out⟩
                                        have n5_ : Aside0 (Below w.heap.size w (wc.setCell ⟨gb251, 0, none⟩ (.int .i64 x9_46))) := ⟨by repeat (first | (with_reducible first | exact HB.out | apply below_alloc | apply pw_below_drewN | apply below_drew1 | refine below_set ?_ GE246.out | refine below_set ?_ GE247.out | refine below_set ?_ GE248.out | refine below_set ?_ GE251.out) | exact HB.out)⟩
                                        (try clear HO_252001)
                                        (try clear BK246)
                                        (try clear BK247)
                                        (try clear BK248)
                                        (try clear BK251)
                                        (try clear HB)
                                        generalize (wc.setCell ⟨gb251, 0, none⟩ (.int .i64 x9_46)) = w85 at n0_ n1_ n2_ n3_ n4_ n5_ ⊢
                                        have HO_252001 := n0_
                                        have BK246 := n1_
                                        have BK247 := n2_
                                        have BK248 := n3_
                                        have BK251 := n4_
                                        have HB := n5_
                                        clear n0_ n1_ n2_ n3_ n4_ n5_
                                        have n0_ := Aside0.mk (Kd.R_drew HO_252001.out)
                                        have n1_ := Aside0.mk (blk_drew BK246.out)
                                        have n2_ := Aside0.mk (blk_drew BK247.out)
                                        have n3_ := Aside0.mk (blk_drew BK248.out)
                                        have n4_ := Aside0.mk (blk_drew BK251.out)
                                        have n5_ := Aside0.mk (below_drew1 HB.out)
                                        clear HO_252001
                                        clear BK246
                                        clear BK247
                                        clear BK248
                                        clear BK251
                                        clear HB
                                        have HO_252001 := n0_
                                        have BK246 := n1_
                                        have BK247 := n2_
                                        have BK248 := n3_
                                        have BK251 := n4_
                                        have HB := n5_
                                        clear n0_ n1_ n2_ n3_ n4_ n5_
                                        refine start_ (n := 8) (S := fun w' => w'.cell? ⟨gb251, 0, none⟩ = some (.int .i64 x9_46) ∧ w'.cell? ⟨gb251, 1, none⟩ = some (u252001)) (ds := [7]) #[false, false, false, false, false, false, false, false] (by kernel_rfl) rfl rfl ⟨(blk_cell BK251.out 0).trans rfl, (blk_cell BK251.out 1).trans rfl⟩ (fun hHeld => ?_); refine with_tabW posthouseref3_ReplyOf.tab21 posthouseref3_ReplyOf.bits21 (fun HT_ HW_ => ?_)
                                        generalize w85.drew = w86 at HO_252001 BK246 BK247 BK248 BK251 HB hHeld ⊢
                                        refine pure_ (i := 0) (N := some 78) (v := ?_) (a' := ?_) #[true, false, false, false, false, false, false, false] rfl rfl (any_of HT_.out (by kernel_rfl)) (fun _ _ _ h => h) (Or.inl ⟨by rfl, ?_⟩) ?_ ?_
                                        rotate_left
                                        · intro w'
                                          go_simp
                                          with_reducible rfl
                                        rotate_left
                                        · simp only [Act.put, List.setIfInBounds_toArray, List.set_cons_zero, List.set_cons_succ, i64_w, i32_w]
                                          rfl
                                        refine pure_ (i := 2) (N := some 80) (v := ?_) (a' := ?_) #[true, false, true, false, false, false, false, false] rfl rfl (any_of HT_.out (by kernel_rfl)) (fun _ _ _ h => h) (Or.inl ⟨by rfl, ?_⟩) ?_ ?_
                                        rotate_left
                                        · intro w'
                                          go_simp
                                          with_reducible rfl
                                        rotate_left
                                        · simp only [Act.put, List.setIfInBounds_toArray, List.set_cons_zero, List.set_cons_succ, i64_w, i32_w]
                                          rfl
                                        refine pure_ (i := 3) (N := some 81) (v := ?_) (a' := ?_) #[true, false, true, true, false, false, false, false] rfl rfl (any_of HT_.out (by kernel_rfl)) (fun _ _ _ h => h) (Or.inl ⟨by rfl, ?_⟩) ?_ ?_
                                        rotate_left
                                        · intro w'
                                          go_simp
                                          with_reducible rfl
                                        rotate_left
                                        · simp only [Act.put, List.setIfInBounds_toArray, List.set_cons_zero, List.set_cons_succ, i64_w, i32_w]
                                          rfl
                                        refine take_ (i := 1) (N := some 79) (v := ?_) (a' := ?_) #[true, true, true, true, false, false, false, false] rfl rfl (take_ofW HT_.out HW_.out (by kernel_rfl)) (fun _ _ _ h => h) (Or.inl ⟨by rfl, ?_⟩) hHeld ?_ ?_
                                        rotate_left
                                        · rintro w' ⟨s0, s1⟩
                                          go_simp
                                          with_reducible rfl
                                        rotate_left
                                        · simp only [Act.put, List.setIfInBounds_toArray, List.set_cons_zero, List.set_cons_succ, i64_w, i32_w]
                                          rfl
                                        refine one_ (i := 4) (N := some 82) #[true, true, true, true, true, false, false, false] rfl rfl (one_of HT_.out (by kernel_rfl)) (by decide) (fun K hK => ?_)
                                        refine value_ (w1 := ?_) (v := ?_) (by rfl) rfl ?_ ?_
                                        rotate_left 2
                                        · go_simp
                                          constructor
                                          · rfl
                                          · rfl
                                        refine hK.out _ _ ⟨(blk_cell (blk_alloc BK251.out _) 0).trans rfl, (blk_cell (blk_alloc BK251.out _) 1).trans rfl⟩ (fun hHeld => ?_)
                                        clear hK K
                                        refine norm_ (a' := ?_) ?_ ?_
                                        rotate_left
                                        · show Act.put _ (some 82) _ = _
                                          simp only [Act.put, List.setIfInBounds_toArray, List.set_cons_zero, List.set_cons_succ, i64_w, i32_w]
                                          rfl
                                        refine one_ (i := 5) (N := some 83) #[true, true, true, true, true, true, false, false] rfl rfl (one_of HT_.out (by kernel_rfl)) (by decide) (fun K hK => ?_)
                                        refine Kd.R_append_step Kd.string (w0 := w) w.heap.size (by rfl) (.tmp 79) (.tmp 82) 23 9 (.string ⟨#[]⟩) 16 rfl Tryd.underlying23 info9 rfl (by decide) (by omega) u252001 x252001_1 ((rdOf ByteArray.empty l0 x7_1).extract 4 (rdOf ByteArray.empty l0 x7_1).size) [.string ((rdOf ByteArray.empty l0 x7_1).extract 4 (rdOf ByteArray.empty l0 x7_1).size)] (fun _ => True) (fun _ => False) rfl rfl ?aP (fun _ hk => hk.elim) ?aF ?aO ?aB ?aS ?aL ?_
                                        (case aP => exact rfl)
                                        (case aB => exact (by repeat (first | (with_reducible first | exact HB.out | apply below_alloc | apply pw_below_drewN | apply below_drew1 | refine below_set ?_ GE246.out | refine below_set ?_ GE247.out | refine below_set ?_ GE248.out | refine below_set ?_ GE251.out) | exact HB.out)))
                                        (case aF => exact (fun _ _ => trivial))
                                        (case aO => exact (by (with_reducible repeat (first | apply Kd.R_alloc | apply Kd.R_drewN | apply Kd.R_drew)); exact HO_252001.out))
                                        (case aS => exact (below_size (by repeat (first | (with_reducible first | exact HB.out | apply below_alloc | apply pw_below_drewN | apply below_drew1 | refine below_set ?_ GE246.out | refine below_set ?_ GE247.out | refine below_set ?_ GE248.out | refine below_set ?_ GE251.out) | exact HB.out))))
                                        (case aL => have := LMc77.out; (first | omega | exact Nat.le_of_lt this))
                                        intro v268 w87 ho hb hg hat
                                        rw [← Ny267.out] at ho
                                        have n0_ := Aside0.mk (blk_grown (g := gb246) (o := .cells #[.int .i64 x247000_1, .slice none 0 0] 69 (0, 0)) (by (with_reducible repeat (first | refine blk_drewN ?_ _ | refine blk_drew ?_ | refine blk_alloc ?_ _)); exact BK246.out) hg (Kd.R_ne HO_252001.out BK246.out (by decide)))
                                        have n1_ := Aside0.mk (blk_grown (g := gb247) (o := .cells #[.int .i64 x248000_1, .int .i64 x248001_1] 25 (0, 0)) (by (with_reducible repeat (first | refine blk_drewN ?_ _ | refine blk_drew ?_ | refine blk_alloc ?_ _)); exact BK247.out) hg (Kd.R_ne HO_252001.out BK247.out (by decide)))
                                        have n2_ := Aside0.mk (blk_grown (g := gb248) (o := .cells #[.int .i64 0, .slice none 0 0] 69 (0, 0)) (by (with_reducible repeat (first | refine blk_drewN ?_ _ | refine blk_drew ?_ | refine blk_alloc ?_ _)); exact BK248.out) hg (Kd.R_ne HO_252001.out BK248.out (by decide)))
                                        have n3_ := Aside0.mk (blk_grown (g := gb251) (o := .cells #[.int .i64 x9_46, u252001] 69 (0, 0)) (by (with_reducible repeat (first | refine blk_drewN ?_ _ | refine blk_drew ?_ | refine blk_alloc ?_ _)); exact BK251.out) hg (Kd.R_ne HO_252001.out BK251.out (by decide)))
                                        have n4_ := Aside0.mk (hb)
                                        have n5_ := Aside0.mk (ho)
                                        clear BK246
                                        clear BK247
                                        clear BK248
                                        clear BK251
                                        clear HB
                                        clear HO_252001
                                        have BK246 := n0_
                                        have BK247 := n1_
                                        have BK248 := n2_
                                        have BK251 := n3_
                                        have HB := n4_
                                        have HO269 := n5_
                                        clear n0_ n1_ n2_ n3_ n4_ n5_
                                        clear ho hb hg hat
                                        obtain ⟨Ao88, co88, eo88⟩ := Kd.R_slice HO269.out
                                        (first | subst eo88 | (injection eo88 with f1_ f2_ f3_; have f4_ := f1_.symm; have f5_ := f3_.symm; clear f1_ f2_ f3_; subst f4_; subst f5_))
                                        refine hK.out _ _ ⟨(blk_cell BK251.out 0).trans rfl, (blk_cell BK251.out 1).trans rfl⟩ (fun hHeld => ?_)
                                        clear hK K
                                        refine norm_ (a' := ?_) ?_ ?_
                                        rotate_left
                                        · show Act.put _ (some 83) _ = _
                                          simp only [Act.put, List.setIfInBounds_toArray, List.set_cons_zero, List.set_cons_succ, i64_w, i32_w]
                                          rfl
                                        refine pure_ (i := 6) (N := some 84) (v := ?_) (a' := ?_) #[true, true, true, true, true, true, true, false] rfl rfl (any_of HT_.out (by kernel_rfl)) (fun _ _ _ h => h) (Or.inl ⟨by rfl, ?_⟩) ?_ ?_
                                        rotate_left
                                        · intro w'
                                          go_simp
                                          with_reducible rfl
                                        rotate_left
                                        · simp only [Act.put, List.setIfInBounds_toArray, List.set_cons_zero, List.set_cons_succ, i64_w, i32_w]
                                          rfl
                                        refine last_ (i := 7) (N := none) #[true, true, true, true, true, true, true, true] rfl rfl (one_of HT_.out (by kernel_rfl)) (by decide) (fun K hK => ?_)
                                        have hs89 : w87.cell? ⟨gb251, 1, none⟩ = some (u252001) := (blk_cell BK251.out 1).trans rfl
                                        have hfs89 := blk_frozen BK251.out 1
                                        have hns89_0 := NB246_251.out
                                        have hns89_1 := NB247_251.out
                                        have hns89_2 := NB248_251.out
                                        have hms89_0 := NB251_246.out
                                        have hms89_1 := NB251_247.out
                                        have hms89_2 := NB251_248.out
                                        refine skip_ (w1 := ?_) (by rfl) rfl ?_ ?_
                                        rotate_left
                                        · go_simp
                                          rfl
                                        refine hK.out _ _ ?_
                                        clear hK K
                                        refine done_ (done_of HT_.out (by kernel_rfl)) ?_
                                        have p79 : 0 ≤ (3 : Int) := (by omega)
                                        have q79 : 3 < (rdOf ByteArray.empty l0 x7_1).size := (by have : (3 : Int) < ((rdOf ByteArray.empty l0 x7_1).size : Int) := of_decide_eq_true (by first | (with_reducible assumption) | assumption); omega)
                                        have hx79 : ∀ h : 3 < (rdOf ByteArray.empty l0 x7_1).size, (((rdOf ByteArray.empty l0 x7_1)[3]'h).toNat : Int) = bt (rdOf ByteArray.empty l0 x7_1) 3 := bt_at (rdOf ByteArray.empty l0 x7_1) 3
                                        clear p79
                                        have qi79 : (3 < ((rdOf ByteArray.empty l0 x7_1).size : Int)) = True := eq_true (of_decide_eq_true (by first | (with_reducible assumption) | assumption))
                                        replace q79 := eq_true q79
                                        have hcz90_0 : w87.cell? ⟨gb251, 0, none⟩ = some (.int .i64 x9_46) := (blk_cell BK251.out 0).trans rfl
                                        have hcz90_1 : w87.cell? ⟨gb251, 1, none⟩ = some (u252001) := (blk_cell BK251.out 1).trans rfl
                                        have hfz90_0 := blk_frozen BK251.out 0
                                        have hfz90_1 := blk_frozen BK251.out 1
                                        have hnb91 := NB246_247.out
                                        have hnc91 := NB247_246.out
                                        have hnb92 := NB246_248.out
                                        have hnc92 := NB248_246.out
                                        have hcz93_0 : w87.cell? ⟨gb246, 0, none⟩ = some (.int .i64 x247000_1) := (blk_cell BK246.out 0).trans rfl
                                        have hcz93_1 : w87.cell? ⟨gb246, 1, none⟩ = some (.slice none 0 0) := (blk_cell BK246.out 1).trans rfl
                                        have hfz93_0 := blk_frozen BK246.out 0
                                        have hfz93_1 := blk_frozen BK246.out 1
                                        have hnb94 := NB247_248.out
                                        have hnc94 := NB248_247.out
                                        have hcz95_0 : w87.cell? ⟨gb247, 0, none⟩ = some (.int .i64 x248000_1) := (blk_cell BK247.out 0).trans rfl
                                        have hcz95_1 : w87.cell? ⟨gb247, 1, none⟩ = some (.int .i64 x248001_1) := (blk_cell BK247.out 1).trans rfl
                                        have hfz95_0 := blk_frozen BK247.out 0
                                        have hfz95_1 := blk_frozen BK247.out 1
                                        try go_wp2
                                        refine bodyPost_ret (results_list (rs := [.cell 2 69, .tmp 3, .cell 4 25]) rfl (by simp) (.cell gb246 69 #[.int .i64 x9_46, .slice Ao88 y267.length co88] (0, 0) _ rfl (by (with_reducible repeat (first | refine blk_drewN ?_ _ | refine blk_drew ?_ | refine blk_alloc ?_ _)); refine blk_far ?_ NB246_247.out _; (with_reducible repeat (first | refine blk_drewN ?_ _ | refine blk_drew ?_ | refine blk_alloc ?_ _)); refine blk_far ?_ NB246_247.out _; (with_reducible repeat (first | refine blk_drewN ?_ _ | refine blk_drew ?_ | refine blk_alloc ?_ _)); refine blk_put (cs := #[.int .i64 x9_46, .slice none 0 0]) ?_ 1 _ rfl; (with_reducible repeat (first | refine blk_drewN ?_ _ | refine blk_drew ?_ | refine blk_alloc ?_ _)); refine blk_put (cs := #[.int .i64 x247000_1, .slice none 0 0]) ?_ 0 _ rfl; (with_reducible repeat (first | refine blk_drewN ?_ _ | refine blk_drew ?_ | refine blk_alloc ?_ _)); refine blk_far ?_ NB246_251.out _; (with_reducible repeat (first | refine blk_drewN ?_ _ | refine blk_drew ?_ | refine blk_alloc ?_ _)); exact BK246.out) Tryd.underlying69 rfl (by kernel_rfl) (.tmp (.cell gb247 25 #[.int .i64 0, .int .i64 0] (0, 0) _ rfl (by (with_reducible repeat (first | refine blk_drewN ?_ _ | refine blk_drew ?_ | refine blk_alloc ?_ _)); refine blk_put (cs := #[.int .i64 0, .int .i64 x248001_1]) ?_ 1 _ rfl; (with_reducible repeat (first | refine blk_drewN ?_ _ | refine blk_drew ?_ | refine blk_alloc ?_ _)); refine blk_put (cs := #[.int .i64 x248000_1, .int .i64 x248001_1]) ?_ 0 _ rfl; (with_reducible repeat (first | refine blk_drewN ?_ _ | refine blk_drew ?_ | refine blk_alloc ?_ _)); refine blk_far ?_ NB247_246.out _; (with_reducible repeat (first | refine blk_drewN ?_ _ | refine blk_drew ?_ | refine blk_alloc ?_ _)); refine blk_far ?_ NB247_246.out _; (with_reducible repeat (first | refine blk_drewN ?_ _ | refine blk_drew ?_ | refine blk_alloc ?_ _)); refine blk_far ?_ NB247_251.out _; (with_reducible repeat (first | refine blk_drewN ?_ _ | refine blk_drew ?_ | refine blk_alloc ?_ _)); exact BK247.out) Tryd.underlying25 rfl (by kernel_rfl) .nil)))) rfl ?_
                                        exact ⟨_, by first | rfl | (simp [errW_none, errW_some] <;> rfl) | (simp [*, errW_none, errW_some] <;> rfl), by (with_reducible repeat (first | apply Kd.R_alloc | apply Kd.R_drewN | apply Kd.R_drew)); exact Kd.R_mono (Kd.R_far (p := ⟨gb247, 1, none⟩) (Kd.R_far (p := ⟨gb247, 0, none⟩) (Kd.R_far (p := ⟨gb246, 1, none⟩) (Kd.R_far (p := ⟨gb246, 0, none⟩) (Kd.R_far (p := ⟨gb251, 1, none⟩) (Kd.R_types (Kd.R_types (Kd.R_types HO269.out BK251.out (by decide)) BK246.out (by decide)) BK247.out (by decide)) (fun _ hk => hk.1.1.2) (.slice Ao88 y267.length co88)) (fun _ hk => hk.1.2) (.int .i64 x9_46)) (fun _ hk => hk.1.2) (.slice Ao88 y267.length co88)) (fun _ hk => hk.2) (.int .i64 0)) (fun _ hk => hk.2) (.int .i64 0)) (fun _ hk => trivial), by repeat (first | (with_reducible first | exact HB.out | apply below_alloc | apply pw_below_drewN | apply below_drew1 | refine below_set ?_ GE246.out | refine below_set ?_ GE247.out | refine below_set ?_ GE248.out | refine below_set ?_ GE251.out) | exact HB.out)⟩
                                      · rw [if_neg c80] at H
                                        have c80b0 : ((bt (rdOf ByteArray.empty l0 x7_1) 3) == 32) = false := beq_eq_false_iff_ne.mpr c80
                                        have c80b1 : ((bt (rdOf ByteArray.empty l0 x7_1) 3) != 32) = true := bne_iff_ne.mpr c80
                                        have H' := Aside0.mk H
                                        clear H
                                        have hnb96 := NB251_246.out
                                        have hnc96 := NB246_251.out
                                        have hnb97 := NB251_247.out
                                        have hnc97 := NB247_251.out
                                        have hnb98 := NB251_248.out
                                        have hnc98 := NB248_251.out
                                        have hcz99_0 : wc.cell? ⟨gb251, 0, none⟩ = some (.int .i64 x252000_1) := (blk_cell BK251.out 0).trans rfl
                                        have hcz99_1 : wc.cell? ⟨gb251, 1, none⟩ = some (u252001) := (blk_cell BK251.out 1).trans rfl
                                        have hfz99_0 := blk_frozen BK251.out 0
                                        have hfz99_1 := blk_frozen BK251.out 1
                                        try go_wp2
                                        have n0_ : Aside0 (Kd.R Kd.string 9 (wc.setCell ⟨gb251, 0, none⟩ (.int .i64 x9_46)) w.heap.size (fun _ => True) u252001 x252001_1) := ⟨by (with_reducible repeat (first | apply Kd.R_alloc | apply Kd.R_drewN | apply Kd.R_drew)); exact Kd.R_mono (Kd.R_far (p := ⟨gb251, 0, none⟩) (Kd.R_types HO_252001.out BK251.out (by decide)) (fun _ hk => hk.2) (.int .i64 x9_46)) (fun _ hk => trivial)⟩
                                        have n1_ : Aside0 ((wc.setCell ⟨gb251, 0, none⟩ (.int .i64 x9_46)).heap[gb246]? = some (.cells #[.int .i64 x247000_1, .slice none 0 0] 69 (0, 0))) := ⟨by (with_reducible repeat (first | refine blk_drewN ?_ _ | refine blk_drew ?_ | refine blk_alloc ?_ _)); refine blk_far ?_ NB246_251.out _; (with_reducible repeat (first | refine blk_drewN ?_ _ | refine blk_drew ?_ | refine blk_alloc ?_ _)); exact BK246.out⟩
                                        have n2_ : Aside0 ((wc.setCell ⟨gb251, 0, none⟩ (.int .i64 x9_46)).heap[gb247]? = some (.cells #[.int .i64 x248000_1, .int .i64 x248001_1] 25 (0, 0))) := ⟨by (with_reducible repeat (first | refine blk_drewN ?_ _ | refine blk_drew ?_ | refine blk_alloc ?_ _)); refine blk_far ?_ NB247_251.out _; (with_reducible repeat (first | refine blk_drewN ?_ _ | refine blk_drew ?_ | refine blk_alloc ?_ _)); exact BK247.out⟩
                                        have n3_ : Aside0 ((wc.setCell ⟨gb251, 0, none⟩ (.int .i64 x9_46)).heap[gb248]? = some (.cells #[.int .i64 0, .slice none 0 0] 69 (0, 0))) := ⟨by (with_reducible repeat (first | refine blk_drewN ?_ _ | refine blk_drew ?_ | refine blk_alloc ?_ _)); refine blk_far ?_ NB248_251.out _; (with_reducible repeat (first | refine blk_drewN ?_ _ | refine blk_drew ?_ | refine blk_alloc ?_ _)); exact BK248.out⟩
                                        have n4_ : Aside0 ((wc.setCell ⟨gb251, 0, none⟩ (.int .i64 x9_46)).heap[gb251]? = some (.cells #[.int .i64 x9_46, u252001] 69 (0, 0))) := ⟨by (with_reducible repeat (first | refine blk_drewN ?_ _ | refine blk_drew ?_ | refine blk_alloc ?_ _)); refine blk_put (cs := #[.int .i64 x252000_1, u252001]) ?_ 0 _ rfl; (with_reducible repeat (first | refine blk_drewN ?_ _ | refine blk_drew ?_ | refine blk_alloc ?_ _)); exact BK251.out⟩
                                        have n5_ : Aside0 (Below w.heap.size w (wc.setCell ⟨gb251, 0, none⟩ (.int .i64 x9_46))) := ⟨by repeat (first | (with_reducible first | exact HB.out | apply below_alloc | apply pw_below_drewN | apply below_drew1 | refine below_set ?_ GE246.out | refine below_set ?_ GE247.out | refine below_set ?_ GE248.out | refine below_set ?_ GE251.out) | exact HB.out)⟩
                                        (try clear HO_252001)
                                        (try clear BK246)
                                        (try clear BK247)
                                        (try clear BK248)
                                        (try clear BK251)
                                        (try clear HB)
                                        generalize (wc.setCell ⟨gb251, 0, none⟩ (.int .i64 x9_46)) = w100 at n0_ n1_ n2_ n3_ n4_ n5_ ⊢
                                        have HO_252001 := n0_
                                        have BK246 := n1_
                                        have BK247 := n2_
                                        have BK248 := n3_
                                        have BK251 := n4_
                                        have HB := n5_
                                        clear n0_ n1_ n2_ n3_ n4_ n5_
                                        have n0_ := Aside0.mk (Kd.R_drew HO_252001.out)
                                        have n1_ := Aside0.mk (blk_drew BK246.out)
                                        have n2_ := Aside0.mk (blk_drew BK247.out)
                                        have n3_ := Aside0.mk (blk_drew BK248.out)
                                        have n4_ := Aside0.mk (blk_drew BK251.out)
                                        have n5_ := Aside0.mk (below_drew1 HB.out)
                                        clear HO_252001
                                        clear BK246
                                        clear BK247
                                        clear BK248
                                        clear BK251
                                        clear HB
                                        have HO_252001 := n0_
                                        have BK246 := n1_
                                        have BK247 := n2_
                                        have BK248 := n3_
                                        have BK251 := n4_
                                        have HB := n5_
                                        clear n0_ n1_ n2_ n3_ n4_ n5_
                                        refine start_ (n := 8) (S := fun w' => w'.cell? ⟨gb251, 0, none⟩ = some (.int .i64 x9_46) ∧ w'.cell? ⟨gb251, 1, none⟩ = some (u252001)) (ds := [7]) #[false, false, false, false, false, false, false, false] (by kernel_rfl) rfl rfl ⟨(blk_cell BK251.out 0).trans rfl, (blk_cell BK251.out 1).trans rfl⟩ (fun hHeld => ?_); refine with_tabW posthouseref3_ReplyOf.tab21 posthouseref3_ReplyOf.bits21 (fun HT_ HW_ => ?_)
                                        generalize w100.drew = w101 at HO_252001 BK246 BK247 BK248 BK251 HB hHeld ⊢
                                        refine pure_ (i := 0) (N := some 78) (v := ?_) (a' := ?_) #[true, false, false, false, false, false, false, false] rfl rfl (any_of HT_.out (by kernel_rfl)) (fun _ _ _ h => h) (Or.inl ⟨by rfl, ?_⟩) ?_ ?_
                                        rotate_left
                                        · intro w'
                                          go_simp
                                          with_reducible rfl
                                        rotate_left
                                        · simp only [Act.put, List.setIfInBounds_toArray, List.set_cons_zero, List.set_cons_succ, i64_w, i32_w]
                                          rfl
                                        refine pure_ (i := 2) (N := some 80) (v := ?_) (a' := ?_) #[true, false, true, false, false, false, false, false] rfl rfl (any_of HT_.out (by kernel_rfl)) (fun _ _ _ h => h) (Or.inl ⟨by rfl, ?_⟩) ?_ ?_
                                        rotate_left
                                        · intro w'
                                          go_simp
                                          with_reducible rfl
                                        rotate_left
                                        · simp only [Act.put, List.setIfInBounds_toArray, List.set_cons_zero, List.set_cons_succ, i64_w, i32_w]
                                          rfl
                                        refine pure_ (i := 3) (N := some 81) (v := ?_) (a' := ?_) #[true, false, true, true, false, false, false, false] rfl rfl (any_of HT_.out (by kernel_rfl)) (fun _ _ _ h => h) (Or.inl ⟨by rfl, ?_⟩) ?_ ?_
                                        rotate_left
                                        · intro w'
                                          go_simp
                                          with_reducible rfl
                                        rotate_left
                                        · simp only [Act.put, List.setIfInBounds_toArray, List.set_cons_zero, List.set_cons_succ, i64_w, i32_w]
                                          rfl
                                        refine take_ (i := 1) (N := some 79) (v := ?_) (a' := ?_) #[true, true, true, true, false, false, false, false] rfl rfl (take_ofW HT_.out HW_.out (by kernel_rfl)) (fun _ _ _ h => h) (Or.inl ⟨by rfl, ?_⟩) hHeld ?_ ?_
                                        rotate_left
                                        · rintro w' ⟨s0, s1⟩
                                          go_simp
                                          with_reducible rfl
                                        rotate_left
                                        · simp only [Act.put, List.setIfInBounds_toArray, List.set_cons_zero, List.set_cons_succ, i64_w, i32_w]
                                          rfl
                                        refine one_ (i := 4) (N := some 82) #[true, true, true, true, true, false, false, false] rfl rfl (one_of HT_.out (by kernel_rfl)) (by decide) (fun K hK => ?_)
                                        refine value_ (w1 := ?_) (v := ?_) (by rfl) rfl ?_ ?_
                                        rotate_left 2
                                        · go_simp
                                          constructor
                                          · rfl
                                          · rfl
                                        refine hK.out _ _ ⟨(blk_cell (blk_alloc BK251.out _) 0).trans rfl, (blk_cell (blk_alloc BK251.out _) 1).trans rfl⟩ (fun hHeld => ?_)
                                        clear hK K
                                        refine norm_ (a' := ?_) ?_ ?_
                                        rotate_left
                                        · show Act.put _ (some 82) _ = _
                                          simp only [Act.put, List.setIfInBounds_toArray, List.set_cons_zero, List.set_cons_succ, i64_w, i32_w]
                                          rfl
                                        refine one_ (i := 5) (N := some 83) #[true, true, true, true, true, true, false, false] rfl rfl (one_of HT_.out (by kernel_rfl)) (by decide) (fun K hK => ?_)
                                        refine Kd.R_append_step Kd.string (w0 := w) w.heap.size (by rfl) (.tmp 79) (.tmp 82) 23 9 (.string ⟨#[]⟩) 16 rfl Tryd.underlying23 info9 rfl (by decide) (by omega) u252001 x252001_1 ((rdOf ByteArray.empty l0 x7_1).extract 4 (rdOf ByteArray.empty l0 x7_1).size) [.string ((rdOf ByteArray.empty l0 x7_1).extract 4 (rdOf ByteArray.empty l0 x7_1).size)] (fun _ => True) (fun _ => False) rfl rfl ?aP (fun _ hk => hk.elim) ?aF ?aO ?aB ?aS ?aL ?_
                                        (case aP => exact rfl)
                                        (case aB => exact (by repeat (first | (with_reducible first | exact HB.out | apply below_alloc | apply pw_below_drewN | apply below_drew1 | refine below_set ?_ GE246.out | refine below_set ?_ GE247.out | refine below_set ?_ GE248.out | refine below_set ?_ GE251.out) | exact HB.out)))
                                        (case aF => exact (fun _ _ => trivial))
                                        (case aO => exact (by (with_reducible repeat (first | apply Kd.R_alloc | apply Kd.R_drewN | apply Kd.R_drew)); exact HO_252001.out))
                                        (case aS => exact (below_size (by repeat (first | (with_reducible first | exact HB.out | apply below_alloc | apply pw_below_drewN | apply below_drew1 | refine below_set ?_ GE246.out | refine below_set ?_ GE247.out | refine below_set ?_ GE248.out | refine below_set ?_ GE251.out) | exact HB.out))))
                                        (case aL => have := LMc77.out; (first | omega | exact Nat.le_of_lt this))
                                        intro v268 w102 ho hb hg hat
                                        rw [← Ny267.out] at ho
                                        have n0_ := Aside0.mk (blk_grown (g := gb246) (o := .cells #[.int .i64 x247000_1, .slice none 0 0] 69 (0, 0)) (by (with_reducible repeat (first | refine blk_drewN ?_ _ | refine blk_drew ?_ | refine blk_alloc ?_ _)); exact BK246.out) hg (Kd.R_ne HO_252001.out BK246.out (by decide)))
                                        have n1_ := Aside0.mk (blk_grown (g := gb247) (o := .cells #[.int .i64 x248000_1, .int .i64 x248001_1] 25 (0, 0)) (by (with_reducible repeat (first | refine blk_drewN ?_ _ | refine blk_drew ?_ | refine blk_alloc ?_ _)); exact BK247.out) hg (Kd.R_ne HO_252001.out BK247.out (by decide)))
                                        have n2_ := Aside0.mk (blk_grown (g := gb248) (o := .cells #[.int .i64 0, .slice none 0 0] 69 (0, 0)) (by (with_reducible repeat (first | refine blk_drewN ?_ _ | refine blk_drew ?_ | refine blk_alloc ?_ _)); exact BK248.out) hg (Kd.R_ne HO_252001.out BK248.out (by decide)))
                                        have n3_ := Aside0.mk (blk_grown (g := gb251) (o := .cells #[.int .i64 x9_46, u252001] 69 (0, 0)) (by (with_reducible repeat (first | refine blk_drewN ?_ _ | refine blk_drew ?_ | refine blk_alloc ?_ _)); exact BK251.out) hg (Kd.R_ne HO_252001.out BK251.out (by decide)))
                                        have n4_ := Aside0.mk (hb)
                                        have n5_ := Aside0.mk (ho)
                                        clear BK246
                                        clear BK247
                                        clear BK248
                                        clear BK251
                                        clear HB
                                        clear HO_252001
                                        have BK246 := n0_
                                        have BK247 := n1_
                                        have BK248 := n2_
                                        have BK251 := n3_
                                        have HB := n4_
                                        have HO269 := n5_
                                        clear n0_ n1_ n2_ n3_ n4_ n5_
                                        clear ho hb hg hat
                                        obtain ⟨Ao103, co103, eo103⟩ := Kd.R_slice HO269.out
                                        (first | subst eo103 | (injection eo103 with f1_ f2_ f3_; have f4_ := f1_.symm; have f5_ := f3_.symm; clear f1_ f2_ f3_; subst f4_; subst f5_))
                                        refine hK.out _ _ ⟨(blk_cell BK251.out 0).trans rfl, (blk_cell BK251.out 1).trans rfl⟩ (fun hHeld => ?_)
                                        clear hK K
                                        refine norm_ (a' := ?_) ?_ ?_
                                        rotate_left
                                        · show Act.put _ (some 83) _ = _
                                          simp only [Act.put, List.setIfInBounds_toArray, List.set_cons_zero, List.set_cons_succ, i64_w, i32_w]
                                          rfl
                                        refine pure_ (i := 6) (N := some 84) (v := ?_) (a' := ?_) #[true, true, true, true, true, true, true, false] rfl rfl (any_of HT_.out (by kernel_rfl)) (fun _ _ _ h => h) (Or.inl ⟨by rfl, ?_⟩) ?_ ?_
                                        rotate_left
                                        · intro w'
                                          go_simp
                                          with_reducible rfl
                                        rotate_left
                                        · simp only [Act.put, List.setIfInBounds_toArray, List.set_cons_zero, List.set_cons_succ, i64_w, i32_w]
                                          rfl
                                        refine last_ (i := 7) (N := none) #[true, true, true, true, true, true, true, true] rfl rfl (one_of HT_.out (by kernel_rfl)) (by decide) (fun K hK => ?_)
                                        have hs104 : w102.cell? ⟨gb251, 1, none⟩ = some (u252001) := (blk_cell BK251.out 1).trans rfl
                                        have hfs104 := blk_frozen BK251.out 1
                                        have hns104_0 := NB246_251.out
                                        have hns104_1 := NB247_251.out
                                        have hns104_2 := NB248_251.out
                                        have hms104_0 := NB251_246.out
                                        have hms104_1 := NB251_247.out
                                        have hms104_2 := NB251_248.out
                                        refine skip_ (w1 := ?_) (by rfl) rfl ?_ ?_
                                        rotate_left
                                        · go_simp
                                          rfl
                                        refine hK.out _ _ ?_
                                        clear hK K
                                        refine done_ (done_of HT_.out (by kernel_rfl)) ?_
                                        have p79 : 0 ≤ (3 : Int) := (by omega)
                                        have q79 : 3 < (rdOf ByteArray.empty l0 x7_1).size := (by have : (3 : Int) < ((rdOf ByteArray.empty l0 x7_1).size : Int) := of_decide_eq_true (by first | (with_reducible assumption) | assumption); omega)
                                        have hx79 : ∀ h : 3 < (rdOf ByteArray.empty l0 x7_1).size, (((rdOf ByteArray.empty l0 x7_1)[3]'h).toNat : Int) = bt (rdOf ByteArray.empty l0 x7_1) 3 := bt_at (rdOf ByteArray.empty l0 x7_1) 3
                                        clear p79
                                        have qi79 : (3 < ((rdOf ByteArray.empty l0 x7_1).size : Int)) = True := eq_true (of_decide_eq_true (by first | (with_reducible assumption) | assumption))
                                        replace q79 := eq_true q79
                                        try go_wp2
                                        go_roundg kj61
                                        case measure => have := HK1.out; have := HJ37.out; have := HJ46.out; have := HJ61.out; omega
                                        case rel => exact ⟨(wrap64 (x7_1 + 1)), (x247000_1), (x248000_1), (x248001_1), (x9_46), (y267), (.slice Ao103 y267.length co103), (by first | rfl | (simp; done) | (simp [*]; done)), H', ⟨by have := HK1.out; have := HJ37.out; have := HJ46.out; have := HJ61.out; omega⟩, ⟨by (with_reducible repeat (first | apply Kd.R_alloc | apply Kd.R_drewN | apply Kd.R_drew)); exact Kd.R_mono (Kd.R_far (p := ⟨gb251, 1, none⟩) (Kd.R_types HO269.out BK251.out (by decide)) (fun _ hk => hk.2) (.slice Ao103 y267.length co103)) (fun _ hk => trivial)⟩, ⟨by (with_reducible repeat (first | refine blk_drewN ?_ _ | refine blk_drew ?_ | refine blk_alloc ?_ _)); refine blk_far ?_ NB246_251.out _; (with_reducible repeat (first | refine blk_drewN ?_ _ | refine blk_drew ?_ | refine blk_alloc ?_ _)); exact BK246.out⟩, ⟨by (with_reducible repeat (first | refine blk_drewN ?_ _ | refine blk_drew ?_ | refine blk_alloc ?_ _)); refine blk_far ?_ NB247_251.out _; (with_reducible repeat (first | refine blk_drewN ?_ _ | refine blk_drew ?_ | refine blk_alloc ?_ _)); exact BK247.out⟩, ⟨by (with_reducible repeat (first | refine blk_drewN ?_ _ | refine blk_drew ?_ | refine blk_alloc ?_ _)); refine blk_far ?_ NB248_251.out _; (with_reducible repeat (first | refine blk_drewN ?_ _ | refine blk_drew ?_ | refine blk_alloc ?_ _)); exact BK248.out⟩, ⟨by (with_reducible repeat (first | refine blk_drewN ?_ _ | refine blk_drew ?_ | refine blk_alloc ?_ _)); refine blk_put (cs := #[.int .i64 x9_46, u252001]) ?_ 1 _ rfl; (with_reducible repeat (first | refine blk_drewN ?_ _ | refine blk_drew ?_ | refine blk_alloc ?_ _)); exact BK251.out⟩, ⟨by repeat (first | (with_reducible first | exact HB.out | apply below_alloc | apply pw_below_drewN | apply below_drew1 | refine below_set ?_ GE246.out | refine below_set ?_ GE247.out | refine below_set ?_ GE248.out | refine below_set ?_ GE251.out) | exact HB.out)⟩⟩
                                    · rw [if_neg c78] at H
                                      exact absurd H (by simp)
                                  · rw [if_neg c77] at H
                                    exact absurd H (by simp)
                                · rw [if_neg c76] at H
                                  exact absurd H (by simp)
                      · replace c53 := Bool.eq_false_iff.mpr c53
                        subst c53
                        have H1 : ((posthouseref3_At.f 11 x7_1).bind fun bt261 => (some (0, ([] : List ByteArray), 0, bt261.1, bt261.2))) = some (r1, r2, r3, r4, r5) := by rw [if_neg (show ¬ (false = true) by decide)] at H; exact H
                        clear H
                        have H := H1
                        clear H1
                        replace H := Option.bind_eq_some_iff.mp H
                        obtain ⟨⟨t261, t262⟩, A1050, H⟩ := H
                        replace H : (some (0, ([] : List ByteArray), 0, t261, t262)) = some (r1, r2, r3, r4, r5) := H
                        have A105 := Aside0.mk A1050
                        clear A1050
                        simp only [Option.some.injEq, Prod.mk.injEq] at H
                        obtain ⟨rfl, rfl, rfl, rfl, rfl⟩ := H
                        try go_wp2_with (first | ((with_reducible refine gate_callee (f := 35) rfl ?_); refine goesL_ (some 54) rfl rfl Tryd.func35 (by kernel_rfl) rfl #[.int .i64 x9_46, .int .i64 200, .int .i64 599] rfl (by (try simp only [List.map_toArray, List.map_cons, List.map_nil]); first | done | rfl | (simp only [List.length_drop, List.length_take]; rfl)) ?_; (with_reducible refine (posthouseref3_In.calls x9_46 200 599 false _ A52.out).mono ?_); rintro e w' ⟨rfl, ⟨nd, rfl⟩⟩; refine ⟨_, rfl, ?_⟩; (try (rw [drewN_self wc]; generalize hq_ : World.drewN wc _ = wc; have n0_ : Aside0 (Kd.R Kd.string 9 wc w.heap.size (fun _ => True) u252001 x252001_1) := ⟨by rw [← hq_]; exact (by (with_reducible repeat (first | apply Kd.R_alloc | apply Kd.R_drewN | apply Kd.R_drew)); exact HO_252001.out)⟩; have n1_ : Aside0 (wc.heap[gb246]? = some (.cells #[.int .i64 x247000_1, .slice none 0 0] 69 (0, 0))) := ⟨by rw [← hq_]; exact (by (with_reducible repeat (first | refine blk_drewN ?_ _ | refine blk_drew ?_ | refine blk_alloc ?_ _)); exact BK246.out)⟩; have n2_ : Aside0 (wc.heap[gb247]? = some (.cells #[.int .i64 x248000_1, .int .i64 x248001_1] 25 (0, 0))) := ⟨by rw [← hq_]; exact (by (with_reducible repeat (first | refine blk_drewN ?_ _ | refine blk_drew ?_ | refine blk_alloc ?_ _)); exact BK247.out)⟩; have n3_ : Aside0 (wc.heap[gb248]? = some (.cells #[.int .i64 0, .slice none 0 0] 69 (0, 0))) := ⟨by rw [← hq_]; exact (by (with_reducible repeat (first | refine blk_drewN ?_ _ | refine blk_drew ?_ | refine blk_alloc ?_ _)); exact BK248.out)⟩; have n4_ : Aside0 (wc.heap[gb251]? = some (.cells #[.int .i64 x252000_1, u252001] 69 (0, 0))) := ⟨by rw [← hq_]; exact (by (with_reducible repeat (first | refine blk_drewN ?_ _ | refine blk_drew ?_ | refine blk_alloc ?_ _)); exact BK251.out)⟩; have n5_ : Aside0 (Below w.heap.size w wc) := ⟨by rw [← hq_]; exact (by repeat (first | (with_reducible first | exact HB.out | apply below_alloc | apply pw_below_drewN | apply below_drew1 | refine below_set ?_ GE246.out | refine below_set ?_ GE247.out | refine below_set ?_ GE248.out | refine below_set ?_ GE251.out) | exact HB.out))⟩; clear HO_252001 BK246 BK247 BK248 BK251 HB hq_; have HO_252001 := n0_; have BK246 := n1_; have BK247 := n2_; have BK248 := n3_; have BK251 := n4_; have HB := n5_; clear n0_ n1_ n2_ n3_ n4_ n5_)); (try (have hu246_0 : wc.cell? ⟨gb246, 0, none⟩ = some (.int .i64 x247000_1) := (blk_cell BK246.out 0).trans rfl; have hv246_0 := blk_frozen BK246.out 0)); (try (have hu246_1 : wc.cell? ⟨gb246, 1, none⟩ = some (.slice none 0 0) := (blk_cell BK246.out 1).trans rfl; have hv246_1 := blk_frozen BK246.out 1)); (try (have hu247_0 : wc.cell? ⟨gb247, 0, none⟩ = some (.int .i64 x248000_1) := (blk_cell BK247.out 0).trans rfl; have hv247_0 := blk_frozen BK247.out 0)); (try (have hu247_1 : wc.cell? ⟨gb247, 1, none⟩ = some (.int .i64 x248001_1) := (blk_cell BK247.out 1).trans rfl; have hv247_1 := blk_frozen BK247.out 1)); (try (have hu248_0 : wc.cell? ⟨gb248, 0, none⟩ = some (.int .i64 0) := (blk_cell BK248.out 0).trans rfl; have hv248_0 := blk_frozen BK248.out 0)); (try (have hu248_1 : wc.cell? ⟨gb248, 1, none⟩ = some (.slice none 0 0) := (blk_cell BK248.out 1).trans rfl; have hv248_1 := blk_frozen BK248.out 1)); (try (have hu251_0 : wc.cell? ⟨gb251, 0, none⟩ = some (.int .i64 x252000_1) := (blk_cell BK251.out 0).trans rfl; have hv251_0 := blk_frozen BK251.out 0)); (try (have hu251_1 : wc.cell? ⟨gb251, 1, none⟩ = some (u252001) := (blk_cell BK251.out 1).trans rfl; have hv251_1 := blk_frozen BK251.out 1))))
                        have n0_ := Aside0.mk (Kd.R_drew HO_252001.out)
                        have n1_ := Aside0.mk (blk_drew BK246.out)
                        have n2_ := Aside0.mk (blk_drew BK247.out)
                        have n3_ := Aside0.mk (blk_drew BK248.out)
                        have n4_ := Aside0.mk (blk_drew BK251.out)
                        have n5_ := Aside0.mk (below_drew1 HB.out)
                        clear HO_252001
                        clear BK246
                        clear BK247
                        clear BK248
                        clear BK251
                        clear HB
                        have HO_252001 := n0_
                        have BK246 := n1_
                        have BK247 := n2_
                        have BK248 := n3_
                        have BK251 := n4_
                        have HB := n5_
                        clear n0_ n1_ n2_ n3_ n4_ n5_
                        refine start_ (n := 6) (S := fun w' => w'.cell? ⟨gb248, 0, none⟩ = some (.int .i64 0) ∧ w'.cell? ⟨gb248, 1, none⟩ = some (.slice none 0 0)) (ds := []) #[false, false, false, false, false, false] (by kernel_rfl) rfl rfl ⟨(blk_cell BK248.out 0).trans rfl, (blk_cell BK248.out 1).trans rfl⟩ (fun hHeld => ?_)
                        generalize wc.drew = w106 at HO_252001 BK246 BK247 BK248 BK251 HB hHeld ⊢
                        refine pure_ (i := 1) (N := some 57) (v := ?_) (a' := ?_) #[false, true, false, false, false, false] rfl rfl (by kernel_rfl) (fun _ _ _ h => h) (Or.inl ⟨by rfl, ?_⟩) ?_ ?_
                        rotate_left
                        · intro w'
                          go_simp
                          with_reducible rfl
                        rotate_left
                        · simp only [Act.put, List.setIfInBounds_toArray, List.set_cons_zero, List.set_cons_succ, i64_w, i32_w]
                          rfl
                        refine take_ (i := 0) (N := some 56) (v := ?_) (a' := ?_) #[true, true, false, false, false, false] rfl rfl (by kernel_rfl) (fun _ _ _ h => h) (Or.inl ⟨by rfl, ?_⟩) hHeld ?_ ?_
                        rotate_left
                        · rintro w' ⟨s0, s1⟩
                          go_simp
                          with_reducible rfl
                        rotate_left
                        · simp only [Act.put, List.setIfInBounds_toArray, List.set_cons_zero, List.set_cons_succ, i64_w, i32_w]
                          rfl
                        refine one_ (i := 2) (N := some 58) #[true, true, true, false, false, false] rfl rfl (by kernel_rfl) (by decide) (fun K hK => ?_)
                        refine goes_ Tryd.func31 (by kernel_rfl) rfl #[.int .i64 11, .int .i64 x7_1] (by rfl) rfl rfl (by (try simp only [List.map_toArray, List.map_cons, List.map_nil]); first | done | rfl | (simp only [List.length_drop, List.length_take]; rfl)) ?_
                        with_reducible refine (posthouseref3_At.calls 11 x7_1 t261 t262 _ A105.out).mono ?_
                        rintro e w107 ⟨rfl, hb⟩
                        refine ⟨_, rfl, ?_⟩
                        have n0_ := Aside0.mk (Kd.R_below (by (with_reducible repeat (first | apply Kd.R_alloc | apply Kd.R_drewN | apply Kd.R_drew)); exact HO_252001.out) hb)
                        have n1_ := Aside0.mk (blk_below (g := gb246) (o := .cells #[.int .i64 x247000_1, .slice none 0 0] 69 (0, 0)) (by (with_reducible repeat (first | refine blk_drewN ?_ _ | refine blk_drew ?_ | refine blk_alloc ?_ _)); exact BK246.out) hb)
                        have n2_ := Aside0.mk (blk_below (g := gb247) (o := .cells #[.int .i64 x248000_1, .int .i64 x248001_1] 25 (0, 0)) (by (with_reducible repeat (first | refine blk_drewN ?_ _ | refine blk_drew ?_ | refine blk_alloc ?_ _)); exact BK247.out) hb)
                        have n3_ := Aside0.mk (blk_below (g := gb248) (o := .cells #[.int .i64 0, .slice none 0 0] 69 (0, 0)) (by (with_reducible repeat (first | refine blk_drewN ?_ _ | refine blk_drew ?_ | refine blk_alloc ?_ _)); exact BK248.out) hb)
                        have n4_ := Aside0.mk (blk_below (g := gb251) (o := .cells #[.int .i64 x252000_1, u252001] 69 (0, 0)) (by (with_reducible repeat (first | refine blk_drewN ?_ _ | refine blk_drew ?_ | refine blk_alloc ?_ _)); exact BK251.out) hb)
                        have n5_ := Aside0.mk (below_step (by repeat (first | (with_reducible first | exact HB.out | apply below_alloc | apply pw_below_drewN | apply below_drew1 | refine below_set ?_ GE246.out | refine below_set ?_ GE247.out | refine below_set ?_ GE248.out | refine below_set ?_ GE251.out) | exact HB.out)) hb)
                        clear HO_252001
                        clear BK246
                        clear BK247
                        clear BK248
                        clear BK251
                        clear HB
                        have HO_252001 := n0_
                        have BK246 := n1_
                        have BK247 := n2_
                        have BK248 := n3_
                        have BK251 := n4_
                        have HB := n5_
                        clear n0_ n1_ n2_ n3_ n4_ n5_
                        (try clear hb)
                        (try clear hb2)
                        (try clear hk)
                        (try clear hi)
                        refine hK.out _ _ ⟨(blk_cell BK248.out 0).trans rfl, (blk_cell BK248.out 1).trans rfl⟩ (fun hHeld => ?_)
                        clear hK K
                        refine norm_ (a' := ?_) ?_ ?_
                        rotate_left
                        · show Act.put _ (some 58) _ = _
                          simp only [Act.put, List.setIfInBounds_toArray, List.set_cons_zero, List.set_cons_succ, i64_w, i32_w]
                          rfl
                        refine one_ (i := 3) (N := none) #[true, true, true, true, false, false] rfl rfl (by kernel_rfl) (by decide) (fun K hK => ?_)
                        have hs108 : w107.cell? ⟨gb246, 0, none⟩ = some (.int .i64 x247000_1) := (blk_cell BK246.out 0).trans rfl
                        have hfs108 := blk_frozen BK246.out 0
                        have hns108_1 := NB247_246.out
                        have hns108_2 := NB248_246.out
                        have hns108_3 := NB251_246.out
                        have hms108_1 := NB246_247.out
                        have hms108_2 := NB246_248.out
                        have hms108_3 := NB246_251.out
                        have hs109 : w107.cell? ⟨gb246, 1, none⟩ = some (.slice none 0 0) := (blk_cell BK246.out 1).trans rfl
                        have hfs109 := blk_frozen BK246.out 1
                        have hns109_1 := NB247_246.out
                        have hns109_2 := NB248_246.out
                        have hns109_3 := NB251_246.out
                        have hms109_1 := NB246_247.out
                        have hms109_2 := NB246_248.out
                        have hms109_3 := NB246_251.out
                        refine skip_ (w1 := ?_) (by rfl) rfl ?_ ?_
                        rotate_left
                        · go_simp
                          rfl
                        refine hK.out _ _ ⟨((cell_far (p := ⟨gb246, _, none⟩) NB248_246.out _).trans (((cell_far (p := ⟨gb246, _, none⟩) NB248_246.out _).trans (hHeld.1)))), ((cell_far (p := ⟨gb246, _, none⟩) NB248_246.out _).trans (((cell_far (p := ⟨gb246, _, none⟩) NB248_246.out _).trans (hHeld.2))))⟩ (fun hHeld => ?_)
                        clear hK K
                        refine pure_ (i := 4) (N := some 3) (v := ?_) (a' := ?_) #[true, true, true, true, true, false] rfl rfl (by kernel_rfl) (fun _ _ _ h => h) (Or.inl ⟨by rfl, ?_⟩) ?_ ?_
                        rotate_left
                        · intro w'
                          go_simp
                          with_reducible rfl
                        rotate_left
                        · simp only [Act.put, List.setIfInBounds_toArray, List.set_cons_zero, List.set_cons_succ, i64_w, i32_w]
                          rfl
                        refine one_ (i := 5) (N := none) #[true, true, true, true, true, true] rfl rfl (by kernel_rfl) (by decide) (fun K hK => ?_)
                        have hs110 : w107.cell? ⟨gb247, 0, none⟩ = some (.int .i64 x248000_1) := (blk_cell BK247.out 0).trans rfl
                        have hfs110 := blk_frozen BK247.out 0
                        have hns110_0 := NB246_247.out
                        have hns110_2 := NB248_247.out
                        have hns110_3 := NB251_247.out
                        have hms110_0 := NB247_246.out
                        have hms110_2 := NB247_248.out
                        have hms110_3 := NB247_251.out
                        have hs111 : w107.cell? ⟨gb247, 1, none⟩ = some (.int .i64 x248001_1) := (blk_cell BK247.out 1).trans rfl
                        have hfs111 := blk_frozen BK247.out 1
                        have hns111_0 := NB246_247.out
                        have hns111_2 := NB248_247.out
                        have hns111_3 := NB251_247.out
                        have hms111_0 := NB247_246.out
                        have hms111_2 := NB247_248.out
                        have hms111_3 := NB247_251.out
                        refine skip_ (w1 := ?_) (by rfl) rfl ?_ ?_
                        rotate_left
                        · go_simp
                          rfl
                        refine hK.out _ _ ⟨((cell_far (p := ⟨gb247, _, none⟩) NB248_247.out _).trans (((cell_far (p := ⟨gb247, _, none⟩) NB248_247.out _).trans (hHeld.1)))), ((cell_far (p := ⟨gb247, _, none⟩) NB248_247.out _).trans (((cell_far (p := ⟨gb247, _, none⟩) NB248_247.out _).trans (hHeld.2))))⟩ (fun hHeld => ?_)
                        clear hK K
                        refine done_ (by kernel_rfl) ?_
                        try go_wp2
                        refine bodyPost_ret (results_list (rs := [.cell 2 69, .tmp 3, .cell 4 25]) rfl (by simp) (.cell gb246 69 #[.int .i64 0, .slice none 0 0] (0, 0) _ rfl (by (with_reducible repeat (first | refine blk_drewN ?_ _ | refine blk_drew ?_ | refine blk_alloc ?_ _)); refine blk_far ?_ NB246_247.out _; (with_reducible repeat (first | refine blk_drewN ?_ _ | refine blk_drew ?_ | refine blk_alloc ?_ _)); refine blk_far ?_ NB246_247.out _; (with_reducible repeat (first | refine blk_drewN ?_ _ | refine blk_drew ?_ | refine blk_alloc ?_ _)); refine blk_put (cs := #[.int .i64 0, .slice none 0 0]) ?_ 1 _ rfl; (with_reducible repeat (first | refine blk_drewN ?_ _ | refine blk_drew ?_ | refine blk_alloc ?_ _)); refine blk_put (cs := #[.int .i64 x247000_1, .slice none 0 0]) ?_ 0 _ rfl; (with_reducible repeat (first | refine blk_drewN ?_ _ | refine blk_drew ?_ | refine blk_alloc ?_ _)); exact BK246.out) Tryd.underlying69 rfl (by kernel_rfl) (.tmp (.cell gb247 25 #[.int .i64 t261, .int .i64 t262] (0, 0) _ rfl (by (with_reducible repeat (first | refine blk_drewN ?_ _ | refine blk_drew ?_ | refine blk_alloc ?_ _)); refine blk_put (cs := #[.int .i64 t261, .int .i64 x248001_1]) ?_ 1 _ rfl; (with_reducible repeat (first | refine blk_drewN ?_ _ | refine blk_drew ?_ | refine blk_alloc ?_ _)); refine blk_put (cs := #[.int .i64 x248000_1, .int .i64 x248001_1]) ?_ 0 _ rfl; (with_reducible repeat (first | refine blk_drewN ?_ _ | refine blk_drew ?_ | refine blk_alloc ?_ _)); refine blk_far ?_ NB247_246.out _; (with_reducible repeat (first | refine blk_drewN ?_ _ | refine blk_drew ?_ | refine blk_alloc ?_ _)); refine blk_far ?_ NB247_246.out _; (with_reducible repeat (first | refine blk_drewN ?_ _ | refine blk_drew ?_ | refine blk_alloc ?_ _)); exact BK247.out) Tryd.underlying25 rfl (by kernel_rfl) .nil)))) rfl ?_
                        exact ⟨_, by first | rfl | (simp [errW_none, errW_some] <;> rfl) | (simp [*, errW_none, errW_some] <;> rfl), by first | exact Kd.R_nil _ _ _ _ _ | exact Kd.N_nil _ _ _ _ _ | exact Kd.V_nil _ _ _ _ _ | exact Kd.Q_nil _ _ _ _ _ | exact Kd.S_nil _ _ _ _ _, by repeat (first | (with_reducible first | exact HB.out | apply below_alloc | apply pw_below_drewN | apply below_drew1 | refine below_set ?_ GE246.out | refine below_set ?_ GE247.out | refine below_set ?_ GE248.out | refine below_set ?_ GE251.out) | exact HB.out)⟩
          · rw [if_neg c29] at H
            exact absurd H (by simp)
        · rw [if_neg c28] at H
          have c28b0 : decide (x7_1 < (l0.length : Int)) = false := decide_eq_false c28
          clear c28
          replace H := Option.bind_eq_some_iff.mp H
          obtain ⟨⟨t252, t253⟩, A1120, H⟩ := H
          replace H : (some (0, ([] : List ByteArray), 0, t252, t253)) = some (r1, r2, r3, r4, r5) := H
          have A112 := Aside0.mk A1120
          clear A1120
          simp only [Option.some.injEq, Prod.mk.injEq] at H
          obtain ⟨rfl, rfl, rfl, rfl, rfl⟩ := H
          try go_wp2
          have n0_ := Aside0.mk (Kd.R_drew HO_252001.out)
          have n1_ := Aside0.mk (blk_drew BK246.out)
          have n2_ := Aside0.mk (blk_drew BK247.out)
          have n3_ := Aside0.mk (blk_drew BK248.out)
          have n4_ := Aside0.mk (blk_drew BK251.out)
          have n5_ := Aside0.mk (below_drew1 HB.out)
          clear HO_252001
          clear BK246
          clear BK247
          clear BK248
          clear BK251
          clear HB
          have HO_252001 := n0_
          have BK246 := n1_
          have BK247 := n2_
          have BK248 := n3_
          have BK251 := n4_
          have HB := n5_
          clear n0_ n1_ n2_ n3_ n4_ n5_
          refine start_ (n := 5) (S := fun w' => w'.cell? ⟨gb248, 0, none⟩ = some (.int .i64 0) ∧ w'.cell? ⟨gb248, 1, none⟩ = some (.slice none 0 0)) (ds := []) #[false, false, false, false, false] (by kernel_rfl) rfl rfl ⟨(blk_cell BK248.out 0).trans rfl, (blk_cell BK248.out 1).trans rfl⟩ (fun hHeld => ?_)
          generalize wr.drew = w113 at HO_252001 BK246 BK247 BK248 BK251 HB hHeld ⊢
          refine take_ (i := 0) (N := some 92) (v := ?_) (a' := ?_) #[true, false, false, false, false] rfl rfl (by kernel_rfl) (fun _ _ _ h => h) (Or.inl ⟨by rfl, ?_⟩) hHeld ?_ ?_
          rotate_left
          · rintro w' ⟨s0, s1⟩
            go_simp
            with_reducible rfl
          rotate_left
          · simp only [Act.put, List.setIfInBounds_toArray, List.set_cons_zero, List.set_cons_succ, i64_w, i32_w]
            rfl
          refine one_ (i := 1) (N := some 93) #[true, true, false, false, false] rfl rfl (by kernel_rfl) (by decide) (fun K hK => ?_)
          refine goes_ Tryd.func31 (by kernel_rfl) rfl #[.int .i64 9, .int .i64 (-2)] (by rfl) rfl rfl (by (try simp only [List.map_toArray, List.map_cons, List.map_nil]); first | done | rfl | (simp only [List.length_drop, List.length_take]; rfl)) ?_
          with_reducible refine (posthouseref3_At.calls 9 (-2) t252 t253 _ A112.out).mono ?_
          rintro e w114 ⟨rfl, hb⟩
          refine ⟨_, rfl, ?_⟩
          have n0_ := Aside0.mk (Kd.R_below (by (with_reducible repeat (first | apply Kd.R_alloc | apply Kd.R_drewN | apply Kd.R_drew)); exact HO_252001.out) hb)
          have n1_ := Aside0.mk (blk_below (g := gb246) (o := .cells #[.int .i64 x247000_1, .slice none 0 0] 69 (0, 0)) (by (with_reducible repeat (first | refine blk_drewN ?_ _ | refine blk_drew ?_ | refine blk_alloc ?_ _)); exact BK246.out) hb)
          have n2_ := Aside0.mk (blk_below (g := gb247) (o := .cells #[.int .i64 x248000_1, .int .i64 x248001_1] 25 (0, 0)) (by (with_reducible repeat (first | refine blk_drewN ?_ _ | refine blk_drew ?_ | refine blk_alloc ?_ _)); exact BK247.out) hb)
          have n3_ := Aside0.mk (blk_below (g := gb248) (o := .cells #[.int .i64 0, .slice none 0 0] 69 (0, 0)) (by (with_reducible repeat (first | refine blk_drewN ?_ _ | refine blk_drew ?_ | refine blk_alloc ?_ _)); exact BK248.out) hb)
          have n4_ := Aside0.mk (blk_below (g := gb251) (o := .cells #[.int .i64 x252000_1, u252001] 69 (0, 0)) (by (with_reducible repeat (first | refine blk_drewN ?_ _ | refine blk_drew ?_ | refine blk_alloc ?_ _)); exact BK251.out) hb)
          have n5_ := Aside0.mk (below_step (by repeat (first | (with_reducible first | exact HB.out | apply below_alloc | apply pw_below_drewN | apply below_drew1 | refine below_set ?_ GE246.out | refine below_set ?_ GE247.out | refine below_set ?_ GE248.out | refine below_set ?_ GE251.out) | exact HB.out)) hb)
          clear HO_252001
          clear BK246
          clear BK247
          clear BK248
          clear BK251
          clear HB
          have HO_252001 := n0_
          have BK246 := n1_
          have BK247 := n2_
          have BK248 := n3_
          have BK251 := n4_
          have HB := n5_
          clear n0_ n1_ n2_ n3_ n4_ n5_
          (try clear hb)
          (try clear hb2)
          (try clear hk)
          (try clear hi)
          refine hK.out _ _ ⟨(blk_cell BK248.out 0).trans rfl, (blk_cell BK248.out 1).trans rfl⟩ (fun hHeld => ?_)
          clear hK K
          refine norm_ (a' := ?_) ?_ ?_
          rotate_left
          · show Act.put _ (some 93) _ = _
            simp only [Act.put, List.setIfInBounds_toArray, List.set_cons_zero, List.set_cons_succ, i64_w, i32_w]
            rfl
          refine one_ (i := 2) (N := none) #[true, true, true, false, false] rfl rfl (by kernel_rfl) (by decide) (fun K hK => ?_)
          have hs115 : w114.cell? ⟨gb246, 0, none⟩ = some (.int .i64 x247000_1) := (blk_cell BK246.out 0).trans rfl
          have hfs115 := blk_frozen BK246.out 0
          have hns115_1 := NB247_246.out
          have hns115_2 := NB248_246.out
          have hns115_3 := NB251_246.out
          have hms115_1 := NB246_247.out
          have hms115_2 := NB246_248.out
          have hms115_3 := NB246_251.out
          have hs116 : w114.cell? ⟨gb246, 1, none⟩ = some (.slice none 0 0) := (blk_cell BK246.out 1).trans rfl
          have hfs116 := blk_frozen BK246.out 1
          have hns116_1 := NB247_246.out
          have hns116_2 := NB248_246.out
          have hns116_3 := NB251_246.out
          have hms116_1 := NB246_247.out
          have hms116_2 := NB246_248.out
          have hms116_3 := NB246_251.out
          refine skip_ (w1 := ?_) (by rfl) rfl ?_ ?_
          rotate_left
          · go_simp
            rfl
          refine hK.out _ _ ⟨((cell_far (p := ⟨gb246, _, none⟩) NB248_246.out _).trans (((cell_far (p := ⟨gb246, _, none⟩) NB248_246.out _).trans (hHeld.1)))), ((cell_far (p := ⟨gb246, _, none⟩) NB248_246.out _).trans (((cell_far (p := ⟨gb246, _, none⟩) NB248_246.out _).trans (hHeld.2))))⟩ (fun hHeld => ?_)
          clear hK K
          refine pure_ (i := 3) (N := some 3) (v := ?_) (a' := ?_) #[true, true, true, true, false] rfl rfl (by kernel_rfl) (fun _ _ _ h => h) (Or.inl ⟨by rfl, ?_⟩) ?_ ?_
          rotate_left
          · intro w'
            go_simp
            with_reducible rfl
          rotate_left
          · simp only [Act.put, List.setIfInBounds_toArray, List.set_cons_zero, List.set_cons_succ, i64_w, i32_w]
            rfl
          refine one_ (i := 4) (N := none) #[true, true, true, true, true] rfl rfl (by kernel_rfl) (by decide) (fun K hK => ?_)
          have hs117 : w114.cell? ⟨gb247, 0, none⟩ = some (.int .i64 x248000_1) := (blk_cell BK247.out 0).trans rfl
          have hfs117 := blk_frozen BK247.out 0
          have hns117_0 := NB246_247.out
          have hns117_2 := NB248_247.out
          have hns117_3 := NB251_247.out
          have hms117_0 := NB247_246.out
          have hms117_2 := NB247_248.out
          have hms117_3 := NB247_251.out
          have hs118 : w114.cell? ⟨gb247, 1, none⟩ = some (.int .i64 x248001_1) := (blk_cell BK247.out 1).trans rfl
          have hfs118 := blk_frozen BK247.out 1
          have hns118_0 := NB246_247.out
          have hns118_2 := NB248_247.out
          have hns118_3 := NB251_247.out
          have hms118_0 := NB247_246.out
          have hms118_2 := NB247_248.out
          have hms118_3 := NB247_251.out
          refine skip_ (w1 := ?_) (by rfl) rfl ?_ ?_
          rotate_left
          · go_simp
            rfl
          refine hK.out _ _ ⟨((cell_far (p := ⟨gb247, _, none⟩) NB248_247.out _).trans (((cell_far (p := ⟨gb247, _, none⟩) NB248_247.out _).trans (hHeld.1)))), ((cell_far (p := ⟨gb247, _, none⟩) NB248_247.out _).trans (((cell_far (p := ⟨gb247, _, none⟩) NB248_247.out _).trans (hHeld.2))))⟩ (fun hHeld => ?_)
          clear hK K
          refine done_ (by kernel_rfl) ?_
          try go_wp2
          refine bodyPost_ret (results_list (rs := [.cell 2 69, .tmp 3, .cell 4 25]) rfl (by simp) (.cell gb246 69 #[.int .i64 0, .slice none 0 0] (0, 0) _ rfl (by (with_reducible repeat (first | refine blk_drewN ?_ _ | refine blk_drew ?_ | refine blk_alloc ?_ _)); refine blk_far ?_ NB246_247.out _; (with_reducible repeat (first | refine blk_drewN ?_ _ | refine blk_drew ?_ | refine blk_alloc ?_ _)); refine blk_far ?_ NB246_247.out _; (with_reducible repeat (first | refine blk_drewN ?_ _ | refine blk_drew ?_ | refine blk_alloc ?_ _)); refine blk_put (cs := #[.int .i64 0, .slice none 0 0]) ?_ 1 _ rfl; (with_reducible repeat (first | refine blk_drewN ?_ _ | refine blk_drew ?_ | refine blk_alloc ?_ _)); refine blk_put (cs := #[.int .i64 x247000_1, .slice none 0 0]) ?_ 0 _ rfl; (with_reducible repeat (first | refine blk_drewN ?_ _ | refine blk_drew ?_ | refine blk_alloc ?_ _)); exact BK246.out) Tryd.underlying69 rfl (by kernel_rfl) (.tmp (.cell gb247 25 #[.int .i64 t252, .int .i64 t253] (0, 0) _ rfl (by (with_reducible repeat (first | refine blk_drewN ?_ _ | refine blk_drew ?_ | refine blk_alloc ?_ _)); refine blk_put (cs := #[.int .i64 t252, .int .i64 x248001_1]) ?_ 1 _ rfl; (with_reducible repeat (first | refine blk_drewN ?_ _ | refine blk_drew ?_ | refine blk_alloc ?_ _)); refine blk_put (cs := #[.int .i64 x248000_1, .int .i64 x248001_1]) ?_ 0 _ rfl; (with_reducible repeat (first | refine blk_drewN ?_ _ | refine blk_drew ?_ | refine blk_alloc ?_ _)); refine blk_far ?_ NB247_246.out _; (with_reducible repeat (first | refine blk_drewN ?_ _ | refine blk_drew ?_ | refine blk_alloc ?_ _)); refine blk_far ?_ NB247_246.out _; (with_reducible repeat (first | refine blk_drewN ?_ _ | refine blk_drew ?_ | refine blk_alloc ?_ _)); exact BK247.out) Tryd.underlying25 rfl (by kernel_rfl) .nil)))) rfl ?_
          exact ⟨_, by first | rfl | (simp [errW_none, errW_some] <;> rfl) | (simp [*, errW_none, errW_some] <;> rfl), by first | exact Kd.R_nil _ _ _ _ _ | exact Kd.N_nil _ _ _ _ _ | exact Kd.V_nil _ _ _ _ _ | exact Kd.Q_nil _ _ _ _ _ | exact Kd.S_nil _ _ _ _ _, by repeat (first | (with_reducible first | exact HB.out | apply below_alloc | apply pw_below_drewN | apply below_drew1 | refine below_set ?_ GE246.out | refine below_set ?_ GE247.out | refine below_set ?_ GE248.out | refine below_set ?_ GE251.out) | exact HB.out)⟩

end Go.Proofs.YtbmeebhcanknmaaDoor.XRep
