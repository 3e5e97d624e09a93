-- Laid by a program of this session's (xprint.py) over the print's text; contracts proved by hand stand among them. Lean checks it.
import Derived.Test.YtbmeebhcanknmaaDoorXEvmx0
import Derived.Test.YtbmeebhcanknmaaDoorXEvmx29
namespace Go.Proofs.YtbmeebhcanknmaaDoor.XEvm
open Go.RowKit Go.Proofs.YtbmeebhcanknmaaDoorW.PrintWords Go.Proofs.YtbmeebhcanknmaaDoorW.PrintLast Go.Proofs.YtbmeebhcanknmaaDoorW.PrintMore
attribute [local go_sem] max2_int min2_int max_two min_two max_three min_three max_four min_four   -- for this text's walks alone
set_option linter.unusedVariables false
set_option linter.unusedSimpArgs false

/-! ### posthouseref3_FieldLines: function 138 -/
mutual
def posthouseref3_FieldLines.l0 : Nat → ByteArray → Int → List ByteArray → Option (List ByteArray)
 | 0, _, _, _ => none
 | k + 1, x5, x6, x7 => if (x5.size : Int) > 78 then (posthouseref3_FieldLines.l1 k x5 x6 x7 0 78) else (if x7.length < 8796093022208 then (some (x7 ++ [x5])) else (none))
def posthouseref3_FieldLines.l1 : Nat → ByteArray → Int → List ByteArray → Int → Int → Option (List ByteArray)
 | 0, _, _, _, _, _ => none
 | k + 1, x5, x6, x7, x8, x9 => if x9 > 0 then (posthouseref3_FieldLines.j2 k x5 x6 x7 x8 x9 (x8 == 0)) else (posthouseref3_FieldLines.j2 k x5 x6 x7 x8 x9 false)
def posthouseref3_FieldLines.j2 : Nat → ByteArray → Int → List ByteArray → Int → Int → Bool → Option (List ByteArray)
 | 0, _, _, _, _, _, _ => none
 | k + 1, x5, x6, x7, x8, x9, x26 => if x26 = true then (if x9 ≥ x6 then (if 0 ≤ x9 then (if x9 < (x5.size : Int) then ((posthouseref3_blank.f (bt x5 x9)).bind fun t258 => (if t258 = true then (if 0 ≤ (wrap64 (x9 - 1)) then (if (wrap64 (x9 - 1)) < (x5.size : Int) then ((posthouseref3_blank.f (bt x5 (wrap64 (x9 - 1)))).bind fun t259 => (if t259 = true then (posthouseref3_FieldLines.l1 k x5 x6 x7 x8 (wrap64 (x9 - 1))) else (posthouseref3_FieldLines.l1 k x5 x6 x7 x9 (wrap64 (x9 - 1))))) else (none)) else (none)) else (posthouseref3_FieldLines.l1 k x5 x6 x7 x8 (wrap64 (x9 - 1))))) else (none)) else (none)) else (posthouseref3_FieldLines.l1 k x5 x6 x7 x8 (wrap64 (x9 - 1)))) else (posthouseref3_FieldLines.l2 k x5 x6 x7 x8 79)
def posthouseref3_FieldLines.l2 : Nat → ByteArray → Int → List ByteArray → Int → Int → Option (List ByteArray)
 | 0, _, _, _, _, _ => none
 | k + 1, x5, x6, x7, x8, x10 => if x10 < (x5.size : Int) then (posthouseref3_FieldLines.j4 k x5 x6 x7 x8 x10 (x8 == 0)) else (posthouseref3_FieldLines.j4 k x5 x6 x7 x8 x10 false)
def posthouseref3_FieldLines.j4 : Nat → ByteArray → Int → List ByteArray → Int → Int → Bool → Option (List ByteArray)
 | 0, _, _, _, _, _, _ => none
 | k + 1, x5, x6, x7, x8, x10, x54 => if x54 = true then (if x10 ≥ x6 then (if 0 ≤ x10 then (if x10 < (x5.size : Int) then ((posthouseref3_blank.f (bt x5 x10)).bind fun t266 => (if t266 = true then (if 0 ≤ (wrap64 (x10 - 1)) then (if (wrap64 (x10 - 1)) < (x5.size : Int) then ((posthouseref3_blank.f (bt x5 (wrap64 (x10 - 1)))).bind fun t267 => (if t267 = true then (posthouseref3_FieldLines.l2 k x5 x6 x7 x8 (wrap64 (x10 + 1))) else (posthouseref3_FieldLines.l2 k x5 x6 x7 x10 (wrap64 (x10 + 1))))) else (none)) else (none)) else (posthouseref3_FieldLines.l2 k x5 x6 x7 x8 (wrap64 (x10 + 1))))) else (none)) else (none)) else (posthouseref3_FieldLines.l2 k x5 x6 x7 x8 (wrap64 (x10 + 1)))) else (if x8 = 0 then (if x7.length < 8796093022208 then (some (x7 ++ [x5])) else (none)) else (if 0 ≤ x8 then (if x8 ≤ (x5.size : Int) then (if x7.length < 8796093022208 then (posthouseref3_FieldLines.l0 k (x5.extract (x8 : Int).toNat x5.size) 1 (x7 ++ [x5.extract 0 (x8 : Int).toNat])) else (none)) else (none)) else (none)))
end
def posthouseref3_FieldLines.f (k : Nat) (a0 : ByteArray) (a1 : ByteArray) : Option (List ByteArray) := if a0.size + 2 ≤ 9223372036854775807 then (if (a0 ++ (⟨#[58, 32]⟩ : ByteArray)).size + a1.size ≤ 9223372036854775807 then (posthouseref3_FieldLines.l0 k ((a0 ++ (⟨#[58, 32]⟩ : ByteArray)) ++ a1) (wrap64 ((a0.size : Int) + 2)) ([] : List ByteArray)) else (none)) else (none)
theorem posthouseref3_FieldLines.mono_l : ∀ k, (∀ y0 y1 y2, LeO (posthouseref3_FieldLines.l0 k y0 y1 y2) (posthouseref3_FieldLines.l0 (k + 1) y0 y1 y2)) ∧ (∀ y0 y1 y2 y3 y4, LeO (posthouseref3_FieldLines.l1 k y0 y1 y2 y3 y4) (posthouseref3_FieldLines.l1 (k + 1) y0 y1 y2 y3 y4)) ∧ (∀ y0 y1 y2 y3 y4 y5, LeO (posthouseref3_FieldLines.j2 k y0 y1 y2 y3 y4 y5) (posthouseref3_FieldLines.j2 (k + 1) y0 y1 y2 y3 y4 y5)) ∧ (∀ y0 y1 y2 y3 y4, LeO (posthouseref3_FieldLines.l2 k y0 y1 y2 y3 y4) (posthouseref3_FieldLines.l2 (k + 1) y0 y1 y2 y3 y4)) ∧ (∀ y0 y1 y2 y3 y4 y5, LeO (posthouseref3_FieldLines.j4 k y0 y1 y2 y3 y4 y5) (posthouseref3_FieldLines.j4 (k + 1) y0 y1 y2 y3 y4 y5))
 | 0 => ⟨fun _ _ _ r h => by simp [posthouseref3_FieldLines.l0] at h, fun _ _ _ _ _ r h => by simp [posthouseref3_FieldLines.l1] at h, fun _ _ _ _ _ _ r h => by simp [posthouseref3_FieldLines.j2] at h, fun _ _ _ _ _ r h => by simp [posthouseref3_FieldLines.l2] at h, fun _ _ _ _ _ _ r h => by simp [posthouseref3_FieldLines.j4] at h⟩
 | k + 1 => by
  obtain ⟨ih0, ih1, ih2, ih3, ih4⟩ := posthouseref3_FieldLines.mono_l k
  refine ⟨?_, ?_, ?_, ?_, ?_⟩
  ·
   intro y0 y1 y2
   unfold posthouseref3_FieldLines.l0
   repeat' first
   | (with_reducible exact ih0 _ _ _)
   | (with_reducible exact ih1 _ _ _ _ _)
   | (with_reducible exact ih2 _ _ _ _ _ _)
   | (with_reducible exact ih3 _ _ _ _ _)
   | (with_reducible exact ih4 _ _ _ _ _ _)
   | (with_reducible exact LeO.refl _)
   | (with_reducible exact LeO.none _)
   | (with_reducible refine LeO.ite ?_ ?_)
   | (with_reducible refine LeO.bind ?_ (fun _ => ?_))
   | exact ih0 _ _ _
   | exact ih1 _ _ _ _ _
   | exact ih2 _ _ _ _ _ _
   | exact ih3 _ _ _ _ _
   | exact ih4 _ _ _ _ _ _
   | exact LeO.none _
   | refine LeO.ite ?_ ?_
   | refine LeO.bind ?_ (fun _ => ?_)
  ·
   intro y0 y1 y2 y3 y4
   unfold posthouseref3_FieldLines.l1
   repeat' first
   | (with_reducible exact ih0 _ _ _)
   | (with_reducible exact ih1 _ _ _ _ _)
   | (with_reducible exact ih2 _ _ _ _ _ _)
   | (with_reducible exact ih3 _ _ _ _ _)
   | (with_reducible exact ih4 _ _ _ _ _ _)
   | (with_reducible exact LeO.refl _)
   | (with_reducible exact LeO.none _)
   | (with_reducible refine LeO.ite ?_ ?_)
   | (with_reducible refine LeO.bind ?_ (fun _ => ?_))
   | exact ih0 _ _ _
   | exact ih1 _ _ _ _ _
   | exact ih2 _ _ _ _ _ _
   | exact ih3 _ _ _ _ _
   | exact ih4 _ _ _ _ _ _
   | exact LeO.none _
   | refine LeO.ite ?_ ?_
   | refine LeO.bind ?_ (fun _ => ?_)
  ·
   intro y0 y1 y2 y3 y4 y5
   unfold posthouseref3_FieldLines.j2
   repeat' first
   | (with_reducible exact ih0 _ _ _)
   | (with_reducible exact ih1 _ _ _ _ _)
   | (with_reducible exact ih2 _ _ _ _ _ _)
   | (with_reducible exact ih3 _ _ _ _ _)
   | (with_reducible exact ih4 _ _ _ _ _ _)
   | (with_reducible exact LeO.refl _)
   | (with_reducible exact LeO.none _)
   | (with_reducible refine LeO.ite ?_ ?_)
   | (with_reducible refine LeO.bind ?_ (fun _ => ?_))
   | exact ih0 _ _ _
   | exact ih1 _ _ _ _ _
   | exact ih2 _ _ _ _ _ _
   | exact ih3 _ _ _ _ _
   | exact ih4 _ _ _ _ _ _
   | exact LeO.none _
   | refine LeO.ite ?_ ?_
   | refine LeO.bind ?_ (fun _ => ?_)
  ·
   intro y0 y1 y2 y3 y4
   unfold posthouseref3_FieldLines.l2
   repeat' first
   | (with_reducible exact ih0 _ _ _)
   | (with_reducible exact ih1 _ _ _ _ _)
   | (with_reducible exact ih2 _ _ _ _ _ _)
   | (with_reducible exact ih3 _ _ _ _ _)
   | (with_reducible exact ih4 _ _ _ _ _ _)
   | (with_reducible exact LeO.refl _)
   | (with_reducible exact LeO.none _)
   | (with_reducible refine LeO.ite ?_ ?_)
   | (with_reducible refine LeO.bind ?_ (fun _ => ?_))
   | exact ih0 _ _ _
   | exact ih1 _ _ _ _ _
   | exact ih2 _ _ _ _ _ _
   | exact ih3 _ _ _ _ _
   | exact ih4 _ _ _ _ _ _
   | exact LeO.none _
   | refine LeO.ite ?_ ?_
   | refine LeO.bind ?_ (fun _ => ?_)
  ·
   intro y0 y1 y2 y3 y4 y5
   unfold posthouseref3_FieldLines.j4
   repeat' first
   | (with_reducible exact ih0 _ _ _)
   | (with_reducible exact ih1 _ _ _ _ _)
   | (with_reducible exact ih2 _ _ _ _ _ _)
   | (with_reducible exact ih3 _ _ _ _ _)
   | (with_reducible exact ih4 _ _ _ _ _ _)
   | (with_reducible exact LeO.refl _)
   | (with_reducible exact LeO.none _)
   | (with_reducible refine LeO.ite ?_ ?_)
   | (with_reducible refine LeO.bind ?_ (fun _ => ?_))
   | exact ih0 _ _ _
   | exact ih1 _ _ _ _ _
   | exact ih2 _ _ _ _ _ _
   | exact ih3 _ _ _ _ _
   | exact ih4 _ _ _ _ _ _
   | exact LeO.none _
   | refine LeO.ite ?_ ?_
   | refine LeO.bind ?_ (fun _ => ?_)
theorem posthouseref3_FieldLines.mono : ∀ a0 a1 k, LeO (posthouseref3_FieldLines.f k a0 a1) (posthouseref3_FieldLines.f (k + 1) a0 a1) := by
 intro a0 a1 k
 obtain ⟨ih0, ih1, ih2, ih3, ih4⟩ := posthouseref3_FieldLines.mono_l k
 unfold posthouseref3_FieldLines.f
 repeat' first
   | (with_reducible exact ih0 _ _ _)
   | (with_reducible exact ih1 _ _ _ _ _)
   | (with_reducible exact ih2 _ _ _ _ _ _)
   | (with_reducible exact ih3 _ _ _ _ _)
   | (with_reducible exact ih4 _ _ _ _ _ _)
   | (with_reducible exact LeO.refl _)
   | (with_reducible exact LeO.none _)
   | (with_reducible refine LeO.ite ?_ ?_)
   | (with_reducible refine LeO.bind ?_ (fun _ => ?_))
   | exact ih0 _ _ _
   | exact ih1 _ _ _ _ _
   | exact ih2 _ _ _ _ _ _
   | exact ih3 _ _ _ _ _
   | exact ih4 _ _ _ _ _ _
   | exact LeO.none _
   | refine LeO.ite ?_ ?_
   | refine LeO.bind ?_ (fun _ => ?_)
set_option maxHeartbeats 8000000 in
set_option maxRecDepth 100000 in
theorem posthouseref3_FieldLines.calls (k : Nat) (a0 : ByteArray) (a1 : ByteArray) (r : List ByteArray) (w : World) (h : posthouseref3_FieldLines.f k a0 a1 = some r) :
  Calls Tryd.prog 138 #[.string a0, .string a1] w fun e w' => ∃ v0_ : Value, e = .returned (v0_) ∧ Kd.R Kd.string 9 w' w.heap.size (fun _ => True) v0_ r ∧ Below w.heap.size w w' := by
 have HB := Aside0.mk (Below.refl w.heap.size w)
 have H : (if a0.size + 2 ≤ 9223372036854775807 then (if (a0 ++ (⟨#[58, 32]⟩ : ByteArray)).size + a1.size ≤ 9223372036854775807 then (posthouseref3_FieldLines.l0 k ((a0 ++ (⟨#[58, 32]⟩ : ByteArray)) ++ a1) (wrap64 ((a0.size : Int) + 2)) ([] : List ByteArray)) else (none)) else (none)) = some r := h
 clear h
 by_cases c3 : a0.size + 2 ≤ 9223372036854775807
 ·
  rw [if_pos c3] at H
  have c3b0 := eq_true c3
  have c3b1 : decide (a0.size + 2 ≤ 9223372036854775807) = true := decide_eq_true c3
  try have c3b2 : (9223372036854775807 < a0.size + 2) = False := eq_false (Nat.not_lt.2 c3)
  by_cases c4 : (a0 ++ (⟨#[58, 32]⟩ : ByteArray)).size + a1.size ≤ 9223372036854775807
  ·
   rw [if_pos c4] at H
   have c4b0 := eq_true c4
   have c4b1 : decide ((a0 ++ (⟨#[58, 32]⟩ : ByteArray)).size + a1.size ≤ 9223372036854775807) = true := decide_eq_true c4
   try have c4b2 : (9223372036854775807 < (a0 ++ (⟨#[58, 32]⟩ : ByteArray)).size + a1.size) = False := eq_false (Nat.not_lt.2 c4)
   have H' := Aside0.mk H
   clear H
   go_enter Tryd.func138, Tryd.ntmps138
   go_wp2
   go_loopg [5, 6, 7] k (fun kq v5 v6 v7 w' => ∃ (x5_1 : ByteArray) (x6_1 : Int) (x7_1 : List ByteArray), v5 = .string x5_1 ∧ v6 = .int .i64 x6_1 ∧ Aside0 (posthouseref3_FieldLines.l0 kq x5_1 x6_1 x7_1 = some r) ∧ Aside0 (kq ≤ k) ∧ Aside0 (Kd.R Kd.string 9 w' w.heap.size (fun _ => True) v7 x7_1) ∧ Aside0 (Below w.heap.size w w'))
   case atStart => exact ⟨((a0 ++ (⟨#[58, 32]⟩ : ByteArray)) ++ a1), (wrap64 ((a0.size : Int) + 2)), (([] : List ByteArray)), (by first | rfl | (simp; done) | (simp [*]; done) | (simp [*]; unfold wrap64; omega)), (by first | rfl | (simp; done) | (simp [*]; done) | (simp [*]; unfold wrap64; omega)), H', ⟨Nat.le_refl _⟩, ⟨by first | exact Kd.R_nil _ _ _ _ _ | exact Kd.N_nil _ _ _ _ _ | exact Kd.V_nil _ _ _ _ _ | exact Kd.Q_nil _ _ _ _ _ | exact Kd.S_nil _ _ _ _ _⟩, ⟨by repeat (first | (with_reducible first | exact HB.out | apply below_alloc | apply pw_below_drewN | apply below_drew1) | exact HB.out)⟩⟩
   case round =>
    clear H'
    try clear c1
    try clear p2
    try clear c3
    try clear c3b0
    try clear c3b1
    try clear c3b2
    try clear c4
    try clear c4b0
    try clear c4b1
    try clear c4b2
    obtain ⟨x5_1, x6_1, x7_1, rfl, rfl, HA, HK1, HO_7, HB⟩ := hrel
    cases gk with
    | zero => exact absurd HA.out (by simp [posthouseref3_FieldLines.l0])
    | succ k1 =>
     have H := HA.out
     clear HA
     simp only [posthouseref3_FieldLines.l0] at H
     by_cases c5 : (x5_1.size : Int) > 78
     ·
      rw [if_pos c5] at H
      have c5b0 : decide (78 < (x5_1.size : Int)) = true := decide_eq_true c5
      have c5b1 : decide (78 < x5_1.size) = true := decide_eq_true (by omega)
      clear c5
      have H' := Aside0.mk H
      clear H
      go_wp2
      go_loopg [8, 9] k1 (fun kq v8 v9 w' => ∃ (x8_2 : Int) (x9_2 : Int), v8 = .int .i64 x8_2 ∧ v9 = .int .i64 x9_2 ∧ Aside0 (posthouseref3_FieldLines.l1 kq x5_1 x6_1 x7_1 x8_2 x9_2 = some r) ∧ Aside0 (kq ≤ k1) ∧ Aside0 (Kd.R Kd.string 9 w' w.heap.size (fun _ => True) u7 x7_1) ∧ Aside0 (Below w.heap.size w w'))
      case atStart => exact ⟨(0), (78), rs_, rs_, H', ⟨Nat.le_refl _⟩, ⟨by (with_reducible repeat (first | apply Kd.R_alloc | apply Kd.R_drewN | apply Kd.R_drew)); exact HO_7.out⟩, ⟨by repeat (first | (with_reducible first | exact HB.out | apply below_alloc | apply pw_below_drewN | apply below_drew1) | exact HB.out)⟩⟩
      case round =>
       clear H'
       try clear c1
       try clear p2
       try clear c3
       try clear c3b0
       try clear c3b1
       try clear c3b2
       try clear c4
       try clear c4b0
       try clear c4b1
       try clear c4b2
       try clear c5
       try clear c5b0
       try clear c5b1
       try clear p2
       obtain ⟨x8_2, x9_2, rfl, rfl, HA, HK2, HO_7, HB⟩ := hrel
       cases gk with
       | zero => exact absurd HA.out (by simp [posthouseref3_FieldLines.l1])
       | succ k2 =>
        have H := HA.out
        clear HA
        simp only [posthouseref3_FieldLines.l1] at H
        have HC6 := Aside0.mk H
        clear H
        go_upto_region 7 with (fail)
        go_cut [26] (fun v26 wc => ∃ (kq : Nat) (x26_5 : Bool), v26 = .bool x26_5 ∧ Aside0 (posthouseref3_FieldLines.j2 kq x5_1 x6_1 x7_1 x8_2 x9_2 x26_5 = some r) ∧ Aside0 (kq ≤ k2) ∧ Aside0 (Kd.R Kd.string 9 wc w.heap.size (fun _ => True) u7 x7_1) ∧ Aside0 (Below w.heap.size w wc))
        case first =>
         have H := HC6.out
         clear HC6
         by_cases c7 : x9_2 > 0
         ·
          rw [if_pos c7] at H
          have c7b0 : decide (0 < x9_2) = true := decide_eq_true c7
          clear c7
          (first | rw [c7b0] | (simp only [i64_w, i32_w]; rw [c7b0]) | skip)
          have H' := Aside0.mk H
          clear H
          go_wp2
          go_meet
          case rel => exact ⟨_, ((x8_2 == 0)), rs_, H', ⟨by have := HK1.out; have := HK2.out; first | omega | exact Nat.le_refl _⟩, ⟨by (with_reducible repeat (first | apply Kd.R_alloc | apply Kd.R_drewN | apply Kd.R_drew)); exact HO_7.out⟩, ⟨by repeat (first | (with_reducible first | exact HB.out | apply below_alloc | apply pw_below_drewN | apply below_drew1) | exact HB.out)⟩⟩
         ·
          rw [if_neg c7] at H
          have c7b0 : decide (0 < x9_2) = false := decide_eq_false c7
          clear c7
          (first | rw [c7b0] | (simp only [i64_w, i32_w]; rw [c7b0]) | skip)
          have H' := Aside0.mk H
          clear H
          go_wp2
          go_meet
          case rel => exact ⟨_, (false), rs_, H', ⟨by have := HK1.out; have := HK2.out; first | omega | exact Nat.le_refl _⟩, ⟨by (with_reducible repeat (first | apply Kd.R_alloc | apply Kd.R_drewN | apply Kd.R_drew)); exact HO_7.out⟩, ⟨by repeat (first | (with_reducible first | exact HB.out | apply below_alloc | apply pw_below_drewN | apply below_drew1) | exact HB.out)⟩⟩
        case rest =>
         clear HC6
         try clear c1
         try clear p2
         try clear c3
         try clear c3b0
         try clear c3b1
         try clear c3b2
         try clear c4
         try clear c4b0
         try clear c4b1
         try clear c4b2
         try clear c5
         try clear c5b0
         try clear c5b1
         try clear p6
         try clear c7
         try clear c7b0
         try clear p2
         obtain ⟨kq, x26_5, rfl, HA, HJ5, HO_7, HB⟩ := hcut
         cases kq with
         | zero => exact absurd HA.out (by simp [posthouseref3_FieldLines.j2])
         | succ kj5 =>
          have H := HA.out
          clear HA
          simp only [posthouseref3_FieldLines.j2] at H
          by_cases c8 : x26_5 = true
          ·
           subst c8
           have H1 : (if x9_2 ≥ x6_1 then (if 0 ≤ x9_2 then (if x9_2 < (x5_1.size : Int) then ((posthouseref3_blank.f (bt x5_1 x9_2)).bind fun t258 => (if t258 = true then (if 0 ≤ (wrap64 (x9_2 - 1)) then (if (wrap64 (x9_2 - 1)) < (x5_1.size : Int) then ((posthouseref3_blank.f (bt x5_1 (wrap64 (x9_2 - 1)))).bind fun t259 => (if t259 = true then (posthouseref3_FieldLines.l1 kj5 x5_1 x6_1 x7_1 x8_2 (wrap64 (x9_2 - 1))) else (posthouseref3_FieldLines.l1 kj5 x5_1 x6_1 x7_1 x9_2 (wrap64 (x9_2 - 1))))) else (none)) else (none)) else (posthouseref3_FieldLines.l1 kj5 x5_1 x6_1 x7_1 x8_2 (wrap64 (x9_2 - 1))))) else (none)) else (none)) else (posthouseref3_FieldLines.l1 kj5 x5_1 x6_1 x7_1 x8_2 (wrap64 (x9_2 - 1)))) = some r := by rw [if_pos rfl] at H; exact H
           clear H
           have H := H1
           clear H1
           by_cases c9 : x9_2 ≥ x6_1
           ·
            rw [if_pos c9] at H
            have c9b0 : decide (x6_1 ≤ x9_2) = true := decide_eq_true c9
            clear c9
            by_cases c10 : 0 ≤ x9_2
            ·
             rw [if_pos c10] at H
             have c10b0 : decide (0 ≤ x9_2) = true := decide_eq_true c10
             clear c10
             by_cases c11 : x9_2 < (x5_1.size : Int)
             ·
              rw [if_pos c11] at H
              have c11b0 : decide (x9_2 < (x5_1.size : Int)) = true := decide_eq_true c11
              clear c11
              replace H := Option.bind_eq_some_iff.mp H
              obtain ⟨t258, A130, H⟩ := H
              replace H : (if t258 = true then (if 0 ≤ (wrap64 (x9_2 - 1)) then (if (wrap64 (x9_2 - 1)) < (x5_1.size : Int) then ((posthouseref3_blank.f (bt x5_1 (wrap64 (x9_2 - 1)))).bind fun t259 => (if t259 = true then (posthouseref3_FieldLines.l1 kj5 x5_1 x6_1 x7_1 x8_2 (wrap64 (x9_2 - 1))) else (posthouseref3_FieldLines.l1 kj5 x5_1 x6_1 x7_1 x9_2 (wrap64 (x9_2 - 1))))) else (none)) else (none)) else (posthouseref3_FieldLines.l1 kj5 x5_1 x6_1 x7_1 x8_2 (wrap64 (x9_2 - 1)))) = some r := H
              have A13 := Aside0.mk A130
              clear A130
              by_cases c14 : t258 = true
              ·
               subst c14
               have H1 : (if 0 ≤ (wrap64 (x9_2 - 1)) then (if (wrap64 (x9_2 - 1)) < (x5_1.size : Int) then ((posthouseref3_blank.f (bt x5_1 (wrap64 (x9_2 - 1)))).bind fun t259 => (if t259 = true then (posthouseref3_FieldLines.l1 kj5 x5_1 x6_1 x7_1 x8_2 (wrap64 (x9_2 - 1))) else (posthouseref3_FieldLines.l1 kj5 x5_1 x6_1 x7_1 x9_2 (wrap64 (x9_2 - 1))))) else (none)) else (none)) = some r := by rw [if_pos rfl] at H; exact H
               clear H
               have H := H1
               clear H1
               obtain ⟨ji15, hji15⟩ : ∃ j_ : Int, (wrap64 (x9_2 - 1)) = j_ := ⟨_, rfl⟩
               replace H : (if 0 ≤ (ji15) then (if (ji15) < (x5_1.size : Int) then ((posthouseref3_blank.f (bt x5_1 (ji15))).bind fun t259 => (if t259 = true then (posthouseref3_FieldLines.l1 kj5 x5_1 x6_1 x7_1 x8_2 ji15) else (posthouseref3_FieldLines.l1 kj5 x5_1 x6_1 x7_1 x9_2 ji15))) else (none)) else (none)) = some r := by first | (rw [hji15] at H; exact H) | (simp only [hji15] at H ⊢; exact H)
               (try rw [hji15] at A13)
               have hji15w : (IntKind.i64.wrap (x9_2 - 1)) = ji15 := (i64_w _).trans hji15
               by_cases c16 : 0 ≤ (ji15)
               ·
                rw [if_pos c16] at H
                have c16b0 : decide (0 ≤ (ji15)) = true := decide_eq_true c16
                clear c16
                by_cases c17 : (ji15) < (x5_1.size : Int)
                ·
                 rw [if_pos c17] at H
                 have c17b0 : decide ((ji15) < (x5_1.size : Int)) = true := decide_eq_true c17
                 clear c17
                 replace H := Option.bind_eq_some_iff.mp H
                 obtain ⟨t259, A190, H⟩ := H
                 replace H : (if t259 = true then (posthouseref3_FieldLines.l1 kj5 x5_1 x6_1 x7_1 x8_2 ji15) else (posthouseref3_FieldLines.l1 kj5 x5_1 x6_1 x7_1 x9_2 ji15)) = some r := H
                 have A19 := Aside0.mk A190
                 clear A190
                 by_cases c20 : t259 = true
                 ·
                  subst c20
                  have H1 : (posthouseref3_FieldLines.l1 kj5 x5_1 x6_1 x7_1 x8_2 ji15) = some r := by rw [if_pos rfl] at H; exact H
                  clear H
                  have H := H1
                  clear H1
                  have H' := Aside0.mk H
                  clear H
                  have p12 : 0 ≤ (x9_2 : Int) := of_decide_eq_true as_
                  have q12 : x9_2 < (x5_1.size : Int) := of_decide_eq_true as_
                  have hx12 := bt_at x5_1 x9_2
                  replace p12 := eq_true p12
                  replace q12 := eq_true q12
                  go_wp2_with (first | (go_at_call 137; (with_reducible refine (posthouseref3_blank.calls (bt x5_1 x9_2) true _ A13.out).mono ?_); rintro e w' ⟨rfl, ⟨nd, rfl⟩⟩; have p18 : 0 ≤ ((ji15) : Int) := of_decide_eq_true as_; have q18 : (ji15) < (x5_1.size : Int) := of_decide_eq_true as_; have hx18 := bt_at x5_1 (ji15); replace p18 := eq_true p18; replace q18 := eq_true q18) | (go_at_call 137; (with_reducible refine (posthouseref3_blank.calls (bt x5_1 (ji15)) true _ A19.out).mono ?_); rintro e w' ⟨rfl, ⟨nd, rfl⟩⟩))
                  go_roundg kj5
                  case measure => have := HK1.out; have := HK2.out; have := HJ5.out; omega
                  case rel => exact ⟨(x8_2), (ji15), rs_, (by first | rfl | (simp; done) | (simp only [← hji15] <;> (first | rfl | simp)) | (simp [*]; done)), H', ⟨by have := HK1.out; have := HK2.out; have := HJ5.out; omega⟩, ⟨by (with_reducible repeat (first | apply Kd.R_alloc | apply Kd.R_drewN | apply Kd.R_drew)); exact HO_7.out⟩, ⟨by repeat (first | (with_reducible first | exact HB.out | apply below_alloc | apply pw_below_drewN | apply below_drew1) | exact HB.out)⟩⟩
                 ·
                  replace c20 := Bool.eq_false_iff.mpr c20
                  subst c20
                  have H1 : (posthouseref3_FieldLines.l1 kj5 x5_1 x6_1 x7_1 x9_2 ji15) = some r := by rw [if_neg (show ¬ (false = true) by decide)] at H; exact H
                  clear H
                  have H := H1
                  clear H1
                  have H' := Aside0.mk H
                  clear H
                  have p12 : 0 ≤ (x9_2 : Int) := of_decide_eq_true as_
                  have q12 : x9_2 < (x5_1.size : Int) := of_decide_eq_true as_
                  have hx12 := bt_at x5_1 x9_2
                  replace p12 := eq_true p12
                  replace q12 := eq_true q12
                  go_wp2_with (first | (go_at_call 137; (with_reducible refine (posthouseref3_blank.calls (bt x5_1 x9_2) true _ A13.out).mono ?_); rintro e w' ⟨rfl, ⟨nd, rfl⟩⟩; have p18 : 0 ≤ ((ji15) : Int) := of_decide_eq_true as_; have q18 : (ji15) < (x5_1.size : Int) := of_decide_eq_true as_; have hx18 := bt_at x5_1 (ji15); replace p18 := eq_true p18; replace q18 := eq_true q18) | (go_at_call 137; (with_reducible refine (posthouseref3_blank.calls (bt x5_1 (ji15)) false _ A19.out).mono ?_); rintro e w' ⟨rfl, ⟨nd, rfl⟩⟩))
                  go_roundg kj5
                  case measure => have := HK1.out; have := HK2.out; have := HJ5.out; omega
                  case rel => exact ⟨(x9_2), (ji15), rs_, (by first | rfl | (simp; done) | (simp only [← hji15] <;> (first | rfl | simp)) | (simp [*]; done)), H', ⟨by have := HK1.out; have := HK2.out; have := HJ5.out; omega⟩, ⟨by (with_reducible repeat (first | apply Kd.R_alloc | apply Kd.R_drewN | apply Kd.R_drew)); exact HO_7.out⟩, ⟨by repeat (first | (with_reducible first | exact HB.out | apply below_alloc | apply pw_below_drewN | apply below_drew1) | exact HB.out)⟩⟩
                ·
                 rw [if_neg c17] at H
                 exact absurd H (by simp)
               ·
                rw [if_neg c16] at H
                exact absurd H (by simp)
              ·
               replace c14 := Bool.eq_false_iff.mpr c14
               subst c14
               have H1 : (posthouseref3_FieldLines.l1 kj5 x5_1 x6_1 x7_1 x8_2 (wrap64 (x9_2 - 1))) = some r := by rw [if_neg (show ¬ (false = true) by decide)] at H; exact H
               clear H
               have H := H1
               clear H1
               have H' := Aside0.mk H
               clear H
               have p12 : 0 ≤ (x9_2 : Int) := of_decide_eq_true as_
               have q12 : x9_2 < (x5_1.size : Int) := of_decide_eq_true as_
               have hx12 := bt_at x5_1 x9_2
               replace p12 := eq_true p12
               replace q12 := eq_true q12
               go_wp2_with (first | (go_at_call 137; (with_reducible refine (posthouseref3_blank.calls (bt x5_1 x9_2) false _ A13.out).mono ?_); rintro e w' ⟨rfl, ⟨nd, rfl⟩⟩))
               go_roundg kj5
               case measure => have := HK1.out; have := HK2.out; have := HJ5.out; omega
               case rel => exact ⟨(x8_2), (wrap64 (x9_2 - 1)), rs_, rs_, H', ⟨by have := HK1.out; have := HK2.out; have := HJ5.out; omega⟩, ⟨by (with_reducible repeat (first | apply Kd.R_alloc | apply Kd.R_drewN | apply Kd.R_drew)); exact HO_7.out⟩, ⟨by repeat (first | (with_reducible first | exact HB.out | apply below_alloc | apply pw_below_drewN | apply below_drew1) | exact HB.out)⟩⟩
             ·
              rw [if_neg c11] at H
              exact absurd H (by simp)
            ·
             rw [if_neg c10] at H
             exact absurd H (by simp)
           ·
            rw [if_neg c9] at H
            have c9b0 : decide (x6_1 ≤ x9_2) = false := decide_eq_false c9
            clear c9
            have H' := Aside0.mk H
            clear H
            go_wp2
            go_roundg kj5
            case measure => have := HK1.out; have := HK2.out; have := HJ5.out; omega
            case rel => exact ⟨(x8_2), (wrap64 (x9_2 - 1)), rs_, rs_, H', ⟨by have := HK1.out; have := HK2.out; have := HJ5.out; omega⟩, ⟨by (with_reducible repeat (first | apply Kd.R_alloc | apply Kd.R_drewN | apply Kd.R_drew)); exact HO_7.out⟩, ⟨by repeat (first | (with_reducible first | exact HB.out | apply below_alloc | apply pw_below_drewN | apply below_drew1) | exact HB.out)⟩⟩
          ·
           replace c8 := Bool.eq_false_iff.mpr c8
           subst c8
           have H1 : (posthouseref3_FieldLines.l2 kj5 x5_1 x6_1 x7_1 x8_2 79) = some r := by rw [if_neg (show ¬ (false = true) by decide)] at H; exact H
           clear H
           have H := H1
           clear H1
           have H' := Aside0.mk H
           clear H
           go_wp2
           go_loopg [8, 10] kj5 (fun kq v8 v10 w' => ∃ (x8_4 : Int) (x10_4 : Int), v8 = .int .i64 x8_4 ∧ v10 = .int .i64 x10_4 ∧ Aside0 (posthouseref3_FieldLines.l2 kq x5_1 x6_1 x7_1 x8_4 x10_4 = some r) ∧ Aside0 (kq ≤ kj5) ∧ Aside0 (Kd.R Kd.string 9 w' w.heap.size (fun _ => True) u7 x7_1) ∧ Aside0 (Below w.heap.size w w'))
           case atStart => exact ⟨(x8_2), (79), rs_, rs_, H', ⟨Nat.le_refl _⟩, ⟨by (with_reducible repeat (first | apply Kd.R_alloc | apply Kd.R_drewN | apply Kd.R_drew)); exact HO_7.out⟩, ⟨by repeat (first | (with_reducible first | exact HB.out | apply below_alloc | apply pw_below_drewN | apply below_drew1) | exact HB.out)⟩⟩
           case round =>
            clear H'
            try clear c1
            try clear p1
            try clear q1
            try clear hx1
            try clear c2
            try clear p2
            try clear c3
            try clear c3b0
            try clear c3b1
            try clear c3b2
            try clear c4
            try clear c4b0
            try clear c4b1
            try clear c4b2
            try clear c5
            try clear c5b0
            try clear c5b1
            try clear p6
            try clear c7
            try clear c7b0
            try clear c8
            try clear c9
            try clear c9b0
            try clear c10
            try clear c10b0
            try clear c11
            try clear c11b0
            try clear p12
            try clear q12
            try clear hx12
            try clear c13
            try clear c14
            try clear c16
            try clear c16b0
            try clear c17
            try clear c17b0
            try clear p18
            try clear q18
            try clear hx18
            try clear c20
            try clear p12
            try clear p18
            try clear p2
            try clear p6
            try clear q12
            try clear q18
            obtain ⟨x8_4, x10_4, rfl, rfl, HA, HK4, HO_7, HB⟩ := hrel
            cases gk with
            | zero => exact absurd HA.out (by simp [posthouseref3_FieldLines.l2])
            | succ k4 =>
             have H := HA.out
             clear HA
             simp only [posthouseref3_FieldLines.l2] at H
             have HC21 := Aside0.mk H
             clear H
             go_upto_region 12 with (fail)
             go_cut [54] (fun v54 wc => ∃ (kq : Nat) (x54_20 : Bool), v54 = .bool x54_20 ∧ Aside0 (posthouseref3_FieldLines.j4 kq x5_1 x6_1 x7_1 x8_4 x10_4 x54_20 = some r) ∧ Aside0 (kq ≤ k4) ∧ Aside0 (Kd.R Kd.string 9 wc w.heap.size (fun _ => True) u7 x7_1) ∧ Aside0 (Below w.heap.size w wc))
             case first =>
              have H := HC21.out
              clear HC21
              by_cases c22 : x10_4 < (x5_1.size : Int)
              ·
               rw [if_pos c22] at H
               have c22b0 : decide (x10_4 < (x5_1.size : Int)) = true := decide_eq_true c22
               clear c22
               (first | rw [c22b0] | (simp only [i64_w, i32_w]; rw [c22b0]) | skip)
               have H' := Aside0.mk H
               clear H
               go_wp2
               go_meet
               case rel => exact ⟨_, ((x8_4 == 0)), rs_, H', ⟨by have := HK1.out; have := HK2.out; have := HJ5.out; have := HK4.out; first | omega | exact Nat.le_refl _⟩, ⟨by (with_reducible repeat (first | apply Kd.R_alloc | apply Kd.R_drewN | apply Kd.R_drew)); exact HO_7.out⟩, ⟨by repeat (first | (with_reducible first | exact HB.out | apply below_alloc | apply pw_below_drewN | apply below_drew1) | exact HB.out)⟩⟩
              ·
               rw [if_neg c22] at H
               have c22b0 : decide (x10_4 < (x5_1.size : Int)) = false := decide_eq_false c22
               clear c22
               (first | rw [c22b0] | (simp only [i64_w, i32_w]; rw [c22b0]) | skip)
               have H' := Aside0.mk H
               clear H
               go_wp2
               go_meet
               case rel => exact ⟨_, (false), rs_, H', ⟨by have := HK1.out; have := HK2.out; have := HJ5.out; have := HK4.out; first | omega | exact Nat.le_refl _⟩, ⟨by (with_reducible repeat (first | apply Kd.R_alloc | apply Kd.R_drewN | apply Kd.R_drew)); exact HO_7.out⟩, ⟨by repeat (first | (with_reducible first | exact HB.out | apply below_alloc | apply pw_below_drewN | apply below_drew1) | exact HB.out)⟩⟩
             case rest =>
              clear HC21
              try clear c1
              try clear p1
              try clear q1
              try clear hx1
              try clear c2
              try clear p2
              try clear c3
              try clear c3b0
              try clear c3b1
              try clear c3b2
              try clear c4
              try clear c4b0
              try clear c4b1
              try clear c4b2
              try clear c5
              try clear c5b0
              try clear c5b1
              try clear p6
              try clear c7
              try clear c7b0
              try clear c8
              try clear c9
              try clear c9b0
              try clear c10
              try clear c10b0
              try clear c11
              try clear c11b0
              try clear p12
              try clear q12
              try clear hx12
              try clear c13
              try clear c14
              try clear c16
              try clear c16b0
              try clear c17
              try clear c17b0
              try clear p18
              try clear q18
              try clear hx18
              try clear c20
              try clear c22
              try clear c22b0
              try clear p1
              try clear p12
              try clear p18
              try clear p2
              try clear p6
              try clear q1
              try clear q12
              try clear q18
              obtain ⟨kq, x54_20, rfl, HA, HJ20, HO_7, HB⟩ := hcut
              cases kq with
              | zero => exact absurd HA.out (by simp [posthouseref3_FieldLines.j4])
              | succ kj20 =>
               have H := HA.out
               clear HA
               simp only [posthouseref3_FieldLines.j4] at H
               by_cases c23 : x54_20 = true
               ·
                subst c23
                have H1 : (if x10_4 ≥ x6_1 then (if 0 ≤ x10_4 then (if x10_4 < (x5_1.size : Int) then ((posthouseref3_blank.f (bt x5_1 x10_4)).bind fun t266 => (if t266 = true then (if 0 ≤ (wrap64 (x10_4 - 1)) then (if (wrap64 (x10_4 - 1)) < (x5_1.size : Int) then ((posthouseref3_blank.f (bt x5_1 (wrap64 (x10_4 - 1)))).bind fun t267 => (if t267 = true then (posthouseref3_FieldLines.l2 kj20 x5_1 x6_1 x7_1 x8_4 (wrap64 (x10_4 + 1))) else (posthouseref3_FieldLines.l2 kj20 x5_1 x6_1 x7_1 x10_4 (wrap64 (x10_4 + 1))))) else (none)) else (none)) else (posthouseref3_FieldLines.l2 kj20 x5_1 x6_1 x7_1 x8_4 (wrap64 (x10_4 + 1))))) else (none)) else (none)) else (posthouseref3_FieldLines.l2 kj20 x5_1 x6_1 x7_1 x8_4 (wrap64 (x10_4 + 1)))) = some r := by rw [if_pos rfl] at H; exact H
                clear H
                have H := H1
                clear H1
                by_cases c24 : x10_4 ≥ x6_1
                ·
                 rw [if_pos c24] at H
                 have c24b0 : decide (x6_1 ≤ x10_4) = true := decide_eq_true c24
                 clear c24
                 by_cases c25 : 0 ≤ x10_4
                 ·
                  rw [if_pos c25] at H
                  have c25b0 : decide (0 ≤ x10_4) = true := decide_eq_true c25
                  clear c25
                  by_cases c26 : x10_4 < (x5_1.size : Int)
                  ·
                   rw [if_pos c26] at H
                   have c26b0 : decide (x10_4 < (x5_1.size : Int)) = true := decide_eq_true c26
                   clear c26
                   replace H := Option.bind_eq_some_iff.mp H
                   obtain ⟨t266, A280, H⟩ := H
                   replace H : (if t266 = true then (if 0 ≤ (wrap64 (x10_4 - 1)) then (if (wrap64 (x10_4 - 1)) < (x5_1.size : Int) then ((posthouseref3_blank.f (bt x5_1 (wrap64 (x10_4 - 1)))).bind fun t267 => (if t267 = true then (posthouseref3_FieldLines.l2 kj20 x5_1 x6_1 x7_1 x8_4 (wrap64 (x10_4 + 1))) else (posthouseref3_FieldLines.l2 kj20 x5_1 x6_1 x7_1 x10_4 (wrap64 (x10_4 + 1))))) else (none)) else (none)) else (posthouseref3_FieldLines.l2 kj20 x5_1 x6_1 x7_1 x8_4 (wrap64 (x10_4 + 1)))) = some r := H
                   have A28 := Aside0.mk A280
                   clear A280
                   by_cases c29 : t266 = true
                   ·
                    subst c29
                    have H1 : (if 0 ≤ (wrap64 (x10_4 - 1)) then (if (wrap64 (x10_4 - 1)) < (x5_1.size : Int) then ((posthouseref3_blank.f (bt x5_1 (wrap64 (x10_4 - 1)))).bind fun t267 => (if t267 = true then (posthouseref3_FieldLines.l2 kj20 x5_1 x6_1 x7_1 x8_4 (wrap64 (x10_4 + 1))) else (posthouseref3_FieldLines.l2 kj20 x5_1 x6_1 x7_1 x10_4 (wrap64 (x10_4 + 1))))) else (none)) else (none)) = some r := by rw [if_pos rfl] at H; exact H
                    clear H
                    have H := H1
                    clear H1
                    obtain ⟨ji30, hji30⟩ : ∃ j_ : Int, (wrap64 (x10_4 - 1)) = j_ := ⟨_, rfl⟩
                    replace H : (if 0 ≤ (ji30) then (if (ji30) < (x5_1.size : Int) then ((posthouseref3_blank.f (bt x5_1 (ji30))).bind fun t267 => (if t267 = true then (posthouseref3_FieldLines.l2 kj20 x5_1 x6_1 x7_1 x8_4 (wrap64 (x10_4 + 1))) else (posthouseref3_FieldLines.l2 kj20 x5_1 x6_1 x7_1 x10_4 (wrap64 (x10_4 + 1))))) else (none)) else (none)) = some r := by first | (rw [hji30] at H; exact H) | (simp only [hji30] at H ⊢; exact H)
                    (try rw [hji30] at A28)
                    have hji30w : (IntKind.i64.wrap (x10_4 - 1)) = ji30 := (i64_w _).trans hji30
                    by_cases c31 : 0 ≤ (ji30)
                    ·
                     rw [if_pos c31] at H
                     have c31b0 : decide (0 ≤ (ji30)) = true := decide_eq_true c31
                     clear c31
                     by_cases c32 : (ji30) < (x5_1.size : Int)
                     ·
                      rw [if_pos c32] at H
                      have c32b0 : decide ((ji30) < (x5_1.size : Int)) = true := decide_eq_true c32
                      clear c32
                      replace H := Option.bind_eq_some_iff.mp H
                      obtain ⟨t267, A340, H⟩ := H
                      replace H : (if t267 = true then (posthouseref3_FieldLines.l2 kj20 x5_1 x6_1 x7_1 x8_4 (wrap64 (x10_4 + 1))) else (posthouseref3_FieldLines.l2 kj20 x5_1 x6_1 x7_1 x10_4 (wrap64 (x10_4 + 1)))) = some r := H
                      have A34 := Aside0.mk A340
                      clear A340
                      by_cases c35 : t267 = true
                      ·
                       subst c35
                       have H1 : (posthouseref3_FieldLines.l2 kj20 x5_1 x6_1 x7_1 x8_4 (wrap64 (x10_4 + 1))) = some r := by rw [if_pos rfl] at H; exact H
                       clear H
                       have H := H1
                       clear H1
                       have H' := Aside0.mk H
                       clear H
                       have p27 : 0 ≤ (x10_4 : Int) := of_decide_eq_true as_
                       have q27 : x10_4 < (x5_1.size : Int) := of_decide_eq_true as_
                       have hx27 := bt_at x5_1 x10_4
                       replace p27 := eq_true p27
                       replace q27 := eq_true q27
                       go_wp2_with (first | (go_at_call 137; (with_reducible refine (posthouseref3_blank.calls (bt x5_1 x10_4) true _ A28.out).mono ?_); rintro e w' ⟨rfl, ⟨nd, rfl⟩⟩; have p33 : 0 ≤ ((ji30) : Int) := of_decide_eq_true as_; have q33 : (ji30) < (x5_1.size : Int) := of_decide_eq_true as_; have hx33 := bt_at x5_1 (ji30); replace p33 := eq_true p33; replace q33 := eq_true q33) | (go_at_call 137; (with_reducible refine (posthouseref3_blank.calls (bt x5_1 (ji30)) true _ A34.out).mono ?_); rintro e w' ⟨rfl, ⟨nd, rfl⟩⟩))
                       go_roundg kj20
                       case measure => have := HK1.out; have := HK2.out; have := HJ5.out; have := HK4.out; have := HJ20.out; omega
                       case rel => exact ⟨(x8_4), (wrap64 (x10_4 + 1)), rs_, rs_, H', ⟨by have := HK1.out; have := HK2.out; have := HJ5.out; have := HK4.out; have := HJ20.out; omega⟩, ⟨by (with_reducible repeat (first | apply Kd.R_alloc | apply Kd.R_drewN | apply Kd.R_drew)); exact HO_7.out⟩, ⟨by repeat (first | (with_reducible first | exact HB.out | apply below_alloc | apply pw_below_drewN | apply below_drew1) | exact HB.out)⟩⟩
                      ·
                       replace c35 := Bool.eq_false_iff.mpr c35
                       subst c35
                       have H1 : (posthouseref3_FieldLines.l2 kj20 x5_1 x6_1 x7_1 x10_4 (wrap64 (x10_4 + 1))) = some r := by rw [if_neg (show ¬ (false = true) by decide)] at H; exact H
                       clear H
                       have H := H1
                       clear H1
                       have H' := Aside0.mk H
                       clear H
                       have p27 : 0 ≤ (x10_4 : Int) := of_decide_eq_true as_
                       have q27 : x10_4 < (x5_1.size : Int) := of_decide_eq_true as_
                       have hx27 := bt_at x5_1 x10_4
                       replace p27 := eq_true p27
                       replace q27 := eq_true q27
                       go_wp2_with (first | (go_at_call 137; (with_reducible refine (posthouseref3_blank.calls (bt x5_1 x10_4) true _ A28.out).mono ?_); rintro e w' ⟨rfl, ⟨nd, rfl⟩⟩; have p33 : 0 ≤ ((ji30) : Int) := of_decide_eq_true as_; have q33 : (ji30) < (x5_1.size : Int) := of_decide_eq_true as_; have hx33 := bt_at x5_1 (ji30); replace p33 := eq_true p33; replace q33 := eq_true q33) | (go_at_call 137; (with_reducible refine (posthouseref3_blank.calls (bt x5_1 (ji30)) false _ A34.out).mono ?_); rintro e w' ⟨rfl, ⟨nd, rfl⟩⟩))
                       go_roundg kj20
                       case measure => have := HK1.out; have := HK2.out; have := HJ5.out; have := HK4.out; have := HJ20.out; omega
                       case rel => exact ⟨(x10_4), (wrap64 (x10_4 + 1)), rs_, rs_, H', ⟨by have := HK1.out; have := HK2.out; have := HJ5.out; have := HK4.out; have := HJ20.out; omega⟩, ⟨by (with_reducible repeat (first | apply Kd.R_alloc | apply Kd.R_drewN | apply Kd.R_drew)); exact HO_7.out⟩, ⟨by repeat (first | (with_reducible first | exact HB.out | apply below_alloc | apply pw_below_drewN | apply below_drew1) | exact HB.out)⟩⟩
                     ·
                      rw [if_neg c32] at H
                      exact absurd H (by simp)
                    ·
                     rw [if_neg c31] at H
                     exact absurd H (by simp)
                   ·
                    replace c29 := Bool.eq_false_iff.mpr c29
                    subst c29
                    have H1 : (posthouseref3_FieldLines.l2 kj20 x5_1 x6_1 x7_1 x8_4 (wrap64 (x10_4 + 1))) = some r := by rw [if_neg (show ¬ (false = true) by decide)] at H; exact H
                    clear H
                    have H := H1
                    clear H1
                    have H' := Aside0.mk H
                    clear H
                    have p27 : 0 ≤ (x10_4 : Int) := of_decide_eq_true as_
                    have q27 : x10_4 < (x5_1.size : Int) := of_decide_eq_true as_
                    have hx27 := bt_at x5_1 x10_4
                    replace p27 := eq_true p27
                    replace q27 := eq_true q27
                    go_wp2_with (first | (go_at_call 137; (with_reducible refine (posthouseref3_blank.calls (bt x5_1 x10_4) false _ A28.out).mono ?_); rintro e w' ⟨rfl, ⟨nd, rfl⟩⟩))
                    go_roundg kj20
                    case measure => have := HK1.out; have := HK2.out; have := HJ5.out; have := HK4.out; have := HJ20.out; omega
                    case rel => exact ⟨(x8_4), (wrap64 (x10_4 + 1)), rs_, rs_, H', ⟨by have := HK1.out; have := HK2.out; have := HJ5.out; have := HK4.out; have := HJ20.out; omega⟩, ⟨by (with_reducible repeat (first | apply Kd.R_alloc | apply Kd.R_drewN | apply Kd.R_drew)); exact HO_7.out⟩, ⟨by repeat (first | (with_reducible first | exact HB.out | apply below_alloc | apply pw_below_drewN | apply below_drew1) | exact HB.out)⟩⟩
                  ·
                   rw [if_neg c26] at H
                   exact absurd H (by simp)
                 ·
                  rw [if_neg c25] at H
                  exact absurd H (by simp)
                ·
                 rw [if_neg c24] at H
                 have c24b0 : decide (x6_1 ≤ x10_4) = false := decide_eq_false c24
                 clear c24
                 have H' := Aside0.mk H
                 clear H
                 go_wp2
                 go_roundg kj20
                 case measure => have := HK1.out; have := HK2.out; have := HJ5.out; have := HK4.out; have := HJ20.out; omega
                 case rel => exact ⟨(x8_4), (wrap64 (x10_4 + 1)), rs_, rs_, H', ⟨by have := HK1.out; have := HK2.out; have := HJ5.out; have := HK4.out; have := HJ20.out; omega⟩, ⟨by (with_reducible repeat (first | apply Kd.R_alloc | apply Kd.R_drewN | apply Kd.R_drew)); exact HO_7.out⟩, ⟨by repeat (first | (with_reducible first | exact HB.out | apply below_alloc | apply pw_below_drewN | apply below_drew1) | exact HB.out)⟩⟩
               ·
                replace c23 := Bool.eq_false_iff.mpr c23
                subst c23
                have H1 : (if x8_4 = 0 then (if x7_1.length < 8796093022208 then (some (x7_1 ++ [x5_1])) else (none)) else (if 0 ≤ x8_4 then (if x8_4 ≤ (x5_1.size : Int) then (if x7_1.length < 8796093022208 then (posthouseref3_FieldLines.l0 kj20 (x5_1.extract (x8_4 : Int).toNat x5_1.size) 1 (x7_1 ++ [x5_1.extract 0 (x8_4 : Int).toNat])) else (none)) else (none)) else (none))) = some r := by rw [if_neg (show ¬ (false = true) by decide)] at H; exact H
                clear H
                have H := H1
                clear H1
                by_cases c36 : x8_4 = 0
                ·
                 rw [if_pos c36] at H
                 have c36b0 : (x8_4 == 0) = true := beq_iff_eq.mpr c36
                 have c36b1 : (x8_4 != 0) = false := bne_eq_false_iff_eq.mpr c36
                 clear c36
                 by_cases c37 : x7_1.length < 8796093022208
                 ·
                  rw [if_pos c37] at H
                  have LMc37 := Aside0.mk c37
                  clear c37
                  obtain ⟨y260, hy260⟩ : ∃ y_ : List ByteArray, y_ = (x7_1 ++ [x5_1]) := ⟨_, rfl⟩
                  replace H : (some y260) = some r := by first | (rw [hy260]; with_reducible exact H) | (have H2_ := (Option.bind_some _ _).symm.trans H; rw [hy260]; with_reducible exact H2_) | (have H2_ := (Option.bind_some _ _).symm.trans H; with_reducible exact H2_) | with_reducible exact H | (rw [hy260]; exact H) | exact H
                  have Ny260 := Aside0.mk hy260
                  clear hy260
                  obtain rfl := Option.some.inj H
                  go_wp2_with (first | ((with_reducible refine gate_builtin (b := .append) (xs := #[.tmp 86, .tmp 88]) rfl ?_); at_builtin; refine Kd.R_append Kd.string (w0 := w) w.heap.size rfl (.tmp 86) (.tmp 88) 23 9 (.string ⟨#[]⟩) 16 rfl Tryd.underlying23 info9 rfl (by decide) (by omega) u7 x7_1 x5_1 [.string x5_1] (fun _ => True) (fun _ => False) rfl rfl ?aP (fun _ hk => hk.elim) ?aF ?aO ?aB ?aS ?aL ?_; (case aP => exact rfl); (case aB => exact (pb_ HB.out)); (case aF => exact (fun _ _ => trivial)); (case aO => exact (by (with_reducible repeat (first | apply Kd.R_alloc | apply Kd.R_drewN | apply Kd.R_drew)); exact HO_7.out)); (case aS => exact (below_size (pb_ HB.out))); (case aL => have := LMc37.out; (first | omega | exact Nat.le_of_lt this)); intro v261 w38 ho hb hg hat; rw [← Ny260.out] at ho; have n0_ := Aside0.mk (hb); have n1_ := Aside0.mk (ho); clear HB; clear HO_7; have HB := n0_; have HO262 := n1_; clear n0_ n1_; clear ho hb hg hat))
                  go_ret
                  exact ⟨_, by first | rfl | (simp [errW_none, errW_some] <;> rfl) | (simp [*, errW_none, errW_some] <;> rfl), by (with_reducible repeat (first | apply Kd.R_alloc | apply Kd.R_drewN | apply Kd.R_drew)); exact HO262.out, by repeat (first | (with_reducible first | exact HB.out | apply below_alloc | apply pw_below_drewN | apply below_drew1) | exact HB.out)⟩
                 ·
                  rw [if_neg c37] at H
                  exact absurd H (by simp)
                ·
                 rw [if_neg c36] at H
                 have c36b0 : (x8_4 == 0) = false := beq_eq_false_iff_ne.mpr c36
                 have c36b1 : (x8_4 != 0) = true := bne_iff_ne.mpr c36
                 by_cases c39 : 0 ≤ x8_4
                 ·
                  rw [if_pos c39] at H
                  have c39b0 := eq_true c39
                  have c39b1 : decide (0 ≤ x8_4) = true := decide_eq_true c39
                  clear c39
                  by_cases c40 : x8_4 ≤ (x5_1.size : Int)
                  ·
                   rw [if_pos c40] at H
                   have c40b0 := eq_true c40
                   have c40b1 : decide (x8_4 ≤ (x5_1.size : Int)) = true := decide_eq_true c40
                   clear c40
                   by_cases c41 : x7_1.length < 8796093022208
                   ·
                    rw [if_pos c41] at H
                    have LMc41 := Aside0.mk c41
                    clear c41
                    obtain ⟨y263, hy263⟩ : ∃ y_ : List ByteArray, y_ = (x7_1 ++ [x5_1.extract 0 (x8_4 : Int).toNat]) := ⟨_, rfl⟩
                    replace H : (posthouseref3_FieldLines.l0 kj20 (x5_1.extract (x8_4 : Int).toNat x5_1.size) 1 y263) = some r := by first | (rw [hy263]; with_reducible exact H) | (have H2_ := (Option.bind_some _ _).symm.trans H; rw [hy263]; with_reducible exact H2_) | (have H2_ := (Option.bind_some _ _).symm.trans H; with_reducible exact H2_) | with_reducible exact H | (rw [hy263]; exact H) | exact H
                    have Ny263 := Aside0.mk hy263
                    clear hy263
                    have c42b0 := eq_true (of_decide_eq_true as_ : 0 ≤ x8_4)
                    have c43b0 := eq_true (of_decide_eq_true as_ : x8_4 ≤ (x5_1.size : Int))
                    have H' := Aside0.mk H
                    clear H
                    go_wp2_with (first | ((with_reducible refine gate_builtin (b := .append) (xs := #[.tmp 77, .tmp 81]) rfl ?_); at_builtin; refine Kd.R_append Kd.string (w0 := w) w.heap.size rfl (.tmp 77) (.tmp 81) 23 9 (.string ⟨#[]⟩) 16 rfl Tryd.underlying23 info9 rfl (by decide) (by omega) u7 x7_1 (x5_1.extract 0 (x8_4 : Int).toNat) [.string (x5_1.extract 0 (x8_4 : Int).toNat)] (fun _ => True) (fun _ => False) rfl rfl ?aP (fun _ hk => hk.elim) ?aF ?aO ?aB ?aS ?aL ?_; (case aP => exact rfl); (case aB => exact (pb_ HB.out)); (case aF => exact (fun _ _ => trivial)); (case aO => exact (by (with_reducible repeat (first | apply Kd.R_alloc | apply Kd.R_drewN | apply Kd.R_drew)); exact HO_7.out)); (case aS => exact (below_size (pb_ HB.out))); (case aL => have := LMc41.out; (first | omega | exact Nat.le_of_lt this)); intro v264 w44 ho hb hg hat; rw [← Ny263.out] at ho; have n0_ := Aside0.mk (hb); have n1_ := Aside0.mk (ho); clear HB; clear HO_7; have HB := n0_; have HO265 := n1_; clear n0_ n1_; clear ho hb hg hat))
                    go_roundg kj20
                    case measure => have := HK1.out; have := HK2.out; have := HJ5.out; have := HK4.out; have := HJ20.out; omega
                    case rel => exact ⟨(x5_1.extract (x8_4 : Int).toNat x5_1.size), (1), (y263), rs_, rs_, H', ⟨by have := HK1.out; have := HK2.out; have := HJ5.out; have := HK4.out; have := HJ20.out; omega⟩, ⟨by (with_reducible repeat (first | apply Kd.R_alloc | apply Kd.R_drewN | apply Kd.R_drew)); exact HO265.out⟩, ⟨by repeat (first | (with_reducible first | exact HB.out | apply below_alloc | apply pw_below_drewN | apply below_drew1) | exact HB.out)⟩⟩
                   ·
                    rw [if_neg c41] at H
                    exact absurd H (by simp)
                  ·
                   rw [if_neg c40] at H
                   exact absurd H (by simp)
                 ·
                  rw [if_neg c39] at H
                  exact absurd H (by simp)
     ·
      rw [if_neg c5] at H
      have c5b0 : decide (78 < (x5_1.size : Int)) = false := decide_eq_false c5
      have c5b1 : decide (78 < x5_1.size) = false := decide_eq_false (by omega)
      clear c5
      by_cases c45 : x7_1.length < 8796093022208
      ·
       rw [if_pos c45] at H
       have LMc45 := Aside0.mk c45
       clear c45
       obtain ⟨y255, hy255⟩ : ∃ y_ : List ByteArray, y_ = (x7_1 ++ [x5_1]) := ⟨_, rfl⟩
       replace H : (some y255) = some r := by first | (rw [hy255]; with_reducible exact H) | (have H2_ := (Option.bind_some _ _).symm.trans H; rw [hy255]; with_reducible exact H2_) | (have H2_ := (Option.bind_some _ _).symm.trans H; with_reducible exact H2_) | with_reducible exact H | (rw [hy255]; exact H) | exact H
       have Ny255 := Aside0.mk hy255
       clear hy255
       obtain rfl := Option.some.inj H
       go_wp2_with (first | ((with_reducible refine gate_builtin (b := .append) (xs := #[.tmp 86, .tmp 88]) rfl ?_); at_builtin; refine Kd.R_append Kd.string (w0 := w) w.heap.size rfl (.tmp 86) (.tmp 88) 23 9 (.string ⟨#[]⟩) 16 rfl Tryd.underlying23 info9 rfl (by decide) (by omega) u7 x7_1 x5_1 [.string x5_1] (fun _ => True) (fun _ => False) rfl rfl ?aP (fun _ hk => hk.elim) ?aF ?aO ?aB ?aS ?aL ?_; (case aP => exact rfl); (case aB => exact (pb_ HB.out)); (case aF => exact (fun _ _ => trivial)); (case aO => exact (by (with_reducible repeat (first | apply Kd.R_alloc | apply Kd.R_drewN | apply Kd.R_drew)); exact HO_7.out)); (case aS => exact (below_size (pb_ HB.out))); (case aL => have := LMc45.out; (first | omega | exact Nat.le_of_lt this)); intro v256 w46 ho hb hg hat; rw [← Ny255.out] at ho; have n0_ := Aside0.mk (hb); have n1_ := Aside0.mk (ho); clear HB; clear HO_7; have HB := n0_; have HO257 := n1_; clear n0_ n1_; clear ho hb hg hat))
       go_ret
       exact ⟨_, by first | rfl | (simp [errW_none, errW_some] <;> rfl) | (simp [*, errW_none, errW_some] <;> rfl), by (with_reducible repeat (first | apply Kd.R_alloc | apply Kd.R_drewN | apply Kd.R_drew)); exact HO257.out, by repeat (first | (with_reducible first | exact HB.out | apply below_alloc | apply pw_below_drewN | apply below_drew1) | exact HB.out)⟩
      ·
       rw [if_neg c45] at H
       exact absurd H (by simp)
  ·
   rw [if_neg c4] at H
   exact absurd H (by simp)
 ·
  rw [if_neg c3] at H
  exact absurd H (by simp)

end Go.Proofs.YtbmeebhcanknmaaDoor.XEvm
