-- Laid by a program of this session's (xprint.py) over the print's text; contracts proved by hand stand among them. Lean checks it.
import Derived.Test.YtbmeebhcanknmaaDoorXEvmx0
import Derived.Test.YtbmeebhcanknmaaDoorXEvmx3
import Derived.Test.YtbmeebhcanknmaaDoorXEvmx29
import Derived.Test.YtbmeebhcanknmaaDoorXEvmx30
namespace Go.Proofs.YtbmeebhcanknmaaDoor.XEvm
open Go.RowKit Go.Proofs.YtbmeebhcanknmaaDoorW.PrintWords Go.Proofs.YtbmeebhcanknmaaDoorW.PrintLast Go.Proofs.YtbmeebhcanknmaaDoorW.PrintMore
attribute [local go_sem] max2_int min2_int max_two min_two max_three min_three max_four min_four   -- for this text's walks alone
set_option linter.unusedVariables false
set_option linter.unusedSimpArgs false

/-! ### posthouseref3_FieldCode: function 120 -/
mutual
def posthouseref3_FieldCode.l0 : Nat → Int → ByteArray → ByteArray → Option (Int)
 | 0, _, _, _ => none
 | k + 1, x3, x269000, x269001 => if x3 < (x269000.size : Int) then (if 0 ≤ x3 then ((posthouseref3_In.f (wrap64 (bt x269000 x3)) 33 126).bind fun t269 => (if t269 = true then (if (bt x269000 x3) = 58 then (some 10) else (posthouseref3_FieldCode.l0 k (wrap64 (x3 + 1)) x269000 x269001)) else (some 10))) else (none)) else ((posthouseref3_In.f (x269000.size : Int) 1 60).bind fun t270 => (if t270 = true then (if (x269001.size : Int) > 4000 then (some 1) else (posthouseref3_FieldCode.l1 k (x269001.size : Int) 0 x269000 x269001)) else (some 10)))
def posthouseref3_FieldCode.l1 : Nat → Int → Int → ByteArray → ByteArray → Option (Int)
 | 0, _, _, _, _ => none
 | k + 1, x4, x5, x269000, x269001 => if x5 < x4 then (if 0 ≤ x5 then (if x5 < (x269001.size : Int) then (if (bt x269001 x5) = 0 then (some 11) else (if (bt x269001 x5) = 10 then (some 11) else (if (bt x269001 x5) = 13 then (some 11) else (posthouseref3_FieldCode.l1 k x4 (wrap64 (x5 + 1)) x269000 x269001)))) else (none)) else (none)) else (if x4 > 0 then (if 0 < (x269001.size : Int) then ((posthouseref3_blank.f (bt x269001 0)).bind fun t271 => (if t271 = true then (posthouseref3_FieldCode.j2 k true x269000 x269001) else (if 0 ≤ (wrap64 (x4 - 1)) then (if (wrap64 (x4 - 1)) < (x269001.size : Int) then ((posthouseref3_blank.f (bt x269001 (wrap64 (x4 - 1)))).bind fun t272 => (posthouseref3_FieldCode.j2 k t272 x269000 x269001)) else (none)) else (none)))) else (none)) else (posthouseref3_FieldCode.j2 k false x269000 x269001))
def posthouseref3_FieldCode.j2 : Nat → Bool → ByteArray → ByteArray → Option (Int)
 | 0, _, _, _ => none
 | k + 1, x80, x269000, x269001 => if x80 = true then (some 11) else ((posthouseref3_FieldLines.f k x269000 x269001).bind fun t273 => (posthouseref3_FieldCode.l2 k t273 0))
def posthouseref3_FieldCode.l2 : Nat → List ByteArray → Int → Option (Int)
 | 0, _, _ => none
 | k + 1, x6, x7 => if x7 < (x6.length : Int) then (if 0 ≤ x7 then (if ((rdOf ByteArray.empty x6 x7).size : Int) > 998 then (some 1) else (posthouseref3_FieldCode.l2 k x6 (wrap64 (x7 + 1)))) else (none)) else (some 0)
end
def posthouseref3_FieldCode.f (k : Nat) (a0_0 : ByteArray) (a0_1 : ByteArray) : Option (Int) := posthouseref3_FieldCode.l0 k 0 a0_0 a0_1
theorem posthouseref3_FieldCode.mono_l : ∀ k, (∀ y0 y1 y2, LeO (posthouseref3_FieldCode.l0 k y0 y1 y2) (posthouseref3_FieldCode.l0 (k + 1) y0 y1 y2)) ∧ (∀ y0 y1 y2 y3, LeO (posthouseref3_FieldCode.l1 k y0 y1 y2 y3) (posthouseref3_FieldCode.l1 (k + 1) y0 y1 y2 y3)) ∧ (∀ y0 y1 y2, LeO (posthouseref3_FieldCode.j2 k y0 y1 y2) (posthouseref3_FieldCode.j2 (k + 1) y0 y1 y2)) ∧ (∀ y0 y1, LeO (posthouseref3_FieldCode.l2 k y0 y1) (posthouseref3_FieldCode.l2 (k + 1) y0 y1))
 | 0 => ⟨fun _ _ _ r h => by simp [posthouseref3_FieldCode.l0] at h, fun _ _ _ _ r h => by simp [posthouseref3_FieldCode.l1] at h, fun _ _ _ r h => by simp [posthouseref3_FieldCode.j2] at h, fun _ _ r h => by simp [posthouseref3_FieldCode.l2] at h⟩
 | k + 1 => by
  obtain ⟨ih0, ih1, ih2, ih3⟩ := posthouseref3_FieldCode.mono_l k
  refine ⟨?_, ?_, ?_, ?_⟩
  ·
   intro y0 y1 y2
   unfold posthouseref3_FieldCode.l0
   repeat' first
   | (with_reducible exact ih0 _ _ _)
   | (with_reducible exact ih1 _ _ _ _)
   | (with_reducible exact ih2 _ _ _)
   | (with_reducible exact ih3 _ _)
   | (with_reducible exact posthouseref3_FieldLines.mono _ _ _)
   | (with_reducible exact LeO.refl _)
   | (with_reducible exact LeO.none _)
   | (with_reducible refine LeO.ite ?_ ?_)
   | (with_reducible refine LeO.bind ?_ (fun _ => ?_))
   | exact ih0 _ _ _
   | exact ih1 _ _ _ _
   | exact ih2 _ _ _
   | exact ih3 _ _
   | exact posthouseref3_FieldLines.mono _ _ _
   | exact LeO.none _
   | refine LeO.ite ?_ ?_
   | refine LeO.bind ?_ (fun _ => ?_)
  ·
   intro y0 y1 y2 y3
   unfold posthouseref3_FieldCode.l1
   repeat' first
   | (with_reducible exact ih0 _ _ _)
   | (with_reducible exact ih1 _ _ _ _)
   | (with_reducible exact ih2 _ _ _)
   | (with_reducible exact ih3 _ _)
   | (with_reducible exact posthouseref3_FieldLines.mono _ _ _)
   | (with_reducible exact LeO.refl _)
   | (with_reducible exact LeO.none _)
   | (with_reducible refine LeO.ite ?_ ?_)
   | (with_reducible refine LeO.bind ?_ (fun _ => ?_))
   | exact ih0 _ _ _
   | exact ih1 _ _ _ _
   | exact ih2 _ _ _
   | exact ih3 _ _
   | exact posthouseref3_FieldLines.mono _ _ _
   | exact LeO.none _
   | refine LeO.ite ?_ ?_
   | refine LeO.bind ?_ (fun _ => ?_)
  ·
   intro y0 y1 y2
   unfold posthouseref3_FieldCode.j2
   repeat' first
   | (with_reducible exact ih0 _ _ _)
   | (with_reducible exact ih1 _ _ _ _)
   | (with_reducible exact ih2 _ _ _)
   | (with_reducible exact ih3 _ _)
   | (with_reducible exact posthouseref3_FieldLines.mono _ _ _)
   | (with_reducible exact LeO.refl _)
   | (with_reducible exact LeO.none _)
   | (with_reducible refine LeO.ite ?_ ?_)
   | (with_reducible refine LeO.bind ?_ (fun _ => ?_))
   | exact ih0 _ _ _
   | exact ih1 _ _ _ _
   | exact ih2 _ _ _
   | exact ih3 _ _
   | exact posthouseref3_FieldLines.mono _ _ _
   | exact LeO.none _
   | refine LeO.ite ?_ ?_
   | refine LeO.bind ?_ (fun _ => ?_)
  ·
   intro y0 y1
   unfold posthouseref3_FieldCode.l2
   repeat' first
   | (with_reducible exact ih0 _ _ _)
   | (with_reducible exact ih1 _ _ _ _)
   | (with_reducible exact ih2 _ _ _)
   | (with_reducible exact ih3 _ _)
   | (with_reducible exact posthouseref3_FieldLines.mono _ _ _)
   | (with_reducible exact LeO.refl _)
   | (with_reducible exact LeO.none _)
   | (with_reducible refine LeO.ite ?_ ?_)
   | (with_reducible refine LeO.bind ?_ (fun _ => ?_))
   | exact ih0 _ _ _
   | exact ih1 _ _ _ _
   | exact ih2 _ _ _
   | exact ih3 _ _
   | exact posthouseref3_FieldLines.mono _ _ _
   | exact LeO.none _
   | refine LeO.ite ?_ ?_
   | refine LeO.bind ?_ (fun _ => ?_)
theorem posthouseref3_FieldCode.mono : ∀ a0 a1 k, LeO (posthouseref3_FieldCode.f k a0 a1) (posthouseref3_FieldCode.f (k + 1) a0 a1) := by
 intro a0 a1 k
 obtain ⟨ih0, ih1, ih2, ih3⟩ := posthouseref3_FieldCode.mono_l k
 unfold posthouseref3_FieldCode.f
 repeat' first
   | (with_reducible exact ih0 _ _ _)
   | (with_reducible exact ih1 _ _ _ _)
   | (with_reducible exact ih2 _ _ _)
   | (with_reducible exact ih3 _ _)
   | (with_reducible exact posthouseref3_FieldLines.mono _ _ _)
   | (with_reducible exact LeO.refl _)
   | (with_reducible exact LeO.none _)
   | (with_reducible refine LeO.ite ?_ ?_)
   | (with_reducible refine LeO.bind ?_ (fun _ => ?_))
   | exact ih0 _ _ _
   | exact ih1 _ _ _ _
   | exact ih2 _ _ _
   | exact ih3 _ _
   | exact posthouseref3_FieldLines.mono _ _ _
   | exact LeO.none _
   | refine LeO.ite ?_ ?_
   | refine LeO.bind ?_ (fun _ => ?_)
set_option maxHeartbeats 8000000 in
set_option maxRecDepth 100000 in
theorem posthouseref3_FieldCode.calls (k : Nat) (a0_0 : ByteArray) (a0_1 : ByteArray) (r : Int) (w : World) (h : posthouseref3_FieldCode.f k a0_0 a0_1 = some r) :
  Calls Tryd.prog 120 #[.agg #[.string a0_0, .string a0_1]] w fun e w' => e = .returned (.int .i64 r) ∧ Below w.heap.size w w' := by
 have hu141 := Tryd.underlying141
 have HB := Aside0.mk (Below.refl w.heap.size w)
 have H : (posthouseref3_FieldCode.l0 k 0 a0_0 a0_1) = some r := h
 clear h
 have H' := Aside0.mk H
 clear H
 go_enter Tryd.func120, Tryd.ntmps120
 go_wp2_with (first | ((with_reducible refine gate_dst (N := 1) rfl ?_); refine box_event ?hg (N := 1) ?hd (cs := #[.string a0_0, .string a0_1]) (t := 141) ?hr ?_; (case hd => rfl); (case hg => rfl); (case hr => first | (go_simp; done) | (go_simp; rfl)); intro gb268 hg w2 hbox hb; have n0_ := Aside0.mk (below_step (pb_ HB.out) hb); have n1_ := Aside0.mk (hbox); have n2_ := Aside0.mk ((by rw [hg]; exact (below_size (pb_ HB.out)) : w.heap.size ≤ gb268)); have n3_ := Aside0.mk ((by rw [hg]; exact (below_size (pb_ HB.out)) : w.heap.size ≤ gb268)); clear HB; have HB := n0_; have BK268 := n1_; have GW268 := n2_; have GE268 := n3_; clear n0_ n1_ n2_ n3_; clear hb hbox hg))
 go_loopg [3] k (fun kq v3 w' => ∃ (x3_1 : Int), v3 = .int .i64 x3_1 ∧ Aside0 (posthouseref3_FieldCode.l0 kq x3_1 a0_0 a0_1 = some r) ∧ Aside0 (kq ≤ k) ∧ Aside0 (w'.heap[gb268]? = some (.cells #[.string a0_0, .string a0_1] 141 (0, 0))) ∧ Aside0 (Below w.heap.size w w'))
 case atStart => exact ⟨(0), rs_, H', ⟨Nat.le_refl _⟩, ⟨by (with_reducible repeat (first | refine blk_drewN ?_ _ | refine blk_drew ?_ | refine blk_alloc ?_ _)); exact BK268.out⟩, ⟨by repeat (first | (with_reducible first | exact HB.out | apply below_alloc | apply pw_below_drewN | apply below_drew1 | refine below_set ?_ GE268.out) | exact HB.out)⟩⟩
 case round =>
  clear H'
  try clear c1
  try clear p2
  obtain ⟨x3_1, rfl, HA, HK1, BK268, HB⟩ := hrel
  cases gk with
  | zero => exact absurd HA.out (by simp [posthouseref3_FieldCode.l0])
  | succ k1 =>
   have H := HA.out
   clear HA
   simp only [posthouseref3_FieldCode.l0] at H
   by_cases c3 : x3_1 < (a0_0.size : Int)
   ·
    rw [if_pos c3] at H
    have c3b0 : decide (x3_1 < (a0_0.size : Int)) = true := decide_eq_true c3
    clear c3
    by_cases c4 : 0 ≤ x3_1
    ·
     rw [if_pos c4] at H
     have c4b0 : decide (0 ≤ x3_1) = true := decide_eq_true c4
     clear c4
     replace H := Option.bind_eq_some_iff.mp H
     obtain ⟨t269, A60, H⟩ := H
     replace H : (if t269 = true then (if (bt a0_0 x3_1) = 58 then (some 10) else (posthouseref3_FieldCode.l0 k1 (wrap64 (x3_1 + 1)) a0_0 a0_1)) else (some 10)) = some r := H
     have A6 := Aside0.mk A60
     clear A60
     by_cases c7 : t269 = true
     ·
      subst c7
      have H1 : (if (bt a0_0 x3_1) = 58 then (some 10) else (posthouseref3_FieldCode.l0 k1 (wrap64 (x3_1 + 1)) a0_0 a0_1)) = some r := by rw [if_pos rfl] at H; exact H
      clear H
      have H := H1
      clear H1
      by_cases c9 : (bt a0_0 x3_1) = 58
      ·
       rw [if_pos c9] at H
       have c9b0 : ((bt a0_0 x3_1) == 58) = true := beq_iff_eq.mpr c9
       have c9b1 : ((bt a0_0 x3_1) != 58) = false := bne_eq_false_iff_eq.mpr c9
       clear c9
       obtain rfl := Option.some.inj H
       have hcz10_0 : wr.cell? ⟨gb268, 0, none⟩ = some (.string a0_0) := (blk_cell BK268.out 0).trans rfl
       have hcz10_1 : wr.cell? ⟨gb268, 1, none⟩ = some (.string a0_1) := (blk_cell BK268.out 1).trans rfl
       have hfz10_0 := blk_frozen BK268.out 0
       have hfz10_1 := blk_frozen BK268.out 1
       have p5 : 0 ≤ (x3_1 : Int) := of_decide_eq_true as_
       have q5 : x3_1 < (a0_0.size : Int) := of_decide_eq_true as_
       have hx5 := bt_at a0_0 x3_1
       replace p5 := eq_true p5
       replace q5 := eq_true q5
       go_wp2_with (first | ((with_reducible refine gate_callee (f := 35) rfl ?_); refine goesL_ (some 20) rfl rfl Tryd.func35 (by kernel_rfl) rfl #[.int .i64 (wrap64 (bt a0_0 x3_1)), .int .i64 33, .int .i64 126] rfl ls_ ?_; (with_reducible refine (posthouseref3_In.calls (wrap64 (bt a0_0 x3_1)) 33 126 true _ A6.out).mono ?_); rintro e w' ⟨rfl, ⟨nd, rfl⟩⟩; refine ⟨_, rfl, ?_⟩; have p8 : 0 ≤ (x3_1 : Int) := of_decide_eq_true as_; have q8 : x3_1 < (a0_0.size : Int) := of_decide_eq_true as_; have hx8 := bt_at a0_0 x3_1; replace p8 := eq_true p8; replace q8 := eq_true q8))
       go_ret
       exact ⟨by first | rfl | (simp [errW_none, errW_some] <;> rfl) | (simp [*, errW_none, errW_some] <;> rfl), by repeat (first | (with_reducible first | exact HB.out | apply below_alloc | apply pw_below_drewN | apply below_drew1 | refine below_set ?_ GE268.out) | exact HB.out)⟩
      ·
       rw [if_neg c9] at H
       have c9b0 : ((bt a0_0 x3_1) == 58) = false := beq_eq_false_iff_ne.mpr c9
       have c9b1 : ((bt a0_0 x3_1) != 58) = true := bne_iff_ne.mpr c9
       have H' := Aside0.mk H
       clear H
       have hcz11_0 : wr.cell? ⟨gb268, 0, none⟩ = some (.string a0_0) := (blk_cell BK268.out 0).trans rfl
       have hcz11_1 : wr.cell? ⟨gb268, 1, none⟩ = some (.string a0_1) := (blk_cell BK268.out 1).trans rfl
       have hfz11_0 := blk_frozen BK268.out 0
       have hfz11_1 := blk_frozen BK268.out 1
       have p5 : 0 ≤ (x3_1 : Int) := of_decide_eq_true as_
       have q5 : x3_1 < (a0_0.size : Int) := of_decide_eq_true as_
       have hx5 := bt_at a0_0 x3_1
       replace p5 := eq_true p5
       replace q5 := eq_true q5
       go_wp2_with (first | ((with_reducible refine gate_callee (f := 35) rfl ?_); refine goesL_ (some 20) rfl rfl Tryd.func35 (by kernel_rfl) rfl #[.int .i64 (wrap64 (bt a0_0 x3_1)), .int .i64 33, .int .i64 126] rfl ls_ ?_; (with_reducible refine (posthouseref3_In.calls (wrap64 (bt a0_0 x3_1)) 33 126 true _ A6.out).mono ?_); rintro e w' ⟨rfl, ⟨nd, rfl⟩⟩; refine ⟨_, rfl, ?_⟩; have p8 : 0 ≤ (x3_1 : Int) := of_decide_eq_true as_; have q8 : x3_1 < (a0_0.size : Int) := of_decide_eq_true as_; have hx8 := bt_at a0_0 x3_1; replace p8 := eq_true p8; replace q8 := eq_true q8))
       go_roundg k1
       case measure => have := HK1.out; omega
       case rel => exact ⟨(wrap64 (x3_1 + 1)), rs_, H', ⟨by have := HK1.out; omega⟩, ⟨by (with_reducible repeat (first | refine blk_drewN ?_ _ | refine blk_drew ?_ | refine blk_alloc ?_ _)); exact BK268.out⟩, ⟨by repeat (first | (with_reducible first | exact HB.out | apply below_alloc | apply pw_below_drewN | apply below_drew1 | refine below_set ?_ GE268.out) | exact HB.out)⟩⟩
     ·
      replace c7 := Bool.eq_false_iff.mpr c7
      subst c7
      have H1 : (some 10) = some r := by rw [if_neg (show ¬ (false = true) by decide)] at H; exact H
      clear H
      have H := H1
      clear H1
      obtain rfl := Option.some.inj H
      have hcz12_0 : wr.cell? ⟨gb268, 0, none⟩ = some (.string a0_0) := (blk_cell BK268.out 0).trans rfl
      have hcz12_1 : wr.cell? ⟨gb268, 1, none⟩ = some (.string a0_1) := (blk_cell BK268.out 1).trans rfl
      have hfz12_0 := blk_frozen BK268.out 0
      have hfz12_1 := blk_frozen BK268.out 1
      have p5 : 0 ≤ (x3_1 : Int) := of_decide_eq_true as_
      have q5 : x3_1 < (a0_0.size : Int) := of_decide_eq_true as_
      have hx5 := bt_at a0_0 x3_1
      replace p5 := eq_true p5
      replace q5 := eq_true q5
      go_wp2_with (first | ((with_reducible refine gate_callee (f := 35) rfl ?_); refine goesL_ (some 20) rfl rfl Tryd.func35 (by kernel_rfl) rfl #[.int .i64 (wrap64 (bt a0_0 x3_1)), .int .i64 33, .int .i64 126] rfl ls_ ?_; (with_reducible refine (posthouseref3_In.calls (wrap64 (bt a0_0 x3_1)) 33 126 false _ A6.out).mono ?_); rintro e w' ⟨rfl, ⟨nd, rfl⟩⟩; refine ⟨_, rfl, ?_⟩))
      go_ret
      exact ⟨by first | rfl | (simp [errW_none, errW_some] <;> rfl) | (simp [*, errW_none, errW_some] <;> rfl), by repeat (first | (with_reducible first | exact HB.out | apply below_alloc | apply pw_below_drewN | apply below_drew1 | refine below_set ?_ GE268.out) | exact HB.out)⟩
    ·
     rw [if_neg c4] at H
     exact absurd H (by simp)
   ·
    rw [if_neg c3] at H
    have c3b0 : decide (x3_1 < (a0_0.size : Int)) = false := decide_eq_false c3
    clear c3
    replace H := Option.bind_eq_some_iff.mp H
    obtain ⟨t270, A130, H⟩ := H
    replace H : (if t270 = true then (if (a0_1.size : Int) > 4000 then (some 1) else (posthouseref3_FieldCode.l1 k1 (a0_1.size : Int) 0 a0_0 a0_1)) else (some 10)) = some r := H
    have A13 := Aside0.mk A130
    clear A130
    by_cases c14 : t270 = true
    ·
     subst c14
     have H1 : (if (a0_1.size : Int) > 4000 then (some 1) else (posthouseref3_FieldCode.l1 k1 (a0_1.size : Int) 0 a0_0 a0_1)) = some r := by rw [if_pos rfl] at H; exact H
     clear H
     have H := H1
     clear H1
     by_cases c15 : (a0_1.size : Int) > 4000
     ·
      rw [if_pos c15] at H
      have c15b0 : decide (4000 < (a0_1.size : Int)) = true := decide_eq_true c15
      have c15b1 : decide (4000 < a0_1.size) = true := decide_eq_true (by omega)
      clear c15
      obtain rfl := Option.some.inj H
      have hcz16_0 : wr.cell? ⟨gb268, 0, none⟩ = some (.string a0_0) := (blk_cell BK268.out 0).trans rfl
      have hcz16_1 : wr.cell? ⟨gb268, 1, none⟩ = some (.string a0_1) := (blk_cell BK268.out 1).trans rfl
      have hfz16_0 := blk_frozen BK268.out 0
      have hfz16_1 := blk_frozen BK268.out 1
      go_wp2_with (first | ((with_reducible refine gate_callee (f := 35) rfl ?_); refine goesL_ (some 32) rfl rfl Tryd.func35 (by kernel_rfl) rfl #[.int .i64 (a0_0.size : Int), .int .i64 1, .int .i64 60] rfl ls_ ?_; (with_reducible refine (posthouseref3_In.calls (a0_0.size : Int) 1 60 true _ A13.out).mono ?_); rintro e w' ⟨rfl, ⟨nd, rfl⟩⟩; refine ⟨_, rfl, ?_⟩))
      go_ret
      exact ⟨by first | rfl | (simp [errW_none, errW_some] <;> rfl) | (simp [*, errW_none, errW_some] <;> rfl), by repeat (first | (with_reducible first | exact HB.out | apply below_alloc | apply pw_below_drewN | apply below_drew1 | refine below_set ?_ GE268.out) | exact HB.out)⟩
     ·
      rw [if_neg c15] at H
      have c15b0 : decide (4000 < (a0_1.size : Int)) = false := decide_eq_false c15
      have c15b1 : decide (4000 < a0_1.size) = false := decide_eq_false (by omega)
      clear c15
      have H' := Aside0.mk H
      clear H
      have hcz17_0 : wr.cell? ⟨gb268, 0, none⟩ = some (.string a0_0) := (blk_cell BK268.out 0).trans rfl
      have hcz17_1 : wr.cell? ⟨gb268, 1, none⟩ = some (.string a0_1) := (blk_cell BK268.out 1).trans rfl
      have hfz17_0 := blk_frozen BK268.out 0
      have hfz17_1 := blk_frozen BK268.out 1
      go_wp2_with (first | ((with_reducible refine gate_callee (f := 35) rfl ?_); refine goesL_ (some 32) rfl rfl Tryd.func35 (by kernel_rfl) rfl #[.int .i64 (a0_0.size : Int), .int .i64 1, .int .i64 60] rfl ls_ ?_; (with_reducible refine (posthouseref3_In.calls (a0_0.size : Int) 1 60 true _ A13.out).mono ?_); rintro e w' ⟨rfl, ⟨nd, rfl⟩⟩; refine ⟨_, rfl, ?_⟩))
      go_loopg [5] k1 (fun kq v5 w' => ∃ (x5_2 : Int), v5 = .int .i64 x5_2 ∧ Aside0 (posthouseref3_FieldCode.l1 kq (a0_1.size : Int) x5_2 a0_0 a0_1 = some r) ∧ Aside0 (kq ≤ k1) ∧ Aside0 (w'.heap[gb268]? = some (.cells #[.string a0_0, .string a0_1] 141 (0, 0))) ∧ Aside0 (Below w.heap.size w w'))
      case atStart => exact ⟨(0), rs_, H', ⟨Nat.le_refl _⟩, ⟨by (with_reducible repeat (first | refine blk_drewN ?_ _ | refine blk_drew ?_ | refine blk_alloc ?_ _)); exact BK268.out⟩, ⟨by repeat (first | (with_reducible first | exact HB.out | apply below_alloc | apply pw_below_drewN | apply below_drew1 | refine below_set ?_ GE268.out) | exact HB.out)⟩⟩
      case round =>
       clear H'
       try clear c1
       try clear p2
       try clear c3
       try clear c3b0
       try clear c4
       try clear c4b0
       try clear p5
       try clear q5
       try clear hx5
       try clear p6
       try clear c7
       try clear p8
       try clear q8
       try clear hx8
       try clear c9
       try clear c9b0
       try clear c9b1
       try clear c12
       try clear c14
       try clear c15
       try clear c15b0
       try clear c15b1
       try clear hcz10_0
       try clear hcz10_1
       try clear hcz11_0
       try clear hcz11_1
       try clear hcz12_0
       try clear hcz12_1
       try clear hcz16_0
       try clear hcz16_1
       try clear hcz17_0
       try clear hcz17_1
       try clear hfz10_0
       try clear hfz10_1
       try clear hfz11_0
       try clear hfz11_1
       try clear hfz12_0
       try clear hfz12_1
       try clear hfz16_0
       try clear hfz16_1
       try clear hfz17_0
       try clear hfz17_1
       try clear p2
       try clear p5
       try clear p8
       try clear q5
       try clear q8
       obtain ⟨x5_2, rfl, HA, HK2, BK268, HB⟩ := hrel
       cases gk with
       | zero => exact absurd HA.out (by simp [posthouseref3_FieldCode.l1])
       | succ k2 =>
        have H := HA.out
        clear HA
        simp only [posthouseref3_FieldCode.l1] at H
        by_cases c18 : x5_2 < (a0_1.size : Int)
        ·
         rw [if_pos c18] at H
         have c18b0 : decide (x5_2 < (a0_1.size : Int)) = true := decide_eq_true c18
         clear c18
         by_cases c19 : 0 ≤ x5_2
         ·
          rw [if_pos c19] at H
          have c19b0 : decide (0 ≤ x5_2) = true := decide_eq_true c19
          clear c19
          by_cases c20 : x5_2 < (a0_1.size : Int)
          ·
           rw [if_pos c20] at H
           have c20b0 : decide (x5_2 < (a0_1.size : Int)) = true := decide_eq_true c20
           clear c20
           by_cases c22 : (bt a0_1 x5_2) = 0
           ·
            rw [if_pos c22] at H
            have c22b0 : ((bt a0_1 x5_2) == 0) = true := beq_iff_eq.mpr c22
            have c22b1 : ((bt a0_1 x5_2) != 0) = false := bne_eq_false_iff_eq.mpr c22
            clear c22
            obtain rfl := Option.some.inj H
            have hcz23_0 : wr.cell? ⟨gb268, 0, none⟩ = some (.string a0_0) := (blk_cell BK268.out 0).trans rfl
            have hcz23_1 : wr.cell? ⟨gb268, 1, none⟩ = some (.string a0_1) := (blk_cell BK268.out 1).trans rfl
            have hfz23_0 := blk_frozen BK268.out 0
            have hfz23_1 := blk_frozen BK268.out 1
            have p21 : 0 ≤ (x5_2 : Int) := of_decide_eq_true as_
            have q21 : x5_2 < (a0_1.size : Int) := of_decide_eq_true as_
            have hx21 := bt_at a0_1 x5_2
            replace p21 := eq_true p21
            replace q21 := eq_true q21
            go_wp2
            go_ret
            exact ⟨by first | rfl | (simp [errW_none, errW_some] <;> rfl) | (simp [*, errW_none, errW_some] <;> rfl), by repeat (first | (with_reducible first | exact HB.out | apply below_alloc | apply pw_below_drewN | apply below_drew1 | refine below_set ?_ GE268.out) | exact HB.out)⟩
           ·
            rw [if_neg c22] at H
            have c22b0 : ((bt a0_1 x5_2) == 0) = false := beq_eq_false_iff_ne.mpr c22
            have c22b1 : ((bt a0_1 x5_2) != 0) = true := bne_iff_ne.mpr c22
            by_cases c25 : (bt a0_1 x5_2) = 10
            ·
             rw [if_pos c25] at H
             have c25b0 : ((bt a0_1 x5_2) == 10) = true := beq_iff_eq.mpr c25
             have c25b1 : ((bt a0_1 x5_2) != 10) = false := bne_eq_false_iff_eq.mpr c25
             clear c25
             obtain rfl := Option.some.inj H
             have hcz26_0 : wr.cell? ⟨gb268, 0, none⟩ = some (.string a0_0) := (blk_cell BK268.out 0).trans rfl
             have hcz26_1 : wr.cell? ⟨gb268, 1, none⟩ = some (.string a0_1) := (blk_cell BK268.out 1).trans rfl
             have hfz26_0 := blk_frozen BK268.out 0
             have hfz26_1 := blk_frozen BK268.out 1
             have p21 : 0 ≤ (x5_2 : Int) := of_decide_eq_true as_
             have q21 : x5_2 < (a0_1.size : Int) := of_decide_eq_true as_
             have hx21 := bt_at a0_1 x5_2
             replace p21 := eq_true p21
             replace q21 := eq_true q21
             have p24 : 0 ≤ (x5_2 : Int) := of_decide_eq_true as_
             have q24 : x5_2 < (a0_1.size : Int) := of_decide_eq_true as_
             have hx24 := bt_at a0_1 x5_2
             replace p24 := eq_true p24
             replace q24 := eq_true q24
             go_wp2
             go_ret
             exact ⟨by first | rfl | (simp [errW_none, errW_some] <;> rfl) | (simp [*, errW_none, errW_some] <;> rfl), by repeat (first | (with_reducible first | exact HB.out | apply below_alloc | apply pw_below_drewN | apply below_drew1 | refine below_set ?_ GE268.out) | exact HB.out)⟩
            ·
             rw [if_neg c25] at H
             have c25b0 : ((bt a0_1 x5_2) == 10) = false := beq_eq_false_iff_ne.mpr c25
             have c25b1 : ((bt a0_1 x5_2) != 10) = true := bne_iff_ne.mpr c25
             by_cases c28 : (bt a0_1 x5_2) = 13
             ·
              rw [if_pos c28] at H
              have c28b0 : ((bt a0_1 x5_2) == 13) = true := beq_iff_eq.mpr c28
              have c28b1 : ((bt a0_1 x5_2) != 13) = false := bne_eq_false_iff_eq.mpr c28
              clear c28
              obtain rfl := Option.some.inj H
              have hcz29_0 : wr.cell? ⟨gb268, 0, none⟩ = some (.string a0_0) := (blk_cell BK268.out 0).trans rfl
              have hcz29_1 : wr.cell? ⟨gb268, 1, none⟩ = some (.string a0_1) := (blk_cell BK268.out 1).trans rfl
              have hfz29_0 := blk_frozen BK268.out 0
              have hfz29_1 := blk_frozen BK268.out 1
              have p21 : 0 ≤ (x5_2 : Int) := of_decide_eq_true as_
              have q21 : x5_2 < (a0_1.size : Int) := of_decide_eq_true as_
              have hx21 := bt_at a0_1 x5_2
              replace p21 := eq_true p21
              replace q21 := eq_true q21
              have p24 : 0 ≤ (x5_2 : Int) := of_decide_eq_true as_
              have q24 : x5_2 < (a0_1.size : Int) := of_decide_eq_true as_
              have hx24 := bt_at a0_1 x5_2
              replace p24 := eq_true p24
              replace q24 := eq_true q24
              have p27 : 0 ≤ (x5_2 : Int) := of_decide_eq_true as_
              have q27 : x5_2 < (a0_1.size : Int) := of_decide_eq_true as_
              have hx27 := bt_at a0_1 x5_2
              replace p27 := eq_true p27
              replace q27 := eq_true q27
              go_wp2
              go_ret
              exact ⟨by first | rfl | (simp [errW_none, errW_some] <;> rfl) | (simp [*, errW_none, errW_some] <;> rfl), by repeat (first | (with_reducible first | exact HB.out | apply below_alloc | apply pw_below_drewN | apply below_drew1 | refine below_set ?_ GE268.out) | exact HB.out)⟩
             ·
              rw [if_neg c28] at H
              have c28b0 : ((bt a0_1 x5_2) == 13) = false := beq_eq_false_iff_ne.mpr c28
              have c28b1 : ((bt a0_1 x5_2) != 13) = true := bne_iff_ne.mpr c28
              have H' := Aside0.mk H
              clear H
              have hcz30_0 : wr.cell? ⟨gb268, 0, none⟩ = some (.string a0_0) := (blk_cell BK268.out 0).trans rfl
              have hcz30_1 : wr.cell? ⟨gb268, 1, none⟩ = some (.string a0_1) := (blk_cell BK268.out 1).trans rfl
              have hfz30_0 := blk_frozen BK268.out 0
              have hfz30_1 := blk_frozen BK268.out 1
              have p21 : 0 ≤ (x5_2 : Int) := of_decide_eq_true as_
              have q21 : x5_2 < (a0_1.size : Int) := of_decide_eq_true as_
              have hx21 := bt_at a0_1 x5_2
              replace p21 := eq_true p21
              replace q21 := eq_true q21
              have p24 : 0 ≤ (x5_2 : Int) := of_decide_eq_true as_
              have q24 : x5_2 < (a0_1.size : Int) := of_decide_eq_true as_
              have hx24 := bt_at a0_1 x5_2
              replace p24 := eq_true p24
              replace q24 := eq_true q24
              have p27 : 0 ≤ (x5_2 : Int) := of_decide_eq_true as_
              have q27 : x5_2 < (a0_1.size : Int) := of_decide_eq_true as_
              have hx27 := bt_at a0_1 x5_2
              replace p27 := eq_true p27
              replace q27 := eq_true q27
              go_wp2
              go_roundg k2
              case measure => have := HK1.out; have := HK2.out; omega
              case rel => exact ⟨(wrap64 (x5_2 + 1)), rs_, H', ⟨by have := HK1.out; have := HK2.out; omega⟩, ⟨by (with_reducible repeat (first | refine blk_drewN ?_ _ | refine blk_drew ?_ | refine blk_alloc ?_ _)); exact BK268.out⟩, ⟨by repeat (first | (with_reducible first | exact HB.out | apply below_alloc | apply pw_below_drewN | apply below_drew1 | refine below_set ?_ GE268.out) | exact HB.out)⟩⟩
          ·
           rw [if_neg c20] at H
           exact absurd H (by simp)
         ·
          rw [if_neg c19] at H
          exact absurd H (by simp)
        ·
         rw [if_neg c18] at H
         have c18b0 : decide (x5_2 < (a0_1.size : Int)) = false := decide_eq_false c18
         clear c18
         have HC31 := Aside0.mk H
         clear H
         go_upto_region 16 with (fail)
         go_cut [80] (fun v80 wc => ∃ (kq : Nat) (x80_30 : Bool), v80 = .bool x80_30 ∧ Aside0 (posthouseref3_FieldCode.j2 kq x80_30 a0_0 a0_1 = some r) ∧ Aside0 (kq ≤ k2) ∧ Aside0 (wc.heap[gb268]? = some (.cells #[.string a0_0, .string a0_1] 141 (0, 0))) ∧ Aside0 (Below w.heap.size w wc))
         case first =>
          have H := HC31.out
          clear HC31
          by_cases c32 : (a0_1.size : Int) > 0
          ·
           rw [if_pos c32] at H
           have c32b0 : decide (0 < (a0_1.size : Int)) = true := decide_eq_true c32
           have c32b1 : decide (0 < a0_1.size) = true := decide_eq_true (by omega)
           clear c32
           (first | rw [c32b0] | (simp only [i64_w, i32_w]; rw [c32b0]) | skip)
           by_cases c33 : 0 < (a0_1.size : Int)
           ·
            rw [if_pos c33] at H
            have c33b0 : decide (0 < (a0_1.size : Int)) = true := decide_eq_true c33
            have c33b1 : decide (0 < a0_1.size) = true := decide_eq_true (by omega)
            clear c33
            replace H := Option.bind_eq_some_iff.mp H
            obtain ⟨t271, A350, H⟩ := H
            replace H : (if t271 = true then (posthouseref3_FieldCode.j2 k2 true a0_0 a0_1) else (if 0 ≤ (wrap64 ((a0_1.size : Int) - 1)) then (if (wrap64 ((a0_1.size : Int) - 1)) < (a0_1.size : Int) then ((posthouseref3_blank.f (bt a0_1 (wrap64 ((a0_1.size : Int) - 1)))).bind fun t272 => (posthouseref3_FieldCode.j2 k2 t272 a0_0 a0_1)) else (none)) else (none))) = some r := H
            have A35 := Aside0.mk A350
            clear A350
            by_cases c36 : t271 = true
            ·
             subst c36
             have H1 : (posthouseref3_FieldCode.j2 k2 true a0_0 a0_1) = some r := by rw [if_pos rfl] at H; exact H
             clear H
             have H := H1
             clear H1
             have H' := Aside0.mk H
             clear H
             have hcz37_0 : wr.cell? ⟨gb268, 0, none⟩ = some (.string a0_0) := (blk_cell BK268.out 0).trans rfl
             have hcz37_1 : wr.cell? ⟨gb268, 1, none⟩ = some (.string a0_1) := (blk_cell BK268.out 1).trans rfl
             have hfz37_0 := blk_frozen BK268.out 0
             have hfz37_1 := blk_frozen BK268.out 1
             have p34 : 0 ≤ (0 : Int) := (by omega)
             have q34 : 0 < a0_1.size := (by have : (0 : Int) < (a0_1.size : Int) := of_decide_eq_true as_; omega)
             have hx34 : ∀ h : 0 < a0_1.size, ((a0_1[0]'h).toNat : Int) = bt a0_1 0 := bt_at a0_1 0
             clear p34
             have qi34 : (0 < (a0_1.size : Int)) = True := eq_true (of_decide_eq_true as_)
             replace q34 := eq_true q34
             go_wp2_with (first | (go_at_call 137; (with_reducible refine (posthouseref3_blank.calls (bt a0_1 0) true _ A35.out).mono ?_); rintro e w' ⟨rfl, ⟨nd, rfl⟩⟩))
             go_meet
             case rel => exact ⟨_, (true), rs_, H', ⟨by have := HK1.out; have := HK2.out; first | omega | exact Nat.le_refl _⟩, ⟨by (with_reducible repeat (first | refine blk_drewN ?_ _ | refine blk_drew ?_ | refine blk_alloc ?_ _)); exact BK268.out⟩, ⟨by repeat (first | (with_reducible first | exact HB.out | apply below_alloc | apply pw_below_drewN | apply below_drew1 | refine below_set ?_ GE268.out) | exact HB.out)⟩⟩
            ·
             replace c36 := Bool.eq_false_iff.mpr c36
             subst c36
             have H1 : (if 0 ≤ (wrap64 ((a0_1.size : Int) - 1)) then (if (wrap64 ((a0_1.size : Int) - 1)) < (a0_1.size : Int) then ((posthouseref3_blank.f (bt a0_1 (wrap64 ((a0_1.size : Int) - 1)))).bind fun t272 => (posthouseref3_FieldCode.j2 k2 t272 a0_0 a0_1)) else (none)) else (none)) = some r := by rw [if_neg (show ¬ (false = true) by decide)] at H; exact H
             clear H
             have H := H1
             clear H1
             obtain ⟨ji38, hji38⟩ : ∃ j_ : Int, (wrap64 ((a0_1.size : Int) - 1)) = j_ := ⟨_, rfl⟩
             replace H : (if 0 ≤ (ji38) then (if (ji38) < (a0_1.size : Int) then ((posthouseref3_blank.f (bt a0_1 (ji38))).bind fun t272 => (posthouseref3_FieldCode.j2 k2 t272 a0_0 a0_1)) else (none)) else (none)) = some r := by first | (rw [hji38] at H; exact H) | (simp only [hji38] at H ⊢; exact H)
             (try rw [hji38] at A35)
             have hji38w : (IntKind.i64.wrap ((a0_1.size : Int) - 1)) = ji38 := (i64_w _).trans hji38
             by_cases c39 : 0 ≤ (ji38)
             ·
              rw [if_pos c39] at H
              have c39b0 : decide (0 ≤ (ji38)) = true := decide_eq_true c39
              clear c39
              by_cases c40 : (ji38) < (a0_1.size : Int)
              ·
               rw [if_pos c40] at H
               have c40b0 : decide ((ji38) < (a0_1.size : Int)) = true := decide_eq_true c40
               clear c40
               replace H := Option.bind_eq_some_iff.mp H
               obtain ⟨t272, A420, H⟩ := H
               replace H : (posthouseref3_FieldCode.j2 k2 t272 a0_0 a0_1) = some r := H
               have A42 := Aside0.mk A420
               clear A420
               have H' := Aside0.mk H
               clear H
               have hcz43_0 : wr.cell? ⟨gb268, 0, none⟩ = some (.string a0_0) := (blk_cell BK268.out 0).trans rfl
               have hcz43_1 : wr.cell? ⟨gb268, 1, none⟩ = some (.string a0_1) := (blk_cell BK268.out 1).trans rfl
               have hfz43_0 := blk_frozen BK268.out 0
               have hfz43_1 := blk_frozen BK268.out 1
               have p34 : 0 ≤ (0 : Int) := (by omega)
               have q34 : 0 < a0_1.size := (by have : (0 : Int) < (a0_1.size : Int) := of_decide_eq_true as_; omega)
               have hx34 : ∀ h : 0 < a0_1.size, ((a0_1[0]'h).toNat : Int) = bt a0_1 0 := bt_at a0_1 0
               clear p34
               have qi34 : (0 < (a0_1.size : Int)) = True := eq_true (of_decide_eq_true as_)
               replace q34 := eq_true q34
               go_wp2_with (first | (go_at_call 137; (with_reducible refine (posthouseref3_blank.calls (bt a0_1 0) false _ A35.out).mono ?_); rintro e w' ⟨rfl, ⟨nd, rfl⟩⟩; have p41 : 0 ≤ ((ji38) : Int) := of_decide_eq_true as_; have q41 : (ji38) < (a0_1.size : Int) := of_decide_eq_true as_; have hx41 := bt_at a0_1 (ji38); replace p41 := eq_true p41; replace q41 := eq_true q41) | (go_at_call 137; (with_reducible refine (posthouseref3_blank.calls (bt a0_1 (ji38)) t272 _ A42.out).mono ?_); rintro e w' ⟨rfl, ⟨nd, rfl⟩⟩))
               go_meet
               case rel => exact ⟨_, (t272), rs_, H', ⟨by have := HK1.out; have := HK2.out; first | omega | exact Nat.le_refl _⟩, ⟨by (with_reducible repeat (first | refine blk_drewN ?_ _ | refine blk_drew ?_ | refine blk_alloc ?_ _)); exact BK268.out⟩, ⟨by repeat (first | (with_reducible first | exact HB.out | apply below_alloc | apply pw_below_drewN | apply below_drew1 | refine below_set ?_ GE268.out) | exact HB.out)⟩⟩
              ·
               rw [if_neg c40] at H
               exact absurd H (by simp)
             ·
              rw [if_neg c39] at H
              exact absurd H (by simp)
           ·
            rw [if_neg c33] at H
            exact absurd H (by simp)
          ·
           rw [if_neg c32] at H
           have c32b0 : decide (0 < (a0_1.size : Int)) = false := decide_eq_false c32
           have c32b1 : decide (0 < a0_1.size) = false := decide_eq_false (by omega)
           clear c32
           (first | rw [c32b0] | (simp only [i64_w, i32_w]; rw [c32b0]) | skip)
           have H' := Aside0.mk H
           clear H
           go_wp2
           go_meet
           case rel => exact ⟨_, (false), rs_, H', ⟨by have := HK1.out; have := HK2.out; first | omega | exact Nat.le_refl _⟩, ⟨by (with_reducible repeat (first | refine blk_drewN ?_ _ | refine blk_drew ?_ | refine blk_alloc ?_ _)); exact BK268.out⟩, ⟨by repeat (first | (with_reducible first | exact HB.out | apply below_alloc | apply pw_below_drewN | apply below_drew1 | refine below_set ?_ GE268.out) | exact HB.out)⟩⟩
         case rest =>
          clear HC31
          try clear c1
          try clear c2
          try clear p2
          try clear q2
          try clear hx2
          try clear c3
          try clear c3b0
          try clear p3
          try clear q3
          try clear hx3
          try clear qi3
          try clear c4
          try clear c4b0
          try clear p4
          try clear q4
          try clear hx4
          try clear p5
          try clear q5
          try clear hx5
          try clear p6
          try clear c7
          try clear p8
          try clear q8
          try clear hx8
          try clear c9
          try clear c9b0
          try clear c9b1
          try clear c12
          try clear c14
          try clear c15
          try clear c15b0
          try clear c15b1
          try clear c18
          try clear c18b0
          try clear c19
          try clear c19b0
          try clear c20
          try clear c20b0
          try clear p21
          try clear q21
          try clear hx21
          try clear c22
          try clear c22b0
          try clear c22b1
          try clear p24
          try clear q24
          try clear hx24
          try clear c25
          try clear c25b0
          try clear c25b1
          try clear p27
          try clear q27
          try clear hx27
          try clear c28
          try clear c28b0
          try clear c28b1
          try clear c32
          try clear c32b0
          try clear c32b1
          try clear c33
          try clear c33b0
          try clear c33b1
          try clear p34
          try clear q34
          try clear hx34
          try clear qi34
          try clear c35
          try clear c36
          try clear c39
          try clear c39b0
          try clear c40
          try clear c40b0
          try clear p41
          try clear q41
          try clear hx41
          try clear hcz10_0
          try clear hcz10_1
          try clear hcz11_0
          try clear hcz11_1
          try clear hcz12_0
          try clear hcz12_1
          try clear hcz16_0
          try clear hcz16_1
          try clear hcz17_0
          try clear hcz17_1
          try clear hcz23_0
          try clear hcz23_1
          try clear hcz26_0
          try clear hcz26_1
          try clear hcz29_0
          try clear hcz29_1
          try clear hcz30_0
          try clear hcz30_1
          try clear hcz37_0
          try clear hcz37_1
          try clear hcz43_0
          try clear hcz43_1
          try clear hfz10_0
          try clear hfz10_1
          try clear hfz11_0
          try clear hfz11_1
          try clear hfz12_0
          try clear hfz12_1
          try clear hfz16_0
          try clear hfz16_1
          try clear hfz17_0
          try clear hfz17_1
          try clear hfz23_0
          try clear hfz23_1
          try clear hfz26_0
          try clear hfz26_1
          try clear hfz29_0
          try clear hfz29_1
          try clear hfz30_0
          try clear hfz30_1
          try clear hfz37_0
          try clear hfz37_1
          try clear hfz43_0
          try clear hfz43_1
          try clear p2
          try clear p21
          try clear p24
          try clear p27
          try clear p34
          try clear p41
          try clear p5
          try clear p6
          try clear p8
          try clear q21
          try clear q24
          try clear q27
          try clear q34
          try clear q41
          try clear q5
          try clear q8
          obtain ⟨kq, x80_30, rfl, HA, HJ30, BK268, HB⟩ := hcut
          cases kq with
          | zero => exact absurd HA.out (by simp [posthouseref3_FieldCode.j2])
          | succ kj30 =>
           have H := HA.out
           clear HA
           simp only [posthouseref3_FieldCode.j2] at H
           by_cases c44 : x80_30 = true
           ·
            subst c44
            have H1 : (some 11) = some r := by rw [if_pos rfl] at H; exact H
            clear H
            have H := H1
            clear H1
            obtain rfl := Option.some.inj H
            go_wp2
            go_ret
            exact ⟨by first | rfl | (simp [errW_none, errW_some] <;> rfl) | (simp [*, errW_none, errW_some] <;> rfl), by repeat (first | (with_reducible first | exact HB.out | apply below_alloc | apply pw_below_drewN | apply below_drew1 | refine below_set ?_ GE268.out) | exact HB.out)⟩
           ·
            replace c44 := Bool.eq_false_iff.mpr c44
            subst c44
            have H1 : ((posthouseref3_FieldLines.f kj30 a0_0 a0_1).bind fun t273 => (posthouseref3_FieldCode.l2 kj30 t273 0)) = some r := by rw [if_neg (show ¬ (false = true) by decide)] at H; exact H
            clear H
            have H := H1
            clear H1
            replace H := Option.bind_eq_some_iff.mp H
            obtain ⟨t273, A450, H⟩ := H
            replace H : (posthouseref3_FieldCode.l2 kj30 t273 0) = some r := H
            have A45 := Aside0.mk A450
            clear A450
            have H' := Aside0.mk H
            clear H
            have hcz46_0 : wc.cell? ⟨gb268, 0, none⟩ = some (.string a0_0) := (blk_cell BK268.out 0).trans rfl
            have hcz46_1 : wc.cell? ⟨gb268, 1, none⟩ = some (.string a0_1) := (blk_cell BK268.out 1).trans rfl
            have hfz46_0 := blk_frozen BK268.out 0
            have hfz46_1 := blk_frozen BK268.out 1
            go_wp2_with (first | ((with_reducible refine gate_callee (f := 138) rfl ?_); refine goesL_ (some 85) rfl rfl Tryd.func138 (by kernel_rfl) rfl #[.string a0_0, .string a0_1] rfl ls_ ?_; (with_reducible refine (posthouseref3_FieldLines.calls kj30 a0_0 a0_1 t273 _ A45.out).mono ?_); rintro e w47 ⟨v274, rfl, ho0, hb⟩; refine ⟨_, rfl, ?_⟩; have n0_ := Aside0.mk (Kd.R_lower ho0 (below_size (pb1_ HB.out GE268.out))); have n1_ := Aside0.mk (blk_below (g := gb268) (o := .cells #[.string a0_0, .string a0_1] 141 (0, 0)) (pk_ BK268.out) hb); have n2_ := Aside0.mk (below_step (pb1_ HB.out GE268.out) hb); clear BK268; clear HB; have HO275 := n0_; have BK268 := n1_; have HB := n2_; clear n0_ n1_ n2_; (try clear hb); (try clear hb2); (try clear hk); (try clear hi); (try clear ho0)))
            go_loopg [7] kj30 (fun kq v7 w' => ∃ (x7_4 : Int), v7 = .int .i64 x7_4 ∧ Aside0 (posthouseref3_FieldCode.l2 kq t273 x7_4 = some r) ∧ Aside0 (kq ≤ kj30) ∧ Aside0 (Kd.R Kd.string 9 w' w.heap.size (fun _ => True) v274 t273) ∧ Aside0 (w'.heap[gb268]? = some (.cells #[.string a0_0, .string a0_1] 141 (0, 0))) ∧ Aside0 (Below w.heap.size w w'))
            case atStart => exact ⟨(0), rs_, H', ⟨Nat.le_refl _⟩, ⟨by (with_reducible repeat (first | apply Kd.R_alloc | apply Kd.R_drewN | apply Kd.R_drew)); exact HO275.out⟩, ⟨by (with_reducible repeat (first | refine blk_drewN ?_ _ | refine blk_drew ?_ | refine blk_alloc ?_ _)); exact BK268.out⟩, ⟨by repeat (first | (with_reducible first | exact HB.out | apply below_alloc | apply pw_below_drewN | apply below_drew1 | refine below_set ?_ GE268.out) | exact HB.out)⟩⟩
            case round =>
             clear H'
             try clear c1
             try clear c2
             try clear p2
             try clear q2
             try clear hx2
             try clear c3
             try clear c3b0
             try clear p3
             try clear q3
             try clear hx3
             try clear qi3
             try clear c4
             try clear c4b0
             try clear p4
             try clear q4
             try clear hx4
             try clear p5
             try clear q5
             try clear hx5
             try clear p6
             try clear c7
             try clear p8
             try clear q8
             try clear hx8
             try clear c9
             try clear c9b0
             try clear c9b1
             try clear c12
             try clear c13
             try clear c14
             try clear c15
             try clear c15b0
             try clear c15b1
             try clear c18
             try clear c18b0
             try clear c19
             try clear c19b0
             try clear c20
             try clear c20b0
             try clear p21
             try clear q21
             try clear hx21
             try clear c22
             try clear c22b0
             try clear c22b1
             try clear p24
             try clear q24
             try clear hx24
             try clear c25
             try clear c25b0
             try clear c25b1
             try clear p27
             try clear q27
             try clear hx27
             try clear c28
             try clear c28b0
             try clear c28b1
             try clear c32
             try clear c32b0
             try clear c32b1
             try clear c33
             try clear c33b0
             try clear c33b1
             try clear p34
             try clear q34
             try clear hx34
             try clear qi34
             try clear c35
             try clear c36
             try clear c39
             try clear c39b0
             try clear c40
             try clear c40b0
             try clear p41
             try clear q41
             try clear hx41
             try clear c44
             try clear hcz10_0
             try clear hcz10_1
             try clear hcz11_0
             try clear hcz11_1
             try clear hcz12_0
             try clear hcz12_1
             try clear hcz16_0
             try clear hcz16_1
             try clear hcz17_0
             try clear hcz17_1
             try clear hcz23_0
             try clear hcz23_1
             try clear hcz26_0
             try clear hcz26_1
             try clear hcz29_0
             try clear hcz29_1
             try clear hcz30_0
             try clear hcz30_1
             try clear hcz37_0
             try clear hcz37_1
             try clear hcz43_0
             try clear hcz43_1
             try clear hcz46_0
             try clear hcz46_1
             try clear hfz10_0
             try clear hfz10_1
             try clear hfz11_0
             try clear hfz11_1
             try clear hfz12_0
             try clear hfz12_1
             try clear hfz16_0
             try clear hfz16_1
             try clear hfz17_0
             try clear hfz17_1
             try clear hfz23_0
             try clear hfz23_1
             try clear hfz26_0
             try clear hfz26_1
             try clear hfz29_0
             try clear hfz29_1
             try clear hfz30_0
             try clear hfz30_1
             try clear hfz37_0
             try clear hfz37_1
             try clear hfz43_0
             try clear hfz43_1
             try clear hfz46_0
             try clear hfz46_1
             try clear p2
             try clear p21
             try clear p24
             try clear p27
             try clear p3
             try clear p34
             try clear p4
             try clear p41
             try clear p5
             try clear p6
             try clear p8
             try clear q2
             try clear q21
             try clear q24
             try clear q27
             try clear q3
             try clear q34
             try clear q4
             try clear q41
             try clear q5
             try clear q8
             obtain ⟨x7_4, rfl, HA, HK4, HO_6, BK268, HB⟩ := hrel
             cases gk with
             | zero => exact absurd HA.out (by simp [posthouseref3_FieldCode.l2])
             | succ k4 =>
              have H := HA.out
              clear HA
              simp only [posthouseref3_FieldCode.l2] at H
              by_cases c48 : x7_4 < (t273.length : Int)
              ·
               rw [if_pos c48] at H
               have c48b0 : decide (x7_4 < (t273.length : Int)) = true := decide_eq_true c48
               clear c48
               by_cases c49 : 0 ≤ x7_4
               ·
                rw [if_pos c49] at H
                have c49b0 : decide (0 ≤ x7_4) = true := decide_eq_true c49
                clear c49
                by_cases c50 : ((rdOf ByteArray.empty t273 x7_4).size : Int) > 998
                ·
                 rw [if_pos c50] at H
                 have c50b0 : decide (998 < ((rdOf ByteArray.empty t273 x7_4).size : Int)) = true := decide_eq_true c50
                 have c50b1 : decide (998 < (rdOf ByteArray.empty t273 x7_4).size) = true := decide_eq_true (by omega)
                 clear c50
                 obtain rfl := Option.some.inj H
                 obtain ⟨Ao51, co51, eo51⟩ := Kd.R_slice HO_6.out
                 subst eo51
                 have p276 : 0 ≤ (x7_4 : Int) := of_decide_eq_true as_
                 have q276 : x7_4 < (t273.length : Int) := of_decide_eq_true as_
                 obtain ⟨ad276, e276, hx276_0⟩ := Kd.at_string (Kd.R_reads' HO_6.out).2.2 x7_4 p276 q276
                 cases e276
                 replace p276 := eq_true p276
                 replace q276 := eq_true q276
                 go_wp2
                 go_ret
                 exact ⟨by first | rfl | (simp [errW_none, errW_some] <;> rfl) | (simp [*, errW_none, errW_some] <;> rfl), by repeat (first | (with_reducible first | exact HB.out | apply below_alloc | apply pw_below_drewN | apply below_drew1 | refine below_set ?_ GE268.out) | exact HB.out)⟩
                ·
                 rw [if_neg c50] at H
                 have c50b0 : decide (998 < ((rdOf ByteArray.empty t273 x7_4).size : Int)) = false := decide_eq_false c50
                 have c50b1 : decide (998 < (rdOf ByteArray.empty t273 x7_4).size) = false := decide_eq_false (by omega)
                 clear c50
                 have H' := Aside0.mk H
                 clear H
                 obtain ⟨Ao52, co52, eo52⟩ := Kd.R_slice HO_6.out
                 subst eo52
                 have p276 : 0 ≤ (x7_4 : Int) := of_decide_eq_true as_
                 have q276 : x7_4 < (t273.length : Int) := of_decide_eq_true as_
                 obtain ⟨ad276, e276, hx276_0⟩ := Kd.at_string (Kd.R_reads' HO_6.out).2.2 x7_4 p276 q276
                 cases e276
                 replace p276 := eq_true p276
                 replace q276 := eq_true q276
                 go_wp2
                 go_roundg k4
                 case measure => have := HK1.out; have := HK2.out; have := HJ30.out; have := HK4.out; omega
                 case rel => exact ⟨(wrap64 (x7_4 + 1)), rs_, H', ⟨by have := HK1.out; have := HK2.out; have := HJ30.out; have := HK4.out; omega⟩, ⟨by (with_reducible repeat (first | apply Kd.R_alloc | apply Kd.R_drewN | apply Kd.R_drew)); exact HO_6.out⟩, ⟨by (with_reducible repeat (first | refine blk_drewN ?_ _ | refine blk_drew ?_ | refine blk_alloc ?_ _)); exact BK268.out⟩, ⟨by repeat (first | (with_reducible first | exact HB.out | apply below_alloc | apply pw_below_drewN | apply below_drew1 | refine below_set ?_ GE268.out) | exact HB.out)⟩⟩
               ·
                rw [if_neg c49] at H
                exact absurd H (by simp)
              ·
               rw [if_neg c48] at H
               have c48b0 : decide (x7_4 < (t273.length : Int)) = false := decide_eq_false c48
               clear c48
               obtain rfl := Option.some.inj H
               obtain ⟨Ao53, co53, eo53⟩ := Kd.R_slice HO_6.out
               subst eo53
               go_wp2
               go_ret
               exact ⟨by first | rfl | (simp [errW_none, errW_some] <;> rfl) | (simp [*, errW_none, errW_some] <;> rfl), by repeat (first | (with_reducible first | exact HB.out | apply below_alloc | apply pw_below_drewN | apply below_drew1 | refine below_set ?_ GE268.out) | exact HB.out)⟩
    ·
     replace c14 := Bool.eq_false_iff.mpr c14
     subst c14
     have H1 : (some 10) = some r := by rw [if_neg (show ¬ (false = true) by decide)] at H; exact H
     clear H
     have H := H1
     clear H1
     obtain rfl := Option.some.inj H
     have hcz54_0 : wr.cell? ⟨gb268, 0, none⟩ = some (.string a0_0) := (blk_cell BK268.out 0).trans rfl
     have hcz54_1 : wr.cell? ⟨gb268, 1, none⟩ = some (.string a0_1) := (blk_cell BK268.out 1).trans rfl
     have hfz54_0 := blk_frozen BK268.out 0
     have hfz54_1 := blk_frozen BK268.out 1
     go_wp2_with (first | ((with_reducible refine gate_callee (f := 35) rfl ?_); refine goesL_ (some 32) rfl rfl Tryd.func35 (by kernel_rfl) rfl #[.int .i64 (a0_0.size : Int), .int .i64 1, .int .i64 60] rfl ls_ ?_; (with_reducible refine (posthouseref3_In.calls (a0_0.size : Int) 1 60 false _ A13.out).mono ?_); rintro e w' ⟨rfl, ⟨nd, rfl⟩⟩; refine ⟨_, rfl, ?_⟩))
     go_ret
     exact ⟨by first | rfl | (simp [errW_none, errW_some] <;> rfl) | (simp [*, errW_none, errW_some] <;> rfl), by repeat (first | (with_reducible first | exact HB.out | apply below_alloc | apply pw_below_drewN | apply below_drew1 | refine below_set ?_ GE268.out) | exact HB.out)⟩

end Go.Proofs.YtbmeebhcanknmaaDoor.XEvm
