-- Laid by a program of this session's (xprint.py) over the print's text; contracts proved by hand stand among them. Lean checks it.
import Derived.Test.YtbmeebhcanknmaaDoorXEvmx0
import Derived.Test.YtbmeebhcanknmaaDoorXEvmx3
import Derived.Test.YtbmeebhcanknmaaDoorXEvmx31
import Derived.Test.YtbmeebhcanknmaaDoorXEvmx32
namespace Go.Proofs.YtbmeebhcanknmaaDoor.XEvm
open Go.RowKit Go.Proofs.YtbmeebhcanknmaaDoorW.PrintWords Go.Proofs.YtbmeebhcanknmaaDoorW.PrintLast Go.Proofs.YtbmeebhcanknmaaDoorW.PrintMore
attribute [local go_sem] max2_int min2_int max_two min_two max_three min_three max_four min_four   -- for this text's walks alone
set_option linter.unusedVariables false
set_option linter.unusedSimpArgs false

/-! ### posthouseref3_MessageFault: function 97 -/
mutual
def posthouseref3_MessageFault.l0 : Nat → Int → List (S141) → List Int → Option (Int × Int)
 | 0, _, _, _ => none
 | k + 1, x3, x303000, x303001 => if x3 < (x303000.length : Int) then (if 0 ≤ x3 then ((posthouseref3_FieldCode.f k ((rd_T141 x303000 x3).f0) ((rd_T141 x303000 x3).f1)).bind fun t307 => (if t307 = 0 then (posthouseref3_MessageFault.l0 k (wrap64 (x3 + 1)) x303000 x303001) else ((posthouseref3_At.f t307 x3).bind fun bt308 => (some (bt308.1, bt308.2))))) else (none)) else (if (x303001.length : Int) > 12000 then (posthouseref3_MessageFault.j1 k true x303000 x303001) else ((posthouseref3_MessageBytes.f k x303000 x303001).bind fun t310 => (posthouseref3_MessageFault.j1 k (decide ((t310.length : Int) > 12000)) x303000 x303001)))
def posthouseref3_MessageFault.j1 : Nat → Bool → List (S141) → List Int → Option (Int × Int)
 | 0, _, _, _ => none
 | k + 1, x40, x303000, x303001 => if x40 = true then ((posthouseref3_At.f 1 (-4)).bind fun bt313 => (some (bt313.1, bt313.2))) else (posthouseref3_MessageFault.l1 k 0 0 x303000 x303001)
def posthouseref3_MessageFault.l1 : Nat → Int → Int → List (S141) → List Int → Option (Int × Int)
 | 0, _, _, _, _ => none
 | k + 1, x5, x6, x303000, x303001 => if x6 < (x303001.length : Int) then (if 0 ≤ x6 then (if (rd x303001 x6) = 13 then (if (wrap64 (x6 + 1)) < (x303001.length : Int) then (if 0 ≤ (wrap64 (x6 + 1)) then (posthouseref3_MessageFault.j3 k x5 x6 (rd x303001 x6) ((rd x303001 (wrap64 (x6 + 1))) == 10) x303000 x303001) else (none)) else (posthouseref3_MessageFault.j3 k x5 x6 (rd x303001 x6) false x303000 x303001)) else (posthouseref3_MessageFault.j3 k x5 x6 (rd x303001 x6) false x303000 x303001)) else (none)) else (some (0, 0))
def posthouseref3_MessageFault.j3 : Nat → Int → Int → Int → Bool → List (S141) → List Int → Option (Int × Int)
 | 0, _, _, _, _, _, _ => none
 | k + 1, x5, x6, x7, x72, x303000, x303001 => if x72 = true then (posthouseref3_MessageFault.l1 k 0 (wrap64 ((wrap64 (x6 + 1)) + 1)) x303000 x303001) else (if x7 = 13 then (posthouseref3_MessageFault.j4 k x5 x6 true x303000 x303001) else (posthouseref3_MessageFault.j4 k x5 x6 (x7 == 10) x303000 x303001))
def posthouseref3_MessageFault.j4 : Nat → Int → Int → Bool → List (S141) → List Int → Option (Int × Int)
 | 0, _, _, _, _, _ => none
 | k + 1, x5, x6, x80, x303000, x303001 => if x80 = true then ((posthouseref3_At.f 11 (-5)).bind fun bt317 => (some (bt317.1, bt317.2))) else (if (wrap64 (x5 + 1)) > 998 then ((posthouseref3_At.f 1 (-6)).bind fun bt319 => (some (bt319.1, bt319.2))) else (posthouseref3_MessageFault.l1 k (wrap64 (x5 + 1)) (wrap64 (x6 + 1)) x303000 x303001))
end
def posthouseref3_MessageFault.f (k : Nat) (l0_0 : List (S141)) (l0_1 : List Int) : Option (Int × Int) := if (l0_0.length : Int) > 60 then ((posthouseref3_At.f 2 (-1)).bind fun bt304 => (some (bt304.1, bt304.2))) else (posthouseref3_MessageFault.l0 k 0 l0_0 l0_1)
theorem posthouseref3_MessageFault.mono_l : ∀ k, (∀ y0 y1 y2, LeO (posthouseref3_MessageFault.l0 k y0 y1 y2) (posthouseref3_MessageFault.l0 (k + 1) y0 y1 y2)) ∧ (∀ y0 y1 y2, LeO (posthouseref3_MessageFault.j1 k y0 y1 y2) (posthouseref3_MessageFault.j1 (k + 1) y0 y1 y2)) ∧ (∀ y0 y1 y2 y3, LeO (posthouseref3_MessageFault.l1 k y0 y1 y2 y3) (posthouseref3_MessageFault.l1 (k + 1) y0 y1 y2 y3)) ∧ (∀ y0 y1 y2 y3 y4 y5, LeO (posthouseref3_MessageFault.j3 k y0 y1 y2 y3 y4 y5) (posthouseref3_MessageFault.j3 (k + 1) y0 y1 y2 y3 y4 y5)) ∧ (∀ y0 y1 y2 y3 y4, LeO (posthouseref3_MessageFault.j4 k y0 y1 y2 y3 y4) (posthouseref3_MessageFault.j4 (k + 1) y0 y1 y2 y3 y4))
 | 0 => ⟨fun _ _ _ r h => by simp [posthouseref3_MessageFault.l0] at h, fun _ _ _ r h => by simp [posthouseref3_MessageFault.j1] at h, fun _ _ _ _ r h => by simp [posthouseref3_MessageFault.l1] at h, fun _ _ _ _ _ _ r h => by simp [posthouseref3_MessageFault.j3] at h, fun _ _ _ _ _ r h => by simp [posthouseref3_MessageFault.j4] at h⟩
 | k + 1 => by
  obtain ⟨ih0, ih1, ih2, ih3, ih4⟩ := posthouseref3_MessageFault.mono_l k
  refine ⟨?_, ?_, ?_, ?_, ?_⟩
  ·
   intro y0 y1 y2
   unfold posthouseref3_MessageFault.l0
   repeat' first
   | (with_reducible exact ih0 _ _ _)
   | (with_reducible exact ih1 _ _ _)
   | (with_reducible exact ih2 _ _ _ _)
   | (with_reducible exact ih3 _ _ _ _ _ _)
   | (with_reducible exact ih4 _ _ _ _ _)
   | (with_reducible exact posthouseref3_FieldCode.mono _ _ _)
   | (with_reducible exact posthouseref3_MessageBytes.mono _ _ _)
   | (with_reducible exact LeO.refl _)
   | (with_reducible exact LeO.none _)
   | (with_reducible refine LeO.ite ?_ ?_)
   | (with_reducible refine LeO.bind ?_ (fun _ => ?_))
   | exact ih0 _ _ _
   | exact ih1 _ _ _
   | exact ih2 _ _ _ _
   | exact ih3 _ _ _ _ _ _
   | exact ih4 _ _ _ _ _
   | exact posthouseref3_FieldCode.mono _ _ _
   | exact posthouseref3_MessageBytes.mono _ _ _
   | exact LeO.none _
   | refine LeO.ite ?_ ?_
   | refine LeO.bind ?_ (fun _ => ?_)
  ·
   intro y0 y1 y2
   unfold posthouseref3_MessageFault.j1
   repeat' first
   | (with_reducible exact ih0 _ _ _)
   | (with_reducible exact ih1 _ _ _)
   | (with_reducible exact ih2 _ _ _ _)
   | (with_reducible exact ih3 _ _ _ _ _ _)
   | (with_reducible exact ih4 _ _ _ _ _)
   | (with_reducible exact posthouseref3_FieldCode.mono _ _ _)
   | (with_reducible exact posthouseref3_MessageBytes.mono _ _ _)
   | (with_reducible exact LeO.refl _)
   | (with_reducible exact LeO.none _)
   | (with_reducible refine LeO.ite ?_ ?_)
   | (with_reducible refine LeO.bind ?_ (fun _ => ?_))
   | exact ih0 _ _ _
   | exact ih1 _ _ _
   | exact ih2 _ _ _ _
   | exact ih3 _ _ _ _ _ _
   | exact ih4 _ _ _ _ _
   | exact posthouseref3_FieldCode.mono _ _ _
   | exact posthouseref3_MessageBytes.mono _ _ _
   | exact LeO.none _
   | refine LeO.ite ?_ ?_
   | refine LeO.bind ?_ (fun _ => ?_)
  ·
   intro y0 y1 y2 y3
   unfold posthouseref3_MessageFault.l1
   repeat' first
   | (with_reducible exact ih0 _ _ _)
   | (with_reducible exact ih1 _ _ _)
   | (with_reducible exact ih2 _ _ _ _)
   | (with_reducible exact ih3 _ _ _ _ _ _)
   | (with_reducible exact ih4 _ _ _ _ _)
   | (with_reducible exact posthouseref3_FieldCode.mono _ _ _)
   | (with_reducible exact posthouseref3_MessageBytes.mono _ _ _)
   | (with_reducible exact LeO.refl _)
   | (with_reducible exact LeO.none _)
   | (with_reducible refine LeO.ite ?_ ?_)
   | (with_reducible refine LeO.bind ?_ (fun _ => ?_))
   | exact ih0 _ _ _
   | exact ih1 _ _ _
   | exact ih2 _ _ _ _
   | exact ih3 _ _ _ _ _ _
   | exact ih4 _ _ _ _ _
   | exact posthouseref3_FieldCode.mono _ _ _
   | exact posthouseref3_MessageBytes.mono _ _ _
   | exact LeO.none _
   | refine LeO.ite ?_ ?_
   | refine LeO.bind ?_ (fun _ => ?_)
  ·
   intro y0 y1 y2 y3 y4 y5
   unfold posthouseref3_MessageFault.j3
   repeat' first
   | (with_reducible exact ih0 _ _ _)
   | (with_reducible exact ih1 _ _ _)
   | (with_reducible exact ih2 _ _ _ _)
   | (with_reducible exact ih3 _ _ _ _ _ _)
   | (with_reducible exact ih4 _ _ _ _ _)
   | (with_reducible exact posthouseref3_FieldCode.mono _ _ _)
   | (with_reducible exact posthouseref3_MessageBytes.mono _ _ _)
   | (with_reducible exact LeO.refl _)
   | (with_reducible exact LeO.none _)
   | (with_reducible refine LeO.ite ?_ ?_)
   | (with_reducible refine LeO.bind ?_ (fun _ => ?_))
   | exact ih0 _ _ _
   | exact ih1 _ _ _
   | exact ih2 _ _ _ _
   | exact ih3 _ _ _ _ _ _
   | exact ih4 _ _ _ _ _
   | exact posthouseref3_FieldCode.mono _ _ _
   | exact posthouseref3_MessageBytes.mono _ _ _
   | exact LeO.none _
   | refine LeO.ite ?_ ?_
   | refine LeO.bind ?_ (fun _ => ?_)
  ·
   intro y0 y1 y2 y3 y4
   unfold posthouseref3_MessageFault.j4
   repeat' first
   | (with_reducible exact ih0 _ _ _)
   | (with_reducible exact ih1 _ _ _)
   | (with_reducible exact ih2 _ _ _ _)
   | (with_reducible exact ih3 _ _ _ _ _ _)
   | (with_reducible exact ih4 _ _ _ _ _)
   | (with_reducible exact posthouseref3_FieldCode.mono _ _ _)
   | (with_reducible exact posthouseref3_MessageBytes.mono _ _ _)
   | (with_reducible exact LeO.refl _)
   | (with_reducible exact LeO.none _)
   | (with_reducible refine LeO.ite ?_ ?_)
   | (with_reducible refine LeO.bind ?_ (fun _ => ?_))
   | exact ih0 _ _ _
   | exact ih1 _ _ _
   | exact ih2 _ _ _ _
   | exact ih3 _ _ _ _ _ _
   | exact ih4 _ _ _ _ _
   | exact posthouseref3_FieldCode.mono _ _ _
   | exact posthouseref3_MessageBytes.mono _ _ _
   | exact LeO.none _
   | refine LeO.ite ?_ ?_
   | refine LeO.bind ?_ (fun _ => ?_)
theorem posthouseref3_MessageFault.mono : ∀ a0 a1 k, LeO (posthouseref3_MessageFault.f k a0 a1) (posthouseref3_MessageFault.f (k + 1) a0 a1) := by
 intro a0 a1 k
 obtain ⟨ih0, ih1, ih2, ih3, ih4⟩ := posthouseref3_MessageFault.mono_l k
 unfold posthouseref3_MessageFault.f
 repeat' first
   | (with_reducible exact ih0 _ _ _)
   | (with_reducible exact ih1 _ _ _)
   | (with_reducible exact ih2 _ _ _ _)
   | (with_reducible exact ih3 _ _ _ _ _ _)
   | (with_reducible exact ih4 _ _ _ _ _)
   | (with_reducible exact posthouseref3_FieldCode.mono _ _ _)
   | (with_reducible exact posthouseref3_MessageBytes.mono _ _ _)
   | (with_reducible exact LeO.refl _)
   | (with_reducible exact LeO.none _)
   | (with_reducible refine LeO.ite ?_ ?_)
   | (with_reducible refine LeO.bind ?_ (fun _ => ?_))
   | exact ih0 _ _ _
   | exact ih1 _ _ _
   | exact ih2 _ _ _ _
   | exact ih3 _ _ _ _ _ _
   | exact ih4 _ _ _ _ _
   | exact posthouseref3_FieldCode.mono _ _ _
   | exact posthouseref3_MessageBytes.mono _ _ _
   | exact LeO.none _
   | refine LeO.ite ?_ ?_
   | refine LeO.bind ?_ (fun _ => ?_)
set_option maxHeartbeats 8000000 in
set_option maxRecDepth 100000 in
theorem posthouseref3_MessageFault.calls (k : Nat) (A0_0 : Option Addr) (c0_0 : Nat) (l0_0 : List (S141)) (A0_1 : Option Addr) (c0_1 : Nat) (l0_1 : List Int) (r1 : Int) (r2 : Int) (w : World) (hr0_0 : Kd.C k141 w A0_0 l0_0.length l0_0) (hc0_0 : l0_0.length ≤ c0_0) (hr0_1 : Kd.C (Kd.int .u8) w A0_1 l0_1.length l0_1) (hc0_1 : l0_1.length ≤ c0_1) (h : posthouseref3_MessageFault.f k l0_0 l0_1 = some (r1, r2)) :
  Calls Tryd.prog 97 #[.agg #[.slice A0_0 l0_0.length c0_0, .slice A0_1 l0_1.length c0_1]] w fun e w' => e = .returned (.agg #[.int .i64 r1, .int .i64 r2]) ∧ Below w.heap.size w w' := by
 have hu84 := Tryd.underlying84
 have hu25 := Tryd.underlying25
 have hu141 := Tryd.underlying141
 have HR0_0 := Aside0.mk hr0_0
 have HC0_0 := Aside0.mk hc0_0
 clear hr0_0 hc0_0
 have HR0_1 := Aside0.mk hr0_1
 have HC0_1 := Aside0.mk hc0_1
 clear hr0_1 hc0_1
 have HB := Aside0.mk (Below.refl w.heap.size w)
 have H : (if (l0_0.length : Int) > 60 then ((posthouseref3_At.f 2 (-1)).bind fun bt304 => (some (bt304.1, bt304.2))) else (posthouseref3_MessageFault.l0 k 0 l0_0 l0_1)) = some (r1, r2) := h
 clear h
 by_cases c2 : (l0_0.length : Int) > 60
 ·
  rw [if_pos c2] at H
  have c2b0 : decide (60 < (l0_0.length : Int)) = true := decide_eq_true c2
  have c2b1 : decide (60 < l0_0.length) = true := decide_eq_true (by omega)
  clear c2
  replace H := Option.bind_eq_some_iff.mp H
  obtain ⟨⟨t304, t305⟩, A30, H⟩ := H
  replace H : (some (t304, t305)) = some (r1, r2) := H
  have A3 := Aside0.mk A30
  clear A30
  simp only [Option.some.injEq, Prod.mk.injEq] at H
  obtain ⟨rfl, rfl⟩ := H
  go_enter Tryd.func97, Tryd.ntmps97
  go_wp2_with (first | ((with_reducible refine gate_dst (N := 1) rfl ?_); (try (refine gate_guard (by rfl) ?_; dsimp only)); refine box_event ?hg (N := 1) ?hd (cs := #[.slice A0_0 l0_0.length c0_0, .slice A0_1 l0_1.length c0_1]) (t := 84) ?hr ?_; (case hd => rfl); (case hg => rfl); (case hr => first | (go_simp; done) | (go_simp; rfl)); intro gb302 hg w4 hbox hb; have n0_ := Aside0.mk (below_step (pb_ HB.out) hb); have n1_ := Aside0.mk (hbox); have n2_ := Aside0.mk ((by rw [hg]; exact (below_size (pb_ HB.out)) : w.heap.size ≤ gb302)); have n3_ := Aside0.mk ((by rw [hg]; exact (below_size (pb_ HB.out)) : w.heap.size ≤ gb302)); clear HB; have HB := n0_; have BK302 := n1_; have GW302 := n2_; have GE302 := n3_; clear n0_ n1_ n2_ n3_; clear hb hbox hg) | ((with_reducible refine gate_dst (N := 2) rfl ?_); (try (refine gate_guard (by rfl) ?_; dsimp only)); refine box_event ?hg (N := 2) ?hd (cs := #[.int .i64 0, .int .i64 0]) (t := 25) ?hr ?_; (case hd => rfl); (case hg => rfl); (case hr => first | (go_simp; done) | (go_simp; rfl)); intro gb303 hg w5 hbox hb; have n0_ := Aside0.mk (blk_below (g := gb302) (o := .cells #[.slice A0_0 l0_0.length c0_0, .slice A0_1 l0_1.length c0_1] 84 (0, 0)) (pk_ BK302.out) hb); have n1_ := Aside0.mk (below_step (pb1_ HB.out GE302.out) hb); have n2_ := Aside0.mk (hbox); have n3_ := Aside0.mk ((by rw [hg]; exact (below_size (pb1_ HB.out GE302.out)) : w.heap.size ≤ gb303)); have n4_ := Aside0.mk ((by rw [hg]; exact (below_size (pb1_ HB.out GE302.out)) : w.heap.size ≤ gb303)); have n5_ := Aside0.mk ((by rw [hg]; exact Nat.ne_of_lt (blk_lt (g := gb302) (o := .cells #[.slice A0_0 l0_0.length c0_0, .slice A0_1 l0_1.length c0_1] 84 (0, 0)) (pk_ BK302.out)) : gb302 ≠ gb303)); have n6_ := Aside0.mk ((by rw [hg]; exact Nat.ne_of_gt (blk_lt (g := gb302) (o := .cells #[.slice A0_0 l0_0.length c0_0, .slice A0_1 l0_1.length c0_1] 84 (0, 0)) (pk_ BK302.out)) : gb303 ≠ gb302)); clear BK302; clear HB; have BK302 := n0_; have HB := n1_; have BK303 := n2_; have GW303 := n3_; have GE303 := n4_; have NB302_303 := n5_; have NB303_302 := n6_; clear n0_ n1_ n2_ n3_ n4_ n5_ n6_; clear hb hbox hg; have hnb6 := NB302_303.out; have hnc6 := NB303_302.out; have hcz7_0 : w5.cell? ⟨gb302, 0, none⟩ = some (.slice A0_0 l0_0.length c0_0) := (blk_cell BK302.out 0).trans rfl; have hcz7_1 : w5.cell? ⟨gb302, 1, none⟩ = some (.slice A0_1 l0_1.length c0_1) := (blk_cell BK302.out 1).trans rfl; have hfz7_0 := blk_frozen BK302.out 0; have hfz7_1 := blk_frozen BK302.out 1) | ((with_reducible refine gate_callee (f := 31) rfl ?_); refine goesL_ (some 12) rfl rfl Tryd.func31 (by kernel_rfl) rfl #[.int .i64 2, .int .i64 (-1)] rfl ls_ ?_; (with_reducible refine (posthouseref3_At.calls 2 (-1) t304 t305 _ A3.out).mono ?_); rintro e w8 ⟨rfl, hb⟩; refine ⟨_, rfl, ?_⟩; have n0_ := Aside0.mk (blk_below (g := gb302) (o := .cells #[.slice A0_0 l0_0.length c0_0, .slice A0_1 l0_1.length c0_1] 84 (0, 0)) (pk_ BK302.out) hb); have n1_ := Aside0.mk (blk_below (g := gb303) (o := .cells #[.int .i64 0, .int .i64 0] 25 (0, 0)) (pk_ BK303.out) hb); have n2_ := Aside0.mk (below_step (pb2_ HB.out GE302.out GE303.out) hb); clear BK302; clear BK303; clear HB; have BK302 := n0_; have BK303 := n1_; have HB := n2_; clear n0_ n1_ n2_; (try clear hb); (try clear hb2); (try clear hk); (try clear hi); have hcz9_0 : w8.cell? ⟨gb303, 0, none⟩ = some (.int .i64 0) := (blk_cell BK303.out 0).trans rfl; have hcz9_1 : w8.cell? ⟨gb303, 1, none⟩ = some (.int .i64 0) := (blk_cell BK303.out 1).trans rfl; have hfz9_0 := blk_frozen BK303.out 0; have hfz9_1 := blk_frozen BK303.out 1))
  refine bodyPost_ret (results_cell_row rfl _ _ gb303 25 #[.int .i64 t304, .int .i64 t305] (0, 0) _ rfl (by (with_reducible repeat (first | refine blk_drewN ?_ _ | refine blk_drew ?_ | refine blk_alloc ?_ _)); refine blk_put (cs := #[.int .i64 t304, .int .i64 0]) ?_ 1 _ rfl; (with_reducible repeat (first | refine blk_drewN ?_ _ | refine blk_drew ?_ | refine blk_alloc ?_ _)); refine blk_put (cs := #[.int .i64 0, .int .i64 0]) ?_ 0 _ rfl; (with_reducible repeat (first | refine blk_drewN ?_ _ | refine blk_drew ?_ | refine blk_alloc ?_ _)); exact BK303.out) Tryd.underlying25 rfl (by kernel_rfl)) rfl ?_
  exact ⟨by first | rfl | (simp [errW_none, errW_some] <;> rfl) | (simp [*, errW_none, errW_some] <;> rfl), by repeat (first | (with_reducible first | exact HB.out | apply below_alloc | apply pw_below_drewN | apply below_drew1 | refine below_set ?_ GE302.out | refine below_set ?_ GE303.out) | exact HB.out)⟩
 ·
  rw [if_neg c2] at H
  have c2b0 : decide (60 < (l0_0.length : Int)) = false := decide_eq_false c2
  have c2b1 : decide (60 < l0_0.length) = false := decide_eq_false (by omega)
  clear c2
  have H' := Aside0.mk H
  clear H
  go_enter Tryd.func97, Tryd.ntmps97
  go_wp2_with (first | ((with_reducible refine gate_dst (N := 1) rfl ?_); (try (refine gate_guard (by rfl) ?_; dsimp only)); refine box_event ?hg (N := 1) ?hd (cs := #[.slice A0_0 l0_0.length c0_0, .slice A0_1 l0_1.length c0_1]) (t := 84) ?hr ?_; (case hd => rfl); (case hg => rfl); (case hr => first | (go_simp; done) | (go_simp; rfl)); intro gb302 hg w10 hbox hb; have n0_ := Aside0.mk (below_step (pb_ HB.out) hb); have n1_ := Aside0.mk (hbox); have n2_ := Aside0.mk ((by rw [hg]; exact (below_size (pb_ HB.out)) : w.heap.size ≤ gb302)); have n3_ := Aside0.mk ((by rw [hg]; exact (below_size (pb_ HB.out)) : w.heap.size ≤ gb302)); clear HB; have HB := n0_; have BK302 := n1_; have GW302 := n2_; have GE302 := n3_; clear n0_ n1_ n2_ n3_; clear hb hbox hg) | ((with_reducible refine gate_dst (N := 2) rfl ?_); (try (refine gate_guard (by rfl) ?_; dsimp only)); refine box_event ?hg (N := 2) ?hd (cs := #[.int .i64 0, .int .i64 0]) (t := 25) ?hr ?_; (case hd => rfl); (case hg => rfl); (case hr => first | (go_simp; done) | (go_simp; rfl)); intro gb303 hg w11 hbox hb; have n0_ := Aside0.mk (blk_below (g := gb302) (o := .cells #[.slice A0_0 l0_0.length c0_0, .slice A0_1 l0_1.length c0_1] 84 (0, 0)) (pk_ BK302.out) hb); have n1_ := Aside0.mk (below_step (pb1_ HB.out GE302.out) hb); have n2_ := Aside0.mk (hbox); have n3_ := Aside0.mk ((by rw [hg]; exact (below_size (pb1_ HB.out GE302.out)) : w.heap.size ≤ gb303)); have n4_ := Aside0.mk ((by rw [hg]; exact (below_size (pb1_ HB.out GE302.out)) : w.heap.size ≤ gb303)); have n5_ := Aside0.mk ((by rw [hg]; exact Nat.ne_of_lt (blk_lt (g := gb302) (o := .cells #[.slice A0_0 l0_0.length c0_0, .slice A0_1 l0_1.length c0_1] 84 (0, 0)) (pk_ BK302.out)) : gb302 ≠ gb303)); have n6_ := Aside0.mk ((by rw [hg]; exact Nat.ne_of_gt (blk_lt (g := gb302) (o := .cells #[.slice A0_0 l0_0.length c0_0, .slice A0_1 l0_1.length c0_1] 84 (0, 0)) (pk_ BK302.out)) : gb303 ≠ gb302)); clear BK302; clear HB; have BK302 := n0_; have HB := n1_; have BK303 := n2_; have GW303 := n3_; have GE303 := n4_; have NB302_303 := n5_; have NB303_302 := n6_; clear n0_ n1_ n2_ n3_ n4_ n5_ n6_; clear hb hbox hg; have hnb12 := NB302_303.out; have hnc12 := NB303_302.out; have hcz13_0 : w11.cell? ⟨gb302, 0, none⟩ = some (.slice A0_0 l0_0.length c0_0) := (blk_cell BK302.out 0).trans rfl; have hcz13_1 : w11.cell? ⟨gb302, 1, none⟩ = some (.slice A0_1 l0_1.length c0_1) := (blk_cell BK302.out 1).trans rfl; have hfz13_0 := blk_frozen BK302.out 0; have hfz13_1 := blk_frozen BK302.out 1))
  go_loopg [3] k (fun kq v3 w' => ∃ (x3_1 : Int) (x304000_1 : Int) (x304001_1 : Int), v3 = .int .i64 x3_1 ∧ Aside0 (posthouseref3_MessageFault.l0 kq x3_1 l0_0 l0_1 = some (r1, r2)) ∧ Aside0 (kq ≤ k) ∧ Aside0 (w'.heap[gb302]? = some (.cells #[(.slice A0_0 l0_0.length c0_0), (.slice A0_1 l0_1.length c0_1)] 84 (0, 0))) ∧ Aside0 (w'.heap[gb303]? = some (.cells #[.int .i64 x304000_1, .int .i64 x304001_1] 25 (0, 0))) ∧ Aside0 (Below w.heap.size w w'))
  case atStart => exact ⟨(0), (0), (0), rs_, H', ⟨Nat.le_refl _⟩, ⟨by (with_reducible repeat (first | refine blk_drewN ?_ _ | refine blk_drew ?_ | refine blk_alloc ?_ _)); exact BK302.out⟩, ⟨by (with_reducible repeat (first | refine blk_drewN ?_ _ | refine blk_drew ?_ | refine blk_alloc ?_ _)); exact BK303.out⟩, ⟨by repeat (first | (with_reducible first | exact HB.out | apply below_alloc | apply pw_below_drewN | apply below_drew1 | refine below_set ?_ GE302.out | refine below_set ?_ GE303.out) | exact HB.out)⟩⟩
  case round =>
   clear H'
   try clear c1
   try clear c2
   try clear c2b0
   try clear c2b1
   try clear p2
   try clear c3
   try clear c6
   try clear c9
   try clear c12
   try clear hcz13_0
   try clear hcz13_1
   try clear hcz7_0
   try clear hcz7_1
   try clear hcz9_0
   try clear hcz9_1
   try clear hfz13_0
   try clear hfz13_1
   try clear hfz7_0
   try clear hfz7_1
   try clear hfz9_0
   try clear hfz9_1
   obtain ⟨x3_1, x304000_1, x304001_1, rfl, HA, HK1, BK302, BK303, HB⟩ := hrel
   cases gk with
   | zero => exact absurd HA.out (by simp [posthouseref3_MessageFault.l0])
   | succ k1 =>
    have H := HA.out
    clear HA
    simp only [posthouseref3_MessageFault.l0] at H
    by_cases c14 : x3_1 < (l0_0.length : Int)
    ·
     rw [if_pos c14] at H
     have c14b0 : decide (x3_1 < (l0_0.length : Int)) = true := decide_eq_true c14
     clear c14
     by_cases c15 : 0 ≤ x3_1
     ·
      rw [if_pos c15] at H
      have c15b0 : decide (0 ≤ x3_1) = true := decide_eq_true c15
      clear c15
      replace H := Option.bind_eq_some_iff.mp H
      obtain ⟨t307, A160, H⟩ := H
      replace H : (if t307 = 0 then (posthouseref3_MessageFault.l0 k1 (wrap64 (x3_1 + 1)) l0_0 l0_1) else ((posthouseref3_At.f t307 x3_1).bind fun bt308 => (some (bt308.1, bt308.2)))) = some (r1, r2) := H
      have A16 := Aside0.mk A160
      clear A160
      by_cases c17 : t307 = 0
      ·
       rw [if_pos c17] at H
       have c17b0 : (t307 == 0) = true := beq_iff_eq.mpr c17
       have c17b1 : (t307 != 0) = false := bne_eq_false_iff_eq.mpr c17
       clear c17
       have H' := Aside0.mk H
       clear H
       have hnb18 := NB302_303.out
       have hnc18 := NB303_302.out
       have hcz19_0 : wr.cell? ⟨gb302, 0, none⟩ = some (.slice A0_0 l0_0.length c0_0) := (blk_cell BK302.out 0).trans rfl
       have hcz19_1 : wr.cell? ⟨gb302, 1, none⟩ = some (.slice A0_1 l0_1.length c0_1) := (blk_cell BK302.out 1).trans rfl
       have hfz19_0 := blk_frozen BK302.out 0
       have hfz19_1 := blk_frozen BK302.out 1
       have p306 : 0 ≤ (x3_1 : Int) := of_decide_eq_true as_
       have q306 : x3_1 < (l0_0.length : Int) := of_decide_eq_true as_
       obtain ⟨ad306, e306, hx306_0, hx306_1⟩ := at_T141 HR0_0.out x3_1 p306 q306
       cases e306
       replace hx306_0 := (HB.out.cell (World.block_lt_of_cell? w _ hx306_0)).trans hx306_0
       replace hx306_1 := (HB.out.cell (World.block_lt_of_cell? w _ hx306_1)).trans hx306_1
       replace p306 := eq_true p306
       replace q306 := eq_true q306
       go_wp2_with (first | ((with_reducible refine gate_callee (f := 120) rfl ?_); refine goesL_ (some 25) rfl rfl Tryd.func120 (by kernel_rfl) rfl #[.agg #[.string ((rd_T141 l0_0 x3_1).f0), .string ((rd_T141 l0_0 x3_1).f1)]] rfl ls_ ?_; (with_reducible refine (posthouseref3_FieldCode.calls k1 ((rd_T141 l0_0 x3_1).f0) ((rd_T141 l0_0 x3_1).f1) t307 _ A16.out).mono ?_); rintro e w20 ⟨rfl, hb⟩; refine ⟨_, rfl, ?_⟩; have n0_ := Aside0.mk (blk_below (g := gb302) (o := .cells #[.slice (some ad306) l0_0.length c0_0, .slice A0_1 l0_1.length c0_1] 84 (0, 0)) (pk_ BK302.out) hb); have n1_ := Aside0.mk (blk_below (g := gb303) (o := .cells #[.int .i64 x304000_1, .int .i64 x304001_1] 25 (0, 0)) (pk_ BK303.out) hb); have n2_ := Aside0.mk (below_step (pb2_ HB.out GE302.out GE303.out) hb); clear BK302; clear BK303; clear HB; have BK302 := n0_; have BK303 := n1_; have HB := n2_; clear n0_ n1_ n2_; (try clear hb); (try clear hb2); (try clear hk); (try clear hi)))
       go_roundg k1
       case measure => have := HK1.out; omega
       case rel => exact ⟨(wrap64 (x3_1 + 1)), (x304000_1), (x304001_1), rs_, H', ⟨by have := HK1.out; omega⟩, ⟨by (with_reducible repeat (first | refine blk_drewN ?_ _ | refine blk_drew ?_ | refine blk_alloc ?_ _)); exact BK302.out⟩, ⟨by (with_reducible repeat (first | refine blk_drewN ?_ _ | refine blk_drew ?_ | refine blk_alloc ?_ _)); exact BK303.out⟩, ⟨by repeat (first | (with_reducible first | exact HB.out | apply below_alloc | apply pw_below_drewN | apply below_drew1 | refine below_set ?_ GE302.out | refine below_set ?_ GE303.out) | exact HB.out)⟩⟩
      ·
       rw [if_neg c17] at H
       have c17b0 : (t307 == 0) = false := beq_eq_false_iff_ne.mpr c17
       have c17b1 : (t307 != 0) = true := bne_iff_ne.mpr c17
       replace H := Option.bind_eq_some_iff.mp H
       obtain ⟨⟨t308, t309⟩, A210, H⟩ := H
       replace H : (some (t308, t309)) = some (r1, r2) := H
       have A21 := Aside0.mk A210
       clear A210
       simp only [Option.some.injEq, Prod.mk.injEq] at H
       obtain ⟨rfl, rfl⟩ := H
       have hnb22 := NB302_303.out
       have hnc22 := NB303_302.out
       have hcz23_0 : wr.cell? ⟨gb302, 0, none⟩ = some (.slice A0_0 l0_0.length c0_0) := (blk_cell BK302.out 0).trans rfl
       have hcz23_1 : wr.cell? ⟨gb302, 1, none⟩ = some (.slice A0_1 l0_1.length c0_1) := (blk_cell BK302.out 1).trans rfl
       have hfz23_0 := blk_frozen BK302.out 0
       have hfz23_1 := blk_frozen BK302.out 1
       have p306 : 0 ≤ (x3_1 : Int) := of_decide_eq_true as_
       have q306 : x3_1 < (l0_0.length : Int) := of_decide_eq_true as_
       obtain ⟨ad306, e306, hx306_0, hx306_1⟩ := at_T141 HR0_0.out x3_1 p306 q306
       cases e306
       replace hx306_0 := (HB.out.cell (World.block_lt_of_cell? w _ hx306_0)).trans hx306_0
       replace hx306_1 := (HB.out.cell (World.block_lt_of_cell? w _ hx306_1)).trans hx306_1
       replace p306 := eq_true p306
       replace q306 := eq_true q306
       go_wp2_with (first | ((with_reducible refine gate_callee (f := 120) rfl ?_); refine goesL_ (some 25) rfl rfl Tryd.func120 (by kernel_rfl) rfl #[.agg #[.string ((rd_T141 l0_0 x3_1).f0), .string ((rd_T141 l0_0 x3_1).f1)]] rfl ls_ ?_; (with_reducible refine (posthouseref3_FieldCode.calls k1 ((rd_T141 l0_0 x3_1).f0) ((rd_T141 l0_0 x3_1).f1) t307 _ A16.out).mono ?_); rintro e w24 ⟨rfl, hb⟩; refine ⟨_, rfl, ?_⟩; have n0_ := Aside0.mk (blk_below (g := gb302) (o := .cells #[.slice (some ad306) l0_0.length c0_0, .slice A0_1 l0_1.length c0_1] 84 (0, 0)) (pk_ BK302.out) hb); have n1_ := Aside0.mk (blk_below (g := gb303) (o := .cells #[.int .i64 x304000_1, .int .i64 x304001_1] 25 (0, 0)) (pk_ BK303.out) hb); have n2_ := Aside0.mk (below_step (pb2_ HB.out GE302.out GE303.out) hb); clear BK302; clear BK303; clear HB; have BK302 := n0_; have BK303 := n1_; have HB := n2_; clear n0_ n1_ n2_; (try clear hb); (try clear hb2); (try clear hk); (try clear hi)) | ((with_reducible refine gate_callee (f := 31) rfl ?_); refine goesL_ (some 30) rfl rfl Tryd.func31 (by kernel_rfl) rfl #[.int .i64 t307, .int .i64 x3_1] rfl ls_ ?_; (with_reducible refine (posthouseref3_At.calls t307 x3_1 t308 t309 _ A21.out).mono ?_); rintro e w25 ⟨rfl, hb⟩; refine ⟨_, rfl, ?_⟩; have n0_ := Aside0.mk (blk_below (g := gb302) (o := .cells #[.slice (some ad306) l0_0.length c0_0, .slice A0_1 l0_1.length c0_1] 84 (0, 0)) (pk_ BK302.out) hb); have n1_ := Aside0.mk (blk_below (g := gb303) (o := .cells #[.int .i64 x304000_1, .int .i64 x304001_1] 25 (0, 0)) (pk_ BK303.out) hb); have n2_ := Aside0.mk (below_step (pb2_ HB.out GE302.out GE303.out) hb); clear BK302; clear BK303; clear HB; have BK302 := n0_; have BK303 := n1_; have HB := n2_; clear n0_ n1_ n2_; (try clear hb); (try clear hb2); (try clear hk); (try clear hi); have hcz26_0 : w25.cell? ⟨gb303, 0, none⟩ = some (.int .i64 x304000_1) := (blk_cell BK303.out 0).trans rfl; have hcz26_1 : w25.cell? ⟨gb303, 1, none⟩ = some (.int .i64 x304001_1) := (blk_cell BK303.out 1).trans rfl; have hfz26_0 := blk_frozen BK303.out 0; have hfz26_1 := blk_frozen BK303.out 1))
       refine bodyPost_ret (results_cell_row rfl _ _ gb303 25 #[.int .i64 t308, .int .i64 t309] (0, 0) _ rfl (by (with_reducible repeat (first | refine blk_drewN ?_ _ | refine blk_drew ?_ | refine blk_alloc ?_ _)); refine blk_put (cs := #[.int .i64 t308, .int .i64 x304001_1]) ?_ 1 _ rfl; (with_reducible repeat (first | refine blk_drewN ?_ _ | refine blk_drew ?_ | refine blk_alloc ?_ _)); refine blk_put (cs := #[.int .i64 x304000_1, .int .i64 x304001_1]) ?_ 0 _ rfl; (with_reducible repeat (first | refine blk_drewN ?_ _ | refine blk_drew ?_ | refine blk_alloc ?_ _)); exact BK303.out) Tryd.underlying25 rfl (by kernel_rfl)) rfl ?_
       exact ⟨by first | rfl | (simp [errW_none, errW_some] <;> rfl) | (simp [*, errW_none, errW_some] <;> rfl), by repeat (first | (with_reducible first | exact HB.out | apply below_alloc | apply pw_below_drewN | apply below_drew1 | refine below_set ?_ GE302.out | refine below_set ?_ GE303.out) | exact HB.out)⟩
     ·
      rw [if_neg c15] at H
      exact absurd H (by simp)
    ·
     rw [if_neg c14] at H
     have c14b0 : decide (x3_1 < (l0_0.length : Int)) = false := decide_eq_false c14
     clear c14
     have HC27 := Aside0.mk H
     clear H
     have hnb28 := NB302_303.out
     have hnc28 := NB303_302.out
     have hcz29_0 : wr.cell? ⟨gb302, 0, none⟩ = some (.slice A0_0 l0_0.length c0_0) := (blk_cell BK302.out 0).trans rfl
     have hcz29_1 : wr.cell? ⟨gb302, 1, none⟩ = some (.slice A0_1 l0_1.length c0_1) := (blk_cell BK302.out 1).trans rfl
     have hfz29_0 := blk_frozen BK302.out 0
     have hfz29_1 := blk_frozen BK302.out 1
     go_upto_region 9 with (fail)
     go_cut [40] (fun v40 wc => ∃ (kq : Nat) (x40_26 : Bool), v40 = .bool x40_26 ∧ Aside0 (posthouseref3_MessageFault.j1 kq x40_26 l0_0 l0_1 = some (r1, r2)) ∧ Aside0 (kq ≤ k1) ∧ Aside0 (wc.heap[gb302]? = some (.cells #[(.slice A0_0 l0_0.length c0_0), (.slice A0_1 l0_1.length c0_1)] 84 (0, 0))) ∧ Aside0 (wc.heap[gb303]? = some (.cells #[.int .i64 x304000_1, .int .i64 x304001_1] 25 (0, 0))) ∧ Aside0 (Below w.heap.size w wc))
     case first =>
      have H := HC27.out
      clear HC27
      by_cases c30 : (l0_1.length : Int) > 12000
      ·
       rw [if_pos c30] at H
       have c30b0 : decide (12000 < (l0_1.length : Int)) = true := decide_eq_true c30
       have c30b1 : decide (12000 < l0_1.length) = true := decide_eq_true (by omega)
       clear c30
       (first | rw [c30b0] | (simp only [i64_w, i32_w]; rw [c30b0]) | skip)
       have H' := Aside0.mk H
       clear H
       have hnb31 := NB302_303.out
       have hnc31 := NB303_302.out
       have hcz32_0 : wr.cell? ⟨gb302, 0, none⟩ = some (.slice A0_0 l0_0.length c0_0) := (blk_cell BK302.out 0).trans rfl
       have hcz32_1 : wr.cell? ⟨gb302, 1, none⟩ = some (.slice A0_1 l0_1.length c0_1) := (blk_cell BK302.out 1).trans rfl
       have hfz32_0 := blk_frozen BK302.out 0
       have hfz32_1 := blk_frozen BK302.out 1
       go_wp2
       go_meet
       case rel => exact ⟨_, (true), rs_, H', ⟨by have := HK1.out; first | omega | exact Nat.le_refl _⟩, ⟨by (with_reducible repeat (first | refine blk_drewN ?_ _ | refine blk_drew ?_ | refine blk_alloc ?_ _)); exact BK302.out⟩, ⟨by (with_reducible repeat (first | refine blk_drewN ?_ _ | refine blk_drew ?_ | refine blk_alloc ?_ _)); exact BK303.out⟩, ⟨by repeat (first | (with_reducible first | exact HB.out | apply below_alloc | apply pw_below_drewN | apply below_drew1 | refine below_set ?_ GE302.out | refine below_set ?_ GE303.out) | exact HB.out)⟩⟩
      ·
       rw [if_neg c30] at H
       have c30b0 : decide (12000 < (l0_1.length : Int)) = false := decide_eq_false c30
       have c30b1 : decide (12000 < l0_1.length) = false := decide_eq_false (by omega)
       clear c30
       (first | rw [c30b0] | (simp only [i64_w, i32_w]; rw [c30b0]) | skip)
       replace H := Option.bind_eq_some_iff.mp H
       obtain ⟨t310, A330, H⟩ := H
       replace H : (posthouseref3_MessageFault.j1 k1 (decide ((t310.length : Int) > 12000)) l0_0 l0_1) = some (r1, r2) := H
       have A33 := Aside0.mk A330
       clear A330
       have H' := Aside0.mk H
       clear H
       have hnb34 := NB302_303.out
       have hnc34 := NB303_302.out
       have hcz35_0 : wr.cell? ⟨gb302, 0, none⟩ = some (.slice A0_0 l0_0.length c0_0) := (blk_cell BK302.out 0).trans rfl
       have hcz35_1 : wr.cell? ⟨gb302, 1, none⟩ = some (.slice A0_1 l0_1.length c0_1) := (blk_cell BK302.out 1).trans rfl
       have hfz35_0 := blk_frozen BK302.out 0
       have hfz35_1 := blk_frozen BK302.out 1
       go_wp2_with (first | (go_at_call 121; (with_reducible refine (posthouseref3_MessageBytes.calls k1 _ _ l0_0 _ _ l0_1 t310 _ ?side1 ?side2 ?side3 ?side4 A33.out).mono ?_); (case side1 => repeat (first | exact (Kd.C_below HR0_0.out HB.out) | (with_reducible refine Kd.C_alloc ?_ _) | (with_reducible refine Kd.C_drewN ?_ _) | (with_reducible refine Kd.C_drew ?_))); (case side2 => exact HC0_0.out); (case side3 => repeat (first | exact (Kd.C_below HR0_1.out HB.out) | (with_reducible refine Kd.C_alloc ?_ _) | (with_reducible refine Kd.C_drewN ?_ _) | (with_reducible refine Kd.C_drew ?_))); (case side4 => exact HC0_1.out); rintro e w36 ⟨v311, rfl, ho0, hb⟩; have n0_ := Aside0.mk (Kd.R_lower ho0 (below_size (pb2_ HB.out GE302.out GE303.out))); have n1_ := Aside0.mk (blk_below (g := gb302) (o := .cells #[.slice A0_0 l0_0.length c0_0, .slice A0_1 l0_1.length c0_1] 84 (0, 0)) (pk_ BK302.out) hb); have n2_ := Aside0.mk (blk_below (g := gb303) (o := .cells #[.int .i64 x304000_1, .int .i64 x304001_1] 25 (0, 0)) (pk_ BK303.out) hb); have n3_ := Aside0.mk (below_step (pb2_ HB.out GE302.out GE303.out) hb); clear BK302; clear BK303; clear HB; have HO312 := n0_; have BK302 := n1_; have BK303 := n2_; have HB := n3_; clear n0_ n1_ n2_ n3_; (try clear hb); (try clear hb2); (try clear hk); (try clear hi); (try clear ho0); obtain ⟨Ao37, co37, eo37⟩ := Kd.R_slice HO312.out; subst eo37))
       go_meet
       case rel => exact ⟨_, (decide ((t310.length : Int) > 12000)), rs_, H', ⟨by have := HK1.out; first | omega | exact Nat.le_refl _⟩, ⟨by (with_reducible repeat (first | refine blk_drewN ?_ _ | refine blk_drew ?_ | refine blk_alloc ?_ _)); exact BK302.out⟩, ⟨by (with_reducible repeat (first | refine blk_drewN ?_ _ | refine blk_drew ?_ | refine blk_alloc ?_ _)); exact BK303.out⟩, ⟨by repeat (first | (with_reducible first | exact HB.out | apply below_alloc | apply pw_below_drewN | apply below_drew1 | refine below_set ?_ GE302.out | refine below_set ?_ GE303.out) | exact HB.out)⟩⟩
     case rest =>
      clear HC27
      try clear c1
      try clear c2
      try clear c2b0
      try clear c2b1
      try clear p2
      try clear c3
      try clear p3
      try clear q3
      try clear hx3
      try clear c6
      try clear p6
      try clear c9
      try clear c12
      try clear c14
      try clear c14b0
      try clear c15
      try clear c15b0
      try clear c17
      try clear c17b0
      try clear c17b1
      try clear c18
      try clear c22
      try clear c28
      try clear c30
      try clear c30b0
      try clear c30b1
      try clear p30
      try clear q30
      try clear hx30
      try clear c31
      try clear c34
      try clear hcz13_0
      try clear hcz13_1
      try clear hcz19_0
      try clear hcz19_1
      try clear hcz23_0
      try clear hcz23_1
      try clear hcz26_0
      try clear hcz26_1
      try clear hcz29_0
      try clear hcz29_1
      try clear hcz32_0
      try clear hcz32_1
      try clear hcz35_0
      try clear hcz35_1
      try clear hcz7_0
      try clear hcz7_1
      try clear hcz9_0
      try clear hcz9_1
      try clear hfz13_0
      try clear hfz13_1
      try clear hfz19_0
      try clear hfz19_1
      try clear hfz23_0
      try clear hfz23_1
      try clear hfz26_0
      try clear hfz26_1
      try clear hfz29_0
      try clear hfz29_1
      try clear hfz32_0
      try clear hfz32_1
      try clear hfz35_0
      try clear hfz35_1
      try clear hfz7_0
      try clear hfz7_1
      try clear hfz9_0
      try clear hfz9_1
      try clear hx306_0
      try clear hx306_1
      try clear p2
      try clear p306
      try clear q306
      obtain ⟨kq, x40_26, rfl, HA, HJ26, BK302, BK303, HB⟩ := hcut
      cases kq with
      | zero => exact absurd HA.out (by simp [posthouseref3_MessageFault.j1])
      | succ kj26 =>
       have H := HA.out
       clear HA
       simp only [posthouseref3_MessageFault.j1] at H
       by_cases c38 : x40_26 = true
       ·
        subst c38
        have H1 : ((posthouseref3_At.f 1 (-4)).bind fun bt313 => (some (bt313.1, bt313.2))) = some (r1, r2) := by rw [if_pos rfl] at H; exact H
        clear H
        have H := H1
        clear H1
        replace H := Option.bind_eq_some_iff.mp H
        obtain ⟨⟨t313, t314⟩, A390, H⟩ := H
        replace H : (some (t313, t314)) = some (r1, r2) := H
        have A39 := Aside0.mk A390
        clear A390
        simp only [Option.some.injEq, Prod.mk.injEq] at H
        obtain ⟨rfl, rfl⟩ := H
        go_wp2_with (first | ((with_reducible refine gate_callee (f := 31) rfl ?_); refine goesL_ (some 41) rfl rfl Tryd.func31 (by kernel_rfl) rfl #[.int .i64 1, .int .i64 (-4)] rfl ls_ ?_; (with_reducible refine (posthouseref3_At.calls 1 (-4) t313 t314 _ A39.out).mono ?_); rintro e w40 ⟨rfl, hb⟩; refine ⟨_, rfl, ?_⟩; have n0_ := Aside0.mk (blk_below (g := gb302) (o := .cells #[.slice A0_0 l0_0.length c0_0, .slice A0_1 l0_1.length c0_1] 84 (0, 0)) (pk_ BK302.out) hb); have n1_ := Aside0.mk (blk_below (g := gb303) (o := .cells #[.int .i64 x304000_1, .int .i64 x304001_1] 25 (0, 0)) (pk_ BK303.out) hb); have n2_ := Aside0.mk (below_step (pb2_ HB.out GE302.out GE303.out) hb); clear BK302; clear BK303; clear HB; have BK302 := n0_; have BK303 := n1_; have HB := n2_; clear n0_ n1_ n2_; (try clear hb); (try clear hb2); (try clear hk); (try clear hi); have hnb41 := NB303_302.out; have hnc41 := NB302_303.out; have hcz42_0 : w40.cell? ⟨gb303, 0, none⟩ = some (.int .i64 x304000_1) := (blk_cell BK303.out 0).trans rfl; have hcz42_1 : w40.cell? ⟨gb303, 1, none⟩ = some (.int .i64 x304001_1) := (blk_cell BK303.out 1).trans rfl; have hfz42_0 := blk_frozen BK303.out 0; have hfz42_1 := blk_frozen BK303.out 1))
        refine bodyPost_ret (results_cell_row rfl _ _ gb303 25 #[.int .i64 t313, .int .i64 t314] (0, 0) _ rfl (by (with_reducible repeat (first | refine blk_drewN ?_ _ | refine blk_drew ?_ | refine blk_alloc ?_ _)); refine blk_put (cs := #[.int .i64 t313, .int .i64 x304001_1]) ?_ 1 _ rfl; (with_reducible repeat (first | refine blk_drewN ?_ _ | refine blk_drew ?_ | refine blk_alloc ?_ _)); refine blk_put (cs := #[.int .i64 x304000_1, .int .i64 x304001_1]) ?_ 0 _ rfl; (with_reducible repeat (first | refine blk_drewN ?_ _ | refine blk_drew ?_ | refine blk_alloc ?_ _)); exact BK303.out) Tryd.underlying25 rfl (by kernel_rfl)) rfl ?_
        exact ⟨by first | rfl | (simp [errW_none, errW_some] <;> rfl) | (simp [*, errW_none, errW_some] <;> rfl), by repeat (first | (with_reducible first | exact HB.out | apply below_alloc | apply pw_below_drewN | apply below_drew1 | refine below_set ?_ GE302.out | refine below_set ?_ GE303.out) | exact HB.out)⟩
       ·
        replace c38 := Bool.eq_false_iff.mpr c38
        subst c38
        have H1 : (posthouseref3_MessageFault.l1 kj26 0 0 l0_0 l0_1) = some (r1, r2) := by rw [if_neg (show ¬ (false = true) by decide)] at H; exact H
        clear H
        have H := H1
        clear H1
        have H' := Aside0.mk H
        clear H
        go_wp2
        go_loopg [5, 6] kj26 (fun kq v5 v6 w' => ∃ (x5_3 : Int) (x6_3 : Int) (x304000_3 : Int) (x304001_3 : Int), v5 = .int .i64 x5_3 ∧ v6 = .int .i64 x6_3 ∧ Aside0 (posthouseref3_MessageFault.l1 kq x5_3 x6_3 l0_0 l0_1 = some (r1, r2)) ∧ Aside0 (kq ≤ kj26) ∧ Aside0 (w'.heap[gb302]? = some (.cells #[(.slice A0_0 l0_0.length c0_0), (.slice A0_1 l0_1.length c0_1)] 84 (0, 0))) ∧ Aside0 (w'.heap[gb303]? = some (.cells #[.int .i64 x304000_3, .int .i64 x304001_3] 25 (0, 0))) ∧ Aside0 (Below w.heap.size w w'))
        case atStart => exact ⟨(0), (0), (x304000_1), (x304001_1), rs_, rs_, H', ⟨Nat.le_refl _⟩, ⟨by (with_reducible repeat (first | refine blk_drewN ?_ _ | refine blk_drew ?_ | refine blk_alloc ?_ _)); exact BK302.out⟩, ⟨by (with_reducible repeat (first | refine blk_drewN ?_ _ | refine blk_drew ?_ | refine blk_alloc ?_ _)); exact BK303.out⟩, ⟨by repeat (first | (with_reducible first | exact HB.out | apply below_alloc | apply pw_below_drewN | apply below_drew1 | refine below_set ?_ GE302.out | refine below_set ?_ GE303.out) | exact HB.out)⟩⟩
        case round =>
         clear H'
         try clear c1
         try clear c2
         try clear c2b0
         try clear c2b1
         try clear p2
         try clear c3
         try clear p3
         try clear q3
         try clear hx3
         try clear c4
         try clear c6
         try clear p6
         try clear c9
         try clear c12
         try clear c14
         try clear c14b0
         try clear c15
         try clear c15b0
         try clear c17
         try clear c17b0
         try clear c17b1
         try clear c18
         try clear c22
         try clear c28
         try clear c30
         try clear c30b0
         try clear c30b1
         try clear p30
         try clear q30
         try clear hx30
         try clear c31
         try clear c34
         try clear c38
         try clear c41
         try clear hcz13_0
         try clear hcz13_1
         try clear hcz19_0
         try clear hcz19_1
         try clear hcz23_0
         try clear hcz23_1
         try clear hcz26_0
         try clear hcz26_1
         try clear hcz29_0
         try clear hcz29_1
         try clear hcz32_0
         try clear hcz32_1
         try clear hcz35_0
         try clear hcz35_1
         try clear hcz42_0
         try clear hcz42_1
         try clear hcz7_0
         try clear hcz7_1
         try clear hcz9_0
         try clear hcz9_1
         try clear hfz13_0
         try clear hfz13_1
         try clear hfz19_0
         try clear hfz19_1
         try clear hfz23_0
         try clear hfz23_1
         try clear hfz26_0
         try clear hfz26_1
         try clear hfz29_0
         try clear hfz29_1
         try clear hfz32_0
         try clear hfz32_1
         try clear hfz35_0
         try clear hfz35_1
         try clear hfz42_0
         try clear hfz42_1
         try clear hfz7_0
         try clear hfz7_1
         try clear hfz9_0
         try clear hfz9_1
         try clear hx306_0
         try clear hx306_1
         try clear p2
         try clear p3
         try clear p30
         try clear p306
         try clear p6
         try clear q3
         try clear q30
         try clear q306
         obtain ⟨x5_3, x6_3, x304000_3, x304001_3, rfl, rfl, HA, HK3, BK302, BK303, HB⟩ := hrel
         cases gk with
         | zero => exact absurd HA.out (by simp [posthouseref3_MessageFault.l1])
         | succ k3 =>
          have H := HA.out
          clear HA
          simp only [posthouseref3_MessageFault.l1] at H
          by_cases c43 : x6_3 < (l0_1.length : Int)
          ·
           rw [if_pos c43] at H
           have c43b0 : decide (x6_3 < (l0_1.length : Int)) = true := decide_eq_true c43
           clear c43
           by_cases c44 : 0 ≤ x6_3
           ·
            rw [if_pos c44] at H
            have c44b0 : decide (0 ≤ x6_3) = true := decide_eq_true c44
            clear c44
            have HC45 := Aside0.mk H
            clear H
            have hnb46 := NB302_303.out
            have hnc46 := NB303_302.out
            have hcz47_0 : wr.cell? ⟨gb302, 0, none⟩ = some (.slice A0_0 l0_0.length c0_0) := (blk_cell BK302.out 0).trans rfl
            have hcz47_1 : wr.cell? ⟨gb302, 1, none⟩ = some (.slice A0_1 l0_1.length c0_1) := (blk_cell BK302.out 1).trans rfl
            have hfz47_0 := blk_frozen BK302.out 0
            have hfz47_1 := blk_frozen BK302.out 1
            have p315 : 0 ≤ (x6_3 : Int) := of_decide_eq_true as_
            have q315 : x6_3 < (l0_1.length : Int) := of_decide_eq_true as_
            obtain ⟨ad315, e315, hx315_0⟩ := Kd.at_int HR0_1.out x6_3 p315 q315
            cases e315
            replace hx315_0 := (HB.out.cell (World.block_lt_of_cell? w _ hx315_0)).trans hx315_0
            replace p315 := eq_true p315
            replace q315 := eq_true q315
            go_upto_region 16 with (fail)
            go_cut [72] (fun v72 wc => ∃ (kq : Nat) (x72_44 : Bool), v72 = .bool x72_44 ∧ Aside0 (posthouseref3_MessageFault.j3 kq x5_3 x6_3 (rd l0_1 x6_3) x72_44 l0_0 l0_1 = some (r1, r2)) ∧ Aside0 (kq ≤ k3) ∧ Aside0 (wc.heap[gb302]? = some (.cells #[(.slice A0_0 l0_0.length c0_0), (.slice (some ad315) l0_1.length c0_1)] 84 (0, 0))) ∧ Aside0 (wc.heap[gb303]? = some (.cells #[.int .i64 x304000_3, .int .i64 x304001_3] 25 (0, 0))) ∧ Aside0 (Below w.heap.size w wc))
            case first =>
             have H := HC45.out
             clear HC45
             by_cases c48 : (rd l0_1 x6_3) = 13
             ·
              rw [if_pos c48] at H
              have c48b0 : ((rd l0_1 x6_3) == 13) = true := beq_iff_eq.mpr c48
              have c48b1 : ((rd l0_1 x6_3) != 13) = false := bne_eq_false_iff_eq.mpr c48
              clear c48
              (first | rw [c48b0] | (simp only [i64_w, i32_w]; rw [c48b0]) | skip)
              by_cases c49 : (wrap64 (x6_3 + 1)) < (l0_1.length : Int)
              ·
               rw [if_pos c49] at H
               have c49b0 : decide ((wrap64 (x6_3 + 1)) < (l0_1.length : Int)) = true := decide_eq_true c49
               clear c49
               obtain ⟨ji50, hji50⟩ : ∃ j_ : Int, (wrap64 (x6_3 + 1)) = j_ := ⟨_, rfl⟩
               replace H : (if 0 ≤ (ji50) then (posthouseref3_MessageFault.j3 k3 x5_3 x6_3 (rd l0_1 x6_3) ((rd l0_1 (ji50)) == 10) l0_0 l0_1) else (none)) = some (r1, r2) := by first | (rw [hji50] at H; exact H) | (simp only [hji50] at H ⊢; exact H)
               (try rw [hji50] at c49b0)
               have hji50w : (IntKind.i64.wrap (x6_3 + 1)) = ji50 := (i64_w _).trans hji50
               by_cases c51 : 0 ≤ (ji50)
               ·
                rw [if_pos c51] at H
                have c51b0 : decide (0 ≤ (ji50)) = true := decide_eq_true c51
                clear c51
                have H' := Aside0.mk H
                clear H
                have hnb52 := NB302_303.out
                have hnc52 := NB303_302.out
                have hcz53_0 : wr.cell? ⟨gb302, 0, none⟩ = some (.slice A0_0 l0_0.length c0_0) := (blk_cell BK302.out 0).trans rfl
                have hcz53_1 : wr.cell? ⟨gb302, 1, none⟩ = some (.slice (some ad315) l0_1.length c0_1) := (blk_cell BK302.out 1).trans rfl
                have hfz53_0 := blk_frozen BK302.out 0
                have hfz53_1 := blk_frozen BK302.out 1
                have p316 : 0 ≤ ((ji50) : Int) := of_decide_eq_true as_
                have q316 : (ji50) < (l0_1.length : Int) := of_decide_eq_true as_
                obtain ⟨ad316, e316, hx316_0⟩ := Kd.at_int HR0_1.out (ji50) p316 q316
                obtain rfl : ad315 = ad316 := (by injection e316)
                replace hx316_0 := (HB.out.cell (World.block_lt_of_cell? w _ hx316_0)).trans hx316_0
                replace p316 := eq_true p316
                replace q316 := eq_true q316
                go_wp2
                go_meet
                case rel => exact ⟨_, (((rd l0_1 (ji50)) == 10)), (by first | rfl | (simp; done) | (simp only [← hji50] <;> (first | rfl | simp)) | (simp [*]; done)), H', ⟨by have := HK1.out; have := HJ26.out; have := HK3.out; first | omega | exact Nat.le_refl _⟩, ⟨by (with_reducible repeat (first | refine blk_drewN ?_ _ | refine blk_drew ?_ | refine blk_alloc ?_ _)); exact BK302.out⟩, ⟨by (with_reducible repeat (first | refine blk_drewN ?_ _ | refine blk_drew ?_ | refine blk_alloc ?_ _)); exact BK303.out⟩, ⟨by repeat (first | (with_reducible first | exact HB.out | apply below_alloc | apply pw_below_drewN | apply below_drew1 | refine below_set ?_ GE302.out | refine below_set ?_ GE303.out) | exact HB.out)⟩⟩
               ·
                rw [if_neg c51] at H
                exact absurd H (by simp)
              ·
               rw [if_neg c49] at H
               have c49b0 : decide ((wrap64 (x6_3 + 1)) < (l0_1.length : Int)) = false := decide_eq_false c49
               clear c49
               have H' := Aside0.mk H
               clear H
               have hnb54 := NB302_303.out
               have hnc54 := NB303_302.out
               have hcz55_0 : wr.cell? ⟨gb302, 0, none⟩ = some (.slice A0_0 l0_0.length c0_0) := (blk_cell BK302.out 0).trans rfl
               have hcz55_1 : wr.cell? ⟨gb302, 1, none⟩ = some (.slice (some ad315) l0_1.length c0_1) := (blk_cell BK302.out 1).trans rfl
               have hfz55_0 := blk_frozen BK302.out 0
               have hfz55_1 := blk_frozen BK302.out 1
               go_wp2
               go_meet
               case rel => exact ⟨_, (false), rs_, H', ⟨by have := HK1.out; have := HJ26.out; have := HK3.out; first | omega | exact Nat.le_refl _⟩, ⟨by (with_reducible repeat (first | refine blk_drewN ?_ _ | refine blk_drew ?_ | refine blk_alloc ?_ _)); exact BK302.out⟩, ⟨by (with_reducible repeat (first | refine blk_drewN ?_ _ | refine blk_drew ?_ | refine blk_alloc ?_ _)); exact BK303.out⟩, ⟨by repeat (first | (with_reducible first | exact HB.out | apply below_alloc | apply pw_below_drewN | apply below_drew1 | refine below_set ?_ GE302.out | refine below_set ?_ GE303.out) | exact HB.out)⟩⟩
             ·
              rw [if_neg c48] at H
              have c48b0 : ((rd l0_1 x6_3) == 13) = false := beq_eq_false_iff_ne.mpr c48
              have c48b1 : ((rd l0_1 x6_3) != 13) = true := bne_iff_ne.mpr c48
              (first | rw [c48b0] | (simp only [i64_w, i32_w]; rw [c48b0]) | skip)
              have H' := Aside0.mk H
              clear H
              go_wp2
              go_meet
              case rel => exact ⟨_, (false), rs_, H', ⟨by have := HK1.out; have := HJ26.out; have := HK3.out; first | omega | exact Nat.le_refl _⟩, ⟨by (with_reducible repeat (first | refine blk_drewN ?_ _ | refine blk_drew ?_ | refine blk_alloc ?_ _)); exact BK302.out⟩, ⟨by (with_reducible repeat (first | refine blk_drewN ?_ _ | refine blk_drew ?_ | refine blk_alloc ?_ _)); exact BK303.out⟩, ⟨by repeat (first | (with_reducible first | exact HB.out | apply below_alloc | apply pw_below_drewN | apply below_drew1 | refine below_set ?_ GE302.out | refine below_set ?_ GE303.out) | exact HB.out)⟩⟩
            case rest =>
             clear HC45
             try clear c1
             try clear c2
             try clear c2b0
             try clear c2b1
             try clear p2
             try clear c3
             try clear p3
             try clear q3
             try clear hx3
             try clear c4
             try clear c5
             try clear c6
             try clear p6
             try clear c9
             try clear c12
             try clear c14
             try clear c14b0
             try clear c15
             try clear c15b0
             try clear c17
             try clear c17b0
             try clear c17b1
             try clear c18
             try clear c22
             try clear c28
             try clear c30
             try clear c30b0
             try clear c30b1
             try clear p30
             try clear q30
             try clear hx30
             try clear c31
             try clear p31
             try clear q31
             try clear hx31
             try clear c34
             try clear c38
             try clear c41
             try clear c43
             try clear c43b0
             try clear c44
             try clear c44b0
             try clear c46
             try clear c48
             try clear c48b0
             try clear c48b1
             try clear c49
             try clear c49b0
             try clear c51
             try clear c51b0
             try clear c52
             try clear c54
             try clear hcz13_0
             try clear hcz13_1
             try clear hcz19_0
             try clear hcz19_1
             try clear hcz23_0
             try clear hcz23_1
             try clear hcz26_0
             try clear hcz26_1
             try clear hcz29_0
             try clear hcz29_1
             try clear hcz32_0
             try clear hcz32_1
             try clear hcz35_0
             try clear hcz35_1
             try clear hcz42_0
             try clear hcz42_1
             try clear hcz47_0
             try clear hcz47_1
             try clear hcz53_0
             try clear hcz53_1
             try clear hcz55_0
             try clear hcz55_1
             try clear hcz7_0
             try clear hcz7_1
             try clear hcz9_0
             try clear hcz9_1
             try clear hfz13_0
             try clear hfz13_1
             try clear hfz19_0
             try clear hfz19_1
             try clear hfz23_0
             try clear hfz23_1
             try clear hfz26_0
             try clear hfz26_1
             try clear hfz29_0
             try clear hfz29_1
             try clear hfz32_0
             try clear hfz32_1
             try clear hfz35_0
             try clear hfz35_1
             try clear hfz42_0
             try clear hfz42_1
             try clear hfz47_0
             try clear hfz47_1
             try clear hfz53_0
             try clear hfz53_1
             try clear hfz55_0
             try clear hfz55_1
             try clear hfz7_0
             try clear hfz7_1
             try clear hfz9_0
             try clear hfz9_1
             try clear hx306_0
             try clear hx306_1
             try clear hx315_0
             try clear hx316_0
             try clear p2
             try clear p3
             try clear p30
             try clear p306
             try clear p315
             try clear p316
             try clear p6
             try clear q3
             try clear q30
             try clear q306
             try clear q315
             try clear q316
             obtain ⟨kq, x72_44, rfl, HA, HJ44, BK302, BK303, HB⟩ := hcut
             cases kq with
             | zero => exact absurd HA.out (by simp [posthouseref3_MessageFault.j3])
             | succ kj44 =>
              have H := HA.out
              clear HA
              simp only [posthouseref3_MessageFault.j3] at H
              by_cases c56 : x72_44 = true
              ·
               subst c56
               have H1 : (posthouseref3_MessageFault.l1 kj44 0 (wrap64 ((wrap64 (x6_3 + 1)) + 1)) l0_0 l0_1) = some (r1, r2) := by rw [if_pos rfl] at H; exact H
               clear H
               have H := H1
               clear H1
               have H' := Aside0.mk H
               clear H
               go_wp2
               go_roundg kj44
               case measure => have := HK1.out; have := HJ26.out; have := HK3.out; have := HJ44.out; omega
               case rel => exact ⟨(0), (wrap64 ((wrap64 (x6_3 + 1)) + 1)), (x304000_3), (x304001_3), rs_, rs_, H', ⟨by have := HK1.out; have := HJ26.out; have := HK3.out; have := HJ44.out; omega⟩, ⟨by (with_reducible repeat (first | refine blk_drewN ?_ _ | refine blk_drew ?_ | refine blk_alloc ?_ _)); exact BK302.out⟩, ⟨by (with_reducible repeat (first | refine blk_drewN ?_ _ | refine blk_drew ?_ | refine blk_alloc ?_ _)); exact BK303.out⟩, ⟨by repeat (first | (with_reducible first | exact HB.out | apply below_alloc | apply pw_below_drewN | apply below_drew1 | refine below_set ?_ GE302.out | refine below_set ?_ GE303.out) | exact HB.out)⟩⟩
              ·
               replace c56 := Bool.eq_false_iff.mpr c56
               subst c56
               have H1 : (if (rd l0_1 x6_3) = 13 then (posthouseref3_MessageFault.j4 kj44 x5_3 x6_3 true l0_0 l0_1) else (posthouseref3_MessageFault.j4 kj44 x5_3 x6_3 ((rd l0_1 x6_3) == 10) l0_0 l0_1)) = some (r1, r2) := by rw [if_neg (show ¬ (false = true) by decide)] at H; exact H
               clear H
               have H := H1
               clear H1
               have HC57 := Aside0.mk H
               clear H
               go_upto_region 19 with (fail)
               go_cut [80] (fun v80 wc => ∃ (kq : Nat) (x80_56 : Bool), v80 = .bool x80_56 ∧ Aside0 (posthouseref3_MessageFault.j4 kq x5_3 x6_3 x80_56 l0_0 l0_1 = some (r1, r2)) ∧ Aside0 (kq ≤ kj44) ∧ Aside0 (wc.heap[gb302]? = some (.cells #[(.slice A0_0 l0_0.length c0_0), (.slice (some ad315) l0_1.length c0_1)] 84 (0, 0))) ∧ Aside0 (wc.heap[gb303]? = some (.cells #[.int .i64 x304000_3, .int .i64 x304001_3] 25 (0, 0))) ∧ Aside0 (Below w.heap.size w wc))
               case first =>
                have H := HC57.out
                clear HC57
                by_cases c58 : (rd l0_1 x6_3) = 13
                ·
                 rw [if_pos c58] at H
                 have c58b0 : ((rd l0_1 x6_3) == 13) = true := beq_iff_eq.mpr c58
                 have c58b1 : ((rd l0_1 x6_3) != 13) = false := bne_eq_false_iff_eq.mpr c58
                 clear c58
                 (first | rw [c58b0] | (simp only [i64_w, i32_w]; rw [c58b0]) | skip)
                 have H' := Aside0.mk H
                 clear H
                 go_wp2
                 go_meet
                 case rel => exact ⟨_, (true), rs_, H', ⟨by have := HK1.out; have := HJ26.out; have := HK3.out; have := HJ44.out; first | omega | exact Nat.le_refl _⟩, ⟨by (with_reducible repeat (first | refine blk_drewN ?_ _ | refine blk_drew ?_ | refine blk_alloc ?_ _)); exact BK302.out⟩, ⟨by (with_reducible repeat (first | refine blk_drewN ?_ _ | refine blk_drew ?_ | refine blk_alloc ?_ _)); exact BK303.out⟩, ⟨by repeat (first | (with_reducible first | exact HB.out | apply below_alloc | apply pw_below_drewN | apply below_drew1 | refine below_set ?_ GE302.out | refine below_set ?_ GE303.out) | exact HB.out)⟩⟩
                ·
                 rw [if_neg c58] at H
                 have c58b0 : ((rd l0_1 x6_3) == 13) = false := beq_eq_false_iff_ne.mpr c58
                 have c58b1 : ((rd l0_1 x6_3) != 13) = true := bne_iff_ne.mpr c58
                 (first | rw [c58b0] | (simp only [i64_w, i32_w]; rw [c58b0]) | skip)
                 have H' := Aside0.mk H
                 clear H
                 go_wp2
                 go_meet
                 case rel => exact ⟨_, (((rd l0_1 x6_3) == 10)), rs_, H', ⟨by have := HK1.out; have := HJ26.out; have := HK3.out; have := HJ44.out; first | omega | exact Nat.le_refl _⟩, ⟨by (with_reducible repeat (first | refine blk_drewN ?_ _ | refine blk_drew ?_ | refine blk_alloc ?_ _)); exact BK302.out⟩, ⟨by (with_reducible repeat (first | refine blk_drewN ?_ _ | refine blk_drew ?_ | refine blk_alloc ?_ _)); exact BK303.out⟩, ⟨by repeat (first | (with_reducible first | exact HB.out | apply below_alloc | apply pw_below_drewN | apply below_drew1 | refine below_set ?_ GE302.out | refine below_set ?_ GE303.out) | exact HB.out)⟩⟩
               case rest =>
                clear HC57
                try clear c1
                try clear c2
                try clear c2b0
                try clear c2b1
                try clear p2
                try clear c3
                try clear p3
                try clear q3
                try clear hx3
                try clear c4
                try clear c5
                try clear c6
                try clear p6
                try clear c9
                try clear c12
                try clear c14
                try clear c14b0
                try clear c15
                try clear c15b0
                try clear c17
                try clear c17b0
                try clear c17b1
                try clear c18
                try clear c22
                try clear c28
                try clear c30
                try clear c30b0
                try clear c30b1
                try clear p30
                try clear q30
                try clear hx30
                try clear c31
                try clear p31
                try clear q31
                try clear hx31
                try clear c34
                try clear c38
                try clear c41
                try clear c43
                try clear c43b0
                try clear c44
                try clear c44b0
                try clear c46
                try clear c48
                try clear c48b0
                try clear c48b1
                try clear c49
                try clear c49b0
                try clear c51
                try clear c51b0
                try clear c52
                try clear c54
                try clear c56
                try clear c58
                try clear c58b0
                try clear c58b1
                try clear hcz13_0
                try clear hcz13_1
                try clear hcz19_0
                try clear hcz19_1
                try clear hcz23_0
                try clear hcz23_1
                try clear hcz26_0
                try clear hcz26_1
                try clear hcz29_0
                try clear hcz29_1
                try clear hcz32_0
                try clear hcz32_1
                try clear hcz35_0
                try clear hcz35_1
                try clear hcz42_0
                try clear hcz42_1
                try clear hcz47_0
                try clear hcz47_1
                try clear hcz53_0
                try clear hcz53_1
                try clear hcz55_0
                try clear hcz55_1
                try clear hcz7_0
                try clear hcz7_1
                try clear hcz9_0
                try clear hcz9_1
                try clear hfz13_0
                try clear hfz13_1
                try clear hfz19_0
                try clear hfz19_1
                try clear hfz23_0
                try clear hfz23_1
                try clear hfz26_0
                try clear hfz26_1
                try clear hfz29_0
                try clear hfz29_1
                try clear hfz32_0
                try clear hfz32_1
                try clear hfz35_0
                try clear hfz35_1
                try clear hfz42_0
                try clear hfz42_1
                try clear hfz47_0
                try clear hfz47_1
                try clear hfz53_0
                try clear hfz53_1
                try clear hfz55_0
                try clear hfz55_1
                try clear hfz7_0
                try clear hfz7_1
                try clear hfz9_0
                try clear hfz9_1
                try clear hx306_0
                try clear hx306_1
                try clear hx315_0
                try clear hx316_0
                try clear p2
                try clear p3
                try clear p30
                try clear p306
                try clear p31
                try clear p315
                try clear p316
                try clear p6
                try clear q3
                try clear q30
                try clear q306
                try clear q31
                try clear q315
                try clear q316
                obtain ⟨kq, x80_56, rfl, HA, HJ56, BK302, BK303, HB⟩ := hcut
                cases kq with
                | zero => exact absurd HA.out (by simp [posthouseref3_MessageFault.j4])
                | succ kj56 =>
                 have H := HA.out
                 clear HA
                 simp only [posthouseref3_MessageFault.j4] at H
                 by_cases c59 : x80_56 = true
                 ·
                  subst c59
                  have H1 : ((posthouseref3_At.f 11 (-5)).bind fun bt317 => (some (bt317.1, bt317.2))) = some (r1, r2) := by rw [if_pos rfl] at H; exact H
                  clear H
                  have H := H1
                  clear H1
                  replace H := Option.bind_eq_some_iff.mp H
                  obtain ⟨⟨t317, t318⟩, A600, H⟩ := H
                  replace H : (some (t317, t318)) = some (r1, r2) := H
                  have A60 := Aside0.mk A600
                  clear A600
                  simp only [Option.some.injEq, Prod.mk.injEq] at H
                  obtain ⟨rfl, rfl⟩ := H
                  go_wp2_with (first | ((with_reducible refine gate_callee (f := 31) rfl ?_); refine goesL_ (some 81) rfl rfl Tryd.func31 (by kernel_rfl) rfl #[.int .i64 11, .int .i64 (-5)] rfl ls_ ?_; (with_reducible refine (posthouseref3_At.calls 11 (-5) t317 t318 _ A60.out).mono ?_); rintro e w61 ⟨rfl, hb⟩; refine ⟨_, rfl, ?_⟩; have n0_ := Aside0.mk (blk_below (g := gb302) (o := .cells #[.slice A0_0 l0_0.length c0_0, .slice (some ad315) l0_1.length c0_1] 84 (0, 0)) (pk_ BK302.out) hb); have n1_ := Aside0.mk (blk_below (g := gb303) (o := .cells #[.int .i64 x304000_3, .int .i64 x304001_3] 25 (0, 0)) (pk_ BK303.out) hb); have n2_ := Aside0.mk (below_step (pb2_ HB.out GE302.out GE303.out) hb); clear BK302; clear BK303; clear HB; have BK302 := n0_; have BK303 := n1_; have HB := n2_; clear n0_ n1_ n2_; (try clear hb); (try clear hb2); (try clear hk); (try clear hi); have hnb62 := NB303_302.out; have hnc62 := NB302_303.out; have hcz63_0 : w61.cell? ⟨gb303, 0, none⟩ = some (.int .i64 x304000_3) := (blk_cell BK303.out 0).trans rfl; have hcz63_1 : w61.cell? ⟨gb303, 1, none⟩ = some (.int .i64 x304001_3) := (blk_cell BK303.out 1).trans rfl; have hfz63_0 := blk_frozen BK303.out 0; have hfz63_1 := blk_frozen BK303.out 1))
                  refine bodyPost_ret (results_cell_row rfl _ _ gb303 25 #[.int .i64 t317, .int .i64 t318] (0, 0) _ rfl (by (with_reducible repeat (first | refine blk_drewN ?_ _ | refine blk_drew ?_ | refine blk_alloc ?_ _)); refine blk_put (cs := #[.int .i64 t317, .int .i64 x304001_3]) ?_ 1 _ rfl; (with_reducible repeat (first | refine blk_drewN ?_ _ | refine blk_drew ?_ | refine blk_alloc ?_ _)); refine blk_put (cs := #[.int .i64 x304000_3, .int .i64 x304001_3]) ?_ 0 _ rfl; (with_reducible repeat (first | refine blk_drewN ?_ _ | refine blk_drew ?_ | refine blk_alloc ?_ _)); exact BK303.out) Tryd.underlying25 rfl (by kernel_rfl)) rfl ?_
                  exact ⟨by first | rfl | (simp [errW_none, errW_some] <;> rfl) | (simp [*, errW_none, errW_some] <;> rfl), by repeat (first | (with_reducible first | exact HB.out | apply below_alloc | apply pw_below_drewN | apply below_drew1 | refine below_set ?_ GE302.out | refine below_set ?_ GE303.out) | exact HB.out)⟩
                 ·
                  replace c59 := Bool.eq_false_iff.mpr c59
                  subst c59
                  have H1 : (if (wrap64 (x5_3 + 1)) > 998 then ((posthouseref3_At.f 1 (-6)).bind fun bt319 => (some (bt319.1, bt319.2))) else (posthouseref3_MessageFault.l1 kj56 (wrap64 (x5_3 + 1)) (wrap64 (x6_3 + 1)) l0_0 l0_1)) = some (r1, r2) := by rw [if_neg (show ¬ (false = true) by decide)] at H; exact H
                  clear H
                  have H := H1
                  clear H1
                  by_cases c64 : (wrap64 (x5_3 + 1)) > 998
                  ·
                   rw [if_pos c64] at H
                   have c64b0 : decide (998 < (wrap64 (x5_3 + 1))) = true := decide_eq_true c64
                   clear c64
                   replace H := Option.bind_eq_some_iff.mp H
                   obtain ⟨⟨t319, t320⟩, A650, H⟩ := H
                   replace H : (some (t319, t320)) = some (r1, r2) := H
                   have A65 := Aside0.mk A650
                   clear A650
                   simp only [Option.some.injEq, Prod.mk.injEq] at H
                   obtain ⟨rfl, rfl⟩ := H
                   go_wp2_with (first | ((with_reducible refine gate_callee (f := 31) rfl ?_); refine goesL_ (some 86) rfl rfl Tryd.func31 (by kernel_rfl) rfl #[.int .i64 1, .int .i64 (-6)] rfl ls_ ?_; (with_reducible refine (posthouseref3_At.calls 1 (-6) t319 t320 _ A65.out).mono ?_); rintro e w66 ⟨rfl, hb⟩; refine ⟨_, rfl, ?_⟩; have n0_ := Aside0.mk (blk_below (g := gb302) (o := .cells #[.slice A0_0 l0_0.length c0_0, .slice (some ad315) l0_1.length c0_1] 84 (0, 0)) (pk_ BK302.out) hb); have n1_ := Aside0.mk (blk_below (g := gb303) (o := .cells #[.int .i64 x304000_3, .int .i64 x304001_3] 25 (0, 0)) (pk_ BK303.out) hb); have n2_ := Aside0.mk (below_step (pb2_ HB.out GE302.out GE303.out) hb); clear BK302; clear BK303; clear HB; have BK302 := n0_; have BK303 := n1_; have HB := n2_; clear n0_ n1_ n2_; (try clear hb); (try clear hb2); (try clear hk); (try clear hi); have hnb67 := NB303_302.out; have hnc67 := NB302_303.out; have hcz68_0 : w66.cell? ⟨gb303, 0, none⟩ = some (.int .i64 x304000_3) := (blk_cell BK303.out 0).trans rfl; have hcz68_1 : w66.cell? ⟨gb303, 1, none⟩ = some (.int .i64 x304001_3) := (blk_cell BK303.out 1).trans rfl; have hfz68_0 := blk_frozen BK303.out 0; have hfz68_1 := blk_frozen BK303.out 1))
                   refine bodyPost_ret (results_cell_row rfl _ _ gb303 25 #[.int .i64 t319, .int .i64 t320] (0, 0) _ rfl (by (with_reducible repeat (first | refine blk_drewN ?_ _ | refine blk_drew ?_ | refine blk_alloc ?_ _)); refine blk_put (cs := #[.int .i64 t319, .int .i64 x304001_3]) ?_ 1 _ rfl; (with_reducible repeat (first | refine blk_drewN ?_ _ | refine blk_drew ?_ | refine blk_alloc ?_ _)); refine blk_put (cs := #[.int .i64 x304000_3, .int .i64 x304001_3]) ?_ 0 _ rfl; (with_reducible repeat (first | refine blk_drewN ?_ _ | refine blk_drew ?_ | refine blk_alloc ?_ _)); exact BK303.out) Tryd.underlying25 rfl (by kernel_rfl)) rfl ?_
                   exact ⟨by first | rfl | (simp [errW_none, errW_some] <;> rfl) | (simp [*, errW_none, errW_some] <;> rfl), by repeat (first | (with_reducible first | exact HB.out | apply below_alloc | apply pw_below_drewN | apply below_drew1 | refine below_set ?_ GE302.out | refine below_set ?_ GE303.out) | exact HB.out)⟩
                  ·
                   rw [if_neg c64] at H
                   have c64b0 : decide (998 < (wrap64 (x5_3 + 1))) = false := decide_eq_false c64
                   clear c64
                   have H' := Aside0.mk H
                   clear H
                   go_wp2
                   go_roundg kj56
                   case measure => have := HK1.out; have := HJ26.out; have := HK3.out; have := HJ44.out; have := HJ56.out; omega
                   case rel => exact ⟨(wrap64 (x5_3 + 1)), (wrap64 (x6_3 + 1)), (x304000_3), (x304001_3), rs_, rs_, H', ⟨by have := HK1.out; have := HJ26.out; have := HK3.out; have := HJ44.out; have := HJ56.out; omega⟩, ⟨by (with_reducible repeat (first | refine blk_drewN ?_ _ | refine blk_drew ?_ | refine blk_alloc ?_ _)); exact BK302.out⟩, ⟨by (with_reducible repeat (first | refine blk_drewN ?_ _ | refine blk_drew ?_ | refine blk_alloc ?_ _)); exact BK303.out⟩, ⟨by repeat (first | (with_reducible first | exact HB.out | apply below_alloc | apply pw_below_drewN | apply below_drew1 | refine below_set ?_ GE302.out | refine below_set ?_ GE303.out) | exact HB.out)⟩⟩
           ·
            rw [if_neg c44] at H
            exact absurd H (by simp)
          ·
           rw [if_neg c43] at H
           have c43b0 : decide (x6_3 < (l0_1.length : Int)) = false := decide_eq_false c43
           clear c43
           simp only [Option.some.injEq, Prod.mk.injEq] at H
           obtain ⟨rfl, rfl⟩ := H
           have hnb69 := NB302_303.out
           have hnc69 := NB303_302.out
           have hcz70_0 : wr.cell? ⟨gb302, 0, none⟩ = some (.slice A0_0 l0_0.length c0_0) := (blk_cell BK302.out 0).trans rfl
           have hcz70_1 : wr.cell? ⟨gb302, 1, none⟩ = some (.slice A0_1 l0_1.length c0_1) := (blk_cell BK302.out 1).trans rfl
           have hfz70_0 := blk_frozen BK302.out 0
           have hfz70_1 := blk_frozen BK302.out 1
           have hcz71_0 : wr.cell? ⟨gb303, 0, none⟩ = some (.int .i64 x304000_3) := (blk_cell BK303.out 0).trans rfl
           have hcz71_1 : wr.cell? ⟨gb303, 1, none⟩ = some (.int .i64 x304001_3) := (blk_cell BK303.out 1).trans rfl
           have hfz71_0 := blk_frozen BK303.out 0
           have hfz71_1 := blk_frozen BK303.out 1
           go_wp2
           refine bodyPost_ret (results_cell_row rfl _ _ gb303 25 #[.int .i64 0, .int .i64 0] (0, 0) _ rfl (by (with_reducible repeat (first | refine blk_drewN ?_ _ | refine blk_drew ?_ | refine blk_alloc ?_ _)); refine blk_put (cs := #[.int .i64 0, .int .i64 x304001_3]) ?_ 1 _ rfl; (with_reducible repeat (first | refine blk_drewN ?_ _ | refine blk_drew ?_ | refine blk_alloc ?_ _)); refine blk_put (cs := #[.int .i64 x304000_3, .int .i64 x304001_3]) ?_ 0 _ rfl; (with_reducible repeat (first | refine blk_drewN ?_ _ | refine blk_drew ?_ | refine blk_alloc ?_ _)); exact BK303.out) Tryd.underlying25 rfl (by kernel_rfl)) rfl ?_
           exact ⟨by first | rfl | (simp [errW_none, errW_some] <;> rfl) | (simp [*, errW_none, errW_some] <;> rfl), by repeat (first | (with_reducible first | exact HB.out | apply below_alloc | apply pw_below_drewN | apply below_drew1 | refine below_set ?_ GE302.out | refine below_set ?_ GE303.out) | exact HB.out)⟩

end Go.Proofs.YtbmeebhcanknmaaDoor.XEvm
