-- Laid by a program of this session's (xprint.py) over the print's text; contracts proved by hand stand among them. Lean checks it.
import Derived.Test.YtbmeebhcanknmaaDoorXEvmx0
namespace Go.Proofs.YtbmeebhcanknmaaDoor.XEvm
open Go.RowKit Go.Proofs.YtbmeebhcanknmaaDoorW.PrintWords Go.Proofs.YtbmeebhcanknmaaDoorW.PrintLast Go.Proofs.YtbmeebhcanknmaaDoorW.PrintMore
attribute [local go_sem] max2_int min2_int max_two min_two max_three min_three max_four min_four   -- for this text's walks alone
set_option linter.unusedVariables false
set_option linter.unusedSimpArgs false

/-! ### posthouseref3_At: function 31 -/
def posthouseref3_At.f (a0 : Int) (a1 : Int) : Option (Int × Int) := some (a0, a1)
set_option maxHeartbeats 8000000 in
set_option maxRecDepth 100000 in
theorem posthouseref3_At.calls (a0 : Int) (a1 : Int) (r1 : Int) (r2 : Int) (w : World) (h : posthouseref3_At.f a0 a1 = some (r1, r2)) :
  Calls Tryd.prog 31 #[.int .i64 a0, .int .i64 a1] w fun e w' => e = .returned (.agg #[.int .i64 r1, .int .i64 r2]) ∧ Below w.heap.size w w' := by
 have hu25 := Tryd.underlying25
 have HB := Aside0.mk (Below.refl w.heap.size w)
 have H : (some (a0, a1)) = some (r1, r2) := h
 clear h
 simp only [Option.some.injEq, Prod.mk.injEq] at H
 obtain ⟨rfl, rfl⟩ := H
 go_enter Tryd.func31, Tryd.ntmps31
 go_wp2_with (first | ((with_reducible refine gate_dst (N := 4) rfl ?_); refine box_event ?hg (N := 4) ?hd (cs := #[.int .i64 0, .int .i64 0]) (t := 25) ?hr ?_; (case hd => rfl); (case hg => rfl); (case hr => first | (go_simp; done) | (go_simp; rfl)); intro gb101 hg w3 hbox hb; have n0_ := Aside0.mk (below_step (pb_ HB.out) hb); have n1_ := Aside0.mk (hbox); have n2_ := Aside0.mk ((by rw [hg]; exact (below_size (pb_ HB.out)) : w.heap.size ≤ gb101)); have n3_ := Aside0.mk ((by rw [hg]; exact (below_size (pb_ HB.out)) : w.heap.size ≤ gb101)); clear HB; have HB := n0_; have BK101 := n1_; have GW101 := n2_; have GE101 := n3_; clear n0_ n1_ n2_ n3_; clear hb hbox hg; have hcz4_0 : w3.cell? ⟨gb101, 0, none⟩ = some (.int .i64 0) := (blk_cell BK101.out 0).trans rfl; have hcz4_1 : w3.cell? ⟨gb101, 1, none⟩ = some (.int .i64 0) := (blk_cell BK101.out 1).trans rfl; have hfz4_0 := blk_frozen BK101.out 0; have hfz4_1 := blk_frozen BK101.out 1))
 refine bodyPost_ret (results_cell_row rfl _ _ gb101 25 #[.int .i64 a0, .int .i64 a1] (0, 0) _ rfl (by (with_reducible repeat (first | refine blk_drewN ?_ _ | refine blk_drew ?_ | refine blk_alloc ?_ _)); refine blk_put (cs := #[.int .i64 a0, .int .i64 0]) ?_ 1 _ rfl; (with_reducible repeat (first | refine blk_drewN ?_ _ | refine blk_drew ?_ | refine blk_alloc ?_ _)); refine blk_put (cs := #[.int .i64 0, .int .i64 0]) ?_ 0 _ rfl; (with_reducible repeat (first | refine blk_drewN ?_ _ | refine blk_drew ?_ | refine blk_alloc ?_ _)); exact BK101.out) Tryd.underlying25 rfl (by kernel_rfl)) rfl ?_
 exact ⟨by first | rfl | (simp [errW_none, errW_some] <;> rfl) | (simp [*, errW_none, errW_some] <;> rfl), by repeat (first | (with_reducible first | exact HB.out | apply below_alloc | apply pw_below_drewN | apply below_drew1 | refine below_set ?_ GE101.out) | exact HB.out)⟩

/-! ### posthouseref3_In: function 35 -/
def posthouseref3_In.f (a0 : Int) (a1 : Int) (a2 : Int) : Option (Bool) := if a0 ≥ a1 then (some (decide (a0 ≤ a2))) else (some false)
set_option maxHeartbeats 8000000 in
set_option maxRecDepth 100000 in
theorem posthouseref3_In.calls (a0 : Int) (a1 : Int) (a2 : Int) (r : Bool) (w : World) (h : posthouseref3_In.f a0 a1 a2 = some r) :
  Calls Tryd.prog 35 #[.int .i64 a0, .int .i64 a1, .int .i64 a2] w fun e w' => e = .returned (.bool r) ∧ Drawn0 w w' := by
 have H : (if a0 ≥ a1 then (some (decide (a0 ≤ a2))) else (some false)) = some r := h
 clear h
 by_cases c4 : a0 ≥ a1
 ·
  rw [if_pos c4] at H
  have c4b0 : decide (a1 ≤ a0) = true := decide_eq_true c4
  clear c4
  obtain rfl := Option.some.inj H
  go_enter Tryd.func35, Tryd.ntmps35
  go_wp2
  go_ret
  exact ⟨by first | rfl | (simp; done) | (simp [*]; done), by repeat (first | exact Drawn0.refl _ | apply Drawn0.step)⟩
 ·
  rw [if_neg c4] at H
  have c4b0 : decide (a1 ≤ a0) = false := decide_eq_false c4
  clear c4
  obtain rfl := Option.some.inj H
  go_enter Tryd.func35, Tryd.ntmps35
  go_wp2
  go_ret
  exact ⟨by first | rfl | (simp; done) | (simp [*]; done), by repeat (first | exact Drawn0.refl _ | apply Drawn0.step)⟩

/-! ### posthouseref3_DomainOk: function 43 -/
mutual
def posthouseref3_DomainOk.l0 : Nat → ByteArray → Int → Option (Bool)
 | 0, _, _ => none
 | k + 1, x0, x3 => if x3 < (x0.size : Int) then (if 0 ≤ x3 then (if (bt x0 x3) = 46 then (if x3 = 0 then (posthouseref3_DomainOk.j1 k x0 x3 (wrap64 (bt x0 x3)) true) else (if x3 = (wrap64 ((x0.size : Int) - 1)) then (posthouseref3_DomainOk.j1 k x0 x3 (wrap64 (bt x0 x3)) true) else (if 0 ≤ (wrap64 (x3 - 1)) then (if (wrap64 (x3 - 1)) < (x0.size : Int) then (posthouseref3_DomainOk.j1 k x0 x3 (wrap64 (bt x0 x3)) ((bt x0 (wrap64 (x3 - 1))) == 46)) else (none)) else (none)))) else (posthouseref3_DomainOk.j1 k x0 x3 (wrap64 (bt x0 x3)) false)) else (none)) else ((posthouseref3_In.f (x0.size : Int) 1 60).bind fun t102 => (some t102))
def posthouseref3_DomainOk.j1 : Nat → ByteArray → Int → Int → Bool → Option (Bool)
 | 0, _, _, _, _ => none
 | k + 1, x0, x3, x4, x36 => if x36 = true then (some false) else ((posthouseref3_In.f x4 97 122).bind fun t103 => (if t103 = true then (posthouseref3_DomainOk.l0 k x0 (wrap64 (x3 + 1))) else ((posthouseref3_In.f x4 48 57).bind fun t104 => (if t104 = true then (posthouseref3_DomainOk.l0 k x0 (wrap64 (x3 + 1))) else (if 0 ≤ x3 then (if x3 < (x0.size : Int) then (if (bt x0 x3) = 45 then (posthouseref3_DomainOk.l0 k x0 (wrap64 (x3 + 1))) else (if (bt x0 x3) = 46 then (posthouseref3_DomainOk.l0 k x0 (wrap64 (x3 + 1))) else (some false))) else (none)) else (none))))))
end
def posthouseref3_DomainOk.f (k : Nat) (a0 : ByteArray) : Option (Bool) := posthouseref3_DomainOk.l0 k a0 0
theorem posthouseref3_DomainOk.mono_l : ∀ k, (∀ y0 y1, LeO (posthouseref3_DomainOk.l0 k y0 y1) (posthouseref3_DomainOk.l0 (k + 1) y0 y1)) ∧ (∀ y0 y1 y2 y3, LeO (posthouseref3_DomainOk.j1 k y0 y1 y2 y3) (posthouseref3_DomainOk.j1 (k + 1) y0 y1 y2 y3))
 | 0 => ⟨fun _ _ r h => by simp [posthouseref3_DomainOk.l0] at h, fun _ _ _ _ r h => by simp [posthouseref3_DomainOk.j1] at h⟩
 | k + 1 => by
  obtain ⟨ih0, ih1⟩ := posthouseref3_DomainOk.mono_l k
  refine ⟨?_, ?_⟩
  ·
   intro y0 y1
   unfold posthouseref3_DomainOk.l0
   repeat' first
   | (with_reducible exact ih0 _ _)
   | (with_reducible exact ih1 _ _ _ _)
   | (with_reducible exact LeO.refl _)
   | (with_reducible exact LeO.none _)
   | (with_reducible refine LeO.ite ?_ ?_)
   | (with_reducible refine LeO.bind ?_ (fun _ => ?_))
   | exact ih0 _ _
   | exact ih1 _ _ _ _
   | exact LeO.none _
   | refine LeO.ite ?_ ?_
   | refine LeO.bind ?_ (fun _ => ?_)
  ·
   intro y0 y1 y2 y3
   unfold posthouseref3_DomainOk.j1
   repeat' first
   | (with_reducible exact ih0 _ _)
   | (with_reducible exact ih1 _ _ _ _)
   | (with_reducible exact LeO.refl _)
   | (with_reducible exact LeO.none _)
   | (with_reducible refine LeO.ite ?_ ?_)
   | (with_reducible refine LeO.bind ?_ (fun _ => ?_))
   | exact ih0 _ _
   | exact ih1 _ _ _ _
   | exact LeO.none _
   | refine LeO.ite ?_ ?_
   | refine LeO.bind ?_ (fun _ => ?_)
theorem posthouseref3_DomainOk.mono : ∀ a0 k, LeO (posthouseref3_DomainOk.f k a0) (posthouseref3_DomainOk.f (k + 1) a0) := by
 intro a0 k
 obtain ⟨ih0, ih1⟩ := posthouseref3_DomainOk.mono_l k
 unfold posthouseref3_DomainOk.f
 repeat' first
   | (with_reducible exact ih0 _ _)
   | (with_reducible exact ih1 _ _ _ _)
   | (with_reducible exact LeO.refl _)
   | (with_reducible exact LeO.none _)
   | (with_reducible refine LeO.ite ?_ ?_)
   | (with_reducible refine LeO.bind ?_ (fun _ => ?_))
   | exact ih0 _ _
   | exact ih1 _ _ _ _
   | exact LeO.none _
   | refine LeO.ite ?_ ?_
   | refine LeO.bind ?_ (fun _ => ?_)
set_option maxHeartbeats 8000000 in
set_option maxRecDepth 100000 in
theorem posthouseref3_DomainOk.calls (k : Nat) (a0 : ByteArray) (r : Bool) (w : World) (h : posthouseref3_DomainOk.f k a0 = some r) :
  Calls Tryd.prog 43 #[.string a0] w fun e w' => e = .returned (.bool r) ∧ Drawn0 w w' := by
 have H : (posthouseref3_DomainOk.l0 k a0 0) = some r := h
 clear h
 have H' := Aside0.mk H
 clear H
 go_enter Tryd.func43, Tryd.ntmps43
 go_wp2
 go_loopg [3] k (fun kq v3 w' => ∃ (x3_1 : Int), v3 = .int .i64 x3_1 ∧ Aside0 (posthouseref3_DomainOk.l0 kq a0 x3_1 = some r) ∧ Aside0 (kq ≤ k) ∧ Drawn0 w w')
 case atStart => exact ⟨(0), rs_, H', ⟨Nat.le_refl _⟩, by repeat (first | exact Drawn0.refl _ | apply Drawn0.step)⟩
 case round =>
  clear H'
  obtain ⟨x3_1, rfl, HA, HK1, ⟨m1, rfl⟩⟩ := hrel
  cases gk with
  | zero => exact absurd HA.out (by simp [posthouseref3_DomainOk.l0])
  | succ k1 =>
   have H := HA.out
   clear HA
   simp only [posthouseref3_DomainOk.l0] at H
   by_cases c2 : x3_1 < (a0.size : Int)
   ·
    rw [if_pos c2] at H
    have c2b0 : decide (x3_1 < (a0.size : Int)) = true := decide_eq_true c2
    clear c2
    by_cases c3 : 0 ≤ x3_1
    ·
     rw [if_pos c3] at H
     have c3b0 : decide (0 ≤ x3_1) = true := decide_eq_true c3
     clear c3
     have HC5 := Aside0.mk H
     clear H
     have p4 : 0 ≤ (x3_1 : Int) := of_decide_eq_true as_
     have q4 : x3_1 < (a0.size : Int) := of_decide_eq_true as_
     have hx4 := bt_at a0 x3_1
     replace p4 := eq_true p4
     replace q4 := eq_true q4
     go_upto_region 5 with (fail)
     go_cut [36] (fun v36 wc => ∃ (kq : Nat) (x36_4 : Bool), v36 = .bool x36_4 ∧ Aside0 (posthouseref3_DomainOk.j1 kq a0 x3_1 (wrap64 (bt a0 x3_1)) x36_4 = some r) ∧ Aside0 (kq ≤ k1) ∧ Drawn0 w wc)
     case first =>
      have H := HC5.out
      clear HC5
      by_cases c7 : (bt a0 x3_1) = 46
      ·
       rw [if_pos c7] at H
       have c7b0 : ((bt a0 x3_1) == 46) = true := beq_iff_eq.mpr c7
       have c7b1 : ((bt a0 x3_1) != 46) = false := bne_eq_false_iff_eq.mpr c7
       clear c7
       (first | rw [c7b0] | (simp only [i64_w, i32_w]; rw [c7b0]) | skip)
       by_cases c8 : x3_1 = 0
       ·
        rw [if_pos c8] at H
        have c8b0 : (x3_1 == 0) = true := beq_iff_eq.mpr c8
        have c8b1 : (x3_1 != 0) = false := bne_eq_false_iff_eq.mpr c8
        clear c8
        have H' := Aside0.mk H
        clear H
        have p6 : 0 ≤ (x3_1 : Int) := of_decide_eq_true as_
        have q6 : x3_1 < (a0.size : Int) := of_decide_eq_true as_
        have hx6 := bt_at a0 x3_1
        replace p6 := eq_true p6
        replace q6 := eq_true q6
        go_wp2
        go_meet
        case rel => exact ⟨_, (true), rs_, H', ⟨by have := HK1.out; first | omega | exact Nat.le_refl _⟩, by repeat (first | exact Drawn0.refl _ | apply Drawn0.step)⟩
       ·
        rw [if_neg c8] at H
        have c8b0 : (x3_1 == 0) = false := beq_eq_false_iff_ne.mpr c8
        have c8b1 : (x3_1 != 0) = true := bne_iff_ne.mpr c8
        by_cases c9 : x3_1 = (wrap64 ((a0.size : Int) - 1))
        ·
         rw [if_pos c9] at H
         have c9b0 : (x3_1 == (wrap64 ((a0.size : Int) - 1))) = true := beq_iff_eq.mpr c9
         have c9b1 : (x3_1 != (wrap64 ((a0.size : Int) - 1))) = false := bne_eq_false_iff_eq.mpr c9
         clear c9
         have H' := Aside0.mk H
         clear H
         have p6 : 0 ≤ (x3_1 : Int) := of_decide_eq_true as_
         have q6 : x3_1 < (a0.size : Int) := of_decide_eq_true as_
         have hx6 := bt_at a0 x3_1
         replace p6 := eq_true p6
         replace q6 := eq_true q6
         go_wp2
         go_meet
         case rel => exact ⟨_, (true), rs_, H', ⟨by have := HK1.out; first | omega | exact Nat.le_refl _⟩, by repeat (first | exact Drawn0.refl _ | apply Drawn0.step)⟩
        ·
         rw [if_neg c9] at H
         have c9b0 : (x3_1 == (wrap64 ((a0.size : Int) - 1))) = false := beq_eq_false_iff_ne.mpr c9
         have c9b1 : (x3_1 != (wrap64 ((a0.size : Int) - 1))) = true := bne_iff_ne.mpr c9
         obtain ⟨ji10, hji10⟩ : ∃ j_ : Int, (wrap64 (x3_1 - 1)) = j_ := ⟨_, rfl⟩
         replace H : (if 0 ≤ (ji10) then (if (ji10) < (a0.size : Int) then (posthouseref3_DomainOk.j1 k1 a0 x3_1 (wrap64 (bt a0 x3_1)) ((bt a0 (ji10)) == 46)) else (none)) else (none)) = some r := by first | (rw [hji10] at H; exact H) | (simp only [hji10] at H ⊢; exact H)
         have hji10w : (IntKind.i64.wrap (x3_1 - 1)) = ji10 := (i64_w _).trans hji10
         by_cases c11 : 0 ≤ (ji10)
         ·
          rw [if_pos c11] at H
          have c11b0 : decide (0 ≤ (ji10)) = true := decide_eq_true c11
          clear c11
          by_cases c12 : (ji10) < (a0.size : Int)
          ·
           rw [if_pos c12] at H
           have c12b0 : decide ((ji10) < (a0.size : Int)) = true := decide_eq_true c12
           clear c12
           have H' := Aside0.mk H
           clear H
           have p6 : 0 ≤ (x3_1 : Int) := of_decide_eq_true as_
           have q6 : x3_1 < (a0.size : Int) := of_decide_eq_true as_
           have hx6 := bt_at a0 x3_1
           replace p6 := eq_true p6
           replace q6 := eq_true q6
           have p13 : 0 ≤ ((ji10) : Int) := of_decide_eq_true as_
           have q13 : (ji10) < (a0.size : Int) := of_decide_eq_true as_
           have hx13 := bt_at a0 (ji10)
           replace p13 := eq_true p13
           replace q13 := eq_true q13
           go_wp2
           go_meet
           case rel => exact ⟨_, (((bt a0 (ji10)) == 46)), (by first | rfl | (simp; done) | (simp only [← hji10] <;> (first | rfl | simp)) | (simp [*]; done)), H', ⟨by have := HK1.out; first | omega | exact Nat.le_refl _⟩, by repeat (first | exact Drawn0.refl _ | apply Drawn0.step)⟩
          ·
           rw [if_neg c12] at H
           exact absurd H (by simp)
         ·
          rw [if_neg c11] at H
          exact absurd H (by simp)
      ·
       rw [if_neg c7] at H
       have c7b0 : ((bt a0 x3_1) == 46) = false := beq_eq_false_iff_ne.mpr c7
       have c7b1 : ((bt a0 x3_1) != 46) = true := bne_iff_ne.mpr c7
       (first | rw [c7b0] | (simp only [i64_w, i32_w]; rw [c7b0]) | skip)
       have H' := Aside0.mk H
       clear H
       have p6 : 0 ≤ (x3_1 : Int) := of_decide_eq_true as_
       have q6 : x3_1 < (a0.size : Int) := of_decide_eq_true as_
       have hx6 := bt_at a0 x3_1
       replace p6 := eq_true p6
       replace q6 := eq_true q6
       go_wp2
       go_meet
       case rel => exact ⟨_, (false), rs_, H', ⟨by have := HK1.out; first | omega | exact Nat.le_refl _⟩, by repeat (first | exact Drawn0.refl _ | apply Drawn0.step)⟩
     case rest =>
      clear HC5
      try clear c1
      try clear p1
      try clear q1
      try clear hx1
      try clear c2
      try clear c2b0
      try clear p2
      try clear c3
      try clear c3b0
      try clear c4
      try clear p4
      try clear q4
      try clear hx4
      try clear p6
      try clear q6
      try clear hx6
      try clear c7
      try clear c7b0
      try clear c7b1
      try clear c8
      try clear c8b0
      try clear c8b1
      try clear c9
      try clear c9b0
      try clear c9b1
      try clear c11
      try clear c11b0
      try clear c12
      try clear c12b0
      try clear p13
      try clear q13
      try clear hx13
      try clear p13
      try clear p4
      try clear p6
      try clear q13
      try clear q4
      try clear q6
      obtain ⟨kq, x36_4, rfl, HA, HJ4, ⟨mc4, rfl⟩⟩ := hcut
      cases kq with
      | zero => exact absurd HA.out (by simp [posthouseref3_DomainOk.j1])
      | succ kj4 =>
       have H := HA.out
       clear HA
       simp only [posthouseref3_DomainOk.j1] at H
       by_cases c14 : x36_4 = true
       ·
        subst c14
        have H1 : (some false) = some r := by rw [if_pos rfl] at H; exact H
        clear H
        have H := H1
        clear H1
        obtain rfl := Option.some.inj H
        go_wp2
        go_ret
        exact ⟨by first | rfl | (simp; done) | (simp [*]; done), by repeat (first | exact Drawn0.refl _ | apply Drawn0.step)⟩
       ·
        replace c14 := Bool.eq_false_iff.mpr c14
        subst c14
        have H1 : ((posthouseref3_In.f (wrap64 (bt a0 x3_1)) 97 122).bind fun t103 => (if t103 = true then (posthouseref3_DomainOk.l0 kj4 a0 (wrap64 (x3_1 + 1))) else ((posthouseref3_In.f (wrap64 (bt a0 x3_1)) 48 57).bind fun t104 => (if t104 = true then (posthouseref3_DomainOk.l0 kj4 a0 (wrap64 (x3_1 + 1))) else (if 0 ≤ x3_1 then (if x3_1 < (a0.size : Int) then (if (bt a0 x3_1) = 45 then (posthouseref3_DomainOk.l0 kj4 a0 (wrap64 (x3_1 + 1))) else (if (bt a0 x3_1) = 46 then (posthouseref3_DomainOk.l0 kj4 a0 (wrap64 (x3_1 + 1))) else (some false))) else (none)) else (none)))))) = some r := by rw [if_neg (show ¬ (false = true) by decide)] at H; exact H
        clear H
        have H := H1
        clear H1
        replace H := Option.bind_eq_some_iff.mp H
        obtain ⟨t103, A150, H⟩ := H
        replace H : (if t103 = true then (posthouseref3_DomainOk.l0 kj4 a0 (wrap64 (x3_1 + 1))) else ((posthouseref3_In.f (wrap64 (bt a0 x3_1)) 48 57).bind fun t104 => (if t104 = true then (posthouseref3_DomainOk.l0 kj4 a0 (wrap64 (x3_1 + 1))) else (if 0 ≤ x3_1 then (if x3_1 < (a0.size : Int) then (if (bt a0 x3_1) = 45 then (posthouseref3_DomainOk.l0 kj4 a0 (wrap64 (x3_1 + 1))) else (if (bt a0 x3_1) = 46 then (posthouseref3_DomainOk.l0 kj4 a0 (wrap64 (x3_1 + 1))) else (some false))) else (none)) else (none))))) = some r := H
        have A15 := Aside0.mk A150
        clear A150
        by_cases c16 : t103 = true
        ·
         subst c16
         have H1 : (posthouseref3_DomainOk.l0 kj4 a0 (wrap64 (x3_1 + 1))) = some r := by rw [if_pos rfl] at H; exact H
         clear H
         have H := H1
         clear H1
         have H' := Aside0.mk H
         clear H
         go_wp2_with (first | ((with_reducible refine gate_callee (f := 35) rfl ?_); refine goesL_ (some 38) rfl rfl Tryd.func35 (by kernel_rfl) rfl #[.int .i64 (wrap64 (bt a0 x3_1)), .int .i64 97, .int .i64 122] rfl ls_ ?_; (with_reducible refine (posthouseref3_In.calls (wrap64 (bt a0 x3_1)) 97 122 true _ A15.out).mono ?_); rintro e w' ⟨rfl, ⟨nd, rfl⟩⟩; refine ⟨_, rfl, ?_⟩))
         go_roundg kj4
         case measure => have := HK1.out; have := HJ4.out; omega
         case rel => exact ⟨(wrap64 (x3_1 + 1)), rs_, H', ⟨by have := HK1.out; have := HJ4.out; omega⟩, by repeat (first | exact Drawn0.refl _ | apply Drawn0.step)⟩
        ·
         replace c16 := Bool.eq_false_iff.mpr c16
         subst c16
         have H1 : ((posthouseref3_In.f (wrap64 (bt a0 x3_1)) 48 57).bind fun t104 => (if t104 = true then (posthouseref3_DomainOk.l0 kj4 a0 (wrap64 (x3_1 + 1))) else (if 0 ≤ x3_1 then (if x3_1 < (a0.size : Int) then (if (bt a0 x3_1) = 45 then (posthouseref3_DomainOk.l0 kj4 a0 (wrap64 (x3_1 + 1))) else (if (bt a0 x3_1) = 46 then (posthouseref3_DomainOk.l0 kj4 a0 (wrap64 (x3_1 + 1))) else (some false))) else (none)) else (none)))) = some r := by rw [if_neg (show ¬ (false = true) by decide)] at H; exact H
         clear H
         have H := H1
         clear H1
         replace H := Option.bind_eq_some_iff.mp H
         obtain ⟨t104, A170, H⟩ := H
         replace H : (if t104 = true then (posthouseref3_DomainOk.l0 kj4 a0 (wrap64 (x3_1 + 1))) else (if 0 ≤ x3_1 then (if x3_1 < (a0.size : Int) then (if (bt a0 x3_1) = 45 then (posthouseref3_DomainOk.l0 kj4 a0 (wrap64 (x3_1 + 1))) else (if (bt a0 x3_1) = 46 then (posthouseref3_DomainOk.l0 kj4 a0 (wrap64 (x3_1 + 1))) else (some false))) else (none)) else (none))) = some r := H
         have A17 := Aside0.mk A170
         clear A170
         by_cases c18 : t104 = true
         ·
          subst c18
          have H1 : (posthouseref3_DomainOk.l0 kj4 a0 (wrap64 (x3_1 + 1))) = some r := by rw [if_pos rfl] at H; exact H
          clear H
          have H := H1
          clear H1
          have H' := Aside0.mk H
          clear H
          go_wp2_with (first | ((with_reducible refine gate_callee (f := 35) rfl ?_); refine goesL_ (some 38) rfl rfl Tryd.func35 (by kernel_rfl) rfl #[.int .i64 (wrap64 (bt a0 x3_1)), .int .i64 97, .int .i64 122] rfl ls_ ?_; (with_reducible refine (posthouseref3_In.calls (wrap64 (bt a0 x3_1)) 97 122 false _ A15.out).mono ?_); rintro e w' ⟨rfl, ⟨nd, rfl⟩⟩; refine ⟨_, rfl, ?_⟩) | (go_at_call 35; (with_reducible refine (posthouseref3_In.calls (wrap64 (bt a0 x3_1)) 48 57 true _ A17.out).mono ?_); rintro e w' ⟨rfl, ⟨nd, rfl⟩⟩))
          go_roundg kj4
          case measure => have := HK1.out; have := HJ4.out; omega
          case rel => exact ⟨(wrap64 (x3_1 + 1)), rs_, H', ⟨by have := HK1.out; have := HJ4.out; omega⟩, by repeat (first | exact Drawn0.refl _ | apply Drawn0.step)⟩
         ·
          replace c18 := Bool.eq_false_iff.mpr c18
          subst c18
          have H1 : (if 0 ≤ x3_1 then (if x3_1 < (a0.size : Int) then (if (bt a0 x3_1) = 45 then (posthouseref3_DomainOk.l0 kj4 a0 (wrap64 (x3_1 + 1))) else (if (bt a0 x3_1) = 46 then (posthouseref3_DomainOk.l0 kj4 a0 (wrap64 (x3_1 + 1))) else (some false))) else (none)) else (none)) = some r := by rw [if_neg (show ¬ (false = true) by decide)] at H; exact H
          clear H
          have H := H1
          clear H1
          by_cases c19 : 0 ≤ x3_1
          ·
           rw [if_pos c19] at H
           have c19b0 : decide (0 ≤ x3_1) = true := decide_eq_true c19
           clear c19
           by_cases c20 : x3_1 < (a0.size : Int)
           ·
            rw [if_pos c20] at H
            have c20b0 : decide (x3_1 < (a0.size : Int)) = true := decide_eq_true c20
            clear c20
            by_cases c22 : (bt a0 x3_1) = 45
            ·
             rw [if_pos c22] at H
             have c22b0 : ((bt a0 x3_1) == 45) = true := beq_iff_eq.mpr c22
             have c22b1 : ((bt a0 x3_1) != 45) = false := bne_eq_false_iff_eq.mpr c22
             clear c22
             have H' := Aside0.mk H
             clear H
             go_wp2_with (first | ((with_reducible refine gate_callee (f := 35) rfl ?_); refine goesL_ (some 38) rfl rfl Tryd.func35 (by kernel_rfl) rfl #[.int .i64 (wrap64 (bt a0 x3_1)), .int .i64 97, .int .i64 122] rfl ls_ ?_; (with_reducible refine (posthouseref3_In.calls (wrap64 (bt a0 x3_1)) 97 122 false _ A15.out).mono ?_); rintro e w' ⟨rfl, ⟨nd, rfl⟩⟩; refine ⟨_, rfl, ?_⟩) | (go_at_call 35; (with_reducible refine (posthouseref3_In.calls (wrap64 (bt a0 x3_1)) 48 57 false _ A17.out).mono ?_); rintro e w' ⟨rfl, ⟨nd, rfl⟩⟩; have p21 : 0 ≤ (x3_1 : Int) := of_decide_eq_true as_; have q21 : x3_1 < (a0.size : Int) := of_decide_eq_true as_; have hx21 := bt_at a0 x3_1; replace p21 := eq_true p21; replace q21 := eq_true q21))
             go_roundg kj4
             case measure => have := HK1.out; have := HJ4.out; omega
             case rel => exact ⟨(wrap64 (x3_1 + 1)), rs_, H', ⟨by have := HK1.out; have := HJ4.out; omega⟩, by repeat (first | exact Drawn0.refl _ | apply Drawn0.step)⟩
            ·
             rw [if_neg c22] at H
             have c22b0 : ((bt a0 x3_1) == 45) = false := beq_eq_false_iff_ne.mpr c22
             have c22b1 : ((bt a0 x3_1) != 45) = true := bne_iff_ne.mpr c22
             by_cases c24 : (bt a0 x3_1) = 46
             ·
              rw [if_pos c24] at H
              have c24b0 : ((bt a0 x3_1) == 46) = true := beq_iff_eq.mpr c24
              have c24b1 : ((bt a0 x3_1) != 46) = false := bne_eq_false_iff_eq.mpr c24
              clear c24
              have H' := Aside0.mk H
              clear H
              go_wp2_with (first | ((with_reducible refine gate_callee (f := 35) rfl ?_); refine goesL_ (some 38) rfl rfl Tryd.func35 (by kernel_rfl) rfl #[.int .i64 (wrap64 (bt a0 x3_1)), .int .i64 97, .int .i64 122] rfl ls_ ?_; (with_reducible refine (posthouseref3_In.calls (wrap64 (bt a0 x3_1)) 97 122 false _ A15.out).mono ?_); rintro e w' ⟨rfl, ⟨nd, rfl⟩⟩; refine ⟨_, rfl, ?_⟩) | (go_at_call 35; (with_reducible refine (posthouseref3_In.calls (wrap64 (bt a0 x3_1)) 48 57 false _ A17.out).mono ?_); rintro e w' ⟨rfl, ⟨nd, rfl⟩⟩; have p21 : 0 ≤ (x3_1 : Int) := of_decide_eq_true as_; have q21 : x3_1 < (a0.size : Int) := of_decide_eq_true as_; have hx21 := bt_at a0 x3_1; replace p21 := eq_true p21; replace q21 := eq_true q21; have p23 : 0 ≤ (x3_1 : Int) := of_decide_eq_true as_; have q23 : x3_1 < (a0.size : Int) := of_decide_eq_true as_; have hx23 := bt_at a0 x3_1; replace p23 := eq_true p23; replace q23 := eq_true q23))
              go_roundg kj4
              case measure => have := HK1.out; have := HJ4.out; omega
              case rel => exact ⟨(wrap64 (x3_1 + 1)), rs_, H', ⟨by have := HK1.out; have := HJ4.out; omega⟩, by repeat (first | exact Drawn0.refl _ | apply Drawn0.step)⟩
             ·
              rw [if_neg c24] at H
              have c24b0 : ((bt a0 x3_1) == 46) = false := beq_eq_false_iff_ne.mpr c24
              have c24b1 : ((bt a0 x3_1) != 46) = true := bne_iff_ne.mpr c24
              obtain rfl := Option.some.inj H
              go_wp2_with (first | ((with_reducible refine gate_callee (f := 35) rfl ?_); refine goesL_ (some 38) rfl rfl Tryd.func35 (by kernel_rfl) rfl #[.int .i64 (wrap64 (bt a0 x3_1)), .int .i64 97, .int .i64 122] rfl ls_ ?_; (with_reducible refine (posthouseref3_In.calls (wrap64 (bt a0 x3_1)) 97 122 false _ A15.out).mono ?_); rintro e w' ⟨rfl, ⟨nd, rfl⟩⟩; refine ⟨_, rfl, ?_⟩) | (go_at_call 35; (with_reducible refine (posthouseref3_In.calls (wrap64 (bt a0 x3_1)) 48 57 false _ A17.out).mono ?_); rintro e w' ⟨rfl, ⟨nd, rfl⟩⟩; have p21 : 0 ≤ (x3_1 : Int) := of_decide_eq_true as_; have q21 : x3_1 < (a0.size : Int) := of_decide_eq_true as_; have hx21 := bt_at a0 x3_1; replace p21 := eq_true p21; replace q21 := eq_true q21; have p23 : 0 ≤ (x3_1 : Int) := of_decide_eq_true as_; have q23 : x3_1 < (a0.size : Int) := of_decide_eq_true as_; have hx23 := bt_at a0 x3_1; replace p23 := eq_true p23; replace q23 := eq_true q23))
              go_ret
              exact ⟨by first | rfl | (simp; done) | (simp [*]; done), by repeat (first | exact Drawn0.refl _ | apply Drawn0.step)⟩
           ·
            rw [if_neg c20] at H
            exact absurd H (by simp)
          ·
           rw [if_neg c19] at H
           exact absurd H (by simp)
    ·
     rw [if_neg c3] at H
     exact absurd H (by simp)
   ·
    rw [if_neg c2] at H
    have c2b0 : decide (x3_1 < (a0.size : Int)) = false := decide_eq_false c2
    clear c2
    replace H := Option.bind_eq_some_iff.mp H
    obtain ⟨t102, A250, H⟩ := H
    replace H : (some t102) = some r := H
    have A25 := Aside0.mk A250
    clear A250
    obtain rfl := Option.some.inj H
    go_wp2_with (first | ((with_reducible refine gate_callee (f := 35) rfl ?_); refine goesL_ (some 59) rfl rfl Tryd.func35 (by kernel_rfl) rfl #[.int .i64 (a0.size : Int), .int .i64 1, .int .i64 60] rfl ls_ ?_; (with_reducible refine (posthouseref3_In.calls (a0.size : Int) 1 60 t102 _ A25.out).mono ?_); rintro e w' ⟨rfl, ⟨nd, rfl⟩⟩; refine ⟨_, rfl, ?_⟩))
    go_ret
    exact ⟨by first | rfl | (simp; done) | (simp [*]; done), by repeat (first | exact Drawn0.refl _ | apply Drawn0.step)⟩

/-! ### posthouseref3_sign: function 74 -/
def posthouseref3_sign.l0 : Nat → ByteArray → Int → Option (Int)
 | 0, _, _ => none
 | k + 1, x0, x3 => if x3 < (x0.size : Int) then (if 0 ≤ x3 then (if (bt x0 x3) = 64 then (some x3) else (posthouseref3_sign.l0 k x0 (wrap64 (x3 + 1)))) else (none)) else (some (x0.size : Int))
def posthouseref3_sign.f (k : Nat) (a0 : ByteArray) : Option (Int) := posthouseref3_sign.l0 k a0 0
theorem posthouseref3_sign.mono_l : ∀ k, (∀ y0 y1, LeO (posthouseref3_sign.l0 k y0 y1) (posthouseref3_sign.l0 (k + 1) y0 y1))
 | 0 => fun _ _ r h => by simp [posthouseref3_sign.l0] at h
 | k + 1 => by
  have ih0 := posthouseref3_sign.mono_l k
  ·
   intro y0 y1
   unfold posthouseref3_sign.l0
   repeat' first
   | (with_reducible exact ih0 _ _)
   | (with_reducible exact LeO.refl _)
   | (with_reducible exact LeO.none _)
   | (with_reducible refine LeO.ite ?_ ?_)
   | (with_reducible refine LeO.bind ?_ (fun _ => ?_))
   | exact ih0 _ _
   | exact LeO.none _
   | refine LeO.ite ?_ ?_
   | refine LeO.bind ?_ (fun _ => ?_)
theorem posthouseref3_sign.mono : ∀ a0 k, LeO (posthouseref3_sign.f k a0) (posthouseref3_sign.f (k + 1) a0) := by
 intro a0 k
 have ih0 := posthouseref3_sign.mono_l k
 unfold posthouseref3_sign.f
 repeat' first
   | (with_reducible exact ih0 _ _)
   | (with_reducible exact LeO.refl _)
   | (with_reducible exact LeO.none _)
   | (with_reducible refine LeO.ite ?_ ?_)
   | (with_reducible refine LeO.bind ?_ (fun _ => ?_))
   | exact ih0 _ _
   | exact LeO.none _
   | refine LeO.ite ?_ ?_
   | refine LeO.bind ?_ (fun _ => ?_)
set_option maxHeartbeats 8000000 in
set_option maxRecDepth 100000 in
theorem posthouseref3_sign.calls (k : Nat) (a0 : ByteArray) (r : Int) (w : World) (h : posthouseref3_sign.f k a0 = some r) :
  Calls Tryd.prog 74 #[.string a0] w fun e w' => e = .returned (.int .i64 r) ∧ Drawn0 w w' := by
 have H : (posthouseref3_sign.l0 k a0 0) = some r := h
 clear h
 have H' := Aside0.mk H
 clear H
 go_enter Tryd.func74, Tryd.ntmps74
 go_wp2
 go_loopg [3] k (fun kq v3 w' => ∃ (x3_1 : Int), v3 = .int .i64 x3_1 ∧ Aside0 (posthouseref3_sign.l0 kq a0 x3_1 = some r) ∧ Aside0 (kq ≤ k) ∧ Drawn0 w w')
 case atStart => exact ⟨(0), rs_, H', ⟨Nat.le_refl _⟩, by repeat (first | exact Drawn0.refl _ | apply Drawn0.step)⟩
 case round =>
  clear H'
  obtain ⟨x3_1, rfl, HA, HK1, ⟨m1, rfl⟩⟩ := hrel
  cases gk with
  | zero => exact absurd HA.out (by simp [posthouseref3_sign.l0])
  | succ k1 =>
   have H := HA.out
   clear HA
   simp only [posthouseref3_sign.l0] at H
   by_cases c2 : x3_1 < (a0.size : Int)
   ·
    rw [if_pos c2] at H
    have c2b0 : decide (x3_1 < (a0.size : Int)) = true := decide_eq_true c2
    clear c2
    by_cases c3 : 0 ≤ x3_1
    ·
     rw [if_pos c3] at H
     have c3b0 : decide (0 ≤ x3_1) = true := decide_eq_true c3
     clear c3
     by_cases c5 : (bt a0 x3_1) = 64
     ·
      rw [if_pos c5] at H
      have c5b0 : ((bt a0 x3_1) == 64) = true := beq_iff_eq.mpr c5
      have c5b1 : ((bt a0 x3_1) != 64) = false := bne_eq_false_iff_eq.mpr c5
      clear c5
      obtain rfl := Option.some.inj H
      have p4 : 0 ≤ (x3_1 : Int) := of_decide_eq_true as_
      have q4 : x3_1 < (a0.size : Int) := of_decide_eq_true as_
      have hx4 := bt_at a0 x3_1
      replace p4 := eq_true p4
      replace q4 := eq_true q4
      go_wp2
      go_ret
      exact ⟨by first | rfl | (simp; done) | (simp [*]; done), by repeat (first | exact Drawn0.refl _ | apply Drawn0.step)⟩
     ·
      rw [if_neg c5] at H
      have c5b0 : ((bt a0 x3_1) == 64) = false := beq_eq_false_iff_ne.mpr c5
      have c5b1 : ((bt a0 x3_1) != 64) = true := bne_iff_ne.mpr c5
      have H' := Aside0.mk H
      clear H
      have p4 : 0 ≤ (x3_1 : Int) := of_decide_eq_true as_
      have q4 : x3_1 < (a0.size : Int) := of_decide_eq_true as_
      have hx4 := bt_at a0 x3_1
      replace p4 := eq_true p4
      replace q4 := eq_true q4
      go_wp2
      go_roundg k1
      case measure => have := HK1.out; omega
      case rel => exact ⟨(wrap64 (x3_1 + 1)), rs_, H', ⟨by have := HK1.out; omega⟩, by repeat (first | exact Drawn0.refl _ | apply Drawn0.step)⟩
    ·
     rw [if_neg c3] at H
     exact absurd H (by simp)
   ·
    rw [if_neg c2] at H
    have c2b0 : decide (x3_1 < (a0.size : Int)) = false := decide_eq_false c2
    clear c2
    obtain rfl := Option.some.inj H
    go_wp2
    go_ret
    exact ⟨by first | rfl | (simp; done) | (simp [*]; done), by repeat (first | exact Drawn0.refl _ | apply Drawn0.step)⟩

/-! ### posthouseref3_letterOrDigit: function 76 -/
def posthouseref3_letterOrDigit.f (a0 : Int) : Option (Bool) := (posthouseref3_In.f (wrap64 (a0)) 97 122).bind fun t105 => (if t105 = true then (some true) else ((posthouseref3_In.f (wrap64 (a0)) 65 90).bind fun t106 => (if t106 = true then (some true) else ((posthouseref3_In.f (wrap64 (a0)) 48 57).bind fun t107 => (some t107)))))
set_option maxHeartbeats 8000000 in
set_option maxRecDepth 100000 in
theorem posthouseref3_letterOrDigit.calls (a0 : Int) (r : Bool) (w : World) (h : posthouseref3_letterOrDigit.f a0 = some r) :
  Calls Tryd.prog 76 #[.int .u8 a0] w fun e w' => e = .returned (.bool r) ∧ Drawn0 w w' := by
 have H : ((posthouseref3_In.f (wrap64 (a0)) 97 122).bind fun t105 => (if t105 = true then (some true) else ((posthouseref3_In.f (wrap64 (a0)) 65 90).bind fun t106 => (if t106 = true then (some true) else ((posthouseref3_In.f (wrap64 (a0)) 48 57).bind fun t107 => (some t107)))))) = some r := h
 clear h
 replace H := Option.bind_eq_some_iff.mp H
 obtain ⟨t105, A20, H⟩ := H
 replace H : (if t105 = true then (some true) else ((posthouseref3_In.f (wrap64 (a0)) 65 90).bind fun t106 => (if t106 = true then (some true) else ((posthouseref3_In.f (wrap64 (a0)) 48 57).bind fun t107 => (some t107))))) = some r := H
 have A2 := Aside0.mk A20
 clear A20
 by_cases c3 : t105 = true
 ·
  subst c3
  have H1 : (some true) = some r := by rw [if_pos rfl] at H; exact H
  clear H
  have H := H1
  clear H1
  obtain rfl := Option.some.inj H
  go_enter Tryd.func76, Tryd.ntmps76
  go_wp2_with (first | ((with_reducible refine gate_callee (f := 35) rfl ?_); refine goesL_ (some 7) rfl rfl Tryd.func35 (by kernel_rfl) rfl #[.int .i64 (wrap64 (a0)), .int .i64 97, .int .i64 122] rfl ls_ ?_; (with_reducible refine (posthouseref3_In.calls (wrap64 (a0)) 97 122 true _ A2.out).mono ?_); rintro e w' ⟨rfl, ⟨nd, rfl⟩⟩; refine ⟨_, rfl, ?_⟩))
  go_ret
  exact ⟨by first | rfl | (simp; done) | (simp [*]; done), by repeat (first | exact Drawn0.refl _ | apply Drawn0.step)⟩
 ·
  replace c3 := Bool.eq_false_iff.mpr c3
  subst c3
  have H1 : ((posthouseref3_In.f (wrap64 (a0)) 65 90).bind fun t106 => (if t106 = true then (some true) else ((posthouseref3_In.f (wrap64 (a0)) 48 57).bind fun t107 => (some t107)))) = some r := by rw [if_neg (show ¬ (false = true) by decide)] at H; exact H
  clear H
  have H := H1
  clear H1
  replace H := Option.bind_eq_some_iff.mp H
  obtain ⟨t106, A40, H⟩ := H
  replace H : (if t106 = true then (some true) else ((posthouseref3_In.f (wrap64 (a0)) 48 57).bind fun t107 => (some t107))) = some r := H
  have A4 := Aside0.mk A40
  clear A40
  by_cases c5 : t106 = true
  ·
   subst c5
   have H1 : (some true) = some r := by rw [if_pos rfl] at H; exact H
   clear H
   have H := H1
   clear H1
   obtain rfl := Option.some.inj H
   go_enter Tryd.func76, Tryd.ntmps76
   go_wp2_with (first | ((with_reducible refine gate_callee (f := 35) rfl ?_); refine goesL_ (some 7) rfl rfl Tryd.func35 (by kernel_rfl) rfl #[.int .i64 (wrap64 (a0)), .int .i64 97, .int .i64 122] rfl ls_ ?_; (with_reducible refine (posthouseref3_In.calls (wrap64 (a0)) 97 122 false _ A2.out).mono ?_); rintro e w' ⟨rfl, ⟨nd, rfl⟩⟩; refine ⟨_, rfl, ?_⟩) | (go_at_call 35; (with_reducible refine (posthouseref3_In.calls (wrap64 (a0)) 65 90 true _ A4.out).mono ?_); rintro e w' ⟨rfl, ⟨nd, rfl⟩⟩))
   go_ret
   exact ⟨by first | rfl | (simp; done) | (simp [*]; done), by repeat (first | exact Drawn0.refl _ | apply Drawn0.step)⟩
  ·
   replace c5 := Bool.eq_false_iff.mpr c5
   subst c5
   have H1 : ((posthouseref3_In.f (wrap64 (a0)) 48 57).bind fun t107 => (some t107)) = some r := by rw [if_neg (show ¬ (false = true) by decide)] at H; exact H
   clear H
   have H := H1
   clear H1
   replace H := Option.bind_eq_some_iff.mp H
   obtain ⟨t107, A60, H⟩ := H
   replace H : (some t107) = some r := H
   have A6 := Aside0.mk A60
   clear A60
   obtain rfl := Option.some.inj H
   go_enter Tryd.func76, Tryd.ntmps76
   go_wp2_with (first | ((with_reducible refine gate_callee (f := 35) rfl ?_); refine goesL_ (some 7) rfl rfl Tryd.func35 (by kernel_rfl) rfl #[.int .i64 (wrap64 (a0)), .int .i64 97, .int .i64 122] rfl ls_ ?_; (with_reducible refine (posthouseref3_In.calls (wrap64 (a0)) 97 122 false _ A2.out).mono ?_); rintro e w' ⟨rfl, ⟨nd, rfl⟩⟩; refine ⟨_, rfl, ?_⟩) | (go_at_call 35; (with_reducible refine (posthouseref3_In.calls (wrap64 (a0)) 65 90 false _ A4.out).mono ?_); rintro e w' ⟨rfl, ⟨nd, rfl⟩⟩) | (go_at_call 35; (with_reducible refine (posthouseref3_In.calls (wrap64 (a0)) 48 57 t107 _ A6.out).mono ?_); rintro e w' ⟨rfl, ⟨nd, rfl⟩⟩))
   go_ret
   exact ⟨by first | rfl | (simp; done) | (simp [*]; done), by repeat (first | exact Drawn0.refl _ | apply Drawn0.step)⟩

/-! ### posthouseref3_AddressOk: function 34 -/
def posthouseref3_AddressOk.l0 : Nat → ByteArray → Int → Int → Option (Bool)
 | 0, _, _, _ => none
 | k + 1, x0, x3, x4 => if x4 < x3 then (if 0 ≤ x4 then (if x4 < (x0.size : Int) then ((posthouseref3_letterOrDigit.f (bt x0 x4)).bind fun t109 => (if t109 = true then (posthouseref3_AddressOk.l0 k x0 x3 (wrap64 (x4 + 1))) else (if (bt x0 x4) = 45 then (posthouseref3_AddressOk.l0 k x0 x3 (wrap64 (x4 + 1))) else (if (bt x0 x4) = 95 then (posthouseref3_AddressOk.l0 k x0 x3 (wrap64 (x4 + 1))) else (if (bt x0 x4) = 46 then (posthouseref3_AddressOk.l0 k x0 x3 (wrap64 (x4 + 1))) else (if (bt x0 x4) = 43 then (posthouseref3_AddressOk.l0 k x0 x3 (wrap64 (x4 + 1))) else (if (bt x0 x4) = 61 then (posthouseref3_AddressOk.l0 k x0 x3 (wrap64 (x4 + 1))) else (some false)))))))) else (none)) else (none)) else ((posthouseref3_In.f x3 1 60).bind fun t110 => (if t110 = true then (if x3 < (x0.size : Int) then (if 0 ≤ (wrap64 (x3 + 1)) then (if (wrap64 (x3 + 1)) ≤ (x0.size : Int) then ((posthouseref3_DomainOk.f k (x0.extract ((wrap64 (x3 + 1)) : Int).toNat x0.size)).bind fun t111 => (some t111)) else (none)) else (none)) else (some false)) else (some false)))
def posthouseref3_AddressOk.f (k : Nat) (a0 : ByteArray) : Option (Bool) := (posthouseref3_sign.f k a0).bind fun t108 => (posthouseref3_AddressOk.l0 k a0 t108 0)
theorem posthouseref3_AddressOk.mono_l : ∀ k, (∀ y0 y1 y2, LeO (posthouseref3_AddressOk.l0 k y0 y1 y2) (posthouseref3_AddressOk.l0 (k + 1) y0 y1 y2))
 | 0 => fun _ _ _ r h => by simp [posthouseref3_AddressOk.l0] at h
 | k + 1 => by
  have ih0 := posthouseref3_AddressOk.mono_l k
  ·
   intro y0 y1 y2
   unfold posthouseref3_AddressOk.l0
   repeat' first
   | (with_reducible exact ih0 _ _ _)
   | (with_reducible exact posthouseref3_DomainOk.mono _ _)
   | (with_reducible exact posthouseref3_sign.mono _ _)
   | (with_reducible exact LeO.refl _)
   | (with_reducible exact LeO.none _)
   | (with_reducible refine LeO.ite ?_ ?_)
   | (with_reducible refine LeO.bind ?_ (fun _ => ?_))
   | exact ih0 _ _ _
   | exact posthouseref3_DomainOk.mono _ _
   | exact posthouseref3_sign.mono _ _
   | exact LeO.none _
   | refine LeO.ite ?_ ?_
   | refine LeO.bind ?_ (fun _ => ?_)
theorem posthouseref3_AddressOk.mono : ∀ a0 k, LeO (posthouseref3_AddressOk.f k a0) (posthouseref3_AddressOk.f (k + 1) a0) := by
 intro a0 k
 have ih0 := posthouseref3_AddressOk.mono_l k
 unfold posthouseref3_AddressOk.f
 repeat' first
   | (with_reducible exact ih0 _ _ _)
   | (with_reducible exact posthouseref3_DomainOk.mono _ _)
   | (with_reducible exact posthouseref3_sign.mono _ _)
   | (with_reducible exact LeO.refl _)
   | (with_reducible exact LeO.none _)
   | (with_reducible refine LeO.ite ?_ ?_)
   | (with_reducible refine LeO.bind ?_ (fun _ => ?_))
   | exact ih0 _ _ _
   | exact posthouseref3_DomainOk.mono _ _
   | exact posthouseref3_sign.mono _ _
   | exact LeO.none _
   | refine LeO.ite ?_ ?_
   | refine LeO.bind ?_ (fun _ => ?_)
set_option maxHeartbeats 8000000 in
set_option maxRecDepth 100000 in
theorem posthouseref3_AddressOk.calls (k : Nat) (a0 : ByteArray) (r : Bool) (w : World) (h : posthouseref3_AddressOk.f k a0 = some r) :
  Calls Tryd.prog 34 #[.string a0] w fun e w' => e = .returned (.bool r) ∧ Drawn0 w w' := by
 have H : ((posthouseref3_sign.f k a0).bind fun t108 => (posthouseref3_AddressOk.l0 k a0 t108 0)) = some r := h
 clear h
 replace H := Option.bind_eq_some_iff.mp H
 obtain ⟨t108, A20, H⟩ := H
 replace H : (posthouseref3_AddressOk.l0 k a0 t108 0) = some r := H
 have A2 := Aside0.mk A20
 clear A20
 have H' := Aside0.mk H
 clear H
 go_enter Tryd.func34, Tryd.ntmps34
 go_wp2_with (first | ((with_reducible refine gate_callee (f := 74) rfl ?_); refine goesL_ (some 7) rfl rfl Tryd.func74 (by kernel_rfl) rfl #[.string a0] rfl ls_ ?_; (with_reducible refine (posthouseref3_sign.calls k a0 t108 _ A2.out).mono ?_); rintro e w' ⟨rfl, ⟨nd, rfl⟩⟩; refine ⟨_, rfl, ?_⟩))
 go_loopg [4] k (fun kq v4 w' => ∃ (x4_1 : Int), v4 = .int .i64 x4_1 ∧ Aside0 (posthouseref3_AddressOk.l0 kq a0 t108 x4_1 = some r) ∧ Aside0 (kq ≤ k) ∧ Drawn0 w w')
 case atStart => exact ⟨(0), rs_, H', ⟨Nat.le_refl _⟩, by repeat (first | exact Drawn0.refl _ | apply Drawn0.step)⟩
 case round =>
  clear H'
  try clear p2
  obtain ⟨x4_1, rfl, HA, HK1, ⟨m1, rfl⟩⟩ := hrel
  cases gk with
  | zero => exact absurd HA.out (by simp [posthouseref3_AddressOk.l0])
  | succ k1 =>
   have H := HA.out
   clear HA
   simp only [posthouseref3_AddressOk.l0] at H
   by_cases c3 : x4_1 < t108
   ·
    rw [if_pos c3] at H
    have c3b0 : decide (x4_1 < t108) = true := decide_eq_true c3
    clear c3
    by_cases c4 : 0 ≤ x4_1
    ·
     rw [if_pos c4] at H
     have c4b0 : decide (0 ≤ x4_1) = true := decide_eq_true c4
     clear c4
     by_cases c5 : x4_1 < (a0.size : Int)
     ·
      rw [if_pos c5] at H
      have c5b0 : decide (x4_1 < (a0.size : Int)) = true := decide_eq_true c5
      clear c5
      replace H := Option.bind_eq_some_iff.mp H
      obtain ⟨t109, A70, H⟩ := H
      replace H : (if t109 = true then (posthouseref3_AddressOk.l0 k1 a0 t108 (wrap64 (x4_1 + 1))) else (if (bt a0 x4_1) = 45 then (posthouseref3_AddressOk.l0 k1 a0 t108 (wrap64 (x4_1 + 1))) else (if (bt a0 x4_1) = 95 then (posthouseref3_AddressOk.l0 k1 a0 t108 (wrap64 (x4_1 + 1))) else (if (bt a0 x4_1) = 46 then (posthouseref3_AddressOk.l0 k1 a0 t108 (wrap64 (x4_1 + 1))) else (if (bt a0 x4_1) = 43 then (posthouseref3_AddressOk.l0 k1 a0 t108 (wrap64 (x4_1 + 1))) else (if (bt a0 x4_1) = 61 then (posthouseref3_AddressOk.l0 k1 a0 t108 (wrap64 (x4_1 + 1))) else (some false))))))) = some r := H
      have A7 := Aside0.mk A70
      clear A70
      by_cases c8 : t109 = true
      ·
       subst c8
       have H1 : (posthouseref3_AddressOk.l0 k1 a0 t108 (wrap64 (x4_1 + 1))) = some r := by rw [if_pos rfl] at H; exact H
       clear H
       have H := H1
       clear H1
       have H' := Aside0.mk H
       clear H
       have p6 : 0 ≤ (x4_1 : Int) := of_decide_eq_true as_
       have q6 : x4_1 < (a0.size : Int) := of_decide_eq_true as_
       have hx6 := bt_at a0 x4_1
       replace p6 := eq_true p6
       replace q6 := eq_true q6
       go_wp2_with (first | ((with_reducible refine gate_callee (f := 76) rfl ?_); refine goesL_ (some 17) rfl rfl Tryd.func76 (by kernel_rfl) rfl #[.int .u8 (bt a0 x4_1)] rfl ls_ ?_; (with_reducible refine (posthouseref3_letterOrDigit.calls (bt a0 x4_1) true _ A7.out).mono ?_); rintro e w' ⟨rfl, ⟨nd, rfl⟩⟩; refine ⟨_, rfl, ?_⟩))
       go_roundg k1
       case measure => have := HK1.out; omega
       case rel => exact ⟨(wrap64 (x4_1 + 1)), rs_, H', ⟨by have := HK1.out; omega⟩, by repeat (first | exact Drawn0.refl _ | apply Drawn0.step)⟩
      ·
       replace c8 := Bool.eq_false_iff.mpr c8
       subst c8
       have H1 : (if (bt a0 x4_1) = 45 then (posthouseref3_AddressOk.l0 k1 a0 t108 (wrap64 (x4_1 + 1))) else (if (bt a0 x4_1) = 95 then (posthouseref3_AddressOk.l0 k1 a0 t108 (wrap64 (x4_1 + 1))) else (if (bt a0 x4_1) = 46 then (posthouseref3_AddressOk.l0 k1 a0 t108 (wrap64 (x4_1 + 1))) else (if (bt a0 x4_1) = 43 then (posthouseref3_AddressOk.l0 k1 a0 t108 (wrap64 (x4_1 + 1))) else (if (bt a0 x4_1) = 61 then (posthouseref3_AddressOk.l0 k1 a0 t108 (wrap64 (x4_1 + 1))) else (some false)))))) = some r := by rw [if_neg (show ¬ (false = true) by decide)] at H; exact H
       clear H
       have H := H1
       clear H1
       by_cases c9 : (bt a0 x4_1) = 45
       ·
        rw [if_pos c9] at H
        have c9b0 : ((bt a0 x4_1) == 45) = true := beq_iff_eq.mpr c9
        have c9b1 : ((bt a0 x4_1) != 45) = false := bne_eq_false_iff_eq.mpr c9
        clear c9
        have H' := Aside0.mk H
        clear H
        have p6 : 0 ≤ (x4_1 : Int) := of_decide_eq_true as_
        have q6 : x4_1 < (a0.size : Int) := of_decide_eq_true as_
        have hx6 := bt_at a0 x4_1
        replace p6 := eq_true p6
        replace q6 := eq_true q6
        go_wp2_with (first | ((with_reducible refine gate_callee (f := 76) rfl ?_); refine goesL_ (some 17) rfl rfl Tryd.func76 (by kernel_rfl) rfl #[.int .u8 (bt a0 x4_1)] rfl ls_ ?_; (with_reducible refine (posthouseref3_letterOrDigit.calls (bt a0 x4_1) false _ A7.out).mono ?_); rintro e w' ⟨rfl, ⟨nd, rfl⟩⟩; refine ⟨_, rfl, ?_⟩))
        go_roundg k1
        case measure => have := HK1.out; omega
        case rel => exact ⟨(wrap64 (x4_1 + 1)), rs_, H', ⟨by have := HK1.out; omega⟩, by repeat (first | exact Drawn0.refl _ | apply Drawn0.step)⟩
       ·
        rw [if_neg c9] at H
        have c9b0 : ((bt a0 x4_1) == 45) = false := beq_eq_false_iff_ne.mpr c9
        have c9b1 : ((bt a0 x4_1) != 45) = true := bne_iff_ne.mpr c9
        by_cases c10 : (bt a0 x4_1) = 95
        ·
         rw [if_pos c10] at H
         have c10b0 : ((bt a0 x4_1) == 95) = true := beq_iff_eq.mpr c10
         have c10b1 : ((bt a0 x4_1) != 95) = false := bne_eq_false_iff_eq.mpr c10
         clear c10
         have H' := Aside0.mk H
         clear H
         have p6 : 0 ≤ (x4_1 : Int) := of_decide_eq_true as_
         have q6 : x4_1 < (a0.size : Int) := of_decide_eq_true as_
         have hx6 := bt_at a0 x4_1
         replace p6 := eq_true p6
         replace q6 := eq_true q6
         go_wp2_with (first | ((with_reducible refine gate_callee (f := 76) rfl ?_); refine goesL_ (some 17) rfl rfl Tryd.func76 (by kernel_rfl) rfl #[.int .u8 (bt a0 x4_1)] rfl ls_ ?_; (with_reducible refine (posthouseref3_letterOrDigit.calls (bt a0 x4_1) false _ A7.out).mono ?_); rintro e w' ⟨rfl, ⟨nd, rfl⟩⟩; refine ⟨_, rfl, ?_⟩))
         go_roundg k1
         case measure => have := HK1.out; omega
         case rel => exact ⟨(wrap64 (x4_1 + 1)), rs_, H', ⟨by have := HK1.out; omega⟩, by repeat (first | exact Drawn0.refl _ | apply Drawn0.step)⟩
        ·
         rw [if_neg c10] at H
         have c10b0 : ((bt a0 x4_1) == 95) = false := beq_eq_false_iff_ne.mpr c10
         have c10b1 : ((bt a0 x4_1) != 95) = true := bne_iff_ne.mpr c10
         by_cases c11 : (bt a0 x4_1) = 46
         ·
          rw [if_pos c11] at H
          have c11b0 : ((bt a0 x4_1) == 46) = true := beq_iff_eq.mpr c11
          have c11b1 : ((bt a0 x4_1) != 46) = false := bne_eq_false_iff_eq.mpr c11
          clear c11
          have H' := Aside0.mk H
          clear H
          have p6 : 0 ≤ (x4_1 : Int) := of_decide_eq_true as_
          have q6 : x4_1 < (a0.size : Int) := of_decide_eq_true as_
          have hx6 := bt_at a0 x4_1
          replace p6 := eq_true p6
          replace q6 := eq_true q6
          go_wp2_with (first | ((with_reducible refine gate_callee (f := 76) rfl ?_); refine goesL_ (some 17) rfl rfl Tryd.func76 (by kernel_rfl) rfl #[.int .u8 (bt a0 x4_1)] rfl ls_ ?_; (with_reducible refine (posthouseref3_letterOrDigit.calls (bt a0 x4_1) false _ A7.out).mono ?_); rintro e w' ⟨rfl, ⟨nd, rfl⟩⟩; refine ⟨_, rfl, ?_⟩))
          go_roundg k1
          case measure => have := HK1.out; omega
          case rel => exact ⟨(wrap64 (x4_1 + 1)), rs_, H', ⟨by have := HK1.out; omega⟩, by repeat (first | exact Drawn0.refl _ | apply Drawn0.step)⟩
         ·
          rw [if_neg c11] at H
          have c11b0 : ((bt a0 x4_1) == 46) = false := beq_eq_false_iff_ne.mpr c11
          have c11b1 : ((bt a0 x4_1) != 46) = true := bne_iff_ne.mpr c11
          by_cases c12 : (bt a0 x4_1) = 43
          ·
           rw [if_pos c12] at H
           have c12b0 : ((bt a0 x4_1) == 43) = true := beq_iff_eq.mpr c12
           have c12b1 : ((bt a0 x4_1) != 43) = false := bne_eq_false_iff_eq.mpr c12
           clear c12
           have H' := Aside0.mk H
           clear H
           have p6 : 0 ≤ (x4_1 : Int) := of_decide_eq_true as_
           have q6 : x4_1 < (a0.size : Int) := of_decide_eq_true as_
           have hx6 := bt_at a0 x4_1
           replace p6 := eq_true p6
           replace q6 := eq_true q6
           go_wp2_with (first | ((with_reducible refine gate_callee (f := 76) rfl ?_); refine goesL_ (some 17) rfl rfl Tryd.func76 (by kernel_rfl) rfl #[.int .u8 (bt a0 x4_1)] rfl ls_ ?_; (with_reducible refine (posthouseref3_letterOrDigit.calls (bt a0 x4_1) false _ A7.out).mono ?_); rintro e w' ⟨rfl, ⟨nd, rfl⟩⟩; refine ⟨_, rfl, ?_⟩))
           go_roundg k1
           case measure => have := HK1.out; omega
           case rel => exact ⟨(wrap64 (x4_1 + 1)), rs_, H', ⟨by have := HK1.out; omega⟩, by repeat (first | exact Drawn0.refl _ | apply Drawn0.step)⟩
          ·
           rw [if_neg c12] at H
           have c12b0 : ((bt a0 x4_1) == 43) = false := beq_eq_false_iff_ne.mpr c12
           have c12b1 : ((bt a0 x4_1) != 43) = true := bne_iff_ne.mpr c12
           by_cases c13 : (bt a0 x4_1) = 61
           ·
            rw [if_pos c13] at H
            have c13b0 : ((bt a0 x4_1) == 61) = true := beq_iff_eq.mpr c13
            have c13b1 : ((bt a0 x4_1) != 61) = false := bne_eq_false_iff_eq.mpr c13
            clear c13
            have H' := Aside0.mk H
            clear H
            have p6 : 0 ≤ (x4_1 : Int) := of_decide_eq_true as_
            have q6 : x4_1 < (a0.size : Int) := of_decide_eq_true as_
            have hx6 := bt_at a0 x4_1
            replace p6 := eq_true p6
            replace q6 := eq_true q6
            go_wp2_with (first | ((with_reducible refine gate_callee (f := 76) rfl ?_); refine goesL_ (some 17) rfl rfl Tryd.func76 (by kernel_rfl) rfl #[.int .u8 (bt a0 x4_1)] rfl ls_ ?_; (with_reducible refine (posthouseref3_letterOrDigit.calls (bt a0 x4_1) false _ A7.out).mono ?_); rintro e w' ⟨rfl, ⟨nd, rfl⟩⟩; refine ⟨_, rfl, ?_⟩))
            go_roundg k1
            case measure => have := HK1.out; omega
            case rel => exact ⟨(wrap64 (x4_1 + 1)), rs_, H', ⟨by have := HK1.out; omega⟩, by repeat (first | exact Drawn0.refl _ | apply Drawn0.step)⟩
           ·
            rw [if_neg c13] at H
            have c13b0 : ((bt a0 x4_1) == 61) = false := beq_eq_false_iff_ne.mpr c13
            have c13b1 : ((bt a0 x4_1) != 61) = true := bne_iff_ne.mpr c13
            obtain rfl := Option.some.inj H
            have p6 : 0 ≤ (x4_1 : Int) := of_decide_eq_true as_
            have q6 : x4_1 < (a0.size : Int) := of_decide_eq_true as_
            have hx6 := bt_at a0 x4_1
            replace p6 := eq_true p6
            replace q6 := eq_true q6
            go_wp2_with (first | ((with_reducible refine gate_callee (f := 76) rfl ?_); refine goesL_ (some 17) rfl rfl Tryd.func76 (by kernel_rfl) rfl #[.int .u8 (bt a0 x4_1)] rfl ls_ ?_; (with_reducible refine (posthouseref3_letterOrDigit.calls (bt a0 x4_1) false _ A7.out).mono ?_); rintro e w' ⟨rfl, ⟨nd, rfl⟩⟩; refine ⟨_, rfl, ?_⟩))
            go_ret
            exact ⟨by first | rfl | (simp; done) | (simp [*]; done), by repeat (first | exact Drawn0.refl _ | apply Drawn0.step)⟩
     ·
      rw [if_neg c5] at H
      exact absurd H (by simp)
    ·
     rw [if_neg c4] at H
     exact absurd H (by simp)
   ·
    rw [if_neg c3] at H
    have c3b0 : decide (x4_1 < t108) = false := decide_eq_false c3
    clear c3
    replace H := Option.bind_eq_some_iff.mp H
    obtain ⟨t110, A140, H⟩ := H
    replace H : (if t110 = true then (if t108 < (a0.size : Int) then (if 0 ≤ (wrap64 (t108 + 1)) then (if (wrap64 (t108 + 1)) ≤ (a0.size : Int) then ((posthouseref3_DomainOk.f k1 (a0.extract ((wrap64 (t108 + 1)) : Int).toNat a0.size)).bind fun t111 => (some t111)) else (none)) else (none)) else (some false)) else (some false)) = some r := H
    have A14 := Aside0.mk A140
    clear A140
    by_cases c15 : t110 = true
    ·
     subst c15
     have H1 : (if t108 < (a0.size : Int) then (if 0 ≤ (wrap64 (t108 + 1)) then (if (wrap64 (t108 + 1)) ≤ (a0.size : Int) then ((posthouseref3_DomainOk.f k1 (a0.extract ((wrap64 (t108 + 1)) : Int).toNat a0.size)).bind fun t111 => (some t111)) else (none)) else (none)) else (some false)) = some r := by rw [if_pos rfl] at H; exact H
     clear H
     have H := H1
     clear H1
     by_cases c16 : t108 < (a0.size : Int)
     ·
      rw [if_pos c16] at H
      have c16b0 : decide (t108 < (a0.size : Int)) = true := decide_eq_true c16
      clear c16
      obtain ⟨ji17, hji17⟩ : ∃ j_ : Int, (wrap64 (t108 + 1)) = j_ := ⟨_, rfl⟩
      replace H : (if 0 ≤ (ji17) then (if (ji17) ≤ (a0.size : Int) then ((posthouseref3_DomainOk.f k1 (a0.extract ((ji17) : Int).toNat a0.size)).bind fun t111 => (some t111)) else (none)) else (none)) = some r := by first | (rw [hji17] at H; exact H) | (simp only [hji17] at H ⊢; exact H)
      (try rw [hji17] at A14)
      have hji17w : (IntKind.i64.wrap (t108 + 1)) = ji17 := (i64_w _).trans hji17
      by_cases c18 : 0 ≤ (ji17)
      ·
       rw [if_pos c18] at H
       have c18b0 := eq_true c18
       have c18b1 : decide (0 ≤ (ji17)) = true := decide_eq_true c18
       clear c18
       by_cases c19 : (ji17) ≤ (a0.size : Int)
       ·
        rw [if_pos c19] at H
        have c19b0 := eq_true c19
        have c19b1 : decide ((ji17) ≤ (a0.size : Int)) = true := decide_eq_true c19
        clear c19
        replace H := Option.bind_eq_some_iff.mp H
        obtain ⟨t111, A200, H⟩ := H
        replace H : (some t111) = some r := H
        have A20 := Aside0.mk A200
        clear A200
        obtain rfl := Option.some.inj H
        go_wp2_with (first | ((with_reducible refine gate_callee (f := 35) rfl ?_); refine goesL_ (some 40) rfl rfl Tryd.func35 (by kernel_rfl) rfl #[.int .i64 t108, .int .i64 1, .int .i64 60] rfl ls_ ?_; (with_reducible refine (posthouseref3_In.calls t108 1 60 true _ A14.out).mono ?_); rintro e w' ⟨rfl, ⟨nd, rfl⟩⟩; refine ⟨_, rfl, ?_⟩) | (go_at_call 43; (with_reducible refine (posthouseref3_DomainOk.calls k1 (a0.extract ((ji17) : Int).toNat a0.size) t111 _ A20.out).mono ?_); rintro e w' ⟨rfl, ⟨nd, rfl⟩⟩))
        go_ret
        exact ⟨by first | rfl | (simp; done) | (simp only [← hji17] <;> (first | rfl | simp)) | (simp [*]; done), by repeat (first | exact Drawn0.refl _ | apply Drawn0.step)⟩
       ·
        rw [if_neg c19] at H
        exact absurd H (by simp)
      ·
       rw [if_neg c18] at H
       exact absurd H (by simp)
     ·
      rw [if_neg c16] at H
      have c16b0 : decide (t108 < (a0.size : Int)) = false := decide_eq_false c16
      clear c16
      obtain rfl := Option.some.inj H
      go_wp2_with (first | ((with_reducible refine gate_callee (f := 35) rfl ?_); refine goesL_ (some 40) rfl rfl Tryd.func35 (by kernel_rfl) rfl #[.int .i64 t108, .int .i64 1, .int .i64 60] rfl ls_ ?_; (with_reducible refine (posthouseref3_In.calls t108 1 60 true _ A14.out).mono ?_); rintro e w' ⟨rfl, ⟨nd, rfl⟩⟩; refine ⟨_, rfl, ?_⟩))
      go_ret
      exact ⟨by first | rfl | (simp; done) | (simp [*]; done), by repeat (first | exact Drawn0.refl _ | apply Drawn0.step)⟩
    ·
     replace c15 := Bool.eq_false_iff.mpr c15
     subst c15
     have H1 : (some false) = some r := by rw [if_neg (show ¬ (false = true) by decide)] at H; exact H
     clear H
     have H := H1
     clear H1
     obtain rfl := Option.some.inj H
     go_wp2_with (first | ((with_reducible refine gate_callee (f := 35) rfl ?_); refine goesL_ (some 40) rfl rfl Tryd.func35 (by kernel_rfl) rfl #[.int .i64 t108, .int .i64 1, .int .i64 60] rfl ls_ ?_; (with_reducible refine (posthouseref3_In.calls t108 1 60 false _ A14.out).mono ?_); rintro e w' ⟨rfl, ⟨nd, rfl⟩⟩; refine ⟨_, rfl, ?_⟩))
     go_ret
     exact ⟨by first | rfl | (simp; done) | (simp [*]; done), by repeat (first | exact Drawn0.refl _ | apply Drawn0.step)⟩

end Go.Proofs.YtbmeebhcanknmaaDoor.XEvm
