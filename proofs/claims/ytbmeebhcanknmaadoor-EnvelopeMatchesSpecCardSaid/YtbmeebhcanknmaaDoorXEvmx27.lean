-- Laid by a program of this session's (xprint.py) over the print's text; contracts proved by hand stand among them. Lean checks it.
import Derived.Test.YtbmeebhcanknmaaDoorXEvmx0
import Derived.Test.YtbmeebhcanknmaaDoorXEvmx1
import Derived.Test.YtbmeebhcanknmaaDoorXEvmx22
import Derived.Test.YtbmeebhcanknmaaDoorXEvmx25
import Derived.Test.YtbmeebhcanknmaaDoorXEvmx26
namespace Go.Proofs.YtbmeebhcanknmaaDoor.XEvm
open Go.RowKit Go.Proofs.YtbmeebhcanknmaaDoorW.PrintWords Go.Proofs.YtbmeebhcanknmaaDoorW.PrintLast Go.Proofs.YtbmeebhcanknmaaDoorW.PrintMore
attribute [local go_sem] max2_int min2_int max_two min_two max_three min_three max_four min_four   -- for this text's walks alone
set_option linter.unusedVariables false
set_option linter.unusedSimpArgs false

attribute [local go_sem high] eqA25
/-! ### fold_Check: function 155 -/
def fold_Check.f (k : Nat) (a0 : ByteArray) (a1 : ByteArray) : Option (Int) := (fold_IsName.f k a0).bind fun t201 => (if t201 = true then (if (a1.size : Int) > 4000 then (some 1) else ((strings_ContainsAny.f a1 (⟨#[13, 10, 0]⟩ : ByteArray)).bind fun t202 => (if t202 = true then (some 11) else ((strings_Trim.f a1 (⟨#[32, 9]⟩ : ByteArray)).bind fun t203 => (if t203.toList = a1.toList then (some 0) else (some 11)))))) else (some 10))
theorem fold_Check.mono : ∀ a0 a1 k, LeO (fold_Check.f k a0 a1) (fold_Check.f (k + 1) a0 a1) := by
 intro a0 a1 k
 unfold fold_Check.f
 repeat' first
   | (with_reducible exact fold_IsName.mono _ _)
   | (with_reducible exact LeO.refl _)
   | (with_reducible exact LeO.none _)
   | (with_reducible refine LeO.ite ?_ ?_)
   | (with_reducible refine LeO.bind ?_ (fun _ => ?_))
   | exact fold_IsName.mono _ _
   | exact LeO.none _
   | refine LeO.ite ?_ ?_
   | refine LeO.bind ?_ (fun _ => ?_)
set_option maxHeartbeats 8000000 in
set_option maxRecDepth 100000 in
theorem fold_Check.calls (k : Nat) (a0 : ByteArray) (a1 : ByteArray) (r : Int) (w : World) (h : fold_Check.f k a0 a1 = some r) :
  Calls Tryd.prog 155 #[.string a0, .string a1] w fun e w' => e = .returned (.int .i64 r) ∧ Below w.heap.size w w' := by
 have HB := Aside0.mk (Below.refl w.heap.size w)
 have H : ((fold_IsName.f k a0).bind fun t201 => (if t201 = true then (if (a1.size : Int) > 4000 then (some 1) else ((strings_ContainsAny.f a1 (⟨#[13, 10, 0]⟩ : ByteArray)).bind fun t202 => (if t202 = true then (some 11) else ((strings_Trim.f a1 (⟨#[32, 9]⟩ : ByteArray)).bind fun t203 => (if t203.toList = a1.toList then (some 0) else (some 11)))))) else (some 10))) = some r := h
 clear h
 replace H := Option.bind_eq_some_iff.mp H
 obtain ⟨t201, A30, H⟩ := H
 replace H : (if t201 = true then (if (a1.size : Int) > 4000 then (some 1) else ((strings_ContainsAny.f a1 (⟨#[13, 10, 0]⟩ : ByteArray)).bind fun t202 => (if t202 = true then (some 11) else ((strings_Trim.f a1 (⟨#[32, 9]⟩ : ByteArray)).bind fun t203 => (if t203.toList = a1.toList then (some 0) else (some 11)))))) else (some 10)) = some r := H
 have A3 := Aside0.mk A30
 clear A30
 by_cases c4 : t201 = true
 ·
  subst c4
  have H1 : (if (a1.size : Int) > 4000 then (some 1) else ((strings_ContainsAny.f a1 (⟨#[13, 10, 0]⟩ : ByteArray)).bind fun t202 => (if t202 = true then (some 11) else ((strings_Trim.f a1 (⟨#[32, 9]⟩ : ByteArray)).bind fun t203 => (if t203.toList = a1.toList then (some 0) else (some 11)))))) = some r := by rw [if_pos rfl] at H; exact H
  clear H
  have H := H1
  clear H1
  by_cases c5 : (a1.size : Int) > 4000
  ·
   rw [if_pos c5] at H
   have c5b0 : decide (4000 < (a1.size : Int)) = true := decide_eq_true c5
   have c5b1 : decide (4000 < a1.size) = true := decide_eq_true (by omega)
   clear c5
   obtain rfl := Option.some.inj H
   go_enter Tryd.func155, Tryd.ntmps155
   go_wp2_with (first | ((with_reducible refine gate_callee (f := 171) rfl ?_); refine goesL_ (some 7) rfl rfl Tryd.func171 (by kernel_rfl) rfl #[.string a0] rfl ls_ ?_; (with_reducible refine (fold_IsName.calls k a0 true _ A3.out).mono ?_); rintro e w' ⟨rfl, ⟨nd, rfl⟩⟩; refine ⟨_, rfl, ?_⟩))
   go_ret
   exact ⟨by first | rfl | (simp [errW_none, errW_some] <;> rfl) | (simp [*, errW_none, errW_some] <;> rfl), by repeat (first | (with_reducible first | exact HB.out | apply below_alloc | apply pw_below_drewN | apply below_drew1) | exact HB.out)⟩
  ·
   rw [if_neg c5] at H
   have c5b0 : decide (4000 < (a1.size : Int)) = false := decide_eq_false c5
   have c5b1 : decide (4000 < a1.size) = false := decide_eq_false (by omega)
   clear c5
   replace H := Option.bind_eq_some_iff.mp H
   obtain ⟨t202, A60, H⟩ := H
   replace H : (if t202 = true then (some 11) else ((strings_Trim.f a1 (⟨#[32, 9]⟩ : ByteArray)).bind fun t203 => (if t203.toList = a1.toList then (some 0) else (some 11)))) = some r := H
   have A6 := Aside0.mk A60
   clear A60
   by_cases c7 : t202 = true
   ·
    subst c7
    have H1 : (some 11) = some r := by rw [if_pos rfl] at H; exact H
    clear H
    have H := H1
    clear H1
    obtain rfl := Option.some.inj H
    go_enter Tryd.func155, Tryd.ntmps155
    go_wp2_with (first | ((with_reducible refine gate_callee (f := 171) rfl ?_); refine goesL_ (some 7) rfl rfl Tryd.func171 (by kernel_rfl) rfl #[.string a0] rfl ls_ ?_; (with_reducible refine (fold_IsName.calls k a0 true _ A3.out).mono ?_); rintro e w' ⟨rfl, ⟨nd, rfl⟩⟩; refine ⟨_, rfl, ?_⟩) | ((with_reducible refine gate_callee (f := 92) rfl ?_); refine goesL_ (some 15) rfl rfl Tryd.func92 (by kernel_rfl) rfl #[.string a1, .string (⟨#[13, 10, 0]⟩ : ByteArray)] rfl ls_ ?_; (with_reducible refine (strings_ContainsAny.calls a1 (⟨#[13, 10, 0]⟩ : ByteArray) true _ A6.out).mono ?_); rintro e w8 ⟨rfl, hb⟩; refine ⟨_, rfl, ?_⟩; have n0_ := Aside0.mk (below_step (pb_ HB.out) hb); clear HB; have HB := n0_; clear n0_; (try clear hb); (try clear hb2); (try clear hk); (try clear hi)))
    go_ret
    exact ⟨by first | rfl | (simp [errW_none, errW_some] <;> rfl) | (simp [*, errW_none, errW_some] <;> rfl), by repeat (first | (with_reducible first | exact HB.out | apply below_alloc | apply pw_below_drewN | apply below_drew1) | exact HB.out)⟩
   ·
    replace c7 := Bool.eq_false_iff.mpr c7
    subst c7
    have H1 : ((strings_Trim.f a1 (⟨#[32, 9]⟩ : ByteArray)).bind fun t203 => (if t203.toList = a1.toList then (some 0) else (some 11))) = some r := by rw [if_neg (show ¬ (false = true) by decide)] at H; exact H
    clear H
    have H := H1
    clear H1
    replace H := Option.bind_eq_some_iff.mp H
    obtain ⟨t203, A90, H⟩ := H
    replace H : (if t203.toList = a1.toList then (some 0) else (some 11)) = some r := H
    have A9 := Aside0.mk A90
    clear A90
    by_cases c10 : t203.toList = a1.toList
    ·
     rw [if_pos c10] at H
     have c10b0 : (t203.toList == a1.toList) = true := beq_iff_eq.mpr c10
     have c10b1 : (t203.toList != a1.toList) = false := bne_eq_false_iff_eq.mpr c10
     clear c10
     obtain rfl := Option.some.inj H
     go_enter Tryd.func155, Tryd.ntmps155
     go_wp2_with (first | ((with_reducible refine gate_callee (f := 171) rfl ?_); refine goesL_ (some 7) rfl rfl Tryd.func171 (by kernel_rfl) rfl #[.string a0] rfl ls_ ?_; (with_reducible refine (fold_IsName.calls k a0 true _ A3.out).mono ?_); rintro e w' ⟨rfl, ⟨nd, rfl⟩⟩; refine ⟨_, rfl, ?_⟩) | ((with_reducible refine gate_callee (f := 92) rfl ?_); refine goesL_ (some 15) rfl rfl Tryd.func92 (by kernel_rfl) rfl #[.string a1, .string (⟨#[13, 10, 0]⟩ : ByteArray)] rfl ls_ ?_; (with_reducible refine (strings_ContainsAny.calls a1 (⟨#[13, 10, 0]⟩ : ByteArray) false _ A6.out).mono ?_); rintro e w11 ⟨rfl, hb⟩; refine ⟨_, rfl, ?_⟩; have n0_ := Aside0.mk (below_step (pb_ HB.out) hb); clear HB; have HB := n0_; clear n0_; (try clear hb); (try clear hb2); (try clear hk); (try clear hi)) | (go_at_call 172; (with_reducible refine (strings_Trim.calls a1 (⟨#[32, 9]⟩ : ByteArray) t203 _ A9.out).mono ?_); rintro e w12 ⟨rfl, hb⟩; have n0_ := Aside0.mk (below_step (pb_ HB.out) hb); clear HB; have HB := n0_; clear n0_; (try clear hb); (try clear hb2); (try clear hk); (try clear hi)))
     go_ret
     exact ⟨by first | rfl | (simp [errW_none, errW_some] <;> rfl) | (simp [*, errW_none, errW_some] <;> rfl), by repeat (first | (with_reducible first | exact HB.out | apply below_alloc | apply pw_below_drewN | apply below_drew1) | exact HB.out)⟩
    ·
     rw [if_neg c10] at H
     have c10b0 : (t203.toList == a1.toList) = false := beq_eq_false_iff_ne.mpr c10
     have c10b1 : (t203.toList != a1.toList) = true := bne_iff_ne.mpr c10
     obtain rfl := Option.some.inj H
     go_enter Tryd.func155, Tryd.ntmps155
     go_wp2_with (first | ((with_reducible refine gate_callee (f := 171) rfl ?_); refine goesL_ (some 7) rfl rfl Tryd.func171 (by kernel_rfl) rfl #[.string a0] rfl ls_ ?_; (with_reducible refine (fold_IsName.calls k a0 true _ A3.out).mono ?_); rintro e w' ⟨rfl, ⟨nd, rfl⟩⟩; refine ⟨_, rfl, ?_⟩) | ((with_reducible refine gate_callee (f := 92) rfl ?_); refine goesL_ (some 15) rfl rfl Tryd.func92 (by kernel_rfl) rfl #[.string a1, .string (⟨#[13, 10, 0]⟩ : ByteArray)] rfl ls_ ?_; (with_reducible refine (strings_ContainsAny.calls a1 (⟨#[13, 10, 0]⟩ : ByteArray) false _ A6.out).mono ?_); rintro e w13 ⟨rfl, hb⟩; refine ⟨_, rfl, ?_⟩; have n0_ := Aside0.mk (below_step (pb_ HB.out) hb); clear HB; have HB := n0_; clear n0_; (try clear hb); (try clear hb2); (try clear hk); (try clear hi)) | (go_at_call 172; (with_reducible refine (strings_Trim.calls a1 (⟨#[32, 9]⟩ : ByteArray) t203 _ A9.out).mono ?_); rintro e w14 ⟨rfl, hb⟩; have n0_ := Aside0.mk (below_step (pb_ HB.out) hb); clear HB; have HB := n0_; clear n0_; (try clear hb); (try clear hb2); (try clear hk); (try clear hi)))
     go_ret
     exact ⟨by first | rfl | (simp [errW_none, errW_some] <;> rfl) | (simp [*, errW_none, errW_some] <;> rfl), by repeat (first | (with_reducible first | exact HB.out | apply below_alloc | apply pw_below_drewN | apply below_drew1) | exact HB.out)⟩
 ·
  replace c4 := Bool.eq_false_iff.mpr c4
  subst c4
  have H1 : (some 10) = some r := by rw [if_neg (show ¬ (false = true) by decide)] at H; exact H
  clear H
  have H := H1
  clear H1
  obtain rfl := Option.some.inj H
  go_enter Tryd.func155, Tryd.ntmps155
  go_wp2_with (first | ((with_reducible refine gate_callee (f := 171) rfl ?_); refine goesL_ (some 7) rfl rfl Tryd.func171 (by kernel_rfl) rfl #[.string a0] rfl ls_ ?_; (with_reducible refine (fold_IsName.calls k a0 false _ A3.out).mono ?_); rintro e w' ⟨rfl, ⟨nd, rfl⟩⟩; refine ⟨_, rfl, ?_⟩))
  go_ret
  exact ⟨by first | rfl | (simp [errW_none, errW_some] <;> rfl) | (simp [*, errW_none, errW_some] <;> rfl), by repeat (first | (with_reducible first | exact HB.out | apply below_alloc | apply pw_below_drewN | apply below_drew1) | exact HB.out)⟩

/-! ### fold_Fold: function 135 -/
def fold_Fold.l0 : Nat → List ByteArray → List ByteArray → Int → Int → Option (List ByteArray × Int × Int)
 | 0, _, _, _, _ => none
 | k + 1, x7, x20, x21, x22 => if x22 < x21 then (if 0 ≤ x22 then (if x22 < (x20.length : Int) then (if ((rdOf ByteArray.empty x20 x22).size : Int) > 998 then (some (([] : List ByteArray), 1, x22)) else (fold_Fold.l0 k x7 x20 x21 (wrap64 (x22 + 1)))) else (none)) else (none)) else (some (x7, 0, 0))
def fold_Fold.f (k : Nat) (a0 : ByteArray) (a1 : ByteArray) : Option (List ByteArray × Int × Int) := (fold_Check.f k a0 a1).bind fun t205 => (if t205 = 0 then ((fold_Lines.f k a0 a1).bind fun t206 => (fold_Fold.l0 k t206 t206 (t206.length : Int) 0)) else (some (([] : List ByteArray), t205, (-1))))
theorem fold_Fold.mono_l : ∀ k, (∀ y0 y1 y2 y3, LeO (fold_Fold.l0 k y0 y1 y2 y3) (fold_Fold.l0 (k + 1) y0 y1 y2 y3))
 | 0 => fun _ _ _ _ r h => by simp [fold_Fold.l0] at h
 | k + 1 => by
  have ih0 := fold_Fold.mono_l k
  ·
   intro y0 y1 y2 y3
   unfold fold_Fold.l0
   repeat' first
   | (with_reducible exact ih0 _ _ _ _)
   | (with_reducible exact fold_Check.mono _ _ _)
   | (with_reducible exact fold_Lines.mono _ _ _)
   | (with_reducible exact LeO.refl _)
   | (with_reducible exact LeO.none _)
   | (with_reducible refine LeO.ite ?_ ?_)
   | (with_reducible refine LeO.bind ?_ (fun _ => ?_))
   | exact ih0 _ _ _ _
   | exact fold_Check.mono _ _ _
   | exact fold_Lines.mono _ _ _
   | exact LeO.none _
   | refine LeO.ite ?_ ?_
   | refine LeO.bind ?_ (fun _ => ?_)
theorem fold_Fold.mono : ∀ a0 a1 k, LeO (fold_Fold.f k a0 a1) (fold_Fold.f (k + 1) a0 a1) := by
 intro a0 a1 k
 have ih0 := fold_Fold.mono_l k
 unfold fold_Fold.f
 repeat' first
   | (with_reducible exact ih0 _ _ _ _)
   | (with_reducible exact fold_Check.mono _ _ _)
   | (with_reducible exact fold_Lines.mono _ _ _)
   | (with_reducible exact LeO.refl _)
   | (with_reducible exact LeO.none _)
   | (with_reducible refine LeO.ite ?_ ?_)
   | (with_reducible refine LeO.bind ?_ (fun _ => ?_))
   | exact ih0 _ _ _ _
   | exact fold_Check.mono _ _ _
   | exact fold_Lines.mono _ _ _
   | exact LeO.none _
   | refine LeO.ite ?_ ?_
   | refine LeO.bind ?_ (fun _ => ?_)
set_option maxHeartbeats 8000000 in
set_option maxRecDepth 100000 in
theorem fold_Fold.calls (k : Nat) (a0 : ByteArray) (a1 : ByteArray) (r1 : List ByteArray) (r2 : Int) (r3 : Int) (w : World) (h : fold_Fold.f k a0 a1 = some (r1, r2, r3)) :
  Calls Tryd.prog 135 #[.string a0, .string a1] w fun e w' => ∃ v0_ : Value, e = .returned (.tuple #[v0_, .agg #[.int .i64 r2, .int .i64 r3]]) ∧ Kd.R Kd.string 9 w' w.heap.size (fun _ => True) v0_ r1 ∧ Below w.heap.size w w' := by
 have hu25 := Tryd.underlying25
 have HB := Aside0.mk (Below.refl w.heap.size w)
 have H : ((fold_Check.f k a0 a1).bind fun t205 => (if t205 = 0 then ((fold_Lines.f k a0 a1).bind fun t206 => (fold_Fold.l0 k t206 t206 (t206.length : Int) 0)) else (some (([] : List ByteArray), t205, (-1))))) = some (r1, r2, r3) := h
 clear h
 replace H := Option.bind_eq_some_iff.mp H
 obtain ⟨t205, A30, H⟩ := H
 replace H : (if t205 = 0 then ((fold_Lines.f k a0 a1).bind fun t206 => (fold_Fold.l0 k t206 t206 (t206.length : Int) 0)) else (some (([] : List ByteArray), t205, (-1)))) = some (r1, r2, r3) := H
 have A3 := Aside0.mk A30
 clear A30
 by_cases c4 : t205 = 0
 ·
  rw [if_pos c4] at H
  have c4b0 : (t205 == 0) = true := beq_iff_eq.mpr c4
  have c4b1 : (t205 != 0) = false := bne_eq_false_iff_eq.mpr c4
  clear c4
  replace H := Option.bind_eq_some_iff.mp H
  obtain ⟨t206, A50, H⟩ := H
  replace H : (fold_Fold.l0 k t206 t206 (t206.length : Int) 0) = some (r1, r2, r3) := H
  have A5 := Aside0.mk A50
  clear A50
  have H' := Aside0.mk H
  clear H
  go_enter Tryd.func135, Tryd.ntmps135
  go_wp2_with (first | ((with_reducible refine gate_dst (N := 5) rfl ?_); refine box_event ?hg (N := 5) ?hd (cs := #[.int .i64 0, .int .i64 0]) (t := 25) ?hr ?_; (case hd => rfl); (case hg => rfl); (case hr => first | (go_simp; done) | (go_simp; rfl)); intro gb204 hg w6 hbox hb; have n0_ := Aside0.mk (below_step (pb_ HB.out) hb); have n1_ := Aside0.mk (hbox); have n2_ := Aside0.mk ((by rw [hg]; exact (below_size (pb_ HB.out)) : w.heap.size ≤ gb204)); have n3_ := Aside0.mk ((by rw [hg]; exact (below_size (pb_ HB.out)) : w.heap.size ≤ gb204)); clear HB; have HB := n0_; have BK204 := n1_; have GW204 := n2_; have GE204 := n3_; clear n0_ n1_ n2_ n3_; clear hb hbox hg) | ((with_reducible refine gate_callee (f := 155) rfl ?_); refine goesL_ (some 12) rfl rfl Tryd.func155 (by kernel_rfl) rfl #[.string a0, .string a1] rfl ls_ ?_; (with_reducible refine (fold_Check.calls k a0 a1 t205 _ A3.out).mono ?_); rintro e w7 ⟨rfl, hb⟩; refine ⟨_, rfl, ?_⟩; have n0_ := Aside0.mk (blk_below (g := gb204) (o := .cells #[.int .i64 0, .int .i64 0] 25 (0, 0)) (pk_ BK204.out) hb); have n1_ := Aside0.mk (below_step (pb1_ HB.out GE204.out) hb); clear BK204; clear HB; have BK204 := n0_; have HB := n1_; clear n0_ n1_; (try clear hb); (try clear hb2); (try clear hk); (try clear hi)) | ((with_reducible refine gate_callee (f := 136) rfl ?_); refine goesL_ (some 19) rfl rfl Tryd.func136 (by kernel_rfl) rfl #[.string a0, .string a1] rfl ls_ ?_; (with_reducible refine (fold_Lines.calls k a0 a1 t206 _ A5.out).mono ?_); rintro e w8 ⟨v207, rfl, ho0, hb⟩; refine ⟨_, rfl, ?_⟩; have n0_ := Aside0.mk (Kd.R_lower ho0 (below_size (pb1_ HB.out GE204.out))); have n1_ := Aside0.mk (blk_below (g := gb204) (o := .cells #[.int .i64 0, .int .i64 0] 25 (0, 0)) (pk_ BK204.out) hb); have n2_ := Aside0.mk (below_step (pb1_ HB.out GE204.out) hb); clear BK204; clear HB; have HO208 := n0_; have BK204 := n1_; have HB := n2_; clear n0_ n1_ n2_; (try clear hb); (try clear hb2); (try clear hk); (try clear hi); (try clear ho0); obtain ⟨Ao9, co9, eo9⟩ := Kd.R_slice HO208.out; subst eo9))
  go_loopg [22] k (fun kq v22 w' => ∃ (x22_1 : Int) (x205000_1 : Int) (x205001_1 : Int), v22 = .int .i64 x22_1 ∧ Aside0 (fold_Fold.l0 kq t206 t206 (t206.length : Int) x22_1 = some (r1, r2, r3)) ∧ Aside0 (kq ≤ k) ∧ Aside0 (Kd.R Kd.string 9 w' w.heap.size (fun _ => True) (.slice Ao9 t206.length co9) t206) ∧ Aside0 (Kd.R Kd.string 9 w' w.heap.size (fun _ => True) (.slice Ao9 t206.length co9) t206) ∧ Aside0 (w'.heap[gb204]? = some (.cells #[.int .i64 x205000_1, .int .i64 x205001_1] 25 (0, 0))) ∧ Aside0 (Below w.heap.size w w'))
  case atStart => exact ⟨(0), (0), (0), rs_, H', ⟨Nat.le_refl _⟩, ⟨by (with_reducible repeat (first | apply Kd.R_alloc | apply Kd.R_drewN | apply Kd.R_drew)); exact HO208.out⟩, ⟨by (with_reducible repeat (first | apply Kd.R_alloc | apply Kd.R_drewN | apply Kd.R_drew)); exact HO208.out⟩, ⟨by (with_reducible repeat (first | refine blk_drewN ?_ _ | refine blk_drew ?_ | refine blk_alloc ?_ _)); exact BK204.out⟩, ⟨by repeat (first | (with_reducible first | exact HB.out | apply below_alloc | apply pw_below_drewN | apply below_drew1 | refine below_set ?_ GE204.out) | exact HB.out)⟩⟩
  case round =>
   clear H'
   try clear c1
   try clear p2
   try clear c4
   try clear c4b0
   try clear c4b1
   obtain ⟨x22_1, x205000_1, x205001_1, rfl, HA, HK1, HO_7, HO_20, BK204, HB⟩ := hrel
   cases gk with
   | zero => exact absurd HA.out (by simp [fold_Fold.l0])
   | succ k1 =>
    have H := HA.out
    clear HA
    simp only [fold_Fold.l0] at H
    by_cases c10 : x22_1 < (t206.length : Int)
    ·
     rw [if_pos c10] at H
     have c10b0 : decide (x22_1 < (t206.length : Int)) = true := decide_eq_true c10
     clear c10
     by_cases c11 : 0 ≤ x22_1
     ·
      rw [if_pos c11] at H
      have c11b0 : decide (0 ≤ x22_1) = true := decide_eq_true c11
      clear c11
      by_cases c12 : x22_1 < (t206.length : Int)
      ·
       rw [if_pos c12] at H
       have c12b0 : decide (x22_1 < (t206.length : Int)) = true := decide_eq_true c12
       clear c12
       by_cases c13 : ((rdOf ByteArray.empty t206 x22_1).size : Int) > 998
       ·
        rw [if_pos c13] at H
        have c13b0 : decide (998 < ((rdOf ByteArray.empty t206 x22_1).size : Int)) = true := decide_eq_true c13
        have c13b1 : decide (998 < (rdOf ByteArray.empty t206 x22_1).size) = true := decide_eq_true (by omega)
        clear c13
        simp only [Option.some.injEq, Prod.mk.injEq] at H
        obtain ⟨rfl, rfl, rfl⟩ := H
        have p209 : 0 ≤ (x22_1 : Int) := of_decide_eq_true as_
        have q209 : x22_1 < (t206.length : Int) := of_decide_eq_true as_
        obtain ⟨ad209, e209, hx209_0⟩ := Kd.at_string (Kd.R_reads' HO_20.out).2.2 x22_1 p209 q209
        cases e209
        replace p209 := eq_true p209
        replace q209 := eq_true q209
        have hcz14_0 : wr.cell? ⟨gb204, 0, none⟩ = some (.int .i64 x205000_1) := (blk_cell BK204.out 0).trans rfl
        have hcz14_1 : wr.cell? ⟨gb204, 1, none⟩ = some (.int .i64 x205001_1) := (blk_cell BK204.out 1).trans rfl
        have hfz14_0 := blk_frozen BK204.out 0
        have hfz14_1 := blk_frozen BK204.out 1
        go_wp2
        refine bodyPost_ret (results_tc rfl _ _ gb204 25 #[.int .i64 1, .int .i64 x22_1] (0, 0) _ rfl (by (with_reducible repeat (first | refine blk_drewN ?_ _ | refine blk_drew ?_ | refine blk_alloc ?_ _)); refine blk_put (cs := #[.int .i64 1, .int .i64 x205001_1]) ?_ 1 _ rfl; (with_reducible repeat (first | refine blk_drewN ?_ _ | refine blk_drew ?_ | refine blk_alloc ?_ _)); refine blk_put (cs := #[.int .i64 x205000_1, .int .i64 x205001_1]) ?_ 0 _ rfl; (with_reducible repeat (first | refine blk_drewN ?_ _ | refine blk_drew ?_ | refine blk_alloc ?_ _)); exact BK204.out) Tryd.underlying25 rfl (by kernel_rfl)) rfl ?_
        exact ⟨_, by first | rfl | (simp [errW_none, errW_some] <;> rfl) | (simp [*, errW_none, errW_some] <;> rfl), by first | exact Kd.R_nil _ _ _ _ _ | exact Kd.N_nil _ _ _ _ _ | exact Kd.V_nil _ _ _ _ _ | exact Kd.Q_nil _ _ _ _ _ | exact Kd.S_nil _ _ _ _ _, by repeat (first | (with_reducible first | exact HB.out | apply below_alloc | apply pw_below_drewN | apply below_drew1 | refine below_set ?_ GE204.out) | exact HB.out)⟩
       ·
        rw [if_neg c13] at H
        have c13b0 : decide (998 < ((rdOf ByteArray.empty t206 x22_1).size : Int)) = false := decide_eq_false c13
        have c13b1 : decide (998 < (rdOf ByteArray.empty t206 x22_1).size) = false := decide_eq_false (by omega)
        clear c13
        have H' := Aside0.mk H
        clear H
        have p209 : 0 ≤ (x22_1 : Int) := of_decide_eq_true as_
        have q209 : x22_1 < (t206.length : Int) := of_decide_eq_true as_
        obtain ⟨ad209, e209, hx209_0⟩ := Kd.at_string (Kd.R_reads' HO_20.out).2.2 x22_1 p209 q209
        cases e209
        replace p209 := eq_true p209
        replace q209 := eq_true q209
        go_wp2
        go_roundg k1
        case measure => have := HK1.out; omega
        case rel => exact ⟨(wrap64 (x22_1 + 1)), (x205000_1), (x205001_1), rs_, H', ⟨by have := HK1.out; omega⟩, ⟨by (with_reducible repeat (first | apply Kd.R_alloc | apply Kd.R_drewN | apply Kd.R_drew)); exact HO_7.out⟩, ⟨by (with_reducible repeat (first | apply Kd.R_alloc | apply Kd.R_drewN | apply Kd.R_drew)); exact HO_20.out⟩, ⟨by (with_reducible repeat (first | refine blk_drewN ?_ _ | refine blk_drew ?_ | refine blk_alloc ?_ _)); exact BK204.out⟩, ⟨by repeat (first | (with_reducible first | exact HB.out | apply below_alloc | apply pw_below_drewN | apply below_drew1 | refine below_set ?_ GE204.out) | exact HB.out)⟩⟩
      ·
       rw [if_neg c12] at H
       exact absurd H (by simp)
     ·
      rw [if_neg c11] at H
      exact absurd H (by simp)
    ·
     rw [if_neg c10] at H
     have c10b0 : decide (x22_1 < (t206.length : Int)) = false := decide_eq_false c10
     clear c10
     simp only [Option.some.injEq, Prod.mk.injEq] at H
     obtain ⟨rfl, rfl, rfl⟩ := H
     have hcz15_0 : wr.cell? ⟨gb204, 0, none⟩ = some (.int .i64 x205000_1) := (blk_cell BK204.out 0).trans rfl
     have hcz15_1 : wr.cell? ⟨gb204, 1, none⟩ = some (.int .i64 x205001_1) := (blk_cell BK204.out 1).trans rfl
     have hfz15_0 := blk_frozen BK204.out 0
     have hfz15_1 := blk_frozen BK204.out 1
     go_wp2
     refine bodyPost_ret (results_tc rfl _ _ gb204 25 #[.int .i64 0, .int .i64 0] (0, 0) _ rfl (by (with_reducible repeat (first | refine blk_drewN ?_ _ | refine blk_drew ?_ | refine blk_alloc ?_ _)); refine blk_put (cs := #[.int .i64 0, .int .i64 x205001_1]) ?_ 1 _ rfl; (with_reducible repeat (first | refine blk_drewN ?_ _ | refine blk_drew ?_ | refine blk_alloc ?_ _)); refine blk_put (cs := #[.int .i64 x205000_1, .int .i64 x205001_1]) ?_ 0 _ rfl; (with_reducible repeat (first | refine blk_drewN ?_ _ | refine blk_drew ?_ | refine blk_alloc ?_ _)); exact BK204.out) Tryd.underlying25 rfl (by kernel_rfl)) rfl ?_
     exact ⟨_, by first | rfl | (simp [errW_none, errW_some] <;> rfl) | (simp [*, errW_none, errW_some] <;> rfl), by (with_reducible repeat (first | apply Kd.R_alloc | apply Kd.R_drewN | apply Kd.R_drew)); exact Kd.R_mono (Kd.R_far (p := ⟨gb204, 1, none⟩) (Kd.R_far (p := ⟨gb204, 0, none⟩) (Kd.R_types HO_7.out BK204.out (by decide)) (fun _ hk => hk.2) (.int .i64 0)) (fun _ hk => hk.2) (.int .i64 0)) (fun _ hk => trivial), by repeat (first | (with_reducible first | exact HB.out | apply below_alloc | apply pw_below_drewN | apply below_drew1 | refine below_set ?_ GE204.out) | exact HB.out)⟩
 ·
  rw [if_neg c4] at H
  have c4b0 : (t205 == 0) = false := beq_eq_false_iff_ne.mpr c4
  have c4b1 : (t205 != 0) = true := bne_iff_ne.mpr c4
  simp only [Option.some.injEq, Prod.mk.injEq] at H
  obtain ⟨rfl, rfl, rfl⟩ := H
  go_enter Tryd.func135, Tryd.ntmps135
  go_wp2_with (first | ((with_reducible refine gate_dst (N := 5) rfl ?_); refine box_event ?hg (N := 5) ?hd (cs := #[.int .i64 0, .int .i64 0]) (t := 25) ?hr ?_; (case hd => rfl); (case hg => rfl); (case hr => first | (go_simp; done) | (go_simp; rfl)); intro gb204 hg w16 hbox hb; have n0_ := Aside0.mk (below_step (pb_ HB.out) hb); have n1_ := Aside0.mk (hbox); have n2_ := Aside0.mk ((by rw [hg]; exact (below_size (pb_ HB.out)) : w.heap.size ≤ gb204)); have n3_ := Aside0.mk ((by rw [hg]; exact (below_size (pb_ HB.out)) : w.heap.size ≤ gb204)); clear HB; have HB := n0_; have BK204 := n1_; have GW204 := n2_; have GE204 := n3_; clear n0_ n1_ n2_ n3_; clear hb hbox hg) | ((with_reducible refine gate_callee (f := 155) rfl ?_); refine goesL_ (some 12) rfl rfl Tryd.func155 (by kernel_rfl) rfl #[.string a0, .string a1] rfl ls_ ?_; (with_reducible refine (fold_Check.calls k a0 a1 t205 _ A3.out).mono ?_); rintro e w17 ⟨rfl, hb⟩; refine ⟨_, rfl, ?_⟩; have n0_ := Aside0.mk (blk_below (g := gb204) (o := .cells #[.int .i64 0, .int .i64 0] 25 (0, 0)) (pk_ BK204.out) hb); have n1_ := Aside0.mk (below_step (pb1_ HB.out GE204.out) hb); clear BK204; clear HB; have BK204 := n0_; have HB := n1_; clear n0_ n1_; (try clear hb); (try clear hb2); (try clear hk); (try clear hi); have hcz18_0 : w17.cell? ⟨gb204, 0, none⟩ = some (.int .i64 0) := (blk_cell BK204.out 0).trans rfl; have hcz18_1 : w17.cell? ⟨gb204, 1, none⟩ = some (.int .i64 0) := (blk_cell BK204.out 1).trans rfl; have hfz18_0 := blk_frozen BK204.out 0; have hfz18_1 := blk_frozen BK204.out 1))
  refine bodyPost_ret (results_tc rfl _ _ gb204 25 #[.int .i64 t205, .int .i64 (-1)] (0, 0) _ rfl (by (with_reducible repeat (first | refine blk_drewN ?_ _ | refine blk_drew ?_ | refine blk_alloc ?_ _)); refine blk_put (cs := #[.int .i64 t205, .int .i64 0]) ?_ 1 _ rfl; (with_reducible repeat (first | refine blk_drewN ?_ _ | refine blk_drew ?_ | refine blk_alloc ?_ _)); refine blk_put (cs := #[.int .i64 0, .int .i64 0]) ?_ 0 _ rfl; (with_reducible repeat (first | refine blk_drewN ?_ _ | refine blk_drew ?_ | refine blk_alloc ?_ _)); exact BK204.out) Tryd.underlying25 rfl (by kernel_rfl)) rfl ?_
  exact ⟨_, by first | rfl | (simp [errW_none, errW_some] <;> rfl) | (simp [*, errW_none, errW_some] <;> rfl), by first | exact Kd.R_nil _ _ _ _ _ | exact Kd.N_nil _ _ _ _ _ | exact Kd.V_nil _ _ _ _ _ | exact Kd.Q_nil _ _ _ _ _ | exact Kd.S_nil _ _ _ _ _, by repeat (first | (with_reducible first | exact HB.out | apply below_alloc | apply pw_below_drewN | apply below_drew1 | refine below_set ?_ GE204.out) | exact HB.out)⟩

/-! ### header_Validate: function 117 -/
def header_Validate.l0 : Nat → List (S141) → Int → Int → Option (Int × Int)
 | 0, _, _, _ => none
 | k + 1, x11, x12, x13 => if x13 < x12 then (if 0 ≤ x13 then (if x13 < (x11.length : Int) then ((fold_Fold.f k ((rd_T141 x11 x13).f0) ((rd_T141 x11 x13).f1)).bind fun bt213 => (if (!(bt213.2.1 == 0) || (!(bt213.2.2 == 0))) = true then (some (bt213.2.1, x13)) else (header_Validate.l0 k x11 x12 (wrap64 (x13 + 1))))) else (none)) else (none)) else (some (0, 0))
def header_Validate.f (k : Nat) (l0 : List (S141)) : Option (Int × Int) := if (l0.length : Int) > 60 then (some (2, (-1))) else (header_Validate.l0 k l0 (l0.length : Int) 0)
theorem header_Validate.mono_l : ∀ k, (∀ y0 y1 y2, LeO (header_Validate.l0 k y0 y1 y2) (header_Validate.l0 (k + 1) y0 y1 y2))
 | 0 => fun _ _ _ r h => by simp [header_Validate.l0] at h
 | k + 1 => by
  have ih0 := header_Validate.mono_l k
  ·
   intro y0 y1 y2
   unfold header_Validate.l0
   repeat' first
   | (with_reducible exact ih0 _ _ _)
   | (with_reducible exact fold_Fold.mono _ _ _)
   | (with_reducible exact LeO.refl _)
   | (with_reducible exact LeO.none _)
   | (with_reducible refine LeO.ite ?_ ?_)
   | (with_reducible refine LeO.bind ?_ (fun _ => ?_))
   | exact ih0 _ _ _
   | exact fold_Fold.mono _ _ _
   | exact LeO.none _
   | refine LeO.ite ?_ ?_
   | refine LeO.bind ?_ (fun _ => ?_)
theorem header_Validate.mono : ∀ a0 k, LeO (header_Validate.f k a0) (header_Validate.f (k + 1) a0) := by
 intro a0 k
 have ih0 := header_Validate.mono_l k
 unfold header_Validate.f
 repeat' first
   | (with_reducible exact ih0 _ _ _)
   | (with_reducible exact fold_Fold.mono _ _ _)
   | (with_reducible exact LeO.refl _)
   | (with_reducible exact LeO.none _)
   | (with_reducible refine LeO.ite ?_ ?_)
   | (with_reducible refine LeO.bind ?_ (fun _ => ?_))
   | exact ih0 _ _ _
   | exact fold_Fold.mono _ _ _
   | exact LeO.none _
   | refine LeO.ite ?_ ?_
   | refine LeO.bind ?_ (fun _ => ?_)
set_option maxHeartbeats 8000000 in
set_option maxRecDepth 100000 in
theorem header_Validate.calls (k : Nat) (A0 : Option Addr) (c0 : Nat) (l0 : List (S141)) (r1 : Int) (r2 : Int) (w : World) (hr0 : Kd.C k141 w A0 l0.length l0) (hc0 : l0.length ≤ c0) (h : header_Validate.f k l0 = some (r1, r2)) :
  Calls Tryd.prog 117 #[.slice A0 l0.length c0] w fun e w' => e = .returned (.agg #[.int .i64 r1, .int .i64 r2]) ∧ Below w.heap.size w w' := by
 have hu25 := Tryd.underlying25
 have hu141 := Tryd.underlying141
 have HR0 := Aside0.mk hr0
 have HC0 := Aside0.mk hc0
 clear hr0 hc0
 have HB := Aside0.mk (Below.refl w.heap.size w)
 have H : (if (l0.length : Int) > 60 then (some (2, (-1))) else (header_Validate.l0 k l0 (l0.length : Int) 0)) = some (r1, r2) := h
 clear h
 by_cases c2 : (l0.length : Int) > 60
 ·
  rw [if_pos c2] at H
  have c2b0 : decide (60 < (l0.length : Int)) = true := decide_eq_true c2
  have c2b1 : decide (60 < l0.length) = true := decide_eq_true (by omega)
  clear c2
  simp only [Option.some.injEq, Prod.mk.injEq] at H
  obtain ⟨rfl, rfl⟩ := H
  go_enter Tryd.func117, Tryd.ntmps117
  go_wp2_with (first | ((with_reducible refine gate_dst (N := 2) rfl ?_); refine box_event ?hg (N := 2) ?hd (cs := #[.int .i64 0, .int .i64 0]) (t := 25) ?hr ?_; (case hd => rfl); (case hg => rfl); (case hr => first | (go_simp; done) | (go_simp; rfl)); intro gb210 hg w3 hbox hb; have n0_ := Aside0.mk (below_step (pb_ HB.out) hb); have n1_ := Aside0.mk (hbox); have n2_ := Aside0.mk ((by rw [hg]; exact (below_size (pb_ HB.out)) : w.heap.size ≤ gb210)); have n3_ := Aside0.mk ((by rw [hg]; exact (below_size (pb_ HB.out)) : w.heap.size ≤ gb210)); clear HB; have HB := n0_; have BK210 := n1_; have GW210 := n2_; have GE210 := n3_; clear n0_ n1_ n2_ n3_; clear hb hbox hg; have hcz4_0 : w3.cell? ⟨gb210, 0, none⟩ = some (.int .i64 0) := (blk_cell BK210.out 0).trans rfl; have hcz4_1 : w3.cell? ⟨gb210, 1, none⟩ = some (.int .i64 0) := (blk_cell BK210.out 1).trans rfl; have hfz4_0 := blk_frozen BK210.out 0; have hfz4_1 := blk_frozen BK210.out 1))
  refine bodyPost_ret (results_cell_row rfl _ _ gb210 25 #[.int .i64 2, .int .i64 (-1)] (0, 0) _ rfl (by (with_reducible repeat (first | refine blk_drewN ?_ _ | refine blk_drew ?_ | refine blk_alloc ?_ _)); refine blk_put (cs := #[.int .i64 2, .int .i64 0]) ?_ 1 _ rfl; (with_reducible repeat (first | refine blk_drewN ?_ _ | refine blk_drew ?_ | refine blk_alloc ?_ _)); refine blk_put (cs := #[.int .i64 0, .int .i64 0]) ?_ 0 _ rfl; (with_reducible repeat (first | refine blk_drewN ?_ _ | refine blk_drew ?_ | refine blk_alloc ?_ _)); exact BK210.out) Tryd.underlying25 rfl (by kernel_rfl)) rfl ?_
  exact ⟨by first | rfl | (simp [errW_none, errW_some] <;> rfl) | (simp [*, errW_none, errW_some] <;> rfl), by repeat (first | (with_reducible first | exact HB.out | apply below_alloc | apply pw_below_drewN | apply below_drew1 | refine below_set ?_ GE210.out) | exact HB.out)⟩
 ·
  rw [if_neg c2] at H
  have c2b0 : decide (60 < (l0.length : Int)) = false := decide_eq_false c2
  have c2b1 : decide (60 < l0.length) = false := decide_eq_false (by omega)
  clear c2
  have H' := Aside0.mk H
  clear H
  go_enter Tryd.func117, Tryd.ntmps117
  go_wp2_with (first | ((with_reducible refine gate_dst (N := 2) rfl ?_); refine box_event ?hg (N := 2) ?hd (cs := #[.int .i64 0, .int .i64 0]) (t := 25) ?hr ?_; (case hd => rfl); (case hg => rfl); (case hr => first | (go_simp; done) | (go_simp; rfl)); intro gb210 hg w5 hbox hb; have n0_ := Aside0.mk (below_step (pb_ HB.out) hb); have n1_ := Aside0.mk (hbox); have n2_ := Aside0.mk ((by rw [hg]; exact (below_size (pb_ HB.out)) : w.heap.size ≤ gb210)); have n3_ := Aside0.mk ((by rw [hg]; exact (below_size (pb_ HB.out)) : w.heap.size ≤ gb210)); clear HB; have HB := n0_; have BK210 := n1_; have GW210 := n2_; have GE210 := n3_; clear n0_ n1_ n2_ n3_; clear hb hbox hg))
  go_loopg [13] k (fun kq v13 w' => ∃ (x13_1 : Int) (x211000_1 : Int) (x211001_1 : Int), v13 = .int .i64 x13_1 ∧ Aside0 (header_Validate.l0 kq l0 (l0.length : Int) x13_1 = some (r1, r2)) ∧ Aside0 (kq ≤ k) ∧ Aside0 (w'.heap[gb210]? = some (.cells #[.int .i64 x211000_1, .int .i64 x211001_1] 25 (0, 0))) ∧ Aside0 (Below w.heap.size w w'))
  case atStart => exact ⟨(0), (0), (0), rs_, H', ⟨Nat.le_refl _⟩, ⟨by (with_reducible repeat (first | refine blk_drewN ?_ _ | refine blk_drew ?_ | refine blk_alloc ?_ _)); exact BK210.out⟩, ⟨by repeat (first | (with_reducible first | exact HB.out | apply below_alloc | apply pw_below_drewN | apply below_drew1 | refine below_set ?_ GE210.out) | exact HB.out)⟩⟩
  case round =>
   clear H'
   try clear c1
   try clear c2
   try clear c2b0
   try clear c2b1
   try clear p2
   try clear hcz4_0
   try clear hcz4_1
   try clear hfz4_0
   try clear hfz4_1
   obtain ⟨x13_1, x211000_1, x211001_1, rfl, HA, HK1, BK210, HB⟩ := hrel
   cases gk with
   | zero => exact absurd HA.out (by simp [header_Validate.l0])
   | succ k1 =>
    have H := HA.out
    clear HA
    simp only [header_Validate.l0] at H
    by_cases c6 : x13_1 < (l0.length : Int)
    ·
     rw [if_pos c6] at H
     have c6b0 : decide (x13_1 < (l0.length : Int)) = true := decide_eq_true c6
     clear c6
     by_cases c7 : 0 ≤ x13_1
     ·
      rw [if_pos c7] at H
      have c7b0 : decide (0 ≤ x13_1) = true := decide_eq_true c7
      clear c7
      by_cases c8 : x13_1 < (l0.length : Int)
      ·
       rw [if_pos c8] at H
       have c8b0 : decide (x13_1 < (l0.length : Int)) = true := decide_eq_true c8
       clear c8
       replace H := Option.bind_eq_some_iff.mp H
       obtain ⟨⟨t213, t216, t217⟩, A90, H⟩ := H
       replace H : (if (!(t216 == 0) || (!(t217 == 0))) = true then (some (t216, x13_1)) else (header_Validate.l0 k1 l0 (l0.length : Int) (wrap64 (x13_1 + 1)))) = some (r1, r2) := H
       have A9 := Aside0.mk A90
       clear A90
       by_cases c10 : (!(t216 == 0) || (!(t217 == 0))) = true
       ·
        rw [if_pos c10] at H
        have c10b0 : (!(t216 == 0) || (!(t217 == 0))) = true := c10
        clear c10
        simp only [Option.some.injEq, Prod.mk.injEq] at H
        obtain ⟨rfl, rfl⟩ := H
        have p211 : 0 ≤ (x13_1 : Int) := of_decide_eq_true as_
        have q211 : x13_1 < (l0.length : Int) := of_decide_eq_true as_
        obtain ⟨ad211, e211, hx211_0, hx211_1⟩ := at_T141 HR0.out x13_1 p211 q211
        cases e211
        replace hx211_0 := (HB.out.cell (World.block_lt_of_cell? w _ hx211_0)).trans hx211_0
        replace hx211_1 := (HB.out.cell (World.block_lt_of_cell? w _ hx211_1)).trans hx211_1
        replace p211 := eq_true p211
        replace q211 := eq_true q211
        go_wp2_with (first | ((with_reducible refine gate_dst (N := 4) rfl ?_); refine box_event ?hg (N := 4) ?hd (cs := #[.string (⟨#[]⟩ : ByteArray), .string (⟨#[]⟩ : ByteArray)]) (t := 141) ?hr ?_; (case hd => rfl); (case hg => rfl); (case hr => first | (go_simp; done) | (go_simp; rfl)); intro gb212 hg w11 hbox hb; have n0_ := Aside0.mk (blk_below (g := gb210) (o := .cells #[.int .i64 x211000_1, .int .i64 x211001_1] 25 (0, 0)) (pk_ BK210.out) hb); have n1_ := Aside0.mk (below_step (pb1_ HB.out GE210.out) hb); have n2_ := Aside0.mk (hbox); have n3_ := Aside0.mk ((by rw [hg]; exact (below_size (pb1_ HB.out GE210.out)) : w.heap.size ≤ gb212)); have n4_ := Aside0.mk ((by rw [hg]; exact (below_size (pb1_ HB.out GE210.out)) : w.heap.size ≤ gb212)); have n5_ := Aside0.mk ((by rw [hg]; exact Nat.ne_of_lt (blk_lt (g := gb210) (o := .cells #[.int .i64 x211000_1, .int .i64 x211001_1] 25 (0, 0)) (pk_ BK210.out)) : gb210 ≠ gb212)); have n6_ := Aside0.mk ((by rw [hg]; exact Nat.ne_of_gt (blk_lt (g := gb210) (o := .cells #[.int .i64 x211000_1, .int .i64 x211001_1] 25 (0, 0)) (pk_ BK210.out)) : gb212 ≠ gb210)); clear BK210; clear HB; have BK210 := n0_; have HB := n1_; have BK212 := n2_; have GW212 := n3_; have GE212 := n4_; have NB210_212 := n5_; have NB212_210 := n6_; clear n0_ n1_ n2_ n3_ n4_ n5_ n6_; clear hb hbox hg; have hnb12 := NB212_210.out; have hnc12 := NB210_212.out; have hcz13_0 : w11.cell? ⟨gb212, 0, none⟩ = some (.string (⟨#[]⟩ : ByteArray)) := (blk_cell BK212.out 0).trans rfl; have hcz13_1 : w11.cell? ⟨gb212, 1, none⟩ = some (.string (⟨#[]⟩ : ByteArray)) := (blk_cell BK212.out 1).trans rfl; have hfz13_0 := blk_frozen BK212.out 0; have hfz13_1 := blk_frozen BK212.out 1) | ((with_reducible refine gate_callee (f := 135) rfl ?_); refine goesL_ (some 23) rfl rfl Tryd.func135 (by kernel_rfl) rfl #[.string ((rd_T141 l0 x13_1).f0), .string ((rd_T141 l0 x13_1).f1)] rfl ls_ ?_; (with_reducible refine (fold_Fold.calls k1 ((rd_T141 l0 x13_1).f0) ((rd_T141 l0 x13_1).f1) t213 t216 t217 _ A9.out).mono ?_); rintro e w14 ⟨v214, rfl, ho0, hb⟩; refine ⟨_, rfl, ?_⟩; have n0_ := Aside0.mk (Kd.R_lower ho0 (below_size (pb2_ HB.out GE210.out GE212.out))); have n1_ := Aside0.mk (blk_below (g := gb210) (o := .cells #[.int .i64 x211000_1, .int .i64 x211001_1] 25 (0, 0)) (by (with_reducible repeat (first | refine blk_drewN ?_ _ | refine blk_drew ?_ | refine blk_alloc ?_ _)); refine blk_far ?_ NB210_212.out _; (with_reducible repeat (first | refine blk_drewN ?_ _ | refine blk_drew ?_ | refine blk_alloc ?_ _)); refine blk_far ?_ NB210_212.out _; (with_reducible repeat (first | refine blk_drewN ?_ _ | refine blk_drew ?_ | refine blk_alloc ?_ _)); exact BK210.out) hb); have n2_ := Aside0.mk (blk_below (g := gb212) (o := .cells #[.string ((rd_T141 l0 x13_1).f0), .string ((rd_T141 l0 x13_1).f1)] 141 (0, 0)) (by (with_reducible repeat (first | refine blk_drewN ?_ _ | refine blk_drew ?_ | refine blk_alloc ?_ _)); refine blk_put (cs := #[.string ((rd_T141 l0 x13_1).f0), .string (⟨#[]⟩ : ByteArray)]) ?_ 1 _ rfl; (with_reducible repeat (first | refine blk_drewN ?_ _ | refine blk_drew ?_ | refine blk_alloc ?_ _)); refine blk_put (cs := #[.string (⟨#[]⟩ : ByteArray), .string (⟨#[]⟩ : ByteArray)]) ?_ 0 _ rfl; (with_reducible repeat (first | refine blk_drewN ?_ _ | refine blk_drew ?_ | refine blk_alloc ?_ _)); exact BK212.out) hb); have n3_ := Aside0.mk (below_step (pb2_ HB.out GE210.out GE212.out) hb); clear BK210; clear BK212; clear HB; have HO215 := n0_; have BK210 := n1_; have BK212 := n2_; have HB := n3_; clear n0_ n1_ n2_ n3_; (try clear hb); (try clear hb2); (try clear hk); (try clear hi); (try clear ho0)) | ((with_reducible refine gate_dst (N := 6) rfl ?_); refine box_event ?hg (N := 6) ?hd (cs := #[.int .i64 0, .int .i64 0]) (t := 25) ?hr ?_; (case hd => rfl); (case hg => rfl); (case hr => first | (go_simp; done) | (go_simp; rfl)); intro gb218 hg w15 hbox hb; have n0_ := Aside0.mk (Kd.R_below (by (with_reducible repeat (first | apply Kd.R_alloc | apply Kd.R_drewN | apply Kd.R_drew)); exact HO215.out) hb); have n1_ := Aside0.mk (blk_below (g := gb210) (o := .cells #[.int .i64 x211000_1, .int .i64 x211001_1] 25 (0, 0)) (pk_ BK210.out) hb); have n2_ := Aside0.mk (blk_below (g := gb212) (o := .cells #[.string ((rd_T141 l0 x13_1).f0), .string ((rd_T141 l0 x13_1).f1)] 141 (0, 0)) (pk_ BK212.out) hb); have n3_ := Aside0.mk (below_step (pb2_ HB.out GE210.out GE212.out) hb); have n4_ := Aside0.mk (hbox); have n5_ := Aside0.mk ((by rw [hg]; exact (below_size (pb2_ HB.out GE210.out GE212.out)) : w.heap.size ≤ gb218)); have n6_ := Aside0.mk ((by rw [hg]; exact (below_size (pb2_ HB.out GE210.out GE212.out)) : w.heap.size ≤ gb218)); have n7_ := Aside0.mk ((by rw [hg]; exact Nat.ne_of_lt (blk_lt (g := gb210) (o := .cells #[.int .i64 x211000_1, .int .i64 x211001_1] 25 (0, 0)) (pk_ BK210.out)) : gb210 ≠ gb218)); have n8_ := Aside0.mk ((by rw [hg]; exact Nat.ne_of_gt (blk_lt (g := gb210) (o := .cells #[.int .i64 x211000_1, .int .i64 x211001_1] 25 (0, 0)) (pk_ BK210.out)) : gb218 ≠ gb210)); have n9_ := Aside0.mk ((by rw [hg]; exact Nat.ne_of_lt (blk_lt (g := gb212) (o := .cells #[.string ((rd_T141 l0 x13_1).f0), .string ((rd_T141 l0 x13_1).f1)] 141 (0, 0)) (pk_ BK212.out)) : gb212 ≠ gb218)); have n10_ := Aside0.mk ((by rw [hg]; exact Nat.ne_of_gt (blk_lt (g := gb212) (o := .cells #[.string ((rd_T141 l0 x13_1).f0), .string ((rd_T141 l0 x13_1).f1)] 141 (0, 0)) (pk_ BK212.out)) : gb218 ≠ gb212)); clear HO215; clear BK210; clear BK212; clear HB; have HO215 := n0_; have BK210 := n1_; have BK212 := n2_; have HB := n3_; have BK218 := n4_; have GW218 := n5_; have GE218 := n6_; have NB210_218 := n7_; have NB218_210 := n8_; have NB212_218 := n9_; have NB218_212 := n10_; clear n0_ n1_ n2_ n3_ n4_ n5_ n6_ n7_ n8_ n9_ n10_; clear hb hbox hg; have hnb16 := NB218_210.out; have hnc16 := NB210_218.out; have hnb17 := NB218_212.out; have hnc17 := NB212_218.out; have hcz18_0 : w15.cell? ⟨gb218, 0, none⟩ = some (.int .i64 0) := (blk_cell BK218.out 0).trans rfl; have hcz18_1 : w15.cell? ⟨gb218, 1, none⟩ = some (.int .i64 0) := (blk_cell BK218.out 1).trans rfl; have hfz18_0 := blk_frozen BK218.out 0; have hfz18_1 := blk_frozen BK218.out 1; have hcz19_0 : w15.cell? ⟨gb210, 0, none⟩ = some (.int .i64 x211000_1) := (blk_cell BK210.out 0).trans rfl; have hcz19_1 : w15.cell? ⟨gb210, 1, none⟩ = some (.int .i64 x211001_1) := (blk_cell BK210.out 1).trans rfl; have hfz19_0 := blk_frozen BK210.out 0; have hfz19_1 := blk_frozen BK210.out 1))
        refine bodyPost_ret (results_cell_row rfl _ _ gb210 25 #[.int .i64 t216, .int .i64 x13_1] (0, 0) _ rfl (by (with_reducible repeat (first | refine blk_drewN ?_ _ | refine blk_drew ?_ | refine blk_alloc ?_ _)); refine blk_put (cs := #[.int .i64 t216, .int .i64 x211001_1]) ?_ 1 _ rfl; (with_reducible repeat (first | refine blk_drewN ?_ _ | refine blk_drew ?_ | refine blk_alloc ?_ _)); refine blk_put (cs := #[.int .i64 x211000_1, .int .i64 x211001_1]) ?_ 0 _ rfl; (with_reducible repeat (first | refine blk_drewN ?_ _ | refine blk_drew ?_ | refine blk_alloc ?_ _)); refine blk_far ?_ NB210_218.out _; (with_reducible repeat (first | refine blk_drewN ?_ _ | refine blk_drew ?_ | refine blk_alloc ?_ _)); refine blk_far ?_ NB210_218.out _; (with_reducible repeat (first | refine blk_drewN ?_ _ | refine blk_drew ?_ | refine blk_alloc ?_ _)); exact BK210.out) Tryd.underlying25 rfl (by kernel_rfl)) rfl ?_
        exact ⟨by first | rfl | (simp [errW_none, errW_some] <;> rfl) | (simp [*, errW_none, errW_some] <;> rfl), by repeat (first | (with_reducible first | exact HB.out | apply below_alloc | apply pw_below_drewN | apply below_drew1 | refine below_set ?_ GE210.out | refine below_set ?_ GE212.out | refine below_set ?_ GE218.out) | exact HB.out)⟩
       ·
        rw [if_neg c10] at H
        have c10b0 : (!(t216 == 0) || (!(t217 == 0))) = false := by simpa using c10
        clear c10
        have H' := Aside0.mk H
        clear H
        have p211 : 0 ≤ (x13_1 : Int) := of_decide_eq_true as_
        have q211 : x13_1 < (l0.length : Int) := of_decide_eq_true as_
        obtain ⟨ad211, e211, hx211_0, hx211_1⟩ := at_T141 HR0.out x13_1 p211 q211
        cases e211
        replace hx211_0 := (HB.out.cell (World.block_lt_of_cell? w _ hx211_0)).trans hx211_0
        replace hx211_1 := (HB.out.cell (World.block_lt_of_cell? w _ hx211_1)).trans hx211_1
        replace p211 := eq_true p211
        replace q211 := eq_true q211
        go_wp2_with (first | ((with_reducible refine gate_dst (N := 4) rfl ?_); refine box_event ?hg (N := 4) ?hd (cs := #[.string (⟨#[]⟩ : ByteArray), .string (⟨#[]⟩ : ByteArray)]) (t := 141) ?hr ?_; (case hd => rfl); (case hg => rfl); (case hr => first | (go_simp; done) | (go_simp; rfl)); intro gb212 hg w20 hbox hb; have n0_ := Aside0.mk (blk_below (g := gb210) (o := .cells #[.int .i64 x211000_1, .int .i64 x211001_1] 25 (0, 0)) (pk_ BK210.out) hb); have n1_ := Aside0.mk (below_step (pb1_ HB.out GE210.out) hb); have n2_ := Aside0.mk (hbox); have n3_ := Aside0.mk ((by rw [hg]; exact (below_size (pb1_ HB.out GE210.out)) : w.heap.size ≤ gb212)); have n4_ := Aside0.mk ((by rw [hg]; exact (below_size (pb1_ HB.out GE210.out)) : w.heap.size ≤ gb212)); have n5_ := Aside0.mk ((by rw [hg]; exact Nat.ne_of_lt (blk_lt (g := gb210) (o := .cells #[.int .i64 x211000_1, .int .i64 x211001_1] 25 (0, 0)) (pk_ BK210.out)) : gb210 ≠ gb212)); have n6_ := Aside0.mk ((by rw [hg]; exact Nat.ne_of_gt (blk_lt (g := gb210) (o := .cells #[.int .i64 x211000_1, .int .i64 x211001_1] 25 (0, 0)) (pk_ BK210.out)) : gb212 ≠ gb210)); clear BK210; clear HB; have BK210 := n0_; have HB := n1_; have BK212 := n2_; have GW212 := n3_; have GE212 := n4_; have NB210_212 := n5_; have NB212_210 := n6_; clear n0_ n1_ n2_ n3_ n4_ n5_ n6_; clear hb hbox hg; have hnb21 := NB212_210.out; have hnc21 := NB210_212.out; have hcz22_0 : w20.cell? ⟨gb212, 0, none⟩ = some (.string (⟨#[]⟩ : ByteArray)) := (blk_cell BK212.out 0).trans rfl; have hcz22_1 : w20.cell? ⟨gb212, 1, none⟩ = some (.string (⟨#[]⟩ : ByteArray)) := (blk_cell BK212.out 1).trans rfl; have hfz22_0 := blk_frozen BK212.out 0; have hfz22_1 := blk_frozen BK212.out 1) | ((with_reducible refine gate_callee (f := 135) rfl ?_); refine goesL_ (some 23) rfl rfl Tryd.func135 (by kernel_rfl) rfl #[.string ((rd_T141 l0 x13_1).f0), .string ((rd_T141 l0 x13_1).f1)] rfl ls_ ?_; (with_reducible refine (fold_Fold.calls k1 ((rd_T141 l0 x13_1).f0) ((rd_T141 l0 x13_1).f1) t213 t216 t217 _ A9.out).mono ?_); rintro e w23 ⟨v214, rfl, ho0, hb⟩; refine ⟨_, rfl, ?_⟩; have n0_ := Aside0.mk (Kd.R_lower ho0 (below_size (pb2_ HB.out GE210.out GE212.out))); have n1_ := Aside0.mk (blk_below (g := gb210) (o := .cells #[.int .i64 x211000_1, .int .i64 x211001_1] 25 (0, 0)) (by (with_reducible repeat (first | refine blk_drewN ?_ _ | refine blk_drew ?_ | refine blk_alloc ?_ _)); refine blk_far ?_ NB210_212.out _; (with_reducible repeat (first | refine blk_drewN ?_ _ | refine blk_drew ?_ | refine blk_alloc ?_ _)); refine blk_far ?_ NB210_212.out _; (with_reducible repeat (first | refine blk_drewN ?_ _ | refine blk_drew ?_ | refine blk_alloc ?_ _)); exact BK210.out) hb); have n2_ := Aside0.mk (blk_below (g := gb212) (o := .cells #[.string ((rd_T141 l0 x13_1).f0), .string ((rd_T141 l0 x13_1).f1)] 141 (0, 0)) (by (with_reducible repeat (first | refine blk_drewN ?_ _ | refine blk_drew ?_ | refine blk_alloc ?_ _)); refine blk_put (cs := #[.string ((rd_T141 l0 x13_1).f0), .string (⟨#[]⟩ : ByteArray)]) ?_ 1 _ rfl; (with_reducible repeat (first | refine blk_drewN ?_ _ | refine blk_drew ?_ | refine blk_alloc ?_ _)); refine blk_put (cs := #[.string (⟨#[]⟩ : ByteArray), .string (⟨#[]⟩ : ByteArray)]) ?_ 0 _ rfl; (with_reducible repeat (first | refine blk_drewN ?_ _ | refine blk_drew ?_ | refine blk_alloc ?_ _)); exact BK212.out) hb); have n3_ := Aside0.mk (below_step (pb2_ HB.out GE210.out GE212.out) hb); clear BK210; clear BK212; clear HB; have HO215 := n0_; have BK210 := n1_; have BK212 := n2_; have HB := n3_; clear n0_ n1_ n2_ n3_; (try clear hb); (try clear hb2); (try clear hk); (try clear hi); (try clear ho0)) | ((with_reducible refine gate_dst (N := 6) rfl ?_); refine box_event ?hg (N := 6) ?hd (cs := #[.int .i64 0, .int .i64 0]) (t := 25) ?hr ?_; (case hd => rfl); (case hg => rfl); (case hr => first | (go_simp; done) | (go_simp; rfl)); intro gb218 hg w24 hbox hb; have n0_ := Aside0.mk (Kd.R_below (by (with_reducible repeat (first | apply Kd.R_alloc | apply Kd.R_drewN | apply Kd.R_drew)); exact HO215.out) hb); have n1_ := Aside0.mk (blk_below (g := gb210) (o := .cells #[.int .i64 x211000_1, .int .i64 x211001_1] 25 (0, 0)) (pk_ BK210.out) hb); have n2_ := Aside0.mk (blk_below (g := gb212) (o := .cells #[.string ((rd_T141 l0 x13_1).f0), .string ((rd_T141 l0 x13_1).f1)] 141 (0, 0)) (pk_ BK212.out) hb); have n3_ := Aside0.mk (below_step (pb2_ HB.out GE210.out GE212.out) hb); have n4_ := Aside0.mk (hbox); have n5_ := Aside0.mk ((by rw [hg]; exact (below_size (pb2_ HB.out GE210.out GE212.out)) : w.heap.size ≤ gb218)); have n6_ := Aside0.mk ((by rw [hg]; exact (below_size (pb2_ HB.out GE210.out GE212.out)) : w.heap.size ≤ gb218)); have n7_ := Aside0.mk ((by rw [hg]; exact Nat.ne_of_lt (blk_lt (g := gb210) (o := .cells #[.int .i64 x211000_1, .int .i64 x211001_1] 25 (0, 0)) (pk_ BK210.out)) : gb210 ≠ gb218)); have n8_ := Aside0.mk ((by rw [hg]; exact Nat.ne_of_gt (blk_lt (g := gb210) (o := .cells #[.int .i64 x211000_1, .int .i64 x211001_1] 25 (0, 0)) (pk_ BK210.out)) : gb218 ≠ gb210)); have n9_ := Aside0.mk ((by rw [hg]; exact Nat.ne_of_lt (blk_lt (g := gb212) (o := .cells #[.string ((rd_T141 l0 x13_1).f0), .string ((rd_T141 l0 x13_1).f1)] 141 (0, 0)) (pk_ BK212.out)) : gb212 ≠ gb218)); have n10_ := Aside0.mk ((by rw [hg]; exact Nat.ne_of_gt (blk_lt (g := gb212) (o := .cells #[.string ((rd_T141 l0 x13_1).f0), .string ((rd_T141 l0 x13_1).f1)] 141 (0, 0)) (pk_ BK212.out)) : gb218 ≠ gb212)); clear HO215; clear BK210; clear BK212; clear HB; have HO215 := n0_; have BK210 := n1_; have BK212 := n2_; have HB := n3_; have BK218 := n4_; have GW218 := n5_; have GE218 := n6_; have NB210_218 := n7_; have NB218_210 := n8_; have NB212_218 := n9_; have NB218_212 := n10_; clear n0_ n1_ n2_ n3_ n4_ n5_ n6_ n7_ n8_ n9_ n10_; clear hb hbox hg; have hnb25 := NB218_210.out; have hnc25 := NB210_218.out; have hnb26 := NB218_212.out; have hnc26 := NB212_218.out; have hcz27_0 : w24.cell? ⟨gb218, 0, none⟩ = some (.int .i64 0) := (blk_cell BK218.out 0).trans rfl; have hcz27_1 : w24.cell? ⟨gb218, 1, none⟩ = some (.int .i64 0) := (blk_cell BK218.out 1).trans rfl; have hfz27_0 := blk_frozen BK218.out 0; have hfz27_1 := blk_frozen BK218.out 1))
        go_roundg k1
        case measure => have := HK1.out; omega
        case rel => exact ⟨(wrap64 (x13_1 + 1)), (x211000_1), (x211001_1), rs_, H', ⟨by have := HK1.out; omega⟩, ⟨by (with_reducible repeat (first | refine blk_drewN ?_ _ | refine blk_drew ?_ | refine blk_alloc ?_ _)); refine blk_far ?_ NB210_218.out _; (with_reducible repeat (first | refine blk_drewN ?_ _ | refine blk_drew ?_ | refine blk_alloc ?_ _)); refine blk_far ?_ NB210_218.out _; (with_reducible repeat (first | refine blk_drewN ?_ _ | refine blk_drew ?_ | refine blk_alloc ?_ _)); exact BK210.out⟩, ⟨by repeat (first | (with_reducible first | exact HB.out | apply below_alloc | apply pw_below_drewN | apply below_drew1 | refine below_set ?_ GE210.out | refine below_set ?_ GE212.out | refine below_set ?_ GE218.out) | exact HB.out)⟩⟩
      ·
       rw [if_neg c8] at H
       exact absurd H (by simp)
     ·
      rw [if_neg c7] at H
      exact absurd H (by simp)
    ·
     rw [if_neg c6] at H
     have c6b0 : decide (x13_1 < (l0.length : Int)) = false := decide_eq_false c6
     clear c6
     simp only [Option.some.injEq, Prod.mk.injEq] at H
     obtain ⟨rfl, rfl⟩ := H
     have hcz28_0 : wr.cell? ⟨gb210, 0, none⟩ = some (.int .i64 x211000_1) := (blk_cell BK210.out 0).trans rfl
     have hcz28_1 : wr.cell? ⟨gb210, 1, none⟩ = some (.int .i64 x211001_1) := (blk_cell BK210.out 1).trans rfl
     have hfz28_0 := blk_frozen BK210.out 0
     have hfz28_1 := blk_frozen BK210.out 1
     go_wp2
     refine bodyPost_ret (results_cell_row rfl _ _ gb210 25 #[.int .i64 0, .int .i64 0] (0, 0) _ rfl (by (with_reducible repeat (first | refine blk_drewN ?_ _ | refine blk_drew ?_ | refine blk_alloc ?_ _)); refine blk_put (cs := #[.int .i64 0, .int .i64 x211001_1]) ?_ 1 _ rfl; (with_reducible repeat (first | refine blk_drewN ?_ _ | refine blk_drew ?_ | refine blk_alloc ?_ _)); refine blk_put (cs := #[.int .i64 x211000_1, .int .i64 x211001_1]) ?_ 0 _ rfl; (with_reducible repeat (first | refine blk_drewN ?_ _ | refine blk_drew ?_ | refine blk_alloc ?_ _)); exact BK210.out) Tryd.underlying25 rfl (by kernel_rfl)) rfl ?_
     exact ⟨by first | rfl | (simp [errW_none, errW_some] <;> rfl) | (simp [*, errW_none, errW_some] <;> rfl), by repeat (first | (with_reducible first | exact HB.out | apply below_alloc | apply pw_below_drewN | apply below_drew1 | refine below_set ?_ GE210.out) | exact HB.out)⟩

/-! ### header_Bytes: function 118 -/
mutual
def header_Bytes.l0 : Nat → List Int → List (S141) → Int → Int → Option (List Int)
 | 0, _, _, _, _ => none
 | k + 1, x3, x8, x9, x10 => if x10 < x9 then (if 0 ≤ x10 then (if x10 < (x8.length : Int) then ((fold_Lines.f k ((rd_T141 x8 x10).f0) ((rd_T141 x8 x10).f1)).bind fun t224 => (header_Bytes.l1 k x3 x8 x9 x10 t224 (t224.length : Int) 0)) else (none)) else (none)) else (if x3.length + 2 < 140737488355328 then (some (x3 ++ bytesOf (⟨#[13, 10]⟩ : ByteArray))) else (none))
def header_Bytes.l1 : Nat → List Int → List (S141) → Int → Int → List ByteArray → Int → Int → Option (List Int)
 | 0, _, _, _, _, _, _, _ => none
 | k + 1, x3, x8, x9, x10, x18, x19, x20 => if x20 < x19 then (if 0 ≤ x20 then (if x20 < (x18.length : Int) then (if x3.length + (rdOf ByteArray.empty x18 x20).size < 140737488355328 then ((some (x3 ++ bytesOf (rdOf ByteArray.empty x18 x20) : List Int)).bind fun y228 => (if y228.length + 2 < 140737488355328 then (header_Bytes.l1 k (y228 ++ bytesOf (⟨#[13, 10]⟩ : ByteArray)) x8 x9 x10 x18 x19 (wrap64 (x20 + 1))) else (none))) else (none)) else (none)) else (none)) else (header_Bytes.l0 k x3 x8 x9 (wrap64 (x10 + 1)))
end
def header_Bytes.f (k : Nat) (l0 : List (S141)) : Option (List Int) := header_Bytes.l0 k ([] : List Int) l0 (l0.length : Int) 0
theorem header_Bytes.mono_l : ∀ k, (∀ y0 y1 y2 y3, LeO (header_Bytes.l0 k y0 y1 y2 y3) (header_Bytes.l0 (k + 1) y0 y1 y2 y3)) ∧ (∀ y0 y1 y2 y3 y4 y5 y6, LeO (header_Bytes.l1 k y0 y1 y2 y3 y4 y5 y6) (header_Bytes.l1 (k + 1) y0 y1 y2 y3 y4 y5 y6))
 | 0 => ⟨fun _ _ _ _ r h => by simp [header_Bytes.l0] at h, fun _ _ _ _ _ _ _ r h => by simp [header_Bytes.l1] at h⟩
 | k + 1 => by
  obtain ⟨ih0, ih1⟩ := header_Bytes.mono_l k
  refine ⟨?_, ?_⟩
  ·
   intro y0 y1 y2 y3
   unfold header_Bytes.l0
   repeat' first
   | (with_reducible exact ih0 _ _ _ _)
   | (with_reducible exact ih1 _ _ _ _ _ _ _)
   | (with_reducible exact fold_Lines.mono _ _ _)
   | (with_reducible exact LeO.refl _)
   | (with_reducible exact LeO.none _)
   | (with_reducible refine LeO.ite ?_ ?_)
   | (with_reducible refine LeO.bind ?_ (fun _ => ?_))
   | exact ih0 _ _ _ _
   | exact ih1 _ _ _ _ _ _ _
   | exact fold_Lines.mono _ _ _
   | exact LeO.none _
   | refine LeO.ite ?_ ?_
   | refine LeO.bind ?_ (fun _ => ?_)
  ·
   intro y0 y1 y2 y3 y4 y5 y6
   unfold header_Bytes.l1
   repeat' first
   | (with_reducible exact ih0 _ _ _ _)
   | (with_reducible exact ih1 _ _ _ _ _ _ _)
   | (with_reducible exact fold_Lines.mono _ _ _)
   | (with_reducible exact LeO.refl _)
   | (with_reducible exact LeO.none _)
   | (with_reducible refine LeO.ite ?_ ?_)
   | (with_reducible refine LeO.bind ?_ (fun _ => ?_))
   | exact ih0 _ _ _ _
   | exact ih1 _ _ _ _ _ _ _
   | exact fold_Lines.mono _ _ _
   | exact LeO.none _
   | refine LeO.ite ?_ ?_
   | refine LeO.bind ?_ (fun _ => ?_)
theorem header_Bytes.mono : ∀ a0 k, LeO (header_Bytes.f k a0) (header_Bytes.f (k + 1) a0) := by
 intro a0 k
 obtain ⟨ih0, ih1⟩ := header_Bytes.mono_l k
 unfold header_Bytes.f
 repeat' first
   | (with_reducible exact ih0 _ _ _ _)
   | (with_reducible exact ih1 _ _ _ _ _ _ _)
   | (with_reducible exact fold_Lines.mono _ _ _)
   | (with_reducible exact LeO.refl _)
   | (with_reducible exact LeO.none _)
   | (with_reducible refine LeO.ite ?_ ?_)
   | (with_reducible refine LeO.bind ?_ (fun _ => ?_))
   | exact ih0 _ _ _ _
   | exact ih1 _ _ _ _ _ _ _
   | exact fold_Lines.mono _ _ _
   | exact LeO.none _
   | refine LeO.ite ?_ ?_
   | refine LeO.bind ?_ (fun _ => ?_)
set_option maxHeartbeats 8000000 in
set_option maxRecDepth 100000 in
theorem header_Bytes.calls (k : Nat) (A0 : Option Addr) (c0 : Nat) (l0 : List (S141)) (r : List Int) (w : World) (hr0 : Kd.C k141 w A0 l0.length l0) (hc0 : l0.length ≤ c0) (h : header_Bytes.f k l0 = some r) :
  Calls Tryd.prog 118 #[.slice A0 l0.length c0] w fun e w' => ∃ v0_ : Value, e = .returned (v0_) ∧ Kd.R (Kd.int .u8) 5 w' w.heap.size (fun _ => True) v0_ r ∧ Below w.heap.size w w' := by
 have hu141 := Tryd.underlying141
 have HR0 := Aside0.mk hr0
 have HC0 := Aside0.mk hc0
 clear hr0 hc0
 have HB := Aside0.mk (Below.refl w.heap.size w)
 have H : (header_Bytes.l0 k ([] : List Int) l0 (l0.length : Int) 0) = some r := h
 clear h
 have H' := Aside0.mk H
 clear H
 go_enter Tryd.func118, Tryd.ntmps118
 go_wp2
 go_loopg [3, 10] k (fun kq v3 v10 w' => ∃ (x3_1 : List Int) (x10_1 : Int), v10 = .int .i64 x10_1 ∧ Aside0 (header_Bytes.l0 kq x3_1 l0 (l0.length : Int) x10_1 = some r) ∧ Aside0 (kq ≤ k) ∧ Aside0 (Kd.R (Kd.int .u8) 5 w' w.heap.size (fun _ => True) v3 x3_1) ∧ Aside0 (Below w.heap.size w w'))
 case atStart => exact ⟨(([] : List Int)), (0), rs_, H', ⟨Nat.le_refl _⟩, ⟨by first | exact Kd.R_nil _ _ _ _ _ | exact Kd.N_nil _ _ _ _ _ | exact Kd.V_nil _ _ _ _ _ | exact Kd.Q_nil _ _ _ _ _ | exact Kd.S_nil _ _ _ _ _⟩, ⟨by repeat (first | (with_reducible first | exact HB.out | apply below_alloc | apply pw_below_drewN | apply below_drew1) | exact HB.out)⟩⟩
 case round =>
  clear H'
  try clear c1
  obtain ⟨x3_1, x10_1, rfl, HA, HK1, HO_3, HB⟩ := hrel
  cases gk with
  | zero => exact absurd HA.out (by simp [header_Bytes.l0])
  | succ k1 =>
   have H := HA.out
   clear HA
   simp only [header_Bytes.l0] at H
   by_cases c2 : x10_1 < (l0.length : Int)
   ·
    rw [if_pos c2] at H
    have c2b0 : decide (x10_1 < (l0.length : Int)) = true := decide_eq_true c2
    clear c2
    by_cases c3 : 0 ≤ x10_1
    ·
     rw [if_pos c3] at H
     have c3b0 : decide (0 ≤ x10_1) = true := decide_eq_true c3
     clear c3
     by_cases c4 : x10_1 < (l0.length : Int)
     ·
      rw [if_pos c4] at H
      have c4b0 : decide (x10_1 < (l0.length : Int)) = true := decide_eq_true c4
      clear c4
      replace H := Option.bind_eq_some_iff.mp H
      obtain ⟨t224, A50, H⟩ := H
      replace H : (header_Bytes.l1 k1 x3_1 l0 (l0.length : Int) x10_1 t224 (t224.length : Int) 0) = some r := H
      have A5 := Aside0.mk A50
      clear A50
      have H' := Aside0.mk H
      clear H
      have p222 : 0 ≤ (x10_1 : Int) := of_decide_eq_true as_
      have q222 : x10_1 < (l0.length : Int) := of_decide_eq_true as_
      obtain ⟨ad222, e222, hx222_0, hx222_1⟩ := at_T141 HR0.out x10_1 p222 q222
      cases e222
      replace hx222_0 := (HB.out.cell (World.block_lt_of_cell? w _ hx222_0)).trans hx222_0
      replace hx222_1 := (HB.out.cell (World.block_lt_of_cell? w _ hx222_1)).trans hx222_1
      replace p222 := eq_true p222
      replace q222 := eq_true q222
      go_wp2_with (first | ((with_reducible refine gate_dst (N := 5) rfl ?_); refine box_event ?hg (N := 5) ?hd (cs := #[.string (⟨#[]⟩ : ByteArray), .string (⟨#[]⟩ : ByteArray)]) (t := 141) ?hr ?_; (case hd => rfl); (case hg => rfl); (case hr => first | (go_simp; done) | (go_simp; rfl)); intro gb223 hg w6 hbox hb; have n0_ := Aside0.mk (Kd.R_below (by (with_reducible repeat (first | apply Kd.R_alloc | apply Kd.R_drewN | apply Kd.R_drew)); exact HO_3.out) hb); have n1_ := Aside0.mk (below_step (pb_ HB.out) hb); have n2_ := Aside0.mk (hbox); have n3_ := Aside0.mk ((by rw [hg]; exact (below_size (pb_ HB.out)) : w.heap.size ≤ gb223)); have n4_ := Aside0.mk ((by rw [hg]; exact (below_size (pb_ HB.out)) : w.heap.size ≤ gb223)); clear HO_3; clear HB; have HO_3 := n0_; have HB := n1_; have BK223 := n2_; have GW223 := n3_; have GE223 := n4_; clear n0_ n1_ n2_ n3_ n4_; clear hb hbox hg; have hcz7_0 : w6.cell? ⟨gb223, 0, none⟩ = some (.string (⟨#[]⟩ : ByteArray)) := (blk_cell BK223.out 0).trans rfl; have hcz7_1 : w6.cell? ⟨gb223, 1, none⟩ = some (.string (⟨#[]⟩ : ByteArray)) := (blk_cell BK223.out 1).trans rfl; have hfz7_0 := blk_frozen BK223.out 0; have hfz7_1 := blk_frozen BK223.out 1) | ((with_reducible refine gate_callee (f := 136) rfl ?_); refine goesL_ (some 18) rfl rfl Tryd.func136 (by kernel_rfl) rfl #[.string ((rd_T141 l0 x10_1).f0), .string ((rd_T141 l0 x10_1).f1)] rfl ls_ ?_; (with_reducible refine (fold_Lines.calls k1 ((rd_T141 l0 x10_1).f0) ((rd_T141 l0 x10_1).f1) t224 _ A5.out).mono ?_); rintro e w8 ⟨v225, rfl, ho0, hb⟩; refine ⟨_, rfl, ?_⟩; have n0_ := Aside0.mk (Kd.R_below (by (with_reducible repeat (first | apply Kd.R_alloc | apply Kd.R_drewN | apply Kd.R_drew)); exact (Kd.R_mono (Kd.R_far (p := ⟨gb223, 1, none⟩) (Kd.R_far (p := ⟨gb223, 0, none⟩) (Kd.R_types HO_3.out BK223.out (by decide)) (fun _ hk => hk.2) (.string ((rd_T141 l0 x10_1).f0))) (fun _ hk => hk.2) (.string ((rd_T141 l0 x10_1).f1))) (fun _ h_ => h_.1))) hb); have n1_ := Aside0.mk (Kd.R_lower ho0 (below_size (pb1_ HB.out GE223.out))); have n2_ := Aside0.mk (blk_below (g := gb223) (o := .cells #[.string ((rd_T141 l0 x10_1).f0), .string ((rd_T141 l0 x10_1).f1)] 141 (0, 0)) (by (with_reducible repeat (first | refine blk_drewN ?_ _ | refine blk_drew ?_ | refine blk_alloc ?_ _)); refine blk_put (cs := #[.string ((rd_T141 l0 x10_1).f0), .string (⟨#[]⟩ : ByteArray)]) ?_ 1 _ rfl; (with_reducible repeat (first | refine blk_drewN ?_ _ | refine blk_drew ?_ | refine blk_alloc ?_ _)); refine blk_put (cs := #[.string (⟨#[]⟩ : ByteArray), .string (⟨#[]⟩ : ByteArray)]) ?_ 0 _ rfl; (with_reducible repeat (first | refine blk_drewN ?_ _ | refine blk_drew ?_ | refine blk_alloc ?_ _)); exact BK223.out) hb); have n3_ := Aside0.mk (below_step (pb1_ HB.out GE223.out) hb); clear HO_3; clear BK223; clear HB; have HO_3 := n0_; have HO226 := n1_; have BK223 := n2_; have HB := n3_; clear n0_ n1_ n2_ n3_; (try clear hb); (try clear hb2); (try clear hk); (try clear hi); (try clear ho0); obtain ⟨Ao9, co9, eo9⟩ := Kd.R_slice HO226.out; subst eo9))
      go_loopg [3, 20] k1 (fun kq v3 v20 w' => ∃ (x3_2 : List Int) (x20_2 : Int), v20 = .int .i64 x20_2 ∧ Aside0 (header_Bytes.l1 kq x3_2 l0 (l0.length : Int) x10_1 t224 (t224.length : Int) x20_2 = some r) ∧ Aside0 (kq ≤ k1) ∧ Aside0 (Kd.R (Kd.int .u8) 5 w' w.heap.size (fun _ => True) v3 x3_2) ∧ Aside0 (Kd.R Kd.string 9 w' w.heap.size (fun _ => True) (.slice Ao9 t224.length co9) t224) ∧ Aside0 (w'.heap[gb223]? = some (.cells #[.string ((rd_T141 l0 x10_1).f0), .string ((rd_T141 l0 x10_1).f1)] 141 (0, 0))) ∧ Aside0 (Below w.heap.size w w'))
      case atStart => exact ⟨(x3_1), (0), rs_, H', ⟨Nat.le_refl _⟩, ⟨by (with_reducible repeat (first | apply Kd.R_alloc | apply Kd.R_drewN | apply Kd.R_drew)); exact HO_3.out⟩, ⟨by (with_reducible repeat (first | apply Kd.R_alloc | apply Kd.R_drewN | apply Kd.R_drew)); exact HO226.out⟩, ⟨by (with_reducible repeat (first | refine blk_drewN ?_ _ | refine blk_drew ?_ | refine blk_alloc ?_ _)); exact BK223.out⟩, ⟨by repeat (first | (with_reducible first | exact HB.out | apply below_alloc | apply pw_below_drewN | apply below_drew1 | refine below_set ?_ GE223.out) | exact HB.out)⟩⟩
      case round =>
       clear H'
       try clear c1
       try clear c2
       try clear c2b0
       try clear p2
       try clear q2
       try clear hx2
       try clear c3
       try clear c3b0
       try clear c4
       try clear c4b0
       try clear hcz7_0
       try clear hcz7_1
       try clear hfz7_0
       try clear hfz7_1
       try clear hx222_0
       try clear hx222_1
       try clear p222
       try clear q222
       obtain ⟨x3_2, x20_2, rfl, HA, HK2, HO_3, HO_18, BK223, HB⟩ := hrel
       cases gk with
       | zero => exact absurd HA.out (by simp [header_Bytes.l1])
       | succ k2 =>
        have H := HA.out
        clear HA
        simp only [header_Bytes.l1] at H
        by_cases c10 : x20_2 < (t224.length : Int)
        ·
         rw [if_pos c10] at H
         have c10b0 : decide (x20_2 < (t224.length : Int)) = true := decide_eq_true c10
         clear c10
         by_cases c11 : 0 ≤ x20_2
         ·
          rw [if_pos c11] at H
          have c11b0 : decide (0 ≤ x20_2) = true := decide_eq_true c11
          clear c11
          by_cases c12 : x20_2 < (t224.length : Int)
          ·
           rw [if_pos c12] at H
           have c12b0 : decide (x20_2 < (t224.length : Int)) = true := decide_eq_true c12
           clear c12
           by_cases c13 : x3_2.length + (rdOf ByteArray.empty t224 x20_2).size < 140737488355328
           ·
            rw [if_pos c13] at H
            have LMc13 := Aside0.mk c13
            clear c13
            obtain ⟨y228, hy228⟩ : ∃ y_ : List Int, y_ = (x3_2 ++ bytesOf (rdOf ByteArray.empty t224 x20_2)) := ⟨_, rfl⟩
            replace H : (if y228.length + 2 < 140737488355328 then (header_Bytes.l1 k2 (y228 ++ bytesOf (⟨#[13, 10]⟩ : ByteArray)) l0 (l0.length : Int) x10_1 t224 (t224.length : Int) (wrap64 (x20_2 + 1))) else (none)) = some r := by first | (rw [hy228]; with_reducible exact H) | (have H2_ := (Option.bind_some _ _).symm.trans H; rw [hy228]; with_reducible exact H2_) | (have H2_ := (Option.bind_some _ _).symm.trans H; with_reducible exact H2_) | with_reducible exact H | (rw [hy228]; exact H) | exact H
            have Ny228 := Aside0.mk hy228
            clear hy228
            by_cases c14 : y228.length + 2 < 140737488355328
            ·
             rw [if_pos c14] at H
             have LMc14 := Aside0.mk c14
             clear c14
             obtain ⟨y231, hy231⟩ : ∃ y_ : List Int, y_ = (y228 ++ bytesOf (⟨#[13, 10]⟩ : ByteArray)) := ⟨_, rfl⟩
             replace H : (header_Bytes.l1 k2 y231 l0 (l0.length : Int) x10_1 t224 (t224.length : Int) (wrap64 (x20_2 + 1))) = some r := by first | (rw [hy231]; with_reducible exact H) | (have H2_ := (Option.bind_some _ _).symm.trans H; rw [hy231]; with_reducible exact H2_) | (have H2_ := (Option.bind_some _ _).symm.trans H; with_reducible exact H2_) | with_reducible exact H | (rw [hy231]; exact H) | exact H
             have Ny231 := Aside0.mk hy231
             clear hy231
             have H' := Aside0.mk H
             clear H
             have p227 : 0 ≤ (x20_2 : Int) := of_decide_eq_true as_
             have q227 : x20_2 < (t224.length : Int) := of_decide_eq_true as_
             obtain ⟨ad227, e227, hx227_0⟩ := Kd.at_string (Kd.R_reads' HO_18.out).2.2 x20_2 p227 q227
             cases e227
             replace p227 := eq_true p227
             replace q227 := eq_true q227
             go_wp2_with (first | (at_builtin; refine print_append_str (w0 := w) w.heap.size rfl (.tmp 24) _ 82 9 5 rfl Tryd.underlying82 Tryd.underlying9 info5 u3 x3_2 (rdOf ByteArray.empty t224 x20_2) rfl rfl ?aO ?aB ?aS ?aL ?_; (case aB => exact (pb1_ HB.out GE223.out)); (case aO => exact (Kd.own_of_R (by (with_reducible repeat (first | apply Kd.R_alloc | apply Kd.R_drewN | apply Kd.R_drew)); exact HO_3.out))); (case aS => exact (below_size (pb1_ HB.out GE223.out))); (case aL => have := LMc13.out; (first | omega | exact Nat.le_of_lt this)); intro v229 w15 ho0 hb hg; have ho := Kd.R_of_own (h1 := fun _ => rfl) (ok := fun _ => True) ho0 (fun _ _ => trivial); clear ho0; have hat := True.intro; rw [← Ny228.out] at ho; change Kd.R (Kd.int .u8) 5 w15 w.heap.size (fun _ => True) v229 y228 at ho; have n0_ := Aside0.mk (Kd.R_over' (by (with_reducible repeat (first | apply Kd.R_alloc | apply Kd.R_drewN | apply Kd.R_drew)); exact HO_18.out) (Kd.R_typed (by (with_reducible repeat (first | apply Kd.R_alloc | apply Kd.R_drewN | apply Kd.R_drew)); exact HO_3.out)) (by decide) hg); have n1_ := Aside0.mk (blk_grown (g := gb223) (o := .cells #[.string ((rd_T141 l0 x10_1).f0), .string ((rd_T141 l0 x10_1).f1)] 141 (0, 0)) (pk_ BK223.out) hg (Kd.R_ne HO_3.out BK223.out (by decide))); have n2_ := Aside0.mk (hb); have n3_ := Aside0.mk (ho); clear HO_18; clear BK223; clear HB; clear HO_3; have HO_18 := n0_; have BK223 := n1_; have HB := n2_; have HO230 := n3_; clear n0_ n1_ n2_ n3_; clear ho hb hg hat) | (at_builtin; refine print_append_str (w0 := w) w.heap.size rfl (.tmp 26) _ 82 9 5 rfl Tryd.underlying82 Tryd.underlying9 info5 v229 y228 (⟨#[13, 10]⟩ : ByteArray) rfl rfl ?aO ?aB ?aS ?aL ?_; (case aB => exact (pb1_ HB.out GE223.out)); (case aO => exact (Kd.own_of_R (by (with_reducible repeat (first | apply Kd.R_alloc | apply Kd.R_drewN | apply Kd.R_drew)); exact HO230.out))); (case aS => exact (below_size (pb1_ HB.out GE223.out))); (case aL => have := LMc14.out; (first | omega | exact Nat.le_of_lt this)); intro v232 w16 ho0 hb hg; have ho := Kd.R_of_own (h1 := fun _ => rfl) (ok := fun _ => True) ho0 (fun _ _ => trivial); clear ho0; have hat := True.intro; rw [← Ny231.out] at ho; change Kd.R (Kd.int .u8) 5 w16 w.heap.size (fun _ => True) v232 y231 at ho; have n0_ := Aside0.mk (Kd.R_over' (by (with_reducible repeat (first | apply Kd.R_alloc | apply Kd.R_drewN | apply Kd.R_drew)); exact HO_18.out) (Kd.R_typed (by (with_reducible repeat (first | apply Kd.R_alloc | apply Kd.R_drewN | apply Kd.R_drew)); exact HO230.out)) (by decide) hg); have n1_ := Aside0.mk (blk_grown (g := gb223) (o := .cells #[.string ((rd_T141 l0 x10_1).f0), .string ((rd_T141 l0 x10_1).f1)] 141 (0, 0)) (pk_ BK223.out) hg (Kd.R_ne HO230.out BK223.out (by decide))); have n2_ := Aside0.mk (hb); have n3_ := Aside0.mk (ho); clear HO_18; clear BK223; clear HB; clear HO230; have HO_18 := n0_; have BK223 := n1_; have HB := n2_; have HO233 := n3_; clear n0_ n1_ n2_ n3_; clear ho hb hg hat))
             go_roundg k2
             case measure => have := HK1.out; have := HK2.out; omega
             case rel => exact ⟨(y231), (wrap64 (x20_2 + 1)), rs_, H', ⟨by have := HK1.out; have := HK2.out; omega⟩, ⟨by (with_reducible repeat (first | apply Kd.R_alloc | apply Kd.R_drewN | apply Kd.R_drew)); exact HO233.out⟩, ⟨by (with_reducible repeat (first | apply Kd.R_alloc | apply Kd.R_drewN | apply Kd.R_drew)); exact HO_18.out⟩, ⟨by (with_reducible repeat (first | refine blk_drewN ?_ _ | refine blk_drew ?_ | refine blk_alloc ?_ _)); exact BK223.out⟩, ⟨by repeat (first | (with_reducible first | exact HB.out | apply below_alloc | apply pw_below_drewN | apply below_drew1 | refine below_set ?_ GE223.out) | exact HB.out)⟩⟩
            ·
             rw [if_neg c14] at H
             exact absurd H (by simp)
           ·
            rw [if_neg c13] at H
            exact absurd H (by simp)
          ·
           rw [if_neg c12] at H
           exact absurd H (by simp)
         ·
          rw [if_neg c11] at H
          exact absurd H (by simp)
        ·
         rw [if_neg c10] at H
         have c10b0 : decide (x20_2 < (t224.length : Int)) = false := decide_eq_false c10
         clear c10
         have H' := Aside0.mk H
         clear H
         go_wp2
         go_roundg k2
         case measure => have := HK1.out; have := HK2.out; omega
         case rel => exact ⟨(x3_2), (wrap64 (x10_1 + 1)), rs_, H', ⟨by have := HK1.out; have := HK2.out; omega⟩, ⟨by (with_reducible repeat (first | apply Kd.R_alloc | apply Kd.R_drewN | apply Kd.R_drew)); exact HO_3.out⟩, ⟨by repeat (first | (with_reducible first | exact HB.out | apply below_alloc | apply pw_below_drewN | apply below_drew1 | refine below_set ?_ GE223.out) | exact HB.out)⟩⟩
     ·
      rw [if_neg c4] at H
      exact absurd H (by simp)
    ·
     rw [if_neg c3] at H
     exact absurd H (by simp)
   ·
    rw [if_neg c2] at H
    have c2b0 : decide (x10_1 < (l0.length : Int)) = false := decide_eq_false c2
    clear c2
    by_cases c17 : x3_1.length + 2 < 140737488355328
    ·
     rw [if_pos c17] at H
     have LMc17 := Aside0.mk c17
     clear c17
     obtain ⟨y219, hy219⟩ : ∃ y_ : List Int, y_ = (x3_1 ++ bytesOf (⟨#[13, 10]⟩ : ByteArray)) := ⟨_, rfl⟩
     replace H : (some y219) = some r := by first | (rw [hy219]; with_reducible exact H) | (have H2_ := (Option.bind_some _ _).symm.trans H; rw [hy219]; with_reducible exact H2_) | (have H2_ := (Option.bind_some _ _).symm.trans H; with_reducible exact H2_) | with_reducible exact H | (rw [hy219]; exact H) | exact H
     have Ny219 := Aside0.mk hy219
     clear hy219
     obtain rfl := Option.some.inj H
     go_wp2_with (first | (at_builtin; refine print_append_str (w0 := w) w.heap.size rfl (.tmp 30) _ 82 9 5 rfl Tryd.underlying82 Tryd.underlying9 info5 u3 x3_1 (⟨#[13, 10]⟩ : ByteArray) rfl rfl ?aO ?aB ?aS ?aL ?_; (case aB => exact (pb_ HB.out)); (case aO => exact (Kd.own_of_R (by (with_reducible repeat (first | apply Kd.R_alloc | apply Kd.R_drewN | apply Kd.R_drew)); exact HO_3.out))); (case aS => exact (below_size (pb_ HB.out))); (case aL => have := LMc17.out; (first | omega | exact Nat.le_of_lt this)); intro v220 w18 ho0 hb hg; have ho := Kd.R_of_own (h1 := fun _ => rfl) (ok := fun _ => True) ho0 (fun _ _ => trivial); clear ho0; have hat := True.intro; rw [← Ny219.out] at ho; change Kd.R (Kd.int .u8) 5 w18 w.heap.size (fun _ => True) v220 y219 at ho; have n0_ := Aside0.mk (hb); have n1_ := Aside0.mk (ho); clear HB; clear HO_3; have HB := n0_; have HO221 := n1_; clear n0_ n1_; clear ho hb hg hat))
     go_ret
     exact ⟨_, by first | rfl | (simp [errW_none, errW_some] <;> rfl) | (simp [*, errW_none, errW_some] <;> rfl), by (with_reducible repeat (first | apply Kd.R_alloc | apply Kd.R_drewN | apply Kd.R_drew)); exact HO221.out, by repeat (first | (with_reducible first | exact HB.out | apply below_alloc | apply pw_below_drewN | apply below_drew1) | exact HB.out)⟩
    ·
     rw [if_neg c17] at H
     exact absurd H (by simp)

end Go.Proofs.YtbmeebhcanknmaaDoor.XEvm
