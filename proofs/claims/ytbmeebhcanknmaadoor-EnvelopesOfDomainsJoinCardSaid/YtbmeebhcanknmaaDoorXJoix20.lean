-- Laid by a program of this session's (xprint.py) over the print's text; contracts proved by hand stand among them. Lean checks it.
import Derived.Test.YtbmeebhcanknmaaDoorXJoix0
import Derived.Test.YtbmeebhcanknmaaDoorXJoix1
import Derived.Test.YtbmeebhcanknmaaDoorXJoix2
import Derived.Test.YtbmeebhcanknmaaDoorXJoix11
import Derived.Test.YtbmeebhcanknmaaDoorXJoix14
import Derived.Test.YtbmeebhcanknmaaDoorXJoix18
import Derived.Test.YtbmeebhcanknmaaDoorXJoix19
namespace Go.Proofs.YtbmeebhcanknmaaDoor.XJoi
open Go.RowKit Go.Proofs.YtbmeebhcanknmaaDoorW.PrintWords Go.Proofs.YtbmeebhcanknmaaDoorW.PrintLast Go.Proofs.YtbmeebhcanknmaaDoorW.PrintMore
attribute [local go_sem] max2_int min2_int max_two min_two max_three min_three max_four min_four   -- for this text's walks alone
set_option linter.unusedVariables false
set_option linter.unusedSimpArgs false

attribute [local go_sem high] eqA25 eqA48
/-! ### posthouselaw3_EnvelopesOfDomainsJoin: function 9 -/
mutual
def posthouselaw3_EnvelopesOfDomainsJoin.j0 : Nat → List ByteArray → Bool → ByteArray → List (S48) → ByteArray → Option (Bool)
  | 0, _, _, _, _, _ => none
  | k + 1, x3, x22, x156000, x156001, x156002 => if x22 = true then ((posthouselaw3_envelopes.f k).bind fun t163 => (if t163 = true then (some ((x3.length : Int) == 0)) else (some false))) else (posthouselaw3_EnvelopesOfDomainsJoin.l0 k x3 ([] : List (S48)) 0 x156000 x156001 x156002)
def posthouselaw3_EnvelopesOfDomainsJoin.l0 : Nat → List ByteArray → List (S48) → Int → ByteArray → List (S48) → ByteArray → Option (Bool)
  | 0, _, _, _, _, _, _ => none
  | k + 1, x3, x5, x6, x156000, x156001, x156002 => if x6 < (x3.length : Int) then (if 0 ≤ x6 then ((envelope_For.f k x156000 x156001 x156002 (rdOf ByteArray.empty x3 x6)).bind fun bt165 => (if bt165.2.2.2.1 = 0 then ((envelope_Validate.f k bt165.1 bt165.2.1 bt165.2.2.1).bind fun bt174 => (if (!(bt174.1 == 0) || (!(bt174.2 == 0))) = true then (some false) else (if x5.length + bt165.2.1.length < 5864062014805 then (posthouselaw3_EnvelopesOfDomainsJoin.l0 k x3 (x5 ++ bt165.2.1) (wrap64 (x6 + 1)) x156000 x156001 x156002) else (none)))) else (some false))) else (none)) else (if (x5.length : Int) = (x156001.length : Int) then (posthouselaw3_EnvelopesOfDomainsJoin.l1 k x5 0 x156000 x156001 x156002) else (some false))
def posthouselaw3_EnvelopesOfDomainsJoin.l1 : Nat → List (S48) → Int → ByteArray → List (S48) → ByteArray → Option (Bool)
  | 0, _, _, _, _, _ => none
  | k + 1, x5, x9, x156000, x156001, x156002 => if x9 < (x156001.length : Int) then (if 0 ≤ x9 then ((posthouseref3_Known.f k x5 ((rd_T48 x156001 x9).f0)).bind fun t180 => (if t180 < 0 then (some false) else (if 0 ≤ t180 then (if t180 < (x5.length : Int) then (if (!((((rd_T48 x5 t180).f0).toList) == (((rd_T48 x156001 x9).f0).toList)) || (!(((rd_T48 x5 t180).f1) == ((rd_T48 x156001 x9).f1)))) = true then (some false) else (posthouselaw3_EnvelopesOfDomainsJoin.l1 k x5 (wrap64 (x9 + 1)) x156000 x156001 x156002)) else (none)) else (none)))) else (none)) else (some true)
end
def posthouselaw3_EnvelopesOfDomainsJoin.f (k : Nat) (a0_0 : ByteArray) (l0_1 : List (S48)) (a0_2 : ByteArray) : Option (Bool) := (envelope_Domains.f k a0_0 l0_1 a0_2).bind fun bt156 => ((posthouselaw3_envelopes.f k).bind fun t162 => (if t162 = true then (posthouselaw3_EnvelopesOfDomainsJoin.j0 k bt156.1 (bt156.2.1 != 0) a0_0 l0_1 a0_2) else (posthouselaw3_EnvelopesOfDomainsJoin.j0 k bt156.1 true a0_0 l0_1 a0_2)))
theorem posthouselaw3_EnvelopesOfDomainsJoin.mono_l : ∀ k, (∀ y0 y1 y2 y3 y4, LeO (posthouselaw3_EnvelopesOfDomainsJoin.j0 k y0 y1 y2 y3 y4) (posthouselaw3_EnvelopesOfDomainsJoin.j0 (k + 1) y0 y1 y2 y3 y4)) ∧ (∀ y0 y1 y2 y3 y4 y5, LeO (posthouselaw3_EnvelopesOfDomainsJoin.l0 k y0 y1 y2 y3 y4 y5) (posthouselaw3_EnvelopesOfDomainsJoin.l0 (k + 1) y0 y1 y2 y3 y4 y5)) ∧ (∀ y0 y1 y2 y3 y4, LeO (posthouselaw3_EnvelopesOfDomainsJoin.l1 k y0 y1 y2 y3 y4) (posthouselaw3_EnvelopesOfDomainsJoin.l1 (k + 1) y0 y1 y2 y3 y4))
  | 0 => ⟨fun _ _ _ _ _ r h => by simp [posthouselaw3_EnvelopesOfDomainsJoin.j0] at h, fun _ _ _ _ _ _ r h => by simp [posthouselaw3_EnvelopesOfDomainsJoin.l0] at h, fun _ _ _ _ _ r h => by simp [posthouselaw3_EnvelopesOfDomainsJoin.l1] at h⟩
  | k + 1 => by
    obtain ⟨ih0, ih1, ih2⟩ := posthouselaw3_EnvelopesOfDomainsJoin.mono_l k
    refine ⟨?_, ?_, ?_⟩
    · intro y0 y1 y2 y3 y4
      unfold posthouselaw3_EnvelopesOfDomainsJoin.j0
      repeat' first
      | (with_reducible exact ih0 _ _ _ _ _)
      | (with_reducible exact ih1 _ _ _ _ _ _)
      | (with_reducible exact ih2 _ _ _ _ _)
      | (with_reducible exact envelope_Domains.mono _ _ _ _)
      | (with_reducible exact envelope_For.mono _ _ _ _ _)
      | (with_reducible exact envelope_Validate.mono _ _ _ _)
      | (with_reducible exact posthouselaw3_envelopes.mono _)
      | (with_reducible exact posthouseref3_Known.mono _ _ _)
      | (with_reducible exact LeO.refl _)
      | (with_reducible exact LeO.none _)
      | (with_reducible refine LeO.ite ?_ ?_)
      | (with_reducible refine LeO.bind ?_ (fun _ => ?_))
      | exact ih0 _ _ _ _ _
      | exact ih1 _ _ _ _ _ _
      | exact ih2 _ _ _ _ _
      | exact envelope_Domains.mono _ _ _ _
      | exact envelope_For.mono _ _ _ _ _
      | exact envelope_Validate.mono _ _ _ _
      | exact posthouselaw3_envelopes.mono _
      | exact posthouseref3_Known.mono _ _ _
      | exact LeO.none _
      | refine LeO.ite ?_ ?_
      | refine LeO.bind ?_ (fun _ => ?_)
    · intro y0 y1 y2 y3 y4 y5
      unfold posthouselaw3_EnvelopesOfDomainsJoin.l0
      repeat' first
      | (with_reducible exact ih0 _ _ _ _ _)
      | (with_reducible exact ih1 _ _ _ _ _ _)
      | (with_reducible exact ih2 _ _ _ _ _)
      | (with_reducible exact envelope_Domains.mono _ _ _ _)
      | (with_reducible exact envelope_For.mono _ _ _ _ _)
      | (with_reducible exact envelope_Validate.mono _ _ _ _)
      | (with_reducible exact posthouselaw3_envelopes.mono _)
      | (with_reducible exact posthouseref3_Known.mono _ _ _)
      | (with_reducible exact LeO.refl _)
      | (with_reducible exact LeO.none _)
      | (with_reducible refine LeO.ite ?_ ?_)
      | (with_reducible refine LeO.bind ?_ (fun _ => ?_))
      | exact ih0 _ _ _ _ _
      | exact ih1 _ _ _ _ _ _
      | exact ih2 _ _ _ _ _
      | exact envelope_Domains.mono _ _ _ _
      | exact envelope_For.mono _ _ _ _ _
      | exact envelope_Validate.mono _ _ _ _
      | exact posthouselaw3_envelopes.mono _
      | exact posthouseref3_Known.mono _ _ _
      | exact LeO.none _
      | refine LeO.ite ?_ ?_
      | refine LeO.bind ?_ (fun _ => ?_)
    · intro y0 y1 y2 y3 y4
      unfold posthouselaw3_EnvelopesOfDomainsJoin.l1
      repeat' first
      | (with_reducible exact ih0 _ _ _ _ _)
      | (with_reducible exact ih1 _ _ _ _ _ _)
      | (with_reducible exact ih2 _ _ _ _ _)
      | (with_reducible exact envelope_Domains.mono _ _ _ _)
      | (with_reducible exact envelope_For.mono _ _ _ _ _)
      | (with_reducible exact envelope_Validate.mono _ _ _ _)
      | (with_reducible exact posthouselaw3_envelopes.mono _)
      | (with_reducible exact posthouseref3_Known.mono _ _ _)
      | (with_reducible exact LeO.refl _)
      | (with_reducible exact LeO.none _)
      | (with_reducible refine LeO.ite ?_ ?_)
      | (with_reducible refine LeO.bind ?_ (fun _ => ?_))
      | exact ih0 _ _ _ _ _
      | exact ih1 _ _ _ _ _ _
      | exact ih2 _ _ _ _ _
      | exact envelope_Domains.mono _ _ _ _
      | exact envelope_For.mono _ _ _ _ _
      | exact envelope_Validate.mono _ _ _ _
      | exact posthouselaw3_envelopes.mono _
      | exact posthouseref3_Known.mono _ _ _
      | exact LeO.none _
      | refine LeO.ite ?_ ?_
      | refine LeO.bind ?_ (fun _ => ?_)
theorem posthouselaw3_EnvelopesOfDomainsJoin.mono : ∀ a0 a1 a2 k, LeO (posthouselaw3_EnvelopesOfDomainsJoin.f k a0 a1 a2) (posthouselaw3_EnvelopesOfDomainsJoin.f (k + 1) a0 a1 a2) := by
  intro a0 a1 a2 k
  obtain ⟨ih0, ih1, ih2⟩ := posthouselaw3_EnvelopesOfDomainsJoin.mono_l k
  unfold posthouselaw3_EnvelopesOfDomainsJoin.f
  repeat' first
      | (with_reducible exact ih0 _ _ _ _ _)
      | (with_reducible exact ih1 _ _ _ _ _ _)
      | (with_reducible exact ih2 _ _ _ _ _)
      | (with_reducible exact envelope_Domains.mono _ _ _ _)
      | (with_reducible exact envelope_For.mono _ _ _ _ _)
      | (with_reducible exact envelope_Validate.mono _ _ _ _)
      | (with_reducible exact posthouselaw3_envelopes.mono _)
      | (with_reducible exact posthouseref3_Known.mono _ _ _)
      | (with_reducible exact LeO.refl _)
      | (with_reducible exact LeO.none _)
      | (with_reducible refine LeO.ite ?_ ?_)
      | (with_reducible refine LeO.bind ?_ (fun _ => ?_))
      | exact ih0 _ _ _ _ _
      | exact ih1 _ _ _ _ _ _
      | exact ih2 _ _ _ _ _
      | exact envelope_Domains.mono _ _ _ _
      | exact envelope_For.mono _ _ _ _ _
      | exact envelope_Validate.mono _ _ _ _
      | exact posthouselaw3_envelopes.mono _
      | exact posthouseref3_Known.mono _ _ _
      | exact LeO.none _
      | refine LeO.ite ?_ ?_
      | refine LeO.bind ?_ (fun _ => ?_)
def posthouselaw3_EnvelopesOfDomainsJoin.T8 : Bool × List (List Nat × List Nat) := (true, [([], []), ([], []), ([], []), ([1, 2], [1, 2]), ([3], [3]), ([0, 4], [0, 4]), ([5], [5]), ([6], [6]), ([6], [6]), ([], []), ([], []), ([9, 7, 5, 0, 1, 2, 3, 4, 5, 6, 7, 9, 10], [7, 9]), ([10, 8, 11, 0, 1, 2, 3, 4, 5, 6, 7, 8, 9, 10, 11], [8, 10])])
def posthouselaw3_EnvelopesOfDomainsJoin.B8 : List Nat := [0, 0, 0, 6, 14, 31, 63, 127, 127, 0, 0, 1791, 4095]
theorem posthouselaw3_EnvelopesOfDomainsJoin.tab8 : rtab .any (opsOf Tryd.f9 8) = posthouselaw3_EnvelopesOfDomainsJoin.T8 := by kernel_rfl
theorem posthouselaw3_EnvelopesOfDomainsJoin.bits8 : waitsOk posthouselaw3_EnvelopesOfDomainsJoin.T8.2 posthouselaw3_EnvelopesOfDomainsJoin.B8 = true := by kernel_rfl
def posthouselaw3_EnvelopesOfDomainsJoin.T18 : Bool × List (List Nat × List Nat) := (true, [([], []), ([0], [0]), ([1], [1]), ([2], [2]), ([2], [2]), ([3, 4, 2], [2, 3, 4]), ([5, 2], [2, 5]), ([2], [2]), ([7, 2], [2, 7]), ([2], [2]), ([8, 9, 2], [2, 8, 9]), ([10, 2], [2, 10]), ([6, 11, 2], [2, 6, 11]), ([2, 12], [2, 12])])
def posthouselaw3_EnvelopesOfDomainsJoin.B18 : List Nat := [0, 1, 3, 7, 7, 31, 63, 7, 135, 7, 903, 1927, 4095, 8191]
theorem posthouselaw3_EnvelopesOfDomainsJoin.tab18 : rtab .any (opsOf Tryd.f9 18) = posthouselaw3_EnvelopesOfDomainsJoin.T18 := by kernel_rfl
theorem posthouselaw3_EnvelopesOfDomainsJoin.bits18 : waitsOk posthouselaw3_EnvelopesOfDomainsJoin.T18.2 posthouselaw3_EnvelopesOfDomainsJoin.B18 = true := by kernel_rfl
set_option maxHeartbeats 8000000 in
set_option maxRecDepth 100000 in
theorem posthouselaw3_EnvelopesOfDomainsJoin.calls (k : Nat) (a0_0 : ByteArray) (A0_1 : Option Addr) (c0_1 : Nat) (l0_1 : List (S48)) (a0_2 : ByteArray) (r : Bool) (w : World) (hr0_1 : Kd.C k48 w A0_1 l0_1.length l0_1) (hc0_1 : l0_1.length ≤ c0_1) (h : posthouselaw3_EnvelopesOfDomainsJoin.f k a0_0 l0_1 a0_2 = some r) (hr_ : r = true) :
    Calls Tryd.prog 9 #[.agg #[.string a0_0, .slice A0_1 l0_1.length c0_1, .string a0_2]] w fun e w' => e = .returned (.bool r) ∧ Below w.heap.size w w' := by
  have HR_ := Aside0.mk hr_
  clear hr_
  have hu41 := Tryd.underlying41
  have hu25 := Tryd.underlying25
  have hu48 := Tryd.underlying48
  have HR0_1 := Aside0.mk hr0_1
  have HC0_1 := Aside0.mk hc0_1
  clear hr0_1 hc0_1
  have HB := Aside0.mk (Below.refl w.heap.size w)
  have H : ((envelope_Domains.f k a0_0 l0_1 a0_2).bind fun bt156 => ((posthouselaw3_envelopes.f k).bind fun t162 => (if t162 = true then (posthouselaw3_EnvelopesOfDomainsJoin.j0 k bt156.1 (bt156.2.1 != 0) a0_0 l0_1 a0_2) else (posthouselaw3_EnvelopesOfDomainsJoin.j0 k bt156.1 true a0_0 l0_1 a0_2)))) = some r := h
  clear h
  replace H := Option.bind_eq_some_iff.mp H
  obtain ⟨⟨t156, t159, t160⟩, A20, H⟩ := H
  replace H : ((posthouselaw3_envelopes.f k).bind fun t162 => (if t162 = true then (posthouselaw3_EnvelopesOfDomainsJoin.j0 k t156 (t159 != 0) a0_0 l0_1 a0_2) else (posthouselaw3_EnvelopesOfDomainsJoin.j0 k t156 true a0_0 l0_1 a0_2))) = some r := H
  have A2 := Aside0.mk A20
  clear A20
  have HC3 := Aside0.mk H
  clear H
  go_enter Tryd.func9, Tryd.ntmps9
  go_upto_region 2 with (first | ((with_reducible refine gate_dst (N := 1) rfl ?_); (try (refine gate_guard (by rfl) ?_; dsimp only)); refine box_event ?hg (N := 1) ?hd (cs := #[.string a0_0, .slice A0_1 l0_1.length c0_1, .string a0_2]) (t := 41) ?hr ?_; (case hd => rfl); (case hg => rfl); (case hr => first | (go_simp; done) | (go_simp; rfl)); intro gb155 hg w4 hbox hb; have n0_ := Aside0.mk (below_step (by repeat (first | (with_reducible first | exact HB.out | apply below_alloc | apply pw_below_drewN | apply below_drew1) | exact HB.out)) hb); have n1_ := Aside0.mk (hbox); have n2_ := Aside0.mk ((by rw [hg]; exact (below_size (by repeat (first | (with_reducible first | exact HB.out | apply below_alloc | apply pw_below_drewN | apply below_drew1) | exact HB.out))) : w.heap.size ≤ gb155)); have n3_ := Aside0.mk ((by rw [hg]; exact (below_size (by repeat (first | (with_reducible first | exact HB.out | apply below_alloc | apply pw_below_drewN | apply below_drew1) | exact HB.out))) : w.heap.size ≤ gb155)); clear HB; have HB := n0_; have BK155 := n1_; have GW155 := n2_; have GE155 := n3_; clear n0_ n1_ n2_ n3_; clear hb hbox hg; have hcz5_0 : w4.cell? ⟨gb155, 0, none⟩ = some (.string a0_0) := (blk_cell BK155.out 0).trans rfl; have hcz5_1 : w4.cell? ⟨gb155, 1, none⟩ = some (.slice A0_1 l0_1.length c0_1) := (blk_cell BK155.out 1).trans rfl; have hcz5_2 : w4.cell? ⟨gb155, 2, none⟩ = some (.string a0_2) := (blk_cell BK155.out 2).trans rfl; have hfz5_0 := blk_frozen BK155.out 0; have hfz5_1 := blk_frozen BK155.out 1; have hfz5_2 := blk_frozen BK155.out 2) | ((with_reducible refine gate_callee (f := 27) rfl ?_); refine goesL_ (some 13) rfl rfl Tryd.func27 (by kernel_rfl) rfl #[.agg #[.string a0_0, .slice A0_1 l0_1.length c0_1, .string a0_2]] rfl (by (try simp only [List.map_toArray, List.map_cons, List.map_nil]); first | done | rfl | (simp only [List.length_drop, List.length_take]; rfl)) ?_; (with_reducible refine (envelope_Domains.calls k a0_0 _ _ l0_1 a0_2 t156 t159 t160 _ ?side1 ?side2 A2.out).mono ?_); (case side1 => repeat (first | exact (Kd.C_below HR0_1.out HB.out) | (with_reducible refine Kd.C_alloc ?_ _) | (with_reducible refine Kd.C_drewN ?_ _) | (with_reducible refine Kd.C_drew ?_))); (case side2 => exact HC0_1.out); rintro e w6 ⟨v157, rfl, ho0, hb⟩; refine ⟨_, rfl, ?_⟩; have n0_ := Aside0.mk (Kd.R_lower ho0 (below_size (by repeat (first | (with_reducible first | exact HB.out | apply below_alloc | apply pw_below_drewN | apply below_drew1 | refine below_set ?_ GE155.out) | exact HB.out)))); have n1_ := Aside0.mk (blk_below (g := gb155) (o := .cells #[.string a0_0, .slice A0_1 l0_1.length c0_1, .string a0_2] 41 (0, 0)) (by (with_reducible repeat (first | refine blk_drewN ?_ _ | refine blk_drew ?_ | refine blk_alloc ?_ _)); exact BK155.out) hb); have n2_ := Aside0.mk (below_step (by repeat (first | (with_reducible first | exact HB.out | apply below_alloc | apply pw_below_drewN | apply below_drew1 | refine below_set ?_ GE155.out) | exact HB.out)) hb); clear BK155; clear HB; have HO158 := n0_; have BK155 := n1_; have HB := n2_; clear n0_ n1_ n2_; (try clear hb); (try clear hb2); (try clear hk); (try clear hi); (try clear ho0)) | ((with_reducible refine gate_dst (N := 4) rfl ?_); (try (refine gate_guard (by rfl) ?_; dsimp only)); refine box_event ?hg (N := 4) ?hd (cs := #[.int .i64 0, .int .i64 0]) (t := 25) ?hr ?_; (case hd => rfl); (case hg => rfl); (case hr => first | (go_simp; done) | (go_simp; rfl)); intro gb161 hg w7 hbox hb; have n0_ := Aside0.mk (Kd.R_below (by (with_reducible repeat (first | apply Kd.R_alloc | apply Kd.R_drewN | apply Kd.R_drew)); exact HO158.out) hb); have n1_ := Aside0.mk (blk_below (g := gb155) (o := .cells #[.string a0_0, .slice A0_1 l0_1.length c0_1, .string a0_2] 41 (0, 0)) (by (with_reducible repeat (first | refine blk_drewN ?_ _ | refine blk_drew ?_ | refine blk_alloc ?_ _)); exact BK155.out) hb); have n2_ := Aside0.mk (below_step (by repeat (first | (with_reducible first | exact HB.out | apply below_alloc | apply pw_below_drewN | apply below_drew1 | refine below_set ?_ GE155.out) | exact HB.out)) hb); have n3_ := Aside0.mk (hbox); have n4_ := Aside0.mk ((by rw [hg]; exact (below_size (by repeat (first | (with_reducible first | exact HB.out | apply below_alloc | apply pw_below_drewN | apply below_drew1 | refine below_set ?_ GE155.out) | exact HB.out))) : w.heap.size ≤ gb161)); have n5_ := Aside0.mk ((by rw [hg]; exact (below_size (by repeat (first | (with_reducible first | exact HB.out | apply below_alloc | apply pw_below_drewN | apply below_drew1 | refine below_set ?_ GE155.out) | exact HB.out))) : w.heap.size ≤ gb161)); have n6_ := Aside0.mk ((by rw [hg]; exact Nat.ne_of_lt (blk_lt (g := gb155) (o := .cells #[.string a0_0, .slice A0_1 l0_1.length c0_1, .string a0_2] 41 (0, 0)) (by (with_reducible repeat (first | refine blk_drewN ?_ _ | refine blk_drew ?_ | refine blk_alloc ?_ _)); exact BK155.out)) : gb155 ≠ gb161)); have n7_ := Aside0.mk ((by rw [hg]; exact Nat.ne_of_gt (blk_lt (g := gb155) (o := .cells #[.string a0_0, .slice A0_1 l0_1.length c0_1, .string a0_2] 41 (0, 0)) (by (with_reducible repeat (first | refine blk_drewN ?_ _ | refine blk_drew ?_ | refine blk_alloc ?_ _)); exact BK155.out)) : gb161 ≠ gb155)); clear HO158; clear BK155; clear HB; have HO158 := n0_; have BK155 := n1_; have HB := n2_; have BK161 := n3_; have GW161 := n4_; have GE161 := n5_; have NB155_161 := n6_; have NB161_155 := n7_; clear n0_ n1_ n2_ n3_ n4_ n5_ n6_ n7_; clear hb hbox hg; have hnb8 := NB161_155.out; have hnc8 := NB155_161.out; have hcz9_0 : w7.cell? ⟨gb161, 0, none⟩ = some (.int .i64 0) := (blk_cell BK161.out 0).trans rfl; have hcz9_1 : w7.cell? ⟨gb161, 1, none⟩ = some (.int .i64 0) := (blk_cell BK161.out 1).trans rfl; have hfz9_0 := blk_frozen BK161.out 0; have hfz9_1 := blk_frozen BK161.out 1))
  (try simp only [Act.put, List.setIfInBounds_toArray, List.set_cons_zero, List.set_cons_succ])
  go_cut [22] (fun v22 wc => ∃ (kq : Nat) (x22_2 : Bool), v22 = .bool x22_2 ∧ Aside0 (posthouselaw3_EnvelopesOfDomainsJoin.j0 kq t156 x22_2 a0_0 l0_1 a0_2 = some r) ∧ Aside0 (kq ≤ k) ∧ Aside0 (Kd.R Kd.string 9 wc w.heap.size (fun _ => True) v157 t156) ∧ Aside0 (wc.heap[gb155]? = some (.cells #[.string a0_0, (.slice A0_1 l0_1.length c0_1), .string a0_2] 41 (0, 0))) ∧ Aside0 (wc.heap[gb161]? = some (.cells #[.int .i64 t159, .int .i64 t160] 25 (0, 0))) ∧ Aside0 (Below w.heap.size w wc))
  case first =>
    have H := HC3.out
    clear HC3
    replace H := Option.bind_eq_some_iff.mp H
    obtain ⟨t162, A100, H⟩ := H
    replace H : (if t162 = true then (posthouselaw3_EnvelopesOfDomainsJoin.j0 k t156 (t159 != 0) a0_0 l0_1 a0_2) else (posthouselaw3_EnvelopesOfDomainsJoin.j0 k t156 true a0_0 l0_1 a0_2)) = some r := H
    have A10 := Aside0.mk A100
    clear A100
    by_cases c11 : t162 = true
    · subst c11
      have H1 : (posthouselaw3_EnvelopesOfDomainsJoin.j0 k t156 (t159 != 0) a0_0 l0_1 a0_2) = some r := by rw [if_pos rfl] at H; exact H
      clear H
      have H := H1
      clear H1
      have H' := Aside0.mk H
      clear H
      go_wp2_with (first | ((with_reducible refine gate_callee (f := 29) rfl ?_); refine goesL_ (some 16) rfl rfl Tryd.func29 (by kernel_rfl) rfl #[] rfl (by (try simp only [List.map_toArray, List.map_cons, List.map_nil]); first | done | rfl | (simp only [List.length_drop, List.length_take]; rfl)) ?_; (with_reducible refine (posthouselaw3_envelopes.calls k  true _ A10.out).mono ?_); rintro e w12 ⟨rfl, hb⟩; refine ⟨_, rfl, ?_⟩; have n0_ := Aside0.mk (Kd.R_below (by (with_reducible repeat (first | apply Kd.R_alloc | apply Kd.R_drewN | apply Kd.R_drew)); exact (Kd.R_mono (Kd.R_far (p := ⟨gb161, 1, none⟩) (Kd.R_far (p := ⟨gb161, 0, none⟩) (Kd.R_types HO158.out BK161.out (by decide)) (fun _ hk => hk.2) (.int .i64 t159)) (fun _ hk => hk.2) (.int .i64 t160)) (fun _ h_ => h_.1))) hb); have n1_ := Aside0.mk (blk_below (g := gb155) (o := .cells #[.string a0_0, .slice A0_1 l0_1.length c0_1, .string a0_2] 41 (0, 0)) (by (with_reducible repeat (first | refine blk_drewN ?_ _ | refine blk_drew ?_ | refine blk_alloc ?_ _)); refine blk_far ?_ NB155_161.out _; (with_reducible repeat (first | refine blk_drewN ?_ _ | refine blk_drew ?_ | refine blk_alloc ?_ _)); refine blk_far ?_ NB155_161.out _; (with_reducible repeat (first | refine blk_drewN ?_ _ | refine blk_drew ?_ | refine blk_alloc ?_ _)); exact BK155.out) hb); have n2_ := Aside0.mk (blk_below (g := gb161) (o := .cells #[.int .i64 t159, .int .i64 t160] 25 (0, 0)) (by (with_reducible repeat (first | refine blk_drewN ?_ _ | refine blk_drew ?_ | refine blk_alloc ?_ _)); refine blk_put (cs := #[.int .i64 t159, .int .i64 0]) ?_ 1 _ rfl; (with_reducible repeat (first | refine blk_drewN ?_ _ | refine blk_drew ?_ | refine blk_alloc ?_ _)); refine blk_put (cs := #[.int .i64 0, .int .i64 0]) ?_ 0 _ rfl; (with_reducible repeat (first | refine blk_drewN ?_ _ | refine blk_drew ?_ | refine blk_alloc ?_ _)); exact BK161.out) hb); have n3_ := Aside0.mk (below_step (by repeat (first | (with_reducible first | exact HB.out | apply below_alloc | apply pw_below_drewN | apply below_drew1 | refine below_set ?_ GE155.out | refine below_set ?_ GE161.out) | exact HB.out)) hb); clear HO158; clear BK155; clear BK161; clear HB; have HO158 := n0_; have BK155 := n1_; have BK161 := n2_; have HB := n3_; clear n0_ n1_ n2_ n3_; (try clear hb); (try clear hb2); (try clear hk); (try clear hi); have hnb13 := NB161_155.out; have hnc13 := NB155_161.out; have hcz14_0 : w12.cell? ⟨gb161, 0, none⟩ = some (.int .i64 t159) := (blk_cell BK161.out 0).trans rfl; have hcz14_1 : w12.cell? ⟨gb161, 1, none⟩ = some (.int .i64 t160) := (blk_cell BK161.out 1).trans rfl; have hfz14_0 := blk_frozen BK161.out 0; have hfz14_1 := blk_frozen BK161.out 1))
      go_meet
      case rel => exact ⟨_, ((t159 != 0)), (by first | rfl | (simp; done) | (simp [*]; done)), H', ⟨by first | omega | exact Nat.le_refl _⟩, ⟨by (with_reducible repeat (first | apply Kd.R_alloc | apply Kd.R_drewN | apply Kd.R_drew)); exact HO158.out⟩, ⟨by (with_reducible repeat (first | refine blk_drewN ?_ _ | refine blk_drew ?_ | refine blk_alloc ?_ _)); exact BK155.out⟩, ⟨by (with_reducible repeat (first | refine blk_drewN ?_ _ | refine blk_drew ?_ | refine blk_alloc ?_ _)); exact BK161.out⟩, ⟨by repeat (first | (with_reducible first | exact HB.out | apply below_alloc | apply pw_below_drewN | apply below_drew1 | refine below_set ?_ GE155.out | refine below_set ?_ GE161.out) | exact HB.out)⟩⟩
    · replace c11 := Bool.eq_false_iff.mpr c11
      subst c11
      have H1 : (posthouselaw3_EnvelopesOfDomainsJoin.j0 k t156 true a0_0 l0_1 a0_2) = some r := by rw [if_neg (show ¬ (false = true) by decide)] at H; exact H
      clear H
      have H := H1
      clear H1
      have H' := Aside0.mk H
      clear H
      go_wp2_with (first | ((with_reducible refine gate_callee (f := 29) rfl ?_); refine goesL_ (some 16) rfl rfl Tryd.func29 (by kernel_rfl) rfl #[] rfl (by (try simp only [List.map_toArray, List.map_cons, List.map_nil]); first | done | rfl | (simp only [List.length_drop, List.length_take]; rfl)) ?_; (with_reducible refine (posthouselaw3_envelopes.calls k  false _ A10.out).mono ?_); rintro e w15 ⟨rfl, hb⟩; refine ⟨_, rfl, ?_⟩; have n0_ := Aside0.mk (Kd.R_below (by (with_reducible repeat (first | apply Kd.R_alloc | apply Kd.R_drewN | apply Kd.R_drew)); exact (Kd.R_mono (Kd.R_far (p := ⟨gb161, 1, none⟩) (Kd.R_far (p := ⟨gb161, 0, none⟩) (Kd.R_types HO158.out BK161.out (by decide)) (fun _ hk => hk.2) (.int .i64 t159)) (fun _ hk => hk.2) (.int .i64 t160)) (fun _ h_ => h_.1))) hb); have n1_ := Aside0.mk (blk_below (g := gb155) (o := .cells #[.string a0_0, .slice A0_1 l0_1.length c0_1, .string a0_2] 41 (0, 0)) (by (with_reducible repeat (first | refine blk_drewN ?_ _ | refine blk_drew ?_ | refine blk_alloc ?_ _)); refine blk_far ?_ NB155_161.out _; (with_reducible repeat (first | refine blk_drewN ?_ _ | refine blk_drew ?_ | refine blk_alloc ?_ _)); refine blk_far ?_ NB155_161.out _; (with_reducible repeat (first | refine blk_drewN ?_ _ | refine blk_drew ?_ | refine blk_alloc ?_ _)); exact BK155.out) hb); have n2_ := Aside0.mk (blk_below (g := gb161) (o := .cells #[.int .i64 t159, .int .i64 t160] 25 (0, 0)) (by (with_reducible repeat (first | refine blk_drewN ?_ _ | refine blk_drew ?_ | refine blk_alloc ?_ _)); refine blk_put (cs := #[.int .i64 t159, .int .i64 0]) ?_ 1 _ rfl; (with_reducible repeat (first | refine blk_drewN ?_ _ | refine blk_drew ?_ | refine blk_alloc ?_ _)); refine blk_put (cs := #[.int .i64 0, .int .i64 0]) ?_ 0 _ rfl; (with_reducible repeat (first | refine blk_drewN ?_ _ | refine blk_drew ?_ | refine blk_alloc ?_ _)); exact BK161.out) hb); have n3_ := Aside0.mk (below_step (by repeat (first | (with_reducible first | exact HB.out | apply below_alloc | apply pw_below_drewN | apply below_drew1 | refine below_set ?_ GE155.out | refine below_set ?_ GE161.out) | exact HB.out)) hb); clear HO158; clear BK155; clear BK161; clear HB; have HO158 := n0_; have BK155 := n1_; have BK161 := n2_; have HB := n3_; clear n0_ n1_ n2_ n3_; (try clear hb); (try clear hb2); (try clear hk); (try clear hi)))
      go_meet
      case rel => exact ⟨_, (true), (by first | rfl | (simp; done) | (simp [*]; done)), H', ⟨by first | omega | exact Nat.le_refl _⟩, ⟨by (with_reducible repeat (first | apply Kd.R_alloc | apply Kd.R_drewN | apply Kd.R_drew)); exact HO158.out⟩, ⟨by (with_reducible repeat (first | refine blk_drewN ?_ _ | refine blk_drew ?_ | refine blk_alloc ?_ _)); exact BK155.out⟩, ⟨by (with_reducible repeat (first | refine blk_drewN ?_ _ | refine blk_drew ?_ | refine blk_alloc ?_ _)); exact BK161.out⟩, ⟨by repeat (first | (with_reducible first | exact HB.out | apply below_alloc | apply pw_below_drewN | apply below_drew1 | refine below_set ?_ GE155.out | refine below_set ?_ GE161.out) | exact HB.out)⟩⟩
  case rest =>
    clear HC3
    try clear c1
    try clear c2
    try clear p2
    try clear c8
    try clear c9
    try clear c11
    try clear c13
    try clear hcz14_0
    try clear hcz14_1
    try clear hcz5_0
    try clear hcz5_1
    try clear hcz5_2
    try clear hcz9_0
    try clear hcz9_1
    try clear hfz14_0
    try clear hfz14_1
    try clear hfz5_0
    try clear hfz5_1
    try clear hfz5_2
    try clear hfz9_0
    try clear hfz9_1
    obtain ⟨kq, x22_2, rfl, HA, HJ2, HO_3, BK155, BK161, HB⟩ := hcut
    cases kq with
    | zero => exact absurd HA.out (by simp [posthouselaw3_EnvelopesOfDomainsJoin.j0])
    | succ kj2 =>
      have H := HA.out
      clear HA
      simp only [posthouselaw3_EnvelopesOfDomainsJoin.j0] at H
      by_cases c16 : x22_2 = true
      · subst c16
        have H1 : ((posthouselaw3_envelopes.f kj2).bind fun t163 => (if t163 = true then (some ((t156.length : Int) == 0)) else (some false))) = some r := by rw [if_pos rfl] at H; exact H
        clear H
        have H := H1
        clear H1
        replace H := Option.bind_eq_some_iff.mp H
        obtain ⟨t163, A170, H⟩ := H
        replace H : (if t163 = true then (some ((t156.length : Int) == 0)) else (some false)) = some r := H
        have A17 := Aside0.mk A170
        clear A170
        by_cases c18 : t163 = true
        · subst c18
          have H1 : (some ((t156.length : Int) == 0)) = some r := by rw [if_pos rfl] at H; exact H
          clear H
          have H := H1
          clear H1
          obtain rfl := Option.some.inj H
          go_wp2_with (first | ((with_reducible refine gate_callee (f := 29) rfl ?_); refine goesL_ (some 23) rfl rfl Tryd.func29 (by kernel_rfl) rfl #[] rfl (by (try simp only [List.map_toArray, List.map_cons, List.map_nil]); first | done | rfl | (simp only [List.length_drop, List.length_take]; rfl)) ?_; (with_reducible refine (posthouselaw3_envelopes.calls kj2  true _ A17.out).mono ?_); rintro e w19 ⟨rfl, hb⟩; refine ⟨_, rfl, ?_⟩; have n0_ := Aside0.mk (Kd.R_below (by (with_reducible repeat (first | apply Kd.R_alloc | apply Kd.R_drewN | apply Kd.R_drew)); exact HO_3.out) hb); have n1_ := Aside0.mk (blk_below (g := gb155) (o := .cells #[.string a0_0, .slice A0_1 l0_1.length c0_1, .string a0_2] 41 (0, 0)) (by (with_reducible repeat (first | refine blk_drewN ?_ _ | refine blk_drew ?_ | refine blk_alloc ?_ _)); exact BK155.out) hb); have n2_ := Aside0.mk (blk_below (g := gb161) (o := .cells #[.int .i64 t159, .int .i64 t160] 25 (0, 0)) (by (with_reducible repeat (first | refine blk_drewN ?_ _ | refine blk_drew ?_ | refine blk_alloc ?_ _)); exact BK161.out) hb); have n3_ := Aside0.mk (below_step (by repeat (first | (with_reducible first | exact HB.out | apply below_alloc | apply pw_below_drewN | apply below_drew1 | refine below_set ?_ GE155.out | refine below_set ?_ GE161.out) | exact HB.out)) hb); clear HO_3; clear BK155; clear BK161; clear HB; have HO_3 := n0_; have BK155 := n1_; have BK161 := n2_; have HB := n3_; clear n0_ n1_ n2_ n3_; (try clear hb); (try clear hb2); (try clear hk); (try clear hi); obtain ⟨Ao20, co20, eo20⟩ := Kd.R_slice HO_3.out; subst eo20))
          go_ret
          exact ⟨by first | rfl | (simp [errW_none, errW_some] <;> rfl) | (simp [*, errW_none, errW_some] <;> rfl), by repeat (first | (with_reducible first | exact HB.out | apply below_alloc | apply pw_below_drewN | apply below_drew1 | refine below_set ?_ GE155.out | refine below_set ?_ GE161.out) | exact HB.out)⟩
        · replace c18 := Bool.eq_false_iff.mpr c18
          subst c18
          have H1 : (some false) = some r := by rw [if_neg (show ¬ (false = true) by decide)] at H; exact H
          clear H
          have H := H1
          clear H1
          exact absurd ((Option.some.inj H).trans HR_.out) (by decide)
      · replace c16 := Bool.eq_false_iff.mpr c16
        subst c16
        have H1 : (posthouselaw3_EnvelopesOfDomainsJoin.l0 kj2 t156 ([] : List (S48)) 0 a0_0 l0_1 a0_2) = some r := by rw [if_neg (show ¬ (false = true) by decide)] at H; exact H
        clear H
        have H := H1
        clear H1
        have H' := Aside0.mk H
        clear H
        go_wp2
        go_loopg [5, 6] kj2 (fun kq v5 v6 w' => ∃ (x5_2 : List (S48)) (x6_2 : Int), v6 = .int .i64 x6_2 ∧ Aside0 (posthouselaw3_EnvelopesOfDomainsJoin.l0 kq t156 x5_2 x6_2 a0_0 l0_1 a0_2 = some r) ∧ Aside0 (kq ≤ kj2) ∧ Aside0 (Kd.R Kd.string 9 w' w.heap.size (fun _ => True) v157 t156) ∧ Aside0 (Kd.R k48 48 w' w.heap.size (fun _ => True) v5 x5_2) ∧ Aside0 (w'.heap[gb155]? = some (.cells #[.string a0_0, (.slice A0_1 l0_1.length c0_1), .string a0_2] 41 (0, 0))) ∧ Aside0 (w'.heap[gb161]? = some (.cells #[.int .i64 t159, .int .i64 t160] 25 (0, 0))) ∧ Aside0 (Below w.heap.size w w'))
        case atStart => exact ⟨(([] : List (S48))), (0), (by first | rfl | (simp; done) | (simp [*]; done)), H', ⟨Nat.le_refl _⟩, ⟨by (with_reducible repeat (first | apply Kd.R_alloc | apply Kd.R_drewN | apply Kd.R_drew)); exact HO_3.out⟩, ⟨by first | exact Kd.R_nil _ _ _ _ _ | exact Kd.N_nil _ _ _ _ _ | exact Kd.V_nil _ _ _ _ _ | exact Kd.Q_nil _ _ _ _ _ | exact Kd.S_nil _ _ _ _ _⟩, ⟨by (with_reducible repeat (first | refine blk_drewN ?_ _ | refine blk_drew ?_ | refine blk_alloc ?_ _)); exact BK155.out⟩, ⟨by (with_reducible repeat (first | refine blk_drewN ?_ _ | refine blk_drew ?_ | refine blk_alloc ?_ _)); exact BK161.out⟩, ⟨by repeat (first | (with_reducible first | exact HB.out | apply below_alloc | apply pw_below_drewN | apply below_drew1 | refine below_set ?_ GE155.out | refine below_set ?_ GE161.out) | exact HB.out)⟩⟩
        case round =>
          clear H'
          try clear c1
          try clear c2
          try clear p2
          try clear c8
          try clear c9
          try clear c11
          try clear c13
          try clear c16
          try clear c18
          try clear hcz14_0
          try clear hcz14_1
          try clear hcz5_0
          try clear hcz5_1
          try clear hcz5_2
          try clear hcz9_0
          try clear hcz9_1
          try clear hfz14_0
          try clear hfz14_1
          try clear hfz5_0
          try clear hfz5_1
          try clear hfz5_2
          try clear hfz9_0
          try clear hfz9_1
          try clear p2
          obtain ⟨x5_2, x6_2, rfl, HA, HK2, HO_3, HO_5, BK155, BK161, HB⟩ := hrel
          cases gk with
          | zero => exact absurd HA.out (by simp [posthouselaw3_EnvelopesOfDomainsJoin.l0])
          | succ k2 =>
            have H := HA.out
            clear HA
            simp only [posthouselaw3_EnvelopesOfDomainsJoin.l0] at H
            by_cases c21 : x6_2 < (t156.length : Int)
            · rw [if_pos c21] at H
              have c21b0 : decide (x6_2 < (t156.length : Int)) = true := decide_eq_true c21
              clear c21
              by_cases c22 : 0 ≤ x6_2
              · rw [if_pos c22] at H
                have c22b0 : decide (0 ≤ x6_2) = true := decide_eq_true c22
                clear c22
                replace H := Option.bind_eq_some_iff.mp H
                obtain ⟨⟨t165, t166, t169, t170, t171⟩, A230, H⟩ := H
                replace H : (if t170 = 0 then ((envelope_Validate.f k2 t165 t166 t169).bind fun bt174 => (if (!(bt174.1 == 0) || (!(bt174.2 == 0))) = true then (some false) else (if x5_2.length + t166.length < 5864062014805 then (posthouselaw3_EnvelopesOfDomainsJoin.l0 k2 t156 (x5_2 ++ t166) (wrap64 (x6_2 + 1)) a0_0 l0_1 a0_2) else (none)))) else (some false)) = some r := H
                have A23 := Aside0.mk A230
                clear A230
                by_cases c24 : t170 = 0
                · rw [if_pos c24] at H
                  have c24b0 : (t170 == 0) = true := beq_iff_eq.mpr c24
                  have c24b1 : (t170 != 0) = false := bne_eq_false_iff_eq.mpr c24
                  clear c24
                  replace H := Option.bind_eq_some_iff.mp H
                  obtain ⟨⟨t174, t175⟩, A250, H⟩ := H
                  replace H : (if (!(t174 == 0) || (!(t175 == 0))) = true then (some false) else (if x5_2.length + t166.length < 5864062014805 then (posthouselaw3_EnvelopesOfDomainsJoin.l0 k2 t156 (x5_2 ++ t166) (wrap64 (x6_2 + 1)) a0_0 l0_1 a0_2) else (none))) = some r := H
                  have A25 := Aside0.mk A250
                  clear A250
                  by_cases c26 : (!(t174 == 0) || (!(t175 == 0))) = true
                  · rw [if_pos c26] at H
                    have c26b0 : (!(t174 == 0) || (!(t175 == 0))) = true := c26
                    clear c26
                    exact absurd ((Option.some.inj H).trans HR_.out) (by decide)
                  · rw [if_neg c26] at H
                    have c26b0 : (!(t174 == 0) || (!(t175 == 0))) = false := by simpa using c26
                    clear c26
                    by_cases c27 : x5_2.length + t166.length < 5864062014805
                    · rw [if_pos c27] at H
                      have LMc27 := Aside0.mk c27
                      clear c27
                      obtain ⟨y176, hy176⟩ : ∃ y_ : List (S48), y_ = (x5_2 ++ t166) := ⟨_, rfl⟩
                      replace H : (posthouselaw3_EnvelopesOfDomainsJoin.l0 k2 t156 y176 (wrap64 (x6_2 + 1)) a0_0 l0_1 a0_2) = some r := by first | (rw [hy176]; with_reducible exact H) | (have H2_ := (Option.bind_some _ _).symm.trans H; rw [hy176]; with_reducible exact H2_) | (have H2_ := (Option.bind_some _ _).symm.trans H; with_reducible exact H2_) | with_reducible exact H | (rw [hy176]; exact H) | exact H
                      have Ny176 := Aside0.mk hy176
                      clear hy176
                      have H' := Aside0.mk H
                      clear H
                      obtain ⟨Ao28, co28, eo28⟩ := Kd.R_slice HO_3.out
                      subst eo28
                      try go_wp2
                      have n0_ := Aside0.mk (Kd.R_drew HO_3.out)
                      have n1_ := Aside0.mk (Kd.R_drew HO_5.out)
                      have n2_ := Aside0.mk (blk_drew BK155.out)
                      have n3_ := Aside0.mk (blk_drew BK161.out)
                      have n4_ := Aside0.mk (below_drew1 HB.out)
                      clear HO_3
                      clear HO_5
                      clear BK155
                      clear BK161
                      clear HB
                      have HO_3 := n0_
                      have HO_5 := n1_
                      have BK155 := n2_
                      have BK161 := n3_
                      have HB := n4_
                      clear n0_ n1_ n2_ n3_ n4_
                      have p164 : 0 ≤ (x6_2 : Int) := of_decide_eq_true (by first | (with_reducible assumption) | assumption)
                      have q164 : x6_2 < (t156.length : Int) := of_decide_eq_true (by first | (with_reducible assumption) | assumption)
                      obtain ⟨ad164, e164, hx164_0⟩ := Kd.at_string (Kd.R_reads' HO_3.out).2.2 x6_2 p164 q164
                      cases e164
                      replace p164 := eq_true p164
                      replace q164 := eq_true q164
                      refine start_ (n := 13) (S := fun w' => w'.cell? ⟨gb155, 0, none⟩ = some (.string a0_0) ∧ w'.cell? ⟨gb155, 1, none⟩ = some (.slice A0_1 l0_1.length c0_1) ∧ w'.cell? ⟨gb155, 2, none⟩ = some (.string a0_2) ∧ w'.cell? (ad164.add (x6_2).toNat) = some (.string (rdOf ByteArray.empty t156 x6_2))) (ds := []) #[false, false, false, false, false, false, false, false, false, false, false, false, false] (by kernel_rfl) rfl rfl ⟨(blk_cell BK155.out 0).trans rfl, (blk_cell BK155.out 1).trans rfl, (blk_cell BK155.out 2).trans rfl, hx164_0⟩ (fun hHeld => ?_); refine with_tabW posthouselaw3_EnvelopesOfDomainsJoin.tab8 posthouselaw3_EnvelopesOfDomainsJoin.bits8 (fun HT_ HW_ => ?_)
                      generalize wr.drew = w29 at HO_3 HO_5 BK155 BK161 HB hx164_0 hHeld ⊢
                      refine pure_ (i := 1) (N := some 37) (v := ?_) (a' := ?_) #[false, true, false, false, false, false, false, false, false, false, false, false, false] rfl rfl (any_of HT_.out (by kernel_rfl)) (fun _ _ _ h => h) (Or.inl ⟨by rfl, ?_⟩) ?_ ?_
                      rotate_left
                      · intro w'
                        go_simp
                        with_reducible rfl
                      rotate_left
                      · simp only [Act.put, List.setIfInBounds_toArray, List.set_cons_zero, List.set_cons_succ, i64_w, i32_w]
                        rfl
                      refine pure_ (i := 2) (N := some 38) (v := ?_) (a' := ?_) #[false, true, true, false, false, false, false, false, false, false, false, false, false] rfl rfl (any_of HT_.out (by kernel_rfl)) (fun _ _ _ h => h) (Or.inl ⟨by rfl, ?_⟩) ?_ ?_
                      rotate_left
                      · intro w'
                        go_simp
                        with_reducible rfl
                      rotate_left
                      · simp only [Act.put, List.setIfInBounds_toArray, List.set_cons_zero, List.set_cons_succ, i64_w, i32_w]
                        rfl
                      refine pure_ (i := 3) (N := some 39) (v := ?_) (a' := ?_) #[false, true, true, true, false, false, false, false, false, false, false, false, false] rfl rfl (any_of HT_.out (by kernel_rfl)) (fun _ _ _ h => h) (Or.inl ⟨by rfl, ?_⟩) ?_ ?_
                      rotate_left
                      · intro w'
                        go_simp
                        with_reducible rfl
                      rotate_left
                      · simp only [Act.put, List.setIfInBounds_toArray, List.set_cons_zero, List.set_cons_succ, i64_w, i32_w]
                        rfl
                      refine take_ (i := 0) (N := some 36) (v := ?_) (a' := ?_) #[true, true, true, true, false, false, false, false, false, false, false, false, false] rfl rfl (take_ofW HT_.out HW_.out (by kernel_rfl)) (fun _ _ _ h => h) (Or.inl ⟨by rfl, ?_⟩) hHeld ?_ ?_
                      rotate_left
                      · rintro w' ⟨s0, s1, s2, s3⟩
                        go_simp
                        with_reducible rfl
                      rotate_left
                      · simp only [Act.put, List.setIfInBounds_toArray, List.set_cons_zero, List.set_cons_succ, i64_w, i32_w]
                        rfl
                      refine take_ (i := 4) (N := some 40) (v := ?_) (a' := ?_) #[true, true, true, true, true, false, false, false, false, false, false, false, false] rfl rfl (take_ofW HT_.out HW_.out (by kernel_rfl)) (fun _ _ _ h => h) (Or.inl ⟨by rfl, ?_⟩) hHeld ?_ ?_
                      rotate_left
                      · rintro w' ⟨s0, s1, s2, s3⟩
                        go_simp
                        with_reducible rfl
                      rotate_left
                      · simp only [Act.put, List.setIfInBounds_toArray, List.set_cons_zero, List.set_cons_succ, i64_w, i32_w]
                        rfl
                      refine join_ (σ := Value × Nat × Nat) 2 #[true, true, true, true, true, true, true, true, true, true, true, false, false] (fun s_ => [(41, .tuple #[.agg #[.string t165, s_.1, .string t169], .agg #[.int .i64 t170, .int .i64 t171]]), (7, .pointer (some ⟨s_.2.1, 0, none⟩)), (8, .pointer (some ⟨s_.2.2, 0, none⟩)), (35, .tuple #[.agg #[.string t165, s_.1, .string t169], .agg #[.int .i64 t170, .int .i64 t171]]), (42, .agg #[.string t165, s_.1, .string t169]), (43, .agg #[.int .i64 t170, .int .i64 t171])]) (fun s_ w' => (w'.cell? ⟨gb155, 0, none⟩ = some (.string a0_0) ∧ w'.cell? ⟨gb155, 1, none⟩ = some (.slice A0_1 l0_1.length c0_1) ∧ w'.cell? ⟨gb155, 2, none⟩ = some (.string a0_2) ∧ w'.cell? (ad164.add (x6_2).toNat) = some (.string (rdOf ByteArray.empty t156 x6_2))) ∧ (Kd.R k48 48 w' w.heap.size (fun k_ => some k_ ≠ (u5 : Value).ownBlock) s_.1 t166) ∧ (Kd.R Kd.string 9 w' w.heap.size (fun _ => True) (.slice (some ad164) t156.length co28) t156) ∧ (Kd.R k48 48 w' w.heap.size (fun k_ => some k_ ≠ (s_.1 : Value).ownBlock) u5 x5_2) ∧ (w'.heap[gb155]? = some (.cells #[.string a0_0, .slice A0_1 l0_1.length c0_1, .string a0_2] 41 (0, 0))) ∧ (w'.heap[gb161]? = some (.cells #[.int .i64 t159, .int .i64 t160] 25 (0, 0))) ∧ (w'.heap[s_.2.1]? = some (.cells #[.string (⟨#[]⟩ : ByteArray), .slice none 0 0, .string (⟨#[]⟩ : ByteArray)] 41 (0, 0))) ∧ (w'.heap[s_.2.2]? = some (.cells #[.int .i64 0, .int .i64 0] 25 (0, 0))) ∧ (w.heap.size ≤ s_.2.1) ∧ (w.heap.size ≤ s_.2.1) ∧ (gb155 ≠ s_.2.1) ∧ (s_.2.1 ≠ gb155) ∧ (gb161 ≠ s_.2.1) ∧ (s_.2.1 ≠ gb161) ∧ (s_.2.2 ≠ s_.2.1) ∧ (s_.2.1 ≠ s_.2.2) ∧ (w.heap.size ≤ s_.2.2) ∧ (w.heap.size ≤ s_.2.2) ∧ (gb155 ≠ s_.2.2) ∧ (s_.2.2 ≠ gb155) ∧ (gb161 ≠ s_.2.2) ∧ (s_.2.2 ≠ gb161) ∧ (Below w.heap.size w w')) ?_ ?_
                      rotate_left
                      · intro hJ5_9_10
                        refine join_ (σ := Value × Nat) 3 #[true, true, true, true, true, true, true, true, true, true, false, false, false] (fun s_ => [(41, .tuple #[.agg #[.string t165, s_.1, .string t169], .agg #[.int .i64 t170, .int .i64 t171]]), (7, .pointer (some ⟨s_.2, 0, none⟩)), (35, .tuple #[.agg #[.string t165, s_.1, .string t169], .agg #[.int .i64 t170, .int .i64 t171]]), (42, .agg #[.string t165, s_.1, .string t169]), (43, .agg #[.int .i64 t170, .int .i64 t171])]) (fun s_ w' => (w'.cell? ⟨gb155, 0, none⟩ = some (.string a0_0) ∧ w'.cell? ⟨gb155, 1, none⟩ = some (.slice A0_1 l0_1.length c0_1) ∧ w'.cell? ⟨gb155, 2, none⟩ = some (.string a0_2) ∧ w'.cell? (ad164.add (x6_2).toNat) = some (.string (rdOf ByteArray.empty t156 x6_2))) ∧ (Kd.R k48 48 w' w.heap.size (fun k_ => some k_ ≠ (u5 : Value).ownBlock) s_.1 t166) ∧ (Kd.R Kd.string 9 w' w.heap.size (fun _ => True) (.slice (some ad164) t156.length co28) t156) ∧ (Kd.R k48 48 w' w.heap.size (fun k_ => some k_ ≠ (s_.1 : Value).ownBlock) u5 x5_2) ∧ (w'.heap[gb155]? = some (.cells #[.string a0_0, .slice A0_1 l0_1.length c0_1, .string a0_2] 41 (0, 0))) ∧ (w'.heap[gb161]? = some (.cells #[.int .i64 t159, .int .i64 t160] 25 (0, 0))) ∧ (w'.heap[s_.2]? = some (.cells #[.string (⟨#[]⟩ : ByteArray), .slice none 0 0, .string (⟨#[]⟩ : ByteArray)] 41 (0, 0))) ∧ (w.heap.size ≤ s_.2) ∧ (w.heap.size ≤ s_.2) ∧ (gb155 ≠ s_.2) ∧ (s_.2 ≠ gb155) ∧ (gb161 ≠ s_.2) ∧ (s_.2 ≠ gb161) ∧ (Below w.heap.size w w')) ?_ ?_
                        rotate_left
                        · intro hJ5_9
                          refine join_ (σ := Value × Nat) 3 #[true, true, true, true, true, true, true, true, true, false, true, false, false] (fun s_ => [(41, .tuple #[.agg #[.string t165, s_.1, .string t169], .agg #[.int .i64 t170, .int .i64 t171]]), (8, .pointer (some ⟨s_.2, 0, none⟩)), (35, .tuple #[.agg #[.string t165, s_.1, .string t169], .agg #[.int .i64 t170, .int .i64 t171]]), (42, .agg #[.string t165, s_.1, .string t169]), (43, .agg #[.int .i64 t170, .int .i64 t171])]) (fun s_ w' => (w'.cell? ⟨gb155, 0, none⟩ = some (.string a0_0) ∧ w'.cell? ⟨gb155, 1, none⟩ = some (.slice A0_1 l0_1.length c0_1) ∧ w'.cell? ⟨gb155, 2, none⟩ = some (.string a0_2) ∧ w'.cell? (ad164.add (x6_2).toNat) = some (.string (rdOf ByteArray.empty t156 x6_2))) ∧ (Kd.R k48 48 w' w.heap.size (fun k_ => some k_ ≠ (u5 : Value).ownBlock) s_.1 t166) ∧ (Kd.R Kd.string 9 w' w.heap.size (fun _ => True) (.slice (some ad164) t156.length co28) t156) ∧ (Kd.R k48 48 w' w.heap.size (fun k_ => some k_ ≠ (s_.1 : Value).ownBlock) u5 x5_2) ∧ (w'.heap[gb155]? = some (.cells #[.string a0_0, .slice A0_1 l0_1.length c0_1, .string a0_2] 41 (0, 0))) ∧ (w'.heap[gb161]? = some (.cells #[.int .i64 t159, .int .i64 t160] 25 (0, 0))) ∧ (w'.heap[s_.2]? = some (.cells #[.int .i64 0, .int .i64 0] 25 (0, 0))) ∧ (w.heap.size ≤ s_.2) ∧ (w.heap.size ≤ s_.2) ∧ (gb155 ≠ s_.2) ∧ (s_.2 ≠ gb155) ∧ (gb161 ≠ s_.2) ∧ (s_.2 ≠ gb161) ∧ (Below w.heap.size w w')) ?_ ?_
                          rotate_left
                          · intro hJ5_10
                            refine join_ (σ := Nat × Nat) 6 #[true, true, true, true, true, false, false, false, false, true, true, false, false] (fun s_ => [(7, .pointer (some ⟨s_.1, 0, none⟩)), (8, .pointer (some ⟨s_.2, 0, none⟩))]) (fun s_ w' => (w'.cell? ⟨gb155, 0, none⟩ = some (.string a0_0) ∧ w'.cell? ⟨gb155, 1, none⟩ = some (.slice A0_1 l0_1.length c0_1) ∧ w'.cell? ⟨gb155, 2, none⟩ = some (.string a0_2) ∧ w'.cell? (ad164.add (x6_2).toNat) = some (.string (rdOf ByteArray.empty t156 x6_2))) ∧ (Kd.R Kd.string 9 w' w.heap.size (fun _ => True) (.slice (some ad164) t156.length co28) t156) ∧ (Kd.R k48 48 w' w.heap.size (fun _ => True) u5 x5_2) ∧ (w'.heap[gb155]? = some (.cells #[.string a0_0, .slice A0_1 l0_1.length c0_1, .string a0_2] 41 (0, 0))) ∧ (w'.heap[gb161]? = some (.cells #[.int .i64 t159, .int .i64 t160] 25 (0, 0))) ∧ (w'.heap[s_.1]? = some (.cells #[.string (⟨#[]⟩ : ByteArray), .slice none 0 0, .string (⟨#[]⟩ : ByteArray)] 41 (0, 0))) ∧ (w'.heap[s_.2]? = some (.cells #[.int .i64 0, .int .i64 0] 25 (0, 0))) ∧ (w.heap.size ≤ s_.1) ∧ (w.heap.size ≤ s_.1) ∧ (gb155 ≠ s_.1) ∧ (s_.1 ≠ gb155) ∧ (gb161 ≠ s_.1) ∧ (s_.1 ≠ gb161) ∧ (s_.2 ≠ s_.1) ∧ (s_.1 ≠ s_.2) ∧ (w.heap.size ≤ s_.2) ∧ (w.heap.size ≤ s_.2) ∧ (gb155 ≠ s_.2) ∧ (s_.2 ≠ gb155) ∧ (gb161 ≠ s_.2) ∧ (s_.2 ≠ gb161) ∧ (Below w.heap.size w w')) ?_ ?_
                            rotate_left
                            · intro hJ9_10
                              refine join_ (σ := Value) 4 #[true, true, true, true, true, true, true, true, true, false, false, false, false] (fun s_ => [(41, .tuple #[.agg #[.string t165, s_, .string t169], .agg #[.int .i64 t170, .int .i64 t171]]), (35, .tuple #[.agg #[.string t165, s_, .string t169], .agg #[.int .i64 t170, .int .i64 t171]]), (42, .agg #[.string t165, s_, .string t169]), (43, .agg #[.int .i64 t170, .int .i64 t171])]) (fun s_ w' => (w'.cell? ⟨gb155, 0, none⟩ = some (.string a0_0) ∧ w'.cell? ⟨gb155, 1, none⟩ = some (.slice A0_1 l0_1.length c0_1) ∧ w'.cell? ⟨gb155, 2, none⟩ = some (.string a0_2) ∧ w'.cell? (ad164.add (x6_2).toNat) = some (.string (rdOf ByteArray.empty t156 x6_2))) ∧ (Kd.R k48 48 w' w.heap.size (fun k_ => some k_ ≠ (u5 : Value).ownBlock) s_ t166) ∧ (Kd.R Kd.string 9 w' w.heap.size (fun _ => True) (.slice (some ad164) t156.length co28) t156) ∧ (Kd.R k48 48 w' w.heap.size (fun k_ => some k_ ≠ (s_ : Value).ownBlock) u5 x5_2) ∧ (w'.heap[gb155]? = some (.cells #[.string a0_0, .slice A0_1 l0_1.length c0_1, .string a0_2] 41 (0, 0))) ∧ (w'.heap[gb161]? = some (.cells #[.int .i64 t159, .int .i64 t160] 25 (0, 0))) ∧ (Below w.heap.size w w')) ?_ ?_
                              rotate_left
                              · intro hJ5
                                refine join_ (σ := Nat) 7 #[true, true, true, true, true, false, false, false, false, true, false, false, false] (fun s_ => [(7, .pointer (some ⟨s_, 0, none⟩))]) (fun s_ w' => (w'.cell? ⟨gb155, 0, none⟩ = some (.string a0_0) ∧ w'.cell? ⟨gb155, 1, none⟩ = some (.slice A0_1 l0_1.length c0_1) ∧ w'.cell? ⟨gb155, 2, none⟩ = some (.string a0_2) ∧ w'.cell? (ad164.add (x6_2).toNat) = some (.string (rdOf ByteArray.empty t156 x6_2))) ∧ (Kd.R Kd.string 9 w' w.heap.size (fun _ => True) (.slice (some ad164) t156.length co28) t156) ∧ (Kd.R k48 48 w' w.heap.size (fun _ => True) u5 x5_2) ∧ (w'.heap[gb155]? = some (.cells #[.string a0_0, .slice A0_1 l0_1.length c0_1, .string a0_2] 41 (0, 0))) ∧ (w'.heap[gb161]? = some (.cells #[.int .i64 t159, .int .i64 t160] 25 (0, 0))) ∧ (w'.heap[s_]? = some (.cells #[.string (⟨#[]⟩ : ByteArray), .slice none 0 0, .string (⟨#[]⟩ : ByteArray)] 41 (0, 0))) ∧ (w.heap.size ≤ s_) ∧ (w.heap.size ≤ s_) ∧ (gb155 ≠ s_) ∧ (s_ ≠ gb155) ∧ (gb161 ≠ s_) ∧ (s_ ≠ gb161) ∧ (Below w.heap.size w w')) ?_ ?_
                                rotate_left
                                · intro hJ9
                                  refine join_ (σ := Nat) 7 #[true, true, true, true, true, false, false, false, false, false, true, false, false] (fun s_ => [(8, .pointer (some ⟨s_, 0, none⟩))]) (fun s_ w' => (w'.cell? ⟨gb155, 0, none⟩ = some (.string a0_0) ∧ w'.cell? ⟨gb155, 1, none⟩ = some (.slice A0_1 l0_1.length c0_1) ∧ w'.cell? ⟨gb155, 2, none⟩ = some (.string a0_2) ∧ w'.cell? (ad164.add (x6_2).toNat) = some (.string (rdOf ByteArray.empty t156 x6_2))) ∧ (Kd.R Kd.string 9 w' w.heap.size (fun _ => True) (.slice (some ad164) t156.length co28) t156) ∧ (Kd.R k48 48 w' w.heap.size (fun _ => True) u5 x5_2) ∧ (w'.heap[gb155]? = some (.cells #[.string a0_0, .slice A0_1 l0_1.length c0_1, .string a0_2] 41 (0, 0))) ∧ (w'.heap[gb161]? = some (.cells #[.int .i64 t159, .int .i64 t160] 25 (0, 0))) ∧ (w'.heap[s_]? = some (.cells #[.int .i64 0, .int .i64 0] 25 (0, 0))) ∧ (w.heap.size ≤ s_) ∧ (w.heap.size ≤ s_) ∧ (gb155 ≠ s_) ∧ (s_ ≠ gb155) ∧ (gb161 ≠ s_) ∧ (s_ ≠ gb161) ∧ (Below w.heap.size w w')) ?_ ?_
                                  rotate_left
                                  · intro hJ10
                                    refine three_ (i := 5) (j := 9) (k := 10) (Ni := some 41) (Nj := some 7) (Nk := some 8) #[true, true, true, true, true, true, false, false, false, false, false, false, false] #[true, true, true, true, true, false, false, false, false, true, false, false, false] #[true, true, true, true, true, false, false, false, false, false, true, false, false] rfl rfl rfl rfl rfl rfl (three_of HT_.out (by kernel_rfl)) (by decide) (by decide) (by decide) (fun K hK => ?_) (fun K hK => ?_) (fun K hK => ?_)
                                    · skip
                                      refine goes_ Tryd.func28 (by kernel_rfl) rfl #[.agg #[.string a0_0, .slice A0_1 l0_1.length c0_1, .string a0_2], .string (rdOf ByteArray.empty t156 x6_2)] (by rfl) rfl rfl (by (try simp only [List.map_toArray, List.map_cons, List.map_nil]); first | done | rfl | (simp only [List.length_drop, List.length_take]; rfl)) ?_
                                      with_reducible refine (envelope_For.calls k2 a0_0 _ _ l0_1 a0_2 (rdOf ByteArray.empty t156 x6_2) t165 t166 t169 t170 t171 _ ?side1 ?side2 A23.out).mono ?_
                                      (case side1 => repeat (first | exact (Kd.C_below HR0_1.out HB.out) | (with_reducible refine Kd.C_alloc ?_ _) | (with_reducible refine Kd.C_drewN ?_ _) | (with_reducible refine Kd.C_drew ?_)))
                                      (case side2 => exact HC0_1.out)
                                      rintro e w30 ⟨v167, rfl, ho0, hb⟩
                                      have HS3_ := (hb.cell (World.block_lt_of_cell? _ _ (hHeld.2.2.2))).trans (hHeld.2.2.2)
                                      refine ⟨_, rfl, ?_⟩
                                      have n0_ := Aside0.mk (Kd.R_below (by (with_reducible repeat (first | apply Kd.R_alloc | apply Kd.R_drewN | apply Kd.R_drew)); exact HO_3.out) hb)
                                      have n1_ := Aside0.mk (Kd.R_elder' (by (with_reducible repeat (first | apply Kd.R_alloc | apply Kd.R_drewN | apply Kd.R_drew)); exact HO_5.out) (Kd.R_base ho0) hb)
                                      have n2_ := Aside0.mk (Kd.R_lower (Kd.R_new' ho0 (Kd.R_lt (by (with_reducible repeat (first | apply Kd.R_alloc | apply Kd.R_drewN | apply Kd.R_drew)); exact HO_5.out))) (below_size (by repeat (first | (with_reducible first | exact HB.out | apply below_alloc | apply pw_below_drewN | apply below_drew1 | refine below_set ?_ GE155.out | refine below_set ?_ GE161.out) | exact HB.out))))
                                      have n3_ := Aside0.mk (blk_below (g := gb155) (o := .cells #[.string a0_0, .slice A0_1 l0_1.length c0_1, .string a0_2] 41 (0, 0)) (by (with_reducible repeat (first | refine blk_drewN ?_ _ | refine blk_drew ?_ | refine blk_alloc ?_ _)); exact BK155.out) hb)
                                      have n4_ := Aside0.mk (blk_below (g := gb161) (o := .cells #[.int .i64 t159, .int .i64 t160] 25 (0, 0)) (by (with_reducible repeat (first | refine blk_drewN ?_ _ | refine blk_drew ?_ | refine blk_alloc ?_ _)); exact BK161.out) hb)
                                      have n5_ := Aside0.mk (below_step (by repeat (first | (with_reducible first | exact HB.out | apply below_alloc | apply pw_below_drewN | apply below_drew1 | refine below_set ?_ GE155.out | refine below_set ?_ GE161.out) | exact HB.out)) hb)
                                      clear HO_3
                                      clear HO_5
                                      clear BK155
                                      clear BK161
                                      clear HB
                                      have HO_3 := n0_
                                      have HO_5 := n1_
                                      have HO168 := n2_
                                      have BK155 := n3_
                                      have BK161 := n4_
                                      have HB := n5_
                                      clear n0_ n1_ n2_ n3_ n4_ n5_
                                      (try clear hb)
                                      (try clear hb2)
                                      (try clear hk)
                                      (try clear hi)
                                      (try clear ho0)
                                      refine hK.out _ _ ⟨(blk_cell BK155.out 0).trans rfl, (blk_cell BK155.out 1).trans rfl, (blk_cell BK155.out 2).trans rfl, HS3_⟩ (fun hHeld => ?_)
                                      clear hK K
                                      refine norm_ (a' := ?_) ?_ ?_
                                      rotate_left
                                      · show Act.put _ (some 41) _ = _
                                        simp only [Act.put, List.setIfInBounds_toArray, List.set_cons_zero, List.set_cons_succ, i64_w, i32_w]
                                        rfl
                                      refine pure_ (i := 6) (N := some 35) (v := ?_) (a' := ?_) #[true, true, true, true, true, true, true, false, false, false, false, false, false] rfl rfl (any_of HT_.out (by kernel_rfl)) (fun _ _ _ h => h) (Or.inl ⟨by rfl, ?_⟩) ?_ ?_
                                      rotate_left
                                      · intro w'
                                        go_simp
                                        with_reducible rfl
                                      rotate_left
                                      · simp only [Act.put, List.setIfInBounds_toArray, List.set_cons_zero, List.set_cons_succ, i64_w, i32_w]
                                        rfl
                                      refine pure_ (i := 7) (N := some 42) (v := ?_) (a' := ?_) #[true, true, true, true, true, true, true, true, false, false, false, false, false] rfl rfl (any_of HT_.out (by kernel_rfl)) (fun _ _ _ h => h) (Or.inl ⟨by rfl, ?_⟩) ?_ ?_
                                      rotate_left
                                      · intro w'
                                        go_simp
                                        with_reducible rfl
                                      rotate_left
                                      · simp only [Act.put, List.setIfInBounds_toArray, List.set_cons_zero, List.set_cons_succ, i64_w, i32_w]
                                        rfl
                                      refine pure_ (i := 8) (N := some 43) (v := ?_) (a' := ?_) #[true, true, true, true, true, true, true, true, true, false, false, false, false] rfl rfl (any_of HT_.out (by kernel_rfl)) (fun _ _ _ h => h) (Or.inl ⟨by rfl, ?_⟩) ?_ ?_
                                      rotate_left
                                      · intro w'
                                        go_simp
                                        with_reducible rfl
                                      rotate_left
                                      · simp only [Act.put, List.setIfInBounds_toArray, List.set_cons_zero, List.set_cons_succ, i64_w, i32_w]
                                        rfl
                                      exact norm_ (by first | (simp only [putAll, Act.put, List.setIfInBounds_toArray, List.set_cons_zero, List.set_cons_succ]; done) | (simp only [putAll, Act.put, List.setIfInBounds_toArray, List.set_cons_zero, List.set_cons_succ]; rfl)) (hJ5 (v167) _ ⟨hHeld, (by (with_reducible repeat (first | apply Kd.R_alloc | apply Kd.R_drewN | apply Kd.R_drew)); exact Kd.R_mono HO168.out (fun _ hk => hk.2)), (by (with_reducible repeat (first | apply Kd.R_alloc | apply Kd.R_drewN | apply Kd.R_drew)); exact HO_3.out), (by (with_reducible repeat (first | apply Kd.R_alloc | apply Kd.R_drewN | apply Kd.R_drew)); exact Kd.R_mono HO_5.out (fun _ hk => hk.2)), (by (with_reducible repeat (first | refine blk_drewN ?_ _ | refine blk_drew ?_ | refine blk_alloc ?_ _)); exact BK155.out), (by (with_reducible repeat (first | refine blk_drewN ?_ _ | refine blk_drew ?_ | refine blk_alloc ?_ _)); exact BK161.out), (by repeat (first | (with_reducible first | exact HB.out | apply below_alloc | apply pw_below_drewN | apply below_drew1 | refine below_set ?_ GE155.out | refine below_set ?_ GE161.out) | exact HB.out))⟩)
                                    · skip
                                      refine box_step ?hg (N := 7) ?hd (cs := #[.string (⟨#[]⟩ : ByteArray), .slice none 0 0, .string (⟨#[]⟩ : ByteArray)]) (t := 41) ?hr ?_; (case hd => rfl); (case hg => rfl); (case hr => first | (go_simp; done) | (go_simp; rfl))
                                      intro gb172 hg w30 hbox hb
                                      have HS3_ := (hb.cell (World.block_lt_of_cell? _ _ (hHeld.2.2.2))).trans (hHeld.2.2.2)
                                      have n0_ := Aside0.mk (Kd.R_below (by (with_reducible repeat (first | apply Kd.R_alloc | apply Kd.R_drewN | apply Kd.R_drew)); exact HO_3.out) hb)
                                      have n1_ := Aside0.mk (Kd.R_below (by (with_reducible repeat (first | apply Kd.R_alloc | apply Kd.R_drewN | apply Kd.R_drew)); exact HO_5.out) hb)
                                      have n2_ := Aside0.mk (blk_below (g := gb155) (o := .cells #[.string a0_0, .slice A0_1 l0_1.length c0_1, .string a0_2] 41 (0, 0)) (by (with_reducible repeat (first | refine blk_drewN ?_ _ | refine blk_drew ?_ | refine blk_alloc ?_ _)); exact BK155.out) hb)
                                      have n3_ := Aside0.mk (blk_below (g := gb161) (o := .cells #[.int .i64 t159, .int .i64 t160] 25 (0, 0)) (by (with_reducible repeat (first | refine blk_drewN ?_ _ | refine blk_drew ?_ | refine blk_alloc ?_ _)); exact BK161.out) hb)
                                      have n4_ := Aside0.mk (below_step (by repeat (first | (with_reducible first | exact HB.out | apply below_alloc | apply pw_below_drewN | apply below_drew1 | refine below_set ?_ GE155.out | refine below_set ?_ GE161.out) | exact HB.out)) hb)
                                      have n5_ := Aside0.mk (hbox)
                                      have n6_ := Aside0.mk ((by rw [hg]; exact (below_size (by repeat (first | (with_reducible first | exact HB.out | apply below_alloc | apply pw_below_drewN | apply below_drew1 | refine below_set ?_ GE155.out | refine below_set ?_ GE161.out) | exact HB.out))) : w.heap.size ≤ gb172))
                                      have n7_ := Aside0.mk ((by rw [hg]; exact (below_size (by repeat (first | (with_reducible first | exact HB.out | apply below_alloc | apply pw_below_drewN | apply below_drew1 | refine below_set ?_ GE155.out | refine below_set ?_ GE161.out) | exact HB.out))) : w.heap.size ≤ gb172))
                                      have n8_ := Aside0.mk ((by rw [hg]; exact Nat.ne_of_lt (blk_lt (g := gb155) (o := .cells #[.string a0_0, .slice A0_1 l0_1.length c0_1, .string a0_2] 41 (0, 0)) (by (with_reducible repeat (first | refine blk_drewN ?_ _ | refine blk_drew ?_ | refine blk_alloc ?_ _)); exact BK155.out)) : gb155 ≠ gb172))
                                      have n9_ := Aside0.mk ((by rw [hg]; exact Nat.ne_of_gt (blk_lt (g := gb155) (o := .cells #[.string a0_0, .slice A0_1 l0_1.length c0_1, .string a0_2] 41 (0, 0)) (by (with_reducible repeat (first | refine blk_drewN ?_ _ | refine blk_drew ?_ | refine blk_alloc ?_ _)); exact BK155.out)) : gb172 ≠ gb155))
                                      have n10_ := Aside0.mk ((by rw [hg]; exact Nat.ne_of_lt (blk_lt (g := gb161) (o := .cells #[.int .i64 t159, .int .i64 t160] 25 (0, 0)) (by (with_reducible repeat (first | refine blk_drewN ?_ _ | refine blk_drew ?_ | refine blk_alloc ?_ _)); exact BK161.out)) : gb161 ≠ gb172))
                                      have n11_ := Aside0.mk ((by rw [hg]; exact Nat.ne_of_gt (blk_lt (g := gb161) (o := .cells #[.int .i64 t159, .int .i64 t160] 25 (0, 0)) (by (with_reducible repeat (first | refine blk_drewN ?_ _ | refine blk_drew ?_ | refine blk_alloc ?_ _)); exact BK161.out)) : gb172 ≠ gb161))
                                      clear HO_3
                                      clear HO_5
                                      clear BK155
                                      clear BK161
                                      clear HB
                                      have HO_3 := n0_
                                      have HO_5 := n1_
                                      have BK155 := n2_
                                      have BK161 := n3_
                                      have HB := n4_
                                      have BK172 := n5_
                                      have GW172 := n6_
                                      have GE172 := n7_
                                      have NB155_172 := n8_
                                      have NB172_155 := n9_
                                      have NB161_172 := n10_
                                      have NB172_161 := n11_
                                      clear n0_ n1_ n2_ n3_ n4_ n5_ n6_ n7_ n8_ n9_ n10_ n11_
                                      clear hb hbox hg
                                      refine hK.out _ _ ⟨(blk_cell BK155.out 0).trans rfl, (blk_cell BK155.out 1).trans rfl, (blk_cell BK155.out 2).trans rfl, HS3_⟩ (fun hHeld => ?_)
                                      clear hK K
                                      refine norm_ (a' := ?_) ?_ ?_
                                      rotate_left
                                      · show Act.put _ (some 7) _ = _
                                        simp only [Act.put, List.setIfInBounds_toArray, List.set_cons_zero, List.set_cons_succ, i64_w, i32_w]
                                        rfl
                                      exact norm_ (by first | (simp only [putAll, Act.put, List.setIfInBounds_toArray, List.set_cons_zero, List.set_cons_succ]; done) | (simp only [putAll, Act.put, List.setIfInBounds_toArray, List.set_cons_zero, List.set_cons_succ]; rfl)) (hJ9 (gb172) _ ⟨hHeld, (by (with_reducible repeat (first | apply Kd.R_alloc | apply Kd.R_drewN | apply Kd.R_drew)); exact HO_3.out), (by (with_reducible repeat (first | apply Kd.R_alloc | apply Kd.R_drewN | apply Kd.R_drew)); exact HO_5.out), (by (with_reducible repeat (first | refine blk_drewN ?_ _ | refine blk_drew ?_ | refine blk_alloc ?_ _)); exact BK155.out), (by (with_reducible repeat (first | refine blk_drewN ?_ _ | refine blk_drew ?_ | refine blk_alloc ?_ _)); exact BK161.out), (by (with_reducible repeat (first | refine blk_drewN ?_ _ | refine blk_drew ?_ | refine blk_alloc ?_ _)); exact BK172.out), GW172.out, GE172.out, NB155_172.out, NB172_155.out, NB161_172.out, NB172_161.out, (by repeat (first | (with_reducible first | exact HB.out | apply below_alloc | apply pw_below_drewN | apply below_drew1 | refine below_set ?_ GE155.out | refine below_set ?_ GE161.out | refine below_set ?_ GE172.out) | exact HB.out))⟩)
                                    · skip
                                      refine box_step ?hg (N := 8) ?hd (cs := #[.int .i64 0, .int .i64 0]) (t := 25) ?hr ?_; (case hd => rfl); (case hg => rfl); (case hr => first | (go_simp; done) | (go_simp; rfl))
                                      intro gb173 hg w30 hbox hb
                                      have HS3_ := (hb.cell (World.block_lt_of_cell? _ _ (hHeld.2.2.2))).trans (hHeld.2.2.2)
                                      have n0_ := Aside0.mk (Kd.R_below (by (with_reducible repeat (first | apply Kd.R_alloc | apply Kd.R_drewN | apply Kd.R_drew)); exact HO_3.out) hb)
                                      have n1_ := Aside0.mk (Kd.R_below (by (with_reducible repeat (first | apply Kd.R_alloc | apply Kd.R_drewN | apply Kd.R_drew)); exact HO_5.out) hb)
                                      have n2_ := Aside0.mk (blk_below (g := gb155) (o := .cells #[.string a0_0, .slice A0_1 l0_1.length c0_1, .string a0_2] 41 (0, 0)) (by (with_reducible repeat (first | refine blk_drewN ?_ _ | refine blk_drew ?_ | refine blk_alloc ?_ _)); exact BK155.out) hb)
                                      have n3_ := Aside0.mk (blk_below (g := gb161) (o := .cells #[.int .i64 t159, .int .i64 t160] 25 (0, 0)) (by (with_reducible repeat (first | refine blk_drewN ?_ _ | refine blk_drew ?_ | refine blk_alloc ?_ _)); exact BK161.out) hb)
                                      have n4_ := Aside0.mk (below_step (by repeat (first | (with_reducible first | exact HB.out | apply below_alloc | apply pw_below_drewN | apply below_drew1 | refine below_set ?_ GE155.out | refine below_set ?_ GE161.out) | exact HB.out)) hb)
                                      have n5_ := Aside0.mk (hbox)
                                      have n6_ := Aside0.mk ((by rw [hg]; exact (below_size (by repeat (first | (with_reducible first | exact HB.out | apply below_alloc | apply pw_below_drewN | apply below_drew1 | refine below_set ?_ GE155.out | refine below_set ?_ GE161.out) | exact HB.out))) : w.heap.size ≤ gb173))
                                      have n7_ := Aside0.mk ((by rw [hg]; exact (below_size (by repeat (first | (with_reducible first | exact HB.out | apply below_alloc | apply pw_below_drewN | apply below_drew1 | refine below_set ?_ GE155.out | refine below_set ?_ GE161.out) | exact HB.out))) : w.heap.size ≤ gb173))
                                      have n8_ := Aside0.mk ((by rw [hg]; exact Nat.ne_of_lt (blk_lt (g := gb155) (o := .cells #[.string a0_0, .slice A0_1 l0_1.length c0_1, .string a0_2] 41 (0, 0)) (by (with_reducible repeat (first | refine blk_drewN ?_ _ | refine blk_drew ?_ | refine blk_alloc ?_ _)); exact BK155.out)) : gb155 ≠ gb173))
                                      have n9_ := Aside0.mk ((by rw [hg]; exact Nat.ne_of_gt (blk_lt (g := gb155) (o := .cells #[.string a0_0, .slice A0_1 l0_1.length c0_1, .string a0_2] 41 (0, 0)) (by (with_reducible repeat (first | refine blk_drewN ?_ _ | refine blk_drew ?_ | refine blk_alloc ?_ _)); exact BK155.out)) : gb173 ≠ gb155))
                                      have n10_ := Aside0.mk ((by rw [hg]; exact Nat.ne_of_lt (blk_lt (g := gb161) (o := .cells #[.int .i64 t159, .int .i64 t160] 25 (0, 0)) (by (with_reducible repeat (first | refine blk_drewN ?_ _ | refine blk_drew ?_ | refine blk_alloc ?_ _)); exact BK161.out)) : gb161 ≠ gb173))
                                      have n11_ := Aside0.mk ((by rw [hg]; exact Nat.ne_of_gt (blk_lt (g := gb161) (o := .cells #[.int .i64 t159, .int .i64 t160] 25 (0, 0)) (by (with_reducible repeat (first | refine blk_drewN ?_ _ | refine blk_drew ?_ | refine blk_alloc ?_ _)); exact BK161.out)) : gb173 ≠ gb161))
                                      clear HO_3
                                      clear HO_5
                                      clear BK155
                                      clear BK161
                                      clear HB
                                      have HO_3 := n0_
                                      have HO_5 := n1_
                                      have BK155 := n2_
                                      have BK161 := n3_
                                      have HB := n4_
                                      have BK173 := n5_
                                      have GW173 := n6_
                                      have GE173 := n7_
                                      have NB155_173 := n8_
                                      have NB173_155 := n9_
                                      have NB161_173 := n10_
                                      have NB173_161 := n11_
                                      clear n0_ n1_ n2_ n3_ n4_ n5_ n6_ n7_ n8_ n9_ n10_ n11_
                                      clear hb hbox hg
                                      refine hK.out _ _ ⟨(blk_cell BK155.out 0).trans rfl, (blk_cell BK155.out 1).trans rfl, (blk_cell BK155.out 2).trans rfl, HS3_⟩ (fun hHeld => ?_)
                                      clear hK K
                                      refine norm_ (a' := ?_) ?_ ?_
                                      rotate_left
                                      · show Act.put _ (some 8) _ = _
                                        simp only [Act.put, List.setIfInBounds_toArray, List.set_cons_zero, List.set_cons_succ, i64_w, i32_w]
                                        rfl
                                      exact norm_ (by first | (simp only [putAll, Act.put, List.setIfInBounds_toArray, List.set_cons_zero, List.set_cons_succ]; done) | (simp only [putAll, Act.put, List.setIfInBounds_toArray, List.set_cons_zero, List.set_cons_succ]; rfl)) (hJ10 (gb173) _ ⟨hHeld, (by (with_reducible repeat (first | apply Kd.R_alloc | apply Kd.R_drewN | apply Kd.R_drew)); exact HO_3.out), (by (with_reducible repeat (first | apply Kd.R_alloc | apply Kd.R_drewN | apply Kd.R_drew)); exact HO_5.out), (by (with_reducible repeat (first | refine blk_drewN ?_ _ | refine blk_drew ?_ | refine blk_alloc ?_ _)); exact BK155.out), (by (with_reducible repeat (first | refine blk_drewN ?_ _ | refine blk_drew ?_ | refine blk_alloc ?_ _)); exact BK161.out), (by (with_reducible repeat (first | refine blk_drewN ?_ _ | refine blk_drew ?_ | refine blk_alloc ?_ _)); exact BK173.out), GW173.out, GE173.out, NB155_173.out, NB173_155.out, NB161_173.out, NB173_161.out, (by repeat (first | (with_reducible first | exact HB.out | apply below_alloc | apply pw_below_drewN | apply below_drew1 | refine below_set ?_ GE155.out | refine below_set ?_ GE161.out | refine below_set ?_ GE173.out) | exact HB.out))⟩)
                                  · skip
                                    rintro gb173 w31 ⟨hS_, h0_, h1_, h2_, h3_, h4_, h5_, h6_, h7_, h8_, h9_, h10_, h11_⟩
                                    have n0_ : Aside0 (Kd.R Kd.string 9 w31 w.heap.size (fun _ => True) (.slice (some ad164) t156.length co28) t156) := ⟨h0_⟩
                                    have n1_ : Aside0 (Kd.R k48 48 w31 w.heap.size (fun _ => True) u5 x5_2) := ⟨h1_⟩
                                    have n2_ : Aside0 (w31.heap[gb155]? = some (.cells #[.string a0_0, .slice A0_1 l0_1.length c0_1, .string a0_2] 41 (0, 0))) := ⟨h2_⟩
                                    have n3_ : Aside0 (w31.heap[gb161]? = some (.cells #[.int .i64 t159, .int .i64 t160] 25 (0, 0))) := ⟨h3_⟩
                                    have n4_ : Aside0 (w31.heap[gb173]? = some (.cells #[.int .i64 0, .int .i64 0] 25 (0, 0))) := ⟨h4_⟩
                                    have n5_ : Aside0 (w.heap.size ≤ gb173) := ⟨h5_⟩
                                    have n6_ : Aside0 (w.heap.size ≤ gb173) := ⟨h6_⟩
                                    have n7_ : Aside0 (gb155 ≠ gb173) := ⟨h7_⟩
                                    have n8_ : Aside0 (gb173 ≠ gb155) := ⟨h8_⟩
                                    have n9_ : Aside0 (gb161 ≠ gb173) := ⟨h9_⟩
                                    have n10_ : Aside0 (gb173 ≠ gb161) := ⟨h10_⟩
                                    have n11_ : Aside0 (Below w.heap.size w w31) := ⟨h11_⟩
                                    clear HO_3
                                    clear HO_5
                                    clear BK155
                                    clear BK161
                                    clear HB
                                    clear h0_ h1_ h2_ h3_ h4_ h5_ h6_ h7_ h8_ h9_ h10_ h11_
                                    have HO_3 := n0_
                                    have HO_5 := n1_
                                    have BK155 := n2_
                                    have BK161 := n3_
                                    have BK173 := n4_
                                    have GW173 := n5_
                                    have GE173 := n6_
                                    have NB155_173 := n7_
                                    have NB173_155 := n8_
                                    have NB161_173 := n9_
                                    have NB173_161 := n10_
                                    have HB := n11_
                                    clear n0_ n1_ n2_ n3_ n4_ n5_ n6_ n7_ n8_ n9_ n10_ n11_
                                    have hHeld : w31.cell? ⟨gb155, 0, none⟩ = some (.string a0_0) ∧ w31.cell? ⟨gb155, 1, none⟩ = some (.slice A0_1 l0_1.length c0_1) ∧ w31.cell? ⟨gb155, 2, none⟩ = some (.string a0_2) ∧ w31.cell? (ad164.add (x6_2).toNat) = some (.string (rdOf ByteArray.empty t156 x6_2)) := hS_
                                    refine norm_ (a' := ?_) ?_ ?_
                                    rotate_left
                                    · simp only [putAll, Act.put, List.setIfInBounds_toArray, List.set_cons_zero, List.set_cons_succ]
                                      rfl
                                    refine two_ (i := 5) (j := 9) (Ni := some 41) (Nj := some 7) #[true, true, true, true, true, true, false, false, false, false, true, false, false] #[true, true, true, true, true, false, false, false, false, true, true, false, false] rfl rfl rfl rfl (two_of HT_.out (by kernel_rfl)) (by decide) (by decide) (fun K hK => ?_) (fun K hK => ?_)
                                    · skip
                                      refine goes_ Tryd.func28 (by kernel_rfl) rfl #[.agg #[.string a0_0, .slice A0_1 l0_1.length c0_1, .string a0_2], .string (rdOf ByteArray.empty t156 x6_2)] (by rfl) rfl rfl (by (try simp only [List.map_toArray, List.map_cons, List.map_nil]); first | done | rfl | (simp only [List.length_drop, List.length_take]; rfl)) ?_
                                      with_reducible refine (envelope_For.calls k2 a0_0 _ _ l0_1 a0_2 (rdOf ByteArray.empty t156 x6_2) t165 t166 t169 t170 t171 _ ?side1 ?side2 A23.out).mono ?_
                                      (case side1 => repeat (first | exact (Kd.C_below HR0_1.out HB.out) | (with_reducible refine Kd.C_alloc ?_ _) | (with_reducible refine Kd.C_drewN ?_ _) | (with_reducible refine Kd.C_drew ?_)))
                                      (case side2 => exact HC0_1.out)
                                      rintro e w32 ⟨v167, rfl, ho0, hb⟩
                                      have HS3_ := (hb.cell (World.block_lt_of_cell? _ _ (hHeld.2.2.2))).trans (hHeld.2.2.2)
                                      refine ⟨_, rfl, ?_⟩
                                      have n0_ := Aside0.mk (Kd.R_below (by (with_reducible repeat (first | apply Kd.R_alloc | apply Kd.R_drewN | apply Kd.R_drew)); exact HO_3.out) hb)
                                      have n1_ := Aside0.mk (Kd.R_elder' (by (with_reducible repeat (first | apply Kd.R_alloc | apply Kd.R_drewN | apply Kd.R_drew)); exact HO_5.out) (Kd.R_base ho0) hb)
                                      have n2_ := Aside0.mk (Kd.R_lower (Kd.R_new' ho0 (Kd.R_lt (by (with_reducible repeat (first | apply Kd.R_alloc | apply Kd.R_drewN | apply Kd.R_drew)); exact HO_5.out))) (below_size (by repeat (first | (with_reducible first | exact HB.out | apply below_alloc | apply pw_below_drewN | apply below_drew1 | refine below_set ?_ GE155.out | refine below_set ?_ GE161.out | refine below_set ?_ GE173.out) | exact HB.out))))
                                      have n3_ := Aside0.mk (blk_below (g := gb155) (o := .cells #[.string a0_0, .slice A0_1 l0_1.length c0_1, .string a0_2] 41 (0, 0)) (by (with_reducible repeat (first | refine blk_drewN ?_ _ | refine blk_drew ?_ | refine blk_alloc ?_ _)); exact BK155.out) hb)
                                      have n4_ := Aside0.mk (blk_below (g := gb161) (o := .cells #[.int .i64 t159, .int .i64 t160] 25 (0, 0)) (by (with_reducible repeat (first | refine blk_drewN ?_ _ | refine blk_drew ?_ | refine blk_alloc ?_ _)); exact BK161.out) hb)
                                      have n5_ := Aside0.mk (blk_below (g := gb173) (o := .cells #[.int .i64 0, .int .i64 0] 25 (0, 0)) (by (with_reducible repeat (first | refine blk_drewN ?_ _ | refine blk_drew ?_ | refine blk_alloc ?_ _)); exact BK173.out) hb)
                                      have n6_ := Aside0.mk (below_step (by repeat (first | (with_reducible first | exact HB.out | apply below_alloc | apply pw_below_drewN | apply below_drew1 | refine below_set ?_ GE155.out | refine below_set ?_ GE161.out | refine below_set ?_ GE173.out) | exact HB.out)) hb)
                                      clear HO_3
                                      clear HO_5
                                      clear BK155
                                      clear BK161
                                      clear BK173
                                      clear HB
                                      have HO_3 := n0_
                                      have HO_5 := n1_
                                      have HO168 := n2_
                                      have BK155 := n3_
                                      have BK161 := n4_
                                      have BK173 := n5_
                                      have HB := n6_
                                      clear n0_ n1_ n2_ n3_ n4_ n5_ n6_
                                      (try clear hb)
                                      (try clear hb2)
                                      (try clear hk)
                                      (try clear hi)
                                      (try clear ho0)
                                      refine hK.out _ _ ⟨(blk_cell BK155.out 0).trans rfl, (blk_cell BK155.out 1).trans rfl, (blk_cell BK155.out 2).trans rfl, HS3_⟩ (fun hHeld => ?_)
                                      clear hK K
                                      refine norm_ (a' := ?_) ?_ ?_
                                      rotate_left
                                      · show Act.put _ (some 41) _ = _
                                        simp only [Act.put, List.setIfInBounds_toArray, List.set_cons_zero, List.set_cons_succ, i64_w, i32_w]
                                        rfl
                                      refine pure_ (i := 6) (N := some 35) (v := ?_) (a' := ?_) #[true, true, true, true, true, true, true, false, false, false, true, false, false] rfl rfl (any_of HT_.out (by kernel_rfl)) (fun _ _ _ h => h) (Or.inl ⟨by rfl, ?_⟩) ?_ ?_
                                      rotate_left
                                      · intro w'
                                        go_simp
                                        with_reducible rfl
                                      rotate_left
                                      · simp only [Act.put, List.setIfInBounds_toArray, List.set_cons_zero, List.set_cons_succ, i64_w, i32_w]
                                        rfl
                                      refine pure_ (i := 7) (N := some 42) (v := ?_) (a' := ?_) #[true, true, true, true, true, true, true, true, false, false, true, false, false] rfl rfl (any_of HT_.out (by kernel_rfl)) (fun _ _ _ h => h) (Or.inl ⟨by rfl, ?_⟩) ?_ ?_
                                      rotate_left
                                      · intro w'
                                        go_simp
                                        with_reducible rfl
                                      rotate_left
                                      · simp only [Act.put, List.setIfInBounds_toArray, List.set_cons_zero, List.set_cons_succ, i64_w, i32_w]
                                        rfl
                                      refine pure_ (i := 8) (N := some 43) (v := ?_) (a' := ?_) #[true, true, true, true, true, true, true, true, true, false, true, false, false] rfl rfl (any_of HT_.out (by kernel_rfl)) (fun _ _ _ h => h) (Or.inl ⟨by rfl, ?_⟩) ?_ ?_
                                      rotate_left
                                      · intro w'
                                        go_simp
                                        with_reducible rfl
                                      rotate_left
                                      · simp only [Act.put, List.setIfInBounds_toArray, List.set_cons_zero, List.set_cons_succ, i64_w, i32_w]
                                        rfl
                                      exact norm_ (by first | (simp only [putAll, Act.put, List.setIfInBounds_toArray, List.set_cons_zero, List.set_cons_succ]; done) | (simp only [putAll, Act.put, List.setIfInBounds_toArray, List.set_cons_zero, List.set_cons_succ]; rfl)) (hJ5_10 (v167, gb173) _ ⟨hHeld, (by (with_reducible repeat (first | apply Kd.R_alloc | apply Kd.R_drewN | apply Kd.R_drew)); exact Kd.R_mono HO168.out (fun _ hk => hk.2)), (by (with_reducible repeat (first | apply Kd.R_alloc | apply Kd.R_drewN | apply Kd.R_drew)); exact HO_3.out), (by (with_reducible repeat (first | apply Kd.R_alloc | apply Kd.R_drewN | apply Kd.R_drew)); exact Kd.R_mono HO_5.out (fun _ hk => hk.2)), (by (with_reducible repeat (first | refine blk_drewN ?_ _ | refine blk_drew ?_ | refine blk_alloc ?_ _)); exact BK155.out), (by (with_reducible repeat (first | refine blk_drewN ?_ _ | refine blk_drew ?_ | refine blk_alloc ?_ _)); exact BK161.out), (by (with_reducible repeat (first | refine blk_drewN ?_ _ | refine blk_drew ?_ | refine blk_alloc ?_ _)); exact BK173.out), GW173.out, GE173.out, NB155_173.out, NB173_155.out, NB161_173.out, NB173_161.out, (by repeat (first | (with_reducible first | exact HB.out | apply below_alloc | apply pw_below_drewN | apply below_drew1 | refine below_set ?_ GE155.out | refine below_set ?_ GE161.out | refine below_set ?_ GE173.out) | exact HB.out))⟩)
                                    · skip
                                      refine box_step ?hg (N := 7) ?hd (cs := #[.string (⟨#[]⟩ : ByteArray), .slice none 0 0, .string (⟨#[]⟩ : ByteArray)]) (t := 41) ?hr ?_; (case hd => rfl); (case hg => rfl); (case hr => first | (go_simp; done) | (go_simp; rfl))
                                      intro gb172 hg w32 hbox hb
                                      have HS3_ := (hb.cell (World.block_lt_of_cell? _ _ (hHeld.2.2.2))).trans (hHeld.2.2.2)
                                      have n0_ := Aside0.mk (Kd.R_below (by (with_reducible repeat (first | apply Kd.R_alloc | apply Kd.R_drewN | apply Kd.R_drew)); exact HO_3.out) hb)
                                      have n1_ := Aside0.mk (Kd.R_below (by (with_reducible repeat (first | apply Kd.R_alloc | apply Kd.R_drewN | apply Kd.R_drew)); exact HO_5.out) hb)
                                      have n2_ := Aside0.mk (blk_below (g := gb155) (o := .cells #[.string a0_0, .slice A0_1 l0_1.length c0_1, .string a0_2] 41 (0, 0)) (by (with_reducible repeat (first | refine blk_drewN ?_ _ | refine blk_drew ?_ | refine blk_alloc ?_ _)); exact BK155.out) hb)
                                      have n3_ := Aside0.mk (blk_below (g := gb161) (o := .cells #[.int .i64 t159, .int .i64 t160] 25 (0, 0)) (by (with_reducible repeat (first | refine blk_drewN ?_ _ | refine blk_drew ?_ | refine blk_alloc ?_ _)); exact BK161.out) hb)
                                      have n4_ := Aside0.mk (blk_below (g := gb173) (o := .cells #[.int .i64 0, .int .i64 0] 25 (0, 0)) (by (with_reducible repeat (first | refine blk_drewN ?_ _ | refine blk_drew ?_ | refine blk_alloc ?_ _)); exact BK173.out) hb)
                                      have n5_ := Aside0.mk (below_step (by repeat (first | (with_reducible first | exact HB.out | apply below_alloc | apply pw_below_drewN | apply below_drew1 | refine below_set ?_ GE155.out | refine below_set ?_ GE161.out | refine below_set ?_ GE173.out) | exact HB.out)) hb)
                                      have n6_ := Aside0.mk (hbox)
                                      have n7_ := Aside0.mk ((by rw [hg]; exact (below_size (by repeat (first | (with_reducible first | exact HB.out | apply below_alloc | apply pw_below_drewN | apply below_drew1 | refine below_set ?_ GE155.out | refine below_set ?_ GE161.out | refine below_set ?_ GE173.out) | exact HB.out))) : w.heap.size ≤ gb172))
                                      have n8_ := Aside0.mk ((by rw [hg]; exact (below_size (by repeat (first | (with_reducible first | exact HB.out | apply below_alloc | apply pw_below_drewN | apply below_drew1 | refine below_set ?_ GE155.out | refine below_set ?_ GE161.out | refine below_set ?_ GE173.out) | exact HB.out))) : w.heap.size ≤ gb172))
                                      have n9_ := Aside0.mk ((by rw [hg]; exact Nat.ne_of_lt (blk_lt (g := gb155) (o := .cells #[.string a0_0, .slice A0_1 l0_1.length c0_1, .string a0_2] 41 (0, 0)) (by (with_reducible repeat (first | refine blk_drewN ?_ _ | refine blk_drew ?_ | refine blk_alloc ?_ _)); exact BK155.out)) : gb155 ≠ gb172))
                                      have n10_ := Aside0.mk ((by rw [hg]; exact Nat.ne_of_gt (blk_lt (g := gb155) (o := .cells #[.string a0_0, .slice A0_1 l0_1.length c0_1, .string a0_2] 41 (0, 0)) (by (with_reducible repeat (first | refine blk_drewN ?_ _ | refine blk_drew ?_ | refine blk_alloc ?_ _)); exact BK155.out)) : gb172 ≠ gb155))
                                      have n11_ := Aside0.mk ((by rw [hg]; exact Nat.ne_of_lt (blk_lt (g := gb161) (o := .cells #[.int .i64 t159, .int .i64 t160] 25 (0, 0)) (by (with_reducible repeat (first | refine blk_drewN ?_ _ | refine blk_drew ?_ | refine blk_alloc ?_ _)); exact BK161.out)) : gb161 ≠ gb172))
                                      have n12_ := Aside0.mk ((by rw [hg]; exact Nat.ne_of_gt (blk_lt (g := gb161) (o := .cells #[.int .i64 t159, .int .i64 t160] 25 (0, 0)) (by (with_reducible repeat (first | refine blk_drewN ?_ _ | refine blk_drew ?_ | refine blk_alloc ?_ _)); exact BK161.out)) : gb172 ≠ gb161))
                                      have n13_ := Aside0.mk ((by rw [hg]; exact Nat.ne_of_lt (blk_lt (g := gb173) (o := .cells #[.int .i64 0, .int .i64 0] 25 (0, 0)) (by (with_reducible repeat (first | refine blk_drewN ?_ _ | refine blk_drew ?_ | refine blk_alloc ?_ _)); exact BK173.out)) : gb173 ≠ gb172))
                                      have n14_ := Aside0.mk ((by rw [hg]; exact Nat.ne_of_gt (blk_lt (g := gb173) (o := .cells #[.int .i64 0, .int .i64 0] 25 (0, 0)) (by (with_reducible repeat (first | refine blk_drewN ?_ _ | refine blk_drew ?_ | refine blk_alloc ?_ _)); exact BK173.out)) : gb172 ≠ gb173))
                                      clear HO_3
                                      clear HO_5
                                      clear BK155
                                      clear BK161
                                      clear BK173
                                      clear HB
                                      have HO_3 := n0_
                                      have HO_5 := n1_
                                      have BK155 := n2_
                                      have BK161 := n3_
                                      have BK173 := n4_
                                      have HB := n5_
                                      have BK172 := n6_
                                      have GW172 := n7_
                                      have GE172 := n8_
                                      have NB155_172 := n9_
                                      have NB172_155 := n10_
                                      have NB161_172 := n11_
                                      have NB172_161 := n12_
                                      have NB173_172 := n13_
                                      have NB172_173 := n14_
                                      clear n0_ n1_ n2_ n3_ n4_ n5_ n6_ n7_ n8_ n9_ n10_ n11_ n12_ n13_ n14_
                                      clear hb hbox hg
                                      refine hK.out _ _ ⟨(blk_cell BK155.out 0).trans rfl, (blk_cell BK155.out 1).trans rfl, (blk_cell BK155.out 2).trans rfl, HS3_⟩ (fun hHeld => ?_)
                                      clear hK K
                                      refine norm_ (a' := ?_) ?_ ?_
                                      rotate_left
                                      · show Act.put _ (some 7) _ = _
                                        simp only [Act.put, List.setIfInBounds_toArray, List.set_cons_zero, List.set_cons_succ, i64_w, i32_w]
                                        rfl
                                      exact norm_ (by first | (simp only [putAll, Act.put, List.setIfInBounds_toArray, List.set_cons_zero, List.set_cons_succ]; done) | (simp only [putAll, Act.put, List.setIfInBounds_toArray, List.set_cons_zero, List.set_cons_succ]; rfl)) (hJ9_10 (gb172, gb173) _ ⟨hHeld, (by (with_reducible repeat (first | apply Kd.R_alloc | apply Kd.R_drewN | apply Kd.R_drew)); exact HO_3.out), (by (with_reducible repeat (first | apply Kd.R_alloc | apply Kd.R_drewN | apply Kd.R_drew)); exact HO_5.out), (by (with_reducible repeat (first | refine blk_drewN ?_ _ | refine blk_drew ?_ | refine blk_alloc ?_ _)); exact BK155.out), (by (with_reducible repeat (first | refine blk_drewN ?_ _ | refine blk_drew ?_ | refine blk_alloc ?_ _)); exact BK161.out), (by (with_reducible repeat (first | refine blk_drewN ?_ _ | refine blk_drew ?_ | refine blk_alloc ?_ _)); exact BK172.out), (by (with_reducible repeat (first | refine blk_drewN ?_ _ | refine blk_drew ?_ | refine blk_alloc ?_ _)); exact BK173.out), GW172.out, GE172.out, NB155_172.out, NB172_155.out, NB161_172.out, NB172_161.out, NB173_172.out, NB172_173.out, GW173.out, GE173.out, NB155_173.out, NB173_155.out, NB161_173.out, NB173_161.out, (by repeat (first | (with_reducible first | exact HB.out | apply below_alloc | apply pw_below_drewN | apply below_drew1 | refine below_set ?_ GE155.out | refine below_set ?_ GE161.out | refine below_set ?_ GE173.out | refine below_set ?_ GE172.out) | exact HB.out))⟩)
                                · skip
                                  rintro gb172 w31 ⟨hS_, h0_, h1_, h2_, h3_, h4_, h5_, h6_, h7_, h8_, h9_, h10_, h11_⟩
                                  have n0_ : Aside0 (Kd.R Kd.string 9 w31 w.heap.size (fun _ => True) (.slice (some ad164) t156.length co28) t156) := ⟨h0_⟩
                                  have n1_ : Aside0 (Kd.R k48 48 w31 w.heap.size (fun _ => True) u5 x5_2) := ⟨h1_⟩
                                  have n2_ : Aside0 (w31.heap[gb155]? = some (.cells #[.string a0_0, .slice A0_1 l0_1.length c0_1, .string a0_2] 41 (0, 0))) := ⟨h2_⟩
                                  have n3_ : Aside0 (w31.heap[gb161]? = some (.cells #[.int .i64 t159, .int .i64 t160] 25 (0, 0))) := ⟨h3_⟩
                                  have n4_ : Aside0 (w31.heap[gb172]? = some (.cells #[.string (⟨#[]⟩ : ByteArray), .slice none 0 0, .string (⟨#[]⟩ : ByteArray)] 41 (0, 0))) := ⟨h4_⟩
                                  have n5_ : Aside0 (w.heap.size ≤ gb172) := ⟨h5_⟩
                                  have n6_ : Aside0 (w.heap.size ≤ gb172) := ⟨h6_⟩
                                  have n7_ : Aside0 (gb155 ≠ gb172) := ⟨h7_⟩
                                  have n8_ : Aside0 (gb172 ≠ gb155) := ⟨h8_⟩
                                  have n9_ : Aside0 (gb161 ≠ gb172) := ⟨h9_⟩
                                  have n10_ : Aside0 (gb172 ≠ gb161) := ⟨h10_⟩
                                  have n11_ : Aside0 (Below w.heap.size w w31) := ⟨h11_⟩
                                  clear HO_3
                                  clear HO_5
                                  clear BK155
                                  clear BK161
                                  clear HB
                                  clear h0_ h1_ h2_ h3_ h4_ h5_ h6_ h7_ h8_ h9_ h10_ h11_
                                  have HO_3 := n0_
                                  have HO_5 := n1_
                                  have BK155 := n2_
                                  have BK161 := n3_
                                  have BK172 := n4_
                                  have GW172 := n5_
                                  have GE172 := n6_
                                  have NB155_172 := n7_
                                  have NB172_155 := n8_
                                  have NB161_172 := n9_
                                  have NB172_161 := n10_
                                  have HB := n11_
                                  clear n0_ n1_ n2_ n3_ n4_ n5_ n6_ n7_ n8_ n9_ n10_ n11_
                                  have hHeld : w31.cell? ⟨gb155, 0, none⟩ = some (.string a0_0) ∧ w31.cell? ⟨gb155, 1, none⟩ = some (.slice A0_1 l0_1.length c0_1) ∧ w31.cell? ⟨gb155, 2, none⟩ = some (.string a0_2) ∧ w31.cell? (ad164.add (x6_2).toNat) = some (.string (rdOf ByteArray.empty t156 x6_2)) := hS_
                                  refine norm_ (a' := ?_) ?_ ?_
                                  rotate_left
                                  · simp only [putAll, Act.put, List.setIfInBounds_toArray, List.set_cons_zero, List.set_cons_succ]
                                    rfl
                                  refine two_ (i := 5) (j := 10) (Ni := some 41) (Nj := some 8) #[true, true, true, true, true, true, false, false, false, true, false, false, false] #[true, true, true, true, true, false, false, false, false, true, true, false, false] rfl rfl rfl rfl (two_of HT_.out (by kernel_rfl)) (by decide) (by decide) (fun K hK => ?_) (fun K hK => ?_)
                                  · skip
                                    refine goes_ Tryd.func28 (by kernel_rfl) rfl #[.agg #[.string a0_0, .slice A0_1 l0_1.length c0_1, .string a0_2], .string (rdOf ByteArray.empty t156 x6_2)] (by rfl) rfl rfl (by (try simp only [List.map_toArray, List.map_cons, List.map_nil]); first | done | rfl | (simp only [List.length_drop, List.length_take]; rfl)) ?_
                                    with_reducible refine (envelope_For.calls k2 a0_0 _ _ l0_1 a0_2 (rdOf ByteArray.empty t156 x6_2) t165 t166 t169 t170 t171 _ ?side1 ?side2 A23.out).mono ?_
                                    (case side1 => repeat (first | exact (Kd.C_below HR0_1.out HB.out) | (with_reducible refine Kd.C_alloc ?_ _) | (with_reducible refine Kd.C_drewN ?_ _) | (with_reducible refine Kd.C_drew ?_)))
                                    (case side2 => exact HC0_1.out)
                                    rintro e w32 ⟨v167, rfl, ho0, hb⟩
                                    have HS3_ := (hb.cell (World.block_lt_of_cell? _ _ (hHeld.2.2.2))).trans (hHeld.2.2.2)
                                    refine ⟨_, rfl, ?_⟩
                                    have n0_ := Aside0.mk (Kd.R_below (by (with_reducible repeat (first | apply Kd.R_alloc | apply Kd.R_drewN | apply Kd.R_drew)); exact HO_3.out) hb)
                                    have n1_ := Aside0.mk (Kd.R_elder' (by (with_reducible repeat (first | apply Kd.R_alloc | apply Kd.R_drewN | apply Kd.R_drew)); exact HO_5.out) (Kd.R_base ho0) hb)
                                    have n2_ := Aside0.mk (Kd.R_lower (Kd.R_new' ho0 (Kd.R_lt (by (with_reducible repeat (first | apply Kd.R_alloc | apply Kd.R_drewN | apply Kd.R_drew)); exact HO_5.out))) (below_size (by repeat (first | (with_reducible first | exact HB.out | apply below_alloc | apply pw_below_drewN | apply below_drew1 | refine below_set ?_ GE155.out | refine below_set ?_ GE161.out | refine below_set ?_ GE172.out) | exact HB.out))))
                                    have n3_ := Aside0.mk (blk_below (g := gb155) (o := .cells #[.string a0_0, .slice A0_1 l0_1.length c0_1, .string a0_2] 41 (0, 0)) (by (with_reducible repeat (first | refine blk_drewN ?_ _ | refine blk_drew ?_ | refine blk_alloc ?_ _)); exact BK155.out) hb)
                                    have n4_ := Aside0.mk (blk_below (g := gb161) (o := .cells #[.int .i64 t159, .int .i64 t160] 25 (0, 0)) (by (with_reducible repeat (first | refine blk_drewN ?_ _ | refine blk_drew ?_ | refine blk_alloc ?_ _)); exact BK161.out) hb)
                                    have n5_ := Aside0.mk (blk_below (g := gb172) (o := .cells #[.string (⟨#[]⟩ : ByteArray), .slice none 0 0, .string (⟨#[]⟩ : ByteArray)] 41 (0, 0)) (by (with_reducible repeat (first | refine blk_drewN ?_ _ | refine blk_drew ?_ | refine blk_alloc ?_ _)); exact BK172.out) hb)
                                    have n6_ := Aside0.mk (below_step (by repeat (first | (with_reducible first | exact HB.out | apply below_alloc | apply pw_below_drewN | apply below_drew1 | refine below_set ?_ GE155.out | refine below_set ?_ GE161.out | refine below_set ?_ GE172.out) | exact HB.out)) hb)
                                    clear HO_3
                                    clear HO_5
                                    clear BK155
                                    clear BK161
                                    clear BK172
                                    clear HB
                                    have HO_3 := n0_
                                    have HO_5 := n1_
                                    have HO168 := n2_
                                    have BK155 := n3_
                                    have BK161 := n4_
                                    have BK172 := n5_
                                    have HB := n6_
                                    clear n0_ n1_ n2_ n3_ n4_ n5_ n6_
                                    (try clear hb)
                                    (try clear hb2)
                                    (try clear hk)
                                    (try clear hi)
                                    (try clear ho0)
                                    refine hK.out _ _ ⟨(blk_cell BK155.out 0).trans rfl, (blk_cell BK155.out 1).trans rfl, (blk_cell BK155.out 2).trans rfl, HS3_⟩ (fun hHeld => ?_)
                                    clear hK K
                                    refine norm_ (a' := ?_) ?_ ?_
                                    rotate_left
                                    · show Act.put _ (some 41) _ = _
                                      simp only [Act.put, List.setIfInBounds_toArray, List.set_cons_zero, List.set_cons_succ, i64_w, i32_w]
                                      rfl
                                    refine pure_ (i := 6) (N := some 35) (v := ?_) (a' := ?_) #[true, true, true, true, true, true, true, false, false, true, false, false, false] rfl rfl (any_of HT_.out (by kernel_rfl)) (fun _ _ _ h => h) (Or.inl ⟨by rfl, ?_⟩) ?_ ?_
                                    rotate_left
                                    · intro w'
                                      go_simp
                                      with_reducible rfl
                                    rotate_left
                                    · simp only [Act.put, List.setIfInBounds_toArray, List.set_cons_zero, List.set_cons_succ, i64_w, i32_w]
                                      rfl
                                    refine pure_ (i := 7) (N := some 42) (v := ?_) (a' := ?_) #[true, true, true, true, true, true, true, true, false, true, false, false, false] rfl rfl (any_of HT_.out (by kernel_rfl)) (fun _ _ _ h => h) (Or.inl ⟨by rfl, ?_⟩) ?_ ?_
                                    rotate_left
                                    · intro w'
                                      go_simp
                                      with_reducible rfl
                                    rotate_left
                                    · simp only [Act.put, List.setIfInBounds_toArray, List.set_cons_zero, List.set_cons_succ, i64_w, i32_w]
                                      rfl
                                    refine pure_ (i := 8) (N := some 43) (v := ?_) (a' := ?_) #[true, true, true, true, true, true, true, true, true, true, false, false, false] rfl rfl (any_of HT_.out (by kernel_rfl)) (fun _ _ _ h => h) (Or.inl ⟨by rfl, ?_⟩) ?_ ?_
                                    rotate_left
                                    · intro w'
                                      go_simp
                                      with_reducible rfl
                                    rotate_left
                                    · simp only [Act.put, List.setIfInBounds_toArray, List.set_cons_zero, List.set_cons_succ, i64_w, i32_w]
                                      rfl
                                    exact norm_ (by first | (simp only [putAll, Act.put, List.setIfInBounds_toArray, List.set_cons_zero, List.set_cons_succ]; done) | (simp only [putAll, Act.put, List.setIfInBounds_toArray, List.set_cons_zero, List.set_cons_succ]; rfl)) (hJ5_9 (v167, gb172) _ ⟨hHeld, (by (with_reducible repeat (first | apply Kd.R_alloc | apply Kd.R_drewN | apply Kd.R_drew)); exact Kd.R_mono HO168.out (fun _ hk => hk.2)), (by (with_reducible repeat (first | apply Kd.R_alloc | apply Kd.R_drewN | apply Kd.R_drew)); exact HO_3.out), (by (with_reducible repeat (first | apply Kd.R_alloc | apply Kd.R_drewN | apply Kd.R_drew)); exact Kd.R_mono HO_5.out (fun _ hk => hk.2)), (by (with_reducible repeat (first | refine blk_drewN ?_ _ | refine blk_drew ?_ | refine blk_alloc ?_ _)); exact BK155.out), (by (with_reducible repeat (first | refine blk_drewN ?_ _ | refine blk_drew ?_ | refine blk_alloc ?_ _)); exact BK161.out), (by (with_reducible repeat (first | refine blk_drewN ?_ _ | refine blk_drew ?_ | refine blk_alloc ?_ _)); exact BK172.out), GW172.out, GE172.out, NB155_172.out, NB172_155.out, NB161_172.out, NB172_161.out, (by repeat (first | (with_reducible first | exact HB.out | apply below_alloc | apply pw_below_drewN | apply below_drew1 | refine below_set ?_ GE155.out | refine below_set ?_ GE161.out | refine below_set ?_ GE172.out) | exact HB.out))⟩)
                                  · skip
                                    refine box_step ?hg (N := 8) ?hd (cs := #[.int .i64 0, .int .i64 0]) (t := 25) ?hr ?_; (case hd => rfl); (case hg => rfl); (case hr => first | (go_simp; done) | (go_simp; rfl))
                                    intro gb173 hg w32 hbox hb
                                    have HS3_ := (hb.cell (World.block_lt_of_cell? _ _ (hHeld.2.2.2))).trans (hHeld.2.2.2)
                                    have n0_ := Aside0.mk (Kd.R_below (by (with_reducible repeat (first | apply Kd.R_alloc | apply Kd.R_drewN | apply Kd.R_drew)); exact HO_3.out) hb)
                                    have n1_ := Aside0.mk (Kd.R_below (by (with_reducible repeat (first | apply Kd.R_alloc | apply Kd.R_drewN | apply Kd.R_drew)); exact HO_5.out) hb)
                                    have n2_ := Aside0.mk (blk_below (g := gb155) (o := .cells #[.string a0_0, .slice A0_1 l0_1.length c0_1, .string a0_2] 41 (0, 0)) (by (with_reducible repeat (first | refine blk_drewN ?_ _ | refine blk_drew ?_ | refine blk_alloc ?_ _)); exact BK155.out) hb)
                                    have n3_ := Aside0.mk (blk_below (g := gb161) (o := .cells #[.int .i64 t159, .int .i64 t160] 25 (0, 0)) (by (with_reducible repeat (first | refine blk_drewN ?_ _ | refine blk_drew ?_ | refine blk_alloc ?_ _)); exact BK161.out) hb)
                                    have n4_ := Aside0.mk (blk_below (g := gb172) (o := .cells #[.string (⟨#[]⟩ : ByteArray), .slice none 0 0, .string (⟨#[]⟩ : ByteArray)] 41 (0, 0)) (by (with_reducible repeat (first | refine blk_drewN ?_ _ | refine blk_drew ?_ | refine blk_alloc ?_ _)); exact BK172.out) hb)
                                    have n5_ := Aside0.mk (below_step (by repeat (first | (with_reducible first | exact HB.out | apply below_alloc | apply pw_below_drewN | apply below_drew1 | refine below_set ?_ GE155.out | refine below_set ?_ GE161.out | refine below_set ?_ GE172.out) | exact HB.out)) hb)
                                    have n6_ := Aside0.mk (hbox)
                                    have n7_ := Aside0.mk ((by rw [hg]; exact (below_size (by repeat (first | (with_reducible first | exact HB.out | apply below_alloc | apply pw_below_drewN | apply below_drew1 | refine below_set ?_ GE155.out | refine below_set ?_ GE161.out | refine below_set ?_ GE172.out) | exact HB.out))) : w.heap.size ≤ gb173))
                                    have n8_ := Aside0.mk ((by rw [hg]; exact (below_size (by repeat (first | (with_reducible first | exact HB.out | apply below_alloc | apply pw_below_drewN | apply below_drew1 | refine below_set ?_ GE155.out | refine below_set ?_ GE161.out | refine below_set ?_ GE172.out) | exact HB.out))) : w.heap.size ≤ gb173))
                                    have n9_ := Aside0.mk ((by rw [hg]; exact Nat.ne_of_lt (blk_lt (g := gb155) (o := .cells #[.string a0_0, .slice A0_1 l0_1.length c0_1, .string a0_2] 41 (0, 0)) (by (with_reducible repeat (first | refine blk_drewN ?_ _ | refine blk_drew ?_ | refine blk_alloc ?_ _)); exact BK155.out)) : gb155 ≠ gb173))
                                    have n10_ := Aside0.mk ((by rw [hg]; exact Nat.ne_of_gt (blk_lt (g := gb155) (o := .cells #[.string a0_0, .slice A0_1 l0_1.length c0_1, .string a0_2] 41 (0, 0)) (by (with_reducible repeat (first | refine blk_drewN ?_ _ | refine blk_drew ?_ | refine blk_alloc ?_ _)); exact BK155.out)) : gb173 ≠ gb155))
                                    have n11_ := Aside0.mk ((by rw [hg]; exact Nat.ne_of_lt (blk_lt (g := gb161) (o := .cells #[.int .i64 t159, .int .i64 t160] 25 (0, 0)) (by (with_reducible repeat (first | refine blk_drewN ?_ _ | refine blk_drew ?_ | refine blk_alloc ?_ _)); exact BK161.out)) : gb161 ≠ gb173))
                                    have n12_ := Aside0.mk ((by rw [hg]; exact Nat.ne_of_gt (blk_lt (g := gb161) (o := .cells #[.int .i64 t159, .int .i64 t160] 25 (0, 0)) (by (with_reducible repeat (first | refine blk_drewN ?_ _ | refine blk_drew ?_ | refine blk_alloc ?_ _)); exact BK161.out)) : gb173 ≠ gb161))
                                    have n13_ := Aside0.mk ((by rw [hg]; exact Nat.ne_of_lt (blk_lt (g := gb172) (o := .cells #[.string (⟨#[]⟩ : ByteArray), .slice none 0 0, .string (⟨#[]⟩ : ByteArray)] 41 (0, 0)) (by (with_reducible repeat (first | refine blk_drewN ?_ _ | refine blk_drew ?_ | refine blk_alloc ?_ _)); exact BK172.out)) : gb172 ≠ gb173))
                                    have n14_ := Aside0.mk ((by rw [hg]; exact Nat.ne_of_gt (blk_lt (g := gb172) (o := .cells #[.string (⟨#[]⟩ : ByteArray), .slice none 0 0, .string (⟨#[]⟩ : ByteArray)] 41 (0, 0)) (by (with_reducible repeat (first | refine blk_drewN ?_ _ | refine blk_drew ?_ | refine blk_alloc ?_ _)); exact BK172.out)) : gb173 ≠ gb172))
                                    clear HO_3
                                    clear HO_5
                                    clear BK155
                                    clear BK161
                                    clear BK172
                                    clear HB
                                    have HO_3 := n0_
                                    have HO_5 := n1_
                                    have BK155 := n2_
                                    have BK161 := n3_
                                    have BK172 := n4_
                                    have HB := n5_
                                    have BK173 := n6_
                                    have GW173 := n7_
                                    have GE173 := n8_
                                    have NB155_173 := n9_
                                    have NB173_155 := n10_
                                    have NB161_173 := n11_
                                    have NB173_161 := n12_
                                    have NB172_173 := n13_
                                    have NB173_172 := n14_
                                    clear n0_ n1_ n2_ n3_ n4_ n5_ n6_ n7_ n8_ n9_ n10_ n11_ n12_ n13_ n14_
                                    clear hb hbox hg
                                    refine hK.out _ _ ⟨(blk_cell BK155.out 0).trans rfl, (blk_cell BK155.out 1).trans rfl, (blk_cell BK155.out 2).trans rfl, HS3_⟩ (fun hHeld => ?_)
                                    clear hK K
                                    refine norm_ (a' := ?_) ?_ ?_
                                    rotate_left
                                    · show Act.put _ (some 8) _ = _
                                      simp only [Act.put, List.setIfInBounds_toArray, List.set_cons_zero, List.set_cons_succ, i64_w, i32_w]
                                      rfl
                                    exact norm_ (by first | (simp only [putAll, Act.put, List.setIfInBounds_toArray, List.set_cons_zero, List.set_cons_succ]; done) | (simp only [putAll, Act.put, List.setIfInBounds_toArray, List.set_cons_zero, List.set_cons_succ]; rfl)) (hJ9_10 (gb172, gb173) _ ⟨hHeld, (by (with_reducible repeat (first | apply Kd.R_alloc | apply Kd.R_drewN | apply Kd.R_drew)); exact HO_3.out), (by (with_reducible repeat (first | apply Kd.R_alloc | apply Kd.R_drewN | apply Kd.R_drew)); exact HO_5.out), (by (with_reducible repeat (first | refine blk_drewN ?_ _ | refine blk_drew ?_ | refine blk_alloc ?_ _)); exact BK155.out), (by (with_reducible repeat (first | refine blk_drewN ?_ _ | refine blk_drew ?_ | refine blk_alloc ?_ _)); exact BK161.out), (by (with_reducible repeat (first | refine blk_drewN ?_ _ | refine blk_drew ?_ | refine blk_alloc ?_ _)); exact BK172.out), (by (with_reducible repeat (first | refine blk_drewN ?_ _ | refine blk_drew ?_ | refine blk_alloc ?_ _)); exact BK173.out), GW172.out, GE172.out, NB155_172.out, NB172_155.out, NB161_172.out, NB172_161.out, NB173_172.out, NB172_173.out, GW173.out, GE173.out, NB155_173.out, NB173_155.out, NB161_173.out, NB173_161.out, (by repeat (first | (with_reducible first | exact HB.out | apply below_alloc | apply pw_below_drewN | apply below_drew1 | refine below_set ?_ GE155.out | refine below_set ?_ GE161.out | refine below_set ?_ GE172.out | refine below_set ?_ GE173.out) | exact HB.out))⟩)
                              · skip
                                rintro v167 w31 ⟨hS_, h0_, h1_, h2_, h3_, h4_, h5_⟩
                                have n0_ : Aside0 (Kd.R k48 48 w31 w.heap.size (fun k_ => some k_ ≠ (u5 : Value).ownBlock) v167 t166) := ⟨h0_⟩
                                have n1_ : Aside0 (Kd.R Kd.string 9 w31 w.heap.size (fun _ => True) (.slice (some ad164) t156.length co28) t156) := ⟨h1_⟩
                                have n2_ : Aside0 (Kd.R k48 48 w31 w.heap.size (fun k_ => some k_ ≠ (v167 : Value).ownBlock) u5 x5_2) := ⟨h2_⟩
                                have n3_ : Aside0 (w31.heap[gb155]? = some (.cells #[.string a0_0, .slice A0_1 l0_1.length c0_1, .string a0_2] 41 (0, 0))) := ⟨h3_⟩
                                have n4_ : Aside0 (w31.heap[gb161]? = some (.cells #[.int .i64 t159, .int .i64 t160] 25 (0, 0))) := ⟨h4_⟩
                                have n5_ : Aside0 (Below w.heap.size w w31) := ⟨h5_⟩
                                clear HO_3
                                clear HO_5
                                clear BK155
                                clear BK161
                                clear HB
                                clear h0_ h1_ h2_ h3_ h4_ h5_
                                have HO168 := n0_
                                have HO_3 := n1_
                                have HO_5 := n2_
                                have BK155 := n3_
                                have BK161 := n4_
                                have HB := n5_
                                clear n0_ n1_ n2_ n3_ n4_ n5_
                                have hHeld : w31.cell? ⟨gb155, 0, none⟩ = some (.string a0_0) ∧ w31.cell? ⟨gb155, 1, none⟩ = some (.slice A0_1 l0_1.length c0_1) ∧ w31.cell? ⟨gb155, 2, none⟩ = some (.string a0_2) ∧ w31.cell? (ad164.add (x6_2).toNat) = some (.string (rdOf ByteArray.empty t156 x6_2)) := hS_
                                refine norm_ (a' := ?_) ?_ ?_
                                rotate_left
                                · simp only [putAll, Act.put, List.setIfInBounds_toArray, List.set_cons_zero, List.set_cons_succ]
                                  rfl
                                refine two_ (i := 9) (j := 10) (Ni := some 7) (Nj := some 8) #[true, true, true, true, true, true, true, true, true, true, false, false, false] #[true, true, true, true, true, true, true, true, true, false, true, false, false] rfl rfl rfl rfl (two_of HT_.out (by kernel_rfl)) (by decide) (by decide) (fun K hK => ?_) (fun K hK => ?_)
                                · skip
                                  refine box_step ?hg (N := 7) ?hd (cs := #[.string (⟨#[]⟩ : ByteArray), .slice none 0 0, .string (⟨#[]⟩ : ByteArray)]) (t := 41) ?hr ?_; (case hd => rfl); (case hg => rfl); (case hr => first | (go_simp; done) | (go_simp; rfl))
                                  intro gb172 hg w32 hbox hb
                                  have HS3_ := (hb.cell (World.block_lt_of_cell? _ _ (hHeld.2.2.2))).trans (hHeld.2.2.2)
                                  have n0_ := Aside0.mk (Kd.R_below (by (with_reducible repeat (first | apply Kd.R_alloc | apply Kd.R_drewN | apply Kd.R_drew)); exact HO_3.out) hb)
                                  have n1_ := Aside0.mk (Kd.R_below (by (with_reducible repeat (first | apply Kd.R_alloc | apply Kd.R_drewN | apply Kd.R_drew)); exact HO_5.out) hb)
                                  have n2_ := Aside0.mk (Kd.R_below (by (with_reducible repeat (first | apply Kd.R_alloc | apply Kd.R_drewN | apply Kd.R_drew)); exact HO168.out) hb)
                                  have n3_ := Aside0.mk (blk_below (g := gb155) (o := .cells #[.string a0_0, .slice A0_1 l0_1.length c0_1, .string a0_2] 41 (0, 0)) (by (with_reducible repeat (first | refine blk_drewN ?_ _ | refine blk_drew ?_ | refine blk_alloc ?_ _)); exact BK155.out) hb)
                                  have n4_ := Aside0.mk (blk_below (g := gb161) (o := .cells #[.int .i64 t159, .int .i64 t160] 25 (0, 0)) (by (with_reducible repeat (first | refine blk_drewN ?_ _ | refine blk_drew ?_ | refine blk_alloc ?_ _)); exact BK161.out) hb)
                                  have n5_ := Aside0.mk (below_step (by repeat (first | (with_reducible first | exact HB.out | apply below_alloc | apply pw_below_drewN | apply below_drew1 | refine below_set ?_ GE155.out | refine below_set ?_ GE161.out) | exact HB.out)) hb)
                                  have n6_ := Aside0.mk (hbox)
                                  have n7_ := Aside0.mk ((by rw [hg]; exact (below_size (by repeat (first | (with_reducible first | exact HB.out | apply below_alloc | apply pw_below_drewN | apply below_drew1 | refine below_set ?_ GE155.out | refine below_set ?_ GE161.out) | exact HB.out))) : w.heap.size ≤ gb172))
                                  have n8_ := Aside0.mk ((by rw [hg]; exact (below_size (by repeat (first | (with_reducible first | exact HB.out | apply below_alloc | apply pw_below_drewN | apply below_drew1 | refine below_set ?_ GE155.out | refine below_set ?_ GE161.out) | exact HB.out))) : w.heap.size ≤ gb172))
                                  have n9_ := Aside0.mk ((by rw [hg]; exact Nat.ne_of_lt (blk_lt (g := gb155) (o := .cells #[.string a0_0, .slice A0_1 l0_1.length c0_1, .string a0_2] 41 (0, 0)) (by (with_reducible repeat (first | refine blk_drewN ?_ _ | refine blk_drew ?_ | refine blk_alloc ?_ _)); exact BK155.out)) : gb155 ≠ gb172))
                                  have n10_ := Aside0.mk ((by rw [hg]; exact Nat.ne_of_gt (blk_lt (g := gb155) (o := .cells #[.string a0_0, .slice A0_1 l0_1.length c0_1, .string a0_2] 41 (0, 0)) (by (with_reducible repeat (first | refine blk_drewN ?_ _ | refine blk_drew ?_ | refine blk_alloc ?_ _)); exact BK155.out)) : gb172 ≠ gb155))
                                  have n11_ := Aside0.mk ((by rw [hg]; exact Nat.ne_of_lt (blk_lt (g := gb161) (o := .cells #[.int .i64 t159, .int .i64 t160] 25 (0, 0)) (by (with_reducible repeat (first | refine blk_drewN ?_ _ | refine blk_drew ?_ | refine blk_alloc ?_ _)); exact BK161.out)) : gb161 ≠ gb172))
                                  have n12_ := Aside0.mk ((by rw [hg]; exact Nat.ne_of_gt (blk_lt (g := gb161) (o := .cells #[.int .i64 t159, .int .i64 t160] 25 (0, 0)) (by (with_reducible repeat (first | refine blk_drewN ?_ _ | refine blk_drew ?_ | refine blk_alloc ?_ _)); exact BK161.out)) : gb172 ≠ gb161))
                                  clear HO_3
                                  clear HO_5
                                  clear HO168
                                  clear BK155
                                  clear BK161
                                  clear HB
                                  have HO_3 := n0_
                                  have HO_5 := n1_
                                  have HO168 := n2_
                                  have BK155 := n3_
                                  have BK161 := n4_
                                  have HB := n5_
                                  have BK172 := n6_
                                  have GW172 := n7_
                                  have GE172 := n8_
                                  have NB155_172 := n9_
                                  have NB172_155 := n10_
                                  have NB161_172 := n11_
                                  have NB172_161 := n12_
                                  clear n0_ n1_ n2_ n3_ n4_ n5_ n6_ n7_ n8_ n9_ n10_ n11_ n12_
                                  clear hb hbox hg
                                  refine hK.out _ _ ⟨(blk_cell BK155.out 0).trans rfl, (blk_cell BK155.out 1).trans rfl, (blk_cell BK155.out 2).trans rfl, HS3_⟩ (fun hHeld => ?_)
                                  clear hK K
                                  refine norm_ (a' := ?_) ?_ ?_
                                  rotate_left
                                  · show Act.put _ (some 7) _ = _
                                    simp only [Act.put, List.setIfInBounds_toArray, List.set_cons_zero, List.set_cons_succ, i64_w, i32_w]
                                    rfl
                                  exact norm_ (by first | (simp only [putAll, Act.put, List.setIfInBounds_toArray, List.set_cons_zero, List.set_cons_succ]; done) | (simp only [putAll, Act.put, List.setIfInBounds_toArray, List.set_cons_zero, List.set_cons_succ]; rfl)) (hJ5_9 (v167, gb172) _ ⟨hHeld, (by (with_reducible repeat (first | apply Kd.R_alloc | apply Kd.R_drewN | apply Kd.R_drew)); exact HO168.out), (by (with_reducible repeat (first | apply Kd.R_alloc | apply Kd.R_drewN | apply Kd.R_drew)); exact HO_3.out), (by (with_reducible repeat (first | apply Kd.R_alloc | apply Kd.R_drewN | apply Kd.R_drew)); exact HO_5.out), (by (with_reducible repeat (first | refine blk_drewN ?_ _ | refine blk_drew ?_ | refine blk_alloc ?_ _)); exact BK155.out), (by (with_reducible repeat (first | refine blk_drewN ?_ _ | refine blk_drew ?_ | refine blk_alloc ?_ _)); exact BK161.out), (by (with_reducible repeat (first | refine blk_drewN ?_ _ | refine blk_drew ?_ | refine blk_alloc ?_ _)); exact BK172.out), GW172.out, GE172.out, NB155_172.out, NB172_155.out, NB161_172.out, NB172_161.out, (by repeat (first | (with_reducible first | exact HB.out | apply below_alloc | apply pw_below_drewN | apply below_drew1 | refine below_set ?_ GE155.out | refine below_set ?_ GE161.out | refine below_set ?_ GE172.out) | exact HB.out))⟩)
                                · skip
                                  refine box_step ?hg (N := 8) ?hd (cs := #[.int .i64 0, .int .i64 0]) (t := 25) ?hr ?_; (case hd => rfl); (case hg => rfl); (case hr => first | (go_simp; done) | (go_simp; rfl))
                                  intro gb173 hg w32 hbox hb
                                  have HS3_ := (hb.cell (World.block_lt_of_cell? _ _ (hHeld.2.2.2))).trans (hHeld.2.2.2)
                                  have n0_ := Aside0.mk (Kd.R_below (by (with_reducible repeat (first | apply Kd.R_alloc | apply Kd.R_drewN | apply Kd.R_drew)); exact HO_3.out) hb)
                                  have n1_ := Aside0.mk (Kd.R_below (by (with_reducible repeat (first | apply Kd.R_alloc | apply Kd.R_drewN | apply Kd.R_drew)); exact HO_5.out) hb)
                                  have n2_ := Aside0.mk (Kd.R_below (by (with_reducible repeat (first | apply Kd.R_alloc | apply Kd.R_drewN | apply Kd.R_drew)); exact HO168.out) hb)
                                  have n3_ := Aside0.mk (blk_below (g := gb155) (o := .cells #[.string a0_0, .slice A0_1 l0_1.length c0_1, .string a0_2] 41 (0, 0)) (by (with_reducible repeat (first | refine blk_drewN ?_ _ | refine blk_drew ?_ | refine blk_alloc ?_ _)); exact BK155.out) hb)
                                  have n4_ := Aside0.mk (blk_below (g := gb161) (o := .cells #[.int .i64 t159, .int .i64 t160] 25 (0, 0)) (by (with_reducible repeat (first | refine blk_drewN ?_ _ | refine blk_drew ?_ | refine blk_alloc ?_ _)); exact BK161.out) hb)
                                  have n5_ := Aside0.mk (below_step (by repeat (first | (with_reducible first | exact HB.out | apply below_alloc | apply pw_below_drewN | apply below_drew1 | refine below_set ?_ GE155.out | refine below_set ?_ GE161.out) | exact HB.out)) hb)
                                  have n6_ := Aside0.mk (hbox)
                                  have n7_ := Aside0.mk ((by rw [hg]; exact (below_size (by repeat (first | (with_reducible first | exact HB.out | apply below_alloc | apply pw_below_drewN | apply below_drew1 | refine below_set ?_ GE155.out | refine below_set ?_ GE161.out) | exact HB.out))) : w.heap.size ≤ gb173))
                                  have n8_ := Aside0.mk ((by rw [hg]; exact (below_size (by repeat (first | (with_reducible first | exact HB.out | apply below_alloc | apply pw_below_drewN | apply below_drew1 | refine below_set ?_ GE155.out | refine below_set ?_ GE161.out) | exact HB.out))) : w.heap.size ≤ gb173))
                                  have n9_ := Aside0.mk ((by rw [hg]; exact Nat.ne_of_lt (blk_lt (g := gb155) (o := .cells #[.string a0_0, .slice A0_1 l0_1.length c0_1, .string a0_2] 41 (0, 0)) (by (with_reducible repeat (first | refine blk_drewN ?_ _ | refine blk_drew ?_ | refine blk_alloc ?_ _)); exact BK155.out)) : gb155 ≠ gb173))
                                  have n10_ := Aside0.mk ((by rw [hg]; exact Nat.ne_of_gt (blk_lt (g := gb155) (o := .cells #[.string a0_0, .slice A0_1 l0_1.length c0_1, .string a0_2] 41 (0, 0)) (by (with_reducible repeat (first | refine blk_drewN ?_ _ | refine blk_drew ?_ | refine blk_alloc ?_ _)); exact BK155.out)) : gb173 ≠ gb155))
                                  have n11_ := Aside0.mk ((by rw [hg]; exact Nat.ne_of_lt (blk_lt (g := gb161) (o := .cells #[.int .i64 t159, .int .i64 t160] 25 (0, 0)) (by (with_reducible repeat (first | refine blk_drewN ?_ _ | refine blk_drew ?_ | refine blk_alloc ?_ _)); exact BK161.out)) : gb161 ≠ gb173))
                                  have n12_ := Aside0.mk ((by rw [hg]; exact Nat.ne_of_gt (blk_lt (g := gb161) (o := .cells #[.int .i64 t159, .int .i64 t160] 25 (0, 0)) (by (with_reducible repeat (first | refine blk_drewN ?_ _ | refine blk_drew ?_ | refine blk_alloc ?_ _)); exact BK161.out)) : gb173 ≠ gb161))
                                  clear HO_3
                                  clear HO_5
                                  clear HO168
                                  clear BK155
                                  clear BK161
                                  clear HB
                                  have HO_3 := n0_
                                  have HO_5 := n1_
                                  have HO168 := n2_
                                  have BK155 := n3_
                                  have BK161 := n4_
                                  have HB := n5_
                                  have BK173 := n6_
                                  have GW173 := n7_
                                  have GE173 := n8_
                                  have NB155_173 := n9_
                                  have NB173_155 := n10_
                                  have NB161_173 := n11_
                                  have NB173_161 := n12_
                                  clear n0_ n1_ n2_ n3_ n4_ n5_ n6_ n7_ n8_ n9_ n10_ n11_ n12_
                                  clear hb hbox hg
                                  refine hK.out _ _ ⟨(blk_cell BK155.out 0).trans rfl, (blk_cell BK155.out 1).trans rfl, (blk_cell BK155.out 2).trans rfl, HS3_⟩ (fun hHeld => ?_)
                                  clear hK K
                                  refine norm_ (a' := ?_) ?_ ?_
                                  rotate_left
                                  · show Act.put _ (some 8) _ = _
                                    simp only [Act.put, List.setIfInBounds_toArray, List.set_cons_zero, List.set_cons_succ, i64_w, i32_w]
                                    rfl
                                  exact norm_ (by first | (simp only [putAll, Act.put, List.setIfInBounds_toArray, List.set_cons_zero, List.set_cons_succ]; done) | (simp only [putAll, Act.put, List.setIfInBounds_toArray, List.set_cons_zero, List.set_cons_succ]; rfl)) (hJ5_10 (v167, gb173) _ ⟨hHeld, (by (with_reducible repeat (first | apply Kd.R_alloc | apply Kd.R_drewN | apply Kd.R_drew)); exact HO168.out), (by (with_reducible repeat (first | apply Kd.R_alloc | apply Kd.R_drewN | apply Kd.R_drew)); exact HO_3.out), (by (with_reducible repeat (first | apply Kd.R_alloc | apply Kd.R_drewN | apply Kd.R_drew)); exact HO_5.out), (by (with_reducible repeat (first | refine blk_drewN ?_ _ | refine blk_drew ?_ | refine blk_alloc ?_ _)); exact BK155.out), (by (with_reducible repeat (first | refine blk_drewN ?_ _ | refine blk_drew ?_ | refine blk_alloc ?_ _)); exact BK161.out), (by (with_reducible repeat (first | refine blk_drewN ?_ _ | refine blk_drew ?_ | refine blk_alloc ?_ _)); exact BK173.out), GW173.out, GE173.out, NB155_173.out, NB173_155.out, NB161_173.out, NB173_161.out, (by repeat (first | (with_reducible first | exact HB.out | apply below_alloc | apply pw_below_drewN | apply below_drew1 | refine below_set ?_ GE155.out | refine below_set ?_ GE161.out | refine below_set ?_ GE173.out) | exact HB.out))⟩)
                            · skip
                              rintro ⟨gb172, gb173⟩ w32 ⟨hS_, h0_, h1_, h2_, h3_, h4_, h5_, h6_, h7_, h8_, h9_, h10_, h11_, h12_, h13_, h14_, h15_, h16_, h17_, h18_, h19_, h20_⟩
                              have n0_ : Aside0 (Kd.R Kd.string 9 w32 w.heap.size (fun _ => True) (.slice (some ad164) t156.length co28) t156) := ⟨h0_⟩
                              have n1_ : Aside0 (Kd.R k48 48 w32 w.heap.size (fun _ => True) u5 x5_2) := ⟨h1_⟩
                              have n2_ : Aside0 (w32.heap[gb155]? = some (.cells #[.string a0_0, .slice A0_1 l0_1.length c0_1, .string a0_2] 41 (0, 0))) := ⟨h2_⟩
                              have n3_ : Aside0 (w32.heap[gb161]? = some (.cells #[.int .i64 t159, .int .i64 t160] 25 (0, 0))) := ⟨h3_⟩
                              have n4_ : Aside0 (w32.heap[gb172]? = some (.cells #[.string (⟨#[]⟩ : ByteArray), .slice none 0 0, .string (⟨#[]⟩ : ByteArray)] 41 (0, 0))) := ⟨h4_⟩
                              have n5_ : Aside0 (w32.heap[gb173]? = some (.cells #[.int .i64 0, .int .i64 0] 25 (0, 0))) := ⟨h5_⟩
                              have n6_ : Aside0 (w.heap.size ≤ gb172) := ⟨h6_⟩
                              have n7_ : Aside0 (w.heap.size ≤ gb172) := ⟨h7_⟩
                              have n8_ : Aside0 (gb155 ≠ gb172) := ⟨h8_⟩
                              have n9_ : Aside0 (gb172 ≠ gb155) := ⟨h9_⟩
                              have n10_ : Aside0 (gb161 ≠ gb172) := ⟨h10_⟩
                              have n11_ : Aside0 (gb172 ≠ gb161) := ⟨h11_⟩
                              have n12_ : Aside0 (gb173 ≠ gb172) := ⟨h12_⟩
                              have n13_ : Aside0 (gb172 ≠ gb173) := ⟨h13_⟩
                              have n14_ : Aside0 (w.heap.size ≤ gb173) := ⟨h14_⟩
                              have n15_ : Aside0 (w.heap.size ≤ gb173) := ⟨h15_⟩
                              have n16_ : Aside0 (gb155 ≠ gb173) := ⟨h16_⟩
                              have n17_ : Aside0 (gb173 ≠ gb155) := ⟨h17_⟩
                              have n18_ : Aside0 (gb161 ≠ gb173) := ⟨h18_⟩
                              have n19_ : Aside0 (gb173 ≠ gb161) := ⟨h19_⟩
                              have n20_ : Aside0 (Below w.heap.size w w32) := ⟨h20_⟩
                              clear HO_3
                              clear HO_5
                              clear BK155
                              clear BK161
                              clear HB
                              clear h0_ h1_ h2_ h3_ h4_ h5_ h6_ h7_ h8_ h9_ h10_ h11_ h12_ h13_ h14_ h15_ h16_ h17_ h18_ h19_ h20_
                              have HO_3 := n0_
                              have HO_5 := n1_
                              have BK155 := n2_
                              have BK161 := n3_
                              have BK172 := n4_
                              have BK173 := n5_
                              have GW172 := n6_
                              have GE172 := n7_
                              have NB155_172 := n8_
                              have NB172_155 := n9_
                              have NB161_172 := n10_
                              have NB172_161 := n11_
                              have NB173_172 := n12_
                              have NB172_173 := n13_
                              have GW173 := n14_
                              have GE173 := n15_
                              have NB155_173 := n16_
                              have NB173_155 := n17_
                              have NB161_173 := n18_
                              have NB173_161 := n19_
                              have HB := n20_
                              clear n0_ n1_ n2_ n3_ n4_ n5_ n6_ n7_ n8_ n9_ n10_ n11_ n12_ n13_ n14_ n15_ n16_ n17_ n18_ n19_ n20_
                              have hHeld : w32.cell? ⟨gb155, 0, none⟩ = some (.string a0_0) ∧ w32.cell? ⟨gb155, 1, none⟩ = some (.slice A0_1 l0_1.length c0_1) ∧ w32.cell? ⟨gb155, 2, none⟩ = some (.string a0_2) ∧ w32.cell? (ad164.add (x6_2).toNat) = some (.string (rdOf ByteArray.empty t156 x6_2)) := hS_
                              refine norm_ (a' := ?_) ?_ ?_
                              rotate_left
                              · simp only [putAll, Act.put, List.setIfInBounds_toArray, List.set_cons_zero, List.set_cons_succ]
                                rfl
                              refine one_ (i := 5) (N := some 41) #[true, true, true, true, true, true, false, false, false, true, true, false, false] rfl rfl (one_of HT_.out (by kernel_rfl)) (by decide) (fun K hK => ?_)
                              refine goes_ Tryd.func28 (by kernel_rfl) rfl #[.agg #[.string a0_0, .slice A0_1 l0_1.length c0_1, .string a0_2], .string (rdOf ByteArray.empty t156 x6_2)] (by rfl) rfl rfl (by (try simp only [List.map_toArray, List.map_cons, List.map_nil]); first | done | rfl | (simp only [List.length_drop, List.length_take]; rfl)) ?_
                              with_reducible refine (envelope_For.calls k2 a0_0 _ _ l0_1 a0_2 (rdOf ByteArray.empty t156 x6_2) t165 t166 t169 t170 t171 _ ?side1 ?side2 A23.out).mono ?_
                              (case side1 => repeat (first | exact (Kd.C_below HR0_1.out HB.out) | (with_reducible refine Kd.C_alloc ?_ _) | (with_reducible refine Kd.C_drewN ?_ _) | (with_reducible refine Kd.C_drew ?_)))
                              (case side2 => exact HC0_1.out)
                              rintro e w33 ⟨v167, rfl, ho0, hb⟩
                              have HS3_ := (hb.cell (World.block_lt_of_cell? _ _ (hHeld.2.2.2))).trans (hHeld.2.2.2)
                              refine ⟨_, rfl, ?_⟩
                              have n0_ := Aside0.mk (Kd.R_below (by (with_reducible repeat (first | apply Kd.R_alloc | apply Kd.R_drewN | apply Kd.R_drew)); exact HO_3.out) hb)
                              have n1_ := Aside0.mk (Kd.R_elder' (by (with_reducible repeat (first | apply Kd.R_alloc | apply Kd.R_drewN | apply Kd.R_drew)); exact HO_5.out) (Kd.R_base ho0) hb)
                              have n2_ := Aside0.mk (Kd.R_lower (Kd.R_new' ho0 (Kd.R_lt (by (with_reducible repeat (first | apply Kd.R_alloc | apply Kd.R_drewN | apply Kd.R_drew)); exact HO_5.out))) (below_size (by repeat (first | (with_reducible first | exact HB.out | apply below_alloc | apply pw_below_drewN | apply below_drew1 | refine below_set ?_ GE155.out | refine below_set ?_ GE161.out | refine below_set ?_ GE172.out | refine below_set ?_ GE173.out) | exact HB.out))))
                              have n3_ := Aside0.mk (blk_below (g := gb155) (o := .cells #[.string a0_0, .slice A0_1 l0_1.length c0_1, .string a0_2] 41 (0, 0)) (by (with_reducible repeat (first | refine blk_drewN ?_ _ | refine blk_drew ?_ | refine blk_alloc ?_ _)); exact BK155.out) hb)
                              have n4_ := Aside0.mk (blk_below (g := gb161) (o := .cells #[.int .i64 t159, .int .i64 t160] 25 (0, 0)) (by (with_reducible repeat (first | refine blk_drewN ?_ _ | refine blk_drew ?_ | refine blk_alloc ?_ _)); exact BK161.out) hb)
                              have n5_ := Aside0.mk (blk_below (g := gb172) (o := .cells #[.string (⟨#[]⟩ : ByteArray), .slice none 0 0, .string (⟨#[]⟩ : ByteArray)] 41 (0, 0)) (by (with_reducible repeat (first | refine blk_drewN ?_ _ | refine blk_drew ?_ | refine blk_alloc ?_ _)); exact BK172.out) hb)
                              have n6_ := Aside0.mk (blk_below (g := gb173) (o := .cells #[.int .i64 0, .int .i64 0] 25 (0, 0)) (by (with_reducible repeat (first | refine blk_drewN ?_ _ | refine blk_drew ?_ | refine blk_alloc ?_ _)); exact BK173.out) hb)
                              have n7_ := Aside0.mk (below_step (by repeat (first | (with_reducible first | exact HB.out | apply below_alloc | apply pw_below_drewN | apply below_drew1 | refine below_set ?_ GE155.out | refine below_set ?_ GE161.out | refine below_set ?_ GE172.out | refine below_set ?_ GE173.out) | exact HB.out)) hb)
                              clear HO_3
                              clear HO_5
                              clear BK155
                              clear BK161
                              clear BK172
                              clear BK173
                              clear HB
                              have HO_3 := n0_
                              have HO_5 := n1_
                              have HO168 := n2_
                              have BK155 := n3_
                              have BK161 := n4_
                              have BK172 := n5_
                              have BK173 := n6_
                              have HB := n7_
                              clear n0_ n1_ n2_ n3_ n4_ n5_ n6_ n7_
                              (try clear hb)
                              (try clear hb2)
                              (try clear hk)
                              (try clear hi)
                              (try clear ho0)
                              refine hK.out _ _ ⟨(blk_cell BK155.out 0).trans rfl, (blk_cell BK155.out 1).trans rfl, (blk_cell BK155.out 2).trans rfl, HS3_⟩ (fun hHeld => ?_)
                              clear hK K
                              refine norm_ (a' := ?_) ?_ ?_
                              rotate_left
                              · show Act.put _ (some 41) _ = _
                                simp only [Act.put, List.setIfInBounds_toArray, List.set_cons_zero, List.set_cons_succ, i64_w, i32_w]
                                rfl
                              refine pure_ (i := 6) (N := some 35) (v := ?_) (a' := ?_) #[true, true, true, true, true, true, true, false, false, true, true, false, false] rfl rfl (any_of HT_.out (by kernel_rfl)) (fun _ _ _ h => h) (Or.inl ⟨by rfl, ?_⟩) ?_ ?_
                              rotate_left
                              · intro w'
                                go_simp
                                with_reducible rfl
                              rotate_left
                              · simp only [Act.put, List.setIfInBounds_toArray, List.set_cons_zero, List.set_cons_succ, i64_w, i32_w]
                                rfl
                              refine pure_ (i := 7) (N := some 42) (v := ?_) (a' := ?_) #[true, true, true, true, true, true, true, true, false, true, true, false, false] rfl rfl (any_of HT_.out (by kernel_rfl)) (fun _ _ _ h => h) (Or.inl ⟨by rfl, ?_⟩) ?_ ?_
                              rotate_left
                              · intro w'
                                go_simp
                                with_reducible rfl
                              rotate_left
                              · simp only [Act.put, List.setIfInBounds_toArray, List.set_cons_zero, List.set_cons_succ, i64_w, i32_w]
                                rfl
                              refine pure_ (i := 8) (N := some 43) (v := ?_) (a' := ?_) #[true, true, true, true, true, true, true, true, true, true, true, false, false] rfl rfl (any_of HT_.out (by kernel_rfl)) (fun _ _ _ h => h) (Or.inl ⟨by rfl, ?_⟩) ?_ ?_
                              rotate_left
                              · intro w'
                                go_simp
                                with_reducible rfl
                              rotate_left
                              · simp only [Act.put, List.setIfInBounds_toArray, List.set_cons_zero, List.set_cons_succ, i64_w, i32_w]
                                rfl
                              exact norm_ (by first | (simp only [putAll, Act.put, List.setIfInBounds_toArray, List.set_cons_zero, List.set_cons_succ]; done) | (simp only [putAll, Act.put, List.setIfInBounds_toArray, List.set_cons_zero, List.set_cons_succ]; rfl)) (hJ5_9_10 (v167, gb172, gb173) _ ⟨hHeld, (by (with_reducible repeat (first | apply Kd.R_alloc | apply Kd.R_drewN | apply Kd.R_drew)); exact Kd.R_mono HO168.out (fun _ hk => hk.2)), (by (with_reducible repeat (first | apply Kd.R_alloc | apply Kd.R_drewN | apply Kd.R_drew)); exact HO_3.out), (by (with_reducible repeat (first | apply Kd.R_alloc | apply Kd.R_drewN | apply Kd.R_drew)); exact Kd.R_mono HO_5.out (fun _ hk => hk.2)), (by (with_reducible repeat (first | refine blk_drewN ?_ _ | refine blk_drew ?_ | refine blk_alloc ?_ _)); exact BK155.out), (by (with_reducible repeat (first | refine blk_drewN ?_ _ | refine blk_drew ?_ | refine blk_alloc ?_ _)); exact BK161.out), (by (with_reducible repeat (first | refine blk_drewN ?_ _ | refine blk_drew ?_ | refine blk_alloc ?_ _)); exact BK172.out), (by (with_reducible repeat (first | refine blk_drewN ?_ _ | refine blk_drew ?_ | refine blk_alloc ?_ _)); exact BK173.out), GW172.out, GE172.out, NB155_172.out, NB172_155.out, NB161_172.out, NB172_161.out, NB173_172.out, NB172_173.out, GW173.out, GE173.out, NB155_173.out, NB173_155.out, NB161_173.out, NB173_161.out, (by repeat (first | (with_reducible first | exact HB.out | apply below_alloc | apply pw_below_drewN | apply below_drew1 | refine below_set ?_ GE155.out | refine below_set ?_ GE161.out | refine below_set ?_ GE172.out | refine below_set ?_ GE173.out) | exact HB.out))⟩)
                          · skip
                            rintro ⟨v167, gb173⟩ w32 ⟨hS_, h0_, h1_, h2_, h3_, h4_, h5_, h6_, h7_, h8_, h9_, h10_, h11_, h12_⟩
                            have n0_ : Aside0 (Kd.R k48 48 w32 w.heap.size (fun k_ => some k_ ≠ (u5 : Value).ownBlock) v167 t166) := ⟨h0_⟩
                            have n1_ : Aside0 (Kd.R Kd.string 9 w32 w.heap.size (fun _ => True) (.slice (some ad164) t156.length co28) t156) := ⟨h1_⟩
                            have n2_ : Aside0 (Kd.R k48 48 w32 w.heap.size (fun k_ => some k_ ≠ (v167 : Value).ownBlock) u5 x5_2) := ⟨h2_⟩
                            have n3_ : Aside0 (w32.heap[gb155]? = some (.cells #[.string a0_0, .slice A0_1 l0_1.length c0_1, .string a0_2] 41 (0, 0))) := ⟨h3_⟩
                            have n4_ : Aside0 (w32.heap[gb161]? = some (.cells #[.int .i64 t159, .int .i64 t160] 25 (0, 0))) := ⟨h4_⟩
                            have n5_ : Aside0 (w32.heap[gb173]? = some (.cells #[.int .i64 0, .int .i64 0] 25 (0, 0))) := ⟨h5_⟩
                            have n6_ : Aside0 (w.heap.size ≤ gb173) := ⟨h6_⟩
                            have n7_ : Aside0 (w.heap.size ≤ gb173) := ⟨h7_⟩
                            have n8_ : Aside0 (gb155 ≠ gb173) := ⟨h8_⟩
                            have n9_ : Aside0 (gb173 ≠ gb155) := ⟨h9_⟩
                            have n10_ : Aside0 (gb161 ≠ gb173) := ⟨h10_⟩
                            have n11_ : Aside0 (gb173 ≠ gb161) := ⟨h11_⟩
                            have n12_ : Aside0 (Below w.heap.size w w32) := ⟨h12_⟩
                            clear HO_3
                            clear HO_5
                            clear BK155
                            clear BK161
                            clear HB
                            clear h0_ h1_ h2_ h3_ h4_ h5_ h6_ h7_ h8_ h9_ h10_ h11_ h12_
                            have HO168 := n0_
                            have HO_3 := n1_
                            have HO_5 := n2_
                            have BK155 := n3_
                            have BK161 := n4_
                            have BK173 := n5_
                            have GW173 := n6_
                            have GE173 := n7_
                            have NB155_173 := n8_
                            have NB173_155 := n9_
                            have NB161_173 := n10_
                            have NB173_161 := n11_
                            have HB := n12_
                            clear n0_ n1_ n2_ n3_ n4_ n5_ n6_ n7_ n8_ n9_ n10_ n11_ n12_
                            have hHeld : w32.cell? ⟨gb155, 0, none⟩ = some (.string a0_0) ∧ w32.cell? ⟨gb155, 1, none⟩ = some (.slice A0_1 l0_1.length c0_1) ∧ w32.cell? ⟨gb155, 2, none⟩ = some (.string a0_2) ∧ w32.cell? (ad164.add (x6_2).toNat) = some (.string (rdOf ByteArray.empty t156 x6_2)) := hS_
                            refine norm_ (a' := ?_) ?_ ?_
                            rotate_left
                            · simp only [putAll, Act.put, List.setIfInBounds_toArray, List.set_cons_zero, List.set_cons_succ]
                              rfl
                            refine one_ (i := 9) (N := some 7) #[true, true, true, true, true, true, true, true, true, true, true, false, false] rfl rfl (one_of HT_.out (by kernel_rfl)) (by decide) (fun K hK => ?_)
                            refine box_step ?hg (N := 7) ?hd (cs := #[.string (⟨#[]⟩ : ByteArray), .slice none 0 0, .string (⟨#[]⟩ : ByteArray)]) (t := 41) ?hr ?_; (case hd => rfl); (case hg => rfl); (case hr => first | (go_simp; done) | (go_simp; rfl))
                            intro gb172 hg w33 hbox hb
                            have HS3_ := (hb.cell (World.block_lt_of_cell? _ _ (hHeld.2.2.2))).trans (hHeld.2.2.2)
                            have n0_ := Aside0.mk (Kd.R_below (by (with_reducible repeat (first | apply Kd.R_alloc | apply Kd.R_drewN | apply Kd.R_drew)); exact HO_3.out) hb)
                            have n1_ := Aside0.mk (Kd.R_below (by (with_reducible repeat (first | apply Kd.R_alloc | apply Kd.R_drewN | apply Kd.R_drew)); exact HO_5.out) hb)
                            have n2_ := Aside0.mk (Kd.R_below (by (with_reducible repeat (first | apply Kd.R_alloc | apply Kd.R_drewN | apply Kd.R_drew)); exact HO168.out) hb)
                            have n3_ := Aside0.mk (blk_below (g := gb155) (o := .cells #[.string a0_0, .slice A0_1 l0_1.length c0_1, .string a0_2] 41 (0, 0)) (by (with_reducible repeat (first | refine blk_drewN ?_ _ | refine blk_drew ?_ | refine blk_alloc ?_ _)); exact BK155.out) hb)
                            have n4_ := Aside0.mk (blk_below (g := gb161) (o := .cells #[.int .i64 t159, .int .i64 t160] 25 (0, 0)) (by (with_reducible repeat (first | refine blk_drewN ?_ _ | refine blk_drew ?_ | refine blk_alloc ?_ _)); exact BK161.out) hb)
                            have n5_ := Aside0.mk (blk_below (g := gb173) (o := .cells #[.int .i64 0, .int .i64 0] 25 (0, 0)) (by (with_reducible repeat (first | refine blk_drewN ?_ _ | refine blk_drew ?_ | refine blk_alloc ?_ _)); exact BK173.out) hb)
                            have n6_ := Aside0.mk (below_step (by repeat (first | (with_reducible first | exact HB.out | apply below_alloc | apply pw_below_drewN | apply below_drew1 | refine below_set ?_ GE155.out | refine below_set ?_ GE161.out | refine below_set ?_ GE173.out) | exact HB.out)) hb)
                            have n7_ := Aside0.mk (hbox)
                            have n8_ := Aside0.mk ((by rw [hg]; exact (below_size (by repeat (first | (with_reducible first | exact HB.out | apply below_alloc | apply pw_below_drewN | apply below_drew1 | refine below_set ?_ GE155.out | refine below_set ?_ GE161.out | refine below_set ?_ GE173.out) | exact HB.out))) : w.heap.size ≤ gb172))
                            have n9_ := Aside0.mk ((by rw [hg]; exact (below_size (by repeat (first | (with_reducible first | exact HB.out | apply below_alloc | apply pw_below_drewN | apply below_drew1 | refine below_set ?_ GE155.out | refine below_set ?_ GE161.out | refine below_set ?_ GE173.out) | exact HB.out))) : w.heap.size ≤ gb172))
                            have n10_ := Aside0.mk ((by rw [hg]; exact Nat.ne_of_lt (blk_lt (g := gb155) (o := .cells #[.string a0_0, .slice A0_1 l0_1.length c0_1, .string a0_2] 41 (0, 0)) (by (with_reducible repeat (first | refine blk_drewN ?_ _ | refine blk_drew ?_ | refine blk_alloc ?_ _)); exact BK155.out)) : gb155 ≠ gb172))
                            have n11_ := Aside0.mk ((by rw [hg]; exact Nat.ne_of_gt (blk_lt (g := gb155) (o := .cells #[.string a0_0, .slice A0_1 l0_1.length c0_1, .string a0_2] 41 (0, 0)) (by (with_reducible repeat (first | refine blk_drewN ?_ _ | refine blk_drew ?_ | refine blk_alloc ?_ _)); exact BK155.out)) : gb172 ≠ gb155))
                            have n12_ := Aside0.mk ((by rw [hg]; exact Nat.ne_of_lt (blk_lt (g := gb161) (o := .cells #[.int .i64 t159, .int .i64 t160] 25 (0, 0)) (by (with_reducible repeat (first | refine blk_drewN ?_ _ | refine blk_drew ?_ | refine blk_alloc ?_ _)); exact BK161.out)) : gb161 ≠ gb172))
                            have n13_ := Aside0.mk ((by rw [hg]; exact Nat.ne_of_gt (blk_lt (g := gb161) (o := .cells #[.int .i64 t159, .int .i64 t160] 25 (0, 0)) (by (with_reducible repeat (first | refine blk_drewN ?_ _ | refine blk_drew ?_ | refine blk_alloc ?_ _)); exact BK161.out)) : gb172 ≠ gb161))
                            have n14_ := Aside0.mk ((by rw [hg]; exact Nat.ne_of_lt (blk_lt (g := gb173) (o := .cells #[.int .i64 0, .int .i64 0] 25 (0, 0)) (by (with_reducible repeat (first | refine blk_drewN ?_ _ | refine blk_drew ?_ | refine blk_alloc ?_ _)); exact BK173.out)) : gb173 ≠ gb172))
                            have n15_ := Aside0.mk ((by rw [hg]; exact Nat.ne_of_gt (blk_lt (g := gb173) (o := .cells #[.int .i64 0, .int .i64 0] 25 (0, 0)) (by (with_reducible repeat (first | refine blk_drewN ?_ _ | refine blk_drew ?_ | refine blk_alloc ?_ _)); exact BK173.out)) : gb172 ≠ gb173))
                            clear HO_3
                            clear HO_5
                            clear HO168
                            clear BK155
                            clear BK161
                            clear BK173
                            clear HB
                            have HO_3 := n0_
                            have HO_5 := n1_
                            have HO168 := n2_
                            have BK155 := n3_
                            have BK161 := n4_
                            have BK173 := n5_
                            have HB := n6_
                            have BK172 := n7_
                            have GW172 := n8_
                            have GE172 := n9_
                            have NB155_172 := n10_
                            have NB172_155 := n11_
                            have NB161_172 := n12_
                            have NB172_161 := n13_
                            have NB173_172 := n14_
                            have NB172_173 := n15_
                            clear n0_ n1_ n2_ n3_ n4_ n5_ n6_ n7_ n8_ n9_ n10_ n11_ n12_ n13_ n14_ n15_
                            clear hb hbox hg
                            refine hK.out _ _ ⟨(blk_cell BK155.out 0).trans rfl, (blk_cell BK155.out 1).trans rfl, (blk_cell BK155.out 2).trans rfl, HS3_⟩ (fun hHeld => ?_)
                            clear hK K
                            refine norm_ (a' := ?_) ?_ ?_
                            rotate_left
                            · show Act.put _ (some 7) _ = _
                              simp only [Act.put, List.setIfInBounds_toArray, List.set_cons_zero, List.set_cons_succ, i64_w, i32_w]
                              rfl
                            exact norm_ (by first | (simp only [putAll, Act.put, List.setIfInBounds_toArray, List.set_cons_zero, List.set_cons_succ]; done) | (simp only [putAll, Act.put, List.setIfInBounds_toArray, List.set_cons_zero, List.set_cons_succ]; rfl)) (hJ5_9_10 (v167, gb172, gb173) _ ⟨hHeld, (by (with_reducible repeat (first | apply Kd.R_alloc | apply Kd.R_drewN | apply Kd.R_drew)); exact HO168.out), (by (with_reducible repeat (first | apply Kd.R_alloc | apply Kd.R_drewN | apply Kd.R_drew)); exact HO_3.out), (by (with_reducible repeat (first | apply Kd.R_alloc | apply Kd.R_drewN | apply Kd.R_drew)); exact HO_5.out), (by (with_reducible repeat (first | refine blk_drewN ?_ _ | refine blk_drew ?_ | refine blk_alloc ?_ _)); exact BK155.out), (by (with_reducible repeat (first | refine blk_drewN ?_ _ | refine blk_drew ?_ | refine blk_alloc ?_ _)); exact BK161.out), (by (with_reducible repeat (first | refine blk_drewN ?_ _ | refine blk_drew ?_ | refine blk_alloc ?_ _)); exact BK172.out), (by (with_reducible repeat (first | refine blk_drewN ?_ _ | refine blk_drew ?_ | refine blk_alloc ?_ _)); exact BK173.out), GW172.out, GE172.out, NB155_172.out, NB172_155.out, NB161_172.out, NB172_161.out, NB173_172.out, NB172_173.out, GW173.out, GE173.out, NB155_173.out, NB173_155.out, NB161_173.out, NB173_161.out, (by repeat (first | (with_reducible first | exact HB.out | apply below_alloc | apply pw_below_drewN | apply below_drew1 | refine below_set ?_ GE155.out | refine below_set ?_ GE161.out | refine below_set ?_ GE173.out | refine below_set ?_ GE172.out) | exact HB.out))⟩)
                        · skip
                          rintro ⟨v167, gb172⟩ w32 ⟨hS_, h0_, h1_, h2_, h3_, h4_, h5_, h6_, h7_, h8_, h9_, h10_, h11_, h12_⟩
                          have n0_ : Aside0 (Kd.R k48 48 w32 w.heap.size (fun k_ => some k_ ≠ (u5 : Value).ownBlock) v167 t166) := ⟨h0_⟩
                          have n1_ : Aside0 (Kd.R Kd.string 9 w32 w.heap.size (fun _ => True) (.slice (some ad164) t156.length co28) t156) := ⟨h1_⟩
                          have n2_ : Aside0 (Kd.R k48 48 w32 w.heap.size (fun k_ => some k_ ≠ (v167 : Value).ownBlock) u5 x5_2) := ⟨h2_⟩
                          have n3_ : Aside0 (w32.heap[gb155]? = some (.cells #[.string a0_0, .slice A0_1 l0_1.length c0_1, .string a0_2] 41 (0, 0))) := ⟨h3_⟩
                          have n4_ : Aside0 (w32.heap[gb161]? = some (.cells #[.int .i64 t159, .int .i64 t160] 25 (0, 0))) := ⟨h4_⟩
                          have n5_ : Aside0 (w32.heap[gb172]? = some (.cells #[.string (⟨#[]⟩ : ByteArray), .slice none 0 0, .string (⟨#[]⟩ : ByteArray)] 41 (0, 0))) := ⟨h5_⟩
                          have n6_ : Aside0 (w.heap.size ≤ gb172) := ⟨h6_⟩
                          have n7_ : Aside0 (w.heap.size ≤ gb172) := ⟨h7_⟩
                          have n8_ : Aside0 (gb155 ≠ gb172) := ⟨h8_⟩
                          have n9_ : Aside0 (gb172 ≠ gb155) := ⟨h9_⟩
                          have n10_ : Aside0 (gb161 ≠ gb172) := ⟨h10_⟩
                          have n11_ : Aside0 (gb172 ≠ gb161) := ⟨h11_⟩
                          have n12_ : Aside0 (Below w.heap.size w w32) := ⟨h12_⟩
                          clear HO_3
                          clear HO_5
                          clear BK155
                          clear BK161
                          clear HB
                          clear h0_ h1_ h2_ h3_ h4_ h5_ h6_ h7_ h8_ h9_ h10_ h11_ h12_
                          have HO168 := n0_
                          have HO_3 := n1_
                          have HO_5 := n2_
                          have BK155 := n3_
                          have BK161 := n4_
                          have BK172 := n5_
                          have GW172 := n6_
                          have GE172 := n7_
                          have NB155_172 := n8_
                          have NB172_155 := n9_
                          have NB161_172 := n10_
                          have NB172_161 := n11_
                          have HB := n12_
                          clear n0_ n1_ n2_ n3_ n4_ n5_ n6_ n7_ n8_ n9_ n10_ n11_ n12_
                          have hHeld : w32.cell? ⟨gb155, 0, none⟩ = some (.string a0_0) ∧ w32.cell? ⟨gb155, 1, none⟩ = some (.slice A0_1 l0_1.length c0_1) ∧ w32.cell? ⟨gb155, 2, none⟩ = some (.string a0_2) ∧ w32.cell? (ad164.add (x6_2).toNat) = some (.string (rdOf ByteArray.empty t156 x6_2)) := hS_
                          refine norm_ (a' := ?_) ?_ ?_
                          rotate_left
                          · simp only [putAll, Act.put, List.setIfInBounds_toArray, List.set_cons_zero, List.set_cons_succ]
                            rfl
                          refine one_ (i := 10) (N := some 8) #[true, true, true, true, true, true, true, true, true, true, true, false, false] rfl rfl (one_of HT_.out (by kernel_rfl)) (by decide) (fun K hK => ?_)
                          refine box_step ?hg (N := 8) ?hd (cs := #[.int .i64 0, .int .i64 0]) (t := 25) ?hr ?_; (case hd => rfl); (case hg => rfl); (case hr => first | (go_simp; done) | (go_simp; rfl))
                          intro gb173 hg w33 hbox hb
                          have HS3_ := (hb.cell (World.block_lt_of_cell? _ _ (hHeld.2.2.2))).trans (hHeld.2.2.2)
                          have n0_ := Aside0.mk (Kd.R_below (by (with_reducible repeat (first | apply Kd.R_alloc | apply Kd.R_drewN | apply Kd.R_drew)); exact HO_3.out) hb)
                          have n1_ := Aside0.mk (Kd.R_below (by (with_reducible repeat (first | apply Kd.R_alloc | apply Kd.R_drewN | apply Kd.R_drew)); exact HO_5.out) hb)
                          have n2_ := Aside0.mk (Kd.R_below (by (with_reducible repeat (first | apply Kd.R_alloc | apply Kd.R_drewN | apply Kd.R_drew)); exact HO168.out) hb)
                          have n3_ := Aside0.mk (blk_below (g := gb155) (o := .cells #[.string a0_0, .slice A0_1 l0_1.length c0_1, .string a0_2] 41 (0, 0)) (by (with_reducible repeat (first | refine blk_drewN ?_ _ | refine blk_drew ?_ | refine blk_alloc ?_ _)); exact BK155.out) hb)
                          have n4_ := Aside0.mk (blk_below (g := gb161) (o := .cells #[.int .i64 t159, .int .i64 t160] 25 (0, 0)) (by (with_reducible repeat (first | refine blk_drewN ?_ _ | refine blk_drew ?_ | refine blk_alloc ?_ _)); exact BK161.out) hb)
                          have n5_ := Aside0.mk (blk_below (g := gb172) (o := .cells #[.string (⟨#[]⟩ : ByteArray), .slice none 0 0, .string (⟨#[]⟩ : ByteArray)] 41 (0, 0)) (by (with_reducible repeat (first | refine blk_drewN ?_ _ | refine blk_drew ?_ | refine blk_alloc ?_ _)); exact BK172.out) hb)
                          have n6_ := Aside0.mk (below_step (by repeat (first | (with_reducible first | exact HB.out | apply below_alloc | apply pw_below_drewN | apply below_drew1 | refine below_set ?_ GE155.out | refine below_set ?_ GE161.out | refine below_set ?_ GE172.out) | exact HB.out)) hb)
                          have n7_ := Aside0.mk (hbox)
                          have n8_ := Aside0.mk ((by rw [hg]; exact (below_size (by repeat (first | (with_reducible first | exact HB.out | apply below_alloc | apply pw_below_drewN | apply below_drew1 | refine below_set ?_ GE155.out | refine below_set ?_ GE161.out | refine below_set ?_ GE172.out) | exact HB.out))) : w.heap.size ≤ gb173))
                          have n9_ := Aside0.mk ((by rw [hg]; exact (below_size (by repeat (first | (with_reducible first | exact HB.out | apply below_alloc | apply pw_below_drewN | apply below_drew1 | refine below_set ?_ GE155.out | refine below_set ?_ GE161.out | refine below_set ?_ GE172.out) | exact HB.out))) : w.heap.size ≤ gb173))
                          have n10_ := Aside0.mk ((by rw [hg]; exact Nat.ne_of_lt (blk_lt (g := gb155) (o := .cells #[.string a0_0, .slice A0_1 l0_1.length c0_1, .string a0_2] 41 (0, 0)) (by (with_reducible repeat (first | refine blk_drewN ?_ _ | refine blk_drew ?_ | refine blk_alloc ?_ _)); exact BK155.out)) : gb155 ≠ gb173))
                          have n11_ := Aside0.mk ((by rw [hg]; exact Nat.ne_of_gt (blk_lt (g := gb155) (o := .cells #[.string a0_0, .slice A0_1 l0_1.length c0_1, .string a0_2] 41 (0, 0)) (by (with_reducible repeat (first | refine blk_drewN ?_ _ | refine blk_drew ?_ | refine blk_alloc ?_ _)); exact BK155.out)) : gb173 ≠ gb155))
                          have n12_ := Aside0.mk ((by rw [hg]; exact Nat.ne_of_lt (blk_lt (g := gb161) (o := .cells #[.int .i64 t159, .int .i64 t160] 25 (0, 0)) (by (with_reducible repeat (first | refine blk_drewN ?_ _ | refine blk_drew ?_ | refine blk_alloc ?_ _)); exact BK161.out)) : gb161 ≠ gb173))
                          have n13_ := Aside0.mk ((by rw [hg]; exact Nat.ne_of_gt (blk_lt (g := gb161) (o := .cells #[.int .i64 t159, .int .i64 t160] 25 (0, 0)) (by (with_reducible repeat (first | refine blk_drewN ?_ _ | refine blk_drew ?_ | refine blk_alloc ?_ _)); exact BK161.out)) : gb173 ≠ gb161))
                          have n14_ := Aside0.mk ((by rw [hg]; exact Nat.ne_of_lt (blk_lt (g := gb172) (o := .cells #[.string (⟨#[]⟩ : ByteArray), .slice none 0 0, .string (⟨#[]⟩ : ByteArray)] 41 (0, 0)) (by (with_reducible repeat (first | refine blk_drewN ?_ _ | refine blk_drew ?_ | refine blk_alloc ?_ _)); exact BK172.out)) : gb172 ≠ gb173))
                          have n15_ := Aside0.mk ((by rw [hg]; exact Nat.ne_of_gt (blk_lt (g := gb172) (o := .cells #[.string (⟨#[]⟩ : ByteArray), .slice none 0 0, .string (⟨#[]⟩ : ByteArray)] 41 (0, 0)) (by (with_reducible repeat (first | refine blk_drewN ?_ _ | refine blk_drew ?_ | refine blk_alloc ?_ _)); exact BK172.out)) : gb173 ≠ gb172))
                          clear HO_3
                          clear HO_5
                          clear HO168
                          clear BK155
                          clear BK161
                          clear BK172
                          clear HB
                          have HO_3 := n0_
                          have HO_5 := n1_
                          have HO168 := n2_
                          have BK155 := n3_
                          have BK161 := n4_
                          have BK172 := n5_
                          have HB := n6_
                          have BK173 := n7_
                          have GW173 := n8_
                          have GE173 := n9_
                          have NB155_173 := n10_
                          have NB173_155 := n11_
                          have NB161_173 := n12_
                          have NB173_161 := n13_
                          have NB172_173 := n14_
                          have NB173_172 := n15_
                          clear n0_ n1_ n2_ n3_ n4_ n5_ n6_ n7_ n8_ n9_ n10_ n11_ n12_ n13_ n14_ n15_
                          clear hb hbox hg
                          refine hK.out _ _ ⟨(blk_cell BK155.out 0).trans rfl, (blk_cell BK155.out 1).trans rfl, (blk_cell BK155.out 2).trans rfl, HS3_⟩ (fun hHeld => ?_)
                          clear hK K
                          refine norm_ (a' := ?_) ?_ ?_
                          rotate_left
                          · show Act.put _ (some 8) _ = _
                            simp only [Act.put, List.setIfInBounds_toArray, List.set_cons_zero, List.set_cons_succ, i64_w, i32_w]
                            rfl
                          exact norm_ (by first | (simp only [putAll, Act.put, List.setIfInBounds_toArray, List.set_cons_zero, List.set_cons_succ]; done) | (simp only [putAll, Act.put, List.setIfInBounds_toArray, List.set_cons_zero, List.set_cons_succ]; rfl)) (hJ5_9_10 (v167, gb172, gb173) _ ⟨hHeld, (by (with_reducible repeat (first | apply Kd.R_alloc | apply Kd.R_drewN | apply Kd.R_drew)); exact HO168.out), (by (with_reducible repeat (first | apply Kd.R_alloc | apply Kd.R_drewN | apply Kd.R_drew)); exact HO_3.out), (by (with_reducible repeat (first | apply Kd.R_alloc | apply Kd.R_drewN | apply Kd.R_drew)); exact HO_5.out), (by (with_reducible repeat (first | refine blk_drewN ?_ _ | refine blk_drew ?_ | refine blk_alloc ?_ _)); exact BK155.out), (by (with_reducible repeat (first | refine blk_drewN ?_ _ | refine blk_drew ?_ | refine blk_alloc ?_ _)); exact BK161.out), (by (with_reducible repeat (first | refine blk_drewN ?_ _ | refine blk_drew ?_ | refine blk_alloc ?_ _)); exact BK172.out), (by (with_reducible repeat (first | refine blk_drewN ?_ _ | refine blk_drew ?_ | refine blk_alloc ?_ _)); exact BK173.out), GW172.out, GE172.out, NB155_172.out, NB172_155.out, NB161_172.out, NB172_161.out, NB173_172.out, NB172_173.out, GW173.out, GE173.out, NB155_173.out, NB173_155.out, NB161_173.out, NB173_161.out, (by repeat (first | (with_reducible first | exact HB.out | apply below_alloc | apply pw_below_drewN | apply below_drew1 | refine below_set ?_ GE155.out | refine below_set ?_ GE161.out | refine below_set ?_ GE172.out | refine below_set ?_ GE173.out) | exact HB.out))⟩)
                      rintro ⟨v167, gb172, gb173⟩ w33 ⟨hS_, h0_, h1_, h2_, h3_, h4_, h5_, h6_, h7_, h8_, h9_, h10_, h11_, h12_, h13_, h14_, h15_, h16_, h17_, h18_, h19_, h20_, h21_⟩
                      have n0_ : Aside0 (Kd.R k48 48 w33 w.heap.size (fun k_ => some k_ ≠ (u5 : Value).ownBlock) v167 t166) := ⟨h0_⟩
                      have n1_ : Aside0 (Kd.R Kd.string 9 w33 w.heap.size (fun _ => True) (.slice (some ad164) t156.length co28) t156) := ⟨h1_⟩
                      have n2_ : Aside0 (Kd.R k48 48 w33 w.heap.size (fun k_ => some k_ ≠ (v167 : Value).ownBlock) u5 x5_2) := ⟨h2_⟩
                      have n3_ : Aside0 (w33.heap[gb155]? = some (.cells #[.string a0_0, .slice A0_1 l0_1.length c0_1, .string a0_2] 41 (0, 0))) := ⟨h3_⟩
                      have n4_ : Aside0 (w33.heap[gb161]? = some (.cells #[.int .i64 t159, .int .i64 t160] 25 (0, 0))) := ⟨h4_⟩
                      have n5_ : Aside0 (w33.heap[gb172]? = some (.cells #[.string (⟨#[]⟩ : ByteArray), .slice none 0 0, .string (⟨#[]⟩ : ByteArray)] 41 (0, 0))) := ⟨h5_⟩
                      have n6_ : Aside0 (w33.heap[gb173]? = some (.cells #[.int .i64 0, .int .i64 0] 25 (0, 0))) := ⟨h6_⟩
                      have n7_ : Aside0 (w.heap.size ≤ gb172) := ⟨h7_⟩
                      have n8_ : Aside0 (w.heap.size ≤ gb172) := ⟨h8_⟩
                      have n9_ : Aside0 (gb155 ≠ gb172) := ⟨h9_⟩
                      have n10_ : Aside0 (gb172 ≠ gb155) := ⟨h10_⟩
                      have n11_ : Aside0 (gb161 ≠ gb172) := ⟨h11_⟩
                      have n12_ : Aside0 (gb172 ≠ gb161) := ⟨h12_⟩
                      have n13_ : Aside0 (gb173 ≠ gb172) := ⟨h13_⟩
                      have n14_ : Aside0 (gb172 ≠ gb173) := ⟨h14_⟩
                      have n15_ : Aside0 (w.heap.size ≤ gb173) := ⟨h15_⟩
                      have n16_ : Aside0 (w.heap.size ≤ gb173) := ⟨h16_⟩
                      have n17_ : Aside0 (gb155 ≠ gb173) := ⟨h17_⟩
                      have n18_ : Aside0 (gb173 ≠ gb155) := ⟨h18_⟩
                      have n19_ : Aside0 (gb161 ≠ gb173) := ⟨h19_⟩
                      have n20_ : Aside0 (gb173 ≠ gb161) := ⟨h20_⟩
                      have n21_ : Aside0 (Below w.heap.size w w33) := ⟨h21_⟩
                      clear HO_3
                      clear HO_5
                      clear BK155
                      clear BK161
                      clear HB
                      clear h0_ h1_ h2_ h3_ h4_ h5_ h6_ h7_ h8_ h9_ h10_ h11_ h12_ h13_ h14_ h15_ h16_ h17_ h18_ h19_ h20_ h21_
                      have HO168 := n0_
                      have HO_3 := n1_
                      have HO_5 := n2_
                      have BK155 := n3_
                      have BK161 := n4_
                      have BK172 := n5_
                      have BK173 := n6_
                      have GW172 := n7_
                      have GE172 := n8_
                      have NB155_172 := n9_
                      have NB172_155 := n10_
                      have NB161_172 := n11_
                      have NB172_161 := n12_
                      have NB173_172 := n13_
                      have NB172_173 := n14_
                      have GW173 := n15_
                      have GE173 := n16_
                      have NB155_173 := n17_
                      have NB173_155 := n18_
                      have NB161_173 := n19_
                      have NB173_161 := n20_
                      have HB := n21_
                      clear n0_ n1_ n2_ n3_ n4_ n5_ n6_ n7_ n8_ n9_ n10_ n11_ n12_ n13_ n14_ n15_ n16_ n17_ n18_ n19_ n20_ n21_
                      have hHeld : w33.cell? ⟨gb155, 0, none⟩ = some (.string a0_0) ∧ w33.cell? ⟨gb155, 1, none⟩ = some (.slice A0_1 l0_1.length c0_1) ∧ w33.cell? ⟨gb155, 2, none⟩ = some (.string a0_2) ∧ w33.cell? (ad164.add (x6_2).toNat) = some (.string (rdOf ByteArray.empty t156 x6_2)) := hS_
                      obtain ⟨Ao35, co35, eo35⟩ := Kd.R_slice HO168.out
                      (first | subst eo35 | (injection eo35 with f1_ f2_ f3_; have f4_ := f1_.symm; have f5_ := f3_.symm; clear f1_ f2_ f3_; subst f4_; subst f5_))
                      refine norm_ (a' := ?_) ?_ ?_
                      rotate_left
                      · simp only [putAll, Act.put, List.setIfInBounds_toArray, List.set_cons_zero, List.set_cons_succ]
                        rfl
                      refine one_ (i := 11) (N := none) #[true, true, true, true, true, true, true, true, true, true, true, true, false] rfl rfl (one_of HT_.out (by kernel_rfl)) (by decide) (fun K hK => ?_)
                      have hs34 : w33.cell? ⟨gb172, 0, none⟩ = some (.string (⟨#[]⟩ : ByteArray)) := (blk_cell BK172.out 0).trans rfl
                      have hfs34 := blk_frozen BK172.out 0
                      have hns34_0 := NB155_172.out
                      have hns34_1 := NB161_172.out
                      have hns34_3 := NB173_172.out
                      have hms34_0 := NB172_155.out
                      have hms34_1 := NB172_161.out
                      have hms34_3 := NB172_173.out
                      have hs36 : w33.cell? ⟨gb172, 1, none⟩ = some (.slice none 0 0) := (blk_cell BK172.out 1).trans rfl
                      have hfs36 := blk_frozen BK172.out 1
                      have hns36_0 := NB155_172.out
                      have hns36_1 := NB161_172.out
                      have hns36_3 := NB173_172.out
                      have hms36_0 := NB172_155.out
                      have hms36_1 := NB172_161.out
                      have hms36_3 := NB172_173.out
                      have hs37 : w33.cell? ⟨gb172, 2, none⟩ = some (.string (⟨#[]⟩ : ByteArray)) := (blk_cell BK172.out 2).trans rfl
                      have hfs37 := blk_frozen BK172.out 2
                      have hns37_0 := NB155_172.out
                      have hns37_1 := NB161_172.out
                      have hns37_3 := NB173_172.out
                      have hms37_0 := NB172_155.out
                      have hms37_1 := NB172_161.out
                      have hms37_3 := NB172_173.out
                      refine skip_ (w1 := ?_) (by rfl) rfl ?_ ?_
                      rotate_left
                      · go_simp
                        rfl
                      refine hK.out _ _ ⟨((cell_far (p := ⟨gb172, _, none⟩) NB155_172.out _).trans (((cell_far (p := ⟨gb172, _, none⟩) NB155_172.out _).trans (((cell_far (p := ⟨gb172, _, none⟩) NB155_172.out _).trans (hHeld.1)))))), ((cell_far (p := ⟨gb172, _, none⟩) NB155_172.out _).trans (((cell_far (p := ⟨gb172, _, none⟩) NB155_172.out _).trans (((cell_far (p := ⟨gb172, _, none⟩) NB155_172.out _).trans (hHeld.2.1)))))), ((cell_far (p := ⟨gb172, _, none⟩) NB155_172.out _).trans (((cell_far (p := ⟨gb172, _, none⟩) NB155_172.out _).trans (((cell_far (p := ⟨gb172, _, none⟩) NB155_172.out _).trans (hHeld.2.2.1)))))), ((cell_far (p := ⟨gb172, _, none⟩) (by first | exact Kd.own_blk (Kd.R_ne HO_3.out BK172.out (by decide)) | (rw [add_block]; exact Kd.own_blk (Kd.R_ne HO_3.out BK172.out (by decide))) | (show (Addr.add _ _).block ≠ _; rw [add_block]; exact Kd.own_blk (Kd.R_ne HO_3.out BK172.out (by decide))) | (dsimp only; exact Kd.own_blk (Kd.R_ne HO_3.out BK172.out (by decide)))) _).trans (((cell_far (p := ⟨gb172, _, none⟩) (by first | exact Kd.own_blk (Kd.R_ne HO_3.out BK172.out (by decide)) | (rw [add_block]; exact Kd.own_blk (Kd.R_ne HO_3.out BK172.out (by decide))) | (show (Addr.add _ _).block ≠ _; rw [add_block]; exact Kd.own_blk (Kd.R_ne HO_3.out BK172.out (by decide))) | (dsimp only; exact Kd.own_blk (Kd.R_ne HO_3.out BK172.out (by decide)))) _).trans (((cell_far (p := ⟨gb172, _, none⟩) (by first | exact Kd.own_blk (Kd.R_ne HO_3.out BK172.out (by decide)) | (rw [add_block]; exact Kd.own_blk (Kd.R_ne HO_3.out BK172.out (by decide))) | (show (Addr.add _ _).block ≠ _; rw [add_block]; exact Kd.own_blk (Kd.R_ne HO_3.out BK172.out (by decide))) | (dsimp only; exact Kd.own_blk (Kd.R_ne HO_3.out BK172.out (by decide)))) _).trans (hHeld.2.2.2))))))⟩ (fun hHeld => ?_)
                      clear hK K
                      refine one_ (i := 12) (N := none) #[true, true, true, true, true, true, true, true, true, true, true, true, true] rfl rfl (one_of HT_.out (by kernel_rfl)) (by decide) (fun K hK => ?_)
                      have hs38 : w33.cell? ⟨gb173, 0, none⟩ = some (.int .i64 0) := (blk_cell BK173.out 0).trans rfl
                      have hfs38 := blk_frozen BK173.out 0
                      have hns38_0 := NB155_173.out
                      have hns38_1 := NB161_173.out
                      have hns38_2 := NB172_173.out
                      have hms38_0 := NB173_155.out
                      have hms38_1 := NB173_161.out
                      have hms38_2 := NB173_172.out
                      have hs39 : w33.cell? ⟨gb173, 1, none⟩ = some (.int .i64 0) := (blk_cell BK173.out 1).trans rfl
                      have hfs39 := blk_frozen BK173.out 1
                      have hns39_0 := NB155_173.out
                      have hns39_1 := NB161_173.out
                      have hns39_2 := NB172_173.out
                      have hms39_0 := NB173_155.out
                      have hms39_1 := NB173_161.out
                      have hms39_2 := NB173_172.out
                      refine skip_ (w1 := ?_) (by rfl) rfl ?_ ?_
                      rotate_left
                      · go_simp
                        rfl
                      refine hK.out _ _ ⟨((cell_far (p := ⟨gb173, _, none⟩) NB155_173.out _).trans (((cell_far (p := ⟨gb173, _, none⟩) NB155_173.out _).trans (hHeld.1)))), ((cell_far (p := ⟨gb173, _, none⟩) NB155_173.out _).trans (((cell_far (p := ⟨gb173, _, none⟩) NB155_173.out _).trans (hHeld.2.1)))), ((cell_far (p := ⟨gb173, _, none⟩) NB155_173.out _).trans (((cell_far (p := ⟨gb173, _, none⟩) NB155_173.out _).trans (hHeld.2.2.1)))), ((cell_far (p := ⟨gb173, _, none⟩) (by first | exact Kd.own_blk (Kd.R_ne HO_3.out BK173.out (by decide)) | (rw [add_block]; exact Kd.own_blk (Kd.R_ne HO_3.out BK173.out (by decide))) | (show (Addr.add _ _).block ≠ _; rw [add_block]; exact Kd.own_blk (Kd.R_ne HO_3.out BK173.out (by decide))) | (dsimp only; exact Kd.own_blk (Kd.R_ne HO_3.out BK173.out (by decide)))) _).trans (((cell_far (p := ⟨gb173, _, none⟩) (by first | exact Kd.own_blk (Kd.R_ne HO_3.out BK173.out (by decide)) | (rw [add_block]; exact Kd.own_blk (Kd.R_ne HO_3.out BK173.out (by decide))) | (show (Addr.add _ _).block ≠ _; rw [add_block]; exact Kd.own_blk (Kd.R_ne HO_3.out BK173.out (by decide))) | (dsimp only; exact Kd.own_blk (Kd.R_ne HO_3.out BK173.out (by decide)))) _).trans (hHeld.2.2.2))))⟩ (fun hHeld => ?_)
                      clear hK K
                      refine done_ (done_of HT_.out (by kernel_rfl)) ?_
                      have hnb40 := NB173_155.out
                      have hnc40 := NB155_173.out
                      have hnb41 := NB173_161.out
                      have hnc41 := NB161_173.out
                      have hnb42 := NB173_172.out
                      have hnc42 := NB172_173.out
                      have hcz43_0 : w33.cell? ⟨gb173, 0, none⟩ = some (.int .i64 0) := (blk_cell BK173.out 0).trans rfl
                      have hcz43_1 : w33.cell? ⟨gb173, 1, none⟩ = some (.int .i64 0) := (blk_cell BK173.out 1).trans rfl
                      have hfz43_0 := blk_frozen BK173.out 0
                      have hfz43_1 := blk_frozen BK173.out 1
                      have hnb44 := NB172_155.out
                      have hnc44 := NB155_172.out
                      have hnb45 := NB172_161.out
                      have hnc45 := NB161_172.out
                      have hcz46_0 : w33.cell? ⟨gb172, 0, none⟩ = some (.string (⟨#[]⟩ : ByteArray)) := (blk_cell BK172.out 0).trans rfl
                      have hcz46_1 : w33.cell? ⟨gb172, 1, none⟩ = some (.slice none 0 0) := (blk_cell BK172.out 1).trans rfl
                      have hcz46_2 : w33.cell? ⟨gb172, 2, none⟩ = some (.string (⟨#[]⟩ : ByteArray)) := (blk_cell BK172.out 2).trans rfl
                      have hfz46_0 := blk_frozen BK172.out 0
                      have hfz46_1 := blk_frozen BK172.out 1
                      have hfz46_2 := blk_frozen BK172.out 2
                      try go_wp2_with (first | (go_at_call 37; (with_reducible refine (envelope_Validate.calls k2 t165 _ _ t166 t169 t174 t175 _ ?side1 ?side2 A25.out).mono ?_); (case side1 => refine (Kd.R_reads' (e := 48) (base := w.heap.size) (ok := fun k_ => some k_ ≠ (u5 : Value).ownBlock) (n := t166.length) (c := co35) ?_).2.2; exact (by (with_reducible repeat (first | apply Kd.R_alloc | apply Kd.R_drewN | apply Kd.R_drew)); exact (Kd.R_mono (Kd.R_mono (Kd.R_far (p := ⟨gb173, 1, none⟩) (Kd.R_far (p := ⟨gb173, 0, none⟩) (Kd.R_far (p := ⟨gb172, 2, none⟩) (Kd.R_far (p := ⟨gb172, 1, none⟩) (Kd.R_far (p := ⟨gb172, 0, none⟩) (Kd.R_types (Kd.R_types HO168.out BK172.out (by decide)) BK173.out (by decide)) (fun _ hk => hk.1.2) (.string t165)) (fun _ hk => hk.1.2) (.slice Ao35 t166.length co35)) (fun _ hk => hk.1.2) (.string t169)) (fun _ hk => hk.2) (.int .i64 t170)) (fun _ hk => hk.2) (.int .i64 t171)) (fun _ h_ => h_.1)) (fun _ h_ => h_.1)))); (case side2 => exact (Kd.R_reads' HO168.out).2.1); rintro e w47 ⟨rfl, hb⟩; have n0_ := Aside0.mk (Kd.R_below (by (with_reducible repeat (first | apply Kd.R_alloc | apply Kd.R_drewN | apply Kd.R_drew)); exact (Kd.R_mono (Kd.R_mono (Kd.R_far (p := ⟨gb173, 1, none⟩) (Kd.R_far (p := ⟨gb173, 0, none⟩) (Kd.R_far (p := ⟨gb172, 2, none⟩) (Kd.R_far (p := ⟨gb172, 1, none⟩) (Kd.R_far (p := ⟨gb172, 0, none⟩) (Kd.R_types (Kd.R_types HO_3.out BK172.out (by decide)) BK173.out (by decide)) (fun _ hk => hk.1.2) (.string t165)) (fun _ hk => hk.1.2) (.slice Ao35 t166.length co35)) (fun _ hk => hk.1.2) (.string t169)) (fun _ hk => hk.2) (.int .i64 t170)) (fun _ hk => hk.2) (.int .i64 t171)) (fun _ h_ => h_.1)) (fun _ h_ => h_.1))) hb); have n1_ := Aside0.mk (Kd.R_below (by (with_reducible repeat (first | apply Kd.R_alloc | apply Kd.R_drewN | apply Kd.R_drew)); exact (Kd.R_mono (Kd.R_mono (Kd.R_far (p := ⟨gb173, 1, none⟩) (Kd.R_far (p := ⟨gb173, 0, none⟩) (Kd.R_far (p := ⟨gb172, 2, none⟩) (Kd.R_far (p := ⟨gb172, 1, none⟩) (Kd.R_far (p := ⟨gb172, 0, none⟩) (Kd.R_types (Kd.R_types HO_5.out BK172.out (by decide)) BK173.out (by decide)) (fun _ hk => hk.1.2) (.string t165)) (fun _ hk => hk.1.2) (.slice Ao35 t166.length co35)) (fun _ hk => hk.1.2) (.string t169)) (fun _ hk => hk.2) (.int .i64 t170)) (fun _ hk => hk.2) (.int .i64 t171)) (fun _ h_ => h_.1)) (fun _ h_ => h_.1))) hb); have n2_ := Aside0.mk (Kd.R_below (by (with_reducible repeat (first | apply Kd.R_alloc | apply Kd.R_drewN | apply Kd.R_drew)); exact (Kd.R_mono (Kd.R_mono (Kd.R_far (p := ⟨gb173, 1, none⟩) (Kd.R_far (p := ⟨gb173, 0, none⟩) (Kd.R_far (p := ⟨gb172, 2, none⟩) (Kd.R_far (p := ⟨gb172, 1, none⟩) (Kd.R_far (p := ⟨gb172, 0, none⟩) (Kd.R_types (Kd.R_types HO168.out BK172.out (by decide)) BK173.out (by decide)) (fun _ hk => hk.1.2) (.string t165)) (fun _ hk => hk.1.2) (.slice Ao35 t166.length co35)) (fun _ hk => hk.1.2) (.string t169)) (fun _ hk => hk.2) (.int .i64 t170)) (fun _ hk => hk.2) (.int .i64 t171)) (fun _ h_ => h_.1)) (fun _ h_ => h_.1))) hb); have n3_ := Aside0.mk (blk_below (g := gb155) (o := .cells #[.string a0_0, .slice A0_1 l0_1.length c0_1, .string a0_2] 41 (0, 0)) (by (with_reducible repeat (first | refine blk_drewN ?_ _ | refine blk_drew ?_ | refine blk_alloc ?_ _)); refine blk_far ?_ NB155_173.out _; (with_reducible repeat (first | refine blk_drewN ?_ _ | refine blk_drew ?_ | refine blk_alloc ?_ _)); refine blk_far ?_ NB155_173.out _; (with_reducible repeat (first | refine blk_drewN ?_ _ | refine blk_drew ?_ | refine blk_alloc ?_ _)); refine blk_far ?_ NB155_172.out _; (with_reducible repeat (first | refine blk_drewN ?_ _ | refine blk_drew ?_ | refine blk_alloc ?_ _)); refine blk_far ?_ NB155_172.out _; (with_reducible repeat (first | refine blk_drewN ?_ _ | refine blk_drew ?_ | refine blk_alloc ?_ _)); refine blk_far ?_ NB155_172.out _; (with_reducible repeat (first | refine blk_drewN ?_ _ | refine blk_drew ?_ | refine blk_alloc ?_ _)); exact BK155.out) hb); have n4_ := Aside0.mk (blk_below (g := gb161) (o := .cells #[.int .i64 t159, .int .i64 t160] 25 (0, 0)) (by (with_reducible repeat (first | refine blk_drewN ?_ _ | refine blk_drew ?_ | refine blk_alloc ?_ _)); refine blk_far ?_ NB161_173.out _; (with_reducible repeat (first | refine blk_drewN ?_ _ | refine blk_drew ?_ | refine blk_alloc ?_ _)); refine blk_far ?_ NB161_173.out _; (with_reducible repeat (first | refine blk_drewN ?_ _ | refine blk_drew ?_ | refine blk_alloc ?_ _)); refine blk_far ?_ NB161_172.out _; (with_reducible repeat (first | refine blk_drewN ?_ _ | refine blk_drew ?_ | refine blk_alloc ?_ _)); refine blk_far ?_ NB161_172.out _; (with_reducible repeat (first | refine blk_drewN ?_ _ | refine blk_drew ?_ | refine blk_alloc ?_ _)); refine blk_far ?_ NB161_172.out _; (with_reducible repeat (first | refine blk_drewN ?_ _ | refine blk_drew ?_ | refine blk_alloc ?_ _)); exact BK161.out) hb); have n5_ := Aside0.mk (blk_below (g := gb172) (o := .cells #[.string t165, .slice Ao35 t166.length co35, .string t169] 41 (0, 0)) (by (with_reducible repeat (first | refine blk_drewN ?_ _ | refine blk_drew ?_ | refine blk_alloc ?_ _)); refine blk_far ?_ NB172_173.out _; (with_reducible repeat (first | refine blk_drewN ?_ _ | refine blk_drew ?_ | refine blk_alloc ?_ _)); refine blk_far ?_ NB172_173.out _; (with_reducible repeat (first | refine blk_drewN ?_ _ | refine blk_drew ?_ | refine blk_alloc ?_ _)); refine blk_put (cs := #[.string t165, .slice Ao35 t166.length co35, .string (⟨#[]⟩ : ByteArray)]) ?_ 2 _ rfl; (with_reducible repeat (first | refine blk_drewN ?_ _ | refine blk_drew ?_ | refine blk_alloc ?_ _)); refine blk_put (cs := #[.string t165, .slice none 0 0, .string (⟨#[]⟩ : ByteArray)]) ?_ 1 _ rfl; (with_reducible repeat (first | refine blk_drewN ?_ _ | refine blk_drew ?_ | refine blk_alloc ?_ _)); refine blk_put (cs := #[.string (⟨#[]⟩ : ByteArray), .slice none 0 0, .string (⟨#[]⟩ : ByteArray)]) ?_ 0 _ rfl; (with_reducible repeat (first | refine blk_drewN ?_ _ | refine blk_drew ?_ | refine blk_alloc ?_ _)); exact BK172.out) hb); have n6_ := Aside0.mk (blk_below (g := gb173) (o := .cells #[.int .i64 t170, .int .i64 t171] 25 (0, 0)) (by (with_reducible repeat (first | refine blk_drewN ?_ _ | refine blk_drew ?_ | refine blk_alloc ?_ _)); refine blk_put (cs := #[.int .i64 t170, .int .i64 0]) ?_ 1 _ rfl; (with_reducible repeat (first | refine blk_drewN ?_ _ | refine blk_drew ?_ | refine blk_alloc ?_ _)); refine blk_put (cs := #[.int .i64 0, .int .i64 0]) ?_ 0 _ rfl; (with_reducible repeat (first | refine blk_drewN ?_ _ | refine blk_drew ?_ | refine blk_alloc ?_ _)); refine blk_far ?_ NB173_172.out _; (with_reducible repeat (first | refine blk_drewN ?_ _ | refine blk_drew ?_ | refine blk_alloc ?_ _)); refine blk_far ?_ NB173_172.out _; (with_reducible repeat (first | refine blk_drewN ?_ _ | refine blk_drew ?_ | refine blk_alloc ?_ _)); refine blk_far ?_ NB173_172.out _; (with_reducible repeat (first | refine blk_drewN ?_ _ | refine blk_drew ?_ | refine blk_alloc ?_ _)); exact BK173.out) hb); have n7_ := Aside0.mk (below_step (by repeat (first | (with_reducible first | exact HB.out | apply below_alloc | apply pw_below_drewN | apply below_drew1 | refine below_set ?_ GE155.out | refine below_set ?_ GE161.out | refine below_set ?_ GE172.out | refine below_set ?_ GE173.out) | exact HB.out)) hb); clear HO_3; clear HO_5; clear HO168; clear BK155; clear BK161; clear BK172; clear BK173; clear HB; have HO_3 := n0_; have HO_5 := n1_; have HO168 := n2_; have BK155 := n3_; have BK161 := n4_; have BK172 := n5_; have BK173 := n6_; have HB := n7_; clear n0_ n1_ n2_ n3_ n4_ n5_ n6_ n7_; (try clear hb); (try clear hb2); (try clear hk); (try clear hi); have hcz48_0 : w47.cell? ⟨gb172, 0, none⟩ = some (.string t165) := (blk_cell BK172.out 0).trans rfl; have hcz48_1 : w47.cell? ⟨gb172, 1, none⟩ = some (.slice Ao35 t166.length co35) := (blk_cell BK172.out 1).trans rfl; have hcz48_2 : w47.cell? ⟨gb172, 2, none⟩ = some (.string t169) := (blk_cell BK172.out 2).trans rfl; have hfz48_0 := blk_frozen BK172.out 0; have hfz48_1 := blk_frozen BK172.out 1; have hfz48_2 := blk_frozen BK172.out 2) | ((with_reducible refine gate_builtin (b := .append) (xs := #[.tmp 53, .tmp 55]) rfl ?_); (try (refine gate_guard (by rfl) ?_; dsimp only)); at_builtin; refine Kd.R_append_rows k48 (w0 := w) w.heap.size rfl (.tmp 53) (.tmp 55) 39 48 (.agg #[(.string ⟨#[]⟩), (.int .i64 0)]) 24 rfl Tryd.underlying39 info48 rfl (by decide) (by omega) u5 x5_2 t166 _ _ _ (fun k_ => some k_ ≠ (.slice Ao35 t166.length co35 : Value).ownBlock) (fun _ => False) rfl rfl ?aO ?aR (fun _ _ h => h) (fun _ h => h.elim) ?aF ?aB ?aS ?aL ?_; (case aR => repeat (first | exact (Kd.R_reads' HO168.out).2.2 | (with_reducible refine Kd.C_alloc ?_ _) | (with_reducible refine Kd.C_drewN ?_ _) | (with_reducible refine Kd.C_drew ?_))); (case aB => exact (by repeat (first | (with_reducible first | exact HB.out | apply below_alloc | apply pw_below_drewN | apply below_drew1 | refine below_set ?_ GE155.out | refine below_set ?_ GE161.out | refine below_set ?_ GE172.out | refine below_set ?_ GE173.out) | exact HB.out))); (case aF => exact (fun k_ hk => Kd.fresh' (Kd.R_lt (by (with_reducible repeat (first | apply Kd.R_alloc | apply Kd.R_drewN | apply Kd.R_drew)); exact HO168.out)) k_ hk)); (case aO => exact (by (with_reducible repeat (first | apply Kd.R_alloc | apply Kd.R_drewN | apply Kd.R_drew)); exact HO_5.out)); (case aS => exact (below_size (by repeat (first | (with_reducible first | exact HB.out | apply below_alloc | apply pw_below_drewN | apply below_drew1 | refine below_set ?_ GE155.out | refine below_set ?_ GE161.out | refine below_set ?_ GE172.out | refine below_set ?_ GE173.out) | exact HB.out)))); (case aL => have := LMc27.out; omega); intro v177 w49 ho hb hg hat; rw [← Ny176.out] at ho; have n0_ := Aside0.mk (Kd.R_over' (by (with_reducible repeat (first | apply Kd.R_alloc | apply Kd.R_drewN | apply Kd.R_drew)); exact HO_3.out) (Kd.R_typed (by (with_reducible repeat (first | apply Kd.R_alloc | apply Kd.R_drewN | apply Kd.R_drew)); exact HO_5.out)) (by decide) hg); have n1_ := Aside0.mk (blk_grown (g := gb155) (o := .cells #[.string a0_0, .slice A0_1 l0_1.length c0_1, .string a0_2] 41 (0, 0)) (by (with_reducible repeat (first | refine blk_drewN ?_ _ | refine blk_drew ?_ | refine blk_alloc ?_ _)); exact BK155.out) hg (Kd.R_ne HO_5.out BK155.out (by decide))); have n2_ := Aside0.mk (blk_grown (g := gb161) (o := .cells #[.int .i64 t159, .int .i64 t160] 25 (0, 0)) (by (with_reducible repeat (first | refine blk_drewN ?_ _ | refine blk_drew ?_ | refine blk_alloc ?_ _)); exact BK161.out) hg (Kd.R_ne HO_5.out BK161.out (by decide))); have n3_ := Aside0.mk (Kd.R_after (ok := (fun _ => True)) (by (with_reducible repeat (first | apply Kd.R_alloc | apply Kd.R_drewN | apply Kd.R_drew)); exact Kd.R_mono HO168.out (fun _ hk => ⟨trivial, hk⟩)) hg hat); have n4_ := Aside0.mk (blk_grown (g := gb172) (o := .cells #[.string t165, .slice Ao35 t166.length co35, .string t169] 41 (0, 0)) (by (with_reducible repeat (first | refine blk_drewN ?_ _ | refine blk_drew ?_ | refine blk_alloc ?_ _)); exact BK172.out) hg (Kd.R_ne HO_5.out BK172.out (by decide))); have n5_ := Aside0.mk (blk_grown (g := gb173) (o := .cells #[.int .i64 t170, .int .i64 t171] 25 (0, 0)) (by (with_reducible repeat (first | refine blk_drewN ?_ _ | refine blk_drew ?_ | refine blk_alloc ?_ _)); exact BK173.out) hg (Kd.R_ne HO_5.out BK173.out (by decide))); have n6_ := Aside0.mk (hb); have n7_ := Aside0.mk (ho); clear HO_3; clear BK155; clear BK161; clear HO168; clear BK172; clear BK173; clear HB; clear HO_5; have HO_3 := n0_; have BK155 := n1_; have BK161 := n2_; have HO168 := n3_; have BK172 := n4_; have BK173 := n5_; have HB := n6_; have HO178 := n7_; clear n0_ n1_ n2_ n3_ n4_ n5_ n6_ n7_; clear ho hb hg hat))
                      go_roundg k2
                      case measure => have := HJ2.out; have := HK2.out; omega
                      case rel => exact ⟨(y176), (wrap64 (x6_2 + 1)), (by first | rfl | (simp; done) | (simp [*]; done)), H', ⟨by have := HJ2.out; have := HK2.out; omega⟩, ⟨by (with_reducible repeat (first | apply Kd.R_alloc | apply Kd.R_drewN | apply Kd.R_drew)); exact HO_3.out⟩, ⟨by (with_reducible repeat (first | apply Kd.R_alloc | apply Kd.R_drewN | apply Kd.R_drew)); exact Kd.R_mono HO178.out (fun _ hk => trivial)⟩, ⟨by (with_reducible repeat (first | refine blk_drewN ?_ _ | refine blk_drew ?_ | refine blk_alloc ?_ _)); exact BK155.out⟩, ⟨by (with_reducible repeat (first | refine blk_drewN ?_ _ | refine blk_drew ?_ | refine blk_alloc ?_ _)); exact BK161.out⟩, ⟨by repeat (first | (with_reducible first | exact HB.out | apply below_alloc | apply pw_below_drewN | apply below_drew1 | refine below_set ?_ GE155.out | refine below_set ?_ GE161.out | refine below_set ?_ GE172.out | refine below_set ?_ GE173.out) | exact HB.out)⟩⟩
                    · rw [if_neg c27] at H
                      exact absurd H (by simp)
                · rw [if_neg c24] at H
                  have c24b0 : (t170 == 0) = false := beq_eq_false_iff_ne.mpr c24
                  have c24b1 : (t170 != 0) = true := bne_iff_ne.mpr c24
                  exact absurd ((Option.some.inj H).trans HR_.out) (by decide)
              · rw [if_neg c22] at H
                exact absurd H (by simp)
            · rw [if_neg c21] at H
              have c21b0 : decide (x6_2 < (t156.length : Int)) = false := decide_eq_false c21
              clear c21
              by_cases c50 : (x5_2.length : Int) = (l0_1.length : Int)
              · rw [if_pos c50] at H
                have c50b0 : ((x5_2.length : Int) == (l0_1.length : Int)) = true := beq_iff_eq.mpr c50
                have c50b1 : ((x5_2.length : Int) != (l0_1.length : Int)) = false := bne_eq_false_iff_eq.mpr c50
                have c50b2 : (x5_2.length == l0_1.length) = true := by first | simpa using c50 | (simp at c50 ⊢; omega)
                clear c50
                have H' := Aside0.mk H
                clear H
                obtain ⟨Ao51, co51, eo51⟩ := Kd.R_slice HO_3.out
                subst eo51
                obtain ⟨Ao52, co52, eo52⟩ := Kd.R_slice HO_5.out
                subst eo52
                have hnb53 := NB155_161.out
                have hnc53 := NB161_155.out
                have hcz54_0 : wr.cell? ⟨gb155, 0, none⟩ = some (.string a0_0) := (blk_cell BK155.out 0).trans rfl
                have hcz54_1 : wr.cell? ⟨gb155, 1, none⟩ = some (.slice A0_1 l0_1.length c0_1) := (blk_cell BK155.out 1).trans rfl
                have hcz54_2 : wr.cell? ⟨gb155, 2, none⟩ = some (.string a0_2) := (blk_cell BK155.out 2).trans rfl
                have hfz54_0 := blk_frozen BK155.out 0
                have hfz54_1 := blk_frozen BK155.out 1
                have hfz54_2 := blk_frozen BK155.out 2
                go_wp2
                go_loopg [9] k2 (fun kq v9 w' => ∃ (x9_3 : Int), v9 = .int .i64 x9_3 ∧ Aside0 (posthouselaw3_EnvelopesOfDomainsJoin.l1 kq x5_2 x9_3 a0_0 l0_1 a0_2 = some r) ∧ Aside0 (kq ≤ k2) ∧ Aside0 (Kd.R k48 48 w' w.heap.size (fun _ => True) (.slice Ao52 x5_2.length co52) x5_2) ∧ Aside0 (w'.heap[gb155]? = some (.cells #[.string a0_0, (.slice A0_1 l0_1.length c0_1), .string a0_2] 41 (0, 0))) ∧ Aside0 (w'.heap[gb161]? = some (.cells #[.int .i64 t159, .int .i64 t160] 25 (0, 0))) ∧ Aside0 (Below w.heap.size w w'))
                case atStart => exact ⟨(0), (by first | rfl | (simp; done) | (simp [*]; done)), H', ⟨Nat.le_refl _⟩, ⟨by (with_reducible repeat (first | apply Kd.R_alloc | apply Kd.R_drewN | apply Kd.R_drew)); exact HO_5.out⟩, ⟨by (with_reducible repeat (first | refine blk_drewN ?_ _ | refine blk_drew ?_ | refine blk_alloc ?_ _)); exact BK155.out⟩, ⟨by (with_reducible repeat (first | refine blk_drewN ?_ _ | refine blk_drew ?_ | refine blk_alloc ?_ _)); exact BK161.out⟩, ⟨by repeat (first | (with_reducible first | exact HB.out | apply below_alloc | apply pw_below_drewN | apply below_drew1 | refine below_set ?_ GE155.out | refine below_set ?_ GE161.out) | exact HB.out)⟩⟩
                case round =>
                  clear H'
                  try clear c2
                  try clear p2
                  try clear c4
                  try clear c5
                  try clear p6
                  try clear c21
                  try clear c21b0
                  try clear c22
                  try clear c24
                  try clear c24b0
                  try clear c24b1
                  try clear c27
                  try clear c28
                  try clear c40
                  try clear c41
                  try clear c42
                  try clear c44
                  try clear c45
                  try clear c50
                  try clear c50b0
                  try clear c50b1
                  try clear c50b2
                  try clear c53
                  try clear hcz43_0
                  try clear hcz43_1
                  try clear hcz46_0
                  try clear hcz46_1
                  try clear hcz46_2
                  try clear hcz48_0
                  try clear hcz48_1
                  try clear hcz48_2
                  try clear hcz54_0
                  try clear hcz54_1
                  try clear hcz54_2
                  try clear hfz43_0
                  try clear hfz43_1
                  try clear hfz46_0
                  try clear hfz46_1
                  try clear hfz46_2
                  try clear hfz48_0
                  try clear hfz48_1
                  try clear hfz48_2
                  try clear hfz54_0
                  try clear hfz54_1
                  try clear hfz54_2
                  obtain ⟨x9_3, rfl, HA, HK3, HO_5, BK155, BK161, HB⟩ := hrel
                  cases gk with
                  | zero => exact absurd HA.out (by simp [posthouselaw3_EnvelopesOfDomainsJoin.l1])
                  | succ k3 =>
                    have H := HA.out
                    clear HA
                    simp only [posthouselaw3_EnvelopesOfDomainsJoin.l1] at H
                    by_cases c55 : x9_3 < (l0_1.length : Int)
                    · rw [if_pos c55] at H
                      have c55b0 : decide (x9_3 < (l0_1.length : Int)) = true := decide_eq_true c55
                      clear c55
                      by_cases c56 : 0 ≤ x9_3
                      · rw [if_pos c56] at H
                        have c56b0 : decide (0 ≤ x9_3) = true := decide_eq_true c56
                        clear c56
                        replace H := Option.bind_eq_some_iff.mp H
                        obtain ⟨t180, A570, H⟩ := H
                        replace H : (if t180 < 0 then (some false) else (if 0 ≤ t180 then (if t180 < (x5_2.length : Int) then (if (!((((rd_T48 x5_2 t180).f0).toList) == (((rd_T48 l0_1 x9_3).f0).toList)) || (!(((rd_T48 x5_2 t180).f1) == ((rd_T48 l0_1 x9_3).f1)))) = true then (some false) else (posthouselaw3_EnvelopesOfDomainsJoin.l1 k3 x5_2 (wrap64 (x9_3 + 1)) a0_0 l0_1 a0_2)) else (none)) else (none))) = some r := H
                        have A57 := Aside0.mk A570
                        clear A570
                        by_cases c58 : t180 < 0
                        · rw [if_pos c58] at H
                          have c58b0 : decide (t180 < 0) = true := decide_eq_true c58
                          clear c58
                          exact absurd ((Option.some.inj H).trans HR_.out) (by decide)
                        · rw [if_neg c58] at H
                          have c58b0 : decide (t180 < 0) = false := decide_eq_false c58
                          clear c58
                          by_cases c59 : 0 ≤ t180
                          · rw [if_pos c59] at H
                            have c59b0 : decide (0 ≤ t180) = true := decide_eq_true c59
                            clear c59
                            by_cases c60 : t180 < (x5_2.length : Int)
                            · rw [if_pos c60] at H
                              have c60b0 : decide (t180 < (x5_2.length : Int)) = true := decide_eq_true c60
                              clear c60
                              by_cases c61 : (!((((rd_T48 x5_2 t180).f0).toList) == (((rd_T48 l0_1 x9_3).f0).toList)) || (!(((rd_T48 x5_2 t180).f1) == ((rd_T48 l0_1 x9_3).f1)))) = true
                              · rw [if_pos c61] at H
                                have c61b0 : (!((((rd_T48 x5_2 t180).f0).toList) == (((rd_T48 l0_1 x9_3).f0).toList)) || (!(((rd_T48 x5_2 t180).f1) == ((rd_T48 l0_1 x9_3).f1)))) = true := c61
                                clear c61
                                exact absurd ((Option.some.inj H).trans HR_.out) (by decide)
                              · rw [if_neg c61] at H
                                have c61b0 : (!((((rd_T48 x5_2 t180).f0).toList) == (((rd_T48 l0_1 x9_3).f0).toList)) || (!(((rd_T48 x5_2 t180).f1) == ((rd_T48 l0_1 x9_3).f1)))) = false := by simpa using c61
                                clear c61
                                have H' := Aside0.mk H
                                clear H
                                have hnb62 := NB155_161.out
                                have hnc62 := NB161_155.out
                                have hcz63_0 : wr.cell? ⟨gb155, 0, none⟩ = some (.string a0_0) := (blk_cell BK155.out 0).trans rfl
                                have hcz63_1 : wr.cell? ⟨gb155, 1, none⟩ = some (.slice A0_1 l0_1.length c0_1) := (blk_cell BK155.out 1).trans rfl
                                have hcz63_2 : wr.cell? ⟨gb155, 2, none⟩ = some (.string a0_2) := (blk_cell BK155.out 2).trans rfl
                                have hfz63_0 := blk_frozen BK155.out 0
                                have hfz63_1 := blk_frozen BK155.out 1
                                have hfz63_2 := blk_frozen BK155.out 2
                                have p179 : 0 ≤ (x9_3 : Int) := of_decide_eq_true (by first | (with_reducible assumption) | assumption)
                                have q179 : x9_3 < (l0_1.length : Int) := of_decide_eq_true (by first | (with_reducible assumption) | assumption)
                                obtain ⟨ad179, e179, hx179_0, hx179_1⟩ := at_T48 HR0_1.out x9_3 p179 q179
                                cases e179
                                replace hx179_0 := (HB.out.cell (World.block_lt_of_cell? w _ hx179_0)).trans hx179_0
                                replace hx179_1 := (HB.out.cell (World.block_lt_of_cell? w _ hx179_1)).trans hx179_1
                                replace p179 := eq_true p179
                                replace q179 := eq_true q179
                                try go_wp2_with (first | ((with_reducible refine gate_callee (f := 38) rfl ?_); refine goesL_ (some 77) rfl rfl Tryd.func38 (by kernel_rfl) rfl #[.slice Ao52 x5_2.length co52, .string ((rd_T48 l0_1 x9_3).f0)] rfl (by (try simp only [List.map_toArray, List.map_cons, List.map_nil]); first | done | rfl | (simp only [List.length_drop, List.length_take]; rfl)) ?_; (with_reducible refine (posthouseref3_Known.calls k3 _ _ x5_2 ((rd_T48 l0_1 x9_3).f0) t180 _ ?side1 ?side2 A57.out).mono ?_); (case side1 => repeat (first | exact (Kd.R_reads' HO_5.out).2.2 | (with_reducible refine Kd.C_alloc ?_ _) | (with_reducible refine Kd.C_drewN ?_ _) | (with_reducible refine Kd.C_drew ?_))); (case side2 => exact (Kd.R_reads' HO_5.out).2.1); rintro e w' ⟨rfl, ⟨nd, rfl⟩⟩; refine ⟨_, rfl, ?_⟩))
                                (try (rw [drewN_self wr]; generalize hq_ : World.drewN wr _ = wr; have n0_ : Aside0 (Kd.R k48 48 wr w.heap.size (fun _ => True) (.slice Ao52 x5_2.length co52) x5_2) := ⟨by rw [← hq_]; exact (by (with_reducible repeat (first | apply Kd.R_alloc | apply Kd.R_drewN | apply Kd.R_drew)); exact HO_5.out)⟩; have n1_ : Aside0 (wr.heap[gb155]? = some (.cells #[.string a0_0, .slice (some ad179) l0_1.length c0_1, .string a0_2] 41 (0, 0))) := ⟨by rw [← hq_]; exact (by (with_reducible repeat (first | refine blk_drewN ?_ _ | refine blk_drew ?_ | refine blk_alloc ?_ _)); exact BK155.out)⟩; have n2_ : Aside0 (wr.heap[gb161]? = some (.cells #[.int .i64 t159, .int .i64 t160] 25 (0, 0))) := ⟨by rw [← hq_]; exact (by (with_reducible repeat (first | refine blk_drewN ?_ _ | refine blk_drew ?_ | refine blk_alloc ?_ _)); exact BK161.out)⟩; have n3_ : Aside0 (Below w.heap.size w wr) := ⟨by rw [← hq_]; exact (by repeat (first | (with_reducible first | exact HB.out | apply below_alloc | apply pw_below_drewN | apply below_drew1 | refine below_set ?_ GE155.out | refine below_set ?_ GE161.out) | exact HB.out))⟩; clear HO_5 BK155 BK161 HB hq_; have HO_5 := n0_; have BK155 := n1_; have BK161 := n2_; have HB := n3_; clear n0_ n1_ n2_ n3_))
                                (try (have hu155_0 : wr.cell? ⟨gb155, 0, none⟩ = some (.string a0_0) := (blk_cell BK155.out 0).trans rfl; have hv155_0 := blk_frozen BK155.out 0))
                                (try (have hu155_1 : wr.cell? ⟨gb155, 1, none⟩ = some (.slice (some ad179) l0_1.length c0_1) := (blk_cell BK155.out 1).trans rfl; have hv155_1 := blk_frozen BK155.out 1))
                                (try (have hu155_2 : wr.cell? ⟨gb155, 2, none⟩ = some (.string a0_2) := (blk_cell BK155.out 2).trans rfl; have hv155_2 := blk_frozen BK155.out 2))
                                (try (have hu161_0 : wr.cell? ⟨gb161, 0, none⟩ = some (.int .i64 t159) := (blk_cell BK161.out 0).trans rfl; have hv161_0 := blk_frozen BK161.out 0))
                                (try (have hu161_1 : wr.cell? ⟨gb161, 1, none⟩ = some (.int .i64 t160) := (blk_cell BK161.out 1).trans rfl; have hv161_1 := blk_frozen BK161.out 1))
                                have n0_ := Aside0.mk (Kd.R_drew HO_5.out)
                                have n1_ := Aside0.mk (blk_drew BK155.out)
                                have n2_ := Aside0.mk (blk_drew BK161.out)
                                have n3_ := Aside0.mk (below_drew1 HB.out)
                                clear HO_5
                                clear BK155
                                clear BK161
                                clear HB
                                have HO_5 := n0_
                                have BK155 := n1_
                                have BK161 := n2_
                                have HB := n3_
                                clear n0_ n1_ n2_ n3_
                                have p181 : 0 ≤ (t180 : Int) := of_decide_eq_true (by first | (with_reducible assumption) | assumption)
                                have q181 : t180 < (x5_2.length : Int) := of_decide_eq_true (by first | (with_reducible assumption) | assumption)
                                obtain ⟨ad181, e181, hx181_0, hx181_1⟩ := at_T48 (Kd.R_reads' HO_5.out).2.2 t180 p181 q181
                                cases e181
                                replace p181 := eq_true p181
                                replace q181 := eq_true q181
                                have p182 : 0 ≤ (x9_3 : Int) := of_decide_eq_true (by first | (with_reducible assumption) | assumption)
                                have q182 : x9_3 < (l0_1.length : Int) := of_decide_eq_true (by first | (with_reducible assumption) | assumption)
                                obtain ⟨ad182, e182, hx182_0, hx182_1⟩ := at_T48 HR0_1.out x9_3 p182 q182
                                have hw182_1 := hx182_1
                                have hw182_0 := hx182_0
                                obtain rfl : ad179 = ad182 := (by injection e182)
                                replace hx182_0 := (HB.out.cell (World.block_lt_of_cell? w _ hx182_0)).trans hx182_0
                                replace hx182_1 := (HB.out.cell (World.block_lt_of_cell? w _ hx182_1)).trans hx182_1
                                replace p182 := eq_true p182
                                replace q182 := eq_true q182
                                refine start_ (n := 14) (S := fun w' => w'.cell? ⟨gb155, 0, none⟩ = some (.string a0_0) ∧ w'.cell? ⟨gb155, 1, none⟩ = some (.slice (some ad179) l0_1.length c0_1) ∧ w'.cell? ⟨gb155, 2, none⟩ = some (.string a0_2) ∧ w'.cell? (ad181.add ((t180).toNat * 2)) = some (.string ((rd_T48 x5_2 t180).f0)) ∧ w'.cell? ⟨(ad181.add ((t180).toNat * 2)).block, (ad181.add ((t180).toNat * 2)).off + 1, none⟩ = some (.int .i64 ((rd_T48 x5_2 t180).f1)) ∧ w'.cell? (ad179.add ((x9_3).toNat * 2)) = some (.string ((rd_T48 l0_1 x9_3).f0)) ∧ w'.cell? ⟨(ad179.add ((x9_3).toNat * 2)).block, (ad179.add ((x9_3).toNat * 2)).off + 1, none⟩ = some (.int .i64 ((rd_T48 l0_1 x9_3).f1))) (ds := []) #[false, false, false, false, false, false, false, false, false, false, false, false, false, false] (by kernel_rfl) rfl rfl ⟨(blk_cell BK155.out 0).trans rfl, (blk_cell BK155.out 1).trans rfl, (blk_cell BK155.out 2).trans rfl, hx181_0, hx181_1, ((HB.out.cell (World.block_lt_of_cell? w _ hw182_0)).trans hw182_0), ((HB.out.cell (World.block_lt_of_cell? w _ hw182_1)).trans hw182_1)⟩ (fun hHeld => ?_); refine with_tabW posthouselaw3_EnvelopesOfDomainsJoin.tab18 posthouselaw3_EnvelopesOfDomainsJoin.bits18 (fun HT_ HW_ => ?_)
                                generalize wr.drew = w64 at HO_5 BK155 BK161 HB hx181_0 hx181_1 hx182_0 hx182_1 hHeld ⊢
                                refine pure_ (i := 0) (N := some 78) (v := ?_) (a' := ?_) #[true, false, false, false, false, false, false, false, false, false, false, false, false, false] rfl rfl (any_of HT_.out (by kernel_rfl)) (fun _ _ _ h => h) (Or.inl ⟨by rfl, ?_⟩) ?_ ?_
                                rotate_left
                                · intro w'
                                  go_simp
                                  with_reducible rfl
                                rotate_left
                                · simp only [Act.put, List.setIfInBounds_toArray, List.set_cons_zero, List.set_cons_succ, i64_w, i32_w]
                                  rfl
                                refine pure_ (i := 1) (N := some 79) (v := ?_) (a' := ?_) #[true, true, false, false, false, false, false, false, false, false, false, false, false, false] rfl rfl (any_of HT_.out (by kernel_rfl)) (fun _ _ _ h => h) (Or.inl ⟨by rfl, ?_⟩) ?_ ?_
                                rotate_left
                                · intro w'
                                  go_simp
                                  with_reducible rfl
                                rotate_left
                                · simp only [Act.put, List.setIfInBounds_toArray, List.set_cons_zero, List.set_cons_succ, i64_w, i32_w]
                                  rfl
                                refine pure_ (i := 2) (N := some 80) (v := ?_) (a' := ?_) #[true, true, true, false, false, false, false, false, false, false, false, false, false, false] rfl rfl (any_of HT_.out (by kernel_rfl)) (fun _ _ _ h => h) (Or.inl ⟨by rfl, ?_⟩) ?_ ?_
                                rotate_left
                                · intro w'
                                  go_simp
                                  with_reducible rfl
                                rotate_left
                                · simp only [Act.put, List.setIfInBounds_toArray, List.set_cons_zero, List.set_cons_succ, i64_w, i32_w]
                                  rfl
                                refine pure_ (i := 3) (N := some 81) (v := ?_) (a' := ?_) #[true, true, true, true, false, false, false, false, false, false, false, false, false, false] rfl rfl (any_of HT_.out (by kernel_rfl)) (fun _ _ _ h => h) (Or.inl ⟨by rfl, ?_⟩) ?_ ?_
                                rotate_left
                                · intro w'
                                  go_simp
                                  with_reducible rfl
                                rotate_left
                                · simp only [Act.put, List.setIfInBounds_toArray, List.set_cons_zero, List.set_cons_succ, i64_w, i32_w]
                                  rfl
                                refine pure_ (i := 4) (N := some 82) (v := ?_) (a' := ?_) #[true, true, true, true, true, false, false, false, false, false, false, false, false, false] rfl rfl (any_of HT_.out (by kernel_rfl)) (fun _ _ _ h => h) (Or.inl ⟨by rfl, ?_⟩) ?_ ?_
                                rotate_left
                                · intro w'
                                  go_simp
                                  with_reducible rfl
                                rotate_left
                                · simp only [Act.put, List.setIfInBounds_toArray, List.set_cons_zero, List.set_cons_succ, i64_w, i32_w]
                                  rfl
                                refine pure_ (i := 5) (N := some 83) (v := ?_) (a' := ?_) #[true, true, true, true, true, true, false, false, false, false, false, false, false, false] rfl rfl (any_of HT_.out (by kernel_rfl)) (fun _ _ _ h => h) (Or.inl ⟨by rfl, ?_⟩) ?_ ?_
                                rotate_left
                                · intro w'
                                  go_simp
                                  with_reducible rfl
                                rotate_left
                                · simp only [Act.put, List.setIfInBounds_toArray, List.set_cons_zero, List.set_cons_succ, i64_w, i32_w]
                                  rfl
                                refine pure_ (i := 7) (N := some 85) (v := ?_) (a' := ?_) #[true, true, true, true, true, true, false, true, false, false, false, false, false, false] rfl rfl (any_of HT_.out (by kernel_rfl)) (fun _ _ _ h => h) (Or.inl ⟨by rfl, ?_⟩) ?_ ?_
                                rotate_left
                                · intro w'
                                  go_simp
                                  with_reducible rfl
                                rotate_left
                                · simp only [Act.put, List.setIfInBounds_toArray, List.set_cons_zero, List.set_cons_succ, i64_w, i32_w]
                                  rfl
                                refine pure_ (i := 9) (N := some 87) (v := ?_) (a' := ?_) #[true, true, true, true, true, true, false, true, false, true, false, false, false, false] rfl rfl (any_of HT_.out (by kernel_rfl)) (fun _ _ _ h => h) (Or.inl ⟨by rfl, ?_⟩) ?_ ?_
                                rotate_left
                                · intro w'
                                  go_simp
                                  with_reducible rfl
                                rotate_left
                                · simp only [Act.put, List.setIfInBounds_toArray, List.set_cons_zero, List.set_cons_succ, i64_w, i32_w]
                                  rfl
                                refine take_ (i := 6) (N := some 84) (v := ?_) (a' := ?_) #[true, true, true, true, true, true, true, true, false, true, false, false, false, false] rfl rfl (take_ofW HT_.out HW_.out (by kernel_rfl)) (fun _ _ _ h => h) (Or.inl ⟨by rfl, ?_⟩) hHeld ?_ ?_
                                rotate_left
                                · rintro w' ⟨s0, s1, s2, s3, s4, s5, s6⟩
                                  go_simp
                                  with_reducible rfl
                                rotate_left
                                · simp only [Act.put, List.setIfInBounds_toArray, List.set_cons_zero, List.set_cons_succ, i64_w, i32_w]
                                  rfl
                                refine take_ (i := 8) (N := some 86) (v := ?_) (a' := ?_) #[true, true, true, true, true, true, true, true, true, true, false, false, false, false] rfl rfl (take_ofW HT_.out HW_.out (by kernel_rfl)) (fun _ _ _ h => h) (Or.inl ⟨by rfl, ?_⟩) hHeld ?_ ?_
                                rotate_left
                                · rintro w' ⟨s0, s1, s2, s3, s4, s5, s6⟩
                                  go_simp
                                  with_reducible rfl
                                rotate_left
                                · simp only [Act.put, List.setIfInBounds_toArray, List.set_cons_zero, List.set_cons_succ, i64_w, i32_w]
                                  rfl
                                refine pure_ (i := 10) (N := some 88) (v := ?_) (a' := ?_) #[true, true, true, true, true, true, true, true, true, true, true, false, false, false] rfl rfl (any_of HT_.out (by kernel_rfl)) (fun _ _ _ h => h) (Or.inl ⟨by rfl, ?_⟩) ?_ ?_
                                rotate_left
                                · intro w'
                                  go_simp
                                  with_reducible rfl
                                rotate_left
                                · simp only [Act.put, List.setIfInBounds_toArray, List.set_cons_zero, List.set_cons_succ, i64_w, i32_w]
                                  rfl
                                refine take_ (i := 11) (N := some 89) (v := ?_) (a' := ?_) #[true, true, true, true, true, true, true, true, true, true, true, true, false, false] rfl rfl (take_ofW HT_.out HW_.out (by kernel_rfl)) (fun _ _ _ h => h) (Or.inl ⟨by rfl, ?_⟩) hHeld ?_ ?_
                                rotate_left
                                · rintro w' ⟨s0, s1, s2, s3, s4, s5, s6⟩
                                  go_simp
                                  with_reducible rfl
                                rotate_left
                                · simp only [Act.put, List.setIfInBounds_toArray, List.set_cons_zero, List.set_cons_succ, i64_w, i32_w]
                                  rfl
                                refine pure_ (i := 12) (N := some 90) (v := ?_) (a' := ?_) #[true, true, true, true, true, true, true, true, true, true, true, true, true, false] rfl rfl (any_of HT_.out (by kernel_rfl)) (fun _ _ _ h => h) (Or.inl ⟨by rfl, ?_⟩) ?_ ?_
                                rotate_left
                                · intro w'
                                  go_simp
                                  with_reducible rfl
                                rotate_left
                                · simp only [Act.put, List.setIfInBounds_toArray, List.set_cons_zero, List.set_cons_succ, i64_w, i32_w]
                                  rfl
                                refine pure_ (i := 13) (N := some 91) (v := ?_) (a' := ?_) #[true, true, true, true, true, true, true, true, true, true, true, true, true, true] rfl rfl (any_of HT_.out (by kernel_rfl)) (fun _ _ _ h => h) (Or.inl ⟨by rfl, ?_⟩) ?_ ?_
                                rotate_left
                                · intro w'
                                  go_simp
                                  with_reducible rfl
                                rotate_left
                                · simp only [Act.put, List.setIfInBounds_toArray, List.set_cons_zero, List.set_cons_succ, i64_w, i32_w]
                                  rfl
                                refine done_ (done_of HT_.out (by kernel_rfl)) ?_
                                try go_wp2
                                go_roundg k3
                                case measure => have := HJ2.out; have := HK2.out; have := HK3.out; omega
                                case rel => exact ⟨(wrap64 (x9_3 + 1)), (by first | rfl | (simp; done) | (simp [*]; done)), H', ⟨by have := HJ2.out; have := HK2.out; have := HK3.out; omega⟩, ⟨by (with_reducible repeat (first | apply Kd.R_alloc | apply Kd.R_drewN | apply Kd.R_drew)); exact HO_5.out⟩, ⟨by (with_reducible repeat (first | refine blk_drewN ?_ _ | refine blk_drew ?_ | refine blk_alloc ?_ _)); exact BK155.out⟩, ⟨by (with_reducible repeat (first | refine blk_drewN ?_ _ | refine blk_drew ?_ | refine blk_alloc ?_ _)); exact BK161.out⟩, ⟨by repeat (first | (with_reducible first | exact HB.out | apply below_alloc | apply pw_below_drewN | apply below_drew1 | refine below_set ?_ GE155.out | refine below_set ?_ GE161.out) | exact HB.out)⟩⟩
                            · rw [if_neg c60] at H
                              exact absurd H (by simp)
                          · rw [if_neg c59] at H
                            exact absurd H (by simp)
                      · rw [if_neg c56] at H
                        exact absurd H (by simp)
                    · rw [if_neg c55] at H
                      have c55b0 : decide (x9_3 < (l0_1.length : Int)) = false := decide_eq_false c55
                      clear c55
                      obtain rfl := Option.some.inj H
                      have hnb65 := NB155_161.out
                      have hnc65 := NB161_155.out
                      have hcz66_0 : wr.cell? ⟨gb155, 0, none⟩ = some (.string a0_0) := (blk_cell BK155.out 0).trans rfl
                      have hcz66_1 : wr.cell? ⟨gb155, 1, none⟩ = some (.slice A0_1 l0_1.length c0_1) := (blk_cell BK155.out 1).trans rfl
                      have hcz66_2 : wr.cell? ⟨gb155, 2, none⟩ = some (.string a0_2) := (blk_cell BK155.out 2).trans rfl
                      have hfz66_0 := blk_frozen BK155.out 0
                      have hfz66_1 := blk_frozen BK155.out 1
                      have hfz66_2 := blk_frozen BK155.out 2
                      go_wp2
                      go_ret
                      exact ⟨by first | rfl | (simp [errW_none, errW_some] <;> rfl) | (simp [*, errW_none, errW_some] <;> rfl), by repeat (first | (with_reducible first | exact HB.out | apply below_alloc | apply pw_below_drewN | apply below_drew1 | refine below_set ?_ GE155.out | refine below_set ?_ GE161.out) | exact HB.out)⟩
              · rw [if_neg c50] at H
                have c50b0 : ((x5_2.length : Int) == (l0_1.length : Int)) = false := beq_eq_false_iff_ne.mpr c50
                have c50b1 : ((x5_2.length : Int) != (l0_1.length : Int)) = true := bne_iff_ne.mpr c50
                have c50b2 : (x5_2.length == l0_1.length) = false := by first | simpa using c50 | (simp at c50 ⊢; omega)
                exact absurd ((Option.some.inj H).trans HR_.out) (by decide)

end Go.Proofs.YtbmeebhcanknmaaDoor.XJoi
