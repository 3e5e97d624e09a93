-- Laid by a program of this session's (xprint.py) over the print's text; contracts proved by hand stand among them. Lean checks it.
import Derived.Test.YtmicgojonpdelaaXShelf
import Derived.Shelf.Bytes.SlIndexWhole
import Derived.Test.YtmicgojonpdelaaXLidx0
namespace Go.Proofs.Ytmicgojonpdelaa.XLid
open Go.RowKit Go.Proofs.YtmicgojonpdelaaW.PrintWords Go.Proofs.YtmicgojonpdelaaW.PrintLast Go.Proofs.YtmicgojonpdelaaW.PrintMore
attribute [local go_sem] max2_int min2_int max_two min_two max_three min_three max_four min_four   -- for this text's walks alone
set_option linter.unusedVariables false
set_option linter.unusedSimpArgs false

-- EXTPART
-- IMPORT Derived.Test.YtmicgojonpdelaaXShelf
-- IMPORT Derived.Shelf.Bytes.SlIndexWhole
/-! ### bytes_Index: function 33 (the shelf's; what is looked for is two bytes) -/
def bytes_Index.f (l0 l1 : List Int) : Option Int := if l1.length = 2 ∧ l0.length < 4294967281 ∧ ((l0 ++ l1).all fun x => decide (0 ≤ x ∧ x < 256)) = true then some (Lib.index (Lib.bytesOf l0) (Lib.bytesOf l1)) else none
theorem bytes_Index.short : ∀ (s t : List UInt8), s.length < t.length → Lib.index s t = -1
  | [], t, h => by
    unfold Lib.index
    cases t with
    | nil => simp at h
    | cons _ _ => rfl
  | b :: l, t, h => by
    unfold Lib.index
    have h2 := bytes_Index.short l t (by rw [List.length_cons] at h; omega)
    rw [h2, if_neg, if_pos (by rfl)]
    intro hp
    have := (List.isPrefixOf_iff_prefix.1 hp).length_le
    omega
theorem bytes_Index.calls (A0 : Option Addr) (c0 : Nat) (l0 : List Int) (A1 : Option Addr) (c1 : Nat) (l1 : List Int) (r : Int) (w : World) (hr0 : Kd.C (Kd.int .u8) w A0 l0.length l0) (hc0 : l0.length ≤ c0) (hr1 : Kd.C (Kd.int .u8) w A1 l1.length l1) (hc1 : l1.length ≤ c1) (hG : GOK w) (h : bytes_Index.f l0 l1 = some r) :
    Calls Try.prog 33 #[.slice A0 l0.length c0, .slice A1 l1.length c1] w fun e w' => e = .returned (.int .i64 r) ∧ Below w.heap.size w w' := by
  unfold bytes_Index.f at h
  by_cases h1 : l1.length = 2 ∧ l0.length < 4294967281 ∧ ((l0 ++ l1).all fun x => decide (0 ≤ x ∧ x < 256)) = true
  · rw [if_pos h1] at h
    obtain rfl := Option.some.inj h
    obtain ⟨h2, hs, hall⟩ := h1
    rw [List.all_append, Bool.and_eq_true, List.all_eq_true, List.all_eq_true] at hall
    have hx : ∀ x ∈ l0, 0 ≤ x ∧ x < 256 := fun x hx => of_decide_eq_true (hall.1 x hx)
    have hy : ∀ x ∈ l1, 0 ≤ x ∧ x < 256 := fun x hx => of_decide_eq_true (hall.2 x hx)
    rcases Nat.lt_or_ge l0.length 2 with hlt | hge
    · refine (Try.bytes_Index_longer A0 A1 l0.length c0 l1.length c1 w (by omega) (by omega) (by omega)).mono fun e w' ⟨he, hw⟩ => ⟨he.trans ?_, by rw [hw]; exact Below.refl _ _⟩
      rw [show Lib.index (Lib.bytesOf l0) (Lib.bytesOf l1) = -1 from bytes_Index.short _ _ (by simp [Lib.bytesOf]; omega)]
    · have cells : ∀ (A : Option Addr) (l : List Int), Kd.C (Kd.int .u8) w A l.length l → 0 < l.length → ∃ ad, A = some ad ∧ ∀ i, i < l.length → w.cell? (ad.add i) = some (.int .u8 (l.getD i 0)) := by
        intro A l hC h0
        obtain ⟨ad, rfl, _⟩ := Kd.at_int hC 0 (Int.le_refl _) (by omega)
        refine ⟨ad, rfl, fun i hi => ?_⟩
        obtain ⟨ad2, e2, hc⟩ := Kd.at_int hC (i : Int) (by omega) (by omega)
        cases e2
        simpa [rd] using hc
      obtain ⟨a0, rfl, k0⟩ := cells A0 l0 hr0 (by omega)
      obtain ⟨a1, rfl, k1⟩ := cells A1 l1 hr1 (by omega)
      obtain ⟨m, hm⟩ := hG
      exact (Try.bytes_Index_at a0 a1 l0.length c0 l1.length c1 l0 l1 m w rfl rfl hx hy k0 k1 hc0 hs (by omega) hm).mono fun e w' ⟨he, q, hw⟩ => ⟨he, by rw [hw]; exact pw_below_drewN (Below.refl _ _) _⟩
  · rw [if_neg h1] at h
    cases h

end Go.Proofs.Ytmicgojonpdelaa.XLid
