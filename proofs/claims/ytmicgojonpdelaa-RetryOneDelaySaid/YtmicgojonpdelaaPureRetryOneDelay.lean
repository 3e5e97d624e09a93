/- For every first instant and every list of pauses at most one attempt calls for a notice of delay; the inputs are unchanged; no condition beyond the row's own bounds on what can be read. -/
import Derived.Test.YtmicgojonpdelaaPRetryOneDelayx3
namespace Go.Proofs.Ytmicgojonpdelaa.Pure
open Go.RowKit Go.Proofs.Ytmicgojonpdelaa.PRetryOneDelay Go.Proofs.YtmicgojonpdelaaW.PrintWords Go.Proofs.YtmicgojonpdelaaW.PrintLast Go.Proofs.YtmicgojonpdelaaW.PrintMore
set_option linter.unusedSimpArgs false
set_option linter.unusedVariables false
/-! Plain facts on package retry's functions (as the print gives them). -/
theorem instants_two (a b : Int) (k : Nat) : retry_instants.f (k + 1 + 1 + 1) [a, b] =
    some (if a < -68719476736 ∨ a > 68719476736 ∨ b < -68719476736 ∨ b > 68719476736 then (3, -2) else (0, 0)) := by
  simp only [retry_instants.f, retry_instants.l0, List.length_cons, List.length_nil, rd, wrap64]
  by_cases h1 : a < -68719476736
  · simp [h1]
  by_cases h2 : a > 68719476736
  · simp [h1, h2]
  by_cases h3 : b < -68719476736
  · simp [h1, h2, h3]
  by_cases h4 : b > 68719476736
  · simp [h1, h2, h3, h4]
  simp [h1, h2, h3, h4]
theorem instants_three (a b c : Int) (k : Nat) : retry_instants.f (k + 1 + 1 + 1 + 1) [a, b, c] =
    some (if a < -68719476736 ∨ a > 68719476736 ∨ b < -68719476736 ∨ b > 68719476736 ∨ c < -68719476736 ∨ c > 68719476736 then (3, -2) else (0, 0)) := by
  simp only [retry_instants.f, retry_instants.l0, List.length_cons, List.length_nil, rd, wrap64]
  by_cases h1 : a < -68719476736
  · simp [h1]
  by_cases h2 : a > 68719476736
  · simp [h1, h2]
  by_cases h3 : b < -68719476736
  · simp [h1, h2, h3]
  by_cases h4 : b > 68719476736
  · simp [h1, h2, h3, h4]
  by_cases h5 : c < -68719476736
  · simp [h1, h2, h3, h4, h5]
  by_cases h6 : c > 68719476736
  · simp [h1, h2, h3, h4, h5, h6]
  simp [h1, h2, h3, h4, h5, h6]
/-- The seconds between the attempts. -/
def waitV (t : Int) : Int := if t = 1 then 60 else if t = 2 then 120 else if t = 3 then 240 else if t = 4 then 480 else if t = 5 then 960 else if t = 6 then 1920 else if t = 7 then 3840 else if t = 8 then 7680 else 14400
theorem delay_v (t : Int) (h1 : 1 ≤ t) (k : Nat) : retry_Delay.f (k + 1 + 1 + 1 + 1 + 1 + 1 + 1 + 1 + 1) t = some (waitV t) := by
  by_cases e1 : t = 1
  · subst e1; simp [retry_Delay.f, retry_Delay.l0, mn, waitV]
  by_cases e2 : t = 2
  · subst e2; simp [retry_Delay.f, retry_Delay.l0, wrap64, mn, waitV]
  by_cases e3 : t = 3
  · subst e3; simp [retry_Delay.f, retry_Delay.l0, wrap64, mn, waitV]
  by_cases e4 : t = 4
  · subst e4; simp [retry_Delay.f, retry_Delay.l0, wrap64, mn, waitV]
  by_cases e5 : t = 5
  · subst e5; simp [retry_Delay.f, retry_Delay.l0, wrap64, mn, waitV]
  by_cases e6 : t = 6
  · subst e6; simp [retry_Delay.f, retry_Delay.l0, wrap64, mn, waitV]
  by_cases e7 : t = 7
  · subst e7; simp [retry_Delay.f, retry_Delay.l0, wrap64, mn, waitV]
  by_cases e8 : t = 8
  · subst e8; simp [retry_Delay.f, retry_Delay.l0, wrap64, mn, waitV]
  have g : ∀ i : Int, i ≤ 8 → i < t := by intro i hi; omega
  simp [retry_Delay.f, retry_Delay.l0, wrap64, mn, g 1, g 2, g 3, g 4, g 5, g 6, g 7, g 8, waitV, e1, e2, e3, e4, e5, e6, e7, e8]
/-- What Next answers. -/
def nextV (a0 a1 a2 : Int) : Int × Bool × Int × Int :=
  if a0 < -68719476736 ∨ a0 > 68719476736 ∨ a2 < -68719476736 ∨ a2 > 68719476736 then (0, false, 3, -2)
  else if a1 < 1 ∨ a1 > 1000000 then (0, false, 3, -3)
  else if a2 < a0 then (0, false, 19, -4)
  else if a2 ≥ a0 + 345600 then (0, false, 0, 0)
  else (min (min (a2 + waitV a1) (a0 + 345600)) 68719476736, true, 0, 0)
theorem waitV_bd (t : Int) : 60 ≤ waitV t ∧ waitV t ≤ 14400 := by unfold waitV; repeat' split <;> omega
theorem mn_min (a b : Int) : mn a b = min a b := by unfold mn; omega
theorem next_v (a0 a1 a2 : Int) (k : Nat) : retry_Next.f (k + 1 + 1 + 1 + 1 + 1 + 1 + 1 + 1 + 1 + 1) a0 a1 a2 = some (nextV a0 a1 a2) := by
  unfold retry_Next.f
  rw [instants_two]
  unfold nextV
  by_cases h : a0 < -68719476736 ∨ a0 > 68719476736 ∨ a2 < -68719476736 ∨ a2 > 68719476736
  · rw [if_pos h, if_pos h]; rfl
  rw [if_neg h, if_neg h]
  have hb := waitV_bd a1
  have w1 : wrap64 (a0 + 345600) = a0 + 345600 := by unfold wrap64; omega
  have w2 : wrap64 (a2 + waitV a1) = a2 + waitV a1 := by unfold wrap64; omega
  simp only [Option.bind_some]
  by_cases h1 : a1 < 1
  · simp [h1, retry_Next.j0]
  by_cases h2 : a1 > 1000000
  · simp [h1, h2, retry_Next.j0]
  simp only [retry_Next.j0, delay_v a1 (by omega), w1, w2, mn_min, Option.bind_some]
  by_cases h3 : a2 < a0
  · simp [h1, h2, h3]
  by_cases h4 : a2 ≥ a0 + 345600
  · simp [h1, h2, h3, h4]
  simp [h1, h2, h3, h4]
/-- What Late answers. -/
def lateV (a0 a1 a2 : Int) : Bool × Int × Int :=
  if a0 < -68719476736 ∨ a0 > 68719476736 ∨ a1 < -68719476736 ∨ a1 > 68719476736 ∨ a2 < -68719476736 ∨ a2 > 68719476736 then (false, 3, -2)
  else if a1 < a0 ∨ a2 < a1 then (false, 19, -4)
  else (decide (a1 < a0 + 14400 ∧ a2 ≥ a0 + 14400), 0, 0)
theorem late_v (a0 a1 a2 : Int) (k : Nat) : retry_Late.f (k + 1 + 1 + 1 + 1) a0 a1 a2 = some (lateV a0 a1 a2) := by
  unfold retry_Late.f
  rw [instants_three]
  unfold lateV
  by_cases h : a0 < -68719476736 ∨ a0 > 68719476736 ∨ a1 < -68719476736 ∨ a1 > 68719476736 ∨ a2 < -68719476736 ∨ a2 > 68719476736
  · rw [if_pos h, if_pos h]; rfl
  rw [if_neg h, if_neg h]
  have w1 : wrap64 (a0 + 14400) = a0 + 14400 := by unfold wrap64; omega
  simp only [Option.bind_some, w1]
  by_cases h1 : a1 < a0
  · simp [h1]
  by_cases h2 : a2 < a1
  · simp [h1, h2]
  by_cases h3 : a1 < a0 + 14400
  · simp [h1, h2, h3]
  simp [h1, h2, h3]
theorem waits_v (k : Nat) : posthouselaw3_waits.f (k + 1 + 1 + 1 + 1 + 1 + 1 + 1 + 1 + 1 + 1) = some true := by
  unfold posthouselaw3_waits.f
  rw [next_v, next_v, late_v]
  decide
theorem bd64 {a : Int} (w : (Lit.int .i64 a).wf = true) : -9223372036854775808 ≤ a ∧ a ≤ 9223372036854775807 := by
  have e1 : (IntKind.i64).min = -9223372036854775808 := rfl
  have e2 : (IntKind.i64).max = 9223372036854775807 := rfl
  simp only [Lit.wf, e1, e2, Bool.and_eq_true, decide_eq_true_eq] at w
  exact w
theorem in_v (a b c : Int) : posthouseref3_In.f a b c = some (decide (b ≤ a ∧ a ≤ c)) := by
  unfold posthouseref3_In.f
  by_cases h : a ≥ b
  · rw [if_pos h]; simp [show b ≤ a from h]
  · rw [if_neg h]; simp [show ¬ b ≤ a from h]
theorem Ev.later {α : Type} {g : Nat → Option α} {r : α} (m : Nat) (h : ∀ k, g (k + m) = some r) : Ev g r :=
  ⟨m, fun k hk => by have := h (k - m); rwa [show k - m + m = k by omega] at this⟩
theorem round_v (a0 : Int) (l : List Int) (h0 : -34359738368 ≤ a0 ∧ a0 ≤ 34359738368) (hl : l.length ≤ 100) (d : Nat) : ∀ x5 x6 x7 : Int, 0 ≤ x7 → x7 + d = l.length → a0 ≤ x6 → x6 ≤ a0 + x7 * 1000000 →
    (x5 = 0 ∧ x6 < a0 + 14400 ∨ x5 = 1 ∧ a0 + 14400 ≤ x6) → Ev (fun k => posthouselaw3_RetryOneDelay.l0 k a0 l x5 x6 x7) true := by
  induction d with
  | zero =>
    intro x5 x6 x7 g1 g2 g3 g4 g5
    have e : wrap64 (x6 - a0) = x6 - a0 := by unfold wrap64; omega
    refine Ev.later 1 fun k => ?_
    simp only [posthouselaw3_RetryOneDelay.l0]
    rw [if_neg (by omega), e]
    rcases g5 with ⟨rfl, g⟩ | ⟨rfl, g⟩
    · have : ¬ 14400 ≤ x6 - a0 := by omega
      simp [this]
    · have : 14400 ≤ x6 - a0 := by omega
      simp [this]
  | succ d ih =>
    intro x5 x6 x7 g1 g2 g3 g4 g5
    obtain ⟨p, hp⟩ : ∃ p, p = rd l x7 := ⟨_, rfl⟩
    have i7 : x7 < (l.length : Int) := by omega
    by_cases hin : 0 ≤ p ∧ p ≤ 1000000
    rotate_left
    · refine Ev.later 1 fun k => ?_
      simp only [posthouselaw3_RetryOneDelay.l0]
      rw [if_pos i7, if_pos g1, in_v, ← hp]
      simp only [hin, decide_false, Option.bind_some, Bool.false_eq_true, if_false]
    have e1 : wrap64 (x6 + p) = x6 + p := by unfold wrap64; omega
    have e2 : wrap64 (x5 + 1) = x5 + 1 := by unfold wrap64; omega
    have e3 : wrap64 (x7 + 1) = x7 + 1 := by unfold wrap64; omega
    by_cases hlate : x6 < a0 + 14400 ∧ x6 + p ≥ a0 + 14400
    · have hv : lateV a0 x6 (x6 + p) = (true, 0, 0) := by
        unfold lateV; rw [if_neg (by omega), if_neg (by omega)]; simp [hlate.1, show a0 + 14400 ≤ x6 + p from hlate.2]
      obtain ⟨K, hK⟩ := ih (x5 + 1) (x6 + p) (x7 + 1) (by omega) (by omega) (by omega) (by omega) (by omega)
      refine ⟨K + 5, fun k hk => ?_⟩
      obtain ⟨m, rfl⟩ : ∃ m, k = m + 1 + 1 + 1 + 1 + 1 := ⟨k - 5, by omega⟩
      simp only [posthouselaw3_RetryOneDelay.l0]
      rw [if_pos i7, if_pos g1, in_v, ← hp]
      simp only [hin, and_self, decide_true, Option.bind_some, if_true, e1, e2, e3, late_v, hv]
      exact hK (m + 4) (by omega)
    · have hv : lateV a0 x6 (x6 + p) = (false, 0, 0) := by
        unfold lateV; rw [if_neg (by omega), if_neg (by omega), decide_eq_false hlate]
      obtain ⟨K, hK⟩ := ih x5 (x6 + p) (x7 + 1) (by omega) (by omega) (by omega) (by omega) (by omega)
      refine ⟨K + 5, fun k hk => ?_⟩
      obtain ⟨m, rfl⟩ : ∃ m, k = m + 1 + 1 + 1 + 1 + 1 := ⟨k - 5, by omega⟩
      simp only [posthouselaw3_RetryOneDelay.l0]
      rw [if_pos i7, if_pos g1, in_v, ← hp]
      simp only [hin, and_self, decide_true, Option.bind_some, if_true, e1, e3, late_v, hv, Bool.false_eq_true, if_false]
      exact hK (m + 4) (by omega)
theorem RetryOneDelay : posthouselaw3_RetryOneDelay.Pure := by
  intro a0 l w0 _ _ _
  by_cases h0 : -34359738368 ≤ a0 ∧ a0 ≤ 34359738368
  rotate_left
  · refine ⟨0 + 1 + 1 + 1 + 1 + 1 + 1 + 1 + 1 + 1 + 1 + 1, ?_⟩
    unfold posthouselaw3_RetryOneDelay.f
    rw [waits_v]
    simp only [Option.bind_some, if_true, in_v, h0, decide_false, Bool.false_eq_true, if_false, posthouselaw3_RetryOneDelay.j0]
    rw [waits_v]; rfl
  by_cases h1 : (l.length : Int) > 100
  · refine ⟨0 + 1 + 1 + 1 + 1 + 1 + 1 + 1 + 1 + 1 + 1 + 1, ?_⟩
    unfold posthouselaw3_RetryOneDelay.f
    rw [waits_v]
    simp only [Option.bind_some, if_true, in_v, h0, h1, and_self, decide_true, posthouselaw3_RetryOneDelay.j0]
    rw [waits_v]; rfl
  obtain ⟨K, hK⟩ := round_v a0 l h0 (by omega) l.length 0 a0 0 (by omega) (by omega) (by omega) (by omega) (by omega)
  refine ⟨K + 1 + 1 + 1 + 1 + 1 + 1 + 1 + 1 + 1 + 1 + 1, ?_⟩
  unfold posthouselaw3_RetryOneDelay.f
  rw [waits_v]
  simp only [Option.bind_some, if_true, in_v, h0, h1, and_self, decide_true, decide_false, Bool.false_eq_true, if_false, posthouselaw3_RetryOneDelay.j0]
  exact hK (K + 10) (by omega)
end Go.Proofs.Ytmicgojonpdelaa.Pure
