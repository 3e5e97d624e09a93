-- Laid by a program of this session's (xprint.py) over the print's text; contracts proved by hand stand among them. Lean checks it.
import Derived.Shelf.Abstract
import Derived.Shelf.RegionOpen
import Derived.OwnWalkIn
import Derived.TacticsInMore
import Derived.LoopNIn
import Derived.LoopIn
import Derived.Test.YtmicgojonpdelaaVLiha
import Derived.Test.YtmicgojonpdelaaXStr
import Derived.Test.YtmicgojonpdelaaXLihx0
namespace Go.Proofs.Ytmicgojonpdelaa.XLih
open Go.RowKit Go.Proofs.YtmicgojonpdelaaW.PrintWords Go.Proofs.YtmicgojonpdelaaW.PrintLast Go.Proofs.YtmicgojonpdelaaW.PrintMore
attribute [local go_sem] max2_int min2_int max_two min_two max_three min_three max_four min_four   -- for this text's walks alone
set_option linter.unusedVariables false
set_option linter.unusedSimpArgs false

-- EXTPART
-- IMPORT Derived.Shelf.Abstract
-- IMPORT Derived.Shelf.RegionOpen
-- IMPORT Derived.OwnWalkIn
-- IMPORT Derived.TacticsInMore
-- IMPORT Derived.LoopNIn
-- IMPORT Derived.LoopIn
-- IMPORT Derived.Test.YtmicgojonpdelaaXSeq
-- IMPORT Derived.Test.YtmicgojonpdelaaXStr
/-! ### lines_Stuffed: function 30 (by hand; of no data) -/
namespace StuffedX
open Go.Proofs.Ytmicgojonpdelaa.XSeq
attribute [local go_sem] Oper.semAt_some
set_option maxHeartbeats 2000000 in
set_option maxRecDepth 100000 in
/-- bytes.Lines of no byte yields nothing. -/
theorem lines_seq (n : Nat) (hn : 2 ≤ n) (A0 : Option Addr) (c0 : Nat) (n₀ bs : Nat) (w : World) (hbs : w.heap[bs]? = some (.cells #[.slice A0 0 c0] 35 (0, 0))) :
    SeqS n Try.prog 40 #[.pointer (some ⟨bs, 0, none⟩)] (fun x : Value => #[x]) n₀ (fun k => k = bs) (fun xs => xs = []) (fun pre => False) 0 (fun x => True) w := by
  intro O l J Jx W hW hO hJ hJx hOW hY h0
  refine callsIn_of_wp Try.func40 rfl trivial ?_ rfl
  simp only [Try.ntmps40, List.size_toArray, List.length_cons, List.length_nil, Nat.reduceAdd, Nat.reduceSub, Array.replicate_succ, Array.replicate_zero, List.push_toArray, List.append_toArray, List.nil_append, List.cons_append]
  have c1 := (blk_cell (blk_below hbs hW) 0).trans rfl
  gi_wp2
  gi_loopw [7] (fun p wr => wr = W) (fun p wr => 0)
  case atStart => exact rfl
  case round =>
    obtain rfl := hrel
    gi_wp2
    go_end0
    exact ⟨⟨_, rfl⟩, .inl ⟨[], rfl, h0⟩⟩
theorem lines_calls (A0 : Option Addr) (n c0 : Nat) (w : World) :
    Calls Try.prog 35 #[.slice A0 n c0] w fun e w' => e = .returned (.func (.func 40) #[] #[.pointer (some ⟨w.heap.size, 0, none⟩)]) ∧ w' = w.alloc (.cells #[.slice A0 n c0] 35) := by
  go_enter Try.func35, Try.ntmps35
  go_wp2
  go_ret
  exact ⟨rfl, rfl⟩
def Inv (w : World) (R : Nat) (pre : List Value) (W : World) : Prop := W.heap[R]? = some (.cells #[.slice none 0 0] 35 (0, 0)) ∧ Below w.heap.size w W
theorem inv_abides (w : World) (R : Nat) (pre : List Value) : XSeq.Abides w.heap.size (fun _ k => k = R) (Inv w R pre) := by
  rintro A B row ⟨h1, h3⟩ hg hr
  exact ⟨⟨(hg.block R (blk_lt h1) (fun e => (hr R e.symm).2 rfl)).trans h1, h3.grown hg h3.size (fun k e => (hr k e).1)⟩, fun k h => h⟩
set_option maxHeartbeats 2000000 in
set_option maxRecDepth 100000 in
theorem none_calls (A0 : Option Addr) (c0 : Nat) (w : World) :
    Calls Try.prog 30 #[.slice A0 0 c0] w fun e w' => ∃ v0_, e = .returned v0_ ∧ Kd.R (Kd.int .u8) 5 w' w.heap.size (fun _ => True) v0_ [46, 13, 10] ∧ Below w.heap.size w w' := by
  have hf35 : Fence.wide.fn 35 := trivial
  have hnn : 1 ≤ 7 := by omega
  refine (callsIn_wide (n := 7)).1 ?_
  refine callsIn_of_wp_marks Try.func30 rfl trivial ?_ rfl
  simp only [Try.ntmps30, List.size_toArray, List.length_cons, List.length_nil, Nat.reduceAdd, Nat.reduceSub, Array.replicate_succ, Array.replicate_zero, List.push_toArray, List.append_toArray, List.nil_append, List.cons_append]
  gi_wp2_with (gi_at_call 35; refine (callsIn_wide.2 (lines_calls _ _ _ _)).mono ?_; rintro e w' ⟨rfl, rfl⟩)
  obtain ⟨W0, hW0⟩ : ∃ W0, (w.alloc (.cells #[.slice none 0 0] 35)).alloc (.cells #[.slice A0 0 c0] 35) = W0 := ⟨_, rfl⟩
  have hs0 : W0.heap.size = w.heap.size + 2 := by rw [← hW0]; simp
  have r0 : W0.heap[w.heap.size]? = some (.cells #[.slice none 0 0] 35 (0, 0)) := by
    rw [← hW0]; exact blk_alloc (blk_new w _) _
  have r1 : W0.heap[w.heap.size + 1]? = some (.cells #[.slice A0 0 c0] 35 (0, 0)) := by
    rw [← hW0]; have := blk_new (w.alloc (.cells #[.slice none 0 0] 35)) (.cells #[.slice A0 0 c0] 35); rwa [World.size_alloc] at this
  have hB0 : Below w.heap.size w W0 := by
    rw [← hW0]; exact ((Below.refl _ w).alloc (Nat.le_refl _) _).alloc (by simp) _
  rw [hW0]
  refine wpIn_rangeFunc_S (by omega) (gf := 40) (lb := #[.pointer (some ⟨w.heap.size + 1, 0, none⟩)]) rfl (enters_of Try.func40 (by kernel_rfl) rfl)
    (lines_seq (7 - 1) (by omega) A0 c0 w.heap.size (w.heap.size + 1) W0 r1) (by omega)
    (fun _ k => k = w.heap.size) (by rintro k rfl; omega) (fun _ => rfl) (Inv w w.heap.size) (fun _ _ _ => False) (inv_abides w _) (fun _ _ _ _ _ h => h.elim)
    (by rintro pre W k ⟨h1, _⟩ rfl; exact ⟨_, h1, rfl⟩) (fun _ _ _ _ h => h.elim) ⟨r0, hB0⟩
    (fun x => { tmps := #[.slice A0 0 c0, undef, .slice none 0 0, .pointer (some ⟨w.heap.size, 0, none⟩), x, undef, .slice A0 0 c0, .func (.func 40) #[] #[.pointer (some ⟨w.heap.size + 1, 0, none⟩)], x, undef, undef, undef, undef, undef, undef, undef, undef, undef, undef, undef, undef, undef, undef, undef, undef, undef, undef, undef, undef, undef, undef, undef, undef], defers := [] }) ?assign ?body ?done ?stop
  case assign =>
    intro l x W K hK
    gi_wp2
    exact hK
  case body =>
    rintro l pre x W hlt _ hlen hX
    exact absurd hlen (Nat.not_lt_zero _)
  case done =>
    rintro xs W hlt hS ⟨b0, hB⟩ hK
    have hc0 := (blk_cell b0 0).trans rfl
    have hf0 := blk_frozen b0 0
    obtain ⟨i0, hi, hzz⟩ := Option.map_eq_some_iff.1 info5
    simp only [Prod.mk.injEq] at hzz
    obtain ⟨hz0, hz1, hz2⟩ := hzz
    have hown0 : W.ownsRow w.heap.size 5 1 (.slice none 0 0) 0 [] := World.ownsRow_nil W w.heap.size 5 1
    obtain ⟨v', w', hr, ho, hg, hn⟩ := Lib.run_append_own_string (P := Try.prog) W w.heap.size 35 9 35 5 i0 Try.underlying35 Try.underlying9 hi hz0 hz1 hz2 (.slice none 0 0) 0 [] hown0 ⟨#[46, 13, 10]⟩ (by decide) (by decide) hB.size
    rw [run_append_nil_string (P := Try.prog) W 35 9 35 5 i0 (.int .u8 0) Try.underlying35 Try.underlying9 hi hz0 ⟨#[46, 13, 10]⟩ (by decide) (by decide) (by rw [hz2]; decide)] at hr
    cases hr
    have HO := Aside0.mk ho
    clear ho hg hn hi hz0 hz1 hz2 hown0
    gi_wp2
    have hD : (w.heap.size + 2) = W0.heap.size := hs0.symm
    refine ⟨by simp, .inl ⟨_, _, rfl, run_takeDeferred (by rw [hD]; exact (Below.heap_alloc _ _ _ (by omega)).trans hK), ?_⟩⟩
    refine ⟨_, by simp [results, Try.f30, go_sem]; rfl, ⟨_, rfl, ?_, ?_⟩⟩
    · refine Kd.R_of_own (h1 := fun _ => rfl) ?_ (fun _ _ => trivial)
      refine World.ownsRow.kept ?h1 (grownBy_putObj' _ (w.heap.size + 2) (.deferred none)) (.inr ?_)
      case h1 =>
        have h3 := HO.out
        have e1 : (#[46, 13, 10] : Array UInt8).map (fun b => Value.int IntKind.u8 b.toNat) = #[.int .u8 46, .int .u8 13, .int .u8 10] := by simp
        have e2 : (⟨#[46, 13, 10]⟩ : ByteArray).size = 3 := rfl
        have e3 : Lib.strCells ⟨#[46, 13, 10]⟩ = encs (Value.int .u8) [46, 13, 10] := by simp [Lib.strCells, encs]
        rw [e1, e2, e3] at h3
        exact h3
      show some W.heap.size ≠ some (w.heap.size + 2)
      intro h
      have := Option.some.inj h
      omega
    · exact (below_drew1 (hB.alloc (by omega) _)).grown (grownBy_putObj' _ (w.heap.size + 2) (.deferred none)) (by simp; omega) (fun k e => by cases e; omega)
  case stop =>
    rintro c pre W hlt hSp h hK
    exact h.elim
end StuffedX
/-- Of no data, the end alone. -/
def lines_Stuffed.f (l0 : List Int) : Option (List Int) := if l0 = [] then some [46, 13, 10] else none
theorem lines_Stuffed.calls (A0 : Option Addr) (c0 : Nat) (l0 : List Int) (r : List Int) (w : World) (hr0 : Kd.C (Kd.int .u8) w A0 l0.length l0) (hc0 : l0.length ≤ c0) (h : lines_Stuffed.f l0 = some r) :
    Calls Try.prog 30 #[.slice A0 l0.length c0] w fun e w' => ∃ v0_, e = .returned v0_ ∧ Kd.R (Kd.int .u8) 5 w' w.heap.size (fun _ => True) v0_ r ∧ Below w.heap.size w w' := by
  unfold lines_Stuffed.f at h
  by_cases h1 : l0 = []
  · rw [if_pos h1] at h
    obtain rfl := Option.some.inj h
    subst h1
    exact StuffedX.none_calls A0 c0 w
  · rw [if_neg h1] at h
    cases h

end Go.Proofs.Ytmicgojonpdelaa.XLih
