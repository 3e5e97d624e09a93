-- Laid by a program of this session's (xprint.py) over the print's text; contracts proved by hand stand among them. Lean checks it.
import Derived.Maps.Own
import Derived.Maps.OwnOps
import Derived.Maps.OwnSet
import Derived.Outline
import Derived.WalkArith
import Derived.Test.YtbmeebhcanknmaaDoorXEvmx0
import Derived.Test.YtbmeebhcanknmaaDoorXEvmx12
import Derived.Test.YtbmeebhcanknmaaDoorXEvmx19
namespace Go.Proofs.YtbmeebhcanknmaaDoor.XEvm
open Go.RowKit Go.Proofs.YtbmeebhcanknmaaDoorW.PrintWords Go.Proofs.YtbmeebhcanknmaaDoorW.PrintLast Go.Proofs.YtbmeebhcanknmaaDoorW.PrintMore
attribute [local go_sem] max2_int min2_int max_two min_two max_three min_three max_four min_four   -- for this text's walks alone
set_option linter.unusedVariables false
set_option linter.unusedSimpArgs false

-- EXTPART
-- IMPORT Derived.Maps.Own
-- IMPORT Derived.Maps.OwnOps
-- IMPORT Derived.Maps.OwnSet
-- IMPORT Derived.Outline
-- IMPORT Derived.WalkArith
/-! ### envelope_recipients: function 79 (by hand) -/
namespace RecipientsX
open Go.Maps
theorem law : Keyed Tryd.prog 9 := string_keyed Tryd.underlying9
theorem zeroE (w : World) : (zeroValue 3).run Tryd.prog w = .ok (.int .i64 0) w := by kernel_rfl
/-- The map has just the addresses of the first k. -/
def Has (D : DataW Unit) (l : List S48) (k : Nat) : Prop := ∀ a : ByteArray, Maps.has D (.string a.data.toList) = (l.take k).any fun r => decide (r.f0 = a)
theorem take_rd {l : List S48} {k : Nat} (hk : k < l.length) : l.take (k + 1) = l.take k ++ [rd_T48 l k] := by
 rw [List.take_succ_eq_append_getElem hk]
 congr 2
 unfold rd_T48
 rw [Int.toNat_natCast, List.getD_eq_getElem?_getD, List.getElem?_eq_getElem hk]
 rfl
theorem data_inj {a b : ByteArray} (h : a.data.toList = b.data.toList) : a = b := by
 obtain ⟨⟨x⟩⟩ := a; obtain ⟨⟨y⟩⟩ := b; simp at h; rw [h]
theorem Has.put {D : DataW Unit} {l : List S48} {k : Nat} (h : Has D l k) (hD : IsMap D) (hk : k < l.length) (d : DataW Unit) : Has (D.put (.string (rd_T48 l k).f0.data.toList) d) l (k + 1) := by
 intro a
 rw [take_rd hk, List.any_append]
 by_cases e : a = (rd_T48 l k).f0
 ·
  subst e
  rw [has_put_same hD (by simp [WideAt.IsKeyLit])]
  simp
 ·
  rw [has_put_other (fun e2 => e (data_inj (by injection e2))), h a]
  have : decide ((rd_T48 l k).f0 = a) = false := by rw [decide_eq_false_iff_not]; exact fun h => e h.symm
  simp [this]
/-- One recipient behind the other. -/
def go (k : Nat) (l : List S48) : Nat → Nat → Option (Int × Int)
 | 0, _ => some (0, 0)
 | d + 1, i => if (rd_T48 l i).f0.size ≤ 140737488351232 then (envelope_IsAddress.f k (rd_T48 l i).f0).bind fun t =>
   if t = false then some (10, (i : Int)) else if (rd_T48 l i).f1 < 0 ∨ (rd_T48 l i).f1 > 7 then some (3, (i : Int))
   else if (l.take i).any (fun r => decide (r.f0 = (rd_T48 l i).f0)) = true then some (7, (i : Int)) else go k l d (i + 1) else none
theorem go_mono (l : List S48) (k : Nat) : ∀ d i, LeO (go k l d i) (go (k + 1) l d i)
 | 0, _ => LeO.refl _
 | d + 1, i => by
  unfold go
  refine LeO.ite (LeO.bind (envelope_IsAddress.mono _ _) fun t => ?_) (LeO.none _)
  refine LeO.ite (LeO.refl _) (LeO.ite (LeO.refl _) (LeO.ite (LeO.refl _) (go_mono l k d (i + 1))))
end RecipientsX
def envelope_recipients.f (k : Nat) (l0 : List S48) : Option (Int × Int) := RecipientsX.go k l0 l0.length 0
theorem envelope_recipients.mono : ∀ a0 k, LeO (envelope_recipients.f k a0) (envelope_recipients.f (k + 1) a0) := fun a0 k => RecipientsX.go_mono a0 k _ _
set_option maxHeartbeats 2000000 in
set_option maxRecDepth 100000 in
theorem envelope_recipients.calls (k : Nat) (A0 : Option Addr) (c0 : Nat) (l0 : List S48) (r1 : Int) (r2 : Int) (w : World) (hr0 : Kd.C k48 w A0 l0.length l0) (hc0 : l0.length ≤ c0) (h : envelope_recipients.f k l0 = some (r1, r2)) :
  Calls Tryd.prog 79 #[.slice A0 l0.length c0] w fun e w' => e = .returned (.agg #[.int .i64 r1, .int .i64 r2]) ∧ Below w.heap.size w w' := by
 have HR := Aside0.mk hr0
 have HG := Aside0.mk (show RecipientsX.go k l0 l0.length 0 = some (r1, r2) from h)
 have hll : l0.length ≤ 9223372036854775807 := hr0.2.1
 have hmm := @run_makeMap Tryd.prog
 clear hr0 h hc0
 go_enter Tryd.func79, Tryd.ntmps79
 go_wp2
 go_loopw [11] (fun p wr => ∃ (i d : Nat) (D : DataW Unit), p = .int .i64 i ∧ Aside0 (i + d = l0.length) ∧ Aside0 (RecipientsX.go k l0 d i = some (r1, r2)) ∧ Aside0 (wr.heap[w.heap.size]? = some (.cells #[.int .i64 0, .int .i64 0] 25 (0, 0)))
   ∧ Aside0 (wr.ownsMap Tryd.prog 9 (plainElem Tryd.prog 3) (w.heap.size + 1) i D) ∧ Aside0 (RecipientsX.Has D l0 i) ∧ Aside0 (Below w.heap.size w wr)) (fun p _ => l0.length - (intOf p).toNat)
 case atStart => exact ⟨0, l0.length, .map [], rfl, ⟨by omega⟩, HG, ⟨by simpa using blk_alloc (blk_new w (.cells #[.int .i64 0, .int .i64 0] 25)) _⟩, ⟨by simpa using World.ownsMap_made (w.alloc (.cells #[.int .i64 0, .int .i64 0] 25)) Tryd.prog 9 (plainElem (H := Unit) Tryd.prog 3)⟩, ⟨fun a => by simp [Maps.has]⟩, ⟨((Below.refl _ w).alloc (Nat.le_refl _) _).alloc (by simp) _⟩⟩
 case round =>
  clear HG
  obtain ⟨i, d, D, rfl, HD, HGO, HB0, HM, HH, HB⟩ := hrel
  have hd := HD.out
  have b0 := HB0.out
  have cz0 := (blk_cell b0 0).trans rfl
  have cz1 := (blk_cell b0 1).trans rfl
  have fz0 := blk_frozen b0 0
  have fz1 := blk_frozen b0 1
  cases d with
  | zero =>
   obtain ⟨rfl, rfl⟩ : (0 : Int) = r1 ∧ (0 : Int) = r2 := by have := HGO.out; simpa [RecipientsX.go] using this
   have hlt : ¬ i < l0.length := by omega
   have hlt2 : decide ((i : Int) < l0.length) = false := by simp; omega
   clear b0 hmm
   go_wp2
   refine bodyPost_ret (results_cell_row rfl _ _ w.heap.size 25 #[.int .i64 0, .int .i64 0] (0, 0) _ rfl (by have := blk_set (blk_set HB0.out 0 (.int .i64 0)) 1 (.int .i64 0); simpa using this) Tryd.underlying25 rfl (by kernel_rfl)) rfl ?_
   exact ⟨rfl, (HB.out.setCell (p := ⟨w.heap.size, 0, none⟩) (Nat.le_refl _) _).setCell (p := ⟨w.heap.size, 1, none⟩) (Nat.le_refl _) _⟩
  | succ d =>
   have hlt : i < l0.length := by omega
   have hlt2 : decide ((i : Int) < l0.length) = true := by simp; omega
   obtain ⟨ad, e1, hx0, hx1⟩ := at_T48 HR.out i (by omega) (by omega)
   cases e1
   replace hx0 := (HB.out.cell (World.block_lt_of_cell? w _ hx0)).trans hx0
   replace hx1 := (HB.out.cell (World.block_lt_of_cell? w _ hx1)).trans hx1
   simp only [Int.toNat_natCast] at hx0 hx1
   have hRB : ∀ W, Below wr.heap.size wr W → W.heap[w.heap.size]? = some (.cells #[.int .i64 0, .int .i64 0] 25 (0, 0)) := fun W hW => blk_below HB0.out hW
   have hMB : ∀ W, Below wr.heap.size wr W → W.ownsMap Tryd.prog 9 (plainElem Tryd.prog 3) (w.heap.size + 1) i D := by
    intro W hW
    obtain ⟨es, clock, hb, F, hs, hD⟩ := HM.out
    exact ⟨es, clock, blk_below hb hW, F, hs, hD⟩
   have HRB := Aside0.mk hRB
   have HMB := Aside0.mk hMB
   clear hRB hMB
   have hgo := HGO.out
   unfold RecipientsX.go at hgo
   by_cases hsz : (rd_T48 l0 i).f0.size ≤ 140737488351232
   ·
    rw [if_pos hsz] at hgo
    obtain ⟨t, ht, hgo⟩ := Option.bind_eq_some_iff.1 hgo
    have HT := Aside0.mk ht
    have HGO2 := Aside0.mk hgo
    have HSZ := Aside0.mk hsz
    clear ht hgo HGO hsz b0
    obtain ⟨a, ha⟩ : ∃ a, a = (rd_T48 l0 i).f0 := ⟨_, rfl⟩
    obtain ⟨f1, hf1⟩ : ∃ f1, f1 = (rd_T48 l0 i).f1 := ⟨_, rfl⟩
    rw [← ha] at hx0
    rw [← hf1] at hx1
    have HT' := Aside0.mk (show envelope_IsAddress.f k a = some t by rw [ha]; exact HT.out)
    have HSZ' := Aside0.mk (show a.size ≤ maxLen by rw [ha]; have := HSZ.out; unfold maxLen; omega)
    obtain ⟨b, hb⟩ : ∃ b, b = (l0.take i).any (fun r => decide (r.f0 = a)) := ⟨_, rfl⟩
    have hhas : Maps.has D (.string a.data.toList) = b := by rw [hb]; exact HH.out a
    have HBB := Aside0.mk hb
    have HA := Aside0.mk ha
    have HF := Aside0.mk hf1
    clear ha hf1 hb
    have hi63 : (i : Int) + 1 ≤ 9223372036854775807 := by omega
    cases t with
    | false =>
     obtain ⟨rfl, rfl⟩ : (10 : Int) = r1 ∧ (i : Int) = r2 := by have := HGO2.out; simpa using this
     go_wp2_with (first | ((with_reducible refine gate_dst (N := 5) rfl ?_); refine box_event ?hg (N := 5) ?hd (cs := #[.string ⟨#[]⟩, .int .i64 0]) (t := 48) ?hr ?_; (case hd => rfl); (case hg => rfl); (case hr => first | (go_simp; done) | (go_simp; rfl)); intro g hg w2 hbox hb2; have HGE := Aside0.mk (Nat.le_of_eq hg.symm); have HB2 := Aside0.mk hb2; have HBX := Aside0.mk hbox; have g0 := (blk_cell hbox 0).trans rfl; have g1 := (blk_cell hbox 1).trans rfl; have q0 := blk_frozen hbox 0; have q1 := blk_frozen hbox 1; clear hg hb2 hbox) | ((with_reducible refine gate_dst (N := 20) rfl ?_); have HW3 := Aside0.mk ((HB2.out.setCell (p := ⟨g, 0, none⟩) HGE.out (.string a)).setCell (p := ⟨g, 1, none⟩) HGE.out (.int .i64 f1)); refine wpList_lookup_own_ok_int _ rfl _ _ 119 rfl 9 3 .i64 RecipientsX.law Tryd.underlying119 Tryd.underlying3 (RecipientsX.zeroE _) (w.heap.size+1) i D rfl (HMB.out _ HW3.out) _ _ rfl (Go.WideMaps.keyOf_string_mk Tryd.underlying9 HSZ'.out) ?_; intro c hat hwc; rw [hhas]; clear hat) | (go_at_call 61; refine (envelope_IsAddress.calls k _ _ _ HT'.out).mono ?_; intro e w4 hh; obtain ⟨he, hb4⟩ := hh; cases he; have HW4 := Aside0.mk (HW3.out.trans (hb4.mono HW3.out.size)); have b4 := HRB.out _ HW4.out; have d4 := blk_below (blk_set (blk_set HBX.out 0 (.string a)) 1 (.int .i64 f1)) hb4; have cy0 := (blk_cell b4 0).trans rfl; have cy1 := (blk_cell b4 1).trans rfl; have fy0 := blk_frozen b4 0; have fy1 := blk_frozen b4 1; have dy0 := (blk_cell d4 0).trans rfl; have dy1 := (blk_cell d4 1).trans rfl; have ey0 := blk_frozen d4 0; have ey1 := blk_frozen d4 1; clear hb4 b4 d4))
     refine bodyPost_ret (results_cell_row rfl _ _ w.heap.size 25 #[.int .i64 10, .int .i64 i] (0, 0) _ rfl (by have := blk_set (blk_set (HRB.out _ HW4.out) 0 (.int .i64 10)) 1 (.int .i64 i); simpa using this) Tryd.underlying25 rfl (by kernel_rfl)) rfl ?_
     exact ⟨rfl, ((HB.out.trans (HW4.out.mono HB.out.size)).setCell (p := ⟨w.heap.size, 0, none⟩) (Nat.le_refl _) _).setCell (p := ⟨w.heap.size, 1, none⟩) (Nat.le_refl _) _⟩
    | true =>
     have hgo := HGO2.out
     clear HGO2
     rw [if_neg (by simp)] at hgo
     by_cases hlo : (rd_T48 l0 i).f1 < 0
     ·
      rw [if_pos (.inl hlo)] at hgo
      obtain ⟨rfl, rfl⟩ : (3 : Int) = r1 ∧ (i : Int) = r2 := by simpa using hgo
      rw [← HF.out] at hlo
      have hd1 : decide (f1 < 0) = true := by simp [hlo]
      clear hgo
      go_wp2_with (first | ((with_reducible refine gate_dst (N := 5) rfl ?_); refine box_event ?hg (N := 5) ?hd (cs := #[.string ⟨#[]⟩, .int .i64 0]) (t := 48) ?hr ?_; (case hd => rfl); (case hg => rfl); (case hr => first | (go_simp; done) | (go_simp; rfl)); intro g hg w2 hbox hb2; have HGE := Aside0.mk (Nat.le_of_eq hg.symm); have HB2 := Aside0.mk hb2; have HBX := Aside0.mk hbox; have g0 := (blk_cell hbox 0).trans rfl; have g1 := (blk_cell hbox 1).trans rfl; have q0 := blk_frozen hbox 0; have q1 := blk_frozen hbox 1; clear hg hb2 hbox) | ((with_reducible refine gate_dst (N := 20) rfl ?_); have HW3 := Aside0.mk ((HB2.out.setCell (p := ⟨g, 0, none⟩) HGE.out (.string a)).setCell (p := ⟨g, 1, none⟩) HGE.out (.int .i64 f1)); refine wpList_lookup_own_ok_int _ rfl _ _ 119 rfl 9 3 .i64 RecipientsX.law Tryd.underlying119 Tryd.underlying3 (RecipientsX.zeroE _) (w.heap.size+1) i D rfl (HMB.out _ HW3.out) _ _ rfl (Go.WideMaps.keyOf_string_mk Tryd.underlying9 HSZ'.out) ?_; intro c hat hwc; rw [hhas]; clear hat) | (go_at_call 61; refine (envelope_IsAddress.calls k _ _ _ HT'.out).mono ?_; intro e w4 hh; obtain ⟨he, hb4⟩ := hh; cases he; have HW4 := Aside0.mk (HW3.out.trans (hb4.mono HW3.out.size)); have b4 := HRB.out _ HW4.out; have d4 := blk_below (blk_set (blk_set HBX.out 0 (.string a)) 1 (.int .i64 f1)) hb4; have cy0 := (blk_cell b4 0).trans rfl; have cy1 := (blk_cell b4 1).trans rfl; have fy0 := blk_frozen b4 0; have fy1 := blk_frozen b4 1; have dy0 := (blk_cell d4 0).trans rfl; have dy1 := (blk_cell d4 1).trans rfl; have ey0 := blk_frozen d4 0; have ey1 := blk_frozen d4 1; clear hb4 b4 d4))
      refine bodyPost_ret (results_cell_row rfl _ _ w.heap.size 25 #[.int .i64 3, .int .i64 i] (0, 0) _ rfl (by have := blk_set (blk_set (HRB.out _ HW4.out) 0 (.int .i64 3)) 1 (.int .i64 i); simpa using this) Tryd.underlying25 rfl (by kernel_rfl)) rfl ?_
      exact ⟨rfl, ((HB.out.trans (HW4.out.mono HB.out.size)).setCell (p := ⟨w.heap.size, 0, none⟩) (Nat.le_refl _) _).setCell (p := ⟨w.heap.size, 1, none⟩) (Nat.le_refl _) _⟩
     ·
      by_cases hhi : (rd_T48 l0 i).f1 > 7
      ·
       rw [if_pos (.inr hhi)] at hgo
       obtain ⟨rfl, rfl⟩ : (3 : Int) = r1 ∧ (i : Int) = r2 := by simpa using hgo
       rw [← HF.out] at hlo hhi
       have hd1 : decide (f1 < 0) = false := by simp; omega
       have hd2 : decide (7 < f1) = true := by simp; omega
       clear hgo
       go_wp2_with (first | ((with_reducible refine gate_dst (N := 5) rfl ?_); refine box_event ?hg (N := 5) ?hd (cs := #[.string ⟨#[]⟩, .int .i64 0]) (t := 48) ?hr ?_; (case hd => rfl); (case hg => rfl); (case hr => first | (go_simp; done) | (go_simp; rfl)); intro g hg w2 hbox hb2; have HGE := Aside0.mk (Nat.le_of_eq hg.symm); have HB2 := Aside0.mk hb2; have HBX := Aside0.mk hbox; have g0 := (blk_cell hbox 0).trans rfl; have g1 := (blk_cell hbox 1).trans rfl; have q0 := blk_frozen hbox 0; have q1 := blk_frozen hbox 1; clear hg hb2 hbox) | ((with_reducible refine gate_dst (N := 20) rfl ?_); have HW3 := Aside0.mk ((HB2.out.setCell (p := ⟨g, 0, none⟩) HGE.out (.string a)).setCell (p := ⟨g, 1, none⟩) HGE.out (.int .i64 f1)); refine wpList_lookup_own_ok_int _ rfl _ _ 119 rfl 9 3 .i64 RecipientsX.law Tryd.underlying119 Tryd.underlying3 (RecipientsX.zeroE _) (w.heap.size+1) i D rfl (HMB.out _ HW3.out) _ _ rfl (Go.WideMaps.keyOf_string_mk Tryd.underlying9 HSZ'.out) ?_; intro c hat hwc; rw [hhas]; clear hat) | (go_at_call 61; refine (envelope_IsAddress.calls k _ _ _ HT'.out).mono ?_; intro e w4 hh; obtain ⟨he, hb4⟩ := hh; cases he; have HW4 := Aside0.mk (HW3.out.trans (hb4.mono HW3.out.size)); have b4 := HRB.out _ HW4.out; have d4 := blk_below (blk_set (blk_set HBX.out 0 (.string a)) 1 (.int .i64 f1)) hb4; have cy0 := (blk_cell b4 0).trans rfl; have cy1 := (blk_cell b4 1).trans rfl; have fy0 := blk_frozen b4 0; have fy1 := blk_frozen b4 1; have dy0 := (blk_cell d4 0).trans rfl; have dy1 := (blk_cell d4 1).trans rfl; have ey0 := blk_frozen d4 0; have ey1 := blk_frozen d4 1; clear hb4 b4 d4))
       refine bodyPost_ret (results_cell_row rfl _ _ w.heap.size 25 #[.int .i64 3, .int .i64 i] (0, 0) _ rfl (by have := blk_set (blk_set (HRB.out _ HW4.out) 0 (.int .i64 3)) 1 (.int .i64 i); simpa using this) Tryd.underlying25 rfl (by kernel_rfl)) rfl ?_
       exact ⟨rfl, ((HB.out.trans (HW4.out.mono HB.out.size)).setCell (p := ⟨w.heap.size, 0, none⟩) (Nat.le_refl _) _).setCell (p := ⟨w.heap.size, 1, none⟩) (Nat.le_refl _) _⟩
      ·
       rw [if_neg (by omega), ← HA.out, ← HBB.out] at hgo
       rw [← HF.out] at hlo hhi
       have hd1 : decide (f1 < 0) = false := by simp; omega
       have hd2 : decide (7 < f1) = false := by simp; omega
       cases b with
       | true =>
        obtain ⟨rfl, rfl⟩ : (7 : Int) = r1 ∧ (i : Int) = r2 := by simpa using hgo
        clear hgo
        go_wp2_with (first | ((with_reducible refine gate_dst (N := 5) rfl ?_); refine box_event ?hg (N := 5) ?hd (cs := #[.string ⟨#[]⟩, .int .i64 0]) (t := 48) ?hr ?_; (case hd => rfl); (case hg => rfl); (case hr => first | (go_simp; done) | (go_simp; rfl)); intro g hg w2 hbox hb2; have HGE := Aside0.mk (Nat.le_of_eq hg.symm); have HB2 := Aside0.mk hb2; have HBX := Aside0.mk hbox; have g0 := (blk_cell hbox 0).trans rfl; have g1 := (blk_cell hbox 1).trans rfl; have q0 := blk_frozen hbox 0; have q1 := blk_frozen hbox 1; clear hg hb2 hbox) | ((with_reducible refine gate_dst (N := 20) rfl ?_); have HW3 := Aside0.mk ((HB2.out.setCell (p := ⟨g, 0, none⟩) HGE.out (.string a)).setCell (p := ⟨g, 1, none⟩) HGE.out (.int .i64 f1)); refine wpList_lookup_own_ok_int _ rfl _ _ 119 rfl 9 3 .i64 RecipientsX.law Tryd.underlying119 Tryd.underlying3 (RecipientsX.zeroE _) (w.heap.size+1) i D rfl (HMB.out _ HW3.out) _ _ rfl (Go.WideMaps.keyOf_string_mk Tryd.underlying9 HSZ'.out) ?_; intro c hat hwc; rw [hhas]; clear hat) | (go_at_call 61; refine (envelope_IsAddress.calls k _ _ _ HT'.out).mono ?_; intro e w4 hh; obtain ⟨he, hb4⟩ := hh; cases he; have HW4 := Aside0.mk (HW3.out.trans (hb4.mono HW3.out.size)); have b4 := HRB.out _ HW4.out; have d4 := blk_below (blk_set (blk_set HBX.out 0 (.string a)) 1 (.int .i64 f1)) hb4; have cy0 := (blk_cell b4 0).trans rfl; have cy1 := (blk_cell b4 1).trans rfl; have fy0 := blk_frozen b4 0; have fy1 := blk_frozen b4 1; have dy0 := (blk_cell d4 0).trans rfl; have dy1 := (blk_cell d4 1).trans rfl; have ey0 := blk_frozen d4 0; have ey1 := blk_frozen d4 1; clear hb4 b4 d4))
        refine bodyPost_ret (results_cell_row rfl _ _ w.heap.size 25 #[.int .i64 7, .int .i64 i] (0, 0) _ rfl (by have := blk_set (blk_set (HRB.out _ HW4.out) 0 (.int .i64 7)) 1 (.int .i64 i); simpa using this) Tryd.underlying25 rfl (by kernel_rfl)) rfl ?_
        exact ⟨rfl, ((HB.out.trans (HW4.out.mono HB.out.size)).setCell (p := ⟨w.heap.size, 0, none⟩) (Nat.le_refl _) _).setCell (p := ⟨w.heap.size, 1, none⟩) (Nat.le_refl _) _⟩
       | false =>
        have HGO3 := Aside0.mk (show RecipientsX.go k l0 d (i + 1) = some (r1, r2) by simpa using hgo)
        clear hgo
        go_wp2_with (first | ((with_reducible refine gate_dst (N := 5) rfl ?_); refine box_event ?hg (N := 5) ?hd (cs := #[.string ⟨#[]⟩, .int .i64 0]) (t := 48) ?hr ?_; (case hd => rfl); (case hg => rfl); (case hr => first | (go_simp; done) | (go_simp; rfl)); intro g hg w2 hbox hb2; have HGE := Aside0.mk (Nat.le_of_eq hg.symm); have HB2 := Aside0.mk hb2; have HBX := Aside0.mk hbox; have g0 := (blk_cell hbox 0).trans rfl; have g1 := (blk_cell hbox 1).trans rfl; have q0 := blk_frozen hbox 0; have q1 := blk_frozen hbox 1; clear hg hb2 hbox) | ((with_reducible refine gate_dst (N := 20) rfl ?_); have HW3 := Aside0.mk ((HB2.out.setCell (p := ⟨g, 0, none⟩) HGE.out (.string a)).setCell (p := ⟨g, 1, none⟩) HGE.out (.int .i64 f1)); refine wpList_lookup_own_ok_int _ rfl _ _ 119 rfl 9 3 .i64 RecipientsX.law Tryd.underlying119 Tryd.underlying3 (RecipientsX.zeroE _) (w.heap.size+1) i D rfl (HMB.out _ HW3.out) _ _ rfl (Go.WideMaps.keyOf_string_mk Tryd.underlying9 HSZ'.out) ?_; intro c hat hwc; rw [hhas]; clear hat) | (go_at_call 61; refine (envelope_IsAddress.calls k _ _ _ HT'.out).mono ?_; intro e w4 hh; obtain ⟨he, hb4⟩ := hh; cases he; have HW4 := Aside0.mk (HW3.out.trans (hb4.mono HW3.out.size)); have b4 := HRB.out _ HW4.out; have d4 := blk_below (blk_set (blk_set HBX.out 0 (.string a)) 1 (.int .i64 f1)) hb4; have cy0 := (blk_cell b4 0).trans rfl; have cy1 := (blk_cell b4 1).trans rfl; have fy0 := blk_frozen b4 0; have fy1 := blk_frozen b4 1; have dy0 := (blk_cell d4 0).trans rfl; have dy1 := (blk_cell d4 1).trans rfl; have ey0 := blk_frozen d4 0; have ey1 := blk_frozen d4 1; clear hb4 b4 d4) | (at_mapUpdate; (refine wpList_mapUpdate_own _ rfl _ _ _ 119 rfl 9 3 RecipientsX.law Tryd.underlying119 _ (w.heap.size+1) i D rfl (HMB.out _ HW4.out) (by unfold maxLen; omega) _ _ (.string a.data.toList) rfl rfl (Go.WideMaps.keyOf_string_mk Tryd.underlying9 HSZ'.out) (.lit (.int .i64 i)) [] (plainElem_int Tryd.underlying3 (Go.WalkArith.wf_i64 (by omega))) ?_); intro w5 hm5 hgr5; have HM5 := Aside0.mk hm5; have HGR := Aside0.mk hgr5; clear hm5 hgr5))
        refine ⟨⟨i + 1, d, _, rfl, ⟨by omega⟩, HGO3, ⟨?_⟩, HM5, ⟨?_⟩, ⟨?_⟩⟩, by simp [intOf]; omega⟩
        ·
         rw [HGR.out.block _ (by have := HM.out.lt; have := HW4.out.size; omega) (by simp)]
         exact HRB.out _ HW4.out
        ·
         have := HH.out.put HM.out.isMap hlt (.lit (.int .i64 i))
         rw [← HA.out] at this
         exact this
        ·
         exact (HB.out.trans (HW4.out.mono HB.out.size)).grown HGR.out (by have := HB.out.size; have := HW4.out.size; omega) (by intro k e; cases e; omega)
   ·
    rw [if_neg hsz] at hgo
    exact absurd hgo (by simp)

end Go.Proofs.YtbmeebhcanknmaaDoor.XEvm
