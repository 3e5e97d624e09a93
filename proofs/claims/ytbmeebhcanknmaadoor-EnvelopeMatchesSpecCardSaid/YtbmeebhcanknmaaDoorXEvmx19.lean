-- Laid by a program of this session's (xprint.py) over the print's text; contracts proved by hand stand among them. Lean checks it.
import Derived.Test.YtbmeebhcanknmaaDoorVEvma
import Derived.Outline
import Derived.Test.YtbmeebhcanknmaaDoorXEvmx0
namespace Go.Proofs.YtbmeebhcanknmaaDoor.XEvm
open Go.RowKit Go.Proofs.YtbmeebhcanknmaaDoorW.PrintWords Go.Proofs.YtbmeebhcanknmaaDoorW.PrintLast Go.Proofs.YtbmeebhcanknmaaDoorW.PrintMore
attribute [local go_sem] max2_int min2_int max_two min_two max_three min_three max_four min_four   -- for this text's walks alone
set_option linter.unusedVariables false
set_option linter.unusedSimpArgs false

-- EXTPART
-- IMPORT Derived.Test.YtbmeebhcanknmaaDoorXWords
-- IMPORT Derived.Outline
/-! ### envelope_Unite: function 75 (by hand) -/
namespace UniteX
open Go.Maps
theorem law : Keyed Tryd.prog 9 := string_keyed Tryd.underlying9
theorem zeroE (w : World) : (zeroValue 3).run Tryd.prog w = .ok (.int .i64 0) w := by kernel_rfl
theorem data_inj {a b : ByteArray} (h : a.data.toList = b.data.toList) : a = b := by
 obtain ⟨⟨x⟩⟩ := a; obtain ⟨⟨y⟩⟩ := b; simp at h; rw [h]
def idx (out : List S48) (a : ByteArray) : Nat := out.findIdx fun x => decide (x.f0 = a)
/-- One recipient more. -/
def step (out : List S48) (r : S48) : List S48 :=
 if idx out r.f0 < out.length then out.set (idx out r.f0) { f0 := r.f0, f1 := Go.bits .or .i64 (rd_T48 out (idx out r.f0)).f1 r.f1 } else out ++ [r]
/-- The map has each address of out, and its place. -/
def At (D : DataW Unit) (out : List S48) : Prop := ∀ a : ByteArray, Maps.has D (.string a.data.toList) = decide (idx out a < out.length) ∧ (idx out a < out.length → D.atKey (.string a.data.toList) (.lit (.int .i64 0)) = .lit (.int .i64 (idx out a : Int)))
theorem idx_le (out : List S48) (a : ByteArray) : idx out a ≤ out.length := List.findIdx_le_length
theorem idx_snoc (out : List S48) (r : S48) (a : ByteArray) : idx (out ++ [r]) a = if idx out a < out.length then idx out a else if r.f0 = a then out.length else out.length + 1 := by
 unfold idx
 rw [List.findIdx_append]
 split
 ·
  rfl
 ·
  by_cases h : r.f0 = a <;> simp [List.findIdx_cons, h, Nat.add_comm]
theorem at_nil : At (.map []) [] := fun a => by simp [Maps.has, idx]
theorem at_snoc {D : DataW Unit} {out : List S48} {r : S48} (h : At D out) (hD : IsMap D) (hn : ¬ idx out r.f0 < out.length) : At (D.put (.string r.f0.data.toList) (.lit (.int .i64 (out.length : Int)))) (out ++ [r]) := by
 intro a
 rw [idx_snoc]
 by_cases e : r.f0 = a
 ·
  subst e
  rw [if_neg hn, if_pos rfl]
  refine ⟨?_, fun _ => ?_⟩
  ·
   rw [has_put_same hD (by simp [WideAt.IsKeyLit])]; simp
  ·
   rw [atKey_put_same hD (by simp [WideAt.IsKeyLit])]
 ·
  have hk : (Lit.string a.data.toList) ≠ .string r.f0.data.toList := fun e2 => e (data_inj (by injection e2 with e2; exact e2.symm))
  rw [if_neg e]
  refine ⟨?_, fun hl => ?_⟩
  ·
   rw [has_put_other hk, (h a).1]
   split <;> rename_i hl
   ·
    simp [hl]; omega
   ·
    simp [hl]
  ·
   rw [atKey_put_other hk]
   split at hl
   ·
    rename_i h2; rw [if_pos h2]; exact (h a).2 h2
   ·
    rw [List.length_append, List.length_singleton] at hl; omega
theorem rd_idx {out : List S48} {a : ByteArray} (h : idx out a < out.length) : (rd_T48 out (idx out a)).f0 = a := by
 have := List.findIdx_getElem (p := fun x : S48 => decide (x.f0 = a)) (w := h)
 unfold rd_T48
 rw [Int.toNat_natCast, List.getD_eq_getElem?_getD, List.getElem?_eq_getElem h]
 exact of_decide_eq_true this
theorem rd_get {out : List S48} {k : Nat} (h : k < out.length) : rd_T48 out k = out[k] := by
 unfold rd_T48
 rw [Int.toNat_natCast, List.getD_eq_getElem?_getD, List.getElem?_eq_getElem h]
 rfl
theorem rd_some {out : List S48} {k : Nat} (h : k < out.length) : out[k]? = some (rd_T48 out k) := by rw [rd_get h, List.getElem?_eq_getElem h]
theorem idx_set {out : List S48} {k : Nat} {y : S48} (hk : k < out.length) (h : out[k].f0 = y.f0) (a : ByteArray) : idx (out.set k y) a = idx out a := by
 have hm : (out.set k y).map S48.f0 = out.map S48.f0 := by
  refine List.ext_getElem (by simp) fun i h1 h2 => ?_
  rw [List.getElem_map, List.getElem_map, List.getElem_set]
  split
  ·
   rename_i e; subst e; exact h.symm
  ·
   rfl
 have hg : ∀ l : List S48, idx l a = (l.map S48.f0).findIdx (fun x => decide (x = a)) := fun l => by unfold idx; rw [List.findIdx_map]; rfl
 rw [hg, hg, hm]
theorem at_set {D : DataW Unit} {out : List S48} {k : Nat} {y : S48} (h : At D out) (hk : k < out.length) (e : out[k].f0 = y.f0) : At D (out.set k y) := by
 intro a
 rw [idx_set hk e, List.length_set]
 exact h a
theorem step_len (out : List S48) (r : S48) : (step out r).length ≤ out.length + 1 := by unfold step; split <;> simp
def go : List S48 → List S48 → List S48
 | out, [] => out
 | out, r :: l => go (step out r) l
def okL (l : List S48) : Bool := decide (l.length * 24 ≤ 140737488355328) && l.all fun r => decide (r.f0.size ≤ 140737488351232)
end UniteX

def envelope_Unite.f (l0 : List S48) : Option (List S48) := if UniteX.okL l0 = true then some (UniteX.go [] l0) else none
set_option maxHeartbeats 2000000 in
set_option maxRecDepth 100000 in
theorem envelope_Unite.calls (A0 : Option Addr) (c0 : Nat) (l0 : List S48) (r : List S48) (w : World) (hr0 : Kd.C k48 w A0 l0.length l0) (hc0 : l0.length ≤ c0) (h : envelope_Unite.f l0 = some r) :
  Calls Tryd.prog 75 #[.slice A0 l0.length c0] w fun e w' => ∃ v0_, e = .returned v0_ ∧ Kd.R k48 48 w' w.heap.size (fun _ => True) v0_ r ∧ Below w.heap.size w w' := by
 have HR := Aside0.mk hr0
 unfold envelope_Unite.f at h
 have hok : UniteX.okL l0 = true := by false_or_by_contra; rename_i hn; rw [if_neg hn] at h; simp at h
 rw [if_pos hok] at h
 unfold UniteX.okL at hok
 rw [Bool.and_eq_true, List.all_eq_true] at hok
 have HLE := Aside0.mk (of_decide_eq_true hok.1)
 have HSZS := Aside0.mk hok.2
 have HGO0 := Aside0.mk (show UniteX.go [] l0 = r from Option.some.inj h)
 have hll : l0.length ≤ 9223372036854775807 := hr0.2.1
 have hmm := @run_makeMap Tryd.prog
 clear hr0 h hc0 hok
 go_enter Tryd.func75, Tryd.ntmps75
 go_wp2
 go_loopw [4, 12] (fun v p wr => ∃ (i : Nat) (out : List S48) (D : DataW Unit), p = .int .i64 i ∧ Aside0 (i ≤ l0.length) ∧ Aside0 (UniteX.go out (l0.drop i) = r) ∧ Aside0 (Kd.R k48 48 wr w.heap.size (fun k => k ≠ w.heap.size) v out)
   ∧ Aside0 (wr.ownsMap Tryd.prog 9 (plainElem Tryd.prog 3) w.heap.size i D) ∧ Aside0 (UniteX.At D out) ∧ Aside0 (out.length ≤ i) ∧ Aside0 (Below w.heap.size w wr)) (fun _ p _ => l0.length - (intOf p).toNat)
 case atStart => exact ⟨0, [], .map [], rfl, ⟨by omega⟩, HGO0, ⟨Kd.R_nil _ _ _ _ _⟩, ⟨by simpa using World.ownsMap_made w Tryd.prog 9 (plainElem (H := Unit) Tryd.prog 3)⟩, ⟨UniteX.at_nil⟩, ⟨by simp⟩, ⟨(Below.refl _ w).alloc (Nat.le_refl _) _⟩⟩
 case round =>
  clear HGO0
  obtain ⟨i, out, D, rfl, HI, HGO, HO, HM, HAT, HLEN, HB⟩ := hrel
  have hi := HI.out
  rcases Nat.lt_or_ge i l0.length with hlt | hge
  ·
   have hlt2 : decide ((i : Int) < l0.length) = true := by simp; omega
   obtain ⟨ad, e1, hx0, hx1⟩ := at_T48 HR.out i (by omega) (by omega)
   cases e1
   replace hx0 := (HB.out.cell (World.block_lt_of_cell? w _ hx0)).trans hx0
   replace hx1 := (HB.out.cell (World.block_lt_of_cell? w _ hx1)).trans hx1
   simp only [Int.toNat_natCast] at hx0 hx1
   have hMB : ∀ W, Below wr.heap.size wr W → W.ownsMap Tryd.prog 9 (plainElem Tryd.prog 3) w.heap.size i D := by
    intro W hW
    obtain ⟨es, clock, hb, F, hs, hD⟩ := HM.out
    exact ⟨es, clock, blk_below hb hW, F, hs, hD⟩
   have HMB := Aside0.mk hMB
   clear hMB
   have hel : rd_T48 l0 i = l0[i] := by
    unfold rd_T48
    rw [Int.toNat_natCast, List.getD_eq_getElem?_getD, List.getElem?_eq_getElem hlt]
    rfl
   have hgo := HGO.out
   rw [List.drop_eq_getElem_cons hlt, ← hel] at hgo
   unfold UniteX.go at hgo
   have HGO2 := Aside0.mk hgo
   clear hgo HGO
   have hsz := HSZS.out _ (List.getElem_mem hlt)
   rw [← hel] at hsz
   obtain ⟨a, ha⟩ : ∃ a, a = (rd_T48 l0 i).f0 := ⟨_, rfl⟩
   obtain ⟨f1, hf1⟩ : ∃ f1, f1 = (rd_T48 l0 i).f1 := ⟨_, rfl⟩
   rw [← ha] at hx0 hsz
   rw [← hf1] at hx1
   have HSZ := Aside0.mk (show a.size ≤ maxLen by have := of_decide_eq_true hsz; unfold maxLen; omega)
   have HEL := Aside0.mk (show rd_T48 l0 i = { f0 := a, f1 := f1 } by rw [ha, hf1])
   have hi63 : (i : Int) + 1 ≤ 9223372036854775807 := by omega
   clear ha hf1 hsz hel
   obtain ⟨hhas, hatk⟩ := HAT.out a
   obtain ⟨Ao, co, rfl, hco, hC⟩ := Kd.R_reads HO.out
   by_cases hfd : UniteX.idx out a < out.length
   ·
    rw [decide_eq_true hfd] at hhas
    replace hatk : ∀ c : Int, D.atKey (.string a.data.toList) (.lit (.int .i64 0)) = .lit (.int .i64 c) → c = (UniteX.idx out a : Int) := by
     intro c hc
     rw [hatk hfd] at hc
     injection hc with hc
     injection hc with _ hc
     exact hc.symm
    obtain ⟨k, hk⟩ : ∃ k, k = UniteX.idx out a := ⟨_, rfl⟩
    have hy := at_T48 hC (UniteX.idx out a : Int) (by omega) (by omega)
    obtain ⟨ad2, e2, hy0, hy1⟩ := hy
    cases e2
    simp only [Int.toNat_natCast] at hy0 hy1
    have hyf : wr.frozen? { block := (ad2.add (UniteX.idx out a * 2)).block, off := (ad2.add (UniteX.idx out a * 2)).off + 1 } = false := Go.Proofs.YtbmeebhcanknmaaDoor.XWords.R_frozen HO.out _ _
    have hq1 : (((UniteX.idx out a : Nat) : Int) < (out.length : Int)) = True := eq_true (by omega)
    clear hk
    go_wp2_with (first | ((with_reducible refine gate_dst (N := 6) rfl ?_); refine box_event ?hg (N := 6) ?hd (cs := #[.string ⟨#[]⟩, .int .i64 0]) (t := 48) ?hr ?_; (case hd => rfl); (case hg => rfl); (case hr => first | (go_simp; done) | (go_simp; rfl)); intro g hg w2 hbox hb2; have HGE := Aside0.mk (Nat.le_of_eq hg.symm); have HB2 := Aside0.mk hb2; have HBX := Aside0.mk hbox; have g0 := (blk_cell hbox 0).trans rfl; have g1 := (blk_cell hbox 1).trans rfl; have q0 := blk_frozen hbox 0; have q1 := blk_frozen hbox 1; clear hg hb2 hbox) | ((with_reducible refine gate_dst (N := 20) rfl ?_); have HW3 := Aside0.mk ((HB2.out.setCell (p := ⟨g, 0, none⟩) HGE.out (.string a)).setCell (p := ⟨g, 1, none⟩) HGE.out (.int .i64 f1)); have d3 := blk_set (blk_set HBX.out 0 (.string a)) 1 (.int .i64 f1); generalize ((w2.setCell { block := g, off := 0 } (Value.string a)).setCell { block := g, off := 1 } (Value.int IntKind.i64 f1)) = w3 at HW3 d3 ⊢; have dz0 := (blk_cell d3 0).trans rfl; have dz1 := (blk_cell d3 1).trans rfl; have HD3 := Aside0.mk d3; clear d3; refine wpList_lookup_own_ok_int _ rfl _ _ 119 rfl 9 3 .i64 UniteX.law Tryd.underlying119 Tryd.underlying3 (UniteX.zeroE _) w.heap.size i D rfl (HMB.out _ HW3.out) _ _ rfl (Go.WideMaps.keyOf_string_mk Tryd.underlying9 HSZ.out) ?_; intro c hat hwc; rw [hhas]; have hcc : c = (UniteX.idx out a : Int) := (hatk c hat); subst hcc; clear hat; have hy0' := (HW3.out.cell (World.block_lt_of_cell? wr _ hy0)).trans hy0; have hy1' := (HW3.out.cell (World.block_lt_of_cell? wr _ hy1)).trans hy1; have hyf' := (HW3.out.frozen (World.block_lt_of_cell? wr _ hy1)).trans hyf))
    go_region
    go_wp2
    have hR3 := Kd.R_below HO.out HW3.out
    have hb2 : (ad2.add (UniteX.idx out a * 2)).block ≠ w.heap.size := by rw [add_block]; exact hR3.1 _ rfl
    have hb3 : w.heap.size ≤ (ad2.add (UniteX.idx out a * 2)).block := by rw [add_block]; exact Kd.R_base hR3 _ rfl
    have hF := Go.Proofs.YtbmeebhcanknmaaDoor.XWords.R_field' hR3 (UniteX.idx out a) 1 (rd_T48 out (UniteX.idx out a)) { f0 := a, f1 := Go.bits .or .i64 (rd_T48 out (UniteX.idx out a)).f1 f1 } (.int .i64 (Go.bits .or .i64 (rd_T48 out (UniteX.idx out a)).f1 f1)) (UniteX.rd_some hfd) (by decide) (by
     intro W1 ok1 cs h
     obtain rfl := k48_openM h
     rw [UniteX.rd_idx hfd]
     exact k48_mkM _ _ _ _)
    refine ⟨⟨i + 1, _, D, rfl, ⟨by omega⟩, ⟨?_⟩, ⟨Kd.R_drew hF⟩, ⟨(((HMB.out _ HW3.out).setCell (a := { block := (ad2.add (UniteX.idx out a * 2)).block, off := (ad2.add (UniteX.idx out a * 2)).off + 1 }) (Ne.symm hb2) _).mono (by omega)).drew⟩, ⟨UniteX.at_set HAT.out hfd (by have := UniteX.rd_idx hfd; rwa [UniteX.rd_get hfd] at this)⟩, ⟨by rw [List.length_set]; have := HLEN.out; omega⟩, ⟨((HB.out.trans (HW3.out.mono HB.out.size)).setCell (p := { block := (ad2.add (UniteX.idx out a * 2)).block, off := (ad2.add (UniteX.idx out a * 2)).off + 1 }) hb3 _).drew⟩⟩, by simp [intOf]; omega⟩
    have := HGO2.out
    rw [HEL.out] at this
    unfold UniteX.step at this
    rwa [if_pos hfd] at this
   ·
    rw [decide_eq_false hfd] at hhas
    go_wp2_with (first | ((with_reducible refine gate_dst (N := 6) rfl ?_); refine box_event ?hg (N := 6) ?hd (cs := #[.string ⟨#[]⟩, .int .i64 0]) (t := 48) ?hr ?_; (case hd => rfl); (case hg => rfl); (case hr => first | (go_simp; done) | (go_simp; rfl)); intro g hg w2 hbox hb2; have HGE := Aside0.mk (Nat.le_of_eq hg.symm); have HB2 := Aside0.mk hb2; have HBX := Aside0.mk hbox; have g0 := (blk_cell hbox 0).trans rfl; have g1 := (blk_cell hbox 1).trans rfl; have q0 := blk_frozen hbox 0; have q1 := blk_frozen hbox 1; clear hg hb2 hbox) | ((with_reducible refine gate_dst (N := 20) rfl ?_); have HW3 := Aside0.mk ((HB2.out.setCell (p := ⟨g, 0, none⟩) HGE.out (.string a)).setCell (p := ⟨g, 1, none⟩) HGE.out (.int .i64 f1)); have d3 := blk_set (blk_set HBX.out 0 (.string a)) 1 (.int .i64 f1); generalize ((w2.setCell { block := g, off := 0 } (Value.string a)).setCell { block := g, off := 1 } (Value.int IntKind.i64 f1)) = w3 at HW3 d3 ⊢; have dz0 := (blk_cell d3 0).trans rfl; have dz1 := (blk_cell d3 1).trans rfl; have HD3 := Aside0.mk d3; clear d3; refine wpList_lookup_own_ok_int _ rfl _ _ 119 rfl 9 3 .i64 UniteX.law Tryd.underlying119 Tryd.underlying3 (UniteX.zeroE _) w.heap.size i D rfl (HMB.out _ HW3.out) _ _ rfl (Go.WideMaps.keyOf_string_mk Tryd.underlying9 HSZ.out) ?_; intro c hat hwc; rw [hhas]; clear hat) | (at_mapUpdate; (refine wpList_mapUpdate_own _ rfl _ _ _ 119 rfl 9 3 UniteX.law Tryd.underlying119 _ w.heap.size i D rfl (HMB.out _ HW3.out) (by unfold maxLen; omega) _ _ (.string a.data.toList) rfl rfl (Go.WideMaps.keyOf_string_mk Tryd.underlying9 HSZ.out) (.lit (.int .i64 (out.length : Int))) [] (plainElem_int Tryd.underlying3 (Go.WalkArith.wf_i64 (by have := HLEN.out; omega))) ?_); intro w5 hm5 hgr5; have HM5 := Aside0.mk hm5; have HGR := Aside0.mk hgr5; have d5 := (hgr5.block g (blk_lt HD3.out) (by simp; have := HGE.out; have := HB.out.size; have := HM.out.lt; omega)).trans HD3.out; have dy0 := (blk_cell d5 0).trans rfl; have dy1 := (blk_cell d5 1).trans rfl; clear hm5 hgr5 d5; have HO5 := Aside0.mk (Kd.R_grown (Kd.R_below HO.out HW3.out) HGR.out (fun k hk e => hk (by simpa using e))); have HB5 := Aside0.mk ((HB.out.trans (HW3.out.mono HB.out.size)).grown HGR.out (by have := HB.out.size; have := HW3.out.size; omega) (by intro k e; cases e; omega)); have HFR : Aside0 (∀ k, w5.heap.size ≤ k → k ≠ w.heap.size) := ⟨fun k hk e => by have := HM.out.lt; have := HW3.out.size; have := HGR.out.size; omega⟩) | ((with_reducible refine gate_dst (N := 42) rfl ?_); at_builtin; (refine Kd.R_append k48 (w0 := w) (W := w5) w.heap.size rfl (.tmp 39) (.tmp 41) 39 48 (.agg #[(.string ⟨#[]⟩), (.int .i64 0)]) 24 rfl Tryd.underlying39 info48 rfl (by decide) (by omega) (.slice Ao out.length co) out { f0 := a, f1 := f1 } [.string a, .int .i64 f1] (fun k => k ≠ w.heap.size) (fun _ => False) rfl rfl (k48_mkM _ _ _ _) (fun _ h => h.elim) (fun k hk => HFR.out k hk) HO5.out HB5.out HB5.out.size (by have := HLE.out; have := HLEN.out; omega) ?_); intro v6 w6 ho6 hb6 hg6 _; have HO6 := Aside0.mk ho6; have HB6 := Aside0.mk hb6; have HG6 := Aside0.mk hg6; clear ho6 hb6 hg6))
    refine ⟨⟨i + 1, _, _, rfl, ⟨by omega⟩, ⟨?_⟩, HO6, ⟨World.ownsMap.kept HM5.out HG6.out (fun e => HO.out.1 _ e.symm rfl)⟩, ⟨UniteX.at_snoc (r := { f0 := a, f1 := f1 }) HAT.out HM.out.isMap hfd⟩, ⟨by rw [List.length_append]; have := HLEN.out; simp; omega⟩, HB6⟩, by simp [intOf]; omega⟩
    have := HGO2.out
    rw [HEL.out] at this
    unfold UniteX.step at this
    rwa [if_neg hfd] at this
  ·
   have hlt2 : decide ((i : Int) < l0.length) = false := by simp; omega
   go_wp2
   refine bodyPost_ret (by simp [results, Tryd.results75, go_sem]; rfl) rfl ⟨_, rfl, Kd.R_mono (ok := fun k => k ≠ w.heap.size) ?_ (fun _ _ => trivial), HB.out⟩
   have := HGO.out
   rw [List.drop_eq_nil_of_le hge] at this
   unfold UniteX.go at this
   rw [← this]
   exact HO.out

end Go.Proofs.YtbmeebhcanknmaaDoor.XEvm
