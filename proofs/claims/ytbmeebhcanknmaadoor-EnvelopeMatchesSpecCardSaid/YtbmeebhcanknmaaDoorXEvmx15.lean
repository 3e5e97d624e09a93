-- Laid by a program of this session's (xprint.py) over the print's text; contracts proved by hand stand among them. Lean checks it.
import Derived.Test.YtbmeebhcanknmaaDoorXEvmx0
import Derived.Test.YtbmeebhcanknmaaDoorXEvmx11
import Derived.Test.YtbmeebhcanknmaaDoorXEvmx14
namespace Go.Proofs.YtbmeebhcanknmaaDoor.XEvm
open Go.RowKit Go.Proofs.YtbmeebhcanknmaaDoorW.PrintWords Go.Proofs.YtbmeebhcanknmaaDoorW.PrintLast Go.Proofs.YtbmeebhcanknmaaDoorW.PrintMore
attribute [local go_sem] max2_int min2_int max_two min_two max_three min_three max_four min_four   -- for this text's walks alone
set_option linter.unusedVariables false
set_option linter.unusedSimpArgs false

/-! ### slices.DeleteFunc over []posthouse/api.Recipient: function 71 (by hand) -/
set_option maxHeartbeats 4000000 in
set_option maxRecDepth 100000 in
theorem DeleteFuncX71.calls {α : Type} (g : FuncId) (caps : Array Value) (eg : ∀ args w, (callFunc g args).run Tryd.prog w = .ok (.enter g args) w) (rb : Option Nat) (Inv : World → Prop) (hInv : ∀ W W', Inv W → Below W.heap.size W W' → Inv W') (hRow : ∀ W W', Inv W → W.grownBy W' rb → Inv W') (p : α → Option Bool) (z z' : List (α × List Value))
  (hp : ∀ W x b, Inv W → x ∈ z → p x.1 = some b → Calls Tryd.prog g (#[Go.Proofs.YtbmeebhcanknmaaDoor.XWords.aggV x.2] ++ caps) W fun e W' => e = .returned (.bool b) ∧ Below W.heap.size W W')
  (v : Value) (w0 w : World) (base : Nat) (ok : Nat → Prop) (hR : (Kd.raw 2).R 48 w base ok v (z.map Prod.snd)) (hrb : v.ownBlock = rb) (hI : Inv w) (h : Go.Proofs.YtbmeebhcanknmaaDoor.XWords.keepO (fun x => p x.1) z = some z') (hB0 : Below base w0 w) (hbs : base ≤ w.heap.size) :
  Calls Tryd.prog 71 #[v, .func (.func g) #[] caps] w fun e w' => ∃ v', e = .returned v' ∧ (Kd.raw 2).R 48 w' base ok v' (z'.map Prod.snd) ∧ Inv w' ∧ w.grownBy w' rb ∧ Below base w0 w' ∧ (v'.ownBlock = rb) := by
 obtain ⟨k, hk⟩ := Go.Proofs.YtbmeebhcanknmaaDoor.XWords.keepO_idx h 0
 have hk2 : Go.Proofs.YtbmeebhcanknmaaDoor.XWords.idxO p 0 (z.map Prod.fst) = some k := by rw [Go.Proofs.YtbmeebhcanknmaaDoor.XWords.idxO_map]; exact hk
 obtain ⟨A, c, rfl, hc, hC⟩ := Kd.R_reads hR
 rw [List.length_map] at hC hc hR hrb ⊢
 have HR0 := Aside0.mk hR
 have HI0 := Aside0.mk hI
 have HP := Aside0.mk hp
 have HINV := Aside0.mk hInv
 have HROW := Aside0.mk hRow
 have HH := Aside0.mk h
 have HKX := Aside0.mk hk
 have HBB := Aside0.mk hB0
 have hll : z.length ≤ 9223372036854775807 := hC.2.1
 have hcall := IndexFuncX105.calls g caps eg Inv hInv p z hp A c w hC hI k hk2
 clear hp hInv hRow h hk hk2 hC hI hR hB0
 go_enter Tryd.func71, Tryd.ntmps71
 by_cases hm : k = -1
 ·
  subst hm
  go_wp2_with (go_at_call 105; refine hcall.mono ?_; rintro e w' ⟨rfl, hb1⟩)
  refine bodyPost_ret (v := .slice A z.length c) (by simp [results, Tryd.results71, go_sem]) rfl ⟨_, rfl, ?_, HINV.out _ _ HI0.out hb1, grown_of_below hb1 rb, HBB.out.trans (hb1.mono hbs), hrb⟩
  obtain rfl : z = z' := by have := HH.out; rw [Go.Proofs.YtbmeebhcanknmaaDoor.XWords.keepO_miss HKX.out] at this; simpa using this
  exact Kd.R_below HR0.out hb1
 ·
  obtain ⟨i0, rfl, hi0, hk0⟩ := Go.Proofs.YtbmeebhcanknmaaDoor.XWords.keepO_hit HKX.out hm HH.out
  have HK0 := Aside0.mk hk0
  have hi63 : (i0 : Int) + 1 ≤ 9223372036854775807 := by omega
  have hki : ((0 : Nat) : Int) + (i0 : Int) = (i0 : Int) := by omega
  rw [hki] at hcall
  have hm2 : ((i0 : Int) == -1) = false := by rw [beq_eq_false_iff_ne]; omega
  obtain ⟨ad, rfl, -⟩ := (Kd.R_reads' HR0.out).2.2.2.2 (by rw [List.length_map]; omega)
  clear hk0 hm hki HKX
  go_wp2_with (go_at_call 105; refine hcall.mono ?_; rintro e wa ⟨rfl, hb1⟩; have HBA := Aside0.mk hb1; clear hb1)
  go_loopw [5, 6] (fun s5 s6 wr => ∃ (i j : Nat) (rows : List (List Value)) (zk : List (α × List Value)), s5 = .int .i64 i ∧ s6 = .int .i64 j ∧ Aside0 (i < j ∧ j ≤ z.length) ∧ Aside0 (rows.length = z.length) ∧ Aside0 (rows.drop j = (z.drop j).map Prod.snd) ∧ Aside0 (rows.take i = zk.map Prod.snd)
   ∧ Aside0 ((Go.Proofs.YtbmeebhcanknmaaDoor.XWords.keepO (fun x => p x.1) (z.drop j)).map (zk ++ ·) = some z') ∧ Aside0 ((Kd.raw 2).R 48 wr base ok (.slice (some ad) z.length c) rows) ∧ Aside0 (Inv wr) ∧ Aside0 (w.grownBy wr rb) ∧ Aside0 (Below base w0 wr)) (fun _ s6 _ => z.length - (intOf s6).toNat)
  case atStart => exact ⟨i0, i0 + 1, z.map Prod.snd, z.take i0, rfl, rfl, ⟨by omega⟩, ⟨by simp⟩, ⟨by rw [List.map_drop]⟩, ⟨by rw [List.map_take]⟩, HK0, ⟨Kd.R_below HR0.out HBA.out⟩, ⟨HINV.out _ _ HI0.out HBA.out⟩, ⟨grown_of_below HBA.out rb⟩, ⟨HBB.out.trans (HBA.out.mono hbs)⟩⟩
  case round =>
   clear HK0 HR0 HI0 HBB HBA hi0 hi63 hm2 hcall
   obtain ⟨i, j, rows, zk, rfl, rfl, HIJ, HRL, HRD, HRT, HK, HR, HV, HGR, HB⟩ := hrel
   have hij := HIJ.out.1
   have hjn := HIJ.out.2
   rcases Nat.lt_or_ge j z.length with hlt | hge
   ·
    have hlt2 : decide ((j : Int) < z.length) = true := by simp; omega
    have hin : ((i : Int) < (z.length : Int)) = True := eq_true (by omega)
    have HILT := Aside0.mk (show i < rows.length by have := HRL.out; omega)
    have HJLT := Aside0.mk (show j < rows.length by have := HRL.out; omega)
    obtain ⟨ad8, had8, hrl, h1c, hcell⟩ := Go.Proofs.YtbmeebhcanknmaaDoor.XWords.raw_one (Kd.R_reads' HR.out).2.2 j HJLT.out
    obtain rfl : ad = ad8 := by injection had8
    have hrj : rows[j]'HJLT.out = z[j].2 := by
     have h1 := HRD.out
     rw [List.drop_eq_getElem_cons hlt, List.drop_eq_getElem_cons HJLT.out, List.map_cons] at h1
     exact (List.cons.inj h1).1
    rw [hrj] at hrl hcell h1c
    have hk := HK.out
    rw [List.drop_eq_getElem_cons hlt] at hk
    unfold Go.Proofs.YtbmeebhcanknmaaDoor.XWords.keepO at hk
    obtain ⟨zz, hk, hzz⟩ := Option.map_eq_some_iff.1 hk
    obtain ⟨b, hb, hk⟩ := Option.bind_eq_some_iff.1 hk
    obtain ⟨zy, hk, hzy⟩ := Option.map_eq_some_iff.1 hk
    obtain ⟨x, hx⟩ : ∃ x, x = z[j] := ⟨_, rfl⟩
    have HMEM := Aside0.mk (show x ∈ z by rw [hx]; exact List.getElem_mem hlt)
    rw [← hx] at hrl hcell hb hzy h1c
    have HRJ := Aside0.mk (hrj.trans (by rw [← hx]))
    obtain ⟨x1, x2⟩ := x
    dsimp only at hrl hcell hb h1c
    obtain ⟨c0, c1, rfl⟩ := Go.Proofs.YtbmeebhcanknmaaDoor.XWords.two_cells hrl
    have hx0 := hcell 0 _ rfl
    have hx1 := hcell 1 _ rfl
    rw [Nat.add_zero] at hx0
    rw [add_field _ _ 1 (by omega)] at hx1
    have HPB := Aside0.mk hb
    have HKY := Aside0.mk hk
    have HZY := Aside0.mk hzy
    have HZZ := Aside0.mk hzz
    have H1C := Aside0.mk h1c
    have hst0 : ∀ W a m, (store a c0 m).run Tryd.prog W = stored Tryd.prog W a c0 m := fun W a m => run_store Tryd.prog W a c0 m (H1C.out c0 (by simp))
    have hst1 : ∀ W a m, (store a c1 m).run Tryd.prog W = stored Tryd.prog W a c1 m := fun W a m => run_store Tryd.prog W a c1 m (H1C.out c1 (by simp))
    have hj63 : (j : Int) + 1 ≤ 9223372036854775807 := by omega
    have hi63 : (i : Int) + 1 ≤ 9223372036854775807 := by omega
    clear hcell hrl hb hk hzy hzz hx had8 hrj h1c
    cases b with
    | true =>
     go_wp2_with (first | ((with_reducible refine gate_dst (N := 7) rfl ?_); refine box_event ?hg (N := 7) ?hd (cs := #[(.string ⟨#[]⟩), (.int .i64 0)]) (t := 48) ?hr ?_; (case hd => rfl); (case hg => rfl); (case hr => first | (go_simp; done) | (go_simp; rfl)); intro gb hg w2 hbox hb2; have HGE := Aside0.mk (Nat.le_of_eq hg.symm); have HB2 := Aside0.mk hb2; have HBX := Aside0.mk hbox; have g0 := (blk_cell hbox 0).trans rfl; have q0 := blk_frozen hbox 0; have g1 := (blk_cell hbox 1).trans rfl; have q1 := blk_frozen hbox 1; clear hg hb2 hbox) | (go_at_fn g; have HW3 := Aside0.mk ((HB2.out.setCell (p := ⟨gb, 0, none⟩) HGE.out c0).setCell (p := ⟨gb, 1, none⟩) HGE.out c1); have d3 := blk_set (blk_set HBX.out 0 c0) 1 c1; generalize ((w2.setCell { block := gb, off := 0 } c0).setCell { block := gb, off := 1 } c1) = w3 at HW3 d3 ⊢; refine (HP.out w3 (x1, [c0, c1]) _ (HINV.out _ _ HV.out HW3.out) HMEM.out HPB.out).mono ?_; intro e w4 hh; obtain ⟨he, hb4⟩ := hh; cases he; have HW4 := Aside0.mk (HW3.out.trans (hb4.mono HW3.out.size)); have d4 := blk_below d3 hb4; have dy0 := (blk_cell d4 0).trans rfl; have dy1 := (blk_cell d4 1).trans rfl; have HV4 := Aside0.mk (HINV.out _ _ HV.out HW4.out); clear hb4 d4 d3))
     refine ⟨⟨i, j + 1, rows, zk, rfl, rfl, ⟨by omega⟩, HRL, ⟨?_⟩, HRT, ⟨?_⟩, ⟨Kd.R_below HR.out HW4.out⟩, HV4, ⟨HGR.out.trans (grown_of_below HW4.out rb)⟩, ⟨HB.out.trans (HW4.out.mono (by have := HGR.out.size; omega))⟩⟩, by simp [intOf]; omega⟩
     ·
      have h1 := HRD.out
      rw [List.drop_eq_getElem_cons hlt, List.drop_eq_getElem_cons HJLT.out, List.map_cons] at h1
      exact (List.cons.inj h1).2
     ·
      have h1 : zy = zz := by simpa using HZY.out
      rw [HKY.out, h1, Option.map_some, HZZ.out]
    | false =>
     go_wp2_with (first | ((with_reducible refine gate_dst (N := 7) rfl ?_); refine box_event ?hg (N := 7) ?hd (cs := #[(.string ⟨#[]⟩), (.int .i64 0)]) (t := 48) ?hr ?_; (case hd => rfl); (case hg => rfl); (case hr => first | (go_simp; done) | (go_simp; rfl)); intro gb hg w2 hbox hb2; have HGE := Aside0.mk (Nat.le_of_eq hg.symm); have HB2 := Aside0.mk hb2; have HBX := Aside0.mk hbox; have g0 := (blk_cell hbox 0).trans rfl; have q0 := blk_frozen hbox 0; have g1 := (blk_cell hbox 1).trans rfl; have q1 := blk_frozen hbox 1; clear hg hb2 hbox) | (go_at_fn g; have HW3 := Aside0.mk ((HB2.out.setCell (p := ⟨gb, 0, none⟩) HGE.out c0).setCell (p := ⟨gb, 1, none⟩) HGE.out c1); have d3 := blk_set (blk_set HBX.out 0 c0) 1 c1; generalize ((w2.setCell { block := gb, off := 0 } c0).setCell { block := gb, off := 1 } c1) = w3 at HW3 d3 ⊢; refine (HP.out w3 (x1, [c0, c1]) _ (HINV.out _ _ HV.out HW3.out) HMEM.out HPB.out).mono ?_; intro e w4 hh; obtain ⟨he, hb4⟩ := hh; cases he; have HW4 := Aside0.mk (HW3.out.trans (hb4.mono HW3.out.size)); have d4 := blk_below d3 hb4; have dy0 := (blk_cell d4 0).trans rfl; have dy1 := (blk_cell d4 1).trans rfl; have HV4 := Aside0.mk (HINV.out _ _ HV.out HW4.out); have HR4 := Aside0.mk (Kd.R_below HR.out HW4.out); obtain ⟨ad9, had9, hrl2, -, hcell2⟩ := Go.Proofs.YtbmeebhcanknmaaDoor.XWords.raw_one (Kd.R_reads' HR4.out).2.2 i HILT.out; obtain rfl : ad = ad9 := (by injection had9); obtain ⟨e0, e1, he01⟩ : ∃ e0 e1, rows[i]'HILT.out = [e0, e1] := Go.Proofs.YtbmeebhcanknmaaDoor.XWords.two_cells hrl2; rw [he01] at hcell2; have hz0 := hcell2 0 _ rfl; have hz1 := hcell2 1 _ rfl; rw [Nat.add_zero] at hz0; rw [add_field _ _ 1 (by omega)] at hz1; have hf0 := Go.Proofs.YtbmeebhcanknmaaDoor.XWords.R_frozen0 HR4.out (i * 2); have hf1 := Go.Proofs.YtbmeebhcanknmaaDoor.XWords.R_frozen HR4.out (i * 2) 1; have HE := Aside0.mk he01; have hs0 := Go.Proofs.YtbmeebhcanknmaaDoor.XWords.raw_set0 HR4.out i _ c0 (by rw [List.getElem?_eq_getElem HILT.out, he01]) (by omega) (H1C.out c0 (by simp)); obtain ⟨y1, hy1⟩ := Go.Proofs.YtbmeebhcanknmaaDoor.XWords.cell_ex hs0 i 1 (by simp only [List.length_set]; exact HILT.out) (by omega); have hs1 := Go.Proofs.YtbmeebhcanknmaaDoor.XWords.raw_set hs0 i 1 _ c1 (Go.Proofs.YtbmeebhcanknmaaDoor.XWords.get_set (by first | exact HILT.out | (simp only [List.length_set]; exact HILT.out))) (by omega) (H1C.out c1 (by simp)); have HS := Aside0.mk hs1; clear hs0 hs1; clear he01 had9; clear hcell2 hrl2; clear hb4 d4 d3))
     have hg2 := (Go.Proofs.YtbmeebhcanknmaaDoor.XWords.grown_add w4 ad (i * 2) c0).trans (Go.Proofs.YtbmeebhcanknmaaDoor.XWords.grown_off _ ad (i * 2) ((ad.add (i * 2)).off + 1) c1)
     have hbo : base ≤ ad.block := Kd.R_base HR.out _ rfl
     have hrbe : rb = some ad.block := hrb.symm
     have hb4 := HB.out.trans (HW4.out.mono (by have := HGR.out.size; omega))
     refine ⟨⟨i + 1, j + 1, _, zk ++ [(x1, [c0, c1])], rfl, rfl, ⟨by omega⟩, ⟨by simp only [List.length_set]; exact HRL.out⟩, ⟨?_⟩, ⟨?_⟩, ⟨?_⟩, HS, ⟨HROW.out _ _ HV4.out (hrbe ▸ hg2)⟩, ⟨(HGR.out.trans (grown_of_below HW4.out rb)).trans (hrbe ▸ hg2)⟩, ⟨Go.Proofs.YtbmeebhcanknmaaDoor.XWords.below_of_grown hb4 hg2 (by have := HGR.out.size; have := HW4.out.size; omega) hbo⟩⟩, by simp [intOf]; omega⟩
     ·
      have h1 := HRD.out
      rw [List.drop_eq_getElem_cons hlt, List.drop_eq_getElem_cons HJLT.out, List.map_cons] at h1
      rw [List.drop_set_of_lt (by omega), List.drop_set_of_lt (by omega)]
      exact (List.cons.inj h1).2
     ·
      simp only [List.set_set]
      rw [Go.Proofs.YtbmeebhcanknmaaDoor.XWords.take_set_succ HILT.out, HRT.out, List.map_append]
      rfl
     ·
      have h1 : (x1, [c0, c1]) :: zy = zz := by simpa using HZY.out
      have h2 := HZZ.out
      rw [← h1] at h2
      rw [HKY.out, Option.map_some, ← h2]
      simp
   ·
    have hlt2 : decide ((j : Int) < z.length) = false := by simp; omega
    obtain ⟨inf, hi0, _, hsz, _⟩ := info_parts info48
    have hcut1 : ∀ W, (Instr.slice 39 (.slice (some ad) z.length c) (some (.int .i64 i)) none none).run Tryd.prog W = .ok (.slice (some (ad.add (i * 2))) (z.length - i) (c - i)) W := by
     intro W
     have := cut_from (P := Tryd.prog) 39 48 .i64 Tryd.underlying39 hi0 2 hsz (some ad) z.length c i (by omega) (by omega) W
     rw [Int.toNat_natCast, if_neg (by omega)] at this
     exact this
    have hcut2 : ∀ W, (Instr.slice 39 (.slice (some ad) z.length c) none (some (.int .i64 i)) none).run Tryd.prog W = .ok (.slice (some ad) i c) W := by
     intro W
     have := cut_to (P := Tryd.prog) 39 48 .i64 Tryd.underlying39 hi0 (some ad) z.length c i (by omega) (by omega) hc W
     rwa [Int.toNat_natCast] at this
    obtain ⟨w1, hcl, hR1, hG1⟩ := Go.Proofs.YtbmeebhcanknmaaDoor.XWords.clear_raw (t := 39) (i := i) HR.out (by omega) Tryd.underlying39 (z := .agg #[(.string ⟨#[]⟩), (.int .i64 0)]) (fun W => by kernel_rfl) rfl (by decide)
    have HR1 := Aside0.mk hR1
    have HG1 := Aside0.mk hG1
    clear hR1 hG1 hi0 hsz
    go_wp2
    have hrbe : rb = some ad.block := hrb.symm
    have hbo : base ≤ ad.block := Kd.R_base HR.out _ rfl
    have hzk : zk = z' := by
     have := HK.out
     rw [List.drop_eq_nil_of_le hge] at this
     simpa [Go.Proofs.YtbmeebhcanknmaaDoor.XWords.keepO] using this
    have hRT := HRT.out
    rw [hzk] at hRT
    refine bodyPost_ret (v := .slice (some ad) i c) (by simp [results, Tryd.results71, go_sem]) rfl ⟨_, rfl, hRT ▸ HR1.out, HROW.out _ _ HV.out (hrbe ▸ HG1.out), HGR.out.trans (hrbe ▸ HG1.out), Go.Proofs.YtbmeebhcanknmaaDoor.XWords.below_of_grown HB.out HG1.out (by have := HGR.out.size; omega) hbo, hrb⟩

end Go.Proofs.YtbmeebhcanknmaaDoor.XEvm
