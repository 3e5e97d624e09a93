-- Laid by a program of this session's (xprint.py) over the print's text; contracts proved by hand stand among them. Lean checks it.
import Derived.Test.YtbmeebhcanknmaaDoorXShelf
import Derived.Lib.OthersKept
import Derived.Lib.IndexAny
import Derived.Laws.RangeAny
import Derived.Test.YtbmeebhcanknmaaDoorXRepx0
import Derived.Test.YtbmeebhcanknmaaDoorXRepx3
namespace Go.Proofs.YtbmeebhcanknmaaDoor.XRep
open Go.RowKit Go.Proofs.YtbmeebhcanknmaaDoorW.PrintWords Go.Proofs.YtbmeebhcanknmaaDoorW.PrintLast Go.Proofs.YtbmeebhcanknmaaDoorW.PrintMore
attribute [local go_sem] max2_int min2_int max_two min_two max_three min_three max_four min_four   -- for this text's walks alone
set_option linter.unusedVariables false
set_option linter.unusedSimpArgs false

-- EXTPART
-- IMPORT Derived.Test.YtbmeebhcanknmaaDoorXShelf
-- IMPORT Derived.Lib.OthersKept
-- IMPORT Derived.Lib.IndexAny
-- IMPORT Derived.Laws.RangeAny
/-! ### strings_IndexAny: function 115 (by hand; what is looked for is ASCII) -/
namespace IndexAnyX
theorem get_some (s : ByteArray) (i : Nat) (b : UInt8) (h : s.data.toList[i]? = some b) : s.get! i = b ∧ i < s.size := by
  have hi : i < s.size := by
    have := (List.getElem?_eq_some_iff.1 h).1
    simpa using this
  refine ⟨?_, hi⟩
  have h2 := Lib.data_getElem? s i hi
  rw [h] at h2
  have := get_at s i hi
  rw [Nat.add_zero] at this
  rw [this]
  exact (Option.some.inj h2).symm
/-- What a rune beyond ASCII takes up is beyond ASCII. -/
theorem span (s : ByteArray) (i : Nat) (h : i < s.size) (ha : 128 ≤ (s[i]'h).toNat) : ∀ j b, i ≤ j → j < i + (Utf8.decode s i).2 → s.data.toList[j]? = some b → 128 ≤ b.toNat := by
  intro j b h1 h2 hb
  obtain ⟨hg, hj⟩ := get_some s j b hb
  have h0 := get_at s i h
  have hn : ¬ (s[i]'h).toNat < 128 := by omega
  obtain ⟨d, rfl⟩ : ∃ d, j = i + d := ⟨j - i, by omega⟩
  have hd : d < (Utf8.decode s i).2 := by omega
  have z : d = 0 → 128 ≤ b.toNat := by
    rintro rfl
    rw [← hg, h0]
    exact ha
  simp only [Utf8.decode, h0, hn, if_false, Bool.and_eq_true, beq_iff_eq, decide_eq_true_iff] at hd
  have c1 : d = 1 → ((s.get! (i + 1)).toNat / 64 = 2) → 128 ≤ b.toNat := by
    rintro rfl hc; rw [← hg]; omega
  have c2 : d = 2 → ((s.get! (i + 2)).toNat / 64 = 2) → 128 ≤ b.toNat := by
    rintro rfl hc; rw [← hg]; omega
  have c3 : d = 3 → ((s.get! (i + 3)).toNat / 64 = 2) → 128 ≤ b.toNat := by
    rintro rfl hc; rw [← hg]; omega
  split at hd
  · rename_i hc
    split at hd
    · rcases (show d = 0 ∨ d = 1 by simp only at hd; omega) with e | e
      · exact z e
      · exact c1 e hc.2.2
    · exact z (by simp only at hd; omega)
  · split at hd
    · rename_i hc
      split at hd
      · rcases (show d = 0 ∨ d = 1 ∨ d = 2 by simp only at hd; omega) with e | e | e
        · exact z e
        · exact c1 e hc.1.2.2
        · exact c2 e hc.2.2
      · exact z (by simp only at hd; omega)
    · split at hd
      · rename_i hc
        split at hd
        · rcases (show d = 0 ∨ d = 1 ∨ d = 2 ∨ d = 3 by simp only at hd; omega) with e | e | e | e
          · exact z e
          · exact c1 e hc.1.1.2.2
          · exact c2 e hc.1.2.2
          · exact c3 e hc.2.2
        · exact z (by simp only at hd; omega)
      · exact z (by simp only at hd; omega)
theorem no_high {s chars : ByteArray} (hc : XAscii.asc chars = true) {i : Nat} (h : i < s.size) (ha : 128 ≤ (s[i]'h).toNat) (hno : Lib.NoAny s.data.toList chars.data.toList i) : Lib.NoAny s.data.toList chars.data.toList (i + (Utf8.decode s i).2) := by
  intro j b hj hb
  by_cases hji : j < i
  · exact hno j b hji hb
  · have := span s i h ha j b (by omega) hj hb
    cases hcon : chars.data.toList.contains b with
    | false => rfl
    | true =>
      have := XAscii.asc_mem hc b (by simpa using hcon)
      omega
end IndexAnyX
set_option maxHeartbeats 8000000 in
set_option maxRecDepth 1000000 in
theorem strings_IndexAny.long (s chars : ByteArray) (w : World) (h2 : 2 ≤ chars.size) (h8 : 8 < s.size) (hs : s.size ≤ 140737488351232) (hcs : chars.size < 4294967281) (hascii : ∀ (j : Nat) b, chars.data.toList[j]? = some b → b.toNat < 128) :
    Calls Tryd.prog 115 #[.string s, .string chars] w fun e w' => e = .returned (.int .i64 (Lib.indexAny s.data.toList chars.data.toList)) ∧ w' = ((w.alloc (.cells (Lib.setCells chars.data.toList) 150)).alloc (.cells (Lib.setCells chars.data.toList) 150)) := by
  have hM := Tryd.strings_makeASCIISet (fun w => by kernel_rfl) chars w hcs hascii
  clear hascii
  have hemp : chars.toList.isEmpty = false := by
    rw [Lib.toList_data]
    cases h : chars.data.toList with
    | nil => have := Lib.size_eq chars; rw [h, List.length_nil] at this; omega
    | cons _ _ => rfl
  have hn1 : ((chars.size : Int) == 1) = false := beq_eq_false_iff_ne.2 (by omega)
  have h8z : decide ((8 : Int) < (s.size : Int)) = true := decide_eq_true (by omega)
  have hsc : (storeCells ⟨w.heap.size + 1, 0, none⟩ (Lib.setCells chars.data.toList).toList 0).run Tryd.prog ((w.alloc (.cells (Lib.setCells chars.data.toList) 150)).alloc (.cells (Array.replicate 256 (.bool false)) 150)) = .ok () ((w.alloc (.cells (Lib.setCells chars.data.toList) 150)).alloc (.cells (Lib.setCells chars.data.toList) 150)) := by
    have := run_storeCells_new (P := Tryd.prog) (w.alloc (.cells (Lib.setCells chars.data.toList) 150)) 150 (Array.replicate 256 (.bool false)) (Lib.setCells chars.data.toList) (by rw [Lib.setCells_size]; kernel_rfl) (by rw [Lib.setCells_size, Array.size_replicate]) (Lib.setCells_one _)
    simpa using this
  have hsz := Lib.setCells_size chars.data.toList
  have hcellAt : ∀ x : UInt8, ((w.alloc (.cells (Lib.setCells chars.data.toList) 150)).alloc (.cells (Lib.setCells chars.data.toList) 150)).cell? ⟨w.heap.size + 1, x.toNat, none⟩ = some (.bool (chars.data.toList.contains x)) := fun x => by
    rw [World.cell?_alloc_at _ _ _ _ (by simp), Lib.setCells_at]
  have HC := Aside0.mk hcellAt
  have hz150 : ∀ w, (zeroValue 150).run Tryd.prog w = .ok (.agg (Array.replicate 256 (.bool false))) w := fun w => by kernel_rfl
  clear hcellAt
  have HS := Aside0.mk hs
  clear hs
  go_enter Tryd.func115, Tryd.ntmps115
  go_wp2_with (first
    | (go_at_call 131; (with_reducible refine (Tryd.strings_shouldUseASCIISet _ _).mono ?_); rintro e w' ⟨rfl, hw⟩; rw [hw, h8z])
    | (go_at_call 132; (with_reducible refine hM.mono ?_); rintro e w' ⟨rfl, hw⟩; rw [hw]))
  clear hM hsc
  go_loopg [8] s.size (fun g s8 wx => ∃ i : Nat, i + g = s.size ∧ s8 = .int .i64 i ∧ wx = ((w.alloc (.cells (Lib.setCells chars.data.toList) 150)).alloc (.cells (Lib.setCells chars.data.toList) 150)) ∧ Lib.NoAny s.data.toList chars.data.toList i)
  case atStart => exact ⟨0, by omega, rfl, rfl, Lib.NoAny.zero _ _⟩
  case round =>
    obtain ⟨i, hig, rfl, rfl, hno⟩ := hrel
    have HN := Aside0.mk hno
    clear hno
    cases gk with
    | zero =>
      obtain rfl : i = s.size := by omega
      have hiz : ¬ ((s.size : Int) < (s.size : Int)) := by omega
      go_wp2
      go_ret
      exact ⟨by rw [Lib.indexAny_none (by rw [← Lib.size_eq]; exact HN.out)]; rfl, rfl⟩
    | succ g =>
      have hi : i < s.size := by omega
      have hiz : (i : Int) < (s.size : Int) := by omega
      have pw : wrap64 ((i : Int) + 1) = (i : Int) + 1 := by have := HS.out; unfold wrap64; omega
      obtain ⟨x, hx⟩ : ∃ x : UInt8, s[i]'hi = x := ⟨_, rfl⟩
      have hxl : s.data.toList[i]? = some x := by rw [← hx]; exact Lib.data_getElem? s i hi
      have Hx := Aside0.mk hxl
      clear hxl
      have hcx := HC.out x
      cases hin : chars.data.toList.contains x <;> rw [hin] at hcx
      · go_wp2_with (go_at_call 133; (with_reducible refine (Tryd.asciiSet_contains _ x _ _ hcx).mono ?_); rintro e w' ⟨rfl, hw⟩; rw [hw])
        go_roundg g
        case measure => omega
        case rel => exact ⟨i + 1, by omega, by first | rfl | (simp [pw]; done) | (rw [pw]; simp), rfl, HN.out.succ Hx.out hin⟩
      · go_wp2_with (go_at_call 133; (with_reducible refine (Tryd.asciiSet_contains _ x _ _ hcx).mono ?_); rintro e w' ⟨rfl, hw⟩; rw [hw])
        go_ret
        exact ⟨by rw [Lib.indexAny_hit HN.out Hx.out hin]; rfl, rfl⟩
def strings_IndexAny.f (a0 : ByteArray) (a1 : ByteArray) : Option Int := if XAscii.asc a1 = true ∧ a0.size ≤ 140737488351232 ∧ a1.size < 4294967281 then some (Lib.indexAny a0.data.toList a1.data.toList) else none
set_option maxHeartbeats 4000000 in
set_option maxRecDepth 100000 in
theorem strings_IndexAny.calls (a0 : ByteArray) (a1 : ByteArray) (r : Int) (w : World) (h : strings_IndexAny.f a0 a1 = some r) :
    Calls Tryd.prog 115 #[.string a0, .string a1] w fun e w' => e = .returned (.int .i64 r) ∧ Below w.heap.size w w' := by
  unfold strings_IndexAny.f at h
  by_cases h1 : XAscii.asc a1 = true ∧ a0.size ≤ 140737488351232 ∧ a1.size < 4294967281
  · rw [if_pos h1] at h
    obtain rfl := Option.some.inj h
    obtain ⟨hA, hs0, hs1⟩ := h1
    clear h
    rcases Nat.lt_or_ge a1.size 1 with hz | hz
    · refine (Tryd.strings_IndexAny_none a0 a1 w (by omega)).mono fun e w' ⟨he, hw⟩ => ⟨he, by rw [hw]; exact Below.refl _ _⟩
    rcases Nat.lt_or_ge a1.size 2 with hy | hy
    · refine (Tryd.strings_IndexAny_one a0 a1 w (by omega) (XAscii.asc_some hA)).mono fun e w' ⟨he, hw⟩ => ⟨he, by rw [hw]; exact Below.refl _ _⟩
    rcases Nat.lt_or_ge 8 a0.size with hl | hl
    · refine (strings_IndexAny.long a0 a1 w hy hl hs0 hs1 (XAscii.asc_some hA)).mono fun e w' ⟨he, hw⟩ => ⟨he, by rw [hw]; exact below_alloc (below_alloc (Below.refl _ _) _) _⟩
    have HA := Aside0.mk hA
    have hemp : a1.toList.isEmpty = false := by
      rw [Lib.toList_data]
      cases h : a1.data.toList with
      | nil => have := Lib.size_eq a1; rw [h, List.length_nil] at this; omega
      | cons _ _ => rfl
    have hn1 : ((a1.size : Int) == 1) = false := beq_eq_false_iff_ne.2 (by omega)
    have h8z : decide ((8 : Int) < (a0.size : Int)) = false := decide_eq_false (by omega)
    have HS1 := Aside0.mk hs1
    clear hA hs0 hs1 hz hy
    go_enter Tryd.func115, Tryd.ntmps115
    go_wp2_with (go_at_call 131; (with_reducible refine (Tryd.strings_shouldUseASCIISet _ _).mono ?_); rintro e w' ⟨rfl, hw⟩; rw [hw, h8z])
    go_loopg [9, 10] a0.size (fun g _ _ wx => ∃ i : Nat, a0.size ≤ i + g ∧ wx.heap[w.heap.size]? = some (.stringIter a0 i) ∧ Aside0 (Below w.heap.size w wx) ∧ Aside0 (Lib.NoAny a0.data.toList a1.data.toList i))
    case atStart => exact ⟨0, by omega, World.iter_heap _ _ _, ⟨below_alloc (Below.refl _ _) _⟩, ⟨Lib.NoAny.zero _ _⟩⟩
    case round =>
      obtain ⟨i, hig, hit, HB, HN⟩ := hrel
      by_cases hi : i < a0.size
      · obtain ⟨x, hx⟩ : ∃ x : UInt8, a0[i]'hi = x := ⟨_, rfl⟩
        have hxl : a0.data.toList[i]? = some x := by rw [← hx]; exact Lib.data_getElem? a0 i hi
        have Hx := Aside0.mk hxl
        by_cases hx128 : x.toNat < 128
        · have hnx := fun ty => Lib.run_next_ascii_at (P := Tryd.prog) wr w.heap.size a0 i ty hit hi (by rw [hx]; exact hx128)
          rw [hx] at hnx
          have HI := Aside0.mk hit
          clear hxl hx hit
          have hcon := Lib.contains_iff_indexByte a1.data.toList x
          have hback : ((x.toNat : Int)).toNat.toUInt8 = x := by simp
          have HW := Aside0.mk (Lib.below_iterAt HB.out (Nat.le_refl _) a0 (i + 1))
          have hf : strings_IndexRune.f a1 (x.toNat : Int) = some (Lib.indexByte a1.data.toList x) := by
            unfold strings_IndexRune.f
            rw [if_pos (by omega), hback]
          have HF := Aside0.mk hf
          have HI2 := Aside0.mk (Lib.iterAt_heap wr w.heap.size a0 i (i + 1) HI.out)
          clear hf hback
          cases hin : a1.data.toList.contains x
          · rw [hin] at hcon
            have hlt : decide ((0 : Int) ≤ Lib.indexByte a1.data.toList x) = false := hcon.symm
            clear hcon
            go_wp2_with (first | (go_at_call 130; (with_reducible refine (strings_IndexRune.calls _ _ _ _ HF.out).mono ?_); rintro e w2 ⟨rfl, hb2⟩; have HB2 := Aside0.mk hb2; clear hb2))
            go_roundg (a0.size - (i + 1))
            case measure => omega
            case rel => exact ⟨i + 1, by omega, by rw [HB2.out.block _ (by rw [Lib.iterAt_size]; exact (Array.getElem?_eq_some_iff.1 HI.out).1)]; exact HI2.out, ⟨HW.out.trans (HB2.out.mono HW.out.size)⟩, ⟨HN.out.succ Hx.out hin⟩⟩
          · rw [hin] at hcon
            have hge : decide ((0 : Int) ≤ Lib.indexByte a1.data.toList x) = true := hcon.symm
            clear hcon
            go_wp2_with (first | (go_at_call 130; (with_reducible refine (strings_IndexRune.calls _ _ _ _ HF.out).mono ?_); rintro e w2 ⟨rfl, hb2⟩; have HB2 := Aside0.mk hb2; clear hb2))
            go_ret
            exact ⟨by rw [Lib.indexAny_hit HN.out Hx.out hin]; rfl, HW.out.trans (HB2.out.mono HW.out.size)⟩
        · obtain ⟨hd1, hd2⟩ := decode_high a0 i hi (by rw [hx]; omega)
          have hnx := fun ty => Lib.run_next_any_at (P := Tryd.prog) wr w.heap.size a0 i ty hit hi
          have HNO := Aside0.mk (IndexAnyX.no_high HA.out hi (by rw [hx]; omega) HN.out)
          obtain ⟨c, hc⟩ : ∃ c, (Utf8.decode a0 i).1 = c := ⟨_, rfl⟩
          obtain ⟨k, hk⟩ : ∃ k, (Utf8.decode a0 i).2 = k := ⟨_, rfl⟩
          rw [hc] at hd1
          rw [hk] at hd2
          simp only [hc, hk] at hnx
          rw [hk] at HNO
          have HI := Aside0.mk hit
          have HW := Aside0.mk (Lib.below_iterAt HB.out (Nat.le_refl _) a0 (i + k))
          have HI2 := Aside0.mk (Lib.iterAt_heap wr w.heap.size a0 i (i + k) HI.out)
          have hf : strings_IndexRune.f a1 (c : Int) = some (-1) := by
            unfold strings_IndexRune.f
            rw [if_neg (by omega), if_pos ⟨HA.out, by omega, by have := HS1.out; omega⟩]
          have HF := Aside0.mk hf
          have HD := Aside0.mk hd2
          clear hf hxl hx hit hc hk hd1 hd2
          go_wp2_with (first | (go_at_call 130; (with_reducible refine (strings_IndexRune.calls _ _ _ _ HF.out).mono ?_); rintro e w2 ⟨rfl, hb2⟩; have HB2 := Aside0.mk hb2; clear hb2))
          have hd2 := HD.out
          go_roundg (a0.size - (i + k))
          case measure => omega
          case rel => exact ⟨i + k, by omega, by rw [HB2.out.block _ (by rw [Lib.iterAt_size]; exact (Array.getElem?_eq_some_iff.1 HI.out).1)]; exact HI2.out, ⟨HW.out.trans (HB2.out.mono HW.out.size)⟩, HNO⟩
      · have hnx := fun ty => Lib.run_next_end_at (P := Tryd.prog) wr w.heap.size a0 i ty hit hi
        go_wp2
        go_ret
        exact ⟨by rw [Lib.indexAny_none (by rw [← Lib.size_eq]; exact fun j b hj hb => HN.out j b (by omega) hb)]; rfl, HB.out⟩
  · rw [if_neg h1] at h
    cases h

end Go.Proofs.YtbmeebhcanknmaaDoor.XRep
