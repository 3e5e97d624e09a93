-- Laid by a program of this session's (xprint.py) over the print's text; contracts proved by hand stand among them. Lean checks it.
import Derived.Test.YtbmeebhcanknmaaDoorXShelf
import Derived.Test.YtbmeebhcanknmaaDoorVRepa
import Derived.Laws.Runes
import Derived.Laws.RangeAny
import Derived.WalkMore
import Derived.BigQuiet
import Derived.Deep.RegionWith
import Derived.Lib.IndexLaws
import Derived.Test.YtbmeebhcanknmaaDoorXRepx0
namespace Go.Proofs.YtbmeebhcanknmaaDoor.XRep
open Go.RowKit Go.Proofs.YtbmeebhcanknmaaDoorW.PrintWords Go.Proofs.YtbmeebhcanknmaaDoorW.PrintLast Go.Proofs.YtbmeebhcanknmaaDoorW.PrintMore
attribute [local go_sem] max2_int min2_int max_two min_two max_three min_three max_four min_four   -- for this text's walks alone
set_option linter.unusedVariables false
set_option linter.unusedSimpArgs false

-- EXTPART
-- IMPORT Derived.Test.YtbmeebhcanknmaaDoorXShelf
-- IMPORT Derived.Test.YtbmeebhcanknmaaDoorXAscii
-- IMPORT Derived.Laws.Runes
-- IMPORT Derived.Laws.RangeAny
-- IMPORT Derived.WalkMore
-- IMPORT Derived.BigQuiet
-- IMPORT Derived.Deep.RegionWith
-- IMPORT Derived.Lib.IndexLaws
/-! ### strings_IndexRune: function 130 (by hand; ASCII, or beyond ASCII in a text that is ASCII) -/
def strings_IndexRune.f (a0 : ByteArray) (a1 : Int) : Option Int := if 0 ≤ a1 ∧ a1 < 128 then some (Lib.indexByte a0.data.toList a1.toNat.toUInt8) else if XAscii.asc a0 = true ∧ 128 ≤ a1 ∧ a0.size ≤ 140737488351232 then some (-1) else none
set_option maxHeartbeats 4000000 in
set_option maxRecDepth 100000 in
theorem strings_IndexRune.calls (a0 : ByteArray) (a1 : Int) (r : Int) (w : World) (h : strings_IndexRune.f a0 a1 = some r) :
    Calls Tryd.prog 130 #[.string a0, .int .i32 a1] w fun e w' => e = .returned (.int .i64 r) ∧ Below w.heap.size w w' := by
  unfold strings_IndexRune.f at h
  by_cases h1 : 0 ≤ a1 ∧ a1 < 128
  · rw [if_pos h1] at h
    refine (Tryd.strings_IndexRune_ascii a0 a1 w h1.1 h1.2).mono fun e w' ⟨he, hw⟩ => ⟨he.trans (by rw [Option.some.inj h]), by rw [hw]; exact Below.refl _ _⟩
  · rw [if_neg h1] at h
    by_cases h2 : XAscii.asc a0 = true ∧ 128 ≤ a1 ∧ a0.size ≤ 140737488351232
    · rw [if_pos h2] at h
      obtain rfl := Option.some.inj h
      obtain ⟨hA, h128, hsz⟩ := h2
      have HA := Aside0.mk hA
      have H128 := Aside0.mk h128
      have HSZ := Aside0.mk hsz
      have d1 : decide (a1 < 128) = false := decide_eq_false (by omega)
      have d0 : decide (0 ≤ a1) = true := decide_eq_true (by omega)
      clear h h1 hA
      by_cases he : a1 = 65533
      · have e1 : (a1 == 65533) = true := by rw [he]; rfl
        clear h128 hsz
        go_enter Tryd.func130, Tryd.ntmps130
        go_wp2
        go_loopg [5, 6] a0.size (fun g _ _ wx => ∃ i : Nat, i + g = a0.size ∧ wx = w.iter a0 i)
        case atStart => exact ⟨0, by omega, rfl⟩
        case round =>
          obtain ⟨i, hig, rfl⟩ := hrel
          cases gk with
          | zero =>
            obtain rfl : i = a0.size := by omega
            have hnx := fun ty => run_next_end (P := Tryd.prog) w a0 a0.size ty (Nat.lt_irrefl _)
            go_wp2
            go_ret
            exact ⟨rfl, below_alloc (Below.refl _ _) _⟩
          | succ g =>
            have hi : i < a0.size := by omega
            obtain ⟨x, hx⟩ : ∃ x : UInt8, a0[i]'hi = x := ⟨_, rfl⟩
            have hx128 : x.toNat < 128 := by rw [← hx]; exact XAscii.asc_get HA.out i hi
            have hnx := fun ty => run_next_ascii (P := Tryd.prog) w a0 i ty hi (by rw [hx]; exact hx128)
            rw [hx] at hnx
            have hq : (((x.toNat : Nat) : Int) == 65533) = false := by rw [beq_eq_false_iff_ne]; omega
            go_wp2
            go_roundg g
            case measure => omega
            case rel => exact ⟨i + 1, by omega, rfl⟩
      · have e1 : (a1 == 65533) = false := by rw [beq_eq_false_iff_ne]; exact he
        have hval := validRune_eq a1
        by_cases hv : Utf8.valid a1 = true
        · rw [hv] at hval
          have HV := Aside0.mk hval
          obtain ⟨s1, s2, s3⟩ := encode_facts a1 hv h128
          obtain ⟨rs, hrs⟩ : ∃ rs, Utf8.encode a1 = rs := ⟨_, rfl⟩
          rw [hrs] at s1 s2 s3
          obtain ⟨x, hx⟩ : ∃ x : UInt8, rs[rs.size - 1]'(by omega) = x := ⟨_, rfl⟩
          have hx128 : 128 ≤ x.toNat := by rw [← hx]; exact s3 (by omega)
          obtain ⟨n, hn⟩ : ∃ n : Nat, rs.size = n + 1 := ⟨rs.size - 1, by omega⟩
          have hwn : wrap64 ((rs.size : Int) - 1) = (n : Int) := by unfold wrap64; omega
          clear s3 hval h128 hsz
          go_enter Tryd.func130, Tryd.ntmps130
          go_wp2_with (go_at_call 150; (with_reducible refine (Tryd.utf8_ValidRune a1 _).mono ?_); rintro e w' ⟨rfl, rfl⟩; rw [show Lib.validRune a1 = true from HV.out.symm])
          go_step3
          go_wp2
          go_loopg [9, 10, 11, 12] 1 (fun g p9 _ _ _ wx => g = 1 ∧ p9 = .int .i64 (n : Int) ∧ wx = w')
          case atStart => exact ⟨rfl, by first | rfl | (simp [hwn]) | trace_state, rfl⟩
          case round =>
            obtain ⟨rfl, rfl, rfl⟩ := hrel
            by_cases hlt : (n : Int) < (a0.size : Int)
            · have hd : decide ((n : Int) < (a0.size : Int)) = true := decide_eq_true hlt
              have p1 : ((0 : Int) ≤ (n : Int)) = True := eq_true (by omega)
              have p2 : ((n : Int) < (a0.size : Int)) = True := eq_true hlt
              have hni : n < a0.size := by omega
              have p3 : ((n : Int) < (n : Int) + 1) = True := eq_true (by omega)
              have pw : wrap64 ((n : Int) + 1) = (n : Int) + 1 := by have := HSZ.out; unfold wrap64; omega
              have pw2 : IntKind.i64.wrap ((n : Int) + 1) = (n : Int) + 1 := wrap_small _ (by omega) (by have := HSZ.out; omega)
              have p6 : decide ((n : Int) + 1 ≤ (a0.size : Int)) = true := decide_eq_true (by omega)
              have p7 : ¬ (a0.size : Int) < (n : Int) + 1 := by omega
              have p4 : ((0 : Int) ≤ (n : Int) + 1) = True := eq_true (by omega)
              have p5 : ((n : Int) + 1 ≤ (a0.size : Int)) = True := eq_true (by omega)
              have hnr : n < rs.size := by omega
              have hy : 128 ≤ (rs[n]'hnr).toNat := by
                have e : rs[n]'hnr = x := by rw [← hx]; congr 1; omega
                rw [e]; exact hx128
              have hlo := XAscii.asc_get HA.out n hni
              have hne : (((a0[n]'hni).toNat : Int) != ((rs[n]'hnr).toNat : Int)) = true := by rw [bne_iff_ne]; omega
              have hib : Lib.indexByte (a0.extract (n + 1) a0.size).data.toList (((rs[n]'hnr).toNat : Int)).toNat.toUInt8 = -1 := by
                have e : (((rs[n]'hnr).toNat : Int)).toNat.toUInt8 = rs[n]'hnr := by simp
                rw [e]
                have hge := Lib.indexByte_ge (a0.extract (n + 1) a0.size).data.toList (rs[n]'hnr)
                by_cases h0 : Lib.indexByte (a0.extract (n + 1) a0.size).data.toList (rs[n]'hnr) = -1
                · exact h0
                · exfalso
                  obtain ⟨o, ho⟩ : ∃ o : Nat, Lib.indexByte (a0.extract (n + 1) a0.size).data.toList (rs[n]'hnr) = o := ⟨(Lib.indexByte (a0.extract (n + 1) a0.size).data.toList (rs[n]'hnr)).toNat, by omega⟩
                  have := (Lib.indexByte_some ho).1
                  have h5 := XAscii.asc_mem HA.out _ (mem_extract (List.mem_of_getElem? this))
                  omega
              go_wp2
              go_step3
              go_wp2
              go_quiet (fail)
              try go_wp2
              go_region_with (go_at_call 123; refine (Tryd.strings_IndexByte _ _ _).mono ?_; rintro e w2 ⟨rfl, rfl⟩; rw [hib])
              go_wp2
              simp only [Exit.noGoto_ret, Exit.inBlock, Exit.then]
              go_ret
              exact ⟨rfl, pw_below_drewN (Below.refl _ _) _⟩
            · have hd : decide ((n : Int) < (a0.size : Int)) = false := decide_eq_false hlt
              go_wp2
              go_ret
              exact ⟨rfl, Below.refl _ _⟩

        · have hv' : Utf8.valid a1 = false := by simpa using hv
          rw [hv'] at hval
          have HV := Aside0.mk hval
          clear hval h128 hsz
          go_enter Tryd.func130, Tryd.ntmps130
          go_wp2_with (go_at_call 150; (with_reducible refine (Tryd.utf8_ValidRune a1 _).mono ?_); rintro e w' ⟨rfl, rfl⟩; rw [show Lib.validRune a1 = false from HV.out.symm])
          go_ret
          exact ⟨rfl, Below.refl _ _⟩
    · rw [if_neg h2] at h
      cases h

end Go.Proofs.YtbmeebhcanknmaaDoor.XRep
