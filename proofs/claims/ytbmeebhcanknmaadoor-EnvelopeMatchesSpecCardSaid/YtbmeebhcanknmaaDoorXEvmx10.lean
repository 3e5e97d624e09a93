-- Laid by a program of this session's (xprint.py) over the print's text; contracts proved by hand stand among them. Lean checks it.
import Derived.Shelf.Abstract
import Derived.Shelf.RegionOpen
import Derived.OwnWalkIn
import Derived.TacticsInMore
import Derived.LoopNIn
import Derived.LoopIn
import Derived.Lib.Strings
import Derived.Lib.Bytealg
import Derived.Lib.IndexBytes
import Derived.Test.YtbmeebhcanknmaaDoorVEvma
import Derived.Test.YtbmeebhcanknmaaDoorXEvmx0
import Derived.Test.YtbmeebhcanknmaaDoorXEvmx8
import Derived.Test.YtbmeebhcanknmaaDoorXEvmx9
namespace Go.Proofs.YtbmeebhcanknmaaDoor.XEvm
open Go.RowKit Go.Proofs.YtbmeebhcanknmaaDoorW.PrintWords Go.Proofs.YtbmeebhcanknmaaDoorW.PrintLast Go.Proofs.YtbmeebhcanknmaaDoorW.PrintMore
attribute [local go_sem] max2_int min2_int max_two min_two max_three min_three max_four min_four   -- for this text's walks alone
set_option linter.unusedVariables false
set_option linter.unusedSimpArgs false

-- EXTPART
-- IMPORT Derived.Shelf.Abstract
-- IMPORT Derived.Shelf.RegionOpen
-- IMPORT Derived.OwnWalkIn
-- IMPORT Derived.TacticsInMore
-- IMPORT Derived.LoopNIn
-- IMPORT Derived.LoopIn
-- IMPORT Derived.Lib.Strings
-- IMPORT Derived.Lib.Bytealg
-- IMPORT Derived.Lib.IndexBytes
-- IMPORT Derived.Test.YtbmeebhcanknmaaDoorXSeq
/-! ### strings.SplitSeq at a separator of one byte (by hand) -/
namespace SplitSeq
open Go.Proofs.YtbmeebhcanknmaaDoor.XSeq
attribute [local go_sem] Oper.semAt_some
/-- The pieces of l between c's. -/
def split1 (c : UInt8) : List UInt8 → List (List UInt8)
  | [] => [[]]
  | x :: l => if x == c then [] :: split1 c l else match split1 c l with
    | p :: ps => (x :: p) :: ps
    | [] => [[x]]
theorem split1_ne (c : UInt8) (l : List UInt8) : split1 c l ≠ [] := by
  cases l with
  | nil => simp [split1]
  | cons x l => unfold split1; split; simp; split <;> simp
theorem split1_none (c : UInt8) : ∀ l : List UInt8, Lib.indexByte l c < 0 → split1 c l = [l]
  | [], _ => rfl
  | x :: l, h => by
    unfold Lib.indexByte at h
    by_cases e : (x == c) = true
    · rw [if_pos e] at h; omega
    · rw [if_neg e] at h
      have h2 : Lib.indexByte l c < 0 := by
        by_cases e2 : (Lib.indexByte l c == -1) = true
        · have := beq_iff_eq.1 e2; omega
        · rw [if_neg e2] at h; have := Lib.indexByte_ge l c; omega
      unfold split1
      rw [if_neg e, split1_none c l h2]
theorem split1_some (c : UInt8) : ∀ l : List UInt8, 0 ≤ Lib.indexByte l c → split1 c l = l.take (Lib.indexByte l c).toNat :: split1 c (l.drop ((Lib.indexByte l c).toNat + 1)) ∧ (Lib.indexByte l c).toNat < l.length
  | [], h => by simp [Lib.indexByte] at h
  | x :: l, h => by
    unfold Lib.indexByte at h ⊢
    by_cases e : (x == c) = true
    · rw [if_pos e]
      refine ⟨?_, by simp⟩
      show (if x == c then [] :: split1 c l else _) = _
      rw [if_pos e]
      rfl
    · rw [if_neg e] at h ⊢
      by_cases e2 : (Lib.indexByte l c == -1) = true
      · rw [if_pos e2] at h; omega
      · rw [if_neg e2] at h ⊢
        have hg := Lib.indexByte_ge l c
        have hn : Lib.indexByte l c ≠ -1 := fun z => e2 (beq_iff_eq.2 z)
        obtain ⟨h1, h2⟩ := split1_some c l (by omega)
        have e3 : (Lib.indexByte l c + 1).toNat = (Lib.indexByte l c).toNat + 1 := by omega
        rw [e3]
        refine ⟨?_, by simp; omega⟩
        conv => lhs; unfold split1
        rw [if_neg e, h1]
        rfl
theorem split1_length (c : UInt8) (l : List UInt8) : (split1 c l).length ≤ l.length + 1 := by
  induction l with
  | nil => simp [split1]
  | cons x l ih =>
    unfold split1
    split
    · simp; omega
    · split <;> simp_all <;> omega
/-- Lists of strings as lists of bytes. -/
def toLs (l : List ByteArray) : List (List UInt8) := l.map (·.data.toList)
theorem index_one (c : UInt8) (s : ByteArray) : strings_Index.f s ⟨#[c]⟩ = some (Lib.indexByte s.data.toList c) := by
  have h1 : (⟨#[c]⟩ : ByteArray).size = 1 := rfl
  unfold strings_Index.f stringslite_Index.f
  rw [if_pos h1, show Lib.index s.data.toList (⟨#[c]⟩ : ByteArray).data.toList = _ from Lib.one s ⟨#[c]⟩ h1]
  simp
  rfl
/-- J holds with the box of s at rest. -/
def Head (J : List ByteArray → World → Prop) (c : UInt8) (s : ByteArray) (bs bq bz : Nat) (O : World → Nat → Prop) (W : World) (pre : List ByteArray) (rest : ByteArray) : Prop :=
  J pre W ∧ toLs pre ++ split1 c rest.data.toList = split1 c s.data.toList ∧ W.heap[bs]? = some (.cells #[.string rest] 9 (0, 0)) ∧
    W.heap[bq]? = some (.cells #[.string ⟨#[c]⟩] 9 (0, 0)) ∧ W.heap[bz]? = some (.cells #[.int .i64 0] 3 (0, 0)) ∧ ¬ O W bs ∧ ¬ O W bq ∧ ¬ O W bz ∧ rest.size ≤ s.size
def restOf (W : World) (bs : Nat) : Nat := match W.cell? ⟨bs, 0, none⟩ with | some (.string s) => s.size | _ => 0
theorem restOf_eq {W : World} {bs : Nat} {r : ByteArray} {t : Nat} (h : W.heap[bs]? = some (.cells #[.string r] t (0, 0))) : restOf W bs = r.size := by
  unfold restOf; rw [blk_cell h 0]; rfl
set_option maxHeartbeats 2000000 in
set_option maxRecDepth 100000 in
theorem splitSeq_seq (n : Nat) (hn : 2 ≤ n) (s : ByteArray) (c : UInt8) (hs : s.size ≤ 9223372036854775806) (n₀ bs bq bz : Nat) (w : World) (hbs : w.heap[bs]? = some (.cells #[.string s] 9 (0, 0)))
    (hbq : w.heap[bq]? = some (.cells #[.string ⟨#[c]⟩] 9 (0, 0))) (hbz : w.heap[bz]? = some (.cells #[.int .i64 0] 3 (0, 0))) (hn0 : n₀ ≤ bs) (hd : bs ≠ bq ∧ bs ≠ bz) :
    SeqS n Tryd.prog 141 #[.pointer (some ⟨bq, 0, none⟩), .pointer (some ⟨bs, 0, none⟩), .pointer (some ⟨bz, 0, none⟩)] (fun x : ByteArray => #[.string x]) n₀ (fun k => k = bs ∨ k = bq ∨ k = bz)
      (fun xs => toLs xs = split1 c s.data.toList) (fun pre => toLs pre <+: split1 c s.data.toList) (s.size + 1) (fun x => x.size ≤ s.size) w := by
  intro O l J Jx W hW hO hJ hJx hOW hY h0
  refine callsIn_of_wp Tryd.func141 rfl trivial ?_ rfl
  simp only [Tryd.ntmps141, List.size_toArray, List.length_cons, List.length_nil, Nat.reduceAdd, Nat.reduceSub, Array.replicate_succ, Array.replicate_zero, List.push_toArray, List.append_toArray, List.nil_append, List.cons_append]
  have HH := Aside0.mk (show Head J c s bs bq bz O W [] s from ⟨h0, by simp [toLs], blk_below hbs hW, blk_below hbq hW, blk_below hbz hW, hO _ (.inl rfl), hO _ (.inr (.inl rfl)), hO _ (.inr (.inr rfl)), Nat.le_refl _⟩)
  have cq := (blk_cell (blk_below hbq hW) 0).trans rfl
  gi_wp2
  gi_loopw [7] (fun p wr => ∃ pre rest, Aside0 (Head J c s bs bq bz O wr pre rest)) (fun p wr => restOf wr bs)
  case atStart => exact ⟨_, _, HH⟩
  case round =>
    clear HH cq
    obtain ⟨pre, rest, HH⟩ := hrel
    obtain ⟨hj, hp, b1, b2, b3, o1, o2, o3, hsz⟩ := HH.out
    have c1 := (blk_cell b1 0).trans rfl
    have c2 := (blk_cell b2 0).trans rfl
    have c3 := (blk_cell b3 0).trans rfl
    have f1 := blk_frozen b1 0
    have hJp := Aside0.mk hp
    have hS1 := Aside0.mk (split1_none c rest.data.toList)
    have hS2 := Aside0.mk (split1_some c rest.data.toList)
    have B1 := Aside0.mk b1
    have B2 := Aside0.mk b2
    have B3 := Aside0.mk b3
    have hJ' := Aside0.mk hj
    clear hp b1 b2 b3 HH hj
    have hlen : pre.length < s.size + 1 := by
      have h1 := congrArg List.length hJp.out
      have h2 := split1_length c s.data.toList
      have h3 : 0 < (split1 c rest.data.toList).length := List.length_pos_iff.2 (split1_ne _ _)
      rw [List.length_append] at h1
      simp only [toLs, List.length_map] at h1
      rw [data_length] at h2
      omega
    have hix : ∀ rest : ByteArray, strings_Index.f rest ⟨#[c]⟩ = some (Lib.indexByte rest.data.toList c) := index_one c
    have hJd : ∀ m, J pre (wr.drewN m) := fun m => (hJ pre wr (wr.drewN m) none hJ'.out ⟨rfl, rfl, rfl, Nat.le_refl _, fun _ _ _ => rfl⟩ (fun r e => by cases e)).1
    have hOd : ∀ m k, O (wr.drewN m) k → O wr k := fun m => (hJ pre wr (wr.drewN m) none hJ'.out ⟨rfl, rfl, rfl, Nat.le_refl _, fun _ _ _ => rfl⟩ (fun r e => by cases e)).2
    have HOD := Aside0.mk hOd
    clear hOd
    have hf143 : Fence.wide.fn 143 := trivial
    have hn1 : 1 ≤ n := by omega
    by_cases hi : Lib.indexByte rest.data.toList c < 0
    · have hJd' := Aside0.mk hJd
      clear hJd
      gi_wp2_with (gi_at_call 143; refine (callsIn_wide.2 (strings_Index.calls _ _ (Lib.indexByte rest.data.toList c) _ (hix rest))).mono ?_; rintro e w' ⟨rfl, nd, rfl⟩; obtain ⟨fn, tmps, assign, body, hy, hR⟩ := hY pre rest (wr.drewN nd) (hJd'.out nd) hlen hsz; try dsimp only at hy)
      refine hR.mono ?_
      have hfin : toLs (pre ++ [rest]) = split1 c s.data.toList := by
        have := hJp.out
        rw [hS1.out hi] at this
        simpa [toLs] using this
      rintro e W' (⟨rfl, hj, hk⟩ | ⟨rfl, hjx⟩)
      · gi_wp2
        go_end0
        exact ⟨⟨_, rfl⟩, .inl ⟨_, hfin, hj⟩⟩
      · gi_wp2
        go_end0
        exact ⟨⟨_, rfl⟩, .inr ⟨_, by rw [hfin]; exact List.prefix_refl _, hjx⟩⟩
    · have hi0 : 0 ≤ Lib.indexByte rest.data.toList c := by omega
      obtain ⟨hq1, hq2⟩ := hS2.out hi0
      rw [data_length] at hq2
      have hix' := hix rest
      obtain ⟨i, hie⟩ := Int.eq_ofNat_of_zero_le hi0
      rw [hie] at hq1 hq2 hix'
      rw [Int.toNat_natCast] at hq1 hq2
      have HQ1 := Aside0.mk hq1
      have hrs : rest.size ≤ 9223372036854775806 := by omega
      have hi63 : (i : Int) ≤ 9223372036854775806 := by omega
      have hle : i ≤ rest.size := by omega
      have hle1 : i + 1 ≤ rest.size := by omega
      have hw0 : wrap64 ((i : Int) + 0) = (i : Int) := by unfold wrap64; omega
      have HIE := Aside0.mk hie
      have hJd' := Aside0.mk hJd
      have hex : (rest.extract 0 i).data.toList = rest.data.toList.take i := by rw [Lib.extract_data]; simp
      have HEX := Aside0.mk hex
      have hex2 : (rest.extract (i + 1) rest.size).data.toList = rest.data.toList.drop (i + 1) := by
        rw [Lib.extract_data, List.take_of_length_le]
        rw [List.length_drop, data_length]; exact Nat.le_refl _
      have HEX2 := Aside0.mk hex2
      have hfs : (rest.extract 0 i).size ≤ s.size := by have : (rest.extract 0 i).size = min i rest.size - 0 := by rw [ByteArray.size_extract]
                                                        omega
      have HFS := Aside0.mk hfs
      clear hfs
      have hes : (rest.extract (i + 1) rest.size).size ≤ rest.size := by simp [ByteArray.size_extract]
      have hw1 : wrap64 ((i : Int) + 1) = (i : Int) + 1 := by unfold wrap64; omega
      clear hie hq1 hJd hi hi0 hix hex hex2
      gi_wp2_with (gi_at_call 143; refine (callsIn_wide.2 (strings_Index.calls _ _ (i : Int) _ hix')).mono ?_; rintro e w' ⟨rfl, nd, rfl⟩; obtain ⟨fn, tmps, assign, body, hy, hR⟩ := hY pre (rest.extract 0 i) (wr.drewN nd) (hJd'.out nd) hlen HFS.out; try dsimp only at hy)
      refine hR.mono ?_
      rintro e W' (⟨rfl, hj, hk⟩ | ⟨rfl, hjx⟩)
      · have n1 : ¬ O (wr.drewN nd) bs := fun h => o1 (HOD.out nd _ h)
        have n2 : ¬ O (wr.drewN nd) bq := fun h => o2 (HOD.out nd _ h)
        have n3 : ¬ O (wr.drewN nd) bz := fun h => o3 (HOD.out nd _ h)
        have l1 : bs < (wr.drewN nd).heap.size := blk_lt B1.out
        have l2 : bq < (wr.drewN nd).heap.size := blk_lt B2.out
        have l3 : bz < (wr.drewN nd).heap.size := blk_lt B3.out
        have b1 : W'.heap[bs]? = some (.cells #[.string rest] 9 (0, 0)) := (hk.block bs l1 n1).trans B1.out
        have b2 : W'.heap[bq]? = some (.cells #[.string ⟨#[c]⟩] 9 (0, 0)) := (hk.block bq l2 n2).trans B2.out
        have b3 : W'.heap[bz]? = some (.cells #[.int .i64 0] 3 (0, 0)) := (hk.block bz l3 n3).trans B3.out
        have m1 : ¬ O W' bs := fun h => by rcases hk.own _ h with h | h; exact n1 h; omega
        have m2 : ¬ O W' bq := fun h => by rcases hk.own _ h with h | h; exact n2 h; omega
        have m3 : ¬ O W' bz := fun h => by rcases hk.own _ h with h | h; exact n3 h; omega
        have d1 := (blk_cell b1 0).trans rfl
        have d2 := (blk_cell b2 0).trans rfl
        have d3 := (blk_cell b3 0).trans rfl
        have g1 := blk_frozen b1 0
        have hg : W'.grownBy (W'.setCell ⟨bs, 0, none⟩ (.string (rest.extract (i + 1) rest.size))) (some bs) := ⟨rfl, rfl, rfl, by simp [World.setCell], fun k _ hk => Below.heap_setCell _ _ _ _ (fun e => hk (by rw [e]))⟩
        have hst := hJ _ _ _ _ hj hg (fun r e => by cases e; exact ⟨hn0, m1⟩)
        have hnew : Head J c s bs bq bz O (W'.setCell ⟨bs, 0, none⟩ (.string (rest.extract (i + 1) rest.size))) (pre ++ [rest.extract 0 i]) (rest.extract (i + 1) rest.size) := by
          refine ⟨hst.1, ?_, ?_, ?_, ?_, fun h => m1 (hst.2 _ h), fun h => m2 (hst.2 _ h), fun h => m3 (hst.2 _ h), by omega⟩
          · have := hJp.out
            rw [HQ1.out] at this
            rw [HEX2.out, ← this]
            have e : toLs (pre ++ [rest.extract 0 i]) = toLs pre ++ [rest.data.toList.take i] := by rw [← HEX.out]; simp [toLs]
            rw [e]
            simp
          · have := blk_set b1 0 (.string (rest.extract (i + 1) rest.size))
            simpa using this
          · exact blk_far b2 (fun e => hd.1 e.symm) _
          · exact blk_far b3 (fun e => hd.2 e.symm) _
        have HN := Aside0.mk hnew
        clear hnew hst hg b1 b2 b3 n1 n2 n3 m1 m2 m3 hk hj
        gi_wp2
        refine ⟨⟨_, _, HN⟩, ?_⟩
        rw [restOf_eq HN.out.2.2.1, restOf_eq B1.out]
        have : (rest.extract (i + 1) rest.size).size = rest.size - (i + 1) := by rw [ByteArray.size_extract]; omega
        omega
      · have hpf : toLs (pre ++ [rest.extract 0 i]) <+: split1 c s.data.toList := by
          have := hJp.out
          rw [HQ1.out] at this
          rw [← this]
          have e : toLs (pre ++ [rest.extract 0 i]) = toLs pre ++ [rest.data.toList.take i] := by rw [← HEX.out]; simp [toLs]
          rw [e, show toLs pre ++ List.take i rest.data.toList :: split1 c (List.drop (i + 1) rest.data.toList) = (toLs pre ++ [List.take i rest.data.toList]) ++ split1 c (List.drop (i + 1) rest.data.toList) by simp]
          exact List.prefix_append _ _
        have HPF := Aside0.mk hpf
        clear hpf
        gi_wp2
        refine bodyPost_ret (results_none rfl _ _ _) rfl ?_
        exact ⟨⟨_, rfl⟩, .inr ⟨_, HPF.out, hjx⟩⟩
theorem splitSeq_calls (s sep : ByteArray) (w : World) :
    Calls Tryd.prog 108 #[.string s, .string sep] w fun e w' => e = .returned (.func (.func 141) #[] #[.pointer (some ⟨w.heap.size + 1, 0, none⟩), .pointer (some ⟨w.heap.size, 0, none⟩), .pointer (some ⟨w.heap.size + 2, 0, none⟩)]) ∧
      w' = ((w.alloc (.cells #[.string s] 9)).alloc (.cells #[.string sep] 9)).alloc (.cells #[.int .i64 0] 3) := by
  go_enter Tryd.func108, Tryd.ntmps108
  go_wp2
  go_ret
  exact ⟨rfl, rfl⟩
end SplitSeq

end Go.Proofs.YtbmeebhcanknmaaDoor.XEvm
