/- Part of the proof; no statement of its own: G4. -/
import Derived.Test.YtofffddcbjkdcaaG3
import Derived.Test.YtofffddcbjkdcaaSlLaw
set_option linter.all false
namespace Go.Proofs.Ytofffddcbjkdcaa
open Go.Sl
/- what has been seen: by what is held -/
def seenL (l : List Nat) : List Value := l.map fun x => if x = 1 then .int .i64 1 else .int .i64 0
theorem seen_0 {l : List Nat} {i : Nat} (h : l[i]? = some 0) (k : Nat) (hk : k = i) : nth (seenL l) k = some (.int .i64 0) := by
  subst hk; rw [nth_eq]; simp [seenL, h]
theorem seen_1 {l : List Nat} {i : Nat} (h : l[i]? = some 1) (k : Nat) (hk : k = i) : nth (seenL l) k = some (.int .i64 1) := by
  subst hk; rw [nth_eq]; simp [seenL, h]
theorem seen_set {l : List Nat} {i k : Nat} (hk : k = i) : (seenL l).set k (.int .i64 1) = seenL (l.set i 1) := by
  subst hk; simp [seenL, List.map_set]
theorem seen_len (l : List Nat) : (seenL l).length = l.length := by simp [seenL]
theorem grantsAll_walk (W : World) (from_ : Int) (_ : (Lit.int .i64 from_).wf = true) (n_ : Int) (_ : (Lit.int .i64 n_).wf = true) (v : Value) (zs : List Int) (hz : IsInts W .i64 v zs) :
    Does Try.prog 7 #[.int .i64 from_, .int .i64 n_, v] [whole W] (Gives (.bool true) [whole W]) := by
  obtain ⟨p, cap, rfl, hcell, hwf, hzl⟩ := hz
  simp only [maxLen] at hzl
  obtain ⟨fr, hfr, hfr2⟩ : ∃ fr : Nat, from_ % 256 = fr ∧ fr ≤ 255 := ⟨(from_ % 256).toNat, by omega, by omega⟩
  obtain ⟨n, hnn, hn2⟩ : ∃ n : Nat, min (max n_ 0) 60 = (n : Int) ∧ n ≤ 60 := ⟨(min (max n_ 0) 60).toNat, by omega, by omega⟩
  refine does_enter Try.func7 rfl Try.ntmps7 rfl (fun R w0 => ?_)
  simp only [envOf, List.cons_append, List.nil_append]
  refine cw_seq ?_
  refine cw_region ?_
  refine ow_y (y_assign rfl) ?_
  refine ow_nil ?_
  refine kw_code (fun _ _ h => h) ?_
  refine cw_seq ?_
  refine cw_seq ?_
  refine cw_region ?_
  refine ow_gives rfl F.hb16 rfl (gawake_spec) (by repeat (first | exact Split.nil | apply Split.cons (by repeat (first | exact Fnd.here | apply Fnd.there)))) ?_
  simp only [List.cons_append, List.nil_append]
  refine ow_y (y_not rfl) ?_
  refine ow_nil ?_
  refine kw_code (fun _ _ h => h) ?_
  refine cw_false rfl (by first | rfl | exact decide_eq_false (by omega)) ?_
  refine cw_skip ?_
  refine kw_code (fun _ _ h => h) ?_
  refine cw_seq ?_
  refine cw_region ?_
  refine ow_y (y_move rfl) ?_
  refine ow_y (y_and rfl rfl) ?_
  refine ow_y (y_move rfl) ?_
  refine ow_y (y_max rfl rfl) ?_
  refine ow_y (y_min rfl rfl) ?_
  refine ow_y (y_assign rfl) ?_
  refine ow_y (y_assign rfl) ?_
  refine ow_nil ?_
  refine kw_code (fun _ _ h => h) ?_
  refine cw_seq ?_
  rw [and_255 .i64 (by decide), hfr, hnn]
  refine cw_region ?_
  refine ow_y (y_move rfl) ?_
  refine ow_y (y_move rfl) ?_
  refine ow_y (y_move rfl) ?_
  refine ow_y (y_addI rfl rfl (by omega)) ?_
  refine ow_givesE rfl F.hb17 rfl (gnew_spec fr n (fr + n) rfl (by omega) (by omega)) (by repeat (first | exact Split.nil | apply Split.cons (by repeat (first | exact Fnd.here | apply Fnd.there)))) ?_
  rintro ⟨b, bl⟩ _
  simp only [List.cons_append, List.nil_append]
  refine ow_y (y_assign rfl) ?_
  refine ow_nil ?_
  refine kw_code (fun _ _ h => h) ?_
  refine cw_seq ?_
  refine cw_region ?_
  refine ow_y (y_move rfl) ?_
  refine (ow_makeSlice1 (n := n) F.sl35 F.tb3 F.z3 rfl rfl rfl (by omega) (by omega) (by omega) (by omega) (fun b29 => ?_))
  refine ow_y (y_assign rfl) ?_
  refine ow_nil ?_
  refine kw_code (fun _ _ h => h) ?_
  refine cw_meetE (X := {l : List Nat // l.length = n ∧ ∀ x ∈ l, x = 0 ∨ x = 1}) (fun x => [(0, .int .i64 fr), (1, .int .i64 n), (7, .pointer (some ⟨b, 0, none⟩)), (8, .slice (some ⟨b29, 0, none⟩) n n)]) (fun x => gm b bl fr x.1 ++ [whole W, R, pts b29 (.cells (seenL x.1).toArray 3 (0, 0))]) ?_ ?_
  · skip
    refine cw_seq ?_
    refine cw_region ?_
    refine ow_y (y_assign rfl) ?_
    refine ow_nil ?_
    refine kw_code (fun _ _ h => h) ?_
    refine cw_block ?_
    rw [show List.replicate n (Value.int .i64 0) = seenL (List.replicate n 0) from by simp [seenL]]
    refine cw_loop (X := Nat × {l : List Nat // l.length = n ∧ ∀ x ∈ l, x = 0 ∨ x = 1}) (fun x => [(0, .int .i64 fr), (1, .int .i64 n), (2, .slice p zs.length cap), (7, .pointer (some ⟨b, 0, none⟩)), (8, .slice (some ⟨b29, 0, none⟩) n n), (9, .int .i64 x.1)]) (fun x => gm b bl fr x.2.1 ++ [whole W, R, pts b29 (.cells (seenL x.2.1).toArray 3 (0, 0))]) (fun x => zs.length - x.1) ⟨0, List.replicate n 0, by simp, by simp⟩ (by repeat (first | exact Sub.nil | refine Sub.cons rfl ?_)) (by repeat (first | exact Split.nil | apply Split.cons (by repeat (first | exact Fnd.here | apply Fnd.there)))) ?_
    rintro ⟨i, l, hl, h01⟩ m0 hm0
    try simp only at hm0
    simp only [gm, gcells, List.cons_append, List.nil_append]
    refine cw_seq ?_
    refine cw_seq ?_
    by_cases h1 : i < zs.length
    · skip
      refine cw_region ?_
      refine ow_y (y_move rfl) ?_
      refine ow_y (y_move rfl) ?_
      refine ow_y (y_len_slice F.sl35 rfl) ?_
      refine ow_y (y_lss rfl rfl) ?_
      refine ow_y (y_move rfl) ?_
      refine ow_yg (y_move rfl) (fun a w hh => (want_of rfl rfl rfl hh).trans (wTT (by first | rfl | exact decide_eq_true (by omega)))) ?_
      refine ow_yg (y_lss rfl rfl) (fun a w hh => (want_of rfl rfl rfl hh).trans (wTT (by first | rfl | exact decide_eq_true (by omega)))) ?_
      refine ow_y (y_pickT rfl (by first | rfl | exact decide_eq_true (by omega)) rfl) ?_
      refine ow_nil ?_
      refine kw_code (fun _ _ h => h) ?_
      refine cw_if rfl (fun hb37 => ?_) (fun hb37 => ?_)
      · skip
        refine cw_skip ?_
        refine kw_code (fun _ _ h => h) ?_
        refine cw_seq ?_
        refine cw_block ?_
        refine cw_seq ?_
        obtain ⟨a, rfl, hc⟩ := hcell i h1
        obtain ⟨k, hk, hk2⟩ : ∃ k : Nat, zs[i] % 64 = k ∧ k < 64 := ⟨(zs[i] % 64).toNat, by omega, by omega⟩
        refine cw_region ?_
        refine ow_y (y_move rfl) ?_
        refine ow_y (y_move rfl) ?_
        refine ow_y (y_ixsA F.sl35 rfl rfl (by omega)) ?_
        refine ow_y (y_loadW F.sc3 rfl (by repeat (first | exact Fnd.here | apply Fnd.there)) (by simpa using hc)) ?_
        refine ow_y (y_and rfl rfl) ?_
        refine ow_y (y_assign rfl) ?_
        refine ow_nil ?_
        simp only [and_63, hk]
        refine kw_code (fun _ _ h => h) ?_
        refine cw_seq ?_
        by_cases h2 : k < n
        · skip
          refine cw_region ?_
          refine ow_y (y_move rfl) ?_
          refine ow_y (y_move rfl) ?_
          refine ow_y (y_lss rfl rfl) ?_
          refine ow_y (y_move rfl) ?_
          refine ow_yg (y_move rfl) (fun a w hh => (want_of rfl rfl rfl hh).trans (wTT (by first | rfl | exact decide_eq_true (by omega)))) ?_
          refine ow_yg (y_move rfl) (fun a w hh => (want_of rfl rfl rfl hh).trans (wTT (by first | rfl | exact decide_eq_true (by omega)))) ?_
          refine ow_yg (y_move rfl) (fun a w hh => (want_of rfl rfl rfl hh).trans (wTT (by first | rfl | exact decide_eq_true (by omega)))) ?_
          refine ow_yg (y_addI rfl rfl (by omega)) (fun a w hh => (want_of rfl rfl rfl hh).trans (wTT (by first | rfl | exact decide_eq_true (by omega)))) ?_
          refine ow_want (fun a w hh => (want_of rfl rfl rfl hh).trans (wTT (by first | rfl | exact decide_eq_true (by omega)))) ?_
          refine ow_gives rfl F.hb18 rfl (ghold_spec b bl fr l (fr + k) (by omega) (by omega) (by omega)) (by repeat (first | exact Split.nil | apply Split.cons (by repeat (first | exact Fnd.here | apply Fnd.there)))) ?_
          simp only [List.cons_append, List.nil_append]
          refine ow_y (y_pickT rfl (by first | rfl | exact decide_eq_true (by omega)) rfl) ?_
          refine ow_nil ?_
          refine kw_code (fun _ _ h => h) ?_
          refine cw_if rfl (fun hb54 => ?_) (fun hb54 => ?_)
          · skip
            obtain ⟨j, hj, hs⟩ := isB_at hb54
            obtain rfl : k = j := by omega
            have htn : ((fr : Int) + k - fr).toNat = k := by omega
            simp only [mvL, hb54, htn]
            refine cw_region ?_
            refine ow_y (y_move rfl) ?_
            refine ow_y (y_move rfl) ?_
            refine ow_y (y_ixs F.sl35 rfl rfl (by omega)) ?_
            refine ow_y (y_load F.sc3 rfl (seen_0 hs _ (by simp))) ?_
            refine ow_y (y_addI rfl rfl (by omega)) ?_
            refine ow_y (y_ixs F.sl35 rfl rfl (by omega)) ?_
            refine ow_store F.sz3 rfl rfl rfl (by simp [seen_len]; omega) (seen_set (i := k) (by simp)) ?_
            refine ow_nil ?_
            refine kw_code (fun _ _ h => h) ?_
            refine cw_region ?_
            refine ow_y (y_move rfl) ?_
            refine ow_y (y_addI rfl rfl (by omega)) ?_
            refine ow_y (y_assign rfl) ?_
            refine ow_nil ?_
            refine kw_rnd (fun _ _ h => h) (⟨i + 1, l.set k 1, by simpa using hl, fun x hx => (List.mem_or_eq_of_mem_set hx).elim (h01 x) .inr⟩) (by first | omega | (simp only; omega)) (by repeat (first | exact Sub.nil | refine Sub.cons rfl ?_)) (by repeat (first | exact Split.nil | apply Split.cons (by repeat (first | exact Fnd.here | apply Fnd.there))))
          · skip
            simp only [mvL, hb54]
            refine cw_skip ?_
            refine kw_code (fun _ _ h => h) ?_
            refine cw_region ?_
            refine ow_y (y_move rfl) ?_
            refine ow_y (y_addI rfl rfl (by omega)) ?_
            refine ow_y (y_assign rfl) ?_
            refine ow_nil ?_
            refine kw_rnd (fun _ _ h => h) (⟨i + 1, l, hl, h01⟩) (by first | omega | (simp only; omega)) (by repeat (first | exact Sub.nil | refine Sub.cons rfl ?_)) (by repeat (first | exact Split.nil | apply Split.cons (by repeat (first | exact Fnd.here | apply Fnd.there))))
        · skip
          refine cw_region ?_
          refine ow_y (y_move rfl) ?_
          refine ow_y (y_move rfl) ?_
          refine ow_y (y_lss rfl rfl) ?_
          refine ow_y (y_move rfl) ?_
          refine ow_skip rfl (fun a w hh => (want_of rfl rfl rfl hh).trans (wTF (by first | rfl | exact decide_eq_false (by omega)))) ?_
          refine ow_skip rfl (fun a w hh => (want_of rfl rfl rfl hh).trans (wTF (by first | rfl | exact decide_eq_false (by omega)))) ?_
          refine ow_skip rfl (fun a w hh => (want_of rfl rfl rfl hh).trans (wTF (by first | rfl | exact decide_eq_false (by omega)))) ?_
          refine ow_skip rfl (fun a w hh => (want_of rfl rfl rfl hh).trans (wTF (by first | rfl | exact decide_eq_false (by omega)))) ?_
          refine ow_skip rfl (fun a w hh => (want_of rfl rfl rfl hh).trans (wTF (by first | rfl | exact decide_eq_false (by omega)))) ?_
          refine ow_y (y_pickF rfl (by first | rfl | exact decide_eq_false (by omega)) rfl) ?_
          refine ow_nil ?_
          refine kw_code (fun _ _ h => h) ?_
          refine cw_false rfl (by first | rfl | exact decide_eq_false (by omega)) ?_
          refine cw_skip ?_
          refine kw_code (fun _ _ h => h) ?_
          refine cw_region ?_
          refine ow_y (y_move rfl) ?_
          refine ow_y (y_addI rfl rfl (by omega)) ?_
          refine ow_y (y_assign rfl) ?_
          refine ow_nil ?_
          refine kw_rnd (fun _ _ h => h) (⟨i + 1, l, hl, h01⟩) (by first | omega | (simp only; omega)) (by repeat (first | exact Sub.nil | refine Sub.cons rfl ?_)) (by repeat (first | exact Split.nil | apply Split.cons (by repeat (first | exact Fnd.here | apply Fnd.there))))
      · skip
        refine cw_exit ?_
        refine kw_meetE (fun _ _ h => h) (⟨l, hl, h01⟩) (by repeat (first | exact Sub.nil | refine Sub.cons rfl ?_)) (by repeat (first | exact Split.nil | apply Split.cons (by repeat (first | exact Fnd.here | apply Fnd.there))))
    · skip
      refine cw_region ?_
      refine ow_y (y_move rfl) ?_
      refine ow_y (y_move rfl) ?_
      refine ow_y (y_len_slice F.sl35 rfl) ?_
      refine ow_y (y_lss rfl rfl) ?_
      refine ow_y (y_move rfl) ?_
      refine ow_skip rfl (fun a w hh => (want_of rfl rfl rfl hh).trans (wTF (by first | rfl | exact decide_eq_false (by omega)))) ?_
      refine ow_skip rfl (fun a w hh => (want_of rfl rfl rfl hh).trans (wTF (by first | rfl | exact decide_eq_false (by omega)))) ?_
      refine ow_y (y_pickF rfl (by first | rfl | exact decide_eq_false (by omega)) rfl) ?_
      refine ow_nil ?_
      refine kw_code (fun _ _ h => h) ?_
      refine cw_false rfl (by first | rfl | exact decide_eq_false (by omega)) ?_
      refine cw_exit ?_
      refine kw_meetE (fun _ _ h => h) (⟨l, hl, h01⟩) (by repeat (first | exact Sub.nil | refine Sub.cons rfl ?_)) (by repeat (first | exact Split.nil | apply Split.cons (by repeat (first | exact Fnd.here | apply Fnd.there))))
  rintro ⟨l, hl, h01⟩
  refine cw_seq ?_
  refine cw_region ?_
  refine ow_y (y_assign rfl) ?_
  refine ow_nil ?_
  refine kw_code (fun _ _ h => h) ?_
  refine cw_meetE (X := {l : List Nat // l.length = n ∧ ∀ x ∈ l, x = 1}) (fun x => [(0, .int .i64 fr), (1, .int .i64 n), (7, .pointer (some ⟨b, 0, none⟩)), (8, .slice (some ⟨b29, 0, none⟩) n n)]) (fun x => gm b bl fr x.1 ++ [whole W, R, pts b29 (.cells (seenL x.1).toArray 3 (0, 0))]) ?_ ?_
  · skip
    refine cw_block ?_
    refine cw_loop (X := {x : Nat × List Nat // x.2.length = n ∧ (∀ y ∈ x.2, y = 0 ∨ y = 1) ∧ ∀ j (h : j < x.2.length), j < x.1 → x.2[j] = 1}) (fun x => [(0, .int .i64 fr), (1, .int .i64 n), (7, .pointer (some ⟨b, 0, none⟩)), (8, .slice (some ⟨b29, 0, none⟩) n n), (11, .int .i64 ((x.1.1 : Int) - 1))]) (fun x => gm b bl fr x.1.2 ++ [whole W, R, pts b29 (.cells (seenL x.1.2).toArray 3 (0, 0))]) (fun x => x.1.2.count 0) ⟨(0, l), hl, h01, fun j h h0 => by omega⟩ (by repeat (first | exact Sub.nil | refine Sub.cons rfl ?_)) (by repeat (first | exact Split.nil | apply Split.cons (by repeat (first | exact Fnd.here | apply Fnd.there)))) ?_
    rintro ⟨⟨q, l⟩, hl, h01, hq⟩ m2 hm2
    try simp only at hm2
    simp only at hl h01 hq
    simp only [gm, gcells, List.cons_append, List.nil_append]
    refine cw_block ?_
    refine cw_seq ?_
    have ht := gtake_spec b bl fr l (by omega) (by omega)
    rcases hfi : List.findIdx? (· == 0) l with _ | i
    · skip
      rw [hfi] at ht
      refine cw_region ?_
      refine ow_y (y_move rfl) ?_
      refine ow_gives rfl F.hb19 rfl (ht) (by repeat (first | exact Split.nil | apply Split.cons (by repeat (first | exact Fnd.here | apply Fnd.there)))) ?_
      simp only [List.cons_append, List.nil_append]
      refine ow_y (y_move rfl) ?_
      refine ow_y (y_ext rfl rfl) ?_
      refine ow_y (y_ext rfl rfl) ?_
      refine ow_y (y_assign rfl) ?_
      refine ow_y (y_assign rfl) ?_
      refine ow_nil ?_
      refine kw_code (fun _ _ h => h) ?_
      refine cw_seq ?_
      refine cw_seq ?_
      refine cw_region ?_
      refine ow_y (y_move rfl) ?_
      refine ow_y (y_not rfl) ?_
      refine ow_nil ?_
      refine kw_code (fun _ _ h => h) ?_
      refine cw_true rfl (by first | rfl | exact decide_eq_true (by omega)) ?_
      refine cw_exit ?_
      refine kw_meetE (fun _ _ h => h) (⟨l, hl, ?_⟩) (by repeat (first | exact Sub.nil | refine Sub.cons rfl ?_)) (by repeat (first | exact Split.nil | apply Split.cons (by repeat (first | exact Fnd.here | apply Fnd.there))))
      intro x hx
      rw [List.findIdx?_eq_none_iff] at hfi
      rcases h01 x hx with rfl | h
      · exact absurd (hfi 0 hx) (by decide)
      · exact h
    · skip
      rw [hfi] at ht
      refine cw_region ?_
      refine ow_y (y_move rfl) ?_
      refine ow_gives rfl F.hb19 rfl (ht) (by repeat (first | exact Split.nil | apply Split.cons (by repeat (first | exact Fnd.here | apply Fnd.there)))) ?_
      simp only [List.cons_append, List.nil_append]
      refine ow_y (y_move rfl) ?_
      refine ow_y (y_ext rfl rfl) ?_
      refine ow_y (y_ext rfl rfl) ?_
      refine ow_y (y_assign rfl) ?_
      refine ow_y (y_assign rfl) ?_
      refine ow_nil ?_
      refine kw_code (fun _ _ h => h) ?_
      refine cw_seq ?_
      refine cw_seq ?_
      refine cw_region ?_
      refine ow_y (y_move rfl) ?_
      refine ow_y (y_not rfl) ?_
      refine ow_nil ?_
      refine kw_code (fun _ _ h => h) ?_
      refine cw_false rfl (by first | rfl | exact decide_eq_false (by omega)) ?_
      refine cw_skip ?_
      refine kw_code (fun _ _ h => h) ?_
      refine cw_seq ?_
      refine cw_seq ?_
      obtain ⟨hil, hi0, _⟩ := List.findIdx?_eq_some_iff_getElem.1 hfi
      have hi0' : l[i] = 0 := by simpa using hi0
      have hqi : q ≤ i := by
        rcases Nat.lt_or_ge i q with h | h
        · rw [hq i hil h] at hi0'; cases hi0'
        · exact h
      have hs : l[i]? = some 0 := by rw [List.getElem?_eq_getElem hil, hi0']
      refine cw_region ?_
      refine ow_y (y_move rfl) ?_
      refine ow_y (y_move rfl) ?_
      refine ow_y (y_subI rfl rfl (by omega)) ?_
      refine ow_y (y_move rfl) ?_
      refine ow_y (y_leq rfl rfl) ?_
      refine ow_y (y_move rfl) ?_
      refine ow_yg (y_move rfl) (fun a w hh => (want_of rfl rfl rfl hh).trans (wFF (by first | rfl | exact decide_eq_false (by omega)))) ?_
      refine ow_yg (y_move rfl) (fun a w hh => (want_of rfl rfl rfl hh).trans (wFF (by first | rfl | exact decide_eq_false (by omega)))) ?_
      refine ow_yg (y_subI rfl rfl (by omega)) (fun a w hh => (want_of rfl rfl rfl hh).trans (wFF (by first | rfl | exact decide_eq_false (by omega)))) ?_
      refine ow_yg (y_move rfl) (fun a w hh => (want_of rfl rfl rfl hh).trans (wFF (by first | rfl | exact decide_eq_false (by omega)))) ?_
      refine ow_yg (y_geq rfl rfl) (fun a w hh => (want_of rfl rfl rfl hh).trans (wFF (by first | rfl | exact decide_eq_false (by omega)))) ?_
      refine ow_y (y_pickF rfl (by first | rfl | exact decide_eq_false (by omega)) rfl) ?_
      refine ow_nil ?_
      refine kw_code (fun _ _ h => h) ?_
      refine cw_false rfl (by first | rfl | exact decide_eq_false (by omega)) ?_
      refine cw_skip ?_
      refine kw_code (fun _ _ h => h) ?_
      refine cw_seq ?_
      refine cw_region ?_
      refine ow_y (y_move rfl) ?_
      refine ow_y (y_move rfl) ?_
      refine ow_y (y_subI rfl rfl (by omega)) ?_
      refine ow_y (y_assign rfl) ?_
      refine ow_nil ?_
      rw [show (fr : Int) + i - fr = ((i + 1 : Nat) : Int) - 1 from by omega]
      refine kw_code (fun _ _ h => h) ?_
      refine cw_region ?_
      refine ow_y (y_move rfl) ?_
      refine ow_y (y_move rfl) ?_
      refine ow_y (y_ixs F.sl35 rfl rfl (by omega)) ?_
      refine ow_y (y_load F.sc3 rfl (seen_0 hs _ (by omega))) ?_
      refine ow_y (y_addI rfl rfl (by omega)) ?_
      refine ow_y (y_ixs F.sl35 rfl rfl (by omega)) ?_
      refine ow_store F.sz3 rfl rfl rfl (by simp [seen_len]; omega) (seen_set (i := i) (by omega)) ?_
      refine ow_nil ?_
      have hmu : (l.set i 1).count 0 < l.count 0 := by
        have : 0 < l.count 0 := List.count_pos_iff.2 (hi0' ▸ List.getElem_mem hil)
        rw [List.count_set hil, hi0']; simp; omega
      have hq2 : ∀ j (h : j < (l.set i 1).length), j < i + 1 → (l.set i 1)[j] = 1 := by
        intro j hj hji
        rw [List.getElem_set]
        split
        · rfl
        · have hjl : j < l.length := by simpa using hj
          rcases h01 _ (List.getElem_mem hjl) with h | h
          · have := List.findIdx?_eq_some_iff_getElem.1 hfi
            exact absurd h (by simpa using this.2.2 j (by omega))
          · exact h
      refine kw_rnd (fun _ _ h => h) (⟨(i + 1, l.set i 1), by simpa using hl, fun x hx => (List.mem_or_eq_of_mem_set hx).elim (h01 x) .inr, hq2⟩) (by simp only; omega) (by repeat (first | exact Sub.nil | refine Sub.cons rfl ?_)) (by repeat (first | exact Split.nil | apply Split.cons (by repeat (first | exact Fnd.here | apply Fnd.there))))
  rintro ⟨l, hl, h1⟩
  have hc1 : l.count 1 = n := by rw [← hl]; exact List.count_eq_length.2 (fun x hx => (h1 x hx).symm)
  have hc0 : l.count 0 = 0 := List.count_eq_zero.2 (fun h => absurd (h1 0 h) (by decide))
  refine cw_seq ?_
  refine cw_seq ?_
  refine cw_region ?_
  refine ow_y (y_move rfl) ?_
  refine ow_y (y_len_slice F.sl35 rfl) ?_
  refine ow_y (y_move rfl) ?_
  refine ow_nil ?_
  refine kw_code (fun _ _ h => h) ?_
  refine cw_block ?_
  refine cw_loop (X := {i : Nat // i ≤ n}) (fun x => [(0, .int .i64 fr), (1, .int .i64 n), (7, .pointer (some ⟨b, 0, none⟩)), (8, .slice (some ⟨b29, 0, none⟩) n n), (89, .slice (some ⟨b29, 0, none⟩) n n), (90, .int .i64 n), (91, .int .i64 x.1)]) (fun x => gm b bl fr l ++ [whole W, R, pts b29 (.cells (seenL l).toArray 3 (0, 0))]) (fun x => n - x.1) ⟨0, by omega⟩ (by repeat (first | exact Sub.nil | refine Sub.cons rfl ?_)) (by repeat (first | exact Split.nil | apply Split.cons (by repeat (first | exact Fnd.here | apply Fnd.there)))) ?_
  rintro ⟨i, hi⟩ m4 hm4
  try simp only at hm4
  simp only [gm, gcells, List.cons_append, List.nil_append]
  refine cw_seq ?_
  refine cw_region ?_
  refine ow_y (y_lss rfl rfl) ?_
  refine ow_nil ?_
  refine kw_code (fun _ _ h => h) ?_
  refine cw_seq ?_
  refine cw_if rfl (fun hb92 => ?_) (fun hb92 => ?_)
  · skip
    have hi : i < n := by have := of_decide_eq_true hb92; omega
    have hs : l[i]? = some 1 := by rw [List.getElem?_eq_getElem (by omega)]; exact congrArg some (h1 _ (List.getElem_mem _))
    refine cw_skip ?_
    refine kw_code (fun _ _ h => h) ?_
    refine cw_seq ?_
    refine cw_block ?_
    refine cw_seq ?_
    refine cw_region ?_
    refine ow_y (y_ixs F.sl35 rfl rfl (by omega)) ?_
    refine ow_y (y_load F.sc3 rfl (seen_1 hs _ (by simp))) ?_
    refine ow_y (y_assign rfl) ?_
    refine ow_nil ?_
    refine kw_code (fun _ _ h => h) ?_
    refine cw_seq ?_
    refine cw_region ?_
    refine ow_y (y_move rfl) ?_
    refine ow_y (y_neq rfl rfl) ?_
    refine ow_nil ?_
    refine kw_code (fun _ _ h => h) ?_
    refine cw_false rfl (by first | rfl | exact decide_eq_false (by omega)) ?_
    refine cw_skip ?_
    refine kw_code (fun _ _ h => h) ?_
    refine cw_region ?_
    refine ow_y (y_addI rfl rfl (by omega)) ?_
    refine ow_y (y_move rfl) ?_
    refine ow_nil ?_
    refine kw_rnd (fun _ _ h => h) (⟨i + 1, by omega⟩) (by first | omega | (simp only; omega)) (by repeat (first | exact Sub.nil | refine Sub.cons rfl ?_)) (by repeat (first | exact Split.nil | apply Split.cons (by repeat (first | exact Fnd.here | apply Fnd.there))))
  · skip
    refine cw_exit ?_
    refine kw_code (fun _ _ h => h) ?_
    refine cw_seq ?_
    refine cw_region ?_
    refine ow_y (y_move rfl) ?_
    refine ow_gives rfl F.hb20 rfl (gHeld_spec b bl fr l) (by repeat (first | exact Split.nil | apply Split.cons (by repeat (first | exact Fnd.here | apply Fnd.there)))) ?_
    simp only [List.cons_append, List.nil_append]
    refine ow_y (y_move rfl) ?_
    refine ow_y (y_eql rfl rfl) ?_
    refine ow_y (y_move rfl) ?_
    refine ow_yg (y_move rfl) (fun a w hh => (want_of rfl rfl rfl hh).trans (wTT (by rw [hc1]; simp))) ?_
    refine ow_want (fun a w hh => (want_of rfl rfl rfl hh).trans (wTT (by rw [hc1]; simp))) ?_
    refine ow_gives rfl F.hb21 rfl (gFree_spec b bl fr l) (by repeat (first | exact Split.nil | apply Split.cons (by repeat (first | exact Fnd.here | apply Fnd.there)))) ?_
    simp only [List.cons_append, List.nil_append]
    refine ow_yg (y_eql rfl rfl) (fun a w hh => (want_of rfl rfl rfl hh).trans (wTT (by rw [hc1]; simp))) ?_
    refine ow_y (y_pickT rfl (by rw [hc1]; simp) rfl) ?_
    refine ow_y (y_assign rfl) ?_
    refine ow_nil ?_
    refine kw_code (fun _ _ h => h) ?_
    refine cw_retG (fun _ _ h => h) rfl (by rw [hc0]; rfl) (by repeat (first | exact Split.nil | apply Split.cons (by repeat (first | exact Fnd.here | apply Fnd.there))))
end Go.Proofs.Ytofffddcbjkdcaa
