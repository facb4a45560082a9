/- Part of the proof; no statement of its own: G6. -/
import Derived.Test.YtofffddcbjkdcaaG5
set_option linter.all false
namespace Go.Proofs.Ytofffddcbjkdcaa
open Go.Sl
theorem isB_k (fr k a : Nat) (l : List Nat) : isB fr l (fr + k) a = decide (l[k]? = some a) := by
  have h1 : ((fr : Int) + k - fr).toNat = k := by omega
  by_cases h : k < l.length
  · simp only [isB, h1]
    rw [decide_eq_true (show (fr : Int) + k ≥ fr by omega), decide_eq_true (show (fr : Int) + k - fr < l.length by omega)]; rfl
  · have h2 : l[k]? = none := List.getElem?_eq_none (by omega)
    simp only [isB, h1, h2]
    rw [decide_eq_false (show ¬ (fr : Int) + k - fr < l.length by omega)]; simp
theorem mvL_y {fr k a to : Nat} {l : List Nat} (h : l[k]? = some a) : mvL fr l (fr + k) a to = l.set k to := by
  have h1 : ((fr : Int) + k - fr).toNat = k := by omega
  simp only [mvL, isB_k, h, h1, decide_true]
theorem mvL_n {fr k a to : Nat} {l : List Nat} (h : l[k]? ≠ some a) : mvL fr l (fr + k) a to = l := by
  simp only [mvL, isB_k, decide_eq_false h]
theorem isB_3 (k a : Nat) (l : List Nat) : isB 3 l (3 + (k : Int)) a = decide (l[k]? = some a) := isB_k 3 k a l
theorem mvL3_y {k a to : Nat} {l : List Nat} (h : l[k]? = some a) : mvL 3 l (3 + (k : Int)) a to = l.set k to := mvL_y (fr := 3) h
theorem mvL3_n {k a to : Nat} {l : List Nat} (h : l[k]? ≠ some a) : mvL 3 l (3 + (k : Int)) a to = l := mvL_n (fr := 3) h
theorem grantsTurns_walk (W : World) (n_ : Int) (_ : (Lit.int .i64 n_).wf = true) (v : Value) (zs : List Int) (hz : IsInts W .i64 v zs) (a_ : Int) (_ : (Lit.int .i64 a_).wf = true) :
    Does Try.prog 8 #[.int .i64 n_, v, .int .i64 a_] [whole W] (Gives (.bool true) [whole W]) := by
  obtain ⟨p, cap, rfl, hcell, hwf, hzl⟩ := hz
  simp only [maxLen] at hzl
  obtain ⟨n, hnn, hn1, hn2⟩ : ∃ n : Nat, 1 + n_ % 256 % 40 = (n : Int) ∧ 1 ≤ n ∧ n ≤ 40 := by
    exact ⟨(1 + n_ % 256 % 40).toNat, by omega, by omega, by omega⟩
  have hmod : ∀ x : Int, ∃ k : Nat, x % 256 % (n : Int) = (k : Int) ∧ k < n := by
    intro x
    have h1 := Int.emod_nonneg (x % 256) (show (n : Int) ≠ 0 by omega)
    have h2 := Int.emod_lt_of_pos (x % 256) (show (0 : Int) < n by omega)
    exact ⟨(x % 256 % n).toNat, by omega, by omega⟩
  obtain ⟨k, hk, hk2⟩ := hmod a_
  refine does_enter Try.func8 rfl Try.ntmps8 rfl (fun R w0 => ?_)
  simp only [envOf, List.cons_append, List.nil_append]
  refine cw_seq ?_
  refine cw_region ?_
  refine ow_y (y_assign rfl) ?_
  refine ow_nil ?_
  refine kw_code (fun _ _ h => h) ?_
  refine cw_seq ?_
  refine cw_seq ?_
  refine cw_region ?_
  refine ow_gives rfl F.hb16 rfl (gawake_spec) (by repeat (first | exact Split.nil | apply Split.cons (by repeat (first | exact Fnd.here | apply Fnd.there)))) ?_
  simp only [List.cons_append, List.nil_append]
  refine ow_y (y_not rfl) ?_
  refine ow_nil ?_
  refine kw_code (fun _ _ h => h) ?_
  refine cw_false rfl (by first | rfl | exact decide_eq_false (by omega)) ?_
  refine cw_skip ?_
  refine kw_code (fun _ _ h => h) ?_
  refine cw_seq ?_
  refine cw_region ?_
  refine ow_y (y_move rfl) ?_
  refine ow_y (y_and rfl rfl) ?_
  refine ow_y (y_remI rfl rfl (by rw [and_255 .i64 (by decide)]; omega)) ?_
  refine ow_y (y_addI rfl rfl (by rw [and_255 .i64 (by decide)]; omega)) ?_
  refine ow_y (y_assign rfl) ?_
  refine ow_nil ?_
  simp only [and_255 .i64 (by decide)]
  refine kw_code (fun _ _ h => h) ?_
  refine cw_seq ?_
  rw [hnn]
  refine cw_region ?_
  refine ow_y (y_move rfl) ?_
  refine ow_y (y_addI rfl rfl (by omega)) ?_
  refine ow_givesE rfl F.hb17 rfl (gnew_spec 3 n (3 + n) rfl (by omega) (by omega)) (by repeat (first | exact Split.nil | apply Split.cons (by repeat (first | exact Fnd.here | apply Fnd.there)))) ?_
  rintro ⟨b, bl⟩ _
  simp only [List.cons_append, List.nil_append]
  refine ow_y (y_assign rfl) ?_
  refine ow_nil ?_
  refine kw_code (fun _ _ h => h) ?_
  refine cw_meetE (X := {l : List Nat // l.length = n ∧ ∀ x ∈ l, x = 0 ∨ x = 1}) (fun x => [(0, .int .i64 n), (2, .int .i64 a_), (7, .pointer (some ⟨b, 0, none⟩))]) (fun x => gm b bl 3 x.1 ++ [whole W, R]) ?_ ?_
  · skip
    refine cw_seq ?_
    refine cw_region ?_
    refine ow_y (y_assign rfl) ?_
    refine ow_nil ?_
    refine kw_code (fun _ _ h => h) ?_
    refine cw_block ?_
    refine cw_loop (X := Nat × {l : List Nat // l.length = n ∧ ∀ x ∈ l, x = 0 ∨ x = 1}) (fun x => [(0, .int .i64 n), (1, .slice p zs.length cap), (2, .int .i64 a_), (7, .pointer (some ⟨b, 0, none⟩)), (8, .int .i64 x.1)]) (fun x => gm b bl 3 x.2.1 ++ [whole W, R]) (fun x => zs.length - x.1) ⟨0, List.replicate n 0, by simp, by simp⟩ (by repeat (first | exact Sub.nil | refine Sub.cons rfl ?_)) (by repeat (first | exact Split.nil | apply Split.cons (by repeat (first | exact Fnd.here | apply Fnd.there)))) ?_
    rintro ⟨i, l, hl, h01⟩ m0 hm0
    try simp only at hm0
    simp only [gm, gcells, List.cons_append, List.nil_append]
    refine cw_seq ?_
    refine cw_seq ?_
    by_cases h1 : i < zs.length
    · skip
      refine cw_region ?_
      refine ow_y (y_move rfl) ?_
      refine ow_y (y_move rfl) ?_
      refine ow_y (y_len_slice F.sl35 rfl) ?_
      refine ow_y (y_lss rfl rfl) ?_
      refine ow_y (y_move rfl) ?_
      refine ow_yg (y_move rfl) (fun a w hh => (want_of rfl rfl rfl hh).trans (wTT (by first | rfl | exact decide_eq_true (by omega)))) ?_
      refine ow_yg (y_lss rfl rfl) (fun a w hh => (want_of rfl rfl rfl hh).trans (wTT (by first | rfl | exact decide_eq_true (by omega)))) ?_
      refine ow_y (y_pickT rfl (by first | rfl | exact decide_eq_true (by omega)) rfl) ?_
      refine ow_nil ?_
      refine kw_code (fun _ _ h => h) ?_
      refine cw_if rfl (fun hb29 => ?_) (fun hb29 => ?_)
      · skip
        refine cw_skip ?_
        refine kw_code (fun _ _ h => h) ?_
        refine cw_seq ?_
        refine cw_block ?_
        obtain ⟨a, rfl, hc⟩ := hcell i h1
        obtain ⟨j, hj, hj2⟩ := hmod zs[i]
        have hH := ghold_spec b bl 3 l (3 + j) (by omega) (by omega) (by omega)
        rw [isB_3 j 0 l] at hH
        refine cw_region ?_
        refine ow_y (y_move rfl) ?_
        refine ow_y (y_move rfl) ?_
        refine ow_y (y_move rfl) ?_
        refine ow_y (y_ixsA F.sl35 rfl rfl (by omega)) ?_
        refine ow_y (y_loadW F.sc3 rfl (by repeat (first | exact Fnd.here | apply Fnd.there)) (by simpa using hc)) ?_
        refine ow_y (y_and rfl rfl) ?_
        refine ow_y (y_move rfl) ?_
        refine ow_y (y_remI rfl rfl (by rw [and_255 .i64 (by decide)]; omega)) ?_
        refine ow_y (y_addI rfl rfl (by rw [and_255 .i64 (by decide), hj]; omega)) ?_
        rw [and_255 .i64 (by decide), hj]
        refine ow_gives rfl F.hb18 rfl (hH) (by repeat (first | exact Split.nil | apply Split.cons (by repeat (first | exact Fnd.here | apply Fnd.there)))) ?_
        simp only [List.cons_append, List.nil_append]
        refine ow_nil ?_
        refine kw_code (fun _ _ h => h) ?_
        obtain ⟨l', hl', h01', he⟩ : ∃ l' : List Nat, l'.length = n ∧ (∀ x ∈ l', x = 0 ∨ x = 1) ∧ mvL 3 l (3 + j) 0 1 = l' := by
          by_cases hs : l[j]? = some 0
          · exact ⟨l.set j 1, by simpa using hl, fun x hx => (List.mem_or_eq_of_mem_set hx).elim (h01 x) .inr, mvL3_y hs⟩
          · exact ⟨l, hl, h01, mvL3_n hs⟩
        refine cw_region ?_
        refine ow_y (y_move rfl) ?_
        refine ow_y (y_addI rfl rfl (by omega)) ?_
        refine ow_y (y_assign rfl) ?_
        refine ow_nil ?_
        rw [he]
        refine kw_rnd (fun _ _ h => h) (⟨i + 1, l', hl', h01'⟩) (by first | omega | (simp only; omega)) (by repeat (first | exact Sub.nil | refine Sub.cons rfl ?_)) (by repeat (first | exact Split.nil | apply Split.cons (by repeat (first | exact Fnd.here | apply Fnd.there))))
      · skip
        refine cw_exit ?_
        refine kw_meetE (fun _ _ h => h) (⟨l, hl, h01⟩) (by repeat (first | exact Sub.nil | refine Sub.cons rfl ?_)) (by repeat (first | exact Split.nil | apply Split.cons (by repeat (first | exact Fnd.here | apply Fnd.there))))
    · skip
      refine cw_region ?_
      refine ow_y (y_move rfl) ?_
      refine ow_y (y_move rfl) ?_
      refine ow_y (y_len_slice F.sl35 rfl) ?_
      refine ow_y (y_lss rfl rfl) ?_
      refine ow_y (y_move rfl) ?_
      refine ow_skip rfl (fun a w hh => (want_of rfl rfl rfl hh).trans (wTF (by first | rfl | exact decide_eq_false (by omega)))) ?_
      refine ow_skip rfl (fun a w hh => (want_of rfl rfl rfl hh).trans (wTF (by first | rfl | exact decide_eq_false (by omega)))) ?_
      refine ow_y (y_pickF rfl (by first | rfl | exact decide_eq_false (by omega)) rfl) ?_
      refine ow_nil ?_
      refine kw_code (fun _ _ h => h) ?_
      refine cw_false rfl (by first | rfl | exact decide_eq_false (by omega)) ?_
      refine cw_exit ?_
      refine kw_meetE (fun _ _ h => h) (⟨l, hl, h01⟩) (by repeat (first | exact Sub.nil | refine Sub.cons rfl ?_)) (by repeat (first | exact Split.nil | apply Split.cons (by repeat (first | exact Fnd.here | apply Fnd.there))))
  rintro ⟨l, hl, h01⟩
  refine cw_seq ?_
  obtain ⟨l1, hl1, h011, he1, hk1⟩ : ∃ l1 : List Nat, l1.length = n ∧ (∀ x ∈ l1, x = 0 ∨ x = 1) ∧ mvL 3 l (3 + k) 0 1 = l1 ∧ l1[k]? = some 1 := by
    have hkl : k < l.length := by omega
    have hge := List.getElem?_eq_getElem hkl
    rcases h01 l[k] (List.getElem_mem hkl) with hs | hs
    · exact ⟨l.set k 1, by simpa using hl, fun x hx => (List.mem_or_eq_of_mem_set hx).elim (h01 x) .inr, mvL3_y (by rw [hge, hs]), by rw [List.getElem?_set_self hkl]⟩
    · exact ⟨l, hl, h01, mvL3_n (by rw [hge, hs]; simp), by rw [hge, hs]⟩
  have hH := ghold_spec b bl 3 l (3 + k) (by omega) (by omega) (by omega)
  rw [isB_3 k 0 l, he1] at hH
  refine cw_region ?_
  refine ow_y (y_move rfl) ?_
  refine ow_y (y_and rfl rfl) ?_
  refine ow_y (y_move rfl) ?_
  refine ow_y (y_remI rfl rfl (by rw [and_255 .i64 (by decide)]; omega)) ?_
  refine ow_y (y_addI rfl rfl (by rw [and_255 .i64 (by decide), hk]; omega)) ?_
  refine ow_y (y_assign rfl) ?_
  refine ow_nil ?_
  rw [and_255 .i64 (by decide), hk]
  refine kw_code (fun _ _ h => h) ?_
  refine cw_seq ?_
  refine cw_region ?_
  refine ow_y (y_move rfl) ?_
  refine ow_y (y_move rfl) ?_
  refine ow_gives rfl F.hb18 rfl (hH) (by repeat (first | exact Split.nil | apply Split.cons (by repeat (first | exact Fnd.here | apply Fnd.there)))) ?_
  simp only [List.cons_append, List.nil_append]
  refine ow_nil ?_
  refine kw_code (fun _ _ h => h) ?_
  refine cw_seq ?_
  refine cw_region ?_
  refine ow_y (y_move rfl) ?_
  refine ow_givesE rfl F.hb22 rfl (gall_spec b bl 3 l1 (by omega) (by omega)) (by repeat (first | exact Split.nil | apply Split.cons (by repeat (first | exact Fnd.here | apply Fnd.there)))) ?_
  rintro v51 _
  simp only [List.cons_append, List.nil_append]
  refine ow_y (y_len_row F.sl35 rfl (by repeat (first | exact Fnd.here | apply Fnd.there))) ?_
  refine ow_y (y_move rfl) ?_
  refine ow_gives rfl F.hb21 rfl (gFree_spec b bl 3 l1) (by repeat (first | exact Split.nil | apply Split.cons (by repeat (first | exact Fnd.here | apply Fnd.there)))) ?_
  simp only [List.cons_append, List.nil_append]
  refine ow_y (y_assign rfl) ?_
  refine ow_y (y_assign rfl) ?_
  refine ow_nil ?_
  refine kw_code (fun _ _ h => h) ?_
  refine cw_seq ?_
  refine cw_seq ?_
  have c2 : l1.count 2 = 0 := List.count_eq_zero.2 (fun h => by rcases h011 2 h with h | h <;> omega)
  have hkl1 : k < l1.length := by omega
  have hset := fun a b => List.count_set (l := l1) (a := a) (b := b) (i := k) hkl1
  have hk1' : l1[k] = 1 := by rw [List.getElem?_eq_getElem (by omega)] at hk1; exact Option.some.inj hk1
  simp only [hk1'] at hset
  have hc1 : 0 < l1.count 1 := List.count_pos_iff.2 (hk1' ▸ List.getElem_mem _)
  have hc0l : l1.count 0 ≤ l1.length := List.count_le_length
  have hL := glater_spec b bl 3 l1 (3 + k) (by omega) (by omega) (by omega)
  rw [isB_3 k 1 l1, decide_eq_true hk1, mvL3_y hk1] at hL
  have hl2 : (l1.set k 2).length ≤ 5000 := by simp; omega
  have hk2' : (l1.set k 2)[k]? = some 2 := by rw [List.getElem?_set_self (by omega)]
  have hI := gIs_spec b bl 3 (l1.set k 2) (3 + k) (by omega) (by omega) hl2
  rw [isB_3 k 1, hk2'] at hI
  have hF := gFree_spec b bl 3 (l1.set k 2)
  have hLa := gLate_spec b bl 3 (l1.set k 2)
  have hB := gback_spec b bl 3 (l1.set k 2) (3 + k) (by omega) (by omega) hl2
  rw [isB_3 k 2, decide_eq_true hk2', mvL3_y hk2', List.set_set] at hB
  have hself : l1.set k 1 = l1 := by rw [← hk1']; exact List.set_getElem_self (by omega)
  rw [hself] at hB
  have hI2 := gIs_spec b bl 3 l1 (3 + k) (by omega) (by omega) (by omega)
  rw [isB_3 k 1, decide_eq_true hk1] at hI2
  have hLa2 := gLate_spec b bl 3 l1
  have hG := ggive_spec b bl 3 l1 (3 + k) (by omega) (by omega) (by omega)
  rw [isB_3 k 1 l1, decide_eq_true hk1, mvL3_y hk1] at hG
  have hF2 := gFree_spec b bl 3 (l1.set k 0)
  have f1 : (l1.set k 2).count 0 = l1.count 0 := by rw [hset]; simp
  have f2 : (l1.set k 2).count 2 = 1 := by rw [hset]; simp [c2]
  have f3 : (l1.set k 0).count 0 = l1.count 0 + 1 := by rw [hset]; simp
  have f4 : (l1.set k 0).count 1 = l1.count 1 - 1 := by rw [hset]; simp
  rw [f1] at hF
  rw [f2] at hLa
  rw [c2] at hLa2
  rw [f3] at hF2
  refine cw_region ?_
  refine ow_y (y_move rfl) ?_
  refine ow_y (y_move rfl) ?_
  refine ow_gives rfl F.hb23 rfl (hL) (by repeat (first | exact Split.nil | apply Split.cons (by repeat (first | exact Fnd.here | apply Fnd.there)))) ?_
  simp only [List.cons_append, List.nil_append]
  refine ow_y (y_not rfl) ?_
  refine ow_y (y_move rfl) ?_
  refine ow_yg (y_move rfl) (fun a w hh => (want_of rfl rfl rfl hh).trans (wFF (by first | rfl | exact decide_eq_false (by omega)))) ?_
  refine ow_yg (y_move rfl) (fun a w hh => (want_of rfl rfl rfl hh).trans (wFF (by first | rfl | exact decide_eq_false (by omega)))) ?_
  refine ow_want (fun a w hh => (want_of rfl rfl rfl hh).trans (wFF (by first | rfl | exact decide_eq_false (by omega)))) ?_
  refine ow_gives rfl F.hb24 rfl (hI) (by repeat (first | exact Split.nil | apply Split.cons (by repeat (first | exact Fnd.here | apply Fnd.there)))) ?_
  simp only [List.cons_append, List.nil_append]
  refine ow_y (y_pickF rfl (by first | rfl | exact decide_eq_false (by omega)) rfl) ?_
  refine ow_y (y_move rfl) ?_
  refine ow_yg (y_move rfl) (fun a w hh => (want_of rfl rfl rfl hh).trans (wFF (by first | rfl | exact decide_eq_false (by omega)))) ?_
  refine ow_want (fun a w hh => (want_of rfl rfl rfl hh).trans (wFF (by first | rfl | exact decide_eq_false (by omega)))) ?_
  refine ow_gives rfl F.hb21 rfl (hF) (by repeat (first | exact Split.nil | apply Split.cons (by repeat (first | exact Fnd.here | apply Fnd.there)))) ?_
  simp only [List.cons_append, List.nil_append]
  refine ow_yg (y_move rfl) (fun a w hh => (want_of rfl rfl rfl hh).trans (wFF (by first | rfl | exact decide_eq_false (by omega)))) ?_
  refine ow_yg (y_neq rfl rfl) (fun a w hh => (want_of rfl rfl rfl hh).trans (wFF (by first | rfl | exact decide_eq_false (by omega)))) ?_
  refine ow_y (y_pickF rfl (by first | rfl | exact decide_eq_false (by omega)) rfl) ?_
  refine ow_y (y_move rfl) ?_
  refine ow_yg (y_move rfl) (fun a w hh => (want_of rfl rfl rfl hh).trans (wFF (by simp))) ?_
  refine ow_want (fun a w hh => (want_of rfl rfl rfl hh).trans (wFF (by simp))) ?_
  refine ow_gives rfl F.hb25 rfl (hLa) (by repeat (first | exact Split.nil | apply Split.cons (by repeat (first | exact Fnd.here | apply Fnd.there)))) ?_
  simp only [List.cons_append, List.nil_append]
  refine ow_yg (y_neq rfl rfl) (fun a w hh => (want_of rfl rfl rfl hh).trans (wFF (by simp))) ?_
  refine ow_y (y_pickF rfl (by simp) rfl) ?_
  refine ow_y (y_move rfl) ?_
  refine ow_yg (y_move rfl) (fun a w hh => (want_of rfl rfl rfl hh).trans (wFF (by first | rfl | exact decide_eq_false (by omega)))) ?_
  refine ow_yg (y_move rfl) (fun a w hh => (want_of rfl rfl rfl hh).trans (wFF (by first | rfl | exact decide_eq_false (by omega)))) ?_
  refine ow_want (fun a w hh => (want_of rfl rfl rfl hh).trans (wFF (by first | rfl | exact decide_eq_false (by omega)))) ?_
  refine ow_gives rfl F.hb26 rfl (hB) (by repeat (first | exact Split.nil | apply Split.cons (by repeat (first | exact Fnd.here | apply Fnd.there)))) ?_
  simp only [List.cons_append, List.nil_append]
  refine ow_yg (y_not rfl) (fun a w hh => (want_of rfl rfl rfl hh).trans (wFF (by first | rfl | exact decide_eq_false (by omega)))) ?_
  refine ow_y (y_pickF rfl (by first | rfl | exact decide_eq_false (by omega)) rfl) ?_
  refine ow_y (y_move rfl) ?_
  refine ow_yg (y_move rfl) (fun a w hh => (want_of rfl rfl rfl hh).trans (wFF (by first | rfl | exact decide_eq_false (by omega)))) ?_
  refine ow_yg (y_move rfl) (fun a w hh => (want_of rfl rfl rfl hh).trans (wFF (by first | rfl | exact decide_eq_false (by omega)))) ?_
  refine ow_want (fun a w hh => (want_of rfl rfl rfl hh).trans (wFF (by first | rfl | exact decide_eq_false (by omega)))) ?_
  refine ow_gives rfl F.hb24 rfl (hI2) (by repeat (first | exact Split.nil | apply Split.cons (by repeat (first | exact Fnd.here | apply Fnd.there)))) ?_
  simp only [List.cons_append, List.nil_append]
  refine ow_yg (y_not rfl) (fun a w hh => (want_of rfl rfl rfl hh).trans (wFF (by first | rfl | exact decide_eq_false (by omega)))) ?_
  refine ow_y (y_pickF rfl (by first | rfl | exact decide_eq_false (by omega)) rfl) ?_
  refine ow_y (y_move rfl) ?_
  refine ow_yg (y_move rfl) (fun a w hh => (want_of rfl rfl rfl hh).trans (wFF (by first | rfl | exact decide_eq_false (by omega)))) ?_
  refine ow_want (fun a w hh => (want_of rfl rfl rfl hh).trans (wFF (by first | rfl | exact decide_eq_false (by omega)))) ?_
  refine ow_gives rfl F.hb25 rfl (hLa2) (by repeat (first | exact Split.nil | apply Split.cons (by repeat (first | exact Fnd.here | apply Fnd.there)))) ?_
  simp only [List.cons_append, List.nil_append]
  refine ow_yg (y_neq rfl rfl) (fun a w hh => (want_of rfl rfl rfl hh).trans (wFF (by first | rfl | exact decide_eq_false (by omega)))) ?_
  refine ow_y (y_pickF rfl (by first | rfl | exact decide_eq_false (by omega)) rfl) ?_
  refine ow_y (y_move rfl) ?_
  refine ow_yg (y_move rfl) (fun a w hh => (want_of rfl rfl rfl hh).trans (wFF (by first | rfl | exact decide_eq_false (by omega)))) ?_
  refine ow_yg (y_move rfl) (fun a w hh => (want_of rfl rfl rfl hh).trans (wFF (by first | rfl | exact decide_eq_false (by omega)))) ?_
  refine ow_want (fun a w hh => (want_of rfl rfl rfl hh).trans (wFF (by first | rfl | exact decide_eq_false (by omega)))) ?_
  refine ow_gives rfl F.hb27 rfl (hG) (by repeat (first | exact Split.nil | apply Split.cons (by repeat (first | exact Fnd.here | apply Fnd.there)))) ?_
  simp only [List.cons_append, List.nil_append]
  refine ow_yg (y_not rfl) (fun a w hh => (want_of rfl rfl rfl hh).trans (wFF (by first | rfl | exact decide_eq_false (by omega)))) ?_
  refine ow_y (y_pickF rfl (by first | rfl | exact decide_eq_false (by omega)) rfl) ?_
  refine ow_y (y_move rfl) ?_
  refine ow_yg (y_move rfl) (fun a w hh => (want_of rfl rfl rfl hh).trans (wFF (by first | rfl | exact decide_eq_false (by omega)))) ?_
  refine ow_want (fun a w hh => (want_of rfl rfl rfl hh).trans (wFF (by first | rfl | exact decide_eq_false (by omega)))) ?_
  refine ow_gives rfl F.hb21 rfl (hF2) (by repeat (first | exact Split.nil | apply Split.cons (by repeat (first | exact Fnd.here | apply Fnd.there)))) ?_
  simp only [List.cons_append, List.nil_append]
  refine ow_yg (y_move rfl) (fun a w hh => (want_of rfl rfl rfl hh).trans (wFF (by first | rfl | exact decide_eq_false (by omega)))) ?_
  refine ow_yg (y_addI rfl rfl (by omega)) (fun a w hh => (want_of rfl rfl rfl hh).trans (wFF (by first | rfl | exact decide_eq_false (by omega)))) ?_
  refine ow_yg (y_neq rfl rfl) (fun a w hh => (want_of rfl rfl rfl hh).trans (wFF (by first | rfl | exact decide_eq_false (by omega)))) ?_
  refine ow_y (y_pickF rfl (by first | rfl | exact decide_eq_false (by omega)) rfl) ?_
  refine ow_nil ?_
  refine kw_code (fun _ _ h => h) ?_
  refine cw_false rfl (by simp) ?_
  refine cw_skip ?_
  refine kw_code (fun _ _ h => h) ?_
  refine cw_seq ?_
  have hl4 : (l1.set k 0).length ≤ 5000 := by simp; omega
  obtain ⟨i, hfi, hik⟩ : ∃ i, (l1.set k 0).findIdx? (· == 0) = some i ∧ i ≤ k := by
    cases hfi : (l1.set k 0).findIdx? (· == 0) with
    | none =>
      rw [List.findIdx?_eq_none_iff] at hfi
      exact absurd (hfi 0 (List.mem_iff_getElem?.2 ⟨k, by rw [List.getElem?_set_self (by omega)]⟩)) (by decide)
    | some i =>
      refine ⟨i, rfl, ?_⟩
      rcases Nat.lt_or_ge k i with h | h
      · have := (List.findIdx?_eq_some_iff_getElem.1 hfi).2.2 k h
        simp at this
      · exact h
  obtain ⟨hil, hi0, _⟩ := List.findIdx?_eq_some_iff_getElem.1 hfi
  have hi0' : (l1.set k 0)[i] = 0 := by simpa using hi0
  have hT := gtake_spec b bl 3 (l1.set k 0) (by omega) hl4
  rw [hfi] at hT
  have hset2 := fun a b => List.count_set (l := l1.set k 0) (a := a) (b := b) (i := i) hil
  simp only [hi0'] at hset2
  have e1 : ((l1.set k 0).set i 1).count 1 = l1.count 1 := by rw [hset2, f4]; simp; omega
  have e0 : ((l1.set k 0).set i 1).count 0 = l1.count 0 := by rw [hset2, f3]; simp
  have hl5 : ((l1.set k 0).set i 1).length ≤ 5000 := by simp; omega
  have hA2 := gall_spec b bl 3 ((l1.set k 0).set i 1) (by omega) hl5
  rw [e1] at hA2
  have hF3 := gFree_spec b bl 3 ((l1.set k 0).set i 1)
  rw [e0] at hF3
  refine cw_region ?_
  refine ow_y (y_move rfl) ?_
  refine ow_gives rfl F.hb19 rfl (hT) (by repeat (first | exact Split.nil | apply Split.cons (by repeat (first | exact Fnd.here | apply Fnd.there)))) ?_
  simp only [List.cons_append, List.nil_append]
  refine ow_y (y_move rfl) ?_
  refine ow_y (y_ext rfl rfl) ?_
  refine ow_y (y_ext rfl rfl) ?_
  refine ow_y (y_assign rfl) ?_
  refine ow_y (y_assign rfl) ?_
  refine ow_nil ?_
  refine kw_code (fun _ _ h => h) ?_
  refine cw_seq ?_
  refine cw_region ?_
  refine ow_y (y_move rfl) ?_
  refine ow_y (y_move rfl) ?_
  refine ow_yg (y_move rfl) (fun a w hh => (want_of rfl rfl rfl hh).trans (wTT (by first | rfl | exact decide_eq_true (by omega)))) ?_
  refine ow_yg (y_move rfl) (fun a w hh => (want_of rfl rfl rfl hh).trans (wTT (by first | rfl | exact decide_eq_true (by omega)))) ?_
  refine ow_yg (y_leq rfl rfl) (fun a w hh => (want_of rfl rfl rfl hh).trans (wTT (by first | rfl | exact decide_eq_true (by omega)))) ?_
  refine ow_y (y_pickT rfl (by first | rfl | exact decide_eq_true (by omega)) rfl) ?_
  refine ow_y (y_move rfl) ?_
  refine ow_yg (y_move rfl) (fun a w hh => (want_of rfl rfl rfl hh).trans (wTT (by first | rfl | exact decide_eq_true (by omega)))) ?_
  refine ow_want (fun a w hh => (want_of rfl rfl rfl hh).trans (wTT (by first | rfl | exact decide_eq_true (by omega)))) ?_
  refine ow_givesE rfl F.hb22 rfl (hA2) (by repeat (first | exact Split.nil | apply Split.cons (by repeat (first | exact Fnd.here | apply Fnd.there)))) ?_
  rintro v118 _
  simp only [List.cons_append, List.nil_append]
  refine ow_yg (y_len_row F.sl35 rfl (by repeat (first | exact Fnd.here | apply Fnd.there))) (fun a w hh => (want_of rfl rfl rfl hh).trans (wTT (by first | rfl | exact decide_eq_true (by omega)))) ?_
  refine ow_yg (y_move rfl) (fun a w hh => (want_of rfl rfl rfl hh).trans (wTT (by first | rfl | exact decide_eq_true (by omega)))) ?_
  refine ow_yg (y_eql rfl rfl) (fun a w hh => (want_of rfl rfl rfl hh).trans (wTT (by first | rfl | exact decide_eq_true (by omega)))) ?_
  refine ow_y (y_pickT rfl (by first | rfl | exact decide_eq_true (by omega)) rfl) ?_
  refine ow_y (y_move rfl) ?_
  refine ow_yg (y_move rfl) (fun a w hh => (want_of rfl rfl rfl hh).trans (wTT (by simp))) ?_
  refine ow_want (fun a w hh => (want_of rfl rfl rfl hh).trans (wTT (by simp))) ?_
  refine ow_gives rfl F.hb21 rfl (hF3) (by repeat (first | exact Split.nil | apply Split.cons (by repeat (first | exact Fnd.here | apply Fnd.there)))) ?_
  simp only [List.cons_append, List.nil_append]
  refine ow_yg (y_move rfl) (fun a w hh => (want_of rfl rfl rfl hh).trans (wTT (by simp))) ?_
  refine ow_yg (y_eql rfl rfl) (fun a w hh => (want_of rfl rfl rfl hh).trans (wTT (by simp))) ?_
  refine ow_y (y_pickT rfl (by simp) rfl) ?_
  refine ow_y (y_assign rfl) ?_
  refine ow_nil ?_
  refine kw_code (fun _ _ h => h) ?_
  refine cw_retG (fun _ _ h => h) rfl (by simp) (by repeat (first | exact Split.nil | apply Split.cons (by repeat (first | exact Fnd.here | apply Fnd.there))))
end Go.Proofs.Ytofffddcbjkdcaa
