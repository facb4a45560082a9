/- Part of the proof; no statement of its own: S6. -/
import Derived.Test.YtoolmpfkbaffcaaDoorFacts
import Derived.Test.YtoolmpfkbaffcaaDoorS5
import Derived.Test.YtoolmpfkbaffcaaDoorSc2
set_option linter.all false
set_option maxRecDepth 4000
set_option maxHeartbeats 4000000
namespace Go.Proofs.YtoolmpfkbaffcaaDoor
open Go.Sl Go.Sc
theorem ex_sb (s : ByteArray) : ∃ l, s = sb l := ⟨s.data.toList, Go.WideShapes.bytes_inj (by simp [sb])⟩
theorem sb_list (l : List UInt8) : (sb l).data.toList = l := by simp [sb]
theorem sb_size (l : List UInt8) : (sb l).size = l.length := rfl
theorem sb_inj {a b : List UInt8} : sb a = sb b ↔ a = b := ⟨fun h => by simpa [sb] using h, fun h => h ▸ rfl⟩
theorem sb_cut (l : List UInt8) (i j : Nat) : (sb l).extract i j = sb ((l.take j).drop i) := by
  apply Go.WideShapes.bytes_inj
  simp [sb, List.extract_eq_take_drop, List.drop_take]
def rnumV (l : List UInt8) : Value := match refNum l with
  | some v => .tuple #[.int .i64 v, .bool true]
  | none => .tuple #[.int .i64 0, .bool false]
theorem wrap_smI (x : Int) (h0 : -9223372036854775808 ≤ x) (h1 : x ≤ 9223372036854775807) : IntKind.i64.wrap x = x := by rw [IntKind.wrap_i64]; omega
theorem rn_none {c : UInt8} {r tl : List UInt8} (htl : (c = 45 ∧ tl = r ∧ r ≠ [48]) ∨ (c ≠ 45 ∧ tl = c :: r)) (h : tl = [] ∨ 7 < tl.length ∨ (1 < tl.length ∧ tl.head? = some 48)) : refNum (c :: r) = none := by
  rcases htl with ⟨rfl, rfl, hr⟩ | ⟨hc, rfl⟩
  · unfold refNum; simp only [List.head?_cons, if_true, List.tail_cons, true_and]; rw [if_pos (.inr h)]
  · unfold refNum
    simp only [List.head?_cons, Option.some.injEq, hc, if_false, false_and, false_or] at h ⊢
    rw [if_pos h]
theorem rn_some {c : UInt8} {r tl : List UInt8} (htl : (c = 45 ∧ tl = r ∧ r ≠ [48]) ∨ (c ≠ 45 ∧ tl = c :: r)) (h : ¬ (tl = [] ∨ 7 < tl.length ∨ (1 < tl.length ∧ tl.head? = some 48))) :
    refNum (c :: r) = (match Lib.decFrom 0 tl with | none => none | some n => if 1000000 < n then none else some (if c = 45 then -(n : Int) else n)) := by
  rcases htl with ⟨rfl, rfl, hr⟩ | ⟨hc, rfl⟩
  · unfold refNum; simp only [List.head?_cons, if_true, List.tail_cons, true_and]; rw [if_neg (by rintro (h1 | h1); exact hr h1; exact h h1)]; rfl
  · unfold refNum
    simp only [List.head?_cons, Option.some.injEq, hc, if_false, false_and, false_or] at h ⊢
    rw [if_neg h]; rfl
theorem rn_neg {c : UInt8} {r tl : List UInt8} (htl : (c = 45 ∧ tl = r ∧ r ≠ [48]) ∨ (c ≠ 45 ∧ tl = c :: r)) (h : tl ≠ c :: r) : c = 45 := by
  rcases htl with ⟨hc, _⟩ | ⟨_, rfl⟩
  · exact hc
  · exact absurd rfl h
theorem rn_pos {c : UInt8} {r tl : List UInt8} (htl : (c = 45 ∧ tl = r ∧ r ≠ [48]) ∨ (c ≠ 45 ∧ tl = c :: r)) (h : tl = c :: r) : ¬ c = 45 := by
  rcases htl with ⟨_, rfl, _⟩ | ⟨hc, _⟩
  · exact absurd h (fun e => by have := congrArg List.length e; simp at this)
  · exact hc
theorem rnumber_spec (l : List UInt8) (hs : l.length ≤ 1000000) : Does Tryd.prog 13 #[.string (sb l)] [] (Gives (rnumV l) []) := by
  cases l with
  | nil =>
    refine does_enter Tryd.func13 rfl Tryd.ntmps13 rfl (fun R w0 => ?_)
    simp only [envOf, List.cons_append, List.nil_append]
    refine cw_seq ?_
    refine cw_region ?_
    refine ow_y (y_assign rfl) ?_
    refine ow_y (y_assign rfl) ?_
    refine ow_nil ?_
    refine kw_code (fun _ _ h => h) ?_
    refine cw_seq ?_
    refine cw_region ?_
    refine ow_y (y_move rfl) ?_
    refine ow_y (y_assign rfl) ?_
    refine ow_nil ?_
    refine kw_code (fun _ _ h => h) ?_
    refine cw_seq ?_
    refine cw_seq ?_
    refine cw_region ?_
    refine ow_y (y_move rfl) ?_
    refine ow_y (y_len_str F.st9 rfl) ?_
    refine ow_y (y_gtr rfl rfl) ?_
    refine ow_y (y_move rfl) ?_
    refine ow_skip rfl (fun a w hh => (want_of rfl rfl rfl hh).trans (wTF rfl)) ?_
    refine ow_skip rfl (fun a w hh => (want_of rfl rfl rfl hh).trans (wTF rfl)) ?_
    refine ow_skip rfl (fun a w hh => (want_of rfl rfl rfl hh).trans (wTF rfl)) ?_
    refine ow_y (y_pickF rfl rfl rfl) ?_
    refine ow_nil ?_
    refine kw_code (fun _ _ h => h) ?_
    refine cw_false rfl (by first | rfl | exact decide_eq_false (by omega)) ?_
    refine cw_skip ?_
    refine kw_code (fun _ _ h => h) ?_
    refine cw_seq ?_
    refine cw_seq ?_
    refine cw_region ?_
    refine ow_y (y_move rfl) ?_
    refine ow_y (y_str_eqlD rfl rfl) ?_
    refine ow_y (y_move rfl) ?_
    refine ow_skip rfl (fun a w hh => (want_of rfl rfl rfl hh).trans (wFT rfl)) ?_
    refine ow_skip rfl (fun a w hh => (want_of rfl rfl rfl hh).trans (wFT rfl)) ?_
    refine ow_skip rfl (fun a w hh => (want_of rfl rfl rfl hh).trans (wFT rfl)) ?_
    refine ow_y (y_pickT rfl rfl rfl) ?_
    refine ow_y (y_move rfl) ?_
    refine ow_skip rfl (fun a w hh => (want_of rfl rfl rfl hh).trans (wFT rfl)) ?_
    refine ow_skip rfl (fun a w hh => (want_of rfl rfl rfl hh).trans (wFT rfl)) ?_
    refine ow_skip rfl (fun a w hh => (want_of rfl rfl rfl hh).trans (wFT rfl)) ?_
    refine ow_skip rfl (fun a w hh => (want_of rfl rfl rfl hh).trans (wFT rfl)) ?_
    refine ow_skip rfl (fun a w hh => want_of_undef rfl rfl rfl hh) ?_
    refine ow_skip rfl (fun a w hh => want_of_undef rfl rfl rfl hh) ?_
    refine ow_skip rfl (fun a w hh => want_of_undef rfl rfl rfl hh) ?_
    refine ow_skip rfl (fun a w hh => (want_of rfl rfl rfl hh).trans (wFT rfl)) ?_
    refine ow_y (y_pickT rfl rfl rfl) ?_
    refine ow_nil ?_
    refine kw_code (fun _ _ h => h) ?_
    refine cw_true rfl (by first | rfl | exact decide_eq_true (by omega)) ?_
    refine cw_seq ?_
    refine cw_region ?_
    refine ow_y (y_assign rfl) ?_
    refine ow_y (y_assign rfl) ?_
    refine ow_nil ?_
    refine kw_code (fun _ _ h => h) ?_
    refine cw_retG (fun _ _ h => h) rfl rfl (by repeat (first | exact Split.nil | apply Split.cons (by repeat (first | exact Fnd.here | apply Fnd.there))))
  | cons c r =>
    have hsz := sb_size (c :: r)
    simp only [List.length_cons] at hsz hs
    refine does_enter Tryd.func13 rfl Tryd.ntmps13 rfl (fun R w0 => ?_)
    simp only [envOf, List.cons_append, List.nil_append]
    refine cw_seq ?_
    refine cw_region ?_
    refine ow_y (y_assign rfl) ?_
    refine ow_y (y_assign rfl) ?_
    refine ow_nil ?_
    refine kw_code (fun _ _ h => h) ?_
    refine cw_seq ?_
    refine cw_region ?_
    refine ow_y (y_move rfl) ?_
    refine ow_y (y_assign rfl) ?_
    refine ow_nil ?_
    refine kw_code (fun _ _ h => h) ?_
    refine cw_meetE (X := {x : List UInt8 // (c = 45 ∧ x = r ∧ r ≠ [48]) ∨ (c ≠ 45 ∧ x = c :: r)}) (fun x => [(0, .string (sb (c :: r))), (4, .string (sb x.1))]) (fun x => [R]) ?_ ?_
    · skip
      refine cw_seq ?_
      refine cw_region ?_
      refine ow_y (y_move rfl) ?_
      refine ow_y (y_len_str F.st9 rfl) ?_
      refine ow_y (y_gtr rfl rfl) ?_
      refine ow_y (y_move rfl) ?_
      refine ow_yg (y_move rfl) (fun a w hh => (want_of rfl rfl rfl hh).trans (wTT (by first | rfl | exact decide_eq_true (by omega)))) ?_
      refine ow_yg (y_byte F.st9 rfl rfl (by decide) (u := c) (by simp [sb])) (fun a w hh => (want_of rfl rfl rfl hh).trans (wTT (by first | rfl | exact decide_eq_true (by omega)))) ?_
      refine ow_yg (y_eql rfl rfl) (fun a w hh => (want_of rfl rfl rfl hh).trans (wTT (by first | rfl | exact decide_eq_true (by omega)))) ?_
      refine ow_y (y_pickT rfl (by first | rfl | exact decide_eq_true (by omega)) rfl) ?_
      refine ow_nil ?_
      refine kw_code (fun _ _ h => h) ?_
      refine cw_if rfl (fun hb15 => ?_) (fun hb15 => ?_)
      · skip
        have hc : c = 45 := UInt8.toNat_inj.1 (by have := of_decide_eq_true hb15; have e : (45 : UInt8).toNat = 45 := rfl; omega)
        refine cw_seq ?_
        refine cw_region ?_
        refine ow_y (y_move rfl) ?_
        refine ow_y (y_cutL F.st9 rfl rfl (by omega)) ?_
        refine ow_y (y_assign rfl) ?_
        refine ow_nil ?_
        rw [show (sb (c :: r)).extract (Int.toNat 1) (sb (c :: r)).size = sb r from by rw [sb_cut, hsz]; simp]
        refine kw_code (fun _ _ h => h) ?_
        refine cw_seq ?_
        refine cw_region ?_
        refine ow_y (y_move rfl) ?_
        refine ow_y (y_str_eqlD rfl rfl) ?_
        refine ow_nil ?_
        refine kw_code (fun _ _ h => h) ?_
        refine cw_if rfl (fun hb19 => ?_) (fun hb19 => ?_)
        · skip
          refine cw_seq ?_
          refine cw_region ?_
          refine ow_y (y_assign rfl) ?_
          refine ow_y (y_assign rfl) ?_
          refine ow_nil ?_
          refine kw_code (fun _ _ h => h) ?_
          refine cw_retG (fun _ _ h => h) rfl (by have h := of_decide_eq_true hb19; have e : r = [48] := sb_inj.1 h; subst e; subst hc; rfl) (by repeat (first | exact Split.nil | apply Split.cons (by repeat (first | exact Fnd.here | apply Fnd.there))))
        · skip
          refine cw_skip ?_
          refine kw_meetE (fun _ _ h => h) (⟨r, .inl ⟨hc, rfl, fun e => (of_decide_eq_false hb19) (by rw [e]; rfl)⟩⟩) (by repeat (first | exact Sub.nil | refine Sub.cons rfl ?_)) (by repeat (first | exact Split.nil | apply Split.cons (by repeat (first | exact Fnd.here | apply Fnd.there))))
      · skip
        have hc : c ≠ 45 := by rintro rfl; exact absurd hb15 (by decide)
        refine cw_skip ?_
        refine kw_meetE (fun _ _ h => h) (⟨c :: r, .inr ⟨hc, rfl⟩⟩) (by repeat (first | exact Sub.nil | refine Sub.cons rfl ?_)) (by repeat (first | exact Split.nil | apply Split.cons (by repeat (first | exact Fnd.here | apply Fnd.there))))
    rintro ⟨tl, htl⟩
    dsimp only
    have htz := sb_size tl
    have htn : tl.length ≤ 1000000 := by rcases htl with ⟨_, rfl, _⟩ | ⟨_, rfl⟩ <;> first | omega | (simp; omega)
    have hnone : (tl = [] ∨ 7 < tl.length ∨ (1 < tl.length ∧ tl.head? = some 48)) → refNum (c :: r) = none := rn_none htl
    have hsome : ¬ (tl = [] ∨ 7 < tl.length ∨ (1 < tl.length ∧ tl.head? = some 48)) → refNum (c :: r) = (match Lib.decFrom 0 tl with | none => none | some n => if 1000000 < n then none else some (if c = 45 then -(n : Int) else n)) := rn_some htl
    refine cw_meetE (X := {x : Unit // ¬ (tl = [] ∨ 7 < tl.length ∨ (1 < tl.length ∧ tl.head? = some 48))}) (fun x => [(0, .string (sb (c :: r))), (4, .string (sb tl))]) (fun x => [R]) ?_ ?_
    · skip
      refine cw_seq ?_
      by_cases hz : tl = []
      · skip
        refine cw_region ?_
        refine ow_y (y_move rfl) ?_
        refine ow_y (y_str_eqlD rfl rfl) ?_
        refine ow_y (y_move rfl) ?_
        refine ow_skip rfl (fun a w hh => (want_of rfl rfl rfl hh).trans (wFT (by subst hz; rfl))) ?_
        refine ow_skip rfl (fun a w hh => (want_of rfl rfl rfl hh).trans (wFT (by subst hz; rfl))) ?_
        refine ow_skip rfl (fun a w hh => (want_of rfl rfl rfl hh).trans (wFT (by subst hz; rfl))) ?_
        refine ow_y (y_pickT rfl (by subst hz; rfl) rfl) ?_
        refine ow_y (y_move rfl) ?_
        refine ow_skip rfl (fun a w hh => (want_of rfl rfl rfl hh).trans (wFT (by subst hz; rfl))) ?_
        refine ow_skip rfl (fun a w hh => (want_of rfl rfl rfl hh).trans (wFT (by subst hz; rfl))) ?_
        refine ow_skip rfl (fun a w hh => (want_of rfl rfl rfl hh).trans (wFT (by subst hz; rfl))) ?_
        refine ow_skip rfl (fun a w hh => (want_of rfl rfl rfl hh).trans (wFT (by subst hz; rfl))) ?_
        refine ow_skip rfl (fun a w hh => want_of_undef rfl rfl rfl hh) ?_
        refine ow_skip rfl (fun a w hh => want_of_undef rfl rfl rfl hh) ?_
        refine ow_skip rfl (fun a w hh => want_of_undef rfl rfl rfl hh) ?_
        refine ow_skip rfl (fun a w hh => (want_of rfl rfl rfl hh).trans (wFT (by subst hz; rfl))) ?_
        refine ow_y (y_pickT rfl (by subst hz; rfl) rfl) ?_
        refine ow_nil ?_
        refine kw_code (fun _ _ h => h) ?_
        refine cw_true rfl rfl ?_
        refine cw_seq ?_
        refine cw_region ?_
        refine ow_y (y_assign rfl) ?_
        refine ow_y (y_assign rfl) ?_
        refine ow_nil ?_
        refine kw_code (fun _ _ h => h) ?_
        refine cw_retG (fun _ _ h => h) rfl (by rw [rnumV, hnone (.inl hz)]) (by repeat (first | exact Split.nil | apply Split.cons (by repeat (first | exact Fnd.here | apply Fnd.there))))
      · skip
        by_cases h7 : (7 : Int) < tl.length
        · skip
          refine cw_region ?_
          refine ow_y (y_move rfl) ?_
          refine ow_y (y_str_eqlD rfl rfl) ?_
          refine ow_y (y_move rfl) ?_
          refine ow_yg (y_move rfl) (fun a w hh => (want_of rfl rfl rfl hh).trans (wFF (decide_eq_false (fun h => hz (sb_inj.1 h))))) ?_
          refine ow_yg (y_len_str F.st9 rfl) (fun a w hh => (want_of rfl rfl rfl hh).trans (wFF (decide_eq_false (fun h => hz (sb_inj.1 h))))) ?_
          refine ow_yg (y_gtr rfl rfl) (fun a w hh => (want_of rfl rfl rfl hh).trans (wFF (decide_eq_false (fun h => hz (sb_inj.1 h))))) ?_
          refine ow_y (y_pickF rfl (decide_eq_false (fun h => hz (sb_inj.1 h))) rfl) ?_
          refine ow_y (y_move rfl) ?_
          refine ow_skip rfl (fun a w hh => (want_of rfl rfl rfl hh).trans (wFT (by first | rfl | exact decide_eq_true (by omega)))) ?_
          refine ow_skip rfl (fun a w hh => (want_of rfl rfl rfl hh).trans (wFT (by first | rfl | exact decide_eq_true (by omega)))) ?_
          refine ow_skip rfl (fun a w hh => (want_of rfl rfl rfl hh).trans (wFT (by first | rfl | exact decide_eq_true (by omega)))) ?_
          refine ow_skip rfl (fun a w hh => (want_of rfl rfl rfl hh).trans (wFT (by first | rfl | exact decide_eq_true (by omega)))) ?_
          refine ow_skip rfl (fun a w hh => want_of_undef rfl rfl rfl hh) ?_
          refine ow_skip rfl (fun a w hh => want_of_undef rfl rfl rfl hh) ?_
          refine ow_skip rfl (fun a w hh => want_of_undef rfl rfl rfl hh) ?_
          refine ow_skip rfl (fun a w hh => (want_of rfl rfl rfl hh).trans (wFT (by first | rfl | exact decide_eq_true (by omega)))) ?_
          refine ow_y (y_pickT rfl (by first | rfl | exact decide_eq_true (by omega)) rfl) ?_
          refine ow_nil ?_
          refine kw_code (fun _ _ h => h) ?_
          refine cw_true rfl rfl ?_
          refine cw_seq ?_
          refine cw_region ?_
          refine ow_y (y_assign rfl) ?_
          refine ow_y (y_assign rfl) ?_
          refine ow_nil ?_
          refine kw_code (fun _ _ h => h) ?_
          refine cw_retG (fun _ _ h => h) rfl (by rw [rnumV, hnone (.inr (.inl (by omega)))]) (by repeat (first | exact Split.nil | apply Split.cons (by repeat (first | exact Fnd.here | apply Fnd.there))))
        · skip
          by_cases h1 : (1 : Int) < tl.length
          · skip
            refine cw_region ?_
            refine ow_y (y_move rfl) ?_
            refine ow_y (y_str_eqlD rfl rfl) ?_
            refine ow_y (y_move rfl) ?_
            refine ow_yg (y_move rfl) (fun a w hh => (want_of rfl rfl rfl hh).trans (wFF (decide_eq_false (fun h => hz (sb_inj.1 h))))) ?_
            refine ow_yg (y_len_str F.st9 rfl) (fun a w hh => (want_of rfl rfl rfl hh).trans (wFF (decide_eq_false (fun h => hz (sb_inj.1 h))))) ?_
            refine ow_yg (y_gtr rfl rfl) (fun a w hh => (want_of rfl rfl rfl hh).trans (wFF (decide_eq_false (fun h => hz (sb_inj.1 h))))) ?_
            refine ow_y (y_pickF rfl (decide_eq_false (fun h => hz (sb_inj.1 h))) rfl) ?_
            refine ow_y (y_move rfl) ?_
            refine ow_yg (y_move rfl) (fun a w hh => (want_of rfl rfl rfl hh).trans (wFF (by first | rfl | exact decide_eq_false (by omega)))) ?_
            refine ow_yg (y_len_str F.st9 rfl) (fun a w hh => (want_of rfl rfl rfl hh).trans (wFF (by first | rfl | exact decide_eq_false (by omega)))) ?_
            refine ow_yg (y_gtr rfl rfl) (fun a w hh => (want_of rfl rfl rfl hh).trans (wFF (by first | rfl | exact decide_eq_false (by omega)))) ?_
            refine ow_yg (y_move rfl) (fun a w hh => (want_of rfl rfl rfl hh).trans (wFF (by first | rfl | exact decide_eq_false (by omega)))) ?_
            refine ow_yg (y_move rfl) (fun a w hh => (want_of rfl rfl rfl hh).trans (wTT (by first | rfl | exact decide_eq_true (by omega)))) ?_
            refine ow_yg (y_byte F.st9 rfl rfl (by decide) (u := tl.head hz) (by rw [sb_list]; cases tl with | nil => exact absurd rfl hz | cons => rfl)) (fun a w hh => (want_of rfl rfl rfl hh).trans (wTT (by first | rfl | exact decide_eq_true (by omega)))) ?_
            refine ow_yg (y_eql rfl rfl) (fun a w hh => (want_of rfl rfl rfl hh).trans (wTT (by first | rfl | exact decide_eq_true (by omega)))) ?_
            refine ow_yg (y_pickT rfl (by first | rfl | exact decide_eq_true (by omega)) rfl) (fun a w hh => (want_of rfl rfl rfl hh).trans (wFF (by first | rfl | exact decide_eq_false (by omega)))) ?_
            refine ow_y (y_pickF rfl (by first | rfl | exact decide_eq_false (by omega)) rfl) ?_
            refine ow_nil ?_
            refine kw_code (fun _ _ h => h) ?_
            refine cw_if rfl (fun hb36 => ?_) (fun hb36 => ?_)
            · skip
              refine cw_seq ?_
              refine cw_region ?_
              refine ow_y (y_assign rfl) ?_
              refine ow_y (y_assign rfl) ?_
              refine ow_nil ?_
              refine kw_code (fun _ _ h => h) ?_
              refine cw_retG (fun _ _ h => h) rfl (by rw [rnumV, hnone (.inr (.inr ⟨by omega, by rw [List.head?_eq_some_head hz]; congr 1; exact UInt8.toNat_inj.1 (by have := of_decide_eq_true hb36; have e : (48 : UInt8).toNat = 48 := rfl; omega)⟩))]) (by repeat (first | exact Split.nil | apply Split.cons (by repeat (first | exact Fnd.here | apply Fnd.there))))
            · skip
              refine cw_skip ?_
              refine kw_meetE (fun _ _ h => h) (⟨(), by rintro (h | h | ⟨_, h⟩); exact hz h; omega; rw [List.head?_eq_some_head hz] at h; rw [Option.some.inj h] at hb36; exact absurd hb36 (by decide)⟩) (by repeat (first | exact Sub.nil | refine Sub.cons rfl ?_)) (by repeat (first | exact Split.nil | apply Split.cons (by repeat (first | exact Fnd.here | apply Fnd.there))))
          · skip
            refine cw_region ?_
            refine ow_y (y_move rfl) ?_
            refine ow_y (y_str_eqlD rfl rfl) ?_
            refine ow_y (y_move rfl) ?_
            refine ow_yg (y_move rfl) (fun a w hh => (want_of rfl rfl rfl hh).trans (wFF (decide_eq_false (fun h => hz (sb_inj.1 h))))) ?_
            refine ow_yg (y_len_str F.st9 rfl) (fun a w hh => (want_of rfl rfl rfl hh).trans (wFF (decide_eq_false (fun h => hz (sb_inj.1 h))))) ?_
            refine ow_yg (y_gtr rfl rfl) (fun a w hh => (want_of rfl rfl rfl hh).trans (wFF (decide_eq_false (fun h => hz (sb_inj.1 h))))) ?_
            refine ow_y (y_pickF rfl (decide_eq_false (fun h => hz (sb_inj.1 h))) rfl) ?_
            refine ow_y (y_move rfl) ?_
            refine ow_yg (y_move rfl) (fun a w hh => (want_of rfl rfl rfl hh).trans (wFF (by first | rfl | exact decide_eq_false (by omega)))) ?_
            refine ow_yg (y_len_str F.st9 rfl) (fun a w hh => (want_of rfl rfl rfl hh).trans (wFF (by first | rfl | exact decide_eq_false (by omega)))) ?_
            refine ow_yg (y_gtr rfl rfl) (fun a w hh => (want_of rfl rfl rfl hh).trans (wFF (by first | rfl | exact decide_eq_false (by omega)))) ?_
            refine ow_yg (y_move rfl) (fun a w hh => (want_of rfl rfl rfl hh).trans (wFF (by first | rfl | exact decide_eq_false (by omega)))) ?_
            refine ow_skip rfl (fun a w hh => (want_of rfl rfl rfl hh).trans (wTF (by first | rfl | exact decide_eq_false (by omega)))) ?_
            refine ow_skip rfl (fun a w hh => (want_of rfl rfl rfl hh).trans (wTF (by first | rfl | exact decide_eq_false (by omega)))) ?_
            refine ow_skip rfl (fun a w hh => (want_of rfl rfl rfl hh).trans (wTF (by first | rfl | exact decide_eq_false (by omega)))) ?_
            refine ow_yg (y_pickF rfl (by first | rfl | exact decide_eq_false (by omega)) rfl) (fun a w hh => (want_of rfl rfl rfl hh).trans (wFF (by first | rfl | exact decide_eq_false (by omega)))) ?_
            refine ow_y (y_pickF rfl (by first | rfl | exact decide_eq_false (by omega)) rfl) ?_
            refine ow_nil ?_
            refine kw_code (fun _ _ h => h) ?_
            refine cw_false rfl rfl ?_
            refine cw_skip ?_
            refine kw_meetE (fun _ _ h => h) (⟨(), by rintro (h | h | h); exact hz h; omega; omega⟩) (by repeat (first | exact Sub.nil | refine Sub.cons rfl ?_)) (by repeat (first | exact Split.nil | apply Split.cons (by repeat (first | exact Fnd.here | apply Fnd.there))))
    rintro ⟨_, hok⟩
    have hsm := hsome hok
    refine cw_seq ?_
    refine cw_region ?_
    refine ow_y (y_assign rfl) ?_
    refine ow_nil ?_
    refine kw_code (fun _ _ h => h) ?_
    refine cw_seq ?_
    refine cw_seq ?_
    refine cw_region ?_
    refine ow_y (y_assign rfl) ?_
    refine ow_nil ?_
    refine kw_code (fun _ _ h => h) ?_
    refine cw_block ?_
    refine cw_loop (X := {x : Nat × Nat // x.1 ≤ tl.length ∧ Lib.decFrom 0 (tl.take x.1) = some x.2 ∧ x.2 < 10 ^ x.1}) (fun x => [(0, .string (sb (c :: r))), (4, .string (sb tl)), (5, .int .i64 x.1.2), (6, .int .i64 x.1.1)]) (fun x => [R]) (fun x => tl.length - x.1.1) ⟨(0, 0), by omega, rfl, by decide⟩ (by repeat (first | exact Sub.nil | refine Sub.cons rfl ?_)) (by repeat (first | exact Split.nil | apply Split.cons (by repeat (first | exact Fnd.here | apply Fnd.there)))) ?_
    rintro ⟨⟨i, n⟩, hi, hn, hlt⟩ m0 hm0
    try simp only at hm0
    try dsimp only
    dsimp only at hi hn hlt
    have h7 : tl.length ≤ 7 := by rcases Nat.lt_or_ge 7 tl.length with h | h; exact absurd (.inr (.inl h)) hok; exact h
    have hp : n < 10000000 := Nat.lt_of_lt_of_le hlt (Nat.le_trans (Nat.pow_le_pow_right (by decide) (show i ≤ 7 by omega)) (by decide))
    refine cw_seq ?_
    refine cw_seq ?_
    refine cw_region ?_
    refine ow_y (y_move rfl) ?_
    refine ow_y (y_move rfl) ?_
    refine ow_y (y_len_str F.st9 rfl) ?_
    refine ow_y (y_lss rfl rfl) ?_
    refine ow_nil ?_
    refine kw_code (fun _ _ h => h) ?_
    refine cw_if rfl (fun hb40 => ?_) (fun hb40 => ?_)
    · skip
      have hit : i < tl.length := by have := of_decide_eq_true hb40; omega
      have hu : (sb tl).data.toList[i]? = some (tl[i]'hit) := by rw [sb_list]; exact List.getElem?_eq_getElem hit
      have hst : ∀ d, Lib.digitVal (tl[i]'hit) = some d → Lib.decFrom 0 (tl.take (i + 1)) = some (n * 10 + d) := fun d hd => by rw [List.take_succ, List.getElem?_eq_getElem hit, Option.toList_some, decFrom_append, hn, hd]; rfl
      have hno : Lib.digitVal (tl[i]'hit) = none → Lib.decFrom 0 tl = none := decFrom_bad tl i hit n hn
      generalize tl[i]'hit = ch at hu hst hno
      refine cw_skip ?_
      refine kw_code (fun _ _ h => h) ?_
      refine cw_seq ?_
      refine cw_block ?_
      refine cw_seq ?_
      refine cw_seq ?_
      by_cases hd : (ch.toNat : Int) < 48
      · skip
        refine cw_region ?_
        refine ow_y (y_move rfl) ?_
        refine ow_y (y_move rfl) ?_
        refine ow_y (y_byte F.st9 rfl rfl (by omega) (u := ch) hu) ?_
        refine ow_y (y_lss rfl rfl) ?_
        refine ow_y (y_move rfl) ?_
        refine ow_skip rfl (fun a w hh => (want_of rfl rfl rfl hh).trans (wFT (by first | rfl | exact decide_eq_true (by omega)))) ?_
        refine ow_skip rfl (fun a w hh => (want_of rfl rfl rfl hh).trans (wFT (by first | rfl | exact decide_eq_true (by omega)))) ?_
        refine ow_skip rfl (fun a w hh => (want_of rfl rfl rfl hh).trans (wFT (by first | rfl | exact decide_eq_true (by omega)))) ?_
        refine ow_skip rfl (fun a w hh => (want_of rfl rfl rfl hh).trans (wFT (by first | rfl | exact decide_eq_true (by omega)))) ?_
        refine ow_y (y_pickT rfl (by first | rfl | exact decide_eq_true (by omega)) rfl) ?_
        refine ow_nil ?_
        refine kw_code (fun _ _ h => h) ?_
        refine cw_true rfl (by first | rfl | exact decide_eq_true (by omega)) ?_
        refine cw_seq ?_
        refine cw_region ?_
        refine ow_y (y_assign rfl) ?_
        refine ow_y (y_assign rfl) ?_
        refine ow_nil ?_
        refine kw_code (fun _ _ h => h) ?_
        refine cw_retG (fun _ _ h => h) rfl (by rw [rnumV, hsm, hno (by unfold Lib.digitVal; rw [if_neg (by omega)])]) (by repeat (first | exact Split.nil | apply Split.cons (by repeat (first | exact Fnd.here | apply Fnd.there))))
      · skip
        refine cw_region ?_
        refine ow_y (y_move rfl) ?_
        refine ow_y (y_move rfl) ?_
        refine ow_y (y_byte F.st9 rfl rfl (by omega) (u := ch) hu) ?_
        refine ow_y (y_lss rfl rfl) ?_
        refine ow_y (y_move rfl) ?_
        refine ow_yg (y_move rfl) (fun a w hh => (want_of rfl rfl rfl hh).trans (wFF (by first | rfl | exact decide_eq_false (by omega)))) ?_
        refine ow_yg (y_move rfl) (fun a w hh => (want_of rfl rfl rfl hh).trans (wFF (by first | rfl | exact decide_eq_false (by omega)))) ?_
        refine ow_yg (y_byte F.st9 rfl rfl (by omega) (u := ch) hu) (fun a w hh => (want_of rfl rfl rfl hh).trans (wFF (by first | rfl | exact decide_eq_false (by omega)))) ?_
        refine ow_yg (y_gtr rfl rfl) (fun a w hh => (want_of rfl rfl rfl hh).trans (wFF (by first | rfl | exact decide_eq_false (by omega)))) ?_
        refine ow_y (y_pickF rfl (by first | rfl | exact decide_eq_false (by omega)) rfl) ?_
        refine ow_nil ?_
        refine kw_code (fun _ _ h => h) ?_
        refine cw_if rfl (fun hb52 => ?_) (fun hb52 => ?_)
        · skip
          refine cw_seq ?_
          refine cw_region ?_
          refine ow_y (y_assign rfl) ?_
          refine ow_y (y_assign rfl) ?_
          refine ow_nil ?_
          refine kw_code (fun _ _ h => h) ?_
          refine cw_retG (fun _ _ h => h) rfl (by have := of_decide_eq_true hb52; rw [rnumV, hsm, hno (by unfold Lib.digitVal; rw [if_neg (by omega)])]) (by repeat (first | exact Split.nil | apply Split.cons (by repeat (first | exact Fnd.here | apply Fnd.there))))
        · skip
          have h57 := of_decide_eq_false hb52
          have e8 : IntKind.u8.wrap ((ch.toNat : Int) - 48) = ((ch.toNat - 48 : Nat) : Int) := by rw [IntKind.wrap_u8]; omega
          have e64 : IntKind.i64.wrap ((ch.toNat - 48 : Nat) : Int) = ((ch.toNat - 48 : Nat) : Int) := wrap_sm _ _ (by omega) (by simp only [IntKind.bits]; omega)
          refine cw_skip ?_
          refine kw_code (fun _ _ h => h) ?_
          refine cw_region ?_
          refine ow_y (y_move rfl) ?_
          refine ow_y (y_mulI rfl rfl (by omega)) ?_
          refine ow_y (y_move rfl) ?_
          refine ow_y (y_move rfl) ?_
          refine ow_y (y_byte F.st9 rfl rfl (by omega) (u := ch) hu) ?_
          refine ow_y (y_sub rfl rfl) ?_
          refine ow_y (y_conv F.ts5 F.in3 rfl) ?_
          rw [e8, e64]
          refine ow_y (y_addI rfl rfl (by omega)) ?_
          refine ow_y (y_assign rfl) ?_
          refine ow_nil ?_
          rw [show (10 * (n : Int) + ((ch.toNat - 48 : Nat) : Int)) = ((n * 10 + (ch.toNat - 48) : Nat) : Int) by omega]
          refine kw_code (fun _ _ h => h) ?_
          refine cw_region ?_
          refine ow_y (y_move rfl) ?_
          refine ow_y (y_addI rfl rfl (by omega)) ?_
          refine ow_y (y_assign rfl) ?_
          refine ow_nil ?_
          refine kw_rnd (fun _ _ h => h) (⟨(i + 1, n * 10 + (ch.toNat - 48)), by dsimp only; omega, hst _ (by unfold Lib.digitVal; rw [if_pos (by omega)]), by dsimp only; rw [Nat.pow_succ]; omega⟩) (by first | omega | (simp only; omega)) (by repeat (first | exact Sub.nil | refine Sub.cons rfl ?_)) (by repeat (first | exact Split.nil | apply Split.cons (by repeat (first | exact Fnd.here | apply Fnd.there))))
    · skip
      have hik : i = tl.length := by have := of_decide_eq_false hb40; omega
      rw [hik, List.take_length] at hn
      rw [hn] at hsm
      refine cw_exit ?_
      refine kw_code (fun _ _ h => h) ?_
      refine cw_seq ?_
      refine cw_seq ?_
      refine cw_region ?_
      refine ow_y (y_move rfl) ?_
      refine ow_y (y_gtr rfl rfl) ?_
      refine ow_nil ?_
      refine kw_code (fun _ _ h => h) ?_
      refine cw_if rfl (fun hb62 => ?_) (fun hb62 => ?_)
      · skip
        refine cw_seq ?_
        refine cw_region ?_
        refine ow_y (y_assign rfl) ?_
        refine ow_y (y_assign rfl) ?_
        refine ow_nil ?_
        refine kw_code (fun _ _ h => h) ?_
        refine cw_retG (fun _ _ h => h) rfl (by have := of_decide_eq_true hb62; rw [rnumV, hsm]; simp only []; rw [if_pos (by omega)]) (by repeat (first | exact Split.nil | apply Split.cons (by repeat (first | exact Fnd.here | apply Fnd.there))))
      · skip
        have h62 := of_decide_eq_false hb62
        refine cw_skip ?_
        refine kw_code (fun _ _ h => h) ?_
        refine cw_seq ?_
        refine cw_seq ?_
        refine cw_region ?_
        refine ow_y (y_move rfl) ?_
        refine ow_y (y_move rfl) ?_
        refine ow_y (y_str_neqD rfl rfl) ?_
        refine ow_nil ?_
        refine kw_code (fun _ _ h => h) ?_
        refine cw_if rfl (fun hb65 => ?_) (fun hb65 => ?_)
        · skip
          refine cw_region ?_
          refine ow_y (y_move rfl) ?_
          refine ow_y (y_neg rfl) ?_
          refine ow_y (y_assign rfl) ?_
          refine ow_nil ?_
          refine kw_code (fun _ _ h => h) ?_
          refine cw_seq ?_
          refine cw_region ?_
          refine ow_y (y_move rfl) ?_
          refine ow_y (y_assign rfl) ?_
          refine ow_y (y_assign rfl) ?_
          refine ow_nil ?_
          refine kw_code (fun _ _ h => h) ?_
          refine cw_retG (fun _ _ h => h) rfl (by rw [rnumV, hsm]; simp only []; rw [if_neg (by omega), if_pos (rn_neg htl (by simpa [sb_inj] using hb65)), show IntKind.i64.wrap (0 - (n : Int)) = -(n : Int) from by rw [Int.zero_sub]; exact wrap_smI _ (by omega) (by omega)]) (by repeat (first | exact Split.nil | apply Split.cons (by repeat (first | exact Fnd.here | apply Fnd.there))))
        · skip
          refine cw_skip ?_
          refine kw_code (fun _ _ h => h) ?_
          refine cw_seq ?_
          refine cw_region ?_
          refine ow_y (y_move rfl) ?_
          refine ow_y (y_assign rfl) ?_
          refine ow_y (y_assign rfl) ?_
          refine ow_nil ?_
          refine kw_code (fun _ _ h => h) ?_
          refine cw_retG (fun _ _ h => h) rfl (by rw [rnumV, hsm]; simp only []; rw [if_neg (by omega), if_neg (rn_pos htl (by simpa [sb_inj] using hb65))]) (by repeat (first | exact Split.nil | apply Split.cons (by repeat (first | exact Fnd.here | apply Fnd.there))))
end Go.Proofs.YtoolmpfkbaffcaaDoor
