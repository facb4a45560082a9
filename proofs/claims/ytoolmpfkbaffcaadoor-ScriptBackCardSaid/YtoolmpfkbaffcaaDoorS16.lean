/- Part of the proof; no statement of its own: S16. -/
import Derived.Test.YtoolmpfkbaffcaaDoorFacts
import Derived.Test.YtoolmpfkbaffcaaDoorS15
set_option linter.all false
set_option maxRecDepth 4000
set_option maxHeartbeats 4000000
namespace Go.Proofs.YtoolmpfkbaffcaaDoor
open Go.Sl Go.Sc Go.RowKit
def mkVerb (verb : Int) : ByteArray := verbsL.getD ((verb % 256).toNat % 21) ByteArray.empty
def mkNum (zs : List Int) (i : Nat) : Int := if h : i < zs.length then zs[i].tmod 1000001 else 1
def mkNs (zs : List Int) (k : Nat) : List Int := (List.range k).map (mkNum zs)
def mkWord (w : Bool) (word : ByteArray) : ByteArray := if w then (if wordOk word then word else ⟨#[97]⟩) else ByteArray.empty
theorem mkNs_step (zs : List Int) (k : Nat) : mkNs zs k ++ [mkNum zs k] = mkNs zs (k + 1) := by simp [mkNs, List.range_succ]
theorem mkNs_len (zs : List Int) (k : Nat) : (mkNs zs k).length = k := by simp [mkNs]
theorem verb_shape (i : Nat) (h : i < 21) : ∃ o w, lnShape (verbsL.getD i ByteArray.empty) = some (o, w) ∧ (∀ c ∈ (verbsL.getD i ByteArray.empty).data.toList, c ≠ 32) ∧ (verbsL.getD i ByteArray.empty).size ≤ 10 := by
  have hall : (List.range 21).all (fun i => (lnShape (verbsL.getD i ByteArray.empty)).isSome && ((verbsL.getD i ByteArray.empty).data.toList.all fun c => c != 32) && decide ((verbsL.getD i ByteArray.empty).size ≤ 10)) = true := by decide +kernel
  have := List.all_eq_true.1 hall i (List.mem_range.2 h)
  simp only [Bool.and_eq_true, List.all_eq_true, decide_eq_true_eq] at this
  obtain ⟨⟨h1, h2⟩, h3⟩ := this
  obtain ⟨⟨o, w⟩, how⟩ := Option.isSome_iff_exists.1 h1
  exact ⟨o, w, how, fun c hc => by have := h2 c hc; simpa using this, h3⟩
theorem make_spec {W : World} (ha : Lib.TabIs Tryd.prog W "strings.asciiSpace" .u8 Lib.asciiSpaceTab) (verb : Int) (v : Value) (zs : List Int) (hz : IsInts W .i64 v zs) (word : ByteArray) (hwd : word.size ≤ maxLen) (o : Option Nat) (w : Bool) (hsh : lnShape (mkVerb verb) = some (o, w)) :
    Does Tryd.prog 16 #[.int .i64 verb, v, .string word] [whole W]
      (GivesE (fun u : Value => u.oneCell' = true) (fun u => .agg (lnC (mkVerb verb) u (mkWord w word)).toArray)
        fun u => [rowA 3 1 u (o.getD (min zs.length 8)) ((mkNs zs (o.getD (min zs.length 8))).map intL), whole W]) := by
  obtain ⟨p, cap, rfl, hcell, hwf, hzl⟩ := hz
  simp only [maxLen] at hzl
  have hshp := rshape_spec (mkVerb verb)
  unfold rshapeV at hshp
  rw [hsh] at hshp
  obtain ⟨hw0, hn3⟩ := shape_star _ o w hsh
  obtain ⟨j, hj, hj2⟩ : ∃ j : Nat, verb % 256 % 21 = (j : Int) ∧ j < 21 := ⟨(verb % 256 % 21).toNat, by omega, by omega⟩
  have hjj : (verb % 256).toNat % 21 = j := by omega
  have hnth : nth (verbsL.map Value.string) j = some (.string (mkVerb verb)) := by
    rw [nth_eq, List.getElem?_map, mkVerb, hjj, List.getD_eq_getElem?_getD, List.getElem?_eq_getElem (show j < verbsL.length from hj2)]; rfl
  obtain ⟨x, hx, hx2⟩ : ∃ x : Int, Does Tryd.prog 23 #[.string (mkVerb verb)] [] (Gives (.tuple #[.int .i64 x, .bool w, .bool true]) []) ∧ ((o = none ∧ x = -1) ∨ (∃ n, o = some n ∧ x = n)) := by
    cases o with
    | none => exact ⟨-1, hshp, .inl ⟨rfl, rfl⟩⟩
    | some n => exact ⟨n, hshp, .inr ⟨n, rfl, rfl⟩⟩
  have hword := rword_spec word hwd
  generalize hk : o.getD (min zs.length 8) = k
  have hk8 : k ≤ 8 := by
    rw [← hk]; cases o with
    | none => simp; omega
    | some n => have := hn3 n rfl; simp; omega
  refine does_enter Tryd.func16 rfl Tryd.ntmps16 rfl (fun R w0 => ?_)
  simp only [envOf, List.cons_append, List.nil_append]
  refine cw_seq ?_
  refine cw_region ?_
  refine (ow_alloc F.z26 (fun b6 => ?_))
  refine ow_nil ?_
  refine kw_code (fun _ _ h => h) ?_
  refine cw_seq ?_
  refine cw_region ?_
  refine ow_givesE rfl F.hb26 rfl ((verbs_spec ha)) (by repeat (first | exact Split.nil | apply Split.cons (by repeat (first | exact Fnd.here | apply Fnd.there)))) ?_
  rintro b13 _
  simp only [List.cons_append, List.nil_append]
  refine ow_y (y_move rfl) ?_
  refine ow_y (y_and rfl rfl) ?_
  refine ow_givesE rfl F.hb26 rfl ((verbs_spec ha)) (by repeat (first | exact Split.nil | apply Split.cons (by repeat (first | exact Fnd.here | apply Fnd.there)))) ?_
  rintro b16 _
  simp only [List.cons_append, List.nil_append]
  refine ow_y (y_len_slice F.sl41 rfl) ?_
  rw [and_255 .i64 (by decide)]
  refine ow_y (y_remI rfl rfl (by omega)) ?_
  rw [show (verb % 256 % ((21 : Nat) : Int)) = (j : Int) from hj]
  refine ow_y (y_ixs F.sl41 rfl rfl (by omega)) ?_
  refine ow_y (y_load F.sc9 rfl (by simpa using hnth)) ?_
  refine ow_y (y_build F.pl26 rfl (by simp [fillL, nth, Value.cells] <;> rfl)) ?_
  refine (ow_alloc F.z26 (fun b7 => ?_))
  refine (ow_storeAgg F.sz26 rfl rfl (by first | rfl | simp) (by simp [Value.oneCell']) (by simp [Value.cells]) (by simp [splice, Value.cells] <;> rfl) ?_)
  refine ow_nil ?_
  refine kw_code (fun _ _ h => h) ?_
  refine cw_seq ?_
  refine cw_region ?_
  refine ow_y (y_fld F.fld26_0 rfl) ?_
  refine ow_y (y_load F.sc9 rfl (by rfl)) ?_
  refine ow_gives rfl F.hb23 rfl (hx) (by repeat (first | exact Split.nil | apply Split.cons (by repeat (first | exact Fnd.here | apply Fnd.there)))) ?_
  simp only [List.cons_append, List.nil_append]
  refine ow_y (y_move rfl) ?_
  refine ow_y (y_ext rfl rfl) ?_
  refine ow_y (y_ext rfl rfl) ?_
  refine ow_y (y_ext rfl rfl) ?_
  refine ow_y (y_assign rfl) ?_
  refine ow_y (y_assign rfl) ?_
  refine ow_y (y_assign rfl) ?_
  refine ow_nil ?_
  refine kw_code (fun _ _ h => h) ?_
  refine cw_meetE (X := Unit) (fun _ => [(1, .slice p zs.length cap), (2, .string word), (6, .pointer (some ⟨b6, 0, none⟩)), (7, .pointer (some ⟨b7, 0, none⟩)), (8, .int .i64 k), (9, .bool w)]) (fun _ => [pts b7 (.cells [.string (mkVerb verb), .slice none 0 0, .string ByteArray.empty].toArray 26 (0, 0)), pts b6 (.cells [.string ByteArray.empty, .slice none 0 0, .string ByteArray.empty].toArray 26 (0, 0)), whole W, R]) ?_ ?_
  · skip
    refine cw_seq ?_
    rcases hx2 with ⟨ho, hxe⟩ | ⟨n, ho, hxe⟩
    · skip
      refine cw_region ?_
      refine ow_y (y_move rfl) ?_
      refine ow_y (y_lss rfl rfl) ?_
      refine ow_nil ?_
      refine kw_code (fun _ _ h => h) ?_
      refine cw_true rfl (by rw [hxe]; rfl) ?_
      refine cw_region ?_
      refine ow_y (y_move rfl) ?_
      refine ow_y (y_len_slice F.sl24 rfl) ?_
      refine ow_y (y_min rfl rfl) ?_
      refine ow_y (y_assign rfl) ?_
      refine ow_nil ?_
      rw [show min (zs.length : Int) 8 = (k : Int) from by rw [← hk, ho]; show _ = ((min zs.length 8 : Nat) : Int); omega]
      refine kw_meetE (fun _ _ h => h) (()) (by repeat (first | exact Sub.nil | refine Sub.cons rfl ?_)) (by repeat (first | exact Split.nil | apply Split.cons (by repeat (first | exact Fnd.here | apply Fnd.there))))
    · skip
      refine cw_region ?_
      refine ow_y (y_move rfl) ?_
      refine ow_y (y_lss rfl rfl) ?_
      refine ow_nil ?_
      rw [show x = (k : Int) from by rw [hxe, ← hk, ho]; rfl]
      refine kw_code (fun _ _ h => h) ?_
      refine cw_false rfl (decide_eq_false (by omega)) ?_
      refine cw_skip ?_
      refine kw_meetE (fun _ _ h => h) (()) (by repeat (first | exact Sub.nil | refine Sub.cons rfl ?_)) (by repeat (first | exact Split.nil | apply Split.cons (by repeat (first | exact Fnd.here | apply Fnd.there))))
  rintro _
  refine cw_seq ?_
  refine cw_seq ?_
  refine cw_region ?_
  refine ow_y (y_move rfl) ?_
  refine ow_y (y_move rfl) ?_
  refine ow_nil ?_
  refine kw_code (fun _ _ h => h) ?_
  refine cw_block ?_
  refine cw_said (fun w h => sat_row_nil 3 1 w h) ?_
  refine cw_loop (X := {x : Nat × Value // x.1 ≤ k ∧ x.2.oneCell' = true}) (fun x => [(1, .slice p zs.length cap), (2, .string word), (6, .pointer (some ⟨b6, 0, none⟩)), (7, .pointer (some ⟨b7, 0, none⟩)), (9, .bool w), (34, .int .i64 k), (35, .int .i64 x.1.1)]) (fun x => [pts b7 (.cells [.string (mkVerb verb), x.1.2, .string ByteArray.empty].toArray 26 (0, 0)), rowA 3 1 x.1.2 x.1.1 ((mkNs zs x.1.1).map intL), pts b6 (.cells [.string ByteArray.empty, .slice none 0 0, .string ByteArray.empty].toArray 26 (0, 0)), whole W, R]) (fun x => k - x.1.1) ⟨(0, .slice none 0 0), by dsimp only; omega, rfl⟩ (by repeat (first | exact Sub.nil | refine Sub.cons rfl ?_)) (by repeat (first | exact Split.nil | apply Split.cons (by repeat (first | exact Fnd.here | apply Fnd.there)))) ?_
  rintro ⟨⟨i, u⟩, hi, hu⟩ m0 hm0
  try simp only at hm0
  try dsimp only
  dsimp only at hi hu
  refine cw_seq ?_
  refine cw_region ?_
  refine ow_y (y_lss rfl rfl) ?_
  refine ow_nil ?_
  refine kw_code (fun _ _ h => h) ?_
  refine cw_seq ?_
  refine cw_if rfl (fun hb36 => ?_) (fun hb36 => ?_)
  · skip
    have hik : i < k := by have := of_decide_eq_true hb36; omega
    refine cw_skip ?_
    refine kw_code (fun _ _ h => h) ?_
    refine cw_seq ?_
    refine cw_block ?_
    refine cw_seq ?_
    refine cw_region ?_
    refine ow_y (y_move rfl) ?_
    refine ow_y (y_assign rfl) ?_
    refine ow_nil ?_
    refine kw_code (fun _ _ h => h) ?_
    refine cw_seq ?_
    refine cw_region ?_
    refine ow_y (y_assign rfl) ?_
    refine ow_nil ?_
    skip
    refine kw_code (fun _ _ h => h) ?_
    refine cw_meetE (X := {z : Int // z = mkNum zs i}) (fun x => [(1, .slice p zs.length cap), (2, .string word), (6, .pointer (some ⟨b6, 0, none⟩)), (7, .pointer (some ⟨b7, 0, none⟩)), (9, .bool w), (34, .int .i64 k), (35, .int .i64 i), (12, .int .i64 x.1)]) (fun _ => [pts b7 (.cells [.string (mkVerb verb), u, .string ByteArray.empty].toArray 26 (0, 0)), rowA 3 1 u i ((mkNs zs i).map intL), pts b6 (.cells [.string ByteArray.empty, .slice none 0 0, .string ByteArray.empty].toArray 26 (0, 0)), whole W, R]) ?_ ?_
    · skip
      refine cw_seq ?_
      refine cw_region ?_
      refine ow_y (y_move rfl) ?_
      refine ow_y (y_move rfl) ?_
      refine ow_y (y_len_slice F.sl24 rfl) ?_
      refine ow_y (y_lss rfl rfl) ?_
      refine ow_nil ?_
      refine kw_code (fun _ _ h => h) ?_
      refine cw_if rfl (fun hb41 => ?_) (fun hb41 => ?_)
      · skip
        have hz1 : i < zs.length := by have := of_decide_eq_true hb41; omega
        obtain ⟨a, hpa, hc⟩ := hcell i hz1
        subst hpa
        refine cw_region ?_
        refine ow_y (y_move rfl) ?_
        refine ow_y (y_move rfl) ?_
        refine ow_y (y_ixsA F.sl24 rfl rfl (by omega)) ?_
        refine ow_y (y_loadW F.sc3 rfl (by repeat (first | exact Fnd.here | apply Fnd.there)) (by simpa using hc)) ?_
        refine ow_y (y_rem rfl rfl (by decide)) ?_
        refine ow_y (y_assign rfl) ?_
        refine ow_nil ?_
        rw [show zs[i].tmod 1000001 = mkNum zs i from by rw [mkNum, dif_pos hz1]]
        refine kw_meetE (fun _ _ h => h) (⟨_, rfl⟩) (by repeat (first | exact Sub.nil | refine Sub.cons rfl ?_)) (by repeat (first | exact Split.nil | apply Split.cons (by repeat (first | exact Fnd.here | apply Fnd.there))))
      · skip
        have hz1 : ¬ i < zs.length := by have := of_decide_eq_false hb41; omega
        refine cw_skip ?_
        refine kw_meetE (fun _ _ h => h) (⟨1, by rw [mkNum, dif_neg hz1]⟩) (by repeat (first | exact Sub.nil | refine Sub.cons rfl ?_)) (by repeat (first | exact Split.nil | apply Split.cons (by repeat (first | exact Fnd.here | apply Fnd.there))))
    rintro ⟨z, hz⟩
    dsimp only
    subst hz
    refine cw_region ?_
    refine ow_y (y_fld F.fld26_1 rfl) ?_
    refine ow_y (y_load F.sc24 rfl (by rfl)) ?_
    refine ow_y (y_move rfl) ?_
    refine (ow_buildSlice F.sl24 F.z3 rfl rfl rfl (by simp [fillL, madeL, Value.cells] <;> rfl) (fun b50 => ?_))
    refine (ow_append F.sl24 F.tb3 F.z3 rfl rfl rfl (by repeat (first | exact Fnd.here | apply Fnd.there)) (src_blk F.sl24 (by simp; rfl) (by simp) (by simp [Value.oneCell'])) (by simp only [maxLen]; omega) (by omega) (fun v51 hv51 => ?_))
    refine ow_y (y_fld F.fld26_1 rfl) ?_
    refine (ow_store F.sz24 rfl rfl (by first | rfl | assumption) (by rfl) (by (try simp only [List.set_cons_zero, List.set_cons_succ, Nat.reduceAdd, Nat.reduceMul, Int.reduceToNat, Nat.zero_add, Nat.add_zero]); rfl) ?_)
    refine ow_nil ?_
    rw [show (mkNs zs i).map intL ++ [Value.int .i64 (mkNum zs i)] = (mkNs zs (i + 1)).map intL from by rw [← mkNs_step]; simp [intL]]
    refine kw_code (fun _ _ h => h) ?_
    refine cw_region ?_
    refine ow_y (y_addI rfl rfl (by omega)) ?_
    refine ow_y (y_move rfl) ?_
    refine ow_nil ?_
    refine kw_rnd (fun _ _ h => h) (⟨(i + 1, v51), hik, hv51⟩) (by first | omega | (simp only; omega)) (by repeat (first | exact Sub.nil | refine Sub.cons rfl ?_)) (by repeat (first | exact Split.nil | apply Split.cons (by repeat (first | exact Fnd.here | apply Fnd.there))))
  · skip
    obtain rfl : i = k := by have := of_decide_eq_false hb36; omega
    refine cw_exit ?_
    refine kw_code (fun _ _ h => h) ?_
    refine cw_seq ?_
    refine cw_seq ?_
    cases w
    · skip
      refine cw_region ?_
      refine ow_y (y_move rfl) ?_
      refine ow_nil ?_
      refine kw_code (fun _ _ h => h) ?_
      refine cw_false rfl rfl ?_
      refine cw_skip ?_
      refine kw_code (fun _ _ h => h) ?_
      refine cw_seq ?_
      refine cw_region ?_
      refine ow_y (y_loadAgg F.ag26 rfl (by simp) (by rfl)) ?_
      refine (ow_storeAgg F.sz26 rfl rfl (by first | rfl | simp) (by simpa [Value.oneCell'] using hu) (by simp [Value.cells]) (by simp [splice, Value.cells] <;> rfl) ?_)
      refine ow_nil ?_
      refine kw_code (fun _ _ h => h) ?_
      refine cw_retEC u hu (fun _ _ h => h) (RV.agg F.ag26 rfl (by simp) (by rfl) RV.nil) rfl (by repeat (first | exact Split.nil | apply Split.cons (by repeat (first | exact Fnd.here | apply Fnd.there))))
    · skip
      refine cw_region ?_
      refine ow_y (y_move rfl) ?_
      refine ow_nil ?_
      refine kw_code (fun _ _ h => h) ?_
      refine cw_true rfl rfl ?_
      refine cw_seq ?_
      refine cw_region ?_
      refine ow_y (y_move rfl) ?_
      refine ow_y (y_fld F.fld26_2 rfl) ?_
      refine (ow_store F.sz9 rfl rfl (by first | rfl | assumption) (by rfl) (by (try simp only [List.set_cons_zero, List.set_cons_succ, Nat.reduceAdd, Nat.reduceMul, Int.reduceToNat, Nat.zero_add, Nat.add_zero]); rfl) ?_)
      refine ow_nil ?_
      refine kw_code (fun _ _ h => h) ?_
      refine cw_seq ?_
      rcases hkw : wordOk word
      · skip
        refine cw_region ?_
        rw [hkw] at hword
        refine ow_y (y_move rfl) ?_
        refine ow_gives rfl F.hb15 rfl (hword) (by repeat (first | exact Split.nil | apply Split.cons (by repeat (first | exact Fnd.here | apply Fnd.there)))) ?_
        simp only [List.cons_append, List.nil_append]
        refine ow_y (y_not rfl) ?_
        refine ow_nil ?_
        refine kw_code (fun _ _ h => h) ?_
        refine cw_true rfl rfl ?_
        refine cw_region ?_
        refine ow_y (y_fld F.fld26_2 rfl) ?_
        refine (ow_store F.sz9 rfl rfl (by first | rfl | assumption) (by rfl) (by (try simp only [List.set_cons_zero, List.set_cons_succ, Nat.reduceAdd, Nat.reduceMul, Int.reduceToNat, Nat.zero_add, Nat.add_zero]); rfl) ?_)
        refine ow_nil ?_
        refine kw_code (fun _ _ h => h) ?_
        refine cw_seq ?_
        refine cw_region ?_
        refine ow_y (y_loadAgg F.ag26 rfl (by simp) (by rfl)) ?_
        refine (ow_storeAgg F.sz26 rfl rfl (by first | rfl | simp) (by simpa [Value.oneCell'] using hu) (by simp [Value.cells]) (by simp [splice, Value.cells] <;> rfl) ?_)
        refine ow_nil ?_
        refine kw_code (fun _ _ h => h) ?_
        refine cw_retEC u hu (fun _ _ h => h) (RV.agg F.ag26 rfl (by simp) (by rfl) RV.nil) (by simp [mkWord, hkw, lnC]; rfl) (by repeat (first | exact Split.nil | apply Split.cons (by repeat (first | exact Fnd.here | apply Fnd.there))))
      · skip
        refine cw_region ?_
        rw [hkw] at hword
        refine ow_y (y_move rfl) ?_
        refine ow_gives rfl F.hb15 rfl (hword) (by repeat (first | exact Split.nil | apply Split.cons (by repeat (first | exact Fnd.here | apply Fnd.there)))) ?_
        simp only [List.cons_append, List.nil_append]
        refine ow_y (y_not rfl) ?_
        refine ow_nil ?_
        refine kw_code (fun _ _ h => h) ?_
        refine cw_false rfl rfl ?_
        refine cw_skip ?_
        refine kw_code (fun _ _ h => h) ?_
        refine cw_seq ?_
        refine cw_region ?_
        refine ow_y (y_loadAgg F.ag26 rfl (by simp) (by rfl)) ?_
        refine (ow_storeAgg F.sz26 rfl rfl (by first | rfl | simp) (by simpa [Value.oneCell'] using hu) (by simp [Value.cells]) (by simp [splice, Value.cells] <;> rfl) ?_)
        refine ow_nil ?_
        refine kw_code (fun _ _ h => h) ?_
        refine cw_retEC u hu (fun _ _ h => h) (RV.agg F.ag26 rfl (by simp) (by rfl) RV.nil) (by simp [mkWord, hkw, lnC]; rfl) (by repeat (first | exact Split.nil | apply Split.cons (by repeat (first | exact Fnd.here | apply Fnd.there))))
end Go.Proofs.YtoolmpfkbaffcaaDoor
