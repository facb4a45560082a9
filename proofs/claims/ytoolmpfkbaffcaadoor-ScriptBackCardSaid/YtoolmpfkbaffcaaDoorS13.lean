/- Part of the proof; no statement of its own: S13. -/
import Derived.Test.YtoolmpfkbaffcaaDoorFacts
import Derived.Test.YtoolmpfkbaffcaaDoorS12
import Derived.Test.YtoolmpfkbaffcaaDoorSc6
set_option linter.all false
set_option maxRecDepth 4000
set_option maxHeartbeats 4000000
namespace Go.Proofs.YtoolmpfkbaffcaaDoor
open Go.Sl Go.Sc
theorem how_size (n : Nat) (w : Bool) : (lnHow n w).length = n + (if w then 1 else 0) := how_len n w
theorem rnumber_spec2 (s : ByteArray) (hs : s.size ≤ 1000000) : Does Tryd.prog 13 #[.string s] [] (Gives (match lnNum s with | some v => .tuple #[.int .i64 v, .bool true] | none => .tuple #[.int .i64 0, .bool false]) []) := by
  obtain ⟨l, rfl⟩ := ex_sb s
  have := rnumber_spec l (by have := sb_size l; omega)
  unfold rnumV at this
  rw [lnNum_eq, sb_list]
  exact this
theorem rsplit_spec2 (s : ByteArray) (hs : s.size ≤ 1000000) (verb : ByteArray) (ws : List ByteArray) (hp : lnParts s = verb :: ws) : Does Tryd.prog 17 #[.string s] []
    (GivesE (fun _ : Value => True) id fun v => [rowA 9 1 v (ws.length + 1) ((verb :: ws).map Value.string)]) := by
  obtain ⟨l, rfl⟩ := ex_sb s
  have h := rsplit_spec l (by have := sb_size l; omega)
  have e : lnParts (sb l) = (lnCuts [] l).map sb := by unfold lnParts; rw [sb_list]
  have e1 : (lnCuts [] l).map strV = (verb :: ws).map Value.string := by rw [← hp, e, List.map_map]; rfl
  have e2 : (lnCuts [] l).length = ws.length + 1 := by have := congrArg List.length (e.symm.trans hp); simpa using this
  rw [e1, e2] at h
  exact h
theorem rparse_spec {W : World} (s : ByteArray) (hs : s.size ≤ 1000) : Does Tryd.prog 9 #[.string s] [whole W]
    (GivesE (fun x : Except Nat Ln × Value => x.1 = lnParse s ∧ x.2.oneCell' = true) parV (parM W)) := by
  obtain ⟨verb, ws, hp⟩ := parts_ne s
  have hwl : ws.length ≤ s.size := by have := parts_count s; rw [hp] at this; simp at this; omega
  have hwz : ∀ x ∈ verb :: ws, x.size ≤ s.size := by rw [← hp]; exact parts_size s
  have hsp := rsplit_spec2 s (by omega) verb ws hp
  have hshp := rshape_spec verb
  unfold rshapeV at hshp
  by_cases h2 : s.size > 200
  · have hpe : lnParse s = .error 3 := by unfold lnParse; rw [if_pos h2]
    refine does_enter Tryd.func9 rfl Tryd.ntmps9 rfl (fun R w0 => ?_)
    simp only [envOf, List.cons_append, List.nil_append]
    refine cw_seq ?_
    refine cw_region ?_
    refine (ow_alloc F.z30 (fun b2 => ?_))
    refine ow_y (y_assign rfl) ?_
    refine ow_nil ?_
    refine kw_code (fun _ _ h => h) ?_
    refine cw_seq ?_
    refine cw_seq ?_
    refine cw_region ?_
    refine ow_y (y_move rfl) ?_
    refine ow_y (y_len_str F.st9 rfl) ?_
    refine ow_y (y_gtr rfl rfl) ?_
    refine ow_nil ?_
    refine kw_code (fun _ _ h => h) ?_
    refine cw_true rfl (by first | rfl | exact decide_eq_true (by omega)) ?_
    refine cw_seq ?_
    refine cw_region ?_
    refine ow_y (y_build F.pl30 rfl (by simp [fillL, nth, Value.cells] <;> rfl)) ?_
    refine (ow_storeAgg F.sz30 rfl rfl (by first | rfl | simp) (by simp [Value.oneCell']) (by simp [Value.cells]) (by simp [splice, Value.cells] <;> rfl) ?_)
    refine ow_y (y_assign rfl) ?_
    refine ow_nil ?_
    refine kw_code (fun _ _ h => h) ?_
    refine cw_retEC (.error 3, .slice none 0 0) ⟨hpe.symm, rfl⟩ (fun _ _ h => h) (RV.agg F.ag30 rfl (by simp) (by rfl) (RV.tmp rfl RV.nil)) rfl (by repeat (first | exact Split.nil | apply Split.cons (by repeat (first | exact Fnd.here | apply Fnd.there))))
  · cases hsh : lnShape verb with
    | none =>
      rw [hsh] at hshp
      have hpe : lnParse s = .error 15 := by unfold lnParse; rw [if_neg h2, hp]; simp only [hsh]
      refine does_enter Tryd.func9 rfl Tryd.ntmps9 rfl (fun R w0 => ?_)
      simp only [envOf, List.cons_append, List.nil_append]
      refine cw_seq ?_
      refine cw_region ?_
      refine (ow_alloc F.z30 (fun b2 => ?_))
      refine ow_y (y_assign rfl) ?_
      refine ow_nil ?_
      refine kw_code (fun _ _ h => h) ?_
      refine cw_seq ?_
      refine cw_seq ?_
      refine cw_region ?_
      refine ow_y (y_move rfl) ?_
      refine ow_y (y_len_str F.st9 rfl) ?_
      refine ow_y (y_gtr rfl rfl) ?_
      refine ow_nil ?_
      refine kw_code (fun _ _ h => h) ?_
      refine cw_false rfl (by first | rfl | exact decide_eq_false (by omega)) ?_
      refine cw_skip ?_
      refine kw_code (fun _ _ h => h) ?_
      refine cw_seq ?_
      refine cw_region ?_
      refine ow_y (y_move rfl) ?_
      refine ow_givesE rfl F.hb17 rfl (hsp) (by repeat (first | exact Split.nil | apply Split.cons (by repeat (first | exact Fnd.here | apply Fnd.there)))) ?_
      rintro v4 _
      simp only [List.cons_append, List.nil_append]
      refine ow_y (y_assign rfl) ?_
      refine ow_nil ?_
      refine kw_code (fun _ _ h => h) ?_
      refine cw_seq ?_
      refine cw_rowv (e := 9) (by repeat (first | exact Fnd.here | apply Fnd.there)) (by omega) fun bw capw hvw hcapw => ?_
      refine cw_region ?_
      subst hvw
      refine ow_y (y_move rfl) ?_
      refine ow_y (y_ixs F.sl41 rfl rfl (by omega)) ?_
      refine ow_y (y_loadRow F.sc9 rfl (by repeat (first | exact Fnd.here | apply Fnd.there)) (by rw [nth_eq]; rfl)) ?_
      refine ow_gives rfl F.hb23 rfl (hshp) (by repeat (first | exact Split.nil | apply Split.cons (by repeat (first | exact Fnd.here | apply Fnd.there)))) ?_
      simp only [List.cons_append, List.nil_append]
      refine ow_y (y_move rfl) ?_
      refine ow_y (y_ext rfl rfl) ?_
      refine ow_y (y_ext rfl rfl) ?_
      refine ow_y (y_ext rfl rfl) ?_
      refine ow_y (y_assign rfl) ?_
      refine ow_y (y_assign rfl) ?_
      refine ow_y (y_assign rfl) ?_
      refine ow_nil ?_
      refine kw_code (fun _ _ h => h) ?_
      refine cw_seq ?_
      refine cw_seq ?_
      refine cw_region ?_
      refine ow_y (y_move rfl) ?_
      refine ow_y (y_not rfl) ?_
      refine ow_nil ?_
      refine kw_code (fun _ _ h => h) ?_
      refine cw_true rfl rfl ?_
      refine cw_seq ?_
      refine cw_region ?_
      refine ow_y (y_build F.pl30 rfl (by simp [fillL, nth, Value.cells] <;> rfl)) ?_
      refine (ow_storeAgg F.sz30 rfl rfl (by first | rfl | simp) (by simp [Value.oneCell']) (by simp [Value.cells]) (by simp [splice, Value.cells] <;> rfl) ?_)
      refine ow_y (y_assign rfl) ?_
      refine ow_nil ?_
      refine kw_code (fun _ _ h => h) ?_
      refine cw_retEC (.error 15, .slice none 0 0) ⟨hpe.symm, rfl⟩ (fun _ _ h => h) (RV.agg F.ag30 rfl (by simp) (by rfl) (RV.tmp rfl RV.nil)) rfl (by repeat (first | exact Split.nil | apply Split.cons (by repeat (first | exact Fnd.here | apply Fnd.there))))
    | some ow =>
      obtain ⟨o, w⟩ := ow
      rw [hsh] at hshp
      have hpe := parse_run s h2 verb ws hp o w hsh
      obtain ⟨hw0, hn3⟩ := shape_star verb o w hsh
      obtain ⟨x, hx, hx2⟩ : ∃ x : Int, Does Tryd.prog 23 #[.string verb] [] (Gives (.tuple #[.int .i64 x, .bool w, .bool true]) []) ∧ ((o = none ∧ x = -1) ∨ (∃ n, o = some n ∧ x = n)) := by
        cases o with
        | none => exact ⟨-1, hshp, .inl ⟨rfl, rfl⟩⟩
        | some n => exact ⟨n, hshp, .inr ⟨n, rfl, rfl⟩⟩
      generalize hnn : o.getD ws.length = nn at hpe
      have hnb : nn ≤ 1000 := by
        rw [← hnn]; cases o with
        | none => simp; omega
        | some n => have := hn3 n rfl; simp; omega
      have hhl := how_size nn w
      refine does_enter Tryd.func9 rfl Tryd.ntmps9 rfl (fun R w0 => ?_)
      simp only [envOf, List.cons_append, List.nil_append]
      refine cw_seq ?_
      refine cw_region ?_
      refine (ow_alloc F.z30 (fun b2 => ?_))
      refine ow_y (y_assign rfl) ?_
      refine ow_nil ?_
      refine kw_code (fun _ _ h => h) ?_
      refine cw_seq ?_
      refine cw_seq ?_
      refine cw_region ?_
      refine ow_y (y_move rfl) ?_
      refine ow_y (y_len_str F.st9 rfl) ?_
      refine ow_y (y_gtr rfl rfl) ?_
      refine ow_nil ?_
      refine kw_code (fun _ _ h => h) ?_
      refine cw_false rfl (by first | rfl | exact decide_eq_false (by omega)) ?_
      refine cw_skip ?_
      refine kw_code (fun _ _ h => h) ?_
      refine cw_seq ?_
      refine cw_region ?_
      refine ow_y (y_move rfl) ?_
      refine ow_givesE rfl F.hb17 rfl (hsp) (by repeat (first | exact Split.nil | apply Split.cons (by repeat (first | exact Fnd.here | apply Fnd.there)))) ?_
      rintro v4 _
      simp only [List.cons_append, List.nil_append]
      refine ow_y (y_assign rfl) ?_
      refine ow_nil ?_
      refine kw_code (fun _ _ h => h) ?_
      refine cw_seq ?_
      refine cw_rowv (e := 9) (by repeat (first | exact Fnd.here | apply Fnd.there)) (by omega) fun bw capw hvw hcapw => ?_
      refine cw_region ?_
      subst hvw
      refine ow_y (y_move rfl) ?_
      refine ow_y (y_ixs F.sl41 rfl rfl (by omega)) ?_
      refine ow_y (y_loadRow F.sc9 rfl (by repeat (first | exact Fnd.here | apply Fnd.there)) (by rw [nth_eq]; rfl)) ?_
      refine ow_gives rfl F.hb23 rfl (hx) (by repeat (first | exact Split.nil | apply Split.cons (by repeat (first | exact Fnd.here | apply Fnd.there)))) ?_
      simp only [List.cons_append, List.nil_append]
      refine ow_y (y_move rfl) ?_
      refine ow_y (y_ext rfl rfl) ?_
      refine ow_y (y_ext rfl rfl) ?_
      refine ow_y (y_ext rfl rfl) ?_
      refine ow_y (y_assign rfl) ?_
      refine ow_y (y_assign rfl) ?_
      refine ow_y (y_assign rfl) ?_
      refine ow_nil ?_
      refine kw_code (fun _ _ h => h) ?_
      refine cw_seq ?_
      refine cw_seq ?_
      refine cw_region ?_
      refine ow_y (y_move rfl) ?_
      refine ow_y (y_not rfl) ?_
      refine ow_nil ?_
      refine kw_code (fun _ _ h => h) ?_
      refine cw_false rfl rfl ?_
      refine cw_skip ?_
      refine kw_code (fun _ _ h => h) ?_
      refine cw_seq ?_
      refine cw_region ?_
      refine ow_y (y_move rfl) ?_
      refine ow_y (y_ixs F.sl41 rfl rfl (by omega)) ?_
      refine ow_y (y_loadRow F.sc9 rfl (by repeat (first | exact Fnd.here | apply Fnd.there)) (by rw [nth_eq]; rfl)) ?_
      refine ow_y (y_build F.pl30 rfl (by simp [fillL, nth, Value.cells] <;> rfl)) ?_
      refine (ow_alloc F.z30 (fun b8 => ?_))
      refine (ow_storeAgg F.sz30 rfl rfl (by first | rfl | simp) (by simp [Value.oneCell']) (by simp [Value.cells]) (by simp [splice, Value.cells] <;> rfl) ?_)
      refine ow_nil ?_
      refine kw_code (fun _ _ h => h) ?_
      refine cw_meetE (X := Unit) (fun _ => [(2, .pointer (some ⟨b2, 0, none⟩)), (4, .slice (some ⟨bw, 0, none⟩) (ws.length + 1) capw), (5, .int .i64 nn), (6, .bool w), (8, .pointer (some ⟨b8, 0, none⟩))]) (fun _ => [pts b8 (.cells [.string verb, .slice none 0 0, .string ByteArray.empty].toArray 30 (0, 0)), rowA 9 1 (.slice (some ⟨bw, 0, none⟩) (ws.length + 1) capw) (ws.length + 1) ((verb :: ws).map Value.string), pts b2 (.cells [.string ByteArray.empty, .slice none 0 0, .string ByteArray.empty].toArray 30 (0, 0)), whole W, R]) ?_ ?_
      · skip
        refine cw_seq ?_
        rcases hx2 with ⟨ho, hxe⟩ | ⟨n, ho, hxe⟩
        · skip
          refine cw_region ?_
          refine ow_y (y_move rfl) ?_
          refine ow_y (y_lss rfl rfl) ?_
          refine ow_nil ?_
          refine kw_code (fun _ _ h => h) ?_
          refine cw_true rfl (by rw [hxe]; rfl) ?_
          refine cw_region ?_
          refine ow_y (y_move rfl) ?_
          refine ow_y (y_len_slice F.sl41 rfl) ?_
          refine ow_y (y_subI rfl rfl (by omega)) ?_
          refine ow_y (y_assign rfl) ?_
          refine ow_nil ?_
          rw [show ((ws.length + 1 : Nat) : Int) - 1 = (nn : Int) from by rw [← hnn, ho]; simp]
          refine kw_meetE (fun _ _ h => h) (()) (by repeat (first | exact Sub.nil | refine Sub.cons rfl ?_)) (by repeat (first | exact Split.nil | apply Split.cons (by repeat (first | exact Fnd.here | apply Fnd.there))))
        · skip
          refine cw_region ?_
          refine ow_y (y_move rfl) ?_
          refine ow_y (y_lss rfl rfl) ?_
          refine ow_nil ?_
          rw [show x = (nn : Int) from by rw [hxe, ← hnn, ho]; rfl]
          refine kw_code (fun _ _ h => h) ?_
          refine cw_false rfl (decide_eq_false (by omega)) ?_
          refine cw_skip ?_
          refine kw_meetE (fun _ _ h => h) (()) (by repeat (first | exact Sub.nil | refine Sub.cons rfl ?_)) (by repeat (first | exact Split.nil | apply Split.cons (by repeat (first | exact Fnd.here | apply Fnd.there))))
      rintro _
      refine cw_seq ?_
      refine cw_seq ?_
      refine cw_region ?_
      refine ow_y (y_assign rfl) ?_
      refine ow_nil ?_
      refine kw_code (fun _ _ h => h) ?_
      refine cw_block ?_
      refine cw_said (fun w h => sat_row_nil 3 1 w h) ?_
      refine cw_loop (X := {x : Nat × List Int × Value // x.1 ≤ nn ∧ x.1 ≤ ws.length ∧ x.2.1.length ≤ x.1 ∧ x.2.2.oneCell' = true ∧ lnRun (lnHow nn w) ws [] ByteArray.empty = lnRun ((lnHow nn w).drop x.1) (ws.drop x.1) x.2.1 ByteArray.empty}) (fun x => [(2, .pointer (some ⟨b2, 0, none⟩)), (4, .slice (some ⟨bw, 0, none⟩) (ws.length + 1) capw), (5, .int .i64 nn), (6, .bool w), (8, .pointer (some ⟨b8, 0, none⟩)), (9, .int .i64 (x.1.1 + 1))]) (fun x => [pts b8 (.cells [.string verb, x.1.2.2, .string ByteArray.empty].toArray 30 (0, 0)), rowA 3 1 x.1.2.2 x.1.2.1.length (x.1.2.1.map intL), rowA 9 1 (.slice (some ⟨bw, 0, none⟩) (ws.length + 1) capw) (ws.length + 1) ((verb :: ws).map Value.string), pts b2 (.cells [.string ByteArray.empty, .slice none 0 0, .string ByteArray.empty].toArray 30 (0, 0)), whole W, R]) (fun x => nn - x.1.1) ⟨(0, [], .slice none 0 0), by dsimp only; omega, by dsimp only; omega, by simp, rfl, rfl⟩ (by repeat (first | exact Sub.nil | refine Sub.cons rfl ?_)) (by repeat (first | exact Split.nil | apply Split.cons (by repeat (first | exact Fnd.here | apply Fnd.there)))) ?_
      rintro ⟨⟨i, ns, v⟩, hi, hj, hnl, hv, hrun⟩ m0 hm0
      try simp only at hm0
      try dsimp only
      dsimp only at hi hj hnl hv hrun
      refine cw_seq ?_
      refine cw_seq ?_
      refine cw_region ?_
      refine ow_y (y_move rfl) ?_
      refine ow_y (y_move rfl) ?_
      refine ow_y (y_leq rfl rfl) ?_
      refine ow_nil ?_
      refine kw_code (fun _ _ h => h) ?_
      refine cw_if rfl (fun hb41 => ?_) (fun hb41 => ?_)
      · skip
        have hih : i < nn := by have := of_decide_eq_true hb41; omega
        have hih2 : i < (lnHow nn w).length := by omega
        refine cw_skip ?_
        refine kw_code (fun _ _ h => h) ?_
        refine cw_seq ?_
        refine cw_block ?_
        refine cw_seq ?_
        refine cw_seq ?_
        refine cw_region ?_
        refine ow_y (y_move rfl) ?_
        refine ow_y (y_move rfl) ?_
        refine ow_y (y_len_slice F.sl41 rfl) ?_
        refine ow_y (y_geq rfl rfl) ?_
        refine ow_nil ?_
        refine kw_code (fun _ _ h => h) ?_
        refine cw_if rfl (fun hb47 => ?_) (fun hb47 => ?_)
        · skip
          have hjw : ws.length ≤ i := by have := of_decide_eq_true hb47; omega
          refine cw_seq ?_
          refine cw_region ?_
          refine ow_y (y_build F.pl30 rfl (by simp [fillL, nth, Value.cells] <;> rfl)) ?_
          refine (ow_storeAgg F.sz30 rfl rfl (by first | rfl | simp) (by simp [Value.oneCell']) (by simp [Value.cells]) (by simp [splice, Value.cells] <;> rfl) ?_)
          refine ow_y (y_assign rfl) ?_
          refine ow_nil ?_
          refine kw_code (fun _ _ h => h) ?_
          refine cw_retEC (.error 2, .slice none 0 0) ⟨by rw [hpe, hrun, run_short _ ws i hih2 hjw]; rfl, rfl⟩ (fun _ _ h => h) (RV.agg F.ag30 rfl (by simp) (by rfl) (RV.tmp rfl RV.nil)) rfl (by repeat (first | exact Split.nil | apply Split.cons (by repeat (first | exact Fnd.here | apply Fnd.there))))
        · skip
          have hjw : i < ws.length := by have := of_decide_eq_false hb47; omega
          have hst := run_step (lnHow nn w) ws i hih2 hjw ns ByteArray.empty
          rw [how_at nn w i hih hih2, if_neg (by decide)] at hst
          have hwd := nth_word verb ws i (0 + ((i : Int) + 1).toNat * 1) hjw (by omega)
          have hsz : (ws[i]).size ≤ 1000000 := by have := hwz _ (List.mem_cons_of_mem _ (List.getElem_mem hjw)); omega
          generalize ws[i] = sx at hst hwd hsz
          have hnum := rnumber_spec2 sx hsz
          refine cw_skip ?_
          refine kw_code (fun _ _ h => h) ?_
          refine cw_seq ?_
          rcases hk : lnNum sx with _ | z
          · skip
            refine cw_region ?_
            rw [hk] at hnum hst
            refine ow_y (y_move rfl) ?_
            refine ow_y (y_move rfl) ?_
            refine ow_y (y_ixs F.sl41 rfl rfl (by omega)) ?_
            refine ow_y (y_loadRow F.sc9 rfl (by repeat (first | exact Fnd.here | apply Fnd.there)) hwd) ?_
            refine ow_gives rfl F.hb13 rfl (hnum) (by repeat (first | exact Split.nil | apply Split.cons (by repeat (first | exact Fnd.here | apply Fnd.there)))) ?_
            simp only [List.cons_append, List.nil_append]
            refine ow_y (y_move rfl) ?_
            refine ow_y (y_ext rfl rfl) ?_
            refine ow_y (y_ext rfl rfl) ?_
            refine ow_y (y_assign rfl) ?_
            refine ow_y (y_assign rfl) ?_
            refine ow_nil ?_
            refine kw_code (fun _ _ h => h) ?_
            refine cw_seq ?_
            refine cw_seq ?_
            refine cw_region ?_
            refine ow_y (y_move rfl) ?_
            refine ow_y (y_not rfl) ?_
            refine ow_nil ?_
            refine kw_code (fun _ _ h => h) ?_
            refine cw_true rfl rfl ?_
            refine cw_seq ?_
            refine cw_region ?_
            refine ow_y (y_build F.pl30 rfl (by simp [fillL, nth, Value.cells] <;> rfl)) ?_
            refine (ow_storeAgg F.sz30 rfl rfl (by first | rfl | simp) (by simp [Value.oneCell']) (by simp [Value.cells]) (by simp [splice, Value.cells] <;> rfl) ?_)
            refine ow_y (y_assign rfl) ?_
            refine ow_nil ?_
            refine kw_code (fun _ _ h => h) ?_
            refine cw_retEC (.error 1, .slice none 0 0) ⟨by rw [hpe, hrun, hst]; rfl, rfl⟩ (fun _ _ h => h) (RV.agg F.ag30 rfl (by simp) (by rfl) (RV.tmp rfl RV.nil)) rfl (by repeat (first | exact Split.nil | apply Split.cons (by repeat (first | exact Fnd.here | apply Fnd.there))))
          · skip
            refine cw_region ?_
            rw [hk] at hnum hst
            refine ow_y (y_move rfl) ?_
            refine ow_y (y_move rfl) ?_
            refine ow_y (y_ixs F.sl41 rfl rfl (by omega)) ?_
            refine ow_y (y_loadRow F.sc9 rfl (by repeat (first | exact Fnd.here | apply Fnd.there)) hwd) ?_
            refine ow_gives rfl F.hb13 rfl (hnum) (by repeat (first | exact Split.nil | apply Split.cons (by repeat (first | exact Fnd.here | apply Fnd.there)))) ?_
            simp only [List.cons_append, List.nil_append]
            refine ow_y (y_move rfl) ?_
            refine ow_y (y_ext rfl rfl) ?_
            refine ow_y (y_ext rfl rfl) ?_
            refine ow_y (y_assign rfl) ?_
            refine ow_y (y_assign rfl) ?_
            refine ow_nil ?_
            refine kw_code (fun _ _ h => h) ?_
            refine cw_seq ?_
            refine cw_seq ?_
            refine cw_region ?_
            refine ow_y (y_move rfl) ?_
            refine ow_y (y_not rfl) ?_
            refine ow_nil ?_
            refine kw_code (fun _ _ h => h) ?_
            refine cw_false rfl rfl ?_
            refine cw_skip ?_
            refine kw_code (fun _ _ h => h) ?_
            refine cw_region ?_
            refine ow_y (y_fld F.fld30_1 rfl) ?_
            refine ow_y (y_load F.sc24 rfl (by rfl)) ?_
            refine ow_y (y_move rfl) ?_
            refine (ow_buildSlice F.sl24 F.z3 rfl rfl rfl (by simp [fillL, madeL, Value.cells] <;> rfl) (fun b63 => ?_))
            refine (ow_append F.sl24 F.tb3 F.z3 rfl rfl rfl (by repeat (first | exact Fnd.here | apply Fnd.there)) (src_blk F.sl24 (by simp; rfl) (by simp) (by simp [Value.oneCell'])) (by simp only [maxLen]; omega) (by omega) (fun v64 hv64 => ?_))
            refine ow_y (y_fld F.fld30_1 rfl) ?_
            refine (ow_store F.sz24 rfl rfl (by first | rfl | assumption) (by rfl) (by (try simp only [List.set_cons_zero, List.set_cons_succ, Nat.reduceAdd, Nat.reduceMul, Int.reduceToNat, Nat.zero_add, Nat.add_zero]); rfl) ?_)
            refine ow_nil ?_
            rw [show ns.map intL ++ [Value.int .i64 z] = (ns ++ [z]).map intL from by simp [intL], show ns.length + 1 = (ns ++ [z]).length from by simp]
            refine kw_code (fun _ _ h => h) ?_
            refine cw_region ?_
            refine ow_y (y_move rfl) ?_
            refine ow_y (y_addI rfl rfl (by omega)) ?_
            refine ow_y (y_assign rfl) ?_
            refine ow_nil ?_
            rw [show ((i : Int) + 1 + 1) = (((i + 1 : Nat) : Int) + 1) from by omega]
            refine kw_rnd (fun _ _ h => h) (⟨(i + 1, ns ++ [z], v64), by dsimp only; omega, by dsimp only; omega, by simp; omega, hv64, by rw [hrun, hst]⟩) (by first | omega | (simp only; omega)) (by repeat (first | exact Sub.nil | refine Sub.cons rfl ?_)) (by repeat (first | exact Split.nil | apply Split.cons (by repeat (first | exact Fnd.here | apply Fnd.there))))
      · skip
        obtain rfl : i = nn := by have := of_decide_eq_false hb41; omega
        refine cw_exit ?_
        refine kw_code (fun _ _ h => h) ?_
        refine cw_seq ?_
        refine cw_region ?_
        refine ow_y (y_move rfl) ?_
        refine ow_y (y_addI rfl rfl (by omega)) ?_
        refine ow_y (y_assign rfl) ?_
        refine ow_nil ?_
        refine kw_code (fun _ _ h => h) ?_
        refine cw_seq ?_
        refine cw_seq ?_
        cases w
        · skip
          have hdn := run_done (lnHow i false) ws i (by rw [hhl]; simp) ns ByteArray.empty
          refine cw_region ?_
          refine ow_y (y_move rfl) ?_
          refine ow_nil ?_
          refine kw_code (fun _ _ h => h) ?_
          refine cw_false rfl rfl ?_
          refine cw_skip ?_
          refine kw_code (fun _ _ h => h) ?_
          refine cw_seq ?_
          refine cw_seq ?_
          refine cw_region ?_
          refine ow_y (y_move rfl) ?_
          refine ow_y (y_len_slice F.sl41 rfl) ?_
          refine ow_y (y_move rfl) ?_
          refine ow_y (y_gtr rfl rfl) ?_
          refine ow_nil ?_
          refine kw_code (fun _ _ h => h) ?_
          refine cw_if rfl (fun hb91 => ?_) (fun hb91 => ?_)
          · skip
            have h91 := of_decide_eq_true hb91
            refine cw_seq ?_
            refine cw_region ?_
            refine ow_y (y_build F.pl30 rfl (by simp [fillL, nth, Value.cells] <;> rfl)) ?_
            refine (ow_storeAgg F.sz30 rfl rfl (by first | rfl | simp) (by simp [Value.oneCell']) (by simp [Value.cells]) (by simp [splice, Value.cells] <;> rfl) ?_)
            refine ow_y (y_assign rfl) ?_
            refine ow_nil ?_
            refine kw_code (fun _ _ h => h) ?_
            refine cw_retEC (.error 1, .slice none 0 0) ⟨by rw [hpe, hrun, hdn, lnEnd]; rw [if_neg]; intro h; have := congrArg List.length h; simp at this; omega, rfl⟩ (fun _ _ h => h) (RV.agg F.ag30 rfl (by simp) (by rfl) (RV.tmp rfl RV.nil)) rfl (by repeat (first | exact Split.nil | apply Split.cons (by repeat (first | exact Fnd.here | apply Fnd.there))))
          · skip
            have h91 := of_decide_eq_false hb91
            refine cw_skip ?_
            refine kw_code (fun _ _ h => h) ?_
            refine cw_seq ?_
            refine cw_region ?_
            refine ow_y (y_loadAgg F.ag30 rfl (by simp) (by rfl)) ?_
            refine (ow_storeAgg F.sz30 rfl rfl (by first | rfl | simp) (by simpa [Value.oneCell'] using hv) (by simp [Value.cells]) (by simp [splice, Value.cells] <;> rfl) ?_)
            refine ow_y (y_assign rfl) ?_
            refine ow_nil ?_
            refine kw_code (fun _ _ h => h) ?_
            refine cw_retEC (.ok ⟨verb, ns, ByteArray.empty⟩, v) ⟨by rw [hpe, hrun, hdn, lnEnd, if_pos (List.drop_eq_nil_of_le (by omega))], hv⟩ (fun _ _ h => h) (RV.agg F.ag30 rfl (by simp) (by rfl) (RV.tmp rfl RV.nil)) rfl (by repeat (first | exact Split.nil | apply Split.cons (by repeat (first | exact Fnd.here | apply Fnd.there))))
        · skip
          have hil : i < (lnHow i true).length := by rw [hhl]; simp
          refine cw_region ?_
          refine ow_y (y_move rfl) ?_
          refine ow_nil ?_
          refine kw_code (fun _ _ h => h) ?_
          refine cw_true rfl rfl ?_
          refine cw_seq ?_
          refine cw_seq ?_
          refine cw_region ?_
          refine ow_y (y_move rfl) ?_
          refine ow_y (y_move rfl) ?_
          refine ow_y (y_len_slice F.sl41 rfl) ?_
          refine ow_y (y_geq rfl rfl) ?_
          refine ow_nil ?_
          refine kw_code (fun _ _ h => h) ?_
          refine cw_if rfl (fun hb72 => ?_) (fun hb72 => ?_)
          · skip
            have h72 := of_decide_eq_true hb72
            refine cw_seq ?_
            refine cw_region ?_
            refine ow_y (y_build F.pl30 rfl (by simp [fillL, nth, Value.cells] <;> rfl)) ?_
            refine (ow_storeAgg F.sz30 rfl rfl (by first | rfl | simp) (by simp [Value.oneCell']) (by simp [Value.cells]) (by simp [splice, Value.cells] <;> rfl) ?_)
            refine ow_y (y_assign rfl) ?_
            refine ow_nil ?_
            refine kw_code (fun _ _ h => h) ?_
            refine cw_retEC (.error 2, .slice none 0 0) ⟨by rw [hpe, hrun, run_short _ ws i hil (by omega)]; rfl, rfl⟩ (fun _ _ h => h) (RV.agg F.ag30 rfl (by simp) (by rfl) (RV.tmp rfl RV.nil)) rfl (by repeat (first | exact Split.nil | apply Split.cons (by repeat (first | exact Fnd.here | apply Fnd.there))))
          · skip
            have h72 := of_decide_eq_false hb72
            have hjw : i < ws.length := by omega
            have hst := run_step (lnHow i true) ws i hil hjw ns ByteArray.empty
            rw [how_last i hil, if_pos rfl] at hst
            have hwd := nth_word verb ws i (0 + ((i : Int) + 1).toNat * 1) hjw (by omega)
            have hsz : (ws[i]).size ≤ 1000000 := by have := hwz _ (List.mem_cons_of_mem _ (List.getElem_mem hjw)); omega
            have hdn := fun u => run_done (lnHow i true) ws (i + 1) (by rw [hhl]; simp) ns u
            rw [hdn] at hst
            generalize ws[i] = sx at hst hwd hsz
            have hword := rword_spec sx (by simp only [maxLen]; omega)
            refine cw_skip ?_
            refine kw_code (fun _ _ h => h) ?_
            refine cw_seq ?_
            refine cw_seq ?_
            rcases hk : wordOk sx
            · skip
              refine cw_region ?_
              rw [hk] at hword hst
              refine ow_y (y_move rfl) ?_
              refine ow_y (y_move rfl) ?_
              refine ow_y (y_ixs F.sl41 rfl rfl (by omega)) ?_
              refine ow_y (y_loadRow F.sc9 rfl (by repeat (first | exact Fnd.here | apply Fnd.there)) hwd) ?_
              refine ow_gives rfl F.hb15 rfl (hword) (by repeat (first | exact Split.nil | apply Split.cons (by repeat (first | exact Fnd.here | apply Fnd.there)))) ?_
              simp only [List.cons_append, List.nil_append]
              refine ow_y (y_not rfl) ?_
              refine ow_nil ?_
              refine kw_code (fun _ _ h => h) ?_
              refine cw_true rfl rfl ?_
              refine cw_seq ?_
              refine cw_region ?_
              refine ow_y (y_build F.pl30 rfl (by simp [fillL, nth, Value.cells] <;> rfl)) ?_
              refine (ow_storeAgg F.sz30 rfl rfl (by first | rfl | simp) (by simp [Value.oneCell']) (by simp [Value.cells]) (by simp [splice, Value.cells] <;> rfl) ?_)
              refine ow_y (y_assign rfl) ?_
              refine ow_nil ?_
              refine kw_code (fun _ _ h => h) ?_
              refine cw_retEC (.error 1, .slice none 0 0) ⟨by rw [hpe, hrun, hst]; rfl, rfl⟩ (fun _ _ h => h) (RV.agg F.ag30 rfl (by simp) (by rfl) (RV.tmp rfl RV.nil)) rfl (by repeat (first | exact Split.nil | apply Split.cons (by repeat (first | exact Fnd.here | apply Fnd.there))))
            · skip
              refine cw_region ?_
              rw [hk] at hword hst
              refine ow_y (y_move rfl) ?_
              refine ow_y (y_move rfl) ?_
              refine ow_y (y_ixs F.sl41 rfl rfl (by omega)) ?_
              refine ow_y (y_loadRow F.sc9 rfl (by repeat (first | exact Fnd.here | apply Fnd.there)) hwd) ?_
              refine ow_gives rfl F.hb15 rfl (hword) (by repeat (first | exact Split.nil | apply Split.cons (by repeat (first | exact Fnd.here | apply Fnd.there)))) ?_
              simp only [List.cons_append, List.nil_append]
              refine ow_y (y_not rfl) ?_
              refine ow_nil ?_
              refine kw_code (fun _ _ h => h) ?_
              refine cw_false rfl rfl ?_
              refine cw_skip ?_
              refine kw_code (fun _ _ h => h) ?_
              refine cw_seq ?_
              refine cw_region ?_
              refine ow_y (y_move rfl) ?_
              refine ow_y (y_move rfl) ?_
              refine ow_y (y_ixs F.sl41 rfl rfl (by omega)) ?_
              refine ow_y (y_loadRow F.sc9 rfl (by repeat (first | exact Fnd.here | apply Fnd.there)) hwd) ?_
              refine ow_y (y_fld F.fld30_2 rfl) ?_
              refine (ow_store F.sz9 rfl rfl (by first | rfl | assumption) (by rfl) (by (try simp only [List.set_cons_zero, List.set_cons_succ, Nat.reduceAdd, Nat.reduceMul, Int.reduceToNat, Nat.zero_add, Nat.add_zero]); rfl) ?_)
              refine ow_nil ?_
              refine kw_code (fun _ _ h => h) ?_
              refine cw_region ?_
              refine ow_y (y_move rfl) ?_
              refine ow_y (y_addI rfl rfl (by omega)) ?_
              refine ow_y (y_assign rfl) ?_
              refine ow_nil ?_
              refine kw_code (fun _ _ h => h) ?_
              refine cw_seq ?_
              refine cw_seq ?_
              refine cw_region ?_
              refine ow_y (y_move rfl) ?_
              refine ow_y (y_len_slice F.sl41 rfl) ?_
              refine ow_y (y_move rfl) ?_
              refine ow_y (y_gtr rfl rfl) ?_
              refine ow_nil ?_
              refine kw_code (fun _ _ h => h) ?_
              refine cw_if rfl (fun hb91 => ?_) (fun hb91 => ?_)
              · skip
                have h91 := of_decide_eq_true hb91
                refine cw_seq ?_
                refine cw_region ?_
                refine ow_y (y_build F.pl30 rfl (by simp [fillL, nth, Value.cells] <;> rfl)) ?_
                refine (ow_storeAgg F.sz30 rfl rfl (by first | rfl | simp) (by simp [Value.oneCell']) (by simp [Value.cells]) (by simp [splice, Value.cells] <;> rfl) ?_)
                refine ow_y (y_assign rfl) ?_
                refine ow_nil ?_
                refine kw_code (fun _ _ h => h) ?_
                refine cw_retEC (.error 1, .slice none 0 0) ⟨by rw [hpe, hrun, hst, if_pos rfl, lnEnd]; rw [if_neg]; intro h; have := congrArg List.length h; simp at this; omega, rfl⟩ (fun _ _ h => h) (RV.agg F.ag30 rfl (by simp) (by rfl) (RV.tmp rfl RV.nil)) rfl (by repeat (first | exact Split.nil | apply Split.cons (by repeat (first | exact Fnd.here | apply Fnd.there))))
              · skip
                have h91 := of_decide_eq_false hb91
                refine cw_skip ?_
                refine kw_code (fun _ _ h => h) ?_
                refine cw_seq ?_
                refine cw_region ?_
                refine ow_y (y_loadAgg F.ag30 rfl (by simp) (by rfl)) ?_
                refine (ow_storeAgg F.sz30 rfl rfl (by first | rfl | simp) (by simpa [Value.oneCell'] using hv) (by simp [Value.cells]) (by simp [splice, Value.cells] <;> rfl) ?_)
                refine ow_y (y_assign rfl) ?_
                refine ow_nil ?_
                refine kw_code (fun _ _ h => h) ?_
                refine cw_retEC (.ok ⟨verb, ns, sx⟩, v) ⟨by rw [hpe, hrun, hst, if_pos rfl, lnEnd, if_pos (List.drop_eq_nil_of_le (by omega))], hv⟩ (fun _ _ h => h) (RV.agg F.ag30 rfl (by simp) (by rfl) (RV.tmp rfl RV.nil)) rfl (by repeat (first | exact Split.nil | apply Split.cons (by repeat (first | exact Fnd.here | apply Fnd.there))))
end Go.Proofs.YtoolmpfkbaffcaaDoor
