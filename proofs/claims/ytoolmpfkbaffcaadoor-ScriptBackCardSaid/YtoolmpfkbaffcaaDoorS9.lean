/- Part of the proof; no statement of its own: S9. -/
import Derived.Test.YtoolmpfkbaffcaaDoorFacts
import Derived.Test.YtoolmpfkbaffcaaDoorS8
import Derived.Test.YtoolmpfkbaffcaaDoorSc4
set_option linter.all false
set_option maxRecDepth 4000
set_option maxHeartbeats 4000000
namespace Go.Proofs.YtoolmpfkbaffcaaDoor
open Go.Sl Go.Sc
def parV : Except Nat Ln × Value → Value
  | (.ok l, v) => .tuple #[.agg (lnC l.verb v l.word).toArray, .int .i64 0]
  | (.error e, _) => .tuple #[.agg (lnC ⟨#[]⟩ (.slice none 0 0) ⟨#[]⟩).toArray, .int .i64 e]
def parM (W : World) : Except Nat Ln × Value → List Asrt
  | (.ok l, v) => [rowA 3 1 v l.ns.length (l.ns.map intL), whole W]
  | (.error _, _) => [whole W]
theorem repeat_eq (n : Nat) : (⟨(Lib.repeatL [110] n).toArray⟩ : ByteArray) = sb (List.replicate n 110) := by
  have : ∀ n, Lib.repeatL [110] n = List.replicate n 110 := by
    intro n
    induction n with
    | zero => rfl
    | succ n ih => rw [Lib.repeatL, ih]; rfl
  rw [this]; rfl
theorem how_len (n : Nat) (w : Bool) : (lnHow n w).length = n + if w then 1 else 0 := by
  unfold lnHow; cases w <;> simp
theorem how_not (n : Nat) (w : Bool) (h : n ≤ 3) : (decide (sb (lnHow n w) = ⟨#[42]⟩)) = false := by
  refine decide_eq_false fun e => ?_
  have e2 : lnHow n w = [42] := sb_inj.1 e
  match n, h with
  | 0, _ => cases w <;> exact absurd e2 (by decide)
  | 1, _ => cases w <;> exact absurd e2 (by decide)
  | 2, _ => cases w <;> exact absurd e2 (by decide)
  | 3, _ => cases w <;> exact absurd e2 (by decide)
theorem how_mem (n : Nat) (w : Bool) : ∀ c ∈ lnHow n w, c = 110 ∨ c = 119 := by
  intro c hc
  unfold lnHow at hc
  rcases List.mem_append.1 hc with h | h
  · exact .inl (List.eq_of_mem_replicate h)
  · cases w
    · cases h
    · exact .inr (by simpa using h)
theorem run_step (h : List UInt8) (ws : List ByteArray) (i : Nat) (hi : i < h.length) (hj : i < ws.length) (ns : List Int) (w : ByteArray) : lnRun (h.drop i) (ws.drop i) ns w =
    if h[i] = 119 then (if wordOk ws[i] then lnRun (h.drop (i + 1)) (ws.drop (i + 1)) ns ws[i] else .error 1) else
    match lnNum ws[i] with
    | none => .error 1
    | some v => lnRun (h.drop (i + 1)) (ws.drop (i + 1)) (ns ++ [v]) w := by
  rw [List.drop_eq_getElem_cons hi, List.drop_eq_getElem_cons hj, lnRun]; rfl
theorem run_short (h : List UInt8) (ws : List ByteArray) (i : Nat) (hi : i < h.length) (hj : ws.length ≤ i) (ns : List Int) (w : ByteArray) : lnRun (h.drop i) (ws.drop i) ns w = .error 2 := by
  rw [List.drop_eq_getElem_cons hi, List.drop_eq_nil_of_le hj, lnRun]
theorem run_done (h : List UInt8) (ws : List ByteArray) (i : Nat) (hi : h.length ≤ i) (ns : List Int) (w : ByteArray) : lnRun (h.drop i) (ws.drop i) ns w = .ok (ns, w, ws.drop i) := by
  rw [List.drop_eq_nil_of_le hi, lnRun]
theorem nth_word (verb : ByteArray) (ws : List ByteArray) (i k : Nat) (hi : i < ws.length) (hk : k = 1 + i) : nth ((verb :: ws).map Value.string) k = some (.string ws[i]) := by
  subst hk
  rw [nth_eq, List.map_cons, Nat.add_comm, List.getElem?_cons_succ, List.getElem?_map, List.getElem?_eq_getElem hi]; rfl
theorem parse_spec {W : World} (hW : ShW W) (s : ByteArray) (hs : s.size ≤ 1000) : Does Tryd.prog 8 #[.string s] [whole W]
    (GivesE (fun x : Except Nat Ln × Value => x.1 = lnParse s ∧ x.2.oneCell' = true) parV (parM W)) := by
  obtain ⟨verb, ws, hp⟩ := parts_ne s
  have hcnt : Lib.countB s blank = ws.length := by have := parts_len s blank rfl (by decide); rw [hp] at this; simp at this; omega
  have hwl : ws.length ≤ s.size := by have := parts_count s; rw [hp] at this; simp at this; omega
  have hwz : ∀ x ∈ verb :: ws, x.size ≤ s.size := by rw [← hp]; exact parts_size s
  have hsp := split_does hW s (by omega)
  rw [split_parts s blank rfl, hp, hcnt] at hsp
  have hshp := shape_spec verb
  unfold shapeV at hshp
  by_cases h2 : s.size > 200
  · have hpe : lnParse s = .error 3 := by unfold lnParse; rw [if_pos h2]
    refine does_enter Tryd.func8 rfl Tryd.ntmps8 rfl (fun R w0 => ?_)
    simp only [envOf, List.cons_append, List.nil_append]
    refine cw_seq ?_
    refine cw_region ?_
    refine (ow_alloc F.z26 (fun b2 => ?_))
    refine ow_y (y_assign rfl) ?_
    refine ow_nil ?_
    refine kw_code (fun _ _ h => h) ?_
    refine cw_seq ?_
    refine cw_seq ?_
    refine cw_region ?_
    refine ow_y (y_move rfl) ?_
    refine ow_y (y_len_str F.st9 rfl) ?_
    refine ow_y (y_gtr rfl rfl) ?_
    refine ow_nil ?_
    refine kw_code (fun _ _ h => h) ?_
    refine cw_true rfl (by first | rfl | exact decide_eq_true (by omega)) ?_
    refine cw_seq ?_
    refine cw_region ?_
    refine ow_y (y_build F.pl26 rfl (by simp [fillL, nth, Value.cells] <;> rfl)) ?_
    refine (ow_storeAgg F.sz26 rfl rfl (by first | rfl | simp) (by simp [Value.oneCell']) (by simp [Value.cells]) (by simp [splice, Value.cells] <;> rfl) ?_)
    refine ow_y (y_assign rfl) ?_
    refine ow_nil ?_
    refine kw_code (fun _ _ h => h) ?_
    refine cw_retEC (.error 3, .slice none 0 0) ⟨hpe.symm, rfl⟩ (fun _ _ h => h) (RV.agg F.ag26 rfl (by simp) (by rfl) (RV.tmp rfl RV.nil)) rfl (by repeat (first | exact Split.nil | apply Split.cons (by repeat (first | exact Fnd.here | apply Fnd.there))))
  · cases hsh : lnShape verb with
    | none =>
      rw [hsh] at hshp
      have hpe : lnParse s = .error 15 := by unfold lnParse; rw [if_neg h2, hp]; simp only [hsh]
      refine does_enter Tryd.func8 rfl Tryd.ntmps8 rfl (fun R w0 => ?_)
      simp only [envOf, List.cons_append, List.nil_append]
      refine cw_seq ?_
      refine cw_region ?_
      refine (ow_alloc F.z26 (fun b2 => ?_))
      refine ow_y (y_assign rfl) ?_
      refine ow_nil ?_
      refine kw_code (fun _ _ h => h) ?_
      refine cw_seq ?_
      refine cw_seq ?_
      refine cw_region ?_
      refine ow_y (y_move rfl) ?_
      refine ow_y (y_len_str F.st9 rfl) ?_
      refine ow_y (y_gtr rfl rfl) ?_
      refine ow_nil ?_
      refine kw_code (fun _ _ h => h) ?_
      refine cw_false rfl (by first | rfl | exact decide_eq_false (by omega)) ?_
      refine cw_skip ?_
      refine kw_code (fun _ _ h => h) ?_
      refine cw_seq ?_
      refine cw_region ?_
      refine ow_y (y_move rfl) ?_
      refine ow_givesE rfl F.hb19 rfl (hsp) (by repeat (first | exact Split.nil | apply Split.cons (by repeat (first | exact Fnd.here | apply Fnd.there)))) ?_
      rintro b15 _
      simp only [List.cons_append, List.nil_append]
      refine ow_y (y_assign rfl) ?_
      refine ow_nil ?_
      refine kw_code (fun _ _ h => h) ?_
      refine cw_seq ?_
      refine cw_region ?_
      refine ow_y (y_move rfl) ?_
      refine ow_y (y_ixs F.sl41 rfl rfl (by omega)) ?_
      refine ow_y (y_load F.sc9 rfl (by rfl)) ?_
      refine ow_gives rfl F.hb20 rfl (hshp) (by repeat (first | exact Split.nil | apply Split.cons (by repeat (first | exact Fnd.here | apply Fnd.there)))) ?_
      simp only [List.cons_append, List.nil_append]
      refine ow_y (y_move rfl) ?_
      refine ow_y (y_ext rfl rfl) ?_
      refine ow_y (y_ext rfl rfl) ?_
      refine ow_y (y_assign rfl) ?_
      refine ow_y (y_assign rfl) ?_
      refine ow_nil ?_
      refine kw_code (fun _ _ h => h) ?_
      refine cw_seq ?_
      refine cw_seq ?_
      refine cw_region ?_
      refine ow_y (y_move rfl) ?_
      refine ow_y (y_not rfl) ?_
      refine ow_nil ?_
      refine kw_code (fun _ _ h => h) ?_
      refine cw_true rfl rfl ?_
      refine cw_seq ?_
      refine cw_region ?_
      refine ow_y (y_build F.pl26 rfl (by simp [fillL, nth, Value.cells] <;> rfl)) ?_
      refine (ow_storeAgg F.sz26 rfl rfl (by first | rfl | simp) (by simp [Value.oneCell']) (by simp [Value.cells]) (by simp [splice, Value.cells] <;> rfl) ?_)
      refine ow_y (y_assign rfl) ?_
      refine ow_nil ?_
      refine kw_code (fun _ _ h => h) ?_
      refine cw_retEC (.error 15, .slice none 0 0) ⟨hpe.symm, rfl⟩ (fun _ _ h => h) (RV.agg F.ag26 rfl (by simp) (by rfl) (RV.tmp rfl RV.nil)) rfl (by repeat (first | exact Split.nil | apply Split.cons (by repeat (first | exact Fnd.here | apply Fnd.there))))
    | some ow =>
      obtain ⟨o, w⟩ := ow
      rw [hsh] at hshp
      have hpe := parse_run s h2 verb ws hp o w hsh
      obtain ⟨hw0, hn3⟩ := shape_star verb o w hsh
      refine does_enter Tryd.func8 rfl Tryd.ntmps8 rfl (fun R w0 => ?_)
      simp only [envOf, List.cons_append, List.nil_append]
      refine cw_seq ?_
      refine cw_region ?_
      refine (ow_alloc F.z26 (fun b2 => ?_))
      refine ow_y (y_assign rfl) ?_
      refine ow_nil ?_
      refine kw_code (fun _ _ h => h) ?_
      refine cw_seq ?_
      refine cw_seq ?_
      refine cw_region ?_
      refine ow_y (y_move rfl) ?_
      refine ow_y (y_len_str F.st9 rfl) ?_
      refine ow_y (y_gtr rfl rfl) ?_
      refine ow_nil ?_
      refine kw_code (fun _ _ h => h) ?_
      refine cw_false rfl (by first | rfl | exact decide_eq_false (by omega)) ?_
      refine cw_skip ?_
      refine kw_code (fun _ _ h => h) ?_
      refine cw_seq ?_
      refine cw_region ?_
      refine ow_y (y_move rfl) ?_
      refine ow_givesE rfl F.hb19 rfl (hsp) (by repeat (first | exact Split.nil | apply Split.cons (by repeat (first | exact Fnd.here | apply Fnd.there)))) ?_
      rintro b15 _
      simp only [List.cons_append, List.nil_append]
      refine ow_y (y_assign rfl) ?_
      refine ow_nil ?_
      refine kw_code (fun _ _ h => h) ?_
      refine cw_seq ?_
      refine cw_region ?_
      refine ow_y (y_move rfl) ?_
      refine ow_y (y_ixs F.sl41 rfl rfl (by omega)) ?_
      refine ow_y (y_load F.sc9 rfl (by rfl)) ?_
      refine ow_gives rfl F.hb20 rfl (hshp) (by repeat (first | exact Split.nil | apply Split.cons (by repeat (first | exact Fnd.here | apply Fnd.there)))) ?_
      simp only [List.cons_append, List.nil_append]
      refine ow_y (y_move rfl) ?_
      refine ow_y (y_ext rfl rfl) ?_
      refine ow_y (y_ext rfl rfl) ?_
      refine ow_y (y_assign rfl) ?_
      refine ow_y (y_assign rfl) ?_
      refine ow_nil ?_
      refine kw_code (fun _ _ h => h) ?_
      refine cw_seq ?_
      refine cw_seq ?_
      refine cw_region ?_
      refine ow_y (y_move rfl) ?_
      refine ow_y (y_not rfl) ?_
      refine ow_nil ?_
      refine kw_code (fun _ _ h => h) ?_
      refine cw_false rfl rfl ?_
      refine cw_skip ?_
      refine kw_code (fun _ _ h => h) ?_
      refine cw_seq ?_
      refine cw_region ?_
      refine ow_y (y_move rfl) ?_
      refine ow_y (y_ixs F.sl41 rfl rfl (by omega)) ?_
      refine ow_y (y_load F.sc9 rfl (by rfl)) ?_
      refine ow_y (y_build F.pl26 rfl (by simp [fillL, nth, Value.cells] <;> rfl)) ?_
      refine (ow_alloc F.z26 (fun b7 => ?_))
      refine (ow_storeAgg F.sz26 rfl rfl (by first | rfl | simp) (by simp [Value.oneCell']) (by simp [Value.cells]) (by simp [splice, Value.cells] <;> rfl) ?_)
      refine ow_nil ?_
      refine kw_code (fun _ _ h => h) ?_
      refine cw_seq ?_
      refine cw_region ?_
      refine ow_y (y_move rfl) ?_
      refine ow_y (y_sliceL F.sl41 rfl rfl (by omega) (by omega)) ?_
      refine ow_y (y_assign rfl) ?_
      refine ow_nil ?_
      generalize hp15 : cutA (some ⟨b15, 0, none⟩) (Int.toNat 1) (ws.length + 1) 1 = p15
      have hpp : ws.length ≠ 0 → p15 = some ⟨b15, 1, none⟩ := by
        intro h0; rw [← hp15]; unfold cutA; rw [if_neg (by simp only [Int.toNat_one]; omega)]; rfl
      rw [show ws.length + 1 - Int.toNat 1 = ws.length from by simp only [Int.toNat_one]; omega]
      generalize hhow : lnHow (o.getD ws.length) w = how at hpe
      have hcm0 : ∀ c ∈ how, c = 110 ∨ c = 119 := by rw [← hhow]; exact how_mem _ _
      refine kw_code (fun _ _ h => h) ?_
      refine cw_meetE (X := Unit) (fun _ => [(2, .pointer (some ⟨b2, 0, none⟩)), (4, .slice p15 ws.length ws.length), (5, .string (sb how)), (7, .pointer (some ⟨b7, 0, none⟩))]) (fun _ => [pln b7 verb (.slice none 0 0) ByteArray.empty, pts b15 (.cells ((verb :: ws).map Value.string).toArray 9 (0, 0)), pts b2 (.cells [.string ByteArray.empty, .slice none 0 0, .string ByteArray.empty].toArray 26 (0, 0)), whole W, R]) ?_ ?_
      · skip
        refine cw_seq ?_
        rcases Option.eq_none_or_eq_some o with ho | ⟨n, ho⟩
        · skip
          subst ho
          refine cw_region ?_
          refine ow_y (y_move rfl) ?_
          refine ow_y (y_str_eqlD rfl rfl) ?_
          refine ow_nil ?_
          refine kw_code (fun _ _ h => h) ?_
          refine cw_true rfl rfl ?_
          refine cw_region ?_
          refine ow_y (y_move rfl) ?_
          refine ow_y (y_len_slice F.sl41 rfl) ?_
          refine ow_gives rfl F.hb21 rfl (repeat_does ⟨#[110]⟩ ws.length (by show 1 * ws.length ≤ _; omega) (by omega)) (by repeat (first | exact Split.nil | apply Split.cons (by repeat (first | exact Fnd.here | apply Fnd.there)))) ?_
          simp only [List.cons_append, List.nil_append]
          refine ow_y (y_assign rfl) ?_
          refine ow_nil ?_
          rw [repeat_eq, show List.replicate ws.length 110 = how from by rw [← hhow, hw0 rfl]; simp [lnHow]]
          refine kw_meetE (fun _ _ h => h) (()) (by repeat (first | exact Sub.nil | refine Sub.cons rfl ?_)) (by repeat (first | exact Split.nil | apply Split.cons (by repeat (first | exact Fnd.here | apply Fnd.there))))
        · skip
          subst ho
          refine cw_region ?_
          refine ow_y (y_move rfl) ?_
          refine ow_y (y_str_eqlD rfl rfl) ?_
          refine ow_nil ?_
          rw [show lnShapeT (some n, w) = sb how from by rw [← hhow]; rfl]
          refine kw_code (fun _ _ h => h) ?_
          refine cw_false rfl (by rw [← hhow]; exact how_not n w (hn3 n rfl)) ?_
          refine cw_skip ?_
          refine kw_meetE (fun _ _ h => h) (()) (by repeat (first | exact Sub.nil | refine Sub.cons rfl ?_)) (by repeat (first | exact Split.nil | apply Split.cons (by repeat (first | exact Fnd.here | apply Fnd.there))))
      rintro _
      refine cw_seq ?_
      refine cw_seq ?_
      refine cw_region ?_
      refine ow_y (y_move rfl) ?_
      refine ow_y (y_len_str F.st9 rfl) ?_
      refine ow_y (y_move rfl) ?_
      refine ow_nil ?_
      refine kw_code (fun _ _ h => h) ?_
      refine cw_block ?_
      refine cw_said (fun w h => sat_row_nil 3 1 w h) ?_
      refine cw_loop (X := {x : Nat × List Int × ByteArray × Value // x.1 ≤ how.length ∧ x.1 ≤ ws.length ∧ x.2.1.length ≤ x.1 ∧ x.2.2.2.oneCell' = true ∧ lnRun how ws [] ByteArray.empty = lnRun (how.drop x.1) (ws.drop x.1) x.2.1 x.2.2.1}) (fun x => [(2, .pointer (some ⟨b2, 0, none⟩)), (4, .slice p15 ws.length ws.length), (5, .string (sb how)), (7, .pointer (some ⟨b7, 0, none⟩)), (38, .int .i64 how.length), (39, .int .i64 x.1.1)]) (fun x => [pln b7 verb x.1.2.2.2 x.1.2.2.1, rowA 3 1 x.1.2.2.2 x.1.2.1.length (x.1.2.1.map intL), pts b15 (.cells ((verb :: ws).map Value.string).toArray 9 (0, 0)), pts b2 (.cells [.string ByteArray.empty, .slice none 0 0, .string ByteArray.empty].toArray 26 (0, 0)), whole W, R]) (fun x => how.length - x.1.1) ⟨(0, [], ByteArray.empty, .slice none 0 0), by dsimp only; omega, by dsimp only; omega, by simp, rfl, rfl⟩ (by repeat (first | exact Sub.nil | refine Sub.cons rfl ?_)) (by repeat (first | exact Split.nil | apply Split.cons (by repeat (first | exact Fnd.here | apply Fnd.there)))) ?_
      rintro ⟨⟨i, ns, wd, v⟩, hi, hj, hnl, hv, hrun⟩ m0 hm0
      try simp only at hm0
      try dsimp only
      dsimp only at hi hj hnl hv hrun
      refine cw_seq ?_
      refine cw_region ?_
      refine ow_y (y_lss rfl rfl) ?_
      refine ow_nil ?_
      refine kw_code (fun _ _ h => h) ?_
      refine cw_seq ?_
      refine cw_if rfl (fun hb40 => ?_) (fun hb40 => ?_)
      · skip
        have hih : i < how.length := by have := of_decide_eq_true hb40; omega
        refine cw_skip ?_
        refine kw_code (fun _ _ h => h) ?_
        refine cw_seq ?_
        refine cw_block ?_
        refine cw_seq ?_
        refine cw_region ?_
        refine ow_y (y_move rfl) ?_
        refine ow_y (y_assign rfl) ?_
        refine ow_nil ?_
        refine kw_code (fun _ _ h => h) ?_
        refine cw_seq ?_
        refine cw_seq ?_
        refine cw_region ?_
        refine ow_y (y_move rfl) ?_
        refine ow_y (y_move rfl) ?_
        refine ow_y (y_len_slice F.sl41 rfl) ?_
        refine ow_y (y_geq rfl rfl) ?_
        refine ow_nil ?_
        refine kw_code (fun _ _ h => h) ?_
        refine cw_if rfl (fun hb45 => ?_) (fun hb45 => ?_)
        · skip
          have hjw : ws.length ≤ i := by have := of_decide_eq_true hb45; omega
          refine cw_seq ?_
          refine cw_region ?_
          refine ow_y (y_build F.pl26 rfl (by simp [fillL, nth, Value.cells] <;> rfl)) ?_
          refine (ow_storeAgg F.sz26 rfl rfl (by first | rfl | simp) (by simp [Value.oneCell']) (by simp [Value.cells]) (by simp [splice, Value.cells] <;> rfl) ?_)
          refine ow_y (y_assign rfl) ?_
          refine ow_nil ?_
          refine kw_code (fun _ _ h => h) ?_
          refine cw_retEC (.error 2, .slice none 0 0) ⟨(by rw [hpe, hrun, run_short how ws i hih hjw]; rfl), rfl⟩ (fun _ _ h => h) (RV.agg F.ag26 rfl (by simp) (by rfl) (RV.tmp rfl RV.nil)) rfl (by repeat (first | exact Split.nil | apply Split.cons (by repeat (first | exact Fnd.here | apply Fnd.there))))
        · skip
          have hjw : i < ws.length := by have := of_decide_eq_false hb45; omega
          obtain rfl := hpp (by omega)
          have hst := run_step how ws i hih hjw ns wd
          have hu : (sb how).data.toList[i]? = some how[i] := by rw [sb_list]; exact List.getElem?_eq_getElem hih
          have hwd := nth_word verb ws i (1 + (i : Int).toNat * 1) hjw (by omega)
          have hsz : (ws[i]).size ≤ 1000000 := by have := hwz _ (List.mem_cons_of_mem _ (List.getElem_mem hjw)); omega
          have hcm : how[i] = 110 ∨ how[i] = 119 := hcm0 _ (List.getElem_mem hih)
          generalize how[i] = ch at hst hu hcm
          generalize ws[i] = sx at hst hwd hsz
          refine cw_skip ?_
          refine kw_code (fun _ _ h => h) ?_
          refine cw_seq ?_
          by_cases hc : ch = 119
          · skip
            try subst hc
            by_cases hk : wordOk sx = true
            · skip
              try subst hc
              refine cw_tail 7 F.fol (by kernel_rfl) ?_
              simp only [List.take_succ_cons, List.take_zero, List.drop_succ_cons, List.drop_zero]
              refine os_y (y_move rfl) ?_
              refine os_y (y_move rfl) ?_
              refine os_y (y_byte F.st9 rfl rfl (by omega) hu) ?_
              refine os_y (y_move rfl) ?_
              refine os_y (y_move rfl) ?_
              refine os_y (y_ixs F.sl41 rfl rfl (by omega)) ?_
              refine os_y (y_load F.sc9 rfl hwd) ?_
              refine os_nil ?_
              rw [show (((119 : UInt8).toNat : Nat) : Int) = 119 from rfl]
              refine ow_gives rfl F.hb22 rfl ((by have := oneW_spec b7 verb wd sx v hv hsz; rwa [if_pos hk, if_pos hk] at this)) (by repeat (first | exact Split.nil | apply Split.cons (by repeat (first | exact Fnd.here | apply Fnd.there)))) ?_
              simp only [List.cons_append, List.nil_append]
              refine ow_y (y_assign rfl) ?_
              refine ow_nil ?_
              refine kw_code (fun _ _ h => h) ?_
              refine cw_seq ?_
              refine cw_region ?_
              refine ow_y (y_move rfl) ?_
              refine ow_y (y_neq rfl rfl) ?_
              refine ow_nil ?_
              refine kw_code (fun _ _ h => h) ?_
              refine cw_false rfl rfl ?_
              refine cw_skip ?_
              refine kw_code (fun _ _ h => h) ?_
              refine cw_region ?_
              refine ow_y (y_addI rfl rfl (by omega)) ?_
              refine ow_y (y_move rfl) ?_
              refine ow_nil ?_
              refine kw_rnd (fun _ _ h => h) (⟨(i + 1, ns, sx, v), by dsimp only; omega, by dsimp only; omega, by dsimp only; omega, hv, by rw [hrun, hst, if_pos rfl, if_pos hk]⟩) (by first | omega | (simp only; omega)) (by repeat (first | exact Sub.nil | refine Sub.cons rfl ?_)) (by repeat (first | exact Split.nil | apply Split.cons (by repeat (first | exact Fnd.here | apply Fnd.there))))
            · skip
              try subst hc
              refine cw_tail 7 F.fol (by kernel_rfl) ?_
              simp only [List.take_succ_cons, List.take_zero, List.drop_succ_cons, List.drop_zero]
              refine os_y (y_move rfl) ?_
              refine os_y (y_move rfl) ?_
              refine os_y (y_byte F.st9 rfl rfl (by omega) hu) ?_
              refine os_y (y_move rfl) ?_
              refine os_y (y_move rfl) ?_
              refine os_y (y_ixs F.sl41 rfl rfl (by omega)) ?_
              refine os_y (y_load F.sc9 rfl hwd) ?_
              refine os_nil ?_
              rw [show (((119 : UInt8).toNat : Nat) : Int) = 119 from rfl]
              refine ow_gives rfl F.hb22 rfl ((by have := oneW_spec b7 verb wd sx v hv hsz; rwa [if_neg hk, if_neg hk] at this)) (by repeat (first | exact Split.nil | apply Split.cons (by repeat (first | exact Fnd.here | apply Fnd.there)))) ?_
              simp only [List.cons_append, List.nil_append]
              refine ow_y (y_assign rfl) ?_
              refine ow_nil ?_
              refine kw_code (fun _ _ h => h) ?_
              refine cw_seq ?_
              refine cw_region ?_
              refine ow_y (y_move rfl) ?_
              refine ow_y (y_neq rfl rfl) ?_
              refine ow_nil ?_
              refine kw_code (fun _ _ h => h) ?_
              refine cw_true rfl rfl ?_
              refine cw_seq ?_
              refine cw_region ?_
              refine ow_y (y_build F.pl26 rfl (by simp [fillL, nth, Value.cells] <;> rfl)) ?_
              refine ow_y (y_move rfl) ?_
              refine (ow_storeAgg F.sz26 rfl rfl (by first | rfl | simp) (by simp [Value.oneCell']) (by simp [Value.cells]) (by simp [splice, Value.cells] <;> rfl) ?_)
              refine ow_y (y_assign rfl) ?_
              refine ow_nil ?_
              refine kw_code (fun _ _ h => h) ?_
              refine cw_retEC (.error 1, .slice none 0 0) ⟨(by rw [hpe, hrun, hst, if_pos rfl, if_neg hk]; rfl), rfl⟩ (fun _ _ h => h) (RV.agg F.ag26 rfl (by simp) (by rfl) (RV.tmp rfl RV.nil)) rfl (by repeat (first | exact Split.nil | apply Split.cons (by repeat (first | exact Fnd.here | apply Fnd.there))))
          · skip
            try obtain rfl := hcm.resolve_right hc
            rcases hk : lnNum sx with _ | z
            · skip
              try obtain rfl := hcm.resolve_right hc
              refine cw_tail 7 F.fol (by kernel_rfl) ?_
              simp only [List.take_succ_cons, List.take_zero, List.drop_succ_cons, List.drop_zero]
              refine os_y (y_move rfl) ?_
              refine os_y (y_move rfl) ?_
              refine os_y (y_byte F.st9 rfl rfl (by omega) hu) ?_
              refine os_y (y_move rfl) ?_
              refine os_y (y_move rfl) ?_
              refine os_y (y_ixs F.sl41 rfl rfl (by omega)) ?_
              refine os_y (y_load F.sc9 rfl hwd) ?_
              refine os_nil ?_
              rw [show (((110 : UInt8).toNat : Nat) : Int) = 110 from rfl]
              refine ow_givesE rfl F.hb22 rfl ((by have := oneN_spec hW b7 ns.length (ns.map intL) verb wd sx v (by omega) hsz; rw [hk] at this; exact this)) (by repeat (first | exact Split.nil | apply Split.cons (by repeat (first | exact Fnd.here | apply Fnd.there)))) ?_
              rintro v2 hv2
              simp only [List.cons_append, List.nil_append]
              refine ow_y (y_assign rfl) ?_
              refine ow_nil ?_
              refine kw_code (fun _ _ h => h) ?_
              refine cw_seq ?_
              refine cw_region ?_
              refine ow_y (y_move rfl) ?_
              refine ow_y (y_neq rfl rfl) ?_
              refine ow_nil ?_
              refine kw_code (fun _ _ h => h) ?_
              refine cw_true rfl rfl ?_
              refine cw_seq ?_
              refine cw_region ?_
              refine ow_y (y_build F.pl26 rfl (by simp [fillL, nth, Value.cells] <;> rfl)) ?_
              refine ow_y (y_move rfl) ?_
              refine (ow_storeAgg F.sz26 rfl rfl (by first | rfl | simp) (by simp [Value.oneCell']) (by simp [Value.cells]) (by simp [splice, Value.cells] <;> rfl) ?_)
              refine ow_y (y_assign rfl) ?_
              refine ow_nil ?_
              refine kw_code (fun _ _ h => h) ?_
              refine cw_retEC (.error 1, .slice none 0 0) ⟨(by rw [hpe, hrun, hst, if_neg (by decide), hk]; rfl), rfl⟩ (fun _ _ h => h) (RV.agg F.ag26 rfl (by simp) (by rfl) (RV.tmp rfl RV.nil)) rfl (by repeat (first | exact Split.nil | apply Split.cons (by repeat (first | exact Fnd.here | apply Fnd.there))))
            · skip
              try obtain rfl := hcm.resolve_right hc
              refine cw_tail 7 F.fol (by kernel_rfl) ?_
              simp only [List.take_succ_cons, List.take_zero, List.drop_succ_cons, List.drop_zero]
              refine os_y (y_move rfl) ?_
              refine os_y (y_move rfl) ?_
              refine os_y (y_byte F.st9 rfl rfl (by omega) hu) ?_
              refine os_y (y_move rfl) ?_
              refine os_y (y_move rfl) ?_
              refine os_y (y_ixs F.sl41 rfl rfl (by omega)) ?_
              refine os_y (y_load F.sc9 rfl hwd) ?_
              refine os_nil ?_
              rw [show (((110 : UInt8).toNat : Nat) : Int) = 110 from rfl]
              refine ow_givesE rfl F.hb22 rfl ((by have := oneN_spec hW b7 ns.length (ns.map intL) verb wd sx v (by omega) hsz; rw [hk] at this; exact this)) (by repeat (first | exact Split.nil | apply Split.cons (by repeat (first | exact Fnd.here | apply Fnd.there)))) ?_
              rintro v2 hv2
              simp only [List.cons_append, List.nil_append]
              refine ow_y (y_assign rfl) ?_
              refine ow_nil ?_
              refine kw_code (fun _ _ h => h) ?_
              refine cw_seq ?_
              refine cw_region ?_
              refine ow_y (y_move rfl) ?_
              refine ow_y (y_neq rfl rfl) ?_
              refine ow_nil ?_
              rw [show ns.map intL ++ [intL ((some z).getD 0)] = (ns ++ [z]).map intL from by simp, show ns.length + 1 = (ns ++ [z]).length from by simp]
              refine kw_code (fun _ _ h => h) ?_
              refine cw_false rfl rfl ?_
              refine cw_skip ?_
              refine kw_code (fun _ _ h => h) ?_
              refine cw_region ?_
              refine ow_y (y_addI rfl rfl (by omega)) ?_
              refine ow_y (y_move rfl) ?_
              refine ow_nil ?_
              refine kw_rnd (fun _ _ h => h) (⟨(i + 1, ns ++ [z], wd, v2), by dsimp only; omega, by dsimp only; omega, by simp; omega, hv2, by rw [hrun, hst, if_neg (by decide), hk]⟩) (by first | omega | (simp only; omega)) (by repeat (first | exact Sub.nil | refine Sub.cons rfl ?_)) (by repeat (first | exact Split.nil | apply Split.cons (by repeat (first | exact Fnd.here | apply Fnd.there))))
      · skip
        have hih : how.length ≤ i := by have := of_decide_eq_false hb40; omega
        have hdn := run_done how ws i hih ns wd
        refine cw_exit ?_
        refine kw_code (fun _ _ h => h) ?_
        refine cw_seq ?_
        refine cw_seq ?_
        refine cw_region ?_
        refine ow_y (y_move rfl) ?_
        refine ow_y (y_len_slice F.sl41 rfl) ?_
        refine ow_y (y_move rfl) ?_
        refine ow_y (y_len_str F.st9 rfl) ?_
        refine ow_y (y_gtr rfl rfl) ?_
        refine ow_nil ?_
        refine kw_code (fun _ _ h => h) ?_
        refine cw_if rfl (fun hb64 => ?_) (fun hb64 => ?_)
        · skip
          have hl : how.length < ws.length := by have := of_decide_eq_true hb64; have := sb_size how; omega
          refine cw_seq ?_
          refine cw_region ?_
          refine ow_y (y_build F.pl26 rfl (by simp [fillL, nth, Value.cells] <;> rfl)) ?_
          refine (ow_storeAgg F.sz26 rfl rfl (by first | rfl | simp) (by simp [Value.oneCell']) (by simp [Value.cells]) (by simp [splice, Value.cells] <;> rfl) ?_)
          refine ow_y (y_assign rfl) ?_
          refine ow_nil ?_
          refine kw_code (fun _ _ h => h) ?_
          refine cw_retEC (.error 1, .slice none 0 0) ⟨(by rw [hpe, hrun, hdn, lnEnd]; rw [if_neg]; intro h; have := congrArg List.length h; simp at this; omega), rfl⟩ (fun _ _ h => h) (RV.agg F.ag26 rfl (by simp) (by rfl) (RV.tmp rfl RV.nil)) rfl (by repeat (first | exact Split.nil | apply Split.cons (by repeat (first | exact Fnd.here | apply Fnd.there))))
        · skip
          have hl : ¬ how.length < ws.length := by have := of_decide_eq_false hb64; have := sb_size how; omega
          refine cw_skip ?_
          refine kw_code (fun _ _ h => h) ?_
          refine cw_seq ?_
          simp only [pln, lnC]
          refine cw_region ?_
          refine ow_y (y_loadAgg F.ag26 rfl (by simp) (by rfl)) ?_
          refine (ow_storeAgg F.sz26 rfl rfl (by first | rfl | simp) (by simpa [Value.oneCell'] using hv) (by simp [Value.cells]) (by simp [splice, Value.cells] <;> rfl) ?_)
          refine ow_y (y_assign rfl) ?_
          refine ow_nil ?_
          refine kw_code (fun _ _ h => h) ?_
          refine cw_retEC (.ok ⟨verb, ns, wd⟩, v) ⟨(by rw [hpe, hrun, hdn, lnEnd, if_pos (List.drop_eq_nil_of_le (by omega))]), hv⟩ (fun _ _ h => h) (RV.agg F.ag26 rfl (by simp) (by rfl) (RV.tmp rfl RV.nil)) rfl (by repeat (first | exact Split.nil | apply Split.cons (by repeat (first | exact Fnd.here | apply Fnd.there))))
end Go.Proofs.YtoolmpfkbaffcaaDoor
