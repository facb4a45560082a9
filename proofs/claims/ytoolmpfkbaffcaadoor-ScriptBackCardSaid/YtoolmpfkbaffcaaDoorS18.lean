/- Part of the proof; no statement of its own: S18. -/
import Derived.Test.YtoolmpfkbaffcaaDoorFacts
import Derived.Test.YtoolmpfkbaffcaaDoorS17
set_option linter.all false
set_option maxRecDepth 4000
set_option maxHeartbeats 4000000
namespace Go.Proofs.YtoolmpfkbaffcaaDoor
open Go.Sl Go.Sc Go.RowKit
theorem join_all {v : Value} {n : Nat} {xs : List ByteArray} {sep : ByteArray} (hn : n = xs.length) (hN : xs.length ≤ 1000000) (hlen : (Lib.join (xs.map (·.data.toList)) sep.data.toList).length ≤ 1000000) :
    Does Tryd.prog 18 #[v, .string sep] [rowA 9 1 v n (xs.map Value.string)] (Gives (.string ⟨(Lib.join (xs.map (·.data.toList)) sep.data.toList).toArray⟩) []) := by
  by_cases h1 : xs = []
  · subst h1; subst hn
    intro w F hs
    obtain ⟨_, hcase⟩ := rowA_cases hs
    have key : ∃ a c, v = .slice a 0 c ∧ Sat w ([] ++ [F]) := by
      rcases hcase with ⟨rfl, _, h2⟩ | ⟨b, cap, cur, rfl, g1, g2, g3, g4, hsat⟩
      · exact ⟨_, _, rfl, h2⟩
      · obtain ⟨l, ⟨l1, l2, rfl, _, h2⟩, hn, hh⟩ := hsat
        exact ⟨_, _, rfl, l2, h2, (List.nodup_append.1 (by simpa using hn)).2.1, fun b o hm => hh b o (by simp [hm])⟩
    obtain ⟨a, c, rfl, h2⟩ := key
    refine (Tryd.strings_Join_none a c sep w).mono ?_
    rintro e w' ⟨rfl, rfl⟩
    exact ⟨[], ⟨rfl, rfl⟩, h2, rfl, rfl, rfl⟩
  · exact join_does hn h1 hN hlen
theorem ow_shrink {c : Cx} {ops : Array Oper} {Q : Exit → Act → World → Prop} {rest : List Oper} {env : List (Nat × Value)} {L M : List Asrt} {e : TypeId} {size b n k cap : Nat} {xs xs' : List Value}
    (hL : Fnd L (rowA e size (.slice (some ⟨b, 0, none⟩) n cap) n xs) M) (hk : k ≤ n) (hx : xs.take (k * size) = xs') (h : OW c ops Q rest env (rowA e size (.slice (some ⟨b, 0, none⟩) k cap) k xs' :: M)) : OW c ops Q rest env L :=
  fun a w hh => h a w ⟨hh.size, hh.slots, hh.defers, hx ▸ row_shrink hk (hL.sat hh.sat), hh.like⟩
theorem scriptBack_walk (W : World) (hW : ShW W) (ha : Lib.TabIs Tryd.prog W "strings.asciiSpace" .u8 Lib.asciiSpaceTab) (verb : Int) (_ : (Lit.int .i64 verb).wf = true) (v : Value) (zs : List Int) (hz : IsInts W .i64 v zs) (word : ByteArray) (hwd : word.size ≤ maxLen) :
    Does Tryd.prog 5 #[.int .i64 verb, v, .string word] [whole W] (Gives (.bool true) [whole W]) := by
  obtain ⟨o, w, hsh, hno, hv10⟩ := verb_shape ((verb % 256).toNat % 21) (by omega)
  have hmk := make_spec ha verb v zs hz word hwd o w hsh
  have hwf := mk_wf verb zs word o w hsh hno
  have hn8 : o.getD (min zs.length 8) ≤ 8 := by
    cases o with
    | none => simp; omega
    | some n => have := (shape_star _ _ _ hsh).2 n rfl; simp; omega
  have hcr : o = none → mkVerb verb = crashS := by rintro rfl; exact crash_only _ (by omega) w hsh
  have hlen := mkNs_len zs (o.getD (min zs.length 8))
  generalize hl : (⟨mkVerb verb, mkNs zs (o.getD (min zs.length 8)), mkWord w word⟩ : Ln) = l at hwf
  obtain ⟨a, ns, b⟩ := l
  simp only [Ln.mk.injEq] at hl
  obtain ⟨e1, e2, e3⟩ := hl
  rw [e1, e3, e2] at hmk
  rw [e2] at hlen
  rw [e1] at hcr
  have hv10' : a.size ≤ 10 := e1 ▸ hv10
  rw [← hlen] at hmk hn8
  clear e1 e2 e3 hsh hno hv10 hlen
  simp only [lnC] at hmk
  obtain ⟨hc9, hall⟩ := wf_size hwf hn8 hv10'
  have htl := text_list hwf
  have htz : (lnText ⟨a, ns, b⟩).size ≤ 170 := by
    have h1 := join_len 16 _ hall
    rw [← htl] at h1
    simp only [List.length_map, List.length_cons] at h1
    have e : (lnText ⟨a, ns, b⟩).data.toList.length = (lnText ⟨a, ns, b⟩).size := by simp
    omega
  have hb := parse_back hwf (by omega)
  have hjl : (Lib.join (lnWords ⟨a, ns, b⟩) [32]).length ≤ 1000 := by
    rw [words_wf hwf, ← htl]; simp; omega
  have htx := fun u hu => text_spec hW ⟨a, ns, b⟩ u hu (by show ns.length ≤ 1000; omega) (fun z hz => by have := hwf.num z hz; omega) (by omega)
  generalize hs : lnText ⟨a, ns, b⟩ = s at htx hb htz htl
  refine does_enter Tryd.func5 rfl Tryd.ntmps5 rfl (fun R w0 => ?_)
  simp only [envOf, List.cons_append, List.nil_append]
  refine cw_seq ?_
  refine cw_region ?_
  refine ow_y (y_assign rfl) ?_
  refine ow_nil ?_
  refine kw_code (fun _ _ h => h) ?_
  refine cw_seq ?_
  refine cw_seq ?_
  refine cw_region ?_
  refine ow_gives rfl F.hb7 rfl (scAwake_spec hW) (by repeat (first | exact Split.nil | apply Split.cons (by repeat (first | exact Fnd.here | apply Fnd.there)))) ?_
  try simp only [List.cons_append, List.nil_append]
  refine ow_y (y_not rfl) ?_
  refine ow_nil ?_
  refine kw_code (fun _ _ h => h) ?_
  refine cw_false rfl rfl ?_
  refine cw_skip ?_
  refine kw_code (fun _ _ h => h) ?_
  refine cw_seq ?_
  refine cw_region ?_
  refine ow_y (y_move rfl) ?_
  refine ow_y (y_move rfl) ?_
  refine ow_y (y_move rfl) ?_
  simp only [lnC]
  refine ow_givesE rfl F.hb16 rfl (hmk) (by repeat (first | exact Split.nil | apply Split.cons (by repeat (first | exact Fnd.here | apply Fnd.there)))) ?_
  rintro u hu
  try simp only [List.cons_append, List.nil_append]
  refine (ow_alloc F.z26 (fun b7 => ?_))
  refine (ow_storeAgg F.sz26 rfl rfl (by first | rfl | simp [lnC]) (by simpa [Value.oneCell', lnC] using hu) (by simp [Value.cells]) (by simp [splice, Value.cells] <;> rfl) ?_)
  refine ow_nil ?_
  refine kw_code (fun _ _ h => h) ?_
  refine cw_seq ?_
  refine cw_region ?_
  refine ow_y (y_loadAgg F.ag26 rfl (by simp) (by rfl)) ?_
  refine ow_gives rfl F.hb11 rfl (htx u hu) (by repeat (first | exact Split.nil | apply Split.cons (by repeat (first | exact Fnd.here | apply Fnd.there)))) ?_
  try simp only [List.cons_append, List.nil_append]
  refine ow_y (y_assign rfl) ?_
  refine ow_nil ?_
  refine kw_code (fun _ _ h => h) ?_
  refine cw_seq ?_
  refine cw_region ?_
  refine ow_y (y_move rfl) ?_
  refine ow_givesE rfl F.hb8 rfl ((parse_spec hW s (by omega))) (by repeat (first | exact Split.nil | apply Split.cons (by repeat (first | exact Fnd.here | apply Fnd.there)))) ?_
  rintro ⟨r, v2⟩ ⟨hr, hv2⟩
  try simp only [List.cons_append, List.nil_append]
  obtain rfl : r = _ := hr.trans hb
  dsimp only [parV, parM, lnC]
  try simp only [List.cons_append, List.nil_append, List.append_eq]
  refine ow_y (y_move rfl) ?_
  refine ow_y (y_ext rfl rfl) ?_
  refine ow_y (y_ext rfl rfl) ?_
  refine (ow_alloc F.z26 (fun b9 => ?_))
  refine (ow_storeAgg F.sz26 rfl rfl (by first | rfl | simp) (by simpa [Value.oneCell'] using hv2) (by simp [Value.cells]) (by simp [splice, Value.cells] <;> rfl) ?_)
  refine ow_y (y_assign rfl) ?_
  refine ow_nil ?_
  refine kw_code (fun _ _ h => h) ?_
  refine cw_seq ?_
  refine cw_seq ?_
  refine cw_region ?_
  refine ow_y (y_move rfl) ?_
  refine ow_y (y_neq rfl rfl) ?_
  refine ow_y (y_move rfl) ?_
  refine ow_yg (y_loadAgg F.ag26 rfl (by simp) (by rfl)) (fun a w hh => (want_of rfl rfl rfl hh).trans (wFF rfl)) ?_
  refine ow_yg (y_loadAgg F.ag26 rfl (by simp) (by rfl)) (fun a w hh => (want_of rfl rfl rfl hh).trans (wFF rfl)) ?_
  refine ow_want (fun a w hh => (want_of rfl rfl rfl hh).trans (wFF rfl)) ?_
  refine ow_gives rfl F.hb10 rfl (same_spec a b ns v2 u hv2 hu (by omega)) (by repeat (first | exact Split.nil | apply Split.cons (by repeat (first | exact Fnd.here | apply Fnd.there)))) ?_
  try simp only [List.cons_append, List.nil_append]
  refine ow_yg (y_neq rfl rfl) (fun a w hh => (want_of rfl rfl rfl hh).trans (wFF rfl)) ?_
  refine ow_y (y_pickF rfl rfl rfl) ?_
  refine ow_nil ?_
  refine kw_code (fun _ _ h => h) ?_
  refine cw_false rfl rfl ?_
  refine cw_skip ?_
  refine kw_code (fun _ _ h => h) ?_
  refine cw_seq ?_
  refine cw_seq ?_
  refine cw_region ?_
  refine ow_y (y_fld F.fld26_0 rfl) ?_
  refine ow_y (y_load F.sc9 rfl (by rfl)) ?_
  refine ow_y (y_str_eqlD rfl rfl) ?_
  refine ow_nil ?_
  refine kw_code (fun _ _ h => h) ?_
  refine cw_if rfl (fun hb39 => ?_) (fun hb39 => ?_)
  · skip
    refine cw_seq ?_
    refine cw_region ?_
    refine ow_y (y_assign rfl) ?_
    refine ow_nil ?_
    refine kw_code (fun _ _ h => h) ?_
    refine cw_retG (fun _ _ h => h) rfl rfl (by repeat (first | exact Split.nil | apply Split.cons (by repeat (first | exact Fnd.here | apply Fnd.there))))
  · skip
    obtain ⟨n, rfl⟩ : ∃ n, o = some n := by
      cases o with
      | none => exact absurd (hcr rfl) (of_decide_eq_false hb39)
      | some n => exact ⟨n, rfl⟩
    have hpj := parts_join (a :: lnTexts ⟨a, ns, b⟩ w) (by simp) (texts_no hwf) s htl
    have hz2 : (s ++ ⟨#[32, 55]⟩ : ByteArray).size = s.size + 2 := by rw [ByteArray.size_append]; rfl
    have hm : lnParse (s ++ ⟨#[32, 55]⟩) = .error 1 := parse_more hwf _ (by rw [hs]; simp) (by omega)
    have hadd : s.size + (⟨#[32, 55]⟩ : ByteArray).size ≤ 9223372036854775807 := by have : (⟨#[32, 55]⟩ : ByteArray).size = 2 := rfl; omega
    refine cw_skip ?_
    refine kw_code (fun _ _ h => h) ?_
    refine cw_seq ?_
    refine cw_region ?_
    refine ow_y (y_move rfl) ?_
    refine ow_y (y_str_add rfl rfl hadd) ?_
    generalize s ++ (⟨#[32, 55]⟩ : ByteArray) = s2 at hz2 hm ⊢
    refine ow_givesE rfl F.hb8 rfl ((parse_spec hW s2 (by omega))) (by repeat (first | exact Split.nil | apply Split.cons (by repeat (first | exact Fnd.here | apply Fnd.there)))) ?_
    rintro ⟨r3, v3⟩ ⟨hr3, hv3⟩
    try simp only [List.cons_append, List.nil_append]
    obtain rfl : r3 = _ := hr3.trans hm
    dsimp only [parV, parM, lnC]
    try simp only [List.cons_append, List.nil_append, List.append_eq]
    refine ow_y (y_move rfl) ?_
    refine ow_y (y_ext rfl rfl) ?_
    refine ow_y (y_ext rfl rfl) ?_
    refine (ow_alloc F.z26 (fun b11 => ?_))
    refine (ow_storeAgg F.sz26 rfl rfl (by first | rfl | simp) (by simp [Value.oneCell']) (by simp [Value.cells]) (by simp [splice, Value.cells] <;> rfl) ?_)
    refine ow_y (y_assign rfl) ?_
    refine ow_nil ?_
    refine kw_code (fun _ _ h => h) ?_
    refine cw_seq ?_
    refine cw_region ?_
    refine ow_y (y_move rfl) ?_
    refine ow_givesE rfl F.hb17 rfl ((rsplit_spec2 s (by omega) a (lnTexts ⟨a, ns, b⟩ w) hpj)) (by repeat (first | exact Split.nil | apply Split.cons (by repeat (first | exact Fnd.here | apply Fnd.there)))) ?_
    rintro sv _
    try simp only [List.cons_append, List.nil_append]
    refine ow_y (y_assign rfl) ?_
    refine ow_nil ?_
    refine kw_code (fun _ _ h => h) ?_
    refine cw_seq ?_
    refine cw_rowv (e := 9) (by repeat (first | exact Fnd.here | apply Fnd.there)) (by omega) fun bs cs hvs hcs => ?_
    by_cases h0 : lnTexts ⟨a, ns, b⟩ w = []
    · skip
      refine cw_region ?_
      subst hvs
      refine ow_y (y_move rfl) ?_
      refine ow_y (y_move rfl) ?_
      refine ow_y (y_len_slice F.sl41 rfl) ?_
      refine ow_y (y_subI rfl rfl (by omega)) ?_
      rw [show (((lnTexts ⟨a, ns, b⟩ w).length + 1 : Nat) : Int) - 1 = ((lnTexts ⟨a, ns, b⟩ w).length : Int) from by omega]
      refine ow_y (y_sliceH F.sl41 rfl rfl (by omega)) ?_
      rw [Int.toNat_natCast]
      have hcut : (((a :: lnTexts ⟨a, ns, b⟩ w).map Value.string).take ((lnTexts ⟨a, ns, b⟩ w).length * 1)) = (a :: lnTexts ⟨a, ns, b⟩ w).dropLast.map Value.string := by
        rw [List.dropLast_eq_take, List.map_take]; simp
      have hmem : ∀ x ∈ (a :: lnTexts ⟨a, ns, b⟩ w).dropLast.map (·.data.toList), x.length ≤ 16 := by
        intro x hx
        obtain ⟨y, hy, rfl⟩ := List.mem_map.1 hx
        exact hall _ (List.mem_map.2 ⟨y, mem_dropLast hy, rfl⟩)
      have hjs := join_len 16 _ hmem
      have hjl2 : ((a :: lnTexts ⟨a, ns, b⟩ w).dropLast.map (·.data.toList)).length ≤ 9 := by simp; omega
      refine ow_shrink (e := 9) (b := bs) (k := (lnTexts ⟨a, ns, b⟩ w).length) (by repeat (first | exact Fnd.here | apply Fnd.there)) (by omega) hcut ?_
      refine ow_gives rfl F.hb18 rfl (join_all (n := (lnTexts ⟨a, ns, b⟩ w).length) (xs := (a :: lnTexts ⟨a, ns, b⟩ w).dropLast) (by simp) (by simp; omega) (by show (Lib.join _ [32]).length ≤ _; omega)) (by repeat (first | exact Split.nil | apply Split.cons (by repeat (first | exact Fnd.here | apply Fnd.there)))) ?_
      try simp only [List.cons_append, List.nil_append]
      have hsl : (⟨(Lib.join ((a :: lnTexts ⟨a, ns, b⟩ w).dropLast.map (·.data.toList)) [32]).toArray⟩ : ByteArray).data.toList = Lib.join ((a :: lnTexts ⟨a, ns, b⟩ w).dropLast.map (·.data.toList)) [32] := by simp
      have hsz : (⟨(Lib.join ((a :: lnTexts ⟨a, ns, b⟩ w).dropLast.map (·.data.toList)) [32]).toArray⟩ : ByteArray).size ≤ 160 := by show (Lib.join _ [32]).toArray.size ≤ 160; rw [List.size_toArray]; omega
      generalize (⟨(Lib.join ((a :: lnTexts ⟨a, ns, b⟩ w).dropLast.map (·.data.toList)) [32]).toArray⟩ : ByteArray) = s3 at hsl hsz ⊢
      obtain ⟨hl1, hl2⟩ := parse_less hwf s3 hsl (by omega)
      refine ow_givesE rfl F.hb8 rfl ((parse_spec hW s3 (by omega))) (by repeat (first | exact Split.nil | apply Split.cons (by repeat (first | exact Fnd.here | apply Fnd.there)))) ?_
      rintro ⟨r4, v4⟩ ⟨hr4, hv4⟩
      try simp only [List.cons_append, List.nil_append]
      obtain rfl : r4 = _ := hr4.trans (hl1 h0)
      dsimp only [parV, parM, lnC]
      try simp only [List.cons_append, List.nil_append, List.append_eq]
      refine ow_y (y_move rfl) ?_
      refine ow_y (y_ext rfl rfl) ?_
      refine ow_y (y_ext rfl rfl) ?_
      refine (ow_alloc F.z26 (fun b14 => ?_))
      refine (ow_storeAgg F.sz26 rfl rfl (by first | rfl | simp) (by simp [Value.oneCell']) (by simp [Value.cells]) (by simp [splice, Value.cells] <;> rfl) ?_)
      refine ow_y (y_assign rfl) ?_
      refine ow_nil ?_
      refine kw_code (fun _ _ h => h) ?_
      refine cw_seq ?_
      refine cw_region ?_
      refine ow_y (y_move rfl) ?_
      refine ow_y (y_eql rfl rfl) ?_
      refine ow_y (y_move rfl) ?_
      refine ow_yg (y_move rfl) (fun a w hh => (want_of rfl rfl rfl hh).trans (wTT rfl)) ?_
      refine ow_yg (y_eql rfl rfl) (fun a w hh => (want_of rfl rfl rfl hh).trans (wTT rfl)) ?_
      refine ow_yg (y_move rfl) (fun a w hh => (want_of rfl rfl rfl hh).trans (wTT rfl)) ?_
      refine ow_yg (y_move rfl) (fun a w hh => (want_of rfl rfl rfl hh).trans (wFF rfl)) ?_
      refine ow_yg (y_len_slice F.sl41 rfl) (fun a w hh => (want_of rfl rfl rfl hh).trans (wFF rfl)) ?_
      refine ow_yg (y_eql rfl rfl) (fun a w hh => (want_of rfl rfl rfl hh).trans (wFF rfl)) ?_
      refine ow_yg (y_move rfl) (fun a w hh => (want_of rfl rfl rfl hh).trans (wFF rfl)) ?_
      refine ow_yg (y_move rfl) (fun a w hh => (want_of rfl rfl rfl hh).trans (wTT (by rw [h0]; rfl))) ?_
      refine ow_yg (y_eql rfl rfl) (fun a w hh => (want_of rfl rfl rfl hh).trans (wTT (by rw [h0]; rfl))) ?_
      refine ow_yg (y_pickT rfl (by rw [h0]; rfl) rfl) (fun a w hh => (want_of rfl rfl rfl hh).trans (wFF rfl)) ?_
      refine ow_yg (y_pickF rfl rfl rfl) (fun a w hh => (want_of rfl rfl rfl hh).trans (wTT rfl)) ?_
      refine ow_y (y_pickT rfl rfl rfl) ?_
      refine ow_y (y_assign rfl) ?_
      refine ow_nil ?_
      refine kw_code (fun _ _ h => h) ?_
      refine cw_retG (fun _ _ h => h) rfl rfl (by repeat (first | exact Split.nil | apply Split.cons (by repeat (first | exact Fnd.here | apply Fnd.there))))
    · skip
      refine cw_region ?_
      subst hvs
      refine ow_y (y_move rfl) ?_
      refine ow_y (y_move rfl) ?_
      refine ow_y (y_len_slice F.sl41 rfl) ?_
      refine ow_y (y_subI rfl rfl (by omega)) ?_
      rw [show (((lnTexts ⟨a, ns, b⟩ w).length + 1 : Nat) : Int) - 1 = ((lnTexts ⟨a, ns, b⟩ w).length : Int) from by omega]
      refine ow_y (y_sliceH F.sl41 rfl rfl (by omega)) ?_
      rw [Int.toNat_natCast]
      have hcut : (((a :: lnTexts ⟨a, ns, b⟩ w).map Value.string).take ((lnTexts ⟨a, ns, b⟩ w).length * 1)) = (a :: lnTexts ⟨a, ns, b⟩ w).dropLast.map Value.string := by
        rw [List.dropLast_eq_take, List.map_take]; simp
      have hmem : ∀ x ∈ (a :: lnTexts ⟨a, ns, b⟩ w).dropLast.map (·.data.toList), x.length ≤ 16 := by
        intro x hx
        obtain ⟨y, hy, rfl⟩ := List.mem_map.1 hx
        exact hall _ (List.mem_map.2 ⟨y, mem_dropLast hy, rfl⟩)
      have hjs := join_len 16 _ hmem
      have hjl2 : ((a :: lnTexts ⟨a, ns, b⟩ w).dropLast.map (·.data.toList)).length ≤ 9 := by simp; omega
      refine ow_shrink (e := 9) (b := bs) (k := (lnTexts ⟨a, ns, b⟩ w).length) (by repeat (first | exact Fnd.here | apply Fnd.there)) (by omega) hcut ?_
      refine ow_gives rfl F.hb18 rfl (join_all (n := (lnTexts ⟨a, ns, b⟩ w).length) (xs := (a :: lnTexts ⟨a, ns, b⟩ w).dropLast) (by simp) (by simp; omega) (by show (Lib.join _ [32]).length ≤ _; omega)) (by repeat (first | exact Split.nil | apply Split.cons (by repeat (first | exact Fnd.here | apply Fnd.there)))) ?_
      try simp only [List.cons_append, List.nil_append]
      have hsl : (⟨(Lib.join ((a :: lnTexts ⟨a, ns, b⟩ w).dropLast.map (·.data.toList)) [32]).toArray⟩ : ByteArray).data.toList = Lib.join ((a :: lnTexts ⟨a, ns, b⟩ w).dropLast.map (·.data.toList)) [32] := by simp
      have hsz : (⟨(Lib.join ((a :: lnTexts ⟨a, ns, b⟩ w).dropLast.map (·.data.toList)) [32]).toArray⟩ : ByteArray).size ≤ 160 := by show (Lib.join _ [32]).toArray.size ≤ 160; rw [List.size_toArray]; omega
      generalize (⟨(Lib.join ((a :: lnTexts ⟨a, ns, b⟩ w).dropLast.map (·.data.toList)) [32]).toArray⟩ : ByteArray) = s3 at hsl hsz ⊢
      obtain ⟨hl1, hl2⟩ := parse_less hwf s3 hsl (by omega)
      refine ow_givesE rfl F.hb8 rfl ((parse_spec hW s3 (by omega))) (by repeat (first | exact Split.nil | apply Split.cons (by repeat (first | exact Fnd.here | apply Fnd.there)))) ?_
      rintro ⟨r4, v4⟩ ⟨hr4, hv4⟩
      try simp only [List.cons_append, List.nil_append]
      obtain rfl : r4 = _ := hr4.trans (hl2 h0)
      dsimp only [parV, parM, lnC]
      try simp only [List.cons_append, List.nil_append, List.append_eq]
      refine ow_y (y_move rfl) ?_
      refine ow_y (y_ext rfl rfl) ?_
      refine ow_y (y_ext rfl rfl) ?_
      refine (ow_alloc F.z26 (fun b14 => ?_))
      refine (ow_storeAgg F.sz26 rfl rfl (by first | rfl | simp) (by simp [Value.oneCell']) (by simp [Value.cells]) (by simp [splice, Value.cells] <;> rfl) ?_)
      refine ow_y (y_assign rfl) ?_
      refine ow_nil ?_
      refine kw_code (fun _ _ h => h) ?_
      refine cw_seq ?_
      refine cw_region ?_
      refine ow_y (y_move rfl) ?_
      refine ow_y (y_eql rfl rfl) ?_
      refine ow_y (y_move rfl) ?_
      refine ow_yg (y_move rfl) (fun a w hh => (want_of rfl rfl rfl hh).trans (wTT rfl)) ?_
      refine ow_yg (y_eql rfl rfl) (fun a w hh => (want_of rfl rfl rfl hh).trans (wTT rfl)) ?_
      refine ow_yg (y_move rfl) (fun a w hh => (want_of rfl rfl rfl hh).trans (wTT rfl)) ?_
      refine ow_skip rfl (fun a w hh => (want_of rfl rfl rfl hh).trans (wFT rfl)) ?_
      refine ow_skip rfl (fun a w hh => (want_of rfl rfl rfl hh).trans (wFT rfl)) ?_
      refine ow_skip rfl (fun a w hh => (want_of rfl rfl rfl hh).trans (wFT rfl)) ?_
      refine ow_skip rfl (fun a w hh => (want_of rfl rfl rfl hh).trans (wFT rfl)) ?_
      refine ow_skip rfl (fun a w hh => want_of_undef rfl rfl rfl hh) ?_
      refine ow_skip rfl (fun a w hh => want_of_undef rfl rfl rfl hh) ?_
      refine ow_skip rfl (fun a w hh => (want_of rfl rfl rfl hh).trans (wFT rfl)) ?_
      refine ow_yg (y_pickT rfl rfl rfl) (fun a w hh => (want_of rfl rfl rfl hh).trans (wTT rfl)) ?_
      refine ow_y (y_pickT rfl rfl rfl) ?_
      refine ow_y (y_assign rfl) ?_
      refine ow_nil ?_
      refine kw_code (fun _ _ h => h) ?_
      refine cw_retG (fun _ _ h => h) rfl rfl (by repeat (first | exact Split.nil | apply Split.cons (by repeat (first | exact Fnd.here | apply Fnd.there))))
end Go.Proofs.YtoolmpfkbaffcaaDoor
