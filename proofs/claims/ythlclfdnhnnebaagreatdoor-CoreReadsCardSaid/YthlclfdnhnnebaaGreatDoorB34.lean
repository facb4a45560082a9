/- Part of the proof; no statement of its own: M11, M12. -/
import Derived.Test.YthlclfdnhnnebaaGreatDoorB33
set_option linter.all false
section
namespace Go.Sb
def Fl {α : Type} (k : Nat) (C : Prop) (m : M α) (s : St) : Prop := ∃ e s', m s = (.err e, s') ∧ (e = 8 ∧ (freeN s : Int) < s.keep + k ∨ e = 9 ∧ C)
theorem Fl.here {α β : Type} {k k' : Nat} {C C' : Prop} {m : M α} {f : α → M β} {s : St} (h : Fl k C m s) (hk : k ≤ k') (hC : C → C') : Fl k' C' (andThen m f) s := by
  obtain ⟨e, s', h1, h2⟩ := h
  exact ⟨e, s', andThen_err h1, h2.imp (fun ⟨a, b⟩ => ⟨a, by omega⟩) (fun ⟨a, b⟩ => ⟨a, hC b⟩)⟩
theorem Fl.there {α β : Type} {c k1 k2 k' : Nat} {C C' : Prop} {m : M α} {f : α → M β} {s t : St} {a : α} (h : m s = (.ok a, t)) (r : Rel c k1 s t) (hkp : t.keep = s.keep) (j : Fl k2 C (f a) t) (hk : k1 + k2 ≤ k') (hC : C → C') : Fl k' C' (andThen m f) s := by
  obtain ⟨e, s', h1, h2⟩ := j
  refine ⟨e, s', by rw [andThen_ok h]; exact h1, h2.imp (fun ⟨a, b⟩ => ⟨a, ?_⟩) (fun ⟨a, b⟩ => ⟨a, hC b⟩)⟩
  have := r.room; omega
theorem Fl.mono {α : Type} {k k' : Nat} {C C' : Prop} {m : M α} {s : St} (h : Fl k C m s) (hk : k ≤ k') (hC : C → C') : Fl k' C' m s := by
  obtain ⟨e, s', h1, h2⟩ := h
  exact ⟨e, s', h1, h2.imp (fun ⟨a, b⟩ => ⟨a, by omega⟩) (fun ⟨a, b⟩ => ⟨a, hC b⟩)⟩
section
variable {s : St} {G : Gh} {P : List Int}
theorem Inv.free_none (h : Inv s G P) {a : Int} (ha : isFree s a) : mget a G = none := by
  cases hm : mget a G with
  | none => rfl
  | some u => exact absurd (isB_one ((h.held _).2 (by rw [hm]; rfl)) ha) (by decide)
theorem Inv.same (h : Inv s G P) {G' : Gh} (old : ∀ b o, mget b G' = some o → mget b G = some o ∨ isFree s b) {b : Int} {o : Ob} (hl : (mget b G).isSome = true) (hb : mget b G' = some o) : mget b G = some o := by
  rcases old b o hb with h1 | h1
  · exact h1
  · rw [h.free_none h1] at hl; cases hl
theorem Inv.kidSame (h : Inv s G P) {G' : Gh} (old : ∀ b o, mget b G' = some o → mget b G = some o ∨ isFree s b) {l : Nat} {k : Int} (hk : isKid G l k) (hl : k = 0 ∨ (mget k G').isSome = true) : isKid G' l k := by
  rcases hl with rfl | hl
  · cases l <;> exact .inl rfl
  · obtain ⟨o, ho⟩ := Option.isSome_iff_exists.1 hl
    rcases kid_live hk with rfl | hg
    · cases l <;> exact .inl rfl
    · have h1 := h.same old hg ho
      cases l with
      | zero =>
        rcases hk with rfl | ⟨d, ats, e⟩
        · exact .inl rfl
        · rw [e] at h1; cases h1; exact .inr ⟨d, ats, ho⟩
      | succ l =>
        rcases hk with rfl | ⟨d, ats, e⟩
        · exact .inl rfl
        · rw [e] at h1; cases h1; exact .inr ⟨d, ats, ho⟩
theorem Inv.leafSame (h : Inv s G P) {G' : Gh} (old : ∀ b o, mget b G' = some o → mget b G = some o ∨ isFree s b) (z' : mget 0 G' = none) {k : Int} (hk : isKid G 0 k) (hl : k = 0 ∨ (mget k G').isSome = true) : leafOf G' k = leafOf G k := by
  rcases hl with rfl | hl
  · unfold leafOf; rw [z', h.zero]
  · obtain ⟨o, ho⟩ := Option.isSome_iff_exists.1 hl
    rcases kid_live hk with rfl | hg
    · rw [z'] at ho; cases ho
    · unfold leafOf; rw [ho, h.same old hg ho]
theorem leafAt0 (hz : mget 0 G = none) : ∀ (l j : Nat), leafAt G l 0 j = 0
  | 0, j => by
    unfold leafAt kidsAt; rw [hz]
    have : ∀ k, none8.getD k 0 = 0 := fun k => by
      rcases Nat.lt_or_ge k 8 with h | h
      · have := getD_mem (l := none8) (i := k) h
        simpa [none8] using this
      · rw [List.getD_eq_getElem?_getD, List.getElem?_eq_none (by simpa [none8] using h)]; rfl
    exact this _
  | l + 1, j => by
    unfold leafAt kidsAt; rw [hz]
    have : ∀ k, none8.getD k 0 = 0 := fun k => by
      rcases Nat.lt_or_ge k 8 with h | h
      · have := getD_mem (l := none8) (i := k) h
        simpa [none8] using this
      · rw [List.getD_eq_getElem?_getD, List.getElem?_eq_none (by simpa [none8] using h)]; rfl
    simp only [this]
    exact leafAt0 hz l _
theorem Inv.mapSame (h : Inv s G P) {s' : St} {G' : Gh} {P' : List Int} (h' : Inv s' G' P') (old : ∀ b o, mget b G' = some o → mget b G = some o ∨ isFree s b) : ∀ (l : Nat) {root : Int}, isKid G (l + 1) root → (root = 0 ∨ (mget root G').isSome = true) →
    ∀ j, leafAt G' l root j = leafAt G l root j ∧ isKid G 0 (leafAt G l root j) ∧ (leafAt G l root j = 0 ∨ (mget (leafAt G l root j) G').isSome = true)
  | l, root, hk, .inl e, j => by
    subst e
    rw [leafAt0 h'.zero, leafAt0 h.zero]
    exact ⟨rfl, .inl rfl, .inl rfl⟩
  | 0, root, hk, .inr hl, j => by
    have hk' := h.kidSame old hk (.inr hl)
    have e : kidsAt G' root = kidsAt G root := by
      rcases hk' with rfl | ⟨ks, sm, ho⟩
      · unfold kidsAt; rw [h'.zero, h.zero]
      · unfold kidsAt
        rcases kid_live hk with rfl | hg
        · rw [h'.zero] at ho; cases ho
        · rw [ho, h.same old hg ho]
    have hm := (h'.kids hk').2 ((kidsAt G root).getD (slot 0 j).1 0) (by rw [e]; exact getD_mem (by rw [(h.kids hk).1]; exact slot_lt 0 j))
    refine ⟨by unfold leafAt; rw [e], h.leafKid 0 hk j, ?_⟩
    exact kid_live hm
  | l + 1, root, hk, .inr hl, j => by
    have hk' := h.kidSame old hk (.inr hl)
    have e : kidsAt G' root = kidsAt G root := by
      rcases hk' with rfl | ⟨ks, sm, ho⟩
      · unfold kidsAt; rw [h'.zero, h.zero]
      · unfold kidsAt
        rcases kid_live hk with rfl | hg
        · rw [h'.zero] at ho; cases ho
        · rw [ho, h.same old hg ho]
    have hm := (h'.kids hk').2 ((kidsAt G root).getD (slot (l + 1) j).1 0) (by rw [e]; exact getD_mem (by rw [(h.kids hk).1]; exact slot_lt (l + 1) j))
    have hm0 := (h.kids hk).2 ((kidsAt G root).getD (slot (l + 1) j).1 0) (getD_mem (by rw [(h.kids hk).1]; exact slot_lt (l + 1) j))
    have ih := h.mapSame h' old l hm0 (kid_live hm) (slot (l + 1) j).2
    unfold leafAt
    rw [e]; exact ih
theorem Inv.putN {o : Ob} (h : Inv s G (kidsOf o ++ P)) (hi : Idx s G) (hok : okOb G o) (hne : ∀ d ats, o ≠ .ext d ats) (hr : Roomy 3 s) :
    (∃ a s', hput (obBytes o) s = (.ok a, s') ∧ Inv s' ((a, o) :: G) (a :: P) ∧ Stp 3 1 s G s' ((a, o) :: G) ∧ mget a G = none ∧ a ≠ 0 ∧ s'.index = s.index) ∨ Fl 1 False (hput (obBytes o)) s := by
  by_cases hf : s.keep < (freeN s : Int)
  · have hl : (obBytes o).length = 64 := by
      cases o with
      | part b => exact hok
      | ext d ats => exact (hne d ats rfl).elim
      | node l ks sm =>
        obtain ⟨t1, t2, t3, t4, t5⟩ := hok
        exact (nd_back (x := { kids := ks, sum := sm }) (l := l) (by omega) ⟨t2, fun x hx => h.kid_range (t4 x hx), by rw [t5]; exact digest_len _ _⟩).2
    obtain ⟨a, s', e, i, r, hfr, q1, q2, q3, q4⟩ := h.put hok hl hr.d (by have := hr.l; omega) hf
    have hn := h.free_none hfr
    have hi' : Idx s' ((a, o) :: G) := fun k b => by
      rw [q1, r.bits, hi k b]
      constructor
      · rintro ⟨d, ats, hb, e⟩
        exact ⟨d, ats, by rw [mget_cons, if_neg (fun e2 => by rw [← e2, hn] at hb; cases hb)]; exact hb, e⟩
      · rintro ⟨d, ats, hb, e⟩
        rw [mget_cons] at hb
        split at hb
        · cases hb; exact (hne d ats rfl).elim
        · exact ⟨d, ats, hb, e⟩
    refine .inl ⟨a, s', e, i, ⟨r, hi', fun b u hb => ?_, q2, q3, q4⟩, hn, i.ne0 (o := o) (by rw [mget_cons, if_pos rfl]), q1⟩
    rw [mget_cons] at hb
    split at hb
    · rename_i e2; exact .inr (e2 ▸ hfr)
    · exact .inl hb
  · exact .inr ⟨8, s, by unfold hput; rw [if_pos (by omega)], .inl ⟨rfl, by omega⟩⟩
theorem Inv.xputs {d : B} (hd : d.length = 256) : ∀ (n : Nat), n ≤ 4 → ∀ {s : St} {G : Gh} {P : List Int}, Inv s G P → Idx s G → Roomy (n * 3) s →
    (∃ ps s' G', xputs d n s = (.ok ps, s') ∧ Inv s' G' (ps.map (·.1) ++ P) ∧ Stp (n * 3) n s G s' G' ∧ ps.length = n ∧ s'.index = s.index ∧
      (∀ b o, mget b G = some o → mget b G' = some o) ∧
      ∀ i, i < n → if allZero (part d (4 - n + i)) = true then ps.getD i (0, 0) = (0, 0) else (ps.getD i (0, 0)).1 ≠ 0 ∧ mget (ps.getD i (0, 0)).1 G' = some (.part (part d (4 - n + i))) ∧ (ps.getD i (0, 0)).2 = crcN (part d (4 - n + i))) ∨
    Fl n False (xputs d n) s
  | 0, _, s, G, P, h, hi, _ => .inl ⟨[], s, G, rfl, h, (Stp.refl h hi).mono (by omega) (by omega), rfl, rfl, fun _ _ h => h, fun i hi => by omega⟩
  | n + 1, hn, s, G, P, h, hi, hr => by
    have hr' : Roomy (3 + n * 3) s := hr.le (by omega)
    unfold Go.Sb.xputs
    simp only
    have hone : (∃ p s1 G1, (if allZero (part d (4 - (n + 1))) = true then ret (0, 0) else andThen (hput (part d (4 - (n + 1)))) fun a => ret (a, crcN (part d (4 - (n + 1)))) : M (Int × Nat)) s = (.ok p, s1) ∧ Inv s1 G1 (p.1 :: P) ∧ Stp 3 1 s G s1 G1 ∧ s1.index = s.index ∧
        (∀ b o, mget b G = some o → mget b G1 = some o) ∧
        if allZero (part d (4 - (n + 1))) = true then p = (0, 0) else p.1 ≠ 0 ∧ mget p.1 G1 = some (.part (part d (4 - (n + 1)))) ∧ p.2 = crcN (part d (4 - (n + 1)))) ∨
        Fl 1 False (if allZero (part d (4 - (n + 1))) = true then ret (0, 0) else andThen (hput (part d (4 - (n + 1)))) fun a => ret (a, crcN (part d (4 - (n + 1)))) : M (Int × Nat)) s := by
      by_cases hz : allZero (part d (4 - (n + 1))) = true
      · simp only [if_pos hz]
        exact .inl ⟨(0, 0), s, G, rfl, h.add0, (Stp.refl h hi).mono (by omega) (by omega), rfl, fun _ _ h => h, rfl⟩
      · simp only [if_neg hz]
        rcases Inv.putN (o := .part (part d (4 - (n + 1)))) (P := P) h hi (part_len hd (by omega)) (fun _ _ e => by cases e) (hr'.le (by omega)) with ⟨a, s1, e1, i1, t1, hn1, ha0, x1⟩ | hf
        · refine .inl ⟨(a, crcN (part d (4 - (n + 1)))), s1, _, ?_, i1, t1, x1, fun b o hb => ?_, ha0, by rw [mget_cons, if_pos rfl], rfl⟩
          · have e1' : hput (part d (4 - (n + 1))) s = (.ok a, s1) := e1
            rw [andThen_ok e1']; rfl
          · rw [mget_cons, if_neg (fun e => by rw [← e, hn1] at hb; cases hb)]; exact hb
        · exact .inr (Fl.here (m := hput (part d (4 - (n + 1)))) hf (Nat.le_refl _) id)
    rcases hone with ⟨p, s1, G1, e1, i1, t1, x1, k1, c1⟩ | hf
    · rcases Inv.xputs hd n (by omega) i1 t1.idx (hr'.go t1.rel) with ⟨ps, s2, G2, e2, i2, t2, l2, x2, k2, c2⟩ | hf
      · refine .inl ⟨p :: ps, s2, G2, by rw [andThen_ok e1, andThen_ok e2]; rfl, i2.perm fun x hx => ?_, (t1.trans t2).mono (by omega) (by omega), by simp [l2], x2.trans x1, fun b o hb => k2 b o (k1 b o hb), fun i hi => ?_⟩
        · simp only [List.map_cons, List.cons_append, List.count_append, List.count_cons]; omega
        · cases i with
          | zero =>
            simp only [Nat.add_zero, List.getD_cons_zero]
            split at c1
            · rename_i hz; rw [if_pos hz]; exact c1
            · rename_i hz; rw [if_neg hz]; exact ⟨c1.1, k2 _ _ c1.2.1, c1.2.2⟩
          | succ i =>
            have := c2 i (by omega)
            rw [show 4 - (n + 1) + (i + 1) = 4 - n + i by omega]
            simpa only [List.getD_cons_succ] using this
      · exact .inr (Fl.there e1 t1.rel t1.keep (hf.here (Nat.le_refl _) id) (by omega) id)
    · exact .inr (hf.here (by omega) id)
def Clash (G : Gh) (bits : Nat) (data : B) : Prop := ∃ a d ats, mget a G = some (.ext d ats) ∧ d ≠ data ∧ key bits (Sha.sum d) = key bits (Sha.sum data)
theorem Inv.xput (h : Inv s G P) (hi : Idx s G) {data : B} (hd : data.length = 256) (hr : Roomy 16 s) (hP : P.length ≤ 1000000) :
    (∃ a s' G', xput data s = (.ok a, s') ∧ Inv s' G' (a :: P) ∧ Stp 16 5 s G s' G' ∧ isKid G' 0 a ∧ leafOf G' a = data ∧ (allZero data = false → ¬ Clash G s.bits data)) ∨ Fl 5 (allZero data = false ∧ Clash G s.bits data) (xput data) s := by
  unfold Go.Sb.xput
  rw [if_neg (by omega)]
  by_cases hz : allZero data = true
  · rw [if_pos hz]
    refine .inl ⟨0, s, G, rfl, h.add0, (Stp.refl h hi).mono (by omega) (by omega), .inl rfl, ?_, fun e => by rw [hz] at e; cases e⟩
    unfold leafOf; rw [h.zero, allZero_eq hz hd]
  · rw [if_neg hz]
    have hz' : allZero data = false := by simpa using hz
    cases hm : mget (key s.bits (Sha.sum data)) s.index with
    | some a =>
      obtain ⟨d, ats, ho, hk⟩ := (hi _ _).1 hm
      have hone : ∀ b d' ats', mget b G = some (.ext d' ats') → key s.bits (Sha.sum d') = key s.bits (Sha.sum data) → b = a := fun b d' ats' hb e => by
        have := (hi (key s.bits (Sha.sum data)) b).2 ⟨d', ats', hb, e.symm⟩
        rw [hm] at this; cases this; rfl
      by_cases hdd : d = data
      · subst hdd
        obtain ⟨s1, e1, i1, r1, q1, q2, q3, q4⟩ := h.more ho hr.d (by have := hr.l; omega) hP
        refine .inl ⟨a, s1, G, ?_, i1, ⟨r1.mono (by omega) (by omega), fun k b => by rw [q1, r1.bits]; exact hi k b, fun _ _ h => .inl h, q2, q3, q4⟩, .inr ⟨d, ats, ho⟩, by unfold leafOf; rw [ho], ?_⟩
        · simp only [hm]
          rw [andThen_ok (h.xget ho)]
          show (if d ≠ d then fail 9 else andThen (hmore a) fun _ => ret a : M Int) s = _
          rw [if_neg (by simp), andThen_ok e1]; rfl
        · rintro _ ⟨b, d', ats', hb, hne, e⟩
          have := hone b d' ats' hb e
          subst this
          rw [ho] at hb; cases hb; exact hne rfl
      · refine .inr ⟨9, s, ?_, .inr ⟨rfl, hz', a, d, ats, ho, hdd, hk.symm⟩⟩
        simp only [hm]
        rw [andThen_ok (h.xget ho)]
        show (if d ≠ data then fail 9 else andThen (hmore a) fun _ => ret a : M Int) s = _
        rw [if_pos hdd]; rfl
    | none =>
      have hnc : ¬ Clash G s.bits data := by
        rintro ⟨b, d', ats', hb, _, e⟩
        have := (hi (key s.bits (Sha.sum data)) b).2 ⟨d', ats', hb, e.symm⟩
        rw [hm] at this; cases this
      rcases h.xputs hd 4 (Nat.le_refl _) hi (hr.le (by omega)) with ⟨ps, s1, G1, e1, i1, t1, l1, x1, k1, c1⟩ | hf
      · have hmap : ∀ i, (ps.map (·.1)).getD i 0 = (ps.getD i (0, 0)).1 := fun i => by
          rw [List.getD_eq_getElem?_getD, List.getD_eq_getElem?_getD, List.getElem?_map]
          cases ps[i]? <;> rfl
        have hok : okOb G1 (.ext data (ps.map (·.1))) := by
          refine ⟨hd, hz', by simp [l1], fun k hk => ?_⟩
          have := c1 k hk
          rw [show 4 - 4 + k = k by omega] at this
          unfold okPart
          split at this
          · rename_i hz; rw [if_pos hz, hmap, this]
          · rename_i hz; rw [if_neg hz, hmap]; exact ⟨this.1, this.2.1⟩
        have hsums : ps.map (·.2) = (List.range 4).map fun k => if allZero (part data k) then 0 else crcN (part data k) := by
          apply List.ext_getElem?
          intro i
          by_cases hi4 : i < 4
          · have := c1 i hi4
            rw [show 4 - 4 + i = i by omega] at this
            have hg : ps[i]? = some (ps.getD i (0, 0)) := by rw [List.getD_eq_getElem?_getD, List.getElem?_eq_getElem (by omega)]; rfl
            rw [List.getElem?_map, hg, List.getElem?_map, List.getElem?_range hi4]
            split at this
            · rename_i hz; rw [this]; simp [hz]
            · rename_i hz; simp only [Option.map_some, this.2.2, hz]; rfl
          · rw [List.getElem?_eq_none (by simp; omega), List.getElem?_eq_none (by simp; omega)]
        have hbytes : hdBytes { at_ := ps.map (·.1), sums := ps.map (·.2), sum := Sha.sum data } = obBytes (.ext data (ps.map (·.1))) := by
          show _ = hdBytes (headOf _ _); unfold headOf; rw [hsums]
        have hr1 : Roomy 4 s1 := (hr.le (by omega) : Roomy (4 * 3 + 4) s).go t1.rel
        by_cases hf : s1.keep < (freeN s1 : Int)
        · have hl64 : (obBytes (.ext data (ps.map (·.1)))).length = 64 := by
            refine (hd_back ⟨by simp [headOf, l1], fun x hx => ?_, by simp [headOf], fun c hc => ?_, sha_len _⟩).2
            · rcases ats_parts hok x hx with rfl | ⟨b, hb⟩
              · omega
              · have := i1.range hb; omega
            · obtain ⟨k, _, rfl⟩ := List.mem_map.1 hc
              split
              · decide
              · exact Nat.lt_of_lt_of_eq (crcN_lt _) (by decide)
          obtain ⟨a, s2, e2, i2, r2, hfr, q1, q2, q3, q4⟩ := Inv.put (o := .ext data (ps.map (·.1))) (P := P) i1 hok hl64 hr1.d (by have := hr1.l; omega) hf
          have hr2 : Roomy 1 s2 := (hr1.le (by omega) : Roomy (3 + 1) s1).go r2
          have e3 : putIndex (key s2.bits (Sha.sum data)) a s2 = (.ok (), { s2 with log := bk s2.depth s2.log (.index (key s2.bits (Sha.sum data)) (mget (key s2.bits (Sha.sum data)) s2.index)), index := mput (key s2.bits (Sha.sum data)) a s2.index }) := by
            have := hr2.l
            simp [putIndex, andThen, back, show ¬ 1000000000 ≤ s2.log.length by omega]
          have r3 := um_putIndex (key s2.bits (Sha.sum data)) a s2 hr2.d i2.u (by rw [e3]; simp)
          rw [e3] at r3
          have hn := i1.free_none hfr
          have hb2 : s2.bits = s.bits := r2.bits.trans t1.rel.bits
          have hidx : ∀ k b, mget k s1.index = some b ↔ ∃ d ats, mget b G1 = some (.ext d ats) ∧ k = key s.bits (Sha.sum d) := fun k b => by
            have := t1.idx k b; rw [t1.rel.bits] at this; exact this
          refine .inl ⟨a, _, (a, .ext data (ps.map (·.1))) :: G1, ?_, ⟨r3.ok, i2.nod, i2.lo, i2.hi, i2.refs, i2.live, i2.zero, i2.held, i2.disk, i2.typ, i2.cnt⟩, ⟨((t1.rel.trans r2).trans r3).mono (by omega) (by omega), fun k b => ?_, fun b o hb => ?_, q2.trans t1.keep, q3.trans t1.vols, q4.trans t1.next⟩, .inr ⟨data, _, by rw [mget_cons, if_pos rfl]⟩, by unfold leafOf; rw [mget_cons, if_pos rfl], fun _ => hnc⟩
          · simp only [hm]
            rw [andThen_ok e1]
            simp only [hbytes]
            rw [andThen_ok e2]
            show andThen (fun s => putIndex (key s.bits (Sha.sum data)) a s) _ s2 = _
            rw [andThen_ok (m := fun s => putIndex (key s.bits (Sha.sum data)) a s) e3]; rfl
          · show mget k (mput (key s2.bits (Sha.sum data)) a s2.index) = some b ↔ ∃ d' ats', mget b ((a, Ob.ext data (ps.map (·.1))) :: G1) = some (Ob.ext d' ats') ∧ k = key s2.bits (Sha.sum d')
            rw [mget_mput, hb2, q1]
            constructor
            · intro hk
              split at hk
              · rename_i e; cases hk; exact ⟨data, _, by rw [mget_cons, if_pos rfl], e.symm⟩
              · obtain ⟨d', ats', hb, e⟩ := (hidx k b).1 hk
                exact ⟨d', ats', by rw [mget_cons, if_neg (fun e2 => by rw [← e2, hn] at hb; cases hb)]; exact hb, e⟩
            · rintro ⟨d', ats', hb, e⟩
              rw [mget_cons] at hb
              split at hb
              · rename_i e2; cases hb; subst e2; rw [if_pos e.symm]
              · have hk := (hidx k b).2 ⟨d', ats', hb, e⟩
                rw [if_neg]
                · exact hk
                · intro e2
                  rw [x1, ← e2, hm] at hk; cases hk
          · rw [mget_cons] at hb
            split at hb
            · rename_i e; subst e; exact .inr (t1.rel.free _ hfr)
            · exact t1.old b o hb
        · refine .inr ⟨8, s1, ?_, .inl ⟨rfl, ?_⟩⟩
          · simp only [hm]
            rw [andThen_ok e1]
            refine andThen_err ?_
            unfold hput; rw [if_pos (by omega)]
          · have := t1.rel.room; have := t1.keep; omega
      · refine .inr ?_
        obtain ⟨e, s', h1, h2⟩ := hf
        refine ⟨e, s', by simp only [hm]; exact andThen_err h1, h2.imp (fun ⟨a, b⟩ => ⟨a, by omega⟩) (fun ⟨_, b⟩ => b.elim)⟩
end
end Go.Sb
end
section
namespace Go.Sb
theorem cnt_set : ∀ {l : List Int} {k : Nat} (_ : k < l.length) (r x : Int), (l.set k r).count x = (if r = x then 1 else 0) + (l.eraseIdx k).count x
  | [], k, h, _, _ => by simp at h
  | y :: l, 0, _, r, x => by simp only [List.set_cons_zero, List.eraseIdx_cons_zero, List.count_cons, beq_iff_eq]; omega
  | y :: l, k + 1, h, r, x => by
    have := cnt_set (l := l) (k := k) (by simpa using h) r x
    simp only [List.set_cons_succ, List.eraseIdx_cons_succ, List.count_cons]; omega
theorem cnt_get {l : List Int} {k : Nat} (h : k < l.length) (x : Int) : l.count x = (if l.getD k 0 = x then 1 else 0) + (l.eraseIdx k).count x := by
  have h1 := cnt_set h (l.getD k 0) x
  have e : l.set k (l.getD k 0) = l := by
    rw [List.getD_eq_getElem?_getD, List.getElem?_eq_getElem h]
    exact List.set_getElem_self h
  rw [e] at h1; exact h1
theorem cons_cnt (r x : Int) (l : List Int) : (r :: l).count x = (if r = x then 1 else 0) + l.count x := by
  rw [List.count_cons]; by_cases e : r = x <;> simp [e] <;> omega
theorem erase_mem {l : List Int} {k : Nat} {x : Int} (h : x ∈ l.eraseIdx k) : x ∈ l := List.mem_of_mem_eraseIdx h
theorem set_mem {l : List Int} {k : Nat} (hk : k < l.length) {r x : Int} (h : x ∈ l.set k r) : x = r ∨ x ∈ l.eraseIdx k := by
  have h1 := List.count_pos_iff.2 h
  rw [cnt_set hk] at h1
  by_cases e : r = x
  · exact .inl e.symm
  · rw [if_neg e] at h1; exact .inr (List.count_pos_iff.1 (by omega))
section
variable {s : St} {G : Gh} {P : List Int}
theorem Inv.mores (l : Nat) : ∀ (ks : List Int) {s : St} {P : List Int}, Inv s G P → Idx s G → (∀ k ∈ ks, isKid G l k) → Roomy ks.length s → P.length + ks.length ≤ 1000000 →
    ∃ s', each (rmore · l) ks s = (.ok (), s') ∧ Inv s' G (ks ++ P) ∧ Stp ks.length 0 s G s' G
  | [], s, P, h, hi, _, _, _ => ⟨s, rfl, h, Stp.refl h hi⟩
  | x :: ks, s, P, h, hi, hk, hr, hP => by
    simp only [List.length_cons] at hr hP
    have hr' : Roomy (1 + ks.length) s := hr.le (by omega)
    have one : ∃ s1, rmore x l s = (.ok (), s1) ∧ Inv s1 G (x :: P) ∧ Stp 1 0 s G s1 G := by
      by_cases h0 : x = 0
      · subst h0
        exact ⟨s, by unfold rmore; rw [if_pos rfl]; rfl, h.add0, (Stp.refl h hi).mono (by omega) (by omega)⟩
      · have hl : (mget x G).isSome = true := (kid_live (hk x (List.mem_cons_self ..))).resolve_left h0
        obtain ⟨o, ho⟩ := Option.isSome_iff_exists.1 hl
        obtain ⟨s1, e1, i1, r1, q1, q2, q3, q4⟩ := h.more ho hr.d (by have := hr.l; omega) (by omega)
        refine ⟨s1, ?_, i1, r1, fun k b => by rw [q1, r1.bits]; exact hi k b, fun _ _ h => .inl h, q2, q3, q4⟩
        unfold rmore
        rw [if_neg h0]
        split
        · unfold xmore; rw [if_neg h0]; exact e1
        · exact e1
    obtain ⟨s1, e1, i1, t1⟩ := one
    obtain ⟨s2, e2, i2, t2⟩ := Inv.mores l ks i1 t1.idx (fun y hy => hk y (List.mem_cons_of_mem _ hy)) (hr'.go t1.rel) (by simp; omega)
    refine ⟨s2, by unfold each; rw [andThen_ok e1]; exact e2, i2.perm fun y hy => ?_, (t1.trans t2).mono (by simp; omega) (by omega)⟩
    simp only [List.count_append, List.cons_append, List.count_cons]; omega
theorem set_getD {l : List Int} {k j : Nat} (hk : k < l.length) (r : Int) : (l.set k r).getD j 0 = if j = k then r else l.getD j 0 := by
  rw [List.getD_eq_getElem?_getD, List.getD_eq_getElem?_getD]
  by_cases e : j = k
  · subst e; rw [List.getElem?_set_self hk]; simp
  · rw [List.getElem?_set_ne (Ne.symm e), if_neg e]
theorem Inv.renew (l : Nat) {ks : List Int} (h : Inv s G (ks ++ P)) (hi : Idx s G) (hl : l < 3) (h8 : ks.length = 8) (hk : ∀ k ∈ ks, isKid G l k) (hr : Roomy 3 s) :
    (∃ r s' G', (if ks = none8 then ret 0 else andThen (Go.Sb.rsums l ks) fun ss => hput (ndBytes l { kids := ks, sum := digest l ss }) : M Int) s = (.ok r, s') ∧ Inv s' G' (r :: P) ∧ Stp 3 1 s G s' G' ∧ isKid G' (l + 1) r ∧ kidsAt G' r = ks ∧ (∀ b o, mget b G = some o → mget b G' = some o)) ∨
    Fl 1 False (if ks = none8 then ret 0 else andThen (Go.Sb.rsums l ks) fun ss => hput (ndBytes l { kids := ks, sum := digest l ss }) : M Int) s := by
  by_cases hz : ks = none8
  · simp only [if_pos hz]
    refine .inl ⟨0, s, G, rfl, h.perm fun x hx => ?_, (Stp.refl h hi).mono (by omega) (by omega), .inl rfl, by unfold kidsAt; rw [h.zero, hz], fun _ _ h => h⟩
    rw [hz, List.count_append, cons_cnt, if_neg (Ne.symm hx)]
    have : none8.count x = 0 := List.count_eq_zero.2 fun hm => hx (by simpa [none8] using hm)
    omega
  · simp only [if_neg hz]
    have e0 := h.rsums l ks hk
    have hok : okOb G (.node l ks (digest l (ks.map (sumOf G)))) := ⟨hl, h8, hz, hk, rfl⟩
    rcases Inv.putN (o := .node l ks (digest l (ks.map (sumOf G)))) (P := P) h hi hok (fun _ _ e => by cases e) hr with ⟨a, s', e1, i1, t1, hn, ha0, _⟩ | hf
    · refine .inl ⟨a, s', _, by rw [andThen_ok e0]; exact e1, i1, t1, .inr ⟨_, _, by rw [mget_cons, if_pos rfl]⟩, by unfold kidsAt; rw [mget_cons, if_pos rfl], fun b o hb => ?_⟩
      rw [mget_cons, if_neg (fun e => by rw [← e, hn] at hb; cases hb)]; exact hb
    · obtain ⟨e, s', h1, h2⟩ := hf
      exact .inr ⟨e, s', by rw [andThen_ok e0]; exact h1, h2⟩
theorem old_of_sup {G' : Gh} (hs : ∀ b o, mget b G = some o → mget b G' = some o) {k : Int} {l : Nat} (hk : isKid G l k) : k = 0 ∨ (mget k G').isSome = true := by
  rcases kid_live hk with h | h
  · exact .inl h
  · obtain ⟨o, ho⟩ := Option.isSome_iff_exists.1 h
    exact .inr (by rw [hs _ _ ho]; rfl)
theorem slot_split {l at_ : Nat} (h : at_ < 8 ^ (l + 1)) : at_ = (slot l at_).1 * 8 ^ l + (slot l at_).2 ∧ (slot l at_).2 < 8 ^ l := by
  have hp : 0 < 8 ^ l := Nat.pos_of_ne_zero (by simp)
  have h1 : at_ / 8 ^ l < 8 := by rw [Nat.div_lt_iff_lt_mul hp, Nat.mul_comm]; rw [Nat.pow_succ] at h; exact h
  unfold slot
  simp only
  rw [Nat.mod_eq_of_lt h1, Nat.mul_comm]
  exact ⟨(Nat.div_add_mod _ _).symm, Nat.mod_lt _ hp⟩
theorem slot_eq {l a b : Nat} (ha : a < 8 ^ (l + 1)) (hb : b < 8 ^ (l + 1)) : (slot l a).1 = (slot l b).1 ∧ (slot l a).2 = (slot l b).2 ↔ a = b := by
  constructor
  · rintro ⟨h1, h2⟩
    rw [(slot_split ha).1, (slot_split hb).1, h1, h2]
  · rintro rfl; exact ⟨rfl, rfl⟩
theorem Inv.rset : ∀ (l : Nat) {s : St} {G : Gh} {P : List Int} {root : Int} {at_ : Nat} {to_ : Int}, Inv s G (root :: to_ :: P) → Idx s G → isKid G (l + 1) root → isKid G 0 to_ → l < 3 → at_ < 8 ^ (l + 1) → Roomy (setC l) s → P.length + 100 + 100 * l ≤ 900000 →
    (∃ r s' G', Go.Sb.rset l root at_ to_ s = (.ok r, s') ∧ Inv s' G' (r :: P) ∧ Stp (setC l) (l + 1) s G s' G' ∧ isKid G' (l + 1) r ∧ ∀ j, j < 8 ^ (l + 1) → leafAt G' l r j = if j = at_ then to_ else leafAt G l root j) ∨
    Fl (l + 1) False (Go.Sb.rset l root at_ to_) s := by
  intro l
  induction l with
  | zero =>
    intro s G P root at_ to_ h hi hroot hto hl hat hr hP
    have hk8 := h.kids hroot
    have hsl : (slot 0 at_).1 < (kidsAt G root).length := by rw [hk8.1]; exact slot_lt 0 at_
    have hrm : Roomy (8 + (lessC 1 + (21 + 3))) s := hr.le (by decide)
    have e0 := h.loadK hroot
    obtain ⟨s1, e1, i1, t1⟩ := Inv.mores 0 (kidsAt G root) h hi hk8.2 (by rw [hk8.1]; exact hrm.le (by omega)) (by simp; omega)
    rw [hk8.1] at t1
    have hr1 := hrm.go t1.rel
    have i1' : Inv s1 G (root :: (kidsAt G root ++ to_ :: P)) := i1.perm fun x hx => by simp only [List.count_append, List.count_cons]; omega
    obtain ⟨s2, G2, e2, i2, t2, b2⟩ := Inv.rless 1 i1' t1.idx hroot (hr1.le (by omega)) (by simp; omega)
    have hr2 : Roomy (21 + 3) s2 := hr1.go t2.rel
    have i2' : Inv s2 G2 ((kidsAt G root).getD (slot 0 at_).1 0 :: ((kidsAt G root).eraseIdx (slot 0 at_).1 ++ to_ :: P)) := i2.perm fun x hx => by
      rw [cons_cnt, List.count_append, List.count_append, cnt_get hsl x]; omega
    have hkk : isKid G2 0 ((kidsAt G root).getD (slot 0 at_).1 0) := kid_sub b2 (hk8.2 _ (getD_mem hsl)) (by
      by_cases h0 : (kidsAt G root).getD (slot 0 at_).1 0 = 0
      · exact .inl h0
      · exact .inr (i2'.pend (List.mem_cons_self ..) h0))
    obtain ⟨s3, G3, e3, i3, t3, b3⟩ := i2'.xless t2.idx hkk (hr2.le (by omega)) (by simp; rw [List.length_eraseIdx]; split <;> omega)
    have hr3 : Roomy 3 s3 := hr2.go t3.rel
    have b13 : Sub G3 G := b3.trans b2
    have i3' : Inv s3 G3 ((kidsAt G root).set (slot 0 at_).1 to_ ++ P) := i3.perm fun x hx => by
      rw [List.count_append, List.count_append, cons_cnt, cnt_set hsl]; omega
    have hks : ∀ k ∈ (kidsAt G root).set (slot 0 at_).1 to_, isKid G3 0 k := fun k hm => by
      have hp := i3'.pend (x := k) (List.mem_append_left _ hm)
      refine kid_sub b13 ?_ (if h0 : k = 0 then .inl h0 else .inr (hp h0))
      rcases set_mem hsl hm with rfl | h1
      · exact hto
      · exact hk8.2 _ (erase_mem h1)
    have eset : Go.Sb.rset 0 root at_ to_ s = (if (kidsAt G root).set (slot 0 at_).1 to_ = none8 then ret 0 else andThen (Go.Sb.rsums 0 ((kidsAt G root).set (slot 0 at_).1 to_)) fun ss => hput (ndBytes 0 { kids := (kidsAt G root).set (slot 0 at_).1 to_, sum := digest 0 ss }) : M Int) s3 := by
      unfold Go.Sb.rset
      rw [andThen_ok e0]
      simp only
      rw [andThen_ok e1, andThen_ok (show rdrop root 0 s1 = _ from e2), andThen_ok (show (andThen (Go.Sb.xless ((kidsAt G root).getD (slot 0 at_).1 0)) fun _ => ret to_) s2 = (.ok to_, s3) by rw [andThen_ok e3]; rfl)]
    have t123 := (t1.trans t2).trans t3
    rcases Inv.renew 0 i3' t3.idx (by omega) (by simp [hk8.1]) hks hr3 with ⟨r, s4, G4, e4, i4, t4, k4, q4, sup4⟩ | hf
    · refine .inl ⟨r, s4, G4, by rw [eset, e4], i4, (t123.trans t4).mono (by simp only [setC]; omega) (by omega), k4, fun j hj => ?_⟩
      unfold leafAt
      rw [q4, set_getD hsl]
      have := slot_eq (l := 0) hj hat
      have h2 : (slot 0 j).2 = (slot 0 at_).2 := by simp [slot, Nat.mod_one]
      by_cases e : j = at_
      · rw [if_pos e, if_pos (by rw [e])]
      · rw [if_neg e, if_neg (fun e2 => e (this.1 ⟨e2, h2⟩))]
    · obtain ⟨e, s', h1, h2⟩ := hf
      refine .inr ⟨e, s', by rw [eset, h1], h2.imp (fun ⟨a, b⟩ => ⟨a, ?_⟩) id⟩
      have := t123.rel.room; have := t123.keep; omega
  | succ l ih =>
    intro s G P root at_ to_ h hi hroot hto hl hat hr hP
    have hk8 := h.kids hroot
    have hsl : (slot (l + 1) at_).1 < (kidsAt G root).length := by rw [hk8.1]; exact slot_lt (l + 1) at_
    have hrm : Roomy (8 + (lessC (l + 2) + (setC l + 3))) s := hr.le (by simp only [setC]; omega)
    have e0 := h.loadK hroot
    obtain ⟨s1, e1, i1, t1⟩ := Inv.mores (l + 1) (kidsAt G root) h hi hk8.2 (by rw [hk8.1]; exact hrm.le (by omega)) (by simp; omega)
    rw [hk8.1] at t1
    have hr1 := hrm.go t1.rel
    have i1' : Inv s1 G (root :: (kidsAt G root ++ to_ :: P)) := i1.perm fun x hx => by simp only [List.count_append, List.count_cons]; omega
    obtain ⟨s2, G2, e2, i2, t2, b2⟩ := Inv.rless (l + 2) i1' t1.idx hroot (hr1.le (by omega)) (by simp; omega)
    have hr2 : Roomy (setC l + 3) s2 := hr1.go t2.rel
    have i2' : Inv s2 G2 ((kidsAt G root).getD (slot (l + 1) at_).1 0 :: to_ :: ((kidsAt G root).eraseIdx (slot (l + 1) at_).1 ++ P)) := i2.perm fun x hx => by
      rw [cons_cnt, cons_cnt, List.count_append, List.count_append, cons_cnt, cnt_get hsl x]; omega
    have live2 : ∀ k ∈ kidsAt G root, isKid G2 (l + 1) k := fun k hm => kid_sub b2 (hk8.2 _ hm) (by
      by_cases h0 : k = 0
      · exact .inl h0
      · exact .inr (i2.pend (List.mem_append_left _ hm) h0))
    have hto2 : isKid G2 0 to_ := kid_sub b2 hto (by
      by_cases h0 : to_ = 0
      · exact .inl h0
      · exact .inr (i2'.pend (List.mem_cons_of_mem _ (List.mem_cons_self ..)) h0))
    have hrest := (slot_split hat).2
    rcases ih (at_ := (slot (l + 1) at_).2) i2' t2.idx (live2 _ (getD_mem hsl)) hto2 (by omega) hrest (hr2.le (by omega)) (by simp; rw [List.length_eraseIdx]; split <;> omega) with ⟨r, s3, G3, e3, i3, t3, k3, c3⟩ | hf
    · have hr3 : Roomy 3 s3 := hr2.go t3.rel
      have i3' : Inv s3 G3 ((kidsAt G root).set (slot (l + 1) at_).1 r ++ P) := i3.perm fun x hx => by
        rw [cons_cnt, List.count_append, List.count_append, cnt_set hsl]; omega
      have live3 : ∀ k ∈ (kidsAt G root).eraseIdx (slot (l + 1) at_).1, k = 0 ∨ (mget k G3).isSome = true := fun k hm => by
        by_cases h0 : k = 0
        · exact .inl h0
        · exact .inr (i3.pend (List.mem_cons_of_mem _ (List.mem_append_left _ hm)) h0)
      have hks : ∀ k ∈ (kidsAt G root).set (slot (l + 1) at_).1 r, isKid G3 (l + 1) k := fun k hm => by
        rcases set_mem hsl hm with rfl | h1
        · exact k3
        · exact i2.kidSame t3.old (live2 _ (erase_mem h1)) (live3 _ h1)
      have eset : Go.Sb.rset (l + 1) root at_ to_ s = (if (kidsAt G root).set (slot (l + 1) at_).1 r = none8 then ret 0 else andThen (Go.Sb.rsums (l + 1) ((kidsAt G root).set (slot (l + 1) at_).1 r)) fun ss => hput (ndBytes (l + 1) { kids := (kidsAt G root).set (slot (l + 1) at_).1 r, sum := digest (l + 1) ss }) : M Int) s3 := by
        conv => lhs; unfold Go.Sb.rset
        rw [andThen_ok e0]
        simp only
        rw [andThen_ok e1, andThen_ok (show rdrop root (l + 1) s1 = _ from e2), andThen_ok e3]
      have t123 := (t1.trans t2).trans t3
      rcases Inv.renew (l + 1) i3' t3.idx hl (by simp [hk8.1]) hks hr3 with ⟨r', s4, G4, e4, i4, t4, k4, q4, sup4⟩ | hf
      · refine .inl ⟨r', s4, G4, by rw [eset, e4], i4, (t123.trans t4).mono (by simp only [setC]; omega) (by omega), k4, fun j hj => ?_⟩
        have hjs := slot_split hj
        have old24 : ∀ b o, mget b G4 = some o → mget b G2 = some o ∨ isFree s2 b := (t3.trans t4).old
        have old14 : ∀ b o, mget b G4 = some o → mget b G = some o ∨ isFree s b := (t123.trans t4).old
        conv => lhs; unfold leafAt
        rw [q4, set_getD hsl]
        have hse := slot_eq (l := l + 1) hj hat
        by_cases e1 : (slot (l + 1) j).1 = (slot (l + 1) at_).1
        · rw [if_pos e1]
          have m3 := i3.mapSame i4 t4.old l k3 (old_of_sup sup4 k3) (slot (l + 1) j).2
          rw [m3.1, c3 _ hjs.2]
          by_cases e : j = at_
          · rw [if_pos e, if_pos (by rw [e])]
          · rw [if_neg e, if_neg (fun e2 => e (hse.1 ⟨e1, e2⟩))]
            have m2 := h.mapSame i2 (fun b o hb => .inl (b2 b o hb)) l (hk8.2 _ (getD_mem hsl)) (kid_live (live2 _ (getD_mem hsl))) (slot (l + 1) j).2
            rw [m2.1]
            conv => rhs; unfold leafAt
            rw [e1]
        · rw [if_neg e1, if_neg (fun e => e1 (by rw [e]))]
          have hsj : (slot (l + 1) j).1 < (kidsAt G root).length := by rw [hk8.1]; exact slot_lt (l + 1) j
          have hm : (kidsAt G root).getD (slot (l + 1) j).1 0 ∈ (kidsAt G root).eraseIdx (slot (l + 1) at_).1 := by
            rw [List.mem_eraseIdx_iff_getElem?]
            exact ⟨(slot (l + 1) j).1, e1, by rw [List.getD_eq_getElem?_getD, List.getElem?_eq_getElem hsj]; rfl⟩
          have hk3 := i2.kidSame t3.old (live2 _ (erase_mem hm)) (live3 _ hm)
          have m := h.mapSame i4 old14 l (hk8.2 _ (getD_mem hsj)) (old_of_sup sup4 hk3) (slot (l + 1) j).2
          rw [m.1]
          conv => rhs; unfold leafAt
      · obtain ⟨e, s', h1, h2⟩ := hf
        refine .inr ⟨e, s', by rw [eset, h1], h2.imp (fun ⟨a, b⟩ => ⟨a, ?_⟩) id⟩
        have := t123.rel.room; have := t123.keep; omega
    · obtain ⟨e, s', h1, h2⟩ := hf
      have t12 := t1.trans t2
      refine .inr ⟨e, s', ?_, h2.imp (fun ⟨a, b⟩ => ⟨a, ?_⟩) id⟩
      · conv => lhs; unfold Go.Sb.rset
        rw [andThen_ok e0]
        simp only
        rw [andThen_ok e1, andThen_ok (show rdrop root (l + 1) s1 = _ from e2), andThen_err h1]
      · have := t12.rel.room; have := t12.keep; omega
end
end Go.Sb
end
