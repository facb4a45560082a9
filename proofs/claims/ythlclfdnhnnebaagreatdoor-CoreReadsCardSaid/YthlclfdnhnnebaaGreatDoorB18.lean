/- Part of the proof; no statement of its own: M5, M6, M7. -/
import Derived.Test.YthlclfdnhnnebaaGreatDoorB17
set_option linter.all false
section
namespace Go.Sb
theorem isB_iff {fr : Nat} {g : List Nat} {a : Int} {w : Nat} : isB fr g a w = true ↔ (fr : Int) ≤ a ∧ (a - fr).toNat < g.length ∧ g[(a - fr).toNat]? = some w := by
  simp only [isB, Bool.and_eq_true, decide_eq_true_eq]
  constructor
  · rintro ⟨h1, h2, h3⟩; exact ⟨h1, by omega, h3⟩
  · rintro ⟨h1, h2, h3⟩; exact ⟨h1, by omega, h3⟩
theorem isB_one {fr : Nat} {g : List Nat} {a : Int} {v w : Nat} (h : isB fr g a v = true) (k : isB fr g a w = true) : v = w := by
  have h1 := (isB_iff.1 h).2.2; have h2 := (isB_iff.1 k).2.2
  rw [h1] at h2; exact Option.some.inj h2
theorem mvL_on {fr : Nat} {g : List Nat} {a : Int} {v w : Nat} (h : isB fr g a v = true) : mvL fr g a v w = g.set (a - fr).toNat w := by simp [mvL, h]
theorem mvL_length {fr : Nat} {g : List Nat} {a : Int} {v w : Nat} : (mvL fr g a v w).length = g.length := by unfold mvL; split <;> simp
theorem isB_mvL {fr : Nat} {g : List Nat} {a b : Int} {v w x : Nat} (h : isB fr g a v = true) : isB fr (mvL fr g a v w) b x = if b = a then decide (w = x) else isB fr g b x := by
  obtain ⟨h1, h2, h3⟩ := isB_iff.1 h
  rw [mvL_on h]
  by_cases e : b = a
  · subst e
    simp only [if_pos, isB, List.length_set]
    rw [List.getElem?_set_self h2]
    have : ((b - fr : Int) < g.length) := by omega
    simp [h1, this]
  · simp only [if_neg e, isB, List.length_set]
    by_cases hb : (fr : Int) ≤ b
    · rw [List.getElem?_set_ne (by omega)]
    · have : ¬ (b ≥ (fr : Int)) := hb
      simp [this]
theorem mvL_back {fr : Nat} {g : List Nat} {a : Int} {v w : Nat} (h : isB fr g a v = true) : mvL fr (mvL fr g a v w) a w v = g := by
  have h' : isB fr (mvL fr g a v w) a w = true := by rw [isB_mvL h]; simp
  obtain ⟨h1, h2, h3⟩ := isB_iff.1 h
  rw [mvL_on h', mvL_on h, List.set_set]
  apply List.ext_getElem?
  intro i
  by_cases e : (a - fr).toNat = i
  · subst e; rw [List.getElem?_set_self h2, h3]
  · rw [List.getElem?_set_ne e]
theorem count_mvL {fr : Nat} {g : List Nat} {a : Int} {v w x : Nat} (h : isB fr g a v = true) : (mvL fr g a v w).count x + (if v = x then 1 else 0) = g.count x + (if w = x then 1 else 0) := by
  obtain ⟨h1, h2, h3⟩ := isB_iff.1 h
  rw [mvL_on h]
  generalize (a - fr).toNat = i at h2 h3
  clear h h1
  induction g generalizing i with
  | nil => simp at h2
  | cons y g ih =>
    cases i with
    | zero =>
      simp only [List.getElem?_cons_zero, Option.some.injEq] at h3
      subst h3
      simp only [List.set_cons_zero, List.count_cons, beq_iff_eq]
      omega
    | succ i =>
      have := ih i (by simpa using h2) (by simpa using h3)
      simp only [List.set_cons_succ, List.count_cons]
      omega
theorem take_is {fr : Nat} {g : List Nat} (h : 0 < g.count 0) : isB fr g (takeAt fr g) 0 = true ∧ takeL g = mvL fr g (takeAt fr g) 0 1 := by
  have hm : (0 : Nat) ∈ g := List.count_pos_iff.1 h
  cases hf : g.findIdx? (· == 0) with
  | none =>
    rw [List.findIdx?_eq_none_iff] at hf
    exact absurd (hf 0 hm) (by simp)
  | some i =>
    have hi := List.findIdx?_eq_some_iff_getElem.1 hf
    obtain ⟨h1, h2, _⟩ := hi
    have hB : isB fr g (takeAt fr g) 0 = true := by
      simp only [takeAt, hf]
      refine isB_iff.2 ⟨by omega, by omega, ?_⟩
      rw [show (((fr + i : Nat) : Int) - fr).toNat = i by omega, List.getElem?_eq_getElem h1]
      simpa using h2
    refine ⟨hB, ?_⟩
    rw [mvL_on hB]
    simp only [takeL, takeAt, hf]
    rw [show (((fr + i : Nat) : Int) - fr).toNat = i by omega]
theorem bk_pos {d : Nat} {log : List Step} {st : Step} (h : 0 < d) : bk d log st = log ++ [st] := by simp [bk, h]
theorem rel_step {k : Nat} {s t : St} (st : Step) (hd : 0 < s.depth) (ht : UOK t) (hlog : t.log = bk s.depth s.log st) (hfr : t.fr = s.fr) (hdp : t.depth = s.depth) (hb : t.bits = s.bits) (he : t.epoch = s.epoch)
    (hq : Eqv (undo1 st t) s) (hg : ∀ a, isFree t a → isFree s a) (hdisk : t.d = s.d) (hroom : freeN s ≤ freeN t + k) (hgl : t.g.length = s.g.length) (hgn : t.gone.length ≤ s.gone.length + 1) : Rel 1 k s t :=
  ⟨ht, hfr, hdp, hb, he, ⟨[st], by rw [hlog, bk_pos hd], by simp, hq⟩, hg, fun a => .inr (by rw [hdisk]), hroom, hgl, hgn⟩
theorem back_ok {s : St} (st : Step) (h : s.log.length < 1000000000) : back st s = (.ok (), { s with log := bk s.depth s.log st }) := by
  simp [back, show ¬ 1000000000 ≤ s.log.length by omega]
theorem back_no {s : St} (st : Step) (h : ¬ s.log.length < 1000000000) : back st s = (.big, s) := by
  simp [back, show 1000000000 ≤ s.log.length by omega]
theorem rel_prim {α : Type} {k : Nat} {s : St} (st : Step) (g : St → Out α × St) (hs : UOK s) (h : Rel 1 k s (g { s with log := bk s.depth s.log st }).2) : Rel 1 k s (andThen (fun s => back st s) (fun _ s => g s) s).2 := by
  by_cases hl : s.log.length < 1000000000
  · rw [andThen_ok (m := fun s => back st s) (back_ok st hl)]; exact h
  · have : andThen (fun s => back st s) (fun _ s => g s) s = (.big, s) := by simp [andThen, back_no st hl]
    rw [this]; exact (Rel.refl hs).mono (by omega) (by omega)
theorem rel_putRefs {s : St} (hd : 0 < s.depth) (hs : UOK s) (k v : Int) (hk : isB s.fr s.g k 1 = true) : Rel 1 0 s (putRefs k v s).2 := by
  refine rel_prim (.refs k (mget k s.refs)) (fun s => (.ok (), { s with refs := mput k v s.refs })) hs ?_
  refine rel_step (.refs k (mget k s.refs)) hd ⟨⟨mok_mput k v hs.m.refs, hs.m.young, hs.m.index, hs.m.vols⟩, hs.keep, fun a ha => ?_, hs.run, hs.size, hs.late⟩ rfl rfl rfl rfl rfl
    ⟨rfl, rfl, rfl, rfl, rfl, rfl, rfl, rfl, restore_put k v hs.m.refs, fun _ => rfl, fun _ => rfl, fun _ => rfl⟩ (fun _ h => h) rfl (Nat.le_refl _) rfl (Nat.le_succ _)
  rw [mget_mput] at ha
  by_cases e : k = a
  · subst e; exact hk
  · rw [if_neg e] at ha; exact hs.held a ha
theorem rel_dropRefs {s : St} (hd : 0 < s.depth) (hs : UOK s) (k : Int) : Rel 1 0 s (dropRefs k s).2 := by
  refine rel_prim (.refs k (mget k s.refs)) (fun s => (.ok (), { s with refs := mdel k s.refs })) hs ?_
  refine rel_step (.refs k (mget k s.refs)) hd ⟨⟨mok_mdel k hs.m.refs, hs.m.young, hs.m.index, hs.m.vols⟩, hs.keep, fun a ha => ?_, hs.run, hs.size, hs.late⟩ rfl rfl rfl rfl rfl
    ⟨rfl, rfl, rfl, rfl, rfl, rfl, rfl, rfl, restore_del k hs.m.refs, fun _ => rfl, fun _ => rfl, fun _ => rfl⟩ (fun _ h => h) rfl (Nat.le_refl _) rfl (Nat.le_succ _)
  rw [mget_mdel k a hs.m.refs] at ha
  by_cases e : k = a
  · simp [e] at ha
  · rw [if_neg e] at ha; exact hs.held a ha
theorem um_putYoung (k v : Int) : UM 1 0 (putYoung k v) := fun s hd hs _ => by
  refine rel_prim (.young k (mget k s.young)) (fun s => (.ok (), { s with young := mput k v s.young })) hs ?_
  exact rel_step (.young k (mget k s.young)) hd ⟨⟨hs.m.refs, mok_mput k v hs.m.young, hs.m.index, hs.m.vols⟩, hs.keep, hs.held, hs.run, hs.size, hs.late⟩ rfl rfl rfl rfl rfl
    ⟨rfl, rfl, rfl, rfl, rfl, rfl, rfl, rfl, fun _ => rfl, restore_put k v hs.m.young, fun _ => rfl, fun _ => rfl⟩ (fun _ h => h) rfl (Nat.le_refl _) rfl (Nat.le_succ _)
theorem um_dropYoung (k : Int) : UM 1 0 (dropYoung k) := fun s hd hs _ => by
  refine rel_prim (.young k (mget k s.young)) (fun s => (.ok (), { s with young := mdel k s.young })) hs ?_
  exact rel_step (.young k (mget k s.young)) hd ⟨⟨hs.m.refs, mok_mdel k hs.m.young, hs.m.index, hs.m.vols⟩, hs.keep, hs.held, hs.run, hs.size, hs.late⟩ rfl rfl rfl rfl rfl
    ⟨rfl, rfl, rfl, rfl, rfl, rfl, rfl, rfl, fun _ => rfl, restore_del k hs.m.young, fun _ => rfl, fun _ => rfl⟩ (fun _ h => h) rfl (Nat.le_refl _) rfl (Nat.le_succ _)
theorem um_putIndex (k : B) (v : Int) : UM 1 0 (putIndex k v) := fun s hd hs _ => by
  refine rel_prim (.index k (mget k s.index)) (fun s => (.ok (), { s with index := mput k v s.index })) hs ?_
  exact rel_step (.index k (mget k s.index)) hd ⟨⟨hs.m.refs, hs.m.young, mok_mput k v hs.m.index, hs.m.vols⟩, hs.keep, hs.held, hs.run, hs.size, hs.late⟩ rfl rfl rfl rfl rfl
    ⟨rfl, rfl, rfl, rfl, rfl, rfl, rfl, rfl, fun _ => rfl, fun _ => rfl, restore_put k v hs.m.index, fun _ => rfl⟩ (fun _ h => h) rfl (Nat.le_refl _) rfl (Nat.le_succ _)
theorem um_dropIndex (k : B) : UM 1 0 (dropIndex k) := fun s hd hs _ => by
  refine rel_prim (.index k (mget k s.index)) (fun s => (.ok (), { s with index := mdel k s.index })) hs ?_
  exact rel_step (.index k (mget k s.index)) hd ⟨⟨hs.m.refs, hs.m.young, mok_mdel k hs.m.index, hs.m.vols⟩, hs.keep, hs.held, hs.run, hs.size, hs.late⟩ rfl rfl rfl rfl rfl
    ⟨rfl, rfl, rfl, rfl, rfl, rfl, rfl, rfl, fun _ => rfl, fun _ => rfl, restore_del k hs.m.index, fun _ => rfl⟩ (fun _ h => h) rfl (Nat.le_refl _) rfl (Nat.le_succ _)
theorem um_putVols (k : Int) (v : Ent) : UM 1 0 (putVols k v) := fun s hd hs _ => by
  refine rel_prim (.vols k (mget k s.vols)) (fun s => (.ok (), { s with vols := mput k v s.vols })) hs ?_
  exact rel_step (.vols k (mget k s.vols)) hd ⟨⟨hs.m.refs, hs.m.young, hs.m.index, mok_mput k v hs.m.vols⟩, hs.keep, hs.held, hs.run, hs.size, hs.late⟩ rfl rfl rfl rfl rfl
    ⟨rfl, rfl, rfl, rfl, rfl, rfl, rfl, rfl, fun _ => rfl, fun _ => rfl, fun _ => rfl, restore_put k v hs.m.vols⟩ (fun _ h => h) rfl (Nat.le_refl _) rfl (Nat.le_succ _)
theorem um_setKeep {n : Int} (hn : 0 ≤ n) : UM 1 0 (setKeep n) := fun s hd hs _ => by
  refine rel_prim (.keep s.keep) (fun s => (.ok (), { s with keep := n })) hs ?_
  exact rel_step (.keep s.keep) hd ⟨⟨hs.m.refs, hs.m.young, hs.m.index, hs.m.vols⟩, hn, hs.held, hs.run, hs.size, hs.late⟩ rfl rfl rfl rfl rfl
    ⟨rfl, rfl, rfl, rfl, rfl, rfl, rfl, rfl, fun _ => rfl, fun _ => rfl, fun _ => rfl, fun _ => rfl⟩ (fun _ h => h) rfl (Nat.le_refl _) rfl (Nat.le_succ _)
theorem um_setNext (n : Int) : UM 1 0 (setNext n) := fun s hd hs _ => by
  refine rel_prim (.next s.next) (fun s => (.ok (), { s with next := n })) hs ?_
  exact rel_step (.next s.next) hd ⟨⟨hs.m.refs, hs.m.young, hs.m.index, hs.m.vols⟩, hs.keep, hs.held, hs.run, hs.size, hs.late⟩ rfl rfl rfl rfl rfl
    ⟨rfl, rfl, rfl, rfl, rfl, rfl, rfl, rfl, fun _ => rfl, fun _ => rfl, fun _ => rfl, fun _ => rfl⟩ (fun _ h => h) rfl (Nat.le_refl _) rfl (Nat.le_succ _)
theorem rel_setGone {s : St} (hd : 0 < s.depth) (hs : UOK s) (l : List Int) (hl : l.length ≤ s.gone.length + 1) (hg : l.Nodup ∧ ∀ a ∈ l, isB s.fr s.g a 2 = true) : Rel 1 0 s (setGone l s).2 := by
  unfold setGone
  split
  · exact (Rel.refl hs).mono (by omega) (by omega)
  · refine rel_prim (.gone s.gone) (fun s => (.ok (), { s with gone := l })) hs ?_
    exact rel_step (.gone s.gone) hd ⟨⟨hs.m.refs, hs.m.young, hs.m.index, hs.m.vols⟩, hs.keep, hs.held, hs.run, hs.size, hg⟩ rfl rfl rfl rfl rfl
      ⟨rfl, rfl, rfl, rfl, rfl, rfl, rfl, rfl, fun _ => rfl, fun _ => rfl, fun _ => rfl, fun _ => rfl⟩ (fun _ h => h) rfl (Nat.le_refl _) rfl hl
theorem rel_back {s : St} (hd : 0 < s.depth) (hs : UOK s) (a : Int) (ha : isB s.fr s.g a 1 = true) (hr : mget a s.refs = none) (hb : (back (.back a) { s with g := mvL s.fr s.g a 1 2 }).1 ≠ .big) : Rel 1 0 s (back (.back a) { s with g := mvL s.fr s.g a 1 2 }).2 := by
  by_cases hl : s.log.length < 1000000000
  · rw [back_ok (s := { s with g := mvL s.fr s.g a 1 2 }) (.back a) hl]
    refine rel_step (.back a) hd ⟨⟨hs.m.refs, hs.m.young, hs.m.index, hs.m.vols⟩, hs.keep, fun b hb => ?_, hs.run, by show _ = _ + (mvL _ _ _ _ _).length; rw [mvL_length]; exact hs.size, hs.late.1, fun b hb => ?_⟩ rfl rfl rfl rfl rfl
      ⟨rfl, mvL_back ha, rfl, rfl, rfl, rfl, rfl, rfl, fun _ => rfl, fun _ => rfl, fun _ => rfl, fun _ => rfl⟩ (fun b hb => ?_) rfl ?_ mvL_length (Nat.le_succ _)
    · show isB s.fr (mvL s.fr s.g a 1 2) b 1 = true
      rw [isB_mvL ha]
      have hb' : mget b s.refs ≠ none := hb
      by_cases e : b = a
      · subst e; exact (hb' hr).elim
      · rw [if_neg e]; exact hs.held b hb'
    · show isB s.fr (mvL s.fr s.g a 1 2) b 2 = true
      rw [isB_mvL ha]
      by_cases e : b = a
      · simp [e]
      · rw [if_neg e]; exact hs.late.2 b hb
    · have hb' : isB s.fr (mvL s.fr s.g a 1 2) b 0 = true := hb
      rw [isB_mvL ha] at hb'
      by_cases e : b = a
      · simp [e] at hb'
      · rw [if_neg e] at hb'; exact hb'
    · have := count_mvL (w := 2) (x := 0) ha
      simp at this
      show s.g.count 0 ≤ (mvL s.fr s.g a 1 2).count 0 + 0
      omega
  · exact (hb (by rw [back_no (s := { s with g := mvL s.fr s.g a 1 2 }) (.back a) hl])).elim
theorem rel_give {s : St} (hd : 0 < s.depth) (hs : UOK s) (hf : 0 < freeN s) (hb : (back (.give (takeAt s.fr s.g)) { s with g := takeL s.g }).1 ≠ .big) :
    Rel 1 1 s (back (.give (takeAt s.fr s.g)) { s with g := takeL s.g }).2 ∧ isB s.fr (takeL s.g) (takeAt s.fr s.g) 1 = true ∧ isFree s (takeAt s.fr s.g) := by
  obtain ⟨ha, e⟩ := take_is (fr := s.fr) hf
  rw [e] at hb ⊢
  generalize takeAt s.fr s.g = a at *
  by_cases hl : s.log.length < 1000000000
  · rw [back_ok (s := { s with g := mvL s.fr s.g a 0 1 }) (.give a) hl]
    refine ⟨rel_step (.give a) hd ⟨⟨hs.m.refs, hs.m.young, hs.m.index, hs.m.vols⟩, hs.keep, fun b hb => ?_, hs.run, by show _ = _ + (mvL _ _ _ _ _).length; rw [mvL_length]; exact hs.size, hs.late.1, fun b hb => ?_⟩ rfl rfl rfl rfl rfl
      ⟨rfl, mvL_back ha, rfl, rfl, rfl, rfl, rfl, rfl, fun _ => rfl, fun _ => rfl, fun _ => rfl, fun _ => rfl⟩ (fun b hb => ?_) rfl ?_ mvL_length (Nat.le_succ _), by rw [isB_mvL ha]; simp, ha⟩
    · show isB s.fr (mvL s.fr s.g a 0 1) b 1 = true
      rw [isB_mvL ha]
      have hb' : mget b s.refs ≠ none := hb
      by_cases e : b = a
      · simp [e]
      · rw [if_neg e]; exact hs.held b hb'
    · show isB s.fr (mvL s.fr s.g a 0 1) b 2 = true
      have hb2 : isB s.fr s.g b 2 = true := hs.late.2 b hb
      rw [isB_mvL ha]
      by_cases e : b = a
      · subst e; exact absurd (isB_one hb2 ha) (by decide)
      · rw [if_neg e]; exact hb2
    · have hb' : isB s.fr (mvL s.fr s.g a 0 1) b 0 = true := hb
      rw [isB_mvL ha] at hb'
      by_cases e : b = a
      · simp [e] at hb'
      · rw [if_neg e] at hb'; exact hb'
    · have := count_mvL (w := 1) (x := 0) ha
      simp at this
      show s.g.count 0 ≤ (mvL s.fr s.g a 0 1).count 0 + 1
      omega
  · exact (hb (by rw [back_no (s := { s with g := mvL s.fr s.g a 0 1 }) (.give a) hl])).elim
theorem Rel.write {c k : Nat} {s t : St} (h : Rel c k s t) {a : Int} (ha : isFree s a) {d : Dk} (h1 : d.armed = t.d.armed ∧ d.dead = t.d.dead) (h2 : d.l.length = t.d.l.length) (h3 : ∀ b : Nat, (b : Int) ≠ a → cellAt d b = cellAt t.d b) : Rel c k s { t with d := d } := by
  refine ⟨⟨⟨h.ok.m.refs, h.ok.m.young, h.ok.m.index, h.ok.m.vols⟩, h.ok.keep, h.ok.held, ⟨h1.1.trans h.ok.run.1, h1.2.trans h.ok.run.2⟩, h2.trans h.ok.size, h.ok.late⟩, h.fr, h.depth, h.bits, h.epoch, ?_, h.free, fun b => ?_, h.room, h.glen, h.gone⟩
  · obtain ⟨l, e, n, q⟩ := h.log
    refine ⟨l, e, n, ?_⟩
    have : ∀ l, Eqv (undoL { t with d := d } l) (undoL t l) := undoL_eqv ⟨h.ok.m.refs, h.ok.m.young, h.ok.m.index, h.ok.m.vols⟩ h.ok.m ⟨rfl, rfl, rfl, rfl, rfl, rfl, rfl, rfl, fun _ => rfl, fun _ => rfl, fun _ => rfl, fun _ => rfl⟩
    exact (this l).trans q
  · by_cases e : (b : Int) = a
    · exact .inl (e ▸ ha)
    · rcases h.disk b with h4 | h4
      · exact .inl h4
      · exact .inr ((h3 b e).trans h4)
theorem dwrite_at {d : Dk} (h : d.armed = false ∧ d.dead = false) {a : Int} {b : B} (h1 : 0 ≤ a ∧ a < d.l.length) (h2 : b.length ≤ 64) :
    dwrite d a b = (.ok (), { d with l := d.l.set a.toNat ((d.l.getD a.toNat ([], [])).1, b ++ zeros (64 - b.length)) }) := by
  unfold dwrite dspend
  rw [h.2, h.1]
  simp only [Bool.false_eq_true, if_false, if_true]
  rw [if_neg (by omega), if_neg (by omega), h.1, h.2]
theorem dwrite_keeps {d : Dk} (h : d.armed = false ∧ d.dead = false) {a : Int} {b : B} (h1 : 0 ≤ a) : (dwrite d a b).2.armed = d.armed ∧ (dwrite d a b).2.dead = d.dead ∧ (dwrite d a b).2.l.length = d.l.length ∧
    ∀ n : Nat, (n : Int) ≠ a → cellAt (dwrite d a b).2 n = cellAt d n := by
  unfold dwrite dspend
  rw [h.2, h.1]
  simp only [Bool.false_eq_true, if_false, if_true]
  split
  · exact ⟨h.1, h.2, rfl, fun _ _ => rfl⟩
  · split
    · exact ⟨h.1, h.2, rfl, fun _ _ => rfl⟩
    · refine ⟨h.1, h.2, by simp, fun n hn => ?_⟩
      unfold cellAt
      simp only [List.getD_eq_getElem?_getD]
      rw [List.getElem?_set_ne (by omega)]
theorem um_hput (b : B) : UM 3 1 (hput b) := fun s hd hs hb => by
  by_cases hf : (freeN s : Int) ≤ s.keep
  · have e : hput b s = (.err 8, s) := by simp [hput, hf]
    rw [e]; exact (Rel.refl hs).mono (by omega) (by omega)
  · have hk := hs.keep
    have e : hput b s = andThen (fun s' => back (.give (takeAt s.fr s.g)) { s' with g := takeL s'.g }) (fun _ => andThen (putRefs (takeAt s.fr s.g) 1) fun _ => andThen (putYoung (takeAt s.fr s.g) 1) fun _ => andThen (onDisk fun d => dwrite d (takeAt s.fr s.g) b) fun _ => ret (takeAt s.fr s.g)) s := by
      simp only [hput, if_neg hf]
    rw [e] at hb ⊢
    have b1 := big1 hb
    obtain ⟨r1, ha1, ha0⟩ := rel_give hd hs (by omega) b1
    by_cases hl : s.log.length < 1000000000
    · have e1 := back_ok (s := { s with g := takeL s.g }) (.give (takeAt s.fr s.g)) hl
      have hb2 := big2 hb e1
      rw [andThen_ok (m := fun s' => back (.give (takeAt s.fr s.g)) { s' with g := takeL s'.g }) e1]
      rw [e1] at r1
      have r2 := rel_putRefs (by rw [r1.depth]; exact hd) r1.ok (takeAt s.fr s.g) 1 ha1
      generalize takeAt s.fr s.g = a at *
      have a0 : 0 ≤ a := by have := (isB_iff.1 ha0).1; omega
      cases e2 : putRefs a 1 { s with g := takeL s.g, log := bk s.depth s.log (.give a) } with
      | mk o2 t2 =>
      rw [e2] at r2
      have r12 := r1.trans r2
      have hb2' := big1 hb2
      cases o2 with
      | big => exact (hb2' (by rw [e2])).elim
      | err e' => rw [andThen_err e2]; exact r12.mono (by omega) (by omega)
      | ok u =>
      have hb3 := big2 hb2 e2
      rw [andThen_ok e2]
      have r3 := um_putYoung a 1 t2 (by rw [r12.depth]; exact hd) r12.ok (big1 hb3)
      cases e3 : putYoung a 1 t2 with
      | mk o3 t3 =>
      rw [e3] at r3
      have r123 := r12.trans r3
      have hb3' := big1 hb3
      cases o3 with
      | big => exact (hb3' (by rw [e3])).elim
      | err e' => rw [andThen_err e3]; exact r123.mono (by omega) (by omega)
      | ok u =>
      rw [andThen_ok e3]
      obtain ⟨k1, k2, k3, k4⟩ := dwrite_keeps (b := b) r123.ok.run a0
      have r4 := r123.write ha0 ⟨k1, k2⟩ k3 k4
      have e4 : (andThen (onDisk fun d => dwrite d a b) (fun _ => ret a) t3).2 = { t3 with d := (dwrite t3.d a b).2 } := by
        unfold andThen onDisk
        cases hw : dwrite t3.d a b with
        | mk o d => cases o <;> simp only [hw] <;> rfl
      rw [e4]; exact r4
    · exact (b1 (congrArg Prod.fst (back_no (s := { s with g := takeL s.g }) (.give (takeAt s.fr s.g)) hl))).elim
theorem refs_of {s : St} {a : Int} (h : refsOf s a ≠ 0) : mget a s.refs ≠ none := fun e => h (by simp [refsOf, e])
theorem um_hmore (a : Int) : UM 1 0 (hmore a) := fun s hd hs _ => by
  unfold hmore
  by_cases h : refsOf s a = 0
  · rw [if_pos h]; exact (Rel.refl hs).mono (by omega) (by omega)
  · rw [if_neg h]; exact rel_putRefs hd hs _ _ (hs.held a (refs_of h))
theorem um_hkeep (n : Int) : UM 1 0 (hkeep n) := um_setKeep (by omega)
theorem rel_gone {s : St} (a : Int) (hd : 0 < s.depth) (hs : UOK s) (hnot : a ∉ s.gone) (hg : isB s.fr s.g a 2 = true)
    (hb : ((andThen (fun s => if 0 < youngOf s a then andThen (dropYoung a) (fun _ s => setGone (s.gone ++ [a]) s) s else ret () s) fun _ => ret true : M Bool) s).1 ≠ .big) :
    Rel 2 0 s ((andThen (fun s => if 0 < youngOf s a then andThen (dropYoung a) (fun _ s => setGone (s.gone ++ [a]) s) s else ret () s) fun _ => ret true : M Bool) s).2 := by
  have hr : ∀ (m : M Unit) (t : St), ((andThen m fun _ => ret true : M Bool) t).2 = (m t).2 := fun m t => by
    unfold andThen
    cases m t with
    | mk o u => cases o <;> rfl
  rw [hr]
  have hb' := big1 hb
  clear hb hr
  by_cases hy : 0 < youngOf s a
  · simp only [if_pos hy] at hb' ⊢
    have r1 := um_dropYoung a s hd hs (big1 hb')
    by_cases hl : s.log.length < 1000000000
    · have e4 : dropYoung a s = (.ok (), { s with log := bk s.depth s.log (.young a (mget a s.young)), young := mdel a s.young }) := by
        simp [dropYoung, andThen, back, show ¬ 1000000000 ≤ s.log.length by omega]
      rw [e4] at r1
      rw [andThen_ok e4]
      have r2 := rel_setGone (s := { s with log := bk s.depth s.log (.young a (mget a s.young)), young := mdel a s.young }) hd r1.ok (s.gone ++ [a]) (by simp)
        ⟨by rw [List.nodup_append]; exact ⟨hs.late.1, by simp, fun x hx y hy e => hnot (by simp at hy; rw [← hy, ← e]; exact hx)⟩, fun b hb => by
          rcases List.mem_append.1 hb with h | h
          · exact hs.late.2 b h
          · have e : b = a := by simpa using h
            subst e; exact hg⟩
      exact r1.trans r2
    · exact (big1 hb' (by simp [dropYoung, andThen, back, show 1000000000 ≤ s.log.length by omega])).elim
  · simp only [if_neg hy]; exact (Rel.refl hs).mono (by omega) (by omega)
theorem um_hless (a : Int) : UM 4 0 (hless a) := fun s hd hs hb => by
  cases hi : inR a with
  | false => exact (hb (by simp [hless, hi])).elim
  | true =>
  by_cases h0 : refsOf s a = 0
  · rw [show hless a s = (.err 6, s) by simp [hless, hi, h0]]; exact (Rel.refl hs).mono (by omega) (by omega)
  by_cases h1 : refsOf s a = 1
  · have e : hless a s = andThen (dropRefs a) (fun _ => andThen (fun s => back (.back a) { s with g := mvL s.fr s.g a 1 2 }) fun _ =>
        andThen (fun s => if 0 < youngOf s a then andThen (dropYoung a) (fun _ s => setGone (s.gone ++ [a]) s) s else ret () s) fun _ => ret true) s := by
      simp [hless, hi, h1]
    rw [e] at hb ⊢
    have ha := hs.held a (refs_of h0)
    by_cases hl : s.log.length < 1000000000
    · have r1 := rel_dropRefs hd hs a
      have e1 : dropRefs a s = (.ok (), { s with log := bk s.depth s.log (.refs a (mget a s.refs)), refs := mdel a s.refs }) := by
        simp [dropRefs, andThen, back, show ¬ 1000000000 ≤ s.log.length by omega]
      rw [e1] at r1
      have hb1 := big2 hb e1
      rw [andThen_ok e1]
      have hn : mget a (mdel a s.refs) = none := by rw [mget_mdel a a hs.m.refs]; simp
      have r2 := rel_back (s := { s with log := bk s.depth s.log (.refs a (mget a s.refs)), refs := mdel a s.refs }) hd r1.ok a ha hn (big1 hb1)
      by_cases hl2 : (bk s.depth s.log (.refs a (mget a s.refs))).length < 1000000000
      · have e2 := back_ok (s := { s with log := bk s.depth s.log (.refs a (mget a s.refs)), refs := mdel a s.refs, g := mvL s.fr s.g a 1 2 }) (.back a) hl2
        have r2' : Rel 1 0 { s with log := bk s.depth s.log (.refs a (mget a s.refs)), refs := mdel a s.refs } { s with log := bk s.depth (bk s.depth s.log (.refs a (mget a s.refs))) (.back a), refs := mdel a s.refs, g := mvL s.fr s.g a 1 2 } := by
          rw [e2] at r2; exact r2
        have r12 := r1.trans r2'
        have hb2 := big2 (m := fun s => back (.back a) { s with g := mvL s.fr s.g a 1 2 }) hb1 e2
        rw [andThen_ok (m := fun s => back (.back a) { s with g := mvL s.fr s.g a 1 2 }) e2]
        have hnot : a ∉ s.gone := fun hm => absurd (isB_one ha (hs.late.2 a hm)) (by decide)
        have hgl : isB s.fr (mvL s.fr s.g a 1 2) a 2 = true := by rw [isB_mvL ha]; simp
        refine (r12.trans (rel_gone a hd r12.ok hnot hgl hb2)).mono (by omega) (by omega)
      · exact (big1 hb1 (congrArg Prod.fst (back_no (s := { s with log := bk s.depth s.log (.refs a (mget a s.refs)), refs := mdel a s.refs, g := mvL s.fr s.g a 1 2 }) (.back a) hl2))).elim
    · exact (big1 hb (by simp [dropRefs, andThen, back, show 1000000000 ≤ s.log.length by omega])).elim
  · have e : hless a s = andThen (putRefs a (wrap64 (refsOf s a - 1))) (fun _ => ret false) s := by simp [hless, hi, h0, h1]
    rw [e] at hb ⊢
    have r1 := rel_putRefs hd hs a (wrap64 (refsOf s a - 1)) (hs.held a (refs_of h0))
    cases e1 : putRefs a (wrap64 (refsOf s a - 1)) s with
    | mk o t =>
    rw [e1] at r1
    cases o with
    | big => exact (big1 hb (by rw [e1])).elim
    | err e' => rw [andThen_err e1]; exact r1.mono (by omega) (by omega)
    | ok u => rw [andThen_ok e1]; exact r1.mono (by omega) (by omega)
end Go.Sb
end
section
namespace Go.Sb
section
variable {α : Type} {c k : Nat}
end
theorem nums_len (k : Nat) : ∀ n l, (nums k n l).length = n
  | 0, _ => rfl
  | n + 1, l => by simp [nums, nums_len k n]
theorem ndParse_len {l : Nat} {b : B} {x : Nd} (h : ndParse l b = .ok x) : x.kids.length = 8 := by
  unfold ndParse at h
  split at h
  · cases h
  · cases h
  · split at h
    · cases h
    · split at h
      · cases h
      · split at h
        · cases h
        · cases h; simp [nums_len]
theorem load_len {a : Int} {l : Nat} {s t : St} {n : Nd} (h : load a l s = (.ok n, t)) : n.kids.length = 8 := by
  unfold load at h
  split at h
  · cases h; rfl
  · unfold andThen at h
    split at h
    · simp only [lift, Prod.mk.injEq] at h; exact ndParse_len h.1
    · cases h
    · cases h
def lessC : Nat → Nat
  | 0 => 21
  | l + 1 => 4 + 8 * lessC l
def setC : Nat → Nat
  | 0 => 8 + lessC 1 + 21 + 3
  | l + 1 => 8 + lessC (l + 2) + setC l + 3
theorem um_cput (x : Ent) : UM 1 0 (cput x) := um_putVols _ _
theorem um_cadd (x : Ent) : UM 2 0 (cadd x) := um_at (m := fun s => andThen (setNext (wrap32 (s.next + 1))) (fun _ => andThen (cput { x with id := s.next, born := s.epoch }) fun _ => ret s.next)) fun s => um_then (um_setNext _) fun _ => um_then (um_cput _) fun _ => um_ret _
end Go.Sb
end
section
namespace Go.Sb
theorem beB_length (x k : Nat) : ∀ m, (beB x k m).length = m
  | 0 => rfl
  | m + 1 => by simp [beB, beB_length x k m]
theorem be_app (a : B) : ∀ (b : B), be (a ++ b) = be a * 256 ^ b.length + be b := by
  intro b
  have h : ∀ (b : B) (n : Nat), b.foldl (fun n c => n * 256 + c.toNat) n = n * 256 ^ b.length + b.foldl (fun n c => n * 256 + c.toNat) 0 := by
    intro b
    induction b with
    | nil => intro n; simp
    | cons c b ih =>
      intro n
      simp only [List.foldl_cons, List.length_cons]
      rw [ih (n * 256 + c.toNat), ih (0 * 256 + c.toNat), Nat.pow_succ]
      simp only [Nat.zero_mul, Nat.zero_add, Nat.add_mul, Nat.mul_assoc, Nat.mul_comm 256, Nat.add_assoc]
  unfold be
  rw [List.foldl_append, h b]
theorem be_beBm (x k : Nat) : ∀ m, m ≤ k → be (beB x k m) = x / 256 ^ (k - m) % 256 ^ m
  | 0, _ => by simp [beB, be, Nat.mod_one]
  | m + 1, h => by
    have ih := be_beBm x k m (by omega)
    have e1 : be [UInt8.ofNat (x / 256 ^ (k - 1 - m))] = x / 256 ^ (k - 1 - m) % 256 := by simp [be]
    have hk : k - m = (k - 1 - m) + 1 := by omega
    have hk2 : k - (m + 1) = k - 1 - m := by omega
    rw [beB, be_app, ih, e1, hk2, hk]
    generalize k - 1 - m = j
    rw [Nat.pow_succ, ← Nat.div_div_eq_div_mul]
    generalize x / 256 ^ j = y
    have e2 : 256 ^ (m + 1) = 256 * 256 ^ m := by rw [Nat.pow_succ, Nat.mul_comm]
    rw [e2, Nat.mod_mul]
    simp only [List.length_singleton, Nat.pow_one]
    rw [Nat.mul_comm]; omega
theorem be_beB {x k : Nat} (h : x < 256 ^ k) : be (beB x k k) = x := by
  rw [be_beBm x k k (Nat.le_refl _), Nat.sub_self, Nat.pow_zero, Nat.div_one, Nat.mod_eq_of_lt h]
theorem num_be {a : Int} {k : Nat} (h0 : 0 ≤ a) (h : a < 256 ^ k) (hk : k ≤ 7) : (be (num a k) : Int) = a := by
  have h2 : (256 : Nat) ^ k ≤ 256 ^ 7 := Nat.pow_le_pow_right (by decide) hk
  have h3 : a.toNat < 256 ^ k := by
    have : ((256 ^ k : Nat) : Int) = (256 : Int) ^ k := by simp
    omega
  have e : u64 a = a.toNat := by unfold u64; omega
  unfold num
  rw [e, be_beB h3]; omega
theorem num_length (a : Int) (k : Nat) : (num a k).length = k := beB_length _ _ _
theorem nums_map {α : Type} {f : α → B} {k : Nat} (h : ∀ x, (f x).length = k) (t : B) : ∀ (l : List α), nums k l.length (l.flatMap f ++ t) = l.map fun a => be (f a)
  | [] => rfl
  | x :: l => by
    simp only [List.length_cons, nums, List.flatMap_cons, List.append_assoc, List.map_cons]
    rw [List.take_left' (h x), List.drop_left' (h x), nums_map h t l]
theorem padTo_length {n : Nat} {l : B} (h : l.length ≤ n) : (padTo n l).length = n := by simp [padTo, zeros]; omega
theorem crcN_lt (b : B) : crcN b < 256 ^ 4 := by have := (Crc.crc b).isLt; unfold crcN; omega
theorem open_seal {b : B} (h : b.length ≤ 60) : openB (sealB b) = .ok (padTo 60 b) := by
  have h1 := padTo_length h
  have h2 : (beB (crcN (padTo 60 b)) 4 4).length = 4 := beB_length _ _ _
  unfold openB sealB
  simp only [List.length_append, h1, h2]
  rw [if_neg (by omega), if_neg (by omega), List.drop_left' h1, List.take_left' h1, List.take_of_length_le (by omega), be_beB (crcN_lt _)]
  simp
theorem seal_length {b : B} (h : b.length ≤ 60) : (sealB b).length = 64 := by
  unfold sealB; rw [List.length_append, padTo_length h, beB_length]
theorem allZero_zeros (n : Nat) : allZero (zeros n) = true := by simp [allZero, zeros]
structure HdOK (x : Hd) : Prop where
  n : x.at_.length = 4
  at_ : ∀ a ∈ x.at_, 0 ≤ a ∧ a < 65536
  m : x.sums.length = 4
  sums : ∀ c ∈ x.sums, c < 4294967296
  sum : x.sum.length = 32
theorem flat_len {α : Type} {f : α → B} {k : Nat} (h : ∀ x, (f x).length = k) : ∀ l : List α, (l.flatMap f).length = l.length * k
  | [] => by simp
  | x :: l => by simp [h, flat_len h l, Nat.succ_mul, Nat.add_comm]
theorem hd_back {x : Hd} (h : HdOK x) : hdParse (hdBytes x) = .ok x ∧ (hdBytes x).length = 64 := by
  have l1 : (x.at_.flatMap (num · 2)).length = 8 := by rw [flat_len (k := 2) fun a => num_length a 2, h.n]
  have l2 : (x.sums.flatMap fun s => beB s 4 4).length = 16 := by rw [flat_len (k := 4) fun a => beB_length a 4 4, h.m]
  have hl : ([69] ++ x.at_.flatMap (num · 2) ++ x.sums.flatMap (fun s => beB s 4 4) ++ x.sum).length = 57 := by simp only [List.length_append, l1, l2, h.sum, List.length_singleton]
  refine ⟨?_, seal_length (by omega)⟩
  unfold hdParse hdBytes
  rw [open_seal (by omega)]
  generalize hA : x.at_.flatMap (num · 2) = A at *
  generalize hS : x.sums.flatMap (fun s => beB s 4 4) = S at *
  have e : padTo 60 ([69] ++ A ++ S ++ x.sum) = [69] ++ (A ++ (S ++ (x.sum ++ zeros 3))) := by
    unfold padTo; rw [hl]; simp only [List.append_assoc]
  simp only [e]
  have d1 : ([69] ++ (A ++ (S ++ (x.sum ++ zeros 3)))).drop 1 = A ++ (S ++ (x.sum ++ zeros 3)) := rfl
  have d9 : ([69] ++ (A ++ (S ++ (x.sum ++ zeros 3)))).drop 9 = S ++ (x.sum ++ zeros 3) := by
    show (A ++ (S ++ (x.sum ++ zeros 3))).drop 8 = _; exact List.drop_left' l1
  have d25 : ([69] ++ (A ++ (S ++ (x.sum ++ zeros 3)))).drop 25 = x.sum ++ zeros 3 := by
    rw [show (25 : Nat) = 9 + 16 from rfl, ← List.drop_drop, d9]; exact List.drop_left' l2
  have d57 : ([69] ++ (A ++ (S ++ (x.sum ++ zeros 3)))).drop 57 = zeros 3 := by
    rw [show (57 : Nat) = 25 + 32 from rfl, ← List.drop_drop, d25]; exact List.drop_left' h.sum
  rw [d1, d9, d25, d57, List.take_left' h.sum]
  have n1 : nums 2 4 (A ++ (S ++ (x.sum ++ zeros 3))) = x.at_.map fun a => be (num a 2) := by
    have := nums_map (fun a => num_length a 2) (S ++ (x.sum ++ zeros 3)) x.at_
    rw [h.n, hA] at this; exact this
  have n2 : nums 4 4 (S ++ (x.sum ++ zeros 3)) = x.sums := by
    have := nums_map (fun a => beB_length a 4 4) (x.sum ++ zeros 3) x.sums
    rw [h.m, hS] at this
    rw [this]
    refine (List.map_congr_left (g := id) fun c hc => ?_).trans (List.map_id _)
    exact be_beB (Nat.lt_of_lt_of_eq (h.sums c hc) (by decide))
  rw [n1, n2]
  have n3 : (x.at_.map fun a => be (num a 2)).map Int.ofNat = x.at_ := by
    rw [List.map_map]
    refine (List.map_congr_left (g := id) fun a ha => ?_).trans (List.map_id _)
    exact num_be (h.at_ a ha).1 (by have := (h.at_ a ha).2; simpa using this) (by decide)
  rw [n3]
  simp [allZero_zeros]
structure NdOK (x : Nd) : Prop where
  n : x.kids.length = 8
  kids : ∀ a ∈ x.kids, 0 ≤ a ∧ a < 65536
  sum : x.sum.length = 32
theorem nd_back {x : Nd} {l : Nat} (hl : l < 256) (h : NdOK x) : ndParse l (ndBytes l x) = .ok x ∧ (ndBytes l x).length = 64 := by
  have l1 : (x.kids.flatMap (num · 2)).length = 16 := by rw [flat_len (k := 2) fun a => num_length a 2, h.n]
  have l0 : (num l 1).length = 1 := num_length _ _
  have hl' : ([78] ++ num l 1 ++ x.kids.flatMap (num · 2) ++ x.sum).length = 50 := by simp only [List.length_append, l1, l0, h.sum, List.length_singleton]
  refine ⟨?_, seal_length (by omega)⟩
  unfold ndParse ndBytes
  rw [open_seal (by omega)]
  have hb : be (num l 1) = l := by
    have := num_be (a := (l : Int)) (k := 1) (by omega) (by simp; omega) (by decide)
    omega
  generalize hA : x.kids.flatMap (num · 2) = A at *
  generalize num (l : Int) 1 = N at *
  have e : padTo 60 ([78] ++ N ++ A ++ x.sum) = [78] ++ (N ++ (A ++ (x.sum ++ zeros 10))) := by
    unfold padTo; rw [hl']; simp only [List.append_assoc]
  simp only [e]
  have d1 : ([78] ++ (N ++ (A ++ (x.sum ++ zeros 10)))).drop 1 = N ++ (A ++ (x.sum ++ zeros 10)) := rfl
  have d2 : ([78] ++ (N ++ (A ++ (x.sum ++ zeros 10)))).drop 2 = A ++ (x.sum ++ zeros 10) := by
    show (N ++ (A ++ (x.sum ++ zeros 10))).drop 1 = _; exact List.drop_left' l0
  have d18 : ([78] ++ (N ++ (A ++ (x.sum ++ zeros 10)))).drop 18 = x.sum ++ zeros 10 := by
    rw [show (18 : Nat) = 2 + 16 from rfl, ← List.drop_drop, d2]; exact List.drop_left' l1
  have d50 : ([78] ++ (N ++ (A ++ (x.sum ++ zeros 10)))).drop 50 = zeros 10 := by
    rw [show (50 : Nat) = 18 + 32 from rfl, ← List.drop_drop, d18]; exact List.drop_left' h.sum
  rw [d1, d2, d18, d50, List.take_left' h.sum, List.take_left' l0, hb]
  have n1 : nums 2 8 (A ++ (x.sum ++ zeros 10)) = x.kids.map fun a => be (num a 2) := by
    have := nums_map (fun a => num_length a 2) (x.sum ++ zeros 10) x.kids
    rw [h.n, hA] at this; exact this
  rw [n1]
  have n3 : (x.kids.map fun a => be (num a 2)).map Int.ofNat = x.kids := by
    rw [List.map_map]
    refine (List.map_congr_left (g := id) fun a ha => ?_).trans (List.map_id _)
    exact num_be (h.kids a ha).1 (by have := (h.kids a ha).2; simpa using this) (by decide)
  rw [n3]
  simp [allZero_zeros]
end Go.Sb
end
