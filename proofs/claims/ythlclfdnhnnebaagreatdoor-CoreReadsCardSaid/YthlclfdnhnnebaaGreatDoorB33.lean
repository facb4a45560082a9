/- Part of the proof; no statement of its own: M9, M10. -/
import Derived.Test.YthlclfdnhnnebaaGreatDoorB21
set_option linter.all false
section
namespace Go.Sb
theorem mget_cons {K V : Type} [DecidableEq K] (k j : K) (v : V) (m : List (K × V)) : mget j ((k, v) :: m) = if k = j then some v else mget j m := rfl
theorem refsIn_le (a : Int) : ∀ {G : Gh}, (∀ p ∈ G, (kidsOf p.2).length ≤ 8) → refsIn G a ≤ 8 * G.length
  | [], _ => by simp [refsIn]
  | (i, o) :: G, h => by
    have h1 := refsIn_le a (G := G) fun p hp => h p (List.mem_cons_of_mem _ hp)
    have h2 := h (i, o) (List.mem_cons_self ..)
    have h3 : (kidsOf o).count a ≤ (kidsOf o).length := List.count_le_length
    rw [refsIn_cons, List.length_cons]
    simp only at h2
    omega
theorem kids_le {G : Gh} {o : Ob} (h : okOb G o) : (kidsOf o).length ≤ 8 := by
  cases o with
  | part b => simp [kidsOf]
  | ext d ats => have := h.2.2.1; simp [kidsOf]; omega
  | node l ks s => have := h.2.1; simp [kidsOf]; omega
theorem wrap64_id {x : Int} (h0 : -9223372036854775808 ≤ x) (h : x < 9223372036854775808) : wrap64 x = x := by unfold wrap64; omega
theorem need_cons (G : Gh) (P : List Int) (a x : Int) : need G (a :: P) x = need G P x + if a = x then 1 else 0 := by
  unfold need; rw [List.count_cons]; by_cases e : a = x <;> simp [e] <;> omega
theorem need_app (G : Gh) (K P : List Int) (x : Int) : need G (K ++ P) x = K.count x + need G P x := by unfold need; rw [List.count_append]; omega
section
variable {s : St} {G : Gh} {P : List Int}
theorem Inv.few (h : Inv s G P) (hP : P.length ≤ 1000000) (a : Int) : need G P a ≤ 2000000 := by
  have h1 := refsIn_le a (G := G) fun p hp => kids_le (h.typ p.1 p.2 ((mget_mem h.nod).2 hp))
  have h2 : P.count a ≤ P.length := List.count_le_length
  have h3 := h.cnt
  have h4 : s.g.count 1 ≤ s.g.length := List.count_le_length
  have h5 := h.hi
  unfold need; omega
theorem kid_del {a k : Int} (hG : mok G) (hk : k ≠ a) {l : Nat} (h : isKid G l k) : isKid (mdel a G) l k := by
  cases l with
  | zero => exact h.imp id fun ⟨d, ats, e⟩ => ⟨d, ats, by rw [mget_mdel a k hG, if_neg (Ne.symm hk)]; exact e⟩
  | succ l => exact h.imp id fun ⟨d, ats, e⟩ => ⟨d, ats, by rw [mget_mdel a k hG, if_neg (Ne.symm hk)]; exact e⟩
theorem sum_del {a k : Int} (hG : mok G) (hk : k ≠ a) : sumOf (mdel a G) k = sumOf G k := by unfold sumOf; rw [mget_mdel a k hG, if_neg (Ne.symm hk)]
theorem ok_del {a : Int} (hG : mok G) {o : Ob} (hk : a ∉ kidsOf o) (h : okOb G o) : okOb (mdel a G) o := by
  cases o with
  | part b => exact h
  | ext d ats =>
    obtain ⟨t1, t2, t3, t4⟩ := h
    refine ⟨t1, t2, t3, fun k hk4 => ?_⟩
    have := t4 k hk4
    unfold okPart at this ⊢
    split at this
    · rename_i hz; rw [if_pos hz]; exact this
    · rename_i hz; rw [if_neg hz]
      refine ⟨this.1, ?_⟩
      have hne : ats.getD k 0 ≠ a := fun e => hk (by show a ∈ ats; rw [← e]; exact getD_mem (by omega))
      rw [mget_mdel a _ hG, if_neg (Ne.symm hne)]; exact this.2
  | node l ks sm =>
    obtain ⟨t1, t2, t3, t4, t5⟩ := h
    refine ⟨t1, t2, t3, fun k hm => kid_del hG (fun e => hk (by subst e; exact hm)) (t4 k hm), ?_⟩
    rw [t5]
    congr 1
    exact List.map_congr_left fun k hm => (sum_del hG (fun e => hk (by subst e; exact hm))).symm
theorem kid_add {a k : Int} {o : Ob} (hn : mget a G = none) {l : Nat} (h : isKid G l k) : isKid ((a, o) :: G) l k := by
  have key : ∀ u, mget k G = some u → mget k ((a, o) :: G) = some u := fun u e => by
    rw [mget_cons, if_neg (fun e2 => by rw [e2] at hn; rw [hn] at e; cases e)]; exact e
  cases l with
  | zero => exact h.imp id fun ⟨d, ats, e⟩ => ⟨d, ats, key _ e⟩
  | succ l => exact h.imp id fun ⟨d, ats, e⟩ => ⟨d, ats, key _ e⟩
theorem kid_live {k : Int} {l : Nat} (h : isKid G l k) : k = 0 ∨ (mget k G).isSome = true := by
  cases l with
  | zero => exact h.imp id fun ⟨d, ats, e⟩ => by rw [e]; rfl
  | succ l => exact h.imp id fun ⟨d, ats, e⟩ => by rw [e]; rfl
theorem sum_add {a k : Int} {o : Ob} (h : k ≠ a) : sumOf ((a, o) :: G) k = sumOf G k := by unfold sumOf; rw [mget_cons, if_neg (Ne.symm h)]
theorem ok_add {a : Int} {u : Ob} (hn : mget a G = none) (ha : a ≠ 0) {o : Ob} (h : okOb G o) : okOb ((a, u) :: G) o := by
  have key : ∀ k v, mget k G = some v → mget k ((a, u) :: G) = some v := fun k v e => by
    rw [mget_cons, if_neg (fun e2 => by rw [← e2, hn] at e; cases e)]; exact e
  cases o with
  | part b => exact h
  | ext d ats =>
    obtain ⟨t1, t2, t3, t4⟩ := h
    refine ⟨t1, t2, t3, fun k hk4 => ?_⟩
    have := t4 k hk4
    unfold okPart at this ⊢
    split at this
    · rename_i hz; rw [if_pos hz]; exact this
    · rename_i hz; rw [if_neg hz]; exact ⟨this.1, key _ _ this.2⟩
  | node l ks sm =>
    obtain ⟨t1, t2, t3, t4, t5⟩ := h
    refine ⟨t1, t2, t3, fun k hm => kid_add hn (t4 k hm), ?_⟩
    rw [t5]
    congr 1
    refine List.map_congr_left fun k hm => (sum_add fun e => ?_).symm
    rcases kid_live (t4 k hm) with h0 | h1
    · exact ha (e ▸ h0)
    · rw [e, hn] at h1; cases h1
theorem Inv.more (h : Inv s G P) {a : Int} {o : Ob} (ho : mget a G = some o) (hd : 0 < s.depth) (hl : s.log.length < 1000000000) (hP : P.length ≤ 1000000) :
    ∃ s', hmore a s = (.ok (), s') ∧ Inv s' G (a :: P) ∧ Rel 1 0 s s' ∧ s'.index = s.index ∧ s'.keep = s.keep ∧ s'.vols = s.vols ∧ s'.next = s.next := by
  have h0 := h.need_pos ho
  have h1 := h.refsOf (h.ne0 ho)
  have h2 := h.few hP a
  have e : hmore a s = (.ok (), { s with log := bk s.depth s.log (.refs a (mget a s.refs)), refs := mput a ((need G P a + 1 : Nat) : Int) s.refs }) := by
    unfold hmore
    rw [if_neg (by omega), h1, wrap64_id (by omega) (by omega)]
    simp [putRefs, andThen, back, show ¬ 1000000000 ≤ s.log.length by omega]
  have r := um_hmore a s hd h.u (by rw [e]; simp)
  rw [e] at r
  refine ⟨_, e, ⟨r.ok, h.nod, h.lo, h.hi, fun x hx => ?_, fun x hx => ?_, h.zero, h.held, h.disk, h.typ, h.cnt⟩, r, rfl, rfl, rfl, rfl⟩
  · show mget x (mput a _ s.refs) = _
    rw [mget_mput, need_cons]
    by_cases e : a = x
    · subst e; simp
    · rw [if_neg e, if_neg e]; exact h.refs x hx
  · rw [need_cons]
    by_cases e : a = x
    · subst e; simp [ho]
    · rw [if_neg e]; exact h.live x hx
theorem Inv.less2 {a : Int} (h : Inv s G (a :: P)) {o : Ob} (ho : mget a G = some o) (hd : 0 < s.depth) (hl : s.log.length < 1000000000) (hP : P.length < 1000000) (hn : need G P a ≠ 0) :
    ∃ s', hless a s = (.ok false, s') ∧ Inv s' G P ∧ Rel 4 0 s s' ∧ s'.index = s.index ∧ s'.keep = s.keep ∧ s'.vols = s.vols ∧ s'.next = s.next := by
  have h1 := h.refsOf (h.ne0 ho)
  have h2 := h.few (by simp; omega) a
  have h3 := h.range ho
  have h4 := need_cons G P a a
  simp at h4
  have e : hless a s = (.ok false, { s with log := bk s.depth s.log (.refs a (mget a s.refs)), refs := mput a (need G P a : Int) s.refs }) := by
    unfold hless
    rw [if_neg (by simp [inR]; omega), if_neg (by omega), if_neg (by omega), h1, h4, show ((need G P a + 1 : Nat) : Int) - 1 = need G P a by omega, wrap64_id (by omega) (by omega)]
    simp [putRefs, andThen, back, show ¬ 1000000000 ≤ s.log.length by omega, ret]
  have r := um_hless a s hd h.u (by rw [e]; simp)
  rw [e] at r
  refine ⟨_, e, ⟨r.ok, h.nod, h.lo, h.hi, fun x hx => ?_, fun x hx => ?_, h.zero, h.held, h.disk, h.typ, h.cnt⟩, r, rfl, rfl, rfl, rfl⟩
  · show mget x (mput a _ s.refs) = _
    rw [mget_mput]
    by_cases e : a = x
    · subst e; simp [hn]
    · rw [if_neg e]; have := h.refs x hx; rw [need_cons, if_neg e] at this; exact this
  · by_cases e : a = x
    · subst e; simp [ho, hn]
    · have := h.live x hx; rw [need_cons, if_neg e] at this; exact this
theorem Inv.less1 {a : Int} (h : Inv s G (a :: P)) {o : Ob} (ho : mget a G = some o) (hd : 0 < s.depth) (hl : s.log.length + 4 < 1000000000) (hg : s.gone.length + 1 < 1000000000) (hn : need G P a = 0) :
    ∃ s', hless a s = (.ok true, s') ∧ Inv s' (mdel a G) (kidsOf o ++ P) ∧ Rel 4 0 s s' ∧ s'.index = s.index ∧ s'.keep = s.keep ∧ s'.vols = s.vols ∧ s'.next = s.next := by
  have h1 := h.refsOf (h.ne0 ho)
  have h3 := h.range ho
  have h4 := need_cons G P a a
  simp only [if_true, hn] at h4
  have hB := (h.held a).2 (by rw [ho]; rfl)
  have bl : ∀ (log : List Step) st, (bk s.depth log st).length = log.length + 1 := fun log st => by simp [bk, hd]
  have e : ∃ yg gn lg, hless a s = (.ok true, { s with refs := mdel a s.refs, g := mvL s.fr s.g a 1 2, young := yg, gone := gn, log := lg }) := by
    unfold hless
    rw [if_neg (by simp [inR]; omega), if_neg (by omega), if_pos (by omega)]
    have e1 : dropRefs a s = (.ok (), { s with log := bk s.depth s.log (.refs a (mget a s.refs)), refs := mdel a s.refs }) := by
      simp [dropRefs, andThen, back, show ¬ 1000000000 ≤ s.log.length by omega]
    rw [andThen_ok e1]
    have e2 := back_ok (s := { s with log := bk s.depth s.log (.refs a (mget a s.refs)), refs := mdel a s.refs, g := mvL s.fr s.g a 1 2 }) (.back a) (by simp only [bl]; omega)
    rw [andThen_ok (m := fun s => back (.back a) { s with g := mvL s.fr s.g a 1 2 }) e2]
    by_cases hy : 0 < youngOf s a
    · have hy' : 0 < youngOf { s with log := bk s.depth (bk s.depth s.log (.refs a (mget a s.refs))) (.back a), refs := mdel a s.refs, g := mvL s.fr s.g a 1 2 } a := hy
      refine ⟨mdel a s.young, s.gone ++ [a], bk s.depth (bk s.depth (bk s.depth (bk s.depth s.log (.refs a (mget a s.refs))) (.back a)) (.young a (mget a s.young))) (.gone s.gone), ?_⟩
      have e3 : (fun s => if 0 < youngOf s a then andThen (dropYoung a) (fun _ s => setGone (s.gone ++ [a]) s) s else ret () s) { s with log := bk s.depth (bk s.depth s.log (.refs a (mget a s.refs))) (.back a), refs := mdel a s.refs, g := mvL s.fr s.g a 1 2 } =
          (.ok (), { s with refs := mdel a s.refs, g := mvL s.fr s.g a 1 2, young := mdel a s.young, gone := s.gone ++ [a], log := bk s.depth (bk s.depth (bk s.depth (bk s.depth s.log (.refs a (mget a s.refs))) (.back a)) (.young a (mget a s.young))) (.gone s.gone) }) := by
        simp only [if_pos hy']
        simp [dropYoung, setGone, andThen, back, bl, show ¬ 1000000000 ≤ s.log.length + 1 + 1 by omega, show ¬ 1000000000 ≤ s.log.length + 1 + 1 + 1 by omega, show ¬ 1000000000 ≤ s.gone.length + 1 by omega]
      rw [andThen_ok e3]; rfl
    · have hy' : ¬ 0 < youngOf { s with log := bk s.depth (bk s.depth s.log (.refs a (mget a s.refs))) (.back a), refs := mdel a s.refs, g := mvL s.fr s.g a 1 2 } a := hy
      refine ⟨s.young, s.gone, bk s.depth (bk s.depth s.log (.refs a (mget a s.refs))) (.back a), ?_⟩
      have e3 : (fun s => if 0 < youngOf s a then andThen (dropYoung a) (fun _ s => setGone (s.gone ++ [a]) s) s else ret () s) { s with log := bk s.depth (bk s.depth s.log (.refs a (mget a s.refs))) (.back a), refs := mdel a s.refs, g := mvL s.fr s.g a 1 2 } =
          (.ok (), { s with log := bk s.depth (bk s.depth s.log (.refs a (mget a s.refs))) (.back a), refs := mdel a s.refs, g := mvL s.fr s.g a 1 2 }) := by
        simp only [if_neg hy']; rfl
      rw [andThen_ok e3]; rfl
  obtain ⟨yg, gn, lg, e⟩ := e
  have r := um_hless a s hd h.u (by rw [e]; simp)
  rw [e] at r
  have hneed : ∀ x, need (mdel a G) (kidsOf o ++ P) x = need G P x := fun x => by
    rw [need_app]; unfold need; rw [refsIn_del h.nod ho x]; omega
  have hnk : ∀ b u, mget b G = some u → a ∉ kidsOf u := fun b u hu hm => refsIn_mem hu hm (by unfold need at hn; omega)
  refine ⟨_, e, ⟨r.ok, mok_mdel a h.nod, h.lo, by show s.fr + (mvL _ _ _ _ _).length ≤ _; rw [mvL_length]; exact h.hi, fun x hx => ?_, fun x hx => ?_, ?_, fun x => ?_, fun x u hu => ?_, fun x u hu => ?_, ?_⟩, r, rfl, rfl, rfl, rfl⟩
  · show mget x (mdel a s.refs) = _
    rw [mget_mdel a x h.u.m.refs, hneed]
    by_cases e : a = x
    · subst e; simp [hn]
    · rw [if_neg e]; have := h.refs x hx; rw [need_cons, if_neg e] at this; exact this
  · rw [hneed, mget_mdel a x h.nod]
    by_cases e : a = x
    · subst e; simp [hn]
    · rw [if_neg e]; have := h.live x hx; rw [need_cons, if_neg e] at this; exact this
  · rw [mget_mdel a 0 h.nod, if_neg (h.ne0 ho)]; exact h.zero
  · show isB s.fr (mvL s.fr s.g a 1 2) x 1 = true ↔ _
    rw [isB_mvL hB, mget_mdel a x h.nod]
    by_cases e : x = a
    · simp [e]
    · rw [if_neg e, if_neg (Ne.symm e)]; exact h.held x
  · rw [mget_mdel a x h.nod] at hu
    split at hu
    · cases hu
    · exact h.disk x u hu
  · rw [mget_mdel a x h.nod] at hu
    split at hu
    · cases hu
    · exact ok_del h.nod (hnk x u hu) (h.typ x u hu)
  · show (mdel a G).length = (mvL s.fr s.g a 1 2).count 1
    have := mdel_len ho
    have h5 := count_mvL (w := 2) (x := 1) hB
    have := h.cnt
    simp at h5
    omega
theorem Inv.put {o : Ob} (h : Inv s G (kidsOf o ++ P)) (hok : okOb G o) (hl64 : (obBytes o).length = 64) (hd : 0 < s.depth) (hl : s.log.length + 4 < 1000000000) (hf : s.keep < (freeN s : Int)) :
    ∃ a s', hput (obBytes o) s = (.ok a, s') ∧ Inv s' ((a, o) :: G) (a :: P) ∧ Rel 3 1 s s' ∧ isFree s a ∧ s'.index = s.index ∧ s'.keep = s.keep ∧ s'.vols = s.vols ∧ s'.next = s.next := by
  have hk := h.u.keep
  obtain ⟨ha0, htk⟩ := take_is (fr := s.fr) (g := s.g) (by unfold freeN at hf; omega)
  have bl : ∀ (log : List Step) st, (bk s.depth log st).length = log.length + 1 := fun log st => by simp [bk, hd]
  have hr := isB_iff.1 ha0
  have h1 := h.u.size
  have h2 := h.lo
  have e : ∃ yg lg, hput (obBytes o) s = (.ok (takeAt s.fr s.g), { s with g := takeL s.g, refs := mput (takeAt s.fr s.g) 1 s.refs, young := yg, log := lg, d := { s.d with l := s.d.l.set (takeAt s.fr s.g).toNat ((s.d.l.getD (takeAt s.fr s.g).toNat ([], [])).1, obBytes o ++ zeros (64 - (obBytes o).length)) } }) := by
    refine ⟨mput (takeAt s.fr s.g) 1 s.young, bk s.depth (bk s.depth (bk s.depth s.log (.give (takeAt s.fr s.g))) (.refs (takeAt s.fr s.g) (mget (takeAt s.fr s.g) s.refs))) (.young (takeAt s.fr s.g) (mget (takeAt s.fr s.g) s.young)), ?_⟩
    unfold hput
    rw [if_neg (by omega)]
    have e1 := back_ok (s := { s with g := takeL s.g }) (.give (takeAt s.fr s.g)) (by simp only; omega)
    simp only
    rw [andThen_ok (m := fun s' => back (.give (takeAt s.fr s.g)) { s' with g := takeL s'.g }) e1]
    generalize takeAt s.fr s.g = a at *
    have e2 : putRefs a 1 { s with g := takeL s.g, log := bk s.depth s.log (.give a) } = (.ok (), { s with g := takeL s.g, refs := mput a 1 s.refs, log := bk s.depth (bk s.depth s.log (.give a)) (.refs a (mget a s.refs)) }) := by
      simp [putRefs, andThen, back, bl, show ¬ 1000000000 ≤ s.log.length + 1 by omega]
    rw [andThen_ok e2]
    have e3 : putYoung a 1 { s with g := takeL s.g, refs := mput a 1 s.refs, log := bk s.depth (bk s.depth s.log (.give a)) (.refs a (mget a s.refs)) } = (.ok (), { s with g := takeL s.g, refs := mput a 1 s.refs, young := mput a 1 s.young, log := bk s.depth (bk s.depth (bk s.depth s.log (.give a)) (.refs a (mget a s.refs))) (.young a (mget a s.young)) }) := by
      simp [putYoung, andThen, back, bl, show ¬ 1000000000 ≤ s.log.length + 1 + 1 by omega]
    rw [andThen_ok e3]
    have e4 := dwrite_at (b := obBytes o) h.u.run (a := a) (by omega) (by omega)
    unfold andThen onDisk
    simp only [e4]; rfl
  obtain ⟨yg, lg, e⟩ := e
  have r := um_hput (obBytes o) s hd h.u (by rw [e]; simp)
  rw [e] at r
  rw [htk] at e r
  have hB := ha0
  have hne : takeAt s.fr s.g ≠ 0 := by omega
  have hnn : mget (takeAt s.fr s.g) G = none := by
    cases hm : mget (takeAt s.fr s.g) G with
    | none => rfl
    | some u => exact absurd (isB_one ((h.held _).2 (by rw [hm]; rfl)) ha0) (by decide)
  generalize takeAt s.fr s.g = a at *
  have hz : need G (kidsOf o ++ P) a = 0 := by
    by_cases e : need G (kidsOf o ++ P) a = 0
    · exact e
    · have := (h.live a hne).1 e; rw [hnn] at this; cases this
  have hneed : ∀ x, need ((a, o) :: G) (a :: P) x = need G (kidsOf o ++ P) x + if a = x then 1 else 0 := fun x => by
    rw [need_cons, need_app]; unfold need; rw [refsIn_cons]; omega
  refine ⟨a, _, e, ⟨r.ok, ?_, h.lo, by show s.fr + (mvL _ _ _ _ _).length ≤ _; rw [mvL_length]; exact h.hi, fun x hx => ?_, fun x hx => ?_, ?_, fun x => ?_, fun x u hu => ?_, fun x u hu => ?_, ?_⟩, r, ha0, rfl, rfl, rfl, rfl⟩
  · show ((a, o) :: G).map (·.1) |>.Nodup
    rw [List.map_cons, List.nodup_cons]
    refine ⟨fun hm => ?_, h.nod⟩
    obtain ⟨⟨b, u⟩, hb, rfl⟩ := List.mem_map.1 hm
    rw [(mget_mem h.nod).2 hb] at hnn; cases hnn
  · show mget x (mput a 1 s.refs) = _
    rw [mget_mput, hneed]
    by_cases e : a = x
    · subst e; simp [hz]
    · rw [if_neg e, if_neg e]; exact h.refs x hx
  · rw [hneed, mget_cons]
    by_cases e : a = x
    · subst e; simp
    · rw [if_neg e, if_neg e]; exact h.live x hx
  · rw [mget_cons, if_neg hne]; exact h.zero
  · show isB s.fr (mvL s.fr s.g a 0 1) x 1 = true ↔ _
    rw [isB_mvL hB, mget_cons]
    by_cases e : x = a
    · simp [e]
    · rw [if_neg e, if_neg (Ne.symm e)]; exact h.held x
  · rw [mget_cons] at hu
    show cellAt { s.d with l := _ } x.toNat = _
    unfold cellAt
    simp only [List.getD_eq_getElem?_getD]
    by_cases e : a = x
    · subst e
      simp only [if_true, Option.some.injEq] at hu
      subst hu
      rw [List.getElem?_set_self (by omega)]
      simp [hl64, zeros]
    · rw [if_neg e] at hu
      have := h.range hu
      rw [List.getElem?_set_ne (by omega)]
      have := h.disk x u hu
      unfold cellAt at this
      simpa only [List.getD_eq_getElem?_getD] using this
  · rw [mget_cons] at hu
    by_cases e : a = x
    · subst e
      simp only [if_true, Option.some.injEq] at hu
      subst hu
      exact ok_add hnn hne hok
    · rw [if_neg e] at hu
      exact ok_add hnn hne (h.typ x u hu)
  · show G.length + 1 = (mvL s.fr s.g a 0 1).count 1
    have h5 := count_mvL (w := 1) (x := 1) hB
    have := h.cnt
    simp at h5
    omega
end
end Go.Sb
end
section
namespace Go.Sb
structure Roomy (c : Nat) (s : St) : Prop where
  d : 0 < s.depth
  l : s.log.length + c + 10 < 1000000000
  g : s.gone.length + c + 10 < 1000000000
theorem Rel.len {c k : Nat} {s t : St} (h : Rel c k s t) : t.log.length ≤ s.log.length + c := by
  obtain ⟨l, e, n, _⟩ := h.log
  rw [e, List.length_append]; omega
theorem Roomy.go {c c' k : Nat} {s t : St} (h : Roomy (c + c') s) (r : Rel c k s t) : Roomy c' t :=
  ⟨by rw [r.depth]; exact h.d, by have := r.len; have := h.l; omega, by have := r.gone; have := h.g; omega⟩
theorem Roomy.le {c c' : Nat} {s : St} (h : Roomy c s) (hc : c' ≤ c) : Roomy c' s := ⟨h.d, by have := h.l; omega, by have := h.g; omega⟩
structure Stp (c k : Nat) (s : St) (G : Gh) (s' : St) (G' : Gh) : Prop where
  rel : Rel c k s s'
  idx : Idx s' G'
  old : ∀ b o, mget b G' = some o → mget b G = some o ∨ isFree s b
  keep : s'.keep = s.keep
  vols : s'.vols = s.vols
  next : s'.next = s.next
theorem Stp.trans {c1 k1 c2 k2 : Nat} {s t u : St} {G1 G2 G3 : Gh} (h : Stp c1 k1 s G1 t G2) (j : Stp c2 k2 t G2 u G3) : Stp (c1 + c2) (k1 + k2) s G1 u G3 :=
  ⟨h.rel.trans j.rel, j.idx, fun b o hb => by
    rcases j.old b o hb with h1 | h1
    · exact h.old b o h1
    · exact .inr (h.rel.free b h1), j.keep.trans h.keep, j.vols.trans h.vols, j.next.trans h.next⟩
theorem Stp.mono {c k c' k' : Nat} {s t : St} {G G' : Gh} (h : Stp c k s G t G') (hc : c ≤ c') (hk : k ≤ k') : Stp c' k' s G t G' := ⟨h.rel.mono hc hk, h.idx, h.old, h.keep, h.vols, h.next⟩
theorem Stp.refl {s : St} {G : Gh} {P : List Int} (h : Inv s G P) (hi : Idx s G) : Stp 0 0 s G s G := ⟨Rel.refl h.u, hi, fun _ _ h => .inl h, rfl, rfl, rfl⟩
section
variable {s : St} {G : Gh} {P : List Int}
theorem Inv.perm {Q : List Int} (h : Inv s G P) (hp : ∀ x, x ≠ 0 → P.count x = Q.count x) : Inv s G Q :=
  ⟨h.u, h.nod, h.lo, h.hi, fun a ha => by have := h.refs a ha; unfold need at this ⊢; rw [← hp a ha]; exact this, fun a ha => by have := h.live a ha; unfold need at this ⊢; rw [← hp a ha]; exact this,
    h.zero, h.held, h.disk, h.typ, h.cnt⟩
theorem Inv.drop0 (h : Inv s G (0 :: P)) : Inv s G P := h.perm fun x hx => by rw [List.count_cons_of_ne (Ne.symm hx)]
theorem Inv.add0 (h : Inv s G P) : Inv s G (0 :: P) := h.perm fun x hx => by rw [List.count_cons_of_ne (Ne.symm hx)]
theorem Inv.pend (h : Inv s G P) {x : Int} (hx : x ∈ P) (h0 : x ≠ 0) : (mget x G).isSome = true := (h.live x h0).1 (by have := List.count_pos_iff.2 hx; unfold need; omega)
def Sub (G' G : Gh) : Prop := ∀ b o, mget b G' = some o → mget b G = some o
theorem Sub.refl (G : Gh) : Sub G G := fun _ _ h => h
theorem Sub.trans {A B C : Gh} (h : Sub A B) (j : Sub B C) : Sub A C := fun b o hb => j b o (h b o hb)
theorem sub_del {a : Int} (hG : mok G) : Sub (mdel a G) G := fun b o h => by
  rw [mget_mdel a b hG] at h
  split at h
  · cases h
  · exact h
theorem kid_sub {G' : Gh} (hs : Sub G' G) {l : Nat} {k : Int} (h : isKid G l k) (hk : k = 0 ∨ (mget k G').isSome = true) : isKid G' l k := by
  rcases hk with rfl | hk
  · cases l <;> exact .inl rfl
  · obtain ⟨o, ho⟩ := Option.isSome_iff_exists.1 hk
    have h1 := hs k o ho
    cases l with
    | zero =>
      rcases h with rfl | ⟨d, ats, e⟩
      · exact .inl rfl
      · rw [e] at h1; cases h1; exact .inr ⟨d, ats, ho⟩
    | succ l =>
      rcases h with rfl | ⟨d, ats, e⟩
      · exact .inl rfl
      · rw [e] at h1; cases h1; exact .inr ⟨d, ats, ho⟩
theorem Inv.lessParts : ∀ (ats : List Int) {s : St} {G : Gh}, Inv s G (ats ++ P) → (∀ x ∈ ats, x = 0 ∨ ∃ b, mget x G = some (.part b)) → Roomy (ats.length * 4) s → P.length + ats.length < 1000000 →
    ∃ s' G', each lessPos ats s = (.ok (), s') ∧ Inv s' G' P ∧ Rel (ats.length * 4) 0 s s' ∧ Sub G' G ∧ (∀ b o, mget b G = some o → (∃ x, o = .part x) ∨ mget b G' = some o) ∧ s'.index = s.index ∧ s'.keep = s.keep ∧ s'.vols = s.vols ∧ s'.next = s.next
  | [], s, G, h, _, _, _ => ⟨s, G, rfl, h, (Rel.refl h.u).mono (by simp) (by omega), Sub.refl G, fun _ _ h => .inr h, rfl, rfl, rfl, rfl⟩
  | x :: ats, s, G, h, ht, hr, hP => by
    have hr' : Roomy (4 + ats.length * 4) s := hr.le (by simp; omega)
    simp only [List.length_cons] at hP
    have one : ∃ s1 G1, lessPos x s = (.ok (), s1) ∧ Inv s1 G1 (ats ++ P) ∧ Rel 4 0 s s1 ∧ Sub G1 G ∧ (∀ b o, mget b G = some o → (∃ x, o = .part x) ∨ mget b G1 = some o) ∧ s1.index = s.index ∧ s1.keep = s.keep ∧ s1.vols = s.vols ∧ s1.next = s.next := by
      rcases ht x (List.mem_cons_self ..) with rfl | ⟨b, hb⟩
      · exact ⟨s, G, by unfold lessPos; rw [if_neg (by omega)]; rfl, h.drop0, (Rel.refl h.u).mono (by omega) (by omega), Sub.refl G, fun _ _ h => .inr h, rfl, rfl, rfl, rfl⟩
      · have hx := h.range hb
        by_cases hn : need G (ats ++ P) x = 0
        · obtain ⟨s1, e1, i1, r1, q1, q2, q3, q4⟩ := h.less1 hb hr.d (by have := hr'.l; omega) (by have := hr'.g; omega) hn
          refine ⟨s1, mdel x G, by unfold lessPos; rw [if_pos (by omega), andThen_ok e1]; rfl, i1, r1, sub_del h.nod, fun c o hc => ?_, q1, q2, q3, q4⟩
          by_cases e : x = c
          · subst e; rw [hb] at hc; cases hc; exact .inl ⟨b, rfl⟩
          · rw [mget_mdel x c h.nod, if_neg e]; exact .inr hc
        · obtain ⟨s1, e1, i1, r1, q1, q2, q3, q4⟩ := h.less2 hb hr.d (by have := hr'.l; omega) (by simp; omega) hn
          exact ⟨s1, G, by unfold lessPos; rw [if_pos (by omega), andThen_ok e1]; rfl, i1, r1, Sub.refl G, fun _ _ h => .inr h, q1, q2, q3, q4⟩
    obtain ⟨s1, G1, e1, i1, r1, sb1, k1, q1, q2, q3, q4⟩ := one
    obtain ⟨s2, G2, e2, i2, r2, sb2, k2, p1, p2, p3, p4⟩ := Inv.lessParts ats i1 (fun y hy => by
      rcases ht y (List.mem_cons_of_mem _ hy) with h0 | ⟨b, hb⟩
      · exact .inl h0
      · have hy0 := h.ne0 hb
        obtain ⟨o, ho⟩ := Option.isSome_iff_exists.1 (i1.pend (List.mem_append_left _ hy) hy0)
        have := sb1 y o ho
        rw [hb] at this; cases this
        exact .inr ⟨b, ho⟩) (hr'.go r1) (by omega)
    refine ⟨s2, G2, by unfold each; rw [andThen_ok e1, e2], i2, (r1.trans r2).mono (by simp; omega) (by omega), sb2.trans sb1, fun b o hb => ?_, p1.trans q1, p2.trans q2, p3.trans q3, p4.trans q4⟩
    rcases k1 b o hb with h1 | h1
    · exact .inl h1
    · exact k2 b o h1
theorem ats_parts {d : B} {ats : List Int} (h : okOb G (.ext d ats)) : ∀ x ∈ ats, x = 0 ∨ ∃ b, mget x G = some (.part b) := by
  obtain ⟨t1, t2, t3, t4⟩ := h
  intro x hx
  obtain ⟨k, hk, rfl⟩ := List.getElem_of_mem hx
  have e : ats.getD k 0 = ats[k] := by rw [List.getD_eq_getElem?_getD, List.getElem?_eq_getElem hk]; rfl
  have := t4 k (by omega)
  unfold okPart at this
  rw [e] at this
  split at this
  · exact .inl this
  · exact .inr ⟨_, this.2⟩
theorem Inv.xless {a : Int} (h : Inv s G (a :: P)) (hi : Idx s G) (ha : isKid G 0 a) (hr : Roomy 21 s) (hP : P.length + 8 < 1000000) :
    ∃ s' G', xless a s = (.ok (), s') ∧ Inv s' G' P ∧ Stp 21 0 s G s' G' ∧ Sub G' G := by
  unfold Go.Sb.xless
  rcases ha with rfl | ⟨d, ats, ho⟩
  · exact ⟨s, G, by rw [if_pos rfl]; rfl, h.drop0, (Stp.refl h hi).mono (by omega) (by omega), Sub.refl G⟩
  rw [if_neg (h.ne0 ho), andThen_ok (h.xhead ho)]
  by_cases hn : need G P a = 0
  · obtain ⟨s1, e1, i1, r1, q1, q2, q3, q4⟩ := h.less1 ho hr.d (by have := hr.l; omega) (by have := hr.g; omega) hn
    rw [andThen_ok e1]
    have hok := h.typ a _ ho
    have hnk : a ∉ ats := fun hm => refsIn_mem ho hm (by unfold need at hn; omega)
    obtain ⟨s2, G2, e2, i2, r2, sb2, k2, p1, p2, p3, p4⟩ := Inv.lessParts ats (s := s1) (G := mdel a G) (P := P) i1 (fun x hx => by
      rcases ats_parts hok x hx with h0 | ⟨b, hb⟩
      · exact .inl h0
      · exact .inr ⟨b, by rw [mget_mdel a x h.nod, if_neg (fun (e : a = x) => hnk (by subst e; exact hx))]; exact hb⟩) ((hr.le (c' := 4 + ats.length * 4) (by have : ats.length = 4 := hok.2.2.1; omega)).go r1) (by have : ats.length = 4 := hok.2.2.1; omega)
    have r12 : Rel 20 0 s s2 := (r1.trans r2).mono (by have : ats.length = 4 := hok.2.2.1; omega) (by omega)
    have hr2 : Roomy 1 s2 := (hr.le (by omega) : Roomy (20 + 1) s).go r12
    have e3 : dropIndex (key s2.bits (Sha.sum d)) s2 = (.ok (), { s2 with log := bk s2.depth s2.log (.index (key s2.bits (Sha.sum d)) (mget (key s2.bits (Sha.sum d)) s2.index)), index := mdel (key s2.bits (Sha.sum d)) s2.index }) := by
      have := hr2.l
      simp [dropIndex, andThen, back, show ¬ 1000000000 ≤ s2.log.length by omega]
    have r3 := um_dropIndex (key s2.bits (Sha.sum d)) s2 hr2.d i2.u (by rw [e3]; simp)
    rw [e3] at r3
    have hsub : Sub G2 G := sb2.trans (sub_del h.nod)
    refine ⟨_, G2, ?_, ⟨r3.ok, i2.nod, i2.lo, i2.hi, i2.refs, i2.live, i2.zero, i2.held, i2.disk, i2.typ, i2.cnt⟩, ⟨(r12.trans r3).mono (by omega) (by omega), fun k b => ?_, fun b o hb => .inl (hsub b o hb), p2.trans q2, p3.trans q3, p4.trans q4⟩, hsub⟩
    · simp only [if_true]
      show andThen (each lessPos ats) _ s1 = _
      rw [andThen_ok e2]; exact e3
    · show mget k (mdel (key s2.bits (Sha.sum d)) s2.index) = some b ↔ ∃ d' ats', mget b G2 = some (.ext d' ats') ∧ k = key s2.bits (Sha.sum d')
      rw [mget_mdel _ k i2.u.m.index, show s2.bits = s.bits from r12.bits, p1, q1]
      constructor
      · intro hk
        split at hk
        · cases hk
        · rename_i hne
          obtain ⟨d', ats', hb, e⟩ := (hi k b).1 hk
          refine ⟨d', ats', ?_, e⟩
          have hba : a ≠ b := fun e2 => by subst e2; rw [ho] at hb; cases hb; exact hne e.symm
          rcases k2 b (.ext d' ats') (by rw [mget_mdel a b h.nod, if_neg hba]; exact hb) with ⟨x, hx⟩ | hx
          · cases hx
          · exact hx
      · rintro ⟨d', ats', hb, e⟩
        have hb' := hsub b _ hb
        have hk := (hi k b).2 ⟨d', ats', hb', e⟩
        rw [if_neg]
        · exact hk
        · intro e2
          have := (hi (key s.bits (Sha.sum d)) a).2 ⟨d, ats, ho, rfl⟩
          rw [e2, hk] at this
          cases this
          have := sb2 a _ hb
          rw [mget_mdel a a h.nod, if_pos rfl] at this; cases this
  · obtain ⟨s1, e1, i1, r1, q1, q2, q3, q4⟩ := h.less2 ho hr.d (by have := hr.l; omega) (by omega) hn
    rw [andThen_ok e1]
    exact ⟨s1, G, rfl, i1, ⟨r1.mono (by omega) (by omega), fun k b => by rw [q1, r1.bits]; exact hi k b, fun _ _ h => .inl h, q2, q3, q4⟩, Sub.refl G⟩
theorem Inv.rlessL {l : Nat} (hone : ∀ {s : St} {G : Gh} {P : List Int} {a : Int}, Inv s G (a :: P) → Idx s G → isKid G l a → Roomy (lessC l) s → P.length + 8 * (l + 1) < 1000000 → ∃ s' G', rless l a s = (.ok (), s') ∧ Inv s' G' P ∧ Stp (lessC l) 0 s G s' G' ∧ Sub G' G) :
    ∀ (ks : List Int) {s : St} {G : Gh}, Inv s G (ks ++ P) → Idx s G → (∀ k ∈ ks, isKid G l k) → Roomy (ks.length * lessC l) s → P.length + ks.length + 8 * (l + 1) < 1000000 →
    ∃ s' G', each (rless l) ks s = (.ok (), s') ∧ Inv s' G' P ∧ Stp (ks.length * lessC l) 0 s G s' G' ∧ Sub G' G
  | [], s, G, h, hi, _, _, _ => ⟨s, G, rfl, h, (Stp.refl h hi).mono (by simp) (by omega), Sub.refl G⟩
  | x :: ks, s, G, h, hi, hk, hr, hP => by
    have hr' : Roomy (lessC l + ks.length * lessC l) s := hr.le (by simp [Nat.succ_mul, Nat.add_comm])
    simp only [List.length_cons] at hP
    obtain ⟨s1, G1, e1, i1, t1, b1⟩ := hone (P := ks ++ P) h hi (hk x (List.mem_cons_self ..)) (hr'.le (by omega)) (by simp; omega)
    obtain ⟨s2, G2, e2, i2, t2, b2⟩ := Inv.rlessL hone ks i1 t1.idx (fun y hy => kid_sub b1 (hk y (List.mem_cons_of_mem _ hy)) (by
      by_cases h0 : y = 0
      · exact .inl h0
      · exact .inr (i1.pend (List.mem_append_left _ hy) h0))) (hr'.go t1.rel) (by omega)
    exact ⟨s2, G2, by unfold each; rw [andThen_ok e1, e2], i2, (t1.trans t2).mono (by simp [Nat.succ_mul, Nat.add_comm]) (by omega), b2.trans b1⟩
theorem Inv.rless : ∀ (l : Nat) {s : St} {G : Gh} {P : List Int} {a : Int}, Inv s G (a :: P) → Idx s G → isKid G l a → Roomy (lessC l) s → P.length + 8 * (l + 1) < 1000000 →
    ∃ s' G', rless l a s = (.ok (), s') ∧ Inv s' G' P ∧ Stp (lessC l) 0 s G s' G' ∧ Sub G' G
  | 0, s, G, P, a, h, hi, ha, hr, hP => h.xless hi ha hr (by omega)
  | l + 1, s, G, P, a, h, hi, ha, hr, hP => by
    unfold Go.Sb.rless
    rcases ha with rfl | ⟨ks, sm, ho⟩
    · exact ⟨s, G, by rw [if_pos rfl]; rfl, h.drop0, (Stp.refl h hi).mono (by omega) (by omega), Sub.refl G⟩
    rw [if_neg (h.ne0 ho), andThen_ok (h.load ho)]
    obtain ⟨_, t2, _, t4, _⟩ := h.typ a _ ho
    have hr' : Roomy (4 + 8 * lessC l) s := hr
    by_cases hn : need G P a = 0
    · obtain ⟨s1, e1, i1, r1, q1, q2, q3, q4⟩ := h.less1 ho hr.d (by have := hr'.l; omega) (by have := hr'.g; omega) hn
      rw [andThen_ok e1]
      have hnk : a ∉ ks := fun hm => refsIn_mem ho hm (by unfold need at hn; omega)
      have hi1 : Idx s1 (mdel a G) := fun k b => by
        rw [q1, r1.bits, hi k b]
        constructor
        · rintro ⟨d, ats, hb, e⟩
          refine ⟨d, ats, ?_, e⟩
          rw [mget_mdel a b h.nod, if_neg (fun e2 => by rw [← e2, ho] at hb; cases hb)]; exact hb
        · rintro ⟨d, ats, hb, e⟩
          exact ⟨d, ats, sub_del h.nod b _ hb, e⟩
      obtain ⟨s2, G2, e2, i2, u2, b2⟩ := Inv.rlessL (l := l) (fun h hi ha hr hP => Inv.rless l h hi ha hr hP) ks (s := s1) (G := mdel a G) (P := P) i1 hi1 (fun k hm => kid_del h.nod (fun (e : k = a) => hnk (by subst e; exact hm)) (t4 k hm)) (by rw [t2]; exact hr'.go r1) (by omega)
      rw [t2] at u2
      have hs1 : Stp 4 0 s G s1 (mdel a G) := ⟨r1, hi1, fun b o hb => .inl (sub_del h.nod b o hb), q2, q3, q4⟩
      exact ⟨s2, G2, by simp only [if_true]; exact e2, i2, (hs1.trans u2).mono (by simp only [lessC]; omega) (by omega), b2.trans (sub_del h.nod)⟩
    · obtain ⟨s1, e1, i1, r1, q1, q2, q3, q4⟩ := h.less2 ho hr.d (by have := hr'.l; omega) (by omega) hn
      rw [andThen_ok e1]
      exact ⟨s1, G, rfl, i1, ⟨r1.mono (by simp only [lessC]; omega) (by omega), fun k b => by rw [q1, r1.bits]; exact hi k b, fun _ _ h => .inl h, q2, q3, q4⟩, Sub.refl G⟩
end
end Go.Sb
end
