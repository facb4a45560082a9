/- Part of the proof; no statement of its own: M13, M14, M15, M16. -/
import Derived.Test.YthlclfdnhnnebaaGreatDoorB34
import Derived.Test.YthlclfdnhnnebaaGreatDoorB28
set_option linter.all false
section
namespace Go.Sb
def mapAt (G : Gh) (root : Int) (j : Nat) : B := if j < 512 then leafOf G (leafAt G 2 root j) else zeros 256
section
variable {s : St} {G : Gh} {P : List Int}
theorem Inv.leaf_len (h : Inv s G P) {a : Int} (_ : isKid G 0 a) : (leafOf G a).length = 256 := by
  unfold leafOf
  split
  · rename_i d ats ho; exact (h.typ a _ ho).1
  · exact zeros_len 256
theorem Inv.map_len (h : Inv s G P) {root : Int} (hr : isKid G 3 root) (j : Nat) : (mapAt G root j).length = 256 := by
  unfold mapAt; split
  · exact h.leaf_len (h.leafKid 2 hr j)
  · exact zeros_len 256
theorem Inv.mapKeep (h : Inv s G P) {s' : St} {G' : Gh} {P' : List Int} (h' : Inv s' G' P') (old : ∀ b o, mget b G' = some o → mget b G = some o ∨ isFree s b) {root : Int} (hk : isKid G 3 root) (hl : root = 0 ∨ (mget root G').isSome = true) : mapAt G' root = mapAt G root := by
  funext j
  unfold mapAt
  split
  · have m := h.mapSame h' old 2 hk hl j
    rw [m.1]; exact h.leafSame old h'.zero m.2.1 m.2.2
  · rfl
theorem Inv.mset {root to_ : Int} {at_ : Nat} (h : Inv s G (root :: to_ :: P)) (hi : Idx s G) (hroot : isKid G 3 root) (hto : isKid G 0 to_) (hat : at_ < 512) (hr : Roomy (setC 2) s) (hP : P.length ≤ 800000) :
    (∃ r s' G', mset root at_ to_ s = (.ok r, s') ∧ Inv s' G' (r :: P) ∧ Stp (setC 2) 3 s G s' G' ∧ isKid G' 3 r ∧ ∀ j, j < 512 → leafAt G' 2 r j = if j = at_ then to_ else leafAt G 2 root j) ∨ Fl 3 False (mset root at_ to_) s := by
  unfold Go.Sb.mset
  rw [show (andThen (Go.Sb.rget 2 root at_) fun x => if x = to_ then andThen (Go.Sb.xless to_) fun _ => ret root else Go.Sb.rset 2 root at_ to_ : M Int) s = (if leafAt G 2 root at_ = to_ then andThen (Go.Sb.xless to_) fun _ => ret root else Go.Sb.rset 2 root at_ to_ : M Int) s from andThen_ok (h.rget 2 hroot at_)]
  have efl : Fl 3 False (if leafAt G 2 root at_ = to_ then andThen (Go.Sb.xless to_) fun _ => ret root else Go.Sb.rset 2 root at_ to_ : M Int) s → Fl 3 False (andThen (Go.Sb.rget 2 root at_) fun x => if x = to_ then andThen (Go.Sb.xless to_) fun _ => ret root else Go.Sb.rset 2 root at_ to_ : M Int) s := by
    rintro ⟨e, s', h1, h2⟩
    exact ⟨e, s', by rw [andThen_ok (h.rget 2 hroot at_)]; exact h1, h2⟩
  by_cases he : leafAt G 2 root at_ = to_
  · rw [if_pos he]
    have h' : Inv s G (to_ :: root :: P) := h.perm fun x hx => by simp only [List.count_cons]; omega
    obtain ⟨s1, G1, e1, i1, t1, b1⟩ := h'.xless hi hto (hr.le (by decide)) (by simp; omega)
    have hk1 : isKid G1 3 root := kid_sub b1 hroot (if h0 : root = 0 then .inl h0 else .inr (i1.pend (List.mem_cons_self ..) h0))
    refine .inl ⟨root, s1, G1, by rw [andThen_ok e1]; rfl, i1, t1.mono (by decide) (by omega), hk1, fun j hj => ?_⟩
    rw [(h.mapSame i1 (fun b o hb => .inl (b1 b o hb)) 2 hroot (kid_live hk1) j).1]
    split
    · rename_i e; rw [e, he]
    · rfl
  · rw [if_neg he]
    rcases Inv.rset 2 h hi hroot hto (by omega) hat hr (by omega) with h1 | h1
    · exact .inl h1
    · exact .inr (efl (by rw [if_neg he]; exact h1))
def upd (m : Nat → B) (i : Nat) (d : B) : Nat → B := fun j => if j = i then d else m j
theorem Inv.cset {x : Ent} {i : Nat} {data : B} (h : Inv s G (x.root :: P)) (hi : Idx s G) (hroot : isKid G 3 x.root) (hat : i < 512) (hd : data.length = 256) (hr : Roomy (16 + setC 2) s) (hP : P.length ≤ 700000) :
    (∃ r s' G', cset x i data s = (.ok { x with root := r }, s') ∧ Inv s' G' (r :: P) ∧ Stp (16 + setC 2) 8 s G s' G' ∧ isKid G' 3 r ∧ mapAt G' r = upd (mapAt G x.root) i data ∧ (allZero data = false → ¬ Clash G s.bits data)) ∨
    Fl 8 (allZero data = false ∧ Clash G s.bits data) (cset x i data) s := by
  unfold Go.Sb.cset
  rcases h.xput hi hd (hr.le (by omega)) (by simp; omega) with ⟨a, s1, G1, e1, i1, t1, k1, l1, c1⟩ | hf
  · have i1' : Inv s1 G1 (x.root :: a :: P) := i1.perm fun y hy => by simp only [List.count_cons]; omega
    have hk1 : isKid G1 3 x.root := h.kidSame t1.old hroot (if h0 : x.root = 0 then .inl h0 else .inr (i1'.pend (List.mem_cons_self ..) h0))
    rcases i1'.mset t1.idx hk1 k1 hat (hr.go t1.rel) (by omega) with ⟨r, s2, G2, e2, i2, t2, k2, c2⟩ | hf
    · refine .inl ⟨r, s2, G2, by rw [andThen_ok e1, andThen_ok e2]; rfl, i2, t1.trans t2, k2, ?_, c1⟩
      funext j
      by_cases hj : j < 512
      case neg => unfold upd mapAt; rw [if_neg hj, if_neg hj, if_neg (by omega)]
      have hl := c2 j hj
      have hk := kid_live (i2.leafKid 2 k2 j)
      unfold upd mapAt
      rw [if_pos hj, if_pos hj]
      rw [hl] at hk ⊢
      by_cases e : j = i
      · rw [if_pos e] at hk ⊢
        rw [if_pos e, i1.leafSame t2.old i2.zero k1 hk, l1]
      · rw [if_neg e] at hk ⊢
        rw [if_neg e]
        have m := h.mapSame i1 t1.old 2 hroot (kid_live hk1) j
        rw [m.1] at hk ⊢
        exact h.leafSame (t1.trans t2).old i2.zero m.2.1 hk
    · exact .inr (Fl.there e1 t1.rel t1.keep (hf.here (Nat.le_refl _) False.elim) (by omega) id)
  · exact .inr (hf.here (by omega) id)
theorem wanted {a : Int} : ∀ {G : Gh}, refsIn G a ≠ 0 → ∃ p ∈ G, a ∈ kidsOf p.2
  | [], h => by simp [refsIn] at h
  | (b, o) :: G, h => by
    rw [refsIn_cons] at h
    by_cases e : (kidsOf o).count a = 0
    · obtain ⟨p, hp, hk⟩ := wanted (a := a) (G := G) (by omega)
      exact ⟨p, List.mem_cons_of_mem _ hp, hk⟩
    · exact ⟨(b, o), List.mem_cons_self .., List.count_pos_iff.1 (Nat.pos_of_ne_zero e)⟩
theorem Inv.wants (h : Inv s G P) {a : Int} {o : Ob} (ho : mget a G = some o) : a ∈ P ∨ ∃ b u, mget b G = some u ∧ a ∈ kidsOf u := by
  have := h.need_pos ho
  unfold need at this
  by_cases e : P.count a = 0
  · obtain ⟨⟨b, u⟩, hp, hk⟩ := wanted (a := a) (G := G) (by omega)
    exact .inr ⟨b, u, (mget_mem h.nod).2 hp, hk⟩
  · exact .inl (List.count_pos_iff.1 (by omega))
theorem Inv.above (h : Inv s G P) {a : Int} {o : Ob} (ho : mget a G = some o) (hnp : ∀ b, o ≠ .part b) : a ∈ P ∨ ∃ b l ks sm, mget b G = some (.node l ks sm) ∧ a ∈ ks ∧ isKid G l a ∧ l < 3 := by
  rcases h.wants ho with h1 | ⟨b, u, hb, hk⟩
  · exact .inl h1
  · have hok := h.typ b u hb
    cases u with
    | part b => cases hk
    | ext d ats =>
      rcases ats_parts hok a hk with rfl | ⟨b', hb'⟩
      · exact (h.ne0 ho rfl).elim
      · rw [ho] at hb'; cases hb'; exact (hnp b' rfl).elim
    | node l ks sm => exact .inr ⟨b, l, ks, sm, hb, hk, hok.2.2.2.1 a hk, hok.1⟩
theorem mem_getD {l : List Int} {x : Int} (h : x ∈ l) : ∃ k, k < l.length ∧ l.getD k 0 = x := by
  obtain ⟨k, hk, rfl⟩ := List.getElem_of_mem h
  exact ⟨k, hk, by rw [List.getD_eq_getElem?_getD, List.getElem?_eq_getElem hk]; rfl⟩
theorem Inv.reach (h : Inv s G P) (hP : ∀ r ∈ P, isKid G 3 r) {a : Int} {d : B} {ats : List Int} (ho : mget a G = some (.ext d ats)) : ∃ r ∈ P, ∃ j, j < 512 ∧ leafAt G 2 r j = a := by
  have notP : ∀ {b : Int} {u : Ob}, mget b G = some u → (∀ ks sm, u ≠ .node 2 ks sm) → b ∉ P := fun hb hn hm => by
    rcases hP _ hm with h0 | ⟨ks, sm, e⟩
    · exact h.ne0 hb h0
    · rw [hb] at e; cases e; exact hn _ _ rfl
  rcases h.above ho (fun _ e => by cases e) with h1 | ⟨b0, l0, ks0, sm0, hb0, hm0, hk0, _⟩
  · exact (notP ho (fun _ _ e => by cases e) h1).elim
  have hl0 : l0 = 0 := by
    cases l0 with
    | zero => rfl
    | succ l =>
      rcases hk0 with h0 | ⟨_, _, e⟩
      · exact (h.ne0 ho h0).elim
      · rw [ho] at e; cases e
  subst hl0
  rcases h.above hb0 (fun _ e => by cases e) with h1 | ⟨b1, l1, ks1, sm1, hb1, hm1, hk1, _⟩
  · exact (notP hb0 (fun _ _ e => by cases e) h1).elim
  have hl1 : l1 = 1 := by
    cases l1 with
    | zero =>
      rcases hk1 with h0 | ⟨_, _, e⟩
      · exact (h.ne0 hb0 h0).elim
      · rw [hb0] at e; cases e
    | succ l =>
      rcases hk1 with h0 | ⟨_, _, e⟩
      · exact (h.ne0 hb0 h0).elim
      · rw [hb0] at e; cases e; rfl
  subst hl1
  rcases h.above hb1 (fun _ e => by cases e) with h1 | ⟨b2, l2, ks2, sm2, hb2, hm2, hk2, _⟩
  · exact (notP hb1 (fun _ _ e => by cases e) h1).elim
  have hl2 : l2 = 2 := by
    cases l2 with
    | zero =>
      rcases hk2 with h0 | ⟨_, _, e⟩
      · exact (h.ne0 hb1 h0).elim
      · rw [hb1] at e; cases e
    | succ l =>
      rcases hk2 with h0 | ⟨_, _, e⟩
      · exact (h.ne0 hb1 h0).elim
      · rw [hb1] at e; cases e; rfl
  subst hl2
  rcases h.above hb2 (fun _ e => by cases e) with h1 | ⟨b3, l3, ks3, sm3, hb3, hm3, hk3, hl3⟩
  · obtain ⟨k0, hk0, e0⟩ := mem_getD hm0
    obtain ⟨k1, hk1, e1⟩ := mem_getD hm1
    obtain ⟨k2, hk2, e2⟩ := mem_getD hm2
    have t0 := (h.typ _ _ hb0).2.1
    have t1 := (h.typ _ _ hb1).2.1
    have t2 := (h.typ _ _ hb2).2.1
    refine ⟨b2, h1, k2 * 64 + k1 * 8 + k0, by omega, ?_⟩
    have s2 : slot 2 (k2 * 64 + k1 * 8 + k0) = (k2, k1 * 8 + k0) := by simp only [slot, Nat.reducePow, Prod.mk.injEq]; omega
    have s1 : slot 1 (k1 * 8 + k0) = (k1, k0) := by simp only [slot, Nat.reducePow, Prod.mk.injEq]; omega
    have s0 : slot 0 k0 = (k0, 0) := by simp only [slot, Nat.reducePow, Prod.mk.injEq]; omega
    have q : ∀ {b : Int} {l : Nat} {ks : List Int} {sm : B}, mget b G = some (.node l ks sm) → kidsAt G b = ks := fun hb => by unfold kidsAt; rw [hb]
    simp only [leafAt, s2, s1, s0, q hb2, q hb1, q hb0, e2, e1, e0]
  · have : l3 = 3 := by
      cases l3 with
      | zero =>
        rcases hk3 with h0 | ⟨_, _, e⟩
        · exact (h.ne0 hb2 h0).elim
        · rw [hb2] at e; cases e
      | succ l =>
        rcases hk3 with h0 | ⟨_, _, e⟩
        · exact (h.ne0 hb2 h0).elim
        · rw [hb2] at e; cases e; rfl
    omega
def ClashM (Ms : List (Nat → B)) (bits : Nat) (data : B) : Prop := ∃ m ∈ Ms, ∃ j, j < 512 ∧ allZero (m j) = false ∧ m j ≠ data ∧ key bits (Sha.sum (m j)) = key bits (Sha.sum data)
theorem Inv.clash (h : Inv s G P) (hP : ∀ r ∈ P, isKid G 3 r) (bits : Nat) (data : B) : Clash G bits data ↔ ClashM (P.map (mapAt G)) bits data := by
  constructor
  · rintro ⟨a, d, ats, ho, hne, hk⟩
    obtain ⟨r, hr, j, hj, e⟩ := h.reach hP ho
    have hm : mapAt G r j = d := by unfold mapAt leafOf; rw [if_pos hj, e, ho]
    exact ⟨mapAt G r, List.mem_map.2 ⟨r, hr, rfl⟩, j, hj, by rw [hm]; exact (h.typ _ _ ho).2.1, by rw [hm]; exact hne, by rw [hm]; exact hk⟩
  · rintro ⟨m, hm, j, hj, hz, hne, hk⟩
    obtain ⟨r, hr, rfl⟩ := List.mem_map.1 hm
    rcases h.leafKid 2 (hP r hr) j with h0 | ⟨d, ats, ho⟩
    · unfold mapAt leafOf at hz
      rw [h0, h.zero] at hz
      simp [allZero_zeros] at hz
    · have hm : mapAt G r j = d := by unfold mapAt leafOf; rw [if_pos hj, ho]
      rw [hm] at hne hk
      exact ⟨_, d, ats, ho, hne, hk⟩
end
end Go.Sb
end
section
namespace Go.Sb
def mixB (was data : B) (f n : Nat) : B := was.take f ++ data.take n ++ was.drop (f + n)
def patchF : Nat → (Nat → B) → Nat → B → (Nat → B)
  | 0, m, _, _ => m
  | k + 1, m, at_, data => if data = [] then m else
    patchF k (upd m (at_ / 4) (mixB (m (at_ / 4)) data (at_ % 4 * 64) (min data.length (256 - at_ % 4 * 64)))) (at_ + min data.length (256 - at_ % 4 * 64) / 64) (data.drop (min data.length (256 - at_ % 4 * 64)))
def patchNo (bits : Nat) (Os : List (Nat → B)) : Nat → (Nat → B) → Nat → B → Prop
  | 0, _, _, _ => False
  | k + 1, m, at_, data => data ≠ [] ∧
    ((allZero (mixB (m (at_ / 4)) data (at_ % 4 * 64) (min data.length (256 - at_ % 4 * 64))) = false ∧ ClashM (m :: Os) bits (mixB (m (at_ / 4)) data (at_ % 4 * 64) (min data.length (256 - at_ % 4 * 64)))) ∨
     patchNo bits Os k (upd m (at_ / 4) (mixB (m (at_ / 4)) data (at_ % 4 * 64) (min data.length (256 - at_ % 4 * 64)))) (at_ + min data.length (256 - at_ % 4 * 64) / 64) (data.drop (min data.length (256 - at_ % 4 * 64))))
section
variable {s : St} {G : Gh} {P : List Int}
theorem Inv.cget {x : Ent} {i : Nat} (h : Inv s G P) (hroot : isKid G 3 x.root) (hi : i < 512) : cget x i s = (.ok (mapAt G x.root i), s) := by
  unfold Go.Sb.cget
  rw [andThen_ok (h.rget 2 hroot i), h.leaf (h.leafKid 2 hroot i)]
  unfold mapAt; rw [if_pos hi]
theorem mixB_len {was data : B} {f n : Nat} (hw : was.length = 256) (hn : n ≤ data.length) (hf : f + n ≤ 256) : (mixB was data f n).length = 256 := by
  unfold mixB; simp; omega
theorem Inv.patch (patchC : Nat) (hC : 16 + setC 2 = patchC) : ∀ (n : Nat) (m : Nat) {s : St} {G : Gh} {P : List Int} {x : Ent} {at_ : Nat} {data : B}, Inv s G (x.root :: P) → Idx s G → isKid G 3 x.root → (∀ p ∈ P, isKid G 3 p) → data.length ≤ 64 * m → data.length % 64 = 0 → at_ * 64 + data.length ≤ 131072 → Roomy (m * patchC) s → P.length ≤ 1000 →
    (∃ r s' G', patch n x at_ data s = (.ok { x with root := r }, s') ∧ Inv s' G' (r :: P) ∧ Stp (m * patchC) (m * 8) s G s' G' ∧ isKid G' 3 r ∧ (∀ p ∈ P, isKid G' 3 p ∧ mapAt G' p = mapAt G p) ∧
      mapAt G' r = patchF n (mapAt G x.root) at_ data ∧ ¬ patchNo s.bits (P.map (mapAt G)) n (mapAt G x.root) at_ data) ∨
    Fl (m * 8) (patchNo s.bits (P.map (mapAt G)) n (mapAt G x.root) at_ data) (patch n x at_ data) s
  | 0, m, s, G, P, x, at_, data, h, hi, hroot, hP, _, _, _, _, _ =>
    .inl ⟨x.root, s, G, rfl, h, (Stp.refl h hi).mono (by omega) (by omega), hroot, fun p hp => ⟨hP p hp, rfl⟩, rfl, id⟩
  | n + 1, m, s, G, P, x, at_, data, h, hi, hroot, hP, hm, h64, hat, hr, hPl => by
    by_cases h0 : data = []
    · refine .inl ⟨x.root, s, G, ?_, h, (Stp.refl h hi).mono (by omega) (by omega), hroot, fun p hp => ⟨hP p hp, rfl⟩, ?_, fun hh => hh.1 h0⟩
      · unfold Go.Sb.patch; rw [if_pos h0]; rfl
      · unfold patchF; rw [if_pos h0]
    · have hl : data.length ≠ 0 := fun e => h0 (List.eq_nil_of_length_eq_zero e)
      obtain ⟨m, rfl⟩ : ∃ m', m = m' + 1 := ⟨m - 1, by omega⟩
      have hr' : Roomy (patchC + m * patchC) s := hr.le (by rw [Nat.succ_mul]; omega)
      have hi512 : at_ / 4 < 512 := by omega
      have e1 := h.cget hroot hi512
      have hwl := h.map_len hroot (at_ / 4)
      have hnow : (mixB (mapAt G x.root (at_ / 4)) data (at_ % 4 * 64) (min data.length (256 - at_ % 4 * 64))).length = 256 := mixB_len hwl (by omega) (by omega)
      have hPall : ∀ r ∈ x.root :: P, isKid G 3 r := fun r hr => by
        rcases List.mem_cons.1 hr with rfl | h1
        · exact hroot
        · exact hP r h1
      have hcl := h.clash hPall s.bits (mixB (mapAt G x.root (at_ / 4)) data (at_ % 4 * 64) (min data.length (256 - at_ % 4 * 64)))
      rcases h.cset (x := x) (i := at_ / 4) hi hroot hi512 hnow (hr'.le (by omega)) (by omega) with ⟨r1, s1, G1, e2, i1, t1, k1, q1, c1⟩ | hf
      · have hP1 : ∀ p ∈ P, isKid G1 3 p ∧ mapAt G1 p = mapAt G p := fun p hp => by
          have hl : p = 0 ∨ (mget p G1).isSome = true := if h0 : p = 0 then .inl h0 else .inr (i1.pend (List.mem_cons_of_mem _ hp) h0)
          exact ⟨h.kidSame t1.old (hP p hp) hl, h.mapKeep i1 t1.old (hP p hp) hl⟩
        have hmap : P.map (mapAt G1) = P.map (mapAt G) := List.map_congr_left fun p hp => (hP1 p hp).2
        have hmlen : (data.drop (min data.length (256 - at_ % 4 * 64))).length ≤ 64 * m := by simp; omega
        have hmod : (data.drop (min data.length (256 - at_ % 4 * 64))).length % 64 = 0 := by simp; omega
        have hat' : (at_ + min data.length (256 - at_ % 4 * 64) / 64) * 64 + (data.drop (min data.length (256 - at_ % 4 * 64))).length ≤ 131072 := by simp; omega
        have hrec := Inv.patch patchC hC n m (x := { x with root := r1 }) (at_ := at_ + min data.length (256 - at_ % 4 * 64) / 64) (data := data.drop (min data.length (256 - at_ % 4 * 64))) i1 t1.idx k1 (fun p hp => (hP1 p hp).1) hmlen hmod hat' (hr'.go (t1.rel.mono (by omega) (Nat.le_refl _))) hPl
        rw [hmap, show s1.bits = s.bits from t1.rel.bits] at hrec
        simp only [q1] at hrec
        have ep : Go.Sb.patch (n + 1) x at_ data s = Go.Sb.patch n { x with root := r1 } (at_ + min data.length (256 - at_ % 4 * 64) / 64) (data.drop (min data.length (256 - at_ % 4 * 64))) s1 := by
          conv => lhs; unfold Go.Sb.patch
          rw [if_neg h0]
          rw [andThen_ok e1]
          exact andThen_ok e2
        rcases hrec with ⟨r2, s2, G2, e3, i2, t2, k2, p2, q2, n2⟩ | hf
        · refine .inl ⟨r2, s2, G2, by rw [ep, e3], i2, (t1.trans t2).mono (by rw [Nat.succ_mul]; omega) (by rw [Nat.succ_mul]; omega), k2, fun p hp => ⟨(p2 p hp).1, (p2 p hp).2.trans (hP1 p hp).2⟩, ?_, ?_⟩
          · rw [q2]; conv => rhs; unfold patchF
            rw [if_neg h0]
          · rintro ⟨_, ⟨hz, hc⟩ | hn⟩
            · exact c1 hz (hcl.2 hc)
            · exact n2 hn
        · obtain ⟨e, s', h1, h2⟩ := hf
          refine .inr ⟨e, s', by rw [ep, h1], h2.imp (fun ⟨a, b⟩ => ⟨a, ?_⟩) (fun ⟨a, b⟩ => ⟨a, h0, .inr b⟩)⟩
          have := t1.rel.room; have := t1.keep; rw [Nat.succ_mul]; omega
      · obtain ⟨e, s', h1, h2⟩ := hf
        refine .inr ⟨e, s', ?_, h2.imp (fun ⟨a, b⟩ => ⟨a, by rw [Nat.succ_mul]; omega⟩) (fun ⟨a, hz, hc⟩ => ⟨a, h0, .inl ⟨hz, hcl.1 hc⟩⟩)⟩
        conv => lhs; unfold Go.Sb.patch
        rw [if_neg h0]
        rw [andThen_ok e1]
        exact andThen_err h1
def readF (m : Nat → B) : Nat → Nat → Nat → B
  | 0, _, _ => []
  | k + 1, at_, n => if n = 0 then [] else ((m (at_ / 4)).drop (at_ % 4 * 64)).take (min n (4 - at_ % 4) * 64) ++ readF m k (at_ + min n (4 - at_ % 4)) (n - min n (4 - at_ % 4))
theorem Inv.creads {x : Ent} (h : Inv s G P) (hroot : isKid G 3 x.root) : ∀ (k at_ n : Nat), at_ + n ≤ 2048 → creads k x at_ n s = (.ok (readF (mapAt G x.root) k at_ n), s)
  | 0, _, _, _ => rfl
  | k + 1, at_, n, hn => by
    unfold Go.Sb.creads readF
    by_cases h0 : n = 0
    · rw [if_pos h0, if_pos h0]; rfl
    · rw [if_neg h0, if_neg h0]
      rw [andThen_ok (h.cget hroot (by omega)), andThen_ok (h.creads hroot k _ _ (by omega))]; rfl
theorem Eqv.symm {s t : St} (h : Eqv s t) : Eqv t s := ⟨h.fr.symm, h.g.symm, h.gone.symm, h.keep.symm, h.depth.symm, h.bits.symm, h.next.symm, h.epoch.symm, fun x => (h.refs x).symm, fun x => (h.young x).symm, fun x => (h.index x).symm, fun x => (h.vols x).symm⟩
theorem Inv.eqv (h : Inv s G P) {t : St} (q : Eqv t s) (hm : MOK t) (hrun : t.d.armed = false ∧ t.d.dead = false) (hlen : t.d.l.length = s.d.l.length) (hd : ∀ a : Nat, isFree s a ∨ cellAt t.d a = cellAt s.d a) : Inv t G P := by
  refine ⟨⟨hm, by rw [q.keep]; exact h.u.keep, fun a ha => ?_, hrun, by rw [hlen, q.fr, q.g]; exact h.u.size, by rw [q.gone, q.fr, q.g]; exact h.u.late⟩, h.nod, by rw [q.fr]; exact h.lo, by rw [q.fr, q.g]; exact h.hi, fun a ha => ?_, h.live, h.zero, fun a => ?_, fun a o ho => ?_, h.typ, by rw [q.g]; exact h.cnt⟩
  · rw [q.fr, q.g]; exact h.u.held a (by rw [← q.refs a]; exact ha)
  · rw [q.refs a]; exact h.refs a ha
  · rw [q.fr, q.g]; exact h.held a
  · rw [← h.disk a o ho]
    rcases hd a.toNat with h1 | h1
    · have hr := h.range ho
      rw [show ((a.toNat : Nat) : Int) = a by omega] at h1
      rw [h.free_none h1] at ho; cases ho
    · exact h1
theorem Idx.eqv (h : Idx s G) {t : St} (q : Eqv t s) : Idx t G := fun k a => by rw [q.index k, q.bits]; exact h k a
theorem Inv.undone (h : Inv s G P) (hi : Idx s G) (hlog : s.log = []) {t : St} {c k : Nat} (r : Rel c k s t) : Inv (undoTo s.log.length t) G P ∧ Idx (undoTo s.log.length t) G ∧ Eqv (undoTo s.log.length t) s ∧ (undoTo s.log.length t).log = [] := by
  obtain ⟨l, e, n, q⟩ := r.log
  rw [hlog, List.nil_append] at e
  have e1 : undoTo s.log.length t = { undoL t l with log := [] } := by
    unfold undoTo; rw [hlog, e]; rfl
  rw [e1]
  have q' : Eqv { undoL t l with log := [] } s := ⟨q.fr, q.g, q.gone, q.keep, q.depth, q.bits, q.next, q.epoch, q.refs, q.young, q.index, q.vols⟩
  have hd := (undoL_d t l).1
  have hm := undoL_mok r.ok.m l
  refine ⟨h.eqv q' ⟨hm.refs, hm.young, hm.index, hm.vols⟩ ?_ ?_ ?_, hi.eqv q', q', rfl⟩
  · show (undoL t l).d.armed = false ∧ (undoL t l).d.dead = false
    rw [hd]; exact r.ok.run
  · show (undoL t l).d.l.length = _
    rw [hd, r.ok.size, h.u.size, r.fr, r.glen]
  · intro a
    show isFree s a ∨ cellAt (undoL t l).d a = _
    rw [hd]; exact r.disk a
end
end Go.Sb
end
section
namespace Go.Sb
theorem free_fold (fr : Nat) : ∀ (l : List Int) (g : List Nat), l.Nodup → (∀ a ∈ l, isB fr g a 2 = true) →
    (l.foldl (fun g a => mvL fr (mvL fr g a 2 1) a 1 0) g).length = g.length ∧ (∀ x, isB fr (l.foldl (fun g a => mvL fr (mvL fr g a 2 1) a 1 0) g) x 1 = isB fr g x 1) ∧
    (l.foldl (fun g a => mvL fr (mvL fr g a 2 1) a 1 0) g).count 1 = g.count 1 ∧ g.count 0 ≤ (l.foldl (fun g a => mvL fr (mvL fr g a 2 1) a 1 0) g).count 0
  | [], g, _, _ => ⟨rfl, fun _ => rfl, rfl, Nat.le_refl _⟩
  | a :: l, g, hn, h2 => by
    rw [List.nodup_cons] at hn
    have ha := h2 a (List.mem_cons_self ..)
    have hb1 : ∀ b x, isB fr (mvL fr g a 2 1) b x = if b = a then decide (1 = x) else isB fr g b x := fun b x => isB_mvL ha
    have ha1 : isB fr (mvL fr g a 2 1) a 1 = true := by rw [hb1, if_pos rfl]; rfl
    have hb2 : ∀ b x, isB fr (mvL fr (mvL fr g a 2 1) a 1 0) b x = if b = a then decide (0 = x) else isB fr (mvL fr g a 2 1) b x := fun b x => isB_mvL ha1
    have hc1 := fun x => count_mvL (x := x) (w := 1) ha
    have hc2 := fun x => count_mvL (x := x) (w := 0) ha1
    obtain ⟨i1, i2, i3, i4⟩ := free_fold fr l (mvL fr (mvL fr g a 2 1) a 1 0) hn.2 (fun b hb => by
      have hne : b ≠ a := fun e => hn.1 (e ▸ hb)
      rw [hb2, if_neg hne, hb1, if_neg hne]; exact h2 b (List.mem_cons_of_mem _ hb))
    rw [List.foldl_cons]
    refine ⟨by rw [i1, mvL_length, mvL_length], fun x => ?_, ?_, ?_⟩
    · rw [i2, hb2]
      split
      · rename_i e
        subst e
        cases hx : isB fr g x 1 with
        | false => rfl
        | true => exact absurd (isB_one hx ha) (by decide)
      · rename_i e; rw [hb1, if_neg e]
    · rw [i3]; have := hc1 1; have := hc2 1; simp at *; omega
    · have := hc1 0; have := hc2 0; simp at *; omega
def fin (t : St) : St := freeGone { t with depth := 0, log := [] }
section
variable {s t : St} {G : Gh} {P : List Int}
theorem Inv.other (h : Inv s G P) (hfr : t.fr = s.fr) (hg : t.g = s.g) (hr : t.refs = s.refs) (hd : t.d = s.d) (hgo : t.gone = s.gone) (hm : MOK t) (hk : 0 ≤ t.keep) : Inv t G P := by
  refine ⟨⟨hm, hk, fun a ha => ?_, by rw [hd]; exact h.u.run, by rw [hd, hfr, hg]; exact h.u.size, by rw [hgo, hfr, hg]; exact h.u.late⟩, h.nod, by rw [hfr]; exact h.lo, by rw [hfr, hg]; exact h.hi, fun a ha => by rw [hr]; exact h.refs a ha, h.live, h.zero, fun a => by rw [hfr, hg]; exact h.held a,
    fun a o ho => by rw [hd]; exact h.disk a o ho, h.typ, by rw [hg]; exact h.cnt⟩
  rw [hfr, hg]; exact h.u.held a (by rw [← hr]; exact ha)
theorem Inv.fin (h : Inv t G P) : Inv (fin t) G P := by
  obtain ⟨f1, f2, f3, f4⟩ := free_fold t.fr t.gone t.g h.u.late.1 h.u.late.2
  refine ⟨⟨⟨h.u.m.refs, h.u.m.young, h.u.m.index, h.u.m.vols⟩, h.u.keep, fun a ha => ?_, h.u.run, ?_, ⟨List.nodup_nil, by intro a ha; cases ha⟩⟩, h.nod, h.lo, ?_, h.refs, h.live, h.zero, fun a => ?_, h.disk, h.typ, ?_⟩
  · exact (f2 a).trans (h.u.held a ha)
  · show t.d.l.length = t.fr + _; rw [h.u.size]; exact congrArg _ f1.symm
  · show t.fr + _ ≤ 65535; have := h.hi; exact (congrArg (t.fr + ·) f1) ▸ this
  · refine Iff.trans ?_ (h.held a); rw [← f2 a]; rfl
  · exact h.cnt.trans f3.symm
theorem fin_free (h : Inv t G P) : freeN t ≤ freeN (fin t) := (free_fold t.fr t.gone t.g h.u.late.1 h.u.late.2).2.2.2
theorem fin_id (h1 : s.depth = 0) (h2 : s.log = []) (h3 : s.gone = []) : fin { s with depth := 1 } = s := by
  obtain ⟨d, fr, g, refs, young, gone, keep, log, depth, bits, index, vols, next, epoch⟩ := s
  simp only at h1 h2 h3
  subst h1 h2 h3
  rfl
def rootsOf (s : St) : List Int := s.vols.map (·.2.root)
structure CI (s : St) (G : Gh) : Prop where
  inv : Inv s G (rootsOf s)
  idx : Idx s G
  kid : ∀ p ∈ s.vols, isKid G 3 p.2.root
  ids : ∀ p ∈ s.vols, p.2.id = p.1 ∧ 1 ≤ p.2.size ∧ p.2.size ≤ 2048
  dep : s.depth = 0
  log : s.log = []
  gone : s.gone = []
  few : s.vols.length ≤ 16
theorem CI.fin {t : St} (h : Inv t G (rootsOf t)) (hi : Idx t G) (hk : ∀ p ∈ t.vols, isKid G 3 p.2.root) (hids : ∀ p ∈ t.vols, p.2.id = p.1 ∧ 1 ≤ p.2.size ∧ p.2.size ≤ 2048) (hf : t.vols.length ≤ 16) : CI (fin t) G :=
  ⟨h.fin, hi, hk, hids, rfl, rfl, rfl, hf⟩
def start (s : St) (more : Nat) : St := { s with depth := 1, log := [.keep s.keep], keep := (2 * (s.vols.length + more) : Nat) }
theorem CI.start (h : CI s G) (more : Nat) : Inv (start s more) G (rootsOf s) ∧ Idx (start s more) G :=
  ⟨h.inv.other rfl rfl rfl rfl rfl ⟨h.inv.u.m.refs, h.inv.u.m.young, h.inv.u.m.index, h.inv.u.m.vols⟩ (by show 0 ≤ ((2 * (s.vols.length + more) : Nat) : Int); omega), h.idx⟩
theorem CI.deep (h : CI s G) : Inv { s with depth := 1 } G (rootsOf s) := h.inv.other rfl rfl rfl rfl rfl ⟨h.inv.u.m.refs, h.inv.u.m.young, h.inv.u.m.index, h.inv.u.m.vols⟩ h.inv.u.keep
theorem CI.keepd (h : CI s G) (more : Nat) : hkeep (2 * (s.vols.length + more : Nat)) { s with depth := 1 } = (.ok (), Go.Sb.start s more) := by
  unfold hkeep setKeep andThen back
  simp only [h.log, List.length_nil]
  rw [if_neg (by omega)]
  simp only [bk, Nat.zero_lt_one, if_true, List.nil_append]
  unfold Go.Sb.start
  rw [show max (2 * ((s.vols.length + more : Nat) : Int)) 0 = ((2 * (s.vols.length + more) : Nat) : Int) by omega]
theorem CI.rel (h : CI s G) (more : Nat) : Rel 1 0 { s with depth := 1 } (Go.Sb.start s more) := by
  have := um_hkeep (2 * (s.vols.length + more : Nat)) { s with depth := 1 } Nat.zero_lt_one h.deep.u (by rw [h.keepd more]; simp)
  rw [h.keepd more] at this; exact this
theorem CI.ahead (h : CI s G) {more : Nat} (hr : more = 0 ∨ 2 * (s.vols.length + more) ≤ freeN s) : ahead more { s with depth := 1 } = (.ok (), Go.Sb.start s more) := by
  unfold Go.Sb.ahead
  rw [andThen_ok (h.keepd more)]
  rw [if_neg]
  rintro ⟨h1, h2⟩
  have h3 : freeN (Go.Sb.start s more) = freeN s := rfl
  simp only at h2
  rw [h3] at h2
  omega
theorem CI.roomC (h : CI s G) {α : Type} {m : M α} {more : Nat} (hr : more = 0 ∨ 2 * (s.vols.length + more) ≤ freeN s) : roomC more m { s with depth := 1 } = m (Go.Sb.start s more) := andThen_ok (h.ahead hr)
theorem start_roomy (h : CI s G) {c : Nat} (hc : c ≤ 1000000) (more : Nat) : Roomy c (Go.Sb.start s more) := ⟨Nat.zero_lt_one, by show 1 + c + 10 < _; omega, by show s.gone.length + c + 10 < _; rw [h.gone]; simp; omega⟩
theorem tryA_good {α : Type} {m : M α} (h : CI s G) {a : α} {c k : Nat} (e : m { s with depth := 1 } = (.ok a, t)) (r : Rel c k { s with depth := 1 } t) : tryA m s = (.ok (0, .done a), fin t) := by
  have hd : t.depth = 1 := r.depth
  have e1 : tryL (alsoC m) (s, .start) = (.ok 0, (leave t, .done a)) := by
    unfold tryL
    simp only
    rw [if_neg (by rw [h.dep]; omega)]
    rw [show ({ s with depth := s.depth + 1 } : St) = { s with depth := 1 } by rw [h.dep]]
    unfold alsoC
    simp only [e]
    rw [if_neg (by omega)]
  unfold tryA tryC tryR
  rw [andThen_ok e1]
  simp only
  have hl : leave t = { t with depth := 0, log := [] } := by unfold leave; rw [if_pos hd]
  rw [hl, if_pos rfl]; rfl
theorem tryA_bad {α : Type} {m : M α} (h : CI s G) {er : Int} {c k : Nat} (e : m { s with depth := 1 } = (.err er, t)) (her : er ≠ 0) (r : Rel c k { s with depth := 1 } t) : tryA m s = (.ok (er, .lost), fin (undoTo 0 t)) := by
  have hd : t.depth = 1 := r.depth
  have hdu : (undoTo 0 t).depth = 1 := by
    obtain ⟨l, e1, n, q⟩ := r.log
    have hl : ({ s with depth := 1 } : St).log = [] := h.log
    rw [hl, List.nil_append] at e1
    have : (undoL t l).depth = 1 := q.depth
    unfold undoTo
    rw [List.drop_zero, e1]
    exact this
  have e1 : tryL (alsoC m) (s, .start) = (.ok er, (leave (undoTo 0 t), .lost)) := by
    unfold tryL
    simp only
    rw [if_neg (by rw [h.dep]; omega)]
    rw [show ({ s with depth := s.depth + 1 } : St) = { s with depth := 1 } by rw [h.dep]]
    unfold alsoC
    simp only [e]
    rw [if_neg (by rintro (h1 | h1); (· omega); (· exact her h1)), h.log]
    rfl
  unfold tryA tryC tryR
  rw [andThen_ok e1]
  simp only
  have hl : leave (undoTo 0 t) = { undoTo 0 t with depth := 0, log := [] } := by unfold leave; rw [if_pos hdu]
  rw [hl, if_pos rfl]; rfl
theorem CI.undone (h : CI s G) {c k : Nat} (r : Rel c k { s with depth := 1 } t) : CI (Go.Sb.fin (undoTo 0 t)) G ∧ (Go.Sb.fin (undoTo 0 t)).vols.Perm s.vols ∧ meq (Go.Sb.fin (undoTo 0 t)).vols s.vols ∧ (Go.Sb.fin (undoTo 0 t)).bits = s.bits ∧ (Go.Sb.fin (undoTo 0 t)).next = s.next ∧ (Go.Sb.fin (undoTo 0 t)).epoch = s.epoch ∧ freeN s ≤ freeN (Go.Sb.fin (undoTo 0 t)) := by
  have hlog : ({ s with depth := 1 } : St).log = [] := h.log
  obtain ⟨i1, i2, q, _⟩ := h.deep.undone (show Idx { s with depth := 1 } G from h.idx) hlog r
  rw [show ({ s with depth := 1 } : St).log.length = 0 by rw [hlog]; rfl] at i1 i2 q
  have hp : (undoTo 0 t).vols.Perm s.vols := meq_perm i1.u.m.vols h.inv.u.m.vols q.vols
  have i1' : Inv (undoTo 0 t) G (rootsOf (undoTo 0 t)) := i1.perm fun x _ => ((hp.map (fun p : Int × Ent => p.2.root)).count_eq x).symm
  refine ⟨CI.fin i1' i2 (fun p hp' => h.kid p (hp.mem_iff.1 hp')) (fun p hp' => h.ids p (hp.mem_iff.1 hp')) (by rw [hp.length_eq]; exact h.few), hp, q.vols, q.bits, q.next, q.epoch, ?_⟩
  have h1 := fin_free i1
  have h2 : freeN (undoTo 0 t) = freeN s := by unfold freeN; rw [q.g]
  omega
end
end Go.Sb
end
section
namespace Go.Sb
theorem mput_new {K V : Type} [DecidableEq K] {k : K} {v : V} : ∀ {m : List (K × V)}, mget k m = none → mput k v m = m ++ [(k, v)]
  | [], _ => rfl
  | (j, u) :: m, h => by
    unfold mget at h
    split at h
    · cases h
    · rename_i e
      unfold mput
      rw [if_neg e, mput_new h]; rfl
section
variable {s t : St} {G : Gh} {P : List Int}
def added (x : Ent) (t : St) : Ent := { x with id := t.next, born := t.epoch }
def addSt (x : Ent) (t : St) : St := { t with log := bk t.depth (bk t.depth t.log (.next t.next)) (.vols t.next (mget t.next t.vols)), next := wrap32 (t.next + 1), vols := mput t.next (added x t) t.vols }
theorem cadd_eq (x : Ent) {t : St} (hl : t.log.length < 999999990) : cadd x t = (.ok t.next, addSt x t) := by
  have h2 : (bk t.depth t.log (.next t.next)).length < 1000000000 := by
    unfold bk; split
    · rw [List.length_append, List.length_singleton]; omega
    · omega
  unfold cadd setNext cput putVols andThen back
  simp only
  rw [if_neg (by omega)]
  simp only
  rw [if_neg (by omega)]
  rfl
theorem addSt_inv (h : Inv t G P) (x : Ent) : Inv (addSt x t) G P := h.other rfl rfl rfl rfl rfl ⟨h.u.m.refs, h.u.m.young, h.u.m.index, mok_mput _ _ h.u.m.vols⟩ h.u.keep
theorem addSt_rel (h : Inv t G P) (x : Ent) (hd : 0 < t.depth) (hl : t.log.length < 999999990) : Rel 2 0 t (addSt x t) := by
  have := um_cadd x t hd h.u (by rw [cadd_eq x hl]; simp)
  rw [cadd_eq x hl] at this; exact this
theorem CI.more (h : CI s G) {made : M Ent} {x : Ent} {u : St} {c k : Nat} (h16 : s.vols.length < 16) (hn : mget s.next s.vols = none) (hroom : 2 * (s.vols.length + 1) ≤ freeN s)
    (e : made (Go.Sb.start s 1) = (.ok x, u)) (hi : Inv u G (x.root :: rootsOf s)) (hx : Idx u G) (hr : Rel c k (Go.Sb.start s 1) u) (hc : c ≤ 1000000) (hv : u.vols = s.vols) (hnx : u.next = s.next) (hk : isKid G 3 x.root) (hs : 1 ≤ x.size ∧ x.size ≤ 2048) :
    ∃ s', cmoreA made s = (.ok (s.next, 0), s') ∧ CI s' G ∧ s'.vols = s.vols ++ [(s.next, { x with id := s.next, born := s.epoch })] ∧ s'.next = wrap32 (s.next + 1) ∧ s'.epoch = s.epoch ∧ s'.bits = s.bits ∧ freeN s ≤ freeN s' + k := by
  have hd : u.depth = 1 := hr.depth
  have hep : u.epoch = s.epoch := hr.epoch
  have hlog : u.log.length < 999999990 := by have := hr.len; have h1 : (Go.Sb.start s 1).log.length = 1 := rfl; omega
  have e1 : Go.Sb.roomC 1 (andThen made cadd) { s with depth := 1 } = (.ok u.next, addSt x u) := by
    rw [h.roomC (.inr hroom), andThen_ok e, cadd_eq x hlog]
  have r1 : Rel (1 + (c + 2)) (0 + (k + 0)) { s with depth := 1 } (addSt x u) := (h.rel 1).trans (hr.trans (addSt_rel hi x (by omega) hlog))
  have e2 := tryA_good h e1 r1
  have hvol : (addSt x u).vols = s.vols ++ [(s.next, { x with id := s.next, born := s.epoch })] := by
    show mput u.next (added x u) u.vols = _
    unfold added
    rw [hv, hnx, hep, mput_new hn]
  have hroots : rootsOf (addSt x u) = rootsOf s ++ [x.root] := by unfold rootsOf; rw [hvol, List.map_append]; rfl
  have i1 : Inv (addSt x u) G (rootsOf (addSt x u)) := by
    rw [hroots]
    exact (addSt_inv hi x).perm fun y _ => by rw [List.count_append, List.count_cons, List.count_singleton, Nat.add_comm]
  refine ⟨Go.Sb.fin (addSt x u), ?_, CI.fin i1 hx (fun p hp => ?_) (fun p hp => ?_) ?_, hvol, ?_, hep, hr.bits, ?_⟩
  · unfold cmoreA
    rw [if_neg (by omega), andThen_ok e2]
    simp only [carOr, if_true]
    rw [hnx]; rfl
  · rw [hvol] at hp
    rcases List.mem_append.1 hp with hp | hp
    · exact h.kid p hp
    · rw [List.mem_singleton.1 hp]; exact hk
  · rw [hvol] at hp
    rcases List.mem_append.1 hp with hp | hp
    · exact h.ids p hp
    · rw [List.mem_singleton.1 hp]; exact ⟨rfl, hs⟩
  · rw [hvol]; simp; omega
  · show wrap32 (u.next + 1) = _; rw [hnx]
  · have h1 := r1.room
    have h2 := fin_free i1
    have h3 : freeN ({ s with depth := 1 } : St) = freeN s := rfl
    omega
theorem CI.create (h : CI s G) {size : Int} (hs : 1 ≤ size ∧ size ≤ 2048) (h16 : s.vols.length < 16) (hn : mget s.next s.vols = none) (hroom : 2 * (s.vols.length + 1) ≤ freeN s) :
    ∃ s', ccreateA size s = (.ok (s.next, 0), s') ∧ CI s' G ∧ s'.vols = s.vols ++ [(s.next, { ent0 with size := size, id := s.next, born := s.epoch })] ∧ s'.next = wrap32 (s.next + 1) ∧ s'.epoch = s.epoch ∧ s'.bits = s.bits ∧ freeN s ≤ freeN s' := by
  obtain ⟨i1, x1⟩ := h.start 1
  have e : ccreateA size s = cmoreA (ret { ent0 with size := size }) s := by unfold ccreateA; rw [if_neg (by omega)]
  rw [e]
  exact h.more h16 hn hroom (made := ret { ent0 with size := size }) rfl i1.add0 x1 (Rel.refl i1.u) (by omega) rfl rfl (.inl rfl) hs
theorem CI.copy (h : CI s G) {id : Int} {only : Bool} {x : Ent} (hx : mget id s.vols = some x) (h16 : s.vols.length < 16) (hn : mget s.next s.vols = none) (hroom : 2 * (s.vols.length + 1) ≤ freeN s) :
    ∃ s', ccopyA id only s = (.ok (s.next, 0), s') ∧ CI s' G ∧ s'.vols = s.vols ++ [(s.next, { ent0 with parent := id, only := only, size := x.size, root := x.root, id := s.next, born := s.epoch })] ∧ s'.next = wrap32 (s.next + 1) ∧ s'.epoch = s.epoch ∧ s'.bits = s.bits ∧ freeN s ≤ freeN s' := by
  obtain ⟨i1, x1⟩ := h.start 1
  have hmem : (id, x) ∈ s.vols := (mget_mem h.inv.u.m.vols).1 hx
  have hk := h.kid _ hmem
  have hids := h.ids _ hmem
  have e : ccopyA id only s = cmoreA (copyM id only) s := by unfold ccopyA; rw [hx]
  rw [e]
  have hf : find id (Go.Sb.start s 1) = (.ok x, Go.Sb.start s 1) := by unfold find; rw [show mget id (Go.Sb.start s 1).vols = some x from hx]
  by_cases h0 : x.root = 0
  · refine h.more (u := Go.Sb.start s 1) (c := 0) (k := 0) h16 hn hroom (x := { ent0 with parent := id, only := only, size := x.size, root := x.root }) ?_ ?_ x1 (Rel.refl i1.u) (by omega) rfl rfl hk hids.2
    · unfold copyM
      rw [andThen_ok hf]
      unfold rmore
      rw [if_pos h0]
      rfl
    · rw [h0]; exact i1.add0
  · rcases hk with hk | ⟨ks, sm, ho⟩
    · exact (h0 hk).elim
    · obtain ⟨u, e1, i2, r2, q1, q2, q3, q4⟩ := i1.more ho Nat.zero_lt_one (by show 1 < 1000000000; omega) (by unfold rootsOf; rw [List.length_map]; have := h.few; omega)
      have hb2 : u.bits = s.bits := r2.bits
      refine h.more (u := u) (c := 1) (k := 0) h16 hn hroom (x := { ent0 with parent := id, only := only, size := x.size, root := x.root }) ?_ i2 (fun k a => by rw [q1, hb2]; exact h.idx k a) r2 (by omega) q3 q4 (.inr ⟨ks, sm, ho⟩) hids.2
      unfold copyM
      rw [andThen_ok hf]
      have e2 : rmore x.root 3 (Go.Sb.start s 1) = (.ok (), u) := by unfold rmore; rw [if_neg h0, if_neg (by decide)]; exact e1
      rw [andThen_ok e2]; rfl
end
end Go.Sb
end
