/- Part of the proof; no statement of its own: M17, Sha2, Sha3, Sha4, M18. -/
import Derived.Test.YthlclfdnhnnebaaGreatDoorB35
import Derived.Test.YthlclfdnhnnebaaGreatDoorB10
import Derived.KernelRfl
import Derived.Test.YthlclfdnhnnebaaGreatDoorB21
set_option linter.all false
section
namespace Go.Sb
section
variable {K V : Type} [DecidableEq K]
theorem mdel_perm {k : K} {v : V} : ∀ {m : List (K × V)}, mget k m = some v → m.Perm ((k, v) :: mdel k m)
  | [], h => by cases h
  | (j, u) :: m, h => by
    unfold mget at h
    unfold mdel
    split at h
    · rename_i e; subst e; cases h; rw [if_pos rfl]
    · rename_i e; rw [if_neg e]; exact (List.Perm.cons _ (mdel_perm h)).trans (List.Perm.swap _ _ _)
theorem mput_perm {k : K} {v w : V} : ∀ {m : List (K × V)}, mget k m = some v → (mput k w m).Perm ((k, w) :: mdel k m)
  | [], h => by cases h
  | (j, u) :: m, h => by
    unfold mget at h
    unfold mdel mput
    split at h
    · rename_i e; rw [if_pos e, if_pos e]
    · rename_i e; rw [if_neg e, if_neg e]; exact (List.Perm.cons _ (mput_perm h)).trans (List.Perm.swap _ _ _)
theorem mdel_sub' {k : K} {p : K × V} : ∀ {m : List (K × V)}, p ∈ mdel k m → p ∈ m
  | [], h => h
  | (j, u) :: m, h => by
    unfold mdel at h
    split at h
    · exact List.mem_cons_of_mem _ h
    · rcases List.mem_cons.1 h with h | h
      · rw [h]; exact List.mem_cons_self ..
      · exact List.mem_cons_of_mem _ (mdel_sub' h)
end
def patchC : Nat := 16 + setC 2
theorem patchC_le : patchC ≤ 12666 := by decide
section
variable {s t : St} {G : Gh} {P : List Int}
def otherMaps (s : St) (G : Gh) (id : Int) : List (Nat → B) := (mdel id s.vols).map fun p => mapAt G p.2.root
def putSt (id : Int) (y : Ent) (t : St) : St := { t with log := bk t.depth t.log (.vols id (mget id t.vols)), vols := mput id y t.vols }
theorem cput_eq {y : Ent} {t : St} (hl : t.log.length < 1000000000) : cput y t = (.ok (), putSt y.id y t) := by
  unfold cput putVols andThen back
  simp only
  rw [if_neg (by omega)]
  rfl
theorem withinB_yes {x : Ent} {a n : Nat} (h : a + n ≤ x.size) (hs : x.size ≤ 2048) (s : St) : withinB x a n s = (.ok (), s) := by
  unfold withinB within
  rw [if_neg (by omega), if_neg (by omega)]; rfl
theorem CI.write (h : CI s G) {id : Int} {x : Ent} {at_ m : Nat} {data : B} (hx : mget id s.vols = some x) (ho : x.only = false) (hm : data.length = 64 * m) (hat : at_ + m ≤ x.size) (hroom : 2 * s.vols.length + m * 8 ≤ freeN s)
    (hmax : m ≤ 70) (hno : ¬ patchNo s.bits (otherMaps s G id) data.length (mapAt G x.root) at_ data) :
    ∃ s' G' r, cwriteA id at_ data s = (.ok 0, s') ∧ CI s' G' ∧ s'.vols = mput id { x with root := r } s.vols ∧ mapAt G' r = patchF data.length (mapAt G x.root) at_ data ∧ (∀ p ∈ mdel id s.vols, mapAt G' p.2.root = mapAt G p.2.root) ∧
      s'.next = s.next ∧ s'.epoch = s.epoch ∧ s'.bits = s.bits ∧ freeN s ≤ freeN s' + m * 8 := by
  obtain ⟨i1, x1⟩ := h.start 0
  have hmem : (id, x) ∈ s.vols := (mget_mem h.inv.u.m.vols).1 hx
  have hids : x.id = id ∧ 1 ≤ x.size ∧ x.size ≤ 2048 := h.ids _ hmem
  have hp := mdel_perm hx
  have hC := patchC_le
  have hlen : (mdel id s.vols).length ≤ 16 := by have h1 := hp.length_eq; simp only [List.length_cons] at h1; have := h.few; omega
  have hroots : Inv (Go.Sb.start s 0) G (x.root :: (mdel id s.vols).map (·.2.root)) := i1.perm fun y _ => ((hp.map (fun p : Int × Ent => p.2.root)).count_eq y)
  have hfind : copen id (Go.Sb.start s 0) = (.ok x, Go.Sb.start s 0) := by
    unfold copen
    rw [andThen_ok (show find id (Go.Sb.start s 0) = (.ok x, Go.Sb.start s 0) by unfold find; rw [show mget id (Go.Sb.start s 0).vols = some x from hx])]
    rw [if_neg (by simp [ho])]; rfl
  have hmaps : ((mdel id s.vols).map (·.2.root)).map (mapAt G) = otherMaps s G id := by rw [List.map_map]; rfl
  have hpat := Inv.patch patchC rfl data.length m (x := x) (at_ := at_) (data := data) hroots x1 (h.kid _ hmem) (fun p hp' => by obtain ⟨q, hq, rfl⟩ := List.mem_map.1 hp'; exact h.kid _ (mdel_sub' hq)) (by omega) (by omega) (by omega)
    (start_roomy h (by have := Nat.mul_le_mul hmax hC; omega) 0) (by rw [List.length_map]; omega)
  rw [hmaps] at hpat
  have e0 : Go.Sb.roomC 0 (writeM id at_ data) { s with depth := 1 } = andThen (patchD x at_ data) cput (Go.Sb.start s 0) := by
    rw [h.roomC (.inl rfl)]
    unfold writeM
    rw [andThen_ok hfind, if_neg (by omega), show ((data.length / 64 : Nat) : Int) = (m : Nat) by omega, andThen_ok (withinB_yes (by omega) (by omega) _), Int.toNat_natCast]
  rcases hpat with ⟨r, u, G', e1, i2, t2, k2, k3, m2, _⟩ | ⟨e, u, e1, he⟩
  · obtain ⟨y, hy⟩ : ∃ y : Ent, y = { x with root := r } := ⟨_, rfl⟩
    have hyid : y.id = id := by rw [hy]; exact hids.1
    have hyr : y.root = r := by rw [hy]
    have hys : 1 ≤ y.size ∧ y.size ≤ 2048 := by rw [hy]; exact hids.2
    rw [← hy] at e1
    have hd : u.depth = 1 := t2.rel.depth
    have hlog : u.log.length < 1000000000 := by have := t2.rel.len; have h1 : (Go.Sb.start s 0).log.length = 1 := rfl; have := Nat.mul_le_mul hmax hC; omega
    have hu : u.vols = s.vols := t2.vols
    have e2 : Go.Sb.roomC 0 (writeM id at_ data) { s with depth := 1 } = (.ok (), putSt id y u) := by
      rw [e0, andThen_ok (show patchD x at_ data (Go.Sb.start s 0) = _ from e1), cput_eq hlog]
      rw [hyid]
    have r2 : Rel 1 0 u (putSt id y u) := by
      have := um_cput y u (by omega) i2.u (by rw [cput_eq hlog]; simp)
      rw [cput_eq hlog, hyid] at this
      exact this
    have r3 := (h.rel 0).trans (t2.rel.trans r2)
    have e3 := tryA_good h e2 r3
    have hvol : (putSt id y u).vols = mput id y s.vols := by show mput _ _ u.vols = _; rw [hu]
    have hpp := mput_perm (w := y) hx
    have i3 : Inv (putSt id y u) G' (r :: (mdel id s.vols).map (·.2.root)) := i2.other rfl rfl rfl rfl rfl ⟨i2.u.m.refs, i2.u.m.young, i2.u.m.index, mok_mput _ _ i2.u.m.vols⟩ i2.u.keep
    have i4 : Inv (putSt id y u) G' (rootsOf (putSt id y u)) := by
      unfold rootsOf; rw [hvol]
      exact i3.perm fun z _ => by rw [(hpp.map (fun p : Int × Ent => p.2.root)).count_eq z, List.map_cons, hyr]
    have hmm : ∀ p ∈ (putSt id y u).vols, p = (id, y) ∨ p ∈ mdel id s.vols := fun p hp' => by
      rw [hvol] at hp'
      exact List.mem_cons.1 (hpp.mem_iff.1 hp')
    refine ⟨Go.Sb.fin (putSt id y u), G', r, ?_, CI.fin i4 t2.idx (fun p hp' => ?_) (fun p hp' => ?_) ?_, by rw [← hy]; exact hvol, m2, fun p hp' => ?_, ?_, r3.epoch, r3.bits, ?_⟩
    · unfold cwriteA; rw [andThen_ok e3]; rfl
    · rcases hmm p hp' with rfl | hq
      · show isKid G' 3 y.root; rw [hyr]; exact k2
      · exact (k3 _ (List.mem_map.2 ⟨p, hq, rfl⟩)).1
    · rcases hmm p hp' with rfl | hq
      · exact ⟨hyid, hys⟩
      · exact h.ids _ (mdel_sub' hq)
    · rw [hvol, hpp.length_eq]; simp only [List.length_cons]; have h1 := hp.length_eq; simp only [List.length_cons] at h1; have := h.few; omega
    · exact (k3 _ (List.mem_map.2 ⟨p, hp', rfl⟩)).2
    · exact t2.next
    · have h1 := r3.room
      have h2 := fin_free i4
      have h3 : freeN ({ s with depth := 1 } : St) = freeN s := rfl
      omega
  · rcases he with ⟨_, h8⟩ | ⟨_, h9⟩
    · exfalso
      have h3 : freeN (Go.Sb.start s 0) = freeN s := rfl
      have h4 : (Go.Sb.start s 0).keep = ((2 * (s.vols.length + 0) : Nat) : Int) := rfl
      rw [h3, h4] at h8
      omega
    · exact (hno h9).elim
theorem CI.writeErr (h : CI s G) {id at_ : Int} {data : B} {er : Int} {t : St} {c k : Nat} (e : writeM id at_ data (Go.Sb.start s 0) = (.err er, t)) (her : er ≠ 0) (r : Rel c k (Go.Sb.start s 0) t) :
    ∃ s', cwriteA id at_ data s = (.ok er, s') ∧ CI s' G ∧ s'.vols.Perm s.vols ∧ meq s'.vols s.vols ∧ s'.bits = s.bits ∧ s'.next = s.next ∧ s'.epoch = s.epoch ∧ freeN s ≤ freeN s' := by
  have e0 : Go.Sb.roomC 0 (writeM id at_ data) { s with depth := 1 } = (.err er, t) := by rw [h.roomC (.inl rfl)]; exact e
  have r3 := (h.rel 0).trans r
  obtain ⟨u1, u2, u3, u4, u5, u6, u7⟩ := h.undone r3
  refine ⟨_, ?_, u1, u2, u3, u4, u5, u6, u7⟩
  unfold cwriteA; rw [andThen_ok (tryA_bad h e0 her r3)]; rfl
theorem CI.read (h : CI s G) {id : Int} {x : Ent} {at_ n : Nat} (hx : mget id s.vols = some x) (hat : at_ + n ≤ x.size) : creadA id at_ n s = (.ok (readF (mapAt G x.root) n at_ n, 0), s) := by
  have hmem : (id, x) ∈ s.vols := (mget_mem h.inv.u.m.vols).1 hx
  have hids : x.id = id ∧ 1 ≤ x.size ∧ x.size ≤ 2048 := h.ids _ hmem
  have e0 : readM id at_ n { s with depth := 1 } = (.ok (readF (mapAt G x.root) n at_ n), { s with depth := 1 }) := by
    unfold readM
    rw [andThen_ok (show find id { s with depth := 1 } = (.ok x, { s with depth := 1 }) by unfold find; rw [show mget id ({ s with depth := 1 } : St).vols = some x from hx])]
    rw [andThen_ok (withinB_yes (by omega) (by omega) _), Int.toNat_natCast, Int.toNat_natCast]
    exact h.deep.creads (h.kid _ hmem) _ _ _ (by omega)
  unfold creadA
  rw [andThen_ok (tryA_good h e0 (Rel.refl h.deep.u)), fin_id h.dep h.log h.gone]
  rfl
theorem CI.new {n bits : Nat} (hn : n ≤ 60000) : CI (cnew (dnew (n + 2)) 2 bits 1) [] := by
  have hg : (cnew (dnew (n + 2)) 2 bits 1).g = List.replicate n 0 := by simp [cnew, dnew]
  have hc1 : (List.replicate n 0).count 1 = 0 := by rw [List.count_replicate]; simp
  have hz : ∀ a, isB 2 (List.replicate n 0) a 1 = false := fun a => by
    cases hb : isB 2 (List.replicate n 0) a 1 with
    | false => rfl
    | true =>
      have := (isB_iff.1 hb).2.2
      rw [List.getElem?_replicate] at this
      split at this <;> simp at this
  have hu : UOK (cnew (dnew (n + 2)) 2 bits 1) := ⟨⟨List.nodup_nil, List.nodup_nil, List.nodup_nil, List.nodup_nil⟩, Int.le_refl _, fun a ha => (ha rfl).elim, ⟨rfl, rfl⟩, (by rw [hg]; simp [cnew, dnew]; omega), ⟨List.nodup_nil, (by intro a ha; cases ha)⟩⟩
  refine ⟨⟨hu, List.nodup_nil, (by show 1 ≤ 2; omega), (by rw [hg]; show 2 + _ ≤ _; simp; omega), fun a _ => rfl, fun a _ => ?_, rfl, fun a => ?_, fun a o ho => (by cases ho), fun a o ho => (by cases ho), ?_⟩, fun k a => ?_, fun p hp => (by cases hp), fun p hp => (by cases hp), rfl, rfl, rfl, (by show 0 ≤ 16; omega)⟩
  · exact ⟨fun h => (h rfl).elim, fun h => (by cases h)⟩
  · rw [hg]; show isB 2 _ a 1 = true ↔ _
    rw [hz a]; exact ⟨fun h => (by cases h), fun h => (by cases h)⟩
  · rw [hg, hc1]; rfl
  · exact ⟨fun h => (by cases h), fun ⟨d, ats, h, _⟩ => (by cases h)⟩
end
end Go.Sb
end
section
namespace Go.Sb.Sha
def strictN {α : Type} (n : Nat) (k : Nat → α) : α := match n with
  | 0 => k 0
  | m + 1 => k (m + 1)
theorem strictN_eq {α : Type} (n : Nat) (k : Nat → α) : strictN n k = k n := by cases n <;> rfl
def st {α : Type} (x : W) (k : W → α) : α := strictN x.toNat fun n => k (BitVec.ofNat 32 n)
theorem st_eq {α : Type} (x : W) (k : W → α) : st x k = k x := by unfold st; rw [strictN_eq]; simp
def go : List W → W → W → W → W → W → W → W → W → List W
  | [], a, b, c, d, e, f, g, h => [a, b, c, d, e, f, g, h]
  | x :: l, a, b, c, d, e, f, g, h =>
    st (h + x + t1 e + (e &&& f ^^^ ~~~e &&& g)) fun t => st (d + t) fun e' => st (t + (t0 a + (a &&& b ^^^ a &&& c ^^^ b &&& c))) fun a' => go l a' a b c e' e f g
def wk (b : List UInt8) : List W := List.zipWith (· + ·) rounds (words b)
def rnd1 (v : List W) (x : W) : List W :=
  let e := at_ v 4; let a := at_ v 0
  let t := at_ v 7 + x + t1 e + (e &&& at_ v 5 ^^^ ~~~e &&& at_ v 6)
  let u := t0 a + (a &&& at_ v 1 ^^^ a &&& at_ v 2 ^^^ at_ v 1 &&& at_ v 2)
  [t + u, a, at_ v 1, at_ v 2, at_ v 3 + t, e, at_ v 5, at_ v 6]
theorem rnd1_eq (v : List W) (k w : W) : rnd v k w = rnd1 v (k + w) := by unfold rnd rnd1; simp only [BitVec.add_assoc]
theorem go_eq : ∀ (l : List W) (a b c d e f g h : W), go l a b c d e f g h = l.foldl rnd1 [a, b, c, d, e, f, g, h]
  | [], a, b, c, d, e, f, g, h => rfl
  | x :: l, a, b, c, d, e, f, g, h => by
    unfold go
    rw [st_eq, st_eq, st_eq, go_eq, List.foldl_cons]
    rfl
theorem rnds_eq (w v : List W) : ∀ n, n ≤ 64 → 64 ≤ w.length → rnds w v n = ((List.zipWith (· + ·) rounds w).take n).foldl rnd1 v
  | 0, _, _ => rfl
  | n + 1, h, hw => by
    have h64 : rounds.length = 64 := rfl
    have hl : n < (List.zipWith (· + ·) rounds w).length := by rw [List.length_zipWith]; omega
    rw [List.take_succ, List.getElem?_eq_getElem hl, List.foldl_append, ← rnds_eq w v n (by omega) hw]
    show rnd (rnds w v n) (at_ rounds n) (at_ w n) = rnd1 _ _
    rw [rnd1_eq]
    congr 1
    unfold at_
    rw [List.getElem_zipWith, List.getD_eq_getElem?_getD, List.getD_eq_getElem?_getD, List.getElem?_eq_getElem (by omega), List.getElem?_eq_getElem (by omega)]
    rfl
theorem more_len : ∀ (n : Nat) (w : List W), (more n w).length = w.length + n
  | 0, w => rfl
  | n + 1, w => by unfold more; rw [more_len n]; simp; omega
theorem words_len (b : List UInt8) : (words b).length = 64 := by unfold words words16; rw [more_len]; simp
def mixL (h l : List W) : List W := List.zipWith (· + ·) h (l.foldl rnd1 h)
theorem mix_eq (h : List W) (b : List UInt8) : mix h b = mixL h (wk b) := by
  have h64 : rounds.length = 64 := rfl
  unfold mix mixL wk
  rw [rnds_eq _ _ 64 (Nat.le_refl _) (by rw [words_len]; exact Nat.le_refl _), List.take_of_length_le (by rw [List.length_zipWith]; omega)]
def mixS {α : Type} (h l : List W) (k : List W → List α) : List α := match h with
  | [a, b, c, d, e, f, g, i] => match go l a b c d e f g i with
    | [a', b', c', d', e', f', g', i'] => st (a + a') fun a => st (b + b') fun b => st (c + c') fun c => st (d + d') fun d => st (e + e') fun e => st (f + f') fun f => st (g + g') fun g => st (i + i') fun i => k [a, b, c, d, e, f, g, i]
    | _ => []
  | _ => []
theorem foldl_len (l : List W) : ∀ (v : List W), v.length = 8 → (l.foldl rnd1 v).length = 8 := by
  induction l with
  | nil => intro v h; exact h
  | cons x l ih => intro v h; exact ih _ rfl
theorem eight {α : Type} : ∀ (l : List α), l.length = 8 → ∃ a b c d e f g h, l = [a, b, c, d, e, f, g, h]
  | [a, b, c, d, e, f, g, h], _ => ⟨a, b, c, d, e, f, g, h, rfl⟩
theorem mixL_len {h l : List W} (hh : h.length = 8) : (mixL h l).length = 8 := by unfold mixL; rw [List.length_zipWith, foldl_len l h hh, hh]; rfl
theorem mixS_eq {α : Type} {h l : List W} (hh : h.length = 8) (k : List W → List α) : mixS h l k = k (mixL h l) := by
  have h2 := foldl_len l h hh
  obtain ⟨a, b, c, d, e, f, g, i, rfl⟩ := eight h hh
  unfold mixL
  unfold mixS
  simp only
  rw [go_eq]
  obtain ⟨a', b', c', d', e', f', g', i', h3⟩ := eight _ h2
  rw [h3]
  simp only [st_eq, List.zipWith_cons_cons, List.zipWith_nil_left]
end Go.Sb.Sha
end
section
namespace Go.Sb.Sha
def w0 : List W := [1116352408#32, 1899447441#32, 3049323471#32, 3921009573#32, 961987163#32, 1508970993#32, 2453635748#32, 2870763221#32, 3624381080#32, 310598401#32, 607225278#32, 1426881987#32, 1925078388#32, 2162078206#32, 2614888103#32, 3248222580#32, 3835390401#32, 4022224774#32, 264347078#32, 604807628#32, 770255983#32, 1249150122#32, 1555081692#32, 1996064986#32, 2554220882#32, 2821834349#32, 2952996808#32, 3210313671#32, 3336571891#32, 3584528711#32, 113926993#32, 338241895#32, 666307205#32, 773529912#32, 1294757372#32, 1396182291#32, 1695183700#32, 1986661051#32, 2177026350#32, 2456956037#32, 2730485921#32, 2820302411#32, 3259730800#32, 3345764771#32, 3516065817#32, 3600352804#32, 4094571909#32, 275423344#32, 430227734#32, 506948616#32, 659060556#32, 883997877#32, 958139571#32, 1322822218#32, 1537002063#32, 1747873779#32, 1955562222#32, 2024104815#32, 2227730452#32, 2361852424#32, 2428436474#32, 2756734187#32, 3204031479#32, 3329325298#32]
def w1 : List W := [1133195417#32, 1916290450#32, 3066166480#32, 3937852582#32, 978830172#32, 1525814002#32, 2470478757#32, 2887606230#32, 3641224089#32, 327441410#32, 624068287#32, 1443724996#32, 1941921397#32, 2178921215#32, 2631731112#32, 3265065589#32, 3382750981#32, 3569585354#32, 1582936477#32, 1923397027#32, 2110814574#32, 2589708713#32, 4043884060#32, 4015384925#32, 3459532953#32, 4135387620#32, 2269421627#32, 1298861131#32, 3979148651#32, 2773771155#32, 2837752842#32, 45601321#32, 2359728791#32, 257968678#32, 128202080#32, 499975457#32, 3295403810#32, 3767750719#32, 2936976636#32, 4012566421#32, 1813556566#32, 2671037753#32, 1528772788#32, 4249992266#32, 3123706547#32, 3770506850#32, 1350679377#32, 1002245952#32, 3016296585#32, 1122779281#32, 4258981106#32, 2791365580#32, 1927562864#32, 2229998207#32, 3591167994#32, 464652048#32, 3318886517#32, 1896791069#32, 2771517833#32, 4032135724#32, 275376738#32, 725137816#32, 903905101#32, 1486194156#32]
def w2 : List W := [1150038426#32, 1933133459#32, 3083009489#32, 3954695591#32, 995673181#32, 1542657011#32, 2487321766#32, 2904449239#32, 3658067098#32, 344284419#32, 640911296#32, 1460568005#32, 1958764406#32, 2195764224#32, 2648574121#32, 3281908598#32, 2930111562#32, 3116945935#32, 2897331572#32, 3237792122#32, 3451361062#32, 3930255201#32, 3718529576#32, 3220548013#32, 2820640546#32, 1615505226#32, 2366379135#32, 1380589179#32, 1500484750#32, 973756250#32, 201810910#32, 173434379#32, 1923619370#32, 1450592922#32, 1787701321#32, 1522187192#32, 974114816#32, 2366238110#32, 2794782199#32, 572494234#32, 3426031149#32, 3939998204#32, 925616642#32, 913473001#32, 789112016#32, 2383206471#32, 3805508600#32, 3282570650#32, 3944913353#32, 3449112579#32, 3967958319#32, 74740145#32, 3696760330#32, 485590616#32, 486927552#32, 2502831210#32, 686267396#32, 3492545449#32, 3810547796#32, 1028799346#32, 1838545428#32, 3464193052#32, 2508397280#32, 1595731735#32]
def w3 : List W := [1166881435#32, 1949976468#32, 3099852498#32, 3971538600#32, 1012516190#32, 1559500020#32, 2504164775#32, 2921292248#32, 3674910107#32, 361127428#32, 657754305#32, 1477411014#32, 1975607415#32, 2212607233#32, 2665417130#32, 3298751607#32, 2468951950#32, 2655786323#32, 1004735574#32, 1345196124#32, 2502358250#32, 2981252389#32, 2257086099#32, 1281101915#32, 977063174#32, 2969724770#32, 2555575135#32, 883360581#32, 189438193#32, 989241110#32, 3184034966#32, 510754668#32, 2981958896#32, 1697766683#32, 829290962#32, 3598408888#32, 2927043512#32, 3874564143#32, 1022800712#32, 1114927619#32, 3345800616#32, 3315974508#32, 2762326756#32, 2756995779#32, 889304423#32, 478323665#32, 956406703#32, 2174782338#32, 258716846#32, 1414833826#32, 410763748#32, 1125978466#32, 3057809126#32, 2108334129#32, 4203157581#32, 165248569#32, 3590525818#32, 3866804577#32, 2353776852#32, 271200330#32, 450320648#32, 25902305#32, 488404409#32, 1793265406#32]
def w4 : List W := [3263836056#32, 1899447441#32, 3049323471#32, 3921009573#32, 961987163#32, 1508970993#32, 2453635748#32, 2870763221#32, 3624381080#32, 310598401#32, 607225278#32, 1426881987#32, 1925078388#32, 2162078206#32, 2614888103#32, 3248224628#32, 1687906753#32, 4106110856#32, 266464710#32, 604808172#32, 1340683375#32, 1271432362#32, 1639532318#32, 1996086874#32, 4198912342#32, 3368162946#32, 2954717485#32, 56203285#32, 819081873#32, 3924826383#32, 1615937327#32, 3662244855#32, 2205442591#32, 1885708555#32, 3539820678#32, 858889044#32, 45126111#32, 1814009033#32, 788498427#32, 1731177263#32, 1241315092#32, 3112895784#32, 1532581257#32, 3188603407#32, 1089985150#32, 1654184804#32, 866438350#32, 4162380699#32, 1364074688#32, 476854630#32, 599375586#32, 108516303#32, 1336354205#32, 2395837610#32, 4035581856#32, 222193058#32, 3370441009#32, 3714610257#32, 2931585713#32, 2148752908#32, 661148149#32, 2606462070#32, 41398732#32, 3941551781#32]
def sec (k : Nat) : List UInt8 := List.replicate 64 (UInt8.ofNat k)
def lastB : List UInt8 := 128 :: (List.replicate 55 0 ++ be8 2048)
theorem wk0 : wk (sec 0) = w0 := by decide +kernel
theorem wk1 : wk (sec 1) = w1 := by decide +kernel
theorem wk2 : wk (sec 2) = w2 := by decide +kernel
theorem wk3 : wk (sec 3) = w3 := by decide +kernel
theorem wk4 : wk lastB = w4 := by decide +kernel
def ww (k : Nat) : List W := match k with | 0 => w0 | 1 => w1 | 2 => w2 | _ => w3
def four (k : List W → List Nat) : List Nat := k w0 ++ (k w1 ++ (k w2 ++ k w3))
def lastW (h : List W) : List Nat := mixS h w4 fun h => [(at_ h 0).toNat]
def part16 (h : List W) : List Nat := four fun x => mixS h x fun h => four fun y => mixS h y lastW
def chunk (a b : Nat) : List Nat := mixS start (ww a) fun h => mixS h (ww b) part16
def tab (a b : Nat) : List Nat := match 4 * a + b with
  | 0 => [1396827826, 1550914536, 2039498492, 2387280181, 883752447, 3361315047, 3081931578, 617895476, 3230844978, 3081737201, 1092378180, 1162281012, 887862196, 2522349969, 2407102295, 2345801324]
  | 1 => [816925585, 267325322, 2516726038, 469170299, 1213298010, 1492887108, 1889090512, 1112867804, 4033131754, 2205329458, 868322499, 2697439140, 1122408886, 3876903364, 3112287776, 121720113]
  | 2 => [1818082622, 205500531, 407924280, 1293077799, 2633351488, 177942856, 2982880274, 529217762, 3295231060, 4207249023, 2863039356, 2069284679, 3467176235, 3863159894, 1288073670, 3990524654]
  | 3 => [3930838328, 724011696, 1384120662, 4088765726, 2032296519, 3508868040, 3580264942, 2816610888, 211294740, 2782797484, 1128998836, 1705909736, 2385785023, 3744886094, 4216486116, 767631065]
  | 4 => [3097901666, 3202992244, 362718933, 4210244791, 2734094447, 1458808161, 3817871448, 2943924884, 3944673291, 2447768362, 1752932943, 2204911397, 222153930, 4028612426, 1597712475, 3196546693]
  | 5 => [3120010704, 1195085953, 4277752222, 3815451992, 2508013137, 643928591, 3966578828, 316068783, 887900569, 3749482315, 2510327746, 88037892, 1377994081, 4093650266, 3901915426, 3912518166]
  | 6 => [4033243686, 4101887202, 3502492252, 3359644000, 2433058384, 3392448812, 888817791, 1742637583, 430630185, 3758719454, 3977517492, 4172100499, 2717165763, 1902001073, 2416475910, 1018150990]
  | 7 => [3411727756, 3988348970, 2246117797, 4182375010, 3857145990, 1623241207, 2442383249, 3864420738, 3978668586, 2633374389, 1299912381, 4244146390, 282988513, 3035538353, 6850534, 838498126]
  | 8 => [1335539051, 1298252275, 918927688, 2068861076, 576552239, 2275519707, 2934809269, 3450107385, 1373759052, 790896672, 2628775961, 2708617305, 1581747232, 704528092, 1640961482, 3255314374]
  | 9 => [686887521, 1286960148, 377635684, 3760182258, 2927729465, 2515898291, 964621818, 2327155200, 2182840564, 2867099919, 19437618, 3763522739, 3409218662, 4167803790, 1600797471, 914285912]
  | 10 => [877049130, 2794465858, 1290953114, 1980436148, 2549493040, 2782994075, 3218029552, 2304389420, 3941336782, 2868785562, 4123143733, 4161443054, 2922133596, 1748554510, 3962314760, 899673374]
  | 11 => [2649087361, 3882011355, 611689463, 2776834808, 180600510, 2246553383, 2895479405, 2176980985, 3887752967, 2209223989, 2123069431, 2911691486, 1192636373, 1135468434, 1377874293, 507983806]
  | 12 => [3658104682, 2621240489, 47344678, 1065960580, 493261673, 4119635404, 2607564121, 29539086, 3368889056, 3927639752, 4074504150, 581044628, 328746370, 2519108573, 1844154813, 508049387]
  | 13 => [1271925871, 1591760705, 2401340085, 2803556920, 2583380790, 2750632103, 195900958, 4121962732, 1552080054, 2428184220, 3391186730, 1911646673, 2644449414, 3352566797, 1669681715, 1242822505]
  | 14 => [3261799072, 2434840550, 731257797, 3097765481, 1900409995, 486532404, 2642946561, 4248803625, 1947981908, 3341829803, 3974871154, 852255562, 1363870554, 3934961700, 4069975497, 1802615281]
  | _ => [3045905782, 4100634443, 2581448430, 3349378404, 3564129468, 952281366, 1918479817, 3930107805, 3807671625, 3828478330, 4192872740, 1227702853, 854333182, 560490985, 3536644234, 3770807365]
theorem c00 : chunk 0 0 = tab 0 0 := by decide +kernel
theorem c01 : chunk 0 1 = tab 0 1 := by decide +kernel
theorem c02 : chunk 0 2 = tab 0 2 := by decide +kernel
theorem c03 : chunk 0 3 = tab 0 3 := by decide +kernel
theorem c10 : chunk 1 0 = tab 1 0 := by decide +kernel
theorem c11 : chunk 1 1 = tab 1 1 := by decide +kernel
theorem c12 : chunk 1 2 = tab 1 2 := by decide +kernel
theorem c13 : chunk 1 3 = tab 1 3 := by decide +kernel
theorem c20 : chunk 2 0 = tab 2 0 := by decide +kernel
theorem c21 : chunk 2 1 = tab 2 1 := by decide +kernel
theorem c22 : chunk 2 2 = tab 2 2 := by decide +kernel
theorem c23 : chunk 2 3 = tab 2 3 := by decide +kernel
theorem c30 : chunk 3 0 = tab 3 0 := by decide +kernel
theorem c31 : chunk 3 1 = tab 3 1 := by decide +kernel
theorem c32 : chunk 3 2 = tab 3 2 := by decide +kernel
theorem c33 : chunk 3 3 = tab 3 3 := by decide +kernel
def at256 (i : Nat) : Nat := (tab (i / 64) (i / 16 % 4)).getD (i % 16) 0
def chk : Bool := (List.range 256).all fun i => (List.range 256).all fun j => Nat.beq i j || !Nat.beq (at256 i) (at256 j)
theorem chk_yes : chk = true := by decide +kernel
theorem tab_inj {i j : Nat} (hi : i < 256) (hj : j < 256) (h : at256 i = at256 j) : i = j := by
  have h1 := chk_yes
  unfold chk at h1
  rw [List.all_eq_true] at h1
  have h2 := h1 i (List.mem_range.2 hi)
  rw [List.all_eq_true] at h2
  have h3 := h2 j (List.mem_range.2 hj)
  rw [h, Nat.beq_refl, Bool.not_true, Bool.or_false] at h3
  exact Nat.eq_of_beq_eq_true h3
end Go.Sb.Sha
end
section
namespace Go.Sb.Sha
theorem part16_eq {h : List W} (hh : h.length = 8) {c d : Nat} (hc : c < 4) (hd : d < 4) : (part16 h).getD (4 * c + d) 0 = (at_ (mixL (mixL (mixL h (ww c)) (ww d)) w4) 0).toNat := by
  have e1 : ∀ x, mixS h x (fun h => four fun y => mixS h y lastW) = [(at_ (mixL (mixL (mixL h x) w0) w4) 0).toNat, (at_ (mixL (mixL (mixL h x) w1) w4) 0).toNat, (at_ (mixL (mixL (mixL h x) w2) w4) 0).toNat, (at_ (mixL (mixL (mixL h x) w3) w4) 0).toNat] := fun x => by
    have h1 := mixL_len (l := x) hh
    rw [mixS_eq hh]
    unfold four lastW
    dsimp only
    rw [mixS_eq h1, mixS_eq h1, mixS_eq h1, mixS_eq h1, mixS_eq (mixL_len h1), mixS_eq (mixL_len h1), mixS_eq (mixL_len h1), mixS_eq (mixL_len h1)]
    rfl
  unfold part16
  have hf : ∀ k : List W → List Nat, four k = k w0 ++ (k w1 ++ (k w2 ++ k w3)) := fun _ => rfl
  rw [hf]
  rw [e1, e1, e1, e1]
  match c, d, hc, hd with
  | 0, 0, _, _ => rfl
  | 0, 1, _, _ => rfl
  | 0, 2, _, _ => rfl
  | 0, 3, _, _ => rfl
  | 1, 0, _, _ => rfl
  | 1, 1, _, _ => rfl
  | 1, 2, _, _ => rfl
  | 1, 3, _, _ => rfl
  | 2, 0, _, _ => rfl
  | 2, 1, _, _ => rfl
  | 2, 2, _, _ => rfl
  | 2, 3, _, _ => rfl
  | 3, 0, _, _ => rfl
  | 3, 1, _, _ => rfl
  | 3, 2, _, _ => rfl
  | 3, 3, _, _ => rfl
theorem chunk_eq {a b : Nat} (ha : a < 4) (hb : b < 4) : chunk a b = tab a b := by
  match a, b, ha, hb with
  | 0, 0, _, _ => exact c00
  | 0, 1, _, _ => exact c01
  | 0, 2, _, _ => exact c02
  | 0, 3, _, _ => exact c03
  | 1, 0, _, _ => exact c10
  | 1, 1, _, _ => exact c11
  | 1, 2, _, _ => exact c12
  | 1, 3, _, _ => exact c13
  | 2, 0, _, _ => exact c20
  | 2, 1, _, _ => exact c21
  | 2, 2, _, _ => exact c22
  | 2, 3, _, _ => exact c23
  | 3, 0, _, _ => exact c30
  | 3, 1, _, _ => exact c31
  | 3, 2, _, _ => exact c32
  | 3, 3, _, _ => exact c33
def mix5 (a b c d : Nat) : List W := mixL (mixL (mixL (mixL (mixL start (ww a)) (ww b)) (ww c)) (ww d)) w4
theorem first_eq {a b c d : Nat} (ha : a < 4) (hb : b < 4) (hc : c < 4) (hd : d < 4) : (at_ (mix5 a b c d) 0).toNat = at256 (64 * a + 16 * b + 4 * c + d) := by
  unfold at256
  rw [show (64 * a + 16 * b + 4 * c + d) / 64 = a by omega, show (64 * a + 16 * b + 4 * c + d) / 16 % 4 = b by omega, show (64 * a + 16 * b + 4 * c + d) % 16 = 4 * c + d by omega, ← chunk_eq ha hb]
  unfold chunk
  rw [mixS_eq rfl, mixS_eq (mixL_len rfl), part16_eq (mixL_len (mixL_len rfl)) hc hd]
  rfl
def ext4 (a b c d : Nat) : List UInt8 := sec a ++ (sec b ++ (sec c ++ sec d))
theorem sec_len (k : Nat) : (sec k).length = 64 := by unfold sec; rw [List.length_replicate]
theorem ext4_len (a b c d : Nat) : (ext4 a b c d).length = 256 := by unfold ext4; simp only [List.length_append, sec_len]
theorem wk_sec {k : Nat} (h : k < 4) : wk (sec k) = ww k := by
  match k, h with
  | 0, _ => exact wk0
  | 1, _ => exact wk1
  | 2, _ => exact wk2
  | 3, _ => exact wk3
theorem sum_ext4 {a b c d : Nat} (ha : a < 4) (hb : b < 4) (hc : c < 4) (hd : d < 4) : sum (ext4 a b c d) = (mix5 a b c d).flatMap be4 := by
  have hp : padded (ext4 a b c d) = sec a ++ (sec b ++ (sec c ++ (sec d ++ lastB))) := by
    unfold padded
    rw [ext4_len]
    unfold ext4
    simp only [List.append_assoc]
    rfl
  have hl : (padded (ext4 a b c d)).length / 64 = 5 := by
    rw [hp]; simp only [List.length_append, sec_len]; rfl
  unfold sum
  rw [hl, hp]
  unfold mix5
  have step : ∀ (n : Nat) (h : List W) (k : Nat) (r : List UInt8), k < 4 → mixes (n + 1) h (sec k ++ r) = mixes n (mixL h (ww k)) r := fun n h k r hk => by
    show mixes n (mix h ((sec k ++ r).take 64)) ((sec k ++ r).drop 64) = _
    rw [List.take_left' (sec_len k), List.drop_left' (sec_len k), mix_eq, wk_sec hk]
  rw [step 4 _ a _ ha, step 3 _ b _ hb, step 2 _ c _ hc, step 1 _ d _ hd]
  have e5 : ∀ h, mixes 1 h lastB = mixL h w4 := fun h => by
    show mix h (lastB.take 64) = _
    rw [List.take_of_length_le (by exact Nat.le_refl 64), mix_eq, wk4]
  rw [e5]
theorem be4_inj {x y : W} (h : be4 x = be4 y) : x = y := by
  unfold be4 at h
  simp only [List.cons.injEq, and_true] at h
  obtain ⟨h1, h2, h3, h4⟩ := h
  have h1 := congrArg UInt8.toBitVec h1
  have h2 := congrArg UInt8.toBitVec h2
  have h3 := congrArg UInt8.toBitVec h3
  have h4 := congrArg UInt8.toBitVec h4
  have g1 := congrArg BitVec.toNat h1
  have g2 := congrArg BitVec.toNat h2
  have g3 := congrArg BitVec.toNat h3
  have g4 := congrArg BitVec.toNat h4
  simp only [BitVec.toNat_setWidth, BitVec.toNat_ushiftRight, Nat.shiftRight_eq_div_pow] at g1 g2 g3 g4
  apply BitVec.eq_of_toNat_eq
  have := x.isLt
  have := y.isLt
  omega
theorem sums_differ {a b c d a' b' c' d' : Nat} (ha : a < 4) (hb : b < 4) (hc : c < 4) (hd : d < 4) (ha' : a' < 4) (hb' : b' < 4) (hc' : c' < 4) (hd' : d' < 4) (h : sum (ext4 a b c d) = sum (ext4 a' b' c' d')) : ext4 a b c d = ext4 a' b' c' d' := by
  rw [sum_ext4 ha hb hc hd, sum_ext4 ha' hb' hc' hd'] at h
  have l1 : (mix5 a b c d).length = 8 := mixL_len (mixL_len (mixL_len (mixL_len (mixL_len rfl))))
  have l2 : (mix5 a' b' c' d').length = 8 := mixL_len (mixL_len (mixL_len (mixL_len (mixL_len rfl))))
  have f1 := first_eq ha hb hc hd
  have f2 := first_eq ha' hb' hc' hd'
  obtain ⟨x0, x1, x2, x3, x4, x5, x6, x7, hx⟩ := eight _ l1
  obtain ⟨y0, y1, y2, y3, y4, y5, y6, y7, hy⟩ := eight _ l2
  rw [hx, hy] at h
  rw [hx] at f1
  rw [hy] at f2
  rw [List.flatMap_cons, List.flatMap_cons (xs := [y1, y2, y3, y4, y5, y6, y7])] at h
  have h4 := congrArg (List.take 4) h
  rw [List.take_left' (show (be4 x0).length = 4 from rfl), List.take_left' (show (be4 y0).length = 4 from rfl)] at h4
  have h5 := be4_inj h4
  have h6 : at256 (64 * a + 16 * b + 4 * c + d) = at256 (64 * a' + 16 * b' + 4 * c' + d') := by
    rw [← f1, ← f2]; show x0.toNat = y0.toNat; rw [h5]
  have h7 := tab_inj (by omega) (by omega) h6
  rw [show a = a' by omega, show b = b' by omega, show c = c' by omega, show d = d' by omega]
end Go.Sb.Sha
end
section
namespace Go.Sb
def mb (m : Nat → B) (q : Nat) : UInt8 := (m (q / 256)).getD (q % 256) 0
theorem getD_app {α : Type} (a b : List α) (i : Nat) (d : α) : (a ++ b).getD i d = if i < a.length then a.getD i d else b.getD (i - a.length) d := by
  simp only [List.getD_eq_getElem?_getD, List.getElem?_append]
  split <;> rfl
theorem getD_take {α : Type} (a : List α) (n i : Nat) (d : α) (h : i < n) : (a.take n).getD i d = a.getD i d := by
  simp only [List.getD_eq_getElem?_getD, List.getElem?_take, if_pos h]
theorem getD_drop {α : Type} (a : List α) (n i : Nat) (d : α) : (a.drop n).getD i d = a.getD (n + i) d := by
  simp only [List.getD_eq_getElem?_getD, List.getElem?_drop]
theorem getD_zeros (n i : Nat) : (zeros n).getD i 0 = 0 := by
  unfold zeros
  simp only [List.getD_eq_getElem?_getD, List.getElem?_replicate]
  split <;> rfl
theorem ext_getD {a b : B} (h : a.length = b.length) (e : ∀ i, i < a.length → a.getD i 0 = b.getD i 0) : a = b := by
  apply List.ext_getElem h
  intro i h1 h2
  have := e i h1
  rwa [List.getD_eq_getElem?_getD, List.getD_eq_getElem?_getD, List.getElem?_eq_getElem h1, List.getElem?_eq_getElem h2] at this
theorem readF_len {m : Nat → B} (hm : ∀ j, (m j).length = 256) : ∀ (k at_ n : Nat), n ≤ k → (readF m k at_ n).length = 64 * n
  | 0, at_, n, h => by rw [show n = 0 by omega]; rfl
  | k + 1, at_, n, h => by
    unfold readF
    split
    · rename_i e; subst e; rfl
    · rename_i e
      have h1 := hm (at_ / 4)
      rw [List.length_append, List.length_take, List.length_drop, h1, readF_len hm k _ _ (by omega)]
      omega
theorem readF_get {m : Nat → B} (hm : ∀ j, (m j).length = 256) : ∀ (k at_ n : Nat), n ≤ k → ∀ p, p < 64 * n → (readF m k at_ n).getD p 0 = mb m (64 * at_ + p)
  | 0, at_, n, h, p, hp => by omega
  | k + 1, at_, n, h, p, hp => by
    unfold readF
    rw [if_neg (by omega)]
    have h1 := hm (at_ / 4)
    have h2 : (((m (at_ / 4)).drop (at_ % 4 * 64)).take (min n (4 - at_ % 4) * 64)).length = min n (4 - at_ % 4) * 64 := by rw [List.length_take, List.length_drop, h1]; omega
    rw [getD_app, h2]
    split
    · rename_i hlt
      rw [getD_take _ _ _ _ hlt, getD_drop]
      unfold mb
      rw [show (64 * at_ + p) / 256 = at_ / 4 by omega, show (64 * at_ + p) % 256 = at_ % 4 * 64 + p by omega]
    · rename_i hge
      rw [readF_get hm k _ _ (by omega) _ (by omega)]
      congr 1; omega
theorem upd_len {m : Nat → B} (hm : ∀ j, (m j).length = 256) {i : Nat} {d : B} (hd : d.length = 256) : ∀ j, (upd m i d j).length = 256 := fun j => by unfold upd; split <;> simp [*]
theorem patchF_len : ∀ (k : Nat) {m : Nat → B} (_ : ∀ j, (m j).length = 256) (at_ : Nat) (data : B), ∀ j, (patchF k m at_ data j).length = 256
  | 0, m, hm, at_, data => hm
  | k + 1, m, hm, at_, data => by
    unfold patchF
    split
    · exact hm
    · exact patchF_len k (upd_len hm (mixB_len (hm _) (by omega) (by omega))) _ _
theorem patchF_get : ∀ (k : Nat) {m : Nat → B} (_ : ∀ j, (m j).length = 256) (at_ : Nat) (data : B), data.length ≤ 64 * k → data.length % 64 = 0 → ∀ q, mb (patchF k m at_ data) q = if 64 * at_ ≤ q ∧ q < 64 * at_ + data.length then data.getD (q - 64 * at_) 0 else mb m q
  | 0, m, hm, at_, data, hk, h64, q => by rw [if_neg (by omega)]; rfl
  | k + 1, m, hm, at_, data, hk, h64, q => by
    unfold patchF
    split
    · rename_i h0; subst h0; rw [if_neg (by simp)]
    · rename_i h0
      have hl : data.length ≠ 0 := fun e => h0 (List.eq_nil_of_length_eq_zero e)
      have hwl := hm (at_ / 4)
      have hml : (mixB (m (at_ / 4)) data (at_ % 4 * 64) (min data.length (256 - at_ % 4 * 64))).length = 256 := mixB_len hwl (by omega) (by omega)
      rw [patchF_get k (upd_len hm hml) _ _ (by rw [List.length_drop]; omega) (by rw [List.length_drop]; omega)]
      rw [List.length_drop]
      split
      · rename_i hin
        rw [if_pos (by omega), getD_drop]
        congr 1; omega
      · rename_i hout
        unfold mb upd
        split
        · rename_i hi
          unfold mixB
          have ht : ((m (at_ / 4)).take (at_ % 4 * 64)).length = at_ % 4 * 64 := by rw [List.length_take]; omega
          have hd : (data.take (min data.length (256 - at_ % 4 * 64))).length = min data.length (256 - at_ % 4 * 64) := by rw [List.length_take]; omega
          rw [List.append_assoc, getD_app, ht]
          split
          · rename_i hlt; rw [if_neg (by omega), getD_take _ _ _ _ hlt, hi]
          · rename_i hge
            rw [getD_app, hd]
            split
            · rename_i hlt2
              rw [if_pos (by omega), getD_take _ _ _ _ hlt2]
              congr 1; omega
            · rename_i hge2
              rw [if_neg (by omega), getD_drop, hi]
              congr 1; omega
        · rename_i hi
          rw [if_neg (by omega)]
def fullD (at_ : Nat) (data : B) : B := zeros (64 * at_) ++ data ++ zeros (3840 - (64 * at_ + data.length))
def pieceD (at_ : Nat) (data : B) (fr n : Nat) : B := ((fullD at_ data).drop (64 * fr)).take (64 * n)
theorem read_patch {at_ fr n : Nat} {data : B} (h64 : data.length % 64 = 0) (hat : 64 * at_ + data.length ≤ 3840) (hfr : fr + n ≤ 60) :
    readF (patchF data.length (fun _ => zeros 256) at_ data) n fr n = pieceD at_ data fr n := by
  have hz : ∀ j : Nat, ((fun _ => zeros 256 : Nat → B) j).length = 256 := fun _ => zeros_len _
  have hl := patchF_len data.length hz at_ data
  have hfl : (fullD at_ data).length = 3840 := by unfold fullD; simp only [List.length_append, zeros_len]; omega
  have hpl : (pieceD at_ data fr n).length = 64 * n := by unfold pieceD; rw [List.length_take, List.length_drop, hfl]; omega
  apply ext_getD
  · rw [readF_len hl _ _ _ (Nat.le_refl _), hpl]
  · intro p hp
    rw [readF_len hl _ _ _ (Nat.le_refl _)] at hp
    rw [readF_get hl _ _ _ (Nat.le_refl _) _ hp, patchF_get _ hz _ _ (by omega) h64]
    unfold pieceD
    rw [getD_take _ _ _ _ hp, getD_drop]
    unfold fullD
    rw [List.append_assoc, getD_app, zeros_len, getD_app]
    unfold mb
    simp only [getD_zeros]
    split
    · rename_i h1; rw [if_neg (by omega), if_pos (by omega)]
    · rename_i h1
      split
      · rename_i h2; rfl
      · rename_i h2
        split
        · rename_i h3; omega
        · rfl
theorem headBits_all {l : B} (h : l.length = 32) : headBits 256 l = l := by
  unfold headBits
  apply List.ext_getElem (by simp)
  intro i h1 h2
  rw [List.getElem_mapIdx, if_neg (by omega)]
theorem key_all (d : B) : key 256 (Sha.sum d) = Sha.sum d := headBits_all (sha_len d)
def Secs (n : Nat) (d : B) : Prop := ∃ ks : List Nat, ks.length = n ∧ (∀ k ∈ ks, k < 4) ∧ d = ks.flatMap Sha.sec
theorem secs_len' (ks : List Nat) : (ks.flatMap Sha.sec).length = 64 * ks.length := by
  induction ks with
  | nil => rfl
  | cons k ks ih => rw [List.flatMap_cons, List.length_append, ih, Sha.sec_len, List.length_cons]; omega
theorem Secs.len {n : Nat} {d : B} (h : Secs n d) : d.length = 64 * n := by obtain ⟨ks, h1, _, rfl⟩ := h; rw [secs_len', h1]
theorem Secs.app {n m : Nat} {a b : B} (h : Secs n a) (j : Secs m b) : Secs (n + m) (a ++ b) := by
  obtain ⟨ks, h1, h2, rfl⟩ := h
  obtain ⟨ls, j1, j2, rfl⟩ := j
  exact ⟨ks ++ ls, by simp [h1, j1], fun k hk => (List.mem_append.1 hk).elim (h2 k) (j2 k), by rw [List.flatMap_append]⟩
theorem secs_take (ks : List Nat) (n : Nat) (hn : n ≤ ks.length) : (ks.flatMap Sha.sec).take (64 * n) = (ks.take n).flatMap Sha.sec := by
  conv => lhs; rw [← List.take_append_drop n ks, List.flatMap_append]
  rw [List.take_left' (by rw [secs_len', List.length_take]; omega)]
theorem secs_drop (ks : List Nat) (n : Nat) (hn : n ≤ ks.length) : (ks.flatMap Sha.sec).drop (64 * n) = (ks.drop n).flatMap Sha.sec := by
  conv => lhs; rw [← List.take_append_drop n ks, List.flatMap_append]
  rw [List.drop_left' (by rw [secs_len', List.length_take]; omega)]
theorem Secs.take {n m : Nat} {d : B} (h : Secs n d) (hm : m ≤ n) : Secs m (d.take (64 * m)) := by
  obtain ⟨ks, h1, h2, rfl⟩ := h
  exact ⟨ks.take m, by rw [List.length_take]; omega, fun k hk => h2 k (List.mem_of_mem_take hk), secs_take _ _ (by omega)⟩
theorem Secs.drop {n m : Nat} {d : B} (h : Secs n d) (hm : m ≤ n) : Secs (n - m) (d.drop (64 * m)) := by
  obtain ⟨ks, h1, h2, rfl⟩ := h
  exact ⟨ks.drop m, by rw [List.length_drop]; omega, fun k hk => h2 k (List.mem_of_mem_drop hk), secs_drop _ _ (by omega)⟩
theorem Secs.zero : Secs 4 (zeros 256) := ⟨[0, 0, 0, 0], rfl, by decide, by decide +kernel⟩
theorem Secs.four {d : B} (h : Secs 4 d) : ∃ a b c e : Nat, (a < 4 ∧ b < 4 ∧ c < 4 ∧ e < 4) ∧ d = Sha.ext4 a b c e := by
  obtain ⟨ks, h1, h2, rfl⟩ := h
  match ks, h1 with
  | [a, b, c, e], _ => exact ⟨a, b, c, e, ⟨h2 a (by simp), h2 b (by simp), h2 c (by simp), h2 e (by simp)⟩, by unfold Sha.ext4; simp⟩
theorem Secs.same {d e : B} (h : Secs 4 d) (j : Secs 4 e) (hs : key 256 (Sha.sum d) = key 256 (Sha.sum e)) : d = e := by
  rw [key_all, key_all] at hs
  obtain ⟨a, b, c, f, ⟨h1, h2, h3, h4⟩, rfl⟩ := h.four
  obtain ⟨a', b', c', f', ⟨j1, j2, j3, j4⟩, rfl⟩ := j.four
  exact Sha.sums_differ h1 h2 h3 h4 j1 j2 j3 j4 hs
theorem Secs.mix {was data : B} {f n m : Nat} (h : Secs 4 was) (j : Secs m data) (hf : f < 4) (hn : n = min data.length (256 - f * 64)) : Secs 4 (mixB was data (f * 64) n) := by
  have hl := j.len
  have h1 := (h.take (m := f) (by omega)).app ((j.take (m := min m (4 - f)) (by omega)).app (h.drop (m := f + min m (4 - f)) (by omega)))
  rw [show f + (min m (4 - f) + (4 - (f + min m (4 - f)))) = 4 by omega] at h1
  unfold mixB
  rw [List.append_assoc, show f * 64 = 64 * f by omega, show n = 64 * min m (4 - f) by omega, show 64 * f + 64 * min m (4 - f) = 64 * (f + min m (4 - f)) by omega]
  exact h1
theorem secs_fit : ∀ (k : Nat) {Os : List (Nat → B)} {m : Nat → B} {at_ n : Nat} {data : B}, (∀ o ∈ Os, ∀ j, Secs 4 (o j)) → (∀ j, Secs 4 (m j)) → Secs n data → ¬ patchNo 256 Os k m at_ data
  | 0, Os, m, at_, n, data, ho, hm, hd => id
  | k + 1, Os, m, at_, n, data, ho, hm, hd => fun h => by
    obtain ⟨h0, h1⟩ := h
    have hl := hd.len
    have hmix : Secs 4 (mixB (m (at_ / 4)) data (at_ % 4 * 64) (min data.length (256 - at_ % 4 * 64))) := (hm _).mix hd (by omega) rfl
    rcases h1 with ⟨_, o, hom, j, _, _, hne, he⟩ | h2
    · rcases List.mem_cons.1 hom with rfl | hom
      · exact hne (Secs.same (hm j) hmix he)
      · exact hne (Secs.same (ho o hom j) hmix he)
    · refine secs_fit k (n := n - min n (4 - at_ % 4)) ho (fun j => ?_) ?_ h2
      · unfold upd; split
        · exact hmix
        · exact hm j
      · rw [show min data.length (256 - at_ % 4 * 64) = 64 * min n (4 - at_ % 4) by omega]
        exact hd.drop (by omega)
end Go.Sb
end
