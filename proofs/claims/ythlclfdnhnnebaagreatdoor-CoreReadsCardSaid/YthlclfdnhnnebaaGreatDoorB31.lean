/- Part of the proof; no statement of its own: A36, A37, A38, A39, A40. -/
import Derived.Test.YthlclfdnhnnebaaGreatDoorB08
import Derived.Test.YthlclfdnhnnebaaGreatDoorB06
import Derived.Test.YthlclfdnhnnebaaGreatDoorB30
import Derived.Test.YthlclfdnhnnebaaGreatDoorB22
set_option linter.all false
section
set_option maxRecDepth 4000
set_option maxHeartbeats 4000000
namespace Go.Proofs.YthlclfdnhnnebaaGreatDoor
open Go.Sl Go.Sb
def rdR (k : Nat) (x : Ent) (at_ n : Nat) (acc : B) (s : St) : Out B × St := andThen (creads k x at_ n) (fun r => ret (acc ++ r)) s
section
variable {k : Nat} {x : Ent} {at_ n : Nat} {acc b : B} {s t : St} {e : Int}
theorem rdR_nil : rdR k x at_ 0 acc s = (.ok acc, s) := by unfold rdR andThen; cases k <;> simp [creads, ret]
theorem rdR_err (hn : n ≠ 0) (h : cget x (at_ / 4) s = (.err e, t)) : rdR (k + 1) x at_ n acc s = (.err e, t) := by
  unfold rdR
  conv => lhs; unfold creads
  rw [if_neg hn]
  rw [andThen_err]
  exact andThen_err h
theorem rdR_ok (hn : n ≠ 0) (h : cget x (at_ / 4) s = (.ok b, t)) : rdR (k + 1) x at_ n acc s = rdR k x (at_ + min n (4 - at_ % 4)) (n - min n (4 - at_ % 4)) (acc ++ (b.drop (at_ % 4 * 64)).take (min n (4 - at_ % 4) * 64)) t := by
  unfold rdR
  conv => lhs; unfold creads
  rw [if_neg hn]
  dsimp only
  unfold andThen
  rw [h]
  dsimp only
  cases creads k x (at_ + min n (4 - at_ % 4)) (n - min n (4 - at_ % 4)) t with
  | mk o u => cases o <;> simp [ret]
end
theorem cut_bytes (b : B) (f m : Nat) : (bs b).extract ((f : Int) * 64).toNat ((((f : Int) + (m : Int))) * 64).toNat = bs ((b.drop (f * 64)).take (m * 64)) := by
  rw [show ((f : Int) * 64).toNat = f * 64 by omega, show ((((f : Int) + (m : Int))) * 64).toNat = (f + m) * 64 by omega, bs_cut, List.drop_take, show (f + m) * 64 - f * 64 = m * 64 by omega]
def doneA (b : Nat) (out : B) : Asrt := ex fun x : Value × Value => star (fact (out = [] → x.2 = .slice none 0 0) :: bldP b x.1 x.2 out)
abbrev readA0 (a : Ad) (b0 b1 b2 b3 b4 : Nat) (id at_ n : Int) : Asrt := star ([celC b0 a, celU b1 id, celI b2 at_, celI b3 n] ++ bldP b4 (.pointer none) (.slice none 0 0) [])
set_option maxRecDepth 4000 in
theorem read1_spec (W : World) (a : Ad) (b0 b1 b2 b3 b4 : Nat) (id at_ n : Int) (bits : Nat) :
    RunSpec W a (readA0 a b0 b1 b2 b3 b4 id at_ n) (doneA b4) 34 [ptr b0, ptr b1, ptr b2, ptr b3, ptr b4] bits (readM id at_ n) := by
  intro s hsb hnb
  have e0 : readM id at_ n s = andThen (find id) (fun x => andThen (withinB x at_ n) fun _ => creads n.toNat x at_.toNat n.toNat) s := rfl
  simp only [List.cons_append, List.nil_append]
  refine does_enter Tryz.func34 rfl Tryz.ntmps34 rfl (fun R w0 => ?_)
  simp only [envOf, List.cons_append, List.nil_append]
  refine cw_star (show Fnd _ (star ([celC b0 a, celU b1 id, celI b2 at_, celI b3 n] ++ bldP b4 (.pointer none) (.slice none 0 0) [])) _ from aFd) ?_
  simp only [List.cons_append, List.nil_append]
  refine cw_fact (p := DkOK s.d) aFd fun hdk => ?_
  refine cw_seq ?_
  refine cw_region ?_
  refine ow_y (y_load F.sc29 rfl (by rfl)) ?_
  refine ow_y (y_load F.sc26 rfl (by rfl)) ?_
  refine ow_ran rfl F.hb35 rfl (find_spec W a s id) aSp (fun x t ho => ?_) (fun e t ho => by (repeat (first | with_reducible refine kw_inBlock_panic ?_ | with_reducible refine kw_then_panic ?_)); (refine kw_said (fun w h => sat_nostar h) ?_; exact kw_errR (alsoC_err' (e0.trans (andThen_err ho))) (fun _ _ h => h) aSp))
  try simp only [List.cons_append, List.nil_append]
  have hts : t = s := by have h := ho; unfold find at h; split at h <;> cases h; rfl
  rw [hts] at ho ⊢
  have e1 := e0.trans (andThen_ok ho)
  clear ho hts
  refine (ow_alloc F.z72 (fun b5 => ?_))
  refine ow_storeAgg F.sz72 rfl rfl rfl (by simp [entV, Value.oneCell']) (by simp [entV, Value.cells]) (splice_all (by simp [entV, Value.cells])) ?_
  refine ow_nil ?_
  refine kw_code (fun _ _ h => h) ?_
  refine cw_seq ?_
  refine cw_region ?_
  refine ow_y (y_loadAgg F.ag72 rfl (by simp [entV]) (extract_all (by simp [entV]))) ?_
  refine ow_y (y_load F.sc3 rfl (by rfl)) ?_
  refine ow_y (y_load F.sc3 rfl (by rfl)) ?_
  refine ow_ran rfl F.hb30 rfl (within_spec W a s x at_ n (by rw [e1] at hnb; exact big1 hnb)) aSp (fun v t2 ho => ?_) (fun e t ho => by (repeat (first | with_reducible refine kw_inBlock_panic ?_ | with_reducible refine kw_then_panic ?_)); (refine kw_said (fun w h => sat_nostar h) ?_; exact kw_errR (alsoC_err' (e1.trans (andThen_err ho))) (fun _ _ h => h) aSp))
  try simp only [List.cons_append, List.nil_append]
  refine ow_nil ?_
  obtain ⟨h1, h2, h3, h4, h5⟩ := withinB_ok ho
  rw [h1] at ho ⊢
  have e2 := e1.trans (andThen_ok ho)
  clear ho
  obtain ⟨k, rfl⟩ : ∃ k : Nat, at_ = k := ⟨at_.toNat, by omega⟩
  obtain ⟨m, rfl⟩ : ∃ k : Nat, n = k := ⟨n.toNat, by omega⟩
  rw [Int.toNat_natCast, Int.toNat_natCast] at e2
  have e3 : readM id (k : Int) (m : Int) s = rdR m x k m [] s := by rw [e2]; unfold rdR andThen; cases creads m x k m s with | mk o u => cases o <;> rfl
  refine kw_code (fun _ _ h => h) ?_
  refine cw_block ?_
  refine cw_loop (X := {y : Nat × Nat × Nat × B × Value × Value // y.2.2.1 ≤ y.1 ∧ y.2.1 + y.2.2.1 ≤ 5000 ∧ y.2.2.2.1.length + 64 * y.2.2.1 ≤ 320000 ∧ (y.2.2.2.2.1 = .pointer none ∨ y.2.2.2.2.1 = ptr b4) ∧ (y.2.2.2.1 = [] → y.2.2.2.2.2 = .slice none 0 0) ∧ readM id (k : Int) (m : Int) s = rdR y.1 x y.2.1 y.2.2.1 y.2.2.2.1 s}) (fun y => [(0, ptr b0), (2, ptr b2), (3, ptr b3), (4, ptr b4), (5, ptr b5)]) (fun y => RS W a s ++ (bldP b4 y.1.2.2.2.2.1 y.1.2.2.2.2.2 y.1.2.2.2.1 ++ [celC b0 a, celI b2 y.1.2.1, celI b3 y.1.2.2.1, entP b5 x, R])) (fun y => y.1.1) ⟨(m, k, m, [], .pointer none, .slice none 0 0), Nat.le_refl _, by (show k + m ≤ 5000); omega, by (show 0 + 64 * m ≤ 320000); omega, .inl rfl, fun _ => rfl, e3⟩ (by repeat (first | exact Sub.nil | refine Sub.cons rfl ?_)) aSp ?_
  rintro ⟨⟨j, at', n', acc, p, v'⟩, hj, ha, hl, hp, hv, he⟩ m0 hm0
  try simp only at hm0
  try dsimp only
  simp only at hj ha hl hp hv he
  simp only [List.cons_append, List.nil_append]
  refine cw_seq ?_
  refine cw_seq ?_
  refine cw_region ?_
  refine ow_y (y_load F.sc3 rfl (by rfl)) ?_
  refine ow_y (y_gtr rfl rfl) ?_
  refine ow_nil ?_
  refine kw_code (fun _ _ h => h) ?_
  refine cw_if rfl (fun hb16 => ?_) (fun hb16 => ?_)
  · skip
    have hn0 : n' ≠ 0 := by have h := hb16; simp only [decide_eq_true_eq] at h; omega
    obtain ⟨i, rfl⟩ : ∃ i, j = i + 1 := ⟨j - 1, by omega⟩
    obtain ⟨f, hf⟩ : ∃ f, f = at' % 4 := ⟨_, rfl⟩
    have hf4 : f < 4 := by omega
    obtain ⟨q, hq⟩ : ∃ q, q = min n' (4 - f) := ⟨_, rfl⟩
    refine cw_skip ?_
    refine kw_code (fun _ _ h => h) ?_
    refine cw_block ?_
    refine cw_seq ?_
    refine cw_region ?_
    refine ow_y (y_load F.sc3 rfl (by rfl)) ?_
    refine ow_y (y_remI rfl rfl (by omega)) ?_
    rw [show ((at' : Nat) : Int) % 4 = (f : Int) by omega]
    refine ow_y (y_assign rfl) ?_
    refine ow_nil ?_
    refine kw_code (fun _ _ h => h) ?_
    refine cw_seq ?_
    refine cw_region ?_
    refine ow_y (y_load F.sc3 rfl (by rfl)) ?_
    refine ow_y (y_move rfl) ?_
    refine ow_y (y_subI rfl rfl (by omega)) ?_
    refine ow_y (y_min rfl rfl) ?_
    rw [show min ((n' : Nat) : Int) (4 - (f : Int)) = (q : Int) by omega]
    refine ow_y (y_assign rfl) ?_
    refine ow_nil ?_
    refine kw_code (fun _ _ h => h) ?_
    refine cw_seq ?_
    refine cw_region ?_
    refine ow_y (y_load F.sc29 rfl (by rfl)) ?_
    refine ow_y (y_loadAgg F.ag72 rfl (by simp [entV]) (extract_all (by simp [entV]))) ?_
    refine ow_y (y_load F.sc3 rfl (by rfl)) ?_
    refine ow_y (y_quoI rfl rfl (by omega)) ?_
    rw [show ((at' : Nat) : Int) / 4 = ((at' / 4 : Nat) : Int) by omega]
    refine ow_ran rfl F.hb37 rfl (cget_k W a s x (at' / 4) (by omega)) aSp (fun b t ho => ?_) (fun e t ho => by (repeat (first | with_reducible refine kw_inBlock_panic ?_ | with_reducible refine kw_then_panic ?_)); (have hts := ro_cget x (at' / 4) s; rw [ho] at hts; have hts : t = s := hts; subst hts; refine kw_said (fun w h => sat_nostar h) ?_; exact kw_errR (alsoC_err' (he.trans (rdR_err hn0 ho))) (fun _ _ h => h) aSp))
    try simp only [List.cons_append, List.nil_append]
    obtain ⟨hts, hbl⟩ := cget_len hdk ho
    rw [hts] at ho
    have hbs : (bs b).size = 256 := by rw [bs_size, hbl]
    rw [rdR_ok hn0 ho, ← hf, ← hq] at he
    refine ow_y (y_move rfl) ?_
    refine ow_y (y_mulI rfl rfl (by omega)) ?_
    refine ow_y (y_move rfl) ?_
    refine ow_y (y_move rfl) ?_
    refine ow_y (y_addI rfl rfl (by omega)) ?_
    refine ow_y (y_mulI rfl rfl (by omega)) ?_
    refine ow_y (y_cutLH F.st9 rfl rfl rfl (by omega)) ?_
    rw [cut_bytes b f q]
    refine ow_givesE rfl F.hb36 rfl (write_spec b4 p v' hp acc ((b.drop (f * 64)).take (q * 64)) (by omega) (by rw [List.length_take, List.length_drop]; omega)) aSp ?_
    rintro v35 hv35
    try simp only [List.cons_append, List.nil_append]
    refine ow_nil ?_
    refine kw_code (fun _ _ h => h) ?_
    refine cw_mix (.soft 1 (.soft 4 (.two 0 (.soft 2 (.two 3 (.soft 5 (.hard 6 (.hard 7 .done))) 6 (.hard 3 (.soft 5 (.hard 7 .done))))) 3 (.soft 5 (.hard 0 (.soft 2 (.hard 6 (.hard 7 .done)))))))) [] F.fol (by kernel_rfl) (by repeat (first | with_reducible exact NoSlots.bp | with_reducible apply NoSlots.then | with_reducible apply NoSlots.inBlock)) aSp ?_
    refine om_y rfl (y_move rfl) ?_
    refine om_y rfl (y_move rfl) ?_
    refine om_two rfl rfl ?_ ?_ 
    · skip
      refine ow_y (y_load F.sc3 rfl (by rfl)) ?_
      refine ow_nil ?_
      refine om_next aSp ?_
      refine om_y rfl (y_addI rfl rfl (by omega)) ?_
      refine om_two rfl rfl ?_ ?_ 
      · skip
        refine ow_y (y_load F.sc3 rfl (by rfl)) ?_
        refine ow_nil ?_
        refine om_next aSp ?_
        refine om_y rfl (y_subI rfl rfl (by omega)) ?_
        refine om_h rfl ?_
        refine (ow_store F.sz3 rfl rfl (by first | rfl | assumption) (by rfl) (by (try simp only [List.set_cons_zero, List.set_cons_succ, Nat.reduceAdd, Nat.reduceMul, Int.reduceToNat, Nat.zero_add, Nat.add_zero]); rfl) ?_)
        refine ow_nil ?_
        refine om_next aSp ?_
        refine om_h rfl ?_
        refine (ow_store F.sz3 rfl rfl (by first | rfl | assumption) (by rfl) (by (try simp only [List.set_cons_zero, List.set_cons_succ, Nat.reduceAdd, Nat.reduceMul, Int.reduceToNat, Nat.zero_add, Nat.add_zero]); rfl) ?_)
        refine ow_nil ?_
        refine om_next aSp ?_
        refine om_nil ?_
        rw [show ((at' : Nat) : Int) + (q : Int) = ((at' + q : Nat) : Int) by omega, show ((n' : Nat) : Int) - (q : Int) = ((n' - q : Nat) : Int) by omega]
        refine kw_rnd (fun _ _ h => h) (⟨(i, at' + q, n' - q, acc ++ (b.drop (f * 64)).take (q * 64), ptr b4, v35), by (show n' - q ≤ i); omega, by (show at' + q + (n' - q) ≤ 5000); omega, by (show (acc ++ (b.drop (f * 64)).take (q * 64)).length + 64 * (n' - q) ≤ 320000); rw [List.length_append, List.length_take, List.length_drop]; omega, .inr rfl, fun h => by have h := congrArg List.length h; simp only [List.length_append, List.length_take, List.length_drop, List.length_nil] at h; omega, he⟩) (by first | omega | (simp only; omega)) (by repeat (first | exact Sub.nil | refine Sub.cons rfl ?_)) aSp
      · skip
        refine (ow_store F.sz3 rfl rfl (by first | rfl | assumption) (by rfl) (by (try simp only [List.set_cons_zero, List.set_cons_succ, Nat.reduceAdd, Nat.reduceMul, Int.reduceToNat, Nat.zero_add, Nat.add_zero]); rfl) ?_)
        refine ow_nil ?_
        refine om_next aSp ?_
        refine om_h rfl ?_
        refine ow_y (y_load F.sc3 rfl (by rfl)) ?_
        refine ow_nil ?_
        refine om_next aSp ?_
        refine om_y rfl (y_subI rfl rfl (by omega)) ?_
        refine om_h rfl ?_
        refine (ow_store F.sz3 rfl rfl (by first | rfl | assumption) (by rfl) (by (try simp only [List.set_cons_zero, List.set_cons_succ, Nat.reduceAdd, Nat.reduceMul, Int.reduceToNat, Nat.zero_add, Nat.add_zero]); rfl) ?_)
        refine ow_nil ?_
        refine om_next aSp ?_
        refine om_nil ?_
        rw [show ((at' : Nat) : Int) + (q : Int) = ((at' + q : Nat) : Int) by omega, show ((n' : Nat) : Int) - (q : Int) = ((n' - q : Nat) : Int) by omega]
        refine kw_rnd (fun _ _ h => h) (⟨(i, at' + q, n' - q, acc ++ (b.drop (f * 64)).take (q * 64), ptr b4, v35), by (show n' - q ≤ i); omega, by (show at' + q + (n' - q) ≤ 5000); omega, by (show (acc ++ (b.drop (f * 64)).take (q * 64)).length + 64 * (n' - q) ≤ 320000); rw [List.length_append, List.length_take, List.length_drop]; omega, .inr rfl, fun h => by have h := congrArg List.length h; simp only [List.length_append, List.length_take, List.length_drop, List.length_nil] at h; omega, he⟩) (by first | omega | (simp only; omega)) (by repeat (first | exact Sub.nil | refine Sub.cons rfl ?_)) aSp
    · skip
      refine ow_y (y_load F.sc3 rfl (by rfl)) ?_
      refine ow_nil ?_
      refine om_next aSp ?_
      refine om_y rfl (y_subI rfl rfl (by omega)) ?_
      refine om_h rfl ?_
      refine ow_y (y_load F.sc3 rfl (by rfl)) ?_
      refine ow_nil ?_
      refine om_next aSp ?_
      refine om_y rfl (y_addI rfl rfl (by omega)) ?_
      refine om_h rfl ?_
      refine (ow_store F.sz3 rfl rfl (by first | rfl | assumption) (by rfl) (by (try simp only [List.set_cons_zero, List.set_cons_succ, Nat.reduceAdd, Nat.reduceMul, Int.reduceToNat, Nat.zero_add, Nat.add_zero]); rfl) ?_)
      refine ow_nil ?_
      refine om_next aSp ?_
      refine om_h rfl ?_
      refine (ow_store F.sz3 rfl rfl (by first | rfl | assumption) (by rfl) (by (try simp only [List.set_cons_zero, List.set_cons_succ, Nat.reduceAdd, Nat.reduceMul, Int.reduceToNat, Nat.zero_add, Nat.add_zero]); rfl) ?_)
      refine ow_nil ?_
      refine om_next aSp ?_
      refine om_nil ?_
      rw [show ((at' : Nat) : Int) + (q : Int) = ((at' + q : Nat) : Int) by omega, show ((n' : Nat) : Int) - (q : Int) = ((n' - q : Nat) : Int) by omega]
      refine kw_rnd (fun _ _ h => h) (⟨(i, at' + q, n' - q, acc ++ (b.drop (f * 64)).take (q * 64), ptr b4, v35), by (show n' - q ≤ i); omega, by (show at' + q + (n' - q) ≤ 5000); omega, by (show (acc ++ (b.drop (f * 64)).take (q * 64)).length + 64 * (n' - q) ≤ 320000); rw [List.length_append, List.length_take, List.length_drop]; omega, .inr rfl, fun h => by have h := congrArg List.length h; simp only [List.length_append, List.length_take, List.length_drop, List.length_nil] at h; omega, he⟩) (by first | omega | (simp only; omega)) (by repeat (first | exact Sub.nil | refine Sub.cons rfl ?_)) aSp
  · skip
    obtain rfl : n' = 0 := by have h := hb16; simp only [decide_eq_false_iff_not] at h; omega
    rw [rdR_nil] at he
    have hdone : ∀ w, Sat w (bldP b4 p v' acc ++ (RS W a s ++ [R])) → Sat w (doneA b4 acc :: (RS W a s ++ [R])) := fun w h => sat_ex.2 ⟨(p, v'), sat_star.2 (sat_mkfact hv w h)⟩
    refine cw_said (L' := doneA b4 acc :: (RS W a s ++ [R])) (fun w h => hdone w (((h.perm (show Split _ (bldP b4 p v' acc ++ (RS W a s ++ [R])) _ from aSp)).perm List.perm_append_comm).drop)) ?_
    simp only [List.cons_append, List.nil_append]
    refine cw_exit ?_
    exact kw_finR (s := (s, .done acc)) (alsoC_ok' he) rfl rfl aSp
end Go.Proofs.YthlclfdnhnnebaaGreatDoor
end
section
set_option maxRecDepth 4000
set_option maxHeartbeats 4000000
namespace Go.Proofs.YthlclfdnhnnebaaGreatDoor
open Go.Sl Go.Sb
theorem tryC_done {α : Type} {m : M α} {s t : St} {y : α} {e : Int} (h : tryR (alsoC m) (s, .start) = (.ok e, (t, .done y))) : ∃ u, m { s with depth := s.depth + 1 } = (.ok y, u) := by
  unfold tryR tryL andThen alsoC at h
  simp only at h
  split at h <;> rename_i h1
  · simp only [Prod.mk.injEq, Out.ok.injEq] at h
    obtain ⟨rfl, h2, h3⟩ := h
    split at h1
    · cases h1
    · rename_i hd
      cases hm : m { s with depth := s.depth + 1 } with
      | mk o u =>
        rw [hm] at h1
        cases o with
        | ok a =>
          simp only at h1
          split at h1
          · cases h1
          · cases h1; cases h3; exact ⟨_, rfl⟩
        | err e' =>
          simp only at h1
          split at h1
          · cases h1
          · cases h1; cases h3
        | big => cases h1
  · cases h
  · cases h
def textV (p : B × Int) : Value := .tuple #[strV p.1, .int .i64 p.2]
set_option maxRecDepth 4000 in
theorem cread_spec (W : World) (a : Ad) (s : St) (id at_ n : Int) (hlen : ∀ {b : B} {t : St}, readM id at_ n { s with depth := s.depth + 1 } = (.ok b, t) → b.length ≤ 1000000) (hnb : (creadA id at_ n s).1 ≠ .big) :
    Does Tryz.prog 11 #[ptr a.core, .int .u32 id, .int .i64 at_, .int .i64 n] (RS W a s) (Ran fT (RS W a) textV (creadA id at_ n s)) := by
  have e0 : creadA id at_ n s = andThen (tryA (readM id at_ n)) (fun r => ret (if r.1 = 0 then (carOr [] r.2, 0) else ([], r.1))) s := rfl
  have hn := tryA_big (show (tryA (readM id at_ n) s).1 ≠ .big by rw [e0] at hnb; exact big1 hnb)
  refine does_enter Tryz.func11 rfl Tryz.ntmps11 rfl (fun R w0 => ?_)
  simp only [envOf, List.cons_append, List.nil_append]
  refine cw_seq ?_
  refine cw_region ?_
  refine (ow_box rfl (fun b4 => ?_))
  refine (ow_box rfl (fun b5 => ?_))
  refine (ow_box rfl (fun b6 => ?_))
  refine (ow_box rfl (fun b7 => ?_))
  refine ow_y (y_assign rfl) ?_
  refine ow_y (y_assign rfl) ?_
  refine ow_nil ?_
  refine kw_code (fun _ _ h => h) ?_
  refine cw_seq ?_
  refine cw_region ?_
  refine (ow_alloc F.z84 (fun b10 => ?_))
  refine ow_nil ?_
  refine kw_code (fun _ _ h => h) ?_
  refine cw_seq ?_
  refine cw_said (L' := bldP b10 (.pointer none) (.slice none 0 0) [] ++ _) (fun w hs => sat_row_nil 5 1 w hs |>.perm (List.Perm.swap _ _ _)) ?_
  simp only [List.cons_append, List.nil_append]
  refine cw_region ?_
  refine ow_y (y_load F.sc29 rfl (by rfl)) ?_
  refine ow_y (y_nil rfl) ?_
  refine ow_y (y_fld F.fld69_0 rfl) ?_
  refine ow_y (y_core F.sc62 rfl aFd rfl) ?_
  refine ow_y (y_func rfl rfl rfl) ?_
  refine ow_said (sat_pack (N := [celC b4 a, celU b5 id, celI b6 at_, celI b7 n] ++ bldP b10 (.pointer none) (.slice none 0 0) []) aSp) ?_
  refine ow_ran rfl F.hb33 rfl (heapTry_spec (C := Car B) W a (carP (readA0 a b4 b5 b6 b7 b10 id at_ n) (doneA b10)) 34 [ptr b4, ptr b5, ptr b6, ptr b7, ptr b10] (alsoC (readM id at_ n)) s .start F.hb34 hn (fun h => read1_spec W a b4 b5 b6 b7 b10 id at_ n s.bits { s with depth := s.depth + 1 } rfl (alsoC_big.1 h))) aSp (fun e ⟨t, oc⟩ ho => ?_) (fun e t ho => by (repeat (first | with_reducible refine kw_inBlock_panic ?_ | with_reducible refine kw_then_panic ?_)); (exact (tryC_noerr ho).elim))
  try simp only [List.cons_append, List.nil_append]
  refine ow_y (y_assign rfl) ?_
  refine ow_nil ?_
  have e1 := e0.trans (andThen_ok (tryA_ok ho))
  refine kw_code (fun _ _ h => h) ?_
  refine cw_seq ?_
  refine cw_seq ?_
  refine cw_region ?_
  refine ow_y (y_move rfl) ?_
  refine ow_y (y_neq rfl rfl) ?_
  refine ow_nil ?_
  refine kw_code (fun _ _ h => h) ?_
  refine cw_if rfl (fun hb19 => ?_) (fun hb19 => ?_)
  · skip
    have hz : e ≠ 0 := by have h := hb19; simp only [bne_iff_ne, ne_eq] at h; exact h
    refine cw_seq ?_
    refine cw_region ?_
    refine ow_y (y_move rfl) ?_
    refine ow_y (y_assign rfl) ?_
    refine ow_y (y_assign rfl) ?_
    refine ow_nil ?_
    refine kw_code (fun _ _ h => h) ?_
    exact cw_retR (by rw [e1, if_neg hz]; rfl) (fun _ _ h => h) rfl rfl aSp
  · skip
    have hz : e = 0 := by have h := hb19; simp only [bne_eq_false_iff_eq] at h; exact h
    obtain ⟨y, rfl, _⟩ | ⟨_, h9⟩ := tryC_ok ho
    rotate_left
    · exact (h9 hz).elim
    simp only [carP]
    subst hz
    have hyl : y.length ≤ 1000000 := by obtain ⟨u, hu⟩ := tryC_done ho; exact hlen hu
    refine cw_exs (show Fnd _ (doneA b10 y) _ from aFd) fun x => ?_
    obtain ⟨p, v⟩ := x
    simp only [List.cons_append, List.nil_append]
    refine cw_fact (p := y = [] → v = .slice none 0 0) aFd fun hv => ?_
    refine cw_skip ?_
    refine kw_code (fun _ _ h => h) ?_
    refine cw_seq ?_
    by_cases hy0 : y = []
    · skip
      refine cw_region ?_
      have hv2 := hv hy0
      subst hy0
      subst hv2
      refine ow_gives rfl F.hb38 rfl (bstring0_spec b10 p) aSp ?_
      try simp only [List.cons_append, List.nil_append]
      refine ow_y (y_move rfl) ?_
      refine ow_y (y_assign rfl) ?_
      refine ow_y (y_assign rfl) ?_
      refine ow_nil ?_
      refine kw_code (fun _ _ h => h) ?_
      exact cw_retR (by rw [e1, if_pos rfl]; rfl) (fun _ _ h => h) rfl rfl aSp
    · skip
      refine cw_region ?_
      refine ow_gives rfl F.hb38 rfl (bstring_spec b10 p v y hy0 hyl) aSp ?_
      try simp only [List.cons_append, List.nil_append]
      refine ow_y (y_move rfl) ?_
      refine ow_y (y_assign rfl) ?_
      refine ow_y (y_assign rfl) ?_
      refine ow_nil ?_
      refine kw_code (fun _ _ h => h) ?_
      exact cw_retR (by rw [e1, if_pos rfl]; rfl) (fun _ _ h => h) rfl rfl aSp
end Go.Proofs.YthlclfdnhnnebaaGreatDoor
end
section
set_option maxRecDepth 4000
set_option maxHeartbeats 4000000
namespace Go.Proofs.YthlclfdnhnnebaaGreatDoor
open Go.Sl Go.Sb
theorem blank_spec : Does Tryz.prog 73 #[] [] (Gives (strV (zeros 64)) []) := by
  refine does_enter Tryz.func73 rfl Tryz.ntmps73 rfl (fun R w0 => ?_)
  simp only [envOf, List.cons_append, List.nil_append]
  refine cw_seq ?_
  refine cw_region ?_
  refine ow_y (y_assign rfl) ?_
  refine ow_nil ?_
  refine kw_code (fun _ _ h => h) ?_
  refine cw_seq ?_
  refine cw_region ?_
  refine ow_gives rfl F.hb12 rfl (repeat0 64 (by omega)) aSp ?_
  try simp only [List.cons_append, List.nil_append]
  refine ow_y (y_assign rfl) ?_
  refine ow_nil ?_
  refine kw_code (fun _ _ h => h) ?_
  refine cw_retG (fun _ _ h => h) rfl rfl aSp
theorem dlen1_spec (b : Nat) (v : Value) (d : Dk) : Does Tryz.prog 72 #[ptr b] [pts b (.cells #[v, .bool d.armed, .int .i64 d.left, .bool d.dead] 147 (0, 0)), rowA 149 2 v d.l.length (d.l.flatMap secV)] (Gives (.int .i64 d.l.length) [pts b (.cells #[v, .bool d.armed, .int .i64 d.left, .bool d.dead] 147 (0, 0)), rowA 149 2 v d.l.length (d.l.flatMap secV)]) := by
  refine does_enter Tryz.func72 rfl Tryz.ntmps72 rfl (fun R w0 => ?_)
  simp only [envOf, List.cons_append, List.nil_append]
  refine cw_seq ?_
  refine cw_region ?_
  refine ow_y (y_assign rfl) ?_
  refine ow_nil ?_
  refine kw_code (fun _ _ h => h) ?_
  refine cw_seq ?_
  refine cw_region ?_
  refine ow_y (y_move rfl) ?_
  refine ow_y (y_nil rfl) ?_
  refine ow_y (y_fld F.fld147_0 rfl) ?_
  refine ow_y (y_load F.sc145 rfl (by rfl)) ?_
  refine ow_y (y_len_row F.sl145 rfl aFd) ?_
  refine ow_y (y_assign rfl) ?_
  refine ow_nil ?_
  refine kw_code (fun _ _ h => h) ?_
  refine cw_retG (fun _ _ h => h) rfl rfl aSp
def secs (n : Nat) : List Value := (List.replicate n (zeros 64, zeros 64)).flatMap secV
theorem secs_succ (n : Nat) : secs (n + 1) = secs n ++ [strV (zeros 64), strV (zeros 64)] := by unfold secs; rw [List.replicate_succ', List.flatMap_append]; rfl
set_option maxRecDepth 4000 in
theorem dnew_spec (n : Nat) (hn : n ≤ 4096) : Does Tryz.prog 23 #[.int .i64 n] [] (GivesE (fun x : Nat × Value => x.2.oneCell' = true) (fun x => ptr x.1) (fun x => [pts x.1 (.cells #[x.2, .bool false, .int .i64 0, .bool false] 147 (0, 0)), rowA 149 2 x.2 n (secs n)])) := by
  refine does_enter Tryz.func23 rfl Tryz.ntmps23 rfl (fun R w0 => ?_)
  simp only [envOf, List.cons_append, List.nil_append]
  refine cw_seq ?_
  refine cw_region ?_
  refine ow_y (y_assign rfl) ?_
  refine ow_nil ?_
  refine kw_code (fun _ _ h => h) ?_
  refine cw_seq ?_
  refine cw_region ?_
  refine ow_y (y_build F.pl147 rfl (by simp [fillL, nth, Value.cells] <;> rfl)) ?_
  refine (ow_box rfl (fun b5 => ?_))
  refine ow_y (y_assign rfl) ?_
  refine ow_nil ?_
  refine kw_code (fun _ _ h => h) ?_
  refine cw_seq ?_
  refine cw_seq ?_
  refine cw_region ?_
  refine ow_y (y_move rfl) ?_
  refine ow_y (y_max rfl rfl) ?_
  refine ow_y (y_min rfl rfl) ?_
  rw [show min (max ((n : Nat) : Int) 0) 4096 = (n : Int) by omega]
  refine ow_y (y_move rfl) ?_
  refine ow_nil ?_
  refine kw_code (fun _ _ h => h) ?_
  refine cw_block ?_
  refine cw_said (L' := rowA 149 2 (.slice none 0 0) 0 (secs 0) :: _) (fun w hs => sat_row_nil 149 2 w hs) ?_
  refine cw_loop (X := {y : Nat × Value // y.1 ≤ n ∧ y.2.oneCell' = true}) (fun y => [(3, ptr b5), (8, .int .i64 n), (9, .int .i64 y.1.1)]) (fun y => [pts b5 (.cells #[y.1.2, .bool false, .int .i64 0, .bool false] 147 (0, 0)), rowA 149 2 y.1.2 y.1.1 (secs y.1.1), R]) (fun y => n - y.1.1) ⟨(0, .slice none 0 0), by omega, rfl⟩ (by repeat (first | exact Sub.nil | refine Sub.cons rfl ?_)) aSp ?_
  rintro ⟨⟨i, v⟩, hi, hv⟩ m0 hm0
  try simp only at hm0
  try dsimp only
  simp only at hi hv
  refine cw_seq ?_
  refine cw_region ?_
  refine ow_y (y_lss rfl rfl) ?_
  refine ow_nil ?_
  refine kw_code (fun _ _ h => h) ?_
  refine cw_seq ?_
  refine cw_if rfl (fun hb10 => ?_) (fun hb10 => ?_)
  · skip
    have hin : i < n := by have := of_decide_eq_true hb10; omega
    refine cw_skip ?_
    refine kw_code (fun _ _ h => h) ?_
    refine cw_seq ?_
    refine cw_block ?_
    refine cw_floatN 12 (by rfl) (.soft 0 (.soft 1 (.soft 2 (.soft 3 (.soft 4 (.hard 5 (.hard 6 (.soft 7 (.hard 8 (.hard 9 (.soft 10 (.soft 11 .done)))))))))))) [pts b5 (.cells #[v, .bool false, .int .i64 0, .bool false] 147 (0, 0))] F.fol (by kernel_rfl) (by repeat (first | with_reducible exact NoSlots.bp | with_reducible apply NoSlots.then | with_reducible apply NoSlots.inBlock)) aSp ?_
    simp only [List.take_succ_cons, List.take_zero]
    refine omf_y rfl (y_move rfl) ?_
    refine omf_y rfl (y_move rfl) ?_
    refine omf_y rfl (y_nil rfl) ?_
    refine omf_y rfl (y_fld F.fld147_0 rfl) ?_
    refine omf_y rfl (y_load F.sc145 rfl (by rfl)) ?_
    refine omf_hard rfl (fun hok EE FF => ?_)
    simp only [List.cons_append, List.nil_append]
    refine ow_gives rfl F.hb73 rfl (blank_spec) aSp ?_
    try simp only [List.cons_append, List.nil_append]
    refine ow_nil ?_
    refine omf_next (E := EE) (F := FF) (by repeat (first | exact Tl.nil | apply Tl.cons)) aFd aSp (hok.put rfl) ?_
    refine omf_hard rfl (fun hok EE FF => ?_)
    simp only [List.cons_append, List.nil_append]
    refine ow_gives rfl F.hb73 rfl (blank_spec) aSp ?_
    try simp only [List.cons_append, List.nil_append]
    refine ow_nil ?_
    refine omf_next (E := EE) (F := FF) (by repeat (first | exact Tl.nil | apply Tl.cons)) aFd aSp (hok.put rfl) ?_
    refine omf_y rfl (y_build F.pl149 rfl (by simp [fillL, nth, Value.cells] <;> rfl)) ?_
    refine omf_hard rfl (fun hok EE FF => ?_)
    simp only [List.cons_append, List.nil_append]
    refine (ow_buildSlice F.sl145 F.z149 rfl rfl rfl (by simp [fillL, madeL, Value.cells] <;> rfl) (fun b19 => ?_))
    refine ow_nil ?_
    refine omf_next (E := EE) (F := FF) (by repeat (first | exact Tl.nil | apply Tl.cons)) aFd aSp (hok.put rfl) ?_
    refine omf_hard rfl (fun hok EE FF => ?_)
    simp only [List.cons_append, List.nil_append]
    refine (ow_append F.sl145 F.tb149 F.z149 rfl rfl rfl aFd (src_blk F.sl145 (by simp; rfl) (by simp) (by simp [Value.oneCell'])) (by simp only [maxLen]; omega) (by omega) (fun v20 hv20 => ?_))
    refine ow_nil ?_
    refine omf_next (E := EE) (F := FF) (by repeat (first | exact Tl.nil | apply Tl.cons)) aFd aSp (hok.put rfl) ?_
    refine omf_y rfl (y_nil rfl) ?_
    refine omf_y rfl (y_fld F.fld147_0 rfl) ?_
    refine omf_nil ?_
    refine kw_last ?_
    refine (ow_store F.sz145 rfl rfl (by first | rfl | assumption) (by rfl) (by (try simp only [List.set_cons_zero, List.set_cons_succ, Nat.reduceAdd, Nat.reduceMul, Int.reduceToNat, Nat.zero_add, Nat.add_zero]); rfl) ?_)
    refine ow_nil ?_
    rw [← secs_succ]
    refine kw_code (fun _ _ h => h) ?_
    refine cw_region ?_
    refine ow_y (y_addI rfl rfl (by omega)) ?_
    refine ow_y (y_move rfl) ?_
    refine ow_nil ?_
    refine kw_rnd (fun _ _ h => h) (⟨(i + 1, v20), hin, hv20⟩) (by first | omega | (simp only; omega)) (by repeat (first | exact Sub.nil | refine Sub.cons rfl ?_)) aSp
  · skip
    obtain rfl : i = n := by have := of_decide_eq_false hb10; omega
    refine cw_exit ?_
    refine kw_code (fun _ _ h => h) ?_
    refine cw_seq ?_
    refine cw_region ?_
    refine ow_y (y_move rfl) ?_
    refine ow_y (y_assign rfl) ?_
    refine ow_nil ?_
    refine kw_code (fun _ _ h => h) ?_
    refine cw_retE (b5, v) hv (fun _ _ h => h) rfl rfl aSp
end Go.Proofs.YthlclfdnhnnebaaGreatDoor
end
section
set_option maxRecDepth 4000
set_option maxHeartbeats 4000000
namespace Go.Proofs.YthlclfdnhnnebaaGreatDoor
open Go.Sl Go.Sb
abbrev dkN (b : Nat) (v : Value) (n : Nat) : List Asrt := [pts b (.cells #[v, .bool false, .int .i64 0, .bool false] 147 (0, 0)), rowA 149 2 v n (secs n)]
theorem dlenN_spec (b : Nat) (v : Value) (n : Nat) : Does Tryz.prog 72 #[ptr b] (dkN b v n) (Gives (.int .i64 n) (dkN b v n)) := by
  have h := dlen1_spec b v (dnew n)
  simp only [dnew, List.length_replicate] at h
  exact h
structure HN where
  log : Nat
  gr : Nat
  grl : Nat
  refs : Nat
  by_ : Nat
  heap : Nat
abbrev heapN (x : HN) (bd n : Nat) : List Asrt := [pts x.heap (.cells #[ptr bd, ptr x.log, ptr x.gr, .map (some x.refs), .map (some x.by_), .slice none 0 0, .int .i64 0] 144 (0, 0)), pts x.log (.cells #[.slice none 0 0, .int .i64 0] 139 (0, 0)),
  mapP x.refs intV intV ([] : List (Int × Int)), mapP x.by_ intV intV ([] : List (Int × Int)), pts x.gr (.cells (gcells 2 x.grl (List.replicate n 0)).toArray 198 (0, 0)), pts x.grl (.cells ((List.replicate n 0).map gst).toArray 3 (0, 0))]
theorem hnew_spec (bd : Nat) (v : Value) (n : Nat) (hn : n ≤ 4000) : Does Tryz.prog 22 #[ptr bd, .int .i64 2] (dkN bd v (n + 2)) (GivesE (fun _ : HN => True) (fun x => ptr x.heap) (fun x => heapN x bd n ++ dkN bd v (n + 2))) := by
  refine does_enter Tryz.func22 rfl Tryz.ntmps22 rfl (fun R w0 => ?_)
  simp only [envOf, List.cons_append, List.nil_append]
  refine cw_seq ?_
  refine cw_region ?_
  refine ow_y (y_assign rfl) ?_
  refine ow_nil ?_
  refine kw_code (fun _ _ h => h) ?_
  refine cw_seq ?_
  refine cw_region ?_
  refine ow_y (y_move rfl) ?_
  refine ow_y (y_build F.pl139 rfl (by simp [fillL, nth, Value.cells] <;> rfl)) ?_
  refine (ow_box rfl (fun b7 => ?_))
  refine ow_y (y_move rfl) ?_
  refine ow_y (y_move rfl) ?_
  refine ow_gives rfl F.hb72 rfl (dlenN_spec bd v (n + 2)) aSp ?_
  try simp only [List.cons_append, List.nil_append]
  refine ow_givesE rfl F.hb71 rfl (gnew_spec 2 n ((n + 2 : Nat) : Int) (by omega) (by omega) (by omega)) aSp ?_
  rintro ⟨bg, bgl⟩ _
  try simp only [List.cons_append, List.nil_append]
  refine (ow_makeMap (fun b12 => ?_))
  refine (ow_makeMap (fun b13 => ?_))
  refine ow_said (fun w h => mapP_new intV intV ((show Fnd _ (pts b12 _) _ from aFd).sat h)) ?_
  refine ow_said (fun w h => mapP_new intV intV ((show Fnd _ (pts b13 _) _ from aFd).sat h)) ?_
  refine ow_y (y_build F.pl144 rfl (by simp [fillL, nth, Value.cells] <;> rfl)) ?_
  refine (ow_box rfl (fun b15 => ?_))
  refine ow_y (y_assign rfl) ?_
  refine ow_nil ?_
  refine kw_code (fun _ _ h => h) ?_
  refine cw_retE ({ log := b7, gr := bg, grl := bgl, refs := b12, by_ := b13, heap := b15 } : HN) trivial (fun _ _ h => h) rfl rfl aSp
theorem xnew_spec (bh : Nat) (bits : Nat) (hb : 1 ≤ bits ∧ bits ≤ 256) : Does Tryz.prog 70 #[ptr bh, .int .i64 bits] [] (GivesE (fun _ : Nat × Nat => True) (fun x => ptr x.1) (fun x => [pts x.1 (.cells #[ptr bh, .int .i64 bits, .map (some x.2)] 195 (0, 0)), mapP x.2 sumV intV ([] : List (B × Int))])) := by
  refine does_enter Tryz.func70 rfl Tryz.ntmps70 rfl (fun R w0 => ?_)
  simp only [envOf, List.cons_append, List.nil_append]
  refine cw_seq ?_
  refine cw_region ?_
  refine ow_y (y_assign rfl) ?_
  refine ow_nil ?_
  refine kw_code (fun _ _ h => h) ?_
  refine cw_seq ?_
  refine cw_region ?_
  refine ow_y (y_move rfl) ?_
  refine ow_y (y_move rfl) ?_
  refine ow_y (y_max rfl rfl) ?_
  refine ow_y (y_min rfl rfl) ?_
  refine (ow_makeMap (fun b9 => ?_))
  rw [show min (max ((bits : Nat) : Int) 1) 256 = (bits : Int) by omega]
  refine ow_y (y_build F.pl195 rfl (by simp [fillL, nth, Value.cells] <;> rfl)) ?_
  refine ow_said (fun w h => mapP_new sumV intV ((show Fnd _ (pts b9 _) _ from aFd).sat h)) ?_
  refine (ow_box rfl (fun b11 => ?_))
  refine ow_y (y_assign rfl) ?_
  refine ow_nil ?_
  refine kw_code (fun _ _ h => h) ?_
  refine cw_retE (b11, b9) trivial (fun _ _ h => h) rfl rfl aSp
theorem rnew_spec (bh bx : Nat) : Does Tryz.prog 69 #[ptr bh, ptr bx] [] (GivesE (fun _ : Nat => True) (fun x => ptr x) (fun x => [pts x (.cells #[ptr bh, ptr bx] 155 (0, 0))])) := by
  refine does_enter Tryz.func69 rfl Tryz.ntmps69 rfl (fun R w0 => ?_)
  simp only [envOf, List.cons_append, List.nil_append]
  refine cw_seq ?_
  refine cw_region ?_
  refine ow_y (y_assign rfl) ?_
  refine ow_nil ?_
  refine kw_code (fun _ _ h => h) ?_
  refine cw_seq ?_
  refine cw_region ?_
  refine ow_y (y_move rfl) ?_
  refine ow_y (y_move rfl) ?_
  refine ow_y (y_build F.pl155 rfl (by simp [fillL, nth, Value.cells] <;> rfl)) ?_
  refine (ow_box rfl (fun b8 => ?_))
  refine ow_y (y_assign rfl) ?_
  refine ow_nil ?_
  refine kw_code (fun _ _ h => h) ?_
  refine cw_retE b8 trivial (fun _ _ h => h) rfl rfl aSp
structure CN where
  st : Nat
  ix : Nat
  maps : Nat
  core : Nat
  vols : Nat
abbrev coreN (x : CN) (bh bits : Nat) : List Asrt := [pts x.st (.cells #[ptr bh, .int .i64 bits, .map (some x.ix)] 195 (0, 0)), mapP x.ix sumV intV ([] : List (B × Int)), pts x.maps (.cells #[ptr bh, ptr x.st] 155 (0, 0)),
  mapP x.vols u32V entA ([] : List (Int × Ent)), pts x.core (.cells #[ptr bh, ptr x.maps, .map (some x.vols), .int .u32 1, .int .u32 1] 69 (0, 0))]
theorem cnew_spec (bh bits : Nat) (hb : 1 ≤ bits ∧ bits ≤ 256) : Does Tryz.prog 21 #[ptr bh, .int .i64 bits, .int .u32 1] [] (GivesE (fun _ : CN => True) (fun x => ptr x.core) (fun x => coreN x bh bits)) := by
  refine does_enter Tryz.func21 rfl Tryz.ntmps21 rfl (fun R w0 => ?_)
  simp only [envOf, List.cons_append, List.nil_append]
  refine cw_seq ?_
  refine cw_region ?_
  refine ow_y (y_assign rfl) ?_
  refine ow_nil ?_
  refine kw_code (fun _ _ h => h) ?_
  refine cw_seq ?_
  refine cw_region ?_
  refine ow_y (y_move rfl) ?_
  refine ow_y (y_move rfl) ?_
  refine ow_y (y_move rfl) ?_
  refine ow_y (y_move rfl) ?_
  refine ow_givesE rfl F.hb70 rfl (xnew_spec bh bits hb) aSp ?_
  rintro ⟨bs, bi⟩ _
  try simp only [List.cons_append, List.nil_append]
  refine ow_givesE rfl F.hb69 rfl (rnew_spec bh bs) aSp ?_
  rintro bm _
  try simp only [List.cons_append, List.nil_append]
  refine (ow_makeMap (fun b13 => ?_))
  refine ow_y (y_move rfl) ?_
  refine ow_y (y_max rfl rfl) ?_
  refine ow_said (fun w h => mapP_new u32V entA ((show Fnd _ (pts b13 _) _ from aFd).sat h)) ?_
  refine ow_y (y_build F.pl69 rfl (by simp [fillL, nth, Value.cells] <;> rfl)) ?_
  refine (ow_box rfl (fun b17 => ?_))
  refine ow_y (y_assign rfl) ?_
  refine ow_nil ?_
  refine kw_code (fun _ _ h => h) ?_
  refine cw_retE ({ st := bs, ix := bi, maps := bm, core := b17, vols := b13 } : CN) trivial (fun _ _ h => h) rfl rfl aSp
end Go.Proofs.YthlclfdnhnnebaaGreatDoor
end
section
set_option maxRecDepth 4000
set_option maxHeartbeats 4000000
namespace Go.Proofs.YthlclfdnhnnebaaGreatDoor
open Go.Sl Go.Sb
def adN (bd : Nat) (v : Value) (h : HN) (c : CN) : Ad := { disk := bd, vd := v, log := h.log, gr := h.gr, grl := h.grl, refs := h.refs, heap := h.heap, st := c.st, ix := c.ix, maps := c.maps, core := c.core, vols := c.vols }
theorem sat_new {W w : World} {L : List Asrt} {bd n bits : Nat} {v : Value} {h : HN} {c : CN} (hn : n ≤ 4000) (hb : 1 ≤ bits ∧ bits ≤ 256)
    (hs : Sat w (whole W :: (dkN bd v (n + 2) ++ (heapN h bd n ++ (coreN c h.heap bits ++ L))))) : Sat w (RS W (adN bd v h c) (cnew (dnew (n + 2)) 2 bits 1) ++ L) := by
  have hbits : (cnew (dnew (n + 2)) 2 bits 1).bits = bits := by show min (max bits 1) 256 = bits; omega
  have hg : (cnew (dnew (n + 2)) 2 bits 1).g = List.replicate n 0 := by simp [cnew, dnew]
  have hdk : DkOK (dnew (n + 2)) := ⟨fun x hx => by rw [List.eq_of_mem_replicate hx]; simp [zeros], by simp [dnew]; omega, by show 0 < 4611686018427387904; decide⟩
  have hst : StOK (cnew (dnew (n + 2)) 2 bits 1) := ⟨by show 2 ≤ 5000; omega, by rw [hg]; simp; omega, fun x hx => by rw [hg] at hx; rw [List.eq_of_mem_replicate hx]; omega, by intro p hp; cases hp⟩
  have h1 := sat_nostar (sat_row_nil 1 1 w hs)
  have h2 := sat_log (a := adN bd v h c) (by_ := h.by_) (o := []) (log := []) (depth := 0) (v := .slice none 0 0) (vals := []) ⟨by simp, [], [], List.Perm.refl _, rfl, rfl, by simp⟩ (by omega)
    (by simp only [List.cons_append, List.nil_append]; exact aSp) w h1
  have h3 := sat_nostar h2
  have h4 := sat_hl (a := adN bd v h c) (s := cnew (dnew (n + 2)) 2 bits 1) (by_ := h.by_) (gv := .slice none 0 0) (gc := []) (o := []) ⟨by simp [cnew], .inl ⟨rfl, rfl, rfl⟩⟩ hst
    (by rw [openTT, hg]; exact aSp) w h3
  have h5 := sat_mkfact (p := DkOK (dnew (n + 2))) hdk w h4
  exact h5.perm (show Split _ [whole W, dkC (adN bd v h c) (dnew (n + 2)), dkR (adN bd v h c) (dnew (n + 2)), fact (DkOK (dnew (n + 2))), stC (adN bd v h c) (cnew (dnew (n + 2)) 2 bits 1).bits, mpC (adN bd v h c), HL (adN bd v h c) (cnew (dnew (n + 2)) 2 bits 1)] L by rw [hbits]; unfold dkR; rw [show (dnew (n + 2)).l.length = n + 2 by simp [dnew]]; exact aSp)
abbrev wldP (b core bits : Nat) : Asrt := pts b (.cells #[ptr core, .slice none 0 0, .int .i64 1, .int .i64 bits, .int .i64 1] 34 (0, 0))
theorem make_spec (W : World) (n bits : Nat) (hn : n ≤ 4000) (hb : 1 ≤ bits ∧ bits ≤ 256) : Does Tryz.prog 7 #[.int .i64 ((n + 2 : Nat) : Int), .int .i64 bits] [whole W] (GivesE (fun _ : Ad × Nat => True) (fun x => .tuple #[ptr x.2, .bool true]) (fun x => RS W x.1 (cnew (dnew (n + 2)) 2 bits 1) ++ [wldP x.2 x.1.core bits])) := by
  refine does_enter Tryz.func7 rfl Tryz.ntmps7 rfl (fun R w0 => ?_)
  simp only [envOf, List.cons_append, List.nil_append]
  refine cw_seq ?_
  refine cw_region ?_
  refine ow_y (y_assign rfl) ?_
  refine ow_y (y_assign rfl) ?_
  refine ow_nil ?_
  refine kw_code (fun _ _ h => h) ?_
  refine cw_seq ?_
  refine cw_region ?_
  refine ow_y (y_move rfl) ?_
  refine ow_y (y_max rfl rfl) ?_
  refine ow_y (y_min rfl rfl) ?_
  rw [show min (max ((bits : Nat) : Int) 1) 256 = (bits : Int) by omega]
  refine ow_y (y_assign rfl) ?_
  refine ow_nil ?_
  refine kw_code (fun _ _ h => h) ?_
  refine cw_seq ?_
  refine cw_region ?_
  refine ow_y (y_move rfl) ?_
  refine ow_givesE rfl F.hb23 rfl (dnew_spec (n + 2) (by omega)) aSp ?_
  rintro ⟨bd, v⟩ hv
  try simp only [List.cons_append, List.nil_append]
  refine ow_givesE rfl F.hb22 rfl (hnew_spec bd v n hn) aSp ?_
  rintro h _
  try simp only [List.cons_append, List.nil_append]
  refine ow_y (y_move rfl) ?_
  refine ow_givesE rfl F.hb21 rfl (cnew_spec h.heap bits hb) aSp ?_
  rintro c _
  try simp only [List.cons_append, List.nil_append]
  refine ow_y (y_assign rfl) ?_
  refine ow_nil ?_
  refine kw_code (fun _ _ h => h) ?_
  refine cw_seq ?_
  refine cw_mix (.soft 0 (.soft 1 (.soft 2 (.soft 3 (.soft 5 (.soft 6 (.soft 7 (.soft 8 (.soft 9 (.soft 10 (.soft 11 (.soft 12 (.soft 13 (.soft 14 (.soft 15 (.soft 16 (.soft 17 (.soft 18 (.soft 19 (.soft 20 (.hard 4 (.soft 21 (.soft 22 .done))))))))))))))))))))))) [pts c.core (.cells #[ptr h.heap, ptr c.maps, .map (some c.vols), .int .u32 1, .int .u32 1] 69 (0, 0))] F.fol (by kernel_rfl) (by repeat (first | with_reducible exact NoSlots.bp | with_reducible apply NoSlots.then | with_reducible apply NoSlots.inBlock)) aSp ?_
  refine om_y rfl (y_move rfl) ?_
  refine om_y rfl (y_move rfl) ?_
  refine om_y rfl (y_build F.pl32 rfl (by simp [fillL, nth, Value.cells] <;> rfl)) ?_
  refine om_y rfl (y_build F.pl34 rfl (by simp [fillL, nth, Value.cells] <;> rfl)) ?_
  refine om_y rfl (y_move rfl) ?_
  refine om_y rfl (y_ptr_neq F.pt29 rfl rfl) ?_
  refine om_y rfl (y_move rfl) ?_
  refine om_yg rfl (y_move rfl) (fun a w hh => (want_of rfl rfl rfl hh).trans (wTT rfl)) ?_
  refine om_yg rfl (y_nil rfl) (fun a w hh => (want_of rfl rfl rfl hh).trans (wTT rfl)) ?_
  refine om_yg rfl (y_fld F.fld69_0 rfl) (fun a w hh => (want_of rfl rfl rfl hh).trans (wTT rfl)) ?_
  refine om_yg rfl (y_load F.sc62 rfl (by rfl)) (fun a w hh => (want_of rfl rfl rfl hh).trans (wTT rfl)) ?_
  refine om_yg rfl (y_ptr_neq F.pt62 rfl rfl) (fun a w hh => (want_of rfl rfl rfl hh).trans (wTT rfl)) ?_
  refine om_y rfl (y_pickT rfl rfl rfl) ?_
  refine om_y rfl (y_move rfl) ?_
  refine om_yg rfl (y_move rfl) (fun a w hh => (want_of rfl rfl rfl hh).trans (wTT rfl)) ?_
  refine om_yg rfl (y_nil rfl) (fun a w hh => (want_of rfl rfl rfl hh).trans (wTT rfl)) ?_
  refine om_yg rfl (y_fld F.fld69_1 rfl) (fun a w hh => (want_of rfl rfl rfl hh).trans (wTT rfl)) ?_
  refine om_yg rfl (y_load F.sc66 rfl (by rfl)) (fun a w hh => (want_of rfl rfl rfl hh).trans (wTT rfl)) ?_
  refine om_yg rfl (y_ptr_neq F.pt66 rfl rfl) (fun a w hh => (want_of rfl rfl rfl hh).trans (wTT rfl)) ?_
  refine om_y rfl (y_pickT rfl rfl rfl) ?_
  refine om_h rfl ?_
  refine (ow_box rfl (fun b19 => ?_))
  refine ow_nil ?_
  refine om_next aSp ?_
  refine om_y rfl (y_assign rfl) ?_
  refine om_y rfl (y_assign rfl) ?_
  refine om_nil ?_
  refine kw_code (fun _ _ h => h) ?_
  refine cw_said (L' := RS W (adN bd v h c) (cnew (dnew (n + 2)) 2 bits 1) ++ [wldP b19 c.core bits, R]) (fun w hs => sat_new (L := [wldP b19 c.core bits, R]) hn hb (by simp only [List.cons_append, List.nil_append]; exact hs.re aSp)) ?_
  simp only [List.cons_append, List.nil_append]
  exact cw_retE (x := ((adN bd v h c, b19) : Ad × Nat)) trivial (fun _ _ h => h) rfl rfl aSp
end Go.Proofs.YthlclfdnhnnebaaGreatDoor
end
