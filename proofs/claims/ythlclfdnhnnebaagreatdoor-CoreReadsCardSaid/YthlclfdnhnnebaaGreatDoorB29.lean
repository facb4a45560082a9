/- Part of the proof; no statement of its own: A29, A30, A31, A32. -/
import Derived.Test.YthlclfdnhnnebaaGreatDoorB06
import Derived.Test.YthlclfdnhnnebaaGreatDoorB08
import Derived.Test.YthlclfdnhnnebaaGreatDoorB22
import Derived.Test.YthlclfdnhnnebaaGreatDoorB28
import Derived.Test.YthlclfdnhnnebaaGreatDoorB07
set_option linter.all false
section
set_option maxRecDepth 4000
set_option maxHeartbeats 4000000
namespace Go.Proofs.YthlclfdnhnnebaaGreatDoor
open Go.Sl Go.Sb
theorem rget_k (W : World) (a : Ad) (s : St) (root : Int) (at_ : Nat) (hat : at_ < 1000000) : Does Tryz.prog 86 #[ptr a.maps, .int .i64 root, .int .i64 at_] (RS W a s) (Ran fT (fun _ : St => RS W a s) intV (rget 2 root at_ s)) :=
  Does.mono_ran (rget_spec W a s root at_ hat) (fun e L h => (ran_ro (ro_rget 2 root at_ s)).2 h)
theorem xget_k (W : World) (a : Ad) (s : St) (at_ : Int) : Does Tryz.prog 85 #[ptr a.st, .int .i64 at_] (RS W a s) (Ran fT (fun _ : St => RS W a s) strV (xget at_ s)) :=
  Does.mono_ran (xget_spec W a s at_) (fun e L h => (ran_ro (ro_xget at_ s)).2 h)
theorem cget_k (W : World) (a : Ad) (s : St) (x : Ent) (i : Nat) (hi : i < 1000000) : Does Tryz.prog 37 #[ptr a.core, entA x, .int .i64 i] (RS W a s) (Ran fT (fun _ : St => RS W a s) strV (cget x i s)) := by
  have e0 : cget x i s = andThen (rget 2 x.root i) xget s := rfl
  refine does_enter Tryz.func37 rfl Tryz.ntmps37 rfl (fun R w0 => ?_)
  simp only [envOf, List.cons_append, List.nil_append, entA]
  refine cw_seq ?_
  refine cw_region ?_
  refine (ow_box rfl (fun b4 => ?_))
  refine ow_y (y_assign rfl) ?_
  refine ow_nil ?_
  refine kw_code (fun _ _ h => h) ?_
  refine cw_seq ?_
  refine cw_mix (.soft 0 (.soft 1 (.soft 2 (.soft 3 (.soft 4 (.soft 5 (.soft 6 (.soft 7 (.soft 8 (.soft 9 (.soft 10 (.soft 11 (.soft 12 (.soft 13 (.hard 14 (.hard 15 (.soft 16 .done))))))))))))))))) [HL a s, mpC a, entP b4 x] F.fol (by kernel_rfl) (by repeat (first | with_reducible exact NoSlots.bp | with_reducible apply NoSlots.then | with_reducible apply NoSlots.inBlock)) aSp ?_
  refine om_y rfl (y_move rfl) ?_
  refine om_y rfl (y_nil rfl) ?_
  refine om_y rfl (y_fld F.fld69_1 rfl) ?_
  refine om_y rfl (y_core F.sc66 rfl aFd rfl) ?_
  refine om_y rfl (y_nil rfl) ?_
  refine om_y rfl (y_fld F.fld155_1 rfl) ?_
  refine om_y rfl (y_load F.sc134 rfl (by rfl)) ?_
  refine om_y rfl (y_move rfl) ?_
  refine om_y rfl (y_nil rfl) ?_
  refine om_y rfl (y_fld F.fld69_1 rfl) ?_
  refine om_y rfl (y_core F.sc66 rfl aFd rfl) ?_
  refine om_y rfl (y_fld F.fld72_4 rfl) ?_
  refine om_y rfl (y_load F.sc3 rfl (by rfl)) ?_
  refine om_y rfl (y_move rfl) ?_
  refine om_h rfl ?_
  refine ow_ran rfl F.hb86 rfl (rget_k W a s x.root i hi) aSp (fun r t ho => ?_) (fun e t ho => by (repeat (first | with_reducible refine kw_inBlock_panic ?_ | with_reducible refine kw_then_panic ?_)); exact kw_errR ((by rw [e0]; exact andThen_err ho)) (fun _ _ h => h) aSp)
  try simp only [List.cons_append, List.nil_append]
  refine ow_nil ?_
  refine om_next aSp ?_
  refine om_h rfl ?_
  have hq := ho
  rw [show t = s by have := ro_rget 2 x.root i s; rw [ho] at this; exact this] at hq
  refine ow_ran rfl F.hb85 rfl (xget_k W a s r) aSp (fun b t' ho => ?_) (fun e t ho => by (repeat (first | with_reducible refine kw_inBlock_panic ?_ | with_reducible refine kw_then_panic ?_)); exact kw_errR ((by rw [e0, andThen_ok hq]; exact ho)) (fun _ _ h => h) aSp)
  try simp only [List.cons_append, List.nil_append]
  refine ow_nil ?_
  refine om_next aSp ?_
  refine om_y rfl (y_assign rfl) ?_
  refine om_nil ?_
  refine kw_code (fun _ _ h => h) ?_
  exact cw_retR (by rw [e0, andThen_ok hq]; exact ho) (fun _ _ h => h) rfl rfl aSp
theorem cget_spec (W : World) (a : Ad) (s : St) (x : Ent) (i : Nat) (hi : i < 1000000) : Does Tryz.prog 37 #[ptr a.core, entA x, .int .i64 i] (RS W a s) (Ran fT (RS W a) strV (cget x i s)) :=
  Does.mono_ran (cget_k W a s x i hi) (fun e L h => (ran_ro (ro_cget x i s)).1 h)
def optR {α : Type} (o : Out α × St) : Out Unit × (St × Option α) := match o with
  | (.ok a, s) => (.ok (), (s, some a))
  | (.err e, s) => (.err e, (s, none))
  | (.big, s) => (.big, (s, none))
theorem optR_ok {α : Type} {o : Out α × St} {u : Unit} {x : St × Option α} (h : optR o = (.ok u, x)) : ∃ a, x = (x.1, some a) ∧ o = (.ok a, x.1) := by
  obtain ⟨o, s⟩ := o
  cases o <;> (unfold optR at h; cases h)
  exact ⟨_, rfl, rfl⟩
theorem optR_err {α : Type} {o : Out α × St} {e : Int} {x : St × Option α} (h : optR o = (.err e, x)) : x = (x.1, none) ∧ o = (.err e, x.1) := by
  obtain ⟨o, s⟩ := o
  cases o <;> (unfold optR at h; cases h)
  exact ⟨rfl, rfl⟩
def RSo {α : Type} (W : World) (a : Ad) (f : α → Asrt) : St × Option α → List Asrt
  | (t, some y) => [whole W, dkC a t.d, dkR a t.d, fact (DkOK t.d), stC a t.bits, mpC a, HL a t, f y]
  | (t, none) => RS W a t
set_option maxRecDepth 4000 in
theorem cset_spec (W : World) (hW : ShaW W) (a : Ad) (s : St) (b : Nat) (x : Ent) (i : Nat) (data : B) (hi : i < 1000000) (hl : data.length ≤ 1000000) (hbits : s.bits ≤ 256) (hnb : (cset x i data s).1 ≠ .big) :
    Does Tryz.prog 79 #[ptr a.core, ptr b, .int .i64 i, strV data] (RS W a s ++ [entP b x]) (Ran fT (RSo W a (entP b)) unitV (optR (cset x i data s))) := by
  have e0 : cset x i data s = andThen (xput data) (fun r => andThen (mset x.root i r) fun q => ret { x with root := q }) s := rfl
  simp only [List.cons_append, List.nil_append]
  refine does_enter Tryz.func79 rfl Tryz.ntmps79 rfl (fun R w0 => ?_)
  simp only [envOf, List.cons_append, List.nil_append]
  refine cw_mixS (.soft 0 (.soft 1 (.soft 2 (.soft 3 (.soft 4 (.soft 5 (.soft 6 (.soft 7 (.soft 9 (.soft 10 (.soft 11 (.soft 12 (.soft 13 (.soft 14 (.soft 15 (.soft 16 (.soft 17 (.two 8 (.hard 18 (.hard 19 (.soft 20 (.soft 21 (.hard 22 .done))))) 18 (.hard 8 (.hard 19 (.soft 20 (.soft 21 (.hard 22 .done))))))))))))))))))))))) [HLX a, mpC a] F.fol (by kernel_rfl) (by repeat (first | with_reducible exact NoSlots.bp | with_reducible apply NoSlots.then | with_reducible apply NoSlots.inBlock)) (sat_hlx aSp) ?_
  refine om_y rfl (y_move rfl) ?_
  refine om_y rfl (y_move rfl) ?_
  refine om_y rfl (y_nil rfl) ?_
  refine om_y rfl (y_fld F.fld69_1 rfl) ?_
  refine om_y rfl (y_coreX F.sc66 rfl aFd (fun _ _ => rfl)) ?_
  refine om_y rfl (y_move rfl) ?_
  refine om_y rfl (y_nil rfl) ?_
  refine om_y rfl (y_fld F.fld72_4 rfl) ?_
  refine om_y rfl (y_move rfl) ?_
  refine om_y rfl (y_move rfl) ?_
  refine om_y rfl (y_nil rfl) ?_
  refine om_y rfl (y_fld F.fld69_1 rfl) ?_
  refine om_y rfl (y_coreX F.sc66 rfl aFd (fun _ _ => rfl)) ?_
  refine om_y rfl (y_nil rfl) ?_
  refine om_y rfl (y_fld F.fld155_1 rfl) ?_
  refine om_y rfl (y_load F.sc134 rfl (by rfl)) ?_
  refine om_y rfl (y_move rfl) ?_
  refine om_two rfl rfl ?_ ?_ 
  · skip
    refine ow_y (y_load F.sc3 rfl rfl) ?_
    refine ow_nil ?_
    refine om_nextS (sat_hlx aSp) ?_
    refine om_h rfl ?_
    refine ow_ran rfl F.hb126 rfl (xput_spec W hW a s data hl hbits (by rw [e0] at hnb; exact big1 hnb)) aSp (fun r t ho => ?_) (fun e t ho => by (repeat (first | with_reducible refine kw_inBlock_panic ?_ | with_reducible refine kw_then_panic ?_)); exact kw_errR ((show optR (cset x i data s) = (.err e, (t, none)) by rw [e0, andThen_err ho]; rfl)) (fun _ _ h => h) aSp)
    try simp only [List.cons_append, List.nil_append]
    refine ow_nil ?_
    refine om_nextS (sat_hlx aSp) ?_
    refine om_h rfl ?_
    have hb1 := pb_xput data s
    rw [ho] at hb1
    have hb1 : t.bits = s.bits := hb1
    have e1 := e0.trans (andThen_ok ho)
    clear ho
    refine ow_ran rfl F.hb125 rfl (mset_spec W hW a t x.root i r (by omega) hi (by rw [e1] at hnb; exact big1 hnb)) aSp (fun q t' ho => ?_) (fun e t ho => by (repeat (first | with_reducible refine kw_inBlock_panic ?_ | with_reducible refine kw_then_panic ?_)); exact kw_errR ((show optR (cset x i data s) = (.err e, (t, none)) by rw [e1, andThen_err ho]; rfl)) (fun _ _ h => h) aSp)
    try simp only [List.cons_append, List.nil_append]
    refine ow_nil ?_
    refine om_nextS (sat_hlx aSp) ?_
    refine om_y rfl (y_nil rfl) ?_
    refine om_y rfl (y_fld F.fld72_4 rfl) ?_
    refine om_h rfl ?_
    refine ow_store (cs' := entV { x with root := q }) F.sz3 rfl rfl rfl (by rfl) rfl ?_
    refine ow_nil ?_
    refine om_nextS (sat_hlx aSp) ?_
    refine om_nil ?_
    exact kw_finR (s := (t', some { x with root := q })) (by rw [e1, andThen_ok ho]; rfl) rfl rfl aSp
  · skip
    refine ow_ran rfl F.hb126 rfl (xput_spec W hW a s data hl hbits (by rw [e0] at hnb; exact big1 hnb)) aSp (fun r t ho => ?_) (fun e t ho => by (repeat (first | with_reducible refine kw_inBlock_panic ?_ | with_reducible refine kw_then_panic ?_)); exact kw_errR ((show optR (cset x i data s) = (.err e, (t, none)) by rw [e0, andThen_err ho]; rfl)) (fun _ _ h => h) aSp)
    try simp only [List.cons_append, List.nil_append]
    refine ow_nil ?_
    refine om_nextS (sat_hlx aSp) ?_
    refine om_h rfl ?_
    refine ow_y (y_load F.sc3 rfl rfl) ?_
    refine ow_nil ?_
    refine om_nextS (sat_hlx aSp) ?_
    refine om_h rfl ?_
    have hb1 := pb_xput data s
    rw [ho] at hb1
    have hb1 : t.bits = s.bits := hb1
    have e1 := e0.trans (andThen_ok ho)
    clear ho
    refine ow_ran rfl F.hb125 rfl (mset_spec W hW a t x.root i r (by omega) hi (by rw [e1] at hnb; exact big1 hnb)) aSp (fun q t' ho => ?_) (fun e t ho => by (repeat (first | with_reducible refine kw_inBlock_panic ?_ | with_reducible refine kw_then_panic ?_)); exact kw_errR ((show optR (cset x i data s) = (.err e, (t, none)) by rw [e1, andThen_err ho]; rfl)) (fun _ _ h => h) aSp)
    try simp only [List.cons_append, List.nil_append]
    refine ow_nil ?_
    refine om_nextS (sat_hlx aSp) ?_
    refine om_y rfl (y_nil rfl) ?_
    refine om_y rfl (y_fld F.fld72_4 rfl) ?_
    refine om_h rfl ?_
    refine ow_store (cs' := entV { x with root := q }) F.sz3 rfl rfl rfl (by rfl) rfl ?_
    refine ow_nil ?_
    refine om_nextS (sat_hlx aSp) ?_
    refine om_nil ?_
    exact kw_finR (s := (t', some { x with root := q })) (by rw [e1, andThen_ok ho]; rfl) rfl rfl aSp
end Go.Proofs.YthlclfdnhnnebaaGreatDoor
end
section
set_option maxRecDepth 4000
set_option maxHeartbeats 4000000
namespace Go.Proofs.YthlclfdnhnnebaaGreatDoor
open Go.Sl Go.Sb
theorem pb_cset (x : Ent) (i : Nat) (d : B) : PB (cset x i d) := pb_then (pb_xput _) fun _ => pb_then (pb_mset _ _ _) fun _ => pb_ret _
theorem xparts_len {x : Hd} {s : St} (hd : DkOK s.d) : ∀ {n : Nat} {t : St} {b : B}, xparts x n s = (.ok b, t) → b.length = 64 * n
  | 0, t, b, h => by cases h; rfl
  | n + 1, t, b, h => by
    unfold xparts at h
    simp only at h
    have hro := ro_xparts x n
    generalize x.at_.getD (4 - (n + 1)) 0 = i at h
    generalize x.sums.getD (4 - (n + 1)) 0 = c at h
    have key : ∀ {m : M B}, RO m → (∀ {t b}, m s = (.ok b, t) → b.length = 64) → andThen m (fun s => andThen (xparts x n) fun r => ret (s ++ r)) s = (.ok b, t) → b.length = 64 * (n + 1) := by
      intro m hm h64 h
      cases hg : m s with
      | mk o u =>
        have hu : u = s := by have := hm s; rw [hg] at this; exact this
        subst hu
        cases o with
        | ok v =>
          rw [andThen_ok hg] at h
          cases hg2 : xparts x n u with
          | mk o2 u2 =>
            cases o2 with
            | ok r =>
              rw [andThen_ok hg2] at h
              cases h
              rw [List.length_append, h64 hg, xparts_len hd hg2]; omega
            | err e => rw [andThen_err hg2] at h; cases h
            | big => unfold andThen at h; rw [hg2] at h; cases h
        | err e => rw [andThen_err hg] at h; cases h
        | big => unfold andThen at h; rw [hg] at h; cases h
    refine key (ro_if (ro_then (ro_hget _) fun _ => ro_if (fun _ => rfl) (ro_ret _)) (ro_ret _)) ?_ h
    intro t b h
    split at h
    · cases hg : hget i s with
      | mk o u =>
        cases o with
        | ok v =>
          rw [andThen_ok hg] at h
          split at h
          · cases h
          · cases h; exact dread_64 hd (hget_ok hg).2
        | err e => rw [andThen_err hg] at h; cases h
        | big => unfold andThen at h; rw [hg] at h; cases h
    · cases h; rfl
theorem xget_len {s t : St} {a : Int} {b : B} (hd : DkOK s.d) (h : xget a s = (.ok b, t)) : b.length = 256 := by
  unfold xget at h
  split at h
  · cases h; simp [zeros]
  · cases hg : xhead a s with
    | mk o u =>
      cases o with
      | ok x =>
        rw [andThen_ok hg] at h
        have hu := (xhead_len hg).1
        subst hu
        exact xparts_len hd h
      | err e => rw [andThen_err hg] at h; cases h
      | big => unfold andThen at h; rw [hg] at h; cases h
theorem cget_len {x : Ent} {i : Nat} {s t : St} {b : B} (hd : DkOK s.d) (h : cget x i s = (.ok b, t)) : t = s ∧ b.length = 256 := by
  have h1 := ro_cget x i s
  rw [h] at h1
  refine ⟨h1, ?_⟩
  unfold cget at h
  cases hg : rget 2 x.root i s with
  | mk o u =>
    cases o with
    | ok v =>
      rw [andThen_ok hg] at h
      have hu := ro_rget 2 x.root i s
      rw [hg] at hu
      subst hu
      exact xget_len hd h
    | err e => rw [andThen_err hg] at h; cases h
    | big => unfold andThen at h; rw [hg] at h; cases h
theorem patch_go {k : Nat} {x : Ent} {at_ : Nat} {data : B} (h : data ≠ []) : patch (k + 1) x at_ data = andThen (cget x (at_ / 4)) fun was =>
    andThen (cset x (at_ / 4) (was.take (at_ % 4 * 64) ++ data.take (min data.length (256 - at_ % 4 * 64)) ++ was.drop (at_ % 4 * 64 + min data.length (256 - at_ % 4 * 64)))) fun x => patch k x (at_ + min data.length (256 - at_ % 4 * 64) / 64) (data.drop (min data.length (256 - at_ % 4 * 64))) := by
  conv => lhs; unfold patch
  rw [if_neg h]
theorem patch_nil {k : Nat} {x : Ent} {at_ : Nat} : patch k x at_ [] = ret x := by cases k <;> rfl
theorem bs_append (x y : B) : bs (x ++ y) = bs x ++ bs y := by
  apply ByteArray.ext
  rw [ByteArray.data_append]
  simp [bs]
theorem patch_bytes (was d : B) (f n : Nat) : (bs was).extract 0 ((f : Int).toNat) ++ (bs d).extract 0 ((n : Int).toNat) ++ (bs was).extract (((f : Int) + (n : Int)).toNat) (bs was).size = bs (was.take f ++ d.take n ++ was.drop (f + n)) := by
  rw [show ((f : Int) + (n : Int)).toNat = f + n by omega, Int.toNat_natCast, Int.toNat_natCast, bs_take, bs_take, bs_drop, ← bs_append, ← bs_append]
set_option maxRecDepth 4000 in
theorem patch_spec (W : World) (hW : ShaW W) (a : Ad) (s : St) (b : Nat) (x : Ent) (at_ : Nat) (data : B) (hi : at_ + data.length < 1000000) (hbits : s.bits ≤ 256) (hnb : (patchD x at_ data s).1 ≠ .big) :
    Does Tryz.prog 31 #[ptr a.core, ptr b, .int .i64 at_, strV data] (RS W a s ++ [entP b x]) (Ran fT (RSo W a (entP b)) unitV (optR (patchD x at_ data s))) := by
  simp only [List.cons_append, List.nil_append]
  refine does_enter Tryz.func31 rfl Tryz.ntmps31 rfl (fun R w0 => ?_)
  simp only [envOf, List.cons_append, List.nil_append]
  refine cw_block ?_
  refine cw_loop (X := {y : Nat × St × Ent × Nat × B // y.2.2.2.2.length ≤ y.1 ∧ y.2.2.2.1 + y.2.2.2.2.length < 1000000 ∧ y.2.1.bits = s.bits ∧ patchD x at_ data s = patch y.1 y.2.2.1 y.2.2.2.1 y.2.2.2.2 y.2.1}) (fun y => [(0, ptr a.core), (1, ptr b), (2, .int .i64 y.1.2.2.2.1), (3, strV y.1.2.2.2.2)]) (fun y => RS W a y.1.2.1 ++ [entP b y.1.2.2.1, R]) (fun y => y.1.1) ⟨(data.length, s, x, at_, data), Nat.le_refl _, hi, rfl, rfl⟩ (by repeat (first | exact Sub.nil | refine Sub.cons rfl ?_)) aSp ?_
  rintro ⟨⟨k, u, x', at', d⟩, hk, ha, hub, he⟩ m0 hm0
  try simp only at hm0
  try dsimp only
  simp only at hk ha hub he
  simp only [List.cons_append, List.nil_append]
  refine cw_seq ?_
  refine cw_seq ?_
  refine cw_region ?_
  refine ow_y (y_move rfl) ?_
  refine ow_y (y_len_str F.st9 rfl) ?_
  rw [bs_size]
  refine ow_y (y_gtr rfl rfl) ?_
  refine ow_nil ?_
  refine kw_code (fun _ _ h => h) ?_
  refine cw_if rfl (fun hb14 => ?_) (fun hb14 => ?_)
  · skip
    have hd0 : 0 < d.length := by have h := hb14; simp only [decide_eq_true_eq] at h; omega
    obtain ⟨j, rfl⟩ : ∃ j, k = j + 1 := ⟨k - 1, by omega⟩
    rw [patch_go (by intro e; rw [e] at hd0; exact absurd hd0 (by decide))] at he
    obtain ⟨f, hf⟩ : ∃ f, f = at' % 4 * 64 := ⟨_, rfl⟩
    have hfl : f ≤ 192 := by omega
    obtain ⟨n, hn⟩ : ∃ n, n = min d.length (256 - f) := ⟨_, rfl⟩
    rw [← hf, ← hn] at he
    refine cw_skip ?_
    refine kw_code (fun _ _ h => h) ?_
    refine cw_block ?_
    refine cw_seq ?_
    refine cw_region ?_
    refine ow_y (y_move rfl) ?_
    refine ow_y (y_quoI rfl rfl (by omega)) ?_
    refine ow_y (y_move rfl) ?_
    refine ow_y (y_remI rfl rfl (by omega)) ?_
    refine ow_y (y_mulI rfl rfl (by omega)) ?_
    rw [show ((at' : Nat) : Int) / 4 = ((at' / 4 : Nat) : Int) by omega, show ((at' : Nat) : Int) % 4 * 64 = (f : Int) by omega]
    refine ow_y (y_assign rfl) ?_
    refine ow_y (y_assign rfl) ?_
    refine ow_nil ?_
    refine kw_code (fun _ _ h => h) ?_
    refine cw_seq ?_
    refine cw_region ?_
    refine ow_y (y_move rfl) ?_
    refine ow_y (y_len_str F.st9 rfl) ?_
    rw [bs_size]
    refine ow_y (y_move rfl) ?_
    refine ow_y (y_subI rfl rfl (by omega)) ?_
    refine ow_y (y_min rfl rfl) ?_
    rw [show min ((d.length : Nat) : Int) (256 - (f : Int)) = (n : Int) by omega]
    refine ow_y (y_assign rfl) ?_
    refine ow_nil ?_
    refine kw_code (fun _ _ h => h) ?_
    refine cw_seq ?_
    refine cw_fact (p := DkOK u.d) aFd fun hdk => ?_
    refine cw_region ?_
    refine ow_y (y_move rfl) ?_
    refine ow_y (y_move rfl) ?_
    refine ow_y (y_nil rfl) ?_
    refine ow_y (y_loadAgg F.ag72 rfl (by simp [entV]) (extract_all (by simp [entV]))) ?_
    refine ow_y (y_move rfl) ?_
    refine ow_ran rfl F.hb37 rfl (cget_spec W a u x' (at' / 4) (by omega)) aSp (fun was t ho => ?_) (fun e t ho => by (repeat (first | with_reducible refine kw_inBlock_panic ?_ | with_reducible refine kw_then_panic ?_)); exact kw_errR ((show optR (patchD x at_ data s) = (.err e, (t, none)) by rw [he, andThen_err ho]; rfl)) (fun _ _ h => h) aSp)
    try simp only [List.cons_append, List.nil_append]
    obtain ⟨hts, hwl⟩ := cget_len hdk ho
    rw [hts] at ho ⊢
    rw [andThen_ok ho] at he
    have hws : (bs was).size = 256 := by rw [bs_size, hwl]
    have hds : (bs d).size = d.length := bs_size d
    refine ow_y (y_assign rfl) ?_
    refine ow_nil ?_
    refine kw_code (fun _ _ h => h) ?_
    refine cw_seq ?_
    refine cw_tail 16 F.fol (by kernel_rfl) ?_
    simp only [List.take_succ_cons, List.take_zero, List.drop_succ_cons, List.drop_zero]
    refine os_y (y_move rfl) ?_
    refine os_y (y_move rfl) ?_
    refine os_y (y_move rfl) ?_
    refine os_y (y_move rfl) ?_
    refine os_y (y_move rfl) ?_
    refine os_y (y_cutH F.st9 rfl rfl (by omega)) ?_
    refine os_y (y_move rfl) ?_
    refine os_y (y_move rfl) ?_
    refine os_y (y_cutH F.st9 rfl rfl (by omega)) ?_
    refine os_y (y_str_add rfl rfl (by simp only [ByteArray.size_append, ByteArray.size_extract, maxLen]; omega)) ?_
    refine os_y (y_move rfl) ?_
    refine os_y (y_move rfl) ?_
    refine os_y (y_move rfl) ?_
    refine os_y (y_addI rfl rfl (by omega)) ?_
    refine os_y (y_cutL F.st9 rfl rfl (by omega)) ?_
    refine os_y (y_str_add rfl rfl (by simp only [ByteArray.size_append, ByteArray.size_extract, maxLen]; omega)) ?_
    refine os_nil ?_
    rw [patch_bytes was d f n]
    refine ow_ran rfl F.hb79 rfl (cset_spec W hW a u b x' (at' / 4) (was.take f ++ d.take n ++ was.drop (f + n)) (by omega) (by simp only [List.length_append, List.length_take, List.length_drop]; omega) (by omega) (by rw [he] at hnb; exact big1 hnb)) aSp (fun v ⟨t', ox⟩ ho => ?_) (fun e t ho => by (repeat (first | with_reducible refine kw_inBlock_panic ?_ | with_reducible refine kw_then_panic ?_)); (obtain ⟨t1, t2⟩ := t; obtain ⟨hx, hm⟩ := optR_err ho; obtain rfl : t2 = none := congrArg Prod.snd hx; have hm : _ = (Out.err e, t1) := hm; exact kw_errR (by rw [he, andThen_err hm]; rfl) (fun _ _ h => h) aSp))
    try simp only [List.cons_append, List.nil_append]
    refine ow_nil ?_
    obtain ⟨y, hx, hm⟩ := optR_ok ho
    obtain rfl : ox = some y := congrArg Prod.snd hx
    have hm : _ = (Out.ok y, t') := hm
    simp only [RSo, List.cons_append, List.nil_append]
    rw [andThen_ok hm] at he
    have hpb := pb_cset x' (at' / 4) (was.take f ++ d.take n ++ was.drop (f + n)) u
    rw [hm] at hpb
    refine kw_code (fun _ _ h => h) ?_
    refine cw_seq ?_
    refine cw_region ?_
    refine ow_y (y_move rfl) ?_
    refine ow_y (y_move rfl) ?_
    refine ow_y (y_cutL F.st9 rfl rfl (by omega)) ?_
    rw [Int.toNat_natCast, bs_drop]
    refine ow_y (y_assign rfl) ?_
    refine ow_nil ?_
    refine kw_code (fun _ _ h => h) ?_
    refine cw_region ?_
    refine ow_y (y_move rfl) ?_
    refine ow_y (y_move rfl) ?_
    refine ow_y (y_quoI rfl rfl (by omega)) ?_
    refine ow_y (y_addI rfl rfl (by omega)) ?_
    rw [show ((at' : Nat) : Int) + (n : Int) / 64 = ((at' + n / 64 : Nat) : Int) by omega]
    refine ow_y (y_assign rfl) ?_
    refine ow_nil ?_
    refine kw_rnd (fun _ _ h => h) (⟨(j, t', y, at' + n / 64, d.drop n), by (show (d.drop n).length ≤ j); rw [List.length_drop]; omega, by (show at' + n / 64 + (d.drop n).length < 1000000); rw [List.length_drop]; omega, hpb.trans hub, he⟩) (by first | omega | (simp only; omega)) (by repeat (first | exact Sub.nil | refine Sub.cons rfl ?_)) aSp
  · skip
    have hd0 : d = [] := List.eq_nil_of_length_eq_zero (by have h := hb14; simp only [decide_eq_false_iff_not] at h; omega)
    subst hd0
    rw [patch_nil] at he
    refine cw_exit ?_
    exact kw_finR (s := (u, some x')) (by rw [he]; rfl) rfl rfl aSp
end Go.Proofs.YthlclfdnhnnebaaGreatDoor
end
section
set_option maxRecDepth 4000
set_option maxHeartbeats 4000000
namespace Go.Proofs.YthlclfdnhnnebaaGreatDoor
open Go.Sl Go.Sb
section
variable {c : Cx} {op : Oper} {env : List (Nat × Value)} {L M : List Asrt} {a : Ad} {s : St} {v : Value}
theorem y_open (hL : Fnd L (HL a s) M) (h : ∀ by_ gv gc o, Sl.Yields c op env (logO a by_ o s.log s.depth :: (TT a by_ gv gc s ++ M)) v) : Sl.Yields c op env L v := by
  intro act w hh
  obtain ⟨x, hs⟩ := sat_ex.1 (hL.sat hh.sat)
  have h1 := sat_star.1 hs
  obtain ⟨by_, gv, gc, o⟩ := x
  simp only [hlV, List.cons_append] at h1
  have h2 := (sat_fact.1 (h1.perm (List.Perm.swap _ _ _))).2
  exact h by_ gv gc o act w ⟨hh.size, hh.slots, hh.defers, h2, hh.like⟩
end
section
variable {α : Type} {m : M α} {s t : St} {x : St × Car α}
theorem alsoC_ok {u : Unit} (h : alsoC m (s, .start) = (.ok u, x)) : ∃ a, x = (x.1, .done a) ∧ m s = (.ok a, x.1) := by
  unfold alsoC at h
  simp only at h
  split at h <;> cases h
  rename_i e; exact ⟨_, rfl, e⟩
theorem alsoC_err {e : Int} (h : alsoC m (s, .start) = (.err e, x)) : x = (x.1, .lost) ∧ m s = (.err e, x.1) := by
  unfold alsoC at h
  simp only at h
  split at h <;> cases h
  rename_i e; exact ⟨rfl, e⟩
theorem alsoC_big : (alsoC m (s, .start)).1 ≠ .big ↔ (m s).1 ≠ .big := by
  unfold alsoC
  simp only
  split <;> (rename_i e; rw [e]; simp)
theorem alsoC_ok' {a : α} (h : m s = (.ok a, t)) : alsoC m (s, .start) = (.ok (), (t, .done a)) := by unfold alsoC; simp only [h]
theorem alsoC_err' {e : Int} (h : m s = (.err e, t)) : alsoC m (s, .start) = (.err e, (t, .lost)) := by unfold alsoC; simp only [h]
end
def carP {α : Type} (A0 : Asrt) (A1 : α → Asrt) : Car α → Asrt
  | .start => A0
  | .done a => A1 a
  | .lost => star []
abbrev RSC {α : Type} (W : World) (a : Ad) (A0 : Asrt) (A1 : α → Asrt) (x : St × Car α) : List Asrt := RS W a x.1 ++ [carP A0 A1 x.2]
abbrev celC (b : Nat) (a : Ad) : Asrt := pts b (.cells #[ptr a.core] 29 (0, 0))
abbrev celI (b : Nat) (n : Int) : Asrt := pts b (.cells #[.int .i64 n] 3 (0, 0))
abbrev celU (b : Nat) (n : Int) : Asrt := pts b (.cells #[.int .u32 n] 26 (0, 0))
abbrev celF (b : Nat) (g : FuncId) (cap : List Value) : Asrt := pts b (.cells #[.func (.func g) #[] cap.toArray] 1 (0, 0))
theorem pb_hkeep (n : Int) : PB (hkeep n) := pb_prim _ (fun s => { s with keep := max n 0 }) fun _ => rfl
theorem pb_ahead (more : Nat) : PB (Go.Sb.ahead more) := fun s => by
  unfold Go.Sb.ahead
  refine pb_then (pb_hkeep _) (fun _ t => ?_) s
  split <;> rfl
abbrev RunSpec {α : Type} (W : World) (a : Ad) (A0 : Asrt) (A1 : α → Asrt) (g : FuncId) (cap : List Value) (bits : Nat) (m : M α) : Prop := ∀ t : St, t.bits = bits → (m t).1 ≠ .big →
  Does Tryz.prog g cap.toArray (RS W a t ++ [A0]) (Ran fT (RSC W a A0 A1) unitV (alsoC m (t, .start)))
abbrev tryA0 (a : Ad) (A0 : Asrt) (b0 b1 b2 : Nat) (more : Nat) (g : FuncId) (cap : List Value) : Asrt := star [celC b0 a, celI b1 more, celF b2 g cap, A0]
theorem try1_spec {α : Type} (W : World) (a : Ad) (A0 : Asrt) (A1 : α → Asrt) (b0 b1 b2 more : Nat) (g : FuncId) (cap : List Value) (m : M α) (s : St) (hb : hasBody Tryz.prog g = true) (hmo : more ≤ 1000) (hvl : s.vols.length ≤ 1000)
    (hg : RunSpec W a A0 A1 g cap s.bits m) (hnb : (roomC more m s).1 ≠ .big) :
    Does Tryz.prog 76 #[ptr b0, ptr b1, ptr b2] (RS W a s ++ [tryA0 a A0 b0 b1 b2 more g cap]) (Ran fT (RSC W a (tryA0 a A0 b0 b1 b2 more g cap) A1) unitV (alsoC (roomC more m) (s, .start))) := by
  have hnb0 : (Go.Sb.ahead more s).1 ≠ .big := big1 hnb
  have hpb : (Go.Sb.ahead more s).2.bits = s.bits := pb_ahead more s
  obtain ⟨room, hroom⟩ : ∃ r : Int, r = 2 * ((s.vols.length + more : Nat) : Int) := ⟨_, rfl⟩
  have ea : Go.Sb.ahead more s = andThen (hkeep room) (fun _ s => if 0 < more ∧ (freeN s : Int) < room then (.err 8, s) else (.ok (), s)) s := by unfold Go.Sb.ahead; rw [hroom]
  have em : roomC more m s = andThen (Go.Sb.ahead more) (fun _ => m) s := rfl
  simp only [List.cons_append, List.nil_append]
  by_cases hm0 : more = 0
  · skip
    refine does_enter Tryz.func76 rfl Tryz.ntmps76 rfl (fun R w0 => ?_)
    simp only [envOf, List.cons_append, List.nil_append]
    refine cw_star (show Fnd _ (star [celC b0 a, celI b1 more, celF b2 g cap, A0]) _ from aFd) ?_
    simp only [List.cons_append, List.nil_append]
    refine cw_seq ?_
    refine cw_soft F.fol (by kernel_rfl) ?_
    refine os_y (y_load F.sc29 rfl (by rfl)) ?_
    refine os_y (y_nil rfl) ?_
    refine os_y (y_fld F.fld69_2 rfl) ?_
    refine os_y (y_core F.sc67 rfl aFd rfl) ?_
    refine os_y (y_open aFd fun by_ gv gc o => by rw [openTT]; simp only [List.cons_append, List.nil_append]; exact y_mlen F.mp67 rfl aFd) ?_
    refine os_y (y_load F.sc3 rfl (by rfl)) ?_
    refine os_y (y_addI rfl rfl (by omega)) ?_
    refine os_y (y_mulI rfl rfl (by omega)) ?_
    rw [show 2 * (((s.vols.length : Nat) : Int) + ((more : Nat) : Int)) = room by rw [hroom]; omega]
    refine os_y (y_assign rfl) ?_
    refine os_nil ?_
    refine kw_code (fun _ _ h => h) ?_
    refine cw_seq ?_
    refine cw_region ?_
    refine ow_y (y_load F.sc29 rfl (by rfl)) ?_
    refine ow_y (y_nil rfl) ?_
    refine ow_y (y_fld F.fld69_0 rfl) ?_
    refine ow_y (y_core F.sc62 rfl aFd rfl) ?_
    refine ow_y (y_move rfl) ?_
    refine ow_ran rfl F.hb77 rfl (hkeep_spec W a s room (by rw [ea] at hnb0; exact big1 hnb0)) aSp (fun u t ho => ?_) (fun e t ho => by (repeat (first | with_reducible refine kw_inBlock_panic ?_ | with_reducible refine kw_then_panic ?_)); (have h9 : Go.Sb.ahead more s = (.err e, t) := (by rw [ea]; exact andThen_err ho); refine kw_said (fun w h => sat_nostar h) ?_; exact kw_errR (alsoC_err' (em.trans (andThen_err h9))) (fun _ _ h => h) aSp))
    try simp only [List.cons_append, List.nil_append]
    refine ow_nil ?_
    have h9 : Go.Sb.ahead more s = (.ok (), t) := by rw [ea, andThen_ok ho, if_neg (by omega)]
    rw [h9] at hpb
    refine kw_code (fun _ _ h => h) ?_
    refine cw_seq ?_
    refine cw_seq ?_
    refine cw_region ?_
    refine ow_y (y_load F.sc3 rfl (by rfl)) ?_
    refine ow_y (y_gtr rfl rfl) ?_
    refine ow_y (y_move rfl) ?_
    refine ow_skip rfl (fun a w hh => (want_of rfl rfl rfl hh).trans (wTF (by first | rfl | exact decide_eq_false (by omega)))) ?_
    refine ow_skip rfl (fun a w hh => (want_of rfl rfl rfl hh).trans (wTF (by first | rfl | exact decide_eq_false (by omega)))) ?_
    refine ow_skip rfl (fun a w hh => (want_of rfl rfl rfl hh).trans (wTF (by first | rfl | exact decide_eq_false (by omega)))) ?_
    refine ow_skip rfl (fun a w hh => (want_of rfl rfl rfl hh).trans (wTF (by first | rfl | exact decide_eq_false (by omega)))) ?_
    refine ow_skip rfl (fun a w hh => (want_of rfl rfl rfl hh).trans (wTF (by first | rfl | exact decide_eq_false (by omega)))) ?_
    refine ow_skip rfl (fun a w hh => (want_of rfl rfl rfl hh).trans (wTF (by first | rfl | exact decide_eq_false (by omega)))) ?_
    refine ow_skip rfl (fun a w hh => (want_of rfl rfl rfl hh).trans (wTF (by first | rfl | exact decide_eq_false (by omega)))) ?_
    refine ow_y (y_pickF rfl (by first | rfl | exact decide_eq_false (by omega)) rfl) ?_
    refine ow_nil ?_
    refine kw_code (fun _ _ h => h) ?_
    refine cw_false rfl rfl ?_
    refine cw_skip ?_
    refine kw_code (fun _ _ h => h) ?_
    refine cw_region ?_
    refine ow_y (y_load F.sc1 rfl (by rfl)) ?_
    refine ow_ran rfl hb rfl (hg t hpb (big2 hnb h9)) aSp (fun v ⟨t', oc⟩ ho => ?_) (fun e t ho => by (repeat (first | with_reducible refine kw_inBlock_panic ?_ | with_reducible refine kw_then_panic ?_)); (obtain ⟨t1, t2⟩ := t; obtain ⟨hx, hm⟩ := alsoC_err ho; obtain rfl : t2 = .lost := congrArg Prod.snd hx; have hm : _ = (Out.err e, t1) := hm; exact kw_errR (alsoC_err' (em.trans ((andThen_ok h9).trans hm))) (fun _ _ h => h) aSp))
    try simp only [List.cons_append, List.nil_append]
    refine ow_nil ?_
    obtain ⟨y, hx, hm⟩ := alsoC_ok ho
    obtain rfl : oc = .done y := congrArg Prod.snd hx
    have hm : _ = (Out.ok y, t') := hm
    simp only [RSC, carP, List.cons_append, List.nil_append]
    exact kw_finR (s := (t', .done y)) (alsoC_ok' (em.trans ((andThen_ok h9).trans hm))) rfl rfl aSp
  · have hm1 : 0 < more := by omega
    refine does_enter Tryz.func76 rfl Tryz.ntmps76 rfl (fun R w0 => ?_)
    simp only [envOf, List.cons_append, List.nil_append]
    refine cw_star (show Fnd _ (star [celC b0 a, celI b1 more, celF b2 g cap, A0]) _ from aFd) ?_
    simp only [List.cons_append, List.nil_append]
    refine cw_seq ?_
    refine cw_soft F.fol (by kernel_rfl) ?_
    refine os_y (y_load F.sc29 rfl (by rfl)) ?_
    refine os_y (y_nil rfl) ?_
    refine os_y (y_fld F.fld69_2 rfl) ?_
    refine os_y (y_core F.sc67 rfl aFd rfl) ?_
    refine os_y (y_open aFd fun by_ gv gc o => by rw [openTT]; simp only [List.cons_append, List.nil_append]; exact y_mlen F.mp67 rfl aFd) ?_
    refine os_y (y_load F.sc3 rfl (by rfl)) ?_
    refine os_y (y_addI rfl rfl (by omega)) ?_
    refine os_y (y_mulI rfl rfl (by omega)) ?_
    rw [show 2 * (((s.vols.length : Nat) : Int) + ((more : Nat) : Int)) = room by rw [hroom]; omega]
    refine os_y (y_assign rfl) ?_
    refine os_nil ?_
    refine kw_code (fun _ _ h => h) ?_
    refine cw_seq ?_
    refine cw_region ?_
    refine ow_y (y_load F.sc29 rfl (by rfl)) ?_
    refine ow_y (y_nil rfl) ?_
    refine ow_y (y_fld F.fld69_0 rfl) ?_
    refine ow_y (y_core F.sc62 rfl aFd rfl) ?_
    refine ow_y (y_move rfl) ?_
    refine ow_ran rfl F.hb77 rfl (hkeep_spec W a s room (by rw [ea] at hnb0; exact big1 hnb0)) aSp (fun u t ho => ?_) (fun e t ho => by (repeat (first | with_reducible refine kw_inBlock_panic ?_ | with_reducible refine kw_then_panic ?_)); (have h9 : Go.Sb.ahead more s = (.err e, t) := (by rw [ea]; exact andThen_err ho); refine kw_said (fun w h => sat_nostar h) ?_; exact kw_errR (alsoC_err' (em.trans (andThen_err h9))) (fun _ _ h => h) aSp))
    try simp only [List.cons_append, List.nil_append]
    refine ow_nil ?_
    have hok := ho
    refine kw_code (fun _ _ h => h) ?_
    refine cw_seq ?_
    refine cw_seq ?_
    refine cw_region ?_
    refine ow_y (y_load F.sc3 rfl (by rfl)) ?_
    refine ow_y (y_gtr rfl rfl) ?_
    refine ow_y (y_move rfl) ?_
    refine ow_yg (y_load F.sc29 rfl (by rfl)) (fun a w hh => (want_of rfl rfl rfl hh).trans (wTT (by first | rfl | exact decide_eq_true (by omega)))) ?_
    refine ow_yg (y_nil rfl) (fun a w hh => (want_of rfl rfl rfl hh).trans (wTT (by first | rfl | exact decide_eq_true (by omega)))) ?_
    refine ow_yg (y_fld F.fld69_0 rfl) (fun a w hh => (want_of rfl rfl rfl hh).trans (wTT (by first | rfl | exact decide_eq_true (by omega)))) ?_
    refine ow_yg (y_core F.sc62 rfl aFd rfl) (fun a w hh => (want_of rfl rfl rfl hh).trans (wTT (by first | rfl | exact decide_eq_true (by omega)))) ?_
    refine ow_want (fun a w hh => (want_of rfl rfl rfl hh).trans (wTT (by first | rfl | exact decide_eq_true (by omega)))) ?_
    refine ow_gives rfl F.hb78 rfl (hfree_spec a t) aSp ?_
    try simp only [List.cons_append, List.nil_append]
    refine ow_yg (y_move rfl) (fun a w hh => (want_of rfl rfl rfl hh).trans (wTT (by first | rfl | exact decide_eq_true (by omega)))) ?_
    refine ow_yg (y_lss rfl rfl) (fun a w hh => (want_of rfl rfl rfl hh).trans (wTT (by first | rfl | exact decide_eq_true (by omega)))) ?_
    refine ow_y (y_pickT rfl (by first | rfl | exact decide_eq_true (by omega)) rfl) ?_
    refine ow_nil ?_
    refine kw_code (fun _ _ h => h) ?_
    refine cw_if rfl (fun hb28 => ?_) (fun hb28 => ?_)
    · skip
      have h9 : Go.Sb.ahead more s = (.err 8, t) := by rw [ea, andThen_ok hok, if_pos ⟨hm1, of_decide_eq_true hb28⟩]
      refine cw_said (fun w h => sat_nostar h) ?_
      refine cw_region ?_
      refine ow_fails rfl F.hb29 rfl (fail_spec 8) aSp ?_
      simp only [List.cons_append, List.nil_append]
      repeat (first | with_reducible refine kw_inBlock_panic ?_ | with_reducible refine kw_then_panic ?_)
      exact kw_errR (alsoC_err' (em.trans (andThen_err h9))) (fun _ _ h => h) aSp
    · skip
      have h9 : Go.Sb.ahead more s = (.ok (), t) := by rw [ea, andThen_ok hok, if_neg (fun h => of_decide_eq_false hb28 h.2)]
      rw [h9] at hpb
      refine cw_skip ?_
      refine kw_code (fun _ _ h => h) ?_
      refine cw_region ?_
      refine ow_y (y_load F.sc1 rfl (by rfl)) ?_
      refine ow_ran rfl hb rfl (hg t hpb (big2 hnb h9)) aSp (fun v ⟨t', oc⟩ ho => ?_) (fun e t ho => by (repeat (first | with_reducible refine kw_inBlock_panic ?_ | with_reducible refine kw_then_panic ?_)); (obtain ⟨t1, t2⟩ := t; obtain ⟨hx, hm⟩ := alsoC_err ho; obtain rfl : t2 = .lost := congrArg Prod.snd hx; have hm : _ = (Out.err e, t1) := hm; exact kw_errR (alsoC_err' (em.trans ((andThen_ok h9).trans hm))) (fun _ _ h => h) aSp))
      try simp only [List.cons_append, List.nil_append]
      refine ow_nil ?_
      obtain ⟨y, hx, hm⟩ := alsoC_ok ho
      obtain rfl : oc = .done y := congrArg Prod.snd hx
      have hm : _ = (Out.ok y, t') := hm
      simp only [RSC, carP, List.cons_append, List.nil_append]
      exact kw_finR (s := (t', .done y)) (alsoC_ok' (em.trans ((andThen_ok h9).trans hm))) rfl rfl aSp
end Go.Proofs.YthlclfdnhnnebaaGreatDoor
end
section
set_option maxRecDepth 4000
set_option maxHeartbeats 4000000
namespace Go.Proofs.YthlclfdnhnnebaaGreatDoor
open Go.Sl Go.Sb
theorem sat_pack {L N M : List Asrt} (hL : Split L N M) (w : World) (h : Sat w L) : Sat w (star N :: M) := sat_star.2 (h.perm hL)
theorem tryC_ok {α : Type} {m : M α} {s t : St} {c : Car α} {e : Int} (h : tryR (alsoC m) (s, .start) = (.ok e, (t, c))) : (∃ a, c = .done a ∧ e = 0) ∨ (c = .lost ∧ e ≠ 0) := by
  unfold tryR tryL andThen alsoC at h
  simp only at h
  split at h <;> rename_i h1
  · simp only [Prod.mk.injEq, Out.ok.injEq] at h
    obtain ⟨rfl, h2, h3⟩ := h
    split at h1
    · cases h1
    · rename_i hd
      cases hm : m { s with depth := s.depth + 1 } with
      | mk o u =>
        rw [hm] at h1
        cases o with
        | ok a =>
          simp only at h1
          split at h1
          · cases h1
          · cases h1; exact .inl ⟨a, h3.symm, rfl⟩
        | err e' =>
          simp only at h1
          split at h1
          · cases h1
          · rename_i h4; cases h1; exact .inr ⟨h3.symm, fun h5 => h4 (.inr h5)⟩
        | big => cases h1
  · cases h
  · cases h
theorem tryC_noerr {α : Type} {m : M α} {s : St} {x : St × Car α} {e : Int} : tryR (alsoC m) (s, .start) ≠ (.err e, x) := by
  unfold tryR andThen
  intro h
  cases ho : tryL (alsoC m) (s, .start) with
  | mk o u =>
    rw [ho] at h
    cases o with
    | ok a => cases h
    | err e' => exact tryL_noerr _ _ _ _ ho
    | big => cases h
theorem tryA_ok {α : Type} {m : M α} {s t : St} {c : Car α} {e : Int} (h : tryR (alsoC m) (s, .start) = (.ok e, (t, c))) : tryA m s = (.ok (e, c), t) := by unfold tryA tryC; rw [h]
theorem tryA_big {α : Type} {m : M α} {s : St} (h : (tryA m s).1 ≠ .big) : (tryR (alsoC m) (s, .start)).1 ≠ .big := by
  intro e
  apply h
  unfold tryA tryC
  cases ho : tryR (alsoC m) (s, .start) with
  | mk o u =>
    rw [ho] at e
    simp only at e
    subst e
    rfl
theorem ctry_spec {α : Type} (W : World) (a : Ad) (A0 : Asrt) (A1 : α → Asrt) (more : Nat) (g : FuncId) (cap : List Value) (m : M α) (s : St) (hb : hasBody Tryz.prog g = true) (hmo : more ≤ 1000) (hvl : s.vols.length ≤ 1000)
    (hg : RunSpec W a A0 A1 g cap s.bits m) (hnb : (tryA (roomC more m) s).1 ≠ .big) :
    Does Tryz.prog 26 #[ptr a.core, .int .i64 more, .func (.func g) #[] cap.toArray] (RS W a s ++ [A0]) (Ran fT (RSC W a A0 A1) intV (tryR (alsoC (roomC more m)) (s, .start))) := by
  have hn := tryA_big hnb
  simp only [List.cons_append, List.nil_append]
  refine does_enter Tryz.func26 rfl Tryz.ntmps26 rfl (fun R w0 => ?_)
  simp only [envOf, List.cons_append, List.nil_append]
  refine cw_seq ?_
  refine cw_region ?_
  refine (ow_box rfl (fun b3 => ?_))
  refine (ow_box rfl (fun b4 => ?_))
  refine (ow_box rfl (fun b5 => ?_))
  refine ow_y (y_assign rfl) ?_
  refine ow_nil ?_
  refine kw_code (fun _ _ h => h) ?_
  refine cw_seq ?_
  refine cw_region ?_
  refine ow_y (y_load F.sc29 rfl (by rfl)) ?_
  refine ow_y (y_nil rfl) ?_
  refine ow_y (y_fld F.fld69_0 rfl) ?_
  refine ow_y (y_core F.sc62 rfl aFd rfl) ?_
  refine ow_y (y_func rfl rfl rfl) ?_
  refine ow_said (sat_pack (N := [celC b3 a, celI b4 more, celF b5 g cap, A0]) aSp) ?_
  refine ow_ran rfl F.hb33 rfl (heapTry_spec (C := Car α) W a (carP (tryA0 a A0 b3 b4 b5 more g cap) A1) 76 [ptr b3, ptr b4, ptr b5] (alsoC (roomC more m)) s .start F.hb76 hn (fun h => try1_spec W a A0 A1 b3 b4 b5 more g cap m { s with depth := s.depth + 1 } hb hmo hvl hg (alsoC_big.1 h))) aSp (fun e ⟨t, oc⟩ ho => ?_) (fun e t ho => by (repeat (first | with_reducible refine kw_inBlock_panic ?_ | with_reducible refine kw_then_panic ?_)); (exact (tryC_noerr ho).elim))
  try simp only [List.cons_append, List.nil_append]
  refine ow_y (y_assign rfl) ?_
  refine ow_nil ?_
  refine kw_code (fun _ _ h => h) ?_
  rcases tryC_ok ho with ⟨y, rfl, rfl⟩ | ⟨rfl, _⟩
  · simp only [carP]; exact cw_retR ho (fun _ _ h => h) rfl rfl aSp
  · simp only [carP]; exact cw_retR ho (fun _ _ h => h) rfl rfl aSp
theorem setNext_big {s : St} {v : Int} (h : (setNext v s).1 ≠ .big) : s.log.length < 1000000000 := room_n h fun h' => by simp [setNext, andThen, back, h']
theorem setNext_eq {s : St} (v : Int) (h : s.log.length < 1000000000) : setNext v s = (.ok (), { s with log := bk s.depth s.log (.next s.next), next := v }) := by
  simp [setNext, andThen, back, show ¬ 1000000000 ≤ s.log.length by omega]
theorem cadd_spec (W : World) (a : Ad) (s : St) (x : Ent) (hnb : (cadd x s).1 ≠ .big) : Does Tryz.prog 75 #[ptr a.core, entA x] (RS W a s) (Ran fT (RS W a) u32V (cadd x s)) := by
  obtain ⟨y, hy⟩ : ∃ y : Ent, y = { x with id := s.next, born := s.epoch } := ⟨_, rfl⟩
  have e0 : cadd x s = andThen (setNext (wrap32 (s.next + 1))) (fun _ => andThen (cput y) fun _ => ret y.id) s := by rw [hy]; rfl
  have hn := setNext_big (show (setNext (wrap32 (s.next + 1)) s).1 ≠ .big by rw [e0] at hnb; exact big1 hnb)
  rw [andThen_ok (setNext_eq _ hn)] at e0
  have hyid : y.id = s.next := by rw [hy]
  refine does_enter Tryz.func75 rfl Tryz.ntmps75 rfl (fun R w0 => ?_)
  simp only [envOf, List.cons_append, List.nil_append, entA]
  refine cw_seq ?_
  refine cw_region ?_
  refine (ow_box rfl (fun b3 => ?_))
  refine ow_y (y_assign rfl) ?_
  refine ow_nil ?_
  refine kw_code (fun _ _ h => h) ?_
  refine cw_seq ?_
  refine cw_mix (.soft 0 (.soft 1 (.soft 2 (.soft 3 (.soft 4 (.soft 5 (.soft 6 (.soft 7 (.soft 8 (.hard 9 (.soft 10 (.hard 11 .done)))))))))))) [HL a s] F.fol (by kernel_rfl) (by repeat (first | with_reducible exact NoSlots.bp | with_reducible apply NoSlots.then | with_reducible apply NoSlots.inBlock)) aSp ?_
  refine om_y rfl (y_move rfl) ?_
  refine om_y rfl (y_nil rfl) ?_
  refine om_y rfl (y_fld F.fld69_3 rfl) ?_
  refine om_y rfl (y_core F.sc26 rfl aFd rfl) ?_
  refine om_y rfl (y_move rfl) ?_
  refine om_y rfl (y_nil rfl) ?_
  refine om_y rfl (y_fld F.fld69_4 rfl) ?_
  refine om_y rfl (y_core F.sc26 rfl aFd rfl) ?_
  refine om_y rfl (y_fld F.fld72_0 rfl) ?_
  refine om_h rfl ?_
  refine (ow_store F.sz26 rfl rfl (by first | rfl | assumption) (by rfl) (by (try simp only [List.set_cons_zero, List.set_cons_succ, Nat.reduceAdd, Nat.reduceMul, Int.reduceToNat, Nat.zero_add, Nat.add_zero]); rfl) ?_)
  refine ow_nil ?_
  refine om_next aSp ?_
  refine om_y rfl (y_fld F.fld72_5 rfl) ?_
  refine om_h rfl ?_
  refine (ow_store F.sz26 rfl rfl (by first | rfl | assumption) (by rfl) (by (try simp only [List.set_cons_zero, List.set_cons_succ, Nat.reduceAdd, Nat.reduceMul, Int.reduceToNat, Nat.zero_add, Nat.add_zero]); rfl) ?_)
  refine ow_nil ?_
  refine om_next aSp ?_
  refine om_nil ?_
  refine kw_said (L' := entP b3 y :: (RS W a s ++ [R])) (fun w h => by rw [hy]; exact h.re aSp) ?_
  simp only [List.cons_append, List.nil_append]
  refine kw_code (fun _ _ h => h) ?_
  refine cw_seq ?_
  refine cw_hl aFd fun by_ gv gc o hg hok => ?_
  simp only [openTT, ccells, hcells, List.cons_append, List.nil_append]
  refine cw_tail 15 F.fol (by kernel_rfl) ?_
  simp only [List.take_succ_cons, List.take_zero, List.drop_succ_cons, List.drop_zero]
  refine os_y (y_move rfl) ?_
  refine os_y (y_nil rfl) ?_
  refine os_y (y_fld F.fld69_0 rfl) ?_
  refine os_y (y_load F.sc62 rfl (by rfl)) ?_
  refine os_y (y_nil rfl) ?_
  refine os_y (y_fld F.fld144_1 rfl) ?_
  refine os_y (y_load F.sc136 rfl (by rfl)) ?_
  refine os_y (y_move rfl) ?_
  refine os_y (y_nil rfl) ?_
  refine os_y (y_fld F.fld69_3 rfl) ?_
  refine os_y (y_move rfl) ?_
  refine os_y (y_nil rfl) ?_
  refine os_y (y_fld F.fld69_3 rfl) ?_
  refine os_y (y_load F.sc26 rfl (by rfl)) ?_
  refine os_y (y_add rfl rfl) ?_
  refine os_nil ?_
  rw [show IntKind.u32.wrap (s.next + 1) = wrap32 (s.next + 1) from IntKind.wrap_u32 _]
  refine ow_givesE rfl F.hb122 rfl (setU32_spec a by_ o s.log s.depth s.next (wrap32 (s.next + 1)) s.epoch hn) aSp ?_
  rintro e _
  try simp only [List.cons_append, List.nil_append]
  refine ow_nil ?_
  refine kw_said (sat_hl (s := { s with log := bk s.depth s.log (.next s.next), next := wrap32 (s.next + 1) }) hg hok aSp) ?_
  refine kw_code (fun _ _ h => h) ?_
  refine cw_seq ?_
  refine cw_region ?_
  refine ow_y (y_move rfl) ?_
  refine ow_y (y_loadAgg F.ag72 rfl (by simp [entV]) (extract_all (by simp [entV]))) ?_
  refine ow_ran rfl F.hb32 rfl (cput_spec W a { s with log := bk s.depth s.log (.next s.next), next := wrap32 (s.next + 1) } y (by rw [e0] at hnb; exact big1 hnb)) aSp (fun u t ho => ?_) (fun e t ho => by (repeat (first | with_reducible refine kw_inBlock_panic ?_ | with_reducible refine kw_then_panic ?_)); exact kw_errR ((by rw [e0]; exact andThen_err ho)) (fun _ _ h => h) aSp)
  try simp only [List.cons_append, List.nil_append]
  refine ow_nil ?_
  refine kw_code (fun _ _ h => h) ?_
  refine cw_seq ?_
  refine cw_region ?_
  refine ow_y (y_fld F.fld72_0 rfl) ?_
  refine ow_y (y_load F.sc26 rfl (by rfl)) ?_
  refine ow_y (y_assign rfl) ?_
  refine ow_nil ?_
  refine kw_code (fun _ _ h => h) ?_
  exact cw_retR (by rw [e0, andThen_ok ho]; rfl) (fun _ _ h => h) rfl rfl aSp
end Go.Proofs.YthlclfdnhnnebaaGreatDoor
end
