/- Part of the proof; no statement of its own: A19, A20. -/
import Derived.Test.YthlclfdnhnnebaaGreatDoorB06
import Derived.Test.YthlclfdnhnnebaaGreatDoorB08
import Derived.Test.YthlclfdnhnnebaaGreatDoorB22
import Derived.Test.YthlclfdnhnnebaaGreatDoorB24
import Derived.Test.YthlclfdnhnnebaaGreatDoorB07
set_option linter.all false
section
set_option maxRecDepth 4000
set_option maxHeartbeats 4000000
namespace Go.Proofs.YthlclfdnhnnebaaGreatDoor
open Go.Sl Go.Sb
theorem dropIndex_eq {s : St} (k : B) (h : s.log.length < 1000000000) : dropIndex k s = (.ok (), { s with log := bk s.depth s.log (.index k (mget k s.index)), index := mdel k s.index }) := by
  simp [dropIndex, andThen, back, show ¬ 1000000000 ≤ s.log.length by omega]
theorem putIndex_eq {s : St} (k : B) (v : Int) (h : s.log.length < 1000000000) : putIndex k v s = (.ok (), { s with log := bk s.depth s.log (.index k (mget k s.index)), index := mput k v s.index }) := by
  simp [putIndex, andThen, back, show ¬ 1000000000 ≤ s.log.length by omega]
def PB {α : Type} (m : M α) : Prop := ∀ s, (m s).2.bits = s.bits
theorem pb_then {α β : Type} {m : M α} {f : α → M β} (h : PB m) (hf : ∀ a, PB (f a)) : PB (andThen m f) := fun s => by
  unfold andThen
  have h1 := h s
  cases e : m s with
  | mk o t =>
    rw [e] at h1
    cases o with
    | ok a => exact (hf a t).trans h1
    | err e => exact h1
    | big => exact h1
theorem pb_ret {α : Type} (a : α) : PB (ret a : M α) := fun _ => rfl
theorem pb_back (st : Step) : PB (back st) := fun s => by unfold back; split <;> rfl
theorem pb_at {α : Type} {m : St → M α} (h : ∀ s, PB (m s)) : PB (fun s => m s s) := fun s => h s s
theorem pb_prim (st : St → Step) (f : St → St) (hf : ∀ s, (f s).bits = s.bits) : PB (andThen (fun s => back (st s) s) fun _ s => (.ok (), f s)) := pb_then (pb_at (m := fun s => back (st s)) fun _ => pb_back _) fun _ s => hf s
theorem pb_putRefs (k v : Int) : PB (putRefs k v) := pb_prim _ (fun s => { s with refs := mput k v s.refs }) fun _ => rfl
theorem pb_dropRefs (k : Int) : PB (dropRefs k) := pb_prim _ (fun s => { s with refs := mdel k s.refs }) fun _ => rfl
theorem pb_putYoung (k v : Int) : PB (putYoung k v) := pb_prim _ (fun s => { s with young := mput k v s.young }) fun _ => rfl
theorem pb_dropYoung (k : Int) : PB (dropYoung k) := pb_prim _ (fun s => { s with young := mdel k s.young }) fun _ => rfl
theorem pb_setGone (l : List Int) : PB (setGone l) := fun s => by
  unfold setGone; split
  · rfl
  · exact pb_prim (fun s => .gone s.gone) (fun s => { s with gone := l }) (fun _ => rfl) s
theorem pb_hless (k : Int) : PB (hless k) := fun s => by
  unfold hless
  split
  · rfl
  · split
    · rfl
    · split
      · refine pb_then (pb_dropRefs k) (fun _ => pb_then (fun s => pb_back (.back k) { s with g := mvL s.fr s.g k 1 2 }) fun _ => pb_then (fun s => ?_) fun _ => pb_ret true) s
        split
        · exact pb_then (pb_dropYoung k) (fun _ => pb_at (m := fun s => setGone (s.gone ++ [k])) fun _ => pb_setGone _) s
        · rfl
      · exact pb_then (pb_putRefs k _) (fun _ => pb_ret false) s
theorem pb_disk (f : Dk → Out Unit × Dk) : PB (onDisk f) := fun s => by unfold onDisk; cases f s.d; rfl
theorem pb_hput (b : B) : PB (hput b) := fun s => by
  unfold hput
  split
  · rfl
  · exact pb_then (fun s => pb_back _ { s with g := takeL s.g }) (fun _ => pb_then (pb_putRefs _ _) fun _ => pb_then (pb_putYoung _ _) fun _ => pb_then (pb_disk _) fun _ => pb_ret _) s
def lessR (x : Hd) (l : List Int) (s : St) : Out Unit × St := andThen (each lessPos l) (fun _ s => dropIndex (key s.bits x.sum) s) s
section
variable {x : Hd} {k : Int} {l : List Int} {s t : St}
theorem lessR_big (h : (lessR x (k :: l) s).1 ≠ .big) (hk : 0 < k) : (hless k s).1 ≠ .big := by
  have h1 := big1 h
  unfold each at h1
  have h2 := big1 h1
  unfold lessPos at h2
  rw [if_pos hk] at h2
  exact big1 h2
theorem lessR_err {e : Int} (hk : 0 < k) (ho : hless k s = (.err e, t)) : lessR x (k :: l) s = (.err e, t) := by
  unfold lessR each
  rw [andThen_err]
  rw [andThen_err]
  unfold lessPos; rw [if_pos hk, andThen_err ho]
theorem lessR_ok {b : Bool} (hk : 0 < k) (ho : hless k s = (.ok b, t)) : lessR x (k :: l) s = lessR x l t := by
  have h1 : lessPos k s = (.ok (), t) := by unfold lessPos; rw [if_pos hk, andThen_ok ho]; rfl
  unfold lessR
  conv => lhs; unfold each
  unfold andThen
  rw [h1]
theorem lessR_skip (hk : ¬ 0 < k) : lessR x (k :: l) s = lessR x l s := by
  have h1 : lessPos k s = (.ok (), s) := by unfold lessPos; rw [if_neg hk]; rfl
  unfold lessR
  conv => lhs; unfold each
  unfold andThen
  rw [h1]
theorem lessR_nil : lessR x [] s = dropIndex (key s.bits x.sum) s := by unfold lessR each; rw [andThen_ok (show (ret () : M Unit) s = (.ok (), s) from rfl)]
theorem dropIndex_big {k : B} (h : (dropIndex k s).1 ≠ .big) : s.log.length < 1000000000 := room_n h fun h' => by simp [dropIndex, andThen, back, h']
end
theorem mdel_sub {K V : Type} [DecidableEq K] {k : K} {p : K × V} : ∀ {m : List (K × V)}, p ∈ mdel k m → p ∈ m
  | [], h => h
  | (j, u) :: m, h => by
    unfold mdel at h
    split at h
    · exact List.mem_cons_of_mem _ h
    · rcases List.mem_cons.1 h with h | h
      · rw [h]; exact List.mem_cons_self ..
      · exact List.mem_cons_of_mem _ (mdel_sub h)
theorem hd_sumC {x : Hd} (hln : HdLen x) : (hdL x).toArray.extract (0 + 8) (0 + 8 + 32) = (x.sum.map byteV).toArray := by
  rw [show hdL x = (x.at_.map intV ++ (x.sums.map fun n : Nat => Value.int .u32 n)) ++ (x.sum.map byteV ++ []) by simp [hdL]]
  exact extract_app (by rw [List.length_append, List.length_map, List.length_map, hln.n, hln.m]) (by rw [List.length_map, hln.sum])
set_option maxRecDepth 4000 in
theorem xless_spec (W : World) (a : Ad) (s : St) (at_ : Int) (hbits : s.bits ≤ 256) (hnb : (xless at_ s).1 ≠ .big) : Does Tryz.prog 170 #[ptr a.st, .int .i64 at_] (RS W a s) (Ran fT (RS W a) unitV (xless at_ s)) := by
  by_cases h0 : at_ = 0
  · subst h0
    rw [show xless 0 s = (.ok (), s) by unfold xless; rw [if_pos rfl]; rfl]
    refine does_enter Tryz.func170 rfl Tryz.ntmps170 rfl (fun R w0 => ?_)
    simp only [envOf, List.cons_append, List.nil_append]
    refine cw_seq ?_
    refine cw_seq ?_
    refine cw_region ?_
    refine ow_y (y_move rfl) ?_
    refine ow_y (y_eql rfl rfl) ?_
    refine ow_nil ?_
    refine kw_code (fun _ _ h => h) ?_
    refine cw_true rfl rfl ?_
    exact cw_retR rfl (fun _ _ h => h) rfl rfl aSp
  · have e0 : xless at_ s = andThen (xhead at_) (fun x => andThen (hless at_) fun b => if b then andThen (each lessPos x.at_) fun _ s => dropIndex (key s.bits x.sum) s else ret ()) s := by unfold xless; rw [if_neg h0]
    refine does_enter Tryz.func170 rfl Tryz.ntmps170 rfl (fun R w0 => ?_)
    simp only [envOf, List.cons_append, List.nil_append]
    refine cw_seq ?_
    refine cw_seq ?_
    refine cw_region ?_
    refine ow_y (y_move rfl) ?_
    refine ow_y (y_eql rfl rfl) ?_
    refine ow_nil ?_
    refine kw_code (fun _ _ h => h) ?_
    refine cw_false rfl (by simpa using h0) ?_
    refine cw_skip ?_
    refine kw_code (fun _ _ h => h) ?_
    refine cw_seq ?_
    refine cw_region ?_
    refine ow_y (y_move rfl) ?_
    refine ow_y (y_move rfl) ?_
    refine ow_ran rfl F.hb135 rfl (xhead_spec W a s at_) aSp (fun x t ho => ?_) (fun e t ho => by (repeat (first | with_reducible refine kw_inBlock_panic ?_ | with_reducible refine kw_then_panic ?_)); exact kw_errR ((by rw [e0]; exact andThen_err ho)) (fun _ _ h => h) aSp)
    try simp only [List.cons_append, List.nil_append]
    obtain ⟨hts, hln⟩ := xhead_len ho
    rw [hts] at ho ⊢
    rw [andThen_ok ho] at e0
    have hsz : (hdL x).toArray.size = 40 := by rw [List.size_toArray, hdL_len hln]
    have c1 : (x.at_.map intV).length = 4 := by simp [hln.n]
    have hnb1 : (hless at_ s).1 ≠ .big := by rw [e0] at hnb; exact big1 hnb
    refine (ow_alloc F.z213 (fun b4 => ?_))
    refine ow_storeAgg F.sz213 rfl rfl hsz (hdL_one x) (by rw [hsz]; simp [Value.cells]) (splice_all (by rw [hsz]; simp [Value.cells])) ?_
    refine ow_nil ?_
    refine kw_code (fun _ _ h => h) ?_
    refine cw_seq ?_
    refine cw_seq ?_
    refine cw_region ?_
    refine ow_y (y_move rfl) ?_
    refine ow_y (y_nil rfl) ?_
    refine ow_y (y_fld F.fld195_0 rfl) ?_
    refine ow_y (y_load F.sc62 rfl (by rfl)) ?_
    refine ow_y (y_move rfl) ?_
    refine ow_ran rfl F.hb193 rfl (hless_spec W a s at_ hnb1) aSp (fun b t ho => ?_) (fun e t ho => by (repeat (first | with_reducible refine kw_inBlock_panic ?_ | with_reducible refine kw_then_panic ?_)); exact kw_errR ((by rw [e0]; exact andThen_err ho)) (fun _ _ h => h) aSp)
    try simp only [List.cons_append, List.nil_append]
    have ho17 := ho
    rw [andThen_ok ho17] at e0
    refine ow_y (y_not rfl) ?_
    refine ow_nil ?_
    refine kw_code (fun _ _ h => h) ?_
    refine cw_if rfl (fun hb18 => ?_) (fun hb18 => ?_)
    · skip
      have hbf : b = false := by simpa using hb18
      exact cw_retR (by rw [e0, hbf]; rfl) (fun _ _ h => h) rfl rfl aSp
    · skip
      have hbt : b = true := by simpa using hb18
      have he0 : xless at_ s = lessR x (x.at_.drop 0) t := by rw [e0, hbt]; rfl
      refine cw_skip ?_
      refine kw_code (fun _ _ h => h) ?_
      refine cw_seq ?_
      refine cw_seq ?_
      refine cw_region ?_
      refine ow_y (y_fld F.fld213_0 rfl) ?_
      refine ow_y (y_loadAgg F.ag210 rfl (by show 0 + 0 + 4 ≤ (hdL x).toArray.size; rw [hsz]; omega) (extract_app (a := []) rfl c1)) ?_
      refine ow_y (y_move rfl) ?_
      refine ow_nil ?_
      refine kw_code (fun _ _ h => h) ?_
      refine cw_block ?_
      refine cw_loop (X := {y : Nat × St // y.1 ≤ 4 ∧ y.2.bits = s.bits ∧ xless at_ s = lessR x (x.at_.drop y.1) y.2}) (fun y => [(0, ptr a.st), (4, ptr b4), (20, .agg (x.at_.map intV).toArray), (21, .int .i64 y.1.1)]) (fun y => RS W a y.1.2 ++ [pts b4 (.cells (hdL x).toArray 213 (0, 0)), R]) (fun y => 4 - y.1.1) ⟨(0, t), by omega, by have := pb_hless at_ s; rw [ho17] at this; exact this, he0⟩ (by repeat (first | exact Sub.nil | refine Sub.cons rfl ?_)) aSp ?_
      rintro ⟨⟨i, u⟩, hi, hub, he⟩ m0 hm0
      try simp only at hm0
      try dsimp only
      simp only at hi hub he
      simp only [List.cons_append, List.nil_append]
      refine cw_seq ?_
      refine cw_region ?_
      refine ow_y (y_lss rfl rfl) ?_
      refine ow_nil ?_
      refine kw_code (fun _ _ h => h) ?_
      refine cw_seq ?_
      refine cw_if rfl (fun hb22 => ?_) (fun hb22 => ?_)
      · skip
        have hi4 : i < 4 := by have := of_decide_eq_true hb22; omega
        have hil : i < x.at_.length := by rw [hln.n]; exact hi4
        rw [List.drop_eq_getElem_cons hil] at he
        refine cw_skip ?_
        refine kw_code (fun _ _ h => h) ?_
        refine cw_seq ?_
        refine cw_block ?_
        refine cw_seq ?_
        refine cw_region ?_
        refine ow_y (y_ixv F.ar210 F.sc3 rfl rfl (by omega) (nth_map intV x.at_ i _ hil (by omega))) ?_
        refine ow_y (y_assign rfl) ?_
        refine ow_nil ?_
        refine kw_code (fun _ _ h => h) ?_
        refine cw_seq ?_
        refine cw_region ?_
        refine ow_y (y_move rfl) ?_
        refine ow_y (y_gtr rfl rfl) ?_
        refine ow_nil ?_
        refine kw_code (fun _ _ h => h) ?_
        refine cw_if rfl (fun hb25 => ?_) (fun hb25 => ?_)
        · skip
          have hpos : 0 < x.at_[i] := of_decide_eq_true hb25
          refine cw_region ?_
          refine ow_y (y_move rfl) ?_
          refine ow_y (y_nil rfl) ?_
          refine ow_y (y_fld F.fld195_0 rfl) ?_
          refine ow_y (y_load F.sc62 rfl (by rfl)) ?_
          refine ow_y (y_move rfl) ?_
          refine ow_ran rfl F.hb193 rfl (hless_spec W a u x.at_[i] (by rw [he] at hnb; exact lessR_big hnb hpos)) aSp (fun b' t' ho => ?_) (fun e t ho => by (repeat (first | with_reducible refine kw_inBlock_panic ?_ | with_reducible refine kw_then_panic ?_)); exact kw_errR ((by rw [he]; exact lessR_err hpos ho)) (fun _ _ h => h) aSp)
          try simp only [List.cons_append, List.nil_append]
          refine ow_nil ?_
          refine kw_code (fun _ _ h => h) ?_
          refine cw_region ?_
          refine ow_y (y_addI rfl rfl (by omega)) ?_
          refine ow_y (y_move rfl) ?_
          refine ow_nil ?_
          refine kw_rnd (fun _ _ h => h) (⟨(i + 1, t'), hi4, by have := pb_hless x.at_[i] u; rw [ho] at this; exact this.trans hub, he.trans (lessR_ok hpos ho)⟩) (by first | omega | (simp only; omega)) (by repeat (first | exact Sub.nil | refine Sub.cons rfl ?_)) aSp
        · skip
          have hpos : ¬ 0 < x.at_[i] := of_decide_eq_false hb25
          refine cw_skip ?_
          refine kw_code (fun _ _ h => h) ?_
          refine cw_region ?_
          refine ow_y (y_addI rfl rfl (by omega)) ?_
          refine ow_y (y_move rfl) ?_
          refine ow_nil ?_
          refine kw_rnd (fun _ _ h => h) (⟨(i + 1, u), hi4, hub, he.trans (lessR_skip hpos)⟩) (by first | omega | (simp only; omega)) (by repeat (first | exact Sub.nil | refine Sub.cons rfl ?_)) aSp
      · skip
        obtain rfl : i = 4 := by have := of_decide_eq_false hb22; omega
        rw [List.drop_eq_nil_of_le (by rw [hln.n]; exact Nat.le_refl _), lessR_nil] at he
        have hlog := dropIndex_big (show (dropIndex (key u.bits x.sum) u).1 ≠ .big by rw [← he]; exact hnb)
        rw [dropIndex_eq _ hlog] at he
        refine cw_exit ?_
        refine kw_code (fun _ _ h => h) ?_
        refine cw_hl aFd fun by_ gv gc o hg hok => ?_
        simp only [openTT, hcells, List.cons_append, List.nil_append]
        refine cw_mix (.soft 0 (.soft 1 (.soft 2 (.soft 3 (.soft 4 (.soft 5 (.soft 6 (.soft 7 (.soft 8 (.soft 9 (.soft 10 (.soft 11 (.soft 12 (.soft 13 (.soft 14 (.soft 15 (.soft 16 (.hard 17 (.hard 18 .done))))))))))))))))))) [stC a u.bits, pts a.heap (.cells #[ptr a.disk, ptr a.log, ptr a.gr, .map (some a.refs), .map (some by_), gv, .int .i64 u.keep] 144 (0, 0)), pts b4 (.cells (hdL x).toArray 213 (0, 0))] F.fol (by kernel_rfl) (by repeat (first | with_reducible exact NoSlots.bp | with_reducible apply NoSlots.then | with_reducible apply NoSlots.inBlock)) aSp ?_
        refine om_y rfl (y_move rfl) ?_
        refine om_y rfl (y_nil rfl) ?_
        refine om_y rfl (y_fld F.fld195_0 rfl) ?_
        refine om_y rfl (y_load F.sc62 rfl (by rfl)) ?_
        refine om_y rfl (y_nil rfl) ?_
        refine om_y rfl (y_fld F.fld144_1 rfl) ?_
        refine om_y rfl (y_load F.sc136 rfl (by rfl)) ?_
        refine om_y rfl (y_move rfl) ?_
        refine om_y rfl (y_nil rfl) ?_
        refine om_y rfl (y_fld F.fld195_2 rfl) ?_
        refine om_y rfl (y_load F.sc193 rfl (by rfl)) ?_
        refine om_y rfl (y_fld F.fld213_2 rfl) ?_
        refine om_y rfl (y_loadAgg (cs := (hdL x).toArray) (v := (x.sum.map byteV).toArray) F.ag175 rfl (by rw [hsz]; omega) (hd_sumC hln)) ?_
        refine om_y rfl (y_move rfl) ?_
        refine om_y rfl (y_nil rfl) ?_
        refine om_y rfl (y_fld F.fld195_1 rfl) ?_
        refine om_y rfl (y_load F.sc3 rfl (by rfl)) ?_
        refine om_h rfl ?_
        refine ow_gives rfl F.hb174 rfl (shead_spec x.sum u.bits hln.sum (by omega)) aSp ?_
        try simp only [List.cons_append, List.nil_append]
        refine ow_nil ?_
        refine om_next aSp ?_
        refine om_h rfl ?_
        refine ow_givesE rfl F.hb198 rfl (dropSum_spec a by_ o u.log u.depth u.index (headBits u.bits x.sum) hlog hok.2.2.2 (by rw [headBits_len, hln.sum])) aSp ?_
        rintro e _
        try simp only [List.cons_append, List.nil_append]
        refine ow_nil ?_
        refine om_next aSp ?_
        refine om_nil ?_
        refine kw_said (sat_hl (s := { u with log := bk u.depth u.log (.index (key u.bits x.sum) (mget (key u.bits x.sum) u.index)), index := mdel (key u.bits x.sum) u.index }) hg (by exact ⟨hok.1, hok.2.1, hok.2.2.1, fun p hp => hok.2.2.2 p (mdel_sub hp)⟩) aSp) (kw_finR he rfl rfl aSp)
end Go.Proofs.YthlclfdnhnnebaaGreatDoor
end
section
set_option maxRecDepth 4000
set_option maxHeartbeats 4000000
namespace Go.Proofs.YthlclfdnhnnebaaGreatDoor
open Go.Sl Go.Sb
theorem bs_neq (a b : B) : (!((bs a).toList == (bs b).toList)) = decide (a ≠ b) := by
  rw [bs_toList, bs_toList]
  by_cases e : a = b
  · subst e; simp
  · simp [e]
set_option maxRecDepth 4000 in
theorem xput_short (W : World) (a : Ad) (s : St) (data : B) (hl : data.length ≤ 1000000) (h256 : data.length ≠ 256 ∨ allZero data = true) : Does Tryz.prog 126 #[ptr a.st, strV data] (RS W a s) (Ran fT (RS W a) intV (xput data s)) := by
  by_cases h0 : data.length = 256
  · have hz : allZero data = true := h256.resolve_left (fun h => h h0)
    rw [show xput data s = (.ok 0, s) by unfold xput; rw [if_neg (by simp [h0]), if_pos hz]; rfl]
    refine does_enter Tryz.func126 rfl Tryz.ntmps126 rfl (fun R w0 => ?_)
    simp only [envOf, List.cons_append, List.nil_append]
    refine cw_seq ?_
    refine cw_region ?_
    refine ow_y (y_assign rfl) ?_
    refine ow_nil ?_
    refine kw_code (fun _ _ h => h) ?_
    refine cw_seq ?_
    refine cw_seq ?_
    refine cw_region ?_
    refine ow_y (y_move rfl) ?_
    refine ow_y (y_len_str F.st9 rfl) ?_
    rw [bs_size]
    refine ow_y (y_neq rfl rfl) ?_
    refine ow_nil ?_
    refine kw_code (fun _ _ h => h) ?_
    refine cw_false rfl (by rw [h0]; rfl) ?_
    refine cw_skip ?_
    refine kw_code (fun _ _ h => h) ?_
    refine cw_seq ?_
    refine cw_seq ?_
    refine cw_region ?_
    refine ow_y (y_move rfl) ?_
    refine ow_gives rfl F.hb172 rfl (zero_spec data (by omega)) aSp ?_
    try simp only [List.cons_append, List.nil_append]
    refine ow_nil ?_
    refine kw_code (fun _ _ h => h) ?_
    refine cw_true rfl hz ?_
    refine cw_seq ?_
    refine cw_region ?_
    refine ow_y (y_assign rfl) ?_
    refine ow_nil ?_
    refine kw_code (fun _ _ h => h) ?_
    exact cw_retR rfl (fun _ _ h => h) rfl rfl aSp
  · rw [show xput data s = (.err 4, s) by unfold xput; rw [if_pos h0]; rfl]
    refine does_enter Tryz.func126 rfl Tryz.ntmps126 rfl (fun R w0 => ?_)
    simp only [envOf, List.cons_append, List.nil_append]
    refine cw_seq ?_
    refine cw_region ?_
    refine ow_y (y_assign rfl) ?_
    refine ow_nil ?_
    refine kw_code (fun _ _ h => h) ?_
    refine cw_seq ?_
    refine cw_seq ?_
    refine cw_region ?_
    refine ow_y (y_move rfl) ?_
    refine ow_y (y_len_str F.st9 rfl) ?_
    rw [bs_size]
    refine ow_y (y_neq rfl rfl) ?_
    refine ow_nil ?_
    refine kw_code (fun _ _ h => h) ?_
    refine cw_true rfl (by simp only [bne_iff_ne, ne_eq]; omega) ?_
    refine cw_region ?_
    refine ow_fails rfl F.hb29 rfl (fail_spec 4) aSp ?_
    simp only [List.cons_append, List.nil_append]
    repeat (first | with_reducible refine kw_inBlock_panic ?_ | with_reducible refine kw_then_panic ?_)
    exact kw_errR rfl (fun _ _ h => h) aSp
set_option maxRecDepth 4000 in
theorem xput_found (W : World) (hW : ShaW W) (a : Ad) (s : St) (data : B) (h256 : data.length = 256) (hz : allZero data = false) (hbits : s.bits ≤ 256) (a0 : Int) (hm : mget (key s.bits (Sha.sum data)) s.index = some a0) (hnb : (xput data s).1 ≠ .big) :
    Does Tryz.prog 126 #[ptr a.st, strV data] (RS W a s) (Ran fT (RS W a) intV (xput data s)) := by
  have e0 : xput data s = andThen (xget a0) (fun was => if was ≠ data then fail 9 else andThen (hmore a0) fun _ => ret a0) s := by
    unfold xput; rw [if_neg (by simp [h256]), if_neg (by simp [hz])]; simp only [hm]
  have hD := sha_len data
  have hs2 : ((Sha.sum data).map byteV).toArray.size = 32 := by rw [List.size_toArray, List.length_map, hD]
  refine does_enter Tryz.func126 rfl Tryz.ntmps126 rfl (fun R w0 => ?_)
  simp only [envOf, List.cons_append, List.nil_append]
  refine cw_seq ?_
  refine cw_region ?_
  refine ow_y (y_assign rfl) ?_
  refine ow_nil ?_
  refine kw_code (fun _ _ h => h) ?_
  refine cw_seq ?_
  refine cw_seq ?_
  refine cw_region ?_
  refine ow_y (y_move rfl) ?_
  refine ow_y (y_len_str F.st9 rfl) ?_
  rw [bs_size]
  refine ow_y (y_neq rfl rfl) ?_
  refine ow_nil ?_
  refine kw_code (fun _ _ h => h) ?_
  refine cw_false rfl (by rw [h256]; rfl) ?_
  refine cw_skip ?_
  refine kw_code (fun _ _ h => h) ?_
  refine cw_seq ?_
  refine cw_seq ?_
  refine cw_region ?_
  refine ow_y (y_move rfl) ?_
  refine ow_gives rfl F.hb172 rfl (zero_spec data (by omega)) aSp ?_
  try simp only [List.cons_append, List.nil_append]
  refine ow_nil ?_
  refine kw_code (fun _ _ h => h) ?_
  refine cw_false rfl hz ?_
  refine cw_skip ?_
  refine kw_code (fun _ _ h => h) ?_
  refine cw_seq ?_
  refine cw_region ?_
  refine ow_y (y_move rfl) ?_
  refine (ow_buildSlice F.sl247 F.z9 rfl rfl rfl (by simp [fillL, madeL, Value.cells] <;> rfl) (fun b19 => ?_))
  refine ow_said (fun w hs => row_lit (n := 1) (b := b19) (l := [strV data]) (e := 9) rfl ((show Fnd _ (pts b19 _) _ from aFd).sat hs) (by simp [maxLen])) ?_
  refine ow_gives rfl F.hb173 rfl (of_spec W hW (.slice (some ⟨b19, 0, none⟩) 1 1) [data] (by simp [h256]) (by simp)) aSp ?_
  try simp only [List.cons_append, List.nil_append]
  rw [show [data].flatten = data by simp]
  refine (ow_alloc F.z175 (fun b5 => ?_))
  refine ow_storeAgg F.sz175 rfl rfl hs2 (fun x hx => by simp at hx; obtain ⟨_, _, rfl⟩ := hx; rfl) (by rw [hs2]; simp [Value.cells]) (splice_all (by rw [hs2]; simp [Value.cells])) ?_
  refine ow_nil ?_
  refine kw_code (fun _ _ h => h) ?_
  refine cw_seq ?_
  refine cw_seq ?_
  refine cw_hl aFd fun by_ gv gc o hg hok => ?_
  simp only [openTT, hcells, List.cons_append, List.nil_append]
  refine cw_mix (.soft 0 (.soft 1 (.soft 2 (.soft 3 (.soft 4 (.soft 5 (.soft 6 (.soft 7 (.soft 8 (.hard 9 (.soft 10 (.soft 11 (.soft 12 (.soft 13 (.soft 14 (.soft 15 .done)))))))))))))))) [stC a s.bits, pts b5 (.cells ((Sha.sum data).map byteV).toArray 175 (0, 0)), mapP a.ix sumV intV s.index] F.fol (by kernel_rfl) (by repeat (first | with_reducible exact NoSlots.bp | with_reducible apply NoSlots.then | with_reducible apply NoSlots.inBlock)) aSp ?_
  refine om_y rfl (y_move rfl) ?_
  refine om_y rfl (y_nil rfl) ?_
  refine om_y rfl (y_fld F.fld195_2 rfl) ?_
  refine om_y rfl (y_load F.sc193 rfl (by rfl)) ?_
  refine om_y rfl (y_loadAgg F.ag175 rfl (by rw [hs2]; omega) (extract_all hs2)) ?_
  refine om_y rfl (y_move rfl) ?_
  refine om_y rfl (y_nil rfl) ?_
  refine om_y rfl (y_fld F.fld195_1 rfl) ?_
  refine om_y rfl (y_load F.sc3 rfl (by rfl)) ?_
  refine om_h rfl ?_
  refine ow_gives rfl F.hb174 rfl (shead_spec (Sha.sum data) s.bits hD hbits) aSp ?_
  try simp only [List.cons_append, List.nil_append]
  refine ow_nil ?_
  refine om_next aSp ?_
  refine om_y rfl (y_look2 (ek := sumV) (ev := intV) (k := headBits s.bits (Sha.sum data)) F.mp193 keyS hok.2.2.2 (by rw [headBits_len, hD]) F.z3 rfl rfl aFd getInt) ?_
  refine om_y rfl (y_move rfl) ?_
  refine om_y rfl (y_ext rfl rfl) ?_
  refine om_y rfl (y_ext rfl rfl) ?_
  refine om_y rfl (y_assign rfl) ?_
  refine om_y rfl (y_assign rfl) ?_
  refine om_nil ?_
  refine kw_said (sat_hl hg hok aSp) ?_
  rw [show mget (headBits s.bits (Sha.sum data)) s.index = some a0 from hm]
  refine kw_code (fun _ _ h => h) ?_
  refine cw_seq ?_
  refine cw_region ?_
  refine ow_y (y_move rfl) ?_
  refine ow_nil ?_
  refine kw_code (fun _ _ h => h) ?_
  refine cw_true rfl rfl ?_
  refine cw_seq ?_
  refine cw_seq ?_
  refine cw_region ?_
  refine ow_y (y_move rfl) ?_
  refine ow_y (y_move rfl) ?_
  refine ow_ran rfl F.hb85 rfl (xget_spec W a s a0) aSp (fun was t ho => ?_) (fun e t ho => by (repeat (first | with_reducible refine kw_inBlock_panic ?_ | with_reducible refine kw_then_panic ?_)); exact kw_errR ((by rw [e0]; exact andThen_err ho)) (fun _ _ h => h) aSp)
  try simp only [List.cons_append, List.nil_append]
  refine ow_y (y_move rfl) ?_
  rw [andThen_ok ho] at e0
  refine ow_y (y_str_neq rfl rfl) ?_
  refine ow_nil ?_
  refine kw_code (fun _ _ h => h) ?_
  refine cw_if rfl (fun hb40 => ?_) (fun hb40 => ?_)
  · skip
    refine cw_region ?_
    refine ow_fails rfl F.hb29 rfl (fail_spec 9) aSp ?_
    simp only [List.cons_append, List.nil_append]
    repeat (first | with_reducible refine kw_inBlock_panic ?_ | with_reducible refine kw_then_panic ?_)
    exact kw_errR (by rw [e0]; have hne : was ≠ data := of_decide_eq_true ((bs_neq was data).symm.trans hb40); rw [if_pos hne]; rfl) (fun _ _ h => h) aSp
  · skip
    have hne : ¬ was ≠ data := of_decide_eq_false ((bs_neq was data).symm.trans hb40)
    rw [if_neg hne] at e0
    refine cw_skip ?_
    refine kw_code (fun _ _ h => h) ?_
    refine cw_seq ?_
    refine cw_region ?_
    refine ow_y (y_move rfl) ?_
    refine ow_y (y_nil rfl) ?_
    refine ow_y (y_fld F.fld195_0 rfl) ?_
    refine ow_y (y_load F.sc62 rfl (by rfl)) ?_
    refine ow_y (y_move rfl) ?_
    skip
    refine ow_ran rfl F.hb175 rfl (hmore_spec W a t a0 (by rw [e0] at hnb; exact big1 hnb)) aSp (fun u t2 ho => ?_) (fun e t ho => by (repeat (first | with_reducible refine kw_inBlock_panic ?_ | with_reducible refine kw_then_panic ?_)); exact kw_errR ((by rw [e0]; exact andThen_err ho)) (fun _ _ h => h) aSp)
    try simp only [List.cons_append, List.nil_append]
    refine ow_nil ?_
    refine kw_code (fun _ _ h => h) ?_
    refine cw_seq ?_
    refine cw_region ?_
    refine ow_y (y_move rfl) ?_
    refine ow_y (y_assign rfl) ?_
    refine ow_nil ?_
    refine kw_code (fun _ _ h => h) ?_
    exact cw_retR (by rw [e0, andThen_ok ho]; rfl) (fun _ _ h => h) rfl rfl aSp
end Go.Proofs.YthlclfdnhnnebaaGreatDoor
end
