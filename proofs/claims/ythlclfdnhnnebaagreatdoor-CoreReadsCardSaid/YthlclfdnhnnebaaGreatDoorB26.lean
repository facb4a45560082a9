/- Part of the proof; no statement of its own: A21, A22. -/
import Derived.Test.YthlclfdnhnnebaaGreatDoorB08
import Derived.Test.YthlclfdnhnnebaaGreatDoorB06
import Derived.Test.YthlclfdnhnnebaaGreatDoorB07
import Derived.Test.YthlclfdnhnnebaaGreatDoorB25
import Derived.Test.YthlclfdnhnnebaaGreatDoorB22
set_option linter.all false
section
set_option maxRecDepth 4000
set_option maxHeartbeats 4000000
namespace Go.Proofs.YthlclfdnhnnebaaGreatDoor
open Go.Sl Go.Sb
abbrev RSb (W : World) (a : Ad) (bits : Nat) (s : St) : List Asrt := [whole W, dkC a s.d, dkR a s.d, fact (DkOK s.d), stC a bits, mpC a, HL a s]
theorem ran_bits {W : World} {a : Ad} {bits : Nat} {α : Type} {val : α → Value} {o : Out α × St} {e : Ending} {L : List Asrt} (h : o.2.bits = bits) : Ran fT (RSb W a bits) val o e L ↔ Ran fT (RS W a) val o e L := by
  obtain ⟨o, t⟩ := o
  have h : t.bits = bits := h
  subst h
  cases o <;> exact Iff.rfl
theorem _root_.Go.Sl.Does.mono_ran {P : Program} {f : FuncId} {args : Array Value} {Pre : List Asrt} {Post Post' : Ending → List Asrt → Prop} (h : Does P f args Pre Post) (hp : ∀ e L, Post e L → Post' e L) : Does P f args Pre Post' := by
  intro w F hs
  refine (h w F hs).mono ?_
  rintro e w' ⟨L', h1, h2⟩
  exact ⟨L', hp _ _ h1, h2⟩
theorem pb_xputs (data : B) : ∀ n, PB (xputs data n)
  | 0 => pb_ret _
  | n + 1 => by
    unfold xputs
    refine pb_then ?_ fun p => pb_then (pb_xputs data n) fun r => pb_ret _
    split
    · exact pb_ret _
    · exact pb_then (pb_hput _) fun _ => pb_ret _
theorem pb_putIndex (k : B) (v : Int) : PB (putIndex k v) := pb_prim _ (fun s => { s with index := mput k v s.index }) fun _ => rfl
theorem hput_b (W : World) (a : Ad) (s : St) (b : B) (bits : Nat) (hb : b.length ≤ 1000000) (hbits : s.bits = bits) (hnb : (hput b s).1 ≠ .big) : Does Tryz.prog 176 #[ptr a.heap, strV b] (RSb W a bits s) (Ran fT (RSb W a bits) intV (hput b s)) := by
  subst hbits
  exact (hput_spec W a s b hb hnb).mono_ran (fun e L h => (ran_bits (pb_hput b s)).2 h)
def pad4 (ps : List (Int × Nat)) : List (Int × Nat) := ps ++ List.replicate (4 - ps.length) (0, 0)
def hdP (data : B) (ps : List (Int × Nat)) : Hd := { at_ := (pad4 ps).map (·.1), sums := (pad4 ps).map (·.2), sum := Sha.sum data }
theorem pad4_skip {ps : List (Int × Nat)} (h : ps.length < 4) : pad4 (ps ++ [(0, 0)]) = pad4 ps := by
  unfold pad4
  obtain ⟨m, hm⟩ : ∃ m, 4 - ps.length = m + 1 := ⟨4 - ps.length - 1, by omega⟩
  rw [List.length_append, hm, List.replicate_succ, List.append_assoc]
  simp only [List.length_cons, List.length_nil, List.singleton_append]
  rw [show 4 - (ps.length + (0 + 1)) = m by omega]
theorem pad4_len {ps : List (Int × Nat)} (h : ps.length ≤ 4) : (pad4 ps).length = 4 := by unfold pad4; simp; omega
theorem hdP_lens {data : B} {ps : List (Int × Nat)} (h : ps.length ≤ 4) (hc : ∀ p ∈ ps, p.2 < 4294967296) : HdLen (hdP data ps) := by
  refine ⟨by simp [hdP, pad4_len h], by simp [hdP, pad4_len h], fun c hcm => ?_, sha_len data⟩
  simp only [hdP, List.mem_map] at hcm
  obtain ⟨p, hp, rfl⟩ := hcm
  unfold pad4 at hp
  rcases List.mem_append.1 hp with hp | hp
  · exact hc p hp
  · rw [List.eq_of_mem_replicate hp]; decide
theorem hdP_full {data : B} {ps : List (Int × Nat)} (h : ps.length = 4) : hdP data ps = { at_ := ps.map (·.1), sums := ps.map (·.2), sum := Sha.sum data } := by
  unfold hdP pad4; rw [h]; simp
theorem hdP_set {data : B} {ps : List (Int × Nat)} {i o1 o2 : Nat} {x : Int} {c : Nat} (h : ps.length = i) (hi : i < 4) (h1 : o1 = i) (h2 : o2 = 4 + i) : ((hdL (hdP data ps)).set o1 (intV x)).set o2 (.int .u32 (c : Nat)) = hdL (hdP data (ps ++ [(x, c)])) := by
  subst h1 h2
  unfold hdL hdP pad4
  match ps, h, hi with
  | [], h, _ => subst h; rfl
  | [p], h, _ => subst h; rfl
  | [p, q], h, _ => subst h; rfl
  | [p, q, r], h, _ => subst h; rfl
  | _ :: _ :: _ :: _ :: _, h, hi => simp only [List.length_cons] at h; omega
def putR (data : B) (i : Nat) (ps : List (Int × Nat)) (s : St) : Out Int × St := andThen (xputs data (4 - i)) (fun r => andThen (hput (hdBytes { at_ := (ps ++ r).map (·.1), sums := (ps ++ r).map (·.2), sum := Sha.sum data })) fun a => andThen (fun s => putIndex (key s.bits (Sha.sum data)) a s) fun _ => ret a) s
section
variable {data : B} {i : Nat} {ps : List (Int × Nat)} {s t : St}
theorem putR_unf (h : i < 4) : putR data i ps s = andThen (andThen (if allZero (Go.Sb.part data i) then ret (0, 0) else andThen (hput (Go.Sb.part data i)) fun a => ret (a, crcN (Go.Sb.part data i))) fun p => andThen (xputs data (4 - (i + 1))) fun r => ret (p :: r)) (fun r => andThen (hput (hdBytes { at_ := (ps ++ r).map (·.1), sums := (ps ++ r).map (·.2), sum := Sha.sum data })) fun a => andThen (fun s => putIndex (key s.bits (Sha.sum data)) a s) fun _ => ret a) s := by
  unfold putR
  obtain ⟨n, hn⟩ : ∃ n, 4 - i = n + 1 := ⟨4 - i - 1, by omega⟩
  have hk : 4 - (n + 1) = i := by omega
  have hk2 : 4 - (i + 1) = n := by omega
  rw [hn, hk2]
  conv => lhs; unfold xputs
  simp only [hk]
theorem putR_join (c : M (Int × Nat)) {p : Int × Nat} (hc : c s = (.ok p, t)) : andThen (andThen c fun p => andThen (xputs data (4 - (i + 1))) fun r => ret (p :: r)) (fun r => andThen (hput (hdBytes { at_ := (ps ++ r).map (·.1), sums := (ps ++ r).map (·.2), sum := Sha.sum data })) fun a => andThen (fun s => putIndex (key s.bits (Sha.sum data)) a s) fun _ => ret a) s = putR data (i + 1) (ps ++ [p]) t := by
  unfold putR
  simp only [List.append_assoc, List.singleton_append]
  unfold andThen
  rw [hc]
  simp only
  cases xputs data (4 - (i + 1)) t with
  | mk o u => cases o <;> rfl
theorem putR_skip (h : i < 4) (hz : allZero (Go.Sb.part data i) = true) : putR data i ps s = putR data (i + 1) (ps ++ [(0, 0)]) s := by
  rw [putR_unf h]; exact putR_join _ (by rw [if_pos hz]; rfl)
theorem putR_ok {a : Int} (h : i < 4) (hz : allZero (Go.Sb.part data i) = false) (ho : hput (Go.Sb.part data i) s = (.ok a, t)) : putR data i ps s = putR data (i + 1) (ps ++ [(a, crcN (Go.Sb.part data i))]) t := by
  rw [putR_unf h]; exact putR_join _ (by rw [if_neg (by simp [hz]), andThen_ok ho]; rfl)
theorem putR_err {e : Int} (h : i < 4) (hz : allZero (Go.Sb.part data i) = false) (ho : hput (Go.Sb.part data i) s = (.err e, t)) : putR data i ps s = (.err e, t) := by
  rw [putR_unf h]
  rw [andThen_err]
  rw [andThen_err]
  rw [if_neg (by simp [hz]), andThen_err ho]
theorem putR_big (h : i < 4) (hz : allZero (Go.Sb.part data i) = false) (hnb : (putR data i ps s).1 ≠ .big) : (hput (Go.Sb.part data i) s).1 ≠ .big := by
  rw [putR_unf h] at hnb
  have h1 := big1 (big1 hnb)
  rw [if_neg (by simp [hz])] at h1
  exact big1 h1
theorem putR_end (h : ps.length = 4) : putR data 4 ps s = andThen (hput (hdBytes (hdP data ps))) (fun a => andThen (fun s => putIndex (key s.bits (Sha.sum data)) a s) fun _ => ret a) s := by
  unfold putR
  rw [andThen_ok (show xputs data (4 - 4) s = (.ok [], s) from rfl), List.append_nil, hdP_full h]
theorem putIndex_big {k : B} {v : Int} (h : (putIndex k v s).1 ≠ .big) : s.log.length < 1000000000 := room_n h fun h' => by simp [putIndex, andThen, back, h']
end
theorem mput_sub {K V : Type} [DecidableEq K] {k : K} {v : V} {p : K × V} : ∀ {m : List (K × V)}, p ∈ mput k v m → p = (k, v) ∨ p ∈ m
  | [], h => by simpa [mput] using h
  | (j, u) :: m, h => by
    unfold mput at h
    split at h
    · rcases List.mem_cons.1 h with h | h
      · exact .inl h
      · exact .inr (List.mem_cons_of_mem _ h)
    · rcases List.mem_cons.1 h with h | h
      · exact .inr (by rw [h]; exact List.mem_cons_self ..)
      · rcases mput_sub h with h | h
        · exact .inl h
        · exact .inr (List.mem_cons_of_mem _ h)
theorem part_cut {data : B} {i lo hi : Nat} (h1 : lo = 64 * i) (h2 : hi = 64 * i + 64) : (bs data).extract lo hi = bs (Go.Sb.part data i) := by
  subst h1 h2
  rw [bs_cut, List.drop_take, show 64 * i + 64 - 64 * i = 64 by omega]; rfl
theorem fill_one {place : Nat → Option (Nat × Nat)} {i off size : Nat} {vs cs : List Value} (h : place i = some (off, size)) (h1 : vs.length = size) (h2 : off + size ≤ cs.length) : fillL place cs [(i, vs)] = some (cs.take off ++ (vs ++ cs.drop (off + size))) := by
  unfold fillL
  rw [h]
  simp only [fillL]
  rw [show (Nat.beq vs.length size && Nat.ble (off + vs.length) cs.length) = true by simp [h1, h2], h1]
theorem sealB_length {b : B} (h : b.length ≤ 60) : (sealB b).length = 64 := by unfold sealB; rw [List.length_append, padTo_length h, beB_length]
theorem hdB_len {x : Hd} (h : HdLen x) : (hdBytes x).length = 64 := by
  unfold hdBytes
  refine sealB_length ?_
  rw [List.length_append, List.length_append, List.length_append, flat_len (k := 2) (fun a => num_length a 2), flat_len (k := 4) (fun a => beB_length a 4 4), h.n, h.m, h.sum]
  decide
set_option maxRecDepth 8000 in
theorem xput_new (W : World) (hW : ShaW W) (a : Ad) (s : St) (data : B) (h256 : data.length = 256) (hz : allZero data = false) (hbits : s.bits ≤ 256) (hm : mget (key s.bits (Sha.sum data)) s.index = none) (hnb : (xput data s).1 ≠ .big) :
    Does Tryz.prog 126 #[ptr a.st, strV data] (RS W a s) (Ran fT (RS W a) intV (xput data s)) := by
  have e0' : xput data s = putR data 0 [] s := by
    unfold xput; rw [if_neg (by simp [h256]), if_neg (by simp [hz])]; simp only [hm]; rfl
  have hpb : (xput data s).2.bits = s.bits := by
    rw [e0']
    exact pb_then (pb_xputs data 4) (fun r => pb_then (pb_hput _) fun a => pb_then (pb_at (m := fun s => putIndex (key s.bits (Sha.sum data)) a) fun _ => pb_putIndex _ _) fun _ => pb_ret _) s
  refine Does.mono_ran (Post := Ran fT (RSb W a s.bits) intV (xput data s)) ?_ (fun e L h => (ran_bits hpb).1 h)
  have hsz0 : (hdL (hdP data [])).toArray.size = 40 := by rw [List.size_toArray, hdL_len (hdP_lens (by simp) (by simp))]
  have e0 : xput data s = putR data 0 [] s := by
    unfold xput; rw [if_neg (by simp [h256]), if_neg (by simp [hz])]; simp only [hm]; rfl
  have hD := sha_len data
  have hs2 : ((Sha.sum data).map byteV).toArray.size = 32 := by rw [List.size_toArray, List.length_map, hD]
  refine does_enter Tryz.func126 rfl Tryz.ntmps126 rfl (fun R w0 => ?_)
  simp only [envOf, List.cons_append, List.nil_append]
  refine cw_seq ?_
  refine cw_region ?_
  refine ow_y (y_assign rfl) ?_
  refine ow_nil ?_
  refine kw_code (fun _ _ h => h) ?_
  refine cw_seq ?_
  refine cw_seq ?_
  refine cw_region ?_
  refine ow_y (y_move rfl) ?_
  refine ow_y (y_len_str F.st9 rfl) ?_
  rw [bs_size]
  refine ow_y (y_neq rfl rfl) ?_
  refine ow_nil ?_
  refine kw_code (fun _ _ h => h) ?_
  refine cw_false rfl (by rw [h256]; rfl) ?_
  refine cw_skip ?_
  refine kw_code (fun _ _ h => h) ?_
  refine cw_seq ?_
  refine cw_seq ?_
  refine cw_region ?_
  refine ow_y (y_move rfl) ?_
  refine ow_gives rfl F.hb172 rfl (zero_spec data (by omega)) aSp ?_
  try simp only [List.cons_append, List.nil_append]
  refine ow_nil ?_
  refine kw_code (fun _ _ h => h) ?_
  refine cw_false rfl hz ?_
  refine cw_skip ?_
  refine kw_code (fun _ _ h => h) ?_
  refine cw_seq ?_
  refine cw_region ?_
  refine ow_y (y_move rfl) ?_
  refine (ow_buildSlice F.sl247 F.z9 rfl rfl rfl (by simp [fillL, madeL, Value.cells] <;> rfl) (fun b19 => ?_))
  refine ow_said (fun w hs => row_lit (n := 1) (b := b19) (l := [strV data]) (e := 9) rfl ((show Fnd _ (pts b19 _) _ from aFd).sat hs) (by simp [maxLen])) ?_
  refine ow_gives rfl F.hb173 rfl (of_spec W hW (.slice (some ⟨b19, 0, none⟩) 1 1) [data] (by simp [h256]) (by simp)) aSp ?_
  try simp only [List.cons_append, List.nil_append]
  rw [show [data].flatten = data by simp]
  refine (ow_alloc F.z175 (fun b5 => ?_))
  refine ow_storeAgg F.sz175 rfl rfl hs2 (fun x hx => by simp at hx; obtain ⟨_, _, rfl⟩ := hx; rfl) (by rw [hs2]; simp [Value.cells]) (splice_all (by rw [hs2]; simp [Value.cells])) ?_
  refine ow_nil ?_
  refine kw_code (fun _ _ h => h) ?_
  refine cw_seq ?_
  refine cw_seq ?_
  refine cw_hl aFd fun by_ gv gc o hg hok => ?_
  simp only [openTT, hcells, List.cons_append, List.nil_append]
  refine cw_mix (.soft 0 (.soft 1 (.soft 2 (.soft 3 (.soft 4 (.soft 5 (.soft 6 (.soft 7 (.soft 8 (.hard 9 (.soft 10 (.soft 11 (.soft 12 (.soft 13 (.soft 14 (.soft 15 .done)))))))))))))))) [stC a s.bits, pts b5 (.cells ((Sha.sum data).map byteV).toArray 175 (0, 0)), mapP a.ix sumV intV s.index] F.fol (by kernel_rfl) (by repeat (first | with_reducible exact NoSlots.bp | with_reducible apply NoSlots.then | with_reducible apply NoSlots.inBlock)) aSp ?_
  refine om_y rfl (y_move rfl) ?_
  refine om_y rfl (y_nil rfl) ?_
  refine om_y rfl (y_fld F.fld195_2 rfl) ?_
  refine om_y rfl (y_load F.sc193 rfl (by rfl)) ?_
  refine om_y rfl (y_loadAgg F.ag175 rfl (by rw [hs2]; omega) (extract_all hs2)) ?_
  refine om_y rfl (y_move rfl) ?_
  refine om_y rfl (y_nil rfl) ?_
  refine om_y rfl (y_fld F.fld195_1 rfl) ?_
  refine om_y rfl (y_load F.sc3 rfl (by rfl)) ?_
  refine om_h rfl ?_
  refine ow_gives rfl F.hb174 rfl (shead_spec (Sha.sum data) s.bits hD hbits) aSp ?_
  try simp only [List.cons_append, List.nil_append]
  refine ow_nil ?_
  refine om_next aSp ?_
  refine om_y rfl (y_look2 (ek := sumV) (ev := intV) (k := headBits s.bits (Sha.sum data)) F.mp193 keyS hok.2.2.2 (by rw [headBits_len, hD]) F.z3 rfl rfl aFd getInt) ?_
  refine om_y rfl (y_move rfl) ?_
  refine om_y rfl (y_ext rfl rfl) ?_
  refine om_y rfl (y_ext rfl rfl) ?_
  refine om_y rfl (y_assign rfl) ?_
  refine om_y rfl (y_assign rfl) ?_
  refine om_nil ?_
  refine kw_said (sat_hl hg hok aSp) ?_
  rw [show mget (headBits s.bits (Sha.sum data)) s.index = none from hm]
  refine kw_code (fun _ _ h => h) ?_
  refine cw_seq ?_
  refine cw_region ?_
  refine ow_y (y_move rfl) ?_
  refine ow_nil ?_
  refine kw_code (fun _ _ h => h) ?_
  refine cw_false rfl rfl ?_
  refine cw_skip ?_
  refine kw_code (fun _ _ h => h) ?_
  refine cw_seq ?_
  refine cw_region ?_
  refine ow_y (y_loadAgg F.ag175 rfl (by rw [hs2]; omega) (extract_all hs2)) ?_
  refine ow_y (y_build (cs := hdL (hdP data [])) F.pl213 rfl ((fill_one (i := 2) (off := 8) (size := 32) (vs := (Sha.sum data).map byteV) rfl (by simp [hD]) (by exact Nat.le_refl 40)).trans (congrArg some (show (List.replicate 4 (intV 0) ++ List.replicate 4 (Value.int .u32 0)) ++ ((Sha.sum data).map byteV ++ []) = _ by rw [List.append_nil]; rfl)))) ?_
  refine (ow_alloc F.z213 (fun b8 => ?_))
  refine ow_storeAgg F.sz213 rfl rfl hsz0 (hdL_one _) (by rw [hsz0]; exact Nat.le_refl 40) (splice_all (by rw [hsz0]; rfl)) ?_
  refine ow_nil ?_
  refine kw_code (fun _ _ h => h) ?_
  refine cw_seq ?_
  refine cw_seq ?_
  refine cw_region ?_
  refine ow_y (y_move rfl) ?_
  refine ow_nil ?_
  refine kw_code (fun _ _ h => h) ?_
  refine cw_block ?_
  refine cw_loop (X := {y : Nat × St × List (Int × Nat) // y.1 ≤ 4 ∧ y.2.2.length = y.1 ∧ (∀ p ∈ y.2.2, p.2 < 4294967296) ∧ y.2.1.bits = s.bits ∧ xput data s = putR data y.1 y.2.2 y.2.1}) (fun y => [(0, ptr a.st), (1, strV data), (5, ptr b5), (8, ptr b8), (51, .int .i64 y.1.1)]) (fun y => RSb W a s.bits y.1.2.1 ++ [pts b8 (.cells (hdL (hdP data y.1.2.2)).toArray 213 (0, 0)), pts b5 (.cells ((Sha.sum data).map byteV).toArray 175 (0, 0)), R]) (fun y => 4 - y.1.1) ⟨(0, s, []), by omega, rfl, by simp, rfl, e0⟩ (by repeat (first | exact Sub.nil | refine Sub.cons rfl ?_)) aSp ?_
  rintro ⟨⟨i, u, ps⟩, hi, hpl, hpc, hub, he⟩ m0 hm0
  try simp only at hm0
  try dsimp only
  simp only at hi hpl hpc hub he
  simp only [List.cons_append, List.nil_append]
  refine cw_seq ?_
  refine cw_region ?_
  refine ow_y (y_lss rfl rfl) ?_
  refine ow_nil ?_
  refine kw_code (fun _ _ h => h) ?_
  refine cw_seq ?_
  refine cw_if rfl (fun hb52 => ?_) (fun hb52 => ?_)
  · skip
    have hi4 : i < 4 := by have := of_decide_eq_true hb52; omega
    have hbz : (bs data).size = 256 := by rw [bs_size, h256]
    have hpt := Go.Sb.part_len h256 hi4
    refine cw_skip ?_
    refine kw_code (fun _ _ h => h) ?_
    refine cw_seq ?_
    refine cw_block ?_
    refine cw_seq ?_
    refine cw_region ?_
    refine ow_y (y_move rfl) ?_
    refine ow_y (y_assign rfl) ?_
    refine ow_nil ?_
    refine kw_code (fun _ _ h => h) ?_
    refine cw_seq ?_
    refine cw_region ?_
    refine ow_y (y_move rfl) ?_
    refine ow_y (y_move rfl) ?_
    refine ow_y (y_mulI rfl rfl (by omega)) ?_
    refine ow_y (y_move rfl) ?_
    refine ow_y (y_addI rfl rfl (by omega)) ?_
    refine ow_y (y_mulI rfl rfl (by omega)) ?_
    refine ow_y (y_cutLH F.st9 rfl rfl rfl (by omega)) ?_
    refine ow_y (y_assign rfl) ?_
    refine ow_nil ?_
    refine kw_code (fun _ _ h => h) ?_
    refine cw_seq ?_
    rw [part_cut (data := data) (i := i) (by omega) (by omega)]
    refine cw_region ?_
    refine ow_y (y_move rfl) ?_
    refine ow_gives rfl F.hb172 rfl (zero_spec (Go.Sb.part data i) (by omega)) aSp ?_
    try simp only [List.cons_append, List.nil_append]
    refine ow_y (y_not rfl) ?_
    refine ow_nil ?_
    refine kw_code (fun _ _ h => h) ?_
    refine cw_if rfl (fun hb63 => ?_) (fun hb63 => ?_)
    · skip
      have hnz : allZero (Go.Sb.part data i) = false := by simpa using hb63
      have hL40 : (hdL (hdP data ps)).length = 40 := hdL_len (hdP_lens (by omega) hpc)
      refine cw_float (.soft 0 (.soft 1 (.soft 2 (.soft 3 (.soft 4 (.soft 5 (.soft 6 (.soft 8 (.soft 11 (.soft 14 (.float 9 (.hard 7 (.soft 12 (.res (.hard 10 (.hard 13 (.soft 15 (.hard 16 .done)))))))))))))))))) [stC a s.bits] F.fol (by kernel_rfl) (by repeat (first | with_reducible exact NoSlots.bp | with_reducible apply NoSlots.then | with_reducible apply NoSlots.inBlock)) aSp ?_
      refine omf_y rfl (y_move rfl) ?_
      refine omf_y rfl (y_move rfl) ?_
      refine omf_y rfl (y_move rfl) ?_
      refine omf_y rfl (y_nil rfl) ?_
      refine omf_y rfl (y_fld F.fld195_0 rfl) ?_
      refine omf_y rfl (y_load F.sc62 rfl (by rfl)) ?_
      refine omf_y rfl (y_move rfl) ?_
      refine omf_y rfl (y_move rfl) ?_
      refine omf_y rfl (y_fld F.fld213_0 rfl) ?_
      refine omf_y rfl (y_fld F.fld213_1 rfl) ?_
      refine omf_fbuildSlice (e0 := [(72, _)]) rfl (by repeat (first | exact Sub.nil | refine Sub.cons rfl ?_)) (fun _ _ _ => rfl) F.sl247 F.z9 rfl rfl rfl (by simp [fillL, madeL, Value.cells] <;> rfl) rfl ?_
      refine omf_hard rfl (fun hok EE FF => ?_)
      simp only [List.cons_append, List.nil_append]
      refine ow_ran rfl F.hb176 rfl (hput_b W a u (Go.Sb.part data i) s.bits (by omega) hub (by rw [he] at hnb; exact putR_big hi4 hnz hnb)) aSp (fun x t ho => ?_) (fun e t ho => by (repeat (first | with_reducible refine kw_inBlock_panic ?_ | with_reducible refine kw_then_panic ?_)); exact kw_errR ((by rw [he]; exact putR_err hi4 hnz ho)) (fun _ _ h => h) aSp)
      try simp only [List.cons_append, List.nil_append]
      refine ow_nil ?_
      refine omf_next (E := EE) (F := FF) (by repeat (first | exact Tl.nil | apply Tl.cons)) aFd aSp (hok.put rfl) ?_
      refine omf_y rfl (y_ixa F.ar210 rfl rfl (by omega)) ?_
      refine omf_res (fun b73 => ?_)
      dsimp only
      refine omf_hard rfl (fun hok EE FF => ?_)
      simp only [List.cons_append, List.nil_append]
      refine ow_gives rfl F.hb137 rfl (sum1_spec b73 1 (bs (Go.Sb.part data i)) (by rw [bs_size, hpt]; simp [maxLen])) aSp ?_
      try simp only [List.cons_append, List.nil_append]
      refine ow_nil ?_
      refine omf_next (E := EE) (F := FF) (by repeat (first | exact Tl.nil | apply Tl.cons)) aFd aSp (hok.put rfl) ?_
      refine omf_hard rfl (fun hok EE FF => ?_)
      simp only [List.cons_append, List.nil_append]
      refine ow_store F.sz3 rfl rfl rfl (by rw [Nat.blt_eq]; (try rw [List.length_set]); rw [hL40]; omega) rfl ?_
      refine ow_nil ?_
      refine omf_next (E := EE) (F := FF) (by repeat (first | exact Tl.nil | apply Tl.cons)) aFd aSp hok ?_
      refine omf_y rfl (y_ixa F.ar211 rfl rfl (by omega)) ?_
      refine omf_hard rfl (fun hok EE FF => ?_)
      simp only [List.cons_append, List.nil_append]
      refine ow_store F.sz26 rfl rfl rfl (by rw [Nat.blt_eq]; (try rw [List.length_set]); rw [hL40]; omega) rfl ?_
      refine ow_nil ?_
      refine omf_next (E := EE) (F := FF) (by repeat (first | exact Tl.nil | apply Tl.cons)) aFd aSp hok ?_
      refine omf_nil ?_
      first | rw [hdP_set hpl hi4 (by omega) (by omega)] | rw [List.set_comm _ _ (by omega), hdP_set hpl hi4 (by omega) (by omega)]
      refine kw_code (fun _ _ h => h) ?_
      refine cw_region ?_
      refine ow_y (y_addI rfl rfl (by omega)) ?_
      refine ow_y (y_move rfl) ?_
      refine ow_nil ?_
      refine kw_rnd (fun _ _ h => h) (⟨(i + 1, t, ps ++ [(x, crcN (Go.Sb.part data i))]), hi4, by simp [hpl], by intro p hp; rcases List.mem_append.1 hp with hp | hp; (· exact hpc p hp); (· rw [List.mem_singleton.1 hp]; exact crcN_u32 _), (by have := pb_hput (Go.Sb.part data i) u; rw [ho] at this; exact this.trans hub), he.trans (putR_ok hi4 hnz ho)⟩) (by first | omega | (simp only; omega)) (by repeat (first | exact Sub.nil | refine Sub.cons rfl ?_)) aSp
    · skip
      have hnz : allZero (Go.Sb.part data i) = true := by simpa using hb63
      have hps : hdP data ps = hdP data (ps ++ [(0, 0)]) := by unfold hdP; rw [pad4_skip (by omega)]
      rw [hps]
      refine cw_skip ?_
      refine kw_code (fun _ _ h => h) ?_
      refine cw_region ?_
      refine ow_y (y_addI rfl rfl (by omega)) ?_
      refine ow_y (y_move rfl) ?_
      refine ow_nil ?_
      refine kw_rnd (fun _ _ h => h) (⟨(i + 1, u, ps ++ [(0, 0)]), hi4, by simp [hpl], by intro p hp; rcases List.mem_append.1 hp with hp | hp; (· exact hpc p hp); (· rw [List.mem_singleton.1 hp]; decide), hub, he.trans (putR_skip hi4 hnz)⟩) (by first | omega | (simp only; omega)) (by repeat (first | exact Sub.nil | refine Sub.cons rfl ?_)) aSp
  · skip
    obtain rfl : i = 4 := by have := of_decide_eq_false hb52; omega
    have hln := hdP_lens (data := data) (by omega) hpc
    have hsz : (hdL (hdP data ps)).toArray.size = 40 := by rw [List.size_toArray, hdL_len hln]
    rw [putR_end hpl] at he
    refine cw_exit ?_
    refine kw_code (fun _ _ h => h) ?_
    refine cw_seq ?_
    refine cw_mix (.soft 0 (.soft 1 (.soft 2 (.soft 3 (.soft 4 (.hard 5 (.hard 6 (.soft 7 .done)))))))) [stC a s.bits, pts b8 (.cells (hdL (hdP data ps)).toArray 213 (0, 0))] F.fol (by kernel_rfl) (by repeat (first | with_reducible exact NoSlots.bp | with_reducible apply NoSlots.then | with_reducible apply NoSlots.inBlock)) aSp ?_
    refine om_y rfl (y_move rfl) ?_
    refine om_y rfl (y_nil rfl) ?_
    refine om_y rfl (y_fld F.fld195_0 rfl) ?_
    refine om_y rfl (y_load F.sc62 rfl (by rfl)) ?_
    refine om_y rfl (y_loadAgg F.ag213 rfl (by rw [hsz]; omega) (extract_all hsz)) ?_
    refine om_h rfl ?_
    refine ow_gives rfl F.hb177 rfl (hdBytes_spec (hdP data ps) hln) aSp ?_
    try simp only [List.cons_append, List.nil_append]
    refine ow_nil ?_
    refine om_next aSp ?_
    refine om_h rfl ?_
    refine ow_ran rfl F.hb176 rfl (hput_b W a u (hdBytes (hdP data ps)) s.bits (by rw [hdB_len hln]; omega) hub (by rw [he] at hnb; exact big1 hnb)) aSp (fun x t ho => ?_) (fun e t ho => by (repeat (first | with_reducible refine kw_inBlock_panic ?_ | with_reducible refine kw_then_panic ?_)); exact kw_errR ((by rw [he]; exact andThen_err ho)) (fun _ _ h => h) aSp)
    try simp only [List.cons_append, List.nil_append]
    refine ow_nil ?_
    refine om_next aSp ?_
    refine om_y rfl (y_assign rfl) ?_
    refine om_nil ?_
    refine kw_code (fun _ _ h => h) ?_
    refine cw_seq ?_
    have htb : t.bits = s.bits := by have := pb_hput (hdBytes (hdP data ps)) u; rw [ho] at this; exact this.trans hub
    rw [andThen_ok ho] at he
    have hlog := putIndex_big (show (putIndex (key t.bits (Sha.sum data)) x t).1 ≠ .big by rw [he] at hnb; exact big1 hnb)
    rw [andThen_ok (m := fun s => putIndex (key s.bits (Sha.sum data)) x s) (show _ = _ from putIndex_eq _ _ hlog), htb] at he
    refine cw_hl aFd fun by_ gv gc o hg hok => ?_
    simp only [openTT, hcells, List.cons_append, List.nil_append]
    refine cw_mix (.soft 0 (.soft 1 (.soft 2 (.soft 3 (.soft 4 (.soft 5 (.soft 6 (.soft 7 (.soft 8 (.soft 9 (.soft 10 (.soft 11 (.soft 12 (.soft 13 (.soft 14 (.soft 15 (.soft 17 (.hard 16 (.hard 18 .done))))))))))))))))))) [stC a s.bits, pts a.heap (.cells #[ptr a.disk, ptr a.log, ptr a.gr, .map (some a.refs), .map (some by_), gv, .int .i64 t.keep] 144 (0, 0)), pts b5 (.cells ((Sha.sum data).map byteV).toArray 175 (0, 0))] F.fol (by kernel_rfl) (by repeat (first | with_reducible exact NoSlots.bp | with_reducible apply NoSlots.then | with_reducible apply NoSlots.inBlock)) aSp ?_
    refine om_y rfl (y_move rfl) ?_
    refine om_y rfl (y_nil rfl) ?_
    refine om_y rfl (y_fld F.fld195_0 rfl) ?_
    refine om_y rfl (y_load F.sc62 rfl (by rfl)) ?_
    refine om_y rfl (y_nil rfl) ?_
    refine om_y rfl (y_fld F.fld144_1 rfl) ?_
    refine om_y rfl (y_load F.sc136 rfl (by rfl)) ?_
    refine om_y rfl (y_move rfl) ?_
    refine om_y rfl (y_nil rfl) ?_
    refine om_y rfl (y_fld F.fld195_2 rfl) ?_
    refine om_y rfl (y_load F.sc193 rfl (by rfl)) ?_
    refine om_y rfl (y_loadAgg F.ag175 rfl (by rw [hs2]; omega) (extract_all hs2)) ?_
    refine om_y rfl (y_move rfl) ?_
    refine om_y rfl (y_nil rfl) ?_
    refine om_y rfl (y_fld F.fld195_1 rfl) ?_
    refine om_y rfl (y_load F.sc3 rfl (by rfl)) ?_
    refine om_y rfl (y_move rfl) ?_
    refine om_h rfl ?_
    refine ow_gives rfl F.hb174 rfl (shead_spec (Sha.sum data) s.bits hD hbits) aSp ?_
    try simp only [List.cons_append, List.nil_append]
    refine ow_nil ?_
    refine om_next aSp ?_
    refine om_h rfl ?_
    refine ow_givesE rfl F.hb178 rfl (putSum_spec a by_ o t.log t.depth t.index (headBits s.bits (Sha.sum data)) x hlog hok.2.2.2 (by rw [headBits_len, hD])) aSp ?_
    rintro e _
    try simp only [List.cons_append, List.nil_append]
    refine ow_nil ?_
    refine om_next aSp ?_
    refine om_nil ?_
    refine kw_code (fun _ _ h => h) ?_
    refine cw_seq ?_
    refine cw_region ?_
    refine ow_y (y_move rfl) ?_
    refine ow_y (y_assign rfl) ?_
    refine ow_nil ?_
    refine kw_code (fun _ _ h => h) ?_
    refine cw_said (sat_hl (s := { t with log := bk t.depth t.log (.index (key s.bits (Sha.sum data)) (mget (key s.bits (Sha.sum data)) t.index)), index := mput (key s.bits (Sha.sum data)) x t.index }) hg (by exact ⟨hok.1, hok.2.1, hok.2.2.1, fun p hp => by rcases mput_sub hp with h | h; (· rw [h]; exact (by unfold key; rw [headBits_len, hD])); (· exact hok.2.2.2 p h)⟩) aSp) (cw_retR he (fun _ _ h => h) rfl rfl aSp)
end Go.Proofs.YthlclfdnhnnebaaGreatDoor
end
section
set_option maxRecDepth 4000
set_option maxHeartbeats 4000000
namespace Go.Proofs.YthlclfdnhnnebaaGreatDoor
open Go.Sl Go.Sb
theorem xput_spec (W : World) (hW : ShaW W) (a : Ad) (s : St) (data : B) (hl : data.length ≤ 1000000) (hbits : s.bits ≤ 256) (hnb : (xput data s).1 ≠ .big) : Does Tryz.prog 126 #[ptr a.st, strV data] (RS W a s) (Ran fT (RS W a) intV (xput data s)) := by
  by_cases h : data.length ≠ 256 ∨ allZero data = true
  · exact xput_short W a s data hl h
  · have h1 : data.length = 256 := Classical.byContradiction fun e => h (.inl e)
    have h2 : allZero data = false := by cases e : allZero data with
      | false => rfl
      | true => exact (h (.inr e)).elim
    cases hm : mget (key s.bits (Sha.sum data)) s.index with
    | some a0 => exact xput_found W hW a s data h1 h2 hbits a0 hm hnb
    | none => exact xput_new W hW a s data h1 h2 hbits hm hnb
theorem pb_hget (at_ : Int) : PB (hget at_) := fun s => by unfold hget; split <;> rfl
theorem pb_lift {α : Type} (o : Out α) : PB (lift o) := fun _ => rfl
theorem pb_fail {α : Type} (e : Int) : PB (fail e : M α) := fun _ => rfl
theorem pb_if {α : Type} {p : Prop} [Decidable p] {m n : M α} (h : PB m) (h' : PB n) : PB (if p then m else n) := by split <;> assumption
theorem pb_each {α : Type} {f : α → M Unit} (h : ∀ x, PB (f x)) : ∀ l, PB (each f l)
  | [] => pb_ret _
  | x :: l => pb_then (h x) fun _ => pb_each h l
theorem pb_xhead (a : Int) : PB (xhead a) := pb_then (pb_hget a) fun _ => pb_lift _
theorem pb_hmore (k : Int) : PB (hmore k) := fun s => by
  unfold hmore
  split
  · rfl
  · exact pb_putRefs k _ s
theorem pb_dropIndex (k : B) : PB (dropIndex k) := pb_prim _ (fun s => { s with index := mdel k s.index }) fun _ => rfl
theorem pb_xmore (k : Int) : PB (xmore k) := pb_if (pb_ret _) (pb_hmore k)
theorem pb_lessPos (k : Int) : PB (lessPos k) := pb_if (pb_then (pb_hless k) fun _ => pb_ret _) (pb_ret _)
theorem pb_xless (k : Int) : PB (xless k) := pb_if (pb_ret _) (pb_then (pb_xhead k) fun x => pb_then (pb_hless k) fun b => pb_if (pb_then (pb_each pb_lessPos _) fun _ => pb_at (m := fun s => dropIndex (key s.bits x.sum)) fun _ => pb_dropIndex _) (pb_ret _))
theorem pb_xparts (x : Hd) : ∀ n, PB (xparts x n)
  | 0 => pb_ret _
  | n + 1 => by
    unfold xparts
    exact pb_then (pb_if (pb_then (pb_hget _) fun _ => pb_if (pb_fail _) (pb_ret _)) (pb_ret _)) fun _ => pb_then (pb_xparts x n) fun _ => pb_ret _
theorem pb_xget (a : Int) : PB (xget a) := pb_if (pb_ret _) (pb_then (pb_xhead a) fun x => pb_xparts x 4)
theorem pb_xsum (a : Int) : PB (xsum a) := pb_if (pb_ret _) (pb_then (pb_xhead a) fun x => pb_ret _)
theorem pb_xput (data : B) : PB (xput data) := by
  unfold xput
  refine pb_if (pb_fail _) (pb_if (pb_ret _) fun s => ?_)
  show (match mget (key s.bits (Sha.sum data)) s.index with
    | some a => andThen (xget a) (fun was => if was ≠ data then fail 9 else andThen (hmore a) fun _ => ret a) s
    | none => andThen (xputs data 4) (fun ps : List (Int × Nat) => andThen (hput (hdBytes { at_ := ps.map Prod.fst, sums := ps.map Prod.snd, sum := Sha.sum data })) fun a => andThen (fun s => putIndex (key s.bits (Sha.sum data)) a s) fun _ => ret a) s).2.bits = s.bits
  split
  · exact pb_then (pb_xget _) (fun _ => pb_if (pb_fail _) (pb_then (pb_hmore _) fun _ => pb_ret _)) s
  · exact pb_then (pb_xputs data 4) (fun r => pb_then (pb_hput _) fun a => pb_then (pb_at (m := fun s => putIndex (key s.bits (Sha.sum data)) a) fun _ => pb_putIndex _ _) fun _ => pb_ret _) s
theorem pb_load (a : Int) (l : Nat) : PB (Go.Sb.load a l) := pb_if (pb_ret _) (pb_then (pb_hget a) fun _ => pb_lift _)
theorem pb_rmore (a : Int) (l : Nat) : PB (rmore a l) := pb_if (pb_ret _) (pb_if (pb_xmore a) (pb_hmore a))
theorem pb_rless : ∀ l a, PB (rless l a)
  | 0, a => pb_xless a
  | l + 1, a => by
    unfold rless
    exact pb_if (pb_ret _) (pb_then (pb_load a l) fun n => pb_then (pb_hless a) fun b => pb_if (pb_each (pb_rless l) _) (pb_ret _))
theorem pb_rsums (l : Nat) : ∀ k, PB (rsums l k)
  | [] => pb_ret _
  | k :: r => by
    unfold rsums
    refine pb_then ?_ fun s => pb_then (pb_rsums l r) fun _ => pb_ret _
    cases l with
    | zero => exact pb_xsum k
    | succ n => exact pb_then (pb_load k n) fun _ => pb_ret _
theorem pb_rset : ∀ l root at_ to_, PB (rset l root at_ to_)
  | 0, root, at_, to_ => by
    unfold rset
    exact pb_then (pb_load _ _) fun n => pb_then (pb_each (fun k => pb_rmore k 0) _) fun _ => pb_then (pb_rless _ _) fun _ => pb_then (pb_then (pb_xless _) fun _ => pb_ret _) fun r => pb_if (pb_ret _) (pb_then (pb_rsums _ _) fun _ => pb_hput _)
  | l + 1, root, at_, to_ => by
    unfold rset
    exact pb_then (pb_load _ _) fun n => pb_then (pb_each (fun k => pb_rmore k (l + 1)) _) fun _ => pb_then (pb_rless _ _) fun _ => pb_then (pb_rset l _ _ _) fun r => pb_if (pb_ret _) (pb_then (pb_rsums _ _) fun _ => pb_hput _)
theorem pb_rget : ∀ l root at_, PB (rget l root at_)
  | 0, root, at_ => by unfold rget; exact pb_then (pb_load _ _) fun _ => pb_ret _
  | l + 1, root, at_ => by unfold rget; exact pb_then (pb_load _ _) fun _ => pb_rget l _ _
theorem pb_mset (root : Int) (at_ : Nat) (to_ : Int) : PB (mset root at_ to_) := pb_then (pb_rget _ _ _) fun x => pb_if (pb_then (pb_xless _) fun _ => pb_ret _) (pb_rset _ _ _ _)
theorem ndParse_lens {l : Nat} {b : B} {x : Nd} (h : ndParse l b = .ok x) : NdLen x := by
  unfold ndParse at h
  cases ho : openB b with
  | err e => rw [ho] at h; cases h
  | big => rw [ho] at h; cases h
  | ok t =>
    rw [ho] at h
    simp only at h
    have ht : t = b.take 60 ∧ b.length = 64 := by
      unfold openB at ho
      split at ho
      · cases ho
      · split at ho
        · cases ho
        · split at ho
          · cases ho
          · split at ho
            · cases ho
            · rename_i h4; cases ho; exact ⟨rfl, by omega⟩
    split at h
    · cases h
    · split at h
      · cases h
      · split at h
        · cases h
        · cases h
          exact ⟨by simp [nums_len], by simp; rw [ht.1]; simp; omega⟩
theorem load_len {at_ : Int} {l : Nat} {s t : St} {x : Nd} (h : Go.Sb.load at_ l s = (.ok x, t)) : t = s ∧ NdLen x := by
  unfold Go.Sb.load at h
  split at h
  · cases h; exact ⟨rfl, ⟨rfl, by simp [zeros]⟩⟩
  · cases hg : hget at_ s with
    | mk o u =>
      cases o with
      | ok b =>
        rw [andThen_ok hg] at h
        unfold lift at h
        simp only [Prod.mk.injEq] at h
        exact ⟨h.2.symm.trans (hget_ok hg).1, ndParse_lens h.1⟩
      | err e => rw [andThen_err hg] at h; cases h
      | big => unfold andThen at h; rw [hg] at h; cases h
theorem ndL_len {l : Int} {x : Nd} (h : NdLen x) : (ndL l x).length = 41 := by unfold ndL; simp [h.n, h.sum]
theorem ndL_one (l : Int) (x : Nd) : ∀ v ∈ (ndL l x).toArray.toList, v.oneCell' = true := by
  intro v hv
  simp only [ndL, List.mem_append, List.mem_map, List.mem_singleton] at hv
  rcases hv with rfl | ⟨_, _, rfl⟩ | ⟨_, _, rfl⟩ <;> rfl
theorem nd0_len : NdLen { kids := none8, sum := zeros 32 } := ⟨rfl, by simp [zeros]⟩
set_option maxRecDepth 4000 in
theorem load_spec (W : World) (a : Ad) (s : St) (at_ : Int) (l : Nat) : Does Tryz.prog 139 #[ptr a.maps, .int .i64 at_, .int .i64 l] (RS W a s) (Ran fT (RS W a) (ndV l) (Go.Sb.load at_ l s)) := by
  by_cases h0 : at_ = 0
  · subst h0
    rw [show Go.Sb.load 0 l s = (.ok { kids := none8, sum := zeros 32 }, s) by unfold Go.Sb.load; rw [if_pos rfl]; rfl]
    have hsz : (ndL l { kids := none8, sum := zeros 32 }).toArray.size = 41 := by rw [List.size_toArray, ndL_len nd0_len]
    refine does_enter Tryz.func139 rfl Tryz.ntmps139 rfl (fun R w0 => ?_)
    simp only [envOf, List.cons_append, List.nil_append]
    refine cw_seq ?_
    refine cw_region ?_
    refine (ow_alloc F.z220 (fun b6 => ?_))
    refine ow_nil ?_
    refine kw_code (fun _ _ h => h) ?_
    refine cw_seq ?_
    refine cw_seq ?_
    refine cw_region ?_
    refine ow_y (y_move rfl) ?_
    refine ow_y (y_eql rfl rfl) ?_
    refine ow_nil ?_
    refine kw_code (fun _ _ h => h) ?_
    refine cw_true rfl rfl ?_
    refine cw_seq ?_
    refine cw_region ?_
    refine ow_y (y_move rfl) ?_
    refine ow_y (y_build (cs := ndL l { kids := none8, sum := zeros 32 }) F.pl220 rfl ((fill_one (i := 0) (off := 0) (size := 1) (vs := [intV l]) rfl rfl (by exact Nat.le_add_left 1 40)).trans (by rfl))) ?_
    refine ow_storeAgg F.sz220 rfl rfl hsz (ndL_one _ _) (by rw [hsz]; exact Nat.le_refl 41) (splice_all (by rw [hsz]; rfl)) ?_
    refine ow_nil ?_
    refine kw_code (fun _ _ h => h) ?_
    exact cw_retRC rfl (fun _ _ h => h) (RV.agg F.ag220 rfl (by rw [hsz]; omega) (extract_all hsz) RV.nil) rfl aSp
  · have e0 : Go.Sb.load at_ l s = andThen (hget at_) (fun b => lift (ndParse l b)) s := by unfold Go.Sb.load; rw [if_neg h0]
    refine does_enter Tryz.func139 rfl Tryz.ntmps139 rfl (fun R w0 => ?_)
    simp only [envOf, List.cons_append, List.nil_append]
    refine cw_fact (p := DkOK s.d) aFd fun hdk => ?_
    refine cw_seq ?_
    refine cw_region ?_
    refine (ow_alloc F.z220 (fun b6 => ?_))
    refine ow_nil ?_
    refine kw_code (fun _ _ h => h) ?_
    refine cw_seq ?_
    refine cw_seq ?_
    refine cw_region ?_
    refine ow_y (y_move rfl) ?_
    refine ow_y (y_eql rfl rfl) ?_
    refine ow_nil ?_
    refine kw_code (fun _ _ h => h) ?_
    refine cw_false rfl (by simpa using h0) ?_
    refine cw_skip ?_
    refine kw_code (fun _ _ h => h) ?_
    refine cw_seq ?_
    refine cw_region ?_
    refine ow_y (y_move rfl) ?_
    refine ow_y (y_nil rfl) ?_
    refine ow_y (y_fld F.fld155_0 rfl) ?_
    refine ow_y (y_load F.sc62 rfl (by rfl)) ?_
    refine ow_y (y_move rfl) ?_
    refine ow_ran rfl F.hb136 rfl (hget_spec W a s at_) aSp (fun b t ho => ?_) (fun e t ho => by (repeat (first | with_reducible refine kw_inBlock_panic ?_ | with_reducible refine kw_then_panic ?_)); exact kw_errR ((by rw [e0]; exact andThen_err ho)) (fun _ _ h => h) aSp)
    try simp only [List.cons_append, List.nil_append]
    obtain ⟨rfl, hrd⟩ := hget_ok ho
    have hbl := dread_len hdk hrd
    have ho1 := ho
    refine ow_y (y_move rfl) ?_
    refine ow_ran rfl F.hb184 rfl (ndParse_spec l b (by omega)) aSp (fun x u ho => ?_) (fun e t ho => by (repeat (first | with_reducible refine kw_inBlock_panic ?_ | with_reducible refine kw_then_panic ?_)); exact kw_errR ((by rw [e0, andThen_ok ho1]; unfold lift; rw [show ndParse l b = .err e from congrArg Prod.fst ho])) (fun _ _ h => h) aSp)
    try simp only [List.cons_append, List.nil_append]
    have hx : ndParse l b = .ok x := congrArg Prod.fst ho
    have hln := ndParse_lens hx
    have hsz : (ndL l x).toArray.size = 41 := by rw [List.size_toArray, ndL_len hln]
    have hr : Go.Sb.load at_ l t = (.ok x, t) := by rw [e0, andThen_ok ho1]; unfold lift; rw [hx]
    refine ow_storeAgg F.sz220 rfl rfl hsz (ndL_one _ _) (by rw [hsz]; exact Nat.le_refl 41) (splice_all (by rw [hsz]; rfl)) ?_
    refine ow_nil ?_
    refine kw_code (fun _ _ h => h) ?_
    exact cw_retRC hr (fun _ _ h => h) (RV.agg F.ag220 rfl (by rw [hsz]; omega) (extract_all hsz) RV.nil) rfl aSp
theorem rmore_spec (W : World) (a : Ad) (s : St) (at_ : Int) (l : Nat) (hnb : (rmore at_ l s).1 ≠ .big) : Does Tryz.prog 167 #[ptr a.maps, .int .i64 at_, .int .i64 l] (RS W a s) (Ran fT (RS W a) unitV (rmore at_ l s)) := by
  by_cases h0 : at_ = 0
  · rw [show rmore at_ l s = (.ok (), s) by unfold rmore; rw [if_pos h0]; rfl]
    refine does_enter Tryz.func167 rfl Tryz.ntmps167 rfl (fun R w0 => ?_)
    simp only [envOf, List.cons_append, List.nil_append]
    refine cw_block ?_
    refine cw_seq ?_
    refine cw_region ?_
    refine ow_y (y_move rfl) ?_
    refine ow_y (y_eql rfl rfl) ?_
    refine ow_y (y_assign rfl) ?_
    refine ow_nil ?_
    refine kw_code (fun _ _ h => h) ?_
    refine cw_true rfl (by simpa using h0) ?_
    refine cw_skip ?_
    exact kw_finR rfl rfl rfl aSp
  · by_cases hl : l = 0
    · subst hl
      have hr : rmore at_ 0 s = xmore at_ s := by unfold rmore; rw [if_neg h0, if_pos rfl]
      rw [hr] at hnb ⊢
      refine does_enter Tryz.func167 rfl Tryz.ntmps167 rfl (fun R w0 => ?_)
      simp only [envOf, List.cons_append, List.nil_append]
      refine cw_block ?_
      refine cw_seq ?_
      refine cw_region ?_
      refine ow_y (y_move rfl) ?_
      refine ow_y (y_eql rfl rfl) ?_
      refine ow_y (y_assign rfl) ?_
      refine ow_nil ?_
      refine kw_code (fun _ _ h => h) ?_
      refine cw_false rfl (by simpa using h0) ?_
      refine cw_seq ?_
      refine cw_region ?_
      refine ow_y (y_move rfl) ?_
      refine ow_y (y_eql rfl rfl) ?_
      refine ow_y (y_assign rfl) ?_
      refine ow_nil ?_
      refine kw_code (fun _ _ h => h) ?_
      refine cw_true rfl rfl ?_
      refine cw_region ?_
      refine ow_y (y_move rfl) ?_
      refine ow_y (y_nil rfl) ?_
      refine ow_y (y_fld F.fld155_1 rfl) ?_
      refine ow_y (y_load F.sc134 rfl (by rfl)) ?_
      refine ow_y (y_move rfl) ?_
      refine ow_ran rfl F.hb197 rfl (xmore_spec W a s at_ hnb) aSp (fun u t ho => ?_) (fun e t ho => by (repeat (first | with_reducible refine kw_inBlock_panic ?_ | with_reducible refine kw_then_panic ?_)); exact kw_errR (ho) (fun _ _ h => h) aSp)
      try simp only [List.cons_append, List.nil_append]
      refine ow_nil ?_
      exact kw_finR ho rfl rfl aSp
    · have hr : rmore at_ l s = hmore at_ s := by unfold rmore; rw [if_neg h0, if_neg hl]
      rw [hr] at hnb ⊢
      refine does_enter Tryz.func167 rfl Tryz.ntmps167 rfl (fun R w0 => ?_)
      simp only [envOf, List.cons_append, List.nil_append]
      refine cw_block ?_
      refine cw_seq ?_
      refine cw_region ?_
      refine ow_y (y_move rfl) ?_
      refine ow_y (y_eql rfl rfl) ?_
      refine ow_y (y_assign rfl) ?_
      refine ow_nil ?_
      refine kw_code (fun _ _ h => h) ?_
      refine cw_false rfl (by simpa using h0) ?_
      refine cw_seq ?_
      refine cw_region ?_
      refine ow_y (y_move rfl) ?_
      refine ow_y (y_eql rfl rfl) ?_
      refine ow_y (y_assign rfl) ?_
      refine ow_nil ?_
      refine kw_code (fun _ _ h => h) ?_
      refine cw_false rfl (by simpa using hl) ?_
      refine cw_region ?_
      refine ow_y (y_move rfl) ?_
      refine ow_y (y_nil rfl) ?_
      refine ow_y (y_fld F.fld155_0 rfl) ?_
      refine ow_y (y_load F.sc62 rfl (by rfl)) ?_
      refine ow_y (y_move rfl) ?_
      refine ow_ran rfl F.hb175 rfl (hmore_spec W a s at_ hnb) aSp (fun u t ho => ?_) (fun e t ho => by (repeat (first | with_reducible refine kw_inBlock_panic ?_ | with_reducible refine kw_then_panic ?_)); exact kw_errR (ho) (fun _ _ h => h) aSp)
      try simp only [List.cons_append, List.nil_append]
      refine ow_nil ?_
      exact kw_finR ho rfl rfl aSp
end Go.Proofs.YthlclfdnhnnebaaGreatDoor
end
