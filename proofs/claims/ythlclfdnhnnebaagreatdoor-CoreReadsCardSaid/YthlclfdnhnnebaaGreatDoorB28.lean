/- Part of the proof; no statement of its own: A26, SlMixS, Model4, A27, A28. -/
import Derived.Test.YthlclfdnhnnebaaGreatDoorB06
import Derived.Test.YthlclfdnhnnebaaGreatDoorB22
import Derived.Test.YthlclfdnhnnebaaGreatDoorB07
import Derived.Test.YthlclfdnhnnebaaGreatDoorB27
import Derived.Test.YthlclfdnhnnebaaGreatDoorB03
import Derived.Test.YthlclfdnhnnebaaGreatDoorB10
import Derived.Test.YthlclfdnhnnebaaGreatDoorB08
set_option linter.all false
section
set_option maxRecDepth 4000
set_option maxHeartbeats 4000000
namespace Go.Proofs.YthlclfdnhnnebaaGreatDoor
open Go.Sl Go.Sb
theorem set_spec (W : World) (hW : ShaW W) (a : Ad) : ∀ l, l < 3 → SetSpec W a l
  | 0, h => setL_spec W hW a 0 h (fun m e => by omega)
  | l + 1, h => setL_spec W hW a (l + 1) h (fun m e => by have e' : m = l := (Nat.succ.inj e).symm; rw [e']; exact set_spec W hW a l (by omega))
def getR (n : Nat) (root : Int) (at_ : Nat) : M Int := match n with
  | 0 => ret root
  | l + 1 => rget l root at_
theorem getR_eq (l : Nat) (root : Int) (at_ : Nat) : getR (l + 1) root at_ = andThen (Go.Sb.load root l) fun n => getR l (n.kids.getD (slot l at_).1 0) (slot l at_).2 := by cases l <;> rfl
theorem getR_ro : ∀ (n : Nat) {root : Int} {at_ : Nat} {s t : St} {x : Int}, getR n root at_ s = (.ok x, t) → t = s
  | 0, root, at_, s, t, x, h => by cases h; rfl
  | l + 1, root, at_, s, t, x, h => by
    rw [getR_eq] at h
    cases hg : Go.Sb.load root l s with
    | mk o u =>
      cases o with
      | ok v => rw [andThen_ok hg] at h; exact (getR_ro l h).trans (load_len hg).1
      | err e => rw [andThen_err hg] at h; cases h
      | big => unfold andThen at h; rw [hg] at h; cases h
theorem nd_kidsC {l : Int} {x : Nd} (h : NdLen x) : (ndL l x).toArray.extract 1 (1 + 8) = (x.kids.map intV).toArray := extract_app (a := [intV l]) rfl (by simp [h.n])
set_option maxRecDepth 4000 in
theorem rget_spec (W : World) (a : Ad) (s : St) (root : Int) (at_ : Nat) (hat : at_ < 1000000) : Does Tryz.prog 86 #[ptr a.maps, .int .i64 root, .int .i64 at_] (RS W a s) (Ran fT (RS W a) intV (rget 2 root at_ s)) := by
  refine does_enter Tryz.func86 rfl Tryz.ntmps86 rfl (fun R w0 => ?_)
  simp only [envOf, List.cons_append, List.nil_append]
  refine cw_seq ?_
  refine cw_region ?_
  refine ow_y (y_assign rfl) ?_
  refine ow_nil ?_
  refine kw_code (fun _ _ h => h) ?_
  refine cw_seq ?_
  refine cw_seq ?_
  refine cw_region ?_
  refine ow_y (y_assign rfl) ?_
  refine ow_nil ?_
  refine kw_code (fun _ _ h => h) ?_
  refine cw_block ?_
  refine cw_loop (X := {y : Nat × Int × Nat // y.1 ≤ 3 ∧ y.2.2 < 1000000 ∧ rget 2 root at_ s = getR y.1 y.2.1 y.2.2 s}) (fun y => [(0, ptr a.maps), (1, .int .i64 y.1.2.1), (2, .int .i64 y.1.2.2), (7, .int .i64 ((y.1.1 : Int) - 1))]) (fun y => RS W a s ++ [R]) (fun y => y.1.1) ⟨(3, root, at_), by omega, hat, rfl⟩ (by repeat (first | exact Sub.nil | refine Sub.cons rfl ?_)) aSp ?_
  rintro ⟨⟨n, r, k⟩, hi, hk, he⟩ m0 hm0
  try simp only at hm0
  try dsimp only
  simp only at hi hk he
  simp only [List.cons_append, List.nil_append]
  refine cw_seq ?_
  refine cw_seq ?_
  refine cw_region ?_
  refine ow_y (y_move rfl) ?_
  refine ow_y (y_geq rfl rfl) ?_
  refine ow_nil ?_
  refine kw_code (fun _ _ h => h) ?_
  refine cw_if rfl (fun hb11 => ?_) (fun hb11 => ?_)
  · skip
    obtain ⟨l, rfl⟩ : ∃ l, n = l + 1 := ⟨n - 1, by have := of_decide_eq_true hb11; omega⟩
    rw [getR_eq] at he
    rw [show ((l + 1 : Nat) : Int) - 1 = (l : Int) by omega]
    have hs1 : (slot l k).1 < 8 := Nat.mod_lt _ (by decide)
    have hs2 : (slot l k).2 ≤ k := Nat.mod_le _ _
    refine cw_skip ?_
    refine kw_code (fun _ _ h => h) ?_
    refine cw_seq ?_
    refine cw_block ?_
    refine cw_seq ?_
    refine cw_region ?_
    refine ow_y (y_move rfl) ?_
    refine ow_y (y_move rfl) ?_
    refine ow_gives rfl F.hb138 rfl (slot_spec l k (by omega) hk) aSp ?_
    try simp only [List.cons_append, List.nil_append]
    refine ow_y (y_move rfl) ?_
    refine ow_y (y_ext rfl rfl) ?_
    refine ow_y (y_ext rfl rfl) ?_
    refine ow_y (y_assign rfl) ?_
    refine ow_y (y_assign rfl) ?_
    refine ow_nil ?_
    refine kw_code (fun _ _ h => h) ?_
    refine cw_region ?_
    refine ow_y (y_move rfl) ?_
    refine ow_y (y_move rfl) ?_
    refine ow_y (y_move rfl) ?_
    refine ow_ran rfl F.hb139 rfl (load_spec W a s r l) aSp (fun x t ho => ?_) (fun e t ho => by (repeat (first | with_reducible refine kw_inBlock_panic ?_ | with_reducible refine kw_then_panic ?_)); exact kw_errR ((by rw [he]; exact andThen_err ho)) (fun _ _ h => h) aSp)
    try simp only [List.cons_append, List.nil_append]
    obtain ⟨hts, hln⟩ := load_len ho
    rw [hts] at ho ⊢
    rw [andThen_ok ho] at he
    have hil : (slot l k).1 < x.kids.length := by rw [hln.n]; exact hs1
    refine ow_y (y_fieldAgg (v := (x.kids.map intV).toArray) F.fa220_1 rfl (nd_kidsC hln)) ?_
    refine ow_y (y_move rfl) ?_
    refine ow_y (y_ixv F.ar218 F.sc3 rfl rfl (by omega) (nth_map intV x.kids (slot l k).1 _ hil (by omega))) ?_
    rw [← getD_int hil]
    refine ow_y (y_move rfl) ?_
    refine ow_y (y_assign rfl) ?_
    refine ow_y (y_assign rfl) ?_
    refine ow_nil ?_
    refine kw_code (fun _ _ h => h) ?_
    refine cw_region ?_
    refine ow_y (y_move rfl) ?_
    refine ow_y (y_subI rfl rfl (by omega)) ?_
    refine ow_y (y_assign rfl) ?_
    refine ow_nil ?_
    refine kw_rnd (fun _ _ h => h) (⟨(l, x.kids.getD (slot l k).1 0, (slot l k).2), by (show l ≤ 3); omega, by (show (slot l k).2 < 1000000); omega, he⟩) (by first | omega | (simp only; omega)) (by repeat (first | exact Sub.nil | refine Sub.cons rfl ?_)) aSp
  · skip
    obtain rfl : n = 0 := by have := of_decide_eq_false hb11; omega
    refine cw_exit ?_
    refine kw_code (fun _ _ h => h) ?_
    refine cw_seq ?_
    refine cw_region ?_
    refine ow_y (y_move rfl) ?_
    refine ow_y (y_assign rfl) ?_
    refine ow_nil ?_
    refine kw_code (fun _ _ h => h) ?_
    exact cw_retR he (fun _ _ h => h) rfl rfl aSp
theorem mset_spec (W : World) (hW : ShaW W) (a : Ad) (s : St) (root : Int) (at_ : Nat) (to_ : Int) (hbits : s.bits ≤ 256) (hat : at_ < 1000000) (hnb : (mset root at_ to_ s).1 ≠ .big) : Does Tryz.prog 125 #[ptr a.maps, .int .i64 root, .int .i64 at_, .int .i64 to_] (RS W a s) (Ran fT (RS W a) intV (mset root at_ to_ s)) := by
  have e0 : mset root at_ to_ s = andThen (rget 2 root at_) (fun x => if x = to_ then andThen (xless to_) fun _ => ret root else rset 2 root at_ to_) s := rfl
  refine does_enter Tryz.func125 rfl Tryz.ntmps125 rfl (fun R w0 => ?_)
  simp only [envOf, List.cons_append, List.nil_append]
  refine cw_seq ?_
  refine cw_region ?_
  refine ow_y (y_assign rfl) ?_
  refine ow_nil ?_
  refine kw_code (fun _ _ h => h) ?_
  refine cw_seq ?_
  refine cw_seq ?_
  refine cw_region ?_
  refine ow_y (y_move rfl) ?_
  refine ow_y (y_move rfl) ?_
  refine ow_y (y_move rfl) ?_
  refine ow_ran rfl F.hb86 rfl (rget_spec W a s root at_ hat) aSp (fun x t ho => ?_) (fun e t ho => by (repeat (first | with_reducible refine kw_inBlock_panic ?_ | with_reducible refine kw_then_panic ?_)); exact kw_errR ((by rw [e0]; exact andThen_err ho)) (fun _ _ h => h) aSp)
  try simp only [List.cons_append, List.nil_append]
  have hts := getR_ro 3 ho
  rw [hts] at ho ⊢
  rw [andThen_ok ho] at e0
  refine ow_y (y_move rfl) ?_
  refine ow_y (y_eql rfl rfl) ?_
  refine ow_nil ?_
  refine kw_code (fun _ _ h => h) ?_
  refine cw_if rfl (fun hb14 => ?_) (fun hb14 => ?_)
  · skip
    have hx : x = to_ := by have h := hb14; simp only [beq_iff_eq] at h; exact h
    rw [if_pos hx] at e0
    refine cw_seq ?_
    refine cw_region ?_
    refine ow_y (y_move rfl) ?_
    refine ow_y (y_nil rfl) ?_
    refine ow_y (y_fld F.fld155_1 rfl) ?_
    refine ow_y (y_load F.sc134 rfl (by rfl)) ?_
    refine ow_y (y_move rfl) ?_
    refine ow_ran rfl F.hb170 rfl (xless_spec W a s to_ hbits (by rw [e0] at hnb; exact big1 hnb)) aSp (fun b t ho => ?_) (fun e t ho => by (repeat (first | with_reducible refine kw_inBlock_panic ?_ | with_reducible refine kw_then_panic ?_)); exact kw_errR ((by rw [e0]; exact andThen_err ho)) (fun _ _ h => h) aSp)
    try simp only [List.cons_append, List.nil_append]
    refine ow_nil ?_
    refine kw_code (fun _ _ h => h) ?_
    refine cw_seq ?_
    refine cw_region ?_
    refine ow_y (y_move rfl) ?_
    refine ow_y (y_assign rfl) ?_
    refine ow_nil ?_
    refine kw_code (fun _ _ h => h) ?_
    exact cw_retR (e0.trans (andThen_ok ho)) (fun _ _ h => h) rfl rfl aSp
  · skip
    have hx : ¬ x = to_ := by have h := hb14; simp only [beq_eq_false_iff_ne] at h; exact h
    rw [if_neg hx] at e0
    refine cw_skip ?_
    refine kw_code (fun _ _ h => h) ?_
    refine cw_seq ?_
    refine cw_region ?_
    refine ow_y (y_move rfl) ?_
    refine ow_y (y_move rfl) ?_
    refine ow_y (y_move rfl) ?_
    refine ow_y (y_move rfl) ?_
    refine ow_ran rfl F.hb171 rfl (set_spec W hW a 2 (by omega) s root at_ to_ hbits hat (by rw [e0] at hnb; exact hnb)) aSp (fun r t ho => ?_) (fun e t ho => by (repeat (first | with_reducible refine kw_inBlock_panic ?_ | with_reducible refine kw_then_panic ?_)); exact kw_errR ((by rw [e0]; exact ho)) (fun _ _ h => h) aSp)
    try simp only [List.cons_append, List.nil_append]
    refine ow_y (y_assign rfl) ?_
    refine ow_nil ?_
    refine kw_code (fun _ _ h => h) ?_
    exact cw_retR (e0.trans ho) (fun _ _ h => h) rfl rfl aSp
end Go.Proofs.YthlclfdnhnnebaaGreatDoor
end
section
namespace Go.Sl
section
variable {c : Cx} {ops : Array Oper} {Q : Exit → Act → World → Prop} {K : List Asrt} {steps : Plan} {env : List (Nat × Value)} {L : List Asrt}
theorem om_nextS (hK : ∀ w, Sat w L → Sat w K) (h : OM c ops Q K steps env L) : KW c (Exit.then (KM c ops Q K steps) Q) .normal env L := by
  intro a w hh
  have hs : Sat w K := hK w hh.sat
  exact ⟨⟨hs, hh.like⟩, fun l hB hn hQ => h l a w hB hn hQ hh hs⟩
theorem cw_mixS {id : Nat} {l : List Oper} (steps : Plan) (K : List Asrt) (hm : c.P.follows .mixedOrders = true)
    (hB : (Region.noSelect l.toArray && (Nat.beq steps.len l.length && sched l.toArray steps (Array.replicate l.length false))) = true) (hQ : NoSlots Q) (hK : ∀ w, Sat w L → Sat w K) (h : OM c l.toArray Q K steps env L) : CW c (.region id l.toArray true) Q env L := by
  intro a w hh
  simp only [Bool.and_eq_true] at hB
  have hh' := hh.drew
  have hs : Sat w.drew K := hK _ hh'.sat
  have h1 := h _ a w.drew hB.2.2 hB.1 hQ hh' hs
  refine wp_region_held (S := Kept c K) hm ?_
  have e : steps.len = l.toArray.size := by simpa using Nat.eq_of_beq_eq_true hB.2.1
  rw [← e]
  have e2 : Array.replicate steps.len false = Array.replicate l.length false := by rw [Nat.eq_of_beq_eq_true hB.2.1]
  rw [e2]
  exact h1
end
end Go.Sl
end
section
namespace Go.Sb
inductive Car (α : Type) where
  | start
  | done (a : α)
  | lost
def alsoC {α : Type} (m : M α) : Run (St × Car α) Unit := fun x => match m x.1 with
  | (.ok a, t) => (.ok (), (t, .done a))
  | (.err e, t) => (.err e, (t, .lost))
  | (.big, t) => (.big, (t, .lost))
def tryC {α : Type} (m : M α) : Run (St × Car α) Int := tryR (alsoC m)
def tryA {α : Type} (m : M α) : M (Int × Car α) := fun s => match tryC m (s, .start) with
  | (.ok e, (t, c)) => (.ok (e, c), t)
  | (.err e, (t, _)) => (.err e, t)
  | (.big, (t, _)) => (.big, t)
def roomC {α : Type} (more : Nat) (m : M α) : M α := andThen (ahead more) fun _ => m
def carOr {α : Type} (d : α) : Car α → α
  | .done a => a
  | _ => d
def withinB (x : Ent) (at_ n : Int) : M Unit := if 5000 < x.size then fun s => (.big, s) else within x at_ n
def cmoreA (made : M Ent) : M (Int × Int) := fun s =>
  if 16 ≤ s.vols.length then (.ok (0, 13), s) else
  andThen (tryA (roomC 1 (andThen made cadd))) (fun r => ret (if r.1 = 0 then (carOr 0 r.2, 0) else (0, r.1))) s
def ccreateA (size : Int) : M (Int × Int) := if size < 1 ∨ 2048 < size then ret (0, 4) else cmoreA (ret { ent0 with size := size })
def copyM (id : Int) (only : Bool) : M Ent := andThen (find id) fun x => andThen (rmore x.root 3) fun _ => ret { ent0 with parent := id, only := only, size := x.size, root := x.root }
def ccopyA (id : Int) (only : Bool) : M (Int × Int) := fun s => match mget id s.vols with
  | none => (.ok (0, 5), s)
  | some _ => cmoreA (copyM id only) s
def writeM (id at_ : Int) (data : B) : M Unit := andThen (copen id) fun x => if data.length % 64 ≠ 0 then fail 4 else
  andThen (withinB x at_ (data.length / 64 : Nat)) fun _ => andThen (patchD x at_.toNat data) cput
def cwriteA (id at_ : Int) (data : B) : M Int := andThen (tryA (roomC 0 (writeM id at_ data))) fun r => ret r.1
def readM (id at_ n : Int) : M B := andThen (find id) fun x => andThen (withinB x at_ n) fun _ => creads n.toNat x at_.toNat n.toNat
def creadA (id at_ n : Int) : M (B × Int) := andThen (tryA (readM id at_ n)) fun r => ret (if r.1 = 0 then (carOr [] r.2, 0) else ([], r.1))
end Go.Sb
end
section
set_option maxRecDepth 4000
set_option maxHeartbeats 4000000
namespace Go.Proofs.YthlclfdnhnnebaaGreatDoor
open Go.Sl Go.Sb
def RO {α : Type} (m : M α) : Prop := ∀ s, (m s).2 = s
theorem ro_then {α β : Type} {m : M α} {f : α → M β} (h : RO m) (hf : ∀ a, RO (f a)) : RO (andThen m f) := fun s => by
  unfold andThen
  have h1 := h s
  cases e : m s with
  | mk o t =>
    rw [e] at h1
    cases o with
    | ok a => exact (hf a t).trans h1
    | err e => exact h1
    | big => exact h1
theorem ro_ret {α : Type} (a : α) : RO (ret a : M α) := fun _ => rfl
theorem ro_if {α : Type} {p : Prop} [Decidable p] {m n : M α} (h : RO m) (h' : RO n) : RO (if p then m else n) := by split <;> assumption
theorem ro_hget (at_ : Int) : RO (hget at_) := fun s => by unfold hget; split <;> rfl
theorem ro_load (a : Int) (l : Nat) : RO (Go.Sb.load a l) := ro_if (ro_ret _) (ro_then (ro_hget a) fun _ => fun _ => rfl)
theorem ro_rget : ∀ l root at_, RO (rget l root at_)
  | 0, root, at_ => by unfold rget; exact ro_then (ro_load _ _) fun _ => ro_ret _
  | l + 1, root, at_ => by unfold rget; exact ro_then (ro_load _ _) fun _ => ro_rget l _ _
theorem ro_xparts (x : Hd) : ∀ n, RO (xparts x n)
  | 0 => ro_ret _
  | n + 1 => by
    unfold xparts
    exact ro_then (ro_if (ro_then (ro_hget _) fun _ => ro_if (fun _ => rfl) (ro_ret _)) (ro_ret _)) fun _ => ro_then (ro_xparts x n) fun _ => ro_ret _
theorem ro_xget (a : Int) : RO (xget a) := ro_if (ro_ret _) (ro_then (ro_then (ro_hget a) fun _ => fun _ => rfl) fun x => ro_xparts x 4)
theorem ro_cget (x : Ent) (i : Nat) : RO (cget x i) := ro_then (ro_rget _ _ _) ro_xget
theorem ran_ro {W : World} {a : Ad} {α : Type} {val : α → Value} {s : St} {o : Out α × St} {e : Ending} {L : List Asrt} (h : o.2 = s) : Ran fT (fun _ : St => RS W a s) val o e L ↔ Ran fT (RS W a) val o e L := by
  obtain ⟨o, t⟩ := o
  have h : t = s := h
  subst h
  cases o <;> exact Iff.rfl
section
variable {c : Cx} {d : Option Tmp} {ty : TypeId} {pos : String} {af : Array Edge} {g : Option (Nat × Bool)} {env : List (Nat × Value)} {L M : List Asrt} {a : Ad} {s : St}
theorem hl_core {w : World} (h : Sat w (HL a s :: M)) : ∃ M', Sat w (coreC a s.next s.epoch :: M') := by
  obtain ⟨x, hs⟩ := sat_ex.1 h
  have h1 := sat_star.1 hs
  simp only [hlV, openTT, List.cons_append, List.nil_append] at h1
  exact ⟨_, (show Fnd _ (coreC a s.next s.epoch) _ from aFd).sat h1⟩
theorem y_core {x : Operand} {t : TypeId} {k : Nat} {v : Value} (ht : tyScalar c.P t = true) (hx : evo env x = some (.pointer (some ⟨a.core, k, none⟩))) (hL : Fnd L (HL a s) M) (hv : nth (ccells a s.next s.epoch) k = some v) :
    Sl.Yields c ⟨d, .load t x, ty, pos, af, g⟩ env L v :=
  y_loadP ht hx hL fun w L' hs => by
    obtain ⟨M', h1⟩ := hl_core hs
    have h2 := h1.pts
    rw [nth_eq] at hv
    simp [World.cell?, h2, hv]
def HLX (a : Ad) : Asrt := ex fun s : St => HL a s
theorem y_coreX {x : Operand} {t : TypeId} {k : Nat} {v : Value} (ht : tyScalar c.P t = true) (hx : evo env x = some (.pointer (some ⟨a.core, k, none⟩))) (hL : Fnd L (HLX a) M) (hv : ∀ n e, nth (ccells a n e) k = some v) :
    Sl.Yields c ⟨d, .load t x, ty, pos, af, g⟩ env L v :=
  y_loadP ht hx hL fun w L' hs => by
    obtain ⟨s, hs⟩ := sat_ex.1 hs
    obtain ⟨M', h1⟩ := hl_core hs
    have h2 := h1.pts
    have hv := hv s.next s.epoch
    rw [nth_eq] at hv
    simp [World.cell?, h2, hv]
theorem sat_hlx {K R : List Asrt} (hK : Split L (HL a s :: K) R) (w : World) (h : Sat w L) : Sat w (HLX a :: K) := by
  have h1 := (h.perm hK).perm List.perm_append_comm
  exact sat_ex.2 ⟨s, h1.drop⟩
end
abbrev entP (b : Nat) (x : Ent) : Asrt := pts b (.cells (entV x).toArray 72 (0, 0))
theorem info_spec (W : World) (a : Ad) (s : St) (id : Int) : Does Tryz.prog 53 #[ptr a.core, .int .u32 id] [HL a s] (Gives (.tuple #[entA ((mget id s.vols).getD ent0), .int .i64 (if (mget id s.vols).isSome then 0 else 5)]) [HL a s]) := by
  cases hm : mget id s.vols with
  | none =>
    refine does_enter Tryz.func53 rfl Tryz.ntmps53 rfl (fun R w0 => ?_)
    simp only [envOf, List.cons_append, List.nil_append]
    refine cw_hl aFd fun by_ gv gc o hg hok => ?_
    simp only [openTT, ccells, List.cons_append, List.nil_append]
    refine cw_seq ?_
    refine cw_region ?_
    refine (ow_alloc F.z72 (fun b4 => ?_))
    refine ow_y (y_assign rfl) ?_
    refine ow_nil ?_
    refine kw_code (fun _ _ h => h) ?_
    refine cw_seq ?_
    refine cw_region ?_
    refine ow_y (y_move rfl) ?_
    refine ow_y (y_nil rfl) ?_
    refine ow_y (y_fld F.fld69_2 rfl) ?_
    refine ow_y (y_load F.sc67 rfl (by rfl)) ?_
    refine ow_y (y_move rfl) ?_
    refine ow_y (y_look2 (ek := u32V) (ev := entA) (k := id) F.mp67 keyU (tt fun _ => trivial) trivial F.z72 rfl rfl aFd getEnt) ?_
    refine ow_y (y_move rfl) ?_
    rw [hm]
    refine ow_y (y_ext rfl rfl) ?_
    refine ow_y (y_ext rfl rfl) ?_
    refine (ow_alloc F.z72 (fun b6 => ?_))
    refine ow_storeAgg F.sz72 rfl rfl rfl (by simp [entV, Value.oneCell']) (by simp [entV, Value.cells]) (splice_all (by simp [entV, Value.cells])) ?_
    refine ow_y (y_assign rfl) ?_
    refine ow_nil ?_
    refine kw_code (fun _ _ h => h) ?_
    refine cw_seq ?_
    refine cw_seq ?_
    refine cw_region ?_
    refine ow_y (y_move rfl) ?_
    refine ow_y (y_not rfl) ?_
    refine ow_nil ?_
    refine kw_code (fun _ _ h => h) ?_
    refine cw_true rfl rfl ?_
    refine cw_seq ?_
    refine cw_region ?_
    refine ow_y (y_loadAgg F.ag72 rfl (by simp [Value.cells, entV]) (extract_all (by simp [Value.cells, entV]))) ?_
    refine ow_storeAgg F.sz72 rfl rfl rfl (by simp [entV, Value.oneCell']) (by simp [entV, Value.cells]) (splice_all (by simp [entV, Value.cells])) ?_
    refine ow_y (y_assign rfl) ?_
    refine ow_nil ?_
    refine kw_code (fun _ _ h => h) ?_
    refine cw_said (sat_hl hg hok aSp) (cw_retGC (fun _ _ h => h) (RV.agg F.ag72 rfl (by simp [Value.cells, entV]) (extract_all (by simp [Value.cells, entV])) (RV.tmp rfl RV.nil)) rfl aSp)
  | some x =>
    refine does_enter Tryz.func53 rfl Tryz.ntmps53 rfl (fun R w0 => ?_)
    simp only [envOf, List.cons_append, List.nil_append]
    refine cw_hl aFd fun by_ gv gc o hg hok => ?_
    simp only [openTT, ccells, List.cons_append, List.nil_append]
    refine cw_seq ?_
    refine cw_region ?_
    refine (ow_alloc F.z72 (fun b4 => ?_))
    refine ow_y (y_assign rfl) ?_
    refine ow_nil ?_
    refine kw_code (fun _ _ h => h) ?_
    refine cw_seq ?_
    refine cw_region ?_
    refine ow_y (y_move rfl) ?_
    refine ow_y (y_nil rfl) ?_
    refine ow_y (y_fld F.fld69_2 rfl) ?_
    refine ow_y (y_load F.sc67 rfl (by rfl)) ?_
    refine ow_y (y_move rfl) ?_
    refine ow_y (y_look2 (ek := u32V) (ev := entA) (k := id) F.mp67 keyU (tt fun _ => trivial) trivial F.z72 rfl rfl aFd getEnt) ?_
    refine ow_y (y_move rfl) ?_
    rw [hm]
    refine ow_y (y_ext rfl rfl) ?_
    refine ow_y (y_ext rfl rfl) ?_
    refine (ow_alloc F.z72 (fun b6 => ?_))
    refine ow_storeAgg F.sz72 rfl rfl rfl (by simp [entV, Value.oneCell']) (by simp [entV, Value.cells]) (splice_all (by simp [entV, Value.cells])) ?_
    refine ow_y (y_assign rfl) ?_
    refine ow_nil ?_
    refine kw_code (fun _ _ h => h) ?_
    refine cw_seq ?_
    refine cw_seq ?_
    refine cw_region ?_
    refine ow_y (y_move rfl) ?_
    refine ow_y (y_not rfl) ?_
    refine ow_nil ?_
    refine kw_code (fun _ _ h => h) ?_
    refine cw_false rfl rfl ?_
    refine cw_skip ?_
    refine kw_code (fun _ _ h => h) ?_
    refine cw_seq ?_
    refine cw_region ?_
    refine ow_y (y_loadAgg F.ag72 rfl (by simp [Value.cells, entV]) (extract_all (by simp [Value.cells, entV]))) ?_
    refine ow_storeAgg F.sz72 rfl rfl rfl (by simp [entV, Value.oneCell']) (by simp [entV, Value.cells]) (splice_all (by simp [entV, Value.cells])) ?_
    refine ow_y (y_assign rfl) ?_
    refine ow_nil ?_
    refine kw_code (fun _ _ h => h) ?_
    refine cw_said (sat_hl hg hok aSp) (cw_retGC (fun _ _ h => h) (RV.agg F.ag72 rfl (by simp [Value.cells, entV]) (extract_all (by simp [Value.cells, entV])) (RV.tmp rfl RV.nil)) rfl aSp)
end Go.Proofs.YthlclfdnhnnebaaGreatDoor
end
section
set_option maxRecDepth 4000
set_option maxHeartbeats 4000000
namespace Go.Proofs.YthlclfdnhnnebaaGreatDoor
open Go.Sl Go.Sb
theorem find_some {s : St} {id : Int} {x : Ent} (h : mget id s.vols = some x) : find id s = (.ok x, s) := by unfold find; rw [h]
theorem find_none {s : St} {id : Int} (h : mget id s.vols = none) : find id s = (.err 5, s) := by unfold find; rw [h]
theorem find_spec (W : World) (a : Ad) (s : St) (id : Int) : Does Tryz.prog 35 #[ptr a.core, .int .u32 id] (RS W a s) (Ran fT (RS W a) entA (find id s)) := by
  have hi := info_spec W a s id
  cases hm : mget id s.vols with
  | none =>
    rw [hm] at hi
    rw [find_none hm]
    refine does_enter Tryz.func35 rfl Tryz.ntmps35 rfl (fun R w0 => ?_)
    simp only [envOf, List.cons_append, List.nil_append]
    refine cw_seq ?_
    refine cw_region ?_
    refine (ow_alloc F.z72 (fun b4 => ?_))
    refine ow_nil ?_
    refine kw_code (fun _ _ h => h) ?_
    refine cw_seq ?_
    refine cw_region ?_
    refine ow_y (y_move rfl) ?_
    refine ow_y (y_move rfl) ?_
    refine ow_gives rfl F.hb53 rfl (hi) aSp ?_
    try simp only [List.cons_append, List.nil_append]
    refine ow_y (y_move rfl) ?_
    refine ow_y (y_ext rfl rfl) ?_
    refine ow_y (y_ext rfl rfl) ?_
    refine (ow_alloc F.z72 (fun b5 => ?_))
    refine ow_storeAgg F.sz72 rfl rfl rfl (by simp [entV, Value.oneCell']) (by simp [entV, Value.cells]) (splice_all (by simp [entV, Value.cells])) ?_
    refine ow_y (y_assign rfl) ?_
    refine ow_nil ?_
    refine kw_code (fun _ _ h => h) ?_
    refine cw_seq ?_
    refine cw_seq ?_
    refine cw_region ?_
    refine ow_y (y_move rfl) ?_
    refine ow_y (y_neq rfl rfl) ?_
    refine ow_nil ?_
    refine kw_code (fun _ _ h => h) ?_
    refine cw_true rfl rfl ?_
    refine cw_region ?_
    refine ow_y (y_move rfl) ?_
    refine ow_fails rfl F.hb29 rfl (fail_spec 5) aSp ?_
    simp only [List.cons_append, List.nil_append]
    repeat (first | with_reducible refine kw_inBlock_panic ?_ | with_reducible refine kw_then_panic ?_)
    exact kw_errR rfl (fun _ _ h => h) aSp
  | some x =>
    rw [hm] at hi
    rw [find_some hm]
    refine does_enter Tryz.func35 rfl Tryz.ntmps35 rfl (fun R w0 => ?_)
    simp only [envOf, List.cons_append, List.nil_append]
    refine cw_seq ?_
    refine cw_region ?_
    refine (ow_alloc F.z72 (fun b4 => ?_))
    refine ow_nil ?_
    refine kw_code (fun _ _ h => h) ?_
    refine cw_seq ?_
    refine cw_region ?_
    refine ow_y (y_move rfl) ?_
    refine ow_y (y_move rfl) ?_
    refine ow_gives rfl F.hb53 rfl (hi) aSp ?_
    try simp only [List.cons_append, List.nil_append]
    refine ow_y (y_move rfl) ?_
    refine ow_y (y_ext rfl rfl) ?_
    refine ow_y (y_ext rfl rfl) ?_
    refine (ow_alloc F.z72 (fun b5 => ?_))
    refine ow_storeAgg F.sz72 rfl rfl rfl (by simp [entV, Value.oneCell']) (by simp [entV, Value.cells]) (splice_all (by simp [entV, Value.cells])) ?_
    refine ow_y (y_assign rfl) ?_
    refine ow_nil ?_
    refine kw_code (fun _ _ h => h) ?_
    refine cw_seq ?_
    refine cw_seq ?_
    refine cw_region ?_
    refine ow_y (y_move rfl) ?_
    refine ow_y (y_neq rfl rfl) ?_
    refine ow_nil ?_
    refine kw_code (fun _ _ h => h) ?_
    refine cw_false rfl rfl ?_
    refine cw_skip ?_
    refine kw_code (fun _ _ h => h) ?_
    refine cw_seq ?_
    refine cw_region ?_
    refine ow_y (y_loadAgg F.ag72 rfl (by simp [Value.cells, entV]) (extract_all (by simp [Value.cells, entV]))) ?_
    refine ow_storeAgg F.sz72 rfl rfl rfl (by simp [entV, Value.oneCell']) (by simp [entV, Value.cells]) (splice_all (by simp [entV, Value.cells])) ?_
    refine ow_nil ?_
    refine kw_code (fun _ _ h => h) ?_
    exact cw_retRC rfl (fun _ _ h => h) (RV.agg F.ag72 rfl (by simp [Value.cells, entV]) (extract_all (by simp [Value.cells, entV])) RV.nil) rfl aSp
theorem copen_spec (W : World) (a : Ad) (s : St) (id : Int) : Does Tryz.prog 28 #[ptr a.core, .int .u32 id] (RS W a s) (Ran fT (RS W a) entA (copen id s)) := by
  have e0 : copen id s = andThen (find id) (fun x => if x.only then fail 7 else ret x) s := rfl
  refine does_enter Tryz.func28 rfl Tryz.ntmps28 rfl (fun R w0 => ?_)
  simp only [envOf, List.cons_append, List.nil_append]
  refine cw_seq ?_
  refine cw_region ?_
  refine (ow_alloc F.z72 (fun b4 => ?_))
  refine ow_nil ?_
  refine kw_code (fun _ _ h => h) ?_
  refine cw_seq ?_
  refine cw_region ?_
  refine ow_y (y_move rfl) ?_
  refine ow_y (y_move rfl) ?_
  refine ow_ran rfl F.hb35 rfl (find_spec W a s id) aSp (fun x t ho => ?_) (fun e t ho => by (repeat (first | with_reducible refine kw_inBlock_panic ?_ | with_reducible refine kw_then_panic ?_)); exact kw_errR ((by rw [e0]; exact andThen_err ho)) (fun _ _ h => h) aSp)
  try simp only [List.cons_append, List.nil_append]
  rw [andThen_ok ho] at e0
  refine (ow_alloc F.z72 (fun b5 => ?_))
  refine ow_storeAgg F.sz72 rfl rfl rfl (by simp [entV, Value.oneCell']) (by simp [entV, Value.cells]) (splice_all (by simp [entV, Value.cells])) ?_
  refine ow_nil ?_
  refine kw_code (fun _ _ h => h) ?_
  refine cw_seq ?_
  refine cw_seq ?_
  refine cw_region ?_
  refine ow_y (y_fld F.fld72_2 rfl) ?_
  refine ow_y (y_load F.sc4 rfl (by rfl)) ?_
  refine ow_nil ?_
  refine kw_code (fun _ _ h => h) ?_
  refine cw_if rfl (fun hb10 => ?_) (fun hb10 => ?_)
  · skip
    refine cw_region ?_
    refine ow_fails rfl F.hb29 rfl (fail_spec 7) aSp ?_
    simp only [List.cons_append, List.nil_append]
    repeat (first | with_reducible refine kw_inBlock_panic ?_ | with_reducible refine kw_then_panic ?_)
    exact kw_errR (by rw [e0, if_pos hb10]; rfl) (fun _ _ h => h) aSp
  · skip
    have hof : ¬ (x.only = true) := by rw [hb10]; simp
    refine cw_skip ?_
    refine kw_code (fun _ _ h => h) ?_
    refine cw_seq ?_
    refine cw_region ?_
    refine ow_y (y_loadAgg F.ag72 rfl (by simp [Value.cells, entV]) (extract_all (by simp [Value.cells, entV]))) ?_
    refine ow_storeAgg F.sz72 rfl rfl rfl (by simp [entV, Value.oneCell']) (by simp [entV, Value.cells]) (splice_all (by simp [entV, Value.cells])) ?_
    refine ow_nil ?_
    refine kw_code (fun _ _ h => h) ?_
    exact cw_retRC (by rw [e0, if_neg hof]; rfl) (fun _ _ h => h) (RV.agg F.ag72 rfl (by simp [Value.cells, entV]) (extract_all (by simp [Value.cells, entV])) RV.nil) rfl aSp
theorem putVols_big {s : St} {k : Int} {v : Ent} (h : (putVols k v s).1 ≠ .big) : s.log.length < 1000000000 := room_n h fun h' => by simp [putVols, andThen, back, h']
theorem putVols_eq {s : St} (k : Int) (v : Ent) (h : s.log.length < 1000000000) : putVols k v s = (.ok (), { s with log := bk s.depth s.log (.vols k (mget k s.vols)), vols := mput k v s.vols }) := by
  simp [putVols, andThen, back, show ¬ 1000000000 ≤ s.log.length by omega]
theorem cput_spec (W : World) (a : Ad) (s : St) (x : Ent) (hnb : (cput x s).1 ≠ .big) : Does Tryz.prog 32 #[ptr a.core, entA x] (RS W a s) (Ran fT (RS W a) unitV (cput x s)) := by
  have hn := putVols_big hnb
  rw [show cput x s = _ from putVols_eq x.id x hn]
  refine does_enter Tryz.func32 rfl Tryz.ntmps32 rfl (fun R w0 => ?_)
  simp only [envOf, List.cons_append, List.nil_append, entA]
  refine cw_hl aFd fun by_ gv gc o hg hok => ?_
  simp only [openTT, ccells, hcells, List.cons_append, List.nil_append]
  refine cw_seq ?_
  refine cw_region ?_
  refine (ow_box rfl (fun b3 => ?_))
  refine ow_nil ?_
  refine kw_code (fun _ _ h => h) ?_
  refine cw_tail 14 F.fol (by kernel_rfl) ?_
  simp only [List.take_succ_cons, List.take_zero, List.drop_succ_cons, List.drop_zero]
  refine os_y (y_move rfl) ?_
  refine os_y (y_nil rfl) ?_
  refine os_y (y_fld F.fld69_0 rfl) ?_
  refine os_y (y_load F.sc62 rfl (by rfl)) ?_
  refine os_y (y_nil rfl) ?_
  refine os_y (y_fld F.fld144_1 rfl) ?_
  refine os_y (y_load F.sc136 rfl (by rfl)) ?_
  refine os_y (y_move rfl) ?_
  refine os_y (y_nil rfl) ?_
  refine os_y (y_fld F.fld69_2 rfl) ?_
  refine os_y (y_load F.sc67 rfl (by rfl)) ?_
  refine os_y (y_fld F.fld72_0 rfl) ?_
  refine os_y (y_load F.sc26 rfl (by rfl)) ?_
  refine os_y (y_loadAgg F.ag72 rfl (by simp [Value.cells, entV]) (extract_all (by simp [Value.cells, entV]))) ?_
  refine os_nil ?_
  refine ow_givesE rfl F.hb80 rfl (putEnt_spec a by_ o s.log s.depth s.vols x.id x hn) aSp ?_
  rintro e _
  try simp only [List.cons_append, List.nil_append]
  refine ow_nil ?_
  refine kw_said (sat_hl (s := { s with log := bk s.depth s.log (.vols x.id (mget x.id s.vols)), vols := mput x.id x s.vols }) hg hok aSp) (kw_finR rfl rfl rfl aSp)
theorem within_spec (W : World) (a : Ad) (s : St) (x : Ent) (at_ n : Int) (hnb : (withinB x at_ n s).1 ≠ .big) : Does Tryz.prog 30 #[entA x, .int .i64 at_, .int .i64 n] (RS W a s) (Ran fT (RS W a) unitV (withinB x at_ n s)) := by
  have hs : ¬ 5000 < x.size := fun h => hnb (by unfold withinB; rw [if_pos h])
  have e0 : withinB x at_ n s = within x at_ n s := by unfold withinB; rw [if_neg hs]
  rw [e0]
  by_cases h1 : at_ < 0
  · rw [show within x at_ n s = (.err 6, s) by unfold within; rw [if_pos (.inl h1)]; rfl]
    refine does_enter Tryz.func30 rfl Tryz.ntmps30 rfl (fun R w0 => ?_)
    simp only [envOf, List.cons_append, List.nil_append, entA]
    refine cw_seq ?_
    refine cw_region ?_
    refine (ow_box rfl (fun b3 => ?_))
    refine ow_nil ?_
    refine kw_code (fun _ _ h => h) ?_
    refine cw_seq ?_
    refine cw_region ?_
    refine ow_y (y_move rfl) ?_
    refine ow_y (y_lss rfl rfl) ?_
    refine ow_y (y_move rfl) ?_
    refine ow_skip rfl (fun a w hh => (want_of rfl rfl rfl hh).trans (wFT (by first | rfl | exact decide_eq_true (by omega)))) ?_
    refine ow_skip rfl (fun a w hh => (want_of rfl rfl rfl hh).trans (wFT (by first | rfl | exact decide_eq_true (by omega)))) ?_
    refine ow_y (y_pickT rfl (by first | rfl | exact decide_eq_true (by omega)) rfl) ?_
    refine ow_y (y_move rfl) ?_
    refine ow_skip rfl (fun a w hh => (want_of rfl rfl rfl hh).trans (wFT rfl)) ?_
    refine ow_skip rfl (fun a w hh => (want_of rfl rfl rfl hh).trans (wFT rfl)) ?_
    refine ow_skip rfl (fun a w hh => (want_of rfl rfl rfl hh).trans (wFT rfl)) ?_
    refine ow_skip rfl (fun a w hh => (want_of rfl rfl rfl hh).trans (wFT rfl)) ?_
    refine ow_y (y_pickT rfl rfl rfl) ?_
    refine ow_y (y_move rfl) ?_
    refine ow_skip rfl (fun a w hh => (want_of rfl rfl rfl hh).trans (wFT rfl)) ?_
    refine ow_skip rfl (fun a w hh => (want_of rfl rfl rfl hh).trans (wFT rfl)) ?_
    refine ow_skip rfl (fun a w hh => (want_of rfl rfl rfl hh).trans (wFT rfl)) ?_
    refine ow_skip rfl (fun a w hh => (want_of rfl rfl rfl hh).trans (wFT rfl)) ?_
    refine ow_skip rfl (fun a w hh => (want_of rfl rfl rfl hh).trans (wFT rfl)) ?_
    refine ow_skip rfl (fun a w hh => (want_of rfl rfl rfl hh).trans (wFT rfl)) ?_
    refine ow_y (y_pickT rfl rfl rfl) ?_
    refine ow_nil ?_
    refine kw_code (fun _ _ h => h) ?_
    refine cw_true rfl rfl ?_
    refine cw_region ?_
    refine ow_fails rfl F.hb29 rfl (fail_spec 6) aSp ?_
    simp only [List.cons_append, List.nil_append]
    repeat (first | with_reducible refine kw_inBlock_panic ?_ | with_reducible refine kw_then_panic ?_)
    exact kw_errR rfl (fun _ _ h => h) aSp
  · by_cases h2 : n < 0
    · rw [show within x at_ n s = (.err 6, s) by unfold within; rw [if_pos (.inr (.inl h2))]; rfl]
      refine does_enter Tryz.func30 rfl Tryz.ntmps30 rfl (fun R w0 => ?_)
      simp only [envOf, List.cons_append, List.nil_append, entA]
      refine cw_seq ?_
      refine cw_region ?_
      refine (ow_box rfl (fun b3 => ?_))
      refine ow_nil ?_
      refine kw_code (fun _ _ h => h) ?_
      refine cw_seq ?_
      refine cw_region ?_
      refine ow_y (y_move rfl) ?_
      refine ow_y (y_lss rfl rfl) ?_
      refine ow_y (y_move rfl) ?_
      refine ow_yg (y_move rfl) (fun a w hh => (want_of rfl rfl rfl hh).trans (wFF (by first | rfl | exact decide_eq_false (by omega)))) ?_
      refine ow_yg (y_lss rfl rfl) (fun a w hh => (want_of rfl rfl rfl hh).trans (wFF (by first | rfl | exact decide_eq_false (by omega)))) ?_
      refine ow_y (y_pickF rfl (by first | rfl | exact decide_eq_false (by omega)) rfl) ?_
      refine ow_y (y_move rfl) ?_
      refine ow_skip rfl (fun a w hh => (want_of rfl rfl rfl hh).trans (wFT (by first | rfl | exact decide_eq_true (by omega)))) ?_
      refine ow_skip rfl (fun a w hh => (want_of rfl rfl rfl hh).trans (wFT (by first | rfl | exact decide_eq_true (by omega)))) ?_
      refine ow_skip rfl (fun a w hh => (want_of rfl rfl rfl hh).trans (wFT (by first | rfl | exact decide_eq_true (by omega)))) ?_
      refine ow_skip rfl (fun a w hh => (want_of rfl rfl rfl hh).trans (wFT (by first | rfl | exact decide_eq_true (by omega)))) ?_
      refine ow_y (y_pickT rfl (by first | rfl | exact decide_eq_true (by omega)) rfl) ?_
      refine ow_y (y_move rfl) ?_
      refine ow_skip rfl (fun a w hh => (want_of rfl rfl rfl hh).trans (wFT rfl)) ?_
      refine ow_skip rfl (fun a w hh => (want_of rfl rfl rfl hh).trans (wFT rfl)) ?_
      refine ow_skip rfl (fun a w hh => (want_of rfl rfl rfl hh).trans (wFT rfl)) ?_
      refine ow_skip rfl (fun a w hh => (want_of rfl rfl rfl hh).trans (wFT rfl)) ?_
      refine ow_skip rfl (fun a w hh => (want_of rfl rfl rfl hh).trans (wFT rfl)) ?_
      refine ow_skip rfl (fun a w hh => (want_of rfl rfl rfl hh).trans (wFT rfl)) ?_
      refine ow_y (y_pickT rfl rfl rfl) ?_
      refine ow_nil ?_
      refine kw_code (fun _ _ h => h) ?_
      refine cw_true rfl rfl ?_
      refine cw_region ?_
      refine ow_fails rfl F.hb29 rfl (fail_spec 6) aSp ?_
      simp only [List.cons_append, List.nil_append]
      repeat (first | with_reducible refine kw_inBlock_panic ?_ | with_reducible refine kw_then_panic ?_)
      exact kw_errR rfl (fun _ _ h => h) aSp
    · by_cases h3 : x.size < at_
      · rw [show within x at_ n s = (.err 6, s) by unfold within; rw [if_pos (.inr (.inr (.inl h3)))]; rfl]
        refine does_enter Tryz.func30 rfl Tryz.ntmps30 rfl (fun R w0 => ?_)
        simp only [envOf, List.cons_append, List.nil_append, entA]
        refine cw_seq ?_
        refine cw_region ?_
        refine (ow_box rfl (fun b3 => ?_))
        refine ow_nil ?_
        refine kw_code (fun _ _ h => h) ?_
        refine cw_seq ?_
        refine cw_region ?_
        refine ow_y (y_move rfl) ?_
        refine ow_y (y_lss rfl rfl) ?_
        refine ow_y (y_move rfl) ?_
        refine ow_yg (y_move rfl) (fun a w hh => (want_of rfl rfl rfl hh).trans (wFF (by first | rfl | exact decide_eq_false (by omega)))) ?_
        refine ow_yg (y_lss rfl rfl) (fun a w hh => (want_of rfl rfl rfl hh).trans (wFF (by first | rfl | exact decide_eq_false (by omega)))) ?_
        refine ow_y (y_pickF rfl (by first | rfl | exact decide_eq_false (by omega)) rfl) ?_
        refine ow_y (y_move rfl) ?_
        refine ow_yg (y_move rfl) (fun a w hh => (want_of rfl rfl rfl hh).trans (wFF (by first | rfl | exact decide_eq_false (by omega)))) ?_
        refine ow_yg (y_fld F.fld72_3 rfl) (fun a w hh => (want_of rfl rfl rfl hh).trans (wFF (by first | rfl | exact decide_eq_false (by omega)))) ?_
        refine ow_yg (y_load F.sc3 rfl (by rfl)) (fun a w hh => (want_of rfl rfl rfl hh).trans (wFF (by first | rfl | exact decide_eq_false (by omega)))) ?_
        refine ow_yg (y_gtr rfl rfl) (fun a w hh => (want_of rfl rfl rfl hh).trans (wFF (by first | rfl | exact decide_eq_false (by omega)))) ?_
        refine ow_y (y_pickF rfl (by first | rfl | exact decide_eq_false (by omega)) rfl) ?_
        refine ow_y (y_move rfl) ?_
        refine ow_skip rfl (fun a w hh => (want_of rfl rfl rfl hh).trans (wFT (by first | rfl | exact decide_eq_true (by omega)))) ?_
        refine ow_skip rfl (fun a w hh => (want_of rfl rfl rfl hh).trans (wFT (by first | rfl | exact decide_eq_true (by omega)))) ?_
        refine ow_skip rfl (fun a w hh => (want_of rfl rfl rfl hh).trans (wFT (by first | rfl | exact decide_eq_true (by omega)))) ?_
        refine ow_skip rfl (fun a w hh => (want_of rfl rfl rfl hh).trans (wFT (by first | rfl | exact decide_eq_true (by omega)))) ?_
        refine ow_skip rfl (fun a w hh => (want_of rfl rfl rfl hh).trans (wFT (by first | rfl | exact decide_eq_true (by omega)))) ?_
        refine ow_skip rfl (fun a w hh => (want_of rfl rfl rfl hh).trans (wFT (by first | rfl | exact decide_eq_true (by omega)))) ?_
        refine ow_y (y_pickT rfl (by first | rfl | exact decide_eq_true (by omega)) rfl) ?_
        refine ow_nil ?_
        refine kw_code (fun _ _ h => h) ?_
        refine cw_true rfl rfl ?_
        refine cw_region ?_
        refine ow_fails rfl F.hb29 rfl (fail_spec 6) aSp ?_
        simp only [List.cons_append, List.nil_append]
        repeat (first | with_reducible refine kw_inBlock_panic ?_ | with_reducible refine kw_then_panic ?_)
        exact kw_errR rfl (fun _ _ h => h) aSp
      · by_cases h4 : x.size - at_ < n
        · rw [show within x at_ n s = (.err 6, s) by unfold within; rw [if_pos (.inr (.inr (.inr h4)))]; rfl]
          refine does_enter Tryz.func30 rfl Tryz.ntmps30 rfl (fun R w0 => ?_)
          simp only [envOf, List.cons_append, List.nil_append, entA]
          refine cw_seq ?_
          refine cw_region ?_
          refine (ow_box rfl (fun b3 => ?_))
          refine ow_nil ?_
          refine kw_code (fun _ _ h => h) ?_
          refine cw_seq ?_
          refine cw_region ?_
          refine ow_y (y_move rfl) ?_
          refine ow_y (y_lss rfl rfl) ?_
          refine ow_y (y_move rfl) ?_
          refine ow_yg (y_move rfl) (fun a w hh => (want_of rfl rfl rfl hh).trans (wFF (by first | rfl | exact decide_eq_false (by omega)))) ?_
          refine ow_yg (y_lss rfl rfl) (fun a w hh => (want_of rfl rfl rfl hh).trans (wFF (by first | rfl | exact decide_eq_false (by omega)))) ?_
          refine ow_y (y_pickF rfl (by first | rfl | exact decide_eq_false (by omega)) rfl) ?_
          refine ow_y (y_move rfl) ?_
          refine ow_yg (y_move rfl) (fun a w hh => (want_of rfl rfl rfl hh).trans (wFF (by first | rfl | exact decide_eq_false (by omega)))) ?_
          refine ow_yg (y_fld F.fld72_3 rfl) (fun a w hh => (want_of rfl rfl rfl hh).trans (wFF (by first | rfl | exact decide_eq_false (by omega)))) ?_
          refine ow_yg (y_load F.sc3 rfl (by rfl)) (fun a w hh => (want_of rfl rfl rfl hh).trans (wFF (by first | rfl | exact decide_eq_false (by omega)))) ?_
          refine ow_yg (y_gtr rfl rfl) (fun a w hh => (want_of rfl rfl rfl hh).trans (wFF (by first | rfl | exact decide_eq_false (by omega)))) ?_
          refine ow_y (y_pickF rfl (by first | rfl | exact decide_eq_false (by omega)) rfl) ?_
          refine ow_y (y_move rfl) ?_
          refine ow_yg (y_move rfl) (fun a w hh => (want_of rfl rfl rfl hh).trans (wFF (by first | rfl | exact decide_eq_false (by omega)))) ?_
          refine ow_yg (y_fld F.fld72_3 rfl) (fun a w hh => (want_of rfl rfl rfl hh).trans (wFF (by first | rfl | exact decide_eq_false (by omega)))) ?_
          refine ow_yg (y_load F.sc3 rfl (by rfl)) (fun a w hh => (want_of rfl rfl rfl hh).trans (wFF (by first | rfl | exact decide_eq_false (by omega)))) ?_
          refine ow_yg (y_move rfl) (fun a w hh => (want_of rfl rfl rfl hh).trans (wFF (by first | rfl | exact decide_eq_false (by omega)))) ?_
          refine ow_yg (y_subI rfl rfl (by omega)) (fun a w hh => (want_of rfl rfl rfl hh).trans (wFF (by first | rfl | exact decide_eq_false (by omega)))) ?_
          refine ow_yg (y_gtr rfl rfl) (fun a w hh => (want_of rfl rfl rfl hh).trans (wFF (by first | rfl | exact decide_eq_false (by omega)))) ?_
          refine ow_y (y_pickF rfl (by first | rfl | exact decide_eq_false (by omega)) rfl) ?_
          refine ow_nil ?_
          refine kw_code (fun _ _ h => h) ?_
          refine cw_true rfl (by first | rfl | exact decide_eq_true (by omega)) ?_
          refine cw_region ?_
          refine ow_fails rfl F.hb29 rfl (fail_spec 6) aSp ?_
          simp only [List.cons_append, List.nil_append]
          repeat (first | with_reducible refine kw_inBlock_panic ?_ | with_reducible refine kw_then_panic ?_)
          exact kw_errR rfl (fun _ _ h => h) aSp
        · rw [show within x at_ n s = (.ok (), s) by unfold within; rw [if_neg (by omega)]; rfl]
          refine does_enter Tryz.func30 rfl Tryz.ntmps30 rfl (fun R w0 => ?_)
          simp only [envOf, List.cons_append, List.nil_append, entA]
          refine cw_seq ?_
          refine cw_region ?_
          refine (ow_box rfl (fun b3 => ?_))
          refine ow_nil ?_
          refine kw_code (fun _ _ h => h) ?_
          refine cw_seq ?_
          refine cw_region ?_
          refine ow_y (y_move rfl) ?_
          refine ow_y (y_lss rfl rfl) ?_
          refine ow_y (y_move rfl) ?_
          refine ow_yg (y_move rfl) (fun a w hh => (want_of rfl rfl rfl hh).trans (wFF (by first | rfl | exact decide_eq_false (by omega)))) ?_
          refine ow_yg (y_lss rfl rfl) (fun a w hh => (want_of rfl rfl rfl hh).trans (wFF (by first | rfl | exact decide_eq_false (by omega)))) ?_
          refine ow_y (y_pickF rfl (by first | rfl | exact decide_eq_false (by omega)) rfl) ?_
          refine ow_y (y_move rfl) ?_
          refine ow_yg (y_move rfl) (fun a w hh => (want_of rfl rfl rfl hh).trans (wFF (by first | rfl | exact decide_eq_false (by omega)))) ?_
          refine ow_yg (y_fld F.fld72_3 rfl) (fun a w hh => (want_of rfl rfl rfl hh).trans (wFF (by first | rfl | exact decide_eq_false (by omega)))) ?_
          refine ow_yg (y_load F.sc3 rfl (by rfl)) (fun a w hh => (want_of rfl rfl rfl hh).trans (wFF (by first | rfl | exact decide_eq_false (by omega)))) ?_
          refine ow_yg (y_gtr rfl rfl) (fun a w hh => (want_of rfl rfl rfl hh).trans (wFF (by first | rfl | exact decide_eq_false (by omega)))) ?_
          refine ow_y (y_pickF rfl (by first | rfl | exact decide_eq_false (by omega)) rfl) ?_
          refine ow_y (y_move rfl) ?_
          refine ow_yg (y_move rfl) (fun a w hh => (want_of rfl rfl rfl hh).trans (wFF (by first | rfl | exact decide_eq_false (by omega)))) ?_
          refine ow_yg (y_fld F.fld72_3 rfl) (fun a w hh => (want_of rfl rfl rfl hh).trans (wFF (by first | rfl | exact decide_eq_false (by omega)))) ?_
          refine ow_yg (y_load F.sc3 rfl (by rfl)) (fun a w hh => (want_of rfl rfl rfl hh).trans (wFF (by first | rfl | exact decide_eq_false (by omega)))) ?_
          refine ow_yg (y_move rfl) (fun a w hh => (want_of rfl rfl rfl hh).trans (wFF (by first | rfl | exact decide_eq_false (by omega)))) ?_
          refine ow_yg (y_subI rfl rfl (by omega)) (fun a w hh => (want_of rfl rfl rfl hh).trans (wFF (by first | rfl | exact decide_eq_false (by omega)))) ?_
          refine ow_yg (y_gtr rfl rfl) (fun a w hh => (want_of rfl rfl rfl hh).trans (wFF (by first | rfl | exact decide_eq_false (by omega)))) ?_
          refine ow_y (y_pickF rfl (by first | rfl | exact decide_eq_false (by omega)) rfl) ?_
          refine ow_nil ?_
          refine kw_code (fun _ _ h => h) ?_
          refine cw_false rfl (by first | rfl | exact decide_eq_false (by omega)) ?_
          refine cw_skip ?_
          exact kw_finR rfl rfl rfl aSp
end Go.Proofs.YthlclfdnhnnebaaGreatDoor
end
