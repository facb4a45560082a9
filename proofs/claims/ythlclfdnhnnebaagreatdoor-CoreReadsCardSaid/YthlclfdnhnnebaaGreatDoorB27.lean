/- Part of the proof; no statement of its own: A23, A24, A25. -/
import Derived.Test.YthlclfdnhnnebaaGreatDoorB08
import Derived.Test.YthlclfdnhnnebaaGreatDoorB06
import Derived.Test.YthlclfdnhnnebaaGreatDoorB22
import Derived.Test.YthlclfdnhnnebaaGreatDoorB07
import Derived.Test.YthlclfdnhnnebaaGreatDoorB26
set_option linter.all false
section
set_option maxRecDepth 4000
set_option maxHeartbeats 4000000
namespace Go.Proofs.YthlclfdnhnnebaaGreatDoor
open Go.Sl Go.Sb
section
variable {α : Type} {f : α → M Unit} {x : α} {l : List α} {s t : St} {e : Int}
theorem each_ok (h : f x s = (.ok (), t)) : each f (x :: l) s = each f l t := by
  show andThen (f x) (fun _ => each f l) s = _
  rw [andThen_ok h]
theorem each_err (h : f x s = (.err e, t)) : each f (x :: l) s = (.err e, t) := by unfold each; rw [andThen_err h]
theorem each_big (h : (each f (x :: l) s).1 ≠ .big) : (f x s).1 ≠ .big := by unfold each at h; exact big1 h
end
abbrev LessSpec (W : World) (a : Ad) (l : Nat) : Prop := ∀ (s : St) (at_ : Int), s.bits ≤ 256 → (rless l at_ s).1 ≠ .big → Does Tryz.prog 194 #[ptr a.maps, .int .i64 at_, .int .i64 l] (RS W a s) (Ran fT (RS W a) unitV (rless l at_ s))
abbrev DropSpec (W : World) (a : Ad) (l : Nat) : Prop := ∀ (s : St) (at_ : Int), s.bits ≤ 256 → (rless (l + 1) at_ s).1 ≠ .big → Does Tryz.prog 159 #[ptr a.maps, .int .i64 at_, .int .i64 l] (RS W a s) (Ran fT (RS W a) unitV (rless (l + 1) at_ s))
theorem less0_spec (W : World) (a : Ad) : LessSpec W a 0 := by
  intro s at_ hbits hnb
  have hr : rless 0 at_ s = xless at_ s := rfl
  rw [hr] at hnb ⊢
  refine does_enter Tryz.func194 rfl Tryz.ntmps194 rfl (fun R w0 => ?_)
  simp only [envOf, List.cons_append, List.nil_append]
  refine cw_seq ?_
  refine cw_seq ?_
  refine cw_region ?_
  refine ow_y (y_move rfl) ?_
  refine ow_y (y_eql rfl rfl) ?_
  refine ow_nil ?_
  refine kw_code (fun _ _ h => h) ?_
  refine cw_true rfl rfl ?_
  refine cw_seq ?_
  refine cw_region ?_
  refine ow_y (y_move rfl) ?_
  refine ow_y (y_nil rfl) ?_
  refine ow_y (y_fld F.fld155_1 rfl) ?_
  refine ow_y (y_load F.sc134 rfl (by rfl)) ?_
  refine ow_y (y_move rfl) ?_
  refine ow_ran rfl F.hb170 rfl (xless_spec W a s at_ hbits hnb) aSp (fun u t ho => ?_) (fun e t ho => by (repeat (first | with_reducible refine kw_inBlock_panic ?_ | with_reducible refine kw_then_panic ?_)); exact kw_errR (ho) (fun _ _ h => h) aSp)
  try simp only [List.cons_append, List.nil_append]
  refine ow_nil ?_
  refine kw_code (fun _ _ h => h) ?_
  exact cw_retR ho (fun _ _ h => h) rfl rfl aSp
theorem less1_spec (W : World) (a : Ad) (l : Nat) (hl : l < 100) (hd : DropSpec W a l) : LessSpec W a (l + 1) := by
  intro s at_ hbits hnb
  refine does_enter Tryz.func194 rfl Tryz.ntmps194 rfl (fun R w0 => ?_)
  simp only [envOf, List.cons_append, List.nil_append]
  refine cw_seq ?_
  refine cw_seq ?_
  refine cw_region ?_
  refine ow_y (y_move rfl) ?_
  refine ow_y (y_eql rfl rfl) ?_
  refine ow_nil ?_
  refine kw_code (fun _ _ h => h) ?_
  refine cw_false rfl (by simp; omega) ?_
  refine cw_skip ?_
  refine kw_code (fun _ _ h => h) ?_
  refine cw_region ?_
  refine ow_y (y_move rfl) ?_
  refine ow_y (y_move rfl) ?_
  refine ow_y (y_move rfl) ?_
  refine ow_y (y_subI rfl rfl (by omega)) ?_
  rw [show ((l + 1 : Nat) : Int) - 1 = (l : Int) by omega]
  refine ow_ran rfl F.hb159 rfl (hd s at_ hbits hnb) aSp (fun u t ho => ?_) (fun e t ho => by (repeat (first | with_reducible refine kw_inBlock_panic ?_ | with_reducible refine kw_then_panic ?_)); exact kw_errR (ho) (fun _ _ h => h) aSp)
  try simp only [List.cons_append, List.nil_append]
  refine ow_nil ?_
  exact kw_finR ho rfl rfl aSp
set_option maxRecDepth 4000 in
theorem dropL_spec (W : World) (a : Ad) (l : Nat) (hd : LessSpec W a l) : DropSpec W a l := by
  intro s at_ hbits hnb
  by_cases h0 : at_ = 0
  · subst h0
    rw [show rless (l + 1) 0 s = (.ok (), s) by unfold rless; rw [if_pos rfl]; rfl]
    refine does_enter Tryz.func159 rfl Tryz.ntmps159 rfl (fun R w0 => ?_)
    simp only [envOf, List.cons_append, List.nil_append]
    refine cw_seq ?_
    refine cw_seq ?_
    refine cw_region ?_
    refine ow_y (y_move rfl) ?_
    refine ow_y (y_eql rfl rfl) ?_
    refine ow_nil ?_
    refine kw_code (fun _ _ h => h) ?_
    refine cw_true rfl rfl ?_
    exact cw_retR rfl (fun _ _ h => h) rfl rfl aSp
  · have e0 : rless (l + 1) at_ s = andThen (Go.Sb.load at_ l) (fun n => andThen (hless at_) fun b => if b then each (rless l) n.kids else ret ()) s := by
      conv => lhs; unfold rless
      rw [if_neg h0]
    refine does_enter Tryz.func159 rfl Tryz.ntmps159 rfl (fun R w0 => ?_)
    simp only [envOf, List.cons_append, List.nil_append]
    refine cw_seq ?_
    refine cw_seq ?_
    refine cw_region ?_
    refine ow_y (y_move rfl) ?_
    refine ow_y (y_eql rfl rfl) ?_
    refine ow_nil ?_
    refine kw_code (fun _ _ h => h) ?_
    refine cw_false rfl (by simpa using h0) ?_
    refine cw_skip ?_
    refine kw_code (fun _ _ h => h) ?_
    refine cw_seq ?_
    refine cw_region ?_
    refine ow_y (y_move rfl) ?_
    refine ow_y (y_move rfl) ?_
    refine ow_y (y_move rfl) ?_
    refine ow_ran rfl F.hb139 rfl (load_spec W a s at_ l) aSp (fun x t ho => ?_) (fun e t ho => by (repeat (first | with_reducible refine kw_inBlock_panic ?_ | with_reducible refine kw_then_panic ?_)); exact kw_errR ((by rw [e0]; exact andThen_err ho)) (fun _ _ h => h) aSp)
    try simp only [List.cons_append, List.nil_append]
    obtain ⟨hts, hln⟩ := load_len ho
    rw [hts] at ho ⊢
    rw [andThen_ok ho] at e0
    have hsz : (ndL l x).toArray.size = 41 := by rw [List.size_toArray, ndL_len hln]
    have c1 : (x.kids.map intV).length = 8 := by simp [hln.n]
    have hnb1 : (hless at_ s).1 ≠ .big := by rw [e0] at hnb; exact big1 hnb
    refine (ow_alloc F.z220 (fun b6 => ?_))
    refine ow_storeAgg F.sz220 rfl rfl hsz (ndL_one _ _) (by rw [hsz]; exact Nat.le_refl 41) (splice_all (by rw [hsz]; rfl)) ?_
    refine ow_nil ?_
    refine kw_code (fun _ _ h => h) ?_
    refine cw_seq ?_
    refine cw_seq ?_
    refine cw_region ?_
    refine ow_y (y_move rfl) ?_
    refine ow_y (y_nil rfl) ?_
    refine ow_y (y_fld F.fld155_0 rfl) ?_
    refine ow_y (y_load F.sc62 rfl (by rfl)) ?_
    refine ow_y (y_move rfl) ?_
    refine ow_ran rfl F.hb193 rfl (hless_spec W a s at_ hnb1) aSp (fun b t ho => ?_) (fun e t ho => by (repeat (first | with_reducible refine kw_inBlock_panic ?_ | with_reducible refine kw_then_panic ?_)); exact kw_errR ((by rw [e0]; exact andThen_err ho)) (fun _ _ h => h) aSp)
    try simp only [List.cons_append, List.nil_append]
    have ho20 := ho
    rw [andThen_ok ho20] at e0
    refine ow_y (y_not rfl) ?_
    refine ow_nil ?_
    refine kw_code (fun _ _ h => h) ?_
    refine cw_if rfl (fun hb21 => ?_) (fun hb21 => ?_)
    · skip
      have hbf : b = false := by simpa using hb21
      exact cw_retR (by rw [e0, hbf]; rfl) (fun _ _ h => h) rfl rfl aSp
    · skip
      have hbt : b = true := by simpa using hb21
      have he0 : rless (l + 1) at_ s = each (rless l) (x.kids.drop 0) t := by rw [e0, hbt]; rfl
      refine cw_skip ?_
      refine kw_code (fun _ _ h => h) ?_
      refine cw_seq ?_
      refine cw_region ?_
      refine ow_y (y_fld F.fld220_1 rfl) ?_
      refine ow_y (y_loadAgg F.ag218 rfl (by show 0 + 1 + 8 ≤ (ndL l x).toArray.size; rw [hsz]; omega) (extract_app (a := [intV l]) rfl c1)) ?_
      refine ow_y (y_move rfl) ?_
      refine ow_nil ?_
      refine kw_code (fun _ _ h => h) ?_
      refine cw_block ?_
      refine cw_loop (X := {y : Nat × St // y.1 ≤ 8 ∧ y.2.bits = s.bits ∧ rless (l + 1) at_ s = each (rless l) (x.kids.drop y.1) y.2}) (fun y => [(0, ptr a.maps), (2, .int .i64 l), (23, .agg (x.kids.map intV).toArray), (24, .int .i64 y.1.1)]) (fun y => RS W a y.1.2 ++ [R]) (fun y => 8 - y.1.1) ⟨(0, t), by omega, by have := pb_hless at_ s; rw [ho20] at this; exact this, he0⟩ (by repeat (first | exact Sub.nil | refine Sub.cons rfl ?_)) aSp ?_
      rintro ⟨⟨i, u⟩, hi, hub, he⟩ m0 hm0
      try simp only at hm0
      try dsimp only
      simp only at hi hub he
      simp only [List.cons_append, List.nil_append]
      refine cw_seq ?_
      refine cw_region ?_
      refine ow_y (y_lss rfl rfl) ?_
      refine ow_nil ?_
      refine kw_code (fun _ _ h => h) ?_
      refine cw_seq ?_
      refine cw_if rfl (fun hb25 => ?_) (fun hb25 => ?_)
      · skip
        have hi8 : i < 8 := by have := of_decide_eq_true hb25; omega
        have hil : i < x.kids.length := by rw [hln.n]; exact hi8
        rw [List.drop_eq_getElem_cons hil] at he
        refine cw_skip ?_
        refine kw_code (fun _ _ h => h) ?_
        refine cw_seq ?_
        refine cw_block ?_
        refine cw_seq ?_
        refine cw_region ?_
        refine ow_y (y_ixv F.ar218 F.sc3 rfl rfl (by omega) (nth_map intV x.kids i _ hil (by omega))) ?_
        refine ow_y (y_assign rfl) ?_
        refine ow_nil ?_
        refine kw_code (fun _ _ h => h) ?_
        refine cw_region ?_
        refine ow_y (y_move rfl) ?_
        refine ow_y (y_move rfl) ?_
        refine ow_y (y_move rfl) ?_
        refine ow_ran rfl F.hb194 rfl (hd u x.kids[i] (by omega) (by rw [he] at hnb; exact each_big hnb)) aSp (fun b' t' ho => ?_) (fun e t ho => by (repeat (first | with_reducible refine kw_inBlock_panic ?_ | with_reducible refine kw_then_panic ?_)); exact kw_errR ((by rw [he]; exact each_err ho)) (fun _ _ h => h) aSp)
        try simp only [List.cons_append, List.nil_append]
        refine ow_nil ?_
        refine kw_code (fun _ _ h => h) ?_
        refine cw_region ?_
        refine ow_y (y_addI rfl rfl (by omega)) ?_
        refine ow_y (y_move rfl) ?_
        refine ow_nil ?_
        refine kw_rnd (fun _ _ h => h) (⟨(i + 1, t'), hi8, (by have := pb_rless l x.kids[i] u; rw [ho] at this; exact this.trans hub), he.trans (each_ok ho)⟩) (by first | omega | (simp only; omega)) (by repeat (first | exact Sub.nil | refine Sub.cons rfl ?_)) aSp
      · skip
        obtain rfl : i = 8 := by have := of_decide_eq_false hb25; omega
        rw [List.drop_eq_nil_of_le (by rw [hln.n]; exact Nat.le_refl _)] at he
        refine cw_exit ?_
        exact kw_finR he rfl rfl aSp
theorem drop_spec (W : World) (a : Ad) : ∀ l, l < 100 → DropSpec W a l
  | 0, _ => dropL_spec W a 0 (less0_spec W a)
  | l + 1, h => dropL_spec W a (l + 1) (less1_spec W a l (by omega) (drop_spec W a l (by omega)))
end Go.Proofs.YthlclfdnhnnebaaGreatDoor
end
section
set_option maxRecDepth 4000
set_option maxHeartbeats 4000000
namespace Go.Proofs.YthlclfdnhnnebaaGreatDoor
open Go.Sl Go.Sb
theorem nd_sumC {l : Int} {x : Nd} (h : NdLen x) : (ndL l x).toArray.extract 9 (9 + 32) = (x.sum.map byteV).toArray := by
  rw [show ndL l x = ([intV l] ++ x.kids.map intV) ++ (x.sum.map byteV ++ []) by simp [ndL]]
  exact extract_app (by rw [List.length_append, List.length_map, h.n]; rfl) (by rw [List.length_map, h.sum])
theorem xsum_len {at_ : Int} {s t : St} {v : B} (h : xsum at_ s = (.ok v, t)) : t = s ∧ v.length = 32 := by
  unfold xsum at h
  split at h
  · cases h; exact ⟨rfl, by simp [zeros]⟩
  · cases hg : xhead at_ s with
    | mk o u =>
      cases o with
      | ok x => rw [andThen_ok hg] at h; cases h; exact ⟨(xhead_len hg).1, (xhead_len hg).2.sum⟩
      | err e => rw [andThen_err hg] at h; cases h
      | big => unfold andThen at h; rw [hg] at h; cases h
def rsum1 (l : Nat) (k : Int) : M B := match l with | 0 => xsum k | n + 1 => andThen (Go.Sb.load k n) fun x => ret x.sum
theorem rsum1_len {l : Nat} {k : Int} {s t : St} {v : B} (h : rsum1 l k s = (.ok v, t)) : t = s ∧ v.length = 32 := by
  unfold rsum1 at h
  cases l with
  | zero => exact xsum_len h
  | succ n =>
    simp only at h
    cases hg : Go.Sb.load k n s with
    | mk o u =>
      cases o with
      | ok x => rw [andThen_ok hg] at h; cases h; exact ⟨(load_len hg).1, (load_len hg).2.sum⟩
      | err e => rw [andThen_err hg] at h; cases h
      | big => unfold andThen at h; rw [hg] at h; cases h
theorem rsums_cons (l : Nat) (k : Int) (r : List Int) : rsums l (k :: r) = andThen (rsum1 l k) fun s => andThen (rsums l r) fun r => ret (s :: r) := rfl
def sumR (l : Nat) (r : List Int) (acc : List B) (s : St) : Out (List B) × St := andThen (rsums l r) (fun r => ret (acc ++ r)) s
section
variable {l : Nat} {k : Int} {r : List Int} {acc : List B} {s t : St} {v : B} {e : Int}
theorem sumR_ok (h : rsum1 l k s = (.ok v, t)) : sumR l (k :: r) acc s = sumR l r (acc ++ [v]) t := by
  unfold sumR
  rw [rsums_cons]
  unfold andThen
  rw [h]
  simp only
  cases rsums l r t with
  | mk o u => cases o <;> simp [ret]
theorem sumR_err (h : rsum1 l k s = (.err e, t)) : sumR l (k :: r) acc s = (.err e, t) := by
  unfold sumR
  rw [rsums_cons]
  unfold andThen
  rw [h]
end
def pad8 (acc : List B) : List B := acc ++ List.replicate (8 - acc.length) (zeros 32)
theorem pad8_len {acc : List B} (h : acc.length ≤ 8) : (pad8 acc).length = 8 := by unfold pad8; simp; omega
theorem pad8_32 {acc : List B} (h : ∀ x ∈ acc, x.length = 32) : ∀ x ∈ pad8 acc, x.length = 32 := by
  intro x hx
  unfold pad8 at hx
  rcases List.mem_append.1 hx with hx | hx
  · exact h x hx
  · rw [List.eq_of_mem_replicate hx]; simp [zeros]
theorem pad8_set {acc : List B} {v : B} (h : acc.length < 8) : (pad8 acc).set acc.length v = pad8 (acc ++ [v]) := by
  unfold pad8
  obtain ⟨m, hm⟩ : ∃ m, 8 - acc.length = m + 1 := ⟨8 - acc.length - 1, by omega⟩
  rw [List.set_append_right _ _ (Nat.le_refl _), Nat.sub_self, hm, List.replicate_succ, List.set_cons_zero, List.length_append, List.append_assoc]
  simp only [List.length_cons, List.length_nil, List.singleton_append]
  rw [show 8 - (acc.length + (0 + 1)) = m by omega]
theorem flat_set {v : B} (hv : v.length = 32) : ∀ {X : List B} {i : Nat}, (∀ x ∈ X, x.length = 32) → i < X.length →
    (X.flatMap (·.map byteV)).take (i * 32) ++ (v.map byteV ++ (X.flatMap (·.map byteV)).drop (i * 32 + 32)) = (X.set i v).flatMap (·.map byteV)
  | [], i, _, h => by simp at h
  | x :: X, 0, hx, _ => by
    have h0 := hx x (List.mem_cons_self ..)
    rw [List.set_cons_zero, List.flatMap_cons, List.flatMap_cons, Nat.zero_mul, List.take_zero, List.nil_append, Nat.zero_add, List.drop_left' (by rw [List.length_map, h0])]
  | x :: X, i + 1, hx, h => by
    have h0 : (x.map byteV).length = 32 := by rw [List.length_map]; exact hx x (List.mem_cons_self ..)
    rw [List.set_cons_succ, List.flatMap_cons, List.flatMap_cons, ← flat_set hv (X := X) (i := i) (fun y hy => hx y (List.mem_cons_of_mem _ hy)) (by simpa using h)]
    rw [show (i + 1) * 32 = (x.map byteV).length + i * 32 by omega, List.take_length_add_append (i * 32), Nat.add_assoc, List.drop_length_add_append]
    rw [List.append_assoc]
theorem sums_splice {acc : List B} {v : B} {o : Nat} (hv : v.length = 32) (h32 : ∀ x ∈ acc, x.length = 32) (h : acc.length < 8) (ho : o = acc.length * 32) :
    splice ((pad8 acc).flatMap (·.map byteV)).toArray o (v.map byteV).toArray = ((pad8 (acc ++ [v])).flatMap (·.map byteV)).toArray := by
  subst ho
  have hl := sums_len (pad8_32 h32)
  rw [pad8_len (by omega)] at hl
  rw [← pad8_set h, ← flat_set hv (pad8_32 h32) (by rw [pad8_len (by omega)]; exact h)]
  unfold splice
  apply Array.ext'
  simp only [Array.toList_append, Array.toList_extract, List.extract_eq_take_drop, List.drop_zero, Nat.sub_zero, List.size_toArray, List.length_map, hv, List.append_assoc]
  rw [List.take_of_length_le (l := List.drop (acc.length * 32 + 32) _) (by rw [List.length_drop]; exact Nat.le_refl _)]
set_option maxRecDepth 8000 in
theorem rsums_spec (W : World) (a : Ad) (s : St) (l : Nat) (hl : l < 100) (n : Nd) (hn : NdLen n) : Does Tryz.prog 201 #[ptr a.maps, ndV l n] (RS W a s) (Ran fT (RS W a) sumsV (rsums l n.kids s)) := by
  have e0 : rsums l n.kids s = sumR l (n.kids.drop 0) [] s := by
    unfold sumR andThen
    simp only [List.drop_zero]
    cases rsums l n.kids s with
    | mk o u => cases o <;> rfl
  have hsz : (ndL l n).toArray.size = 41 := by rw [List.size_toArray, ndL_len hn]
  have c1 : (n.kids.map intV).length = 8 := by simp [hn.n]
  unfold ndV
  refine does_enter Tryz.func201 rfl Tryz.ntmps201 rfl (fun R w0 => ?_)
  simp only [envOf, List.cons_append, List.nil_append]
  refine cw_seq ?_
  refine cw_region ?_
  refine (ow_box rfl (fun b3 => ?_))
  refine (ow_alloc F.z273 (fun b4 => ?_))
  refine ow_nil ?_
  refine kw_code (fun _ _ h => h) ?_
  refine cw_seq ?_
  refine cw_region ?_
  refine (ow_alloc F.z273 (fun b5 => ?_))
  refine ow_nil ?_
  refine kw_code (fun _ _ h => h) ?_
  refine cw_seq ?_
  refine cw_seq ?_
  refine cw_region ?_
  refine ow_y (y_fld F.fld220_1 rfl) ?_
  refine ow_y (y_loadAgg F.ag218 rfl (by show 0 + 1 + 8 ≤ (ndL l n).toArray.size; rw [hsz]; omega) (extract_app (a := [intV l]) rfl c1)) ?_
  refine ow_y (y_move rfl) ?_
  refine ow_nil ?_
  refine kw_code (fun _ _ h => h) ?_
  refine cw_block ?_
  refine cw_loop (X := {y : Nat × List B // y.1 ≤ 8 ∧ y.2.length = y.1 ∧ (∀ x ∈ y.2, x.length = 32) ∧ rsums l n.kids s = sumR l (n.kids.drop y.1) y.2 s}) (fun y => [(0, ptr a.maps), (3, ptr b3), (4, ptr b4), (5, ptr b5), (9, .agg (n.kids.map intV).toArray), (10, .int .i64 y.1.1)]) (fun y => RS W a s ++ [pts b3 (.cells (ndL l n).toArray 220 (0, 0)), pts b5 (.cells ((pad8 y.1.2).flatMap (·.map byteV)).toArray 273 (0, 0)), pts b4 (.cells (List.replicate 256 (Value.int .u8 0)).toArray 273 (0, 0)), R]) (fun y => 8 - y.1.1) ⟨(0, []), by omega, rfl, by simp, e0⟩ (by repeat (first | exact Sub.nil | refine Sub.cons rfl ?_)) aSp ?_
  rintro ⟨⟨i, acc⟩, hi, hal, ha32, he⟩ m0 hm0
  try simp only at hm0
  try dsimp only
  simp only at hi hal ha32 he
  simp only [List.cons_append, List.nil_append]
  have hps : ((pad8 acc).flatMap (·.map byteV)).toArray.size = 256 := by rw [List.size_toArray, sums_len (pad8_32 ha32), pad8_len (by omega)]
  refine cw_seq ?_
  refine cw_region ?_
  refine ow_y (y_lss rfl rfl) ?_
  refine ow_nil ?_
  refine kw_code (fun _ _ h => h) ?_
  refine cw_seq ?_
  refine cw_if rfl (fun hb11 => ?_) (fun hb11 => ?_)
  · skip
    have hi8 : i < 8 := by have := of_decide_eq_true hb11; omega
    have hil : i < n.kids.length := by rw [hn.n]; exact hi8
    rw [List.drop_eq_getElem_cons hil] at he
    refine cw_skip ?_
    refine kw_code (fun _ _ h => h) ?_
    refine cw_seq ?_
    refine cw_block ?_
    refine cw_seq ?_
    refine cw_region ?_
    refine ow_y (y_move rfl) ?_
    refine ow_y (y_ixv F.ar218 F.sc3 rfl rfl (by omega) (nth_map intV n.kids i _ hil (by omega))) ?_
    refine ow_y (y_assign rfl) ?_
    refine ow_y (y_assign rfl) ?_
    refine ow_nil ?_
    refine kw_code (fun _ _ h => h) ?_
    refine cw_seq ?_
    refine cw_region ?_
    refine ow_y (y_fld F.fld220_0 rfl) ?_
    refine ow_y (y_load F.sc3 rfl (by rfl)) ?_
    refine ow_y (y_eql rfl rfl) ?_
    refine ow_nil ?_
    refine kw_code (fun _ _ h => h) ?_
    refine cw_if rfl (fun hb16 => ?_) (fun hb16 => ?_)
    · skip
      obtain rfl : l = 0 := by have h := hb16; simp only [beq_iff_eq] at h; omega
      refine cw_region ?_
      refine ow_y (y_move rfl) ?_
      refine ow_y (y_move rfl) ?_
      refine ow_y (y_nil rfl) ?_
      refine ow_y (y_fld F.fld155_1 rfl) ?_
      refine ow_y (y_load F.sc134 rfl (by rfl)) ?_
      refine ow_y (y_move rfl) ?_
      refine ow_ran rfl F.hb250 rfl (xsum_spec W a s n.kids[i]) aSp (fun v t ho => ?_) (fun e t ho => by (repeat (first | with_reducible refine kw_inBlock_panic ?_ | with_reducible refine kw_then_panic ?_)); exact kw_errR ((by rw [he]; exact sumR_err ho)) (fun _ _ h => h) aSp)
      try simp only [List.cons_append, List.nil_append]
      obtain ⟨hts, hvl⟩ := xsum_len ho
      rw [hts] at ho ⊢
      have hvs : (v.map byteV).toArray.size = 32 := by rw [List.size_toArray, List.length_map, hvl]
      refine ow_y (y_ixa F.ar273 rfl rfl (by omega)) ?_
      refine ow_storeAgg F.sz175 rfl rfl hvs (fun x hx => by simp at hx; obtain ⟨_, _, rfl⟩ := hx; rfl) (by rw [hvs, hps]; omega) (sums_splice hvl ha32 (by omega) (by omega)) ?_
      refine ow_nil ?_
      refine kw_code (fun _ _ h => h) ?_
      refine cw_region ?_
      refine ow_y (y_addI rfl rfl (by omega)) ?_
      refine ow_y (y_move rfl) ?_
      refine ow_nil ?_
      refine kw_rnd (fun _ _ h => h) (⟨(i + 1, acc ++ [v]), hi8, by simp [hal], by intro x hx; rcases List.mem_append.1 hx with hx | hx; (· exact ha32 x hx); (· rw [List.mem_singleton.1 hx]; exact hvl), he.trans (sumR_ok ho)⟩) (by first | omega | (simp only; omega)) (by repeat (first | exact Sub.nil | refine Sub.cons rfl ?_)) aSp
    · skip
      obtain ⟨m, rfl⟩ : ∃ m, l = m + 1 := ⟨l - 1, by have h := hb16; simp only [beq_eq_false_iff_ne] at h; omega⟩
      refine cw_region ?_
      refine ow_y (y_move rfl) ?_
      refine ow_y (y_move rfl) ?_
      refine ow_y (y_move rfl) ?_
      refine ow_y (y_fld F.fld220_0 rfl) ?_
      refine ow_y (y_load F.sc3 rfl (by rfl)) ?_
      refine ow_y (y_subI rfl rfl (by omega)) ?_
      rw [show ((m + 1 : Nat) : Int) - 1 = (m : Int) by omega]
      refine ow_ran rfl F.hb139 rfl (load_spec W a s n.kids[i] m) aSp (fun x t ho => ?_) (fun e t ho => by (repeat (first | with_reducible refine kw_inBlock_panic ?_ | with_reducible refine kw_then_panic ?_)); exact kw_errR ((by rw [he]; exact sumR_err (show andThen (Go.Sb.load n.kids[i] m) (fun x => ret x.sum) s = _ from andThen_err ho))) (fun _ _ h => h) aSp)
      try simp only [List.cons_append, List.nil_append]
      obtain ⟨hts, hln⟩ := load_len ho
      rw [hts] at ho ⊢
      have hvs : (x.sum.map byteV).toArray.size = 32 := by rw [List.size_toArray, List.length_map, hln.sum]
      have hr1 : rsum1 (m + 1) n.kids[i] s = (.ok x.sum, s) := (andThen_ok ho : andThen (Go.Sb.load n.kids[i] m) (fun x => ret x.sum) s = _)
      refine ow_y (y_fieldAgg (v := (x.sum.map byteV).toArray) F.fa220_2 rfl (nd_sumC hln)) ?_
      refine ow_y (y_ixa F.ar273 rfl rfl (by omega)) ?_
      refine ow_storeAgg F.sz175 rfl rfl hvs (fun x hx => by simp at hx; obtain ⟨_, _, rfl⟩ := hx; rfl) (by rw [hvs, hps]; omega) (sums_splice hln.sum ha32 (by omega) (by omega)) ?_
      refine ow_nil ?_
      refine kw_code (fun _ _ h => h) ?_
      refine cw_region ?_
      refine ow_y (y_addI rfl rfl (by omega)) ?_
      refine ow_y (y_move rfl) ?_
      refine ow_nil ?_
      refine kw_rnd (fun _ _ h => h) (⟨(i + 1, acc ++ [x.sum]), hi8, by simp [hal], by intro y hy; rcases List.mem_append.1 hy with hy | hy; (· exact ha32 y hy); (· rw [List.mem_singleton.1 hy]; exact hln.sum), he.trans (sumR_ok hr1)⟩) (by first | omega | (simp only; omega)) (by repeat (first | exact Sub.nil | refine Sub.cons rfl ?_)) aSp
  · skip
    obtain rfl : i = 8 := by have := of_decide_eq_false hb11; omega
    have hpa : pad8 acc = acc := by unfold pad8; rw [hal]; simp
    have he1 : rsums l n.kids s = (.ok acc, s) := by rw [he, List.drop_eq_nil_of_le (by rw [hn.n]; exact Nat.le_refl _)]; unfold sumR rsums andThen; simp [ret]
    rw [hpa] at hps ⊢
    refine cw_exit ?_
    refine kw_code (fun _ _ h => h) ?_
    refine cw_seq ?_
    refine cw_region ?_
    refine ow_y (y_loadAgg F.ag273 rfl (by show 0 + 256 ≤ _; rw [hps]; omega) (extract_all hps)) ?_
    refine ow_storeAgg F.sz273 rfl rfl hps (fun x hx => by simp at hx; obtain ⟨_, _, _, _, rfl⟩ := hx; rfl) (by rw [hps]; simp) (splice_all (by rw [hps]; simp)) ?_
    refine ow_nil ?_
    refine kw_code (fun _ _ h => h) ?_
    exact cw_retRC he1 (fun _ _ h => h) (RV.agg F.ag273 rfl (by show 0 + 256 ≤ _; rw [hps]; omega) (extract_all hps) RV.nil) rfl aSp
end Go.Proofs.YthlclfdnhnnebaaGreatDoor
end
section
set_option maxRecDepth 4000
set_option maxHeartbeats 4000000
namespace Go.Proofs.YthlclfdnhnnebaaGreatDoor
open Go.Sl Go.Sb
def setEnd (l : Nat) (kids : List Int) : M Int := if kids = none8 then ret 0 else andThen (rsums l kids) fun ss => hput (ndBytes l { kids := kids, sum := digest l ss })
def setSub (l : Nat) (n : Nd) (at_ : Nat) (to_ : Int) : M Int := match l with
  | 0 => andThen (xless (n.kids.getD (slot 0 at_).1 0)) fun _ => ret to_
  | m + 1 => rset m (n.kids.getD (slot (m + 1) at_).1 0) (slot (m + 1) at_).2 to_
def setTail (l : Nat) (n : Nd) (root : Int) (at_ : Nat) (to_ : Int) : M Int := andThen (rdrop root l) fun _ => andThen (setSub l n at_ to_) fun r => setEnd l (n.kids.set (slot l at_).1 r)
theorem rset_eq (l : Nat) (root : Int) (at_ : Nat) (to_ : Int) : rset l root at_ to_ = andThen (Go.Sb.load root l) fun n => andThen (each (rmore · l) n.kids) fun _ => setTail l n root at_ to_ := by cases l <;> rfl
theorem rsums_lens (l : Nat) : ∀ {r : List Int} {s t : St} {ss : List B}, rsums l r s = (.ok ss, t) → t = s ∧ ss.length = r.length ∧ ∀ x ∈ ss, x.length = 32
  | [], s, t, ss, h => by cases h; exact ⟨rfl, rfl, by simp⟩
  | k :: r, s, t, ss, h => by
    rw [rsums_cons] at h
    cases hg : rsum1 l k s with
    | mk o u =>
      cases o with
      | ok v =>
        rw [andThen_ok hg] at h
        cases hg2 : rsums l r u with
        | mk o2 u2 =>
          cases o2 with
          | ok vs =>
            rw [andThen_ok hg2] at h
            cases h
            obtain ⟨h1, h2, h3⟩ := rsums_lens l hg2
            refine ⟨h1.trans (rsum1_len hg).1, by simp [h2], fun x hx => ?_⟩
            rcases List.mem_cons.1 hx with hx | hx
            · rw [hx]; exact (rsum1_len hg).2
            · exact h3 x hx
          | err e => rw [andThen_err hg2] at h; cases h
          | big => unfold andThen at h; rw [hg2] at h; cases h
      | err e => rw [andThen_err hg] at h; cases h
      | big => unfold andThen at h; rw [hg] at h; cases h
theorem ndB_len {l : Nat} {x : Nd} (h : NdLen x) : (ndBytes l x).length = 64 := by
  unfold ndBytes
  refine sealB_length ?_
  rw [List.length_append, List.length_append, List.length_append, flat_len (k := 2) (fun a => num_length a 2), num_length, h.n, h.sum]
  decide
theorem nd_kid {l : Int} {x : Nd} (h : NdLen x) {i k : Nat} (hi : i < 8) (hk : k = 1 + i) : nth (ndL l x) k = some (intV (x.kids.getD i 0)) := by
  subst hk
  have hil : i < x.kids.length := by rw [h.n]; exact hi
  rw [getD_int hil]
  unfold ndL
  rw [nth_eq, List.getElem?_append_right (by simp), List.length_singleton, Nat.add_sub_cancel_left, List.getElem?_append_left (by simpa using hil), List.getElem?_map, List.getElem?_eq_getElem hil]; rfl
theorem nd_set {l : Int} {x : Nd} (h : NdLen x) {i k : Nat} {r : Int} (hi : i < 8) (hk : k = 1 + i) : (ndL l x).set k (.int .i64 r) = ndL l { x with kids := x.kids.set i r } := by
  subst hk
  unfold ndL
  rw [List.set_append_right _ _ (by simp), List.length_singleton, Nat.add_sub_cancel_left, List.set_append_left _ _ (by simp [h.n]; exact hi), List.map_set]; rfl
theorem nd_setSum {l : Int} {x : Nd} (h : NdLen x) {v : B} (hv : v.length = 32) : splice (ndL l x).toArray 9 (v.map byteV).toArray = (ndL l { x with sum := v }).toArray := by
  unfold splice
  apply Array.ext'
  have hl := ndL_len (l := l) h
  simp only [Array.toList_append, Array.toList_extract, List.extract_eq_take_drop, List.drop_zero, Nat.sub_zero, List.size_toArray, List.length_map, hv, hl]
  rw [List.drop_eq_nil_of_le (by omega), List.take_nil, List.append_nil]
  unfold ndL
  rw [← List.append_assoc, List.take_left' (by simp [h.n]), ← List.append_assoc]
abbrev SetSpec (W : World) (a : Ad) (l : Nat) : Prop := ∀ (s : St) (root : Int) (at_ : Nat) (to_ : Int), s.bits ≤ 256 → at_ < 1000000 → (rset l root at_ to_ s).1 ≠ .big →
  Does Tryz.prog 171 #[ptr a.maps, .int .i64 root, .int .i64 l, .int .i64 at_, .int .i64 to_] (RS W a s) (Ran fT (RS W a) intV (rset l root at_ to_ s))
set_option maxRecDepth 8000 in
theorem setL_spec (W : World) (hW : ShaW W) (a : Ad) (l : Nat) (hl : l < 3) (hrec : ∀ m, l = m + 1 → SetSpec W a m) : SetSpec W a l := by
  intro s root at_ to_ hbits hat hnb
  have e0 : rset l root at_ to_ s = _ := congrFun (rset_eq l root at_ to_) s
  have hs1 : (slot l at_).1 < 8 := Nat.mod_lt _ (by decide)
  have hs2 : (slot l at_).2 ≤ at_ := Nat.mod_le _ _
  refine does_enter Tryz.func171 rfl Tryz.ntmps171 rfl (fun R w0 => ?_)
  simp only [envOf, List.cons_append, List.nil_append]
  refine cw_seq ?_
  refine cw_region ?_
  refine ow_y (y_assign rfl) ?_
  refine ow_nil ?_
  refine kw_code (fun _ _ h => h) ?_
  refine cw_seq ?_
  refine cw_region ?_
  refine ow_y (y_move rfl) ?_
  refine ow_y (y_move rfl) ?_
  refine ow_y (y_move rfl) ?_
  refine ow_ran rfl F.hb139 rfl (load_spec W a s root l) aSp (fun x t ho => ?_) (fun e t ho => by (repeat (first | with_reducible refine kw_inBlock_panic ?_ | with_reducible refine kw_then_panic ?_)); exact kw_errR ((by rw [e0]; exact andThen_err ho)) (fun _ _ h => h) aSp)
  try simp only [List.cons_append, List.nil_append]
  obtain ⟨hts, hln⟩ := load_len ho
  rw [hts] at ho ⊢
  rw [andThen_ok ho] at e0
  have hsz : (ndL l x).toArray.size = 41 := by rw [List.size_toArray, ndL_len hln]
  have c1 : (x.kids.map intV).length = 8 := by simp [hln.n]
  refine (ow_alloc F.z220 (fun b11 => ?_))
  refine ow_storeAgg F.sz220 rfl rfl hsz (ndL_one _ _) (by rw [hsz]; exact Nat.le_refl 41) (splice_all (by rw [hsz]; rfl)) ?_
  refine ow_nil ?_
  refine kw_code (fun _ _ h => h) ?_
  refine cw_seq ?_
  refine cw_seq ?_
  refine cw_region ?_
  refine ow_y (y_fld F.fld220_1 rfl) ?_
  refine ow_y (y_loadAgg F.ag218 rfl (by show 0 + 1 + 8 ≤ (ndL l x).toArray.size; rw [hsz]; omega) (extract_app (a := [intV l]) rfl c1)) ?_
  refine ow_y (y_move rfl) ?_
  refine ow_nil ?_
  refine kw_code (fun _ _ h => h) ?_
  refine cw_block ?_
  refine cw_loop (X := {y : Nat × St // y.1 ≤ 8 ∧ y.2.bits = s.bits ∧ rset l root at_ to_ s = andThen (each (rmore · l) (x.kids.drop y.1)) (fun _ => setTail l x root at_ to_) y.2}) (fun y => [(0, ptr a.maps), (1, .int .i64 root), (2, .int .i64 l), (3, .int .i64 at_), (4, .int .i64 to_), (11, ptr b11), (21, .agg (x.kids.map intV).toArray), (22, .int .i64 y.1.1)]) (fun y => RS W a y.1.2 ++ [pts b11 (.cells (ndL l x).toArray 220 (0, 0)), R]) (fun y => 8 - y.1.1) ⟨(0, s), by omega, rfl, e0⟩ (by repeat (first | exact Sub.nil | refine Sub.cons rfl ?_)) aSp ?_
  rintro ⟨⟨i, u⟩, hi, hub, he⟩ m0 hm0
  try simp only at hm0
  try dsimp only
  simp only at hi hub he
  simp only [List.cons_append, List.nil_append]
  refine cw_seq ?_
  refine cw_region ?_
  refine ow_y (y_lss rfl rfl) ?_
  refine ow_nil ?_
  refine kw_code (fun _ _ h => h) ?_
  refine cw_seq ?_
  refine cw_if rfl (fun hb23 => ?_) (fun hb23 => ?_)
  · skip
    have hi8 : i < 8 := by have := of_decide_eq_true hb23; omega
    have hil : i < x.kids.length := by rw [hln.n]; exact hi8
    rw [List.drop_eq_getElem_cons hil] at he
    refine cw_skip ?_
    refine kw_code (fun _ _ h => h) ?_
    refine cw_seq ?_
    refine cw_block ?_
    refine cw_seq ?_
    refine cw_region ?_
    refine ow_y (y_ixv F.ar218 F.sc3 rfl rfl (by omega) (nth_map intV x.kids i _ hil (by omega))) ?_
    refine ow_y (y_assign rfl) ?_
    refine ow_nil ?_
    refine kw_code (fun _ _ h => h) ?_
    refine cw_region ?_
    refine ow_y (y_move rfl) ?_
    refine ow_y (y_move rfl) ?_
    refine ow_y (y_move rfl) ?_
    refine ow_ran rfl F.hb167 rfl (rmore_spec W a u x.kids[i] l (by rw [he] at hnb; exact each_big (f := (rmore · l)) (big1 hnb))) aSp (fun b' t' ho => ?_) (fun e t ho => by (repeat (first | with_reducible refine kw_inBlock_panic ?_ | with_reducible refine kw_then_panic ?_)); exact kw_errR ((by rw [he]; exact andThen_err (each_err (f := (rmore · l)) ho))) (fun _ _ h => h) aSp)
    try simp only [List.cons_append, List.nil_append]
    refine ow_nil ?_
    refine kw_code (fun _ _ h => h) ?_
    refine cw_region ?_
    refine ow_y (y_addI rfl rfl (by omega)) ?_
    refine ow_y (y_move rfl) ?_
    refine ow_nil ?_
    refine kw_rnd (fun _ _ h => h) (⟨(i + 1, t'), hi8, (by have := pb_rmore x.kids[i] l u; rw [ho] at this; exact this.trans hub), by rw [he]; unfold andThen; rw [each_ok (f := (rmore · l)) ho]⟩) (by first | omega | (simp only; omega)) (by repeat (first | exact Sub.nil | refine Sub.cons rfl ?_)) aSp
  · skip
    obtain rfl : i = 8 := by have := of_decide_eq_false hb23; omega
    have he1 : rset l root at_ to_ s = setTail l x root at_ to_ u := by rw [he, List.drop_eq_nil_of_le (by rw [hln.n]; exact Nat.le_refl _)]; rfl
    clear he
    refine cw_exit ?_
    refine kw_code (fun _ _ h => h) ?_
    refine cw_seq ?_
    refine cw_region ?_
    refine ow_y (y_move rfl) ?_
    refine ow_y (y_move rfl) ?_
    refine ow_y (y_move rfl) ?_
    refine ow_ran rfl F.hb159 rfl (drop_spec W a l (by omega) u root (by omega) (by rw [he1] at hnb; exact big1 hnb)) aSp (fun b t0 ho => ?_) (fun e t ho => by (repeat (first | with_reducible refine kw_inBlock_panic ?_ | with_reducible refine kw_then_panic ?_)); exact kw_errR ((by rw [he1]; exact andThen_err ho)) (fun _ _ h => h) aSp)
    try simp only [List.cons_append, List.nil_append]
    refine ow_nil ?_
    refine kw_code (fun _ _ h => h) ?_
    refine cw_seq ?_
    have htb : t0.bits = s.bits := by have := pb_rless (l + 1) root u; rw [show rless (l + 1) root u = _ from ho] at this; exact this.trans hub
    have he2 : rset l root at_ to_ s = andThen (setSub l x at_ to_) (fun r => setEnd l (x.kids.set (slot l at_).1 r)) t0 := by rw [he1]; exact andThen_ok ho
    refine cw_region ?_
    refine ow_y (y_move rfl) ?_
    refine ow_y (y_move rfl) ?_
    refine ow_gives rfl F.hb138 rfl (slot_spec l at_ hl hat) aSp ?_
    try simp only [List.cons_append, List.nil_append]
    refine ow_y (y_move rfl) ?_
    refine ow_y (y_ext rfl rfl) ?_
    refine ow_y (y_ext rfl rfl) ?_
    refine ow_y (y_assign rfl) ?_
    refine ow_y (y_assign rfl) ?_
    refine ow_nil ?_
    refine kw_code (fun _ _ h => h) ?_
    refine cw_meetE (X := {y : Int × St // y.2.bits = s.bits ∧ rset l root at_ to_ s = setEnd l (x.kids.set (slot l at_).1 y.1) y.2}) (fun y => [(0, ptr a.maps), (2, .int .i64 l), (11, ptr b11)]) (fun y => RS W a y.1.2 ++ [pts b11 (.cells (ndL l { x with kids := x.kids.set (slot l at_).1 y.1.1 }).toArray 220 (0, 0)), R]) ?_ ?_
    · skip
      refine cw_seq ?_
      refine cw_region ?_
      refine ow_y (y_move rfl) ?_
      refine ow_y (y_eql rfl rfl) ?_
      refine ow_nil ?_
      refine kw_code (fun _ _ h => h) ?_
      refine cw_if rfl (fun hb41 => ?_) (fun hb41 => ?_)
      · skip
        obtain rfl : l = 0 := by have h := hb41; simp only [beq_iff_eq] at h; omega
        refine cw_seq ?_
        refine cw_tail 8 F.fol (by kernel_rfl) ?_
        simp only [List.take_succ_cons, List.take_zero, List.drop_succ_cons, List.drop_zero]
        refine os_y (y_move rfl) ?_
        refine os_y (y_nil rfl) ?_
        refine os_y (y_fld F.fld155_1 rfl) ?_
        refine os_y (y_load F.sc134 rfl (by rfl)) ?_
        refine os_y (y_move rfl) ?_
        refine os_y (y_fld F.fld220_1 rfl) ?_
        refine os_y (y_ixa F.ar218 rfl rfl (by omega)) ?_
        refine os_y (y_load F.sc3 rfl (nd_kid hln hs1 (by omega))) ?_
        refine os_nil ?_
        refine ow_ran rfl F.hb170 rfl (xless_spec W a t0 (x.kids.getD (slot 0 at_).1 0) (by omega) (by rw [he2] at hnb; exact big1 (big1 hnb))) aSp (fun b' t' ho => ?_) (fun e t ho => by (repeat (first | with_reducible refine kw_inBlock_panic ?_ | with_reducible refine kw_then_panic ?_)); exact kw_errR ((by rw [he2]; exact andThen_err (show andThen (xless (x.kids.getD (slot 0 at_).1 0)) (fun _ => ret to_) t0 = _ from andThen_err ho))) (fun _ _ h => h) aSp)
        try simp only [List.cons_append, List.nil_append]
        refine ow_nil ?_
        refine kw_code (fun _ _ h => h) ?_
        refine cw_region ?_
        refine ow_y (y_move rfl) ?_
        refine ow_y (y_move rfl) ?_
        refine ow_y (y_fld F.fld220_1 rfl) ?_
        refine ow_y (y_ixa F.ar218 rfl rfl (by omega)) ?_
        refine ow_store F.sz3 rfl rfl rfl (by rw [ndL_len hln, Nat.blt_eq]; omega) (nd_set hln hs1 (by omega)) ?_
        refine ow_nil ?_
        refine kw_meetE (fun _ _ h => h) (⟨(to_, t'), (by have := pb_xless (x.kids.getD (slot 0 at_).1 0) t0; rw [ho] at this; exact this.trans htb), by rw [he2]; exact andThen_ok (show andThen (xless (x.kids.getD (slot 0 at_).1 0)) (fun _ => ret to_) t0 = (.ok to_, t') by rw [andThen_ok ho]; rfl)⟩) (by repeat (first | exact Sub.nil | refine Sub.cons rfl ?_)) aSp
      · skip
        obtain ⟨m, hm⟩ : ∃ m, l = m + 1 := ⟨l - 1, by have h := hb41; simp only [beq_eq_false_iff_ne] at h; omega⟩
        refine cw_region ?_
        refine ow_y (y_move rfl) ?_
        refine ow_y (y_move rfl) ?_
        refine ow_y (y_move rfl) ?_
        refine ow_y (y_fld F.fld220_1 rfl) ?_
        refine ow_y (y_ixa F.ar218 rfl rfl (by omega)) ?_
        refine ow_y (y_load F.sc3 rfl (nd_kid hln hs1 (by omega))) ?_
        refine ow_y (y_move rfl) ?_
        refine ow_y (y_subI rfl rfl (by omega)) ?_
        rw [show (l : Int) - 1 = (m : Int) by omega]
        refine ow_y (y_move rfl) ?_
        refine ow_y (y_move rfl) ?_
        refine ow_ran rfl F.hb171 rfl (hrec m hm t0 (x.kids.getD (slot l at_).1 0) (slot l at_).2 to_ (by omega) (by omega) (by subst hm; rw [he2] at hnb; exact big1 hnb)) aSp (fun r t' ho => ?_) (fun e t ho => by (repeat (first | with_reducible refine kw_inBlock_panic ?_ | with_reducible refine kw_then_panic ?_)); exact kw_errR ((by subst hm; rw [he2]; exact andThen_err ho)) (fun _ _ h => h) aSp)
        try simp only [List.cons_append, List.nil_append]
        refine ow_y (y_fld F.fld220_1 rfl) ?_
        refine ow_y (y_ixa F.ar218 rfl rfl (by omega)) ?_
        refine ow_store F.sz3 rfl rfl rfl (by rw [ndL_len hln, Nat.blt_eq]; omega) (nd_set hln hs1 (by omega)) ?_
        refine ow_nil ?_
        refine kw_meetE (fun _ _ h => h) (⟨(r, t'), (by have := pb_rset m (x.kids.getD (slot l at_).1 0) (slot l at_).2 to_ t0; rw [ho] at this; exact this.trans htb), by subst hm; rw [he2]; exact andThen_ok ho⟩) (by repeat (first | exact Sub.nil | refine Sub.cons rfl ?_)) aSp
    rintro ⟨⟨r, v⟩, hvb, he3⟩
    dsimp only at hvb he3 ⊢
    simp only [List.cons_append, List.nil_append]
    generalize hk : x.kids.set (slot l at_).1 r = kids at he3 ⊢
    have hkl : kids.length = 8 := by rw [← hk, List.length_set, hln.n]
    have hn2 : NdLen { x with kids := kids } := ⟨hkl, hln.sum⟩
    have hsz2 : (ndL l { x with kids := kids }).toArray.size = 41 := by rw [List.size_toArray, ndL_len hn2]
    refine cw_seq ?_
    refine cw_seq ?_
    refine cw_region ?_
    refine ow_y (y_loadAgg F.ag220 rfl (by rw [hsz2]; omega) (extract_all hsz2)) ?_
    refine ow_gives rfl F.hb199 rfl (empty_spec l { x with kids := kids } hn2) aSp ?_
    try simp only [List.cons_append, List.nil_append]
    refine ow_nil ?_
    refine kw_code (fun _ _ h => h) ?_
    refine cw_if rfl (fun hb69 => ?_) (fun hb69 => ?_)
    · skip
      refine cw_seq ?_
      refine cw_region ?_
      refine ow_y (y_assign rfl) ?_
      refine ow_nil ?_
      refine kw_code (fun _ _ h => h) ?_
      exact cw_retR (by rw [he3]; unfold setEnd; rw [if_pos (of_decide_eq_true hb69)]; rfl) (fun _ _ h => h) rfl rfl aSp
    · skip
      have he4 : rset l root at_ to_ s = andThen (rsums l kids) (fun ss => hput (ndBytes l { kids := kids, sum := digest l ss })) v := by rw [he3]; unfold setEnd; rw [if_neg (of_decide_eq_false hb69)]
      refine cw_skip ?_
      refine kw_code (fun _ _ h => h) ?_
      refine cw_seq ?_
      refine cw_region ?_
      refine ow_y (y_move rfl) ?_
      refine ow_y (y_move rfl) ?_
      refine ow_y (y_loadAgg F.ag220 rfl (by rw [hsz2]; omega) (extract_all hsz2)) ?_
      refine ow_ran rfl F.hb201 rfl (rsums_spec W a v l (by omega) { x with kids := kids } hn2) aSp (fun ss t' ho => ?_) (fun e t ho => by (repeat (first | with_reducible refine kw_inBlock_panic ?_ | with_reducible refine kw_then_panic ?_)); exact kw_errR ((by rw [he4]; exact andThen_err ho)) (fun _ _ h => h) aSp)
      try simp only [List.cons_append, List.nil_append]
      obtain ⟨htv, hsl, hs32⟩ := rsums_lens l ho
      rw [htv] at ho ⊢
      rw [andThen_ok ho] at he4
      have hdl := digest_len l ss
      have hds : ((digest l ss).map byteV).toArray.size = 32 := by rw [List.size_toArray, List.length_map, hdl]
      have hn3 : NdLen { kids := kids, sum := digest l ss } := ⟨hkl, hdl⟩
      have hsz3 : (ndL l { kids := kids, sum := digest l ss }).toArray.size = 41 := by rw [List.size_toArray, ndL_len hn3]
      refine ow_gives rfl F.hb200 rfl (digest_spec W hW l (by omega) ss (by rw [hsl]; exact hkl) hs32) aSp ?_
      try simp only [List.cons_append, List.nil_append]
      refine ow_y (y_fld F.fld220_2 rfl) ?_
      refine ow_storeAgg F.sz175 rfl rfl hds (fun x hx => by simp at hx; obtain ⟨_, _, rfl⟩ := hx; rfl) (by rw [hds, hsz2]; omega) (nd_setSum hn2 hdl) ?_
      refine ow_nil ?_
      refine kw_code (fun _ _ h => h) ?_
      refine cw_seq ?_
      refine cw_mix (.soft 0 (.soft 1 (.soft 2 (.soft 3 (.soft 4 (.hard 5 (.hard 6 (.soft 7 .done)))))))) [mpC a, pts b11 (.cells (ndL l { kids := kids, sum := digest l ss }).toArray 220 (0, 0))] F.fol (by kernel_rfl) (by repeat (first | with_reducible exact NoSlots.bp | with_reducible apply NoSlots.then | with_reducible apply NoSlots.inBlock)) aSp ?_
      refine om_y rfl (y_move rfl) ?_
      refine om_y rfl (y_nil rfl) ?_
      refine om_y rfl (y_fld F.fld155_0 rfl) ?_
      refine om_y rfl (y_load F.sc62 rfl (by rfl)) ?_
      refine om_y rfl (y_loadAgg F.ag220 rfl (by rw [hsz3]; omega) (extract_all hsz3)) ?_
      refine om_h rfl ?_
      refine ow_gives rfl F.hb202 rfl (ndBytes_spec l { kids := kids, sum := digest l ss } hn3) aSp ?_
      try simp only [List.cons_append, List.nil_append]
      refine ow_nil ?_
      refine om_next aSp ?_
      refine om_h rfl ?_
      refine ow_ran rfl F.hb176 rfl (hput_spec W a v (ndBytes l { kids := kids, sum := digest l ss }) (by rw [ndB_len hn3]; omega) (by rw [he4] at hnb; exact hnb)) aSp (fun z z' ho => ?_) (fun e t ho => by (repeat (first | with_reducible refine kw_inBlock_panic ?_ | with_reducible refine kw_then_panic ?_)); exact kw_errR ((by rw [he4]; exact ho)) (fun _ _ h => h) aSp)
      try simp only [List.cons_append, List.nil_append]
      refine ow_nil ?_
      refine om_next aSp ?_
      refine om_y rfl (y_assign rfl) ?_
      refine om_nil ?_
      refine kw_code (fun _ _ h => h) ?_
      exact cw_retR (he4.trans ho) (fun _ _ h => h) rfl rfl aSp
end Go.Proofs.YthlclfdnhnnebaaGreatDoor
end
