/- What an operation leaves in its slot: strings, slices, arrays, structs. -/
import Derived.Test.YtoolmpfkbaffcaaDoorSlOps
import Derived.BigFrame
set_option linter.all false
namespace Go.Sl
open Go.BigFrame
section
variable {c : Cx} {env : List (Nat × Value)} {L : List Asrt} {d : Option Tmp} {ty : TypeId} {pos : String} {af : Array Edge} {g : Option (Nat × Bool)}

theorem run_equalIn_bool {P : Program} {t : TypeId} (hu : P.underlying t = some .bool) (k : Nat) (p q : Bool) (w : World) : (Op.equalIn (k + 1) t (.bool p) (.bool q)).run P w = .ok (p == q) w := by
  simp [Op.equalIn, run_underlying hu]
theorem y_bool_eql {x y : Operand} {t yt : TypeId} {p q : Bool} (ht : (match c.P.underlying t with | some .bool => true | _ => false) = true) (hx : evo env x = some (.bool p)) (hy : evo env y = some (.bool q)) :
    Yields c ⟨d, .binOp .eql t x y yt, ty, pos, af, g⟩ env L (.bool (p == q)) := by
  intro a w h
  split at ht
  · rename_i hu
    have e : (binOp .eql t (.bool p) (.bool q)).run c.P w = .ok (.bool (p == q)) w := by
      have e1 : binOp .eql t (.bool p) (.bool q) = (do pure (.bool (← Op.equalIn (9999 + 1) t (.bool p) (.bool q)))) := rfl
      rw [e1]
      rw [Sem.run_bind, run_equalIn_bool hu]; rfl
    simp [execOp, h.eval hx, h.eval hy, eqGuard_at_bool, e]
  · cases ht
theorem y_str_eql {x y : Operand} {t yt : TypeId} {p q : ByteArray} (hx : evo env x = some (.string p)) (hy : evo env y = some (.string q)) :
    Yields c ⟨d, .binOp .eql t x y yt, ty, pos, af, g⟩ env L (.bool (p.toList == q.toList)) := by
  intro a w h
  simp [execOp, h.eval hx, h.eval hy, eqGuard_at_string, binOp, Op.stringOp]
theorem y_str_neq {x y : Operand} {t yt : TypeId} {p q : ByteArray} (hx : evo env x = some (.string p)) (hy : evo env y = some (.string q)) :
    Yields c ⟨d, .binOp .neq t x y yt, ty, pos, af, g⟩ env L (.bool (!(p.toList == q.toList))) := by
  intro a w h
  simp [execOp, h.eval hx, h.eval hy, eqGuard_at_string, binOp, Op.stringOp]
theorem y_str_add {x y : Operand} {t yt : TypeId} {p q : ByteArray} (hx : evo env x = some (.string p)) (hy : evo env y = some (.string q)) (hn : p.size + q.size ≤ 9223372036854775807) :
    Yields c ⟨d, .binOp .add t x y yt, ty, pos, af, g⟩ env L (.string (p ++ q)) := by
  intro a w h
  have : ¬ ((p.size + q.size : Nat) : Int) > IntKind.i64.max := by rw [IntKind.max_i64]; omega
  simp only [execOp, h.eval hx, h.eval hy, eqGuard_add, binOp, Op.stringOp, if_neg this]
  rfl

theorem y_len_str {t : TypeId} {x : Operand} {s : ByteArray} (ht : tyString c.P t = true) (hx : evo env x = some (.string s)) :
    Yields c ⟨d, .call { callee := .builtin .len, args := #[x], argTypes := #[t] }, ty, pos, af, g⟩ env L (.int .i64 s.size) := by
  intro a w h
  unfold tyString at ht
  split at ht
  · rename_i hu
    rw [execOp_builtin, builtin_len]
    simp [h.eval hx, Builtin.len_, run_underlying hu, goInt]
  · cases ht
theorem y_len_slice {t e n : TypeId} {x : Operand} {p : Option Addr} {l cap : Nat} (ht : tySlice c.P t e n = true) (hx : evo env x = some (.slice p l cap)) :
    Yields c ⟨d, .call { callee := .builtin .len, args := #[x], argTypes := #[t] }, ty, pos, af, g⟩ env L (.int .i64 l) := by
  intro a w h
  unfold tySlice at ht
  split at ht
  · rename_i y hu
    rw [execOp_builtin, builtin_len]
    simp [h.eval hx, Builtin.len_, run_underlying hu, goInt]
  · simp at ht
theorem y_len_map {t k v : TypeId} {x : Operand} {b : Nat} {es : Array MapEntry} {clk : Nat} {M : List Asrt} (ht : tyMap c.P t k v = true) (hx : evo env x = some (.map (some b))) [hL : FndB L b (.map es clk) M] :
    Yields c ⟨d, .call { callee := .builtin .len, args := #[x], argTypes := #[t] }, ty, pos, af, g⟩ env L (.int .i64 es.size) := by
  intro a w h
  have hh := (hL.sat h.sat).pts
  unfold tyMap at ht
  split at ht
  · rename_i y z hu
    rw [execOp_builtin, builtin_len]
    simp [h.eval hx, Builtin.len_, run_underlying hu, goInt, getObj, Sem.run, hh]
  · simp at ht
theorem y_max {ts : Array TypeId} {x y : Operand} {k : IntKind} {m n : Int} (hx : evo env x = some (.int k m)) (hy : evo env y = some (.int k n)) :
    Yields c ⟨d, .call { callee := .builtin .max, args := #[x, y], argTypes := ts }, ty, pos, af, g⟩ env L (.int k (max m n)) := by
  intro a w h
  rw [execOp_builtin, builtin_max]
  simp [h.eval hx, h.eval hy, Builtin.max_, Builtin.max2]
  omega
theorem y_min4 {ts : Array TypeId} {x y z u : Operand} {k : IntKind} {m n p q : Int} (hx : evo env x = some (.int k m)) (hy : evo env y = some (.int k n)) (hz : evo env z = some (.int k p)) (hu : evo env u = some (.int k q)) :
    Yields c ⟨d, .call { callee := .builtin .min, args := #[x, y, z, u], argTypes := ts }, ty, pos, af, g⟩ env L (.int k (min (min (min m n) p) q)) := by
  intro a w h
  rw [execOp_builtin, builtin_min]
  simp [h.eval hx, h.eval hy, h.eval hz, h.eval hu, Builtin.min_, Builtin.min2]
  omega
theorem y_min {ts : Array TypeId} {x y : Operand} {k : IntKind} {m n : Int} (hx : evo env x = some (.int k m)) (hy : evo env y = some (.int k n)) :
    Yields c ⟨d, .call { callee := .builtin .min, args := #[x, y], argTypes := ts }, ty, pos, af, g⟩ env L (.int k (min m n)) := by
  intro a w h
  rw [execOp_builtin, builtin_min]
  simp [h.eval hx, h.eval hy, Builtin.min_, Builtin.min2]
  omega

theorem y_ixs {t e n : TypeId} {x y : Operand} {b o l cap : Nat} {k : IntKind} {i : Int} (ht : tySlice c.P t e n = true) (hx : evo env x = some (.slice (some ⟨b, o, none⟩) l cap)) (hy : evo env y = some (.int k i)) (hi : 0 ≤ i ∧ i < l) :
    Yields c ⟨d, .indexAddr t x y, ty, pos, af, g⟩ env L (.pointer (some ⟨b, o + i.toNat * n, none⟩)) := by
  intro a w h
  simp only [tySlice, Bool.and_eq_true] at ht
  obtain ⟨h1, h2⟩ := ht
  split at h1
  · rename_i z hu
    simp at h1; subst h1
    split at h2
    · rename_i info hinfo
      simp at h2; subst h2
      simp [execOp, h.eval hx, h.eval hy, Instr.indexAt, run_underlying hu, asIntOf, hi.1, hi.2, sizeOf, typeInfo, hinfo, addr_add]
    · cases h2
  · cases h1
theorem y_ixa {t : TypeId} {len e n : Nat} {x y : Operand} {b o : Nat} {k : IntKind} {i : Int} (ht : tyArray c.P t len e n = true) (hx : evo env x = some (.pointer (some ⟨b, o, none⟩))) (hy : evo env y = some (.int k i)) (hi : 0 ≤ i ∧ i < len) :
    Yields c ⟨d, .indexAddr t x y, ty, pos, af, g⟩ env L (.pointer (some ⟨b, o + i.toNat * n, none⟩)) := by
  intro a w h
  simp only [tyArray, Bool.and_eq_true] at ht
  obtain ⟨h1, h2⟩ := ht
  split at h1
  · rename_i l z hu
    simp at h1; obtain ⟨rfl, rfl⟩ := h1
    split at h2
    · rename_i info hinfo
      simp at h2; subst h2
      simp [execOp, h.eval hx, h.eval hy, Instr.indexAt, run_underlying hu, Instr.sureAddr, asIntOf, hi.1, hi.2, sizeOf, typeInfo, hinfo, addr_add]
    · cases h2
  · cases h1

/-- a byte of a text -/
theorem y_byte {t : TypeId} {x y : Operand} {s : ByteArray} {k : IntKind} {i : Int} {u : UInt8} (ht : tyString c.P t = true) (hx : evo env x = some (.string s)) (hy : evo env y = some (.int k i)) (hi : 0 ≤ i) (hu : s.data.toList[i.toNat]? = some u) :
    Yields c ⟨d, .index t x y, ty, pos, af, g⟩ env L (.int .u8 u.toNat) := by
  intro a w h
  unfold tyString at ht
  split at ht
  · rename_i hs
    have : s[i.toNat]? = some u := by
      rw [Array.getElem?_toList] at hu
      exact hu
    simp [execOp, h.eval hx, h.eval hy, Instr.index, run_underlying hs, asIntOf, hi, this]
  · cases ht

theorem y_ext {x : Operand} {vs : List Value} {i : Nat} {v : Value} (hx : evo env x = some (.tuple vs.toArray)) (hv : nth vs i = some v) : Yields c ⟨d, .extract x i, ty, pos, af, g⟩ env L v := by
  intro a w h; rw [nth_eq] at hv; simp [execOp, h.eval hx, Instr.extract, hv]

/-- a field of a struct value -/
def tyFieldAt (P : Program) (s f k n : Nat) (agg : Bool) : Bool := match P.underlying s with
  | some (.struct fs) => (match fs[f]? with
    | some fd => fd.offset == k && (if agg then tyAgg P fd.type n else tyScalar P fd.type)
    | none => false)
  | _ => false
theorem y_field {s : TypeId} {x : Operand} {f k n : Nat} {cs : List Value} {v : Value} (hf : tyFieldAt c.P s f k n false = true) (hx : evo env x = some (.agg cs.toArray)) (hv : nth cs k = some v) :
    Yields c ⟨d, .field s x f, ty, pos, af, g⟩ env L v := by
  intro a w h
  unfold tyFieldAt at hf
  split at hf
  · rename_i fs hu
    split at hf
    · rename_i fd hfd
      simp at hf
      obtain ⟨rfl, hs⟩ := hf
      rw [nth_eq] at hv
      simp [execOp, h.eval hx, Instr.field, run_underlying hu, hfd, asAgg, part, run_isAgg_scalar hs, hv]
    · cases hf
  · cases hf
theorem y_fieldAgg {s : TypeId} {x : Operand} {f k n : Nat} {cs v : Array Value} (hf : tyFieldAt c.P s f k n true = true) (hx : evo env x = some (.agg cs)) (hv : cs.extract k (k + n) = v) :
    Yields c ⟨d, .field s x f, ty, pos, af, g⟩ env L (.agg v) := by
  intro a w h
  unfold tyFieldAt at hf
  split at hf
  · rename_i fs hu
    split at hf
    · rename_i fd hfd
      simp at hf
      obtain ⟨rfl, hs⟩ := hf
      subst hv
      simp [execOp, h.eval hx, Instr.field, run_underlying hu, hfd, asAgg, part, run_isAgg_agg hs, run_sizeOf_agg hs]
    · cases hf
  · cases hf
theorem y_ixv {t : TypeId} {len e : Nat} {x y : Operand} {cs : List Value} {k : IntKind} {i : Int} {v : Value} (ht : tyArray c.P t len e 1 = true) (he : tyScalar c.P e = true) (hx : evo env x = some (.agg cs.toArray)) (hy : evo env y = some (.int k i)) (hi : 0 ≤ i ∧ i < len) (hv : nth cs i.toNat = some v) :
    Yields c ⟨d, .index t x y, ty, pos, af, g⟩ env L v := by
  intro a w h
  simp only [tyArray, Bool.and_eq_true] at ht
  obtain ⟨h1, h2⟩ := ht
  split at h1
  · rename_i l z hu
    simp at h1; obtain ⟨rfl, rfl⟩ := h1
    split at h2
    · rename_i info hinfo
      simp at h2
      rw [nth_eq] at hv
      simp [execOp, h.eval hx, h.eval hy, Instr.index, run_underlying hu, asIntOf, hi.1, hi.2, sizeOf, typeInfo, hinfo, h2, part, run_isAgg_scalar he, hv]
    · cases h2
  · cases h1
theorem y_ixvAgg {t : TypeId} {len e n : Nat} {x y : Operand} {cs : Array Value} {k : IntKind} {i : Int} {v : Array Value} (ht : tyArray c.P t len e n = true) (he : tyAgg c.P e n = true) (hx : evo env x = some (.agg cs)) (hy : evo env y = some (.int k i)) (hi : 0 ≤ i ∧ i < len) (hv : cs.extract (i.toNat * n) (i.toNat * n + n) = v) :
    Yields c ⟨d, .index t x y, ty, pos, af, g⟩ env L (.agg v) := by
  intro a w h
  simp only [tyArray, Bool.and_eq_true] at ht
  obtain ⟨h1, h2⟩ := ht
  split at h1
  · rename_i l z hu
    simp at h1; obtain ⟨rfl, rfl⟩ := h1
    split at h2
    · rename_i info hinfo
      simp at h2
      subst hv
      simp [execOp, h.eval hx, h.eval hy, Instr.index, run_underlying hu, asIntOf, hi.1, hi.2, sizeOf, typeInfo, hinfo, h2, part, run_isAgg_agg he]
    · cases h2
  · cases h1

/-- a bound of a cut: none, or a number -/
def bnd (env : List (Nat × Value)) (x : Option Operand) (dflt : Nat) : Option Nat := match x with
  | none => some dflt
  | some y => match evo env y with
    | some (.int _ n) => some n.toNat
    | _ => none

/-- a text cut -/
theorem y_cutLH {t : TypeId} {x l m : Operand} {s : ByteArray} {k j : IntKind} {lo hi : Int} (ht : tyString c.P t = true) (hx : evo env x = some (.string s)) (hl : evo env l = some (.int k lo)) (hh : evo env m = some (.int j hi)) (hb : 0 ≤ lo ∧ lo ≤ hi ∧ hi ≤ s.size) :
    Yields c ⟨d, .slice t x (some l) (some m) none, ty, pos, af, g⟩ env L (.string (s.extract lo.toNat hi.toNat)) := by
  intro a w h
  unfold tyString at ht
  split at ht
  · rename_i hs
    have h1 : 0 ≤ hi := by omega
    simp [execOp, h.eval hx, h.eval hl, h.eval hh, Instr.sliceAt, run_underlying hs, Instr.slice, Instr.sliceBounds, Instr.sliceBound, asIntOf, hb.1, hb.2.2, h1]
    intro h4; omega
  · cases ht
theorem y_cutL {t : TypeId} {x l : Operand} {s : ByteArray} {k : IntKind} {lo : Int} (ht : tyString c.P t = true) (hx : evo env x = some (.string s)) (hl : evo env l = some (.int k lo)) (hb : 0 ≤ lo ∧ lo ≤ s.size) :
    Yields c ⟨d, .slice t x (some l) none none, ty, pos, af, g⟩ env L (.string (s.extract lo.toNat s.size)) := by
  intro a w h
  unfold tyString at ht
  split at ht
  · rename_i hs
    simp [execOp, h.eval hx, h.eval hl, Instr.sliceAt, run_underlying hs, Instr.slice, Instr.sliceBounds, Instr.sliceBound, asIntOf, hb.1, hb.2]
  · cases ht
theorem y_cutH {t : TypeId} {x m : Operand} {s : ByteArray} {j : IntKind} {hi : Int} (ht : tyString c.P t = true) (hx : evo env x = some (.string s)) (hh : evo env m = some (.int j hi)) (hb : 0 ≤ hi ∧ hi ≤ s.size) :
    Yields c ⟨d, .slice t x none (some m) none, ty, pos, af, g⟩ env L (.string (s.extract 0 hi.toNat)) := by
  intro a w h
  unfold tyString at ht
  split at ht
  · rename_i hs
    simp [execOp, h.eval hx, h.eval hh, Instr.sliceAt, run_underlying hs, Instr.slice, Instr.sliceBounds, Instr.sliceBound, asIntOf, hb.1, hb.2]
  · cases ht

theorem y_func {fn : Fn} {xs ys : Array Operand} {f : FuncId} (hfn : fn = .func f) {vs us : Array Value} (h1 : xs.toList.mapM (evo env) = some vs.toList) (h2 : ys.toList.mapM (evo env) = some us.toList) :
    Yields c ⟨d, .makeFunc fn xs ys, ty, pos, af, g⟩ env L (.func (.func f) vs us) := by
  intro a w h
  subst hfn
  have key : ∀ (l : List Operand) (m : List Value), l.mapM (evo env) = some m → l.map a.eval = m := by
    intro l
    induction l with
    | nil => intro m hm; simpa using hm
    | cons x l ih =>
      intro m hm
      simp only [List.mapM_cons, Option.bind_eq_bind, Option.bind_eq_some_iff, Option.pure_def, Option.some.injEq] at hm
      obtain ⟨v, hv, m', hm', rfl⟩ := hm
      simp [h.eval hv, ih _ hm']
  have e1 : xs.map a.eval = vs := by apply Array.ext'; rw [Array.toList_map]; exact key _ _ h1
  have e2 : ys.map a.eval = us := by apply Array.ext'; rw [Array.toList_map]; exact key _ _ h2
  simp [execOp, Instr.makeFunc, e1, e2]

theorem y_iface {x : Operand} {t : TypeId} {v : Value} (ht : (match c.P.underlying t with | some (.interface _) | none => false | _ => true) = true) (hx : evo env x = some v) :
    Yields c ⟨d, .makeInterface t x, ty, pos, af, g⟩ env L (.iface t v) := by
  intro a w h
  cases hu : c.P.underlying t with
  | none => rw [hu] at ht; cases ht
  | some dd =>
    rw [hu] at ht
    simp only [execOp, Instr.makeInterface, Sem.run_bind, run_underlying hu, Result.andThen_ok, h.eval hx]
    cases dd <;> simp_all
end

/-! ### against nil -/
def tyPtr (P : Program) (t : TypeId) : Bool := match P.underlying t with | some (.pointer _) => true | _ => false
theorem run_equal_ptr_nil {P : Program} {t : TypeId} (ht : tyPtr P t = true) (p : Option Addr) (w : World) : (Op.equal t (.pointer p) (.pointer none)).run P w = .ok p.isNone w := by
  unfold tyPtr at ht
  split at ht
  · rename_i e hu
    have e1 : Op.equal t (.pointer p) (.pointer none) = Op.equalIn (9999 + 1) t (.pointer p) (.pointer none) := rfl
    have e2 : ∀ k, (Op.equalIn (k + 1) t (.pointer p) (.pointer none)).run P w = .ok p.isNone w := by
      intro k
      cases p <;> simp [Op.equalIn, run_underlying hu]
    rw [e1]
    exact e2 9999
  · cases ht
section
variable {c : Cx} {env : List (Nat × Value)} {L : List Asrt} {d : Option Tmp} {ty : TypeId} {pos : String} {af : Array Edge} {g : Option (Nat × Bool)}
theorem y_ptr_eql {x y : Operand} {t yt : TypeId} {p : Option Addr} (ht : tyPtr c.P t = true) (hx : evo env x = some (.pointer p)) (hy : evo env y = some (.pointer none)) :
    Yields c ⟨d, .binOp .eql t x y yt, ty, pos, af, g⟩ env L (.bool p.isNone) := by
  intro a w h
  have e : (binOp .eql t (.pointer p) (.pointer none)).run c.P w = .ok (.bool p.isNone) w := by
    have e1 : binOp .eql t (.pointer p) (.pointer none) = (do pure (.bool (← Op.equal t (.pointer p) (.pointer none)))) := by cases p <;> rfl
    rw [e1, Sem.run_bind, run_equal_ptr_nil ht]; rfl
  have e2 : eqGuard .eql t x y (.pointer p) (.pointer none) = pure () := rfl
  simp [execOp, h.eval hx, h.eval hy, e2, e]
theorem y_ptr_neq {x y : Operand} {t yt : TypeId} {p : Option Addr} (ht : tyPtr c.P t = true) (hx : evo env x = some (.pointer p)) (hy : evo env y = some (.pointer none)) :
    Yields c ⟨d, .binOp .neq t x y yt, ty, pos, af, g⟩ env L (.bool (!p.isNone)) := by
  intro a w h
  have e : (binOp .neq t (.pointer p) (.pointer none)).run c.P w = .ok (.bool (!p.isNone)) w := by
    have e1 : binOp .neq t (.pointer p) (.pointer none) = (do pure (.bool (!(← Op.equal t (.pointer p) (.pointer none))))) := by cases p <;> rfl
    rw [e1, Sem.run_bind, run_equal_ptr_nil ht]; rfl
  have e2 : eqGuard .neq t x y (.pointer p) (.pointer none) = pure () := rfl
  simp [execOp, h.eval hx, h.eval hy, e2, e]
end
end Go.Sl
