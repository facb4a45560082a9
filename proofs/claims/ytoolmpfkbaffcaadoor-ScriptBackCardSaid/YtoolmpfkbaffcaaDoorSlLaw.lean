/- A law's frame: from what the walk shows to the row. What a law is given lies in memory that stays as it was. -/
import Derived.Test.YtoolmpfkbaffcaaDoorSlMem2
import Derived.Test.YtoolmpfkbaffcaaDoorSlNum
import Derived.ProofKit
import Derived.WalkKit
import Derived.OpenShut
import Derived.JoinedCond
import Derived.Carry
set_option linter.all false
namespace Go.Sl
open Go.ChangeShapes Go.WideShapes Go.ChangeAt Go.RowKit Go.WideElems
open Go.ChangeMaps (open_string shut_string)

theorem law_calls {P : Program} {f : FuncId} {args : Array Value} {W : World} {v : Value} (h : Does P f args [whole W] (Gives v [whole W])) : Calls P f args W fun e W' => e = .returned v ∧ Below W.heap.size W W' := by
  have hs : Sat W ([whole W] ++ [fact True]) := ((sat_fact (p := True) (L := [whole W])).2 ⟨trivial, sat_whole W⟩).perm (List.Perm.swap _ _ _)
  refine (h W _ hs).mono ?_
  rintro e W' ⟨L', ⟨rfl, rfl⟩, hsat, hl⟩
  have hb : ∀ k, k < W.heap.size → W'.heap[k]? = W.heap[k]? := fun k hk => hsat.whole_block k hk
  refine ⟨rfl, hl.os, hl.tape, hl.output, ?_, hb⟩
  rcases Nat.eq_zero_or_pos W.heap.size with h0 | h0
  · omega
  · have h1 := hb (W.heap.size - 1) (by omega)
    rw [Array.getElem?_eq_getElem (xs := W.heap) (i := W.heap.size - 1) (by omega)] at h1
    have := (Array.getElem?_eq_some_iff.1 h1).1
    omega

theorem trodAll_below {H : Type} {enc : TypeId × Value → H} {P : Program} (hl : laidOutB P = true) {W W' : World} (hb : Below W.heap.size W W') :
    ∀ {ts : List TypeId} {vs : List Value} {ds : List (DataW H)} {ps : List MemPlace}, (ts.all fun t => P.readableRec t && decide (t < P.types.size)) = true → (∀ p ∈ ps, p.block < W.heap.size) →
      DataW.TrodAll enc P W 0 (fun _ => true) true ts vs ds ps → DataW.TrodAll enc P W' 0 (fun b => decide (b < W.heap.size)) true ts vs ds ps
  | [], vs, ds, ps, _, _, h => by obtain ⟨rfl, rfl, rfl⟩ := trodAll_nil h; exact trodAll_mk0
  | t :: ts, vs, ds, ps, ht, hp, h => by
    obtain ⟨v, vs', d, ds', p, q, rfl, rfl, rfl, h1, h2⟩ := trodAll_cons h
    simp only [List.all_cons, Bool.and_eq_true, decide_eq_true_eq] at ht
    exact trodAll_cons_mk (Below.trod hl ht.1.1 ht.1.2 h1 hb (fun x hx => hp x (by simp [hx]))) (trodAll_below hl hb (by simpa using ht.2) (fun x hx => hp x (by simp [hx])) h2)

/-- THE ROW's POST, of a law: true, and the input reads as it did -/
theorem law_post {H : Type} {enc : TypeId × Value → H} {P : Program} {f : Func} {s : ChangeSpec} {W W' : World} {args : Array Value} {ds gs : List (DataW H)} {before : List MemPlace} {tb : TypeId}
    (hW : DataW.Whole enc P f.params.toList s.vars false W args.toList ds gs before) (hv : s.vars = []) (hb : Below W.heap.size W W') (hl : laidOutB P = true)
    (hp : (f.params.toList.all fun t => P.readableRec t && decide (t < P.types.size)) = true) (hr : f.resultTypes = #[tb]) (hub : P.underlying tb = some .bool)
    (hfn : (s.fn H ds) = { results := [.lit (.bool true)], args := ds }) : s.post enc P f false true false false W args (.bool true) W' := by
  have hW' := hW
  obtain ⟨p, q, hA, hV, rfl, hfz, hnd⟩ := hW
  have hlt : ∀ x ∈ p ++ q, x.block < W.heap.size := fun x hx => by simpa using hW'.lt x hx
  rw [hv] at hV
  obtain ⟨rfl, rfl⟩ := trodVars_none hV
  refine ⟨ds, [], _, [], p, [], hW', ?_, ?_, ?_, hb.frame _, fun h => by cases h⟩
  · rw [hr]
    simp only [List.append_nil, hfn]
    exact trodAll_mk1 (shut_bool hub true)
  · simp only [List.append_nil, hfn]
    exact trodAll_below hl hb hp (fun x hx => hlt x (by simp [hx])) hA
  · simp only [List.append_nil, hfn, hv]
    exact rfl

theorem Does.noPre {P : Program} {f : FuncId} {args : Array Value} {Post : Ending → List Asrt → Prop} (h : Does P f args [fact True] Post) : Does P f args [] Post := by
  intro w F hs
  exact h w F ((sat_fact (p := True) (L := [F])).2 ⟨trivial, hs⟩)
theorem Does.imp {P : Program} {f : FuncId} {args : Array Value} {Pre : List Asrt} {Post Post' : Ending → List Asrt → Prop} (h : Does P f args Pre Post) (hi : ∀ e L, Post e L → Post' e L) : Does P f args Pre Post' := by
  intro w F hs
  refine (h w F hs).mono ?_
  rintro e w' ⟨L', h1, h2, h3⟩
  exact ⟨L', hi e L' h1, h2, h3⟩
theorem Does.weak {P : Program} {f : FuncId} {args : Array Value} {Pre : List Asrt} {v : Value} {N : List Asrt} (h : Does P f args Pre (Gives v N)) : Does P f args Pre (Gives v []) := by
  intro w F hs
  refine (h w F hs).mono ?_
  rintro e w' ⟨L', ⟨rfl, rfl⟩, h2, h3⟩
  exact ⟨[], ⟨rfl, rfl⟩, h2.drop, h3⟩
/-! ### reading what was there -/
section
variable {c : Cx} {env : List (Nat × Value)} {L M : List Asrt} {d : Option Tmp} {ty : TypeId} {pos : String} {af : Array Edge} {g : Option (Nat × Bool)}

theorem cell_whole {W w : World} {L : List Asrt} {p : Addr} {v : Value} (h : Sat w (whole W :: L)) (hc : W.cell? p = some v) : w.cell? p = some v := by
  have hlt : p.block < W.heap.size := by
    rcases Nat.lt_or_ge p.block W.heap.size with h | h
    · exact h
    · unfold World.cell? at hc; rw [Array.getElem?_eq_none h] at hc; simp at hc
  rw [World.cell?_of_block (w := W) (h.whole_block p.block hlt)]; exact hc

theorem y_loadW {x : Operand} {t : TypeId} {W : World} {p : Addr} {v : Value} (ht : tyScalar c.P t = true) (hx : evo env x = some (.pointer (some p))) (hL : Fnd L (whole W) M) (hc : W.cell? p = some v) :
    Yields c ⟨d, .load t x, ty, pos, af, g⟩ env L v := by
  intro a w h
  have hw := cell_whole (hL.sat h.sat) hc
  have e : (loadVar t p).run c.P w = .ok v w := by
    simp [loadVar, Sem.run_bind, run_isAgg_scalar ht, Result.andThen_ok, run_load, hw]
  simp [execOp, h.eval hx, Instr.loadAt, Instr.sureAddr, e]

/-- a load by what a piece says -/
theorem y_loadP {x : Operand} {t : TypeId} {A : Asrt} {p : Addr} {v : Value} (ht : tyScalar c.P t = true) (hx : evo env x = some (.pointer (some p))) (hL : Fnd L A M) (hc : ∀ (w : World) L', Sat w (A :: L') → w.cell? p = some v) :
    Yields c ⟨d, .load t x, ty, pos, af, g⟩ env L v := by
  intro a w h
  have hw := hc w M (hL.sat h.sat)
  have e : (loadVar t p).run c.P w = .ok v w := by
    simp [loadVar, Sem.run_bind, run_isAgg_scalar ht, Result.andThen_ok, run_load, hw]
  simp [execOp, h.eval hx, Instr.loadAt, Instr.sureAddr, e]
theorem y_ixsA {t e n : TypeId} {x y : Operand} {q : Addr} {l cap : Nat} {k : IntKind} {i : Int} (ht : tySlice c.P t e n = true) (hx : evo env x = some (.slice (some q) l cap)) (hy : evo env y = some (.int k i)) (hi : 0 ≤ i ∧ i < l) :
    Yields c ⟨d, .indexAddr t x y, ty, pos, af, g⟩ env L (.pointer (some (q.add (i.toNat * n)))) := by
  intro a w h
  simp only [tySlice, Bool.and_eq_true] at ht
  obtain ⟨h1, h2⟩ := ht
  split at h1
  · rename_i z hu
    simp at h1; subst h1
    split at h2
    · rename_i info hinfo
      simp at h2; subst h2
      simp [execOp, h.eval hx, h.eval hy, Instr.indexAt, run_underlying hu, asIntOf, hi.1, hi.2, sizeOf, typeInfo, hinfo]
    · cases h2
  · cases h1
end

/-- a slice of integers that was there -/
def IsInts (W : World) (k : IntKind) (v : Value) (zs : List Int) : Prop :=
  ∃ p cap, v = .slice p zs.length cap ∧ (∀ i (h : i < zs.length), ∃ a, p = some a ∧ W.cell? (a.add i) = some (.int k zs[i])) ∧ (∀ z ∈ zs, (Lit.int k z).wf = true) ∧ zs.length ≤ maxLen
theorem open_isInts {H : Type} {enc : TypeId × Value → H} {P : Program} {W : World} {base : Nat} {r : Reach} {b0 : Nat} {t e : TypeId} {k : IntKind} {v : Value} {d : DataW H} {ps : List MemPlace} {sp : Nat → Bool} {hd : Bool}
    (ht : P.underlying t = some (.slice e)) (he : P.underlying e = some (.int k)) (hc : P.cellsOf e = 1) (hval : Value.okWide P W r b0 t v) (h : DataW.Trod enc P W base sp hd t v d ps) : ∃ zs, IsInts W k v zs := by
  obtain ⟨a0, len, cap, rfl⟩ := okWide_slice ht hval
  obtain ⟨fuel, hf⟩ := h
  rcases open_ints ht he hc hf with ⟨hcs, _⟩ | ⟨a, len', cap', zs, hcs, _, hl, hm, hz, hx, hcell, hwz⟩
  · simp [Value.cells] at hcs
    obtain ⟨rfl, rfl, rfl⟩ := hcs
    exact ⟨[], none, 0, rfl, fun i h => absurd h (by simp), by simp, by simp⟩
  · simp [Value.cells] at hcs
    obtain ⟨rfl, rfl, rfl⟩ := hcs
    have hlz : len ≤ zs.length := by rw [hz]; split <;> omega
    refine ⟨zs.take len, some a, cap, by rw [List.length_take, Nat.min_eq_left hlz], fun i hi => ⟨a, rfl, ?_⟩, fun z hz => hwz z (List.mem_of_mem_take hz), by rw [List.length_take]; omega⟩
    have hi' : i < zs.length := by rw [List.length_take] at hi; omega
    rw [hcell i hi']
    simp [List.getD, List.getElem?_eq_getElem hi']
end Go.Sl
namespace Go.Sl
open Go.ChangeShapes Go.WideShapes Go.ChangeAt Go.RowKit Go.WideElems
/-- an array of integers, by value -/
theorem open_isArr {H : Type} {enc : TypeId × Value → H} {P : Program} {W : World} {base : Nat} {r : Reach} {b0 : Nat} {t e n : Nat} {k : IntKind} {v : Value} {d : DataW H} {ps : List MemPlace} {sp : Nat → Bool} {hd : Bool}
    (ht : P.underlying t = some (.array n e)) (he : P.underlying e = some (.int k)) (hc : P.cellsOf e = 1) (hct : P.cellsOf t = n) (hval : Value.okWide P W r b0 t v) (h : DataW.Trod enc P W base sp hd t v d ps) :
    ∃ zs : List Int, v = .agg (zs.map (Value.int k)).toArray ∧ zs.length = n ∧ ∀ z ∈ zs, (Lit.int k z).wf = true := by
  have hv : ∃ xs : Array Value, v = .agg xs := by
    simp only [Value.okWide, ht] at hval
    cases v <;> simp_all
  obtain ⟨xs, rfl⟩ := hv
  obtain ⟨fuel, hf⟩ := h
  obtain ⟨ys, m, _, _, hlen, hyl, hel⟩ := DataW.trod_array ht hf
  simp only [Value.cells] at hlen hel
  rw [hct] at hlen
  have hone : ∀ i (hi : i < n), ∃ z, xs.toList[i]? = some (.int k z) ∧ (Lit.int k z).wf = true := by
    intro i hi
    have h1 := hel i hi
    rw [List.getElem?_eq_getElem (by omega), hc, Nat.mul_one] at h1
    obtain ⟨z, hz, _, hw⟩ := DataW.trod_int he h1
    refine ⟨z, ?_, hw⟩
    have : (List.take 1 (List.drop i xs.toList))[0]? = some (.int k z) := by rw [hz]; rfl
    simpa using this
  refine ⟨xs.toList.map fun | .int _ z => z | _ => 0, ?_, by simpa using hlen, ?_⟩
  · congr 1
    apply Array.ext'
    simp only [List.toList_toArray, List.map_map]
    apply List.ext_getElem
    · simp
    · intro i h1 h2
      obtain ⟨z, hz, _⟩ := hone i (by omega)
      rw [List.getElem?_eq_getElem h1] at hz
      simp only [List.getElem_map, Function.comp]
      rw [Option.some.inj hz]
  · intro z hz
    obtain ⟨x, hx, rfl⟩ := List.mem_map.1 hz
    obtain ⟨i, hi, rfl⟩ := List.getElem_of_mem hx
    obtain ⟨z, hz, hw⟩ := hone i (by omega)
    rw [List.getElem?_eq_getElem hi] at hz
    rw [Option.some.inj hz]; exact hw
end Go.Sl
