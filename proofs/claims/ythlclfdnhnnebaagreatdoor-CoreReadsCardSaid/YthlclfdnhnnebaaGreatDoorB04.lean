/- Part of the proof; no statement of its own: SlMem2, SlNum, SlLaw. -/
import Derived.Test.YthlclfdnhnnebaaGreatDoorB03
import Derived.Laws.MakeOwn
import Derived.Laws.Tables
import Derived.Laws.IdiomStrings
import Derived.Test.YthlclfdnhnnebaaGreatDoorB01
import Derived.Laws.BitsLemmas
import Derived.ProofKit
import Derived.WalkKit
import Derived.OpenShut
import Derived.JoinedCond
import Derived.Carry
set_option linter.all false
section
namespace Go.Sl
open Go.BigFrame
def tyPlaces (P : Program) (t : TypeId) : Option (List (Nat × Nat) × Value) :=
  match P.info? t, P.underlying t with
  | some it, some (.struct fields) =>
    match it.zero, fields.toList.mapM (fun f => (P.info? f.type).map fun i => (f.offset, i.size)) with
    | some z, some places => some (places, z)
    | _, _ => none
  | _, _ => none
def fillL (place : Nat → Option (Nat × Nat)) : List Value → List (Nat × List Value) → Option (List Value)
  | cs, [] => some cs
  | cs, (i, vs) :: r => match place i with
    | some (off, size) => match Nat.beq vs.length size && Nat.ble (off + vs.length) cs.length with
      | true => fillL place (cs.take off ++ (vs ++ cs.drop (off + vs.length))) r
      | false => none
    | none => none
theorem zip_set (off : Nat) : ∀ (l : List Value) (k : Nat) (cs : Array Value), off + k + l.length ≤ cs.size →
    (l.zipIdx k).foldl (fun cs (c, j) => cs.setIfInBounds (off + j) c) cs = (cs.toList.take (off + k) ++ (l ++ cs.toList.drop (off + k + l.length))).toArray
  | [], k, cs, h => by simp
  | v :: l, k, cs, h => by
    simp only [List.length_cons] at h
    rw [List.zipIdx_cons, List.foldl_cons, zip_set off l (k + 1) _ (by simp; omega)]
    apply Array.ext'
    simp only [Array.toList_setIfInBounds, List.length_cons]
    apply List.ext_getElem?
    intro n
    simp only [List.getElem?_append, List.length_take, List.length_set, Array.length_toList, List.getElem?_take, List.getElem?_drop, List.getElem?_set, List.length_cons, List.getElem?_cons]
    rw [Nat.min_eq_left (by omega), Nat.min_eq_left (by omega)]
    by_cases h1 : n < off + k
    · simp [h1, show n < off + (k + 1) by omega, show ¬ off + k = n by omega]
    · by_cases h2 : n = off + k
      · subst h2; simp [show off + k < off + (k + 1) by omega, show off + k < cs.size by omega]
      · simp only [show ¬ n < off + (k + 1) by omega, h1, if_false]
        by_cases h3 : n - (off + (k + 1)) < l.length
        · simp only [h3, show n - (off + k) < l.length + 1 by omega, if_true]
          rw [if_neg (by omega)]
          congr 1
        · simp only [h3, show ¬ n - (off + k) < l.length + 1 by omega, if_false]
          rw [if_neg (by omega)]
          congr 1; omega
theorem fill_fillL {place : Nat → Option (Nat × Nat)} : ∀ (parts : List (Nat × Value)) (cs : Array Value) (out : List Value), fillL place cs.toList (parts.map fun (i, v) => (i, v.cells.toList)) = some out →
    Instr.fill place cs parts = some out.toArray
  | [], cs, out, h => by simp [fillL] at h; subst h; simp [Instr.fill]
  | (i, v) :: r, cs, out, h => by
    simp only [List.map_cons, fillL] at h
    split at h
    · rename_i off size hp
      split at h
      · rename_i hb
        simp only [Bool.and_eq_true, Nat.ble_eq, Array.length_toList] at hb
        have hb1 : v.cells.size = size := by have := Nat.eq_of_beq_eq_true hb.1; simpa using this
        have hb2 := hb.2
        have h2 := zip_set off v.cells.toList 0 cs (by simpa using hb.2)
        have h3 : v.cells.zipIdx.foldl (fun cs (c, j) => cs.setIfInBounds (off + j) c) cs = (cs.toList.take off ++ (v.cells.toList ++ cs.toList.drop (off + v.cells.toList.length))).toArray := by
          rw [← Array.foldl_toList, Array.toList_zipIdx]; simpa using h2
        have h4 := fill_fillL r ((cs.toList.take off ++ (v.cells.toList ++ cs.toList.drop (off + v.cells.toList.length))).toArray) out (by simpa using h)
        simp only [Instr.fill, hp, h3]
        rw [if_neg (by simp only [Bool.or_eq_true, decide_eq_true_eq]; intro h5; cases h5 with | inl h6 => exact h6 hb1 | inr h6 => exact absurd hb2 (Nat.not_le.2 h6))]
        exact h4
      · cases h
    · cases h
section
variable {c : Cx} {ops : Array Oper} {Q : Exit → Act → World → Prop} {rest : List Oper} {env : List (Nat × Value)} {L M : List Asrt}
  {d : Tmp} {ty : TypeId} {pos : String} {af : Array Edge} {gd : Option (Nat × Bool)}
def evParts (env : List (Nat × Value)) : List (Nat × Operand) → Option (List (Nat × Value))
  | [] => some []
  | (i, x) :: r => match evo env x with
    | some v => match evParts env r with
      | some ps => some ((i, v) :: ps)
      | none => none
    | none => none
theorem evParts_run {a : Act} {w : World} (hh : Holds c env L a w) : ∀ (ps : List (Nat × Operand)) (vs : List (Nat × Value)), evParts env ps = some vs → (ps.map fun (i, x) => (i, a.eval x)) = vs
  | [], vs, h => by simp [evParts] at h; subst h; rfl
  | (i, x) :: r, vs, h => by
    simp only [evParts] at h
    split at h
    · rename_i v hv
      split at h
      · rename_i ps hps
        simp only [Option.some.injEq] at h; subst h
        simp [hh.eval hv, evParts_run hh r ps hps]
      · cases h
    · cases h
theorem y_build {t : TypeId} {parts : List (Nat × Operand)} {pl : List (Nat × Nat)} {z : Value} {ps : List (Nat × Value)} {cs : List Value} (hp : tyPlaces c.P t = some (pl, z)) (hv : evParts env parts = some ps)
    (hf : fillL (nth pl) z.cells.toList (ps.map fun (i, v) => (i, v.cells.toList)) = some cs) : Yields c ⟨some d, .build t parts.toArray, ty, pos, af, gd⟩ env L (.agg cs.toArray) := by
  intro a w hh
  have h1 : (parts.toArray.map fun (i, x) => (i, a.eval x)).toList = ps := by simpa using evParts_run hh parts ps hv
  have hb : c.P.built t (parts.toArray.map fun (i, x) => (i, a.eval x)).toList = some cs.toArray := by
    rw [h1]
    unfold tyPlaces at hp
    unfold Program.built
    split at hp
    · rename_i it fields e1 e2
      split at hp
      · rename_i z' places e3 e4
        simp only [Option.some.injEq, Prod.mk.injEq] at hp
        obtain ⟨rfl, rfl⟩ := hp
        simp only [e1, e2, e3, e4]
        have hpl : (fun i => places.toArray[i]?) = nth places := by funext i; simp [nth_eq]
        rw [hpl]
        exact fill_fillL ps z'.cells cs hf
      · cases hp
    · cases hp
  unfold execOp
  simp only [Sem.run_bind, run_build w t _ _ hb, Result.andThen_ok, Sem.run_pure]
def madeL (z : List Value) (n : Nat) : List Value := (List.replicate n z).flatten
theorem madeCells_one (v : Value) (n : Nat) : madeCells #[v] n = (List.replicate n v).toArray := by
  apply Array.ext
  · simp [madeCells]
  · intro i h1 h2; simp [madeCells, Nat.mod_one]
theorem ow_makeSlice1 {x y : Operand} {t e : TypeId} {z v : Value} {k1 k2 : IntKind} {n bytes : Nat} {i j : Int} (ht : tySlice c.P t e 1 = true) (hby : tyBytes c.P e bytes = true) (hz : (match c.P.info? e with | some i => i.zero | none => none) = some z) (hz1 : z.cells = #[v])
    (hx : evo env x = some (.int k1 i)) (hy : evo env y = some (.int k2 j)) (hi : i = (n : Int)) (hj : j = (n : Int)) (hb : bytes * n ≤ 281474976710656) (hn : n ≤ 9223372036854775807)
    (h : ∀ b, OW c ops Q rest ((d, .slice (some ⟨b, 0, none⟩) n n) :: env) (pts b (.cells (List.replicate n v).toArray e (0, 0)) :: L)) (hd : Nat.blt d c.n = true := by rfl) : OW c ops Q (⟨some d, .makeSlice t x y, ty, pos, af, none⟩ :: rest) env L := by
  subst hi; subst hj
  refine ow_new (v := fun b => .slice (some ⟨b, 0, none⟩) n n) (fun a w hh => ?_) h hd
  simp only [tySlice, Bool.and_eq_true] at ht
  obtain ⟨ht1, ht2⟩ := ht
  split at ht1
  case h_2 => cases ht1
  rename_i e' hu
  simp only [beq_iff_eq] at ht1; subst ht1
  unfold tyBytes at hby
  split at ht2
  case h_2 => cases ht2
  rename_i ii hi
  rw [hi] at hby hz
  simp only [beq_iff_eq] at ht2 hby
  have hb' : ((ii.bytes : Int)) * (n : Int) ≤ 281474976710656 := by rw [hby, ← Int.natCast_mul]; exact Int.ofNat_le.2 hb
  have hr := run_make (P := c.P) w t e' ii z hu hi hz k1 k2 n n (Int.natCast_nonneg n) (Int.le_refl _) hb' (by omega)
  unfold execOp
  simp only [hh.eval hx, hh.eval hy, Sem.run_bind, hr, Result.andThen_ok, Sem.run_pure, Int.toNat_natCast, ht2, hz1, Nat.mul_one, madeCells_one]
theorem madeCells_list (z : Array Value) (n : Nat) : (madeCells z (n * z.size)).toList = madeL z.toList n := by
  induction n with
  | zero => simp [madeCells, madeL]
  | succ n ih =>
    have e : madeL z.toList (n + 1) = madeL z.toList n ++ z.toList := by
      simp only [madeL, List.replicate_succ', List.flatten_append, List.flatten_cons, List.flatten_nil, List.append_nil]
    rw [e, ← ih]
    apply List.ext_getElem
    · simp [madeCells, Nat.add_mul]
    · intro i h1 h2
      simp only [madeCells, Array.getElem_toList, Array.getElem_map, Array.getElem_range, List.getElem_append, Array.length_toList, Array.size_map, Array.size_range]
      split
      · rfl
      · rename_i hlt
        simp [madeCells, Nat.add_mul] at h1
        have h3 : i % z.size = i - n * z.size := by
          rw [show i = (i - n * z.size) + n * z.size by omega, Nat.add_mul_mod_self_right, Nat.mod_eq_of_lt (by omega)]; omega
        rw [h3]
        simp [show i - n * z.size < z.size by omega]
theorem run_buildSlice_al {t e size len : Nat} {parts : List (Nat × Operand)} {z : Value} {ps : List (Nat × Value)} {cs : List Value} (ht : tySlice c.P t e size = true)
    (hz : (match c.P.info? e with | some i => i.zero | none => none) = some z) (hzs : z.cells.size = size) (hlen : Nat.ble (len * size) 16777216 = true) (hv : evParts env parts = some ps)
    (hf : fillL (fun i => some (i * size, size)) (madeL z.cells.toList len) (ps.map fun (i, v) => (i, v.cells.toList)) = some cs) (a : Act) (w : World) (hh : Holds c env L a w) :
    (execOp a.eval ⟨some d, .buildSlice t len parts.toArray, ty, pos, af, gd⟩).run c.P w = .ok (.value (.slice (some ⟨w.heap.size, 0, none⟩) len len)) (w.alloc (.cells cs.toArray e (0, 0))) := by
  simp only [tySlice, Bool.and_eq_true] at ht
  obtain ⟨ht1, ht2⟩ := ht
  split at ht1
  case h_2 => cases ht1
  rename_i e' hu
  simp only [beq_iff_eq] at ht1; subst ht1
  split at ht2
  case h_2 => cases ht2
  rename_i ii hi
  rw [hi] at hz
  simp only [beq_iff_eq] at ht2
  have hle : ¬ len * ii.size > 16777216 := by rw [ht2]; have := Nat.le_of_ble_eq_true hlen; omega
  have h1 : List.map (fun x => (x.1, a.eval x.2)) parts = ps := evParts_run hh parts ps hv
  have h2 : Instr.fill (fun i => some (i * size, size)) (madeCells z.cells (len * size)) ps = some cs.toArray := by
    have := madeCells_list z.cells len
    rw [hzs] at this
    exact fill_fillL ps _ cs (by rw [this]; exact hf)
  unfold execOp
  by_cases h0 : len * ii.size = 0
  · have h3 : Instr.fill (fun i => some (i * size, size)) #[] ps = some cs.toArray := by
      have e0 : madeCells z.cells (len * size) = #[] := by rw [← ht2, h0]; simp [madeCells]
      rw [← e0]; exact h2
    simp [Instr.buildSlice, run_underlying hu, sizeOf, typeInfo, hi, ht2, h1, newRow, ht2 ▸ hle, ht2 ▸ h0, Array.range_zero', h3]
  · have e2 : ((Array.range (len * size)).map (z.cells[· % z.cells.size]!)) = madeCells z.cells (len * size) := rfl
    simp [Instr.buildSlice, run_underlying hu, sizeOf, typeInfo, hi, ht2, h1, newRow, ht2 ▸ hle, ht2 ▸ h0, zeroValue, hz]
    rw [e2, h2]
    simp
theorem ow_buildSlice {t e size len : Nat} {parts : List (Nat × Operand)} {z : Value} {ps : List (Nat × Value)} {cs : List Value} (ht : tySlice c.P t e size = true)
    (hz : (match c.P.info? e with | some i => i.zero | none => none) = some z) (hzs : z.cells.size = size) (hlen : Nat.ble (len * size) 16777216 = true) (hv : evParts env parts = some ps)
    (hf : fillL (fun i => some (i * size, size)) (madeL z.cells.toList len) (ps.map fun (i, v) => (i, v.cells.toList)) = some cs)
    (h : ∀ b, OW c ops Q rest ((d, .slice (some ⟨b, 0, none⟩) len len) :: env) (pts b (.cells cs.toArray e (0, 0)) :: L)) (hd : Nat.blt d c.n = true := by rfl) : OW c ops Q (⟨some d, .buildSlice t len parts.toArray, ty, pos, af, none⟩ :: rest) env L :=
  ow_new (v := fun b => .slice (some ⟨b, 0, none⟩) len len) (fun a w hh => run_buildSlice_al ht hz hzs hlen hv hf a w hh) h hd
section
variable {Js : List Pend} {plan : PlanF} {K : List Asrt} {e0 : List (Nat × Value)} {j : Nat}
theorem omf_fbuildSlice {t e size len : Nat} {parts : List (Nat × Operand)} {z : Value} {ps : List (Nat × Value)} {cs : List Value} (hi : ops[j]? = some ⟨some d, .buildSlice t len parts.toArray, ty, pos, af, gd⟩) (he : Sub env e0) (hw : ∀ a w, Holds c e0 [] a w → Region.wanted ⟨some d, .buildSlice t len parts.toArray, ty, pos, af, gd⟩ (yielded ops a.tmps) = true)
    (ht : tySlice c.P t e size = true) (hz : (match c.P.info? e with | some i => i.zero | none => none) = some z) (hzs : z.cells.size = size) (hlen : Nat.ble (len * size) 16777216 = true) (hv : evParts e0 parts = some ps)
    (hf : fillL (fun i => some (i * size, size)) (madeL z.cells.toList len) (ps.map fun (i, v) => (i, v.cells.toList)) = some cs)
    (hfr : ((look env d).isNone && ((Js.all fun q => !Nat.beq q.d d && (look q.e0 d).isNone && (look e0 q.d).isNone) && (look e0 d).isNone)) = true)
    (h : OMf c ops Q K (⟨j, d, fun b => .slice (some ⟨b, 0, none⟩) len len, .cells cs.toArray e (0, 0), e0⟩ :: Js) plan env L) (hd : Nat.blt d c.n = true := by rfl) : OMf c ops Q K Js (.float j plan) env L :=
  omf_float (p := ⟨j, d, fun b => .slice (some ⟨b, 0, none⟩) len len, .cells cs.toArray e (0, 0), e0⟩) ⟨_, hi, rfl, hd, fun a w hh => ⟨hw a w hh, run_buildSlice_al ht hz hzs hlen hv hf a w hh⟩⟩ he hfr h
end
theorem y_len_row {t e' size' : Nat} {x : Operand} {v : Value} {e size n : Nat} {xs : List Value} (ht : tySlice c.P t e' size' = true) (hx : evo env x = some v) (hL : Fnd L (rowA e size v n xs) M) :
    Yields c ⟨some d, .call { callee := .builtin .len, args := #[x], argTypes := #[t] }, ty, pos, af, gd⟩ env L (.int .i64 n) := by
  intro a w hh
  obtain ⟨_, hcase⟩ := rowA_cases (hL.sat hh.sat)
  rcases hcase with ⟨rfl, rfl, _⟩ | ⟨g, cap, cur, rfl, _⟩
  · exact y_len_slice ht hx a w hh
  · exact y_len_slice ht hx a w hh
theorem src_blk {tx e' s' size b o n cap : Nat} {news cs : List Value} {e : TypeId} {fr : Nat × Nat} {M : List Asrt} (hk : tySlice c.P tx e' s' = true) [hL : FndB L b (.cells cs.toArray e fr) M]
    (hn : (cs.drop o).take (n * size) = news) (hl : news.length = n * size) (h1 : ∀ u ∈ news, u.oneCell' = true) : ∀ a w, Holds c env L a w → Src c.P size tx (.slice (some ⟨b, o, none⟩) n cap) n news w := by
  intro a w hh
  simp only [tySlice, Bool.and_eq_true] at hk
  obtain ⟨hk1, _⟩ := hk
  split at hk1
  case h_2 => cases hk1
  rename_i e2 hu
  refine Src.ofSlice w hu _ _ _ _ hl (fun j u hj => ?_) h1
  have hb := (hL.sat hh.sat).pts
  have hj' : j < n * size := by rw [← hl]; exact (List.getElem?_eq_some_iff.1 hj).1
  rw [← hn, List.getElem?_take_of_lt hj', List.getElem?_drop] at hj
  simp [World.cell?, addr_add, hb, hj]
theorem src_str {tx : Nat} {s : ByteArray} (hk : tyString c.P tx = true) : ∀ a w, Holds c env L a w → Src c.P 1 tx (.string s) s.size (byteCells s) w := by
  intro a w _
  unfold tyString at hk
  split at hk
  · rename_i hu; exact Src.ofString w hu s
  · cases hk
def byteV (b : UInt8) : Value := .int .u8 b.toNat
def bytesL (s : ByteArray) (cap : Nat) : List Value := s.data.toList.map byteV ++ List.replicate (cap - s.size) (.int .u8 0)
theorem bytesRow_list (s : ByteArray) (cap : Nat) : bytesRow s cap = (bytesL s cap).toArray := by
  apply Array.ext'; simp [bytesRow, bytesL, byteV]
def tyBy (P : Program) (e : TypeId) : Bool := match P.underlying e with | some (.int .u8) => true | _ => false
theorem ow_bytes {x : Operand} {src dst e : TypeId} {s : ByteArray} (hs : tyString c.P src = true) (hd' : tySlice c.P dst e 1 = true) (he : tyBy c.P e = true) (hx : evo env x = some (.string s))
    (hsz : s.size ≤ maxLen) (h : ∀ b cap, s.size ≤ cap → cap ≤ maxLen → OW c ops Q rest ((d, .slice (some ⟨b, 0, none⟩) s.size cap) :: env) (pts b (.cells (bytesL s cap).toArray e (cap, cap + 1)) :: L)) (hd : Nat.blt d c.n = true := by rfl) :
    OW c ops Q (⟨some d, .convert src dst x, ty, pos, af, none⟩ :: rest) env L := by
  intro a w hh
  have e1 : c.P.underlying src = some .string := by
    unfold tyString at hs; split at hs <;> simp_all
  have e2 : c.P.underlying dst = some (.slice e) := by
    unfold tySlice at hd'; simp only [Bool.and_eq_true] at hd'; obtain ⟨h1, _⟩ := hd'; split at h1 <;> simp_all
  have e3 : c.P.underlying e = some (.int .u8) := by
    unfold tyBy at he; split at he <;> simp_all
  refine wpList_plain rfl fun K hK => ?_
  unfold Oper.wp
  have hr := run_bytes_of_string (P := c.P) w src dst e s e1 e2 e3
  have hcap : s.size ≤ grownCap w s.size 0 e := grownCap_ge w s.size 0 e
  have hlen : (bytesRow s (grownCap w s.size 0 e)).size = grownCap w s.size 0 e := by
    rw [bytesRow_list]; simp [bytesL]; have : s.data.size = s.size := rfl; omega
  rw [hlen, bytesRow_list] at hr
  unfold execOp
  simp only [hh.eval hx, Sem.run_bind, hr, Result.andThen_ok, Sem.run_pure, Oper.upon]
  have hh' : Holds c env (pts w.heap.size (.cells (bytesL s (grownCap w s.size 0 e)).toArray e (grownCap w s.size 0 e, grownCap w s.size 0 e + 1)) :: L) a (w.drew.alloc (.cells (bytesL s (grownCap w s.size 0 e)).toArray e (grownCap w s.size 0 e, grownCap w s.size 0 e + 1))) :=
    ⟨hh.size, hh.slots, hh.defers, (hh.sat.drew).alloc _, (hh.like.drew).alloc _⟩
  exact hK _ _ (h w.heap.size _ hcap (grownCap_le_maxLen w s.size 0 e hsz) _ _ (hh'.put d _ hd))
theorem y_text {x : Operand} {src dst e : TypeId} {b o n cap : Nat} {cs : List Value} {e' : TypeId} {fr : Nat × Nat} {l : List UInt8} {Mo : List Asrt} (hs : tySlice c.P src e 1 = true) (hd' : tyString c.P dst = true) (he : tyBy c.P e = true)
    (hx : evo env x = some (.slice (some ⟨b, o, none⟩) n cap)) [hL : FndB L b (.cells cs.toArray e' fr) Mo] (hn : l.length = n) (hc : (cs.drop o).take n = l.map byteV) :
    Yields c ⟨some d, .convert src dst x, ty, pos, af, gd⟩ env L (.string ⟨l.toArray⟩) := by
  intro a w hh
  have e1 : c.P.underlying dst = some .string := by
    unfold tyString at hd'; split at hd' <;> simp_all
  have e2 : c.P.underlying src = some (.slice e) := by
    unfold tySlice at hs; simp only [Bool.and_eq_true] at hs; obtain ⟨h1, _⟩ := hs; split at h1 <;> simp_all
  have e3 : c.P.underlying e = some (.int .u8) := by
    unfold tyBy at he; split at he <;> simp_all
  have hblk := (hL.sat hh.sat).pts
  subst hn
  have hr := run_convert_bytes_back (P := c.P) w src dst e ⟨b, o, none⟩ cap l e2 e3 e1 (fun j hj => by
    have : ((cs.drop o).take l.length)[j]? = some (byteV l[j]) := by rw [hc]; simp [hj]
    rw [List.getElem?_take_of_lt hj, List.getElem?_drop] at this
    simp [World.cell?, addr_add, hblk, this, byteV])
  unfold execOp
  simp only [hh.eval hx, Sem.run_bind, hr, Result.andThen_ok, Sem.run_pure]
theorem y_textRow {x : Operand} {src dst e n : Nat} {v : Value} {l : List UInt8} {M : List Asrt} (hs : tySlice c.P src e 1 = true) (hd' : tyString c.P dst = true) (he : tyBy c.P e = true)
    (hx : evo env x = some v) (hL : Fnd L (rowA e 1 v n (l.map byteV)) M) : Yields c ⟨some d, .convert src dst x, ty, pos, af, gd⟩ env L (.string ⟨l.toArray⟩) := by
  intro a w hh
  have e1 : c.P.underlying dst = some .string := by
    unfold tyString at hd'; split at hd' <;> simp_all
  have e2 : c.P.underlying src = some (.slice e) := by
    unfold tySlice at hs; simp only [Bool.and_eq_true] at hs; obtain ⟨h1, _⟩ := hs; split at h1 <;> simp_all
  have e3 : c.P.underlying e = some (.int .u8) := by
    unfold tyBy at he; split at he <;> simp_all
  obtain ⟨hl, hc⟩ := rowA_cases (hL.sat hh.sat)
  simp only [List.length_map, Nat.mul_one] at hl
  rcases hc with ⟨rfl, rfl, _⟩ | ⟨g, cap, cur, rfl, h1, h2, h3, h4, h5⟩
  · have hl0 : l = [] := List.eq_nil_of_length_eq_zero hl
    subst hl0
    have hr := run_convert_bytes_string (P := c.P) w src dst e none 0 0 e2 e3 e1
    unfold execOp
    simp only [hh.eval hx, Sem.run_bind, hr, Conv.bytesToString, Sem.run_pure, Result.andThen_ok]
    rfl
  · subst hl
    have hblk := h5.pts
    have hr := run_convert_bytes_back (P := c.P) w src dst e ⟨g, 0, none⟩ cap l e2 e3 e1 (fun j hj => by
      have : (cur.take (l.length * 1))[j]? = some (byteV l[j]) := by rw [h4]; simp [hj]
      rw [List.getElem?_take_of_lt (by omega)] at this
      simp [World.cell?, addr_add, hblk, this, byteV])
    unfold execOp
    simp only [hh.eval hx, Sem.run_bind, hr, Result.andThen_ok, Sem.run_pure]
variable {y : Code}
theorem cw_said {L' : List Asrt} (hs : ∀ w, Sat w L → Sat w L') (h : CW c y Q env L') : CW c y Q env L := fun a w hh => h a w ⟨hh.size, hh.slots, hh.defers, hs w hh.sat, hh.like⟩
theorem kw_said {e : Exit} {L' : List Asrt} (hs : ∀ w, Sat w L → Sat w L') (h : KW c Q e env L') : KW c Q e env L := fun a w hh => h a w ⟨hh.size, hh.slots, hh.defers, hs w hh.sat, hh.like⟩
theorem ow_said {L' : List Asrt} (hs : ∀ w, Sat w L → Sat w L') (h : OW c ops Q rest env L') : OW c ops Q rest env L := fun a w hh => h a w ⟨hh.size, hh.slots, hh.defers, hs w hh.sat, hh.like⟩
theorem sat_row_nil (e : TypeId) (size : Nat) {L : List Asrt} (w : World) (h : Sat w L) : Sat w (rowA e size (.slice none 0 0) 0 [] :: L) := rowA_nil e size h
end
theorem bytes_at (s : ByteArray) (cap i : Nat) (h : i < s.size) (k : Nat) (hk : k = i) : nth (bytesL s cap) k = some (byteV (s.data.toList[i]'(by simpa using h))) := by
  subst hk
  have hl : k < (s.data.toList.map byteV).length := by simpa using h
  rw [nth_eq, bytesL, List.getElem?_append_left hl, List.getElem?_eq_getElem hl, List.getElem_map]
end Go.Sl
end
section
namespace Go.Sl
theorem emod_toNat (x : Int) (p q : Nat) (hp : 0 < p) (hq : 0 < q) (hd : p ∣ q) : (x % (q : Int)).toNat % p = (x % (p : Int)).toNat := by
  have h1 : ((x % (q : Int)).toNat : Int) = x % (q : Int) := Int.toNat_of_nonneg (Int.emod_nonneg _ (by omega))
  have h0 : ((x % (p : Int)).toNat : Int) = x % (p : Int) := Int.toNat_of_nonneg (Int.emod_nonneg _ (by omega))
  have h2 : (((x % (q : Int)).toNat % p : Nat) : Int) = x % (p : Int) := by
    rw [Int.natCast_emod, h1]
    exact Int.emod_emod_of_dvd _ (Int.natCast_dvd_natCast.2 hd)
  omega
theorem wrap_sm (k : IntKind) (n : Int) (h0 : 0 ≤ n) (h1 : n < ((2 ^ (k.bits - 1) : Nat) : Int)) : k.wrap n = n := by
  have hlt : ((2 ^ (k.bits - 1) : Nat) : Int) ≤ ((2 ^ k.bits : Nat) : Int) := Int.ofNat_le.2 (Nat.pow_le_pow_right (by decide) (Nat.sub_le _ _))
  have e1 : ((2 ^ (k.bits - 1) : Nat) : Int) = (2 : Int) ^ (k.bits - 1) := by rw [Int.natCast_pow]; rfl
  have e2 : ((2 ^ k.bits : Nat) : Int) = (2 : Int) ^ k.bits := by rw [Int.natCast_pow]; rfl
  rw [e1] at h1 hlt
  rw [e2] at hlt
  have hq : n % (2 : Int) ^ k.bits = n := Int.emod_eq_of_lt h0 (Int.lt_of_lt_of_le h1 hlt)
  unfold IntKind.wrap
  simp only [hq]
  rw [if_neg]
  simp only [Bool.and_eq_true, decide_eq_true_eq]
  rintro ⟨_, hge⟩
  exact absurd h1 (Int.not_lt.2 hge)
theorem and_mask (k : IntKind) (i : Nat) (hi : i ≤ 7 ∨ (i ≤ 31 ∧ 32 ≤ k.bits)) (m : Nat) (hm : m = 2 ^ i - 1) (x : Int) : bits .and k x m = x % ((2 ^ i : Nat) : Int) := by
  have hkb : i < k.bits ∧ (k.signed = true → i < k.bits) := by
    have : 8 ≤ k.bits := by cases k <;> decide
    omega
  have hpos : 0 < 2 ^ i := Nat.two_pow_pos i
  have hlt : 2 ^ i - 1 < 2 ^ k.bits := Nat.lt_of_lt_of_le (Nat.sub_lt hpos (by decide)) (Nat.pow_le_pow_right (by decide) (Nat.le_of_lt hkb.1))
  have hx : (BitVec.ofInt k.bits x).toNat % 2 ^ i = (x % ((2 ^ i : Nat) : Int)).toNat := by
    rw [BitVec.toNat_ofInt]
    exact emod_toNat x _ _ hpos (Nat.two_pow_pos _) (Nat.pow_dvd_pow 2 (Nat.le_of_lt hkb.1))
  have hr0 : 0 ≤ x % ((2 ^ i : Nat) : Int) := Int.emod_nonneg _ (by omega)
  have hr1 : x % ((2 ^ i : Nat) : Int) < ((2 ^ i : Nat) : Int) := Int.emod_lt_of_pos _ (by omega)
  subst hm
  simp only [bits, BitVec.ofInt_natCast, BitVec.toNat_and, BitVec.toNat_ofNat, Nat.mod_eq_of_lt hlt, Nat.and_two_pow_sub_one_eq_mod, hx]
  rw [Int.toNat_of_nonneg hr0]
  generalize x % ((2 ^ i : Nat) : Int) = r at hr0 hr1
  refine wrap_sm k r hr0 (Int.lt_of_lt_of_le hr1 ?_)
  have h1 : 2 ^ i ≤ 2 ^ (k.bits - 1) := Nat.pow_le_pow_right (by decide) (by have : 8 ≤ k.bits := by cases k <;> decide
                                                                             omega)
  exact Int.ofNat_le.2 h1
theorem or_u64 (a b : Nat) (ha : a * 256 < 18446744073709551616) (hb : b < 256) : bits .or .u64 ((a * 256 : Nat) : Int) (b : Int) = ((a * 256 + b : Nat) : Int) := by
  have e1 : (a * 256) % 2 ^ IntKind.u64.bits = a * 256 := Nat.mod_eq_of_lt (by simp only [IntKind.bits]; omega)
  have e2 : b % 2 ^ IntKind.u64.bits = b := Nat.mod_eq_of_lt (by simp only [IntKind.bits]; omega)
  have e3 : a * 256 ||| b = a * 256 + b := by
    have := Nat.two_pow_add_eq_or_of_lt (i := 8) (b := b) (by simpa using hb) a
    rw [Nat.mul_comm a 256]; exact this.symm
  simp only [bits, BitVec.ofInt_natCast, BitVec.toNat_or, BitVec.toNat_ofNat, e1, e2, e3]
  simp only [IntKind.wrap, IntKind.bits, IntKind.signed, Bool.false_and, Bool.false_eq_true, if_false]
  exact Int.emod_eq_of_lt (Int.natCast_nonneg _) (by omega)
theorem and_255 (k : IntKind) (h : 32 ≤ k.bits) (x : Int) : bits .and k x 255 = x % 256 := and_mask k 8 (.inr ⟨by decide, h⟩) 255 (by decide) x
theorem and_31 (k : IntKind) (x : Int) : bits .and k x 31 = x % 32 := and_mask k 5 (.inl (by decide)) 31 (by decide) x
theorem and_3 (k : IntKind) (x : Int) : bits .and k x 3 = x % 4 := and_mask k 2 (.inl (by decide)) 3 (by decide) x
end Go.Sl
end
section
namespace Go.Sl
open Go.ChangeShapes Go.WideShapes Go.ChangeAt Go.RowKit Go.WideElems
open Go.ChangeMaps (open_string shut_string)
theorem law_calls {P : Program} {f : FuncId} {args : Array Value} {W : World} {v : Value} (h : Does P f args [whole W] (Gives v [whole W])) : Calls P f args W fun e W' => e = .returned v ∧ Below W.heap.size W W' := by
  have hs : Sat W ([whole W] ++ [fact True]) := ((sat_fact (p := True) (L := [whole W])).2 ⟨trivial, sat_whole W⟩).perm (List.Perm.swap _ _ _)
  refine (h W _ hs).mono ?_
  rintro e W' ⟨L', ⟨rfl, rfl⟩, hsat, hl⟩
  have hb : ∀ k, k < W.heap.size → W'.heap[k]? = W.heap[k]? := fun k hk => hsat.whole_block k hk
  refine ⟨rfl, hl.os, hl.tape, hl.output, ?_, hb⟩
  rcases Nat.eq_zero_or_pos W.heap.size with h0 | h0
  · omega
  · have h1 := hb (W.heap.size - 1) (by omega)
    rw [Array.getElem?_eq_getElem (xs := W.heap) (i := W.heap.size - 1) (by omega)] at h1
    have := (Array.getElem?_eq_some_iff.1 h1).1
    omega
theorem trodAll_below {H : Type} {enc : TypeId × Value → H} {P : Program} (hl : laidOutB P = true) {W W' : World} (hb : Below W.heap.size W W') :
    ∀ {ts : List TypeId} {vs : List Value} {ds : List (DataW H)} {ps : List MemPlace}, (ts.all fun t => P.readableRec t && decide (t < P.types.size)) = true → (∀ p ∈ ps, p.block < W.heap.size) →
      DataW.TrodAll enc P W 0 (fun _ => true) true ts vs ds ps → DataW.TrodAll enc P W' 0 (fun b => decide (b < W.heap.size)) true ts vs ds ps
  | [], vs, ds, ps, _, _, h => by obtain ⟨rfl, rfl, rfl⟩ := trodAll_nil h; exact trodAll_mk0
  | t :: ts, vs, ds, ps, ht, hp, h => by
    obtain ⟨v, vs', d, ds', p, q, rfl, rfl, rfl, h1, h2⟩ := trodAll_cons h
    simp only [List.all_cons, Bool.and_eq_true, decide_eq_true_eq] at ht
    exact trodAll_cons_mk (Below.trod hl ht.1.1 ht.1.2 h1 hb (fun x hx => hp x (by simp [hx]))) (trodAll_below hl hb (by simpa using ht.2) (fun x hx => hp x (by simp [hx])) h2)
theorem law_post {H : Type} {enc : TypeId × Value → H} {P : Program} {f : Func} {s : ChangeSpec} {W W' : World} {args : Array Value} {ds gs : List (DataW H)} {before : List MemPlace} {tb : TypeId}
    (hW : DataW.Whole enc P f.params.toList s.vars false W args.toList ds gs before) (hv : s.vars = []) (hb : Below W.heap.size W W') (hl : laidOutB P = true)
    (hp : (f.params.toList.all fun t => P.readableRec t && decide (t < P.types.size)) = true) (hr : f.resultTypes = #[tb]) (hub : P.underlying tb = some .bool)
    (hfn : (s.fn H ds) = { results := [.lit (.bool true)], args := ds }) : s.post enc P f false true false false W args (.bool true) W' := by
  have hW' := hW
  obtain ⟨p, q, hA, hV, rfl, hfz, hnd⟩ := hW
  have hlt : ∀ x ∈ p ++ q, x.block < W.heap.size := fun x hx => by simpa using hW'.lt x hx
  rw [hv] at hV
  obtain ⟨rfl, rfl⟩ := trodVars_none hV
  refine ⟨ds, [], _, [], p, [], hW', ?_, ?_, ?_, hb.frame _, fun h => by cases h⟩
  · rw [hr]
    simp only [List.append_nil, hfn]
    exact trodAll_mk1 (shut_bool hub true)
  · simp only [List.append_nil, hfn]
    exact trodAll_below hl hb hp (fun x hx => hlt x (by simp [hx])) hA
  · simp only [List.append_nil, hfn, hv]
    exact rfl
theorem Does.imp {P : Program} {f : FuncId} {args : Array Value} {Pre : List Asrt} {Post Post' : Ending → List Asrt → Prop} (h : Does P f args Pre Post) (hi : ∀ e L, Post e L → Post' e L) : Does P f args Pre Post' := by
  intro w F hs
  refine (h w F hs).mono ?_
  rintro e w' ⟨L', h1, h2, h3⟩
  exact ⟨L', hi e L' h1, h2, h3⟩
theorem Does.weak {P : Program} {f : FuncId} {args : Array Value} {Pre : List Asrt} {v : Value} {N : List Asrt} (h : Does P f args Pre (Gives v N)) : Does P f args Pre (Gives v []) := by
  intro w F hs
  refine (h w F hs).mono ?_
  rintro e w' ⟨L', ⟨rfl, rfl⟩, h2, h3⟩
  exact ⟨[], ⟨rfl, rfl⟩, h2.drop, h3⟩
section
variable {c : Cx} {env : List (Nat × Value)} {L M : List Asrt} {d : Option Tmp} {ty : TypeId} {pos : String} {af : Array Edge} {g : Option (Nat × Bool)}
theorem y_loadP {x : Operand} {t : TypeId} {A : Asrt} {p : Addr} {v : Value} (ht : tyScalar c.P t = true) (hx : evo env x = some (.pointer (some p))) (hL : Fnd L A M) (hc : ∀ (w : World) L', Sat w (A :: L') → w.cell? p = some v) :
    Yields c ⟨d, .load t x, ty, pos, af, g⟩ env L v := by
  intro a w h
  have hw := hc w M (hL.sat h.sat)
  have e : (loadVar t p).run c.P w = .ok v w := by
    simp [loadVar, Sem.run_bind, run_isAgg_scalar ht, Result.andThen_ok, run_load, hw]
  simp [execOp, h.eval hx, Instr.loadAt, Instr.sureAddr, e]
theorem y_ixsA {t e n : TypeId} {x y : Operand} {q : Addr} {l cap : Nat} {k : IntKind} {i : Int} (ht : tySlice c.P t e n = true) (hx : evo env x = some (.slice (some q) l cap)) (hy : evo env y = some (.int k i)) (hi : 0 ≤ i ∧ i < l) :
    Yields c ⟨d, .indexAddr t x y, ty, pos, af, g⟩ env L (.pointer (some (q.add (i.toNat * n)))) := by
  intro a w h
  simp only [tySlice, Bool.and_eq_true] at ht
  obtain ⟨h1, h2⟩ := ht
  split at h1
  · rename_i z hu
    simp at h1; subst h1
    split at h2
    · rename_i info hinfo
      simp at h2; subst h2
      simp [execOp, h.eval hx, h.eval hy, Instr.indexAt, run_underlying hu, asIntOf, hi.1, hi.2, sizeOf, typeInfo, hinfo]
    · cases h2
  · cases h1
end
end Go.Sl
namespace Go.Sl
open Go.ChangeShapes Go.WideShapes Go.ChangeAt Go.RowKit Go.WideElems
end Go.Sl
end
