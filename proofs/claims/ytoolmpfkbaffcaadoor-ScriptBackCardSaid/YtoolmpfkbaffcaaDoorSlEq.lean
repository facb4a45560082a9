/- Structs compared: of numbers, texts and bools. -/
import Derived.Test.YtoolmpfkbaffcaaDoorSlDefer
import Derived.Laws.StructEq
set_option linter.all false
namespace Go.Sl
def kindsOf (P : Program) : List Field → Nat → Option (List Nat)
  | [], _ => some []
  | f :: fs, i => if f.name ≠ "_" ∧ f.offset = i then
      match P.underlying f.type with
      | some (.int _) => (kindsOf P fs (i + 1)).map (0 :: ·)
      | some .string => (kindsOf P fs (i + 1)).map (1 :: ·)
      | some .bool => (kindsOf P fs (i + 1)).map (2 :: ·)
      | _ => none
    else none
def tyKinds (P : Program) (t : TypeId) : Option (List Nat) :=
  match P.underlying t with
  | some (.struct fs) => if !P.stoodInHeld t && !P.eqGuardType P.depth t then kindsOf P fs.toList 0 else none
  | _ => none
def eqK : List Nat → List Value → List Value → Option Bool
  | [], _, _ => some true
  | 0 :: ks, .int j a :: xs, .int k b :: ys => if j = k then (match a == b with | true => eqK ks xs ys | false => some false) else none
  | 1 :: ks, .string a :: xs, .string b :: ys => match a.toList == b.toList with | true => eqK ks xs ys | false => some false
  | 2 :: ks, .bool a :: xs, .bool b :: ys => match a == b with | true => eqK ks xs ys | false => some false
  | _, _, _ => none
theorem run_part {P : Program} {t : TypeId} (ht : tyScalar P t = true) {X : List Value} {i : Nat} {v : Value} (h : X[i]? = some v) (w : World) : (part t X.toArray i).run P w = .ok v w := by
  simp [part, run_isAgg_scalar ht, h]
theorem drop_cons {α : Type} {X : List α} {i : Nat} {x : α} {xs : List α} (h : X.drop i = x :: xs) : X[i]? = some x ∧ X.drop (i + 1) = xs := by
  have h1 : (X.drop i)[0]? = some x := by rw [h]; rfl
  rw [List.getElem?_drop, Nat.add_zero] at h1
  refine ⟨h1, ?_⟩
  rw [← List.drop_drop, h]; rfl
theorem run_eqK {P : Program} (d : Nat) (w : World) (X Y : List Value) : ∀ (fs : List Field) (i : Nat) (ks : List Nat) (b : Bool), kindsOf P fs i = some ks → eqK ks (X.drop i) (Y.drop i) = some b → (Op.eqFields (d + 1) X.toArray Y.toArray fs).run P w = .ok b w
  | [], i, ks, b, hk, he => by
    simp only [kindsOf, Option.some.injEq] at hk; subst hk
    simp only [eqK, Option.some.injEq] at he; subst he
    simp [Op.eqFields]
  | f :: fs, i, ks, b, hk, he => by
    simp only [kindsOf] at hk
    split at hk
    case isFalse => cases hk
    rename_i hno
    obtain ⟨hn, ho⟩ := hno
    have step : ∀ (u v : Value) (r : Bool), X[i]? = some u → Y[i]? = some v → tyScalar P f.type = true → (Op.equalIn (d + 1) f.type u v).run P w = .ok r w →
        (Op.eqFields (d + 1) X.toArray Y.toArray (f :: fs)).run P w = (match r with | true => (Op.eqFields (d + 1) X.toArray Y.toArray fs).run P w | false => .ok false w) := by
      intro u v r hu hv hsc hr
      simp only [Op.eqFields, if_pos hn, ho, Sem.run_bind, run_part hsc hu, run_part hsc hv, Result.andThen_ok, hr]
      cases r <;> simp
    split at hk
    · rename_i k hu
      obtain ⟨ks', hk', rfl⟩ := Option.map_eq_some_iff.1 hk
      cases hx : X.drop i with
      | nil => rw [hx] at he; simp [eqK] at he
      | cons x xs =>
        cases hy : Y.drop i with
        | nil => rw [hx, hy] at he; cases x <;> simp [eqK] at he
        | cons y ys =>
          obtain ⟨hxi, hxd⟩ := drop_cons hx
          obtain ⟨hyi, hyd⟩ := drop_cons hy
          rw [hx, hy] at he
          cases x <;> try (simp [eqK] at he; done)
          cases y <;> try (simp [eqK] at he; done)
          rename_i j a j' a'
          simp only [eqK] at he
          split at he
          case isFalse => cases he
          rename_i hj
          subst hj
          rw [step _ _ (a == a') hxi hyi (by simp [tyScalar, hu]) (run_equalIn_int w d f.type j k a a' hu)]
          split at he
          · exact run_eqK d w X Y fs (i + 1) ks' b hk' (by rw [hxd, hyd]; exact he)
          · simp only [Option.some.injEq] at he; subst he; rfl
    · rename_i hu
      obtain ⟨ks', hk', rfl⟩ := Option.map_eq_some_iff.1 hk
      cases hx : X.drop i with
      | nil => rw [hx] at he; simp [eqK] at he
      | cons x xs =>
        cases hy : Y.drop i with
        | nil => rw [hx, hy] at he; cases x <;> simp [eqK] at he
        | cons y ys =>
          obtain ⟨hxi, hxd⟩ := drop_cons hx
          obtain ⟨hyi, hyd⟩ := drop_cons hy
          rw [hx, hy] at he
          cases x <;> try (simp [eqK] at he; done)
          cases y <;> try (simp [eqK] at he; done)
          rename_i a a'
          simp only [eqK] at he
          rw [step _ _ (a.toList == a'.toList) hxi hyi (by simp [tyScalar, hu]) (run_equalIn_string w d f.type a a' hu)]
          split at he
          · exact run_eqK d w X Y fs (i + 1) ks' b hk' (by rw [hxd, hyd]; exact he)
          · simp only [Option.some.injEq] at he; subst he; rfl
    · rename_i hu
      obtain ⟨ks', hk', rfl⟩ := Option.map_eq_some_iff.1 hk
      cases hx : X.drop i with
      | nil => rw [hx] at he; simp [eqK] at he
      | cons x xs =>
        cases hy : Y.drop i with
        | nil => rw [hx, hy] at he; cases x <;> simp [eqK] at he
        | cons y ys =>
          obtain ⟨hxi, hxd⟩ := drop_cons hx
          obtain ⟨hyi, hyd⟩ := drop_cons hy
          rw [hx, hy] at he
          cases x <;> try (simp [eqK] at he; done)
          cases y <;> try (simp [eqK] at he; done)
          rename_i a a'
          simp only [eqK] at he
          rw [step _ _ (a == a') hxi hyi (by simp [tyScalar, hu]) (Go.run_equalIn_bool w d f.type a a' hu)]
          split at he
          · exact run_eqK d w X Y fs (i + 1) ks' b hk' (by rw [hxd, hyd]; exact he)
          · simp only [Option.some.injEq] at he; subst he; rfl
    · cases hk
section
variable {c : Cx} {env : List (Nat × Value)} {L : List Asrt} {d : Option Tmp} {ty : TypeId} {pos : String} {af : Array Edge} {g : Option (Nat × Bool)}
theorem y_struct_eql {x y : Operand} {t yt : TypeId} {X Y : List Value} {ks : List Nat} {b : Bool} (ht : tyKinds c.P t = some ks) (hx : evo env x = some (.agg X.toArray)) (hy : evo env y = some (.agg Y.toArray)) (hb : eqK ks X Y = some b) :
    Yields c ⟨d, .binOp .eql t x y yt, ty, pos, af, g⟩ env L (.bool b) := by
  intro a w h
  unfold tyKinds at ht
  split at ht
  case h_2 => cases ht
  rename_i fs hu
  split at ht
  case isFalse => cases ht
  rename_i hc
  simp only [Bool.and_eq_true, Bool.not_eq_true'] at hc
  have hfs : c.P.fieldsOf t = fs := by simp [Program.fieldsOf, hu]
  have e1 : (Op.equalIn (9999 + 1) t (.agg X.toArray) (.agg Y.toArray)).run c.P w = .ok b w := by
    rw [run_equalIn_struct w 9999 t _ _ (by rw [hfs]; exact hu) hc.1, hfs]
    exact run_eqK 9998 w X Y fs.toList 0 ks b ht (by simpa using hb)
  have e2 : (binOp .eql t (.agg X.toArray) (.agg Y.toArray)).run c.P w = .ok (.bool b) w := by
    rw [run_eql_struct]
    rw [show (10000 : Nat) = 9999 + 1 from rfl, e1]; rfl
  simp only [execOp, h.eval hx, h.eval hy, Sem.run_bind, run_eqGuard_agg w .eql t x y _ _ hc.2, Result.andThen_ok, e2, Sem.run_pure]
end
end Go.Sl
