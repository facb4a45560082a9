/- Part of the proof; no statement of its own: S4. -/
import Derived.Test.YtoolmpfkbaffcaaDoorFacts
import Derived.Test.YtoolmpfkbaffcaaDoorS3
import Derived.Test.YtoolmpfkbaffcaaDoorShelf
import Derived.Lib.SmallJoins
import Derived.Lib.AppendIntMem
set_option linter.all false
set_option maxRecDepth 4000
set_option maxHeartbeats 4000000
namespace Go.Proofs.YtoolmpfkbaffcaaDoor
open Go.Sl Go.Sc Go.RowKit
/-- what the law's world holds of the library's variables -/
structure ShW (W : World) : Prop where
  pow : Lib.TabIs Tryd.prog W "internal/strconv.uint64pow10" .u64 Lib.pow10Tab
  syn : ∃ tp p, W.var? Tryd.prog "strconv.ErrSyntax" = some #[.iface tp p]
  ran : ∃ tp p, W.var? Tryd.prog "strconv.ErrRange" = some #[.iface tp p]
  max : ∃ m, W.cell? ⟨4, 0, none⟩ = some (.int .i64 m)
theorem itoa_does {W : World} (hW : ShW W) (n : Int) (h0 : -9223372036854775808 ≤ n) (h1 : n ≤ 9223372036854775807) : Does Tryd.prog 24 #[.int .i64 n] [whole W] (Gives (.string (sb (Lib.itoa n))) [whole W]) :=
  does_read fun w L hs => (Tryd.strconv_Itoa n h0 h1 w (var_whole hs hW.pow)).mono fun e w' h => by
    obtain ⟨rfl, k, os, rfl⟩ := h
    exact ⟨rfl, Lib.below_grow _ _ (Nat.le_refl _) _ _⟩
theorem atoi_ok {W : World} (s : ByteArray) (hs : s.size ≤ 1000000) (v : Int) (h : Lib.atoiAll s.data.toList = .ok v) : Does Tryd.prog 25 #[.string s] [whole W] (Gives (.tuple #[.int .i64 v, .nilIface]) [whole W]) :=
  does_read fun w L _ => (Tryd.strconv_Atoi_ok s (by omega) v h w).mono fun e w' h => by
    obtain ⟨rfl, rfl | ⟨t, rfl⟩⟩ := h
    · exact ⟨rfl, Below.refl _ _⟩
    · exact ⟨rfl, Joins.below_bytesWorld _ _ _ _ (Nat.le_refl _)⟩
theorem atoi_no {W : World} (hW : ShW W) (s : ByteArray) (hs : s.size ≤ 1000000) (h : ∀ v, Lib.atoiAll s.data.toList ≠ .ok v) :
    Does Tryd.prog 25 #[.string s] [whole W] (GivesE (fun x : Int × TypeId × Value => True) (fun x => .tuple #[.int .i64 x.1, .iface x.2.1 x.2.2]) fun _ => [whole W]) :=
  does_readE fun w L hL => by
    rcases hA : Lib.atoiAll s.data.toList with v | _ | _
    · exact absurd hA (h v)
    · obtain ⟨tp, p, hv⟩ := hW.syn
      refine (Tryd.strconv_Atoi_syntax_var s (by omega) hA tp p w (var_whole hL hv)).mono fun e w' h => ?_
      obtain ⟨N, rfl, _, _, hb⟩ := h
      exact ⟨⟨(0, _, _), trivial, rfl⟩, hb⟩
    · obtain ⟨tp, p, hv⟩ := hW.ran
      refine (Tryd.strconv_Atoi_range_var s (by omega) hA tp p w (var_whole hL hv)).mono fun e w' h => ?_
      obtain ⟨N, rfl, _, _, hb⟩ := h
      exact ⟨⟨(_, _, _), trivial, rfl⟩, hb⟩
def blank : ByteArray := ⟨#[32]⟩
theorem split_does {W : World} (hW : ShW W) (s : ByteArray) (hs : s.size ≤ 1000000) : Does Tryd.prog 19 #[.string s, .string blank] [whole W]
    (GivesE (fun _ : Nat => True) (fun b => .slice (some ⟨b, 0, none⟩) (Lib.countB s blank + 1) (Lib.countB s blank + 1)) fun b => [pts b (.cells ((Lib.splitB blank 0 (Lib.countB s blank) s).map Value.string).toArray 9 (0, 0)), whole W]) := by
  obtain ⟨m, hm⟩ := hW.max
  exact does_lay fun w L hL => Tryd.strings_Split s blank m w (by omega) (cell_whole hL hm) (by decide)
theorem repeat_does {W : World} (s : ByteArray) (c : Nat) (h : s.size * c ≤ 1000000) (hc : c ≤ 1000000) : Does Tryd.prog 21 #[.string s, .int .i64 c] [whole W] (Gives (.string ⟨(Lib.repeatL s.data.toList c).toArray⟩) [whole W]) :=
  does_read fun w L _ => Tryd.strings_Repeat s c w (by omega) (by omega)
/-- of a slice of one's own -/
theorem join_does {v : Value} {n : Nat} {xs : List ByteArray} {sep : ByteArray} (hn : n = xs.length) (h1 : xs ≠ []) (hN : xs.length ≤ 1000000) (hlen : (Lib.join (xs.map (·.data.toList)) sep.data.toList).length ≤ 1000000) :
    Does Tryd.prog 18 #[v, .string sep] [rowA 9 1 v n (xs.map Value.string)] (Gives (.string ⟨(Lib.join (xs.map (·.data.toList)) sep.data.toList).toArray⟩) []) := by
  intro w F hs
  subst hn
  obtain ⟨hl, hcase⟩ := rowA_cases hs
  rcases hcase with ⟨_, h0, _⟩ | ⟨b, cap, cur, rfl, g1, g2, g3, g4, hsat⟩
  · exact absurd (List.eq_nil_of_length_eq_zero h0) h1
  have hb := hsat.pts
  refine (Tryd.strings_Join b 0 cap xs sep w (fun j x hj => ?_) (heap_lt hb) (by omega) g1 (by omega)).mono ?_
  · have hj1 : j < xs.length := (List.getElem?_eq_some_iff.1 hj).1
    have : cur[j]? = some (.string x) := by
      have := congrArg (·[j]?) g4
      simp only [List.getElem?_map, hj, Nat.mul_one] at this
      rw [List.getElem?_take] at this
      simpa [hj1] using this
    simp [World.cell?, hb, this]
  · rintro e w' ⟨rfl, hbel⟩
    have h2 : Sat w ([] ++ [F]) := by
      obtain ⟨l, ⟨l1, l2, rfl, _, h2⟩, hn, hh⟩ := hsat
      exact ⟨l2, h2, (List.nodup_append.1 (by simpa using hn)).2.1, fun b o hm => hh b o (by simp [hm])⟩
    exact ⟨[], ⟨rfl, rfl⟩, sat_below h2 hbel, hbel.os, hbel.tape, hbel.output⟩
end Go.Proofs.YtoolmpfkbaffcaaDoor
