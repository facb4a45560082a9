/- Lines of lnWords, in plain Lean: what a line is read as. -/
import Derived.Lib.AtoiAll
import Derived.Lib.ItoaNum
import Derived.Lib.Join
import Derived.Lib.SplitLaws
set_option linter.all false
namespace Go.Sc
open Go
def sb (l : List UInt8) : ByteArray := ⟨l.toArray⟩
/-- a letter or a figure -/
def isW (c : UInt8) : Bool := (97 ≤ c.toNat && c.toNat ≤ 122) || (48 ≤ c.toNat && c.toNat ≤ 57)
def wordOk (s : ByteArray) : Bool := decide (1 ≤ s.size) && decide (s.size ≤ 16) && s.data.toList.all isW
/-- a number -/
def lnNum (s : ByteArray) : Option Int :=
  match Lib.atoiAll s.data.toList with
  | .ok v => if Lib.itoa v = s.data.toList ∧ v ≤ 1000000 ∧ -1000000 ≤ v then some v else none
  | _ => none
/-- how many numbers (none: any), and is there a word -/
def lnShape (s : ByteArray) : Option (Option Nat × Bool) :=
  if s = ⟨#[99, 114, 101, 97, 116, 101]⟩ then some (some 1, false)
  else if s = ⟨#[115, 110, 97, 112, 115, 104, 111, 116]⟩ then some (some 1, false)
  else if s = ⟨#[99, 108, 111, 110, 101]⟩ then some (some 1, false)
  else if s = ⟨#[100, 101, 108, 101, 116, 101]⟩ then some (some 1, false)
  else if s = ⟨#[97, 114, 109]⟩ then some (some 1, false)
  else if s = ⟨#[112, 114, 117, 110, 101]⟩ then some (some 1, false)
  else if s = ⟨#[115, 117, 109]⟩ then some (some 1, false)
  else if s = ⟨#[114, 101, 115, 105, 122, 101]⟩ then some (some 2, false)
  else if s = ⟨#[99, 104, 97, 110, 103, 101, 100]⟩ then some (some 2, false)
  else if s = ⟨#[116, 114, 105, 109]⟩ then some (some 3, false)
  else if s = ⟨#[114, 101, 97, 100]⟩ then some (some 3, false)
  else if s = ⟨#[119, 114, 105, 116, 101]⟩ then some (some 3, true)
  else if s = ⟨#[101, 120, 112, 111, 114, 116]⟩ then some (some 2, true)
  else if s = ⟨#[105, 109, 112, 111, 114, 116]⟩ then some (some 1, true)
  else if s = ⟨#[99, 114, 97, 115, 104]⟩ then some (none, false)
  else if s = ⟨#[102, 108, 117, 115, 104]⟩ then some (some 0, false)
  else if s = ⟨#[99, 104, 101, 99, 107, 112, 111, 105, 110, 116]⟩ then some (some 0, false)
  else if s = ⟨#[109, 111, 117, 110, 116]⟩ then some (some 0, false)
  else if s = ⟨#[115, 99, 114, 117, 98]⟩ then some (some 0, false)
  else if s = ⟨#[115, 112, 97, 99, 101]⟩ then some (some 0, false)
  else if s = ⟨#[108, 105, 115, 116]⟩ then some (some 0, false)
  else none
/-- a lnShape as a lnText, one letter a word -/
def lnShapeT : Option Nat × Bool → ByteArray
  | (none, _) => ⟨#[42]⟩
  | (some n, w) => sb (List.replicate n 110 ++ if w then [119] else [])
/-- the lnWords between blanks -/
def lnCuts : List UInt8 → List UInt8 → List (List UInt8)
  | p, [] => [p]
  | p, c :: r => if c = 32 then p :: lnCuts [] r else lnCuts (p ++ [c]) r
def lnParts (s : ByteArray) : List ByteArray := (lnCuts [] s.data.toList).map sb
structure Ln where
  verb : ByteArray
  ns : List Int
  word : ByteArray
deriving DecidableEq
/-- numbers, as many as there should be -/
def lnNums : Nat → List ByteArray → Except Nat (List Int × List ByteArray)
  | 0, l => .ok ([], l)
  | _ + 1, [] => .error 2
  | n + 1, s :: l => match lnNum s with
    | none => .error 1
    | some v => match lnNums n l with
      | .error e => .error e
      | .ok (vs, r) => .ok (v :: vs, r)
/-- what stands behind the numbers -/
def lnTail (verb : ByteArray) (w : Bool) (ns : List Int) (l : List ByteArray) : Except Nat Ln :=
  match w, l with
  | true, [] => .error 2
  | true, s :: r => if wordOk s then (if r = [] then .ok ⟨verb, ns, s⟩ else .error 1) else .error 1
  | false, [] => .ok ⟨verb, ns, ByteArray.empty⟩
  | false, _ :: _ => .error 1
def lnParse (s : ByteArray) : Except Nat Ln :=
  if s.size > 200 then .error 3 else
  match lnParts s with
  | [] => .error 15
  | verb :: l => match lnShape verb with
    | none => .error 15
    | some (n, w) => match lnNums (n.getD l.length) l with
      | .error e => .error e
      | .ok (ns, r) => lnTail verb w ns r
def lnWords (l : Ln) : List (List UInt8) := l.verb.data.toList :: (l.ns.map Lib.itoa ++ if l.word = ByteArray.empty then [] else [l.word.data.toList])
def lnText (l : Ln) : ByteArray := sb (Lib.join (lnWords l) [32])
end Go.Sc
