/- Part of the proof; no statement of its own: Model. -/
set_option linter.all false
/- The program as plain functions over plain data: disk, grants, undo, heap, extents, nodes, maps, core. -/
namespace Go.Sb

abbrev B := List UInt8
/-- how a step of the program ends (big: a list is longer than any that fits) -/
inductive Out (α : Type) where
  | ok (a : α)
  | err (e : Int)
  | big
/-- a step over a state -/
abbrev Run (S α : Type) := S → Out α × S
section
variable {S α β : Type}
def ret (a : α) : Run S α := fun s => (.ok a, s)
def fail (e : Int) : Run S α := fun s => (.err e, s)
def andThen (m : Run S α) (f : α → Run S β) : Run S β := fun s => match m s with
  | (.ok a, t) => f a t
  | (.err e, t) => (.err e, t)
  | (.big, t) => (.big, t)
theorem andThen_ok {m : Run S α} {f : α → Run S β} {s t : S} {a : α} (h : m s = (.ok a, t)) : andThen m f s = f a t := by simp [andThen, h]
theorem andThen_err {m : Run S α} {f : α → Run S β} {s t : S} {e : Int} (h : m s = (.err e, t)) : andThen m f s = (.err e, t) := by simp [andThen, h]
theorem big1 {m : Run S α} {f : α → Run S β} {s : S} (h : (andThen m f s).1 ≠ .big) : (m s).1 ≠ .big := by
  intro e
  apply h
  unfold andThen
  split
  · rename_i h'; rw [h'] at e; cases e
  · rename_i h'; rw [h'] at e; cases e
  · rfl
theorem big2 {m : Run S α} {f : α → Run S β} {s t : S} {a : α} (h : (andThen m f s).1 ≠ .big) (hm : m s = (.ok a, t)) : (f a t).1 ≠ .big := by rwa [andThen_ok hm] at h
def each (f : α → Run S Unit) : List α → Run S Unit
  | [] => ret ()
  | x :: l => andThen (f x) fun _ => each f l
/-- from left to right, with something carried along -/
def fold (f : β → α → Run S β) : β → List α → Run S β
  | b, [] => ret b
  | b, x :: l => andThen (f b x) fun b' => fold f b' l
end

/-! ### tables -/
section
variable {K V : Type} [DecidableEq K]
def mget (k : K) : List (K × V) → Option V
  | [] => none
  | (j, v) :: m => if j = k then some v else mget k m
def mput (k : K) (v : V) : List (K × V) → List (K × V)
  | [] => [(k, v)]
  | (j, u) :: m => if j = k then (k, v) :: m else (j, u) :: mput k v m
def mdel (k : K) : List (K × V) → List (K × V)
  | [] => []
  | (j, u) :: m => if j = k then m else (j, u) :: mdel k m
end

/-! ### layer 4: disks -/
structure Dk where
  l : List (B × B)
  armed : Bool
  left : Nat
  dead : Bool
  deriving Inhabited
def zeros (n : Nat) : B := List.replicate n 0
def dalive (d : Dk) : Out Unit := if d.dead then .err 12 else .ok ()
def dspend (d : Dk) : Out Unit × Dk :=
  if d.dead then (.err 12, d) else if d.armed = false then (.ok (), d) else
  match d.left with
  | 0 => (.err 12, { d with dead := true })
  | n + 1 => (.ok (), { d with left := n })
def dread (d : Dk) (at_ : Int) : Out B :=
  if d.dead then .err 12 else if at_ < 0 ∨ (d.l.length : Int) ≤ at_ then .err 6 else .ok (d.l.getD at_.toNat ([], [])).2
def dwrite (d : Dk) (at_ : Int) (s : B) : Out Unit × Dk :=
  if d.dead then (.err 12, d) else if at_ < 0 ∨ (d.l.length : Int) ≤ at_ then (.err 6, d) else if 64 < s.length then (.err 3, d) else
  match dspend d with
  | (.err e, d') => (.err e, d')
  | (.big, d') => (.big, d')
  | (.ok _, d') => (.ok (), { d' with l := d'.l.set at_.toNat ((d'.l.getD at_.toNat ([], [])).1, s ++ zeros (64 - s.length)) })
def dsync (d : Dk) : Out Unit × Dk := match dspend d with
  | (.err e, d') => (.err e, d')
  | (.big, d') => (.big, d')
  | (.ok _, d') => (.ok (), { d' with l := d'.l.map fun x => (x.2, x.2) })
def dnew (n : Nat) : Dk := { l := List.replicate n (zeros 64, zeros 64), armed := false, left := 0, dead := false }

/-! ### layer 16's entries -/
structure Ent where
  id : Int
  parent : Int
  only : Bool
  size : Int
  root : Int
  born : Int
  deriving Inhabited, DecidableEq

/-! ### layer 9: what was done, so that it may be undone -/
inductive Step where
  | give (at_ : Int)
  | back (at_ : Int)
  | refs (k : Int) (was : Option Int)
  | young (k : Int) (was : Option Int)
  | index (k : B) (was : Option Int)
  | vols (k : Int) (was : Option Ent)
  | keep (was : Int)
  | gone (was : List Int)
  | next (was : Int)

/-- all: the disk; what is free; who wants it; the extents by their addresses; the volumes -/
structure St where
  d : Dk
  fr : Nat
  g : List Nat
  refs : List (Int × Int)
  young : List (Int × Int)
  gone : List Int
  keep : Int
  log : List Step
  depth : Nat
  bits : Nat
  index : List (B × Int)
  vols : List (Int × Ent)
  next : Int
  epoch : Int

abbrev M (α : Type) := Run St α

/-! ### layer 6 -/
def isB (fr : Nat) (l : List Nat) (at_ : Int) (what : Nat) : Bool := decide (at_ ≥ fr) && (decide (at_ - fr < l.length) && decide (l[(at_ - fr).toNat]? = some what))
def mvL (fr : Nat) (l : List Nat) (at_ : Int) (k to : Nat) : List Nat := match isB fr l at_ k with | true => l.set (at_ - fr).toNat to | false => l
def takeAt (fr : Nat) (l : List Nat) : Int := match l.findIdx? (· == 0) with | some i => (fr + i : Nat) | none => 0
def takeL (l : List Nat) : List Nat := match l.findIdx? (· == 0) with | some i => l.set i 1 | none => l
def settleL (l : List Nat) : List Nat := l.map fun x => if x = 2 then 0 else x

def restore {K V : Type} [DecidableEq K] (k : K) (was : Option V) (m : List (K × V)) : List (K × V) := match was with
  | some v => mput k v m
  | none => mdel k m
def undo1 (st : Step) (s : St) : St := match st with
  | .give a => { s with g := mvL s.fr s.g a 1 0 }
  | .back a => { s with g := mvL s.fr s.g a 2 1 }
  | .refs k was => { s with refs := restore k was s.refs }
  | .young k was => { s with young := restore k was s.young }
  | .index k was => { s with index := restore k was s.index }
  | .vols k was => { s with vols := restore k was s.vols }
  | .keep w => { s with keep := w }
  | .gone w => { s with gone := w }
  | .next w => { s with next := w }
/-- the last steps are undone, the last one first, until so many are left -/
def undoL (s : St) : List Step → St
  | [] => s
  | st :: l => undo1 st (undoL s l)
def undoTo (mark : Nat) (s : St) : St := { undoL s (s.log.drop mark) with log := s.log.take mark }
def bk (depth : Nat) (log : List Step) (st : Step) : List Step := if 0 < depth then log ++ [st] else log
def back (st : Step) : M Unit := fun s => if 1000000000 ≤ s.log.length then (.big, s) else (.ok (), { s with log := bk s.depth s.log st })
def setKeep (n : Int) : M Unit := andThen (fun s => back (.keep s.keep) s) fun _ s => (.ok (), { s with keep := n })
def setGone (l : List Int) : M Unit := fun s => if 1000000000 ≤ l.length then (.big, s) else andThen (fun s => back (.gone s.gone) s) (fun _ s => (.ok (), { s with gone := l })) s
def setNext (n : Int) : M Unit := andThen (fun s => back (.next s.next) s) fun _ s => (.ok (), { s with next := n })
def putRefs (k v : Int) : M Unit := andThen (fun s => back (.refs k (mget k s.refs)) s) fun _ s => (.ok (), { s with refs := mput k v s.refs })
def putYoung (k v : Int) : M Unit := andThen (fun s => back (.young k (mget k s.young)) s) fun _ s => (.ok (), { s with young := mput k v s.young })
def putIndex (k : B) (v : Int) : M Unit := andThen (fun s => back (.index k (mget k s.index)) s) fun _ s => (.ok (), { s with index := mput k v s.index })
def putVols (k : Int) (v : Ent) : M Unit := andThen (fun s => back (.vols k (mget k s.vols)) s) fun _ s => (.ok (), { s with vols := mput k v s.vols })
def dropRefs (k : Int) : M Unit := andThen (fun s => back (.refs k (mget k s.refs)) s) fun _ s => (.ok (), { s with refs := mdel k s.refs })
def dropYoung (k : Int) : M Unit := andThen (fun s => back (.young k (mget k s.young)) s) fun _ s => (.ok (), { s with young := mdel k s.young })
def dropIndex (k : B) : M Unit := andThen (fun s => back (.index k (mget k s.index)) s) fun _ s => (.ok (), { s with index := mdel k s.index })
def dropVols (k : Int) : M Unit := andThen (fun s => back (.vols k (mget k s.vols)) s) fun _ s => (.ok (), { s with vols := mdel k s.vols })

/-! ### layer 10 -/
def wrap64 (x : Int) : Int := (x + 9223372036854775808) % 18446744073709551616 - 9223372036854775808
def refsOf (s : St) (at_ : Int) : Int := (mget at_ s.refs).getD 0
def youngOf (s : St) (at_ : Int) : Int := (mget at_ s.young).getD 0
def freeN (s : St) : Nat := s.g.count 0
def lateN (s : St) : Nat := s.g.count 2
def heldN (s : St) : Nat := s.g.count 1
def hkeep (n : Int) : M Unit := setKeep (max n 0)
def onDisk (f : Dk → Out Unit × Dk) : M Unit := fun s => match f s.d with | (o, d) => (o, { s with d := d })
def hput (b : B) : M Int := fun s =>
  if (freeN s : Int) ≤ s.keep then (.err 8, s) else
  let a := takeAt s.fr s.g
  andThen (fun s => back (.give a) { s with g := takeL s.g }) (fun _ =>
  andThen (putRefs a 1) fun _ => andThen (putYoung a 1) fun _ => andThen (onDisk fun d => dwrite d a b) fun _ => ret a) s
def hget (at_ : Int) : M B := fun s => if refsOf s at_ = 0 then (.err 6, s) else (dread s.d at_, s)
def hmore (at_ : Int) : M Unit := fun s => if refsOf s at_ = 0 then (.err 6, s) else putRefs at_ (wrap64 (refsOf s at_ + 1)) s
def inR (x : Int) : Bool := decide (-9223372036854775808 ≤ x ∧ x ≤ 9223372036854775807)
def hless (at_ : Int) : M Bool := fun s =>
  if inR at_ = false then (.big, s) else if refsOf s at_ = 0 then (.err 6, s) else if refsOf s at_ = 1 then
    andThen (dropRefs at_) (fun _ =>
    andThen (fun s => back (.back at_) { s with g := mvL s.fr s.g at_ 1 2 }) fun _ =>
    andThen (fun s => if 0 < youngOf s at_ then andThen (dropYoung at_) (fun _ s => setGone (s.gone ++ [at_]) s) s else ret () s) fun _ => ret true) s
  else andThen (putRefs at_ (wrap64 (refsOf s at_ - 1))) (fun _ => ret false) s
def hadopt (at_ : Int) : M Bool := fun s =>
  if inR at_ = false then (.big, s) else if 0 < refsOf s at_ then (.ok false, { s with refs := mput at_ (wrap64 (refsOf s at_ + 1)) s.refs })
  else if isB s.fr s.g at_ 0 = false then (.err 6, s)
  else (.ok true, { s with g := mvL s.fr s.g at_ 0 1, refs := mput at_ 1 s.refs })
def freeGone (s : St) : St := { s with g := s.gone.foldl (fun g a => mvL s.fr (mvL s.fr g a 2 1) a 1 0) s.g, gone := [] }
def leave (s : St) : St := if s.depth = 1 then { s with depth := 0, log := [] } else { s with depth := s.depth - 1 }
/-- it runs; if it fails, what it did is undone; c: what else it changes -/
def tryL {C : Type} (run : Run (St × C) Unit) : Run (St × C) Int := fun x =>
  if 1000000000 ≤ x.1.depth then (.big, x) else match run ({ x.1 with depth := x.1.depth + 1 }, x.2) with
  | (.ok _, (t, c')) => if t.depth = 0 then (.big, (t, c')) else (.ok 0, (leave t, c'))
  | (.err e, (t, c')) => if t.depth = 0 ∨ e = 0 then (.big, (t, c')) else (.ok e, (leave (undoTo x.1.log.length t), c'))
  | (.big, t) => (.big, t)
/-- and what nobody wants any more is free -/
def tryR {C : Type} (run : Run (St × C) Unit) : Run (St × C) Int := andThen (tryL run) fun e x => (.ok e, (if x.1.depth = 0 then freeGone x.1 else x.1, x.2))
def hsettle : M Unit := fun s => (.ok (), { s with g := settleL s.g, young := [] })

/-! ### bytes -/
def be (l : B) : Nat := l.foldl (fun n c => n * 256 + c.toNat) 0
def beB (x k : Nat) : Nat → B
  | 0 => []
  | m + 1 => beB x k m ++ [UInt8.ofNat (x / 256 ^ (k - 1 - m))]
def allZero (l : B) : Bool := l.all (· == 0)
def padTo (n : Nat) (l : B) : B := l ++ zeros (n - l.length)
def u64 (x : Int) : Nat := (x % 18446744073709551616).toNat
def headBits (n : Nat) (l : B) : B := l.mapIdx fun i c => if n < 8 * i + 8 then c &&& UInt8.ofNat (255 - 255 / 2 ^ (n - 8 * i)) else c
end Go.Sb
