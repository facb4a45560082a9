/- Part of the proof; no statement of its own: M19, A44. -/
import Derived.Test.YthlclfdnhnnebaaGreatDoorB36
import Derived.Test.YthlclfdnhnnebaaGreatDoorB22
import Derived.Test.YthlclfdnhnnebaaGreatDoorB32
set_option linter.all false
section
namespace Go.Sb
section
variable {s t : St} {G : Gh}
theorem mapAt0 {G : Gh} (hz : mget 0 G = none) : mapAt G 0 = fun _ => zeros 256 := by
  funext j
  unfold mapAt
  split
  · rw [leafAt0 hz]; unfold leafOf; rw [hz]
  · rfl
theorem CI.z (h : CI s G) : mget 0 G = none := by
  cases hg : mget 0 G with
  | none => rfl
  | some o => exact absurd rfl (h.inv.ne0 hg)
theorem free_new (n bits : Nat) : freeN (cnew (dnew (n + 2)) 2 bits 1) = n := by
  have : (cnew (dnew (n + 2)) 2 bits 1).g = List.replicate n 0 := by simp [cnew, dnew]
  unfold freeN; rw [this, List.count_replicate]; simp
theorem one_fit (bits : Nat) (k at_ : Nat) (data : B) (hd : data.length = 64) : ¬ patchNo bits [] (k + 1) (fun _ => zeros 256) at_ data := fun h => by
  obtain ⟨h0, h1⟩ := h
  rcases h1 with ⟨_, o, hom, j, _, hz, _, _⟩ | h2
  · rcases List.mem_cons.1 hom with rfl | hom
    · rw [allZero_zeros] at hz; cases hz
    · cases hom
  · have : data.drop (min data.length (256 - at_ % 4 * 64)) = [] := by apply List.drop_eq_nil_of_le; omega
    rw [this] at h2
    cases k with
    | zero => exact h2
    | succ k => exact h2.1 rfl
theorem rel_find {id : Int} {x : Ent} (hx : mget id s.vols = some x) : find id (start s 0) = (.ok x, start s 0) := by
  unfold find; rw [show mget id (Go.Sb.start s 0).vols = some x from hx]
theorem CI.startRel (h : CI s G) : Rel 0 0 (Go.Sb.start s 0) (Go.Sb.start s 0) := Rel.refl (h.start 0).1.u
theorem CI.writeOnly (h : CI s G) {id at_ : Int} {x : Ent} {data : B} (hx : mget id s.vols = some x) (ho : x.only = true) :
    ∃ s', cwriteA id at_ data s = (.ok 7, s') ∧ CI s' G ∧ s'.vols.Perm s.vols ∧ meq s'.vols s.vols ∧ s'.bits = s.bits ∧ s'.next = s.next ∧ s'.epoch = s.epoch ∧ freeN s ≤ freeN s' := by
  refine h.writeErr (t := Go.Sb.start s 0) (c := 0) (k := 0) ?_ (by decide) h.startRel
  unfold writeM copen
  exact andThen_err (by rw [andThen_ok (rel_find hx), if_pos ho]; rfl)
theorem CI.writeRange (h : CI s G) {id at_ : Int} {x : Ent} {data : B} (hx : mget id s.vols = some x) (ho : x.only = false) (h64 : data.length % 64 = 0)
    (hout : at_ < 0 ∨ (x.size : Int) < at_ ∨ (x.size : Int) - at_ < (data.length / 64 : Nat)) :
    ∃ s', cwriteA id at_ data s = (.ok 6, s') ∧ CI s' G ∧ s'.vols.Perm s.vols ∧ meq s'.vols s.vols ∧ s'.bits = s.bits ∧ s'.next = s.next ∧ s'.epoch = s.epoch ∧ freeN s ≤ freeN s' := by
  have hmem : (id, x) ∈ s.vols := (mget_mem h.inv.u.m.vols).1 hx
  have hids : x.id = id ∧ 1 ≤ x.size ∧ x.size ≤ 2048 := h.ids _ hmem
  refine h.writeErr (t := Go.Sb.start s 0) (c := 0) (k := 0) ?_ (by decide) h.startRel
  unfold writeM copen
  rw [andThen_ok (show andThen (find id) (fun x => if x.only = true then fail 7 else ret x) (Go.Sb.start s 0) = (.ok x, Go.Sb.start s 0) by rw [andThen_ok (rel_find hx), if_neg (by simp [ho])]; rfl), if_neg (by omega)]
  refine andThen_err ?_
  unfold withinB
  rw [if_neg (by omega)]
  unfold within
  rw [if_pos (by omega)]; rfl
end
def FitP (s : St) : Prop := s.bits ≤ 256 ∧ s.vols.length ≤ 1000
theorem CI.fits {s : St} {G : Gh} (h : CI s G) (hb : s.bits = 256) : FitP s := ⟨by omega, by have := h.few; omega⟩
theorem reads_plain {at_ fr n cut k : Nat} {data : B} (hd : Secs k data) (hk : k ≤ 12) (hat : at_ < 48) (hfn : fr + n ≤ 60) (hcut : cut ≤ n) :
    ∃ s1 s2 s3 s4 s5 : St, (FitP (cnew (dnew 200) 2 256 1) ∧ FitP s1) ∧ ccreateA 60 (cnew (dnew 200) 2 256 1) = (.ok (1, 0), s1) ∧ cwriteA 1 at_ data s1 = (.ok 0, s2) ∧
      creadA 1 fr n s2 = (.ok (pieceD at_ data fr n, 0), s3) ∧ creadA 1 fr cut s3 = (.ok (pieceD at_ data fr cut, 0), s4) ∧ creadA 1 ((fr : Int) + cut) ((n : Int) - cut) s4 = (.ok (pieceD at_ data (fr + cut) (n - cut), 0), s5) := by
  have h0 : CI (cnew (dnew 200) 2 256 1) [] := CI.new (n := 198) (bits := 256) (by omega)
  have f0 := free_new 198 256
  obtain ⟨s1, e1, h1, v1, n1, p1, b1, r1⟩ := h0.create (size := 60) (by omega) (by show 0 < 16; omega) rfl (by rw [f0]; show 2 * (0 + 1) ≤ 198; omega)
  have hl := hd.len
  have v1' : s1.vols = [((1 : Int), { ent0 with size := 60, id := 1, born := 1 })] := v1
  have hb1 : s1.bits = 256 := b1
  have hx1 : mget 1 s1.vols = some { ent0 with size := 60, id := 1, born := 1 } := by rw [v1']; rfl
  have hm : mapAt ([] : Gh) 0 = fun _ => zeros 256 := mapAt0 rfl
  have ho : otherMaps s1 [] 1 = [] := by unfold otherMaps; rw [v1']; rfl
  obtain ⟨s2, G2, r, e2, h2, v2, m2, _, _, _, b2, _⟩ := h1.write (m := k) (at_ := at_) (data := data) hx1 rfl hl (by show (at_ : Int) + k ≤ 60; omega) (by rw [v1']; show 2 * 1 + k * 8 ≤ _; rw [f0] at r1; omega) (by omega)
    (by rw [ho, hb1]; show ¬ patchNo 256 [] data.length (mapAt [] 0) at_ data; rw [hm]; exact secs_fit _ (fun o ho => by cases ho) (fun _ => Secs.zero) hd)
  have hx2 : mget 1 s2.vols = some { ent0 with size := 60, id := 1, born := 1, root := r } := by rw [v2, v1']; rfl
  have hm2 : mapAt G2 r = patchF data.length (fun _ => zeros 256) at_ data := by rw [m2]; show patchF _ (mapAt [] 0) _ _ = _; rw [hm]
  have rd : ∀ a m : Nat, a + m ≤ 60 → creadA 1 a m s2 = (.ok (pieceD at_ data a m, 0), s2) := fun a m ham => by
    rw [h2.read hx2 (by show (a : Int) + m ≤ 60; omega)]
    show (Out.ok (readF (mapAt G2 r) m a m, (0 : Int)), s2) = _
    rw [hm2, read_patch (by omega) (by omega) ham]
  refine ⟨s1, s2, s2, s2, s2, ⟨h0.fits rfl, h1.fits hb1⟩, e1, e2, rd fr n hfn, rd fr cut (by omega), ?_⟩
  rw [show (fr : Int) + cut = ((fr + cut : Nat) : Int) by omega, show (n : Int) - cut = ((n - cut : Nat) : Int) by omega]
  exact rd _ _ (by omega)
def xsD : B := List.replicate 64 120
theorem awake_plain : ∃ s1 s2 s3 s4 s5 : St, (FitP (cnew (dnew 100) 2 256 1) ∧ FitP s1 ∧ FitP s2 ∧ FitP s3 ∧ FitP s4) ∧ ccreateA 5 (cnew (dnew 100) 2 256 1) = (.ok (1, 0), s1) ∧ cwriteA 1 4 xsD s1 = (.ok 0, s2) ∧
    ccopyA 1 true s2 = (.ok (2, 0), s3) ∧ cwriteA 2 0 [] s3 = (.ok 7, s4) ∧ cwriteA 1 5 xsD s4 = (.ok 6, s5) := by
  have h0 : CI (cnew (dnew 100) 2 256 1) [] := CI.new (n := 98) (bits := 256) (by omega)
  have f0 := free_new 98 256
  have hxl : xsD.length = 64 := rfl
  obtain ⟨s1, e1, h1, v1, n1, p1, b1, r1⟩ := h0.create (size := 5) (by omega) (by show 0 < 16; omega) rfl (by rw [f0]; show 2 * (0 + 1) ≤ 98; omega)
  have v1' : s1.vols = [((1 : Int), { ent0 with size := 5, id := 1, born := 1 })] := v1
  have n1' : s1.next = 2 := n1
  have hb1 : s1.bits = 256 := b1
  have hx1 : mget 1 s1.vols = some { ent0 with size := 5, id := 1, born := 1 } := by rw [v1']; rfl
  have hm : mapAt ([] : Gh) 0 = fun _ => zeros 256 := mapAt0 rfl
  have ho : otherMaps s1 [] 1 = [] := by unfold otherMaps; rw [v1']; rfl
  rw [f0] at r1
  obtain ⟨s2, G2, r, e2, h2, v2, m2, _, n2, _, b2, r2⟩ := h1.write (m := 1) (at_ := 4) (data := xsD) hx1 rfl hxl (by show ((4 : Nat) : Int) + ((1 : Nat) : Int) ≤ 5; omega) (by rw [v1']; show 2 * 1 + 1 * 8 ≤ _; omega) (by omega)
    (by rw [ho, hb1]; show ¬ patchNo 256 [] xsD.length (mapAt [] 0) 4 xsD; rw [hm]; exact one_fit 256 63 4 xsD rfl)
  have v2' : s2.vols = [((1 : Int), { ent0 with size := 5, id := 1, born := 1, root := r })] := by rw [v2, v1']; rfl
  have hx2 : mget 1 s2.vols = some { ent0 with size := 5, id := 1, born := 1, root := r } := by rw [v2']; rfl
  have hn2 : s2.next = 2 := n2.trans n1'
  obtain ⟨s3, e3, h3, v3, n3, p3, b3, r3⟩ := h2.copy (id := 1) (only := true) hx2 (by rw [v2']; show 1 < 16; omega) (by rw [hn2, v2']; rfl) (by rw [v2']; show 2 * (1 + 1) ≤ _; omega)
  rw [hn2] at e3 v3
  have hb3 : s3.bits = 256 := b3.trans (b2.trans hb1)
  have hx3 : mget 1 s3.vols = some { ent0 with size := 5, id := 1, born := 1, root := r } := by rw [v3, v2']; rfl
  have hy3 : mget 2 s3.vols = some { ent0 with parent := 1, only := true, size := 5, root := r, id := 2, born := s2.epoch } := by rw [v3, v2']; rfl
  obtain ⟨s4, e4, h4, _, q4, b4, _⟩ := h3.writeOnly (at_ := 0) (data := []) hy3 rfl
  have hx4 : mget 1 s4.vols = some { ent0 with size := 5, id := 1, born := 1, root := r } := by rw [q4]; exact hx3
  obtain ⟨s5, e5, _⟩ := h4.writeRange (at_ := 5) (data := xsD) hx4 rfl rfl (by right; right; show (5 : Int) - 5 < _; rw [hxl]; decide)
  exact ⟨s1, s2, s3, s4, s5, ⟨h0.fits rfl, h1.fits hb1, h2.fits (b2.trans hb1), h3.fits hb3, h4.fits (b4.trans hb3)⟩, e1, e2, e3, e4, e5⟩
end Go.Sb
end
section
set_option maxRecDepth 4000
set_option maxHeartbeats 4000000
namespace Go.Proofs.YthlclfdnhnnebaaGreatDoor
open Go.Sl Go.Sb
theorem dataL_secs (l : B) : ∃ k : Nat, k ≤ 12 ∧ Secs k (dataL l) := by
  refine ⟨(l.take 12).length, by rw [List.length_take]; omega, (l.take 12).map fun c => c.toNat % 4, by rw [List.length_map], fun k hk => ?_, ?_⟩
  · obtain ⟨c, _, rfl⟩ := List.mem_map.1 hk; omega
  · unfold dataL
    rw [List.flatMap_map]; rfl
theorem reads_says : ReadsSays (cnew (dnew 200) 2 256 1) := fun l at_ fr n cut h1 h2 h3 h4 => by
  obtain ⟨k, hk, hs⟩ := dataL_secs l
  exact reads_plain hs hk h1 h3 h4
theorem awake_says : AwakeSays (cnew (dnew 100) 2 256 1) := awake_plain
theorem ex_bs (s : ByteArray) : ∃ l : B, s = bs l := ⟨s.data.toList, by show s = ByteArray.mk s.data.toList.toArray; simp⟩
theorem coreReads_walk (W : World) (hW : ShaW W) (ia : Int) (_ : (Lit.int .i64 ia).wf = true) (s : ByteArray) (_ : s.size ≤ maxLen) (ifr : Int) (_ : (Lit.int .i64 ifr).wf = true) (inn : Int) (_ : (Lit.int .i64 inn).wf = true) (ic : Int) (_ : (Lit.int .i64 ic).wf = true) :
    Does Tryz.prog 3 #[.int .i64 ia, .string s, .int .i64 ifr, .int .i64 inn, .int .i64 ic] [whole W] (Gives (.bool true) [whole W]) := by
  obtain ⟨l, rfl⟩ := ex_bs s
  exact coreReads_spec W hW awake_says reads_says ia l ifr inn ic
end Go.Proofs.YthlclfdnhnnebaaGreatDoor
end
