/- Part of the proof; no statement of its own. -/
import Derived.Test.YtpinhnikemamjaaGreatDoorN16
import Derived.Test.YtpinhnikemamjaaGreatDoorProg
import Derived.KernelRfl
import Derived.Test.YtpinhnikemamjaaGreatDoorN08
import Derived.Test.YtpinhnikemamjaaGreatDoorN04
import Derived.ChangeArms
import Derived.DataReads
set_option linter.all false
set_option maxRecDepth 4000
set_option maxHeartbeats 4000000
namespace Go.Sb
section
def k0Y (k:Int) (m:List (Int×Int)):List (Int×Int):=b0T k ((a0E k m).getD 0+1) m
def c2Y (G:Gh) (a:Int):List Int:=match a0E a G with|some (.ext _ ats)=>ats|_=> []
def e0V (G:Gh):Nat→Int→List (Int×Int)→List (Int×Int)
 |0,a,m=>if a≤0∨0<(a0E a m).getD 0 then m else((c2Y G a).filter (0< ·)).foldl (fun m k=>k0Y k m) (k0Y a m)
 |l+1,a,m=>if a=0∨0<(a0E a m).getD 0 then m else(b0E G a).foldl (fun m k=>e0V G l k m) (k0Y a m)
theorem z0A (G:Gh) (l:Nat) (a:Int) (m:List (Int×Int)):e0V G (l+1) a m=if a=0∨0<(a0E a m).getD 0 then m else(b0E G a).foldl (fun m k=>e0V G l k m) (k0Y a m):=rfl
def lev:Ob→Nat
 | .part _=>0
 | .ext _ _=>1
 | .node l _ _=>l+2
def Cls (G:Gh) (n:Nat) (S:List Int):Prop:= ∀x∈S,∀o,a0E x G=some o→lev o≤n→ ∀k∈f0I o,k≠0→k∈S
structure Rch (G:Gh) (n:Nat) (S T:List Int):Prop where
 sub: ∀x∈S,x∈T
 new: ∀x∈T,x∈S∨ ∃o,a0E x G=some o∧lev o≤n
 cls:Cls G n S→Cls G n T
theorem Rch.refl (G:Gh) (n:Nat) (S:List Int):Rch G n S S:=⟨fun _ h=>h,fun _ h=> .inl h,id⟩
theorem Rch.trans {G:Gh} {n:Nat} {S T U:List Int} (h:Rch G n S T) (k:Rch G n T U):Rch G n S U:=
 ⟨fun x hx=>k.sub x (h.sub x hx),fun x hx=>(k.new x hx).elim (h.new x) .inr,fun hc=>k.cls (h.cls hc)⟩
theorem Rch.step {G:Gh} {n:Nat} {S T:List Int} {a:Int} {o:Ob} (ho:a0E a G=some o) (hl:lev o=n+1) (h:Rch G n (a::S) T) (hk: ∀k∈f0I o,k≠0→k∈T):Rch G (n+1) S T:=by
 refine⟨fun x hx=>h.sub x (List.mem_cons_of_mem _ hx),fun x hx=> ?_,fun hc x hx o' ho' hle k hk' hne=> ?_⟩
 ·rcases h.new x hx with h1| ⟨o',h1,h2⟩
  ·rcases List.mem_cons.1 h1 with rfl|h1
   ·exact .inr ⟨o,ho,by omega⟩
   ·exact .inl h1
  ·exact .inr ⟨o',h1,by omega⟩
 ·by_cases hle':lev o'≤n
  ·refine h.cls (fun y hy oy hoy hly k hk hne=> ?_) x hx o' ho' hle' k hk' hne;rcases List.mem_cons.1 hy with rfl|hy
   ·rw[ho]at hoy;cases hoy;omega
   ·exact List.mem_cons_of_mem _ (hc y hy oy hoy (by omega) k hk hne)
  ·rcases h.new x hx with h1| ⟨o2,h1,h2⟩
   ·rcases List.mem_cons.1 h1 with rfl|h1
    ·rw[ho]at ho';cases ho';exact hk k hk' hne
    ·exact h.sub _ (List.mem_cons_of_mem _ (hc x h1 o' ho' hle k hk' hne))
   ·rw[ho']at h1;cases h1;exact absurd h2 hle'
structure i0I (G:Gh) (m:List (Int×Int)):Prop where
 ok:mok m
 pos: ∀p∈m,1≤p.2∧p.2≤5*(m.length:Int)
 held: ∀p∈m,(a0E p.1 G).isSome=true
theorem i0I.len {G:Gh} {m:List (Int×Int)} (h:i0I G m):m.length≤G.length:=by
 have:=List.Nodup.length_le_of_subset (l₁:=m.map (·.1)) (l₂:=G.map (·.1)) (show(m.map (·.1)).Nodup from h.ok) fun x hx=>by
  obtain⟨p,hp,rfl⟩:=List.mem_map.1 hx;have:=h.held p hp;exact Classical.byContradiction fun hn=>by rw[d1D hn]at this;cases this
 simpa using this
theorem i1I {K V:Type} [DecidableEq K] {k:K} {m:List (K×V)} :(a0E k m).isSome=true↔k∈m.map (·.1):=by
 induction m with
 |nil=>simp[a0E]
 |cons p m ih=>
  obtain⟨j,v⟩:=p;rw[d0H];by_cases e:j=k
  ·simp[e]
  ·rw[if_neg e,ih,List.map_cons,List.mem_cons];exact⟨.inr,fun h=>h.elim (fun h=>absurd h.symm e) id⟩
theorem i0I.in_ {G:Gh} {m:List (Int×Int)} (h:i0I G m) {a:Int} :0<(a0E a m).getD 0↔a∈m.map (·.1):=by
 rw[←i1I];cases e:a0E a m with
 |none=>simp
 |some v=>
  have:=h.pos _ ((e0Q h.ok).1 e);simp only[Option.getD_some,Option.isSome_some,iff_true];simp only at this;omega
abbrev l0W (m:List (Int×Int)):List Int:=m.map (·.1)
theorem i1J {k v:Int} : ∀ {m:List (Int×Int)},(b0T k v m).length=if(a0E k m).isSome then m.length else m.length+1
 | []=>rfl
 | (j,u)::m=>by
  rw[d0H];by_cases e:j=k
  ·rw[if_pos e];subst e;simp[b0T]
  ·rw[if_neg e];have:= @i1J k v m;simp only[b0T,if_neg e,List.length_cons,this];split<;>rfl
theorem m1Y {k v:Int} {p:Int×Int} : ∀ {m:List (Int×Int)},p∈b0T k v m→p=(k,v)∨p∈m
 | [],h=> .inl (List.mem_singleton.1 h)
 | (j,u)::m,h=>by
  by_cases e:j=k
  ·simp only[b0T,if_pos e]at h;rcases List.mem_cons.1 h with h|h
   ·exact .inl h
   ·exact .inr (List.mem_cons_of_mem _ h)
  ·simp only[b0T,if_neg e]at h;rcases List.mem_cons.1 h with h|h
   ·exact .inr (h▸List.mem_cons_self)
   ·exact(m1Y h).imp id (List.mem_cons_of_mem _)
structure SB (G:Gh) (B:Int) (N:Nat) (m:List (Int×Int)):Prop where
 ok:mok m
 b0:0≤B
 pos: ∀p∈m,1≤p.2∧p.2≤B
 held: ∀p∈m,(a0E p.1 G).isSome=true
 len:N≤m.length
theorem SB.val {G:Gh} {B:Int} {N:Nat} {m:List (Int×Int)} (h:SB G B N m) (k:Int):0≤(a0E k m).getD 0∧(a0E k m).getD 0≤B:=by
 cases e:a0E k m with
 |none=>exact⟨Int.le_refl _,h.b0⟩
 |some v=>have:=h.pos _ ((e0Q h.ok).1 e);simp only at this;simp only[Option.getD_some];omega
theorem i0I.sb {G:Gh} {m:List (Int×Int)} (h:i0I G m):SB G (5*m.length) m.length m:=⟨h.ok,by omega,h.pos,h.held,Nat.le_refl _⟩
theorem SB.see {G:Gh} {B:Int} {N:Nat} {m:List (Int×Int)} (h:SB G B N m) {k:Int} (hk:(a0E k G).isSome=true):SB G (B+1) N (k0Y k m):=by
 have hv:=h.val k;have:=h.b0;refine⟨m0O _ _ h.ok,by omega,fun p hp=> ?_,fun p hp=> ?_,?_⟩
 ·rcases m1Y hp with rfl|hp
  ·simp only;omega
  ·have:=h.pos p hp;omega
 ·rcases m1Y hp with rfl|hp
  ·exact hk
  ·exact h.held p hp
 ·unfold k0Y;rw[i1J];have:=h.len;split<;>omega
theorem x0M {k x:Int} {m:List (Int×Int)} :x∈l0W (k0Y k m)↔x=k∨x∈l0W m:=h1Q
theorem SB.sees {G:Gh} {N:Nat} : ∀(ks:List Int) {B:Int} {m:List (Int×Int)},SB G B N m→(∀k∈ks,(a0E k G).isSome=true)→SB G (B+ks.length) N (ks.foldl (fun m k=>k0Y k m) m)∧ ∀x,x∈l0W (ks.foldl (fun m k=>k0Y k m) m)↔x∈ks∨x∈l0W m
 | [],B,m,h,_=>⟨by simpa using h,fun x=>by simp⟩
 |k::ks,B,m,h,hk=>by
  obtain⟨h1,h2⟩:=SB.sees ks (h.see (hk k List.mem_cons_self)) fun x hx=>hk x (List.mem_cons_of_mem _ hx);rw[List.foldl_cons];refine⟨by rw[List.length_cons,show B+((ks.length+1:Nat):Int)=B+1+(ks.length:Int) by omega];exact h1,fun x=> ?_⟩;rw[h2,x0M,List.mem_cons];constructor
  ·rintro(h|h|h)
   ·exact .inl (.inr h)
   ·exact .inl (.inl h)
   ·exact .inr h
  ·rintro((h|h)|h)
   ·exact .inr (.inl h)
   ·exact .inl h
   ·exact .inr (.inr h)
theorem Rch.congr {G:Gh} {n:Nat} {S S' T:List Int} (hs: ∀x,x∈S↔x∈S') (h:Rch G n S T):Rch G n S' T:=
 ⟨fun x hx=>h.sub x ((hs x).2 hx),fun x hx=>(h.new x hx).imp (hs x).1 id,fun hc=>h.cls fun x hx o ho hl k hk hne=>(hs k).2 (hc x ((hs x).1 hx) o ho hl k hk hne)⟩
theorem i0I.first {G:Gh} {m:List (Int×Int)} (h:i0I G m) {a:Int} (ha:(a0E a G).isSome=true) (hno:a ∉ l0W m):SB G (5*m.length+1) (m.length+1) (k0Y a m):=by
 have e:a0E a m=none:=by
  cases e:a0E a m with
  |none=>rfl
  |some v=>exact absurd (i1I.1 (by rw[e];rfl)) hno
 have h1:SB G (5*m.length) m.length m:=⟨h.ok,by omega,h.pos,h.held,Nat.le_refl _⟩;have h2:=h1.see ha;exact⟨h2.ok,h2.b0,h2.pos,h2.held,by unfold k0Y;rw[i1J,e];simp⟩
theorem SB.seen {G:Gh} {B:Int} {N:Nat} {m:List (Int×Int)} (h:SB G B N m) (hb:B≤5*N):i0I G m:=
 ⟨h.ok,fun p hp=>⟨(h.pos p hp).1,by have:=(h.pos p hp).2;have:=h.len;omega⟩,h.held⟩
section
variable {s:St} {G:Gh} {P:List Int}
theorem Inv.kidOb (h:Inv s G P): ∀ {n:Nat} {a:Int},a0Y G n a→a≠0→0<a∧ ∃o,a0E a G=some o∧lev o=n+1
 |0,a,hk,hne=>by obtain⟨d,t,ho⟩:=hk.resolve_left hne;exact⟨(h.range ho).1,_,ho,rfl⟩
 |l+1,a,hk,hne=>by obtain⟨d,t,ho⟩:=hk.resolve_left hne;exact⟨(h.range ho).1,_,ho,rfl⟩
theorem Inv.partOf (h:Inv s G P) {a:Int} {d:B} {ats:List Int} (ho:a0E a G=some (.ext d ats)) {x:Int} (hx:x∈ats) (hne:x≠0):0<x∧ ∃b,a0E x G=some (.part b):=by
 obtain⟨_,_,h4,hp⟩:=h.typ a _ ho;obtain⟨k,hk,rfl⟩:=List.mem_iff_getElem.1 hx;have:=hp k (by omega);unfold u0S at this;have e:ats.getD k 0=ats[k]:=by rw[List.getD_eq_getElem?_getD,List.getElem?_eq_getElem hk];rfl
 rw[e]at this;split at this
 ·exact absurd this hne
 ·exact⟨(h.range this.2).1,_,this.2⟩
abbrev Seen (G:Gh) (n:Nat) (a:Int) (m t:List (Int×Int)):Prop:=i0I G t∧Rch G (n+1) (l0W m) (l0W t)∧(a≠0→a∈l0W t)
theorem d1Q {n:Nat} {f:Int→List (Int×Int)→List (Int×Int)} (hf: ∀k m,a0Y G n k→i0I G m→Seen G n k m (f k m)): ∀(ks:List Int) {m:List (Int×Int)},(∀k∈ks,a0Y G n k)→i0I G m→
 i0I G (ks.foldl (fun m k=>f k m) m)∧Rch G (n+1) (l0W m) (l0W (ks.foldl (fun m k=>f k m) m))∧ ∀k∈ks,k≠0→k∈l0W (ks.foldl (fun m k=>f k m) m)
 | [],m,_,hm=>⟨hm,Rch.refl _ _ _,fun k hk=>(by cases hk)⟩
 |k::ks,m,hk,hm=>by
  obtain⟨h1,h2,h3⟩:=hf k m (hk k List.mem_cons_self) hm;obtain⟨g1,g2,g3⟩:=d1Q hf ks (fun x hx=>hk x (List.mem_cons_of_mem _ hx)) h1;rw[List.foldl_cons];refine⟨g1,h2.trans g2,fun x hx hne=> ?_⟩;rcases List.mem_cons.1 hx with rfl|hx
  ·exact g2.sub _ (h3 hne)
  ·exact g3 x hx hne
theorem Inv.reach_ok (h:Inv s G P): ∀(n:Nat) (a:Int) (m:List (Int×Int)),a0Y G n a→i0I G m→Seen G n a m (e0V G n a m)
 |n,a,m,hk,hm=>by
  by_cases h0:a=0
  ·subst h0;have e:e0V G n 0 m=m:=by cases n<;>(unfold e0V;rw[if_pos];simp)
   rw[e];exact⟨hm,Rch.refl _ _ _,fun h=>absurd rfl h⟩
  obtain⟨hpos,o,ho,hlo⟩:=h.kidOb hk h0;by_cases hs:a∈l0W m
  ·have e:e0V G n a m=m:=by cases n<;>(unfold e0V;rw[if_pos];exact .inr (hm.in_.2 hs))
   rw[e];exact⟨hm,Rch.refl _ _ _,fun _=>hs⟩
  have hn: ¬0<(a0E a m).getD 0:=fun hh=>hs (hm.in_.1 hh);have hf:=hm.first (by rw[ho];rfl) hs;cases n with
  |zero=>
   obtain⟨d,ats,ho'⟩:=hk.resolve_left h0;rw[ho']at ho;cases ho;have e:e0V G 0 a m=(ats.filter (0< ·)).foldl (fun m k=>k0Y k m) (k0Y a m):=by
    unfold e0V c2Y;rw[if_neg (by omega),ho']
   rw[e];have h4:(ats.filter (0< ·)).length≤4:=by have:=List.length_filter_le (fun x:Int=>decide (0<x)) ats;have:=(h.typ a _ ho').2.2.1;omega
   obtain⟨g1,g2⟩:=hf.sees (ats.filter (0< ·)) fun k hk=>by
    obtain⟨k1,k2⟩:=List.mem_filter.1 hk;obtain⟨_,b,hb⟩:=h.partOf ho' k1 (by simp at k2;omega);rw[hb];rfl
   refine⟨g1.seen (by omega),Rch.step ho' rfl ⟨fun x hx=> ?_,fun x hx=> ?_,fun _ x _ o ho hl k hk _=> ?_⟩ fun k hk hne=> ?_,fun _=> ?_⟩
   ·rw[g2,x0M];exact .inr (List.mem_cons.1 hx)
   ·rw[g2,x0M]at hx;rcases hx with hx|hx|hx
    ·obtain⟨k1,k2⟩:=List.mem_filter.1 hx;obtain⟨_,b,hb⟩:=h.partOf ho' k1 (by simp at k2;omega);exact .inr ⟨_,hb,Nat.le_refl _⟩
    ·exact .inl (hx▸List.mem_cons_self)
    ·exact .inl (List.mem_cons_of_mem _ hx)
   ·cases o with
    |part b=>cases hk
    |ext d t=>exact absurd hl (by simp[lev])
    |node l ks t=>exact absurd hl (by simp[lev])
   ·rw[g2];have:=(h.partOf ho' hk hne).1;exact .inl (List.mem_filter.2 ⟨hk,by simpa using this⟩)
   ·rw[g2,x0M];exact .inr (.inl rfl)
  |succ l=>
   obtain⟨ks,sm,ho'⟩:=hk.resolve_left h0;rw[ho']at ho;cases ho;have e:e0V G (l+1) a m=ks.foldl (fun m k=>e0V G l k m) (k0Y a m):=by
    have ek:b0E G a=ks:=by unfold b0E;rw[ho']
    rw[z0A,if_neg (fun hh=>hh.elim h0 hn),ek]
   rw[e];obtain⟨g1,g2,g3⟩:=d1Q (n:=l) (f:=e0V G l) (fun k m hk hm=>h.reach_ok l k m hk hm) ks (h.typ a _ ho').2.2.2.1 (hf.seen (by omega));have g4:Rch G (l+1) (a::l0W m) (l0W (ks.foldl (fun m k=>e0V G l k m) (k0Y a m))):=g2.congr fun x=>by rw[x0M,List.mem_cons]
   exact⟨g1,Rch.step ho' rfl g4 g3,fun _=>g4.sub a List.mem_cons_self⟩
theorem s2J {x:Int} (hm:mok G) (hr:o0F G x≠0): ∃y o,a0E y G=some o∧x∈f0I o:=by
 have key: ∀L:Gh,(∀p∈L,x ∉ f0I p.2)→o0F L x=0:=fun L=>by
  induction L with
  |nil=>intro _;rfl
  |cons p L ih=>
   intro hL;rw[n0V,ih fun q hq=>hL q (List.mem_cons_of_mem _ hq),List.count_eq_zero.2 (hL p List.mem_cons_self)]
 refine Classical.byContradiction fun hno=>hr (key G fun p hp hx=>hno ⟨p.1,p.2,(e0Q hm).2 hp,hx⟩)
theorem Inv.atMost (h:Inv s G P):G.length≤65535:=by
 have h1:=h.hi;have h2:=h.cnt;have h3:=List.count_le_length (a:=1) (l:=s.g);omega
theorem Inv.reach0 (h:Inv s G P) {a:Int} {d:B} {ats:List Int} (ho:a0E a G=some (.ext d ats)) {m:List (Int×Int)} (hn: ¬0<(a0E a m).getD 0):e0V G 0 a m=(ats.filter (0< ·)).foldl (fun m k=>k0Y k m) (k0Y a m):=by
 have:=(h.range ho).1;unfold e0V c2Y;rw[if_neg (by omega),ho]
theorem Inv.allSeen (h:Inv s G P) {S:List Int} (hP: ∀p∈P,p≠0→p∈S) (hc:Cls G 4 S): ∀(n:Nat) (x:Int) (o:Ob),a0E x G=some o→4≤lev o+n→x∈S
 |n,x,o,ho,hl=>by
  have hne:=h.ne0 ho;have hp:=h.need_pos ho;unfold f0X at hp;by_cases h1:x∈P
  ·exact hP x h1 hne
  ·rw[List.count_eq_zero.2 h1,Nat.zero_add]at hp;obtain⟨y,oy,hy,hx⟩:=s2J h.nod hp;have hlt:lev o<lev oy∧lev oy≤4:=by
    cases oy with
    |part b=>cases hx
    |ext d ats=>
     obtain⟨_,b,hb⟩:=h.partOf hy hx hne;rw[ho]at hb;cases hb;exact⟨by simp[lev],by simp[lev]⟩
    |node l ks sm=>
     obtain⟨t1,_,_,t4,_⟩:=h.typ y _ hy;obtain⟨_,o2,h2,h3⟩:=h.kidOb (t4 x hx) hne;rw[ho]at h2;cases h2;exact⟨by rw[h3];exact Nat.lt_succ_self _,by show l+2≤4;omega⟩
   cases n with
   |zero=>omega
   |succ n=>exact hc y (h.allSeen hP hc n y oy hy (by omega)) oy hy hlt.2 x hx hne
theorem Inv.reachAll (h:Inv s G P) {roots:List Int} (hk: ∀r∈roots,a0Y G 3 r) (hP: ∀p∈P,p∈roots):
 i0I G (roots.foldl (fun m r=>e0V G 3 r m) [])∧(roots.foldl (fun m r=>e0V G 3 r m) []).length=s.g.count 1:=by
 have h0:i0I G []:=⟨List.nodup_nil,fun p hp=>(by cases hp),fun p hp=>(by cases hp)⟩;obtain⟨g1,g2,g3⟩:=d1Q (n:=3) (f:=e0V G 3) (fun k m hk hm=>h.reach_ok 3 k m hk hm) roots hk h0;refine⟨g1,Nat.le_antisymm (h.cnt▸g1.len) ?_⟩;have hall:=h.allSeen (fun p hp hne=>g3 p (hP p hp) hne) (g2.cls fun x hx=>(by cases hx));have:=List.Nodup.length_le_of_subset (l₁:=G.map (·.1)) (l₂:=l0W (roots.foldl (fun m r=>e0V G 3 r m) [])) (show(G.map (·.1)).Nodup from h.nod) fun x hx=>by
  obtain⟨o,ho⟩:=Option.isSome_iff_exists.1 (i1I.2 hx);exact hall 4 x o ho (by omega)
 rw[←h.cnt];simpa using this
end
end
end Go.Sb
namespace Go.Proofs.Q
section
open Go
end
section
open Go
end
section
open Go
end
section
open Go
end
section
open Go
end
section
open Go
end
section
open Go
end
section
open Go
end
section
open Go
end
section
open Go
end
end Go.Proofs.Q
namespace Go.Sb
section
section
variable {s:St} {G:Gh} {P:Rp}
theorem J.readIn (h:J s G P) {id at_ n:Int} {i:Nat} (hf:c0O P.l id=some i) (hb:m0B (P.l.getD i v0) at_ n=false):o0G id at_ n s=(.ok (m0C P id at_ n),s):=by
 obtain⟨hi,x,he,hx,hr⟩:=h.found hf;have hsz:=h.size hx;have hbad: ¬(at_<0∨n<0∨(P.l.getD i v0).size<at_∨(P.l.getD i v0).size-at_<n):=fun hh=>by unfold m0B at hb;rw[decide_eq_true hh]at hb;cases hb
 have hsv:=hr.size;have e1:=h.ci.read (at_:=at_.toNat) (n:=n.toNat) hx (by omega);rw[Int.toNat_of_nonneg (by omega),Int.toNat_of_nonneg (by omega)]at e1;rw[e1,i1H hr.map _ _ _ (Nat.le_refl _)];unfold m0C;rw[hf];simp only;rw[if_neg (by rw[hb];decide)]
theorem J.findOf (h:J s G P) {j:Nat} (hj:j<P.l.length):c0O P.l P.l[j].id=some j:=by
 unfold c0O;rw[List.findIdx?_eq_some_iff_getElem];exact⟨hj,by simp,fun k hk=>by simpa using d1P h.ord (by omega) hj (by omega)⟩
theorem J.sumDoc (h:J s G P) {v:Vp} (hv:v∈P.l):v0O v.id s=(.ok (dgR v.m 2 0,0),s):=by
 obtain⟨x,hx,hr⟩:=h.vol v hv;rw[h.sum hx,h.ci.inv.sumMapR (h.ci.kid _ (h.ci.mem hx)) hr.map]
theorem J.keys (h:J s G P) {xs:List Int} (hp:xs.Perm (s.vols.map (·.1))) (hs:xs.Pairwise (· < ·)):xs=P.l.map (·.id):=by
 have hm:=h.ci.inv.u.m.vols;have ho:(P.l.map (·.id)).Pairwise (· < ·):=List.pairwise_map.2 h.ord;refine List.Perm.eq_of_pairwise (le:=fun a b:Int=>a<b) (fun a b _ _ h1 h2=>by omega) hs ho (hp.trans ((List.perm_ext_iff_of_nodup hm (ho.imp fun h=>by omega)).2 fun k=> ?_));constructor
 ·intro hk;obtain⟨p,hp,rfl⟩:=List.mem_map.1 hk;obtain⟨v,hv,he⟩:=h.back p hp;exact List.mem_map.2 ⟨v,hv,he⟩
 ·intro hk;obtain⟨v,hv,rfl⟩:=List.mem_map.1 hk;obtain⟨x,hx,_⟩:=h.vol v hv;exact List.mem_map.2 ⟨_,h.ci.mem hx,rfl⟩
def x0N (s:St) (v:Vp):Int:=((a0E v.id s.vols).getD h0T).root
theorem J.rootKid (h:J s G P): ∀r∈P.l.map (x0N s),a0Y G 3 r:=fun r hr=>by
 obtain⟨v,hv,rfl⟩:=List.mem_map.1 hr;obtain⟨x,hx,_⟩:=h.vol v hv;unfold x0N;rw[hx];exact h.ci.kid _ (h.ci.mem hx)
theorem J.rootAll (h:J s G P): ∀p∈h0J s,p∈P.l.map (x0N s):=fun p hp=>by
 obtain⟨q,hq,rfl⟩:=List.mem_map.1 hp;obtain⟨v,hv,he⟩:=h.back q hq;refine List.mem_map.2 ⟨v,hv,?_⟩;unfold x0N;rw[he,(e0Q h.ci.inv.u.m.vols).2 (show(q.1,q.2)∈s.vols from hq)];rfl
end
end
section
def SmV (v:Vp):Prop:=(0≤v.parent∧v.parent<32)∧0≤v.born∧v.born<256
structure Sml (P:Rp):Prop where
 vol: ∀v∈P.l,SmV v
 ep:0≤P.epoch∧P.epoch<256
section
variable {P:Rp}
theorem Sml.radd (h:Sml P) {v:Vp} (hv:0≤v.parent∧v.parent<32):Sml (g0Q P v).1:=by
 unfold Go.Sb.g0Q;split
 ·exact h
 ·refine⟨fun u hu=> ?_,h.ep⟩;rcases List.mem_append.1 hu with hu|hu
  ·exact h.vol u hu
  ·rw[List.mem_singleton.1 hu];exact⟨hv,h.ep⟩
theorem Sml.set (h:Sml P) {i:Nat} {v:Vp} (hv:SmV v):Sml {P with l:=P.l.set i v} :=⟨fun u hu=>by
 rcases List.mem_or_eq_of_mem_set hu with hu|rfl
 ·exact h.vol u hu
 ·exact hv,h.ep⟩
theorem smV0:SmV v0:=⟨⟨Int.le_refl _,by decide⟩,Int.le_refl _,by decide⟩
theorem Sml.at_ (h:Sml P) (i:Nat):SmV (P.l.getD i v0):=by
 rw[List.getD_eq_getElem?_getD];cases e:P.l[i]? with
 |none=>exact smV0
 |some v=>exact h.vol v (List.mem_of_getElem? e)
theorem Sml.with_ (h:Sml P) (i:Nat) (m:List Lf):Sml (d0E P i m):=h.set (v:= {P.l.getD i v0 with m:=m}) (h.at_ i)
theorem Sml.write (h:Sml P) (id at_:Int) (data:B):Sml (j0E P id at_ data).1:=by
 cases hf:c0O P.l id with
 |none=>unfold j0E;rw[hf];exact h
 |some i=>
  obtain⟨hi,_⟩:=h0Z hf;rw[u0V hf]
  repeat' split
  all_goals first|exact h| (simp only;obtain⟨m,e⟩:=m0G i data.length P at_.toNat data hi;rw[e];exact h.with_ i m)
theorem Sml.trim (h:Sml P) (id at_ n:Int):Sml (l0J P id at_ n).1:=by
 cases hf:c0O P.l id with
 |none=>unfold l0J;rw[hf];exact h
 |some i=>
  obtain⟨hi,_⟩:=h0Z hf;rw[x0J hf]
  repeat' split
  all_goals first|exact h| (obtain⟨m,e⟩:=k0C i P at_.toNat (at_+n).toNat hi;rw[e];exact h.with_ i m)
theorem Sml.resize (h:Sml P) (id n:Int):Sml (g0U P id n).1:=by
 cases hf:c0O P.l id with
 |none=>unfold g0U;rw[hf];exact h
 |some i=>
  obtain⟨hi,_⟩:=h0Z hf;rw[s0Z hf];have:Sml (j0H P i n).1:=by
   unfold j0H;split
   ·obtain⟨m,e⟩:=k0C i P n.toNat (P.l.getD i v0).size.toNat hi;rw[e];exact h.with_ i m
   ·exact h
  repeat' split
  all_goals first|exact h|exact this.set (this.at_ i)
theorem Sml.delete (h:Sml P) (id:Int):Sml (g0T P id).1:=by
 unfold g0T;split
 ·exact h
 ·exact⟨fun u hu=>h.vol u (List.mem_of_mem_eraseIdx hu),h.ep⟩
theorem z0U {P Q R:Rp} {p:Prop} [Decidable p] (h:Q=if p then R else P) (hR:Sml R) (hP:Sml P):Sml Q:=by
 rw[h];split
 ·exact hR
 ·exact hP
theorem b1J.sml {k:Nat} {id at_ n e:Int} {data:B} {s t:St} {Q:Rp} (h:b1J k id at_ n data s P e t Q) (hk:k<14) (hid:0≤id∧id<32) (hs:Sml P):Sml Q:=by
 have hcase:k=0∨(k=1∨k=2)∨k=3∨k=4∨(4<k∧k<9)∨(k=9∨k=10)∨k=11∨k=12∨k=13:=by omega
 rcases hcase with hk|hk|hk|hk|hk|hk|hk|hk|hk
 ·obtain⟨_,_,_,_,_,h5⟩:=h.k0 hk;refine z0U h5 ?_ hs;unfold e0S;split
  ·exact hs
  ·exact hs.radd ⟨Int.le_refl (0:Int),(by decide:(0:Int)<32)⟩
 ·obtain⟨_,_,_,_,_,h5⟩:=h.k1 hk;refine z0U h5 ?_ hs;unfold i0N;split
  ·exact hs
  ·exact hs.radd hid
 ·exact z0U (h.k3 hk).2.2 (hs.delete _) hs
 ·exact z0U (h.k4 hk).2.2 (hs.resize _ _) hs
 ·exact z0U (h.k5 hk).2.2 (hs.write _ _ _) hs
 ·exact z0U (h.k9 hk).2.2 (hs.trim _ _ _) hs
 ·rw[(h.k11 hk).2.2];exact hs
 ·rw[(h.k12 hk).2.2];exact⟨hs.vol,by show 0≤n%256∧n%256<256;omega⟩
 ·rw[(h.k13 hk).2.2];exact hs
theorem sml0 (bits:Nat):Sml (rp0 bits):=⟨fun v hv=>(by cases hv),(by decide:(0:Int)≤1),(by decide:(1:Int)<256)⟩
end
end
theorem v2W (bits:Nat) (hb:1≤bits∧bits≤256):J (j0T (g0A (2498+2)) 2 bits 1) [] (rp0 bits):=
 ⟨CI.new (n:=2498) (bits:=bits) (by omega),rfl,(by decide:(1:Int)≤1),by show min (max bits 1) 256=bits;omega,rfl,rfl,List.Pairwise.nil,fun v hv=>(by cases hv),fun v hv=>(by cases hv),fun p hp=>(by cases hp)⟩
theorem m2V (bits:Nat):Bud 0 (j0T (g0A (2498+2)) 2 bits 1) (rp0 bits):=
 ⟨0,0,Nat.le_refl _,fun v hv=>(by cases hv),by have h:=s1O 2498 bits;omega⟩
end Go.Sb
namespace Go.Proofs.Q
section
open Go
end
end Go.Proofs.Q
namespace Go.Sl
open Go.ChangeShapes Go.WideShapes Go.ChangeAt Go.RowKit
section
def m2W (a b c d:Int) (s:ByteArray):List Value:= [.int .i64 a,.int .i64 b,.int .i64 c,.int .i64 d,.string s]
section
variable {H:Type} {enc:TypeId×Value→H} {P:Program} {W:World} {base:Nat} {sp:Nat→Bool} {hd:Bool}
theorem h2W {t:TypeId} {f0 f1 f2 f3 f4:Field} {fuel:Nat} {cs:List Value} {x:DataW H×List MemPlace} (ht:P.underlying t=some (.struct #[f0,f1,f2,f3,f4])) (hc:P.cellsOf t=5)
 (h0:f0.offset=0∧P.cellsOf f0.type=1∧P.underlying f0.type=some (.int .i64)) (h1:f1.offset=1∧P.cellsOf f1.type=1∧P.underlying f1.type=some (.int .i64))
 (h2:f2.offset=2∧P.cellsOf f2.type=1∧P.underlying f2.type=some (.int .i64)) (h3:f3.offset=3∧P.cellsOf f3.type=1∧P.underlying f3.type=some (.int .i64))
 (h4:f4.offset=4∧P.cellsOf f4.type=1∧P.underlying f4.type=some .string) (h:DataW.trod enc P W base sp hd fuel t cs=some x): ∃a b c d s,cs=m2W a b c d s:=by
 obtain⟨xs,n,_,_,hl,hlen,hf⟩:=DataW.trod_struct ht h;rw[hc]at hl;have hx:xs.length=5:=hlen
 match cs,hl with
 | [c0,c1,c2,c3,c4],_=>
  have g: ∀(i:Nat) (f:Field),#[f0,f1,f2,f3,f4][i]? =some f→ ∃y,DataW.trod enc P W base sp hd n f.type ((([c0,c1,c2,c3,c4]:List Value).drop f.offset).take (P.cellsOf f.type))=some y:=fun i f hi=>by
   have hi5:i<5:=(Array.getElem?_eq_some_iff.1 hi).1;refine⟨xs[i]'(by omega),?_⟩;rw[hf i f hi,List.getElem?_eq_getElem (by omega)]
  obtain⟨y0,g0⟩:=g 0 f0 rfl;obtain⟨y1,g1⟩:=g 1 f1 rfl;obtain⟨y2,g2⟩:=g 2 f2 rfl;obtain⟨y3,g3⟩:=g 3 f3 rfl;obtain⟨y4,g4⟩:=g 4 f4 rfl;rw[h0.1,h0.2.1]at g0;rw[h1.1,h1.2.1]at g1;rw[h2.1,h2.2.1]at g2;rw[h3.1,h3.2.1]at g3;rw[h4.1,h4.2.1]at g4;obtain⟨a,e0,_⟩:=DataW.trod_int h0.2.2 g0;obtain⟨b,e1,_⟩:=DataW.trod_int h1.2.2 g1;obtain⟨c,e2,_⟩:=DataW.trod_int h2.2.2 g2;obtain⟨d,e3,_⟩:=DataW.trod_int h3.2.2 g3;obtain⟨s,e4,_⟩:=DataW.trod_string h4.2.2 g4;simp only[List.drop_zero,List.drop_succ_cons,List.take_succ_cons,List.take_zero,List.cons.injEq,and_true]at e0 e1 e2 e3 e4;exact⟨a,b,c,d,s,by rw[e0,e1,e2,e3,e4];rfl⟩
theorem h2X {r:Reach} {b0:Nat} {t e:TypeId} {f0 f1 f2 f3 f4:Field} {v:Value} {dd:DataW H} {ps:List MemPlace} (hs:P.underlying t=some (.slice e)) (ht:P.underlying e=some (.struct #[f0,f1,f2,f3,f4])) (hc:P.cellsOf e=5)
 (h0:f0.offset=0∧P.cellsOf f0.type=1∧P.underlying f0.type=some (.int .i64)) (h1:f1.offset=1∧P.cellsOf f1.type=1∧P.underlying f1.type=some (.int .i64))
 (h2:f2.offset=2∧P.cellsOf f2.type=1∧P.underlying f2.type=some (.int .i64)) (h3:f3.offset=3∧P.cellsOf f3.type=1∧P.underlying f3.type=some (.int .i64))
 (h4:f4.offset=4∧P.cellsOf f4.type=1∧P.underlying f4.type=some .string) (hval:Value.okWide P W r b0 t v) (h:DataW.Trod enc P W base sp hd t v dd ps):
 ∃(p:Option Addr) (n cap:Nat),v= .slice p n cap∧n≤maxLen∧ ∀i,i<n→ ∃A,p=some A∧ ∃a b c d s,∀q u,(m2W a b c d s)[q]? =some u→W.cell? ((A.add (i*5)).add q)=some u:=by
 obtain⟨a0,len,cap,rfl⟩:=okWide_slice hs hval;obtain⟨fuel,hf⟩:=h;rcases DataW.trod_slice hs hf with ⟨hcs,_⟩| ⟨A,len',cap',elems,rest,n,_,hcs,_,hb,hl,hm,hlen,hel,_,_⟩
 ·simp[Value.cells]at hcs;obtain⟨rfl,rfl,rfl⟩:=hcs;exact⟨none,0,0,rfl,Nat.zero_le _,fun i hi=>absurd hi (Nat.not_lt_zero _)⟩
 ·simp[Value.cells]at hcs;obtain⟨rfl,rfl,rfl⟩:=hcs;refine⟨some A,len,cap,rfl,by omega,fun i hi=>⟨A,rfl,?_⟩⟩;have h5:=hel i hi;rw[hc,List.getElem?_eq_getElem (by omega),Option.bind_eq_some_iff]at h5;obtain⟨cs',g1,g2⟩:=h5;obtain⟨a,b,c,d,s,rfl⟩:=h2W ht hc h0 h1 h2 h3 h4 g2;obtain⟨_,_,g3⟩:=World.cells?_some g1;exact⟨a,b,c,d,s,fun q u hq=>by
   have hq5:q<5:=(List.getElem?_eq_some_iff.1 hq).1;rw[g3 q hq5];exact hq⟩
end
end
end Go.Sl
namespace Go.Sb
section
section
variable {s:St} {G:Gh} {P:List Int}
theorem y2J {d:B} {f q:Nat} (hd:d.length=256) (hf:f+q≤256) (r:B):s0Y d ((d.drop f).take q++r) f q=d:=by
 unfold s0Y;have h1:((d.drop f).take q).length=q:=by simp;omega
 rw[List.take_left' h1];rw[show d.drop (f+q)=(d.drop f).drop q by rw[List.drop_drop],List.append_assoc,List.take_append_drop,List.take_append_drop]
theorem y2K {x:Ent} {i:Nat} (h:Inv s G P) (hi:Idx s G) (hroot:a0Y G 3 x.root) (hi512:i<512) (hr:d0F 30 s) (hP:P.length<1000000):
 ∃s',r0K x i (a0W G x.root i) s=(.ok x,s')∧Inv s' G P∧Stp 5 0 s G s' G:=by
 obtain⟨a,ha⟩: ∃a,a=c0K G 2 x.root i:=⟨_,rfl⟩;have hk:a0Y G 0 a:=ha▸h.leafKid 2 hroot i;have hm:a0W G x.root i=d0B G a:=by unfold a0W;rw[if_pos hi512,ha]
 have hx:({x with root:=x.root} :Ent)=x:=rfl;rw[hm];unfold r0K;rcases hk with h0| ⟨d,ats,ho⟩
 ·have hz:d0B G a=a0K 256:=by unfold d0B;rw[h0,h.zero]
  have e1:i0Q (d0B G a) s=(.ok 0,s):=by
   rw[hz];unfold i0Q;rw[if_neg (by rw[f0Z];omega),if_pos (d0L _)];rfl
  have e2:l0P x.root i 0 s=(.ok x.root,s):=by
   unfold l0P;rw[a0A (h.rget 2 hroot i),←ha,h0,if_pos rfl];have:g0D 0 s=(.ok (),s):=by unfold g0D;rw[if_pos rfl];rfl
   rw[a0A this];rfl
  rw[a0A e1,a0A e2];exact⟨s,rfl,h,(Stp.refl h hi).mono (by omega) (by omega)⟩
 ·have hd:d0B G a=d:=by unfold d0B;rw[ho]
  obtain⟨t1,t2,_,_⟩:=h.typ a _ ho;have hl:=hr.l;obtain⟨s1,e1,i1,r1,x1,k1,v1,n1⟩:=h.more ho hr.d (by omega) (by omega);have hl1:=r1.len;obtain⟨s2,e2,i2,r2,x2,k2,v2,n2⟩:=i1.less2 ho (by rw[r1.depth];exact hr.d) (by omega) hP (h.need_pos ho);have ep:i0Q (d0B G a) s=(.ok a,s1):=by
   rw[hd];unfold i0Q;rw[if_neg (by omega),if_neg (by rw[t2];decide)];rw[(hi _ _).2 ⟨d,ats,ho,rfl⟩];simp only;rw[a0A (h.xget ho),if_neg (fun hh=>hh rfl),a0A e1];rfl
  have hroot1:=hroot;have em:l0P x.root i a s1=(.ok x.root,s2):=by
   unfold l0P;rw[a0A (i1.rget 2 hroot i),←ha,if_pos rfl];have:g0D a s1=(.ok (),s2):=by
    unfold g0D;rw[if_neg (h.ne0 ho),a0A (i1.xhead ho),a0A e2];rfl
   rw[a0A this];rfl
  rw[a0A ep,a0A em];refine⟨s2,rfl,i2,⟨r1.trans r2,fun k b=> ?_,fun _ _ h=> .inl h,k2.trans k1,v2.trans v1,n2.trans n1⟩⟩;rw[x2,x1,r2.bits,r1.bits];exact hi k b
theorem y2I {x:Ent} (hroot:a0Y G 3 x.root) (hP:P.length<1000000): ∀(n k q at_:Nat) {s:St},Inv s G P→Idx s G→q≤k→at_+q≤2048→d0F (q*5+30) s→
 ∃s',j0L n x at_ (b1D (a0W G x.root) k at_ q) s=(.ok x,s')∧Inv s' G P∧Stp (q*5) 0 s G s' G
 |0,k,q,at_,s,h,hi,_,_,_=>⟨s,rfl,h,(Stp.refl h hi).mono (by omega) (by omega)⟩
 |n+1,0,q,at_,s,h,hi,_,_,_=>⟨s,by unfold j0L b1D;rw[if_pos rfl];rfl,h,(Stp.refl h hi).mono (by omega) (by omega)⟩
 |n+1,k+1,q,at_,s,h,hi,hq,hat,hr=>by
  by_cases h0:q=0
  ·refine⟨s,?_,h,(Stp.refl h hi).mono (by omega) (by omega)⟩;unfold j0L b1D;rw[if_pos h0,if_pos rfl];rfl
  ·have hi512:at_/4<512:=by omega
   have hwl:=h.map_len hroot (at_/4);have e1:=h.cget hroot hi512;obtain⟨p,hp⟩: ∃p,p=min q (4-at_%4):=⟨_,rfl⟩;have hp1:1≤p∧p≤q∧at_%4+p≤4:=by omega
   have hall: ∀j,(a0W G x.root j).length=256:=fun j=>h.map_len hroot j;have hrl:=y2F hall k (at_+p) (q-p) (by omega);have hpl:(((a0W G x.root (at_/4)).drop (at_%4*64)).take (p*64)).length=p*64:=by simp;omega
   have hrd:b1D (a0W G x.root) (k+1) at_ q=((a0W G x.root (at_/4)).drop (at_%4*64)).take (p*64)++b1D (a0W G x.root) k (at_+p) (q-p):=by
    conv=>lhs;unfold b1D
    rw[if_neg h0,←hp]
   obtain⟨rest,hrest⟩: ∃r,r=b1D (a0W G x.root) k (at_+p) (q-p):=⟨_,rfl⟩;rw[←hrest]at hrl hrd;have hmin:min (b1D (a0W G x.root) (k+1) at_ q).length (256-at_%4*64)=p*64:=by rw[hrd,List.length_append,hpl,hrl];omega
   have hne:b1D (a0W G x.root) (k+1) at_ q≠ []:=fun e=>by have:=congrArg List.length e;rw[hrd,List.length_append,hpl]at this;simp at this;omega
   obtain⟨s1,e2,i1,t1⟩:=y2K h (i:=at_/4) hi hroot hi512 (hr.le (by omega)) hP;obtain⟨s2,e3,i2,t2⟩:=y2I hroot hP n k (q-p) (at_+p) i1 t1.idx (by omega) (by omega) ((hr.le (by omega:5+((q-p)*5+30)≤_)).go t1.rel);refine⟨s2,?_,i2,(t1.trans t2).mono (by omega) (by omega)⟩;unfold j0L;rw[if_neg hne];rw[hmin,a0A e1];have hmix:(a0W G x.root (at_/4)).take (at_%4*64)++(b1D (a0W G x.root) (k+1) at_ q).take (p*64)++(a0W G x.root (at_/4)).drop (at_%4*64+p*64)=a0W G x.root (at_/4):=by
    rw[hrd];exact y2J hwl (by omega) rest
   rw[hmix,a0A e2,hrd,List.drop_left' hpl,show p*64/64=p by omega,hrest];exact e3
end
section
variable {s:St} {G:Gh} {P:Rp}
theorem y2L (h:J s G P) {j:Nat} (hj:j<P.l.length) {x:Ent} (hx:a0E P.l[j].id s.vols=some x) (hr:c2T G P.l[j] x) {m:M Unit} {f:M Ent} {u:St} {C:Nat} (e0:m (start s 0)=a0B f l0Q (start s 0)) (ef:f (start s 0)=(.ok x,u))
 (i2:Inv u G (x.root::k0X s P.l[j].id)) (t2:Stp C 0 (start s 0) G u G) (hC:C≤900000000): ∃s',a0B (h0V (e0O 0 m)) (fun r=>ret r.1) s=(.ok 0,s')∧J s' G P∧b0K s≤b0K s':=by
 have hsz:=h.size hx;obtain⟨s',e3,c3,v3,o3,q1,q2,q3,q4⟩:=h.ci.edited hx e0 ef hsz.1 hsz.2 i2 t2 (h.ci.kid _ (h.ci.mem hx)) (fun p hp=>⟨h.ci.othersKid _ p hp,rfl⟩) hC;refine⟨s',by rw[a0A e3];rfl,?_,by omega⟩;have:=h.set (i:=j) (v:=P.l[j]) hj (by rw[r0B hj]) hx c3 v3 o3 q1 q2 q3 rfl hr;rw[List.set_getElem_self]at this;exact this
theorem J.writeSame (h:J s G P) {j:Nat} (hj:j<P.l.length) (ho:P.l[j].only=false) {a n:Nat} (ha:((a+n:Nat):Int)≤P.l[j].size): ∃s',h0I P.l[j].id a (m0C P P.l[j].id a n).1 s=(.ok 0,s')∧J s' G P∧b0K s≤b0K s':=by
 obtain⟨x,hx,hr⟩:=h.vol _ (List.getElem_mem hj);have hsz:=h.size hx;have hsv:=hr.size;have hroot:=h.ci.kid _ (h.ci.mem hx);have hall: ∀j,(a0W G x.root j).length=256:=fun j=>h.ci.inv.map_len hroot j;have hd:(m0C P P.l[j].id a n).1=b1D (a0W G x.root) n a n:=by
  unfold m0C;rw[h.findOf hj];simp only;rw[r0B hj,if_neg (by unfold m0B;simp;omega),i1H hr.map _ _ _ (Nat.le_refl _),Int.toNat_natCast,Int.toNat_natCast]
 have hl:=y2F hall n a n (Nat.le_refl _);rw[hd];have hop:=h.ci.copened hx (show x.only=false by rw[hr.only];exact ho);have hol:=h.ci.othersLen hx;obtain⟨u,e1,i1,t1⟩:=y2I (x:=x) (P:=x.root::k0X s P.l[j].id) hroot (by simp;omega) (b1D (a0W G x.root) n a n).length n n a (h.ci.roots hx) (h.ci.start 0).2 (Nat.le_refl _) (by omega) (g1K h.ci (by omega) 0);refine y2L h hj hx hr ?_ (show e0N x a _ _=_ from e1) i1 t1 (by omega);unfold i0H;rw[a0A hop,if_neg (by omega),show(((b1D (a0W G x.root) n a n).length/64:Nat):Int)=(n:Nat) by omega,a0A (g1L (by omega) (by omega) _),Int.toNat_natCast]
theorem J.writeNone (h:J s G P) {j:Nat} (hj:j<P.l.length) (ho:P.l[j].only=false) {a:Nat} (ha:(a:Int)≤P.l[j].size): ∃s',h0I P.l[j].id a [] s=(.ok 0,s')∧J s' G P∧b0K s≤b0K s':=by
 have h1:=h.writeSame hj ho (a:=a) (n:=0) (by simpa using ha);have h2:(m0C P P.l[j].id a (0:Nat)).1= []:=by
  unfold m0C;rw[h.findOf hj];simp only;rw[r0B hj,if_neg (by unfold m0B;simp;omega)];rfl
 rw[h2]at h1;exact h1
theorem J.trimNone (h:J s G P) {j:Nat} (hj:j<P.l.length) (ho:P.l[j].only=false) {a:Nat} (ha:(a:Int)≤P.l[j].size): ∃s',x0G P.l[j].id a 0 s=(.ok 0,s')∧J s' G P∧b0K s≤b0K s':=by
 obtain⟨x,hx,hr⟩:=h.vol _ (List.getElem_mem hj);have hsz:=h.size hx;have hsv:=hr.size;have hop:=h.ci.copened hx (show x.only=false by rw[hr.only];exact ho);refine y2L h hj hx hr (f:=h0K x a a) (u:=start s 0) ?_ ?_ (h.ci.roots hx) (Stp.refl (h.ci.roots hx) (h.ci.start 0).2) (by omega)
 ·unfold r0D;rw[a0A hop,a0A (show g0S x (a:Int) 0 (start s 0)=_ from g1L (n:=0) (by omega) (by omega) _),Int.toNat_natCast,show((a:Int)+0).toNat=a by omega]
 ·unfold h0K;rw[if_neg (by omega),if_pos (by omega),Nat.sub_self];rfl
theorem J.resizeSame (h:J s G P) {j:Nat} (hj:j<P.l.length) (ho:P.l[j].only=false): ∃s',r0V P.l[j].id P.l[j].size s=(.ok 0,s')∧J s' G P∧b0K s≤b0K s':=by
 obtain⟨x,hx,hr⟩:=h.vol _ (List.getElem_mem hj);have hsz:=h.size hx;have hsv:=hr.size;have hop:=h.ci.copened hx (show x.only=false by rw[hr.only];exact ho);refine y2L h hj hx hr (f:=ret x) (u:=start s 0) ?_ rfl (h.ci.roots hx) (Stp.refl (h.ci.roots hx) (h.ci.start 0).2) (by omega);unfold l0L;rw[a0A hop,if_neg (by omega),if_neg (by omega)];have e1:(ret x:M Ent) (start s 0)=(.ok x,start s 0):=rfl;rw[a0A e1,a0A e1,←hsv]
theorem J.heldSame {s':St} (h:J s G P) (h':J s' G P):q2E s'=q2E s:=h'.ci.inv.cnt.symm.trans h.ci.inv.cnt
end
end
end Go.Sb
