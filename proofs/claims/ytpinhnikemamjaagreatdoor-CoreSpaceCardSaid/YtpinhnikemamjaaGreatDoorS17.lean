/- Part of the proof; no statement of its own. -/
import Derived.Test.YtpinhnikemamjaaGreatDoorS16
import Derived.Test.YtpinhnikemamjaaGreatDoorProg
import Derived.KernelRfl
import Derived.Test.YtpinhnikemamjaaGreatDoorS08
import Derived.Test.YtpinhnikemamjaaGreatDoorS04
import Derived.ChangeArms
import Derived.DataReads
import Derived.Test.YtpinhnikemamjaaGreatDoorS15
set_option linter.all false
set_option maxRecDepth 4000
set_option maxHeartbeats 4000000
namespace Go.Sb
section
def l0M (k:Int) (m:List (Int×Int)):List (Int×Int):=b0O k ((a0C k m).getD 0+1) m
def e2W (G:Gh) (a:Int):List Int:=match a0C a G with|some (.ext _ ats)=>ats|_=> []
def f0D (G:Gh):Nat→Int→List (Int×Int)→List (Int×Int)
 |0,a,m=>if a≤0∨0<(a0C a m).getD 0 then m else((e2W G a).filter (0< ·)).foldl (fun m k=>l0M k m) (l0M a m)
 |l+1,a,m=>if a=0∨0<(a0C a m).getD 0 then m else(b0G G a).foldl (fun m k=>f0D G l k m) (l0M a m)
theorem z0V (G:Gh) (l:Nat) (a:Int) (m:List (Int×Int)):f0D G (l+1) a m=if a=0∨0<(a0C a m).getD 0 then m else(b0G G a).foldl (fun m k=>f0D G l k m) (l0M a m):=rfl
def lev:Ob→Nat
 | .part _=>0
 | .ext _ _=>1
 | .node l _ _=>l+2
def Cls (G:Gh) (n:Nat) (S:List Int):Prop:= ∀x∈S,∀o,a0C x G=some o→lev o≤n→ ∀k∈d0O o,k≠0→k∈S
structure Rch (G:Gh) (n:Nat) (S T:List Int):Prop where
 sub: ∀x∈S,x∈T
 new: ∀x∈T,x∈S∨ ∃o,a0C x G=some o∧lev o≤n
 cls:Cls G n S→Cls G n T
theorem Rch.refl (G:Gh) (n:Nat) (S:List Int):Rch G n S S:=⟨fun _ h=>h,fun _ h=> .inl h,id⟩
theorem Rch.trans {G:Gh} {n:Nat} {S T U:List Int} (h:Rch G n S T) (k:Rch G n T U):Rch G n S U:=
 ⟨fun x hx=>k.sub x (h.sub x hx),fun x hx=>(k.new x hx).elim (h.new x) .inr,fun hc=>k.cls (h.cls hc)⟩
theorem Rch.step {G:Gh} {n:Nat} {S T:List Int} {a:Int} {o:Ob} (ho:a0C a G=some o) (hl:lev o=n+1) (h:Rch G n (a::S) T) (hk: ∀k∈d0O o,k≠0→k∈T):Rch G (n+1) S T:=by
 refine⟨fun x hx=>h.sub x (List.mem_cons_of_mem _ hx),fun x hx=> ?_,fun hc x hx o' ho' hle k hk' hne=> ?_⟩
 ·rcases h.new x hx with h1| ⟨o',h1,h2⟩
  ·rcases List.mem_cons.1 h1 with rfl|h1
   ·exact .inr ⟨o,ho,by omega⟩
   ·exact .inl h1
  ·exact .inr ⟨o',h1,by omega⟩
 ·by_cases hle':lev o'≤n
  ·refine h.cls (fun y hy oy hoy hly k hk hne=> ?_) x hx o' ho' hle' k hk' hne;rcases List.mem_cons.1 hy with rfl|hy
   ·rw[ho]at hoy;cases hoy;omega
   ·exact List.mem_cons_of_mem _ (hc y hy oy hoy (by omega) k hk hne)
  ·rcases h.new x hx with h1| ⟨o2,h1,h2⟩
   ·rcases List.mem_cons.1 h1 with rfl|h1
    ·rw[ho]at ho';cases ho';exact hk k hk' hne
    ·exact h.sub _ (List.mem_cons_of_mem _ (hc x h1 o' ho' hle k hk' hne))
   ·rw[ho']at h1;cases h1;exact absurd h2 hle'
structure i0Z (G:Gh) (m:List (Int×Int)):Prop where
 ok:mok m
 pos: ∀p∈m,1≤p.2∧p.2≤5*(m.length:Int)
 held: ∀p∈m,(a0C p.1 G).isSome=true
theorem i0Z.len {G:Gh} {m:List (Int×Int)} (h:i0Z G m):m.length≤G.length:=by
 have:=List.Nodup.length_le_of_subset (l₁:=m.map (·.1)) (l₂:=G.map (·.1)) (show(m.map (·.1)).Nodup from h.ok) fun x hx=>by
  obtain⟨p,hp,rfl⟩:=List.mem_map.1 hx;have:=h.held p hp;exact Classical.byContradiction fun hn=>by rw[z0A hn]at this;cases this
 simpa using this
theorem u0M {K V:Type} [DecidableEq K] {k:K} {m:List (K×V)} :(a0C k m).isSome=true↔k∈m.map (·.1):=by
 induction m with
 |nil=>simp[a0C]
 |cons p m ih=>
  obtain⟨j,v⟩:=p;rw[d0G];by_cases e:j=k
  ·simp[e]
  ·rw[if_neg e,ih,List.map_cons,List.mem_cons];exact⟨.inr,fun h=>h.elim (fun h=>absurd h.symm e) id⟩
theorem i0Z.in_ {G:Gh} {m:List (Int×Int)} (h:i0Z G m) {a:Int} :0<(a0C a m).getD 0↔a∈m.map (·.1):=by
 rw[←u0M];cases e:a0C a m with
 |none=>simp
 |some v=>
  have:=h.pos _ ((e0D h.ok).1 e);simp only[Option.getD_some,Option.isSome_some,iff_true];simp only at this;omega
abbrev m0M (m:List (Int×Int)):List Int:=m.map (·.1)
theorem j1R {k v:Int} : ∀ {m:List (Int×Int)},(b0O k v m).length=if(a0C k m).isSome then m.length else m.length+1
 | []=>rfl
 | (j,u)::m=>by
  rw[d0G];by_cases e:j=k
  ·rw[if_pos e];subst e;simp[b0O]
  ·rw[if_neg e];have:= @j1R k v m;simp only[b0O,if_neg e,List.length_cons,this];split<;>rfl
theorem o1J {k v:Int} {p:Int×Int} : ∀ {m:List (Int×Int)},p∈b0O k v m→p=(k,v)∨p∈m
 | [],h=> .inl (List.mem_singleton.1 h)
 | (j,u)::m,h=>by
  by_cases e:j=k
  ·simp only[b0O,if_pos e]at h;rcases List.mem_cons.1 h with h|h
   ·exact .inl h
   ·exact .inr (List.mem_cons_of_mem _ h)
  ·simp only[b0O,if_neg e]at h;rcases List.mem_cons.1 h with h|h
   ·exact .inr (h▸List.mem_cons_self)
   ·exact(o1J h).imp id (List.mem_cons_of_mem _)
structure SB (G:Gh) (B:Int) (N:Nat) (m:List (Int×Int)):Prop where
 ok:mok m
 b0:0≤B
 pos: ∀p∈m,1≤p.2∧p.2≤B
 held: ∀p∈m,(a0C p.1 G).isSome=true
 len:N≤m.length
theorem SB.val {G:Gh} {B:Int} {N:Nat} {m:List (Int×Int)} (h:SB G B N m) (k:Int):0≤(a0C k m).getD 0∧(a0C k m).getD 0≤B:=by
 cases e:a0C k m with
 |none=>exact⟨Int.le_refl _,h.b0⟩
 |some v=>have:=h.pos _ ((e0D h.ok).1 e);simp only at this;simp only[Option.getD_some];omega
theorem i0Z.sb {G:Gh} {m:List (Int×Int)} (h:i0Z G m):SB G (5*m.length) m.length m:=⟨h.ok,by omega,h.pos,h.held,Nat.le_refl _⟩
theorem SB.see {G:Gh} {B:Int} {N:Nat} {m:List (Int×Int)} (h:SB G B N m) {k:Int} (hk:(a0C k G).isSome=true):SB G (B+1) N (l0M k m):=by
 have hv:=h.val k;have:=h.b0;refine⟨k0E _ _ h.ok,by omega,fun p hp=> ?_,fun p hp=> ?_,?_⟩
 ·rcases o1J hp with rfl|hp
  ·simp only;omega
  ·have:=h.pos p hp;omega
 ·rcases o1J hp with rfl|hp
  ·exact hk
  ·exact h.held p hp
 ·unfold l0M;rw[j1R];have:=h.len;split<;>omega
theorem y0G {k x:Int} {m:List (Int×Int)} :x∈m0M (l0M k m)↔x=k∨x∈m0M m:=i1Z
theorem SB.sees {G:Gh} {N:Nat} : ∀(ks:List Int) {B:Int} {m:List (Int×Int)},SB G B N m→(∀k∈ks,(a0C k G).isSome=true)→SB G (B+ks.length) N (ks.foldl (fun m k=>l0M k m) m)∧ ∀x,x∈m0M (ks.foldl (fun m k=>l0M k m) m)↔x∈ks∨x∈m0M m
 | [],B,m,h,_=>⟨by simpa using h,fun x=>by simp⟩
 |k::ks,B,m,h,hk=>by
  obtain⟨h1,h2⟩:=SB.sees ks (h.see (hk k List.mem_cons_self)) fun x hx=>hk x (List.mem_cons_of_mem _ hx);rw[List.foldl_cons];refine⟨by rw[List.length_cons,show B+((ks.length+1:Nat):Int)=B+1+(ks.length:Int) by omega];exact h1,fun x=> ?_⟩;rw[h2,y0G,List.mem_cons];constructor
  ·rintro(h|h|h)
   ·exact .inl (.inr h)
   ·exact .inl (.inl h)
   ·exact .inr h
  ·rintro((h|h)|h)
   ·exact .inr (.inl h)
   ·exact .inl h
   ·exact .inr (.inr h)
theorem Rch.congr {G:Gh} {n:Nat} {S S' T:List Int} (hs: ∀x,x∈S↔x∈S') (h:Rch G n S T):Rch G n S' T:=
 ⟨fun x hx=>h.sub x ((hs x).2 hx),fun x hx=>(h.new x hx).imp (hs x).1 id,fun hc=>h.cls fun x hx o ho hl k hk hne=>(hs k).2 (hc x ((hs x).1 hx) o ho hl k hk hne)⟩
theorem i0Z.first {G:Gh} {m:List (Int×Int)} (h:i0Z G m) {a:Int} (ha:(a0C a G).isSome=true) (hno:a ∉ m0M m):SB G (5*m.length+1) (m.length+1) (l0M a m):=by
 have e:a0C a m=none:=by
  cases e:a0C a m with
  |none=>rfl
  |some v=>exact absurd (u0M.1 (by rw[e];rfl)) hno
 have h1:SB G (5*m.length) m.length m:=⟨h.ok,by omega,h.pos,h.held,Nat.le_refl _⟩;have h2:=h1.see ha;exact⟨h2.ok,h2.b0,h2.pos,h2.held,by unfold l0M;rw[j1R,e];simp⟩
theorem SB.seen {G:Gh} {B:Int} {N:Nat} {m:List (Int×Int)} (h:SB G B N m) (hb:B≤5*N):i0Z G m:=
 ⟨h.ok,fun p hp=>⟨(h.pos p hp).1,by have:=(h.pos p hp).2;have:=h.len;omega⟩,h.held⟩
section
variable {s:St} {G:Gh} {P:List Int}
theorem Inv.kidOb (h:Inv s G P): ∀ {n:Nat} {a:Int},a0W G n a→a≠0→0<a∧ ∃o,a0C a G=some o∧lev o=n+1
 |0,a,hk,hne=>by obtain⟨d,t,ho⟩:=hk.resolve_left hne;exact⟨(h.range ho).1,_,ho,rfl⟩
 |l+1,a,hk,hne=>by obtain⟨d,t,ho⟩:=hk.resolve_left hne;exact⟨(h.range ho).1,_,ho,rfl⟩
theorem Inv.partOf (h:Inv s G P) {a:Int} {d:B} {ats:List Int} (ho:a0C a G=some (.ext d ats)) {x:Int} (hx:x∈ats) (hne:x≠0):0<x∧ ∃b,a0C x G=some (.part b):=by
 obtain⟨_,_,h4,hp⟩:=h.typ a _ ho;obtain⟨k,hk,rfl⟩:=List.mem_iff_getElem.1 hx;have:=hp k (by omega);unfold v0S at this;have e:ats.getD k 0=ats[k]:=by rw[List.getD_eq_getElem?_getD,List.getElem?_eq_getElem hk];rfl
 rw[e]at this;split at this
 ·exact absurd this hne
 ·exact⟨(h.range this.2).1,_,this.2⟩
abbrev Seen (G:Gh) (n:Nat) (a:Int) (m t:List (Int×Int)):Prop:=i0Z G t∧Rch G (n+1) (m0M m) (m0M t)∧(a≠0→a∈m0M t)
theorem e1T {n:Nat} {f:Int→List (Int×Int)→List (Int×Int)} (hf: ∀k m,a0W G n k→i0Z G m→Seen G n k m (f k m)): ∀(ks:List Int) {m:List (Int×Int)},(∀k∈ks,a0W G n k)→i0Z G m→
 i0Z G (ks.foldl (fun m k=>f k m) m)∧Rch G (n+1) (m0M m) (m0M (ks.foldl (fun m k=>f k m) m))∧ ∀k∈ks,k≠0→k∈m0M (ks.foldl (fun m k=>f k m) m)
 | [],m,_,hm=>⟨hm,Rch.refl _ _ _,fun k hk=>(by cases hk)⟩
 |k::ks,m,hk,hm=>by
  obtain⟨h1,h2,h3⟩:=hf k m (hk k List.mem_cons_self) hm;obtain⟨g1,g2,g3⟩:=e1T hf ks (fun x hx=>hk x (List.mem_cons_of_mem _ hx)) h1;rw[List.foldl_cons];refine⟨g1,h2.trans g2,fun x hx hne=> ?_⟩;rcases List.mem_cons.1 hx with rfl|hx
  ·exact g2.sub _ (h3 hne)
  ·exact g3 x hx hne
theorem Inv.reach_ok (h:Inv s G P): ∀(n:Nat) (a:Int) (m:List (Int×Int)),a0W G n a→i0Z G m→Seen G n a m (f0D G n a m)
 |n,a,m,hk,hm=>by
  by_cases h0:a=0
  ·subst h0;have e:f0D G n 0 m=m:=by cases n<;>(unfold f0D;rw[if_pos];simp)
   rw[e];exact⟨hm,Rch.refl _ _ _,fun h=>absurd rfl h⟩
  obtain⟨hpos,o,ho,hlo⟩:=h.kidOb hk h0;by_cases hs:a∈m0M m
  ·have e:f0D G n a m=m:=by cases n<;>(unfold f0D;rw[if_pos];exact .inr (hm.in_.2 hs))
   rw[e];exact⟨hm,Rch.refl _ _ _,fun _=>hs⟩
  have hn: ¬0<(a0C a m).getD 0:=fun hh=>hs (hm.in_.1 hh);have hf:=hm.first (by rw[ho];rfl) hs;cases n with
  |zero=>
   obtain⟨d,ats,ho'⟩:=hk.resolve_left h0;rw[ho']at ho;cases ho;have e:f0D G 0 a m=(ats.filter (0< ·)).foldl (fun m k=>l0M k m) (l0M a m):=by
    unfold f0D e2W;rw[if_neg (by omega),ho']
   rw[e];have h4:(ats.filter (0< ·)).length≤4:=by have:=List.length_filter_le (fun x:Int=>decide (0<x)) ats;have:=(h.typ a _ ho').2.2.1;omega
   obtain⟨g1,g2⟩:=hf.sees (ats.filter (0< ·)) fun k hk=>by
    obtain⟨k1,k2⟩:=List.mem_filter.1 hk;obtain⟨_,b,hb⟩:=h.partOf ho' k1 (by simp at k2;omega);rw[hb];rfl
   refine⟨g1.seen (by omega),Rch.step ho' rfl ⟨fun x hx=> ?_,fun x hx=> ?_,fun _ x _ o ho hl k hk _=> ?_⟩ fun k hk hne=> ?_,fun _=> ?_⟩
   ·rw[g2,y0G];exact .inr (List.mem_cons.1 hx)
   ·rw[g2,y0G]at hx;rcases hx with hx|hx|hx
    ·obtain⟨k1,k2⟩:=List.mem_filter.1 hx;obtain⟨_,b,hb⟩:=h.partOf ho' k1 (by simp at k2;omega);exact .inr ⟨_,hb,Nat.le_refl _⟩
    ·exact .inl (hx▸List.mem_cons_self)
    ·exact .inl (List.mem_cons_of_mem _ hx)
   ·cases o with
    |part b=>cases hk
    |ext d t=>exact absurd hl (by simp[lev])
    |node l ks t=>exact absurd hl (by simp[lev])
   ·rw[g2];have:=(h.partOf ho' hk hne).1;exact .inl (List.mem_filter.2 ⟨hk,by simpa using this⟩)
   ·rw[g2,y0G];exact .inr (.inl rfl)
  |succ l=>
   obtain⟨ks,sm,ho'⟩:=hk.resolve_left h0;rw[ho']at ho;cases ho;have e:f0D G (l+1) a m=ks.foldl (fun m k=>f0D G l k m) (l0M a m):=by
    have ek:b0G G a=ks:=by unfold b0G;rw[ho']
    rw[z0V,if_neg (fun hh=>hh.elim h0 hn),ek]
   rw[e];obtain⟨g1,g2,g3⟩:=e1T (n:=l) (f:=f0D G l) (fun k m hk hm=>h.reach_ok l k m hk hm) ks (h.typ a _ ho').2.2.2.1 (hf.seen (by omega));have g4:Rch G (l+1) (a::m0M m) (m0M (ks.foldl (fun m k=>f0D G l k m) (l0M a m))):=g2.congr fun x=>by rw[y0G,List.mem_cons]
   exact⟨g1,Rch.step ho' rfl g4 g3,fun _=>g4.sub a List.mem_cons_self⟩
theorem u2I {x:Int} (hm:mok G) (hr:n0C G x≠0): ∃y o,a0C y G=some o∧x∈d0O o:=by
 have key: ∀L:Gh,(∀p∈L,x ∉ d0O p.2)→n0C L x=0:=fun L=>by
  induction L with
  |nil=>intro _;rfl
  |cons p L ih=>
   intro hL;rw[o0L,ih fun q hq=>hL q (List.mem_cons_of_mem _ hq),List.count_eq_zero.2 (hL p List.mem_cons_self)]
 refine Classical.byContradiction fun hno=>hr (key G fun p hp hx=>hno ⟨p.1,p.2,(e0D hm).2 hp,hx⟩)
theorem Inv.atMost (h:Inv s G P):G.length≤65535:=by
 have h1:=h.hi;have h2:=h.cnt;have h3:=List.count_le_length (a:=1) (l:=s.g);omega
theorem Inv.reach0 (h:Inv s G P) {a:Int} {d:B} {ats:List Int} (ho:a0C a G=some (.ext d ats)) {m:List (Int×Int)} (hn: ¬0<(a0C a m).getD 0):f0D G 0 a m=(ats.filter (0< ·)).foldl (fun m k=>l0M k m) (l0M a m):=by
 have:=(h.range ho).1;unfold f0D e2W;rw[if_neg (by omega),ho]
theorem Inv.allSeen (h:Inv s G P) {S:List Int} (hP: ∀p∈P,p≠0→p∈S) (hc:Cls G 4 S): ∀(n:Nat) (x:Int) (o:Ob),a0C x G=some o→4≤lev o+n→x∈S
 |n,x,o,ho,hl=>by
  have hne:=h.ne0 ho;have hp:=h.need_pos ho;unfold f0C at hp;by_cases h1:x∈P
  ·exact hP x h1 hne
  ·rw[List.count_eq_zero.2 h1,Nat.zero_add]at hp;obtain⟨y,oy,hy,hx⟩:=u2I h.nod hp;have hlt:lev o<lev oy∧lev oy≤4:=by
    cases oy with
    |part b=>cases hx
    |ext d ats=>
     obtain⟨_,b,hb⟩:=h.partOf hy hx hne;rw[ho]at hb;cases hb;exact⟨by simp[lev],by simp[lev]⟩
    |node l ks sm=>
     obtain⟨t1,_,_,t4,_⟩:=h.typ y _ hy;obtain⟨_,o2,h2,h3⟩:=h.kidOb (t4 x hx) hne;rw[ho]at h2;cases h2;exact⟨by rw[h3];exact Nat.lt_succ_self _,by show l+2≤4;omega⟩
   cases n with
   |zero=>omega
   |succ n=>exact hc y (h.allSeen hP hc n y oy hy (by omega)) oy hy hlt.2 x hx hne
theorem Inv.reachAll (h:Inv s G P) {roots:List Int} (hk: ∀r∈roots,a0W G 3 r) (hP: ∀p∈P,p∈roots):
 i0Z G (roots.foldl (fun m r=>f0D G 3 r m) [])∧(roots.foldl (fun m r=>f0D G 3 r m) []).length=s.g.count 1:=by
 have h0:i0Z G []:=⟨List.nodup_nil,fun p hp=>(by cases hp),fun p hp=>(by cases hp)⟩;obtain⟨g1,g2,g3⟩:=e1T (n:=3) (f:=f0D G 3) (fun k m hk hm=>h.reach_ok 3 k m hk hm) roots hk h0;refine⟨g1,Nat.le_antisymm (h.cnt▸g1.len) ?_⟩;have hall:=h.allSeen (fun p hp hne=>g3 p (hP p hp) hne) (g2.cls fun x hx=>(by cases hx));have:=List.Nodup.length_le_of_subset (l₁:=G.map (·.1)) (l₂:=m0M (roots.foldl (fun m r=>f0D G 3 r m) [])) (show(G.map (·.1)).Nodup from h.nod) fun x hx=>by
  obtain⟨o,ho⟩:=Option.isSome_iff_exists.1 (u0M.2 hx);exact hall 4 x o ho (by omega)
 rw[←h.cnt];simpa using this
end
end
end Go.Sb
namespace Go.Proofs.Q
section
open Go
end
section
open Go
end
section
open Go
end
section
open Go
end
section
open Go
end
section
open Go
end
section
open Go
end
section
open Go
end
section
open Go
end
section
open Go
end
section
open Go
end
end Go.Proofs.Q
namespace Go.Sb
section
section
variable {s:St} {G:Gh} {P:Rp}
theorem J.readIn (h:J s G P) {id at_ n:Int} {i:Nat} (hf:c0Q P.l id=some i) (hb:m0Q (P.l.getD i v0) at_ n=false):n0Y id at_ n s=(.ok (m0A P id at_ n),s):=by
 obtain⟨hi,x,he,hx,hr⟩:=h.found hf;have hsz:=h.size hx;have hbad: ¬(at_<0∨n<0∨(P.l.getD i v0).size<at_∨(P.l.getD i v0).size-at_<n):=fun hh=>by unfold m0Q at hb;rw[decide_eq_true hh]at hb;cases hb
 have hsv:=hr.size;have e1:=h.ci.read (at_:=at_.toNat) (n:=n.toNat) hx (by omega);rw[Int.toNat_of_nonneg (by omega),Int.toNat_of_nonneg (by omega)]at e1;rw[e1,j1Q hr.map _ _ _ (Nat.le_refl _)];unfold m0A;rw[hf];simp only;rw[if_neg (by rw[hb];decide)]
theorem J.findOf (h:J s G P) {j:Nat} (hj:j<P.l.length):c0Q P.l P.l[j].id=some j:=by
 unfold c0Q;rw[List.findIdx?_eq_some_iff_getElem];exact⟨hj,by simp,fun k hk=>by simpa using e1S h.ord (by omega) hj (by omega)⟩
theorem J.sumDoc (h:J s G P) {v:Vp} (hv:v∈P.l):w0M v.id s=(.ok (dgR v.m 2 0,0),s):=by
 obtain⟨x,hx,hr⟩:=h.vol v hv;rw[h.sum hx,h.ci.inv.sumMapR (h.ci.kid _ (h.ci.mem hx)) hr.map]
theorem J.keys (h:J s G P) {xs:List Int} (hp:xs.Perm (s.vols.map (·.1))) (hs:xs.Pairwise (· < ·)):xs=P.l.map (·.id):=by
 have hm:=h.ci.inv.u.m.vols;have ho:(P.l.map (·.id)).Pairwise (· < ·):=List.pairwise_map.2 h.ord;refine List.Perm.eq_of_pairwise (le:=fun a b:Int=>a<b) (fun a b _ _ h1 h2=>by omega) hs ho (hp.trans ((List.perm_ext_iff_of_nodup hm (ho.imp fun h=>by omega)).2 fun k=> ?_));constructor
 ·intro hk;obtain⟨p,hp,rfl⟩:=List.mem_map.1 hk;obtain⟨v,hv,he⟩:=h.back p hp;exact List.mem_map.2 ⟨v,hv,he⟩
 ·intro hk;obtain⟨v,hv,rfl⟩:=List.mem_map.1 hk;obtain⟨x,hx,_⟩:=h.vol v hv;exact List.mem_map.2 ⟨_,h.ci.mem hx,rfl⟩
def y0H (s:St) (v:Vp):Int:=((a0C v.id s.vols).getD g0L).root
theorem J.rootKid (h:J s G P): ∀r∈P.l.map (y0H s),a0W G 3 r:=fun r hr=>by
 obtain⟨v,hv,rfl⟩:=List.mem_map.1 hr;obtain⟨x,hx,_⟩:=h.vol v hv;unfold y0H;rw[hx];exact h.ci.kid _ (h.ci.mem hx)
theorem J.rootAll (h:J s G P): ∀p∈g0Q s,p∈P.l.map (y0H s):=fun p hp=>by
 obtain⟨q,hq,rfl⟩:=List.mem_map.1 hp;obtain⟨v,hv,he⟩:=h.back q hq;refine List.mem_map.2 ⟨v,hv,?_⟩;unfold y0H;rw[he,(e0D h.ci.inv.u.m.vols).2 (show(q.1,q.2)∈s.vols from hq)];rfl
end
end
section
def SmV (v:Vp):Prop:=(0≤v.parent∧v.parent<32)∧0≤v.born∧v.born<256
structure Sml (P:Rp):Prop where
 vol: ∀v∈P.l,SmV v
 ep:0≤P.epoch∧P.epoch<256
section
variable {P:Rp}
theorem Sml.radd (h:Sml P) {v:Vp} (hv:0≤v.parent∧v.parent<32):Sml (g0M P v).1:=by
 unfold Go.Sb.g0M;split
 ·exact h
 ·refine⟨fun u hu=> ?_,h.ep⟩;rcases List.mem_append.1 hu with hu|hu
  ·exact h.vol u hu
  ·rw[List.mem_singleton.1 hu];exact⟨hv,h.ep⟩
theorem Sml.set (h:Sml P) {i:Nat} {v:Vp} (hv:SmV v):Sml {P with l:=P.l.set i v} :=⟨fun u hu=>by
 rcases List.mem_or_eq_of_mem_set hu with hu|rfl
 ·exact h.vol u hu
 ·exact hv,h.ep⟩
theorem smV0:SmV v0:=⟨⟨Int.le_refl _,by decide⟩,Int.le_refl _,by decide⟩
theorem Sml.at_ (h:Sml P) (i:Nat):SmV (P.l.getD i v0):=by
 rw[List.getD_eq_getElem?_getD];cases e:P.l[i]? with
 |none=>exact smV0
 |some v=>exact h.vol v (List.mem_of_getElem? e)
theorem Sml.with_ (h:Sml P) (i:Nat) (m:List Lf):Sml (d0K P i m):=h.set (v:= {P.l.getD i v0 with m:=m}) (h.at_ i)
theorem Sml.write (h:Sml P) (id at_:Int) (data:B):Sml (i0Y P id at_ data).1:=by
 cases hf:c0Q P.l id with
 |none=>unfold i0Y;rw[hf];exact h
 |some i=>
  obtain⟨hi,_⟩:=i0Q hf;rw[v0V hf]
  repeat' split
  all_goals first|exact h| (simp only;obtain⟨m,e⟩:=m0U i data.length P at_.toNat data hi;rw[e];exact h.with_ i m)
theorem Sml.trim (h:Sml P) (id at_ n:Int):Sml (l0S P id at_ n).1:=by
 cases hf:c0Q P.l id with
 |none=>unfold l0S;rw[hf];exact h
 |some i=>
  obtain⟨hi,_⟩:=i0Q hf;rw[y0D hf]
  repeat' split
  all_goals first|exact h| (obtain⟨m,e⟩:=k0P i P at_.toNat (at_+n).toNat hi;rw[e];exact h.with_ i m)
theorem Sml.resize (h:Sml P) (id n:Int):Sml (g0S P id n).1:=by
 cases hf:c0Q P.l id with
 |none=>unfold g0S;rw[hf];exact h
 |some i=>
  obtain⟨hi,_⟩:=i0Q hf;rw[t0P hf];have:Sml (j0P P i n).1:=by
   unfold j0P;split
   ·obtain⟨m,e⟩:=k0P i P n.toNat (P.l.getD i v0).size.toNat hi;rw[e];exact h.with_ i m
   ·exact h
  repeat' split
  all_goals first|exact h|exact this.set (this.at_ i)
theorem Sml.delete (h:Sml P) (id:Int):Sml (g0R P id).1:=by
 unfold g0R;split
 ·exact h
 ·exact⟨fun u hu=>h.vol u (List.mem_of_mem_eraseIdx hu),h.ep⟩
theorem a1T {P Q R:Rp} {p:Prop} [Decidable p] (h:Q=if p then R else P) (hR:Sml R) (hP:Sml P):Sml Q:=by
 rw[h];split
 ·exact hR
 ·exact hP
theorem c1K.sml {k:Nat} {id at_ n e f:Int} {data:B} {s t:St} {Q:Rp} (h:c1K k id at_ n data s P e f t Q) (hk:k<14) (hid:0≤id∧id<32) (hs:Sml P):Sml Q:=by
 have hcase:k=0∨(k=1∨k=2)∨k=3∨k=4∨(4<k∧k<9)∨(k=9∨k=10)∨k=11∨k=12∨k=13:=by omega
 rcases hcase with hk|hk|hk|hk|hk|hk|hk|hk|hk
 ·obtain⟨_,_,_,_,_,h5⟩:=h.k0 hk;refine a1T h5 ?_ hs;unfold e0R;split
  ·exact hs
  ·exact hs.radd ⟨Int.le_refl (0:Int),(by decide:(0:Int)<32)⟩
 ·obtain⟨_,_,_,_,_,h5⟩:=h.k1 hk;refine a1T h5 ?_ hs;unfold i0P;split
  ·exact hs
  ·exact hs.radd hid
 ·exact a1T (h.k3 hk).2.2 (hs.delete _) hs
 ·exact a1T (h.k4 hk).2.2 (hs.resize _ _) hs
 ·exact a1T (h.k5 hk).2.2 (hs.write _ _ _) hs
 ·exact a1T (h.k9 hk).2.2 (hs.trim _ _ _) hs
 ·rw[(h.k11 hk).2.2];exact hs
 ·rw[(h.k12 hk).2.2];exact⟨hs.vol,by show 0≤n%256∧n%256<256;omega⟩
 ·rw[(h.k13 hk).2.2];exact hs
theorem sml0 (bits:Nat):Sml (rp0 bits):=⟨fun v hv=>(by cases hv),(by decide:(0:Int)≤1),(by decide:(1:Int)<256)⟩
end
end
end Go.Sb
section
namespace Go.Sb
end Go.Sb
end
namespace Go.Proofs.Q
section
open Go
end
end Go.Proofs.Q
namespace Go.Sl
open Go.ChangeShapes Go.WideShapes Go.ChangeAt Go.RowKit
section
def p2C (a b c d:Int) (s:ByteArray):List Value:= [.int .i64 a,.int .i64 b,.int .i64 c,.int .i64 d,.string s]
section
variable {H:Type} {enc:TypeId×Value→H} {P:Program} {W:World} {base:Nat} {sp:Nat→Bool} {hd:Bool}
theorem k2B {t:TypeId} {f0 f1 f2 f3 f4:Field} {fuel:Nat} {cs:List Value} {x:DataW H×List MemPlace} (ht:P.underlying t=some (.struct #[f0,f1,f2,f3,f4])) (hc:P.cellsOf t=5)
 (h0:f0.offset=0∧P.cellsOf f0.type=1∧P.underlying f0.type=some (.int .i64)) (h1:f1.offset=1∧P.cellsOf f1.type=1∧P.underlying f1.type=some (.int .i64))
 (h2:f2.offset=2∧P.cellsOf f2.type=1∧P.underlying f2.type=some (.int .i64)) (h3:f3.offset=3∧P.cellsOf f3.type=1∧P.underlying f3.type=some (.int .i64))
 (h4:f4.offset=4∧P.cellsOf f4.type=1∧P.underlying f4.type=some .string) (h:DataW.trod enc P W base sp hd fuel t cs=some x): ∃a b c d s,cs=p2C a b c d s:=by
 obtain⟨xs,n,_,_,hl,hlen,hf⟩:=DataW.trod_struct ht h;rw[hc]at hl;have hx:xs.length=5:=hlen
 match cs,hl with
 | [c0,c1,c2,c3,c4],_=>
  have g: ∀(i:Nat) (f:Field),#[f0,f1,f2,f3,f4][i]? =some f→ ∃y,DataW.trod enc P W base sp hd n f.type ((([c0,c1,c2,c3,c4]:List Value).drop f.offset).take (P.cellsOf f.type))=some y:=fun i f hi=>by
   have hi5:i<5:=(Array.getElem?_eq_some_iff.1 hi).1;refine⟨xs[i]'(by omega),?_⟩;rw[hf i f hi,List.getElem?_eq_getElem (by omega)]
  obtain⟨y0,g0⟩:=g 0 f0 rfl;obtain⟨y1,g1⟩:=g 1 f1 rfl;obtain⟨y2,g2⟩:=g 2 f2 rfl;obtain⟨y3,g3⟩:=g 3 f3 rfl;obtain⟨y4,g4⟩:=g 4 f4 rfl;rw[h0.1,h0.2.1]at g0;rw[h1.1,h1.2.1]at g1;rw[h2.1,h2.2.1]at g2;rw[h3.1,h3.2.1]at g3;rw[h4.1,h4.2.1]at g4;obtain⟨a,e0,_⟩:=DataW.trod_int h0.2.2 g0;obtain⟨b,e1,_⟩:=DataW.trod_int h1.2.2 g1;obtain⟨c,e2,_⟩:=DataW.trod_int h2.2.2 g2;obtain⟨d,e3,_⟩:=DataW.trod_int h3.2.2 g3;obtain⟨s,e4,_⟩:=DataW.trod_string h4.2.2 g4;simp only[List.drop_zero,List.drop_succ_cons,List.take_succ_cons,List.take_zero,List.cons.injEq,and_true]at e0 e1 e2 e3 e4;exact⟨a,b,c,d,s,by rw[e0,e1,e2,e3,e4];rfl⟩
theorem k2C {r:Reach} {b0:Nat} {t e:TypeId} {f0 f1 f2 f3 f4:Field} {v:Value} {dd:DataW H} {ps:List MemPlace} (hs:P.underlying t=some (.slice e)) (ht:P.underlying e=some (.struct #[f0,f1,f2,f3,f4])) (hc:P.cellsOf e=5)
 (h0:f0.offset=0∧P.cellsOf f0.type=1∧P.underlying f0.type=some (.int .i64)) (h1:f1.offset=1∧P.cellsOf f1.type=1∧P.underlying f1.type=some (.int .i64))
 (h2:f2.offset=2∧P.cellsOf f2.type=1∧P.underlying f2.type=some (.int .i64)) (h3:f3.offset=3∧P.cellsOf f3.type=1∧P.underlying f3.type=some (.int .i64))
 (h4:f4.offset=4∧P.cellsOf f4.type=1∧P.underlying f4.type=some .string) (hval:Value.okWide P W r b0 t v) (h:DataW.Trod enc P W base sp hd t v dd ps):
 ∃(p:Option Addr) (n cap:Nat),v= .slice p n cap∧n≤maxLen∧ ∀i,i<n→ ∃A,p=some A∧ ∃a b c d s,∀q u,(p2C a b c d s)[q]? =some u→W.cell? ((A.add (i*5)).add q)=some u:=by
 obtain⟨a0,len,cap,rfl⟩:=okWide_slice hs hval;obtain⟨fuel,hf⟩:=h;rcases DataW.trod_slice hs hf with ⟨hcs,_⟩| ⟨A,len',cap',elems,rest,n,_,hcs,_,hb,hl,hm,hlen,hel,_,_⟩
 ·simp[Value.cells]at hcs;obtain⟨rfl,rfl,rfl⟩:=hcs;exact⟨none,0,0,rfl,Nat.zero_le _,fun i hi=>absurd hi (Nat.not_lt_zero _)⟩
 ·simp[Value.cells]at hcs;obtain⟨rfl,rfl,rfl⟩:=hcs;refine⟨some A,len,cap,rfl,by omega,fun i hi=>⟨A,rfl,?_⟩⟩;have h5:=hel i hi;rw[hc,List.getElem?_eq_getElem (by omega),Option.bind_eq_some_iff]at h5;obtain⟨cs',g1,g2⟩:=h5;obtain⟨a,b,c,d,s,rfl⟩:=k2B ht hc h0 h1 h2 h3 h4 g2;obtain⟨_,_,g3⟩:=World.cells?_some g1;exact⟨a,b,c,d,s,fun q u hq=>by
   have hq5:q<5:=(List.getElem?_eq_some_iff.1 hq).1;rw[g3 q hq5];exact hq⟩
end
end
end Go.Sl
namespace Go.Sb
section
theorem a3F (i:Nat): ∀(k:Nat) (c:Rp) (at_:Nat) (d:B),(d0I i k c at_ d).2=0∨(d0I i k c at_ d).2=9
 |0,_,_,_=> .inl rfl
 |k+1,c,at_,d=>by
  rw[d0I];split
  ·exact .inl rfl
  ·simp only;split
   ·exact .inr rfl
   ·exact a3F i k _ _ _
theorem a3I (P:Rp) (id at_:Int) (data:B):(i0Y P id at_ data).2≠8:=by
 cases hf:c0Q P.l id with
 |none=>unfold i0Y;rw[hf];show(5:Int)≠8;decide
 |some i=>
  rw[v0V hf]
  repeat' split
  all_goals first| (simp;done)| (have:=a3F i data.length P at_.toNat data;simp only;omega)
section
variable {s:St} {G:Gh} {P:Rp} {N:Nat}
theorem J.actS (h:J s G P) (hF:Few N P) (hN:N≤80) (hsp:2*P.l.length≤a0Y s) (hn:P.next<1000000) {k:Nat} (hk:k<14) (id at_ n:Int) {data:B} (hd:data.length%64=0→data.length≤768):
 ∃e f t Q G',c1K k id at_ n data s P e f t Q∧J t G' Q∧2*Q.l.length≤a0Y t∧Few (N+4) Q∧Q.next≤P.next+1∧(e=8→4<k∧k<9→a0Y s<2*P.l.length+8*(data.length/256+2)):=by
 have made: ∀ {m:M (Int×Int)} {r:Rp×Int×Int},o0D s G P m r N→(r.1.next≤P.next+1)→ ∃e f t Q G',(∃n,m s=(.ok (n,e),t)∧r.2.2=f∧(e=0→n=r.2.1)∧(e≠0→n=0)∧Q=if e=0 then r.1 else P)∧(e=f∨e=8)∧J t G' Q∧2*Q.l.length≤a0Y t∧Few (N+4) Q∧Q.next≤P.next+1:=by
  rintro m r ⟨e,s',n,h1,h2,h3,h4,h5,h6,h7,h8⟩ hnx;refine⟨e,r.2.2,s',_,G,⟨n,h1,rfl,h3,h4,rfl⟩,h2.imp (fun g=>g) (fun g=>g.1),h5,h7 hsp,h8.mono (by omega),?_⟩;split
  ·exact hnx
  ·omega
 have ended: ∀ {m:M Int} {r:Rp×Int} {K B N':Nat},c1I s P m r K B N'→N'≤N+4→r.1.next=P.next→ ∃e f t Q G',(m s=(.ok e,t)∧r.2=f∧Q=if e=0 then r.1 else P)∧(e=f∨e=8∧a0Y s<2*P.l.length+B)∧J t G' Q∧2*Q.l.length≤a0Y t∧Few (N+4) Q∧Q.next≤P.next+1:=by
  rintro m r K B N' ⟨e,s',G',h1,h2,h3,h4,h5,h6⟩ hN' hnx;refine⟨e,r.2,s',_,G',⟨h1,rfl,rfl⟩,h3,h2,h5 hsp,h6.mono hN',?_⟩;split
  ·omega
  ·omega
 have hcase:k=0∨(k=1∨k=2)∨k=3∨k=4∨(4<k∧k<9)∨(k=9∨k=10)∨k=11∨k=12∨k=13:=by omega
 rcases hcase with hk|hk|hk|hk|hk|hk|hk|hk|hk
 ·obtain⟨e,f,t,Q,G',h1,hs,h2,h3,h4,h5⟩:=made (h.createS hF (by omega) n) (by unfold e0R;split;(· simp only;omega);(· exact q1C _ _));exact⟨e,f,t,Q,G',⟨fun _=>h1,(fun hh=>absurd hh (by omega)),(fun hh=>absurd hh (by omega)),(fun hh=>absurd hh (by omega)),(fun hh=>absurd hh (by omega)),(fun hh=>absurd hh (by omega)),(fun hh=>absurd hh (by omega)),(fun hh=>absurd hh (by omega)),(fun hh=>absurd hh (by omega)),(fun hh=>absurd hh (by omega)),hs⟩,h2,h3,h4,h5,fun _ hh=>absurd hh (by omega)⟩
 ·obtain⟨e,f,t,Q,G',h1,hs,h2,h3,h4,h5⟩:=made (h.copyS hF (by omega) id (decide (k=1))) (by unfold i0P;split;(· simp only;omega);(· exact q1C _ _));exact⟨e,f,t,Q,G',⟨(fun hh=>absurd hh (by omega)),fun _=>h1,(fun hh=>absurd hh (by omega)),(fun hh=>absurd hh (by omega)),(fun hh=>absurd hh (by omega)),(fun hh=>absurd hh (by omega)),(fun hh=>absurd hh (by omega)),(fun hh=>absurd hh (by omega)),(fun hh=>absurd hh (by omega)),(fun hh=>absurd hh (by omega)),hs⟩,h2,h3,h4,h5,fun _ hh=>absurd hh (by omega)⟩
 ·obtain⟨e,f,t,Q,G',h1,hs,h2,h3,h4,h5⟩:=ended (h.deleteS hF id) (by omega) (by unfold g0R;split<;>rfl);exact⟨e,f,t,Q,G',⟨(fun hh=>absurd hh (by omega)),(fun hh=>absurd hh (by omega)),fun _=>h1,(fun hh=>absurd hh (by omega)),(fun hh=>absurd hh (by omega)),(fun hh=>absurd hh (by omega)),(fun hh=>absurd hh (by omega)),(fun hh=>absurd hh (by omega)),(fun hh=>absurd hh (by omega)),(fun hh=>absurd hh (by omega)),hs.imp (fun g=>g) fun g=>g.1⟩,h2,h3,h4,h5,fun _ hh=>absurd hh (by omega)⟩
 ·obtain⟨e,f,t,Q,G',h1,hs,h2,h3,h4,h5⟩:=ended (h.resizeS hF id n hN) (by omega) (y1R _ _ _);exact⟨e,f,t,Q,G',⟨(fun hh=>absurd hh (by omega)),(fun hh=>absurd hh (by omega)),(fun hh=>absurd hh (by omega)),fun _=>h1,(fun hh=>absurd hh (by omega)),(fun hh=>absurd hh (by omega)),(fun hh=>absurd hh (by omega)),(fun hh=>absurd hh (by omega)),(fun hh=>absurd hh (by omega)),(fun hh=>absurd hh (by omega)),hs.imp (fun g=>g) fun g=>g.1⟩,h2,h3,h4,h5,fun _ hh=>absurd hh (by omega)⟩
 ·obtain⟨e,f,t,Q,G',h1,hs,h2,h3,h4,h5⟩:=ended (h.writeS hF id at_ hd) (Nat.le_refl _) (e2U _ _ _ _);exact⟨e,f,t,Q,G',⟨(fun hh=>absurd hh (by omega)),(fun hh=>absurd hh (by omega)),(fun hh=>absurd hh (by omega)),(fun hh=>absurd hh (by omega)),fun _=>h1,(fun hh=>absurd hh (by omega)),(fun hh=>absurd hh (by omega)),(fun hh=>absurd hh (by omega)),(fun hh=>absurd hh (by omega)),(fun hh=>absurd hh (by omega)),hs.imp (fun g=>g) fun g=>g.1⟩,h2,h3,h4,h5,fun he _=>by have:=a3I P id at_ data;have:=h1.2.1;omega⟩
 ·obtain⟨e,f,t,Q,G',h1,hs,h2,h3,h4,h5⟩:=ended (h.trimS hF id at_ n hN) (by omega) (j2U _ _ _ _);exact⟨e,f,t,Q,G',⟨(fun hh=>absurd hh (by omega)),(fun hh=>absurd hh (by omega)),(fun hh=>absurd hh (by omega)),(fun hh=>absurd hh (by omega)),(fun hh=>absurd hh (by omega)),fun _=>h1,(fun hh=>absurd hh (by omega)),(fun hh=>absurd hh (by omega)),(fun hh=>absurd hh (by omega)),(fun hh=>absurd hh (by omega)),hs.imp (fun g=>g) fun g=>g.1⟩,h2,h3,h4,h5,fun _ hh=>absurd hh (by omega)⟩
 ·obtain⟨t,h1,h2,h3⟩:=h.read id at_ n;exact⟨(m0A P id at_ n).2,(m0A P id at_ n).2,t,P,G,⟨(fun hh=>absurd hh (by omega)),(fun hh=>absurd hh (by omega)),(fun hh=>absurd hh (by omega)),(fun hh=>absurd hh (by omega)),(fun hh=>absurd hh (by omega)),(fun hh=>absurd hh (by omega)),fun _=>⟨h1,rfl,rfl⟩,(fun hh=>absurd hh (by omega)),(fun hh=>absurd hh (by omega)),fun _=>rfl,.inl rfl⟩,h2,by omega,hF.mono (by omega),by omega,fun _ hh=>absurd hh (by omega)⟩
 ·exact⟨0,0,{s with epoch:=n%256},{P with epoch:=n%256},G,⟨(fun hh=>absurd hh (by omega)),(fun hh=>absurd hh (by omega)),(fun hh=>absurd hh (by omega)),(fun hh=>absurd hh (by omega)),(fun hh=>absurd hh (by omega)),(fun hh=>absurd hh (by omega)),(fun hh=>absurd hh (by omega)),fun _=>⟨rfl,rfl,rfl⟩,(fun hh=>absurd hh (by omega)),fun _=>rfl,.inl rfl⟩,h.epoch_ _,hsp,hF.mono (by omega),by simp only;omega,fun _ hh=>absurd hh (by omega)⟩
 ·exact⟨0,0,a1S s,P,G,⟨(fun hh=>absurd hh (by omega)),(fun hh=>absurd hh (by omega)),(fun hh=>absurd hh (by omega)),(fun hh=>absurd hh (by omega)),(fun hh=>absurd hh (by omega)),(fun hh=>absurd hh (by omega)),(fun hh=>absurd hh (by omega)),(fun hh=>absurd hh (by omega)),fun _=>⟨rfl,rfl,rfl⟩,fun _=>rfl,.inl rfl⟩,h.settle,by have:=y1P s;omega,hF.mono (by omega),by omega,fun _ hh=>absurd hh (by omega)⟩
end
end
end Go.Sb
