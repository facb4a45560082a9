/- Part of the proof; no statement of its own. -/
import Derived.Test.YtpinhnikemamjaaGreatDoorR16
import Derived.Test.YtpinhnikemamjaaGreatDoorProg
import Derived.KernelRfl
import Derived.Test.YtpinhnikemamjaaGreatDoorR08
import Derived.Test.YtpinhnikemamjaaGreatDoorR05
import Derived.Test.YtpinhnikemamjaaGreatDoorR04
import Derived.ChangeArms
import Derived.DataReads
set_option linter.all false
set_option maxRecDepth 4000
set_option maxHeartbeats 4000000
namespace Go.Sb
section
def k0Y (k:Int) (m:List (Int×Int)):List (Int×Int):=b0T k ((a0E k m).getD 0+1) m
def c2Y (G:Gh) (a:Int):List Int:=match a0E a G with|some (.ext _ ats)=>ats|_=> []
def e0V (G:Gh):Nat→Int→List (Int×Int)→List (Int×Int)
 |0,a,m=>if a≤0∨0<(a0E a m).getD 0 then m else((c2Y G a).filter (0< ·)).foldl (fun m k=>k0Y k m) (k0Y a m)
 |l+1,a,m=>if a=0∨0<(a0E a m).getD 0 then m else(b0E G a).foldl (fun m k=>e0V G l k m) (k0Y a m)
theorem z0A (G:Gh) (l:Nat) (a:Int) (m:List (Int×Int)):e0V G (l+1) a m=if a=0∨0<(a0E a m).getD 0 then m else(b0E G a).foldl (fun m k=>e0V G l k m) (k0Y a m):=rfl
def lev:Ob→Nat
 | .part _=>0
 | .ext _ _=>1
 | .node l _ _=>l+2
def Cls (G:Gh) (n:Nat) (S:List Int):Prop:= ∀x∈S,∀o,a0E x G=some o→lev o≤n→ ∀k∈f0I o,k≠0→k∈S
structure Rch (G:Gh) (n:Nat) (S T:List Int):Prop where
 sub: ∀x∈S,x∈T
 new: ∀x∈T,x∈S∨ ∃o,a0E x G=some o∧lev o≤n
 cls:Cls G n S→Cls G n T
theorem Rch.refl (G:Gh) (n:Nat) (S:List Int):Rch G n S S:=⟨fun _ h=>h,fun _ h=> .inl h,id⟩
theorem Rch.trans {G:Gh} {n:Nat} {S T U:List Int} (h:Rch G n S T) (k:Rch G n T U):Rch G n S U:=
 ⟨fun x hx=>k.sub x (h.sub x hx),fun x hx=>(k.new x hx).elim (h.new x) .inr,fun hc=>k.cls (h.cls hc)⟩
theorem Rch.step {G:Gh} {n:Nat} {S T:List Int} {a:Int} {o:Ob} (ho:a0E a G=some o) (hl:lev o=n+1) (h:Rch G n (a::S) T) (hk: ∀k∈f0I o,k≠0→k∈T):Rch G (n+1) S T:=by
 refine⟨fun x hx=>h.sub x (List.mem_cons_of_mem _ hx),fun x hx=> ?_,fun hc x hx o' ho' hle k hk' hne=> ?_⟩
 ·rcases h.new x hx with h1| ⟨o',h1,h2⟩
  ·rcases List.mem_cons.1 h1 with rfl|h1
   ·exact .inr ⟨o,ho,by omega⟩
   ·exact .inl h1
  ·exact .inr ⟨o',h1,by omega⟩
 ·by_cases hle':lev o'≤n
  ·refine h.cls (fun y hy oy hoy hly k hk hne=> ?_) x hx o' ho' hle' k hk' hne;rcases List.mem_cons.1 hy with rfl|hy
   ·rw[ho]at hoy;cases hoy;omega
   ·exact List.mem_cons_of_mem _ (hc y hy oy hoy (by omega) k hk hne)
  ·rcases h.new x hx with h1| ⟨o2,h1,h2⟩
   ·rcases List.mem_cons.1 h1 with rfl|h1
    ·rw[ho]at ho';cases ho';exact hk k hk' hne
    ·exact h.sub _ (List.mem_cons_of_mem _ (hc x h1 o' ho' hle k hk' hne))
   ·rw[ho']at h1;cases h1;exact absurd h2 hle'
structure i0I (G:Gh) (m:List (Int×Int)):Prop where
 ok:mok m
 pos: ∀p∈m,1≤p.2∧p.2≤5*(m.length:Int)
 held: ∀p∈m,(a0E p.1 G).isSome=true
theorem i0I.len {G:Gh} {m:List (Int×Int)} (h:i0I G m):m.length≤G.length:=by
 have:=List.Nodup.length_le_of_subset (l₁:=m.map (·.1)) (l₂:=G.map (·.1)) (show(m.map (·.1)).Nodup from h.ok) fun x hx=>by
  obtain⟨p,hp,rfl⟩:=List.mem_map.1 hx;have:=h.held p hp;exact Classical.byContradiction fun hn=>by rw[d1D hn]at this;cases this
 simpa using this
theorem i1I {K V:Type} [DecidableEq K] {k:K} {m:List (K×V)} :(a0E k m).isSome=true↔k∈m.map (·.1):=by
 induction m with
 |nil=>simp[a0E]
 |cons p m ih=>
  obtain⟨j,v⟩:=p;rw[d0H];by_cases e:j=k
  ·simp[e]
  ·rw[if_neg e,ih,List.map_cons,List.mem_cons];exact⟨.inr,fun h=>h.elim (fun h=>absurd h.symm e) id⟩
theorem i0I.in_ {G:Gh} {m:List (Int×Int)} (h:i0I G m) {a:Int} :0<(a0E a m).getD 0↔a∈m.map (·.1):=by
 rw[←i1I];cases e:a0E a m with
 |none=>simp
 |some v=>
  have:=h.pos _ ((e0Q h.ok).1 e);simp only[Option.getD_some,Option.isSome_some,iff_true];simp only at this;omega
abbrev l0W (m:List (Int×Int)):List Int:=m.map (·.1)
theorem i1J {k v:Int} : ∀ {m:List (Int×Int)},(b0T k v m).length=if(a0E k m).isSome then m.length else m.length+1
 | []=>rfl
 | (j,u)::m=>by
  rw[d0H];by_cases e:j=k
  ·rw[if_pos e];subst e;simp[b0T]
  ·rw[if_neg e];have:= @i1J k v m;simp only[b0T,if_neg e,List.length_cons,this];split<;>rfl
theorem m1Y {k v:Int} {p:Int×Int} : ∀ {m:List (Int×Int)},p∈b0T k v m→p=(k,v)∨p∈m
 | [],h=> .inl (List.mem_singleton.1 h)
 | (j,u)::m,h=>by
  by_cases e:j=k
  ·simp only[b0T,if_pos e]at h;rcases List.mem_cons.1 h with h|h
   ·exact .inl h
   ·exact .inr (List.mem_cons_of_mem _ h)
  ·simp only[b0T,if_neg e]at h;rcases List.mem_cons.1 h with h|h
   ·exact .inr (h▸List.mem_cons_self)
   ·exact(m1Y h).imp id (List.mem_cons_of_mem _)
structure SB (G:Gh) (B:Int) (N:Nat) (m:List (Int×Int)):Prop where
 ok:mok m
 b0:0≤B
 pos: ∀p∈m,1≤p.2∧p.2≤B
 held: ∀p∈m,(a0E p.1 G).isSome=true
 len:N≤m.length
theorem SB.val {G:Gh} {B:Int} {N:Nat} {m:List (Int×Int)} (h:SB G B N m) (k:Int):0≤(a0E k m).getD 0∧(a0E k m).getD 0≤B:=by
 cases e:a0E k m with
 |none=>exact⟨Int.le_refl _,h.b0⟩
 |some v=>have:=h.pos _ ((e0Q h.ok).1 e);simp only at this;simp only[Option.getD_some];omega
theorem i0I.sb {G:Gh} {m:List (Int×Int)} (h:i0I G m):SB G (5*m.length) m.length m:=⟨h.ok,by omega,h.pos,h.held,Nat.le_refl _⟩
theorem SB.see {G:Gh} {B:Int} {N:Nat} {m:List (Int×Int)} (h:SB G B N m) {k:Int} (hk:(a0E k G).isSome=true):SB G (B+1) N (k0Y k m):=by
 have hv:=h.val k;have:=h.b0;refine⟨m0O _ _ h.ok,by omega,fun p hp=> ?_,fun p hp=> ?_,?_⟩
 ·rcases m1Y hp with rfl|hp
  ·simp only;omega
  ·have:=h.pos p hp;omega
 ·rcases m1Y hp with rfl|hp
  ·exact hk
  ·exact h.held p hp
 ·unfold k0Y;rw[i1J];have:=h.len;split<;>omega
theorem x0M {k x:Int} {m:List (Int×Int)} :x∈l0W (k0Y k m)↔x=k∨x∈l0W m:=h1Q
theorem SB.sees {G:Gh} {N:Nat} : ∀(ks:List Int) {B:Int} {m:List (Int×Int)},SB G B N m→(∀k∈ks,(a0E k G).isSome=true)→SB G (B+ks.length) N (ks.foldl (fun m k=>k0Y k m) m)∧ ∀x,x∈l0W (ks.foldl (fun m k=>k0Y k m) m)↔x∈ks∨x∈l0W m
 | [],B,m,h,_=>⟨by simpa using h,fun x=>by simp⟩
 |k::ks,B,m,h,hk=>by
  obtain⟨h1,h2⟩:=SB.sees ks (h.see (hk k List.mem_cons_self)) fun x hx=>hk x (List.mem_cons_of_mem _ hx);rw[List.foldl_cons];refine⟨by rw[List.length_cons,show B+((ks.length+1:Nat):Int)=B+1+(ks.length:Int) by omega];exact h1,fun x=> ?_⟩;rw[h2,x0M,List.mem_cons];constructor
  ·rintro(h|h|h)
   ·exact .inl (.inr h)
   ·exact .inl (.inl h)
   ·exact .inr h
  ·rintro((h|h)|h)
   ·exact .inr (.inl h)
   ·exact .inl h
   ·exact .inr (.inr h)
theorem Rch.congr {G:Gh} {n:Nat} {S S' T:List Int} (hs: ∀x,x∈S↔x∈S') (h:Rch G n S T):Rch G n S' T:=
 ⟨fun x hx=>h.sub x ((hs x).2 hx),fun x hx=>(h.new x hx).imp (hs x).1 id,fun hc=>h.cls fun x hx o ho hl k hk hne=>(hs k).2 (hc x ((hs x).1 hx) o ho hl k hk hne)⟩
theorem i0I.first {G:Gh} {m:List (Int×Int)} (h:i0I G m) {a:Int} (ha:(a0E a G).isSome=true) (hno:a ∉ l0W m):SB G (5*m.length+1) (m.length+1) (k0Y a m):=by
 have e:a0E a m=none:=by
  cases e:a0E a m with
  |none=>rfl
  |some v=>exact absurd (i1I.1 (by rw[e];rfl)) hno
 have h1:SB G (5*m.length) m.length m:=⟨h.ok,by omega,h.pos,h.held,Nat.le_refl _⟩;have h2:=h1.see ha;exact⟨h2.ok,h2.b0,h2.pos,h2.held,by unfold k0Y;rw[i1J,e];simp⟩
theorem SB.seen {G:Gh} {B:Int} {N:Nat} {m:List (Int×Int)} (h:SB G B N m) (hb:B≤5*N):i0I G m:=
 ⟨h.ok,fun p hp=>⟨(h.pos p hp).1,by have:=(h.pos p hp).2;have:=h.len;omega⟩,h.held⟩
section
variable {s:St} {G:Gh} {P:List Int}
theorem Inv.kidOb (h:Inv s G P): ∀ {n:Nat} {a:Int},a0Y G n a→a≠0→0<a∧ ∃o,a0E a G=some o∧lev o=n+1
 |0,a,hk,hne=>by obtain⟨d,t,ho⟩:=hk.resolve_left hne;exact⟨(h.range ho).1,_,ho,rfl⟩
 |l+1,a,hk,hne=>by obtain⟨d,t,ho⟩:=hk.resolve_left hne;exact⟨(h.range ho).1,_,ho,rfl⟩
theorem Inv.partOf (h:Inv s G P) {a:Int} {d:B} {ats:List Int} (ho:a0E a G=some (.ext d ats)) {x:Int} (hx:x∈ats) (hne:x≠0):0<x∧ ∃b,a0E x G=some (.part b):=by
 obtain⟨_,_,h4,hp⟩:=h.typ a _ ho;obtain⟨k,hk,rfl⟩:=List.mem_iff_getElem.1 hx;have:=hp k (by omega);unfold u0S at this;have e:ats.getD k 0=ats[k]:=by rw[List.getD_eq_getElem?_getD,List.getElem?_eq_getElem hk];rfl
 rw[e]at this;split at this
 ·exact absurd this hne
 ·exact⟨(h.range this.2).1,_,this.2⟩
abbrev Seen (G:Gh) (n:Nat) (a:Int) (m t:List (Int×Int)):Prop:=i0I G t∧Rch G (n+1) (l0W m) (l0W t)∧(a≠0→a∈l0W t)
theorem d1Q {n:Nat} {f:Int→List (Int×Int)→List (Int×Int)} (hf: ∀k m,a0Y G n k→i0I G m→Seen G n k m (f k m)): ∀(ks:List Int) {m:List (Int×Int)},(∀k∈ks,a0Y G n k)→i0I G m→
 i0I G (ks.foldl (fun m k=>f k m) m)∧Rch G (n+1) (l0W m) (l0W (ks.foldl (fun m k=>f k m) m))∧ ∀k∈ks,k≠0→k∈l0W (ks.foldl (fun m k=>f k m) m)
 | [],m,_,hm=>⟨hm,Rch.refl _ _ _,fun k hk=>(by cases hk)⟩
 |k::ks,m,hk,hm=>by
  obtain⟨h1,h2,h3⟩:=hf k m (hk k List.mem_cons_self) hm;obtain⟨g1,g2,g3⟩:=d1Q hf ks (fun x hx=>hk x (List.mem_cons_of_mem _ hx)) h1;rw[List.foldl_cons];refine⟨g1,h2.trans g2,fun x hx hne=> ?_⟩;rcases List.mem_cons.1 hx with rfl|hx
  ·exact g2.sub _ (h3 hne)
  ·exact g3 x hx hne
theorem Inv.reach_ok (h:Inv s G P): ∀(n:Nat) (a:Int) (m:List (Int×Int)),a0Y G n a→i0I G m→Seen G n a m (e0V G n a m)
 |n,a,m,hk,hm=>by
  by_cases h0:a=0
  ·subst h0;have e:e0V G n 0 m=m:=by cases n<;>(unfold e0V;rw[if_pos];simp)
   rw[e];exact⟨hm,Rch.refl _ _ _,fun h=>absurd rfl h⟩
  obtain⟨hpos,o,ho,hlo⟩:=h.kidOb hk h0;by_cases hs:a∈l0W m
  ·have e:e0V G n a m=m:=by cases n<;>(unfold e0V;rw[if_pos];exact .inr (hm.in_.2 hs))
   rw[e];exact⟨hm,Rch.refl _ _ _,fun _=>hs⟩
  have hn: ¬0<(a0E a m).getD 0:=fun hh=>hs (hm.in_.1 hh);have hf:=hm.first (by rw[ho];rfl) hs;cases n with
  |zero=>
   obtain⟨d,ats,ho'⟩:=hk.resolve_left h0;rw[ho']at ho;cases ho;have e:e0V G 0 a m=(ats.filter (0< ·)).foldl (fun m k=>k0Y k m) (k0Y a m):=by
    unfold e0V c2Y;rw[if_neg (by omega),ho']
   rw[e];have h4:(ats.filter (0< ·)).length≤4:=by have:=List.length_filter_le (fun x:Int=>decide (0<x)) ats;have:=(h.typ a _ ho').2.2.1;omega
   obtain⟨g1,g2⟩:=hf.sees (ats.filter (0< ·)) fun k hk=>by
    obtain⟨k1,k2⟩:=List.mem_filter.1 hk;obtain⟨_,b,hb⟩:=h.partOf ho' k1 (by simp at k2;omega);rw[hb];rfl
   refine⟨g1.seen (by omega),Rch.step ho' rfl ⟨fun x hx=> ?_,fun x hx=> ?_,fun _ x _ o ho hl k hk _=> ?_⟩ fun k hk hne=> ?_,fun _=> ?_⟩
   ·rw[g2,x0M];exact .inr (List.mem_cons.1 hx)
   ·rw[g2,x0M]at hx;rcases hx with hx|hx|hx
    ·obtain⟨k1,k2⟩:=List.mem_filter.1 hx;obtain⟨_,b,hb⟩:=h.partOf ho' k1 (by simp at k2;omega);exact .inr ⟨_,hb,Nat.le_refl _⟩
    ·exact .inl (hx▸List.mem_cons_self)
    ·exact .inl (List.mem_cons_of_mem _ hx)
   ·cases o with
    |part b=>cases hk
    |ext d t=>exact absurd hl (by simp[lev])
    |node l ks t=>exact absurd hl (by simp[lev])
   ·rw[g2];have:=(h.partOf ho' hk hne).1;exact .inl (List.mem_filter.2 ⟨hk,by simpa using this⟩)
   ·rw[g2,x0M];exact .inr (.inl rfl)
  |succ l=>
   obtain⟨ks,sm,ho'⟩:=hk.resolve_left h0;rw[ho']at ho;cases ho;have e:e0V G (l+1) a m=ks.foldl (fun m k=>e0V G l k m) (k0Y a m):=by
    have ek:b0E G a=ks:=by unfold b0E;rw[ho']
    rw[z0A,if_neg (fun hh=>hh.elim h0 hn),ek]
   rw[e];obtain⟨g1,g2,g3⟩:=d1Q (n:=l) (f:=e0V G l) (fun k m hk hm=>h.reach_ok l k m hk hm) ks (h.typ a _ ho').2.2.2.1 (hf.seen (by omega));have g4:Rch G (l+1) (a::l0W m) (l0W (ks.foldl (fun m k=>e0V G l k m) (k0Y a m))):=g2.congr fun x=>by rw[x0M,List.mem_cons]
   exact⟨g1,Rch.step ho' rfl g4 g3,fun _=>g4.sub a List.mem_cons_self⟩
theorem s2J {x:Int} (hm:mok G) (hr:o0F G x≠0): ∃y o,a0E y G=some o∧x∈f0I o:=by
 have key: ∀L:Gh,(∀p∈L,x ∉ f0I p.2)→o0F L x=0:=fun L=>by
  induction L with
  |nil=>intro _;rfl
  |cons p L ih=>
   intro hL;rw[n0V,ih fun q hq=>hL q (List.mem_cons_of_mem _ hq),List.count_eq_zero.2 (hL p List.mem_cons_self)]
 refine Classical.byContradiction fun hno=>hr (key G fun p hp hx=>hno ⟨p.1,p.2,(e0Q hm).2 hp,hx⟩)
theorem Inv.atMost (h:Inv s G P):G.length≤65535:=by
 have h1:=h.hi;have h2:=h.cnt;have h3:=List.count_le_length (a:=1) (l:=s.g);omega
theorem Inv.reach0 (h:Inv s G P) {a:Int} {d:B} {ats:List Int} (ho:a0E a G=some (.ext d ats)) {m:List (Int×Int)} (hn: ¬0<(a0E a m).getD 0):e0V G 0 a m=(ats.filter (0< ·)).foldl (fun m k=>k0Y k m) (k0Y a m):=by
 have:=(h.range ho).1;unfold e0V c2Y;rw[if_neg (by omega),ho]
theorem Inv.allSeen (h:Inv s G P) {S:List Int} (hP: ∀p∈P,p≠0→p∈S) (hc:Cls G 4 S): ∀(n:Nat) (x:Int) (o:Ob),a0E x G=some o→4≤lev o+n→x∈S
 |n,x,o,ho,hl=>by
  have hne:=h.ne0 ho;have hp:=h.need_pos ho;unfold f0X at hp;by_cases h1:x∈P
  ·exact hP x h1 hne
  ·rw[List.count_eq_zero.2 h1,Nat.zero_add]at hp;obtain⟨y,oy,hy,hx⟩:=s2J h.nod hp;have hlt:lev o<lev oy∧lev oy≤4:=by
    cases oy with
    |part b=>cases hx
    |ext d ats=>
     obtain⟨_,b,hb⟩:=h.partOf hy hx hne;rw[ho]at hb;cases hb;exact⟨by simp[lev],by simp[lev]⟩
    |node l ks sm=>
     obtain⟨t1,_,_,t4,_⟩:=h.typ y _ hy;obtain⟨_,o2,h2,h3⟩:=h.kidOb (t4 x hx) hne;rw[ho]at h2;cases h2;exact⟨by rw[h3];exact Nat.lt_succ_self _,by show l+2≤4;omega⟩
   cases n with
   |zero=>omega
   |succ n=>exact hc y (h.allSeen hP hc n y oy hy (by omega)) oy hy hlt.2 x hx hne
theorem Inv.reachAll (h:Inv s G P) {roots:List Int} (hk: ∀r∈roots,a0Y G 3 r) (hP: ∀p∈P,p∈roots):
 i0I G (roots.foldl (fun m r=>e0V G 3 r m) [])∧(roots.foldl (fun m r=>e0V G 3 r m) []).length=s.g.count 1:=by
 have h0:i0I G []:=⟨List.nodup_nil,fun p hp=>(by cases hp),fun p hp=>(by cases hp)⟩;obtain⟨g1,g2,g3⟩:=d1Q (n:=3) (f:=e0V G 3) (fun k m hk hm=>h.reach_ok 3 k m hk hm) roots hk h0;refine⟨g1,Nat.le_antisymm (h.cnt▸g1.len) ?_⟩;have hall:=h.allSeen (fun p hp hne=>g3 p (hP p hp) hne) (g2.cls fun x hx=>(by cases hx));have:=List.Nodup.length_le_of_subset (l₁:=G.map (·.1)) (l₂:=l0W (roots.foldl (fun m r=>e0V G 3 r m) [])) (show(G.map (·.1)).Nodup from h.nod) fun x hx=>by
  obtain⟨o,ho⟩:=Option.isSome_iff_exists.1 (i1I.2 hx);exact hall 4 x o ho (by omega)
 rw[←h.cnt];simpa using this
end
end
end Go.Sb
namespace Go.Proofs.Q
section
open Go
end
section
open Go
end
section
open Go
end
section
open Go
end
section
open Go
end
section
open Go
end
section
open Go
end
section
open Go
end
section
open Go
end
section
open Go
end
end Go.Proofs.Q
namespace Go.Sb
section
section
variable {s:St} {G:Gh} {P:Rp}
theorem J.readIn (h:J s G P) {id at_ n:Int} {i:Nat} (hf:c0O P.l id=some i) (hb:m0B (P.l.getD i v0) at_ n=false):o0G id at_ n s=(.ok (m0C P id at_ n),s):=by
 obtain⟨hi,x,he,hx,hr⟩:=h.found hf;have hsz:=h.size hx;have hbad: ¬(at_<0∨n<0∨(P.l.getD i v0).size<at_∨(P.l.getD i v0).size-at_<n):=fun hh=>by unfold m0B at hb;rw[decide_eq_true hh]at hb;cases hb
 have hsv:=hr.size;have e1:=h.ci.read (at_:=at_.toNat) (n:=n.toNat) hx (by omega);rw[Int.toNat_of_nonneg (by omega),Int.toNat_of_nonneg (by omega)]at e1;rw[e1,i1H hr.map _ _ _ (Nat.le_refl _)];unfold m0C;rw[hf];simp only;rw[if_neg (by rw[hb];decide)]
theorem J.findOf (h:J s G P) {j:Nat} (hj:j<P.l.length):c0O P.l P.l[j].id=some j:=by
 unfold c0O;rw[List.findIdx?_eq_some_iff_getElem];exact⟨hj,by simp,fun k hk=>by simpa using d1P h.ord (by omega) hj (by omega)⟩
theorem J.sumDoc (h:J s G P) {v:Vp} (hv:v∈P.l):v0O v.id s=(.ok (dgR v.m 2 0,0),s):=by
 obtain⟨x,hx,hr⟩:=h.vol v hv;rw[h.sum hx,h.ci.inv.sumMapR (h.ci.kid _ (h.ci.mem hx)) hr.map]
theorem J.keys (h:J s G P) {xs:List Int} (hp:xs.Perm (s.vols.map (·.1))) (hs:xs.Pairwise (· < ·)):xs=P.l.map (·.id):=by
 have hm:=h.ci.inv.u.m.vols;have ho:(P.l.map (·.id)).Pairwise (· < ·):=List.pairwise_map.2 h.ord;refine List.Perm.eq_of_pairwise (le:=fun a b:Int=>a<b) (fun a b _ _ h1 h2=>by omega) hs ho (hp.trans ((List.perm_ext_iff_of_nodup hm (ho.imp fun h=>by omega)).2 fun k=> ?_));constructor
 ·intro hk;obtain⟨p,hp,rfl⟩:=List.mem_map.1 hk;obtain⟨v,hv,he⟩:=h.back p hp;exact List.mem_map.2 ⟨v,hv,he⟩
 ·intro hk;obtain⟨v,hv,rfl⟩:=List.mem_map.1 hk;obtain⟨x,hx,_⟩:=h.vol v hv;exact List.mem_map.2 ⟨_,h.ci.mem hx,rfl⟩
def x0N (s:St) (v:Vp):Int:=((a0E v.id s.vols).getD h0T).root
theorem J.rootKid (h:J s G P): ∀r∈P.l.map (x0N s),a0Y G 3 r:=fun r hr=>by
 obtain⟨v,hv,rfl⟩:=List.mem_map.1 hr;obtain⟨x,hx,_⟩:=h.vol v hv;unfold x0N;rw[hx];exact h.ci.kid _ (h.ci.mem hx)
theorem J.rootAll (h:J s G P): ∀p∈h0J s,p∈P.l.map (x0N s):=fun p hp=>by
 obtain⟨q,hq,rfl⟩:=List.mem_map.1 hp;obtain⟨v,hv,he⟩:=h.back q hq;refine List.mem_map.2 ⟨v,hv,?_⟩;unfold x0N;rw[he,(e0Q h.ci.inv.u.m.vols).2 (show(q.1,q.2)∈s.vols from hq)];rfl
end
end
section
def SmV (v:Vp):Prop:=(0≤v.parent∧v.parent<32)∧0≤v.born∧v.born<256
structure Sml (P:Rp):Prop where
 vol: ∀v∈P.l,SmV v
 ep:0≤P.epoch∧P.epoch<256
section
variable {P:Rp}
theorem Sml.radd (h:Sml P) {v:Vp} (hv:0≤v.parent∧v.parent<32):Sml (g0Q P v).1:=by
 unfold Go.Sb.g0Q;split
 ·exact h
 ·refine⟨fun u hu=> ?_,h.ep⟩;rcases List.mem_append.1 hu with hu|hu
  ·exact h.vol u hu
  ·rw[List.mem_singleton.1 hu];exact⟨hv,h.ep⟩
theorem Sml.set (h:Sml P) {i:Nat} {v:Vp} (hv:SmV v):Sml {P with l:=P.l.set i v} :=⟨fun u hu=>by
 rcases List.mem_or_eq_of_mem_set hu with hu|rfl
 ·exact h.vol u hu
 ·exact hv,h.ep⟩
theorem smV0:SmV v0:=⟨⟨Int.le_refl _,by decide⟩,Int.le_refl _,by decide⟩
theorem Sml.at_ (h:Sml P) (i:Nat):SmV (P.l.getD i v0):=by
 rw[List.getD_eq_getElem?_getD];cases e:P.l[i]? with
 |none=>exact smV0
 |some v=>exact h.vol v (List.mem_of_getElem? e)
theorem Sml.with_ (h:Sml P) (i:Nat) (m:List Lf):Sml (d0E P i m):=h.set (v:= {P.l.getD i v0 with m:=m}) (h.at_ i)
theorem Sml.write (h:Sml P) (id at_:Int) (data:B):Sml (j0E P id at_ data).1:=by
 cases hf:c0O P.l id with
 |none=>unfold j0E;rw[hf];exact h
 |some i=>
  obtain⟨hi,_⟩:=h0Z hf;rw[u0V hf]
  repeat' split
  all_goals first|exact h| (simp only;obtain⟨m,e⟩:=m0G i data.length P at_.toNat data hi;rw[e];exact h.with_ i m)
theorem Sml.trim (h:Sml P) (id at_ n:Int):Sml (l0J P id at_ n).1:=by
 cases hf:c0O P.l id with
 |none=>unfold l0J;rw[hf];exact h
 |some i=>
  obtain⟨hi,_⟩:=h0Z hf;rw[x0J hf]
  repeat' split
  all_goals first|exact h| (obtain⟨m,e⟩:=k0C i P at_.toNat (at_+n).toNat hi;rw[e];exact h.with_ i m)
theorem Sml.resize (h:Sml P) (id n:Int):Sml (g0U P id n).1:=by
 cases hf:c0O P.l id with
 |none=>unfold g0U;rw[hf];exact h
 |some i=>
  obtain⟨hi,_⟩:=h0Z hf;rw[s0Z hf];have:Sml (j0H P i n).1:=by
   unfold j0H;split
   ·obtain⟨m,e⟩:=k0C i P n.toNat (P.l.getD i v0).size.toNat hi;rw[e];exact h.with_ i m
   ·exact h
  repeat' split
  all_goals first|exact h|exact this.set (this.at_ i)
theorem Sml.delete (h:Sml P) (id:Int):Sml (g0T P id).1:=by
 unfold g0T;split
 ·exact h
 ·exact⟨fun u hu=>h.vol u (List.mem_of_mem_eraseIdx hu),h.ep⟩
theorem z0U {P Q R:Rp} {p:Prop} [Decidable p] (h:Q=if p then R else P) (hR:Sml R) (hP:Sml P):Sml Q:=by
 rw[h];split
 ·exact hR
 ·exact hP
theorem b1J.sml {k:Nat} {id at_ n e:Int} {data:B} {s t:St} {Q:Rp} (h:b1J k id at_ n data s P e t Q) (hk:k<14) (hid:0≤id∧id<32) (hs:Sml P):Sml Q:=by
 have hcase:k=0∨(k=1∨k=2)∨k=3∨k=4∨(4<k∧k<9)∨(k=9∨k=10)∨k=11∨k=12∨k=13:=by omega
 rcases hcase with hk|hk|hk|hk|hk|hk|hk|hk|hk
 ·obtain⟨_,_,_,_,_,h5⟩:=h.k0 hk;refine z0U h5 ?_ hs;unfold e0S;split
  ·exact hs
  ·exact hs.radd ⟨Int.le_refl (0:Int),(by decide:(0:Int)<32)⟩
 ·obtain⟨_,_,_,_,_,h5⟩:=h.k1 hk;refine z0U h5 ?_ hs;unfold i0N;split
  ·exact hs
  ·exact hs.radd hid
 ·exact z0U (h.k3 hk).2.2 (hs.delete _) hs
 ·exact z0U (h.k4 hk).2.2 (hs.resize _ _) hs
 ·exact z0U (h.k5 hk).2.2 (hs.write _ _ _) hs
 ·exact z0U (h.k9 hk).2.2 (hs.trim _ _ _) hs
 ·rw[(h.k11 hk).2.2];exact hs
 ·rw[(h.k12 hk).2.2];exact⟨hs.vol,by show 0≤n%256∧n%256<256;omega⟩
 ·rw[(h.k13 hk).2.2];exact hs
theorem sml0 (bits:Nat):Sml (rp0 bits):=⟨fun v hv=>(by cases hv),(by decide:(0:Int)≤1),(by decide:(1:Int)<256)⟩
end
end
theorem v2W (bits:Nat) (hb:1≤bits∧bits≤256):J (j0T (g0A (2498+2)) 2 bits 1) [] (rp0 bits):=
 ⟨CI.new (n:=2498) (bits:=bits) (by omega),rfl,(by decide:(1:Int)≤1),by show min (max bits 1) 256=bits;omega,rfl,rfl,List.Pairwise.nil,fun v hv=>(by cases hv),fun v hv=>(by cases hv),fun p hp=>(by cases hp)⟩
theorem m2V (bits:Nat):Bud 0 (j0T (g0A (2498+2)) 2 bits 1) (rp0 bits):=
 ⟨0,0,Nat.le_refl _,fun v hv=>(by cases hv),by have h:=s1O 2498 bits;omega⟩
section
def y2S (m:List Lf):Prop:= ∀x∈m,m0S 4 x.2
structure y2Q (P:Rp):Prop where
 bits:P.bits=256
 maps: ∀v∈P.l,y2S v.m
theorem m0S.zeros: ∀n,m0S n (a0K (n*64))
 |0=>⟨[],rfl,fun _ h=>(by cases h),rfl⟩
 |n+1=>by
  have h1:m0S 1 (Go.Sb.a0K 64):=⟨[0],rfl,by decide,by decide+kernel⟩;have h2:=h1.app (m0S.zeros n);have e:Go.Sb.a0K ((n+1)*64)=Go.Sb.a0K 64++Go.Sb.a0K (n*64):=by unfold Go.Sb.a0K;rw[List.replicate_append_replicate];congr 1;omega
  rw[e,Nat.add_comm n 1];exact h2
theorem y2S.get {m:List Lf} (h:y2S m) (j:Int):m0S 4 (f0M j m):=by
 rcases o0W j m with e|e
 ·rw[e];exact m0S.zero
 ·exact h _ e
theorem y2S.put {m:List Lf} (h:y2S m) {d:B} (hd:m0S 4 d) (a:Int):y2S (j0X m a d):=fun x hx=>by
 unfold j0X at hx;rcases b1C _ _ _ _ _ hx with ⟨h1,_⟩| ⟨_,rfl⟩
 ·exact h x h1
 ·exact hd
theorem y2S.nil:y2S []:=fun _ h=>by cases h
section
variable {c P:Rp} {i:Nat}
theorem y2Q.at_ (h:y2Q c) (i:Nat):y2S (c.l.getD i v0).m:=by
 by_cases hi:i<c.l.length
 ·rw[r0B hi];exact h.maps _ (List.getElem_mem hi)
 ·rw[List.getD_eq_getElem?_getD,List.getElem?_eq_none (by omega)];exact y2S.nil
theorem y2Q.set {v:Vp} (h:y2Q c) (hv:y2S v.m):y2Q {c with l:=c.l.set i v} :=⟨h.bits,fun w hw=>by
 rcases List.mem_or_eq_of_mem_set hw with h1|rfl
 ·exact h.maps w h1
 ·exact hv⟩
theorem y2Q.with_ {m:List Lf} (h:y2Q c) (hm:y2S m):y2Q (d0E c i m):=h.set hm
theorem y2Q.clash (h:y2Q c) {d:B} (hd:m0S 4 d):p0C c d=false:=by
 unfold p0C;rw[h.bits,List.any_eq_false];intro v hv;rw[Bool.not_eq_true,List.any_eq_false];intro x hx hh;have:=of_decide_eq_true hh;exact this.1 ((h.maps v hv x hx).same hd this.2)
theorem y2Q.patch (i:Nat): ∀(k:Nat) {c:Rp} (at_ n:Nat) {d:B},y2Q c→m0S n d→(d0D i k c at_ d).2=0∧y2Q (d0D i k c at_ d).1
 |0,c,_,_,d,h,_=>⟨rfl,h⟩
 |k+1,c,at_,n,d,h,hd=>by
  rw[d0D];split
  ·exact⟨rfl,h⟩
  ·have hl:=hd.len;have hm:m0S 4 (b1B (f0M (at_/4:Nat) (c.l.getD i v0).m) d (at_%4*64) (min d.length (256-at_%4*64))):=((h.at_ i).get _).mix hd (by omega) rfl;simp only;rw[if_neg (fun hh=>by rw[h.clash hm]at hh;exact absurd hh.2.2 (by decide))];obtain⟨p,hp⟩: ∃p,min d.length (256-at_%4*64)=64*p:=⟨min n (4-at_%4),by omega⟩;rw[hp]at hm ⊢;exact y2Q.patch i k _ (n-p) (h.with_ ((h.at_ i).put hm _)) (hd.drop (by omega))
theorem y2Q.noughts (h:y2Q c) (i f u:Nat):(d0T c i f u).2=0∧y2Q (d0T c i f u).1:=by
 unfold d0T;simp only;split
 ·exact h.patch i _ f _ (m0S.zeros _)
 ·obtain⟨p1,p2⟩:=h.patch i ((4*((f+3)/4)-f)*64) f _ (m0S.zeros (4*((f+3)/4)-f));rw[if_neg (fun hh=>hh p1)];obtain⟨q1,q2⟩:=(p2.with_ (i:=i) (m:=g0P ((d0D i ((4*((f+3)/4)-f)*64) c f (Go.Sb.a0K ((4*((f+3)/4)-f)*64))).1.l.getD i v0).m ((f+3)/4:Nat) (u/4:Nat)) (fun x hx=>p2.at_ i x (List.mem_filter.1 hx).1)).patch i ((u-4*(u/4))*64) (4*(u/4)) _ (m0S.zeros (u-4*(u/4)));rw[if_neg (fun hh=>hh q1)];exact⟨rfl,q2⟩
theorem y2Q.add (h:y2Q c) {v:Vp} (hv:y2S v.m):y2Q (g0Q c v).1∧((g0Q c v).2.2≠0→(g0Q c v).1=c):=by
 unfold g0Q;split
 ·exact⟨h,fun _=>rfl⟩
 ·refine⟨⟨h.bits,fun w hw=> ?_⟩,fun hh=>absurd rfl hh⟩;rcases List.mem_append.1 hw with h1|h1
  ·exact h.maps w h1
  ·rw[List.mem_singleton.1 h1];exact hv
theorem y2Q.create (h:y2Q c) (n:Int):y2Q (e0S c n).1∧((e0S c n).2.2≠0→(e0S c n).1=c):=by
 unfold e0S;split
 ·exact⟨h,fun _=>rfl⟩
 ·exact h.add (v:= {v0 with size:=n}) y2S.nil
theorem y2Q.copy (h:y2Q c) (id:Int) (o:Bool):y2Q (i0N c id o).1∧((i0N c id o).2.2≠0→(i0N c id o).1=c):=by
 unfold i0N;split
 ·exact⟨h,fun _=>rfl⟩
 ·exact h.add (h.at_ _)
theorem y2Q.delete (h:y2Q c) (id:Int):y2Q (g0T c id).1∧((g0T c id).2≠0→(g0T c id).1=c):=by
 unfold g0T;split
 ·exact⟨h,fun _=>rfl⟩
 ·exact⟨⟨h.bits,fun w hw=>h.maps w (List.mem_of_mem_eraseIdx hw)⟩,fun hh=>absurd rfl hh⟩
theorem y2Q.write (h:y2Q c) (id at_:Int) {d:B} {n:Nat} (hd:m0S n d):y2Q (j0E c id at_ d).1∧((j0E c id at_ d).2≠0→(j0E c id at_ d).1=c):=by
 unfold j0E;split
 ·exact⟨h,fun _=>rfl⟩
 ·rename_i i _;obtain⟨p1,p2⟩:=h.patch i d.length at_.toNat n hd;split
  ·exact⟨h,fun _=>rfl⟩
  ·split
   ·exact⟨h,fun _=>rfl⟩
   ·split
    ·exact⟨h,fun _=>rfl⟩
    ·simp only;rw[if_neg (fun hh=>hh p1)];exact⟨p2,fun hh=>absurd rfl hh⟩
theorem y2Q.trim (h:y2Q c) (id at_ n:Int):y2Q (l0J c id at_ n).1∧((l0J c id at_ n).2≠0→(l0J c id at_ n).1=c):=by
 unfold l0J;split
 ·exact⟨h,fun _=>rfl⟩
 ·rename_i i _;obtain⟨p1,p2⟩:=h.noughts i at_.toNat (at_+n).toNat;split
  ·exact⟨h,fun _=>rfl⟩
  ·split
   ·exact⟨h,fun _=>rfl⟩
   ·exact⟨p2,fun hh=>absurd p1 hh⟩
theorem y2Q.resize (h:y2Q c) (id n:Int):y2Q (g0U c id n).1∧((g0U c id n).2≠0→(g0U c id n).1=c):=by
 unfold g0U;split
 ·exact⟨h,fun _=>rfl⟩
 ·rename_i i _;obtain⟨p1,p2⟩:=h.noughts i n.toNat (c.l.getD i v0).size.toNat;split
  ·exact⟨h,fun _=>rfl⟩
  ·split
   ·exact⟨h,fun _=>rfl⟩
   ·simp only;split
    ·rw[if_neg (fun hh=>hh p1)];exact⟨p2.set (p2.at_ i),fun hh=>absurd rfl hh⟩
    ·rw[if_neg (fun hh=>hh rfl)];exact⟨h.set (h.at_ i),fun hh=>absurd rfl hh⟩
end
theorem z2H (P:Rp) (v:Vp):(g0Q P v).2.1=0∨(g0Q P v).2.1=P.next:=by
 unfold g0Q;split
 ·exact .inl rfl
 ·exact .inr rfl
theorem z2J (P:Rp) (n:Int):(e0S P n).2.1=0∨(e0S P n).2.1=P.next:=by
 unfold e0S;split
 ·exact .inl rfl
 ·exact z2H _ _
theorem z2E (P:Rp) (id:Int) (o:Bool):(i0N P id o).2.1=0∨(i0N P id o).2.1=P.next:=by
 unfold i0N;split
 ·exact .inl rfl
 ·exact z2H _ _
def rdo (P:Rp) (q id at_ n:Int) (l:B):Rp×Int×Int:=
 if q=1 then e0S P n else if q=2 then i0N P id true else if q=3 then i0N P id false else if q=4 then((g0T P id).1,0,(g0T P id).2)else
 if q=5 then((g0U P id n).1,0,(g0U P id n).2)else if q=6 then((j0E P id at_ l).1,0,(j0E P id at_ l).2)else if q=7 then((l0J P id at_ n).1,0,(l0J P id at_ n).2)else(P,0,15)
structure OpR (q id at_ n:Int) (l:B) (s:St) (P:Rp) (m e:Int) (t:St) (Q:Rp):Prop where
 o1:q=1→g0K n s=(.ok (m,e),t)
 o2:q=2∨q=3→i0G id (decide (q=2)) s=(.ok (m,e),t)
 o4:q=4→r0U id s=(.ok e,t)
 o5:q=5→r0V id n s=(.ok e,t)
 o6:q=6→h0I id at_ l s=(.ok e,t)
 o7:q=7→x0G id at_ n s=(.ok e,t)
 no:4≤q→m=0
 core:Q=(rdo P q id at_ n l).1
theorem J.op {s:St} {G:Gh} {P:Rp} (h:J s G P) {i:Nat} (hB:Bud i s P) (hi:i≤17) (hn:P.next<1000000) (hs:y2Q P) {q:Int} (hq:1≤q∧q≤7) (id at_ n:Int) {l:B} {w:Nat} (hl:m0S w l) (hw:w≤12) (hid:0≤id∧id<32):
 ∃m e t Q G',OpR q id at_ n l s P m e t Q∧J t G' Q∧Bud (i+1) t Q∧Q.next≤P.next+1∧y2Q Q∧(m=0∨m=P.next)∧(Sml P→Sml Q):=by
 have hll:=hl.len;obtain⟨k,hk,hkq⟩: ∃k:Nat,k<14∧((q=1∧k=0)∨(q=2∧k=1)∨(q=3∧k=2)∨(q=4∧k=3)∨(q=5∧k=4)∨(q=6∧k=5)∨(q=7∧k=9)):=by
  obtain⟨h1,h2⟩:=hq;by_cases h7:q=7
  ·exact⟨9,by decide,by omega⟩
  ·exact⟨(q-1).toNat,by omega,by omega⟩
 obtain⟨e,t,Q,G',ha,hj,hb,hx,_⟩:=h.act hB hi hn hk id at_ n (data:=l) (fun _=>by omega);have hsm:Sml P→Sml Q:=fun hh=>ha.sml hk hid hh;have pick: ∀ {r:Rp×Int},y2Q r.1∧(r.2≠0→r.1=P)→r.2=e→Q=(if e=0 then r.1 else P)→Q=r.1∧y2Q Q:=fun {r} hr he hQ=>by
  by_cases h0:e=0
  ·rw[if_pos h0]at hQ;rw[hQ];exact⟨rfl,hr.1⟩
  ·rw[if_neg h0]at hQ;rw[hQ,hr.2 (by rw[he];exact h0)];exact⟨rfl,hs⟩
 rcases hkq with ⟨hq,rfl⟩| ⟨hq,rfl⟩| ⟨hq,rfl⟩| ⟨hq,rfl⟩| ⟨hq,rfl⟩| ⟨hq,rfl⟩| ⟨hq,rfl⟩<;>subst hq
 ·obtain⟨m,h1,h2,h3,h4,h5⟩:=ha.k0 rfl;obtain⟨c1,c2⟩:=pick (r:=((e0S P n).1,(e0S P n).2.2)) (hs.create n) h2 h5;refine⟨m,e,t,Q,G',⟨fun _=>h1,by omega,by omega,by omega,by omega,by omega,by omega,c1⟩,hj,hb,hx,c2,?_,hsm⟩;by_cases h0:e=0
  ·rw[h3 h0];exact z2J P n
  ·exact .inl (h4 h0)
 ·obtain⟨m,h1,h2,h3,h4,h5⟩:=ha.k1 (.inl rfl);obtain⟨c1,c2⟩:=pick (r:=((i0N P id true).1,(i0N P id true).2.2)) (hs.copy id true) h2 h5;refine⟨m,e,t,Q,G',⟨by omega,fun _=>h1,by omega,by omega,by omega,by omega,by omega,c1⟩,hj,hb,hx,c2,?_,hsm⟩;by_cases h0:e=0
  ·rw[h3 h0];exact z2E P id _
  ·exact .inl (h4 h0)
 ·obtain⟨m,h1,h2,h3,h4,h5⟩:=ha.k1 (.inr rfl);obtain⟨c1,c2⟩:=pick (r:=((i0N P id false).1,(i0N P id false).2.2)) (hs.copy id false) h2 h5;refine⟨m,e,t,Q,G',⟨by omega,fun _=>h1,by omega,by omega,by omega,by omega,by omega,c1⟩,hj,hb,hx,c2,?_,hsm⟩;by_cases h0:e=0
  ·rw[h3 h0];exact z2E P id _
  ·exact .inl (h4 h0)
 ·obtain⟨h1,h2,h3⟩:=ha.k3 rfl;obtain⟨c1,c2⟩:=pick (hs.delete id) h2 h3;exact⟨0,e,t,Q,G',⟨by omega,by omega,fun _=>h1,by omega,by omega,by omega,fun _=>rfl,c1⟩,hj,hb,hx,c2,.inl rfl,hsm⟩
 ·obtain⟨h1,h2,h3⟩:=ha.k4 rfl;obtain⟨c1,c2⟩:=pick (hs.resize id n) h2 h3;exact⟨0,e,t,Q,G',⟨by omega,by omega,by omega,fun _=>h1,by omega,by omega,fun _=>rfl,c1⟩,hj,hb,hx,c2,.inl rfl,hsm⟩
 ·obtain⟨h1,h2,h3⟩:=ha.k5 (by decide);obtain⟨c1,c2⟩:=pick (hs.write id at_ hl) h2 h3;exact⟨0,e,t,Q,G',⟨by omega,by omega,by omega,by omega,fun _=>h1,by omega,fun _=>rfl,c1⟩,hj,hb,hx,c2,.inl rfl,hsm⟩
 ·obtain⟨h1,h2,h3⟩:=ha.k9 (.inl rfl);obtain⟨c1,c2⟩:=pick (hs.trim id at_ n) h2 h3;exact⟨0,e,t,Q,G',⟨by omega,by omega,by omega,by omega,by omega,fun _=>h1,fun _=>rfl,c1⟩,hj,hb,hx,c2,.inl rfl,hsm⟩
end
end Go.Sb
namespace Go.Sl
open Go.Sb
section
section
variable {κ ν:Type} [DecidableEq κ] {ek:κ→Value} {ev:ν→Value} {ok:κ→Prop} {c:Cx} {env:List (Nat×Value)} {L M:List a0C} {ops:Array Oper} {rest:List Oper}
theorem z2F {Q} {t kt et b:Nat} {x y u:Operand} {k:κ} {v:ν} {m:List (κ×ν)} {ty pos af} (ht:p0U c.P t kt et=true) (K:v0C c.P kt ek ok) (hm: ∀p∈m,ok p.1) (hk:ok k)
 (hx:evo env x=some (.map (some b))) (hy:evo env y=some (ek k)) (hu':evo env u=some (ev v)) (hL:Fnd L (b0L b ek ev m) M)
 (h:OW c ops Q rest env (b0L b ek ev (b0T k v m)::M)):OW c ops Q (⟨none,.insert t x y u,ty,pos,af,none⟩::rest) env L:=by
 intro a w hh;exact n0G (ty:=ty) (pos:=pos) (af:=af) ht K hm hk hx hy hu' hL h a w hh
theorem z2K {t kt et b:Nat} {z v:Value} {x y:Operand} {k:κ} {m:List (κ×ν)} {dd ty pos af g} (ht:p0U c.P t kt et=true) (K:v0C c.P kt ek ok) (hm: ∀p∈m,ok p.1) (hk:ok k) (hz:g0M c.P et=some z)
 (hx:evo env x=some (.map (some b))) (hy:evo env y=some (ek k)) (hL:Fnd L (b0L b ek ev m) M) (hv:((a0E k m).map ev).getD z=v):
 a0O c ⟨dd,.lookup t x y false,ty,pos,af,g⟩ env L v:=by
 have:=r1D (c:=c) (dd:=dd) (ty:=ty) (pos:=pos) (af:=af) (g:=g) (co:=false) ht K hm hk hz hx hy hL;simpa [hv] using this
end
end
end Go.Sl
namespace Go.Proofs.Q
section
open Go
end
end Go.Proofs.Q
namespace Go.Sl
open Go.ChangeShapes Go.WideShapes Go.ChangeAt Go.RowKit
section
def m2W (a b c d:Int) (s:ByteArray):List Value:= [.int .i64 a,.int .i64 b,.int .i64 c,.int .i64 d,.string s]
section
variable {H:Type} {enc:TypeId×Value→H} {P:Program} {W:World} {base:Nat} {sp:Nat→Bool} {hd:Bool}
theorem h2W {t:TypeId} {f0 f1 f2 f3 f4:Field} {fuel:Nat} {cs:List Value} {x:DataW H×List MemPlace} (ht:P.underlying t=some (.struct #[f0,f1,f2,f3,f4])) (hc:P.cellsOf t=5)
 (h0:f0.offset=0∧P.cellsOf f0.type=1∧P.underlying f0.type=some (.int .i64)) (h1:f1.offset=1∧P.cellsOf f1.type=1∧P.underlying f1.type=some (.int .i64))
 (h2:f2.offset=2∧P.cellsOf f2.type=1∧P.underlying f2.type=some (.int .i64)) (h3:f3.offset=3∧P.cellsOf f3.type=1∧P.underlying f3.type=some (.int .i64))
 (h4:f4.offset=4∧P.cellsOf f4.type=1∧P.underlying f4.type=some .string) (h:DataW.trod enc P W base sp hd fuel t cs=some x): ∃a b c d s,cs=m2W a b c d s:=by
 obtain⟨xs,n,_,_,hl,hlen,hf⟩:=DataW.trod_struct ht h;rw[hc]at hl;have hx:xs.length=5:=hlen
 match cs,hl with
 | [c0,c1,c2,c3,c4],_=>
  have g: ∀(i:Nat) (f:Field),#[f0,f1,f2,f3,f4][i]? =some f→ ∃y,DataW.trod enc P W base sp hd n f.type ((([c0,c1,c2,c3,c4]:List Value).drop f.offset).take (P.cellsOf f.type))=some y:=fun i f hi=>by
   have hi5:i<5:=(Array.getElem?_eq_some_iff.1 hi).1;refine⟨xs[i]'(by omega),?_⟩;rw[hf i f hi,List.getElem?_eq_getElem (by omega)]
  obtain⟨y0,g0⟩:=g 0 f0 rfl;obtain⟨y1,g1⟩:=g 1 f1 rfl;obtain⟨y2,g2⟩:=g 2 f2 rfl;obtain⟨y3,g3⟩:=g 3 f3 rfl;obtain⟨y4,g4⟩:=g 4 f4 rfl;rw[h0.1,h0.2.1]at g0;rw[h1.1,h1.2.1]at g1;rw[h2.1,h2.2.1]at g2;rw[h3.1,h3.2.1]at g3;rw[h4.1,h4.2.1]at g4;obtain⟨a,e0,_⟩:=DataW.trod_int h0.2.2 g0;obtain⟨b,e1,_⟩:=DataW.trod_int h1.2.2 g1;obtain⟨c,e2,_⟩:=DataW.trod_int h2.2.2 g2;obtain⟨d,e3,_⟩:=DataW.trod_int h3.2.2 g3;obtain⟨s,e4,_⟩:=DataW.trod_string h4.2.2 g4;simp only[List.drop_zero,List.drop_succ_cons,List.take_succ_cons,List.take_zero,List.cons.injEq,and_true]at e0 e1 e2 e3 e4;exact⟨a,b,c,d,s,by rw[e0,e1,e2,e3,e4];rfl⟩
theorem h2X {r:Reach} {b0:Nat} {t e:TypeId} {f0 f1 f2 f3 f4:Field} {v:Value} {dd:DataW H} {ps:List MemPlace} (hs:P.underlying t=some (.slice e)) (ht:P.underlying e=some (.struct #[f0,f1,f2,f3,f4])) (hc:P.cellsOf e=5)
 (h0:f0.offset=0∧P.cellsOf f0.type=1∧P.underlying f0.type=some (.int .i64)) (h1:f1.offset=1∧P.cellsOf f1.type=1∧P.underlying f1.type=some (.int .i64))
 (h2:f2.offset=2∧P.cellsOf f2.type=1∧P.underlying f2.type=some (.int .i64)) (h3:f3.offset=3∧P.cellsOf f3.type=1∧P.underlying f3.type=some (.int .i64))
 (h4:f4.offset=4∧P.cellsOf f4.type=1∧P.underlying f4.type=some .string) (hval:Value.okWide P W r b0 t v) (h:DataW.Trod enc P W base sp hd t v dd ps):
 ∃(p:Option Addr) (n cap:Nat),v= .slice p n cap∧n≤maxLen∧ ∀i,i<n→ ∃A,p=some A∧ ∃a b c d s,∀q u,(m2W a b c d s)[q]? =some u→W.cell? ((A.add (i*5)).add q)=some u:=by
 obtain⟨a0,len,cap,rfl⟩:=okWide_slice hs hval;obtain⟨fuel,hf⟩:=h;rcases DataW.trod_slice hs hf with ⟨hcs,_⟩| ⟨A,len',cap',elems,rest,n,_,hcs,_,hb,hl,hm,hlen,hel,_,_⟩
 ·simp[Value.cells]at hcs;obtain⟨rfl,rfl,rfl⟩:=hcs;exact⟨none,0,0,rfl,Nat.zero_le _,fun i hi=>absurd hi (Nat.not_lt_zero _)⟩
 ·simp[Value.cells]at hcs;obtain⟨rfl,rfl,rfl⟩:=hcs;refine⟨some A,len,cap,rfl,by omega,fun i hi=>⟨A,rfl,?_⟩⟩;have h5:=hel i hi;rw[hc,List.getElem?_eq_getElem (by omega),Option.bind_eq_some_iff]at h5;obtain⟨cs',g1,g2⟩:=h5;obtain⟨a,b,c,d,s,rfl⟩:=h2W ht hc h0 h1 h2 h3 h4 g2;obtain⟨_,_,g3⟩:=World.cells?_some g1;exact⟨a,b,c,d,s,fun q u hq=>by
   have hq5:q<5:=(List.getElem?_eq_some_iff.1 hq).1;rw[g3 q hq5];exact hq⟩
end
end
end Go.Sl
