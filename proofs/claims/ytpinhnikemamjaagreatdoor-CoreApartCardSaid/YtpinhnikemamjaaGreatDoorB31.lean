/- Part of the proof; no statement of its own. -/
import Derived.Test.YtpinhnikemamjaaGreatDoorB30
import Derived.Test.YtpinhnikemamjaaGreatDoorB22
import Derived.Test.YtpinhnikemamjaaGreatDoorB26
set_option linter.all false
set_option maxRecDepth 4000
set_option maxHeartbeats 4000000
namespace Go.Sb
def mb (m:Nat→B) (q:Nat):UInt8:=(m (q/256)).getD (q%256) 0
theorem t1F {l:B} (h:l.length=32):d0F 256 l=l:=by
 unfold d0F
 apply List.ext_getElem (by simp)
 intro i h1 h2
 rw[List.getElem_mapIdx,if_neg (by omega)]
theorem y1P (d:B):key 256 (Sha.sum d)=Sha.sum d:=t1F (q0F d)
def m0J (n:Nat) (d:B):Prop:= ∃ks:List Nat,ks.length=n∧(∀k∈ks,k<4)∧d=ks.flatMap Sha.sec
theorem d1C (ks:List Nat):(ks.flatMap Sha.sec).length=64*ks.length:=by
 induction ks with
 |nil=>rfl
 |cons k ks ih=>rw[List.flatMap_cons,List.length_append,ih,Sha.t0B,List.length_cons];omega
theorem m0J.len {n:Nat} {d:B} (h:m0J n d):d.length=64*n:=by obtain⟨ks,h1,_,rfl⟩:=h;rw[d1C,h1]
theorem m0J.app {n m:Nat} {a b:B} (h:m0J n a) (j:m0J m b):m0J (n+m) (a++b):=by
 obtain⟨ks,h1,h2,rfl⟩:=h
 obtain⟨ls,j1,j2,rfl⟩:=j
 exact⟨ks++ls,by simp[h1,j1],fun k hk=>(List.mem_append.1 hk).elim (h2 k) (j2 k),by rw[List.flatMap_append]⟩
theorem h2G (ks:List Nat) (n:Nat) (hn:n≤ks.length):(ks.flatMap Sha.sec).take (64*n)=(ks.take n).flatMap Sha.sec:=by
 conv=>lhs;rw[←List.take_append_drop n ks,List.flatMap_append]
 rw[List.take_left' (by rw[d1C,List.length_take];omega)]
theorem h2H (ks:List Nat) (n:Nat) (hn:n≤ks.length):(ks.flatMap Sha.sec).drop (64*n)=(ks.drop n).flatMap Sha.sec:=by
 conv=>lhs;rw[←List.take_append_drop n ks,List.flatMap_append]
 rw[List.drop_left' (by rw[d1C,List.length_take];omega)]
theorem m0J.take {n m:Nat} {d:B} (h:m0J n d) (hm:m≤n):m0J m (d.take (64*m)):=by
 obtain⟨ks,h1,h2,rfl⟩:=h
 exact⟨ks.take m,by rw[List.length_take];omega,fun k hk=>h2 k (List.mem_of_mem_take hk),h2G _ _ (by omega)⟩
theorem m0J.drop {n m:Nat} {d:B} (h:m0J n d) (hm:m≤n):m0J (n-m) (d.drop (64*m)):=by
 obtain⟨ks,h1,h2,rfl⟩:=h
 exact⟨ks.drop m,by rw[List.length_drop];omega,fun k hk=>h2 k (List.mem_of_mem_drop hk),h2H _ _ (by omega)⟩
theorem m0J.zero:m0J 4 (a0T 256):=⟨[0,0,0,0],rfl,by decide,by decide+kernel⟩
theorem m0J.four {d:B} (h:m0J 4 d): ∃a b c e:Nat,(a<4∧b<4∧c<4∧e<4)∧d=Sha.u0M a b c e:=by
 obtain⟨ks,h1,h2,rfl⟩:=h
 match ks,h1 with
 | [a,b,c,e],_=>exact⟨a,b,c,e,⟨h2 a (by simp),h2 b (by simp),h2 c (by simp),h2 e (by simp)⟩,by unfold Sha.u0M;simp⟩
theorem m0J.same {d e:B} (h:m0J 4 d) (j:m0J 4 e) (hs:key 256 (Sha.sum d)=key 256 (Sha.sum e)):d=e:=by
 rw[y1P,y1P]at hs
 obtain⟨a,b,c,f,⟨h1,h2,h3,h4⟩,rfl⟩:=h.four
 obtain⟨a',b',c',f',⟨j1,j2,j3,j4⟩,rfl⟩:=j.four
 exact Sha.v1X h1 h2 h3 h4 j1 j2 j3 j4 hs
theorem m0J.mix {was data:B} {f n m:Nat} (h:m0J 4 was) (j:m0J m data) (hf:f<4) (hn:n=min data.length (256-f*64)):m0J 4 (s0O was data (f*64) n):=by
 have hl:=j.len
 have h1:=(h.take (m:=f) (by omega)).app ((j.take (m:=min m (4-f)) (by omega)).app (h.drop (m:=f+min m (4-f)) (by omega)))
 rw[show f+(min m (4-f)+(4- (f+min m (4-f))))=4 by omega]at h1
 unfold s0O
 rw[List.append_assoc,show f*64=64*f by omega,show n=64*min m (4-f) by omega,show 64*f+64*min m (4-f)=64*(f+min m (4-f)) by omega]
 exact h1
section
section
variable {s t:St} {G:Gh}
theorem h2I {G:Gh} (hz:a0H 0 G=none):b0D G 0=fun _=>a0T 256:=by
 funext j
 unfold b0D
 split
 ·rw[t0K hz];unfold e0B;rw[hz]
 ·rfl
theorem CI.z (h:CI s G):a0H 0 G=none:=by
 cases hg:a0H 0 G with
 |none=>rfl
 |some o=>exact absurd rfl (h.inv.ne0 hg)
theorem t1G (n bits:Nat):b0U (j0U (g0G (n+2)) 2 bits 1)=n:=by
 have:(j0U (g0G (n+2)) 2 bits 1).g=List.replicate n 0:=by simp[j0U,g0G]
 unfold b0U;rw[this,List.count_replicate];simp
theorem q2H (bits:Nat) (k at_:Nat) (data:B) (hd:data.length=64): ¬i0Z bits [] (k+1) (fun _=>a0T 256) at_ data:=fun h=>by
 obtain⟨h0,h1⟩:=h
 rcases h1 with ⟨_,o,hom,j,_,hz,_,_⟩|h2
 ·rcases List.mem_cons.1 hom with rfl|hom
  ·rw[e0P]at hz;cases hz
  ·cases hom
 ·have:data.drop (min data.length (256-at_%4*64))= []:=by apply List.drop_eq_nil_of_le;omega
  rw[this]at h2
  cases k with
  |zero=>exact h2
  |succ k=>exact h2.1 rfl
theorem t1H {id:Int} {x:Ent} (hx:a0H id s.vols=some x):find id (start s 0)=(.ok x,start s 0):=by
 unfold find;rw[show a0H id (Go.Sb.start s 0).vols=some x from hx]
theorem CI.startRel (h:CI s G):Rel 0 0 (Go.Sb.start s 0) (Go.Sb.start s 0):=Rel.refl (h.start 0).1.u
theorem CI.writeOnly (h:CI s G) {id at_:Int} {x:Ent} {data:B} (hx:a0H id s.vols=some x) (ho:x.only=true):
 ∃s',h0E id at_ data s=(.ok 7,s')∧CI s' G∧s'.vols.Perm s.vols∧meq s'.vols s.vols∧s'.bits=s.bits∧s'.next=s.next∧s'.epoch=s.epoch∧b0U s≤b0U s':=by
 refine h.writeErr (t:=Go.Sb.start s 0) (c:=0) (k:=0) ?_ (by decide) h.startRel
 unfold h0Y l0C
 exact a0Q (by rw[a0A (t1H hx),if_pos ho];rfl)
theorem CI.writeRange (h:CI s G) {id at_:Int} {x:Ent} {data:B} (hx:a0H id s.vols=some x) (ho:x.only=false) (h64:data.length%64=0)
 (hout:at_<0∨(x.size:Int)<at_∨(x.size:Int)-at_<(data.length/64:Nat)):
 ∃s',h0E id at_ data s=(.ok 6,s')∧CI s' G∧s'.vols.Perm s.vols∧meq s'.vols s.vols∧s'.bits=s.bits∧s'.next=s.next∧s'.epoch=s.epoch∧b0U s≤b0U s':=by
 have hmem:(id,x)∈s.vols:=(g0X h.inv.u.m.vols).1 hx
 have hids:x.id=id∧1≤x.size∧x.size≤2048:=h.ids _ hmem
 refine h.writeErr (t:=Go.Sb.start s 0) (c:=0) (k:=0) ?_ (by decide) h.startRel
 unfold h0Y l0C
 rw[a0A (show a0B (find id) (fun x=>if x.only=true then n0F 7 else ret x) (Go.Sb.start s 0)=(.ok x,Go.Sb.start s 0) by rw[a0A (t1H hx),if_neg (by simp[ho])];rfl),if_neg (by omega)]
 refine a0Q ?_
 unfold g0T
 rw[if_neg (by omega)]
 unfold k0U
 rw[if_pos (by omega)];rfl
end
def l1M (s:St):Prop:=s.bits≤256∧s.vols.length≤1000
theorem CI.fits {s:St} {G:Gh} (h:CI s G) (hb:s.bits=256):l1M s:=⟨by omega,by have:=h.few;omega⟩
def xsD:B:=List.replicate 64 120
theorem v1Y: ∃s1 s2 s3 s4 s5:St,(l1M (j0U (g0G 100) 2 256 1)∧l1M s1∧l1M s2∧l1M s3∧l1M s4)∧g0J 5 (j0U (g0G 100) 2 256 1)=(.ok (1,0),s1)∧h0E 1 4 xsD s1=(.ok 0,s2)∧
 h0X 1 true s2=(.ok (2,0),s3)∧h0E 2 0 [] s3=(.ok 7,s4)∧h0E 1 5 xsD s4=(.ok 6,s5):=by
 have h0:CI (j0U (g0G 100) 2 256 1) []:=CI.new (n:=98) (bits:=256) (by omega)
 have f0:=t1G 98 256
 have hxl:xsD.length=64:=rfl
 obtain⟨s1,e1,h1,v1,n1,p1,b1,r1⟩:=h0.create (size:=5) (by omega) (by show 0<16;omega) rfl (by rw[f0];show 2*(0+1)≤98;omega)
 have v1':s1.vols= [((1:Int),{j0I with size:=5,id:=1,born:=1})]:=v1
 have n1':s1.next=2:=n1
 have hb1:s1.bits=256:=b1
 have hx1:a0H 1 s1.vols=some {j0I with size:=5,id:=1,born:=1} :=by rw[v1'];rfl
 have hm:b0D ([]:Gh) 0=fun _=>a0T 256:=h2I rfl
 have ho:n0C s1 [] 1= []:=by unfold n0C;rw[v1'];rfl
 rw[f0]at r1
 obtain⟨s2,G2,r,e2,h2,v2,m2,_,n2,_,b2,r2⟩:=h1.write (m:=1) (at_:=4) (data:=xsD) hx1 rfl hxl (by show((4:Nat):Int)+((1:Nat):Int)≤5;omega) (by rw[v1'];show 2*1+1*8≤_;omega) (by omega)
  (by rw[ho,hb1];show ¬i0Z 256 [] xsD.length (b0D [] 0) 4 xsD;rw[hm];exact q2H 256 63 4 xsD rfl)
 have v2':s2.vols= [((1:Int),{j0I with size:=5,id:=1,born:=1,root:=r})]:=by rw[v2,v1'];rfl
 have hx2:a0H 1 s2.vols=some {j0I with size:=5,id:=1,born:=1,root:=r} :=by rw[v2'];rfl
 have hn2:s2.next=2:=n2.trans n1'
 obtain⟨s3,e3,h3,v3,n3,p3,b3,r3⟩:=h2.copy (id:=1) (only:=true) hx2 (by rw[v2'];show 1<16;omega) (by rw[hn2,v2'];rfl) (by rw[v2'];show 2*(1+1)≤_;omega)
 rw[hn2]at e3 v3
 have hb3:s3.bits=256:=b3.trans (b2.trans hb1)
 have hx3:a0H 1 s3.vols=some {j0I with size:=5,id:=1,born:=1,root:=r} :=by rw[v3,v2'];rfl
 have hy3:a0H 2 s3.vols=some {j0I with parent:=1,only:=true,size:=5,root:=r,id:=2,born:=s2.epoch} :=by rw[v3,v2'];rfl
 obtain⟨s4,e4,h4,_,q4,b4,_⟩:=h3.writeOnly (at_:=0) (data:= []) hy3 rfl
 have hx4:a0H 1 s4.vols=some {j0I with size:=5,id:=1,born:=1,root:=r} :=by rw[q4];exact hx3
 obtain⟨s5,e5,_⟩:=h4.writeRange (at_:=5) (data:=xsD) hx4 rfl rfl (by right;right;show(5:Int)-5<_;rw[hxl];decide)
 exact⟨s1,s2,s3,s4,s5,⟨h0.fits rfl,h1.fits hb1,h2.fits (b2.trans hb1),h3.fits hb3,h4.fits (b4.trans hb3)⟩,e1,e2,e3,e4,e5⟩
end
structure k0X (m:List Lf) (f:Nat→B):Prop where
 ok:o0N m
 nz: ∀x∈m,b0B x.2=false
 eq: ∀j:Nat,f j=g0R (j:Int) m
theorem s0P (j:Int): ∀m:List Lf,g0R j m=a0T 256∨(j,g0R j m)∈m
 | []=> .inl rfl
 | (a,d)::r=>by
  rw[i0Y]
  by_cases e:a=j
  ·rw[if_pos e];subst e;exact .inr List.mem_cons_self
  ·rw[if_neg e];exact(s0P j r).imp id (List.mem_cons_of_mem _)
theorem t1I {x:Lf} : ∀ {m:List Lf},(m.Pairwise fun a b=>a.1<b.1)→x∈m→g0R x.1 m=x.2
 | (a,d)::r,hp,hx=>by
  obtain⟨h1,h2⟩:=List.pairwise_cons.1 hp
  rw[i0Y]
  rcases List.mem_cons.1 hx with rfl|hx
  ·rw[if_pos rfl]
  ·have:=h1 x hx
   rw[if_neg (by simp only at this;omega)]
   exact t1I h2 hx
theorem g1U (at_:Int) (d:B): ∀(m:List Lf) (done:Bool),(o0L at_ d done m).length+(m.filter fun x=>decide (x.1=at_)).length=m.length+if done then 0 else 1
 | [],done=>by unfold o0L;cases done<;>rfl
 |x::r,done=>by
  have ih:=g1U at_ d r (done || decide (at_<x.1))
  rw[j1B,List.length_append,List.length_append,List.filter_cons,List.length_cons]
  by_cases h1:x.1=at_
  ·rw[if_pos h1,decide_eq_true h1,if_pos rfl,List.length_cons]
   have h2: ¬at_<x.1:=by omega
   rw[decide_eq_false h2,Bool.or_false]at ih
   rw[if_neg (fun h=>h2 h.2),decide_eq_false h2,Bool.or_false]
   simp only[List.length_nil];omega
  ·rw[if_neg h1,decide_eq_false h1,if_neg Bool.false_ne_true,List.length_singleton]
   by_cases h2:at_<x.1
   ·rw[decide_eq_true h2,Bool.or_true]at ih ⊢
    cases done with
    |true=>rw[if_neg (fun h=>by cases h.1)];simp only[if_true,List.length_nil]at ih ⊢;omega
    |false=>rw[if_pos ⟨rfl,h2⟩];simp only[if_true,List.length_singleton,Bool.false_eq_true,if_false]at ih ⊢;omega
   ·rw[decide_eq_false h2,Bool.or_false]at ih ⊢
    rw[if_neg (fun h=>h2 h.2)];simp only[List.length_nil];omega
theorem m2F (m:List Lf) (at_:Int) (d:B):(j0O m at_ d).length≤m.length+1:=by
 have:=g1U at_ d m (b0B d)
 unfold j0O
 split at this<;>omega
theorem h2J {m:List Lf} {at_:Int} {d:B} (h:b0B d=true∨g0R at_ m≠a0T 256):(j0O m at_ d).length≤m.length:=by
 have hc:=g1U at_ d m (b0B d)
 unfold j0O
 rcases h with h|h
 ·rw[h,if_pos rfl]at hc;rw[h];omega
 ·have h1:(at_,g0R at_ m)∈m:=(s0P at_ m).resolve_left h
  have h2:(at_,g0R at_ m)∈m.filter fun x=>decide (x.1=at_):=List.mem_filter.2 ⟨h1,by simp⟩
  have h3:=List.length_pos_of_mem h2
  split at hc<;>omega
theorem k0X.put {m:List Lf} {f:Nat→B} (h:k0X m f) {a:Nat} {d:B} (ha:a<512) (hd:d.length=256):k0X (j0O m (a:Int) d) (upd f a d):=by
 refine⟨h.ok.put ⟨by omega,by omega⟩ hd,fun x hx=> ?_,fun j=> ?_⟩
 ·rcases a1M (a:Int) d m _ x hx with ⟨h1,_⟩| ⟨h1,rfl⟩
  ·exact h.nz x h1
  ·exact h1
 ·unfold upd j0O
  rw[n1M]
  by_cases e:j=a
  ·subst e
   rw[if_pos rfl,if_pos rfl]
   split
   ·rename_i hz;exact z0W hz hd
   ·rfl
  ·rw[if_neg e,if_neg (by omega),h.eq]
theorem k0X.far {m:List Lf} {f:Nat→B} (h:k0X m f) {j:Nat} (hz:b0B (f j)=false):j<512:=by
 rw[h.eq]at hz
 rcases s0P (j:Int) m with h1|h1
 ·rw[h1,e0P]at hz;cases hz
 ·have:=(h.ok.in_ _ h1).2.1;simp only at this;omega
def o0Q (Ms:List (Nat→B)) (bits:Nat):Prop:= ∀m1∈Ms,∀m2∈Ms,∀i j,b0B (m1 i)=false→b0B (m2 j)=false→key bits (Sha.sum (m1 i))=key bits (Sha.sum (m2 j))→m1 i=m2 j
theorem o0Q.step {f:Nat→B} {Os:List (Nat→B)} {bits a:Nat} {d:B} (h:o0Q (f::Os) bits) (hf: ∀g∈f::Os,∀j,b0B (g j)=false→j<512) (hn:b0B d=false→ ¬w0S (f::Os) bits d):o0Q (upd f a d::Os) bits:=by
 have key1: ∀g∈upd f a d::Os,∀j,(g j=d∨ ∃g'∈f::Os,g j=g' j):=fun g hg j=>by
  rcases List.mem_cons.1 hg with rfl|hg
  ·by_cases e:j=a
   ·left;unfold Go.Sb.upd;rw[if_pos e]
   ·right;exact⟨f,List.mem_cons_self,by unfold Go.Sb.upd;rw[if_neg e]⟩
  ·exact .inr ⟨g,List.mem_cons_of_mem _ hg,rfl⟩
 have one: ∀g∈f::Os,∀j,b0B d=false→b0B (g j)=false→key bits (Sha.sum (g j))=key bits (Sha.sum d)→g j=d:=fun g hg j hd hz hk=>by
  by_cases e:g j=d
  ·exact e
  ·exact(hn hd ⟨g,hg,j,hf g hg j hz,hz,e,hk⟩).elim
 intro m1 h1 m2 h2 i j z1 z2 hk
 rcases key1 m1 h1 i with e1| ⟨g1,hg1,e1⟩<;>rcases key1 m2 h2 j with e2| ⟨g2,hg2,e2⟩
 ·rw[e1,e2]
 ·rw[e1]at hk z1 ⊢;rw[e2]at hk z2 ⊢;exact(one g2 hg2 j z1 z2 hk.symm).symm
 ·rw[e1]at hk z1 ⊢;rw[e2]at hk z2 ⊢;exact one g1 hg1 i z2 z1 hk
 ·rw[e1]at hk z1 ⊢;rw[e2]at hk z2 ⊢;exact h g1 hg1 g2 hg2 i j z1 z2 hk
theorem o0Q.noClash {f:Nat→B} {Os:List (Nat→B)} {bits a:Nat} (h:o0Q (f::Os) bits) (hz:b0B (f a)=false): ¬w0S (f::Os) bits (f a):=by
 rintro⟨g,hg,j,_,z,hne,hk⟩
 exact hne (h g hg f List.mem_cons_self j a z hz hk)
structure q0L (c:Rp) (i:Nat) (Os:List (Nat→B)):Prop where
 to_: ∀k,k<c.l.length→k≠i→ ∃f∈Os,k0X (c.l.getD k v0).m f
 of_: ∀f∈Os,∃k,k<c.l.length∧k≠i∧k0X (c.l.getD k v0).m f
theorem r0V (c:Rp) (i:Nat) (m:List Lf):(d0R c i m).l.length=c.l.length:=by unfold d0R;simp
theorem t1J {c:Rp} {i k:Nat} {m:List Lf} (h:k≠i):(d0R c i m).l.getD k v0=c.l.getD k v0:=by
 unfold d0R;simp only[List.getD_eq_getElem?_getD];rw[List.getElem?_set_ne (Ne.symm h)]
theorem w0U {c:Rp} {i:Nat} {m:List Lf} (h:i<c.l.length):(d0R c i m).l.getD i v0= {c.l.getD i v0 with m:=m} :=by
 unfold d0R;simp only[List.getD_eq_getElem?_getD];rw[List.getElem?_set_self h];rfl
theorem p0I {c:Rp} {i:Nat} {m m':List Lf} (h:i<c.l.length):d0R (d0R c i m) i m'=d0R c i m':=by
 have h1:=w0U (m:=m) h
 unfold d0R at h1 ⊢
 simp only at h1 ⊢
 rw[h1,List.set_set]
theorem n0E {c:Rp} {i:Nat} (h:i<c.l.length):d0R c i (c.l.getD i v0).m=c:=by
 unfold d0R
 have e:c.l.set i {c.l.getD i v0 with m:=(c.l.getD i v0).m} =c.l:=by
  rw[List.getD_eq_getElem?_getD,List.getElem?_eq_getElem h]
  exact List.set_getElem_self h
 rw[e]
theorem q0L.with_ {c:Rp} {i:Nat} {Os:List (Nat→B)} (h:q0L c i Os) (m:List Lf):q0L (d0R c i m) i Os:=
 ⟨fun k hk hne=>by rw[r0V]at hk;rw[t1J hne];exact h.to_ k hk hne,fun f hf=>by obtain⟨k,h1,h2,h3⟩:=h.of_ f hf;exact⟨k,by rw[r0V];exact h1,h2,by rw[t1J h2];exact h3⟩⟩
theorem q0L.far {c:Rp} {i:Nat} {f:Nat→B} {Os:List (Nat→B)} (h:q0L c i Os) (hf:k0X (c.l.getD i v0).m f): ∀g∈f::Os,∀j,b0B (g j)=false→j<512:=fun g hg j hz=>by
 rcases List.mem_cons.1 hg with rfl|hg
 ·exact hf.far hz
 ·obtain⟨k,_,_,h3⟩:=h.of_ g hg;exact h3.far hz
theorem q0M {l:List Vp} {k:Nat} (h:k<l.length):l.getD k v0=l[k]:=by rw[List.getD_eq_getElem?_getD,List.getElem?_eq_getElem h];rfl
theorem c2Q {c:Rp} {i:Nat} {f:Nat→B} {Os:List (Nat→B)} (hi:i<c.l.length) (h:q0L c i Os) (hf:k0X (c.l.getD i v0).m f) (data:B):o0U c data=true↔w0S (f::Os) c.bits data:=by
 unfold o0U
 constructor
 ·intro hr
  obtain⟨v,hv,hr⟩:=List.any_eq_true.1 hr
  obtain⟨x,hx,hr⟩:=List.any_eq_true.1 hr
  obtain⟨hne,hk⟩:=of_decide_eq_true hr
  obtain⟨k,hk2,rfl⟩:=List.mem_iff_getElem.1 hv
  have: ∃g∈f::Os,k0X (c.l.getD k v0).m g:=by
   by_cases e:k=i
   ·subst e;exact⟨f,List.mem_cons_self,hf⟩
   ·obtain⟨g,hg,h3⟩:=h.to_ k hk2 e;exact⟨g,List.mem_cons_of_mem _ hg,h3⟩
  obtain⟨g,hg,h3⟩:=this
  rw[q0M hk2]at h3
  have hin:=h3.ok.in_ x hx
  have he:g x.1.toNat=x.2:=by rw[h3.eq,Int.toNat_of_nonneg hin.1];exact t1I h3.ok.ord hx
  exact⟨g,hg,x.1.toNat,by omega,by rw[he];exact h3.nz x hx,by rw[he];exact hne,by rw[he];exact hk⟩
 ·rintro⟨g,hg,j,hj,hz,hne,hk⟩
  have: ∃k,k<c.l.length∧k0X (c.l.getD k v0).m g:=by
   rcases List.mem_cons.1 hg with rfl|hg
   ·exact⟨i,hi,hf⟩
   ·obtain⟨k,h1,_,h3⟩:=h.of_ g hg;exact⟨k,h1,h3⟩
  obtain⟨k,hk2,h3⟩:=this
  rw[q0M hk2]at h3
  rw[h3.eq]at hz hne hk
  rcases s0P (j:Int) c.l[k].m with h1|h1
  ·rw[h1,e0P]at hz;cases hz
  ·exact List.any_eq_true.2 ⟨_,List.getElem_mem hk2,List.any_eq_true.2 ⟨_,h1,decide_eq_true ⟨hne,hk⟩⟩⟩
theorem m2G (was data:B) (f n:Nat):a1L was data f n=s0O was data f n:=rfl
theorem v1Z {data:B} (f n:Nat) (h:b0B data=true):b0B (s0O (a0T 256) data f n)=true:=by
 unfold b0B s0O at*
 rw[List.all_eq_true]at h ⊢
 intro x hx
 rcases List.mem_append.1 hx with hx|hx
 ·rcases List.mem_append.1 hx with hx|hx
  ·have:=List.mem_of_mem_take hx;rw[a0T,List.mem_replicate]at this;rw[this.2];rfl
  ·exact h x (List.mem_of_mem_take hx)
 ·have:=List.mem_of_mem_drop hx;rw[a0T,List.mem_replicate]at this;rw[this.2];rfl
theorem t1K {data:B} (n:Nat) (h:b0B data=true):b0B (data.drop n)=true:=by
 unfold b0B at*
 rw[List.all_eq_true]at h ⊢
 exact fun x hx=>h x (List.mem_of_mem_drop hx)
def c2R (at_:Nat) (data:B):Nat:=if data.length=0 then 0 else(at_%4*64+data.length+255)/256
theorem q0N (i:Nat): ∀(k:Nat) (c:Rp) (f:Nat→B) (Os:List (Nat→B)) (at_:Nat) (data:B),i<c.l.length→q0L c i Os→k0X (c.l.getD i v0).m f→o0Q (f::Os) c.bits→at_*64+data.length≤131072→data.length%64=0→data.length≤k→
 (i0Z c.bits Os k f at_ data∧(d0L i k c at_ data).2=9)∨
 (¬i0Z c.bits Os k f at_ data∧ ∃m',d0L i k c at_ data=(d0R c i m',0)∧k0X m' (j0R k f at_ data)∧o0Q (j0R k f at_ data::Os) c.bits∧
  m'.length≤(c.l.getD i v0).m.length+c2R at_ data∧(b0B data=true→m'.length≤(c.l.getD i v0).m.length))
 |0,c,f,Os,at_,data,hi,ho,hf,hu,_,_,_=> .inr ⟨id,(c.l.getD i v0).m,by rw[n0E hi];rfl,hf,hu,by omega,fun _=>Nat.le_refl _⟩
 |k+1,c,f,Os,at_,data,hi,ho,hf,hu,hroom,h64,hk=>by
  by_cases hd:data= []
  ·refine .inr ⟨fun h=>h.1 hd,(c.l.getD i v0).m,?_,?_,?_,by omega,fun _=>Nat.le_refl _⟩
   ·rw[n0E hi];unfold d0L;rw[if_pos hd]
   ·unfold j0R;rw[if_pos hd];exact hf
   ·unfold j0R;rw[if_pos hd];exact hu
  ·have hl:data.length≠0:=fun e=>hd (List.eq_nil_of_length_eq_zero e)
   obtain⟨ff,hff⟩: ∃ff,ff=at_%4*64:=⟨_,rfl⟩
   obtain⟨n,hn⟩: ∃n,n=min data.length (256-ff):=⟨_,rfl⟩
   have ha:at_/4<512:=by omega
   have hwas:g0R ((at_/4:Nat):Int) (c.l.getD i v0).m=f (at_/4):=(hf.eq _).symm
   have hwl:(f (at_/4)).length=256:=by rw[hf.eq];exact hf.ok.get_len _
   obtain⟨now,hnow⟩: ∃now,now=s0O (f (at_/4)) data ff n:=⟨_,rfl⟩
   have hnl:now.length=256:=by rw[hnow];exact t1A hwl (by omega) (by omega)
   have hcl:=c2Q hi ho hf now
   have hrp:d0L i (k+1) c at_ data=if now≠f (at_/4)∧b0B now=false∧o0U c now=true then(c,9)else d0L i k (d0R c i (j0O (c.l.getD i v0).m ((at_/4:Nat):Int) now)) (at_+n/64) (data.drop n):=by
    rw[d0L,if_neg hd]
    simp only
    rw[hwas,←hff,←hn,m2G,←hnow]
   have hpn:i0Z c.bits Os (k+1) f at_ data↔((b0B now=false∧w0S (f::Os) c.bits now)∨i0Z c.bits Os k (upd f (at_/4) now) (at_+n/64) (data.drop n)):=by
    conv=>lhs;unfold i0Z
    rw[←hff,←hn,←hnow]
    exact⟨fun h=>h.2,fun h=>⟨hd,h⟩⟩
   have hpf:j0R (k+1) f at_ data=j0R k (upd f (at_/4) now) (at_+n/64) (data.drop n):=by
    conv=>lhs;unfold j0R
    rw[if_neg hd,←hff,←hn,←hnow]
   by_cases hc:b0B now=false∧w0S (f::Os) c.bits now
   ·have hne:now≠f (at_/4):=fun e=>by
     rw[e]at hc
     exact hu.noClash hc.1 hc.2
    exact .inl ⟨hpn.2 (.inl hc),by rw[hrp,if_pos ⟨hne,hc.1,hcl.2 hc.2⟩]⟩
   ·have hdl:(data.drop n).length=data.length-n:=List.length_drop
    have hm:=hf.put ha hnl
    have hrl:=r0V c i (j0O (c.l.getD i v0).m ((at_/4:Nat):Int) now)
    have hra:=w0U (m:=j0O (c.l.getD i v0).m ((at_/4:Nat):Int) now) hi
    have ih:=q0N i k (d0R c i (j0O (c.l.getD i v0).m ((at_/4:Nat):Int) now)) (upd f (at_/4) now) Os (at_+n/64) (data.drop n) (by rw[hrl];exact hi) (ho.with_ _) (by rw[hra];exact hm)
     (hu.step (ho.far hf) fun hz h=>hc ⟨hz,h⟩) (by omega) (by omega) (by omega)
    rw[show(d0R c i (j0O (c.l.getD i v0).m ((at_/4:Nat):Int) now)).bits=c.bits from rfl,hra]at ih
    have hno: ¬(now≠f (at_/4)∧b0B now=false∧o0U c now=true):=fun h=>hc ⟨h.2.1,hcl.1 h.2.2⟩
    rw[hrp,if_neg hno,hpf]
    rcases ih with ⟨h1,h2⟩| ⟨h1,m',h2,h3,h4,h5,h6⟩
    ·exact .inl ⟨hpn.2 (.inr h1),h2⟩
    ·refine .inr ⟨fun h=>(hpn.1 h).elim hc h1,m',?_,h3,h4,?_,fun hz=> ?_⟩
     ·rw[h2,p0I hi]
     ·have:=m2F (c.l.getD i v0).m ((at_/4:Nat):Int) now
      simp only at h5
      unfold c2R at h5 ⊢
      rw[hdl]at h5
      rw[if_neg hl]
      have:n=256-ff∨n=data.length:=by omega
      split at h5
      ·omega
      ·omega
     ·refine Nat.le_trans (h6 (t1K n hz)) (h2J ?_)
      by_cases e:g0R ((at_/4:Nat):Int) (c.l.getD i v0).m=a0T 256
      ·left
       rw[hnow,←hwas,e];exact v1Z _ _ hz
      ·exact .inr e
section
def w0V (g:Nat→Int→List (Nat×Int)):Nat→List Int→List (Nat×Int)
 |_,[]=> []
 |i,k::l=>g i k++w0V g (i+1) l
def lvL (G:Gh):Nat→Nat→Int→List (Nat×Int)
 |0,from_,at_=>w0V (fun i k=>if k=0 then []else [(from_+i,k)]) 0 (c0B G at_)
 |l+1,from_,at_=>w0V (fun i k=>if k=0 then []else lvL G l (from_+i*8^(l+1)) k) 0 (c0B G at_)
theorem g1V {g:Nat→Int→Option (List (Nat×Int))} {g':Nat→Int→List (Nat×Int)} : ∀(ks:List Int) (i:Nat),(∀k∈ks,∀j,g j k=some (g' j k))→lvK g i ks=some (w0V g' i ks)
 | [],_,_=>rfl
 |k::ks,i,h=>by
  unfold lvK w0V
  rw[h k List.mem_cons_self i,g1V ks (i+1) fun x hx=>h x (List.mem_cons_of_mem _ hx)]
  rfl
theorem g1W {g:Nat→Int→List (Nat×Int)} {x:Nat×Int} : ∀(ks:List Int) (i:Nat),x∈w0V g i ks↔ ∃k,k<ks.length∧x∈g (i+k) (ks.getD k 0)
 | [],i=>by
  constructor
  ·intro h;cases h
  ·rintro⟨k,hk,_⟩;cases hk
 |a::ks,i=>by
  unfold w0V
  rw[List.mem_append,g1W ks (i+1)]
  constructor
  ·rintro(h| ⟨k,hk,h⟩)
   ·exact⟨0,by simp,by simpa using h⟩
   ·exact⟨k+1,by simpa using hk,by rw[show i+(k+1)=i+1+k by omega];simpa using h⟩
  ·rintro⟨k,hk,h⟩
   cases k with
   |zero=>exact .inl (by simpa using h)
   |succ k=>exact .inr ⟨k,by simpa using hk,by rw[show i+1+k=i+(k+1) by omega];simpa using h⟩
theorem g1X {g:Nat→Int→List (Nat×Int)} {w b:Nat} : ∀(ks:List Int) (i:Nat),(∀i,∀k∈ks,(∀x∈g i k,b+i*w≤x.1∧x.1<b+i*w+w)∧(g i k).Pairwise fun x y=>x.1<y.1)→
 (∀x∈w0V g i ks,b+i*w≤x.1∧x.1<b+(i+ks.length)*w)∧(w0V g i ks).Pairwise fun x y=>x.1<y.1
 | [],_,_=>⟨fun x h=>(by cases h),List.Pairwise.nil⟩
 |k::ks,i,hg=>by
  obtain⟨h1,h2⟩:=g1X ks (i+1) fun i k hk=>hg i k (List.mem_cons_of_mem _ hk)
  obtain⟨g1,g2⟩:=hg i k List.mem_cons_self
  have e:b+(i+1)*w=b+i*w+w:=by rw[Nat.succ_mul];omega
  have e2:(i+(k::ks).length)*w=(i+1+ks.length)*w:=by rw[List.length_cons,show i+(ks.length+1)=i+1+ks.length by omega]
  have e3:(i+1)*w≤(i+1+ks.length)*w:=Nat.mul_le_mul_right _ (by omega)
  rw[e2]
  refine⟨fun x hx=> ?_,?_⟩
  ·unfold w0V at hx
   rcases List.mem_append.1 hx with hx|hx
   ·have:=g1 x hx;omega
   ·have:=h1 x hx;omega
  ·unfold w0V
   refine List.pairwise_append.2 ⟨g2,h2,fun x hx y hy=> ?_⟩
   have:=(g1 x hx).2
   have:=(h1 y hy).1
   omega
section
variable {s:St} {G:Gh} {P:List Int}
theorem Inv.lvs (h:Inv s G P): ∀(l from_:Nat) {root:Int},b0K G (l+1) root→Go.Sb.lvs l from_ root s=some (lvL G l from_ root)
 |0,from_,root,hr=>by
  unfold Go.Sb.lvs lvL
  rw[h.loadK hr]
  exact g1V _ _ fun k _ j=>rfl
 |l+1,from_,root,hr=>by
  unfold Go.Sb.lvs lvL
  rw[h.loadK hr]
  refine g1V _ _ fun k hk j=> ?_
  by_cases e:k=0
  ·rw[if_pos e,if_pos e]
  ·rw[if_neg e,if_neg e]
   exact h.lvs l _ ((h.kids hr).2 k hk)
theorem Inv.lvL_ord (h:Inv s G P): ∀(l from_:Nat) {root:Int},b0K G (l+1) root→(∀x∈lvL G l from_ root,from_≤x.1∧x.1<from_+8^(l+1))∧(lvL G l from_ root).Pairwise fun x y=>x.1<y.1
 |0,from_,root,hr=>by
  have:=g1X (g:=fun i k=>if k=0 then []else [(from_+i,k)]) (w:=1) (b:=from_) (c0B G root) 0 (fun i k _=>by
   split
   ·exact⟨fun x h=>(by cases h),List.Pairwise.nil⟩
   ·exact⟨fun x h=>by rw[List.mem_singleton.1 h];simp,List.pairwise_singleton _ _⟩)
  rw[(h.kids hr).1]at this
  unfold lvL
  simpa using this
 |l+1,from_,root,hr=>by
  have:=g1X (g:=fun i k=>if k=0 then []else lvL G l (from_+i*8^(l+1)) k) (w:=8^(l+1)) (b:=from_) (c0B G root) 0 (fun i k hk=>by
   split
   ·exact⟨fun x h=>(by cases h),List.Pairwise.nil⟩
   ·exact h.lvL_ord l _ ((h.kids hr).2 k hk))
  rw[(h.kids hr).1,Nat.zero_mul,Nat.add_zero,Nat.zero_add]at this
  unfold lvL
  rw[show 8^(l+1+1)=8*8^(l+1) by rw[Nat.pow_succ];omega]
  exact this
theorem Inv.mem_lvL (h:Inv s G P): ∀(l from_:Nat) {root:Int} (j:Nat) (t:Int),b0K G (l+1) root→((j,t)∈lvL G l from_ root↔t≠0∧ ∃i,i<8^(l+1)∧j=from_+i∧t=c0Z G l root i)
 |0,from_,root,j,t,hr=>by
  unfold lvL
  rw[g1W,(h.kids hr).1]
  constructor
  ·rintro⟨k,hk,hm⟩
   split at hm
   ·cases hm
   ·rename_i hne
    have he:=List.mem_singleton.1 hm
    simp only[Prod.mk.injEq,Nat.zero_add]at he
    refine⟨by rw[he.2];exact hne,k,by omega,he.1,?_⟩
    rw[he.2];unfold c0Z b0X
    rw[show k/8^0%8=k by omega]
  ·rintro⟨hne,i,hi,rfl,rfl⟩
   refine⟨i,by omega,?_⟩
   have e:c0Z G 0 root i=(c0B G root).getD i 0:=by
    unfold c0Z b0X;simp only;rw[show i/8^0%8=i by omega]
   rw[e]at hne ⊢
   rw[if_neg hne,Nat.zero_add]
   exact List.mem_singleton.2 rfl
 |l+1,from_,root,j,t,hr=>by
  have hp:8^(l+1+1)=8*8^(l+1):=by rw[Nat.pow_succ];omega
  have hp0:0<8^(l+1):=Nat.pow_pos (by decide)
  unfold lvL
  rw[g1W,(h.kids hr).1]
  constructor
  ·rintro⟨k,hk,hm⟩
   split at hm
   ·cases hm
   ·rename_i hne
    have hkk:=(h.kids hr).2 _ (g0I (i:=k) (by rw[(h.kids hr).1];exact hk))
    obtain⟨ht,i,hi,e1,e2⟩:=(h.mem_lvL l _ j t hkk).1 hm
    rw[Nat.zero_add]at e1
    have hlt:k*8^(l+1)+i<8*8^(l+1):=by
     have:k*8^(l+1)≤7*8^(l+1):=Nat.mul_le_mul_right _ (by omega)
     omega
    refine⟨ht,k*8^(l+1)+i,by rw[hp];exact hlt,by omega,?_⟩
    have e3:(b0X (l+1) (k*8^(l+1)+i)).1=k:=by
     unfold b0X;simp only
     rw[Nat.mul_comm k,Nat.mul_add_div hp0,Nat.div_eq_of_lt hi,Nat.add_zero,Nat.mod_eq_of_lt hk]
    have e4:(b0X (l+1) (k*8^(l+1)+i)).2=i:=by
     unfold b0X;simp only
     rw[Nat.mul_comm k,Nat.mul_add_mod,Nat.mod_eq_of_lt hi]
    conv=>rhs;unfold c0Z
    rw[e3,e4];exact e2
  ·rintro⟨ht,i,hi,rfl,e⟩
   obtain⟨s1,s2⟩:=s0N (l:=l+1) hi
   have s3:=p0E (l+1) i
   refine⟨(b0X (l+1) i).1,s3,?_⟩
   have hkk:=(h.kids hr).2 _ (g0I (i:=(b0X (l+1) i).1) (by rw[(h.kids hr).1];exact s3))
   have e':t=c0Z G l ((c0B G root).getD (b0X (l+1) i).1 0) (b0X (l+1) i).2:=by rw[e];conv=>lhs;unfold c0Z
   rw[if_neg (fun h0=>by rw[h0,t0K h.zero]at e';exact ht e'),Nat.zero_add]
   exact(h.mem_lvL l _ _ t hkk).2 ⟨ht,(b0X (l+1) i).2,s2,by omega,e'⟩
theorem y0D (a b:Nat): ∀(ys acc:List (Nat×Int)),(ys.Pairwise fun x y=>x.1<y.1)→(f0V (d0N a b) ys acc).2=acc++ys.filter fun x=>decide (a≤x.1∧x.1<b)
 | [],acc,_=>by simp[f0V]
 |x::ys,acc,hp=>by
  obtain⟨h1,h2⟩:=List.pairwise_cons.1 hp
  have e0:(f0V (d0N a b) (x::ys) acc)=if(d0N a b x acc).1 then f0V (d0N a b) ys (d0N a b x acc).2 else(false,(d0N a b x acc).2):=rfl
  rw[e0]
  by_cases hb:b≤x.1
  ·rw[show d0N a b x acc=(false,acc) by unfold d0N;rw[if_pos hb]]
   simp only[Bool.false_eq_true,if_false]
   rw[List.filter_eq_nil_iff.2,List.append_nil]
   intro y hy
   rcases List.mem_cons.1 hy with rfl|hy
   ·simp;omega
   ·have:=h1 y hy;simp;omega
  ·by_cases ha:a≤x.1
   ·rw[show d0N a b x acc=(true,acc++ [x]) by unfold d0N;rw[if_neg hb,if_pos ha]]
    simp only[if_true]
    rw[y0D a b ys (acc++ [x]) h2,List.filter_cons,if_pos (decide_eq_true ⟨ha,by omega⟩),List.append_assoc,List.singleton_append]
   ·rw[show d0N a b x acc=(true,acc) by unfold d0N;rw[if_neg hb,if_neg ha]]
    simp only[if_true]
    rw[y0D a b ys acc h2,List.filter_cons,if_neg (by simp;omega)]
def clL (G:Gh) (root:Int) (a b:Nat):List (Nat×Int):=(lvL G 2 0 root).filter fun x=>decide (a≤x.1∧x.1<b)
theorem Inv.leavesA (h:Inv s G P) {root:Int} (hr:b0K G 3 root) (a b:Nat):Go.Sb.l0E root a b s=(.ok (clL G root a b),s):=by
 unfold Go.Sb.l0E
 rw[h.lvs 2 0 hr]
 simp only
 rw[y0D a b _ _ (h.lvL_ord 2 0 hr).2];rfl
theorem Inv.clL_mem (h:Inv s G P) {root:Int} (hr:b0K G 3 root) (a b j:Nat):j∈(clL G root a b).map (·.1)↔a≤j∧j<b∧j<512∧c0Z G 2 root j≠0:=by
 unfold clL
 rw[List.mem_map]
 constructor
 ·rintro⟨⟨j',t⟩,hx,rfl⟩
  obtain⟨h1,h2⟩:=List.mem_filter.1 hx
  obtain⟨ht,i,hi,e1,e2⟩:=(h.mem_lvL 2 0 j' t hr).1 h1
  have h3:=of_decide_eq_true h2
  simp only[Nat.zero_add]at e1
  subst e1
  exact⟨h3.1,h3.2,hi,by rw[←e2];exact ht⟩
 ·rintro⟨h1,h2,h3,h4⟩
  exact⟨(j,c0Z G 2 root j),List.mem_filter.2 ⟨(h.mem_lvL 2 0 j _ hr).2 ⟨h4,j,h3,by omega,rfl⟩,decide_eq_true ⟨h1,h2⟩⟩,rfl⟩
theorem Inv.clL_nodup (h:Inv s G P) {root:Int} (hr:b0K G 3 root) (a b:Nat):((clL G root a b).map (·.1)).Nodup:=by
 unfold clL
 refine List.pairwise_map.2 ?_
 exact((h.lvL_ord 2 0 hr).2.filter _).imp fun hlt=>Nat.ne_of_lt hlt
end
end
section
def d1D (m:Nat→B) (a b:Nat):Nat→B:=fun j=>if a≤j∧j<b then a0T 256 else m j
def w0W (m:Nat→B) (fr u:Nat):Nat→B:=
 if u/4≤(fr+3)/4 then j0R ((u-fr)*64) m fr (a0T ((u-fr)*64))else
 j0R ((u-4*(u/4))*64) (d1D (j0R ((4*((fr+3)/4)-fr)*64) m fr (a0T ((4*((fr+3)/4)-fr)*64))) ((fr+3)/4) (u/4)) (4*(u/4)) (a0T ((u-4*(u/4))*64))
def r0W (bits:Nat) (Os:List (Nat→B)) (m:Nat→B) (fr u:Nat):Prop:=
 if u/4≤(fr+3)/4 then i0Z bits Os ((u-fr)*64) m fr (a0T ((u-fr)*64))else
 i0Z bits Os ((4*((fr+3)/4)-fr)*64) m fr (a0T ((4*((fr+3)/4)-fr)*64))∨
 i0Z bits Os ((u-4*(u/4))*64) (d1D (j0R ((4*((fr+3)/4)-fr)*64) m fr (a0T ((4*((fr+3)/4)-fr)*64))) ((fr+3)/4) (u/4)) (4*(u/4)) (a0T ((u-4*(u/4))*64))
theorem t1L {α:Type} [DecidableEq α]: ∀ {l m:List α},l.Nodup→l ⊆ m→l.length≤m.length
 | [],_,_,_=>Nat.zero_le _
 |x::l,m,hn,hs=>by
  obtain⟨h1,h2⟩:=List.nodup_cons.1 hn
  have hx:x∈m:=hs List.mem_cons_self
  have:=t1L (l:=l) (m:=m.erase x) h2 (fun y hy=>(List.mem_erase_of_ne (fun e=>h1 (by rw[←e];exact hy))).2 (hs (List.mem_cons_of_mem _ hy)))
  rw[List.length_erase_of_mem hx]at this
  have:=List.length_pos_of_mem hx
  rw[List.length_cons];omega
section
variable {s:St} {G:Gh} {P:List Int}
theorem Inv.msetMap {root:Int} {i:Nat} (h:Inv s G (root::P)) (hi:Idx s G) (hroot:b0K G 3 root) (hat:i<512) (hr:d0O (f0U 2) s) (hP:P.length≤700000):
 (∃r s' G',Go.Sb.l0J root i 0 s=(.ok r,s')∧Inv s' G' (r::P)∧Stp (f0U 2) 3 s G s' G'∧b0K G' 3 r∧b0D G' r=upd (b0D G root) i (a0T 256))∨Fl 3 False (Go.Sb.l0J root i 0) s:=by
 have h1:Inv s G (root::0::P):=h.perm fun x hx=>by rw[List.count_cons,List.count_cons,List.count_cons_of_ne (Ne.symm hx)]
 rcases h1.mset hi hroot (.inl rfl) hat hr (by omega)with ⟨r,s',G',e,i2,t2,k2,c2⟩|hf
 ·refine .inl ⟨r,s',G',e,i2,t2,k2,?_⟩
  funext j
  by_cases hj:j<512
  case neg=>unfold upd b0D;rw[if_neg hj,if_neg hj,if_neg (by omega)]
  have hl:=c2 j hj
  have hk:=j0Q (i2.leafKid 2 k2 j)
  unfold upd b0D
  rw[if_pos hj,if_pos hj]
  rw[hl]at hk ⊢
  by_cases e:j=i
  ·rw[if_pos e,if_pos e];unfold e0B;rw[i2.zero]
  ·rw[if_neg e]at hk ⊢
   rw[if_neg e]
   exact h.leafSame t2.old i2.zero (h.leafKid 2 hroot j) hk
 ·exact .inr hf
theorem Inv.clears (C:Nat) (hC:f0U 2=C): ∀(ys:List (Nat×Int)) {s:St} {G:Gh} {root:Int},Inv s G (root::P)→Idx s G→b0K G 3 root→(∀y∈ys,y.1<512)→d0O (ys.length*C) s→P.length≤700000→(∀p∈P,b0K G 3 p)→
 (∃r s' G',r0B (fun r (x:Nat×Int)=>Go.Sb.l0J r x.1 0) root ys s=(.ok r,s')∧Inv s' G' (r::P)∧Stp (ys.length*C) (ys.length*3) s G s' G'∧b0K G' 3 r∧(∀p∈P,b0K G' 3 p∧b0D G' p=b0D G p)∧
  b0D G' r=fun j=>if j∈ys.map (·.1)then a0T 256 else b0D G root j)∨Fl (ys.length*3) False (r0B (fun r (x:Nat×Int)=>Go.Sb.l0J r x.1 0) root ys) s
 | [],s,G,root,h,hi,hr,_,_,_,hP=> .inl ⟨root,s,G,rfl,h,(Stp.refl h hi).mono (by omega) (by omega),hr,fun p hp=>⟨hP p hp,rfl⟩,by funext j;simp⟩
 |y::ys,s,G,root,h,hi,hr,hy,hro,hPl,hP=>by
  have hro':d0O (C+ys.length*C) s:=hro.le (by rw[List.length_cons,Nat.succ_mul];omega)
  have e0:r0B (fun r (x:Nat×Int)=>Go.Sb.l0J r x.1 0) root (y::ys)=a0B (Go.Sb.l0J root y.1 0) fun r=>r0B (fun r (x:Nat×Int)=>Go.Sb.l0J r x.1 0) r ys:=rfl
  rw[e0]
  rcases h.msetMap hi hr (hy y List.mem_cons_self) (by rw[hC];exact hro'.le (by omega)) hPl with ⟨r,s1,G1,e1,i1,t1,k1,m1⟩|hf
  ·rw[hC]at t1
   have hP2: ∀p∈P,b0K G1 3 p∧b0D G1 p=b0D G p:=fun p hp=>by
    have hl:p=0∨(a0H p G1).isSome=true:=if h0:p=0 then .inl h0 else .inr (i1.pend (List.mem_cons_of_mem _ hp) h0)
    exact⟨h.kidSame t1.old (hP p hp) hl,h.mapKeep i1 t1.old (hP p hp) hl⟩
   rcases Inv.clears C hC ys i1 t1.idx k1 (fun z hz=>hy z (List.mem_cons_of_mem _ hz)) (hro'.go t1.rel) hPl (fun p hp=>(hP2 p hp).1)with ⟨r2,s2,G2,e2,i2,t2,k2,p2,m2⟩|hf
   ·refine .inl ⟨r2,s2,G2,by rw[a0A e1,e2],i2,(t1.trans t2).mono (by rw[List.length_cons,Nat.succ_mul];omega) (by rw[List.length_cons,Nat.succ_mul];omega),k2,fun p hp=>⟨(p2 p hp).1,(p2 p hp).2.trans (hP2 p hp).2⟩,?_⟩
    rw[m2,m1]
    funext j
    unfold upd
    by_cases h1:j∈ys.map (·.1)
    ·rw[if_pos h1,if_pos (by rw[List.map_cons];exact List.mem_cons_of_mem _ h1)]
    ·rw[if_neg h1]
     by_cases h2:j=y.1
     ·rw[if_pos h2,if_pos (by rw[List.map_cons,h2];exact List.mem_cons_self)]
     ·rw[if_neg h2,if_neg (by rw[List.map_cons];intro h3;rcases List.mem_cons.1 h3 with h3|h3;(· exact h2 h3);(· exact h1 h3))]
   ·exact .inr (Fl.there e1 t1.rel t1.keep hf (by rw[List.length_cons,Nat.succ_mul];omega) id)
  ·exact .inr (hf.here (by rw[List.length_cons,Nat.succ_mul];omega) False.elim)
theorem Inv.clearA {root:Int} {a b:Nat} (h:Inv s G (root::P)) (hi:Idx s G) (hr:b0K G 3 root) (hro:d0O ((clL G root a b).length*f0U 2) s) (hPl:P.length≤700000) (hP: ∀p∈P,b0K G 3 p):
 (∃r s' G',Go.Sb.j0P root a b s=(.ok r,s')∧Inv s' G' (r::P)∧Stp ((clL G root a b).length*f0U 2) ((clL G root a b).length*3) s G s' G'∧b0K G' 3 r∧(∀p∈P,b0K G' 3 p∧b0D G' p=b0D G p)∧
  b0D G' r=d1D (b0D G root) a b)∨Fl ((clL G root a b).length*3) False (Go.Sb.j0P root a b) s:=by
 have e0:Go.Sb.j0P root a b s=r0B (fun r (x:Nat×Int)=>Go.Sb.l0J r x.1 0) root (clL G root a b) s:=a0A (h.leavesA hr a b)
 have hm:=fun j=>h.clL_mem hr a b j
 rcases Inv.clears (f0U 2) rfl (clL G root a b) h hi hr (fun y hy=>((hm y.1).1 (List.mem_map.2 ⟨y,hy,rfl⟩)).2.2.1) hro hPl hP with ⟨r,s',G',e,i2,t2,k2,p2,m2⟩| ⟨e,s',h1,h2⟩
 ·refine .inl ⟨r,s',G',by rw[e0,e],i2,t2,k2,p2,?_⟩
  rw[m2]
  funext j
  unfold d1D
  by_cases h1:j∈(clL G root a b).map (·.1)
  ·have:=(hm j).1 h1
   rw[if_pos h1,if_pos ⟨this.1,this.2.1⟩]
  ·rw[if_neg h1]
   by_cases h2:a≤j∧j<b
   ·rw[if_pos h2]
    by_cases hj:j<512
    ·have hz:c0Z G 2 root j=0:=Classical.byContradiction fun hz=>h1 ((hm j).2 ⟨h2.1,h2.2,hj,hz⟩)
     unfold b0D e0B;rw[if_pos hj,hz,h.zero]
    ·unfold b0D;rw[if_neg hj]
   ·rw[if_neg h2]
 ·exact .inr ⟨e,s',by rw[e0,h1],h2⟩
theorem Inv.clL_len (h:Inv s G P) {root:Int} (hr:b0K G 3 root) {a b:Nat} {m:List Lf} (hm:k0X m (b0D G root)):(clL G root a b).length≤m.length:=by
 have hn:=h.clL_nodup hr a b
 have hsub:((clL G root a b).map (·.1)).map (fun j:Nat=>(j:Int)) ⊆ m.map (·.1):=fun x hx=>by
  obtain⟨j,hj,rfl⟩:=List.mem_map.1 hx
  obtain⟨_,_,hj5,hne⟩:=(h.clL_mem hr a b j).1 hj
  rcases s0P (j:Int) m with h1|h1
  ·exfalso
   have h2:=hm.eq j
   rw[h1]at h2
   rcases h.leafKid 2 hr j with h0| ⟨d,ats,ho⟩
   ·exact hne h0
   ·unfold b0D e0B at h2
    rw[if_pos hj5,ho]at h2
    have h3:=(h.typ _ _ ho).2.1
    simp only at h2
    rw[h2,e0P]at h3;cases h3
  ·exact List.mem_map.2 ⟨_,h1,rfl⟩
 have hnd:(((clL G root a b).map (·.1)).map (fun j:Nat=>(j:Int))).Nodup:=List.pairwise_map.2 (hn.imp fun hne=>by omega)
 have:=t1L hnd hsub
 simpa using this
end
end
section
theorem f0W (n:Nat):(a0T n).length=n:=by simp[a0T]
section
variable {s:St} {G:Gh} {P:List Int}
theorem Inv.patchZ (Cp:Nat) (hp:16+f0U 2=Cp) {x:Ent} {at_ q m:Nat} (h:Inv s G (x.root::P)) (hi:Idx s G) (hr:b0K G 3 x.root) (hP: ∀p∈P,b0K G 3 p) (hq:q≤m) (hat:at_+q≤2048) (hro:d0O (m*Cp) s) (hPl:P.length≤1000):
 (∃r s' G',e0U x at_ (a0T (q*64)) s=(.ok {x with root:=r},s')∧Inv s' G' (r::P)∧Stp (m*Cp) (m*8) s G s' G'∧b0K G' 3 r∧(∀p∈P,b0K G' 3 p∧b0D G' p=b0D G p)∧
  b0D G' r=j0R (q*64) (b0D G x.root) at_ (a0T (q*64))∧ ¬i0Z s.bits (P.map (b0D G)) (q*64) (b0D G x.root) at_ (a0T (q*64)))∨
 Fl (m*8) (i0Z s.bits (P.map (b0D G)) (q*64) (b0D G x.root) at_ (a0T (q*64))) (e0U x at_ (a0T (q*64))) s:=by
 have:=Inv.patch Cp hp (q*64) m (x:=x) (at_:=at_) (data:=a0T (q*64)) h hi hr hP (by rw[f0W];omega) (by rw[f0W];omega) (by rw[f0W];omega) hro hPl
 unfold e0U
 rw[f0W]
 exact this
theorem Inv.cclear (Cp C:Nat) (hp:16+f0U 2=Cp) (hc:f0U 2=C) {x:Ent} {fr u L:Nat} (h:Inv s G (x.root::P)) (hi:Idx s G) (hr:b0K G 3 x.root) (hP: ∀p∈P,b0K G 3 p) (hfu:fr≤u) (hu:u≤2048) (hro:d0O (6*Cp+L*C) s) (hPl:P.length≤1000)
 (hL: ¬u/4≤(fr+3)/4→ ¬i0Z s.bits (P.map (b0D G)) ((4*((fr+3)/4)-fr)*64) (b0D G x.root) fr (a0T ((4*((fr+3)/4)-fr)*64))→
  ∃m',k0X m' (j0R ((4*((fr+3)/4)-fr)*64) (b0D G x.root) fr (a0T ((4*((fr+3)/4)-fr)*64)))∧m'.length≤L):
 (∃r s' G',h0F x fr u s=(.ok {x with root:=r},s')∧Inv s' G' (r::P)∧Stp (6*Cp+L*C) (48+L*3) s G s' G'∧b0K G' 3 r∧(∀p∈P,b0K G' 3 p∧b0D G' p=b0D G p)∧
  b0D G' r=w0W (b0D G x.root) fr u∧ ¬r0W s.bits (P.map (b0D G)) (b0D G x.root) fr u)∨
 Fl (48+L*3) (r0W s.bits (P.map (b0D G)) (b0D G x.root) fr u) (h0F x fr u) s:=by
 unfold h0F w0W r0W
 rw[if_neg (show ¬5000<u by omega)]
 by_cases hs:u/4≤(fr+3)/4
 ·rw[if_pos hs,if_pos hs,if_pos hs]
  rcases h.patchZ Cp hp (at_:=fr) (q:=u-fr) (m:=6) hi hr hP (by omega) (by omega) (hro.le (by omega)) hPl with ⟨r,s',G',e,i,t,k,p,m,n⟩|hf
  ·exact .inl ⟨r,s',G',e,i,t.mono (by omega) (by omega),k,p,m,n⟩
  ·exact .inr (hf.mono (by omega) id)
 ·rw[if_neg hs,if_neg hs,if_neg hs]
  have hL:=hL hs
  rw[show(fr+3)/4*4=4*((fr+3)/4)from Nat.mul_comm _ _,show u/4*4=4*(u/4)from Nat.mul_comm _ _]
  obtain⟨a,ha⟩: ∃a,a=(fr+3)/4:=⟨_,rfl⟩
  obtain⟨b,hb⟩: ∃b,b=u/4:=⟨_,rfl⟩
  rw[←ha]at hs hL ⊢
  rw[←hb]at hs ⊢
  rcases h.patchZ Cp hp (at_:=fr) (q:=4*a-fr) (m:=3) hi hr hP (by omega) (by omega) (hro.le (by omega)) hPl with ⟨r1,s1,G1,e1,i1,t1,k1,p1,m1,n1⟩|hf
  ·obtain⟨m',hm',hml⟩:=hL n1
   rw[←m1]at hm'
   have hcl:=i1.clL_len k1 (a:=a) (b:=b) hm'
   have hcc:(clL G1 r1 a b).length*C≤L*C:=Nat.mul_le_mul_right _ (by omega)
   have hro1:d0O (L*C+3*Cp) s1:=(hro.le (by omega:3*Cp+(L*C+3*Cp)≤_)).go t1.rel
   have hmap1:P.map (b0D G1)=P.map (b0D G):=List.map_congr_left fun p hp=>(p1 p hp).2
   rcases i1.clearA (a:=a) (b:=b) t1.idx k1 (by rw[hc];exact hro1.le (by omega)) (by omega) (fun p hp=>(p1 p hp).1)with ⟨r2,s2,G2,e2,i2,t2,k2,p2,m2⟩|hf
   ·rw[hc]at t2
    have t12:=t1.trans t2
    have hro2:d0O (3*Cp) s2:=(hro1.le (by omega:(clL G1 r1 a b).length*C+3*Cp≤_)).go t2.rel
    have hmap2:P.map (b0D G2)=P.map (b0D G):=List.map_congr_left fun p hp=>((p2 p hp).2.trans (p1 p hp).2)
    have hz:=i2.patchZ Cp hp (x:= {x with root:=r2}) (at_:=4*b) (q:=u-4*b) (m:=3) t2.idx k2 (fun p hp=>(p2 p hp).1) (by omega) (by omega) hro2 hPl
    rw[hmap2,show s2.bits=s.bits from t12.rel.bits]at hz
    simp only at hz
    rw[m2,m1]at hz
    have ee:(a0B (e0U x fr (a0T ((4*a-fr)*64))) fun y=>a0B (Go.Sb.j0P y.root a b) fun r=>e0U {y with root:=r} (4*b) (a0T ((u-4*b)*64))) s=e0U {x with root:=r2} (4*b) (a0T ((u-4*b)*64)) s2:=by
     rw[a0A e1]
     exact a0A e2
    rcases hz with ⟨r3,s3,G3,e3,i3,t3,k3,p3,m3,n3⟩| ⟨e,s3,h1,h2⟩
    ·refine .inl ⟨r3,s3,G3,by rw[ee,e3],i3,(t12.trans t3).mono (by omega) (by omega),k3,fun p hp=>⟨(p3 p hp).1,(p3 p hp).2.trans ((p2 p hp).2.trans (p1 p hp).2)⟩,m3,?_⟩
     rintro(h1|h1)
     ·exact n1 h1
     ·exact n3 h1
    ·refine .inr ⟨e,s3,by rw[ee,h1],h2.imp (fun⟨q1,q2⟩=>⟨q1,?_⟩) (fun⟨q1,q2⟩=>⟨q1,.inr q2⟩)⟩
     have h3:=t12.rel.room
     have h4:s2.keep=s.keep:=t12.keep
     rw[h4]at q2
     omega
   ·have ee:(a0B (e0U x fr (a0T ((4*a-fr)*64))) fun y=>a0B (Go.Sb.j0P y.root a b) fun r=>e0U {y with root:=r} (4*b) (a0T ((u-4*b)*64))) s=(a0B (Go.Sb.j0P r1 a b) fun r=>e0U {x with root:=r} (4*b) (a0T ((u-4*b)*64))) s1:=a0A e1
    obtain⟨e,s3,h1,h2⟩:=hf
    refine .inr ⟨e,s3,by rw[ee];exact a0Q h1,?_⟩
    rcases h2 with ⟨q1,q2⟩| ⟨_,q2⟩
    ·refine .inl ⟨q1,?_⟩
     have h3:=t1.rel.room
     have h4:=t1.keep
     rw[h4]at q2
     omega
    ·exact q2.elim
  ·exact .inr (hf.here (by omega) fun h=> .inl h)
end
theorem k0X.clear {m:List Lf} {f:Nat→B} (h:k0X m f) (a b:Nat):k0X (g0Q m a b) (d1D f a b):=
 ⟨h.ok.clear _ _,fun x hx=>h.nz x (List.mem_filter.1 hx).1,fun j=>by
  unfold d1D
  rw[e1Z]
  by_cases e:a≤j∧j<b
  ·rw[if_pos e,if_pos (by omega)]
  ·rw[if_neg e,if_neg (by omega),h.eq]⟩
theorem o0Q.sub {f f':Nat→B} {Os:List (Nat→B)} {bits:Nat} (h:o0Q (f::Os) bits) (hs: ∀j,b0B (f' j)=false→f' j=f j):o0Q (f'::Os) bits:=by
 have key1: ∀g∈f'::Os,∀j,b0B (g j)=false→ ∃g'∈f::Os,g j=g' j:=fun g hg j hz=>by
  rcases List.mem_cons.1 hg with rfl|hg
  ·exact⟨f,List.mem_cons_self,hs j hz⟩
  ·exact⟨g,List.mem_cons_of_mem _ hg,rfl⟩
 intro m1 h1 m2 h2 i j z1 z2 hk
 obtain⟨g1,hg1,e1⟩:=key1 m1 h1 i z1
 obtain⟨g2,hg2,e2⟩:=key1 m2 h2 j z2
 rw[e1]at hk z1 ⊢
 rw[e2]at hk z2 ⊢
 exact h g1 hg1 g2 hg2 i j z1 z2 hk
theorem c2S (m:List Lf) (a b:Int):(g0Q m a b).length≤m.length:=List.length_filter_le _ _
theorem u0Z (n:Nat):b0B (a0T n)=true:=e0P n
theorem t1M {i:Nat} {c:Rp} {f:Nat→B} {Os:List (Nat→B)} {fr u:Nat} (hi:i<c.l.length) (ho:q0L c i Os) (hf:k0X (c.l.getD i v0).m f) (hq:o0Q (f::Os) c.bits) (hfu:fr≤u) (hu:u≤2048):
 (r0W c.bits Os f fr u∧(e0C c i fr u).2=9)∨
 (¬r0W c.bits Os f fr u∧ ∃m',e0C c i fr u=(d0R c i m',0)∧k0X m' (w0W f fr u)∧o0Q (w0W f fr u::Os) c.bits∧m'.length≤(c.l.getD i v0).m.length):=by
 unfold r0W w0W e0C
 simp only
 by_cases hs:u/4≤(fr+3)/4
 ·rw[if_pos hs,if_pos hs,if_pos hs]
  rcases q0N i ((u-fr)*64) c f Os fr (a0T ((u-fr)*64)) hi ho hf hq (by rw[f0W];omega) (by rw[f0W];omega) (by rw[f0W];exact Nat.le_refl _)with h| ⟨h1,m',h2,h3,h4,_,h5⟩
  ·exact .inl h
  ·exact .inr ⟨h1,m',h2,h3,h4,h5 (u0Z _)⟩
 ·rw[if_neg hs,if_neg hs,if_neg hs]
  obtain⟨a,ha⟩: ∃a,a=(fr+3)/4:=⟨_,rfl⟩
  obtain⟨b,hb⟩: ∃b,b=u/4:=⟨_,rfl⟩
  rw[←ha,←hb]at hs ⊢
  rcases q0N i ((4*a-fr)*64) c f Os fr (a0T ((4*a-fr)*64)) hi ho hf hq (by rw[f0W];omega) (by rw[f0W];omega) (by rw[f0W];exact Nat.le_refl _)with ⟨h1,h2⟩| ⟨h1,m1,h2,h3,h4,_,h5⟩
  ·exact .inl ⟨.inl h1,by rw[if_pos (by rw[h2];decide)];exact h2⟩
  ·rw[h2]
   simp only
   rw[if_neg (by decide)]
   have h5:=h5 (u0Z _)
   have hx1:=w0U (m:=m1) hi
   rw[hx1]
   simp only
   rw[p0I hi]
   have hm:=h3.clear a b
   have huq:o0Q (d1D (j0R ((4*a-fr)*64) f fr (a0T ((4*a-fr)*64))) a b::Os) c.bits:=h4.sub fun j hz=>by
    unfold d1D at hz ⊢
    split
    ·rename_i e;rw[if_pos e,e0P]at hz;cases hz
    ·rfl
   have hx2:=w0U (m:=g0Q m1 a b) hi
   have hl2:=r0V c i (g0Q m1 a b)
   have hr:=q0N i ((u-4*b)*64) (d0R c i (g0Q m1 a b)) _ Os (4*b) (a0T ((u-4*b)*64)) (by rw[hl2];exact hi) (ho.with_ _) (by rw[hx2];exact hm) huq (by rw[f0W];omega) (by rw[f0W];omega) (by rw[f0W];exact Nat.le_refl _)
   rw[show(d0R c i (g0Q m1 a b)).bits=c.bits from rfl,hx2]at hr
   rcases hr with ⟨g1,g2⟩| ⟨g1,m2,g2,g3,g4,_,g5⟩
   ·exact .inl ⟨.inr g1,by rw[if_pos (by rw[g2];decide)];exact g2⟩
   ·refine .inr ⟨fun h=>h.elim h1 g1,m2,?_,g3,g4,?_⟩
    ·rw[g2];simp only;rw[if_neg (by decide),p0I hi]
    ·have:=g5 (u0Z _);have:=c2S m1 a b;simp only at*;omega
end
end Go.Sb
