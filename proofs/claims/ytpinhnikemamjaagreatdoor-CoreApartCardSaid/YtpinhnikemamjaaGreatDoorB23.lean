/- Part of the proof; no statement of its own. -/
import Derived.Test.YtpinhnikemamjaaGreatDoorB16
import Derived.Test.YtpinhnikemamjaaGreatDoorB08
import Derived.Test.YtpinhnikemamjaaGreatDoorB22
set_option linter.all false
set_option maxRecDepth 4000
set_option maxHeartbeats 4000000
namespace Go.Proofs.Q
open Go.Sl Go.Sb
section
attribute [local irreducible] Sl.a0L Sl.OW Sl.CW Sl.OS Sl.OM Sl.OMf Sl.KM
theorem j1D (H:b0J) (c:Rx) (id:Int) (only:Bool) (hc:d0M H c) (hn:0≤c.next∧c.next<1000000000):a0S Tryz.prog 45 #[e0X c,.int .i64 id,.bool only] [c0Q H]
 (c0X (w0N H (j0E (er c) id only).1) (l2J (j0E (er c) id only).2.2 (j0E (er c) id only).2.1) (fun x=> [c0Q x.1])):=by
 have hone:=c0N hc
 obtain⟨p,cap,hlv,hcap⟩:=e0E hc.vols
 have hrow:=hc.vols
 rw[hlv]at hrow
 have hfew:=hc.few
 cases hf:d0E (er c).l id with
 |none=>
  rw[show j0E (er c) id only=(er c,0,5) by unfold j0E;rw[hf]]
  refine a0C Tryz.func45 rfl Tryz.ntmps45 rfl (fun R w0=> ?_)
  simp only[a0N,List.cons_append,List.nil_append,e0X,a0P]
  refine go 2 ?_
  refine(a0X rfl (fun b3=> ?_))
  refine(a0U Zr.o (fun b6=> ?_))
  refine go 6 ?_
  refine a0F (a0O (v:= #[c.lv,.int .i64 c.next,.int .i64 c.bits,.int .i64 c.epoch]) Ag.o rfl (by simp[Value.cells]) (a0I (by simp[Value.cells]))) ?_
  refine go 1 ?_
  refine a0D rfl Hb.o rfl (q0I hc hf) gSp ?_
  refine ns ?_
  refine go 13 ?_
  refine a0F (a0O (v:= #[c.lv,.int .i64 c.next,.int .i64 c.bits,.int .i64 c.epoch]) Ag.o rfl (by simp[Value.cells]) (a0I (by simp[Value.cells]))) ?_
  refine a0K Sz.o rfl rfl rfl (fun u hu=>hone u (by simpa [a0P] using hu)) (by simp[Value.cells,a0P,b0A]) (a0R (by simp[Value.cells,a0P,b0A])) ?_
  refine go 4 ?_
  exact c0W (x:=((H,c):b0J×Rx)) (g0F hc) (fun _ _ h=>h) (RV.agg Ag.o rfl (by simp[a0P]) (by rfl) (RV.tmp rfl (RV.tmp rfl RV.nil))) rfl gSp
 |some i=>
  have hil:i<c.l.length:=by have:=t0H hf;simpa [er] using this
  rw[show j0E (er c) id only=i0J (er c) {v0 with parent:=id,only:=only,size:=c.l[i].v.size,m:=c.l[i].v.m} by unfold j0E;rw[hf];simp only[m0U hil]]
  obtain⟨b,o,cap',cur,hv,hcp,hmem,hcut,hlen⟩:=g0E hrow (by omega)
  cases hv
  have hcu:(cur.drop (o+i*6)).take 6=b0A c.l[i]:=(h0J hcut hil).trans (l0N c.l hil)
  have hvi:=hc.maps _ (List.getElem_mem hil)
  obtain⟨pm,capm,hmv,hcm⟩:=e0E hvi.1
  have hvi2:m0N H {v:= {v0 with parent:=id,only:=only,size:=c.l[i].v.size,m:=c.l[i].v.m},mv:= .slice pm c.l[i].v.m.length capm} :=by rw[←hmv];exact hvi
  refine a0C Tryz.func45 rfl Tryz.ntmps45 rfl (fun R w0=> ?_)
  simp only[a0N,List.cons_append,List.nil_append,e0X,a0P]
  refine go 2 ?_
  refine(a0X rfl (fun b3=> ?_))
  refine(a0U Zr.o (fun b6=> ?_))
  refine go 6 ?_
  refine a0F (a0O (v:= #[c.lv,.int .i64 c.next,.int .i64 c.bits,.int .i64 c.epoch]) Ag.o rfl (by simp[Value.cells]) (a0I (by simp[Value.cells]))) ?_
  refine go 1 ?_
  refine a0D rfl Hb.o rfl (o0P hc hf) gSp ?_
  refine ns ?_
  refine go 10 ?_
  refine c0C rfl (by simpa using (by omega: ¬((i:Int)<0))) ?_
  refine go 5 ?_
  refine a0F (b0T (v:= .slice (some ⟨b,o,none⟩) c.l.length cap) Sc.o rfl (by rw[hlv];rfl)) ?_
  refine go 2 ?_
  refine a0F (f0A (vs:=b0A c.l[i]) Ag.o rfl gFd hmem hcu rfl (by decide)) ?_
  refine(a0U Zr.o (fun b10=> ?_))
  refine a0K Sz.o rfl rfl rfl (fun u hu=>o0O hvi u (by simpa using hu)) (by simp[Value.cells,a0P,b0A]) (a0R (by simp[Value.cells,a0P,b0A])) ?_
  refine go 4 ?_
  refine a0F (a0O (v:= #[c.lv,.int .i64 c.next,.int .i64 c.bits,.int .i64 c.epoch]) Ag.o rfl (by simp[Value.cells]) (a0I (by simp[Value.cells]))) ?_
  refine go 5 ?_
  refine a0F (b0T (v:= .slice pm c.l[i].v.m.length capm) Sc.o rfl (by rw[←hmv];rfl)) ?_
  refine go 1 ?_
  refine a0W rfl Hb.o rfl (n1N H c {v:= {v0 with parent:=id,only:=only,size:=c.l[i].v.size,m:=c.l[i].v.m},mv:= .slice pm c.l[i].v.m.length capm} hc hvi2 hn) gSp ?_
  rintro⟨H',c'⟩ ⟨hs',hc',hr'⟩
  refine ns ?_
  refine go 3 ?_
  refine a0K Sz.o rfl rfl rfl (fun u hu=>c0N hc' u (by simpa using hu)) (by simp[Value.cells,a0P,b0A]) (a0R (by simp[Value.cells,a0P,b0A])) ?_
  refine go 4 ?_
  exact c0W (x:=((H',c'):b0J×Rx)) ⟨hs',hc',hr'⟩ (fun _ _ h=>h) (RV.agg Ag.o rfl (by simp[a0P]) (by rfl) (RV.tmp rfl (RV.tmp rfl RV.nil))) rfl gSp
end
section
theorem g2D {H:b0J} {e:TypeId} {size n k:Nat} {p:Option Addr} {cap:Nat} {xs:List Value} (h:h0U H e size (.slice p n cap) n xs) (hk:k≤n):h0U H e size (.slice p k cap) k (xs.take (k*size)):=by
 obtain⟨h1,h2⟩:=h
 have hm:k*size≤n*size:=Nat.mul_le_mul_right _ hk
 refine⟨by rw[List.length_take,h1];omega,?_⟩
 rcases h2 with ⟨h3,h4⟩| ⟨b,o,cap2,cur,h3,h4,h5,h6⟩
 ·left
  cases h3
  obtain rfl:k=0:=by omega
  exact⟨rfl,rfl⟩
 ·right
  cases h3
  exact⟨b,o,cap,cur,rfl,by omega,h5,by rw[←h6,List.take_take,Nat.min_eq_left hm]⟩
theorem v1J {H:b0J} {e:TypeId} {size n k:Nat} {p:Option Addr} {cap:Nat} {xs:List Value} (h:h0U H e size (.slice p n cap) n xs) (hk:k≤n) (h0:0<n):h0U H e size (.slice (z0E p k cap size) (n-k) (cap-k)) (n-k) (xs.drop (k*size)):=by
 obtain⟨h1,h2⟩:=h
 have hm:n*size-k*size=(n-k)*size:=by rw[Nat.sub_mul]
 refine⟨by rw[List.length_drop,h1,hm],?_⟩
 rcases h2 with ⟨h3,h4⟩| ⟨b,o,cap2,cur,h3,h4,h5,h6⟩
 ·omega
 ·right
  cases h3
  unfold z0E
  by_cases hc:cap=k
  ·rw[if_pos hc]
   have hn:n-k=0:=by omega
   refine⟨b,o,cap-k,cur,rfl,by omega,h5,?_⟩
   rw[hn,Nat.zero_mul,List.take_zero,List.drop_eq_nil_of_le]
   rw[h1]
   exact Nat.mul_le_mul_right _ (by omega)
  ·rw[if_neg hc]
   refine⟨b,o+k*size,cap-k,cur,by rw[Option.map_some,i0C],by omega,h5,?_⟩
   rw[←h6,List.drop_take,List.drop_drop,hm]
theorem j1E {α:Type} {f:α→List Value} {size:Nat} (hf: ∀x,(f x).length=size): ∀(l:List α) (i:Nat),i≤l.length→(l.flatMap f).take (i*size)=(l.take i).flatMap f
 |l,0,_=>by simp
 | [],i+1,h=>by simp at h
 |x::l,i+1,h=>by
  rw[List.flatMap_cons,show(i+1)*size=(f x).length+i*size by rw[hf,Nat.succ_mul];omega,List.take_length_add_append,List.take_succ_cons,List.flatMap_cons,j1E hf l i (by simpa using h)]
theorem c1S {α:Type} {f:α→List Value} {size:Nat} (hf: ∀x,(f x).length=size): ∀(l:List α) (i:Nat),i≤l.length→(l.flatMap f).drop (i*size)=(l.drop i).flatMap f
 |l,0,_=>by simp
 | [],i+1,h=>by simp at h
 |x::l,i+1,h=>by
  rw[List.flatMap_cons,show(i+1)*size=(f x).length+i*size by rw[hf,Nat.succ_mul];omega,List.drop_length_add_append,List.drop_succ_cons,c1S hf l i (by simpa using h)]
theorem r2Z {c:Rx} {i:Nat} {lv:Value} :er {c with lv:=lv,l:=c.l.take i++c.l.drop (i+1)} = {er c with l:=(er c).l.eraseIdx i} :=by
 unfold er
 simp only[List.eraseIdx_eq_take_drop_succ,List.map_append,List.map_take,List.map_drop]
attribute [local irreducible] Sl.a0L Sl.OW Sl.CW Sl.OS Sl.OM Sl.OMf Sl.KM
theorem s1D (H:b0J) (c:Rx) (id:Int) (hc:d0M H c):a0S Tryz.prog 75 #[e0X c,.int .i64 id] [c0Q H]
 (c0X (w0N H (h0Q (er c) id).1) (l1H (h0Q (er c) id).2) (fun x=> [c0Q x.1])):=by
 have hone:=c0N hc
 obtain⟨p,cap,hlv,hcap⟩:=e0E hc.vols
 have hrow:=hc.vols
 rw[hlv]at hrow
 have hfew:=hc.few
 cases hf:d0E (er c).l id with
 |none=>
  rw[show h0Q (er c) id=(er c,5) by unfold h0Q;rw[hf]]
  refine a0C Tryz.func75 rfl Tryz.ntmps75 rfl (fun R w0=> ?_)
  simp only[a0N,List.cons_append,List.nil_append,e0X,a0P]
  refine go 2 ?_
  refine(a0X rfl (fun b2=> ?_))
  refine(a0U Zr.o (fun b4=> ?_))
  refine go 5 ?_
  refine a0F (a0O (v:= #[c.lv,.int .i64 c.next,.int .i64 c.bits,.int .i64 c.epoch]) Ag.o rfl (by simp[Value.cells]) (a0I (by simp[Value.cells]))) ?_
  refine go 1 ?_
  refine a0D rfl Hb.o rfl (q0I hc hf) gSp ?_
  refine ns ?_
  refine go 13 ?_
  refine a0F (a0O (v:= #[c.lv,.int .i64 c.next,.int .i64 c.bits,.int .i64 c.epoch]) Ag.o rfl (by simp[Value.cells]) (a0I (by simp[Value.cells]))) ?_
  refine a0K Sz.o rfl rfl rfl (fun u hu=>hone u (by simpa [a0P] using hu)) (by simp[Value.cells,a0P,b0A]) (a0R (by simp[Value.cells,a0P,b0A])) ?_
  refine go 3 ?_
  exact c0W (x:=((H,c):b0J×Rx)) (g0F hc) (fun _ _ h=>h) (RV.agg Ag.o rfl (by simp[a0P]) (by rfl) (RV.tmp rfl RV.nil)) rfl gSp
 |some i=>
  have hil:i<c.l.length:=by have:=t0H hf;simpa [er] using this
  rw[show h0Q (er c) id=({er c with l:=(er c).l.eraseIdx i},0) by unfold h0Q;rw[hf]]
  have hto:h0U H 42 6 (.slice p i cap) i ((c.l.take i).flatMap b0A):=by rw[←j1E t0G c.l i (by omega)];exact g2D hrow (by omega)
  have hfrom:h0U H 42 6 (.slice (z0E p (i+1) cap 6) (c.l.length- (i+1)) (cap- (i+1))) (c.l.length- (i+1)) ((c.l.drop (i+1)).flatMap b0A):=by rw[←c1S t0G c.l (i+1) (by omega)];exact v1J hrow (by omega) (by omega)
  have hsum:i+(c.l.length- (i+1))=(c.l.take i++c.l.drop (i+1)).length:=by rw[List.length_append,List.length_take,List.length_drop];omega
  refine a0C Tryz.func75 rfl Tryz.ntmps75 rfl (fun R w0=> ?_)
  simp only[a0N,List.cons_append,List.nil_append,e0X,a0P]
  refine go 2 ?_
  refine(a0X rfl (fun b2=> ?_))
  refine(a0U Zr.o (fun b4=> ?_))
  refine go 5 ?_
  refine a0F (a0O (v:= #[c.lv,.int .i64 c.next,.int .i64 c.bits,.int .i64 c.epoch]) Ag.o rfl (by simp[Value.cells]) (a0I (by simp[Value.cells]))) ?_
  refine go 1 ?_
  refine a0D rfl Hb.o rfl (o0P hc hf) gSp ?_
  refine ns ?_
  refine go 10 ?_
  refine c0C rfl (by simpa using (by omega: ¬((i:Int)<0))) ?_
  refine go 4 ?_
  refine(b0P Tsl.o Zr.o rfl rfl rfl (by simp[d0B,d0K,Value.cells]<;>rfl) (fun b14=> ?_))
  refine e0Y (fun w h=>p0O 6 h) ?_
  refine go 1 ?_
  refine a0F (b0T (v:= .slice p c.l.length cap) Sc.o rfl (by rw[hlv];rfl)) ?_
  refine go 1 ?_
  refine a0F (f1L Tsl.o rfl rfl (by omega)) ?_
  refine(e0F (news:=(c.l.take i).flatMap b0A) Tsl.o Ttb.o Zr.o rfl rfl rfl gFd (z0K Tsl.o hto gFd (v0P fun x hx=>hc.maps x (List.mem_of_mem_take hx))) (by simp only[maxLen];omega) (by omega) (fun v19 hv19=> ?_))
  refine go 7 ?_
  refine a0F (b0T (v:= .slice p c.l.length cap) Sc.o rfl (by rw[hlv];rfl)) ?_
  refine go 2 ?_
  refine a0F (p1A Tsl.o rfl rfl (by omega) (by omega)) ?_
  refine(e0F (news:=(c.l.drop (i+1)).flatMap b0A) Tsl.o Ttb.o Zr.o rfl rfl rfl gFd (z0K Tsl.o hfrom gFd (v0P fun x hx=>hc.maps x (List.mem_of_mem_drop hx))) (by simp only[maxLen];omega) (by omega) (fun v26 hv26=> ?_))
  refine go 5 ?_
  rw[List.nil_append,←List.flatMap_append,show 0+((i:Nat):Int).toNat+(c.l.length- (((i:Nat):Int)+1).toNat)=(c.l.take i++c.l.drop (i+1)).length by omega]
  refine s0D (show Fnd _ (c0E 42 6 v26 (c.l.take i++c.l.drop (i+1)).length ((c.l.take i++c.l.drop (i+1)).flatMap b0A)) _ from gFd) (show Fnd _ (c0Q H) _ from gFd) fun H' hs hr2=> ?_
  have hcn:d0M H' {c with lv:=v26,l:=c.l.take i++c.l.drop (i+1)} :=⟨hr2,fun x hx=>(hc.maps x (by rcases List.mem_append.1 hx with h|h;{exact List.mem_of_mem_take h};{exact List.mem_of_mem_drop h})).more hs,by(show(c.l.take i++c.l.drop (i+1)).length≤1000);omega⟩
  refine go 1 ?_
  refine a0F (a0O (v:= #[v26,.int .i64 c.next,.int .i64 c.bits,.int .i64 c.epoch]) Ag.o rfl (by simp[Value.cells]) (a0I (by simp[Value.cells]))) ?_
  refine a0K Sz.o rfl rfl rfl (fun u hu=>c0N hcn u (by simpa [a0P] using hu)) (by simp[Value.cells,a0P,b0A]) (a0R (by simp[Value.cells,a0P,b0A])) ?_
  refine go 3 ?_
  exact c0W (x:=((H',{c with lv:=v26,l:=c.l.take i++c.l.drop (i+1)}):b0J×Rx)) ⟨hs,hcn,r2Z⟩ (fun _ _ h=>h) (RV.agg Ag.o rfl (by simp[a0P]) (by rfl) (RV.tmp rfl RV.nil)) rfl gSp
end
section
attribute [local irreducible] Sl.a0L Sl.OW Sl.CW Sl.OS Sl.OM Sl.OMf Sl.KM
theorem x0L (v:Vx) (at_ n:Int) (hs:0≤v.v.size∧v.v.size≤2048):a0S Tryz.prog 102 #[a1N v,.int .i64 at_,.int .i64 n] [] (b0G (.bool (o0A v.v at_ n)) []):=by
 refine a0C Tryz.func102 rfl Tryz.ntmps102 rfl (fun R w0=> ?_)
 simp only[a0N,List.cons_append,List.nil_append,a1N,b0A]
 refine go 2 ?_
 refine(a0X rfl (fun b3=> ?_))
 refine go 4 ?_
 by_cases h1:at_<0
 ·refine go 24 ?_
  refine b0V (fun _ _ h=>h) rfl (by rw[show o0A v.v at_ n=true from decide_eq_true (.inl h1)]) gSp
 ·by_cases h2:n<0
  ·refine go 24 ?_
   refine b0V (fun _ _ h=>h) rfl (by rw[show o0A v.v at_ n=true from decide_eq_true (.inr (.inl h2))]) gSp
  ·by_cases h3:v.v.size<at_
   ·refine go 24 ?_
    refine b0V (fun _ _ h=>h) rfl (by rw[show o0A v.v at_ n=true from decide_eq_true (.inr (.inr (.inl h3)))]) gSp
   ·refine go 24 ?_
    refine b0V (fun _ _ h=>h) rfl (by rw[show o0A v.v at_ n=decide (v.v.size-at_<n)from decide_eq_decide.2 ⟨fun h=>by omega,fun h=>by omega⟩]) gSp
theorem j1F {m:List Lf} (hm:o0N m) (at_:Nat): ∀k,(k0B m at_ k).length=k*64
 |0=>rfl
 |k+1=>by
  rw[k0B,List.length_append,j1F hm at_ k,List.length_take,List.length_drop,hm.get_len];omega
theorem o1I (H:b0J) (v:Vx) (at_ n:Nat) (hv:m0N H v) (hs:at_+n≤4096):a0S Tryz.prog 103 #[a1N v,.int .i64 at_,.int .i64 n] [c0Q H] (b0G (b0H (k0B v.v.m at_ n)) [c0Q H]):=by
 obtain⟨pm,capm,hmv,hcm⟩:=e0E hv.1
 have hml:=hv.2.len
 refine a0C Tryz.func103 rfl Tryz.ntmps103 rfl (fun R w0=> ?_)
 simp only[a0N,List.cons_append,List.nil_append,a1N,b0A]
 refine go 2 ?_
 refine(a0X rfl (fun b3=> ?_))
 refine go 16 ?_
 refine b0S (X:= {k:Nat // k≤n}) (fun y=> [(1,.int .i64 at_),(2,.int .i64 n),(3,.pointer (some ⟨b3,0,none⟩)),(7,b0H (k0B v.v.m at_ y.1)),(8,.int .i64 ((at_+y.1:Nat):Int))]) (fun y=> [pts b3 (.cells #[.int .i64 v.v.id,.int .i64 v.v.parent,.bool v.v.only,.int .i64 v.v.size,.int .i64 v.v.born,v.mv] 42 (0,0)),c0Q H,R]) (fun y=>n-y.1) ⟨0,Nat.zero_le _⟩ gSu gSp ?_
 rintro⟨k,hk⟩ m0 hm0
 try simp only at hm0
 try dsimp only
 skip
 refine go 10 ?_
 refine b0C rfl (fun hb14=> ?_) (fun hb14=> ?_)
 ·have hkl:k<n:=by have:=of_decide_eq_true hb14;omega
  have hgl:=hv.2.get_len (((at_+k)/4:Nat):Int)
  have hrl:=j1F hv.2 at_ k
  refine go 10 ?_
  rw[show((at_+k:Nat):Int)/4=(((at_+k)/4:Nat):Int) by omega]
  refine a0D rfl Hb.o rfl (e1Y H v.mv v.v.m (((at_+k)/4:Nat):Int) hv.1 (by omega)) gSp ?_
  refine ns ?_
  refine go 7 ?_
  refine a0F (d1I (lo:=(((at_+k)%4*64:Nat):Int)) (hi:=(((at_+k)%4*64+64:Nat):Int)) Tst.o rfl (by(show some _=some _);congr 2<;>omega) (by(show some _=some _);congr 2<;>omega) (by rw[b0N,hgl];omega)) ?_
  rw[i1A,show((((at_+k)%4*64+64:Nat):Int)).toNat=(at_+k)%4*64+64 from rfl,show((((at_+k)%4*64:Nat):Int)).toNat=(at_+k)%4*64 from rfl,List.drop_take,show(at_+k)%4*64+64- (at_+k)%4*64=64 by omega]
  refine a0F (i0M rfl rfl (by rw[b0N,b0N,hrl,List.length_take];omega)) ?_
  rw[←i0X,show k0B v.v.m at_ k++((g0R ((at_+k)/4:Nat) v.v.m).drop ((at_+k)%4*64)).take 64=k0B v.v.m at_ (k+1)from rfl]
  refine go 8 ?_
  refine b0Q (fun _ _ h=>h) (⟨k+1,hkl⟩) (by first|omega| (simp only;omega)) gSu gSp
 ·obtain rfl:k=n:=by have:=of_decide_eq_false hb14;omega
  refine go 8 ?_
  refine b0V (fun _ _ h=>h) rfl rfl gSp
end
section
def bytE (e:Int) (b:B):Value:= .tuple #[b0H b,.int .i64 e]
abbrev x0M (P:Rp):Prop:= ∀v∈P.l,0≤v.size∧v.size≤2048
theorem x0M.at_ {c:Rx} (h:x0M (er c)) {i:Nat} (hi:i<c.l.length):0≤c.l[i].v.size∧c.l[i].v.size≤2048:=h _ (by unfold er;exact List.mem_map.2 ⟨_,List.getElem_mem hi,rfl⟩)
theorem g1K {v:Vp} {at_ n:Int} (h:o0A v at_ n=false):0≤at_∧0≤n∧at_≤v.size∧at_+n≤v.size:=by
 have:=of_decide_eq_false h
 omega
attribute [local irreducible] Sl.a0L Sl.OW Sl.CW Sl.OS Sl.OM Sl.OMf Sl.KM
theorem b2L (H:b0J) (c:Rx) (id at_ n:Int) (hc:d0M H c) (hsz:x0M (er c)):a0S Tryz.prog 46 #[e0X c,.int .i64 id,.int .i64 at_,.int .i64 n] [c0Q H]
 (b0G (bytE (o0M (er c) id at_ n).2 (o0M (er c) id at_ n).1) [c0Q H]):=by
 obtain⟨p,cap,hlv,hcap⟩:=e0E hc.vols
 have hrow:=hc.vols
 rw[hlv]at hrow
 have hfew:=hc.few
 cases hf:d0E (er c).l id with
 |none=>
  rw[show o0M (er c) id at_ n=([],5) by unfold o0M;rw[hf]]
  refine a0C Tryz.func46 rfl Tryz.ntmps46 rfl (fun R w0=> ?_)
  simp only[a0N,List.cons_append,List.nil_append,e0X,a0P]
  refine go 2 ?_
  refine(a0X rfl (fun b4=> ?_))
  refine go 6 ?_
  refine a0F (a0O (v:= #[c.lv,.int .i64 c.next,.int .i64 c.bits,.int .i64 c.epoch]) Ag.o rfl (by simp[Value.cells]) (a0I (by simp[Value.cells]))) ?_
  refine go 1 ?_
  refine a0D rfl Hb.o rfl (q0I hc hf) gSp ?_
  refine ns ?_
  refine go 17 ?_
  refine b0V (fun _ _ h=>h) rfl rfl gSp
 |some i=>
  have hil:i<c.l.length:=by have:=t0H hf;simpa [er] using this
  obtain⟨b,o,cap',cur,hv,hcp,hmem,hcut,hlen⟩:=g0E hrow (by omega)
  cases hv
  have hcu:(cur.drop (o+i*6)).take 6=b0A c.l[i]:=(h0J hcut hil).trans (l0N c.l hil)
  have hvi:=hc.maps _ (List.getElem_mem hil)
  have hsi:=hsz.at_ hil
  by_cases hb:o0A c.l[i].v at_ n=true
  ·rw[show o0M (er c) id at_ n=([],6) by unfold o0M;rw[hf];simp only[m0U hil,hb,if_true]]
   refine a0C Tryz.func46 rfl Tryz.ntmps46 rfl (fun R w0=> ?_)
   simp only[a0N,List.cons_append,List.nil_append,e0X,a0P]
   refine go 2 ?_
   refine(a0X rfl (fun b4=> ?_))
   refine go 6 ?_
   refine a0F (a0O (v:= #[c.lv,.int .i64 c.next,.int .i64 c.bits,.int .i64 c.epoch]) Ag.o rfl (by simp[Value.cells]) (a0I (by simp[Value.cells]))) ?_
   refine go 1 ?_
   refine a0D rfl Hb.o rfl (o0P hc hf) gSp ?_
   refine ns ?_
   refine go 10 ?_
   refine c0C rfl (by simpa using (by omega: ¬((i:Int)<0))) ?_
   refine go 6 ?_
   refine a0F (b0T (v:= .slice (some ⟨b,o,none⟩) c.l.length cap) Sc.o rfl (by rw[hlv];rfl)) ?_
   refine go 2 ?_
   refine a0F (f0A (vs:=b0A c.l[i]) Ag.o rfl gFd hmem hcu rfl (by decide)) ?_
   refine go 2 ?_
   refine a0D rfl Hb.o rfl (x0L c.l[i] at_ n hsi) gSp ?_
   refine ns ?_
   refine go 2 ?_
   refine d0W rfl hb ?_
   refine go 6 ?_
   refine b0V (fun _ _ h=>h) rfl rfl gSp
  ·replace hb:o0A c.l[i].v at_ n=false:=by simpa using hb
   have hgd:=g1K hb
   rw[show o0M (er c) id at_ n=(k0B c.l[i].v.m at_.toNat n.toNat,0) by unfold o0M;rw[hf];simp only[m0U hil,hb,if_false];rfl]
   refine a0C Tryz.func46 rfl Tryz.ntmps46 rfl (fun R w0=> ?_)
   simp only[a0N,List.cons_append,List.nil_append,e0X,a0P]
   refine go 2 ?_
   refine(a0X rfl (fun b4=> ?_))
   refine go 6 ?_
   refine a0F (a0O (v:= #[c.lv,.int .i64 c.next,.int .i64 c.bits,.int .i64 c.epoch]) Ag.o rfl (by simp[Value.cells]) (a0I (by simp[Value.cells]))) ?_
   refine go 1 ?_
   refine a0D rfl Hb.o rfl (o0P hc hf) gSp ?_
   refine ns ?_
   refine go 10 ?_
   refine c0C rfl (by simpa using (by omega: ¬((i:Int)<0))) ?_
   refine go 6 ?_
   refine a0F (b0T (v:= .slice (some ⟨b,o,none⟩) c.l.length cap) Sc.o rfl (by rw[hlv];rfl)) ?_
   refine go 2 ?_
   refine a0F (f0A (vs:=b0A c.l[i]) Ag.o rfl gFd hmem hcu rfl (by decide)) ?_
   refine go 2 ?_
   refine a0D rfl Hb.o rfl (x0L c.l[i] at_ n hsi) gSp ?_
   refine ns ?_
   refine go 2 ?_
   refine c0C rfl hb ?_
   refine go 5 ?_
   refine a0F (b0T (v:= .slice (some ⟨b,o,none⟩) c.l.length cap) Sc.o rfl (by rw[hlv];rfl)) ?_
   refine go 2 ?_
   refine a0F (f0A (vs:=b0A c.l[i]) Ag.o rfl gFd hmem hcu rfl (by decide)) ?_
   refine go 2 ?_
   refine a0D rfl Hb.o rfl ((by have h:=o1I H c.l[i] at_.toNat n.toNat hvi (by omega);rw[Int.toNat_of_nonneg hgd.1,Int.toNat_of_nonneg hgd.2.1]at h;exact h)) gSp ?_
   refine ns ?_
   refine go 4 ?_
   refine b0V (fun _ _ h=>h) rfl rfl gSp
end
section
abbrev cl1 (bits:Nat) (data:B) (x:Lf):Bool:=decide (x.2≠data∧key bits (Sha.sum x.2)=key bits (Sha.sum data))
abbrev cl2 (bits:Nat) (data:B) (v:Vx):Bool:=v.v.m.any (cl1 bits data)
theorem g2E (c:Rx) (data:B):o0U (er c) data=c.l.any (cl2 c.bits data):=by
 unfold o0U er cl2;simp only[List.any_map];rfl
theorem g1L {α:Type} {p:α→Bool} {l:List α} {i:Nat} (h:i<l.length) (hz:(l.take i).any p=false) (hp:p l[i]=false):(l.take (i+1)).any p=false:=by
 rw[List.take_succ,List.getElem?_eq_getElem h,List.any_append,hz];simp[hp]
theorem y1G {α:Type} {p:α→Bool} {l:List α} {i:Nat} (h:i<l.length) (hp:p l[i]=true):l.any p=true:=List.any_eq_true.2 ⟨_,List.getElem_mem h,hp⟩
attribute [local irreducible] Sl.a0L Sl.OW Sl.CW Sl.OS Sl.OM Sl.OMf Sl.KM
theorem f1A (H:b0J) (c:Rx) (data:B) (hc:d0M H c) (hd:data.length≤100000) (hbits:c.bits≤256):a0S Tryz.prog 174 #[e0X c,b0H data] [c0Q H] (b0G (.bool (o0U (er c) data)) [c0Q H]):=by
 rw[g2E]
 obtain⟨p,cap,hlv,hcap⟩:=e0E hc.vols
 have hrow:=hc.vols
 rw[hlv]at hrow
 have hfew:=hc.few
 refine a0C Tryz.func174 rfl Tryz.ntmps174 rfl (fun R w0=> ?_)
 simp only[a0N,List.cons_append,List.nil_append,e0X,a0P]
 refine go 2 ?_
 refine(a0X rfl (fun b2=> ?_))
 refine go 8 ?_
 refine(a0U Zr.o (fun b5=> ?_))
 refine a0K (vs:= #[.slice none 0 0,.int .i64 c.bits]) Sz.o rfl rfl rfl (by simp[Value.oneCell']) (by simp[Value.cells]) (a0R (by simp[Value.cells])) ?_
 refine go 4 ?_
 refine a0F (a0O (v:= #[.slice none 0 0,.int .i64 c.bits]) Ag.o rfl (by simp[Value.cells]) (a0I (by simp[Value.cells]))) ?_
 refine go 1 ?_
 refine a0D rfl Hb.o rfl (i1Z data c.bits hd hbits) gSp ?_
 refine ns ?_
 refine go 7 ?_
 refine a0F (b0T (v:= .slice p c.l.length cap) Sc.o rfl (by rw[hlv];rfl)) ?_
 refine go 5 ?_
 refine b0S (X:= {i:Nat // i≤c.l.length∧(c.l.take i).any (cl2 c.bits data)=false}) (fun y=> [(1,b0H data),(5,.pointer (some ⟨b5,0,none⟩)),(6,b0H (key c.bits (Sha.sum data))),(18,.slice p c.l.length cap),(19,.int .i64 c.l.length),(20,.int .i64 y.1)]) (fun y=> [pts b5 (.cells #[.slice none 0 0,.int .i64 c.bits] 277 (0,0)),c0Q H,R]) (fun y=>c.l.length-y.1) ⟨0,Nat.zero_le _,rfl⟩ gSu gSp ?_
 rintro⟨i,hi,hz⟩ m0 hm0
 try simp only at hm0
 try dsimp only
 skip
 refine go 6 ?_
 refine b0C rfl (fun hb21=> ?_) (fun hb21=> ?_)
 ·have hil:i<c.l.length:=by have:=of_decide_eq_true hb21;omega
  obtain⟨b,o,cap',cur,hv,hcp,hmem,hcut,hlen⟩:=g0E hrow (by omega)
  cases hv
  have hcu:(cur.drop (o+i*6)).take 6=b0A c.l[i]:=(h0J hcut hil).trans (l0N c.l hil)
  have hvi:=hc.maps _ (List.getElem_mem hil)
  obtain⟨pm,capm,hmv,hcm⟩:=e0E hvi.1
  have hrm:=hvi.1
  rw[hmv]at hrm
  have hml:=hvi.2.len
  refine go 7 ?_
  refine a0F (f0A (vs:=b0A c.l[i]) Ag.o rfl gFd hmem hcu rfl (by decide)) ?_
  refine(a0U Zr.o (fun b8=> ?_))
  refine a0K Sz.o rfl rfl rfl (fun u hu=>o0O hvi u (by simpa using hu)) (by simp[Value.cells,a0P,b0A]) (a0R (by simp[Value.cells,a0P,b0A])) ?_
  refine go 5 ?_
  refine a0F (b0T (v:= .slice pm c.l[i].v.m.length capm) Sc.o rfl (by rw[←hmv];rfl)) ?_
  refine go 5 ?_
  refine b0S (X:= {j:Nat // j≤c.l[i].v.m.length∧(c.l[i].v.m.take j).any (cl1 c.bits data)=false}) (fun y=> [(1,b0H data),(5,.pointer (some ⟨b5,0,none⟩)),(6,b0H (key c.bits (Sha.sum data))),(18,.slice (some ⟨b,o,none⟩) c.l.length cap),(19,.int .i64 c.l.length),(20,.int .i64 i),(25,.slice pm c.l[i].v.m.length capm),(26,.int .i64 c.l[i].v.m.length),(27,.int .i64 y.1)]) (fun y=> [pts b5 (.cells #[.slice none 0 0,.int .i64 c.bits] 277 (0,0)),c0Q H,R]) (fun y=>c.l[i].v.m.length-y.1) ⟨0,Nat.zero_le _,rfl⟩ gSu gSp ?_
  rintro⟨j,hj,hy⟩ m2 hm2
  try simp only at hm2
  try dsimp only
  skip
  refine go 6 ?_
  refine b0C rfl (fun hb28=> ?_) (fun hb28=> ?_)
  ·have hjl:j<c.l[i].v.m.length:=by have:=of_decide_eq_true hb28;omega
   obtain⟨bm,om,capm',curm,hv2,hcp2,hmem2,hcut2,hlen2⟩:=g0E hrm (by omega)
   cases hv2
   have hcu2:(curm.drop (om+j*2)).take 2=lfC c.l[i].v.m[j]:=(h0J hcut2 hjl).trans (s0X (f:=lfC) (size:=2) (fun _=>rfl) c.l[i].v.m hjl)
   have hll:c.l[i].v.m[j].2.length=256:=(hvi.2.in_ _ (List.getElem_mem hjl)).2.2
   refine go 7 ?_
   refine a0F (f0A (vs:=lfC c.l[i].v.m[j]) Ag.o rfl gFd hmem2 hcu2 rfl (by decide)) ?_
   refine(a0U Zr.o (fun b10=> ?_))
   refine a0K Sz.o rfl rfl rfl (by simp[Value.oneCell']) (by simp[Value.cells]) (a0R (by simp[Value.cells])) ?_
   refine go 3 ?_
   by_cases hne:c.l[i].v.m[j].2=data
   ·refine go 4 ?_
    refine a0F (g0V rfl rfl) ?_
    refine go 1 ?_
    refine f0D rfl (fun a w hh=>(b0E rfl rfl rfl hh).trans (wTF (by simpa using hne))) ?_
    refine f0D rfl (fun a w hh=>(b0E rfl rfl rfl hh).trans (wTF (by simpa using hne))) ?_
    refine f0D rfl (fun a w hh=>(b0E rfl rfl rfl hh).trans (wTF (by simpa using hne))) ?_
    refine f0D rfl (fun a w hh=>(b0E rfl rfl rfl hh).trans (wTF (by simpa using hne))) ?_
    refine f0D rfl (fun a w hh=>(b0E rfl rfl rfl hh).trans (wTF (by simpa using hne))) ?_
    refine f0D rfl (fun a w hh=>(b0E rfl rfl rfl hh).trans (wTF (by simpa using hne))) ?_
    refine a0F (n0R rfl (by simpa using hne) rfl) ?_
    refine go 9 ?_
    refine b0Q (fun _ _ h=>h) (⟨j+1,hjl,g1L hjl hy (decide_eq_false fun h=>h.1 hne)⟩) (by first|omega| (simp only;omega)) gSu gSp
   ·refine go 4 ?_
    refine a0F (g0V rfl rfl) ?_
    refine go 1 ?_
    refine g0M (a0O (v:= #[.slice none 0 0,.int .i64 c.bits]) Ag.o rfl (by simp[Value.cells]) (a0I (by simp[Value.cells]))) (fun a w hh=>(b0E rfl rfl rfl hh).trans (wTT (by simpa using hne))) ?_
    refine g0M (d1G Fl.o rfl) (fun a w hh=>(b0E rfl rfl rfl hh).trans (wTT (by simpa using hne))) ?_
    refine g0M (b0T Sc.o rfl (by rfl)) (fun a w hh=>(b0E rfl rfl rfl hh).trans (wTT (by simpa using hne))) ?_
    refine m0S (fun a w hh=>(b0E rfl rfl rfl hh).trans (wTT (by simpa using hne))) ?_
    refine a0D rfl Hb.o rfl (i1Z c.l[i].v.m[j].2 c.bits (by omega) hbits) gSp ?_
    refine ns ?_
    refine g0M (l0R rfl) (fun a w hh=>(b0E rfl rfl rfl hh).trans (wTT (by simpa using hne))) ?_
    refine g0M (b1D rfl rfl) (fun a w hh=>(b0E rfl rfl rfl hh).trans (wTT (by simpa using hne))) ?_
    refine a0F (o0V rfl (by simpa using hne) rfl) ?_
    refine go 2 ?_
    refine b0C rfl (fun hb42=> ?_) (fun hb42=> ?_)
    ·have he:key c.bits (Sha.sum c.l[i].v.m[j].2)=key c.bits (Sha.sum data):=by simpa [c0P] using hb42
     refine go 5 ?_
     refine b0V (fun _ _ h=>h) rfl (by rw[y1G hil (y1G hjl (decide_eq_true ⟨hne,he⟩))]) gSp
    ·have he: ¬key c.bits (Sha.sum c.l[i].v.m[j].2)=key c.bits (Sha.sum data):=by simpa [c0P] using hb42
     refine go 6 ?_
     refine b0Q (fun _ _ h=>h) (⟨j+1,hjl,g1L hjl hy (decide_eq_false fun h=>he h.2)⟩) (by first|omega| (simp only;omega)) gSu gSp
  ·obtain rfl:j=c.l[i].v.m.length:=by have:=of_decide_eq_false hb28;omega
   rw[List.take_length]at hy
   refine go 6 ?_
   refine b0Q (fun _ _ h=>h) (⟨i+1,hil,g1L hil hz hy⟩) (by first|omega| (simp only;omega)) gSu gSp
 ·obtain rfl:i=c.l.length:=by have:=of_decide_eq_false hb21;omega
  rw[List.take_length]at hz
  refine go 7 ?_
  refine b0V (fun _ _ h=>h) rfl (by rw[hz]) gSp
end
section
theorem b2M (i k:Nat) (c:Rp) (at_:Nat):d0L i k c at_ []=(c,0):=by cases k<;>simp[d0L]
theorem b2N {i k:Nat} {c:Rp} {at_ f n:Nat} {data was now:B} (hd:data≠ []) (hw:was=g0R (at_/4:Nat) (c.l.getD i v0).m) (hf:f=at_%4*64) (hn:n=min data.length (256-f)) (hnow:now=a1L was data f n) (h:now≠was∧b0B now=false∧o0U c now=true):d0L i (k+1) c at_ data=(c,9):=by
 subst hn hf hw hnow
 rw[d0L,if_neg hd]
 simp only
 rw[if_pos h]
theorem v1K {i k:Nat} {c:Rp} {at_ f n:Nat} {data was now:B} (hd:data≠ []) (hw:was=g0R (at_/4:Nat) (c.l.getD i v0).m) (hf:f=at_%4*64) (hn:n=min data.length (256-f)) (hnow:now=a1L was data f n) (h: ¬(now≠was∧b0B now=false∧o0U c now=true)):
 d0L i (k+1) c at_ data=d0L i k (d0R c i (j0O (c.l.getD i v0).m (at_/4:Nat) now)) (at_+n/64) (data.drop n):=by
 subst hn hf hw hnow
 rw[d0L,if_neg hd]
 simp only
 rw[if_neg h]
theorem l2L {was data:B} {f n:Nat} (hw:was.length=256) (hf:f≤256) (hn:n=min data.length (256-f)):(a1L was data f n).length=256:=by
 unfold a1L;simp only[List.length_append,List.length_take,List.length_drop];omega
theorem n1O {c:Cx} {env:List (Nat×Value)} {L M:List a0E} {Q:Exit→Act→World→Prop} {ops:Array Oper} {rest:List Oper} {e:TypeId} {size n:Nat} {v:Value} {xs:List Value} (hL:Fnd L (c0E e size v n xs) M) (h:v.oneCell'=true→OW c ops Q rest env L):OW c ops Q rest env L:=fun a w hh=>h (by
 obtain⟨_,hc⟩:=g0N (hL.sat hh.sat)
 rcases hc with ⟨rfl,_⟩| ⟨b,cap,cur,rfl,_⟩<;>rfl) a w hh
theorem y1H {c1 c3:Rx} {i:Nat} {m:List Lf} {mv:Value} (hi:i<c1.l.length) (h:er c3= {er c1 with l:=(er c1).l.set i ({v:= {c1.l[i].v with m:=m},mv:=mv} :Vx).v}):er c3=d0R (er c1) i m:=by
 rw[h];unfold d0R;rw[m0U hi]
structure PS (H:b0J) (i:Nat) (bits:Nat) (n0:Nat) (want:Rp×Int) (x:b0J×Rx×Nat×B×Nat):Prop where
 sub: ∀p∈H,p∈x.1
 core:d0M x.1 x.2.1
 ix:i<x.2.1.l.length
 hb:x.2.1.bits=bits
 room:x.2.2.1*64+x.2.2.2.1.length≤131072
 whole:x.2.2.2.1.length%64=0
 fuel:x.2.2.2.1.length≤x.2.2.2.2
 run:want=d0L i x.2.2.2.2 (er x.2.1) x.2.2.1 x.2.2.2.1
attribute [local irreducible] Sl.a0L Sl.OW Sl.CW Sl.OS Sl.OM Sl.OMf Sl.KM
theorem t0V (H:b0J) (c:Rx) (i at_ k:Nat) (data:B) (hc:d0M H c) (hi:i<c.l.length) (hbits:c.bits≤256) (hroom:at_*64+data.length≤131072) (hw:data.length%64=0) (hk:data.length≤k):
 a0S Tryz.prog 127 #[e0X c,.int .i64 i,.int .i64 at_,b0H data] [c0Q H]
 (c0X (w0N H (d0L i k (er c) at_ data).1) (l1H (d0L i k (er c) at_ data).2) (fun x=> [c0Q x.1])):=by
 refine a0C Tryz.func127 rfl Tryz.ntmps127 rfl (fun R w0=> ?_)
 simp only[a0N,List.cons_append,List.nil_append,e0X,a0P]
 refine go 2 ?_
 refine(a0X rfl (fun b4=> ?_))
 refine(a0U Zr.o (fun b8=> ?_))
 refine go 5 ?_
 refine b0S (X:= {x:b0J×Rx×Nat×B×Nat // PS H i c.bits 0 (d0L i k (er c) at_ data) x}) (fun y=> [(1,.int .i64 i),(2,.int .i64 y.1.2.2.1),(3,b0H y.1.2.2.2.1),(4,.pointer (some ⟨b4,0,none⟩)),(8,.pointer (some ⟨b8,0,none⟩)),(9,.int .i64 0)]) (fun y=> [u0L b4 y.1.2.1,pts b8 (.cells #[.slice none 0 0,.int .i64 0,.int .i64 0,.int .i64 0] 34 (0,0)),c0Q y.1.1,R]) (fun y=>y.1.2.2.2.1.length) ⟨(H,c,at_,data,k),fun _ h=>h,hc,hi,rfl,hroom,hw,hk,rfl⟩ gSu gSp ?_
 rintro⟨⟨H1,c1,at1,d1,k1⟩,hps⟩ m0 hm0
 try simp only at hm0
 try dsimp only
 obtain⟨hsub,hc1,hi1,hb1,hroom1,hw1,hk1,hrun⟩:=hps
 dsimp only at hsub hc1 hi1 hb1 hroom1 hw1 hk1 hrun ⊢
 have hds:(bs d1).size=d1.length:=b0N d1
 refine go 8 ?_
 refine b0C rfl (fun hb18=> ?_) (fun hb18=> ?_)
 ·have hdl:0<d1.length:=by have:=of_decide_eq_true hb18;omega
  have hdn:d1≠ []:=by intro h;rw[h]at hdl;exact absurd hdl (Nat.lt_irrefl 0)
  obtain⟨k2,rfl⟩: ∃k2,k1=k2+1:=⟨k1-1,by omega⟩
  obtain⟨p,cap,hlv,hcap⟩:=e0E hc1.vols
  have hrow:=hc1.vols
  rw[hlv]at hrow
  have hfew:=hc1.few
  obtain⟨b,o,cap',cur,hv,hcp,hmem,hcut,hlen⟩:=g0E hrow (by omega)
  cases hv
  have hcu:(cur.drop (o+i*6)).take 6=b0A c1.l[i]:=(h0J hcut hi1).trans (l0N c1.l hi1)
  have hvi:=hc1.maps _ (List.getElem_mem hi1)
  have hml:=hvi.2.len
  obtain⟨f,hf⟩: ∃f,f=at1%4*64:=⟨_,rfl⟩
  obtain⟨n,hn⟩: ∃n,n=min d1.length (256-f):=⟨_,rfl⟩
  obtain⟨was,hwas⟩: ∃was,was=g0R (at1/4:Nat) c1.l[i].v.m:=⟨_,rfl⟩
  have hwl:was.length=256:=by rw[hwas];exact hvi.2.get_len _
  obtain⟨now,hnow⟩: ∃now,now=a1L was d1 f n:=⟨_,rfl⟩
  have hws:(bs was).size=256:=by rw[b0N,hwl]
  have hnn:n%64=0∧64≤n∧n≤d1.length∧n≤256-f∧f≤192:=by omega
  have hnl:now.length=256:=by rw[hnow];exact l2L hwl (by omega) hn
  refine go 6 ?_
  refine a0F (b0T (v:= .slice (some ⟨b,o,none⟩) c1.l.length cap) Sc.o rfl (by exact congrArg some hlv)) ?_
  refine go 2 ?_
  refine a0F (f0A (vs:=b0A c1.l[i]) Ag.o rfl gFd hmem hcu rfl (by decide)) ?_
  refine(a0U Zr.o (fun b10=> ?_))
  refine a0K Sz.o rfl rfl rfl (fun u hu=>o0O hvi u (by simpa using hu)) (by simp[Value.cells,a0P,b0A]) (a0R (by simp[Value.cells,a0P,b0A])) ?_
  refine go 9 ?_
  rw[show((at1:Nat):Int)/4=((at1/4:Nat):Int) by omega,show((at1:Nat):Int)%4*64=(f:Int) by omega]
  refine go 11 ?_
  rw[show min ((bs d1).size:Int) (256- (f:Int))=(n:Int) by omega]
  refine go 8 ?_
  refine a0D rfl Hb.o rfl (e1Y H1 c1.l[i].mv c1.l[i].v.m ((at1/4:Nat):Int) hvi.1 (by omega)) gSp ?_
  refine ns ?_
  rw[←hwas]
  refine go 7 ?_
  refine c0K (b1F Tst.o rfl rfl (by omega)) ?_
  rw[show(bs was).extract 0 ((f:Nat):Int).toNat=bs (was.take f)from y0J was f]
  refine go 2 ?_
  refine c0K (b1F Tst.o rfl rfl (by omega)) ?_
  rw[show(bs d1).extract 0 ((n:Nat):Int).toNat=bs (d1.take n)from y0J d1 n]
  refine c0K (i0M rfl rfl (by rw[b0N,b0N,List.length_take,List.length_take];omega)) ?_
  rw[←i0X]
  refine go 4 ?_
  refine c0K (b1E Tst.o rfl rfl (by omega)) ?_
  rw[show(bs was).extract (((f:Nat):Int)+((n:Nat):Int)).toNat (bs was).size=bs (was.drop (f+n))from by rw[show(((f:Nat):Int)+((n:Nat):Int)).toNat=f+n by omega];exact v0F was (f+n)]
  refine c0K (i0M rfl rfl (by rw[b0N,b0N,List.length_append,List.length_take,List.length_take,List.length_drop];omega)) ?_
  rw[←i0X,show was.take f++d1.take n++was.drop (f+n)=now from hnow.symm]
  refine go 3 ?_
  refine r0A (X:= {_x:Unit // ¬(now≠was∧b0B now=false∧o0U (er c1) now=true)}) (fun _=> [(1,.int .i64 i),(2,.int .i64 at1),(3,b0H d1),(4,.pointer (some ⟨b4,0,none⟩)),(8,.pointer (some ⟨b8,0,none⟩)),(9,.int .i64 0),(10,.pointer (some ⟨b10,0,none⟩)),(11,.int .i64 ((at1/4:Nat):Int)),(13,.int .i64 n),(15,b0H now)]) (fun _=> [u0L b4 c1,pts b8 (.cells #[.slice none 0 0,.int .i64 0,.int .i64 0,.int .i64 0] 34 (0,0)),l1G b10 c1.l[i],c0Q H1,R]) ?_ ?_
  ·refine go 1 ?_
   by_cases h1:now=was
   ·refine go 3 ?_
    refine a0F (g0V rfl rfl) ?_
    refine go 1 ?_
    refine f0D rfl (fun a w hh=>(b0E rfl rfl rfl hh).trans (wTF (by simpa using h1))) ?_
    refine f0D rfl (fun a w hh=>(b0E rfl rfl rfl hh).trans (wTF (by simpa using h1))) ?_
    refine f0D rfl (fun a w hh=>(b0E rfl rfl rfl hh).trans (wTF (by simpa using h1))) ?_
    refine a0F (n0R rfl (by simpa using h1) rfl) ?_
    refine go 9 ?_
    refine i0D (fun _ _ h=>h) (⟨(),fun h=>h.1 h1⟩) gSu gSp
   ·by_cases h2:b0B now=true
    ·refine go 3 ?_
     refine a0F (g0V rfl rfl) ?_
     refine go 1 ?_
     refine g0M (l0R rfl) (fun a w hh=>(b0E rfl rfl rfl hh).trans (wTT (by simpa using h1))) ?_
     refine m0S (fun a w hh=>(b0E rfl rfl rfl hh).trans (wTT (by simpa using h1))) ?_
     refine a0D rfl Hb.o rfl (u0W now (by omega)) gSp ?_
     refine ns ?_
     refine g0M (h1B rfl) (fun a w hh=>(b0E rfl rfl rfl hh).trans (wTT (by simpa using h1))) ?_
     refine a0F (o0V rfl (by simpa using h1) rfl) ?_
     refine go 1 ?_
     refine f0D rfl (fun a w hh=>(b0E rfl rfl rfl hh).trans (wTF (by simpa using h2))) ?_
     refine f0D rfl (fun a w hh=>(b0E rfl rfl rfl hh).trans (wTF (by simpa using h2))) ?_
     refine f0D rfl (fun a w hh=>(b0E rfl rfl rfl hh).trans (wTF (by simpa using h2))) ?_
     refine a0F (n0R rfl (by simpa using h2) rfl) ?_
     refine go 4 ?_
     refine i0D (fun _ _ h=>h) (⟨(),fun h=>by have:=h.2.1;rw[h2]at this;cases this⟩) gSu gSp
    ·by_cases h3:o0U (er c1) now=true
     ·refine go 3 ?_
      refine a0F (g0V rfl rfl) ?_
      refine go 1 ?_
      refine g0M (l0R rfl) (fun a w hh=>(b0E rfl rfl rfl hh).trans (wTT (by simpa using h1))) ?_
      refine m0S (fun a w hh=>(b0E rfl rfl rfl hh).trans (wTT (by simpa using h1))) ?_
      refine a0D rfl Hb.o rfl (u0W now (by omega)) gSp ?_
      refine ns ?_
      refine g0M (h1B rfl) (fun a w hh=>(b0E rfl rfl rfl hh).trans (wTT (by simpa using h1))) ?_
      refine a0F (o0V rfl (by simpa using h1) rfl) ?_
      refine go 1 ?_
      refine g0M (a0O (v:=(a0P c1).toArray) Ag.o rfl (by simp[Value.cells,a0P]) (a0I (by simp[Value.cells,a0P]))) (fun a w hh=>(b0E rfl rfl rfl hh).trans (wTT (by simpa using h2))) ?_
      refine g0M (l0R rfl) (fun a w hh=>(b0E rfl rfl rfl hh).trans (wTT (by simpa using h2))) ?_
      refine m0S (fun a w hh=>(b0E rfl rfl rfl hh).trans (wTT (by simpa using h2))) ?_
      refine a0D rfl Hb.o rfl (f1A H1 c1 now hc1 (by omega) (by omega)) gSp ?_
      refine ns ?_
      refine a0F (o0V rfl (by simpa using h2) rfl) ?_
      refine go 2 ?_
      refine d0W rfl h3 ?_
      refine go 1 ?_
      rw[hrun,b2N hdn (by rw[m0U hi1];exact hwas) hf hn hnow ⟨h1,by simpa using h2,h3⟩]
      refine go 1 ?_
      refine a0F (a0O (v:=(a0P c1).toArray) Ag.o rfl (by simp[Value.cells,a0P]) (a0I (by simp[Value.cells,a0P]))) ?_
      refine a0K Sz.o rfl rfl rfl (fun u hu=>c0N hc1 u (by simpa using hu)) (by simp[Value.cells,a0P,b0A]) (a0R (by simp[Value.cells,a0P,b0A])) ?_
      refine go 3 ?_
      exact c0W (x:=((H1,c1):b0J×Rx)) ⟨hsub,hc1,rfl⟩ (fun _ _ h=>h) (RV.agg Ag.o rfl (by simp[a0P]) (by rfl) (RV.tmp rfl RV.nil)) rfl gSp
     ·refine go 3 ?_
      refine a0F (g0V rfl rfl) ?_
      refine go 1 ?_
      refine g0M (l0R rfl) (fun a w hh=>(b0E rfl rfl rfl hh).trans (wTT (by simpa using h1))) ?_
      refine m0S (fun a w hh=>(b0E rfl rfl rfl hh).trans (wTT (by simpa using h1))) ?_
      refine a0D rfl Hb.o rfl (u0W now (by omega)) gSp ?_
      refine ns ?_
      refine g0M (h1B rfl) (fun a w hh=>(b0E rfl rfl rfl hh).trans (wTT (by simpa using h1))) ?_
      refine a0F (o0V rfl (by simpa using h1) rfl) ?_
      refine go 1 ?_
      refine g0M (a0O (v:=(a0P c1).toArray) Ag.o rfl (by simp[Value.cells,a0P]) (a0I (by simp[Value.cells,a0P]))) (fun a w hh=>(b0E rfl rfl rfl hh).trans (wTT (by simpa using h2))) ?_
      refine g0M (l0R rfl) (fun a w hh=>(b0E rfl rfl rfl hh).trans (wTT (by simpa using h2))) ?_
      refine m0S (fun a w hh=>(b0E rfl rfl rfl hh).trans (wTT (by simpa using h2))) ?_
      refine a0D rfl Hb.o rfl (f1A H1 c1 now hc1 (by omega) (by omega)) gSp ?_
      refine ns ?_
      refine a0F (o0V rfl (by simpa using h2) rfl) ?_
      refine go 2 ?_
      refine c0C rfl (by simpa using h3) ?_
      refine go 1 ?_
      refine i0D (fun _ _ h=>h) (⟨(),fun h=>h3 h.2.2⟩) gSu gSp
  rintro⟨_,hgo⟩
  refine go 6 ?_
  refine a0W rfl Hb.o rfl (v1I H1 c1.l[i].mv c1.l[i].v.m ((at1/4:Nat):Int) now hvi.1 (by omega) (by omega)) gSp ?_
  rintro v69 _
  refine ns ?_
  refine n1O (show Fnd _ (s0M v69 (j0O c1.l[i].v.m ((at1/4:Nat):Int) now)) _ from gFd) fun hv69=> ?_
  refine go 5 ?_
  refine s0D (show Fnd _ (s0M v69 (j0O c1.l[i].v.m ((at1/4:Nat):Int) now)) _ from gFd) (show Fnd _ (c0Q H1) _ from gFd) fun H2 hs2 hr2=> ?_
  obtain⟨v2,hv2⟩: ∃v2:Vx,v2= {v:= {c1.l[i].v with m:=j0O c1.l[i].v.m ((at1/4:Nat):Int) now},mv:=v69} :=⟨_,rfl⟩
  have hm2:m0N H2 v2:=by rw[hv2];exact⟨hr2,hvi.2.put ⟨by omega,by omega⟩ hnl⟩
  refine go 1 ?_
  refine a0F (a0O (v:=(a0P c1).toArray) Ag.o rfl (by simp[Value.cells,a0P]) (a0I (by simp[Value.cells,a0P]))) ?_
  refine go 1 ?_
  refine a0F (a0O (v:=(b0A v2).toArray) Ag.o rfl (by simp[Value.cells,b0A]) (by rw[hv2];rfl)) ?_
  refine a0W rfl Hb.o rfl (a1O H2 c1 i v2 (hc1.more hs2) hm2 hi1) gSp ?_
  rintro⟨H3,c3⟩ ⟨hs3,hc3,hr3⟩
  refine ns ?_
  refine a0K Sz.o rfl rfl rfl (fun u hu=>c0N hc3 u (by simpa using hu)) (by simp[Value.cells,a0P,b0A]) (a0R (by simp[Value.cells,a0P,b0A])) ?_
  refine go 6 ?_
  refine a0F (b1E Tst.o rfl rfl (by omega)) ?_
  rw[show(bs d1).extract ((n:Nat):Int).toNat (bs d1).size=bs (d1.drop n)from v0F d1 n]
  refine go 3 ?_
  dsimp only at hs3 hc3 hr3
  have hr4:er c3=d0R (er c1) i (j0O c1.l[i].v.m ((at1/4:Nat):Int) now):=y1H (mv:=v69) hi1 (by rw[hr3,hv2])
  have hl3:c3.l.length=c1.l.length:=by have h:=congrArg (fun x:Rp=>x.l.length) hr4;simpa [er,d0R] using h
  have hb3:c3.bits=c1.bits:=congrArg (fun x:Rp=>x.bits) hr4
  have hdr:(d1.drop n).length=d1.length-n:=List.length_drop
  refine go 5 ?_
  rw[show(at1:Int)+((n:Nat):Int)/64=((at1+n/64:Nat):Int) by omega]
  refine go 2 ?_
  refine b0Q (fun _ _ h=>h) (⟨(H3,c3,at1+n/64,d1.drop n,k2),fun q h=>hs3 q (hs2 q (hsub q h)),hc3,by(show i<c3.l.length);omega,hb3.trans hb1,by(show(at1+n/64)*64+(d1.drop n).length≤_);omega,by(show(d1.drop n).length%64=0);omega,by(show(d1.drop n).length≤k2);omega,by rw[hrun,v1K hdn (by rw[m0U hi1];exact hwas) hf hn hnow hgo,m0U hi1];(show _=d0L i k2 (er c3) _ _);rw[hr4]⟩) (by show(d1.drop n).length<m0;omega) gSu gSp
 ·obtain rfl:d1= []:=List.eq_nil_of_length_eq_zero (by have:=of_decide_eq_false hb18;omega)
  rw[hrun,b2M]
  refine go 4 ?_
  refine a0F (a0O (v:=(a0P c1).toArray) Ag.o rfl (by simp[Value.cells,a0P]) (a0I (by simp[Value.cells,a0P]))) ?_
  refine a0K Sz.o rfl rfl rfl (fun u hu=>c0N hc1 u (by simpa using hu)) (by simp[Value.cells,a0P,b0A]) (a0R (by simp[Value.cells,a0P,b0A])) ?_
  refine go 3 ?_
  exact c0W (x:=((H1,c1):b0J×Rx)) ⟨hsub,hc1,rfl⟩ (fun _ _ h=>h) (RV.agg Ag.o rfl (by simp[a0P]) (by rfl) (RV.tmp rfl RV.nil)) rfl gSp
end
end Go.Proofs.Q
