/- Part of the proof; no statement of its own. -/
import Derived.Test.YtpinhnikemamjaaGreatDoorB16
import Derived.Test.YtpinhnikemamjaaGreatDoorB08
import Derived.Test.YtpinhnikemamjaaGreatDoorB23
import Derived.Test.YtpinhnikemamjaaGreatDoorProg
import Derived.KernelRfl
set_option linter.all false
set_option maxRecDepth 4000
set_option maxHeartbeats 4000000
namespace Go.Proofs.Q
open Go.Sl Go.Sb
section
structure AtI (H:b0J) (c:Rx) (i:Nat) (p:Option Addr) (cap:Nat):Prop where
 lv:c.lv= .slice p c.l.length cap
 vol: ∀h:i<c.l.length,∃(b o:Nat) (cur:List Value),p=some ⟨b,o,none⟩∧(b,Obj.cells cur.toArray 42 (0,0))∈H∧(cur.drop (o+i*6)).take 6=b0A c.l[i]
theorem v1L {P:Rp} {id at_:Int} {data:B} (h:d0E P.l id=none):k0C P id at_ data=(P,5):=by unfold k0C;rw[h]
theorem v1M {c:Rx} {i:Nat} {id at_:Int} {data:B} (h:d0E (er c).l id=some i) (hi:i<c.l.length):k0C (er c) id at_ data=(if c.l[i].v.only then(er c,7)else if data.length%64≠0 then(er c,4)else if o0A c.l[i].v at_ (data.length/64:Nat)then(er c,6)else
 let r:=d0L i data.length (er c) at_.toNat data
 if r.2≠0 then(er c,r.2)else(r.1,0)):=by
 unfold k0C;rw[h];simp only[m0U hi]
attribute [local irreducible] Sl.a0L Sl.OW Sl.CW Sl.OS Sl.OM Sl.OMf Sl.KM
theorem v1N (H:b0J) (c:Rx) (id at_:Int) (data:B) (hc:d0M H c) (hsz:x0M (er c)) (hbits:c.bits≤256) (hd:data.length≤100000):a0S Tryz.prog 77 #[e0X c,.int .i64 id,.int .i64 at_,b0H data] [c0Q H]
 (c0X (w0N H (k0C (er c) id at_ data).1) (l1H (k0C (er c) id at_ data).2) (fun x=> [c0Q x.1])):=by
 have hone:=c0N hc
 obtain⟨p,cap,hlv,hcap⟩:=e0E hc.vols
 have hrow:=hc.vols
 rw[hlv]at hrow
 have hfew:=hc.few
 have hds:(bs data).size=data.length:=b0N data
 cases hf:d0E (er c).l id with
 |none=>
  rw[v1L hf]
  refine a0C Tryz.func77 rfl Tryz.ntmps77 rfl (fun R w0=> ?_)
  simp only[a0N,List.cons_append,List.nil_append,e0X,a0P]
  refine go 2 ?_
  refine(a0X rfl (fun b4=> ?_))
  refine(a0U Zr.o (fun b8=> ?_))
  refine go 5 ?_
  refine a0F (a0O (v:= #[c.lv,.int .i64 c.next,.int .i64 c.bits,.int .i64 c.epoch]) Ag.o rfl (by simp[Value.cells]) (a0I (by simp[Value.cells]))) ?_
  refine go 1 ?_
  refine a0D rfl Hb.o rfl (q0I hc hf) gSp ?_
  refine ns ?_
  refine go 15 ?_
  refine a0F (a0O (v:= #[c.lv,.int .i64 c.next,.int .i64 c.bits,.int .i64 c.epoch]) Ag.o rfl (by simp[Value.cells]) (a0I (by simp[Value.cells]))) ?_
  refine a0K Sz.o rfl rfl rfl (fun u hu=>hone u (by simpa [a0P] using hu)) (by simp[Value.cells,a0P,b0A]) (a0R (by simp[Value.cells,a0P,b0A])) ?_
  refine go 3 ?_
  exact c0W (x:=((H,c):b0J×Rx)) (g0F hc) (fun _ _ h=>h) (RV.agg Ag.o rfl (by simp[a0P]) (by rfl) (RV.tmp rfl RV.nil)) rfl gSp
 |some i=>
  have hil:i<c.l.length:=by have:=t0H hf;simpa [er] using this
  obtain⟨b,o,cap',cur,hv,hcp,hmem,hcut,hlen⟩:=g0E hrow (by omega)
  cases hv
  have hcu:(cur.drop (o+i*6)).take 6=b0A c.l[i]:=(h0J hcut hil).trans (l0N c.l hil)
  have hon:nth cur (o+i*6+2)=some (.bool c.l[i].v.only):=by
   rw[e0L]
   have h:=congrArg (fun l:List Value=>l[2]?) hcu
   simpa [List.getElem?_take,List.getElem?_drop,b0A] using h
  have hvi:=hc.maps _ (List.getElem_mem hil)
  have hsi:=hsz.at_ hil
  rw[v1M hf hil]
  refine a0C Tryz.func77 rfl Tryz.ntmps77 rfl (fun R w0=> ?_)
  simp only[a0N,List.cons_append,List.nil_append,e0X,a0P]
  refine go 2 ?_
  refine(a0X rfl (fun b4=> ?_))
  refine(a0U Zr.o (fun b8=> ?_))
  refine go 5 ?_
  refine a0F (a0O (v:= #[c.lv,.int .i64 c.next,.int .i64 c.bits,.int .i64 c.epoch]) Ag.o rfl (by simp[Value.cells]) (a0I (by simp[Value.cells]))) ?_
  refine go 1 ?_
  refine a0D rfl Hb.o rfl (o0P hc hf) gSp ?_
  refine ns ?_
  refine go 12 ?_
  refine c0C rfl (by simpa using (by omega: ¬((i:Int)<0))) ?_
  refine go 3 ?_
  refine a0F (b0T (v:= .slice (some ⟨b,o,none⟩) c.l.length cap) Sc.o rfl (by rw[hlv];rfl)) ?_
  refine go 3 ?_
  refine a0F (y0I Sc.o rfl gFd hmem hon) ?_
  refine go 3 ?_
  refine b0C rfl (fun hb20=> ?_) (fun hb20=> ?_)
  ·rw[if_pos hb20]
   refine go 2 ?_
   refine a0F (a0O (v:= #[c.lv,.int .i64 c.next,.int .i64 c.bits,.int .i64 c.epoch]) Ag.o rfl (by simp[Value.cells]) (a0I (by simp[Value.cells]))) ?_
   refine a0K Sz.o rfl rfl rfl (fun u hu=>hone u (by simpa [a0P] using hu)) (by simp[Value.cells,a0P,b0A]) (a0R (by simp[Value.cells,a0P,b0A])) ?_
   refine go 3 ?_
   exact c0W (x:=((H,c):b0J×Rx)) (g0F hc) (fun _ _ h=>h) (RV.agg Ag.o rfl (by simp[a0P]) (by rfl) (RV.tmp rfl RV.nil)) rfl gSp
  ·rw[if_neg (by rw[hb20];decide)]
   refine go 5 ?_
   rw[hds]
   refine go 4 ?_
   refine b0C rfl (fun hb28=> ?_) (fun hb28=> ?_)
   ·rw[if_pos (by have h: ¬((data.length:Int)%64=0):=(by simpa using hb28);omega)]
    refine go 2 ?_
    refine a0F (a0O (v:= #[c.lv,.int .i64 c.next,.int .i64 c.bits,.int .i64 c.epoch]) Ag.o rfl (by simp[Value.cells]) (a0I (by simp[Value.cells]))) ?_
    refine a0K Sz.o rfl rfl rfl (fun u hu=>hone u (by simpa [a0P] using hu)) (by simp[Value.cells,a0P,b0A]) (a0R (by simp[Value.cells,a0P,b0A])) ?_
    refine go 3 ?_
    exact c0W (x:=((H,c):b0J×Rx)) (g0F hc) (fun _ _ h=>h) (RV.agg Ag.o rfl (by simp[a0P]) (by rfl) (RV.tmp rfl RV.nil)) rfl gSp
   ·have hw:data.length%64=0:=by have h:(data.length:Int)%64=0:=(by simpa using hb28);omega
    rw[if_neg (by omega)]
    refine go 3 ?_
    refine a0F (b0T (v:= .slice (some ⟨b,o,none⟩) c.l.length cap) Sc.o rfl (by rw[hlv];rfl)) ?_
    refine go 2 ?_
    refine a0F (f0A (vs:=b0A c.l[i]) Ag.o rfl gFd hmem hcu rfl (by decide)) ?_
    refine go 4 ?_
    rw[hds,show(data.length:Int)/64=((data.length/64:Nat):Int) by omega]
    refine a0D rfl Hb.o rfl (x0L c.l[i] at_ ((data.length/64:Nat):Int) hsi) gSp ?_
    refine ns ?_
    refine go 3 ?_
    refine b0C rfl (fun hb34=> ?_) (fun hb34=> ?_)
    ·rw[if_pos hb34]
     refine go 2 ?_
     refine a0F (a0O (v:= #[c.lv,.int .i64 c.next,.int .i64 c.bits,.int .i64 c.epoch]) Ag.o rfl (by simp[Value.cells]) (a0I (by simp[Value.cells]))) ?_
     refine a0K Sz.o rfl rfl rfl (fun u hu=>hone u (by simpa [a0P] using hu)) (by simp[Value.cells,a0P,b0A]) (a0R (by simp[Value.cells,a0P,b0A])) ?_
     refine go 3 ?_
     exact c0W (x:=((H,c):b0J×Rx)) (g0F hc) (fun _ _ h=>h) (RV.agg Ag.o rfl (by simp[a0P]) (by rfl) (RV.tmp rfl RV.nil)) rfl gSp
    ·have hgd:=g1K hb34
     rw[if_neg (by rw[hb34];decide)]
     skip
     refine go 4 ?_
     refine a0F (a0O (v:= #[c.lv,.int .i64 c.next,.int .i64 c.bits,.int .i64 c.epoch]) Ag.o rfl (by simp[Value.cells]) (a0I (by simp[Value.cells]))) ?_
     refine go 3 ?_
     refine a0W rfl Hb.o rfl ((by have h:=t0V H c i at_.toNat data.length data hc hil hbits (by omega) hw (Nat.le_refl _);rw[Int.toNat_of_nonneg hgd.1]at h;exact h)) gSp ?_
     rintro⟨H2,c2⟩ ⟨hs2,hc2,hr2⟩
     refine ns ?_
     refine go 3 ?_
     refine(a0U Zr.o (fun b11=> ?_))
     refine a0K Sz.o rfl rfl rfl (fun u hu=>c0N hc2 u (by simpa using hu)) (by simp[Value.cells,a0P,b0A]) (a0R (by simp[Value.cells,a0P,b0A])) ?_
     refine go 10 ?_
     refine b0C rfl (fun hb55=> ?_) (fun hb55=> ?_)
     ·rw[if_pos (by simpa using hb55)]
      refine go 2 ?_
      refine a0F (a0O (v:= #[c.lv,.int .i64 c.next,.int .i64 c.bits,.int .i64 c.epoch]) Ag.o rfl (by simp[Value.cells]) (a0I (by simp[Value.cells]))) ?_
      refine go 1 ?_
      refine a0K Sz.o rfl rfl rfl (fun u hu=>hone u (by simpa [a0P] using hu)) (by simp[Value.cells,a0P,b0A]) (a0R (by simp[Value.cells,a0P,b0A])) ?_
      refine go 3 ?_
      exact c0W (x:=((H2,{c with lv:=c.lv}):b0J×Rx)) ⟨hs2,hc.more hs2,rfl⟩ (fun _ _ h=>h) (RV.agg Ag.o rfl (by simp[a0P]) (by rfl) (RV.tmp rfl RV.nil)) rfl gSp
     ·rw[if_neg (by simpa using hb55)]
      refine go 4 ?_
      refine a0F (a0O (v:=(a0P c2).toArray) Ag.o rfl (by simp[Value.cells,a0P]) (a0I (by simp[Value.cells,a0P]))) ?_
      refine a0K Sz.o rfl rfl rfl (fun u hu=>c0N hc2 u (by simpa using hu)) (by simp[Value.cells,a0P,b0A]) (a0R (by simp[Value.cells,a0P,b0A])) ?_
      refine go 3 ?_
      exact c0W (x:=((H2,c2):b0J×Rx)) ⟨hs2,hc2,hr2⟩ (fun _ _ h=>h) (RV.agg Ag.o rfl (by simp[a0P]) (by rfl) (RV.tmp rfl RV.nil)) rfl gSp
end
section
theorem p0Y (i:Nat): ∀(k:Nat) (c:Rp) (at_:Nat) (d:B),(d0L i k c at_ d).1.l.length=c.l.length∧(d0L i k c at_ d).1.bits=c.bits∧(d0L i k c at_ d).1.next=c.next∧(d0L i k c at_ d).1.epoch=c.epoch
 |0,c,_,_=>⟨rfl,rfl,rfl,rfl⟩
 |k+1,c,at_,d=>by
  rw[d0L]
  split
  ·exact⟨rfl,rfl,rfl,rfl⟩
  ·simp only
   split
   ·exact⟨rfl,rfl,rfl,rfl⟩
   ·obtain⟨h1,h2,h3,h4⟩:=p0Y i k (d0R c i (j0O (c.l.getD i v0).m (at_/4:Nat) (a1L (g0R (at_/4:Nat) (c.l.getD i v0).m) d (at_%4*64) (min d.length (256-at_%4*64))))) (at_+min d.length (256-at_%4*64)/64) (d.drop (min d.length (256-at_%4*64)))
    exact⟨h1.trans (by unfold d0R;simp),h2,h3,h4⟩
theorem l2M {P:Rp} {i f u:Nat} (h:u/4≤(f+3)/4):e0C P i f u=d0L i ((u-f)*64) P f (a0T ((u-f)*64)):=by
 unfold e0C;simp only;rw[if_pos h]
theorem s2A {P:Rp} {i f u a b:Nat} (ha:a=(f+3)/4) (hb:b=u/4) (h: ¬b≤a) {r:Rp×Int} (hr:r=d0L i ((4*a-f)*64) P f (a0T ((4*a-f)*64))):e0C P i f u=if r.2≠0 then(P,r.2)else
 let x:=d0R r.1 i (g0Q (r.1.l.getD i v0).m a b)
 let y:=d0L i ((u-4*b)*64) x (4*b) (a0T ((u-4*b)*64))
 if y.2≠0 then(P,y.2)else(y.1,0):=by
 subst ha hb hr
 unfold e0C;simp only;rw[if_neg h]
theorem i0U (n:Nat):(a0T n).length=n:=by simp[a0T]
theorem w0O (n:Nat) (hn:n≤10000):a0S Tryz.prog 171 #[.int .i64 n] [] (b0G (b0H (a0T (n*64))) []):=by
 rw[Nat.mul_comm];exact v1H n hn
attribute [local irreducible] Sl.a0L Sl.OW Sl.CW Sl.OS Sl.OM Sl.OMf Sl.KM
theorem b1C (H:b0J) (c:Rx) (i f u:Nat) (hc:d0M H c) (hi:i<c.l.length) (hbits:c.bits≤256) (hfu:f≤u) (hu:u≤2048):
 a0S Tryz.prog 125 #[e0X c,.int .i64 i,.int .i64 f,.int .i64 u] [c0Q H]
 (c0X (w0N H (e0C (er c) i f u).1) (l1H (e0C (er c) i f u).2) (fun x=> [c0Q x.1])):=by
 obtain⟨a,ha⟩: ∃a,a=(f+3)/4:=⟨_,rfl⟩
 obtain⟨b,hb⟩: ∃b,b=u/4:=⟨_,rfl⟩
 have hone:=c0N hc
 by_cases hba:b≤a
 ·rw[l2M (by omega)]
  refine a0C Tryz.func125 rfl Tryz.ntmps125 rfl (fun R w0=> ?_)
  simp only[a0N,List.cons_append,List.nil_append,e0X]
  refine go 2 ?_
  refine(a0X rfl (fun b4=> ?_))
  refine(a0U Zr.o (fun b8=> ?_))
  refine go 10 ?_
  rw[show((f:Int)+3)/4=(a:Int) by omega,show(u:Int)/4=(b:Int) by omega]
  refine go 12 ?_
  refine d0W rfl (by simpa using (by omega:(b:Int)≤(a:Int))) ?_
  refine go 1 ?_
  refine d0H (.soft 0 (.soft 1 (.soft 2 (.soft 3 (.soft 4 (.soft 5 (.hard 6 (.hard 7 (.soft 8 (.soft 9 (.hard 10 (.soft 11 .done)))))))))))) [u0L b4 c] Fol.o (by kernel_rfl) (by repeat (first|with_reducible exact a0J.bp|with_reducible apply a0J.then|with_reducible apply a0J.inBlock)) gSp ?_
  refine d0D rfl (a0O (v:=(a0P c).toArray) Ag.o rfl (by simp[Value.cells,a0P]) (a0I (by simp[Value.cells,a0P]))) ?_
  refine go 6 ?_
  refine a0D rfl Hb.o rfl ((by have h:=w0O (u-f) (by omega);rw[show((u-f:Nat):Int)=(u:Int)- (f:Int) by omega]at h;exact h)) gSp ?_
  refine ns ?_
  refine go 3 ?_
  refine a0W rfl Hb.o rfl (t0V H c i f ((u-f)*64) (a0T ((u-f)*64)) hc hi hbits (by rw[i0U];omega) (by rw[i0U];omega) (by rw[i0U];exact Nat.le_refl _)) gSp ?_
  rintro⟨H2,c2⟩ ⟨hs2,hc2,hr2⟩
  refine ns ?_
  refine go 5 ?_
  refine a0K Sz.o rfl rfl rfl (fun u hu=>c0N hc2 u (by simpa using hu)) (by simp[Value.cells,a0P,b0A]) (a0R (by simp[Value.cells,a0P,b0A])) ?_
  refine go 5 ?_
  exact c0W (x:=((H2,c2):b0J×Rx)) ⟨hs2,hc2,hr2⟩ (fun _ _ h=>h) (RV.agg Ag.o rfl (by simp[a0P]) (by rfl) (RV.tmp rfl RV.nil)) rfl gSp
 ·obtain⟨r,hr⟩: ∃r,r=d0L i ((4*a-f)*64) (er c) f (a0T ((4*a-f)*64)):=⟨_,rfl⟩
  have n0O:=p0Y i ((4*a-f)*64) (er c) f (a0T ((4*a-f)*64))
  rw[←hr]at n0O
  rw[s2A ha hb hba hr]
  refine a0C Tryz.func125 rfl Tryz.ntmps125 rfl (fun R w0=> ?_)
  simp only[a0N,List.cons_append,List.nil_append,e0X]
  refine go 2 ?_
  refine(a0X rfl (fun b4=> ?_))
  refine(a0U Zr.o (fun b8=> ?_))
  refine go 10 ?_
  rw[show((f:Int)+3)/4=(a:Int) by omega,show(u:Int)/4=(b:Int) by omega]
  refine go 12 ?_
  refine c0C rfl (by simpa using (by omega:(a:Int)<(b:Int))) ?_
  refine go 3 ?_
  refine l0G (.soft 0 (.soft 1 (.soft 2 (.soft 3 (.soft 4 (.soft 5 (.soft 6 (.float 12 (.hard 7 (.hard 8 (.soft 9 (.soft 10 (.soft 11 (.res (.hard 13 (.soft 14 .done)))))))))))))))) [u0L b4 c] Fol.o (by kernel_rfl) (by repeat (first|with_reducible exact a0J.bp|with_reducible apply a0J.then|with_reducible apply a0J.inBlock)) gSp ?_
  refine i0A rfl (a0O (v:=(a0P c).toArray) Ag.o rfl (by simp[Value.cells,a0P]) (a0I (by simp[Value.cells,a0P]))) ?_
  refine go 6 ?_
  refine k0O (e0:= []) rfl gSu (fun _ _ _=>rfl) Zr.o rfl ?_
  refine c0H rfl (fun hok EE FF=> ?_)
  simp only[List.cons_append,List.nil_append]
  refine a0D rfl Hb.o rfl ((by have h:=w0O (4*a-f) (by omega);rw[show((4*a-f:Nat):Int)=4*(a:Int)- (f:Int) by omega]at h;exact h)) gSp ?_
  refine ns ?_
  refine go 1 ?_
  refine c0G (E:=EE) (F:=FF) (by repeat (first|exact Tl.nil|apply Tl.cons)) gFd gSp (hok.put rfl) ?_
  refine c0H rfl (fun hok EE FF=> ?_)
  simp only[List.cons_append,List.nil_append]
  refine a0W rfl Hb.o rfl ((by have h:=t0V H c i f ((4*a-f)*64) (a0T ((4*a-f)*64)) hc hi hbits (by rw[i0U];omega) (by rw[i0U];omega) (by rw[i0U];exact Nat.le_refl _);rw[←hr]at h;exact h)) gSp ?_
  rintro⟨H2,c2⟩ ⟨hs2,hc2,hr2⟩
  refine ns ?_
  refine go 1 ?_
  refine c0G (E:=EE) (F:=FF) (by repeat (first|exact Tl.nil|apply Tl.cons)) gFd gSp (hok.put rfl) ?_
  refine go 3 ?_
  refine m0B (fun b12=> ?_)
  dsimp only
  refine c0H rfl (fun hok EE FF=> ?_)
  simp only[List.cons_append,List.nil_append]
  refine a0K Sz.o rfl rfl rfl (fun u hu=>c0N hc2 u (by simpa using hu)) (by simp[Value.cells,a0P,b0A]) (a0R (by simp[Value.cells,a0P,b0A])) ?_
  refine go 1 ?_
  refine c0G (E:=EE) (F:=FF) (by repeat (first|exact Tl.nil|apply Tl.cons)) gFd gSp hok ?_
  refine go 10 ?_
  refine b0C rfl (fun hb48=> ?_) (fun hb48=> ?_)
  ·rw[if_pos (by simpa using hb48)]
   refine go 2 ?_
   refine a0F (a0O (v:=(a0P c).toArray) Ag.o rfl (by simp[Value.cells,a0P]) (a0I (by simp[Value.cells,a0P]))) ?_
   refine go 1 ?_
   refine a0K Sz.o rfl rfl rfl (fun u hu=>hone u (by simpa using hu)) (by simp[Value.cells,a0P,b0A]) (a0R (by simp[Value.cells,a0P,b0A])) ?_
   refine go 3 ?_
   exact c0W (x:=((H2,c):b0J×Rx)) ⟨hs2,hc.more hs2,rfl⟩ (fun _ _ h=>h) (RV.agg Ag.o rfl (by simp[a0P]) (by rfl) (RV.tmp rfl RV.nil)) rfl gSp
  ·rw[if_neg (by simpa using hb48)]
   dsimp only at hs2 hc2 hr2 ⊢
   have hi2:i<c2.l.length:=by have h:=n0O.1;rw[←hr2]at h;simp only[er,List.length_map]at h;omega
   have hb2:c2.bits≤256:=by have h:=n0O.2.1;rw[←hr2]at h;simp only[er]at h;omega
   obtain⟨p,cap,hlv,hcap⟩:=e0E hc2.vols
   have hrow:=hc2.vols
   rw[hlv]at hrow
   have hfew:=hc2.few
   obtain⟨bb,o,cap',cur,hv,hcp,hmem,hcut,hlen⟩:=g0E hrow (by omega)
   cases hv
   have hcu:(cur.drop (o+i*6)).take 6=b0A c2.l[i]:=(h0J hcut hi2).trans (l0N c2.l hi2)
   have hvi:=hc2.maps _ (List.getElem_mem hi2)
   have hml:=hvi.2.len
   rw[←hr2,m0U hi2]
   refine go 5 ?_
   refine a0F (b0T (v:= .slice (some ⟨bb,o,none⟩) c2.l.length cap) Sc.o rfl (by exact congrArg some hlv)) ?_
   refine go 2 ?_
   refine a0F (f0A (vs:=b0A c2.l[i]) Ag.o rfl gFd hmem hcu rfl (by decide)) ?_
   refine(a0U Zr.o (fun b14=> ?_))
   refine a0K Sz.o rfl rfl rfl (fun u hu=>o0O hvi u (by simpa using hu)) (by simp[Value.cells,a0P,b0A]) (a0R (by simp[Value.cells,a0P,b0A])) ?_
   refine go 8 ?_
   refine a0W rfl Hb.o rfl (o1H H2 c2.l[i].mv c2.l[i].v.m a b hvi.1 (by omega)) gSp ?_
   rintro v60 _
   refine ns ?_
   refine n1O (show Fnd _ (s0M v60 (g0Q c2.l[i].v.m a b)) _ from gFd) fun hv60=> ?_
   refine go 5 ?_
   refine s0D (show Fnd _ (s0M v60 (g0Q c2.l[i].v.m a b)) _ from gFd) (show Fnd _ (c0Q H2) _ from gFd) fun H3 hs3 hr3=> ?_
   obtain⟨v2,hv2⟩: ∃v2:Vx,v2= {v:= {c2.l[i].v with m:=g0Q c2.l[i].v.m a b},mv:=v60} :=⟨_,rfl⟩
   have hm2:m0N H3 v2:=by rw[hv2];exact⟨hr3,hvi.2.clear _ _⟩
   refine go 1 ?_
   refine a0F (a0O (v:=(a0P c2).toArray) Ag.o rfl (by simp[Value.cells,a0P]) (a0I (by simp[Value.cells,a0P]))) ?_
   refine go 1 ?_
   refine a0F (a0O (v:=(b0A v2).toArray) Ag.o rfl (by simp[Value.cells,b0A]) (by rw[hv2];rfl)) ?_
   refine a0W rfl Hb.o rfl (a1O H3 c2 i v2 (hc2.more hs3) hm2 hi2) gSp ?_
   rintro⟨H4,c4⟩ ⟨hs4,hc4,hr4⟩
   refine ns ?_
   refine a0K Sz.o rfl rfl rfl (fun u hu=>c0N hc4 u (by simpa using hu)) (by simp[Value.cells,a0P,b0A]) (a0R (by simp[Value.cells,a0P,b0A])) ?_
   refine go 3 ?_
   dsimp only at hs4 hc4 hr4
   have hr5:er c4=d0R (er c2) i (g0Q c2.l[i].v.m a b):=y1H (mv:=v60) hi2 (by rw[hr4,hv2])
   have hl4:c4.l.length=c2.l.length:=by have h:=congrArg (fun x:Rp=>x.l.length) hr5;simpa [er,d0R] using h
   have hb4:c4.bits=c2.bits:=congrArg (fun x:Rp=>x.bits) hr5
   rw[←hr5]
   refine l0G (.soft 0 (.soft 1 (.soft 2 (.soft 3 (.soft 4 (.soft 5 (.soft 6 (.soft 7 (.float 13 (.hard 8 (.hard 9 (.soft 10 (.soft 11 (.soft 12 (.res (.hard 14 (.soft 15 .done))))))))))))))))) [u0L b12 c4] Fol.o (by kernel_rfl) (by repeat (first|with_reducible exact a0J.bp|with_reducible apply a0J.then|with_reducible apply a0J.inBlock)) gSp ?_
   refine i0A rfl (a0O (v:=(a0P c4).toArray) Ag.o rfl (by simp[Value.cells,a0P]) (a0I (by simp[Value.cells,a0P]))) ?_
   refine go 7 ?_
   refine k0O (e0:= []) rfl gSu (fun _ _ _=>rfl) Zr.o rfl ?_
   refine c0H rfl (fun hok EE FF=> ?_)
   simp only[List.cons_append,List.nil_append]
   refine a0D rfl Hb.o rfl ((by have h:=w0O (u-4*b) (by omega);rw[show((u-4*b:Nat):Int)=(u:Int)-4*(b:Int) by omega]at h;exact h)) gSp ?_
   refine ns ?_
   refine go 1 ?_
   refine c0G (E:=EE) (F:=FF) (by repeat (first|exact Tl.nil|apply Tl.cons)) gFd gSp (hok.put rfl) ?_
   refine c0H rfl (fun hok EE FF=> ?_)
   simp only[List.cons_append,List.nil_append]
   refine a0W rfl Hb.o rfl ((by have h:=t0V H4 c4 i (4*b) ((u-4*b)*64) (a0T ((u-4*b)*64)) hc4 (by omega) (by omega) (by rw[i0U];omega) (by rw[i0U];omega) (by rw[i0U];exact Nat.le_refl _);rw[show((4*b:Nat):Int)=4*(b:Int) by omega]at h;exact h)) gSp ?_
   rintro⟨H6,c6⟩ ⟨hs6,hc6,hr6⟩
   refine ns ?_
   refine go 1 ?_
   refine c0G (E:=EE) (F:=FF) (by repeat (first|exact Tl.nil|apply Tl.cons)) gFd gSp (hok.put rfl) ?_
   refine go 3 ?_
   refine m0B (fun b15=> ?_)
   dsimp only
   refine c0H rfl (fun hok EE FF=> ?_)
   simp only[List.cons_append,List.nil_append]
   refine a0K Sz.o rfl rfl rfl (fun u hu=>c0N hc6 u (by simpa using hu)) (by simp[Value.cells,a0P,b0A]) (a0R (by simp[Value.cells,a0P,b0A])) ?_
   refine go 1 ?_
   refine c0G (E:=EE) (F:=FF) (by repeat (first|exact Tl.nil|apply Tl.cons)) gFd gSp hok ?_
   refine go 10 ?_
   refine b0C rfl (fun hb80=> ?_) (fun hb80=> ?_)
   ·rw[if_pos (by simpa using hb80)]
    refine go 2 ?_
    refine a0F (a0O (v:=(a0P c).toArray) Ag.o rfl (by simp[Value.cells,a0P]) (a0I (by simp[Value.cells,a0P]))) ?_
    refine go 1 ?_
    refine a0K Sz.o rfl rfl rfl (fun u hu=>hone u (by simpa using hu)) (by simp[Value.cells,a0P,b0A]) (a0R (by simp[Value.cells,a0P,b0A])) ?_
    refine go 3 ?_
    exact c0W (x:=((H6,c):b0J×Rx)) ⟨fun q h=>hs6 q (hs4 q (hs3 q (hs2 q h))),hc.more (fun q h=>hs6 q (hs4 q (hs3 q (hs2 q h)))),rfl⟩ (fun _ _ h=>h) (RV.agg Ag.o rfl (by simp[a0P]) (by rfl) (RV.tmp rfl RV.nil)) rfl gSp
   ·rw[if_neg (by simpa using hb80)]
    refine go 4 ?_
    refine a0F (a0O (v:=(a0P c6).toArray) Ag.o rfl (by simp[Value.cells,a0P]) (a0I (by simp[Value.cells,a0P]))) ?_
    refine a0K Sz.o rfl rfl rfl (fun u hu=>c0N hc6 u (by simpa using hu)) (by simp[Value.cells,a0P,b0A]) (a0R (by simp[Value.cells,a0P,b0A])) ?_
    refine go 3 ?_
    exact c0W (x:=((H6,c6):b0J×Rx)) ⟨fun q h=>hs6 q (hs4 q (hs3 q (hs2 q h))),hc6,hr6⟩ (fun _ _ h=>h) (RV.agg Ag.o rfl (by simp[a0P]) (by rfl) (RV.tmp rfl RV.nil)) rfl gSp
end
section
theorem b2O {P:Rp} {id at_ n:Int} (h:d0E P.l id=none):m0M P id at_ n=(P,5):=by unfold m0M;rw[h]
theorem b2P {c:Rx} {i:Nat} {id at_ n:Int} (h:d0E (er c).l id=some i) (hi:i<c.l.length):m0M (er c) id at_ n=(if c.l[i].v.only then(er c,7)else if o0A c.l[i].v at_ n then(er c,6)else e0C (er c) i at_.toNat (at_+n).toNat):=by
 unfold m0M;rw[h];simp only[m0U hi]
attribute [local irreducible] Sl.a0L Sl.OW Sl.CW Sl.OS Sl.OM Sl.OMf Sl.KM
theorem b2Q (H:b0J) (c:Rx) (id at_ n:Int) (hc:d0M H c) (hsz:x0M (er c)) (hbits:c.bits≤256):a0S Tryz.prog 78 #[e0X c,.int .i64 id,.int .i64 at_,.int .i64 n] [c0Q H]
 (c0X (w0N H (m0M (er c) id at_ n).1) (l1H (m0M (er c) id at_ n).2) (fun x=> [c0Q x.1])):=by
 have hone:=c0N hc
 obtain⟨p,cap,hlv,hcap⟩:=e0E hc.vols
 have hrow:=hc.vols
 rw[hlv]at hrow
 have hfew:=hc.few
 cases hf:d0E (er c).l id with
 |none=>
  rw[b2O hf]
  refine a0C Tryz.func78 rfl Tryz.ntmps78 rfl (fun R w0=> ?_)
  simp only[a0N,List.cons_append,List.nil_append,e0X]
  refine go 2 ?_
  refine(a0X rfl (fun b4=> ?_))
  refine(a0U Zr.o (fun b8=> ?_))
  refine go 5 ?_
  refine a0F (a0O (v:=(a0P c).toArray) Ag.o rfl (by simp[Value.cells,a0P]) (a0I (by simp[Value.cells,a0P]))) ?_
  refine go 1 ?_
  refine a0D rfl Hb.o rfl (q0I hc hf) gSp ?_
  refine ns ?_
  refine go 15 ?_
  refine a0F (a0O (v:=(a0P c).toArray) Ag.o rfl (by simp[Value.cells,a0P]) (a0I (by simp[Value.cells,a0P]))) ?_
  refine a0K Sz.o rfl rfl rfl (fun u hu=>hone u (by simpa using hu)) (by simp[Value.cells,a0P,b0A]) (a0R (by simp[Value.cells,a0P,b0A])) ?_
  refine go 3 ?_
  exact c0W (x:=((H,c):b0J×Rx)) (g0F hc) (fun _ _ h=>h) (RV.agg Ag.o rfl (by simp[a0P]) (by rfl) (RV.tmp rfl RV.nil)) rfl gSp
 |some i=>
  have hil:i<c.l.length:=by have:=t0H hf;simpa [er] using this
  obtain⟨b,o,cap',cur,hv,hcp,hmem,hcut,hlen⟩:=g0E hrow (by omega)
  cases hv
  have hcu:(cur.drop (o+i*6)).take 6=b0A c.l[i]:=(h0J hcut hil).trans (l0N c.l hil)
  have hon:nth cur (o+i*6+2)=some (.bool c.l[i].v.only):=by
   rw[e0L]
   have h:=congrArg (fun l:List Value=>l[2]?) hcu
   simpa [List.getElem?_take,List.getElem?_drop,b0A] using h
  have hvi:=hc.maps _ (List.getElem_mem hil)
  have hsi:=hsz.at_ hil
  rw[b2P hf hil]
  refine a0C Tryz.func78 rfl Tryz.ntmps78 rfl (fun R w0=> ?_)
  simp only[a0N,List.cons_append,List.nil_append,e0X]
  refine go 2 ?_
  refine(a0X rfl (fun b4=> ?_))
  refine(a0U Zr.o (fun b8=> ?_))
  refine go 5 ?_
  refine a0F (a0O (v:=(a0P c).toArray) Ag.o rfl (by simp[Value.cells,a0P]) (a0I (by simp[Value.cells,a0P]))) ?_
  refine go 1 ?_
  refine a0D rfl Hb.o rfl (o0P hc hf) gSp ?_
  refine ns ?_
  refine go 12 ?_
  refine c0C rfl (by simpa using (by omega: ¬((i:Int)<0))) ?_
  refine go 3 ?_
  refine a0F (b0T (v:= .slice (some ⟨b,o,none⟩) c.l.length cap) Sc.o rfl (by exact congrArg some hlv)) ?_
  refine go 3 ?_
  refine a0F (y0I Sc.o rfl gFd hmem hon) ?_
  refine go 3 ?_
  refine b0C rfl (fun hb18=> ?_) (fun hb18=> ?_)
  ·rw[if_pos hb18]
   refine go 2 ?_
   refine a0F (a0O (v:=(a0P c).toArray) Ag.o rfl (by simp[Value.cells,a0P]) (a0I (by simp[Value.cells,a0P]))) ?_
   refine a0K Sz.o rfl rfl rfl (fun u hu=>hone u (by simpa using hu)) (by simp[Value.cells,a0P,b0A]) (a0R (by simp[Value.cells,a0P,b0A])) ?_
   refine go 3 ?_
   exact c0W (x:=((H,c):b0J×Rx)) (g0F hc) (fun _ _ h=>h) (RV.agg Ag.o rfl (by simp[a0P]) (by rfl) (RV.tmp rfl RV.nil)) rfl gSp
  ·rw[if_neg (by rw[hb18];decide)]
   refine go 3 ?_
   refine a0F (b0T (v:= .slice (some ⟨b,o,none⟩) c.l.length cap) Sc.o rfl (by exact congrArg some hlv)) ?_
   refine go 2 ?_
   refine a0F (f0A (vs:=b0A c.l[i]) Ag.o rfl gFd hmem hcu rfl (by decide)) ?_
   refine go 2 ?_
   refine a0D rfl Hb.o rfl (x0L c.l[i] at_ n hsi) gSp ?_
   refine ns ?_
   refine go 3 ?_
   refine b0C rfl (fun hb26=> ?_) (fun hb26=> ?_)
   ·rw[if_pos hb26]
    refine go 2 ?_
    refine a0F (a0O (v:=(a0P c).toArray) Ag.o rfl (by simp[Value.cells,a0P]) (a0I (by simp[Value.cells,a0P]))) ?_
    refine a0K Sz.o rfl rfl rfl (fun u hu=>hone u (by simpa using hu)) (by simp[Value.cells,a0P,b0A]) (a0R (by simp[Value.cells,a0P,b0A])) ?_
    refine go 3 ?_
    exact c0W (x:=((H,c):b0J×Rx)) (g0F hc) (fun _ _ h=>h) (RV.agg Ag.o rfl (by simp[a0P]) (by rfl) (RV.tmp rfl RV.nil)) rfl gSp
   ·have hgd:=g1K hb26
    rw[if_neg (by rw[hb26];decide)]
    refine go 4 ?_
    refine a0F (a0O (v:=(a0P c).toArray) Ag.o rfl (by simp[Value.cells,a0P]) (a0I (by simp[Value.cells,a0P]))) ?_
    refine go 5 ?_
    refine a0W rfl Hb.o rfl ((by have h:=b1C H c i at_.toNat (at_+n).toNat hc hil hbits (by omega) (by omega);rw[Int.toNat_of_nonneg hgd.1,Int.toNat_of_nonneg (by omega:0≤at_+n)]at h;exact h)) gSp ?_
    rintro⟨H2,c2⟩ ⟨hs2,hc2,hr2⟩
    refine ns ?_
    refine go 2 ?_
    refine a0K Sz.o rfl rfl rfl (fun u hu=>c0N hc2 u (by simpa using hu)) (by simp[Value.cells,a0P,b0A]) (a0R (by simp[Value.cells,a0P,b0A])) ?_
    refine go 3 ?_
    exact c0W (x:=((H2,c2):b0J×Rx)) ⟨hs2,hc2,hr2⟩ (fun _ _ h=>h) (RV.agg Ag.o rfl (by simp[a0P]) (by rfl) (RV.tmp rfl RV.nil)) rfl gSp
theorem s1E {P:Rp} {id n:Int} (h:d0E P.l id=none):h0R P id n=(P,5):=by unfold h0R;rw[h]
theorem s1F {c:Rx} {i:Nat} {id size:Int} (h:d0E (er c).l id=some i) (hi:i<c.l.length) {r:Rp×Int} (hr:r=if size<c.l[i].v.size then e0C (er c) i size.toNat c.l[i].v.size.toNat else(er c,0)):h0R (er c) id size=(if c.l[i].v.only then(er c,7)else if size<1∨2048<size then(er c,4)else
 if r.2≠0 then(er c,r.2)else({r.1 with l:=r.1.l.set i {r.1.l.getD i v0 with size:=size}},0)):=by
 subst hr
 unfold h0R;rw[h];simp only[m0U hi]
theorem y0U (i f u:Nat) (c:Rp):(e0C c i f u).1.l.length=c.l.length∧(e0C c i f u).1.bits=c.bits∧(e0C c i f u).1.next=c.next∧(e0C c i f u).1.epoch=c.epoch:=by
 unfold e0C
 simp only
 split
 ·exact p0Y _ _ _ _ _
 ·split
  ·exact⟨rfl,rfl,rfl,rfl⟩
  ·split
   ·exact⟨rfl,rfl,rfl,rfl⟩
   ·obtain⟨h1,h2,h3,h4⟩:=p0Y i ((4*((f+3)/4)-f)*64) c f (a0T ((4*((f+3)/4)-f)*64))
    obtain⟨g1,g2,g3,g4⟩:=p0Y i ((u-4*(u/4))*64) (d0R (d0L i ((4*((f+3)/4)-f)*64) c f (a0T ((4*((f+3)/4)-f)*64))).1 i (g0Q ((d0L i ((4*((f+3)/4)-f)*64) c f (a0T ((4*((f+3)/4)-f)*64))).1.l.getD i v0).m ((f+3)/4:Nat) (u/4:Nat))) (4*(u/4)) (a0T ((u-4*(u/4))*64))
    exact⟨g1.trans (by unfold d0R;simpa using h1),g2.trans h2,g3.trans h3,g4.trans h4⟩
theorem s1G (H:b0J) (c:Rx) (id size:Int) (hc:d0M H c) (hsz:x0M (er c)) (hbits:c.bits≤256):a0S Tryz.prog 76 #[e0X c,.int .i64 id,.int .i64 size] [c0Q H]
 (c0X (w0N H (h0R (er c) id size).1) (l1H (h0R (er c) id size).2) (fun x=> [c0Q x.1])):=by
 have hone:=c0N hc
 obtain⟨p,cap,hlv,hcap⟩:=e0E hc.vols
 have hrow:=hc.vols
 rw[hlv]at hrow
 have hfew:=hc.few
 cases hf:d0E (er c).l id with
 |none=>
  rw[s1E hf]
  refine a0C Tryz.func76 rfl Tryz.ntmps76 rfl (fun R w0=> ?_)
  simp only[a0N,List.cons_append,List.nil_append,e0X]
  refine go 2 ?_
  refine(a0X rfl (fun b3=> ?_))
  refine(a0U Zr.o (fun b6=> ?_))
  refine go 5 ?_
  refine a0F (a0O (v:=(a0P c).toArray) Ag.o rfl (by simp[Value.cells,a0P]) (a0I (by simp[Value.cells,a0P]))) ?_
  refine go 1 ?_
  refine a0D rfl Hb.o rfl (q0I hc hf) gSp ?_
  refine ns ?_
  refine go 15 ?_
  refine a0F (a0O (v:=(a0P c).toArray) Ag.o rfl (by simp[Value.cells,a0P]) (a0I (by simp[Value.cells,a0P]))) ?_
  refine a0K Sz.o rfl rfl rfl (fun u hu=>hone u (by simpa using hu)) (by simp[Value.cells,a0P,b0A]) (a0R (by simp[Value.cells,a0P,b0A])) ?_
  refine go 3 ?_
  exact c0W (x:=((H,c):b0J×Rx)) (g0F hc) (fun _ _ h=>h) (RV.agg Ag.o rfl (by simp[a0P]) (by rfl) (RV.tmp rfl RV.nil)) rfl gSp
 |some i=>
  have hil:i<c.l.length:=by have:=t0H hf;simpa [er] using this
  obtain⟨b,o,cap',cur,hv,hcp,hmem,hcut,hlen⟩:=g0E hrow (by omega)
  cases hv
  have hcu:(cur.drop (o+i*6)).take 6=b0A c.l[i]:=(h0J hcut hil).trans (l0N c.l hil)
  have hon:nth cur (o+i*6+2)=some (.bool c.l[i].v.only):=by
   rw[e0L]
   have h:=congrArg (fun l:List Value=>l[2]?) hcu
   simpa [List.getElem?_take,List.getElem?_drop,b0A] using h
  have hos:nth cur (o+i*6+3)=some (.int .i64 c.l[i].v.size):=by
   rw[e0L]
   have h:=congrArg (fun l:List Value=>l[3]?) hcu
   simpa [List.getElem?_take,List.getElem?_drop,b0A] using h
  have hvi:=hc.maps _ (List.getElem_mem hil)
  have hsi:=hsz.at_ hil
  obtain⟨r,hr⟩: ∃r,r=if size<c.l[i].v.size then e0C (er c) i size.toNat c.l[i].v.size.toNat else(er c,0):=⟨_,rfl⟩
  rw[s1F hf hil hr]
  refine a0C Tryz.func76 rfl Tryz.ntmps76 rfl (fun R w0=> ?_)
  simp only[a0N,List.cons_append,List.nil_append,e0X]
  refine go 2 ?_
  refine(a0X rfl (fun b3=> ?_))
  refine(a0U Zr.o (fun b6=> ?_))
  refine go 5 ?_
  refine a0F (a0O (v:=(a0P c).toArray) Ag.o rfl (by simp[Value.cells,a0P]) (a0I (by simp[Value.cells,a0P]))) ?_
  refine go 1 ?_
  refine a0D rfl Hb.o rfl (o0P hc hf) gSp ?_
  refine ns ?_
  refine go 3 ?_
  refine r0A (X:= {_x:Unit // c.l[i].v.only=false∧ ¬(size<1∨2048<size)}) (fun _=> [(1,.int .i64 id),(2,.int .i64 size),(3,.pointer (some ⟨b3,0,none⟩)),(6,.pointer (some ⟨b6,0,none⟩)),(7,.int .i64 0),(8,.int .i64 i)]) (fun _=> [u0L b3 c,pts b6 (.cells #[.slice none 0 0,.int .i64 0,.int .i64 0,.int .i64 0] 34 (0,0)),c0Q H,R]) ?_ ?_
  ·refine go 8 ?_
   refine c0C rfl (by simpa using (by omega: ¬((i:Int)<0))) ?_
   refine go 3 ?_
   refine a0F (b0T (v:= .slice (some ⟨b,o,none⟩) c.l.length cap) Sc.o rfl (by exact congrArg some hlv)) ?_
   refine go 3 ?_
   refine a0F (y0I Sc.o rfl gFd hmem hon) ?_
   refine go 3 ?_
   refine b0C rfl (fun hb20=> ?_) (fun hb20=> ?_)
   ·rw[if_pos hb20]
    refine go 2 ?_
    refine a0F (a0O (v:=(a0P c).toArray) Ag.o rfl (by simp[Value.cells,a0P]) (a0I (by simp[Value.cells,a0P]))) ?_
    refine a0K Sz.o rfl rfl rfl (fun u hu=>hone u (by simpa using hu)) (by simp[Value.cells,a0P,b0A]) (a0R (by simp[Value.cells,a0P,b0A])) ?_
    refine go 3 ?_
    exact c0W (x:=((H,c):b0J×Rx)) (g0F hc) (fun _ _ h=>h) (RV.agg Ag.o rfl (by simp[a0P]) (by rfl) (RV.tmp rfl RV.nil)) rfl gSp
   ·rw[if_neg (by rw[hb20];decide)]
    refine go 1 ?_
    by_cases hlt:size<1
    ·refine go 12 ?_
     rw[if_pos (.inl hlt)]
     refine go 1 ?_
     refine a0F (a0O (v:=(a0P c).toArray) Ag.o rfl (by simp[Value.cells,a0P]) (a0I (by simp[Value.cells,a0P]))) ?_
     refine a0K Sz.o rfl rfl rfl (fun u hu=>hone u (by simpa using hu)) (by simp[Value.cells,a0P,b0A]) (a0R (by simp[Value.cells,a0P,b0A])) ?_
     refine go 3 ?_
     exact c0W (x:=((H,c):b0J×Rx)) (g0F hc) (fun _ _ h=>h) (RV.agg Ag.o rfl (by simp[a0P]) (by rfl) (RV.tmp rfl RV.nil)) rfl gSp
    ·refine go 10 ?_
     refine b0C rfl (fun hb28=> ?_) (fun hb28=> ?_)
     ·refine go 1 ?_
      rw[if_pos (.inr (by simpa using hb28))]
      refine go 1 ?_
      refine a0F (a0O (v:=(a0P c).toArray) Ag.o rfl (by simp[Value.cells,a0P]) (a0I (by simp[Value.cells,a0P]))) ?_
      refine a0K Sz.o rfl rfl rfl (fun u hu=>hone u (by simpa using hu)) (by simp[Value.cells,a0P,b0A]) (a0R (by simp[Value.cells,a0P,b0A])) ?_
      refine go 3 ?_
      exact c0W (x:=((H,c):b0J×Rx)) (g0F hc) (fun _ _ h=>h) (RV.agg Ag.o rfl (by simp[a0P]) (by rfl) (RV.tmp rfl RV.nil)) rfl gSp
     ·refine go 1 ?_
      refine i0D (fun _ _ h=>h) (⟨(),hb20,fun h=>by have hb:=of_decide_eq_false hb28;omega⟩) gSu gSp
  rintro⟨_,hoo,hgo⟩
  refine go 1 ?_
  rw[if_neg (by rw[hoo];decide),if_neg hgo]
  refine go 1 ?_
  refine a0F (a0O (v:=(a0P c).toArray) Ag.o rfl (by simp[Value.cells,a0P]) (a0I (by simp[Value.cells,a0P]))) ?_
  refine(a0U Zr.o (fun b9=> ?_))
  refine a0K Sz.o rfl rfl rfl (fun u hu=>hone u (by simpa using hu)) (by simp[Value.cells,a0P,b0A]) (a0R (by simp[Value.cells,a0P,b0A])) ?_
  refine go 2 ?_
  refine r0A (X:= {x:b0J×Rx // (∀p∈H,p∈x.1)∧d0M x.1 x.2∧er x.2=r.1∧r.2=0}) (fun _=> [(1,.int .i64 id),(2,.int .i64 size),(3,.pointer (some ⟨b3,0,none⟩)),(6,.pointer (some ⟨b6,0,none⟩)),(7,.int .i64 0),(8,.int .i64 i),(9,.pointer (some ⟨b9,0,none⟩))]) (fun y=> [u0L b9 y.1.2,pts b6 (.cells #[.slice none 0 0,.int .i64 0,.int .i64 0,.int .i64 0] 34 (0,0)),c0Q y.1.1,R]) ?_ ?_
  ·refine go 4 ?_
   refine a0F (b0T (v:= .slice (some ⟨b,o,none⟩) c.l.length cap) Sc.o rfl (by exact congrArg some hlv)) ?_
   refine go 3 ?_
   refine a0F (y0I Sc.o rfl gFd hmem hos) ?_
   refine go 3 ?_
   refine b0C rfl (fun hb44=> ?_) (fun hb44=> ?_)
   ·have hlt:size<c.l[i].v.size:=by simpa using hb44
    rw[if_pos hlt]at hr
    refine go 1 ?_
    refine l0G (.soft 0 (.soft 1 (.soft 2 (.soft 3 (.soft 4 (.soft 5 (.soft 6 (.soft 7 (.float 13 (.hard 8 (.hard 9 (.soft 10 (.soft 11 (.soft 12 (.res (.hard 14 (.soft 15 .done))))))))))))))))) [u0L b3 c] Fol.o (by kernel_rfl) (by repeat (first|with_reducible exact a0J.bp|with_reducible apply a0J.then|with_reducible apply a0J.inBlock)) gSp ?_
    refine i0A rfl (a0O (v:=(a0P c).toArray) Ag.o rfl (by simp[Value.cells,a0P]) (a0I (by simp[Value.cells,a0P]))) ?_
    refine go 3 ?_
    refine i0A rfl (b0T (v:= .slice (some ⟨b,o,none⟩) c.l.length cap) Sc.o rfl (by exact congrArg some hlv)) ?_
    refine go 3 ?_
    refine k0O (e0:= []) rfl gSu (fun _ _ _=>rfl) Zr.o rfl ?_
    refine c0H rfl (fun hok EE FF=> ?_)
    simp only[List.cons_append,List.nil_append]
    refine a0F (y0I Sc.o rfl gFd hmem hos) ?_
    refine go 1 ?_
    refine c0G (E:=EE) (F:=FF) (by repeat (first|exact Tl.nil|apply Tl.cons)) gFd gSp (hok.put rfl) ?_
    refine c0H rfl (fun hok EE FF=> ?_)
    simp only[List.cons_append,List.nil_append]
    refine a0W rfl Hb.o rfl ((by have h:=b1C H c i size.toNat c.l[i].v.size.toNat hc hil hbits (by omega) (by omega);rw[←hr,Int.toNat_of_nonneg (by omega:0≤size),Int.toNat_of_nonneg hsi.1]at h;exact h)) gSp ?_
    rintro⟨H3,c3⟩ ⟨hs3,hc3,hr3⟩
    refine ns ?_
    refine go 1 ?_
    refine c0G (E:=EE) (F:=FF) (by repeat (first|exact Tl.nil|apply Tl.cons)) gFd gSp (hok.put rfl) ?_
    refine go 3 ?_
    refine m0B (fun b10=> ?_)
    dsimp only
    refine c0H rfl (fun hok EE FF=> ?_)
    simp only[List.cons_append,List.nil_append]
    refine a0K Sz.o rfl rfl rfl (fun u hu=>c0N hc3 u (by simpa using hu)) (by simp[Value.cells,a0P,b0A]) (a0R (by simp[Value.cells,a0P,b0A])) ?_
    refine go 1 ?_
    refine c0G (E:=EE) (F:=FF) (by repeat (first|exact Tl.nil|apply Tl.cons)) gFd gSp hok ?_
    refine go 10 ?_
    refine b0C rfl (fun hb59=> ?_) (fun hb59=> ?_)
    ·rw[if_pos (by simpa using hb59)]
     refine go 2 ?_
     refine a0F (a0O (v:=(a0P c).toArray) Ag.o rfl (by simp[Value.cells,a0P]) (a0I (by simp[Value.cells,a0P]))) ?_
     refine go 1 ?_
     refine a0K Sz.o rfl rfl rfl (fun u hu=>hone u (by simpa using hu)) (by simp[Value.cells,a0P,b0A]) (a0R (by simp[Value.cells,a0P,b0A])) ?_
     refine go 3 ?_
     exact c0W (x:=((H3,c):b0J×Rx)) ⟨hs3,hc.more hs3,rfl⟩ (fun _ _ h=>h) (RV.agg Ag.o rfl (by simp[a0P]) (by rfl) (RV.tmp rfl RV.nil)) rfl gSp
    ·have hz:r.2=0:=by simpa using hb59
     refine go 3 ?_
     refine a0F (a0O (v:=(a0P c3).toArray) Ag.o rfl (by simp[Value.cells,a0P]) (a0I (by simp[Value.cells,a0P]))) ?_
     refine a0K Sz.o rfl rfl rfl (fun u hu=>c0N hc3 u (by simpa using hu)) (by simp[Value.cells,a0P,b0A]) (a0R (by simp[Value.cells,a0P,b0A])) ?_
     refine go 1 ?_
     refine i0D (fun _ _ h=>h) (⟨(H3,c3),hs3,hc3,hr3,hz⟩) gSu gSp
   ·refine go 1 ?_
    refine i0D (fun _ _ h=>h) (⟨(H,c),fun _ h=>h,hc,by rw[hr,if_neg (by simpa using hb44)],by rw[hr,if_neg (by simpa using hb44)]⟩) gSu gSp
  rintro⟨⟨H2,c2⟩,hs2,hc2,hr2,hr0⟩
  dsimp only at hs2 hc2 hr2 ⊢
  have n0O:r.1.l.length=(er c).l.length∧r.1.bits=c.bits:=by
   by_cases hlt:size<c.l[i].v.size
   ·rw[hr,if_pos hlt];exact⟨(y0U _ _ _ _).1,(y0U _ _ _ _).2.1⟩
   ·rw[hr,if_neg hlt];exact⟨rfl,rfl⟩
  have hi2:i<c2.l.length:=by have h:=n0O.1;rw[←hr2]at h;simp only[er,List.length_map]at h;omega
  rw[if_neg (by rw[hr0];decide),←hr2,m0U hi2]
  obtain⟨p2,cap2,hlv2,hcap2⟩:=e0E hc2.vols
  have hrow2:=hc2.vols
  rw[hlv2]at hrow2
  have hfew2:=hc2.few
  obtain⟨bb,oo,cap2',cur2,hv2,hcp2,hmem2,hcut2,hlen2⟩:=g0E hrow2 (by omega)
  cases hv2
  have hcu2:(cur2.drop (oo+i*6)).take 6=b0A c2.l[i]:=(h0J hcut2 hi2).trans (l0N c2.l hi2)
  have hvi2:=hc2.maps _ (List.getElem_mem hi2)
  obtain⟨v2,hv2⟩: ∃v2:Vx,v2= {v:= {c2.l[i].v with size:=size},mv:=c2.l[i].mv} :=⟨_,rfl⟩
  have hm2:m0N H2 v2:=by rw[hv2];exact hvi2
  refine go 3 ?_
  refine a0F (b0T (v:= .slice (some ⟨bb,oo,none⟩) c2.l.length cap2) Sc.o rfl (by exact congrArg some hlv2)) ?_
  refine go 2 ?_
  refine a0F (f0A (vs:=b0A c2.l[i]) Ag.o rfl gFd hmem2 hcu2 rfl (by decide)) ?_
  refine(a0U Zr.o (fun b12=> ?_))
  refine a0K Sz.o rfl rfl rfl (fun u hu=>o0O hvi2 u (by simpa using hu)) (by simp[Value.cells,a0P,b0A]) (a0R (by simp[Value.cells,a0P,b0A])) ?_
  refine go 11 ?_
  refine a0F (a0O (v:=(a0P c2).toArray) Ag.o rfl (by simp[Value.cells,a0P]) (a0I (by simp[Value.cells,a0P]))) ?_
  refine go 1 ?_
  refine a0F (a0O (v:=(b0A v2).toArray) Ag.o rfl (by simp[Value.cells,b0A]) (by rw[hv2];rfl)) ?_
  refine a0W rfl Hb.o rfl (a1O H2 c2 i v2 hc2 hm2 hi2) gSp ?_
  rintro⟨H4,c4⟩ ⟨hs4,hc4,hr4⟩
  refine ns ?_
  refine a0K Sz.o rfl rfl rfl (fun u hu=>c0N hc4 u (by simpa using hu)) (by simp[Value.cells,a0P,b0A]) (a0R (by simp[Value.cells,a0P,b0A])) ?_
  refine go 3 ?_
  exact c0W (x:=((H4,c4):b0J×Rx)) ⟨fun q h=>hs4 q (hs2 q h),hc4,by(show er c4=_);rw[show er c4=_ from hr4,hv2]⟩ (fun _ _ h=>h) (RV.agg Ag.o rfl (by simp[a0P]) (by rfl) (RV.tmp rfl RV.nil)) rfl gSp
end
end Go.Proofs.Q
namespace Go.Proofs.Q
open Go
instance:Sl.Hb Tryz.prog 256:=⟨by kernel_rfl⟩
instance:Sl.Pl Tryz.prog 244 ([(0,1),(1,1)],.agg #[.int .i64 (0),.int .i64 (0)]):=⟨by kernel_rfl⟩
end Go.Proofs.Q
namespace Go.Proofs.Q
section
open Go
end
end Go.Proofs.Q
namespace Go.Proofs.Q
open Go
instance:Sl.Hb Tryz.prog 31:=⟨by kernel_rfl⟩
instance:Sl.Hb Tryz.prog 32:=⟨by kernel_rfl⟩
instance:Sl.Hb Tryz.prog 41:=⟨by kernel_rfl⟩
instance:Sl.Pl Tryz.prog 34 ([(0,1),(1,1),(2,1),(3,1)],.agg #[.slice none 0 0,.int .i64 (0),.int .i64 (0),.int .i64 (0)]):=⟨by kernel_rfl⟩
instance:Sl.Pl Tryz.prog 37 ([(0,1),(1,4)],.agg #[.pointer none,.slice none 0 0,.int .i64 (0),.int .i64 (0),.int .i64 (0)]):=⟨by kernel_rfl⟩
theorem F.pt35:Sl.d1J Tryz.prog 35=true:=by kernel_rfl
theorem F.pt55:Sl.d1J Tryz.prog 55=true:=by kernel_rfl
theorem F.pt56:Sl.d1J Tryz.prog 56=true:=by kernel_rfl
instance:Sl.Hb Tryz.prog 84:=⟨by kernel_rfl⟩
instance:Sl.Hb Tryz.prog 85:=⟨by kernel_rfl⟩
instance:Sl.Hb Tryz.prog 86:=⟨by kernel_rfl⟩
instance:Sl.Hb Tryz.prog 87:=⟨by kernel_rfl⟩
instance:Sl.Pl Tryz.prog 154 ([(0,1),(1,1)],.agg #[.slice none 0 0,.int .i64 (0)]):=⟨by kernel_rfl⟩
instance:Sl.Pl Tryz.prog 194 ([(0,1),(1,1)],.agg #[.pointer none,.pointer none]):=⟨by kernel_rfl⟩
instance:Sl.Pl Tryz.prog 210 ([(0,1),(1,1),(2,1)],.agg #[.pointer none,.int .i64 (0),.map none]):=⟨by kernel_rfl⟩
instance:Sl.Pl Tryz.prog 59 ([(0,1),(1,1),(2,1),(3,1),(4,1)],.agg #[.pointer none,.pointer none,.map none,.int .u32 (0),.int .u32 (0)]):=⟨by kernel_rfl⟩
instance:Sl.Pl Tryz.prog 92 ([(0,1),(1,1),(2,1),(3,1),(4,1),(5,1),(6,1)],.agg #[.pointer none,.pointer none,.pointer none,.map none,.map none,.slice none 0 0,.int .i64 (0)]):=⟨by kernel_rfl⟩
instance:Sl.Hb Tryz.prog 99:=⟨by kernel_rfl⟩
instance:Sl.Pl Tryz.prog 173 ([(0,1),(1,1),(2,1),(3,1)],.agg #[.slice none 0 0,.bool false,.int .i64 (0),.bool false]):=⟨by kernel_rfl⟩
instance:Sl.Pl Tryz.prog 175 ([(0,1),(1,1)],.agg #[.string ByteArray.empty,.string ByteArray.empty]):=⟨by kernel_rfl⟩
instance:Sl.Sz Tryz.prog 171 1:=⟨by kernel_rfl⟩
instance:Sl.Ttb Tryz.prog 175 32:=⟨by kernel_rfl⟩
instance:Sl.Zr Tryz.prog 175 (.agg #[.string ByteArray.empty,.string ByteArray.empty]):=⟨by kernel_rfl⟩
instance:Sl.Hb Tryz.prog 50:=⟨by kernel_rfl⟩
instance:Sl.Hb Tryz.prog 58:=⟨by kernel_rfl⟩
instance:Sl.Hb Tryz.prog 59:=⟨by kernel_rfl⟩
instance:Sl.Hb Tryz.prog 64:=⟨by kernel_rfl⟩
instance:Sl.Hb Tryz.prog 65:=⟨by kernel_rfl⟩
instance:Sl.Hb Tryz.prog 66:=⟨by kernel_rfl⟩
instance:Sl.Hb Tryz.prog 68:=⟨by kernel_rfl⟩
instance:Sl.Hb Tryz.prog 69:=⟨by kernel_rfl⟩
instance:Sl.Hb Tryz.prog 143:=⟨by kernel_rfl⟩
instance:Sl.Hb Tryz.prog 144:=⟨by kernel_rfl⟩
instance:Sl.Hb Tryz.prog 92:=⟨by kernel_rfl⟩
instance:Sl.Hb Tryz.prog 98:=⟨by kernel_rfl⟩
instance:Sl.Pl Tryz.prog 50 ([(0,1),(1,1),(2,1),(3,1),(4,1),(5,1)],.agg #[.int .u32 (0),.int .u32 (0),.bool false,.int .i64 (0),.int .i64 (0),.int .u32 (0)]):=⟨by kernel_rfl⟩
instance:Sl.Hb Tryz.prog 137:=⟨by kernel_rfl⟩
instance:Sl.Hb Tryz.prog 138:=⟨by kernel_rfl⟩
instance:Sl.Hb Tryz.prog 93:=⟨by kernel_rfl⟩
instance:Sl.Sc Tryz.prog 165:=⟨by kernel_rfl⟩
instance:Sl.Fl Tryz.prog 50 5 5:=⟨by kernel_rfl⟩
instance:Sl.Fl Tryz.prog 59 3 3:=⟨by kernel_rfl⟩
instance:Sl.Fl Tryz.prog 59 4 4:=⟨by kernel_rfl⟩
instance:Sl.Hb Tryz.prog 116:=⟨by kernel_rfl⟩
instance:Sl.Hb Tryz.prog 181:=⟨by kernel_rfl⟩
instance:Sl.Hb Tryz.prog 117:=⟨by kernel_rfl⟩
instance:Sl.Hb Tryz.prog 17:=⟨by kernel_rfl⟩
end Go.Proofs.Q
