/- Part of the proof; no statement of its own. -/
import Derived.Test.YtpinhnikemamjaaGreatDoorB12
import Derived.Test.YtpinhnikemamjaaGreatDoorB08
import Derived.Test.YtpinhnikemamjaaGreatDoorB24
import Derived.Test.YtpinhnikemamjaaGreatDoorB25
import Derived.Test.YtpinhnikemamjaaGreatDoorB16
import Derived.Test.YtpinhnikemamjaaGreatDoorB17
import Derived.Test.YtpinhnikemamjaaGreatDoorB20
import Derived.Test.YtpinhnikemamjaaGreatDoorB06
import Derived.Test.YtpinhnikemamjaaGreatDoorProg
import Derived.KernelRfl
set_option linter.all false
set_option maxRecDepth 4000
set_option maxHeartbeats 4000000
namespace Go.Proofs.Q
open Go.Sl Go.Sb
section
attribute [local irreducible] Sl.a0L Sl.OW Sl.CW Sl.OS Sl.OM Sl.OMf Sl.KM
theorem j1K:a0S Tryz.prog 99 #[] [] (b0G (b0H (a0T 64)) []):=by
 refine a0C Tryz.func99 rfl Tryz.ntmps99 rfl (fun R w0=> ?_)
 simp only[a0N,List.cons_append,List.nil_append]
 refine go 7 ?_
 refine a0D rfl Hb.o rfl (y0L 64 (by omega)) gSp ?_
 refine ns ?_
 refine go 3 ?_
 refine b0V (fun _ _ h=>h) rfl rfl gSp
theorem c2B (b:Nat) (v:Value) (d:Dk):a0S Tryz.prog 87 #[ptr b] [pts b (.cells #[v,.bool d.armed,.int .i64 d.left,.bool d.dead] 173 (0,0)),c0E 175 2 v d.l.length (d.l.flatMap t0A)] (b0G (.int .i64 d.l.length) [pts b (.cells #[v,.bool d.armed,.int .i64 d.left,.bool d.dead] 173 (0,0)),c0E 175 2 v d.l.length (d.l.flatMap t0A)]):=by
 refine a0C Tryz.func87 rfl Tryz.ntmps87 rfl (fun R w0=> ?_)
 simp only[a0N,List.cons_append,List.nil_append]
 refine go 11 ?_
 refine a0F (j0S Tsl.o rfl gFd) ?_
 refine go 3 ?_
 refine b0V (fun _ _ h=>h) rfl rfl gSp
def g1O (n:Nat):List Value:=(List.replicate n (a0T 64,a0T 64)).flatMap t0A
theorem g2M (n:Nat):g1O (n+1)=g1O n++ [b0H (a0T 64),b0H (a0T 64)]:=by unfold g1O;rw[List.replicate_succ',List.flatMap_append];rfl
set_option maxRecDepth 4000 in
theorem g2N (n:Nat) (hn:n≤4096):a0S Tryz.prog 41 #[.int .i64 n] [] (c0X (fun x:Nat×Value=>x.2.oneCell'=true) (fun x=>ptr x.1) (fun x=> [pts x.1 (.cells #[x.2,.bool false,.int .i64 0,.bool false] 173 (0,0)),c0E 175 2 x.2 n (g1O n)])):=by
 refine a0C Tryz.func41 rfl Tryz.ntmps41 rfl (fun R w0=> ?_)
 simp only[a0N,List.cons_append,List.nil_append]
 refine go 8 ?_
 refine(a0X rfl (fun b5=> ?_))
 refine go 9 ?_
 rw[show min (max ((n:Nat):Int) 0) 4096=(n:Int) by omega]
 refine go 4 ?_
 refine c0S (L':=c0E 175 2 (.slice none 0 0) 0 (g1O 0)::_) (fun w hs=>h0S 175 2 w hs) ?_
 refine b0S (X:= {y:Nat×Value // y.1≤n∧y.2.oneCell'=true}) (fun y=> [(3,ptr b5),(8,.int .i64 n),(9,.int .i64 y.1.1)]) (fun y=> [pts b5 (.cells #[y.1.2,.bool false,.int .i64 0,.bool false] 173 (0,0)),c0E 175 2 y.1.2 y.1.1 (g1O y.1.1),R]) (fun y=>n-y.1.1) ⟨(0,.slice none 0 0),by omega,rfl⟩ gSu gSp ?_
 rintro⟨⟨i,v⟩,hi,hv⟩ m0 hm0
 try simp only at hm0
 try dsimp only
 simp only at hi hv
 refine go 6 ?_
 refine b0C rfl (fun hb10=> ?_) (fun hb10=> ?_)
 ·have hin:i<n:=by have:=of_decide_eq_true hb10;omega
  refine go 4 ?_
  refine t0Z 12 (by rfl) (.soft 0 (.soft 1 (.soft 2 (.soft 3 (.soft 4 (.hard 5 (.hard 6 (.soft 7 (.hard 8 (.hard 9 (.soft 10 (.soft 11 .done)))))))))))) [pts b5 (.cells #[v,.bool false,.int .i64 0,.bool false] 173 (0,0))] Fol.o (by kernel_rfl) (by repeat (first|with_reducible exact a0J.bp|with_reducible apply a0J.then|with_reducible apply a0J.inBlock)) gSp ?_
  simp only[List.take_succ_cons,List.take_zero]
  refine go 5 ?_
  refine c0H rfl (fun hok EE FF=> ?_)
  simp only[List.cons_append,List.nil_append]
  refine a0D rfl Hb.o rfl (j1K) gSp ?_
  refine ns ?_
  refine go 1 ?_
  refine c0G (E:=EE) (F:=FF) (by repeat (first|exact Tl.nil|apply Tl.cons)) gFd gSp (hok.put rfl) ?_
  refine c0H rfl (fun hok EE FF=> ?_)
  simp only[List.cons_append,List.nil_append]
  refine a0D rfl Hb.o rfl (j1K) gSp ?_
  refine ns ?_
  refine go 1 ?_
  refine c0G (E:=EE) (F:=FF) (by repeat (first|exact Tl.nil|apply Tl.cons)) gFd gSp (hok.put rfl) ?_
  refine go 1 ?_
  refine c0H rfl (fun hok EE FF=> ?_)
  simp only[List.cons_append,List.nil_append]
  refine(b0P Tsl.o Zr.o rfl rfl rfl (by simp[d0B,d0K,Value.cells]<;>rfl) (fun b19=> ?_))
  refine go 1 ?_
  refine c0G (E:=EE) (F:=FF) (by repeat (first|exact Tl.nil|apply Tl.cons)) gFd gSp (hok.put rfl) ?_
  refine c0H rfl (fun hok EE FF=> ?_)
  simp only[List.cons_append,List.nil_append]
  refine(e0F Tsl.o Ttb.o Zr.o rfl rfl rfl gFd (h0O Tsl.o (by simp;rfl) (by simp) (by simp[Value.oneCell'])) (by simp only[maxLen];omega) (by omega) (fun v20 hv20=> ?_))
  refine go 1 ?_
  refine c0G (E:=EE) (F:=FF) (by repeat (first|exact Tl.nil|apply Tl.cons)) gFd gSp (hok.put rfl) ?_
  refine go 3 ?_
  refine y0H ?_
  refine go 2 ?_
  rw[←g2M]
  refine go 5 ?_
  refine b0Q (fun _ _ h=>h) (⟨(i+1,v20),hin,hv20⟩) (by first|omega| (simp only;omega)) gSu gSp
 ·obtain rfl:i=n:=by have:=of_decide_eq_false hb10;omega
  refine go 8 ?_
  refine d0Z (b5,v) hv (fun _ _ h=>h) rfl rfl gSp
end
section
abbrev dkN (b:Nat) (v:Value) (n:Nat):List a0E:= [pts b (.cells #[v,.bool false,.int .i64 0,.bool false] 173 (0,0)),c0E 175 2 v n (g1O n)]
theorem c2C (b:Nat) (v:Value) (n:Nat):a0S Tryz.prog 87 #[ptr b] (dkN b v n) (b0G (.int .i64 n) (dkN b v n)):=by
 have h:=c2B b v (g0G n)
 simp only[g0G,List.length_replicate]at h
 exact h
structure HN where
 log:Nat
 gr:Nat
 grl:Nat
 refs:Nat
 by_:Nat
 heap:Nat
abbrev m2T (x:HN) (bd n:Nat):List a0E:= [pts x.heap (.cells #[ptr bd,ptr x.log,ptr x.gr,.map (some x.refs),.map (some x.by_),.slice none 0 0,.int .i64 0] 92 (0,0)),pts x.log (.cells #[.slice none 0 0,.int .i64 0] 154 (0,0)),
 c0T x.refs a0V a0V ([]:List (Int×Int)),c0T x.by_ a0V a0V ([]:List (Int×Int)),pts x.gr (.cells (l0S 2 x.grl (List.replicate n 0)).toArray 192 (0,0)),pts x.grl (.cells ((List.replicate n 0).map gst).toArray 3 (0,0))]
attribute [local irreducible] Sl.a0L Sl.OW Sl.CW Sl.OS Sl.OM Sl.OMf Sl.KM
theorem g2O (bd:Nat) (v:Value) (n:Nat) (hn:n≤4000):a0S Tryz.prog 32 #[ptr bd,.int .i64 2] (dkN bd v (n+2)) (c0X (fun _:HN=>True) (fun x=>ptr x.heap) (fun x=>m2T x bd n++dkN bd v (n+2))):=by
 refine a0C Tryz.func32 rfl Tryz.ntmps32 rfl (fun R w0=> ?_)
 simp only[a0N,List.cons_append,List.nil_append]
 refine go 9 ?_
 refine(a0X rfl (fun b7=> ?_))
 refine go 2 ?_
 refine a0D rfl Hb.o rfl (c2C bd v (n+2)) gSp ?_
 refine ns ?_
 refine a0W rfl Hb.o rfl (d2X 2 n ((n+2:Nat):Int) (by omega) (by omega) (by omega)) gSp ?_
 rintro⟨bg,bgl⟩ _
 refine ns ?_
 refine(p0Z (fun b12=> ?_))
 refine(p0Z (fun b13=> ?_))
 refine e0Y (fun w h=>s0V a0V a0V ((show Fnd _ (pts b12 _) _ from gFd).sat h)) ?_
 refine e0Y (fun w h=>s0V a0V a0V ((show Fnd _ (pts b13 _) _ from gFd).sat h)) ?_
 refine go 1 ?_
 refine(a0X rfl (fun b15=> ?_))
 refine go 3 ?_
 refine d0Z ({log:=b7,gr:=bg,grl:=bgl,refs:=b12,by_:=b13,heap:=b15} :HN) trivial (fun _ _ h=>h) rfl rfl gSp
theorem g2P (bh:Nat) (bits:Nat) (hb:1≤bits∧bits≤256):a0S Tryz.prog 85 #[ptr bh,.int .i64 bits] [] (c0X (fun _:Nat×Nat=>True) (fun x=>ptr x.1) (fun x=> [pts x.1 (.cells #[ptr bh,.int .i64 bits,.map (some x.2)] 210 (0,0)),c0T x.2 e0J a0V ([]:List (B×Int))])):=by
 refine a0C Tryz.func85 rfl Tryz.ntmps85 rfl (fun R w0=> ?_)
 simp only[a0N,List.cons_append,List.nil_append]
 refine go 11 ?_
 refine(p0Z (fun b9=> ?_))
 rw[show min (max ((bits:Nat):Int) 1) 256=(bits:Int) by omega]
 refine go 1 ?_
 refine e0Y (fun w h=>s0V e0J a0V ((show Fnd _ (pts b9 _) _ from gFd).sat h)) ?_
 refine(a0X rfl (fun b11=> ?_))
 refine go 3 ?_
 refine d0Z (b11,b9) trivial (fun _ _ h=>h) rfl rfl gSp
theorem g2Q (bh bx:Nat):a0S Tryz.prog 84 #[ptr bh,ptr bx] [] (c0X (fun _:Nat=>True) (fun x=>ptr x) (fun x=> [pts x (.cells #[ptr bh,ptr bx] 194 (0,0))])):=by
 refine a0C Tryz.func84 rfl Tryz.ntmps84 rfl (fun R w0=> ?_)
 simp only[a0N,List.cons_append,List.nil_append]
 refine go 10 ?_
 refine(a0X rfl (fun b8=> ?_))
 refine go 3 ?_
 refine d0Z b8 trivial (fun _ _ h=>h) rfl rfl gSp
structure CN where
 st:Nat
 ix:Nat
 maps:Nat
 core:Nat
 vols:Nat
abbrev m2U (x:CN) (bh bits:Nat):List a0E:= [pts x.st (.cells #[ptr bh,.int .i64 bits,.map (some x.ix)] 210 (0,0)),c0T x.ix e0J a0V ([]:List (B×Int)),pts x.maps (.cells #[ptr bh,ptr x.st] 194 (0,0)),
 c0T x.vols j0V e0K ([]:List (Int×Ent)),pts x.core (.cells #[ptr bh,ptr x.maps,.map (some x.vols),.int .u32 1,.int .u32 1] 59 (0,0))]
theorem g2R (bh bits:Nat) (hb:1≤bits∧bits≤256):a0S Tryz.prog 31 #[ptr bh,.int .i64 bits,.int .u32 1] [] (c0X (fun _:CN=>True) (fun x=>ptr x.core) (fun x=>m2U x bh bits)):=by
 refine a0C Tryz.func31 rfl Tryz.ntmps31 rfl (fun R w0=> ?_)
 simp only[a0N,List.cons_append,List.nil_append]
 refine go 11 ?_
 refine a0W rfl Hb.o rfl (g2P bh bits hb) gSp ?_
 rintro⟨bs,bi⟩ _
 refine ns ?_
 refine a0W rfl Hb.o rfl (g2Q bh bs) gSp ?_
 rintro bm _
 refine ns ?_
 refine(p0Z (fun b13=> ?_))
 refine go 2 ?_
 refine e0Y (fun w h=>s0V j0V e0K ((show Fnd _ (pts b13 _) _ from gFd).sat h)) ?_
 refine go 1 ?_
 refine(a0X rfl (fun b17=> ?_))
 refine go 3 ?_
 refine d0Z ({st:=bs,ix:=bi,maps:=bm,core:=b17,vols:=b13} :CN) trivial (fun _ _ h=>h) rfl rfl gSp
end
section
def adN (bd:Nat) (v:Value) (h:HN) (c:CN):Ad:= {disk:=bd,vd:=v,log:=h.log,gr:=h.gr,grl:=h.grl,refs:=h.refs,heap:=h.heap,st:=c.st,ix:=c.ix,maps:=c.maps,core:=c.core,vols:=c.vols}
theorem p2W {W w:World} {L:List a0E} {bd n bits:Nat} {v:Value} {h:HN} {c:CN} (hn:n≤4000) (hb:1≤bits∧bits≤256)
 (hs:Sat w (whole W::(dkN bd v (n+2)++(m2T h bd n++(m2U c h.heap bits++L))))):Sat w (RS W (adN bd v h c) (j0U (g0G (n+2)) 2 bits 1)++L):=by
 have hbits:(j0U (g0G (n+2)) 2 bits 1).bits=bits:=by show min (max bits 1) 256=bits;omega
 have hg:(j0U (g0G (n+2)) 2 bits 1).g=List.replicate n 0:=by simp[j0U,g0G]
 have hdk:l0L (g0G (n+2)):=⟨fun x hx=>by rw[List.eq_of_mem_replicate hx];simp[a0T],by simp[g0G];omega,by show 0<4611686018427387904;decide⟩
 have hst:n0I (j0U (g0G (n+2)) 2 bits 1):=⟨by show 2≤5000;omega,by rw[hg];simp;omega,fun x hx=>by rw[hg]at hx;rw[List.eq_of_mem_replicate hx];omega,by intro p hp;cases hp⟩
 have h1:=c0D (h0S 1 1 w hs)
 have h2:=p0A (a:=adN bd v h c) (by_:=h.by_) (o:= []) (log:= []) (depth:=0) (v:= .slice none 0 0) (vals:= []) ⟨by simp,[],[],List.Perm.refl _,rfl,rfl,by simp⟩ (by omega)
  (by simp only[List.cons_append,List.nil_append];exact gSp) w h1
 have h3:=c0D h2
 have h4:=d0Q (a:=adN bd v h c) (s:=j0U (g0G (n+2)) 2 bits 1) (by_:=h.by_) (gv:= .slice none 0 0) (gc:= []) (o:= []) ⟨by simp[j0U],.inl ⟨rfl,rfl,rfl⟩⟩ hst
  (by rw[e0A,hg];exact gSp) w h3
 have h5:=o0F (p:=l0L (g0G (n+2))) hdk w h4
 exact h5.perm (show b0L _ [whole W,dkC (adN bd v h c) (g0G (n+2)),dkR (adN bd v h c) (g0G (n+2)),m0P (l0L (g0G (n+2))),stC (adN bd v h c) (j0U (g0G (n+2)) 2 bits 1).bits,mpC (adN bd v h c),HL (adN bd v h c) (j0U (g0G (n+2)) 2 bits 1)] L by rw[hbits];unfold dkR;rw[show(g0G (n+2)).l.length=n+2 by simp[g0G]];exact gSp)
abbrev s1L (b core bits:Nat):a0E:=pts b (.cells #[ptr core,.slice none 0 0,.int .i64 1,.int .i64 bits,.int .i64 1] 37 (0,0))
attribute [local irreducible] Sl.a0L Sl.OW Sl.CW Sl.OS Sl.OM Sl.OMf Sl.KM
theorem n1Q (W:World) (n bits:Nat) (hn:n≤4000) (hb:1≤bits∧bits≤256):a0S Tryz.prog 11 #[.int .i64 ((n+2:Nat):Int),.int .i64 bits] [whole W] (c0X (fun _:Ad×Nat=>True) (fun x=> .tuple #[ptr x.2,.bool true]) (fun x=>RS W x.1 (j0U (g0G (n+2)) 2 bits 1)++ [s1L x.2 x.1.core bits])):=by
 refine a0C Tryz.func11 rfl Tryz.ntmps11 rfl (fun R w0=> ?_)
 simp only[a0N,List.cons_append,List.nil_append]
 refine go 11 ?_
 rw[show min (max ((bits:Nat):Int) 1) 256=(bits:Int) by omega]
 refine go 6 ?_
 refine a0W rfl Hb.o rfl (g2N (n+2) (by omega)) gSp ?_
 rintro⟨bd,v⟩ hv
 refine ns ?_
 refine a0W rfl Hb.o rfl (g2O bd v n hn) gSp ?_
 rintro h _
 refine ns ?_
 refine go 1 ?_
 refine a0W rfl Hb.o rfl (g2R h.heap bits hb) gSp ?_
 rintro c _
 refine ns ?_
 refine go 4 ?_
 refine d0H (.soft 0 (.soft 1 (.soft 2 (.soft 3 (.soft 5 (.soft 6 (.soft 7 (.soft 8 (.soft 9 (.soft 10 (.soft 11 (.soft 12 (.soft 13 (.soft 14 (.soft 15 (.soft 16 (.soft 17 (.soft 18 (.soft 19 (.soft 20 (.hard 4 (.soft 21 (.soft 22 .done))))))))))))))))))))))) [pts c.core (.cells #[ptr h.heap,ptr c.maps,.map (some c.vols),.int .u32 1,.int .u32 1] 59 (0,0))] Fol.o (by kernel_rfl) (by repeat (first|with_reducible exact a0J.bp|with_reducible apply a0J.then|with_reducible apply a0J.inBlock)) gSp ?_
 refine go 5 ?_
 refine d0D rfl (b1G F.pt35 rfl rfl) ?_
 refine go 5 ?_
 refine n0M rfl (b1G F.pt55 rfl rfl) (fun a w hh=>(b0E rfl rfl rfl hh).trans (wTT rfl)) ?_
 refine go 6 ?_
 refine n0M rfl (b1G F.pt56 rfl rfl) (fun a w hh=>(b0E rfl rfl rfl hh).trans (wTT rfl)) ?_
 refine go 2 ?_
 refine(a0X rfl (fun b19=> ?_))
 refine go 6 ?_
 refine c0S (L':=RS W (adN bd v h c) (j0U (g0G (n+2)) 2 bits 1)++ [s1L b19 c.core bits,R]) (fun w hs=>p2W (L:= [s1L b19 c.core bits,R]) hn hb (by simp only[List.cons_append,List.nil_append];exact hs.re gSp)) ?_
 simp only[List.cons_append,List.nil_append]
 exact d0Z (x:=((adN bd v h c,b19):Ad×Nat)) trivial (fun _ _ h=>h) rfl rfl gSp
end
section
theorem j1L: ∀ {k:Nat} {x:Ent} {a n:Nat} {s t:St} {b:B},j0J k x a n s=(.ok b,t)→b.length≤64*n
 |0,x,a,n,s,t,b,h=>by cases h;simp
 |k+1,x,a,n,s,t,b,h=>by
  unfold j0J at h
  split at h
  ·cases h;simp
  ·rename_i hn
   simp only at h
   cases hg:o0H x (a/4) s with
   |mk o u=>
    cases o with
    |ok v=>
     rw[a0A hg]at h
     cases hg2:j0J k x (a+min n (4-a%4)) (n-min n (4-a%4)) u with
     |mk o2 u2=>
      cases o2 with
      |ok r=>
       rw[a0A hg2]at h
       cases h
       have:=j1L hg2
       rw[List.length_append,List.length_take];omega
      |err e=>rw[a0Q hg2]at h;cases h
      |big=>unfold a0B at h;rw[hg2]at h;cases h
    |err e=>rw[a0Q hg]at h;cases h
    |big=>unfold a0B at h;rw[hg]at h;cases h
theorem g2S {id at_ n:Int} {s t:St} {b:B} (h:n0P id at_ n s=(.ok b,t)):b.length≤1000000:=by
 unfold n0P at h
 cases hg:find id s with
 |mk o u=>
  cases o with
  |ok x=>
   rw[a0A hg]at h
   cases hg2:g0T x at_ n u with
   |mk o2 u2=>
    cases o2 with
    |ok v=>
     rw[a0A hg2]at h
     obtain⟨_,h2,h3,h4,h5⟩:=u0X hg2
     have:=j1L h
     omega
    |err e=>rw[a0Q hg2]at h;cases h
    |big=>unfold a0B at h;rw[hg2]at h;cases h
  |err e=>rw[a0Q hg]at h;cases h
  |big=>unfold a0B at h;rw[hg]at h;cases h
theorem l2Q (W:World) (a:Ad) (s:St) (id at_ n:Int) (hnb:(o0T id at_ n s).1≠ .big):
 a0S Tryz.prog 19 #[ptr a.core,.int .u32 id,.int .i64 at_,.int .i64 n] (RS W a s) (Ran fT (RS W a) b2Z (o0T id at_ n s)):=c2A W a s id at_ n g2S hnb
def low (c:UInt8):UInt8:=UInt8.ofNat (c.toNat%4)
def e1E (c:UInt8):B:=List.replicate 64 (low c)
theorem s2C (c:UInt8):(c.toNat:Int)%4=((low c).toNat:Int):=by unfold low;rw[UInt8.toNat_ofNat'];omega
theorem c2D (c:UInt8):(List.replicate 64 [low c]).flatten=e1E c:=rfl
def n0Q (l:B):B:=(l.take 12).flatMap e1E
theorem c2E {l:B} {i:Nat} (h:i<l.length) (h12:i<12):n0Q (l.take i)++e1E l[i]=n0Q (l.take (i+1)):=by
 unfold n0Q
 rw[List.take_of_length_le (l:=l.take i) (by simp;omega),List.take_of_length_le (l:=l.take (i+1)) (by simp;omega),List.take_succ,List.getElem?_eq_getElem h,List.flatMap_append]
 simp
theorem n1R {l:B} {i:Nat} (h:l.length≤i∨12≤i) (h12:i≤12):n0Q (l.take i)=n0Q l:=by
 unfold n0Q
 rw[List.take_take]
 rcases h with h|h
 ·rw[List.take_of_length_le (by omega),List.take_of_length_le (by omega)]
 ·rw[show min 12 i=12 by omega]
theorem l2R (l:B):(l.flatMap e1E).length=64*l.length:=by
 induction l with
 |nil=>rfl
 |cons c l ih=>rw[List.flatMap_cons,List.length_append,ih];simp[e1E];omega
theorem c1U (l:B):(n0Q l).length=64*min 12 l.length:=by unfold n0Q;rw[l2R,List.length_take]
set_option maxRecDepth 4000 in
attribute [local irreducible] Sl.a0L Sl.OW Sl.CW Sl.OS Sl.OM Sl.OMf Sl.KM
theorem g2T (l:B):a0S Tryz.prog 18 #[b0H l] [] (b0G (b0H (n0Q l)) []):=by
 have hsz:(bs l).size=l.length:=b0N l
 refine a0C Tryz.func18 rfl Tryz.ntmps18 rfl (fun R w0=> ?_)
 simp only[a0N,List.cons_append,List.nil_append]
 refine go 17 ?_
 refine b0S (X:= {i:Nat // i≤12∧i≤l.length}) (fun y=> [(0,b0H l),(3,b0H (n0Q (l.take y.1))),(4,.int .i64 y.1)]) (fun y=> [R]) (fun y=>12-y.1) ⟨0,by omega,by omega⟩ gSu gSp ?_
 rintro⟨i,hi,hil⟩ m0 hm0
 try simp only at hm0
 try dsimp only
 skip
 refine go 2 ?_
 by_cases hlt:i<l.length
 ·refine go 4 ?_
  rw[b0N]
  refine go 7 ?_
  refine b0C rfl (fun hb12=> ?_) (fun hb12=> ?_)
  ·have hi12:i<12:=by have:=of_decide_eq_true hb12;omega
   have hbyte:(bs l).data.toList[((i:Nat):Int).toNat]? =some l[i]:=by rw[l0B,Int.toNat_natCast,List.getElem?_eq_getElem hlt]
   refine go 8 ?_
   refine a0F (h1E Tst.o rfl rfl (by omega) (by assumption)) ?_
   refine a0F (n0L rfl rfl) ?_
   rw[s2X,s2C]
   refine(b0P Tsl.o Zr.o rfl rfl rfl (by simp[d0B,d0K,Value.cells]<;>rfl) (fun b20=> ?_))
   refine a0F (h1L Tsl.o Tst.o Tby.o rfl (l:= [low l[i]]) rfl rfl) ?_
   refine a0D rfl Hb.o rfl (w1S [low l[i]] 64 (by simp) (by omega)) gSp ?_
   refine ns ?_
   rw[c2D]
   refine a0F (i0M rfl rfl (by rw[b0N,b0N,c1U];simp[e1E];omega)) ?_
   rw[←i0X,c2E hlt hi12]
   refine go 8 ?_
   refine b0Q (fun _ _ h=>h) (⟨i+1,hi12,hlt⟩) (by first|omega| (simp only;omega)) gSu gSp
  ·skip
   refine go 8 ?_
   refine b0V (fun _ _ h=>h) rfl (by rw[n1R (.inr (by have:=of_decide_eq_false hb12;omega)) hi]) gSp
 ·refine go 4 ?_
  rw[b0N]
  refine go 16 ?_
  refine b0V (fun _ _ h=>h) rfl (by rw[n1R (.inl (by omega)) hi]) gSp
end
end Go.Proofs.Q
namespace Go.Sb
section
def lvK (g:Nat→Int→Option (List (Nat×Int))):Nat→List Int→Option (List (Nat×Int))
 |_,[]=>some []
 |i,k::l=>(g i k).bind fun a=>(lvK g (i+1) l).map (a++ ·)
def lvs:Nat→Nat→Int→St→Option (List (Nat×Int))
 |0,from_,at_,s=>match (load at_ 0 s).1 with
  | .ok n=>lvK (fun i k=>some (if k=0 then []else [(from_+i,k)])) 0 n.kids
  |_=>none
 |l+1,from_,at_,s=>match (load at_ (l+1) s).1 with
  | .ok n=>lvK (fun i k=>if k=0 then some []else lvs l (from_+i*8^(l+1)) k s) 0 n.kids
  |_=>none
def e1F (s:St) (from_:Nat):Nat→Nat→Int→Option (List (Nat×Int))
 |0=>fun i k=>some (if k=0 then []else [(from_+i,k)])
 |l+1=>fun i k=>if k=0 then some []else lvs l (from_+i*8^(l+1)) k s
theorem s2D (l from_:Nat) (at_:Int) (s:St):lvs l from_ at_ s=match (load at_ l s).1 with| .ok n=>lvK (e1F s from_ l) 0 n.kids|_=>none:=by cases l<;>rfl
section
variable {C:Type}
def f0V (see:Nat×Int→C→Bool×C):List (Nat×Int)→C→Bool×C
 | [],c=>(true,c)
 |x::l,c=>if(see x c).1 then f0V see l (see x c).2 else(false,(see x c).2)
theorem s1M (see:Nat×Int→C→Bool×C) (ys:List (Nat×Int)): ∀(xs:List (Nat×Int)) (c:C),f0V see (xs++ys) c=if(f0V see xs c).1 then f0V see ys (f0V see xs c).2 else(false,(f0V see xs c).2)
 | [],c=>by simp[f0V]
 |x::xs,c=>by
  rw[List.cons_append]
  have e1:f0V see (x::(xs++ys)) c=if(see x c).1 then f0V see (xs++ys) (see x c).2 else(false,(see x c).2):=rfl
  have e2:f0V see (x::xs) c=if(see x c).1 then f0V see xs (see x c).2 else(false,(see x c).2):=rfl
  rw[e1,e2]
  split
  ·exact s1M see ys xs _
  ·simp
end
def d0N (from_ upto:Nat) (x:Nat×Int) (c:List (Nat×Int)):Bool×List (Nat×Int):=if upto≤x.1 then(false,c)else if from_≤x.1 then(true,c++ [x])else(true,c)
def l0E (root:Int) (from_ upto:Nat):M (List (Nat×Int)):=fun s=>match lvs 2 0 root s with
 |some xs=>(.ok (f0V (d0N from_ upto) xs []).2,s)
 |none=>(.big,s)
def j0P (root:Int) (from_ upto:Nat):M Int:=a0B (l0E root from_ upto) fun l=>r0B (fun r x=>l0J r x.1 0) root l
def h0F (x:Ent) (from_ upto:Nat):M Ent:=if 5000<upto then fun s=>(.big,s)else
 if upto/4≤(from_+3)/4 then e0U x from_ (a0T ((upto-from_)*64))else
 a0B (e0U x from_ (a0T (((from_+3)/4*4-from_)*64))) fun y=>a0B (j0P y.root ((from_+3)/4) (upto/4)) fun r=>
 e0U {y with root:=r} (upto/4*4) (a0T ((upto-upto/4*4)*64))
def p0H (id:Int):M Unit:=a0B (find id) fun x=>a0B (n0G id) fun _=>t0Q x.root 2
def r0F (id:Int):M Int:=a0B (i0I (e0V 0 (p0H id))) fun r=>ret r.1
def l0F (id size:Int):M Unit:=a0B (l0C id) fun x=>if size<1∨2048<size then n0F 4 else
 a0B (if size<x.size then h0F x size.toNat x.size.toNat else ret x) fun y=>l0K {y with size:=size}
def r0G (id size:Int):M Int:=a0B (i0I (e0V 0 (l0F id size))) fun r=>ret r.1
def q0K (id at_ n:Int):M Unit:=a0B (l0C id) fun x=>a0B (g0T x at_ n) fun _=>a0B (h0F x at_.toNat (at_+n).toNat) l0K
def w0Q (id at_ n:Int):M Int:=a0B (i0I (e0V 0 (q0K id at_ n))) fun r=>ret r.1
def c1V (id:Int):M B:=a0B (find id) fun x=>f1P x.root
def t0W (id:Int):M (B×Int):=a0B (i0I (c1V id)) fun r=>if r.1=0 then ret (a1I (a0T 32) r.2,0)else fun s=>(.big,s)
end
end Go.Sb
namespace Go.Proofs.Q
open Go.Sl Go.Sb
section
abbrev t2H (x:Nat×Int):Value:= .agg #[.int .i64 x.1,.int .i64 x.2]
def JB {C:Type} (J Jx:C→a0E) (p:Bool×C):a0E:=if p.1 then J p.2 else Jx p.2
theorem l2S {C:Type} {J Jx:C→a0E} {p:Bool×C} (h:p.1=true):JB J Jx p=J p.2:=by unfold JB;rw[if_pos h]
theorem l2T {C:Type} {J Jx:C→a0E} {p:Bool×C} (h:p.1=false):JB J Jx p=Jx p.2:=by unfold JB;rw[if_neg (by rw[h];simp)]
abbrev c2F {C:Type} (r:Nat) (J Jx:C→a0E) (see:Nat×Int→C→Bool×C) (m:C→Nat) (bd:Nat):Prop:= ∀x c,m c<bd→h1P Tryz.prog r #[t2H x] [J c] (fun e L'=>e= .returned (.bool (see x c).1)∧L'= [JB J Jx (see x c)])
abbrev c1W (W:World) (a:Ad) (s:St) {C:Type} (r:Nat) (J Jx:C→a0E) (see:Nat×Int→C→Bool×C) (m:C→Nat) (bd:Nat) (level:Nat):Prop:= ∀(at_:Int) (from_:Nat) (c:C) (ys:List (Nat×Int)),lvs level from_ at_ s=some ys→m c+ys.length≤bd→from_+1000*level≤100000→
 a0S Tryz.prog 256 #[ptr a.maps,.int .i64 at_,.int .i64 level,.int .i64 from_,.func (.yield r) #[] #[]] (RS W a s++ [J c]) (b0G (.bool (f0V see ys c).1) (RS W a s++ [JB J Jx (f0V see ys c)]))
theorem l2U {g:Nat→Int→Option (List (Nat×Int))} {i:Nat} {kids:List Int} {ys:List (Nat×Int)} (hi:i<kids.length) (h:lvK g i (kids.drop i)=some ys): ∃a b,g i (kids.getD i 0)=some a∧lvK g (i+1) (kids.drop (i+1))=some b∧ys=a++b:=by
 rw[List.drop_eq_getElem_cons hi]at h
 unfold lvK at h
 obtain⟨a,h1,h2⟩:=Option.bind_eq_some_iff.1 h
 obtain⟨b,h3,h4⟩:=Option.map_eq_some_iff.1 h2
 exact⟨a,b,by rw[List.getD_eq_getElem?_getD,List.getElem?_eq_getElem hi];exact h1,h3,h4.symm⟩
theorem c1X {C:Type} (see:Nat×Int→C→Bool×C) (x:Nat×Int) (l:List (Nat×Int)) (c:C):f0V see (x::l) c=if(see x c).1 then f0V see l (see x c).2 else(false,(see x c).2):=rfl
theorem l1J {C:Type} {see:Nat×Int→C→Bool×C} {mu:C→Nat} (hmu: ∀x c,mu (see x c).2≤mu c+1): ∀(l:List (Nat×Int)) (c:C),mu (f0V see l c).2≤mu c+l.length
 | [],c=>by show mu c≤_;omega
 |x::l,c=>by
  rw[c1X]
  have h1:=hmu x c
  split
  ·have h2:=l1J hmu l (see x c).2
   simp only[List.length_cons];omega
  ·simp only[List.length_cons];omega
theorem l2V {C:Type} (see:Nat×Int→C→Bool×C) (c:C):f0V see [] c=(true,c):=rfl
theorem p2X {s:St} {from_ level i:Nat} {k:Int} {xs:List (Nat×Int)} (hk:k=0) (h:e1F s from_ level i k=some xs):xs= []:=by
 subst hk
 cases level<;>exact(Option.some.inj h).symm
theorem p2Y {s:St} {from_ level i:Nat} {k:Int} {xs:List (Nat×Int)} (hl:level=0) (hk: ¬k=0) (h:e1F s from_ level i k=some xs):xs= [(from_+i,k)]:=by
 subst hl
 have h1:some (if k=0 then []else [(from_+i,k)])=some xs:=h
 rw[if_neg hk]at h1
 exact(Option.some.inj h1).symm
theorem p2Z {s:St} {from_ m i:Nat} {k:Int} {xs:List (Nat×Int)} (hk: ¬k=0) (h:e1F s from_ (m+1) i k=some xs):lvs m (from_+i*8^(m+1)) k s=some xs:=by
 have h1:(if k=0 then some []else lvs m (from_+i*8^(m+1)) k s)=some xs:=h
 rwa [if_neg hk]at h1
theorem pow8 {l:Nat} (h:l<3):1≤8^l∧8^l≤64∧8^(l+1)/8=8^l:=by
 rcases l with _|_|_|l
 ·decide
 ·decide
 ·decide
 ·omega
attribute [local irreducible] Sl.a0L Sl.OW Sl.CW Sl.OS Sl.OM Sl.OMf Sl.KM
theorem f1B (W:World) (a:Ad) (s:St) {C:Type} (r:Nat) (J Jx:C→a0E) (see:Nat×Int→C→Bool×C) (mu:C→Nat) (bd:Nat) (hmu: ∀x c,mu (see x c).2≤mu c+1) (hy:c2F r J Jx see mu bd) (level:Nat) (hl:level<3) (ih: ∀m,level=m+1→c1W W a s r J Jx see mu bd m):c1W W a s r J Jx see mu bd level:=by
 intro at_ from_ c ys hv hbd hf
 rw[s2D]at hv
 obtain⟨n,hn⟩: ∃n,(Go.Sb.load at_ level s).1= .ok n:=by
  cases ho:(Go.Sb.load at_ level s).1 with
  |ok n=>exact⟨n,rfl⟩
  |err e=>rw[ho]at hv;cases hv
  |big=>rw[ho]at hv;cases hv
 rw[hn]at hv
 have hv:lvK (e1F s from_ level) 0 n.kids=some ys:=hv
 have hload:Go.Sb.load at_ level s=(.ok n,s):=by
  have h1:Go.Sb.load at_ level s=(.ok n,(Go.Sb.load at_ level s).2):=by rw[←hn]
  have h2:=(i0H h1).1
  rw[h1,h2]
 have hln:=(i0H hload).2
 have k:=r0S W a s at_ level
 rw[hload]at k
 have kload:=k.ran_ok
 have h8:n.kids.length=8:=hln.n
 obtain⟨p1,p2,p3⟩:=pow8 hl
 obtain⟨sp,hsp⟩: ∃sp,sp=8^level:=⟨_,rfl⟩
 rw[←hsp]at p1 p2 p3
 simp only[List.cons_append,List.nil_append]
 refine a0C Tryz.func256 rfl Tryz.ntmps256 rfl (fun R w0=> ?_)
 simp only[a0N,List.cons_append,List.nil_append]
 refine go 8 ?_
 refine a0D rfl Hb.o rfl (m1S level hl) gSp ?_
 refine ns ?_
 refine go 1 ?_
 rw[show(((8^(level+1):Nat):Int))/8=(sp:Int) by omega]
 refine go 9 ?_
 refine a0D rfl Hb.o rfl (kload) gSp ?_
 refine ns ?_
 refine a0F (r0X (v:=(n.kids.map a0V).toArray) F.fa182_1 rfl (r1U hln)) ?_
 refine go 4 ?_
 refine b0S (X:= {y:Nat×C×List (Nat×Int) // y.1≤8∧lvK (e1F s from_ level) y.1 (n.kids.drop y.1)=some y.2.2∧mu y.2.1+y.2.2.length≤bd∧f0V see ys c=f0V see y.2.2 y.2.1}) (fun y=> [(0,ptr a.maps),(2,.int .i64 level),(3,.int .i64 from_),(4,.func (.yield r) #[] #[]),(11,.int .i64 sp),(21,.agg (n.kids.map a0V).toArray),(22,.int .i64 y.1.1)]) (fun y=>RS W a s++ [J y.1.2.1,R]) (fun y=>8-y.1.1) ⟨(0,c,ys),Nat.zero_le 8,hv,hbd,rfl⟩ gSu gSp ?_
 rintro⟨⟨i,c',zs⟩,hi,hz,hb,he⟩ m0 hm0
 try simp only at hm0
 try dsimp only
 simp only at hi hz hb he
 simp only[List.cons_append,List.nil_append]
 refine go 6 ?_
 refine b0C rfl (fun hb23=> ?_) (fun hb23=> ?_)
 ·have hi8:i<8:=by have:=of_decide_eq_true hb23;omega
  obtain⟨xs,ws,h1,h2,rfl⟩:=l2U (by omega) hz
  rw[List.length_append]at hb
  refine go 7 ?_
  refine a0F (q0Y Tar.o Sc.o rfl rfl (by omega) (n0W a0V n.kids i _ (by omega) (by omega))) ?_
  rw[←z0Z (l:=n.kids) (by omega)]
  refine go 6 ?_
  by_cases hk:n.kids.getD i 0=0
  ·refine go 6 ?_
   refine d0W rfl (by rw[hk];rfl) ?_
   refine go 6 ?_
   have hx0:xs= []:=p2X hk h1
   rw[hx0,List.nil_append]at he
   refine b0Q (fun _ _ h=>h) (⟨(i+1,c',ws),by(show i+1≤8);omega,h2,by(show mu c'+ws.length≤bd);omega,he⟩) (by first|omega| (simp only;omega)) gSu gSp
  ·refine go 6 ?_
   refine c0C rfl (by simpa using hk) ?_
   refine go 1 ?_
   by_cases hlv:level=0
   ·refine go 6 ?_
    refine d0W rfl (by rw[hlv];rfl) ?_
    refine go 1 ?_
    have hx1:xs= [(from_+i,n.kids.getD i 0)]:=p2Y hlv hk h1
    have hm1:=hmu (from_+i,n.kids.getD i 0) c'
    rw[hx1,List.length_singleton]at hb
    rw[hx1,List.singleton_append,c1X]at he
    refine z1H ?_
    refine f1N (l0R rfl) ?_
    refine f1N (l0R rfl) ?_
    refine f1N (l0R rfl) ?_
    refine f1N (o1R rfl rfl (by omega)) ?_
    rw[show((from_:Nat):Int)+((i:Nat):Int)=((from_+i:Nat):Int) by omega]
    refine f1N (l0R rfl) ?_
    refine f1N (r0J Pl.o rfl (by simp[d0B,nth,Value.cells]<;>rfl)) ?_
    refine i2J rfl rfl (hy (from_+i,n.kids.getD i 0) c' (by omega)) gSp ?_
    refine ns ?_
    refine f1N (h1B rfl) ?_
    refine q2Y ?_
    refine go 1 ?_
    refine b0C rfl (fun hb39=> ?_) (fun hb39=> ?_)
    ·have hs1:(see (from_+i,n.kids.getD i 0) c').1=false:=by have h:=hb39;simpa using h
     rw[if_neg (by rw[hs1];simp)]at he
     rw[l2T hs1,he]
     refine go 5 ?_
     refine b0V (fun _ _ h=>h) rfl rfl gSp
    ·have hs1:(see (from_+i,n.kids.getD i 0) c').1=true:=by have h:=hb39;simpa using h
     rw[if_pos hs1]at he
     rw[l2S hs1]
     refine go 6 ?_
     refine b0Q (fun _ _ h=>h) (⟨(i+1,(see (from_+i,n.kids.getD i 0) c').2,ws),by(show i+1≤8);omega,h2,by(show mu (see (from_+i,n.kids.getD i 0) c').2+ws.length≤bd);omega,he⟩) (by first|omega| (simp only;omega)) gSu gSp
   ·refine go 6 ?_
    refine c0C rfl (by simp;omega) ?_
    refine go 1 ?_
    obtain⟨m,rfl⟩: ∃m,level=m+1:=⟨level-1,by omega⟩
    have hx2:lvs m (from_+i*sp) (n.kids.getD i 0) s=some xs:=by rw[hsp];exact p2Z hk h1
    have hmul:i*sp≤7*64:=Nat.mul_le_mul (by omega) p2
    refine go 5 ?_
    rw[show(((m+1:Nat):Int))-1=(m:Int) by omega]
    refine go 5 ?_
    rw[show((from_:Nat):Int)+((i:Nat):Int)*((sp:Nat):Int)=((from_+i*sp:Nat):Int) by rw[Int.natCast_add,Int.natCast_mul]]
    refine go 1 ?_
    refine a0D rfl Hb.o rfl (ih m rfl (n.kids.getD i 0) (from_+i*sp) c' xs hx2 (by omega) (by omega)) gSp ?_
    refine ns ?_
    refine go 1 ?_
    rw[s1M]at he
    have hm1:=l1J hmu xs c'
    refine go 3 ?_
    refine b0C rfl (fun hb40=> ?_) (fun hb40=> ?_)
    ·have hs1:(f0V see xs c').1=false:=by have h:=hb40;simpa using h
     rw[if_neg (by rw[hs1];simp)]at he
     rw[l2T hs1,he]
     refine go 5 ?_
     refine b0V (fun _ _ h=>h) rfl rfl gSp
    ·have hs1:(f0V see xs c').1=true:=by have h:=hb40;simpa using h
     rw[if_pos hs1]at he
     rw[l2S hs1]
     refine go 6 ?_
     refine b0Q (fun _ _ h=>h) (⟨(i+1,(f0V see xs c').2,ws),by(show i+1≤8);omega,h2,by(show mu (f0V see xs c').2+ws.length≤bd);omega,he⟩) (by first|omega| (simp only;omega)) gSu gSp
 ·obtain rfl:i=8:=by have:=of_decide_eq_false hb23;omega
  have hz0:zs= []:=by rw[List.drop_of_length_le (by omega)]at hz;unfold lvK at hz;exact(Option.some.inj hz).symm
  rw[hz0,l2V]at he
  rw[he]
  refine go 7 ?_
  refine b0V (fun _ _ h=>h) rfl rfl gSp
end
section
abbrev l0P (b core:Nat) (c:Rx):a0E:=pts b (.cells #[ptr core,c.lv,.int .i64 c.next,.int .i64 c.bits,.int .i64 c.epoch] 37 (0,0))
def s1N (e:Int) (b:Bool):Value:= .tuple #[.int .i64 e,.int .i64 e,.bool b]
attribute [local irreducible] Sl.a0L Sl.OW Sl.CW Sl.OS Sl.OM Sl.OMf Sl.KM
theorem g1P (bw core:Nat) (n m e:Int) (c y:Rx) (hy: ∀u∈a0P y,u.oneCell'=true) (hn:0≤n∧n<4294967296) (h1:e=0→n=m) (h2:e≠0→n=0):
 a0S Tryz.prog 43 #[ptr bw,.int .u32 n,.int .i64 m,e0X y,.int .i64 e,.int .i64 e] [l0P bw core c] (b0G (s1N e true) [l0P bw core (if e=0 then y else c)]):=by
 by_cases he:e=0
 ·subst he
  obtain rfl:=h1 rfl
  rw[if_pos rfl]
  refine a0C Tryz.func43 rfl Tryz.ntmps43 rfl (fun R w0=> ?_)
  simp only[a0N,List.cons_append,List.nil_append,e0X]
  refine go 2 ?_
  refine(a0X rfl (fun b9=> ?_))
  refine go 20 ?_
  refine a0F (a0O (v:=(a0P y).toArray) Ag.o rfl (by simp[Value.cells,a0P]) (a0I (by simp[Value.cells,a0P]))) ?_
  refine go 2 ?_
  refine a0K Sz.o rfl rfl rfl (fun u hu=>hy u (by simpa using hu)) (by simp[a0P]) (by simp[i0N,a0P];rfl) ?_
  refine go 15 ?_
  refine b0V (fun _ _ h=>h) rfl (by unfold s1N;simp[i0O .i64 n hn.1 (by show n<9223372036854775808;omega)]) gSp
 ·obtain rfl:=h2 he
  rw[if_neg he]
  refine a0C Tryz.func43 rfl Tryz.ntmps43 rfl (fun R w0=> ?_)
  simp only[a0N,List.cons_append,List.nil_append,e0X]
  refine go 2 ?_
  refine(a0X rfl (fun b9=> ?_))
  refine go 11 ?_
  refine f0D rfl (fun a w hh=>(b0E rfl rfl rfl hh).trans (wTF (by simpa using he))) ?_
  refine f0D rfl (fun a w hh=>(b0E rfl rfl rfl hh).trans (wTF (by simpa using he))) ?_
  refine a0F (n0R rfl (by simpa using he) rfl) ?_
  refine go 12 ?_
  refine g0M (l0R rfl) (fun a w hh=>(b0E rfl rfl rfl hh).trans (wFF (by simpa using he))) ?_
  refine g0M (y1X rfl rfl) (fun a w hh=>(b0E rfl rfl rfl hh).trans (wFF (by simpa using he))) ?_
  refine a0F (n0R rfl (by simpa using he) rfl) ?_
  refine go 5 ?_
  refine b0V (fun _ _ h=>h) rfl (by unfold s1N;simp) gSp
end
end Go.Proofs.Q
namespace Go.Proofs.Q
section
open Go
end
end Go.Proofs.Q
namespace Go.Proofs.Q
open Go.Sl Go.Sb
section
def Fit (s:St):Prop:=s.bits≤256∧s.vols.length≤1000
def s1O:B:=List.replicate 64 120
def c1Y (s0:St):Prop:= ∃s1 s2 s3 s4 s5:St,(Fit s0∧Fit s1∧Fit s2∧Fit s3∧Fit s4)∧g0J 5 s0=(.ok (1,0),s1)∧h0E 1 4 s1O s1=(.ok 0,s2)∧h0X 1 true s2=(.ok (2,0),s3)∧h0E 2 0 [] s3=(.ok 7,s4)∧h0E 1 5 s1O s4=(.ok 6,s5)
section
variable {W:World} {s t:St}
theorem j1M {size:Int} {p:Int×Int} (hf:Fit s) (h:g0J size s=(.ok p,t)) (a:Ad):a0S Tryz.prog 38 #[ptr a.core,.int .i64 size] (RS W a s) (b0G (x0N p) (RS W a t)):=by
 have k:=s1J W a s size hf.2 (by rw[h];simp)
 rw[h]at k;exact k.ran_ok
theorem x0O (hW:h0L W) {id at_:Int} {data:B} {e:Int} (hf:Fit s) (hd:data.length≤100000) (h:h0E id at_ data s=(.ok e,t)) (a:Ad):a0S Tryz.prog 21 #[ptr a.core,.int .u32 id,.int .i64 at_,b0H data] (RS W a s) (b0G (a0V e) (RS W a t)):=by
 have k:=v1Q W hW a s id at_ data hf.1 hd hf.2 (by rw[h];simp)
 rw[h]at k;exact k.ran_ok
theorem s1P {id:Int} {p:Int×Int} (hf:Fit s) (h:h0X id true s=(.ok p,t)) (a:Ad):a0S Tryz.prog 40 #[ptr a.core,.int .u32 id] (RS W a s) (b0G (x0N p) (RS W a t)):=by
 have k:=b2X W a s id hf.2 (by rw[h];simp)
 rw[h]at k;exact k.ran_ok
theorem l2W {id at_ n:Int} {p:B×Int} (h:o0T id at_ n s=(.ok p,t)) (a:Ad):a0S Tryz.prog 19 #[ptr a.core,.int .u32 id,.int .i64 at_,.int .i64 n] (RS W a s) (b0G (b2Z p) (RS W a t)):=by
 have k:=l2Q W a s id at_ n (by rw[h];simp)
 rw[h]at k;exact k.ran_ok
end
set_option maxRecDepth 8000
attribute [local irreducible] Sl.a0L Sl.OW Sl.CW Sl.OS Sl.OM Sl.OMf Sl.KM
theorem c2G (W:World) (hW:h0L W) (hA:c1Y (j0U (g0G 100) 2 256 1)):a0S Tryz.prog 10 #[] [whole W] (b0G (.bool true) [whole W]):=by
 obtain⟨s1,s2,s3,s4,s5,⟨f0,f1,f2,f3,f4⟩,h1,h2,h3,h4,h5⟩:=hA
 have k1:=fun a=>j1M (W:=W) f0 h1 a
 have k2:=fun a=>x0O (W:=W) hW f1 (by simp[s1O]) h2 a
 have k3:=fun a=>s1P (W:=W) f2 h3 a
 have k4:=fun a=>x0O (W:=W) hW f3 (by simp) h4 a
 have k5:=fun a=>x0O (W:=W) hW f4 (by simp[s1O]) h5 a
 have hr:=w1S [120] 64 (by simp) (by omega)
 have hxs:(List.replicate 64 [(120:UInt8)]).flatten=s1O:=rfl
 rw[hxs]at hr
 refine a0C Tryz.func10 rfl Tryz.ntmps10 rfl (fun R w0=> ?_)
 simp only[a0N,List.cons_append,List.nil_append]
 refine go 7 ?_
 refine a0W rfl Hb.o rfl (n1Q W 98 256 (by omega) (by omega)) gSp ?_
 rintro⟨a,bw⟩ _
 refine ns ?_
 refine go 23 ?_
 refine a0D rfl Hb.o rfl (k1 a) gSp ?_
 refine ns ?_
 refine go 8 ?_
 refine d0H (.soft 0 (.soft 1 (.soft 2 (.soft 3 (.hard 4 (.hard 5 (.soft 6 .done))))))) [s1L bw a.core 256] Fol.o (by kernel_rfl) (by repeat (first|with_reducible exact a0J.bp|with_reducible apply a0J.then|with_reducible apply a0J.inBlock)) gSp ?_
 refine go 5 ?_
 refine a0D rfl Hb.o rfl (hr) gSp ?_
 refine ns ?_
 refine go 3 ?_
 refine a0D rfl Hb.o rfl (k2 a) gSp ?_
 refine ns ?_
 refine go 11 ?_
 refine a0D rfl Hb.o rfl (k3 a) gSp ?_
 refine ns ?_
 refine go 8 ?_
 refine d0H (.soft 0 (.soft 1 (.soft 2 (.soft 3 (.soft 4 (.soft 5 (.soft 6 (.soft 7 (.soft 8 (.soft 9 (.soft 10 (.soft 11 (.soft 12 (.soft 13 (.soft 14 (.soft 15 (.soft 16 (.soft 17 (.soft 18 (.soft 19 (.soft 20 (.soft 21 (.soft 22 (.hard 23 (.soft 24 (.soft 25 (.soft 26 (.soft 27 (.soft 28 (.soft 29 (.soft 30 (.hard 31 (.hard 32 (.soft 33 (.soft 34 (.soft 35 .done)))))))))))))))))))))))))))))))))))) [s1L bw a.core 256] Fol.o (by kernel_rfl) (by repeat (first|with_reducible exact a0J.bp|with_reducible apply a0J.then|with_reducible apply a0J.inBlock)) gSp ?_
 refine go 24 ?_
 refine m0S (fun a w hh=>(b0E rfl rfl rfl hh).trans (wTT rfl)) ?_
 refine a0D rfl Hb.o rfl (k4 a) gSp ?_
 refine ns ?_
 refine go 10 ?_
 refine m0S (fun a w hh=>(b0E rfl rfl rfl hh).trans (wTT rfl)) ?_
 refine a0D rfl Hb.o rfl (hr) gSp ?_
 refine ns ?_
 refine go 3 ?_
 refine m0S (fun a w hh=>(b0E rfl rfl rfl hh).trans (wTT rfl)) ?_
 refine a0D rfl Hb.o rfl (k5 a) gSp ?_
 refine ns ?_
 refine go 7 ?_
 refine b0V (fun _ _ h=>h) rfl rfl gSp
end
end Go.Proofs.Q
namespace Go.Proofs.Q
open Go
theorem F.fs50_4:Sl.o0B Tryz.prog 50 4 4 0 false=true:=by kernel_rfl
instance:Sl.Hb Tryz.prog 51:=⟨by kernel_rfl⟩
instance:Sl.Hb Tryz.prog 52:=⟨by kernel_rfl⟩
instance:Sl.Hb Tryz.prog 70:=⟨by kernel_rfl⟩
instance:Sl.Hb Tryz.prog 71:=⟨by kernel_rfl⟩
instance:Sl.Hb Tryz.prog 72:=⟨by kernel_rfl⟩
instance:Sl.Hb Tryz.prog 122:=⟨by kernel_rfl⟩
instance:Sl.Hb Tryz.prog 123:=⟨by kernel_rfl⟩
instance:Sl.Hb Tryz.prog 124:=⟨by kernel_rfl⟩
instance:Sl.Hb Tryz.prog 120:=⟨by kernel_rfl⟩
instance:Sl.Hb Tryz.prog 121:=⟨by kernel_rfl⟩
instance:Sl.Sc Tryz.prog 129:=⟨by kernel_rfl⟩
end Go.Proofs.Q
namespace Go.Proofs.Q
section
open Go
end
end Go.Proofs.Q
namespace Go.Proofs.Q
open Go
instance:Sl.Ag Tryz.prog 244 2:=⟨by kernel_rfl⟩
instance:Sl.Fl Tryz.prog 244 0 0:=⟨by kernel_rfl⟩
instance:Sl.Hb Tryz.prog 168:=⟨by kernel_rfl⟩
instance:Sl.Tsl Tryz.prog 241 244 2:=⟨by kernel_rfl⟩
instance:Sl.Sz Tryz.prog 244 2:=⟨by kernel_rfl⟩
instance:Sl.Zr Tryz.prog 244 (.agg #[.int .i64 (0),.int .i64 (0)]):=⟨by kernel_rfl⟩
instance:Sl.Hb Tryz.prog 205:=⟨by kernel_rfl⟩
instance:Sl.Hb Tryz.prog 255:=⟨by kernel_rfl⟩
instance:Sl.Sc Tryz.prog 241:=⟨by kernel_rfl⟩
instance:Sl.Sz Tryz.prog 241 1:=⟨by kernel_rfl⟩
instance:Sl.Ttb Tryz.prog 244 16:=⟨by kernel_rfl⟩
instance:Sl.Zr Tryz.prog 241 (.slice none 0 0):=⟨by kernel_rfl⟩
end Go.Proofs.Q
