/- Part of the proof; no statement of its own. -/
import Derived.Test.YtpinhnikemamjaaGreatDoorN18
import Derived.Test.YtpinhnikemamjaaGreatDoorN23
import Derived.Test.YtpinhnikemamjaaGreatDoorN29
import Derived.Test.YtpinhnikemamjaaGreatDoorN34
import Derived.Test.YtpinhnikemamjaaGreatDoorN24
import Derived.Test.YtpinhnikemamjaaGreatDoorN17
import Derived.Test.YtpinhnikemamjaaGreatDoorN15
import Derived.Test.YtpinhnikemamjaaGreatDoorN07
import Derived.Test.YtpinhnikemamjaaGreatDoorN32
set_option linter.all false
set_option maxRecDepth 4000
set_option maxHeartbeats 4000000
attribute [local irreducible] Go.Sl.a0O Go.Sl.OW Go.Sl.CW Go.Sl.OS Go.Sl.OM Go.Sl.OMf Go.Sl.KM
namespace Go.Proofs.Q
open Go.Sl Go.Sb Tryz
theorem w1G (W:World) (hW:h0W W) (a:Ad) (s:St) (id size:Int) (hbits:s.bits≤256) (hvl:s.vols.length≤1000) (hnb:(r0V id size s).1≠ .big):
 a0F prog 23 #[ptr a.core,.int .u32 id,.int .i64 size] (RS W a s) (Ran fT (RS W a) a0J (r0V id size s)):=by
 have e0:r0V id size s=a0B (h0V (e0O 0 (l0L id size))) (fun r=>ret r.1) s:=rfl;refine en func23 ntmps23 fun R w0=> ?_;refine go 2 ?_;refine bx fun b3=> ?_;refine bx fun b4=> ?_;refine bx fun b5=> ?_;refine go 7 ?_;refine e0K (k0Z (N:= [g0B b3 a,j0O b4 id,f0L b5 size]) gSp) ?_;refine a0X rfl Hb.o rfl (v0A W a (w1E a b3 b4 b5 id size) (fun _:Unit=>b0D []) 0 72 [ptr b3,ptr b4,ptr b5] (l0L id size) s Hb.o (by omega) hvl (w1F W hW a b3 b4 b5 id size s.bits hbits) (by rw[e0]at hnb;exact c0I hnb)) gSp (fun e ⟨t,oc⟩ ho=> ?_) (fun e t ho=>by refine pn ?_;(exact(m0F ho).elim));refine ns ?_;refine go 3 ?_;exact rR idh (e0.trans (a0A (s0M ho)))
abbrev k2X (a:Ad) (b0 b1 b2 b3:Nat) (id at_ n:Int):a0C:=b0D [g0B b0 a,j0O b1 id,f0L b2 at_,f0L b3 n]
theorem f2Q (W:World) (hW:h0W W) (a:Ad) (b0 b1 b2 b3:Nat) (id at_ n:Int) (bits:Nat) (hbits:bits≤256):
 r0G W a (k2X a b0 b1 b2 b3 id at_ n) (fun _:Unit=>b0D []) 70 [ptr b0,ptr b1,ptr b2,ptr b3] bits (r0D id at_ n):=by
 intro s hsb hnb;have e0:r0D id at_ n s=a0B (l0H id) (fun x=>a0B (g0S x at_ n) fun _=>a0B (h0K x at_.toNat (at_+n).toNat) l0Q) s:=rfl;refine ns ?_;refine en func70 ntmps70 fun R w0=> ?_;refine k0Q (show Fnd _ (b0D [g0B b0 a,j0O b1 id,f0L b2 at_,f0L b3 n]) _ from gFd) ?_;refine ns ?_;refine go 4 ?_;refine a0X rfl Hb.o rfl (c1F W a s id) gSp (fun x t ho=> ?_) (fun e t ho=>by refine pn ?_;(refine b0G (fun w h=>b0Y h) ?_;exact b0W (c0L (e0.trans (a0I ho))) idh gSp));refine ns ?_;have hpb:=i1Z id s;rw[ho]at hpb;have hpb:t.bits=s.bits:=hpb;have e1:=e0.trans (a0A ho);clear ho;refine al fun b4=> ?_;refine go 8 ?_;refine a0X rfl Hb.o rfl (z0G W a t x at_ n (by rw[e1]at hnb;exact c0I hnb)) gSp (fun v t2 ho=> ?_) (fun e t ho=>by refine pn ?_;(refine b0G (fun w h=>b0Y h) ?_;exact b0W (c0L (e1.trans (a0I ho))) idh gSp));refine ns ?_;refine go 1 ?_;obtain⟨h1,h2,h3,h4,h5⟩:=v0Z ho;rw[h1]at ho ⊢;have e2:=e1.trans (a0A ho);clear ho;obtain⟨k,rfl⟩: ∃k:Nat,at_=k:=⟨at_.toNat,by omega⟩;obtain⟨m,rfl⟩: ∃k:Nat,n=k:=⟨n.toNat,by omega⟩;rw[Int.toNat_natCast,show(((k:Nat):Int)+((m:Nat):Int)).toNat=k+m by omega]at e2;refine go 8 ?_;rw[show((k:Nat):Int)+((m:Nat):Int)=((k+m:Nat):Int) by omega];refine a0X rfl Hb.o rfl (g1Z W hW a t b4 x k (k+m) (by omega) (by omega) (by rw[e2]at hnb;exact c0I hnb)) gSp (fun v ⟨t3,ox⟩ ho=> ?_) (fun e t ho=>by refine pn ?_;(obtain⟨t1,t2⟩:=t;obtain⟨hx,hm⟩:=q0O ho;obtain rfl:t2=none:=congrArg Prod.snd hx;have hm:_=(Out.err e,t1):=hm;simp only[RSo,List.cons_append,List.nil_append];have e4:r0D id (k:Int) (m:Int) s=(.err e,t1):=e2.trans (a0I hm);refine b0G (fun w h=>b0Y h) ?_;exact b0W (c0L e4) idh gSp));refine ns ?_;refine go 1 ?_;obtain⟨y,hx,hm⟩:=s0L ho;obtain rfl:ox=some y:=congrArg Prod.snd hx;have hm:_=(Out.ok y,t3):=hm;simp only[RSo,List.cons_append,List.nil_append];have e3:r0D id (k:Int) (m:Int) s=l0Q y t3:=e2.trans (a0A hm);refine go 4 ?_;refine a0X rfl Hb.o rfl (u0Y W a t3 y (by rw[e3]at hnb;exact hnb)) gSp (fun v t4 ho=> ?_) (fun e t ho=>by refine pn ?_;(refine b0G (fun w h=>b0Y h) ?_;exact b0W (c0L (e3.trans ho)) idh gSp));refine ns ?_;refine go 1 ?_;refine b0G (fun w h=>b0Y h) ?_;exact fR (s:=(t4,.done ())) (m0I (e3.trans ho))
theorem f2R (W:World) (hW:h0W W) (a:Ad) (s:St) (id at_ n:Int) (hbits:s.bits≤256) (hvl:s.vols.length≤1000) (hnb:(x0G id at_ n s).1≠ .big):
 a0F prog 22 #[ptr a.core,.int .u32 id,.int .i64 at_,.int .i64 n] (RS W a s) (Ran fT (RS W a) a0J (x0G id at_ n s)):=by
 have e0:x0G id at_ n s=a0B (h0V (e0O 0 (r0D id at_ n))) (fun r=>ret r.1) s:=rfl;refine en func22 ntmps22 fun R w0=> ?_;refine go 2 ?_;refine bx fun b4=> ?_;refine bx fun b5=> ?_;refine bx fun b6=> ?_;refine bx fun b7=> ?_;refine go 7 ?_;refine e0K (k0Z (N:= [g0B b4 a,j0O b5 id,f0L b6 at_,f0L b7 n]) gSp) ?_;refine a0X rfl Hb.o rfl (v0A W a (k2X a b4 b5 b6 b7 id at_ n) (fun _:Unit=>b0D []) 0 70 [ptr b4,ptr b5,ptr b6,ptr b7] (r0D id at_ n) s Hb.o (by omega) hvl (f2Q W hW a b4 b5 b6 b7 id at_ n s.bits hbits) (by rw[e0]at hnb;exact c0I hnb)) gSp (fun e ⟨t,oc⟩ ho=> ?_) (fun e t ho=>by refine pn ?_;(exact(m0F ho).elim));refine ns ?_;refine go 3 ?_;exact rR idh (e0.trans (a0A (s0M ho)))
theorem y1Q (W:World) (a:Ad) (s:St) (id:Int) (hvl:s.vols.length≤1000) (hnb:(i0G id false s).1≠ .big):a0F prog 44 #[ptr a.core,.int .u32 id] (RS W a s) (Ran fT (RS W a) y0Q (i0G id false s)):=by
 refine en func44 ntmps44 fun R w0=> ?_;refine go 10 ?_;refine a0X rfl Hb.o rfl (l1O W a s id false hvl hnb) gSp (fun p t ho=> ?_) (fun e t ho=>by refine pn ?_;exact kx (ho));refine ns ?_;refine go 6 ?_;exact rR idh ho
theorem y1R (W:World) (a:Ad) (s:St) (n:Int):a0F prog 47 #[ptr a.core,.int .u32 n] (RS W a s) (a0T (.tuple #[]) (RS W a {s with epoch:=n})):=by
 refine en func47 ntmps47 fun R w0=> ?_;refine e0J gFd fun by_ gv gc o hg hok=> ?_;simp only[d0M,o0J,c0Y,List.cons_append,List.nil_append];refine go 7 ?_;refine b0G (d0A (s:= {s with epoch:=n}) hg hok gSp) (d0W rfl rfl gSp)
theorem f2S (W:World) (a:Ad) (s:St):a0F prog 33 #[ptr a.core] (RS W a s) (a0T (.int .u32 s.next) (RS W a s)):=by
 refine en func33 ntmps33 fun R w0=> ?_;refine go 10 ?_;refine a0D (j0K Sc.o rfl gFd rfl) ?_;refine go 3 ?_;exact rG
section
theorem k2Y (W:World) (a:Ad) (s:St) (root:Int):a0F prog 52 #[ptr a.maps,.int .i64 root] (RS W a s) (Ran fT (RS W a) e0C (h1P root s)):=by
 have e0:h1P root s=a0B (Go.Sb.load root 2) (fun n=>ret n.sum) s:=rfl;refine en func52 ntmps52 fun R w0=> ?_;refine go 2 ?_;refine al fun b4=> ?_;refine go 6 ?_;refine a0X rfl Hb.o rfl (q0N W a s root 2) gSp (fun x t ho=> ?_) (fun e t ho=>by refine pn ?_;exact kx ((by rw[e0];exact a0I ho)));refine ns ?_;have hln:=(h0U ho).2;have e1:=e0.trans (a0A ho);have hs2:(x.sum.map a0Q).toArray.size=32:=by rw[List.size_toArray,List.length_map,hln.sum]
 refine a0D (o0Q (v:=(x.sum.map a0Q).toArray) F.fa182_2 rfl (a2P hln)) ?_;refine a0M Sz.o rfl rfl hs2 (fun x hx=>by simp at hx;obtain⟨_,_,rfl⟩:=hx;rfl) (by rw[hs2];simp[Value.cells]) (a0N (by rw[hs2];simp[Value.cells])) ?_;refine go 2 ?_;exact j0R e1 idh (RV.agg Ag.o rfl (by rw[hs2];omega) (a0G hs2) RV.nil) rfl gSp
theorem p2V {root:Int} {s t:St} {v:B} (h:h1P root s=(.ok v,t)):v.length=32:=by
 unfold h1P at h;cases hg:Go.Sb.load root 2 s with
 |mk o u=>
  cases o with
  |ok x=>rw[a0A hg]at h;cases h;exact(h0U hg).2.sum
  |err e=>rw[a0I hg]at h;cases h
  |big=>unfold a0B at h;rw[hg]at h;cases h
abbrev x0Z (b:Nat) (v:B):a0C:=pts b (.cells (v.map a0Q).toArray 44 (0,0))
abbrev q2R (a:Ad) (b0 b1 b2:Nat) (id:Int):a0C:=b0D [g0B b0 a,j0O b1 id,x0Z b2 (a0K 32)]
theorem f2T (W:World) (a:Ad) (b0 b1 b2:Nat) (id:Int) (bits:Nat):
 r0G W a (q2R a b0 b1 b2 id) (fun v:B=>b0D [m0K (v.length=32),x0Z b2 v]) 51 [ptr b0,ptr b1,ptr b2] bits (d1M id):=by
 intro s hsb hnb;have e0:d1M id s=a0B (find id) (fun x=>h1P x.root) s:=rfl;refine ns ?_;refine en func51 ntmps51 fun R w0=> ?_;refine k0Q (show Fnd _ (b0D [g0B b0 a,j0O b1 id,x0Z b2 (a0K 32)]) _ from gFd) ?_;refine ns ?_;refine f1J (.soft 0 (.soft 1 (.soft 2 (.soft 3 (.soft 4 (.soft 5 (.hard 6 (.soft 7 (.hard 8 (.hard 9 .done)))))))))) [HLX a,g0B b0 a,j0O b1 id] Fol.o (by kernel_rfl) (by repeat (first|with_reducible exact b0S.bp|with_reducible apply b0S.then|with_reducible apply b0S.inBlock)) (h0M gSp) ?_;refine go 3 ?_;refine c0V rfl (a1C Sc.o rfl gFd (fun _ _=>rfl)) ?_;refine go 3 ?_;refine a0X rfl Hb.o rfl (u0X W a s id) gSp (fun x t ho=> ?_) (fun e t ho=>by refine pn ?_;(refine b0G (fun w h=>b0Y h) ?_;exact b0W (c0L (e0.trans (a0I ho))) idh gSp));refine ns ?_;refine go 1 ?_;refine i0R (h0M gSp) ?_;have e1:=e0.trans (a0A ho);clear ho;refine c0V rfl (q2T F.fs50_4 rfl rfl) ?_;refine go 1 ?_;refine a0X rfl Hb.o rfl (k2Y W a t x.root) gSp (fun v t2 ho=> ?_) (fun e t ho=>by refine pn ?_;(refine b0G (fun w h=>b0Y h) ?_;exact b0W (c0L (e1.trans ho)) idh gSp));refine ns ?_;refine go 1 ?_;refine i0R (h0M gSp) ?_;refine go 1 ?_;have hvl:=p2V ho;have hs2:(v.map a0Q).toArray.size=32:=by rw[List.size_toArray,List.length_map,hvl]
 refine a0M Sz.o rfl rfl hs2 (fun x hx=>by simp at hx;obtain⟨_,_,rfl⟩:=hx;rfl) (by rw[hs2];simp[a0K]) (a0N (by rw[hs2];simp[a0K])) ?_;refine go 1 ?_;refine i0R (h0M gSp) ?_;refine go 1 ?_;refine b0G (L':=b0D [m0K (v.length=32),x0Z b2 v]::(RS W a t2++ [R])) (fun w h=>b0J.2 ?_) ?_
 ·refine ns ?_;exact n0H hvl w (h.sub gSp)
 ·exact fR (s:=(t2,.done v)) (m0I (e1.trans ho))
def q2S (p:B×Int):Value:= .tuple #[e0C p.1,.int .i64 p.2]
set_option maxRecDepth 8000
theorem k2Z (W:World) (a:Ad) (s:St) (id:Int) (hnb:(v0O id s).1≠ .big):a0F prog 13 #[ptr a.core,.int .u32 id] (RS W a s) (Ran fT (RS W a) q2S (v0O id s)):=by
 have e0:v0O id s=a0B (h0V (d1M id)) (fun r=>if r.1=0 then ret (a1Z (a0K 32) r.2,0)else fun s=>(.big,s)) s:=rfl;have hn:=c1G (show(h0V (d1M id) s).1≠ .big by rw[e0]at hnb;exact c0I hnb);refine en func13 ntmps13 fun R w0=> ?_;refine go 2 ?_;refine bx fun b2=> ?_;refine bx fun b3=> ?_;refine al fun b4=> ?_;refine go 5 ?_;refine al fun b6=> ?_;refine go 7 ?_;refine a0D (j0K Sc.o rfl gFd rfl) ?_;refine go 1 ?_;refine e0K (k0Z (N:= [g0B b2 a,j0O b3 id,x0Z b6 (a0K 32)]) gSp) ?_;refine a0X rfl Hb.o rfl (t0D (C:=Car B) W a (u0A (q2R a b2 b3 b6 id) (fun v:B=>b0D [m0K (v.length=32),x0Z b6 v])) 51 [ptr b2,ptr b3,ptr b6] (f0F (d1M id)) s .start Hb.o hn (fun h=>f2T W a b2 b3 b6 id s.bits {s with depth:=s.depth+1} rfl (e1R.1 h))) gSp (fun e ⟨t,oc⟩ ho=> ?_) (fun e t ho=>by refine pn ?_;(exact(m0F ho).elim));refine ns ?_;refine go 2 ?_;have e1:=e0.trans (a0A (s0M ho));refine go 2 ?_;have hz:e=0:=by
  by_cases h:e=0
  ·exact h
  ·rw[e1,if_neg h]at hnb;exact absurd rfl hnb
 obtain⟨y,rfl,_⟩| ⟨_,h9⟩:=g1B ho
 rotate_left
 ·exact(h9 hz).elim
 simp only[u0A];subst hz;refine k0Q (show Fnd _ (b0D [m0K (y.length=32),x0Z b6 y]) _ from gFd) ?_;refine ns ?_;refine o0E (p:=y.length=32) gFd fun hyl=> ?_;have hs2:(y.map a0Q).toArray.size=32:=by rw[List.size_toArray,List.length_map,hyl]
 refine go 1 ?_;refine a0D (a0L Ag.o rfl (by rw[hs2];omega) (a0G hs2)) ?_;refine go 1 ?_;refine a0M Sz.o rfl rfl hs2 (fun x hx=>by simp at hx;obtain⟨_,_,rfl⟩:=hx;rfl) (by rw[hs2];simp[Value.cells]) (a0N (by rw[hs2];simp[Value.cells])) ?_;refine go 3 ?_;exact j0R (by rw[e1,if_pos rfl];rfl) idh (RV.agg Ag.o rfl (by rw[hs2];omega) (a0G hs2) (RV.tmp rfl RV.nil)) rfl gSp
end
section
section
variable {W:World} {s t:St}
theorem f2U {id e:Int} (hf:Fit s) (h:r0U id s=(.ok e,t)) (a:Ad):a0F prog 74 #[ptr a.core,.int .u32 id] (RS W a s) (a0T (a0J e) (RS W a t)):=by
 have k:=w1D W a s id hf.1 hf.2 (by rw[h];simp);rw[h]at k;exact k.ran_ok
theorem f2V (hW:h0W W) {id n e:Int} (hf:Fit s) (h:r0V id n s=(.ok e,t)) (a:Ad):a0F prog 23 #[ptr a.core,.int .u32 id,.int .i64 n] (RS W a s) (a0T (a0J e) (RS W a t)):=by
 have k:=w1G W hW a s id n hf.1 hf.2 (by rw[h];simp);rw[h]at k;exact k.ran_ok
theorem p2W (hW:h0W W) {id at_ n e:Int} (hf:Fit s) (h:x0G id at_ n s=(.ok e,t)) (a:Ad):a0F prog 22 #[ptr a.core,.int .u32 id,.int .i64 at_,.int .i64 n] (RS W a s) (a0T (a0J e) (RS W a t)):=by
 have k:=f2R W hW a s id at_ n hf.1 hf.2 (by rw[h];simp);rw[h]at k;exact k.ran_ok
theorem l2A {id:Int} {p:Int×Int} (hf:Fit s) (h:i0G id false s=(.ok p,t)) (a:Ad):a0F prog 44 #[ptr a.core,.int .u32 id] (RS W a s) (a0T (y0Q p) (RS W a t)):=by
 have k:=y1Q W a s id hf.2 (by rw[h];simp);rw[h]at k;exact k.ran_ok
end
def f2W (ki ai at_ n:Int) (l:B):Value:= .agg #[.int .i64 ki,.int .i64 ai,.int .i64 at_,.int .i64 n,b0B l]
def p0X (l:B) (n:Int):B:=o0D l++if n%16=9 then [120]else []
theorem q1C (l:B) (n:Int):(p0X l n).length≤769∧((p0X l n).length%64=0→(p0X l n).length≤768):=by
 have h:=e1S l;unfold p0X;rw[List.length_append];split
 ·simp only[List.length_singleton];omega
 ·simp only[List.length_nil];omega
def w1H (e:Int) (x:b0A×Rx):Value:= .tuple #[.int .i64 e,e0R x.2,.int .i64 e]
end
abbrev ChE (H:b0A) (e:Int) (Q:Rp) (x:b0A×Rx):Prop:=(∀p∈H,p∈x.1)∧c0T x.1 x.2∧(e=0→er x.2=Q)
theorem y1S (W:World) (hW:h0W W) (a:Ad) (s t:St) (bw:Nat) (H:b0A) (c:Rx) (ki ai at_ n id e:Int) (l:B) (k:Nat) (Q:Rp) (hk:ki%256%14=(k:Int)) (hkk:k<11∧2<k) (hid:0≤id∧id<32) (hf:Fit s) (hc:c0T H c) (hsz:y0S (er c)) (hbits:c.bits≤256)
 (hA:b1J k id at_ n (p0X l n) s (er c) e t Q):a0F prog 49 #[ptr bw,f2W ki ai at_ n l,.int .u32 id] (RS W a s++ [h0N bw a.core c,b0Z H])
 (b0N (ChE H e Q) (w1H e) (fun x=>RS W a t++ [h0N bw a.core c,b0Z x.1])):=by
 have hdl:=q1C l n;have hdd:=e1S l;have hwi:IntKind.i64.wrap id=id:=e0L .i64 id hid.1 (by show id<9223372036854775808;omega);have hbd:(bs (o0D l)).size=(o0D l).length:=b0F _;refine en func49 ntmps49 fun R w0=> ?_
 try simp only[f2W]
 refine go 2 ?_;refine bx fun b4=> ?_;refine go 1 ?_;refine al fun b7=> ?_;refine go 8 ?_;refine a0D (n0Y rfl rfl) ?_;rw[f1C _ (by decide)];refine go 1 ?_;rw[hk];refine go 11 ?_;refine a0P rfl (fun hb23=> ?_) (fun hb23=> ?_)
 ·obtain rfl:k=3:=by have h:(k:Int)=3:=(by simpa using hb23);omega
  obtain⟨h1,h2,h3⟩:=hA.k3 rfl;have k1:=f2U (W:=W) hf h1 a;refine go 5 ?_;refine a0D (a0L (v:=(a0H c).toArray) Ag.o rfl (by simp[Value.cells,a0H]) (by rfl)) ?_;refine go 2 ?_;rw[hwi];refine ce 0 (v1R H c id hc) ?_;rintro⟨H2,c2⟩ ⟨hs2,hc2,hr2⟩;refine ns ?_;refine go 3 ?_;refine al fun b10=> ?_;refine a0M Sz.o rfl rfl rfl (fun u hu=>c0H hc2 u (by simpa using hu)) (by simp[Value.cells,a0H,a0S]) (a0N (by simp[Value.cells,a0H,a0S])) ?_;refine go 4 ?_;refine mx (.r 0 5 (.r 6 2 (.hard 5 (.soft 8 (.hard 9 (.soft 10 .done)))))) [h0N bw a.core c,v0G b10 c2] ?_;refine go 5 ?_;refine c0V rfl (a0L (v:=(a0H c2).toArray) Ag.o rfl (by simp[Value.cells,a0H]) (a0G (by simp[Value.cells,a0H]))) ?_;refine cg 2 (k1) ?_;refine go 4 ?_;refine a0M Sz.o rfl rfl rfl (fun u hu=>c0H hc2 u (by simpa using hu)) (by simp[Value.cells,a0H,a0S]) (a0N (by simp[Value.cells,a0H,a0S])) ?_;refine go 5 ?_;exact c0N (x:=((H2,c2):b0A×Rx)) ⟨hs2,hc2,fun h0=>by rw[show er c2=_ from hr2,h3,if_pos h0]⟩ idh (RV.tmp rfl (RV.agg Ag.o rfl (by simp[a0H]) (by rfl) (RV.tmp rfl RV.nil))) (by unfold w1H;rw[h2];rfl) gSp
 ·have k3: ¬k=3:=fun h=>by subst h;simp at hb23
  refine go 7 ?_;refine a0P rfl (fun hb44=> ?_) (fun hb44=> ?_)
  ·obtain rfl:k=4:=by have h:(k:Int)=4:=(by simpa using hb44);omega
   obtain⟨h1,h2,h3⟩:=hA.k4 rfl;have k1:=f2V (W:=W) hW hf h1 a;refine go 1 ?_;refine fx (.r 0 8 (.float 12 (.hard 8 (.r 9 3 (.res (.hard 13 (.soft 14 .done))))))) [h0N bw a.core c,pts b4 (.cells #[.int .i64 ki,.int .i64 ai,.int .i64 at_,.int .i64 n,b0B l] 24 (0,0))] ?_;refine go 3 ?_;refine i0L rfl (a0L (v:=(a0H c).toArray) Ag.o rfl (by simp[Value.cells,a0H]) (by rfl)) ?_;refine go 2 ?_;rw[hwi];refine go 2 ?_;refine l0Z (e0:= []) rfl gSu (fun _ _ _=>rfl) Zr.o rfl ?_;refine c0F rfl (fun hok EE FF=> ?_);refine ns ?_;refine ce 0 (v1U H c id n hc hsz hbits) ?_;rintro⟨H2,c2⟩ ⟨hs2,hc2,hr2⟩;refine ns ?_;refine go 1 ?_;refine fn (E:=EE) (F:=FF) (hok.put rfl) ?_;refine go 3 ?_;refine n0A (fun b12=> ?_);dsimp only;refine c0F rfl (fun hok EE FF=> ?_);refine ns ?_;refine a0M Sz.o rfl rfl rfl (fun u hu=>c0H hc2 u (by simpa using hu)) (by simp[Value.cells,a0H,a0S]) (a0N (by simp[Value.cells,a0H,a0S])) ?_;refine go 1 ?_;refine fn (E:=EE) (F:=FF) hok ?_;refine go 4 ?_;refine mx (.r 0 7 (.r 8 2 (.hard 7 (.soft 10 (.hard 11 (.soft 12 .done)))))) [h0N bw a.core c,v0G b12 c2,pts b4 (.cells #[.int .i64 ki,.int .i64 ai,.int .i64 at_,.int .i64 n,b0B l] 24 (0,0))] ?_;refine go 7 ?_;refine c0V rfl (a0L (v:=(a0H c2).toArray) Ag.o rfl (by simp[Value.cells,a0H]) (a0G (by simp[Value.cells,a0H]))) ?_;refine cg 2 (k1) ?_;refine go 4 ?_;refine a0M Sz.o rfl rfl rfl (fun u hu=>c0H hc2 u (by simpa using hu)) (by simp[Value.cells,a0H,a0S]) (a0N (by simp[Value.cells,a0H,a0S])) ?_;refine go 5 ?_;exact c0N (x:=((H2,c2):b0A×Rx)) ⟨hs2,hc2,fun h0=>by rw[show er c2=_ from hr2,h3,if_pos h0]⟩ idh (RV.tmp rfl (RV.agg Ag.o rfl (by simp[a0H]) (by rfl) (RV.tmp rfl RV.nil))) (by unfold w1H;rw[h2];rfl) gSp
  ·have k4: ¬k=4:=fun h=>by subst h;simp at hb44
   refine go 7 ?_;refine a0P rfl (fun hb69=> ?_) (fun hb69=> ?_)
   ·have k9:4<k∧k<9:=by have h:(k:Int)<9:=(by simpa using hb69);omega
    obtain⟨h1,h2,h3⟩:=hA.k5 k9;have k1:=y0T (W:=W) hW hf (by omega) h1 a;refine cg 4 (k2M l) ?_;refine go 3 ?_;refine q0V ([(0,ptr bw),(2,.int .u32 id),(4,.pointer (some ⟨b4,0,none⟩)),(6,.int .i64 0),(7,.pointer (some ⟨b7,0,none⟩)),(8,.int .i64 0),(14,b0B (p0X l n))]) (RS W a s++ [h0N bw a.core c,pts b4 (.cells #[.int .i64 ki,.int .i64 ai,.int .i64 at_,.int .i64 n,b0B l] 24 (0,0)),pts b7 (.cells #[.slice none 0 0,.int .i64 0,.int .i64 0,.int .i64 0] 34 (0,0)),b0Z H,R]) ?_ ?_
    ·refine go 4 ?_;refine a0D (n0Y rfl rfl) ?_;rw[g2G];refine go 3 ?_;refine a0P rfl (fun hb78=> ?_) (fun hb78=> ?_)
     ·have hds:p0X l n=o0D l++ [120]:=by unfold p0X;rw[if_pos (by simpa using hb78)]
      refine go 2 ?_;refine a0D (g0Y rfl rfl (by rw[b0F,hdd,show(⟨#[120]⟩:ByteArray).size=1 from rfl];omega)) ?_;rw[show bs (o0D l)++(⟨#[120]⟩:ByteArray)=bs (p0X l n) by rw[hds,h0B]];refine go 2 ?_;exact h0C idh gSu gSp
     ·have hds:p0X l n=o0D l:=by unfold p0X;rw[if_neg (by simpa using hb78),List.append_nil]
      rw[hds];refine go 1 ?_;exact h0C idh gSu gSp
    simp only[RS,List.cons_append,List.nil_append];refine go 1 ?_;refine fx (.r 0 9 (.float 13 (.hard 9 (.r 10 3 (.res (.hard 14 (.soft 15 .done))))))) [h0N bw a.core c,pts b4 (.cells #[.int .i64 ki,.int .i64 ai,.int .i64 at_,.int .i64 n,b0B l] 24 (0,0))] ?_;refine go 3 ?_;refine i0L rfl (a0L (v:=(a0H c).toArray) Ag.o rfl (by simp[Value.cells,a0H]) (by rfl)) ?_;refine go 2 ?_;rw[hwi];refine go 3 ?_;refine l0Z (e0:= []) rfl gSu (fun _ _ _=>rfl) Zr.o rfl ?_;refine c0F rfl (fun hok EE FF=> ?_);refine ns ?_;refine ce 0 (y1M H c id at_ (p0X l n) hc hsz hbits (by omega)) ?_;rintro⟨H2,c2⟩ ⟨hs2,hc2,hr2⟩;refine ns ?_;refine go 1 ?_;refine fn (E:=EE) (F:=FF) (hok.put rfl) ?_;refine go 3 ?_;refine n0A (fun b15=> ?_);dsimp only;refine c0F rfl (fun hok EE FF=> ?_);refine ns ?_;refine a0M Sz.o rfl rfl rfl (fun u hu=>c0H hc2 u (by simpa using hu)) (by simp[Value.cells,a0H,a0S]) (a0N (by simp[Value.cells,a0H,a0S])) ?_;refine go 1 ?_;refine fn (E:=EE) (F:=FF) hok ?_;refine go 4 ?_;refine mx (.r 0 8 (.r 9 2 (.hard 8 (.soft 11 (.hard 12 (.soft 13 .done)))))) [h0N bw a.core c,v0G b15 c2,pts b4 (.cells #[.int .i64 ki,.int .i64 ai,.int .i64 at_,.int .i64 n,b0B l] 24 (0,0))] ?_;refine go 8 ?_;refine c0V rfl (a0L (v:=(a0H c2).toArray) Ag.o rfl (by simp[Value.cells,a0H]) (a0G (by simp[Value.cells,a0H]))) ?_;refine cg 2 (k1) ?_;refine go 4 ?_;refine a0M Sz.o rfl rfl rfl (fun u hu=>c0H hc2 u (by simpa using hu)) (by simp[Value.cells,a0H,a0S]) (a0N (by simp[Value.cells,a0H,a0S])) ?_;refine go 5 ?_;exact c0N (x:=((H2,c2):b0A×Rx)) ⟨hs2,hc2,fun h0=>by rw[show er c2=_ from hr2,h3,if_pos h0]⟩ idh (RV.tmp rfl (RV.agg Ag.o rfl (by simp[a0H]) (by rfl) (RV.tmp rfl RV.nil))) (by unfold w1H;rw[h2];rfl) gSp
   ·have k9:k=9∨k=10:=by have h: ¬(k:Int)<9:=(by simpa using hb69);omega
    obtain⟨h1,h2,h3⟩:=hA.k9 k9;have k1:=p2W (W:=W) hW hf h1 a;refine go 3 ?_;refine fx (.r 0 10 (.float 14 (.hard 10 (.r 11 3 (.res (.hard 15 (.soft 16 .done))))))) [h0N bw a.core c,pts b4 (.cells #[.int .i64 ki,.int .i64 ai,.int .i64 at_,.int .i64 n,b0B l] 24 (0,0))] ?_;refine go 3 ?_;refine i0L rfl (a0L (v:=(a0H c).toArray) Ag.o rfl (by simp[Value.cells,a0H]) (by rfl)) ?_;refine go 2 ?_;rw[hwi];refine go 4 ?_;refine l0Z (e0:= []) rfl gSu (fun _ _ _=>rfl) Zr.o rfl ?_;refine c0F rfl (fun hok EE FF=> ?_);refine ns ?_;refine ce 0 (f2L H c id at_ n hc hsz hbits) ?_;rintro⟨H2,c2⟩ ⟨hs2,hc2,hr2⟩;refine ns ?_;refine go 1 ?_;refine fn (E:=EE) (F:=FF) (hok.put rfl) ?_;refine go 3 ?_;refine n0A (fun b17=> ?_);dsimp only;refine c0F rfl (fun hok EE FF=> ?_);refine ns ?_;refine a0M Sz.o rfl rfl rfl (fun u hu=>c0H hc2 u (by simpa using hu)) (by simp[Value.cells,a0H,a0S]) (a0N (by simp[Value.cells,a0H,a0S])) ?_;refine go 1 ?_;refine fn (E:=EE) (F:=FF) hok ?_;refine go 4 ?_;refine mx (.r 0 9 (.r 10 2 (.hard 9 (.soft 12 (.hard 13 (.soft 14 .done)))))) [h0N bw a.core c,v0G b17 c2,pts b4 (.cells #[.int .i64 ki,.int .i64 ai,.int .i64 at_,.int .i64 n,b0B l] 24 (0,0))] ?_;refine go 9 ?_;refine c0V rfl (a0L (v:=(a0H c2).toArray) Ag.o rfl (by simp[Value.cells,a0H]) (a0G (by simp[Value.cells,a0H]))) ?_;refine cg 2 (k1) ?_;refine go 4 ?_;refine a0M Sz.o rfl rfl rfl (fun u hu=>c0H hc2 u (by simpa using hu)) (by simp[Value.cells,a0H,a0S]) (a0N (by simp[Value.cells,a0H,a0S])) ?_;refine go 5 ?_;exact c0N (x:=((H2,c2):b0A×Rx)) ⟨hs2,hc2,fun h0=>by rw[show er c2=_ from hr2,h3,if_pos h0]⟩ idh (RV.tmp rfl (RV.agg Ag.o rfl (by simp[a0H]) (by rfl) (RV.tmp rfl RV.nil))) (by unfold w1H;rw[h2];rfl) gSp
theorem b2J (P:Rp) (v:Vp):(g0Q P v).2.1=P.next∨(g0Q P v).2.1=0:=by
 unfold g0Q;split
 ·exact .inr rfl
 ·exact .inl rfl
theorem f2X (P:Rp) (n:Int):(e0S P n).2.1=P.next∨(e0S P n).2.1=0:=by
 unfold e0S;split
 ·exact .inr rfl
 ·exact b2J _ _
theorem p2X (P:Rp) (id:Int) (o:Bool):(i0N P id o).2.1=P.next∨(i0N P id o).2.1=0:=by
 unfold i0N;split
 ·exact .inr rfl
 ·exact b2J _ _
theorem n1X {H H2:b0A} {c c2:Rx} {e:Int} (hs: ∀p∈H,p∈H2) (hc:c0T H c) (hc2:c0T H2 c2):c0T H2 (if e=0 then c2 else c):=by
 split
 ·exact hc2
 ·exact hc.more hs
theorem f2Y {c c2:Rx} {e:Int} {r:Rp} (h:er c2=r):er (if e=0 then c2 else c)=if e=0 then r else er c:=by
 split
 ·exact h
 ·rfl
abbrev DoE (H:b0A) (Q:Rp) (x:b0A×Rx):Prop:=(∀p∈H,p∈x.1)∧c0T x.1 x.2∧er x.2=Q
theorem l2B {k:Nat} {id at_ n e:Int} {data:B} {s t:St} {P Q:Rp} (h:b1J k id at_ n data s P e t Q) (hk:k<11∧2<k) (he:e≠0):Q=P:=by
 have hc:k=3∨k=4∨(4<k∧k<9)∨(k=9∨k=10):=by omega
 rcases hc with hc|hc|hc|hc
 ·have:=(h.k3 hc).2.2;rw[if_neg he]at this;exact this
 ·have:=(h.k4 hc).2.2;rw[if_neg he]at this;exact this
 ·have:=(h.k5 hc).2.2;rw[if_neg he]at this;exact this
 ·have:=(h.k9 hc).2.2;rw[if_neg he]at this;exact this
theorem l2C (W:World) (hW:h0W W) (a:Ad) (s t:St) (bw:Nat) (H:b0A) (c:Rx) (ki ai at_ n id e:Int) (l:B) (k:Nat) (Q:Rp) (hk:ki%256%14=(k:Int)) (hid:ai%32=id) (hf:Fit s) (hdl0:s.depth=0∧s.log= []) (hc:c0T H c) (hsz:y0S (er c)) (hbits:c.bits≤256) (hnx:1≤c.next∧c.next<1000000)
 (hA:b1J k id at_ n (p0X l n) s (er c) e t Q):a0F prog 12 #[ptr bw,f2W ki ai at_ n l] (RS W a s++ [h0N bw a.core c,b0Z H])
 (b0N (DoE H Q) (fun _=>v1V e true) (fun x=>RS W a t++ [h0N bw a.core x.2,b0Z x.1])):=by
 have hk14:k<14:=by omega
 have hnn:(er c).next=c.next:=rfl;have hi0:0≤id∧id<32:=by omega
 have hwi:IntKind.i64.wrap id=id:=e0L .i64 id hi0.1 (by show id<9223372036854775808;omega);have hwu:IntKind.u32.wrap id=id:=e0L .u32 id hi0.1 (by show id<2147483648;omega);refine en func12 ntmps12 fun R w0=> ?_
 try simp only[f2W]
 refine go 2 ?_;refine bx fun b3=> ?_;refine go 9 ?_;refine a0D (n0Y rfl rfl) ?_;rw[r1B,hid];refine go 1 ?_;rw[hwu];refine go 8 ?_;refine a0D (n0Y rfl rfl) ?_;rw[f1C _ (by decide)];refine go 1 ?_;rw[hk];refine go 11 ?_;refine a0P rfl (fun hb35=> ?_) (fun hb35=> ?_)
 ·obtain rfl:k=0:=by have h:(k:Int)=0:=(by simpa using hb35);omega
  obtain⟨m,h1,h2,h4,h5,h3⟩:=hA.k0 rfl;have hmr:0≤m∧m<4294967296:=by by_cases he:e=0;{have:=h4 he;rcases f2X (er c) n with g|g<;>omega};{have:=h5 he;omega}
  have k1:=l1W (W:=W) hf h1 a;refine go 1 ?_;refine mx (.r 0 6 (.hard 6 (.r 7 5 .done))) [h0N bw a.core c,pts b3 (.cells #[.int .i64 ki,.int .i64 ai,.int .i64 at_,.int .i64 n,b0B l] 24 (0,0))] ?_;refine cg 7 (k1) ?_;refine go 10 ?_;refine fx (.r 0 6 (.float 11 (.hard 6 (.r 7 4 (.res (.hard 12 (.r 13 2 .done))))))) [h0N bw a.core c,pts b3 (.cells #[.int .i64 ki,.int .i64 ai,.int .i64 at_,.int .i64 n,b0B l] 24 (0,0))] ?_;refine go 3 ?_;refine i0L rfl (a0L (v:=(a0H c).toArray) Ag.o rfl (by simp[Value.cells,a0H]) (by rfl)) ?_;refine go 2 ?_;refine l0Z (e0:= []) rfl gSu (fun _ _ _=>rfl) Zr.o rfl ?_;refine c0F rfl (fun hok EE FF=> ?_);refine ns ?_;refine ce 0 (v1Q H c n hc (by omega)) ?_;rintro⟨H2,c2⟩ ⟨hs2,hc2,hr2⟩;refine ns ?_;refine go 1 ?_;refine fn (E:=EE) (F:=FF) (hok.put rfl) ?_;refine go 4 ?_;refine n0A (fun b11=> ?_);dsimp only;refine c0F rfl (fun hok EE FF=> ?_);refine ns ?_;refine a0M Sz.o rfl rfl rfl (fun u hu=>c0H hc2 u (by simpa using hu)) (by simp[Value.cells,a0H,a0S]) (a0N (by simp[Value.cells,a0H,a0S])) ?_;refine go 1 ?_;refine fn (E:=EE) (F:=FF) hok ?_;refine go 9 ?_;refine a0D (a0L (v:=(a0H c2).toArray) Ag.o rfl (by simp[Value.cells,a0H]) (a0G (by simp[Value.cells,a0H]))) ?_;refine go 2 ?_;rw[h2];refine cg 0 (j1D bw a.core m (e0S (er c) n).2.1 e c c2 (c0H hc2) hmr h4 h5) ?_;refine go 8 ?_;exact rE idh (H2,if e=0 then c2 else c) ⟨hs2,n1X hs2 hc hc2,by rw[h3];exact f2Y hr2⟩
 ·have k0: ¬k=0:=fun h=>by subst h;simp at hb35
  refine go 7 ?_;refine a0P rfl (fun hb69=> ?_) (fun hb69=> ?_)
  ·have k3:k=1∨k=2:=by have h:(k:Int)<3:=(by simpa using hb69);omega
   obtain⟨m,h1,h2,h4,h5,h3⟩:=hA.k1 k3;have hmr:0≤m∧m<4294967296:=by by_cases he:e=0;{have:=h4 he;rcases p2X (er c) id (decide (k=1))with g|g<;>omega};{have:=h5 he;omega}
   refine go 12 ?_;by_cases hk1:k=1
   ·refine go 5 ?_;refine b0R rfl (by subst hk1;rfl) ?_;refine cg 6 (v1X (W:=W) hf (by rw[decide_eq_true hk1]at h1;exact h1) a) ?_;refine go 12 ?_;refine a0D (a0L (v:=(a0H c).toArray) Ag.o rfl (by simp[Value.cells,a0H]) (by rfl)) ?_;refine go 2 ?_;rw[hwi];refine go 2 ?_;rw[show((k:Int) == 1)=decide (k=1) by by_cases h:k=1;{subst h;rfl};{rw[decide_eq_false h];simp;omega}];refine ce 0 (l1S H c id (decide (k=1)) hc (by omega)) ?_;rintro⟨H2,c2⟩ ⟨hs2,hc2,hr2⟩;refine ns ?_;refine go 4 ?_;refine al fun b17=> ?_;refine a0M Sz.o rfl rfl rfl (fun u hu=>c0H hc2 u (by simpa using hu)) (by simp[Value.cells,a0H,a0S]) (a0N (by simp[Value.cells,a0H,a0S])) ?_;refine go 9 ?_;refine a0D (a0L (v:=(a0H c2).toArray) Ag.o rfl (by simp[Value.cells,a0H]) (a0G (by simp[Value.cells,a0H]))) ?_;refine go 2 ?_;rw[h2];refine cg 0 (j1D bw a.core m (i0N (er c) id (decide (k=1))).2.1 e c c2 (c0H hc2) hmr h4 h5) ?_;refine go 8 ?_;exact rE idh (H2,if e=0 then c2 else c) ⟨hs2,n1X hs2 hc hc2,by rw[h3];exact f2Y hr2⟩
   ·refine go 5 ?_;refine d0R rfl (by have h:k=2:=(by omega);subst h;rfl) ?_;refine cg 13 (l2A (W:=W) hf (by rw[decide_eq_false hk1]at h1;exact h1) a) ?_;refine go 12 ?_;refine a0D (a0L (v:=(a0H c).toArray) Ag.o rfl (by simp[Value.cells,a0H]) (by rfl)) ?_;refine go 2 ?_;rw[hwi];refine go 2 ?_;rw[show((k:Int) == 1)=decide (k=1) by by_cases h:k=1;{subst h;rfl};{rw[decide_eq_false h];simp;omega}];refine ce 0 (l1S H c id (decide (k=1)) hc (by omega)) ?_;rintro⟨H2,c2⟩ ⟨hs2,hc2,hr2⟩;refine ns ?_;refine go 4 ?_;refine al fun b17=> ?_;refine a0M Sz.o rfl rfl rfl (fun u hu=>c0H hc2 u (by simpa using hu)) (by simp[Value.cells,a0H,a0S]) (a0N (by simp[Value.cells,a0H,a0S])) ?_;refine go 9 ?_;refine a0D (a0L (v:=(a0H c2).toArray) Ag.o rfl (by simp[Value.cells,a0H]) (a0G (by simp[Value.cells,a0H]))) ?_;refine go 2 ?_;rw[h2];refine cg 0 (j1D bw a.core m (i0N (er c) id (decide (k=1))).2.1 e c c2 (c0H hc2) hmr h4 h5) ?_;refine go 8 ?_;exact rE idh (H2,if e=0 then c2 else c) ⟨hs2,n1X hs2 hc hc2,by rw[h3];exact f2Y hr2⟩
  ·have k3: ¬k<3:=fun h=>by have h2: ¬(k:Int)<3:=(by simpa using hb69);omega
   refine go 7 ?_;refine a0P rfl (fun hb113=> ?_) (fun hb113=> ?_)
   ·obtain rfl:k=11:=by have h:(k:Int)=11:=(by simpa using hb113);omega
    obtain⟨h1,h2,h3⟩:=hA.k11 rfl;have k1:=v1Y (W:=W) h1 a;refine go 1 ?_;refine mx (.r 0 9 (.hard 9 (.r 10 5 .done))) [h0N bw a.core c,pts b3 (.cells #[.int .i64 ki,.int .i64 ai,.int .i64 at_,.int .i64 n,b0B l] 24 (0,0))] ?_;refine cg 10 (k1) ?_;refine go 10 ?_;refine mx (.r 0 10 (.hard 10 (.r 11 5 .done))) [h0N bw a.core c,pts b3 (.cells #[.int .i64 ki,.int .i64 ai,.int .i64 at_,.int .i64 n,b0B l] 24 (0,0))] ?_;refine go 3 ?_;refine c0V rfl (a0L (v:=(a0H c).toArray) Ag.o rfl (by simp[Value.cells,a0H]) (by rfl)) ?_;refine go 2 ?_;rw[hwi];refine cg 5 (l1V H c id at_ n hc hsz) ?_;refine go 15 ?_;refine a0D (r0Z rfl rfl) ?_;refine go 5 ?_;refine f1B (H,c) ⟨fun _ h=>h,hc,h3.symm⟩ idh rfl (by unfold v1V;simp[h2]) gSp
   ·have k11: ¬k=11:=fun h=>by subst h;simp at hb113
    refine go 7 ?_;refine a0P rfl (fun hb148=> ?_) (fun hb148=> ?_)
    ·obtain rfl:k=12:=by have h:(k:Int)=12:=(by simpa using hb148);omega
     obtain⟨rfl,rfl,rfl⟩:=hA.k12 rfl;refine go 1 ?_;refine tl 8 ?_;refine go 6 ?_;refine b0X (n0Y rfl rfl) ?_;rw[f1C _ (by decide)];refine go 2 ?_;rw[e0L .u32 (n%256) (by omega) (by show n%256<2147483648;omega)];refine cg 0 (y1R W a s (n%256)) ?_;refine go 7 ?_;refine a0D (n0Y rfl rfl) ?_;refine go 3 ?_;rw[f1C _ (by decide)];refine go 10 ?_;exact rE idh (H,{c with epoch:=n%256}) ⟨fun _ h=>h,⟨hc.vols,hc.maps,hc.few⟩,rfl⟩
    ·have k12: ¬k=12:=fun h=>by subst h;simp at hb148
     refine go 7 ?_;refine a0P rfl (fun hb167=> ?_) (fun hb167=> ?_)
     ·obtain rfl:k=13:=by have h:(k:Int)=13:=(by simpa using hb167);omega
      obtain⟨rfl,rfl,rfl⟩:=hA.k13 rfl;refine go 8 ?_;refine a0D (j0K Sc.o rfl gFd rfl) ?_;refine cg 0 (t1S a s hdl0) ?_;refine go 9 ?_;exact rE idh (H,c) ⟨fun _ h=>h,hc,rfl⟩
     ·have k13: ¬k=13:=fun h=>by subst h;simp at hb167
      refine go 5 ?_;refine a0D (a0L (v:= #[.int .i64 ki,.int .i64 ai,.int .i64 at_,.int .i64 n,b0B l]) Ag.o rfl (by simp[Value.cells]) (a0G (by simp[Value.cells]))) ?_;refine ce 1 (y1S W hW a s t bw H c ki ai at_ n id e l k Q hk (by omega) hi0 hf hc hsz hbits hA) ?_;rintro⟨H2,c2⟩ ⟨hs2,hc2,hq2⟩;refine ns ?_;refine go 4 ?_;refine al fun b25=> ?_;refine go 1 ?_;refine a0M Sz.o rfl rfl rfl (fun u hu=>c0H hc2 u (by simpa using hu)) (by simp[Value.cells,a0H,a0S]) (a0N (by simp[Value.cells,a0H,a0S])) ?_;refine go 5 ?_;by_cases he:e=0
      ·refine go 4 ?_;refine c0R (d0V rfl) (wg rfl rfl rfl (wTT (by simpa using he))) ?_;refine c0R (a1G rfl rfl) (wg rfl rfl rfl (wTT (by simpa using he))) ?_;refine a0D (i0B rfl (by simpa using he) rfl) ?_;refine go 2 ?_;refine d0R rfl (by simpa using he) ?_;refine go 2 ?_;refine a0D (a0L (v:=(a0H c2).toArray) Ag.o rfl (by simp[Value.cells,a0H]) (a0G (by simp[Value.cells,a0H]))) ?_;refine go 2 ?_;refine a0M Sz.o rfl rfl rfl (fun u hu=>c0H hc2 u (by simpa using hu)) (by simp[a0H]) (by simp[i0X,a0H];rfl) ?_;refine go 11 ?_;exact rE idh (H2,c2) ⟨hs2,hc2,hq2 he⟩
      ·refine go 4 ?_;refine c0J rfl (wg rfl rfl rfl (wTF (by simpa using he))) ?_;refine c0J rfl (wg rfl rfl rfl (wTF (by simpa using he))) ?_;refine a0D (i0W rfl (by simpa using he) rfl) ?_;refine go 14 ?_;exact rE idh (H2,c) ⟨hs2,hc.more hs2,(l2B hA (by omega) he).symm⟩
structure AP where
 ki:Int
 ai:Int
 at_:Int
 n:Int
 l:B
def p2Y (x:AP):List Value:= [.int .i64 x.ki,.int .i64 x.ai,.int .i64 x.at_,.int .i64 x.n,b0B x.l]
def l2D (W:World) (v:Value) (acts:List AP):Prop:= ∃(p:Option Addr) (cap:Nat),v= .slice p acts.length cap∧acts.length≤maxLen∧ ∀i (h:i<acts.length),∃a,p=some a∧ ∀q u,(p2Y acts[i])[q]? =some u→W.cell? ((a.add (i*5)).add q)=some u
structure CA (n:Nat) (x:Nat×St×Gh×Rx×b0A):Prop where
 le:x.1≤n
 i12:x.1≤12
 j:J x.2.1 x.2.2.1 (er x.2.2.2.1)
 bud:Bud x.1 x.2.1 (er x.2.2.2.1)
 next:x.2.2.2.1.next≤1+x.1
 bits:x.2.2.2.1.bits≤256
 core:c0T x.2.2.2.2 x.2.2.2.1
theorem u2P {W:World} {s t:St} {id:Int} {p:B×Int} (h:v0O id s=(.ok p,t)) (a:Ad):a0F prog 13 #[ptr a.core,.int .u32 id] (RS W a s) (a0T (q2S p) (RS W a t)):=by
 have k:=k2Z W a s id (by rw[h];simp);rw[h]at k;exact k.ran_ok
section
structure CB (x:St×Gh×Rx×b0A):Prop where
 j:J x.1 x.2.1 (er x.2.2.1)
 bud:Bud 12 x.1 (er x.2.2.1)
 next:x.2.2.1.next≤13
 bits:x.2.2.1.bits≤256
 core:c0T x.2.2.2 x.2.2.1
theorem p2Z {i j:Nat} {s:St} {P:Rp} (h:Bud i s P) (hij:i≤j):Bud j s P:=by
 obtain⟨w,t,h1,h2,h3⟩:=h;exact⟨w,t,by omega,h2,h3⟩
theorem x2C {s:St} {G:Gh} {c:Rx} (h:J s G (er c)) (hb:c.bits≤256):Fit s:=⟨by have e:s.bits=c.bits:=h.bits;omega,by have:=h.ci.few;omega⟩
set_option maxRecDepth 8000
end
end Go.Proofs.Q
namespace Go.Proofs.Q
open Go.Sl Go.Sb Tryz
set_option maxRecDepth 8000
theorem u2Q (W:World) (a:Ad) (s:St) (bw:Nat) (H:b0A) (c:Rx) (G:Gh) (hJ:J s G (er c)) (hsm:Sml (er c)) (hc:c0T H c) (hnx:c.next<1000000) (j:Nat) (hj:j<c.l.length) (x:Ent) (hx:a0E c.l[j].v.id s.vols=some x):
 a0F prog 54 #[ptr bw,d0Z x,z0H c.l[j]] (RS W a s++ [h0N bw a.core c,b0Z H]) (a0T (.bool true) (RS W a s++ [h0N bw a.core c,b0Z H])):=by
 have hin:c.l[j].v∈(er c).l:=List.mem_map.2 ⟨_,List.getElem_mem hj,rfl⟩;have hvi:=hc.maps _ (List.getElem_mem hj);obtain⟨x',hx',hr⟩:=hJ.vol _ hin;rw[hx]at hx';cases hx'
 have hid:=hJ.ids _ hin;have hxi:=(hJ.ci.ids _ (hJ.ci.mem hx)).1;have hsv:=hsm.vol _ hin;have hsz:=hJ.sized _ hin;have hsum:=hJ.sumDoc hin;have hjl:j<(er c).l.length:=by show j<(c.l.map (·.v)).length;rw[List.length_map];exact hj
 have hjv:(er c).l[j]=c.l[j].v:=by simp[er]
 have hfi:=hJ.findOf hjl;have hgd:(er c).l.getD j v0=c.l[j].v:=by rw[List.getD_eq_getElem?_getD,List.getElem?_eq_getElem hjl,hjv];rfl
 rw[hjv]at hfi;have hnn:(er c).next=c.next:=rfl;obtain⟨r1,r2,r3,r4,r5⟩:=hr;obtain⟨xi,xp,xo,xs,xr,xb⟩:=x;simp only at hxi r1 r2 r3 r4;subst hxi r1 r2 r3 r4;obtain⟨k,hk⟩: ∃k:Int,k=min c.l[j].v.size 30:=⟨_,rfl⟩;have hbad:m0B ((er c).l.getD j v0) (c.l[j].v.size-k) k=false:=by rw[hgd];unfold m0B;refine decide_eq_false ?_;omega
 have hrd:=hJ.readIn hfi hbad;obtain⟨B0,hB0⟩: ∃B0,m0C (er c) c.l[j].v.id (c.l[j].v.size-k) k=(B0,0):=by unfold m0C;rw[hfi];simp only;rw[if_neg (by rw[hbad];decide)];exact⟨_,rfl⟩
 have hrs:=l1V H c c.l[j].v.id (c.l[j].v.size-k) k hc hJ.sized;rw[hB0]at hrd hrs;have hw1:IntKind.i64.wrap c.l[j].v.id=c.l[j].v.id:=e0L .i64 _ (by omega) (by show c.l[j].v.id<9223372036854775808;omega);have hw2:IntKind.i64.wrap c.l[j].v.parent=c.l[j].v.parent:=e0L .i64 _ hsv.1.1 (by show c.l[j].v.parent<9223372036854775808;have:=hsv.1.2;omega);have hw3:IntKind.i64.wrap c.l[j].v.born=c.l[j].v.born:=e0L .i64 _ hsv.2.1 (by show c.l[j].v.born<9223372036854775808;have:=hsv.2.2;omega);obtain⟨D,hD⟩: ∃D,D=dgR c.l[j].v.m 2 0:=⟨_,rfl⟩;have hDl:D.length=32:=by rw[hD];exact b2A _ _ _
 have hs2:(D.map a0Q).toArray.size=32:=by simp[hDl]
 rw[←hD]at hsum;refine ns ?_;refine en func54 ntmps54 fun R w0=> ?_;refine go 2 ?_;refine bx fun b4=> ?_;refine bx fun b5=> ?_;refine go 9 ?_;rw[hw1];refine go 7 ?_;rw[hw2];refine go 9 ?_;refine c0R (b2Z F.bo4 rfl rfl) (wg rfl rfl rfl (wFF (by simp))) ?_;refine go 12 ?_;rw[hw3];refine go 10 ?_;refine fx (.r 0 6 (.float 10 (.hard 6 (.r 7 3 (.res (.hard 11 (.soft 12 .done))))))) [h0N bw a.core c,r0Y b4 ⟨c.l[j].v.id,c.l[j].v.parent,c.l[j].v.only,c.l[j].v.size,xr,c.l[j].v.born⟩] ?_;refine go 6 ?_;refine l0Z (e0:= []) rfl gSu (fun _ _ _=>rfl) Zr.o rfl ?_;refine c0F rfl (fun hok EE FF=> ?_);refine ns ?_;refine cg 0 (u2P (W:=W) hsum a) ?_;refine go 1 ?_;refine fn (E:=EE) (F:=FF) (hok.put rfl) ?_;refine go 3 ?_;refine n0A (fun b7=> ?_);dsimp only;refine c0F rfl (fun hok EE FF=> ?_);refine ns ?_;refine a0M Sz.o rfl rfl hs2 (fun x hx=>by simp at hx;obtain⟨_,_,rfl⟩:=hx;rfl) (by rw[hs2];simp[Value.cells]) (a0N (by rw[hs2];simp[Value.cells])) ?_;refine go 1 ?_;refine fn (E:=EE) (F:=FF) hok ?_;refine go 8 ?_;rw[←hk];refine go 4 ?_;refine mx (.r 0 11 (.hard 11 (.r 12 5 .done))) [h0N bw a.core c,r0Y b4 ⟨c.l[j].v.id,c.l[j].v.parent,c.l[j].v.only,c.l[j].v.size,xr,c.l[j].v.born⟩,v1F b5 c.l[j]] ?_;refine cg 12 (v1Y (W:=W) hrd a) ?_;refine go 10 ?_;refine mx (.r 0 11 (.hard 11 (.r 12 5 .done))) [h0N bw a.core c,v1F b5 c.l[j]] ?_;refine go 3 ?_;refine c0V rfl (a0L (v:=(a0H c).toArray) Ag.o rfl (by simp[Value.cells,a0H]) (by rfl)) ?_;refine cg 8 (hrs) ?_;refine go 10 ?_;refine mx (.r 0 8 (.r 9 2 (.hard 8 (.hard 11 (.r 12 8 .done))))) [v1F b5 c.l[j],pts b7 (.cells (D.map a0Q).toArray 44 (0,0))] ?_;refine go 7 ?_;refine v0K rfl (a0L Ag.o rfl (by rw[hs2];omega) (a0G hs2)) (wg rfl rfl rfl (wTT rfl)) ?_;refine cg 4 (v0V D hDl) ?_;refine cg 4 (y1B H c.l[j].mv c.l[j].v.m hvi.1 hvi.2) ?_;refine go 2 ?_;refine v0K rfl (r0Z rfl rfl) (wg rfl rfl rfl (wTT rfl)) ?_;refine go 2 ?_;refine v0K rfl (d0V rfl) (wg rfl rfl rfl (wTT (by rw[hD];simp))) ?_;refine v0K rfl (d0V rfl) (wg rfl rfl rfl (wTT (by rw[hD];simp))) ?_;refine v0K rfl (r0Z rfl rfl) (wg rfl rfl rfl (wTT (by rw[hD];simp))) ?_;refine c0V rfl (i0B rfl (by rw[hD];simp) rfl) ?_;refine go 3 ?_;exact rG (hu:=(by simp))
end Go.Proofs.Q
