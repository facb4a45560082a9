/- Part of the proof; no statement of its own. -/
import Derived.Test.YtpinhnikemamjaaGreatDoorS23
import Derived.Test.YtpinhnikemamjaaGreatDoorS31
import Derived.Test.YtpinhnikemamjaaGreatDoorS18
import Derived.Test.YtpinhnikemamjaaGreatDoorS34
import Derived.Test.YtpinhnikemamjaaGreatDoorS17
import Derived.Test.YtpinhnikemamjaaGreatDoorS16
import Derived.Test.YtpinhnikemamjaaGreatDoorS07
import Derived.Test.YtpinhnikemamjaaGreatDoorS13
import Derived.Test.YtpinhnikemamjaaGreatDoorS10
set_option linter.all false
set_option maxRecDepth 4000
set_option maxHeartbeats 4000000
attribute [local irreducible] Go.Sl.a0P Go.Sl.OW Go.Sl.CW Go.Sl.OS Go.Sl.OM Go.Sl.OMf Go.Sl.KM
namespace Go.Proofs.Q
open Go.Sl Go.Sb Tryz
abbrev ChE (H:b0B) (e:Int) (Q:Rp) (x:b0B×Rx):Prop:=(∀p∈H,p∈x.1)∧c0Z x.1 x.2∧(e=0→er x.2=Q)
theorem a2R (W:World) (hW:i0L W) (a:Ad) (s t:St) (bw:Nat) (H:b0B) (c:Rx) (ki ai at_ n id e f:Int) (l:B) (k:Nat) (Q:Rp) (hk:ki%256%14=(k:Int)) (hkk:k<11∧2<k) (hid:0≤id∧id<32) (hf:Fit s) (hc:c0Z H c) (hsz:w0X (er c)) (hbits:c.bits≤256)
 (hA:c1K k id at_ n (q0K l n) s (er c) e f t Q):a0G prog 49 #[ptr bw,h2Y ki ai at_ n l,.int .u32 id] (RS W a s++ [f0Z bw a.core c,c0B H])
 (b0P (ChE H e Q) (x1Z e f) (fun x=>RS W a t++ [f0Z bw a.core c,c0B x.1])):=by
 have hdl:=r1N l n;have hdd:=f1X l;have hwi:IntKind.i64.wrap id=id:=e0P .i64 id hid.1 (by show id<9223372036854775808;omega);have hbd:(bs (o0U l)).size=(o0U l).length:=b0H _;refine en func49 ntmps49 fun R w0=> ?_
 try simp only[h2Y]
 refine go 2 ?_;refine bx fun b4=> ?_;refine go 1 ?_;refine al fun b7=> ?_;refine go 8 ?_;refine a0D (o0O rfl rfl) ?_;rw[g1J _ (by decide)];refine go 1 ?_;rw[hk];refine go 11 ?_;refine a0O rfl (fun hb23=> ?_) (fun hb23=> ?_)
 ·obtain rfl:k=3:=by have h:(k:Int)=3:=(by simpa using hb23);omega
  obtain⟨h1,h2,h3⟩:=hA.k3 rfl;have k1:=h2W (W:=W) hf h1 a;refine go 5 ?_;refine a0D (a0K (v:=(a0J c).toArray) Ag.o rfl (by simp[Value.cells,a0J]) (by rfl)) ?_;refine go 2 ?_;rw[hwi];refine ce 0 (x1J H c id hc) ?_;rintro⟨H2,c2⟩ ⟨hs2,hc2,hr2⟩;refine ns ?_;refine go 3 ?_;refine al fun b10=> ?_;refine a0M Sz.o rfl rfl rfl (fun u hu=>c0K hc2 u (by simpa using hu)) (by simp[Value.cells,a0J,a0S]) (a0N (by simp[Value.cells,a0J,a0S])) ?_;refine go 4 ?_;refine mx (.r 0 5 (.r 6 2 (.hard 5 (.soft 8 (.hard 9 (.soft 10 .done)))))) [f0Z bw a.core c,w0F b10 c2] ?_;refine go 5 ?_;refine d0A rfl (a0K (v:=(a0J c2).toArray) Ag.o rfl (by simp[Value.cells,a0J]) (a0I (by simp[Value.cells,a0J]))) ?_;refine cg 2 (k1) ?_;refine go 4 ?_;refine a0M Sz.o rfl rfl rfl (fun u hu=>c0K hc2 u (by simpa using hu)) (by simp[Value.cells,a0J,a0S]) (a0N (by simp[Value.cells,a0J,a0S])) ?_;refine go 5 ?_;exact c0T (x:=((H2,c2):b0B×Rx)) ⟨hs2,hc2,fun h0=>by rw[show er c2=_ from hr2,h3,if_pos h0]⟩ idh (RV.tmp rfl (RV.agg Ag.o rfl (by simp[a0J]) (by rfl) (RV.tmp rfl RV.nil))) (by unfold x1Z;rw[h2];rfl) gSp
 ·have k3: ¬k=3:=fun h=>by subst h;simp at hb23
  refine go 7 ?_;refine a0O rfl (fun hb44=> ?_) (fun hb44=> ?_)
  ·obtain rfl:k=4:=by have h:(k:Int)=4:=(by simpa using hb44);omega
   obtain⟨h1,h2,h3⟩:=hA.k4 rfl;have k1:=h2X (W:=W) hW hf h1 a;refine go 1 ?_;refine fx (.r 0 8 (.float 12 (.hard 8 (.r 9 3 (.res (.hard 13 (.soft 14 .done))))))) [f0Z bw a.core c,pts b4 (.cells #[.int .i64 ki,.int .i64 ai,.int .i64 at_,.int .i64 n,b0C l] 24 (0,0))] ?_;refine go 3 ?_;refine h0L rfl (a0K (v:=(a0J c).toArray) Ag.o rfl (by simp[Value.cells,a0J]) (by rfl)) ?_;refine go 2 ?_;rw[hwi];refine go 2 ?_;refine j0Y (e0:= []) rfl gSu (fun _ _ _=>rfl) Zr.o rfl ?_;refine b0Y rfl (fun hok EE FF=> ?_);refine ns ?_;refine ce 0 (x1M H c id n hc hsz hbits) ?_;rintro⟨H2,c2⟩ ⟨hs2,hc2,hr2⟩;refine ns ?_;refine go 1 ?_;refine fn (E:=EE) (F:=FF) (hok.put rfl) ?_;refine go 3 ?_;refine l0Y (fun b12=> ?_);dsimp only;refine b0Y rfl (fun hok EE FF=> ?_);refine ns ?_;refine a0M Sz.o rfl rfl rfl (fun u hu=>c0K hc2 u (by simpa using hu)) (by simp[Value.cells,a0J,a0S]) (a0N (by simp[Value.cells,a0J,a0S])) ?_;refine go 1 ?_;refine fn (E:=EE) (F:=FF) hok ?_;refine go 4 ?_;refine mx (.r 0 7 (.r 8 2 (.hard 7 (.soft 10 (.hard 11 (.soft 12 .done)))))) [f0Z bw a.core c,w0F b12 c2,pts b4 (.cells #[.int .i64 ki,.int .i64 ai,.int .i64 at_,.int .i64 n,b0C l] 24 (0,0))] ?_;refine go 7 ?_;refine d0A rfl (a0K (v:=(a0J c2).toArray) Ag.o rfl (by simp[Value.cells,a0J]) (a0I (by simp[Value.cells,a0J]))) ?_;refine cg 2 (k1) ?_;refine go 4 ?_;refine a0M Sz.o rfl rfl rfl (fun u hu=>c0K hc2 u (by simpa using hu)) (by simp[Value.cells,a0J,a0S]) (a0N (by simp[Value.cells,a0J,a0S])) ?_;refine go 5 ?_;exact c0T (x:=((H2,c2):b0B×Rx)) ⟨hs2,hc2,fun h0=>by rw[show er c2=_ from hr2,h3,if_pos h0]⟩ idh (RV.tmp rfl (RV.agg Ag.o rfl (by simp[a0J]) (by rfl) (RV.tmp rfl RV.nil))) (by unfold x1Z;rw[h2];rfl) gSp
  ·have k4: ¬k=4:=fun h=>by subst h;simp at hb44
   refine go 7 ?_;refine a0O rfl (fun hb69=> ?_) (fun hb69=> ?_)
   ·have k9:4<k∧k<9:=by have h:(k:Int)<9:=(by simpa using hb69);omega
    obtain⟨h1,h2,h3⟩:=hA.k5 k9;have k1:=z0O (W:=W) hW hf (by omega) h1 a;refine cg 4 (m2T l) ?_;refine go 3 ?_;refine r0I ([(0,ptr bw),(2,.int .u32 id),(4,.pointer (some ⟨b4,0,none⟩)),(6,.int .i64 0),(7,.pointer (some ⟨b7,0,none⟩)),(8,.int .i64 0),(14,b0C (q0K l n))]) (RS W a s++ [f0Z bw a.core c,pts b4 (.cells #[.int .i64 ki,.int .i64 ai,.int .i64 at_,.int .i64 n,b0C l] 24 (0,0)),pts b7 (.cells #[.slice none 0 0,.int .i64 0,.int .i64 0,.int .i64 0] 34 (0,0)),c0B H,R]) ?_ ?_
    ·refine go 4 ?_;refine a0D (o0O rfl rfl) ?_;rw[i2K];refine go 3 ?_;refine a0O rfl (fun hb78=> ?_) (fun hb78=> ?_)
     ·have hds:q0K l n=o0U l++ [120]:=by unfold q0K;rw[if_pos (by simpa using hb78)]
      refine go 2 ?_;refine a0D (h0N rfl rfl (by rw[b0H,hdd,show(⟨#[120]⟩:ByteArray).size=1 from rfl];omega)) ?_;rw[show bs (o0U l)++(⟨#[120]⟩:ByteArray)=bs (q0K l n) by rw[hds,h0U]];refine go 2 ?_;exact h0W idh gSu gSp
     ·have hds:q0K l n=o0U l:=by unfold q0K;rw[if_neg (by simpa using hb78),List.append_nil]
      rw[hds];refine go 1 ?_;exact h0W idh gSu gSp
    simp only[RS,List.cons_append,List.nil_append];refine go 1 ?_;refine fx (.r 0 9 (.float 13 (.hard 9 (.r 10 3 (.res (.hard 14 (.soft 15 .done))))))) [f0Z bw a.core c,pts b4 (.cells #[.int .i64 ki,.int .i64 ai,.int .i64 at_,.int .i64 n,b0C l] 24 (0,0))] ?_;refine go 3 ?_;refine h0L rfl (a0K (v:=(a0J c).toArray) Ag.o rfl (by simp[Value.cells,a0J]) (by rfl)) ?_;refine go 2 ?_;rw[hwi];refine go 3 ?_;refine j0Y (e0:= []) rfl gSu (fun _ _ _=>rfl) Zr.o rfl ?_;refine b0Y rfl (fun hok EE FF=> ?_);refine ns ?_;refine ce 0 (a2L H c id at_ (q0K l n) hc hsz hbits (by omega)) ?_;rintro⟨H2,c2⟩ ⟨hs2,hc2,hr2⟩;refine ns ?_;refine go 1 ?_;refine fn (E:=EE) (F:=FF) (hok.put rfl) ?_;refine go 3 ?_;refine l0Y (fun b15=> ?_);dsimp only;refine b0Y rfl (fun hok EE FF=> ?_);refine ns ?_;refine a0M Sz.o rfl rfl rfl (fun u hu=>c0K hc2 u (by simpa using hu)) (by simp[Value.cells,a0J,a0S]) (a0N (by simp[Value.cells,a0J,a0S])) ?_;refine go 1 ?_;refine fn (E:=EE) (F:=FF) hok ?_;refine go 4 ?_;refine mx (.r 0 8 (.r 9 2 (.hard 8 (.soft 11 (.hard 12 (.soft 13 .done)))))) [f0Z bw a.core c,w0F b15 c2,pts b4 (.cells #[.int .i64 ki,.int .i64 ai,.int .i64 at_,.int .i64 n,b0C l] 24 (0,0))] ?_;refine go 8 ?_;refine d0A rfl (a0K (v:=(a0J c2).toArray) Ag.o rfl (by simp[Value.cells,a0J]) (a0I (by simp[Value.cells,a0J]))) ?_;refine cg 2 (k1) ?_;refine go 4 ?_;refine a0M Sz.o rfl rfl rfl (fun u hu=>c0K hc2 u (by simpa using hu)) (by simp[Value.cells,a0J,a0S]) (a0N (by simp[Value.cells,a0J,a0S])) ?_;refine go 5 ?_;exact c0T (x:=((H2,c2):b0B×Rx)) ⟨hs2,hc2,fun h0=>by rw[show er c2=_ from hr2,h3,if_pos h0]⟩ idh (RV.tmp rfl (RV.agg Ag.o rfl (by simp[a0J]) (by rfl) (RV.tmp rfl RV.nil))) (by unfold x1Z;rw[h2];rfl) gSp
   ·have k9:k=9∨k=10:=by have h: ¬(k:Int)<9:=(by simpa using hb69);omega
    obtain⟨h1,h2,h3⟩:=hA.k9 k9;have k1:=s2C (W:=W) hW hf h1 a;refine go 3 ?_;refine fx (.r 0 10 (.float 14 (.hard 10 (.r 11 3 (.res (.hard 15 (.soft 16 .done))))))) [f0Z bw a.core c,pts b4 (.cells #[.int .i64 ki,.int .i64 ai,.int .i64 at_,.int .i64 n,b0C l] 24 (0,0))] ?_;refine go 3 ?_;refine h0L rfl (a0K (v:=(a0J c).toArray) Ag.o rfl (by simp[Value.cells,a0J]) (by rfl)) ?_;refine go 2 ?_;rw[hwi];refine go 4 ?_;refine j0Y (e0:= []) rfl gSu (fun _ _ _=>rfl) Zr.o rfl ?_;refine b0Y rfl (fun hok EE FF=> ?_);refine ns ?_;refine ce 0 (h2O H c id at_ n hc hsz hbits) ?_;rintro⟨H2,c2⟩ ⟨hs2,hc2,hr2⟩;refine ns ?_;refine go 1 ?_;refine fn (E:=EE) (F:=FF) (hok.put rfl) ?_;refine go 3 ?_;refine l0Y (fun b17=> ?_);dsimp only;refine b0Y rfl (fun hok EE FF=> ?_);refine ns ?_;refine a0M Sz.o rfl rfl rfl (fun u hu=>c0K hc2 u (by simpa using hu)) (by simp[Value.cells,a0J,a0S]) (a0N (by simp[Value.cells,a0J,a0S])) ?_;refine go 1 ?_;refine fn (E:=EE) (F:=FF) hok ?_;refine go 4 ?_;refine mx (.r 0 9 (.r 10 2 (.hard 9 (.soft 12 (.hard 13 (.soft 14 .done)))))) [f0Z bw a.core c,w0F b17 c2,pts b4 (.cells #[.int .i64 ki,.int .i64 ai,.int .i64 at_,.int .i64 n,b0C l] 24 (0,0))] ?_;refine go 9 ?_;refine d0A rfl (a0K (v:=(a0J c2).toArray) Ag.o rfl (by simp[Value.cells,a0J]) (a0I (by simp[Value.cells,a0J]))) ?_;refine cg 2 (k1) ?_;refine go 4 ?_;refine a0M Sz.o rfl rfl rfl (fun u hu=>c0K hc2 u (by simpa using hu)) (by simp[Value.cells,a0J,a0S]) (a0N (by simp[Value.cells,a0J,a0S])) ?_;refine go 5 ?_;exact c0T (x:=((H2,c2):b0B×Rx)) ⟨hs2,hc2,fun h0=>by rw[show er c2=_ from hr2,h3,if_pos h0]⟩ idh (RV.tmp rfl (RV.agg Ag.o rfl (by simp[a0J]) (by rfl) (RV.tmp rfl RV.nil))) (by unfold x1Z;rw[h2];rfl) gSp
theorem d2I (P:Rp) (v:Vp):(g0M P v).2.1=P.next∨(g0M P v).2.1=0:=by
 unfold g0M;split
 ·exact .inr rfl
 ·exact .inl rfl
theorem h2Z (P:Rp) (n:Int):(e0R P n).2.1=P.next∨(e0R P n).2.1=0:=by
 unfold e0R;split
 ·exact .inr rfl
 ·exact d2I _ _
theorem s2D (P:Rp) (id:Int) (o:Bool):(i0P P id o).2.1=P.next∨(i0P P id o).2.1=0:=by
 unfold i0P;split
 ·exact .inr rfl
 ·exact d2I _ _
theorem p1J {H H2:b0B} {c c2:Rx} {e:Int} (hs: ∀p∈H,p∈H2) (hc:c0Z H c) (hc2:c0Z H2 c2):c0Z H2 (if e=0 then c2 else c):=by
 split
 ·exact hc2
 ·exact hc.more hs
theorem i2A {c c2:Rx} {e:Int} {r:Rp} (h:er c2=r):er (if e=0 then c2 else c)=if e=0 then r else er c:=by
 split
 ·exact h
 ·rfl
abbrev DoE (H:b0B) (Q:Rp) (x:b0B×Rx):Prop:=(∀p∈H,p∈x.1)∧c0Z x.1 x.2∧er x.2=Q
theorem n2I {k:Nat} {id at_ n e f:Int} {data:B} {s t:St} {P Q:Rp} (h:c1K k id at_ n data s P e f t Q) (hk:k<11∧2<k) (he:e≠0):Q=P:=by
 have hc:k=3∨k=4∨(4<k∧k<9)∨(k=9∨k=10):=by omega
 rcases hc with hc|hc|hc|hc
 ·have:=(h.k3 hc).2.2;rw[if_neg he]at this;exact this
 ·have:=(h.k4 hc).2.2;rw[if_neg he]at this;exact this
 ·have:=(h.k5 hc).2.2;rw[if_neg he]at this;exact this
 ·have:=(h.k9 hc).2.2;rw[if_neg he]at this;exact this
theorem r1O (W:World) (hW:i0L W) (a:Ad) (s t:St) (bw:Nat) (H:b0B) (c:Rx) (ki ai at_ n id e f:Int) (l:B) (k:Nat) (Q:Rp) (hk:ki%256%14=(k:Int)) (hid:ai%32=id) (hf:Fit s) (hdl0:s.depth=0∧s.log= []) (hc:c0Z H c) (hsz:w0X (er c)) (hbits:c.bits≤256) (hnx:1≤c.next∧c.next<1000000)
 (hA:c1K k id at_ n (q0K l n) s (er c) e f t Q):a0G prog 12 #[ptr bw,h2Y ki ai at_ n l] (RS W a s++ [f0Z bw a.core c,c0B H])
 (b0P (DoE H Q) (fun _=>x1N e f true) (fun x=>RS W a t++ [f0Z bw a.core x.2,c0B x.1])):=by
 have hk14:k<14:=by omega
 have hf0:e=0→f=0:=fun h0=>by rcases hA.same with g|g<;>omega
 have hnn:(er c).next=c.next:=rfl;have hi0:0≤id∧id<32:=by omega
 have hwi:IntKind.i64.wrap id=id:=e0P .i64 id hi0.1 (by show id<9223372036854775808;omega);have hwu:IntKind.u32.wrap id=id:=e0P .u32 id hi0.1 (by show id<2147483648;omega);refine en func12 ntmps12 fun R w0=> ?_
 try simp only[h2Y]
 refine go 2 ?_;refine bx fun b3=> ?_;refine go 9 ?_;refine a0D (o0O rfl rfl) ?_;rw[s1Q,hid];refine go 1 ?_;rw[hwu];refine go 8 ?_;refine a0D (o0O rfl rfl) ?_;rw[g1J _ (by decide)];refine go 1 ?_;rw[hk];refine go 11 ?_;refine a0O rfl (fun hb35=> ?_) (fun hb35=> ?_)
 ·obtain rfl:k=0:=by have h:(k:Int)=0:=(by simpa using hb35);omega
  obtain⟨m,h1,h2,h4,h5,h3⟩:=hA.k0 rfl;have hmr:0≤m∧m<4294967296:=by by_cases he:e=0;{have:=h4 he;rcases h2Z (er c) n with g|g<;>omega};{have:=h5 he;omega}
  have k1:=n1E (W:=W) hf h1 a;refine go 1 ?_;refine mx (.r 0 6 (.hard 6 (.r 7 5 .done))) [f0Z bw a.core c,pts b3 (.cells #[.int .i64 ki,.int .i64 ai,.int .i64 at_,.int .i64 n,b0C l] 24 (0,0))] ?_;refine cg 7 (k1) ?_;refine go 10 ?_;refine fx (.r 0 6 (.float 11 (.hard 6 (.r 7 4 (.res (.hard 12 (.r 13 2 .done))))))) [f0Z bw a.core c,pts b3 (.cells #[.int .i64 ki,.int .i64 ai,.int .i64 at_,.int .i64 n,b0C l] 24 (0,0))] ?_;refine go 3 ?_;refine h0L rfl (a0K (v:=(a0J c).toArray) Ag.o rfl (by simp[Value.cells,a0J]) (by rfl)) ?_;refine go 2 ?_;refine j0Y (e0:= []) rfl gSu (fun _ _ _=>rfl) Zr.o rfl ?_;refine b0Y rfl (fun hok EE FF=> ?_);refine ns ?_;refine ce 0 (x1I H c n hc (by omega)) ?_;rintro⟨H2,c2⟩ ⟨hs2,hc2,hr2⟩;refine ns ?_;refine go 1 ?_;refine fn (E:=EE) (F:=FF) (hok.put rfl) ?_;refine go 4 ?_;refine l0Y (fun b11=> ?_);dsimp only;refine b0Y rfl (fun hok EE FF=> ?_);refine ns ?_;refine a0M Sz.o rfl rfl rfl (fun u hu=>c0K hc2 u (by simpa using hu)) (by simp[Value.cells,a0J,a0S]) (a0N (by simp[Value.cells,a0J,a0S])) ?_;refine go 1 ?_;refine fn (E:=EE) (F:=FF) hok ?_;refine go 9 ?_;refine a0D (a0K (v:=(a0J c2).toArray) Ag.o rfl (by simp[Value.cells,a0J]) (a0I (by simp[Value.cells,a0J]))) ?_;refine go 2 ?_;rw[h2];refine cg 0 (k1K bw a.core m (e0R (er c) n).2.1 e f c c2 (c0K hc2) hmr h4 h5 hf0) ?_;refine go 8 ?_;exact rE idh (H2,if e=0 then c2 else c) ⟨hs2,p1J hs2 hc hc2,by rw[h3];exact i2A hr2⟩
 ·have k0: ¬k=0:=fun h=>by subst h;simp at hb35
  refine go 7 ?_;refine a0O rfl (fun hb69=> ?_) (fun hb69=> ?_)
  ·have k3:k=1∨k=2:=by have h:(k:Int)<3:=(by simpa using hb69);omega
   obtain⟨m,h1,h2,h4,h5,h3⟩:=hA.k1 k3;have hmr:0≤m∧m<4294967296:=by by_cases he:e=0;{have:=h4 he;rcases s2D (er c) id (decide (k=1))with g|g<;>omega};{have:=h5 he;omega}
   refine go 12 ?_;by_cases hk1:k=1
   ·refine go 5 ?_;refine b0S rfl (by subst hk1;rfl) ?_;refine cg 6 (x1P (W:=W) hf (by rw[decide_eq_true hk1]at h1;exact h1) a) ?_;refine go 12 ?_;refine a0D (a0K (v:=(a0J c).toArray) Ag.o rfl (by simp[Value.cells,a0J]) (by rfl)) ?_;refine go 2 ?_;rw[hwi];refine go 2 ?_;rw[show((k:Int) == 1)=decide (k=1) by by_cases h:k=1;{subst h;rfl};{rw[decide_eq_false h];simp;omega}];refine ce 0 (n1A H c id (decide (k=1)) hc (by omega)) ?_;rintro⟨H2,c2⟩ ⟨hs2,hc2,hr2⟩;refine ns ?_;refine go 4 ?_;refine al fun b17=> ?_;refine a0M Sz.o rfl rfl rfl (fun u hu=>c0K hc2 u (by simpa using hu)) (by simp[Value.cells,a0J,a0S]) (a0N (by simp[Value.cells,a0J,a0S])) ?_;refine go 9 ?_;refine a0D (a0K (v:=(a0J c2).toArray) Ag.o rfl (by simp[Value.cells,a0J]) (a0I (by simp[Value.cells,a0J]))) ?_;refine go 2 ?_;rw[h2];refine cg 0 (k1K bw a.core m (i0P (er c) id (decide (k=1))).2.1 e f c c2 (c0K hc2) hmr h4 h5 hf0) ?_;refine go 8 ?_;exact rE idh (H2,if e=0 then c2 else c) ⟨hs2,p1J hs2 hc hc2,by rw[h3];exact i2A hr2⟩
   ·refine go 5 ?_;refine d0P rfl (by have h:k=2:=(by omega);subst h;rfl) ?_;refine cg 13 (n2H (W:=W) hf (by rw[decide_eq_false hk1]at h1;exact h1) a) ?_;refine go 12 ?_;refine a0D (a0K (v:=(a0J c).toArray) Ag.o rfl (by simp[Value.cells,a0J]) (by rfl)) ?_;refine go 2 ?_;rw[hwi];refine go 2 ?_;rw[show((k:Int) == 1)=decide (k=1) by by_cases h:k=1;{subst h;rfl};{rw[decide_eq_false h];simp;omega}];refine ce 0 (n1A H c id (decide (k=1)) hc (by omega)) ?_;rintro⟨H2,c2⟩ ⟨hs2,hc2,hr2⟩;refine ns ?_;refine go 4 ?_;refine al fun b17=> ?_;refine a0M Sz.o rfl rfl rfl (fun u hu=>c0K hc2 u (by simpa using hu)) (by simp[Value.cells,a0J,a0S]) (a0N (by simp[Value.cells,a0J,a0S])) ?_;refine go 9 ?_;refine a0D (a0K (v:=(a0J c2).toArray) Ag.o rfl (by simp[Value.cells,a0J]) (a0I (by simp[Value.cells,a0J]))) ?_;refine go 2 ?_;rw[h2];refine cg 0 (k1K bw a.core m (i0P (er c) id (decide (k=1))).2.1 e f c c2 (c0K hc2) hmr h4 h5 hf0) ?_;refine go 8 ?_;exact rE idh (H2,if e=0 then c2 else c) ⟨hs2,p1J hs2 hc hc2,by rw[h3];exact i2A hr2⟩
  ·have k3: ¬k<3:=fun h=>by have h2: ¬(k:Int)<3:=(by simpa using hb69);omega
   refine go 7 ?_;refine a0O rfl (fun hb113=> ?_) (fun hb113=> ?_)
   ·obtain rfl:k=11:=by have h:(k:Int)=11:=(by simpa using hb113);omega
    obtain⟨h1,h2,h3⟩:=hA.k11 rfl;obtain rfl:f=e:=hA.rest (by decide);have k1:=x1Q (W:=W) h1 a;refine go 1 ?_;refine mx (.r 0 9 (.hard 9 (.r 10 5 .done))) [f0Z bw a.core c,pts b3 (.cells #[.int .i64 ki,.int .i64 ai,.int .i64 at_,.int .i64 n,b0C l] 24 (0,0))] ?_;refine cg 10 (k1) ?_;refine go 10 ?_;refine mx (.r 0 10 (.hard 10 (.r 11 5 .done))) [f0Z bw a.core c,pts b3 (.cells #[.int .i64 ki,.int .i64 ai,.int .i64 at_,.int .i64 n,b0C l] 24 (0,0))] ?_;refine go 3 ?_;refine d0A rfl (a0K (v:=(a0J c).toArray) Ag.o rfl (by simp[Value.cells,a0J]) (by rfl)) ?_;refine go 2 ?_;rw[hwi];refine cg 5 (n1D H c id at_ n hc hsz) ?_;refine go 15 ?_;refine a0D (s0O rfl rfl) ?_;refine go 5 ?_;refine g1I (H,c) ⟨fun _ h=>h,hc,h3.symm⟩ idh rfl (by unfold x1N;simp[h2]) gSp
   ·have k11: ¬k=11:=fun h=>by subst h;simp at hb113
    refine go 7 ?_;refine a0O rfl (fun hb148=> ?_) (fun hb148=> ?_)
    ·obtain rfl:k=12:=by have h:(k:Int)=12:=(by simpa using hb148);omega
     obtain rfl:f=e:=hA.rest (by decide);obtain⟨rfl,rfl,rfl⟩:=hA.k12 rfl;refine go 1 ?_;refine tl 8 ?_;refine go 6 ?_;refine b0V (o0O rfl rfl) ?_;rw[g1J _ (by decide)];refine go 2 ?_;rw[e0P .u32 (n%256) (by omega) (by show n%256<2147483648;omega)];refine cg 0 (a2Q W a s (n%256)) ?_;refine go 7 ?_;refine a0D (o0O rfl rfl) ?_;refine go 3 ?_;rw[g1J _ (by decide)];refine go 10 ?_;exact rE idh (H,{c with epoch:=n%256}) ⟨fun _ h=>h,⟨hc.vols,hc.maps,hc.few⟩,rfl⟩
    ·have k12: ¬k=12:=fun h=>by subst h;simp at hb148
     refine go 7 ?_;refine a0O rfl (fun hb167=> ?_) (fun hb167=> ?_)
     ·obtain rfl:k=13:=by have h:(k:Int)=13:=(by simpa using hb167);omega
      obtain rfl:f=e:=hA.rest (by decide);obtain⟨rfl,rfl,rfl⟩:=hA.k13 rfl;refine go 8 ?_;refine a0D (j0R Sc.o rfl gFd rfl) ?_;refine cg 0 (v1M a s hdl0) ?_;refine go 9 ?_;exact rE idh (H,c) ⟨fun _ h=>h,hc,rfl⟩
     ·have k13: ¬k=13:=fun h=>by subst h;simp at hb167
      refine go 5 ?_;refine a0D (a0K (v:= #[.int .i64 ki,.int .i64 ai,.int .i64 at_,.int .i64 n,b0C l]) Ag.o rfl (by simp[Value.cells]) (a0I (by simp[Value.cells]))) ?_;refine ce 1 (a2R W hW a s t bw H c ki ai at_ n id e f l k Q hk (by omega) hi0 hf hc hsz hbits hA) ?_;rintro⟨H2,c2⟩ ⟨hs2,hc2,hq2⟩;refine ns ?_;refine go 4 ?_;refine al fun b25=> ?_;refine go 1 ?_;refine a0M Sz.o rfl rfl rfl (fun u hu=>c0K hc2 u (by simpa using hu)) (by simp[Value.cells,a0J,a0S]) (a0N (by simp[Value.cells,a0J,a0S])) ?_;refine go 5 ?_;by_cases he:e=0
      ·refine go 4 ?_;refine b0Z (d0H rfl) (wg rfl rfl rfl (wTT (by simpa using he))) ?_;refine b0Z (b1F rfl rfl) (wg rfl rfl rfl (wTT (by simpa using he))) ?_;refine a0D (h0V rfl (by simpa using he) rfl) ?_;refine go 2 ?_;refine d0P rfl (by simpa using hf0 he) ?_;refine go 2 ?_;refine a0D (a0K (v:=(a0J c2).toArray) Ag.o rfl (by simp[Value.cells,a0J]) (a0I (by simp[Value.cells,a0J]))) ?_;refine go 2 ?_;refine a0M Sz.o rfl rfl rfl (fun u hu=>c0K hc2 u (by simpa using hu)) (by simp[a0J]) (by simp[j0I,a0J];rfl) ?_;refine go 11 ?_;exact rE idh (H2,c2) ⟨hs2,hc2,hq2 he⟩
      ·refine go 4 ?_;refine c0D rfl (wg rfl rfl rfl (wTF (by simpa using he))) ?_;refine c0D rfl (wg rfl rfl rfl (wTF (by simpa using he))) ?_;refine a0D (h0H rfl (by simpa using he) rfl) ?_;refine go 14 ?_;exact rE idh (H2,c) ⟨hs2,hc.more hs2,(n2I hA (by omega) he).symm⟩
structure AP where
 ki:Int
 ai:Int
 at_:Int
 n:Int
 l:B
def i2B (x:AP):List Value:= [.int .i64 x.ki,.int .i64 x.ai,.int .i64 x.at_,.int .i64 x.n,b0C x.l]
def n2J (W:World) (v:Value) (acts:List AP):Prop:= ∃(p:Option Addr) (cap:Nat),v= .slice p acts.length cap∧acts.length≤maxLen∧ ∀i (h:i<acts.length),∃a,p=some a∧ ∀q u,(i2B acts[i])[q]? =some u→W.cell? ((a.add (i*5)).add q)=some u
structure CA (n:Nat) (x:Nat×St×Gh×Rx×b0B):Prop where
 le:x.1≤n
 i12:x.1≤12
 j:J x.2.1 x.2.2.1 (er x.2.2.2.1)
 bud:Bud x.1 x.2.1 (er x.2.2.2.1)
 next:x.2.2.2.1.next≤1+x.1
 bits:x.2.2.2.1.bits≤256
 core:c0Z x.2.2.2.2 x.2.2.2.1
theorem w2O {W:World} {s t:St} {id:Int} {p:B×Int} (h:w0M id s=(.ok p,t)) (a:Ad):a0G prog 13 #[ptr a.core,.int .u32 id] (RS W a s) (a0T (s2T p) (RS W a t)):=by
 have k:=n2G W a s id (by rw[h];simp);rw[h]at k;exact k.ran_ok
section
structure CB (x:St×Gh×Rx×b0B):Prop where
 j:J x.1 x.2.1 (er x.2.2.1)
 bud:Bud 12 x.1 (er x.2.2.1)
 next:x.2.2.1.next≤13
 bits:x.2.2.1.bits≤256
 core:c0Z x.2.2.2 x.2.2.1
theorem s2E {i j:Nat} {s:St} {P:Rp} (h:Bud i s P) (hij:i≤j):Bud j s P:=by
 obtain⟨w,t,h1,h2,h3⟩:=h;exact⟨w,t,by omega,h2,h3⟩
theorem n2K {s:St} {G:Gh} {c:Rx} (h:J s G (er c)) (hb:c.bits≤256):Fit s:=⟨by have e:s.bits=c.bits:=h.bits;omega,by have:=h.ci.few;omega⟩
set_option maxRecDepth 8000
end
end Go.Proofs.Q
namespace Go.Proofs.Q
open Go.Sl Go.Sb Tryz
set_option maxRecDepth 8000
theorem w2P (W:World) (a:Ad) (s:St) (bw:Nat) (H:b0B) (c:Rx) (G:Gh) (ep:Int) (hJ:J s G {er c with epoch:=ep}) (hsm:Sml (er c)) (hc:c0Z H c) (hnx:c.next<1000000) (j:Nat) (hj:j<c.l.length) (x:Ent) (hx:a0C c.l[j].v.id s.vols=some x):
 a0G prog 54 #[ptr bw,e0E x,a1G c.l[j]] (RS W a s++ [f0Z bw a.core c,c0B H]) (a0T (.bool true) (RS W a s++ [f0Z bw a.core c,c0B H])):=by
 have hin:c.l[j].v∈(er c).l:=List.mem_map.2 ⟨_,List.getElem_mem hj,rfl⟩;have hvi:=hc.maps _ (List.getElem_mem hj);obtain⟨x',hx',hr⟩:=hJ.vol c.l[j].v hin;rw[hx]at hx';cases hx'
 have hid:1≤c.l[j].v.id∧c.l[j].v.id<(er c).next:=hJ.ids _ hin;have hxi:=(hJ.ci.ids _ (hJ.ci.mem hx)).1;have hsv:=hsm.vol _ hin;have hsd:w0X (er c):=hJ.sized;have hsz:=hsd _ hin;have hsum:=hJ.sumDoc hin;have hjl:j<(er c).l.length:=by show j<(c.l.map (·.v)).length;rw[List.length_map];exact hj
 have hjv:(er c).l[j]=c.l[j].v:=by simp[er]
 have hfi:c0Q (er c).l (er c).l[j].id=some j:=hJ.findOf hjl;have hgd:(er c).l.getD j v0=c.l[j].v:=by rw[List.getD_eq_getElem?_getD,List.getElem?_eq_getElem hjl,hjv];rfl
 rw[hjv]at hfi;have hnn:(er c).next=c.next:=rfl;obtain⟨r1,r2,r3,r4,r5⟩:=hr;obtain⟨xi,xp,xo,xs,xr,xb⟩:=x;simp only at hxi r1 r2 r3 r4;subst hxi r1 r2 r3 r4;obtain⟨k,hk⟩: ∃k:Int,k=min c.l[j].v.size 30:=⟨_,rfl⟩;have hbad:m0Q ((er c).l.getD j v0) (c.l[j].v.size-k) k=false:=by rw[hgd];unfold m0Q;refine decide_eq_false ?_;omega
 have hrd:n0Y c.l[j].v.id (c.l[j].v.size-k) k s=(.ok (m0A (er c) c.l[j].v.id (c.l[j].v.size-k) k),s):=hJ.readIn hfi hbad;obtain⟨B0,hB0⟩: ∃B0,m0A (er c) c.l[j].v.id (c.l[j].v.size-k) k=(B0,0):=by unfold m0A;rw[hfi];simp only;rw[if_neg (by rw[hbad];decide)];exact⟨_,rfl⟩
 have hrs:=n1D H c c.l[j].v.id (c.l[j].v.size-k) k hc hsd;rw[hB0]at hrd hrs;have hw1:IntKind.i64.wrap c.l[j].v.id=c.l[j].v.id:=e0P .i64 _ (by omega) (by show c.l[j].v.id<9223372036854775808;omega);have hw2:IntKind.i64.wrap c.l[j].v.parent=c.l[j].v.parent:=e0P .i64 _ hsv.1.1 (by show c.l[j].v.parent<9223372036854775808;have:=hsv.1.2;omega);have hw3:IntKind.i64.wrap c.l[j].v.born=c.l[j].v.born:=e0P .i64 _ hsv.2.1 (by show c.l[j].v.born<9223372036854775808;have:=hsv.2.2;omega);obtain⟨D,hD⟩: ∃D,D=dgR c.l[j].v.m 2 0:=⟨_,rfl⟩;have hDl:D.length=32:=by rw[hD];exact c2Z _ _ _
 have hs2:(D.map a0Q).toArray.size=32:=by simp[hDl]
 rw[←hD]at hsum;refine ns ?_;refine en func54 ntmps54 fun R w0=> ?_;refine go 2 ?_;refine bx fun b4=> ?_;refine bx fun b5=> ?_;refine go 9 ?_;rw[hw1];refine go 7 ?_;rw[hw2];refine go 9 ?_;refine b0Z (d2Y F.bo4 rfl rfl) (wg rfl rfl rfl (wFF (by simp))) ?_;refine go 12 ?_;rw[hw3];refine go 10 ?_;refine fx (.r 0 6 (.float 10 (.hard 6 (.r 7 3 (.res (.hard 11 (.soft 12 .done))))))) [f0Z bw a.core c,s0M b4 ⟨c.l[j].v.id,c.l[j].v.parent,c.l[j].v.only,c.l[j].v.size,xr,c.l[j].v.born⟩] ?_;refine go 6 ?_;refine j0Y (e0:= []) rfl gSu (fun _ _ _=>rfl) Zr.o rfl ?_;refine b0Y rfl (fun hok EE FF=> ?_);refine ns ?_;refine cg 0 (w2O (W:=W) hsum a) ?_;refine go 1 ?_;refine fn (E:=EE) (F:=FF) (hok.put rfl) ?_;refine go 3 ?_;refine l0Y (fun b7=> ?_);dsimp only;refine b0Y rfl (fun hok EE FF=> ?_);refine ns ?_;refine a0M Sz.o rfl rfl hs2 (fun x hx=>by simp at hx;obtain⟨_,_,rfl⟩:=hx;rfl) (by rw[hs2];simp[Value.cells]) (a0N (by rw[hs2];simp[Value.cells])) ?_;refine go 1 ?_;refine fn (E:=EE) (F:=FF) hok ?_;refine go 8 ?_;rw[←hk];refine go 4 ?_;refine mx (.r 0 11 (.hard 11 (.r 12 5 .done))) [f0Z bw a.core c,s0M b4 ⟨c.l[j].v.id,c.l[j].v.parent,c.l[j].v.only,c.l[j].v.size,xr,c.l[j].v.born⟩,w1X b5 c.l[j]] ?_;refine cg 12 (x1Q (W:=W) hrd a) ?_;refine go 10 ?_;refine mx (.r 0 11 (.hard 11 (.r 12 5 .done))) [f0Z bw a.core c,w1X b5 c.l[j]] ?_;refine go 3 ?_;refine d0A rfl (a0K (v:=(a0J c).toArray) Ag.o rfl (by simp[Value.cells,a0J]) (by rfl)) ?_;refine cg 8 (hrs) ?_;refine go 10 ?_;refine mx (.r 0 8 (.r 9 2 (.hard 8 (.hard 11 (.r 12 8 .done))))) [w1X b5 c.l[j],pts b7 (.cells (D.map a0Q).toArray 44 (0,0))] ?_;refine go 7 ?_;refine t0D rfl (a0K Ag.o rfl (by rw[hs2];omega) (a0I hs2)) (wg rfl rfl rfl (wTT rfl)) ?_;refine cg 4 (w0T D hDl) ?_;refine cg 4 (a2A H c.l[j].mv c.l[j].v.m hvi.1 hvi.2) ?_;refine go 2 ?_;refine t0D rfl (s0O rfl rfl) (wg rfl rfl rfl (wTT rfl)) ?_;refine go 2 ?_;refine t0D rfl (d0H rfl) (wg rfl rfl rfl (wTT (by rw[hD];simp))) ?_;refine t0D rfl (d0H rfl) (wg rfl rfl rfl (wTT (by rw[hD];simp))) ?_;refine t0D rfl (s0O rfl rfl) (wg rfl rfl rfl (wTT (by rw[hD];simp))) ?_;refine d0A rfl (h0V rfl (by rw[hD];simp) rfl) ?_;refine go 3 ?_;exact rG (hu:=(by simp))
abbrev s0N (b bw:Nat):a0E:=pts b (.cells #[ptr bw] 26 (0,0))
abbrev k1L (b:Nat) (v:Value):a0E:=pts b (.cells #[v] 90 (0,0))
abbrev i2C (v:Value) (l:List Int):a0E:=b0I 3 1 v l.length (j0W l)
abbrev n1G (a:Ad) (b1 b4 b9 bw:Nat) (c:Rx) (rv:Value) (roots:List Int):a0E:=b0E [s0N b1 bw,k1L b4 rv,k1L b9 (.slice none 0 0),i2C rv roots,f0Z bw a.core c]
abbrev n1H (a:Ad) (b1 b9 bw:Nat) (c:Rx) (n:Nat):a0E:=ex fun x:Value×List Int=>b0E [m0X (x.2.length=n),s0N b1 bw,k1L b9 x.1,i2C x.1 x.2,f0Z bw a.core c]
theorem i2D (W:World) (a:Ad) (s:St) (G:Gh) (P:List Int) (hi:Inv s G P) (b1 b4 b9 bw:Nat) (c:Rx) (rv:Value) (hrv:rv.oneCell'=true) (roots:List Int) (hk: ∀r∈roots,a0W G 3 r) (hP: ∀p∈P,p∈roots) (hrl:roots.length≤1000):
 a0G prog 55 #[ptr b1,ptr b4,ptr b9] (RS W a s++ [n1G a b1 b4 b9 bw c rv roots]) (Ran fT (RSC W a (n1G a b1 b4 b9 bw c rv roots) fun _:Unit=>n1H a b1 b9 bw c (s.g.count 1)) i0S (f0P (ret ()) (s,.start))):=by
 refine ns ?_;refine en func55 ntmps55 fun R w0=> ?_;refine l0C (show Fnd _ (n1G a b1 b4 b9 bw c rv roots) _ from gFd) ?_;refine ns ?_;refine tl 8 ?_;refine go 6 ?_;refine b0V (j0R Sc.o rfl gFd rfl) ?_;refine ce 2 (r1Y W a s G P hi roots hk hP rv hrl) ?_;rintro⟨v,xs⟩ hx;refine ns ?_;dsimp only at hx ⊢;refine z0F (e:=3) (v:=v) gFd fun hv1=> ?_;refine go 2 ?_;refine b0F (L':=n1H a b1 b9 bw c (s.g.count 1)::(RS W a s++ [R])) (fun w h=>g0K.2 ⟨(v,xs),b0M.2 ?_⟩) ?_
 ·refine ns ?_;exact n0V hx w (h.sub gSp)
 ·exact fR (s:=(s,.done ())) rfl
theorem w2Q (x:Ent):eqK [0,0,2,0,0,0] (f0U x) (f0U x)=some true:=by simp[f0U,eqK]
theorem w2R {α:Type} {m:M α} {s t t':St} {e:Int} {c c':Car α} (h:o0J (f0P m) (s,.start)=(.ok e,(t,c))) (h':i0K m s=(.ok (0,c'),t')):0=e∧c'=c∧t'=t:=by
 rw[t0A h]at h';simp only[Prod.mk.injEq,Out.ok.injEq]at h';exact⟨h'.1.1.symm,h'.1.2.symm,h'.2.symm⟩
theorem d2J {s:St} {G:Gh} (h:CI s G):i0K (ret ():M Unit) s=(.ok (0,.done ()),s):=by
 have:=q0U h (m:=(ret ():M Unit)) (a:=()) rfl (Rel.refl h.deep.u);rw[t1V h.dep h.log h.gone]at this;exact this
theorem i2E (W:World) (a:Ad) (s:St) (bw:Nat) (H:b0B) (c:Rx) (G:Gh) (ep:Int) (hJ:J s G {er c with epoch:=ep}) (hsm:Sml (er c)) (hc:c0Z H c) (hnx:c.next<1000000):
 a0G prog 16 #[ptr bw] (RS W a s++ [f0Z bw a.core c,c0B H]) (a0T (.bool true) (RS W a s++ [f0Z bw a.core c,c0B H])):=by
 have hel:(er c).l.length=c.l.length:=List.length_map ..;have h16:s.vols.length≤16:=hJ.ci.few;have hcl:c.l.length≤16:=by have h:s.vols.length=(er c).l.length:=hJ.len;omega
 have hnn:(er c).next=c.next:=rfl;have hpos:1≤(er c).next:=hJ.pos;have hsn:s.next=(er c).next:=hJ.next;have hwn:IntKind.i64.wrap s.next=c.next:=by rw[hsn];exact e0P .i64 _ (by omega) (by show(er c).next<9223372036854775808;omega)
 obtain⟨pr,capr,hlv,hcapr⟩:=d0W hc.vols;have hrow:=hc.vols;rw[hlv]at hrow;obtain⟨roots,hroots⟩: ∃roots,roots=(er c).l.map (y0H s):=⟨_,rfl⟩;have hrtl:roots.length=c.l.length:=by rw[hroots,List.length_map,hel]
 refine ns ?_;refine en func16 ntmps16 fun R w0=> ?_;refine go 2 ?_;refine bx fun b1=> ?_;refine ce 9 (g1A a s h16 hJ.ci.inv.u.m.vols) ?_;rintro⟨lv,xs⟩ ⟨h1,h2⟩;refine ns ?_;dsimp only at h1 h2 ⊢;have hxs:xs=(er c).l.map (·.id):=hJ.keys h1 h2;have hxl:xs.length=c.l.length:=by rw[hxs,List.length_map,hel]
 clear h1 h2;refine go 5 ?_;refine n0W (e:=50) (v:=lv) gFd fun pe cape hve hcape _=> ?_;subst hve;refine mx (.r 0 14 (.r 16 5 (.hard 14 (.soft 15 (.r 21 2 .done))))) [s0N b1 bw,f0Z bw a.core c] ?_;refine go 6 ?_;refine d0A rfl (b0N (v:= .slice pr c.l.length capr) Sc.o rfl (by exact congrArg some hlv)) ?_;refine cg 14 (n1F W a s) ?_;refine go 3 ?_;rw[hwn];refine go 9 ?_;refine bl fun b39=> ?_;refine al fun b4=> ?_;refine go 10 ?_;refine a0D (b0N (v:= .slice pr c.l.length capr) Sc.o rfl (by exact congrArg some hlv)) ?_;refine go 5 ?_;refine b0U (fun w h=>o0K 1 ((show Fnd _ (pts b39 _) _ from gFd).sat h)) ?_;refine a0V (X:= {y:Nat×Value // y.1≤c.l.length∧y.2.oneCell'=true}) (fun y=> [(1,ptr b1),(2,.bool false),(3,.slice pe xs.length cape),(4,ptr b4),(44,.slice pr c.l.length capr),(45,.int .i64 c.l.length),(46,.int .i64 y.1.1)]) (fun y=>RS W a s++ [f0Z bw a.core c,c0B H,s0N b1 bw,k1L b4 y.1.2,b0I 3 1 y.1.2 y.1.1 (j0W (roots.take y.1.1)),b0I 50 6 (.slice pe xs.length cape) xs.length (xs.flatMap (a1H s)),R]) (fun y=>c.l.length-y.1.1) ⟨(0,.slice (some ⟨b39,0,none⟩) 0 0),Nat.zero_le _,rfl⟩ gSu gSp ?_;rintro⟨⟨j,rv⟩,hj,hrv⟩ m0 hm0
 try simp only at hm0
 try dsimp only
 simp only at hj hrv;refine ns ?_;refine go 6 ?_;refine a0O rfl (fun hb47=> ?_) (fun hb47=> ?_)
 ·have hjl:j<c.l.length:=by have:=of_decide_eq_true hb47;omega
  have hjr:j<roots.length:=by omega
  obtain⟨b,o,cap',cur,hv,hcp,hmem,hcut,hlen⟩:=g0V hrow (by omega);cases hv
  have hcu:(cur.drop (o+j*6)).take 6=a0S c.l[j]:=(i0I hcut hjl).trans (n0G c.l hjl);have hvi:=hc.maps _ (List.getElem_mem hjl);have hin:c.l[j].v∈(er c).l:=List.mem_map.2 ⟨_,List.getElem_mem hjl,rfl⟩;have hid:1≤c.l[j].v.id∧c.l[j].v.id<(er c).next:=hJ.ids _ hin;have hwu:IntKind.u32.wrap c.l[j].v.id=c.l[j].v.id:=e0P .u32 _ (by omega) (by show c.l[j].v.id<2147483648;omega);obtain⟨x,hx,hxr⟩:=hJ.vol c.l[j].v hin;refine i0T (e:=50) (v:= .slice pe xs.length cape) gFd (by omega) fun be cpe hve2 hcpe=> ?_;cases hve2
  have hxj:xs[j]'(by omega)=c.l[j].v.id:=by simp[hxs,er]
  have hcut2:((xs.flatMap (a1H s)).drop (j*6)).take 6=f0U x:=by rw[p0J (f:=a1H s) (size:=6) (fun _=>rfl) xs (by omega)];show f0U ((a0C xs[j] s.vols).getD g0L)=_;rw[hxj,hx];rfl
  have hrj:roots[j]=x.root:=by have:y0H s c.l[j].v=x.root:=(by unfold y0H;rw[hx];rfl);simp[hroots,er,this]
  refine go 8 ?_;refine a0D (f0A (vs:=a0S c.l[j]) Ag.o rfl gFd hmem hcu rfl (by decide)) ?_;refine al fun b6=> ?_;refine go 1 ?_;refine a0M Sz.o rfl rfl rfl (fun u hu=>r0D hvi u (by simpa using hu)) (by simp[Value.cells,a0J,a0S]) (a0N (by simp[Value.cells,a0J,a0S])) ?_;refine go 3 ?_;refine fx (.r 0 7 (.float 11 (.hard 7 (.r 8 3 (.res (.hard 12 (.soft 13 .done))))))) [f0Z bw a.core c,s0N b1 bw,w1X b6 c.l[j]] ?_;refine go 7 ?_;refine j0Y (e0:= []) rfl gSu (fun _ _ _=>rfl) Zr.o rfl ?_;rw[hwu];refine b0Y rfl (fun hok EE FF=> ?_);refine ns ?_;refine cg 0 ((by have h:=f1U W a s c.l[j].v.id;rw[hx]at h;exact h)) ?_;refine go 1 ?_;refine fn (E:=EE) (F:=FF) (hok.put rfl) ?_;refine go 3 ?_;refine l0Y (fun b7=> ?_);dsimp only;refine b0Y rfl (fun hok EE FF=> ?_);refine ns ?_;refine go 2 ?_;refine fn (E:=EE) (F:=FF) hok ?_;refine go 5 ?_;refine tl 14 ?_;refine go 7 ?_;refine n0H (wg rfl rfl rfl (wFF rfl)) (x0T (e:=50) (size:=6) (xs:=xs.flatMap (a1H s)) Ag.o rfl gFd (vs:=f0U x) (by rw[Nat.zero_add];exact hcut2) rfl (by decide)) ?_;refine n0H (wg rfl rfl rfl (wFF rfl)) (u1V F.fk50 rfl rfl (w2Q x)) ?_;refine cg 7 (w2P W a s bw H c G ep hJ hsm hc hnx j hjl x hx) ?_;refine go 11 ?_;refine bl fun b82=> ?_;refine(d0E Tsl.o Ttb.o Zr.o rfl rfl rfl gFd (f0I Tsl.o (by simp;rfl) (by simp) (by simp[Value.oneCell'])) (by simp only[maxLen];omega) (by omega) (fun v83 hv83=> ?_));refine go 2 ?_;rw[show j0W (roots.take j)++ [Value.int .i64 x.root]=j0W (roots.take (j+1)) by rw[List.take_succ,List.getElem?_eq_getElem hjr,hrj];simp[j0W]];refine go 5 ?_;exact rd idh (⟨(j+1,v83),hjl,hv83⟩)
 ·obtain rfl:j=c.l.length:=by have:=of_decide_eq_false hb47;omega
  rw[show b0I 3 1 rv c.l.length (j0W (roots.take c.l.length))=i2C rv roots by rw[List.take_of_length_le (by omega),←hrtl]];refine go 4 ?_;refine al fun b9=> ?_;refine go 10 ?_;refine a0D (j0R Sc.o rfl gFd rfl) ?_;refine go 1 ?_;refine e0X (l0O (N:= [s0N b1 bw,k1L b4 rv,k1L b9 (.slice none 0 0),i2C rv roots,f0Z bw a.core c]) gSp) ?_;refine a0U rfl Hb.o rfl (t0V (C:=Car Unit) W a (u0Y (n1G a b1 b4 b9 bw c rv roots) (fun _:Unit=>n1H a b1 b9 bw c (s.g.count 1))) 55 [ptr b1,ptr b4,ptr b9] (f0P (ret ())) s .start Hb.o (d1L (by rw[d2J hJ.ci];simp)) (fun _=>i2D W a {s with depth:=s.depth+1} G (g0Q s) (by rw[hJ.ci.dep];exact hJ.ci.deep) b1 b4 b9 bw c rv hrv roots (by rw[hroots];exact hJ.rootKid) (by rw[hroots];exact hJ.rootAll) (by omega))) gSp (fun e ⟨t,oc⟩ ho=> ?_) (fun e t ho=>by refine pn ?_;(exact(m0T ho).elim));refine ns ?_;refine go 2 ?_;obtain⟨rfl,rfl,rfl⟩:=w2R ho (d2J hJ.ci);simp only[u0Y];refine go 2 ?_;refine v0M (show Fnd _ (n1H a b1 b9 bw c (s.g.count 1)) _ from gFd) fun x=> ?_;obtain⟨rv2,ys⟩:=x;refine ns ?_;refine n0N (p:=ys.length=s.g.count 1) gFd fun hyl=> ?_;refine n0W (e:=3) (v:=rv2) gFd fun py cpy hvy hcpy _=> ?_;subst hvy;refine a1U (.soft 0 (.soft 1 (.soft 2 (.soft 3 (.soft 4 (.soft 5 (.soft 6 (.soft 7 (.soft 8 (.soft 9 (.soft 10 (.soft 11 (.hard 12 (.soft 13 (.soft 14 (.soft 15 .done)))))))))))))))) [HLX a,s0N b1 bw,k1L b9 (.slice py ys.length cpy),f0Z bw a.core c] Fol.o (by kernel_rfl) (by repeat (first|with_reducible exact b0T.bp|with_reducible apply b0T.then|with_reducible apply b0T.inBlock)) (g0T gSp) ?_;refine go 11 ?_;refine t0D rfl (r0T Sc.o rfl gFd (fun _ _=>rfl)) (wg rfl rfl rfl (wTT rfl)) ?_;refine cg 2 (c1R a s) ?_;refine go 1 ?_;refine h0B (g0T gSp) ?_;refine go 5 ?_;exact rG (hu:=(by rw[hyl];simp[d2R]))
theorem a3E (W:World) (a:Ad) (s:St) (bw:Nat) (H:b0B) (c:Rx) (G:Gh) (hJ:J s G (er c)) (hsm:Sml (er c)) (hc:c0Z H c) (hnx:c.next<1000000):
 a0G prog 16 #[ptr bw] (RS W a s++ [f0Z bw a.core c,c0B H]) (a0T (.bool true) (RS W a s++ [f0Z bw a.core c,c0B H])):=i2E W a s bw H c G c.epoch hJ hsm hc hnx
end Go.Proofs.Q
namespace Go.Proofs.Q
open Go.Sl Go.Sb Tryz
theorem i1J {α:Type} {Q:Nat→α→Prop} : ∀n:Nat,(∀i,i<n→ ∃x,Q i x)→ ∃l:List α,l.length=n∧ ∀i (h:i<l.length),Q i l[i]
 |0,_=>⟨[],rfl,fun i h=>absurd h (Nat.not_lt_zero _)⟩
 |n+1,h=>by
  obtain⟨l,hl,hq⟩:=i1J n fun i hi=>h i (by omega);obtain⟨x,hx⟩:=h n (by omega);refine⟨l++ [x],by simp[hl],fun i hi=> ?_⟩;by_cases e:i<l.length
  ·rw[List.getElem_append_left e];exact hq i e
  ·have hi':i=n:=by rw[List.length_append,List.length_singleton]at hi;omega
   subst hi';rw[List.getElem_append_right (by omega)];simpa using hx
theorem a3B (s:ByteArray): ∃l:B,s=bs l:=⟨s.data.toList,by show s=ByteArray.mk s.data.toList.toArray;simp⟩
def y1B (W:World) (v:Value):Prop:= ∃(p:Option Addr) (n cap:Nat),v= .slice p n cap∧n≤maxLen∧ ∀i,i<n→ ∃A,p=some A∧ ∃a b c d s,∀q u,(p2C a b c d s)[q]? =some u→W.cell? ((A.add (i*5)).add q)=some u
theorem w2T {W:World} {v:Value} (h:y1B W v): ∃acts,n2J W v acts:=by
 obtain⟨p,n,cap,rfl,hn,hc⟩:=h;obtain⟨l,hl,hq⟩:=i1J (Q:=fun i (x:AP)=> ∃a,p=some a∧ ∀q u,(i2B x)[q]? =some u→W.cell? ((a.add (i*5)).add q)=some u) n fun i hi=>by
  obtain⟨A,hp,a,b,c,d,s,hcell⟩:=hc i hi;obtain⟨l,rfl⟩:=a3B s;exact⟨{ki:=a,ai:=b,at_:=c,n:=d,l:=l},A,hp,hcell⟩
 exact⟨l,p,cap,by rw[hl],by omega,hq⟩
theorem y1C:g1C (f0X (k0Q 100) 2 256 1):=y1N
section
structure CP (m n:Nat) (x:Nat×St×Gh×Rx×b0B):Prop where
 le:x.1≤n
 lim:x.1≤m
 j:J x.2.1 x.2.2.1 (er x.2.2.2.1)
 bud:Bud x.1 x.2.1 (er x.2.2.2.1)
 next:x.2.2.2.1.next≤1+x.1
 bits:x.2.2.2.1.bits≤256
 core:c0Z x.2.2.2.2 x.2.2.2.1
 sml:Sml (er x.2.2.2.1)
structure CQ (m:Nat) (x:St×Gh×Rx×b0B):Prop where
 j:J x.1 x.2.1 (er x.2.2.1)
 bud:Bud m x.1 (er x.2.2.1)
 next:x.2.2.1.next≤1+m
 bits:x.2.2.1.bits≤256
 core:c0Z x.2.2.2 x.2.2.1
 sml:Sml (er x.2.2.1)
def cbx (bits:Nat):Rx:= {lv:= .slice none 0 0,l:= [],next:=1,bits:=bits,epoch:=1}
theorem CP.done {m n:Nat} {i:Nat} {s:St} {G:Gh} {c:Rx} {H:b0B} (h:CP m n (i,s,G,c,H)):CQ m (s,G,c,H):=
 ⟨h.j,s2E h.bud h.lim,by have h1:=h.next;have h2:=h.lim;simp only at h1 h2 ⊢;omega,h.bits,h.core,h.sml⟩
theorem CP.step {m n:Nat} {i:Nat} {s t:St} {G G2:Gh} {c c2:Rx} {H H2:b0B} {k:Nat} {id at_ nn e f:Int} {data:B} {Q:Rp} (h:CP m n (i,s,G,c,H)) (hn:i<n) (hm:i<m) (hk:k<14) (hid:0≤id∧id<32) (hact:c1K k id at_ nn data s (er c) e f t Q)
 (hj2:J t G2 Q) (hb2:Bud (i+1) t Q) (hn2:Q.next≤(er c).next+1) (hc2:c0Z H2 c2) (hr2:er c2=Q):CP m n (i+1,t,G2,c2,H2) where
 le:=hn
 lim:=hm
 j:=by show J t G2 (er c2);rw[hr2];exact hj2
 bud:=by show Bud (i+1) t (er c2);rw[hr2];exact hb2
 next:=by
  have e1:c2.next=Q.next:=congrArg (fun q:Rp=>q.next) hr2;have e2:(er c).next=c.next:=rfl;have:=h.next;simp only at this;show c2.next≤1+((i+1:Nat):Int);omega
 bits:=by
  have e1:c2.bits=Q.bits:=congrArg (fun q:Rp=>q.bits) hr2;have e2:=hact.bits_ hk;have e3:(er c).bits=c.bits:=rfl;have:=h.bits;show c2.bits≤256;simp only at this;omega
 core:=hc2
 sml:=by show Sml (er c2);rw[hr2];exact hact.sml hk hid h.sml
set_option maxRecDepth 8000
end
end Go.Proofs.Q
