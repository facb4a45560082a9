/- Part of the proof; no statement of its own. -/
import Derived.Test.YtpinhnikemamjaaGreatDoorB08
import Derived.Test.YtpinhnikemamjaaGreatDoorB14
import Derived.Test.YtpinhnikemamjaaGreatDoorB07
import Derived.Test.YtpinhnikemamjaaGreatDoorB09
set_option linter.all false
set_option maxRecDepth 4000
set_option maxHeartbeats 4000000
namespace Go.Proofs.Q
open Go.Sl Go.Sb
theorem e2R {s:B} (h:s.length<60):h0C s= .err 2:=by unfold h0C;rw[if_pos h]
theorem e2S {s:B} (h1:60≤s.length) (h:s.length<64):h0C s= .err 2:=by unfold h0C;rw[if_neg (by omega),if_pos h]
theorem e2T {s:B} (h1:64≤s.length) (h:be ((s.drop 60).take 4)≠f0T (s.take 60)):h0C s= .err 11:=by unfold h0C;rw[if_neg (by omega),if_neg (by omega),if_pos h]
theorem e2U {s:B} (h1:64≤s.length) (h:be ((s.drop 60).take 4)=f0T (s.take 60)) (h2:s.length≠64):h0C s= .err 1:=by unfold h0C;rw[if_neg (by omega),if_neg (by omega),if_neg (by simp[h]),if_pos h2]
theorem e2V {s:B} (h:be ((s.drop 60).take 4)=f0T (s.take 60)) (h2:s.length=64):h0C s= .ok (s.take 60):=by unfold h0C;rw[if_neg (by omega),if_neg (by omega),if_neg (by simp[h]),if_neg (by simp[h2])]
theorem d1U {s:B} {e:Int} (h:h0C s= .err e):((h0D s,()):Out Hd×Unit)=(.err e,()):=by unfold h0D;rw[h]
theorem o2W {s:B} (h:h0C s= .ok (s.take 60)) (h1:(s.take 60).take 1≠ [69]):((h0D s,()):Out Hd×Unit)=(.err 1,()):=by unfold h0D;rw[h];simp only;rw[if_pos h1]
theorem k2D {s:B} (h:h0C s= .ok (s.take 60)) (h1:(s.take 60).take 1= [69]) (h2:b0B ((s.take 60).drop 57)=false):((h0D s,()):Out Hd×Unit)=(.err 1,()):=by
 unfold h0D;rw[h];simp only;rw[if_neg (by simp[h1]),if_pos h2]
theorem r2K {s:B} (h:h0C s= .ok (s.take 60)) (h1:(s.take 60).take 1= [69]) (h2:b0B ((s.take 60).drop 57)=true):
 ((h0D s,()):Out Hd×Unit)=(.ok {at_:=(g0H 2 4 ((s.take 60).drop 1)).map Int.ofNat,sums:=g0H 4 4 ((s.take 60).drop 9),sum:=((s.take 60).drop 25).take 32},()):=by
 unfold h0D;rw[h];simp only;rw[if_neg (by simp[h1]),if_neg (by simp[h2])]
theorem w0G (k:Nat): ∀(n:Nat) (l:B) (i:Nat) (h:i<(g0H k n l).length),(g0H k n l)[i]=be ((l.drop (k*i)).take k)
 |0,_,i,h=>by simp[g0H]at h
 |n+1,l,0,h=>by simp[g0H]
 |n+1,l,i+1,h=>by
  have h':i<(g0H k n (l.drop k)).length:=by simpa [g0H] using h
  have:=w0G k n (l.drop k) i h'
  simp only[g0H,List.getElem_cons_succ]
  rw[this,List.drop_drop,Nat.mul_succ,Nat.add_comm]
def l0U (pre l:List Value) (n:Nat) (z:Value) (i:Nat) (rest:List Value):List Value:=pre++(l.take i++(List.replicate (n-i) z++rest))
theorem w0H {pre l rest:List Value} {z v:Value} {n i o:Nat} (hl:l.length=n) (hi:i<n) (ho:o=pre.length+i) (hv:l[i]? =some v):(l0U pre l n z i rest).set o v=l0U pre l n z (i+1) rest:=by
 subst ho
 unfold l0U
 have h1:(l.take i).length=i:=by simp;omega
 obtain⟨m,hm⟩: ∃m,n-i=m+1:=⟨n-i-1,by omega⟩
 rw[List.set_append_right _ _ (by omega),show pre.length+i-pre.length=i by omega,List.set_append_right _ _ (by omega),h1,Nat.sub_self,hm,List.replicate_succ]
 simp only[List.cons_append,List.set_cons_zero]
 rw[show n- (i+1)=m by omega,List.take_succ,hv]
 simp
theorem w0I {pre l rest:List Value} {z:Value} {n i:Nat} (hl:l.length=n) (hi:i≤n):(l0U pre l n z i rest).length=pre.length+(n+rest.length):=by unfold l0U;simp;omega
theorem u0C {pre l rest:List Value} {z:Value} {n:Nat} (hl:l.length=n):l0U pre l n z n rest=pre++(l++rest):=by unfold l0U;rw[List.take_of_length_le (by omega),Nat.sub_self];rfl
theorem e2W {pre l rest:List Value} {z:Value} {n:Nat} :l0U pre l n z 0 rest=pre++(List.replicate n z++rest):=by unfold l0U;simp
theorem q1X {A C D:List Value} {l:B} {n m k:Nat} (ha:A.length+C.length=k) (hd:D.length=n) (hl:l.length=n) (hm:m=n):
 (A++(C++D)).take k++((bs l).data.toList.take m).map a0Z++(A++(C++D)).drop (k+min (bs l).size m)=A++(C++l.map a0Z):=by
 subst hm
 have e:l.take m=l:=List.take_of_length_le (by omega)
 rw[b0N,l0B,hl,Nat.min_self,e,←List.append_assoc A C D,List.take_left' (by simp;omega),List.drop_eq_nil_of_le (by simp;omega)]
 simp
theorem x0I (k i:Nat) (l:B):(l.drop (k*i)).drop k=l.drop (k*(i+1)):=by rw[List.drop_drop];rfl
section
theorem x1F (l:B):be (l.take 2)<65536:=Nat.lt_of_lt_of_le (h1Z _) (Nat.pow_le_pow_right (n:=256) (j:=2) (by decide) (by simp;omega))
theorem d1V (l:B):be (l.take 4)<4294967296:=Nat.lt_of_lt_of_le (h1Z _) (Nat.pow_le_pow_right (n:=256) (j:=4) (by decide) (by simp;omega))
set_option maxRecDepth 4000 in
attribute [local irreducible] Sl.a0L Sl.OW Sl.CW Sl.OS Sl.OM Sl.OMf Sl.KM
theorem q1Y (s:B) (hs:s.length≤1000000):a0S Tryz.prog 192 #[b0H s] [] (Ran fT (fun _:Unit=> []) hdV (h0D s,())):=by
 have hb4:=d1V (s.drop 60)
 refine a0C Tryz.func192 rfl Tryz.ntmps192 rfl (fun R w0=> ?_)
 simp only[a0N,List.cons_append,List.nil_append]
 refine go 2 ?_
 refine(a0U Zr.o (fun b2=> ?_))
 refine go 5 ?_
 refine a0W rfl Hb.o rfl (x0G (bs s)) gSp ?_
 rintro b9 _
 refine ns ?_
 refine go 6 ?_
 refine b0F rfl Hb.o rfl (i1L b9 s 60 hs) gSp (fun a t ho=> ?_) (fun e t ho=>by(repeat (first|with_reducible refine a0G ?_|with_reducible refine a0M ?_));exact a0Y ((by obtain⟨h1,rfl⟩:=m1I ho;exact d1U (e2R h1))) (fun _ _ h=>h) gSp)
 refine ns ?_
 obtain⟨h1,rfl,rfl⟩:=q1F ho
 refine go 7 ?_
 refine b0F rfl Hb.o rfl (m1L b9 (s.drop 60) 4 (by omega) (by simp;omega)) gSp (fun n t ho=> ?_) (fun e t ho=>by(repeat (first|with_reducible refine a0G ?_|with_reducible refine a0M ?_));exact a0Y ((by obtain⟨h2,rfl⟩:=q1G ho;exact d1U (e2S h1 (by simp at h2;omega)))) (fun _ _ h=>h) gSp)
 refine ns ?_
 obtain⟨h2,rfl,rfl⟩:=w1U ho
 refine go 1 ?_
 rw[show IntKind.u32.wrap ((be ((s.drop 60).take 4):Nat):Int)=(be ((s.drop 60).take 4):Nat)from by rw[IntKind.wrap_u32];omega]
 refine go 1 ?_
 refine(b0P Tsl.o Zr.o rfl rfl rfl (by simp[d0B,d0K,Value.cells]<;>rfl) (fun b16=> ?_))
 refine a0D rfl Hb.o rfl (r0N b16 1 (bs (s.take 60)) (by rw[b0N];simp[maxLen];omega)) gSp ?_
 refine ns ?_
 rw[show((Crc.crc (s.take 60)).toNat:Int)=(f0T (s.take 60):Nat)from rfl]
 refine go 3 ?_
 refine b0C rfl (fun hb18=> ?_) (fun hb18=> ?_)
 ·refine go 1 ?_
  refine c0M rfl Hb.o rfl (d0C 11) gSp ?_
  simp only[List.cons_append,List.nil_append]
  refine pn ?_
  exact a0Y (d1U (e2T (by simp at h2;omega) (by have h:=hb18;simp at h;omega))) (fun _ _ h=>h) gSp
 ·have hcr:be ((s.drop 60).take 4)=f0T (s.take 60):=by have h:=hb18;simp at h;omega
  refine go 5 ?_
  refine b0F rfl Hb.o rfl (i1N b9 ((s.drop 60).drop 4)) gSp (fun u t3 ho=> ?_) (fun e t ho=>by(repeat (first|with_reducible refine a0G ?_|with_reducible refine a0M ?_));exact a0Y ((by obtain⟨h3,rfl⟩:=m1J ho;exact d1U (e2U (by simp at h2;omega) hcr (fun e=>h3 (List.eq_nil_of_length_eq_zero (by simp;omega)))))) (fun _ _ h=>h) gSp)
  refine ns ?_
  refine go 3 ?_
  have h3:=congrArg List.length (q1H ho)
  have h64:s.length=64:=by simp at h3 h2;omega
  have hop:=e2V hcr h64
  have ht60:(s.take 60).length=60:=by simp;omega
  generalize hT:s.take 60=T at hop ht60 ⊢
  refine go 2 ?_
  refine a0W rfl Hb.o rfl (x0G (bs T)) gSp ?_
  rintro b23 _
  refine ns ?_
  refine go 7 ?_
  refine a0D rfl Hb.o rfl (s0Y b23 T 1 (by omega) (by omega)) gSp ?_
  refine ns ?_
  refine a0F (g0V rfl rfl) ?_
  refine go 2 ?_
  refine b0C rfl (fun hb26=> ?_) (fun hb26=> ?_)
  ·refine go 1 ?_
   refine c0M rfl Hb.o rfl (d0C 1) gSp ?_
   simp only[List.cons_append,List.nil_append]
   refine pn ?_
   exact a0Y (o2W (by rw[hT];exact hop) (by rw[hT];have:=hb26;intro e;rw[e]at this;simp at this)) (fun _ _ h=>h) gSp
  ·have htag:T.take 1= [69]:=by
    have h:=hb26
    rw[show(⟨#[69]⟩:ByteArray)=bs [69]from rfl,c0P,c0P]at h
    simpa using h
   have hn1:=k0L 2 4 (T.drop 1)
   have hn2:=k0L 4 4 (T.drop 9)
   have hi1:((g0H 2 4 (T.drop 1)).map fun n:Nat=>a0V n).length=4:=by rw[List.length_map,hn1]
   have hi2:((g0H 4 4 (T.drop 9)).map fun n:Nat=>Value.int .u32 n).length=4:=by rw[List.length_map,hn2]
   refine go 4 ?_
   refine(a0U Zr.o (fun b5=> ?_))
   refine go 9 ?_
   refine b0S (X:= {i:Nat // i≤4}) (fun y=> [(2,ptr b2),(3,ptr b23),(5,ptr b5),(28,.int .i64 y.1)]) (fun y=> [pts b5 (.cells (l0U [] ((g0H 2 4 (T.drop 1)).map fun n:Nat=>a0V n) 4 (a0V 0) y.1 (List.replicate 4 (Value.int .u32 0)++List.replicate 32 (Value.int .u8 0))).toArray 230 (0,0)),p0S b23 ((T.drop 1).drop (2*y.1)),pts b2 (.cells (List.replicate 4 (a0V 0)++(List.replicate 4 (Value.int .u32 0)++List.replicate 32 (Value.int .u8 0))).toArray 230 (0,0)),R]) (fun y=>4-y.1) ⟨0,by omega⟩ gSu gSp ?_
   rintro⟨i,hi⟩ m0 hm0
   try simp only at hm0
   try dsimp only
   skip
   refine go 6 ?_
   refine b0C rfl (fun hb29=> ?_) (fun hb29=> ?_)
   ·have hi4:i<4:=by have:=of_decide_eq_true hb29;omega
    have hil:i<(g0H 2 4 (T.drop 1)).length:=by omega
    refine go 13 ?_
    refine a0D rfl Hb.o rfl (y0K b23 ((T.drop 1).drop (2*i)) 2 (by omega) (by simp;omega) (by simp;omega)) gSp ?_
    refine ns ?_
    refine go 1 ?_
    have hb2:=x1F ((T.drop 1).drop (2*i))
    rw[show IntKind.i64.wrap ((be (((T.drop 1).drop (2*i)).take 2):Nat):Int)=(be (((T.drop 1).drop (2*i)).take 2):Nat)from i0O _ _ (by omega) (by simp only[IntKind.bits];omega)]
    refine go 2 ?_
    refine d0V Sz.o rfl rfl rfl (by rw[w0I hi1 (by omega)];simp;omega) (w0H hi1 hi4 (by simp) (by rw[List.getElem?_map,List.getElem?_eq_getElem hil,w0G];rfl)) ?_
    refine go 1 ?_
    rw[x0I 2 i]
    refine go 5 ?_
    refine b0Q (fun _ _ h=>h) (⟨i+1,hi4⟩) (by first|omega| (simp only;omega)) gSu gSp
   ·obtain rfl:i=4:=by have:=of_decide_eq_false hb29;omega
    rw[u0C hi1]
    refine go 9 ?_
    rw[List.drop_drop,show((g0H 2 4 (T.drop 1)).map fun n:Nat=>a0V n)++(List.replicate 4 (Value.int .u32 0)++List.replicate 32 (Value.int .u8 0))=l0U ((g0H 2 4 (T.drop 1)).map fun n:Nat=>a0V n) ((g0H 4 4 (T.drop 9)).map fun n:Nat=>Value.int .u32 n) 4 (Value.int .u32 0) 0 (List.replicate 32 (Value.int .u8 0))from e2W.symm,List.nil_append]
    refine b0S (X:= {i:Nat // i≤4}) (fun y=> [(2,ptr b2),(3,ptr b23),(5,ptr b5),(38,.int .i64 y.1)]) (fun y=> [pts b5 (.cells (l0U ((g0H 2 4 (T.drop 1)).map fun n:Nat=>a0V n) ((g0H 4 4 (T.drop 9)).map fun n:Nat=>Value.int .u32 n) 4 (Value.int .u32 0) y.1 (List.replicate 32 (Value.int .u8 0))).toArray 230 (0,0)),p0S b23 ((T.drop 9).drop (4*y.1)),pts b2 (.cells (List.replicate 4 (a0V 0)++(List.replicate 4 (Value.int .u32 0)++List.replicate 32 (Value.int .u8 0))).toArray 230 (0,0)),R]) (fun y=>4-y.1) ⟨0,by omega⟩ gSu gSp ?_
    rintro⟨i,hi⟩ m2 hm2
    try simp only at hm2
    try dsimp only
    skip
    refine go 6 ?_
    refine b0C rfl (fun hb39=> ?_) (fun hb39=> ?_)
    ·have hi4:i<4:=by have:=of_decide_eq_true hb39;omega
     have hil:i<(g0H 4 4 (T.drop 9)).length:=by omega
     refine go 13 ?_
     refine a0D rfl Hb.o rfl (y0K b23 ((T.drop 9).drop (4*i)) 4 (by omega) (by simp;omega) (by simp;omega)) gSp ?_
     refine ns ?_
     refine go 1 ?_
     have hb2:=d1V ((T.drop 9).drop (4*i))
     rw[show IntKind.u32.wrap ((be (((T.drop 9).drop (4*i)).take 4):Nat):Int)=(be (((T.drop 9).drop (4*i)).take 4):Nat)from by rw[IntKind.wrap_u32];omega]
     refine go 2 ?_
     refine d0V Sz.o rfl rfl rfl (by rw[w0I hi2 (by omega)];simp;omega) (w0H hi2 hi4 (by rw[hi1];simp) (by rw[List.getElem?_map,List.getElem?_eq_getElem hil,w0G];rfl)) ?_
     refine go 1 ?_
     rw[x0I 4 i]
     refine go 5 ?_
     refine b0Q (fun _ _ h=>h) (⟨i+1,hi4⟩) (by first|omega| (simp only;omega)) gSu gSp
    ·obtain rfl:i=4:=by have:=of_decide_eq_false hb39;omega
     rw[u0C hi2,List.drop_drop]
     refine go 3 ?_
     refine d0H (.soft 0 (.soft 1 (.soft 2 (.hard 3 (.hard 4 .done))))) [] Fol.o (by kernel_rfl) (by repeat (first|with_reducible exact a0J.bp|with_reducible apply a0J.then|with_reducible apply a0J.inBlock)) gSp ?_
     refine go 1 ?_
     refine d0D rfl (z0I Tar.o rfl) ?_
     refine go 2 ?_
     refine a0D rfl Hb.o rfl (s0Y b23 (T.drop (9+4*4)) 32 (by simp;omega) (by simp;omega)) gSp ?_
     refine ns ?_
     refine go 3 ?_
     refine h1R Tsl.o rfl rfl (by rw[b0N];simp[k0L];omega) (q1X (n:=32) (by rw[hi1,hi2]) (by simp) (by simp;omega) rfl) ?_
     refine go 7 ?_
     refine b0F rfl Hb.o rfl (i1M b23 ((T.drop (9+4*4)).drop 32) (by simp;omega)) gSp (fun u6 t6 ho=> ?_) (fun e t ho=>by(repeat (first|with_reducible refine a0G ?_|with_reducible refine a0M ?_));exact a0Y ((by obtain⟨h6,rfl⟩:=m1K ho;exact k2D (by rw[hT];exact hop) (by rw[hT];exact htag) (by rw[hT,show(57:Nat)=9+4*4+32 from rfl,←List.drop_drop];exact h6))) (fun _ _ h=>h) gSp)
     refine ns ?_
     refine go 3 ?_
     have hz:=q1I ho
     rw[List.drop_drop]at hz
     have hsz: ∀l:B,l.length=32→(((g0H 2 4 (T.drop 1)).map fun n:Nat=>a0V n)++(((g0H 4 4 (T.drop 9)).map fun n:Nat=>Value.int .u32 n)++l.map a0Z)).toArray.size=40:=fun l hl=>by simp[k0L,hl]
     have hl32:((T.drop (9+4*4)).take 32).length=32:=by simp;omega
     generalize hU:(T.drop (9+4*4)).take 32=U at hl32 ⊢
     refine go 1 ?_
     refine a0F (a0O Ag.o rfl (by rw[hsz U hl32];omega) (a0I (hsz U hl32))) ?_
     refine a0K Sz.o rfl rfl (hsz U hl32) (fun x hx=>by simp at hx;rcases hx with ⟨_,_,rfl⟩| ⟨_,_,rfl⟩| ⟨_,_,rfl⟩<;>rfl) (by rw[hsz U hl32];simp) (a0R (by rw[hsz U hl32];simp)) ?_
     refine go 2 ?_
     refine j0H (r2K (by rw[hT];exact hop) (by rw[hT];exact htag) (by rw[hT,show(57:Nat)=9+4*4+32 from rfl];exact hz)) (fun _ _ h=>h) (RV.agg Ag.o rfl (by rw[hsz U hl32];omega) (a0I (hsz U hl32)) RV.nil) ?_ gSp
     show Value.agg _=Value.agg _
     rw[hT,show(25:Nat)=9+4*4 from rfl,hU]
     simp[hdL,List.map_map,Function.comp_def]
end
section
def ndL (level:Int) (n:Nd):List Value:= [a0V level]++(n.kids.map a0V++n.sum.map a0Z)
def ndV (level:Int) (n:Nd):Value:= .agg (ndL level n).toArray
structure o0K (x:Nd):Prop where
 n:x.kids.length=8
 sum:x.sum.length=32
set_option maxRecDepth 4000 in
attribute [local irreducible] Sl.a0L Sl.OW Sl.CW Sl.OS Sl.OM Sl.OMf Sl.KM
theorem q1Z (level:Nat) (x:Nd) (h:o0K x):a0S Tryz.prog 245 #[ndV level x] [] (b0G (b0H (i0R level x)) []):=by
 obtain⟨hn,hu⟩:=h
 unfold ndV
 have l1: ∀i,((x.kids.take i).flatMap (num · 2)).length≤16:=fun i=>by rw[h0K (k:=2) fun a=>j0M a 2];simp;omega
 have c1:(x.kids.map a0V).length=8:=by simp[hn]
 have c3:(x.sum.map a0Z).length=32:=by simp[hu]
 have n1:(num (level:Int) 1).length=1:=j0M _ _
 refine a0C Tryz.func245 rfl Tryz.ntmps245 rfl (fun R w0=> ?_)
 simp only[a0N,List.cons_append,List.nil_append]
 refine go 2 ?_
 refine(a0X rfl (fun b1=> ?_))
 refine go 5 ?_
 refine(a0U Zr.o (fun b3=> ?_))
 refine go 3 ?_
 refine c0S (L':=n0V b3 (.slice none 0 0) []++ [pts b1 (.cells (ndL level x).toArray 182 (0,0)),R]) (fun w h=>(h0S 5 1 w h).perm (List.Perm.swap _ _ _)) ?_
 simp only[List.cons_append,List.nil_append]
 refine d0H (.soft 1 (.soft 2 (.soft 3 (.hard 0 (.hard 4 .done))))) [pts b1 (.cells (ndL level x).toArray 182 (0,0))] Fol.o (by kernel_rfl) (by repeat (first|with_reducible exact a0J.bp|with_reducible apply a0J.then|with_reducible apply a0J.inBlock)) gSp ?_
 refine go 1 ?_
 refine d0D rfl (b0T (v:=a0V level) Sc.o rfl (by rfl)) ?_
 refine go 2 ?_
 refine a0W rfl Hb.o rfl (s0E b3 (.slice none 0 0) [] ⟨#[78]⟩ (by simp) (by decide) rfl) gSp ?_
 rintro v7 hv7
 refine ns ?_
 refine go 3 ?_
 rw[c1F]
 refine a0W rfl Hb.o rfl (r0M b3 v7 [78] (u64 level) 1 (by omega) (by simp) hv7 (q1V _)) gSp ?_
 rintro v11 hv11
 refine ns ?_
 refine go 8 ?_
 refine a0F (a0O Ag.o rfl (by simp[ndL,c1,c3]) (e0M (a:= [a0V level]) rfl c1)) ?_
 refine go 4 ?_
 simp only[List.take_zero,List.flatMap_nil,List.append_nil]
 refine b0S (X:= {y:Nat×Value // y.1≤8∧y.2.oneCell'=true}) (fun y=> [(1,ptr b1),(3,ptr b3),(13,.agg (x.kids.map a0V).toArray),(14,.int .i64 y.1.1)]) (fun y=>n0V b3 y.1.2 (78::(num level 1++(x.kids.take y.1.1).flatMap (num · 2)))++ [pts b1 (.cells (ndL level x).toArray 182 (0,0)),R]) (fun y=>8-y.1.1) ⟨(0,v11),by omega,hv11⟩ gSu gSp ?_
 rintro⟨⟨i,v⟩,hi,hv⟩ m0 hm0
 try simp only at hm0
 try dsimp only
 simp only at hi hv
 simp only[List.cons_append,List.nil_append]
 refine go 6 ?_
 refine b0C rfl (fun hb15=> ?_) (fun hb15=> ?_)
 ·have hi8:i<8:=by have:=of_decide_eq_true hb15;omega
  have hil:i<x.kids.length:=by omega
  refine go 6 ?_
  refine a0F (q0Y Tar.o Sc.o rfl rfl (by omega) (n0W a0V x.kids i _ hil (by omega))) ?_
  refine go 6 ?_
  rw[c1F]
  refine a0W rfl Hb.o rfl (r0M b3 v (78::(num level 1++(x.kids.take i).flatMap (num · 2))) (u64 x.kids[i]) 2 (by omega) (by have:=l1 i;simp only[List.length_cons,List.length_append,n1];omega) hv (q1V _)) gSp ?_
  rintro v19 hv19
  refine ns ?_
  refine go 1 ?_
  rw[List.append_assoc,show(x.kids.take i).flatMap (num · 2)++beB (u64 x.kids[i]) 2 2=(x.kids.take (i+1)).flatMap (num · 2)from(c1G (num · 2) x.kids i hil).symm]
  refine go 5 ?_
  refine b0Q (fun _ _ h=>h) (⟨(i+1,v19),hi8,hv19⟩) (by first|omega| (simp only;omega)) gSu gSp
 ·obtain rfl:i=8:=by have:=of_decide_eq_false hb15;omega
  rw[List.take_of_length_le (by omega)]
  have lA:=l1 8
  rw[List.take_of_length_le (by omega)]at lA
  have lS:(num level 1++x.kids.flatMap (num · 2)).length≤17:=by rw[List.length_append,n1];omega
  generalize hS:num level 1++x.kids.flatMap (num · 2)=S at lS ⊢
  have hl57:(78::(S++x.sum)).length≤60:=by simp only[List.length_cons,List.length_append];omega
  have hpl:=p0V hl57
  refine go 5 ?_
  refine a0F (a0O (v:=(x.sum.map a0Z).toArray) Ag.o rfl (by simp only[ndL,List.size_toArray,List.length_append,c1,c3,List.length_singleton];omega) (by rw[show ndL level x=([a0V level]++x.kids.map a0V)++(x.sum.map a0Z++ []) by simp[ndL]];exact e0M (by rw[List.length_append,c1];rfl) c3)) ?_
  refine a0D rfl Hb.o rfl (s0H x.sum hu) gSp ?_
  refine ns ?_
  refine a0W rfl Hb.o rfl (s0E b3 v (78::S) (bs x.sum) (by simp only[List.length_cons];omega) (by rw[b0N,hu];omega) hv) gSp ?_
  rintro v24 hv24
  refine ns ?_
  refine a0W rfl Hb.o rfl (z0Q b3 v24 (78::(S++x.sum)) 60 hl57 (by omega) hv24) gSp ?_
  rintro v25 hv25
  refine ns ?_
  refine a0D rfl Hb.o rfl (c1E b3 v25 _ hv25) gSp ?_
  refine ns ?_
  refine go 6 ?_
  refine(b0P Tsl.o Zr.o rfl rfl rfl (by simp[d0B,d0K,Value.cells]<;>rfl) (fun b28=> ?_))
  refine a0D rfl Hb.o rfl (r0N b28 1 _ (by rw[b0N,hpl];simp[maxLen])) gSp ?_
  refine ns ?_
  refine go 1 ?_
  rw[show((Crc.crc (f0R 60 (78::(S++x.sum)))).toNat:Int)=(f0T (f0R 60 (78::(S++x.sum))):Nat)from rfl,p0R _ _ rfl (by have:=w0F (f0R 60 (78::(S++x.sum)));omega)]
  refine a0W rfl Hb.o rfl (r0M b3 v25 (f0R 60 (78::(S++x.sum))) (f0T (f0R 60 (78::(S++x.sum)))) 4 (by omega) (by rw[hpl];omega) hv25 (by have:=w0F (f0R 60 (78::(S++x.sum)));omega)) gSp ?_
  rintro v31 hv31
  refine ns ?_
  refine a0D rfl Hb.o rfl (t0O b3 v31 _ hv31) gSp ?_
  refine ns ?_
  refine go 3 ?_
  refine b0V (fun _ _ h=>h) rfl (by unfold i0R t0P;simp only[List.cons_append,List.nil_append,List.append_assoc];rw[←hS];simp only[List.append_assoc]) gSp
end
section
theorem d1W {l:Nat} {s:B} {e:Int} (h:h0C s= .err e):((f0P l s,()):Out Nd×Unit)=(.err e,()):=by unfold f0P;rw[h]
theorem o2X {l:Nat} {s:B} (h:h0C s= .ok (s.take 60)) (h1:(s.take 60).take 1≠ [78]):((f0P l s,()):Out Nd×Unit)=(.err 1,()):=by unfold f0P;rw[h];simp only;rw[if_pos h1]
theorem e2X {l:Nat} {s:B} (h:h0C s= .ok (s.take 60)) (h1:(s.take 60).take 1= [78]) (h2:be (((s.take 60).drop 1).take 1)≠l):((f0P l s,()):Out Nd×Unit)=(.err 1,()):=by
 unfold f0P;rw[h];simp only;rw[if_neg (by simp[h1]),if_pos h2]
theorem k2E {l:Nat} {s:B} (h:h0C s= .ok (s.take 60)) (h1:(s.take 60).take 1= [78]) (h2:be (((s.take 60).drop 1).take 1)=l) (h3:b0B ((s.take 60).drop 50)=false):((f0P l s,()):Out Nd×Unit)=(.err 1,()):=by
 unfold f0P;rw[h];simp only;rw[if_neg (by simp[h1]),if_neg (fun e=>e h2),if_pos h3]
theorem r2L {l:Nat} {s:B} (h:h0C s= .ok (s.take 60)) (h1:(s.take 60).take 1= [78]) (h2:be (((s.take 60).drop 1).take 1)=l) (h3:b0B ((s.take 60).drop 50)=true):
 ((f0P l s,()):Out Nd×Unit)=(.ok {kids:=(g0H 2 8 ((s.take 60).drop 2)).map Int.ofNat,sum:=((s.take 60).drop 18).take 32},()):=by
 unfold f0P;rw[h];simp only;rw[if_neg (by simp[h1]),if_neg (fun e=>e h2),if_neg (by simp[h3])]
theorem e2Y {a:Value} {C D:List Value} {l:B} {n m k:Nat} (ha:1+C.length=k) (hd:D.length=n) (hl:l.length=n) (hm:m=n):
 (a::(C++D)).take k++((bs l).data.toList.take m).map a0Z++(a::(C++D)).drop (k+min (bs l).size m)=a::(C++l.map a0Z):=q1X (A:= [a]) ha hd hl hm
theorem o2Y (l:B):be (l.take 1)<256:=Nat.lt_of_lt_of_le (h1Z _) (Nat.pow_le_pow_right (n:=256) (j:=1) (by decide) (by simp;omega))
set_option maxRecDepth 4000 in
attribute [local irreducible] Sl.a0L Sl.OW Sl.CW Sl.OS Sl.OM Sl.OMf Sl.KM
theorem r1A (l:Nat) (s:B) (hs:s.length≤1000000):a0S Tryz.prog 151 #[b0H s,.int .i64 l] [] (Ran fT (fun _:Unit=> []) (ndV l) (f0P l s,())):=by
 have hb4:=d1V (s.drop 60)
 refine a0C Tryz.func151 rfl Tryz.ntmps151 rfl (fun R w0=> ?_)
 simp only[a0N,List.cons_append,List.nil_append]
 refine go 2 ?_
 refine(a0U Zr.o (fun b4=> ?_))
 refine go 5 ?_
 refine a0W rfl Hb.o rfl (x0G (bs s)) gSp ?_
 rintro b10 _
 refine ns ?_
 refine go 6 ?_
 refine b0F rfl Hb.o rfl (i1L b10 s 60 hs) gSp (fun a t ho=> ?_) (fun e t ho=>by(repeat (first|with_reducible refine a0G ?_|with_reducible refine a0M ?_));exact a0Y ((by obtain⟨h1,rfl⟩:=m1I ho;exact d1W (e2R h1))) (fun _ _ h=>h) gSp)
 refine ns ?_
 obtain⟨h1,rfl,rfl⟩:=q1F ho
 refine go 7 ?_
 refine b0F rfl Hb.o rfl (m1L b10 (s.drop 60) 4 (by omega) (by simp;omega)) gSp (fun n t ho=> ?_) (fun e t ho=>by(repeat (first|with_reducible refine a0G ?_|with_reducible refine a0M ?_));exact a0Y ((by obtain⟨h2,rfl⟩:=q1G ho;exact d1W (e2S h1 (by simp at h2;omega)))) (fun _ _ h=>h) gSp)
 refine ns ?_
 obtain⟨h2,rfl,rfl⟩:=w1U ho
 refine go 1 ?_
 rw[show IntKind.u32.wrap ((be ((s.drop 60).take 4):Nat):Int)=(be ((s.drop 60).take 4):Nat)from by rw[IntKind.wrap_u32];omega]
 refine go 1 ?_
 refine(b0P Tsl.o Zr.o rfl rfl rfl (by simp[d0B,d0K,Value.cells]<;>rfl) (fun b17=> ?_))
 refine a0D rfl Hb.o rfl (r0N b17 1 (bs (s.take 60)) (by rw[b0N];simp[maxLen];omega)) gSp ?_
 refine ns ?_
 rw[show((Crc.crc (s.take 60)).toNat:Int)=(f0T (s.take 60):Nat)from rfl]
 refine go 3 ?_
 refine b0C rfl (fun hb19=> ?_) (fun hb19=> ?_)
 ·refine go 1 ?_
  refine c0M rfl Hb.o rfl (d0C 11) gSp ?_
  simp only[List.cons_append,List.nil_append]
  refine pn ?_
  exact a0Y (d1W (e2T (by simp at h2;omega) (by have h:=hb19;simp at h;omega))) (fun _ _ h=>h) gSp
 ·have hcr:be ((s.drop 60).take 4)=f0T (s.take 60):=by have h:=hb19;simp at h;omega
  refine go 5 ?_
  refine b0F rfl Hb.o rfl (i1N b10 ((s.drop 60).drop 4)) gSp (fun u t3 ho=> ?_) (fun e t ho=>by(repeat (first|with_reducible refine a0G ?_|with_reducible refine a0M ?_));exact a0Y ((by obtain⟨h3,rfl⟩:=m1J ho;exact d1W (e2U (by simp at h2;omega) hcr (fun e=>h3 (List.eq_nil_of_length_eq_zero (by simp;omega)))))) (fun _ _ h=>h) gSp)
  refine ns ?_
  refine go 3 ?_
  have h3:=congrArg List.length (q1H ho)
  have h64:s.length=64:=by simp at h3 h2;omega
  have hop:=e2V hcr h64
  have ht60:(s.take 60).length=60:=by simp;omega
  generalize hT:s.take 60=T at hop ht60 ⊢
  refine go 2 ?_
  refine a0W rfl Hb.o rfl (x0G (bs T)) gSp ?_
  rintro b24 _
  refine ns ?_
  refine go 5 ?_
  by_cases htag:T.take 1= [78]
  ·refine go 2 ?_
   refine a0D rfl Hb.o rfl (s0Y b24 T 1 (by omega) (by omega)) gSp ?_
   refine ns ?_
   refine a0F (g0V rfl rfl) ?_
   refine go 1 ?_
   refine g0M (l0R rfl) (fun a w hh=>(b0E rfl rfl rfl hh).trans (wFF (by rw[show(⟨#[78]⟩:ByteArray)=bs [78]from rfl,c0P,c0P,htag];rfl))) ?_
   refine m0S (fun a w hh=>(b0E rfl rfl rfl hh).trans (wFF (by rw[show(⟨#[78]⟩:ByteArray)=bs [78]from rfl,c0P,c0P,htag];rfl))) ?_
   refine a0D rfl Hb.o rfl (y0K b24 (T.drop 1) 1 (by omega) (by simp;omega) (by simp;omega)) gSp ?_
   refine ns ?_
   refine g0M (h1C Tsn.o Tin.o rfl) (fun a w hh=>(b0E rfl rfl rfl hh).trans (wFF (by rw[show(⟨#[78]⟩:ByteArray)=bs [78]from rfl,c0P,c0P,htag];rfl))) ?_
   rw[show IntKind.i64.wrap ((be ((T.drop 1).take 1):Nat):Int)=(be ((T.drop 1).take 1):Nat)from i0O _ _ (by omega) (by have:=o2Y (T.drop 1);simp only[IntKind.bits];omega)]
   refine g0M (l0R rfl) (fun a w hh=>(b0E rfl rfl rfl hh).trans (wFF (by rw[show(⟨#[78]⟩:ByteArray)=bs [78]from rfl,c0P,c0P,htag];rfl))) ?_
   refine g0M (y1Y rfl rfl) (fun a w hh=>(b0E rfl rfl rfl hh).trans (wFF (by rw[show(⟨#[78]⟩:ByteArray)=bs [78]from rfl,c0P,c0P,htag];rfl))) ?_
   refine a0F (n0R rfl (by rw[show(⟨#[78]⟩:ByteArray)=bs [78]from rfl,c0P,c0P,htag];rfl) rfl) ?_
   refine go 2 ?_
   refine b0C rfl (fun hb34=> ?_) (fun hb34=> ?_)
   ·refine go 1 ?_
    refine c0M rfl Hb.o rfl (d0C 1) gSp ?_
    simp only[List.cons_append,List.nil_append]
    refine pn ?_
    exact a0Y (e2X (by rw[hT];exact hop) (by rw[hT];exact htag) (by rw[hT];have h:=hb34;simp only[bne_iff_ne,ne_eq]at h;omega)) (fun _ _ h=>h) gSp
   ·have hlv:be ((T.drop 1).take 1)=l:=by have h:=hb34;simp only[bne_eq_false_iff_eq]at h;omega
    have hn1:=k0L 2 8 ((T.drop 1).drop 1)
    have hi1:((g0H 2 8 ((T.drop 1).drop 1)).map fun n:Nat=>a0V n).length=8:=by rw[List.length_map,hn1]
    refine go 5 ?_
    refine a0F (r0J (cs:=a0V l::(List.replicate 8 (a0V 0)++List.replicate 32 (Value.int .u8 0))) Pl.o rfl (by rfl)) ?_
    refine(a0U Zr.o (fun b7=> ?_))
    refine a0K Sz.o rfl rfl (by rfl) (by simp[a0V,Value.oneCell']) (by simp[Value.cells]) (a0R (by rfl)) ?_
    refine go 9 ?_
    refine b0S (X:= {i:Nat // i≤8}) (fun y=> [(4,ptr b4),(5,ptr b24),(7,ptr b7),(38,.int .i64 y.1)]) (fun y=> [pts b7 (.cells (l0U [a0V l] ((g0H 2 8 ((T.drop 1).drop 1)).map fun n:Nat=>a0V n) 8 (a0V 0) y.1 (List.replicate 32 (Value.int .u8 0))).toArray 182 (0,0)),p0S b24 (((T.drop 1).drop 1).drop (2*y.1)),pts b4 (.cells (a0V 0::(List.replicate 8 (a0V 0)++List.replicate 32 (Value.int .u8 0))).toArray 182 (0,0)),R]) (fun y=>8-y.1) ⟨0,by omega⟩ gSu gSp ?_
    rintro⟨i,hi⟩ m0 hm0
    try simp only at hm0
    try dsimp only
    skip
    refine go 6 ?_
    refine b0C rfl (fun hb39=> ?_) (fun hb39=> ?_)
    ·have hi4:i<8:=by have:=of_decide_eq_true hb39;omega
     have hil:i<(g0H 2 8 ((T.drop 1).drop 1)).length:=by omega
     refine go 13 ?_
     refine a0D rfl Hb.o rfl (y0K b24 (((T.drop 1).drop 1).drop (2*i)) 2 (by omega) (by simp;omega) (by simp;omega)) gSp ?_
     refine ns ?_
     refine go 1 ?_
     have hb2:=x1F (((T.drop 1).drop 1).drop (2*i))
     rw[show IntKind.i64.wrap ((be ((((T.drop 1).drop 1).drop (2*i)).take 2):Nat):Int)=(be ((((T.drop 1).drop 1).drop (2*i)).take 2):Nat)from i0O _ _ (by omega) (by simp only[IntKind.bits];omega)]
     refine go 2 ?_
     refine d0V Sz.o rfl rfl rfl (by rw[w0I hi1 (by omega)];simp;omega) (w0H hi1 hi4 (by simp) (by rw[List.getElem?_map,List.getElem?_eq_getElem hil,w0G];rfl)) ?_
     refine go 1 ?_
     rw[x0I 2 i]
     refine go 5 ?_
     refine b0Q (fun _ _ h=>h) (⟨i+1,hi4⟩) (by first|omega| (simp only;omega)) gSu gSp
    ·obtain rfl:i=8:=by have:=of_decide_eq_false hb39;omega
     rw[u0C hi1,List.drop_drop,List.drop_drop]
     rw[List.drop_drop]at hi1
     refine go 3 ?_
     refine d0H (.soft 0 (.soft 1 (.soft 2 (.hard 3 (.hard 4 .done))))) [] Fol.o (by kernel_rfl) (by repeat (first|with_reducible exact a0J.bp|with_reducible apply a0J.then|with_reducible apply a0J.inBlock)) gSp ?_
     refine go 1 ?_
     refine d0D rfl (z0I Tar.o rfl) ?_
     refine go 2 ?_
     refine a0D rfl Hb.o rfl (s0Y b24 (T.drop (1+(1+2*8))) 32 (by simp;omega) (by simp;omega)) gSp ?_
     refine ns ?_
     refine go 3 ?_
     refine h1R Tsl.o rfl rfl (by rw[b0N];simp[k0L];omega) (e2Y (n:=32) (by rw[hi1]) (by simp) (by simp;omega) rfl) ?_
     refine go 7 ?_
     refine b0F rfl Hb.o rfl (i1M b24 ((T.drop (1+(1+2*8))).drop 32) (by simp;omega)) gSp (fun u6 t6 ho=> ?_) (fun e t ho=>by(repeat (first|with_reducible refine a0G ?_|with_reducible refine a0M ?_));exact a0Y ((by obtain⟨h6,rfl⟩:=m1K ho;exact k2E (by rw[hT];exact hop) (by rw[hT];exact htag) (by rw[hT];exact hlv) (by rw[hT,show(50:Nat)=1+(1+2*8)+32 from rfl,←List.drop_drop];exact h6))) (fun _ _ h=>h) gSp)
     refine ns ?_
     refine go 3 ?_
     have hz:=q1I ho
     rw[List.drop_drop]at hz
     have hsz: ∀l':B,l'.length=32→(a0V l::(((g0H 2 8 (T.drop (1+1))).map fun n:Nat=>a0V n)++l'.map a0Z)).toArray.size=41:=fun l' hl=>by simp[k0L,hl]
     have hl32:((T.drop (1+(1+2*8))).take 32).length=32:=by simp;omega
     generalize hU:(T.drop (1+(1+2*8))).take 32=U at hl32 ⊢
     refine go 1 ?_
     refine a0F (a0O Ag.o rfl (by rw[hsz U hl32];omega) (a0I (hsz U hl32))) ?_
     refine a0K Sz.o rfl rfl (hsz U hl32) (fun x hx=>by simp at hx;rcases hx with rfl| ⟨_,_,rfl⟩| ⟨_,_,rfl⟩<;>rfl) (by rw[hsz U hl32];simp) (a0R (by rw[hsz U hl32];simp)) ?_
     refine go 2 ?_
     refine j0H (r2L (by rw[hT];exact hop) (by rw[hT];exact htag) (by rw[hT];exact hlv) (by rw[hT,show(50:Nat)=1+(1+2*8)+32 from rfl];exact hz)) (fun _ _ h=>h) (RV.agg Ag.o rfl (by rw[hsz U hl32];omega) (a0I (hsz U hl32)) RV.nil) ?_ gSp
     show Value.agg _=Value.agg _
     rw[hT,show(18:Nat)=1+(1+2*8)from rfl,hU,show(1+1:Nat)=2 from rfl]
     simp[ndL,List.map_map,Function.comp_def]
  ·refine go 2 ?_
   refine a0D rfl Hb.o rfl (s0Y b24 T 1 (by omega) (by omega)) gSp ?_
   refine ns ?_
   refine a0F (g0V rfl rfl) ?_
   refine go 1 ?_
   refine f0D rfl (fun a w hh=>(b0E rfl rfl rfl hh).trans (wFT (by rw[show(⟨#[78]⟩:ByteArray)=bs [78]from rfl,c0P,c0P];simp[htag]))) ?_
   refine f0D rfl (fun a w hh=>(b0E rfl rfl rfl hh).trans (wFT (by rw[show(⟨#[78]⟩:ByteArray)=bs [78]from rfl,c0P,c0P];simp[htag]))) ?_
   refine f0D rfl (fun a w hh=>(b0E rfl rfl rfl hh).trans (wFT (by rw[show(⟨#[78]⟩:ByteArray)=bs [78]from rfl,c0P,c0P];simp[htag]))) ?_
   refine f0D rfl (fun a w hh=>(b0E rfl rfl rfl hh).trans (wFT (by rw[show(⟨#[78]⟩:ByteArray)=bs [78]from rfl,c0P,c0P];simp[htag]))) ?_
   refine f0D rfl (fun a w hh=>(b0E rfl rfl rfl hh).trans (wFT (by rw[show(⟨#[78]⟩:ByteArray)=bs [78]from rfl,c0P,c0P];simp[htag]))) ?_
   refine a0F (o0V rfl (by rw[show(⟨#[78]⟩:ByteArray)=bs [78]from rfl,c0P,c0P];simp[htag]) rfl) ?_
   refine go 4 ?_
   refine c0M rfl Hb.o rfl (d0C 1) gSp ?_
   simp only[List.cons_append,List.nil_append]
   refine pn ?_
   exact a0Y (o2X (by rw[hT];exact hop) (by rw[hT];exact htag)) (fun _ _ h=>h) gSp
end
section
attribute [local irreducible] Sl.a0L Sl.OW Sl.CW Sl.OS Sl.OM Sl.OMf Sl.KM
theorem a2P (l:Int) (x:Nd) (h:o0K x):a0S Tryz.prog 242 #[ndV l x] [] (b0G (.bool (decide (x.kids=f0B))) []):=by
 obtain⟨hn,hu⟩:=h
 unfold ndV
 have c1:(x.kids.map a0V).length=8:=by simp[hn]
 have c3:(x.sum.map a0Z).length=32:=by simp[hu]
 refine a0C Tryz.func242 rfl Tryz.ntmps242 rfl (fun R w0=> ?_)
 simp only[a0N,List.cons_append,List.nil_append]
 refine go 2 ?_
 refine(a0X rfl (fun b1=> ?_))
 refine go 6 ?_
 refine a0F (a0O Ag.o rfl (by simp[ndL,c1,c3]) (e0M (a:= [a0V l]) rfl c1)) ?_
 refine a0F (q0E (cs:=f0B.map a0V) Tar.o Zr.o rfl (by rfl)) ?_
 refine a0F (d2V (X:=x.kids) (Y:=f0B) (k:= .i64) F.ea180 rfl rfl hn rfl) ?_
 refine go 3 ?_
 refine b0V (fun _ _ h=>h) rfl rfl gSp
theorem m1S (l:Nat) (hl:l<3):a0S Tryz.prog 194 #[.int .i64 l] [] (b0G (.int .i64 (8^(l+1):Nat)) []):=by
 have hmm:min (max (l:Int) 0) 2=l:=by omega
 refine a0C Tryz.func194 rfl Tryz.ntmps194 rfl (fun R w0=> ?_)
 simp only[a0N,List.cons_append,List.nil_append]
 refine go 16 ?_
 rw[hmm]
 refine go 4 ?_
 refine b0S (X:= {i:Nat // i≤l}) (fun y=> [(3,.int .i64 (8^(y.1+1):Nat)),(6,.int .i64 l),(7,.int .i64 y.1)]) (fun y=> [R]) (fun y=>l-y.1) ⟨0,by omega⟩ gSu gSp ?_
 rintro⟨i,hi⟩ m0 hm0
 try simp only at hm0
 try dsimp only
 skip
 refine go 6 ?_
 refine b0C rfl (fun hb8=> ?_) (fun hb8=> ?_)
 ·have hil:i<l:=by have:=of_decide_eq_true hb8;omega
  obtain⟨q,hq⟩: ∃q,q=8^(i+1):=⟨_,rfl⟩
  have hp:q≤512:=by rw[hq];exact Nat.pow_le_pow_right (n:=8) (j:=3) (by decide) (by omega)
  rw[←hq]
  refine go 9 ?_
  rw[show((q:Nat):Int)*8=((8^(i+1+1):Nat):Int)from by rw[Nat.pow_succ 8 (i+1),←hq];omega]
  refine go 5 ?_
  refine b0Q (fun _ _ h=>h) (⟨i+1,hil⟩) (by first|omega| (simp only;omega)) gSu gSp
 ·obtain rfl:i=l:=by have:=of_decide_eq_false hb8;omega
  refine go 8 ?_
  refine b0V (fun _ _ h=>h) rfl rfl gSp
theorem m1T (l at_:Nat) (hl:l<3) (ha:at_<1000000):a0S Tryz.prog 161 #[.int .i64 l,.int .i64 at_] [] (b0G (.tuple #[.int .i64 (b0X l at_).1,.int .i64 (b0X l at_).2]) []):=by
 have hs:=m1S l hl
 obtain⟨p,hp⟩: ∃p,p=8^l:=⟨_,rfl⟩
 have hp1:0<p:=by rw[hp];exact Nat.pow_pos (by decide)
 have hp2:p≤64:=by rw[hp];exact Nat.pow_le_pow_right (n:=8) (j:=2) (by decide) (by omega)
 rw[Nat.pow_succ,←hp]at hs
 simp only[b0X]
 rw[←hp]
 obtain⟨q,hq0⟩: ∃q,q=at_/p:=⟨_,rfl⟩
 have hdl:q≤at_:=by rw[hq0];exact Nat.div_le_self _ _
 have hq:((at_:Int)/ (p:Int))=(q:Int):=by rw[hq0];simp
 rw[←hq0]
 refine a0C Tryz.func161 rfl Tryz.ntmps161 rfl (fun R w0=> ?_)
 simp only[a0N,List.cons_append,List.nil_append]
 refine go 9 ?_
 refine a0D rfl Hb.o rfl (hs) gSp ?_
 refine ns ?_
 refine go 1 ?_
 rw[show((p*8:Nat):Int)/8=(p:Int)from by omega]
 refine go 8 ?_
 rw[hq]
 refine go 8 ?_
 refine b0V (fun _ _ h=>h) rfl (by simp) gSp
end
section
attribute [local irreducible] Sl.a0L Sl.OW Sl.CW Sl.OS Sl.OM Sl.OMf Sl.KM
theorem l0Z (x:BitVec 32) (k:Nat) (h1:1≤k) (h:k<32):a0S Tryz.prog 295 #[w32 x,.int .i64 (-(k:Int))] [] (b0G (w32 (x.rotateRight k)) []):=by
 have e1:bits .and .u64 (IntKind.u64.wrap (-(k:Int))) 31=((32-k:Nat):Int):=by
  rw[o1W]
  simp only[IntKind.wrap,IntKind.bits,IntKind.signed,Bool.false_and,Bool.false_eq_true,if_false]
  omega
 have e2:IntKind.u64.wrap (32- ((32-k:Nat):Int))=(k:Int):=by
  simp only[IntKind.wrap,IntKind.bits,IntKind.signed,Bool.false_and,Bool.false_eq_true,if_false]
  omega
 rw[←d2S x k h]
 refine a0C Tryz.func295 rfl Tryz.ntmps295 rfl (fun R w0=> ?_)
 simp only[a0N,List.cons_append,List.nil_append]
 refine go 9 ?_
 refine a0F (n0L rfl rfl) ?_
 rw[e1]
 refine go 7 ?_
 refine a0F (h1V rfl rfl (by omega)) ?_
 refine go 2 ?_
 refine a0F (o1J rfl rfl) ?_
 rw[e2]
 refine a0F (h1U rfl rfl (by omega)) ?_
 refine a0F (o1L rfl rfl) ?_
 refine go 3 ?_
 refine b0V (fun _ _ h=>h) rfl rfl gSp
abbrev wsL (l:List (BitVec 32)):List Value:=l.map w32
theorem w4 (a b c d:BitVec 32):((((0:BitVec 32) <<< 8 ||| a) <<< 8 ||| b) <<< 8 ||| c) <<< 8 ||| d=a <<< 24 ||| b <<< 16 ||| c <<< 8 ||| d:=by
 simp only[BitVec.shiftLeft_or_distrib,←BitVec.shiftLeft_add]
 simp
theorem t2C (a b c d:UInt8) (r:List UInt8):Sha.k1I (a::b::c::d::r)=a.toBitVec.setWidth 32 <<< 24 ||| b.toBitVec.setWidth 32 <<< 16 ||| c.toBitVec.setWidth 32 <<< 8 ||| d.toBitVec.setWidth 32:=by
 rw[←w4];rfl
theorem o2Z (l:B) (i:Nat) (h:4*i+3<l.length):
 ((l[4*i]'(by omega)).toBitVec.setWidth 32 <<< 24 ||| (l[4*i+1]'(by omega)).toBitVec.setWidth 32 <<< 16 ||| (l[4*i+2]'(by omega)).toBitVec.setWidth 32 <<< 8 ||| (l[4*i+3]'h).toBitVec.setWidth 32:BitVec 32)=Sha.k1I (l.drop (4*i)):=by
 have h0:l[4*i]'(by omega)=(l.drop (4*i))[0]'(by simp;omega):=by rw[List.getElem_drop];rfl
 have h1:l[4*i+1]'(by omega)=(l.drop (4*i))[1]'(by simp;omega):=by rw[List.getElem_drop]
 have h2:l[4*i+2]'(by omega)=(l.drop (4*i))[2]'(by simp;omega):=by rw[List.getElem_drop]
 have h3:l[4*i+3]'h=(l.drop (4*i))[3]'(by simp;omega):=by rw[List.getElem_drop]
 have hl:4≤(l.drop (4*i)).length:=by simp;omega
 obtain⟨a,b,c,d,r,hr⟩: ∃a b c d r,l.drop (4*i)=a::b::c::d::r:=by
  match h:l.drop (4*i),hl with
  |a::b::c::d::r,_=>exact⟨a,b,c,d,r,rfl⟩
 have e0:l[4*i]'(by omega)=a:=by rw[h0];simp[hr]
 have e1:l[4*i+1]'(by omega)=b:=by rw[h1];simp[hr]
 have e2:l[4*i+2]'(by omega)=c:=by rw[h2];simp[hr]
 have e3:l[4*i+3]'h=d:=by rw[h3];simp[hr]
 rw[e0,e1,e2,e3,hr,t2C]
theorem z0V {cur:List Value} {o:Nat} {bl:B} (h:(cur.drop o).take 64=bl.map a0Z) (hl:bl.length=64) {j k:Nat} (hj:j<64) (hk:k=o+j):nth cur k=some (a0Z (bl[j]'(by omega))):=by
 subst hk
 rw[e0L]
 have h1:((cur.drop o).take 64)[j]? =(bl.map a0Z)[j]? :=by rw[h]
 rw[List.getElem?_take_of_lt hj,List.getElem?_drop,List.getElem?_map,List.getElem?_eq_getElem (l:=bl) (by omega)]at h1
 exact h1
theorem r0C: ∀(n:Nat) (w:List Sha.W),(Sha.more n w).length=w.length+n
 |0,_=>rfl
 |n+1,w=>by unfold Sha.more;rw[r0C n];simp;omega
theorem m1U: ∀(n:Nat) (w:List Sha.W),Sha.more (n+1) w=Sha.more n w++ [Sha.z0M (Sha.more n w)]
 |0,_=>rfl
 |n+1,w=>by
  show Sha.more (n+1) (w++ [Sha.z0M w])=_
  rw[m1U n];rfl
theorem x0Z (b:B):(Sha.f0L b).length=16:=by simp[Sha.f0L]
theorem y0Q {l:List Sha.W} {rest:List Value} {j k:Nat} (hj:j<l.length) (hk:k=j):nth (l.map w32++rest) k=some (w32 (Sha.at_ l j)):=by
 subst hk
 rw[e0L,List.getElem?_append_left (by simpa using hj),List.getElem?_map,List.getElem?_eq_getElem hj]
 unfold Sha.at_
 rw[List.getD_eq_getElem?_getD,List.getElem?_eq_getElem hj];rfl
theorem k2F {l:List (BitVec 32)} {x:BitVec 32} {z:Value} {n k:Nat} (hk:k=l.length) (hn:0<n):(wsL l++List.replicate n z).set k (w32 x)=wsL (l++ [x])++List.replicate (n-1) z:=by
 subst hk
 obtain⟨m,rfl⟩: ∃m,n=m+1:=⟨n-1,by omega⟩
 rw[List.set_append_right _ _ (by simp),List.replicate_succ]
 simp
theorem u1X (g o n cap:Nat) (cur:List Value) (e:TypeId) (fr:Nat×Nat) (bl:B) (hn:64≤n) (hn2:n≤9000000000000000000) (hb:(cur.drop o).take 64=bl.map a0Z) (hl:bl.length=64):
 a0S Tryz.prog 294 #[.slice (some ⟨g,o,none⟩) n cap] [pts g (.cells cur.toArray e fr)] (b0G (.agg (wsL (Sha.j0Z bl)).toArray) [pts g (.cells cur.toArray e fr)]):=by
 have h16:(wsL (Sha.f0L bl)).length=16:=by simp[x0Z]
 have hW:=r0C
 refine a0C Tryz.func294 rfl Tryz.ntmps294 rfl (fun R w0=> ?_)
 simp only[a0N,List.cons_append,List.nil_append]
 refine go 2 ?_
 refine(a0U Zr.o (fun b2=> ?_))
 refine go 4 ?_
 refine(a0U Zr.o (fun b3=> ?_))
 refine go 9 ?_
 refine b0S (X:= {i:Nat // i≤16}) (fun y=> [(0,.slice (some ⟨g,o,none⟩) n cap),(2,ptr b2),(3,ptr b3),(10,.int .i64 y.1)]) (fun y=> [pts b3 (.cells (l0U [] (wsL (Sha.f0L bl)) 16 (w32 0) y.1 (List.replicate 48 (w32 0))).toArray 343 (0,0)),pts b2 (.cells (List.replicate 64 (w32 0)).toArray 343 (0,0)),pts g (.cells cur.toArray e fr),R]) (fun y=>16-y.1) ⟨0,by omega⟩ gSu gSp ?_
 rintro⟨i,hi⟩ m0 hm0
 try simp only at hm0
 try dsimp only
 skip
 refine go 6 ?_
 refine b0C rfl (fun hb11=> ?_) (fun hb11=> ?_)
 ·have hi4:i<16:=by have:=of_decide_eq_true hb11;omega
  have hwd:=o2Z bl i (by omega)
  refine go 10 ?_
  refine d0S 34 Fol.o (by kernel_rfl) ?_
  simp only[List.take_succ_cons,List.take_zero,List.drop_succ_cons,List.drop_zero]
  refine go 5 ?_
  refine c0K (b0T Sc.o rfl (z0V (j:=4*i) hb hl (by omega) (by omega))) ?_
  refine c0K (d1M Tsn.o Tin.o rfl) ?_
  refine c0K (h1V (n:=24) rfl rfl (by decide)) ?_
  refine go 5 ?_
  refine c0K (b0T Sc.o rfl (z0V (j:=4*i+1) hb hl (by omega) (by omega))) ?_
  refine c0K (d1M Tsn.o Tin.o rfl) ?_
  refine c0K (h1V (n:=16) rfl rfl (by decide)) ?_
  refine c0K (o1L rfl rfl) ?_
  refine go 5 ?_
  refine c0K (b0T Sc.o rfl (z0V (j:=4*i+2) hb hl (by omega) (by omega))) ?_
  refine c0K (d1M Tsn.o Tin.o rfl) ?_
  refine c0K (h1V (n:=8) rfl rfl (by decide)) ?_
  refine c0K (o1L rfl rfl) ?_
  refine go 5 ?_
  refine c0K (b0T Sc.o rfl (z0V (j:=4*i+3) hb hl (by omega) (by omega))) ?_
  refine c0K (d1M Tsn.o Tin.o rfl) ?_
  refine c0K (o1L rfl rfl) ?_
  refine go 1 ?_
  rw[hwd]
  refine go 1 ?_
  refine d0V Sz.o rfl rfl rfl (by rw[w0I h16 (by omega)];simp;omega) (w0H h16 hi4 (by simp) (by simp[Sha.f0L,hi4])) ?_
  refine go 6 ?_
  refine b0Q (fun _ _ h=>h) (⟨i+1,hi4⟩) (by first|omega| (simp only;omega)) gSu gSp
 ·obtain rfl:i=16:=by have:=of_decide_eq_false hb11;omega
  rw[u0C h16,List.nil_append]
  refine go 9 ?_
  refine b0S (X:= {i:Nat // i≤48}) (fun y=> [(0,.slice (some ⟨g,o,none⟩) n cap),(2,ptr b2),(3,ptr b3),(5,.int .i64 (16+y.1:Nat))]) (fun y=> [pts b3 (.cells (wsL (Sha.more y.1 (Sha.f0L bl))++List.replicate (48-y.1) (w32 0)).toArray 343 (0,0)),pts b2 (.cells (List.replicate 64 (w32 0)).toArray 343 (0,0)),pts g (.cells cur.toArray e fr),R]) (fun y=>48-y.1) ⟨0,by omega⟩ gSu gSp ?_
  rintro⟨i,hi⟩ m2 hm2
  try simp only at hm2
  try dsimp only
  have hWl:(Sha.more i (Sha.f0L bl)).length=16+i:=by rw[r0C,x0Z]
  have hsucc:=m1U i (Sha.f0L bl)
  generalize hWd:Sha.more i (Sha.f0L bl)=W at hWl hsucc ⊢
  refine go 7 ?_
  refine b0C rfl (fun hb50=> ?_) (fun hb50=> ?_)
  ·have hi4:i<48:=by have:=of_decide_eq_true hb50;omega
   refine go 9 ?_
   refine c0K (b0T Sc.o rfl (y0Q (j:=W.length-15) (by omega) (by omega))) ?_
   refine go 3 ?_
   refine c0K (b0T Sc.o rfl (y0Q (j:=W.length-2) (by omega) (by omega))) ?_
   refine go 7 ?_
   refine a0D rfl Hb.o rfl (l0Z (Sha.at_ W (W.length-15)) 7 (by omega) (by omega)) gSp ?_
   refine ns ?_
   refine go 1 ?_
   refine a0D rfl Hb.o rfl (l0Z (Sha.at_ W (W.length-15)) 18 (by omega) (by omega)) gSp ?_
   refine ns ?_
   refine a0F (p0P rfl rfl) ?_
   refine go 1 ?_
   refine a0F (h1U (n:=3) rfl rfl (by decide)) ?_
   refine a0F (p0P rfl rfl) ?_
   refine go 6 ?_
   refine a0D rfl Hb.o rfl (l0Z (Sha.at_ W (W.length-2)) 17 (by omega) (by omega)) gSp ?_
   refine ns ?_
   refine go 1 ?_
   refine a0D rfl Hb.o rfl (l0Z (Sha.at_ W (W.length-2)) 19 (by omega) (by omega)) gSp ?_
   refine ns ?_
   refine a0F (p0P rfl rfl) ?_
   refine go 1 ?_
   refine a0F (h1U (n:=10) rfl rfl (by decide)) ?_
   refine a0F (p0P rfl rfl) ?_
   refine go 3 ?_
   refine d0S 14 Fol.o (by kernel_rfl) ?_
   simp only[List.take_succ_cons,List.take_zero,List.drop_succ_cons,List.drop_zero]
   refine go 4 ?_
   refine c0K (b0T Sc.o rfl (y0Q (j:=W.length-16) (by omega) (by omega))) ?_
   refine go 1 ?_
   refine c0K (p0Q rfl rfl) ?_
   refine go 3 ?_
   refine c0K (b0T Sc.o rfl (y0Q (j:=W.length-7) (by omega) (by omega))) ?_
   refine c0K (p0Q rfl rfl) ?_
   refine go 1 ?_
   refine c0K (p0Q rfl rfl) ?_
   refine go 1 ?_
   rw[show Sha.at_ W (W.length-16)+((Sha.at_ W (W.length-15)).rotateRight 7 ^^^ (Sha.at_ W (W.length-15)).rotateRight 18 ^^^ (Sha.at_ W (W.length-15)) >>> 3)+Sha.at_ W (W.length-7)+((Sha.at_ W (W.length-2)).rotateRight 17 ^^^ (Sha.at_ W (W.length-2)).rotateRight 19 ^^^ (Sha.at_ W (W.length-2)) >>> 10)=Sha.z0M W from rfl]
   refine go 1 ?_
   refine d0V Sz.o rfl rfl rfl (by rw[Nat.blt_eq];simp[hWl];omega) (k2F (by rw[hWl];omega) (by omega)) ?_
   refine go 1 ?_
   rw[←hsucc,show 48-i-1=48- (i+1)from by omega]
   refine go 6 ?_
   rw[show((16+i:Nat):Int)+1=((16+(i+1):Nat):Int)from by omega]
   refine b0Q (fun _ _ h=>h) (⟨i+1,hi4⟩) (by first|omega| (simp only;omega)) gSu gSp
  ·obtain rfl:i=48:=by have:=of_decide_eq_false hb50;omega
   have hsz:(wsL W).toArray.size=64:=by simp[hWl]
   rw[Nat.sub_self,List.replicate_zero,List.append_nil]
   refine go 4 ?_
   refine a0F (a0O Ag.o rfl (by rw[hsz];omega) (a0I hsz)) ?_
   refine a0K Sz.o rfl rfl hsz (fun x hx=>by simp at hx;obtain⟨_,_,rfl⟩:=hx;rfl) (by rw[hsz];simp) (a0R (by rw[hsz];simp)) ?_
   refine go 2 ?_
   refine p0L (fun _ _ h=>h) (RV.agg Ag.o rfl (by rw[hsz];omega) (a0I hsz) RV.nil) (by rw[←hWd];rfl) gSp
end
end Go.Proofs.Q
