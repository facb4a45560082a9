/- Part of the proof; no statement of its own. -/
import Derived.Test.YtpinhnikemamjaaGreatDoorS18
import Derived.Test.YtpinhnikemamjaaGreatDoorS22
import Derived.Test.YtpinhnikemamjaaGreatDoorS08
import Derived.Test.YtpinhnikemamjaaGreatDoorS07
import Derived.Test.YtpinhnikemamjaaGreatDoorS10
import Derived.Lib.LaidTab
import Derived.Test.YtpinhnikemamjaaGreatDoorRows
import Derived.LaidLaws
import Derived.MakeChecks
import Derived.HandedShaped
import Derived.LaidMore
import Derived.Lay
import Derived.Stop.Joined
import Derived.ProofKit
import Derived.Test.YtpinhnikemamjaaGreatDoorProg
import Derived.KernelRfl
set_option linter.all false
set_option maxRecDepth 4000
set_option maxHeartbeats 4000000
attribute [local irreducible] Go.Sl.a0P Go.Sl.OW Go.Sl.CW Go.Sl.OS Go.Sl.OM Go.Sl.OMf Go.Sl.KM
namespace Go.Proofs.Q
open Go.Sl Go.Sb Tryz
theorem h1D {l:Nat} {s:B} {e:Int} (h:i0A s= .err e):((g0C l s,()):Out Nd×Unit)=(.err e,()):=by unfold g0C;rw[h]
theorem v2C {l:Nat} {s:B} (h:i0A s= .ok (s.take 60)) (h1:(s.take 60).take 1≠ [78]):((g0C l s,()):Out Nd×Unit)=(.err 1,()):=by unfold g0C;rw[h];simp only;rw[if_pos h1]
theorem k2X {l:Nat} {s:B} (h:i0A s= .ok (s.take 60)) (h1:(s.take 60).take 1= [78]) (h2:be (((s.take 60).drop 1).take 1)≠l):((g0C l s,()):Out Nd×Unit)=(.err 1,()):=by
 unfold g0C;rw[h];simp only;rw[if_neg (by simp[h1]),if_pos h2]
theorem p2Y {l:Nat} {s:B} (h:i0A s= .ok (s.take 60)) (h1:(s.take 60).take 1= [78]) (h2:be (((s.take 60).drop 1).take 1)=l) (h3:a0R ((s.take 60).drop 50)=false):((g0C l s,()):Out Nd×Unit)=(.err 1,()):=by
 unfold g0C;rw[h];simp only;rw[if_neg (by simp[h1]),if_neg (fun e=>e h2),if_pos h3]
theorem y2B {l:Nat} {s:B} (h:i0A s= .ok (s.take 60)) (h1:(s.take 60).take 1= [78]) (h2:be (((s.take 60).drop 1).take 1)=l) (h3:a0R ((s.take 60).drop 50)=true):
 ((g0C l s,()):Out Nd×Unit)=(.ok {kids:=(g0Y 2 8 ((s.take 60).drop 2)).map Int.ofNat,sum:=((s.take 60).drop 18).take 32},()):=by
 unfold g0C;rw[h];simp only;rw[if_neg (by simp[h1]),if_neg (fun e=>e h2),if_neg (by simp[h3])]
theorem k2Y {a:Value} {C D:List Value} {l:B} {n m k:Nat} (ha:1+C.length=k) (hd:D.length=n) (hl:l.length=n) (hm:m=n):
 (a::(C++D)).take k++((bs l).data.toList.take m).map a0Q++(a::(C++D)).drop (k+min (bs l).size m)=a::(C++l.map a0Q):=v1Z (A:= [a]) ha hd hl hm
theorem v2D (l:B):be (l.take 1)<256:=Nat.lt_of_lt_of_le (l1U _) (Nat.pow_le_pow_right (n:=256) (j:=1) (by decide) (by simp;omega))
set_option maxRecDepth 4000 in
theorem w1C (l:Nat) (s:B) (hs:s.length≤1000000):a0G prog 151 #[b0C s,.int .i64 l] [] (Ran fT (fun _:Unit=> []) (ndV l) (g0C l s,())):=by
 have hb4:=h1C (s.drop 60);refine en func151 ntmps151 fun R w0=> ?_;refine go 2 ?_;refine al fun b4=> ?_;refine ce 5 (z0G (bs s)) ?_;rintro b10 _;refine ns ?_;refine go 6 ?_;refine a0U rfl Hb.o rfl (m1F b10 s 60 hs) gSp (fun a t ho=> ?_) (fun e t ho=>by refine pn ?_;exact kx ((by obtain⟨h1,rfl⟩:=q1K ho;exact h1D (k2R h1))));refine ns ?_;obtain⟨h1,rfl,rfl⟩:=v1T ho;refine go 7 ?_;refine a0U rfl Hb.o rfl (q1N b10 (s.drop 60) 4 (by omega) (by simp;omega)) gSp (fun n t ho=> ?_) (fun e t ho=>by refine pn ?_;exact kx ((by obtain⟨h2,rfl⟩:=v1U ho;exact h1D (k2S h1 (by simp at h2;omega)))));refine ns ?_;obtain⟨h2,rfl,rfl⟩:=c2D ho;refine go 1 ?_;rw[show IntKind.u32.wrap ((be ((s.drop 60).take 4):Nat):Int)=(be ((s.drop 60).take 4):Nat)from by rw[IntKind.wrap_u32];omega];refine go 1 ?_;refine bl fun b17=> ?_;refine cg 0 (s0V b17 1 (bs (s.take 60)) (by rw[b0H];simp[maxLen];omega)) ?_;rw[show((Crc.crc (s.take 60)).toNat:Int)=(g0G (s.take 60):Nat)from rfl];refine go 3 ?_;refine a0O rfl (fun hb19=> ?_) (fun hb19=> ?_)
 ·refine go 1 ?_;refine c0A rfl Hb.o rfl (c0M 11) gSp ?_;refine ns ?_;refine pn ?_;exact b0W (h1D (k2T (by simp at h2;omega) (by have h:=hb19;simp at h;omega))) idh gSp
 ·have hcr:be ((s.drop 60).take 4)=g0G (s.take 60):=by have h:=hb19;simp at h;omega
  refine go 5 ?_;refine a0U rfl Hb.o rfl (m1H b10 ((s.drop 60).drop 4)) gSp (fun u t3 ho=> ?_) (fun e t ho=>by refine pn ?_;exact kx ((by obtain⟨h3,rfl⟩:=q1L ho;exact h1D (k2U (by simp at h2;omega) hcr (fun e=>h3 (List.eq_nil_of_length_eq_zero (by simp;omega)))))));refine ns ?_;refine go 3 ?_;have h3:=congrArg List.length (v1V ho);have h64:s.length=64:=by simp at h3 h2;omega
  have hop:=k2V hcr h64;have ht60:(s.take 60).length=60:=by simp;omega
  generalize hT:s.take 60=T at hop ht60 ⊢;refine ce 2 (z0G (bs T)) ?_;rintro b24 _;refine ns ?_;refine go 5 ?_;by_cases htag:T.take 1= [78]
  ·refine cg 2 (u0N b24 T 1 (by omega) (by omega)) ?_;refine a0D (i0M rfl rfl) ?_;refine go 1 ?_;refine b0Z (d0H rfl) (wg rfl rfl rfl (wFF (by rw[show(⟨#[78]⟩:ByteArray)=bs [78]from rfl,c0G,c0G,htag];rfl))) ?_;refine o0V (wg rfl rfl rfl (wFF (by rw[show(⟨#[78]⟩:ByteArray)=bs [78]from rfl,c0G,c0G,htag];rfl))) ?_;refine cg 0 (a1W b24 (T.drop 1) 1 (by omega) (by simp;omega) (by simp;omega)) ?_;refine b0Z (k1R Tsn.o Tin.o rfl) (wg rfl rfl rfl (wFF (by rw[show(⟨#[78]⟩:ByteArray)=bs [78]from rfl,c0G,c0G,htag];rfl))) ?_;rw[show IntKind.i64.wrap ((be ((T.drop 1).take 1):Nat):Int)=(be ((T.drop 1).take 1):Nat)from e0P _ _ (by omega) (by have:=v2D (T.drop 1);simp only[IntKind.bits];omega)];refine b0Z (d0H rfl) (wg rfl rfl rfl (wFF (by rw[show(⟨#[78]⟩:ByteArray)=bs [78]from rfl,c0G,c0G,htag];rfl))) ?_;refine b0Z (s2G rfl rfl) (wg rfl rfl rfl (wFF (by rw[show(⟨#[78]⟩:ByteArray)=bs [78]from rfl,c0G,c0G,htag];rfl))) ?_;refine a0D (h0H rfl (by rw[show(⟨#[78]⟩:ByteArray)=bs [78]from rfl,c0G,c0G,htag];rfl) rfl) ?_;refine go 2 ?_;refine a0O rfl (fun hb34=> ?_) (fun hb34=> ?_)
   ·refine go 1 ?_;refine c0A rfl Hb.o rfl (c0M 1) gSp ?_;refine ns ?_;refine pn ?_;exact b0W (k2X (by rw[hT];exact hop) (by rw[hT];exact htag) (by rw[hT];have h:=hb34;simp only[bne_iff_ne,ne_eq]at h;omega)) idh gSp
   ·have hlv:be ((T.drop 1).take 1)=l:=by have h:=hb34;simp only[bne_eq_false_iff_eq]at h;omega
    have hn1:=l0I 2 8 ((T.drop 1).drop 1);have hi1:((g0Y 2 8 ((T.drop 1).drop 1)).map fun n:Nat=>a0H n).length=8:=by rw[List.length_map,hn1]
    refine go 5 ?_;refine a0D (s0P (cs:=a0H l::(List.replicate 8 (a0H 0)++List.replicate 32 (Value.int .u8 0))) Pl.o rfl (by rfl)) ?_;refine al fun b7=> ?_;refine a0M Sz.o rfl rfl (by rfl) (by simp[a0H,Value.oneCell']) (by simp[Value.cells]) (a0N (by rfl)) ?_;refine go 9 ?_;refine a0V (X:= {i:Nat // i≤8}) (fun y=> [(4,ptr b4),(5,ptr b24),(7,ptr b7),(38,.int .i64 y.1)]) (fun y=> [pts b7 (.cells (m0N [a0H l] ((g0Y 2 8 ((T.drop 1).drop 1)).map fun n:Nat=>a0H n) 8 (a0H 0) y.1 (List.replicate 32 (Value.int .u8 0))).toArray 182 (0,0)),q0Z b24 (((T.drop 1).drop 1).drop (2*y.1)),pts b4 (.cells (a0H 0::(List.replicate 8 (a0H 0)++List.replicate 32 (Value.int .u8 0))).toArray 182 (0,0)),R]) (fun y=>8-y.1) ⟨0,by omega⟩ gSu gSp ?_;rintro⟨i,hi⟩ m0 hm0
    try simp only at hm0
    try dsimp only
    skip;refine go 6 ?_;refine a0O rfl (fun hb39=> ?_) (fun hb39=> ?_)
    ·have hi4:i<8:=by have:=of_decide_eq_true hb39;omega
     have hil:i<(g0Y 2 8 ((T.drop 1).drop 1)).length:=by omega
     refine cg 13 (a1W b24 (((T.drop 1).drop 1).drop (2*i)) 2 (by omega) (by simp;omega) (by simp;omega)) ?_;refine go 1 ?_;have hb2:=c2E (((T.drop 1).drop 1).drop (2*i));rw[show IntKind.i64.wrap ((be ((((T.drop 1).drop 1).drop (2*i)).take 2):Nat):Int)=(be ((((T.drop 1).drop 1).drop (2*i)).take 2):Nat)from e0P _ _ (by omega) (by simp only[IntKind.bits];omega)];refine go 2 ?_;refine d0T Sz.o rfl rfl rfl (by rw[y0O hi1 (by omega)];simp;omega) (y0N hi1 hi4 (by simp) (by rw[List.getElem?_map,List.getElem?_eq_getElem hil,y0M];rfl)) ?_;refine go 1 ?_;rw[z0J 2 i];refine go 5 ?_;exact rd idh (⟨i+1,hi4⟩)
    ·obtain rfl:i=8:=by have:=of_decide_eq_false hb39;omega
     rw[v0W hi1,List.drop_drop,List.drop_drop];rw[List.drop_drop]at hi1;refine go 3 ?_;refine mx (.r 0 3 (.hard 3 (.hard 4 .done))) [] ?_;refine go 1 ?_;refine d0A rfl (b1Q Tar.o rfl) ?_;refine cg 2 (u0N b24 (T.drop (1+(1+2*8))) 32 (by simp;omega) (by simp;omega)) ?_;refine go 3 ?_;refine l1B Tsl.o rfl rfl (by rw[b0H];simp[l0I];omega) (k2Y (n:=32) (by rw[hi1]) (by simp) (by simp;omega) rfl) ?_;refine go 7 ?_;refine a0U rfl Hb.o rfl (m1G b24 ((T.drop (1+(1+2*8))).drop 32) (by simp;omega)) gSp (fun u6 t6 ho=> ?_) (fun e t ho=>by refine pn ?_;exact kx ((by obtain⟨h6,rfl⟩:=q1M ho;exact p2Y (by rw[hT];exact hop) (by rw[hT];exact htag) (by rw[hT];exact hlv) (by rw[hT,show(50:Nat)=1+(1+2*8)+32 from rfl,←List.drop_drop];exact h6))));refine ns ?_;refine go 3 ?_;have hz:=v1W ho;rw[List.drop_drop]at hz;have hsz: ∀l':B,l'.length=32→(a0H l::(((g0Y 2 8 (T.drop (1+1))).map fun n:Nat=>a0H n)++l'.map a0Q)).toArray.size=41:=fun l' hl=>by simp[l0I,hl]
     have hl32:((T.drop (1+(1+2*8))).take 32).length=32:=by simp;omega
     generalize hU:(T.drop (1+(1+2*8))).take 32=U at hl32 ⊢;refine go 1 ?_;refine a0D (a0K Ag.o rfl (by rw[hsz U hl32];omega) (a0I (hsz U hl32))) ?_;refine a0M Sz.o rfl rfl (hsz U hl32) (fun x hx=>by simp at hx;rcases hx with rfl| ⟨_,_,rfl⟩| ⟨_,_,rfl⟩<;>rfl) (by rw[hsz U hl32];simp) (a0N (by rw[hsz U hl32];simp)) ?_;refine go 2 ?_;refine k0A (y2B (by rw[hT];exact hop) (by rw[hT];exact htag) (by rw[hT];exact hlv) (by rw[hT,show(50:Nat)=1+(1+2*8)+32 from rfl];exact hz)) idh (RV.agg Ag.o rfl (by rw[hsz U hl32];omega) (a0I (hsz U hl32)) RV.nil) ?_ gSp;show Value.agg _=Value.agg _;rw[hT,show(18:Nat)=1+(1+2*8)from rfl,hU,show(1+1:Nat)=2 from rfl];simp[ndL,List.map_map,Function.comp_def]
  ·refine cg 2 (u0N b24 T 1 (by omega) (by omega)) ?_;refine a0D (i0M rfl rfl) ?_;refine go 1 ?_;refine c0D rfl (wg rfl rfl rfl (wFT (by rw[show(⟨#[78]⟩:ByteArray)=bs [78]from rfl,c0G,c0G];simp[htag]))) ?_;refine c0D rfl (wg rfl rfl rfl (wFT (by rw[show(⟨#[78]⟩:ByteArray)=bs [78]from rfl,c0G,c0G];simp[htag]))) ?_;refine c0D rfl (wg rfl rfl rfl (wFT (by rw[show(⟨#[78]⟩:ByteArray)=bs [78]from rfl,c0G,c0G];simp[htag]))) ?_;refine c0D rfl (wg rfl rfl rfl (wFT (by rw[show(⟨#[78]⟩:ByteArray)=bs [78]from rfl,c0G,c0G];simp[htag]))) ?_;refine c0D rfl (wg rfl rfl rfl (wFT (by rw[show(⟨#[78]⟩:ByteArray)=bs [78]from rfl,c0G,c0G];simp[htag]))) ?_;refine a0D (h0V rfl (by rw[show(⟨#[78]⟩:ByteArray)=bs [78]from rfl,c0G,c0G];simp[htag]) rfl) ?_;refine go 4 ?_;refine c0A rfl Hb.o rfl (c0M 1) gSp ?_;refine ns ?_;refine pn ?_;exact b0W (v2C (by rw[hT];exact hop) (by rw[hT];exact htag)) idh gSp
theorem f2T (l:Int) (x:Nd) (h:o0T x):a0G prog 242 #[ndV l x] [] (a0T (.bool (decide (x.kids=e0L))) []):=by
 obtain⟨hn,hu⟩:=h;unfold ndV;have c1:(x.kids.map a0H).length=8:=by simp[hn]
 have c3:(x.sum.map a0Q).length=32:=by simp[hu]
 refine en func242 ntmps242 fun R w0=> ?_;refine go 2 ?_;refine bx fun b1=> ?_;refine go 6 ?_;refine a0D (a0K Ag.o rfl (by simp[ndL,c1,c3]) (d0Y (a:= [a0H l]) rfl c1)) ?_;refine a0D (r0M (cs:=e0L.map a0H) Tar.o Zr.o rfl (by rfl)) ?_;refine a0D (i2Z (X:=x.kids) (Y:=e0L) (k:= .i64) F.ea180 rfl rfl hn rfl) ?_;refine go 3 ?_;exact rG
theorem q1Q (l:Nat) (hl:l<3):a0G prog 194 #[.int .i64 l] [] (a0T (.int .i64 (8^(l+1):Nat)) []):=by
 have hmm:min (max (l:Int) 0) 2=l:=by omega
 refine en func194 ntmps194 fun R w0=> ?_;refine go 16 ?_;rw[hmm];refine go 4 ?_;refine a0V (X:= {i:Nat // i≤l}) (fun y=> [(3,.int .i64 (8^(y.1+1):Nat)),(6,.int .i64 l),(7,.int .i64 y.1)]) (fun y=> [R]) (fun y=>l-y.1) ⟨0,by omega⟩ gSu gSp ?_;rintro⟨i,hi⟩ m0 hm0
 try simp only at hm0
 try dsimp only
 skip;refine go 6 ?_;refine a0O rfl (fun hb8=> ?_) (fun hb8=> ?_)
 ·have hil:i<l:=by have:=of_decide_eq_true hb8;omega
  obtain⟨q,hq⟩: ∃q,q=8^(i+1):=⟨_,rfl⟩;have hp:q≤512:=by rw[hq];exact Nat.pow_le_pow_right (n:=8) (j:=3) (by decide) (by omega)
  rw[←hq];refine go 9 ?_;rw[show((q:Nat):Int)*8=((8^(i+1+1):Nat):Int)from by rw[Nat.pow_succ 8 (i+1),←hq];omega];refine go 5 ?_;exact rd idh (⟨i+1,hil⟩)
 ·obtain rfl:i=l:=by have:=of_decide_eq_false hb8;omega
  refine go 8 ?_;exact rG
theorem q1R (l at_:Nat) (hl:l<3) (ha:at_<1000000):a0G prog 161 #[.int .i64 l,.int .i64 at_] [] (a0T (.tuple #[.int .i64 (b0Q l at_).1,.int .i64 (b0Q l at_).2]) []):=by
 have hs:=q1Q l hl;obtain⟨p,hp⟩: ∃p,p=8^l:=⟨_,rfl⟩;have hp1:0<p:=by rw[hp];exact Nat.pow_pos (by decide)
 have hp2:p≤64:=by rw[hp];exact Nat.pow_le_pow_right (n:=8) (j:=2) (by decide) (by omega)
 rw[Nat.pow_succ,←hp]at hs;simp only[b0Q];rw[←hp];obtain⟨q,hq0⟩: ∃q,q=at_/p:=⟨_,rfl⟩;have hdl:q≤at_:=by rw[hq0];exact Nat.div_le_self _ _
 have hq:((at_:Int)/ (p:Int))=(q:Int):=by rw[hq0];simp
 rw[←hq0];refine en func161 ntmps161 fun R w0=> ?_;refine cg 9 (hs) ?_;refine go 1 ?_;rw[show((p*8:Nat):Int)/8=(p:Int)from by omega];refine go 8 ?_;rw[hq];refine go 8 ?_;exact rG (hu:=(by simp))
theorem m0V (x:BitVec 32) (k:Nat) (h1:1≤k) (h:k<32):a0G prog 295 #[w32 x,.int .i64 (-(k:Int))] [] (a0T (w32 (x.rotateRight k)) []):=by
 have e1:bits .and .u64 (IntKind.u64.wrap (-(k:Int))) 31=((32-k:Nat):Int):=by
  rw[s1Q];simp only[IntKind.wrap,IntKind.bits,IntKind.signed,Bool.false_and,Bool.false_eq_true,if_false];omega
 have e2:IntKind.u64.wrap (32- ((32-k:Nat):Int))=(k:Int):=by
  simp only[IntKind.wrap,IntKind.bits,IntKind.signed,Bool.false_and,Bool.false_eq_true,if_false];omega
 rw[←i2V x k h];refine en func295 ntmps295 fun R w0=> ?_;refine go 9 ?_;refine a0D (o0O rfl rfl) ?_;rw[e1];refine go 7 ?_;refine a0D (l1G rfl rfl (by omega)) ?_;refine go 2 ?_;refine a0D (k1O rfl rfl) ?_;rw[e2];refine a0D (l1F rfl rfl (by omega)) ?_;refine a0D (s1C rfl rfl) ?_;refine go 3 ?_;exact rG
abbrev wsL (l:List (BitVec 32)):List Value:=l.map w32
theorem w4 (a b c d:BitVec 32):((((0:BitVec 32) <<< 8 ||| a) <<< 8 ||| b) <<< 8 ||| c) <<< 8 ||| d=a <<< 24 ||| b <<< 16 ||| c <<< 8 ||| d:=by
 simp only[BitVec.shiftLeft_or_distrib,←BitVec.shiftLeft_add];simp
theorem z2V (a b c d:UInt8) (r:List UInt8):Sha.n1Z (a::b::c::d::r)=a.toBitVec.setWidth 32 <<< 24 ||| b.toBitVec.setWidth 32 <<< 16 ||| c.toBitVec.setWidth 32 <<< 8 ||| d.toBitVec.setWidth 32:=by
 rw[←w4];rfl
theorem v2E (l:B) (i:Nat) (h:4*i+3<l.length):
 ((l[4*i]'(by omega)).toBitVec.setWidth 32 <<< 24 ||| (l[4*i+1]'(by omega)).toBitVec.setWidth 32 <<< 16 ||| (l[4*i+2]'(by omega)).toBitVec.setWidth 32 <<< 8 ||| (l[4*i+3]'h).toBitVec.setWidth 32:BitVec 32)=Sha.n1Z (l.drop (4*i)):=by
 have h0:l[4*i]'(by omega)=(l.drop (4*i))[0]'(by simp;omega):=by rw[List.getElem_drop];rfl
 have h1:l[4*i+1]'(by omega)=(l.drop (4*i))[1]'(by simp;omega):=by rw[List.getElem_drop]
 have h2:l[4*i+2]'(by omega)=(l.drop (4*i))[2]'(by simp;omega):=by rw[List.getElem_drop]
 have h3:l[4*i+3]'h=(l.drop (4*i))[3]'(by simp;omega):=by rw[List.getElem_drop]
 have hl:4≤(l.drop (4*i)).length:=by simp;omega
 obtain⟨a,b,c,d,r,hr⟩: ∃a b c d r,l.drop (4*i)=a::b::c::d::r:=by
  match h:l.drop (4*i),hl with
  |a::b::c::d::r,_=>exact⟨a,b,c,d,r,rfl⟩
 have e0:l[4*i]'(by omega)=a:=by rw[h0];simp[hr]
 have e1:l[4*i+1]'(by omega)=b:=by rw[h1];simp[hr]
 have e2:l[4*i+2]'(by omega)=c:=by rw[h2];simp[hr]
 have e3:l[4*i+3]'h=d:=by rw[h3];simp[hr]
 rw[e0,e1,e2,e3,hr,z2V]
theorem c1V {cur:List Value} {o:Nat} {bl:B} (h:(cur.drop o).take 64=bl.map a0Q) (hl:bl.length=64) {j k:Nat} (hj:j<64) (hk:k=o+j):nth cur k=some (a0Q (bl[j]'(by omega))):=by
 subst hk;rw[e0F];have h1:((cur.drop o).take 64)[j]? =(bl.map a0Q)[j]? :=by rw[h]
 rw[List.getElem?_take_of_lt hj,List.getElem?_drop,List.getElem?_map,List.getElem?_eq_getElem (l:=bl) (by omega)]at h1;exact h1
theorem s0J: ∀(n:Nat) (w:List Sha.W),(Sha.more n w).length=w.length+n
 |0,_=>rfl
 |n+1,w=>by unfold Sha.more;rw[s0J n];simp;omega
theorem q1S: ∀(n:Nat) (w:List Sha.W),Sha.more (n+1) w=Sha.more n w++ [Sha.b1T (Sha.more n w)]
 |0,_=>rfl
 |n+1,w=>by
  show Sha.more (n+1) (w++ [Sha.b1T w])=_;rw[q1S n];rfl
theorem a1B (b:B):(Sha.f0S b).length=16:=by simp[Sha.f0S]
theorem a1Y {l:List Sha.W} {rest:List Value} {j k:Nat} (hj:j<l.length) (hk:k=j):nth (l.map w32++rest) k=some (w32 (Sha.at_ l j)):=by
 subst hk;rw[e0F,List.getElem?_append_left (by simpa using hj),List.getElem?_map,List.getElem?_eq_getElem hj];unfold Sha.at_;rw[List.getD_eq_getElem?_getD,List.getElem?_eq_getElem hj];rfl
theorem p2Z {l:List (BitVec 32)} {x:BitVec 32} {z:Value} {n k:Nat} (hk:k=l.length) (hn:0<n):(wsL l++List.replicate n z).set k (w32 x)=wsL (l++ [x])++List.replicate (n-1) z:=by
 subst hk;obtain⟨m,rfl⟩: ∃m,n=m+1:=⟨n-1,by omega⟩;rw[List.set_append_right _ _ (by simp),List.replicate_succ];simp
theorem z1J (g o n cap:Nat) (cur:List Value) (e:TypeId) (fr:Nat×Nat) (bl:B) (hn:64≤n) (hn2:n≤9000000000000000000) (hb:(cur.drop o).take 64=bl.map a0Q) (hl:bl.length=64):
 a0G prog 294 #[.slice (some ⟨g,o,none⟩) n cap] [pts g (.cells cur.toArray e fr)] (a0T (.agg (wsL (Sha.k0U bl)).toArray) [pts g (.cells cur.toArray e fr)]):=by
 have h16:(wsL (Sha.f0S bl)).length=16:=by simp[a1B]
 have hW:=s0J;refine en func294 ntmps294 fun R w0=> ?_;refine go 2 ?_;refine al fun b2=> ?_;refine go 4 ?_;refine al fun b3=> ?_;refine go 9 ?_;refine a0V (X:= {i:Nat // i≤16}) (fun y=> [(0,.slice (some ⟨g,o,none⟩) n cap),(2,ptr b2),(3,ptr b3),(10,.int .i64 y.1)]) (fun y=> [pts b3 (.cells (m0N [] (wsL (Sha.f0S bl)) 16 (w32 0) y.1 (List.replicate 48 (w32 0))).toArray 343 (0,0)),pts b2 (.cells (List.replicate 64 (w32 0)).toArray 343 (0,0)),pts g (.cells cur.toArray e fr),R]) (fun y=>16-y.1) ⟨0,by omega⟩ gSu gSp ?_;rintro⟨i,hi⟩ m0 hm0
 try simp only at hm0
 try dsimp only
 skip;refine go 6 ?_;refine a0O rfl (fun hb11=> ?_) (fun hb11=> ?_)
 ·have hi4:i<16:=by have:=of_decide_eq_true hb11;omega
  have hwd:=v2E bl i (by omega);refine go 10 ?_;refine tl 34 ?_;refine go 5 ?_;refine b0V (b0N Sc.o rfl (c1V (j:=4*i) hb hl (by omega) (by omega))) ?_;refine b0V (g1N Tsn.o Tin.o rfl) ?_;refine b0V (l1G (n:=24) rfl rfl (by decide)) ?_;refine go 5 ?_;refine b0V (b0N Sc.o rfl (c1V (j:=4*i+1) hb hl (by omega) (by omega))) ?_;refine b0V (g1N Tsn.o Tin.o rfl) ?_;refine b0V (l1G (n:=16) rfl rfl (by decide)) ?_;refine b0V (s1C rfl rfl) ?_;refine go 5 ?_;refine b0V (b0N Sc.o rfl (c1V (j:=4*i+2) hb hl (by omega) (by omega))) ?_;refine b0V (g1N Tsn.o Tin.o rfl) ?_;refine b0V (l1G (n:=8) rfl rfl (by decide)) ?_;refine b0V (s1C rfl rfl) ?_;refine go 5 ?_;refine b0V (b0N Sc.o rfl (c1V (j:=4*i+3) hb hl (by omega) (by omega))) ?_;refine b0V (g1N Tsn.o Tin.o rfl) ?_;refine b0V (s1C rfl rfl) ?_;refine go 1 ?_;rw[hwd];refine go 1 ?_;refine d0T Sz.o rfl rfl rfl (by rw[y0O h16 (by omega)];simp;omega) (y0N h16 hi4 (by simp) (by simp[Sha.f0S,hi4])) ?_;refine go 6 ?_;exact rd idh (⟨i+1,hi4⟩)
 ·obtain rfl:i=16:=by have:=of_decide_eq_false hb11;omega
  rw[v0W h16,List.nil_append];refine go 9 ?_;refine a0V (X:= {i:Nat // i≤48}) (fun y=> [(0,.slice (some ⟨g,o,none⟩) n cap),(2,ptr b2),(3,ptr b3),(5,.int .i64 (16+y.1:Nat))]) (fun y=> [pts b3 (.cells (wsL (Sha.more y.1 (Sha.f0S bl))++List.replicate (48-y.1) (w32 0)).toArray 343 (0,0)),pts b2 (.cells (List.replicate 64 (w32 0)).toArray 343 (0,0)),pts g (.cells cur.toArray e fr),R]) (fun y=>48-y.1) ⟨0,by omega⟩ gSu gSp ?_;rintro⟨i,hi⟩ m2 hm2
  try simp only at hm2
  try dsimp only
  have hWl:(Sha.more i (Sha.f0S bl)).length=16+i:=by rw[s0J,a1B]
  have hsucc:=q1S i (Sha.f0S bl);generalize hWd:Sha.more i (Sha.f0S bl)=W at hWl hsucc ⊢;refine go 7 ?_;refine a0O rfl (fun hb50=> ?_) (fun hb50=> ?_)
  ·have hi4:i<48:=by have:=of_decide_eq_true hb50;omega
   refine go 9 ?_;refine b0V (b0N Sc.o rfl (a1Y (j:=W.length-15) (by omega) (by omega))) ?_;refine go 3 ?_;refine b0V (b0N Sc.o rfl (a1Y (j:=W.length-2) (by omega) (by omega))) ?_;refine cg 7 (m0V (Sha.at_ W (W.length-15)) 7 (by omega) (by omega)) ?_;refine cg 1 (m0V (Sha.at_ W (W.length-15)) 18 (by omega) (by omega)) ?_;refine a0D (q0Q rfl rfl) ?_;refine go 1 ?_;refine a0D (l1F (n:=3) rfl rfl (by decide)) ?_;refine a0D (q0Q rfl rfl) ?_;refine cg 6 (m0V (Sha.at_ W (W.length-2)) 17 (by omega) (by omega)) ?_;refine cg 1 (m0V (Sha.at_ W (W.length-2)) 19 (by omega) (by omega)) ?_;refine a0D (q0Q rfl rfl) ?_;refine go 1 ?_;refine a0D (l1F (n:=10) rfl rfl (by decide)) ?_;refine a0D (q0Q rfl rfl) ?_;refine go 3 ?_;refine tl 14 ?_;refine go 4 ?_;refine b0V (b0N Sc.o rfl (a1Y (j:=W.length-16) (by omega) (by omega))) ?_;refine go 1 ?_;refine b0V (q0R rfl rfl) ?_;refine go 3 ?_;refine b0V (b0N Sc.o rfl (a1Y (j:=W.length-7) (by omega) (by omega))) ?_;refine b0V (q0R rfl rfl) ?_;refine go 1 ?_;refine b0V (q0R rfl rfl) ?_;refine go 1 ?_;rw[show Sha.at_ W (W.length-16)+((Sha.at_ W (W.length-15)).rotateRight 7 ^^^ (Sha.at_ W (W.length-15)).rotateRight 18 ^^^ (Sha.at_ W (W.length-15)) >>> 3)+Sha.at_ W (W.length-7)+((Sha.at_ W (W.length-2)).rotateRight 17 ^^^ (Sha.at_ W (W.length-2)).rotateRight 19 ^^^ (Sha.at_ W (W.length-2)) >>> 10)=Sha.b1T W from rfl];refine go 1 ?_;refine d0T Sz.o rfl rfl rfl (by rw[Nat.blt_eq];simp[hWl];omega) (p2Z (by rw[hWl];omega) (by omega)) ?_;refine go 1 ?_;rw[←hsucc,show 48-i-1=48- (i+1)from by omega];refine go 6 ?_;rw[show((16+i:Nat):Int)+1=((16+(i+1):Nat):Int)from by omega];exact rd idh (⟨i+1,hi4⟩)
  ·obtain rfl:i=48:=by have:=of_decide_eq_false hb50;omega
   have hsz:(wsL W).toArray.size=64:=by simp[hWl]
   rw[Nat.sub_self,List.replicate_zero,List.append_nil];refine go 4 ?_;refine a0D (a0K Ag.o rfl (by rw[hsz];omega) (a0I hsz)) ?_;refine a0M Sz.o rfl rfl hsz (fun x hx=>by simp at hx;obtain⟨_,_,rfl⟩:=hx;rfl) (by rw[hsz];simp) (a0N (by rw[hsz];simp)) ?_;refine go 2 ?_;refine q0L idh (RV.agg Ag.o rfl (by rw[hsz];omega) (a0I hsz) RV.nil) (by rw[←hWd];rfl) gSp
def i0L (W : World) : Prop := Lib.TabIs prog W "stereobate/sha.rounds" .u32 (Sha.e0N.map fun x => (x.toNat : Int))
theorem rdG : prog.globalNamed "stereobate/sha.rounds" = some 1 := by kernel_rfl
theorem y2C {W : World} (h : i0L W) : W.var? prog "stereobate/sha.rounds" = some (wsL Sha.e0N).toArray := by
 have h' : W.var? prog "stereobate/sha.rounds" = _ := h
 rw[h',List.map_map];rfl
abbrev shP (b:Nat) (h:List (BitVec 32)) (wait:Value) (n:Nat):a0E:=pts b (.cells (wsL h++ [wait,.int .u64 n]).toArray 308 (0,0))
theorem q1T (w v:List Sha.W) (h:v.length=8) (i:Nat):(Sha.j0U w v i).length=8:=by cases i with
 |zero=>exact h
 |succ i=>rfl
theorem j0Q {l:List Sha.W} {j k:Nat} (hj:j<l.length) (hk:k=j):nth (wsL l) k=some (w32 (Sha.at_ l j)):=by
 have:=a1Y (rest:= []) hj hk
 rwa [List.append_nil]at this
def t0X (h V:List Sha.W) (j:Nat):List Sha.W:=(List.zipWith (· + ·) h V).take j++h.drop j
theorem f1K {h V:List Sha.W} (h8:h.length=8) (v8:V.length=8) {j:Nat} (hj:j≤8):(t0X h V j).length=8:=by unfold t0X;simp[h8,v8];omega
theorem q2A {h V:List Sha.W} (h8:h.length=8) (v8:V.length=8) {j:Nat} (hj:j<8):Sha.at_ (t0X h V j) j=Sha.at_ h j:=by
 unfold t0X Sha.at_;rw[List.getD_eq_getElem?_getD,List.getD_eq_getElem?_getD,List.getElem?_append_right (by simp[h8,v8];omega)];simp[h8,v8,show min j 8=j by omega]
theorem k2Z {h V:List Sha.W} {rest:List Value} (h8:h.length=8) (v8:V.length=8) {j k:Nat} (hj:j<8) (hk:k=j):(wsL (t0X h V j)++rest).set k (w32 (Sha.at_ h j+Sha.at_ V j))=wsL (t0X h V (j+1))++rest:=by
 subst hk;rw[List.set_append_left _ _ (by simp[f1K h8 v8 (Nat.le_of_lt hj),hj]),←List.map_set];congr 2;unfold t0X;have hl:((List.zipWith (· + ·) h V).take k).length=k:=by simp[h8,v8];omega
 have hz:(List.zipWith (· + ·) h V)[k]? =some (Sha.at_ h k+Sha.at_ V k):=by
  unfold Sha.at_;rw[List.getD_eq_getElem?_getD,List.getD_eq_getElem?_getD,List.getElem?_zipWith,List.getElem?_eq_getElem (by omega),List.getElem?_eq_getElem (by omega)];rfl
 rw[List.set_append_right _ _ (by omega),hl,Nat.sub_self,List.drop_eq_getElem_cons (by omega),List.set_cons_zero,List.take_succ,hz];simp
set_option maxRecDepth 4000 in
theorem q2B (W:World) (hW:i0L W) (b:Nat) (h:List (BitVec 32)) (h8:h.length=8) (wait:Value) (nn:Nat) (g o n cap:Nat) (cur:List Value) (e:TypeId) (fr:Nat×Nat) (bl:B) (hn:64≤n) (hn2:n≤9000000000000000000) (hb:(cur.drop o).take 64=bl.map a0Q) (hl:bl.length=64):
 a0G prog 281 #[ptr b,.slice (some ⟨g,o,none⟩) n cap] [shP b h wait nn,pts g (.cells cur.toArray e fr),whole W] (a0T (.tuple #[]) [shP b (Sha.mix h bl) wait nn,pts g (.cells cur.toArray e fr),whole W]):=by
 have hws:(wsL h).length=8:=by simp[h8]
 have hwl:(Sha.k0U bl).length=64:=by unfold Sha.k0U;rw[s0J,a1B]
 have hwl':(wsL (Sha.k0U bl)).toArray.size=64:=by simp[hwl]
 have hrl:(wsL Sha.e0N).toArray.size=64:=by rfl
 refine en func281 ntmps281 fun R w0=> ?_;refine cg 3 (z1J g o n cap cur e fr bl hn hn2 hb hl) ?_;refine al fun b4=> ?_;refine a0M Sz.o rfl rfl hwl' (fun x hx=>by simp at hx;obtain⟨_,_,rfl⟩:=hx;rfl) (by rw[hwl'];simp[Value.cells]) (a0N (by rw[hwl'];rfl)) ?_;refine go 7 ?_;refine a0D (a0K Ag.o rfl (by simp[h8]) (d0Y (a:= []) (b:=wsL h) (c:= [wait,.int .u64 nn]) rfl hws)) ?_;refine al fun b5=> ?_;refine a0M Sz.o rfl rfl (by simp[h8]) (fun x hx=>by simp at hx;obtain⟨_,_,rfl⟩:=hx;rfl) (by simp[h8,Value.cells]) (a0N (by simp[h8,Value.cells])) ?_;refine go 5 ?_;refine a0D (i2W Ag.o rfl gFd rdG (y2C hW) hrl) ?_;refine go 4 ?_;refine a0V (X:= {i:Nat // i≤64}) (fun y=> [(0,ptr b),(4,ptr b4),(5,ptr b5),(19,.agg (wsL Sha.e0N).toArray),(20,.int .i64 y.1)]) (fun y=> [pts b5 (.cells (wsL (Sha.j0U (Sha.k0U bl) h y.1)).toArray 306 (0,0)),pts b4 (.cells (wsL (Sha.k0U bl)).toArray 343 (0,0)),shP b h wait nn,pts g (.cells cur.toArray e fr),whole W,R]) (fun y=>64-y.1) ⟨0,by omega⟩ gSu gSp ?_;rintro⟨i,hi⟩ m0 hm0
 try simp only at hm0
 try dsimp only
 have hv8:=q1T (Sha.k0U bl) h h8 i;have hsucc:Sha.j0U (Sha.k0U bl) h (i+1)=Sha.rnd (Sha.j0U (Sha.k0U bl) h i) (Sha.at_ Sha.e0N i) (Sha.at_ (Sha.k0U bl) i):=rfl;generalize hV:Sha.j0U (Sha.k0U bl) h i=V at hv8 hsucc ⊢;refine go 6 ?_;refine a0O rfl (fun hb21=> ?_) (fun hb21=> ?_)
 ·have hi4:i<64:=by have:=of_decide_eq_true hb21;omega
  refine go 7 ?_;refine a0D (o0P Tar.o Sc.o rfl rfl (by omega) (j0Q (l:=Sha.e0N) (j:=i) (by exact hi4) (by omega))) ?_;refine go 7 ?_;refine a0D (b0N Sc.o rfl (j0Q (l:=V) (j:=4) (by omega) rfl)) ?_;refine go 4 ?_;refine mx (.r 0 9 (.soft 10 (.soft 13 (.r 17 10 (.hard 9 (.hard 11 (.soft 12 (.hard 14 (.r 15 2 (.r 27 2 .done)))))))))) [pts b5 (.cells (wsL V).toArray 306 (0,0)),pts b4 (.cells (wsL (Sha.k0U bl)).toArray 343 (0,0))] ?_;refine go 1 ?_;refine d0A rfl (b0N Sc.o rfl (j0Q (l:=V) (j:=7) (by omega) rfl)) ?_;refine go 1 ?_;refine d0A rfl (q0R rfl rfl) ?_;refine go 2 ?_;refine d0A rfl (b0N Sc.o rfl (j0Q (l:=Sha.k0U bl) (j:=i) (by omega) (by omega))) ?_;refine d0A rfl (q0R rfl rfl) ?_;refine go 5 ?_;refine d0A rfl (b0N Sc.o rfl (j0Q (l:=V) (j:=5) (by omega) rfl)) ?_;refine d0A rfl (e1E rfl rfl) ?_;refine go 1 ?_;refine d0A rfl (x2I rfl) ?_;refine go 1 ?_;refine d0A rfl (b0N Sc.o rfl (j0Q (l:=V) (j:=6) (by omega) rfl)) ?_;refine d0A rfl (e1E rfl rfl) ?_;refine d0A rfl (q0Q rfl rfl) ?_;refine cg 1 (m0V (Sha.at_ V 4) 6 (by omega) (by omega)) ?_;refine cg 3 (m0V (Sha.at_ V 4) 11 (by omega) (by omega)) ?_;refine go 2 ?_;refine d0A rfl (q0Q rfl rfl) ?_;refine cg 1 (m0V (Sha.at_ V 4) 25 (by omega) (by omega)) ?_;refine go 2 ?_;refine d0A rfl (q0Q rfl rfl) ?_;refine d0A rfl (q0R rfl rfl) ?_;refine d0A rfl (q0R rfl rfl) ?_;refine go 6 ?_;refine a0D (b0N Sc.o rfl (j0Q (l:=V) (j:=0) (by omega) rfl)) ?_;refine go 4 ?_;refine mx (.soft 0 (.soft 2 (.soft 5 (.r 8 15 (.hard 1 (.hard 3 (.soft 4 (.hard 6 (.soft 7 (.r 23 2 .done)))))))))) [pts b5 (.cells (wsL V).toArray 306 (0,0))] ?_;refine go 5 ?_;refine d0A rfl (b0N Sc.o rfl (j0Q (l:=V) (j:=1) (by omega) rfl)) ?_;refine d0A rfl (e1E rfl rfl) ?_;refine go 2 ?_;refine d0A rfl (b0N Sc.o rfl (j0Q (l:=V) (j:=2) (by omega) rfl)) ?_;refine d0A rfl (e1E rfl rfl) ?_;refine d0A rfl (q0Q rfl rfl) ?_;refine go 1 ?_;refine d0A rfl (b0N Sc.o rfl (j0Q (l:=V) (j:=1) (by omega) rfl)) ?_;refine go 1 ?_;refine d0A rfl (b0N Sc.o rfl (j0Q (l:=V) (j:=2) (by omega) rfl)) ?_;refine d0A rfl (e1E rfl rfl) ?_;refine d0A rfl (q0Q rfl rfl) ?_;refine cg 1 (m0V (Sha.at_ V 0) 2 (by omega) (by omega)) ?_;refine cg 3 (m0V (Sha.at_ V 0) 13 (by omega) (by omega)) ?_;refine go 2 ?_;refine d0A rfl (q0Q rfl rfl) ?_;refine cg 1 (m0V (Sha.at_ V 0) 22 (by omega) (by omega)) ?_;refine go 2 ?_;refine d0A rfl (q0Q rfl rfl) ?_;refine d0A rfl (q0R rfl rfl) ?_;refine go 6 ?_;refine a0D (q0R rfl rfl) ?_;refine go 1 ?_;refine a0D (b0N Sc.o rfl (j0Q (l:=V) (j:=0) (by omega) rfl)) ?_;refine go 1 ?_;refine a0D (b0N Sc.o rfl (j0Q (l:=V) (j:=1) (by omega) rfl)) ?_;refine go 1 ?_;refine a0D (b0N Sc.o rfl (j0Q (l:=V) (j:=2) (by omega) rfl)) ?_;refine go 1 ?_;refine a0D (b0N Sc.o rfl (j0Q (l:=V) (j:=3) (by omega) rfl)) ?_;refine go 1 ?_;refine a0D (q0R rfl rfl) ?_;refine go 1 ?_;refine a0D (b0N Sc.o rfl (j0Q (l:=V) (j:=4) (by omega) rfl)) ?_;refine go 1 ?_;refine a0D (b0N Sc.o rfl (j0Q (l:=V) (j:=5) (by omega) rfl)) ?_;refine go 1 ?_;refine a0D (b0N Sc.o rfl (j0Q (l:=V) (j:=6) (by omega) rfl)) ?_;refine a0D (r0M (cs:=wsL (Sha.rnd V (Sha.at_ Sha.e0N i) (Sha.at_ (Sha.k0U bl) i))) Tar.o Zr.o rfl (by rfl)) ?_;refine a0M Sz.o rfl rfl (by rfl) (fun x hx=>by simp at hx;obtain⟨_,_,rfl⟩:=hx;rfl) (by simp[hv8,b2G]) (a0N (by simp[hv8,b2G])) ?_;refine go 1 ?_;rw[←hsucc];refine go 5 ?_;exact rd idh (⟨i+1,hi4⟩)
 ·obtain rfl:i=64:=by have:=of_decide_eq_false hb21;omega
  refine go 8 ?_;refine a0V (X:= {j:Nat // j≤8}) (fun y=> [(0,ptr b),(5,ptr b5),(101,.int .i64 y.1)]) (fun y=> [shP b (t0X h V y.1) wait nn,pts b5 (.cells (wsL V).toArray 306 (0,0)),pts g (.cells cur.toArray e fr),whole W,R]) (fun y=>8-y.1) ⟨0,by omega⟩ gSu gSp ?_;rintro⟨j,hj⟩ m2 hm2
  try simp only at hm2
  try dsimp only
  skip;refine go 6 ?_;refine a0O rfl (fun hb102=> ?_) (fun hb102=> ?_)
  ·have hj4:j<8:=by have:=of_decide_eq_true hb102;omega
   refine go 10 ?_;refine tl 12 ?_;refine go 5 ?_;refine b0V (b0N Sc.o rfl (a1Y (l:=t0X h V j) (j:=j) (by rw[f1K h8 hv8 hj];exact hj4) (by omega))) ?_;refine go 2 ?_;refine b0V (b0N Sc.o rfl (j0Q (l:=V) (j:=j) (by omega) (by omega))) ?_;refine b0V (q0R rfl rfl) ?_;refine go 4 ?_;rw[q2A h8 hv8 hj4];refine d0T Sz.o rfl rfl rfl (by rw[Nat.blt_eq];simp[f1K h8 hv8 hj];omega) (k2Z h8 hv8 hj4 (by omega)) ?_;refine go 6 ?_;exact rd idh (⟨j+1,hj4⟩)
  ·obtain rfl:j=8:=by have:=of_decide_eq_false hb102;omega
   refine go 1 ?_;have hz:t0X h V 8=Sha.mix h bl:=by unfold t0X Sha.mix;rw[List.drop_eq_nil_of_le (by omega),List.append_nil,List.take_of_length_le (by simp[h8,hv8]),hV]
   rw[hz];exact d0Q rfl rfl gSp
end Go.Proofs.Q
namespace Go.Proofs.YtpinhnikemamjaaGreatDoor
open Go.Proofs.Q
open Go.ChangeShapes Go.WideShapes Go.ChangeAt Go.RowKit Go.Sl
theorem v2F : Tryz.prog.globalNamed "stereobate/sha.rounds" = some 1 := by kernel_rfl
theorem y2D {W:World} {r:List (String×DataW Unit)}
 (h : laidMet Tryz.prog (("stereobate/sha.rounds", Rows.laid_stereobate_sha_rounds) :: r) W) (_ : W.ShapedOpen Tryz.prog) : i0L W :=
 Lib.tabIs_of_head (n:=64) (e:=47) (t:=343) v2F (by kernel_rfl) Tryz.underlying343 Tryz.underlying47 (by kernel_rfl) (by kernel_rfl) h
theorem y2E {H:Type} {enc:TypeId×Value→H} {a:Assume} {C:Checked} {os:Os} {f:FuncId} {fn:Func} {s:ChangeSpec} {conds:List PathCond} {apart fresh handsOn again:Bool} {L:List (String×DataW Unit)}
 (own:ownKnob C.prog.godebug=none) (started:os.Started) (noInit:C.prog.inits.idxOf? f=none) (hfn:C.prog.funcs[f]? =some fn)
 (witness: ∃(w:World) (tape:Tape) (i:Input),w.os=os∧(w.forCall tape i).Shaped C.prog∧i.vars= []∧Input.okWide C.prog (w.forCall tape i) .any w.heap.size f i∧
  ((s.pre enc C.prog fn conds apart (w.forCall tape i).memory i.args∧laidMetH C.prog L (w.forCall tape i).memory)∧sizedMet enc C.prog fn (OpenSpec.ofChange s) apart (w.forCall tape i).memory i.args)∧a.holds C.prog (lone (Frame.enter C.prog f i.args .normal) [] (w.forCall tape i)))
 (k1M: ∀(W:World) (base:Nat) (args:Array Value) (ds gs:List (DataW H)) (before:List MemPlace),
  (∀(j:Nat) t v,fn.params[j]? =some t→args[j]? =some v→Value.okWide C.prog W .any base t v)→DataW.Whole enc C.prog fn.params.toList s.vars apart W args.toList ds gs before→
  W.ShapedOpen C.prog→laidMetH C.prog L W→Calls C.prog f args W fun e W'=> ∃v,e= .returned v∧s.post enc C.prog fn apart fresh handsOn again W args v W'):
 ReturnsInHanded a C os f .any (fun w args=>(s.pre enc C.prog fn conds apart w args∧laidMetH C.prog L w)∧sizedMet enc C.prog fn (OpenSpec.ofChange s) apart w args) (s.post enc C.prog fn apart fresh handsOn again):=by
 refine returnsInHanded_of_calls own started noInit witness fun w tape i _ hsh _ hok hpre _=> ?_;obtain⟨_,_,_,g,hg,_,_,_,_,hval⟩:=hok;cases Option.some.inj (hg.symm.trans hfn)
 obtain⟨⟨⟨ds,gs,before,hw,_⟩,hx⟩,_⟩:=hpre;have hw':DataW.Whole enc C.prog fn.params.toList s.vars apart (w.forCall tape i) i.args.toList ds gs before:=DataW.Whole.of_heap (by rfl) hw;have hx':laidMetH C.prog L (w.forCall tape i):=laidMetH.of_heap (w:=(w.forCall tape i).memory) (by rfl) hx;refine(k1M (w.forCall tape i) w.heap.size i.args ds gs before hval hw' hsh hx').mono fun e W' h=> ?_;obtain⟨v,rfl,hp⟩:=h;exact ChangeSpec.post_blind hp
end Go.Proofs.YtpinhnikemamjaaGreatDoor
namespace Go.Proofs.Q
open Go Go.Sl Tryz
instance:Ag prog 24 5:=⟨kr⟩
instance:Fl prog 24 0 0:=⟨kr⟩
instance:Fl prog 24 4 4:=⟨kr⟩
instance:Fl prog 34 0 0:=⟨kr⟩
instance:Fl prog 37 0 0:=⟨kr⟩
instance:Fl prog 37 1 1:=⟨kr⟩
instance:Fl prog 59 0 0:=⟨kr⟩
instance:Hb prog 10:=⟨kr⟩
instance:Hb prog 11:=⟨kr⟩
instance:Hb prog 12:=⟨kr⟩
instance:Hb prog 16:=⟨kr⟩
instance:Hb prog 17:=⟨kr⟩
instance:Hb prog 18:=⟨kr⟩
instance:Sc prog 32:=⟨kr⟩
instance:Sc prog 35:=⟨kr⟩
instance:Tsl prog 22 24 5:=⟨kr⟩
instance:Tsl prog 32 42 6:=⟨kr⟩
instance:Sz prog 24 5:=⟨kr⟩
instance:Zr prog 24 (.agg #[.int .i64 0,.int .i64 0,.int .i64 0,.int .i64 0,.string ByteArray.empty]):=⟨kr⟩
instance:Ag prog 42 6:=⟨kr⟩
theorem F.fk50:Sl.n1S prog 50=some [0,0,2,0,0,0]:=by kernel_rfl
instance:Fl prog 34 1 1:=⟨kr⟩
instance:Fl prog 42 0 0:=⟨kr⟩
instance:Hb prog 15:=⟨kr⟩
instance:Hb prog 20:=⟨kr⟩
instance:Hb prog 33:=⟨kr⟩
instance:Hb prog 37:=⟨kr⟩
instance:Hb prog 50:=⟨kr⟩
instance:Hb prog 54:=⟨kr⟩
instance:Hb prog 55:=⟨kr⟩
instance:Hb prog 56:=⟨kr⟩
instance:Sc prog 26:=⟨kr⟩
instance:Sz prog 42 6:=⟨kr⟩
instance:Zr prog 42 (.agg #[.int .i64 0,.int .i64 0,.bool false,.int .i64 0,.int .i64 0,.slice none 0 0]):=⟨kr⟩
instance:Ag prog 34 4:=⟨kr⟩
theorem F.bo4:(match prog.underlying 4 with|some .bool=>true|_=>false)=true:=by kernel_rfl
instance:Fl prog 42 1 1:=⟨kr⟩
instance:Fl prog 42 2 2:=⟨kr⟩
instance:Fl prog 42 3 3:=⟨kr⟩
instance:Fl prog 42 4 4:=⟨kr⟩
instance:Fl prog 42 5 5:=⟨kr⟩
instance:Fl prog 50 1 1:=⟨kr⟩
instance:Fl prog 50 2 2:=⟨kr⟩
instance:Fl prog 50 3 3:=⟨kr⟩
instance:Fl prog 50 5 5:=⟨kr⟩
instance:Hb prog 109:=⟨kr⟩
instance:Hb prog 13:=⟨kr⟩
instance:Hb prog 19:=⟨kr⟩
instance:Hb prog 46:=⟨kr⟩
instance:Sc prog 40:=⟨kr⟩
theorem F.fa230_0:Sl.n0R prog 230 0 0 4 true=true:=by kernel_rfl
instance:Hb prog 110:=⟨kr⟩
instance:Hb prog 111:=⟨kr⟩
instance:Hb prog 112:=⟨kr⟩
instance:Hb prog 154:=⟨kr⟩
instance:Ag prog 259 2:=⟨kr⟩
instance:Fl prog 259 0 0:=⟨kr⟩
instance:Fl prog 259 1 1:=⟨kr⟩
instance:Hb prog 153:=⟨kr⟩
instance:Hb prog 188:=⟨kr⟩
instance:Hb prog 189:=⟨kr⟩
instance:Tsl prog 40 259 2:=⟨kr⟩
instance:Sz prog 259 2:=⟨kr⟩
instance:Zr prog 259 (.agg #[.int .i64 0,.string ByteArray.empty]):=⟨kr⟩
instance:Hb prog 173:=⟨kr⟩
instance:Pl prog 259 ([(0,1),(1,1)],.agg #[.int .i64 0,.string ByteArray.empty]):=⟨kr⟩
instance:Ttb prog 259 24:=⟨kr⟩
instance:Fl prog 277 1 1:=⟨kr⟩
instance:Hb prog 261:=⟨kr⟩
instance:Hb prog 227:=⟨kr⟩
instance:Hb prog 228:=⟨kr⟩
instance:Hb prog 229:=⟨kr⟩
instance:Hb prog 230:=⟨kr⟩
instance:Hb prog 231:=⟨kr⟩
end Go.Proofs.Q
namespace Go.Proofs.Q
open Go.Sl Go.Sb Tryz
theorem r0R: ∀(n:Nat) (h:List Sha.W) (b:B),Sha.f0J (n+1) h b=Sha.mix (Sha.f0J n h b) ((b.drop (64*n)).take 64)
 |0,h,b=>rfl
 |n+1,h,b=>by
  show Sha.f0J (n+1) (Sha.mix h (b.take 64)) (b.drop 64)=_;rw[r0R n,List.drop_drop];show _=Sha.mix (Sha.f0J n (Sha.mix h (b.take 64)) (b.drop 64)) _;rw[Nat.mul_succ,Nat.add_comm (64*n)]
theorem m0S: ∀(n:Nat) (h:List Sha.W) (b:B),h.length=8→(Sha.f0J n h b).length=8
 |0,_,_,hh=>hh
 |n+1,h,b,hh=>m0S n _ _ (by unfold Sha.mix;rw[List.length_zipWith,q1T _ _ hh,hh];rfl)
abbrev m1I (v:Value) (l:B):a0E:=w0D 5 1 v l.length (l.map a0Q)
theorem a1Z {h:List Sha.W} {v u:Value} (h8:h.length=8):nth (wsL h++ [v,u]) 8=some v:=by
 rw[e0F,List.getElem?_append_right (by simp[h8])];simp[h8]
theorem c2F {h:List Sha.W} {v u:Value} (h8:h.length=8):nth (wsL h++ [v,u]) 9=some u:=by
 rw[e0F,List.getElem?_append_right (by simp[h8])];simp[h8]
theorem c2G {h:List Sha.W} {v u x:Value} (h8:h.length=8):(wsL h++ [v,u]).set 8 x=wsL h++ [x,u]:=by
 rw[List.set_append_right _ _ (by simp[h8])];simp[h8]
theorem v2G {h:List Sha.W} {v u x:Value} (h8:h.length=8):(wsL h++ [v,u]).set 9 x=wsL h++ [v,x]:=by
 rw[List.set_append_right _ _ (by simp[h8])];simp[h8]
theorem q2C {g o cap:Nat} {cur:List Value} {dl:B} {w:World} {L:List a0E} (h:Sat w (pts g (.cells cur.toArray 5 (0,0))::L)) (h1:dl.length≤cap) (h2:cap≤maxLen) (h3:o+cap*1≤cur.length)
 (h4:(cur.drop o).take (dl.length*1)=dl.map a0Q) (hk:64≤dl.length):Sat w (m1I (.slice (b1L (some ⟨g,o,none⟩) 64 cap 1) (dl.drop 64).length (cap-64)) (dl.drop 64)::L):=by
 have:=o2E h h1 h2 h3 h4 hk
 rwa [←List.map_drop,show dl.length-64=(dl.drop 64).length by simp]at this
set_option maxRecDepth 4000 in
theorem q2D (W:World) (hW:i0L W) (b:Nat) (h:List (BitVec 32)) (h8:h.length=8) (v:Value) (hv:v.oneCell'=true) (nn:Nat) (wl l:B) (hwl:wl.length<64) (hll:l.length≤1000000) (hnn:nn≤1000000000):
 a0G prog 247 #[ptr b,b0C l] [shP b h v nn,m1I v wl,whole W]
  (b0P (fun v':Value=>v'.oneCell'=true) (fun _=> .tuple #[]) fun v'=> [shP b (Sha.f0J ((wl++l).length/64) h (wl++l)) v' (nn+l.length),m1I v' ((wl++l).drop (64*((wl++l).length/64))),whole W]):=by
 have hsl:(bs l).data.toList.length=l.length:=by simp
 have hbl:byteCells (bs l)=l.map a0Q:=by simp[byteCells,a0Q]
 refine en func247 ntmps247 fun R w0=> ?_;refine go 5 ?_;refine a0D (b0N Sc.o rfl (c2F h8)) ?_;refine go 3 ?_;rw[b0H,q0Y (l.length:Int) l.length rfl (by omega)];refine a0D (g1D rfl rfl) ?_;rw[q0Y ((nn:Int)+(l.length:Int)) (nn+l.length) (by omega) (by omega)];refine go 2 ?_;refine d0T Sz.o rfl rfl rfl (by rw[Nat.blt_eq];simp[h8]) (v2G h8) ?_;refine go 8 ?_;refine a0D (b0N Sc.o rfl (a1Z h8)) ?_;refine go 1 ?_;refine(d2X Tsl.o Ttb.o Zr.o rfl rfl rfl gFd (n1Q Tst.o) (by rw[b0H];simp only[maxLen];omega) (by rw[b0H];omega) (fun v20 hv20=> ?_));rw[hbl,b0H,←List.map_append,←List.length_append];refine go 2 ?_;refine d0T Sz.o rfl rfl hv20 (by rw[Nat.blt_eq];simp[h8]) (c2G h8) ?_;refine go 1 ?_;generalize hall:wl++l=al;refine go 2 ?_;refine a0V (X:= {y:Nat×Value // y.1≤al.length/64∧y.2.oneCell'=true}) (fun y=> [(0,ptr b)]) (fun y=> [shP b (Sha.f0J y.1.1 h al) y.1.2 (nn+l.length),m1I y.1.2 (al.drop (64*y.1.1)),whole W,R]) (fun y=>al.length/64-y.1.1) ⟨(0,v20),by omega,hv20⟩ gSu gSp ?_;rintro⟨⟨i,v'⟩,hi,hv'⟩ m0 hm0
 try simp only at hm0
 try dsimp only
 simp only at hi hv';have hm8:=m0S i h al h8;have hsucc:=r0R i h al;have hdl:(al.drop (64*i)).length=al.length-64*i:=by simp
 have hal:al.length≤1000100:=by rw[←hall,List.length_append];omega
 generalize hH:Sha.f0J i h al=H at hm8 hsucc ⊢;generalize hD:al.drop (64*i)=dl at hdl hsucc ⊢;refine go 6 ?_;refine a0D (b0N Sc.o rfl (a1Z hm8)) ?_;refine a0D (l1C Tsl.o rfl gFd) ?_;refine go 3 ?_;refine a0O rfl (fun hb28=> ?_) (fun hb28=> ?_)
 ·have hd64:64≤dl.length:=by have:=of_decide_eq_true hb28;omega
  have hil:i<al.length/64:=by omega
  refine go 4 ?_;refine t2K gFd (by omega) fun g o cap cur hvs hc1 hc2 hc3 hc4=> ?_;refine go 1 ?_;subst hvs;refine go 4 ?_;refine a0D (b0N Sc.o rfl (a1Z hm8)) ?_;refine a0D (i1Q Tsl.o rfl rfl (by omega)) ?_;have hb64:(cur.drop o).take 64=(dl.take 64).map a0Q:=by rw[List.map_take,←hc4,Nat.mul_one,List.take_take,Nat.min_eq_left hd64]
  refine b0X rfl Hb.o rfl (q2B W hW b H hm8 _ (nn+l.length) g o 64 cap cur 5 (0,0) (dl.take 64) (by omega) (by omega) hb64 (by simp;omega)) gSp ?_;refine ns ?_;refine go 1 ?_;rw[←hsucc];refine go 6 ?_;refine a0D (b0N Sc.o rfl (a1Z (m0S _ _ _ h8))) ?_;refine a0D (s1U Tsl.o rfl rfl (by omega) (by omega)) ?_;rw[show Int.toNat 64=64 from rfl,show dl.length-64=(dl.drop 64).length by simp];refine go 2 ?_;refine d0T Sz.o rfl rfl rfl (by rw[Nat.blt_eq];simp[m0S _ _ _ h8]) (c2G (m0S _ _ _ h8)) ?_;refine go 1 ?_;have hnext:al.drop (64*(i+1))=dl.drop 64:=by rw[←hD,z0J]
  refine b0F (fun w hs=>q2C ((show Fnd _ (pts g _) _ from gFd).sat hs) hc1 hc2 hc3 hc4 hd64) ?_;rw[←hnext];exact rd idh (⟨(i+1,.slice (b1L (some ⟨g,o,none⟩) 64 cap 1) (al.drop (64*(i+1))).length (cap-64)),hil,rfl⟩)
 ·have hd64: ¬64≤dl.length:=by have:=of_decide_eq_false hb28;omega
  obtain rfl:i=al.length/64:=by omega
  refine go 1 ?_;rw[←hH,←hD];exact fE v' hv'
theorem q1U: ∀(j k:Nat) (h:List Sha.W) (b:B),Sha.f0J (k+j) h b=Sha.f0J j (Sha.f0J k h b) (b.drop (64*k))
 |0,k,h,b=>rfl
 |j+1,k,h,b=>by
  rw[show k+(j+1)=(k+j)+1 by omega,r0R,r0R,q1U j k,List.drop_drop,show 64*k+64*j=64*(k+j) by omega]
theorem h1Y: ∀(k:Nat) (h:List Sha.W) (b c:B),64*k≤b.length→Sha.f0J k h (b++c)=Sha.f0J k h b
 |0,_,_,_,_=>rfl
 |k+1,h,b,c,hl=>by
  rw[r0R,r0R,h1Y k h b c (by omega),List.drop_append_of_le_length (by omega),List.take_append_of_le_length (by simp;omega)]
abbrev stA (b:Nat) (v:Value) (al:B):List a0E:= [shP b (Sha.f0J (al.length/64) Sha.start al) v al.length,m1I v (al.drop (64*(al.length/64)))]
theorem m1J (W:World) (hW:i0L W) (b:Nat) (v:Value) (hv:v.oneCell'=true) (al l:B) (hal:al.length≤1000000) (hll:l.length≤1000000):
 a0G prog 247 #[ptr b,b0C l] (stA b v al++ [whole W]) (b0P (fun v':Value=>v'.oneCell'=true) (fun _=> .tuple #[]) fun v'=>stA b v' (al++l)++ [whole W]):=by
 have h:=q2D W hW b (Sha.f0J (al.length/64) Sha.start al) (m0S _ _ _ rfl) v hv al.length (al.drop (64*(al.length/64))) l (by simp;omega) hll (by omega);have hk:64*(al.length/64)≤al.length:=by omega
 have hdrop:al.drop (64*(al.length/64))++l=(al++l).drop (64*(al.length/64)):=(List.drop_append_of_le_length hk).symm;have hlen:(al.drop (64*(al.length/64))++l).length/64+al.length/64=(al++l).length/64:=by simp;omega
 have e1:Sha.f0J ((al.drop (64*(al.length/64))++l).length/64) (Sha.f0J (al.length/64) Sha.start al) (al.drop (64*(al.length/64))++l)=Sha.f0J ((al++l).length/64) Sha.start (al++l):=by
  rw[←hlen,Nat.add_comm,q1U,h1Y _ _ _ _ hk,←hdrop]
 have e2:(al.drop (64*(al.length/64))++l).drop (64*((al.drop (64*(al.length/64))++l).length/64))=(al++l).drop (64*((al++l).length/64)):=by
  rw[←hlen]
  conv=>lhs;rw[hdrop]
  rw[List.drop_drop,Nat.mul_add,Nat.add_comm (64*(al.length/64))];rw[hdrop]
 rw[e1,e2]at h;rw[show al.length+l.length=(al++l).length by simp]at h;exact h
theorem f2U:a0G prog 246 #[] [] (b0P (fun _:Nat=>True) ptr fun b=> [shP b Sha.start (.slice none 0 0) 0]):=by
 refine en func246 ntmps246 fun R w0=> ?_;refine go 7 ?_;refine a0D (r0M (cs:=wsL Sha.start) Tar.o Zr.o rfl (by rfl)) ?_;refine a0D (s0P (cs:=wsL Sha.start++ [.slice none 0 0,.int .u64 0]) Pl.o rfl (by rfl)) ?_;refine bx fun b3=> ?_;refine go 3 ?_;exact rE idh b3 trivial
theorem m1K {ss:List B} {i:Nat} (h:i<ss.length):(ss.take (i+1)).flatten=(ss.take i).flatten++ss[i]:=by
 rw[List.take_succ,List.getElem?_eq_getElem h,List.flatten_append];simp
theorem v2H {ss:List B} : ∀(i:Nat),(ss.take i).flatten.length≤ss.flatten.length:=fun i=>by
 conv=>rhs;rw[←List.take_append_drop i ss]
 rw[List.flatten_append,List.length_append];omega
end Go.Proofs.Q
