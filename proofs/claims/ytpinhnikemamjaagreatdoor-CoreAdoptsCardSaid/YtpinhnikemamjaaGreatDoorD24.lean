/- Part of the proof; no statement of its own. -/
import Derived.Test.YtpinhnikemamjaaGreatDoorD19
import Derived.Test.YtpinhnikemamjaaGreatDoorD23
import Derived.Test.YtpinhnikemamjaaGreatDoorD08
import Derived.Test.YtpinhnikemamjaaGreatDoorD07
import Derived.Test.YtpinhnikemamjaaGreatDoorD10
import Derived.Lib.LaidTab
import Derived.Test.YtpinhnikemamjaaGreatDoorRows
import Derived.LaidLaws
import Derived.MakeChecks
import Derived.HandedShaped
import Derived.LaidMore
import Derived.Lay
import Derived.Stop.Joined
import Derived.ProofKit
import Derived.Test.YtpinhnikemamjaaGreatDoorProg
import Derived.KernelRfl
set_option linter.all false
set_option maxRecDepth 4000
set_option maxHeartbeats 4000000
attribute [local irreducible] Go.Sl.a0P Go.Sl.OW Go.Sl.CW Go.Sl.OS Go.Sl.OM Go.Sl.OMf Go.Sl.KM
namespace Go.Proofs.Q
open Go.Sl Go.Sb Tryz
theorem h1D {l:Nat} {s:B} {e:Int} (h:i0A s= .err e):((g0C l s,()):Out Nd×Unit)=(.err e,()):=by unfold g0C;rw[h]
theorem v2C {l:Nat} {s:B} (h:i0A s= .ok (s.take 60)) (a:(s.take 60).take 1≠ [78]):((g0C l s,()):Out Nd×Unit)=(.err 1,()):=by unfold g0C;rw[h];simp only;rw[if_pos a]
theorem k2X {l:Nat} {s:B} (h:i0A s= .ok (s.take 60)) (a:(s.take 60).take 1= [78]) (b:be (((s.take 60).drop 1).take 1)≠l):((g0C l s,()):Out Nd×Unit)=(.err 1,()):=by
 unfold g0C;rw[h];simp only;rw[if_neg (by simp[a]),if_pos b]
theorem p2Y {l:Nat} {s:B} (h:i0A s= .ok (s.take 60)) (a:(s.take 60).take 1= [78]) (b:be (((s.take 60).drop 1).take 1)=l) (c:a0R ((s.take 60).drop 50)=false):((g0C l s,()):Out Nd×Unit)=(.err 1,()):=by
 unfold g0C;rw[h];simp only;rw[if_neg (by simp[a]),if_neg (fun e=>e b),if_pos c]
theorem y2B {l:Nat} {s:B} (h:i0A s= .ok (s.take 60)) (a:(s.take 60).take 1= [78]) (b:be (((s.take 60).drop 1).take 1)=l) (c:a0R ((s.take 60).drop 50)=true):
 ((g0C l s,()):Out Nd×Unit)=(.ok {kids:=(g0Y 2 8 ((s.take 60).drop 2)).map Int.ofNat,sum:=((s.take 60).drop 18).take 32},()):=by
 unfold g0C;rw[h];simp only;rw[if_neg (by simp[a]),if_neg (fun e=>e b),if_neg (by simp[c])]
theorem k2Y {a:Value} {C D:List Value} {l:B} {n m k:Nat} (b:1+C.length=k) (hd:D.length=n) (c:l.length=n) (d:m=n):
 (a::(C++D)).take k++((bs l).data.toList.take m).map a0Q++(a::(C++D)).drop (k+min (bs l).size m)=a::(C++l.map a0Q):=v1Z (A:= [a]) b hd c d
theorem v2D (l:B):be (l.take 1)<256:=Nat.lt_of_lt_of_le (l1U _) (Nat.pow_le_pow_right (n:=256) (j:=1) (by decide) (by simp;omega))
set_option maxRecDepth 4000 in
theorem w1C (l:Nat) (s:B) (Z:s.length≤1000000):a0G prog 151 #[b0C s,.int .i64 l] [] (Ran fT (fun _:Unit=> []) (ndV l) (g0C l s,())):=by
 have W:=h1C (s.drop 60);refine en func151 ntmps151 fun R w0=> ?_;refine go 2 ?_;refine al fun M=> ?_;refine ce 5 (z0G (bs s)) ?_;rintro w _;refine ns ?_;refine go 6 ?_;refine a0U rfl Hb.o rfl (m1F w s 60 Z) gSp (fun a t f=> ?_) (fun e t f=>by refine pn ?_;exact kx ((by obtain⟨G,rfl⟩:=q1K f;exact h1D (k2R G))));refine ns ?_;obtain⟨G,rfl,rfl⟩:=v1T f;refine go 7 ?_;refine a0U rfl Hb.o rfl (q1N w (s.drop 60) 4 (by omega) (by simp;omega)) gSp (fun n t f=> ?_) (fun e t f=>by refine pn ?_;exact kx ((by obtain⟨z,rfl⟩:=v1U f;exact h1D (k2S G (by simp at z;omega)))));refine ns ?_;obtain⟨z,rfl,rfl⟩:=c2D f;refine go 1 ?_;rw[show IntKind.u32.wrap ((be ((s.drop 60).take 4):Nat):Int)=(be ((s.drop 60).take 4):Nat)from by rw[IntKind.wrap_u32];omega];refine go 1 ?_;refine bl fun F=> ?_;refine cg 0 (s0V F 1 (bs (s.take 60)) (by rw[b0H];simp[maxLen];omega)) ?_;rw[show((Crc.crc (s.take 60)).toNat:Int)=(g0G (s.take 60):Nat)from rfl];refine go 3 ?_;refine a0O rfl (fun k=> ?_) (fun k=> ?_)
 ·refine go 1 ?_;refine c0A rfl Hb.o rfl (c0M 11) gSp ?_;refine ns ?_;refine pn ?_;exact b0W (h1D (k2T (by simp at z;omega) (by have h:=k;simp at h;omega))) idh gSp
 ·have A:be ((s.drop 60).take 4)=g0G (s.take 60):=by have h:=k;simp at h;omega
  refine go 5 ?_;refine a0U rfl Hb.o rfl (m1H w ((s.drop 60).drop 4)) gSp (fun u t3 f=> ?_) (fun e t f=>by refine pn ?_;exact kx ((by obtain⟨H,rfl⟩:=q1L f;exact h1D (k2U (by simp at z;omega) A (fun e=>H (List.eq_nil_of_length_eq_zero (by simp;omega)))))));refine ns ?_;refine go 3 ?_;have H:=congrArg List.length (v1V f);have I:s.length=64:=by simp at H z;omega
  have v:=k2V A I;have E:(s.take 60).length=60:=by simp;omega
  generalize j:s.take 60=T at v E ⊢;refine ce 2 (z0G (bs T)) ?_;rintro d _;refine ns ?_;refine go 5 ?_;by_cases b:T.take 1= [78]
  ·refine cg 2 (u0N d T 1 (by omega) (by omega)) ?_;refine a0D (i0M rfl rfl) ?_;refine go 1 ?_;refine b0Z (d0H rfl) (wg rfl rfl rfl (wFF (by rw[show(⟨#[78]⟩:ByteArray)=bs [78]from rfl,c0G,c0G,b];rfl))) ?_;refine o0V (wg rfl rfl rfl (wFF (by rw[show(⟨#[78]⟩:ByteArray)=bs [78]from rfl,c0G,c0G,b];rfl))) ?_;refine cg 0 (a1W d (T.drop 1) 1 (by omega) (by simp;omega) (by simp;omega)) ?_;refine b0Z (k1R Tsn.o Tin.o rfl) (wg rfl rfl rfl (wFF (by rw[show(⟨#[78]⟩:ByteArray)=bs [78]from rfl,c0G,c0G,b];rfl))) ?_;rw[show IntKind.i64.wrap ((be ((T.drop 1).take 1):Nat):Int)=(be ((T.drop 1).take 1):Nat)from e0P _ _ (by omega) (by have:=v2D (T.drop 1);simp only[IntKind.bits];omega)];refine b0Z (d0H rfl) (wg rfl rfl rfl (wFF (by rw[show(⟨#[78]⟩:ByteArray)=bs [78]from rfl,c0G,c0G,b];rfl))) ?_;refine b0Z (s2G rfl rfl) (wg rfl rfl rfl (wFF (by rw[show(⟨#[78]⟩:ByteArray)=bs [78]from rfl,c0G,c0G,b];rfl))) ?_;refine a0D (h0H rfl (by rw[show(⟨#[78]⟩:ByteArray)=bs [78]from rfl,c0G,c0G,b];rfl) rfl) ?_;refine go 2 ?_;refine a0O rfl (fun m=> ?_) (fun m=> ?_)
   ·refine go 1 ?_;refine c0A rfl Hb.o rfl (c0M 1) gSp ?_;refine ns ?_;refine pn ?_;exact b0W (k2X (by rw[j];exact v) (by rw[j];exact b) (by rw[j];have h:=m;simp only[bne_iff_ne,ne_eq]at h;omega)) idh gSp
   ·have D:be ((T.drop 1).take 1)=l:=by have h:=m;simp only[bne_eq_false_iff_eq]at h;omega
    have K:=l0I 2 8 ((T.drop 1).drop 1);have q:((g0Y 2 8 ((T.drop 1).drop 1)).map fun n:Nat=>a0H n).length=8:=by rw[List.length_map,K]
    refine go 5 ?_;refine a0D (s0P (cs:=a0H l::(List.replicate 8 (a0H 0)++List.replicate 32 (Value.int .u8 0))) Pl.o rfl (by rfl)) ?_;refine al fun N=> ?_;refine a0M Sz.o rfl rfl (by rfl) (by simp[a0H,Value.oneCell']) (by simp[Value.cells]) (a0N (by rfl)) ?_;refine go 9 ?_;refine a0V (X:= {i:Nat // i≤8}) (fun y=> [(4,ptr M),(5,ptr d),(7,ptr N),(38,.int .i64 y.1)]) (fun y=> [pts N (.cells (m0N [a0H l] ((g0Y 2 8 ((T.drop 1).drop 1)).map fun n:Nat=>a0H n) 8 (a0H 0) y.1 (List.replicate 32 (Value.int .u8 0))).toArray 182 (0,0)),q0Z d (((T.drop 1).drop 1).drop (2*y.1)),pts M (.cells (a0H 0::(List.replicate 8 (a0H 0)++List.replicate 32 (Value.int .u8 0))).toArray 182 (0,0)),R]) (fun y=>8-y.1) ⟨0,by omega⟩ gSu gSp ?_;rintro⟨i,hi⟩ m0 hm0
    try simp only at hm0
    try dsimp only
    skip;refine go 6 ?_;refine a0O rfl (fun p=> ?_) (fun p=> ?_)
    ·have C:i<8:=by have:=of_decide_eq_true p;omega
     have J:i<(g0Y 2 8 ((T.drop 1).drop 1)).length:=by omega
     refine cg 13 (a1W d (((T.drop 1).drop 1).drop (2*i)) 2 (by omega) (by simp;omega) (by simp;omega)) ?_;refine go 1 ?_;have V:=c2E (((T.drop 1).drop 1).drop (2*i));rw[show IntKind.i64.wrap ((be ((((T.drop 1).drop 1).drop (2*i)).take 2):Nat):Int)=(be ((((T.drop 1).drop 1).drop (2*i)).take 2):Nat)from e0P _ _ (by omega) (by simp only[IntKind.bits];omega)];refine go 2 ?_;refine d0T Sz.o rfl rfl rfl (by rw[y0O q (by omega)];simp;omega) (y0N q C (by simp) (by rw[List.getElem?_map,List.getElem?_eq_getElem J,y0M];rfl)) ?_;refine go 1 ?_;rw[z0J 2 i];refine go 5 ?_;exact rd idh (⟨i+1,C⟩)
    ·obtain rfl:i=8:=by have:=of_decide_eq_false p;omega
     rw[v0W q,List.drop_drop,List.drop_drop];rw[List.drop_drop]at q;refine go 3 ?_;refine mx (.r 0 3 (.hard 3 (.hard 4 .done))) [] ?_;refine go 1 ?_;refine d0A rfl (b1Q Tar.o rfl) ?_;refine cg 2 (u0N d (T.drop (1+(1+2*8))) 32 (by simp;omega) (by simp;omega)) ?_;refine go 3 ?_;refine l1B Tsl.o rfl rfl (by rw[b0H];simp[l0I];omega) (k2Y (n:=32) (by rw[q]) (by simp) (by simp;omega) rfl) ?_;refine go 7 ?_;refine a0U rfl Hb.o rfl (m1G d ((T.drop (1+(1+2*8))).drop 32) (by simp;omega)) gSp (fun u6 t6 f=> ?_) (fun e t f=>by refine pn ?_;exact kx ((by obtain⟨Q,rfl⟩:=q1M f;exact p2Y (by rw[j];exact v) (by rw[j];exact b) (by rw[j];exact D) (by rw[j,show(50:Nat)=1+(1+2*8)+32 from rfl,←List.drop_drop];exact Q))));refine ns ?_;refine go 3 ?_;have P:=v1W f;rw[List.drop_drop]at P;have g: ∀L:B,L.length=32→(a0H l::(((g0Y 2 8 (T.drop (1+1))).map fun n:Nat=>a0H n)++L.map a0Q)).toArray.size=41:=fun L Y=>by simp[l0I,Y]
     have c:((T.drop (1+(1+2*8))).take 32).length=32:=by simp;omega
     generalize S:(T.drop (1+(1+2*8))).take 32=U at c ⊢;refine go 1 ?_;refine a0D (a0K Ag.o rfl (by rw[g U c];omega) (a0I (g U c))) ?_;refine a0M Sz.o rfl rfl (g U c) (fun x O=>by simp at O;rcases O with rfl| ⟨_,_,rfl⟩| ⟨_,_,rfl⟩<;>rfl) (by rw[g U c];simp) (a0N (by rw[g U c];simp)) ?_;refine go 2 ?_;refine k0A (y2B (by rw[j];exact v) (by rw[j];exact b) (by rw[j];exact D) (by rw[j,show(50:Nat)=1+(1+2*8)+32 from rfl];exact P)) idh (RV.agg Ag.o rfl (by rw[g U c];omega) (a0I (g U c)) RV.nil) ?_ gSp;show Value.agg _=Value.agg _;rw[j,show(18:Nat)=1+(1+2*8)from rfl,S,show(1+1:Nat)=2 from rfl];simp[ndL,List.map_map,Function.comp_def]
  ·refine cg 2 (u0N d T 1 (by omega) (by omega)) ?_;refine a0D (i0M rfl rfl) ?_;refine go 1 ?_;refine c0D rfl (wg rfl rfl rfl (wFT (by rw[show(⟨#[78]⟩:ByteArray)=bs [78]from rfl,c0G,c0G];simp[b]))) ?_;refine c0D rfl (wg rfl rfl rfl (wFT (by rw[show(⟨#[78]⟩:ByteArray)=bs [78]from rfl,c0G,c0G];simp[b]))) ?_;refine c0D rfl (wg rfl rfl rfl (wFT (by rw[show(⟨#[78]⟩:ByteArray)=bs [78]from rfl,c0G,c0G];simp[b]))) ?_;refine c0D rfl (wg rfl rfl rfl (wFT (by rw[show(⟨#[78]⟩:ByteArray)=bs [78]from rfl,c0G,c0G];simp[b]))) ?_;refine c0D rfl (wg rfl rfl rfl (wFT (by rw[show(⟨#[78]⟩:ByteArray)=bs [78]from rfl,c0G,c0G];simp[b]))) ?_;refine a0D (h0V rfl (by rw[show(⟨#[78]⟩:ByteArray)=bs [78]from rfl,c0G,c0G];simp[b]) rfl) ?_;refine go 4 ?_;refine c0A rfl Hb.o rfl (c0M 1) gSp ?_;refine ns ?_;refine pn ?_;exact b0W (v2C (by rw[j];exact v) (by rw[j];exact b)) idh gSp
theorem f2T (l:Int) (x:Nd) (h:o0T x):a0G prog 242 #[ndV l x] [] (a0T (.bool (decide (x.kids=e0L))) []):=by
 obtain⟨b,hu⟩:=h;unfold ndV;have c1:(x.kids.map a0H).length=8:=by simp[b]
 have c3:(x.sum.map a0Q).length=32:=by simp[hu]
 refine en func242 ntmps242 fun R w0=> ?_;refine go 2 ?_;refine bx fun c=> ?_;refine go 6 ?_;refine a0D (a0K Ag.o rfl (by simp[ndL,c1,c3]) (d0Y (a:= [a0H l]) rfl c1)) ?_;refine a0D (r0M (cs:=e0L.map a0H) Tar.o Zr.o rfl (by rfl)) ?_;refine a0D (i2Z (X:=x.kids) (Y:=e0L) (k:= .i64) F.ea180 rfl rfl b rfl) ?_;refine go 3 ?_;exact rG
theorem q1Q (l:Nat) (e:l<3):a0G prog 194 #[.int .i64 l] [] (a0T (.int .i64 (8^(l+1):Nat)) []):=by
 have c:min (max (l:Int) 0) 2=l:=by omega
 refine en func194 ntmps194 fun R w0=> ?_;refine go 16 ?_;rw[c];refine go 4 ?_;refine a0V (X:= {i:Nat // i≤l}) (fun y=> [(3,.int .i64 (8^(y.1+1):Nat)),(6,.int .i64 l),(7,.int .i64 y.1)]) (fun y=> [R]) (fun y=>l-y.1) ⟨0,by omega⟩ gSu gSp ?_;rintro⟨i,hi⟩ m0 hm0
 try simp only at hm0
 try dsimp only
 skip;refine go 6 ?_;refine a0O rfl (fun a=> ?_) (fun a=> ?_)
 ·have b:i<l:=by have:=of_decide_eq_true a;omega
  obtain⟨q,d⟩: ∃q,q=8^(i+1):=⟨_,rfl⟩;have f:q≤512:=by rw[d];exact Nat.pow_le_pow_right (n:=8) (j:=3) (by decide) (by omega)
  rw[←d];refine go 9 ?_;rw[show((q:Nat):Int)*8=((8^(i+1+1):Nat):Int)from by rw[Nat.pow_succ 8 (i+1),←d];omega];refine go 5 ?_;exact rd idh (⟨i+1,b⟩)
 ·obtain rfl:i=l:=by have:=of_decide_eq_false a;omega
  refine go 8 ?_;exact rG
theorem q1R (l at_:Nat) (e:l<3) (i:at_<1000000):a0G prog 161 #[.int .i64 l,.int .i64 at_] [] (a0T (.tuple #[.int .i64 (b0Q l at_).1,.int .i64 (b0Q l at_).2]) []):=by
 have c:=q1Q l e;obtain⟨p,b⟩: ∃p,p=8^l:=⟨_,rfl⟩;have f:0<p:=by rw[b];exact Nat.pow_pos (by decide)
 have g:p≤64:=by rw[b];exact Nat.pow_le_pow_right (n:=8) (j:=2) (by decide) (by omega)
 rw[Nat.pow_succ,←b]at c;simp only[b0Q];rw[←b];obtain⟨q,a⟩: ∃q,q=at_/p:=⟨_,rfl⟩;have d:q≤at_:=by rw[a];exact Nat.div_le_self _ _
 have h:((at_:Int)/ (p:Int))=(q:Int):=by rw[a];simp
 rw[←a];refine en func161 ntmps161 fun R w0=> ?_;refine cg 9 (c) ?_;refine go 1 ?_;rw[show((p*8:Nat):Int)/8=(p:Int)from by omega];refine go 8 ?_;rw[h];refine go 8 ?_;exact rG (hu:=(by simp))
theorem m0V (x:BitVec 32) (k:Nat) (c:1≤k) (h:k<32):a0G prog 295 #[w32 x,.int .i64 (-(k:Int))] [] (a0T (w32 (x.rotateRight k)) []):=by
 have a:bits .and .u64 (IntKind.u64.wrap (-(k:Int))) 31=((32-k:Nat):Int):=by
  rw[s1Q];simp only[IntKind.wrap,IntKind.bits,IntKind.signed,Bool.false_and,Bool.false_eq_true,if_false];omega
 have b:IntKind.u64.wrap (32- ((32-k:Nat):Int))=(k:Int):=by
  simp only[IntKind.wrap,IntKind.bits,IntKind.signed,Bool.false_and,Bool.false_eq_true,if_false];omega
 rw[←i2V x k h];refine en func295 ntmps295 fun R w0=> ?_;refine go 9 ?_;refine a0D (o0O rfl rfl) ?_;rw[a];refine go 7 ?_;refine a0D (l1G rfl rfl (by omega)) ?_;refine go 2 ?_;refine a0D (k1O rfl rfl) ?_;rw[b];refine a0D (l1F rfl rfl (by omega)) ?_;refine a0D (s1C rfl rfl) ?_;refine go 3 ?_;exact rG
abbrev wsL (l:List (BitVec 32)):List Value:=l.map w32
theorem w4 (a b c d:BitVec 32):((((0:BitVec 32) <<< 8 ||| a) <<< 8 ||| b) <<< 8 ||| c) <<< 8 ||| d=a <<< 24 ||| b <<< 16 ||| c <<< 8 ||| d:=by
 simp only[BitVec.shiftLeft_or_distrib,←BitVec.shiftLeft_add];simp
theorem z2V (a b c d:UInt8) (r:List UInt8):Sha.n1Z (a::b::c::d::r)=a.toBitVec.setWidth 32 <<< 24 ||| b.toBitVec.setWidth 32 <<< 16 ||| c.toBitVec.setWidth 32 <<< 8 ||| d.toBitVec.setWidth 32:=by
 rw[←w4];rfl
theorem v2E (l:B) (i:Nat) (h:4*i+3<l.length):
 ((l[4*i]'(by omega)).toBitVec.setWidth 32 <<< 24 ||| (l[4*i+1]'(by omega)).toBitVec.setWidth 32 <<< 16 ||| (l[4*i+2]'(by omega)).toBitVec.setWidth 32 <<< 8 ||| (l[4*i+3]'h).toBitVec.setWidth 32:BitVec 32)=Sha.n1Z (l.drop (4*i)):=by
 have k:l[4*i]'(by omega)=(l.drop (4*i))[0]'(by simp;omega):=by rw[List.getElem_drop];rfl
 have m:l[4*i+1]'(by omega)=(l.drop (4*i))[1]'(by simp;omega):=by rw[List.getElem_drop]
 have n:l[4*i+2]'(by omega)=(l.drop (4*i))[2]'(by simp;omega):=by rw[List.getElem_drop]
 have o:l[4*i+3]'h=(l.drop (4*i))[3]'(by simp;omega):=by rw[List.getElem_drop]
 have p:4≤(l.drop (4*i)).length:=by simp;omega
 obtain⟨a,b,c,d,r,e⟩: ∃a b c d r,l.drop (4*i)=a::b::c::d::r:=by
  match h:l.drop (4*i),p with
  |a::b::c::d::r,_=>exact⟨a,b,c,d,r,rfl⟩
 have e0:l[4*i]'(by omega)=a:=by rw[k];simp[e]
 have f:l[4*i+1]'(by omega)=b:=by rw[m];simp[e]
 have g:l[4*i+2]'(by omega)=c:=by rw[n];simp[e]
 have j:l[4*i+3]'h=d:=by rw[o];simp[e]
 rw[e0,f,g,j,e,z2V]
theorem c1V {cur:List Value} {o:Nat} {bl:B} (h:(cur.drop o).take 64=bl.map a0Q) (d:bl.length=64) {j k:Nat} (b:j<64) (c:k=o+j):nth cur k=some (a0Q (bl[j]'(by omega))):=by
 subst c;rw[e0F];have a:((cur.drop o).take 64)[j]? =(bl.map a0Q)[j]? :=by rw[h]
 rw[List.getElem?_take_of_lt b,List.getElem?_drop,List.getElem?_map,List.getElem?_eq_getElem (l:=bl) (by omega)]at a;exact a
theorem s0J: ∀(n:Nat) (w:List Sha.W),(Sha.more n w).length=w.length+n
 |0,_=>rfl
 |n+1,w=>by unfold Sha.more;rw[s0J n];simp;omega
theorem q1S: ∀(n:Nat) (w:List Sha.W),Sha.more (n+1) w=Sha.more n w++ [Sha.b1T (Sha.more n w)]
 |0,_=>rfl
 |n+1,w=>by
  show Sha.more (n+1) (w++ [Sha.b1T w])=_;rw[q1S n];rfl
theorem a1B (b:B):(Sha.f0S b).length=16:=by simp[Sha.f0S]
theorem a1Y {l:List Sha.W} {rest:List Value} {j k:Nat} (a:j<l.length) (b:k=j):nth (l.map w32++rest) k=some (w32 (Sha.at_ l j)):=by
 subst b;rw[e0F,List.getElem?_append_left (by simpa using a),List.getElem?_map,List.getElem?_eq_getElem a];unfold Sha.at_;rw[List.getD_eq_getElem?_getD,List.getElem?_eq_getElem a];rfl
theorem p2Z {l:List (BitVec 32)} {x:BitVec 32} {z:Value} {n k:Nat} (a:k=l.length) (b:0<n):(wsL l++List.replicate n z).set k (w32 x)=wsL (l++ [x])++List.replicate (n-1) z:=by
 subst a;obtain⟨m,rfl⟩: ∃m,n=m+1:=⟨n-1,by omega⟩;rw[List.set_append_right _ _ (by simp),List.replicate_succ];simp
theorem z1J (g o n cap:Nat) (cur:List Value) (e:TypeId) (fr:Nat×Nat) (bl:B) (v:64≤n) (t:n≤9000000000000000000) (hb:(cur.drop o).take 64=bl.map a0Q) (p:bl.length=64):
 a0G prog 294 #[.slice (some ⟨g,o,none⟩) n cap] [pts g (.cells cur.toArray e fr)] (a0T (.agg (wsL (Sha.k0U bl)).toArray) [pts g (.cells cur.toArray e fr)]):=by
 have k:(wsL (Sha.f0S bl)).length=16:=by simp[a1B]
 have u:=s0J;refine en func294 ntmps294 fun R w0=> ?_;refine go 2 ?_;refine al fun l=> ?_;refine go 4 ?_;refine al fun m=> ?_;refine go 9 ?_;refine a0V (X:= {i:Nat // i≤16}) (fun y=> [(0,.slice (some ⟨g,o,none⟩) n cap),(2,ptr l),(3,ptr m),(10,.int .i64 y.1)]) (fun y=> [pts m (.cells (m0N [] (wsL (Sha.f0S bl)) 16 (w32 0) y.1 (List.replicate 48 (w32 0))).toArray 343 (0,0)),pts l (.cells (List.replicate 64 (w32 0)).toArray 343 (0,0)),pts g (.cells cur.toArray e fr),R]) (fun y=>16-y.1) ⟨0,by omega⟩ gSu gSp ?_;rintro⟨i,hi⟩ m0 hm0
 try simp only at hm0
 try dsimp only
 skip;refine go 6 ?_;refine a0O rfl (fun b=> ?_) (fun b=> ?_)
 ·have d:i<16:=by have:=of_decide_eq_true b;omega
  have r:=v2E bl i (by omega);refine go 10 ?_;refine tl 34 ?_;refine go 5 ?_;refine b0V (b0N Sc.o rfl (c1V (j:=4*i) hb p (by omega) (by omega))) ?_;refine b0V (g1N Tsn.o Tin.o rfl) ?_;refine b0V (l1G (n:=24) rfl rfl (by decide)) ?_;refine go 5 ?_;refine b0V (b0N Sc.o rfl (c1V (j:=4*i+1) hb p (by omega) (by omega))) ?_;refine b0V (g1N Tsn.o Tin.o rfl) ?_;refine b0V (l1G (n:=16) rfl rfl (by decide)) ?_;refine b0V (s1C rfl rfl) ?_;refine go 5 ?_;refine b0V (b0N Sc.o rfl (c1V (j:=4*i+2) hb p (by omega) (by omega))) ?_;refine b0V (g1N Tsn.o Tin.o rfl) ?_;refine b0V (l1G (n:=8) rfl rfl (by decide)) ?_;refine b0V (s1C rfl rfl) ?_;refine go 5 ?_;refine b0V (b0N Sc.o rfl (c1V (j:=4*i+3) hb p (by omega) (by omega))) ?_;refine b0V (g1N Tsn.o Tin.o rfl) ?_;refine b0V (s1C rfl rfl) ?_;refine go 1 ?_;rw[r];refine go 1 ?_;refine d0T Sz.o rfl rfl rfl (by rw[y0O k (by omega)];simp;omega) (y0N k d (by simp) (by simp[Sha.f0S,d])) ?_;refine go 6 ?_;exact rd idh (⟨i+1,d⟩)
 ·obtain rfl:i=16:=by have:=of_decide_eq_false b;omega
  rw[v0W k,List.nil_append];refine go 9 ?_;refine a0V (X:= {i:Nat // i≤48}) (fun y=> [(0,.slice (some ⟨g,o,none⟩) n cap),(2,ptr l),(3,ptr m),(5,.int .i64 (16+y.1:Nat))]) (fun y=> [pts m (.cells (wsL (Sha.more y.1 (Sha.f0S bl))++List.replicate (48-y.1) (w32 0)).toArray 343 (0,0)),pts l (.cells (List.replicate 64 (w32 0)).toArray 343 (0,0)),pts g (.cells cur.toArray e fr),R]) (fun y=>48-y.1) ⟨0,by omega⟩ gSu gSp ?_;rintro⟨i,hi⟩ m2 hm2
  try simp only at hm2
  try dsimp only
  have h:(Sha.more i (Sha.f0S bl)).length=16+i:=by rw[s0J,a1B]
  have f:=q1S i (Sha.f0S bl);generalize q:Sha.more i (Sha.f0S bl)=W at h f ⊢;refine go 7 ?_;refine a0O rfl (fun c=> ?_) (fun c=> ?_)
  ·have d:i<48:=by have:=of_decide_eq_true c;omega
   refine go 9 ?_;refine b0V (b0N Sc.o rfl (a1Y (j:=W.length-15) (by omega) (by omega))) ?_;refine go 3 ?_;refine b0V (b0N Sc.o rfl (a1Y (j:=W.length-2) (by omega) (by omega))) ?_;refine cg 7 (m0V (Sha.at_ W (W.length-15)) 7 (by omega) (by omega)) ?_;refine cg 1 (m0V (Sha.at_ W (W.length-15)) 18 (by omega) (by omega)) ?_;refine a0D (q0Q rfl rfl) ?_;refine go 1 ?_;refine a0D (l1F (n:=3) rfl rfl (by decide)) ?_;refine a0D (q0Q rfl rfl) ?_;refine cg 6 (m0V (Sha.at_ W (W.length-2)) 17 (by omega) (by omega)) ?_;refine cg 1 (m0V (Sha.at_ W (W.length-2)) 19 (by omega) (by omega)) ?_;refine a0D (q0Q rfl rfl) ?_;refine go 1 ?_;refine a0D (l1F (n:=10) rfl rfl (by decide)) ?_;refine a0D (q0Q rfl rfl) ?_;refine go 3 ?_;refine tl 14 ?_;refine go 4 ?_;refine b0V (b0N Sc.o rfl (a1Y (j:=W.length-16) (by omega) (by omega))) ?_;refine go 1 ?_;refine b0V (q0R rfl rfl) ?_;refine go 3 ?_;refine b0V (b0N Sc.o rfl (a1Y (j:=W.length-7) (by omega) (by omega))) ?_;refine b0V (q0R rfl rfl) ?_;refine go 1 ?_;refine b0V (q0R rfl rfl) ?_;refine go 1 ?_;rw[show Sha.at_ W (W.length-16)+((Sha.at_ W (W.length-15)).rotateRight 7 ^^^ (Sha.at_ W (W.length-15)).rotateRight 18 ^^^ (Sha.at_ W (W.length-15)) >>> 3)+Sha.at_ W (W.length-7)+((Sha.at_ W (W.length-2)).rotateRight 17 ^^^ (Sha.at_ W (W.length-2)).rotateRight 19 ^^^ (Sha.at_ W (W.length-2)) >>> 10)=Sha.b1T W from rfl];refine go 1 ?_;refine d0T Sz.o rfl rfl rfl (by rw[Nat.blt_eq];simp[h];omega) (p2Z (by rw[h];omega) (by omega)) ?_;refine go 1 ?_;rw[←f,show 48-i-1=48- (i+1)from by omega];refine go 6 ?_;rw[show((16+i:Nat):Int)+1=((16+(i+1):Nat):Int)from by omega];exact rd idh (⟨i+1,d⟩)
  ·obtain rfl:i=48:=by have:=of_decide_eq_false c;omega
   have a:(wsL W).toArray.size=64:=by simp[h]
   rw[Nat.sub_self,List.replicate_zero,List.append_nil];refine go 4 ?_;refine a0D (a0K Ag.o rfl (by rw[a];omega) (a0I a)) ?_;refine a0M Sz.o rfl rfl a (fun x s=>by simp at s;obtain⟨_,_,rfl⟩:=s;rfl) (by rw[a];simp) (a0N (by rw[a];simp)) ?_;refine go 2 ?_;refine q0L idh (RV.agg Ag.o rfl (by rw[a];omega) (a0I a) RV.nil) (by rw[←q];rfl) gSp
def i0L (W : World) : Prop := Lib.TabIs prog W "stereobate/sha.rounds" .u32 (Sha.e0N.map fun x => (x.toNat : Int))
theorem rdG : prog.globalNamed "stereobate/sha.rounds" = some 1 := by kernel_rfl
theorem y2C {W : World} (h : i0L W) : W.var? prog "stereobate/sha.rounds" = some (wsL Sha.e0N).toArray := by
 have a : W.var? prog "stereobate/sha.rounds" = _ := h
 rw[a,List.map_map];rfl
abbrev shP (b:Nat) (h:List (BitVec 32)) (wait:Value) (n:Nat):a0E:=pts b (.cells (wsL h++ [wait,.int .u64 n]).toArray 308 (0,0))
theorem q1T (w v:List Sha.W) (h:v.length=8) (i:Nat):(Sha.j0U w v i).length=8:=by cases i with
 |zero=>exact h
 |succ i=>rfl
theorem j0Q {l:List Sha.W} {j k:Nat} (a:j<l.length) (b:k=j):nth (wsL l) k=some (w32 (Sha.at_ l j)):=by
 have:=a1Y (rest:= []) a b
 rwa [List.append_nil]at this
def t0X (h V:List Sha.W) (j:Nat):List Sha.W:=(List.zipWith (· + ·) h V).take j++h.drop j
theorem f1K {h V:List Sha.W} (a:h.length=8) (b:V.length=8) {j:Nat} (c:j≤8):(t0X h V j).length=8:=by unfold t0X;simp[a,b];omega
theorem q2A {h V:List Sha.W} (a:h.length=8) (b:V.length=8) {j:Nat} (c:j<8):Sha.at_ (t0X h V j) j=Sha.at_ h j:=by
 unfold t0X Sha.at_;rw[List.getD_eq_getElem?_getD,List.getD_eq_getElem?_getD,List.getElem?_append_right (by simp[a,b];omega)];simp[a,b,show min j 8=j by omega]
theorem k2Z {h V:List Sha.W} {rest:List Value} (a:h.length=8) (c:V.length=8) {j k:Nat} (b:j<8) (d:k=j):(wsL (t0X h V j)++rest).set k (w32 (Sha.at_ h j+Sha.at_ V j))=wsL (t0X h V (j+1))++rest:=by
 subst d;rw[List.set_append_left _ _ (by simp[f1K a c (Nat.le_of_lt b),b]),←List.map_set];congr 2;unfold t0X;have e:((List.zipWith (· + ·) h V).take k).length=k:=by simp[a,c];omega
 have f:(List.zipWith (· + ·) h V)[k]? =some (Sha.at_ h k+Sha.at_ V k):=by
  unfold Sha.at_;rw[List.getD_eq_getElem?_getD,List.getD_eq_getElem?_getD,List.getElem?_zipWith,List.getElem?_eq_getElem (by omega),List.getElem?_eq_getElem (by omega)];rfl
 rw[List.set_append_right _ _ (by omega),e,Nat.sub_self,List.drop_eq_getElem_cons (by omega),List.set_cons_zero,List.take_succ,f];simp
set_option maxRecDepth 4000 in
theorem q2B (W:World) (H:i0L W) (b:Nat) (h:List (BitVec 32)) (m:h.length=8) (f:Value) (z:Nat) (g o n cap:Nat) (cur:List Value) (e:TypeId) (fr:Nat×Nat) (bl:B) (J:64≤n) (C:n≤9000000000000000000) (hb:(cur.drop o).take 64=bl.map a0Q) (I:bl.length=64):
 a0G prog 281 #[ptr b,.slice (some ⟨g,o,none⟩) n cap] [shP b h f z,pts g (.cells cur.toArray e fr),whole W] (a0T (.tuple #[]) [shP b (Sha.mix h bl) f z,pts g (.cells cur.toArray e fr),whole W]):=by
 have F:(wsL h).length=8:=by simp[m]
 have E:(Sha.k0U bl).length=64:=by unfold Sha.k0U;rw[s0J,a1B]
 have s:(wsL (Sha.k0U bl)).toArray.size=64:=by simp[E]
 have D:(wsL Sha.e0N).toArray.size=64:=by rfl
 refine en func281 ntmps281 fun R w0=> ?_;refine cg 3 (z1J g o n cap cur e fr bl J C hb I) ?_;refine al fun A=> ?_;refine a0M Sz.o rfl rfl s (fun x u=>by simp at u;obtain⟨_,_,rfl⟩:=u;rfl) (by rw[s];simp[Value.cells]) (a0N (by rw[s];rfl)) ?_;refine go 7 ?_;refine a0D (a0K Ag.o rfl (by simp[m]) (d0Y (a:= []) (b:=wsL h) (c:= [f,.int .u64 z]) rfl F)) ?_;refine al fun v=> ?_;refine a0M Sz.o rfl rfl (by simp[m]) (fun x u=>by simp at u;obtain⟨_,_,rfl⟩:=u;rfl) (by simp[m,Value.cells]) (a0N (by simp[m,Value.cells])) ?_;refine go 5 ?_;refine a0D (i2W Ag.o rfl gFd rdG (y2C H) D) ?_;refine go 4 ?_;refine a0V (X:= {i:Nat // i≤64}) (fun y=> [(0,ptr b),(4,ptr A),(5,ptr v),(19,.agg (wsL Sha.e0N).toArray),(20,.int .i64 y.1)]) (fun y=> [pts v (.cells (wsL (Sha.j0U (Sha.k0U bl) h y.1)).toArray 306 (0,0)),pts A (.cells (wsL (Sha.k0U bl)).toArray 343 (0,0)),shP b h f z,pts g (.cells cur.toArray e fr),whole W,R]) (fun y=>64-y.1) ⟨0,by omega⟩ gSu gSp ?_;rintro⟨i,hi⟩ m0 hm0
 try simp only at hm0
 try dsimp only
 have d:=q1T (Sha.k0U bl) h m i;have q:Sha.j0U (Sha.k0U bl) h (i+1)=Sha.rnd (Sha.j0U (Sha.k0U bl) h i) (Sha.at_ Sha.e0N i) (Sha.at_ (Sha.k0U bl) i):=rfl;generalize G:Sha.j0U (Sha.k0U bl) h i=V at d q ⊢;refine go 6 ?_;refine a0O rfl (fun p=> ?_) (fun p=> ?_)
 ·have w:i<64:=by have:=of_decide_eq_true p;omega
  refine go 7 ?_;refine a0D (o0P Tar.o Sc.o rfl rfl (by omega) (j0Q (l:=Sha.e0N) (j:=i) (by exact w) (by omega))) ?_;refine go 7 ?_;refine a0D (b0N Sc.o rfl (j0Q (l:=V) (j:=4) (by omega) rfl)) ?_;refine go 4 ?_;refine mx (.r 0 9 (.soft 10 (.soft 13 (.r 17 10 (.hard 9 (.hard 11 (.soft 12 (.hard 14 (.r 15 2 (.r 27 2 .done)))))))))) [pts v (.cells (wsL V).toArray 306 (0,0)),pts A (.cells (wsL (Sha.k0U bl)).toArray 343 (0,0))] ?_;refine go 1 ?_;refine d0A rfl (b0N Sc.o rfl (j0Q (l:=V) (j:=7) (by omega) rfl)) ?_;refine go 1 ?_;refine d0A rfl (q0R rfl rfl) ?_;refine go 2 ?_;refine d0A rfl (b0N Sc.o rfl (j0Q (l:=Sha.k0U bl) (j:=i) (by omega) (by omega))) ?_;refine d0A rfl (q0R rfl rfl) ?_;refine go 5 ?_;refine d0A rfl (b0N Sc.o rfl (j0Q (l:=V) (j:=5) (by omega) rfl)) ?_;refine d0A rfl (e1E rfl rfl) ?_;refine go 1 ?_;refine d0A rfl (x2I rfl) ?_;refine go 1 ?_;refine d0A rfl (b0N Sc.o rfl (j0Q (l:=V) (j:=6) (by omega) rfl)) ?_;refine d0A rfl (e1E rfl rfl) ?_;refine d0A rfl (q0Q rfl rfl) ?_;refine cg 1 (m0V (Sha.at_ V 4) 6 (by omega) (by omega)) ?_;refine cg 3 (m0V (Sha.at_ V 4) 11 (by omega) (by omega)) ?_;refine go 2 ?_;refine d0A rfl (q0Q rfl rfl) ?_;refine cg 1 (m0V (Sha.at_ V 4) 25 (by omega) (by omega)) ?_;refine go 2 ?_;refine d0A rfl (q0Q rfl rfl) ?_;refine d0A rfl (q0R rfl rfl) ?_;refine d0A rfl (q0R rfl rfl) ?_;refine go 6 ?_;refine a0D (b0N Sc.o rfl (j0Q (l:=V) (j:=0) (by omega) rfl)) ?_;refine go 4 ?_;refine mx (.soft 0 (.soft 2 (.soft 5 (.r 8 15 (.hard 1 (.hard 3 (.soft 4 (.hard 6 (.soft 7 (.r 23 2 .done)))))))))) [pts v (.cells (wsL V).toArray 306 (0,0))] ?_;refine go 5 ?_;refine d0A rfl (b0N Sc.o rfl (j0Q (l:=V) (j:=1) (by omega) rfl)) ?_;refine d0A rfl (e1E rfl rfl) ?_;refine go 2 ?_;refine d0A rfl (b0N Sc.o rfl (j0Q (l:=V) (j:=2) (by omega) rfl)) ?_;refine d0A rfl (e1E rfl rfl) ?_;refine d0A rfl (q0Q rfl rfl) ?_;refine go 1 ?_;refine d0A rfl (b0N Sc.o rfl (j0Q (l:=V) (j:=1) (by omega) rfl)) ?_;refine go 1 ?_;refine d0A rfl (b0N Sc.o rfl (j0Q (l:=V) (j:=2) (by omega) rfl)) ?_;refine d0A rfl (e1E rfl rfl) ?_;refine d0A rfl (q0Q rfl rfl) ?_;refine cg 1 (m0V (Sha.at_ V 0) 2 (by omega) (by omega)) ?_;refine cg 3 (m0V (Sha.at_ V 0) 13 (by omega) (by omega)) ?_;refine go 2 ?_;refine d0A rfl (q0Q rfl rfl) ?_;refine cg 1 (m0V (Sha.at_ V 0) 22 (by omega) (by omega)) ?_;refine go 2 ?_;refine d0A rfl (q0Q rfl rfl) ?_;refine d0A rfl (q0R rfl rfl) ?_;refine go 6 ?_;refine a0D (q0R rfl rfl) ?_;refine go 1 ?_;refine a0D (b0N Sc.o rfl (j0Q (l:=V) (j:=0) (by omega) rfl)) ?_;refine go 1 ?_;refine a0D (b0N Sc.o rfl (j0Q (l:=V) (j:=1) (by omega) rfl)) ?_;refine go 1 ?_;refine a0D (b0N Sc.o rfl (j0Q (l:=V) (j:=2) (by omega) rfl)) ?_;refine go 1 ?_;refine a0D (b0N Sc.o rfl (j0Q (l:=V) (j:=3) (by omega) rfl)) ?_;refine go 1 ?_;refine a0D (q0R rfl rfl) ?_;refine go 1 ?_;refine a0D (b0N Sc.o rfl (j0Q (l:=V) (j:=4) (by omega) rfl)) ?_;refine go 1 ?_;refine a0D (b0N Sc.o rfl (j0Q (l:=V) (j:=5) (by omega) rfl)) ?_;refine go 1 ?_;refine a0D (b0N Sc.o rfl (j0Q (l:=V) (j:=6) (by omega) rfl)) ?_;refine a0D (r0M (cs:=wsL (Sha.rnd V (Sha.at_ Sha.e0N i) (Sha.at_ (Sha.k0U bl) i))) Tar.o Zr.o rfl (by rfl)) ?_;refine a0M Sz.o rfl rfl (by rfl) (fun x u=>by simp at u;obtain⟨_,_,rfl⟩:=u;rfl) (by simp[d,b2G]) (a0N (by simp[d,b2G])) ?_;refine go 1 ?_;rw[←q];refine go 5 ?_;exact rd idh (⟨i+1,w⟩)
 ·obtain rfl:i=64:=by have:=of_decide_eq_false p;omega
  refine go 8 ?_;refine a0V (X:= {j:Nat // j≤8}) (fun y=> [(0,ptr b),(5,ptr v),(101,.int .i64 y.1)]) (fun y=> [shP b (t0X h V y.1) f z,pts v (.cells (wsL V).toArray 306 (0,0)),pts g (.cells cur.toArray e fr),whole W,R]) (fun y=>8-y.1) ⟨0,by omega⟩ gSu gSp ?_;rintro⟨j,hj⟩ m2 hm2
  try simp only at hm2
  try dsimp only
  skip;refine go 6 ?_;refine a0O rfl (fun k=> ?_) (fun k=> ?_)
  ·have t:j<8:=by have:=of_decide_eq_true k;omega
   refine go 10 ?_;refine tl 12 ?_;refine go 5 ?_;refine b0V (b0N Sc.o rfl (a1Y (l:=t0X h V j) (j:=j) (by rw[f1K m d hj];exact t) (by omega))) ?_;refine go 2 ?_;refine b0V (b0N Sc.o rfl (j0Q (l:=V) (j:=j) (by omega) (by omega))) ?_;refine b0V (q0R rfl rfl) ?_;refine go 4 ?_;rw[q2A m d t];refine d0T Sz.o rfl rfl rfl (by rw[Nat.blt_eq];simp[f1K m d hj];omega) (k2Z m d t (by omega)) ?_;refine go 6 ?_;exact rd idh (⟨j+1,t⟩)
  ·obtain rfl:j=8:=by have:=of_decide_eq_false k;omega
   refine go 1 ?_;have K:t0X h V 8=Sha.mix h bl:=by unfold t0X Sha.mix;rw[List.drop_eq_nil_of_le (by omega),List.append_nil,List.take_of_length_le (by simp[m,d]),G]
   rw[K];exact d0Q rfl rfl gSp
end Go.Proofs.Q
namespace Go.Proofs.YtpinhnikemamjaaGreatDoor
open Go.Proofs.Q
open Go.ChangeShapes Go.WideShapes Go.ChangeAt Go.RowKit Go.Sl
theorem v2F : Tryz.prog.globalNamed "stereobate/sha.rounds" = some 1 := by kernel_rfl
theorem y2D {W:World} {r:List (String×DataW Unit)}
 (h : laidMet Tryz.prog (("stereobate/sha.rounds", Rows.laid_stereobate_sha_rounds) :: r) W) (_ : W.ShapedOpen Tryz.prog) : i0L W :=
 Lib.tabIs_of_head (n:=64) (e:=47) (t:=343) v2F (by kernel_rfl) Tryz.underlying343 Tryz.underlying47 (by kernel_rfl) (by kernel_rfl) h
theorem y2E {H:Type} {enc:TypeId×Value→H} {a:Assume} {C:Checked} {os:Os} {f:FuncId} {fn:Func} {s:ChangeSpec} {k:List PathCond} {b l d again:Bool} {L:List (String×DataW Unit)}
 (own:ownKnob C.prog.godebug=none) (m:os.Started) (o:C.prog.inits.idxOf? f=none) (u:C.prog.funcs[f]? =some fn)
 (n: ∃(w:World) (tape:Tape) (i:Input),w.os=os∧(w.forCall tape i).Shaped C.prog∧i.vars= []∧Input.okWide C.prog (w.forCall tape i) .any w.heap.size f i∧
  ((s.pre enc C.prog fn k b (w.forCall tape i).memory i.args∧laidMetH C.prog L (w.forCall tape i).memory)∧sizedMet enc C.prog fn (OpenSpec.ofChange s) b (w.forCall tape i).memory i.args)∧a.holds C.prog (lone (Frame.enter C.prog f i.args .normal) [] (w.forCall tape i)))
 (k1M: ∀(W:World) (base:Nat) (args:Array Value) (ds r:List (DataW H)) (c:List MemPlace),
  (∀(j:Nat) t v,fn.params[j]? =some t→args[j]? =some v→Value.okWide C.prog W .any base t v)→DataW.Whole enc C.prog fn.params.toList s.vars b W args.toList ds r c→
  W.ShapedOpen C.prog→laidMetH C.prog L W→Calls C.prog f args W fun e B=> ∃v,e= .returned v∧s.post enc C.prog fn b l d again W args v B):
 ReturnsInHanded a C os f .any (fun w args=>(s.pre enc C.prog fn k b w args∧laidMetH C.prog L w)∧sizedMet enc C.prog fn (OpenSpec.ofChange s) b w args) (s.post enc C.prog fn b l d again):=by
 refine returnsInHanded_of_calls own m o n fun w tape i _ y _ x p _=> ?_;obtain⟨_,_,_,g,D,_,_,_,_,q⟩:=x;cases Option.some.inj (D.symm.trans u)
 obtain⟨⟨⟨ds,r,c,F,_⟩,G⟩,_⟩:=p;have z:DataW.Whole enc C.prog fn.params.toList s.vars b (w.forCall tape i) i.args.toList ds r c:=DataW.Whole.of_heap (by rfl) F;have A:laidMetH C.prog L (w.forCall tape i):=laidMetH.of_heap (w:=(w.forCall tape i).memory) (by rfl) G;refine(k1M (w.forCall tape i) w.heap.size i.args ds r c q z y A).mono fun e B h=> ?_;obtain⟨v,rfl,E⟩:=h;exact ChangeSpec.post_blind E
end Go.Proofs.YtpinhnikemamjaaGreatDoor
namespace Go.Proofs.Q
open Go Go.Sl Tryz
instance:Ag prog 24 5:=⟨kr⟩
instance:Fl prog 24 0 0:=⟨kr⟩
instance:Fl prog 24 4 4:=⟨kr⟩
instance:Fl prog 34 0 0:=⟨kr⟩
instance:Fl prog 37 0 0:=⟨kr⟩
instance:Fl prog 37 1 1:=⟨kr⟩
instance:Fl prog 59 0 0:=⟨kr⟩
instance:Hb prog 10:=⟨kr⟩
instance:Hb prog 11:=⟨kr⟩
instance:Hb prog 12:=⟨kr⟩
instance:Hb prog 16:=⟨kr⟩
instance:Hb prog 17:=⟨kr⟩
instance:Hb prog 18:=⟨kr⟩
instance:Sc prog 32:=⟨kr⟩
instance:Sc prog 35:=⟨kr⟩
instance:Tsl prog 22 24 5:=⟨kr⟩
instance:Tsl prog 32 42 6:=⟨kr⟩
instance:Sz prog 24 5:=⟨kr⟩
instance:Zr prog 24 (.agg #[.int .i64 0,.int .i64 0,.int .i64 0,.int .i64 0,.string ByteArray.empty]):=⟨kr⟩
instance:Ag prog 42 6:=⟨kr⟩
theorem F.fk50:Sl.n1S prog 50=some [0,0,2,0,0,0]:=by kernel_rfl
instance:Fl prog 34 1 1:=⟨kr⟩
instance:Fl prog 42 0 0:=⟨kr⟩
instance:Hb prog 15:=⟨kr⟩
instance:Hb prog 20:=⟨kr⟩
instance:Hb prog 33:=⟨kr⟩
instance:Hb prog 37:=⟨kr⟩
instance:Hb prog 50:=⟨kr⟩
instance:Hb prog 54:=⟨kr⟩
instance:Hb prog 55:=⟨kr⟩
instance:Hb prog 56:=⟨kr⟩
instance:Sc prog 26:=⟨kr⟩
instance:Sz prog 42 6:=⟨kr⟩
instance:Zr prog 42 (.agg #[.int .i64 0,.int .i64 0,.bool false,.int .i64 0,.int .i64 0,.slice none 0 0]):=⟨kr⟩
instance:Ag prog 34 4:=⟨kr⟩
theorem F.bo4:(match prog.underlying 4 with|some .bool=>true|_=>false)=true:=by kernel_rfl
instance:Fl prog 42 1 1:=⟨kr⟩
instance:Fl prog 42 2 2:=⟨kr⟩
instance:Fl prog 42 3 3:=⟨kr⟩
instance:Fl prog 42 4 4:=⟨kr⟩
instance:Fl prog 42 5 5:=⟨kr⟩
instance:Fl prog 50 1 1:=⟨kr⟩
instance:Fl prog 50 2 2:=⟨kr⟩
instance:Fl prog 50 3 3:=⟨kr⟩
instance:Fl prog 50 5 5:=⟨kr⟩
instance:Hb prog 109:=⟨kr⟩
instance:Hb prog 13:=⟨kr⟩
instance:Hb prog 19:=⟨kr⟩
instance:Hb prog 46:=⟨kr⟩
instance:Sc prog 40:=⟨kr⟩
instance:Hb prog 31:=⟨kr⟩
instance:Hb prog 32:=⟨kr⟩
instance:Hb prog 41:=⟨kr⟩
instance:Pl prog 34 ([(0,1),(1,1),(2,1),(3,1)],.agg #[.slice none 0 0,.int .i64 0,.int .i64 0,.int .i64 0]):=⟨kr⟩
instance:Pl prog 37 ([(0,1),(1,4)],.agg #[.pointer none,.slice none 0 0,.int .i64 0,.int .i64 0,.int .i64 0]):=⟨kr⟩
theorem F.pt35:Sl.g1G prog 35=true:=by kernel_rfl
theorem F.pt55:Sl.g1G prog 55=true:=by kernel_rfl
theorem F.pt56:Sl.g1G prog 56=true:=by kernel_rfl
instance:Hb prog 35:=⟨kr⟩
instance:Sz prog 26 1:=⟨kr⟩
instance:Sz prog 35 1:=⟨kr⟩
instance:Zr prog 26 (.pointer none):=⟨kr⟩
instance:Zr prog 35 (.pointer none):=⟨kr⟩
instance:Hb prog 36:=⟨kr⟩
instance:Hb prog 114:=⟨kr⟩
instance:Hb prog 241:=⟨kr⟩
end Go.Proofs.Q
namespace Go.Proofs.Q
open Go.Sl Go.Sb Tryz
theorem r0R: ∀(n:Nat) (h:List Sha.W) (b:B),Sha.f0J (n+1) h b=Sha.mix (Sha.f0J n h b) ((b.drop (64*n)).take 64)
 |0,h,b=>rfl
 |n+1,h,b=>by
  show Sha.f0J (n+1) (Sha.mix h (b.take 64)) (b.drop 64)=_;rw[r0R n,List.drop_drop];show _=Sha.mix (Sha.f0J n (Sha.mix h (b.take 64)) (b.drop 64)) _;rw[Nat.mul_succ,Nat.add_comm (64*n)]
theorem m0S: ∀(n:Nat) (h:List Sha.W) (b:B),h.length=8→(Sha.f0J n h b).length=8
 |0,_,_,hh=>hh
 |n+1,h,b,hh=>m0S n _ _ (by unfold Sha.mix;rw[List.length_zipWith,q1T _ _ hh,hh];rfl)
abbrev m1I (v:Value) (l:B):a0E:=w0D 5 1 v l.length (l.map a0Q)
theorem a1Z {h:List Sha.W} {v u:Value} (a:h.length=8):nth (wsL h++ [v,u]) 8=some v:=by
 rw[e0F,List.getElem?_append_right (by simp[a])];simp[a]
theorem c2F {h:List Sha.W} {v u:Value} (a:h.length=8):nth (wsL h++ [v,u]) 9=some u:=by
 rw[e0F,List.getElem?_append_right (by simp[a])];simp[a]
theorem c2G {h:List Sha.W} {v u x:Value} (a:h.length=8):(wsL h++ [v,u]).set 8 x=wsL h++ [x,u]:=by
 rw[List.set_append_right _ _ (by simp[a])];simp[a]
theorem v2G {h:List Sha.W} {v u x:Value} (a:h.length=8):(wsL h++ [v,u]).set 9 x=wsL h++ [v,x]:=by
 rw[List.set_append_right _ _ (by simp[a])];simp[a]
theorem q2C {g o cap:Nat} {cur:List Value} {a:B} {w:World} {L:List a0E} (h:Sat w (pts g (.cells cur.toArray 5 (0,0))::L)) (b:a.length≤cap) (c:cap≤maxLen) (d:o+cap*1≤cur.length)
 (e:(cur.drop o).take (a.length*1)=a.map a0Q) (f:64≤a.length):Sat w (m1I (.slice (b1L (some ⟨g,o,none⟩) 64 cap 1) (a.drop 64).length (cap-64)) (a.drop 64)::L):=by
 have:=o2E h b c d e f
 rwa [←List.map_drop,show a.length-64=(a.drop 64).length by simp]at this
set_option maxRecDepth 4000 in
theorem q2D (W:World) (I:i0L W) (b:Nat) (h:List (BitVec 32)) (e:h.length=8) (v:Value) (P:v.oneCell'=true) (m:Nat) (n l:B) (O:n.length<64) (K:l.length≤1000000) (L:m≤1000000000):
 a0G prog 247 #[ptr b,b0C l] [shP b h v m,m1I v n,whole W]
  (b0P (fun p:Value=>p.oneCell'=true) (fun _=> .tuple #[]) fun p=> [shP b (Sha.f0J ((n++l).length/64) h (n++l)) p (m+l.length),m1I p ((n++l).drop (64*((n++l).length/64))),whole W]):=by
 have N:(bs l).data.toList.length=l.length:=by simp
 have t:byteCells (bs l)=l.map a0Q:=by simp[byteCells,a0Q]
 refine en func247 ntmps247 fun R w0=> ?_;refine go 5 ?_;refine a0D (b0N Sc.o rfl (c2F e)) ?_;refine go 3 ?_;rw[b0H,q0Y (l.length:Int) l.length rfl (by omega)];refine a0D (g1D rfl rfl) ?_;rw[q0Y ((m:Int)+(l.length:Int)) (m+l.length) (by omega) (by omega)];refine go 2 ?_;refine d0T Sz.o rfl rfl rfl (by rw[Nat.blt_eq];simp[e]) (v2G e) ?_;refine go 8 ?_;refine a0D (b0N Sc.o rfl (a1Z e)) ?_;refine go 1 ?_;refine(d2X Tsl.o Ttb.o Zr.o rfl rfl rfl gFd (n1Q Tst.o) (by rw[b0H];simp only[maxLen];omega) (by rw[b0H];omega) (fun E j=> ?_));rw[t,b0H,←List.map_append,←List.length_append];refine go 2 ?_;refine d0T Sz.o rfl rfl j (by rw[Nat.blt_eq];simp[e]) (c2G e) ?_;refine go 1 ?_;generalize q:n++l=al;refine go 2 ?_;refine a0V (X:= {y:Nat×Value // y.1≤al.length/64∧y.2.oneCell'=true}) (fun y=> [(0,ptr b)]) (fun y=> [shP b (Sha.f0J y.1.1 h al) y.1.2 (m+l.length),m1I y.1.2 (al.drop (64*y.1.1)),whole W,R]) (fun y=>al.length/64-y.1.1) ⟨(0,E),by omega,j⟩ gSu gSp ?_;rintro⟨⟨i,p⟩,hi,hv'⟩ m0 hm0
 try simp only at hm0
 try dsimp only
 simp only at hi hv';have f:=m0S i h al e;have a:=r0R i h al;have A:(al.drop (64*i)).length=al.length-64*i:=by simp
 have J:al.length≤1000100:=by rw[←q,List.length_append];omega
 generalize G:Sha.f0J i h al=H at f a ⊢;generalize F:al.drop (64*i)=dl at A a ⊢;refine go 6 ?_;refine a0D (b0N Sc.o rfl (a1Z f)) ?_;refine a0D (l1C Tsl.o rfl gFd) ?_;refine go 3 ?_;refine a0O rfl (fun c=> ?_) (fun c=> ?_)
 ·have d:64≤dl.length:=by have:=of_decide_eq_true c;omega
  have C:i<al.length/64:=by omega
  refine go 4 ?_;refine t2K gFd (by omega) fun g o cap cur D u x z s=> ?_;refine go 1 ?_;subst D;refine go 4 ?_;refine a0D (b0N Sc.o rfl (a1Z f)) ?_;refine a0D (i1Q Tsl.o rfl rfl (by omega)) ?_;have r:(cur.drop o).take 64=(dl.take 64).map a0Q:=by rw[List.map_take,←s,Nat.mul_one,List.take_take,Nat.min_eq_left d]
  refine b0X rfl Hb.o rfl (q2B W I b H f _ (m+l.length) g o 64 cap cur 5 (0,0) (dl.take 64) (by omega) (by omega) r (by simp;omega)) gSp ?_;refine ns ?_;refine go 1 ?_;rw[←a];refine go 6 ?_;refine a0D (b0N Sc.o rfl (a1Z (m0S _ _ _ e))) ?_;refine a0D (s1U Tsl.o rfl rfl (by omega) (by omega)) ?_;rw[show Int.toNat 64=64 from rfl,show dl.length-64=(dl.drop 64).length by simp];refine go 2 ?_;refine d0T Sz.o rfl rfl rfl (by rw[Nat.blt_eq];simp[m0S _ _ _ e]) (c2G (m0S _ _ _ e)) ?_;refine go 1 ?_;have k:al.drop (64*(i+1))=dl.drop 64:=by rw[←F,z0J]
  refine b0F (fun w M=>q2C ((show Fnd _ (pts g _) _ from gFd).sat M) u x z s d) ?_;rw[←k];exact rd idh (⟨(i+1,.slice (b1L (some ⟨g,o,none⟩) 64 cap 1) (al.drop (64*(i+1))).length (cap-64)),C,rfl⟩)
 ·have d: ¬64≤dl.length:=by have:=of_decide_eq_false c;omega
  obtain rfl:i=al.length/64:=by omega
  refine go 1 ?_;rw[←G,←F];exact fE p hv'
theorem q1U: ∀(j k:Nat) (h:List Sha.W) (b:B),Sha.f0J (k+j) h b=Sha.f0J j (Sha.f0J k h b) (b.drop (64*k))
 |0,k,h,b=>rfl
 |j+1,k,h,b=>by
  rw[show k+(j+1)=(k+j)+1 by omega,r0R,r0R,q1U j k,List.drop_drop,show 64*k+64*j=64*(k+j) by omega]
theorem h1Y: ∀(k:Nat) (h:List Sha.W) (b c:B),64*k≤b.length→Sha.f0J k h (b++c)=Sha.f0J k h b
 |0,_,_,_,_=>rfl
 |k+1,h,b,c,hl=>by
  rw[r0R,r0R,h1Y k h b c (by omega),List.drop_append_of_le_length (by omega),List.take_append_of_le_length (by simp;omega)]
abbrev stA (b:Nat) (v:Value) (al:B):List a0E:= [shP b (Sha.f0J (al.length/64) Sha.start al) v al.length,m1I v (al.drop (64*(al.length/64)))]
theorem m1J (W:World) (j:i0L W) (b:Nat) (v:Value) (m:v.oneCell'=true) (al l:B) (k:al.length≤1000000) (d:l.length≤1000000):
 a0G prog 247 #[ptr b,b0C l] (stA b v al++ [whole W]) (b0P (fun e:Value=>e.oneCell'=true) (fun _=> .tuple #[]) fun e=>stA b e (al++l)++ [whole W]):=by
 have h:=q2D W j b (Sha.f0J (al.length/64) Sha.start al) (m0S _ _ _ rfl) v m al.length (al.drop (64*(al.length/64))) l (by simp;omega) d (by omega);have f:64*(al.length/64)≤al.length:=by omega
 have a:al.drop (64*(al.length/64))++l=(al++l).drop (64*(al.length/64)):=(List.drop_append_of_le_length f).symm;have c:(al.drop (64*(al.length/64))++l).length/64+al.length/64=(al++l).length/64:=by simp;omega
 have g:Sha.f0J ((al.drop (64*(al.length/64))++l).length/64) (Sha.f0J (al.length/64) Sha.start al) (al.drop (64*(al.length/64))++l)=Sha.f0J ((al++l).length/64) Sha.start (al++l):=by
  rw[←c,Nat.add_comm,q1U,h1Y _ _ _ _ f,←a]
 have i:(al.drop (64*(al.length/64))++l).drop (64*((al.drop (64*(al.length/64))++l).length/64))=(al++l).drop (64*((al++l).length/64)):=by
  rw[←c]
  conv=>lhs;rw[a]
  rw[List.drop_drop,Nat.mul_add,Nat.add_comm (64*(al.length/64))];rw[a]
 rw[g,i]at h;rw[show al.length+l.length=(al++l).length by simp]at h;exact h
theorem f2U:a0G prog 246 #[] [] (b0P (fun _:Nat=>True) ptr fun b=> [shP b Sha.start (.slice none 0 0) 0]):=by
 refine en func246 ntmps246 fun R w0=> ?_;refine go 7 ?_;refine a0D (r0M (cs:=wsL Sha.start) Tar.o Zr.o rfl (by rfl)) ?_;refine a0D (s0P (cs:=wsL Sha.start++ [.slice none 0 0,.int .u64 0]) Pl.o rfl (by rfl)) ?_;refine bx fun a=> ?_;refine go 3 ?_;exact rE idh a trivial
theorem m1K {ss:List B} {i:Nat} (h:i<ss.length):(ss.take (i+1)).flatten=(ss.take i).flatten++ss[i]:=by
 rw[List.take_succ,List.getElem?_eq_getElem h,List.flatten_append];simp
theorem v2H {ss:List B} : ∀(i:Nat),(ss.take i).flatten.length≤ss.flatten.length:=fun i=>by
 conv=>rhs;rw[←List.take_append_drop i ss]
 rw[List.flatten_append,List.length_append];omega
end Go.Proofs.Q
