/- Part of the proof; no statement of its own. -/
import Derived.Test.YtpinhnikemamjaaGreatDoorD19
import Derived.Test.YtpinhnikemamjaaGreatDoorD28
import Derived.Test.YtpinhnikemamjaaGreatDoorD29
import Derived.Test.YtpinhnikemamjaaGreatDoorD16
import Derived.Test.YtpinhnikemamjaaGreatDoorProg
import Derived.KernelRfl
import Derived.Test.YtpinhnikemamjaaGreatDoorD08
import Derived.Test.YtpinhnikemamjaaGreatDoorD06
import Derived.Test.YtpinhnikemamjaaGreatDoorD07
import Derived.Test.YtpinhnikemamjaaGreatDoorD17
import Derived.Test.YtpinhnikemamjaaGreatDoorD04
set_option linter.all false
set_option maxRecDepth 4000
set_option maxHeartbeats 4000000
attribute [local irreducible] Go.Sl.a0P Go.Sl.OW Go.Sl.CW Go.Sl.OS Go.Sl.OM Go.Sl.OMf Go.Sl.KM
namespace Go.Proofs.Q
open Go.Sl Go.Sb Tryz
theorem m2E {ss:List B} (h: ∀s∈ss,s.length=32):ss.flatten.length=32*ss.length:=by
 induction ss with
 |nil=>rfl
 |cons s ss ih=>rw[List.flatten_cons,List.length_append,h s List.mem_cons_self,ih fun x a=>h x (List.mem_cons_of_mem _ a),List.length_cons];omega
theorem w1Y {ss:List B} {i:Nat} (h:i<ss.length):(ss.take (i+1)).all (· == a0L 32)=((ss.take i).all (· == a0L 32)&&ss[i] == a0L 32):=by
 rw[List.take_succ,List.getElem?_eq_getElem h,List.all_append];simp
theorem p1C (a:Nat) (x:a<256) (v:Value) (ss:List B) (h: ∀s∈ss,s.length=32) (F:ss.length≤8):
 a0G prog 189 #[.int .i64 a,v] [b0I 9 1 v ss.length (ss.map b0C)] (a0T (b0C (e0H a ss)) [b0I 9 1 v ss.length (ss.map b0C)]):=by
 obtain⟨z,G⟩: ∃z,z=a0L 32:=⟨_,rfl⟩;have n:(UInt8.ofNat a).toNat=a:=by rw[UInt8.toNat_ofNat'];omega
 have A:(a:Int)%256=((UInt8.ofNat a).toNat:Int):=by rw[n];omega
 refine en func189 ntmps189 fun R w0=> ?_;refine n0W (e:=9) gFd fun t g r k _=> ?_;subst r;refine go 14 ?_;rw[A];refine go 1 ?_;rw[show IntKind.u8.wrap ((UInt8.ofNat a).toNat:Int)=((UInt8.ofNat a).toNat:Int) by rw[IntKind.wrap_u8];have:=(UInt8.ofNat a).toNat_lt;omega];refine bl fun u=> ?_;refine a0D (e1C Tsl.o Tst.o Tby.o rfl (l:= [UInt8.ofNat a]) rfl rfl) ?_;refine a0D (h0N rfl rfl (by simp[b0H])) ?_;rw[show(⟨#[78]⟩:ByteArray)=bs [78]from rfl,←h0U];refine go 17 ?_;refine a0V (X:= {i:Nat // i≤ss.length}) (fun y=> [(5,b0C (a0L 32)),(6,b0C ([78,UInt8.ofNat a]++(ss.take y.1).flatten)),(7,.bool ((ss.take y.1).all (· == a0L 32))),(16,.slice t ss.length g),(17,.int .i64 ss.length),(18,.int .i64 y.1)]) (fun y=> [b0I 9 1 (.slice t ss.length g) ss.length (ss.map b0C),R]) (fun y=>ss.length-y.1) ⟨0,Nat.zero_le _⟩ gSu gSp ?_;rintro⟨i,hi⟩ m0 hm0
 try simp only at hm0
 try dsimp only
 skip;refine go 6 ?_;refine a0O rfl (fun d=> ?_) (fun d=> ?_)
 ·have c:i<ss.length:=by have:=of_decide_eq_true d;omega
  refine i0T (e:=9) gFd (by omega) fun D E q w=> ?_;cases q
  have m:=m2E (ss:=ss.take i) fun s C=>h s (List.mem_of_mem_take C);have j:=h _ (List.getElem_mem c);have p:(ss.take i).length=i:=by rw[List.length_take];omega
  refine go 7 ?_;refine a0D (a0X Sc.o rfl gFd (i0E b0C ss i _ c (by omega))) ?_;refine go 7 ?_;refine a0D (h0N rfl rfl (by rw[b0H,b0H,List.length_append,m,j,p];simp;omega)) ?_;rw[←h0U,show [78,UInt8.ofNat a]++(ss.take i).flatten++ss[i]= [78,UInt8.ofNat a]++(ss.take (i+1)).flatten by rw[List.take_succ,List.getElem?_eq_getElem c,List.append_assoc,Option.toList_some,List.flatten_append,List.flatten_singleton]];refine go 3 ?_;by_cases b:(ss.take i).all (· == a0L 32)=true
  ·refine go 5 ?_;refine b0Z (s0O rfl rfl) (wg rfl rfl rfl (wTT b)) ?_;refine go 1 ?_;rw[show((bs ss[i]).toList == (bs (a0L 32)).toList)=(ss.take (i+1)).all (· == a0L 32) by rw[c0G,c0G,w1Y c,b,Bool.true_and]];refine go 7 ?_;exact rd idh (⟨i+1,c⟩)
  ·refine go 3 ?_;refine c0D rfl (wg rfl rfl rfl (wTF (by simpa using b))) ?_;refine c0D rfl (wg rfl rfl rfl (wTF (by simpa using b))) ?_;refine c0D rfl (wg rfl rfl rfl (wTF (by simpa using b))) ?_;refine a0D (h0H rfl (by simpa using b) rfl) ?_;rw[show Value.bool false= .bool ((ss.take (i+1)).all (· == a0L 32)) by rw[w1Y c,show(ss.take i).all (· == a0L 32)=false by simpa using b,Bool.false_and]];refine go 7 ?_;exact rd idh (⟨i+1,c⟩)
 ·obtain rfl:i=ss.length:=by have:=of_decide_eq_false d;omega
  rw[List.take_length];refine go 8 ?_;refine a0O rfl (fun f=> ?_) (fun f=> ?_)
  ·refine go 6 ?_;exact rG (hu:=(by unfold e0H;rw[if_pos f]))
  ·refine go 5 ?_;refine b0X rfl Hb.o rfl (k1E _ (by rw[List.length_append,m2E h];simp;omega)) gSp ?_;refine ns ?_;refine go 3 ?_;exact rG (hu:=(by unfold e0H;rw[if_neg (by rw[f];decide)];rfl))
def q0J (l:Nat):Nat:=8^l
theorem z2Y {l:Nat} (a:l<3):nth [Value.int .i64 1,.int .i64 8,.int .i64 64] l=some (.int .i64 ((q0J l:Nat):Int)):=by
 match l,a with
 |0,_=>rfl
 |1,_=>rfl
 |2,_=>rfl
theorem v2X {l:Nat} (a:l<3):1≤q0J l∧q0J l≤64:=by
 match l,a with
 |0,_=>decide
 |1,_=>decide
 |2,_=>decide
def dgK (m:List Lf):Nat→Nat→B
 |0,f=>p0U m f
 |l+1,f=>if m.any (y0F (q0J (l+1)) f)then dgR m l f else a0L 32
theorem g2R (m:List Lf) (l f:Nat):dgK m (l+1) f=if m.any (y0F (q0J (l+1)) f)then dgR m l f else a0L 32:=rfl
theorem y2L (m:List Lf) (l f:Nat):dgR m l f=e0H l ((List.range 8).map fun k=>dgK m l (f+k*q0J l)):=by
 cases l with
 |zero=>unfold dgR;congr 1
 |succ l=>rfl
theorem g2S (m:List Lf) (f:Nat):(p0U m f).length=32:=by
 rcases c1L f m (a0L 32)with ⟨d,_,h⟩| ⟨_,h⟩
 ·unfold p0U;rw[h];exact p0Z d
 ·unfold p0U;rw[h];rfl
theorem c2Z (m:List Lf) (l f:Nat):(dgR m l f).length=32:=by cases l<;>exact t0M _ _
theorem v2Y (m:List Lf) (l f:Nat):(dgK m l f).length=32:=by
 cases l with
 |zero=>exact g2S m f
 |succ l=>rw[g2R];split;(· exact c2Z _ _ _);rfl
theorem r1G {m:List Lf} {j f:Nat} (h:j<m.length):p0U (m.take (j+1)) f=dgF f (p0U (m.take j) f) m[j]:=by
 unfold p0U;rw[List.take_succ,List.getElem?_eq_getElem h,List.foldl_append];rfl
theorem w1Z {p:Lf→Bool} {m:List Lf} {j:Nat} (h:j<m.length) (b:(m.take j).any p=false) (a:p m[j]=false):(m.take (j+1)).any p=false:=by
 rw[List.take_succ,List.getElem?_eq_getElem h,List.any_append,b];simp[a]
def dgJ (m:List Lf) (l f j:Nat):B:=if l=0 then p0U (m.take j) f else a0L 32
theorem v2Z {m:List Lf} {l f j:Nat} (b:l=0) (a:j<m.length) (c:m[j].1=(f:Int)):Sha.sum m[j].2=dgJ m l f (j+1):=by
 unfold dgJ;rw[if_pos b,r1G a];unfold dgF;rw[if_pos c]
theorem x1A {m:List Lf} {l f j:Nat} (a:j<m.length) (c:l=0→m[j].1≠(f:Int)):dgJ m l f j=dgJ m l f (j+1):=by
 unfold dgJ;split
 ·rename_i b;rw[r1G a];unfold dgF;rw[if_neg (c b)]
 ·rfl
theorem w2A {m:List Lf} {l f j:Nat} (b:l≠0) (a:j<m.length) (c:y0F (q0J l) f m[j]=true):dgR m (l-1) f=dgK m l f:=by
 cases l with
 |zero=>exact absurd rfl b
 |succ l=>rw[g2R,if_pos (List.any_eq_true.2 ⟨_,List.getElem_mem a,c⟩)];rfl
theorem w2B {m:List Lf} {l f:Nat} (h:l≠0→m.any (y0F (q0J l) f)=false):dgJ m l f m.length=dgK m l f:=by
 unfold dgJ;cases l with
 |zero=>rw[if_pos rfl,List.take_length];rfl
 |succ l=>rw[if_neg (by omega),g2R,if_neg (by rw[h (by omega)];decide)]
abbrev b1D (H:b0B) (mv:Value) (m:List Lf) (l:Nat):Prop:= ∀f:Nat,f+8*q0J l≤512→a0G prog 153 #[mv,.int .i64 l,.int .i64 f] [c0B H] (a0T (b0C (dgR m l f)) [c0B H])
theorem f1V (H:b0B) (mv:Value) (m:List Lf) (Z:b1C H mv m) (F:m0R m) (l:Nat) (W:l<3) (G: ∀k,l=k+1→b1D H mv m k):b1D H mv m l:=by
 intro f hf;obtain⟨p,cap,rfl,T⟩:=d0W Z;have hml:=F.len;obtain⟨O,I⟩:=v2X W;have K:=z2Y W;have J:l≠0→8*q0J (l-1)=q0J l:=fun h=>by cases l with|zero=>exact absurd rfl h|succ l=>show 8*8^l=8^(l+1);rw[Nat.pow_succ];omega
 have i:l=0→q0J l=1:=fun h=>by subst h;rfl
 rw[y2L];obtain⟨sp,r⟩: ∃sp,sp=q0J l:=⟨_,rfl⟩;rw[←r]at O I K J i hf ⊢;refine en func153 ntmps153 fun R w0=> ?_;refine go 7 ?_;refine bl fun b13=> ?_;refine go 2 ?_;refine a0D (b0N Sc.o rfl (by rw[Nat.zero_add,Int.toNat_natCast,Nat.mul_one];exact K)) ?_;refine go 5 ?_;refine bl fun L=> ?_;refine go 5 ?_;refine b0U (fun w h=>o0K 1 h) ?_;refine go 5 ?_;refine a0V (X:= {x:Nat×Value // x.1≤8}) (fun y=> [(0,.slice p m.length cap),(1,.int .i64 l),(2,.int .i64 f),(7,.int .i64 (sp:Nat)),(8,y.1.2),(9,.int .i64 y.1.1)]) (fun y=> [b0I 9 1 y.1.2 y.1.1 (((List.range y.1.1).map fun k=>dgK m l (f+k*sp)).map b0C),c0B H,R]) (fun y=>8-y.1.1) ⟨(0,.slice (some ⟨L,0,none⟩) 0 0),Nat.zero_le 8⟩ gSu gSp ?_;rintro⟨⟨k,v⟩,hk8⟩ m0 hm0
 try simp only at hm0
 try dsimp only
 simp only at hk8;refine go 7 ?_;refine a0O rfl (fun t=> ?_) (fun t=> ?_)
 ·have N:k<8:=by have:=of_decide_eq_true t;omega
  obtain⟨g,U⟩: ∃g,g=f+k*sp:=⟨_,rfl⟩;obtain⟨A,d⟩: ∃A,A=k*sp:=⟨_,rfl⟩;have V:A≤7*sp:=by rw[d];exact Nat.mul_le_mul_right _ (by omega)
  have q:((k:Nat):Int)*((sp:Nat):Int)=((A:Nat):Int):=by rw[d];push_cast;rfl
  rw[←d]at U;refine go 9 ?_;refine j0D (X:= {z:B // z=dgK m l g}) (fun z=> [(0,.slice p m.length cap),(1,.int .i64 l),(2,.int .i64 f),(7,.int .i64 (sp:Nat)),(8,v),(9,.int .i64 k),(10,b0C z.1)]) (fun z=> [b0I 9 1 v k (((List.range k).map fun k=>dgK m l (f+k*sp)).map b0C),c0B H,R]) ?_ ?_
  ·refine go 8 ?_;refine a0V (X:= {y:Nat×B // y.1≤m.length∧y.2=dgJ m l g y.1∧(l≠0→(m.take y.1).any (y0F (q0J l) g)=false)}) (fun y=> [(0,.slice p m.length cap),(1,.int .i64 l),(2,.int .i64 f),(7,.int .i64 (sp:Nat)),(8,v),(9,.int .i64 k),(10,b0C y.1.2),(22,.slice p m.length cap),(23,.int .i64 m.length),(24,.int .i64 y.1.1)]) (fun y=> [b0I 9 1 v k (((List.range k).map fun k=>dgK m l (f+k*sp)).map b0C),c0B H,R]) (fun y=>m.length-y.1.1) ⟨(0,a0L 32),Nat.zero_le _,by(show a0L 32=dgJ m l g 0);unfold dgJ;split<;>rfl,fun _=>rfl⟩ gSu gSp ?_;rintro⟨⟨j,s⟩,hj,C,hno⟩ m2 hm2
   try simp only at hm2
   try dsimp only
   simp only at hj C hno;refine go 6 ?_;refine a0O rfl (fun u=> ?_) (fun u=> ?_)
   ·have c:j<m.length:=by have:=of_decide_eq_true u;omega
    obtain⟨b,o,S,cur,hv,hc,E,D,Y⟩:=g0V Z (by omega);cases hv
    have M:(cur.drop (o+j*2)).take 2=lfC m[j]:=(i0I D c).trans (p0J (f:=lfC) (size:=2) (fun _=>rfl) m c);obtain⟨P,hx5,hxl⟩:=F.in_ _ (List.getElem_mem c);have hq1:0≤m[j].1/ ((sp:Nat):Int)*((sp:Nat):Int):=Int.mul_nonneg (Int.ediv_nonneg P (by omega)) (by omega);have hq2:m[j].1/ ((sp:Nat):Int)*((sp:Nat):Int)≤m[j].1:=Int.ediv_mul_le _ (by omega);refine go 7 ?_;refine a0D (f0A (vs:=lfC m[j]) Ag.o rfl gFd E M rfl (by decide)) ?_;refine al fun b12=> ?_;refine go 5 ?_;by_cases a:l=0
    ·by_cases n:m[j].1=((g:Nat):Int)
     ·refine go 11 ?_;rw[q];refine go 1 ?_;rw[show((f:Nat):Int)+((A:Nat):Int)=((g:Nat):Int) by omega];refine go 1 ?_;rw[show((sp:Nat):Int)=((1:Nat):Int) by rw[i a],show m[j].1/ ((1:Nat):Int)*((1:Nat):Int)=m[j].1 by simp];refine go 1 ?_;refine b0Z (d0H rfl) (wg rfl rfl rfl (wTT (by simpa using n))) ?_;refine b0Z (k1Q rfl rfl) (wg rfl rfl rfl (wTT (by simpa using n))) ?_;refine a0D (h0V rfl (by simpa using n) rfl) ?_;refine go 14 ?_;refine b0Z (d0H rfl) (wg rfl rfl rfl (wTT (by rw[n];have:=i a;rw[this,Nat.mul_one]at d;simp;omega))) ?_;refine b0Z (b1F rfl rfl) (wg rfl rfl rfl (wTT (by rw[n];have:=i a;rw[this,Nat.mul_one]at d;simp;omega))) ?_;refine a0D (h0V rfl (by rw[n];have:=i a;rw[this,Nat.mul_one]at d;simp;omega) rfl) ?_;refine cg 6 (k1E m[j].2 (by omega)) ?_;refine go 7 ?_;exact rd idh (⟨(j+1,Sha.sum m[j].2),c,v2Z a c n,fun h=>absurd a h⟩)
     ·refine go 11 ?_;rw[q];refine go 1 ?_;rw[show((f:Nat):Int)+((A:Nat):Int)=((g:Nat):Int) by omega];refine go 1 ?_;rw[show((sp:Nat):Int)=((1:Nat):Int) by rw[i a],show m[j].1/ ((1:Nat):Int)*((1:Nat):Int)=m[j].1 by simp];refine go 1 ?_;refine c0D rfl (wg rfl rfl rfl (wTF (by simpa using n))) ?_;refine c0D rfl (wg rfl rfl rfl (wTF (by simpa using n))) ?_;refine a0D (h0H rfl (by simpa using n) rfl) ?_;refine go 14 ?_;refine c0D rfl (wg rfl rfl rfl (wTF (by have:=i a;rw[this,Nat.mul_one]at d;simp;omega))) ?_;refine c0D rfl (wg rfl rfl rfl (wTF (by have:=i a;rw[this,Nat.mul_one]at d;simp;omega))) ?_;refine a0D (h0H rfl (by have:=i a;rw[this,Nat.mul_one]at d;simp;omega) rfl) ?_;refine go 9 ?_;exact rd idh (⟨(j+1,s),c,by(show s=_);rw[C];exact x1A c fun _=>n,fun h=>absurd a h⟩)
    ·by_cases e:m[j].1/ ((sp:Nat):Int)*((sp:Nat):Int)=((g:Nat):Int)
     ·refine go 11 ?_;rw[q];refine go 1 ?_;rw[show((f:Nat):Int)+((A:Nat):Int)=((g:Nat):Int) by omega];refine go 2 ?_;refine b0Z (d0H rfl) (wg rfl rfl rfl (wTT (by simpa using e))) ?_;refine b0Z (k1Q rfl rfl) (wg rfl rfl rfl (wTT (by simpa using e))) ?_;refine a0D (h0V rfl (by simpa using e) rfl) ?_;refine go 12 ?_;rw[q];refine go 1 ?_;rw[show((f:Nat):Int)+((A:Nat):Int)=((g:Nat):Int) by omega,show((l:Nat):Int)-1=((l-1:Nat):Int) by omega];refine cg 0 (G (l-1) (by omega) g (by have:=J a;omega)) ?_;refine go 4 ?_;exact me idh (⟨_,w2A a c (decide_eq_true (by rw[←r];exact e))⟩)
     ·refine go 11 ?_;rw[q];refine go 1 ?_;rw[show((f:Nat):Int)+((A:Nat):Int)=((g:Nat):Int) by omega];refine go 2 ?_;refine c0D rfl (wg rfl rfl rfl (wTF (by simpa using e))) ?_;refine c0D rfl (wg rfl rfl rfl (wTF (by simpa using e))) ?_;refine a0D (h0H rfl (by simpa using e) rfl) ?_;refine go 6 ?_;by_cases n:m[j].1=((f:Nat):Int)+((k:Nat):Int)
      ·refine go 8 ?_;refine b0Z (d0H rfl) (wg rfl rfl rfl (wTT (by simpa using n))) ?_;refine b0Z (b1F rfl rfl) (wg rfl rfl rfl (wTT (by simpa using n))) ?_;refine a0D (h0V rfl (by simpa using n) rfl) ?_;refine go 9 ?_;exact rd idh (⟨(j+1,s),c,by(show s=_);rw[C];exact x1A c fun h=>absurd h a,fun h=>w1Z c (hno h) (decide_eq_false (by rw[←r];exact e))⟩)
      ·refine go 8 ?_;refine c0D rfl (wg rfl rfl rfl (wTF (by simpa using n))) ?_;refine c0D rfl (wg rfl rfl rfl (wTF (by simpa using n))) ?_;refine a0D (h0H rfl (by simpa using n) rfl) ?_;refine go 9 ?_;exact rd idh (⟨(j+1,s),c,by(show s=_);rw[C];exact x1A c fun h=>absurd h a,fun h=>w1Z c (hno h) (decide_eq_false (by rw[←r];exact e))⟩)
   ·obtain rfl:j=m.length:=by have:=of_decide_eq_false u;omega
    rw[List.take_length]at hno;refine go 1 ?_;exact me idh (⟨s,by rw[C];exact w2B hno⟩)
  rintro⟨z,hz⟩;dsimp only;refine go 3 ?_;refine bl fun b69=> ?_;refine(d0E Tsl.o Ttb.o Zr.o rfl rfl rfl gFd (f0I Tsl.o (by simp;rfl) (by simp) (by simp[Value.oneCell'])) (by simp only[maxLen];omega) (by omega) (fun Q hv70=> ?_));refine go 2 ?_;rw[show((List.range k).map fun k=>dgK m l (f+k*sp)).map b0C++ [b0C z]=((List.range (k+1)).map fun k=>dgK m l (f+k*sp)).map b0C by rw[hz,U,d,List.range_succ,List.map_append,List.map_append];rfl];refine go 6 ?_;exact rd idh (⟨(k+1,Q),N⟩)
 ·obtain rfl:k=8:=by have:=of_decide_eq_false t;omega
  refine go 6 ?_;refine b0X rfl Hb.o rfl ((by have h:=p1C l (by omega) v ((List.range 8).map fun k=>dgK m l (f+k*sp)) (fun s C=>by obtain⟨k,_,rfl⟩:=List.mem_map.1 C;exact v2Y _ _ _) (by simp);rw[List.length_map,List.length_range]at h;exact h)) gSp ?_;refine ns ?_;refine go 3 ?_;exact rG
theorem a2A (H:b0B) (mv:Value) (m:List Lf) (b:b1C H mv m) (a:m0R m):a0G prog 109 #[mv] [c0B H] (a0T (b0C (dgR m 2 0)) [c0B H]):=by
 have c:b1D H mv m 0:=f1V H mv m b a 0 (by decide) fun k h=>by omega
 have d:b1D H mv m 1:=f1V H mv m b a 1 (by decide) fun k h=>(by obtain rfl:k=0:=(by omega);exact c);have e:b1D H mv m 2:=f1V H mv m b a 2 (by decide) fun k h=>(by obtain rfl:k=1:=(by omega);exact d);refine en func109 ntmps109 fun R w0=> ?_;refine cg 8 (e 0 (by decide)) ?_;refine go 3 ?_;exact rG
end Go.Proofs.Q
namespace Go.Proofs.Q
open Go Go.Sl Tryz
instance:Hb prog 90:=⟨kr⟩
instance:Hb prog 91:=⟨kr⟩
instance:Tsl prog 159 47 1:=⟨kr⟩
instance:Ttb prog 50 40:=⟨kr⟩
instance:Hb prog 134:=⟨kr⟩
instance:Hb prog 135:=⟨kr⟩
instance:Hb prog 155:=⟨kr⟩
instance:Hb prog 156:=⟨kr⟩
instance:Hb prog 178:=⟨kr⟩
instance:Hb prog 179:=⟨kr⟩
instance:Hb prog 180:=⟨kr⟩
instance:Hb prog 190:=⟨kr⟩
instance:Hb prog 210:=⟨kr⟩
instance:Hb prog 157:=⟨kr⟩
instance:Hb prog 136:=⟨kr⟩
instance:Sc prog 159:=⟨kr⟩
instance:Sz prog 159 1:=⟨kr⟩
instance:Ttb prog 47 4:=⟨kr⟩
instance:Hb prog 212:=⟨kr⟩
instance:Hb prog 213:=⟨kr⟩
instance:Hb prog 215:=⟨kr⟩
instance:Hb prog 216:=⟨kr⟩
instance:Hb prog 218:=⟨kr⟩
instance:Hb prog 263:=⟨kr⟩
instance:Hb prog 264:=⟨kr⟩
instance:Tin prog 320 .u64:=⟨kr⟩
instance:Sz prog 320 1:=⟨kr⟩
instance:Tsn prog 166:=⟨kr⟩
instance:Zr prog 320 (.int .u64 0):=⟨kr⟩
instance:Hb prog 220:=⟨kr⟩
instance:Sc prog 320:=⟨kr⟩
instance:Hb prog 266:=⟨kr⟩
instance:Hb prog 288:=⟨kr⟩
instance:Hb prog 267:=⟨kr⟩
end Go.Proofs.Q
namespace Go.Proofs.Q
open Go.Sl Go.Sb Tryz
abbrev u4 (n:Int):Value:= .int .u32 n
abbrev pU (b:Nat):Value:= .pointer (some ⟨b,0,none⟩)
abbrev cI (b:Nat) (n:Int):a0E:=pts b (.cells #[.int .i64 n] 3 (0,0))
abbrev us (xs:List Int):List Value:=xs.map u4
abbrev slU (g n cap:Nat):Value:= .slice (some ⟨g,0,none⟩) n cap
abbrev f0V (g n cap:Nat) (xs:List Int):a0E:=b0I 47 1 (slU g n cap) n (us xs)
theorem d0C {xs:List Int} {i:Nat} {k:Int} (a:k=i) (hi:i<xs.length):nth (us xs) (0+k.toNat*1)=some (u4 (xat xs i)):=by
 subst a;rw[e0F,Int.toNat_natCast,Nat.zero_add,Nat.mul_one,List.getElem?_map,u2J hi];rfl
theorem f0K {xs:List Int} {i:Nat} {k v:Int} (a:k=i):(us xs).set (0+k.toNat*1) (u4 v)=us (xs.set i v):=by
 subst a;rw[Int.toNat_natCast,Nat.zero_add,Nat.mul_one,←List.map_set]
theorem z2Z (x:Int):a0G prog 267 #[u4 x] [] (a0T (.bool false) []):=by
 refine en func267 ntmps267 fun R w0=> ?_;refine go 13 ?_;exact rG (hu:=(by simp))
theorem v0Z (x y:Int):a0G prog 216 #[u4 x,u4 y] [] (a0T (.bool (decide (x<y))) []):=by
 refine en func216 ntmps216 fun R w0=> ?_;refine cg 8 (z2Z x) ?_;refine go 13 ?_;exact rG
theorem k1F (g n cap a b c:Nat) (xs:List Int) (w:Int) (f:xs.length=n) (h:n≤1000) (e:a<n) (hb:b<n) (i:0≤w∧w≤1000):
 a0G prog 288 #[slU g n cap,.int .i64 a,.int .i64 b,pU c] [f0V g n cap xs,cI c w] (b0P (fun y:Nat×Nat×Int=>(y.1=a∧y.2.1=b∨y.1=b∧y.2.1=a)∧w≤y.2.2∧y.2.2≤w+1) (fun y=> .tuple #[.int .i64 y.1,.int .i64 y.2.1]) (fun y=> [f0V g n cap xs,cI c y.2.2])):=by
 refine en func288 ntmps288 fun R w0=> ?_;refine go 8 ?_;refine tl 8 ?_;refine go 3 ?_;refine b0V (a0X Sc.o rfl gFd (d0C rfl (by omega))) ?_;refine go 3 ?_;refine b0V (a0X Sc.o rfl gFd (d0C rfl (by omega))) ?_;refine go 1 ?_;refine b0X rfl Hb.o rfl (v0Z _ _) gSp ?_;refine ns ?_;refine go 2 ?_;refine a0O rfl (fun d=> ?_) (fun d=> ?_)
 ·refine go 18 ?_;exact rE idh (b,a,w+1) ⟨.inr ⟨rfl,rfl⟩,by simp only;omega⟩
 ·refine go 10 ?_;exact rE idh (a,b,w) ⟨.inl ⟨rfl,rfl⟩,by simp only;omega⟩
theorem r2C (g n cap a b c s:Nat) (xs:List Int) (w:Int) (d:xs.length=n) (e:n≤1000) (f:a<n) (hb:b<n) (h:c<n) (i:0≤w∧w≤900):
 a0G prog 266 #[slU g n cap,.int .i64 a,.int .i64 b,.int .i64 c,pU s] [f0V g n cap xs,cI s w] (b0P (fun y:Nat×Int=>(y.1=a∨y.1=b∨y.1=c)∧w≤y.2∧y.2≤w+3) (fun y=> .int .i64 y.1) (fun y=> [f0V g n cap xs,cI s y.2])):=by
 refine en func266 ntmps266 fun R w0=> ?_;refine ce 11 (k1F g n cap a b s xs w d e f hb (by omega)) ?_;rintro⟨a1,b1,w1⟩ ⟨h1,h2,h3⟩;refine ns ?_;refine go 1 ?_;dsimp only at h1 h2 h3 ⊢;refine ce 12 (k1F g n cap b1 c s xs w1 d e (by omega) h (by omega)) ?_;rintro⟨b2,c2,w2⟩ ⟨k1,k2,k3⟩;refine ns ?_;refine go 1 ?_;dsimp only at k1 k2 k3 ⊢;refine ce 12 (k1F g n cap a1 b2 s xs w2 d e (by omega) (by omega) (by omega)) ?_;rintro⟨a3,b3,w3⟩ ⟨j1,j2,j3⟩;refine ns ?_;refine go 1 ?_;dsimp only at j1 j2 j3 ⊢;refine go 12 ?_;exact rE idh (b3,w3) ⟨by simp only;omega,by simp only;omega⟩
theorem w2C (g n cap a b:Nat) (xs:List Int) (h:xs.length=n) (i:n≤16) (f:a+13≤b) (hb:b≤n):
 a0G prog 213 #[slU g n cap,.int .i64 a,.int .i64 b] [f0V g n cap xs] (b0P (fun y:Nat×Int=>(a≤y.1∧y.1<b)∧(y.2=0∨y.2=1)) (fun y=> .tuple #[.int .i64 y.1,.int .i64 y.2]) (fun _=> [f0V g n cap xs])):=by
 obtain⟨l,d⟩: ∃l:Nat,b=a+l:=⟨b-a,by omega⟩;subst d;refine en func213 ntmps213 fun R w0=> ?_;refine go 11 ?_;rw[show((a+l:Nat):Int)- (a:Int)=(l:Int) by omega];refine go 5 ?_;refine al fun e=> ?_;refine go 9 ?_;rw[show(a:Int)+(l:Int)/4*1=((a+l/4*1:Nat):Int) by omega];refine go 10 ?_;rw[show(a:Int)+(l:Int)/4*2=((a+l/4*2:Nat):Int) by omega];refine go 10 ?_;rw[show(a:Int)+(l:Int)/4*3=((a+l/4*3:Nat):Int) by omega];refine ce 26 (r2C g n cap (a+l/4*1) (a+l/4*2) (a+l/4*3) e xs 0 h (by omega) (by omega) (by omega) (by omega) (by omega)) ?_;rintro⟨j,w⟩ ⟨h1,h2,h3⟩;refine ns ?_;dsimp only at h1 h2 h3 ⊢;refine go 15 ?_;refine a0O rfl (fun c=> ?_) (fun c=> ?_)
 ·refine go 7 ?_;exact rE idh (j,1) ⟨by simp only;omega,.inr rfl⟩
 ·refine go 14 ?_;exact rE idh (j,0) ⟨by simp only;omega,.inl rfl⟩
theorem f0L (xs:List Int):(us xs).length=xs.length:=List.length_map ..
theorem r2D (g n cap a b:Nat) (xs:List Int) (A:xs.length=n) (B:n≤1000) (u:a≤b) (hb:b≤n) (m:xs.Nodup):
 a0G prog 210 #[slU g n cap,.int .i64 a,.int .i64 b] [f0V g n cap xs] (b0P (fun ys:List Int=>SP a b xs ys∧Srt a b ys) (fun _=> .tuple #[]) (fun ys=> [f0V g n cap ys])):=by
 refine en func210 ntmps210 fun R w0=> ?_;refine go 6 ?_;rw[show(a:Int)+1=((a+1:Nat):Int) by omega];refine go 2 ?_;refine a0V (X:= {y:Nat×List Int // a+1≤y.1∧(y.1≤b∨y.1=a+1)∧SP a b xs y.2∧Srt a y.1 y.2}) (fun y=> [(0,slU g n cap),(1,.int .i64 a),(2,.int .i64 b),(6,.int .i64 y.1.1)]) (fun y=> [f0V g n cap y.1.2,R]) (fun y=>b+1-y.1.1) ⟨(a+1,xs),Nat.le_refl _,.inr rfl,SP.refl _ _ _,fun i j _ _ _=>by omega⟩ gSu gSp ?_;rintro⟨⟨i,ys⟩,hi,hib,hsp,hs⟩ m0 hm0
 try simp only at hm0
 try dsimp only
 dsimp only at hi hib hsp hs;refine go 8 ?_;refine a0O rfl (fun c=> ?_) (fun c=> ?_)
 ·have e:i<b:=by have:=of_decide_eq_true c;omega
  have w:=hsp.len;refine go 11 ?_;refine a0V (X:= {y:Nat×List Int // SP a b xs y.2∧Ins a i y.1 y.2}) (fun y=> [(0,slU g n cap),(1,.int .i64 a),(2,.int .i64 b),(6,.int .i64 i),(7,.int .i64 y.1.1)]) (fun y=> [f0V g n cap y.1.2,R]) (fun y=>y.1.1) ⟨(i,ys),hsp,Ins.begin hs (by omega)⟩ gSu gSp ?_;rintro⟨⟨j,zs⟩,hz,hins⟩ m2 hm2
  try simp only at hm2
  try dsimp only
  dsimp only at hz hins;have x:=hz.len;have v:=hins.le;refine go 2 ?_;by_cases f:a<j
  ·refine tl 13 ?_;refine go 7 ?_;refine n0H (wg rfl rfl rfl (wTT gT)) (a0X Sc.o rfl gFd (d0C rfl (by omega))) ?_;refine go 4 ?_;refine n0H (wg rfl rfl rfl (wTT gT)) (a0X Sc.o rfl gFd (d0C (i:=j-1) (by omega) (by omega))) ?_;refine go 2 ?_;refine b0X rfl Hb.o rfl (v0Z _ _) gSp ?_;refine ns ?_;refine go 3 ?_;refine a0O rfl (fun d=> ?_) (fun d=> ?_)
   ·have l:=of_decide_eq_true d;refine go 4 ?_;refine mx (.r 0 9 (.r 10 3 (.two 9 (.hard 13 (.soft 14 (.hard 15 (.soft 16 (.hard 17 .done))))) 13 (.hard 9 (.soft 14 (.hard 15 (.soft 16 (.hard 17 .done)))))))) [] ?_;refine go 12 ?_;refine p0R rfl rfl ?_ ?_
    ·refine a0D (a0X Sc.o rfl gFd (d0C (i:=j-1) (by omega) (by omega))) ?_;refine go 3 ?_;refine a0D (a0X Sc.o rfl gFd (d0C rfl (by omega))) ?_;refine go 4 ?_;refine c0H (xs':=us (zs.set j (xat zs (j-1)))) Sz.o rfl rfl rfl gFd (by rw[f0L];omega) (f0K rfl) ?_;refine go 4 ?_;refine c0H (xs':=us (swp zs j (j-1))) Sz.o rfl rfl rfl gFd (by rw[f0L,List.length_set];omega) (f0K (by omega)) ?_;refine go 9 ?_;rw[show(j:Int)-1=((j-1:Nat):Int) by omega];exact rd idh (⟨(j-1,swp zs j (j-1)),hz.trans (SP.swap (by omega) (by omega) (by omega)),hins.step f (by omega) l⟩)
    ·refine a0D (a0X Sc.o rfl gFd (d0C rfl (by omega))) ?_;refine go 3 ?_;refine a0D (a0X Sc.o rfl gFd (d0C (i:=j-1) (by omega) (by omega))) ?_;refine go 4 ?_;refine c0H (xs':=us (zs.set j (xat zs (j-1)))) Sz.o rfl rfl rfl gFd (by rw[f0L];omega) (f0K rfl) ?_;refine go 4 ?_;refine c0H (xs':=us (swp zs j (j-1))) Sz.o rfl rfl rfl gFd (by rw[f0L,List.length_set];omega) (f0K (by omega)) ?_;refine go 9 ?_;rw[show(j:Int)-1=((j-1:Nat):Int) by omega];exact rd idh (⟨(j-1,swp zs j (j-1)),hz.trans (SP.swap (by omega) (by omega) (by omega)),hins.step f (by omega) l⟩)
   ·refine go 1 ?_;have k:Srt a (i+1) zs:=hins.done fun h=>by
     have s:=of_decide_eq_false d;have t:=c1N (hz.nodup m) (show j<zs.length by omega) (show j-1<zs.length by omega) (by omega);omega
    refine go 6 ?_;rw[show(i:Int)+1=((i+1:Nat):Int) by omega];exact rd idh (⟨(i+1,zs),by omega,.inl e,hz,k⟩)
  ·refine tl 13 ?_;refine go 20 ?_;have k:Srt a (i+1) zs:=hins.done fun h=>(f h).elim;refine go 6 ?_;rw[show(i:Int)+1=((i+1:Nat):Int) by omega];exact rd idh (⟨(i+1,zs),by omega,.inl e,hz,k⟩)
 ·refine go 1 ?_;exact fE ys ⟨hsp,fun p q s t z=>hs p q s t (by have:=of_decide_eq_false c;omega)⟩
theorem y2M (g n cap a b p:Nat) (xs:List Int) (T:xs.length=n) (U:n≤1000) (J:a<b) (hb:b≤n) (V:a≤p∧p<b) (C:xs.Nodup):
 a0G prog 218 #[slU g n cap,.int .i64 a,.int .i64 b,.int .i64 p] [f0V g n cap xs] (b0P (fun y:Nat×Bool×List Int=>SP a b xs y.2.2∧Mid a b y.1 y.2.2) (fun y=> .tuple #[.int .i64 y.1,.bool y.2.1]) (fun y=> [f0V g n cap y.2.2])):=by
 refine en func218 ntmps218 fun R w0=> ?_;refine go 6 ?_;refine r0I ([(0,slU g n cap),(1,.int .i64 a),(2,.int .i64 b)]) ([f0V g n cap (swp xs a p),R]) ?_ ?_
 ·refine mx (.r 0 7 (.r 8 3 (.two 7 (.hard 11 (.soft 12 (.hard 13 (.soft 14 (.hard 15 .done))))) 11 (.hard 7 (.soft 12 (.hard 13 (.soft 14 (.hard 15 .done)))))))) [] ?_;refine go 10 ?_;refine p0R rfl rfl ?_ ?_
  ·refine a0D (a0X Sc.o rfl gFd (d0C rfl (by omega))) ?_;refine go 3 ?_;refine a0D (a0X Sc.o rfl gFd (d0C rfl (by omega))) ?_;refine go 4 ?_;refine c0H (xs':=us (xs.set a (xat xs p))) Sz.o rfl rfl rfl gFd (by rw[f0L];omega) (f0K rfl) ?_;refine go 4 ?_;refine c0H (xs':=us (swp xs a p)) Sz.o rfl rfl rfl gFd (by rw[f0L,List.length_set];omega) (f0K rfl) ?_;refine go 3 ?_;exact h0W idh gSu gSp
  ·refine a0D (a0X Sc.o rfl gFd (d0C rfl (by omega))) ?_;refine go 3 ?_;refine a0D (a0X Sc.o rfl gFd (d0C rfl (by omega))) ?_;refine go 4 ?_;refine c0H (xs':=us (xs.set a (xat xs p))) Sz.o rfl rfl rfl gFd (by rw[f0L];omega) (f0K rfl) ?_;refine go 4 ?_;refine c0H (xs':=us (swp xs a p)) Sz.o rfl rfl rfl gFd (by rw[f0L,List.length_set];omega) (f0K rfl) ?_;refine go 3 ?_;exact h0W idh gSu gSp
 refine go 1 ?_;obtain⟨ys,u⟩: ∃ys,swp xs a p=ys:=⟨_,rfl⟩;rw[u];have q:SP a b xs ys:=by rw[←u];exact SP.swap (by omega) (by omega) (by omega)
 clear u;have Q:=q.len;have D:=q.nodup C;refine go 8 ?_;rw[show(a:Int)+1=((a+1:Nat):Int) by omega,show(b:Int)-1=((b-1:Nat):Int) by omega];refine go 1 ?_;refine j0D (X:= {i:Nat // Par a b i (b-1) ys∧(i≤b-1→xat ys a<xat ys i)}) (fun y=> [(0,slU g n cap),(1,.int .i64 a),(10,.int .i64 y.1),(11,.int .i64 ((b-1:Nat):Int))]) (fun y=> [f0V g n cap ys,R]) ?_ ?_
 ·refine go 1 ?_;refine a0V (X:= {i:Nat // Par a b i (b-1) ys}) (fun y=> [(0,slU g n cap),(1,.int .i64 a),(10,.int .i64 y.1),(11,.int .i64 ((b-1:Nat):Int))]) (fun y=> [f0V g n cap ys,R]) (fun y=>b-y.1) ⟨a+1,Par.new J⟩ gSu gSp ?_;rintro⟨i,hpr⟩ m0 hm0
  try simp only at hm0
  try dsimp only
  have z:=hpr.le;refine go 2 ?_;by_cases c:i≤b-1
  ·refine tl 12 ?_;refine go 7 ?_;refine n0H (wg rfl rfl rfl (wTT gT)) (a0X Sc.o rfl gFd (d0C rfl (by omega))) ?_;refine go 3 ?_;refine n0H (wg rfl rfl rfl (wTT gT)) (a0X Sc.o rfl gFd (d0C rfl (by omega))) ?_;refine go 2 ?_;refine b0X rfl Hb.o rfl (v0Z _ _) gSp ?_;refine ns ?_;refine go 3 ?_;refine a0O rfl (fun k=> ?_) (fun k=> ?_)
   ·refine go 8 ?_;rw[show(i:Int)+1=((i+1:Nat):Int) by omega];exact rd idh (⟨i+1,hpr.inc c (of_decide_eq_true k)⟩)
   ·refine go 1 ?_;exact me idh (⟨i,hpr,fun h=>by have H:=of_decide_eq_false k;have I:=c1N D (show i<ys.length by omega) (show a<ys.length by omega) (by omega);omega⟩)
  ·refine tl 12 ?_;refine go 19 ?_;exact me idh (⟨i,hpr,fun h=>(c h).elim⟩)
 rintro⟨i,hpr,hup⟩;dsimp only at hpr hup ⊢;refine j0D (X:= {j:Nat // Par a b i j ys∧(i≤j→xat ys a<xat ys i∧xat ys j<xat ys a)}) (fun y=> [(0,slU g n cap),(1,.int .i64 a),(10,.int .i64 i),(11,.int .i64 y.1)]) (fun y=> [f0V g n cap ys,R]) ?_ ?_
 ·refine go 1 ?_;refine a0V (X:= {j:Nat // Par a b i j ys∧j≤b-1}) (fun y=> [(0,slU g n cap),(1,.int .i64 a),(10,.int .i64 i),(11,.int .i64 y.1)]) (fun y=> [f0V g n cap ys,R]) (fun y=>y.1) ⟨b-1,hpr,Nat.le_refl _⟩ gSu gSp ?_;rintro⟨j,hpj,hjb⟩ m2 hm2
  try simp only at hm2
  try dsimp only
  have z:=hpj.le;refine go 2 ?_;by_cases c:i≤j
  ·refine tl 12 ?_;refine go 7 ?_;refine n0H (wg rfl rfl rfl (wTT gT)) (a0X Sc.o rfl gFd (d0C rfl (by omega))) ?_;refine go 3 ?_;refine n0H (wg rfl rfl rfl (wTT gT)) (a0X Sc.o rfl gFd (d0C rfl (by omega))) ?_;refine go 2 ?_;refine b0X rfl Hb.o rfl (v0Z _ _) gSp ?_;refine ns ?_;refine go 4 ?_;refine a0O rfl (fun l=> ?_) (fun l=> ?_)
   ·have v:xat ys a<xat ys j:=by
     have H: ¬xat ys j<xat ys a:=by simpa using l
     have I:=c1N D (show j<ys.length by omega) (show a<ys.length by omega) (by omega);omega
    refine go 8 ?_;rw[show(j:Int)-1=((j-1:Nat):Int) by omega];exact rd idh (⟨j-1,hpj.dec c v,by omega⟩)
   ·refine go 1 ?_;exact me idh (⟨j,hpj,fun h=>⟨hup (by omega),by simpa using l⟩⟩)
  ·refine tl 12 ?_;refine go 20 ?_;exact me idh (⟨j,hpj,fun h=>(c h).elim⟩)
 rintro⟨j,hpj,hst⟩;dsimp only at hpj hst ⊢;have z:=hpj.le;refine go 8 ?_;refine a0O rfl (fun m=> ?_) (fun m=> ?_)
 ·have K:j<i:=by have:=of_decide_eq_true m;omega
  refine r0I ([(0,slU g n cap),(1,.int .i64 a),(11,.int .i64 j)]) ([f0V g n cap (swp ys j a),R]) ?_ ?_
  ·refine mx (.r 0 7 (.r 8 3 (.two 7 (.hard 11 (.soft 12 (.hard 13 (.soft 14 (.hard 15 .done))))) 11 (.hard 7 (.soft 12 (.hard 13 (.soft 14 (.hard 15 .done)))))))) [] ?_;refine go 10 ?_;refine p0R rfl rfl ?_ ?_
   ·refine a0D (a0X Sc.o rfl gFd (d0C rfl (by omega))) ?_;refine go 3 ?_;refine a0D (a0X Sc.o rfl gFd (d0C rfl (by omega))) ?_;refine go 4 ?_;refine c0H (xs':=us (ys.set j (xat ys a))) Sz.o rfl rfl rfl gFd (by rw[f0L];omega) (f0K rfl) ?_;refine go 4 ?_;refine c0H (xs':=us (swp ys j a)) Sz.o rfl rfl rfl gFd (by rw[f0L,List.length_set];omega) (f0K rfl) ?_;refine go 3 ?_;exact h0W idh gSu gSp
   ·refine a0D (a0X Sc.o rfl gFd (d0C rfl (by omega))) ?_;refine go 3 ?_;refine a0D (a0X Sc.o rfl gFd (d0C rfl (by omega))) ?_;refine go 4 ?_;refine c0H (xs':=us (ys.set j (xat ys a))) Sz.o rfl rfl rfl gFd (by rw[f0L];omega) (f0K rfl) ?_;refine go 4 ?_;refine c0H (xs':=us (swp ys j a)) Sz.o rfl rfl rfl gFd (by rw[f0L,List.length_set];omega) (f0K rfl) ?_;refine go 3 ?_;exact h0W idh gSu gSp
  refine go 7 ?_;exact rE idh (j,true,swp ys j a) ⟨q.trans (SP.swap (by omega) (by omega) (by omega)),hpj.mid (by omega) K⟩
 ·have s:i≤j:=by have:=of_decide_eq_false m;omega
  obtain⟨M,F⟩:=hst s;have L:i<j:=by
   rcases Nat.lt_or_eq_of_le s with h|h
   ·exact h
   ·rw[←h]at F;omega
  refine go 2 ?_;refine r0I ([(0,slU g n cap),(1,.int .i64 a),(10,.int .i64 i),(11,.int .i64 j)]) ([f0V g n cap (swp ys i j),R]) ?_ ?_
  ·refine mx (.r 0 7 (.r 8 3 (.two 7 (.hard 11 (.soft 12 (.hard 13 (.soft 14 (.hard 15 .done))))) 11 (.hard 7 (.soft 12 (.hard 13 (.soft 14 (.hard 15 .done)))))))) [] ?_;refine go 10 ?_;refine p0R rfl rfl ?_ ?_
   ·refine a0D (a0X Sc.o rfl gFd (d0C rfl (by omega))) ?_;refine go 3 ?_;refine a0D (a0X Sc.o rfl gFd (d0C rfl (by omega))) ?_;refine go 4 ?_;refine c0H (xs':=us (ys.set i (xat ys j))) Sz.o rfl rfl rfl gFd (by rw[f0L];omega) (f0K rfl) ?_;refine go 4 ?_;refine c0H (xs':=us (swp ys i j)) Sz.o rfl rfl rfl gFd (by rw[f0L,List.length_set];omega) (f0K rfl) ?_;refine go 3 ?_;exact h0W idh gSu gSp
   ·refine a0D (a0X Sc.o rfl gFd (d0C rfl (by omega))) ?_;refine go 3 ?_;refine a0D (a0X Sc.o rfl gFd (d0C rfl (by omega))) ?_;refine go 4 ?_;refine c0H (xs':=us (ys.set i (xat ys j))) Sz.o rfl rfl rfl gFd (by rw[f0L];omega) (f0K rfl) ?_;refine go 4 ?_;refine c0H (xs':=us (swp ys i j)) Sz.o rfl rfl rfl gFd (by rw[f0L,List.length_set];omega) (f0K rfl) ?_;refine go 3 ?_;exact h0W idh gSu gSp
  refine go 6 ?_;rw[show(i:Int)+1=((i+1:Nat):Int) by omega];refine go 7 ?_;rw[show(j:Int)-1=((j-1:Nat):Int) by omega];refine go 3 ?_;refine a0V (X:= {y:Nat×Nat×List Int // SP a b xs y.2.2∧Par a b y.1 y.2.1 y.2.2}) (fun y=> [(0,slU g n cap),(1,.int .i64 a),(10,.int .i64 y.1.1),(11,.int .i64 y.1.2.1)]) (fun y=> [f0V g n cap y.1.2.2,R]) (fun y=>y.1.2.1+1-y.1.1) ⟨(i+1,j-1,swp ys i j),q.trans (SP.swap (by omega) (by omega) (by omega)),hpj.swap (by omega) L M F⟩ gSu gSp ?_;rintro⟨⟨i4,j4,zs⟩,hz,hp4⟩ m4 hm4
  try simp only at hm4
  try dsimp only
  dsimp only at hz hp4;have S:=hz.len;have E:=hz.nodup C;have O:=hp4.le;refine go 1 ?_;refine j0D (X:= {i:Nat // Par a b i j4 zs∧i4≤i∧(i≤j4→xat zs a<xat zs i)}) (fun y=> [(0,slU g n cap),(1,.int .i64 a),(10,.int .i64 y.1),(11,.int .i64 j4)]) (fun y=> [f0V g n cap zs,R]) ?_ ?_
  ·refine go 1 ?_;refine a0V (X:= {i:Nat // Par a b i j4 zs∧i4≤i}) (fun y=> [(0,slU g n cap),(1,.int .i64 a),(10,.int .i64 y.1),(11,.int .i64 j4)]) (fun y=> [f0V g n cap zs,R]) (fun y=>b-y.1) ⟨i4,hp4,Nat.le_refl _⟩ gSu gSp ?_;rintro⟨i6,hp6,h46⟩ m6 hm6
   try simp only at hm6
   try dsimp only
   have P:=hp6.le;refine go 2 ?_;by_cases c:i6≤j4
   ·refine tl 12 ?_;refine go 7 ?_;refine n0H (wg rfl rfl rfl (wTT gT)) (a0X Sc.o rfl gFd (d0C rfl (by omega))) ?_;refine go 3 ?_;refine n0H (wg rfl rfl rfl (wTT gT)) (a0X Sc.o rfl gFd (d0C rfl (by omega))) ?_;refine go 2 ?_;refine b0X rfl Hb.o rfl (v0Z _ _) gSp ?_;refine ns ?_;refine go 3 ?_;refine a0O rfl (fun d=> ?_) (fun d=> ?_)
    ·refine go 8 ?_;rw[show(i6:Int)+1=((i6+1:Nat):Int) by omega];exact rd idh (⟨i6+1,hp6.inc c (of_decide_eq_true d),by omega⟩)
    ·refine go 1 ?_;exact me idh (⟨i6,hp6,h46,fun h=>by have H:=of_decide_eq_false d;have I:=c1N E (show i6<zs.length by omega) (show a<zs.length by omega) (by omega);omega⟩)
   ·refine tl 12 ?_;refine go 19 ?_;exact me idh (⟨i6,hp6,h46,fun h=>(c h).elim⟩)
  rintro⟨i6,hp6,h46,hup6⟩;dsimp only at hp6 h46 hup6 ⊢;refine j0D (X:= {j:Nat // Par a b i6 j zs∧j≤j4∧(i6≤j→xat zs a<xat zs i6∧xat zs j<xat zs a)}) (fun y=> [(0,slU g n cap),(1,.int .i64 a),(10,.int .i64 i6),(11,.int .i64 y.1)]) (fun y=> [f0V g n cap zs,R]) ?_ ?_
  ·refine go 1 ?_;refine a0V (X:= {j:Nat // Par a b i6 j zs∧j≤j4}) (fun y=> [(0,slU g n cap),(1,.int .i64 a),(10,.int .i64 i6),(11,.int .i64 y.1)]) (fun y=> [f0V g n cap zs,R]) (fun y=>y.1) ⟨j4,hp6,Nat.le_refl _⟩ gSu gSp ?_;rintro⟨j8,hp8,h48⟩ m8 hm8
   try simp only at hm8
   try dsimp only
   have A:=hp8.le;refine go 2 ?_;by_cases c:i6≤j8
   ·refine tl 12 ?_;refine go 7 ?_;refine n0H (wg rfl rfl rfl (wTT gT)) (a0X Sc.o rfl gFd (d0C rfl (by omega))) ?_;refine go 3 ?_;refine n0H (wg rfl rfl rfl (wTT gT)) (a0X Sc.o rfl gFd (d0C rfl (by omega))) ?_;refine go 2 ?_;refine b0X rfl Hb.o rfl (v0Z _ _) gSp ?_;refine ns ?_;refine go 4 ?_;refine a0O rfl (fun e=> ?_) (fun e=> ?_)
    ·have w:xat zs a<xat zs j8:=by
      have H: ¬xat zs j8<xat zs a:=by simpa using e
      have I:=c1N E (show j8<zs.length by omega) (show a<zs.length by omega) (by omega);omega
     refine go 8 ?_;rw[show(j8:Int)-1=((j8-1:Nat):Int) by omega];exact rd idh (⟨j8-1,hp8.dec c w,by omega⟩)
    ·refine go 1 ?_;exact me idh (⟨j8,hp8,h48,fun h=>⟨hup6 (by omega),by simpa using e⟩⟩)
   ·refine tl 12 ?_;refine go 20 ?_;exact me idh (⟨j8,hp8,h48,fun h=>(c h).elim⟩)
  rintro⟨j8,hp8,h48,hst8⟩;dsimp only at hp8 h48 hst8 ⊢;have A:=hp8.le;refine go 8 ?_;refine a0O rfl (fun f=> ?_) (fun f=> ?_)
  ·have x:j8<i6:=by have:=of_decide_eq_true f;omega
   refine go 2 ?_;refine r0I ([(0,slU g n cap),(1,.int .i64 a),(11,.int .i64 j8)]) ([f0V g n cap (swp zs j8 a),R]) ?_ ?_
   ·refine mx (.r 0 7 (.r 8 3 (.two 7 (.hard 11 (.soft 12 (.hard 13 (.soft 14 (.hard 15 .done))))) 11 (.hard 7 (.soft 12 (.hard 13 (.soft 14 (.hard 15 .done)))))))) [] ?_;refine go 10 ?_;refine p0R rfl rfl ?_ ?_
    ·refine a0D (a0X Sc.o rfl gFd (d0C rfl (by omega))) ?_;refine go 3 ?_;refine a0D (a0X Sc.o rfl gFd (d0C rfl (by omega))) ?_;refine go 4 ?_;refine c0H (xs':=us (zs.set j8 (xat zs a))) Sz.o rfl rfl rfl gFd (by rw[f0L];omega) (f0K rfl) ?_;refine go 4 ?_;refine c0H (xs':=us (swp zs j8 a)) Sz.o rfl rfl rfl gFd (by rw[f0L,List.length_set];omega) (f0K rfl) ?_;refine go 3 ?_;exact h0W idh gSu gSp
    ·refine a0D (a0X Sc.o rfl gFd (d0C rfl (by omega))) ?_;refine go 3 ?_;refine a0D (a0X Sc.o rfl gFd (d0C rfl (by omega))) ?_;refine go 4 ?_;refine c0H (xs':=us (zs.set j8 (xat zs a))) Sz.o rfl rfl rfl gFd (by rw[f0L];omega) (f0K rfl) ?_;refine go 4 ?_;refine c0H (xs':=us (swp zs j8 a)) Sz.o rfl rfl rfl gFd (by rw[f0L,List.length_set];omega) (f0K rfl) ?_;refine go 3 ?_;exact h0W idh gSu gSp
   refine go 7 ?_;exact rE idh (j8,false,swp zs j8 a) ⟨hz.trans (SP.swap (by omega) (by omega) (by omega)),hp8.mid (by omega) x⟩
  ·have t:i6≤j8:=by have:=of_decide_eq_false f;omega
   obtain⟨N,G⟩:=hst8 t;have B:i6<j8:=by
    rcases Nat.lt_or_eq_of_le t with h|h
    ·exact h
    ·rw[←h]at G;omega
   refine go 2 ?_;refine r0I ([(0,slU g n cap),(1,.int .i64 a),(10,.int .i64 i6),(11,.int .i64 j8)]) ([f0V g n cap (swp zs i6 j8),R]) ?_ ?_
   ·refine mx (.r 0 7 (.r 8 3 (.two 7 (.hard 11 (.soft 12 (.hard 13 (.soft 14 (.hard 15 .done))))) 11 (.hard 7 (.soft 12 (.hard 13 (.soft 14 (.hard 15 .done)))))))) [] ?_;refine go 10 ?_;refine p0R rfl rfl ?_ ?_
    ·refine a0D (a0X Sc.o rfl gFd (d0C rfl (by omega))) ?_;refine go 3 ?_;refine a0D (a0X Sc.o rfl gFd (d0C rfl (by omega))) ?_;refine go 4 ?_;refine c0H (xs':=us (zs.set i6 (xat zs j8))) Sz.o rfl rfl rfl gFd (by rw[f0L];omega) (f0K rfl) ?_;refine go 4 ?_;refine c0H (xs':=us (swp zs i6 j8)) Sz.o rfl rfl rfl gFd (by rw[f0L,List.length_set];omega) (f0K rfl) ?_;refine go 3 ?_;exact h0W idh gSu gSp
    ·refine a0D (a0X Sc.o rfl gFd (d0C rfl (by omega))) ?_;refine go 3 ?_;refine a0D (a0X Sc.o rfl gFd (d0C rfl (by omega))) ?_;refine go 4 ?_;refine c0H (xs':=us (zs.set i6 (xat zs j8))) Sz.o rfl rfl rfl gFd (by rw[f0L];omega) (f0K rfl) ?_;refine go 4 ?_;refine c0H (xs':=us (swp zs i6 j8)) Sz.o rfl rfl rfl gFd (by rw[f0L,List.length_set];omega) (f0K rfl) ?_;refine go 3 ?_;exact h0W idh gSu gSp
   refine go 6 ?_;rw[show(i6:Int)+1=((i6+1:Nat):Int) by omega];refine go 6 ?_;rw[show(j8:Int)-1=((j8-1:Nat):Int) by omega];exact rd idh (⟨(i6+1,j8-1,swp zs i6 j8),hz.trans (SP.swap (by omega) (by omega) (by omega)),hp8.swap (by omega) B N G⟩)
def r0C (x:Nat):Nat:= [0,1,2,2,3,3,3,3,4,4,4,4,4,4,4,4,5].getD x 0
theorem p1D {x:Nat} (h:x≤16):r0C x≤5:=by revert x;decide
theorem x1B {x:Nat} (h:13≤x∧x≤16):(2^r0C x=16∧x<16∧r0C x=4)∨(2^r0C x=32∧x=16∧r0C x=5):=by
 have:x=13∨x=14∨x=15∨x=16:=by omega
 rcases this with rfl|rfl|rfl|rfl<;>decide
theorem le16 {x:Nat} (h:x≤16):x=0∨x=1∨x=2∨x=3∨x=4∨x=5∨x=6∨x=7∨x=8∨x=9∨x=10∨x=11∨x=12∨x=13∨x=14∨x=15∨x=16:=by omega
theorem w2D (x:Nat) (h:x≤16):a0G prog 220 #[.int .u64 x] [] (a0T (.int .i64 (r0C x)) []):=by
 have hb:=p1D h;refine en func220 ntmps220 fun R w0=> ?_;refine go 40 ?_;rw[show IntKind.u8.wrap (x:Int)=(x:Int)from e0P .u8 _ (by omega) (by show(x:Int)<128;omega)];refine a0D (d1U (u:=UInt8.ofNat (r0C x)) Tst.o rfl rfl (by omega) (by rw[Int.toNat_natCast];rcases le16 h with rfl|rfl|rfl|rfl|rfl|rfl|rfl|rfl|rfl|rfl|rfl|rfl|rfl|rfl|rfl|rfl|rfl<;>rfl)) ?_;refine go 1 ?_;rw[show IntKind.i64.wrap ((UInt8.ofNat (r0C x)).toNat:Int)=(r0C x:Int) by rw[UInt8.toNat_ofNat',Nat.mod_eq_of_lt (by omega)];exact e0P .i64 _ (by omega) (by show(r0C x:Int)<9223372036854775808;omega)];refine go 1 ?_;rw[Int.zero_add];refine go 3 ?_;exact rG
theorem s1H (x:Nat) (h:x≤16):a0G prog 180 #[.int .u64 x] [] (a0T (.int .i64 (r0C x)) []):=by
 refine en func180 ntmps180 fun R w0=> ?_;refine cg 12 (w2D x h) ?_;refine go 3 ?_;exact rG
theorem y2N (x:Nat) (h:13≤x∧x≤16):a0G prog 263 #[.int .i64 x] [] (a0T (.int .u64 ((2^r0C x:Nat):Int)) []):=by
 have hb:=p1D h.2;have c:=x1B h;refine en func263 ntmps263 fun R w0=> ?_;refine go 9 ?_;rw[show IntKind.u64.wrap (x:Int)=(x:Int)from e0P .u64 _ (by omega) (by show(x:Int)<9223372036854775808;omega)];refine cg 0 (s1H x (by omega)) ?_;refine a0D (g1E rfl rfl (by first|decide| (simp only[IntKind.bits];omega))) ?_;rw[show IntKind.u64.wrap (1*2^((r0C x:Int)).toNat)=((2^r0C x:Nat):Int) by rw[Int.toNat_natCast,Int.one_mul];refine(e0P .u64 _ ?_ ?_).trans ?_<;>rcases c with ⟨b,_,a⟩| ⟨b,_,a⟩<;>rw[a]<;>decide];refine go 3 ?_;exact rG
theorem y2O (b:Nat) (x:Int):a0G prog 264 #[pU b] [pts b (.cells #[.int .u64 x] 320 (0,0))] (b0P (fun _:Int=>True) (fun y=> .int .u64 y) (fun y=> [pts b (.cells #[.int .u64 y] 320 (0,0))])):=by
 refine en func264 ntmps264 fun R w0=> ?_;refine go 6 ?_;refine tl 7 ?_;refine go 6 ?_;refine b0V (g1E rfl rfl (by first|decide| (simp only[IntKind.bits];omega))) ?_;refine go 1 ?_;refine a0D (w0I rfl rfl) ?_;refine go 5 ?_;refine tl 7 ?_;refine go 6 ?_;refine b0V (t0B rfl rfl (by first|decide| (simp only[IntKind.bits];omega))) ?_;refine go 1 ?_;refine a0D (w0I rfl rfl) ?_;refine go 5 ?_;refine tl 7 ?_;refine go 6 ?_;refine b0V (g1E rfl rfl (by first|decide| (simp only[IntKind.bits];omega))) ?_;refine go 1 ?_;refine a0D (w0I rfl rfl) ?_;refine go 12 ?_;exact rE idh _ trivial
end Go.Proofs.Q
