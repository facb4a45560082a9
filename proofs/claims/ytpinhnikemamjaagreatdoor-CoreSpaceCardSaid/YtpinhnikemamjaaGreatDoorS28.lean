/- Part of the proof; no statement of its own. -/
import Derived.Test.YtpinhnikemamjaaGreatDoorS23
import Derived.Test.YtpinhnikemamjaaGreatDoorS18
import Derived.Test.YtpinhnikemamjaaGreatDoorS10
import Derived.Test.YtpinhnikemamjaaGreatDoorS27
import Derived.Test.YtpinhnikemamjaaGreatDoorS16
import Derived.Test.YtpinhnikemamjaaGreatDoorProg
import Derived.KernelRfl
import Derived.Test.YtpinhnikemamjaaGreatDoorS08
import Derived.Test.YtpinhnikemamjaaGreatDoorS06
import Derived.Test.YtpinhnikemamjaaGreatDoorS07
set_option linter.all false
set_option maxRecDepth 4000
set_option maxHeartbeats 4000000
attribute [local irreducible] Go.Sl.a0P Go.Sl.OW Go.Sl.CW Go.Sl.OS Go.Sl.OM Go.Sl.OMf Go.Sl.KM
namespace Go.Proofs.Q
open Go.Sl Go.Sb Tryz
structure Vx where
 v:Vp
 mv:Value
structure Rx where
 lv:Value
 l:List Vx
 next:Int
 bits:Nat
 epoch:Int
def er (c:Rx):Rp:= {l:=c.l.map (·.v),next:=c.next,bits:=c.bits,epoch:=c.epoch}
def a0S (x:Vx):List Value:= [.int .i64 x.v.id,.int .i64 x.v.parent,.bool x.v.only,.int .i64 x.v.size,.int .i64 x.v.born,x.mv]
def a1G (x:Vx):Value:= .agg (a0S x).toArray
def a0J (c:Rx):List Value:= [c.lv,.int .i64 c.next,.int .i64 c.bits,.int .i64 c.epoch]
def e0W (c:Rx):Value:= .agg (a0J c).toArray
abbrev v2W (H:b0B) (lv:Value) (l:List Vx):Prop:=i0V H 42 6 lv l.length (l.flatMap a0S)
abbrev n0K (H:b0B) (x:Vx):Prop:=b1C H x.mv x.v.m∧m0R x.v.m
structure c0Z (H:b0B) (c:Rx):Prop where
 vols:v2W H c.lv c.l
 maps: ∀x∈c.l,n0K H x
 few:c.l.length≤1000
theorem u0W (x:Vx):(a0S x).length=6:=rfl
theorem n0G (l:List Vx) {i:Nat} (hi:i<l.length):((l.flatMap a0S).drop (i*6)).take 6=a0S l[i]:=p0J u0W l hi
theorem n0K.more {H H':b0B} {x:Vx} (h:n0K H x) (hs: ∀p∈H,p∈H'):n0K H' x:=⟨h.1.more hs,h.2⟩
theorem c0Z.more {H H':b0B} {c:Rx} (h:c0Z H c) (hs: ∀p∈H,p∈H'):c0Z H' c:=⟨h.vols.more hs,fun x hx=>(h.maps x hx).more hs,h.few⟩
theorem x0N {H:b0B} {l:List Vx} (h: ∀x∈l,n0K H x): ∀u∈l.flatMap a0S,u.oneCell'=true:=fun u hu=>by
 obtain⟨x,hx,hu⟩:=List.mem_flatMap.1 hu;simp only[a0S,List.mem_cons,List.not_mem_nil,or_false]at hu;rcases hu with rfl|rfl|rfl|rfl|rfl|rfl
 ·rfl
 ·rfl
 ·rfl
 ·rfl
 ·rfl
 ·exact(h x hx).1.one
theorem r2A {l:List Vp} {id:Int} {i:Nat} (hi:i<l.length) (hb: ∀j (h:j<l.length),j<i→l[j].id≠id) (h:l[i].id=id):c0Q l id=some i:=by
 unfold c0Q;rw[List.findIdx?_eq_some_iff_getElem];exact⟨hi,by simpa using h,fun j hj=>by simpa using hb j (by omega) hj⟩
theorem r2B {l:List Vp} {id:Int} (hb: ∀j (h:j<l.length),l[j].id≠id):c0Q l id=none:=by
 unfold c0Q;rw[List.findIdx?_eq_none_iff];intro x hx;obtain⟨j,hj,rfl⟩:=List.mem_iff_getElem.1 hx;simpa using hb j hj
theorem u0X {l:List Vp} {id:Int} {i:Nat} (h:c0Q l id=some i):i<l.length:=by
 unfold c0Q at h;rw[List.findIdx?_eq_some_iff_getElem]at h;exact h.1
abbrev w0F (b:Nat) (c:Rx):a0E:=pts b (.cells (a0J c).toArray 34 (0,0))
abbrev w1X (b:Nat) (x:Vx):a0E:=pts b (.cells (a0S x).toArray 42 (0,0))
theorem m1T (H:b0B) (c:Rx) (id:Int) (hc:c0Z H c):a0G prog 101 #[e0W c,.int .i64 id] [c0B H] (a0T (.int .i64 (e1O (er c).l id)) [c0B H]):=by
 obtain⟨p,cap,hlv,hcap⟩:=d0W hc.vols;have hfew:=hc.few;have hrow:=hc.vols;rw[hlv]at hrow;refine en func101 ntmps101 fun R w0=> ?_
 try simp only[e0W,a0J]
 rw[hlv];refine go 2 ?_;refine bx fun b2=> ?_;refine go 13 ?_;refine a0V (X:= {i:Nat // i≤c.l.length∧ ∀j (h:j<c.l.length),j<i→c.l[j].v.id≠id}) (fun y=> [(1,.int .i64 id),(8,.slice p c.l.length cap),(9,.int .i64 c.l.length),(10,.int .i64 y.1)]) (fun y=> [c0B H,R]) (fun y=>c.l.length-y.1) ⟨0,Nat.zero_le _,fun j _ hj=>absurd hj (Nat.not_lt_zero _)⟩ gSu gSp ?_;rintro⟨i,hi,hz⟩ m0 hm0
 try simp only at hm0
 try dsimp only
 skip;refine go 6 ?_;refine a0O rfl (fun hb11=> ?_) (fun hb11=> ?_)
 ·have hil:i<c.l.length:=by have:=of_decide_eq_true hb11;omega
  obtain⟨b,o,cap',cur,hv,hcp,hmem,hcut,hlen⟩:=g0V hrow (by omega);cases hv
  have hcu:(cur.drop (o+i*6)).take 6=a0S c.l[i]:=(i0I hcut hil).trans (n0G c.l hil);refine go 8 ?_;refine a0D (f0A (vs:=a0S c.l[i]) Ag.o rfl gFd hmem hcu rfl (by decide)) ?_;refine al fun b6=> ?_;refine go 1 ?_;refine a0M Sz.o rfl rfl rfl (fun u hu=>x0N hc.maps u (List.mem_flatMap.2 ⟨c.l[i],List.getElem_mem hil,by simpa using hu⟩)) (by simp[a0S,Value.cells]) (a0N (by simp[a0S,Value.cells])) ?_;refine go 10 ?_;refine a0O rfl (fun hb18=> ?_) (fun hb18=> ?_)
  ·have he:c.l[i].v.id=id:=by simpa using hb18
   refine go 6 ?_;exact rG (hu:=(by unfold e1O;rw[r2A (i:=i) (by simpa [er] using hil) (fun j hj hji=>by simpa [er] using hz j (by simpa [er] using hj) hji) (by simpa [er] using he)]))
  ·have he: ¬c.l[i].v.id=id:=by simpa using hb18
   refine go 6 ?_;exact rd idh (⟨i+1,hil,fun j hjl hj=>if h:j=i then by subst h;exact he else hz j hjl (by omega)⟩)
 ·obtain rfl:i=c.l.length:=by have:=of_decide_eq_false hb11;omega
  refine go 7 ?_;exact rG (hu:=(by unfold e1O;rw[r2B (fun j hj=>by simpa [er] using hz j (by simpa [er] using hj) (by simpa [er] using hj))]))
theorem m2E {ss:List B} (h: ∀s∈ss,s.length=32):ss.flatten.length=32*ss.length:=by
 induction ss with
 |nil=>rfl
 |cons s ss ih=>rw[List.flatten_cons,List.length_append,h s List.mem_cons_self,ih fun x hx=>h x (List.mem_cons_of_mem _ hx),List.length_cons];omega
theorem w1Y {ss:List B} {i:Nat} (h:i<ss.length):(ss.take (i+1)).all (· == a0L 32)=((ss.take i).all (· == a0L 32)&&ss[i] == a0L 32):=by
 rw[List.take_succ,List.getElem?_eq_getElem h,List.all_append];simp
theorem p1C (level:Nat) (hlv:level<256) (v:Value) (ss:List B) (h32: ∀s∈ss,s.length=32) (hn:ss.length≤8):
 a0G prog 189 #[.int .i64 level,v] [b0I 9 1 v ss.length (ss.map b0C)] (a0T (b0C (e0H level ss)) [b0I 9 1 v ss.length (ss.map b0C)]):=by
 obtain⟨z,hz⟩: ∃z,z=a0L 32:=⟨_,rfl⟩;have hlb:(UInt8.ofNat level).toNat=level:=by rw[UInt8.toNat_ofNat'];omega
 have hm:(level:Int)%256=((UInt8.ofNat level).toNat:Int):=by rw[hlb];omega
 refine en func189 ntmps189 fun R w0=> ?_;refine n0W (e:=9) gFd fun pv capv hvv hcapv _=> ?_;subst hvv;refine go 14 ?_;rw[hm];refine go 1 ?_;rw[show IntKind.u8.wrap ((UInt8.ofNat level).toNat:Int)=((UInt8.ofNat level).toNat:Int) by rw[IntKind.wrap_u8];have:=(UInt8.ofNat level).toNat_lt;omega];refine bl fun b13=> ?_;refine a0D (e1C Tsl.o Tst.o Tby.o rfl (l:= [UInt8.ofNat level]) rfl rfl) ?_;refine a0D (h0N rfl rfl (by simp[b0H])) ?_;rw[show(⟨#[78]⟩:ByteArray)=bs [78]from rfl,←h0U];refine go 17 ?_;refine a0V (X:= {i:Nat // i≤ss.length}) (fun y=> [(5,b0C (a0L 32)),(6,b0C ([78,UInt8.ofNat level]++(ss.take y.1).flatten)),(7,.bool ((ss.take y.1).all (· == a0L 32))),(16,.slice pv ss.length capv),(17,.int .i64 ss.length),(18,.int .i64 y.1)]) (fun y=> [b0I 9 1 (.slice pv ss.length capv) ss.length (ss.map b0C),R]) (fun y=>ss.length-y.1) ⟨0,Nat.zero_le _⟩ gSu gSp ?_;rintro⟨i,hi⟩ m0 hm0
 try simp only at hm0
 try dsimp only
 skip;refine go 6 ?_;refine a0O rfl (fun hb19=> ?_) (fun hb19=> ?_)
 ·have hil:i<ss.length:=by have:=of_decide_eq_true hb19;omega
  refine i0T (e:=9) gFd (by omega) fun bv cv hv2 hc2=> ?_;cases hv2
  have hfl:=m2E (ss:=ss.take i) fun s hs=>h32 s (List.mem_of_mem_take hs);have hs32:=h32 _ (List.getElem_mem hil);have hlt:(ss.take i).length=i:=by rw[List.length_take];omega
  refine go 7 ?_;refine a0D (a0X Sc.o rfl gFd (i0E b0C ss i _ hil (by omega))) ?_;refine go 7 ?_;refine a0D (h0N rfl rfl (by rw[b0H,b0H,List.length_append,hfl,hs32,hlt];simp;omega)) ?_;rw[←h0U,show [78,UInt8.ofNat level]++(ss.take i).flatten++ss[i]= [78,UInt8.ofNat level]++(ss.take (i+1)).flatten by rw[List.take_succ,List.getElem?_eq_getElem hil,List.append_assoc,Option.toList_some,List.flatten_append,List.flatten_singleton]];refine go 3 ?_;by_cases hall:(ss.take i).all (· == a0L 32)=true
  ·refine go 5 ?_;refine b0Z (s0O rfl rfl) (wg rfl rfl rfl (wTT hall)) ?_;refine go 1 ?_;rw[show((bs ss[i]).toList == (bs (a0L 32)).toList)=(ss.take (i+1)).all (· == a0L 32) by rw[c0G,c0G,w1Y hil,hall,Bool.true_and]];refine go 7 ?_;exact rd idh (⟨i+1,hil⟩)
  ·refine go 3 ?_;refine c0D rfl (wg rfl rfl rfl (wTF (by simpa using hall))) ?_;refine c0D rfl (wg rfl rfl rfl (wTF (by simpa using hall))) ?_;refine c0D rfl (wg rfl rfl rfl (wTF (by simpa using hall))) ?_;refine a0D (h0H rfl (by simpa using hall) rfl) ?_;rw[show Value.bool false= .bool ((ss.take (i+1)).all (· == a0L 32)) by rw[w1Y hil,show(ss.take i).all (· == a0L 32)=false by simpa using hall,Bool.false_and]];refine go 7 ?_;exact rd idh (⟨i+1,hil⟩)
 ·obtain rfl:i=ss.length:=by have:=of_decide_eq_false hb19;omega
  rw[List.take_length];refine go 8 ?_;refine a0O rfl (fun hb32=> ?_) (fun hb32=> ?_)
  ·refine go 6 ?_;exact rG (hu:=(by unfold e0H;rw[if_pos hb32]))
  ·refine go 5 ?_;refine b0X rfl Hb.o rfl (k1E _ (by rw[List.length_append,m2E h32];simp;omega)) gSp ?_;refine ns ?_;refine go 3 ?_;exact rG (hu:=(by unfold e0H;rw[if_neg (by rw[hb32];decide)];rfl))
def q0J (l:Nat):Nat:=8^l
theorem z2Y {l:Nat} (hl:l<3):nth [Value.int .i64 1,.int .i64 8,.int .i64 64] l=some (.int .i64 ((q0J l:Nat):Int)):=by
 match l,hl with
 |0,_=>rfl
 |1,_=>rfl
 |2,_=>rfl
theorem v2X {l:Nat} (hl:l<3):1≤q0J l∧q0J l≤64:=by
 match l,hl with
 |0,_=>decide
 |1,_=>decide
 |2,_=>decide
def dgK (m:List Lf):Nat→Nat→B
 |0,f=>p0U m f
 |l+1,f=>if m.any (y0F (q0J (l+1)) f)then dgR m l f else a0L 32
theorem g2R (m:List Lf) (l f:Nat):dgK m (l+1) f=if m.any (y0F (q0J (l+1)) f)then dgR m l f else a0L 32:=rfl
theorem y2L (m:List Lf) (l f:Nat):dgR m l f=e0H l ((List.range 8).map fun k=>dgK m l (f+k*q0J l)):=by
 cases l with
 |zero=>unfold dgR;congr 1
 |succ l=>rfl
theorem g2S (m:List Lf) (f:Nat):(p0U m f).length=32:=by
 rcases c1L f m (a0L 32)with ⟨d,_,h⟩| ⟨_,h⟩
 ·unfold p0U;rw[h];exact p0Z d
 ·unfold p0U;rw[h];rfl
theorem c2Z (m:List Lf) (l f:Nat):(dgR m l f).length=32:=by cases l<;>exact t0M _ _
theorem v2Y (m:List Lf) (l f:Nat):(dgK m l f).length=32:=by
 cases l with
 |zero=>exact g2S m f
 |succ l=>rw[g2R];split;(· exact c2Z _ _ _);rfl
theorem r1G {m:List Lf} {j f:Nat} (h:j<m.length):p0U (m.take (j+1)) f=dgF f (p0U (m.take j) f) m[j]:=by
 unfold p0U;rw[List.take_succ,List.getElem?_eq_getElem h,List.foldl_append];rfl
theorem w1Z {p:Lf→Bool} {m:List Lf} {j:Nat} (h:j<m.length) (hz:(m.take j).any p=false) (hp:p m[j]=false):(m.take (j+1)).any p=false:=by
 rw[List.take_succ,List.getElem?_eq_getElem h,List.any_append,hz];simp[hp]
def dgJ (m:List Lf) (l f j:Nat):B:=if l=0 then p0U (m.take j) f else a0L 32
theorem v2Z {m:List Lf} {l f j:Nat} (hl:l=0) (hj:j<m.length) (hx:m[j].1=(f:Int)):Sha.sum m[j].2=dgJ m l f (j+1):=by
 unfold dgJ;rw[if_pos hl,r1G hj];unfold dgF;rw[if_pos hx]
theorem x1A {m:List Lf} {l f j:Nat} (hj:j<m.length) (hx:l=0→m[j].1≠(f:Int)):dgJ m l f j=dgJ m l f (j+1):=by
 unfold dgJ;split
 ·rename_i hl;rw[r1G hj];unfold dgF;rw[if_neg (hx hl)]
 ·rfl
theorem w2A {m:List Lf} {l f j:Nat} (hl:l≠0) (hj:j<m.length) (hx:y0F (q0J l) f m[j]=true):dgR m (l-1) f=dgK m l f:=by
 cases l with
 |zero=>exact absurd rfl hl
 |succ l=>rw[g2R,if_pos (List.any_eq_true.2 ⟨_,List.getElem_mem hj,hx⟩)];rfl
theorem w2B {m:List Lf} {l f:Nat} (h:l≠0→m.any (y0F (q0J l) f)=false):dgJ m l f m.length=dgK m l f:=by
 unfold dgJ;cases l with
 |zero=>rw[if_pos rfl,List.take_length];rfl
 |succ l=>rw[if_neg (by omega),g2R,if_neg (by rw[h (by omega)];decide)]
abbrev b1D (H:b0B) (mv:Value) (m:List Lf) (l:Nat):Prop:= ∀f:Nat,f+8*q0J l≤512→a0G prog 153 #[mv,.int .i64 l,.int .i64 f] [c0B H] (a0T (b0C (dgR m l f)) [c0B H])
theorem f1V (H:b0B) (mv:Value) (m:List Lf) (hm:b1C H mv m) (hok:m0R m) (l:Nat) (hl:l<3) (hrec: ∀k,l=k+1→b1D H mv m k):b1D H mv m l:=by
 intro f hf;obtain⟨p,cap,rfl,hcap⟩:=d0W hm;have hml:=hok.len;obtain⟨hs1,hs64⟩:=v2X hl;have hsp:=z2Y hl;have hsl:l≠0→8*q0J (l-1)=q0J l:=fun h=>by cases l with|zero=>exact absurd rfl h|succ l=>show 8*8^l=8^(l+1);rw[Nat.pow_succ];omega
 have hs0:l=0→q0J l=1:=fun h=>by subst h;rfl
 rw[y2L];obtain⟨sp,hspd⟩: ∃sp,sp=q0J l:=⟨_,rfl⟩;rw[←hspd]at hs1 hs64 hsp hsl hs0 hf ⊢;refine en func153 ntmps153 fun R w0=> ?_;refine go 7 ?_;refine bl fun b13=> ?_;refine go 2 ?_;refine a0D (b0N Sc.o rfl (by rw[Nat.zero_add,Int.toNat_natCast,Nat.mul_one];exact hsp)) ?_;refine go 5 ?_;refine bl fun b17=> ?_;refine go 5 ?_;refine b0U (fun w h=>o0K 1 h) ?_;refine go 5 ?_;refine a0V (X:= {x:Nat×Value // x.1≤8}) (fun y=> [(0,.slice p m.length cap),(1,.int .i64 l),(2,.int .i64 f),(7,.int .i64 (sp:Nat)),(8,y.1.2),(9,.int .i64 y.1.1)]) (fun y=> [b0I 9 1 y.1.2 y.1.1 (((List.range y.1.1).map fun k=>dgK m l (f+k*sp)).map b0C),c0B H,R]) (fun y=>8-y.1.1) ⟨(0,.slice (some ⟨b17,0,none⟩) 0 0),Nat.zero_le 8⟩ gSu gSp ?_;rintro⟨⟨k,v⟩,hk8⟩ m0 hm0
 try simp only at hm0
 try dsimp only
 simp only at hk8;refine go 7 ?_;refine a0O rfl (fun hb19=> ?_) (fun hb19=> ?_)
 ·have hkl:k<8:=by have:=of_decide_eq_true hb19;omega
  obtain⟨g,hg⟩: ∃g,g=f+k*sp:=⟨_,rfl⟩;obtain⟨ks,hks⟩: ∃ks,ks=k*sp:=⟨_,rfl⟩;have hks7:ks≤7*sp:=by rw[hks];exact Nat.mul_le_mul_right _ (by omega)
  have hksi:((k:Nat):Int)*((sp:Nat):Int)=((ks:Nat):Int):=by rw[hks];push_cast;rfl
  rw[←hks]at hg;refine go 9 ?_;refine j0D (X:= {z:B // z=dgK m l g}) (fun z=> [(0,.slice p m.length cap),(1,.int .i64 l),(2,.int .i64 f),(7,.int .i64 (sp:Nat)),(8,v),(9,.int .i64 k),(10,b0C z.1)]) (fun z=> [b0I 9 1 v k (((List.range k).map fun k=>dgK m l (f+k*sp)).map b0C),c0B H,R]) ?_ ?_
  ·refine go 8 ?_;refine a0V (X:= {y:Nat×B // y.1≤m.length∧y.2=dgJ m l g y.1∧(l≠0→(m.take y.1).any (y0F (q0J l) g)=false)}) (fun y=> [(0,.slice p m.length cap),(1,.int .i64 l),(2,.int .i64 f),(7,.int .i64 (sp:Nat)),(8,v),(9,.int .i64 k),(10,b0C y.1.2),(22,.slice p m.length cap),(23,.int .i64 m.length),(24,.int .i64 y.1.1)]) (fun y=> [b0I 9 1 v k (((List.range k).map fun k=>dgK m l (f+k*sp)).map b0C),c0B H,R]) (fun y=>m.length-y.1.1) ⟨(0,a0L 32),Nat.zero_le _,by(show a0L 32=dgJ m l g 0);unfold dgJ;split<;>rfl,fun _=>rfl⟩ gSu gSp ?_;rintro⟨⟨j,s⟩,hj,hs,hno⟩ m2 hm2
   try simp only at hm2
   try dsimp only
   simp only at hj hs hno;refine go 6 ?_;refine a0O rfl (fun hb25=> ?_) (fun hb25=> ?_)
   ·have hjl:j<m.length:=by have:=of_decide_eq_true hb25;omega
    obtain⟨b,o,cap',cur,hv,hc,hmem,hcut,hlen⟩:=g0V hm (by omega);cases hv
    have hcu:(cur.drop (o+j*2)).take 2=lfC m[j]:=(i0I hcut hjl).trans (p0J (f:=lfC) (size:=2) (fun _=>rfl) m hjl);obtain⟨hx0,hx5,hxl⟩:=hok.in_ _ (List.getElem_mem hjl);have hq1:0≤m[j].1/ ((sp:Nat):Int)*((sp:Nat):Int):=Int.mul_nonneg (Int.ediv_nonneg hx0 (by omega)) (by omega);have hq2:m[j].1/ ((sp:Nat):Int)*((sp:Nat):Int)≤m[j].1:=Int.ediv_mul_le _ (by omega);refine go 7 ?_;refine a0D (f0A (vs:=lfC m[j]) Ag.o rfl gFd hmem hcu rfl (by decide)) ?_;refine al fun b12=> ?_;refine go 5 ?_;by_cases hl0:l=0
    ·by_cases hx:m[j].1=((g:Nat):Int)
     ·refine go 11 ?_;rw[hksi];refine go 1 ?_;rw[show((f:Nat):Int)+((ks:Nat):Int)=((g:Nat):Int) by omega];refine go 1 ?_;rw[show((sp:Nat):Int)=((1:Nat):Int) by rw[hs0 hl0],show m[j].1/ ((1:Nat):Int)*((1:Nat):Int)=m[j].1 by simp];refine go 1 ?_;refine b0Z (d0H rfl) (wg rfl rfl rfl (wTT (by simpa using hx))) ?_;refine b0Z (k1Q rfl rfl) (wg rfl rfl rfl (wTT (by simpa using hx))) ?_;refine a0D (h0V rfl (by simpa using hx) rfl) ?_;refine go 14 ?_;refine b0Z (d0H rfl) (wg rfl rfl rfl (wTT (by rw[hx];have:=hs0 hl0;rw[this,Nat.mul_one]at hks;simp;omega))) ?_;refine b0Z (b1F rfl rfl) (wg rfl rfl rfl (wTT (by rw[hx];have:=hs0 hl0;rw[this,Nat.mul_one]at hks;simp;omega))) ?_;refine a0D (h0V rfl (by rw[hx];have:=hs0 hl0;rw[this,Nat.mul_one]at hks;simp;omega) rfl) ?_;refine cg 6 (k1E m[j].2 (by omega)) ?_;refine go 7 ?_;exact rd idh (⟨(j+1,Sha.sum m[j].2),hjl,v2Z hl0 hjl hx,fun h=>absurd hl0 h⟩)
     ·refine go 11 ?_;rw[hksi];refine go 1 ?_;rw[show((f:Nat):Int)+((ks:Nat):Int)=((g:Nat):Int) by omega];refine go 1 ?_;rw[show((sp:Nat):Int)=((1:Nat):Int) by rw[hs0 hl0],show m[j].1/ ((1:Nat):Int)*((1:Nat):Int)=m[j].1 by simp];refine go 1 ?_;refine c0D rfl (wg rfl rfl rfl (wTF (by simpa using hx))) ?_;refine c0D rfl (wg rfl rfl rfl (wTF (by simpa using hx))) ?_;refine a0D (h0H rfl (by simpa using hx) rfl) ?_;refine go 14 ?_;refine c0D rfl (wg rfl rfl rfl (wTF (by have:=hs0 hl0;rw[this,Nat.mul_one]at hks;simp;omega))) ?_;refine c0D rfl (wg rfl rfl rfl (wTF (by have:=hs0 hl0;rw[this,Nat.mul_one]at hks;simp;omega))) ?_;refine a0D (h0H rfl (by have:=hs0 hl0;rw[this,Nat.mul_one]at hks;simp;omega) rfl) ?_;refine go 9 ?_;exact rd idh (⟨(j+1,s),hjl,by(show s=_);rw[hs];exact x1A hjl fun _=>hx,fun h=>absurd hl0 h⟩)
    ·by_cases hit:m[j].1/ ((sp:Nat):Int)*((sp:Nat):Int)=((g:Nat):Int)
     ·refine go 11 ?_;rw[hksi];refine go 1 ?_;rw[show((f:Nat):Int)+((ks:Nat):Int)=((g:Nat):Int) by omega];refine go 2 ?_;refine b0Z (d0H rfl) (wg rfl rfl rfl (wTT (by simpa using hit))) ?_;refine b0Z (k1Q rfl rfl) (wg rfl rfl rfl (wTT (by simpa using hit))) ?_;refine a0D (h0V rfl (by simpa using hit) rfl) ?_;refine go 12 ?_;rw[hksi];refine go 1 ?_;rw[show((f:Nat):Int)+((ks:Nat):Int)=((g:Nat):Int) by omega,show((l:Nat):Int)-1=((l-1:Nat):Int) by omega];refine cg 0 (hrec (l-1) (by omega) g (by have:=hsl hl0;omega)) ?_;refine go 4 ?_;exact me idh (⟨_,w2A hl0 hjl (decide_eq_true (by rw[←hspd];exact hit))⟩)
     ·refine go 11 ?_;rw[hksi];refine go 1 ?_;rw[show((f:Nat):Int)+((ks:Nat):Int)=((g:Nat):Int) by omega];refine go 2 ?_;refine c0D rfl (wg rfl rfl rfl (wTF (by simpa using hit))) ?_;refine c0D rfl (wg rfl rfl rfl (wTF (by simpa using hit))) ?_;refine a0D (h0H rfl (by simpa using hit) rfl) ?_;refine go 6 ?_;by_cases hx:m[j].1=((f:Nat):Int)+((k:Nat):Int)
      ·refine go 8 ?_;refine b0Z (d0H rfl) (wg rfl rfl rfl (wTT (by simpa using hx))) ?_;refine b0Z (b1F rfl rfl) (wg rfl rfl rfl (wTT (by simpa using hx))) ?_;refine a0D (h0V rfl (by simpa using hx) rfl) ?_;refine go 9 ?_;exact rd idh (⟨(j+1,s),hjl,by(show s=_);rw[hs];exact x1A hjl fun h=>absurd h hl0,fun h=>w1Z hjl (hno h) (decide_eq_false (by rw[←hspd];exact hit))⟩)
      ·refine go 8 ?_;refine c0D rfl (wg rfl rfl rfl (wTF (by simpa using hx))) ?_;refine c0D rfl (wg rfl rfl rfl (wTF (by simpa using hx))) ?_;refine a0D (h0H rfl (by simpa using hx) rfl) ?_;refine go 9 ?_;exact rd idh (⟨(j+1,s),hjl,by(show s=_);rw[hs];exact x1A hjl fun h=>absurd h hl0,fun h=>w1Z hjl (hno h) (decide_eq_false (by rw[←hspd];exact hit))⟩)
   ·obtain rfl:j=m.length:=by have:=of_decide_eq_false hb25;omega
    rw[List.take_length]at hno;refine go 1 ?_;exact me idh (⟨s,by rw[hs];exact w2B hno⟩)
  rintro⟨z,hz⟩;dsimp only;refine go 3 ?_;refine bl fun b69=> ?_;refine(d0E Tsl.o Ttb.o Zr.o rfl rfl rfl gFd (f0I Tsl.o (by simp;rfl) (by simp) (by simp[Value.oneCell'])) (by simp only[maxLen];omega) (by omega) (fun v70 hv70=> ?_));refine go 2 ?_;rw[show((List.range k).map fun k=>dgK m l (f+k*sp)).map b0C++ [b0C z]=((List.range (k+1)).map fun k=>dgK m l (f+k*sp)).map b0C by rw[hz,hg,hks,List.range_succ,List.map_append,List.map_append];rfl];refine go 6 ?_;exact rd idh (⟨(k+1,v70),hkl⟩)
 ·obtain rfl:k=8:=by have:=of_decide_eq_false hb19;omega
  refine go 6 ?_;refine b0X rfl Hb.o rfl ((by have h:=p1C l (by omega) v ((List.range 8).map fun k=>dgK m l (f+k*sp)) (fun s hs=>by obtain⟨k,_,rfl⟩:=List.mem_map.1 hs;exact v2Y _ _ _) (by simp);rw[List.length_map,List.length_range]at h;exact h)) gSp ?_;refine ns ?_;refine go 3 ?_;exact rG
theorem a2A (H:b0B) (mv:Value) (m:List Lf) (hm:b1C H mv m) (hok:m0R m):a0G prog 109 #[mv] [c0B H] (a0T (b0C (dgR m 2 0)) [c0B H]):=by
 have d0:b1D H mv m 0:=f1V H mv m hm hok 0 (by decide) fun k h=>by omega
 have d1:b1D H mv m 1:=f1V H mv m hm hok 1 (by decide) fun k h=>(by obtain rfl:k=0:=(by omega);exact d0);have d2:b1D H mv m 2:=f1V H mv m hm hok 2 (by decide) fun k h=>(by obtain rfl:k=1:=(by omega);exact d1);refine en func109 ntmps109 fun R w0=> ?_;refine cg 8 (d2 0 (by decide)) ?_;refine go 3 ?_;exact rG
end Go.Proofs.Q
namespace Go.Proofs.Q
open Go Go.Sl Tryz
instance:Hb prog 90:=⟨kr⟩
instance:Hb prog 91:=⟨kr⟩
instance:Tsl prog 159 47 1:=⟨kr⟩
instance:Ttb prog 50 40:=⟨kr⟩
instance:Hb prog 134:=⟨kr⟩
instance:Hb prog 135:=⟨kr⟩
instance:Hb prog 155:=⟨kr⟩
instance:Hb prog 156:=⟨kr⟩
instance:Hb prog 178:=⟨kr⟩
instance:Hb prog 179:=⟨kr⟩
instance:Hb prog 180:=⟨kr⟩
instance:Hb prog 190:=⟨kr⟩
instance:Hb prog 210:=⟨kr⟩
instance:Hb prog 157:=⟨kr⟩
instance:Hb prog 136:=⟨kr⟩
instance:Sc prog 159:=⟨kr⟩
instance:Sz prog 159 1:=⟨kr⟩
instance:Ttb prog 47 4:=⟨kr⟩
instance:Hb prog 212:=⟨kr⟩
instance:Hb prog 213:=⟨kr⟩
instance:Hb prog 215:=⟨kr⟩
instance:Hb prog 216:=⟨kr⟩
instance:Hb prog 218:=⟨kr⟩
instance:Hb prog 263:=⟨kr⟩
instance:Hb prog 264:=⟨kr⟩
instance:Tin prog 320 .u64:=⟨kr⟩
instance:Sz prog 320 1:=⟨kr⟩
instance:Tsn prog 166:=⟨kr⟩
instance:Zr prog 320 (.int .u64 0):=⟨kr⟩
instance:Hb prog 220:=⟨kr⟩
instance:Sc prog 320:=⟨kr⟩
instance:Hb prog 266:=⟨kr⟩
instance:Hb prog 288:=⟨kr⟩
instance:Hb prog 267:=⟨kr⟩
end Go.Proofs.Q
namespace Go.Proofs.Q
open Go.Sl Go.Sb Tryz
abbrev u4 (n:Int):Value:= .int .u32 n
abbrev pU (b:Nat):Value:= .pointer (some ⟨b,0,none⟩)
abbrev cI (b:Nat) (n:Int):a0E:=pts b (.cells #[.int .i64 n] 3 (0,0))
abbrev us (xs:List Int):List Value:=xs.map u4
abbrev slU (g n cap:Nat):Value:= .slice (some ⟨g,0,none⟩) n cap
abbrev f0V (g n cap:Nat) (xs:List Int):a0E:=b0I 47 1 (slU g n cap) n (us xs)
theorem d0C {xs:List Int} {i:Nat} {k:Int} (hk:k=i) (hi:i<xs.length):nth (us xs) (0+k.toNat*1)=some (u4 (xat xs i)):=by
 subst hk;rw[e0F,Int.toNat_natCast,Nat.zero_add,Nat.mul_one,List.getElem?_map,u2J hi];rfl
theorem f0K {xs:List Int} {i:Nat} {k v:Int} (hk:k=i):(us xs).set (0+k.toNat*1) (u4 v)=us (xs.set i v):=by
 subst hk;rw[Int.toNat_natCast,Nat.zero_add,Nat.mul_one,←List.map_set]
theorem z2Z (x:Int):a0G prog 267 #[u4 x] [] (a0T (.bool false) []):=by
 refine en func267 ntmps267 fun R w0=> ?_;refine go 13 ?_;exact rG (hu:=(by simp))
theorem v0Z (x y:Int):a0G prog 216 #[u4 x,u4 y] [] (a0T (.bool (decide (x<y))) []):=by
 refine en func216 ntmps216 fun R w0=> ?_;refine cg 8 (z2Z x) ?_;refine go 13 ?_;exact rG
theorem k1F (g n cap a b c:Nat) (xs:List Int) (w:Int) (hl:xs.length=n) (hn:n≤1000) (ha:a<n) (hb:b<n) (hw:0≤w∧w≤1000):
 a0G prog 288 #[slU g n cap,.int .i64 a,.int .i64 b,pU c] [f0V g n cap xs,cI c w] (b0P (fun y:Nat×Nat×Int=>(y.1=a∧y.2.1=b∨y.1=b∧y.2.1=a)∧w≤y.2.2∧y.2.2≤w+1) (fun y=> .tuple #[.int .i64 y.1,.int .i64 y.2.1]) (fun y=> [f0V g n cap xs,cI c y.2.2])):=by
 refine en func288 ntmps288 fun R w0=> ?_;refine go 8 ?_;refine tl 8 ?_;refine go 3 ?_;refine b0V (a0X Sc.o rfl gFd (d0C rfl (by omega))) ?_;refine go 3 ?_;refine b0V (a0X Sc.o rfl gFd (d0C rfl (by omega))) ?_;refine go 1 ?_;refine b0X rfl Hb.o rfl (v0Z _ _) gSp ?_;refine ns ?_;refine go 2 ?_;refine a0O rfl (fun hb18=> ?_) (fun hb18=> ?_)
 ·refine go 18 ?_;exact rE idh (b,a,w+1) ⟨.inr ⟨rfl,rfl⟩,by simp only;omega⟩
 ·refine go 10 ?_;exact rE idh (a,b,w) ⟨.inl ⟨rfl,rfl⟩,by simp only;omega⟩
theorem r2C (g n cap a b c s:Nat) (xs:List Int) (w:Int) (hl:xs.length=n) (hn:n≤1000) (ha:a<n) (hb:b<n) (hc:c<n) (hw:0≤w∧w≤900):
 a0G prog 266 #[slU g n cap,.int .i64 a,.int .i64 b,.int .i64 c,pU s] [f0V g n cap xs,cI s w] (b0P (fun y:Nat×Int=>(y.1=a∨y.1=b∨y.1=c)∧w≤y.2∧y.2≤w+3) (fun y=> .int .i64 y.1) (fun y=> [f0V g n cap xs,cI s y.2])):=by
 refine en func266 ntmps266 fun R w0=> ?_;refine ce 11 (k1F g n cap a b s xs w hl hn ha hb (by omega)) ?_;rintro⟨a1,b1,w1⟩ ⟨h1,h2,h3⟩;refine ns ?_;refine go 1 ?_;dsimp only at h1 h2 h3 ⊢;refine ce 12 (k1F g n cap b1 c s xs w1 hl hn (by omega) hc (by omega)) ?_;rintro⟨b2,c2,w2⟩ ⟨k1,k2,k3⟩;refine ns ?_;refine go 1 ?_;dsimp only at k1 k2 k3 ⊢;refine ce 12 (k1F g n cap a1 b2 s xs w2 hl hn (by omega) (by omega) (by omega)) ?_;rintro⟨a3,b3,w3⟩ ⟨j1,j2,j3⟩;refine ns ?_;refine go 1 ?_;dsimp only at j1 j2 j3 ⊢;refine go 12 ?_;exact rE idh (b3,w3) ⟨by simp only;omega,by simp only;omega⟩
theorem w2C (g n cap a b:Nat) (xs:List Int) (hl:xs.length=n) (hn:n≤16) (hab:a+13≤b) (hb:b≤n):
 a0G prog 213 #[slU g n cap,.int .i64 a,.int .i64 b] [f0V g n cap xs] (b0P (fun y:Nat×Int=>(a≤y.1∧y.1<b)∧(y.2=0∨y.2=1)) (fun y=> .tuple #[.int .i64 y.1,.int .i64 y.2]) (fun _=> [f0V g n cap xs])):=by
 obtain⟨l,hl2⟩: ∃l:Nat,b=a+l:=⟨b-a,by omega⟩;subst hl2;refine en func213 ntmps213 fun R w0=> ?_;refine go 11 ?_;rw[show((a+l:Nat):Int)- (a:Int)=(l:Int) by omega];refine go 5 ?_;refine al fun b9=> ?_;refine go 9 ?_;rw[show(a:Int)+(l:Int)/4*1=((a+l/4*1:Nat):Int) by omega];refine go 10 ?_;rw[show(a:Int)+(l:Int)/4*2=((a+l/4*2:Nat):Int) by omega];refine go 10 ?_;rw[show(a:Int)+(l:Int)/4*3=((a+l/4*3:Nat):Int) by omega];refine ce 26 (r2C g n cap (a+l/4*1) (a+l/4*2) (a+l/4*3) b9 xs 0 hl (by omega) (by omega) (by omega) (by omega) (by omega)) ?_;rintro⟨j,w⟩ ⟨h1,h2,h3⟩;refine ns ?_;dsimp only at h1 h2 h3 ⊢;refine go 15 ?_;refine a0O rfl (fun hb51=> ?_) (fun hb51=> ?_)
 ·refine go 7 ?_;exact rE idh (j,1) ⟨by simp only;omega,.inr rfl⟩
 ·refine go 14 ?_;exact rE idh (j,0) ⟨by simp only;omega,.inl rfl⟩
theorem f0L (xs:List Int):(us xs).length=xs.length:=List.length_map ..
theorem r2D (g n cap a b:Nat) (xs:List Int) (hl:xs.length=n) (hn:n≤1000) (hab:a≤b) (hb:b≤n) (hnd:xs.Nodup):
 a0G prog 210 #[slU g n cap,.int .i64 a,.int .i64 b] [f0V g n cap xs] (b0P (fun ys:List Int=>SP a b xs ys∧Srt a b ys) (fun _=> .tuple #[]) (fun ys=> [f0V g n cap ys])):=by
 refine en func210 ntmps210 fun R w0=> ?_;refine go 6 ?_;rw[show(a:Int)+1=((a+1:Nat):Int) by omega];refine go 2 ?_;refine a0V (X:= {y:Nat×List Int // a+1≤y.1∧(y.1≤b∨y.1=a+1)∧SP a b xs y.2∧Srt a y.1 y.2}) (fun y=> [(0,slU g n cap),(1,.int .i64 a),(2,.int .i64 b),(6,.int .i64 y.1.1)]) (fun y=> [f0V g n cap y.1.2,R]) (fun y=>b+1-y.1.1) ⟨(a+1,xs),Nat.le_refl _,.inr rfl,SP.refl _ _ _,fun i j _ _ _=>by omega⟩ gSu gSp ?_;rintro⟨⟨i,ys⟩,hi,hib,hsp,hs⟩ m0 hm0
 try simp only at hm0
 try dsimp only
 dsimp only at hi hib hsp hs;refine go 8 ?_;refine a0O rfl (fun hb12=> ?_) (fun hb12=> ?_)
 ·have hib2:i<b:=by have:=of_decide_eq_true hb12;omega
  have hyl:=hsp.len;refine go 11 ?_;refine a0V (X:= {y:Nat×List Int // SP a b xs y.2∧Ins a i y.1 y.2}) (fun y=> [(0,slU g n cap),(1,.int .i64 a),(2,.int .i64 b),(6,.int .i64 i),(7,.int .i64 y.1.1)]) (fun y=> [f0V g n cap y.1.2,R]) (fun y=>y.1.1) ⟨(i,ys),hsp,Ins.begin hs (by omega)⟩ gSu gSp ?_;rintro⟨⟨j,zs⟩,hz,hins⟩ m2 hm2
  try simp only at hm2
  try dsimp only
  dsimp only at hz hins;have hzl:=hz.len;have hle:=hins.le;refine go 2 ?_;by_cases hja:a<j
  ·refine tl 13 ?_;refine go 7 ?_;refine n0H (wg rfl rfl rfl (wTT gT)) (a0X Sc.o rfl gFd (d0C rfl (by omega))) ?_;refine go 4 ?_;refine n0H (wg rfl rfl rfl (wTT gT)) (a0X Sc.o rfl gFd (d0C (i:=j-1) (by omega) (by omega))) ?_;refine go 2 ?_;refine b0X rfl Hb.o rfl (v0Z _ _) gSp ?_;refine ns ?_;refine go 3 ?_;refine a0O rfl (fun hb30=> ?_) (fun hb30=> ?_)
   ·have hlt:=of_decide_eq_true hb30;refine go 4 ?_;refine mx (.r 0 9 (.r 10 3 (.two 9 (.hard 13 (.soft 14 (.hard 15 (.soft 16 (.hard 17 .done))))) 13 (.hard 9 (.soft 14 (.hard 15 (.soft 16 (.hard 17 .done)))))))) [] ?_;refine go 12 ?_;refine p0R rfl rfl ?_ ?_
    ·refine a0D (a0X Sc.o rfl gFd (d0C (i:=j-1) (by omega) (by omega))) ?_;refine go 3 ?_;refine a0D (a0X Sc.o rfl gFd (d0C rfl (by omega))) ?_;refine go 4 ?_;refine c0H (xs':=us (zs.set j (xat zs (j-1)))) Sz.o rfl rfl rfl gFd (by rw[f0L];omega) (f0K rfl) ?_;refine go 4 ?_;refine c0H (xs':=us (swp zs j (j-1))) Sz.o rfl rfl rfl gFd (by rw[f0L,List.length_set];omega) (f0K (by omega)) ?_;refine go 9 ?_;rw[show(j:Int)-1=((j-1:Nat):Int) by omega];exact rd idh (⟨(j-1,swp zs j (j-1)),hz.trans (SP.swap (by omega) (by omega) (by omega)),hins.step hja (by omega) hlt⟩)
    ·refine a0D (a0X Sc.o rfl gFd (d0C rfl (by omega))) ?_;refine go 3 ?_;refine a0D (a0X Sc.o rfl gFd (d0C (i:=j-1) (by omega) (by omega))) ?_;refine go 4 ?_;refine c0H (xs':=us (zs.set j (xat zs (j-1)))) Sz.o rfl rfl rfl gFd (by rw[f0L];omega) (f0K rfl) ?_;refine go 4 ?_;refine c0H (xs':=us (swp zs j (j-1))) Sz.o rfl rfl rfl gFd (by rw[f0L,List.length_set];omega) (f0K (by omega)) ?_;refine go 9 ?_;rw[show(j:Int)-1=((j-1:Nat):Int) by omega];exact rd idh (⟨(j-1,swp zs j (j-1)),hz.trans (SP.swap (by omega) (by omega) (by omega)),hins.step hja (by omega) hlt⟩)
   ·refine go 1 ?_;have hs2:Srt a (i+1) zs:=hins.done fun h=>by
     have h1:=of_decide_eq_false hb30;have h2:=c1N (hz.nodup hnd) (show j<zs.length by omega) (show j-1<zs.length by omega) (by omega);omega
    refine go 6 ?_;rw[show(i:Int)+1=((i+1:Nat):Int) by omega];exact rd idh (⟨(i+1,zs),by omega,.inl hib2,hz,hs2⟩)
  ·refine tl 13 ?_;refine go 20 ?_;have hs2:Srt a (i+1) zs:=hins.done fun h=>(hja h).elim;refine go 6 ?_;rw[show(i:Int)+1=((i+1:Nat):Int) by omega];exact rd idh (⟨(i+1,zs),by omega,.inl hib2,hz,hs2⟩)
 ·refine go 1 ?_;exact fE ys ⟨hsp,fun p q h1 h2 h3=>hs p q h1 h2 (by have:=of_decide_eq_false hb12;omega)⟩
theorem y2M (g n cap a b p:Nat) (xs:List Int) (hl:xs.length=n) (hn:n≤1000) (hab:a<b) (hb:b≤n) (hp:a≤p∧p<b) (hnd:xs.Nodup):
 a0G prog 218 #[slU g n cap,.int .i64 a,.int .i64 b,.int .i64 p] [f0V g n cap xs] (b0P (fun y:Nat×Bool×List Int=>SP a b xs y.2.2∧Mid a b y.1 y.2.2) (fun y=> .tuple #[.int .i64 y.1,.bool y.2.1]) (fun y=> [f0V g n cap y.2.2])):=by
 refine en func218 ntmps218 fun R w0=> ?_;refine go 6 ?_;refine r0I ([(0,slU g n cap),(1,.int .i64 a),(2,.int .i64 b)]) ([f0V g n cap (swp xs a p),R]) ?_ ?_
 ·refine mx (.r 0 7 (.r 8 3 (.two 7 (.hard 11 (.soft 12 (.hard 13 (.soft 14 (.hard 15 .done))))) 11 (.hard 7 (.soft 12 (.hard 13 (.soft 14 (.hard 15 .done)))))))) [] ?_;refine go 10 ?_;refine p0R rfl rfl ?_ ?_
  ·refine a0D (a0X Sc.o rfl gFd (d0C rfl (by omega))) ?_;refine go 3 ?_;refine a0D (a0X Sc.o rfl gFd (d0C rfl (by omega))) ?_;refine go 4 ?_;refine c0H (xs':=us (xs.set a (xat xs p))) Sz.o rfl rfl rfl gFd (by rw[f0L];omega) (f0K rfl) ?_;refine go 4 ?_;refine c0H (xs':=us (swp xs a p)) Sz.o rfl rfl rfl gFd (by rw[f0L,List.length_set];omega) (f0K rfl) ?_;refine go 3 ?_;exact h0W idh gSu gSp
  ·refine a0D (a0X Sc.o rfl gFd (d0C rfl (by omega))) ?_;refine go 3 ?_;refine a0D (a0X Sc.o rfl gFd (d0C rfl (by omega))) ?_;refine go 4 ?_;refine c0H (xs':=us (xs.set a (xat xs p))) Sz.o rfl rfl rfl gFd (by rw[f0L];omega) (f0K rfl) ?_;refine go 4 ?_;refine c0H (xs':=us (swp xs a p)) Sz.o rfl rfl rfl gFd (by rw[f0L,List.length_set];omega) (f0K rfl) ?_;refine go 3 ?_;exact h0W idh gSu gSp
 refine go 1 ?_;obtain⟨ys,hys⟩: ∃ys,swp xs a p=ys:=⟨_,rfl⟩;rw[hys];have hsp:SP a b xs ys:=by rw[←hys];exact SP.swap (by omega) (by omega) (by omega)
 clear hys;have hyl:=hsp.len;have hny:=hsp.nodup hnd;refine go 8 ?_;rw[show(a:Int)+1=((a+1:Nat):Int) by omega,show(b:Int)-1=((b-1:Nat):Int) by omega];refine go 1 ?_;refine j0D (X:= {i:Nat // Par a b i (b-1) ys∧(i≤b-1→xat ys a<xat ys i)}) (fun y=> [(0,slU g n cap),(1,.int .i64 a),(10,.int .i64 y.1),(11,.int .i64 ((b-1:Nat):Int))]) (fun y=> [f0V g n cap ys,R]) ?_ ?_
 ·refine go 1 ?_;refine a0V (X:= {i:Nat // Par a b i (b-1) ys}) (fun y=> [(0,slU g n cap),(1,.int .i64 a),(10,.int .i64 y.1),(11,.int .i64 ((b-1:Nat):Int))]) (fun y=> [f0V g n cap ys,R]) (fun y=>b-y.1) ⟨a+1,Par.new hab⟩ gSu gSp ?_;rintro⟨i,hpr⟩ m0 hm0
  try simp only at hm0
  try dsimp only
  have hle:=hpr.le;refine go 2 ?_;by_cases hij:i≤b-1
  ·refine tl 12 ?_;refine go 7 ?_;refine n0H (wg rfl rfl rfl (wTT gT)) (a0X Sc.o rfl gFd (d0C rfl (by omega))) ?_;refine go 3 ?_;refine n0H (wg rfl rfl rfl (wTT gT)) (a0X Sc.o rfl gFd (d0C rfl (by omega))) ?_;refine go 2 ?_;refine b0X rfl Hb.o rfl (v0Z _ _) gSp ?_;refine ns ?_;refine go 3 ?_;refine a0O rfl (fun hb43=> ?_) (fun hb43=> ?_)
   ·refine go 8 ?_;rw[show(i:Int)+1=((i+1:Nat):Int) by omega];exact rd idh (⟨i+1,hpr.inc hij (of_decide_eq_true hb43)⟩)
   ·refine go 1 ?_;exact me idh (⟨i,hpr,fun h=>by have h1:=of_decide_eq_false hb43;have h2:=c1N hny (show i<ys.length by omega) (show a<ys.length by omega) (by omega);omega⟩)
  ·refine tl 12 ?_;refine go 19 ?_;exact me idh (⟨i,hpr,fun h=>(hij h).elim⟩)
 rintro⟨i,hpr,hup⟩;dsimp only at hpr hup ⊢;refine j0D (X:= {j:Nat // Par a b i j ys∧(i≤j→xat ys a<xat ys i∧xat ys j<xat ys a)}) (fun y=> [(0,slU g n cap),(1,.int .i64 a),(10,.int .i64 i),(11,.int .i64 y.1)]) (fun y=> [f0V g n cap ys,R]) ?_ ?_
 ·refine go 1 ?_;refine a0V (X:= {j:Nat // Par a b i j ys∧j≤b-1}) (fun y=> [(0,slU g n cap),(1,.int .i64 a),(10,.int .i64 i),(11,.int .i64 y.1)]) (fun y=> [f0V g n cap ys,R]) (fun y=>y.1) ⟨b-1,hpr,Nat.le_refl _⟩ gSu gSp ?_;rintro⟨j,hpj,hjb⟩ m2 hm2
  try simp only at hm2
  try dsimp only
  have hle:=hpj.le;refine go 2 ?_;by_cases hij:i≤j
  ·refine tl 12 ?_;refine go 7 ?_;refine n0H (wg rfl rfl rfl (wTT gT)) (a0X Sc.o rfl gFd (d0C rfl (by omega))) ?_;refine go 3 ?_;refine n0H (wg rfl rfl rfl (wTT gT)) (a0X Sc.o rfl gFd (d0C rfl (by omega))) ?_;refine go 2 ?_;refine b0X rfl Hb.o rfl (v0Z _ _) gSp ?_;refine ns ?_;refine go 4 ?_;refine a0O rfl (fun hb60=> ?_) (fun hb60=> ?_)
   ·have hgt2:xat ys a<xat ys j:=by
     have h1: ¬xat ys j<xat ys a:=by simpa using hb60
     have h2:=c1N hny (show j<ys.length by omega) (show a<ys.length by omega) (by omega);omega
    refine go 8 ?_;rw[show(j:Int)-1=((j-1:Nat):Int) by omega];exact rd idh (⟨j-1,hpj.dec hij hgt2,by omega⟩)
   ·refine go 1 ?_;exact me idh (⟨j,hpj,fun h=>⟨hup (by omega),by simpa using hb60⟩⟩)
  ·refine tl 12 ?_;refine go 20 ?_;exact me idh (⟨j,hpj,fun h=>(hij h).elim⟩)
 rintro⟨j,hpj,hst⟩;dsimp only at hpj hst ⊢;have hle:=hpj.le;refine go 8 ?_;refine a0O rfl (fun hb65=> ?_) (fun hb65=> ?_)
 ·have hgt:j<i:=by have:=of_decide_eq_true hb65;omega
  refine r0I ([(0,slU g n cap),(1,.int .i64 a),(11,.int .i64 j)]) ([f0V g n cap (swp ys j a),R]) ?_ ?_
  ·refine mx (.r 0 7 (.r 8 3 (.two 7 (.hard 11 (.soft 12 (.hard 13 (.soft 14 (.hard 15 .done))))) 11 (.hard 7 (.soft 12 (.hard 13 (.soft 14 (.hard 15 .done)))))))) [] ?_;refine go 10 ?_;refine p0R rfl rfl ?_ ?_
   ·refine a0D (a0X Sc.o rfl gFd (d0C rfl (by omega))) ?_;refine go 3 ?_;refine a0D (a0X Sc.o rfl gFd (d0C rfl (by omega))) ?_;refine go 4 ?_;refine c0H (xs':=us (ys.set j (xat ys a))) Sz.o rfl rfl rfl gFd (by rw[f0L];omega) (f0K rfl) ?_;refine go 4 ?_;refine c0H (xs':=us (swp ys j a)) Sz.o rfl rfl rfl gFd (by rw[f0L,List.length_set];omega) (f0K rfl) ?_;refine go 3 ?_;exact h0W idh gSu gSp
   ·refine a0D (a0X Sc.o rfl gFd (d0C rfl (by omega))) ?_;refine go 3 ?_;refine a0D (a0X Sc.o rfl gFd (d0C rfl (by omega))) ?_;refine go 4 ?_;refine c0H (xs':=us (ys.set j (xat ys a))) Sz.o rfl rfl rfl gFd (by rw[f0L];omega) (f0K rfl) ?_;refine go 4 ?_;refine c0H (xs':=us (swp ys j a)) Sz.o rfl rfl rfl gFd (by rw[f0L,List.length_set];omega) (f0K rfl) ?_;refine go 3 ?_;exact h0W idh gSu gSp
  refine go 7 ?_;exact rE idh (j,true,swp ys j a) ⟨hsp.trans (SP.swap (by omega) (by omega) (by omega)),hpj.mid (by omega) hgt⟩
 ·have hle2:i≤j:=by have:=of_decide_eq_false hb65;omega
  obtain⟨hs1,hs2⟩:=hst hle2;have hlt:i<j:=by
   rcases Nat.lt_or_eq_of_le hle2 with h|h
   ·exact h
   ·rw[←h]at hs2;omega
  refine go 2 ?_;refine r0I ([(0,slU g n cap),(1,.int .i64 a),(10,.int .i64 i),(11,.int .i64 j)]) ([f0V g n cap (swp ys i j),R]) ?_ ?_
  ·refine mx (.r 0 7 (.r 8 3 (.two 7 (.hard 11 (.soft 12 (.hard 13 (.soft 14 (.hard 15 .done))))) 11 (.hard 7 (.soft 12 (.hard 13 (.soft 14 (.hard 15 .done)))))))) [] ?_;refine go 10 ?_;refine p0R rfl rfl ?_ ?_
   ·refine a0D (a0X Sc.o rfl gFd (d0C rfl (by omega))) ?_;refine go 3 ?_;refine a0D (a0X Sc.o rfl gFd (d0C rfl (by omega))) ?_;refine go 4 ?_;refine c0H (xs':=us (ys.set i (xat ys j))) Sz.o rfl rfl rfl gFd (by rw[f0L];omega) (f0K rfl) ?_;refine go 4 ?_;refine c0H (xs':=us (swp ys i j)) Sz.o rfl rfl rfl gFd (by rw[f0L,List.length_set];omega) (f0K rfl) ?_;refine go 3 ?_;exact h0W idh gSu gSp
   ·refine a0D (a0X Sc.o rfl gFd (d0C rfl (by omega))) ?_;refine go 3 ?_;refine a0D (a0X Sc.o rfl gFd (d0C rfl (by omega))) ?_;refine go 4 ?_;refine c0H (xs':=us (ys.set i (xat ys j))) Sz.o rfl rfl rfl gFd (by rw[f0L];omega) (f0K rfl) ?_;refine go 4 ?_;refine c0H (xs':=us (swp ys i j)) Sz.o rfl rfl rfl gFd (by rw[f0L,List.length_set];omega) (f0K rfl) ?_;refine go 3 ?_;exact h0W idh gSu gSp
  refine go 6 ?_;rw[show(i:Int)+1=((i+1:Nat):Int) by omega];refine go 7 ?_;rw[show(j:Int)-1=((j-1:Nat):Int) by omega];refine go 3 ?_;refine a0V (X:= {y:Nat×Nat×List Int // SP a b xs y.2.2∧Par a b y.1 y.2.1 y.2.2}) (fun y=> [(0,slU g n cap),(1,.int .i64 a),(10,.int .i64 y.1.1),(11,.int .i64 y.1.2.1)]) (fun y=> [f0V g n cap y.1.2.2,R]) (fun y=>y.1.2.1+1-y.1.1) ⟨(i+1,j-1,swp ys i j),hsp.trans (SP.swap (by omega) (by omega) (by omega)),hpj.swap (by omega) hlt hs1 hs2⟩ gSu gSp ?_;rintro⟨⟨i4,j4,zs⟩,hz,hp4⟩ m4 hm4
  try simp only at hm4
  try dsimp only
  dsimp only at hz hp4;have hzl:=hz.len;have hnz:=hz.nodup hnd;have hle4:=hp4.le;refine go 1 ?_;refine j0D (X:= {i:Nat // Par a b i j4 zs∧i4≤i∧(i≤j4→xat zs a<xat zs i)}) (fun y=> [(0,slU g n cap),(1,.int .i64 a),(10,.int .i64 y.1),(11,.int .i64 j4)]) (fun y=> [f0V g n cap zs,R]) ?_ ?_
  ·refine go 1 ?_;refine a0V (X:= {i:Nat // Par a b i j4 zs∧i4≤i}) (fun y=> [(0,slU g n cap),(1,.int .i64 a),(10,.int .i64 y.1),(11,.int .i64 j4)]) (fun y=> [f0V g n cap zs,R]) (fun y=>b-y.1) ⟨i4,hp4,Nat.le_refl _⟩ gSu gSp ?_;rintro⟨i6,hp6,h46⟩ m6 hm6
   try simp only at hm6
   try dsimp only
   have hle6:=hp6.le;refine go 2 ?_;by_cases hij:i6≤j4
   ·refine tl 12 ?_;refine go 7 ?_;refine n0H (wg rfl rfl rfl (wTT gT)) (a0X Sc.o rfl gFd (d0C rfl (by omega))) ?_;refine go 3 ?_;refine n0H (wg rfl rfl rfl (wTT gT)) (a0X Sc.o rfl gFd (d0C rfl (by omega))) ?_;refine go 2 ?_;refine b0X rfl Hb.o rfl (v0Z _ _) gSp ?_;refine ns ?_;refine go 3 ?_;refine a0O rfl (fun hb112=> ?_) (fun hb112=> ?_)
    ·refine go 8 ?_;rw[show(i6:Int)+1=((i6+1:Nat):Int) by omega];exact rd idh (⟨i6+1,hp6.inc hij (of_decide_eq_true hb112),by omega⟩)
    ·refine go 1 ?_;exact me idh (⟨i6,hp6,h46,fun h=>by have h1:=of_decide_eq_false hb112;have h2:=c1N hnz (show i6<zs.length by omega) (show a<zs.length by omega) (by omega);omega⟩)
   ·refine tl 12 ?_;refine go 19 ?_;exact me idh (⟨i6,hp6,h46,fun h=>(hij h).elim⟩)
  rintro⟨i6,hp6,h46,hup6⟩;dsimp only at hp6 h46 hup6 ⊢;refine j0D (X:= {j:Nat // Par a b i6 j zs∧j≤j4∧(i6≤j→xat zs a<xat zs i6∧xat zs j<xat zs a)}) (fun y=> [(0,slU g n cap),(1,.int .i64 a),(10,.int .i64 i6),(11,.int .i64 y.1)]) (fun y=> [f0V g n cap zs,R]) ?_ ?_
  ·refine go 1 ?_;refine a0V (X:= {j:Nat // Par a b i6 j zs∧j≤j4}) (fun y=> [(0,slU g n cap),(1,.int .i64 a),(10,.int .i64 i6),(11,.int .i64 y.1)]) (fun y=> [f0V g n cap zs,R]) (fun y=>y.1) ⟨j4,hp6,Nat.le_refl _⟩ gSu gSp ?_;rintro⟨j8,hp8,h48⟩ m8 hm8
   try simp only at hm8
   try dsimp only
   have hle8:=hp8.le;refine go 2 ?_;by_cases hij:i6≤j8
   ·refine tl 12 ?_;refine go 7 ?_;refine n0H (wg rfl rfl rfl (wTT gT)) (a0X Sc.o rfl gFd (d0C rfl (by omega))) ?_;refine go 3 ?_;refine n0H (wg rfl rfl rfl (wTT gT)) (a0X Sc.o rfl gFd (d0C rfl (by omega))) ?_;refine go 2 ?_;refine b0X rfl Hb.o rfl (v0Z _ _) gSp ?_;refine ns ?_;refine go 4 ?_;refine a0O rfl (fun hb129=> ?_) (fun hb129=> ?_)
    ·have hgt3:xat zs a<xat zs j8:=by
      have h1: ¬xat zs j8<xat zs a:=by simpa using hb129
      have h2:=c1N hnz (show j8<zs.length by omega) (show a<zs.length by omega) (by omega);omega
     refine go 8 ?_;rw[show(j8:Int)-1=((j8-1:Nat):Int) by omega];exact rd idh (⟨j8-1,hp8.dec hij hgt3,by omega⟩)
    ·refine go 1 ?_;exact me idh (⟨j8,hp8,h48,fun h=>⟨hup6 (by omega),by simpa using hb129⟩⟩)
   ·refine tl 12 ?_;refine go 20 ?_;exact me idh (⟨j8,hp8,h48,fun h=>(hij h).elim⟩)
  rintro⟨j8,hp8,h48,hst8⟩;dsimp only at hp8 h48 hst8 ⊢;have hle8:=hp8.le;refine go 8 ?_;refine a0O rfl (fun hb134=> ?_) (fun hb134=> ?_)
  ·have hgt8:j8<i6:=by have:=of_decide_eq_true hb134;omega
   refine go 2 ?_;refine r0I ([(0,slU g n cap),(1,.int .i64 a),(11,.int .i64 j8)]) ([f0V g n cap (swp zs j8 a),R]) ?_ ?_
   ·refine mx (.r 0 7 (.r 8 3 (.two 7 (.hard 11 (.soft 12 (.hard 13 (.soft 14 (.hard 15 .done))))) 11 (.hard 7 (.soft 12 (.hard 13 (.soft 14 (.hard 15 .done)))))))) [] ?_;refine go 10 ?_;refine p0R rfl rfl ?_ ?_
    ·refine a0D (a0X Sc.o rfl gFd (d0C rfl (by omega))) ?_;refine go 3 ?_;refine a0D (a0X Sc.o rfl gFd (d0C rfl (by omega))) ?_;refine go 4 ?_;refine c0H (xs':=us (zs.set j8 (xat zs a))) Sz.o rfl rfl rfl gFd (by rw[f0L];omega) (f0K rfl) ?_;refine go 4 ?_;refine c0H (xs':=us (swp zs j8 a)) Sz.o rfl rfl rfl gFd (by rw[f0L,List.length_set];omega) (f0K rfl) ?_;refine go 3 ?_;exact h0W idh gSu gSp
    ·refine a0D (a0X Sc.o rfl gFd (d0C rfl (by omega))) ?_;refine go 3 ?_;refine a0D (a0X Sc.o rfl gFd (d0C rfl (by omega))) ?_;refine go 4 ?_;refine c0H (xs':=us (zs.set j8 (xat zs a))) Sz.o rfl rfl rfl gFd (by rw[f0L];omega) (f0K rfl) ?_;refine go 4 ?_;refine c0H (xs':=us (swp zs j8 a)) Sz.o rfl rfl rfl gFd (by rw[f0L,List.length_set];omega) (f0K rfl) ?_;refine go 3 ?_;exact h0W idh gSu gSp
   refine go 7 ?_;exact rE idh (j8,false,swp zs j8 a) ⟨hz.trans (SP.swap (by omega) (by omega) (by omega)),hp8.mid (by omega) hgt8⟩
  ·have hle9:i6≤j8:=by have:=of_decide_eq_false hb134;omega
   obtain⟨hs3,hs4⟩:=hst8 hle9;have hlt8:i6<j8:=by
    rcases Nat.lt_or_eq_of_le hle9 with h|h
    ·exact h
    ·rw[←h]at hs4;omega
   refine go 2 ?_;refine r0I ([(0,slU g n cap),(1,.int .i64 a),(10,.int .i64 i6),(11,.int .i64 j8)]) ([f0V g n cap (swp zs i6 j8),R]) ?_ ?_
   ·refine mx (.r 0 7 (.r 8 3 (.two 7 (.hard 11 (.soft 12 (.hard 13 (.soft 14 (.hard 15 .done))))) 11 (.hard 7 (.soft 12 (.hard 13 (.soft 14 (.hard 15 .done)))))))) [] ?_;refine go 10 ?_;refine p0R rfl rfl ?_ ?_
    ·refine a0D (a0X Sc.o rfl gFd (d0C rfl (by omega))) ?_;refine go 3 ?_;refine a0D (a0X Sc.o rfl gFd (d0C rfl (by omega))) ?_;refine go 4 ?_;refine c0H (xs':=us (zs.set i6 (xat zs j8))) Sz.o rfl rfl rfl gFd (by rw[f0L];omega) (f0K rfl) ?_;refine go 4 ?_;refine c0H (xs':=us (swp zs i6 j8)) Sz.o rfl rfl rfl gFd (by rw[f0L,List.length_set];omega) (f0K rfl) ?_;refine go 3 ?_;exact h0W idh gSu gSp
    ·refine a0D (a0X Sc.o rfl gFd (d0C rfl (by omega))) ?_;refine go 3 ?_;refine a0D (a0X Sc.o rfl gFd (d0C rfl (by omega))) ?_;refine go 4 ?_;refine c0H (xs':=us (zs.set i6 (xat zs j8))) Sz.o rfl rfl rfl gFd (by rw[f0L];omega) (f0K rfl) ?_;refine go 4 ?_;refine c0H (xs':=us (swp zs i6 j8)) Sz.o rfl rfl rfl gFd (by rw[f0L,List.length_set];omega) (f0K rfl) ?_;refine go 3 ?_;exact h0W idh gSu gSp
   refine go 6 ?_;rw[show(i6:Int)+1=((i6+1:Nat):Int) by omega];refine go 6 ?_;rw[show(j8:Int)-1=((j8-1:Nat):Int) by omega];exact rd idh (⟨(i6+1,j8-1,swp zs i6 j8),hz.trans (SP.swap (by omega) (by omega) (by omega)),hp8.swap (by omega) hlt8 hs3 hs4⟩)
end Go.Proofs.Q
