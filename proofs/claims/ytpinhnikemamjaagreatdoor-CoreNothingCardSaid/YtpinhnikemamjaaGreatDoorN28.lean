/- Part of the proof; no statement of its own. -/
import Derived.Test.YtpinhnikemamjaaGreatDoorN18
import Derived.Test.YtpinhnikemamjaaGreatDoorN23
import Derived.Test.YtpinhnikemamjaaGreatDoorN27
import Derived.Test.YtpinhnikemamjaaGreatDoorN10
import Derived.Test.YtpinhnikemamjaaGreatDoorN16
import Derived.Test.YtpinhnikemamjaaGreatDoorProg
import Derived.KernelRfl
import Derived.Test.YtpinhnikemamjaaGreatDoorN08
import Derived.Test.YtpinhnikemamjaaGreatDoorN06
import Derived.Test.YtpinhnikemamjaaGreatDoorN07
set_option linter.all false
set_option maxRecDepth 4000
set_option maxHeartbeats 4000000
attribute [local irreducible] Go.Sl.a0O Go.Sl.OW Go.Sl.CW Go.Sl.OS Go.Sl.OM Go.Sl.OMf Go.Sl.KM
namespace Go.Proofs.Q
open Go.Sl Go.Sb Tryz
theorem v1D (at_:Int) (d:B) (done:Bool):o0V at_ d done []=if done then []else [(at_,d)]:=rfl
theorem p1W (at_:Int) (d:B) (done:Bool) (x:Lf) (r:List Lf):o0V at_ d done (x::r)=(if done=false∧at_<x.1 then [(at_,d)]else [])++(if x.1=at_ then []else [x])++o0V at_ d (done || decide (at_<x.1)) r:=by cases x;rfl
theorem v1E (at_:Int) (d:B): ∀(m:List Lf) (done:Bool),(o0V at_ d done m).length≤m.length*2+1
 | [],done=>by rw[v1D];split<;>simp
 |x::r,done=>by
  rw[p1W];have:=v1E at_ d r (done || decide (at_<x.1));simp only[List.length_append,List.length_cons];have h1:(if done=false∧at_<x.1 then [(at_,d)]else []).length≤1:=by split<;>simp
  have h2:(if x.1=at_ then []else [x]).length≤1:=by split<;>simp
  omega
abbrev t0I (v:Value) (out:List Lf):a0C:=b0H 259 2 v out.length (out.flatMap lfC)
theorem y1A (H:b0A) (mv:Value) (m:List Lf) (at_:Int) (d:B) (hm:a1D H mv m) (hml:m.length≤100000) (hd:d.length≤100000):a0F prog 175 #[mv,.int .i64 at_,b0B d] [b0Z H] (b0N (fun _:Value=>True) id (fun v=> [t0I v (j0X m at_ d),b0Z H])):=by
 obtain⟨p,cap,rfl,hcap⟩:=d0Q hm;have hlen:=v1E at_ d m (a0R d);refine en func175 ntmps175 fun R w0=> ?_;refine go 7 ?_;refine bl fun b11=> ?_;refine go 4 ?_;refine b0V (fun w h=>n0U 2 h) ?_;refine cg 2 (v0Y d (by omega)) ?_;refine go 12 ?_;refine a0V (X:= {x:Nat×Bool×List Lf×Value // x.1≤m.length∧j0X m at_ d=x.2.2.1++o0V at_ d x.2.1 (m.drop x.1)}) (fun y=> [(1,.int .i64 at_),(2,b0B d),(7,y.1.2.2.2),(8,.bool y.1.2.1),(14,.slice p m.length cap),(15,.int .i64 m.length),(16,.int .i64 y.1.1)]) (fun y=> [t0I y.1.2.2.2 y.1.2.2.1,b0Z H,R]) (fun y=>m.length-y.1.1) ⟨(0,a0R d,[],.slice (some ⟨b11,0,none⟩) 0 0),Nat.zero_le _,rfl⟩ gSu gSp ?_;rintro⟨⟨i,dn,out,v⟩,hi,he⟩ m0 hm0
 try simp only at hm0
 try dsimp only
 simp only at hi he;have hol:out.length≤m.length*2+1:=by
  have h1:=congrArg List.length he;have h2:(j0X m at_ d).length≤m.length*2+1:=hlen;rw[List.length_append]at h1;omega
 refine go 6 ?_;refine a0P rfl (fun hb17=> ?_) (fun hb17=> ?_)
 ·have hil:i<m.length:=by have:=of_decide_eq_true hb17;omega
  obtain⟨b,o,cap',cur,hv,hc,hmem,hcut,hlen2⟩:=g0G hm (by omega);cases hv
  have hcu:(cur.drop (o+i*2)).take 2=lfC m[i]:=(h0R hcut hil).trans (q0E (f:=lfC) (size:=2) (fun _=>rfl) m hil);rw[List.drop_eq_getElem_cons hil,p1W]at he;refine go 7 ?_;refine a0D (e0U (vs:=lfC m[i]) Ag.o rfl gFd hmem hcu rfl (by decide)) ?_;refine al fun b10=> ?_;refine go 3 ?_;refine i0P (X:= {x:Bool×List Lf×Value // j0X m at_ d=x.2.1++((if m[i].1=at_ then []else [m[i]])++o0V at_ d x.1 (m.drop (i+1)))∧x.2.1.length≤m.length*2+2}) (fun y=> [(1,.int .i64 at_),(2,b0B d),(7,y.1.2.2),(8,.bool y.1.1),(10,.pointer (some ⟨b10,0,none⟩)),(14,.slice (some ⟨b,o,none⟩) m.length cap),(15,.int .i64 m.length),(16,.int .i64 i)]) (fun y=> [t0I y.1.2.2 y.1.2.1,b0Z H,pts b10 (.cells (lfC m[i]).toArray 259 (0,0)),R]) ?_ ?_
  ·refine go 1 ?_;cases hdn:dn
   ·refine go 11 ?_;refine a0P rfl (fun hb27=> ?_) (fun hb27=> ?_)
    ·have hgt:at_<m[i].1:=by simpa using hb27
     rw[hdn,if_pos ⟨rfl,hgt⟩,Bool.false_or,decide_eq_true hgt]at he;refine go 6 ?_;refine bl fun b32=> ?_;refine(c0Z Tsl.o Ttb.o Zr.o rfl rfl rfl gFd (e0Z Tsl.o (by simp;rfl) (by simp) (by simp[Value.oneCell'])) (by simp only[maxLen];omega) (by omega) (fun v33 hv33=> ?_));refine go 2 ?_;rw[show out.flatMap lfC++ [Value.int .i64 at_,b0B d]=(out++ [(at_,d)]).flatMap lfC by simp,show out.length+1=(out++ [(at_,d)]).length by simp];refine go 4 ?_;exact me idh (⟨(true,out++ [(at_,d)],v33),by(show j0X m at_ d=(out++ [(at_,d)])++_);rw[he];simp only[List.append_assoc],by(show(out++ [(at_,d)]).length≤_);rw[List.length_append,List.length_singleton];omega⟩)
    ·have hgt: ¬at_<m[i].1:=by simpa using hb27
     rw[hdn,if_neg (fun h=>hgt h.2),Bool.false_or,decide_eq_false hgt]at he;refine go 1 ?_;exact me idh (⟨(false,out,v),by(show j0X m at_ d=out++_);rw[he];simp only[List.nil_append],by(show out.length≤_);omega⟩)
   ·refine go 13 ?_;exact me idh (⟨(true,out,v),by(show j0X m at_ d=out++_);rw[he,hdn,if_neg (fun h=>by cases h.1),Bool.true_or];simp only[List.nil_append],by(show out.length≤_);omega⟩)
  rintro⟨⟨dn',out',v'⟩,he',hol'⟩;dsimp only at he' hol' ⊢;refine go 8 ?_;refine a0P rfl (fun hb37=> ?_) (fun hb37=> ?_)
  ·have hne: ¬m[i].1=at_:=by simpa using hb37
   rw[if_neg hne]at he';refine go 2 ?_;refine a0D (a0L (v:= #[.int .i64 m[i].1,b0B m[i].2]) Ag.o rfl (by simp) (by rfl)) ?_;refine bl fun b40=> ?_;refine(c0Z Tsl.o Ttb.o Zr.o rfl rfl rfl gFd (e0Z Tsl.o (by simp;rfl) (by simp) (by simp[Value.oneCell'])) (by simp only[maxLen];omega) (by omega) (fun v41 hv41=> ?_));refine go 2 ?_;rw[show out'.flatMap lfC++ [Value.int .i64 m[i].1,b0B m[i].2]=(out'++ [m[i]]).flatMap lfC by simp,show out'.length+1=(out'++ [m[i]]).length by simp];refine go 5 ?_;exact rd idh (⟨(i+1,dn',out'++ [m[i]],v41),hil,by(show j0X m at_ d=(out'++ [m[i]])++_);rw[he'];simp only[List.append_assoc]⟩)
  ·have hne:m[i].1=at_:=by simpa using hb37
   rw[if_pos hne]at he';refine go 6 ?_;exact rd idh (⟨(i+1,dn',out',v'),hil,by(show j0X m at_ d=out'++_);rw[he'];simp only[List.nil_append]⟩)
 ·obtain rfl:i=m.length:=by have:=of_decide_eq_false hb17;omega
  rw[List.drop_length,v1D]at he;refine go 9 ?_;refine a0P rfl (fun hb44=> ?_) (fun hb44=> ?_)
  ·have hdn:dn=false:=by simpa using hb44
   rw[hdn,if_neg (by simp)]at he;refine go 5 ?_;refine bl fun b49=> ?_;refine(c0Z Tsl.o Ttb.o Zr.o rfl rfl rfl gFd (e0Z Tsl.o (by simp;rfl) (by simp) (by simp[Value.oneCell'])) (by simp only[maxLen];omega) (by omega) (fun v50 hv50=> ?_));refine go 2 ?_;rw[show out.flatMap lfC++ [Value.int .i64 at_,b0B d]=(out++ [(at_,d)]).flatMap lfC by simp,show out.length+1=(out++ [(at_,d)]).length by simp,←he];refine go 7 ?_;exact rE idh v50 trivial
  ·have hdn:dn=true:=by simpa using hb44
   rw[hdn,if_pos rfl,List.append_nil]at he;rw[←he];refine go 8 ?_;exact rE idh v trivial
theorem q1L (H:b0A) (mv:Value) (m:List Lf) (f u:Int) (hm:a1D H mv m) (hml:m.length≤100000):a0F prog 172 #[mv,.int .i64 f,.int .i64 u] [b0Z H] (b0N (fun _:Value=>True) id (fun v=> [t0I v (g0P m f u),b0Z H])):=by
 obtain⟨p,cap,rfl,hcap⟩:=d0Q hm;refine en func172 ntmps172 fun R w0=> ?_;refine go 7 ?_;refine bl fun b10=> ?_;refine go 5 ?_;refine b0V (fun w h=>n0U 2 h) ?_;refine go 7 ?_;refine a0V (X:= {x:Nat×List Lf×Value // x.1≤m.length∧x.2.1=g0P (m.take x.1) f u}) (fun y=> [(1,.int .i64 f),(2,.int .i64 u),(7,y.1.2.2),(11,.slice p m.length cap),(12,.int .i64 m.length),(13,.int .i64 y.1.1)]) (fun y=> [t0I y.1.2.2 y.1.2.1,b0Z H,R]) (fun y=>m.length-y.1.1) ⟨(0,[],.slice (some ⟨b10,0,none⟩) 0 0),Nat.zero_le _,rfl⟩ gSu gSp ?_;rintro⟨⟨i,out,v⟩,hi,he⟩ m0 hm0
 try simp only at hm0
 try dsimp only
 simp only at hi he;have hol:out.length≤m.length:=by rw[he];exact Nat.le_trans (List.length_filter_le _ _) (by rw[List.length_take];omega)
 refine go 6 ?_;refine a0P rfl (fun hb14=> ?_) (fun hb14=> ?_)
 ·have hil:i<m.length:=by have:=of_decide_eq_true hb14;omega
  obtain⟨b,o,cap',cur,hv,hc,hmem,hcut,hlen2⟩:=g0G hm (by omega);cases hv
  have hcu:(cur.drop (o+i*2)).take 2=lfC m[i]:=(h0R hcut hil).trans (q0E (f:=lfC) (size:=2) (fun _=>rfl) m hil);have hnx:g0P (m.take (i+1)) f u=out++(if m[i].1<f∨u≤m[i].1 then [m[i]]else []):=by
   rw[List.take_succ,List.getElem?_eq_getElem hil,he];unfold g0P;rw[List.filter_append];congr 1;simp only[Option.toList_some,List.filter_cons,List.filter_nil,decide_eq_true_eq]
  refine go 7 ?_;refine a0D (e0U (vs:=lfC m[i]) Ag.o rfl gFd hmem hcu rfl (by decide)) ?_;refine al fun b9=> ?_;refine go 4 ?_;by_cases hlt:m[i].1<f
  ·refine go 16 ?_;refine a0D (a0L (v:= #[.int .i64 m[i].1,b0B m[i].2]) Ag.o rfl (by simp) (by rfl)) ?_;refine bl fun b29=> ?_;refine(c0Z Tsl.o Ttb.o Zr.o rfl rfl rfl gFd (e0Z Tsl.o (by simp;rfl) (by simp) (by simp[Value.oneCell'])) (by simp only[maxLen];omega) (by omega) (fun v30 hv30=> ?_));refine go 2 ?_;rw[show out.flatMap lfC++ [Value.int .i64 m[i].1,b0B m[i].2]=(out++ [m[i]]).flatMap lfC by simp,show out.length+1=(out++ [m[i]]).length by simp];refine go 5 ?_;exact rd idh (⟨(i+1,out++ [m[i]],v30),hil,by rw[hnx,if_pos (.inl hlt)]⟩)
  ·refine go 13 ?_;refine a0P rfl (fun hb26=> ?_) (fun hb26=> ?_)
   ·have hge:u≤m[i].1:=by simpa using hb26
    refine go 2 ?_;refine a0D (a0L (v:= #[.int .i64 m[i].1,b0B m[i].2]) Ag.o rfl (by simp) (by rfl)) ?_;refine bl fun b29=> ?_;refine(c0Z Tsl.o Ttb.o Zr.o rfl rfl rfl gFd (e0Z Tsl.o (by simp;rfl) (by simp) (by simp[Value.oneCell'])) (by simp only[maxLen];omega) (by omega) (fun v30 hv30=> ?_));refine go 2 ?_;rw[show out.flatMap lfC++ [Value.int .i64 m[i].1,b0B m[i].2]=(out++ [m[i]]).flatMap lfC by simp,show out.length+1=(out++ [m[i]]).length by simp];refine go 5 ?_;exact rd idh (⟨(i+1,out++ [m[i]],v30),hil,by rw[hnx,if_pos (.inr hge)]⟩)
   ·have hge: ¬u≤m[i].1:=by simpa using hb26
    refine go 6 ?_;exact rd idh (⟨(i+1,out,v),hil,by rw[hnx,if_neg (by omega),List.append_nil]⟩)
 ·obtain rfl:i=m.length:=by have:=of_decide_eq_false hb14;omega
  rw[List.take_of_length_le (Nat.le_refl _)]at he;rw[he];refine go 8 ?_;exact rE idh v trivial
structure Vx where
 v:Vp
 mv:Value
structure Rx where
 lv:Value
 l:List Vx
 next:Int
 bits:Nat
 epoch:Int
def er (c:Rx):Rp:= {l:=c.l.map (·.v),next:=c.next,bits:=c.bits,epoch:=c.epoch}
def a0S (x:Vx):List Value:= [.int .i64 x.v.id,.int .i64 x.v.parent,.bool x.v.only,.int .i64 x.v.size,.int .i64 x.v.born,x.mv]
def z0H (x:Vx):Value:= .agg (a0S x).toArray
def a0H (c:Rx):List Value:= [c.lv,.int .i64 c.next,.int .i64 c.bits,.int .i64 c.epoch]
def e0R (c:Rx):Value:= .agg (a0H c).toArray
abbrev t2X (H:b0A) (lv:Value) (l:List Vx):Prop:=i0E H 42 6 lv l.length (l.flatMap a0S)
abbrev m0Z (H:b0A) (x:Vx):Prop:=a1D H x.mv x.v.m∧m0D x.v.m
structure c0T (H:b0A) (c:Rx):Prop where
 vols:t2X H c.lv c.l
 maps: ∀x∈c.l,m0Z H x
 few:c.l.length≤1000
theorem t0Y (x:Vx):(a0S x).length=6:=rfl
theorem m0V (l:List Vx) {i:Nat} (hi:i<l.length):((l.flatMap a0S).drop (i*6)).take 6=a0S l[i]:=q0E t0Y l hi
theorem m0Z.more {H H':b0A} {x:Vx} (h:m0Z H x) (hs: ∀p∈H,p∈H'):m0Z H' x:=⟨h.1.more hs,h.2⟩
theorem c0T.more {H H':b0A} {c:Rx} (h:c0T H c) (hs: ∀p∈H,p∈H'):c0T H' c:=⟨h.vols.more hs,fun x hx=>(h.maps x hx).more hs,h.few⟩
theorem w0T {H:b0A} {l:List Vx} (h: ∀x∈l,m0Z H x): ∀u∈l.flatMap a0S,u.oneCell'=true:=fun u hu=>by
 obtain⟨x,hx,hu⟩:=List.mem_flatMap.1 hu;simp only[a0S,List.mem_cons,List.not_mem_nil,or_false]at hu;rcases hu with rfl|rfl|rfl|rfl|rfl|rfl
 ·rfl
 ·rfl
 ·rfl
 ·rfl
 ·rfl
 ·exact(h x hx).1.one
theorem o2V {l:List Vp} {id:Int} {i:Nat} (hi:i<l.length) (hb: ∀j (h:j<l.length),j<i→l[j].id≠id) (h:l[i].id=id):c0O l id=some i:=by
 unfold c0O;rw[List.findIdx?_eq_some_iff_getElem];exact⟨hi,by simpa using h,fun j hj=>by simpa using hb j (by omega) hj⟩
theorem o2W {l:List Vp} {id:Int} (hb: ∀j (h:j<l.length),l[j].id≠id):c0O l id=none:=by
 unfold c0O;rw[List.findIdx?_eq_none_iff];intro x hx;obtain⟨j,hj,rfl⟩:=List.mem_iff_getElem.1 hx;simpa using hb j hj
theorem t0Z {l:List Vp} {id:Int} {i:Nat} (h:c0O l id=some i):i<l.length:=by
 unfold c0O at h;rw[List.findIdx?_eq_some_iff_getElem]at h;exact h.1
abbrev v0G (b:Nat) (c:Rx):a0C:=pts b (.cells (a0H c).toArray 34 (0,0))
abbrev v1F (b:Nat) (x:Vx):a0C:=pts b (.cells (a0S x).toArray 42 (0,0))
theorem l1L (H:b0A) (c:Rx) (id:Int) (hc:c0T H c):a0F prog 101 #[e0R c,.int .i64 id] [b0Z H] (a0T (.int .i64 (d1H (er c).l id)) [b0Z H]):=by
 obtain⟨p,cap,hlv,hcap⟩:=d0Q hc.vols;have hfew:=hc.few;have hrow:=hc.vols;rw[hlv]at hrow;refine en func101 ntmps101 fun R w0=> ?_
 try simp only[e0R,a0H]
 rw[hlv];refine go 2 ?_;refine bx fun b2=> ?_;refine go 13 ?_;refine a0V (X:= {i:Nat // i≤c.l.length∧ ∀j (h:j<c.l.length),j<i→c.l[j].v.id≠id}) (fun y=> [(1,.int .i64 id),(8,.slice p c.l.length cap),(9,.int .i64 c.l.length),(10,.int .i64 y.1)]) (fun y=> [b0Z H,R]) (fun y=>c.l.length-y.1) ⟨0,Nat.zero_le _,fun j _ hj=>absurd hj (Nat.not_lt_zero _)⟩ gSu gSp ?_;rintro⟨i,hi,hz⟩ m0 hm0
 try simp only at hm0
 try dsimp only
 skip;refine go 6 ?_;refine a0P rfl (fun hb11=> ?_) (fun hb11=> ?_)
 ·have hil:i<c.l.length:=by have:=of_decide_eq_true hb11;omega
  obtain⟨b,o,cap',cur,hv,hcp,hmem,hcut,hlen⟩:=g0G hrow (by omega);cases hv
  have hcu:(cur.drop (o+i*6)).take 6=a0S c.l[i]:=(h0R hcut hil).trans (m0V c.l hil);refine go 8 ?_;refine a0D (e0U (vs:=a0S c.l[i]) Ag.o rfl gFd hmem hcu rfl (by decide)) ?_;refine al fun b6=> ?_;refine go 1 ?_;refine a0M Sz.o rfl rfl rfl (fun u hu=>w0T hc.maps u (List.mem_flatMap.2 ⟨c.l[i],List.getElem_mem hil,by simpa using hu⟩)) (by simp[a0S,Value.cells]) (a0N (by simp[a0S,Value.cells])) ?_;refine go 10 ?_;refine a0P rfl (fun hb18=> ?_) (fun hb18=> ?_)
  ·have he:c.l[i].v.id=id:=by simpa using hb18
   refine go 6 ?_;exact rG (hu:=(by unfold d1H;rw[o2V (i:=i) (by simpa [er] using hil) (fun j hj hji=>by simpa [er] using hz j (by simpa [er] using hj) hji) (by simpa [er] using he)]))
  ·have he: ¬c.l[i].v.id=id:=by simpa using hb18
   refine go 6 ?_;exact rd idh (⟨i+1,hil,fun j hjl hj=>if h:j=i then by subst h;exact he else hz j hjl (by omega)⟩)
 ·obtain rfl:i=c.l.length:=by have:=of_decide_eq_false hb11;omega
  refine go 7 ?_;exact rG (hu:=(by unfold d1H;rw[o2W (fun j hj=>by simpa [er] using hz j (by simpa [er] using hj) (by simpa [er] using hj))]))
theorem j2V {ss:List B} (h: ∀s∈ss,s.length=32):ss.flatten.length=32*ss.length:=by
 induction ss with
 |nil=>rfl
 |cons s ss ih=>rw[List.flatten_cons,List.length_append,h s List.mem_cons_self,ih fun x hx=>h x (List.mem_cons_of_mem _ hx),List.length_cons];omega
theorem v1G {ss:List B} {i:Nat} (h:i<ss.length):(ss.take (i+1)).all (· == a0K 32)=((ss.take i).all (· == a0K 32)&&ss[i] == a0K 32):=by
 rw[List.take_succ,List.getElem?_eq_getElem h,List.all_append];simp
theorem n1Q (level:Nat) (hlv:level<256) (v:Value) (ss:List B) (h32: ∀s∈ss,s.length=32) (hn:ss.length≤8):
 a0F prog 189 #[.int .i64 level,v] [b0H 9 1 v ss.length (ss.map b0B)] (a0T (b0B (e0D level ss)) [b0H 9 1 v ss.length (ss.map b0B)]):=by
 obtain⟨z,hz⟩: ∃z,z=a0K 32:=⟨_,rfl⟩;have hlb:(UInt8.ofNat level).toNat=level:=by rw[UInt8.toNat_ofNat'];omega
 have hm:(level:Int)%256=((UInt8.ofNat level).toNat:Int):=by rw[hlb];omega
 refine en func189 ntmps189 fun R w0=> ?_;refine o0L (e:=9) gFd fun pv capv hvv hcapv _=> ?_;subst hvv;refine go 14 ?_;rw[hm];refine go 1 ?_;rw[show IntKind.u8.wrap ((UInt8.ofNat level).toNat:Int)=((UInt8.ofNat level).toNat:Int) by rw[IntKind.wrap_u8];have:=(UInt8.ofNat level).toNat_lt;omega];refine bl fun b13=> ?_;refine a0D (c1X Tsl.o Tst.o Tby.o rfl (l:= [UInt8.ofNat level]) rfl rfl) ?_;refine a0D (g0Y rfl rfl (by simp[b0F])) ?_;rw[show(⟨#[78]⟩:ByteArray)=bs [78]from rfl,←h0B];refine go 17 ?_;refine a0V (X:= {i:Nat // i≤ss.length}) (fun y=> [(5,b0B (a0K 32)),(6,b0B ([78,UInt8.ofNat level]++(ss.take y.1).flatten)),(7,.bool ((ss.take y.1).all (· == a0K 32))),(16,.slice pv ss.length capv),(17,.int .i64 ss.length),(18,.int .i64 y.1)]) (fun y=> [b0H 9 1 (.slice pv ss.length capv) ss.length (ss.map b0B),R]) (fun y=>ss.length-y.1) ⟨0,Nat.zero_le _⟩ gSu gSp ?_;rintro⟨i,hi⟩ m0 hm0
 try simp only at hm0
 try dsimp only
 skip;refine go 6 ?_;refine a0P rfl (fun hb19=> ?_) (fun hb19=> ?_)
 ·have hil:i<ss.length:=by have:=of_decide_eq_true hb19;omega
  refine i0Y (e:=9) gFd (by omega) fun bv cv hv2 hc2=> ?_;cases hv2
  have hfl:=j2V (ss:=ss.take i) fun s hs=>h32 s (List.mem_of_mem_take hs);have hs32:=h32 _ (List.getElem_mem hil);have hlt:(ss.take i).length=i:=by rw[List.length_take];omega
  refine go 7 ?_;refine a0D (a0U Sc.o rfl gFd (j0I b0B ss i _ hil (by omega))) ?_;refine go 7 ?_;refine a0D (g0Y rfl rfl (by rw[b0F,b0F,List.length_append,hfl,hs32,hlt];simp;omega)) ?_;rw[←h0B,show [78,UInt8.ofNat level]++(ss.take i).flatten++ss[i]= [78,UInt8.ofNat level]++(ss.take (i+1)).flatten by rw[List.take_succ,List.getElem?_eq_getElem hil,List.append_assoc,Option.toList_some,List.flatten_append,List.flatten_singleton]];refine go 3 ?_;by_cases hall:(ss.take i).all (· == a0K 32)=true
  ·refine go 5 ?_;refine c0R (r0Z rfl rfl) (wg rfl rfl rfl (wTT hall)) ?_;refine go 1 ?_;rw[show((bs ss[i]).toList == (bs (a0K 32)).toList)=(ss.take (i+1)).all (· == a0K 32) by rw[c0C,c0C,v1G hil,hall,Bool.true_and]];refine go 7 ?_;exact rd idh (⟨i+1,hil⟩)
  ·refine go 3 ?_;refine c0J rfl (wg rfl rfl rfl (wTF (by simpa using hall))) ?_;refine c0J rfl (wg rfl rfl rfl (wTF (by simpa using hall))) ?_;refine c0J rfl (wg rfl rfl rfl (wTF (by simpa using hall))) ?_;refine a0D (i0W rfl (by simpa using hall) rfl) ?_;rw[show Value.bool false= .bool ((ss.take (i+1)).all (· == a0K 32)) by rw[v1G hil,show(ss.take i).all (· == a0K 32)=false by simpa using hall,Bool.false_and]];refine go 7 ?_;exact rd idh (⟨i+1,hil⟩)
 ·obtain rfl:i=ss.length:=by have:=of_decide_eq_false hb19;omega
  rw[List.take_length];refine go 8 ?_;refine a0P rfl (fun hb32=> ?_) (fun hb32=> ?_)
  ·refine go 6 ?_;exact rG (hu:=(by unfold e0D;rw[if_pos hb32]))
  ·refine go 5 ?_;refine b0U rfl Hb.o rfl (i1X _ (by rw[List.length_append,j2V h32];simp;omega)) gSp ?_;refine ns ?_;refine go 3 ?_;exact rG (hu:=(by unfold e0D;rw[if_neg (by rw[hb32];decide)];rfl))
def p0W (l:Nat):Nat:=8^l
theorem x2Z {l:Nat} (hl:l<3):nth [Value.int .i64 1,.int .i64 8,.int .i64 64] l=some (.int .i64 ((p0W l:Nat):Int)):=by
 match l,hl with
 |0,_=>rfl
 |1,_=>rfl
 |2,_=>rfl
theorem t2Y {l:Nat} (hl:l<3):1≤p0W l∧p0W l≤64:=by
 match l,hl with
 |0,_=>decide
 |1,_=>decide
 |2,_=>decide
def dgK (m:List Lf):Nat→Nat→B
 |0,f=>p0D m f
 |l+1,f=>if m.any (x0L (p0W (l+1)) f)then dgR m l f else a0K 32
theorem e2O (m:List Lf) (l f:Nat):dgK m (l+1) f=if m.any (x0L (p0W (l+1)) f)then dgR m l f else a0K 32:=rfl
theorem w2K (m:List Lf) (l f:Nat):dgR m l f=e0D l ((List.range 8).map fun k=>dgK m l (f+k*p0W l)):=by
 cases l with
 |zero=>unfold dgR;congr 1
 |succ l=>rfl
theorem e2P (m:List Lf) (f:Nat):(p0D m f).length=32:=by
 rcases b1K f m (a0K 32)with ⟨d,_,h⟩| ⟨_,h⟩
 ·unfold p0D;rw[h];exact p0L d
 ·unfold p0D;rw[h];rfl
theorem b2A (m:List Lf) (l f:Nat):(dgR m l f).length=32:=by cases l<;>exact s0W _ _
theorem t2Z (m:List Lf) (l f:Nat):(dgK m l f).length=32:=by
 cases l with
 |zero=>exact e2P m f
 |succ l=>rw[e2O];split;(· exact b2A _ _ _);rfl
theorem p1X {m:List Lf} {j f:Nat} (h:j<m.length):p0D (m.take (j+1)) f=dgF f (p0D (m.take j) f) m[j]:=by
 unfold p0D;rw[List.take_succ,List.getElem?_eq_getElem h,List.foldl_append];rfl
theorem v1H {p:Lf→Bool} {m:List Lf} {j:Nat} (h:j<m.length) (hz:(m.take j).any p=false) (hp:p m[j]=false):(m.take (j+1)).any p=false:=by
 rw[List.take_succ,List.getElem?_eq_getElem h,List.any_append,hz];simp[hp]
def dgJ (m:List Lf) (l f j:Nat):B:=if l=0 then p0D (m.take j) f else a0K 32
theorem u2A {m:List Lf} {l f j:Nat} (hl:l=0) (hj:j<m.length) (hx:m[j].1=(f:Int)):Sha.sum m[j].2=dgJ m l f (j+1):=by
 unfold dgJ;rw[if_pos hl,p1X hj];unfold dgF;rw[if_pos hx]
theorem v1I {m:List Lf} {l f j:Nat} (hj:j<m.length) (hx:l=0→m[j].1≠(f:Int)):dgJ m l f j=dgJ m l f (j+1):=by
 unfold dgJ;split
 ·rename_i hl;rw[p1X hj];unfold dgF;rw[if_neg (hx hl)]
 ·rfl
theorem u2B {m:List Lf} {l f j:Nat} (hl:l≠0) (hj:j<m.length) (hx:x0L (p0W l) f m[j]=true):dgR m (l-1) f=dgK m l f:=by
 cases l with
 |zero=>exact absurd rfl hl
 |succ l=>rw[e2O,if_pos (List.any_eq_true.2 ⟨_,List.getElem_mem hj,hx⟩)];rfl
theorem u2C {m:List Lf} {l f:Nat} (h:l≠0→m.any (x0L (p0W l) f)=false):dgJ m l f m.length=dgK m l f:=by
 unfold dgJ;cases l with
 |zero=>rw[if_pos rfl,List.take_length];rfl
 |succ l=>rw[if_neg (by omega),e2O,if_neg (by rw[h (by omega)];decide)]
abbrev a1E (H:b0A) (mv:Value) (m:List Lf) (l:Nat):Prop:= ∀f:Nat,f+8*p0W l≤512→a0F prog 153 #[mv,.int .i64 l,.int .i64 f] [b0Z H] (a0T (b0B (dgR m l f)) [b0Z H])
theorem e1Q (H:b0A) (mv:Value) (m:List Lf) (hm:a1D H mv m) (hok:m0D m) (l:Nat) (hl:l<3) (hrec: ∀k,l=k+1→a1E H mv m k):a1E H mv m l:=by
 intro f hf;obtain⟨p,cap,rfl,hcap⟩:=d0Q hm;have hml:=hok.len;obtain⟨hs1,hs64⟩:=t2Y hl;have hsp:=x2Z hl;have hsl:l≠0→8*p0W (l-1)=p0W l:=fun h=>by cases l with|zero=>exact absurd rfl h|succ l=>show 8*8^l=8^(l+1);rw[Nat.pow_succ];omega
 have hs0:l=0→p0W l=1:=fun h=>by subst h;rfl
 rw[w2K];obtain⟨sp,hspd⟩: ∃sp,sp=p0W l:=⟨_,rfl⟩;rw[←hspd]at hs1 hs64 hsp hsl hs0 hf ⊢;refine en func153 ntmps153 fun R w0=> ?_;refine go 7 ?_;refine bl fun b13=> ?_;refine go 2 ?_;refine a0D (b0M Sc.o rfl (by rw[Nat.zero_add,Int.toNat_natCast,Nat.mul_one];exact hsp)) ?_;refine go 5 ?_;refine bl fun b17=> ?_;refine go 5 ?_;refine b0V (fun w h=>n0U 1 h) ?_;refine go 5 ?_;refine a0V (X:= {x:Nat×Value // x.1≤8}) (fun y=> [(0,.slice p m.length cap),(1,.int .i64 l),(2,.int .i64 f),(7,.int .i64 (sp:Nat)),(8,y.1.2),(9,.int .i64 y.1.1)]) (fun y=> [b0H 9 1 y.1.2 y.1.1 (((List.range y.1.1).map fun k=>dgK m l (f+k*sp)).map b0B),b0Z H,R]) (fun y=>8-y.1.1) ⟨(0,.slice (some ⟨b17,0,none⟩) 0 0),Nat.zero_le 8⟩ gSu gSp ?_;rintro⟨⟨k,v⟩,hk8⟩ m0 hm0
 try simp only at hm0
 try dsimp only
 simp only at hk8;refine go 7 ?_;refine a0P rfl (fun hb19=> ?_) (fun hb19=> ?_)
 ·have hkl:k<8:=by have:=of_decide_eq_true hb19;omega
  obtain⟨g,hg⟩: ∃g,g=f+k*sp:=⟨_,rfl⟩;obtain⟨ks,hks⟩: ∃ks,ks=k*sp:=⟨_,rfl⟩;have hks7:ks≤7*sp:=by rw[hks];exact Nat.mul_le_mul_right _ (by omega)
  have hksi:((k:Nat):Int)*((sp:Nat):Int)=((ks:Nat):Int):=by rw[hks];push_cast;rfl
  rw[←hks]at hg;refine go 9 ?_;refine i0P (X:= {z:B // z=dgK m l g}) (fun z=> [(0,.slice p m.length cap),(1,.int .i64 l),(2,.int .i64 f),(7,.int .i64 (sp:Nat)),(8,v),(9,.int .i64 k),(10,b0B z.1)]) (fun z=> [b0H 9 1 v k (((List.range k).map fun k=>dgK m l (f+k*sp)).map b0B),b0Z H,R]) ?_ ?_
  ·refine go 8 ?_;refine a0V (X:= {y:Nat×B // y.1≤m.length∧y.2=dgJ m l g y.1∧(l≠0→(m.take y.1).any (x0L (p0W l) g)=false)}) (fun y=> [(0,.slice p m.length cap),(1,.int .i64 l),(2,.int .i64 f),(7,.int .i64 (sp:Nat)),(8,v),(9,.int .i64 k),(10,b0B y.1.2),(22,.slice p m.length cap),(23,.int .i64 m.length),(24,.int .i64 y.1.1)]) (fun y=> [b0H 9 1 v k (((List.range k).map fun k=>dgK m l (f+k*sp)).map b0B),b0Z H,R]) (fun y=>m.length-y.1.1) ⟨(0,a0K 32),Nat.zero_le _,by(show a0K 32=dgJ m l g 0);unfold dgJ;split<;>rfl,fun _=>rfl⟩ gSu gSp ?_;rintro⟨⟨j,s⟩,hj,hs,hno⟩ m2 hm2
   try simp only at hm2
   try dsimp only
   simp only at hj hs hno;refine go 6 ?_;refine a0P rfl (fun hb25=> ?_) (fun hb25=> ?_)
   ·have hjl:j<m.length:=by have:=of_decide_eq_true hb25;omega
    obtain⟨b,o,cap',cur,hv,hc,hmem,hcut,hlen⟩:=g0G hm (by omega);cases hv
    have hcu:(cur.drop (o+j*2)).take 2=lfC m[j]:=(h0R hcut hjl).trans (q0E (f:=lfC) (size:=2) (fun _=>rfl) m hjl);obtain⟨hx0,hx5,hxl⟩:=hok.in_ _ (List.getElem_mem hjl);have hq1:0≤m[j].1/ ((sp:Nat):Int)*((sp:Nat):Int):=Int.mul_nonneg (Int.ediv_nonneg hx0 (by omega)) (by omega);have hq2:m[j].1/ ((sp:Nat):Int)*((sp:Nat):Int)≤m[j].1:=Int.ediv_mul_le _ (by omega);refine go 7 ?_;refine a0D (e0U (vs:=lfC m[j]) Ag.o rfl gFd hmem hcu rfl (by decide)) ?_;refine al fun b12=> ?_;refine go 5 ?_;by_cases hl0:l=0
    ·by_cases hx:m[j].1=((g:Nat):Int)
     ·refine go 11 ?_;rw[hksi];refine go 1 ?_;rw[show((f:Nat):Int)+((ks:Nat):Int)=((g:Nat):Int) by omega];refine go 1 ?_;rw[show((sp:Nat):Int)=((1:Nat):Int) by rw[hs0 hl0],show m[j].1/ ((1:Nat):Int)*((1:Nat):Int)=m[j].1 by simp];refine go 1 ?_;refine c0R (d0V rfl) (wg rfl rfl rfl (wTT (by simpa using hx))) ?_;refine c0R (j1K rfl rfl) (wg rfl rfl rfl (wTT (by simpa using hx))) ?_;refine a0D (i0B rfl (by simpa using hx) rfl) ?_;refine go 14 ?_;refine c0R (d0V rfl) (wg rfl rfl rfl (wTT (by rw[hx];have:=hs0 hl0;rw[this,Nat.mul_one]at hks;simp;omega))) ?_;refine c0R (a1G rfl rfl) (wg rfl rfl rfl (wTT (by rw[hx];have:=hs0 hl0;rw[this,Nat.mul_one]at hks;simp;omega))) ?_;refine a0D (i0B rfl (by rw[hx];have:=hs0 hl0;rw[this,Nat.mul_one]at hks;simp;omega) rfl) ?_;refine cg 6 (i1X m[j].2 (by omega)) ?_;refine go 7 ?_;exact rd idh (⟨(j+1,Sha.sum m[j].2),hjl,u2A hl0 hjl hx,fun h=>absurd hl0 h⟩)
     ·refine go 11 ?_;rw[hksi];refine go 1 ?_;rw[show((f:Nat):Int)+((ks:Nat):Int)=((g:Nat):Int) by omega];refine go 1 ?_;rw[show((sp:Nat):Int)=((1:Nat):Int) by rw[hs0 hl0],show m[j].1/ ((1:Nat):Int)*((1:Nat):Int)=m[j].1 by simp];refine go 1 ?_;refine c0J rfl (wg rfl rfl rfl (wTF (by simpa using hx))) ?_;refine c0J rfl (wg rfl rfl rfl (wTF (by simpa using hx))) ?_;refine a0D (i0W rfl (by simpa using hx) rfl) ?_;refine go 14 ?_;refine c0J rfl (wg rfl rfl rfl (wTF (by have:=hs0 hl0;rw[this,Nat.mul_one]at hks;simp;omega))) ?_;refine c0J rfl (wg rfl rfl rfl (wTF (by have:=hs0 hl0;rw[this,Nat.mul_one]at hks;simp;omega))) ?_;refine a0D (i0W rfl (by have:=hs0 hl0;rw[this,Nat.mul_one]at hks;simp;omega) rfl) ?_;refine go 9 ?_;exact rd idh (⟨(j+1,s),hjl,by(show s=_);rw[hs];exact v1I hjl fun _=>hx,fun h=>absurd hl0 h⟩)
    ·by_cases hit:m[j].1/ ((sp:Nat):Int)*((sp:Nat):Int)=((g:Nat):Int)
     ·refine go 11 ?_;rw[hksi];refine go 1 ?_;rw[show((f:Nat):Int)+((ks:Nat):Int)=((g:Nat):Int) by omega];refine go 2 ?_;refine c0R (d0V rfl) (wg rfl rfl rfl (wTT (by simpa using hit))) ?_;refine c0R (j1K rfl rfl) (wg rfl rfl rfl (wTT (by simpa using hit))) ?_;refine a0D (i0B rfl (by simpa using hit) rfl) ?_;refine go 12 ?_;rw[hksi];refine go 1 ?_;rw[show((f:Nat):Int)+((ks:Nat):Int)=((g:Nat):Int) by omega,show((l:Nat):Int)-1=((l-1:Nat):Int) by omega];refine cg 0 (hrec (l-1) (by omega) g (by have:=hsl hl0;omega)) ?_;refine go 4 ?_;exact me idh (⟨_,u2B hl0 hjl (decide_eq_true (by rw[←hspd];exact hit))⟩)
     ·refine go 11 ?_;rw[hksi];refine go 1 ?_;rw[show((f:Nat):Int)+((ks:Nat):Int)=((g:Nat):Int) by omega];refine go 2 ?_;refine c0J rfl (wg rfl rfl rfl (wTF (by simpa using hit))) ?_;refine c0J rfl (wg rfl rfl rfl (wTF (by simpa using hit))) ?_;refine a0D (i0W rfl (by simpa using hit) rfl) ?_;refine go 6 ?_;by_cases hx:m[j].1=((f:Nat):Int)+((k:Nat):Int)
      ·refine go 8 ?_;refine c0R (d0V rfl) (wg rfl rfl rfl (wTT (by simpa using hx))) ?_;refine c0R (a1G rfl rfl) (wg rfl rfl rfl (wTT (by simpa using hx))) ?_;refine a0D (i0B rfl (by simpa using hx) rfl) ?_;refine go 9 ?_;exact rd idh (⟨(j+1,s),hjl,by(show s=_);rw[hs];exact v1I hjl fun h=>absurd h hl0,fun h=>v1H hjl (hno h) (decide_eq_false (by rw[←hspd];exact hit))⟩)
      ·refine go 8 ?_;refine c0J rfl (wg rfl rfl rfl (wTF (by simpa using hx))) ?_;refine c0J rfl (wg rfl rfl rfl (wTF (by simpa using hx))) ?_;refine a0D (i0W rfl (by simpa using hx) rfl) ?_;refine go 9 ?_;exact rd idh (⟨(j+1,s),hjl,by(show s=_);rw[hs];exact v1I hjl fun h=>absurd h hl0,fun h=>v1H hjl (hno h) (decide_eq_false (by rw[←hspd];exact hit))⟩)
   ·obtain rfl:j=m.length:=by have:=of_decide_eq_false hb25;omega
    rw[List.take_length]at hno;refine go 1 ?_;exact me idh (⟨s,by rw[hs];exact u2C hno⟩)
  rintro⟨z,hz⟩;dsimp only;refine go 3 ?_;refine bl fun b69=> ?_;refine(c0Z Tsl.o Ttb.o Zr.o rfl rfl rfl gFd (e0Z Tsl.o (by simp;rfl) (by simp) (by simp[Value.oneCell'])) (by simp only[maxLen];omega) (by omega) (fun v70 hv70=> ?_));refine go 2 ?_;rw[show((List.range k).map fun k=>dgK m l (f+k*sp)).map b0B++ [b0B z]=((List.range (k+1)).map fun k=>dgK m l (f+k*sp)).map b0B by rw[hz,hg,hks,List.range_succ,List.map_append,List.map_append];rfl];refine go 6 ?_;exact rd idh (⟨(k+1,v70),hkl⟩)
 ·obtain rfl:k=8:=by have:=of_decide_eq_false hb19;omega
  refine go 6 ?_;refine b0U rfl Hb.o rfl ((by have h:=n1Q l (by omega) v ((List.range 8).map fun k=>dgK m l (f+k*sp)) (fun s hs=>by obtain⟨k,_,rfl⟩:=List.mem_map.1 hs;exact t2Z _ _ _) (by simp);rw[List.length_map,List.length_range]at h;exact h)) gSp ?_;refine ns ?_;refine go 3 ?_;exact rG
theorem y1B (H:b0A) (mv:Value) (m:List Lf) (hm:a1D H mv m) (hok:m0D m):a0F prog 109 #[mv] [b0Z H] (a0T (b0B (dgR m 2 0)) [b0Z H]):=by
 have d0:a1E H mv m 0:=e1Q H mv m hm hok 0 (by decide) fun k h=>by omega
 have d1:a1E H mv m 1:=e1Q H mv m hm hok 1 (by decide) fun k h=>(by obtain rfl:k=0:=(by omega);exact d0);have d2:a1E H mv m 2:=e1Q H mv m hm hok 2 (by decide) fun k h=>(by obtain rfl:k=1:=(by omega);exact d1);refine en func109 ntmps109 fun R w0=> ?_;refine cg 8 (d2 0 (by decide)) ?_;refine go 3 ?_;exact rG
end Go.Proofs.Q
namespace Go.Proofs.Q
open Go Go.Sl Tryz
instance:Hb prog 136:=⟨kr⟩
instance:Sc prog 159:=⟨kr⟩
instance:Tsl prog 159 47 1:=⟨kr⟩
instance:Sz prog 159 1:=⟨kr⟩
instance:Ttb prog 47 4:=⟨kr⟩
instance:Hb prog 179:=⟨kr⟩
instance:Hb prog 210:=⟨kr⟩
instance:Hb prog 212:=⟨kr⟩
instance:Hb prog 213:=⟨kr⟩
instance:Hb prog 215:=⟨kr⟩
instance:Hb prog 216:=⟨kr⟩
instance:Hb prog 218:=⟨kr⟩
instance:Hb prog 180:=⟨kr⟩
instance:Hb prog 220:=⟨kr⟩
instance:Sc prog 320:=⟨kr⟩
instance:Hb prog 134:=⟨kr⟩
instance:Hb prog 135:=⟨kr⟩
instance:Hb prog 155:=⟨kr⟩
instance:Hb prog 156:=⟨kr⟩
instance:Hb prog 178:=⟨kr⟩
instance:Hb prog 190:=⟨kr⟩
instance:Hb prog 157:=⟨kr⟩
instance:Hb prog 263:=⟨kr⟩
instance:Hb prog 264:=⟨kr⟩
instance:Tin prog 320 .u64:=⟨kr⟩
instance:Sz prog 320 1:=⟨kr⟩
instance:Tsn prog 166:=⟨kr⟩
instance:Zr prog 320 (.int .u64 0):=⟨kr⟩
instance:Hb prog 266:=⟨kr⟩
instance:Hb prog 288:=⟨kr⟩
instance:Hb prog 267:=⟨kr⟩
end Go.Proofs.Q
namespace Go.Proofs.Q
open Go.Sl Go.Sb Tryz
abbrev u4 (n:Int):Value:= .int .u32 n
abbrev pU (b:Nat):Value:= .pointer (some ⟨b,0,none⟩)
abbrev cI (b:Nat) (n:Int):a0C:=pts b (.cells #[.int .i64 n] 3 (0,0))
abbrev us (xs:List Int):List Value:=xs.map u4
abbrev slU (g n cap:Nat):Value:= .slice (some ⟨g,0,none⟩) n cap
abbrev f0K (g n cap:Nat) (xs:List Int):a0C:=b0H 47 1 (slU g n cap) n (us xs)
theorem c0U {xs:List Int} {i:Nat} {k:Int} (hk:k=i) (hi:i<xs.length):nth (us xs) (0+k.toNat*1)=some (u4 (xat xs i)):=by
 subst hk;rw[d0Y,Int.toNat_natCast,Nat.zero_add,Nat.mul_one,List.getElem?_map,s2I hi];rfl
theorem f0B {xs:List Int} {i:Nat} {k v:Int} (hk:k=i):(us xs).set (0+k.toNat*1) (u4 v)=us (xs.set i v):=by
 subst hk;rw[Int.toNat_natCast,Nat.zero_add,Nat.mul_one,←List.map_set]
theorem y2A (x:Int):a0F prog 267 #[u4 x] [] (a0T (.bool false) []):=by
 refine en func267 ntmps267 fun R w0=> ?_;refine go 13 ?_;exact rG (hu:=(by simp))
theorem u0Z (x y:Int):a0F prog 216 #[u4 x,u4 y] [] (a0T (.bool (decide (x<y))) []):=by
 refine en func216 ntmps216 fun R w0=> ?_;refine cg 8 (y2A x) ?_;refine go 13 ?_;exact rG
theorem i1Y (g n cap a b c:Nat) (xs:List Int) (w:Int) (hl:xs.length=n) (hn:n≤1000) (ha:a<n) (hb:b<n) (hw:0≤w∧w≤1000):
 a0F prog 288 #[slU g n cap,.int .i64 a,.int .i64 b,pU c] [f0K g n cap xs,cI c w] (b0N (fun y:Nat×Nat×Int=>(y.1=a∧y.2.1=b∨y.1=b∧y.2.1=a)∧w≤y.2.2∧y.2.2≤w+1) (fun y=> .tuple #[.int .i64 y.1,.int .i64 y.2.1]) (fun y=> [f0K g n cap xs,cI c y.2.2])):=by
 refine en func288 ntmps288 fun R w0=> ?_;refine go 8 ?_;refine tl 8 ?_;refine go 3 ?_;refine b0X (a0U Sc.o rfl gFd (c0U rfl (by omega))) ?_;refine go 3 ?_;refine b0X (a0U Sc.o rfl gFd (c0U rfl (by omega))) ?_;refine go 1 ?_;refine b0U rfl Hb.o rfl (u0Z _ _) gSp ?_;refine ns ?_;refine go 2 ?_;refine a0P rfl (fun hb18=> ?_) (fun hb18=> ?_)
 ·refine go 18 ?_;exact rE idh (b,a,w+1) ⟨.inr ⟨rfl,rfl⟩,by simp only;omega⟩
 ·refine go 10 ?_;exact rE idh (a,b,w) ⟨.inl ⟨rfl,rfl⟩,by simp only;omega⟩
theorem o2X (g n cap a b c s:Nat) (xs:List Int) (w:Int) (hl:xs.length=n) (hn:n≤1000) (ha:a<n) (hb:b<n) (hc:c<n) (hw:0≤w∧w≤900):
 a0F prog 266 #[slU g n cap,.int .i64 a,.int .i64 b,.int .i64 c,pU s] [f0K g n cap xs,cI s w] (b0N (fun y:Nat×Int=>(y.1=a∨y.1=b∨y.1=c)∧w≤y.2∧y.2≤w+3) (fun y=> .int .i64 y.1) (fun y=> [f0K g n cap xs,cI s y.2])):=by
 refine en func266 ntmps266 fun R w0=> ?_;refine ce 11 (i1Y g n cap a b s xs w hl hn ha hb (by omega)) ?_;rintro⟨a1,b1,w1⟩ ⟨h1,h2,h3⟩;refine ns ?_;refine go 1 ?_;dsimp only at h1 h2 h3 ⊢;refine ce 12 (i1Y g n cap b1 c s xs w1 hl hn (by omega) hc (by omega)) ?_;rintro⟨b2,c2,w2⟩ ⟨k1,k2,k3⟩;refine ns ?_;refine go 1 ?_;dsimp only at k1 k2 k3 ⊢;refine ce 12 (i1Y g n cap a1 b2 s xs w2 hl hn (by omega) (by omega) (by omega)) ?_;rintro⟨a3,b3,w3⟩ ⟨j1,j2,j3⟩;refine ns ?_;refine go 1 ?_;dsimp only at j1 j2 j3 ⊢;refine go 12 ?_;exact rE idh (b3,w3) ⟨by simp only;omega,by simp only;omega⟩
theorem u2D (g n cap a b:Nat) (xs:List Int) (hl:xs.length=n) (hn:n≤16) (hab:a+13≤b) (hb:b≤n):
 a0F prog 213 #[slU g n cap,.int .i64 a,.int .i64 b] [f0K g n cap xs] (b0N (fun y:Nat×Int=>(a≤y.1∧y.1<b)∧(y.2=0∨y.2=1)) (fun y=> .tuple #[.int .i64 y.1,.int .i64 y.2]) (fun _=> [f0K g n cap xs])):=by
 obtain⟨l,hl2⟩: ∃l:Nat,b=a+l:=⟨b-a,by omega⟩;subst hl2;refine en func213 ntmps213 fun R w0=> ?_;refine go 11 ?_;rw[show((a+l:Nat):Int)- (a:Int)=(l:Int) by omega];refine go 5 ?_;refine al fun b9=> ?_;refine go 9 ?_;rw[show(a:Int)+(l:Int)/4*1=((a+l/4*1:Nat):Int) by omega];refine go 10 ?_;rw[show(a:Int)+(l:Int)/4*2=((a+l/4*2:Nat):Int) by omega];refine go 10 ?_;rw[show(a:Int)+(l:Int)/4*3=((a+l/4*3:Nat):Int) by omega];refine ce 26 (o2X g n cap (a+l/4*1) (a+l/4*2) (a+l/4*3) b9 xs 0 hl (by omega) (by omega) (by omega) (by omega) (by omega)) ?_;rintro⟨j,w⟩ ⟨h1,h2,h3⟩;refine ns ?_;dsimp only at h1 h2 h3 ⊢;refine go 15 ?_;refine a0P rfl (fun hb51=> ?_) (fun hb51=> ?_)
 ·refine go 7 ?_;exact rE idh (j,1) ⟨by simp only;omega,.inr rfl⟩
 ·refine go 14 ?_;exact rE idh (j,0) ⟨by simp only;omega,.inl rfl⟩
theorem f0C (xs:List Int):(us xs).length=xs.length:=List.length_map ..
theorem o2Y (g n cap a b:Nat) (xs:List Int) (hl:xs.length=n) (hn:n≤1000) (hab:a≤b) (hb:b≤n) (hnd:xs.Nodup):
 a0F prog 210 #[slU g n cap,.int .i64 a,.int .i64 b] [f0K g n cap xs] (b0N (fun ys:List Int=>SP a b xs ys∧Srt a b ys) (fun _=> .tuple #[]) (fun ys=> [f0K g n cap ys])):=by
 refine en func210 ntmps210 fun R w0=> ?_;refine go 6 ?_;rw[show(a:Int)+1=((a+1:Nat):Int) by omega];refine go 2 ?_;refine a0V (X:= {y:Nat×List Int // a+1≤y.1∧(y.1≤b∨y.1=a+1)∧SP a b xs y.2∧Srt a y.1 y.2}) (fun y=> [(0,slU g n cap),(1,.int .i64 a),(2,.int .i64 b),(6,.int .i64 y.1.1)]) (fun y=> [f0K g n cap y.1.2,R]) (fun y=>b+1-y.1.1) ⟨(a+1,xs),Nat.le_refl _,.inr rfl,SP.refl _ _ _,fun i j _ _ _=>by omega⟩ gSu gSp ?_;rintro⟨⟨i,ys⟩,hi,hib,hsp,hs⟩ m0 hm0
 try simp only at hm0
 try dsimp only
 dsimp only at hi hib hsp hs;refine go 8 ?_;refine a0P rfl (fun hb12=> ?_) (fun hb12=> ?_)
 ·have hib2:i<b:=by have:=of_decide_eq_true hb12;omega
  have hyl:=hsp.len;refine go 11 ?_;refine a0V (X:= {y:Nat×List Int // SP a b xs y.2∧Ins a i y.1 y.2}) (fun y=> [(0,slU g n cap),(1,.int .i64 a),(2,.int .i64 b),(6,.int .i64 i),(7,.int .i64 y.1.1)]) (fun y=> [f0K g n cap y.1.2,R]) (fun y=>y.1.1) ⟨(i,ys),hsp,Ins.begin hs (by omega)⟩ gSu gSp ?_;rintro⟨⟨j,zs⟩,hz,hins⟩ m2 hm2
  try simp only at hm2
  try dsimp only
  dsimp only at hz hins;have hzl:=hz.len;have hle:=hins.le;refine go 2 ?_;by_cases hja:a<j
  ·refine tl 13 ?_;refine go 7 ?_;refine m0W (wg rfl rfl rfl (wTT gT)) (a0U Sc.o rfl gFd (c0U rfl (by omega))) ?_;refine go 4 ?_;refine m0W (wg rfl rfl rfl (wTT gT)) (a0U Sc.o rfl gFd (c0U (i:=j-1) (by omega) (by omega))) ?_;refine go 2 ?_;refine b0U rfl Hb.o rfl (u0Z _ _) gSp ?_;refine ns ?_;refine go 3 ?_;refine a0P rfl (fun hb30=> ?_) (fun hb30=> ?_)
   ·have hlt:=of_decide_eq_true hb30;refine go 4 ?_;refine mx (.r 0 9 (.r 10 3 (.two 9 (.hard 13 (.soft 14 (.hard 15 (.soft 16 (.hard 17 .done))))) 13 (.hard 9 (.soft 14 (.hard 15 (.soft 16 (.hard 17 .done)))))))) [] ?_;refine go 12 ?_;refine q0A rfl rfl ?_ ?_
    ·refine a0D (a0U Sc.o rfl gFd (c0U (i:=j-1) (by omega) (by omega))) ?_;refine go 3 ?_;refine a0D (a0U Sc.o rfl gFd (c0U rfl (by omega))) ?_;refine go 4 ?_;refine c0D (xs':=us (zs.set j (xat zs (j-1)))) Sz.o rfl rfl rfl gFd (by rw[f0C];omega) (f0B rfl) ?_;refine go 4 ?_;refine c0D (xs':=us (swp zs j (j-1))) Sz.o rfl rfl rfl gFd (by rw[f0C,List.length_set];omega) (f0B (by omega)) ?_;refine go 9 ?_;rw[show(j:Int)-1=((j-1:Nat):Int) by omega];exact rd idh (⟨(j-1,swp zs j (j-1)),hz.trans (SP.swap (by omega) (by omega) (by omega)),hins.step hja (by omega) hlt⟩)
    ·refine a0D (a0U Sc.o rfl gFd (c0U rfl (by omega))) ?_;refine go 3 ?_;refine a0D (a0U Sc.o rfl gFd (c0U (i:=j-1) (by omega) (by omega))) ?_;refine go 4 ?_;refine c0D (xs':=us (zs.set j (xat zs (j-1)))) Sz.o rfl rfl rfl gFd (by rw[f0C];omega) (f0B rfl) ?_;refine go 4 ?_;refine c0D (xs':=us (swp zs j (j-1))) Sz.o rfl rfl rfl gFd (by rw[f0C,List.length_set];omega) (f0B (by omega)) ?_;refine go 9 ?_;rw[show(j:Int)-1=((j-1:Nat):Int) by omega];exact rd idh (⟨(j-1,swp zs j (j-1)),hz.trans (SP.swap (by omega) (by omega) (by omega)),hins.step hja (by omega) hlt⟩)
   ·refine go 1 ?_;have hs2:Srt a (i+1) zs:=hins.done fun h=>by
     have h1:=of_decide_eq_false hb30;have h2:=b1L (hz.nodup hnd) (show j<zs.length by omega) (show j-1<zs.length by omega) (by omega);omega
    refine go 6 ?_;rw[show(i:Int)+1=((i+1:Nat):Int) by omega];exact rd idh (⟨(i+1,zs),by omega,.inl hib2,hz,hs2⟩)
  ·refine tl 13 ?_;refine go 20 ?_;have hs2:Srt a (i+1) zs:=hins.done fun h=>(hja h).elim;refine go 6 ?_;rw[show(i:Int)+1=((i+1:Nat):Int) by omega];exact rd idh (⟨(i+1,zs),by omega,.inl hib2,hz,hs2⟩)
 ·refine go 1 ?_;exact fE ys ⟨hsp,fun p q h1 h2 h3=>hs p q h1 h2 (by have:=of_decide_eq_false hb12;omega)⟩
end Go.Proofs.Q
