/- Part of the proof; no statement of its own. -/
import Derived.Test.YtpinhnikemamjaaGreatDoorN18
import Derived.Test.YtpinhnikemamjaaGreatDoorN23
import Derived.Test.YtpinhnikemamjaaGreatDoorN28
import Derived.Test.YtpinhnikemamjaaGreatDoorN31
import Derived.Test.YtpinhnikemamjaaGreatDoorN17
import Derived.Test.YtpinhnikemamjaaGreatDoorN16
import Derived.Test.YtpinhnikemamjaaGreatDoorProg
import Derived.KernelRfl
import Derived.Test.YtpinhnikemamjaaGreatDoorN08
set_option linter.all false
set_option maxRecDepth 4000
set_option maxHeartbeats 4000000
attribute [local irreducible] Go.Sl.a0O Go.Sl.OW Go.Sl.CW Go.Sl.OS Go.Sl.OM Go.Sl.OMf Go.Sl.KM
namespace Go.Proofs.Q
open Go.Sl Go.Sb Tryz
theorem w2V {x:Hd} (h:y0N x):(hdL x).toArray.extract 0 (0+4)=(x.at_.map a0J).toArray:=d0X (a:= []) rfl (by simp[h.n])
theorem p2L {l:List Int} {i:Nat} (h:i<l.length):(l.take (i+1)).filter (0< ·)=(l.take i).filter (0< ·)++if 0<l[i]then [l[i]]else []:=by
 rw[List.take_succ,List.getElem?_eq_getElem h,List.filter_append,Option.toList_some];congr 1;by_cases hp:0<l[i]<;>simp[hp]
theorem f2F (W:World) (a:Ad) (s:St) (k:Int) (x:Hd) (hk:k≠0) (hx:Go.Sb.g0W k s=(.ok x,s)):a0F prog 154 #[ptr a.st,.int .i64 k] (RS W a s)
 (b0N (fun _:Value=>True) id (fun v=>RS W a s++ [b0H 3 1 v (x.at_.filter (0< ·)).length (j0P (x.at_.filter (0< ·)))])):=by
 have kh:=v0X W a s k;rw[hx]at kh;have hh:=kh.ran_ok;obtain⟨_,hln⟩:=q0M hx;have hl4:x.at_.length=4:=hln.n;refine en func154 ntmps154 fun R w0=> ?_;refine go 17 ?_;refine b0R rfl (by simpa using hk) ?_;refine cg 7 (hh) ?_;refine a0D (o0Q (v:=(x.at_.map a0J).toArray) F.fa230_0 rfl (w2V hln)) ?_;refine go 4 ?_;refine b0V (fun w h=>e0W 3 1 w h) ?_;refine a0V (X:= {y:Nat×Value // y.1≤4}) (fun y=> [(5,y.1.2),(14,.agg (x.at_.map a0J).toArray),(15,.int .i64 y.1.1)]) (fun y=>RS W a s++ [b0H 3 1 y.1.2 ((x.at_.take y.1.1).filter (0< ·)).length (j0P ((x.at_.take y.1.1).filter (0< ·))),R]) (fun y=>4-y.1.1) ⟨(0,.slice none 0 0),Nat.zero_le _⟩ gSu gSp ?_;rintro⟨⟨i,v⟩,hi⟩ m0 hm0
 try simp only at hm0
 try dsimp only
 simp only at hi;refine ns ?_;refine go 6 ?_;refine a0P rfl (fun hb16=> ?_) (fun hb16=> ?_)
 ·have hi4:i<4:=by have:=of_decide_eq_true hb16;omega
  have hil:i<x.at_.length:=by omega
  have hn:=p2L hil;have hfl:=List.length_filter_le (fun k:Int=>decide (0<k)) (x.at_.take i);rw[List.length_take]at hfl;refine go 6 ?_;refine a0D (p0V (v:=i8 x.at_[i]) Tar.o Sc.o rfl rfl (by omega) (j0I a0J x.at_ i _ hil (by omega))) ?_;refine go 9 ?_;refine a0P rfl (fun hb19=> ?_) (fun hb19=> ?_)
  ·rw[if_pos (of_decide_eq_true hb19)]at hn;refine go 3 ?_;refine bl fun b22=> ?_;refine(c0Z Tsl.o Ttb.o Zr.o rfl rfl rfl gFd (e0Z Tsl.o (by simp;rfl) (by simp) (by simp[Value.oneCell'])) (by simp only[maxLen];omega) (by omega) (fun v23 hv23=> ?_));refine go 2 ?_;rw[show j0P ((x.at_.take i).filter (0< ·))++ [Value.int .i64 x.at_[i]]=j0P ((x.at_.take (i+1)).filter (0< ·)) by rw[hn];simp[j0P],show((x.at_.take i).filter (0< ·)).length+1=((x.at_.take (i+1)).filter (0< ·)).length by rw[hn,List.length_append];rfl];refine go 5 ?_;exact rd idh (⟨(i+1,v23),hi4⟩)
  ·rw[if_neg (of_decide_eq_false hb19),List.append_nil]at hn;rw[←hn];refine go 6 ?_;exact rd idh (⟨(i+1,v),hi4⟩)
 ·obtain rfl:i=4:=by have:=of_decide_eq_false hb16;omega
  rw[List.take_of_length_le (by omega)];refine go 8 ?_;exact rE idh v trivial
theorem g1X {G:Gh} {k:Int} {m:List (Int×Int)} (h:k≤0∨0<(a0E k m).getD 0):e0V G 0 k m=m:=by unfold e0V;rw[if_pos h]
abbrev v0B (W:World) (a:Ad) (s:St) (G:Gh) (l:Nat):Prop:= ∀(at_:Int) (b:Nat) (m:List (Int×Int)),a0Y G (l+1) at_→i0I G m→
 a0F prog 110 #[ptr a.maps,.int .i64 at_,.int .i64 l,.map (some b)] (RS W a s++ [b0L b a0J a0J m]) (a0T (.tuple #[]) (RS W a s++ [b0L b a0J a0J (e0V G (l+1) at_ m)]))
theorem z0I (W:World) (a:Ad) (s:St) (G:Gh) (P:List Int) (hi:Inv s G P) (l:Nat) (hl:l<3) (ih: ∀m,l=m+1→v0B W a s G m):v0B W a s G l:=by
 intro at_ b m hk hm;have hgl:=hi.atMost;have hml:=hm.len;have hmv:=hm.sb.val at_;by_cases hd:at_=0∨0<(a0E at_ m).getD 0
 ·rw[z0A,if_pos hd];refine ns ?_;refine en func110 ntmps110 fun R w0=> ?_;refine go 2 ?_;by_cases h0:at_=0
  ·refine go 4 ?_;refine c0J rfl (wg rfl rfl rfl (wFT (by simpa using h0))) ?_;refine c0J rfl (wg rfl rfl rfl (wFT (by simpa using h0))) ?_;refine c0J rfl (wg rfl rfl rfl (wFT (by simpa using h0))) ?_;refine c0J rfl (wg rfl rfl rfl (wFT (by simpa using h0))) ?_;refine a0D (i0B rfl (by simpa using h0) rfl) ?_;refine go 3 ?_;exact rG
  ·refine go 4 ?_;refine c0R (d0V rfl) (wg rfl rfl rfl (wFF (by simpa using h0))) ?_;refine c0R (d0V rfl) (wg rfl rfl rfl (wFF (by simpa using h0))) ?_;refine c0R (f0P (ek:=a0J) (ev:=a0J) (k:=at_) d0I.o i0T (tt fun _=>trivial) trivial Zr.o rfl rfl (show Fnd _ (b0L b a0J a0J m) _ from gFd) f0J) (wg rfl rfl rfl (wFF (by simpa using h0))) ?_;refine c0R (j1K rfl rfl) (wg rfl rfl rfl (wFF (by simpa using h0))) ?_;refine a0D (i0W rfl (by simpa using h0) rfl) ?_;refine go 2 ?_;refine d0R rfl (by simpa using hd.resolve_left h0) ?_;exact rG
 ·have h0: ¬at_=0:=fun h=>hd (.inl h);have hns:at_ ∉ l0W m:=fun h=>hd (.inr (hm.in_.2 h));obtain⟨hpos,o,ho,hlo⟩:=hi.kidOb hk h0;have hf:=hm.first (by rw[ho];rfl) hns;obtain⟨h8,hkk⟩:=hi.kids hk;have kl:=q0N W a s at_ l;rw[hi.loadK hk]at kl;have kload:=kl.ran_ok;have hln:o0C {kids:=b0E G at_,sum:=d0N G at_} :=(h0U (hi.loadK hk)).2;rw[z0A,if_neg hd];refine ns ?_;refine en func110 ntmps110 fun R w0=> ?_;refine go 6 ?_;refine c0R (d0V rfl) (wg rfl rfl rfl (wFF (by simpa using h0))) ?_;refine c0R (d0V rfl) (wg rfl rfl rfl (wFF (by simpa using h0))) ?_;refine c0R (f0P (ek:=a0J) (ev:=a0J) (k:=at_) d0I.o i0T (tt fun _=>trivial) trivial Zr.o rfl rfl (show Fnd _ (b0L b a0J a0J m) _ from gFd) f0J) (wg rfl rfl rfl (wFF (by simpa using h0))) ?_;refine c0R (j1K rfl rfl) (wg rfl rfl rfl (wFF (by simpa using h0))) ?_;refine a0D (i0W rfl (by simpa using h0) rfl) ?_;refine go 2 ?_;refine b0R rfl (by simpa using fun h=>hd (.inr h)) ?_;refine go 6 ?_;refine a0D (f0P (ek:=a0J) (ev:=a0J) (k:=at_) d0I.o i0T (tt fun _=>trivial) trivial Zr.o rfl rfl (show Fnd _ (b0L b a0J a0J m) _ from gFd) f0J) ?_;refine go 1 ?_;refine n0G (ek:=a0J) (ev:=a0J) (k:=at_) (v:=(a0E at_ m).getD 0+1) d0I.o i0T (tt fun _=>trivial) trivial rfl rfl rfl (show Fnd _ (b0L b a0J a0J m) _ from gFd) ?_;refine go 1 ?_;rw[show b0T at_ ((a0E at_ m).getD 0+1) m=k0Y at_ m from rfl];refine cg 6 (kload) ?_;refine a0D (o0Q (v:=((b0E G at_).map a0J).toArray) F.fa182_1 rfl (i1W hln)) ?_;refine go 4 ?_;refine a0V (X:= {y:Nat×List (Int×Int) // y.1≤8∧i0I G y.2∧(b0E G at_).foldl (fun m k=>e0V G l k m) (k0Y at_ m)=((b0E G at_).drop y.1).foldl (fun m k=>e0V G l k m) y.2}) (fun y=> [(0,ptr a.maps),(2,.int .i64 l),(3,.map (some b)),(28,.agg ((b0E G at_).map a0J).toArray),(29,.int .i64 y.1.1)]) (fun y=>RS W a s++ [b0L b a0J a0J y.1.2,R]) (fun y=>8-y.1.1) ⟨(0,k0Y at_ m),Nat.zero_le 8,hf.seen (by omega),rfl⟩ gSu gSp ?_;rintro⟨⟨i,n⟩,hi8,hn,he⟩ m0 hm0
  try simp only at hm0
  try dsimp only
  simp only at hi8 hn he;refine ns ?_;refine go 6 ?_;refine a0P rfl (fun hb30=> ?_) (fun hb30=> ?_)
  ·have hil:i<(b0E G at_).length:=by have:=of_decide_eq_true hb30;omega
   obtain⟨k,hkd⟩: ∃k,k=(b0E G at_)[i]:=⟨_,rfl⟩;have hki:a0Y G l k:=hkd▸hkk _ (List.getElem_mem hil);rw[List.drop_eq_getElem_cons hil,List.foldl_cons,←hkd]at he;have hok2:=(hi.reach_ok l k n hki hn).1;refine go 6 ?_;refine a0D (p0V (v:=i8 k) Tar.o Sc.o rfl rfl (by omega) (by rw[hkd];exact j0I a0J _ i _ hil (by omega))) ?_;refine go 4 ?_;by_cases hl0:l=0
   ·refine go 7 ?_;subst hl0;by_cases hkp:0<k
    ·by_cases hks:0<(a0E k n).getD 0
     ·refine go 4 ?_;refine c0R (d0V rfl) (wg rfl rfl rfl (wTT (by simpa using hkp))) ?_;refine c0R (d0V rfl) (wg rfl rfl rfl (wTT (by simpa using hkp))) ?_;refine c0R (f0P (ek:=a0J) (ev:=a0J) (k:=k) d0I.o i0T (tt fun _=>trivial) trivial Zr.o rfl rfl (show Fnd _ (b0L b a0J a0J n) _ from gFd) f0J) (wg rfl rfl rfl (wTT (by simpa using hkp))) ?_;refine c0R (a1G rfl rfl) (wg rfl rfl rfl (wTT (by simpa using hkp))) ?_;refine a0D (i0B rfl (by simpa using hkp) rfl) ?_;refine go 9 ?_;exact rd idh (⟨(i+1,n),by(show i+1≤8);omega,hn,by rw[he,g1X (.inr hks)]⟩)
     ·refine go 4 ?_;refine c0R (d0V rfl) (wg rfl rfl rfl (wTT (by simpa using hkp))) ?_;refine c0R (d0V rfl) (wg rfl rfl rfl (wTT (by simpa using hkp))) ?_;refine c0R (f0P (ek:=a0J) (ev:=a0J) (k:=k) d0I.o i0T (tt fun _=>trivial) trivial Zr.o rfl rfl (show Fnd _ (b0L b a0J a0J n) _ from gFd) f0J) (wg rfl rfl rfl (wTT (by simpa using hkp))) ?_;refine c0R (a1G rfl rfl) (wg rfl rfl rfl (wTT (by simpa using hkp))) ?_;refine a0D (i0B rfl (by simpa using hkp) rfl) ?_;refine go 2 ?_;refine d0R rfl (by have:=(hn.sb.val k).1;simp;omega) ?_;refine go 1 ?_;obtain⟨d,ats,hd'⟩:=hki.resolve_left (by omega);have hp:=f2F W a s k (m0R d ats) (by omega) (hi.xhead hd');rw[show(m0R d ats).at_=ats from rfl]at hp;obtain⟨ps,hps⟩: ∃ps,ps=ats.filter (0< ·):=⟨_,rfl⟩;rw[←hps]at hp;have hnl:=hn.len;have hnv:=hn.sb.val k;have hpin: ∀x∈ps,(a0E x G).isSome=true:=fun x hx=>by rw[hps]at hx;obtain⟨k1,k2⟩:=List.mem_filter.1 hx;obtain⟨_,b,hb⟩:=hi.partOf hd' k1 (by simp at k2;omega);rw[hb];rfl
      have hpl:ps.length≤4:=by have h1:=List.length_filter_le (fun x:Int=>decide (0<x)) ats;have h2:=(hi.typ k _ hd').2.2.1;rw[hps];omega
      have hre:=hi.reach0 hd' hks;rw[←hps]at hre;have hfk:=hn.first (by rw[hd'];rfl) (fun h=>hks (hn.in_.2 h));refine go 3 ?_;refine a0D (f0P (ek:=a0J) (ev:=a0J) (k:=k) d0I.o i0T (tt fun _=>trivial) trivial Zr.o rfl rfl (show Fnd _ (b0L b a0J a0J n) _ from gFd) f0J) ?_;refine go 1 ?_;refine n0G (ek:=a0J) (ev:=a0J) (k:=k) (v:=(a0E k n).getD 0+1) d0I.o i0T (tt fun _=>trivial) trivial rfl rfl rfl (show Fnd _ (b0L b a0J a0J n) _ from gFd) ?_;refine go 1 ?_;rw[show b0T k ((a0E k n).getD 0+1) n=k0Y k n from rfl];refine ce 8 (hp) ?_;rintro v _;refine ns ?_;refine a0D (h0Y (e:=3) (n:=ps.length) (size:=1) (xs:=j0P ps) (v:=v) Tsl.o rfl gFd) ?_;refine go 4 ?_;refine o0L (e:=3) (n:=ps.length) (size:=1) (xs:=j0P ps) (v:=v) gFd fun pp cap hv hcap _=> ?_;subst hv;refine a0V (X:= {y:Nat×List (Int×Int) // y.1≤ps.length∧SB G (5*n.length+1+y.1) (n.length+1) y.2∧ps.foldl (fun m k=>k0Y k m) (k0Y k n)=(ps.drop y.1).foldl (fun m k=>k0Y k m) y.2}) (fun y=> [(0,ptr a.maps),(2,.int .i64 (0:Nat)),(3,.map (some b)),(28,.agg ((b0E G at_).map a0J).toArray),(29,.int .i64 i),(57,.slice pp ps.length cap),(58,.int .i64 ps.length),(59,.int .i64 y.1.1)]) (fun y=>RS W a s++ [b0L b a0J a0J y.1.2,b0H 3 1 (.slice pp ps.length cap) ps.length (j0P ps),R]) (fun y=>ps.length-y.1.1) ⟨(0,k0Y k n),Nat.zero_le _,by(show SB G (5*n.length+1+((0:Nat):Int)) _ _);rw[Int.natCast_zero,Int.add_zero];exact hfk,rfl⟩ gSu gSp ?_;rintro⟨⟨j,q⟩,hj,hq,hqe⟩ m2 hm2
      try simp only at hm2
      try dsimp only
      simp only at hj hq hqe;refine ns ?_;refine go 6 ?_;refine a0P rfl (fun hb60=> ?_) (fun hb60=> ?_)
      ·have hjl:j<ps.length:=by have:=of_decide_eq_true hb60;omega
       refine i0Y (e:=3) (n:=ps.length) (size:=1) (xs:=j0P ps) gFd (by omega) fun bv cv hv2 hc2=> ?_;cases hv2
       have hqv:=hq.val ps[j];rw[List.drop_eq_getElem_cons hjl,List.foldl_cons]at hqe;refine go 7 ?_;refine a0D (a0U (e:=3) (xs:=j0P ps) Sc.o rfl gFd (j0I i8 ps j _ hjl (by omega))) ?_;refine go 6 ?_;refine a0D (f0P (ek:=a0J) (ev:=a0J) (k:=ps[j]) d0I.o i0T (tt fun _=>trivial) trivial Zr.o rfl rfl (show Fnd _ (b0L b a0J a0J q) _ from gFd) f0J) ?_;refine go 1 ?_;refine n0G (ek:=a0J) (ev:=a0J) (k:=ps[j]) (v:=(a0E ps[j] q).getD 0+1) d0I.o i0T (tt fun _=>trivial) trivial rfl rfl rfl (show Fnd _ (b0L b a0J a0J q) _ from gFd) ?_;refine go 1 ?_;rw[show b0T ps[j] ((a0E ps[j] q).getD 0+1) q=k0Y ps[j] q from rfl];refine go 5 ?_;exact rd idh (⟨(j+1,k0Y ps[j] q),hjl,by have h:=hq.see (hpin _ (List.getElem_mem hjl));rw[show 5*(n.length:Int)+1+((j+1:Nat):Int)=5*(n.length:Int)+1+(j:Int)+1 by omega];exact h,hqe⟩)
      ·obtain rfl:j=ps.length:=by have:=of_decide_eq_false hb60;omega
       rw[List.drop_length]at hqe;refine go 6 ?_;exact rd idh (⟨(i+1,q),by(show i+1≤8);omega,hq.seen (by omega),by rw[he,hre,hqe];rfl⟩)
    ·refine go 4 ?_;refine c0J rfl (wg rfl rfl rfl (wTF (by simpa using hkp))) ?_;refine c0J rfl (wg rfl rfl rfl (wTF (by simpa using hkp))) ?_;refine c0J rfl (wg rfl rfl rfl (wTF (by simpa using hkp))) ?_;refine c0J rfl (wg rfl rfl rfl (wTF (by simpa using hkp))) ?_;refine a0D (i0W rfl (by simpa using hkp) rfl) ?_;refine go 9 ?_;exact rd idh (⟨(i+1,n),by(show i+1≤8);omega,hn,by rw[he,g1X (.inl (by omega))]⟩)
   ·refine go 6 ?_;obtain⟨l',rfl⟩: ∃l',l=l'+1:=⟨l-1,by omega⟩;refine go 5 ?_;rw[show((l'+1:Nat):Int)-1=((l':Nat):Int) by omega];refine cg 1 (ih l' rfl k b n hki hn) ?_;refine go 6 ?_;exact rd idh (⟨(i+1,e0V G (l'+1) k n),by(show i+1≤8);omega,hok2,he⟩)
  ·obtain rfl:i=8:=by have:=of_decide_eq_false hb30;omega
   rw[List.drop_eq_nil_of_le (by omega)]at he;rw[he];refine go 1 ?_;refine d0W rfl rfl gSp
theorem f2G (W:World) (a:Ad) (s:St) (G:Gh) (P:List Int) (hi:Inv s G P):v0B W a s G 2:=by
 have d0:v0B W a s G 0:=z0I W a s G P hi 0 (by decide) fun k h=>by omega
 have d1:v0B W a s G 1:=z0I W a s G P hi 1 (by decide) fun k h=>(by obtain rfl:k=0:=(by omega);exact d0);exact z0I W a s G P hi 2 (by decide) fun k h=>(by obtain rfl:k=1:=(by omega);exact d1)
theorem b2E {k:Int} : ∀ {m:List (Int×Int)},a0E k m=none→b0C k m=m
 | [],_=>rfl
 | (j,u)::m,h=>by
  rw[d0H]at h;split at h
  ·cases h
  ·rename_i e;simp only[b0C,if_neg e,b2E h]
theorem p2M {G:Gh} {m:List (Int×Int)} (h:i0I G m) (hz:a0E 0 G=none):b0C 0 m=m:=b2E (by
 cases e:a0E 0 m with
 |none=>rfl
 |some v=>have:=h.held _ ((e0Q h.ok).1 e);rw[hz]at this;cases this)
theorem q1M (W:World) (a:Ad) (s:St) (G:Gh) (P:List Int) (hi:Inv s G P) (roots:List Int) (hk: ∀r∈roots,a0Y G 3 r) (hP: ∀p∈P,p∈roots) (v:Value) (hrl:roots.length≤1000):
 a0F prog 56 #[ptr a.maps,v] (RS W a s++ [b0H 3 1 v roots.length (j0P roots)])
  (b0N (fun x:Value×List Int=>x.2.length=s.g.count 1) (fun x=>x.1) (fun x=>RS W a s++ [b0H 3 1 v roots.length (j0P roots),b0H 3 1 x.1 x.2.length (j0P x.2)])):=by
 obtain⟨hall,hcnt⟩:=hi.reachAll hk hP;have hgl:=hi.atMost;have hsl:=hall.len;have h0:i0I G []:=⟨List.nodup_nil,fun p hp=>(by cases hp),fun p hp=>(by cases hp)⟩;refine ns ?_;refine en func56 ntmps56 fun R w0=> ?_;refine o0L (e:=3) (n:=roots.length) (size:=1) (xs:=j0P roots) (v:=v) gFd fun pp cap hv hcap _=> ?_;subst hv;refine go 7 ?_;refine(q0T (fun b8=> ?_));refine go 5 ?_;refine b0V (fun w h=>t0M a0J a0J ((show Fnd _ (pts b8 _) _ from gFd).sat h)) ?_;refine go 7 ?_;refine a0V (X:= {y:Nat×List (Int×Int) // y.1≤roots.length∧i0I G y.2∧roots.foldl (fun m r=>e0V G 3 r m) []=(roots.drop y.1).foldl (fun m r=>e0V G 3 r m) y.2}) (fun y=> [(0,ptr a.maps),(5,.map (some b8)),(9,.slice pp roots.length cap),(10,.int .i64 roots.length),(11,.int .i64 y.1.1)]) (fun y=>RS W a s++ [b0L b8 a0J a0J y.1.2,b0H 3 1 (.slice pp roots.length cap) roots.length (j0P roots),R]) (fun y=>roots.length-y.1.1) ⟨(0,[]),Nat.zero_le _,h0,rfl⟩ gSu gSp ?_;rintro⟨⟨i,n⟩,hil0,hn,he⟩ m0 hm0
 try simp only at hm0
 try dsimp only
 simp only at hil0 hn he;refine ns ?_;refine go 6 ?_;refine a0P rfl (fun hb12=> ?_) (fun hb12=> ?_)
 ·have hil:i<roots.length:=by have:=of_decide_eq_true hb12;omega
  refine i0Y (e:=3) (n:=roots.length) (size:=1) (xs:=j0P roots) gFd (by omega) fun bv cv hv2 hc2=> ?_;cases hv2
  have hri:=hk _ (List.getElem_mem hil);rw[List.drop_eq_getElem_cons hil,List.foldl_cons]at he;refine go 7 ?_;refine a0D (a0U (e:=3) (xs:=j0P roots) Sc.o rfl gFd (j0I i8 roots i _ hil (by omega))) ?_;refine cg 7 (f2G W a s G P hi roots[i] b8 n hri hn) ?_;refine go 6 ?_;exact rd idh (⟨(i+1,e0V G 3 roots[i] n),hil,(hi.reach_ok 3 _ n hri hn).1,he⟩)
 ·obtain rfl:i=roots.length:=by have:=of_decide_eq_false hb12;omega
  rw[List.drop_length]at he;have hnl:n.length=s.g.count 1:=by rw[←hcnt,he];rfl
  have hn2:=hn.len;refine go 5 ?_;refine q0B (ek:=a0J) (ev:=a0J) (k:=0) d0I.o i0T (tt fun _=>trivial) trivial rfl rfl (show Fnd _ (b0L b8 a0J a0J n) _ from gFd) ?_;rw[p2M hn hi.zero];refine ce 5 (w2S b8) ?_;rintro bk _;refine ns ?_;refine ce 0 (p2K (ev:=a0J) b8 bk n (by omega)) ?_;rintro⟨u,xs⟩ hx;refine ns ?_;refine go 3 ?_;exact rE idh (u,xs) (hx.trans hnl)
end Go.Proofs.Q
namespace Go.Proofs.Q
open Go Go.Sl Tryz
instance:Hb prog 101:=⟨kr⟩
instance:Hb prog 102:=⟨kr⟩
instance:Hb prog 125:=⟨kr⟩
instance:Hb prog 126:=⟨kr⟩
instance:Hb prog 145:=⟨kr⟩
instance:Hb prog 174:=⟨kr⟩
instance:Hb prog 175:=⟨kr⟩
instance:Ag prog 277 2:=⟨kr⟩
instance:Fl prog 34 2 2:=⟨kr⟩
instance:Hb prog 208:=⟨kr⟩
instance:Pl prog 277 ([(0,1),(1,1)],.agg #[.slice none 0 0,.int .i64 0]):=⟨kr⟩
instance:Sz prog 277 2:=⟨kr⟩
instance:Zr prog 277 (.agg #[.slice none 0 0,.int .i64 0]):=⟨kr⟩
instance:Hb prog 103:=⟨kr⟩
instance:Sz prog 32 1:=⟨kr⟩
instance:Ttb prog 42 64:=⟨kr⟩
instance:Hb prog 100:=⟨kr⟩
instance:Pl prog 42 ([(0,1),(1,1),(2,1),(3,1),(4,1),(5,1)],.agg #[.int .i64 0,.int .i64 0,.bool false,.int .i64 0,.int .i64 0,.slice none 0 0]):=⟨kr⟩
end Go.Proofs.Q
namespace Go.Proofs.Q
open Go.Sl Go.Sb Tryz
abbrev x0X (H:b0A) (P:Rp) (x:b0A×Rx):Prop:=(∀p∈H,p∈x.1)∧c0T x.1 x.2∧er x.2=P
theorem w2W (c:Rx) (lv:Value) (i:Nat) (v:Vx):er {c with lv:=lv,l:=c.l.set i v} = {er c with l:=(er c).l.set i v.v} :=by
 unfold er;simp only[List.map_set]
theorem q0Q {H:b0A} {v:Vx} (hv:m0Z H v): ∀u∈a0S v,u.oneCell'=true:=fun u hu=>w0T (l:= [v]) (fun x hx=>by rw[List.mem_singleton.1 hx];exact hv) u (by simpa using hu)
theorem w2X {H:b0A} {l:List Vx} {i:Nat} {v:Vx} (h: ∀x∈l,m0Z H x) (hv:m0Z H v): ∀x∈l.set i v,m0Z H x:=fun x hx=>by
 rcases List.mem_or_eq_of_mem_set hx with h1|rfl
 ·exact h x h1
 ·exact hv
theorem c1J (H:b0A) (c:Rx) (i:Nat) (v:Vx) (hc:c0T H c) (hv:m0Z H v) (hi:i<c.l.length):a0F prog 126 #[e0R c,.int .i64 i,z0H v] [b0Z H]
 (b0N (x0X H {er c with l:=(er c).l.set i v.v}) (fun x=>e0R x.2) (fun x=> [b0Z x.1])):=by
 obtain⟨p,cap,hlv,hcap⟩:=d0Q hc.vols;have hfew:=hc.few;have hrow:=hc.vols;rw[hlv]at hrow;have hfl:=h0S t0Y c.l;have hi6:0+((i:Nat):Int).toNat*6+6≤(c.l.flatMap a0S).length:=by rw[hfl];omega
 refine en func126 ntmps126 fun R w0=> ?_
 try simp only[e0R,a0H,z0H]
 rw[hlv];refine go 2 ?_;refine bx fun b3=> ?_;refine bx fun b5=> ?_;refine al fun b6=> ?_;refine go 4 ?_;refine bl fun b7=> ?_;refine e0K (fun w h=>n0U 6 h) ?_;refine go 2 ?_;refine(c0Z (news:=c.l.flatMap a0S) Tsl.o Ttb.o Zr.o rfl rfl rfl gFd (a1U Tsl.o hrow gFd (w0T hc.maps)) (by simp only[maxLen];omega) (by omega) (fun v10 hv10=> ?_));rw[show 0+c.l.length=c.l.length from Nat.zero_add _,List.nil_append];refine go 5 ?_;refine i0Y (e:=42) gFd (by omega) fun bw capw hvw hcapw=> ?_;refine go 1 ?_;subst hvw;refine go 5 ?_;refine m1M (vs:=a0S v) (xs':=(c.l.set i v).flatMap a0S) Sz.o rfl rfl rfl (q0Q hv) gFd hi6 (by rw[show 0+((i:Nat):Int).toNat*6=i*6 by omega];exact o1E t0Y v hi) ?_;refine go 5 ?_;skip;refine(a0M Sz.o rfl rfl (by first|rfl|simp) (by simp[Value.oneCell']) (by simp[Value.cells]) (by simp[i0X,Value.cells]<;>rfl) ?_);refine go 2 ?_;refine s0U (show Fnd _ (b0H 42 6 (.slice (some ⟨bw,0,none⟩) c.l.length capw) c.l.length ((c.l.set i v).flatMap a0S)) _ from gFd) (show Fnd _ (b0Z H) _ from gFd) fun H' hs hr=> ?_;exact c0N (x:=((H',{c with lv:= .slice (some ⟨bw,0,none⟩) c.l.length capw,l:=c.l.set i v}):b0A×Rx)) ⟨hs,⟨(by show i0E _ _ _ _ (c.l.set i v).length _;rw[List.length_set];exact hr),fun x hx=>w2X (fun x hx=>(hc.maps x hx).more hs) (hv.more hs) x hx,by simpa using hfew⟩,w2W c _ i v⟩ idh (RV.agg Ag.o rfl (by simp) (by rfl) RV.nil) rfl gSp
def p2N (e n:Int) (x:b0A×Rx):Value:= .tuple #[e0R x.2,.int .i64 n,.int .i64 e]
def n1W (e:Int) (x:b0A×Rx):Value:= .tuple #[e0R x.2,.int .i64 e]
theorem k2S (c:Rx):(er c).l.length=c.l.length:=by simp[er]
theorem g0H {H:b0A} {c:Rx} (hc:c0T H c):x0X H (er c) (H,c):=⟨fun _ h=>h,hc,rfl⟩
theorem w2Y (lv:Value) (l:List Vx) (n b e) (v:Vx) (lv2 n2):er {lv:=lv,l:=l++ [v],next:=n2,bits:=b,epoch:=e} = {er {lv:=lv2,l:=l,next:=n,bits:=b,epoch:=e} with l:=(er {lv:=lv2,l:=l,next:=n,bits:=b,epoch:=e}).l++ [v.v],next:=n2} :=by
 unfold er;simp only[List.map_append,List.map_cons,List.map_nil]
theorem q1B (H:b0A) (c:Rx) (v:Vx) (hc:c0T H c) (hv:m0Z H v) (hn:0≤c.next∧c.next<1000000000):a0F prog 100 #[e0R c,z0H v] [b0Z H]
 (b0N (x0X H (g0Q (er c) v.v).1) (p2N (g0Q (er c) v.v).2.2 (g0Q (er c) v.v).2.1) (fun x=> [b0Z x.1])):=by
 obtain⟨p,cap,hlv,hcap⟩:=d0Q hc.vols;obtain⟨lv,l,next,bits,epoch⟩:=c;dsimp only at hlv hn hcap;subst hlv;have hfew:=hc.few;have hrow:=hc.vols;dsimp only at hfew hrow;have hfl:=h0S t0Y l;by_cases h15:15<l.length
 ·rw[show g0Q (er ⟨.slice p l.length cap,l,next,bits,epoch⟩) v.v=(er ⟨.slice p l.length cap,l,next,bits,epoch⟩,0,13) by unfold g0Q;rw[if_pos (by rw[k2S];exact h15)]];refine en func100 ntmps100 fun R w0=> ?_
  try simp only[e0R,a0H,z0H]
  refine go 2 ?_;refine bx fun b2=> ?_;refine bx fun b3=> ?_;refine al fun b4=> ?_;refine go 13 ?_;refine d0R rfl (by simpa using (by omega:(15:Int)<(l.length:Int))) ?_;refine go 2 ?_;refine a0D (a0L (v:= #[.slice p l.length cap,.int .i64 next,.int .i64 bits,.int .i64 epoch]) Ag.o rfl (by simp[Value.cells]) (a0G (by simp[Value.cells]))) ?_;refine(a0M Sz.o rfl rfl (by first|rfl|simp) (by simp[Value.oneCell']) (by simp[Value.cells]) (by simp[i0X,Value.cells]<;>rfl) ?_);refine go 4 ?_;exact c0N (x:=((H,⟨.slice p l.length cap,l,next,bits,epoch⟩):b0A×Rx)) (g0H hc) idh (RV.agg Ag.o rfl (by simp) (by rfl) (RV.tmp rfl (RV.tmp rfl RV.nil))) rfl gSp
 ·have hr:g0Q (er ⟨.slice p l.length cap,l,next,bits,epoch⟩) v.v=({er ⟨.slice p l.length cap,l,next,bits,epoch⟩with l:=(er ⟨.slice p l.length cap,l,next,bits,epoch⟩).l++ [{v.v with id:=next,born:=epoch}],next:=next+1},next,0):=by unfold g0Q;rw[if_neg (by rw[k2S];exact h15)];rfl
  obtain⟨v2,hv2⟩: ∃v2:Vx,v2= {v with v:= {v.v with id:=next,born:=epoch}} :=⟨_,rfl⟩;have hvk:m0Z H v2:=by rw[hv2];exact hv
  have hvc:a0S v2= [.int .i64 next,.int .i64 v.v.parent,.bool v.v.only,.int .i64 v.v.size,.int .i64 epoch,v.mv]:=by rw[hv2];rfl
  rw[hr];refine en func100 ntmps100 fun R w0=> ?_
  try simp only[e0R,a0H,z0H,a0S]
  refine go 2 ?_;refine bx fun b2=> ?_;refine bx fun b3=> ?_;refine al fun b4=> ?_;refine go 13 ?_;refine b0R rfl (by simpa using (by omega: ¬(15:Int)<(l.length:Int))) ?_;refine go 2 ?_;refine q0V ([(2,.pointer (some ⟨b2,0,none⟩)),(3,.pointer (some ⟨b3,0,none⟩)),(4,.pointer (some ⟨b4,0,none⟩))]) ([pts b2 (.cells #[.slice p l.length cap,.int .i64 next,.int .i64 bits,.int .i64 epoch] 34 (0,0)),pts b3 (.cells #[.int .i64 next,.int .i64 v.v.parent,.bool v.v.only,.int .i64 v.v.size,.int .i64 epoch,v.mv] 42 (0,0)),pts b4 (.cells #[.slice none 0 0,.int .i64 0,.int .i64 0,.int .i64 0] 34 (0,0)),b0Z H,R]) ?_ ?_
  ·refine mx (.r 0 5 (.hard 5 (.soft 6 (.hard 7 .done)))) [pts b2 (.cells #[.slice p l.length cap,.int .i64 next,.int .i64 bits,.int .i64 epoch] 34 (0,0))] ?_;refine go 15 ?_;exact h0C idh gSu gSp
  refine go 10 ?_;refine u0P 8 (by rfl) (.soft 1 (.soft 2 (.soft 4 (.float 5 (.hard 0 (.hard 3 (.res (.hard 6 (.soft 7 .done))))))))) [pts b2 (.cells #[.slice p l.length cap,.int .i64 (next+1),.int .i64 bits,.int .i64 epoch] 34 (0,0)),pts b3 (.cells #[.int .i64 next,.int .i64 v.v.parent,.bool v.v.only,.int .i64 v.v.size,.int .i64 epoch,v.mv] 42 (0,0))] Fol.o (by kernel_rfl) (by repeat (first|with_reducible exact b0S.bp|with_reducible apply b0S.then|with_reducible apply b0S.inBlock)) gSp ?_;simp only[List.take_succ_cons,List.take_zero];refine go 2 ?_;refine i0L rfl (a0L (v:= #[.int .i64 next,.int .i64 v.v.parent,.bool v.v.only,.int .i64 v.v.size,.int .i64 epoch,v.mv]) Ag.o rfl (by simp[Value.cells]) (a0G (by simp[Value.cells]))) ?_;refine s0Q (e0:= [(26,_)]) rfl gSu (fun _ _ _=>rfl) Tsl.o Zr.o rfl rfl rfl (by simp[l0Y,q0Y,Value.cells]<;>rfl) rfl ?_;refine c0F rfl (fun hok EE FF=> ?_);refine ns ?_;refine bl fun b22=> ?_;refine e0K (fun w h=>n0U 6 h) ?_;refine go 1 ?_;refine fn (E:=EE) (F:=FF) (hok.put rfl) ?_;refine c0F rfl (fun hok EE FF=> ?_);refine ns ?_;refine(c0Z (news:=l.flatMap a0S) Tsl.o Ttb.o Zr.o rfl rfl rfl gFd (a1U Tsl.o hrow gFd (w0T hc.maps)) (by simp only[maxLen];omega) (by omega) (fun v25 hv25=> ?_));refine go 1 ?_;refine fn (E:=EE) (F:=FF) (hok.put rfl) ?_;refine n0A (fun b27=> ?_);dsimp only;refine c0F rfl (fun hok EE FF=> ?_);refine ns ?_;refine(c0Z (news:=a0S v2) Tsl.o Ttb.o Zr.o rfl rfl rfl gFd (e0Z Tsl.o (by rw[hvc];rfl) (by rw[hvc];rfl) (q0Q hvk)) (by simp only[maxLen];omega) (by omega) (fun v28 hv28=> ?_));refine go 1 ?_;refine fn (E:=EE) (F:=FF) (hok.put rfl) ?_;refine go 2 ?_;refine z0L ?_;refine go 4 ?_;refine i0Y (e:=42) gFd (by omega) fun bw capw hvw hcapw=> ?_;subst hvw;rw[show 0+l.length=l.length from Nat.zero_add _];refine mx (.r 0 3 (.hard 3 (.r 4 2 .done))) [pts b2 (.cells #[.slice (some ⟨bw,0,none⟩) (l.length+1) capw,.int .i64 (next+1),.int .i64 bits,.int .i64 epoch] 34 (0,0)),pts b3 (.cells #[.int .i64 next,.int .i64 v.v.parent,.bool v.v.only,.int .i64 v.v.size,.int .i64 epoch,v.mv] 42 (0,0))] ?_;refine c0V rfl (a0L (v:= #[.slice (some ⟨bw,0,none⟩) (l.length+1) capw,.int .i64 (next+1),.int .i64 bits,.int .i64 epoch]) Ag.o rfl (by simp[Value.cells]) (a0G (by simp[Value.cells]))) ?_;refine go 3 ?_;refine(a0M Sz.o rfl rfl (by first|rfl|simp) (by simp[Value.oneCell']) (by simp[Value.cells]) (by simp[i0X,Value.cells]<;>rfl) ?_);refine go 6 ?_;refine s0U (show Fnd _ (b0H 42 6 (.slice (some ⟨bw,0,none⟩) (l.length+1) capw) (l.length+1) (l.flatMap a0S++a0S v2)) _ from gFd) (show Fnd _ (b0Z H) _ from gFd) fun H' hs hr2=> ?_;exact c0N (x:=((H',⟨.slice (some ⟨bw,0,none⟩) (l.length+1) capw,l++ [v2],next+1,bits,epoch⟩):b0A×Rx)) ⟨hs,⟨(by show i0E _ _ _ _ (l++ [v2]).length _;rw[List.length_append,List.flatMap_append,List.flatMap_singleton];exact hr2),fun x hx=>by rcases List.mem_append.1 hx with h|h;{exact(hc.maps x h).more hs};{rw[List.mem_singleton.1 h];exact hvk.more hs},by simp;omega⟩,by rw[hv2];exact w2Y _ l _ _ _ _ _ _⟩ idh (RV.agg Ag.o rfl (by simp) (by rfl) (RV.tmp rfl (RV.tmp rfl RV.nil))) rfl gSp
theorem c0H {H:b0A} {c:Rx} (hc:c0T H c): ∀u∈a0H c,u.oneCell'=true:=fun u hu=>by
 simp only[a0H,List.mem_cons,List.not_mem_nil,or_false]at hu;rcases hu with rfl|rfl|rfl|rfl
 ·exact hc.vols.one
 ·rfl
 ·rfl
 ·rfl
theorem p0A {H:b0A} {c:Rx} {id:Int} {i:Nat} (hc:c0T H c) (h:c0O (er c).l id=some i):a0F prog 101 #[e0R c,.int .i64 id] [b0Z H] (a0T (.int .i64 (i:Int)) [b0Z H]):=by
 have:=l1L H c id hc;unfold d1H at this;rw[h]at this;exact this
theorem r0H {H:b0A} {c:Rx} {id:Int} (hc:c0T H c) (h:c0O (er c).l id=none):a0F prog 101 #[e0R c,.int .i64 id] [b0Z H] (a0T (.int .i64 (-1)) [b0Z H]):=by
 have:=l1L H c id hc;unfold d1H at this;rw[h]at this;exact this
theorem n0C {c:Rx} {i:Nat} (h:i<c.l.length):(er c).l.getD i v0=c.l[i].v:=by
 rw[List.getD_eq_getElem?_getD,List.getElem?_eq_getElem (by simpa [er] using h)];simp[er]
theorem p2O (H:b0A) (s:Int):m0Z H {v:= {v0 with size:=s},mv:= .slice none 0 0} :=⟨j1X H _ 2,o1N⟩
theorem v1Q (H:b0A) (c:Rx) (size:Int) (hc:c0T H c) (hn:0≤c.next∧c.next<1000000000):a0F prog 42 #[e0R c,.int .i64 size] [b0Z H]
 (b0N (x0X H (e0S (er c) size).1) (p2N (e0S (er c) size).2.2 (e0S (er c) size).2.1) (fun x=> [b0Z x.1])):=by
 have hone:=c0H hc;by_cases hb:size<1∨2048<size
 ·rw[show e0S (er c) size=(er c,0,4) by unfold e0S;rw[if_pos hb]];refine en func42 ntmps42 fun R w0=> ?_
  try simp only[e0R,a0H]
  refine go 2 ?_;refine bx fun b2=> ?_;refine al fun b4=> ?_;refine go 6 ?_;by_cases hlt:size<1
  ·refine go 12 ?_;refine a0D (a0L (v:= #[c.lv,.int .i64 c.next,.int .i64 c.bits,.int .i64 c.epoch]) Ag.o rfl (by simp[Value.cells]) (a0G (by simp[Value.cells]))) ?_;refine a0M Sz.o rfl rfl rfl (fun u hu=>hone u (by simpa [a0H] using hu)) (by simp[Value.cells,a0H,a0S]) (a0N (by simp[Value.cells,a0H,a0S])) ?_;refine go 4 ?_;exact c0N (x:=((H,c):b0A×Rx)) (g0H hc) idh (RV.agg Ag.o rfl (by simp[a0H]) (by rfl) (RV.tmp rfl (RV.tmp rfl RV.nil))) rfl gSp
  ·refine go 9 ?_;refine d0R rfl (by simpa using (by omega:2048<size)) ?_;refine go 2 ?_;refine a0D (a0L (v:= #[c.lv,.int .i64 c.next,.int .i64 c.bits,.int .i64 c.epoch]) Ag.o rfl (by simp[Value.cells]) (a0G (by simp[Value.cells]))) ?_;refine a0M Sz.o rfl rfl rfl (fun u hu=>hone u (by simpa [a0H] using hu)) (by simp[Value.cells,a0H,a0S]) (a0N (by simp[Value.cells,a0H,a0S])) ?_;refine go 4 ?_;exact c0N (x:=((H,c):b0A×Rx)) (g0H hc) idh (RV.agg Ag.o rfl (by simp[a0H]) (by rfl) (RV.tmp rfl (RV.tmp rfl RV.nil))) rfl gSp
 ·rw[show e0S (er c) size=g0Q (er c) {v0 with size:=size} by unfold e0S;rw[if_neg hb]];refine en func42 ntmps42 fun R w0=> ?_
  try simp only[e0R,a0H]
  refine go 2 ?_;refine bx fun b2=> ?_;refine al fun b4=> ?_;refine go 15 ?_;refine b0R rfl (by simpa using (by omega: ¬2048<size)) ?_;refine go 4 ?_;refine a0D (a0L (v:= #[c.lv,.int .i64 c.next,.int .i64 c.bits,.int .i64 c.epoch]) Ag.o rfl (by simp[Value.cells]) (a0G (by simp[Value.cells]))) ?_;refine ce 2 (q1B H c {v:= {v0 with size:=size},mv:= .slice none 0 0} hc (p2O H size) hn) ?_;rintro⟨H',c'⟩ ⟨hs',hc',hr'⟩;refine ns ?_;refine go 3 ?_;refine a0M Sz.o rfl rfl rfl (fun u hu=>c0H hc' u (by simpa using hu)) (by simp[Value.cells,a0H,a0S]) (a0N (by simp[Value.cells,a0H,a0S])) ?_;refine go 4 ?_;exact c0N (x:=((H',c'):b0A×Rx)) ⟨hs',hc',hr'⟩ idh (RV.agg Ag.o rfl (by simp[a0H]) (by rfl) (RV.tmp rfl (RV.tmp rfl RV.nil))) rfl gSp
theorem l1S (H:b0A) (c:Rx) (id:Int) (only:Bool) (hc:c0T H c) (hn:0≤c.next∧c.next<1000000000):a0F prog 45 #[e0R c,.int .i64 id,.bool only] [b0Z H]
 (b0N (x0X H (i0N (er c) id only).1) (p2N (i0N (er c) id only).2.2 (i0N (er c) id only).2.1) (fun x=> [b0Z x.1])):=by
 have hone:=c0H hc;obtain⟨p,cap,hlv,hcap⟩:=d0Q hc.vols;have hrow:=hc.vols;rw[hlv]at hrow;have hfew:=hc.few;cases hf:c0O (er c).l id with
 |none=>
  rw[show i0N (er c) id only=(er c,0,5) by unfold i0N;rw[hf]];refine en func45 ntmps45 fun R w0=> ?_
  try simp only[e0R,a0H]
  refine go 2 ?_;refine bx fun b3=> ?_;refine al fun b6=> ?_;refine go 6 ?_;refine a0D (a0L (v:= #[c.lv,.int .i64 c.next,.int .i64 c.bits,.int .i64 c.epoch]) Ag.o rfl (by simp[Value.cells]) (a0G (by simp[Value.cells]))) ?_;refine cg 1 (r0H hc hf) ?_;refine go 13 ?_;refine a0D (a0L (v:= #[c.lv,.int .i64 c.next,.int .i64 c.bits,.int .i64 c.epoch]) Ag.o rfl (by simp[Value.cells]) (a0G (by simp[Value.cells]))) ?_;refine a0M Sz.o rfl rfl rfl (fun u hu=>hone u (by simpa [a0H] using hu)) (by simp[Value.cells,a0H,a0S]) (a0N (by simp[Value.cells,a0H,a0S])) ?_;refine go 4 ?_;exact c0N (x:=((H,c):b0A×Rx)) (g0H hc) idh (RV.agg Ag.o rfl (by simp[a0H]) (by rfl) (RV.tmp rfl (RV.tmp rfl RV.nil))) rfl gSp
 |some i=>
  have hil:i<c.l.length:=by have:=t0Z hf;simpa [er] using this
  rw[show i0N (er c) id only=g0Q (er c) {v0 with parent:=id,only:=only,size:=c.l[i].v.size,m:=c.l[i].v.m} by unfold i0N;rw[hf];simp only[n0C hil]];obtain⟨b,o,cap',cur,hv,hcp,hmem,hcut,hlen⟩:=g0G hrow (by omega);cases hv
  have hcu:(cur.drop (o+i*6)).take 6=a0S c.l[i]:=(h0R hcut hil).trans (m0V c.l hil);have hvi:=hc.maps _ (List.getElem_mem hil);obtain⟨pm,capm,hmv,hcm⟩:=d0Q hvi.1;have hvi2:m0Z H {v:= {v0 with parent:=id,only:=only,size:=c.l[i].v.size,m:=c.l[i].v.m},mv:= .slice pm c.l[i].v.m.length capm} :=by rw[←hmv];exact hvi
  refine en func45 ntmps45 fun R w0=> ?_
  try simp only[e0R,a0H]
  refine go 2 ?_;refine bx fun b3=> ?_;refine al fun b6=> ?_;refine go 6 ?_;refine a0D (a0L (v:= #[c.lv,.int .i64 c.next,.int .i64 c.bits,.int .i64 c.epoch]) Ag.o rfl (by simp[Value.cells]) (a0G (by simp[Value.cells]))) ?_;refine cg 1 (p0A hc hf) ?_;refine go 10 ?_;refine b0R rfl (by simpa using (by omega: ¬((i:Int)<0))) ?_;refine go 5 ?_;refine a0D (b0M (v:= .slice (some ⟨b,o,none⟩) c.l.length cap) Sc.o rfl (by rw[hlv];rfl)) ?_;refine go 2 ?_;refine a0D (e0U (vs:=a0S c.l[i]) Ag.o rfl gFd hmem hcu rfl (by decide)) ?_;refine al fun b10=> ?_;refine a0M Sz.o rfl rfl rfl (fun u hu=>q0Q hvi u (by simpa using hu)) (by simp[Value.cells,a0H,a0S]) (a0N (by simp[Value.cells,a0H,a0S])) ?_;refine go 4 ?_;refine a0D (a0L (v:= #[c.lv,.int .i64 c.next,.int .i64 c.bits,.int .i64 c.epoch]) Ag.o rfl (by simp[Value.cells]) (a0G (by simp[Value.cells]))) ?_;refine go 5 ?_;refine a0D (b0M (v:= .slice pm c.l[i].v.m.length capm) Sc.o rfl (by rw[←hmv];rfl)) ?_;refine ce 1 (q1B H c {v:= {v0 with parent:=id,only:=only,size:=c.l[i].v.size,m:=c.l[i].v.m},mv:= .slice pm c.l[i].v.m.length capm} hc hvi2 hn) ?_;rintro⟨H',c'⟩ ⟨hs',hc',hr'⟩;refine ns ?_;refine go 3 ?_;refine a0M Sz.o rfl rfl rfl (fun u hu=>c0H hc' u (by simpa using hu)) (by simp[Value.cells,a0H,a0S]) (a0N (by simp[Value.cells,a0H,a0S])) ?_;refine go 4 ?_;exact c0N (x:=((H',c'):b0A×Rx)) ⟨hs',hc',hr'⟩ idh (RV.agg Ag.o rfl (by simp[a0H]) (by rfl) (RV.tmp rfl (RV.tmp rfl RV.nil))) rfl gSp
theorem k2T {H:b0A} {e:TypeId} {size n k:Nat} {p:Option Addr} {cap:Nat} {xs:List Value} (h:i0E H e size (.slice p n cap) n xs) (hk:k≤n):i0E H e size (.slice p k cap) k (xs.take (k*size)):=by
 obtain⟨h1,h2⟩:=h;have hm:k*size≤n*size:=Nat.mul_le_mul_right _ hk;refine⟨by rw[List.length_take,h1];omega,?_⟩;rcases h2 with ⟨h3,h4⟩| ⟨b,o,cap2,cur,h3,h4,h5,h6⟩
 ·left;cases h3
  obtain rfl:k=0:=by omega
  exact⟨rfl,rfl⟩
 ·right;cases h3
  exact⟨b,o,cap,cur,rfl,by omega,h5,by rw[←h6,List.take_take,Nat.min_eq_left hm]⟩
theorem y1I {H:b0A} {e:TypeId} {size n k:Nat} {p:Option Addr} {cap:Nat} {xs:List Value} (h:i0E H e size (.slice p n cap) n xs) (hk:k≤n) (h0:0<n):i0E H e size (.slice (a1N p k cap size) (n-k) (cap-k)) (n-k) (xs.drop (k*size)):=by
 obtain⟨h1,h2⟩:=h;have hm:n*size-k*size=(n-k)*size:=by rw[Nat.sub_mul]
 refine⟨by rw[List.length_drop,h1,hm],?_⟩;rcases h2 with ⟨h3,h4⟩| ⟨b,o,cap2,cur,h3,h4,h5,h6⟩
 ·omega
 ·right;cases h3
  unfold a1N;by_cases hc:cap=k
  ·rw[if_pos hc];have hn:n-k=0:=by omega
   refine⟨b,o,cap-k,cur,rfl,by omega,h5,?_⟩;rw[hn,Nat.zero_mul,List.take_zero,List.drop_eq_nil_of_le];rw[h1];exact Nat.mul_le_mul_right _ (by omega)
  ·rw[if_neg hc];refine⟨b,o+k*size,cap-k,cur,by rw[Option.map_some,i0O],by omega,h5,?_⟩;rw[←h6,List.drop_take,List.drop_drop,hm]
theorem l1T {α:Type} {f:α→List Value} {size:Nat} (hf: ∀x,(f x).length=size): ∀(l:List α) (i:Nat),i≤l.length→(l.flatMap f).take (i*size)=(l.take i).flatMap f
 |l,0,_=>by simp
 | [],i+1,h=>by simp at h
 |x::l,i+1,h=>by
  rw[List.flatMap_cons,show(i+1)*size=(f x).length+i*size by rw[hf,Nat.succ_mul];omega,List.take_length_add_append,List.take_succ_cons,List.flatMap_cons,l1T hf l i (by simpa using h)]
theorem e1V {α:Type} {f:α→List Value} {size:Nat} (hf: ∀x,(f x).length=size): ∀(l:List α) (i:Nat),i≤l.length→(l.flatMap f).drop (i*size)=(l.drop i).flatMap f
 |l,0,_=>by simp
 | [],i+1,h=>by simp at h
 |x::l,i+1,h=>by
  rw[List.flatMap_cons,show(i+1)*size=(f x).length+i*size by rw[hf,Nat.succ_mul];omega,List.drop_length_add_append,List.drop_succ_cons,e1V hf l i (by simpa using h)]
theorem w2Z {c:Rx} {i:Nat} {lv:Value} :er {c with lv:=lv,l:=c.l.take i++c.l.drop (i+1)} = {er c with l:=(er c).l.eraseIdx i} :=by
 unfold er;simp only[List.eraseIdx_eq_take_drop_succ,List.map_append,List.map_take,List.map_drop]
theorem v1R (H:b0A) (c:Rx) (id:Int) (hc:c0T H c):a0F prog 75 #[e0R c,.int .i64 id] [b0Z H]
 (b0N (x0X H (g0T (er c) id).1) (n1W (g0T (er c) id).2) (fun x=> [b0Z x.1])):=by
 have hone:=c0H hc;obtain⟨p,cap,hlv,hcap⟩:=d0Q hc.vols;have hrow:=hc.vols;rw[hlv]at hrow;have hfew:=hc.few;cases hf:c0O (er c).l id with
 |none=>
  rw[show g0T (er c) id=(er c,5) by unfold g0T;rw[hf]];refine en func75 ntmps75 fun R w0=> ?_
  try simp only[e0R,a0H]
  refine go 2 ?_;refine bx fun b2=> ?_;refine al fun b4=> ?_;refine go 5 ?_;refine a0D (a0L (v:= #[c.lv,.int .i64 c.next,.int .i64 c.bits,.int .i64 c.epoch]) Ag.o rfl (by simp[Value.cells]) (a0G (by simp[Value.cells]))) ?_;refine cg 1 (r0H hc hf) ?_;refine go 13 ?_;refine a0D (a0L (v:= #[c.lv,.int .i64 c.next,.int .i64 c.bits,.int .i64 c.epoch]) Ag.o rfl (by simp[Value.cells]) (a0G (by simp[Value.cells]))) ?_;refine a0M Sz.o rfl rfl rfl (fun u hu=>hone u (by simpa [a0H] using hu)) (by simp[Value.cells,a0H,a0S]) (a0N (by simp[Value.cells,a0H,a0S])) ?_;refine go 3 ?_;exact c0N (x:=((H,c):b0A×Rx)) (g0H hc) idh (RV.agg Ag.o rfl (by simp[a0H]) (by rfl) (RV.tmp rfl RV.nil)) rfl gSp
 |some i=>
  have hil:i<c.l.length:=by have:=t0Z hf;simpa [er] using this
  rw[show g0T (er c) id=({er c with l:=(er c).l.eraseIdx i},0) by unfold g0T;rw[hf]];have hto:i0E H 42 6 (.slice p i cap) i ((c.l.take i).flatMap a0S):=by rw[←l1T t0Y c.l i (by omega)];exact k2T hrow (by omega)
  have hfrom:i0E H 42 6 (.slice (a1N p (i+1) cap 6) (c.l.length- (i+1)) (cap- (i+1))) (c.l.length- (i+1)) ((c.l.drop (i+1)).flatMap a0S):=by rw[←e1V t0Y c.l (i+1) (by omega)];exact y1I hrow (by omega) (by omega)
  have hsum:i+(c.l.length- (i+1))=(c.l.take i++c.l.drop (i+1)).length:=by rw[List.length_append,List.length_take,List.length_drop];omega
  refine en func75 ntmps75 fun R w0=> ?_
  try simp only[e0R,a0H]
  refine go 2 ?_;refine bx fun b2=> ?_;refine al fun b4=> ?_;refine go 5 ?_;refine a0D (a0L (v:= #[c.lv,.int .i64 c.next,.int .i64 c.bits,.int .i64 c.epoch]) Ag.o rfl (by simp[Value.cells]) (a0G (by simp[Value.cells]))) ?_;refine cg 1 (p0A hc hf) ?_;refine go 10 ?_;refine b0R rfl (by simpa using (by omega: ¬((i:Int)<0))) ?_;refine go 4 ?_;refine bl fun b14=> ?_;refine e0K (fun w h=>n0U 6 h) ?_;refine go 1 ?_;refine a0D (b0M (v:= .slice p c.l.length cap) Sc.o rfl (by rw[hlv];rfl)) ?_;refine go 1 ?_;refine a0D (h1H Tsl.o rfl rfl (by omega)) ?_;refine(c0Z (news:=(c.l.take i).flatMap a0S) Tsl.o Ttb.o Zr.o rfl rfl rfl gFd (a1U Tsl.o hto gFd (w0T fun x hx=>hc.maps x (List.mem_of_mem_take hx))) (by simp only[maxLen];omega) (by omega) (fun v19 hv19=> ?_));refine go 7 ?_;refine a0D (b0M (v:= .slice p c.l.length cap) Sc.o rfl (by rw[hlv];rfl)) ?_;refine go 2 ?_;refine a0D (r1F Tsl.o rfl rfl (by omega) (by omega)) ?_;refine(c0Z (news:=(c.l.drop (i+1)).flatMap a0S) Tsl.o Ttb.o Zr.o rfl rfl rfl gFd (a1U Tsl.o hfrom gFd (w0T fun x hx=>hc.maps x (List.mem_of_mem_drop hx))) (by simp only[maxLen];omega) (by omega) (fun v26 hv26=> ?_));refine go 5 ?_;rw[List.nil_append,←List.flatMap_append,show 0+((i:Nat):Int).toNat+(c.l.length- (((i:Nat):Int)+1).toNat)=(c.l.take i++c.l.drop (i+1)).length by omega];refine s0U (show Fnd _ (b0H 42 6 v26 (c.l.take i++c.l.drop (i+1)).length ((c.l.take i++c.l.drop (i+1)).flatMap a0S)) _ from gFd) (show Fnd _ (b0Z H) _ from gFd) fun H' hs hr2=> ?_;have hcn:c0T H' {c with lv:=v26,l:=c.l.take i++c.l.drop (i+1)} :=⟨hr2,fun x hx=>(hc.maps x (by rcases List.mem_append.1 hx with h|h;{exact List.mem_of_mem_take h};{exact List.mem_of_mem_drop h})).more hs,by(show(c.l.take i++c.l.drop (i+1)).length≤1000);omega⟩;refine go 1 ?_;refine a0D (a0L (v:= #[v26,.int .i64 c.next,.int .i64 c.bits,.int .i64 c.epoch]) Ag.o rfl (by simp[Value.cells]) (a0G (by simp[Value.cells]))) ?_;refine a0M Sz.o rfl rfl rfl (fun u hu=>c0H hcn u (by simpa [a0H] using hu)) (by simp[Value.cells,a0H,a0S]) (a0N (by simp[Value.cells,a0H,a0S])) ?_;refine go 3 ?_;exact c0N (x:=((H',{c with lv:=v26,l:=c.l.take i++c.l.drop (i+1)}):b0A×Rx)) ⟨hs,hcn,w2Z⟩ idh (RV.agg Ag.o rfl (by simp[a0H]) (by rfl) (RV.tmp rfl RV.nil)) rfl gSp
theorem y0R (v:Vx) (at_ n:Int) (hs:0≤v.v.size∧v.v.size≤2048):a0F prog 102 #[z0H v,.int .i64 at_,.int .i64 n] [] (a0T (.bool (m0B v.v at_ n)) []):=by
 refine en func102 ntmps102 fun R w0=> ?_
 try simp only[z0H,a0S]
 refine go 2 ?_;refine bx fun b3=> ?_;refine go 4 ?_;by_cases h1:at_<0
 ·refine go 24 ?_;exact rG (hu:=(by rw[show m0B v.v at_ n=true from decide_eq_true (.inl h1)]))
 ·by_cases h2:n<0
  ·refine go 24 ?_;exact rG (hu:=(by rw[show m0B v.v at_ n=true from decide_eq_true (.inr (.inl h2))]))
  ·by_cases h3:v.v.size<at_
   ·refine go 24 ?_;exact rG (hu:=(by rw[show m0B v.v at_ n=true from decide_eq_true (.inr (.inr (.inl h3)))]))
   ·refine go 24 ?_;exact rG (hu:=(by rw[show m0B v.v at_ n=decide (v.v.size-at_<n)from decide_eq_decide.2 ⟨fun h=>by omega,fun h=>by omega⟩]))
theorem l1U {m:List Lf} (hm:m0D m) (at_:Nat): ∀k,(k0L m at_ k).length=k*64
 |0=>rfl
 |k+1=>by
  rw[k0L,List.length_append,l1U hm at_ k,List.length_take,List.length_drop,hm.get_len];omega
theorem q1N (H:b0A) (v:Vx) (at_ n:Nat) (hv:m0Z H v) (hs:at_+n≤4096):a0F prog 103 #[z0H v,.int .i64 at_,.int .i64 n] [b0Z H] (a0T (b0B (k0L v.v.m at_ n)) [b0Z H]):=by
 obtain⟨pm,capm,hmv,hcm⟩:=d0Q hv.1;have hml:=hv.2.len;refine en func103 ntmps103 fun R w0=> ?_
 try simp only[z0H,a0S]
 refine go 2 ?_;refine bx fun b3=> ?_;refine go 16 ?_;refine a0V (X:= {k:Nat // k≤n}) (fun y=> [(1,.int .i64 at_),(2,.int .i64 n),(3,.pointer (some ⟨b3,0,none⟩)),(7,b0B (k0L v.v.m at_ y.1)),(8,.int .i64 ((at_+y.1:Nat):Int))]) (fun y=> [pts b3 (.cells #[.int .i64 v.v.id,.int .i64 v.v.parent,.bool v.v.only,.int .i64 v.v.size,.int .i64 v.v.born,v.mv] 42 (0,0)),b0Z H,R]) (fun y=>n-y.1) ⟨0,Nat.zero_le _⟩ gSu gSp ?_;rintro⟨k,hk⟩ m0 hm0
 try simp only at hm0
 try dsimp only
 skip;refine go 10 ?_;refine a0P rfl (fun hb14=> ?_) (fun hb14=> ?_)
 ·have hkl:k<n:=by have:=of_decide_eq_true hb14;omega
  have hgl:=hv.2.get_len (((at_+k)/4:Nat):Int);have hrl:=l1U hv.2 at_ k;refine go 10 ?_;rw[show((at_+k:Nat):Int)/4=(((at_+k)/4:Nat):Int) by omega];refine cg 0 (g1V H v.mv v.v.m (((at_+k)/4:Nat):Int) hv.1 (by omega)) ?_;refine go 7 ?_;refine a0D (e1Y (lo:=(((at_+k)%4*64:Nat):Int)) (hi:=(((at_+k)%4*64+64:Nat):Int)) Tst.o rfl (by(show some _=some _);congr 2<;>omega) (by(show some _=some _);congr 2<;>omega) (by rw[b0F,hgl];omega)) ?_;rw[k1O,show((((at_+k)%4*64+64:Nat):Int)).toNat=(at_+k)%4*64+64 from rfl,show((((at_+k)%4*64:Nat):Int)).toNat=(at_+k)%4*64 from rfl,List.drop_take,show(at_+k)%4*64+64- (at_+k)%4*64=64 by omega];refine a0D (g0Y rfl rfl (by rw[b0F,b0F,hrl,List.length_take];omega)) ?_;rw[←h0B,show k0L v.v.m at_ k++((f0M ((at_+k)/4:Nat) v.v.m).drop ((at_+k)%4*64)).take 64=k0L v.v.m at_ (k+1)from rfl];refine go 8 ?_;exact rd idh (⟨k+1,hkl⟩)
 ·obtain rfl:k=n:=by have:=of_decide_eq_false hb14;omega
  refine go 8 ?_;exact rG
end Go.Proofs.Q
