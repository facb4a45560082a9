/- Part of the proof; no statement of its own. -/
import Derived.Test.YtpinhnikemamjaaGreatDoorB16
import Derived.Test.YtpinhnikemamjaaGreatDoorB08
import Derived.Test.YtpinhnikemamjaaGreatDoorB21
set_option linter.all false
set_option maxRecDepth 4000
set_option maxHeartbeats 4000000
namespace Go.Proofs.Q
open Go.Sl Go.Sb
section
theorem r1Y (l:B) (i:Nat) (h:i<l.length):b0B (l.take (i+1))=(b0B (l.take i)&&l[i] == 0):=by
 rw[List.take_succ,List.getElem?_eq_getElem h]
 unfold b0B
 rw[List.all_append];simp
attribute [local irreducible] Sl.a0L Sl.OW Sl.CW Sl.OS Sl.OM Sl.OMf Sl.KM
theorem u0W (l:B) (hl:l.length≤1000000):a0S Tryz.prog 173 #[b0H l] [] (b0G (.bool (b0B l)) []):=by
 have hls:(bs l).size=l.length:=b0N l
 refine a0C Tryz.func173 rfl Tryz.ntmps173 rfl (fun R w0=> ?_)
 simp only[a0N,List.cons_append,List.nil_append]
 refine go 12 ?_
 refine b0S (X:= {i:Nat // i≤l.length∧b0B (l.take i)=true}) (fun y=> [(0,b0H l),(3,.int .i64 y.1)]) (fun y=> [R]) (fun y=>l.length-y.1) ⟨0,Nat.zero_le _,rfl⟩ gSu gSp ?_
 rintro⟨i,hi,hz⟩ m0 hm0
 try simp only at hm0
 try dsimp only
 skip
 refine go 6 ?_
 rw[hls]
 refine go 3 ?_
 refine b0C rfl (fun hb7=> ?_) (fun hb7=> ?_)
 ·have hil:i<l.length:=by have:=of_decide_eq_true hb7;omega
  have hu:(bs l).data.toList[i]? =some l[i]:=by rw[l0B,List.getElem?_eq_getElem hil]
  have hst:=r1Y l i hil
  refine go 8 ?_
  refine a0F (h1E Tst.o rfl rfl (by omega) (u:=l[i]) hu) ?_
  refine go 3 ?_
  refine b0C rfl (fun hb13=> ?_) (fun hb13=> ?_)
  ·have hne: ¬l[i]=0:=by intro h;rw[h]at hb13;exact absurd hb13 (by decide)
   have hf:b0B l=false:=by
    cases ha:b0B l with
    |false=>rfl
    |true=>
     unfold b0B at ha
     rw[List.all_eq_true]at ha
     exact absurd (by simpa using ha l[i] (List.getElem_mem hil)) hne
   refine go 5 ?_
   refine b0V (fun _ _ h=>h) rfl (by rw[hf]) gSp
  ·have heq:l[i]=0:=UInt8.toNat_inj.1 (by have h:=hb13;simp only[bne_eq_false_iff_eq]at h;have e:(0:UInt8).toNat=0:=rfl;omega)
   refine go 7 ?_
   refine b0Q (fun _ _ h=>h) (⟨i+1,hil,by rw[hst,hz,heq];rfl⟩) (by first|omega| (simp only;omega)) gSu gSp
 ·obtain rfl:i=l.length:=by have:=of_decide_eq_false hb7;omega
  rw[List.take_of_length_le (by omega)]at hz
  refine go 7 ?_
  refine b0V (fun _ _ h=>h) rfl (by rw[hz]) gSp
abbrev t2G (n:Int):Value:= .agg #[.slice none 0 0,.int .i64 n]
theorem i1Z (l:B) (n:Nat) (hl:l.length≤100000) (hn:n≤256):a0S Tryz.prog 208 #[t2G n,b0H l] [] (b0G (b0H (key n (Sha.sum l))) []):=by
 refine a0C Tryz.func208 rfl Tryz.ntmps208 rfl (fun R w0=> ?_)
 simp only[a0N,List.cons_append,List.nil_append]
 refine go 2 ?_
 refine(a0X rfl (fun b2=> ?_))
 refine go 4 ?_
 refine d0H (.soft 0 (.soft 2 (.soft 3 (.hard 1 (.hard 4 (.soft 5 .done)))))) [pts b2 (.cells #[.slice none 0 0,.int .i64 n] 277 (0,0))] Fol.o (by kernel_rfl) (by repeat (first|with_reducible exact a0J.bp|with_reducible apply a0J.then|with_reducible apply a0J.inBlock)) gSp ?_
 refine go 4 ?_
 refine a0D rfl Hb.o rfl (l2G l hl) gSp ?_
 refine ns ?_
 refine go 3 ?_
 refine a0D rfl Hb.o rfl (b2K (Sha.sum l) n (by rw[q0F];omega) hn) gSp ?_
 refine ns ?_
 refine go 5 ?_
 refine b0V (fun _ _ h=>h) rfl rfl gSp
theorem v1H (n:Nat) (hn:n≤10000):a0S Tryz.prog 171 #[.int .i64 n] [] (b0G (b0H (a0T (64*n))) []):=by
 refine a0C Tryz.func171 rfl Tryz.ntmps171 rfl (fun R w0=> ?_)
 simp only[a0N,List.cons_append,List.nil_append]
 refine go 17 ?_
 refine b0S (X:= {j:Nat // j≤64*n}) (fun y=> [(0,.int .i64 n),(3,b0H (a0T y.1)),(4,.int .i64 y.1)]) (fun y=> [R]) (fun y=>64*n-y.1) ⟨0,Nat.zero_le _⟩ gSu gSp ?_
 rintro⟨j,hj⟩ m0 hm0
 try simp only at hm0
 try dsimp only
 skip
 refine go 9 ?_
 refine b0C rfl (fun hb8=> ?_) (fun hb8=> ?_)
 ·have hjl:j<64*n:=by have:=of_decide_eq_true hb8;omega
  refine go 6 ?_
  refine a0F (i0M rfl rfl (by rw[b0N,show(⟨#[0]⟩:ByteArray).size=1 from rfl];simp[a0T];omega)) ?_
  rw[show bs (a0T j)++(⟨#[0]⟩:ByteArray)=bs (a0T (j+1)) by rw[show(⟨#[0]⟩:ByteArray)=bs [0]from rfl,←i0X,show a0T j++ [0]=a0T (j+1) by simp[a0T,List.replicate_succ']]]
  refine go 8 ?_
  refine b0Q (fun _ _ h=>h) (⟨j+1,hjl⟩) (by first|omega| (simp only;omega)) gSu gSp
 ·obtain rfl:j=64*n:=by have:=of_decide_eq_false hb8;omega
  refine go 8 ?_
  refine b0V (fun _ _ h=>h) rfl rfl gSp
abbrev lfC (x:Lf):List Value:= [.int .i64 x.1,b0H x.2]
abbrev j1A (H:b0J) (mv:Value) (m:List Lf):Prop:=h0U H 259 2 mv m.length (m.flatMap lfC)
theorem y1C {at_:Int} : ∀ {m:List Lf} {i:Nat} (hi:i<m.length) (_: ∀j (h:j<i),m[j].1≠at_),m[i].1=at_→g0R at_ m=m[i].2
 | (a,d)::r,0,hi,_,h=>by unfold g0R;rw[if_pos (show a=at_ from h)];rfl
 | (a,d)::r,i+1,hi,hb,h=>by
  unfold g0R
  rw[if_neg (show ¬a=at_ from hb 0 (by omega))]
  exact y1C (m:=r) (i:=i) (by simpa using hi) (fun j hj=>hb (j+1) (by omega)) h
theorem y1D {at_:Int} : ∀ {m:List Lf} (_: ∀j (h:j<m.length),m[j].1≠at_),g0R at_ m=a0T 256
 | [],_=>rfl
 | (a,d)::r,hb=>by
  unfold g0R
  rw[if_neg (show ¬a=at_ from hb 0 (by simp))]
  exact y1D (m:=r) (fun j hj=>hb (j+1) (by simpa using hj))
theorem e1Y (H:b0J) (mv:Value) (m:List Lf) (at_:Int) (hm:j1A H mv m) (hml:m.length≤1000000):a0S Tryz.prog 145 #[mv,.int .i64 at_] [c0Q H] (b0G (b0H (g0R at_ m)) [c0Q H]):=by
 obtain⟨p,cap,rfl,hcap⟩:=e0E hm
 refine a0C Tryz.func145 rfl Tryz.ntmps145 rfl (fun R w0=> ?_)
 simp only[a0N,List.cons_append,List.nil_append]
 refine go 14 ?_
 refine b0S (X:= {i:Nat // i≤m.length∧ ∀j (h:j<m.length),j<i→m[j].1≠at_}) (fun y=> [(1,.int .i64 at_),(9,.slice p m.length cap),(10,.int .i64 m.length),(11,.int .i64 y.1)]) (fun y=> [c0Q H,R]) (fun y=>m.length-y.1) ⟨0,Nat.zero_le _,fun j _ hj=>absurd hj (Nat.not_lt_zero _)⟩ gSu gSp ?_
 rintro⟨i,hi,hz⟩ m0 hm0
 try simp only at hm0
 try dsimp only
 skip
 refine go 6 ?_
 refine b0C rfl (fun hb12=> ?_) (fun hb12=> ?_)
 ·have hil:i<m.length:=by have:=of_decide_eq_true hb12;omega
  obtain⟨b,o,cap',cur,hv,hc,hmem,hcut,hlen⟩:=g0E hm (by omega)
  cases hv
  have hcu:(cur.drop (o+i*2)).take 2=lfC m[i]:=(h0J hcut hil).trans (s0X (f:=lfC) (size:=2) (fun _=>rfl) m hil)
  refine go 7 ?_
  refine a0F (f0A (vs:=lfC m[i]) Ag.o rfl gFd hmem hcu rfl (by decide)) ?_
  refine(a0U Zr.o (fun b6=> ?_))
  refine a0K Sz.o rfl rfl rfl (by simp[Value.oneCell']) (by simp[Value.cells]) (a0R (by simp[Value.cells])) ?_
  refine go 10 ?_
  refine b0C rfl (fun hb18=> ?_) (fun hb18=> ?_)
  ·have he:m[i].1=at_:=by simpa using hb18
   refine go 7 ?_
   refine b0V (fun _ _ h=>h) rfl (by rw[y1C hil (fun j hj=>hz j (by omega) hj) he]) gSp
  ·have he: ¬m[i].1=at_:=by simpa using hb18
   refine go 6 ?_
   refine b0Q (fun _ _ h=>h) (⟨i+1,hil,fun j hjl hj=>if h:j=i then by subst h;exact he else hz j hjl (by omega)⟩) (by first|omega| (simp only;omega)) gSu gSp
 ·obtain rfl:i=m.length:=by have:=of_decide_eq_false hb12;omega
  rw[y1D (fun j hj=>hz j hj hj)]
  refine go 14 ?_
  refine b0S (X:= {j:Nat // j≤256}) (fun y=> [(7,b0H (a0T y.1)),(8,.int .i64 y.1)]) (fun y=> [c0Q H,R]) (fun y=>256-y.1) ⟨0,Nat.zero_le _⟩ gSu gSp ?_
  rintro⟨j,hj⟩ m2 hm2
  try simp only at hm2
  try dsimp only
  skip
  refine go 7 ?_
  refine b0C rfl (fun hb23=> ?_) (fun hb23=> ?_)
  ·have hjl:j<256:=by have:=of_decide_eq_true hb23;omega
   refine go 6 ?_
   refine a0F (i0M rfl rfl (by rw[b0N,show(⟨#[0]⟩:ByteArray).size=1 from rfl];simp[a0T];omega)) ?_
   rw[show bs (a0T j)++(⟨#[0]⟩:ByteArray)=bs (a0T (j+1)) by rw[show(⟨#[0]⟩:ByteArray)=bs [0]from rfl,←i0X,show a0T j++ [0]=a0T (j+1) by simp[a0T,List.replicate_succ']]]
   refine go 8 ?_
   refine b0Q (fun _ _ h=>h) (⟨j+1,hjl⟩) (by first|omega| (simp only;omega)) gSu gSp
  ·obtain rfl:j=256:=by have:=of_decide_eq_false hb23;omega
   refine go 8 ?_
   refine b0V (fun _ _ h=>h) rfl rfl gSp
end
section
theorem r1Z (at_:Int) (d:B) (done:Bool):o0L at_ d done []=if done then []else [(at_,d)]:=rfl
theorem n1K (at_:Int) (d:B) (done:Bool) (x:Lf) (r:List Lf):o0L at_ d done (x::r)=(if done=false∧at_<x.1 then [(at_,d)]else [])++(if x.1=at_ then []else [x])++o0L at_ d (done || decide (at_<x.1)) r:=by cases x;rfl
theorem s1A (at_:Int) (d:B): ∀(m:List Lf) (done:Bool),(o0L at_ d done m).length≤m.length*2+1
 | [],done=>by rw[r1Z];split<;>simp
 |x::r,done=>by
  rw[n1K]
  have:=s1A at_ d r (done || decide (at_<x.1))
  simp only[List.length_append,List.length_cons]
  have h1:(if done=false∧at_<x.1 then [(at_,d)]else []).length≤1:=by split<;>simp
  have h2:(if x.1=at_ then []else [x]).length≤1:=by split<;>simp
  omega
abbrev s0M (v:Value) (out:List Lf):a0E:=c0E 259 2 v out.length (out.flatMap lfC)
attribute [local irreducible] Sl.a0L Sl.OW Sl.CW Sl.OS Sl.OM Sl.OMf Sl.KM
theorem v1I (H:b0J) (mv:Value) (m:List Lf) (at_:Int) (d:B) (hm:j1A H mv m) (hml:m.length≤100000) (hd:d.length≤100000):a0S Tryz.prog 175 #[mv,.int .i64 at_,b0H d] [c0Q H] (c0X (fun _:Value=>True) id (fun v=> [s0M v (j0O m at_ d),c0Q H])):=by
 obtain⟨p,cap,rfl,hcap⟩:=e0E hm
 have hlen:=s1A at_ d m (b0B d)
 refine a0C Tryz.func175 rfl Tryz.ntmps175 rfl (fun R w0=> ?_)
 simp only[a0N,List.cons_append,List.nil_append]
 refine go 7 ?_
 refine(b0P Tsl.o Zr.o rfl rfl rfl (by simp[d0B,d0K,Value.cells]<;>rfl) (fun b11=> ?_))
 refine go 4 ?_
 refine c0S (fun w h=>p0O 2 h) ?_
 refine go 2 ?_
 refine a0D rfl Hb.o rfl (u0W d (by omega)) gSp ?_
 refine ns ?_
 refine go 12 ?_
 refine b0S (X:= {x:Nat×Bool×List Lf×Value // x.1≤m.length∧j0O m at_ d=x.2.2.1++o0L at_ d x.2.1 (m.drop x.1)}) (fun y=> [(1,.int .i64 at_),(2,b0H d),(7,y.1.2.2.2),(8,.bool y.1.2.1),(14,.slice p m.length cap),(15,.int .i64 m.length),(16,.int .i64 y.1.1)]) (fun y=> [s0M y.1.2.2.2 y.1.2.2.1,c0Q H,R]) (fun y=>m.length-y.1.1) ⟨(0,b0B d,[],.slice (some ⟨b11,0,none⟩) 0 0),Nat.zero_le _,rfl⟩ gSu gSp ?_
 rintro⟨⟨i,dn,out,v⟩,hi,he⟩ m0 hm0
 try simp only at hm0
 try dsimp only
 simp only at hi he
 have hol:out.length≤m.length*2+1:=by
  have h1:=congrArg List.length he
  have h2:(j0O m at_ d).length≤m.length*2+1:=hlen
  rw[List.length_append]at h1
  omega
 refine go 6 ?_
 refine b0C rfl (fun hb17=> ?_) (fun hb17=> ?_)
 ·have hil:i<m.length:=by have:=of_decide_eq_true hb17;omega
  obtain⟨b,o,cap',cur,hv,hc,hmem,hcut,hlen2⟩:=g0E hm (by omega)
  cases hv
  have hcu:(cur.drop (o+i*2)).take 2=lfC m[i]:=(h0J hcut hil).trans (s0X (f:=lfC) (size:=2) (fun _=>rfl) m hil)
  rw[List.drop_eq_getElem_cons hil,n1K]at he
  refine go 7 ?_
  refine a0F (f0A (vs:=lfC m[i]) Ag.o rfl gFd hmem hcu rfl (by decide)) ?_
  refine(a0U Zr.o (fun b10=> ?_))
  refine a0K Sz.o rfl rfl rfl (by simp[Value.oneCell']) (by simp[Value.cells]) (a0R (by simp[Value.cells])) ?_
  refine go 2 ?_
  refine r0A (X:= {x:Bool×List Lf×Value // j0O m at_ d=x.2.1++((if m[i].1=at_ then []else [m[i]])++o0L at_ d x.1 (m.drop (i+1)))∧x.2.1.length≤m.length*2+2}) (fun y=> [(1,.int .i64 at_),(2,b0H d),(7,y.1.2.2),(8,.bool y.1.1),(10,.pointer (some ⟨b10,0,none⟩)),(14,.slice (some ⟨b,o,none⟩) m.length cap),(15,.int .i64 m.length),(16,.int .i64 i)]) (fun y=> [s0M y.1.2.2 y.1.2.1,c0Q H,pts b10 (.cells (lfC m[i]).toArray 259 (0,0)),R]) ?_ ?_
  ·refine go 1 ?_
   cases hdn:dn
   ·refine go 11 ?_
    refine b0C rfl (fun hb27=> ?_) (fun hb27=> ?_)
    ·have hgt:at_<m[i].1:=by simpa using hb27
     rw[hdn,if_pos ⟨rfl,hgt⟩,Bool.false_or,decide_eq_true hgt]at he
     refine go 6 ?_
     refine(b0P Tsl.o Zr.o rfl rfl rfl (by simp[d0B,d0K,Value.cells]<;>rfl) (fun b32=> ?_))
     refine(e0F Tsl.o Ttb.o Zr.o rfl rfl rfl gFd (h0O Tsl.o (by simp;rfl) (by simp) (by simp[Value.oneCell'])) (by simp only[maxLen];omega) (by omega) (fun v33 hv33=> ?_))
     refine go 2 ?_
     rw[show out.flatMap lfC++ [Value.int .i64 at_,b0H d]=(out++ [(at_,d)]).flatMap lfC by simp,show out.length+1=(out++ [(at_,d)]).length by simp]
     refine go 4 ?_
     refine i0D (fun _ _ h=>h) (⟨(true,out++ [(at_,d)],v33),by(show j0O m at_ d=(out++ [(at_,d)])++_);rw[he];simp only[List.append_assoc],by(show(out++ [(at_,d)]).length≤_);rw[List.length_append,List.length_singleton];omega⟩) gSu gSp
    ·have hgt: ¬at_<m[i].1:=by simpa using hb27
     rw[hdn,if_neg (fun h=>hgt h.2),Bool.false_or,decide_eq_false hgt]at he
     refine go 1 ?_
     refine i0D (fun _ _ h=>h) (⟨(false,out,v),by(show j0O m at_ d=out++_);rw[he];simp only[List.nil_append],by(show out.length≤_);omega⟩) gSu gSp
   ·refine go 13 ?_
    refine i0D (fun _ _ h=>h) (⟨(true,out,v),by(show j0O m at_ d=out++_);rw[he,hdn,if_neg (fun h=>by cases h.1),Bool.true_or];simp only[List.nil_append],by(show out.length≤_);omega⟩) gSu gSp
  rintro⟨⟨dn',out',v'⟩,he',hol'⟩
  dsimp only at he' hol' ⊢
  refine go 8 ?_
  refine b0C rfl (fun hb37=> ?_) (fun hb37=> ?_)
  ·have hne: ¬m[i].1=at_:=by simpa using hb37
   rw[if_neg hne]at he'
   refine go 2 ?_
   refine a0F (a0O (v:= #[.int .i64 m[i].1,b0H m[i].2]) Ag.o rfl (by simp) (by rfl)) ?_
   refine(b0P Tsl.o Zr.o rfl rfl rfl (by simp[d0B,d0K,Value.cells]<;>rfl) (fun b40=> ?_))
   refine(e0F Tsl.o Ttb.o Zr.o rfl rfl rfl gFd (h0O Tsl.o (by simp;rfl) (by simp) (by simp[Value.oneCell'])) (by simp only[maxLen];omega) (by omega) (fun v41 hv41=> ?_))
   refine go 2 ?_
   rw[show out'.flatMap lfC++ [Value.int .i64 m[i].1,b0H m[i].2]=(out'++ [m[i]]).flatMap lfC by simp,show out'.length+1=(out'++ [m[i]]).length by simp]
   refine go 5 ?_
   refine b0Q (fun _ _ h=>h) (⟨(i+1,dn',out'++ [m[i]],v41),hil,by(show j0O m at_ d=(out'++ [m[i]])++_);rw[he'];simp only[List.append_assoc]⟩) (by first|omega| (simp only;omega)) gSu gSp
  ·have hne:m[i].1=at_:=by simpa using hb37
   rw[if_pos hne]at he'
   refine go 6 ?_
   refine b0Q (fun _ _ h=>h) (⟨(i+1,dn',out',v'),hil,by(show j0O m at_ d=out'++_);rw[he'];simp only[List.nil_append]⟩) (by first|omega| (simp only;omega)) gSu gSp
 ·obtain rfl:i=m.length:=by have:=of_decide_eq_false hb17;omega
  rw[List.drop_length,r1Z]at he
  refine go 9 ?_
  refine b0C rfl (fun hb44=> ?_) (fun hb44=> ?_)
  ·have hdn:dn=false:=by simpa using hb44
   rw[hdn,if_neg (by simp)]at he
   refine go 5 ?_
   refine(b0P Tsl.o Zr.o rfl rfl rfl (by simp[d0B,d0K,Value.cells]<;>rfl) (fun b49=> ?_))
   refine(e0F Tsl.o Ttb.o Zr.o rfl rfl rfl gFd (h0O Tsl.o (by simp;rfl) (by simp) (by simp[Value.oneCell'])) (by simp only[maxLen];omega) (by omega) (fun v50 hv50=> ?_))
   refine go 2 ?_
   rw[show out.flatMap lfC++ [Value.int .i64 at_,b0H d]=(out++ [(at_,d)]).flatMap lfC by simp,show out.length+1=(out++ [(at_,d)]).length by simp,←he]
   refine go 7 ?_
   refine d0Z v50 trivial (fun _ _ h=>h) rfl rfl gSp
  ·have hdn:dn=true:=by simpa using hb44
   rw[hdn,if_pos rfl,List.append_nil]at he
   rw[←he]
   refine go 8 ?_
   refine d0Z v trivial (fun _ _ h=>h) rfl rfl gSp
theorem o1H (H:b0J) (mv:Value) (m:List Lf) (f u:Int) (hm:j1A H mv m) (hml:m.length≤100000):a0S Tryz.prog 172 #[mv,.int .i64 f,.int .i64 u] [c0Q H] (c0X (fun _:Value=>True) id (fun v=> [s0M v (g0Q m f u),c0Q H])):=by
 obtain⟨p,cap,rfl,hcap⟩:=e0E hm
 refine a0C Tryz.func172 rfl Tryz.ntmps172 rfl (fun R w0=> ?_)
 simp only[a0N,List.cons_append,List.nil_append]
 refine go 7 ?_
 refine(b0P Tsl.o Zr.o rfl rfl rfl (by simp[d0B,d0K,Value.cells]<;>rfl) (fun b10=> ?_))
 refine go 5 ?_
 refine c0S (fun w h=>p0O 2 h) ?_
 refine go 7 ?_
 refine b0S (X:= {x:Nat×List Lf×Value // x.1≤m.length∧x.2.1=g0Q (m.take x.1) f u}) (fun y=> [(1,.int .i64 f),(2,.int .i64 u),(7,y.1.2.2),(11,.slice p m.length cap),(12,.int .i64 m.length),(13,.int .i64 y.1.1)]) (fun y=> [s0M y.1.2.2 y.1.2.1,c0Q H,R]) (fun y=>m.length-y.1.1) ⟨(0,[],.slice (some ⟨b10,0,none⟩) 0 0),Nat.zero_le _,rfl⟩ gSu gSp ?_
 rintro⟨⟨i,out,v⟩,hi,he⟩ m0 hm0
 try simp only at hm0
 try dsimp only
 simp only at hi he
 have hol:out.length≤m.length:=by rw[he];exact Nat.le_trans (List.length_filter_le _ _) (by rw[List.length_take];omega)
 refine go 6 ?_
 refine b0C rfl (fun hb14=> ?_) (fun hb14=> ?_)
 ·have hil:i<m.length:=by have:=of_decide_eq_true hb14;omega
  obtain⟨b,o,cap',cur,hv,hc,hmem,hcut,hlen2⟩:=g0E hm (by omega)
  cases hv
  have hcu:(cur.drop (o+i*2)).take 2=lfC m[i]:=(h0J hcut hil).trans (s0X (f:=lfC) (size:=2) (fun _=>rfl) m hil)
  have hnx:g0Q (m.take (i+1)) f u=out++(if m[i].1<f∨u≤m[i].1 then [m[i]]else []):=by
   rw[List.take_succ,List.getElem?_eq_getElem hil,he]
   unfold g0Q
   rw[List.filter_append]
   congr 1
   simp only[Option.toList_some,List.filter_cons,List.filter_nil,decide_eq_true_eq]
  refine go 7 ?_
  refine a0F (f0A (vs:=lfC m[i]) Ag.o rfl gFd hmem hcu rfl (by decide)) ?_
  refine(a0U Zr.o (fun b9=> ?_))
  refine a0K Sz.o rfl rfl rfl (by simp[Value.oneCell']) (by simp[Value.cells]) (a0R (by simp[Value.cells])) ?_
  refine go 3 ?_
  by_cases hlt:m[i].1<f
  ·refine go 16 ?_
   refine a0F (a0O (v:= #[.int .i64 m[i].1,b0H m[i].2]) Ag.o rfl (by simp) (by rfl)) ?_
   refine(b0P Tsl.o Zr.o rfl rfl rfl (by simp[d0B,d0K,Value.cells]<;>rfl) (fun b29=> ?_))
   refine(e0F Tsl.o Ttb.o Zr.o rfl rfl rfl gFd (h0O Tsl.o (by simp;rfl) (by simp) (by simp[Value.oneCell'])) (by simp only[maxLen];omega) (by omega) (fun v30 hv30=> ?_))
   refine go 2 ?_
   rw[show out.flatMap lfC++ [Value.int .i64 m[i].1,b0H m[i].2]=(out++ [m[i]]).flatMap lfC by simp,show out.length+1=(out++ [m[i]]).length by simp]
   refine go 5 ?_
   refine b0Q (fun _ _ h=>h) (⟨(i+1,out++ [m[i]],v30),hil,by rw[hnx,if_pos (.inl hlt)]⟩) (by first|omega| (simp only;omega)) gSu gSp
  ·refine go 13 ?_
   refine b0C rfl (fun hb26=> ?_) (fun hb26=> ?_)
   ·have hge:u≤m[i].1:=by simpa using hb26
    refine go 2 ?_
    refine a0F (a0O (v:= #[.int .i64 m[i].1,b0H m[i].2]) Ag.o rfl (by simp) (by rfl)) ?_
    refine(b0P Tsl.o Zr.o rfl rfl rfl (by simp[d0B,d0K,Value.cells]<;>rfl) (fun b29=> ?_))
    refine(e0F Tsl.o Ttb.o Zr.o rfl rfl rfl gFd (h0O Tsl.o (by simp;rfl) (by simp) (by simp[Value.oneCell'])) (by simp only[maxLen];omega) (by omega) (fun v30 hv30=> ?_))
    refine go 2 ?_
    rw[show out.flatMap lfC++ [Value.int .i64 m[i].1,b0H m[i].2]=(out++ [m[i]]).flatMap lfC by simp,show out.length+1=(out++ [m[i]]).length by simp]
    refine go 5 ?_
    refine b0Q (fun _ _ h=>h) (⟨(i+1,out++ [m[i]],v30),hil,by rw[hnx,if_pos (.inr hge)]⟩) (by first|omega| (simp only;omega)) gSu gSp
   ·have hge: ¬u≤m[i].1:=by simpa using hb26
    refine go 6 ?_
    refine b0Q (fun _ _ h=>h) (⟨(i+1,out,v),hil,by rw[hnx,if_neg (by omega),List.append_nil]⟩) (by first|omega| (simp only;omega)) gSu gSp
 ·obtain rfl:i=m.length:=by have:=of_decide_eq_false hb14;omega
  rw[List.take_of_length_le (Nat.le_refl _)]at he
  rw[he]
  refine go 8 ?_
  refine d0Z v trivial (fun _ _ h=>h) rfl rfl gSp
end
end Go.Proofs.Q
namespace Go.Sb
structure o0N (m:List Lf):Prop where
 ord:m.Pairwise fun a b=>a.1<b.1
 in_: ∀x∈m,0≤x.1∧x.1<512∧x.2.length=256
theorem g1J (j:Int):g0R j []=a0T 256:=rfl
theorem i0Y (j a:Int) (d:B) (r:List Lf):g0R j ((a,d)::r)=if a=j then d else g0R j r:=rfl
theorem y1E: ∀ {m:List Lf} {lo:Int},(m.Pairwise fun a b=>a.1<b.1)→(∀x∈m,lo≤x.1∧x.1<512)→lo≤512→(m.length:Int)≤512-lo
 | [],lo,_,_,h=>by simp;omega
 |x::m,lo,hp,hi,h=>by
  obtain⟨h1,h2⟩:=List.pairwise_cons.1 hp
  have h3:=hi x List.mem_cons_self
  have:=y1E (m:=m) (lo:=x.1+1) h2 (fun y hy=>⟨by have:=h1 y hy;omega,(hi y (List.mem_cons_of_mem _ hy)).2⟩) (by omega)
  simp only[List.length_cons];omega
theorem o0N.len {m:List Lf} (h:o0N m):m.length≤512:=by
 have:=y1E (lo:=0) h.ord (fun x hx=>⟨(h.in_ x hx).1,(h.in_ x hx).2.1⟩) (by omega)
 omega
theorem n1L:o0N []:=⟨List.Pairwise.nil,fun x h=>by cases h⟩
theorem o0N.get_len {m:List Lf} (h:o0N m) (at_:Int):(g0R at_ m).length=256:=by
 have: ∀l:List Lf,(∀x∈l,x.2.length=256)→(g0R at_ l).length=256:=fun l=>by
  induction l with
  |nil=>intro _;exact List.length_replicate ..
  |cons x l ih=>
   intro hl
   obtain⟨a,d⟩:=x
   unfold g0R
   split
   ·exact hl (a,d) List.mem_cons_self
   ·exact ih fun y hy=>hl y (List.mem_cons_of_mem _ hy)
 exact this m fun x hx=>(h.in_ x hx).2.2
theorem j1B (at_:Int) (d:B) (done:Bool) (x:Lf) (r:List Lf):o0L at_ d done (x::r)=(if done=false∧at_<x.1 then [(at_,d)]else [])++(if x.1=at_ then []else [x])++o0L at_ d (done || decide (at_<x.1)) r:=by cases x;rfl
theorem a1M (at_:Int) (d:B): ∀(m:List Lf) (done:Bool) (x:Lf),x∈o0L at_ d done m→(x∈m∧x.1≠at_)∨(done=false∧x=(at_,d))
 | [],done,x,h=>by
  unfold o0L at h
  split at h
  ·cases h
  ·rename_i hd;exact .inr ⟨by simpa using hd,List.mem_singleton.1 h⟩
 |y::r,done,x,h=>by
  rw[j1B]at h
  rcases List.mem_append.1 h with h|h
  ·rcases List.mem_append.1 h with h|h
   ·split at h
    ·rename_i hd;exact .inr ⟨hd.1,List.mem_singleton.1 h⟩
    ·cases h
   ·split at h
    ·cases h
    ·rename_i hne;rw[List.mem_singleton.1 h];exact .inl ⟨List.mem_cons_self,hne⟩
  ·rcases a1M at_ d r _ x h with ⟨h1,h2⟩| ⟨h1,h2⟩
   ·exact .inl ⟨List.mem_cons_of_mem _ h1,h2⟩
   ·exact .inr ⟨by cases done<;>simp_all,h2⟩
theorem s1B (at_:Int) (d:B): ∀(m:List Lf) (done:Bool),(m.Pairwise fun a b=>a.1<b.1)→(o0L at_ d done m).Pairwise fun a b=>a.1<b.1
 | [],done,_=>by unfold o0L;split<;>simp
 |x::r,done,hp=>by
  obtain⟨h1,h2⟩:=List.pairwise_cons.1 hp
  have ih:=s1B at_ d r (done || decide (at_<x.1)) h2
  have hm:=a1M at_ d r (done || decide (at_<x.1))
  rw[j1B]
  by_cases hlt:at_<x.1
  ·have hgt: ∀y∈o0L at_ d (done || decide (at_<x.1)) r,x.1<y.1:=fun y hy=>by
    rcases hm y hy with ⟨h3,_⟩| ⟨h3,_⟩
    ·exact h1 y h3
    ·rw[decide_eq_true hlt,Bool.or_true]at h3;cases h3
   rw[if_neg (show ¬x.1=at_ by omega)]
   split
   ·simp only[List.singleton_append,List.cons_append,List.nil_append]
    refine List.pairwise_cons.2 ⟨fun y hy=> ?_,List.pairwise_cons.2 ⟨hgt,ih⟩⟩
    rcases List.mem_cons.1 hy with rfl|hy
    ·exact hlt
    ·exact Int.lt_trans hlt (hgt y hy)
   ·exact List.pairwise_cons.2 ⟨hgt,ih⟩
  ·rw[if_neg (fun h=>hlt h.2)]
   by_cases he:x.1=at_
   ·rw[if_pos he];exact ih
   ·rw[if_neg he]
    refine List.pairwise_cons.2 ⟨fun y hy=> ?_,ih⟩
    rcases hm y hy with ⟨h3,_⟩| ⟨_,rfl⟩
    ·exact h1 y h3
    ·show x.1<at_;omega
theorem o0N.put {m:List Lf} (h:o0N m) {at_:Int} {d:B} (h1:0≤at_∧at_<512) (hd:d.length=256):o0N (j0O m at_ d):=
 ⟨s1B at_ d m _ h.ord,fun x hx=>by
  rcases a1M at_ d m _ x hx with ⟨h2,_⟩| ⟨_,rfl⟩
  ·exact h.in_ x h2
  ·exact⟨h1.1,h1.2,hd⟩⟩
theorem o0N.clear {m:List Lf} (h:o0N m) (f u:Int):o0N (g0Q m f u):=⟨h.ord.filter _,fun x hx=>h.in_ x (List.mem_filter.1 hx).1⟩
theorem n1M (at_:Int) (d:B): ∀(m:List Lf) (done:Bool) (j:Int),g0R j (o0L at_ d done m)=if j=at_ then(if done then a0T 256 else d)else g0R j m
 | [],done,j=>by
  unfold o0L
  cases done with
  |true=>rw[if_pos rfl,g1J];split<;>rfl
  |false=>
   rw[if_neg (by simp),i0Y,g1J]
   by_cases e:j=at_
   ·rw[if_pos e.symm,if_pos e];rfl
   ·rw[if_neg (Ne.symm e),if_neg e]
 |x::r,done,j=>by
  obtain⟨a,y⟩:=x
  rw[j1B]
  have ih:=n1M at_ d r (done || decide (at_<a)) j
  by_cases hit:done=false∧at_<a
  ·rw[if_pos hit,if_neg (show ¬a=at_ by omega)]
   obtain⟨hd,hlt⟩:=hit
   subst hd
   simp only[List.singleton_append,List.cons_append,List.nil_append]
   by_cases e:j=at_
   ·rw[i0Y,if_pos e.symm,if_pos e];rfl
   ·rw[if_neg e]at ih
    rw[i0Y,if_neg (Ne.symm e),if_neg e,i0Y,i0Y,ih]
  ·rw[if_neg hit]
   have hdd:(done || decide (at_<a))=done:=by
    cases done with
    |true=>rfl
    |false=>simp only[true_and]at hit;simp[hit]
   rw[hdd]at ih ⊢
   by_cases he:a=at_
   ·rw[if_pos he]
    simp only[List.nil_append]
    rw[ih,i0Y]
    by_cases hj:j=at_
    ·rw[if_pos hj,if_pos hj]
    ·rw[if_neg hj,if_neg hj,if_neg (by omega)]
   ·rw[if_neg he]
    simp only[List.nil_append,List.singleton_append]
    rw[i0Y,i0Y,ih]
    by_cases hj:a=j
    ·rw[if_pos hj,if_pos hj,if_neg (by omega)]
    ·rw[if_neg hj,if_neg hj]
theorem e1Z (f u:Int): ∀(m:List Lf) (j:Int),g0R j (g0Q m f u)=if f≤j∧j<u then a0T 256 else g0R j m
 | [],j=>by show g0R j []=_;rw[g1J];split<;>rfl
 |x::r,j=>by
  obtain⟨a,y⟩:=x
  have ih:=e1Z f u r j
  by_cases hk:a<f∨u≤a
  ·rw[show g0Q ((a,y)::r) f u=(a,y)::g0Q r f u from List.filter_cons_of_pos (by simpa using hk),i0Y,i0Y,ih]
   by_cases hj:a=j
   ·rw[if_pos hj,if_pos hj,if_neg (by omega)]
   ·rw[if_neg hj,if_neg hj]
  ·rw[show g0Q ((a,y)::r) f u=g0Q r f u from List.filter_cons_of_neg (by simpa using hk),ih,i0Y]
   by_cases hin:f≤j∧j<u
   ·rw[if_pos hin,if_pos hin]
   ·rw[if_neg hin,if_neg hin,if_neg (by omega)]
end Go.Sb
namespace Go.Proofs.Q
open Go.Sl Go.Sb
section
structure Vx where
 v:Vp
 mv:Value
structure Rx where
 lv:Value
 l:List Vx
 next:Int
 bits:Nat
 epoch:Int
def er (c:Rx):Rp:= {l:=c.l.map (·.v),next:=c.next,bits:=c.bits,epoch:=c.epoch}
def b0A (x:Vx):List Value:= [.int .i64 x.v.id,.int .i64 x.v.parent,.bool x.v.only,.int .i64 x.v.size,.int .i64 x.v.born,x.mv]
def a1N (x:Vx):Value:= .agg (b0A x).toArray
def a0P (c:Rx):List Value:= [c.lv,.int .i64 c.next,.int .i64 c.bits,.int .i64 c.epoch]
def e0X (c:Rx):Value:= .agg (a0P c).toArray
abbrev y1F (H:b0J) (lv:Value) (l:List Vx):Prop:=h0U H 42 6 lv l.length (l.flatMap b0A)
abbrev m0N (H:b0J) (x:Vx):Prop:=j1A H x.mv x.v.m∧o0N x.v.m
structure d0M (H:b0J) (c:Rx):Prop where
 vols:y1F H c.lv c.l
 maps: ∀x∈c.l,m0N H x
 few:c.l.length≤1000
theorem t0G (x:Vx):(b0A x).length=6:=rfl
theorem l0N (l:List Vx) {i:Nat} (hi:i<l.length):((l.flatMap b0A).drop (i*6)).take 6=b0A l[i]:=s0X t0G l hi
theorem m0N.more {H H':b0J} {x:Vx} (h:m0N H x) (hs: ∀p∈H,p∈H'):m0N H' x:=⟨h.1.more hs,h.2⟩
theorem d0M.more {H H':b0J} {c:Rx} (h:d0M H c) (hs: ∀p∈H,p∈H'):d0M H' c:=⟨h.vols.more hs,fun x hx=>(h.maps x hx).more hs,h.few⟩
theorem v0P {H:b0J} {l:List Vx} (h: ∀x∈l,m0N H x): ∀u∈l.flatMap b0A,u.oneCell'=true:=fun u hu=>by
 obtain⟨x,hx,hu⟩:=List.mem_flatMap.1 hu
 simp only[b0A,List.mem_cons,List.not_mem_nil,or_false]at hu
 rcases hu with rfl|rfl|rfl|rfl|rfl|rfl
 ·rfl
 ·rfl
 ·rfl
 ·rfl
 ·rfl
 ·exact(h x hx).1.one
theorem l2H {l:List Vp} {id:Int} {i:Nat} (hi:i<l.length) (hb: ∀j (h:j<l.length),j<i→l[j].id≠id) (h:l[i].id=id):d0E l id=some i:=by
 unfold d0E
 rw[List.findIdx?_eq_some_iff_getElem]
 exact⟨hi,by simpa using h,fun j hj=>by simpa using hb j (by omega) hj⟩
theorem l2I {l:List Vp} {id:Int} (hb: ∀j (h:j<l.length),l[j].id≠id):d0E l id=none:=by
 unfold d0E
 rw[List.findIdx?_eq_none_iff]
 intro x hx
 obtain⟨j,hj,rfl⟩:=List.mem_iff_getElem.1 hx
 simpa using hb j hj
theorem t0H {l:List Vp} {id:Int} {i:Nat} (h:d0E l id=some i):i<l.length:=by
 unfold d0E at h
 rw[List.findIdx?_eq_some_iff_getElem]at h
 exact h.1
abbrev u0L (b:Nat) (c:Rx):a0E:=pts b (.cells (a0P c).toArray 34 (0,0))
abbrev l1G (b:Nat) (x:Vx):a0E:=pts b (.cells (b0A x).toArray 42 (0,0))
attribute [local irreducible] Sl.a0L Sl.OW Sl.CW Sl.OS Sl.OM Sl.OMf Sl.KM
theorem j1C (H:b0J) (c:Rx) (id:Int) (hc:d0M H c):a0S Tryz.prog 101 #[e0X c,.int .i64 id] [c0Q H] (b0G (.int .i64 (c1R (er c).l id)) [c0Q H]):=by
 obtain⟨p,cap,hlv,hcap⟩:=e0E hc.vols
 have hfew:=hc.few
 have hrow:=hc.vols
 rw[hlv]at hrow
 refine a0C Tryz.func101 rfl Tryz.ntmps101 rfl (fun R w0=> ?_)
 simp only[a0N,List.cons_append,List.nil_append,e0X,a0P]
 rw[hlv]
 refine go 2 ?_
 refine(a0X rfl (fun b2=> ?_))
 refine go 13 ?_
 refine b0S (X:= {i:Nat // i≤c.l.length∧ ∀j (h:j<c.l.length),j<i→c.l[j].v.id≠id}) (fun y=> [(1,.int .i64 id),(8,.slice p c.l.length cap),(9,.int .i64 c.l.length),(10,.int .i64 y.1)]) (fun y=> [c0Q H,R]) (fun y=>c.l.length-y.1) ⟨0,Nat.zero_le _,fun j _ hj=>absurd hj (Nat.not_lt_zero _)⟩ gSu gSp ?_
 rintro⟨i,hi,hz⟩ m0 hm0
 try simp only at hm0
 try dsimp only
 skip
 refine go 6 ?_
 refine b0C rfl (fun hb11=> ?_) (fun hb11=> ?_)
 ·have hil:i<c.l.length:=by have:=of_decide_eq_true hb11;omega
  obtain⟨b,o,cap',cur,hv,hcp,hmem,hcut,hlen⟩:=g0E hrow (by omega)
  cases hv
  have hcu:(cur.drop (o+i*6)).take 6=b0A c.l[i]:=(h0J hcut hil).trans (l0N c.l hil)
  refine go 8 ?_
  refine a0F (f0A (vs:=b0A c.l[i]) Ag.o rfl gFd hmem hcu rfl (by decide)) ?_
  refine(a0U Zr.o (fun b6=> ?_))
  refine go 1 ?_
  refine a0K Sz.o rfl rfl rfl (fun u hu=>v0P hc.maps u (List.mem_flatMap.2 ⟨c.l[i],List.getElem_mem hil,by simpa using hu⟩)) (by simp[b0A,Value.cells]) (a0R (by simp[b0A,Value.cells])) ?_
  refine go 10 ?_
  refine b0C rfl (fun hb18=> ?_) (fun hb18=> ?_)
  ·have he:c.l[i].v.id=id:=by simpa using hb18
   refine go 6 ?_
   refine b0V (fun _ _ h=>h) rfl (by unfold c1R;rw[l2H (i:=i) (by simpa [er] using hil) (fun j hj hji=>by simpa [er] using hz j (by simpa [er] using hj) hji) (by simpa [er] using he)]) gSp
  ·have he: ¬c.l[i].v.id=id:=by simpa using hb18
   refine go 6 ?_
   refine b0Q (fun _ _ h=>h) (⟨i+1,hil,fun j hjl hj=>if h:j=i then by subst h;exact he else hz j hjl (by omega)⟩) (by first|omega| (simp only;omega)) gSu gSp
 ·obtain rfl:i=c.l.length:=by have:=of_decide_eq_false hb11;omega
  refine go 7 ?_
  refine b0V (fun _ _ h=>h) rfl (by unfold c1R;rw[l2I (fun j hj=>by simpa [er] using hz j (by simpa [er] using hj) (by simpa [er] using hj))]) gSp
end
section
abbrev w0N (H:b0J) (P:Rp) (x:b0J×Rx):Prop:=(∀p∈H,p∈x.1)∧d0M x.1 x.2∧er x.2=P
theorem r2W (c:Rx) (lv:Value) (i:Nat) (v:Vx):er {c with lv:=lv,l:=c.l.set i v} = {er c with l:=(er c).l.set i v.v} :=by
 unfold er;simp only[List.map_set]
theorem o0O {H:b0J} {v:Vx} (hv:m0N H v): ∀u∈b0A v,u.oneCell'=true:=fun u hu=>v0P (l:= [v]) (fun x hx=>by rw[List.mem_singleton.1 hx];exact hv) u (by simpa using hu)
theorem r2X {H:b0J} {l:List Vx} {i:Nat} {v:Vx} (h: ∀x∈l,m0N H x) (hv:m0N H v): ∀x∈l.set i v,m0N H x:=fun x hx=>by
 rcases List.mem_or_eq_of_mem_set hx with h1|rfl
 ·exact h x h1
 ·exact hv
attribute [local irreducible] Sl.a0L Sl.OW Sl.CW Sl.OS Sl.OM Sl.OMf Sl.KM
theorem a1O (H:b0J) (c:Rx) (i:Nat) (v:Vx) (hc:d0M H c) (hv:m0N H v) (hi:i<c.l.length):a0S Tryz.prog 126 #[e0X c,.int .i64 i,a1N v] [c0Q H]
 (c0X (w0N H {er c with l:=(er c).l.set i v.v}) (fun x=>e0X x.2) (fun x=> [c0Q x.1])):=by
 obtain⟨p,cap,hlv,hcap⟩:=e0E hc.vols
 have hfew:=hc.few
 have hrow:=hc.vols
 rw[hlv]at hrow
 have hfl:=h0K t0G c.l
 have hi6:0+((i:Nat):Int).toNat*6+6≤(c.l.flatMap b0A).length:=by rw[hfl];omega
 refine a0C Tryz.func126 rfl Tryz.ntmps126 rfl (fun R w0=> ?_)
 simp only[a0N,List.cons_append,List.nil_append,e0X,a0P,a1N]
 rw[hlv]
 refine go 2 ?_
 refine(a0X rfl (fun b3=> ?_))
 refine(a0X rfl (fun b5=> ?_))
 refine(a0U Zr.o (fun b6=> ?_))
 refine go 4 ?_
 refine(b0P Tsl.o Zr.o rfl rfl rfl (by simp[d0B,d0K,Value.cells]<;>rfl) (fun b7=> ?_))
 refine e0Y (fun w h=>p0O 6 h) ?_
 refine go 2 ?_
 refine(e0F (news:=c.l.flatMap b0A) Tsl.o Ttb.o Zr.o rfl rfl rfl gFd (z0K Tsl.o hrow gFd (v0P hc.maps)) (by simp only[maxLen];omega) (by omega) (fun v10 hv10=> ?_))
 rw[show 0+c.l.length=c.l.length from Nat.zero_add _,List.nil_append]
 refine go 5 ?_
 refine n0U (e:=42) gFd (by omega) fun bw capw hvw hcapw=> ?_
 refine go 1 ?_
 subst hvw
 refine go 3 ?_
 refine a0F (a0O (v:=(b0A v).toArray) Ag.o rfl (by simp[Value.cells,b0A]) (a0I (by simp[Value.cells,b0A]))) ?_
 refine go 1 ?_
 refine k1G (vs:=b0A v) (xs':=(c.l.set i v).flatMap b0A) Sz.o rfl rfl rfl (o0O hv) gFd hi6 (by rw[show 0+((i:Nat):Int).toNat*6=i*6 by omega];exact l1Z t0G v hi) ?_
 refine go 5 ?_
 skip
 refine(a0K Sz.o rfl rfl (by first|rfl|simp) (by simp[Value.oneCell']) (by simp[Value.cells]) (by simp[i0N,Value.cells]<;>rfl) ?_)
 refine go 2 ?_
 refine s0D (show Fnd _ (c0E 42 6 (.slice (some ⟨bw,0,none⟩) c.l.length capw) c.l.length ((c.l.set i v).flatMap b0A)) _ from gFd) (show Fnd _ (c0Q H) _ from gFd) fun H' hs hr=> ?_
 exact c0W (x:=((H',{c with lv:= .slice (some ⟨bw,0,none⟩) c.l.length capw,l:=c.l.set i v}):b0J×Rx)) ⟨hs,⟨(by show h0U _ _ _ _ (c.l.set i v).length _;rw[List.length_set];exact hr),fun x hx=>r2X (fun x hx=>(hc.maps x hx).more hs) (hv.more hs) x hx,by simpa using hfew⟩,r2W c _ i v⟩ (fun _ _ h=>h) (RV.agg Ag.o rfl (by simp) (by rfl) RV.nil) rfl gSp
end
section
def l2J (e n:Int) (x:b0J×Rx):Value:= .tuple #[e0X x.2,.int .i64 n,.int .i64 e]
def l1H (e:Int) (x:b0J×Rx):Value:= .tuple #[e0X x.2,.int .i64 e]
theorem g2C (c:Rx):(er c).l.length=c.l.length:=by simp[er]
theorem g0F {H:b0J} {c:Rx} (hc:d0M H c):w0N H (er c) (H,c):=⟨fun _ h=>h,hc,rfl⟩
theorem r2Y (lv:Value) (l:List Vx) (n b e) (v:Vx) (lv2 n2):er {lv:=lv,l:=l++ [v],next:=n2,bits:=b,epoch:=e} = {er {lv:=lv2,l:=l,next:=n,bits:=b,epoch:=e} with l:=(er {lv:=lv2,l:=l,next:=n,bits:=b,epoch:=e}).l++ [v.v],next:=n2} :=by
 unfold er;simp only[List.map_append,List.map_cons,List.map_nil]
attribute [local irreducible] Sl.a0L Sl.OW Sl.CW Sl.OS Sl.OM Sl.OMf Sl.KM
theorem n1N (H:b0J) (c:Rx) (v:Vx) (hc:d0M H c) (hv:m0N H v) (hn:0≤c.next∧c.next<1000000000):a0S Tryz.prog 100 #[e0X c,a1N v] [c0Q H]
 (c0X (w0N H (i0J (er c) v.v).1) (l2J (i0J (er c) v.v).2.2 (i0J (er c) v.v).2.1) (fun x=> [c0Q x.1])):=by
 obtain⟨p,cap,hlv,hcap⟩:=e0E hc.vols
 obtain⟨lv,l,next,bits,epoch⟩:=c
 dsimp only at hlv hn hcap
 subst hlv
 have hfew:=hc.few
 have hrow:=hc.vols
 dsimp only at hfew hrow
 have hfl:=h0K t0G l
 by_cases h15:15<l.length
 ·rw[show i0J (er ⟨.slice p l.length cap,l,next,bits,epoch⟩) v.v=(er ⟨.slice p l.length cap,l,next,bits,epoch⟩,0,13) by unfold i0J;rw[if_pos (by rw[g2C];exact h15)]]
  refine a0C Tryz.func100 rfl Tryz.ntmps100 rfl (fun R w0=> ?_)
  simp only[a0N,List.cons_append,List.nil_append,e0X,a0P,a1N]
  refine go 2 ?_
  refine(a0X rfl (fun b2=> ?_))
  refine(a0X rfl (fun b3=> ?_))
  refine(a0U Zr.o (fun b4=> ?_))
  refine go 13 ?_
  refine d0W rfl (by simpa using (by omega:(15:Int)<(l.length:Int))) ?_
  refine go 2 ?_
  refine a0F (a0O (v:= #[.slice p l.length cap,.int .i64 next,.int .i64 bits,.int .i64 epoch]) Ag.o rfl (by simp[Value.cells]) (a0I (by simp[Value.cells]))) ?_
  refine(a0K Sz.o rfl rfl (by first|rfl|simp) (by simp[Value.oneCell']) (by simp[Value.cells]) (by simp[i0N,Value.cells]<;>rfl) ?_)
  refine go 4 ?_
  exact c0W (x:=((H,⟨.slice p l.length cap,l,next,bits,epoch⟩):b0J×Rx)) (g0F hc) (fun _ _ h=>h) (RV.agg Ag.o rfl (by simp) (by rfl) (RV.tmp rfl (RV.tmp rfl RV.nil))) rfl gSp
 ·have hr:i0J (er ⟨.slice p l.length cap,l,next,bits,epoch⟩) v.v=({er ⟨.slice p l.length cap,l,next,bits,epoch⟩with l:=(er ⟨.slice p l.length cap,l,next,bits,epoch⟩).l++ [{v.v with id:=next,born:=epoch}],next:=next+1},next,0):=by unfold i0J;rw[if_neg (by rw[g2C];exact h15)];rfl
  obtain⟨v2,hv2⟩: ∃v2:Vx,v2= {v with v:= {v.v with id:=next,born:=epoch}} :=⟨_,rfl⟩
  have hvk:m0N H v2:=by rw[hv2];exact hv
  have hvc:b0A v2= [.int .i64 next,.int .i64 v.v.parent,.bool v.v.only,.int .i64 v.v.size,.int .i64 epoch,v.mv]:=by rw[hv2];rfl
  rw[hr]
  refine a0C Tryz.func100 rfl Tryz.ntmps100 rfl (fun R w0=> ?_)
  simp only[a0N,List.cons_append,List.nil_append,e0X,a0P,a1N,b0A]
  refine go 2 ?_
  refine(a0X rfl (fun b2=> ?_))
  refine(a0X rfl (fun b3=> ?_))
  refine(a0U Zr.o (fun b4=> ?_))
  refine go 13 ?_
  refine c0C rfl (by simpa using (by omega: ¬(15:Int)<(l.length:Int))) ?_
  refine go 2 ?_
  refine w1H ([(2,.pointer (some ⟨b2,0,none⟩)),(3,.pointer (some ⟨b3,0,none⟩)),(4,.pointer (some ⟨b4,0,none⟩))]) ([pts b2 (.cells #[.slice p l.length cap,.int .i64 next,.int .i64 bits,.int .i64 epoch] 34 (0,0)),pts b3 (.cells #[.int .i64 next,.int .i64 v.v.parent,.bool v.v.only,.int .i64 v.v.size,.int .i64 epoch,v.mv] 42 (0,0)),pts b4 (.cells #[.slice none 0 0,.int .i64 0,.int .i64 0,.int .i64 0] 34 (0,0)),c0Q H,R]) ?_ ?_
  ·refine d0H (.soft 0 (.soft 1 (.soft 2 (.soft 3 (.soft 4 (.hard 5 (.soft 6 (.hard 7 .done)))))))) [pts b2 (.cells #[.slice p l.length cap,.int .i64 next,.int .i64 bits,.int .i64 epoch] 34 (0,0))] Fol.o (by kernel_rfl) (by repeat (first|with_reducible exact a0J.bp|with_reducible apply a0J.then|with_reducible apply a0J.inBlock)) gSp ?_
   refine go 15 ?_
   exact j1W (fun _ _ h=>h) gSu gSp
  refine go 10 ?_
  refine t0Z 8 (by rfl) (.soft 1 (.soft 2 (.soft 4 (.float 5 (.hard 0 (.hard 3 (.res (.hard 6 (.soft 7 .done))))))))) [pts b2 (.cells #[.slice p l.length cap,.int .i64 (next+1),.int .i64 bits,.int .i64 epoch] 34 (0,0)),pts b3 (.cells #[.int .i64 next,.int .i64 v.v.parent,.bool v.v.only,.int .i64 v.v.size,.int .i64 epoch,v.mv] 42 (0,0))] Fol.o (by kernel_rfl) (by repeat (first|with_reducible exact a0J.bp|with_reducible apply a0J.then|with_reducible apply a0J.inBlock)) gSp ?_
  simp only[List.take_succ_cons,List.take_zero]
  refine go 2 ?_
  refine i0A rfl (a0O (v:= #[.int .i64 next,.int .i64 v.v.parent,.bool v.v.only,.int .i64 v.v.size,.int .i64 epoch,v.mv]) Ag.o rfl (by simp[Value.cells]) (a0I (by simp[Value.cells]))) ?_
  refine s0A (e0:= [(26,_)]) rfl gSu (fun _ _ _=>rfl) Tsl.o Zr.o rfl rfl rfl (by simp[d0B,d0K,Value.cells]<;>rfl) rfl ?_
  refine c0H rfl (fun hok EE FF=> ?_)
  simp only[List.cons_append,List.nil_append]
  refine(b0P Tsl.o Zr.o rfl rfl rfl (by simp[d0B,d0K,Value.cells]<;>rfl) (fun b22=> ?_))
  refine e0Y (fun w h=>p0O 6 h) ?_
  refine go 1 ?_
  refine c0G (E:=EE) (F:=FF) (by repeat (first|exact Tl.nil|apply Tl.cons)) gFd gSp (hok.put rfl) ?_
  refine c0H rfl (fun hok EE FF=> ?_)
  simp only[List.cons_append,List.nil_append]
  refine(e0F (news:=l.flatMap b0A) Tsl.o Ttb.o Zr.o rfl rfl rfl gFd (z0K Tsl.o hrow gFd (v0P hc.maps)) (by simp only[maxLen];omega) (by omega) (fun v25 hv25=> ?_))
  refine go 1 ?_
  refine c0G (E:=EE) (F:=FF) (by repeat (first|exact Tl.nil|apply Tl.cons)) gFd gSp (hok.put rfl) ?_
  refine m0B (fun b27=> ?_)
  dsimp only
  refine c0H rfl (fun hok EE FF=> ?_)
  simp only[List.cons_append,List.nil_append]
  refine(e0F (news:=b0A v2) Tsl.o Ttb.o Zr.o rfl rfl rfl gFd (h0O Tsl.o (by rw[hvc];rfl) (by rw[hvc];rfl) (o0O hvk)) (by simp only[maxLen];omega) (by omega) (fun v28 hv28=> ?_))
  refine go 1 ?_
  refine c0G (E:=EE) (F:=FF) (by repeat (first|exact Tl.nil|apply Tl.cons)) gFd gSp (hok.put rfl) ?_
  refine go 2 ?_
  refine y0H ?_
  refine go 4 ?_
  refine n0U (e:=42) gFd (by omega) fun bw capw hvw hcapw=> ?_
  subst hvw
  rw[show 0+l.length=l.length from Nat.zero_add _]
  refine d0H (.soft 0 (.soft 1 (.soft 2 (.hard 3 (.soft 4 (.soft 5 .done)))))) [pts b2 (.cells #[.slice (some ⟨bw,0,none⟩) (l.length+1) capw,.int .i64 (next+1),.int .i64 bits,.int .i64 epoch] 34 (0,0)),pts b3 (.cells #[.int .i64 next,.int .i64 v.v.parent,.bool v.v.only,.int .i64 v.v.size,.int .i64 epoch,v.mv] 42 (0,0))] Fol.o (by kernel_rfl) (by repeat (first|with_reducible exact a0J.bp|with_reducible apply a0J.then|with_reducible apply a0J.inBlock)) gSp ?_
  refine d0D rfl (a0O (v:= #[.slice (some ⟨bw,0,none⟩) (l.length+1) capw,.int .i64 (next+1),.int .i64 bits,.int .i64 epoch]) Ag.o rfl (by simp[Value.cells]) (a0I (by simp[Value.cells]))) ?_
  refine go 3 ?_
  refine(a0K Sz.o rfl rfl (by first|rfl|simp) (by simp[Value.oneCell']) (by simp[Value.cells]) (by simp[i0N,Value.cells]<;>rfl) ?_)
  refine go 6 ?_
  refine s0D (show Fnd _ (c0E 42 6 (.slice (some ⟨bw,0,none⟩) (l.length+1) capw) (l.length+1) (l.flatMap b0A++b0A v2)) _ from gFd) (show Fnd _ (c0Q H) _ from gFd) fun H' hs hr2=> ?_
  exact c0W (x:=((H',⟨.slice (some ⟨bw,0,none⟩) (l.length+1) capw,l++ [v2],next+1,bits,epoch⟩):b0J×Rx)) ⟨hs,⟨(by show h0U _ _ _ _ (l++ [v2]).length _;rw[List.length_append,List.flatMap_append,List.flatMap_singleton];exact hr2),fun x hx=>by rcases List.mem_append.1 hx with h|h;{exact(hc.maps x h).more hs};{rw[List.mem_singleton.1 h];exact hvk.more hs},by simp;omega⟩,by rw[hv2];exact r2Y _ l _ _ _ _ _ _⟩ (fun _ _ h=>h) (RV.agg Ag.o rfl (by simp) (by rfl) (RV.tmp rfl (RV.tmp rfl RV.nil))) rfl gSp
end
section
theorem c0N {H:b0J} {c:Rx} (hc:d0M H c): ∀u∈a0P c,u.oneCell'=true:=fun u hu=>by
 simp only[a0P,List.mem_cons,List.not_mem_nil,or_false]at hu
 rcases hu with rfl|rfl|rfl|rfl
 ·exact hc.vols.one
 ·rfl
 ·rfl
 ·rfl
theorem o0P {H:b0J} {c:Rx} {id:Int} {i:Nat} (hc:d0M H c) (h:d0E (er c).l id=some i):a0S Tryz.prog 101 #[e0X c,.int .i64 id] [c0Q H] (b0G (.int .i64 (i:Int)) [c0Q H]):=by
 have:=j1C H c id hc
 unfold c1R at this
 rw[h]at this
 exact this
theorem q0I {H:b0J} {c:Rx} {id:Int} (hc:d0M H c) (h:d0E (er c).l id=none):a0S Tryz.prog 101 #[e0X c,.int .i64 id] [c0Q H] (b0G (.int .i64 (-1)) [c0Q H]):=by
 have:=j1C H c id hc
 unfold c1R at this
 rw[h]at this
 exact this
theorem m0U {c:Rx} {i:Nat} (h:i<c.l.length):(er c).l.getD i v0=c.l[i].v:=by
 rw[List.getD_eq_getElem?_getD,List.getElem?_eq_getElem (by simpa [er] using h)]
 simp[er]
theorem l2K (H:b0J) (s:Int):m0N H {v:= {v0 with size:=s},mv:= .slice none 0 0} :=⟨h1T H _ 2,n1L⟩
attribute [local irreducible] Sl.a0L Sl.OW Sl.CW Sl.OS Sl.OM Sl.OMf Sl.KM
theorem s1C (H:b0J) (c:Rx) (size:Int) (hc:d0M H c) (hn:0≤c.next∧c.next<1000000000):a0S Tryz.prog 42 #[e0X c,.int .i64 size] [c0Q H]
 (c0X (w0N H (f0G (er c) size).1) (l2J (f0G (er c) size).2.2 (f0G (er c) size).2.1) (fun x=> [c0Q x.1])):=by
 have hone:=c0N hc
 by_cases hb:size<1∨2048<size
 ·rw[show f0G (er c) size=(er c,0,4) by unfold f0G;rw[if_pos hb]]
  refine a0C Tryz.func42 rfl Tryz.ntmps42 rfl (fun R w0=> ?_)
  simp only[a0N,List.cons_append,List.nil_append,e0X,a0P]
  refine go 2 ?_
  refine(a0X rfl (fun b2=> ?_))
  refine(a0U Zr.o (fun b4=> ?_))
  refine go 6 ?_
  by_cases hlt:size<1
  ·refine go 12 ?_
   refine a0F (a0O (v:= #[c.lv,.int .i64 c.next,.int .i64 c.bits,.int .i64 c.epoch]) Ag.o rfl (by simp[Value.cells]) (a0I (by simp[Value.cells]))) ?_
   refine a0K Sz.o rfl rfl rfl (fun u hu=>hone u (by simpa [a0P] using hu)) (by simp[Value.cells,a0P,b0A]) (a0R (by simp[Value.cells,a0P,b0A])) ?_
   refine go 4 ?_
   exact c0W (x:=((H,c):b0J×Rx)) (g0F hc) (fun _ _ h=>h) (RV.agg Ag.o rfl (by simp[a0P]) (by rfl) (RV.tmp rfl (RV.tmp rfl RV.nil))) rfl gSp
  ·refine go 9 ?_
   refine d0W rfl (by simpa using (by omega:2048<size)) ?_
   refine go 2 ?_
   refine a0F (a0O (v:= #[c.lv,.int .i64 c.next,.int .i64 c.bits,.int .i64 c.epoch]) Ag.o rfl (by simp[Value.cells]) (a0I (by simp[Value.cells]))) ?_
   refine a0K Sz.o rfl rfl rfl (fun u hu=>hone u (by simpa [a0P] using hu)) (by simp[Value.cells,a0P,b0A]) (a0R (by simp[Value.cells,a0P,b0A])) ?_
   refine go 4 ?_
   exact c0W (x:=((H,c):b0J×Rx)) (g0F hc) (fun _ _ h=>h) (RV.agg Ag.o rfl (by simp[a0P]) (by rfl) (RV.tmp rfl (RV.tmp rfl RV.nil))) rfl gSp
 ·rw[show f0G (er c) size=i0J (er c) {v0 with size:=size} by unfold f0G;rw[if_neg hb]]
  refine a0C Tryz.func42 rfl Tryz.ntmps42 rfl (fun R w0=> ?_)
  simp only[a0N,List.cons_append,List.nil_append,e0X,a0P]
  refine go 2 ?_
  refine(a0X rfl (fun b2=> ?_))
  refine(a0U Zr.o (fun b4=> ?_))
  refine go 15 ?_
  refine c0C rfl (by simpa using (by omega: ¬2048<size)) ?_
  refine go 4 ?_
  refine a0F (a0O (v:= #[c.lv,.int .i64 c.next,.int .i64 c.bits,.int .i64 c.epoch]) Ag.o rfl (by simp[Value.cells]) (a0I (by simp[Value.cells]))) ?_
  refine go 2 ?_
  refine a0W rfl Hb.o rfl (n1N H c {v:= {v0 with size:=size},mv:= .slice none 0 0} hc (l2K H size) hn) gSp ?_
  rintro⟨H',c'⟩ ⟨hs',hc',hr'⟩
  refine ns ?_
  refine go 3 ?_
  refine a0K Sz.o rfl rfl rfl (fun u hu=>c0N hc' u (by simpa using hu)) (by simp[Value.cells,a0P,b0A]) (a0R (by simp[Value.cells,a0P,b0A])) ?_
  refine go 4 ?_
  exact c0W (x:=((H',c'):b0J×Rx)) ⟨hs',hc',hr'⟩ (fun _ _ h=>h) (RV.agg Ag.o rfl (by simp[a0P]) (by rfl) (RV.tmp rfl (RV.tmp rfl RV.nil))) rfl gSp
end
end Go.Proofs.Q
