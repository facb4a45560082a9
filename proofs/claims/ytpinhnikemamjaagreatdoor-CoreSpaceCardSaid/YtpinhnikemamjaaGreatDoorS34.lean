/- Part of the proof; no statement of its own. -/
import Derived.Test.YtpinhnikemamjaaGreatDoorS23
import Derived.Test.YtpinhnikemamjaaGreatDoorS31
import Derived.Test.YtpinhnikemamjaaGreatDoorS18
import Derived.Test.YtpinhnikemamjaaGreatDoorS17
import Derived.Test.YtpinhnikemamjaaGreatDoorS33
import Derived.Test.YtpinhnikemamjaaGreatDoorS30
import Derived.Test.YtpinhnikemamjaaGreatDoorS21
import Derived.Test.YtpinhnikemamjaaGreatDoorProg
import Derived.KernelRfl
import Derived.Test.YtpinhnikemamjaaGreatDoorS08
import Derived.Test.YtpinhnikemamjaaGreatDoorS29
import Derived.Test.YtpinhnikemamjaaGreatDoorS24
import Derived.Test.YtpinhnikemamjaaGreatDoorS07
import Derived.Test.YtpinhnikemamjaaGreatDoorS15
set_option linter.all false
set_option maxRecDepth 4000
set_option maxHeartbeats 4000000
attribute [local irreducible] Go.Sl.a0P Go.Sl.OW Go.Sl.CW Go.Sl.OS Go.Sl.OM Go.Sl.OMf Go.Sl.KM
namespace Go.Proofs.Q
open Go.Sl Go.Sb Tryz
abbrev f0Z (b core:Nat) (c:Rx):a0E:=pts b (.cells #[ptr core,c.lv,.int .i64 c.next,.int .i64 c.bits,.int .i64 c.epoch] 37 (0,0))
def x1N (e f:Int) (b:Bool):Value:= .tuple #[.int .i64 e,.int .i64 f,.bool b]
theorem k1K (bw core:Nat) (n m e f:Int) (c y:Rx) (hy: ∀u∈a0J y,u.oneCell'=true) (hn:0≤n∧n<4294967296) (h1:e=0→n=m) (h2:e≠0→n=0) (h3:e=0→f=0):
 a0G prog 43 #[ptr bw,.int .u32 n,.int .i64 m,e0W y,.int .i64 e,.int .i64 f] [f0Z bw core c] (a0T (x1N e f true) [f0Z bw core (if e=0 then y else c)]):=by
 by_cases he:e=0
 ·subst he;obtain rfl:=h1 rfl;obtain rfl:=h3 rfl;rw[if_pos rfl];refine en func43 ntmps43 fun R w0=> ?_
  try simp only[e0W]
  refine go 2 ?_;refine bx fun b9=> ?_;refine go 20 ?_;refine a0D (a0K (v:=(a0J y).toArray) Ag.o rfl (by simp[Value.cells,a0J]) (a0I (by simp[Value.cells,a0J]))) ?_;refine go 2 ?_;refine a0M Sz.o rfl rfl rfl (fun u hu=>hy u (by simpa using hu)) (by simp[a0J]) (by simp[j0I,a0J];rfl) ?_;refine go 15 ?_;exact rG (hu:=(by unfold x1N;simp[e0P .i64 n hn.1 (by show n<9223372036854775808;omega)]))
 ·obtain rfl:=h2 he;rw[if_neg he];refine en func43 ntmps43 fun R w0=> ?_
  try simp only[e0W]
  refine go 2 ?_;refine bx fun b9=> ?_;refine go 11 ?_;refine c0D rfl (wg rfl rfl rfl (wTF (by simpa using he))) ?_;refine c0D rfl (wg rfl rfl rfl (wTF (by simpa using he))) ?_;refine a0D (h0H rfl (by simpa using he) rfl) ?_;refine go 12 ?_;refine b0Z (d0H rfl) (wg rfl rfl rfl (wFF (by simpa using he))) ?_;refine b0Z (b1F rfl rfl) (wg rfl rfl rfl (wFF (by simpa using he))) ?_;refine a0D (h0H rfl (by simpa using he) rfl) ?_;refine go 5 ?_;exact rG (hu:=(by unfold x1N;simp))
section
def Fit (s:St):Prop:=s.bits≤256∧s.vols.length≤1000
def x1O:B:=List.replicate 64 120
def g1C (s0:St):Prop:= ∃s1 s2 s3 s4 s5:St,(Fit s0∧Fit s1∧Fit s2∧Fit s3∧Fit s4)∧f0T 5 s0=(.ok (1,0),s1)∧h0K 1 4 x1O s1=(.ok 0,s2)∧h0S 1 true s2=(.ok (2,0),s3)∧h0K 2 0 [] s3=(.ok 7,s4)∧h0K 1 5 x1O s4=(.ok 6,s5)
section
variable {W:World} {s t:St}
theorem n1E {size:Int} {p:Int×Int} (hf:Fit s) (h:f0T size s=(.ok p,t)) (a:Ad):a0G prog 38 #[ptr a.core,.int .i64 size] (RS W a s) (a0T (z0M p) (RS W a t)):=by
 have k:=x1E W a s size hf.2 (by rw[h];simp);rw[h]at k;exact k.ran_ok
theorem z0O (hW:i0L W) {id at_:Int} {data:B} {e:Int} (hf:Fit s) (hd:data.length≤100000) (h:h0K id at_ data s=(.ok e,t)) (a:Ad):a0G prog 21 #[ptr a.core,.int .u32 id,.int .i64 at_,b0C data] (RS W a s) (a0T (a0H e) (RS W a t)):=by
 have k:=a2D W hW a s id at_ data hf.1 hd hf.2 (by rw[h];simp);rw[h]at k;exact k.ran_ok
theorem x1P {id:Int} {p:Int×Int} (hf:Fit s) (h:h0S id true s=(.ok p,t)) (a:Ad):a0G prog 40 #[ptr a.core,.int .u32 id] (RS W a s) (a0T (z0M p) (RS W a t)):=by
 have k:=g2Z W a s id hf.2 (by rw[h];simp);rw[h]at k;exact k.ran_ok
theorem x1Q {id at_ n:Int} {p:B×Int} (h:n0Y id at_ n s=(.ok p,t)) (a:Ad):a0G prog 19 #[ptr a.core,.int .u32 id,.int .i64 at_,.int .i64 n] (RS W a s) (a0T (h2B p) (RS W a t)):=by
 have k:=r2I W a s id at_ n (by rw[h];simp);rw[h]at k;exact k.ran_ok
end
set_option maxRecDepth 8000
theorem h2P (W:World) (hW:i0L W) (hA:g1C (f0X (k0Q 100) 2 256 1)):a0G prog 10 #[] [whole W] (a0T (.bool true) [whole W]):=by
 obtain⟨s1,s2,s3,s4,s5,⟨f0,f1,f2,f3,f4⟩,h1,h2,h3,h4,h5⟩:=hA;have k1:=fun a=>n1E (W:=W) f0 h1 a;have k2:=fun a=>z0O (W:=W) hW f1 (by simp[x1O]) h2 a;have k3:=fun a=>x1P (W:=W) f2 h3 a;have k4:=fun a=>z0O (W:=W) hW f3 (by simp) h4 a;have k5:=fun a=>z0O (W:=W) hW f4 (by simp[x1O]) h5 a;have hr:=c2B [120] 64 (by simp) (by omega);have hxs:(List.replicate 64 [(120:UInt8)]).flatten=x1O:=rfl;rw[hxs]at hr;refine en func10 ntmps10 fun R w0=> ?_;refine ce 7 (r1J W 98 256 (by omega) (by omega)) ?_;rintro⟨a,bw⟩ _;refine ns ?_;refine cg 23 (k1 a) ?_;refine go 8 ?_;refine mx (.r 0 4 (.hard 4 (.hard 5 (.soft 6 .done)))) [p1F bw a.core 256] ?_;refine cg 5 (hr) ?_;refine cg 3 (k2 a) ?_;refine cg 11 (k3 a) ?_;refine go 8 ?_;refine mx (.r 0 23 (.hard 23 (.r 24 7 (.hard 31 (.hard 32 (.r 33 3 .done)))))) [p1F bw a.core 256] ?_;refine cg 25 (k4 a) ?_;refine cg 11 (hr) ?_;refine cg 4 (k5 a) ?_;refine go 7 ?_;exact rG
end
end Go.Proofs.Q
namespace Go.Proofs.Q
open Go Go.Sl Tryz
theorem F.fs50_4:Sl.n0R prog 50 4 4 0 false=true:=by kernel_rfl
instance:Hb prog 51:=⟨kr⟩
instance:Hb prog 52:=⟨kr⟩
instance:Hb prog 70:=⟨kr⟩
instance:Hb prog 71:=⟨kr⟩
instance:Hb prog 72:=⟨kr⟩
instance:Hb prog 122:=⟨kr⟩
instance:Hb prog 123:=⟨kr⟩
instance:Hb prog 124:=⟨kr⟩
instance:Hb prog 120:=⟨kr⟩
instance:Hb prog 121:=⟨kr⟩
instance:Sc prog 129:=⟨kr⟩
instance:Hb prog 168:=⟨kr⟩
end Go.Proofs.Q
namespace Go.Proofs.Q
open Go.Sl Go.Sb Tryz
theorem r2X (xs:List (Nat×Int)) {i:Nat} (hi:i<xs.length):((xs.flatMap w0W).drop (i*2)).take 2=w0W xs[i]:=by
 induction xs generalizing i with
 |nil=>simp at hi
 |cons x xs ih=>
  cases i with
  |zero=>rfl
  |succ i=>
   rw[show(i+1)*2=2+i*2 by omega,List.flatMap_cons,show 2+i*2=(w0W x).length+i*2 from rfl,List.drop_length_add_append];exact ih (i:=i) (by simpa using hi)
theorem d2G (from_ upto:Nat): ∀(ys c:List (Nat×Int)) (x:Nat×Int),x∈(g0I (d0L from_ upto) ys c).2→x∈c∨x∈ys
 | [],c,x,h=> .inl h
 |y::ys,c,x,h=>by
  have hs: ∀z,z∈(d0L from_ upto y c).2→z∈c∨z=y:=fun z hz=>by
   unfold d0L at hz;split at hz
   ·exact .inl hz
   ·split at hz
    ·rcases List.mem_append.1 hz with h|h
     ·exact .inl h
     ·exact .inr (List.mem_singleton.1 h)
    ·exact .inl hz
  rw[f1Z]at h;split at h
  ·rcases d2G from_ upto ys _ x h with h|h
   ·rcases hs x h with h|h
    ·exact .inl h
    ·exact .inr (h▸List.mem_cons_self)
   ·exact .inr (List.mem_cons_of_mem _ h)
  ·rcases hs x h with h|h
   ·exact .inl h
   ·exact .inr (h▸List.mem_cons_self)
theorem r2Y (from_ upto:Nat): ∀(ys c:List (Nat×Int)),(g0I (d0L from_ upto) ys c).2.length≤c.length+ys.length:=fun ys c=>p1G (mu:=List.length) (m2V from_ upto) ys c
theorem r2Z {α β:Type} (f:β→α→M β) (b:β) (s:St):s0G f b [] s=(.ok b,s):=rfl
theorem n2C {α β:Type} (f:β→α→M β) (b:β) (x:α) (l:List α) (s:St):s0G f b (x::l) s=a0B (f b x) (fun b'=>s0G f b' l) s:=rfl
set_option maxRecDepth 4000 in
theorem h2Q (W:World) (hW:i0L W) (a:Ad) (s:St) (root:Int) (from_ upto:Nat) (ys:List (Nat×Int)) (hv:lvs 2 0 root s=some ys) (hyl:ys.length≤512) (hat: ∀x∈ys,x.1<1000000) (hbits:s.bits≤256) (hnb:(k0M root from_ upto s).1≠ .big):
 a0G prog 121 #[ptr a.maps,.int .i64 root,.int .i64 from_,.int .i64 upto] (RS W a s) (Ran fT (RS W a) a0H (k0M root from_ upto s)):=by
 obtain⟨out,hout⟩: ∃out,out=(g0I (d0L from_ upto) ys []).2:=⟨_,rfl⟩;have hol:out.length≤512:=by rw[hout];have:=r2Y from_ upto ys [];simp only[List.length_nil]at this;omega
 have hin: ∀x∈out,x.1<1000000:=by rw[hout];exact fun x hx=>hat x (d2G from_ upto ys [] x hx |>.resolve_left (by simp))
 have e0:k0M root from_ upto s=s0G (fun r x=>m0G r x.1 0) root out s:=by
  unfold k0M;rw[a0A (show m0B root from_ upto s=(.ok out,s) by unfold m0B;rw[hv,hout])]
 have hls:=a2E W a s root from_ upto ys hv hyl;rw[←hout]at hls;refine en func121 ntmps121 fun R w0=> ?_;refine ce 12 (hls) ?_;rintro v _;refine ns ?_;refine a0D (i0N Tsl.o rfl gFd) ?_;refine go 4 ?_;refine a0V (X:= {y:Nat×St×Int // y.1≤out.length∧y.2.1.bits=s.bits∧k0M root from_ upto s=s0G (fun r x=>m0G r x.1 0) y.2.2 (out.drop y.1) y.2.1}) (fun y=> [(0,ptr a.maps),(1,.int .i64 y.1.2.2),(15,v),(16,.int .i64 out.length),(17,.int .i64 y.1.1)]) (fun y=>RS W a y.1.2.1++ [b0I 244 2 v out.length (out.flatMap w0W),R]) (fun y=>out.length-y.1.1) ⟨(0,s,root),Nat.zero_le _,rfl,e0⟩ gSu gSp ?_;rintro⟨⟨i,u,r⟩,hi,hub,he⟩ m0 hm0
 try simp only at hm0
 try dsimp only
 simp only at hi hub he;refine ns ?_;refine go 6 ?_;refine a0O rfl (fun hb18=> ?_) (fun hb18=> ?_)
 ·have hil:i<out.length:=by have:=of_decide_eq_true hb18;omega
  refine i0T (e:=244) gFd (by omega) fun bw capw hvw hcapw=> ?_;subst hvw;rw[List.drop_eq_getElem_cons hil,n2C]at he;refine go 7 ?_;refine a0D (x0T Ag.o rfl gFd (vs:=w0W out[i]) (by rw[Nat.zero_add];exact r2X out hil) rfl (by decide)) ?_;refine al fun b10=> ?_;refine go 8 ?_;refine a0U rfl Hb.o rfl (f1R W hW a u r out[i].1 0 (by omega) (hin _ (List.getElem_mem hil)) (by rw[he]at hnb;exact c0I hnb)) gSp (fun r' t ho=> ?_) (fun e t ho=>by refine pn ?_;exact kx ((by rw[he];exact a0F ho)));refine ns ?_;have hpb:=o1X r out[i].1 0 u;rw[ho]at hpb;rw[a0A ho]at he;refine go 7 ?_;exact rd idh (⟨(i+1,t,r'),hil,hpb.trans hub,he⟩)
 ·obtain rfl:i=out.length:=by have:=of_decide_eq_false hb18;omega
  rw[List.drop_length,r2Z]at he;refine go 8 ?_;exact rR idh he
theorem x1R {g:Nat→Int→Option (List (Nat×Int))} {from_ m:Nat} : ∀(kids:List Int) (i:Nat) (ys:List (Nat×Int)),(∀j k a,g j k=some a→a.length≤m∧ ∀x∈a,x.1<from_+(j+1)*m)→lvK g i kids=some ys→ys.length≤kids.length*m∧ ∀x∈ys,x.1<from_+(i+kids.length)*m
 | [],i,ys,hg,h=>by
  unfold lvK at h;obtain rfl:=Option.some.inj h;exact⟨by simp,fun x hx=>by cases hx⟩
 |k::kids,i,ys,hg,h=>by
  unfold lvK at h;obtain⟨a,h1,h2⟩:=Option.bind_eq_some_iff.1 h;obtain⟨b,h3,h4⟩:=Option.map_eq_some_iff.1 h2;obtain⟨h5,h6⟩:=hg i k a h1;obtain⟨h7,h8⟩:=x1R kids (i+1) b hg h3;subst h4;refine⟨?_,fun x hx=> ?_⟩
  ·rw[List.length_append,List.length_cons,Nat.succ_mul];omega
  ·rw[List.length_cons];rcases List.mem_append.1 hx with hx|hx
   ·have h9:=h6 x hx;have:(i+1)*m≤(i+(kids.length+1))*m:=Nat.mul_le_mul_right _ (by omega);omega
   ·have h9:=h8 x hx;rw[show i+(kids.length+1)=i+1+kids.length by omega];exact h9
theorem z2C: ∀(l from_:Nat) (at_:Int) (s:St) (ys:List (Nat×Int)),lvs l from_ at_ s=some ys→ys.length≤8^(l+1)∧ ∀x∈ys,x.1<from_+8^(l+1):=by
 intro l
 induction l with
 |zero=>
  intro from_ at_ s ys h;unfold lvs at h;cases ho:Go.Sb.load at_ 0 s with
  |mk o t=>
   rw[ho]at h;cases o with
   |ok n=>
    have h8:n.kids.length=8:=(h0Q ho).2.n;obtain⟨a1,a2⟩:=x1R (m:=1) (from_:=from_) n.kids 0 ys (fun j k a ha=>by
     have ha:=Option.some.inj ha;subst ha;split
     ·exact⟨by simp,fun x hx=>by cases hx⟩
     ·exact⟨by simp,fun x hx=>by rw[List.mem_singleton.1 hx];show from_+j<_;omega⟩) h
    rw[h8]at a1 a2;exact⟨a1,fun x hx=>by have:=a2 x hx;omega⟩
   |err e=>cases h
   |big=>cases h
 |succ l ih=>
  intro from_ at_ s ys h;unfold lvs at h;cases ho:Go.Sb.load at_ (l+1) s with
  |mk o t=>
   rw[ho]at h;cases o with
   |ok n=>
    have h8:n.kids.length=8:=(h0Q ho).2.n;obtain⟨a1,a2⟩:=x1R (m:=8^(l+1)) (from_:=from_) n.kids 0 ys (fun j k a ha=>by
     split at ha
     ·have ha:=Option.some.inj ha;subst ha;exact⟨by simp,fun x hx=>by cases hx⟩
     ·obtain⟨b1,b2⟩:=ih _ _ _ _ ha;refine⟨b1,fun x hx=> ?_⟩;have:=b2 x hx;rw[Nat.succ_mul];omega) h
    rw[h8]at a1 a2;have e:8^(l+1+1)=8*8^(l+1):=by rw[Nat.pow_succ,Nat.mul_comm]
    rw[e];exact⟨a1,fun x hx=>by have:=a2 x hx;rw[Nat.zero_add]at this;exact this⟩
   |err e=>cases h
   |big=>cases h
theorem a2M {root:Int} {from_ upto:Nat} {s:St} (h:(m0B root from_ upto s).1≠ .big): ∃ys,lvs 2 0 root s=some ys:=by
 unfold m0B at h;cases ho:lvs 2 0 root s with
 |some ys=>exact⟨ys,rfl⟩
 |none=>rw[ho]at h;exact absurd rfl h
theorem a2N (W:World) (hW:i0L W) (a:Ad) (s:St) (root:Int) (from_ upto:Nat) (hbits:s.bits≤256) (hnb:(k0M root from_ upto s).1≠ .big):
 a0G prog 121 #[ptr a.maps,.int .i64 root,.int .i64 from_,.int .i64 upto] (RS W a s) (Ran fT (RS W a) a0H (k0M root from_ upto s)):=by
 obtain⟨ys,hv⟩:=a2M (show(m0B root from_ upto s).1≠ .big from c0I hnb);obtain⟨h1,h2⟩:=z2C 2 0 root s ys hv;exact h2Q W hW a s root from_ upto ys hv h1 (fun x hx=>by have:=h2 x hx;have:(8:Nat)^(2+1)=512:=rfl;omega) hbits hnb
abbrev h2R (b b1:Nat):a0E:=pts b (.cells #[ptr b1] 129 (0,0))
abbrev x1S (a:Ad) (b2 b3 b:Nat) (y:Ent):a0E:=b0E [f0G b2 a,h2R b3 b,s0M b y]
theorem a1J (W:World) (hW:i0L W) (a:Ad) (s:St) (b2 b3 b:Nat) (x:Ent) (fr upto:Nat) (h1:fr≤upto) (h2:upto≤5000) (hbits:s.bits≤256) (hnb:(e0T x fr (a0L ((upto-fr)*64)) s).1≠ .big):
 a0G prog 120 #[.int .i64 fr,.int .i64 upto,ptr b2,ptr b3] (RS W a s++ [f0G b2 a,h2R b3 b,s0M b x]) (Ran fT (RSo W a (x1S a b2 b3 b)) i0S (u0B (e0T x fr (a0L ((upto-fr)*64)) s))):=by
 have hr:=a1X ((upto-fr)*64) (by omega);have hzl:(a0L ((upto-fr)*64)).length=(upto-fr)*64:=by simp[a0L]
 rw[show((((upto-fr)*64:Nat):Int))=(((upto:Nat):Int)- ((fr:Nat):Int))*64 by omega]at hr;refine ns ?_;refine en func120 ntmps120 fun R w0=> ?_;refine v0O 8 (by rfl) (.soft 0 (.soft 1 (.soft 2 (.soft 3 (.soft 4 (.soft 5 (.soft 6 (.hard 7 .done)))))))) [f0G b2 a,h2R b3 b] Fol.o (by kernel_rfl) (by repeat (first|with_reducible exact b0T.bp|with_reducible apply b0T.then|with_reducible apply b0T.inBlock)) gSp ?_;simp only[List.take_succ_cons,List.take_zero];refine go 7 ?_;refine b0Y rfl (fun hok EE FF=> ?_);refine ns ?_;refine cg 0 (hr) ?_;refine go 1 ?_;refine fn (E:=EE) (F:=FF) (hok.put rfl) ?_;refine go 1 ?_;refine a1K ?_;refine a0U rfl Hb.o rfl (m1R W hW a s b x fr (a0L ((upto-fr)*64)) (by rw[hzl];omega) hbits hnb) gSp (fun v ⟨t',ox⟩ ho=> ?_) (fun e t ho=>by refine pn ?_;(obtain⟨t1,t2⟩:=t;obtain⟨hx,hm⟩:=r0B ho;obtain rfl:t2=none:=congrArg Prod.snd hx;have hm:_=(Out.err e,t1):=hm;simp only[RSo,List.cons_append,List.nil_append];exact b0W (by rw[hm];rfl) idh gSp));refine ns ?_;refine go 1 ?_;obtain⟨y,hx,hm⟩:=s0Z ho;obtain rfl:ox=some y:=congrArg Prod.snd hx;have hm:_=(Out.ok y,t'):=hm;simp only[RSo,List.cons_append,List.nil_append];refine b0F (L':=x1S a b2 b3 b y::(RS W a t'++ [R])) (fun w h=>b0M.2 ?_) ?_
 ·refine ns ?_;exact h.sub gSp
 ·refine ns ?_;exact fR (s:=(t',some y)) (by rw[hm];rfl)
section
theorem n2D (root:Int) (f u:Nat):PB (m0B root f u):=fun s=>by unfold m0B;split<;>rfl
theorem d2H {α β:Type} {f:β→α→M β} (hf: ∀b x,PB (f b x)): ∀(l:List α) (b:β),PB (s0G f b l)
 | [],b=>c0V _
 |x::l,b=>b0L (hf b x) fun b'=>d2H hf l b'
theorem s2A (root:Int) (f u:Nat):PB (k0M root f u):=b0L (n2D _ _ _) fun l=>d2H (fun r x=>o1X r x.1 0) l root
set_option maxRecDepth 8000
theorem i1I (W:World) (hW:i0L W) (a:Ad) (s:St) (b:Nat) (x:Ent) (fr upto:Nat) (h1:fr≤upto) (hbits:s.bits≤256) (hnb:(i0C x fr upto s).1≠ .big):
 a0G prog 71 #[ptr a.core,ptr b,.int .i64 fr,.int .i64 upto] (RS W a s++ [s0M b x]) (Ran fT (RSo W a (s0M b)) i0S (u0B (i0C x fr upto s))):=by
 have h2:upto≤5000:=by
  rcases Nat.lt_or_ge 5000 upto with h|h
  ·unfold i0C at hnb;rw[if_pos h]at hnb;exact absurd rfl hnb
  ·exact h
 have e0:i0C x fr upto s=(if upto/4≤(fr+3)/4 then e0T x fr (a0L ((upto-fr)*64))else
  a0B (e0T x fr (a0L (((fr+3)/4*4-fr)*64))) fun y=>a0B (k0M y.root ((fr+3)/4) (upto/4)) fun r=>e0T {y with root:=r} (upto/4*4) (a0L ((upto-upto/4*4)*64))) s:=by unfold i0C;rw[if_neg (by omega)]
 obtain⟨p,hp⟩: ∃p,p=(fr+3)/4:=⟨_,rfl⟩;obtain⟨q,hq⟩: ∃q,q=upto/4:=⟨_,rfl⟩;rw[←hp,←hq]at e0;refine ns ?_;refine en func71 ntmps71 fun R w0=> ?_;refine go 2 ?_;refine bx fun b4=> ?_;refine bx fun b5=> ?_;refine go 14 ?_;rw[show(((fr:Nat):Int)+4-1)/4=(p:Int) by omega];refine go 2 ?_;rw[show((upto:Nat):Int)/4=(q:Int) by omega];refine go 12 ?_;refine a0O rfl (fun hb20=> ?_) (fun hb20=> ?_)
 ·have hpq:q≤p:=by have h:=hb20;simp only[decide_eq_true_eq]at h;omega
  rw[if_pos hpq]at e0;refine go 5 ?_;refine a0U rfl Hb.o rfl (a1J W hW a s b4 b5 b x fr upto h1 h2 hbits (by rw[←e0];exact hnb)) gSp (fun v ⟨t',ox⟩ ho=> ?_) (fun e t ho=>by refine pn ?_;(obtain⟨t1,t2⟩:=t;obtain⟨hx,hm⟩:=r0B ho;obtain rfl:t2=none:=congrArg Prod.snd hx;have hm:_=(Out.err e,t1):=hm;simp only[RSo,List.cons_append,List.nil_append];exact b0W (by rw[e0,hm];rfl) idh gSp));refine ns ?_;refine go 1 ?_;obtain⟨y,hx,hm⟩:=s0Z ho;obtain rfl:ox=some y:=congrArg Prod.snd hx;have hm:_=(Out.ok y,t'):=hm;simp only[RSo,List.cons_append,List.nil_append];refine go 1 ?_;refine l0C (show Fnd _ (x1S a b4 b5 b y) _ from gFd) ?_;refine ns ?_;exact rR idh (s:=(t',some y)) (by rw[e0,hm];rfl)
 ·have hpq: ¬q≤p:=by have h:=hb20;simp only[decide_eq_false_iff_not]at h;omega
  rw[if_neg hpq]at e0;have hnb1:=hnb;rw[e0]at hnb1;refine go 8 ?_;rw[show((p:Nat):Int)*4=((p*4:Nat):Int) by omega];refine a0U rfl Hb.o rfl (a1J W hW a s b4 b5 b x fr (p*4) (by omega) (by omega) hbits (c0I hnb1)) gSp (fun v ⟨t',ox⟩ ho=> ?_) (fun e t ho=>by refine pn ?_;(obtain⟨t1,t2⟩:=t;obtain⟨hx,hm⟩:=r0B ho;obtain rfl:t2=none:=congrArg Prod.snd hx;have hm:_=(Out.err e,t1):=hm;simp only[RSo,List.cons_append,List.nil_append];exact b0W (by rw[e0,a0F hm];rfl) idh gSp));refine ns ?_;refine go 1 ?_;obtain⟨y,hx,hm⟩:=s0Z ho;obtain rfl:ox=some y:=congrArg Prod.snd hx;have hm:_=(Out.ok y,t'):=hm;have hpb:=x1F (a0L ((p*4-fr)*64)).length x fr (a0L ((p*4-fr)*64)) s;rw[show j0S (a0L ((p*4-fr)*64)).length x fr (a0L ((p*4-fr)*64)) s=(Out.ok y,t')from hm]at hpb;have hpb:t'.bits=s.bits:=hpb;rw[a0A hm]at e0;have hnb2:=p0H hnb1 hm;simp only[RSo,List.cons_append,List.nil_append];refine go 2 ?_;refine l0C (show Fnd _ (x1S a b4 b5 b y) _ from gFd) ?_;refine ns ?_;refine a1U (.soft 0 (.soft 1 (.soft 2 (.soft 3 (.soft 4 (.soft 5 (.soft 6 (.soft 7 (.soft 9 (.soft 10 (.hard 8 (.hard 11 (.soft 12 (.soft 13 (.hard 14 .done))))))))))))))) [HLX a,mpC a,f0G b4 a,h2R b5 b] Fol.o (by kernel_rfl) (by repeat (first|with_reducible exact b0T.bp|with_reducible apply b0T.then|with_reducible apply b0T.inBlock)) (g0T gSp) ?_;refine go 4 ?_;refine d0A rfl (r0T Sc.o rfl gFd (fun _ _=>rfl)) ?_;refine go 6 ?_;refine a0D (b0N Sc.o rfl rfl) ?_;refine go 1 ?_;refine h0B (g0T gSp) ?_;refine go 1 ?_;refine a0U rfl Hb.o rfl (a2N W hW a t' y.root p q (by omega) (c0I hnb2)) gSp (fun r t2 ho=> ?_) (fun e t ho=>by refine pn ?_;(exact b0W (show u0B (i0C x fr upto s)=(.err e,(t,none)) by rw[e0,a0F ho];rfl) idh gSp));refine ns ?_;refine go 1 ?_;refine h0B (g0T gSp) ?_;have hpb2:=s2A y.root p q t';rw[ho]at hpb2;have hpb2:t2.bits=t'.bits:=hpb2;have e1:=e0.trans (a0A ho);have hnb3:=p0H hnb2 ho;clear ho;refine go 3 ?_;refine d0T (cs':=f0U {y with root:=r}) Sz.o rfl rfl rfl (by rfl) rfl ?_;refine go 1 ?_;refine h0B (g0T gSp) ?_;refine go 6 ?_;rw[show((q:Nat):Int)*4=((q*4:Nat):Int) by omega];refine go 1 ?_;refine a0U rfl Hb.o rfl (a1J W hW a t2 b4 b5 b {y with root:=r} (q*4) upto (by omega) h2 (by omega) hnb3) gSp (fun v2 ⟨t4,oz⟩ ho=> ?_) (fun e t ho=>by refine pn ?_;(obtain⟨t5,t6⟩:=t;obtain⟨hx,hm⟩:=r0B ho;obtain rfl:t6=none:=congrArg Prod.snd hx;have hm:_=(Out.err e,t5):=hm;simp only[RSo,List.cons_append,List.nil_append];exact b0W (by rw[e1,hm];rfl) idh gSp));refine ns ?_;refine go 1 ?_;obtain⟨z,hx2,hm2⟩:=s0Z ho;obtain rfl:oz=some z:=congrArg Prod.snd hx2;have hm2:_=(Out.ok z,t4):=hm2;simp only[RSo,List.cons_append,List.nil_append];refine b0F (L':=s0M b z::(RS W a t4++ [R])) (fun w h=> ?_) ?_
  ·have h1:=h.sub (show b0A _ (x1S a b4 b5 b z::(RS W a t4++ [R])) _ from by simp only[List.cons_append,List.nil_append];exact gSp);have h2:=b0M.1 h1;simp only[List.cons_append,List.nil_append]at h2 ⊢;exact h2.sub gSp
  ·refine ns ?_;exact fR (s:=(t4,some z)) (by rw[e1,hm2];rfl)
end
theorem h2S (W:World) (a:Ad) (s:St) (root:Int) (hbits:s.bits≤256) (hnb:(v0D root 2 s).1≠ .big):a0G prog 124 #[ptr a.maps,.int .i64 root] (RS W a s) (Ran fT (RS W a) i0S (v0D root 2 s)):=by
 refine en func124 ntmps124 fun R w0=> ?_;refine go 3 ?_;refine a0U rfl Hb.o rfl (f1P W a 2 (by omega) s root hbits hnb) gSp (fun u t ho=> ?_) (fun e t ho=>by refine pn ?_;exact kx (ho));refine ns ?_;refine go 1 ?_;exact fR ho
theorem x1T {s:St} {k:Int} (h:(o0H k s).1≠ .big):s.log.length<1000000000:=t0W h fun h'=>by simp[o0H,a0B,back,h']
theorem a2O {s:St} (k:Int) (h:s.log.length<1000000000):o0H k s=(.ok (),{s with log:=bk s.depth s.log (.vols k (a0C k s.vols)),vols:=b0D k s.vols}):=by
 simp[o0H,a0B,back,show ¬1000000000≤s.log.length by omega]
abbrev idA0 (a:Ad) (b0 b1:Nat) (id:Int):a0E:=b0E [f0G b0 a,j0V b1 id]
theorem x1U (W:World) (a:Ad) (b0 b1:Nat) (id:Int) (bits:Nat) (hbits:bits≤256):
 r0U W a (idA0 a b0 b1 id) (fun _:Unit=>b0E []) 122 [ptr b0,ptr b1] bits (q0C id):=by
 intro s hsb hnb;have e0:q0C id s=a0B (find id) (fun x=>a0B (o0H id) fun _=>v0D x.root 2) s:=rfl;refine ns ?_;refine en func122 ntmps122 fun R w0=> ?_;refine l0C (show Fnd _ (b0E [f0G b0 a,j0V b1 id]) _ from gFd) ?_;refine ns ?_;refine go 4 ?_;refine a0U rfl Hb.o rfl (v0X W a s id) gSp (fun x t ho=> ?_) (fun e t ho=>by refine pn ?_;(refine b0F (fun w h=>c0C h) ?_;exact b0W (c0S (e0.trans (a0F ho))) idh gSp));refine ns ?_;have hts:t=s:=by have h:=ho;unfold find at h;split at h<;>cases h;rfl
 rw[hts]at ho ⊢;have e1:=e0.trans (a0A ho);clear ho hts;have hn:=x1T (show(o0H id s).1≠ .big by rw[e1]at hnb;exact c0I hnb);rw[a0A (a2O id hn)]at e1;refine al fun b2=> ?_;refine go 4 ?_;refine e0C gFd fun by_ gv gc o hg hok=> ?_;simp only[d0B,o0F,c0R,List.cons_append,List.nil_append];refine tl 12 ?_;refine ce 13 (v1E a by_ o s.log s.depth s.vols id hn) ?_;rintro e _;refine ns ?_;refine go 1 ?_;refine b0F (c0W (s:= {s with log:=bk s.depth s.log (.vols id (a0C id s.vols)),vols:=b0D id s.vols}) hg hok gSp) ?_;refine go 1 ?_;refine tl 6 ?_;refine go 3 ?_;refine b0V (j0R Sc.o rfl gFd rfl) ?_;refine go 3 ?_;refine a0U rfl Hb.o rfl (h2S W a {s with log:=bk s.depth s.log (.vols id (a0C id s.vols)),vols:=b0D id s.vols} x.root (by show s.bits≤256;omega) (by rw[e1]at hnb;exact hnb)) gSp (fun v t2 ho=> ?_) (fun e t ho=>by refine pn ?_;(refine b0F (fun w h=>c0C h) ?_;exact b0W (c0S (e1.trans ho)) idh gSp));refine ns ?_;refine go 1 ?_;refine b0F (fun w h=>c0C h) ?_;exact fR (s:=(t2,.done ())) (m0W (e1.trans ho))
theorem x1V (W:World) (a:Ad) (s:St) (id:Int) (hbits:s.bits≤256) (hvl:s.vols.length≤1000) (hnb:(q0W id s).1≠ .big):
 a0G prog 74 #[ptr a.core,.int .u32 id] (RS W a s) (Ran fT (RS W a) a0H (q0W id s)):=by
 have e0:q0W id s=a0B (i0K (e0M 0 (q0C id))) (fun r=>ret r.1) s:=rfl;refine en func74 ntmps74 fun R w0=> ?_;refine go 2 ?_;refine bx fun b2=> ?_;refine bx fun b3=> ?_;refine go 7 ?_;refine e0X (l0O (N:= [f0G b2 a,j0V b3 id]) gSp) ?_;refine a0U rfl Hb.o rfl (w0A W a (idA0 a b2 b3 id) (fun _:Unit=>b0E []) 0 122 [ptr b2,ptr b3] (q0C id) s Hb.o (by omega) hvl (x1U W a b2 b3 id s.bits hbits) (by rw[e0]at hnb;exact c0I hnb)) gSp (fun e ⟨t,oc⟩ ho=> ?_) (fun e t ho=>by refine pn ?_;(exact(m0T ho).elim));refine ns ?_;refine go 3 ?_;exact rR idh (e0.trans (a0A (t0A ho)))
abbrev x1W (a:Ad) (b0 b1 b2:Nat) (id size:Int):a0E:=b0E [f0G b0 a,j0V b1 id,f0W b2 size]
theorem x1X (W:World) (hW:i0L W) (a:Ad) (b0 b1 b2:Nat) (id size:Int) (bits:Nat) (hbits:bits≤256):
 r0U W a (x1W a b0 b1 b2 id size) (fun _:Unit=>b0E []) 72 [ptr b0,ptr b1,ptr b2] bits (m0C id size):=by
 intro s hsb hnb;have e0:m0C id size s=a0B (l0Z id) (fun x=>if size<1∨2048<size then n0L 4 else a0B (if size<x.size then i0C x size.toNat x.size.toNat else ret x) fun y=>m0H {y with size:=size}) s:=rfl;refine ns ?_;refine en func72 ntmps72 fun R w0=> ?_;refine l0C (show Fnd _ (b0E [f0G b0 a,j0V b1 id,f0W b2 size]) _ from gFd) ?_;refine ns ?_;refine go 4 ?_;refine a0U rfl Hb.o rfl (d1K W a s id) gSp (fun x t ho=> ?_) (fun e t ho=>by refine pn ?_;(refine b0F (fun w h=>c0C h) ?_;exact b0W (c0S (e0.trans (a0F ho))) idh gSp));refine ns ?_;have hpb:=k1G id s;rw[ho]at hpb;have hpb:t.bits=s.bits:=hpb;have e1:=e0.trans (a0A ho);clear ho;refine al fun b3=> ?_;refine go 5 ?_;by_cases hs1:size<1
 ·refine go 10 ?_;refine b0U (fun w h=>c0C h) ?_;refine go 1 ?_;refine c0A rfl Hb.o rfl (c0M 4) gSp ?_;refine ns ?_;refine pn ?_;exact b0W (c0S (e1.trans (by rw[if_pos (.inl hs1)];rfl))) idh gSp
 ·refine go 9 ?_;refine a0O rfl (fun hb12=> ?_) (fun hb12=> ?_)
  ·have hs2:2048<size:=by have h:=hb12;simp only[decide_eq_true_eq]at h;exact h
   refine b0U (fun w h=>c0C h) ?_;refine go 1 ?_;refine c0A rfl Hb.o rfl (c0M 4) gSp ?_;refine ns ?_;refine pn ?_;exact b0W (c0S (e1.trans (by rw[if_pos (.inr hs2)];rfl))) idh gSp
  ·have hs2: ¬2048<size:=by have h:=hb12;simp only[decide_eq_false_iff_not]at h;exact h
   rw[if_neg (by omega)]at e1;refine go 11 ?_;refine a0O rfl (fun hb17=> ?_) (fun hb17=> ?_)
   ·have hlt:size<x.size:=of_decide_eq_true hb17;rw[if_pos hlt]at e1;obtain⟨k,rfl⟩: ∃k:Nat,size=k:=⟨size.toNat,by omega⟩;obtain⟨m,hm⟩: ∃m:Nat,x.size=m:=⟨x.size.toNat,by omega⟩;rw[hm,Int.toNat_natCast,Int.toNat_natCast]at e1;refine go 5 ?_;rw[hm];refine a0U rfl Hb.o rfl (i1I W hW a t b3 x k m (by omega) (by omega) (by rw[e1]at hnb;exact c0I hnb)) gSp (fun v ⟨t3,ox⟩ ho=> ?_) (fun e t ho=>by refine pn ?_;(obtain⟨t1,t2⟩:=t;obtain⟨hx,hm⟩:=r0B ho;obtain rfl:t2=none:=congrArg Prod.snd hx;have hm:_=(Out.err e,t1):=hm;simp only[RSo,List.cons_append,List.nil_append];have e4:m0C id (k:Int) s=(.err e,t1):=e1.trans (a0F hm);refine b0F (fun w h=>c0C h) ?_;exact b0W (c0S e4) idh gSp));refine ns ?_;refine go 1 ?_;obtain⟨y,hx,hm4⟩:=s0Z ho;obtain rfl:ox=some y:=congrArg Prod.snd hx;have hm4:_=(Out.ok y,t3):=hm4;simp only[RSo,List.cons_append,List.nil_append];have e3:m0C id (k:Int) s=m0H {y with size:=(k:Int)} t3:=e1.trans (a0A hm4);refine go 5 ?_;refine d0T (cs':=f0U {y with size:=(k:Int)}) Sz.o rfl rfl rfl (by rfl) rfl ?_;refine go 5 ?_;refine a0U rfl Hb.o rfl (v0Y W a t3 {y with size:=(k:Int)} (by rw[e3]at hnb;exact hnb)) gSp (fun v2 t4 ho=> ?_) (fun e t ho=>by refine pn ?_;(refine b0F (fun w h=>c0C h) ?_;exact b0W (c0S (e3.trans ho)) idh gSp));refine ns ?_;refine go 1 ?_;refine b0F (fun w h=>c0C h) ?_;exact fR (s:=(t4,.done ())) (m0W (e3.trans ho))
   ·have hlt: ¬size<x.size:=of_decide_eq_false hb17;rw[if_neg hlt,a0A (show ret x t=(.ok x,t)from rfl)]at e1;have e3:m0C id size s=m0H {x with size:=size} t:=e1;refine go 6 ?_;refine d0T (cs':=f0U {x with size:=size}) Sz.o rfl rfl rfl (by rfl) rfl ?_;refine go 5 ?_;refine a0U rfl Hb.o rfl (v0Y W a t {x with size:=size} (by rw[e3]at hnb;exact hnb)) gSp (fun v2 t4 ho=> ?_) (fun e t ho=>by refine pn ?_;(refine b0F (fun w h=>c0C h) ?_;exact b0W (c0S (e3.trans ho)) idh gSp));refine ns ?_;refine go 1 ?_;refine b0F (fun w h=>c0C h) ?_;exact fR (s:=(t4,.done ())) (m0W (e3.trans ho))
theorem x1Y (W:World) (hW:i0L W) (a:Ad) (s:St) (id size:Int) (hbits:s.bits≤256) (hvl:s.vols.length≤1000) (hnb:(q0X id size s).1≠ .big):
 a0G prog 23 #[ptr a.core,.int .u32 id,.int .i64 size] (RS W a s) (Ran fT (RS W a) a0H (q0X id size s)):=by
 have e0:q0X id size s=a0B (i0K (e0M 0 (m0C id size))) (fun r=>ret r.1) s:=rfl;refine en func23 ntmps23 fun R w0=> ?_;refine go 2 ?_;refine bx fun b3=> ?_;refine bx fun b4=> ?_;refine bx fun b5=> ?_;refine go 7 ?_;refine e0X (l0O (N:= [f0G b3 a,j0V b4 id,f0W b5 size]) gSp) ?_;refine a0U rfl Hb.o rfl (w0A W a (x1W a b3 b4 b5 id size) (fun _:Unit=>b0E []) 0 72 [ptr b3,ptr b4,ptr b5] (m0C id size) s Hb.o (by omega) hvl (x1X W hW a b3 b4 b5 id size s.bits hbits) (by rw[e0]at hnb;exact c0I hnb)) gSp (fun e ⟨t,oc⟩ ho=> ?_) (fun e t ho=>by refine pn ?_;(exact(m0T ho).elim));refine ns ?_;refine go 3 ?_;exact rR idh (e0.trans (a0A (t0A ho)))
abbrev n2E (a:Ad) (b0 b1 b2 b3:Nat) (id at_ n:Int):a0E:=b0E [f0G b0 a,j0V b1 id,f0W b2 at_,f0W b3 n]
theorem h2T (W:World) (hW:i0L W) (a:Ad) (b0 b1 b2 b3:Nat) (id at_ n:Int) (bits:Nat) (hbits:bits≤256):
 r0U W a (n2E a b0 b1 b2 b3 id at_ n) (fun _:Unit=>b0E []) 70 [ptr b0,ptr b1,ptr b2,ptr b3] bits (r0Q id at_ n):=by
 intro s hsb hnb;have e0:r0Q id at_ n s=a0B (l0Z id) (fun x=>a0B (h0J x at_ n) fun _=>a0B (i0C x at_.toNat (at_+n).toNat) m0H) s:=rfl;refine ns ?_;refine en func70 ntmps70 fun R w0=> ?_;refine l0C (show Fnd _ (b0E [f0G b0 a,j0V b1 id,f0W b2 at_,f0W b3 n]) _ from gFd) ?_;refine ns ?_;refine go 4 ?_;refine a0U rfl Hb.o rfl (d1K W a s id) gSp (fun x t ho=> ?_) (fun e t ho=>by refine pn ?_;(refine b0F (fun w h=>c0C h) ?_;exact b0W (c0S (e0.trans (a0F ho))) idh gSp));refine ns ?_;have hpb:=k1G id s;rw[ho]at hpb;have hpb:t.bits=s.bits:=hpb;have e1:=e0.trans (a0A ho);clear ho;refine al fun b4=> ?_;refine go 8 ?_;refine a0U rfl Hb.o rfl (a1F W a t x at_ n (by rw[e1]at hnb;exact c0I hnb)) gSp (fun v t2 ho=> ?_) (fun e t ho=>by refine pn ?_;(refine b0F (fun w h=>c0C h) ?_;exact b0W (c0S (e1.trans (a0F ho))) idh gSp));refine ns ?_;refine go 1 ?_;obtain⟨h1,h2,h3,h4,h5⟩:=w0V ho;rw[h1]at ho ⊢;have e2:=e1.trans (a0A ho);clear ho;obtain⟨k,rfl⟩: ∃k:Nat,at_=k:=⟨at_.toNat,by omega⟩;obtain⟨m,rfl⟩: ∃k:Nat,n=k:=⟨n.toNat,by omega⟩;rw[Int.toNat_natCast,show(((k:Nat):Int)+((m:Nat):Int)).toNat=k+m by omega]at e2;refine go 8 ?_;rw[show((k:Nat):Int)+((m:Nat):Int)=((k+m:Nat):Int) by omega];refine a0U rfl Hb.o rfl (i1I W hW a t b4 x k (k+m) (by omega) (by omega) (by rw[e2]at hnb;exact c0I hnb)) gSp (fun v ⟨t3,ox⟩ ho=> ?_) (fun e t ho=>by refine pn ?_;(obtain⟨t1,t2⟩:=t;obtain⟨hx,hm⟩:=r0B ho;obtain rfl:t2=none:=congrArg Prod.snd hx;have hm:_=(Out.err e,t1):=hm;simp only[RSo,List.cons_append,List.nil_append];have e4:r0Q id (k:Int) (m:Int) s=(.err e,t1):=e2.trans (a0F hm);refine b0F (fun w h=>c0C h) ?_;exact b0W (c0S e4) idh gSp));refine ns ?_;refine go 1 ?_;obtain⟨y,hx,hm⟩:=s0Z ho;obtain rfl:ox=some y:=congrArg Prod.snd hx;have hm:_=(Out.ok y,t3):=hm;simp only[RSo,List.cons_append,List.nil_append];have e3:r0Q id (k:Int) (m:Int) s=m0H y t3:=e2.trans (a0A hm);refine go 4 ?_;refine a0U rfl Hb.o rfl (v0Y W a t3 y (by rw[e3]at hnb;exact hnb)) gSp (fun v t4 ho=> ?_) (fun e t ho=>by refine pn ?_;(refine b0F (fun w h=>c0C h) ?_;exact b0W (c0S (e3.trans ho)) idh gSp));refine ns ?_;refine go 1 ?_;refine b0F (fun w h=>c0C h) ?_;exact fR (s:=(t4,.done ())) (m0W (e3.trans ho))
theorem h2U (W:World) (hW:i0L W) (a:Ad) (s:St) (id at_ n:Int) (hbits:s.bits≤256) (hvl:s.vols.length≤1000) (hnb:(v0U id at_ n s).1≠ .big):
 a0G prog 22 #[ptr a.core,.int .u32 id,.int .i64 at_,.int .i64 n] (RS W a s) (Ran fT (RS W a) a0H (v0U id at_ n s)):=by
 have e0:v0U id at_ n s=a0B (i0K (e0M 0 (r0Q id at_ n))) (fun r=>ret r.1) s:=rfl;refine en func22 ntmps22 fun R w0=> ?_;refine go 2 ?_;refine bx fun b4=> ?_;refine bx fun b5=> ?_;refine bx fun b6=> ?_;refine bx fun b7=> ?_;refine go 7 ?_;refine e0X (l0O (N:= [f0G b4 a,j0V b5 id,f0W b6 at_,f0W b7 n]) gSp) ?_;refine a0U rfl Hb.o rfl (w0A W a (n2E a b4 b5 b6 b7 id at_ n) (fun _:Unit=>b0E []) 0 70 [ptr b4,ptr b5,ptr b6,ptr b7] (r0Q id at_ n) s Hb.o (by omega) hvl (h2T W hW a b4 b5 b6 b7 id at_ n s.bits hbits) (by rw[e0]at hnb;exact c0I hnb)) gSp (fun e ⟨t,oc⟩ ho=> ?_) (fun e t ho=>by refine pn ?_;(exact(m0T ho).elim));refine ns ?_;refine go 3 ?_;exact rR idh (e0.trans (a0A (t0A ho)))
theorem a2P (W:World) (a:Ad) (s:St) (id:Int) (hvl:s.vols.length≤1000) (hnb:(h0S id false s).1≠ .big):a0G prog 44 #[ptr a.core,.int .u32 id] (RS W a s) (Ran fT (RS W a) z0M (h0S id false s)):=by
 refine en func44 ntmps44 fun R w0=> ?_;refine go 10 ?_;refine a0U rfl Hb.o rfl (m1W W a s id false hvl hnb) gSp (fun p t ho=> ?_) (fun e t ho=>by refine pn ?_;exact kx (ho));refine ns ?_;refine go 6 ?_;exact rR idh ho
theorem a2Q (W:World) (a:Ad) (s:St) (n:Int):a0G prog 47 #[ptr a.core,.int .u32 n] (RS W a s) (a0T (.tuple #[]) (RS W a {s with epoch:=n})):=by
 refine en func47 ntmps47 fun R w0=> ?_;refine e0C gFd fun by_ gv gc o hg hok=> ?_;simp only[d0B,o0F,c0R,List.cons_append,List.nil_append];refine go 7 ?_;refine b0F (c0W (s:= {s with epoch:=n}) hg hok gSp) (d0Q rfl rfl gSp)
theorem n1F (W:World) (a:Ad) (s:St):a0G prog 33 #[ptr a.core] (RS W a s) (a0T (.int .u32 s.next) (RS W a s)):=by
 refine en func33 ntmps33 fun R w0=> ?_;refine go 10 ?_;refine a0D (j0R Sc.o rfl gFd rfl) ?_;refine go 3 ?_;exact rG
section
theorem n2F (W:World) (a:Ad) (s:St) (root:Int):a0G prog 52 #[ptr a.maps,.int .i64 root] (RS W a s) (Ran fT (RS W a) d0X (i1Y root s)):=by
 have e0:i1Y root s=a0B (Go.Sb.load root 2) (fun n=>ret n.sum) s:=rfl;refine en func52 ntmps52 fun R w0=> ?_;refine go 2 ?_;refine al fun b4=> ?_;refine go 6 ?_;refine a0U rfl Hb.o rfl (p0F W a s root 2) gSp (fun x t ho=> ?_) (fun e t ho=>by refine pn ?_;exact kx ((by rw[e0];exact a0F ho)));refine ns ?_;have hln:=(h0Q ho).2;have e1:=e0.trans (a0A ho);have hs2:(x.sum.map a0Q).toArray.size=32:=by rw[List.size_toArray,List.length_map,hln.sum]
 refine a0D (n0S (v:=(x.sum.map a0Q).toArray) F.fa182_2 rfl (c2O hln)) ?_;refine a0M Sz.o rfl rfl hs2 (fun x hx=>by simp at hx;obtain⟨_,_,rfl⟩:=hx;rfl) (by rw[hs2];simp[Value.cells]) (a0N (by rw[hs2];simp[Value.cells])) ?_;refine go 2 ?_;exact k0A e1 idh (RV.agg Ag.o rfl (by rw[hs2];omega) (a0I hs2) RV.nil) rfl gSp
theorem s2B {root:Int} {s t:St} {v:B} (h:i1Y root s=(.ok v,t)):v.length=32:=by
 unfold i1Y at h;cases hg:Go.Sb.load root 2 s with
 |mk o u=>
  cases o with
  |ok x=>rw[a0A hg]at h;cases h;exact(h0Q hg).2.sum
  |err e=>rw[a0F hg]at h;cases h
  |big=>unfold a0B at h;rw[hg]at h;cases h
abbrev y0T (b:Nat) (v:B):a0E:=pts b (.cells (v.map a0Q).toArray 44 (0,0))
abbrev s2S (a:Ad) (b0 b1 b2:Nat) (id:Int):a0E:=b0E [f0G b0 a,j0V b1 id,y0T b2 (a0L 32)]
theorem h2V (W:World) (a:Ad) (b0 b1 b2:Nat) (id:Int) (bits:Nat):
 r0U W a (s2S a b0 b1 b2 id) (fun v:B=>b0E [m0X (v.length=32),y0T b2 v]) 51 [ptr b0,ptr b1,ptr b2] bits (e1P id):=by
 intro s hsb hnb;have e0:e1P id s=a0B (find id) (fun x=>i1Y x.root) s:=rfl;refine ns ?_;refine en func51 ntmps51 fun R w0=> ?_;refine l0C (show Fnd _ (b0E [f0G b0 a,j0V b1 id,y0T b2 (a0L 32)]) _ from gFd) ?_;refine ns ?_;refine a1U (.soft 0 (.soft 1 (.soft 2 (.soft 3 (.soft 4 (.soft 5 (.hard 6 (.soft 7 (.hard 8 (.hard 9 .done)))))))))) [HLX a,f0G b0 a,j0V b1 id] Fol.o (by kernel_rfl) (by repeat (first|with_reducible exact b0T.bp|with_reducible apply b0T.then|with_reducible apply b0T.inBlock)) (g0T gSp) ?_;refine go 3 ?_;refine d0A rfl (r0T Sc.o rfl gFd (fun _ _=>rfl)) ?_;refine go 3 ?_;refine a0U rfl Hb.o rfl (v0X W a s id) gSp (fun x t ho=> ?_) (fun e t ho=>by refine pn ?_;(refine b0F (fun w h=>c0C h) ?_;exact b0W (c0S (e0.trans (a0F ho))) idh gSp));refine ns ?_;refine go 1 ?_;refine h0B (g0T gSp) ?_;have e1:=e0.trans (a0A ho);clear ho;refine d0A rfl (s2U F.fs50_4 rfl rfl) ?_;refine go 1 ?_;refine a0U rfl Hb.o rfl (n2F W a t x.root) gSp (fun v t2 ho=> ?_) (fun e t ho=>by refine pn ?_;(refine b0F (fun w h=>c0C h) ?_;exact b0W (c0S (e1.trans ho)) idh gSp));refine ns ?_;refine go 1 ?_;refine h0B (g0T gSp) ?_;refine go 1 ?_;have hvl:=s2B ho;have hs2:(v.map a0Q).toArray.size=32:=by rw[List.size_toArray,List.length_map,hvl]
 refine a0M Sz.o rfl rfl hs2 (fun x hx=>by simp at hx;obtain⟨_,_,rfl⟩:=hx;rfl) (by rw[hs2];simp[a0L]) (a0N (by rw[hs2];simp[a0L])) ?_;refine go 1 ?_;refine h0B (g0T gSp) ?_;refine go 1 ?_;refine b0F (L':=b0E [m0X (v.length=32),y0T b2 v]::(RS W a t2++ [R])) (fun w h=>b0M.2 ?_) ?_
 ·refine ns ?_;exact n0V hvl w (h.sub gSp)
 ·exact fR (s:=(t2,.done v)) (m0W (e1.trans ho))
def s2T (p:B×Int):Value:= .tuple #[d0X p.1,.int .i64 p.2]
set_option maxRecDepth 8000
theorem n2G (W:World) (a:Ad) (s:St) (id:Int) (hnb:(w0M id s).1≠ .big):a0G prog 13 #[ptr a.core,.int .u32 id] (RS W a s) (Ran fT (RS W a) s2T (w0M id s)):=by
 have e0:w0M id s=a0B (i0K (e1P id)) (fun r=>if r.1=0 then ret (b1Z (a0L 32) r.2,0)else fun s=>(.big,s)) s:=rfl;have hn:=d1L (show(i0K (e1P id) s).1≠ .big by rw[e0]at hnb;exact c0I hnb);refine en func13 ntmps13 fun R w0=> ?_;refine go 2 ?_;refine bx fun b2=> ?_;refine bx fun b3=> ?_;refine al fun b4=> ?_;refine go 5 ?_;refine al fun b6=> ?_;refine go 7 ?_;refine a0D (j0R Sc.o rfl gFd rfl) ?_;refine go 1 ?_;refine e0X (l0O (N:= [f0G b2 a,j0V b3 id,y0T b6 (a0L 32)]) gSp) ?_;refine a0U rfl Hb.o rfl (t0V (C:=Car B) W a (u0Y (s2S a b2 b3 b6 id) (fun v:B=>b0E [m0X (v.length=32),y0T b6 v])) 51 [ptr b2,ptr b3,ptr b6] (f0P (e1P id)) s .start Hb.o hn (fun h=>h2V W a b2 b3 b6 id s.bits {s with depth:=s.depth+1} rfl (f1W.1 h))) gSp (fun e ⟨t,oc⟩ ho=> ?_) (fun e t ho=>by refine pn ?_;(exact(m0T ho).elim));refine ns ?_;refine go 2 ?_;have e1:=e0.trans (a0A (t0A ho));refine go 2 ?_;have hz:e=0:=by
  by_cases h:e=0
  ·exact h
  ·rw[e1,if_neg h]at hnb;exact absurd rfl hnb
 obtain⟨y,rfl,_⟩| ⟨_,h9⟩:=h1J ho
 rotate_left
 ·exact(h9 hz).elim
 simp only[u0Y];subst hz;refine l0C (show Fnd _ (b0E [m0X (y.length=32),y0T b6 y]) _ from gFd) ?_;refine ns ?_;refine n0N (p:=y.length=32) gFd fun hyl=> ?_;have hs2:(y.map a0Q).toArray.size=32:=by rw[List.size_toArray,List.length_map,hyl]
 refine go 1 ?_;refine a0D (a0K Ag.o rfl (by rw[hs2];omega) (a0I hs2)) ?_;refine go 1 ?_;refine a0M Sz.o rfl rfl hs2 (fun x hx=>by simp at hx;obtain⟨_,_,rfl⟩:=hx;rfl) (by rw[hs2];simp[Value.cells]) (a0N (by rw[hs2];simp[Value.cells])) ?_;refine go 3 ?_;exact k0A (by rw[e1,if_pos rfl];rfl) idh (RV.agg Ag.o rfl (by rw[hs2];omega) (a0I hs2) (RV.tmp rfl RV.nil)) rfl gSp
end
section
section
variable {W:World} {s t:St}
theorem h2W {id e:Int} (hf:Fit s) (h:q0W id s=(.ok e,t)) (a:Ad):a0G prog 74 #[ptr a.core,.int .u32 id] (RS W a s) (a0T (a0H e) (RS W a t)):=by
 have k:=x1V W a s id hf.1 hf.2 (by rw[h];simp);rw[h]at k;exact k.ran_ok
theorem h2X (hW:i0L W) {id n e:Int} (hf:Fit s) (h:q0X id n s=(.ok e,t)) (a:Ad):a0G prog 23 #[ptr a.core,.int .u32 id,.int .i64 n] (RS W a s) (a0T (a0H e) (RS W a t)):=by
 have k:=x1Y W hW a s id n hf.1 hf.2 (by rw[h];simp);rw[h]at k;exact k.ran_ok
theorem s2C (hW:i0L W) {id at_ n e:Int} (hf:Fit s) (h:v0U id at_ n s=(.ok e,t)) (a:Ad):a0G prog 22 #[ptr a.core,.int .u32 id,.int .i64 at_,.int .i64 n] (RS W a s) (a0T (a0H e) (RS W a t)):=by
 have k:=h2U W hW a s id at_ n hf.1 hf.2 (by rw[h];simp);rw[h]at k;exact k.ran_ok
theorem n2H {id:Int} {p:Int×Int} (hf:Fit s) (h:h0S id false s=(.ok p,t)) (a:Ad):a0G prog 44 #[ptr a.core,.int .u32 id] (RS W a s) (a0T (z0M p) (RS W a t)):=by
 have k:=a2P W a s id hf.2 (by rw[h];simp);rw[h]at k;exact k.ran_ok
end
def h2Y (ki ai at_ n:Int) (l:B):Value:= .agg #[.int .i64 ki,.int .i64 ai,.int .i64 at_,.int .i64 n,b0C l]
def q0K (l:B) (n:Int):B:=o0U l++if n%16=9 then [120]else []
theorem r1N (l:B) (n:Int):(q0K l n).length≤769∧((q0K l n).length%64=0→(q0K l n).length≤768):=by
 have h:=f1X l;unfold q0K;rw[List.length_append];split
 ·simp only[List.length_singleton];omega
 ·simp only[List.length_nil];omega
def x1Z (e f:Int) (x:b0B×Rx):Value:= .tuple #[.int .i64 e,e0W x.2,.int .i64 f]
end
end Go.Proofs.Q
