/- Part of the proof; no statement of its own. -/
import Derived.Test.YtpinhnikemamjaaGreatDoorR18
import Derived.Test.YtpinhnikemamjaaGreatDoorR08
import Derived.Test.YtpinhnikemamjaaGreatDoorR05
import Derived.Test.YtpinhnikemamjaaGreatDoorR07
set_option linter.all false
set_option maxRecDepth 4000
set_option maxHeartbeats 4000000
attribute [local irreducible] Go.Sl.a0O Go.Sl.OW Go.Sl.CW Go.Sl.OS Go.Sl.OM Go.Sl.OMf Go.Sl.KM
namespace Go.Proofs.Q
open Go.Sl Go.Sb Tryz
def gst (s:Nat):Value:= .int .i64 s
def l0F (fr bl:Nat) (l:List Nat):List Value:= [.int .i64 fr,.slice (some ⟨bl,0,none⟩) l.length l.length,.int .i64 (l.count 0),.int .i64 (l.count 1),.int .i64 (l.count 2)]
abbrev gm (b bl fr:Nat) (l:List Nat):List a0C:= [pts b (.cells (l0F fr bl l).toArray 192 (0,0)),pts bl (.cells (l.map gst).toArray 3 (0,0))]
theorem k1P {l:List Nat} {i k s:Nat} (hs:l[i]? =some s) (hk:k=i):nth (l.map gst) k=some (.int .i64 s):=by
 subst hk;rw[d0Y];simp[hs,gst]
theorem d1R (b bl fr i s what:Nat) (l:List Nat) (at_:Int) (hat:at_=fr+i) (hs:l[i]? =some s) (hs3:s<3) (hw3:what<3) (hfr:fr≤5000) (hl:l.length≤5000):
 a0F prog 146 #[.pointer (some ⟨b,0,none⟩),.int .i64 at_,.int .i64 what] (gm b bl fr l) (fun e L=>e= .returned (.tuple #[])∧L=gm b bl fr (l.set i what)):=by
 have hi:i<l.length:=by
  rcases Nat.lt_or_ge i l.length with h|h
  ·exact h
  ·rw[List.getElem?_eq_none h]at hs;cases hs
 have c0:l.count 0≤l.length:=List.count_le_length;have c1:l.count 1≤l.length:=List.count_le_length;have c2:l.count 2≤l.length:=List.count_le_length;have hsub:at_- (fr:Int)=i:=by omega
 have hti:(at_- (fr:Int)).toNat=i:=by omega
 have s3:s=0∨s=1∨s=2:=by omega
 have w3:what=0∨what=1∨what=2:=by omega
 have hs':l[i]=s:=by rw[List.getElem?_eq_getElem hi]at hs;exact Option.some.inj hs
 have hpos:0<l.count s:=List.count_pos_iff.2 (hs'▸List.getElem_mem hi);have hset:=fun k=>List.count_set (a:=what) (b:=k) hi;rw[hs']at hset;have hmap:(l.map gst).set (0+(at_- (fr:Int)).toNat*1) (.int .i64 what)=(l.set i what).map gst:=by
  rw[hti,Nat.zero_add,Nat.mul_one,List.map_set];rfl
 have he:((l.count s-1:Nat):Int)=(l.count s:Int)-1:=by omega
 rcases s3 with rfl|rfl|rfl<;>rcases w3 with rfl|rfl|rfl
 all_goals
  refine en func146 ntmps146 fun R w0=> ?_
  try simp only[gm,l0F]
  refine go 1 ?_;refine tl 20 ?_;refine go 12 ?_;refine b0X (b0M Sc.o rfl (k1P hs (by omega))) ?_;refine go 2 ?_;refine b0X (j1M Tar.o rfl rfl (by decide)) ?_;refine go 5 ?_;refine a0D (j1M Tar.o rfl rfl (by decide)) ?_;refine go 4 ?_;refine tl 11 ?_;refine go 13 ?_;refine(d0P Sz.o rfl rfl rfl (by simp;omega) (by rfl) ?_);refine go 2 ?_;refine tl 9 ?_;refine go 4 ?_;refine b0X (j1M Tar.o rfl rfl (by decide)) ?_;refine go 5 ?_;refine a0D (j1M Tar.o rfl rfl (by decide)) ?_;refine go 2 ?_;refine w0X rfl (L':= [_,_]) (by repeat (first|exact a0Z.nil|refine a0Z.cons Fnd.here ?_)) ⟨rfl,?_⟩;rw[hmap];simp[hset,he]
theorem h2Z (fr n:Nat) (to_:Int) (hto:to_=fr+n) (hfr:fr≤5000) (hn:n≤5000):
 a0F prog 86 #[.int .i64 fr,.int .i64 to_] [] (b0N (fun _:Nat×Nat=>True) (fun x=> .pointer (some ⟨x.1,0,none⟩)) (fun x=>gm x.1 x.2 fr (List.replicate n 0))):=by
 refine en func86 ntmps86 fun R w0=> ?_;have hn0:to_- (fr:Int)=n:=by omega
 have hmx:max (to_- (fr:Int)) 0=n:=by omega
 refine go 12 ?_;refine(q1E (n:=n) Tsl.o Ttb.o Zr.o rfl rfl rfl (by omega) (by omega) (by omega) (by omega) (fun b11=> ?_));refine go 1 ?_;refine bx fun b13=> ?_;refine go 4 ?_;refine tl 8 ?_;refine go 19 ?_;have hc0:(List.replicate n 0).count 0=n:=List.count_replicate_self;have hc1:(List.replicate n 0).count 1=0:=by rw[List.count_replicate];simp
 have hc2:(List.replicate n 0).count 2=0:=by rw[List.count_replicate];simp
 refine j1O (L':=gm b13 b11 fr (List.replicate n 0)++ [R]) (by simp[gm,l0F,hc0,hc1,hc2,gst]) ?_;exact rE idh (b13,b11) trivial
theorem s2N (a b:Nat):((a:Int) == (b:Int))=decide (a=b):=by
 rw[show((a:Int) == (b:Int))=decide ((a:Int)=b)from rfl];exact decide_eq_decide.2 (by omega)
theorem t1G (b bl fr what:Nat) (l:List Nat) (at_:Int) (ha: -9223372036854775808≤at_∧at_≤9223372036854775807) (hfr:fr≤5000) (hl:l.length≤5000):
 a0F prog 223 #[.pointer (some ⟨b,0,none⟩),.int .i64 at_,.int .i64 what] (gm b bl fr l) (a0T (.bool (isB fr l at_ what)) (gm b bl fr l)):=by
 by_cases h1:at_≥fr
 ·by_cases h2:at_-fr<l.length
  ·have hlt:(at_- (fr:Int)).toNat<l.length:=by omega
   have hs:l[(at_- (fr:Int)).toNat]? =some l[(at_- (fr:Int)).toNat]:=List.getElem?_eq_getElem hlt;refine en func223 ntmps223 fun R w0=> ?_
   try simp only[gm,l0F]
   refine go 39 ?_;refine m0W (wg rfl rfl rfl (wTT gT)) (b0M Sc.o rfl (k1P hs (by omega))) ?_;refine go 6 ?_;exact rG (hu:=(by simp only[isB,h1,h2,decide_true,Bool.true_and,hs,Option.some.injEq];rw[s2N]))
  ·refine en func223 ntmps223 fun R w0=> ?_
   try simp only[gm,l0F]
   refine go 46 ?_;exact rG (hu:=(by simp[isB,h2]))
 ·refine en func223 ntmps223 fun R w0=> ?_
  try simp only[gm,l0F]
  refine go 46 ?_;exact rG (hu:=(by simp[isB,h1]))
theorem v2Y {fr:Nat} {l:List Nat} {at_:Int} {k:Nat} (h:isB fr l at_ k=true): ∃i:Nat,at_=fr+i∧l[i]? =some k:=by
 simp only[isB,Bool.and_eq_true,decide_eq_true_eq]at h;exact⟨(at_-fr).toNat,by omega,h.2.2⟩
theorem b1N (b bl fr k to_:Nat) (l:List Nat) (at_:Int) (ha: -9223372036854775808≤at_∧at_≤9223372036854775807) (hk:k<3) (ht:to_<3) (hfr:fr≤5000) (hl:l.length≤5000):
 a0F prog 184 #[.pointer (some ⟨b,0,none⟩),.int .i64 at_,.int .i64 k,.int .i64 to_] (gm b bl fr l) (a0T (.bool (isB fr l at_ k)) (gm b bl fr (mvL fr l at_ k to_))):=by
 cases hb:isB fr l at_ k with
 |true=>
  obtain⟨i,hi,hs⟩:=v2Y hb;have hti:(at_- (fr:Int)).toNat=i:=by omega
  have hset:=d1R b bl fr i k to_ l at_ hi hs hk ht hfr hl;simp only[mvL,hb,hti];refine en func184 ntmps184 fun R w0=> ?_;refine cg 11 (t1G b bl fr k l at_ ha hfr hl) ?_;refine go 3 ?_;refine b0R rfl (by rw[hb];rfl) ?_;refine cg 7 (hset) ?_;refine go 7 ?_;exact rG
 |false=>
  simp only[mvL,hb];refine en func184 ntmps184 fun R w0=> ?_;refine cg 11 (t1G b bl fr k l at_ ha hfr hl) ?_;refine go 3 ?_;refine d0R rfl (by rw[hb];rfl) ?_;refine go 5 ?_;exact rG
theorem k1Q (b bl fr:Nat) (l:List Nat) (at_:Int) (ha: -9223372036854775808≤at_∧at_≤9223372036854775807) (hfr:fr≤5000) (hl:l.length≤5000):
 a0F prog 150 #[.pointer (some ⟨b,0,none⟩),.int .i64 at_] (gm b bl fr l) (a0T (.bool (isB fr l at_ 1)) (gm b bl fr (mvL fr l at_ 1 0))):=by
 refine en func150 ntmps150 fun R w0=> ?_;refine cg 9 (b1N b bl fr 1 0 l at_ ha (by decide) (by decide) hfr hl) ?_;refine go 3 ?_;exact rG
theorem z0B (b bl fr:Nat) (l:List Nat) (at_:Int) (ha: -9223372036854775808≤at_∧at_≤9223372036854775807) (hfr:fr≤5000) (hl:l.length≤5000):
 a0F prog 258 #[.pointer (some ⟨b,0,none⟩),.int .i64 at_] (gm b bl fr l) (a0T (.bool (isB fr l at_ 1)) (gm b bl fr (mvL fr l at_ 1 2))):=by
 refine en func258 ntmps258 fun R w0=> ?_;refine cg 9 (b1N b bl fr 1 2 l at_ ha (by decide) (by decide) hfr hl) ?_;refine go 3 ?_;exact rG
theorem k1R (b bl fr:Nat) (l:List Nat) (at_:Int) (ha: -9223372036854775808≤at_∧at_≤9223372036854775807) (hfr:fr≤5000) (hl:l.length≤5000):
 a0F prog 149 #[.pointer (some ⟨b,0,none⟩),.int .i64 at_] (gm b bl fr l) (a0T (.bool (isB fr l at_ 2)) (gm b bl fr (mvL fr l at_ 2 1))):=by
 refine en func149 ntmps149 fun R w0=> ?_;refine cg 9 (b1N b bl fr 2 1 l at_ ha (by decide) (by decide) hfr hl) ?_;refine go 3 ?_;exact rG
theorem v0T (b bl fr:Nat) (l:List Nat):
 a0F prog 57 #[.pointer (some ⟨b,0,none⟩)] (gm b bl fr l) (a0T (.int .i64 (l.count 0)) (gm b bl fr l)):=by
 refine en func57 ntmps57 fun R w0=> ?_
 try simp only[gm,l0F]
 refine go 15 ?_;exact rG
theorem c2Z (b bl fr:Nat) (l:List Nat):
 a0F prog 63 #[.pointer (some ⟨b,0,none⟩)] (gm b bl fr l) (a0T (.int .i64 (l.count 1)) (gm b bl fr l)):=by
 refine en func63 ntmps63 fun R w0=> ?_
 try simp only[gm,l0F]
 refine go 15 ?_;exact rG
theorem d2A (b bl fr:Nat) (l:List Nat) (hfr:fr≤5000) (hl:l.length≤5000):
 a0F prog 249 #[.pointer (some ⟨b,0,none⟩)] (gm b bl fr l)
  (a0T (match l.findIdx? (· == 0)with|some i=> .tuple #[.int .i64 (fr+i),.bool true]|none=> .tuple #[.int .i64 0,.bool false])
   (gm b bl fr (match l.findIdx? (· == 0)with|some i=>l.set i 1|none=>l))):=by
 refine en func249 ntmps249 fun R w0=> ?_
 try simp only[gm,l0F]
 refine go 18 ?_;refine a0V (X:= {i:Nat // i≤l.length∧ ∀j (hj:j<l.length),j<i→l[j]≠0}) (fun x=> [(0,.pointer (some ⟨b,0,none⟩)),(9,.slice (some ⟨bl,0,none⟩) l.length l.length),(10,.int .i64 l.length),(11,.int .i64 x.1)]) (fun x=>gm b bl fr l++ [R]) (fun x=>l.length-x.1) ⟨0,by omega,fun j _ h=>by omega⟩ gSu gSp ?_;rintro⟨i,hi,hpre⟩ m0 hm0
 try simp only at hm0
 try dsimp only
 simp only[gm,l0F,List.cons_append,List.nil_append];refine go 6 ?_;refine a0P rfl (fun hb12=> ?_) (fun hb12=> ?_)
 ·have hlt:i<l.length:=by have:=of_decide_eq_true hb12;omega
  have hs:l[i]? =some l[i]:=List.getElem?_eq_getElem hlt;refine go 8 ?_;refine a0D (b0M Sc.o rfl (k1P hs (by omega))) ?_;refine go 10 ?_;refine a0P rfl (fun hb17=> ?_) (fun hb17=> ?_)
  ·have hz:l[i]=0:=by have:=eq_of_beq hb17;omega
   have hf:l.findIdx? (· == 0)=some i:=by
    rw[List.findIdx?_eq_some_iff_getElem];exact⟨hlt,by simp[hz],fun j hj=>by simpa using hpre j (by omega) hj⟩
   have hset:=d1R b bl fr i 0 1 l (fr+i) (by omega) (by rw[hs,hz]) (by decide) (by decide) hfr hl;simp only[hf];refine cg 9 (hset) ?_;refine go 14 ?_;exact rG
  ·have hz:l[i]≠0:=by intro h;rw[h]at hb17;exact absurd hb17 (by decide)
   refine go 6 ?_;refine rd idh (⟨i+1,hlt,fun j hj h=> ?_⟩);rcases Nat.lt_succ_iff_lt_or_eq.1 h with h|h
   ·exact hpre j hj h
   ·subst h;exact hz
 ·have hge:i=l.length:=by have:=of_decide_eq_false hb12;omega
  have hf:l.findIdx? (· == 0)=none:=by
   rw[List.findIdx?_eq_none_iff];intro x hx;obtain⟨j,hj,rfl⟩:=List.getElem_of_mem hx;simpa using hpre j hj (by omega)
  simp only[hf];refine go 8 ?_;exact rG
end Go.Proofs.Q
namespace Go.Proofs.Q
section
open Go.Sl Go.Sb Tryz
end
end Go.Proofs.Q
namespace Go.Proofs.Q
open Go.Sl Go.Sb Tryz
structure Ad where
 disk:Nat
 vd:Value
 log:Nat
 gr:Nat
 grl:Nat
 refs:Nat
 heap:Nat
 st:Nat
 ix:Nat
 maps:Nat
 core:Nat
 vols:Nat
abbrev ptr (b:Nat):Value:= .pointer (some ⟨b,0,none⟩)
abbrev d0U (b:Nat) (t:TypeId) (v:Value):Nat×Obj:=(b,.cells #[v] t (0,0))
def h0L (x:Ent):List Value:= [.int .u32 x.id,.int .u32 x.parent,.bool x.only,.int .i64 x.size,.int .i64 x.root,.int .u32 x.born]
def e0C (s:B):Value:= .agg (s.map a0Q).toArray
def d0Z (x:Ent):Value:= .agg (h0L x).toArray
abbrev clo (f:FuncId) (bs:List Nat):Value:= .func (.func f) #[] (bs.map ptr).toArray
def a0J (x:Int):Value:= .int .i64 x
def e0H (x:Int):Value:= .int .u32 x
def m0T (x:Value) (w:List Int) (c:List (Nat×Obj)):Prop:=(∀k∈w,inR k=true)∧(w= []∧x= .slice none 0 0∧c= []∨
 ∃(g cap:Nat) (cur:List Value),x= .slice (some ⟨g,0,none⟩) w.length cap∧w.length≤cap∧cap≤maxLen∧cur.length=cap∧cur.take w.length=w.map a0J∧c= [(g,.cells cur.toArray 3 (0,0))])
def r0P (a:Ad) (by_:Nat):c0P→Value→List (Nat×Obj)→Prop
 | .give k,v,c=>inR k=true∧ ∃b1 b2,v=clo 284 [b1,b2]∧c= [d0U b1 55 (ptr a.heap),d0U b2 3 (.int .i64 k)]
 | .back k,v,c=>inR k=true∧ ∃b1 b2,v=clo 259 [b1,b2]∧c= [d0U b1 55 (ptr a.heap),d0U b2 3 (.int .i64 k)]
 | .keep w,v,c=> ∃b1 b2,v=clo 195 [b1,b2]∧c= [d0U b1 3 (.int .i64 w),d0U b2 236 (.pointer (some ⟨a.heap,6,none⟩))]
 | .next w,v,c=> ∃b1 b2,v=clo 221 [b1,b2]∧c= [d0U b1 47 (.int .u32 w),d0U b2 256 (.pointer (some ⟨a.core,3,none⟩))]
 | .gone w,v,c=> ∃b1 b2 x b3,v=clo 287 [b1,b2]∧c=d0U b1 90 x::d0U b2 319 (.pointer (some ⟨a.heap,5,none⟩))::b3∧m0T x w b3
 | .refs k w,v,c=> ∃b1 b2 b3 b4,(v=clo 282 [b1,b2,b3,b4]∨v=clo 286 [b1,b2,b3,b4])∧
  c= [d0U b1 89 (.map (some a.refs)),d0U b2 3 (.int .i64 k),d0U b3 3 (.int .i64 (w.getD 0)),d0U b4 4 (.bool w.isSome)]
 | .young k w,v,c=> ∃b1 b2 b3 b4,(v=clo 282 [b1,b2,b3,b4]∨v=clo 286 [b1,b2,b3,b4])∧
  c= [d0U b1 89 (.map (some by_)),d0U b2 3 (.int .i64 k),d0U b3 3 (.int .i64 (w.getD 0)),d0U b4 4 (.bool w.isSome)]
 | .index k w,v,c=>k.length=32∧ ∃b1 b2 b3 b4,(v=clo 253 [b1,b2,b3,b4]∨v=clo 279 [b1,b2,b3,b4])∧
  c= [d0U b1 208 (.map (some a.ix)),(b2,.cells (k.map a0Q).toArray 44 (0,0)),d0U b3 3 (.int .i64 (w.getD 0)),d0U b4 4 (.bool w.isSome)]
 | .vols k w,v,c=> ∃b1 b2 b3 b4,(v=clo 166 [b1,b2,b3,b4]∨v=clo 169 [b1,b2,b3,b4])∧
  c= [d0U b1 57 (.map (some a.vols)),d0U b2 47 (.int .u32 k),(b3,.cells (h0L (w.getD h0T)).toArray 50 (0,0)),d0U b4 4 (.bool w.isSome)]
abbrev Own:=List (c0P×Value×List (Nat×Obj))
def Own.cells (o:Own):List a0C:=(o.flatMap fun e=>e.2.2).map fun p=>pts p.1 p.2
def o0Y (a:Ad) (by_:Nat) (o:Own) (log:List c0P) (vals:List Value):Prop:=
 log.length≤1000000000∧ ∃live rest:Own,o.Perm (live++rest)∧live.map (·.1)=log∧live.map (·.2.1)=vals∧ ∀e∈live,r0P a by_ e.1 e.2.1 e.2.2
theorem o0Y.len {a:Ad} {by_:Nat} {o:Own} {log:List c0P} {vals:List Value} (h:o0Y a by_ o log vals):log.length=vals.length:=by
 obtain⟨_,live,rest,_,rfl,rfl,_⟩:=h;simp
def n2C (a:Ad) (by_:Nat) (o:Own) (log:List c0P) (depth:Nat) (v:Value) (vals:List Value):List a0C:=
 [pts a.log (.cells #[v,.int .i64 depth] 154 (0,0)),b0H 1 1 v vals.length vals,b0D (Own.cells o),m0K (o0Y a by_ o log vals∧depth≤1000000000)]
def e0E (a:Ad) (by_:Nat) (o:Own) (log:List c0P) (depth:Nat):a0C:=ex fun x:Value×List Value=>b0D (n2C a by_ o log depth x.1 x.2)
section
attribute [local semireducible] Sl.a0O Sl.OW Sl.CW Sl.OS Sl.OM Sl.OMf Sl.KM
section
variable {c:Cx} {ops:Array Oper} {Q:Exit→Act→World→Prop} {rest:List Oper} {env:List (Nat×Value)} {L M:List a0C} {y:Code} {a:Ad} {by_:Nat} {o:Own} {log:List c0P} {depth:Nat}
theorem x0O (hL:Fnd L (e0E a by_ o log depth) M) (h: ∀v vals,o0Y a by_ o log vals→depth≤1000000000→v.oneCell'=true→CW c y Q env (pts a.log (.cells #[v,.int .i64 depth] 154 (0,0))::b0H 1 1 v vals.length vals::b0D (Own.cells o)::M)):CW c y Q env L:=by
 refine u0N hL fun x=> ?_;simp only[n2C,List.cons_append,List.nil_append];intro ac w hh;have h1:=hh.sat;have h2:Sat w (m0K (o0Y a by_ o log x.2∧depth≤1000000000)::pts a.log (.cells #[x.1,.int .i64 depth] 154 (0,0))::b0H 1 1 x.1 x.2.length x.2::b0D (Own.cells o)::M):=
  h1.perm (Fnd.there (Fnd.there (Fnd.there Fnd.here)))
 obtain⟨⟨h3,h4⟩,h5⟩:=t0J.1 h2;exact h x.1 x.2 h3 h4 (m1D (h5.perm (Fnd.there Fnd.here))) ac w ⟨hh.size,hh.slots,hh.defers,h5,hh.like⟩
theorem p0P {v:Value} {vals:List Value} (hok:o0Y a by_ o log vals) (hd:depth≤1000000000)
 (hL:a0Z L [pts a.log (.cells #[v,.int .i64 depth] 154 (0,0)),b0H 1 1 v vals.length vals,b0D (Own.cells o)] M) (w:World) (h:Sat w L):Sat w (e0E a by_ o log depth::M):=by
 refine g0X.2 ⟨(v,vals),b0J.2 ?_⟩;have h1:=n0H (p:=o0Y a by_ o log vals∧depth≤1000000000) ⟨hok,hd⟩ w (h.perm hL);exact h1.perm (List.perm_middle (l₁:= [pts a.log (.cells #[v,.int .i64 depth] 154 (0,0)),b0H 1 1 v vals.length vals,b0D (Own.cells o)])).symm
theorem s2O {st:c0P} {v:Value} {cells:List (Nat×Obj)} {w:World} (h:Sat w (b0D (Own.cells o)::b0D (cells.map fun p=>pts p.1 p.2)::M)):Sat w (b0D (Own.cells ((st,v,cells)::o))::M):=by
 have h1:Sat w (b0D (cells.map fun p=>pts p.1 p.2)::b0D (Own.cells o)::M):=h.perm (List.Perm.swap _ _ _);have h2:=b0J.1 h1;have h3:Sat w (b0D (Own.cells o)::((cells.map fun p=>pts p.1 p.2)++M)):=h2.perm List.perm_middle;have h4:=b0J.1 h3;refine b0J.2 ?_;have e:Own.cells ((st,v,cells)::o)=(cells.map fun p=>pts p.1 p.2)++Own.cells o:=by simp[Own.cells]
 rw[e,List.append_assoc];exact h4.perm ((List.append_assoc _ _ _).symm▸(List.perm_append_comm.append_right M).trans (by rw[List.append_assoc]))
theorem t1H {w:World} {e:c0P×Value×List (Nat×Obj)} {b:Nat} {ob:Obj} (he:e∈o) (hb:(b,ob)∈e.2.2) (h:Sat w (e0E a by_ o log depth::M)):w.heap[b]? =some ob:=by
 obtain⟨x,h1⟩:=g0X.1 h;have h2:=b0J.1 h1;simp only[n2C,List.cons_append,List.nil_append]at h2;have h3:Sat w (b0D (Own.cells o)::pts a.log (.cells #[x.1,.int .i64 depth] 154 (0,0))::b0H 1 1 x.1 x.2.length x.2::m0K (o0Y a by_ o log x.2∧depth≤1000000000)::M):=
  h2.perm (Fnd.there (Fnd.there Fnd.here))
 have h4:=b0J.1 h3;have hm:pts b ob∈Own.cells o:=List.mem_map.2 ⟨(b,ob),List.mem_flatMap.2 ⟨e,he,hb⟩,rfl⟩;obtain⟨l1,l2,hl⟩:=List.append_of_mem hm;rw[hl,List.append_assoc,List.cons_append]at h4;exact(h4.perm List.perm_middle).pts
theorem c0B {dd:Option Tmp} {ty:TypeId} {pos:String} {af:Array Edge} {g:Option (Nat×Bool)} {x:Operand} {t et:TypeId} {b k:Nat} {cs:List Value} {e:c0P×Value×List (Nat×Obj)} {v:Value} (ht:f0R c.P t=true) (hx:evo env x=some (.pointer (some ⟨b,k,none⟩)))
 (hL:Fnd L (e0E a by_ o log depth) M) (he:e∈o) (hb:(b,.cells cs.toArray et (0,0))∈e.2.2) (hv:nth cs k=some v):Sl.a0O c ⟨dd,.load t x,ty,pos,af,g⟩ env L v:=
 z0K ht hx hL fun w L' hs=>by
  have:=t1H he hb hs;rw[d0Y]at hv;simp[World.cell?,this,hv]
theorem d1S {dd:Option Tmp} {ty:TypeId} {pos:String} {af:Array Edge} {g:Option (Nat×Bool)} {x:Operand} {t et:TypeId} {b n:Nat} {cs:Array Value} {e:c0P×Value×List (Nat×Obj)} {v:Array Value} (ht:n0X c.P t n=true) (hx:evo env x=some (.pointer (some ⟨b,0,none⟩)))
 (hL:Fnd L (e0E a by_ o log depth) M) (he:e∈o) (hb:(b,.cells cs et (0,0))∈e.2.2) (hn:0+n≤cs.size) (hv:cs.extract 0 (0+n)=v):Sl.a0O c ⟨dd,.load t x,ty,pos,af,g⟩ env L (.agg v):=by
 intro ac w hh;have h1:=t1H he hb (hL.sat hh.sat);subst hv;simp[execOp,hh.eval hx,Instr.loadAt,Instr.sureAddr,loadVar,i0K ht,i0V ht,g0F h1 hn]
end
theorem d2B {a:Ad} {by_:Nat} {o:Own} {log:List c0P} {vals:List Value} {st:c0P} {v:Value} {cells:List (Nat×Obj)} (h:o0Y a by_ o log vals) (hs:r0P a by_ st v cells) (hn:log.length<1000000000):
 o0Y a by_ ((st,v,cells)::o) (log++ [st]) (vals++ [v]):=by
 obtain⟨h1,live,rest,hp,rfl,rfl,hl⟩:=h;refine⟨by simp at hn ⊢;omega,live++ [(st,v,cells)],rest,?_,by simp,by simp,?_⟩
 ·rw[List.append_assoc];exact(List.Perm.cons _ hp).trans List.perm_middle.symm
 ·intro e he;rcases List.mem_append.1 he with he|he
  ·exact hl e he
  ·simp at he;subst he;exact hs
theorem d2C {a:Ad} {by_:Nat} {o:Own} {log:List c0P} {vals:List Value} {e:c0P×Value×List (Nat×Obj)} (h:o0Y a by_ o log vals):o0Y a by_ (e::o) log vals:=
 by
  obtain⟨h1,live,rest,hp,h2,h3,hl⟩:=h;exact⟨h1,live,e::rest,(List.Perm.cons _ hp).trans List.perm_middle.symm,h2,h3,hl⟩
theorem t1I {a:Ad} {by_:Nat} {o:Own} {log:List c0P} {depth:Nat} {M:List a0C} {w:World} {v fv:Value} {vals:List Value} {st:c0P} {cells:List (Nat×Obj)} {F:List a0C} (hok:o0Y a by_ ((st,fv,cells)::o) log vals) (hd:depth≤1000000000)
 (hL:a0Z M [b0D (Own.cells o),b0D (cells.map fun p=>pts p.1 p.2),pts a.log (.cells #[v,.int .i64 depth] 154 (0,0)),b0H 1 1 v vals.length vals] F) (h:Sat w M):Sat w (e0E a by_ ((st,fv,cells)::o) log depth::F):=
 p0P hok hd (a0Z.cons (Fnd.there Fnd.here) (a0Z.cons (Fnd.there Fnd.here) (a0Z.cons Fnd.here a0Z.nil))) w (s2O (h.perm hL))
attribute [local irreducible] Sl.a0O Sl.OW Sl.CW Sl.OS Sl.OM Sl.OMf Sl.KM
theorem d1T (a:Ad) (by_:Nat) (o:Own) (log:List c0P) (depth:Nat) (st:c0P) (f:FuncId) (bb:List Nat) (cells:List (Nat×Obj)) (hs:r0P a by_ st (clo f bb) cells) (hn:log.length<1000000000):
 a0F prog 165 #[ptr a.log,clo f bb] [e0E a by_ o log depth,b0D (cells.map fun p=>pts p.1 p.2)] (a0T (.tuple #[]) [e0E a by_ ((st,clo f bb,cells)::o) (bk depth log st) depth]):=by
 refine en func165 ntmps165 fun R w0=> ?_;refine x0O gFd fun v0 vals hok hdp hv1=> ?_;have hlen:=hok.len;refine go 9 ?_;refine a0P rfl (fun hb8=> ?_) (fun hb8=> ?_)
 ·have hpos:0<depth:=by have:=of_decide_eq_true hb8;omega
  refine go 7 ?_;refine bl fun b15=> ?_;refine(c0Z Tsl.o Ttb.o Zr.o rfl rfl rfl gFd (e0Z Tsl.o (by simp;rfl) (by simp) (by simp[Value.oneCell'])) (by simp only[maxLen];omega) (by omega) (fun v16 hv16=> ?_));refine go 4 ?_;have e:bk depth log st=log++ [st]:=if_pos hpos;rw[e];exact b0G (fun w h=>t1I (vals:=vals++ [clo f bb]) (d2B hok hs hn) hdp (by rw[List.length_append];exact gSp) h) (d0W rfl rfl gSp)
 ·have hpos: ¬0<depth:=by have:=of_decide_eq_false hb8;omega
  refine go 1 ?_;have e:bk depth log st=log:=if_neg hpos;rw[e];exact b0G (fun w h=>t1I (vals:=vals) (d2C hok) hdp gSp h) (d0W rfl rfl gSp)
end
theorem g1M {P:Program} {f:FuncId} {args:Array Value} {A:a0C} {N:List a0C} {Post:Ending→List a0C→Prop} (h:a0F P f args [A,b0D N] Post):a0F P f args (A::N) Post:=by
 intro w F hs;refine h w F ?_;have h1:Sat w (N++(F:: [A])):=hs.perm (by
  show List.Perm (A::(N++ [F])) _;exact((List.perm_append_singleton A (N++ [F])).symm).trans (by simp))
 have h2:=b0J.2 h1;exact h2.perm (by show List.Perm [b0D N,F,A] [A,b0D N,F];exact(List.perm_append_comm (l₁:= [b0D N,F]) (l₂:= [A])))
theorem b1O (a:Ad) (by_:Nat) (o:Own) (log:List c0P) (depth:Nat) (st:c0P) (f:FuncId) {b1 b2:Nat} {o1 o2:Obj} {x y:Nat} (hs:r0P a by_ st (clo f [b1,b2]) [(x,o1),(y,o2)]) (hn:log.length<1000000000):
 a0F prog 165 #[ptr a.log,.func (.func f) #[] #[ptr b1,ptr b2]] [e0E a by_ o log depth,pts x o1,pts y o2] (a0T (.tuple #[]) [e0E a by_ ((st,clo f [b1,b2],[(x,o1),(y,o2)])::o) (bk depth log st) depth]):=
 g1M (d1T a by_ o log depth st f [b1,b2] [(x,o1),(y,o2)] hs hn)
theorem f1O (a:Ad) (by_:Nat) (o:Own) (log:List c0P) (depth:Nat) (st:c0P) (f:FuncId) {b1 b2 b3 b4:Nat} {o1 o2 o3 o4:Obj} {x y z u:Nat} (hs:r0P a by_ st (clo f [b1,b2,b3,b4]) [(x,o1),(y,o2),(z,o3),(u,o4)]) (hn:log.length<1000000000):
 a0F prog 165 #[ptr a.log,.func (.func f) #[] #[ptr b1,ptr b2,ptr b3,ptr b4]] [e0E a by_ o log depth,pts x o1,pts y o2,pts z o3,pts u o4] (a0T (.tuple #[]) [e0E a by_ ((st,clo f [b1,b2,b3,b4],[(x,o1),(y,o2),(z,o3),(u,o4)])::o) (bk depth log st) depth]):=
 g1M (d1T a by_ o log depth st f [b1,b2,b3,b4] [(x,o1),(y,o2),(z,o3),(u,o4)] hs hn)
def c0Y (a:Ad) (by_:Nat) (gv:Value) (keep:Int):List Value:= [ptr a.disk,ptr a.log,ptr a.gr,.map (some a.refs),.map (some by_),gv,.int .i64 keep]
abbrev i0A (a:Ad) (by_:Nat) (gv:Value) (keep:Int):a0C:=pts a.heap (.cells (c0Y a by_ gv keep).toArray 92 (0,0))
def o0J (a:Ad) (next epoch:Int):List Value:= [ptr a.heap,ptr a.maps,.map (some a.vols),.int .u32 next,.int .u32 epoch]
abbrev r0Q (a:Ad) (next epoch:Int):a0C:=pts a.core (.cells (o0J a next epoch).toArray 59 (0,0))
abbrev z0C (a:Ad) (by_:Nat) (o:Own) (log:List c0P) (depth:Nat) (st:c0P) (A:List a0C):Ending→List a0C→Prop:=
 b0N (fun _:c0P×Value×List (Nat×Obj)=>True) (fun _=> .tuple #[]) (fun e=>e0E a by_ (e::o) (bk depth log st) depth::A)
theorem x1E (a:Ad) (by_:Nat) (o:Own) (log:List c0P) (depth:Nat) (gv:Value) (was to_:Int) (hn:log.length<1000000000):
 a0F prog 162 #[ptr a.log,.pointer (some ⟨a.heap,6,none⟩),.int .i64 to_] [e0E a by_ o log depth,i0A a by_ gv was] (z0C a by_ o log depth (.keep was) [i0A a by_ gv to_]):=by
 refine en func162 ntmps162 fun R w0=> ?_
 try simp only[c0Y]
 refine go 2 ?_;refine bx fun b4=> ?_;refine go 7 ?_;refine al fun b6=> ?_;refine go 7 ?_;refine b0U rfl Hb.o rfl (b1O a by_ o log depth (.keep was) _ ⟨_,_,rfl,rfl⟩ hn) gSp ?_;refine ns ?_;refine go 3 ?_;refine a0D (c0B Sc.o rfl gFd List.mem_cons_self (List.mem_cons_of_mem _ List.mem_cons_self) rfl) ?_;refine go 4 ?_;exact fE _ trivial
theorem i0T:v0C prog 3 a0J (fun _=>True):=r1E Tin.o
theorem b1P:v0C prog 47 e0H (fun _=>True):=r1E Tin.o
theorem d1U:v0C prog 44 e0C (fun l=>l.length=32):=m2F F.ka44
theorem tt {α:Type} {m:List α} {p:α→Prop} (h: ∀x,p x): ∀x∈m,p x:=fun x _=>h x
theorem f0J (w:Option Int):(w.map a0J).getD (.int .i64 0)= .int .i64 (w.getD 0):=by cases w<;>rfl
theorem d1V (w:Option Ent):(w.map d0Z).getD (.agg #[.int .u32 0,.int .u32 0,.bool false,.int .i64 0,.int .i64 0,.int .u32 0])= .agg (h0L (w.getD h0T)).toArray:=by cases w<;>rfl
theorem x1F (a:Ad) (by_:Nat) (o:Own) (log:List c0P) (depth:Nat) (was to_ ep:Int) (hn:log.length<1000000000):
 a0F prog 181 #[ptr a.log,.pointer (some ⟨a.core,3,none⟩),.int .u32 to_] [e0E a by_ o log depth,r0Q a was ep] (z0C a by_ o log depth (.next was) [r0Q a to_ ep]):=by
 refine en func181 ntmps181 fun R w0=> ?_
 try simp only[o0J]
 refine go 2 ?_;refine bx fun b4=> ?_;refine go 7 ?_;refine al fun b6=> ?_;refine go 7 ?_;refine b0U rfl Hb.o rfl (b1O a by_ o log depth (.next was) _ ⟨_,_,rfl,rfl⟩ hn) gSp ?_;refine ns ?_;refine go 3 ?_;refine a0D (c0B Sc.o rfl gFd List.mem_cons_self (List.mem_cons_of_mem _ List.mem_cons_self) rfl) ?_;refine go 4 ?_;exact fE _ trivial
theorem p0Q (a:Ad) (by_:Nat) (o:Own) (log:List c0P) (depth:Nat) (mb:Nat) (m:List (Int×Int)) (k v:Int) (st:c0P) (hn:log.length<1000000000)
 (hst: ∀b1 b2 b3 b4,r0P a by_ st (clo 282 [b1,b2,b3,b4]) [d0U b1 89 (.map (some mb)),d0U b2 3 (.int .i64 k),d0U b3 3 (.int .i64 ((a0E k m).getD 0)),d0U b4 4 (.bool (a0E k m).isSome)]):
 a0F prog 248 #[ptr a.log,.map (some mb),.int .i64 k,.int .i64 v] [e0E a by_ o log depth,b0L mb a0J a0J m] (z0C a by_ o log depth st [b0L mb a0J a0J (b0T k v m)]):=by
 refine en func248 ntmps248 fun R w0=> ?_;refine go 2 ?_;refine bx fun b5=> ?_;refine bx fun b6=> ?_;refine go 6 ?_;refine a0D (p0J (ek:=a0J) (ev:=a0J) d0I.o i0T (tt fun _=>trivial) trivial Zr.o rfl rfl gFd f0J) ?_;refine go 3 ?_;refine al fun b8=> ?_;refine al fun b9=> ?_;refine go 8 ?_;refine b0U rfl Hb.o rfl (f1O a by_ o log depth st _ (hst _ _ _ _) hn) gSp ?_;refine ns ?_;refine go 3 ?_;refine a0D (c0B Sc.o rfl gFd List.mem_cons_self List.mem_cons_self rfl) ?_;refine a0D (c0B Sc.o rfl gFd List.mem_cons_self (List.mem_cons_of_mem _ List.mem_cons_self) rfl) ?_;refine go 1 ?_;refine n0G (ek:=a0J) (ev:=a0J) d0I.o i0T (tt fun _=>trivial) trivial rfl rfl rfl gFd ?_;refine go 1 ?_;exact fE _ trivial
theorem q0L (a:Ad) (by_:Nat) (o:Own) (log:List c0P) (depth:Nat) (mb:Nat) (m:List (Int×Int)) (k:Int) (st:c0P) (hn:log.length<1000000000)
 (hst: ∀b1 b2 b3 b4,r0P a by_ st (clo 286 [b1,b2,b3,b4]) [d0U b1 89 (.map (some mb)),d0U b2 3 (.int .i64 k),d0U b3 3 (.int .i64 ((a0E k m).getD 0)),d0U b4 4 (.bool (a0E k m).isSome)]):
 a0F prog 257 #[ptr a.log,.map (some mb),.int .i64 k] [e0E a by_ o log depth,b0L mb a0J a0J m] (z0C a by_ o log depth st [b0L mb a0J a0J (b0C k m)]):=by
 refine en func257 ntmps257 fun R w0=> ?_;refine go 2 ?_;refine bx fun b4=> ?_;refine bx fun b5=> ?_;refine go 6 ?_;refine a0D (p0J (ek:=a0J) (ev:=a0J) d0I.o i0T (tt fun _=>trivial) trivial Zr.o rfl rfl gFd f0J) ?_;refine go 3 ?_;refine al fun b6=> ?_;refine al fun b7=> ?_;refine go 8 ?_;refine b0U rfl Hb.o rfl (f1O a by_ o log depth st _ (hst _ _ _ _) hn) gSp ?_;refine ns ?_;refine go 3 ?_;refine a0D (c0B Sc.o rfl gFd List.mem_cons_self List.mem_cons_self rfl) ?_;refine a0D (c0B Sc.o rfl gFd List.mem_cons_self (List.mem_cons_of_mem _ List.mem_cons_self) rfl) ?_;refine q0B (ek:=a0J) (ev:=a0J) d0I.o i0T (tt fun _=>trivial) trivial rfl rfl gFd ?_;refine go 1 ?_;exact fE _ trivial
theorem x1G (a:Ad) (by_:Nat) (o:Own) (log:List c0P) (depth:Nat) (m:List (B×Int)) (k:B) (v:Int) (hn:log.length<1000000000) (hm: ∀p∈m,p.1.length=32) (hk:k.length=32):
 a0F prog 204 #[ptr a.log,.map (some a.ix),e0C k,.int .i64 v] [e0E a by_ o log depth,b0L a.ix e0C a0J m] (z0C a by_ o log depth (.index k (a0E k m)) [b0L a.ix e0C a0J (b0T k v m)]):=by
 have hsz:(k.map a0Q).toArray.size=32:=by simp[hk]
 refine en func204 ntmps204 fun R w0=> ?_
 try simp only[e0C]
 refine go 2 ?_;refine bx fun b5=> ?_;refine bx fun b6=> ?_;refine go 5 ?_;refine a0D (a0L Ag.o rfl (by simp[Value.cells,hk]) (a0G (by simp[Value.cells,hk]))) ?_;refine a0D (p0J (ek:=e0C) (ev:=a0J) (k:=k) d0I.o d1U hm hk Zr.o rfl rfl gFd f0J) ?_;refine go 3 ?_;refine al fun b8=> ?_;refine al fun b9=> ?_;refine go 8 ?_;refine b0U rfl Hb.o rfl (f1O a by_ o log depth (.index k (a0E k m)) _ ⟨hk,_,_,_,_,.inl rfl,rfl⟩ hn) gSp ?_;refine ns ?_;refine go 3 ?_;refine a0D (c0B Sc.o rfl gFd List.mem_cons_self List.mem_cons_self rfl) ?_;refine a0D (d1S Ag.o rfl gFd List.mem_cons_self (List.mem_cons_of_mem _ List.mem_cons_self) (by simp[hk]) (a0G (by simp[hk]))) ?_;refine go 1 ?_;refine n0G (ek:=e0C) (ev:=a0J) (k:=k) d0I.o d1U hm hk rfl rfl rfl gFd ?_;refine go 1 ?_;exact fE _ trivial
theorem t1J (a:Ad) (by_:Nat) (o:Own) (log:List c0P) (depth:Nat) (m:List (B×Int)) (k:B) (hn:log.length<1000000000) (hm: ∀p∈m,p.1.length=32) (hk:k.length=32):
 a0F prog 241 #[ptr a.log,.map (some a.ix),e0C k] [e0E a by_ o log depth,b0L a.ix e0C a0J m] (z0C a by_ o log depth (.index k (a0E k m)) [b0L a.ix e0C a0J (b0C k m)]):=by
 have hsz:(k.map a0Q).toArray.size=32:=by simp[hk]
 refine en func241 ntmps241 fun R w0=> ?_
 try simp only[e0C]
 refine go 2 ?_;refine bx fun b4=> ?_;refine bx fun b5=> ?_;refine go 5 ?_;refine a0D (a0L Ag.o rfl (by simp[Value.cells,hk]) (a0G (by simp[Value.cells,hk]))) ?_;refine a0D (p0J (ek:=e0C) (ev:=a0J) (k:=k) d0I.o d1U hm hk Zr.o rfl rfl gFd f0J) ?_;refine go 3 ?_;refine al fun b6=> ?_;refine al fun b7=> ?_;refine go 8 ?_;refine b0U rfl Hb.o rfl (f1O a by_ o log depth (.index k (a0E k m)) _ ⟨hk,_,_,_,_,.inr rfl,rfl⟩ hn) gSp ?_;refine ns ?_;refine go 3 ?_;refine a0D (c0B Sc.o rfl gFd List.mem_cons_self List.mem_cons_self rfl) ?_;refine a0D (d1S Ag.o rfl gFd List.mem_cons_self (List.mem_cons_of_mem _ List.mem_cons_self) (by simp[hk]) (a0G (by simp[hk]))) ?_;refine q0B (ek:=e0C) (ev:=a0J) (k:=k) d0I.o d1U hm hk rfl rfl gFd ?_;refine go 1 ?_;exact fE _ trivial
theorem x1H (a:Ad) (by_:Nat) (o:Own) (log:List c0P) (depth:Nat) (m:List (Int×Ent)) (k:Int) (v:Ent) (hn:log.length<1000000000):
 a0F prog 119 #[ptr a.log,.map (some a.vols),.int .u32 k,d0Z v] [e0E a by_ o log depth,b0L a.vols e0H d0Z m] (z0C a by_ o log depth (.vols k (a0E k m)) [b0L a.vols e0H d0Z (b0T k v m)]):=by
 refine en func119 ntmps119 fun R w0=> ?_
 try simp only[d0Z]
 refine go 2 ?_;refine bx fun b5=> ?_;refine bx fun b6=> ?_;refine bx fun b7=> ?_;refine go 6 ?_;refine a0D (p0J (ek:=e0H) (ev:=d0Z) (k:=k) d0I.o b1P (tt fun _=>trivial) trivial Zr.o rfl rfl gFd d1V) ?_;refine go 3 ?_;refine al fun b8=> ?_;refine al fun b9=> ?_;refine go 8 ?_;refine b0U rfl Hb.o rfl (f1O a by_ o log depth (.vols k (a0E k m)) _ ⟨_,_,_,_,.inl rfl,rfl⟩ hn) gSp ?_;refine ns ?_;refine go 3 ?_;refine a0D (c0B Sc.o rfl gFd List.mem_cons_self List.mem_cons_self rfl) ?_;refine a0D (c0B Sc.o rfl gFd List.mem_cons_self (List.mem_cons_of_mem _ List.mem_cons_self) rfl) ?_;refine go 1 ?_;refine n0G (ek:=e0H) (ev:=d0Z) (k:=k) (v:=v) d0I.o b1P (tt fun _=>trivial) trivial rfl rfl rfl gFd ?_;refine go 1 ?_;exact fE _ trivial
theorem t1K (a:Ad) (by_:Nat) (o:Own) (log:List c0P) (depth:Nat) (m:List (Int×Ent)) (k:Int) (hn:log.length<1000000000):
 a0F prog 123 #[ptr a.log,.map (some a.vols),.int .u32 k] [e0E a by_ o log depth,b0L a.vols e0H d0Z m] (z0C a by_ o log depth (.vols k (a0E k m)) [b0L a.vols e0H d0Z (b0C k m)]):=by
 refine en func123 ntmps123 fun R w0=> ?_;refine go 2 ?_;refine bx fun b4=> ?_;refine bx fun b5=> ?_;refine go 6 ?_;refine a0D (p0J (ek:=e0H) (ev:=d0Z) (k:=k) d0I.o b1P (tt fun _=>trivial) trivial Zr.o rfl rfl gFd d1V) ?_;refine go 3 ?_;refine al fun b6=> ?_;refine al fun b7=> ?_;refine go 8 ?_;refine b0U rfl Hb.o rfl (f1O a by_ o log depth (.vols k (a0E k m)) _ ⟨_,_,_,_,.inr rfl,rfl⟩ hn) gSp ?_;refine ns ?_;refine go 3 ?_;refine a0D (c0B Sc.o rfl gFd List.mem_cons_self List.mem_cons_self rfl) ?_;refine a0D (c0B Sc.o rfl gFd List.mem_cons_self (List.mem_cons_of_mem _ List.mem_cons_self) rfl) ?_;refine q0B (ek:=e0H) (ev:=d0Z) (k:=k) d0I.o b1P (tt fun _=>trivial) trivial rfl rfl gFd ?_;refine go 1 ?_;exact fE _ trivial
theorem x1I (a:Ad) (by_:Nat) (o:Own) (log:List c0P) (depth:Nat) (gv to_:Value) (keep:Int) (was:List Int) (gc:List (Nat×Obj)) (hn:log.length<1000000000) (hg:m0T gv was gc) (hto:to_.oneCell'=true):
 a0F prog 260 #[ptr a.log,.pointer (some ⟨a.heap,5,none⟩),to_] [e0E a by_ o log depth,i0A a by_ gv keep,b0D (gc.map fun p=>pts p.1 p.2)] (z0C a by_ o log depth (.gone was) [i0A a by_ to_ keep]):=by
 have hgv:gv.oneCell'=true:=by rcases hg with ⟨_,⟨_,rfl,_⟩| ⟨_,_,_,rfl,_⟩⟩<;>rfl
 have hb: ∀b1 b2,a0F prog 165 #[ptr a.log,.func (.func 287) #[] #[ptr b1,ptr b2]] [e0E a by_ o log depth,pts b1 (.cells #[gv] 90 (0,0)),pts b2 (.cells #[.pointer (some ⟨a.heap,5,none⟩)] 319 (0,0)),b0D (gc.map fun p=>pts p.1 p.2)]
  (a0T (.tuple #[]) [e0E a by_ ((.gone was,clo 287 [b1,b2],d0U b1 90 gv::d0U b2 319 (.pointer (some ⟨a.heap,5,none⟩))::gc)::o) (bk depth log (.gone was)) depth]):=by
  intro b1 b2 w F hs;refine d1T a by_ o log depth (.gone was) _ [b1,b2] (d0U b1 90 gv::d0U b2 319 (.pointer (some ⟨a.heap,5,none⟩))::gc) ⟨b1,b2,gv,gc,rfl,rfl,hg⟩ hn w F ?_;simp only[List.cons_append,List.nil_append]at hs;have h1:Sat w ([b0D (gc.map fun p=>pts p.1 p.2),F,pts b1 (.cells #[gv] 90 (0,0)),pts b2 (.cells #[.pointer (some ⟨a.heap,5,none⟩)] 319 (0,0)),e0E a by_ o log depth]++ []):=hs.perm (show a0Z _ _ _ from gSp);have h2:=(b0J.1 h1).perm List.perm_append_comm
  try simp only[List.cons_append,List.nil_append]at h2
  have h3:Sat w ([pts b1 (.cells #[gv] 90 (0,0)),pts b2 (.cells #[.pointer (some ⟨a.heap,5,none⟩)] 319 (0,0))]++(F::e0E a by_ o log depth::(gc.map fun p=>pts p.1 p.2))):=h2.perm (show a0Z _ _ _ from gSp);have h4:Sat w (((d0U b1 90 gv::d0U b2 319 (.pointer (some ⟨a.heap,5,none⟩))::gc).map fun p=>pts p.1 p.2)++ [F,e0E a by_ o log depth]):=by
   simp only[List.map_cons,List.cons_append];refine h3.perm (List.Perm.cons _ (List.Perm.cons _ ?_));exact List.perm_append_comm (l₁:= [F,e0E a by_ o log depth])
  exact(b0J.2 h4).perm (by show a0Z _ [_,_,_] [];exact gSp)
 refine en func260 ntmps260 fun R w0=> ?_
 try simp only[c0Y]
 refine go 2 ?_;refine bx fun b4=> ?_;refine go 6 ?_;skip;refine go 1 ?_;refine al fun b6=> ?_;refine(d0P Sz.o rfl rfl hgv (by rfl) (by rfl) ?_);refine go 6 ?_;refine b0U rfl Hb.o rfl (hb _ _) gSp ?_;refine ns ?_;refine go 3 ?_;refine a0D (c0B Sc.o rfl gFd List.mem_cons_self (List.mem_cons_of_mem _ List.mem_cons_self) rfl) ?_;refine go 2 ?_;refine(d0P Sz.o rfl rfl hto (by rfl) (by rfl) ?_);refine go 1 ?_;exact fE _ trivial
theorem x0P {k:Int} (h:inR k=true): -9223372036854775808≤k∧k≤9223372036854775807:=by simpa [inR] using h
theorem d1W (mb:Nat) (m:List (Int×Int)) (k:Int) (w:Option Int):a0F prog 283 #[.map (some mb),.int .i64 k,.int .i64 (w.getD 0),.bool w.isSome] [b0L mb a0J a0J m] (a0T (.tuple #[]) [b0L mb a0J a0J (f0G k w m)]):=by
 cases w with
 |none=>
  refine en func283 ntmps283 fun R w0=> ?_
  try simp only[Option.getD_none,Option.isSome_none]
  refine go 12 ?_;refine(q0B (ek:=a0J) (ev:=a0J) d0I.o i0T (tt fun _=>trivial) trivial rfl rfl gFd ?_);refine go 2 ?_;exact rG
 |some v=>
  refine en func283 ntmps283 fun R w0=> ?_
  try simp only[Option.getD_some,Option.isSome_some]
  refine go 14 ?_;refine(n0G (ek:=a0J) (ev:=a0J) d0I.o i0T (tt fun _=>trivial) trivial rfl rfl rfl gFd ?_);refine go 1 ?_;refine d0W rfl rfl gSp
theorem d1X (mb:Nat) (m:List (B×Int)) (k:B) (w:Option Int) (hm: ∀p∈m,p.1.length=32) (hk:k.length=32):a0F prog 254 #[.map (some mb),e0C k,.int .i64 (w.getD 0),.bool w.isSome] [b0L mb e0C a0J m] (a0T (.tuple #[]) [b0L mb e0C a0J (f0G k w m)]):=by
 cases w with
 |none=>
  refine en func254 ntmps254 fun R w0=> ?_
  try simp only[Option.getD_none,Option.isSome_none]
  refine go 2 ?_;refine bx fun b5=> ?_;refine go 13 ?_;refine a0D (a0L Ag.o rfl (by simp[e0C,Value.cells,hk]) (a0G (by simp[e0C,Value.cells,hk]))) ?_;refine(q0B (ek:=e0C) (ev:=a0J) d0I.o d1U hm hk rfl rfl gFd ?_);refine go 2 ?_;exact rG
 |some v=>
  refine en func254 ntmps254 fun R w0=> ?_
  try simp only[Option.getD_some,Option.isSome_some]
  refine go 2 ?_;refine bx fun b5=> ?_;refine go 14 ?_;refine a0D (a0L Ag.o rfl (by simp[e0C,Value.cells,hk]) (a0G (by simp[e0C,Value.cells,hk]))) ?_;refine go 1 ?_;refine(n0G (ek:=e0C) (ev:=a0J) d0I.o d1U hm hk rfl rfl rfl gFd ?_);refine go 1 ?_;refine d0W rfl rfl gSp
theorem d1Y (mb:Nat) (m:List (Int×Ent)) (k:Int) (w:Option Ent):a0F prog 167 #[.map (some mb),.int .u32 k,d0Z (w.getD h0T),.bool w.isSome] [b0L mb e0H d0Z m] (a0T (.tuple #[]) [b0L mb e0H d0Z (f0G k w m)]):=by
 cases w with
 |none=>
  refine en func167 ntmps167 fun R w0=> ?_
  try simp only[Option.getD_none,Option.isSome_none]
  refine go 2 ?_;refine bx fun b6=> ?_;refine go 14 ?_;refine(q0B (ek:=e0H) (ev:=d0Z) d0I.o b1P (tt fun _=>trivial) trivial rfl rfl gFd ?_);refine go 2 ?_;exact rG
 |some v=>
  refine en func167 ntmps167 fun R w0=> ?_
  try simp only[Option.getD_some,Option.isSome_some]
  refine go 2 ?_;refine bx fun b6=> ?_;refine go 16 ?_;refine(n0G (ek:=e0H) (ev:=d0Z) d0I.o b1P (tt fun _=>trivial) trivial rfl rfl rfl gFd ?_);refine go 1 ?_;refine d0W rfl rfl gSp
abbrev cel (b:Nat) (t:TypeId) (v:Value):a0C:=pts b (.cells #[v] t (0,0))
abbrev d2D (b1 b2 b3 b4 mb:Nat) (k:Int) (w:Option Int):List a0C:= [cel b1 89 (.map (some mb)),cel b2 3 (.int .i64 k),cel b3 3 (.int .i64 (w.getD 0)),cel b4 4 (.bool w.isSome)]
abbrev d2E (b1 b2 b3 b4 mb:Nat) (k:B) (w:Option Int):List a0C:= [cel b1 208 (.map (some mb)),pts b2 (.cells (k.map a0Q).toArray 44 (0,0)),cel b3 3 (.int .i64 (w.getD 0)),cel b4 4 (.bool w.isSome)]
abbrev d2F (b1 b2 b3 b4 mb:Nat) (k:Int) (w:Option Ent):List a0C:= [cel b1 57 (.map (some mb)),cel b2 47 (.int .u32 k),pts b3 (.cells (h0L (w.getD h0T)).toArray 50 (0,0)),cel b4 4 (.bool w.isSome)]
theorem z1Z (b1 b2 b3 b4 mb:Nat) (m:List (Int×Int)) (k:Int) (w:Option Int):a0F prog 282 #[ptr b1,ptr b2,ptr b3,ptr b4] (d2D b1 b2 b3 b4 mb k w++ [b0L mb a0J a0J m]) (a0T (.tuple #[]) (d2D b1 b2 b3 b4 mb k w++ [b0L mb a0J a0J (f0G k w m)])):=by
 refine en func282 ntmps282 fun R w0=> ?_;refine cg 5 (d1W mb m k w) ?_;refine go 1 ?_;refine d0W rfl rfl gSp
theorem t1L (b1 b2 b3 b4 mb:Nat) (m:List (Int×Int)) (k:Int) (w:Option Int):a0F prog 286 #[ptr b1,ptr b2,ptr b3,ptr b4] (d2D b1 b2 b3 b4 mb k w++ [b0L mb a0J a0J m]) (a0T (.tuple #[]) (d2D b1 b2 b3 b4 mb k w++ [b0L mb a0J a0J (f0G k w m)])):=by
 refine en func286 ntmps286 fun R w0=> ?_;refine cg 5 (d1W mb m k w) ?_;refine go 1 ?_;refine d0W rfl rfl gSp
theorem s2P (b1 b2 b3 b4 mb:Nat) (m:List (B×Int)) (k:B) (w:Option Int) (hm: ∀p∈m,p.1.length=32) (hk:k.length=32):a0F prog 253 #[ptr b1,ptr b2,ptr b3,ptr b4] (d2E b1 b2 b3 b4 mb k w++ [b0L mb e0C a0J m]) (a0T (.tuple #[]) (d2E b1 b2 b3 b4 mb k w++ [b0L mb e0C a0J (f0G k w m)])):=by
 refine en func253 ntmps253 fun R w0=> ?_;refine go 2 ?_;refine a0D (a0L Ag.o rfl (by simp[hk]) (a0G (by simp[hk]))) ?_;refine cg 2 (d1X mb m k w hm hk) ?_;refine go 1 ?_;refine d0W rfl rfl gSp
theorem n2D (b1 b2 b3 b4 mb:Nat) (m:List (B×Int)) (k:B) (w:Option Int) (hm: ∀p∈m,p.1.length=32) (hk:k.length=32):a0F prog 279 #[ptr b1,ptr b2,ptr b3,ptr b4] (d2E b1 b2 b3 b4 mb k w++ [b0L mb e0C a0J m]) (a0T (.tuple #[]) (d2E b1 b2 b3 b4 mb k w++ [b0L mb e0C a0J (f0G k w m)])):=by
 refine en func279 ntmps279 fun R w0=> ?_;refine go 2 ?_;refine a0D (a0L Ag.o rfl (by simp[hk]) (a0G (by simp[hk]))) ?_;refine cg 2 (d1X mb m k w hm hk) ?_;refine go 1 ?_;refine d0W rfl rfl gSp
theorem s2Q (b1 b2 b3 b4 mb:Nat) (m:List (Int×Ent)) (k:Int) (w:Option Ent):a0F prog 166 #[ptr b1,ptr b2,ptr b3,ptr b4] (d2F b1 b2 b3 b4 mb k w++ [b0L mb e0H d0Z m]) (a0T (.tuple #[]) (d2F b1 b2 b3 b4 mb k w++ [b0L mb e0H d0Z (f0G k w m)])):=by
 refine en func166 ntmps166 fun R w0=> ?_;refine cg 5 (d1Y mb m k w) ?_;refine go 1 ?_;refine d0W rfl rfl gSp
theorem n2E (b1 b2 b3 b4 mb:Nat) (m:List (Int×Ent)) (k:Int) (w:Option Ent):a0F prog 169 #[ptr b1,ptr b2,ptr b3,ptr b4] (d2F b1 b2 b3 b4 mb k w++ [b0L mb e0H d0Z m]) (a0T (.tuple #[]) (d2F b1 b2 b3 b4 mb k w++ [b0L mb e0H d0Z (f0G k w m)])):=by
 refine en func169 ntmps169 fun R w0=> ?_;refine cg 5 (d1Y mb m k w) ?_;refine go 1 ?_;refine d0W rfl rfl gSp
theorem s2R (a:Ad) (by_ b1 b2:Nat) (gv:Value) (w keep:Int):a0F prog 195 #[ptr b1,ptr b2] [cel b1 3 (.int .i64 w),cel b2 236 (.pointer (some ⟨a.heap,6,none⟩)),i0A a by_ gv keep] (a0T (.tuple #[]) [i0A a by_ gv w]):=by
 refine en func195 ntmps195 fun R w0=> ?_
 try simp only[c0Y]
 refine go 6 ?_;refine d0W rfl rfl gSp
theorem s2S (a:Ad) (b1 b2:Nat) (w next ep:Int):a0F prog 221 #[ptr b1,ptr b2] [cel b1 47 (.int .u32 w),cel b2 256 (.pointer (some ⟨a.core,3,none⟩)),r0Q a next ep] (a0T (.tuple #[]) [r0Q a w ep]):=by
 refine en func221 ntmps221 fun R w0=> ?_
 try simp only[o0J]
 refine go 6 ?_;refine d0W rfl rfl gSp
theorem s2T (a:Ad) (by_ b1 b2:Nat) (gv x:Value) (keep:Int) (hx:x.oneCell'=true):a0F prog 287 #[ptr b1,ptr b2] [cel b1 90 x,cel b2 319 (.pointer (some ⟨a.heap,5,none⟩)),i0A a by_ gv keep] (a0T (.tuple #[]) [i0A a by_ x keep]):=by
 refine en func287 ntmps287 fun R w0=> ?_
 try simp only[c0Y]
 refine go 4 ?_;refine(d0P Sz.o rfl rfl hx (by rfl) (by rfl) ?_);refine go 1 ?_;refine d0W rfl rfl gSp
theorem x2U (a:Ad) (by_ b1 b2:Nat) (gv:Value) (keep k:Int) (fr:Nat) (g:List Nat) (hk:inR k=true) (hfr:fr≤5000) (hl:g.length≤5000):a0F prog 284 #[ptr b1,ptr b2] ([cel b1 55 (ptr a.heap),cel b2 3 (.int .i64 k),i0A a by_ gv keep]++gm a.gr a.grl fr g) (a0T (.tuple #[]) ([i0A a by_ gv keep]++gm a.gr a.grl fr (mvL fr g k 1 0))):=by
 refine en func284 ntmps284 fun R w0=> ?_
 try simp only[c0Y]
 refine tl 5 ?_;refine cg 6 (k1Q a.gr a.grl fr g k (x0P hk) hfr hl) ?_;refine go 1 ?_;refine d0W rfl rfl gSp
theorem x2V (a:Ad) (by_ b1 b2:Nat) (gv:Value) (keep k:Int) (fr:Nat) (g:List Nat) (hk:inR k=true) (hfr:fr≤5000) (hl:g.length≤5000):a0F prog 259 #[ptr b1,ptr b2] ([cel b1 55 (ptr a.heap),cel b2 3 (.int .i64 k),i0A a by_ gv keep]++gm a.gr a.grl fr g) (a0T (.tuple #[]) ([i0A a by_ gv keep]++gm a.gr a.grl fr (mvL fr g k 2 1))):=by
 refine en func259 ntmps259 fun R w0=> ?_
 try simp only[c0Y]
 refine tl 5 ?_;refine cg 6 (k1R a.gr a.grl fr g k (x0P hk) hfr hl) ?_;refine go 1 ?_;refine d0W rfl rfl gSp
end Go.Proofs.Q
