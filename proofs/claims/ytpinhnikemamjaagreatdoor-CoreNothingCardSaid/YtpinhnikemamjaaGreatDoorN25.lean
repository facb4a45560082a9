/- Part of the proof; no statement of its own. -/
import Derived.Test.YtpinhnikemamjaaGreatDoorN18
import Derived.Test.YtpinhnikemamjaaGreatDoorN24
import Derived.Test.YtpinhnikemamjaaGreatDoorN23
import Derived.Test.YtpinhnikemamjaaGreatDoorN21
import Derived.Shelf.Strings.Builder1
import Derived.Shelf.Strings.Builder2
import Derived.Test.YtpinhnikemamjaaGreatDoorN07
import Derived.Test.YtpinhnikemamjaaGreatDoorN10
set_option linter.all false
set_option maxRecDepth 4000
set_option maxHeartbeats 4000000
attribute [local irreducible] Go.Sl.a0O Go.Sl.OW Go.Sl.CW Go.Sl.OS Go.Sl.OM Go.Sl.OMf Go.Sl.KM
namespace Go.Proofs.Q
open Go.Sl Go.Sb Tryz
theorem w0Q {at_:Int} {s t:St} {b:B} (h:h0P at_ s=(.ok b,t)):t=s∧n0F s.d at_= .ok b:=by
 unfold h0P at h;split at h
 ·cases h
 ·simp only[Prod.mk.injEq]at h;exact⟨h.2.symm,h.1⟩
theorem p1M {d:Dk} (hd:l0R d) {at_:Int} {b:B} (h:n0F d at_= .ok b):b.length≤64:=by
 unfold n0F at h;split at h
 ·cases h
 ·split at h
  ·cases h
  ·rename_i h1;simp only[Out.ok.injEq]at h;have hlt:at_.toNat<d.l.length:=by omega
   rw[List.getD_eq_getElem?_getD,List.getElem?_eq_getElem hlt]at h;have:=(hd.1 _ (List.getElem_mem hlt)).2;rw[←h];simp only[Option.getD_some];omega
theorem e1H {b:B} {x:Hd} (h:h0H b= .ok x):y0N x:=by
 unfold h0H at h;cases ho:h0G b with
 |err e=>rw[ho]at h;cases h
 |big=>rw[ho]at h;cases h
 |ok t=>
  rw[ho]at h;simp only at h;have ht:t=b.take 60∧b.length=64:=by
   unfold h0G at ho;split at ho
   ·cases ho
   ·split at ho
    ·cases ho
    ·split at ho
     ·cases ho
     ·split at ho
      ·cases ho
      ·rename_i h4;cases ho;exact⟨rfl,by omega⟩
  split at h
  ·cases h
  ·split at h
   ·cases h
   ·cases h
    refine⟨by simp[k0V],k0V 4 4 _,fun c hc=> ?_,by simp;rw[ht.1];simp;omega⟩;obtain⟨i,hi,rfl⟩:=List.getElem_of_mem hc;rw[x0S];exact f1U _
theorem w0R {x:Hd} (h:y0N x):(hdL x).length=40:=by unfold hdL;simp[h.n,h.m,h.sum]
theorem f1W (x:Hd): ∀v∈(hdL x).toArray.toList,v.oneCell'=true:=by
 intro v hv;simp only[hdL,List.mem_append,List.mem_map]at hv;rcases hv with ⟨_,_,rfl⟩| ⟨_,_,rfl⟩| ⟨_,_,rfl⟩<;>rfl
theorem v0X (W:World) (a:Ad) (s:St) (at_:Int):a0F prog 159 #[ptr a.st,.int .i64 at_] (RS W a s) (Ran fT (RS W a) hdV (g0W at_ s)):=by
 refine en func159 ntmps159 fun R w0=> ?_;refine o0E (p:=l0R s.d) gFd fun hdk=> ?_;refine go 2 ?_;refine al fun b4=> ?_;refine go 9 ?_;refine a0X rfl Hb.o rfl (e1B W a s at_) gSp (fun b t ho=> ?_) (fun e t ho=>by refine pn ?_;exact kx ((by unfold g0W;exact a0I ho)));refine ns ?_;obtain⟨rfl,hrd⟩:=w0Q ho;have hbl:=p1M hdk hrd;have ho1:=ho;refine a0X rfl Hb.o rfl (u1G b (by omega)) gSp (fun x u ho=> ?_) (fun e t ho=>by refine pn ?_;exact kx ((by unfold g0W;rw[a0A ho1];unfold t0P;rw[show h0H b= .err e from congrArg Prod.fst ho])));refine ns ?_;have hx:h0H b= .ok x:=congrArg Prod.fst ho;have hln:=e1H hx;have hsz:(hdL x).toArray.size=40:=by rw[List.size_toArray,w0R hln]
 have hr:g0W at_ t=(.ok x,t):=by unfold g0W;rw[a0A ho1];unfold t0P;rw[hx]
 refine a0M Sz.o rfl rfl hsz (f1W x) (by rw[hsz];simp[Value.cells]) (a0N (by rw[hsz];simp[Value.cells])) ?_;refine go 2 ?_;exact j0R hr idh (RV.agg Ag.o rfl (by rw[hsz];omega) (a0G hsz) RV.nil) rfl gSp
theorem q0M {at_:Int} {s t:St} {x:Hd} (h:g0W at_ s=(.ok x,t)):t=s∧y0N x:=by
 unfold g0W at h;cases hg:h0P at_ s with
 |mk o u=>
  cases o with
  |ok b=>
   rw[a0A hg]at h;unfold t0P at h;simp only[Prod.mk.injEq]at h;exact⟨h.2.symm.trans (w0Q hg).1,e1H h.1⟩
  |err e=>rw[a0I hg]at h;cases h
  |big=>unfold a0B at h;rw[hg]at h;cases h
theorem e2A (W:World) (a:Ad) (s:St) (at_:Int) (hnb:(s0V at_ s).1≠ .big):a0F prog 222 #[ptr a.st,.int .i64 at_] (RS W a s) (Ran fT (RS W a) k0I (s0V at_ s)):=by
 by_cases h0:at_=0
 ·subst h0;have hr:s0V 0 s=(.ok (),s):=by unfold s0V;rw[if_pos rfl];rfl
  rw[hr];refine en func222 ntmps222 fun R w0=> ?_;refine go 8 ?_;exact fR rfl
 ·have hr:s0V at_ s=k0E at_ s:=by unfold s0V;rw[if_neg h0]
  rw[hr]at hnb ⊢;refine en func222 ntmps222 fun R w0=> ?_;refine go 6 ?_;refine d0R rfl (by simpa using h0) ?_;refine go 6 ?_;refine a0X rfl Hb.o rfl (b1R W a s at_ hnb) gSp (fun u t ho=> ?_) (fun e t ho=>by refine pn ?_;exact kx (ho));refine ns ?_;refine go 1 ?_;exact fR ho
theorem i2X (W:World) (a:Ad) (s:St) (at_:Int):a0F prog 280 #[ptr a.st,.int .i64 at_] (RS W a s) (Ran fT (RS W a) e0C (r0J at_ s)):=by
 by_cases h0:at_=0
 ·subst h0;have hr:r0J 0 s=(.ok (a0K 32),s):=by unfold r0J;rw[if_pos rfl];rfl
  rw[hr];refine en func280 ntmps280 fun R w0=> ?_;refine go 2 ?_;refine al fun b4=> ?_;refine go 12 ?_;refine a0D (q0Z (cs:=List.replicate 32 (Value.int .u8 0)) Tar.o Zr.o rfl (by rfl)) ?_;refine a0M Sz.o rfl rfl (by rfl) (by simp[Value.oneCell']) (by simp[Value.cells]) (a0N (by rfl)) ?_;refine go 2 ?_;exact j0R rfl idh (RV.agg Ag.o rfl (by simp) (a0G (by rfl)) RV.nil) rfl gSp
 ·have e0:r0J at_ s=a0B (g0W at_) (fun x=>ret x.sum) s:=by unfold r0J;rw[if_neg h0]
  refine en func280 ntmps280 fun R w0=> ?_;refine go 2 ?_;refine al fun b4=> ?_;refine go 9 ?_;refine b0R rfl (by simpa using h0) ?_;refine go 6 ?_;refine a0X rfl Hb.o rfl (v0X W a s at_) gSp (fun x t ho=> ?_) (fun e t ho=>by refine pn ?_;exact kx ((by rw[e0];exact a0I ho)));refine ns ?_;obtain⟨hts,hln⟩:=q0M ho;have hr:r0J at_ s=(.ok x.sum,t):=by rw[e0,a0A ho];rfl
  have hs2:(x.sum.map a0Q).toArray.size=32:=by rw[List.size_toArray,List.length_map,hln.sum]
  refine a0D (o0Q (v:=(x.sum.map a0Q).toArray) F.fa230_2 rfl (by rw[show hdL x=(x.at_.map a0J++(x.sums.map fun n:Nat=>Value.int .u32 n))++(x.sum.map a0Q++ []) by simp[hdL]];exact d0X (by rw[List.length_append,List.length_map,List.length_map,hln.n,hln.m]) (by rw[List.length_map,hln.sum]))) ?_;refine a0M Sz.o rfl rfl hs2 (fun x hx=>by simp at hx;obtain⟨_,_,rfl⟩:=hx;rfl) (by rw[hs2];simp[Value.cells]) (a0N (by rw[hs2];simp[Value.cells])) ?_;refine go 2 ?_;exact j0R hr idh (RV.agg Ag.o rfl (by rw[hs2];omega) (a0G hs2) RV.nil) rfl gSp
end Go.Proofs.Q
namespace Go.Proofs
open Go.RowKit
def Tryz.lays166_ren:Go.Shelf.Ren:=⟨fun|166=>60|240=>113|276=>158|n=>n,fun|0=>0|3=>3|4=>4|9=>9|20=>20|37=>113|70=>117|72=>119|75=>122|80=>48|164=>225|5=>5|n=>n,fun|n=>n⟩
theorem Tryz.lays166:Go.Proofs.Lays.n166 Tryz.prog Tryz.lays166_ren:= {
 mixed:=by kernel_rfl
 f166:=Tryz.func60.trans (congrArg some (by kernel_rfl))
 f240:=Tryz.func113.trans (congrArg some (by kernel_rfl))
 f276:=Tryz.func158.trans (congrArg some (by kernel_rfl))
 t0:=Tryz.underlying0
 a0:=Tryz.isAgg0
 z0:=Tryz.sizeOf0
 v0:=Tryz.zeroValue0
 t3:=Tryz.underlying3
 a3:=Tryz.isAgg3
 z3:=Tryz.sizeOf3
 v3:=Tryz.zeroValue3
 t4:=Tryz.underlying4
 a4:=Tryz.isAgg4
 z4:=Tryz.sizeOf4
 v4:=Tryz.zeroValue4
 t9:=Tryz.underlying9
 a9:=Tryz.isAgg9
 z9:=Tryz.sizeOf9
 v9:=Tryz.zeroValue9
 t20:=Tryz.underlying20
 a20:=Tryz.isAgg20
 z20:=Tryz.sizeOf20
 v20:=Tryz.zeroValue20
 t37:=Tryz.underlying113
 a37:=Tryz.isAgg113
 z37:=Tryz.sizeOf113
 v37:=Tryz.zeroValue113
 t70:=Tryz.underlying117
 a70:=Tryz.isAgg117
 z70:=Tryz.sizeOf117
 v70:=Tryz.zeroValue117
 t72:=Tryz.underlying119
 a72:=Tryz.isAgg119
 z72:=Tryz.sizeOf119
 v72:=Tryz.zeroValue119
 t75:=Tryz.underlying122
 a75:=Tryz.isAgg122
 z75:=Tryz.sizeOf122
 v75:=Tryz.zeroValue122
 t164:=Tryz.underlying225
 a164:=Tryz.isAgg225
 z164:=Tryz.sizeOf225
 v164:=Tryz.zeroValue225}
theorem Tryz.Builder_Extra_166:Builder.Extra Tryz.prog Tryz.lays166_ren:= {
 sizeBuilder:=by kernel_rfl
 liesBuilder:=by kernel_rfl
 t5:=Tryz.underlying5
 a5:=Tryz.isAgg5
 z5:=Tryz.sizeOf5
 v5:=Tryz.zeroValue5
 infoByte:=by kernel_rfl
 cellsByte:=by kernel_rfl
 sizeByte:=by kernel_rfl
 neB5:=by decide}
end Go.Proofs
namespace Go.Proofs.Q
open Go.Sl Go.Sb Go.RowKit Tryz
theorem a2J:Go.Proofs.Lays.n240 prog Tryz.lays166_ren:= {Tryz.lays166 with}
theorem x72:Builder.X72 prog Tryz.lays166_ren:= {Tryz.Builder_Extra_166 with}
abbrev t0V (b:Nat) (p v:Value) (l:B):List a0C:= [pts b (.cells #[p,v] 119 (0,0)),b0H 5 1 v l.length (l.map a0Q)]
theorem n1F (b:Nat) (p v:Value) (hp:p= .pointer none∨p=ptr b):a0F prog 113 #[ptr b] [pts b (.cells #[p,v] 119 (0,0))] (a0T (.tuple #[]) [pts b (.cells #[ptr b,v] 119 (0,0))]):=by
 intro w F hs;have hb:=Sat.pts hs;rcases hp with rfl|rfl
 ·refine(Any.Builder_copyCheck_fresh a2J x72 b w (by simp[World.cell?,hb]) (by simp[World.shape?,hb];rfl) (by simp[World.frozen?,hb])).mono ?_;rintro e w' ⟨rfl,rfl⟩;refine⟨_,⟨rfl,rfl⟩,?_,?_⟩
  ·rw[g1F hb];exact hs.put
  ·rw[g1F hb];exact(d0O.refl w).put _ _
 ·refine(Any.Builder_copyCheck_used a2J x72 b w (by simp[World.cell?,hb])).mono ?_;rintro e w' ⟨rfl,rfl⟩;exact⟨_,⟨rfl,rfl⟩,hs,d0O.refl _⟩
theorem b1V (b:Nat) (p v:Value) (hp:p= .pointer none∨p=ptr b) (l s:B) (hl:l.length≤1000000) (hs:s.length≤1000000):
 a0F prog 60 #[ptr b,b0B s] (t0V b p v l) (b0N (fun v':Value=>v'.oneCell'=true) (fun _=> .tuple #[.int .i64 s.length,.nilIface]) (fun v'=>t0V b (ptr b) v' (l++s))):=by
 have hbl:byteCells (bs s)=s.map a0Q:=by simp[byteCells,a0Q]
 refine en func60 ntmps60 fun R w0=> ?_;refine cg 9 (n1F b p v hp) ?_;refine go 10 ?_;skip;refine(c0Z Tsl.o Ttb.o Zr.o rfl rfl rfl gFd (m1F Tst.o) (by rw[b0F];simp only[maxLen];omega) (by rw[b0F];omega) (fun v14 hv14=> ?_));rw[hbl,b0F,←List.map_append,←List.length_append];refine go 13 ?_;exact rE idh v14 hv14
end Go.Proofs.Q
namespace Go.Proofs.Q
open Go.Sl Go.Sb Tryz
theorem o2E:prog.cellsOf 5=1:=by kernel_rfl
theorem e1I (b:Nat) (p v:Value) (l:B) (h0:l≠ []) (hl:l.length≤1000000):a0F prog 62 #[ptr b] (t0V b p v l) (a0T (b0B l) []):=by
 have hpos:0<l.length:=List.length_pos_iff.2 h0;refine en func62 ntmps62 fun R w0=> ?_;refine i0Y (e:=5) gFd hpos fun g cap hv hc=> ?_;subst hv;refine go 6 ?_;refine mx (.r 0 4 (.r 5 5 (.hard 4 (.hard 10 (.soft 11 .done))))) [pts b (.cells #[p,.slice (some ⟨g,0,none⟩) l.length cap] 119 (0,0))] ?_;refine go 10 ?_;refine a0D (w1O rfl (by omega)) ?_;refine go 3 ?_;refine k1B Tryz.underlying197 o2E rfl rfl rfl gFd h0 (by omega) ?_;refine go 5 ?_;exact rG
theorem q1J (b:Nat) (p:Value):a0F prog 62 #[ptr b] [pts b (.cells #[p,.slice none 0 0] 119 (0,0))] (a0T (b0B []) []):=by
 refine en func62 ntmps62 fun R w0=> ?_;refine go 6 ?_;refine mx (.r 0 4 (.r 5 5 (.hard 4 (.hard 10 (.soft 11 .done))))) [pts b (.cells #[p,.slice none 0 0] 119 (0,0))] ?_;refine go 10 ?_;refine a0D (r1L rfl) ?_;refine go 3 ?_;refine a0D (k1A rfl rfl) ?_;refine go 5 ?_;exact rG
section
theorem u1K {d:Dk} (hd:l0R d) {at_:Int} {b:B} (h:n0F d at_= .ok b):b.length=64:=by
 unfold n0F at h;split at h
 ·cases h
 ·split at h
  ·cases h
  ·rename_i h1;simp only[Out.ok.injEq]at h;have hlt:at_.toNat<d.l.length:=by omega
   rw[List.getD_eq_getElem?_getD,List.getElem?_eq_getElem hlt]at h;have:=(hd.1 _ (List.getElem_mem hlt)).2;rw[←h];simp only[Option.getD_some];omega
theorem o2F {l:List Nat} {i:Nat} (h:i<l.length):l.getD i 0=l[i]:=by rw[List.getD_eq_getElem?_getD,List.getElem?_eq_getElem h];rfl
theorem b1W {l:List Int} {i:Nat} (h:i<l.length):l.getD i 0=l[i]:=by rw[List.getD_eq_getElem?_getD,List.getElem?_eq_getElem h];rfl
section
variable {x:Hd} {s t:St} {i:Nat} {acc b:B}
def r0W (x:Hd) (i:Nat) (acc:B) (s:St):Out B×St:=a0B (f0N x (4-i)) (fun r=>ret (acc++r)) s
theorem b1X (h:i<4):r0W x i acc s=a0B (a0B (if 0<x.at_.getD i 0 then a0B (h0P (x.at_.getD i 0)) fun s=>if f0V s≠x.sums.getD i 0 then n0Q 11 else ret s else ret (a0K 64)) fun s=>a0B (f0N x (4- (i+1))) fun r=>ret (s++r)) (fun r=>ret (acc++r)) s:=by
 unfold r0W;obtain⟨n,hn⟩: ∃n,4-i=n+1:=⟨4-i-1,by omega⟩;have hk:4- (n+1)=i:=by omega
 have hk2:4- (i+1)=n:=by omega
 rw[hn,hk2]
 conv=>lhs;unfold f0N
 simp only[hk]
theorem p1N (c:M B) {b:B} (hc:c s=(.ok b,s)):a0B (a0B c fun s=>a0B (f0N x (4- (i+1))) fun r=>ret (s++r)) (fun r=>ret (acc++r)) s=r0W x (i+1) (acc++b) s:=by
 unfold r0W a0B;rw[hc];simp only;cases f0N x (4- (i+1)) s with
 |mk o u=>
  cases o with
  |ok r=>simp only[ret,List.append_assoc]
  |err e=>rfl
  |big=>rfl
theorem p1O (c:M B) {e:Int} {t:St} (hc:c s=(.err e,t)):a0B (a0B c fun s=>a0B (f0N x (4- (i+1))) fun r=>ret (s++r)) (fun r=>ret (acc++r)) s=(.err e,t):=by
 unfold a0B;rw[hc]
theorem o2G {e:Int} (h:i<4) (h0:0<x.at_.getD i 0) (ho:h0P (x.at_.getD i 0) s=(.err e,t)):r0W x i acc s=(.err e,t):=by
 rw[b1X h];exact p1O _ (by rw[if_pos h0];exact a0I ho)
theorem t2L (h:i<4) (h0:0<x.at_.getD i 0) (ho:h0P (x.at_.getD i 0) s=(.ok b,s)) (hc:f0V b≠x.sums.getD i 0):r0W x i acc s=(.err 11,s):=by
 rw[b1X h];exact p1O _ (by rw[if_pos h0,a0A ho,if_pos hc];rfl)
theorem t2M (h:i<4) (h0:0<x.at_.getD i 0) (ho:h0P (x.at_.getD i 0) s=(.ok b,s)) (hc:f0V b=x.sums.getD i 0):r0W x i acc s=r0W x (i+1) (acc++b) s:=by
 rw[b1X h];exact p1N _ (by rw[if_pos h0,a0A ho,if_neg (by simp[hc])];rfl)
theorem i2Y (h:i<4) (h0: ¬0<x.at_.getD i 0):r0W x i acc s=r0W x (i+1) (acc++a0K 64) s:=by
 rw[b1X h];exact p1N _ (by rw[if_neg h0];rfl)
theorem o2H:r0W x 4 acc s=(.ok acc,s):=by unfold r0W a0B f0N;simp[ret]
end
theorem w2E {acc:B} {i:Nat} (h:acc.length=64*i) (hi:0<i):acc≠ []:=by intro e;rw[e]at h;simp at h;omega
theorem w2F {x:Hd} {i k:Nat} (c1:(x.at_.map a0J).length=4) (h:i<x.sums.length) (hk:k=4+i):nth (hdL x) k=some (.int .u32 (x.sums[i]:Nat)):=by
 subst hk;unfold hdL;rw[d0Y,List.getElem?_append_right (by omega),c1,Nat.add_sub_cancel_left,List.getElem?_append_left (by simpa using h),List.getElem?_map,List.getElem?_eq_getElem h];rfl
def i1M (b:Nat):Nat→Value
 |0=> .pointer none
 |_+1=>ptr b
theorem a2K (b i:Nat):i1M b i= .pointer none∨i1M b i=ptr b:=by cases i<;>simp[i1M]
set_option maxRecDepth 4000 in
theorem p1P (W:World) (a:Ad) (s:St) (at_:Int):a0F prog 114 #[ptr a.st,.int .i64 at_] (RS W a s) (Ran fT (RS W a) b0B (k0R at_ s)):=by
 by_cases h0:at_=0
 ·subst h0;rw[show k0R 0 s=(.ok (a0K 256),s) by unfold k0R;rw[if_pos rfl];rfl];refine en func114 ntmps114 fun R w0=> ?_;refine cg 15 (z0X 256 (by omega)) ?_;refine go 3 ?_;exact rR idh rfl
 ·have e0:k0R at_ s=a0B (g0W at_) (fun x=>f0N x 4) s:=by unfold k0R;rw[if_neg h0]
  refine en func114 ntmps114 fun R w0=> ?_;refine o0E (p:=l0R s.d) gFd fun hdk=> ?_;refine go 12 ?_;refine b0R rfl (by simpa using h0) ?_;refine go 6 ?_;refine a0X rfl Hb.o rfl (v0X W a s at_) gSp (fun x t ho=> ?_) (fun e t ho=>by refine pn ?_;exact kx ((by rw[e0];exact a0I ho)));refine ns ?_;obtain⟨hts,hln⟩:=q0M ho;rw[hts]at ho ⊢;have he0:k0R at_ s=r0W x 0 [] s:=by
   rw[e0,a0A ho];unfold r0W a0B;cases f0N x (4-0) s with
   |mk o u=>cases o<;>rfl
  have hsz:(hdL x).toArray.size=40:=by rw[List.size_toArray,w0R hln]
  have c1:(x.at_.map a0J).length=4:=by simp[hln.n]
  have c2:(x.sums.map fun n:Nat=>Value.int .u32 n).length=4:=by simp[hln.m]
  refine al fun b5=> ?_;refine a0M Sz.o rfl rfl hsz (f1W x) (by rw[hsz];simp[Value.cells]) (a0N (by rw[hsz];simp[Value.cells])) ?_;refine go 4 ?_;refine al fun b6=> ?_;refine go 4 ?_;refine b0V (L':=t0V b6 (.pointer none) (.slice none 0 0) []++(pts b5 (.cells (hdL x).toArray 230 (0,0))::RS W a s++ [R])) (fun w hs=>(e0W 5 1 w hs).re gSp) ?_;refine ns ?_;refine go 2 ?_;refine a0D (a0L Ag.o rfl (by show 0+0+4≤(hdL x).toArray.size;rw[hsz];omega) (d0X (a:= []) rfl c1)) ?_;refine go 4 ?_;refine a0V (X:= {y:Nat×B×Value // y.1≤4∧y.2.2.oneCell'=true∧y.2.1.length=64*y.1∧k0R at_ s=r0W x y.1 y.2.1 s}) (fun y=> [(0,ptr a.st),(5,ptr b5),(6,ptr b6),(17,.agg (x.at_.map a0J).toArray),(18,.int .i64 y.1.1)]) (fun y=>t0V b6 (i1M b6 y.1.1) y.1.2.2 y.1.2.1++(pts b5 (.cells (hdL x).toArray 230 (0,0))::RS W a s++ [R])) (fun y=>4-y.1.1) ⟨(0,[],.slice none 0 0),by omega,rfl,rfl,he0⟩ gSu gSp ?_;rintro⟨⟨i,acc,v⟩,hi,hv,hac,he⟩ m0 hm0
  try simp only at hm0
  try dsimp only
  simp only at hi hv hac he;refine ns ?_;refine go 6 ?_;refine a0P rfl (fun hb19=> ?_) (fun hb19=> ?_)
  ·have hi4:i<4:=by have:=of_decide_eq_true hb19;omega
   have hil:i<x.at_.length:=by rw[hln.n];exact hi4
   have him:i<x.sums.length:=by rw[hln.m];exact hi4
   have hgi:=b1W hil;have hgs:=o2F him;refine go 7 ?_;refine a0D (p0V Tar.o Sc.o rfl rfl (by omega) (j0I a0J x.at_ i _ hil (by omega))) ?_;refine cg 6 (z0X 64 (by omega)) ?_;refine go 10 ?_;refine a0P rfl (fun hb24=> ?_) (fun hb24=> ?_)
   ·have hpos:0<x.at_.getD i 0:=by rw[hgi];exact of_decide_eq_true hb24
    refine go 7 ?_;refine a0X rfl Hb.o rfl (e1B W a s x.at_[i]) gSp (fun bb t ho=> ?_) (fun e t ho=>by refine pn ?_;exact kx ((by rw[he];exact o2G hi4 hpos (by rw[hgi];exact ho))));refine ns ?_;obtain⟨hts,hrd⟩:=w0Q ho;rw[hts]at ho ⊢;have hb64:=u1K hdk hrd;refine go 4 ?_;refine mx (.soft 0 (.r 3 4 (.hard 1 (.hard 2 (.soft 7 .done))))) [pts b5 (.cells (hdL x).toArray 230 (0,0))] ?_;refine go 4 ?_;refine c0V rfl (b0M Sc.o rfl (w2F c1 him (by omega))) ?_;refine go 1 ?_;refine bl fun b32=> ?_;refine cg 3 (s0I b32 1 (bs bb) (by rw[b0F,hb64];simp[maxLen])) ?_;refine go 5 ?_;refine a0P rfl (fun hb38=> ?_) (fun hb38=> ?_)
    ·refine go 1 ?_;refine c0G rfl Hb.o rfl (c0S 11) gSp ?_;refine ns ?_;refine pn ?_;exact b0W (by rw[he];exact t2L hi4 hpos (by rw[hgi];exact ho) (by rw[hgs];have h:=hb38;simp only[bne_iff_ne,ne_eq]at h;unfold f0V;omega)) idh gSp
    ·have hcr:f0V bb=x.sums.getD i 0:=by rw[hgs];have h:=hb38;simp only[bne_eq_false_iff_eq]at h;unfold f0V;omega
     refine ce 4 (b1V b6 (i1M b6 i) v (a2K b6 i) acc bb (by rw[hac];omega) (by omega)) ?_;rintro v41 hv41;refine ns ?_;refine go 6 ?_;exact rd idh (⟨(i+1,acc++bb,v41),hi4,hv41,by rw[List.length_append,hac,hb64];omega,he.trans (t2M hi4 hpos (by rw[hgi];exact ho) hcr)⟩)
   ·have hpos: ¬0<x.at_.getD i 0:=by rw[hgi];exact of_decide_eq_false hb24
    refine ce 4 (b1V b6 (i1M b6 i) v (a2K b6 i) acc (a0K 64) (by rw[hac];omega) (by simp[a0K])) ?_;rintro v41 hv41;refine ns ?_;refine go 6 ?_;exact rd idh (⟨(i+1,acc++a0K 64,v41),hi4,hv41,by rw[List.length_append,hac];simp[a0K];omega,he.trans (i2Y hi4 hpos)⟩)
  ·obtain rfl:i=4:=by have:=of_decide_eq_false hb19;omega
   refine cg 4 (e1I b6 (i1M b6 4) v acc (w2E hac (by omega)) (by rw[hac];omega)) ?_;refine go 3 ?_;exact rR idh (he.trans o2H)
end
section
theorem u1L {s:St} (k:B) (h:s.log.length<1000000000):g0Z k s=(.ok (),{s with log:=bk s.depth s.log (.index k (a0E k s.index)),index:=b0C k s.index}):=by
 simp[g0Z,a0B,back,show ¬1000000000≤s.log.length by omega]
theorem x1U {s:St} (k:B) (v:Int) (h:s.log.length<1000000000):e0X k v s=(.ok (),{s with log:=bk s.depth s.log (.index k (a0E k s.index)),index:=b0T k v s.index}):=by
 simp[e0X,a0B,back,show ¬1000000000≤s.log.length by omega]
def PB {α:Type} (m:M α):Prop:= ∀s,(m s).2.bits=s.bits
theorem b0P {α β:Type} {m:M α} {f:α→M β} (h:PB m) (hf: ∀a,PB (f a)):PB (a0B m f):=fun s=>by
 unfold a0B;have h1:=h s;cases e:m s with
 |mk o t=>
  rw[e]at h1;cases o with
  |ok a=>exact(hf a t).trans h1
  |err e=>exact h1
  |big=>exact h1
theorem d0C {α:Type} (a:α):PB (ret a:M α):=fun _=>rfl
theorem n1G (st:c0P):PB (back st):=fun s=>by unfold back;split<;>rfl
theorem l1E {α:Type} {m:St→M α} (h: ∀s,PB (m s)):PB (fun s=>m s s):=fun s=>h s s
theorem s0J (st:St→c0P) (f:St→St) (hf: ∀s,(f s).bits=s.bits):PB (a0B (fun s=>back (st s) s) fun _ s=>(.ok (),f s)):=b0P (l1E (m:=fun s=>back (st s)) fun _=>n1G _) fun _ s=>hf s
theorem b1Y (k v:Int):PB (g0R k v):=s0J _ (fun s=> {s with refs:=b0T k v s.refs}) fun _=>rfl
theorem x1V (k:Int):PB (k0P k):=s0J _ (fun s=> {s with refs:=b0C k s.refs}) fun _=>rfl
theorem x1W (k v:Int):PB (l0N k v):=s0J _ (fun s=> {s with young:=b0T k v s.young}) fun _=>rfl
theorem u1M (k:Int):PB (f0D k):=s0J _ (fun s=> {s with young:=b0C k s.young}) fun _=>rfl
theorem e2B (l:List Int):PB (h0D l):=fun s=>by
 unfold h0D;split
 ·rfl
 ·exact s0J (fun s=> .gone s.gone) (fun s=> {s with gone:=l}) (fun _=>rfl) s
theorem t0W (k:Int):PB (e0B k):=fun s=>by
 unfold e0B;split
 ·rfl
 ·split
  ·rfl
  ·split
   ·refine b0P (x1V k) (fun _=>b0P (fun s=>n1G (.back k) {s with g:=mvL s.fr s.g k 1 2}) fun _=>b0P (fun s=> ?_) fun _=>d0C true) s;split
    ·exact b0P (u1M k) (fun _=>l1E (m:=fun s=>h0D (s.gone++ [k])) fun _=>e2B _) s
    ·rfl
   ·exact b0P (b1Y k _) (fun _=>d0C false) s
theorem t2N (f:Dk→Out Unit×Dk):PB (s0R f):=fun s=>by unfold s0R;cases f s.d;rfl
theorem s0K (b:B):PB (e0M b):=fun s=>by
 unfold e0M;split
 ·rfl
 ·exact b0P (fun s=>n1G _ {s with g:=g0V s.g}) (fun _=>b0P (b1Y _ _) fun _=>b0P (x1W _ _) fun _=>b0P (t2N _) fun _=>d0C _) s
def r0F (x:Hd) (l:List Int) (s:St):Out Unit×St:=a0B (i0D j0A l) (fun _ s=>g0Z (key s.bits x.sum) s) s
section
variable {x:Hd} {k:Int} {l:List Int} {s t:St}
theorem i2Z (h:(r0F x (k::l) s).1≠ .big) (hk:0<k):(e0B k s).1≠ .big:=by
 have h1:=c0I h;unfold i0D at h1;have h2:=c0I h1;unfold j0A at h2;rw[if_pos hk]at h2;exact c0I h2
theorem j2A {e:Int} (hk:0<k) (ho:e0B k s=(.err e,t)):r0F x (k::l) s=(.err e,t):=by
 unfold r0F i0D;rw[a0I];rw[a0I];unfold j0A;rw[if_pos hk,a0I ho]
theorem o2I {b:Bool} (hk:0<k) (ho:e0B k s=(.ok b,t)):r0F x (k::l) s=r0F x l t:=by
 have h1:j0A k s=(.ok (),t):=by unfold j0A;rw[if_pos hk,a0A ho];rfl
 unfold r0F
 conv=>lhs;unfold i0D
 unfold a0B;rw[h1]
theorem e2C (hk: ¬0<k):r0F x (k::l) s=r0F x l s:=by
 have h1:j0A k s=(.ok (),s):=by unfold j0A;rw[if_neg hk];rfl
 unfold r0F
 conv=>lhs;unfold i0D
 unfold a0B;rw[h1]
theorem j2B:r0F x [] s=g0Z (key s.bits x.sum) s:=by unfold r0F i0D;rw[a0A (show(ret ():M Unit) s=(.ok (),s)from rfl)]
theorem q1K {k:B} (h:(g0Z k s).1≠ .big):s.log.length<1000000000:=t0E h fun h'=>by simp[g0Z,a0B,back,h']
end
theorem u1N {K V:Type} [DecidableEq K] {k:K} {p:K×V} : ∀ {m:List (K×V)},p∈b0C k m→p∈m
 | [],h=>h
 | (j,u)::m,h=>by
  unfold b0C at h;split at h
  ·exact List.mem_cons_of_mem _ h
  ·rcases List.mem_cons.1 h with h|h
   ·rw[h];exact List.mem_cons_self ..
   ·exact List.mem_cons_of_mem _ (u1N h)
theorem t2O {x:Hd} (hln:y0N x):(hdL x).toArray.extract (0+8) (0+8+32)=(x.sum.map a0Q).toArray:=by
 rw[show hdL x=(x.at_.map a0J++(x.sums.map fun n:Nat=>Value.int .u32 n))++(x.sum.map a0Q++ []) by simp[hdL]];exact d0X (by rw[List.length_append,List.length_map,List.length_map,hln.n,hln.m]) (by rw[List.length_map,hln.sum])
set_option maxRecDepth 4000 in
theorem b1Z (W:World) (a:Ad) (s:St) (at_:Int) (hbits:s.bits≤256) (hnb:(g0D at_ s).1≠ .big):a0F prog 196 #[ptr a.st,.int .i64 at_] (RS W a s) (Ran fT (RS W a) k0I (g0D at_ s)):=by
 by_cases h0:at_=0
 ·subst h0;rw[show g0D 0 s=(.ok (),s) by unfold g0D;rw[if_pos rfl];rfl];refine en func196 ntmps196 fun R w0=> ?_;refine go 8 ?_;exact rR idh rfl
 ·have e0:g0D at_ s=a0B (g0W at_) (fun x=>a0B (e0B at_) fun b=>if b then a0B (i0D j0A x.at_) fun _ s=>g0Z (key s.bits x.sum) s else ret ()) s:=by unfold g0D;rw[if_neg h0]
  refine en func196 ntmps196 fun R w0=> ?_;refine go 7 ?_;refine b0R rfl (by simpa using h0) ?_;refine go 6 ?_;refine a0X rfl Hb.o rfl (v0X W a s at_) gSp (fun x t ho=> ?_) (fun e t ho=>by refine pn ?_;exact kx ((by rw[e0];exact a0I ho)));refine ns ?_;obtain⟨hts,hln⟩:=q0M ho;rw[hts]at ho ⊢;rw[a0A ho]at e0;have hsz:(hdL x).toArray.size=40:=by rw[List.size_toArray,w0R hln]
  have c1:(x.at_.map a0J).length=4:=by simp[hln.n]
  have hnb1:(e0B at_ s).1≠ .big:=by rw[e0]at hnb;exact c0I hnb
  refine al fun b4=> ?_;refine a0M Sz.o rfl rfl hsz (f1W x) (by rw[hsz];simp[Value.cells]) (a0N (by rw[hsz];simp[Value.cells])) ?_;refine go 10 ?_;refine a0X rfl Hb.o rfl (b1T W a s at_ hnb1) gSp (fun b t ho=> ?_) (fun e t ho=>by refine pn ?_;exact kx ((by rw[e0];exact a0I ho)));refine ns ?_;have ho17:=ho;rw[a0A ho17]at e0;refine go 3 ?_;refine a0P rfl (fun hb18=> ?_) (fun hb18=> ?_)
  ·have hbf:b=false:=by simpa using hb18
   exact rR idh (by rw[e0,hbf];rfl)
  ·have hbt:b=true:=by simpa using hb18
   have he0:g0D at_ s=r0F x (x.at_.drop 0) t:=by rw[e0,hbt];rfl
   refine go 6 ?_;refine a0D (a0L Ag.o rfl (by show 0+0+4≤(hdL x).toArray.size;rw[hsz];omega) (d0X (a:= []) rfl c1)) ?_;refine go 4 ?_;refine a0V (X:= {y:Nat×St // y.1≤4∧y.2.bits=s.bits∧g0D at_ s=r0F x (x.at_.drop y.1) y.2}) (fun y=> [(0,ptr a.st),(4,ptr b4),(20,.agg (x.at_.map a0J).toArray),(21,.int .i64 y.1.1)]) (fun y=>RS W a y.1.2++ [pts b4 (.cells (hdL x).toArray 230 (0,0)),R]) (fun y=>4-y.1.1) ⟨(0,t),by omega,by have:=t0W at_ s;rw[ho17]at this;exact this,he0⟩ gSu gSp ?_;rintro⟨⟨i,u⟩,hi,hub,he⟩ m0 hm0
   try simp only at hm0
   try dsimp only
   simp only at hi hub he;refine ns ?_;refine go 6 ?_;refine a0P rfl (fun hb22=> ?_) (fun hb22=> ?_)
   ·have hi4:i<4:=by have:=of_decide_eq_true hb22;omega
    have hil:i<x.at_.length:=by rw[hln.n];exact hi4
    rw[List.drop_eq_getElem_cons hil]at he;refine go 6 ?_;refine a0D (p0V Tar.o Sc.o rfl rfl (by omega) (j0I a0J x.at_ i _ hil (by omega))) ?_;refine go 9 ?_;refine a0P rfl (fun hb25=> ?_) (fun hb25=> ?_)
    ·have hpos:0<x.at_[i]:=of_decide_eq_true hb25;refine go 6 ?_;refine a0X rfl Hb.o rfl (b1T W a u x.at_[i] (by rw[he]at hnb;exact i2Z hnb hpos)) gSp (fun b' t' ho=> ?_) (fun e t ho=>by refine pn ?_;exact kx ((by rw[he];exact j2A hpos ho)));refine ns ?_;refine go 6 ?_;exact rd idh (⟨(i+1,t'),hi4,by have:=t0W x.at_[i] u;rw[ho]at this;exact this.trans hub,he.trans (o2I hpos ho)⟩)
    ·have hpos: ¬0<x.at_[i]:=of_decide_eq_false hb25;refine go 6 ?_;exact rd idh (⟨(i+1,u),hi4,hub,he.trans (e2C hpos)⟩)
   ·obtain rfl:i=4:=by have:=of_decide_eq_false hb22;omega
    rw[List.drop_eq_nil_of_le (by rw[hln.n];exact Nat.le_refl _),j2B]at he;have hlog:=q1K (show(g0Z (key u.bits x.sum) u).1≠ .big by rw[←he];exact hnb);rw[u1L _ hlog]at he;refine go 2 ?_;refine e0J gFd fun by_ gv gc o hg hok=> ?_;simp only[d0M,c0Y,List.cons_append,List.nil_append];refine mx (.r 0 17 (.hard 17 (.hard 18 .done))) [stC a u.bits,pts a.heap (.cells #[ptr a.disk,ptr a.log,ptr a.gr,.map (some a.refs),.map (some by_),gv,.int .i64 u.keep] 92 (0,0)),pts b4 (.cells (hdL x).toArray 230 (0,0))] ?_;refine go 12 ?_;refine c0V rfl (a0L (cs:=(hdL x).toArray) (v:=(x.sum.map a0Q).toArray) Ag.o rfl (by rw[hsz];omega) (t2O hln)) ?_;refine cg 5 (v0W x.sum u.bits hln.sum (by omega)) ?_;refine ce 3 (t1J a by_ o u.log u.depth u.index (c0W u.bits x.sum) hlog hok.2.2.2 (by rw[i0J,hln.sum])) ?_;rintro e _;refine ns ?_;refine go 3 ?_;refine b0G (d0A (s:= {u with log:=bk u.depth u.log (.index (key u.bits x.sum) (a0E (key u.bits x.sum) u.index)),index:=b0C (key u.bits x.sum) u.index}) hg (by exact⟨hok.1,hok.2.1,hok.2.2.1,fun p hp=>hok.2.2.2 p (u1N hp)⟩) gSp) (w0D he rfl rfl gSp)
end
theorem j2C (a b:B):(!((bs a).toList == (bs b).toList))=decide (a≠b):=by
 rw[c0C,c0C];by_cases e:a=b
 ·subst e;simp
 ·simp[e]
set_option maxRecDepth 4000 in
theorem e2D (W:World) (a:Ad) (s:St) (data:B) (hl:data.length≤1000000) (h256:data.length≠256∨a0R data=true):a0F prog 164 #[ptr a.st,b0B data] (RS W a s) (Ran fT (RS W a) a0J (i0Q data s)):=by
 by_cases h0:data.length=256
 ·have hz:a0R data=true:=h256.resolve_left (fun h=>h h0);rw[show i0Q data s=(.ok 0,s) by unfold i0Q;rw[if_neg (by simp[h0]),if_pos hz];rfl];refine en func164 ntmps164 fun R w0=> ?_;refine go 10 ?_;rw[b0F];refine go 3 ?_;refine b0R rfl (by rw[h0];rfl) ?_;refine cg 6 (y0M data (by omega)) ?_;refine go 8 ?_;exact rR idh rfl
 ·rw[show i0Q data s=(.err 4,s) by unfold i0Q;rw[if_pos h0];rfl];refine en func164 ntmps164 fun R w0=> ?_;refine go 10 ?_;rw[b0F];refine go 3 ?_;refine d0R rfl (by simp only[bne_iff_ne,ne_eq];omega) ?_;refine go 1 ?_;refine c0G rfl Hb.o rfl (c0S 4) gSp ?_;refine ns ?_;refine pn ?_;exact b0W rfl idh gSp
set_option maxRecDepth 4000 in
theorem e2E (W:World) (hW:h0W W) (a:Ad) (s:St) (data:B) (h256:data.length=256) (hz:a0R data=false) (hbits:s.bits≤256) (a0:Int) (hm:a0E (key s.bits (Sha.sum data)) s.index=some a0) (hnb:(i0Q data s).1≠ .big):
 a0F prog 164 #[ptr a.st,b0B data] (RS W a s) (Ran fT (RS W a) a0J (i0Q data s)):=by
 have e0:i0Q data s=a0B (k0R a0) (fun was=>if was≠data then n0Q 9 else a0B (k0E a0) fun _=>ret a0) s:=by
  unfold i0Q;rw[if_neg (by simp[h256]),if_neg (by simp[hz])];simp only[hm]
 have hD:=p0L data;have hs2:((Sha.sum data).map a0Q).toArray.size=32:=by rw[List.size_toArray,List.length_map,hD]
 refine en func164 ntmps164 fun R w0=> ?_;refine go 10 ?_;rw[b0F];refine go 3 ?_;refine b0R rfl (by rw[h256];rfl) ?_;refine cg 6 (y0M data (by omega)) ?_;refine go 8 ?_;refine bl fun b19=> ?_;refine e0K (fun w hs=>n1E (n:=1) (b:=b19) (l:= [b0B data]) (e:=9) rfl ((show Fnd _ (pts b19 _) _ from gFd).sat hs) (by simp[maxLen])) ?_;refine cg 0 (n1D W hW (.slice (some ⟨b19,0,none⟩) 1 1) [data] (by simp[h256]) (by simp)) ?_;rw[show [data].flatten=data by simp];refine al fun b5=> ?_;refine a0M Sz.o rfl rfl hs2 (fun x hx=>by simp at hx;obtain⟨_,_,rfl⟩:=hx;rfl) (by rw[hs2];simp[Value.cells]) (a0N (by rw[hs2];simp[Value.cells])) ?_;refine go 4 ?_;refine e0J gFd fun by_ gv gc o hg hok=> ?_;simp only[d0M,c0Y,List.cons_append,List.nil_append];refine mx (.r 0 9 (.hard 9 (.r 10 6 .done))) [stC a s.bits,pts b5 (.cells ((Sha.sum data).map a0Q).toArray 44 (0,0)),b0L a.ix e0C a0J s.index] ?_;refine go 4 ?_;refine c0V rfl (a0L Ag.o rfl (by rw[hs2];omega) (a0G hs2)) ?_;refine cg 5 (v0W (Sha.sum data) s.bits hD hbits) ?_;refine go 2 ?_;refine c0V rfl (p0J (ek:=e0C) (ev:=a0J) (k:=c0W s.bits (Sha.sum data)) d0I.o d1U hok.2.2.2 (by rw[i0J,hD]) Zr.o rfl rfl gFd f0J) ?_;refine go 6 ?_;refine b0G (d0A hg hok gSp) ?_;rw[show a0E (c0W s.bits (Sha.sum data)) s.index=some a0 from hm];refine go 12 ?_;refine a0X rfl Hb.o rfl (p1P W a s a0) gSp (fun was t ho=> ?_) (fun e t ho=>by refine pn ?_;exact kx ((by rw[e0];exact a0I ho)));refine ns ?_;refine go 1 ?_;rw[a0A ho]at e0;refine a0D (h0X rfl rfl) ?_;refine go 2 ?_;refine a0P rfl (fun hb40=> ?_) (fun hb40=> ?_)
 ·refine go 1 ?_;refine c0G rfl Hb.o rfl (c0S 9) gSp ?_;refine ns ?_;refine pn ?_;exact b0W (by rw[e0];have hne:was≠data:=of_decide_eq_true ((j2C was data).symm.trans hb40);rw[if_pos hne];rfl) idh gSp
 ·have hne: ¬was≠data:=of_decide_eq_false ((j2C was data).symm.trans hb40);rw[if_neg hne]at e0;refine go 9 ?_;skip;refine a0X rfl Hb.o rfl (b1R W a t a0 (by rw[e0]at hnb;exact c0I hnb)) gSp (fun u t2 ho=> ?_) (fun e t ho=>by refine pn ?_;exact kx ((by rw[e0];exact a0I ho)));refine ns ?_;refine go 8 ?_;exact rR idh (by rw[e0,a0A ho];rfl)
section
abbrev RSb (W:World) (a:Ad) (bits:Nat) (s:St):List a0C:= [whole W,dkC a s.d,dkR a s.d,m0K (l0R s.d),stC a bits,mpC a,HL a s]
theorem u1O {W:World} {a:Ad} {bits:Nat} {α:Type} {val:α→Value} {o:Out α×St} {e:Ending} {L:List a0C} (h:o.2.bits=bits):Ran fT (RSb W a bits) val o e L↔Ran fT (RS W a) val o e L:=by
 obtain⟨o,t⟩:=o;have h:t.bits=bits:=h;subst h;cases o<;>exact Iff.rfl
theorem _root_.Go.Sl.a0F.mono_ran {P:Program} {f:FuncId} {args:Array Value} {Pre:List a0C} {Post Post':Ending→List a0C→Prop} (h:a0F P f args Pre Post) (hp: ∀e L,Post e L→Post' e L):a0F P f args Pre Post':=by
 intro w F hs;refine(h w F hs).mono ?_;rintro e w' ⟨L',h1,h2⟩;exact⟨L',hp _ _ h1,h2⟩
theorem i1N (data:B): ∀n,PB (m0X data n)
 |0=>d0C _
 |n+1=>by
  unfold m0X;refine b0P ?_ fun p=>b0P (i1N data n) fun r=>d0C _;split
  ·exact d0C _
  ·exact b0P (s0K _) fun _=>d0C _
theorem g1T (k:B) (v:Int):PB (e0X k v):=s0J _ (fun s=> {s with index:=b0T k v s.index}) fun _=>rfl
theorem j2D (W:World) (a:Ad) (s:St) (b:B) (bits:Nat) (hb:b.length≤1000000) (hbits:s.bits=bits) (hnb:(e0M b s).1≠ .big):a0F prog 202 #[ptr a.heap,b0B b] (RSb W a bits s) (Ran fT (RSb W a bits) a0J (e0M b s)):=by
 subst hbits;exact(p1A W a s b hb hnb).mono_ran (fun e L h=>(u1O (s0K b s)).2 h)
def z0F (ps:List (Int×Nat)):List (Int×Nat):=ps++List.replicate (4-ps.length) (0,0)
def hdP (data:B) (ps:List (Int×Nat)):Hd:= {at_:=(z0F ps).map (·.1),sums:=(z0F ps).map (·.2),sum:=Sha.sum data}
theorem j2E {ps:List (Int×Nat)} (h:ps.length<4):z0F (ps++ [(0,0)])=z0F ps:=by
 unfold z0F;obtain⟨m,hm⟩: ∃m,4-ps.length=m+1:=⟨4-ps.length-1,by omega⟩;rw[List.length_append,hm,List.replicate_succ,List.append_assoc];simp only[List.length_cons,List.length_nil,List.singleton_append];rw[show 4- (ps.length+(0+1))=m by omega]
theorem u1P {ps:List (Int×Nat)} (h:ps.length≤4):(z0F ps).length=4:=by unfold z0F;simp;omega
theorem i1O {data:B} {ps:List (Int×Nat)} (h:ps.length≤4) (hc: ∀p∈ps,p.2<4294967296):y0N (hdP data ps):=by
 refine⟨by simp[hdP,u1P h],by simp[hdP,u1P h],fun c hcm=> ?_,p0L data⟩;simp only[hdP,List.mem_map]at hcm;obtain⟨p,hp,rfl⟩:=hcm;unfold z0F at hp;rcases List.mem_append.1 hp with hp|hp
 ·exact hc p hp
 ·rw[List.eq_of_mem_replicate hp];decide
theorem o2J {data:B} {ps:List (Int×Nat)} (h:ps.length=4):hdP data ps= {at_:=ps.map (·.1),sums:=ps.map (·.2),sum:=Sha.sum data} :=by
 unfold hdP z0F;rw[h];simp
theorem a2L {data:B} {ps:List (Int×Nat)} {i o1 o2:Nat} {x:Int} {c:Nat} (h:ps.length=i) (hi:i<4) (h1:o1=i) (h2:o2=4+i):((hdL (hdP data ps)).set o1 (a0J x)).set o2 (.int .u32 (c:Nat))=hdL (hdP data (ps++ [(x,c)])):=by
 subst h1 h2;unfold hdL hdP z0F
 match ps,h,hi with
 | [],h,_=>subst h;rfl
 | [p],h,_=>subst h;rfl
 | [p,q],h,_=>subst h;rfl
 | [p,q,r],h,_=>subst h;rfl
 |_::_::_::_::_,h,hi=>simp only[List.length_cons]at h;omega
def r0X (data:B) (i:Nat) (ps:List (Int×Nat)) (s:St):Out Int×St:=a0B (m0X data (4-i)) (fun r=>a0B (e0M (h0F {at_:=(ps++r).map (·.1),sums:=(ps++r).map (·.2),sum:=Sha.sum data})) fun a=>a0B (fun s=>e0X (key s.bits (Sha.sum data)) a s) fun _=>ret a) s
section
variable {data:B} {i:Nat} {ps:List (Int×Nat)} {s t:St}
theorem c1A (h:i<4):r0X data i ps s=a0B (a0B (if a0R (Go.Sb.part data i)then ret (0,0)else a0B (e0M (Go.Sb.part data i)) fun a=>ret (a,f0V (Go.Sb.part data i))) fun p=>a0B (m0X data (4- (i+1))) fun r=>ret (p::r)) (fun r=>a0B (e0M (h0F {at_:=(ps++r).map (·.1),sums:=(ps++r).map (·.2),sum:=Sha.sum data})) fun a=>a0B (fun s=>e0X (key s.bits (Sha.sum data)) a s) fun _=>ret a) s:=by
 unfold r0X;obtain⟨n,hn⟩: ∃n,4-i=n+1:=⟨4-i-1,by omega⟩;have hk:4- (n+1)=i:=by omega
 have hk2:4- (i+1)=n:=by omega
 rw[hn,hk2]
 conv=>lhs;unfold m0X
 simp only[hk]
theorem p1Q (c:M (Int×Nat)) {p:Int×Nat} (hc:c s=(.ok p,t)):a0B (a0B c fun p=>a0B (m0X data (4- (i+1))) fun r=>ret (p::r)) (fun r=>a0B (e0M (h0F {at_:=(ps++r).map (·.1),sums:=(ps++r).map (·.2),sum:=Sha.sum data})) fun a=>a0B (fun s=>e0X (key s.bits (Sha.sum data)) a s) fun _=>ret a) s=r0X data (i+1) (ps++ [p]) t:=by
 unfold r0X;simp only[List.append_assoc,List.singleton_append];unfold a0B;rw[hc];simp only;cases m0X data (4- (i+1)) t with
 |mk o u=>cases o<;>rfl
theorem j2F (h:i<4) (hz:a0R (Go.Sb.part data i)=true):r0X data i ps s=r0X data (i+1) (ps++ [(0,0)]) s:=by
 rw[c1A h];exact p1Q _ (by rw[if_pos hz];rfl)
theorem t2P {a:Int} (h:i<4) (hz:a0R (Go.Sb.part data i)=false) (ho:e0M (Go.Sb.part data i) s=(.ok a,t)):r0X data i ps s=r0X data (i+1) (ps++ [(a,f0V (Go.Sb.part data i))]) t:=by
 rw[c1A h];exact p1Q _ (by rw[if_neg (by simp[hz]),a0A ho];rfl)
theorem o2K {e:Int} (h:i<4) (hz:a0R (Go.Sb.part data i)=false) (ho:e0M (Go.Sb.part data i) s=(.err e,t)):r0X data i ps s=(.err e,t):=by
 rw[c1A h];rw[a0I];rw[a0I];rw[if_neg (by simp[hz]),a0I ho]
theorem o2L (h:i<4) (hz:a0R (Go.Sb.part data i)=false) (hnb:(r0X data i ps s).1≠ .big):(e0M (Go.Sb.part data i) s).1≠ .big:=by
 rw[c1A h]at hnb;have h1:=c0I (c0I hnb);rw[if_neg (by simp[hz])]at h1;exact c0I h1
theorem o2M (h:ps.length=4):r0X data 4 ps s=a0B (e0M (h0F (hdP data ps))) (fun a=>a0B (fun s=>e0X (key s.bits (Sha.sum data)) a s) fun _=>ret a) s:=by
 unfold r0X;rw[a0A (show m0X data (4-4) s=(.ok [],s)from rfl),List.append_nil,o2J h]
theorem u1Q {k:B} {v:Int} (h:(e0X k v s).1≠ .big):s.log.length<1000000000:=t0E h fun h'=>by simp[e0X,a0B,back,h']
end
theorem u1R {K V:Type} [DecidableEq K] {k:K} {v:V} {p:K×V} : ∀ {m:List (K×V)},p∈b0T k v m→p=(k,v)∨p∈m
 | [],h=>by simpa [b0T] using h
 | (j,u)::m,h=>by
  unfold b0T at h;split at h
  ·rcases List.mem_cons.1 h with h|h
   ·exact .inl h
   ·exact .inr (List.mem_cons_of_mem _ h)
  ·rcases List.mem_cons.1 h with h|h
   ·exact .inr (by rw[h];exact List.mem_cons_self ..)
   ·rcases u1R h with h|h
    ·exact .inl h
    ·exact .inr (List.mem_cons_of_mem _ h)
theorem o2N {data:B} {i lo hi:Nat} (h1:lo=64*i) (h2:hi=64*i+64):(bs data).extract lo hi=bs (Go.Sb.part data i):=by
 subst h1 h2;rw[k1O,List.drop_take,show 64*i+64-64*i=64 by omega];rfl
theorem u1S {place:Nat→Option (Nat×Nat)} {i off size:Nat} {vs cs:List Value} (h:place i=some (off,size)) (h1:vs.length=size) (h2:off+size≤cs.length):l0Y place cs [(i,vs)]=some (cs.take off++(vs++cs.drop (off+size))):=by
 unfold l0Y;rw[h];simp only[l0Y];rw[show(Nat.beq vs.length size&&Nat.ble (off+vs.length) cs.length)=true by simp[h1,h2],h1]
theorem e1J {b:B} (h:b.length≤60):(u0D b).length=64:=by unfold u0D;rw[List.length_append,q0H h,m0A]
theorem t2Q {x:Hd} (h:y0N x):(h0F x).length=64:=by
 unfold h0F;refine e1J ?_;rw[List.length_append,List.length_append,List.length_append,h0S (k:=2) (fun a=>j0W a 2),h0S (k:=4) (fun a=>m0A a 4 4),h.n,h.m,h.sum];decide
set_option maxRecDepth 8000 in
theorem o2O (W:World) (hW:h0W W) (a:Ad) (s:St) (data:B) (h256:data.length=256) (hz:a0R data=false) (hbits:s.bits≤256) (hm:a0E (key s.bits (Sha.sum data)) s.index=none) (hnb:(i0Q data s).1≠ .big):
 a0F prog 164 #[ptr a.st,b0B data] (RS W a s) (Ran fT (RS W a) a0J (i0Q data s)):=by
 have e0':i0Q data s=r0X data 0 [] s:=by
  unfold i0Q;rw[if_neg (by simp[h256]),if_neg (by simp[hz])];simp only[hm];rfl
 have hpb:(i0Q data s).2.bits=s.bits:=by
  rw[e0'];exact b0P (i1N data 4) (fun r=>b0P (s0K _) fun a=>b0P (l1E (m:=fun s=>e0X (key s.bits (Sha.sum data)) a) fun _=>g1T _ _) fun _=>d0C _) s
 refine a0F.mono_ran (Post:=Ran fT (RSb W a s.bits) a0J (i0Q data s)) ?_ (fun e L h=>(u1O hpb).1 h);have hsz0:(hdL (hdP data [])).toArray.size=40:=by rw[List.size_toArray,w0R (i1O (by simp) (by simp))]
 have e0:i0Q data s=r0X data 0 [] s:=by
  unfold i0Q;rw[if_neg (by simp[h256]),if_neg (by simp[hz])];simp only[hm];rfl
 have hD:=p0L data;have hs2:((Sha.sum data).map a0Q).toArray.size=32:=by rw[List.size_toArray,List.length_map,hD]
 refine en func164 ntmps164 fun R w0=> ?_;refine go 10 ?_;rw[b0F];refine go 3 ?_;refine b0R rfl (by rw[h256];rfl) ?_;refine cg 6 (y0M data (by omega)) ?_;refine go 8 ?_;refine bl fun b19=> ?_;refine e0K (fun w hs=>n1E (n:=1) (b:=b19) (l:= [b0B data]) (e:=9) rfl ((show Fnd _ (pts b19 _) _ from gFd).sat hs) (by simp[maxLen])) ?_;refine cg 0 (n1D W hW (.slice (some ⟨b19,0,none⟩) 1 1) [data] (by simp[h256]) (by simp)) ?_;rw[show [data].flatten=data by simp];refine al fun b5=> ?_;refine a0M Sz.o rfl rfl hs2 (fun x hx=>by simp at hx;obtain⟨_,_,rfl⟩:=hx;rfl) (by rw[hs2];simp[Value.cells]) (a0N (by rw[hs2];simp[Value.cells])) ?_;refine go 4 ?_;refine e0J gFd fun by_ gv gc o hg hok=> ?_;simp only[d0M,c0Y,List.cons_append,List.nil_append];refine mx (.r 0 9 (.hard 9 (.r 10 6 .done))) [stC a s.bits,pts b5 (.cells ((Sha.sum data).map a0Q).toArray 44 (0,0)),b0L a.ix e0C a0J s.index] ?_;refine go 4 ?_;refine c0V rfl (a0L Ag.o rfl (by rw[hs2];omega) (a0G hs2)) ?_;refine cg 5 (v0W (Sha.sum data) s.bits hD hbits) ?_;refine go 2 ?_;refine c0V rfl (p0J (ek:=e0C) (ev:=a0J) (k:=c0W s.bits (Sha.sum data)) d0I.o d1U hok.2.2.2 (by rw[i0J,hD]) Zr.o rfl rfl gFd f0J) ?_;refine go 6 ?_;refine b0G (d0A hg hok gSp) ?_;rw[show a0E (c0W s.bits (Sha.sum data)) s.index=none from hm];refine go 11 ?_;refine a0D (a0L Ag.o rfl (by rw[hs2];omega) (a0G hs2)) ?_;refine a0D (s0B (cs:=hdL (hdP data [])) Pl.o rfl ((u1S (i:=2) (off:=8) (size:=32) (vs:=(Sha.sum data).map a0Q) rfl (by simp[hD]) (by exact Nat.le_refl 40)).trans (congrArg some (show(List.replicate 4 (a0J 0)++List.replicate 4 (Value.int .u32 0))++((Sha.sum data).map a0Q++ [])=_ by rw[List.append_nil];rfl)))) ?_;refine al fun b8=> ?_;refine a0M Sz.o rfl rfl hsz0 (f1W _) (by rw[hsz0];exact Nat.le_refl 40) (a0N (by rw[hsz0];rfl)) ?_;refine go 9 ?_;refine a0V (X:= {y:Nat×St×List (Int×Nat) // y.1≤4∧y.2.2.length=y.1∧(∀p∈y.2.2,p.2<4294967296)∧y.2.1.bits=s.bits∧i0Q data s=r0X data y.1 y.2.2 y.2.1}) (fun y=> [(0,ptr a.st),(1,b0B data),(5,ptr b5),(8,ptr b8),(51,.int .i64 y.1.1)]) (fun y=>RSb W a s.bits y.1.2.1++ [pts b8 (.cells (hdL (hdP data y.1.2.2)).toArray 230 (0,0)),pts b5 (.cells ((Sha.sum data).map a0Q).toArray 44 (0,0)),R]) (fun y=>4-y.1.1) ⟨(0,s,[]),by omega,rfl,by simp,rfl,e0⟩ gSu gSp ?_;rintro⟨⟨i,u,ps⟩,hi,hpl,hpc,hub,he⟩ m0 hm0
 try simp only at hm0
 try dsimp only
 simp only at hi hpl hpc hub he;refine ns ?_;refine go 6 ?_;refine a0P rfl (fun hb52=> ?_) (fun hb52=> ?_)
 ·have hi4:i<4:=by have:=of_decide_eq_true hb52;omega
  have hbz:(bs data).size=256:=by rw[b0F,h256]
  have hpt:=Go.Sb.h1W h256 hi4;refine go 18 ?_;refine a0D (e1Y Tst.o rfl rfl rfl (by omega)) ?_;refine go 4 ?_;rw[o2N (data:=data) (i:=i) (by omega) (by omega)];refine cg 2 (y0M (Go.Sb.part data i) (by omega)) ?_;refine go 3 ?_;refine a0P rfl (fun hb63=> ?_) (fun hb63=> ?_)
  ·have hnz:a0R (Go.Sb.part data i)=false:=by simpa using hb63
   have hL40:(hdL (hdP data ps)).length=40:=w0R (i1O (by omega) hpc);refine fx (.r 0 7 (.soft 8 (.soft 11 (.soft 14 (.float 9 (.hard 7 (.soft 12 (.res (.hard 10 (.hard 13 (.soft 15 (.hard 16 .done)))))))))))) [stC a s.bits] ?_;refine go 10 ?_;refine s0Q (e0:= [(72,_)]) rfl gSu (fun _ _ _=>rfl) Tsl.o Zr.o rfl rfl rfl (by simp[l0Y,q0Y,Value.cells]<;>rfl) rfl ?_;refine c0F rfl (fun hok EE FF=> ?_);refine ns ?_;refine a0X rfl Hb.o rfl (j2D W a u (Go.Sb.part data i) s.bits (by omega) hub (by rw[he]at hnb;exact o2L hi4 hnz hnb)) gSp (fun x t ho=> ?_) (fun e t ho=>by refine pn ?_;exact kx ((by rw[he];exact o2K hi4 hnz ho)));refine ns ?_;refine go 1 ?_;refine fn (E:=EE) (F:=FF) (hok.put rfl) ?_;refine go 1 ?_;refine n0A (fun b73=> ?_);dsimp only;refine c0F rfl (fun hok EE FF=> ?_);refine ns ?_;refine cg 0 (s0I b73 1 (bs (Go.Sb.part data i)) (by rw[b0F,hpt];simp[maxLen])) ?_;refine go 1 ?_;refine fn (E:=EE) (F:=FF) (hok.put rfl) ?_;refine c0F rfl (fun hok EE FF=> ?_);refine ns ?_;refine d0P Sz.o rfl rfl rfl (by rw[Nat.blt_eq];(try rw[List.length_set]);rw[hL40];omega) rfl ?_;refine go 1 ?_;refine fn (E:=EE) (F:=FF) hok ?_;refine go 1 ?_;refine c0F rfl (fun hok EE FF=> ?_);refine ns ?_;refine d0P Sz.o rfl rfl rfl (by rw[Nat.blt_eq];(try rw[List.length_set]);rw[hL40];omega) rfl ?_;refine go 1 ?_;refine fn (E:=EE) (F:=FF) hok ?_;refine go 1 ?_
   first|rw[a2L hpl hi4 (by omega) (by omega)]|rw[List.set_comm _ _ (by omega),a2L hpl hi4 (by omega) (by omega)]
   refine go 5 ?_;exact rd idh (⟨(i+1,t,ps++ [(x,f0V (Go.Sb.part data i))]),hi4,by simp[hpl],by intro p hp;rcases List.mem_append.1 hp with hp|hp;(· exact hpc p hp);(· rw[List.mem_singleton.1 hp];exact x0R _),(by have:=s0K (Go.Sb.part data i) u;rw[ho]at this;exact this.trans hub),he.trans (t2P hi4 hnz ho)⟩)
  ·have hnz:a0R (Go.Sb.part data i)=true:=by simpa using hb63
   have hps:hdP data ps=hdP data (ps++ [(0,0)]):=by unfold hdP;rw[j2E (by omega)]
   rw[hps];refine go 6 ?_;exact rd idh (⟨(i+1,u,ps++ [(0,0)]),hi4,by simp[hpl],by intro p hp;rcases List.mem_append.1 hp with hp|hp;(· exact hpc p hp);(· rw[List.mem_singleton.1 hp];decide),hub,he.trans (j2F hi4 hnz)⟩)
 ·obtain rfl:i=4:=by have:=of_decide_eq_false hb52;omega
  have hln:=i1O (data:=data) (by omega) hpc;have hsz:(hdL (hdP data ps)).toArray.size=40:=by rw[List.size_toArray,w0R hln]
  rw[o2M hpl]at he;refine go 3 ?_;refine mx (.r 0 5 (.hard 5 (.hard 6 (.soft 7 .done)))) [stC a s.bits,pts b8 (.cells (hdL (hdP data ps)).toArray 230 (0,0))] ?_;refine go 4 ?_;refine c0V rfl (a0L Ag.o rfl (by rw[hsz];omega) (a0G hsz)) ?_;refine cg 1 (u1E (hdP data ps) hln) ?_;refine go 3 ?_;refine a0X rfl Hb.o rfl (j2D W a u (h0F (hdP data ps)) s.bits (by rw[t2Q hln];omega) hub (by rw[he]at hnb;exact c0I hnb)) gSp (fun x t ho=> ?_) (fun e t ho=>by refine pn ?_;exact kx ((by rw[he];exact a0I ho)));refine ns ?_;refine go 6 ?_;have htb:t.bits=s.bits:=by have:=s0K (h0F (hdP data ps)) u;rw[ho]at this;exact this.trans hub
  rw[a0A ho]at he;have hlog:=u1Q (show(e0X (key t.bits (Sha.sum data)) x t).1≠ .big by rw[he]at hnb;exact c0I hnb);rw[a0A (m:=fun s=>e0X (key s.bits (Sha.sum data)) x s) (show _=_ from x1U _ _ hlog),htb]at he;refine e0J gFd fun by_ gv gc o hg hok=> ?_;simp only[d0M,c0Y,List.cons_append,List.nil_append];refine mx (.r 0 16 (.soft 17 (.hard 16 (.hard 18 .done)))) [stC a s.bits,pts a.heap (.cells #[ptr a.disk,ptr a.log,ptr a.gr,.map (some a.refs),.map (some by_),gv,.int .i64 t.keep] 92 (0,0)),pts b5 (.cells ((Sha.sum data).map a0Q).toArray 44 (0,0))] ?_;refine go 11 ?_;refine c0V rfl (a0L Ag.o rfl (by rw[hs2];omega) (a0G hs2)) ?_;refine cg 6 (v0W (Sha.sum data) s.bits hD hbits) ?_;refine ce 3 (x1G a by_ o t.log t.depth t.index (c0W s.bits (Sha.sum data)) x hlog hok.2.2.2 (by rw[i0J,hD])) ?_;rintro e _;refine ns ?_;refine go 10 ?_;refine b0V (d0A (s:= {t with log:=bk t.depth t.log (.index (key s.bits (Sha.sum data)) (a0E (key s.bits (Sha.sum data)) t.index)),index:=b0T (key s.bits (Sha.sum data)) x t.index}) hg (by exact⟨hok.1,hok.2.1,hok.2.2.1,fun p hp=>by rcases u1R hp with h|h;(· rw[h];exact(by unfold key;rw[i0J,hD]));(· exact hok.2.2.2 p h)⟩) gSp) (p0I he idh rfl rfl gSp)
end
end Go.Proofs.Q
