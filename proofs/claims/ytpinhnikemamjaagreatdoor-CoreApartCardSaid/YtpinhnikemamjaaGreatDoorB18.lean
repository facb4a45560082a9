/- Part of the proof; no statement of its own. -/
import Derived.Test.YtpinhnikemamjaaGreatDoorB16
import Derived.Test.YtpinhnikemamjaaGreatDoorB08
import Derived.Test.YtpinhnikemamjaaGreatDoorB17
import Derived.Test.YtpinhnikemamjaaGreatDoorB12
import Derived.Shelf.Strings.Builder1
import Derived.Shelf.Strings.Builder2
import Derived.Test.YtpinhnikemamjaaGreatDoorB07
set_option linter.all false
set_option maxRecDepth 4000
set_option maxHeartbeats 4000000
namespace Go.Proofs.Q
open Go.Sl Go.Sb
section
theorem k1T {e:TypeId} {b n:Nat} {l:List Value} {w:World} {L:List a0E} (hn:n=l.length) (h:Sat w (pts b (.cells l.toArray e (0,0))::L)) (hm:n≤maxLen):Sat w (c0E e 1 (.slice (some ⟨b,0,none⟩) n n) n l::L):=
 r0I h (Nat.le_refl _) hm (by rw[Nat.mul_one,hn]) (by rw[Nat.mul_one,hn,List.take_of_length_le (Nat.le_refl _)])
set_option maxRecDepth 8000 in
attribute [local irreducible] Sl.a0L Sl.OW Sl.CW Sl.OS Sl.OM Sl.OMf Sl.KM
theorem v1B (W:World) (hW:h0L W) (level:Nat) (hlv:level<256) (ss:List B) (h8:ss.length=8) (h32: ∀s∈ss,s.length=32):
 a0S Tryz.prog 243 #[.int .i64 level,a2V ss] [whole W] (b0G (e0J (f0X level ss)) [whole W]):=by
 have hXe:(ss.map (·.map fun c:UInt8=>(c.toNat:Int))).flatMap (·.map (Value.int .u8))=ss.flatMap (·.map a0Z):=by
  rw[List.flatMap_map];simp only[List.map_map];rfl
 have hsl:=f1X h32
 have hsz:(ss.flatMap (·.map a0Z)).toArray.size=256:=by rw[List.size_toArray,hsl,h8]
 have hfl:ss.flatten.length=256:=by
  have:ss.flatten.length=ss.length*32:=by
   clear hXe hsl hsz h8
   induction ss with
   |nil=>rfl
   |cons s ss ih=>simp only[List.flatten_cons,List.length_append,List.length_cons,h32 s (List.mem_cons_self ..),ih fun x hx=>h32 x (List.mem_cons_of_mem _ hx)];omega
  rw[this,h8]
 unfold a2V
 refine a0C Tryz.func243 rfl Tryz.ntmps243 rfl (fun R w0=> ?_)
 simp only[a0N,List.cons_append,List.nil_append]
 refine go 2 ?_
 refine(a0X rfl (fun b3=> ?_))
 refine(a0U Zr.o (fun b4=> ?_))
 refine go 1 ?_
 rw[show(Value.agg (ss.flatMap (·.map a0Z)).toArray).cells=(ss.flatMap (·.map a0Z)).toArray from rfl]
 refine go 4 ?_
 refine a0F (a0O (v:=((ss.map (·.map fun c:UInt8=>(c.toNat:Int))).flatMap (·.map (Value.int .u8))).toArray) Ag.o rfl (by have h:=hsz;show 0+256≤(ss.flatMap (·.map a0Z)).toArray.size;omega) (by rw[hXe];exact a0I hsz)) ?_
 refine a0F (q0E (cs:=(List.replicate 8 (List.replicate 32 (0:Int))).flatMap (·.map (Value.int .u8))) Tar.o Zr.o rfl (by rfl)) ?_
 refine a0F (z1R (X:=ss.map (·.map fun c:UInt8=>(c.toNat:Int))) (Y:=List.replicate 8 (List.replicate 32 (0:Int))) (k:= .u8) F.eb301 rfl rfl (by rw[List.length_map,h8]) (by simp) (fun x hx=>by obtain⟨s,hs,rfl⟩:=List.mem_map.1 hx;rw[List.length_map,h32 s hs]) (fun x hx=>by rw[List.eq_of_mem_replicate hx];simp)) ?_
 refine go 2 ?_
 refine b0C rfl (fun hb10=> ?_) (fun hb10=> ?_)
 ·refine go 2 ?_
  refine a0F (q0E (cs:=List.replicate 32 (Value.int .u8 0)) Tar.o Zr.o rfl (by rfl)) ?_
  refine a0K Sz.o rfl rfl (by rfl) (by simp[Value.oneCell']) (by simp[Value.cells]) (a0R (by rfl)) ?_
  refine go 2 ?_
  exact p0L (fun _ _ h=>h) (RV.agg Ag.o rfl (by simp) (a0I (by rfl)) RV.nil) (by unfold f0X;rw[if_pos ((i1S ss h8 h32).symm.trans hb10)];rfl) gSp
 ·have hall:ss.all (· == a0T 32)=false:=(i1S ss h8 h32).symm.trans hb10
  refine go 6 ?_
  rw[show IntKind.u8.wrap (level:Int)=((UInt8.ofNat level).toNat:Int)from by rw[IntKind.wrap_u8,UInt8.toNat_ofNat'];omega]
  refine(b0P Tsl.o Zr.o rfl rfl rfl (by simp[d0B,d0K,Value.cells]<;>rfl) (fun b14=> ?_))
  refine a0F (h1L Tsl.o Tst.o Tby.o rfl (l:= [UInt8.ofNat level]) rfl rfl) ?_
  refine(b0P Tsl.o Zr.o rfl rfl rfl (by simp[d0B,d0K,Value.cells]<;>rfl) (fun b16=> ?_))
  refine go 5 ?_
  refine c0S (fun w hs=>k1T (n:=2) (b:=b16) (l:= [b0H [78],b0H [UInt8.ofNat level]]) (e:=9) rfl ((show Fnd _ (pts b16 _) _ from gFd).sat hs) (by simp[maxLen])) ?_
  refine go 1 ?_
  refine a0F (a0O (cs:=(ss.flatMap fun s:B=>s.map a0Z).toArray) (v:=(ss.flatMap fun s:B=>s.map a0Z).toArray) Ag.o rfl (by have h:=hsz;show 0+256≤(ss.flatMap (·.map a0Z)).toArray.size;omega) (a0I hsz)) ?_
  refine go 4 ?_
  refine b0S (X:= {y:Nat×Value // y.1≤8∧y.2.oneCell'=true}) (fun y=> [(3,ptr b3),(4,ptr b4),(5,y.1.2),(17,.agg (ss.flatMap (·.map a0Z)).toArray),(18,.int .i64 y.1.1)]) (fun y=>c0E 9 1 y.1.2 (2+y.1.1) (b0H [78]::b0H [UInt8.ofNat level]::(ss.take y.1.1).map b0H):: [pts b3 (.cells (ss.flatMap (·.map a0Z)).toArray 301 (0,0)),pts b4 (.cells (List.replicate 32 (Value.int .u8 0)).toArray 44 (0,0)),whole W,R]) (fun y=>8-y.1.1) ⟨(0,.slice (some ⟨b16,0,none⟩) 2 2),by omega,rfl⟩ gSu gSp ?_
  rintro⟨⟨i,v⟩,hi,hv⟩ m0 hm0
  try simp only at hm0
  try dsimp only
  simp only at hi hv
  refine go 6 ?_
  refine b0C rfl (fun hb19=> ?_) (fun hb19=> ?_)
  ·have hi8:i<8:=by have:=of_decide_eq_true hb19;omega
   have hil:i<ss.length:=by omega
   have hsi:=h32 ss[i] (List.getElem_mem hil)
   have hs1:(ss[i].map a0Z).toArray.size=32:=by rw[List.size_toArray,List.length_map,hsi]
   refine go 6 ?_
   refine a0F (i2A Tar.o Ag.o rfl rfl (by omega) (p2F h32 hil (by omega))) ?_
   refine(a0U Zr.o (fun b7=> ?_))
   refine a0K Sz.o rfl rfl hs1 (fun x hx=>by simp at hx;obtain⟨_,_,rfl⟩:=hx;rfl) (by rw[hs1];simp[Value.cells]) (a0R (by rw[hs1];simp[Value.cells])) ?_
   refine go 4 ?_
   refine a0F (a0O Ag.o rfl (by rw[hs1];omega) (a0I hs1)) ?_
   refine a0D rfl Hb.o rfl (s0H ss[i] hsi) gSp ?_
   refine ns ?_
   refine(b0P Tsl.o Zr.o rfl rfl rfl (by simp[d0B,d0K,Value.cells]<;>rfl) (fun b24=> ?_))
   refine(e0F Tsl.o Ttb.o Zr.o rfl rfl rfl gFd (h0O Tsl.o (by simp;rfl) (by simp) (by simp[Value.oneCell'])) (by simp only[maxLen];omega) (by omega) (fun v25 hv25=> ?_))
   refine go 2 ?_
   simp only[List.cons_append]
   rw[show(ss.take i).map b0H++ [b0H ss[i]]=(ss.take (i+1)).map b0H from by rw[List.take_succ,List.getElem?_eq_getElem hil,List.map_append];rfl]
   refine go 5 ?_
   refine b0Q (fun _ _ h=>h) (⟨(i+1,v25),hi8,hv25⟩) (by first|omega| (simp only;omega)) gSu gSp
  ·obtain rfl:i=8:=by have:=of_decide_eq_false hb19;omega
   rw[List.take_of_length_le (by omega)]
   refine go 3 ?_
   rw[show 2+8=([78]:: [UInt8.ofNat level]::ss:List B).length from by simp[h8]]
   refine go 2 ?_
   refine a0D rfl Hb.o rfl (k1S W hW v ([78]:: [UInt8.ofNat level]::ss) (by simp only[List.flatten_cons,List.length_append,hfl,List.length_singleton];omega) (by simp only[List.length_cons];omega)) gSp ?_
   refine ns ?_
   have hD:=q0F ([78]:: [UInt8.ofNat level]::ss).flatten
   have hdg:f0X level ss=Sha.sum ([78]:: [UInt8.ofNat level]::ss).flatten:=by unfold f0X;rw[if_neg (by simp[hall])];rfl
   generalize Sha.sum ([78]:: [UInt8.ofNat level]::ss).flatten=D at hD hdg ⊢
   have hs2:(D.map a0Z).toArray.size=32:=by rw[List.size_toArray,List.length_map,hD]
   refine a0K Sz.o rfl rfl hs2 (fun x hx=>by simp at hx;obtain⟨_,_,rfl⟩:=hx;rfl) (by rw[hs2];simp) (a0R (by rw[hs2];simp)) ?_
   refine go 2 ?_
   exact p0L (fun _ _ h=>h) (RV.agg Ag.o rfl (by rw[hs2];omega) (a0I hs2) RV.nil) (by rw[hdg];rfl) gSp
end
section
theorem v0M {at_:Int} {s t:St} {b:B} (h:i0E at_ s=(.ok b,t)):t=s∧m0X s.d at_= .ok b:=by
 unfold i0E at h;split at h
 ·cases h
 ·simp only[Prod.mk.injEq]at h;exact⟨h.2.symm,h.1⟩
theorem m1Y {d:Dk} (hd:l0L d) {at_:Int} {b:B} (h:m0X d at_= .ok b):b.length≤64:=by
 unfold m0X at h
 split at h
 ·cases h
 ·split at h
  ·cases h
  ·rename_i h1
   simp only[Out.ok.injEq]at h
   have hlt:at_.toNat<d.l.length:=by omega
   rw[List.getD_eq_getElem?_getD,List.getElem?_eq_getElem hlt]at h
   have:=(hd.1 _ (List.getElem_mem hlt)).2
   rw[←h];simp only[Option.getD_some];omega
theorem c1I {b:B} {x:Hd} (h:h0D b= .ok x):z0U x:=by
 unfold h0D at h
 cases ho:h0C b with
 |err e=>rw[ho]at h;cases h
 |big=>rw[ho]at h;cases h
 |ok t=>
  rw[ho]at h
  simp only at h
  have ht:t=b.take 60∧b.length=64:=by
   unfold h0C at ho
   split at ho
   ·cases ho
   ·split at ho
    ·cases ho
    ·split at ho
     ·cases ho
     ·split at ho
      ·cases ho
      ·rename_i h4;cases ho;exact⟨rfl,by omega⟩
  split at h
  ·cases h
  ·split at h
   ·cases h
   ·cases h
    refine⟨by simp[k0L],k0L 4 4 _,fun c hc=> ?_,by simp;rw[ht.1];simp;omega⟩
    obtain⟨i,hi,rfl⟩:=List.getElem_of_mem hc
    rw[w0G]
    exact d1V _
theorem v0N {x:Hd} (h:z0U x):(hdL x).length=40:=by unfold hdL;simp[h.n,h.m,h.sum]
theorem d1X (x:Hd): ∀v∈(hdL x).toArray.toList,v.oneCell'=true:=by
 intro v hv
 simp only[hdL,List.mem_append,List.mem_map]at hv
 rcases hv with ⟨_,_,rfl⟩| ⟨_,_,rfl⟩| ⟨_,_,rfl⟩<;>rfl
attribute [local irreducible] Sl.a0L Sl.OW Sl.CW Sl.OS Sl.OM Sl.OMf Sl.KM
theorem z0X (W:World) (a:Ad) (s:St) (at_:Int):a0S Tryz.prog 159 #[ptr a.st,.int .i64 at_] (RS W a s) (Ran fT (RS W a) hdV (h0M at_ s)):=by
 refine a0C Tryz.func159 rfl Tryz.ntmps159 rfl (fun R w0=> ?_)
 simp only[a0N,List.cons_append,List.nil_append]
 refine o0Z (p:=l0L s.d) gFd fun hdk=> ?_
 refine go 2 ?_
 refine(a0U Zr.o (fun b4=> ?_))
 refine go 9 ?_
 refine b0F rfl Hb.o rfl (b1Z W a s at_) gSp (fun b t ho=> ?_) (fun e t ho=>by(repeat (first|with_reducible refine a0G ?_|with_reducible refine a0M ?_));exact a0Y ((by unfold h0M;exact a0Q ho)) (fun _ _ h=>h) gSp)
 refine ns ?_
 obtain⟨rfl,hrd⟩:=v0M ho
 have hbl:=m1Y hdk hrd
 have ho1:=ho
 refine b0F rfl Hb.o rfl (q1Y b (by omega)) gSp (fun x u ho=> ?_) (fun e t ho=>by(repeat (first|with_reducible refine a0G ?_|with_reducible refine a0M ?_));exact a0Y ((by unfold h0M;rw[a0A ho1];unfold s0Z;rw[show h0D b= .err e from congrArg Prod.fst ho])) (fun _ _ h=>h) gSp)
 refine ns ?_
 have hx:h0D b= .ok x:=congrArg Prod.fst ho
 have hln:=c1I hx
 have hsz:(hdL x).toArray.size=40:=by rw[List.size_toArray,v0N hln]
 have hr:h0M at_ t=(.ok x,t):=by unfold h0M;rw[a0A ho1];unfold s0Z;rw[hx]
 refine a0K Sz.o rfl rfl hsz (d1X x) (by rw[hsz];simp[Value.cells]) (a0R (by rw[hsz];simp[Value.cells])) ?_
 refine go 2 ?_
 exact j0H hr (fun _ _ h=>h) (RV.agg Ag.o rfl (by rw[hsz];omega) (a0I hsz) RV.nil) rfl gSp
theorem r0P {at_:Int} {s t:St} {x:Hd} (h:h0M at_ s=(.ok x,t)):t=s∧z0U x:=by
 unfold h0M at h
 cases hg:i0E at_ s with
 |mk o u=>
  cases o with
  |ok b=>
   rw[a0A hg]at h
   unfold s0Z at h
   simp only[Prod.mk.injEq]at h
   exact⟨h.2.symm.trans (v0M hg).1,c1I h.1⟩
  |err e=>rw[a0Q hg]at h;cases h
  |big=>unfold a0B at h;rw[hg]at h;cases h
theorem a2W (W:World) (a:Ad) (s:St) (at_:Int) (hnb:(s0F at_ s).1≠ .big):a0S Tryz.prog 222 #[ptr a.st,.int .i64 at_] (RS W a s) (Ran fT (RS W a) k0P (s0F at_ s)):=by
 by_cases h0:at_=0
 ·subst h0
  have hr:s0F 0 s=(.ok (),s):=by unfold s0F;rw[if_pos rfl];rfl
  rw[hr]
  refine a0C Tryz.func222 rfl Tryz.ntmps222 rfl (fun R w0=> ?_)
  simp only[a0N,List.cons_append,List.nil_append]
  refine go 8 ?_
  exact d0X rfl rfl rfl gSp
 ·have hr:s0F at_ s=j0X at_ s:=by unfold s0F;rw[if_neg h0]
  rw[hr]at hnb ⊢
  refine a0C Tryz.func222 rfl Tryz.ntmps222 rfl (fun R w0=> ?_)
  simp only[a0N,List.cons_append,List.nil_append]
  refine go 6 ?_
  refine d0W rfl (by simpa using h0) ?_
  refine go 6 ?_
  refine b0F rfl Hb.o rfl (z0P W a s at_ hnb) gSp (fun u t ho=> ?_) (fun e t ho=>by(repeat (first|with_reducible refine a0G ?_|with_reducible refine a0M ?_));exact a0Y (ho) (fun _ _ h=>h) gSp)
  refine ns ?_
  refine go 1 ?_
  exact d0X ho rfl rfl gSp
theorem f2D (W:World) (a:Ad) (s:St) (at_:Int):a0S Tryz.prog 280 #[ptr a.st,.int .i64 at_] (RS W a s) (Ran fT (RS W a) e0J (q0R at_ s)):=by
 by_cases h0:at_=0
 ·subst h0
  have hr:q0R 0 s=(.ok (a0T 32),s):=by unfold q0R;rw[if_pos rfl];rfl
  rw[hr]
  refine a0C Tryz.func280 rfl Tryz.ntmps280 rfl (fun R w0=> ?_)
  simp only[a0N,List.cons_append,List.nil_append]
  refine go 2 ?_
  refine(a0U Zr.o (fun b4=> ?_))
  refine go 12 ?_
  refine a0F (q0E (cs:=List.replicate 32 (Value.int .u8 0)) Tar.o Zr.o rfl (by rfl)) ?_
  refine a0K Sz.o rfl rfl (by rfl) (by simp[Value.oneCell']) (by simp[Value.cells]) (a0R (by rfl)) ?_
  refine go 2 ?_
  exact j0H rfl (fun _ _ h=>h) (RV.agg Ag.o rfl (by simp) (a0I (by rfl)) RV.nil) rfl gSp
 ·have e0:q0R at_ s=a0B (h0M at_) (fun x=>ret x.sum) s:=by unfold q0R;rw[if_neg h0]
  refine a0C Tryz.func280 rfl Tryz.ntmps280 rfl (fun R w0=> ?_)
  simp only[a0N,List.cons_append,List.nil_append]
  refine go 2 ?_
  refine(a0U Zr.o (fun b4=> ?_))
  refine go 9 ?_
  refine c0C rfl (by simpa using h0) ?_
  refine go 6 ?_
  refine b0F rfl Hb.o rfl (z0X W a s at_) gSp (fun x t ho=> ?_) (fun e t ho=>by(repeat (first|with_reducible refine a0G ?_|with_reducible refine a0M ?_));exact a0Y ((by rw[e0];exact a0Q ho)) (fun _ _ h=>h) gSp)
  refine ns ?_
  obtain⟨hts,hln⟩:=r0P ho
  have hr:q0R at_ s=(.ok x.sum,t):=by rw[e0,a0A ho];rfl
  have hs2:(x.sum.map a0Z).toArray.size=32:=by rw[List.size_toArray,List.length_map,hln.sum]
  refine a0F (r0X (v:=(x.sum.map a0Z).toArray) F.fa230_2 rfl (by rw[show hdL x=(x.at_.map a0V++(x.sums.map fun n:Nat=>Value.int .u32 n))++(x.sum.map a0Z++ []) by simp[hdL]];exact e0M (by rw[List.length_append,List.length_map,List.length_map,hln.n,hln.m]) (by rw[List.length_map,hln.sum]))) ?_
  refine a0K Sz.o rfl rfl hs2 (fun x hx=>by simp at hx;obtain⟨_,_,rfl⟩:=hx;rfl) (by rw[hs2];simp[Value.cells]) (a0R (by rw[hs2];simp[Value.cells])) ?_
  refine go 2 ?_
  exact j0H hr (fun _ _ h=>h) (RV.agg Ag.o rfl (by rw[hs2];omega) (a0I hs2) RV.nil) rfl gSp
end
end Go.Proofs.Q
namespace Go.Proofs
open Go.RowKit
def Tryz.lays166_ren:Go.Shelf.Ren:=⟨fun|166=>60|240=>113|276=>158|n=>n,fun|0=>0|3=>3|4=>4|9=>9|20=>20|37=>113|70=>117|72=>119|75=>122|80=>48|164=>225|5=>5|n=>n,fun|n=>n⟩
theorem Tryz.lays166:Go.Proofs.Lays.n166 Tryz.prog Tryz.lays166_ren:= {
 mixed:=by kernel_rfl
 f166:=Tryz.func60.trans (congrArg some (by kernel_rfl))
 f240:=Tryz.func113.trans (congrArg some (by kernel_rfl))
 f276:=Tryz.func158.trans (congrArg some (by kernel_rfl))
 t0:=Tryz.underlying0
 a0:=Tryz.isAgg0
 z0:=Tryz.sizeOf0
 v0:=Tryz.zeroValue0
 t3:=Tryz.underlying3
 a3:=Tryz.isAgg3
 z3:=Tryz.sizeOf3
 v3:=Tryz.zeroValue3
 t4:=Tryz.underlying4
 a4:=Tryz.isAgg4
 z4:=Tryz.sizeOf4
 v4:=Tryz.zeroValue4
 t9:=Tryz.underlying9
 a9:=Tryz.isAgg9
 z9:=Tryz.sizeOf9
 v9:=Tryz.zeroValue9
 t20:=Tryz.underlying20
 a20:=Tryz.isAgg20
 z20:=Tryz.sizeOf20
 v20:=Tryz.zeroValue20
 t37:=Tryz.underlying113
 a37:=Tryz.isAgg113
 z37:=Tryz.sizeOf113
 v37:=Tryz.zeroValue113
 t70:=Tryz.underlying117
 a70:=Tryz.isAgg117
 z70:=Tryz.sizeOf117
 v70:=Tryz.zeroValue117
 t72:=Tryz.underlying119
 a72:=Tryz.isAgg119
 z72:=Tryz.sizeOf119
 v72:=Tryz.zeroValue119
 t75:=Tryz.underlying122
 a75:=Tryz.isAgg122
 z75:=Tryz.sizeOf122
 v75:=Tryz.zeroValue122
 t164:=Tryz.underlying225
 a164:=Tryz.isAgg225
 z164:=Tryz.sizeOf225
 v164:=Tryz.zeroValue225}
theorem Tryz.Builder_Extra_166:Builder.Extra Tryz.prog Tryz.lays166_ren:= {
 sizeBuilder:=by kernel_rfl
 liesBuilder:=by kernel_rfl
 t5:=Tryz.underlying5
 a5:=Tryz.isAgg5
 z5:=Tryz.sizeOf5
 v5:=Tryz.zeroValue5
 infoByte:=by kernel_rfl
 cellsByte:=by kernel_rfl
 sizeByte:=by kernel_rfl
 neB5:=by decide}
end Go.Proofs
namespace Go.Proofs.Q
open Go.Sl Go.Sb Go.RowKit
section
theorem x1L:Go.Proofs.Lays.n240 Tryz.prog Tryz.lays166_ren:= {Tryz.lays166 with}
theorem x72:Builder.X72 Tryz.prog Tryz.lays166_ren:= {Tryz.Builder_Extra_166 with}
abbrev t0D (b:Nat) (p v:Value) (l:B):List a0E:= [pts b (.cells #[p,v] 119 (0,0)),c0E 5 1 v l.length (l.map a0Z)]
theorem k1U (b:Nat) (p v:Value) (hp:p= .pointer none∨p=ptr b):a0S Tryz.prog 113 #[ptr b] [pts b (.cells #[p,v] 119 (0,0))] (b0G (.tuple #[]) [pts b (.cells #[ptr b,v] 119 (0,0))]):=by
 intro w F hs
 have hb:=Sat.pts hs
 rcases hp with rfl|rfl
 ·refine(Any.Builder_copyCheck_fresh x1L x72 b w (by simp[World.cell?,hb]) (by simp[World.shape?,hb];rfl) (by simp[World.frozen?,hb])).mono ?_
  rintro e w' ⟨rfl,rfl⟩
  refine⟨_,⟨rfl,rfl⟩,?_,?_⟩
  ·rw[e1L hb];exact hs.put
  ·rw[e1L hb];exact(d0Y.refl w).put _ _
 ·refine(Any.Builder_copyCheck_used x1L x72 b w (by simp[World.cell?,hb])).mono ?_
  rintro e w' ⟨rfl,rfl⟩
  exact⟨_,⟨rfl,rfl⟩,hs,d0Y.refl _⟩
attribute [local irreducible] Sl.a0L Sl.OW Sl.CW Sl.OS Sl.OM Sl.OMf Sl.KM
theorem z0Y (b:Nat) (p v:Value) (hp:p= .pointer none∨p=ptr b) (l s:B) (hl:l.length≤1000000) (hs:s.length≤1000000):
 a0S Tryz.prog 60 #[ptr b,b0H s] (t0D b p v l) (c0X (fun v':Value=>v'.oneCell'=true) (fun _=> .tuple #[.int .i64 s.length,.nilIface]) (fun v'=>t0D b (ptr b) v' (l++s))):=by
 have hbl:byteCells (bs s)=s.map a0Z:=by simp[byteCells,a0Z]
 refine a0C Tryz.func60 rfl Tryz.ntmps60 rfl (fun R w0=> ?_)
 simp only[a0N,List.cons_append,List.nil_append]
 refine go 9 ?_
 refine a0D rfl Hb.o rfl (k1U b p v hp) gSp ?_
 refine ns ?_
 refine go 10 ?_
 skip
 refine(e0F Tsl.o Ttb.o Zr.o rfl rfl rfl gFd (k1B Tst.o) (by rw[b0N];simp only[maxLen];omega) (by rw[b0N];omega) (fun v14 hv14=> ?_))
 rw[hbl,b0N,←List.map_append,←List.length_append]
 refine go 13 ?_
 refine d0Z v14 hv14 (fun _ _ h=>h) rfl rfl gSp
end
end Go.Proofs.Q
namespace Go.Proofs.Q
open Go.Sl Go.Sb
section
theorem k2P:Tryz.prog.cellsOf 5=1:=by kernel_rfl
attribute [local irreducible] Sl.a0L Sl.OW Sl.CW Sl.OS Sl.OM Sl.OMf Sl.KM
theorem c1J (b:Nat) (p v:Value) (l:B) (h0:l≠ []) (hl:l.length≤1000000):a0S Tryz.prog 62 #[ptr b] (t0D b p v l) (b0G (b0H l) []):=by
 have hpos:0<l.length:=List.length_pos_iff.2 h0
 refine a0C Tryz.func62 rfl Tryz.ntmps62 rfl (fun R w0=> ?_)
 simp only[a0N,List.cons_append,List.nil_append]
 refine n0U (e:=5) gFd hpos fun g cap hv hc=> ?_
 subst hv
 refine go 6 ?_
 refine d0H (.soft 0 (.soft 1 (.soft 2 (.soft 3 (.soft 5 (.soft 6 (.soft 7 (.soft 8 (.soft 9 (.hard 4 (.hard 10 (.soft 11 .done)))))))))))) [pts b (.cells #[p,.slice (some ⟨g,0,none⟩) l.length cap] 119 (0,0))] Fol.o (by kernel_rfl) (by repeat (first|with_reducible exact a0J.bp|with_reducible apply a0J.then|with_reducible apply a0J.inBlock)) gSp ?_
 refine go 10 ?_
 refine a0F (u1G rfl (by omega)) ?_
 refine go 3 ?_
 refine h1X Tryz.underlying197 k2P rfl rfl rfl gFd h0 (by omega) ?_
 refine go 5 ?_
 refine b0V (fun _ _ h=>h) rfl rfl gSp
theorem o1F (b:Nat) (p:Value):a0S Tryz.prog 62 #[ptr b] [pts b (.cells #[p,.slice none 0 0] 119 (0,0))] (b0G (b0H []) []):=by
 refine a0C Tryz.func62 rfl Tryz.ntmps62 rfl (fun R w0=> ?_)
 simp only[a0N,List.cons_append,List.nil_append]
 refine go 6 ?_
 refine d0H (.soft 0 (.soft 1 (.soft 2 (.soft 3 (.soft 5 (.soft 6 (.soft 7 (.soft 8 (.soft 9 (.hard 4 (.hard 10 (.soft 11 .done)))))))))))) [pts b (.cells #[p,.slice none 0 0] 119 (0,0))] Fol.o (by kernel_rfl) (by repeat (first|with_reducible exact a0J.bp|with_reducible apply a0J.then|with_reducible apply a0J.inBlock)) gSp ?_
 refine go 10 ?_
 refine a0F (p1G rfl) ?_
 refine go 3 ?_
 refine a0F (h1W rfl rfl) ?_
 refine go 5 ?_
 refine b0V (fun _ _ h=>h) rfl rfl gSp
end
section
theorem r1E {d:Dk} (hd:l0L d) {at_:Int} {b:B} (h:m0X d at_= .ok b):b.length=64:=by
 unfold m0X at h
 split at h
 ·cases h
 ·split at h
  ·cases h
  ·rename_i h1
   simp only[Out.ok.injEq]at h
   have hlt:at_.toNat<d.l.length:=by omega
   rw[List.getD_eq_getElem?_getD,List.getElem?_eq_getElem hlt]at h
   have:=(hd.1 _ (List.getElem_mem hlt)).2
   rw[←h];simp only[Option.getD_some];omega
theorem k2Q {l:List Nat} {i:Nat} (h:i<l.length):l.getD i 0=l[i]:=by rw[List.getD_eq_getElem?_getD,List.getElem?_eq_getElem h];rfl
theorem z0Z {l:List Int} {i:Nat} (h:i<l.length):l.getD i 0=l[i]:=by rw[List.getD_eq_getElem?_getD,List.getElem?_eq_getElem h];rfl
section
variable {x:Hd} {s t:St} {i:Nat} {acc b:B}
def r0D (x:Hd) (i:Nat) (acc:B) (s:St):Out B×St:=a0B (f0N x (4-i)) (fun r=>ret (acc++r)) s
theorem a1A (h:i<4):r0D x i acc s=a0B (a0B (if 0<x.at_.getD i 0 then a0B (i0E (x.at_.getD i 0)) fun s=>if f0T s≠x.sums.getD i 0 then n0F 11 else ret s else ret (a0T 64)) fun s=>a0B (f0N x (4- (i+1))) fun r=>ret (s++r)) (fun r=>ret (acc++r)) s:=by
 unfold r0D
 obtain⟨n,hn⟩: ∃n,4-i=n+1:=⟨4-i-1,by omega⟩
 have hk:4- (n+1)=i:=by omega
 have hk2:4- (i+1)=n:=by omega
 rw[hn,hk2]
 conv=>lhs;unfold f0N
 simp only[hk]
theorem m1Z (c:M B) {b:B} (hc:c s=(.ok b,s)):a0B (a0B c fun s=>a0B (f0N x (4- (i+1))) fun r=>ret (s++r)) (fun r=>ret (acc++r)) s=r0D x (i+1) (acc++b) s:=by
 unfold r0D a0B
 rw[hc]
 simp only
 cases f0N x (4- (i+1)) s with
 |mk o u=>
  cases o with
  |ok r=>simp only[ret,List.append_assoc]
  |err e=>rfl
  |big=>rfl
theorem n1A (c:M B) {e:Int} {t:St} (hc:c s=(.err e,t)):a0B (a0B c fun s=>a0B (f0N x (4- (i+1))) fun r=>ret (s++r)) (fun r=>ret (acc++r)) s=(.err e,t):=by
 unfold a0B;rw[hc]
theorem k2R {e:Int} (h:i<4) (h0:0<x.at_.getD i 0) (ho:i0E (x.at_.getD i 0) s=(.err e,t)):r0D x i acc s=(.err e,t):=by
 rw[a1A h];exact n1A _ (by rw[if_pos h0];exact a0Q ho)
theorem p2G (h:i<4) (h0:0<x.at_.getD i 0) (ho:i0E (x.at_.getD i 0) s=(.ok b,s)) (hc:f0T b≠x.sums.getD i 0):r0D x i acc s=(.err 11,s):=by
 rw[a1A h];exact n1A _ (by rw[if_pos h0,a0A ho,if_pos hc];rfl)
theorem p2H (h:i<4) (h0:0<x.at_.getD i 0) (ho:i0E (x.at_.getD i 0) s=(.ok b,s)) (hc:f0T b=x.sums.getD i 0):r0D x i acc s=r0D x (i+1) (acc++b) s:=by
 rw[a1A h];exact m1Z _ (by rw[if_pos h0,a0A ho,if_neg (by simp[hc])];rfl)
theorem f2E (h:i<4) (h0: ¬0<x.at_.getD i 0):r0D x i acc s=r0D x (i+1) (acc++a0T 64) s:=by
 rw[a1A h];exact m1Z _ (by rw[if_neg h0];rfl)
theorem k2S:r0D x 4 acc s=(.ok acc,s):=by unfold r0D a0B f0N;simp[ret]
end
theorem r2Q {acc:B} {i:Nat} (h:acc.length=64*i) (hi:0<i):acc≠ []:=by intro e;rw[e]at h;simp at h;omega
theorem r2R {x:Hd} {i k:Nat} (c1:(x.at_.map a0V).length=4) (h:i<x.sums.length) (hk:k=4+i):nth (hdL x) k=some (.int .u32 (x.sums[i]:Nat)):=by
 subst hk
 unfold hdL
 rw[e0L,List.getElem?_append_right (by omega),c1,Nat.add_sub_cancel_left,List.getElem?_append_left (by simpa using h),List.getElem?_map,List.getElem?_eq_getElem h];rfl
def f1Y (b:Nat):Nat→Value
 |0=> .pointer none
 |_+1=>ptr b
theorem x1M (b i:Nat):f1Y b i= .pointer none∨f1Y b i=ptr b:=by cases i<;>simp[f1Y]
set_option maxRecDepth 4000 in
attribute [local irreducible] Sl.a0L Sl.OW Sl.CW Sl.OS Sl.OM Sl.OMf Sl.KM
theorem n1B (W:World) (a:Ad) (s:St) (at_:Int):a0S Tryz.prog 114 #[ptr a.st,.int .i64 at_] (RS W a s) (Ran fT (RS W a) b0H (k0H at_ s)):=by
 by_cases h0:at_=0
 ·subst h0
  rw[show k0H 0 s=(.ok (a0T 256),s) by unfold k0H;rw[if_pos rfl];rfl]
  refine a0C Tryz.func114 rfl Tryz.ntmps114 rfl (fun R w0=> ?_)
  simp only[a0N,List.cons_append,List.nil_append]
  refine go 15 ?_
  refine a0D rfl Hb.o rfl (y0L 256 (by omega)) gSp ?_
  refine ns ?_
  refine go 3 ?_
  exact c0I rfl (fun _ _ h=>h) rfl rfl gSp
 ·have e0:k0H at_ s=a0B (h0M at_) (fun x=>f0N x 4) s:=by unfold k0H;rw[if_neg h0]
  refine a0C Tryz.func114 rfl Tryz.ntmps114 rfl (fun R w0=> ?_)
  simp only[a0N,List.cons_append,List.nil_append]
  refine o0Z (p:=l0L s.d) gFd fun hdk=> ?_
  refine go 12 ?_
  refine c0C rfl (by simpa using h0) ?_
  refine go 6 ?_
  refine b0F rfl Hb.o rfl (z0X W a s at_) gSp (fun x t ho=> ?_) (fun e t ho=>by(repeat (first|with_reducible refine a0G ?_|with_reducible refine a0M ?_));exact a0Y ((by rw[e0];exact a0Q ho)) (fun _ _ h=>h) gSp)
  refine ns ?_
  obtain⟨hts,hln⟩:=r0P ho
  rw[hts]at ho ⊢
  have he0:k0H at_ s=r0D x 0 [] s:=by
   rw[e0,a0A ho];unfold r0D a0B
   cases f0N x (4-0) s with
   |mk o u=>cases o<;>rfl
  have hsz:(hdL x).toArray.size=40:=by rw[List.size_toArray,v0N hln]
  have c1:(x.at_.map a0V).length=4:=by simp[hln.n]
  have c2:(x.sums.map fun n:Nat=>Value.int .u32 n).length=4:=by simp[hln.m]
  refine(a0U Zr.o (fun b5=> ?_))
  refine a0K Sz.o rfl rfl hsz (d1X x) (by rw[hsz];simp[Value.cells]) (a0R (by rw[hsz];simp[Value.cells])) ?_
  refine go 4 ?_
  refine(a0U Zr.o (fun b6=> ?_))
  refine go 4 ?_
  refine c0S (L':=t0D b6 (.pointer none) (.slice none 0 0) []++(pts b5 (.cells (hdL x).toArray 230 (0,0))::RS W a s++ [R])) (fun w hs=>(h0S 5 1 w hs).re gSp) ?_
  simp only[List.cons_append,List.nil_append]
  refine go 2 ?_
  refine a0F (a0O Ag.o rfl (by show 0+0+4≤(hdL x).toArray.size;rw[hsz];omega) (e0M (a:= []) rfl c1)) ?_
  refine go 4 ?_
  refine b0S (X:= {y:Nat×B×Value // y.1≤4∧y.2.2.oneCell'=true∧y.2.1.length=64*y.1∧k0H at_ s=r0D x y.1 y.2.1 s}) (fun y=> [(0,ptr a.st),(5,ptr b5),(6,ptr b6),(17,.agg (x.at_.map a0V).toArray),(18,.int .i64 y.1.1)]) (fun y=>t0D b6 (f1Y b6 y.1.1) y.1.2.2 y.1.2.1++(pts b5 (.cells (hdL x).toArray 230 (0,0))::RS W a s++ [R])) (fun y=>4-y.1.1) ⟨(0,[],.slice none 0 0),by omega,rfl,rfl,he0⟩ gSu gSp ?_
  rintro⟨⟨i,acc,v⟩,hi,hv,hac,he⟩ m0 hm0
  try simp only at hm0
  try dsimp only
  simp only at hi hv hac he
  simp only[List.cons_append,List.nil_append]
  refine go 6 ?_
  refine b0C rfl (fun hb19=> ?_) (fun hb19=> ?_)
  ·have hi4:i<4:=by have:=of_decide_eq_true hb19;omega
   have hil:i<x.at_.length:=by rw[hln.n];exact hi4
   have him:i<x.sums.length:=by rw[hln.m];exact hi4
   have hgi:=z0Z hil
   have hgs:=k2Q him
   refine go 7 ?_
   refine a0F (q0Y Tar.o Sc.o rfl rfl (by omega) (n0W a0V x.at_ i _ hil (by omega))) ?_
   refine go 6 ?_
   refine a0D rfl Hb.o rfl (y0L 64 (by omega)) gSp ?_
   refine ns ?_
   refine go 10 ?_
   refine b0C rfl (fun hb24=> ?_) (fun hb24=> ?_)
   ·have hpos:0<x.at_.getD i 0:=by rw[hgi];exact of_decide_eq_true hb24
    refine go 7 ?_
    refine b0F rfl Hb.o rfl (b1Z W a s x.at_[i]) gSp (fun bb t ho=> ?_) (fun e t ho=>by(repeat (first|with_reducible refine a0G ?_|with_reducible refine a0M ?_));exact a0Y ((by rw[he];exact k2R hi4 hpos (by rw[hgi];exact ho))) (fun _ _ h=>h) gSp)
    refine ns ?_
    obtain⟨hts,hrd⟩:=v0M ho
    rw[hts]at ho ⊢
    have hb64:=r1E hdk hrd
    refine go 4 ?_
    refine d0H (.soft 0 (.soft 3 (.soft 4 (.soft 5 (.soft 6 (.hard 1 (.hard 2 (.soft 7 .done)))))))) [pts b5 (.cells (hdL x).toArray 230 (0,0))] Fol.o (by kernel_rfl) (by repeat (first|with_reducible exact a0J.bp|with_reducible apply a0J.then|with_reducible apply a0J.inBlock)) gSp ?_
    refine go 4 ?_
    refine d0D rfl (b0T Sc.o rfl (r2R c1 him (by omega))) ?_
    refine go 1 ?_
    refine(b0P Tsl.o Zr.o rfl rfl rfl (by simp[d0B,d0K,Value.cells]<;>rfl) (fun b32=> ?_))
    refine go 3 ?_
    refine a0D rfl Hb.o rfl (r0N b32 1 (bs bb) (by rw[b0N,hb64];simp[maxLen])) gSp ?_
    refine ns ?_
    refine go 5 ?_
    refine b0C rfl (fun hb38=> ?_) (fun hb38=> ?_)
    ·refine go 1 ?_
     refine c0M rfl Hb.o rfl (d0C 11) gSp ?_
     simp only[List.cons_append,List.nil_append]
     refine pn ?_
     exact a0Y (by rw[he];exact p2G hi4 hpos (by rw[hgi];exact ho) (by rw[hgs];have h:=hb38;simp only[bne_iff_ne,ne_eq]at h;unfold f0T;omega)) (fun _ _ h=>h) gSp
    ·have hcr:f0T bb=x.sums.getD i 0:=by rw[hgs];have h:=hb38;simp only[bne_eq_false_iff_eq]at h;unfold f0T;omega
     refine go 4 ?_
     refine a0W rfl Hb.o rfl (z0Y b6 (f1Y b6 i) v (x1M b6 i) acc bb (by rw[hac];omega) (by omega)) gSp ?_
     rintro v41 hv41
     refine ns ?_
     refine go 6 ?_
     refine b0Q (fun _ _ h=>h) (⟨(i+1,acc++bb,v41),hi4,hv41,by rw[List.length_append,hac,hb64];omega,he.trans (p2H hi4 hpos (by rw[hgi];exact ho) hcr)⟩) (by first|omega| (simp only;omega)) gSu gSp
   ·have hpos: ¬0<x.at_.getD i 0:=by rw[hgi];exact of_decide_eq_false hb24
    refine go 4 ?_
    refine a0W rfl Hb.o rfl (z0Y b6 (f1Y b6 i) v (x1M b6 i) acc (a0T 64) (by rw[hac];omega) (by simp[a0T])) gSp ?_
    rintro v41 hv41
    refine ns ?_
    refine go 6 ?_
    refine b0Q (fun _ _ h=>h) (⟨(i+1,acc++a0T 64,v41),hi4,hv41,by rw[List.length_append,hac];simp[a0T];omega,he.trans (f2E hi4 hpos)⟩) (by first|omega| (simp only;omega)) gSu gSp
  ·obtain rfl:i=4:=by have:=of_decide_eq_false hb19;omega
   refine go 4 ?_
   refine a0D rfl Hb.o rfl (c1J b6 (f1Y b6 4) v acc (r2Q hac (by omega)) (by rw[hac];omega)) gSp ?_
   refine ns ?_
   refine go 3 ?_
   exact c0I (he.trans k2S) (fun _ _ h=>h) rfl rfl gSp
end
section
theorem r1F {s:St} (k:B) (h:s.log.length<1000000000):g0W k s=(.ok (),{s with log:=bk s.depth s.log (.index k (a0H k s.index)),index:=b0I k s.index}):=by
 simp[g0W,a0B,back,show ¬1000000000≤s.log.length by omega]
theorem v1C {s:St} (k:B) (v:Int) (h:s.log.length<1000000000):f0C k v s=(.ok (),{s with log:=bk s.depth s.log (.index k (a0H k s.index)),index:=c0F k v s.index}):=by
 simp[f0C,a0B,back,show ¬1000000000≤s.log.length by omega]
def PB {α:Type} (m:M α):Prop:= ∀s,(m s).2.bits=s.bits
theorem b0Y {α β:Type} {m:M α} {f:α→M β} (h:PB m) (hf: ∀a,PB (f a)):PB (a0B m f):=fun s=>by
 unfold a0B
 have h1:=h s
 cases e:m s with
 |mk o t=>
  rw[e]at h1
  cases o with
  |ok a=>exact(hf a t).trans h1
  |err e=>exact h1
  |big=>exact h1
theorem d0J {α:Type} (a:α):PB (ret a:M α):=fun _=>rfl
theorem k1V (st:c0Y):PB (back st):=fun s=>by unfold back;split<;>rfl
theorem i1T {α:Type} {m:St→M α} (h: ∀s,PB (m s)):PB (fun s=>m s s):=fun s=>h s s
theorem r0Q (st:St→c0Y) (f:St→St) (hf: ∀s,(f s).bits=s.bits):PB (a0B (fun s=>back (st s) s) fun _ s=>(.ok (),f s)):=b0Y (i1T (m:=fun s=>back (st s)) fun _=>k1V _) fun _ s=>hf s
theorem a1B (k v:Int):PB (g0S k v):=r0Q _ (fun s=> {s with refs:=c0F k v s.refs}) fun _=>rfl
theorem v1D (k:Int):PB (k0F k):=r0Q _ (fun s=> {s with refs:=b0I k s.refs}) fun _=>rfl
theorem v1E (k v:Int):PB (l0H k v):=r0Q _ (fun s=> {s with young:=c0F k v s.young}) fun _=>rfl
theorem r1G (k:Int):PB (f0H k):=r0Q _ (fun s=> {s with young:=b0I k s.young}) fun _=>rfl
theorem a2X (l:List Int):PB (g0Z l):=fun s=>by
 unfold g0Z;split
 ·rfl
 ·exact r0Q (fun s=> .gone s.gone) (fun s=> {s with gone:=l}) (fun _=>rfl) s
theorem t0E (k:Int):PB (e0I k):=fun s=>by
 unfold e0I
 split
 ·rfl
 ·split
  ·rfl
  ·split
   ·refine b0Y (v1D k) (fun _=>b0Y (fun s=>k1V (.back k) {s with g:=mvL s.fr s.g k 1 2}) fun _=>b0Y (fun s=> ?_) fun _=>d0J true) s
    split
    ·exact b0Y (r1G k) (fun _=>i1T (m:=fun s=>g0Z (s.gone++ [k])) fun _=>a2X _) s
    ·rfl
   ·exact b0Y (a1B k _) (fun _=>d0J false) s
theorem p2I (f:Dk→Out Unit×Dk):PB (s0B f):=fun s=>by unfold s0B;cases f s.d;rfl
theorem r0R (b:B):PB (e0S b):=fun s=>by
 unfold e0S
 split
 ·rfl
 ·exact b0Y (fun s=>k1V _ {s with g:=g0U s.g}) (fun _=>b0Y (a1B _ _) fun _=>b0Y (v1E _ _) fun _=>b0Y (p2I _) fun _=>d0J _) s
def q0H (x:Hd) (l:List Int) (s:St):Out Unit×St:=a0B (h0T i0Q l) (fun _ s=>g0W (key s.bits x.sum) s) s
section
variable {x:Hd} {k:Int} {l:List Int} {s t:St}
theorem f2F (h:(q0H x (k::l) s).1≠ .big) (hk:0<k):(e0I k s).1≠ .big:=by
 have h1:=c0R h
 unfold h0T at h1
 have h2:=c0R h1
 unfold i0Q at h2
 rw[if_pos hk]at h2
 exact c0R h2
theorem f2G {e:Int} (hk:0<k) (ho:e0I k s=(.err e,t)):q0H x (k::l) s=(.err e,t):=by
 unfold q0H h0T
 rw[a0Q]
 rw[a0Q]
 unfold i0Q;rw[if_pos hk,a0Q ho]
theorem k2T {b:Bool} (hk:0<k) (ho:e0I k s=(.ok b,t)):q0H x (k::l) s=q0H x l t:=by
 have h1:i0Q k s=(.ok (),t):=by unfold i0Q;rw[if_pos hk,a0A ho];rfl
 unfold q0H
 conv=>lhs;unfold h0T
 unfold a0B
 rw[h1]
theorem a2Y (hk: ¬0<k):q0H x (k::l) s=q0H x l s:=by
 have h1:i0Q k s=(.ok (),s):=by unfold i0Q;rw[if_neg hk];rfl
 unfold q0H
 conv=>lhs;unfold h0T
 unfold a0B
 rw[h1]
theorem f2H:q0H x [] s=g0W (key s.bits x.sum) s:=by unfold q0H h0T;rw[a0A (show(ret ():M Unit) s=(.ok (),s)from rfl)]
theorem o1G {k:B} (h:(g0W k s).1≠ .big):s.log.length<1000000000:=s0G h fun h'=>by simp[g0W,a0B,back,h']
end
theorem r1H {K V:Type} [DecidableEq K] {k:K} {p:K×V} : ∀ {m:List (K×V)},p∈b0I k m→p∈m
 | [],h=>h
 | (j,u)::m,h=>by
  unfold b0I at h
  split at h
  ·exact List.mem_cons_of_mem _ h
  ·rcases List.mem_cons.1 h with h|h
   ·rw[h];exact List.mem_cons_self ..
   ·exact List.mem_cons_of_mem _ (r1H h)
theorem p2J {x:Hd} (hln:z0U x):(hdL x).toArray.extract (0+8) (0+8+32)=(x.sum.map a0Z).toArray:=by
 rw[show hdL x=(x.at_.map a0V++(x.sums.map fun n:Nat=>Value.int .u32 n))++(x.sum.map a0Z++ []) by simp[hdL]]
 exact e0M (by rw[List.length_append,List.length_map,List.length_map,hln.n,hln.m]) (by rw[List.length_map,hln.sum])
set_option maxRecDepth 4000 in
attribute [local irreducible] Sl.a0L Sl.OW Sl.CW Sl.OS Sl.OM Sl.OMf Sl.KM
theorem a1C (W:World) (a:Ad) (s:St) (at_:Int) (hbits:s.bits≤256) (hnb:(g0A at_ s).1≠ .big):a0S Tryz.prog 196 #[ptr a.st,.int .i64 at_] (RS W a s) (Ran fT (RS W a) k0P (g0A at_ s)):=by
 by_cases h0:at_=0
 ·subst h0
  rw[show g0A 0 s=(.ok (),s) by unfold g0A;rw[if_pos rfl];rfl]
  refine a0C Tryz.func196 rfl Tryz.ntmps196 rfl (fun R w0=> ?_)
  simp only[a0N,List.cons_append,List.nil_append]
  refine go 8 ?_
  exact c0I rfl (fun _ _ h=>h) rfl rfl gSp
 ·have e0:g0A at_ s=a0B (h0M at_) (fun x=>a0B (e0I at_) fun b=>if b then a0B (h0T i0Q x.at_) fun _ s=>g0W (key s.bits x.sum) s else ret ()) s:=by unfold g0A;rw[if_neg h0]
  refine a0C Tryz.func196 rfl Tryz.ntmps196 rfl (fun R w0=> ?_)
  simp only[a0N,List.cons_append,List.nil_append]
  refine go 7 ?_
  refine c0C rfl (by simpa using h0) ?_
  refine go 6 ?_
  refine b0F rfl Hb.o rfl (z0X W a s at_) gSp (fun x t ho=> ?_) (fun e t ho=>by(repeat (first|with_reducible refine a0G ?_|with_reducible refine a0M ?_));exact a0Y ((by rw[e0];exact a0Q ho)) (fun _ _ h=>h) gSp)
  refine ns ?_
  obtain⟨hts,hln⟩:=r0P ho
  rw[hts]at ho ⊢
  rw[a0A ho]at e0
  have hsz:(hdL x).toArray.size=40:=by rw[List.size_toArray,v0N hln]
  have c1:(x.at_.map a0V).length=4:=by simp[hln.n]
  have hnb1:(e0I at_ s).1≠ .big:=by rw[e0]at hnb;exact c0R hnb
  refine(a0U Zr.o (fun b4=> ?_))
  refine a0K Sz.o rfl rfl hsz (d1X x) (by rw[hsz];simp[Value.cells]) (a0R (by rw[hsz];simp[Value.cells])) ?_
  refine go 10 ?_
  refine b0F rfl Hb.o rfl (z0R W a s at_ hnb1) gSp (fun b t ho=> ?_) (fun e t ho=>by(repeat (first|with_reducible refine a0G ?_|with_reducible refine a0M ?_));exact a0Y ((by rw[e0];exact a0Q ho)) (fun _ _ h=>h) gSp)
  refine ns ?_
  have ho17:=ho
  rw[a0A ho17]at e0
  refine go 3 ?_
  refine b0C rfl (fun hb18=> ?_) (fun hb18=> ?_)
  ·have hbf:b=false:=by simpa using hb18
   exact c0I (by rw[e0,hbf];rfl) (fun _ _ h=>h) rfl rfl gSp
  ·have hbt:b=true:=by simpa using hb18
   have he0:g0A at_ s=q0H x (x.at_.drop 0) t:=by rw[e0,hbt];rfl
   refine go 6 ?_
   refine a0F (a0O Ag.o rfl (by show 0+0+4≤(hdL x).toArray.size;rw[hsz];omega) (e0M (a:= []) rfl c1)) ?_
   refine go 4 ?_
   refine b0S (X:= {y:Nat×St // y.1≤4∧y.2.bits=s.bits∧g0A at_ s=q0H x (x.at_.drop y.1) y.2}) (fun y=> [(0,ptr a.st),(4,ptr b4),(20,.agg (x.at_.map a0V).toArray),(21,.int .i64 y.1.1)]) (fun y=>RS W a y.1.2++ [pts b4 (.cells (hdL x).toArray 230 (0,0)),R]) (fun y=>4-y.1.1) ⟨(0,t),by omega,by have:=t0E at_ s;rw[ho17]at this;exact this,he0⟩ gSu gSp ?_
   rintro⟨⟨i,u⟩,hi,hub,he⟩ m0 hm0
   try simp only at hm0
   try dsimp only
   simp only at hi hub he
   simp only[List.cons_append,List.nil_append]
   refine go 6 ?_
   refine b0C rfl (fun hb22=> ?_) (fun hb22=> ?_)
   ·have hi4:i<4:=by have:=of_decide_eq_true hb22;omega
    have hil:i<x.at_.length:=by rw[hln.n];exact hi4
    rw[List.drop_eq_getElem_cons hil]at he
    refine go 6 ?_
    refine a0F (q0Y Tar.o Sc.o rfl rfl (by omega) (n0W a0V x.at_ i _ hil (by omega))) ?_
    refine go 9 ?_
    refine b0C rfl (fun hb25=> ?_) (fun hb25=> ?_)
    ·have hpos:0<x.at_[i]:=of_decide_eq_true hb25
     refine go 6 ?_
     refine b0F rfl Hb.o rfl (z0R W a u x.at_[i] (by rw[he]at hnb;exact f2F hnb hpos)) gSp (fun b' t' ho=> ?_) (fun e t ho=>by(repeat (first|with_reducible refine a0G ?_|with_reducible refine a0M ?_));exact a0Y ((by rw[he];exact f2G hpos ho)) (fun _ _ h=>h) gSp)
     refine ns ?_
     refine go 6 ?_
     refine b0Q (fun _ _ h=>h) (⟨(i+1,t'),hi4,by have:=t0E x.at_[i] u;rw[ho]at this;exact this.trans hub,he.trans (k2T hpos ho)⟩) (by first|omega| (simp only;omega)) gSu gSp
    ·have hpos: ¬0<x.at_[i]:=of_decide_eq_false hb25
     refine go 6 ?_
     refine b0Q (fun _ _ h=>h) (⟨(i+1,u),hi4,hub,he.trans (a2Y hpos)⟩) (by first|omega| (simp only;omega)) gSu gSp
   ·obtain rfl:i=4:=by have:=of_decide_eq_false hb22;omega
    rw[List.drop_eq_nil_of_le (by rw[hln.n];exact Nat.le_refl _),f2H]at he
    have hlog:=o1G (show(g0W (key u.bits x.sum) u).1≠ .big by rw[←he];exact hnb)
    rw[r1F _ hlog]at he
    refine go 2 ?_
    refine f0F gFd fun by_ gv gc o hg hok=> ?_
    simp only[e0A,d0I,List.cons_append,List.nil_append]
    refine d0H (.soft 0 (.soft 1 (.soft 2 (.soft 3 (.soft 4 (.soft 5 (.soft 6 (.soft 7 (.soft 8 (.soft 9 (.soft 10 (.soft 11 (.soft 12 (.soft 13 (.soft 14 (.soft 15 (.soft 16 (.hard 17 (.hard 18 .done))))))))))))))))))) [stC a u.bits,pts a.heap (.cells #[ptr a.disk,ptr a.log,ptr a.gr,.map (some a.refs),.map (some by_),gv,.int .i64 u.keep] 92 (0,0)),pts b4 (.cells (hdL x).toArray 230 (0,0))] Fol.o (by kernel_rfl) (by repeat (first|with_reducible exact a0J.bp|with_reducible apply a0J.then|with_reducible apply a0J.inBlock)) gSp ?_
    refine go 12 ?_
    refine d0D rfl (a0O (cs:=(hdL x).toArray) (v:=(x.sum.map a0Z).toArray) Ag.o rfl (by rw[hsz];omega) (p2J hln)) ?_
    refine go 5 ?_
    refine a0D rfl Hb.o rfl (u0V x.sum u.bits hln.sum (by omega)) gSp ?_
    refine ns ?_
    refine go 3 ?_
    refine a0W rfl Hb.o rfl (p1P a by_ o u.log u.depth u.index (d0F u.bits x.sum) hlog hok.2.2.2 (by rw[h0W,hln.sum])) gSp ?_
    rintro e _
    refine ns ?_
    refine go 3 ?_
    refine b0O (d0Q (s:= {u with log:=bk u.depth u.log (.index (key u.bits x.sum) (a0H (key u.bits x.sum) u.index)),index:=b0I (key u.bits x.sum) u.index}) hg (by exact⟨hok.1,hok.2.1,hok.2.2.1,fun p hp=>hok.2.2.2 p (r1H hp)⟩) gSp) (d0X he rfl rfl gSp)
end
section
theorem f2I (a b:B):(!((bs a).toList == (bs b).toList))=decide (a≠b):=by
 rw[c0P,c0P]
 by_cases e:a=b
 ·subst e;simp
 ·simp[e]
set_option maxRecDepth 4000 in
attribute [local irreducible] Sl.a0L Sl.OW Sl.CW Sl.OS Sl.OM Sl.OMf Sl.KM
theorem a2Z (W:World) (a:Ad) (s:St) (data:B) (hl:data.length≤1000000) (h256:data.length≠256∨b0B data=true):a0S Tryz.prog 164 #[ptr a.st,b0H data] (RS W a s) (Ran fT (RS W a) a0V (i0F data s)):=by
 by_cases h0:data.length=256
 ·have hz:b0B data=true:=h256.resolve_left (fun h=>h h0)
  rw[show i0F data s=(.ok 0,s) by unfold i0F;rw[if_neg (by simp[h0]),if_pos hz];rfl]
  refine a0C Tryz.func164 rfl Tryz.ntmps164 rfl (fun R w0=> ?_)
  simp only[a0N,List.cons_append,List.nil_append]
  refine go 10 ?_
  rw[b0N]
  refine go 3 ?_
  refine c0C rfl (by rw[h0];rfl) ?_
  refine go 6 ?_
  refine a0D rfl Hb.o rfl (x0H data (by omega)) gSp ?_
  refine ns ?_
  refine go 2 ?_
  refine d0W rfl hz ?_
  refine go 5 ?_
  exact c0I rfl (fun _ _ h=>h) rfl rfl gSp
 ·rw[show i0F data s=(.err 4,s) by unfold i0F;rw[if_pos h0];rfl]
  refine a0C Tryz.func164 rfl Tryz.ntmps164 rfl (fun R w0=> ?_)
  simp only[a0N,List.cons_append,List.nil_append]
  refine go 10 ?_
  rw[b0N]
  refine go 3 ?_
  refine d0W rfl (by simp only[bne_iff_ne,ne_eq];omega) ?_
  refine go 1 ?_
  refine c0M rfl Hb.o rfl (d0C 4) gSp ?_
  simp only[List.cons_append,List.nil_append]
  refine pn ?_
  exact a0Y rfl (fun _ _ h=>h) gSp
set_option maxRecDepth 4000 in
theorem b2A (W:World) (hW:h0L W) (a:Ad) (s:St) (data:B) (h256:data.length=256) (hz:b0B data=false) (hbits:s.bits≤256) (a0:Int) (hm:a0H (key s.bits (Sha.sum data)) s.index=some a0) (hnb:(i0F data s).1≠ .big):
 a0S Tryz.prog 164 #[ptr a.st,b0H data] (RS W a s) (Ran fT (RS W a) a0V (i0F data s)):=by
 have e0:i0F data s=a0B (k0H a0) (fun was=>if was≠data then n0F 9 else a0B (j0X a0) fun _=>ret a0) s:=by
  unfold i0F;rw[if_neg (by simp[h256]),if_neg (by simp[hz])];simp only[hm]
 have hD:=q0F data
 have hs2:((Sha.sum data).map a0Z).toArray.size=32:=by rw[List.size_toArray,List.length_map,hD]
 refine a0C Tryz.func164 rfl Tryz.ntmps164 rfl (fun R w0=> ?_)
 simp only[a0N,List.cons_append,List.nil_append]
 refine go 10 ?_
 rw[b0N]
 refine go 3 ?_
 refine c0C rfl (by rw[h256];rfl) ?_
 refine go 6 ?_
 refine a0D rfl Hb.o rfl (x0H data (by omega)) gSp ?_
 refine ns ?_
 refine go 2 ?_
 refine c0C rfl hz ?_
 refine go 5 ?_
 refine(b0P Tsl.o Zr.o rfl rfl rfl (by simp[d0B,d0K,Value.cells]<;>rfl) (fun b19=> ?_))
 refine e0Y (fun w hs=>k1T (n:=1) (b:=b19) (l:= [b0H data]) (e:=9) rfl ((show Fnd _ (pts b19 _) _ from gFd).sat hs) (by simp[maxLen])) ?_
 refine a0D rfl Hb.o rfl (k1S W hW (.slice (some ⟨b19,0,none⟩) 1 1) [data] (by simp[h256]) (by simp)) gSp ?_
 refine ns ?_
 rw[show [data].flatten=data by simp]
 refine(a0U Zr.o (fun b5=> ?_))
 refine a0K Sz.o rfl rfl hs2 (fun x hx=>by simp at hx;obtain⟨_,_,rfl⟩:=hx;rfl) (by rw[hs2];simp[Value.cells]) (a0R (by rw[hs2];simp[Value.cells])) ?_
 refine go 4 ?_
 refine f0F gFd fun by_ gv gc o hg hok=> ?_
 simp only[e0A,d0I,List.cons_append,List.nil_append]
 refine d0H (.soft 0 (.soft 1 (.soft 2 (.soft 3 (.soft 4 (.soft 5 (.soft 6 (.soft 7 (.soft 8 (.hard 9 (.soft 10 (.soft 11 (.soft 12 (.soft 13 (.soft 14 (.soft 15 .done)))))))))))))))) [stC a s.bits,pts b5 (.cells ((Sha.sum data).map a0Z).toArray 44 (0,0)),c0T a.ix e0J a0V s.index] Fol.o (by kernel_rfl) (by repeat (first|with_reducible exact a0J.bp|with_reducible apply a0J.then|with_reducible apply a0J.inBlock)) gSp ?_
 refine go 4 ?_
 refine d0D rfl (a0O Ag.o rfl (by rw[hs2];omega) (a0I hs2)) ?_
 refine go 5 ?_
 refine a0D rfl Hb.o rfl (u0V (Sha.sum data) s.bits hD hbits) gSp ?_
 refine ns ?_
 refine go 2 ?_
 refine d0D rfl (o0Y (ek:=e0J) (ev:=a0V) (k:=d0F s.bits (Sha.sum data)) e0T.o b1T hok.2.2.2 (by rw[h0W,hD]) Zr.o rfl rfl gFd i0S) ?_
 refine go 6 ?_
 refine b0O (d0Q hg hok gSp) ?_
 rw[show a0H (d0F s.bits (Sha.sum data)) s.index=some a0 from hm]
 refine go 12 ?_
 refine b0F rfl Hb.o rfl (n1B W a s a0) gSp (fun was t ho=> ?_) (fun e t ho=>by(repeat (first|with_reducible refine a0G ?_|with_reducible refine a0M ?_));exact a0Y ((by rw[e0];exact a0Q ho)) (fun _ _ h=>h) gSp)
 refine ns ?_
 refine go 1 ?_
 rw[a0A ho]at e0
 refine a0F (g0V rfl rfl) ?_
 refine go 2 ?_
 refine b0C rfl (fun hb40=> ?_) (fun hb40=> ?_)
 ·refine go 1 ?_
  refine c0M rfl Hb.o rfl (d0C 9) gSp ?_
  simp only[List.cons_append,List.nil_append]
  refine pn ?_
  exact a0Y (by rw[e0];have hne:was≠data:=of_decide_eq_true ((f2I was data).symm.trans hb40);rw[if_pos hne];rfl) (fun _ _ h=>h) gSp
 ·have hne: ¬was≠data:=of_decide_eq_false ((f2I was data).symm.trans hb40)
  rw[if_neg hne]at e0
  refine go 9 ?_
  skip
  refine b0F rfl Hb.o rfl (z0P W a t a0 (by rw[e0]at hnb;exact c0R hnb)) gSp (fun u t2 ho=> ?_) (fun e t ho=>by(repeat (first|with_reducible refine a0G ?_|with_reducible refine a0M ?_));exact a0Y ((by rw[e0];exact a0Q ho)) (fun _ _ h=>h) gSp)
  refine ns ?_
  refine go 8 ?_
  exact c0I (by rw[e0,a0A ho];rfl) (fun _ _ h=>h) rfl rfl gSp
end
end Go.Proofs.Q
