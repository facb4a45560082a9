/- Part of the proof; no statement of its own. -/
import Derived.Test.YtpinhnikemamjaaGreatDoorB08
import Derived.Test.YtpinhnikemamjaaGreatDoorProg
import Derived.KernelRfl
import Derived.Test.YtpinhnikemamjaaGreatDoorB05
set_option linter.all false
set_option maxRecDepth 4000
set_option maxHeartbeats 4000000
namespace Go.Proofs.Q
open Go.Sl Go.Sb
section
theorem j2E (g:FuncId) (cap:List Value) (Pre N:List a0E) (v:Value) (hb:f0J Tryz.prog g=true) (hg:a0S Tryz.prog g cap.toArray Pre (b0G v N)):
 a0S Tryz.prog 34 #[.func (.func g) #[] cap.toArray] Pre (b0G (.int .i64 0) N):=by
 refine a0S.imp (h1Y (X:=Unit) (Y:=Empty) g cap Pre (fun _=>True) (fun _=>v) (fun _=>N) (fun _=>True) (fun _=>0) (fun _=> []) hb (a0S.imp hg ?_)) ?_
 ·rintro e L ⟨rfl,rfl⟩;exact .inl ⟨(),trivial,rfl,rfl⟩
 ·rintro e L ⟨x|y,_,rfl,rfl⟩
  ·exact⟨rfl,rfl⟩
  ·exact y.elim
theorem d2W (g:FuncId) (cap:List Value) (Pre N:List a0E) (er:Int) (hb:f0J Tryz.prog g=true) (hg:a0S Tryz.prog g cap.toArray Pre (fun en L=>en= .panicked (t0N er)∧L=N)):
 a0S Tryz.prog 34 #[.func (.func g) #[] cap.toArray] Pre (b0G (.int .i64 er) N):=by
 refine a0S.imp (h1Y (X:=Empty) (Y:=Unit) g cap Pre (fun _=>True) (fun _=> .int .i64 0) (fun _=> []) (fun _=>True) (fun _=>er) (fun _=>N) hb (a0S.imp hg ?_)) ?_
 ·rintro e L ⟨rfl,rfl⟩;exact .inr ⟨(),trivial,rfl,rfl⟩
 ·rintro e L ⟨x|y,_,rfl,rfl⟩
  ·exact x.elim
  ·exact⟨rfl,rfl⟩
abbrev pop (b:Nat) (cs:List Value):a0E:=pts b (.cells cs.toArray 70 (0,0))
attribute [local irreducible] Sl.a0L Sl.OW Sl.CW Sl.OS Sl.OM Sl.OMf Sl.KM
end
theorem i1A (l:List UInt8) (i j:Nat):(bs l).extract i j=bs ((l.take j).drop i):=by
 refine p1J ?_
 rw[l0B]
 simp only[ByteArray.data_extract,Array.toList_extract,List.extract_eq_take_drop,l0B]
 rw[List.drop_take]
section
abbrev n0V (b:Nat) (v:Value) (l:List UInt8):List a0E:= [pts b (.cells #[v] 144 (0,0)),c0E 5 1 v l.length (l.map a0Z)]
theorem w1O (x k m:Nat):(beB x k m).length=m:=by
 induction m with
 |zero=>rfl
 |succ m ih=>simp[beB,ih]
attribute [local irreducible] Sl.a0L Sl.OW Sl.CW Sl.OS Sl.OM Sl.OMf Sl.KM
theorem s0E (b:Nat) (v:Value) (l:List UInt8) (s:ByteArray) (hl:l.length≤1000000) (hs:s.size≤1000000) (h1:v.oneCell'=true):
 a0S Tryz.prog 82 #[.pointer (some ⟨b,0,none⟩),.string s] (n0V b v l) (c0X (fun v':Value=>v'.oneCell'=true) (fun _=> .pointer (some ⟨b,0,none⟩)) (fun v'=>n0V b v' (l++s.data.toList))):=by
 have hsl:s.data.toList.length=s.size:=by simp
 have hbl:(byteCells s)=s.data.toList.map a0Z:=rfl
 refine a0C Tryz.func82 rfl Tryz.ntmps82 rfl (fun R w0=> ?_)
 simp only[a0N,List.cons_append,List.nil_append]
 refine go 13 ?_
 refine(e0F Tsl.o Ttb.o Zr.o rfl rfl rfl gFd (k1B Tst.o) (by simp only[maxLen];omega) (by omega) (fun v11 hv11=> ?_))
 refine go 4 ?_
 rw[hbl,←List.map_append,←hsl,←List.length_append]
 refine go 7 ?_
 refine d0Z v11 hv11 (fun _ _ h=>h) rfl rfl gSp
theorem n2W (x k m:Nat) (h:m<k):IntKind.u8.wrap ((x:Int)/2^(8*((k:Int)-1- (m:Int))).toNat)=((UInt8.ofNat (x/256^(k-1-m))).toNat:Int):=by
 have e1:(8*((k:Int)-1- (m:Int))).toNat=8*(k-1-m):=by omega
 have e2:(2:Int)^(8*(k-1-m))=((256^(k-1-m):Nat):Int):=by rw[Int.pow_mul];norm_cast
 rw[e1,e2,IntKind.wrap_u8,UInt8.toNat_ofNat',←Int.natCast_ediv]
 omega
theorem r0M (b:Nat) (v:Value) (l:List UInt8) (x k:Nat) (hk:1≤k∧k≤8) (hl:l.length≤1000000) (h1:v.oneCell'=true) (hx:x<18446744073709551616):
 a0S Tryz.prog 81 #[.pointer (some ⟨b,0,none⟩),.int .u64 x,.int .i64 k] (n0V b v l) (c0X (fun v':Value=>v'.oneCell'=true) (fun _=> .pointer (some ⟨b,0,none⟩)) (fun v'=>n0V b v' (l++beB x k k))):=by
 have hmm:min (max (k:Int) 1) 8=k:=by omega
 refine a0C Tryz.func81 rfl Tryz.ntmps81 rfl (fun R w0=> ?_)
 simp only[a0N,List.cons_append,List.nil_append]
 refine go 12 ?_
 rw[hmm]
 refine go 10 ?_
 rw[show(k:Int)-1=(k:Int)-1- ((0:Nat):Int)from by omega]
 refine h1G (L':=n0V b v (l++beB x k 0)++ [R]) (by simp[beB]) ?_
 refine b0S (X:= {y:Nat×Value // y.1≤k∧y.2.oneCell'=true}) (fun y=> [(0,.pointer (some ⟨b,0,none⟩)),(1,.int .u64 x),(7,.int .i64 ((k:Int)-1-y.1.1))]) (fun y=>n0V b y.1.2 (l++beB x k y.1.1)++ [R]) (fun y=>k-y.1.1) ⟨(0,v),by omega,h1⟩ gSu gSp ?_
 rintro⟨⟨m,v⟩,hm,hv⟩ m0 hm0
 try simp only at hm0
 try dsimp only
 simp only at hm hv
 simp only[List.cons_append,List.nil_append]
 have hlen:(l++beB x k m).length=l.length+m:=by rw[List.length_append,w1O]
 refine go 7 ?_
 refine b0C rfl (fun hb14=> ?_) (fun hb14=> ?_)
 ·have hmk:m<k:=by have:=of_decide_eq_true hb14;omega
  have hby:=n2W x k m hmk
  refine go 4 ?_
  refine l0G (.soft 0 (.soft 1 (.soft 2 (.soft 3 (.soft 5 (.soft 6 (.soft 7 (.soft 8 (.soft 9 (.float 10 (.hard 4 (.res (.hard 11 (.soft 12 (.soft 13 (.hard 14 .done)))))))))))))))) [] Fol.o (by kernel_rfl) (by repeat (first|with_reducible exact a0J.bp|with_reducible apply a0J.then|with_reducible apply a0J.inBlock)) gSp ?_
  refine go 7 ?_
  refine i0A rfl (t0L rfl rfl (by first|decide| (simp only[IntKind.bits];omega))) ?_
  refine go 1 ?_
  refine s0A (e0:= [(26,_)]) rfl gSu (fun _ _ _=>rfl) Tsl.o Zr.o rfl rfl rfl (by simp[d0B,d0K,Value.cells]<;>rfl) rfl ?_
  refine c0H rfl (fun hok EE FF=> ?_)
  simp only[List.cons_append,List.nil_append]
  refine go 2 ?_
  refine c0G (E:=EE) (F:=FF) (by repeat (first|exact Tl.nil|apply Tl.cons)) gFd gSp (hok.put rfl) ?_
  refine m0B (fun b27=> ?_)
  dsimp only
  refine c0H rfl (fun hok EE FF=> ?_)
  simp only[List.cons_append,List.nil_append]
  refine(e0F Tsl.o Ttb.o Zr.o rfl rfl rfl gFd (h0O Tsl.o (by simp;rfl) (by simp) (by simp[Value.oneCell'])) (by simp only[maxLen];omega) (by omega) (fun v28 hv28=> ?_))
  refine go 1 ?_
  refine c0G (E:=EE) (F:=FF) (by repeat (first|exact Tl.nil|apply Tl.cons)) gFd gSp (hok.put rfl) ?_
  refine go 2 ?_
  refine c0H rfl (fun hok EE FF=> ?_)
  simp only[List.cons_append,List.nil_append]
  refine go 2 ?_
  refine c0G (E:=EE) (F:=FF) (by repeat (first|exact Tl.nil|apply Tl.cons)) gFd gSp hok ?_
  refine go 1 ?_
  rw[hby]
  have e:(l++beB x k m).map a0Z++ [Value.int .u8 ((UInt8.ofNat (x/256^(k-1-m))).toNat:Int)]=(l++beB x k (m+1)).map a0Z:=by simp[beB,a0Z]
  rw[e,show(l++beB x k m).length+1=(l++beB x k (m+1)).length from by simp only[List.length_append,w1O];omega]
  refine go 6 ?_
  rw[show(k:Int)-1- (m:Int)-1=(k:Int)-1- ((m+1:Nat):Int)from by omega]
  refine b0Q (fun _ _ h=>h) (⟨(m+1,v28),hmk,hv28⟩) (by first|omega| (simp only;omega)) gSu gSp
 ·have hmk:m=k:=by have:=of_decide_eq_false hb14;omega
  subst hmk
  refine go 8 ?_
  refine d0Z v hv (fun _ _ h=>h) rfl rfl gSp
end
section
attribute [local irreducible] Sl.a0L Sl.OW Sl.CW Sl.OS Sl.OM Sl.OMf Sl.KM
theorem t0O (b:Nat) (v:Value) (l:List UInt8) (h1:v.oneCell'=true):a0S Tryz.prog 83 #[.pointer (some ⟨b,0,none⟩)] (n0V b v l) (b0G (.string (bs l)) []):=by
 refine a0C Tryz.func83 rfl Tryz.ntmps83 rfl (fun R w0=> ?_)
 simp only[a0N,List.cons_append,List.nil_append]
 refine go 11 ?_
 refine a0F (w0Z Tsl.o Tst.o Tby.o rfl gFd) ?_
 refine go 3 ?_
 refine b0V (fun _ _ h=>h) rfl rfl gSp
end
end Go.Proofs.Q
namespace Go.Proofs.Q
section
open Go
end
end Go.Proofs.Q
namespace Go.Proofs.Q
open Go
instance:Sl.Tar Tryz.prog 190 3 3 1:=⟨by kernel_rfl⟩
instance:Sl.Fl Tryz.prog 192 0 0:=⟨by kernel_rfl⟩
instance:Sl.Fl Tryz.prog 192 1 1:=⟨by kernel_rfl⟩
instance:Sl.Fl Tryz.prog 192 2 2:=⟨by kernel_rfl⟩
instance:Sl.Hb Tryz.prog 146:=⟨by kernel_rfl⟩
instance:Sl.Hb Tryz.prog 184:=⟨by kernel_rfl⟩
instance:Sl.Hb Tryz.prog 223:=⟨by kernel_rfl⟩
instance:Sl.Pl Tryz.prog 192 ([(0,1),(1,1),(2,3)],.agg #[.int .i64 (0),.slice none 0 0,.int .i64 (0),.int .i64 (0),.int .i64 (0)]):=⟨by kernel_rfl⟩
end Go.Proofs.Q
namespace Go.Proofs.Q
section
open Go
end
end Go.Proofs.Q
namespace Go.Proofs.Q
open Go.Sl Go.Sb
section
def gst (s:Nat):Value:= .int .i64 s
def l0S (fr bl:Nat) (l:List Nat):List Value:= [.int .i64 fr,.slice (some ⟨bl,0,none⟩) l.length l.length,.int .i64 (l.count 0),.int .i64 (l.count 1),.int .i64 (l.count 2)]
abbrev gm (b bl fr:Nat) (l:List Nat):List a0E:= [pts b (.cells (l0S fr bl l).toArray 192 (0,0)),pts bl (.cells (l.map gst).toArray 3 (0,0))]
theorem i1B {l:List Nat} {i k s:Nat} (hs:l[i]? =some s) (hk:k=i):nth (l.map gst) k=some (.int .i64 s):=by
 subst hk;rw[e0L];simp[hs,gst]
attribute [local irreducible] Sl.a0L Sl.OW Sl.CW Sl.OS Sl.OM Sl.OMf Sl.KM
theorem b1P (b bl fr i s what:Nat) (l:List Nat) (at_:Int) (hat:at_=fr+i) (hs:l[i]? =some s) (hs3:s<3) (hw3:what<3) (hfr:fr≤5000) (hl:l.length≤5000):
 a0S Tryz.prog 146 #[.pointer (some ⟨b,0,none⟩),.int .i64 at_,.int .i64 what] (gm b bl fr l) (fun e L=>e= .returned (.tuple #[])∧L=gm b bl fr (l.set i what)):=by
 have hi:i<l.length:=by
  rcases Nat.lt_or_ge i l.length with h|h
  ·exact h
  ·rw[List.getElem?_eq_none h]at hs;cases hs
 have c0:l.count 0≤l.length:=List.count_le_length
 have c1:l.count 1≤l.length:=List.count_le_length
 have c2:l.count 2≤l.length:=List.count_le_length
 have hsub:at_- (fr:Int)=i:=by omega
 have hti:(at_- (fr:Int)).toNat=i:=by omega
 have s3:s=0∨s=1∨s=2:=by omega
 have w3:what=0∨what=1∨what=2:=by omega
 have hs':l[i]=s:=by rw[List.getElem?_eq_getElem hi]at hs;exact Option.some.inj hs
 have hpos:0<l.count s:=List.count_pos_iff.2 (hs'▸List.getElem_mem hi)
 have hset:=fun k=>List.count_set (a:=what) (b:=k) hi
 rw[hs']at hset
 have hmap:(l.map gst).set (0+(at_- (fr:Int)).toNat*1) (.int .i64 what)=(l.set i what).map gst:=by
  rw[hti,Nat.zero_add,Nat.mul_one,List.map_set];rfl
 have he:((l.count s-1:Nat):Int)=(l.count s:Int)-1:=by omega
 rcases s3 with rfl|rfl|rfl<;>rcases w3 with rfl|rfl|rfl
 all_goals
  refine a0C Tryz.func146 rfl Tryz.ntmps146 rfl (fun R w0=> ?_)
  simp only[a0N,List.cons_append,List.nil_append,gm,l0S]
  refine go 1 ?_
  refine d0S 20 Fol.o (by kernel_rfl) ?_
  simp only[List.take_succ_cons,List.take_zero,List.drop_succ_cons,List.drop_zero]
  refine go 12 ?_
  refine c0K (b0T Sc.o rfl (i1B hs (by omega))) ?_
  refine go 2 ?_
  refine c0K (h1D Tar.o rfl rfl (by decide)) ?_
  refine go 5 ?_
  refine a0F (h1D Tar.o rfl rfl (by decide)) ?_
  refine go 4 ?_
  refine d0S 11 Fol.o (by kernel_rfl) ?_
  simp only[List.take_succ_cons,List.take_zero,List.drop_succ_cons,List.drop_zero]
  refine go 13 ?_
  refine(d0V Sz.o rfl rfl rfl (by simp;omega) (by rfl) ?_)
  refine go 2 ?_
  refine d0S 9 Fol.o (by kernel_rfl) ?_
  simp only[List.take_succ_cons,List.take_zero,List.drop_succ_cons,List.drop_zero]
  refine go 4 ?_
  refine c0K (h1D Tar.o rfl rfl (by decide)) ?_
  refine go 5 ?_
  refine a0F (h1D Tar.o rfl rfl (by decide)) ?_
  refine go 2 ?_
  refine v0V rfl (L':= [_,_]) (by repeat (first|exact b0L.nil|refine b0L.cons Fnd.here ?_)) ⟨rfl,?_⟩
  rw[hmap]
  simp[hset,he]
end
section
attribute [local irreducible] Sl.a0L Sl.OW Sl.CW Sl.OS Sl.OM Sl.OMf Sl.KM
theorem d2X (fr n:Nat) (to_:Int) (hto:to_=fr+n) (hfr:fr≤5000) (hn:n≤5000):
 a0S Tryz.prog 86 #[.int .i64 fr,.int .i64 to_] [] (c0X (fun _:Nat×Nat=>True) (fun x=> .pointer (some ⟨x.1,0,none⟩)) (fun x=>gm x.1 x.2 fr (List.replicate n 0))):=by
 refine a0C Tryz.func86 rfl Tryz.ntmps86 rfl (fun R w0=> ?_)
 simp only[a0N,List.cons_append,List.nil_append]
 have hn0:to_- (fr:Int)=n:=by omega
 have hmx:max (to_- (fr:Int)) 0=n:=by omega
 refine go 12 ?_
 refine(o1C (n:=n) Tsl.o Ttb.o Zr.o rfl rfl rfl (by omega) (by omega) (by omega) (by omega) (fun b11=> ?_))
 refine go 1 ?_
 refine(a0X rfl (fun b13=> ?_))
 refine go 4 ?_
 refine d0S 8 Fol.o (by kernel_rfl) ?_
 simp only[List.take_succ_cons,List.take_zero,List.drop_succ_cons,List.drop_zero]
 refine go 19 ?_
 have hc0:(List.replicate n 0).count 0=n:=List.count_replicate_self
 have hc1:(List.replicate n 0).count 1=0:=by rw[List.count_replicate];simp
 have hc2:(List.replicate n 0).count 2=0:=by rw[List.count_replicate];simp
 refine h1G (L':=gm b13 b11 fr (List.replicate n 0)++ [R]) (by simp[gm,l0S,hc0,hc1,hc2,gst]) ?_
 refine d0Z (b13,b11) trivial (fun _ _ h=>h) rfl rfl gSp
theorem n2X (a b:Nat):((a:Int) == (b:Int))=decide (a=b):=by
 rw[show((a:Int) == (b:Int))=decide ((a:Int)=b)from rfl]
 exact decide_eq_decide.2 (by omega)
theorem p1K (b bl fr what:Nat) (l:List Nat) (at_:Int) (ha: -9223372036854775808≤at_∧at_≤9223372036854775807) (hfr:fr≤5000) (hl:l.length≤5000):
 a0S Tryz.prog 223 #[.pointer (some ⟨b,0,none⟩),.int .i64 at_,.int .i64 what] (gm b bl fr l) (b0G (.bool (isB fr l at_ what)) (gm b bl fr l)):=by
 by_cases h1:at_≥fr
 ·by_cases h2:at_-fr<l.length
  ·have hlt:(at_- (fr:Int)).toNat<l.length:=by omega
   have hs:l[(at_- (fr:Int)).toNat]? =some l[(at_- (fr:Int)).toNat]:=List.getElem?_eq_getElem hlt
   refine a0C Tryz.func223 rfl Tryz.ntmps223 rfl (fun R w0=> ?_)
   simp only[a0N,List.cons_append,List.nil_append,gm,l0S]
   refine go 39 ?_
   refine m2N (fun a w hh=>(b0E rfl rfl rfl hh).trans (wTT gT)) (b0T Sc.o rfl (i1B hs (by omega))) ?_
   refine go 6 ?_
   refine b0V (fun _ _ h=>h) rfl (by simp only[isB,h1,h2,decide_true,Bool.true_and,hs,Option.some.injEq];rw[n2X]) gSp
  ·refine a0C Tryz.func223 rfl Tryz.ntmps223 rfl (fun R w0=> ?_)
   simp only[a0N,List.cons_append,List.nil_append,gm,l0S]
   refine go 46 ?_
   refine b0V (fun _ _ h=>h) rfl (by simp[isB,h2]) gSp
 ·refine a0C Tryz.func223 rfl Tryz.ntmps223 rfl (fun R w0=> ?_)
  simp only[a0N,List.cons_append,List.nil_append,gm,l0S]
  refine go 46 ?_
  refine b0V (fun _ _ h=>h) rfl (by simp[isB,h1]) gSp
theorem r2F {fr:Nat} {l:List Nat} {at_:Int} {k:Nat} (h:isB fr l at_ k=true): ∃i:Nat,at_=fr+i∧l[i]? =some k:=by
 simp only[isB,Bool.and_eq_true,decide_eq_true_eq]at h
 exact⟨(at_-fr).toNat,by omega,h.2.2⟩
theorem z0L (b bl fr k to_:Nat) (l:List Nat) (at_:Int) (ha: -9223372036854775808≤at_∧at_≤9223372036854775807) (hk:k<3) (ht:to_<3) (hfr:fr≤5000) (hl:l.length≤5000):
 a0S Tryz.prog 184 #[.pointer (some ⟨b,0,none⟩),.int .i64 at_,.int .i64 k,.int .i64 to_] (gm b bl fr l) (b0G (.bool (isB fr l at_ k)) (gm b bl fr (mvL fr l at_ k to_))):=by
 cases hb:isB fr l at_ k with
 |true=>
  obtain⟨i,hi,hs⟩:=r2F hb
  have hti:(at_- (fr:Int)).toNat=i:=by omega
  have hset:=b1P b bl fr i k to_ l at_ hi hs hk ht hfr hl
  simp only[mvL,hb,hti]
  refine a0C Tryz.func184 rfl Tryz.ntmps184 rfl (fun R w0=> ?_)
  simp only[a0N,List.cons_append,List.nil_append]
  refine go 11 ?_
  refine a0D rfl Hb.o rfl (p1K b bl fr k l at_ ha hfr hl) gSp ?_
  refine ns ?_
  refine go 3 ?_
  refine c0C rfl (by rw[hb];rfl) ?_
  refine go 7 ?_
  refine a0D rfl Hb.o rfl (hset) gSp ?_
  refine ns ?_
  refine go 7 ?_
  refine b0V (fun _ _ h=>h) rfl rfl gSp
 |false=>
  simp only[mvL,hb]
  refine a0C Tryz.func184 rfl Tryz.ntmps184 rfl (fun R w0=> ?_)
  simp only[a0N,List.cons_append,List.nil_append]
  refine go 11 ?_
  refine a0D rfl Hb.o rfl (p1K b bl fr k l at_ ha hfr hl) gSp ?_
  refine ns ?_
  refine go 3 ?_
  refine d0W rfl (by rw[hb];rfl) ?_
  refine go 5 ?_
  refine b0V (fun _ _ h=>h) rfl rfl gSp
theorem i1C (b bl fr:Nat) (l:List Nat) (at_:Int) (ha: -9223372036854775808≤at_∧at_≤9223372036854775807) (hfr:fr≤5000) (hl:l.length≤5000):
 a0S Tryz.prog 150 #[.pointer (some ⟨b,0,none⟩),.int .i64 at_] (gm b bl fr l) (b0G (.bool (isB fr l at_ 1)) (gm b bl fr (mvL fr l at_ 1 0))):=by
 refine a0C Tryz.func150 rfl Tryz.ntmps150 rfl (fun R w0=> ?_)
 simp only[a0N,List.cons_append,List.nil_append]
 refine go 9 ?_
 refine a0D rfl Hb.o rfl (z0L b bl fr 1 0 l at_ ha (by decide) (by decide) hfr hl) gSp ?_
 refine ns ?_
 refine go 3 ?_
 refine b0V (fun _ _ h=>h) rfl rfl gSp
theorem x0V (b bl fr:Nat) (l:List Nat) (at_:Int) (ha: -9223372036854775808≤at_∧at_≤9223372036854775807) (hfr:fr≤5000) (hl:l.length≤5000):
 a0S Tryz.prog 258 #[.pointer (some ⟨b,0,none⟩),.int .i64 at_] (gm b bl fr l) (b0G (.bool (isB fr l at_ 1)) (gm b bl fr (mvL fr l at_ 1 2))):=by
 refine a0C Tryz.func258 rfl Tryz.ntmps258 rfl (fun R w0=> ?_)
 simp only[a0N,List.cons_append,List.nil_append]
 refine go 9 ?_
 refine a0D rfl Hb.o rfl (z0L b bl fr 1 2 l at_ ha (by decide) (by decide) hfr hl) gSp ?_
 refine ns ?_
 refine go 3 ?_
 refine b0V (fun _ _ h=>h) rfl rfl gSp
theorem i1D (b bl fr:Nat) (l:List Nat) (at_:Int) (ha: -9223372036854775808≤at_∧at_≤9223372036854775807) (hfr:fr≤5000) (hl:l.length≤5000):
 a0S Tryz.prog 149 #[.pointer (some ⟨b,0,none⟩),.int .i64 at_] (gm b bl fr l) (b0G (.bool (isB fr l at_ 2)) (gm b bl fr (mvL fr l at_ 2 1))):=by
 refine a0C Tryz.func149 rfl Tryz.ntmps149 rfl (fun R w0=> ?_)
 simp only[a0N,List.cons_append,List.nil_append]
 refine go 9 ?_
 refine a0D rfl Hb.o rfl (z0L b bl fr 2 1 l at_ ha (by decide) (by decide) hfr hl) gSp ?_
 refine ns ?_
 refine go 3 ?_
 refine b0V (fun _ _ h=>h) rfl rfl gSp
theorem u0R (b bl fr:Nat) (l:List Nat):
 a0S Tryz.prog 57 #[.pointer (some ⟨b,0,none⟩)] (gm b bl fr l) (b0G (.int .i64 (l.count 0)) (gm b bl fr l)):=by
 refine a0C Tryz.func57 rfl Tryz.ntmps57 rfl (fun R w0=> ?_)
 simp only[a0N,List.cons_append,List.nil_append,gm,l0S]
 refine go 15 ?_
 refine b0V (fun _ _ h=>h) rfl rfl gSp
theorem z1S (b bl fr:Nat) (l:List Nat) (hfr:fr≤5000) (hl:l.length≤5000):
 a0S Tryz.prog 249 #[.pointer (some ⟨b,0,none⟩)] (gm b bl fr l)
  (b0G (match l.findIdx? (· == 0)with|some i=> .tuple #[.int .i64 (fr+i),.bool true]|none=> .tuple #[.int .i64 0,.bool false])
   (gm b bl fr (match l.findIdx? (· == 0)with|some i=>l.set i 1|none=>l))):=by
 refine a0C Tryz.func249 rfl Tryz.ntmps249 rfl (fun R w0=> ?_)
 simp only[a0N,List.cons_append,List.nil_append,gm,l0S]
 refine go 18 ?_
 refine b0S (X:= {i:Nat // i≤l.length∧ ∀j (hj:j<l.length),j<i→l[j]≠0}) (fun x=> [(0,.pointer (some ⟨b,0,none⟩)),(9,.slice (some ⟨bl,0,none⟩) l.length l.length),(10,.int .i64 l.length),(11,.int .i64 x.1)]) (fun x=>gm b bl fr l++ [R]) (fun x=>l.length-x.1) ⟨0,by omega,fun j _ h=>by omega⟩ gSu gSp ?_
 rintro⟨i,hi,hpre⟩ m0 hm0
 try simp only at hm0
 try dsimp only
 simp only[gm,l0S,List.cons_append,List.nil_append]
 refine go 6 ?_
 refine b0C rfl (fun hb12=> ?_) (fun hb12=> ?_)
 ·have hlt:i<l.length:=by have:=of_decide_eq_true hb12;omega
  have hs:l[i]? =some l[i]:=List.getElem?_eq_getElem hlt
  refine go 8 ?_
  refine a0F (b0T Sc.o rfl (i1B hs (by omega))) ?_
  refine go 10 ?_
  refine b0C rfl (fun hb17=> ?_) (fun hb17=> ?_)
  ·have hz:l[i]=0:=by have:=eq_of_beq hb17;omega
   have hf:l.findIdx? (· == 0)=some i:=by
    rw[List.findIdx?_eq_some_iff_getElem]
    exact⟨hlt,by simp[hz],fun j hj=>by simpa using hpre j (by omega) hj⟩
   have hset:=b1P b bl fr i 0 1 l (fr+i) (by omega) (by rw[hs,hz]) (by decide) (by decide) hfr hl
   simp only[hf]
   refine go 9 ?_
   refine a0D rfl Hb.o rfl (hset) gSp ?_
   refine ns ?_
   refine go 14 ?_
   refine b0V (fun _ _ h=>h) rfl rfl gSp
  ·have hz:l[i]≠0:=by intro h;rw[h]at hb17;exact absurd hb17 (by decide)
   refine go 6 ?_
   refine b0Q (fun _ _ h=>h) (⟨i+1,hlt,fun j hj h=> ?_⟩) (by first|omega| (simp only;omega)) gSu gSp
   rcases Nat.lt_succ_iff_lt_or_eq.1 h with h|h
   ·exact hpre j hj h
   ·subst h;exact hz
 ·have hge:i=l.length:=by have:=of_decide_eq_false hb12;omega
  have hf:l.findIdx? (· == 0)=none:=by
   rw[List.findIdx?_eq_none_iff]
   intro x hx
   obtain⟨j,hj,rfl⟩:=List.getElem_of_mem hx
   simpa using hpre j hj (by omega)
  simp only[hf]
  refine go 8 ?_
  refine b0V (fun _ _ h=>h) rfl rfl gSp
end
end Go.Proofs.Q
namespace Go.Proofs.Q
section
open Go.Sl Go.Sb
end
end Go.Proofs.Q
namespace Go.Crc
def p1L:BitVec 32:=0x82f63b78#32
def stp (x:BitVec 32):BitVec 32:=(x >>> 1) ^^^ (if x.getLsbD 0 then p1L else 0#32)
theorem n2Y (p q:Bool):(if(p ^^ q)then p1L else 0#32)=(if p then p1L else 0#32) ^^^ (if q then p1L else 0#32):=by
 cases p<;>cases q<;>decide
theorem n2Z (a b:BitVec 32):stp (a ^^^ b)=stp a ^^^ stp b:=by
 unfold stp
 rw[BitVec.getLsbD_xor,n2Y]
 have h:(a ^^^ b) >>> 1=(a >>> 1) ^^^ (b >>> 1):=by
  apply BitVec.eq_of_getLsbD_eq;intro i hi;simp
 rw[h];ac_rfl
def l0I:Nat→BitVec 32→BitVec 32
 |0,x=>x
 |n+1,x=>l0I n (stp x)
theorem j2F (n:Nat): ∀a b,l0I n (a ^^^ b)=l0I n a ^^^ l0I n b:=by
 induction n with
 |zero=>intro a b;rfl
 |succ n ih=>intro a b;simp only[l0I,n2Z,ih]
theorem p1M (m n:Nat): ∀x,l0I (m+n) x=l0I n (l0I m x):=by
 induction m with
 |zero=>intro x;simp[l0I]
 |succ m ih=>intro x;rw[show m+1+n=(m+n)+1 by omega];simp only[l0I,ih]
theorem o2A (y:BitVec 32) (h:y.getLsbD 31=false):stp (y <<< 1)=y:=by
 unfold stp
 have h0:(y <<< 1).getLsbD 0=false:=by simp
 rw[h0]
 apply BitVec.eq_of_getLsbD_eq;intro i hi
 by_cases h31:i=31
 ·subst h31;simpa using h
 ·simp;omega
theorem j2G (n:Nat): ∀(y:BitVec 32),(∀i,32-n≤i→y.getLsbD i=false)→n≤32→l0I n (y <<< n)=y:=by
 induction n with
 |zero=>intro y _ _;simp[l0I]
 |succ n ih=>
  intro y h hn
  have e:y <<< (n+1)=(y <<< n) <<< 1:=by rw[←BitVec.shiftLeft_add]
  have hb:(y <<< n).getLsbD 31=false:=by
   have h3:=h (31-n) (by omega)
   rw[BitVec.getLsbD_shiftLeft,h3];simp
  simp only[l0I]
  rw[e,o2A _ hb]
  exact ih y (fun i hi=>h i (by omega)) (by omega)
def tab (i:BitVec 32):BitVec 32:=l0I 4 i
def nib (x:BitVec 32):BitVec 32:=(x >>> 4) ^^^ tab (x &&& 15#32)
theorem d2Y (x:BitVec 32):x=((x >>> 4) <<< 4) ^^^ (x &&& 15#32):=by
 apply BitVec.eq_of_getLsbD_eq;intro i hi
 have h15: ∀i,(15#32).getLsbD i=decide (i<4):=by
  intro i
  by_cases h:i<32
  ·revert i;decide
  ·rw[BitVec.getLsbD_of_ge _ _ (by omega)];simp;omega
 by_cases h4:i<4
 ·have hm:(x &&& 15#32).getLsbD i=x.getLsbD i:=by rw[BitVec.getLsbD_and,h15];simp[h4]
  rw[BitVec.getLsbD_xor,hm];simp[h4]
 ·have:4+(i-4)=i:=by omega
  have hm:(x &&& 15#32).getLsbD i=false:=by rw[BitVec.getLsbD_and,h15];simp[h4]
  rw[BitVec.getLsbD_xor,hm];simp[this,hi,h4]
theorem d2Z (x:BitVec 32):nib x=l0I 4 x:=by
 have h:=d2Y x
 have hs:l0I 4 ((x >>> 4) <<< 4)=x >>> 4:=by
  apply j2G
  ·intro i hi;simp;exact BitVec.getLsbD_of_ge _ _ (by omega)
  ·omega
 rw[show l0I 4 x=l0I 4 (((x >>> 4) <<< 4) ^^^ (x &&& 15#32))from congrArg _ h]
 rw[j2F,hs];rfl
def byt (x:BitVec 32) (c:UInt8):BitVec 32:=l0I 8 (x ^^^ c.toBitVec.setWidth 32)
theorem o2B (x:BitVec 32) (c:UInt8):byt x c=nib (nib (x ^^^ c.toBitVec.setWidth 32)):=by
 unfold byt;rw[d2Z,d2Z,←p1M]
def run (x:BitVec 32) (l:List UInt8):BitVec 32:=l.foldl byt x
def crc (l:List UInt8):BitVec 32:= ~~~ (run (~~~ 0#32) l)
theorem i1E (x:BitVec 32) (a b:List UInt8):run x (a++b)=run (run x a) b:=by simp[run]
-- linear part:the difference of two runs
end Go.Crc
namespace Go.Sb.Sha
abbrev W:=BitVec 32
def e0Q:List W:= [
 0x428a2f98,0x71374491,0xb5c0fbcf,0xe9b5dba5,0x3956c25b,0x59f111f1,0x923f82a4,0xab1c5ed5,
 0xd807aa98,0x12835b01,0x243185be,0x550c7dc3,0x72be5d74,0x80deb1fe,0x9bdc06a7,0xc19bf174,
 0xe49b69c1,0xefbe4786,0x0fc19dc6,0x240ca1cc,0x2de92c6f,0x4a7484aa,0x5cb0a9dc,0x76f988da,
 0x983e5152,0xa831c66d,0xb00327c8,0xbf597fc7,0xc6e00bf3,0xd5a79147,0x06ca6351,0x14292967,
 0x27b70a85,0x2e1b2138,0x4d2c6dfc,0x53380d13,0x650a7354,0x766a0abb,0x81c2c92e,0x92722c85,
 0xa2bfe8a1,0xa81a664b,0xc24b8b70,0xc76c51a3,0xd192e819,0xd6990624,0xf40e3585,0x106aa070,
 0x19a4c116,0x1e376c08,0x2748774c,0x34b0bcb5,0x391c0cb3,0x4ed8aa4a,0x5b9cca4f,0x682e6ff3,
 0x748f82ee,0x78a5636f,0x84c87814,0x8cc70208,0x90befffa,0xa4506ceb,0xbef9a3f7,0xc67178f2]
def start:List W:= [0x6a09e667,0xbb67ae85,0x3c6ef372,0xa54ff53a,0x510e527f,0x9b05688c,0x1f83d9ab,0x5be0cd19]
def s0 (x:W):W:=x.rotateRight 7 ^^^ x.rotateRight 18 ^^^ x >>> 3
def s1 (x:W):W:=x.rotateRight 17 ^^^ x.rotateRight 19 ^^^ x >>> 10
def t0 (a:W):W:=a.rotateRight 2 ^^^ a.rotateRight 13 ^^^ a.rotateRight 22
def t1 (e:W):W:=e.rotateRight 6 ^^^ e.rotateRight 11 ^^^ e.rotateRight 25
def at_ (l:List W) (i:Nat):W:=l.getD i 0
def z0M (w:List W):W:=at_ w (w.length-16)+s0 (at_ w (w.length-15))+at_ w (w.length-7)+s1 (at_ w (w.length-2))
def more:Nat→List W→List W
 |0,w=>w
 |n+1,w=>more n (w++ [z0M w])
def k1I (b:List UInt8):W:=(b.take 4).foldl (fun n c=>n <<< 8 ||| (c.toBitVec.setWidth 32)) 0
def f0L (b:List UInt8):List W:=(List.range 16).map fun i=>k1I (b.drop (4*i))
def j0Z (b:List UInt8):List W:=more 48 (f0L b)
def rnd (v:List W) (k w:W):List W:=
 let e:=at_ v 4;let a:=at_ v 0
 let t:=at_ v 7+k+w+t1 e+(e &&& at_ v 5 ^^^ ~~~e &&& at_ v 6)
 let u:=t0 a+(a &&& at_ v 1 ^^^ a &&& at_ v 2 ^^^ at_ v 1 &&& at_ v 2)
 [t+u,a,at_ v 1,at_ v 2,at_ v 3+t,e,at_ v 5,at_ v 6]
def j0F (w:List W) (v:List W):Nat→List W
 |0=>v
 |i+1=>rnd (j0F w v i) (at_ e0Q i) (at_ w i)
def mix (h:List W) (b:List UInt8):List W:=List.zipWith (· + ·) h (j0F (j0Z b) h 64)
def f0E:Nat→List W→List UInt8→List W
 |0,h,_=>h
 |n+1,h,b=>f0E n (mix h (b.take 64)) (b.drop 64)
def be4 (x:W):List UInt8:= [⟨(x >>> 24).setWidth 8⟩,⟨(x >>> 16).setWidth 8⟩,⟨(x >>> 8).setWidth 8⟩,⟨x.setWidth 8⟩]
def be8 (n:Nat):List UInt8:=(List.range 8).map fun i=>UInt8.ofNat (n/256^(7-i))
def m0E (n:Nat):Nat:=(119-n%64)%64
def l0T (s:List UInt8):List UInt8:=s++128::(List.replicate (m0E s.length) 0++be8 (8*s.length))
def sum (s:List UInt8):List UInt8:=(f0E ((l0T s).length/64) start (l0T s)).flatMap be4
end Go.Sb.Sha
namespace Go.Sb
structure Hd where
 at_:List Int
 sums:List Nat
 sum:B
 deriving Inhabited
def num (x:Int) (k:Nat):B:=beB (u64 x) k k
def f0T (b:B):Nat:=(Crc.crc b).toNat
def t0P (b:B):B:=f0R 60 b++beB (f0T (f0R 60 b)) 4 4
def h0B (x:Hd):B:=t0P ([69]++x.at_.flatMap (num · 2)++x.sums.flatMap (fun s=>beB s 4 4)++x.sum)
def h0C (s:B):Out B:=
 if s.length<60 then .err 2 else if s.length<64 then .err 2 else
 if be ((s.drop 60).take 4)≠f0T (s.take 60)then .err 11 else if s.length≠64 then .err 1 else .ok (s.take 60)
def g0H (k:Nat):Nat→B→List Nat
 |0,_=> []
 |n+1,l=>be (l.take k)::g0H k n (l.drop k)
def h0D (s:B):Out Hd:=match h0C s with
 | .err e=> .err e
 | .big=> .big
 | .ok t=>if t.take 1≠ [69]then .err 1 else
  if b0B (t.drop 57)=false then .err 1 else
  .ok {at_:=(g0H 2 4 (t.drop 1)).map Int.ofNat,sums:=g0H 4 4 (t.drop 9),sum:=(t.drop 25).take 32}
def s0Z {α:Type} (o:Out α):M α:=fun s=>(o,s)
def part (data:B) (k:Nat):B:=(data.drop (64*k)).take 64
def h0M (at_:Int):M Hd:=a0B (i0E at_) fun b=>s0Z (h0D b)
def f0N (x:Hd):Nat→M B
 |0=>ret []
 |n+1=>let k:=4- (n+1);let i:=x.at_.getD k 0
  a0B (if 0<i then a0B (i0E i) fun s=>if f0T s≠x.sums.getD k 0 then n0F 11 else ret s else ret (a0T 64)) fun s=>
  a0B (f0N x n) fun r=>ret (s++r)
def k0H (at_:Int):M B:=if at_=0 then ret (a0T 256)else a0B (h0M at_) fun x=>f0N x 4
def q0R (at_:Int):M B:=if at_=0 then ret (a0T 32)else a0B (h0M at_) fun x=>ret x.sum
def s0F (at_:Int):M Unit:=if at_=0 then ret ()else j0X at_
def key (bits:Nat) (sum:B):B:=d0F bits sum
def m0K (data:B):Nat→M (List (Int×Nat))
 |0=>ret []
 |n+1=>let s:=part data (4- (n+1))
  a0B (if b0B s then ret (0,0)else a0B (e0S s) fun a=>ret (a,f0T s)) fun p=>
  a0B (m0K data n) fun r=>ret (p::r)
def i0F (data:B):M Int:=
 if data.length≠256 then n0F 4 else if b0B data then ret 0 else fun s=>
 match a0H (key s.bits (Sha.sum data)) s.index with
 |some a=>a0B (k0H a) (fun was=>if was≠data then n0F 9 else a0B (j0X a) fun _=>ret a) s
 |none=>a0B (m0K data 4) (fun ps=>
  a0B (e0S (h0B {at_:=ps.map (·.1),sums:=ps.map (·.2),sum:=Sha.sum data})) fun a=>
  a0B (fun s=>f0C (key s.bits (Sha.sum data)) a s) fun _=>ret a) s
def i0Q (i:Int):M Unit:=if 0<i then a0B (e0I i) fun _=>ret ()else ret ()
def g0A (at_:Int):M Unit:=if at_=0 then ret ()else
 a0B (h0M at_) fun x=>a0B (e0I at_) fun b=>if b then a0B (h0T i0Q x.at_) fun _ s=>g0W (key s.bits x.sum) s else ret ()
structure Nd where
 kids:List Int
 sum:B
 deriving Inhabited
def i0R (level:Nat) (n:Nd):B:=t0P ([78]++num level 1++n.kids.flatMap (num · 2)++n.sum)
def f0P (level:Nat) (s:B):Out Nd:=match h0C s with
 | .err e=> .err e
 | .big=> .big
 | .ok t=>if t.take 1≠ [78]then .err 1 else if be ((t.drop 1).take 1)≠level then .err 1 else
  if b0B (t.drop 50)=false then .err 1 else
  .ok {kids:=(g0H 2 8 (t.drop 2)).map Int.ofNat,sum:=(t.drop 18).take 32}
def f0X (level:Nat) (sums:List B):B:=if sums.all (· == a0T 32)then a0T 32 else Sha.sum ([78,UInt8.ofNat level]++sums.flatten)
def f0B:List Int:= [0,0,0,0,0,0,0,0]
def load (at_:Int) (level:Nat):M Nd:=if at_=0 then ret {kids:=f0B,sum:=a0T 32} else a0B (i0E at_) fun b=>s0Z (f0P level b)
def g0O (at_:Int) (level:Nat):M Unit:=if at_=0 then ret ()else if level=0 then s0F at_ else j0X at_
def g0B:Nat→Int→M Unit
 |0,a=>g0A a
 |l+1,a=>if a=0 then ret ()else a0B (load a l) fun n=>a0B (e0I a) fun b=>if b then h0T (g0B l) n.kids else ret ()
def t0Q (a:Int) (level:Nat):M Unit:=g0B (level+1) a
def g0P (level:Nat):List Int→M (List B)
 | []=>ret []
 |k::l=>a0B (match level with|0=>q0R k|n+1=>a0B (load k n) fun x=>ret x.sum) fun s=>a0B (g0P level l) fun r=>ret (s::r)
def b0X (level:Nat) (at_:Nat):Nat×Nat:=(at_/8^level%8,at_%8^level)
def h0V:Nat→Int→Nat→Int→M Int
 |level,root,at_,to_=>
  a0B (load root level) fun n=>a0B (h0T (g0O · level) n.kids) fun _=>a0B (t0Q root level) fun _=>
  a0B (match level with
   |0=>a0B (g0A (n.kids.getD (b0X level at_).1 0)) fun _=>ret to_
   |l+1=>h0V l (n.kids.getD (b0X level at_).1 0) (b0X level at_).2 to_) fun r=>
  let kids:=n.kids.set (b0X level at_).1 r
  if kids=f0B then ret 0 else a0B (g0P level kids) fun ss=>e0S (i0R level {kids:=kids,sum:=f0X level ss})
def k0I:Nat→Int→Nat→M Int
 |0,root,at_=>a0B (load root 0) fun n=>ret (n.kids.getD (b0X 0 at_).1 0)
 |l+1,root,at_=>a0B (load root (l+1)) fun n=>k0I l (n.kids.getD (b0X (l+1) at_).1 0) (b0X (l+1) at_).2
def l0J (root:Int) (at_:Nat) (to_:Int):M Int:=a0B (k0I 2 root at_) fun x=>if x=to_ then a0B (g0A to_) fun _=>ret root else h0V 2 root at_ to_
def f1P (root:Int):M B:=a0B (load root 2) fun n=>ret n.sum
def m2P {C:Type} (see:Nat→Int→Run (St×C) Bool):Nat→Nat→Int→Run (St×C) Bool
 |level,from_,at_=>fun(s,c)=>match load at_ level s with
  | (.err e,s)=>(.err e,(s,c))
  | (.big,s)=>(.big,(s,c))
  | (.ok n,s)=>
   let rec go (k:Nat→Int→Run (St×C) Bool):Nat→List Int→Run (St×C) Bool
    |_,[]=>ret true
    |i,a::l=>if a=0 then go k (i+1) l else a0B (k i a) fun b=>if b then go k (i+1) l else ret false
   go (match level with
    |0=>fun i a=>see (from_+i) a
    |l+1=>fun i a=>m2P see l (from_+i*8^level) a) 0 n.kids (s,c)
def r2G (root:Int) (from_ to_:Nat):M (List (Nat×Int)):=fun s=>
 match m2P (C:=List (Nat×Int)) (fun at_ x=>fun(s,c)=>if to_≤at_ then(.ok false,(s,c))else if from_≤at_ then(.ok true,(s,c++ [(at_,x)]))else(.ok true,(s,c))) 2 0 root (s,[])with
 | (.err e,(s,_))=>(.err e,s)
 | (.big,(s,_))=>(.big,s)
 | (.ok _,(s,c))=>(.ok c,s)
def r2H (root:Int) (from_ to_:Nat):M Int:=a0B (r2G root from_ to_) fun l=>r0B (fun r x=>l0J r x.1 0) root l
def find (id:Int):M Ent:=fun s=>match a0H id s.vols with|some x=>(.ok x,s)|none=>(.err 5,s)
def l0C (id:Int):M Ent:=a0B (find id) fun x=>if x.only then n0F 7 else ret x
def l0K (x:Ent):M Unit:=r0K x.id x
def k0U (x:Ent) (at_ n:Int):M Unit:=if at_<0∨n<0∨x.size<at_∨x.size-at_<n then n0F 6 else ret ()
def m0F (x:Int):Int:=x%4294967296
def u0K (x:Ent):M Int:=fun s=>
 let y:= {x with id:=s.next,born:=s.epoch}
 a0B (o0X (m0F (s.next+1))) (fun _=>a0B (l0K y) fun _=>ret y.id) s
def o0H (x:Ent) (i:Nat):M B:=a0B (k0I 2 x.root i) k0H
def q0S (x:Ent) (i:Nat) (data:B):M Ent:=a0B (i0F data) fun a=>a0B (l0J x.root i a) fun r=>ret {x with root:=r}
def j0C:Nat→Ent→Nat→B→M Ent
 |0,x,_,_=>ret x
 |k+1,x,at_,data=>if data= []then ret x else
  let i:=at_/4;let f:=at_%4*64;let n:=min data.length (256-f)
  a0B (o0H x i) fun was=>a0B (q0S x i (was.take f++data.take n++was.drop (f+n))) fun x=>j0C k x (at_+n/64) (data.drop n)
def e0U (x:Ent) (at_:Nat) (data:B):M Ent:=j0C data.length x at_ data
def e2A (x:Ent) (from_ to_:Nat):M Ent:=
 let a:=(from_+3)/4;let b:=to_/4
 if b≤a then e0U x from_ (a0T ((to_-from_)*64))else
 a0B (e0U x from_ (a0T ((a*4-from_)*64))) fun x=>a0B (r2H x.root a b) fun r=>
 e0U {x with root:=r} (b*4) (a0T ((to_-b*4)*64))
def also {C α:Type} (m:M α) (f:α→C→C):Run (St×C) Unit:=fun(s,c)=>match m s with
 | (.ok a,s)=>(.ok (),(s,f a c))
 | (.err e,s)=>(.err e,(s,c))
 | (.big,s)=>(.big,(s,c))
def m0L (more:Nat):M Unit:=fun s=>
 let room:Int:=2*(s.vols.length+more:Nat)
 a0B (n0O room) (fun _ s=>if 0<more∧(b0U s:Int)<room then(.err 8,s)else(.ok (),s)) s
def call (more:Nat) (run:M Unit):M Int:=fun s=>match n0T (C:=Unit) (also (a0B (m0L more) fun _=>run) fun _ c=>c) (s,())with
 | (o,(s,_))=>(o,s)
def j0I:Ent:= {id:=0,parent:=0,only:=false,size:=0,root:=0,born:=0}
def j0J:Nat→Ent→Nat→Nat→M B
 |0,_,_,_=>ret []
 |k+1,x,at_,n=>if n=0 then ret []else
  let f:=at_%4;let m:=min n (4-f)
  a0B (o0H x (at_/4)) fun b=>a0B (j0J k x (at_+m) (n-m)) fun r=>ret ((b.drop (f*64)).take (m*64)++r)
def j0U (d:Dk) (fr bits:Nat) (next:Int):St:= {d:=d,fr:=fr,g:=List.replicate (d.l.length-fr) 0,refs:= [],young:= [],gone:= [],keep:=0,log:= [],depth:=0,bits:=min (max bits 1) 256,index:= [],vols:= [],next:=max next 1,epoch:=1}
end Go.Sb
namespace Go.Proofs.Q
open Go.Sl Go.Sb
structure Ad where
 disk:Nat
 vd:Value
 log:Nat
 gr:Nat
 grl:Nat
 refs:Nat
 heap:Nat
 st:Nat
 ix:Nat
 maps:Nat
 core:Nat
 vols:Nat
abbrev ptr (b:Nat):Value:= .pointer (some ⟨b,0,none⟩)
abbrev e0D (b:Nat) (t:TypeId) (v:Value):Nat×Obj:=(b,.cells #[v] t (0,0))
def b0M (x:Ent):List Value:= [.int .u32 x.id,.int .u32 x.parent,.bool x.only,.int .i64 x.size,.int .i64 x.root,.int .u32 x.born]
def e0J (s:B):Value:= .agg (s.map a0Z).toArray
def e0K (x:Ent):Value:= .agg (b0M x).toArray
abbrev clo (f:FuncId) (bs:List Nat):Value:= .func (.func f) #[] (bs.map ptr).toArray
def a0V (x:Int):Value:= .int .i64 x
def j0V (x:Int):Value:= .int .u32 x
def m0G (x:Value) (w:List Int) (c:List (Nat×Obj)):Prop:=(∀k∈w,inR k=true)∧(w= []∧x= .slice none 0 0∧c= []∨
 ∃(g cap:Nat) (cur:List Value),x= .slice (some ⟨g,0,none⟩) w.length cap∧w.length≤cap∧cap≤maxLen∧cur.length=cap∧cur.take w.length=w.map a0V∧c= [(g,.cells cur.toArray 3 (0,0))])
def q0W (a:Ad) (by_:Nat):c0Y→Value→List (Nat×Obj)→Prop
 | .give k,v,c=>inR k=true∧ ∃b1 b2,v=clo 284 [b1,b2]∧c= [e0D b1 55 (ptr a.heap),e0D b2 3 (.int .i64 k)]
 | .back k,v,c=>inR k=true∧ ∃b1 b2,v=clo 259 [b1,b2]∧c= [e0D b1 55 (ptr a.heap),e0D b2 3 (.int .i64 k)]
 | .keep w,v,c=> ∃b1 b2,v=clo 195 [b1,b2]∧c= [e0D b1 3 (.int .i64 w),e0D b2 236 (.pointer (some ⟨a.heap,6,none⟩))]
 | .next w,v,c=> ∃b1 b2,v=clo 221 [b1,b2]∧c= [e0D b1 47 (.int .u32 w),e0D b2 256 (.pointer (some ⟨a.core,3,none⟩))]
 | .gone w,v,c=> ∃b1 b2 x b3,v=clo 287 [b1,b2]∧c=e0D b1 90 x::e0D b2 319 (.pointer (some ⟨a.heap,5,none⟩))::b3∧m0G x w b3
 | .refs k w,v,c=> ∃b1 b2 b3 b4,(v=clo 282 [b1,b2,b3,b4]∨v=clo 286 [b1,b2,b3,b4])∧
  c= [e0D b1 89 (.map (some a.refs)),e0D b2 3 (.int .i64 k),e0D b3 3 (.int .i64 (w.getD 0)),e0D b4 4 (.bool w.isSome)]
 | .young k w,v,c=> ∃b1 b2 b3 b4,(v=clo 282 [b1,b2,b3,b4]∨v=clo 286 [b1,b2,b3,b4])∧
  c= [e0D b1 89 (.map (some by_)),e0D b2 3 (.int .i64 k),e0D b3 3 (.int .i64 (w.getD 0)),e0D b4 4 (.bool w.isSome)]
 | .index k w,v,c=>k.length=32∧ ∃b1 b2 b3 b4,(v=clo 253 [b1,b2,b3,b4]∨v=clo 279 [b1,b2,b3,b4])∧
  c= [e0D b1 208 (.map (some a.ix)),(b2,.cells (k.map a0Z).toArray 44 (0,0)),e0D b3 3 (.int .i64 (w.getD 0)),e0D b4 4 (.bool w.isSome)]
 | .vols k w,v,c=> ∃b1 b2 b3 b4,(v=clo 166 [b1,b2,b3,b4]∨v=clo 169 [b1,b2,b3,b4])∧
  c= [e0D b1 57 (.map (some a.vols)),e0D b2 47 (.int .u32 k),(b3,.cells (b0M (w.getD j0I)).toArray 50 (0,0)),e0D b4 4 (.bool w.isSome)]
abbrev Own:=List (c0Y×Value×List (Nat×Obj))
def Own.cells (o:Own):List a0E:=(o.flatMap fun e=>e.2.2).map fun p=>pts p.1 p.2
def o0I (a:Ad) (by_:Nat) (o:Own) (log:List c0Y) (vals:List Value):Prop:=
 log.length≤1000000000∧ ∃live rest:Own,o.Perm (live++rest)∧live.map (·.1)=log∧live.map (·.2.1)=vals∧ ∀e∈live,q0W a by_ e.1 e.2.1 e.2.2
theorem o0I.len {a:Ad} {by_:Nat} {o:Own} {log:List c0Y} {vals:List Value} (h:o0I a by_ o log vals):log.length=vals.length:=by
 obtain⟨_,live,rest,_,rfl,rfl,_⟩:=h
 simp
def j2H (a:Ad) (by_:Nat) (o:Own) (log:List c0Y) (depth:Nat) (v:Value) (vals:List Value):List a0E:=
 [pts a.log (.cells #[v,.int .i64 depth] 154 (0,0)),c0E 1 1 v vals.length vals,b0R (Own.cells o),m0P (o0I a by_ o log vals∧depth≤1000000000)]
def e0O (a:Ad) (by_:Nat) (o:Own) (log:List c0Y) (depth:Nat):a0E:=ex fun x:Value×List Value=>b0R (j2H a by_ o log depth x.1 x.2)
section
section
variable {c:Cx} {ops:Array Oper} {Q:Exit→Act→World→Prop} {rest:List Oper} {env:List (Nat×Value)} {L M:List a0E} {y:Code} {a:Ad} {by_:Nat} {o:Own} {log:List c0Y} {depth:Nat}
theorem w0A (hL:Fnd L (e0O a by_ o log depth) M) (h: ∀v vals,o0I a by_ o log vals→depth≤1000000000→v.oneCell'=true→CW c y Q env (pts a.log (.cells #[v,.int .i64 depth] 154 (0,0))::c0E 1 1 v vals.length vals::b0R (Own.cells o)::M)):CW c y Q env L:=by
 refine b1K hL fun x=> ?_
 simp only[j2H,List.cons_append,List.nil_append]
 intro ac w hh
 have h1:=hh.sat
 have h2:Sat w (m0P (o0I a by_ o log x.2∧depth≤1000000000)::pts a.log (.cells #[x.1,.int .i64 depth] 154 (0,0))::c0E 1 1 x.1 x.2.length x.2::b0R (Own.cells o)::M):=
  h1.perm (Fnd.there (Fnd.there (Fnd.there Fnd.here)))
 obtain⟨⟨h3,h4⟩,h5⟩:=s0R.1 h2
 exact h x.1 x.2 h3 h4 (w1I (h5.perm (Fnd.there Fnd.here))) ac w ⟨hh.size,hh.slots,hh.defers,h5,hh.like⟩
theorem p0A {v:Value} {vals:List Value} (hok:o0I a by_ o log vals) (hd:depth≤1000000000)
 (hL:b0L L [pts a.log (.cells #[v,.int .i64 depth] 154 (0,0)),c0E 1 1 v vals.length vals,b0R (Own.cells o)] M) (w:World) (h:Sat w L):Sat w (e0O a by_ o log depth::M):=by
 refine l0Q.2 ⟨(v,vals),c0A.2 ?_⟩
 have h1:=o0F (p:=o0I a by_ o log vals∧depth≤1000000000) ⟨hok,hd⟩ w (h.perm hL)
 exact h1.perm (List.perm_middle (l₁:= [pts a.log (.cells #[v,.int .i64 depth] 154 (0,0)),c0E 1 1 v vals.length vals,b0R (Own.cells o)])).symm
theorem o2C {st:c0Y} {v:Value} {cells:List (Nat×Obj)} {w:World} (h:Sat w (b0R (Own.cells o)::b0R (cells.map fun p=>pts p.1 p.2)::M)):Sat w (b0R (Own.cells ((st,v,cells)::o))::M):=by
 have h1:Sat w (b0R (cells.map fun p=>pts p.1 p.2)::b0R (Own.cells o)::M):=h.perm (List.Perm.swap _ _ _)
 have h2:=c0A.1 h1
 have h3:Sat w (b0R (Own.cells o)::((cells.map fun p=>pts p.1 p.2)++M)):=h2.perm List.perm_middle
 have h4:=c0A.1 h3
 refine c0A.2 ?_
 have e:Own.cells ((st,v,cells)::o)=(cells.map fun p=>pts p.1 p.2)++Own.cells o:=by simp[Own.cells]
 rw[e,List.append_assoc]
 exact h4.perm ((List.append_assoc _ _ _).symm▸(List.perm_append_comm.append_right M).trans (by rw[List.append_assoc]))
theorem p1N {w:World} {e:c0Y×Value×List (Nat×Obj)} {b:Nat} {ob:Obj} (he:e∈o) (hb:(b,ob)∈e.2.2) (h:Sat w (e0O a by_ o log depth::M)):w.heap[b]? =some ob:=by
 obtain⟨x,h1⟩:=l0Q.1 h
 have h2:=c0A.1 h1
 simp only[j2H,List.cons_append,List.nil_append]at h2
 have h3:Sat w (b0R (Own.cells o)::pts a.log (.cells #[x.1,.int .i64 depth] 154 (0,0))::c0E 1 1 x.1 x.2.length x.2::m0P (o0I a by_ o log x.2∧depth≤1000000000)::M):=
  h2.perm (Fnd.there (Fnd.there Fnd.here))
 have h4:=c0A.1 h3
 have hm:pts b ob∈Own.cells o:=List.mem_map.2 ⟨(b,ob),List.mem_flatMap.2 ⟨e,he,hb⟩,rfl⟩
 obtain⟨l1,l2,hl⟩:=List.append_of_mem hm
 rw[hl,List.append_assoc,List.cons_append]at h4
 exact(h4.perm List.perm_middle).pts
theorem c0J {dd:Option Tmp} {ty:TypeId} {pos:String} {af:Array Edge} {g:Option (Nat×Bool)} {x:Operand} {t et:TypeId} {b k:Nat} {cs:List Value} {e:c0Y×Value×List (Nat×Obj)} {v:Value} (ht:i0B c.P t=true) (hx:evo env x=some (.pointer (some ⟨b,k,none⟩)))
 (hL:Fnd L (e0O a by_ o log depth) M) (he:e∈o) (hb:(b,.cells cs.toArray et (0,0))∈e.2.2) (hv:nth cs k=some v):Sl.a0L c ⟨dd,.load t x,ty,pos,af,g⟩ env L v:=
 y0F ht hx hL fun w L' hs=>by
  have:=p1N he hb hs
  rw[e0L]at hv
  simp[World.cell?,this,hv]
theorem b1Q {dd:Option Tmp} {ty:TypeId} {pos:String} {af:Array Edge} {g:Option (Nat×Bool)} {x:Operand} {t et:TypeId} {b n:Nat} {cs:Array Value} {e:c0Y×Value×List (Nat×Obj)} {v:Array Value} (ht:o0D c.P t n=true) (hx:evo env x=some (.pointer (some ⟨b,0,none⟩)))
 (hL:Fnd L (e0O a by_ o log depth) M) (he:e∈o) (hb:(b,.cells cs et (0,0))∈e.2.2) (hn:0+n≤cs.size) (hv:cs.extract 0 (0+n)=v):Sl.a0L c ⟨dd,.load t x,ty,pos,af,g⟩ env L (.agg v):=by
 intro ac w hh
 have h1:=p1N he hb (hL.sat hh.sat)
 subst hv
 simp[execOp,hh.eval hx,Instr.loadAt,Instr.sureAddr,loadVar,h0Z ht,i0L ht,g0D h1 hn]
end
theorem z1T {a:Ad} {by_:Nat} {o:Own} {log:List c0Y} {vals:List Value} {st:c0Y} {v:Value} {cells:List (Nat×Obj)} (h:o0I a by_ o log vals) (hs:q0W a by_ st v cells) (hn:log.length<1000000000):
 o0I a by_ ((st,v,cells)::o) (log++ [st]) (vals++ [v]):=by
 obtain⟨h1,live,rest,hp,rfl,rfl,hl⟩:=h
 refine⟨by simp at hn ⊢;omega,live++ [(st,v,cells)],rest,?_,by simp,by simp,?_⟩
 ·rw[List.append_assoc];exact(List.Perm.cons _ hp).trans List.perm_middle.symm
 ·intro e he
  rcases List.mem_append.1 he with he|he
  ·exact hl e he
  ·simp at he;subst he;exact hs
theorem z1U {a:Ad} {by_:Nat} {o:Own} {log:List c0Y} {vals:List Value} {e:c0Y×Value×List (Nat×Obj)} (h:o0I a by_ o log vals):o0I a by_ (e::o) log vals:=
 by
  obtain⟨h1,live,rest,hp,h2,h3,hl⟩:=h
  exact⟨h1,live,e::rest,(List.Perm.cons _ hp).trans List.perm_middle.symm,h2,h3,hl⟩
theorem p1O {a:Ad} {by_:Nat} {o:Own} {log:List c0Y} {depth:Nat} {M:List a0E} {w:World} {v fv:Value} {vals:List Value} {st:c0Y} {cells:List (Nat×Obj)} {F:List a0E} (hok:o0I a by_ ((st,fv,cells)::o) log vals) (hd:depth≤1000000000)
 (hL:b0L M [b0R (Own.cells o),b0R (cells.map fun p=>pts p.1 p.2),pts a.log (.cells #[v,.int .i64 depth] 154 (0,0)),c0E 1 1 v vals.length vals] F) (h:Sat w M):Sat w (e0O a by_ ((st,fv,cells)::o) log depth::F):=
 p0A hok hd (b0L.cons (Fnd.there Fnd.here) (b0L.cons (Fnd.there Fnd.here) (b0L.cons Fnd.here b0L.nil))) w (o2C (h.perm hL))
attribute [local irreducible] Sl.a0L Sl.OW Sl.CW Sl.OS Sl.OM Sl.OMf Sl.KM
theorem b1R (a:Ad) (by_:Nat) (o:Own) (log:List c0Y) (depth:Nat) (st:c0Y) (f:FuncId) (bb:List Nat) (cells:List (Nat×Obj)) (hs:q0W a by_ st (clo f bb) cells) (hn:log.length<1000000000):
 a0S Tryz.prog 165 #[ptr a.log,clo f bb] [e0O a by_ o log depth,b0R (cells.map fun p=>pts p.1 p.2)] (b0G (.tuple #[]) [e0O a by_ ((st,clo f bb,cells)::o) (bk depth log st) depth]):=by
 refine a0C Tryz.func165 rfl Tryz.ntmps165 rfl (fun R w0=> ?_)
 simp only[a0N,List.cons_append,List.nil_append]
 refine w0A gFd fun v0 vals hok hdp hv1=> ?_
 have hlen:=hok.len
 refine go 9 ?_
 refine b0C rfl (fun hb8=> ?_) (fun hb8=> ?_)
 ·have hpos:0<depth:=by have:=of_decide_eq_true hb8;omega
  refine go 7 ?_
  refine(b0P Tsl.o Zr.o rfl rfl rfl (by simp[d0B,d0K,Value.cells]<;>rfl) (fun b15=> ?_))
  refine(e0F Tsl.o Ttb.o Zr.o rfl rfl rfl gFd (h0O Tsl.o (by simp;rfl) (by simp) (by simp[Value.oneCell'])) (by simp only[maxLen];omega) (by omega) (fun v16 hv16=> ?_))
  refine go 4 ?_
  have e:bk depth log st=log++ [st]:=if_pos hpos
  rw[e]
  exact b0O (fun w h=>p1O (vals:=vals++ [clo f bb]) (z1T hok hs hn) hdp (by rw[List.length_append];exact gSp) h) (e0N rfl rfl gSp)
 ·have hpos: ¬0<depth:=by have:=of_decide_eq_false hb8;omega
  refine go 1 ?_
  have e:bk depth log st=log:=if_neg hpos
  rw[e]
  exact b0O (fun w h=>p1O (vals:=vals) (z1U hok) hdp gSp h) (e0N rfl rfl gSp)
end
end Go.Proofs.Q
