/- Part of the proof; no statement of its own. -/
import Derived.Test.YtpinhnikemamjaaGreatDoorB08
import Derived.Test.YtpinhnikemamjaaGreatDoorB11
import Derived.Test.YtpinhnikemamjaaGreatDoorProg
import Derived.KernelRfl
import Derived.Shelf.Strings.Builder1
import Derived.Shelf.Strings.Builder2
import Derived.Shelf.Strings.Trim
import Derived.Shelf.Small.Utf8
import Derived.Shelf.Small.Bits
import Derived.Shelf.Small.Strs
import Derived.Shelf.Small.Wraps
import Derived.Shelf.Strings.BuilderF
import Derived.Shelf.Strings.BuilderK
import Derived.Shelf.Strings.Builder2Cap
import Derived.Shelf.Strconv.Itoa0
import Derived.Shelf.Strings.Search1
import Derived.Shelf.Sort.Plain
import Derived.Shelf.Strings.Prefix
import Derived.Shelf.Unicode.Decode
import Derived.Shelf.Strings.Runes
import Derived.Shelf.Strings.AsciiSet
import Derived.Shelf.Bits.Mul64
import Derived.Shelf.Strings.Repeat
import Derived.Shelf.Unicode.DecodeSlow
import Derived.Shelf.Unicode.DecodeAny
import Derived.Shelf.Unicode.DecodeLast
import Derived.Shelf.Strings.BuilderCap
import Derived.Ground.Names2Prog
import Derived.Shelf.Slices.SearchI
import Derived.Shelf.Slices.In.SortNone
import Derived.Test.YtpinhnikemamjaaGreatDoorB09
import Derived.Test.YtpinhnikemamjaaGreatDoorB06
set_option linter.all false
set_option maxRecDepth 4000
set_option maxHeartbeats 4000000
namespace Go.Proofs.Q
open Go.Sl Go.Sb
section
theorem w1R (a:Ad) (by_:Nat) (o:Own) (log:List c0Y) (depth:Nat) (gv to_:Value) (keep:Int) (was:List Int) (gc:List (Nat×Obj)) (hn:log.length<1000000000) (hg:m0G gv was gc) (hto:to_.oneCell'=true):
 a0S Tryz.prog 260 #[ptr a.log,.pointer (some ⟨a.heap,5,none⟩),to_] (e0O a by_ o log depth::h0N a by_ gv keep::h0G gc) (x0W a by_ o log depth (.gone was) [h0N a by_ to_ keep]):=
 f1M (fun w F h=>by
  have h1:Sat w (e0O a by_ o log depth::h0N a by_ gv keep::(h0G gc++F)):=h
  have h2:Sat w (h0G gc++(F++ [e0O a by_ o log depth,h0N a by_ gv keep])):=(h1.perm (List.perm_append_comm (l₁:= [e0O a by_ o log depth,h0N a by_ gv keep]) (l₂:=h0G gc++F))).perm (by rw[List.append_assoc])
  have h3:Sat w ((b0R (h0G gc)::F)++ [e0O a by_ o log depth,h0N a by_ gv keep]):=c0A.2 h2
  exact h3.perm List.perm_append_comm) (u1M a by_ o log depth gv to_ keep was gc hn hg hto)
abbrev stB (a:Ad) (b1 b2:Nat) (k:Int):c0Y×Value×List (Nat×Obj):=(.back k,clo 259 [b1,b2],[e0D b1 55 (ptr a.heap),e0D b2 3 (.int .i64 k)])
attribute [local irreducible] Sl.a0L Sl.OW Sl.CW Sl.OS Sl.OM Sl.OMf Sl.KM
theorem e2H (W:World) (a:Ad) (s:St) (at_:Int) (h1:d0U s at_=1) (hi:inR at_=true) (hn:s.log.length<1000000000) (hn2:(bk s.depth s.log (.refs at_ (a0H at_ s.refs))).length<1000000000) (hy: ¬0<h0A s at_):
 a0S Tryz.prog 206 #[ptr a.heap,.int .i64 at_] (RS W a s) (Ran fT (RS W a) (fun b=> .bool b) ((.ok true,{s with refs:=b0I at_ s.refs,g:=mvL s.fr s.g at_ 1 2,log:=bk s.depth (bk s.depth s.log (.refs at_ (a0H at_ s.refs))) (.back at_)}):Out Bool×St)):=by
 have h1':(a0H at_ s.refs).getD 0=1:=h1
 have hy': ¬0<(a0H at_ s.young).getD 0:=hy
 refine a0C Tryz.func206 rfl Tryz.ntmps206 rfl (fun R w0=> ?_)
 simp only[a0N,List.cons_append,List.nil_append]
 refine f0F gFd fun by_ gv gc o hg hok=> ?_
 simp only[e0A,d0I,List.cons_append,List.nil_append]
 refine go 2 ?_
 refine(a0X rfl (fun b2=> ?_))
 refine(a0X rfl (fun b3=> ?_))
 refine go 10 ?_
 refine c0K (k0G (ek:=a0V) (ev:=a0V) e0T.o m0R (tt fun _=>trivial) trivial Zr.o rfl rfl gFd i0S) ?_
 refine go 16 ?_
 refine c0C rfl (by simp[h1']) ?_
 refine go 6 ?_
 refine d0W rfl (by simp[h1']) ?_
 refine go 1 ?_
 refine d0S 9 Fol.o (by kernel_rfl) ?_
 simp only[List.take_succ_cons,List.take_zero,List.drop_succ_cons,List.drop_zero]
 refine go 10 ?_
 refine a0W rfl Hb.o rfl (p0U a by_ o s.log s.depth a.refs s.refs at_ (.refs at_ (a0H at_ s.refs)) hn (fun _ _ _ _=>⟨_,_,_,_,.inr rfl,rfl⟩)) gSp ?_
 rintro e _
 refine ns ?_
 refine go 3 ?_
 refine d0S 5 Fol.o (by kernel_rfl) ?_
 simp only[List.take_succ_cons,List.take_zero,List.drop_succ_cons,List.drop_zero]
 refine go 6 ?_
 refine a0D rfl Hb.o rfl (x0V a.gr a.grl s.fr s.g at_ (w0B hi) hok.1 hok.2.1) gSp ?_
 refine ns ?_
 refine go 9 ?_
 refine a0D rfl Hb.o rfl (z0N a by_ (e::o) (bk s.depth s.log (.refs at_ (a0H at_ s.refs))) s.depth (.back at_) _ ⟨hi,_,_,rfl,rfl⟩ hn2) gSp ?_
 refine ns ?_
 refine go 5 ?_
 refine c0K (c0J Sc.o rfl gFd List.mem_cons_self List.mem_cons_self rfl) ?_
 refine go 3 ?_
 refine c0K (c0J Sc.o rfl gFd List.mem_cons_self (List.mem_cons_of_mem _ List.mem_cons_self) rfl) ?_
 refine c0K (k0G (ek:=a0V) (ev:=a0V) e0T.o m0R (tt fun _=>trivial) trivial Zr.o rfl rfl gFd i0S) ?_
 refine go 3 ?_
 refine c0C rfl (by simpa using hy') ?_
 refine go 7 ?_
 refine c0S (d0Q (s:= {s with refs:=b0I at_ s.refs,g:=mvL s.fr s.g at_ 1 2,log:=bk s.depth (bk s.depth s.log (.refs at_ (a0H at_ s.refs))) (.back at_)}) hg (by exact⟨hok.1,by simpa [v0G] using hok.2.1,v0H (by omega) hok.2.2.1,hok.2.2.2⟩) gSp) (c0I rfl (fun _ _ h=>h) rfl rfl gSp)
theorem u1Q (W:World) (a:Ad) (s:St) (at_:Int) (h1:d0U s at_=1) (hi:inR at_=true) (hn:s.log.length<1000000000) (hn2:(bk s.depth s.log (.refs at_ (a0H at_ s.refs))).length<1000000000) (hy:0<h0A s at_)
 (hgl:s.gone.length+1<1000000000) (hn3:(bk s.depth (bk s.depth s.log (.refs at_ (a0H at_ s.refs))) (.back at_)).length<1000000000) (hn4:(bk s.depth (bk s.depth (bk s.depth s.log (.refs at_ (a0H at_ s.refs))) (.back at_)) (.young at_ (a0H at_ s.young))).length<1000000000):
 a0S Tryz.prog 206 #[ptr a.heap,.int .i64 at_] (RS W a s) (Ran fT (RS W a) (fun b=> .bool b) ((.ok true,{s with refs:=b0I at_ s.refs,g:=mvL s.fr s.g at_ 1 2,young:=b0I at_ s.young,gone:=s.gone++ [at_],log:=bk s.depth (bk s.depth (bk s.depth (bk s.depth s.log (.refs at_ (a0H at_ s.refs))) (.back at_)) (.young at_ (a0H at_ s.young))) (.gone s.gone)}):Out Bool×St)):=by
 have h1':(a0H at_ s.refs).getD 0=1:=h1
 have hy':0<(a0H at_ s.young).getD 0:=hy
 refine a0C Tryz.func206 rfl Tryz.ntmps206 rfl (fun R w0=> ?_)
 simp only[a0N,List.cons_append,List.nil_append]
 refine f0F gFd fun by_ gv gc o hg hok=> ?_
 have hok':n0I {s with refs:=b0I at_ s.refs,g:=mvL s.fr s.g at_ 1 2,young:=b0I at_ s.young,gone:=s.gone++ [at_],log:=bk s.depth (bk s.depth (bk s.depth (bk s.depth s.log (.refs at_ (a0H at_ s.refs))) (.back at_)) (.young at_ (a0H at_ s.young))) (.gone s.gone)} :=⟨hok.1,by simpa [v0G] using hok.2.1,v0H (by omega) hok.2.2.1,hok.2.2.2⟩
 simp only[e0A,d0I,List.cons_append,List.nil_append]
 have hg0:=hg
 obtain⟨hgr,⟨hgn,rfl,rfl⟩| ⟨g,cap,cur,rfl,hcap,hmx,hcl,htk,rfl⟩⟩:=hg
 ·refine go 2 ?_
  refine(a0X rfl (fun b2=> ?_))
  refine(a0X rfl (fun b3=> ?_))
  refine go 10 ?_
  refine c0K (k0G (ek:=a0V) (ev:=a0V) e0T.o m0R (tt fun _=>trivial) trivial Zr.o rfl rfl gFd i0S) ?_
  refine go 16 ?_
  refine c0C rfl (by simp[h1']) ?_
  refine go 6 ?_
  refine d0W rfl (by simp[h1']) ?_
  refine go 1 ?_
  refine d0S 9 Fol.o (by kernel_rfl) ?_
  simp only[List.take_succ_cons,List.take_zero,List.drop_succ_cons,List.drop_zero]
  refine go 10 ?_
  refine a0W rfl Hb.o rfl (p0U a by_ o s.log s.depth a.refs s.refs at_ (.refs at_ (a0H at_ s.refs)) hn (fun _ _ _ _=>⟨_,_,_,_,.inr rfl,rfl⟩)) gSp ?_
  rintro e _
  refine ns ?_
  refine go 3 ?_
  refine d0S 5 Fol.o (by kernel_rfl) ?_
  simp only[List.take_succ_cons,List.take_zero,List.drop_succ_cons,List.drop_zero]
  refine go 6 ?_
  refine a0D rfl Hb.o rfl (x0V a.gr a.grl s.fr s.g at_ (w0B hi) hok.1 hok.2.1) gSp ?_
  refine ns ?_
  refine go 9 ?_
  refine a0D rfl Hb.o rfl (z0N a by_ (e::o) (bk s.depth s.log (.refs at_ (a0H at_ s.refs))) s.depth (.back at_) _ ⟨hi,_,_,rfl,rfl⟩ hn2) gSp ?_
  refine ns ?_
  refine go 5 ?_
  refine c0K (c0J Sc.o rfl gFd List.mem_cons_self List.mem_cons_self rfl) ?_
  refine go 3 ?_
  refine c0K (c0J Sc.o rfl gFd List.mem_cons_self (List.mem_cons_of_mem _ List.mem_cons_self) rfl) ?_
  refine c0K (k0G (ek:=a0V) (ev:=a0V) e0T.o m0R (tt fun _=>trivial) trivial Zr.o rfl rfl gFd i0S) ?_
  refine go 3 ?_
  refine d0W rfl (by simpa using hy') ?_
  refine go 1 ?_
  refine d0S 9 Fol.o (by kernel_rfl) ?_
  simp only[List.take_succ_cons,List.take_zero,List.drop_succ_cons,List.drop_zero]
  refine c0K (c0J Sc.o rfl gFd List.mem_cons_self List.mem_cons_self rfl) ?_
  refine go 3 ?_
  refine c0K (c0J Sc.o rfl gFd List.mem_cons_self List.mem_cons_self rfl) ?_
  refine go 3 ?_
  refine c0K (c0J Sc.o rfl gFd List.mem_cons_self (List.mem_cons_of_mem _ List.mem_cons_self) rfl) ?_
  refine go 1 ?_
  refine a0W rfl Hb.o rfl (p0U a by_ (stB a b2 b3 at_::e::o) (bk s.depth (bk s.depth s.log (.refs at_ (a0H at_ s.refs))) (.back at_)) s.depth by_ s.young at_ (.young at_ (a0H at_ s.young)) hn3 (fun _ _ _ _=>⟨_,_,_,_,.inr rfl,rfl⟩)) gSp ?_
  rintro e2 _
  refine ns ?_
  refine go 2 ?_
  refine t0Z 25 (by rfl) (.soft 0 (.soft 1 (.soft 2 (.soft 3 (.soft 4 (.soft 5 (.soft 6 (.soft 7 (.soft 8 (.soft 9 (.soft 10 (.soft 11 (.soft 12 (.soft 13 (.soft 14 (.soft 15 (.soft 16 (.soft 17 (.soft 18 (.soft 19 (.soft 20 (.soft 21 (.soft 22 (.hard 23 (.hard 24 .done))))))))))))))))))))))))) [h0N a by_ (.slice none 0 0) s.keep,e0O a by_ (e2::stB a b2 b3 at_::e::o) (bk s.depth (bk s.depth (bk s.depth s.log (.refs at_ (a0H at_ s.refs))) (.back at_)) (.young at_ (a0H at_ s.young))) s.depth] Fol.o (by kernel_rfl) (by repeat (first|with_reducible exact a0J.bp|with_reducible apply a0J.then|with_reducible apply a0J.inBlock)) gSp ?_
  simp only[List.take_succ_cons,List.take_zero]
  refine i0A rfl (c0J Sc.o rfl gFd (List.mem_cons_of_mem _ List.mem_cons_self) List.mem_cons_self rfl) ?_
  refine go 3 ?_
  refine i0A rfl (c0J Sc.o rfl gFd (List.mem_cons_of_mem _ List.mem_cons_self) List.mem_cons_self rfl) ?_
  refine go 2 ?_
  refine i0A rfl (c0J Sc.o rfl gFd (List.mem_cons_of_mem _ List.mem_cons_self) List.mem_cons_self rfl) ?_
  refine go 3 ?_
  refine i0A rfl (c0J Sc.o rfl gFd (List.mem_cons_of_mem _ List.mem_cons_self) List.mem_cons_self rfl) ?_
  refine go 4 ?_
  refine i0A rfl (c0J Sc.o rfl gFd (List.mem_cons_of_mem _ List.mem_cons_self) List.mem_cons_self rfl) ?_
  refine go 4 ?_
  refine i0A rfl (l1W Tsl.o rfl rfl rfl (by omega)) ?_
  refine i0A rfl (c0J Sc.o rfl gFd (List.mem_cons_of_mem _ List.mem_cons_self) (List.mem_cons_of_mem _ List.mem_cons_self) rfl) ?_
  refine c0H rfl (fun hok EE FF=> ?_)
  simp only[List.cons_append,List.nil_append]
  refine(b0P Tsl.o Zr.o rfl rfl rfl (by simp[d0B,d0K,Value.cells]<;>rfl) (fun b80=> ?_))
  refine go 1 ?_
  refine c0G (E:=EE) (F:=FF) (by repeat (first|exact Tl.nil|apply Tl.cons)) gFd gSp (hok.put rfl) ?_
  refine c0H rfl (fun hok EE FF=> ?_)
  simp only[List.cons_append,List.nil_append]
  refine b1A Tsl.o Ttb.o Zr.o rfl rfl rfl i2P rfl (h0O Tsl.o (by simp;rfl) (by simp) (by simp[Value.oneCell'])) (by omega) (by simp only[maxLen];omega) (by omega) (fun b81 cap81 cur81 ha hb hc hd=> ?_)
  refine go 1 ?_
  refine c0G (E:=EE) (F:=FF) (by repeat (first|exact Tl.nil|apply Tl.cons)) gFd gSp (hok.put rfl) ?_
  refine go 1 ?_
  refine y0H ?_
  refine a0W rfl Hb.o rfl (w1R a by_ (e2::stB a b2 b3 at_::e::o) (bk s.depth (bk s.depth (bk s.depth s.log (.refs at_ (a0H at_ s.refs))) (.back at_)) (.young at_ (a0H at_ s.young))) s.depth (.slice none 0 0) _ s.keep s.gone [] hn4 hg0 rfl) gSp ?_
  rintro e3 _
  refine ns ?_
  refine go 3 ?_
  have h9:=m1F (b:=b81) hg0 hi (by rw[hgn];exact ha) hb hc (by rw[hgn];exact hd)
  refine c0S (L':=b0R (h0G [(b81,.cells cur81.toArray 3 (0,0))])::_) (fun w h=>c0A.2 ((show Fnd _ (pts b81 _) _ from gFd).sat h)) ?_
  refine go 4 ?_
  refine c0S (d0Q (s:= {s with refs:=b0I at_ s.refs,g:=mvL s.fr s.g at_ 1 2,young:=b0I at_ s.young,gone:=s.gone++ [at_],log:=bk s.depth (bk s.depth (bk s.depth (bk s.depth s.log (.refs at_ (a0H at_ s.refs))) (.back at_)) (.young at_ (a0H at_ s.young))) (.gone s.gone)}) (by_:=by_) (gv:= .slice (some ⟨b81,0,none⟩) (0+1) cap81) (gc:= [(b81,.cells cur81.toArray 3 (0,0))]) (by rw[hgn]at h9 ⊢;exact h9) hok' gSp) (c0I rfl (fun _ _ h=>h) rfl rfl gSp)
 ·try simp only[h0G,List.map_cons,List.map_nil]
  refine c0S (L':=pts g (.cells cur.toArray 3 (0,0)):: [h0N a by_ (.slice (some ⟨g,0,none⟩) s.gone.length cap) s.keep,e0O a by_ o s.log s.depth,c0T by_ a0V a0V s.young,c0T a.refs a0V a0V s.refs,c0T a.ix e0J a0V s.index,c0T a.vols j0V e0K s.vols,q0Z a s.next s.epoch,pts a.gr (.cells (l0S s.fr a.grl s.g).toArray 192 (0,0)),pts a.grl (.cells (s.g.map gst).toArray 3 (0,0)),whole W,dkC a s.d,dkR a s.d,m0P (l0L s.d),stC a s.bits,mpC a,R]) (fun w h=> ?_) ?_
  ·have h1:=c0A.1 ((show Fnd _ (b0R _) _ from gFd).sat h)
   exact h1.re gSp
  try simp only[d0I]
  refine go 2 ?_
  refine(a0X rfl (fun b2=> ?_))
  refine(a0X rfl (fun b3=> ?_))
  refine go 10 ?_
  refine c0K (k0G (ek:=a0V) (ev:=a0V) e0T.o m0R (tt fun _=>trivial) trivial Zr.o rfl rfl gFd i0S) ?_
  refine go 16 ?_
  refine c0C rfl (by simp[h1']) ?_
  refine go 6 ?_
  refine d0W rfl (by simp[h1']) ?_
  refine go 1 ?_
  refine d0S 9 Fol.o (by kernel_rfl) ?_
  simp only[List.take_succ_cons,List.take_zero,List.drop_succ_cons,List.drop_zero]
  refine go 10 ?_
  refine a0W rfl Hb.o rfl (p0U a by_ o s.log s.depth a.refs s.refs at_ (.refs at_ (a0H at_ s.refs)) hn (fun _ _ _ _=>⟨_,_,_,_,.inr rfl,rfl⟩)) gSp ?_
  rintro e _
  refine ns ?_
  refine go 3 ?_
  refine d0S 5 Fol.o (by kernel_rfl) ?_
  simp only[List.take_succ_cons,List.take_zero,List.drop_succ_cons,List.drop_zero]
  refine go 6 ?_
  refine a0D rfl Hb.o rfl (x0V a.gr a.grl s.fr s.g at_ (w0B hi) hok.1 hok.2.1) gSp ?_
  refine ns ?_
  refine go 9 ?_
  refine a0D rfl Hb.o rfl (z0N a by_ (e::o) (bk s.depth s.log (.refs at_ (a0H at_ s.refs))) s.depth (.back at_) _ ⟨hi,_,_,rfl,rfl⟩ hn2) gSp ?_
  refine ns ?_
  refine go 5 ?_
  refine c0K (c0J Sc.o rfl gFd List.mem_cons_self List.mem_cons_self rfl) ?_
  refine go 3 ?_
  refine c0K (c0J Sc.o rfl gFd List.mem_cons_self (List.mem_cons_of_mem _ List.mem_cons_self) rfl) ?_
  refine c0K (k0G (ek:=a0V) (ev:=a0V) e0T.o m0R (tt fun _=>trivial) trivial Zr.o rfl rfl gFd i0S) ?_
  refine go 3 ?_
  refine d0W rfl (by simpa using hy') ?_
  refine go 1 ?_
  refine d0S 9 Fol.o (by kernel_rfl) ?_
  simp only[List.take_succ_cons,List.take_zero,List.drop_succ_cons,List.drop_zero]
  refine c0K (c0J Sc.o rfl gFd List.mem_cons_self List.mem_cons_self rfl) ?_
  refine go 3 ?_
  refine c0K (c0J Sc.o rfl gFd List.mem_cons_self List.mem_cons_self rfl) ?_
  refine go 3 ?_
  refine c0K (c0J Sc.o rfl gFd List.mem_cons_self (List.mem_cons_of_mem _ List.mem_cons_self) rfl) ?_
  refine go 1 ?_
  refine a0W rfl Hb.o rfl (p0U a by_ (stB a b2 b3 at_::e::o) (bk s.depth (bk s.depth s.log (.refs at_ (a0H at_ s.refs))) (.back at_)) s.depth by_ s.young at_ (.young at_ (a0H at_ s.young)) hn3 (fun _ _ _ _=>⟨_,_,_,_,.inr rfl,rfl⟩)) gSp ?_
  rintro e2 _
  refine ns ?_
  refine go 2 ?_
  refine t0Z 25 (by rfl) (.soft 0 (.soft 1 (.soft 2 (.soft 3 (.soft 4 (.soft 5 (.soft 6 (.soft 7 (.soft 8 (.soft 9 (.soft 10 (.soft 11 (.soft 12 (.soft 13 (.soft 14 (.soft 15 (.soft 16 (.soft 17 (.soft 18 (.soft 19 (.soft 20 (.soft 21 (.soft 22 (.hard 23 (.hard 24 .done))))))))))))))))))))))))) [pts g (.cells cur.toArray 3 (0,0)),h0N a by_ (.slice (some ⟨g,0,none⟩) s.gone.length cap) s.keep,e0O a by_ (e2::stB a b2 b3 at_::e::o) (bk s.depth (bk s.depth (bk s.depth s.log (.refs at_ (a0H at_ s.refs))) (.back at_)) (.young at_ (a0H at_ s.young))) s.depth] Fol.o (by kernel_rfl) (by repeat (first|with_reducible exact a0J.bp|with_reducible apply a0J.then|with_reducible apply a0J.inBlock)) gSp ?_
  simp only[List.take_succ_cons,List.take_zero]
  refine i0A rfl (c0J Sc.o rfl gFd (List.mem_cons_of_mem _ List.mem_cons_self) List.mem_cons_self rfl) ?_
  refine go 3 ?_
  refine i0A rfl (c0J Sc.o rfl gFd (List.mem_cons_of_mem _ List.mem_cons_self) List.mem_cons_self rfl) ?_
  refine go 2 ?_
  refine i0A rfl (c0J Sc.o rfl gFd (List.mem_cons_of_mem _ List.mem_cons_self) List.mem_cons_self rfl) ?_
  refine go 3 ?_
  refine i0A rfl (c0J Sc.o rfl gFd (List.mem_cons_of_mem _ List.mem_cons_self) List.mem_cons_self rfl) ?_
  refine go 4 ?_
  refine i0A rfl (c0J Sc.o rfl gFd (List.mem_cons_of_mem _ List.mem_cons_self) List.mem_cons_self rfl) ?_
  refine go 4 ?_
  refine i0A rfl (l1W Tsl.o rfl rfl rfl (by omega)) ?_
  refine i0A rfl (c0J Sc.o rfl gFd (List.mem_cons_of_mem _ List.mem_cons_self) (List.mem_cons_of_mem _ List.mem_cons_self) rfl) ?_
  refine c0H rfl (fun hok EE FF=> ?_)
  simp only[List.cons_append,List.nil_append]
  refine(b0P Tsl.o Zr.o rfl rfl rfl (by simp[d0B,d0K,Value.cells]<;>rfl) (fun b80=> ?_))
  refine go 1 ?_
  refine c0G (E:=EE) (F:=FF) (by repeat (first|exact Tl.nil|apply Tl.cons)) gFd gSp (hok.put rfl) ?_
  refine c0H rfl (fun hok EE FF=> ?_)
  simp only[List.cons_append,List.nil_append]
  refine b1A Tsl.o Ttb.o Zr.o rfl rfl rfl (i2O (xs:=s.gone.map a0V) (g:=g) (by rw[hcl];omega) (by rw[Nat.mul_one];exact htk)) (by simp) (h0O Tsl.o (by simp;rfl) (by simp) (by simp[Value.oneCell'])) (by omega) (by simp only[maxLen];omega) (by omega) (fun b81 cap81 cur81 ha hb hc hd=> ?_)
  refine go 1 ?_
  refine c0G (E:=EE) (F:=FF) (by repeat (first|exact Tl.nil|apply Tl.cons)) gFd gSp (hok.put rfl) ?_
  refine go 1 ?_
  refine y0H ?_
  refine a0W rfl Hb.o rfl (w1R a by_ (e2::stB a b2 b3 at_::e::o) (bk s.depth (bk s.depth (bk s.depth s.log (.refs at_ (a0H at_ s.refs))) (.back at_)) (.young at_ (a0H at_ s.young))) s.depth (.slice (some ⟨g,0,none⟩) s.gone.length cap) _ s.keep s.gone [(g,.cells cur.toArray 3 (0,0))] hn4 hg0 rfl) gSp ?_
  rintro e3 _
  refine ns ?_
  refine go 3 ?_
  have h9:=m1F (b:=b81) hg0 hi ha hb hc hd
  refine c0S (L':=b0R (h0G [(b81,.cells cur81.toArray 3 (0,0))])::_) (fun w h=>c0A.2 ((show Fnd _ (pts b81 _) _ from gFd).sat h)) ?_
  refine go 4 ?_
  refine c0S (d0Q (s:= {s with refs:=b0I at_ s.refs,g:=mvL s.fr s.g at_ 1 2,young:=b0I at_ s.young,gone:=s.gone++ [at_],log:=bk s.depth (bk s.depth (bk s.depth (bk s.depth s.log (.refs at_ (a0H at_ s.refs))) (.back at_)) (.young at_ (a0H at_ s.young))) (.gone s.gone)}) (by_:=by_) (gv:= .slice (some ⟨b81,0,none⟩) (s.gone.length+1) cap81) (gc:= [(b81,.cells cur81.toArray 3 (0,0))]) h9 hok' gSp) (c0I rfl (fun _ _ h=>h) rfl rfl gSp)
end
end Go.Proofs.Q
namespace Go.Proofs.Q
open Go
instance:Sl.Hb Tryz.prog 285:=⟨by kernel_rfl⟩
instance:Sl.Hb Tryz.prog 39:=⟨by kernel_rfl⟩
end Go.Proofs.Q
namespace Go.Proofs
open Go.Shelf
open Go.RowKit in
open Go.RowKit in
open Go.RowKit in
section
def Tryz.lays160_ren:Go.Shelf.Ren:=⟨fun|160=>224|232=>269|231=>268|227=>270|234=>272|233=>271|236=>274|235=>273|228=>289|271=>292|151=>291|197=>290|120=>298|152=>297|260=>296|137=>299|119=>300|224=>301|225=>302|217=>303|266=>304|n=>n,fun|9=>9|4=>4|3=>3|5=>5|117=>328|116=>327|0=>0|124=>331|21=>21|105=>339|46=>166|119=>347|139=>350|138=>349|n=>n,fun|3=>2|4=>3|n=>n⟩
theorem Tryz.lays160:Go.Proofs.Lays.n160 Tryz.prog Tryz.lays160_ren:= {
 mixed:=by kernel_rfl
 f119:=Tryz.func300.trans (congrArg some (by kernel_rfl))
 f120:=Tryz.func298.trans (congrArg some (by kernel_rfl))
 f137:=Tryz.func299.trans (congrArg some (by kernel_rfl))
 f151:=Tryz.func291.trans (congrArg some (by kernel_rfl))
 f152:=Tryz.func297.trans (congrArg some (by kernel_rfl))
 f160:=Tryz.func224.trans (congrArg some (by kernel_rfl))
 f197:=Tryz.func290.trans (congrArg some (by kernel_rfl))
 f217:=Tryz.func303.trans (congrArg some (by kernel_rfl))
 f224:=Tryz.func301.trans (congrArg some (by kernel_rfl))
 f225:=Tryz.func302.trans (congrArg some (by kernel_rfl))
 f227:=Tryz.func270.trans (congrArg some (by kernel_rfl))
 f228:=Tryz.func289.trans (congrArg some (by kernel_rfl))
 f231:=Tryz.func268.trans (congrArg some (by kernel_rfl))
 f232:=Tryz.func269.trans (congrArg some (by kernel_rfl))
 f233:=Tryz.func271.trans (congrArg some (by kernel_rfl))
 f234:=Tryz.func272.trans (congrArg some (by kernel_rfl))
 f235:=Tryz.func273.trans (congrArg some (by kernel_rfl))
 f236:=Tryz.func274.trans (congrArg some (by kernel_rfl))
 f260:=Tryz.func296.trans (congrArg some (by kernel_rfl))
 f266:=Tryz.func304.trans (congrArg some (by kernel_rfl))
 f271:=Tryz.func292.trans (congrArg some (by kernel_rfl))
 t0:=Tryz.underlying0
 a0:=Tryz.isAgg0
 z0:=Tryz.sizeOf0
 v0:=Tryz.zeroValue0
 t3:=Tryz.underlying3
 a3:=Tryz.isAgg3
 z3:=Tryz.sizeOf3
 v3:=Tryz.zeroValue3
 t4:=Tryz.underlying4
 a4:=Tryz.isAgg4
 z4:=Tryz.sizeOf4
 v4:=Tryz.zeroValue4
 t5:=Tryz.underlying5
 a5:=Tryz.isAgg5
 z5:=Tryz.sizeOf5
 v5:=Tryz.zeroValue5
 t9:=Tryz.underlying9
 a9:=Tryz.isAgg9
 z9:=Tryz.sizeOf9
 v9:=Tryz.zeroValue9
 t21:=Tryz.underlying21
 a21:=Tryz.isAgg21
 z21:=Tryz.sizeOf21
 v21:=Tryz.zeroValue21
 t46:=Tryz.underlying166
 a46:=Tryz.isAgg166
 z46:=Tryz.sizeOf166
 v46:=Tryz.zeroValue166
 t105:=Tryz.underlying339
 a105:=Tryz.isAgg339
 z105:=Tryz.sizeOf339
 v105:=Tryz.zeroValue339
 t116:=Tryz.underlying327
 a116:=Tryz.isAgg327
 z116:=Tryz.sizeOf327
 t117:=Tryz.underlying328
 a117:=Tryz.isAgg328
 z117:=Tryz.sizeOf328
 v117:=Tryz.zeroValue328
 t119:=Tryz.underlying347
 a119:=Tryz.isAgg347
 z119:=Tryz.sizeOf347
 t124:=Tryz.underlying331
 a124:=Tryz.isAgg331
 z124:=Tryz.sizeOf331
 v124:=Tryz.zeroValue331
 t138:=Tryz.underlying349
 a138:=Tryz.isAgg349
 z138:=Tryz.sizeOf349
 v138:=Tryz.zeroValue349
 t139:=Tryz.underlying350
 a139:=Tryz.isAgg350
 z139:=Tryz.sizeOf350
 v139:=Tryz.zeroValue350
 g3:=by kernel_rfl
 g4:=by kernel_rfl}
open Go.RowKit in
theorem Tryz.strings_Trim_one (s:ByteArray) (c:UInt8) (hc:c.toNat<128) (w:World) (hs:s.size≤9223372036854775807):
 Calls Tryz.prog 224 #[.string s,.string ⟨#[c]⟩] w fun e w'=>e= .returned (.string ⟨(Lib.trimB s.data.toList c).toArray⟩)∧(w'=w∨w'=w.drew):=Any.strings_Trim_one Tryz.lays160 s c hc w hs
open Go.Sort Go.RowKit in
def Tryz.lays105_ren:Go.Shelf.Ren:=⟨fun|105=>39|212=>94|99=>95|165=>96|166=>60|170=>97|169=>62|263=>139|264=>140|206=>141|240=>113|241=>142|276=>158|277=>182|n=>n,fun|9=>9|3=>3|4=>4|20=>20|0=>0|46=>166|109=>167|5=>5|72=>119|76=>123|51=>47|146=>215|53=>147|148=>217|70=>117|37=>113|75=>122|127=>197|164=>225|80=>48|n=>n,fun|n=>n⟩
theorem Tryz.lays105:Go.Proofs.Lays.n105 Tryz.prog Tryz.lays105_ren:= {
 mixed:=by kernel_rfl
 f99:=Tryz.func95.trans (congrArg some (by kernel_rfl))
 f105:=Tryz.func39.trans (congrArg some (by kernel_rfl))
 f165:=Tryz.func96.trans (congrArg some (by kernel_rfl))
 f166:=Tryz.func60.trans (congrArg some (by kernel_rfl))
 f169:=Tryz.func62.trans (congrArg some (by kernel_rfl))
 f170:=Tryz.func97.trans (congrArg some (by kernel_rfl))
 f206:=Tryz.func141.trans (congrArg some (by kernel_rfl))
 f212:=Tryz.func94.trans (congrArg some (by kernel_rfl))
 f240:=Tryz.func113.trans (congrArg some (by kernel_rfl))
 f241:=Tryz.func142.trans (congrArg some (by kernel_rfl))
 f263:=Tryz.func139.trans (congrArg some (by kernel_rfl))
 f264:=Tryz.func140.trans (congrArg some (by kernel_rfl))
 f276:=Tryz.func158.trans (congrArg some (by kernel_rfl))
 f277:=Tryz.func182.trans (congrArg some (by kernel_rfl))
 t0:=Tryz.underlying0
 a0:=Tryz.isAgg0
 z0:=Tryz.sizeOf0
 v0:=Tryz.zeroValue0
 t3:=Tryz.underlying3
 a3:=Tryz.isAgg3
 z3:=Tryz.sizeOf3
 v3:=Tryz.zeroValue3
 t4:=Tryz.underlying4
 a4:=Tryz.isAgg4
 z4:=Tryz.sizeOf4
 v4:=Tryz.zeroValue4
 t5:=Tryz.underlying5
 a5:=Tryz.isAgg5
 z5:=Tryz.sizeOf5
 v5:=Tryz.zeroValue5
 t9:=Tryz.underlying9
 a9:=Tryz.isAgg9
 z9:=Tryz.sizeOf9
 v9:=Tryz.zeroValue9
 t20:=Tryz.underlying20
 a20:=Tryz.isAgg20
 z20:=Tryz.sizeOf20
 v20:=Tryz.zeroValue20
 t37:=Tryz.underlying113
 a37:=Tryz.isAgg113
 z37:=Tryz.sizeOf113
 v37:=Tryz.zeroValue113
 t46:=Tryz.underlying166
 a46:=Tryz.isAgg166
 z46:=Tryz.sizeOf166
 v46:=Tryz.zeroValue166
 t51:=Tryz.underlying47
 a51:=Tryz.isAgg47
 z51:=Tryz.sizeOf47
 v51:=Tryz.zeroValue47
 t53:=Tryz.underlying147
 a53:=Tryz.isAgg147
 z53:=Tryz.sizeOf147
 v53:=Tryz.zeroValue147
 t70:=Tryz.underlying117
 a70:=Tryz.isAgg117
 z70:=Tryz.sizeOf117
 v70:=Tryz.zeroValue117
 t72:=Tryz.underlying119
 a72:=Tryz.isAgg119
 z72:=Tryz.sizeOf119
 v72:=Tryz.zeroValue119
 t75:=Tryz.underlying122
 a75:=Tryz.isAgg122
 z75:=Tryz.sizeOf122
 v75:=Tryz.zeroValue122
 t76:=Tryz.underlying123
 a76:=Tryz.isAgg123
 z76:=Tryz.sizeOf123
 v76:=Tryz.zeroValue123
 t109:=Tryz.underlying167
 a109:=Tryz.isAgg167
 z109:=Tryz.sizeOf167
 v109:=Tryz.zeroValue167
 t127:=Tryz.underlying197
 a127:=Tryz.isAgg197
 z127:=Tryz.sizeOf197
 v127:=Tryz.zeroValue197
 t146:=Tryz.underlying215
 a146:=Tryz.isAgg215
 z146:=Tryz.sizeOf215
 v146:=Tryz.zeroValue215
 t148:=Tryz.underlying217
 a148:=Tryz.isAgg217
 z148:=Tryz.sizeOf217
 v148:=Tryz.zeroValue217
 t164:=Tryz.underlying225
 a164:=Tryz.isAgg225
 z164:=Tryz.sizeOf225
 v164:=Tryz.zeroValue225}
theorem Tryz.Builder_Extra_105:Builder.Extra Tryz.prog Tryz.lays105_ren:= {
 sizeBuilder:=by kernel_rfl
 liesBuilder:=by kernel_rfl
 t5:=Tryz.underlying5
 a5:=Tryz.isAgg5
 z5:=Tryz.sizeOf5
 v5:=Tryz.zeroValue5
 infoByte:=by kernel_rfl
 cellsByte:=by kernel_rfl
 sizeByte:=by kernel_rfl
 neB5:=by decide}
open Go.RowKit Go.Lib in
theorem Tryz.strings_Repeat (s:ByteArray) (c:Nat) (w:World) (hc:c≤9223372036854775807) (hlen:s.size*c≤140737488355328):
 Calls Tryz.prog 39 #[.string s,.int .i64 c] w fun e w'=>e= .returned (.string ⟨(Lib.repeatL s.data.toList c).toArray⟩)∧Below w.heap.size w w':=Any.strings_Repeat Tryz.lays105 Tryz.Builder_Extra_105 s c w hc hlen
end
end Go.Proofs
namespace Go.Proofs.Q
open Go.Sl Go.Sb
section
theorem u1R (c:UInt8) (n:Nat):Lib.repeatL [c] n=List.replicate n c:=by
 induction n with
 |zero=>rfl
 |succ n ih=>rw[Lib.repeatL,ih];rfl
theorem a2G (l:B) (n:Nat):Lib.repeatL l n=(List.replicate n l).flatten:=by
 induction n with
 |zero=>rfl
 |succ n ih=>rw[Lib.repeatL,ih,List.replicate_succ,List.flatten_cons]
theorem y0L (n:Nat) (hn:n≤1000000):a0S Tryz.prog 39 #[.string ⟨#[0]⟩,.int .i64 n] [] (b0G (b0H (a0T n)) []):=by
 refine z0H fun w=> ?_
 have h:=Tryz.strings_Repeat ⟨#[0]⟩ n w (by omega) (by show 1*n≤_;omega)
 have e:(⟨(Lib.repeatL (⟨#[0]⟩:ByteArray).data.toList n).toArray⟩:ByteArray)=bs (a0T n):=by
  show(⟨(Lib.repeatL [0] n).toArray⟩:ByteArray)=_
  rw[u1R];rfl
 rw[e]at h
 exact h
theorem w1S (l:B) (n:Nat) (hl:l.length*n≤1000000) (hn:n≤1000000):a0S Tryz.prog 39 #[b0H l,.int .i64 n] [] (b0G (b0H ((List.replicate n l).flatten)) []):=by
 refine z0H fun w=> ?_
 have h:=Tryz.strings_Repeat (bs l) n w (by omega) (by rw[b0N];omega)
 rw[l0B,a2G]at h
 exact h
attribute [local irreducible] Sl.a0L Sl.OW Sl.CW Sl.OS Sl.OM Sl.OMf Sl.KM
theorem i1J (b:Nat) (v:Value) (l s:B) (hl:l.length≤1000000) (hs:s.length≤1000000) (h1:v.oneCell'=true):
 a0S Tryz.prog 82 #[ptr b,b0H s] (n0V b v l) (c0X (fun v':Value=>v'.oneCell'=true) (fun _=>ptr b) (fun v'=>n0V b v' (l++s))):=by
 have h:=s0E b v l (bs s) hl (by rw[b0N];exact hs) h1
 rw[l0B]at h
 exact h
theorem z0Q (b:Nat) (v:Value) (l:B) (n:Nat) (hl:l.length≤n) (hn:n≤1000000) (h1:v.oneCell'=true):
 a0S Tryz.prog 252 #[ptr b,.int .i64 n] (n0V b v l) (c0X (fun v':Value=>v'.oneCell'=true) (fun _=>ptr b) (fun v'=>n0V b v' (f0R n l))):=by
 refine a0C Tryz.func252 rfl Tryz.ntmps252 rfl (fun R w0=> ?_)
 simp only[a0N,List.cons_append,List.nil_append]
 refine go 12 ?_
 refine a0F (j0S Tsl.o rfl gFd) ?_
 refine go 15 ?_
 refine a0F (j0S Tsl.o rfl gFd) ?_
 refine go 1 ?_
 rw[show((n:Nat):Int)- ((l.length:Nat):Int)=((n-l.length:Nat):Int) by omega]
 refine a0D rfl Hb.o rfl (y0L (n-l.length) (by omega)) gSp ?_
 refine ns ?_
 refine a0W rfl Hb.o rfl (i1J b v l (a0T (n-l.length)) (by omega) (by simp[a0T];omega) h1) gSp ?_
 rintro v2 hv2
 refine ns ?_
 refine go 3 ?_
 refine d0Z v2 hv2 (fun _ _ h=>h) rfl rfl gSp
theorem j2N (b:Nat) (v:Value) (l:B) (n:Nat) (hl:n<l.length) (h1:v.oneCell'=true):
 a0S Tryz.prog 252 #[ptr b,.int .i64 n] (n0V b v l) (fun en L=>en= .panicked (t0Y fT 3)∧L=n0V b v l):=by
 refine a0C Tryz.func252 rfl Tryz.ntmps252 rfl (fun R w0=> ?_)
 simp only[a0N,List.cons_append,List.nil_append]
 refine go 12 ?_
 refine a0F (j0S Tsl.o rfl gFd) ?_
 refine go 6 ?_
 refine c0M rfl Hb.o rfl (d0C 3) gSp ?_
 simp only[List.cons_append,List.nil_append]
 refine pn ?_
 refine e0H (fun _ _ h=>h) (b0L.back gSp) ⟨rfl,rfl⟩
end
section
theorem q1A {d d':Dk} {o:Out Unit} (h:k0A d=(o,d')):d'.l=d.l∧d'.left≤d.left:=by
 unfold k0A at h
 split at h
 ·cases h;exact⟨rfl,Nat.le_refl _⟩
 ·split at h
  ·cases h;exact⟨rfl,Nat.le_refl _⟩
  ·split at h
   ·cases h;exact⟨rfl,Nat.le_refl _⟩
   ·rename_i hl;cases h;exact⟨rfl,by rw[hl];exact Nat.le_succ _⟩
theorem i1K (d d':Dk):k0A d≠(.big,d'):=by
 unfold k0A
 split
 ·intro h;cases h
 ·split
  ·intro h;cases h
  ·split<;>(intro h;cases h)
theorem e2I (n:Nat) (l:B) (h:l.length≤n):(f0R n l).length=n:=by simp[f0R,a0T];omega
theorem j2O {d d':Dk} {i:Nat} {s:B} (h:l0L d) (hl:d'.l=d.l∧d'.left≤d.left) (hs:s.length≤64) (hi:i<d.l.length):l0L {d' with l:=d'.l.set i ((d'.l.getD i ([],[])).1,f0R 64 s)} :=by
 obtain⟨h1,h2,h3⟩:=h
 refine⟨fun x hx=> ?_,by simp[hl.1,h2],by show d'.left<_;omega⟩
 simp only[hl.1]at hx
 rcases List.mem_or_eq_of_mem_set hx with hx|rfl
 ·exact h1 x hx
 ·have:d.l.getD i ([],[])∈d.l:=by
   rw[List.getD_eq_getElem?_getD,List.getElem?_eq_getElem hi];exact List.getElem_mem hi
  exact⟨(h1 _ this).1,e2I 64 s hs⟩
theorem j2P {d d':Dk} {o:Out Unit} (h:l0L d) (hd:k0A d=(o,d')):l0L d':=by
 have:=q1A hd
 exact⟨by rw[this.1];exact h.1,by rw[this.1];exact h.2.1,by have:=h.2.2;omega⟩
attribute [local irreducible] Sl.a0L Sl.OW Sl.CW Sl.OS Sl.OM Sl.OMf Sl.KM
theorem u1S (a:Ad) (d:Dk) (at_:Int) (s:B) (hs:s.length≤1000000):a0S Tryz.prog 251 #[ptr a.disk,.int .i64 at_,b0H s] (dk3 a d) (Ran fT (dk3 a) k0P (e0Z d at_ s)):=by
 by_cases h1:d.dead=true
 ·have e:e0Z d at_ s=(.err 12,d):=by simp[e0Z,h1]
  rw[e]
  refine a0C Tryz.func251 rfl Tryz.ntmps251 rfl (fun R w0=> ?_)
  simp only[a0N,List.cons_append,List.nil_append]
  refine go 3 ?_
  refine c0M rfl Hb.o rfl (f1Q a d h1) gSp ?_
  simp only[List.cons_append,List.nil_append]
  refine pn ?_
  refine e0H (fun _ _ h=>h) (b0L.back gSp) ⟨rfl,rfl⟩
 ·have h1':d.dead=false:=by simpa using h1
  by_cases h2:at_<0∨(d.l.length:Int)≤at_
  ·have e:e0Z d at_ s=(.err 6,d):=by simp[e0Z,h1',h2]
   rw[e]
   refine a0C Tryz.func251 rfl Tryz.ntmps251 rfl (fun R w0=> ?_)
   simp only[a0N,List.cons_append,List.nil_append]
   refine go 3 ?_
   refine a0D rfl Hb.o rfl (o0J a d h1') gSp ?_
   refine ns ?_
   refine go 6 ?_
   refine c0M rfl Hb.o rfl (p1W a d at_ h2) gSp ?_
   simp only[List.cons_append,List.nil_append]
   refine pn ?_
   refine e0H (fun _ _ h=>h) (b0L.back gSp) ⟨rfl,rfl⟩
  ·by_cases h3:64<s.length
   ·have e:e0Z d at_ s=(.err 3,d):=by simp[e0Z,h1',h2,h3]
    rw[e]
    refine a0C Tryz.func251 rfl Tryz.ntmps251 rfl (fun R w0=> ?_)
    simp only[a0N,List.cons_append,List.nil_append]
    refine go 3 ?_
    refine a0D rfl Hb.o rfl (o0J a d h1') gSp ?_
    refine ns ?_
    refine go 6 ?_
    refine a0D rfl Hb.o rfl (z0O a d at_ h2) gSp ?_
    refine ns ?_
    refine go 4 ?_
    refine(a0U Zr.o (fun b6=> ?_))
    refine go 3 ?_
    refine c0S (fun w h=>h0S 5 1 w h) ?_
    refine go 2 ?_
    refine a0W rfl Hb.o rfl (i1J b6 (.slice none 0 0) [] s (by simp) hs rfl) gSp ?_
    rintro v13 hv13
    refine ns ?_
    refine c0M rfl Hb.o rfl (j2N b6 v13 s 64 h3 hv13) gSp ?_
    simp only[List.cons_append,List.nil_append]
    refine pn ?_
    refine e0H (fun _ _ h=>h) (b0L.back gSp) ⟨rfl,rfl⟩
   ·have hat:=e2C (a2A h2)
    have hlt:at_.toNat<d.l.length:=by omega
    have hsp:=z1Z a d
    cases hd:k0A d with
    |mk x d'=>
    have hl:=q1A hd
    cases x with
    |big=>exact(i1K _ _ hd).elim
    |err e'=>
     have e:e0Z d at_ s=(.err e',d'):=by simp only[e0Z,h1',h2,h3,hd,if_false];rfl
     rw[e]
     refine a0C Tryz.func251 rfl Tryz.ntmps251 rfl (fun R w0=> ?_)
     simp only[a0N,List.cons_append,List.nil_append]
     refine o0Z gFd fun hdk=> ?_
     have hsp':=hsp hdk.2.2
     rw[hd]at hsp'
     refine go 3 ?_
     refine a0D rfl Hb.o rfl (o0J a d h1') gSp ?_
     refine ns ?_
     refine go 6 ?_
     refine a0D rfl Hb.o rfl (z0O a d at_ h2) gSp ?_
     refine ns ?_
     refine go 4 ?_
     refine(a0U Zr.o (fun b6=> ?_))
     refine go 3 ?_
     refine c0S (fun w h=>h0S 5 1 w h) ?_
     refine go 2 ?_
     refine a0W rfl Hb.o rfl (i1J b6 (.slice none 0 0) [] s (by simp) hs rfl) gSp ?_
     rintro v13 hv13
     refine ns ?_
     refine a0W rfl Hb.o rfl (z0Q b6 v13 s 64 (by omega) (by omega) hv13) gSp ?_
     rintro v14 hv14
     refine ns ?_
     refine a0D rfl Hb.o rfl (t0O b6 v14 (f0R 64 s) hv14) gSp ?_
     refine ns ?_
     refine go 6 ?_
     refine c0M rfl Hb.o rfl (hsp') gSp ?_
     simp only[List.cons_append,List.nil_append]
     refine pn ?_
     refine b0O (o0F (j2P hdk hd)) (e0H (fun _ _ h=>h) (b0L.back (by show b0L _ [R,dkC a d',dkR a d',m0P (l0L d')] _;rw[show dkR a d'=dkR a d by simp only[dkR,hl.1]];exact gSp)) ⟨rfl,rfl⟩)
    |ok x=>
     have e:e0Z d at_ s=(.ok (),{d' with l:=d'.l.set at_.toNat ((d'.l.getD at_.toNat ([],[])).1,f0R 64 s)}):=by simp only[e0Z,h1',h2,h3,hd,if_false];rfl
     have hset:=o2K d.l at_.toNat (d.l.getD at_.toNat ([],[])) (f0R 64 s) (a2A h2)
     rw[e]
     refine a0C Tryz.func251 rfl Tryz.ntmps251 rfl (fun R w0=> ?_)
     simp only[a0N,List.cons_append,List.nil_append]
     refine o0Z gFd fun hdk=> ?_
     have hsp':=hsp hdk.2.2
     rw[hd]at hsp'
     refine go 3 ?_
     refine a0D rfl Hb.o rfl (o0J a d h1') gSp ?_
     refine ns ?_
     refine go 6 ?_
     refine a0D rfl Hb.o rfl (z0O a d at_ h2) gSp ?_
     refine ns ?_
     refine go 4 ?_
     refine(a0U Zr.o (fun b6=> ?_))
     refine go 3 ?_
     refine c0S (fun w h=>h0S 5 1 w h) ?_
     refine go 2 ?_
     refine a0W rfl Hb.o rfl (i1J b6 (.slice none 0 0) [] s (by simp) hs rfl) gSp ?_
     rintro v13 hv13
     refine ns ?_
     refine a0W rfl Hb.o rfl (z0Q b6 v13 s 64 (by omega) (by omega) hv13) gSp ?_
     rintro v14 hv14
     refine ns ?_
     refine a0D rfl Hb.o rfl (t0O b6 v14 (f0R 64 s) hv14) gSp ?_
     refine ns ?_
     refine go 6 ?_
     refine a0D rfl Hb.o rfl (hsp'.ran_ok) gSp ?_
     refine ns ?_
     refine go 2 ?_
     refine n0U gFd (by omega) fun b cap hv' hcap=> ?_
     simp only[dkC,dkR]
     rw[hv']
     refine go 9 ?_
     refine e1K (xs':=(d.l.set at_.toNat ((d.l.getD at_.toNat ([],[])).1,f0R 64 s)).flatMap t0A) Sz.o rfl rfl rfl gFd (by rw[t0B];omega) (by rw[←hset,show 0+at_.toNat*2+1=2*at_.toNat+1 by omega]) ?_
     refine go 1 ?_
     rw[←hv']
     have hok2:=j2O (i:=at_.toNat) hdk hl (show s.length≤64 by omega) hlt
     refine b0O (o0F hok2) (d0X rfl rfl rfl (by show b0L _ [R,dkC a d',c0E _ 2 a.vd (d'.l.set at_.toNat _).length (List.flatMap t0A (d'.l.set at_.toNat _)),m0P (l0L _)] _;rw[List.length_set,hl.1];exact gSp))
end
section
theorem z0R (W:World) (a:Ad) (s:St) (at_:Int) (hnb:(e0I at_ s).1≠ .big):a0S Tryz.prog 206 #[ptr a.heap,.int .i64 at_] (RS W a s) (Ran fT (RS W a) (fun b=> .bool b) (e0I at_ s)):=by
 have hi:=m1E hnb
 by_cases h0:d0U s at_=0
 ·rw[show e0I at_ s=(.err 6,s) by simp[e0I,hi,h0]];exact a2F W a s at_ h0
 ·by_cases h1:d0U s at_=1
  ·obtain⟨_,a1,a2,a3⟩:=e2F hnb h1
   simp only at a3
   by_cases hy:0<h0A s at_
   ·rw[if_pos hy]at a3
    obtain⟨b1,b2,b3,b4⟩:=a3
    rw[b4];exact u1Q W a s at_ h1 hi a1 a2 hy b1 b2 b3
   ·rw[if_neg hy]at a3
    rw[a3];exact e2H W a s at_ h1 hi a1 a2 hy
  ·have e:e0I at_ s=a0B (g0S at_ (m0D (d0U s at_-1))) (fun _=>ret false) s:=by simp[e0I,hi,h0,h1]
   rw[e]at hnb
   have hn:=x0X (c0R hnb)
   rw[e,a0A (u0S _ _ hn)]
   exact e2G W a s at_ h0 h1 hn
theorem j2Q {s:St} (hok:n0I s):(g0U s.g).length≤5000∧(∀x∈g0U s.g,x<3)∧inR (b0Z s.fr s.g)=true:=by
 have h2:=hok.2.1
 have h1:=hok.1
 unfold g0U b0Z
 cases hf:s.g.findIdx? (· == 0)with
 |none=>exact⟨h2,hok.2.2.1,rfl⟩
 |some i=>
  have hi:i<s.g.length:=by
   rw[List.findIdx?_eq_some_iff_findIdx_eq]at hf;exact hf.1
  refine⟨by simpa using h2,fun x hx=> ?_,?_⟩
  ·rcases List.mem_or_eq_of_mem_set hx with h|rfl
   ·exact hok.2.2.1 x h
   ·omega
  ·simp only[inR,decide_eq_true_eq];omega
theorem q1B {s:St} {k v:Int} (h:(l0H k v s).1≠ .big):s.log.length<1000000000:=s0G h fun h'=>by simp[l0H,a0B,back,h']
abbrev pl1 (s:St):List c0Y:=bk s.depth s.log (.give (b0Z s.fr s.g))
abbrev pl2 (s:St):List c0Y:=bk s.depth (pl1 s) (.refs (b0Z s.fr s.g) (a0H (b0Z s.fr s.g) s.refs))
abbrev pl3 (s:St):List c0Y:=bk s.depth (pl2 s) (.young (b0Z s.fr s.g) (a0H (b0Z s.fr s.g) s.young))
abbrev ps (s:St) (d:Dk):St:= {s with d:=d,g:=g0U s.g,refs:=c0F (b0Z s.fr s.g) 1 s.refs,young:=c0F (b0Z s.fr s.g) 1 s.young,log:=pl3 s}
theorem o2M {s:St} {b:B} (hnb:(e0S b s).1≠ .big) (hf: ¬(b0U s:Int)≤s.keep):s.log.length<1000000000∧(pl1 s).length<1000000000∧(pl2 s).length<1000000000∧
 e0S b s=(match e0Z s.d (b0Z s.fr s.g) b with| (.ok _,d)=>(.ok (b0Z s.fr s.g),ps s d)| (.err e,d)=>(.err e,ps s d)| (.big,d)=>(.big,ps s d)):=by
 have e:e0S b s=a0B (fun s'=>back (.give (b0Z s.fr s.g)) {s' with g:=g0U s'.g}) (fun _=>a0B (g0S (b0Z s.fr s.g) 1) fun _=>a0B (l0H (b0Z s.fr s.g) 1) fun _=>a0B (s0B fun d=>e0Z d (b0Z s.fr s.g) b) fun _=>ret (b0Z s.fr s.g)) s:=by
  simp only[e0S,if_neg hf]
 rw[e]at hnb
 have a1:=p1Z (c0R hnb)
 have e1:=k1K (s:= {s with g:=g0U s.g}) (.give (b0Z s.fr s.g)) a1
 have b1:=o0E hnb e1
 have a2:=x0X (c0R b1)
 have b2:=o0E b1 (u0S _ _ a2)
 have a3:=q1B (c0R b2)
 refine⟨a1,a2,a3,?_⟩
 rw[e,a0A (m:=fun s'=>back (.give (b0Z s.fr s.g)) {s' with g:=g0U s'.g}) e1,a0A (u0S _ _ a2),a0A (u1O _ _ a3)]
 simp only[a0B,s0B]
 cases hd:e0Z s.d (b0Z s.fr s.g) b with
 |mk x d=>
  cases x<;>simp only[hd,ret]<;>rfl
theorem a2H (d d':Dk) (x:Int) (b:B):e0Z d x b≠(.big,d'):=by
 unfold e0Z
 split
 ·intro h;cases h
 ·split
  ·intro h;cases h
  ·split
   ·intro h;cases h
   ·split
    ·intro h;cases h
    ·rename_i h;exact(i1K _ _ h).elim
    ·intro h;cases h
attribute [local irreducible] Sl.a0L Sl.OW Sl.CW Sl.OS Sl.OM Sl.OMf Sl.KM
theorem m1G (a:Ad) (k:Int):a0S Tryz.prog 250 #[ptr a.heap,.int .i64 k] [] (c0X (fun _:Nat×Nat=>True) (fun x=> .func (.func 284) #[] #[ptr x.1,ptr x.2]) (fun x=> [pts x.1 (.cells #[ptr a.heap] 55 (0,0)),pts x.2 (.cells #[.int .i64 k] 3 (0,0))])):=by
 refine a0C Tryz.func250 rfl Tryz.ntmps250 rfl (fun R w0=> ?_)
 simp only[a0N,List.cons_append,List.nil_append]
 refine go 2 ?_
 refine(a0X rfl (fun b2=> ?_))
 refine(a0X rfl (fun b3=> ?_))
 refine go 9 ?_
 refine d0Z (b2,b3) trivial (fun _ _ h=>h) rfl rfl gSp
theorem e2J (b bl:Nat) (s:St) (hok:n0I s):a0S Tryz.prog 249 #[.pointer (some ⟨b,0,none⟩)] (gm b bl s.fr s.g) (c0X (fun _:Bool=>True) (fun x=> .tuple #[.int .i64 (b0Z s.fr s.g),.bool x]) (fun _=>gm b bl s.fr (g0U s.g))):=by
 have h:=z1S b bl s.fr s.g hok.1 hok.2.1
 unfold b0Z g0U
 cases hf:s.g.findIdx? (· == 0)with
 |none=>rw[hf]at h;exact f0S false trivial rfl rfl h
 |some i=>rw[hf]at h;exact f0S true trivial rfl rfl h
theorem m1H (W:World) (a:Ad) (s:St) (b:B) (hb:b.length≤1000000) (hnb:(e0S b s).1≠ .big):a0S Tryz.prog 202 #[ptr a.heap,b0H b] (RS W a s) (Ran fT (RS W a) a0V (e0S b s)):=by
 by_cases hf:(b0U s:Int)≤s.keep
 ·rw[show e0S b s=(.err 8,s) by simp[e0S,hf]]
  refine a0C Tryz.func202 rfl Tryz.ntmps202 rfl (fun R w0=> ?_)
  simp only[a0N,List.cons_append,List.nil_append]
  refine f0F gFd fun by_ gv gc o hg hok=> ?_
  simp only[e0A,d0I,List.cons_append,List.nil_append]
  refine go 7 ?_
  refine d0H (.soft 0 (.soft 1 (.soft 2 (.soft 3 (.soft 5 (.soft 6 (.soft 7 (.soft 8 (.hard 4 (.soft 9 .done)))))))))) [pts a.heap (.cells #[ptr a.disk,ptr a.log,ptr a.gr,.map (some a.refs),.map (some by_),gv,.int .i64 s.keep] 92 (0,0))] Fol.o (by kernel_rfl) (by repeat (first|with_reducible exact a0J.bp|with_reducible apply a0J.then|with_reducible apply a0J.inBlock)) gSp ?_
  refine go 9 ?_
  refine a0D rfl Hb.o rfl (u0R a.gr a.grl s.fr s.g) gSp ?_
  refine ns ?_
  refine go 5 ?_
  refine d0W rfl (decide_eq_true hf) ?_
  refine go 1 ?_
  refine c0M rfl Hb.o rfl (d0C 8) gSp ?_
  simp only[List.cons_append,List.nil_append]
  refine pn ?_
  refine b0O (d0Q hg hok gSp) (e0H (fun _ _ h=>h) (b0L.back gSp) ⟨rfl,rfl⟩)
 ·obtain⟨hn,hn1,hn2,he⟩:=o2M hnb hf
  have hw:=u1S a s.d (b0Z s.fr s.g) b hb
  rw[he]
  refine a0C Tryz.func202 rfl Tryz.ntmps202 rfl (fun R w0=> ?_)
  simp only[a0N,List.cons_append,List.nil_append]
  refine f0F gFd fun by_ gv gc o hg hok=> ?_
  have htk:=j2Q hok
  have hok2: ∀d,n0I (ps s d):=fun d=>⟨hok.1,htk.1,htk.2.1,hok.2.2.2⟩
  simp only[e0A,d0I,List.cons_append,List.nil_append]
  cases hd:e0Z s.d (b0Z s.fr s.g) b with
  |mk x d=>
  rw[hd]at hw
  cases x with
  |big=>exact(a2H _ _ _ _ hd).elim
  |ok x=>
   refine go 7 ?_
   refine d0H (.soft 0 (.soft 1 (.soft 2 (.soft 3 (.soft 5 (.soft 6 (.soft 7 (.soft 8 (.hard 4 (.soft 9 .done)))))))))) [pts a.heap (.cells #[ptr a.disk,ptr a.log,ptr a.gr,.map (some a.refs),.map (some by_),gv,.int .i64 s.keep] 92 (0,0))] Fol.o (by kernel_rfl) (by repeat (first|with_reducible exact a0J.bp|with_reducible apply a0J.then|with_reducible apply a0J.inBlock)) gSp ?_
   refine go 9 ?_
   refine a0D rfl Hb.o rfl (u0R a.gr a.grl s.fr s.g) gSp ?_
   refine ns ?_
   refine go 5 ?_
   refine c0C rfl (decide_eq_false hf) ?_
   refine go 8 ?_
   refine a0W rfl Hb.o rfl (e2J a.gr a.grl s hok) gSp ?_
   rintro tb _
   refine ns ?_
   refine go 8 ?_
   refine d0H (.soft 0 (.soft 1 (.soft 2 (.soft 3 (.soft 4 (.soft 5 (.hard 6 (.hard 7 .done)))))))) [pts a.heap (.cells #[ptr a.disk,ptr a.log,ptr a.gr,.map (some a.refs),.map (some by_),gv,.int .i64 s.keep] 92 (0,0))] Fol.o (by kernel_rfl) (by repeat (first|with_reducible exact a0J.bp|with_reducible apply a0J.then|with_reducible apply a0J.inBlock)) gSp ?_
   refine go 7 ?_
   refine a0W rfl Hb.o rfl (m1G a (b0Z s.fr s.g)) gSp ?_
   rintro⟨b1,b2⟩ _
   refine ns ?_
   refine go 3 ?_
   refine a0D rfl Hb.o rfl (z0N a by_ o s.log s.depth (.give (b0Z s.fr s.g)) _ ⟨htk.2.2,_,_,rfl,rfl⟩ hn) gSp ?_
   refine ns ?_
   refine go 5 ?_
   refine d0S 9 Fol.o (by kernel_rfl) ?_
   simp only[List.take_succ_cons,List.take_zero,List.drop_succ_cons,List.drop_zero]
   refine go 10 ?_
   refine a0W rfl Hb.o rfl (p0B a by_ _ (pl1 s) s.depth a.refs s.refs (b0Z s.fr s.g) 1 (.refs _ _) hn1 (fun _ _ _ _=>⟨_,_,_,_,.inl rfl,rfl⟩)) gSp ?_
   rintro e1 _
   refine ns ?_
   refine go 3 ?_
   refine d0S 9 Fol.o (by kernel_rfl) ?_
   simp only[List.take_succ_cons,List.take_zero,List.drop_succ_cons,List.drop_zero]
   refine go 10 ?_
   refine a0W rfl Hb.o rfl (p0B a by_ _ (pl2 s) s.depth by_ s.young (b0Z s.fr s.g) 1 (.young _ _) hn2 (fun _ _ _ _=>⟨_,_,_,_,.inl rfl,rfl⟩)) gSp ?_
   rintro e2 _
   refine ns ?_
   refine go 10 ?_
   refine a0D rfl Hb.o rfl (hw.ran_ok) gSp ?_
   refine ns ?_
   refine go 8 ?_
   refine c0S (d0Q (s:=ps s d) hg (hok2 d) gSp) (c0I rfl (fun _ _ h=>h) rfl rfl gSp)
  |err e=>
   refine go 7 ?_
   refine d0H (.soft 0 (.soft 1 (.soft 2 (.soft 3 (.soft 5 (.soft 6 (.soft 7 (.soft 8 (.hard 4 (.soft 9 .done)))))))))) [pts a.heap (.cells #[ptr a.disk,ptr a.log,ptr a.gr,.map (some a.refs),.map (some by_),gv,.int .i64 s.keep] 92 (0,0))] Fol.o (by kernel_rfl) (by repeat (first|with_reducible exact a0J.bp|with_reducible apply a0J.then|with_reducible apply a0J.inBlock)) gSp ?_
   refine go 9 ?_
   refine a0D rfl Hb.o rfl (u0R a.gr a.grl s.fr s.g) gSp ?_
   refine ns ?_
   refine go 5 ?_
   refine c0C rfl (decide_eq_false hf) ?_
   refine go 8 ?_
   refine a0W rfl Hb.o rfl (e2J a.gr a.grl s hok) gSp ?_
   rintro tb _
   refine ns ?_
   refine go 8 ?_
   refine d0H (.soft 0 (.soft 1 (.soft 2 (.soft 3 (.soft 4 (.soft 5 (.hard 6 (.hard 7 .done)))))))) [pts a.heap (.cells #[ptr a.disk,ptr a.log,ptr a.gr,.map (some a.refs),.map (some by_),gv,.int .i64 s.keep] 92 (0,0))] Fol.o (by kernel_rfl) (by repeat (first|with_reducible exact a0J.bp|with_reducible apply a0J.then|with_reducible apply a0J.inBlock)) gSp ?_
   refine go 7 ?_
   refine a0W rfl Hb.o rfl (m1G a (b0Z s.fr s.g)) gSp ?_
   rintro⟨b1,b2⟩ _
   refine ns ?_
   refine go 3 ?_
   refine a0D rfl Hb.o rfl (z0N a by_ o s.log s.depth (.give (b0Z s.fr s.g)) _ ⟨htk.2.2,_,_,rfl,rfl⟩ hn) gSp ?_
   refine ns ?_
   refine go 5 ?_
   refine d0S 9 Fol.o (by kernel_rfl) ?_
   simp only[List.take_succ_cons,List.take_zero,List.drop_succ_cons,List.drop_zero]
   refine go 10 ?_
   refine a0W rfl Hb.o rfl (p0B a by_ _ (pl1 s) s.depth a.refs s.refs (b0Z s.fr s.g) 1 (.refs _ _) hn1 (fun _ _ _ _=>⟨_,_,_,_,.inl rfl,rfl⟩)) gSp ?_
   rintro e1 _
   refine ns ?_
   refine go 3 ?_
   refine d0S 9 Fol.o (by kernel_rfl) ?_
   simp only[List.take_succ_cons,List.take_zero,List.drop_succ_cons,List.drop_zero]
   refine go 10 ?_
   refine a0W rfl Hb.o rfl (p0B a by_ _ (pl2 s) s.depth by_ s.young (b0Z s.fr s.g) 1 (.young _ _) hn2 (fun _ _ _ _=>⟨_,_,_,_,.inl rfl,rfl⟩)) gSp ?_
   rintro e2 _
   refine ns ?_
   refine go 10 ?_
   refine c0M rfl Hb.o rfl (hw) gSp ?_
   simp only[List.cons_append,List.nil_append]
   refine pn ?_
   refine b0O (d0Q (s:=ps s d) hg (hok2 d) gSp) (e0H (fun _ _ h=>h) (b0L.back gSp) ⟨rfl,rfl⟩)
end
end Go.Proofs.Q
namespace Go.Proofs.Q
section
open Go
end
end Go.Proofs.Q
namespace Go.Proofs.Q
open Go
instance:Sl.Tar Tryz.prog 266 16 47 1:=⟨by kernel_rfl⟩
instance:Sl.Hb Tryz.prog 193:=⟨by kernel_rfl⟩
instance:Sl.Sz Tryz.prog 266 16:=⟨by kernel_rfl⟩
instance:Sl.Zr Tryz.prog 266 (.agg #[.int .u32 (0),.int .u32 (0),.int .u32 (0),.int .u32 (0),.int .u32 (0),.int .u32 (0),.int .u32 (0),.int .u32 (0),.int .u32 (0),.int .u32 (0),.int .u32 (0),.int .u32 (0),.int .u32 (0),.int .u32 (0),.int .u32 (0),.int .u32 (0)]):=⟨by kernel_rfl⟩
instance:Sl.Ag Tryz.prog 266 16:=⟨by kernel_rfl⟩
end Go.Proofs.Q
