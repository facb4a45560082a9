/- Part of the proof; no statement of its own. -/
import Derived.Test.YtpinhnikemamjaaGreatDoorD19
import Derived.Test.YtpinhnikemamjaaGreatDoorD21
import Derived.Test.YtpinhnikemamjaaGreatDoorProg
import Derived.KernelRfl
import Derived.Test.YtpinhnikemamjaaGreatDoorD08
import Derived.Shelf.Strings.Builder1
import Derived.Shelf.Strings.Builder2
import Derived.Shelf.Strings.Trim
import Derived.Shelf.Small.Utf8
import Derived.Shelf.Small.Bits
import Derived.Shelf.Small.Strs
import Derived.Shelf.Small.Wraps
import Derived.Shelf.Strings.BuilderF
import Derived.Shelf.Strings.BuilderK
import Derived.Shelf.Strings.Builder2Cap
import Derived.Shelf.Strconv.Itoa0
import Derived.Shelf.Strings.Search1
import Derived.Shelf.Sort.Plain
import Derived.Shelf.Strings.Prefix
import Derived.Shelf.Unicode.Decode
import Derived.Shelf.Strings.Runes
import Derived.Shelf.Strings.AsciiSet
import Derived.Shelf.Bits.Mul64
import Derived.Shelf.Strings.Repeat
import Derived.Shelf.Unicode.DecodeSlow
import Derived.Shelf.Unicode.DecodeAny
import Derived.Shelf.Unicode.DecodeLast
import Derived.Shelf.Strings.BuilderCap
import Derived.Ground.Names2Prog
import Derived.Shelf.Slices.SearchI
import Derived.Shelf.Slices.In.SortNone
import Derived.Test.YtpinhnikemamjaaGreatDoorD06
set_option linter.all false
set_option maxRecDepth 4000
set_option maxHeartbeats 4000000
attribute [local irreducible] Go.Sl.a0P Go.Sl.OW Go.Sl.CW Go.Sl.OS Go.Sl.OM Go.Sl.OMf Go.Sl.KM
namespace Go.Proofs.Q
open Go.Sl Go.Sb Tryz
theorem c2A (a:Ad) (by_:Nat) (o:Own) (log:List c0U) (depth:Nat) (gv to_:Value) (keep:Int) (b:List Int) (gc:List (Nat×Obj)) (i:log.length<1000000000) (g:n0E gv b gc) (c:to_.oneCell'=true):
 a0G prog 260 #[ptr a.log,.pointer (some ⟨a.heap,5,none⟩),to_] (e0K a by_ o log depth::i0R a by_ gv keep::i0G gc) (z0Y a by_ o log depth (.gone b) [i0R a by_ to_ keep]):=
 i1R (fun w F h=>by
  have d:Sat w (e0K a by_ o log depth::i0R a by_ gv keep::(i0G gc++F)):=h;have e:Sat w (i0G gc++(F++ [e0K a by_ o log depth,i0R a by_ gv keep])):=(d.perm (List.perm_append_comm (l₁:= [e0K a by_ o log depth,i0R a by_ gv keep]) (l₂:=i0G gc++F))).perm (by rw[List.append_assoc]);have f:Sat w ((b0E (i0G gc)::F)++ [e0K a by_ o log depth,i0R a by_ gv keep]):=b0M.2 e;exact f.perm List.perm_append_comm) (z1C a by_ o log depth gv to_ keep b gc i g c)
abbrev stB (a:Ad) (b1 b2:Nat) (k:Int):c0U×Value×List (Nat×Obj):=(.back k,clo 259 [b1,b2],[e0B b1 55 (ptr a.heap),e0B b2 3 (.int .i64 k)])
theorem k2L (W:World) (a:Ad) (s:St) (at_:Int) (i:c0N s at_=1) (hi:inR at_=true) (k:s.log.length<1000000000) (f:(bk s.depth s.log (.refs at_ (a0C at_ s.refs))).length<1000000000) (l: ¬0<h0Y s at_):
 a0G prog 206 #[ptr a.heap,.int .i64 at_] (RS W a s) (Ran fT (RS W a) (fun b=> .bool b) ((.ok true,{s with refs:=b0D at_ s.refs,g:=mvL s.fr s.g at_ 1 2,log:=bk s.depth (bk s.depth s.log (.refs at_ (a0C at_ s.refs))) (.back at_)}):Out Bool×St)):=by
 have d:(a0C at_ s.refs).getD 0=1:=i;have h: ¬0<(a0C at_ s.young).getD 0:=l;refine en func206 ntmps206 fun R w0=> ?_;refine e0C gFd fun by_ gv gc o j c=> ?_;simp only[d0B,c0R,List.cons_append,List.nil_append];refine go 2 ?_;refine bx fun m=> ?_;refine bx fun n=> ?_;refine go 10 ?_;refine b0V (e0Q (ek:=a0H) (ev:=a0H) c0Y.o h0C (tt fun _=>trivial) trivial Zr.o rfl rfl gFd e0I) ?_;refine go 16 ?_;refine b0S rfl (by simp[d]) ?_;refine go 6 ?_;refine d0P rfl (by simp[d]) ?_;refine go 1 ?_;refine tl 9 ?_;refine go 10 ?_;refine d0Z rfl Hb.o rfl (r0A a by_ o s.log s.depth a.refs s.refs at_ (.refs at_ (a0C at_ s.refs)) k (fun _ _ _ _=>⟨_,_,_,_,.inr rfl,rfl⟩)) gSp ?_;rintro e _;refine ns ?_;refine go 3 ?_;refine tl 5 ?_;refine cg 6 (z0X a.gr a.grl s.fr s.g at_ (t0T hi) c.1 c.2.1) ?_;refine go 9 ?_;refine b0X rfl Hb.o rfl (c1P a by_ (e::o) (bk s.depth s.log (.refs at_ (a0C at_ s.refs))) s.depth (.back at_) _ ⟨hi,_,_,rfl,rfl⟩ f) gSp ?_;refine ns ?_;refine go 5 ?_;refine b0V (c0F Sc.o rfl gFd List.mem_cons_self List.mem_cons_self rfl) ?_;refine go 3 ?_;refine b0V (c0F Sc.o rfl gFd List.mem_cons_self (List.mem_cons_of_mem _ List.mem_cons_self) rfl) ?_;refine b0V (e0Q (ek:=a0H) (ev:=a0H) c0Y.o h0C (tt fun _=>trivial) trivial Zr.o rfl rfl gFd e0I) ?_;refine go 3 ?_;refine b0S rfl (by simpa using h) ?_;refine go 7 ?_;refine b0U (c0W (s:= {s with refs:=b0D at_ s.refs,g:=mvL s.fr s.g at_ 1 2,log:=bk s.depth (bk s.depth s.log (.refs at_ (a0C at_ s.refs))) (.back at_)}) j (by exact⟨c.1,by simpa [u0O] using c.2.1,u0P (by omega) c.2.2.1,c.2.2.2⟩) gSp) (n0M rfl idh rfl rfl gSp)
theorem z1G (W:World) (a:Ad) (s:St) (at_:Int) (A:c0N s at_=1) (hi:inR at_=true) (J:s.log.length<1000000000) (t:(bk s.depth s.log (.refs at_ (a0C at_ s.refs))).length<1000000000) (P:0<h0Y s at_)
 (M:s.gone.length+1<1000000000) (u:(bk s.depth (bk s.depth s.log (.refs at_ (a0C at_ s.refs))) (.back at_)).length<1000000000) (v:(bk s.depth (bk s.depth (bk s.depth s.log (.refs at_ (a0C at_ s.refs))) (.back at_)) (.young at_ (a0C at_ s.young))).length<1000000000):
 a0G prog 206 #[ptr a.heap,.int .i64 at_] (RS W a s) (Ran fT (RS W a) (fun b=> .bool b) ((.ok true,{s with refs:=b0D at_ s.refs,g:=mvL s.fr s.g at_ 1 2,young:=b0D at_ s.young,gone:=s.gone++ [at_],log:=bk s.depth (bk s.depth (bk s.depth (bk s.depth s.log (.refs at_ (a0C at_ s.refs))) (.back at_)) (.young at_ (a0C at_ s.young))) (.gone s.gone)}):Out Bool×St)):=by
 have k:(a0C at_ s.refs).getD 0=1:=A;have x:0<(a0C at_ s.young).getD 0:=P;refine en func206 ntmps206 fun R w0=> ?_;refine e0C gFd fun by_ gv gc o I c=> ?_;have m:o0M {s with refs:=b0D at_ s.refs,g:=mvL s.fr s.g at_ 1 2,young:=b0D at_ s.young,gone:=s.gone++ [at_],log:=bk s.depth (bk s.depth (bk s.depth (bk s.depth s.log (.refs at_ (a0C at_ s.refs))) (.back at_)) (.young at_ (a0C at_ s.young))) (.gone s.gone)} :=⟨c.1,by simpa [u0O] using c.2.1,u0P (by omega) c.2.2.1,c.2.2.2⟩;simp only[d0B,c0R,List.cons_append,List.nil_append];have l:=I;obtain⟨N,⟨q,rfl,rfl⟩| ⟨g,cap,cur,rfl,H,O,D,G,rfl⟩⟩:=I
 ·refine go 2 ?_;refine bx fun n=> ?_;refine bx fun p=> ?_;refine go 10 ?_;refine b0V (e0Q (ek:=a0H) (ev:=a0H) c0Y.o h0C (tt fun _=>trivial) trivial Zr.o rfl rfl gFd e0I) ?_;refine go 16 ?_;refine b0S rfl (by simp[k]) ?_;refine go 6 ?_;refine d0P rfl (by simp[k]) ?_;refine go 1 ?_;refine tl 9 ?_;refine go 10 ?_;refine d0Z rfl Hb.o rfl (r0A a by_ o s.log s.depth a.refs s.refs at_ (.refs at_ (a0C at_ s.refs)) J (fun _ _ _ _=>⟨_,_,_,_,.inr rfl,rfl⟩)) gSp ?_;rintro e _;refine ns ?_;refine go 3 ?_;refine tl 5 ?_;refine cg 6 (z0X a.gr a.grl s.fr s.g at_ (t0T hi) c.1 c.2.1) ?_;refine go 9 ?_;refine b0X rfl Hb.o rfl (c1P a by_ (e::o) (bk s.depth s.log (.refs at_ (a0C at_ s.refs))) s.depth (.back at_) _ ⟨hi,_,_,rfl,rfl⟩ t) gSp ?_;refine ns ?_;refine go 5 ?_;refine b0V (c0F Sc.o rfl gFd List.mem_cons_self List.mem_cons_self rfl) ?_;refine go 3 ?_;refine b0V (c0F Sc.o rfl gFd List.mem_cons_self (List.mem_cons_of_mem _ List.mem_cons_self) rfl) ?_;refine b0V (e0Q (ek:=a0H) (ev:=a0H) c0Y.o h0C (tt fun _=>trivial) trivial Zr.o rfl rfl gFd e0I) ?_;refine go 3 ?_;refine d0P rfl (by simpa using x) ?_;refine go 1 ?_;refine tl 9 ?_;refine b0V (c0F Sc.o rfl gFd List.mem_cons_self List.mem_cons_self rfl) ?_;refine go 3 ?_;refine b0V (c0F Sc.o rfl gFd List.mem_cons_self List.mem_cons_self rfl) ?_;refine go 3 ?_;refine b0V (c0F Sc.o rfl gFd List.mem_cons_self (List.mem_cons_of_mem _ List.mem_cons_self) rfl) ?_;refine go 1 ?_;refine d0Z rfl Hb.o rfl (r0A a by_ (stB a n p at_::e::o) (bk s.depth (bk s.depth s.log (.refs at_ (a0C at_ s.refs))) (.back at_)) s.depth by_ s.young at_ (.young at_ (a0C at_ s.young)) u (fun _ _ _ _=>⟨_,_,_,_,.inr rfl,rfl⟩)) gSp ?_;rintro r _;refine ns ?_;refine go 2 ?_;refine v0O 25 (by rfl) (.soft 0 (.soft 1 (.soft 2 (.soft 3 (.soft 4 (.soft 5 (.soft 6 (.soft 7 (.soft 8 (.soft 9 (.soft 10 (.soft 11 (.soft 12 (.soft 13 (.soft 14 (.soft 15 (.soft 16 (.soft 17 (.soft 18 (.soft 19 (.soft 20 (.soft 21 (.soft 22 (.hard 23 (.hard 24 .done))))))))))))))))))))))))) [i0R a by_ (.slice none 0 0) s.keep,e0K a by_ (r::stB a n p at_::e::o) (bk s.depth (bk s.depth (bk s.depth s.log (.refs at_ (a0C at_ s.refs))) (.back at_)) (.young at_ (a0C at_ s.young))) s.depth] Fol.o (by kernel_rfl) (by repeat (first|with_reducible exact b0T.bp|with_reducible apply b0T.then|with_reducible apply b0T.inBlock)) gSp ?_;simp only[List.take_succ_cons,List.take_zero];refine h0L rfl (c0F Sc.o rfl gFd (List.mem_cons_of_mem _ List.mem_cons_self) List.mem_cons_self rfl) ?_;refine go 3 ?_;refine h0L rfl (c0F Sc.o rfl gFd (List.mem_cons_of_mem _ List.mem_cons_self) List.mem_cons_self rfl) ?_;refine go 2 ?_;refine h0L rfl (c0F Sc.o rfl gFd (List.mem_cons_of_mem _ List.mem_cons_self) List.mem_cons_self rfl) ?_;refine go 3 ?_;refine h0L rfl (c0F Sc.o rfl gFd (List.mem_cons_of_mem _ List.mem_cons_self) List.mem_cons_self rfl) ?_;refine go 4 ?_;refine h0L rfl (c0F Sc.o rfl gFd (List.mem_cons_of_mem _ List.mem_cons_self) List.mem_cons_self rfl) ?_;refine go 4 ?_;refine h0L rfl (p1N Tsl.o rfl rfl rfl (by omega)) ?_;refine h0L rfl (c0F Sc.o rfl gFd (List.mem_cons_of_mem _ List.mem_cons_self) (List.mem_cons_of_mem _ List.mem_cons_self) rfl) ?_;refine b0Y rfl (fun c EE FF=> ?_);refine ns ?_;refine bl fun z=> ?_;refine go 1 ?_;refine fn (E:=EE) (F:=FF) (c.put rfl) ?_;refine b0Y rfl (fun c EE FF=> ?_);refine ns ?_;refine d1R Tsl.o Ttb.o Zr.o rfl rfl rfl o2B rfl (f0I Tsl.o (by simp;rfl) (by simp) (by simp[Value.oneCell'])) (by omega) (by simp only[maxLen];omega) (by omega) (fun f j i B hb C hd=> ?_);refine go 1 ?_;refine fn (E:=EE) (F:=FF) (c.put rfl) ?_;refine go 1 ?_;refine a1K ?_;refine d0Z rfl Hb.o rfl (c2A a by_ (r::stB a n p at_::e::o) (bk s.depth (bk s.depth (bk s.depth s.log (.refs at_ (a0C at_ s.refs))) (.back at_)) (.young at_ (a0C at_ s.young))) s.depth (.slice none 0 0) _ s.keep s.gone [] v l rfl) gSp ?_;rintro K _;refine ns ?_;refine go 3 ?_;have y:=q1H (b:=f) l hi (by rw[q];exact B) hb C (by rw[q];exact hd);refine b0U (L':=b0E (i0G [(f,.cells i.toArray 3 (0,0))])::_) (fun w h=>b0M.2 ((show Fnd _ (pts f _) _ from gFd).sat h)) ?_;refine go 4 ?_;refine b0U (c0W (s:= {s with refs:=b0D at_ s.refs,g:=mvL s.fr s.g at_ 1 2,young:=b0D at_ s.young,gone:=s.gone++ [at_],log:=bk s.depth (bk s.depth (bk s.depth (bk s.depth s.log (.refs at_ (a0C at_ s.refs))) (.back at_)) (.young at_ (a0C at_ s.young))) (.gone s.gone)}) (by_:=by_) (gv:= .slice (some ⟨f,0,none⟩) (0+1) j) (gc:= [(f,.cells i.toArray 3 (0,0))]) (by rw[q]at y ⊢;exact y) m gSp) (n0M rfl idh rfl rfl gSp)
 ·try simp only[i0G,List.map_cons,List.map_nil]
  refine b0U (L':=pts g (.cells cur.toArray 3 (0,0)):: [i0R a by_ (.slice (some ⟨g,0,none⟩) s.gone.length cap) s.keep,e0K a by_ o s.log s.depth,b0K by_ a0H a0H s.young,b0K a.refs a0H a0H s.refs,b0K a.ix d0X a0H s.index,b0K a.vols e0J e0E s.vols,s0F a s.next s.epoch,pts a.gr (.cells (l0V s.fr a.grl s.g).toArray 192 (0,0)),pts a.grl (.cells (s.g.map gst).toArray 3 (0,0)),whole W,dkC a s.d,dkR a s.d,m0X (l0N s.d),stC a s.bits,mpC a,R]) (fun w h=> ?_) ?_
  ·have A:=b0M.1 ((show Fnd _ (b0E _) _ from gFd).sat h);exact A.re gSp
  try simp only[c0R]
  refine go 2 ?_;refine bx fun n=> ?_;refine bx fun p=> ?_;refine go 10 ?_;refine b0V (e0Q (ek:=a0H) (ev:=a0H) c0Y.o h0C (tt fun _=>trivial) trivial Zr.o rfl rfl gFd e0I) ?_;refine go 16 ?_;refine b0S rfl (by simp[k]) ?_;refine go 6 ?_;refine d0P rfl (by simp[k]) ?_;refine go 1 ?_;refine tl 9 ?_;refine go 10 ?_;refine d0Z rfl Hb.o rfl (r0A a by_ o s.log s.depth a.refs s.refs at_ (.refs at_ (a0C at_ s.refs)) J (fun _ _ _ _=>⟨_,_,_,_,.inr rfl,rfl⟩)) gSp ?_;rintro e _;refine ns ?_;refine go 3 ?_;refine tl 5 ?_;refine cg 6 (z0X a.gr a.grl s.fr s.g at_ (t0T hi) c.1 c.2.1) ?_;refine go 9 ?_;refine b0X rfl Hb.o rfl (c1P a by_ (e::o) (bk s.depth s.log (.refs at_ (a0C at_ s.refs))) s.depth (.back at_) _ ⟨hi,_,_,rfl,rfl⟩ t) gSp ?_;refine ns ?_;refine go 5 ?_;refine b0V (c0F Sc.o rfl gFd List.mem_cons_self List.mem_cons_self rfl) ?_;refine go 3 ?_;refine b0V (c0F Sc.o rfl gFd List.mem_cons_self (List.mem_cons_of_mem _ List.mem_cons_self) rfl) ?_;refine b0V (e0Q (ek:=a0H) (ev:=a0H) c0Y.o h0C (tt fun _=>trivial) trivial Zr.o rfl rfl gFd e0I) ?_;refine go 3 ?_;refine d0P rfl (by simpa using x) ?_;refine go 1 ?_;refine tl 9 ?_;refine b0V (c0F Sc.o rfl gFd List.mem_cons_self List.mem_cons_self rfl) ?_;refine go 3 ?_;refine b0V (c0F Sc.o rfl gFd List.mem_cons_self List.mem_cons_self rfl) ?_;refine go 3 ?_;refine b0V (c0F Sc.o rfl gFd List.mem_cons_self (List.mem_cons_of_mem _ List.mem_cons_self) rfl) ?_;refine go 1 ?_;refine d0Z rfl Hb.o rfl (r0A a by_ (stB a n p at_::e::o) (bk s.depth (bk s.depth s.log (.refs at_ (a0C at_ s.refs))) (.back at_)) s.depth by_ s.young at_ (.young at_ (a0C at_ s.young)) u (fun _ _ _ _=>⟨_,_,_,_,.inr rfl,rfl⟩)) gSp ?_;rintro r _;refine ns ?_;refine go 2 ?_;refine v0O 25 (by rfl) (.soft 0 (.soft 1 (.soft 2 (.soft 3 (.soft 4 (.soft 5 (.soft 6 (.soft 7 (.soft 8 (.soft 9 (.soft 10 (.soft 11 (.soft 12 (.soft 13 (.soft 14 (.soft 15 (.soft 16 (.soft 17 (.soft 18 (.soft 19 (.soft 20 (.soft 21 (.soft 22 (.hard 23 (.hard 24 .done))))))))))))))))))))))))) [pts g (.cells cur.toArray 3 (0,0)),i0R a by_ (.slice (some ⟨g,0,none⟩) s.gone.length cap) s.keep,e0K a by_ (r::stB a n p at_::e::o) (bk s.depth (bk s.depth (bk s.depth s.log (.refs at_ (a0C at_ s.refs))) (.back at_)) (.young at_ (a0C at_ s.young))) s.depth] Fol.o (by kernel_rfl) (by repeat (first|with_reducible exact b0T.bp|with_reducible apply b0T.then|with_reducible apply b0T.inBlock)) gSp ?_;simp only[List.take_succ_cons,List.take_zero];refine h0L rfl (c0F Sc.o rfl gFd (List.mem_cons_of_mem _ List.mem_cons_self) List.mem_cons_self rfl) ?_;refine go 3 ?_;refine h0L rfl (c0F Sc.o rfl gFd (List.mem_cons_of_mem _ List.mem_cons_self) List.mem_cons_self rfl) ?_;refine go 2 ?_;refine h0L rfl (c0F Sc.o rfl gFd (List.mem_cons_of_mem _ List.mem_cons_self) List.mem_cons_self rfl) ?_;refine go 3 ?_;refine h0L rfl (c0F Sc.o rfl gFd (List.mem_cons_of_mem _ List.mem_cons_self) List.mem_cons_self rfl) ?_;refine go 4 ?_;refine h0L rfl (c0F Sc.o rfl gFd (List.mem_cons_of_mem _ List.mem_cons_self) List.mem_cons_self rfl) ?_;refine go 4 ?_;refine h0L rfl (p1N Tsl.o rfl rfl rfl (by omega)) ?_;refine h0L rfl (c0F Sc.o rfl gFd (List.mem_cons_of_mem _ List.mem_cons_self) (List.mem_cons_of_mem _ List.mem_cons_self) rfl) ?_;refine b0Y rfl (fun c EE FF=> ?_);refine ns ?_;refine bl fun z=> ?_;refine go 1 ?_;refine fn (E:=EE) (F:=FF) (c.put rfl) ?_;refine b0Y rfl (fun c EE FF=> ?_);refine ns ?_;refine d1R Tsl.o Ttb.o Zr.o rfl rfl rfl (o2A (xs:=s.gone.map a0H) (g:=g) (by rw[D];omega) (by rw[Nat.mul_one];exact G)) (by simp) (f0I Tsl.o (by simp;rfl) (by simp) (by simp[Value.oneCell'])) (by omega) (by simp only[maxLen];omega) (by omega) (fun f j i B hb C hd=> ?_);refine go 1 ?_;refine fn (E:=EE) (F:=FF) (c.put rfl) ?_;refine go 1 ?_;refine a1K ?_;refine d0Z rfl Hb.o rfl (c2A a by_ (r::stB a n p at_::e::o) (bk s.depth (bk s.depth (bk s.depth s.log (.refs at_ (a0C at_ s.refs))) (.back at_)) (.young at_ (a0C at_ s.young))) s.depth (.slice (some ⟨g,0,none⟩) s.gone.length cap) _ s.keep s.gone [(g,.cells cur.toArray 3 (0,0))] v l rfl) gSp ?_;rintro K _;refine ns ?_;refine go 3 ?_;have y:=q1H (b:=f) l hi B hb C hd;refine b0U (L':=b0E (i0G [(f,.cells i.toArray 3 (0,0))])::_) (fun w h=>b0M.2 ((show Fnd _ (pts f _) _ from gFd).sat h)) ?_;refine go 4 ?_;refine b0U (c0W (s:= {s with refs:=b0D at_ s.refs,g:=mvL s.fr s.g at_ 1 2,young:=b0D at_ s.young,gone:=s.gone++ [at_],log:=bk s.depth (bk s.depth (bk s.depth (bk s.depth s.log (.refs at_ (a0C at_ s.refs))) (.back at_)) (.young at_ (a0C at_ s.young))) (.gone s.gone)}) (by_:=by_) (gv:= .slice (some ⟨f,0,none⟩) (s.gone.length+1) j) (gc:= [(f,.cells i.toArray 3 (0,0))]) y m gSp) (n0M rfl idh rfl rfl gSp)
end Go.Proofs.Q
namespace Go.Proofs.Q
open Go Go.Sl Tryz
instance:Hb prog 285:=⟨kr⟩
instance:Hb prog 39:=⟨kr⟩
instance:Hb prog 60:=⟨kr⟩
instance:Hb prog 62:=⟨kr⟩
instance:Zr prog 119 (.agg #[.pointer none,.slice none 0 0]):=⟨kr⟩
end Go.Proofs.Q
namespace Go.Proofs
open Go.Shelf
open Go.RowKit in
open Go.RowKit in
open Go.RowKit in
section
def Tryz.lays160_ren:Go.Shelf.Ren:=⟨fun|160=>224|232=>269|231=>268|227=>270|234=>272|233=>271|236=>274|235=>273|228=>289|271=>292|151=>291|197=>290|120=>298|152=>297|260=>296|137=>299|119=>300|224=>301|225=>302|217=>303|266=>304|n=>n,fun|9=>9|4=>4|3=>3|5=>5|117=>328|116=>327|0=>0|124=>331|21=>21|105=>339|46=>166|119=>347|139=>350|138=>349|n=>n,fun|3=>2|4=>3|n=>n⟩
theorem Tryz.lays160:Go.Proofs.Lays.n160 Tryz.prog Tryz.lays160_ren:= {
 mixed:=by kernel_rfl
 f119:=Tryz.func300.trans (congrArg some (by kernel_rfl))
 f120:=Tryz.func298.trans (congrArg some (by kernel_rfl))
 f137:=Tryz.func299.trans (congrArg some (by kernel_rfl))
 f151:=Tryz.func291.trans (congrArg some (by kernel_rfl))
 f152:=Tryz.func297.trans (congrArg some (by kernel_rfl))
 f160:=Tryz.func224.trans (congrArg some (by kernel_rfl))
 f197:=Tryz.func290.trans (congrArg some (by kernel_rfl))
 f217:=Tryz.func303.trans (congrArg some (by kernel_rfl))
 f224:=Tryz.func301.trans (congrArg some (by kernel_rfl))
 f225:=Tryz.func302.trans (congrArg some (by kernel_rfl))
 f227:=Tryz.func270.trans (congrArg some (by kernel_rfl))
 f228:=Tryz.func289.trans (congrArg some (by kernel_rfl))
 f231:=Tryz.func268.trans (congrArg some (by kernel_rfl))
 f232:=Tryz.func269.trans (congrArg some (by kernel_rfl))
 f233:=Tryz.func271.trans (congrArg some (by kernel_rfl))
 f234:=Tryz.func272.trans (congrArg some (by kernel_rfl))
 f235:=Tryz.func273.trans (congrArg some (by kernel_rfl))
 f236:=Tryz.func274.trans (congrArg some (by kernel_rfl))
 f260:=Tryz.func296.trans (congrArg some (by kernel_rfl))
 f266:=Tryz.func304.trans (congrArg some (by kernel_rfl))
 f271:=Tryz.func292.trans (congrArg some (by kernel_rfl))
 t0:=Tryz.underlying0
 a0:=Tryz.isAgg0
 z0:=Tryz.sizeOf0
 v0:=Tryz.zeroValue0
 t3:=Tryz.underlying3
 a3:=Tryz.isAgg3
 z3:=Tryz.sizeOf3
 v3:=Tryz.zeroValue3
 t4:=Tryz.underlying4
 a4:=Tryz.isAgg4
 z4:=Tryz.sizeOf4
 v4:=Tryz.zeroValue4
 t5:=Tryz.underlying5
 a5:=Tryz.isAgg5
 z5:=Tryz.sizeOf5
 v5:=Tryz.zeroValue5
 t9:=Tryz.underlying9
 a9:=Tryz.isAgg9
 z9:=Tryz.sizeOf9
 v9:=Tryz.zeroValue9
 t21:=Tryz.underlying21
 a21:=Tryz.isAgg21
 z21:=Tryz.sizeOf21
 v21:=Tryz.zeroValue21
 t46:=Tryz.underlying166
 a46:=Tryz.isAgg166
 z46:=Tryz.sizeOf166
 v46:=Tryz.zeroValue166
 t105:=Tryz.underlying339
 a105:=Tryz.isAgg339
 z105:=Tryz.sizeOf339
 v105:=Tryz.zeroValue339
 t116:=Tryz.underlying327
 a116:=Tryz.isAgg327
 z116:=Tryz.sizeOf327
 t117:=Tryz.underlying328
 a117:=Tryz.isAgg328
 z117:=Tryz.sizeOf328
 v117:=Tryz.zeroValue328
 t119:=Tryz.underlying347
 a119:=Tryz.isAgg347
 z119:=Tryz.sizeOf347
 t124:=Tryz.underlying331
 a124:=Tryz.isAgg331
 z124:=Tryz.sizeOf331
 v124:=Tryz.zeroValue331
 t138:=Tryz.underlying349
 a138:=Tryz.isAgg349
 z138:=Tryz.sizeOf349
 v138:=Tryz.zeroValue349
 t139:=Tryz.underlying350
 a139:=Tryz.isAgg350
 z139:=Tryz.sizeOf350
 v139:=Tryz.zeroValue350
 g3:=by kernel_rfl
 g4:=by kernel_rfl}
open Go.RowKit in
theorem Tryz.strings_Trim_one (s:ByteArray) (c:UInt8) (b:c.toNat<128) (w:World) (d:s.size≤9223372036854775807):
 Calls Tryz.prog 224 #[.string s,.string ⟨#[c]⟩] w fun e a=>e= .returned (.string ⟨(Lib.trimB s.data.toList c).toArray⟩)∧(a=w∨a=w.drew):=Any.strings_Trim_one Tryz.lays160 s c b w d
def Tryz.lays189_ren:Go.Shelf.Ren:=⟨fun|189=>156|125=>180|257=>191|128=>219|129=>220|294=>232|295=>233|296=>234|297=>235|298=>236|299=>237|216=>238|300=>239|301=>240|328=>275|329=>263|330=>264|331=>276|332=>277|215=>278|343=>293|n=>n,fun|28=>90|3=>3|46=>166|0=>0|51=>47|53=>147|4=>4|183=>281|182=>280|131=>271|5=>5|9=>9|218=>320|222=>236|228=>336|229=>233|n=>n,fun|n=>n⟩
theorem Tryz.lays189:Go.Proofs.Lays.n189 Tryz.prog Tryz.lays189_ren:= {
 mixed:=by kernel_rfl
 f125:=Tryz.func180.trans (congrArg some (by kernel_rfl))
 f128:=Tryz.func219.trans (congrArg some (by kernel_rfl))
 f129:=Tryz.func220.trans (congrArg some (by kernel_rfl))
 f189:=Tryz.func156.trans (congrArg some (by kernel_rfl))
 f215:=Tryz.func278.trans (congrArg some (by kernel_rfl))
 f216:=Tryz.func238.trans (congrArg some (by kernel_rfl))
 f257:=Tryz.func191.trans (congrArg some (by kernel_rfl))
 f294:=Tryz.func232.trans (congrArg some (by kernel_rfl))
 f295:=Tryz.func233.trans (congrArg some (by kernel_rfl))
 f296:=Tryz.func234.trans (congrArg some (by kernel_rfl))
 f297:=Tryz.func235.trans (congrArg some (by kernel_rfl))
 f298:=Tryz.func236.trans (congrArg some (by kernel_rfl))
 f299:=Tryz.func237.trans (congrArg some (by kernel_rfl))
 f300:=Tryz.func239.trans (congrArg some (by kernel_rfl))
 f301:=Tryz.func240.trans (congrArg some (by kernel_rfl))
 f328:=Tryz.func275.trans (congrArg some (by kernel_rfl))
 f329:=Tryz.func263.trans (congrArg some (by kernel_rfl))
 f330:=Tryz.func264.trans (congrArg some (by kernel_rfl))
 f331:=Tryz.func276.trans (congrArg some (by kernel_rfl))
 f332:=Tryz.func277.trans (congrArg some (by kernel_rfl))
 f343:=Tryz.func293.trans (congrArg some (by kernel_rfl))
 t0:=Tryz.underlying0
 a0:=Tryz.isAgg0
 z0:=Tryz.sizeOf0
 v0:=Tryz.zeroValue0
 t3:=Tryz.underlying3
 a3:=Tryz.isAgg3
 z3:=Tryz.sizeOf3
 v3:=Tryz.zeroValue3
 t4:=Tryz.underlying4
 a4:=Tryz.isAgg4
 z4:=Tryz.sizeOf4
 v4:=Tryz.zeroValue4
 t5:=Tryz.underlying5
 a5:=Tryz.isAgg5
 z5:=Tryz.sizeOf5
 v5:=Tryz.zeroValue5
 t9:=Tryz.underlying9
 a9:=Tryz.isAgg9
 z9:=Tryz.sizeOf9
 v9:=Tryz.zeroValue9
 t28:=Tryz.underlying90
 a28:=Tryz.isAgg90
 z28:=Tryz.sizeOf90
 v28:=Tryz.zeroValue90
 t46:=Tryz.underlying166
 a46:=Tryz.isAgg166
 z46:=Tryz.sizeOf166
 v46:=Tryz.zeroValue166
 t51:=Tryz.underlying47
 a51:=Tryz.isAgg47
 z51:=Tryz.sizeOf47
 v51:=Tryz.zeroValue47
 t53:=Tryz.underlying147
 a53:=Tryz.isAgg147
 z53:=Tryz.sizeOf147
 v53:=Tryz.zeroValue147
 t131:=Tryz.underlying271
 a131:=Tryz.isAgg271
 z131:=Tryz.sizeOf271
 v131:=Tryz.zeroValue271
 t182:=Tryz.underlying280
 a182:=Tryz.isAgg280
 z182:=Tryz.sizeOf280
 v182:=Tryz.zeroValue280
 t183:=Tryz.underlying281
 a183:=Tryz.isAgg281
 z183:=Tryz.sizeOf281
 v183:=Tryz.zeroValue281
 t218:=Tryz.underlying320
 a218:=Tryz.isAgg320
 z218:=Tryz.sizeOf320
 v218:=Tryz.zeroValue320
 t222:=Tryz.underlying236
 a222:=Tryz.isAgg236
 z222:=Tryz.sizeOf236
 v222:=Tryz.zeroValue236
 t228:=Tryz.underlying336
 a228:=Tryz.isAgg336
 z228:=Tryz.sizeOf336
 v228:=Tryz.zeroValue336
 t229:=Tryz.underlying233
 a229:=Tryz.isAgg233
 z229:=Tryz.sizeOf233
 v229:=Tryz.zeroValue233}
open Go.Sort Go.RowKit in
theorem Tryz.slices_Sort_int (a off cap:Nat) (zs:List Int) (w:World) (d:Go.Sort.Holds (Value.int .i64) w a off zs.toArray) (b:a<w.heap.size) (c:zs.length<4611686018427387904):
 Calls Tryz.prog 156 #[.slice (some ⟨a,off,none⟩) zs.length cap] w fun e f=>
  e= .returned (.tuple #[])∧ ∃n os,f=grow (putRow (Value.int .i64) (Sort.ahead w n) a off (zs.mergeSort fun x y=>decide (x≤y)).toArray) os:=Any.slices_Sort_int Tryz.lays189 a off cap zs w d b c
def Tryz.lays105_ren:Go.Shelf.Ren:=⟨fun|105=>39|212=>94|99=>95|165=>96|166=>60|170=>97|169=>62|263=>139|264=>140|206=>141|240=>113|241=>142|276=>158|277=>182|n=>n,fun|9=>9|3=>3|4=>4|20=>20|0=>0|46=>166|109=>167|5=>5|72=>119|76=>123|51=>47|146=>215|53=>147|148=>217|70=>117|37=>113|75=>122|127=>197|164=>225|80=>48|n=>n,fun|n=>n⟩
theorem Tryz.lays105:Go.Proofs.Lays.n105 Tryz.prog Tryz.lays105_ren:= {
 mixed:=by kernel_rfl
 f99:=Tryz.func95.trans (congrArg some (by kernel_rfl))
 f105:=Tryz.func39.trans (congrArg some (by kernel_rfl))
 f165:=Tryz.func96.trans (congrArg some (by kernel_rfl))
 f166:=Tryz.func60.trans (congrArg some (by kernel_rfl))
 f169:=Tryz.func62.trans (congrArg some (by kernel_rfl))
 f170:=Tryz.func97.trans (congrArg some (by kernel_rfl))
 f206:=Tryz.func141.trans (congrArg some (by kernel_rfl))
 f212:=Tryz.func94.trans (congrArg some (by kernel_rfl))
 f240:=Tryz.func113.trans (congrArg some (by kernel_rfl))
 f241:=Tryz.func142.trans (congrArg some (by kernel_rfl))
 f263:=Tryz.func139.trans (congrArg some (by kernel_rfl))
 f264:=Tryz.func140.trans (congrArg some (by kernel_rfl))
 f276:=Tryz.func158.trans (congrArg some (by kernel_rfl))
 f277:=Tryz.func182.trans (congrArg some (by kernel_rfl))
 t0:=Tryz.underlying0
 a0:=Tryz.isAgg0
 z0:=Tryz.sizeOf0
 v0:=Tryz.zeroValue0
 t3:=Tryz.underlying3
 a3:=Tryz.isAgg3
 z3:=Tryz.sizeOf3
 v3:=Tryz.zeroValue3
 t4:=Tryz.underlying4
 a4:=Tryz.isAgg4
 z4:=Tryz.sizeOf4
 v4:=Tryz.zeroValue4
 t5:=Tryz.underlying5
 a5:=Tryz.isAgg5
 z5:=Tryz.sizeOf5
 v5:=Tryz.zeroValue5
 t9:=Tryz.underlying9
 a9:=Tryz.isAgg9
 z9:=Tryz.sizeOf9
 v9:=Tryz.zeroValue9
 t20:=Tryz.underlying20
 a20:=Tryz.isAgg20
 z20:=Tryz.sizeOf20
 v20:=Tryz.zeroValue20
 t37:=Tryz.underlying113
 a37:=Tryz.isAgg113
 z37:=Tryz.sizeOf113
 v37:=Tryz.zeroValue113
 t46:=Tryz.underlying166
 a46:=Tryz.isAgg166
 z46:=Tryz.sizeOf166
 v46:=Tryz.zeroValue166
 t51:=Tryz.underlying47
 a51:=Tryz.isAgg47
 z51:=Tryz.sizeOf47
 v51:=Tryz.zeroValue47
 t53:=Tryz.underlying147
 a53:=Tryz.isAgg147
 z53:=Tryz.sizeOf147
 v53:=Tryz.zeroValue147
 t70:=Tryz.underlying117
 a70:=Tryz.isAgg117
 z70:=Tryz.sizeOf117
 v70:=Tryz.zeroValue117
 t72:=Tryz.underlying119
 a72:=Tryz.isAgg119
 z72:=Tryz.sizeOf119
 v72:=Tryz.zeroValue119
 t75:=Tryz.underlying122
 a75:=Tryz.isAgg122
 z75:=Tryz.sizeOf122
 v75:=Tryz.zeroValue122
 t76:=Tryz.underlying123
 a76:=Tryz.isAgg123
 z76:=Tryz.sizeOf123
 v76:=Tryz.zeroValue123
 t109:=Tryz.underlying167
 a109:=Tryz.isAgg167
 z109:=Tryz.sizeOf167
 v109:=Tryz.zeroValue167
 t127:=Tryz.underlying197
 a127:=Tryz.isAgg197
 z127:=Tryz.sizeOf197
 v127:=Tryz.zeroValue197
 t146:=Tryz.underlying215
 a146:=Tryz.isAgg215
 z146:=Tryz.sizeOf215
 v146:=Tryz.zeroValue215
 t148:=Tryz.underlying217
 a148:=Tryz.isAgg217
 z148:=Tryz.sizeOf217
 v148:=Tryz.zeroValue217
 t164:=Tryz.underlying225
 a164:=Tryz.isAgg225
 z164:=Tryz.sizeOf225
 v164:=Tryz.zeroValue225}
theorem Tryz.Builder_Extra_105:Builder.Extra Tryz.prog Tryz.lays105_ren:= {
 sizeBuilder:=by kernel_rfl
 liesBuilder:=by kernel_rfl
 t5:=Tryz.underlying5
 a5:=Tryz.isAgg5
 z5:=Tryz.sizeOf5
 v5:=Tryz.zeroValue5
 infoByte:=by kernel_rfl
 cellsByte:=by kernel_rfl
 sizeByte:=by kernel_rfl
 neB5:=by decide}
open Go.RowKit Go.Lib in
theorem Tryz.strings_Repeat (s:ByteArray) (c:Nat) (w:World) (b:c≤9223372036854775807) (a:s.size*c≤140737488355328):
 Calls Tryz.prog 39 #[.string s,.int .i64 c] w fun e d=>e= .returned (.string ⟨(Lib.repeatL s.data.toList c).toArray⟩)∧Below w.heap.size w d:=Any.strings_Repeat Tryz.lays105 Tryz.Builder_Extra_105 s c w b a
theorem Tryz.slices_Sort_int_none (p:Option Addr) (cap:Nat) (w:World):
 Calls Tryz.prog 156 #[.slice p 0 cap] w fun e a=>e= .returned (.tuple #[])∧a=w:=Any.slices_Sort_int_none Tryz.lays189 p cap w
end
end Go.Proofs
namespace Go.Proofs.Q
open Go.Sl Go.Sb Tryz
theorem z1H (c:UInt8) (n:Nat):Lib.repeatL [c] n=List.replicate n c:=by
 induction n with
 |zero=>rfl
 |succ n ih=>rw[Lib.repeatL,ih];rfl
theorem f2P (l:B) (n:Nat):Lib.repeatL l n=(List.replicate n l).flatten:=by
 induction n with
 |zero=>rfl
 |succ n ih=>rw[Lib.repeatL,ih,List.replicate_succ,List.flatten_cons]
theorem a1X (n:Nat) (a:n≤1000000):a0G prog 39 #[.string ⟨#[0]⟩,.int .i64 n] [] (a0T (b0C (a0L n)) []):=by
 refine b1P fun w=> ?_;have h:=Tryz.strings_Repeat ⟨#[0]⟩ n w (by omega) (by show 1*n≤_;omega);have e:(⟨(Lib.repeatL (⟨#[0]⟩:ByteArray).data.toList n).toArray⟩:ByteArray)=bs (a0L n):=by
  show(⟨(Lib.repeatL [0] n).toArray⟩:ByteArray)=_;rw[z1H];rfl
 rw[e]at h;exact h
theorem c2B (l:B) (n:Nat) (a:l.length*n≤1000000) (b:n≤1000000):a0G prog 39 #[b0C l,.int .i64 n] [] (a0T (b0C ((List.replicate n l).flatten)) []):=by
 refine b1P fun w=> ?_;have h:=Tryz.strings_Repeat (bs l) n w (by omega) (by rw[b0H];omega);rw[m0D,f2P]at h;exact h
theorem m1D (b:Nat) (v:Value) (l s:B) (d:l.length≤1000000) (e:s.length≤1000000) (c:v.oneCell'=true):
 a0G prog 82 #[ptr b,b0C s] (o0Y b v l) (b0P (fun a:Value=>a.oneCell'=true) (fun _=>ptr b) (fun a=>o0Y b a (l++s))):=by
 have h:=t0S b v l (bs s) d (by rw[b0H];exact e) c;rw[m0D]at h;exact h
theorem c1T (b:Nat) (v:Value) (l:B) (n:Nat) (f:l.length≤n) (g:n≤1000000) (d:v.oneCell'=true):
 a0G prog 252 #[ptr b,.int .i64 n] (o0Y b v l) (b0P (fun c:Value=>c.oneCell'=true) (fun _=>ptr b) (fun c=>o0Y b c (g0E n l))):=by
 refine en func252 ntmps252 fun R w0=> ?_;refine go 12 ?_;refine a0D (i0N Tsl.o rfl gFd) ?_;refine go 15 ?_;refine a0D (i0N Tsl.o rfl gFd) ?_;refine go 1 ?_;rw[show((n:Nat):Int)- ((l.length:Nat):Int)=((n-l.length:Nat):Int) by omega];refine cg 0 (a1X (n-l.length) (by omega)) ?_;refine ce 0 (m1D b v l (a0L (n-l.length)) (by omega) (by simp[a0L];omega) d) ?_;rintro e a;refine ns ?_;refine go 3 ?_;exact rE idh e a
theorem p2N (b:Nat) (v:Value) (l:B) (n:Nat) (c:n<l.length) (a:v.oneCell'=true):
 a0G prog 252 #[ptr b,.int .i64 n] (o0Y b v l) (fun en L=>en= .panicked (t0H fT 3)∧L=o0Y b v l):=by
 refine en func252 ntmps252 fun R w0=> ?_;refine go 12 ?_;refine a0D (i0N Tsl.o rfl gFd) ?_;refine go 6 ?_;refine c0A rfl Hb.o rfl (c0M 3) gSp ?_;refine ns ?_;refine pn ?_;refine d0U idh (b0A.back gSp) ⟨rfl,rfl⟩
theorem v1O {d a:Dk} {o:Out Unit} (h:k0W d=(o,a)):a.l=d.l∧a.left≤d.left:=by
 unfold k0W at h;split at h
 ·cases h;exact⟨rfl,Nat.le_refl _⟩
 ·split at h
  ·cases h;exact⟨rfl,Nat.le_refl _⟩
  ·split at h
   ·cases h;exact⟨rfl,Nat.le_refl _⟩
   ·rename_i b;cases h;exact⟨rfl,by rw[b];exact Nat.le_succ _⟩
theorem m1E (d a:Dk):k0W d≠(.big,a):=by
 unfold k0W;split
 ·intro h;cases h
 ·split
  ·intro h;cases h
  ·split<;>(intro h;cases h)
theorem k2M (n:Nat) (l:B) (h:l.length≤n):(g0E n l).length=n:=by simp[g0E,a0L];omega
theorem p2O {d a:Dk} {i:Nat} {s:B} (h:l0N d) (e:a.l=d.l∧a.left≤d.left) (g:s.length≤64) (hi:i<d.l.length):l0N {a with l:=a.l.set i ((a.l.getD i ([],[])).1,g0E 64 s)} :=by
 obtain⟨c,f,j⟩:=h;refine⟨fun x b=> ?_,by simp[e.1,f],by show a.left<_;omega⟩;simp only[e.1]at b;rcases List.mem_or_eq_of_mem_set b with b|rfl
 ·exact c x b
 ·have:d.l.getD i ([],[])∈d.l:=by
   rw[List.getD_eq_getElem?_getD,List.getElem?_eq_getElem hi];exact List.getElem_mem hi
  exact⟨(c _ this).1,k2M 64 s g⟩
theorem p2P {d a:Dk} {o:Out Unit} (h:l0N d) (hd:k0W d=(o,a)):l0N a:=by
 have:=v1O hd;exact⟨by rw[this.1];exact h.1,by rw[this.1];exact h.2.1,by have:=h.2.2;omega⟩
theorem z1I (a:Ad) (d:Dk) (at_:Int) (s:B) (D:s.length≤1000000):a0G prog 251 #[ptr a.disk,.int .i64 at_,b0C s] (dk3 a d) (Ran fT (dk3 a) i0S (e0Y d at_ s)):=by
 by_cases z:d.dead=true
 ·have e:e0Y d at_ s=(.err 12,d):=by simp[e0Y,z]
  rw[e];refine en func251 ntmps251 fun R w0=> ?_;refine go 3 ?_;refine c0A rfl Hb.o rfl (j1S a d z) gSp ?_;refine ns ?_;refine pn ?_;refine d0U idh (b0A.back gSp) ⟨rfl,rfl⟩
 ·have c:d.dead=false:=by simpa using z
  by_cases p:at_<0∨(d.l.length:Int)≤at_
  ·have e:e0Y d at_ s=(.err 6,d):=by simp[e0Y,c,p]
   rw[e];refine en func251 ntmps251 fun R w0=> ?_;refine cg 3 (p0P a d c) ?_;refine go 6 ?_;refine c0A rfl Hb.o rfl (v1K a d at_ p) gSp ?_;refine ns ?_;refine pn ?_;refine d0U idh (b0A.back gSp) ⟨rfl,rfl⟩
  ·by_cases y:64<s.length
   ·have e:e0Y d at_ s=(.err 3,d):=by simp[e0Y,c,p,y]
    rw[e];refine en func251 ntmps251 fun R w0=> ?_;refine cg 3 (p0P a d c) ?_;refine cg 6 (c1Q a d at_ p) ?_;refine go 4 ?_;refine al fun n=> ?_;refine go 3 ?_;refine b0U (fun w h=>f0E 5 1 w h) ?_;refine ce 2 (m1D n (.slice none 0 0) [] s (by simp) D rfl) ?_;rintro m g;refine ns ?_;refine c0A rfl Hb.o rfl (p2N n m s 64 y g) gSp ?_;refine ns ?_;refine pn ?_;refine d0U idh (b0A.back gSp) ⟨rfl,rfl⟩
   ·have F:=k2G (f2J p);have C:at_.toNat<d.l.length:=by omega
    have u:=f2I a d;cases hd:k0W d with
    |mk x d'=>
    have A:=v1O hd;cases x with
    |big=>exact(m1E _ _ hd).elim
    |err e'=>
     have e:e0Y d at_ s=(.err e',d'):=by simp only[e0Y,c,p,y,hd,if_false];rfl
     rw[e];refine en func251 ntmps251 fun R w0=> ?_;refine n0N gFd fun j=> ?_;have f:=u j.2.2;rw[hd]at f;refine cg 3 (p0P a d c) ?_;refine cg 6 (c1Q a d at_ p) ?_;refine go 4 ?_;refine al fun n=> ?_;refine go 3 ?_;refine b0U (fun w h=>f0E 5 1 w h) ?_;refine ce 2 (m1D n (.slice none 0 0) [] s (by simp) D rfl) ?_;rintro m g;refine ns ?_;refine ce 0 (c1T n m s 64 (by omega) (by omega) g) ?_;rintro q k;refine ns ?_;refine cg 0 (v0K n q (g0E 64 s) k) ?_;refine go 6 ?_;refine c0A rfl Hb.o rfl (f) gSp ?_;refine ns ?_;refine pn ?_;refine b0F (n0V (p2P j hd)) (d0U idh (b0A.back (by show b0A _ [R,dkC a d',dkR a d',m0X (l0N d')] _;rw[show dkR a d'=dkR a d by simp only[dkR,A.1]];exact gSp)) ⟨rfl,rfl⟩)
    |ok x=>
     have e:e0Y d at_ s=(.ok (),{d' with l:=d'.l.set at_.toNat ((d'.l.getD at_.toNat ([],[])).1,g0E 64 s)}):=by simp only[e0Y,c,p,y,hd,if_false];rfl
     have t:=u2W d.l at_.toNat (d.l.getD at_.toNat ([],[])) (g0E 64 s) (f2J p);rw[e];refine en func251 ntmps251 fun R w0=> ?_;refine n0N gFd fun j=> ?_;have f:=u j.2.2;rw[hd]at f;refine cg 3 (p0P a d c) ?_;refine cg 6 (c1Q a d at_ p) ?_;refine go 4 ?_;refine al fun n=> ?_;refine go 3 ?_;refine b0U (fun w h=>f0E 5 1 w h) ?_;refine ce 2 (m1D n (.slice none 0 0) [] s (by simp) D rfl) ?_;rintro m g;refine ns ?_;refine ce 0 (c1T n m s 64 (by omega) (by omega) g) ?_;rintro q k;refine ns ?_;refine cg 0 (v0K n q (g0E 64 s) k) ?_;refine cg 6 (f.ran_ok) ?_;refine go 2 ?_;refine i0T gFd (by omega) fun b cap v E=> ?_;simp only[dkC,dkR];rw[v];refine go 9 ?_;refine c0H (xs':=(d.l.set at_.toNat ((d.l.getD at_.toNat ([],[])).1,g0E 64 s)).flatMap t0U) Sz.o rfl rfl rfl gFd (by rw[u0L];omega) (by rw[←t,show 0+at_.toNat*2+1=2*at_.toNat+1 by omega]) ?_;refine go 1 ?_;rw[←v];have r:=p2O (i:=at_.toNat) j A (show s.length≤64 by omega) C;refine b0F (n0V r) (x0B rfl rfl rfl (by show b0A _ [R,dkC a d',b0I _ 2 a.vd (d'.l.set at_.toNat _).length (List.flatMap t0U (d'.l.set at_.toNat _)),m0X (l0N _)] _;rw[List.length_set,A.1];exact gSp))
theorem c1U (W:World) (a:Ad) (s:St) (at_:Int) (c:(e0G at_ s).1≠ .big):a0G prog 206 #[ptr a.heap,.int .i64 at_] (RS W a s) (Ran fT (RS W a) (fun b=> .bool b) (e0G at_ s)):=by
 have hi:=q1G c;by_cases g:c0N s at_=0
 ·rw[show e0G at_ s=(.err 6,s) by simp[e0G,hi,g]];exact f2O W a s at_ g
 ·by_cases f:c0N s at_=1
  ·obtain⟨_,i,j,d⟩:=k2J c f;simp only at d;by_cases h:0<h0Y s at_
   ·rw[if_pos h]at d;obtain⟨l,m,n,o⟩:=d;rw[o];exact z1G W a s at_ f hi i j h l m n
   ·rw[if_neg h]at d;rw[d];exact k2L W a s at_ f hi i j h
  ·have e:e0G at_ s=a0B (h0I at_ (j0Z (c0N s at_-1))) (fun _=>ret false) s:=by simp[e0G,hi,g,f]
   rw[e]at c;have k:=a1A (c0I c);rw[e,a0A (w0S _ _ k)];exact k2K W a s at_ g f k
theorem p2Q {s:St} (a:o0M s):(h0M s.g).length≤5000∧(∀x∈h0M s.g,x<3)∧inR (b0R s.fr s.g)=true:=by
 have b:=a.2.1;have e:=a.1;unfold h0M b0R;cases c:s.g.findIdx? (· == 0)with
 |none=>exact⟨b,a.2.2.1,rfl⟩
 |some i=>
  have hi:i<s.g.length:=by
   rw[List.findIdx?_eq_some_iff_findIdx_eq]at c;exact c.1
  refine⟨by simpa using b,fun x d=> ?_,?_⟩
  ·rcases List.mem_or_eq_of_mem_set d with h|rfl
   ·exact a.2.2.1 x h
   ·omega
  ·simp only[inR,decide_eq_true_eq];omega
theorem v1P {s:St} {k v:Int} (h:(m0E k v s).1≠ .big):s.log.length<1000000000:=t0W h fun a=>by simp[m0E,a0B,back,a]
abbrev pl1 (s:St):List c0U:=bk s.depth s.log (.give (b0R s.fr s.g))
abbrev pl2 (s:St):List c0U:=bk s.depth (pl1 s) (.refs (b0R s.fr s.g) (a0C (b0R s.fr s.g) s.refs))
abbrev pl3 (s:St):List c0U:=bk s.depth (pl2 s) (.young (b0R s.fr s.g) (a0C (b0R s.fr s.g) s.young))
abbrev ps (s:St) (d:Dk):St:= {s with d:=d,g:=h0M s.g,refs:=b0O (b0R s.fr s.g) 1 s.refs,young:=b0O (b0R s.fr s.g) 1 s.young,log:=pl3 s}
theorem u2Y {s:St} {b:B} (a:(e0S b s).1≠ .big) (l: ¬(a0Y s:Int)≤s.keep):s.log.length<1000000000∧(pl1 s).length<1000000000∧(pl2 s).length<1000000000∧
 e0S b s=(match e0Y s.d (b0R s.fr s.g) b with| (.ok _,d)=>(.ok (b0R s.fr s.g),ps s d)| (.err e,d)=>(.err e,ps s d)| (.big,d)=>(.big,ps s d)):=by
 have e:e0S b s=a0B (fun s'=>back (.give (b0R s.fr s.g)) {s' with g:=h0M s'.g}) (fun _=>a0B (h0I (b0R s.fr s.g) 1) fun _=>a0B (m0E (b0R s.fr s.g) 1) fun _=>a0B (t0G fun d=>e0Y d (b0R s.fr s.g) b) fun _=>ret (b0R s.fr s.g)) s:=by
  simp only[e0S,if_neg l]
 rw[e]at a;have f:=v1N (c0I a);have j:=o1M (s:= {s with g:=h0M s.g}) (.give (b0R s.fr s.g)) f;have i:=p0H a j;have c:=a1A (c0I i);have k:=p0H i (w0S _ _ c);have h:=v1P (c0I k);refine⟨f,c,h,?_⟩;rw[e,a0A (m:=fun s'=>back (.give (b0R s.fr s.g)) {s' with g:=h0M s'.g}) j,a0A (w0S _ _ c),a0A (z1E _ _ h)];simp only[a0B,t0G];cases hd:e0Y s.d (b0R s.fr s.g) b with
 |mk x d=>
  cases x<;>simp only[hd,ret]<;>rfl
theorem f2Q (d a:Dk) (x:Int) (b:B):e0Y d x b≠(.big,a):=by
 unfold e0Y;split
 ·intro h;cases h
 ·split
  ·intro h;cases h
  ·split
   ·intro h;cases h
   ·split
    ·intro h;cases h
    ·rename_i h;exact(m1E _ _ h).elim
    ·intro h;cases h
theorem q1I (a:Ad) (k:Int):a0G prog 250 #[ptr a.heap,.int .i64 k] [] (b0P (fun _:Nat×Nat=>True) (fun x=> .func (.func 284) #[] #[ptr x.1,ptr x.2]) (fun x=> [pts x.1 (.cells #[ptr a.heap] 55 (0,0)),pts x.2 (.cells #[.int .i64 k] 3 (0,0))])):=by
 refine en func250 ntmps250 fun R w0=> ?_;refine go 2 ?_;refine bx fun b=> ?_;refine bx fun c=> ?_;refine go 9 ?_;exact rE idh (b,c) trivial
theorem k2N (b bl:Nat) (s:St) (a:o0M s):a0G prog 249 #[.pointer (some ⟨b,0,none⟩)] (gm b bl s.fr s.g) (b0P (fun _:Bool=>True) (fun x=> .tuple #[.int .i64 (b0R s.fr s.g),.bool x]) (fun _=>gm b bl s.fr (h0M s.g))):=by
 have h:=f2B b bl s.fr s.g a.1 a.2.1;unfold b0R h0M;cases c:s.g.findIdx? (· == 0)with
 |none=>rw[c]at h;exact g0F false trivial rfl rfl h
 |some i=>rw[c]at h;exact g0F true trivial rfl rfl h
theorem q1J (W:World) (a:Ad) (s:St) (b:B) (hb:b.length≤1000000) (m:(e0S b s).1≠ .big):a0G prog 202 #[ptr a.heap,b0C b] (RS W a s) (Ran fT (RS W a) a0H (e0S b s)):=by
 by_cases i:(a0Y s:Int)≤s.keep
 ·rw[show e0S b s=(.err 8,s) by simp[e0S,i]];refine en func202 ntmps202 fun R w0=> ?_;refine e0C gFd fun by_ gv gc o l c=> ?_;simp only[d0B,c0R,List.cons_append,List.nil_append];refine go 7 ?_;refine mx (.r 0 4 (.r 5 4 (.hard 4 (.soft 9 .done)))) [pts a.heap (.cells #[ptr a.disk,ptr a.log,ptr a.gr,.map (some a.refs),.map (some by_),gv,.int .i64 s.keep] 92 (0,0))] ?_;refine cg 9 (w0R a.gr a.grl s.fr s.g) ?_;refine go 5 ?_;refine d0P rfl (decide_eq_true i) ?_;refine go 1 ?_;refine c0A rfl Hb.o rfl (c0M 8) gSp ?_;refine ns ?_;refine pn ?_;refine b0F (c0W l c gSp) (d0U idh (b0A.back gSp) ⟨rfl,rfl⟩)
 ·obtain⟨p,j,k,u⟩:=u2Y m i;have n:=z1I a s.d (b0R s.fr s.g) b hb;rw[u];refine en func202 ntmps202 fun R w0=> ?_;refine e0C gFd fun by_ gv gc o l c=> ?_;have f:=p2Q c;have h: ∀d,o0M (ps s d):=fun d=>⟨c.1,f.1,f.2.1,c.2.2.2⟩;simp only[d0B,c0R,List.cons_append,List.nil_append];cases hd:e0Y s.d (b0R s.fr s.g) b with
  |mk x d=>
  rw[hd]at n;cases x with
  |big=>exact(f2Q _ _ _ _ hd).elim
  |ok x=>
   refine go 7 ?_;refine mx (.r 0 4 (.r 5 4 (.hard 4 (.soft 9 .done)))) [pts a.heap (.cells #[ptr a.disk,ptr a.log,ptr a.gr,.map (some a.refs),.map (some by_),gv,.int .i64 s.keep] 92 (0,0))] ?_;refine cg 9 (w0R a.gr a.grl s.fr s.g) ?_;refine go 5 ?_;refine b0S rfl (decide_eq_false i) ?_;refine ce 8 (k2N a.gr a.grl s c) ?_;rintro v _;refine ns ?_;refine go 8 ?_;refine mx (.r 0 6 (.hard 6 (.hard 7 .done))) [pts a.heap (.cells #[ptr a.disk,ptr a.log,ptr a.gr,.map (some a.refs),.map (some by_),gv,.int .i64 s.keep] 92 (0,0))] ?_;refine ce 7 (q1I a (b0R s.fr s.g)) ?_;rintro⟨b1,b2⟩ _;refine ns ?_;refine go 3 ?_;refine b0X rfl Hb.o rfl (c1P a by_ o s.log s.depth (.give (b0R s.fr s.g)) _ ⟨f.2.2,_,_,rfl,rfl⟩ p) gSp ?_;refine ns ?_;refine go 5 ?_;refine tl 9 ?_;refine go 10 ?_;refine d0Z rfl Hb.o rfl (q0E a by_ _ (pl1 s) s.depth a.refs s.refs (b0R s.fr s.g) 1 (.refs _ _) j (fun _ _ _ _=>⟨_,_,_,_,.inl rfl,rfl⟩)) gSp ?_;rintro q _;refine ns ?_;refine go 3 ?_;refine tl 9 ?_;refine go 10 ?_;refine d0Z rfl Hb.o rfl (q0E a by_ _ (pl2 s) s.depth by_ s.young (b0R s.fr s.g) 1 (.young _ _) k (fun _ _ _ _=>⟨_,_,_,_,.inl rfl,rfl⟩)) gSp ?_;rintro t _;refine ns ?_;refine cg 10 (n.ran_ok) ?_;refine go 8 ?_;refine b0U (c0W (s:=ps s d) l (h d) gSp) (n0M rfl idh rfl rfl gSp)
  |err e=>
   refine go 7 ?_;refine mx (.r 0 4 (.r 5 4 (.hard 4 (.soft 9 .done)))) [pts a.heap (.cells #[ptr a.disk,ptr a.log,ptr a.gr,.map (some a.refs),.map (some by_),gv,.int .i64 s.keep] 92 (0,0))] ?_;refine cg 9 (w0R a.gr a.grl s.fr s.g) ?_;refine go 5 ?_;refine b0S rfl (decide_eq_false i) ?_;refine ce 8 (k2N a.gr a.grl s c) ?_;rintro v _;refine ns ?_;refine go 8 ?_;refine mx (.r 0 6 (.hard 6 (.hard 7 .done))) [pts a.heap (.cells #[ptr a.disk,ptr a.log,ptr a.gr,.map (some a.refs),.map (some by_),gv,.int .i64 s.keep] 92 (0,0))] ?_;refine ce 7 (q1I a (b0R s.fr s.g)) ?_;rintro⟨b1,b2⟩ _;refine ns ?_;refine go 3 ?_;refine b0X rfl Hb.o rfl (c1P a by_ o s.log s.depth (.give (b0R s.fr s.g)) _ ⟨f.2.2,_,_,rfl,rfl⟩ p) gSp ?_;refine ns ?_;refine go 5 ?_;refine tl 9 ?_;refine go 10 ?_;refine d0Z rfl Hb.o rfl (q0E a by_ _ (pl1 s) s.depth a.refs s.refs (b0R s.fr s.g) 1 (.refs _ _) j (fun _ _ _ _=>⟨_,_,_,_,.inl rfl,rfl⟩)) gSp ?_;rintro q _;refine ns ?_;refine go 3 ?_;refine tl 9 ?_;refine go 10 ?_;refine d0Z rfl Hb.o rfl (q0E a by_ _ (pl2 s) s.depth by_ s.young (b0R s.fr s.g) 1 (.young _ _) k (fun _ _ _ _=>⟨_,_,_,_,.inl rfl,rfl⟩)) gSp ?_;rintro t _;refine ns ?_;refine go 10 ?_;refine c0A rfl Hb.o rfl (n) gSp ?_;refine ns ?_;refine pn ?_;refine b0F (c0W (s:=ps s d) l (h d) gSp) (d0U idh (b0A.back gSp) ⟨rfl,rfl⟩)
end Go.Proofs.Q
namespace Go.Proofs.Q
open Go Go.Sl Tryz
instance:Tar prog 266 16 47 1:=⟨kr⟩
instance:Hb prog 193:=⟨kr⟩
instance:Sz prog 266 16:=⟨kr⟩
instance:Zr prog 266 (.agg #[.int .u32 0,.int .u32 0,.int .u32 0,.int .u32 0,.int .u32 0,.int .u32 0,.int .u32 0,.int .u32 0,.int .u32 0,.int .u32 0,.int .u32 0,.int .u32 0,.int .u32 0,.int .u32 0,.int .u32 0,.int .u32 0]):=⟨kr⟩
instance:Ag prog 266 16:=⟨kr⟩
end Go.Proofs.Q
