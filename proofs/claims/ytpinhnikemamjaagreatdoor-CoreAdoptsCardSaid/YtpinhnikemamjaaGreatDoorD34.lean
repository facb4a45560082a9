/- Part of the proof; no statement of its own. -/
import Derived.Test.YtpinhnikemamjaaGreatDoorD24
import Derived.Test.YtpinhnikemamjaaGreatDoorD33
import Derived.Test.YtpinhnikemamjaaGreatDoorD18
import Derived.Test.YtpinhnikemamjaaGreatDoorD19
import Derived.Test.YtpinhnikemamjaaGreatDoorD28
set_option linter.all false
set_option maxRecDepth 4000
set_option maxHeartbeats 4000000
attribute [local irreducible] Go.Sl.a0P Go.Sl.OW Go.Sl.CW Go.Sl.OS Go.Sl.OM Go.Sl.OMf Go.Sl.KM
namespace Go.Proofs.Q
open Go.Sl Go.Sb Tryz
theorem c0K {H:b0B} {c:Rx} (a:c0Z H c): ∀u∈a0J c,u.oneCell'=true:=fun u hu=>by
 simp only[a0J,List.mem_cons,List.not_mem_nil,or_false]at hu;rcases hu with rfl|rfl|rfl|rfl
 ·exact a.vols.one
 ·rfl
 ·rfl
 ·rfl
theorem p0Q {H:b0B} {c:Rx} {id:Int} {i:Nat} (a:c0Z H c) (h:c0Q (er c).l id=some i):a0G prog 101 #[e0W c,.int .i64 id] [c0B H] (a0T (.int .i64 (i:Int)) [c0B H]):=by
 have:=m1T H c id a;unfold e1O at this;rw[h]at this;exact this
theorem r0V {H:b0B} {c:Rx} {id:Int} (a:c0Z H c) (h:c0Q (er c).l id=none):a0G prog 101 #[e0W c,.int .i64 id] [c0B H] (a0T (.int .i64 (-1)) [c0B H]):=by
 have:=m1T H c id a;unfold e1O at this;rw[h]at this;exact this
theorem n0Q {c:Rx} {i:Nat} (h:i<c.l.length):(er c).l.getD i v0=c.l[i].v:=by
 rw[List.getD_eq_getElem?_getD,List.getElem?_eq_getElem (by simpa [er] using h)];simp[er]
theorem r2U (H:b0B) (s:Int):n0K H {v:= {v0 with size:=s},mv:= .slice none 0 0} :=⟨l1D H _ 2,p1Y⟩
theorem x1I (H:b0B) (c:Rx) (size:Int) (b:c0Z H c) (g:0≤c.next∧c.next<1000000000):a0G prog 42 #[e0W c,.int .i64 size] [c0B H]
 (b0P (y0R H (e0R (er c) size).1) (r2T (e0R (er c) size).2.2 (e0R (er c) size).2.1) (fun x=> [c0B x.1])):=by
 have a:=c0K b;by_cases hb:size<1∨2048<size
 ·rw[show e0R (er c) size=(er c,0,4) by unfold e0R;rw[if_pos hb]];refine en func42 ntmps42 fun R w0=> ?_
  try simp only[e0W,a0J]
  refine go 2 ?_;refine bx fun d=> ?_;refine al fun e=> ?_;refine go 6 ?_;by_cases f:size<1
  ·refine go 12 ?_;refine a0D (a0K (v:= #[c.lv,.int .i64 c.next,.int .i64 c.bits,.int .i64 c.epoch]) Ag.o rfl (by simp[Value.cells]) (a0I (by simp[Value.cells]))) ?_;refine a0M Sz.o rfl rfl rfl (fun u hu=>a u (by simpa [a0J] using hu)) (by simp[Value.cells,a0J,a0S]) (a0N (by simp[Value.cells,a0J,a0S])) ?_;refine go 4 ?_;exact c0T (x:=((H,c):b0B×Rx)) (g0W b) idh (RV.agg Ag.o rfl (by simp[a0J]) (by rfl) (RV.tmp rfl (RV.tmp rfl RV.nil))) rfl gSp
  ·refine go 9 ?_;refine d0P rfl (by simpa using (by omega:2048<size)) ?_;refine go 2 ?_;refine a0D (a0K (v:= #[c.lv,.int .i64 c.next,.int .i64 c.bits,.int .i64 c.epoch]) Ag.o rfl (by simp[Value.cells]) (a0I (by simp[Value.cells]))) ?_;refine a0M Sz.o rfl rfl rfl (fun u hu=>a u (by simpa [a0J] using hu)) (by simp[Value.cells,a0J,a0S]) (a0N (by simp[Value.cells,a0J,a0S])) ?_;refine go 4 ?_;exact c0T (x:=((H,c):b0B×Rx)) (g0W b) idh (RV.agg Ag.o rfl (by simp[a0J]) (by rfl) (RV.tmp rfl (RV.tmp rfl RV.nil))) rfl gSp
 ·rw[show e0R (er c) size=g0M (er c) {v0 with size:=size} by unfold e0R;rw[if_neg hb]];refine en func42 ntmps42 fun R w0=> ?_
  try simp only[e0W,a0J]
  refine go 2 ?_;refine bx fun d=> ?_;refine al fun e=> ?_;refine go 15 ?_;refine b0S rfl (by simpa using (by omega: ¬2048<size)) ?_;refine go 4 ?_;refine a0D (a0K (v:= #[c.lv,.int .i64 c.next,.int .i64 c.bits,.int .i64 c.epoch]) Ag.o rfl (by simp[Value.cells]) (a0I (by simp[Value.cells]))) ?_;refine ce 2 (r1M H c {v:= {v0 with size:=size},mv:= .slice none 0 0} b (r2U H size) g) ?_;rintro⟨H',c'⟩ ⟨hs',hc',hr'⟩;refine ns ?_;refine go 3 ?_;refine a0M Sz.o rfl rfl rfl (fun u hu=>c0K hc' u (by simpa using hu)) (by simp[Value.cells,a0J,a0S]) (a0N (by simp[Value.cells,a0J,a0S])) ?_;refine go 4 ?_;exact c0T (x:=((H',c'):b0B×Rx)) ⟨hs',hc',hr'⟩ idh (RV.agg Ag.o rfl (by simp[a0J]) (by rfl) (RV.tmp rfl (RV.tmp rfl RV.nil))) rfl gSp
theorem n1A (H:b0B) (c:Rx) (id:Int) (only:Bool) (d:c0Z H c) (I:0≤c.next∧c.next<1000000000):a0G prog 45 #[e0W c,.int .i64 id,.bool only] [c0B H]
 (b0P (y0R H (i0P (er c) id only).1) (r2T (i0P (er c) id only).2.2 (i0P (er c) id only).2.1) (fun x=> [c0B x.1])):=by
 have r:=c0K d;obtain⟨p,cap,k,z⟩:=d0W d.vols;have f:=d.vols;rw[k]at f;have A:=d.few;cases j:c0Q (er c).l id with
 |none=>
  rw[show i0P (er c) id only=(er c,0,5) by unfold i0P;rw[j]];refine en func45 ntmps45 fun R w0=> ?_
  try simp only[e0W,a0J]
  refine go 2 ?_;refine bx fun D=> ?_;refine al fun E=> ?_;refine go 6 ?_;refine a0D (a0K (v:= #[c.lv,.int .i64 c.next,.int .i64 c.bits,.int .i64 c.epoch]) Ag.o rfl (by simp[Value.cells]) (a0I (by simp[Value.cells]))) ?_;refine cg 1 (r0V d j) ?_;refine go 13 ?_;refine a0D (a0K (v:= #[c.lv,.int .i64 c.next,.int .i64 c.bits,.int .i64 c.epoch]) Ag.o rfl (by simp[Value.cells]) (a0I (by simp[Value.cells]))) ?_;refine a0M Sz.o rfl rfl rfl (fun u hu=>r u (by simpa [a0J] using hu)) (by simp[Value.cells,a0J,a0S]) (a0N (by simp[Value.cells,a0J,a0S])) ?_;refine go 4 ?_;exact c0T (x:=((H,c):b0B×Rx)) (g0W d) idh (RV.agg Ag.o rfl (by simp[a0J]) (by rfl) (RV.tmp rfl (RV.tmp rfl RV.nil))) rfl gSp
 |some i=>
  have e:i<c.l.length:=by have:=u0X j;simpa [er] using this
  rw[show i0P (er c) id only=g0M (er c) {v0 with parent:=id,only:=only,size:=c.l[i].v.size,m:=c.l[i].v.m} by unfold i0P;rw[j];simp only[n0Q e]];obtain⟨b,o,y,cur,J,G,n,h,B⟩:=g0V f (by omega);cases J
  have t:(cur.drop (o+i*6)).take 6=a0S c.l[i]:=(i0I h e).trans (n0G c.l e);have g:=d.maps _ (List.getElem_mem e);obtain⟨w,a,q,F⟩:=d0W g.1;have s:n0K H {v:= {v0 with parent:=id,only:=only,size:=c.l[i].v.size,m:=c.l[i].v.m},mv:= .slice w c.l[i].v.m.length a} :=by rw[←q];exact g
  refine en func45 ntmps45 fun R w0=> ?_
  try simp only[e0W,a0J]
  refine go 2 ?_;refine bx fun D=> ?_;refine al fun E=> ?_;refine go 6 ?_;refine a0D (a0K (v:= #[c.lv,.int .i64 c.next,.int .i64 c.bits,.int .i64 c.epoch]) Ag.o rfl (by simp[Value.cells]) (a0I (by simp[Value.cells]))) ?_;refine cg 1 (p0Q d j) ?_;refine go 10 ?_;refine b0S rfl (by simpa using (by omega: ¬((i:Int)<0))) ?_;refine go 5 ?_;refine a0D (b0N (v:= .slice (some ⟨b,o,none⟩) c.l.length cap) Sc.o rfl (by rw[k];rfl)) ?_;refine go 2 ?_;refine a0D (f0A (vs:=a0S c.l[i]) Ag.o rfl gFd n t rfl (by decide)) ?_;refine al fun C=> ?_;refine a0M Sz.o rfl rfl rfl (fun u hu=>r0D g u (by simpa using hu)) (by simp[Value.cells,a0J,a0S]) (a0N (by simp[Value.cells,a0J,a0S])) ?_;refine go 4 ?_;refine a0D (a0K (v:= #[c.lv,.int .i64 c.next,.int .i64 c.bits,.int .i64 c.epoch]) Ag.o rfl (by simp[Value.cells]) (a0I (by simp[Value.cells]))) ?_;refine go 5 ?_;refine a0D (b0N (v:= .slice w c.l[i].v.m.length a) Sc.o rfl (by rw[←q];rfl)) ?_;refine ce 1 (r1M H c {v:= {v0 with parent:=id,only:=only,size:=c.l[i].v.size,m:=c.l[i].v.m},mv:= .slice w c.l[i].v.m.length a} d s I) ?_;rintro⟨H',c'⟩ ⟨hs',hc',hr'⟩;refine ns ?_;refine go 3 ?_;refine a0M Sz.o rfl rfl rfl (fun u hu=>c0K hc' u (by simpa using hu)) (by simp[Value.cells,a0J,a0S]) (a0N (by simp[Value.cells,a0J,a0S])) ?_;refine go 4 ?_;exact c0T (x:=((H',c'):b0B×Rx)) ⟨hs',hc',hr'⟩ idh (RV.agg Ag.o rfl (by simp[a0J]) (by rfl) (RV.tmp rfl (RV.tmp rfl RV.nil))) rfl gSp
theorem n2A {H:b0B} {e:TypeId} {size n k:Nat} {p:Option Addr} {cap:Nat} {xs:List Value} (h:i0V H e size (.slice p n cap) n xs) (l:k≤n):i0V H e size (.slice p k cap) k (xs.take (k*size)):=by
 obtain⟨d,f⟩:=h;have m:k*size≤n*size:=Nat.mul_le_mul_right _ l;refine⟨by rw[List.length_take,d];omega,?_⟩;rcases f with ⟨a,g⟩| ⟨b,o,c,cur,a,g,i,j⟩
 ·left;cases a
  obtain rfl:k=0:=by omega
  exact⟨rfl,rfl⟩
 ·right;cases a
  exact⟨b,o,cap,cur,rfl,by omega,i,by rw[←j,List.take_take,Nat.min_eq_left m]⟩
theorem a2H {H:b0B} {e:TypeId} {size n k:Nat} {p:Option Addr} {cap:Nat} {xs:List Value} (h:i0V H e size (.slice p n cap) n xs) (s:k≤n) (r:0<n):i0V H e size (.slice (b1L p k cap size) (n-k) (cap-k)) (n-k) (xs.drop (k*size)):=by
 obtain⟨c,j⟩:=h;have i:n*size-k*size=(n-k)*size:=by rw[Nat.sub_mul]
 refine⟨by rw[List.length_drop,c,i],?_⟩;rcases j with ⟨d,l⟩| ⟨b,o,a,cur,d,l,f,m⟩
 ·omega
 ·right;cases d
  unfold b1L;by_cases g:cap=k
  ·rw[if_pos g];have q:n-k=0:=by omega
   refine⟨b,o,cap-k,cur,rfl,by omega,f,?_⟩;rw[q,Nat.zero_mul,List.take_zero,List.drop_eq_nil_of_le];rw[c];exact Nat.mul_le_mul_right _ (by omega)
  ·rw[if_neg g];refine⟨b,o+k*size,cap-k,cur,by rw[Option.map_some,j0C],by omega,f,?_⟩;rw[←m,List.drop_take,List.drop_drop,i]
theorem n1B {α:Type} {f:α→List Value} {size:Nat} (a: ∀x,(f x).length=size): ∀(l:List α) (i:Nat),i≤l.length→(l.flatMap f).take (i*size)=(l.take i).flatMap f
 |l,0,_=>by simp
 | [],i+1,h=>by simp at h
 |x::l,i+1,h=>by
  rw[List.flatMap_cons,show(i+1)*size=(f x).length+i*size by rw[a,Nat.succ_mul];omega,List.take_length_add_append,List.take_succ_cons,List.flatMap_cons,n1B a l i (by simpa using h)]
theorem g1B {α:Type} {f:α→List Value} {size:Nat} (a: ∀x,(f x).length=size): ∀(l:List α) (i:Nat),i≤l.length→(l.flatMap f).drop (i*size)=(l.drop i).flatMap f
 |l,0,_=>by simp
 | [],i+1,h=>by simp at h
 |x::l,i+1,h=>by
  rw[List.flatMap_cons,show(i+1)*size=(f x).length+i*size by rw[a,Nat.succ_mul];omega,List.drop_length_add_append,List.drop_succ_cons,g1B a l i (by simpa using h)]
theorem z2A {c:Rx} {i:Nat} {lv:Value} :er {c with lv:=lv,l:=c.l.take i++c.l.drop (i+1)} = {er c with l:=(er c).l.eraseIdx i} :=by
 unfold er;simp only[List.eraseIdx_eq_take_drop_succ,List.map_append,List.map_take,List.map_drop]
theorem x1J (H:b0B) (c:Rx) (id:Int) (b:c0Z H c):a0G prog 75 #[e0W c,.int .i64 id] [c0B H]
 (b0P (y0R H (g0R (er c) id).1) (p1I (g0R (er c) id).2) (fun x=> [c0B x.1])):=by
 have k:=c0K b;obtain⟨p,cap,f,s⟩:=d0W b.vols;have a:=b.vols;rw[f]at a;have t:=b.few;cases j:c0Q (er c).l id with
 |none=>
  rw[show g0R (er c) id=(er c,5) by unfold g0R;rw[j]];refine en func75 ntmps75 fun R w0=> ?_
  try simp only[e0W,a0J]
  refine go 2 ?_;refine bx fun D=> ?_;refine al fun E=> ?_;refine go 5 ?_;refine a0D (a0K (v:= #[c.lv,.int .i64 c.next,.int .i64 c.bits,.int .i64 c.epoch]) Ag.o rfl (by simp[Value.cells]) (a0I (by simp[Value.cells]))) ?_;refine cg 1 (r0V b j) ?_;refine go 13 ?_;refine a0D (a0K (v:= #[c.lv,.int .i64 c.next,.int .i64 c.bits,.int .i64 c.epoch]) Ag.o rfl (by simp[Value.cells]) (a0I (by simp[Value.cells]))) ?_;refine a0M Sz.o rfl rfl rfl (fun u hu=>k u (by simpa [a0J] using hu)) (by simp[Value.cells,a0J,a0S]) (a0N (by simp[Value.cells,a0J,a0S])) ?_;refine go 3 ?_;exact c0T (x:=((H,c):b0B×Rx)) (g0W b) idh (RV.agg Ag.o rfl (by simp[a0J]) (by rfl) (RV.tmp rfl RV.nil)) rfl gSp
 |some i=>
  have F:i<c.l.length:=by have:=u0X j;simpa [er] using this
  rw[show g0R (er c) id=({er c with l:=(er c).l.eraseIdx i},0) by unfold g0R;rw[j]];have q:i0V H 42 6 (.slice p i cap) i ((c.l.take i).flatMap a0S):=by rw[←n1B u0W c.l i (by omega)];exact n2A a (by omega)
  have e:i0V H 42 6 (.slice (b1L p (i+1) cap 6) (c.l.length- (i+1)) (cap- (i+1))) (c.l.length- (i+1)) ((c.l.drop (i+1)).flatMap a0S):=by rw[←g1B u0W c.l (i+1) (by omega)];exact a2H a (by omega) (by omega)
  have z:i+(c.l.length- (i+1))=(c.l.take i++c.l.drop (i+1)).length:=by rw[List.length_append,List.length_take,List.length_drop];omega
  refine en func75 ntmps75 fun R w0=> ?_
  try simp only[e0W,a0J]
  refine go 2 ?_;refine bx fun D=> ?_;refine al fun E=> ?_;refine go 5 ?_;refine a0D (a0K (v:= #[c.lv,.int .i64 c.next,.int .i64 c.bits,.int .i64 c.epoch]) Ag.o rfl (by simp[Value.cells]) (a0I (by simp[Value.cells]))) ?_;refine cg 1 (p0Q b j) ?_;refine go 10 ?_;refine b0S rfl (by simpa using (by omega: ¬((i:Int)<0))) ?_;refine go 4 ?_;refine bl fun C=> ?_;refine e0X (fun w h=>o0K 6 h) ?_;refine go 1 ?_;refine a0D (b0N (v:= .slice p c.l.length cap) Sc.o rfl (by rw[f];rfl)) ?_;refine go 1 ?_;refine a0D (i1Q Tsl.o rfl rfl (by omega)) ?_;refine(d0E (news:=(c.l.take i).flatMap a0S) Tsl.o Ttb.o Zr.o rfl rfl rfl gFd (b1S Tsl.o q gFd (x0N fun x m=>b.maps x (List.mem_of_mem_take m))) (by simp only[maxLen];omega) (by omega) (fun G A=> ?_));refine go 7 ?_;refine a0D (b0N (v:= .slice p c.l.length cap) Sc.o rfl (by rw[f];rfl)) ?_;refine go 2 ?_;refine a0D (s1U Tsl.o rfl rfl (by omega) (by omega)) ?_;refine(d0E (news:=(c.l.drop (i+1)).flatMap a0S) Tsl.o Ttb.o Zr.o rfl rfl rfl gFd (b1S Tsl.o e gFd (x0N fun x m=>b.maps x (List.mem_of_mem_drop m))) (by simp only[maxLen];omega) (by omega) (fun d B=> ?_));refine go 5 ?_;rw[List.nil_append,←List.flatMap_append,show 0+((i:Nat):Int).toNat+(c.l.length- (((i:Nat):Int)+1).toNat)=(c.l.take i++c.l.drop (i+1)).length by omega];refine t0J (show Fnd _ (b0I 42 6 d (c.l.take i++c.l.drop (i+1)).length ((c.l.take i++c.l.drop (i+1)).flatMap a0S)) _ from gFd) (show Fnd _ (c0B H) _ from gFd) fun r y n=> ?_;have g:c0Z r {c with lv:=d,l:=c.l.take i++c.l.drop (i+1)} :=⟨n,fun x m=>(b.maps x (by rcases List.mem_append.1 m with h|h;{exact List.mem_of_mem_take h};{exact List.mem_of_mem_drop h})).more y,by(show(c.l.take i++c.l.drop (i+1)).length≤1000);omega⟩;refine go 1 ?_;refine a0D (a0K (v:= #[d,.int .i64 c.next,.int .i64 c.bits,.int .i64 c.epoch]) Ag.o rfl (by simp[Value.cells]) (a0I (by simp[Value.cells]))) ?_;refine a0M Sz.o rfl rfl rfl (fun u hu=>c0K g u (by simpa [a0J] using hu)) (by simp[Value.cells,a0J,a0S]) (a0N (by simp[Value.cells,a0J,a0S])) ?_;refine go 3 ?_;exact c0T (x:=((r,{c with lv:=d,l:=c.l.take i++c.l.drop (i+1)}):b0B×Rx)) ⟨y,g,z2A⟩ idh (RV.agg Ag.o rfl (by simp[a0J]) (by rfl) (RV.tmp rfl RV.nil)) rfl gSp
theorem z0N (v:Vx) (at_ n:Int) (e:0≤v.v.size∧v.v.size≤2048):a0G prog 102 #[a1G v,.int .i64 at_,.int .i64 n] [] (a0T (.bool (m0Q v.v at_ n)) []):=by
 refine en func102 ntmps102 fun R w0=> ?_
 try simp only[a1G,a0S]
 refine go 2 ?_;refine bx fun d=> ?_;refine go 4 ?_;by_cases a:at_<0
 ·refine go 24 ?_;exact rG (hu:=(by rw[show m0Q v.v at_ n=true from decide_eq_true (.inl a)]))
 ·by_cases b:n<0
  ·refine go 24 ?_;exact rG (hu:=(by rw[show m0Q v.v at_ n=true from decide_eq_true (.inr (.inl b))]))
  ·by_cases c:v.v.size<at_
   ·refine go 24 ?_;exact rG (hu:=(by rw[show m0Q v.v at_ n=true from decide_eq_true (.inr (.inr (.inl c)))]))
   ·refine go 24 ?_;exact rG (hu:=(by rw[show m0Q v.v at_ n=decide (v.v.size-at_<n)from decide_eq_decide.2 ⟨fun h=>by omega,fun h=>by omega⟩]))
theorem n1C {m:List Lf} (a:m0R m) (at_:Nat): ∀k,(k0X m at_ k).length=k*64
 |0=>rfl
 |k+1=>by
  rw[k0X,List.length_append,n1C a at_ k,List.length_take,List.length_drop,a.get_len];omega
theorem r1Z (H:b0B) (v:Vx) (at_ n:Nat) (b:n0K H v) (l:at_+n≤4096):a0G prog 103 #[a1G v,.int .i64 at_,.int .i64 n] [c0B H] (a0T (b0C (k0X v.v.m at_ n)) [c0B H]):=by
 obtain⟨p,g,j,h⟩:=d0W b.1;have i:=b.2.len;refine en func103 ntmps103 fun R w0=> ?_
 try simp only[a1G,a0S]
 refine go 2 ?_;refine bx fun f=> ?_;refine go 16 ?_;refine a0V (X:= {k:Nat // k≤n}) (fun y=> [(1,.int .i64 at_),(2,.int .i64 n),(3,.pointer (some ⟨f,0,none⟩)),(7,b0C (k0X v.v.m at_ y.1)),(8,.int .i64 ((at_+y.1:Nat):Int))]) (fun y=> [pts f (.cells #[.int .i64 v.v.id,.int .i64 v.v.parent,.bool v.v.only,.int .i64 v.v.size,.int .i64 v.v.born,v.mv] 42 (0,0)),c0B H,R]) (fun y=>n-y.1) ⟨0,Nat.zero_le _⟩ gSu gSp ?_;rintro⟨k,hk⟩ m0 hm0
 try simp only at hm0
 try dsimp only
 skip;refine go 10 ?_;refine a0O rfl (fun a=> ?_) (fun a=> ?_)
 ·have d:k<n:=by have:=of_decide_eq_true a;omega
  have c:=b.2.get_len (((at_+k)/4:Nat):Int);have e:=n1C b.2 at_ k;refine go 10 ?_;rw[show((at_+k:Nat):Int)/4=(((at_+k)/4:Nat):Int) by omega];refine cg 0 (i1E H v.mv v.v.m (((at_+k)/4:Nat):Int) b.1 (by omega)) ?_;refine go 7 ?_;refine a0D (g1F (lo:=(((at_+k)%4*64:Nat):Int)) (hi:=(((at_+k)%4*64+64:Nat):Int)) Tst.o rfl (by(show some _=some _);congr 2<;>omega) (by(show some _=some _);congr 2<;>omega) (by rw[b0H,c];omega)) ?_;rw[l1V,show((((at_+k)%4*64+64:Nat):Int)).toNat=(at_+k)%4*64+64 from rfl,show((((at_+k)%4*64:Nat):Int)).toNat=(at_+k)%4*64 from rfl,List.drop_take,show(at_+k)%4*64+64- (at_+k)%4*64=64 by omega];refine a0D (h0N rfl rfl (by rw[b0H,b0H,e,List.length_take];omega)) ?_;rw[←h0U,show k0X v.v.m at_ k++((f0Y ((at_+k)/4:Nat) v.v.m).drop ((at_+k)%4*64)).take 64=k0X v.v.m at_ (k+1)from rfl];refine go 8 ?_;exact rd idh (⟨k+1,d⟩)
 ·obtain rfl:k=n:=by have:=of_decide_eq_false a;omega
  refine go 8 ?_;exact rG
def bytE (e:Int) (b:B):Value:= .tuple #[b0C b,.int .i64 e]
abbrev w0X (P:Rp):Prop:= ∀v∈P.l,0≤v.size∧v.size≤2048
theorem w0X.at_ {c:Rx} (h:w0X (er c)) {i:Nat} (hi:i<c.l.length):0≤c.l[i].v.size∧c.l[i].v.size≤2048:=h _ (by unfold er;exact List.mem_map.2 ⟨_,List.getElem_mem hi,rfl⟩)
theorem k1I {v:Vp} {at_ n:Int} (h:m0Q v at_ n=false):0≤at_∧0≤n∧at_≤v.size∧at_+n≤v.size:=by
 have:=of_decide_eq_false h;omega
theorem n1D (H:b0B) (c:Rx) (id at_ n:Int) (g:c0Z H c) (t:w0X (er c)):a0G prog 46 #[e0W c,.int .i64 id,.int .i64 at_,.int .i64 n] [c0B H]
 (a0T (bytE (m0A (er c) id at_ n).2 (m0A (er c) id at_ n).1) [c0B H]):=by
 obtain⟨p,cap,e,y⟩:=d0W g.vols;have f:=g.vols;rw[e]at f;have z:=g.few;cases k:c0Q (er c).l id with
 |none=>
  rw[show m0A (er c) id at_ n=([],5) by unfold m0A;rw[k]];refine en func46 ntmps46 fun R w0=> ?_
  try simp only[e0W,a0J]
  refine go 2 ?_;refine bx fun w=> ?_;refine go 6 ?_;refine a0D (a0K (v:= #[c.lv,.int .i64 c.next,.int .i64 c.bits,.int .i64 c.epoch]) Ag.o rfl (by simp[Value.cells]) (a0I (by simp[Value.cells]))) ?_;refine cg 1 (r0V g k) ?_;refine go 17 ?_;exact rG
 |some i=>
  have a:i<c.l.length:=by have:=u0X k;simpa [er] using this
  obtain⟨b,o,x,cur,C,B,d,q,A⟩:=g0V f (by omega);cases C
  have j:(cur.drop (o+i*6)).take 6=a0S c.l[i]:=(i0I q a).trans (n0G c.l a);have u:=g.maps _ (List.getElem_mem a);have s:=t.at_ a;by_cases hb:m0Q c.l[i].v at_ n=true
  ·rw[show m0A (er c) id at_ n=([],6) by unfold m0A;rw[k];simp only[n0Q a,hb,if_true]];refine en func46 ntmps46 fun R w0=> ?_
   try simp only[e0W,a0J]
   refine go 2 ?_;refine bx fun w=> ?_;refine go 6 ?_;refine a0D (a0K (v:= #[c.lv,.int .i64 c.next,.int .i64 c.bits,.int .i64 c.epoch]) Ag.o rfl (by simp[Value.cells]) (a0I (by simp[Value.cells]))) ?_;refine cg 1 (p0Q g k) ?_;refine go 10 ?_;refine b0S rfl (by simpa using (by omega: ¬((i:Int)<0))) ?_;refine go 6 ?_;refine a0D (b0N (v:= .slice (some ⟨b,o,none⟩) c.l.length cap) Sc.o rfl (by rw[e];rfl)) ?_;refine go 2 ?_;refine a0D (f0A (vs:=a0S c.l[i]) Ag.o rfl gFd d j rfl (by decide)) ?_;refine cg 2 (z0N c.l[i] at_ n s) ?_;refine go 9 ?_;exact rG
  ·replace hb:m0Q c.l[i].v at_ n=false:=by simpa using hb
   have r:=k1I hb;rw[show m0A (er c) id at_ n=(k0X c.l[i].v.m at_.toNat n.toNat,0) by unfold m0A;rw[k];simp only[n0Q a,hb,if_false];rfl];refine en func46 ntmps46 fun R w0=> ?_
   try simp only[e0W,a0J]
   refine go 2 ?_;refine bx fun w=> ?_;refine go 6 ?_;refine a0D (a0K (v:= #[c.lv,.int .i64 c.next,.int .i64 c.bits,.int .i64 c.epoch]) Ag.o rfl (by simp[Value.cells]) (a0I (by simp[Value.cells]))) ?_;refine cg 1 (p0Q g k) ?_;refine go 10 ?_;refine b0S rfl (by simpa using (by omega: ¬((i:Int)<0))) ?_;refine go 6 ?_;refine a0D (b0N (v:= .slice (some ⟨b,o,none⟩) c.l.length cap) Sc.o rfl (by rw[e];rfl)) ?_;refine go 2 ?_;refine a0D (f0A (vs:=a0S c.l[i]) Ag.o rfl gFd d j rfl (by decide)) ?_;refine cg 2 (z0N c.l[i] at_ n s) ?_;refine go 8 ?_;refine a0D (b0N (v:= .slice (some ⟨b,o,none⟩) c.l.length cap) Sc.o rfl (by rw[e];rfl)) ?_;refine go 2 ?_;refine a0D (f0A (vs:=a0S c.l[i]) Ag.o rfl gFd d j rfl (by decide)) ?_;refine cg 2 ((by have h:=r1Z H c.l[i] at_.toNat n.toNat u (by omega);rw[Int.toNat_of_nonneg r.1,Int.toNat_of_nonneg r.2.1]at h;exact h)) ?_;refine go 4 ?_;exact rG
abbrev cl1 (bits:Nat) (data:B) (x:Lf):Bool:=decide (x.2≠data∧key bits (Sha.sum x.2)=key bits (Sha.sum data))
abbrev cl2 (bits:Nat) (data:B) (v:Vx):Bool:=v.v.m.any (cl1 bits data)
theorem n2B (c:Rx) (data:B):p0T (er c) data=c.l.any (cl2 c.bits data):=by
 unfold p0T er cl2;simp only[List.any_map];rfl
theorem k1J {α:Type} {p:α→Bool} {l:List α} {i:Nat} (h:i<l.length) (b:(l.take i).any p=false) (a:p l[i]=false):(l.take (i+1)).any p=false:=by
 rw[List.take_succ,List.getElem?_eq_getElem h,List.any_append,b];simp[a]
theorem d2E {α:Type} {p:α→Bool} {l:List α} {i:Nat} (h:i<l.length) (a:p l[i]=true):l.any p=true:=List.any_eq_true.2 ⟨_,List.getElem_mem h,a⟩
theorem i1H (H:b0B) (c:Rx) (data:B) (J:c0Z H c) (hd:data.length≤100000) (q:c.bits≤256):a0G prog 174 #[e0W c,b0C data] [c0B H] (a0T (.bool (p0T (er c) data)) [c0B H]):=by
 rw[n2B];obtain⟨p,cap,D,Q⟩:=d0W J.vols;have t:=J.vols;rw[D]at t;have T:=J.few;refine en func174 ntmps174 fun R w0=> ?_
 try simp only[e0W,a0J]
 refine go 2 ?_;refine bx fun b2=> ?_;refine go 8 ?_;refine al fun I=> ?_;refine a0M (vs:= #[.slice none 0 0,.int .i64 c.bits]) Sz.o rfl rfl rfl (by simp[Value.oneCell']) (by simp[Value.cells]) (a0N (by simp[Value.cells])) ?_;refine go 4 ?_;refine a0D (a0K (v:= #[.slice none 0 0,.int .i64 c.bits]) Ag.o rfl (by simp[Value.cells]) (a0I (by simp[Value.cells]))) ?_;refine cg 1 (m1S data c.bits hd q) ?_;refine go 7 ?_;refine a0D (b0N (v:= .slice p c.l.length cap) Sc.o rfl (by rw[D];rfl)) ?_;refine go 5 ?_;refine a0V (X:= {i:Nat // i≤c.l.length∧(c.l.take i).any (cl2 c.bits data)=false}) (fun y=> [(1,b0C data),(5,.pointer (some ⟨I,0,none⟩)),(6,b0C (key c.bits (Sha.sum data))),(18,.slice p c.l.length cap),(19,.int .i64 c.l.length),(20,.int .i64 y.1)]) (fun y=> [pts I (.cells #[.slice none 0 0,.int .i64 c.bits] 277 (0,0)),c0B H,R]) (fun y=>c.l.length-y.1) ⟨0,Nat.zero_le _,rfl⟩ gSu gSp ?_;rintro⟨i,hi,hz⟩ m0 hm0
 try simp only at hm0
 try dsimp only
 skip;refine go 6 ?_;refine a0O rfl (fun g=> ?_) (fun g=> ?_)
 ·have e:i<c.l.length:=by have:=of_decide_eq_true g;omega
  obtain⟨b,o,P,cur,hv,Z,E,C,U⟩:=g0V t (by omega);cases hv
  have L:(cur.drop (o+i*6)).take 6=a0S c.l[i]:=(i0I C e).trans (n0G c.l e);have r:=J.maps _ (List.getElem_mem e);obtain⟨V,s,F,Y⟩:=d0W r.1;have G:=r.1;rw[F]at G;have hml:=r.2.len;refine go 7 ?_;refine a0D (f0A (vs:=a0S c.l[i]) Ag.o rfl gFd E L rfl (by decide)) ?_;refine al fun b8=> ?_;refine a0M Sz.o rfl rfl rfl (fun u hu=>r0D r u (by simpa using hu)) (by simp[Value.cells,a0J,a0S]) (a0N (by simp[Value.cells,a0J,a0S])) ?_;refine go 5 ?_;refine a0D (b0N (v:= .slice V c.l[i].v.m.length s) Sc.o rfl (by rw[←F];rfl)) ?_;refine go 5 ?_;refine a0V (X:= {j:Nat // j≤c.l[i].v.m.length∧(c.l[i].v.m.take j).any (cl1 c.bits data)=false}) (fun y=> [(1,b0C data),(5,.pointer (some ⟨I,0,none⟩)),(6,b0C (key c.bits (Sha.sum data))),(18,.slice (some ⟨b,o,none⟩) c.l.length cap),(19,.int .i64 c.l.length),(20,.int .i64 i),(25,.slice V c.l[i].v.m.length s),(26,.int .i64 c.l[i].v.m.length),(27,.int .i64 y.1)]) (fun y=> [pts I (.cells #[.slice none 0 0,.int .i64 c.bits] 277 (0,0)),c0B H,R]) (fun y=>c.l[i].v.m.length-y.1) ⟨0,Nat.zero_le _,rfl⟩ gSu gSp ?_;rintro⟨j,hj,hy⟩ m2 hm2
  try simp only at hm2
  try dsimp only
  skip;refine go 6 ?_;refine a0O rfl (fun k=> ?_) (fun k=> ?_)
  ·have d:j<c.l[i].v.m.length:=by have:=of_decide_eq_true k;omega
   obtain⟨bm,om,K,z,O,S,x,w,N⟩:=g0V G (by omega);cases O
   have A:(z.drop (om+j*2)).take 2=lfC c.l[i].v.m[j]:=(i0I w d).trans (p0J (f:=lfC) (size:=2) (fun _=>rfl) c.l[i].v.m d);have hll:c.l[i].v.m[j].2.length=256:=(r.2.in_ _ (List.getElem_mem d)).2.2;refine go 7 ?_;refine a0D (f0A (vs:=lfC c.l[i].v.m[j]) Ag.o rfl gFd x A rfl (by decide)) ?_;refine al fun W=> ?_;refine go 4 ?_;by_cases a:c.l[i].v.m[j].2=data
   ·refine go 4 ?_;refine a0D (i0M rfl rfl) ?_;refine go 1 ?_;refine c0D rfl (wg rfl rfl rfl (wTF (by simpa using a))) ?_;refine c0D rfl (wg rfl rfl rfl (wTF (by simpa using a))) ?_;refine c0D rfl (wg rfl rfl rfl (wTF (by simpa using a))) ?_;refine c0D rfl (wg rfl rfl rfl (wTF (by simpa using a))) ?_;refine c0D rfl (wg rfl rfl rfl (wTF (by simpa using a))) ?_;refine c0D rfl (wg rfl rfl rfl (wTF (by simpa using a))) ?_;refine a0D (h0H rfl (by simpa using a) rfl) ?_;refine go 9 ?_;exact rd idh (⟨j+1,d,k1J d hy (decide_eq_false fun h=>h.1 a)⟩)
   ·refine go 4 ?_;refine a0D (i0M rfl rfl) ?_;refine go 1 ?_;refine b0Z (a0K (v:= #[.slice none 0 0,.int .i64 c.bits]) Ag.o rfl (by simp[Value.cells]) (a0I (by simp[Value.cells]))) (wg rfl rfl rfl (wTT (by simpa using a))) ?_;refine b0Z (k1N Fl.o rfl) (wg rfl rfl rfl (wTT (by simpa using a))) ?_;refine b0Z (b0N Sc.o rfl (by rfl)) (wg rfl rfl rfl (wTT (by simpa using a))) ?_;refine o0V (wg rfl rfl rfl (wTT (by simpa using a))) ?_;refine cg 0 (m1S c.l[i].v.m[j].2 c.bits (by omega) q) ?_;refine b0Z (d0H rfl) (wg rfl rfl rfl (wTT (by simpa using a))) ?_;refine b0Z (s0O rfl rfl) (wg rfl rfl rfl (wTT (by simpa using a))) ?_;refine a0D (h0V rfl (by simpa using a) rfl) ?_;refine go 2 ?_;refine a0O rfl (fun n=> ?_) (fun n=> ?_)
    ·have M:key c.bits (Sha.sum c.l[i].v.m[j].2)=key c.bits (Sha.sum data):=by simpa [c0G] using n
     refine go 5 ?_;exact rG (hu:=(by rw[d2E e (d2E d (decide_eq_true ⟨a,M⟩))]))
    ·have M: ¬key c.bits (Sha.sum c.l[i].v.m[j].2)=key c.bits (Sha.sum data):=by simpa [c0G] using n
     refine go 6 ?_;exact rd idh (⟨j+1,d,k1J d hy (decide_eq_false fun h=>M h.2)⟩)
  ·obtain rfl:j=c.l[i].v.m.length:=by have:=of_decide_eq_false k;omega
   rw[List.take_length]at hy;refine go 6 ?_;exact rd idh (⟨i+1,e,k1J e hz hy⟩)
 ·obtain rfl:i=c.l.length:=by have:=of_decide_eq_false g;omega
  rw[List.take_length]at hz;refine go 7 ?_;exact rG (hu:=(by rw[hz]))
section
attribute [local semireducible] Sl.a0P Sl.OW Sl.CW Sl.OS Sl.OM Sl.OMf Sl.KM
theorem h2K (i k:Nat) (c:Rp) (at_:Nat):d0I i k c at_ []=(c,0):=by cases k<;>simp[d0I]
theorem h2L {i k:Nat} {c:Rp} {at_ f n:Nat} {data b a:B} (hd:data≠ []) (j:b=f0Y (at_/4:Nat) (c.l.getD i v0).m) (e:f=at_%4*64) (g:n=min data.length (256-f)) (d:a=c1C b data f n) (h:a≠b∧a0R a=false∧p0T c a=true):d0I i (k+1) c at_ data=(c,9):=by
 subst g e j d;rw[d0I,if_neg hd];simp only;rw[if_pos h]
theorem a2I {i k:Nat} {c:Rp} {at_ f n:Nat} {data b a:B} (hd:data≠ []) (j:b=f0Y (at_/4:Nat) (c.l.getD i v0).m) (e:f=at_%4*64) (g:n=min data.length (256-f)) (d:a=c1C b data f n) (h: ¬(a≠b∧a0R a=false∧p0T c a=true)):
 d0I i (k+1) c at_ data=d0I i k (d0K c i (k0L (c.l.getD i v0).m (at_/4:Nat) a)) (at_+n/64) (data.drop n):=by
 subst g e j d;rw[d0I,if_neg hd];simp only;rw[if_neg h]
theorem r2V {a data:B} {f n:Nat} (d:a.length=256) (b:f≤256) (c:n=min data.length (256-f)):(c1C a data f n).length=256:=by
 unfold c1C;simp only[List.length_append,List.length_take,List.length_drop];omega
theorem z0F {c:Cx} {env:List (Nat×Value)} {L M:List a0E} {Q:Exit→Act→World→Prop} {ops:Array Oper} {rest:List Oper} {e:TypeId} {size n:Nat} {v:Value} {xs:List Value} (hL:Fnd L (b0I e size v n xs) M) (h:v.oneCell'=true→OW c ops Q rest env L):OW c ops Q rest env L:=fun a w d=>h (by
 obtain⟨_,f⟩:=f0O (hL.sat d.sat);rcases f with ⟨rfl,_⟩| ⟨b,cap,cur,rfl,_⟩<;>rfl) a w d
theorem d2F {c1 c3:Rx} {i:Nat} {m:List Lf} {mv:Value} (hi:i<c1.l.length) (h:er c3= {er c1 with l:=(er c1).l.set i ({v:= {c1.l[i].v with m:=m},mv:=mv} :Vx).v}):er c3=d0K (er c1) i m:=by
 rw[h];unfold d0K;rw[n0Q hi]
structure PS (H:b0B) (i:Nat) (bits:Nat) (n0:Nat) (want:Rp×Int) (x:b0B×Rx×Nat×B×Nat):Prop where
 sub: ∀p∈H,p∈x.1
 core:c0Z x.1 x.2.1
 ix:i<x.2.1.l.length
 hb:x.2.1.bits=bits
 room:x.2.2.1*64+x.2.2.2.1.length≤131072
 whole:x.2.2.2.1.length%64=0
 fuel:x.2.2.2.1.length≤x.2.2.2.2
 run:want=d0I i x.2.2.2.2 (er x.2.1) x.2.2.1 x.2.2.2.1
attribute [local irreducible] Sl.a0P Sl.OW Sl.CW Sl.OS Sl.OM Sl.OMf Sl.KM
theorem v0L (H:b0B) (c:Rx) (i at_ k:Nat) (data:B) (hc:c0Z H c) (hi:i<c.l.length) (hbits:c.bits≤256) (I:at_*64+data.length≤131072) (hw:data.length%64=0) (hk:data.length≤k):
 a0G prog 127 #[e0W c,.int .i64 i,.int .i64 at_,b0C data] [c0B H]
 (b0P (y0R H (d0I i k (er c) at_ data).1) (p1I (d0I i k (er c) at_ data).2) (fun x=> [c0B x.1])):=by
 refine en func127 ntmps127 fun R w0=> ?_
 try simp only[e0W,a0J]
 refine go 2 ?_;refine bx fun W=> ?_;refine al fun Y=> ?_;refine go 5 ?_;refine a0V (X:= {x:b0B×Rx×Nat×B×Nat // PS H i c.bits 0 (d0I i k (er c) at_ data) x}) (fun y=> [(1,.int .i64 i),(2,.int .i64 y.1.2.2.1),(3,b0C y.1.2.2.2.1),(4,.pointer (some ⟨W,0,none⟩)),(8,.pointer (some ⟨Y,0,none⟩)),(9,.int .i64 0)]) (fun y=> [w0F W y.1.2.1,pts Y (.cells #[.slice none 0 0,.int .i64 0,.int .i64 0,.int .i64 0] 34 (0,0)),c0B y.1.1,R]) (fun y=>y.1.2.2.2.1.length) ⟨(H,c,at_,data,k),fun _ h=>h,hc,hi,rfl,I,hw,hk,rfl⟩ gSu gSp ?_;rintro⟨⟨H1,c1,at1,d1,k1⟩,hps⟩ m0 hm0
 try simp only at hm0
 try dsimp only
 obtain⟨w,e,g,L,D,hw1,hk1,t⟩:=hps;dsimp only at w e g L D hw1 hk1 t ⊢;have hds:(bs d1).size=d1.length:=b0H d1;refine go 8 ?_;refine a0O rfl (fun C=> ?_) (fun C=> ?_)
 ·have N:0<d1.length:=by have:=of_decide_eq_true C;omega
  have O:d1≠ []:=by intro h;rw[h]at N;exact absurd N (Nat.lt_irrefl 0)
  obtain⟨U,rfl⟩: ∃U,k1=U+1:=⟨k1-1,by omega⟩;obtain⟨p,cap,P,hcap⟩:=d0W e.vols;have F:=e.vols;rw[P]at F;have hfew:=e.few;obtain⟨b,o,cap',cur,hv,hcp,Q,M,hlen⟩:=g0V F (by omega);cases hv
  have hcu:(cur.drop (o+i*6)).take 6=a0S c1.l[i]:=(i0I M g).trans (n0G c1.l g);have A:=e.maps _ (List.getElem_mem g);have hml:=A.2.len;obtain⟨f,hf⟩: ∃f,f=at1%4*64:=⟨_,rfl⟩;obtain⟨n,hn⟩: ∃n,n=min d1.length (256-f):=⟨_,rfl⟩;obtain⟨d,z⟩: ∃d,d=f0Y (at1/4:Nat) c1.l[i].v.m:=⟨_,rfl⟩;have T:d.length=256:=by rw[z];exact A.2.get_len _
  obtain⟨a,s⟩: ∃a,a=c1C d d1 f n:=⟨_,rfl⟩;have hws:(bs d).size=256:=by rw[b0H,T]
  have hnn:n%64=0∧64≤n∧n≤d1.length∧n≤256-f∧f≤192:=by omega
  have hnl:a.length=256:=by rw[s];exact r2V T (by omega) hn
  refine go 6 ?_;refine a0D (b0N (v:= .slice (some ⟨b,o,none⟩) c1.l.length cap) Sc.o rfl (by exact congrArg some P)) ?_;refine go 2 ?_;refine a0D (f0A (vs:=a0S c1.l[i]) Ag.o rfl gFd Q hcu rfl (by decide)) ?_;refine al fun K=> ?_;refine a0M Sz.o rfl rfl rfl (fun u hu=>r0D A u (by simpa using hu)) (by simp[Value.cells,a0J,a0S]) (a0N (by simp[Value.cells,a0J,a0S])) ?_;refine go 9 ?_;rw[show((at1:Nat):Int)/4=((at1/4:Nat):Int) by omega,show((at1:Nat):Int)%4*64=(f:Int) by omega];refine go 11 ?_;rw[show min ((bs d1).size:Int) (256- (f:Int))=(n:Int) by omega];refine cg 8 (i1E H1 c1.l[i].mv c1.l[i].v.m ((at1/4:Nat):Int) A.1 (by omega)) ?_;rw[←z];refine go 7 ?_;refine b0V (d1W Tst.o rfl rfl (by omega)) ?_;rw[show(bs d).extract 0 ((f:Nat):Int).toNat=bs (d.take f)from a1V d f];refine go 2 ?_;refine b0V (d1W Tst.o rfl rfl (by omega)) ?_;rw[show(bs d1).extract 0 ((n:Nat):Int).toNat=bs (d1.take n)from a1V d1 n];refine b0V (h0N rfl rfl (by rw[b0H,b0H,List.length_take,List.length_take];omega)) ?_;rw[←h0U];refine go 4 ?_;refine b0V (d1V Tst.o rfl rfl (by omega)) ?_;rw[show(bs d).extract (((f:Nat):Int)+((n:Nat):Int)).toNat (bs d).size=bs (d.drop (f+n))from by rw[show(((f:Nat):Int)+((n:Nat):Int)).toNat=f+n by omega];exact x0K d (f+n)];refine b0V (h0N rfl rfl (by rw[b0H,b0H,List.length_append,List.length_take,List.length_take,List.length_drop];omega)) ?_;rw[←h0U,show d.take f++d1.take n++d.drop (f+n)=a from s.symm];refine go 3 ?_;refine j0D (X:= {_x:Unit // ¬(a≠d∧a0R a=false∧p0T (er c1) a=true)}) (fun _=> [(1,.int .i64 i),(2,.int .i64 at1),(3,b0C d1),(4,.pointer (some ⟨W,0,none⟩)),(8,.pointer (some ⟨Y,0,none⟩)),(9,.int .i64 0),(10,.pointer (some ⟨K,0,none⟩)),(11,.int .i64 ((at1/4:Nat):Int)),(13,.int .i64 n),(15,b0C a)]) (fun _=> [w0F W c1,pts Y (.cells #[.slice none 0 0,.int .i64 0,.int .i64 0,.int .i64 0] 34 (0,0)),w1X K c1.l[i],c0B H1,R]) ?_ ?_
  ·refine go 1 ?_;by_cases j:a=d
   ·refine go 3 ?_;refine a0D (i0M rfl rfl) ?_;refine go 1 ?_;refine c0D rfl (wg rfl rfl rfl (wTF (by simpa using j))) ?_;refine c0D rfl (wg rfl rfl rfl (wTF (by simpa using j))) ?_;refine c0D rfl (wg rfl rfl rfl (wTF (by simpa using j))) ?_;refine a0D (h0H rfl (by simpa using j) rfl) ?_;refine go 9 ?_;exact me idh (⟨(),fun h=>h.1 j⟩)
   ·by_cases r:a0R a=true
    ·refine go 3 ?_;refine a0D (i0M rfl rfl) ?_;refine go 1 ?_;refine b0Z (d0H rfl) (wg rfl rfl rfl (wTT (by simpa using j))) ?_;refine o0V (wg rfl rfl rfl (wTT (by simpa using j))) ?_;refine cg 0 (w0U a (by omega)) ?_;refine b0Z (v0A rfl) (wg rfl rfl rfl (wTT (by simpa using j))) ?_;refine a0D (h0V rfl (by simpa using j) rfl) ?_;refine go 1 ?_;refine c0D rfl (wg rfl rfl rfl (wTF (by simpa using r))) ?_;refine c0D rfl (wg rfl rfl rfl (wTF (by simpa using r))) ?_;refine c0D rfl (wg rfl rfl rfl (wTF (by simpa using r))) ?_;refine a0D (h0H rfl (by simpa using r) rfl) ?_;refine go 4 ?_;exact me idh (⟨(),fun h=>by have:=h.2.1;rw[r]at this;cases this⟩)
    ·by_cases Z:p0T (er c1) a=true
     ·refine go 3 ?_;refine a0D (i0M rfl rfl) ?_;refine go 1 ?_;refine b0Z (d0H rfl) (wg rfl rfl rfl (wTT (by simpa using j))) ?_;refine o0V (wg rfl rfl rfl (wTT (by simpa using j))) ?_;refine cg 0 (w0U a (by omega)) ?_;refine b0Z (v0A rfl) (wg rfl rfl rfl (wTT (by simpa using j))) ?_;refine a0D (h0V rfl (by simpa using j) rfl) ?_;refine go 1 ?_;refine b0Z (a0K (v:=(a0J c1).toArray) Ag.o rfl (by simp[Value.cells,a0J]) (a0I (by simp[Value.cells,a0J]))) (wg rfl rfl rfl (wTT (by simpa using r))) ?_;refine b0Z (d0H rfl) (wg rfl rfl rfl (wTT (by simpa using r))) ?_;refine o0V (wg rfl rfl rfl (wTT (by simpa using r))) ?_;refine cg 0 (i1H H1 c1 a e (by omega) (by omega)) ?_;refine a0D (h0V rfl (by simpa using r) rfl) ?_;refine go 4 ?_;rw[t,h2L O (by rw[n0Q g];exact z) hf hn s ⟨j,by simpa using r,Z⟩];refine go 1 ?_;refine a0D (a0K (v:=(a0J c1).toArray) Ag.o rfl (by simp[Value.cells,a0J]) (a0I (by simp[Value.cells,a0J]))) ?_;refine a0M Sz.o rfl rfl rfl (fun u hu=>c0K e u (by simpa using hu)) (by simp[Value.cells,a0J,a0S]) (a0N (by simp[Value.cells,a0J,a0S])) ?_;refine go 3 ?_;exact c0T (x:=((H1,c1):b0B×Rx)) ⟨w,e,rfl⟩ idh (RV.agg Ag.o rfl (by simp[a0J]) (by rfl) (RV.tmp rfl RV.nil)) rfl gSp
     ·refine go 3 ?_;refine a0D (i0M rfl rfl) ?_;refine go 1 ?_;refine b0Z (d0H rfl) (wg rfl rfl rfl (wTT (by simpa using j))) ?_;refine o0V (wg rfl rfl rfl (wTT (by simpa using j))) ?_;refine cg 0 (w0U a (by omega)) ?_;refine b0Z (v0A rfl) (wg rfl rfl rfl (wTT (by simpa using j))) ?_;refine a0D (h0V rfl (by simpa using j) rfl) ?_;refine go 1 ?_;refine b0Z (a0K (v:=(a0J c1).toArray) Ag.o rfl (by simp[Value.cells,a0J]) (a0I (by simp[Value.cells,a0J]))) (wg rfl rfl rfl (wTT (by simpa using r))) ?_;refine b0Z (d0H rfl) (wg rfl rfl rfl (wTT (by simpa using r))) ?_;refine o0V (wg rfl rfl rfl (wTT (by simpa using r))) ?_;refine cg 0 (i1H H1 c1 a e (by omega) (by omega)) ?_;refine a0D (h0V rfl (by simpa using r) rfl) ?_;refine go 2 ?_;refine b0S rfl (by simpa using Z) ?_;refine go 1 ?_;exact me idh (⟨(),fun h=>Z h.2.2⟩)
  rintro⟨_,hgo⟩;refine ce 6 (z1Z H1 c1.l[i].mv c1.l[i].v.m ((at1/4:Nat):Int) a A.1 (by omega) (by omega)) ?_;rintro E _;refine ns ?_;refine z0F (show Fnd _ (u0C E (k0L c1.l[i].v.m ((at1/4:Nat):Int) a)) _ from gFd) fun hv69=> ?_;refine go 5 ?_;refine t0J (show Fnd _ (u0C E (k0L c1.l[i].v.m ((at1/4:Nat):Int) a)) _ from gFd) (show Fnd _ (c0B H1) _ from gFd) fun H2 S hr2=> ?_;obtain⟨V,J⟩: ∃V:Vx,V= {v:= {c1.l[i].v with m:=k0L c1.l[i].v.m ((at1/4:Nat):Int) a},mv:=E} :=⟨_,rfl⟩;have hm2:n0K H2 V:=by rw[J];exact⟨hr2,A.2.put ⟨by omega,by omega⟩ hnl⟩
  refine go 1 ?_;refine a0D (a0K (v:=(a0J c1).toArray) Ag.o rfl (by simp[Value.cells,a0J]) (a0I (by simp[Value.cells,a0J]))) ?_;refine go 1 ?_;refine a0D (a0K (v:=(a0S V).toArray) Ag.o rfl (by simp[Value.cells,a0S]) (by rw[J];rfl)) ?_;refine ce 0 (d1N H2 c1 i V (e.more S) hm2 g) ?_;rintro⟨H3,c3⟩ ⟨hs3,hc3,hr3⟩;refine ns ?_;refine a0M Sz.o rfl rfl rfl (fun u hu=>c0K hc3 u (by simpa using hu)) (by simp[Value.cells,a0J,a0S]) (a0N (by simp[Value.cells,a0J,a0S])) ?_;refine go 6 ?_;refine a0D (d1V Tst.o rfl rfl (by omega)) ?_;rw[show(bs d1).extract ((n:Nat):Int).toNat (bs d1).size=bs (d1.drop n)from x0K d1 n];refine go 3 ?_;dsimp only at hs3 hc3 hr3;have G:er c3=d0K (er c1) i (k0L c1.l[i].v.m ((at1/4:Nat):Int) a):=d2F (mv:=E) g (by rw[hr3,J]);have hl3:c3.l.length=c1.l.length:=by have h:=congrArg (fun x:Rp=>x.l.length) G;simpa [er,d0K] using h
  have hb3:c3.bits=c1.bits:=congrArg (fun x:Rp=>x.bits) G;have hdr:(d1.drop n).length=d1.length-n:=List.length_drop;refine go 5 ?_;rw[show(at1:Int)+((n:Nat):Int)/64=((at1+n/64:Nat):Int) by omega];refine go 2 ?_;refine e1A idh (⟨(H3,c3,at1+n/64,d1.drop n,U),fun q h=>hs3 q (S q (w q h)),hc3,by(show i<c3.l.length);omega,hb3.trans L,by(show(at1+n/64)*64+(d1.drop n).length≤_);omega,by(show(d1.drop n).length%64=0);omega,by(show(d1.drop n).length≤U);omega,by rw[t,a2I O (by rw[n0Q g];exact z) hf hn s hgo,n0Q g];(show _=d0I i U (er c3) _ _);rw[G]⟩) (by show(d1.drop n).length<m0;omega) gSu gSp
 ·obtain rfl:d1= []:=List.eq_nil_of_length_eq_zero (by have:=of_decide_eq_false C;omega);rw[t,h2K];refine go 4 ?_;refine a0D (a0K (v:=(a0J c1).toArray) Ag.o rfl (by simp[Value.cells,a0J]) (a0I (by simp[Value.cells,a0J]))) ?_;refine a0M Sz.o rfl rfl rfl (fun u hu=>c0K e u (by simpa using hu)) (by simp[Value.cells,a0J,a0S]) (a0N (by simp[Value.cells,a0J,a0S])) ?_;refine go 3 ?_;exact c0T (x:=((H1,c1):b0B×Rx)) ⟨w,e,rfl⟩ idh (RV.agg Ag.o rfl (by simp[a0J]) (by rfl) (RV.tmp rfl RV.nil)) rfl gSp
end
structure AtI (H:b0B) (c:Rx) (i:Nat) (p:Option Addr) (cap:Nat):Prop where
 lv:c.lv= .slice p c.l.length cap
 vol: ∀h:i<c.l.length,∃(b o:Nat) (cur:List Value),p=some ⟨b,o,none⟩∧(b,Obj.cells cur.toArray 42 (0,0))∈H∧(cur.drop (o+i*6)).take 6=a0S c.l[i]
theorem a2J {P:Rp} {id at_:Int} {data:B} (h:c0Q P.l id=none):i0Y P id at_ data=(P,5):=by unfold i0Y;rw[h]
theorem a2K {c:Rx} {i:Nat} {id at_:Int} {data:B} (h:c0Q (er c).l id=some i) (hi:i<c.l.length):i0Y (er c) id at_ data=(if c.l[i].v.only then(er c,7)else if data.length%64≠0 then(er c,4)else if m0Q c.l[i].v at_ (data.length/64:Nat)then(er c,6)else
 let r:=d0I i data.length (er c) at_.toNat data
 if r.2≠0 then(er c,r.2)else(r.1,0)):=by
 unfold i0Y;rw[h];simp only[n0Q hi]
theorem a2L (H:b0B) (c:Rx) (id at_:Int) (data:B) (e:c0Z H c) (D:w0X (er c)) (q:c.bits≤256) (hd:data.length≤100000):a0G prog 77 #[e0W c,.int .i64 id,.int .i64 at_,b0C data] [c0B H]
 (b0P (y0R H (i0Y (er c) id at_ data).1) (p1I (i0Y (er c) id at_ data).2) (fun x=> [c0B x.1])):=by
 have a:=c0K e;obtain⟨p,cap,r,F⟩:=d0W e.vols;have n:=e.vols;rw[r]at n;have G:=e.few;have w:(bs data).size=data.length:=b0H data;cases y:c0Q (er c).l id with
 |none=>
  rw[a2J y];refine en func77 ntmps77 fun R w0=> ?_
  try simp only[e0W,a0J]
  refine go 2 ?_;refine bx fun K=> ?_;refine al fun L=> ?_;refine go 5 ?_;refine a0D (a0K (v:= #[c.lv,.int .i64 c.next,.int .i64 c.bits,.int .i64 c.epoch]) Ag.o rfl (by simp[Value.cells]) (a0I (by simp[Value.cells]))) ?_;refine cg 1 (r0V e y) ?_;refine go 15 ?_;refine a0D (a0K (v:= #[c.lv,.int .i64 c.next,.int .i64 c.bits,.int .i64 c.epoch]) Ag.o rfl (by simp[Value.cells]) (a0I (by simp[Value.cells]))) ?_;refine a0M Sz.o rfl rfl rfl (fun u hu=>a u (by simpa [a0J] using hu)) (by simp[Value.cells,a0J,a0S]) (a0N (by simp[Value.cells,a0J,a0S])) ?_;refine go 3 ?_;exact c0T (x:=((H,c):b0B×Rx)) (g0W e) idh (RV.agg Ag.o rfl (by simp[a0J]) (by rfl) (RV.tmp rfl RV.nil)) rfl gSp
 |some i=>
  have f:i<c.l.length:=by have:=u0X y;simpa [er] using this
  obtain⟨b,o,E,cur,N,M,m,t,I⟩:=g0V n (by omega);cases N
  have s:(cur.drop (o+i*6)).take 6=a0S c.l[i]:=(i0I t f).trans (n0G c.l f);have A:nth cur (o+i*6+2)=some (.bool c.l[i].v.only):=by
   rw[e0F];have h:=congrArg (fun l:List Value=>l[2]?) s;simpa [List.getElem?_take,List.getElem?_drop,a0S] using h
  have O:=e.maps _ (List.getElem_mem f);have C:=D.at_ f;rw[a2K y f];refine en func77 ntmps77 fun R w0=> ?_
  try simp only[e0W,a0J]
  refine go 2 ?_;refine bx fun K=> ?_;refine al fun L=> ?_;refine go 5 ?_;refine a0D (a0K (v:= #[c.lv,.int .i64 c.next,.int .i64 c.bits,.int .i64 c.epoch]) Ag.o rfl (by simp[Value.cells]) (a0I (by simp[Value.cells]))) ?_;refine cg 1 (p0Q e y) ?_;refine go 12 ?_;refine b0S rfl (by simpa using (by omega: ¬((i:Int)<0))) ?_;refine go 3 ?_;refine a0D (b0N (v:= .slice (some ⟨b,o,none⟩) c.l.length cap) Sc.o rfl (by rw[r];rfl)) ?_;refine go 3 ?_;refine a0D (a1L Sc.o rfl gFd m A) ?_;refine go 3 ?_;refine a0O rfl (fun g=> ?_) (fun g=> ?_)
  ·rw[if_pos g];refine go 2 ?_;refine a0D (a0K (v:= #[c.lv,.int .i64 c.next,.int .i64 c.bits,.int .i64 c.epoch]) Ag.o rfl (by simp[Value.cells]) (a0I (by simp[Value.cells]))) ?_;refine a0M Sz.o rfl rfl rfl (fun u hu=>a u (by simpa [a0J] using hu)) (by simp[Value.cells,a0J,a0S]) (a0N (by simp[Value.cells,a0J,a0S])) ?_;refine go 3 ?_;exact c0T (x:=((H,c):b0B×Rx)) (g0W e) idh (RV.agg Ag.o rfl (by simp[a0J]) (by rfl) (RV.tmp rfl RV.nil)) rfl gSp
  ·rw[if_neg (by rw[g];decide)];refine go 5 ?_;rw[w];refine go 4 ?_;refine a0O rfl (fun j=> ?_) (fun j=> ?_)
   ·rw[if_pos (by have h: ¬((data.length:Int)%64=0):=(by simpa using j);omega)];refine go 2 ?_;refine a0D (a0K (v:= #[c.lv,.int .i64 c.next,.int .i64 c.bits,.int .i64 c.epoch]) Ag.o rfl (by simp[Value.cells]) (a0I (by simp[Value.cells]))) ?_;refine a0M Sz.o rfl rfl rfl (fun u hu=>a u (by simpa [a0J] using hu)) (by simp[Value.cells,a0J,a0S]) (a0N (by simp[Value.cells,a0J,a0S])) ?_;refine go 3 ?_;exact c0T (x:=((H,c):b0B×Rx)) (g0W e) idh (RV.agg Ag.o rfl (by simp[a0J]) (by rfl) (RV.tmp rfl RV.nil)) rfl gSp
   ·have P:data.length%64=0:=by have h:(data.length:Int)%64=0:=(by simpa using j);omega
    rw[if_neg (by omega)];refine go 3 ?_;refine a0D (b0N (v:= .slice (some ⟨b,o,none⟩) c.l.length cap) Sc.o rfl (by rw[r];rfl)) ?_;refine go 2 ?_;refine a0D (f0A (vs:=a0S c.l[i]) Ag.o rfl gFd m s rfl (by decide)) ?_;refine go 4 ?_;rw[w,show(data.length:Int)/64=((data.length/64:Nat):Int) by omega];refine cg 0 (z0N c.l[i] at_ ((data.length/64:Nat):Int) C) ?_;refine go 3 ?_;refine a0O rfl (fun d=> ?_) (fun d=> ?_)
    ·rw[if_pos d];refine go 2 ?_;refine a0D (a0K (v:= #[c.lv,.int .i64 c.next,.int .i64 c.bits,.int .i64 c.epoch]) Ag.o rfl (by simp[Value.cells]) (a0I (by simp[Value.cells]))) ?_;refine a0M Sz.o rfl rfl rfl (fun u hu=>a u (by simpa [a0J] using hu)) (by simp[Value.cells,a0J,a0S]) (a0N (by simp[Value.cells,a0J,a0S])) ?_;refine go 3 ?_;exact c0T (x:=((H,c):b0B×Rx)) (g0W e) idh (RV.agg Ag.o rfl (by simp[a0J]) (by rfl) (RV.tmp rfl RV.nil)) rfl gSp
    ·have z:=k1I d;rw[if_neg (by rw[d];decide)];skip;refine go 4 ?_;refine a0D (a0K (v:= #[c.lv,.int .i64 c.next,.int .i64 c.bits,.int .i64 c.epoch]) Ag.o rfl (by simp[Value.cells]) (a0I (by simp[Value.cells]))) ?_;refine go 3 ?_;refine d0Z rfl Hb.o rfl ((by have h:=v0L H c i at_.toNat data.length data e f q (by omega) P (Nat.le_refl _);rw[Int.toNat_of_nonneg z.1]at h;exact h)) gSp ?_;rintro⟨H2,c2⟩ ⟨hs2,hc2,hr2⟩;refine ns ?_;refine go 3 ?_;refine al fun J=> ?_;refine a0M Sz.o rfl rfl rfl (fun u hu=>c0K hc2 u (by simpa using hu)) (by simp[Value.cells,a0J,a0S]) (a0N (by simp[Value.cells,a0J,a0S])) ?_;refine go 10 ?_;refine a0O rfl (fun k=> ?_) (fun k=> ?_)
     ·rw[if_pos (by simpa using k)];refine go 2 ?_;refine a0D (a0K (v:= #[c.lv,.int .i64 c.next,.int .i64 c.bits,.int .i64 c.epoch]) Ag.o rfl (by simp[Value.cells]) (a0I (by simp[Value.cells]))) ?_;refine go 1 ?_;refine a0M Sz.o rfl rfl rfl (fun u hu=>a u (by simpa [a0J] using hu)) (by simp[Value.cells,a0J,a0S]) (a0N (by simp[Value.cells,a0J,a0S])) ?_;refine go 3 ?_;exact c0T (x:=((H2,{c with lv:=c.lv}):b0B×Rx)) ⟨hs2,e.more hs2,rfl⟩ idh (RV.agg Ag.o rfl (by simp[a0J]) (by rfl) (RV.tmp rfl RV.nil)) rfl gSp
     ·rw[if_neg (by simpa using k)];refine go 4 ?_;refine a0D (a0K (v:=(a0J c2).toArray) Ag.o rfl (by simp[Value.cells,a0J]) (a0I (by simp[Value.cells,a0J]))) ?_;refine a0M Sz.o rfl rfl rfl (fun u hu=>c0K hc2 u (by simpa using hu)) (by simp[Value.cells,a0J,a0S]) (a0N (by simp[Value.cells,a0J,a0S])) ?_;refine go 3 ?_;exact c0T (x:=((H2,c2):b0B×Rx)) ⟨hs2,hc2,hr2⟩ idh (RV.agg Ag.o rfl (by simp[a0J]) (by rfl) (RV.tmp rfl RV.nil)) rfl gSp
end Go.Proofs.Q
