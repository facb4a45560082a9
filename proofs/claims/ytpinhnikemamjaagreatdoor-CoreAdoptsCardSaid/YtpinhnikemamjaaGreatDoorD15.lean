/- Part of the proof; no statement of its own. -/
import Derived.Test.YtpinhnikemamjaaGreatDoorD14
set_option linter.all false
set_option maxRecDepth 4000
set_option maxHeartbeats 4000000
namespace Go.Sb
section
def Few (N:Nat) (P:Rp):Prop:= ∀v∈P.l,v.m.length≤N
theorem Few.mono {N M:Nat} {P:Rp} (h:Few N P) (a:N≤M):Few M P:=fun v b=>Nat.le_trans (h v b) a
def o1I (s:St) (P:Rp) (m:M Int) (r:Rp×Int) (K N:Nat):Prop:= ∃s' G',m s=(.ok r.2,s')∧J s' G' (if r.2=0 then r.1 else P)∧a0Y s≤a0Y s'+K∧Few N (if r.2=0 then r.1 else P)
def c1I (s:St) (P:Rp) (m:M Int) (r:Rp×Int) (K B N:Nat):Prop:= ∃e s' G',m s=(.ok e,s')∧J s' G' (if e=0 then r.1 else P)∧(e=r.2∨e=8∧a0Y s<2*P.l.length+B)∧a0Y s≤a0Y s'+K∧(2*P.l.length≤a0Y s→2*(if e=0 then r.1 else P).l.length≤a0Y s')∧Few N (if e=0 then r.1 else P)
theorem c1I.ends {s:St} {P:Rp} {m:M Int} {r:Rp×Int} {K B N:Nat} (h:c1I s P m r K B N) (g:2*P.l.length+B≤a0Y s):o1I s P m r K N:=by
 obtain⟨e,s',G',a,b,f,c,_,d⟩:=h;obtain rfl:e=r.2:=by omega
 exact⟨s',G',a,b,c,d⟩
theorem v0V {P:Rp} {id at_:Int} {data:B} {i:Nat} (h:c0Q P.l id=some i):i0Y P id at_ data=if(P.l.getD i v0).only=true then(P,7)else if data.length%64≠0 then(P,4)else if m0Q (P.l.getD i v0) at_ (data.length/64:Nat)=true then(P,6)else
 if(d0I i data.length P at_.toNat data).2≠0 then(P,(d0I i data.length P at_.toNat data).2)else((d0I i data.length P at_.toNat data).1,0):=by unfold i0Y;rw[h]
theorem y0D {P:Rp} {id at_ n:Int} {i:Nat} (h:c0Q P.l id=some i):l0S P id at_ n=if(P.l.getD i v0).only=true then(P,7)else if m0Q (P.l.getD i v0) at_ n=true then(P,6)else e0A P i at_.toNat (at_+n).toNat:=by unfold l0S;rw[h]
def j0P (P:Rp) (i:Nat) (size:Int):Rp×Int:=if size<(P.l.getD i v0).size then e0A P i size.toNat (P.l.getD i v0).size.toNat else(P,0)
theorem t0P {P:Rp} {id size:Int} {i:Nat} (h:c0Q P.l id=some i):g0S P id size=if(P.l.getD i v0).only=true then(P,7)else if size<1∨2048<size then(P,4)else
 if(j0P P i size).2≠0 then(P,(j0P P i size).2)else({(j0P P i size).1 with l:=(j0P P i size).1.l.set i {(j0P P i size).1.l.getD i v0 with size:=size}},0):=by unfold g0S;rw[h];rfl
section
variable {s:St} {G:Gh} {P:Rp} {N:Nat}
theorem J.fails {m:M Unit} {er:Int} {t:St} {r:Rp×Int} {K B c:Nat} (h:J s G P) (f:Few N P) (hN:N≤c) (hu:UMe m) (e:m (start s 0)=(.err er,t)) (a:er≠0) (g:er=r.2∨er=8∧a0Y s<2*P.l.length+B):c1I s P (a0B (i0K (e0M 0 m)) fun r=>ret r.1) r K B c:=by
 obtain⟨s',d,t1⟩:=h.ci.failed hu e a;have b:=t1.room;refine⟨er,s',G,by rw[a0A d];rfl,?_,g,by omega,?_,?_⟩
 ·rw[if_neg a];exact h.still t1
 ·rw[if_neg a];omega
 ·rw[if_neg a];exact f.mono hN
theorem J.spare {C K:Nat} {u s':St} {G':Gh} (h:J s G P) (a:Stp C K (start s 0) G u G') (f:a0Y u≤a0Y s') (d:2*P.l.length≤a0Y s):2*P.l.length≤a0Y s':=by
 have e:=h.len;have c:(start s 0).keep=((2*(s.vols.length+0):Nat):Int):=rfl;have b:=a.safe (by show((2*(s.vols.length+0):Nat):Int)≤(a0Y s:Int);omega);rw[a.keep,c]at b;omega
theorem c1J {x:Ent} {v:Vp} (b:x.size=v.size) (c:x.size≤2048) (a n:Int) (s:St):h0J x a n s=if m0Q v a n then(.err 6,s)else(.ok (),s):=by
 unfold h0J l0U m0Q;rw[if_neg (by omega),←b];by_cases h:a<0∨n<0∨x.size<a∨x.size-a<n
 ·rw[if_pos h,decide_eq_true h];rfl
 ·rw[if_neg h,decide_eq_false h];rfl
theorem J.size (h:J s G P) {id:Int} {x:Ent} (a:a0C id s.vols=some x):x.id=id∧1≤x.size∧x.size≤2048:=h.ci.ids _ (h.ci.mem a)
theorem g1T {i:Nat} {v:Vp} {a:Nat} (c:Few N P) (hN:N≤a) (d:v.m.length≤a):Few a {P with l:=P.l.set i v} :=fun w e=>by
 rcases List.mem_or_eq_of_mem_set e with b|rfl
 ·exact(c.mono hN) w b
 ·exact d
theorem t0Q (a:Few N P) {i:Nat} (hi:i<P.l.length):(P.l.getD i v0).m.length≤N:=by rw[r0O hi];exact a _ (List.getElem_mem hi)
theorem J.deleteS (h:J s G P) (b:Few N P) (id:Int):c1I s P (q0W id) (g0R P id) 0 0 N:=by
 unfold q0W;cases a:c0Q P.l id with
 |none=>
  refine h.fails b (Nat.le_refl _) (e2R id) (er:=5) (t:=start s 0) ?_ (by decide) (.inl (by unfold g0R;rw[a]));unfold q0C;exact a0F (show find id (start s 0)=(.err 5,start s 0) by unfold find;rw[show a0C id (start s 0).vols=none from h.missing a])
 |some i=>
  obtain⟨hi,x,f,c,p⟩:=h.found a;obtain⟨s',G',e,c1,n,k,m,p1,d,o⟩:=h.ci.deleted c;have er:g0R P id=({P with l:=P.l.eraseIdx i},0):=by unfold g0R;rw[a]
  rw[er];refine⟨0,s',G',by rw[a0A e];rfl,?_,.inl rfl,by omega,?_,?_⟩
  ·exact h.del hi f c c1 n k m p1 d
  ·intro g;show 2*(P.l.eraseIdx i).length≤_;rw[List.length_eraseIdx];split<;>omega
  ·exact fun v j=>b v (List.mem_of_mem_eraseIdx j)
theorem J.delete (h:J s G P) (a:Few N P) (id:Int) (b:2*P.l.length≤a0Y s):o1I s P (q0W id) (g0R P id) 0 N:=(h.deleteS a id).ends b
theorem J.writeS (h:J s G P) (d:Few N P) (id at_:Int) {data:B} (hd:data.length%64=0→data.length≤768):c1I s P (h0K id at_ data) (i0Y P id at_ data) 40 (8*(min data.length 768/256+2)) (N+4):=by
 unfold h0K;cases p:c0Q P.l id with
 |none=>exact h.fails d (by omega) (s0T id at_ data) (er:=5) (t:=start s 0) (by unfold i0X;exact a0F (c1G (h.missing p))) (by decide) (.inl (by unfold i0Y;rw[p]))
 |some i=>
  obtain⟨hi,x,z,c,b⟩:=h.found p;have k:=h.size c;have er:=v0V (at_:=at_) (data:=data) p;by_cases q:(P.l.getD i v0).only=true
  ·rw[if_pos q]at er;exact h.fails d (by omega) (s0T id at_ data) (er:=7) (t:=start s 0) (by unfold i0X;exact a0F (c1H c (b.only.trans q))) (by decide) (.inl (by rw[er]))
  rw[if_neg q]at er;have j:=h.ci.copened c (show x.only=false by rw[b.only];simpa using q);by_cases a:data.length%64≠0
  ·rw[if_pos a]at er;exact h.fails d (by omega) (s0T id at_ data) (er:=4) (t:=start s 0) (by unfold i0X;rw[a0A j,if_pos a];rfl) (by decide) (.inl (by rw[er]))
  rw[if_neg a]at er;have hd:=hd (by omega);have v:=c1J b.size k.2.2 at_ (data.length/64:Nat) (start s 0);by_cases hb:m0Q (P.l.getD i v0) at_ (data.length/64:Nat)=true
  ·rw[if_pos hb]at er v;exact h.fails d (by omega) (s0T id at_ data) (er:=6) (t:=start s 0) (by unfold i0X;rw[a0A j,if_neg a];exact a0F v) (by decide) (.inl (by rw[er]))
  rw[if_neg hb]at er v;have K: ¬(at_<0∨((data.length/64:Nat):Int)<0∨(P.l.getD i v0).size<at_∨(P.l.getD i v0).size-at_<((data.length/64:Nat):Int)):=fun C=>hb (decide_eq_true C);have W:=b.size;have e0:i0X id at_ data (start s 0)=a0B (e0T x at_.toNat data) m0H (start s 0):=by
   unfold i0X;rw[a0A j,if_neg a,a0A v]
  have T:=z0C;obtain⟨m,hm⟩: ∃m,m=min data.length 768/256+2:=⟨_,rfl⟩;have D:m≤5:=by omega
  have V:=h.ci.othersLen c;have U:m*m0L≤5*12666:=Nat.mul_le_mul D T;have f:=Inv.patch m0L rfl data.length m (x:=x) (at_:=at_.toNat) (data:=data) (h.ci.roots c) (h.ci.start 0).2 (h.ci.kid _ (h.ci.mem c)) (h.ci.othersKid id) (by omega) (by omega) (by omega) (h1R h.ci (by omega) 0) (by omega);rw[l1O,show(start s 0).bits=P.bits from h.bits]at f;have g:=r0P i data.length P (a0Z G x.root) (o0A s G id) at_.toNat data hi (h.others hi z) b.map (h.uniq c) (by omega) (by omega) (Nat.le_refl _);rcases f with ⟨r,u,G',n,X,M,Y,k3,m2,n2⟩| ⟨e,u,n,A⟩
  ·rcases g with ⟨w,_⟩| ⟨_,Z,o,H,_,I,_⟩
   ·exact(n2 w).elim
   ·obtain⟨s',O,c3,v3,o3,q1,q2,q3,q4⟩:=h.ci.edited c e0 n k.1 k.2 X M Y k3 (by omega);rw[o,if_neg (fun C=>C rfl)]at er;rw[er];refine⟨0,s',G',by rw[a0A O];rfl,?_,.inl rfl,by omega,?_,?_⟩
    ·rw[←m2]at H;exact h.set hi z c c3 v3 o3 q1 q2 q3 z ⟨b.parent,b.only,b.size,b.born,H⟩
    ·intro F;have:=h.spare M q4.2 F;rw[if_pos rfl];show 2*(P.l.set i _).length≤_;rw[List.length_set];exact this
    ·refine g1T d (by omega) ?_;show Z.length≤N+4;have:=t0Q d hi;unfold e2O at I;split at I<;>omega
  ·have Q:a0Y (start s 0)=a0Y s:=rfl;have R:(start s 0).keep=((2*(s.vols.length+0):Nat):Int):=rfl;have L:=h.len;rcases A with ⟨y,S⟩| ⟨y,E⟩
   ·rw[Q,R]at S;exact h.fails d (by omega) (s0T id at_ data) (er:=8) (t:=u) (by rw[e0];subst y;exact a0F n) (by decide) (.inr ⟨rfl,by omega⟩)
   ·rcases g with ⟨_,o⟩| ⟨w,_⟩
    ·rw[if_pos (by rw[o];decide),o]at er;exact h.fails d (by omega) (s0T id at_ data) (er:=9) (t:=u) (by rw[e0];subst y;exact a0F n) (by decide) (.inl (by rw[er]))
    ·exact(w E).elim
theorem J.write (h:J s G P) (b:Few N P) (id at_:Int) {data:B} (hd:data.length%64=0→data.length≤768) (a:128≤a0Y s):o1I s P (h0K id at_ data) (i0Y P id at_ data) 40 (N+4):=(h.writeS b id at_ hd).ends (by have:=h.len;have:=h.ci.few;omega)
theorem J.noughts (h:J s G P) (H:Few N P) {id:Int} {i:Nat} {x:Ent} {fr u:Nat} (hi:i<P.l.length) (z:(P.l.getD i v0).id=id) (g:a0C id s.vols=some x) (B:u1L G (P.l.getD i v0) x) (f:fr≤u) (hu:u≤2048) (hN:N≤80):
 (∃r t G' j,i0C x fr u (start s 0)=(.ok {x with root:=r},t)∧Inv t G' (r::l0L s id)∧Stp (6*m0L+N*g0H 2) (48+N*3) (start s 0) G t G'∧a0W G' 3 r∧(∀p∈l0L s id,a0W G' 3 p∧a0Z G' p=a0Z G p)∧
  e0A P i fr u=(d0K P i j,0)∧l0K j (a0Z G' r)∧j.length≤N)∨ ∃t er,i0C x fr u (start s 0)=(.err er,t)∧er≠0∧(er=(e0A P i fr u).2∧er=9∨er=8∧a0Y s<2*P.l.length+(48+N*3)):=by
 have F:=z0C;have v:g0H 2≤12666:=Nat.le_trans (Nat.le_add_left _ 16) F;have I:=h.ci.othersLen g;have hNC:N*g0H 2≤80*12666:=Nat.mul_le_mul hN v;have b:=u1I (fr:=fr) (u:=u) hi (h.others hi z) B.map (h.uniq g) f hu;have y:=t0Q H hi;have a:=Inv.cclear (L:=N) m0L (g0H 2) rfl rfl (x:=x) (h.ci.roots g) (h.ci.start 0).2 (h.ci.kid _ (h.ci.mem g)) (h.ci.othersKid id) f hu ⟨Nat.zero_lt_one,by show 1+(6*m0L+N*g0H 2)+10<1000000000;omega,by show s.gone.length+(6*m0L+N*g0H 2)+10<1000000000;rw[h.ci.gone];simp only[List.length_nil];omega⟩ (by omega);rw[l1O,show(start s 0).bits=P.bits from h.bits]at a;have a:=a fun T c=>by
  rcases r0P i ((4*((fr+3)/4)-fr)*64) P (a0Z G x.root) (o0A s G id) fr (a0L ((4*((fr+3)/4)-fr)*64)) hi (h.others hi z) B.map (h.uniq g) (by rw[g0J];omega) (by rw[g0J];omega) (by rw[g0J];exact Nat.le_refl _)with ⟨d,_⟩| ⟨_,m1,_,q,_,_,g6⟩
  ·exact(c d).elim
  ·exact⟨m1,q,Nat.le_trans (g6 (w0N _)) y⟩
 rcases a with ⟨r,t,G',k,K,R,M,k3,O,Q⟩| ⟨e,t,k,w⟩
 ·rcases b with ⟨d,_⟩| ⟨_,j,o,q,_,S⟩
  ·exact(Q d).elim
  ·exact .inl ⟨r,t,G',j,k,K,R,M,k3,o,by rw[O];exact q,by omega⟩
 ·have C:a0Y (start s 0)=a0Y s:=rfl;have D:(start s 0).keep=((2*(s.vols.length+0):Nat):Int):=rfl;have A:=h.len;rcases w with ⟨n,E⟩| ⟨n,c⟩
  ·rw[C,D]at E;exact .inr ⟨t,e,k,by omega,.inr ⟨n,by omega⟩⟩
  ·rcases b with ⟨_,o⟩| ⟨d,_⟩
   ·exact .inr ⟨t,e,k,by omega,.inl ⟨n.trans o.symm,n⟩⟩
   ·exact(d c).elim
theorem s2L (N:Nat) (hN:N≤80):6*m0L+N*g0H 2≤900000000:=by
 have b:=z0C;have a:g0H 2≤12666:=Nat.le_trans (Nat.le_add_left _ 16) b;have:=Nat.mul_le_mul hN a;omega
theorem J.trimS (h:J s G P) (c:Few N P) (id at_ n:Int) (hN:N≤80):c1I s P (v0U id at_ n) (l0S P id at_ n) (48+N*3) (48+N*3) N:=by
 unfold v0U;cases f:c0Q P.l id with
 |none=>exact h.fails c (Nat.le_refl _) (c1F id at_ n) (er:=5) (t:=start s 0) (by unfold r0Q;exact a0F (c1G (h.missing f))) (by decide) (.inl (by unfold l0S;rw[f]))
 |some i=>
  obtain⟨hi,x,q,d,a⟩:=h.found f;have b:=h.size d;have er:=y0D (at_:=at_) (n:=n) f;by_cases j:(P.l.getD i v0).only=true
  ·rw[if_pos j]at er;exact h.fails c (Nat.le_refl _) (c1F id at_ n) (er:=7) (t:=start s 0) (by unfold r0Q;exact a0F (c1H d (a.only.trans j))) (by decide) (.inl (by rw[er]))
  rw[if_neg j]at er;have e:=h.ci.copened d (show x.only=false by rw[a.only];simpa using j);have k:=c1J a.size b.2.2 at_ n (start s 0);by_cases hb:m0Q (P.l.getD i v0) at_ n=true
  ·rw[if_pos hb]at er k;exact h.fails c (Nat.le_refl _) (c1F id at_ n) (er:=6) (t:=start s 0) (by unfold r0Q;rw[a0A e];exact a0F k) (by decide) (.inl (by rw[er]))
  rw[if_neg hb]at er k;have y: ¬(at_<0∨n<0∨(P.l.getD i v0).size<at_∨(P.l.getD i v0).size-at_<n):=fun D=>hb (decide_eq_true D);have E:=a.size;have e0:r0Q id at_ n (start s 0)=a0B (i0C x at_.toNat (at_+n).toNat) m0H (start s 0):=by
   unfold r0Q;rw[a0A e,a0A k]
  rw[er];rcases h.noughts c (fr:=at_.toNat) (u:=(at_+n).toNat) hi q d a (by omega) (by omega) hN with ⟨r,t,G',S,o,F,z,H,k3,p,B,C⟩| ⟨t,R,o,v,p⟩
  ·obtain⟨s',A,c3,Q,I,K,L,M,O⟩:=h.ci.edited d e0 o b.1 b.2 F z H k3 (s2L N hN);rw[p];refine⟨0,s',G',by rw[a0A A];rfl,?_,.inl rfl,by omega,?_,?_⟩
   ·exact h.set hi q d c3 Q I K L M q ⟨a.parent,a.only,a.size,a.born,B⟩
   ·intro w;have:=h.spare z O.2 w;show 2*(P.l.set i _).length≤_;rw[List.length_set];exact this
   ·exact g1T c (Nat.le_refl _) C
  ·exact h.fails c (Nat.le_refl _) (c1F id at_ n) (t:=t) (by rw[e0];exact a0F o) v (p.imp (fun g=>g.1) fun g=>g)
theorem J.trim (h:J s G P) (b:Few N P) (id at_ n:Int) (hN:N≤80) (a:80+N*3≤a0Y s):o1I s P (v0U id at_ n) (l0S P id at_ n) (48+N*3) N:=(h.trimS b id at_ n hN).ends (by have:=h.len;have:=h.ci.few;omega)
theorem J.resizeS (h:J s G P) (d:Few N P) (id size:Int) (hN:N≤80):c1I s P (q0X id size) (g0S P id size) (48+N*3) (48+N*3) N:=by
 unfold q0X;cases D:c0Q P.l id with
 |none=>exact h.fails d (Nat.le_refl _) (w0O id size) (er:=5) (t:=start s 0) (by unfold m0C;exact a0F (c1G (h.missing D))) (by decide) (.inl (by unfold g0S;rw[D]))
 |some i=>
  obtain⟨hi,x,o,c,b⟩:=h.found D;have B:=h.size c;have er:=t0P (size:=size) D;by_cases E:(P.l.getD i v0).only=true
  ·rw[if_pos E]at er;exact h.fails d (Nat.le_refl _) (w0O id size) (er:=7) (t:=start s 0) (by unfold m0C;exact a0F (c1H c (b.only.trans E))) (by decide) (.inl (by rw[er]))
  rw[if_neg E]at er;have z:=h.ci.copened c (show x.only=false by rw[b.only];simpa using E);by_cases F:size<1∨2048<size
  ·rw[if_pos F]at er;exact h.fails d (Nat.le_refl _) (w0O id size) (er:=4) (t:=start s 0) (by unfold m0C;rw[a0A z,if_pos F];rfl) (by decide) (.inl (by rw[er]))
  rw[if_neg F]at er;have A:=b.size;have e0:m0C id size (start s 0)=a0B (if size<x.size then i0C x size.toNat x.size.toNat else ret x) (fun y=>m0H {y with size:=size}) (start s 0):=by
   unfold m0C;rw[a0A z,if_neg F]
  by_cases w:size<x.size
  ·rw[if_pos w]at e0;have a:j0P P i size=e0A P i size.toNat (P.l.getD i v0).size.toNat:=by unfold j0P;rw[if_pos (by omega)]
   rw[a]at er;rcases h.noughts d (fr:=size.toNat) (u:=x.size.toNat) hi o c b (by omega) (by omega) hN with ⟨r,t,G',C,H,i2,V,k2,k3,n,X,Y⟩| ⟨t,ee,H,q,n⟩
   ·rw[a0A H]at e0;obtain⟨s',I,c3,T,M,O,Q,R,S⟩:=h.ci.edited (f:=fun _=>(.ok {x with root:=r,size:=size},t)) (y:= {x with root:=r,size:=size}) c e0 rfl B.1 (by show 1≤size∧size≤2048;omega) i2 V k2 k3 (s2L N hN);rw[A]at n;rw[n,if_neg (fun K=>K rfl)]at er;have L:=y0A (m:=C) hi;have k:({d0K P i C with l:=(d0K P i C).l.set i {(d0K P i C).l.getD i v0 with size:=size}} :Rp)= {P with l:=P.l.set i {P.l.getD i v0 with m:=C,size:=size}} :=by
     rw[L];unfold d0K;simp only[List.set_set]
    rw[er];refine⟨0,s',G',by rw[a0A I];rfl,?_,.inl rfl,by omega,?_,?_⟩
    ·simp only[if_true];rw[k];exact h.set hi o c c3 T M O Q R o ⟨b.parent,b.only,rfl,b.born,X⟩
    ·simp only[if_true];intro j;have:=h.spare V S.2 j;rw[List.length_set,q0V];exact this
    ·simp only[if_true];rw[k];exact g1T d (Nat.le_refl _) Y
   ·rw[A]at n;refine h.fails d (Nat.le_refl _) (w0O id size) (t:=t) (by rw[e0];exact a0F H) q (n.imp (fun g=> ?_) fun g=>g);rw[if_pos (by rw[←g.1];exact q)]at er;rw[er];exact g.1
  ·rw[if_neg w]at e0;have a:j0P P i size=(P,0):=by unfold j0P;rw[if_neg (by omega)]
   rw[a,if_neg (fun K=>K rfl)]at er;obtain⟨U,W⟩:=h.ci.start 0;have e:=h.ci.roots c;have v:=h.ci.kid _ (h.ci.mem c);obtain⟨s',I,c3,T,M,O,Q,R,S⟩:=h.ci.edited (f:=fun _=>(.ok {x with size:=size},start s 0)) (y:= {x with size:=size}) c e0 rfl B.1 (by show 1≤size∧size≤2048;omega) e (Stp.refl U W) v (fun p Z=>⟨h.ci.othersKid id p Z,rfl⟩) (by omega);rw[er];refine⟨0,s',G,by rw[a0A I];rfl,?_,.inl rfl,by omega,?_,?_⟩
   ·exact h.set hi o c c3 T M O Q R o ⟨b.parent,b.only,rfl,b.born,b.map⟩
   ·intro j;have:=h.spare (Stp.refl U W) S.2 j;show 2*(P.l.set i _).length≤_;rw[List.length_set];exact this
   ·exact g1T d (Nat.le_refl _) (t0Q d hi)
theorem J.resize (h:J s G P) (b:Few N P) (id size:Int) (hN:N≤80) (a:80+N*3≤a0Y s):o1I s P (q0X id size) (g0S P id size) (48+N*3) N:=(h.resizeS b id size hN).ends (by have:=h.len;have:=h.ci.few;omega)
end
end
section
section
variable {s:St} {G:Gh} {P:Rp} {N:Nat}
def o0D (s:St) (G:Gh) (P:Rp) (m:M (Int×Int)) (r:Rp×Int×Int) (N:Nat):Prop:= ∃e s' n,m s=(.ok (n,e),s')∧(e=r.2.2∨e=8∧a0Y s<2*P.l.length+2)∧(e=0→n=r.2.1)∧(e≠0→n=0)∧J s' G (if e=0 then r.1 else P)∧a0Y s≤a0Y s'∧(2*P.l.length≤a0Y s→2*(if e=0 then r.1 else P).l.length≤a0Y s')∧Few N (if e=0 then r.1 else P)
def s1F (s:St) (G:Gh) (P:Rp) (m:M (Int×Int)) (r:Rp×Int×Int) (N:Nat):Prop:= ∃s' n,m s=(.ok (n,r.2.2),s')∧(r.2.2=0→n=r.2.1)∧(r.2.2≠0→n=0)∧J s' G (if r.2.2=0 then r.1 else P)∧a0Y s≤a0Y s'∧Few N (if r.2.2=0 then r.1 else P)
theorem o0D.makes {m:M (Int×Int)} {r:Rp×Int×Int} (h:o0D s G P m r N) (j:2*P.l.length+2≤a0Y s):s1F s G P m r N:=by
 obtain⟨e,s',n,a,i,b,c,d,f,_,g⟩:=h;obtain rfl:e=r.2.2:=by omega
 exact⟨s',n,a,b,c,d,f,g⟩
theorem o0D.no (h:J s G P) (c:Few N P) {m:M (Int×Int)} {r:Rp×Int×Int} {e:Int} (a:e≠0) (f:r.2.2=e) (d:m s=(.ok (0,e),s)):o0D s G P m r N:=
 ⟨e,s,0,d,.inl f.symm,fun b=>(a b).elim,fun _=>rfl,by rw[if_neg a];exact h,Nat.le_refl _,by rw[if_neg a];exact id,by rw[if_neg a];exact c⟩
theorem CI.tight (h:CI s G) (made:M Ent) (a:s.vols.length<16) (i:a0Y s<2*(s.vols.length+1)): ∃s',k0K made s=(.ok (0,8),s')∧l1N s s' G:=by
 have e0:Go.Sb.e0M 1 (a0B made u0I) {s with depth:=1} =(.err 8,Go.Sb.start s 1):=by
  unfold Go.Sb.e0M Go.Sb.k0C;refine a0F ?_;rw[a0A (h.keepd 1)];show(if 0<1∧(a0Y (Go.Sb.start s 1):Int)<_ then _ else _)=_;rw[if_pos ⟨by decide,(show(a0Y s:Int)<2*((s.vols.length+1:Nat):Int) by omega)⟩]
 obtain⟨b,c,d,u4,e,f,g⟩:=h.undone (h.rel 1);refine⟨_,?_,b,c,d,u4,e,f,g⟩;unfold k0K;rw[if_neg (by omega),a0A (c1A h e0 (by decide) (h.rel 1))];simp only[if_neg (show ¬(8:Int)=0 by decide)];rfl
theorem o0D.tight (h:J s G P) (d:Few N P) {m:M (Int×Int)} {r:Rp×Int×Int} {made:M Ent} (f:m s=k0K made s) (a:s.vols.length<16) (e:a0Y s<2*(s.vols.length+1)):o0D s G P m r N:=by
 obtain⟨s',b,t1⟩:=h.ci.tight made a e;have i:=h.len;have g:=t1.room;exact⟨8,s',0,f.trans b,.inr ⟨rfl,by omega⟩,fun c=>absurd c (by decide),fun _=>rfl,by rw[if_neg (by decide)];exact h.still t1,g,by rw[if_neg (by decide)];omega,by rw[if_neg (by decide)];exact d⟩
theorem u1M {v:Vp} (a:P.l.length<16):(g0M P v).1.l.length=P.l.length+1:=by unfold g0M;rw[if_neg (by omega)];simp
theorem b2R (c:Few N P) {v:Vp} (d:v.m.length≤N) (b:P.l.length<16):Few N (g0M P v).1:=by
 unfold g0M;rw[if_neg (by omega)];intro w e;rcases List.mem_append.1 e with a|a
 ·exact c w a
 ·rw[List.mem_singleton.1 a];exact d
theorem b2S {v:Vp} (a:P.l.length<16):(g0M P v).2.2=0∧(g0M P v).2.1=P.next:=by unfold g0M;rw[if_neg (by omega)];exact⟨rfl,rfl⟩
theorem b2T {v:Vp} (a: ¬P.l.length<16):(g0M P v).2.2=13:=by unfold g0M;rw[if_pos (by omega)]
theorem J.none_next (h:J s G P):a0C s.next s.vols=none:=by
 cases e:a0C s.next s.vols with
 |none=>rfl
 |some y=>
  obtain⟨w,b,a⟩:=h.back _ (h.ci.mem e);have:=(h.ids w b).2;simp only at a;rw[h.next]at a;omega
theorem z2R:l0K [] (a0Z G 0)↔ ∀j,a0Z G 0 j=a0L 256:=⟨fun h j=>h.eq j,fun h=>⟨p1Y,fun x a=>(by cases a),h⟩⟩
theorem J.createS (h:J s G P) (d:Few N P) (o:P.next<1000000000) (size:Int):o0D s G P (f0T size) (e0R P size) N:=by
 have f:=h.len;by_cases c:size<1∨2048<size
 ·exact o0D.no h d (e:=4) (by decide) (by unfold e0R;rw[if_pos c]) (by unfold f0T;rw[if_pos c];rfl)
 by_cases a:P.l.length<16
 ·by_cases b:2*(s.vols.length+1)≤a0Y s
  case neg=>exact o0D.tight h d (made:=ret {g0L with size:=size}) (by unfold f0T;rw[if_neg c]) (by omega) (by omega)
  obtain⟨s',i,c1,u,p,p1,g,k⟩:=h.ci.create (size:=size) (by omega) (by omega) h.none_next b;have er:e0R P size=g0M P {v0 with size:=size} :=by unfold e0R;rw[if_neg c]
  rw[er];obtain⟨q,r⟩:=b2S (P:=P) (v:= {v0 with size:=size}) a;have t:=u1M (P:=P) (v:= {v0 with size:=size}) a;refine⟨0,s',s.next,i,.inl q.symm,fun _=>by rw[r,h.next],fun m=>absurd rfl m,?_,k,by rw[if_pos rfl,t];omega,?_⟩
  ·rw[if_pos rfl];have n:l0K [] (a0Z G 0):=z2R.2 fun j=>by rw[j2P h.ci.inv.zero]
   exact h.add (x:= {g0L with size:=size}) (v:= {v0 with size:=size}) o a c1 u (fun _ _=>rfl) p p1 g ⟨rfl,rfl,rfl,n⟩
  ·rw[if_pos rfl];exact b2R d (Nat.zero_le _) a
 ·refine o0D.no h d (e:=13) (by decide) (by unfold e0R;rw[if_neg c];exact b2T a) ?_;unfold f0T k0K;rw[if_neg c];simp only;rw[if_pos (by omega)]
theorem J.create (h:J s G P) (b:Few N P) (c:P.next<1000000000) (a:40≤a0Y s) (size:Int):s1F s G P (f0T size) (e0R P size) N:=(h.createS b c size).makes (by have:=h.len;have:=h.ci.few;omega)
theorem J.copyS (h:J s G P) (c:Few N P) (q:P.next<1000000000) (id:Int) (only:Bool):o0D s G P (h0S id only) (i0P P id only) N:=by
 have g:=h.len;cases d:c0Q P.l id with
 |none=>exact o0D.no h c (e:=5) (by decide) (by unfold i0P;rw[d]) (by unfold h0S;rw[h.missing d])
 |some i=>
  obtain⟨hi,x,z,f,j⟩:=h.found d;have er:i0P P id only=g0M P {v0 with parent:=id,only:=only,size:=(P.l.getD i v0).size,m:=(P.l.getD i v0).m} :=by unfold i0P;rw[d]
  by_cases a:P.l.length<16
  ·by_cases b:2*(s.vols.length+1)≤a0Y s
   case neg=>exact o0D.tight h c (made:=w0L id only) (by unfold h0S;rw[f]) (by omega) (by omega)
   obtain⟨s',n,c1,y,r,p1,k,o⟩:=h.ci.copy (only:=only) f (by omega) h.none_next b;rw[er];obtain⟨t,u⟩:=b2S (P:=P) (v:= {v0 with parent:=id,only:=only,size:=(P.l.getD i v0).size,m:=(P.l.getD i v0).m}) a;have w:=u1M (P:=P) (v:= {v0 with parent:=id,only:=only,size:=(P.l.getD i v0).size,m:=(P.l.getD i v0).m}) a;refine⟨0,s',s.next,n,.inl t.symm,fun _=>by rw[u,h.next],fun p=>absurd rfl p,?_,o,by rw[if_pos rfl,w];omega,?_⟩
   ·rw[if_pos rfl];exact h.add (x:= {g0L with parent:=id,only:=only,size:=x.size,root:=x.root}) (v:= {v0 with parent:=id,only:=only,size:=(P.l.getD i v0).size,m:=(P.l.getD i v0).m}) q a c1 y (fun _ _=>rfl) r p1 k ⟨rfl,rfl,j.size,j.map⟩
   ·rw[if_pos rfl];exact b2R c (t0Q c hi) a
  ·refine o0D.no h c (e:=13) (by decide) (by rw[er];exact b2T a) ?_;unfold h0S;rw[f];unfold k0K;simp only;rw[if_pos (by omega)]
theorem J.copy (h:J s G P) (b:Few N P) (c:P.next<1000000000) (a:40≤a0Y s) (id:Int) (only:Bool):s1F s G P (h0S id only) (i0P P id only) N:=(h.copyS b c id only).makes (by have:=h.len;have:=h.ci.few;omega)
theorem l1P (m:List Lf) (at_ a:Nat): ∀b,k0X m at_ (a+b)=k0X m at_ a++k0X m (at_+a) b
 |0=>by rw[Nat.add_zero];exact(List.append_nil _).symm
 |b+1=>by rw[←Nat.add_assoc,k0X,l1P m at_ a b,k0X,List.append_assoc,Nat.add_assoc]
theorem q1A {m:List Lf} (a:m0R m) (at_:Nat): ∀q,q≤4-at_%4→k0X m at_ q=((f0Y (at_/4:Nat) m).drop (at_%4*64)).take (q*64)
 |0,_=>by simp[k0X]
 |q+1,hq=>by
  have b:=a.get_len ((at_/4:Nat):Int);rw[k0X,q1A a at_ q (by omega),show(at_+q)/4=at_/4 by omega,show(at_+q)%4=at_%4+q by omega,Nat.succ_mul,List.take_add,List.drop_drop,←Nat.add_mul]
theorem j1Q {m:List Lf} {f:Nat→B} (h:l0K m f): ∀(k at_ n:Nat),n≤k→b1Y f k at_ n=k0X m at_ n
 |0,at_,n,hn=>by
  obtain rfl:n=0:=by omega
  rfl
 |k+1,at_,n,hn=>by
  unfold b1Y;by_cases a:n=0
  ·rw[if_pos a,a];rfl
  ·rw[if_neg a,j1Q h k _ _ (by omega),h.eq,←q1A h.ok at_ _ (by omega),←l1P,show min n (4-at_%4)+(n-min n (4-at_%4))=n by omega]
theorem J.read (h:J s G P) (id at_ n:Int): ∃s',n0Y id at_ n s=(.ok (m0A P id at_ n),s')∧J s' G P∧a0Y s≤a0Y s':=by
 cases b:c0Q P.l id with
 |none=>
  obtain⟨s',a,t1⟩:=h.ci.failed0 (u1K id at_ n) (er:=5) (t:= {s with depth:=1}) (by unfold o0S;exact a0F (show find id {s with depth:=1} =(.err 5,{s with depth:=1}) by unfold find;rw[show a0C id ({s with depth:=1} :St).vols=none from h.missing b])) (by decide);refine⟨s',?_,h.still t1,t1.room⟩;unfold n0Y m0A;rw[a0A a,b];rfl
 |some i=>
  obtain⟨hi,x,m,e,c⟩:=h.found b;have d:=h.size e;have g:=c1J c.size d.2.2 at_ n {s with depth:=1};by_cases hb:m0Q (P.l.getD i v0) at_ n=true
  ·rw[if_pos hb]at g;obtain⟨s',a,t1⟩:=h.ci.failed0 (u1K id at_ n) (er:=6) (t:= {s with depth:=1}) (by
    unfold o0S;rw[a0A (show find id {s with depth:=1} =(.ok x,{s with depth:=1}) by unfold find;rw[show a0C id ({s with depth:=1} :St).vols=some x from e])];exact a0F g) (by decide)
   refine⟨s',?_,h.still t1,t1.room⟩;unfold n0Y m0A;rw[a0A a,b];simp only;rw[if_pos hb];rfl
  ·have f: ¬(at_<0∨n<0∨(P.l.getD i v0).size<at_∨(P.l.getD i v0).size-at_<n):=fun j=>hb (decide_eq_true j);have k:=c.size;have a:=h.ci.read (at_:=at_.toNat) (n:=n.toNat) e (by omega);rw[Int.toNat_of_nonneg (by omega),Int.toNat_of_nonneg (by omega)]at a;refine⟨s,?_,h,Nat.le_refl _⟩;rw[a,j1Q c.map _ _ _ (Nat.le_refl _)];unfold m0A;rw[b];simp only;rw[if_neg hb]
theorem J.epoch_ (h:J s G P) (n:Int):J {s with epoch:=n} G {P with epoch:=n} :=
 ⟨⟨h.ci.inv.other rfl rfl rfl rfl rfl ⟨h.ci.inv.u.m.refs,h.ci.inv.u.m.young,h.ci.inv.u.m.index,h.ci.inv.u.m.vols⟩ h.ci.inv.u.keep,h.ci.idx,h.ci.kid,h.ci.ids,h.ci.dep,h.ci.log,h.ci.gone,h.ci.few⟩,h.next,h.pos,h.bits,rfl,h.len,h.ord,h.ids,h.vol,h.back⟩
theorem J.sum (h:J s G P) {id:Int} {x:Ent} (a:a0C id s.vols=some x):w0M id s=(.ok (d0R G x.root,0),s):=by
 have e0:e1P id {s with depth:=1} =(.ok (d0R G x.root),{s with depth:=1}):=by
  unfold e1P;rw[a0A (show find id {s with depth:=1} =(.ok x,{s with depth:=1}) by unfold find;rw[show a0C id ({s with depth:=1} :St).vols=some x from a])];unfold i1Y;rw[a0A (h.ci.deep.loadK (h.ci.kid _ (h.ci.mem a)))];rfl
 unfold w0M;rw[a0A (q0U h.ci e0 (Rel.refl h.ci.deep.u)),t1V h.ci.dep h.ci.log h.ci.gone];rfl
end
end
section
def a1S (s:St):St:= {s with g:=g0B s.g,young:= []}
theorem l1Q {fr:Nat} {g:List Nat} {a:Int} :isB fr (g0B g) a 1=isB fr g a 1:=by
 unfold isB g0B;rw[List.length_map,List.getElem?_map];cases h:g[(a-fr).toNat]? with
 |none=>rfl
 |some x=>
  rw[Option.map_some];by_cases b:x=2
  ·subst b;simp
  ·rw[if_neg b]
theorem y0E: ∀g:List Nat,(g0B g).count 1=g.count 1∧g.count 0≤(g0B g).count 0
 | []=>⟨rfl,Nat.le_refl _⟩
 |x::g=>by
  obtain⟨b,c⟩:=y0E g;have e:g0B (x::g)=(if x=2 then 0 else x)::g0B g:=rfl;rw[e,List.count_cons,List.count_cons,List.count_cons,List.count_cons];by_cases a:x=2
  ·subst a;simp;omega
  ·rw[if_neg a];omega
section
variable {s s':St} {G G':Gh} {P P':List Int}
theorem CI.settle (h:CI s G):CI (a1S s) G:=by
 have i:=h.inv;have c:(g0B s.g).length=s.g.length:=by unfold g0B;simp
 refine⟨⟨⟨⟨i.u.m.refs,List.nodup_nil,i.u.m.index,i.u.m.vols⟩,i.u.keep,fun a b=> ?_,i.u.run,?_,?_⟩,i.nod,i.lo,?_,i.refs,i.live,i.zero,fun a=> ?_,i.disk,i.typ,?_,i.lone⟩,h.idx,h.kid,h.ids,h.dep,h.log,h.gone,h.few⟩
 ·exact l1Q.trans (i.u.held a b)
 ·show s.d.l.length=s.fr+(g0B s.g).length;rw[c];exact i.u.size
 ·show s.gone.Nodup∧ ∀a∈s.gone,isB s.fr (g0B s.g) a 2=true;rw[h.gone];exact⟨List.nodup_nil,fun a b=>(by cases b)⟩
 ·show s.fr+(g0B s.g).length≤65535;rw[c];exact i.hi
 ·show isB s.fr (g0B s.g) a 1=true↔_;rw[l1Q];exact i.held a
 ·exact i.cnt.trans (y0E s.g).1.symm
theorem y1P (s:St):a0Y s≤a0Y (a1S s):=(y0E s.g).2
theorem J.settle {P:Rp} (h:J s G P):J (a1S s) G P:=⟨h.ci.settle,h.next,h.pos,h.bits,h.epoch,h.len,h.ord,h.ids,h.vol,h.back⟩
theorem Inv.leafSum (h:Inv s G P) (g:Inv s' G' P') {a f:Int} (j:a0W G 0 a) (i:a0W G' 0 f) (b:d0F G a=d0F G' f):d0R G a=d0R G' f:=by
 rcases j with rfl| ⟨d,t,e⟩<;>rcases i with rfl| ⟨k,l,c⟩
 ·unfold d0R;rw[h.zero,g.zero]
 ·exfalso;unfold d0F at b;rw[h.zero,c]at b;have:=(g.typ _ _ c).2.1;simp only at b;rw[←b,d0N]at this;cases this
 ·exfalso;unfold d0F at b;rw[g.zero,e]at b;have:=(h.typ _ _ e).2.1;simp only at b;rw[b,d0N]at this;cases this
 ·unfold d0F at b;rw[e,c]at b;simp only at b;unfold d0R;rw[e,c,b]
theorem w0P {l i j:Nat} {a:Int} (hi:i<8) (c:j<8^(l+1)):c0P G (l+1) a (i*8^(l+1)+j)=c0P G l ((b0G G a).getD i 0) j:=by
 have b:0<8^(l+1):=Nat.pow_pos (by decide);have d:(b0Q (l+1) (i*8^(l+1)+j)).1=i:=by
  unfold b0Q;simp only;rw[Nat.mul_comm i,Nat.mul_add_div b,Nat.div_eq_of_lt c,Nat.add_zero,Nat.mod_eq_of_lt hi]
 have e:(b0Q (l+1) (i*8^(l+1)+j)).2=j:=by
  unfold b0Q;simp only;rw[Nat.mul_comm i,Nat.mul_add_mod,Nat.mod_eq_of_lt c]
 conv=>lhs;unfold c0P
 rw[d,e]
theorem x2W {a:List Int} (g:a.length=8) (c:a≠e0L): ∃i,i<8∧a.getD i 0≠0:=by
 refine Classical.byContradiction fun d=>c ?_;refine List.ext_getElem (by rw[g];rfl) fun i e f=> ?_;have hi:i<8:=by omega
 have:a.getD i 0=0:=Classical.byContradiction fun h=>d ⟨i,hi,h⟩;rw[List.getD_eq_getElem?_getD,List.getElem?_eq_getElem e]at this;simp only[Option.getD_some]at this;have b:=e2J i;rw[List.getD_eq_getElem?_getD,List.getElem?_eq_getElem f]at b;simp only[Option.getD_some]at b;rw[this,b]
theorem Inv.someLeaf (h:Inv s G P): ∀(l:Nat) {a:Int},a0W G (l+1) a→a≠0→ ∃j,j<8^(l+1)∧a0R (d0F G (c0P G l a j))=false
 |l,a,ha,hne=>by
  obtain⟨k,u,g⟩:=ha.resolve_left hne;obtain⟨t1,m,q,r,v⟩:=h.typ a _ g;have f:b0G G a=k:=by unfold b0G;rw[g]
  obtain⟨i,hi,c⟩:=x2W m q;have b:=r _ (g0Z (i:=i) (by rw[m];exact hi));cases l with
  |zero=>
   obtain⟨d,t,hd⟩:=b.resolve_left c;refine⟨i,by simpa using hi,?_⟩;have e:c0P G 0 a i=k.getD i 0:=by
    unfold c0P b0Q;simp only;rw[f,show i/8^0%8=i by omega]
   rw[e];unfold d0F;rw[hd];exact(h.typ _ _ hd).2.1
  |succ l=>
   obtain⟨j,n,p⟩:=h.someLeaf l b c;have o:8^(l+1+1)=8*8^(l+1):=by rw[Nat.pow_succ];omega
   have:i*8^(l+1)≤7*8^(l+1):=Nat.mul_le_mul_right _ (by omega);exact⟨i*8^(l+1)+j,by rw[o];omega,by rw[w0P hi n,f];exact p⟩
theorem Inv.noLeaf (h:Inv s G P) (l:Nat) {a:Int} (c:a0W G (l+1) a) (f: ∀j,j<8^(l+1)→a0R (d0F G (c0P G l a j))=true):a=0:=by
 refine Classical.byContradiction fun b=> ?_;obtain⟨j,d,e⟩:=h.someLeaf l c b;rw[f j d]at e;cases e
theorem s2M (a:a0C 0 G=none):a0R (d0F G 0)=true:=by unfold d0F;rw[a];exact d0N _
theorem Inv.sumSame (h:Inv s G P) (d:Inv s' G' P'): ∀(l:Nat) {a c:Int},a0W G (l+1) a→a0W G' (l+1) c→(∀j,j<8^(l+1)→d0F G (c0P G l a j)=d0F G' (c0P G' l c j))→d0R G a=d0R G' c
 |l,a,c,ha,ha',he=>by
  by_cases n:a=0
  ·have f:c=0:=d.noLeaf l ha' fun j k=>by rw[←he j k,n,u0K h.zero];exact s2M h.zero
   rw[n,f];unfold d0R;rw[h.zero,d.zero]
  ·have f:c≠0:=fun e=>n (h.noLeaf l ha fun j k=>by rw[he j k,e,u0K d.zero];exact s2M d.zero);obtain⟨o,F,p⟩:=ha.resolve_left n;obtain⟨b,A,g⟩:=ha'.resolve_left f;obtain⟨t1,w,H,B,C⟩:=h.typ a _ p;obtain⟨I,D,J,u4,E⟩:=d.typ c _ g;have u:b0G G a=o:=by unfold b0G;rw[p]
   have m:b0G G' c=b:=by unfold b0G;rw[g]
   have z:o.map (d0R G)=b.map (d0R G'):=by
    refine List.ext_getElem (by simp[w,D]) fun i t x=> ?_;rw[List.getElem_map,List.getElem_map];have hi:i<8:=by simpa [w] using t
    have q:o.getD i 0=o[i]:=by rw[List.getD_eq_getElem?_getD,List.getElem?_eq_getElem];rfl
    have r:b.getD i 0=b[i]:=by rw[List.getD_eq_getElem?_getD,List.getElem?_eq_getElem];rfl
    have k1:=B _ (List.getElem_mem (h:=by simpa using t));have v:=u4 _ (List.getElem_mem (h:=by simpa using x));cases l with
    |zero=>
     refine h.leafSum d k1 v ?_;have:=he i (by simpa using hi);unfold c0P b0Q at this;simp only at this;rw[show i/8^0%8=i by omega,u,m,q,r]at this;exact this
    |succ l=>
     refine h.sumSame d l k1 v fun j k=> ?_;have y:8^(l+1+1)=8*8^(l+1):=by rw[Nat.pow_succ];omega
     have:i*8^(l+1)≤7*8^(l+1):=Nat.mul_le_mul_right _ (by omega);have:=he (i*8^(l+1)+j) (by rw[y];omega);rw[w0P hi k,w0P hi k,u,m,q,r]at this;exact this
   unfold d0R;rw[p,g];simp only;rw[C,E,z]
theorem Inv.sumMap (h:Inv s G P) (e:Inv s' G' P') {a b:Int} (f:a0W G 3 a) (c:a0W G' 3 b) (g:a0Z G a=a0Z G' b):d0R G a=d0R G' b:=h.sumSame e 2 f c fun j d=>by
 have:=congrFun g j;unfold a0Z at this;rw[if_pos d,if_pos d]at this;exact this
end
end
section
structure c1K (k:Nat) (id at_ n:Int) (data:B) (s:St) (P:Rp) (e f:Int) (t:St) (Q:Rp):Prop where
 k0:k=0→ ∃m,f0T n s=(.ok (m,e),t)∧(e0R P n).2.2=f∧(e=0→m=(e0R P n).2.1)∧(e≠0→m=0)∧Q=if e=0 then(e0R P n).1 else P
 k1:k=1∨k=2→ ∃m,h0S id (decide (k=1)) s=(.ok (m,e),t)∧(i0P P id (decide (k=1))).2.2=f∧(e=0→m=(i0P P id (decide (k=1))).2.1)∧(e≠0→m=0)∧Q=if e=0 then(i0P P id (decide (k=1))).1 else P
 k3:k=3→q0W id s=(.ok e,t)∧(g0R P id).2=f∧Q=if e=0 then(g0R P id).1 else P
 k4:k=4→q0X id n s=(.ok e,t)∧(g0S P id n).2=f∧Q=if e=0 then(g0S P id n).1 else P
 k5:4<k∧k<9→h0K id at_ data s=(.ok e,t)∧(i0Y P id at_ data).2=f∧Q=if e=0 then(i0Y P id at_ data).1 else P
 k9:k=9∨k=10→v0U id at_ n s=(.ok e,t)∧(l0S P id at_ n).2=f∧Q=if e=0 then(l0S P id at_ n).1 else P
 k11:k=11→n0Y id at_ n s=(.ok (m0A P id at_ n),t)∧(m0A P id at_ n).2=e∧Q=P
 k12:k=12→t= {s with epoch:=n%256} ∧e=0∧Q= {P with epoch:=n%256}
 k13:k=13→t=a1S s∧e=0∧Q=P
 rest:10<k→f=e
 same:e=f∨e=8
def e0V (id:Int) (P Q:Rp):Prop:= ∀v∈P.l,v.id≠id→v∈Q.l
theorem e0V.refl (id:Int) (P:Rp):e0V id P P:=fun _ h _=>h
theorem l1R (id:Int) (P:Rp) (v:Vp):e0V id P (g0M P v).1:=fun w a _=>by
 unfold g0M;split
 ·exact a
 ·exact List.mem_append_left _ a
theorem q1B {id:Int} {P:Rp} {i:Nat} {w:Vp} (d: ∀h:i<P.l.length,P.l[i].id=id): ∀v∈P.l,v.id≠id→v∈P.l.set i w:=fun v f b=>by
 obtain⟨k,c,rfl⟩:=List.mem_iff_getElem.1 f;have a:i≠k:=fun e=>by subst e;exact b (d c)
 have:(P.l.set i w)[k]'(by simpa using c)=P.l[k]:=List.getElem_set_ne a _;rw[←this];exact List.getElem_mem _
theorem m0U (i:Nat): ∀(k:Nat) (c:Rp) (at_:Nat) (d:B),i<c.l.length→ ∃m,(d0I i k c at_ d).1=d0K c i m
 |0,c,_,_,hi=>⟨(c.l.getD i v0).m,(o0C hi).symm⟩
 |k+1,c,at_,d,hi=>by
  rw[d0I];split
  ·exact⟨(c.l.getD i v0).m,(o0C hi).symm⟩
  ·simp only;split
   ·exact⟨(c.l.getD i v0).m,(o0C hi).symm⟩
   ·obtain⟨m,h⟩:=m0U i k (d0K c i (k0L (c.l.getD i v0).m (at_/4:Nat) (c1C (f0Y (at_/4:Nat) (c.l.getD i v0).m) d (at_%4*64) (min d.length (256-at_%4*64))))) (at_+min d.length (256-at_%4*64)/64) (d.drop (min d.length (256-at_%4*64))) (by rw[q0V];exact hi);exact⟨m,h.trans (q0B hi)⟩
theorem k0P (i:Nat) (c:Rp) (f u:Nat) (hi:i<c.l.length): ∃m,(e0A c i f u).1=d0K c i m:=by
 unfold e0A;simp only;split
 ·exact m0U i _ c f _ hi
 ·split
  ·exact⟨(c.l.getD i v0).m,(o0C hi).symm⟩
  ·split
   ·exact⟨(c.l.getD i v0).m,(o0C hi).symm⟩
   ·obtain⟨d,a⟩:=m0U i ((4*((f+3)/4)-f)*64) c f (a0L ((4*((f+3)/4)-f)*64)) hi;rw[a,q0B hi];obtain⟨e,b⟩:=m0U i ((u-4*(u/4))*64) (d0K c i (h0G ((d0K c i d).l.getD i v0).m ((f+3)/4:Nat) (u/4:Nat))) (4*(u/4)) (a0L ((u-4*(u/4))*64)) (by rw[q0V];exact hi);exact⟨e,b.trans (q0B hi)⟩
theorem l1S {id:Int} {P:Rp} {i:Nat} {m:List Lf} (a: ∀h:i<P.l.length,P.l[i].id=id):e0V id P (d0K P i m):=q1B a
theorem y1Q (id at_:Int) (data:B) (P:Rp):e0V id P (i0Y P id at_ data).1:=by
 cases a:c0Q P.l id with
 |none=>unfold i0Y;rw[a];exact e0V.refl _ _
 |some i=>
  obtain⟨hi,b⟩:=i0Q a;rw[v0V a];split
  ·exact e0V.refl _ _
  split
  ·exact e0V.refl _ _
  split
  ·exact e0V.refl _ _
  split
  ·exact e0V.refl _ _
  ·obtain⟨m,e⟩:=m0U i data.length P at_.toNat data hi;simp only;rw[e];exact l1S fun _=>b
theorem e2S (id at_ n:Int) (P:Rp):e0V id P (l0S P id at_ n).1:=by
 cases a:c0Q P.l id with
 |none=>unfold l0S;rw[a];exact e0V.refl _ _
 |some i=>
  obtain⟨hi,b⟩:=i0Q a;rw[y0D a];split
  ·exact e0V.refl _ _
  split
  ·exact e0V.refl _ _
  ·obtain⟨m,e⟩:=k0P i P at_.toNat (at_+n).toNat hi;rw[e];exact l1S fun _=>b
theorem u1N (id size:Int) (P:Rp):e0V id P (g0S P id size).1:=by
 cases a:c0Q P.l id with
 |none=>unfold g0S;rw[a];exact e0V.refl _ _
 |some i=>
  obtain⟨hi,b⟩:=i0Q a;rw[t0P a];split
  ·exact e0V.refl _ _
  split
  ·exact e0V.refl _ _
  split
  ·exact e0V.refl _ _
  ·have: ∃m,(j0P P i size).1=d0K P i m:=by
    unfold j0P;split
    ·exact k0P i P _ _ hi
    ·exact⟨_,(o0C hi).symm⟩
   obtain⟨m,e⟩:=this;simp only;rw[e];unfold d0K;simp only[List.set_set];exact q1B (P:=P) fun _=>b
theorem u1O (id:Int) (P:Rp):e0V id P (g0R P id).1:=by
 cases a:c0Q P.l id with
 |none=>unfold g0R;rw[a];exact e0V.refl _ _
 |some i=>
  obtain⟨hi,c⟩:=i0Q a;unfold g0R;rw[a];intro w f b;obtain⟨k,d,rfl⟩:=List.mem_iff_getElem.1 f;show _∈P.l.eraseIdx i;rw[List.mem_eraseIdx_iff_getElem];exact⟨k,d,fun e=>by subst e;exact b c,rfl⟩
theorem u1P {id:Int} {P Q:Rp} {p:Prop} [Decidable p] (h:e0V id P Q):e0V id P (if p then Q else P):=by
 split
 ·exact h
 ·exact e0V.refl _ _
theorem u1Q (id size:Int) (P:Rp):e0V id P (e0R P size).1:=by
 unfold e0R;split
 ·exact e0V.refl _ _
 ·exact l1R _ _ _
theorem e2T (id a:Int) (only:Bool) (P:Rp):e0V id P (i0P P a only).1:=by
 unfold i0P;split
 ·exact e0V.refl _ _
 ·exact l1R _ _ _
def Bud (i:Nat) (s:St) (P:Rp):Prop:= ∃w t,w+t≤i∧Few (4*w) P∧2498≤a0Y s+96*w+t*(48+12*w)
theorem j2T: ∀w,w<18→ ∀t,t<18→w+t≤17→96*w+t*(48+12*w)≤2150:=by decide
theorem o2Y {i:Nat} {s:St} {P:Rp} {w t:Nat} (hi:i≤17) (h:w+t≤i) (a:2498≤a0Y s+96*w+t*(48+12*w)):340≤a0Y s∧w≤17:=by
 have:=j2T w (by omega) t (by omega) (by omega);omega
section
variable {s:St} {G:Gh} {P:Rp}
theorem q1C (P:Rp) (v:Vp):(g0M P v).1.next≤P.next+1:=by
 unfold g0M;split<;>simp only<;>omega
theorem e2U (id at_:Int) (data:B) (P:Rp):(i0Y P id at_ data).1.next=P.next:=by
 cases a:c0Q P.l id with
 |none=>unfold i0Y;rw[a]
 |some i=>
  obtain⟨hi,_⟩:=i0Q a;rw[v0V a]
  repeat' split
  all_goals first|rfl| (simp only;obtain⟨m,e⟩:=m0U i data.length P at_.toNat data hi;rw[e];rfl)
theorem j2U (id at_ n:Int) (P:Rp):(l0S P id at_ n).1.next=P.next:=by
 cases a:c0Q P.l id with
 |none=>unfold l0S;rw[a]
 |some i=>
  obtain⟨hi,_⟩:=i0Q a;rw[y0D a]
  repeat' split
  all_goals first|rfl| (obtain⟨m,e⟩:=k0P i P at_.toNat (at_+n).toNat hi;rw[e];rfl)
theorem y1R (id n:Int) (P:Rp):(g0S P id n).1.next=P.next:=by
 cases a:c0Q P.l id with
 |none=>unfold g0S;rw[a]
 |some i=>
  obtain⟨hi,_⟩:=i0Q a;rw[t0P a];have:(j0P P i n).1.next=P.next:=by
   unfold j0P;split
   ·obtain⟨m,e⟩:=k0P i P n.toNat (P.l.getD i v0).size.toNat hi;rw[e];rfl
   ·rfl
  repeat' split
  all_goals first|rfl|exact this
theorem J.act (h:J s G P) {i:Nat} (R:Bud i s P) (hi:i≤17) (S:P.next<1000000) {k:Nat} (p:k<14) (id at_ n:Int) {data:B} (hd:data.length%64=0→data.length≤768):
 ∃e t Q G',c1K k id at_ n data s P e e t Q∧J t G' Q∧Bud (i+1) t Q∧Q.next≤P.next+1∧e0V id P Q:=by
 obtain⟨w,tt,E,o,u⟩:=R;obtain⟨D,H⟩:=o2Y (P:=P) hi E u;have b: ∀ {s':St} {Q:Rp},a0Y s≤a0Y s'→Few (4*w) Q→Bud (i+1) s' Q:=fun f d=>⟨w,tt,by omega,d,by omega⟩;have made: ∀ {m:M (Int×Int)} {r:Rp×Int×Int},s1F s G P m r (4*w)→(r.1.next≤P.next+1)→e0V id P r.1→ ∃e t Q G',(∃n,m s=(.ok (n,e),t)∧r.2.2=e∧(e=0→n=r.2.1)∧(e≠0→n=0)∧Q=if e=0 then r.1 else P)∧J t G' Q∧Bud (i+1) t Q∧Q.next≤P.next+1∧e0V id P Q:=by
  rintro m r ⟨s',n,y,L,O,z,A,C⟩ x v;refine⟨r.2.2,s',_,G,⟨n,y,rfl,L,O,rfl⟩,z,b A C,?_,u1P v⟩;split
  ·exact x
  ·omega
 have c: ∀ {m:M Int} {r:Rp×Int} {K N:Nat},o1I s P m r K N→(∀ {s':St} {Q:Rp},a0Y s≤a0Y s'+K→Few N Q→Bud (i+1) s' Q)→e0V id P r.1→r.1.next=P.next→ ∃e t Q G',(m s=(.ok e,t)∧r.2=e∧Q=if e=0 then r.1 else P)∧J t G' Q∧Bud (i+1) t Q∧Q.next≤P.next+1∧e0V id P Q:=by
  rintro m r K N ⟨s',G',y,z,A,C⟩ hb v x;refine⟨r.2,s',_,G',⟨y,rfl,rfl⟩,z,hb A C,?_,u1P v⟩;split
  ·omega
  ·omega
 have F: ∀ {s':St} {Q:Rp},a0Y s≤a0Y s'+(48+4*w*3)→Few (4*w) Q→Bud (i+1) s' Q:=fun f d=>⟨w,tt+1,by omega,d,by have e:(tt+1)*(48+12*w)=tt*(48+12*w)+(48+12*w):=Nat.succ_mul _ _;omega⟩;have I: ∀ {s':St} {Q:Rp},a0Y s≤a0Y s'+40→Few (4*w+4) Q→Bud (i+1) s' Q:=fun f d=>⟨w+1,tt,by omega,by rw[show 4*(w+1)=4*w+4 by omega];exact d,by have e:=Nat.mul_add tt (48+12*w) 12;rw[show 48+12*(w+1)=48+12*w+12 by omega];omega⟩;have q:k=0∨(k=1∨k=2)∨k=3∨k=4∨(4<k∧k<9)∨(k=9∨k=10)∨k=11∨k=12∨k=13:=by omega
 rcases q with p|p|p|p|p|p|p|p|p
 ·obtain⟨e,t,Q,G',f,d,g,j,l⟩:=made (h.create o (by omega) (by omega) n) (by unfold e0R;split;(· simp only;omega);(· exact q1C _ _)) (u1Q _ _ _);exact⟨e,t,Q,G',⟨fun _=>f,(fun a=>absurd a (by omega)),(fun a=>absurd a (by omega)),(fun a=>absurd a (by omega)),(fun a=>absurd a (by omega)),(fun a=>absurd a (by omega)),(fun a=>absurd a (by omega)),(fun a=>absurd a (by omega)),(fun a=>absurd a (by omega)),fun _=>rfl,.inl rfl⟩,d,g,j,l⟩
 ·obtain⟨e,t,Q,G',f,d,g,j,l⟩:=made (h.copy o (by omega) (by omega) id (decide (k=1))) (by unfold i0P;split;(· simp only;omega);(· exact q1C _ _)) (e2T _ _ _ _);exact⟨e,t,Q,G',⟨(fun a=>absurd a (by omega)),fun _=>f,(fun a=>absurd a (by omega)),(fun a=>absurd a (by omega)),(fun a=>absurd a (by omega)),(fun a=>absurd a (by omega)),(fun a=>absurd a (by omega)),(fun a=>absurd a (by omega)),(fun a=>absurd a (by omega)),fun _=>rfl,.inl rfl⟩,d,g,j,l⟩
 ·obtain⟨e,t,Q,G',f,d,g,j,l⟩:=c (h.delete o id (by have:=h.len;have:=h.ci.few;omega)) b (u1O _ _) (by unfold g0R;split<;>rfl);exact⟨e,t,Q,G',⟨(fun a=>absurd a (by omega)),(fun a=>absurd a (by omega)),fun _=>f,(fun a=>absurd a (by omega)),(fun a=>absurd a (by omega)),(fun a=>absurd a (by omega)),(fun a=>absurd a (by omega)),(fun a=>absurd a (by omega)),(fun a=>absurd a (by omega)),fun _=>rfl,.inl rfl⟩,d,g,j,l⟩
 ·obtain⟨e,t,Q,G',f,d,g,j,l⟩:=c (h.resize o id n (by omega) (by omega)) F (u1N _ _ _) (y1R _ _ _);exact⟨e,t,Q,G',⟨(fun a=>absurd a (by omega)),(fun a=>absurd a (by omega)),(fun a=>absurd a (by omega)),fun _=>f,(fun a=>absurd a (by omega)),(fun a=>absurd a (by omega)),(fun a=>absurd a (by omega)),(fun a=>absurd a (by omega)),(fun a=>absurd a (by omega)),fun _=>rfl,.inl rfl⟩,d,g,j,l⟩
 ·obtain⟨e,t,Q,G',f,d,g,j,l⟩:=c (h.write o id at_ hd (by omega)) I (y1Q _ _ _ _) (e2U _ _ _ _);exact⟨e,t,Q,G',⟨(fun a=>absurd a (by omega)),(fun a=>absurd a (by omega)),(fun a=>absurd a (by omega)),(fun a=>absurd a (by omega)),fun _=>f,(fun a=>absurd a (by omega)),(fun a=>absurd a (by omega)),(fun a=>absurd a (by omega)),(fun a=>absurd a (by omega)),fun _=>rfl,.inl rfl⟩,d,g,j,l⟩
 ·obtain⟨e,t,Q,G',f,d,g,j,l⟩:=c (h.trim o id at_ n (by omega) (by omega)) F (e2S _ _ _ _) (j2U _ _ _ _);exact⟨e,t,Q,G',⟨(fun a=>absurd a (by omega)),(fun a=>absurd a (by omega)),(fun a=>absurd a (by omega)),(fun a=>absurd a (by omega)),(fun a=>absurd a (by omega)),fun _=>f,(fun a=>absurd a (by omega)),(fun a=>absurd a (by omega)),(fun a=>absurd a (by omega)),fun _=>rfl,.inl rfl⟩,d,g,j,l⟩
 ·obtain⟨t,f,d,g⟩:=h.read id at_ n;exact⟨(m0A P id at_ n).2,t,P,G,⟨(fun a=>absurd a (by omega)),(fun a=>absurd a (by omega)),(fun a=>absurd a (by omega)),(fun a=>absurd a (by omega)),(fun a=>absurd a (by omega)),(fun a=>absurd a (by omega)),fun _=>⟨f,rfl,rfl⟩,(fun a=>absurd a (by omega)),(fun a=>absurd a (by omega)),fun _=>rfl,.inl rfl⟩,d,b g o,by omega,e0V.refl _ _⟩
 ·exact⟨0,{s with epoch:=n%256},{P with epoch:=n%256},G,⟨(fun a=>absurd a (by omega)),(fun a=>absurd a (by omega)),(fun a=>absurd a (by omega)),(fun a=>absurd a (by omega)),(fun a=>absurd a (by omega)),(fun a=>absurd a (by omega)),(fun a=>absurd a (by omega)),fun _=>⟨rfl,rfl,rfl⟩,(fun a=>absurd a (by omega)),fun _=>rfl,.inl rfl⟩,h.epoch_ _,b (Nat.le_refl _) o,by simp only;omega,e0V.refl _ _⟩
 ·exact⟨0,a1S s,P,G,⟨(fun a=>absurd a (by omega)),(fun a=>absurd a (by omega)),(fun a=>absurd a (by omega)),(fun a=>absurd a (by omega)),(fun a=>absurd a (by omega)),(fun a=>absurd a (by omega)),(fun a=>absurd a (by omega)),(fun a=>absurd a (by omega)),fun _=>⟨rfl,rfl,rfl⟩,fun _=>rfl,.inl rfl⟩,h.settle,b (y1P s) o,by omega,e0V.refl _ _⟩
end
end
end Go.Sb
