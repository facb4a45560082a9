/- Part of the proof; no statement of its own. -/
import Derived.Test.YtpinhnikemamjaaGreatDoorS14
set_option linter.all false
set_option maxRecDepth 4000
set_option maxHeartbeats 4000000
namespace Go.Sb
section
def Few (N:Nat) (P:Rp):Prop:= ∀v∈P.l,v.m.length≤N
theorem Few.mono {N M:Nat} {P:Rp} (h:Few N P) (hm:N≤M):Few M P:=fun v hv=>Nat.le_trans (h v hv) hm
def o1I (s:St) (P:Rp) (m:M Int) (r:Rp×Int) (K N:Nat):Prop:= ∃s' G',m s=(.ok r.2,s')∧J s' G' (if r.2=0 then r.1 else P)∧a0Y s≤a0Y s'+K∧Few N (if r.2=0 then r.1 else P)
def c1I (s:St) (P:Rp) (m:M Int) (r:Rp×Int) (K B N:Nat):Prop:= ∃e s' G',m s=(.ok e,s')∧J s' G' (if e=0 then r.1 else P)∧(e=r.2∨e=8∧a0Y s<2*P.l.length+B)∧a0Y s≤a0Y s'+K∧(2*P.l.length≤a0Y s→2*(if e=0 then r.1 else P).l.length≤a0Y s')∧Few N (if e=0 then r.1 else P)
theorem c1I.ends {s:St} {P:Rp} {m:M Int} {r:Rp×Int} {K B N:Nat} (h:c1I s P m r K B N) (hr:2*P.l.length+B≤a0Y s):o1I s P m r K N:=by
 obtain⟨e,s',G',h1,h2,h3,h4,_,h6⟩:=h;obtain rfl:e=r.2:=by omega
 exact⟨s',G',h1,h2,h4,h6⟩
theorem v0V {P:Rp} {id at_:Int} {data:B} {i:Nat} (h:c0Q P.l id=some i):i0Y P id at_ data=if(P.l.getD i v0).only=true then(P,7)else if data.length%64≠0 then(P,4)else if m0Q (P.l.getD i v0) at_ (data.length/64:Nat)=true then(P,6)else
 if(d0I i data.length P at_.toNat data).2≠0 then(P,(d0I i data.length P at_.toNat data).2)else((d0I i data.length P at_.toNat data).1,0):=by unfold i0Y;rw[h]
theorem y0D {P:Rp} {id at_ n:Int} {i:Nat} (h:c0Q P.l id=some i):l0S P id at_ n=if(P.l.getD i v0).only=true then(P,7)else if m0Q (P.l.getD i v0) at_ n=true then(P,6)else e0A P i at_.toNat (at_+n).toNat:=by unfold l0S;rw[h]
def j0P (P:Rp) (i:Nat) (size:Int):Rp×Int:=if size<(P.l.getD i v0).size then e0A P i size.toNat (P.l.getD i v0).size.toNat else(P,0)
theorem t0P {P:Rp} {id size:Int} {i:Nat} (h:c0Q P.l id=some i):g0S P id size=if(P.l.getD i v0).only=true then(P,7)else if size<1∨2048<size then(P,4)else
 if(j0P P i size).2≠0 then(P,(j0P P i size).2)else({(j0P P i size).1 with l:=(j0P P i size).1.l.set i {(j0P P i size).1.l.getD i v0 with size:=size}},0):=by unfold g0S;rw[h];rfl
section
variable {s:St} {G:Gh} {P:Rp} {N:Nat}
theorem J.fails {m:M Unit} {er:Int} {t:St} {r:Rp×Int} {K B M':Nat} (h:J s G P) (hF:Few N P) (hN:N≤M') (hu:UMe m) (e:m (start s 0)=(.err er,t)) (her:er≠0) (hr:er=r.2∨er=8∧a0Y s<2*P.l.length+B):c1I s P (a0B (i0K (e0M 0 m)) fun r=>ret r.1) r K B M':=by
 obtain⟨s',e1,t1⟩:=h.ci.failed hu e her;have hroom:=t1.room;refine⟨er,s',G,by rw[a0A e1];rfl,?_,hr,by omega,?_,?_⟩
 ·rw[if_neg her];exact h.still t1
 ·rw[if_neg her];omega
 ·rw[if_neg her];exact hF.mono hN
theorem J.spare {C K:Nat} {u s':St} {G':Gh} (h:J s G P) (t2:Stp C K (start s 0) G u G') (hq:a0Y u≤a0Y s') (hsp:2*P.l.length≤a0Y s):2*P.l.length≤a0Y s':=by
 have hl:=h.len;have h2:(start s 0).keep=((2*(s.vols.length+0):Nat):Int):=rfl;have h1:=t2.safe (by show((2*(s.vols.length+0):Nat):Int)≤(a0Y s:Int);omega);rw[t2.keep,h2]at h1;omega
theorem c1J {x:Ent} {v:Vp} (hx:x.size=v.size) (hs:x.size≤2048) (a n:Int) (s:St):h0J x a n s=if m0Q v a n then(.err 6,s)else(.ok (),s):=by
 unfold h0J l0U m0Q;rw[if_neg (by omega),←hx];by_cases h:a<0∨n<0∨x.size<a∨x.size-a<n
 ·rw[if_pos h,decide_eq_true h];rfl
 ·rw[if_neg h,decide_eq_false h];rfl
theorem J.size (h:J s G P) {id:Int} {x:Ent} (hx:a0C id s.vols=some x):x.id=id∧1≤x.size∧x.size≤2048:=h.ci.ids _ (h.ci.mem hx)
theorem g1T {i:Nat} {v:Vp} {M':Nat} (hF:Few N P) (hN:N≤M') (hv:v.m.length≤M'):Few M' {P with l:=P.l.set i v} :=fun w hw=>by
 rcases List.mem_or_eq_of_mem_set hw with h1|rfl
 ·exact(hF.mono hN) w h1
 ·exact hv
theorem t0Q (hF:Few N P) {i:Nat} (hi:i<P.l.length):(P.l.getD i v0).m.length≤N:=by rw[r0O hi];exact hF _ (List.getElem_mem hi)
theorem J.deleteS (h:J s G P) (hF:Few N P) (id:Int):c1I s P (q0W id) (g0R P id) 0 0 N:=by
 unfold q0W;cases hf:c0Q P.l id with
 |none=>
  refine h.fails hF (Nat.le_refl _) (e2R id) (er:=5) (t:=start s 0) ?_ (by decide) (.inl (by unfold g0R;rw[hf]));unfold q0C;exact a0F (show find id (start s 0)=(.err 5,start s 0) by unfold find;rw[show a0C id (start s 0).vols=none from h.missing hf])
 |some i=>
  obtain⟨hi,x,he,hx,hr⟩:=h.found hf;obtain⟨s',G',e1,c1,v1,m1,n1,p1,b1,f1⟩:=h.ci.deleted hx;have er:g0R P id=({P with l:=P.l.eraseIdx i},0):=by unfold g0R;rw[hf]
  rw[er];refine⟨0,s',G',by rw[a0A e1];rfl,?_,.inl rfl,by omega,?_,?_⟩
  ·exact h.del hi he hx c1 v1 m1 n1 p1 b1
  ·intro hsp;show 2*(P.l.eraseIdx i).length≤_;rw[List.length_eraseIdx];split<;>omega
  ·exact fun v hv=>hF v (List.mem_of_mem_eraseIdx hv)
theorem J.delete (h:J s G P) (hF:Few N P) (id:Int) (hr:2*P.l.length≤a0Y s):o1I s P (q0W id) (g0R P id) 0 N:=(h.deleteS hF id).ends hr
theorem J.writeS (h:J s G P) (hF:Few N P) (id at_:Int) {data:B} (hd:data.length%64=0→data.length≤768):c1I s P (h0K id at_ data) (i0Y P id at_ data) 40 (8*(min data.length 768/256+2)) (N+4):=by
 unfold h0K;cases hf:c0Q P.l id with
 |none=>exact h.fails hF (by omega) (s0T id at_ data) (er:=5) (t:=start s 0) (by unfold i0X;exact a0F (c1G (h.missing hf))) (by decide) (.inl (by unfold i0Y;rw[hf]))
 |some i=>
  obtain⟨hi,x,he,hx,hr⟩:=h.found hf;have hsz:=h.size hx;have er:=v0V (at_:=at_) (data:=data) hf;by_cases ho:(P.l.getD i v0).only=true
  ·rw[if_pos ho]at er;exact h.fails hF (by omega) (s0T id at_ data) (er:=7) (t:=start s 0) (by unfold i0X;exact a0F (c1H hx (hr.only.trans ho))) (by decide) (.inl (by rw[er]))
  rw[if_neg ho]at er;have hop:=h.ci.copened hx (show x.only=false by rw[hr.only];simpa using ho);by_cases h64:data.length%64≠0
  ·rw[if_pos h64]at er;exact h.fails hF (by omega) (s0T id at_ data) (er:=4) (t:=start s 0) (by unfold i0X;rw[a0A hop,if_pos h64];rfl) (by decide) (.inl (by rw[er]))
  rw[if_neg h64]at er;have hd:=hd (by omega);have hw:=c1J hr.size hsz.2.2 at_ (data.length/64:Nat) (start s 0);by_cases hb:m0Q (P.l.getD i v0) at_ (data.length/64:Nat)=true
  ·rw[if_pos hb]at er hw;exact h.fails hF (by omega) (s0T id at_ data) (er:=6) (t:=start s 0) (by unfold i0X;rw[a0A hop,if_neg h64];exact a0F hw) (by decide) (.inl (by rw[er]))
  rw[if_neg hb]at er hw;have hbad: ¬(at_<0∨((data.length/64:Nat):Int)<0∨(P.l.getD i v0).size<at_∨(P.l.getD i v0).size-at_<((data.length/64:Nat):Int)):=fun hh=>hb (decide_eq_true hh);have hsv:=hr.size;have e0:i0X id at_ data (start s 0)=a0B (e0T x at_.toNat data) m0H (start s 0):=by
   unfold i0X;rw[a0A hop,if_neg h64,a0A hw]
  have hC:=z0C;obtain⟨m,hm⟩: ∃m,m=min data.length 768/256+2:=⟨_,rfl⟩;have hm5:m≤5:=by omega
  have hol:=h.ci.othersLen hx;have hmC:m*m0L≤5*12666:=Nat.mul_le_mul hm5 hC;have hpat:=Inv.patch m0L rfl data.length m (x:=x) (at_:=at_.toNat) (data:=data) (h.ci.roots hx) (h.ci.start 0).2 (h.ci.kid _ (h.ci.mem hx)) (h.ci.othersKid id) (by omega) (by omega) (by omega) (h1R h.ci (by omega) 0) (by omega);rw[l1O,show(start s 0).bits=P.bits from h.bits]at hpat;have hrel:=r0P i data.length P (a0Z G x.root) (o0A s G id) at_.toNat data hi (h.others hi he) hr.map (h.uniq hx) (by omega) (by omega) (Nat.le_refl _);rcases hpat with ⟨r,u,G',e1,i2,t2,k2,k3,m2,n2⟩| ⟨e,u,e1,he9⟩
  ·rcases hrel with ⟨g1,_⟩| ⟨_,m',g2,g3,_,g5,_⟩
   ·exact(n2 g1).elim
   ·obtain⟨s',e3,c3,v3,o3,q1,q2,q3,q4⟩:=h.ci.edited hx e0 e1 hsz.1 hsz.2 i2 t2 k2 k3 (by omega);rw[g2,if_neg (fun hh=>hh rfl)]at er;rw[er];refine⟨0,s',G',by rw[a0A e3];rfl,?_,.inl rfl,by omega,?_,?_⟩
    ·rw[←m2]at g3;exact h.set hi he hx c3 v3 o3 q1 q2 q3 he ⟨hr.parent,hr.only,hr.size,hr.born,g3⟩
    ·intro hsp;have:=h.spare t2 q4.2 hsp;rw[if_pos rfl];show 2*(P.l.set i _).length≤_;rw[List.length_set];exact this
    ·refine g1T hF (by omega) ?_;show m'.length≤N+4;have:=t0Q hF hi;unfold e2O at g5;split at g5<;>omega
  ·have h3:a0Y (start s 0)=a0Y s:=rfl;have h4:(start s 0).keep=((2*(s.vols.length+0):Nat):Int):=rfl;have hlen:=h.len;rcases he9 with ⟨h9,h8⟩| ⟨h9,hno⟩
   ·rw[h3,h4]at h8;exact h.fails hF (by omega) (s0T id at_ data) (er:=8) (t:=u) (by rw[e0];subst h9;exact a0F e1) (by decide) (.inr ⟨rfl,by omega⟩)
   ·rcases hrel with ⟨_,g2⟩| ⟨g1,_⟩
    ·rw[if_pos (by rw[g2];decide),g2]at er;exact h.fails hF (by omega) (s0T id at_ data) (er:=9) (t:=u) (by rw[e0];subst h9;exact a0F e1) (by decide) (.inl (by rw[er]))
    ·exact(g1 hno).elim
theorem J.write (h:J s G P) (hF:Few N P) (id at_:Int) {data:B} (hd:data.length%64=0→data.length≤768) (hroom:128≤a0Y s):o1I s P (h0K id at_ data) (i0Y P id at_ data) 40 (N+4):=(h.writeS hF id at_ hd).ends (by have:=h.len;have:=h.ci.few;omega)
theorem J.noughts (h:J s G P) (hF:Few N P) {id:Int} {i:Nat} {x:Ent} {fr u:Nat} (hi:i<P.l.length) (he:(P.l.getD i v0).id=id) (hx:a0C id s.vols=some x) (hr:u1L G (P.l.getD i v0) x) (hfu:fr≤u) (hu:u≤2048) (hN:N≤80):
 (∃r t G' m',i0C x fr u (start s 0)=(.ok {x with root:=r},t)∧Inv t G' (r::l0L s id)∧Stp (6*m0L+N*g0H 2) (48+N*3) (start s 0) G t G'∧a0W G' 3 r∧(∀p∈l0L s id,a0W G' 3 p∧a0Z G' p=a0Z G p)∧
  e0A P i fr u=(d0K P i m',0)∧l0K m' (a0Z G' r)∧m'.length≤N)∨ ∃t er,i0C x fr u (start s 0)=(.err er,t)∧er≠0∧(er=(e0A P i fr u).2∧er=9∨er=8∧a0Y s<2*P.l.length+(48+N*3)):=by
 have hC:=z0C;have hC2:g0H 2≤12666:=Nat.le_trans (Nat.le_add_left _ 16) hC;have hol:=h.ci.othersLen hx;have hNC:N*g0H 2≤80*12666:=Nat.mul_le_mul hN hC2;have hrel:=u1I (fr:=fr) (u:=u) hi (h.others hi he) hr.map (h.uniq hx) hfu hu;have hml:=t0Q hF hi;have hcl:=Inv.cclear (L:=N) m0L (g0H 2) rfl rfl (x:=x) (h.ci.roots hx) (h.ci.start 0).2 (h.ci.kid _ (h.ci.mem hx)) (h.ci.othersKid id) hfu hu ⟨Nat.zero_lt_one,by show 1+(6*m0L+N*g0H 2)+10<1000000000;omega,by show s.gone.length+(6*m0L+N*g0H 2)+10<1000000000;rw[h.ci.gone];simp only[List.length_nil];omega⟩ (by omega);rw[l1O,show(start s 0).bits=P.bits from h.bits]at hcl;have hcl:=hcl fun hs hno=>by
  rcases r0P i ((4*((fr+3)/4)-fr)*64) P (a0Z G x.root) (o0A s G id) fr (a0L ((4*((fr+3)/4)-fr)*64)) hi (h.others hi he) hr.map (h.uniq hx) (by rw[g0J];omega) (by rw[g0J];omega) (by rw[g0J];exact Nat.le_refl _)with ⟨g1,_⟩| ⟨_,m1,_,g3,_,_,g6⟩
  ·exact(hno g1).elim
  ·exact⟨m1,g3,Nat.le_trans (g6 (w0N _)) hml⟩
 rcases hcl with ⟨r,t,G',e1,i2,t2,k2,k3,m2,n2⟩| ⟨e,t,e1,he9⟩
 ·rcases hrel with ⟨g1,_⟩| ⟨_,m',g2,g3,_,g5⟩
  ·exact(n2 g1).elim
  ·exact .inl ⟨r,t,G',m',e1,i2,t2,k2,k3,g2,by rw[m2];exact g3,by omega⟩
 ·have h3:a0Y (start s 0)=a0Y s:=rfl;have h4:(start s 0).keep=((2*(s.vols.length+0):Nat):Int):=rfl;have hlen:=h.len;rcases he9 with ⟨h9,h8⟩| ⟨h9,hno⟩
  ·rw[h3,h4]at h8;exact .inr ⟨t,e,e1,by omega,.inr ⟨h9,by omega⟩⟩
  ·rcases hrel with ⟨_,g2⟩| ⟨g1,_⟩
   ·exact .inr ⟨t,e,e1,by omega,.inl ⟨h9.trans g2.symm,h9⟩⟩
   ·exact(g1 hno).elim
theorem s2L (N:Nat) (hN:N≤80):6*m0L+N*g0H 2≤900000000:=by
 have hC:=z0C;have hC2:g0H 2≤12666:=Nat.le_trans (Nat.le_add_left _ 16) hC;have:=Nat.mul_le_mul hN hC2;omega
theorem J.trimS (h:J s G P) (hF:Few N P) (id at_ n:Int) (hN:N≤80):c1I s P (v0U id at_ n) (l0S P id at_ n) (48+N*3) (48+N*3) N:=by
 unfold v0U;cases hf:c0Q P.l id with
 |none=>exact h.fails hF (Nat.le_refl _) (c1F id at_ n) (er:=5) (t:=start s 0) (by unfold r0Q;exact a0F (c1G (h.missing hf))) (by decide) (.inl (by unfold l0S;rw[hf]))
 |some i=>
  obtain⟨hi,x,he,hx,hr⟩:=h.found hf;have hsz:=h.size hx;have er:=y0D (at_:=at_) (n:=n) hf;by_cases ho:(P.l.getD i v0).only=true
  ·rw[if_pos ho]at er;exact h.fails hF (Nat.le_refl _) (c1F id at_ n) (er:=7) (t:=start s 0) (by unfold r0Q;exact a0F (c1H hx (hr.only.trans ho))) (by decide) (.inl (by rw[er]))
  rw[if_neg ho]at er;have hop:=h.ci.copened hx (show x.only=false by rw[hr.only];simpa using ho);have hw:=c1J hr.size hsz.2.2 at_ n (start s 0);by_cases hb:m0Q (P.l.getD i v0) at_ n=true
  ·rw[if_pos hb]at er hw;exact h.fails hF (Nat.le_refl _) (c1F id at_ n) (er:=6) (t:=start s 0) (by unfold r0Q;rw[a0A hop];exact a0F hw) (by decide) (.inl (by rw[er]))
  rw[if_neg hb]at er hw;have hbad: ¬(at_<0∨n<0∨(P.l.getD i v0).size<at_∨(P.l.getD i v0).size-at_<n):=fun hh=>hb (decide_eq_true hh);have hsv:=hr.size;have e0:r0Q id at_ n (start s 0)=a0B (i0C x at_.toNat (at_+n).toNat) m0H (start s 0):=by
   unfold r0Q;rw[a0A hop,a0A hw]
  rw[er];rcases h.noughts hF (fr:=at_.toNat) (u:=(at_+n).toNat) hi he hx hr (by omega) (by omega) hN with ⟨r,t,G',m',e1,i2,t2,k2,k3,g2,g3,g5⟩| ⟨t,ee,e1,hee,g2⟩
  ·obtain⟨s',e3,c3,v3,o3,q1,q2,q3,q4⟩:=h.ci.edited hx e0 e1 hsz.1 hsz.2 i2 t2 k2 k3 (s2L N hN);rw[g2];refine⟨0,s',G',by rw[a0A e3];rfl,?_,.inl rfl,by omega,?_,?_⟩
   ·exact h.set hi he hx c3 v3 o3 q1 q2 q3 he ⟨hr.parent,hr.only,hr.size,hr.born,g3⟩
   ·intro hsp;have:=h.spare t2 q4.2 hsp;show 2*(P.l.set i _).length≤_;rw[List.length_set];exact this
   ·exact g1T hF (Nat.le_refl _) g5
  ·exact h.fails hF (Nat.le_refl _) (c1F id at_ n) (t:=t) (by rw[e0];exact a0F e1) hee (g2.imp (fun g=>g.1) fun g=>g)
theorem J.trim (h:J s G P) (hF:Few N P) (id at_ n:Int) (hN:N≤80) (hroom:80+N*3≤a0Y s):o1I s P (v0U id at_ n) (l0S P id at_ n) (48+N*3) N:=(h.trimS hF id at_ n hN).ends (by have:=h.len;have:=h.ci.few;omega)
theorem J.resizeS (h:J s G P) (hF:Few N P) (id size:Int) (hN:N≤80):c1I s P (q0X id size) (g0S P id size) (48+N*3) (48+N*3) N:=by
 unfold q0X;cases hf:c0Q P.l id with
 |none=>exact h.fails hF (Nat.le_refl _) (w0O id size) (er:=5) (t:=start s 0) (by unfold m0C;exact a0F (c1G (h.missing hf))) (by decide) (.inl (by unfold g0S;rw[hf]))
 |some i=>
  obtain⟨hi,x,he,hx,hr⟩:=h.found hf;have hsz:=h.size hx;have er:=t0P (size:=size) hf;by_cases ho:(P.l.getD i v0).only=true
  ·rw[if_pos ho]at er;exact h.fails hF (Nat.le_refl _) (w0O id size) (er:=7) (t:=start s 0) (by unfold m0C;exact a0F (c1H hx (hr.only.trans ho))) (by decide) (.inl (by rw[er]))
  rw[if_neg ho]at er;have hop:=h.ci.copened hx (show x.only=false by rw[hr.only];simpa using ho);by_cases hs:size<1∨2048<size
  ·rw[if_pos hs]at er;exact h.fails hF (Nat.le_refl _) (w0O id size) (er:=4) (t:=start s 0) (by unfold m0C;rw[a0A hop,if_pos hs];rfl) (by decide) (.inl (by rw[er]))
  rw[if_neg hs]at er;have hsv:=hr.size;have e0:m0C id size (start s 0)=a0B (if size<x.size then i0C x size.toNat x.size.toNat else ret x) (fun y=>m0H {y with size:=size}) (start s 0):=by
   unfold m0C;rw[a0A hop,if_neg hs]
  by_cases hlt:size<x.size
  ·rw[if_pos hlt]at e0;have ersh:j0P P i size=e0A P i size.toNat (P.l.getD i v0).size.toNat:=by unfold j0P;rw[if_pos (by omega)]
   rw[ersh]at er;rcases h.noughts hF (fr:=size.toNat) (u:=x.size.toNat) hi he hx hr (by omega) (by omega) hN with ⟨r,t,G',m',e1,i2,t2,k2,k3,g2,g3,g5⟩| ⟨t,ee,e1,hee,g2⟩
   ·rw[a0A e1]at e0;obtain⟨s',e3,c3,v3,o3,q1,q2,q3,q4⟩:=h.ci.edited (f:=fun _=>(.ok {x with root:=r,size:=size},t)) (y:= {x with root:=r,size:=size}) hx e0 rfl hsz.1 (by show 1≤size∧size≤2048;omega) i2 t2 k2 k3 (s2L N hN);rw[hsv]at g2;rw[g2,if_neg (fun hh=>hh rfl)]at er;have hra:=y0A (m:=m') hi;have erl:({d0K P i m' with l:=(d0K P i m').l.set i {(d0K P i m').l.getD i v0 with size:=size}} :Rp)= {P with l:=P.l.set i {P.l.getD i v0 with m:=m',size:=size}} :=by
     rw[hra];unfold d0K;simp only[List.set_set]
    rw[er];refine⟨0,s',G',by rw[a0A e3];rfl,?_,.inl rfl,by omega,?_,?_⟩
    ·simp only[if_true];rw[erl];exact h.set hi he hx c3 v3 o3 q1 q2 q3 he ⟨hr.parent,hr.only,rfl,hr.born,g3⟩
    ·simp only[if_true];intro hsp;have:=h.spare t2 q4.2 hsp;rw[List.length_set,q0V];exact this
    ·simp only[if_true];rw[erl];exact g1T hF (Nat.le_refl _) g5
   ·rw[hsv]at g2;refine h.fails hF (Nat.le_refl _) (w0O id size) (t:=t) (by rw[e0];exact a0F e1) hee (g2.imp (fun g=> ?_) fun g=>g);rw[if_pos (by rw[←g.1];exact hee)]at er;rw[er];exact g.1
  ·rw[if_neg hlt]at e0;have ersh:j0P P i size=(P,0):=by unfold j0P;rw[if_neg (by omega)]
   rw[ersh,if_neg (fun hh=>hh rfl)]at er;obtain⟨i1,x1⟩:=h.ci.start 0;have hroot:=h.ci.roots hx;have hkid:=h.ci.kid _ (h.ci.mem hx);obtain⟨s',e3,c3,v3,o3,q1,q2,q3,q4⟩:=h.ci.edited (f:=fun _=>(.ok {x with size:=size},start s 0)) (y:= {x with size:=size}) hx e0 rfl hsz.1 (by show 1≤size∧size≤2048;omega) hroot (Stp.refl i1 x1) hkid (fun p hp=>⟨h.ci.othersKid id p hp,rfl⟩) (by omega);rw[er];refine⟨0,s',G,by rw[a0A e3];rfl,?_,.inl rfl,by omega,?_,?_⟩
   ·exact h.set hi he hx c3 v3 o3 q1 q2 q3 he ⟨hr.parent,hr.only,rfl,hr.born,hr.map⟩
   ·intro hsp;have:=h.spare (Stp.refl i1 x1) q4.2 hsp;show 2*(P.l.set i _).length≤_;rw[List.length_set];exact this
   ·exact g1T hF (Nat.le_refl _) (t0Q hF hi)
theorem J.resize (h:J s G P) (hF:Few N P) (id size:Int) (hN:N≤80) (hroom:80+N*3≤a0Y s):o1I s P (q0X id size) (g0S P id size) (48+N*3) N:=(h.resizeS hF id size hN).ends (by have:=h.len;have:=h.ci.few;omega)
end
end
section
section
variable {s:St} {G:Gh} {P:Rp} {N:Nat}
def o0D (s:St) (G:Gh) (P:Rp) (m:M (Int×Int)) (r:Rp×Int×Int) (N:Nat):Prop:= ∃e s' n,m s=(.ok (n,e),s')∧(e=r.2.2∨e=8∧a0Y s<2*P.l.length+2)∧(e=0→n=r.2.1)∧(e≠0→n=0)∧J s' G (if e=0 then r.1 else P)∧a0Y s≤a0Y s'∧(2*P.l.length≤a0Y s→2*(if e=0 then r.1 else P).l.length≤a0Y s')∧Few N (if e=0 then r.1 else P)
def s1F (s:St) (G:Gh) (P:Rp) (m:M (Int×Int)) (r:Rp×Int×Int) (N:Nat):Prop:= ∃s' n,m s=(.ok (n,r.2.2),s')∧(r.2.2=0→n=r.2.1)∧(r.2.2≠0→n=0)∧J s' G (if r.2.2=0 then r.1 else P)∧a0Y s≤a0Y s'∧Few N (if r.2.2=0 then r.1 else P)
theorem o0D.makes {m:M (Int×Int)} {r:Rp×Int×Int} (h:o0D s G P m r N) (hr:2*P.l.length+2≤a0Y s):s1F s G P m r N:=by
 obtain⟨e,s',n,h1,h2,h3,h4,h5,h6,_,h8⟩:=h;obtain rfl:e=r.2.2:=by omega
 exact⟨s',n,h1,h3,h4,h5,h6,h8⟩
theorem o0D.no (h:J s G P) (hF:Few N P) {m:M (Int×Int)} {r:Rp×Int×Int} {e:Int} (he:e≠0) (hr:r.2.2=e) (hm:m s=(.ok (0,e),s)):o0D s G P m r N:=
 ⟨e,s,0,hm,.inl hr.symm,fun h0=>(he h0).elim,fun _=>rfl,by rw[if_neg he];exact h,Nat.le_refl _,by rw[if_neg he];exact id,by rw[if_neg he];exact hF⟩
theorem CI.tight (h:CI s G) (made:M Ent) (h16:s.vols.length<16) (hf:a0Y s<2*(s.vols.length+1)): ∃s',k0K made s=(.ok (0,8),s')∧l1N s s' G:=by
 have e0:Go.Sb.e0M 1 (a0B made u0I) {s with depth:=1} =(.err 8,Go.Sb.start s 1):=by
  unfold Go.Sb.e0M Go.Sb.k0C;refine a0F ?_;rw[a0A (h.keepd 1)];show(if 0<1∧(a0Y (Go.Sb.start s 1):Int)<_ then _ else _)=_;rw[if_pos ⟨by decide,(show(a0Y s:Int)<2*((s.vols.length+1:Nat):Int) by omega)⟩]
 obtain⟨u1,u2,u3,u4,u5,u6,u7⟩:=h.undone (h.rel 1);refine⟨_,?_,u1,u2,u3,u4,u5,u6,u7⟩;unfold k0K;rw[if_neg (by omega),a0A (c1A h e0 (by decide) (h.rel 1))];simp only[if_neg (show ¬(8:Int)=0 by decide)];rfl
theorem o0D.tight (h:J s G P) (hF:Few N P) {m:M (Int×Int)} {r:Rp×Int×Int} {made:M Ent} (hm:m s=k0K made s) (h16:s.vols.length<16) (hf:a0Y s<2*(s.vols.length+1)):o0D s G P m r N:=by
 obtain⟨s',e1,t1⟩:=h.ci.tight made h16 hf;have hl:=h.len;have hr:=t1.room;exact⟨8,s',0,hm.trans e1,.inr ⟨rfl,by omega⟩,fun h0=>absurd h0 (by decide),fun _=>rfl,by rw[if_neg (by decide)];exact h.still t1,hr,by rw[if_neg (by decide)];omega,by rw[if_neg (by decide)];exact hF⟩
theorem u1M {v:Vp} (h16:P.l.length<16):(g0M P v).1.l.length=P.l.length+1:=by unfold g0M;rw[if_neg (by omega)];simp
theorem b2R (hF:Few N P) {v:Vp} (hv:v.m.length≤N) (h16:P.l.length<16):Few N (g0M P v).1:=by
 unfold g0M;rw[if_neg (by omega)];intro w hw;rcases List.mem_append.1 hw with h1|h1
 ·exact hF w h1
 ·rw[List.mem_singleton.1 h1];exact hv
theorem b2S {v:Vp} (h16:P.l.length<16):(g0M P v).2.2=0∧(g0M P v).2.1=P.next:=by unfold g0M;rw[if_neg (by omega)];exact⟨rfl,rfl⟩
theorem b2T {v:Vp} (h16: ¬P.l.length<16):(g0M P v).2.2=13:=by unfold g0M;rw[if_pos (by omega)]
theorem J.none_next (h:J s G P):a0C s.next s.vols=none:=by
 cases e:a0C s.next s.vols with
 |none=>rfl
 |some y=>
  obtain⟨w,hw,e2⟩:=h.back _ (h.ci.mem e);have:=(h.ids w hw).2;simp only at e2;rw[h.next]at e2;omega
theorem z2R:l0K [] (a0Z G 0)↔ ∀j,a0Z G 0 j=a0L 256:=⟨fun h j=>h.eq j,fun h=>⟨p1Y,fun x hx=>(by cases hx),h⟩⟩
theorem J.createS (h:J s G P) (hF:Few N P) (hn:P.next<1000000000) (size:Int):o0D s G P (f0T size) (e0R P size) N:=by
 have hlen:=h.len;by_cases hs:size<1∨2048<size
 ·exact o0D.no h hF (e:=4) (by decide) (by unfold e0R;rw[if_pos hs]) (by unfold f0T;rw[if_pos hs];rfl)
 by_cases h16:P.l.length<16
 ·by_cases hroom:2*(s.vols.length+1)≤a0Y s
  case neg=>exact o0D.tight h hF (made:=ret {g0L with size:=size}) (by unfold f0T;rw[if_neg hs]) (by omega) (by omega)
  obtain⟨s',e1,c1,v1,n1,p1,b1,f1⟩:=h.ci.create (size:=size) (by omega) (by omega) h.none_next hroom;have er:e0R P size=g0M P {v0 with size:=size} :=by unfold e0R;rw[if_neg hs]
  rw[er];obtain⟨r1,r2⟩:=b2S (P:=P) (v:= {v0 with size:=size}) h16;have r3:=u1M (P:=P) (v:= {v0 with size:=size}) h16;refine⟨0,s',s.next,e1,.inl r1.symm,fun _=>by rw[r2,h.next],fun hh=>absurd rfl hh,?_,f1,by rw[if_pos rfl,r3];omega,?_⟩
  ·rw[if_pos rfl];have hm:l0K [] (a0Z G 0):=z2R.2 fun j=>by rw[j2P h.ci.inv.zero]
   exact h.add (x:= {g0L with size:=size}) (v:= {v0 with size:=size}) hn h16 c1 v1 (fun _ _=>rfl) n1 p1 b1 ⟨rfl,rfl,rfl,hm⟩
  ·rw[if_pos rfl];exact b2R hF (Nat.zero_le _) h16
 ·refine o0D.no h hF (e:=13) (by decide) (by unfold e0R;rw[if_neg hs];exact b2T h16) ?_;unfold f0T k0K;rw[if_neg hs];simp only;rw[if_pos (by omega)]
theorem J.create (h:J s G P) (hF:Few N P) (hn:P.next<1000000000) (hroom:40≤a0Y s) (size:Int):s1F s G P (f0T size) (e0R P size) N:=(h.createS hF hn size).makes (by have:=h.len;have:=h.ci.few;omega)
theorem J.copyS (h:J s G P) (hF:Few N P) (hn:P.next<1000000000) (id:Int) (only:Bool):o0D s G P (h0S id only) (i0P P id only) N:=by
 have hlen:=h.len;cases hf:c0Q P.l id with
 |none=>exact o0D.no h hF (e:=5) (by decide) (by unfold i0P;rw[hf]) (by unfold h0S;rw[h.missing hf])
 |some i=>
  obtain⟨hi,x,he,hx,hr⟩:=h.found hf;have er:i0P P id only=g0M P {v0 with parent:=id,only:=only,size:=(P.l.getD i v0).size,m:=(P.l.getD i v0).m} :=by unfold i0P;rw[hf]
  by_cases h16:P.l.length<16
  ·by_cases hroom:2*(s.vols.length+1)≤a0Y s
   case neg=>exact o0D.tight h hF (made:=w0L id only) (by unfold h0S;rw[hx]) (by omega) (by omega)
   obtain⟨s',e1,c1,v1,n1,p1,b1,f1⟩:=h.ci.copy (only:=only) hx (by omega) h.none_next hroom;rw[er];obtain⟨r1,r2⟩:=b2S (P:=P) (v:= {v0 with parent:=id,only:=only,size:=(P.l.getD i v0).size,m:=(P.l.getD i v0).m}) h16;have r3:=u1M (P:=P) (v:= {v0 with parent:=id,only:=only,size:=(P.l.getD i v0).size,m:=(P.l.getD i v0).m}) h16;refine⟨0,s',s.next,e1,.inl r1.symm,fun _=>by rw[r2,h.next],fun hh=>absurd rfl hh,?_,f1,by rw[if_pos rfl,r3];omega,?_⟩
   ·rw[if_pos rfl];exact h.add (x:= {g0L with parent:=id,only:=only,size:=x.size,root:=x.root}) (v:= {v0 with parent:=id,only:=only,size:=(P.l.getD i v0).size,m:=(P.l.getD i v0).m}) hn h16 c1 v1 (fun _ _=>rfl) n1 p1 b1 ⟨rfl,rfl,hr.size,hr.map⟩
   ·rw[if_pos rfl];exact b2R hF (t0Q hF hi) h16
  ·refine o0D.no h hF (e:=13) (by decide) (by rw[er];exact b2T h16) ?_;unfold h0S;rw[hx];unfold k0K;simp only;rw[if_pos (by omega)]
theorem J.copy (h:J s G P) (hF:Few N P) (hn:P.next<1000000000) (hroom:40≤a0Y s) (id:Int) (only:Bool):s1F s G P (h0S id only) (i0P P id only) N:=(h.copyS hF hn id only).makes (by have:=h.len;have:=h.ci.few;omega)
theorem l1P (m:List Lf) (at_ a:Nat): ∀b,k0X m at_ (a+b)=k0X m at_ a++k0X m (at_+a) b
 |0=>by rw[Nat.add_zero];exact(List.append_nil _).symm
 |b+1=>by rw[←Nat.add_assoc,k0X,l1P m at_ a b,k0X,List.append_assoc,Nat.add_assoc]
theorem q1A {m:List Lf} (hm:m0R m) (at_:Nat): ∀q,q≤4-at_%4→k0X m at_ q=((f0Y (at_/4:Nat) m).drop (at_%4*64)).take (q*64)
 |0,_=>by simp[k0X]
 |q+1,hq=>by
  have hl:=hm.get_len ((at_/4:Nat):Int);rw[k0X,q1A hm at_ q (by omega),show(at_+q)/4=at_/4 by omega,show(at_+q)%4=at_%4+q by omega,Nat.succ_mul,List.take_add,List.drop_drop,←Nat.add_mul]
theorem j1Q {m:List Lf} {f:Nat→B} (h:l0K m f): ∀(k at_ n:Nat),n≤k→b1Y f k at_ n=k0X m at_ n
 |0,at_,n,hn=>by
  obtain rfl:n=0:=by omega
  rfl
 |k+1,at_,n,hn=>by
  unfold b1Y;by_cases h0:n=0
  ·rw[if_pos h0,h0];rfl
  ·rw[if_neg h0,j1Q h k _ _ (by omega),h.eq,←q1A h.ok at_ _ (by omega),←l1P,show min n (4-at_%4)+(n-min n (4-at_%4))=n by omega]
theorem J.read (h:J s G P) (id at_ n:Int): ∃s',n0Y id at_ n s=(.ok (m0A P id at_ n),s')∧J s' G P∧a0Y s≤a0Y s':=by
 cases hf:c0Q P.l id with
 |none=>
  obtain⟨s',e1,t1⟩:=h.ci.failed0 (u1K id at_ n) (er:=5) (t:= {s with depth:=1}) (by unfold o0S;exact a0F (show find id {s with depth:=1} =(.err 5,{s with depth:=1}) by unfold find;rw[show a0C id ({s with depth:=1} :St).vols=none from h.missing hf])) (by decide);refine⟨s',?_,h.still t1,t1.room⟩;unfold n0Y m0A;rw[a0A e1,hf];rfl
 |some i=>
  obtain⟨hi,x,he,hx,hr⟩:=h.found hf;have hsz:=h.size hx;have hw:=c1J hr.size hsz.2.2 at_ n {s with depth:=1};by_cases hb:m0Q (P.l.getD i v0) at_ n=true
  ·rw[if_pos hb]at hw;obtain⟨s',e1,t1⟩:=h.ci.failed0 (u1K id at_ n) (er:=6) (t:= {s with depth:=1}) (by
    unfold o0S;rw[a0A (show find id {s with depth:=1} =(.ok x,{s with depth:=1}) by unfold find;rw[show a0C id ({s with depth:=1} :St).vols=some x from hx])];exact a0F hw) (by decide)
   refine⟨s',?_,h.still t1,t1.room⟩;unfold n0Y m0A;rw[a0A e1,hf];simp only;rw[if_pos hb];rfl
  ·have hbad: ¬(at_<0∨n<0∨(P.l.getD i v0).size<at_∨(P.l.getD i v0).size-at_<n):=fun hh=>hb (decide_eq_true hh);have hsv:=hr.size;have e1:=h.ci.read (at_:=at_.toNat) (n:=n.toNat) hx (by omega);rw[Int.toNat_of_nonneg (by omega),Int.toNat_of_nonneg (by omega)]at e1;refine⟨s,?_,h,Nat.le_refl _⟩;rw[e1,j1Q hr.map _ _ _ (Nat.le_refl _)];unfold m0A;rw[hf];simp only;rw[if_neg hb]
theorem J.epoch_ (h:J s G P) (n:Int):J {s with epoch:=n} G {P with epoch:=n} :=
 ⟨⟨h.ci.inv.other rfl rfl rfl rfl rfl ⟨h.ci.inv.u.m.refs,h.ci.inv.u.m.young,h.ci.inv.u.m.index,h.ci.inv.u.m.vols⟩ h.ci.inv.u.keep,h.ci.idx,h.ci.kid,h.ci.ids,h.ci.dep,h.ci.log,h.ci.gone,h.ci.few⟩,h.next,h.pos,h.bits,rfl,h.len,h.ord,h.ids,h.vol,h.back⟩
theorem J.sum (h:J s G P) {id:Int} {x:Ent} (hx:a0C id s.vols=some x):w0M id s=(.ok (d0R G x.root,0),s):=by
 have e0:e1P id {s with depth:=1} =(.ok (d0R G x.root),{s with depth:=1}):=by
  unfold e1P;rw[a0A (show find id {s with depth:=1} =(.ok x,{s with depth:=1}) by unfold find;rw[show a0C id ({s with depth:=1} :St).vols=some x from hx])];unfold i1Y;rw[a0A (h.ci.deep.loadK (h.ci.kid _ (h.ci.mem hx)))];rfl
 unfold w0M;rw[a0A (q0U h.ci e0 (Rel.refl h.ci.deep.u)),t1V h.ci.dep h.ci.log h.ci.gone];rfl
end
end
section
def a1S (s:St):St:= {s with g:=g0B s.g,young:= []}
theorem l1Q {fr:Nat} {g:List Nat} {a:Int} :isB fr (g0B g) a 1=isB fr g a 1:=by
 unfold isB g0B;rw[List.length_map,List.getElem?_map];cases h:g[(a-fr).toNat]? with
 |none=>rfl
 |some x=>
  rw[Option.map_some];by_cases h2:x=2
  ·subst h2;simp
  ·rw[if_neg h2]
theorem y0E: ∀g:List Nat,(g0B g).count 1=g.count 1∧g.count 0≤(g0B g).count 0
 | []=>⟨rfl,Nat.le_refl _⟩
 |x::g=>by
  obtain⟨h1,h2⟩:=y0E g;have e:g0B (x::g)=(if x=2 then 0 else x)::g0B g:=rfl;rw[e,List.count_cons,List.count_cons,List.count_cons,List.count_cons];by_cases hx:x=2
  ·subst hx;simp;omega
  ·rw[if_neg hx];omega
section
variable {s s':St} {G G':Gh} {P P':List Int}
theorem CI.settle (h:CI s G):CI (a1S s) G:=by
 have i:=h.inv;have hl:(g0B s.g).length=s.g.length:=by unfold g0B;simp
 refine⟨⟨⟨⟨i.u.m.refs,List.nodup_nil,i.u.m.index,i.u.m.vols⟩,i.u.keep,fun a ha=> ?_,i.u.run,?_,?_⟩,i.nod,i.lo,?_,i.refs,i.live,i.zero,fun a=> ?_,i.disk,i.typ,?_,i.lone⟩,h.idx,h.kid,h.ids,h.dep,h.log,h.gone,h.few⟩
 ·exact l1Q.trans (i.u.held a ha)
 ·show s.d.l.length=s.fr+(g0B s.g).length;rw[hl];exact i.u.size
 ·show s.gone.Nodup∧ ∀a∈s.gone,isB s.fr (g0B s.g) a 2=true;rw[h.gone];exact⟨List.nodup_nil,fun a ha=>(by cases ha)⟩
 ·show s.fr+(g0B s.g).length≤65535;rw[hl];exact i.hi
 ·show isB s.fr (g0B s.g) a 1=true↔_;rw[l1Q];exact i.held a
 ·exact i.cnt.trans (y0E s.g).1.symm
theorem y1P (s:St):a0Y s≤a0Y (a1S s):=(y0E s.g).2
theorem J.settle {P:Rp} (h:J s G P):J (a1S s) G P:=⟨h.ci.settle,h.next,h.pos,h.bits,h.epoch,h.len,h.ord,h.ids,h.vol,h.back⟩
theorem Inv.leafSum (h:Inv s G P) (h':Inv s' G' P') {a a':Int} (ha:a0W G 0 a) (ha':a0W G' 0 a') (he:d0F G a=d0F G' a'):d0R G a=d0R G' a':=by
 rcases ha with rfl| ⟨d,t,ho⟩<;>rcases ha' with rfl| ⟨d',t',ho'⟩
 ·unfold d0R;rw[h.zero,h'.zero]
 ·exfalso;unfold d0F at he;rw[h.zero,ho']at he;have:=(h'.typ _ _ ho').2.1;simp only at he;rw[←he,d0N]at this;cases this
 ·exfalso;unfold d0F at he;rw[h'.zero,ho]at he;have:=(h.typ _ _ ho).2.1;simp only at he;rw[he,d0N]at this;cases this
 ·unfold d0F at he;rw[ho,ho']at he;simp only at he;unfold d0R;rw[ho,ho',he]
theorem w0P {l i j:Nat} {a:Int} (hi:i<8) (hj:j<8^(l+1)):c0P G (l+1) a (i*8^(l+1)+j)=c0P G l ((b0G G a).getD i 0) j:=by
 have hp0:0<8^(l+1):=Nat.pow_pos (by decide);have e3:(b0Q (l+1) (i*8^(l+1)+j)).1=i:=by
  unfold b0Q;simp only;rw[Nat.mul_comm i,Nat.mul_add_div hp0,Nat.div_eq_of_lt hj,Nat.add_zero,Nat.mod_eq_of_lt hi]
 have e4:(b0Q (l+1) (i*8^(l+1)+j)).2=j:=by
  unfold b0Q;simp only;rw[Nat.mul_comm i,Nat.mul_add_mod,Nat.mod_eq_of_lt hj]
 conv=>lhs;unfold c0P
 rw[e3,e4]
theorem x2W {ks:List Int} (h8:ks.length=8) (hne:ks≠e0L): ∃i,i<8∧ks.getD i 0≠0:=by
 refine Classical.byContradiction fun hno=>hne ?_;refine List.ext_getElem (by rw[h8];rfl) fun i h1 h2=> ?_;have hi:i<8:=by omega
 have:ks.getD i 0=0:=Classical.byContradiction fun h=>hno ⟨i,hi,h⟩;rw[List.getD_eq_getElem?_getD,List.getElem?_eq_getElem h1]at this;simp only[Option.getD_some]at this;have h3:=e2J i;rw[List.getD_eq_getElem?_getD,List.getElem?_eq_getElem h2]at h3;simp only[Option.getD_some]at h3;rw[this,h3]
theorem Inv.someLeaf (h:Inv s G P): ∀(l:Nat) {a:Int},a0W G (l+1) a→a≠0→ ∃j,j<8^(l+1)∧a0R (d0F G (c0P G l a j))=false
 |l,a,ha,hne=>by
  obtain⟨ks,sm,ho⟩:=ha.resolve_left hne;obtain⟨t1,t2,t3,t4,t5⟩:=h.typ a _ ho;have hk:b0G G a=ks:=by unfold b0G;rw[ho]
  obtain⟨i,hi,hki⟩:=x2W t2 t3;have hkid:=t4 _ (g0Z (i:=i) (by rw[t2];exact hi));cases l with
  |zero=>
   obtain⟨d,t,hd⟩:=hkid.resolve_left hki;refine⟨i,by simpa using hi,?_⟩;have e:c0P G 0 a i=ks.getD i 0:=by
    unfold c0P b0Q;simp only;rw[hk,show i/8^0%8=i by omega]
   rw[e];unfold d0F;rw[hd];exact(h.typ _ _ hd).2.1
  |succ l=>
   obtain⟨j,hj,hz⟩:=h.someLeaf l hkid hki;have hp:8^(l+1+1)=8*8^(l+1):=by rw[Nat.pow_succ];omega
   have:i*8^(l+1)≤7*8^(l+1):=Nat.mul_le_mul_right _ (by omega);exact⟨i*8^(l+1)+j,by rw[hp];omega,by rw[w0P hi hj,hk];exact hz⟩
theorem Inv.noLeaf (h:Inv s G P) (l:Nat) {a:Int} (ha:a0W G (l+1) a) (hz: ∀j,j<8^(l+1)→a0R (d0F G (c0P G l a j))=true):a=0:=by
 refine Classical.byContradiction fun hne=> ?_;obtain⟨j,hj,e⟩:=h.someLeaf l ha hne;rw[hz j hj]at e;cases e
theorem s2M (hz:a0C 0 G=none):a0R (d0F G 0)=true:=by unfold d0F;rw[hz];exact d0N _
theorem Inv.sumSame (h:Inv s G P) (h':Inv s' G' P'): ∀(l:Nat) {a a':Int},a0W G (l+1) a→a0W G' (l+1) a'→(∀j,j<8^(l+1)→d0F G (c0P G l a j)=d0F G' (c0P G' l a' j))→d0R G a=d0R G' a'
 |l,a,a',ha,ha',he=>by
  by_cases h0:a=0
  ·have h0':a'=0:=h'.noLeaf l ha' fun j hj=>by rw[←he j hj,h0,u0K h.zero];exact s2M h.zero
   rw[h0,h0'];unfold d0R;rw[h.zero,h'.zero]
  ·have h0':a'≠0:=fun e=>h0 (h.noLeaf l ha fun j hj=>by rw[he j hj,e,u0K h'.zero];exact s2M h'.zero);obtain⟨ks,sm,ho⟩:=ha.resolve_left h0;obtain⟨ks',sm',ho'⟩:=ha'.resolve_left h0';obtain⟨t1,t2,t3,t4,t5⟩:=h.typ a _ ho;obtain⟨u1,u2,u3,u4,u5⟩:=h'.typ a' _ ho';have hk:b0G G a=ks:=by unfold b0G;rw[ho]
   have hk':b0G G' a'=ks':=by unfold b0G;rw[ho']
   have hs:ks.map (d0R G)=ks'.map (d0R G'):=by
    refine List.ext_getElem (by simp[t2,u2]) fun i h1 h2=> ?_;rw[List.getElem_map,List.getElem_map];have hi:i<8:=by simpa [t2] using h1
    have e1:ks.getD i 0=ks[i]:=by rw[List.getD_eq_getElem?_getD,List.getElem?_eq_getElem];rfl
    have e2:ks'.getD i 0=ks'[i]:=by rw[List.getD_eq_getElem?_getD,List.getElem?_eq_getElem];rfl
    have k1:=t4 _ (List.getElem_mem (h:=by simpa using h1));have k2:=u4 _ (List.getElem_mem (h:=by simpa using h2));cases l with
    |zero=>
     refine h.leafSum h' k1 k2 ?_;have:=he i (by simpa using hi);unfold c0P b0Q at this;simp only at this;rw[show i/8^0%8=i by omega,hk,hk',e1,e2]at this;exact this
    |succ l=>
     refine h.sumSame h' l k1 k2 fun j hj=> ?_;have hp:8^(l+1+1)=8*8^(l+1):=by rw[Nat.pow_succ];omega
     have:i*8^(l+1)≤7*8^(l+1):=Nat.mul_le_mul_right _ (by omega);have:=he (i*8^(l+1)+j) (by rw[hp];omega);rw[w0P hi hj,w0P hi hj,hk,hk',e1,e2]at this;exact this
   unfold d0R;rw[ho,ho'];simp only;rw[t5,u5,hs]
theorem Inv.sumMap (h:Inv s G P) (h':Inv s' G' P') {a a':Int} (ha:a0W G 3 a) (ha':a0W G' 3 a') (he:a0Z G a=a0Z G' a'):d0R G a=d0R G' a':=h.sumSame h' 2 ha ha' fun j hj=>by
 have:=congrFun he j;unfold a0Z at this;rw[if_pos hj,if_pos hj]at this;exact this
end
end
section
structure c1K (k:Nat) (id at_ n:Int) (data:B) (s:St) (P:Rp) (e f:Int) (t:St) (Q:Rp):Prop where
 k0:k=0→ ∃m,f0T n s=(.ok (m,e),t)∧(e0R P n).2.2=f∧(e=0→m=(e0R P n).2.1)∧(e≠0→m=0)∧Q=if e=0 then(e0R P n).1 else P
 k1:k=1∨k=2→ ∃m,h0S id (decide (k=1)) s=(.ok (m,e),t)∧(i0P P id (decide (k=1))).2.2=f∧(e=0→m=(i0P P id (decide (k=1))).2.1)∧(e≠0→m=0)∧Q=if e=0 then(i0P P id (decide (k=1))).1 else P
 k3:k=3→q0W id s=(.ok e,t)∧(g0R P id).2=f∧Q=if e=0 then(g0R P id).1 else P
 k4:k=4→q0X id n s=(.ok e,t)∧(g0S P id n).2=f∧Q=if e=0 then(g0S P id n).1 else P
 k5:4<k∧k<9→h0K id at_ data s=(.ok e,t)∧(i0Y P id at_ data).2=f∧Q=if e=0 then(i0Y P id at_ data).1 else P
 k9:k=9∨k=10→v0U id at_ n s=(.ok e,t)∧(l0S P id at_ n).2=f∧Q=if e=0 then(l0S P id at_ n).1 else P
 k11:k=11→n0Y id at_ n s=(.ok (m0A P id at_ n),t)∧(m0A P id at_ n).2=e∧Q=P
 k12:k=12→t= {s with epoch:=n%256} ∧e=0∧Q= {P with epoch:=n%256}
 k13:k=13→t=a1S s∧e=0∧Q=P
 rest:10<k→f=e
 same:e=f∨e=8
def e0V (id:Int) (P Q:Rp):Prop:= ∀v∈P.l,v.id≠id→v∈Q.l
theorem e0V.refl (id:Int) (P:Rp):e0V id P P:=fun _ h _=>h
theorem l1R (id:Int) (P:Rp) (v:Vp):e0V id P (g0M P v).1:=fun w hw _=>by
 unfold g0M;split
 ·exact hw
 ·exact List.mem_append_left _ hw
theorem q1B {id:Int} {P:Rp} {i:Nat} {w:Vp} (he: ∀h:i<P.l.length,P.l[i].id=id): ∀v∈P.l,v.id≠id→v∈P.l.set i w:=fun v hv hne=>by
 obtain⟨k,hk,rfl⟩:=List.mem_iff_getElem.1 hv;have hki:i≠k:=fun e=>by subst e;exact hne (he hk)
 have:(P.l.set i w)[k]'(by simpa using hk)=P.l[k]:=List.getElem_set_ne hki _;rw[←this];exact List.getElem_mem _
theorem m0U (i:Nat): ∀(k:Nat) (c:Rp) (at_:Nat) (d:B),i<c.l.length→ ∃m,(d0I i k c at_ d).1=d0K c i m
 |0,c,_,_,hi=>⟨(c.l.getD i v0).m,(o0C hi).symm⟩
 |k+1,c,at_,d,hi=>by
  rw[d0I];split
  ·exact⟨(c.l.getD i v0).m,(o0C hi).symm⟩
  ·simp only;split
   ·exact⟨(c.l.getD i v0).m,(o0C hi).symm⟩
   ·obtain⟨m,h⟩:=m0U i k (d0K c i (k0L (c.l.getD i v0).m (at_/4:Nat) (c1C (f0Y (at_/4:Nat) (c.l.getD i v0).m) d (at_%4*64) (min d.length (256-at_%4*64))))) (at_+min d.length (256-at_%4*64)/64) (d.drop (min d.length (256-at_%4*64))) (by rw[q0V];exact hi);exact⟨m,h.trans (q0B hi)⟩
theorem k0P (i:Nat) (c:Rp) (f u:Nat) (hi:i<c.l.length): ∃m,(e0A c i f u).1=d0K c i m:=by
 unfold e0A;simp only;split
 ·exact m0U i _ c f _ hi
 ·split
  ·exact⟨(c.l.getD i v0).m,(o0C hi).symm⟩
  ·split
   ·exact⟨(c.l.getD i v0).m,(o0C hi).symm⟩
   ·obtain⟨m1,e1⟩:=m0U i ((4*((f+3)/4)-f)*64) c f (a0L ((4*((f+3)/4)-f)*64)) hi;rw[e1,q0B hi];obtain⟨m2,e2⟩:=m0U i ((u-4*(u/4))*64) (d0K c i (h0G ((d0K c i m1).l.getD i v0).m ((f+3)/4:Nat) (u/4:Nat))) (4*(u/4)) (a0L ((u-4*(u/4))*64)) (by rw[q0V];exact hi);exact⟨m2,e2.trans (q0B hi)⟩
theorem l1S {id:Int} {P:Rp} {i:Nat} {m:List Lf} (he: ∀h:i<P.l.length,P.l[i].id=id):e0V id P (d0K P i m):=q1B he
theorem y1Q (id at_:Int) (data:B) (P:Rp):e0V id P (i0Y P id at_ data).1:=by
 cases hf:c0Q P.l id with
 |none=>unfold i0Y;rw[hf];exact e0V.refl _ _
 |some i=>
  obtain⟨hi,he⟩:=i0Q hf;rw[v0V hf];split
  ·exact e0V.refl _ _
  split
  ·exact e0V.refl _ _
  split
  ·exact e0V.refl _ _
  split
  ·exact e0V.refl _ _
  ·obtain⟨m,e⟩:=m0U i data.length P at_.toNat data hi;simp only;rw[e];exact l1S fun _=>he
theorem e2S (id at_ n:Int) (P:Rp):e0V id P (l0S P id at_ n).1:=by
 cases hf:c0Q P.l id with
 |none=>unfold l0S;rw[hf];exact e0V.refl _ _
 |some i=>
  obtain⟨hi,he⟩:=i0Q hf;rw[y0D hf];split
  ·exact e0V.refl _ _
  split
  ·exact e0V.refl _ _
  ·obtain⟨m,e⟩:=k0P i P at_.toNat (at_+n).toNat hi;rw[e];exact l1S fun _=>he
theorem u1N (id size:Int) (P:Rp):e0V id P (g0S P id size).1:=by
 cases hf:c0Q P.l id with
 |none=>unfold g0S;rw[hf];exact e0V.refl _ _
 |some i=>
  obtain⟨hi,he⟩:=i0Q hf;rw[t0P hf];split
  ·exact e0V.refl _ _
  split
  ·exact e0V.refl _ _
  split
  ·exact e0V.refl _ _
  ·have: ∃m,(j0P P i size).1=d0K P i m:=by
    unfold j0P;split
    ·exact k0P i P _ _ hi
    ·exact⟨_,(o0C hi).symm⟩
   obtain⟨m,e⟩:=this;simp only;rw[e];unfold d0K;simp only[List.set_set];exact q1B (P:=P) fun _=>he
theorem u1O (id:Int) (P:Rp):e0V id P (g0R P id).1:=by
 cases hf:c0Q P.l id with
 |none=>unfold g0R;rw[hf];exact e0V.refl _ _
 |some i=>
  obtain⟨hi,he⟩:=i0Q hf;unfold g0R;rw[hf];intro w hw hne;obtain⟨k,hk,rfl⟩:=List.mem_iff_getElem.1 hw;show _∈P.l.eraseIdx i;rw[List.mem_eraseIdx_iff_getElem];exact⟨k,hk,fun e=>by subst e;exact hne he,rfl⟩
theorem u1P {id:Int} {P Q:Rp} {p:Prop} [Decidable p] (h:e0V id P Q):e0V id P (if p then Q else P):=by
 split
 ·exact h
 ·exact e0V.refl _ _
theorem u1Q (id size:Int) (P:Rp):e0V id P (e0R P size).1:=by
 unfold e0R;split
 ·exact e0V.refl _ _
 ·exact l1R _ _ _
theorem e2T (id id':Int) (only:Bool) (P:Rp):e0V id P (i0P P id' only).1:=by
 unfold i0P;split
 ·exact e0V.refl _ _
 ·exact l1R _ _ _
def Bud (i:Nat) (s:St) (P:Rp):Prop:= ∃w t,w+t≤i∧Few (4*w) P∧2498≤a0Y s+96*w+t*(48+12*w)
theorem j2T: ∀w,w<18→ ∀t,t<18→w+t≤17→96*w+t*(48+12*w)≤2150:=by decide
theorem o2Y {i:Nat} {s:St} {P:Rp} {w t:Nat} (hi:i≤17) (h:w+t≤i) (hf:2498≤a0Y s+96*w+t*(48+12*w)):340≤a0Y s∧w≤17:=by
 have:=j2T w (by omega) t (by omega) (by omega);omega
section
variable {s:St} {G:Gh} {P:Rp}
theorem q1C (P:Rp) (v:Vp):(g0M P v).1.next≤P.next+1:=by
 unfold g0M;split<;>simp only<;>omega
theorem e2U (id at_:Int) (data:B) (P:Rp):(i0Y P id at_ data).1.next=P.next:=by
 cases hf:c0Q P.l id with
 |none=>unfold i0Y;rw[hf]
 |some i=>
  obtain⟨hi,_⟩:=i0Q hf;rw[v0V hf]
  repeat' split
  all_goals first|rfl| (simp only;obtain⟨m,e⟩:=m0U i data.length P at_.toNat data hi;rw[e];rfl)
theorem j2U (id at_ n:Int) (P:Rp):(l0S P id at_ n).1.next=P.next:=by
 cases hf:c0Q P.l id with
 |none=>unfold l0S;rw[hf]
 |some i=>
  obtain⟨hi,_⟩:=i0Q hf;rw[y0D hf]
  repeat' split
  all_goals first|rfl| (obtain⟨m,e⟩:=k0P i P at_.toNat (at_+n).toNat hi;rw[e];rfl)
theorem y1R (id n:Int) (P:Rp):(g0S P id n).1.next=P.next:=by
 cases hf:c0Q P.l id with
 |none=>unfold g0S;rw[hf]
 |some i=>
  obtain⟨hi,_⟩:=i0Q hf;rw[t0P hf];have:(j0P P i n).1.next=P.next:=by
   unfold j0P;split
   ·obtain⟨m,e⟩:=k0P i P n.toNat (P.l.getD i v0).size.toNat hi;rw[e];rfl
   ·rfl
  repeat' split
  all_goals first|rfl|exact this
theorem J.act (h:J s G P) {i:Nat} (hB:Bud i s P) (hi:i≤17) (hn:P.next<1000000) {k:Nat} (hk:k<14) (id at_ n:Int) {data:B} (hd:data.length%64=0→data.length≤768):
 ∃e t Q G',c1K k id at_ n data s P e e t Q∧J t G' Q∧Bud (i+1) t Q∧Q.next≤P.next+1∧e0V id P Q:=by
 obtain⟨w,tt,hwt,hF,hfree⟩:=hB;obtain⟨hroom,hw17⟩:=o2Y (P:=P) hi hwt hfree;have none_: ∀ {s':St} {Q:Rp},a0Y s≤a0Y s'→Few (4*w) Q→Bud (i+1) s' Q:=fun h1 h2=>⟨w,tt,by omega,h2,by omega⟩;have made: ∀ {m:M (Int×Int)} {r:Rp×Int×Int},s1F s G P m r (4*w)→(r.1.next≤P.next+1)→e0V id P r.1→ ∃e t Q G',(∃n,m s=(.ok (n,e),t)∧r.2.2=e∧(e=0→n=r.2.1)∧(e≠0→n=0)∧Q=if e=0 then r.1 else P)∧J t G' Q∧Bud (i+1) t Q∧Q.next≤P.next+1∧e0V id P Q:=by
  rintro m r ⟨s',n,e1,e2,e3,e4,e5,e6⟩ hnx hkp;refine⟨r.2.2,s',_,G,⟨n,e1,rfl,e2,e3,rfl⟩,e4,none_ e5 e6,?_,u1P hkp⟩;split
  ·exact hnx
  ·omega
 have ended: ∀ {m:M Int} {r:Rp×Int} {K N:Nat},o1I s P m r K N→(∀ {s':St} {Q:Rp},a0Y s≤a0Y s'+K→Few N Q→Bud (i+1) s' Q)→e0V id P r.1→r.1.next=P.next→ ∃e t Q G',(m s=(.ok e,t)∧r.2=e∧Q=if e=0 then r.1 else P)∧J t G' Q∧Bud (i+1) t Q∧Q.next≤P.next+1∧e0V id P Q:=by
  rintro m r K N ⟨s',G',e1,e4,e5,e6⟩ hb hkp hnx;refine⟨r.2,s',_,G',⟨e1,rfl,rfl⟩,e4,hb e5 e6,?_,u1P hkp⟩;split
  ·omega
  ·omega
 have bT: ∀ {s':St} {Q:Rp},a0Y s≤a0Y s'+(48+4*w*3)→Few (4*w) Q→Bud (i+1) s' Q:=fun h1 h2=>⟨w,tt+1,by omega,h2,by have e:(tt+1)*(48+12*w)=tt*(48+12*w)+(48+12*w):=Nat.succ_mul _ _;omega⟩;have bW: ∀ {s':St} {Q:Rp},a0Y s≤a0Y s'+40→Few (4*w+4) Q→Bud (i+1) s' Q:=fun h1 h2=>⟨w+1,tt,by omega,by rw[show 4*(w+1)=4*w+4 by omega];exact h2,by have e:=Nat.mul_add tt (48+12*w) 12;rw[show 48+12*(w+1)=48+12*w+12 by omega];omega⟩;have hcase:k=0∨(k=1∨k=2)∨k=3∨k=4∨(4<k∧k<9)∨(k=9∨k=10)∨k=11∨k=12∨k=13:=by omega
 rcases hcase with hk|hk|hk|hk|hk|hk|hk|hk|hk
 ·obtain⟨e,t,Q,G',h1,h2,h3,h4,h5⟩:=made (h.create hF (by omega) (by omega) n) (by unfold e0R;split;(· simp only;omega);(· exact q1C _ _)) (u1Q _ _ _);exact⟨e,t,Q,G',⟨fun _=>h1,(fun hh=>absurd hh (by omega)),(fun hh=>absurd hh (by omega)),(fun hh=>absurd hh (by omega)),(fun hh=>absurd hh (by omega)),(fun hh=>absurd hh (by omega)),(fun hh=>absurd hh (by omega)),(fun hh=>absurd hh (by omega)),(fun hh=>absurd hh (by omega)),fun _=>rfl,.inl rfl⟩,h2,h3,h4,h5⟩
 ·obtain⟨e,t,Q,G',h1,h2,h3,h4,h5⟩:=made (h.copy hF (by omega) (by omega) id (decide (k=1))) (by unfold i0P;split;(· simp only;omega);(· exact q1C _ _)) (e2T _ _ _ _);exact⟨e,t,Q,G',⟨(fun hh=>absurd hh (by omega)),fun _=>h1,(fun hh=>absurd hh (by omega)),(fun hh=>absurd hh (by omega)),(fun hh=>absurd hh (by omega)),(fun hh=>absurd hh (by omega)),(fun hh=>absurd hh (by omega)),(fun hh=>absurd hh (by omega)),(fun hh=>absurd hh (by omega)),fun _=>rfl,.inl rfl⟩,h2,h3,h4,h5⟩
 ·obtain⟨e,t,Q,G',h1,h2,h3,h4,h5⟩:=ended (h.delete hF id (by have:=h.len;have:=h.ci.few;omega)) none_ (u1O _ _) (by unfold g0R;split<;>rfl);exact⟨e,t,Q,G',⟨(fun hh=>absurd hh (by omega)),(fun hh=>absurd hh (by omega)),fun _=>h1,(fun hh=>absurd hh (by omega)),(fun hh=>absurd hh (by omega)),(fun hh=>absurd hh (by omega)),(fun hh=>absurd hh (by omega)),(fun hh=>absurd hh (by omega)),(fun hh=>absurd hh (by omega)),fun _=>rfl,.inl rfl⟩,h2,h3,h4,h5⟩
 ·obtain⟨e,t,Q,G',h1,h2,h3,h4,h5⟩:=ended (h.resize hF id n (by omega) (by omega)) bT (u1N _ _ _) (y1R _ _ _);exact⟨e,t,Q,G',⟨(fun hh=>absurd hh (by omega)),(fun hh=>absurd hh (by omega)),(fun hh=>absurd hh (by omega)),fun _=>h1,(fun hh=>absurd hh (by omega)),(fun hh=>absurd hh (by omega)),(fun hh=>absurd hh (by omega)),(fun hh=>absurd hh (by omega)),(fun hh=>absurd hh (by omega)),fun _=>rfl,.inl rfl⟩,h2,h3,h4,h5⟩
 ·obtain⟨e,t,Q,G',h1,h2,h3,h4,h5⟩:=ended (h.write hF id at_ hd (by omega)) bW (y1Q _ _ _ _) (e2U _ _ _ _);exact⟨e,t,Q,G',⟨(fun hh=>absurd hh (by omega)),(fun hh=>absurd hh (by omega)),(fun hh=>absurd hh (by omega)),(fun hh=>absurd hh (by omega)),fun _=>h1,(fun hh=>absurd hh (by omega)),(fun hh=>absurd hh (by omega)),(fun hh=>absurd hh (by omega)),(fun hh=>absurd hh (by omega)),fun _=>rfl,.inl rfl⟩,h2,h3,h4,h5⟩
 ·obtain⟨e,t,Q,G',h1,h2,h3,h4,h5⟩:=ended (h.trim hF id at_ n (by omega) (by omega)) bT (e2S _ _ _ _) (j2U _ _ _ _);exact⟨e,t,Q,G',⟨(fun hh=>absurd hh (by omega)),(fun hh=>absurd hh (by omega)),(fun hh=>absurd hh (by omega)),(fun hh=>absurd hh (by omega)),(fun hh=>absurd hh (by omega)),fun _=>h1,(fun hh=>absurd hh (by omega)),(fun hh=>absurd hh (by omega)),(fun hh=>absurd hh (by omega)),fun _=>rfl,.inl rfl⟩,h2,h3,h4,h5⟩
 ·obtain⟨t,h1,h2,h3⟩:=h.read id at_ n;exact⟨(m0A P id at_ n).2,t,P,G,⟨(fun hh=>absurd hh (by omega)),(fun hh=>absurd hh (by omega)),(fun hh=>absurd hh (by omega)),(fun hh=>absurd hh (by omega)),(fun hh=>absurd hh (by omega)),(fun hh=>absurd hh (by omega)),fun _=>⟨h1,rfl,rfl⟩,(fun hh=>absurd hh (by omega)),(fun hh=>absurd hh (by omega)),fun _=>rfl,.inl rfl⟩,h2,none_ h3 hF,by omega,e0V.refl _ _⟩
 ·exact⟨0,{s with epoch:=n%256},{P with epoch:=n%256},G,⟨(fun hh=>absurd hh (by omega)),(fun hh=>absurd hh (by omega)),(fun hh=>absurd hh (by omega)),(fun hh=>absurd hh (by omega)),(fun hh=>absurd hh (by omega)),(fun hh=>absurd hh (by omega)),(fun hh=>absurd hh (by omega)),fun _=>⟨rfl,rfl,rfl⟩,(fun hh=>absurd hh (by omega)),fun _=>rfl,.inl rfl⟩,h.epoch_ _,none_ (Nat.le_refl _) hF,by simp only;omega,e0V.refl _ _⟩
 ·exact⟨0,a1S s,P,G,⟨(fun hh=>absurd hh (by omega)),(fun hh=>absurd hh (by omega)),(fun hh=>absurd hh (by omega)),(fun hh=>absurd hh (by omega)),(fun hh=>absurd hh (by omega)),(fun hh=>absurd hh (by omega)),(fun hh=>absurd hh (by omega)),(fun hh=>absurd hh (by omega)),fun _=>⟨rfl,rfl,rfl⟩,fun _=>rfl,.inl rfl⟩,h.settle,none_ (y1P s) hF,by omega,e0V.refl _ _⟩
end
end
end Go.Sb
