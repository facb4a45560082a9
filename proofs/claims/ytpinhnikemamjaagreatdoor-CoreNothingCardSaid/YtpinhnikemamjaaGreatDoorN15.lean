/- Part of the proof; no statement of its own. -/
import Derived.Test.YtpinhnikemamjaaGreatDoorN14
set_option linter.all false
set_option maxRecDepth 4000
set_option maxHeartbeats 4000000
namespace Go.Sb
section
def Few (N:Nat) (P:Rp):Prop:= ∀v∈P.l,v.m.length≤N
theorem Few.mono {N M:Nat} {P:Rp} (h:Few N P) (hm:N≤M):Few M P:=fun v hv=>Nat.le_trans (h v hv) hm
def m1W (s:St) (P:Rp) (m:M Int) (r:Rp×Int) (K N:Nat):Prop:= ∃s' G',m s=(.ok r.2,s')∧J s' G' (if r.2=0 then r.1 else P)∧b0K s≤b0K s'+K∧Few N (if r.2=0 then r.1 else P)
theorem u0V {P:Rp} {id at_:Int} {data:B} {i:Nat} (h:c0O P.l id=some i):j0E P id at_ data=if(P.l.getD i v0).only=true then(P,7)else if data.length%64≠0 then(P,4)else if m0B (P.l.getD i v0) at_ (data.length/64:Nat)=true then(P,6)else
 if(d0D i data.length P at_.toNat data).2≠0 then(P,(d0D i data.length P at_.toNat data).2)else((d0D i data.length P at_.toNat data).1,0):=by unfold j0E;rw[h]
theorem x0J {P:Rp} {id at_ n:Int} {i:Nat} (h:c0O P.l id=some i):l0J P id at_ n=if(P.l.getD i v0).only=true then(P,7)else if m0B (P.l.getD i v0) at_ n=true then(P,6)else d0T P i at_.toNat (at_+n).toNat:=by unfold l0J;rw[h]
def j0H (P:Rp) (i:Nat) (size:Int):Rp×Int:=if size<(P.l.getD i v0).size then d0T P i size.toNat (P.l.getD i v0).size.toNat else(P,0)
theorem s0Z {P:Rp} {id size:Int} {i:Nat} (h:c0O P.l id=some i):g0U P id size=if(P.l.getD i v0).only=true then(P,7)else if size<1∨2048<size then(P,4)else
 if(j0H P i size).2≠0 then(P,(j0H P i size).2)else({(j0H P i size).1 with l:=(j0H P i size).1.l.set i {(j0H P i size).1.l.getD i v0 with size:=size}},0):=by unfold g0U;rw[h];rfl
section
variable {s:St} {G:Gh} {P:Rp} {N:Nat}
theorem J.fails {m:M Unit} {er:Int} {t:St} {r:Rp×Int} {K M':Nat} (h:J s G P) (hF:Few N P) (hN:N≤M') (hu:UMe m) (e:m (start s 0)=(.err er,t)) (her:er≠0) (hr:r.2=er):m1W s P (a0B (h0V (e0O 0 m)) fun r=>ret r.1) r K M':=by
 obtain⟨s',e1,t1⟩:=h.ci.failed hu e her;refine⟨s',G,by rw[a0A e1,hr];rfl,?_,by have:=t1.room;omega,?_⟩
 ·rw[if_neg (by omega)];exact h.still t1
 ·rw[if_neg (by omega)];exact hF.mono hN
theorem b1I {x:Ent} {v:Vp} (hx:x.size=v.size) (hs:x.size≤2048) (a n:Int) (s:St):g0S x a n s=if m0B v a n then(.err 6,s)else(.ok (),s):=by
 unfold g0S l0E m0B;rw[if_neg (by omega),←hx];by_cases h:a<0∨n<0∨x.size<a∨x.size-a<n
 ·rw[if_pos h,decide_eq_true h];rfl
 ·rw[if_neg h,decide_eq_false h];rfl
theorem J.size (h:J s G P) {id:Int} {x:Ent} (hx:a0E id s.vols=some x):x.id=id∧1≤x.size∧x.size≤2048:=h.ci.ids _ (h.ci.mem hx)
theorem f1M {i:Nat} {v:Vp} {M':Nat} (hF:Few N P) (hN:N≤M') (hv:v.m.length≤M'):Few M' {P with l:=P.l.set i v} :=fun w hw=>by
 rcases List.mem_or_eq_of_mem_set hw with h1|rfl
 ·exact(hF.mono hN) w h1
 ·exact hv
theorem t0A (hF:Few N P) {i:Nat} (hi:i<P.l.length):(P.l.getD i v0).m.length≤N:=by rw[r0B hi];exact hF _ (List.getElem_mem hi)
theorem J.delete (h:J s G P) (hF:Few N P) (id:Int):m1W s P (r0U id) (g0T P id) 0 N:=by
 unfold r0U;cases hf:c0O P.l id with
 |none=>
  refine h.fails hF (Nat.le_refl _) (c2S id) (er:=5) (t:=start s 0) ?_ (by decide) (by unfold g0T;rw[hf]);unfold p0O;exact a0I (show find id (start s 0)=(.err 5,start s 0) by unfold find;rw[show a0E id (start s 0).vols=none from h.missing hf])
 |some i=>
  obtain⟨hi,x,he,hx,hr⟩:=h.found hf;obtain⟨s',G',e1,c1,v1,m1,n1,p1,b1,f1⟩:=h.ci.deleted hx;have er:g0T P id=({P with l:=P.l.eraseIdx i},0):=by unfold g0T;rw[hf]
  rw[er];refine⟨s',G',by rw[a0A e1];rfl,?_,by omega,?_⟩
  ·exact h.del hi he hx c1 v1 m1 n1 p1 b1
  ·exact fun v hv=>hF v (List.mem_of_mem_eraseIdx hv)
theorem J.write (h:J s G P) (hF:Few N P) (id at_:Int) {data:B} (hd:data.length%64=0→data.length≤768) (hroom:128≤b0K s):m1W s P (h0I id at_ data) (j0E P id at_ data) 96 (N+4):=by
 unfold h0I;cases hf:c0O P.l id with
 |none=>exact h.fails hF (by omega) (u0U id at_ data) (er:=5) (t:=start s 0) (by unfold i0H;exact a0I (b1G (h.missing hf))) (by decide) (by unfold j0E;rw[hf])
 |some i=>
  obtain⟨hi,x,he,hx,hr⟩:=h.found hf;have hsz:=h.size hx;have er:=u0V (at_:=at_) (data:=data) hf;by_cases ho:(P.l.getD i v0).only=true
  ·rw[if_pos ho]at er;exact h.fails hF (by omega) (u0U id at_ data) (er:=7) (t:=start s 0) (by unfold i0H;exact a0I (b1H hx (hr.only.trans ho))) (by decide) (by rw[er])
  rw[if_neg ho]at er;have hop:=h.ci.copened hx (show x.only=false by rw[hr.only];simpa using ho);by_cases h64:data.length%64≠0
  ·rw[if_pos h64]at er;exact h.fails hF (by omega) (u0U id at_ data) (er:=4) (t:=start s 0) (by unfold i0H;rw[a0A hop,if_pos h64];rfl) (by decide) (by rw[er])
  rw[if_neg h64]at er;have hd:=hd (by omega);have hw:=b1I hr.size hsz.2.2 at_ (data.length/64:Nat) (start s 0);by_cases hb:m0B (P.l.getD i v0) at_ (data.length/64:Nat)=true
  ·rw[if_pos hb]at er hw;exact h.fails hF (by omega) (u0U id at_ data) (er:=6) (t:=start s 0) (by unfold i0H;rw[a0A hop,if_neg h64];exact a0I hw) (by decide) (by rw[er])
  rw[if_neg hb]at er hw;have hbad: ¬(at_<0∨((data.length/64:Nat):Int)<0∨(P.l.getD i v0).size<at_∨(P.l.getD i v0).size-at_<((data.length/64:Nat):Int)):=fun hh=>hb (decide_eq_true hh);have hsv:=hr.size;have e0:i0H id at_ data (start s 0)=a0B (e0N x at_.toNat data) l0Q (start s 0):=by
   unfold i0H;rw[a0A hop,if_neg h64,a0A hw]
  have hC:=y0H;obtain⟨m,hm⟩: ∃m,m=data.length/64:=⟨_,rfl⟩;have hol:=h.ci.othersLen hx;have hmC:m*l0V≤12*12666:=Nat.mul_le_mul (by omega) hC;have hpat:=Inv.patch l0V rfl data.length m (x:=x) (at_:=at_.toNat) (data:=data) (h.ci.roots hx) (h.ci.start 0).2 (h.ci.kid _ (h.ci.mem hx)) (h.ci.othersKid id) (by omega) (by omega) (by omega) (g1K h.ci (by omega) 0) (by omega);rw[k1H,show(start s 0).bits=P.bits from h.bits]at hpat;have hrel:=r0C i data.length P (a0W G x.root) (n0M s G id) at_.toNat data hi (h.others hi he) hr.map (h.uniq hx) (by omega) (by omega) (Nat.le_refl _);rcases hpat with ⟨r,u,G',e1,i2,t2,k2,k3,m2,n2⟩| ⟨e,u,e1,he9⟩
  ·rcases hrel with ⟨g1,_⟩| ⟨_,m',g2,g3,_,g5,_⟩
   ·exact(n2 g1).elim
   ·obtain⟨s',e3,c3,v3,o3,q1,q2,q3,q4⟩:=h.ci.edited hx e0 e1 hsz.1 hsz.2 i2 t2 k2 k3 (by omega);rw[g2,if_neg (fun hh=>hh rfl)]at er;rw[er];refine⟨s',G',by rw[a0A e3];rfl,?_,by omega,?_⟩
    ·rw[←m2]at g3;exact h.set hi he hx c3 v3 o3 q1 q2 q3 he ⟨hr.parent,hr.only,hr.size,hr.born,g3⟩
    ·refine f1M hF (by omega) ?_;show m'.length≤N+4;have:=t0A hF hi;unfold c2P at g5;split at g5<;>omega
  ·have h3:b0K (start s 0)=b0K s:=rfl;have h4:(start s 0).keep=((2*(s.vols.length+0):Nat):Int):=rfl;have hfew:=h.ci.few;rcases he9 with ⟨_,h8⟩| ⟨h9,hno⟩
   ·rw[h3,h4]at h8;omega
   ·rcases hrel with ⟨_,g2⟩| ⟨g1,_⟩
    ·rw[if_pos (by rw[g2];decide),g2]at er;exact h.fails hF (by omega) (u0U id at_ data) (er:=9) (t:=u) (by rw[e0];subst h9;exact a0I e1) (by decide) (by rw[er])
    ·exact(g1 hno).elim
theorem J.noughts (h:J s G P) (hF:Few N P) {id:Int} {i:Nat} {x:Ent} {fr u:Nat} (hi:i<P.l.length) (he:(P.l.getD i v0).id=id) (hx:a0E id s.vols=some x) (hr:c2T G (P.l.getD i v0) x) (hfu:fr≤u) (hu:u≤2048) (hN:N≤80) (hroom:80+N*3≤b0K s):
 (∃r t G' m',h0K x fr u (start s 0)=(.ok {x with root:=r},t)∧Inv t G' (r::k0X s id)∧Stp (6*l0V+N*f0W 2) (48+N*3) (start s 0) G t G'∧a0Y G' 3 r∧(∀p∈k0X s id,a0Y G' 3 p∧a0W G' p=a0W G p)∧
  d0T P i fr u=(d0E P i m',0)∧k0W m' (a0W G' r)∧m'.length≤N)∨ ∃t,h0K x fr u (start s 0)=(.err 9,t)∧(d0T P i fr u).2=9:=by
 have hC:=y0H;have hC2:f0W 2≤12666:=Nat.le_trans (Nat.le_add_left _ 16) hC;have hol:=h.ci.othersLen hx;have hNC:N*f0W 2≤80*12666:=Nat.mul_le_mul hN hC2;have hrel:=s1U (fr:=fr) (u:=u) hi (h.others hi he) hr.map (h.uniq hx) hfu hu;have hml:=t0A hF hi;have hcl:=Inv.cclear (L:=N) l0V (f0W 2) rfl rfl (x:=x) (h.ci.roots hx) (h.ci.start 0).2 (h.ci.kid _ (h.ci.mem hx)) (h.ci.othersKid id) hfu hu ⟨Nat.zero_lt_one,by show 1+(6*l0V+N*f0W 2)+10<1000000000;omega,by show s.gone.length+(6*l0V+N*f0W 2)+10<1000000000;rw[h.ci.gone];simp only[List.length_nil];omega⟩ (by omega);rw[k1H,show(start s 0).bits=P.bits from h.bits]at hcl;have hcl:=hcl fun hs hno=>by
  rcases r0C i ((4*((fr+3)/4)-fr)*64) P (a0W G x.root) (n0M s G id) fr (a0K ((4*((fr+3)/4)-fr)*64)) hi (h.others hi he) hr.map (h.uniq hx) (by rw[f0Z];omega) (by rw[f0Z];omega) (by rw[f0Z];exact Nat.le_refl _)with ⟨g1,_⟩| ⟨_,m1,_,g3,_,_,g6⟩
  ·exact(hno g1).elim
  ·exact⟨m1,g3,Nat.le_trans (g6 (v0P _)) hml⟩
 rcases hcl with ⟨r,t,G',e1,i2,t2,k2,k3,m2,n2⟩| ⟨e,t,e1,he9⟩
 ·rcases hrel with ⟨g1,_⟩| ⟨_,m',g2,g3,_,g5⟩
  ·exact(n2 g1).elim
  ·exact .inl ⟨r,t,G',m',e1,i2,t2,k2,k3,g2,by rw[m2];exact g3,by omega⟩
 ·have h3:b0K (start s 0)=b0K s:=rfl;have h4:(start s 0).keep=((2*(s.vols.length+0):Nat):Int):=rfl;have hfew:=h.ci.few;rcases he9 with ⟨_,h8⟩| ⟨h9,hno⟩
  ·rw[h3,h4]at h8;omega
  ·rcases hrel with ⟨_,g2⟩| ⟨g1,_⟩
   ·subst h9;exact .inr ⟨t,e1,g2⟩
   ·exact(g1 hno).elim
theorem q2I (N:Nat) (hN:N≤80):6*l0V+N*f0W 2≤900000000:=by
 have hC:=y0H;have hC2:f0W 2≤12666:=Nat.le_trans (Nat.le_add_left _ 16) hC;have:=Nat.mul_le_mul hN hC2;omega
theorem J.trim (h:J s G P) (hF:Few N P) (id at_ n:Int) (hN:N≤80) (hroom:80+N*3≤b0K s):m1W s P (x0G id at_ n) (l0J P id at_ n) (48+N*3) N:=by
 unfold x0G;cases hf:c0O P.l id with
 |none=>exact h.fails hF (Nat.le_refl _) (b1F id at_ n) (er:=5) (t:=start s 0) (by unfold r0D;exact a0I (b1G (h.missing hf))) (by decide) (by unfold l0J;rw[hf])
 |some i=>
  obtain⟨hi,x,he,hx,hr⟩:=h.found hf;have hsz:=h.size hx;have er:=x0J (at_:=at_) (n:=n) hf;by_cases ho:(P.l.getD i v0).only=true
  ·rw[if_pos ho]at er;exact h.fails hF (Nat.le_refl _) (b1F id at_ n) (er:=7) (t:=start s 0) (by unfold r0D;exact a0I (b1H hx (hr.only.trans ho))) (by decide) (by rw[er])
  rw[if_neg ho]at er;have hop:=h.ci.copened hx (show x.only=false by rw[hr.only];simpa using ho);have hw:=b1I hr.size hsz.2.2 at_ n (start s 0);by_cases hb:m0B (P.l.getD i v0) at_ n=true
  ·rw[if_pos hb]at er hw;exact h.fails hF (Nat.le_refl _) (b1F id at_ n) (er:=6) (t:=start s 0) (by unfold r0D;rw[a0A hop];exact a0I hw) (by decide) (by rw[er])
  rw[if_neg hb]at er hw;have hbad: ¬(at_<0∨n<0∨(P.l.getD i v0).size<at_∨(P.l.getD i v0).size-at_<n):=fun hh=>hb (decide_eq_true hh);have hsv:=hr.size;have e0:r0D id at_ n (start s 0)=a0B (h0K x at_.toNat (at_+n).toNat) l0Q (start s 0):=by
   unfold r0D;rw[a0A hop,a0A hw]
  rw[er];rcases h.noughts hF (fr:=at_.toNat) (u:=(at_+n).toNat) hi he hx hr (by omega) (by omega) hN hroom with ⟨r,t,G',m',e1,i2,t2,k2,k3,g2,g3,g5⟩| ⟨t,e1,g2⟩
  ·obtain⟨s',e3,c3,v3,o3,q1,q2,q3,q4⟩:=h.ci.edited hx e0 e1 hsz.1 hsz.2 i2 t2 k2 k3 (q2I N hN);rw[g2];refine⟨s',G',by rw[a0A e3];rfl,?_,by omega,?_⟩
   ·exact h.set hi he hx c3 v3 o3 q1 q2 q3 he ⟨hr.parent,hr.only,hr.size,hr.born,g3⟩
   ·exact f1M hF (Nat.le_refl _) g5
  ·exact h.fails hF (Nat.le_refl _) (b1F id at_ n) (er:=9) (t:=t) (by rw[e0];exact a0I e1) (by decide) g2
theorem J.resize (h:J s G P) (hF:Few N P) (id size:Int) (hN:N≤80) (hroom:80+N*3≤b0K s):m1W s P (r0V id size) (g0U P id size) (48+N*3) N:=by
 unfold r0V;cases hf:c0O P.l id with
 |none=>exact h.fails hF (Nat.le_refl _) (v0Q id size) (er:=5) (t:=start s 0) (by unfold l0L;exact a0I (b1G (h.missing hf))) (by decide) (by unfold g0U;rw[hf])
 |some i=>
  obtain⟨hi,x,he,hx,hr⟩:=h.found hf;have hsz:=h.size hx;have er:=s0Z (size:=size) hf;by_cases ho:(P.l.getD i v0).only=true
  ·rw[if_pos ho]at er;exact h.fails hF (Nat.le_refl _) (v0Q id size) (er:=7) (t:=start s 0) (by unfold l0L;exact a0I (b1H hx (hr.only.trans ho))) (by decide) (by rw[er])
  rw[if_neg ho]at er;have hop:=h.ci.copened hx (show x.only=false by rw[hr.only];simpa using ho);by_cases hs:size<1∨2048<size
  ·rw[if_pos hs]at er;exact h.fails hF (Nat.le_refl _) (v0Q id size) (er:=4) (t:=start s 0) (by unfold l0L;rw[a0A hop,if_pos hs];rfl) (by decide) (by rw[er])
  rw[if_neg hs]at er;have hsv:=hr.size;have e0:l0L id size (start s 0)=a0B (if size<x.size then h0K x size.toNat x.size.toNat else ret x) (fun y=>l0Q {y with size:=size}) (start s 0):=by
   unfold l0L;rw[a0A hop,if_neg hs]
  by_cases hlt:size<x.size
  ·rw[if_pos hlt]at e0;have ersh:j0H P i size=d0T P i size.toNat (P.l.getD i v0).size.toNat:=by unfold j0H;rw[if_pos (by omega)]
   rw[ersh]at er;rcases h.noughts hF (fr:=size.toNat) (u:=x.size.toNat) hi he hx hr (by omega) (by omega) hN hroom with ⟨r,t,G',m',e1,i2,t2,k2,k3,g2,g3,g5⟩| ⟨t,e1,g2⟩
   ·rw[a0A e1]at e0;obtain⟨s',e3,c3,v3,o3,q1,q2,q3,q4⟩:=h.ci.edited (f:=fun _=>(.ok {x with root:=r,size:=size},t)) (y:= {x with root:=r,size:=size}) hx e0 rfl hsz.1 (by show 1≤size∧size≤2048;omega) i2 t2 k2 k3 (q2I N hN);rw[hsv]at g2;rw[g2,if_neg (fun hh=>hh rfl)]at er;have hra:=x0F (m:=m') hi;have erl:({d0E P i m' with l:=(d0E P i m').l.set i {(d0E P i m').l.getD i v0 with size:=size}} :Rp)= {P with l:=P.l.set i {P.l.getD i v0 with m:=m',size:=size}} :=by
     rw[hra];unfold d0E;simp only[List.set_set]
    rw[er];refine⟨s',G',by rw[a0A e3];rfl,?_,by omega,?_⟩
    ·simp only[if_true];rw[erl];exact h.set hi he hx c3 v3 o3 q1 q2 q3 he ⟨hr.parent,hr.only,rfl,hr.born,g3⟩
    ·simp only[if_true];rw[erl];exact f1M hF (Nat.le_refl _) g5
   ·rw[hsv]at g2;rw[if_pos (by rw[g2];decide)]at er;exact h.fails hF (Nat.le_refl _) (v0Q id size) (er:=9) (t:=t) (by rw[e0];exact a0I e1) (by decide) (by rw[er];exact g2)
  ·rw[if_neg hlt]at e0;have ersh:j0H P i size=(P,0):=by unfold j0H;rw[if_neg (by omega)]
   rw[ersh,if_neg (fun hh=>hh rfl)]at er;obtain⟨i1,x1⟩:=h.ci.start 0;have hroot:=h.ci.roots hx;have hkid:=h.ci.kid _ (h.ci.mem hx);obtain⟨s',e3,c3,v3,o3,q1,q2,q3,q4⟩:=h.ci.edited (f:=fun _=>(.ok {x with size:=size},start s 0)) (y:= {x with size:=size}) hx e0 rfl hsz.1 (by show 1≤size∧size≤2048;omega) hroot (Stp.refl i1 x1) hkid (fun p hp=>⟨h.ci.othersKid id p hp,rfl⟩) (by omega);rw[er];refine⟨s',G,by rw[a0A e3];rfl,?_,by omega,?_⟩
   ·exact h.set hi he hx c3 v3 o3 q1 q2 q3 he ⟨hr.parent,hr.only,rfl,hr.born,hr.map⟩
   ·exact f1M hF (Nat.le_refl _) (t0A hF hi)
end
end
section
section
variable {s:St} {G:Gh} {P:Rp} {N:Nat}
def v0R (s:St) (G:Gh) (P:Rp) (m:M (Int×Int)) (r:Rp×Int×Int) (N:Nat):Prop:= ∃s' n,m s=(.ok (n,r.2.2),s')∧(r.2.2=0→n=r.2.1)∧(r.2.2≠0→n=0)∧J s' G (if r.2.2=0 then r.1 else P)∧b0K s≤b0K s'∧Few N (if r.2.2=0 then r.1 else P)
theorem v0R.no (h:J s G P) (hF:Few N P) {m:M (Int×Int)} {r:Rp×Int×Int} {e:Int} (he:e≠0) (hr:r.2.2=e) (hm:m s=(.ok (0,e),s)):v0R s G P m r N:=
 ⟨s,0,by rw[hm,hr],fun h0=>(he (hr.symm.trans h0)).elim,fun _=>rfl,by rw[if_neg (by omega)];exact h,Nat.le_refl _,by rw[if_neg (by omega)];exact hF⟩
theorem z1S (hF:Few N P) {v:Vp} (hv:v.m.length≤N) (h16:P.l.length<16):Few N (g0Q P v).1:=by
 unfold g0Q;rw[if_neg (by omega)];intro w hw;rcases List.mem_append.1 hw with h1|h1
 ·exact hF w h1
 ·rw[List.mem_singleton.1 h1];exact hv
theorem z1T {v:Vp} (h16:P.l.length<16):(g0Q P v).2.2=0∧(g0Q P v).2.1=P.next:=by unfold g0Q;rw[if_neg (by omega)];exact⟨rfl,rfl⟩
theorem z1U {v:Vp} (h16: ¬P.l.length<16):(g0Q P v).2.2=13:=by unfold g0Q;rw[if_pos (by omega)]
theorem J.none_next (h:J s G P):a0E s.next s.vols=none:=by
 cases e:a0E s.next s.vols with
 |none=>rfl
 |some y=>
  obtain⟨w,hw,e2⟩:=h.back _ (h.ci.mem e);have:=(h.ids w hw).2;simp only at e2;rw[h.next]at e2;omega
theorem x2S:k0W [] (a0W G 0)↔ ∀j,a0W G 0 j=a0K 256:=⟨fun h j=>h.eq j,fun h=>⟨o1N,fun x hx=>(by cases hx),h⟩⟩
theorem J.create (h:J s G P) (hF:Few N P) (hn:P.next<1000000000) (hroom:40≤b0K s) (size:Int):v0R s G P (g0K size) (e0S P size) N:=by
 have hlen:=h.len;by_cases hs:size<1∨2048<size
 ·exact v0R.no h hF (e:=4) (by decide) (by unfold e0S;rw[if_pos hs]) (by unfold g0K;rw[if_pos hs];rfl)
 by_cases h16:P.l.length<16
 ·obtain⟨s',e1,c1,v1,n1,p1,b1,f1⟩:=h.ci.create (size:=size) (by omega) (by omega) h.none_next (by omega);have er:e0S P size=g0Q P {v0 with size:=size} :=by unfold e0S;rw[if_neg hs]
  rw[er];obtain⟨r1,r2⟩:=z1T (P:=P) (v:= {v0 with size:=size}) h16;refine⟨s',s.next,by rw[e1,r1],fun _=>by rw[r2,h.next],fun hh=>(hh r1).elim,?_,f1,?_⟩
  ·rw[if_pos r1];have hm:k0W [] (a0W G 0):=x2S.2 fun j=>by rw[h2L h.ci.inv.zero]
   exact h.add (x:= {h0T with size:=size}) (v:= {v0 with size:=size}) hn h16 c1 v1 (fun _ _=>rfl) n1 p1 b1 ⟨rfl,rfl,rfl,hm⟩
  ·rw[if_pos r1];exact z1S hF (Nat.zero_le _) h16
 ·refine v0R.no h hF (e:=13) (by decide) (by unfold e0S;rw[if_neg hs];exact z1U h16) ?_;unfold g0K l0U;rw[if_neg hs];simp only;rw[if_pos (by omega)]
theorem J.copy (h:J s G P) (hF:Few N P) (hn:P.next<1000000000) (hroom:40≤b0K s) (id:Int) (only:Bool):v0R s G P (i0G id only) (i0N P id only) N:=by
 have hlen:=h.len;cases hf:c0O P.l id with
 |none=>exact v0R.no h hF (e:=5) (by decide) (by unfold i0N;rw[hf]) (by unfold i0G;rw[h.missing hf])
 |some i=>
  obtain⟨hi,x,he,hx,hr⟩:=h.found hf;have er:i0N P id only=g0Q P {v0 with parent:=id,only:=only,size:=(P.l.getD i v0).size,m:=(P.l.getD i v0).m} :=by unfold i0N;rw[hf]
  by_cases h16:P.l.length<16
  ·obtain⟨s',e1,c1,v1,n1,p1,b1,f1⟩:=h.ci.copy (only:=only) hx (by omega) h.none_next (by omega);rw[er];obtain⟨r1,r2⟩:=z1T (P:=P) (v:= {v0 with parent:=id,only:=only,size:=(P.l.getD i v0).size,m:=(P.l.getD i v0).m}) h16;refine⟨s',s.next,by rw[e1,r1],fun _=>by rw[r2,h.next],fun hh=>(hh r1).elim,?_,f1,?_⟩
   ·rw[if_pos r1];exact h.add (x:= {h0T with parent:=id,only:=only,size:=x.size,root:=x.root}) (v:= {v0 with parent:=id,only:=only,size:=(P.l.getD i v0).size,m:=(P.l.getD i v0).m}) hn h16 c1 v1 (fun _ _=>rfl) n1 p1 b1 ⟨rfl,rfl,hr.size,hr.map⟩
   ·rw[if_pos r1];exact z1S hF (t0A hF hi) h16
  ·refine v0R.no h hF (e:=13) (by decide) (by rw[er];exact z1U h16) ?_;unfold i0G;rw[hx];unfold l0U;simp only;rw[if_pos (by omega)]
theorem k1I (m:List Lf) (at_ a:Nat): ∀b,k0L m at_ (a+b)=k0L m at_ a++k0L m (at_+a) b
 |0=>by rw[Nat.add_zero];exact(List.append_nil _).symm
 |b+1=>by rw[←Nat.add_assoc,k0L,k1I m at_ a b,k0L,List.append_assoc,Nat.add_assoc]
theorem o1R {m:List Lf} (hm:m0D m) (at_:Nat): ∀q,q≤4-at_%4→k0L m at_ q=((f0M (at_/4:Nat) m).drop (at_%4*64)).take (q*64)
 |0,_=>by simp[k0L]
 |q+1,hq=>by
  have hl:=hm.get_len ((at_/4:Nat):Int);rw[k0L,o1R hm at_ q (by omega),show(at_+q)/4=at_/4 by omega,show(at_+q)%4=at_%4+q by omega,Nat.succ_mul,List.take_add,List.drop_drop,←Nat.add_mul]
theorem i1H {m:List Lf} {f:Nat→B} (h:k0W m f): ∀(k at_ n:Nat),n≤k→b1D f k at_ n=k0L m at_ n
 |0,at_,n,hn=>by
  obtain rfl:n=0:=by omega
  rfl
 |k+1,at_,n,hn=>by
  unfold b1D;by_cases h0:n=0
  ·rw[if_pos h0,h0];rfl
  ·rw[if_neg h0,i1H h k _ _ (by omega),h.eq,←o1R h.ok at_ _ (by omega),←k1I,show min n (4-at_%4)+(n-min n (4-at_%4))=n by omega]
theorem J.read (h:J s G P) (id at_ n:Int): ∃s',o0G id at_ n s=(.ok (m0C P id at_ n),s')∧J s' G P∧b0K s≤b0K s':=by
 cases hf:c0O P.l id with
 |none=>
  obtain⟨s',e1,t1⟩:=h.ci.failed0 (s1W id at_ n) (er:=5) (t:= {s with depth:=1}) (by unfold o0B;exact a0I (show find id {s with depth:=1} =(.err 5,{s with depth:=1}) by unfold find;rw[show a0E id ({s with depth:=1} :St).vols=none from h.missing hf])) (by decide);refine⟨s',?_,h.still t1,t1.room⟩;unfold o0G m0C;rw[a0A e1,hf];rfl
 |some i=>
  obtain⟨hi,x,he,hx,hr⟩:=h.found hf;have hsz:=h.size hx;have hw:=b1I hr.size hsz.2.2 at_ n {s with depth:=1};by_cases hb:m0B (P.l.getD i v0) at_ n=true
  ·rw[if_pos hb]at hw;obtain⟨s',e1,t1⟩:=h.ci.failed0 (s1W id at_ n) (er:=6) (t:= {s with depth:=1}) (by
    unfold o0B;rw[a0A (show find id {s with depth:=1} =(.ok x,{s with depth:=1}) by unfold find;rw[show a0E id ({s with depth:=1} :St).vols=some x from hx])];exact a0I hw) (by decide)
   refine⟨s',?_,h.still t1,t1.room⟩;unfold o0G m0C;rw[a0A e1,hf];simp only;rw[if_pos hb];rfl
  ·have hbad: ¬(at_<0∨n<0∨(P.l.getD i v0).size<at_∨(P.l.getD i v0).size-at_<n):=fun hh=>hb (decide_eq_true hh);have hsv:=hr.size;have e1:=h.ci.read (at_:=at_.toNat) (n:=n.toNat) hx (by omega);rw[Int.toNat_of_nonneg (by omega),Int.toNat_of_nonneg (by omega)]at e1;refine⟨s,?_,h,Nat.le_refl _⟩;rw[e1,i1H hr.map _ _ _ (Nat.le_refl _)];unfold m0C;rw[hf];simp only;rw[if_neg hb]
theorem J.epoch_ (h:J s G P) (n:Int):J {s with epoch:=n} G {P with epoch:=n} :=
 ⟨⟨h.ci.inv.other rfl rfl rfl rfl rfl ⟨h.ci.inv.u.m.refs,h.ci.inv.u.m.young,h.ci.inv.u.m.index,h.ci.inv.u.m.vols⟩ h.ci.inv.u.keep,h.ci.idx,h.ci.kid,h.ci.ids,h.ci.dep,h.ci.log,h.ci.gone,h.ci.few⟩,h.next,h.pos,h.bits,rfl,h.len,h.ord,h.ids,h.vol,h.back⟩
theorem J.sum (h:J s G P) {id:Int} {x:Ent} (hx:a0E id s.vols=some x):v0O id s=(.ok (d0N G x.root,0),s):=by
 have e0:d1M id {s with depth:=1} =(.ok (d0N G x.root),{s with depth:=1}):=by
  unfold d1M;rw[a0A (show find id {s with depth:=1} =(.ok x,{s with depth:=1}) by unfold find;rw[show a0E id ({s with depth:=1} :St).vols=some x from hx])];unfold h1P;rw[a0A (h.ci.deep.loadK (h.ci.kid _ (h.ci.mem hx)))];rfl
 unfold v0O;rw[a0A (q0I h.ci e0 (Rel.refl h.ci.deep.u)),s1H h.ci.dep h.ci.log h.ci.gone];rfl
end
end
section
def z0T (s:St):St:= {s with g:=f0O s.g,young:= []}
theorem k1J {fr:Nat} {g:List Nat} {a:Int} :isB fr (f0O g) a 1=isB fr g a 1:=by
 unfold isB f0O;rw[List.length_map,List.getElem?_map];cases h:g[(a-fr).toNat]? with
 |none=>rfl
 |some x=>
  rw[Option.map_some];by_cases h2:x=2
  ·subst h2;simp
  ·rw[if_neg h2]
theorem x0K: ∀g:List Nat,(f0O g).count 1=g.count 1∧g.count 0≤(f0O g).count 0
 | []=>⟨rfl,Nat.le_refl _⟩
 |x::g=>by
  obtain⟨h1,h2⟩:=x0K g;have e:f0O (x::g)=(if x=2 then 0 else x)::f0O g:=rfl;rw[e,List.count_cons,List.count_cons,List.count_cons,List.count_cons];by_cases hx:x=2
  ·subst hx;simp;omega
  ·rw[if_neg hx];omega
section
variable {s s':St} {G G':Gh} {P P':List Int}
theorem CI.settle (h:CI s G):CI (z0T s) G:=by
 have i:=h.inv;have hl:(f0O s.g).length=s.g.length:=by unfold f0O;simp
 refine⟨⟨⟨⟨i.u.m.refs,List.nodup_nil,i.u.m.index,i.u.m.vols⟩,i.u.keep,fun a ha=> ?_,i.u.run,?_,?_⟩,i.nod,i.lo,?_,i.refs,i.live,i.zero,fun a=> ?_,i.disk,i.typ,?_⟩,h.idx,h.kid,h.ids,h.dep,h.log,h.gone,h.few⟩
 ·exact k1J.trans (i.u.held a ha)
 ·show s.d.l.length=s.fr+(f0O s.g).length;rw[hl];exact i.u.size
 ·show s.gone.Nodup∧ ∀a∈s.gone,isB s.fr (f0O s.g) a 2=true;rw[h.gone];exact⟨List.nodup_nil,fun a ha=>(by cases ha)⟩
 ·show s.fr+(f0O s.g).length≤65535;rw[hl];exact i.hi
 ·show isB s.fr (f0O s.g) a 1=true↔_;rw[k1J];exact i.held a
 ·exact i.cnt.trans (x0K s.g).1.symm
theorem w1W (s:St):b0K s≤b0K (z0T s):=(x0K s.g).2
theorem J.settle {P:Rp} (h:J s G P):J (z0T s) G P:=⟨h.ci.settle,h.next,h.pos,h.bits,h.epoch,h.len,h.ord,h.ids,h.vol,h.back⟩
theorem Inv.leafSum (h:Inv s G P) (h':Inv s' G' P') {a a':Int} (ha:a0Y G 0 a) (ha':a0Y G' 0 a') (he:d0B G a=d0B G' a'):d0N G a=d0N G' a':=by
 rcases ha with rfl| ⟨d,t,ho⟩<;>rcases ha' with rfl| ⟨d',t',ho'⟩
 ·unfold d0N;rw[h.zero,h'.zero]
 ·exfalso;unfold d0B at he;rw[h.zero,ho']at he;have:=(h'.typ _ _ ho').2.1;simp only at he;rw[←he,d0L]at this;cases this
 ·exfalso;unfold d0B at he;rw[h'.zero,ho]at he;have:=(h.typ _ _ ho).2.1;simp only at he;rw[he,d0L]at this;cases this
 ·unfold d0B at he;rw[ho,ho']at he;simp only at he;unfold d0N;rw[ho,ho',he]
theorem v0S {l i j:Nat} {a:Int} (hi:i<8) (hj:j<8^(l+1)):c0K G (l+1) a (i*8^(l+1)+j)=c0K G l ((b0E G a).getD i 0) j:=by
 have hp0:0<8^(l+1):=Nat.pow_pos (by decide);have e3:(b0O (l+1) (i*8^(l+1)+j)).1=i:=by
  unfold b0O;simp only;rw[Nat.mul_comm i,Nat.mul_add_div hp0,Nat.div_eq_of_lt hj,Nat.add_zero,Nat.mod_eq_of_lt hi]
 have e4:(b0O (l+1) (i*8^(l+1)+j)).2=j:=by
  unfold b0O;simp only;rw[Nat.mul_comm i,Nat.mul_add_mod,Nat.mod_eq_of_lt hj]
 conv=>lhs;unfold c0K
 rw[e3,e4]
theorem v2V {ks:List Int} (h8:ks.length=8) (hne:ks≠e0F): ∃i,i<8∧ks.getD i 0≠0:=by
 refine Classical.byContradiction fun hno=>hne ?_;refine List.ext_getElem (by rw[h8];rfl) fun i h1 h2=> ?_;have hi:i<8:=by omega
 have:ks.getD i 0=0:=Classical.byContradiction fun h=>hno ⟨i,hi,h⟩;rw[List.getD_eq_getElem?_getD,List.getElem?_eq_getElem h1]at this;simp only[Option.getD_some]at this;have h3:=c2L i;rw[List.getD_eq_getElem?_getD,List.getElem?_eq_getElem h2]at h3;simp only[Option.getD_some]at h3;rw[this,h3]
theorem Inv.someLeaf (h:Inv s G P): ∀(l:Nat) {a:Int},a0Y G (l+1) a→a≠0→ ∃j,j<8^(l+1)∧a0R (d0B G (c0K G l a j))=false
 |l,a,ha,hne=>by
  obtain⟨ks,sm,ho⟩:=ha.resolve_left hne;obtain⟨t1,t2,t3,t4,t5⟩:=h.typ a _ ho;have hk:b0E G a=ks:=by unfold b0E;rw[ho]
  obtain⟨i,hi,hki⟩:=v2V t2 t3;have hkid:=t4 _ (g0J (i:=i) (by rw[t2];exact hi));cases l with
  |zero=>
   obtain⟨d,t,hd⟩:=hkid.resolve_left hki;refine⟨i,by simpa using hi,?_⟩;have e:c0K G 0 a i=ks.getD i 0:=by
    unfold c0K b0O;simp only;rw[hk,show i/8^0%8=i by omega]
   rw[e];unfold d0B;rw[hd];exact(h.typ _ _ hd).2.1
  |succ l=>
   obtain⟨j,hj,hz⟩:=h.someLeaf l hkid hki;have hp:8^(l+1+1)=8*8^(l+1):=by rw[Nat.pow_succ];omega
   have:i*8^(l+1)≤7*8^(l+1):=Nat.mul_le_mul_right _ (by omega);exact⟨i*8^(l+1)+j,by rw[hp];omega,by rw[v0S hi hj,hk];exact hz⟩
theorem Inv.noLeaf (h:Inv s G P) (l:Nat) {a:Int} (ha:a0Y G (l+1) a) (hz: ∀j,j<8^(l+1)→a0R (d0B G (c0K G l a j))=true):a=0:=by
 refine Classical.byContradiction fun hne=> ?_;obtain⟨j,hj,e⟩:=h.someLeaf l ha hne;rw[hz j hj]at e;cases e
theorem q2J (hz:a0E 0 G=none):a0R (d0B G 0)=true:=by unfold d0B;rw[hz];exact d0L _
theorem Inv.sumSame (h:Inv s G P) (h':Inv s' G' P'): ∀(l:Nat) {a a':Int},a0Y G (l+1) a→a0Y G' (l+1) a'→(∀j,j<8^(l+1)→d0B G (c0K G l a j)=d0B G' (c0K G' l a' j))→d0N G a=d0N G' a'
 |l,a,a',ha,ha',he=>by
  by_cases h0:a=0
  ·have h0':a'=0:=h'.noLeaf l ha' fun j hj=>by rw[←he j hj,h0,t0R h.zero];exact q2J h.zero
   rw[h0,h0'];unfold d0N;rw[h.zero,h'.zero]
  ·have h0':a'≠0:=fun e=>h0 (h.noLeaf l ha fun j hj=>by rw[he j hj,e,t0R h'.zero];exact q2J h'.zero);obtain⟨ks,sm,ho⟩:=ha.resolve_left h0;obtain⟨ks',sm',ho'⟩:=ha'.resolve_left h0';obtain⟨t1,t2,t3,t4,t5⟩:=h.typ a _ ho;obtain⟨u1,u2,u3,u4,u5⟩:=h'.typ a' _ ho';have hk:b0E G a=ks:=by unfold b0E;rw[ho]
   have hk':b0E G' a'=ks':=by unfold b0E;rw[ho']
   have hs:ks.map (d0N G)=ks'.map (d0N G'):=by
    refine List.ext_getElem (by simp[t2,u2]) fun i h1 h2=> ?_;rw[List.getElem_map,List.getElem_map];have hi:i<8:=by simpa [t2] using h1
    have e1:ks.getD i 0=ks[i]:=by rw[List.getD_eq_getElem?_getD,List.getElem?_eq_getElem];rfl
    have e2:ks'.getD i 0=ks'[i]:=by rw[List.getD_eq_getElem?_getD,List.getElem?_eq_getElem];rfl
    have k1:=t4 _ (List.getElem_mem (h:=by simpa using h1));have k2:=u4 _ (List.getElem_mem (h:=by simpa using h2));cases l with
    |zero=>
     refine h.leafSum h' k1 k2 ?_;have:=he i (by simpa using hi);unfold c0K b0O at this;simp only at this;rw[show i/8^0%8=i by omega,hk,hk',e1,e2]at this;exact this
    |succ l=>
     refine h.sumSame h' l k1 k2 fun j hj=> ?_;have hp:8^(l+1+1)=8*8^(l+1):=by rw[Nat.pow_succ];omega
     have:i*8^(l+1)≤7*8^(l+1):=Nat.mul_le_mul_right _ (by omega);have:=he (i*8^(l+1)+j) (by rw[hp];omega);rw[v0S hi hj,v0S hi hj,hk,hk',e1,e2]at this;exact this
   unfold d0N;rw[ho,ho'];simp only;rw[t5,u5,hs]
theorem Inv.sumMap (h:Inv s G P) (h':Inv s' G' P') {a a':Int} (ha:a0Y G 3 a) (ha':a0Y G' 3 a') (he:a0W G a=a0W G' a'):d0N G a=d0N G' a':=h.sumSame h' 2 ha ha' fun j hj=>by
 have:=congrFun he j;unfold a0W at this;rw[if_pos hj,if_pos hj]at this;exact this
end
end
section
structure b1J (k:Nat) (id at_ n:Int) (data:B) (s:St) (P:Rp) (e:Int) (t:St) (Q:Rp):Prop where
 k0:k=0→ ∃m,g0K n s=(.ok (m,e),t)∧(e0S P n).2.2=e∧(e=0→m=(e0S P n).2.1)∧(e≠0→m=0)∧Q=if e=0 then(e0S P n).1 else P
 k1:k=1∨k=2→ ∃m,i0G id (decide (k=1)) s=(.ok (m,e),t)∧(i0N P id (decide (k=1))).2.2=e∧(e=0→m=(i0N P id (decide (k=1))).2.1)∧(e≠0→m=0)∧Q=if e=0 then(i0N P id (decide (k=1))).1 else P
 k3:k=3→r0U id s=(.ok e,t)∧(g0T P id).2=e∧Q=if e=0 then(g0T P id).1 else P
 k4:k=4→r0V id n s=(.ok e,t)∧(g0U P id n).2=e∧Q=if e=0 then(g0U P id n).1 else P
 k5:4<k∧k<9→h0I id at_ data s=(.ok e,t)∧(j0E P id at_ data).2=e∧Q=if e=0 then(j0E P id at_ data).1 else P
 k9:k=9∨k=10→x0G id at_ n s=(.ok e,t)∧(l0J P id at_ n).2=e∧Q=if e=0 then(l0J P id at_ n).1 else P
 k11:k=11→o0G id at_ n s=(.ok (m0C P id at_ n),t)∧(m0C P id at_ n).2=e∧Q=P
 k12:k=12→t= {s with epoch:=n%256} ∧e=0∧Q= {P with epoch:=n%256}
 k13:k=13→t=z0T s∧e=0∧Q=P
def e0P (id:Int) (P Q:Rp):Prop:= ∀v∈P.l,v.id≠id→v∈Q.l
theorem e0P.refl (id:Int) (P:Rp):e0P id P P:=fun _ h _=>h
theorem k1K (id:Int) (P:Rp) (v:Vp):e0P id P (g0Q P v).1:=fun w hw _=>by
 unfold g0Q;split
 ·exact hw
 ·exact List.mem_append_left _ hw
theorem o1S {id:Int} {P:Rp} {i:Nat} {w:Vp} (he: ∀h:i<P.l.length,P.l[i].id=id): ∀v∈P.l,v.id≠id→v∈P.l.set i w:=fun v hv hne=>by
 obtain⟨k,hk,rfl⟩:=List.mem_iff_getElem.1 hv;have hki:i≠k:=fun e=>by subst e;exact hne (he hk)
 have:(P.l.set i w)[k]'(by simpa using hk)=P.l[k]:=List.getElem_set_ne hki _;rw[←this];exact List.getElem_mem _
theorem m0G (i:Nat): ∀(k:Nat) (c:Rp) (at_:Nat) (d:B),i<c.l.length→ ∃m,(d0D i k c at_ d).1=d0E c i m
 |0,c,_,_,hi=>⟨(c.l.getD i v0).m,(n0O hi).symm⟩
 |k+1,c,at_,d,hi=>by
  rw[d0D];split
  ·exact⟨(c.l.getD i v0).m,(n0O hi).symm⟩
  ·simp only;split
   ·exact⟨(c.l.getD i v0).m,(n0O hi).symm⟩
   ·obtain⟨m,h⟩:=m0G i k (d0E c i (j0X (c.l.getD i v0).m (at_/4:Nat) (b1B (f0M (at_/4:Nat) (c.l.getD i v0).m) d (at_%4*64) (min d.length (256-at_%4*64))))) (at_+min d.length (256-at_%4*64)/64) (d.drop (min d.length (256-at_%4*64))) (by rw[s0F];exact hi);exact⟨m,h.trans (p0N hi)⟩
theorem k0C (i:Nat) (c:Rp) (f u:Nat) (hi:i<c.l.length): ∃m,(d0T c i f u).1=d0E c i m:=by
 unfold d0T;simp only;split
 ·exact m0G i _ c f _ hi
 ·split
  ·exact⟨(c.l.getD i v0).m,(n0O hi).symm⟩
  ·split
   ·exact⟨(c.l.getD i v0).m,(n0O hi).symm⟩
   ·obtain⟨m1,e1⟩:=m0G i ((4*((f+3)/4)-f)*64) c f (a0K ((4*((f+3)/4)-f)*64)) hi;rw[e1,p0N hi];obtain⟨m2,e2⟩:=m0G i ((u-4*(u/4))*64) (d0E c i (g0P ((d0E c i m1).l.getD i v0).m ((f+3)/4:Nat) (u/4:Nat))) (4*(u/4)) (a0K ((u-4*(u/4))*64)) (by rw[s0F];exact hi);exact⟨m2,e2.trans (p0N hi)⟩
theorem k1L {id:Int} {P:Rp} {i:Nat} {m:List Lf} (he: ∀h:i<P.l.length,P.l[i].id=id):e0P id P (d0E P i m):=o1S he
theorem w1X (id at_:Int) (data:B) (P:Rp):e0P id P (j0E P id at_ data).1:=by
 cases hf:c0O P.l id with
 |none=>unfold j0E;rw[hf];exact e0P.refl _ _
 |some i=>
  obtain⟨hi,he⟩:=h0Z hf;rw[u0V hf];split
  ·exact e0P.refl _ _
  split
  ·exact e0P.refl _ _
  split
  ·exact e0P.refl _ _
  split
  ·exact e0P.refl _ _
  ·obtain⟨m,e⟩:=m0G i data.length P at_.toNat data hi;simp only;rw[e];exact k1L fun _=>he
theorem c2U (id at_ n:Int) (P:Rp):e0P id P (l0J P id at_ n).1:=by
 cases hf:c0O P.l id with
 |none=>unfold l0J;rw[hf];exact e0P.refl _ _
 |some i=>
  obtain⟨hi,he⟩:=h0Z hf;rw[x0J hf];split
  ·exact e0P.refl _ _
  split
  ·exact e0P.refl _ _
  ·obtain⟨m,e⟩:=k0C i P at_.toNat (at_+n).toNat hi;rw[e];exact k1L fun _=>he
theorem s1X (id size:Int) (P:Rp):e0P id P (g0U P id size).1:=by
 cases hf:c0O P.l id with
 |none=>unfold g0U;rw[hf];exact e0P.refl _ _
 |some i=>
  obtain⟨hi,he⟩:=h0Z hf;rw[s0Z hf];split
  ·exact e0P.refl _ _
  split
  ·exact e0P.refl _ _
  split
  ·exact e0P.refl _ _
  ·have: ∃m,(j0H P i size).1=d0E P i m:=by
    unfold j0H;split
    ·exact k0C i P _ _ hi
    ·exact⟨_,(n0O hi).symm⟩
   obtain⟨m,e⟩:=this;simp only;rw[e];unfold d0E;simp only[List.set_set];exact o1S (P:=P) fun _=>he
theorem s1Y (id:Int) (P:Rp):e0P id P (g0T P id).1:=by
 cases hf:c0O P.l id with
 |none=>unfold g0T;rw[hf];exact e0P.refl _ _
 |some i=>
  obtain⟨hi,he⟩:=h0Z hf;unfold g0T;rw[hf];intro w hw hne;obtain⟨k,hk,rfl⟩:=List.mem_iff_getElem.1 hw;show _∈P.l.eraseIdx i;rw[List.mem_eraseIdx_iff_getElem];exact⟨k,hk,fun e=>by subst e;exact hne he,rfl⟩
theorem s1Z {id:Int} {P Q:Rp} {p:Prop} [Decidable p] (h:e0P id P Q):e0P id P (if p then Q else P):=by
 split
 ·exact h
 ·exact e0P.refl _ _
theorem t1A (id size:Int) (P:Rp):e0P id P (e0S P size).1:=by
 unfold e0S;split
 ·exact e0P.refl _ _
 ·exact k1K _ _ _
theorem c2V (id id':Int) (only:Bool) (P:Rp):e0P id P (i0N P id' only).1:=by
 unfold i0N;split
 ·exact e0P.refl _ _
 ·exact k1K _ _ _
def Bud (i:Nat) (s:St) (P:Rp):Prop:= ∃w t,w+t≤i∧Few (4*w) P∧2498≤b0K s+96*w+t*(48+12*w)
theorem h2P: ∀w,w<18→ ∀t,t<18→w+t≤17→96*w+t*(48+12*w)≤2150:=by decide
theorem m2S {i:Nat} {s:St} {P:Rp} {w t:Nat} (hi:i≤17) (h:w+t≤i) (hf:2498≤b0K s+96*w+t*(48+12*w)):340≤b0K s∧w≤17:=by
 have:=h2P w (by omega) t (by omega) (by omega);omega
section
variable {s:St} {G:Gh} {P:Rp}
theorem o1T (P:Rp) (v:Vp):(g0Q P v).1.next≤P.next+1:=by
 unfold g0Q;split<;>simp only<;>omega
theorem c2W (id at_:Int) (data:B) (P:Rp):(j0E P id at_ data).1.next=P.next:=by
 cases hf:c0O P.l id with
 |none=>unfold j0E;rw[hf]
 |some i=>
  obtain⟨hi,_⟩:=h0Z hf;rw[u0V hf]
  repeat' split
  all_goals first|rfl| (simp only;obtain⟨m,e⟩:=m0G i data.length P at_.toNat data hi;rw[e];rfl)
theorem h2Q (id at_ n:Int) (P:Rp):(l0J P id at_ n).1.next=P.next:=by
 cases hf:c0O P.l id with
 |none=>unfold l0J;rw[hf]
 |some i=>
  obtain⟨hi,_⟩:=h0Z hf;rw[x0J hf]
  repeat' split
  all_goals first|rfl| (obtain⟨m,e⟩:=k0C i P at_.toNat (at_+n).toNat hi;rw[e];rfl)
theorem w1Y (id n:Int) (P:Rp):(g0U P id n).1.next=P.next:=by
 cases hf:c0O P.l id with
 |none=>unfold g0U;rw[hf]
 |some i=>
  obtain⟨hi,_⟩:=h0Z hf;rw[s0Z hf];have:(j0H P i n).1.next=P.next:=by
   unfold j0H;split
   ·obtain⟨m,e⟩:=k0C i P n.toNat (P.l.getD i v0).size.toNat hi;rw[e];rfl
   ·rfl
  repeat' split
  all_goals first|rfl|exact this
theorem J.act (h:J s G P) {i:Nat} (hB:Bud i s P) (hi:i≤17) (hn:P.next<1000000) {k:Nat} (hk:k<14) (id at_ n:Int) {data:B} (hd:data.length%64=0→data.length≤768):
 ∃e t Q G',b1J k id at_ n data s P e t Q∧J t G' Q∧Bud (i+1) t Q∧Q.next≤P.next+1∧e0P id P Q:=by
 obtain⟨w,tt,hwt,hF,hfree⟩:=hB;obtain⟨hroom,hw17⟩:=m2S (P:=P) hi hwt hfree;have none_: ∀ {s':St} {Q:Rp},b0K s≤b0K s'→Few (4*w) Q→Bud (i+1) s' Q:=fun h1 h2=>⟨w,tt,by omega,h2,by omega⟩;have made: ∀ {m:M (Int×Int)} {r:Rp×Int×Int},v0R s G P m r (4*w)→(r.1.next≤P.next+1)→e0P id P r.1→ ∃e t Q G',(∃n,m s=(.ok (n,e),t)∧r.2.2=e∧(e=0→n=r.2.1)∧(e≠0→n=0)∧Q=if e=0 then r.1 else P)∧J t G' Q∧Bud (i+1) t Q∧Q.next≤P.next+1∧e0P id P Q:=by
  rintro m r ⟨s',n,e1,e2,e3,e4,e5,e6⟩ hnx hkp;refine⟨r.2.2,s',_,G,⟨n,e1,rfl,e2,e3,rfl⟩,e4,none_ e5 e6,?_,s1Z hkp⟩;split
  ·exact hnx
  ·omega
 have ended: ∀ {m:M Int} {r:Rp×Int} {K N:Nat},m1W s P m r K N→(∀ {s':St} {Q:Rp},b0K s≤b0K s'+K→Few N Q→Bud (i+1) s' Q)→e0P id P r.1→r.1.next=P.next→ ∃e t Q G',(m s=(.ok e,t)∧r.2=e∧Q=if e=0 then r.1 else P)∧J t G' Q∧Bud (i+1) t Q∧Q.next≤P.next+1∧e0P id P Q:=by
  rintro m r K N ⟨s',G',e1,e4,e5,e6⟩ hb hkp hnx;refine⟨r.2,s',_,G',⟨e1,rfl,rfl⟩,e4,hb e5 e6,?_,s1Z hkp⟩;split
  ·omega
  ·omega
 have bT: ∀ {s':St} {Q:Rp},b0K s≤b0K s'+(48+4*w*3)→Few (4*w) Q→Bud (i+1) s' Q:=fun h1 h2=>⟨w,tt+1,by omega,h2,by have e:(tt+1)*(48+12*w)=tt*(48+12*w)+(48+12*w):=Nat.succ_mul _ _;omega⟩;have bW: ∀ {s':St} {Q:Rp},b0K s≤b0K s'+96→Few (4*w+4) Q→Bud (i+1) s' Q:=fun h1 h2=>⟨w+1,tt,by omega,by rw[show 4*(w+1)=4*w+4 by omega];exact h2,by have e:=Nat.mul_add tt (48+12*w) 12;rw[show 48+12*(w+1)=48+12*w+12 by omega];omega⟩;have hcase:k=0∨(k=1∨k=2)∨k=3∨k=4∨(4<k∧k<9)∨(k=9∨k=10)∨k=11∨k=12∨k=13:=by omega
 rcases hcase with hk|hk|hk|hk|hk|hk|hk|hk|hk
 ·obtain⟨e,t,Q,G',h1,h2,h3,h4,h5⟩:=made (h.create hF (by omega) (by omega) n) (by unfold e0S;split;(· simp only;omega);(· exact o1T _ _)) (t1A _ _ _);exact⟨e,t,Q,G',⟨fun _=>h1,(fun hh=>absurd hh (by omega)),(fun hh=>absurd hh (by omega)),(fun hh=>absurd hh (by omega)),(fun hh=>absurd hh (by omega)),(fun hh=>absurd hh (by omega)),(fun hh=>absurd hh (by omega)),(fun hh=>absurd hh (by omega)),(fun hh=>absurd hh (by omega))⟩,h2,h3,h4,h5⟩
 ·obtain⟨e,t,Q,G',h1,h2,h3,h4,h5⟩:=made (h.copy hF (by omega) (by omega) id (decide (k=1))) (by unfold i0N;split;(· simp only;omega);(· exact o1T _ _)) (c2V _ _ _ _);exact⟨e,t,Q,G',⟨(fun hh=>absurd hh (by omega)),fun _=>h1,(fun hh=>absurd hh (by omega)),(fun hh=>absurd hh (by omega)),(fun hh=>absurd hh (by omega)),(fun hh=>absurd hh (by omega)),(fun hh=>absurd hh (by omega)),(fun hh=>absurd hh (by omega)),(fun hh=>absurd hh (by omega))⟩,h2,h3,h4,h5⟩
 ·obtain⟨e,t,Q,G',h1,h2,h3,h4,h5⟩:=ended (h.delete hF id) none_ (s1Y _ _) (by unfold g0T;split<;>rfl);exact⟨e,t,Q,G',⟨(fun hh=>absurd hh (by omega)),(fun hh=>absurd hh (by omega)),fun _=>h1,(fun hh=>absurd hh (by omega)),(fun hh=>absurd hh (by omega)),(fun hh=>absurd hh (by omega)),(fun hh=>absurd hh (by omega)),(fun hh=>absurd hh (by omega)),(fun hh=>absurd hh (by omega))⟩,h2,h3,h4,h5⟩
 ·obtain⟨e,t,Q,G',h1,h2,h3,h4,h5⟩:=ended (h.resize hF id n (by omega) (by omega)) bT (s1X _ _ _) (w1Y _ _ _);exact⟨e,t,Q,G',⟨(fun hh=>absurd hh (by omega)),(fun hh=>absurd hh (by omega)),(fun hh=>absurd hh (by omega)),fun _=>h1,(fun hh=>absurd hh (by omega)),(fun hh=>absurd hh (by omega)),(fun hh=>absurd hh (by omega)),(fun hh=>absurd hh (by omega)),(fun hh=>absurd hh (by omega))⟩,h2,h3,h4,h5⟩
 ·obtain⟨e,t,Q,G',h1,h2,h3,h4,h5⟩:=ended (h.write hF id at_ hd (by omega)) bW (w1X _ _ _ _) (c2W _ _ _ _);exact⟨e,t,Q,G',⟨(fun hh=>absurd hh (by omega)),(fun hh=>absurd hh (by omega)),(fun hh=>absurd hh (by omega)),(fun hh=>absurd hh (by omega)),fun _=>h1,(fun hh=>absurd hh (by omega)),(fun hh=>absurd hh (by omega)),(fun hh=>absurd hh (by omega)),(fun hh=>absurd hh (by omega))⟩,h2,h3,h4,h5⟩
 ·obtain⟨e,t,Q,G',h1,h2,h3,h4,h5⟩:=ended (h.trim hF id at_ n (by omega) (by omega)) bT (c2U _ _ _ _) (h2Q _ _ _ _);exact⟨e,t,Q,G',⟨(fun hh=>absurd hh (by omega)),(fun hh=>absurd hh (by omega)),(fun hh=>absurd hh (by omega)),(fun hh=>absurd hh (by omega)),(fun hh=>absurd hh (by omega)),fun _=>h1,(fun hh=>absurd hh (by omega)),(fun hh=>absurd hh (by omega)),(fun hh=>absurd hh (by omega))⟩,h2,h3,h4,h5⟩
 ·obtain⟨t,h1,h2,h3⟩:=h.read id at_ n;exact⟨(m0C P id at_ n).2,t,P,G,⟨(fun hh=>absurd hh (by omega)),(fun hh=>absurd hh (by omega)),(fun hh=>absurd hh (by omega)),(fun hh=>absurd hh (by omega)),(fun hh=>absurd hh (by omega)),(fun hh=>absurd hh (by omega)),fun _=>⟨h1,rfl,rfl⟩,(fun hh=>absurd hh (by omega)),(fun hh=>absurd hh (by omega))⟩,h2,none_ h3 hF,by omega,e0P.refl _ _⟩
 ·exact⟨0,{s with epoch:=n%256},{P with epoch:=n%256},G,⟨(fun hh=>absurd hh (by omega)),(fun hh=>absurd hh (by omega)),(fun hh=>absurd hh (by omega)),(fun hh=>absurd hh (by omega)),(fun hh=>absurd hh (by omega)),(fun hh=>absurd hh (by omega)),(fun hh=>absurd hh (by omega)),fun _=>⟨rfl,rfl,rfl⟩,(fun hh=>absurd hh (by omega))⟩,h.epoch_ _,none_ (Nat.le_refl _) hF,by simp only;omega,e0P.refl _ _⟩
 ·exact⟨0,z0T s,P,G,⟨(fun hh=>absurd hh (by omega)),(fun hh=>absurd hh (by omega)),(fun hh=>absurd hh (by omega)),(fun hh=>absurd hh (by omega)),(fun hh=>absurd hh (by omega)),(fun hh=>absurd hh (by omega)),(fun hh=>absurd hh (by omega)),(fun hh=>absurd hh (by omega)),fun _=>⟨rfl,rfl,rfl⟩⟩,h.settle,none_ (w1W s) hF,by omega,e0P.refl _ _⟩
end
end
section
def rp0 (bits:Nat):Rp:= {l:= [],next:=1,bits:=bits,epoch:=1}
theorem o1U (P:Rp) (v:Vp):(g0Q P v).1.bits=P.bits:=by unfold g0Q;split<;>rfl
theorem w1Z (P:Rp) (n:Int):(e0S P n).1.bits=P.bits:=by
 unfold e0S;split
 ·rfl
 ·exact o1U _ _
theorem h2R (P:Rp) (id:Int) (o:Bool):(i0N P id o).1.bits=P.bits:=by
 unfold i0N;split
 ·rfl
 ·exact o1U _ _
theorem x1A (P:Rp) (id:Int):(g0T P id).1.bits=P.bits:=by unfold g0T;split<;>rfl
theorem c2X (id at_:Int) (data:B) (P:Rp):(j0E P id at_ data).1.bits=P.bits:=by
 cases hf:c0O P.l id with
 |none=>unfold j0E;rw[hf]
 |some i=>
  obtain⟨hi,_⟩:=h0Z hf;rw[u0V hf]
  repeat' split
  all_goals first|rfl| (simp only;obtain⟨m,e⟩:=m0G i data.length P at_.toNat data hi;rw[e];rfl)
theorem h2S (id at_ n:Int) (P:Rp):(l0J P id at_ n).1.bits=P.bits:=by
 cases hf:c0O P.l id with
 |none=>unfold l0J;rw[hf]
 |some i=>
  obtain⟨hi,_⟩:=h0Z hf;rw[x0J hf]
  repeat' split
  all_goals first|rfl| (obtain⟨m,e⟩:=k0C i P at_.toNat (at_+n).toNat hi;rw[e];rfl)
theorem x1B (id n:Int) (P:Rp):(g0U P id n).1.bits=P.bits:=by
 cases hf:c0O P.l id with
 |none=>unfold g0U;rw[hf]
 |some i=>
  obtain⟨hi,_⟩:=h0Z hf;rw[s0Z hf];have:(j0H P i n).1.bits=P.bits:=by
   unfold j0H;split
   ·obtain⟨m,e⟩:=k0C i P n.toNat (P.l.getD i v0).size.toNat hi;rw[e];rfl
   ·rfl
  repeat' split
  all_goals first|rfl|exact this
theorem w0L {P Q R:Rp} {p:Prop} [Decidable p] (h:Q=if p then R else P) (hb:R.bits=P.bits):Q.bits=P.bits:=by
 rw[h];split
 ·exact hb
 ·rfl
theorem b1J.bits_ {k:Nat} {id at_ n e:Int} {data:B} {s t:St} {P Q:Rp} (h:b1J k id at_ n data s P e t Q) (hk:k<14):Q.bits=P.bits:=by
 have hcase:k=0∨(k=1∨k=2)∨k=3∨k=4∨(4<k∧k<9)∨(k=9∨k=10)∨k=11∨k=12∨k=13:=by omega
 rcases hcase with hk|hk|hk|hk|hk|hk|hk|hk|hk
 ·obtain⟨_,_,_,_,_,h5⟩:=h.k0 hk;exact w0L h5 (w1Z _ _)
 ·obtain⟨_,_,_,_,_,h5⟩:=h.k1 hk;exact w0L h5 (h2R _ _ _)
 ·exact w0L (h.k3 hk).2.2 (x1A _ _)
 ·exact w0L (h.k4 hk).2.2 (x1B _ _ _)
 ·exact w0L (h.k5 hk).2.2 (c2X _ _ _ _)
 ·exact w0L (h.k9 hk).2.2 (h2S _ _ _ _)
 ·rw[(h.k11 hk).2.2]
 ·rw[(h.k12 hk).2.2]
 ·rw[(h.k13 hk).2.2]
section
variable {s:St} {G:Gh} {P:Rp}
theorem J.digest (h:J s G P) {v:Vp} (hv:v∈P.l): ∃d:B,d.length=32∧v0O v.id s=(.ok (d,0),s)∧(∃x,a0E v.id s.vols=some x∧x.size=v.size∧x.only=v.only)∧
 ∀ {t:St} {G':Gh} {Q:Rp},J t G' Q→v∈Q.l→v0O v.id t=(.ok (d,0),t):=by
 obtain⟨x,hx,hr⟩:=h.vol v hv;have hk:=h.ci.kid _ (h.ci.mem hx);refine⟨d0N G x.root,?_,h.sum hx,⟨x,hx,hr.size,hr.only⟩,fun {t G' Q} h' hv'=> ?_⟩
 ·unfold d0N;rcases hk with h0| ⟨ks,sm,ho⟩
  ·have h0:x.root=0:=h0;rw[h0,h.ci.inv.zero];simp[a0K]
  ·have ho:a0E x.root G=some (.node 2 ks sm):=ho;rw[ho];simp only;rw[(h.ci.inv.typ _ _ ho).2.2.2.2];exact s0W _ _
 ·obtain⟨y,hy,hr'⟩:=h'.vol v hv';rw[h'.sum hy];have he:a0W G x.root=a0W G' y.root:=by
   funext j;rw[hr.map.eq,hr'.map.eq]
  rw[h.ci.inv.sumMap h'.ci.inv hk (h'.ci.kid _ (h'.ci.mem hy)) he]
theorem J.sized (h:J s G P): ∀v∈P.l,0≤v.size∧v.size≤2048:=fun v hv=>by
 obtain⟨x,hx,hr⟩:=h.vol v hv;have:=h.size hx;have:=hr.size;omega
end
end
end Go.Sb
