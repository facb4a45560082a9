/- Part of the proof; no statement of its own. -/
import Derived.Test.YtpinhnikemamjaaGreatDoorD12
import Derived.Test.YtpinhnikemamjaaGreatDoorD10
import Derived.Test.YtpinhnikemamjaaGreatDoorD08
set_option linter.all false
set_option maxRecDepth 4000
set_option maxHeartbeats 4000000
namespace Go.Sb.Sha
theorem j2M {h:List W} (e:h.length=8) {c d:Nat} (f:c<4) (hd:d<4):(t1W h).getD (4*c+d) 0=(at_ (k0R (k0R (k0R h (ww c)) (ww d)) w4) 0).toNat:=by
 have b: ∀x,c1B h x (fun h=>four fun y=>c1B h y e2M)= [(at_ (k0R (k0R (k0R h x) w0) w4) 0).toNat,(at_ (k0R (k0R (k0R h x) w1) w4) 0).toNat,(at_ (k0R (k0R (k0R h x) w2) w4) 0).toNat,(at_ (k0R (k0R (k0R h x) w3) w4) 0).toNat]:=fun x=>by
  have a:=h0A (l:=x) e;rw[o0X e];unfold four e2M;dsimp only;rw[o0X a,o0X a,o0X a,o0X a,o0X (h0A a),o0X (h0A a),o0X (h0A a),o0X (h0A a)];rfl
 unfold t1W;have g: ∀k:List W→List Nat,four k=k w0++(k w1++(k w2++k w3)):=fun _=>rfl;rw[g];rw[b,b,b,b]
 match c,d,f,hd with
 |0,0,_,_=>rfl
 |0,1,_,_=>rfl
 |0,2,_,_=>rfl
 |0,3,_,_=>rfl
 |1,0,_,_=>rfl
 |1,1,_,_=>rfl
 |1,2,_,_=>rfl
 |1,3,_,_=>rfl
 |2,0,_,_=>rfl
 |2,1,_,_=>rfl
 |2,2,_,_=>rfl
 |2,3,_,_=>rfl
 |3,0,_,_=>rfl
 |3,1,_,_=>rfl
 |3,2,_,_=>rfl
 |3,3,_,_=>rfl
theorem o2U {a b:Nat} (c:a<4) (hb:b<4):n0J a b=tab a b:=by
 match a,b,c,hb with
 |0,0,_,_=>exact c00
 |0,1,_,_=>exact c01
 |0,2,_,_=>exact c02
 |0,3,_,_=>exact c03
 |1,0,_,_=>exact c10
 |1,1,_,_=>exact c11
 |1,2,_,_=>exact c12
 |1,3,_,_=>exact c13
 |2,0,_,_=>exact c20
 |2,1,_,_=>exact c21
 |2,2,_,_=>exact c22
 |2,3,_,_=>exact c23
 |3,0,_,_=>exact c30
 |3,1,_,_=>exact c31
 |3,2,_,_=>exact c32
 |3,3,_,_=>exact c33
def t1X (a b c d:Nat):List W:=k0R (k0R (k0R (k0R (k0R start (ww a)) (ww b)) (ww c)) (ww d)) w4
theorem t1Y {a b c d:Nat} (e:a<4) (hb:b<4) (f:c<4) (hd:d<4):(at_ (t1X a b c d) 0).toNat=z0D (64*a+16*b+4*c+d):=by
 unfold z0D;rw[show(64*a+16*b+4*c+d)/64=a by omega,show(64*a+16*b+4*c+d)/16%4=b by omega,show(64*a+16*b+4*c+d)%16=4*c+d by omega,←o2U e hb];unfold n0J;rw[o0X rfl,o0X (h0A rfl),j2M (h0A (h0A rfl)) f hd];rfl
def w0E (a b c d:Nat):List UInt8:=sec a++(sec b++(sec c++sec d))
theorem u0L (k:Nat):(sec k).length=64:=by unfold sec;rw[List.length_replicate]
theorem o2V (a b c d:Nat):(w0E a b c d).length=256:=by unfold w0E;simp only[List.length_append,u0L]
theorem x2U {k:Nat} (h:k<4):wk (sec k)=ww k:=by
 match k,h with
 |0,_=>exact wk0
 |1,_=>exact wk1
 |2,_=>exact wk2
 |3,_=>exact wk3
theorem t1Z {a b c d:Nat} (g:a<4) (hb:b<4) (i:c<4) (hd:d<4):sum (w0E a b c d)=(t1X a b c d).flatMap be4:=by
 have e:m0J (w0E a b c d)=sec a++(sec b++(sec c++(sec d++p0I))):=by
  unfold m0J;rw[o2V];unfold w0E;simp only[List.append_assoc];rfl
 have l:(m0J (w0E a b c d)).length/64=5:=by
  rw[e];simp only[List.length_append,u0L];rfl
 unfold sum;rw[l,e];unfold t1X;have step: ∀(n:Nat) (h:List W) (k:Nat) (r:List UInt8),k<4→f0J (n+1) h (sec k++r)=f0J n (k0R h (ww k)) r:=fun n h k r j=>by
  show f0J n (mix h ((sec k++r).take 64)) ((sec k++r).drop 64)=_;rw[List.take_left' (u0L k),List.drop_left' (u0L k),j2L,x2U j]
 rw[step 4 _ a _ g,step 3 _ b _ hb,step 2 _ c _ i,step 1 _ d _ hd];have f: ∀h,f0J 1 h p0I=k0R h w4:=fun h=>by
  show mix h (p0I.take 64)=_;rw[List.take_of_length_le (by exact Nat.le_refl 64),j2L,wk4]
 rw[f]
theorem u2E {x y:W} (h:be4 x=be4 y):x=y:=by
 unfold be4 at h;simp only[List.cons.injEq,and_true]at h;obtain⟨a,b,c,d⟩:=h;have a:=congrArg UInt8.toBitVec a;have b:=congrArg UInt8.toBitVec b;have c:=congrArg UInt8.toBitVec c;have d:=congrArg UInt8.toBitVec d;have e:=congrArg BitVec.toNat a;have f:=congrArg BitVec.toNat b;have g:=congrArg BitVec.toNat c;have i:=congrArg BitVec.toNat d;simp only[BitVec.toNat_setWidth,BitVec.toNat_ushiftRight,Nat.shiftRight_eq_div_pow]at e f g i;apply BitVec.eq_of_toNat_eq;have:=x.isLt;have:=y.isLt;omega
theorem y1M {a b c d e f c' g:Nat} (p:a<4) (hb:b<4) (q:c<4) (hd:d<4) (i:e<4) (j:f<4) (k:c'<4) (l:g<4) (h:sum (w0E a b c d)=sum (w0E e f c' g)):w0E a b c d=w0E e f c' g:=by
 rw[t1Z p hb q hd,t1Z i j k l]at h;have x:(t1X a b c d).length=8:=h0A (h0A (h0A (h0A (h0A rfl))));have y:(t1X e f c' g).length=8:=h0A (h0A (h0A (h0A (h0A rfl))));have m:=t1Y p hb q hd;have n:=t1Y i j k l;obtain⟨t,H,I,J,K,L,M,N,r⟩:=s1E _ x;obtain⟨u,z,A,B,C,D,E,F,s⟩:=s1E _ y;rw[r,s]at h;rw[r]at m;rw[s]at n;rw[List.flatMap_cons,List.flatMap_cons (xs:= [z,A,B,C,D,E,F])]at h;have o:=congrArg (List.take 4) h;rw[List.take_left' (show(be4 t).length=4 from rfl),List.take_left' (show(be4 u).length=4 from rfl)]at o;have v:=u2E o;have w:z0D (64*a+16*b+4*c+d)=z0D (64*e+16*f+4*c'+g):=by
  rw[←m,←n];show t.toNat=u.toNat;rw[v]
 have G:=u2D (by omega) (by omega) w;rw[show a=e by omega,show b=f by omega,show c=c' by omega,show d=g by omega]
end Go.Sb.Sha
namespace Go.Sb
def mb (m:Nat→B) (q:Nat):UInt8:=(m (q/256)).getD (q%256) 0
theorem u1A {l:B} (h:l.length=32):c0O 256 l=l:=by
 unfold c0O;apply List.ext_getElem (by simp);intro i a b;rw[List.getElem_mapIdx,if_neg (by omega)]
theorem b2O (d:B):key 256 (Sha.sum d)=Sha.sum d:=u1A (p0Z d)
def n0D (n:Nat) (d:B):Prop:= ∃ks:List Nat,ks.length=n∧(∀k∈ks,k<4)∧d=ks.flatMap Sha.sec
theorem e1N (a:List Nat):(a.flatMap Sha.sec).length=64*a.length:=by
 induction a with
 |nil=>rfl
 |cons k a ih=>rw[List.flatMap_cons,List.length_append,ih,Sha.u0L,List.length_cons];omega
theorem n0D.len {n:Nat} {d:B} (h:n0D n d):d.length=64*n:=by obtain⟨b,a,_,rfl⟩:=h;rw[e1N,a]
theorem n0D.app {n m:Nat} {a b:B} (h:n0D n a) (j:n0D m b):n0D (n+m) (a++b):=by
 obtain⟨i,c,d,rfl⟩:=h;obtain⟨l,f,g,rfl⟩:=j;exact⟨i++l,by simp[c,f],fun k e=>(List.mem_append.1 e).elim (d k) (g k),by rw[List.flatMap_append]⟩
theorem j2N (a:List Nat) (n:Nat) (b:n≤a.length):(a.flatMap Sha.sec).take (64*n)=(a.take n).flatMap Sha.sec:=by
 conv=>lhs;rw[←List.take_append_drop n a,List.flatMap_append]
 rw[List.take_left' (by rw[e1N,List.length_take];omega)]
theorem j2O (a:List Nat) (n:Nat) (b:n≤a.length):(a.flatMap Sha.sec).drop (64*n)=(a.drop n).flatMap Sha.sec:=by
 conv=>lhs;rw[←List.take_append_drop n a,List.flatMap_append]
 rw[List.drop_left' (by rw[e1N,List.length_take];omega)]
theorem n0D.take {n m:Nat} {d:B} (h:n0D n d) (f:m≤n):n0D m (d.take (64*m)):=by
 obtain⟨c,e,a,rfl⟩:=h;exact⟨c.take m,by rw[List.length_take];omega,fun k b=>a k (List.mem_of_mem_take b),j2N _ _ (by omega)⟩
theorem n0D.drop {n m:Nat} {d:B} (h:n0D n d) (f:m≤n):n0D (n-m) (d.drop (64*m)):=by
 obtain⟨c,e,a,rfl⟩:=h;exact⟨c.drop m,by rw[List.length_drop];omega,fun k b=>a k (List.mem_of_mem_drop b),j2O _ _ (by omega)⟩
theorem n0D.zero:n0D 4 (a0L 256):=⟨[0,0,0,0],rfl,by decide,by decide+kernel⟩
theorem n0D.four {d:B} (h:n0D 4 d): ∃a b c e:Nat,(a<4∧b<4∧c<4∧e<4)∧d=Sha.w0E a b c e:=by
 obtain⟨i,g,f,rfl⟩:=h
 match i,g with
 | [a,b,c,e],_=>exact⟨a,b,c,e,⟨f a (by simp),f b (by simp),f c (by simp),f e (by simp)⟩,by unfold Sha.w0E;simp⟩
theorem n0D.same {d e:B} (h:n0D 4 d) (j:n0D 4 e) (g:key 256 (Sha.sum d)=key 256 (Sha.sum e)):d=e:=by
 rw[b2O,b2O]at g;obtain⟨a,b,c,f,⟨i,k,l,m⟩,rfl⟩:=h.four;obtain⟨r,s,c',t,⟨n,o,p,q⟩,rfl⟩:=j.four;exact Sha.y1M i k l m n o p q g
theorem n0D.mix {a data:B} {f n m:Nat} (h:n0D 4 a) (j:n0D m data) (c:f<4) (e:n=min data.length (256-f*64)):n0D 4 (t0O a data (f*64) n):=by
 have d:=j.len;have b:=(h.take (m:=f) (by omega)).app ((j.take (m:=min m (4-f)) (by omega)).app (h.drop (m:=f+min m (4-f)) (by omega)));rw[show f+(min m (4-f)+(4- (f+min m (4-f))))=4 by omega]at b;unfold t0O;rw[List.append_assoc,show f*64=64*f by omega,show n=64*min m (4-f) by omega,show 64*f+64*min m (4-f)=64*(f+min m (4-f)) by omega];exact b
section
section
variable {s t:St} {G:Gh}
theorem j2P {G:Gh} (a:a0C 0 G=none):a0Z G 0=fun _=>a0L 256:=by
 funext j;unfold a0Z;split
 ·rw[u0K a];unfold d0F;rw[a]
 ·rfl
theorem CI.z (h:CI s G):a0C 0 G=none:=by
 cases a:a0C 0 G with
 |none=>rfl
 |some o=>exact absurd rfl (h.inv.ne0 a)
theorem u1B (n bits:Nat):a0Y (f0X (k0Q (n+2)) 2 bits 1)=n:=by
 have:(f0X (k0Q (n+2)) 2 bits 1).g=List.replicate n 0:=by simp[f0X,k0Q]
 unfold a0Y;rw[this,List.count_replicate];simp
theorem u2F (bits:Nat) (k at_:Nat) (data:B) (hd:data.length=64): ¬j0N bits [] (k+1) (fun _=>a0L 256) at_ data:=fun h=>by
 obtain⟨e,d⟩:=h;rcases d with ⟨_,o,a,j,_,c,_,_⟩|b
 ·rcases List.mem_cons.1 a with rfl|a
  ·rw[d0N]at c;cases c
  ·cases a
 ·have:data.drop (min data.length (256-at_%4*64))= []:=by apply List.drop_eq_nil_of_le;omega
  rw[this]at b;cases k with
  |zero=>exact b
  |succ k=>exact b.1 rfl
theorem u1C {id:Int} {x:Ent} (a:a0C id s.vols=some x):find id (start s 0)=(.ok x,start s 0):=by
 unfold find;rw[show a0C id (Go.Sb.start s 0).vols=some x from a]
theorem CI.startRel (h:CI s G):Rel 0 0 (Go.Sb.start s 0) (Go.Sb.start s 0):=Rel.refl (h.start 0).1.u
theorem CI.writeOnly (h:CI s G) {id at_:Int} {x:Ent} {data:B} (b:a0C id s.vols=some x) (a:x.only=true):
 ∃s',h0K id at_ data s=(.ok 7,s')∧CI s' G∧s'.vols.Perm s.vols∧meq s'.vols s.vols∧s'.bits=s.bits∧s'.next=s.next∧s'.epoch=s.epoch∧a0Y s≤a0Y s':=by
 refine h.writeErr (t:=Go.Sb.start s 0) (c:=0) (k:=0) ?_ (by decide) h.startRel;unfold i0X l0Z;exact a0F (by rw[a0A (u1C b),if_pos a];rfl)
theorem CI.writeRange (h:CI s G) {id at_:Int} {x:Ent} {data:B} (e:a0C id s.vols=some x) (g:x.only=false) (f:data.length%64=0)
 (d:at_<0∨(x.size:Int)<at_∨(x.size:Int)-at_<(data.length/64:Nat)):
 ∃s',h0K id at_ data s=(.ok 6,s')∧CI s' G∧s'.vols.Perm s.vols∧meq s'.vols s.vols∧s'.bits=s.bits∧s'.next=s.next∧s'.epoch=s.epoch∧a0Y s≤a0Y s':=by
 have a:(id,x)∈s.vols:=(e0D h.inv.u.m.vols).1 e;have b:x.id=id∧1≤x.size∧x.size≤2048:=h.ids _ a;refine h.writeErr (t:=Go.Sb.start s 0) (c:=0) (k:=0) ?_ (by decide) h.startRel;unfold i0X l0Z;rw[a0A (show a0B (find id) (fun x=>if x.only=true then n0L 7 else ret x) (Go.Sb.start s 0)=(.ok x,Go.Sb.start s 0) by rw[a0A (u1C e),if_neg (by simp[g])];rfl),if_neg (by omega)];refine a0F ?_;unfold h0J;rw[if_neg (by omega)];unfold l0U;rw[if_pos (by omega)];rfl
end
def o1H (s:St):Prop:=s.bits≤256∧s.vols.length≤1000
theorem CI.fits {s:St} {G:Gh} (h:CI s G) (hb:s.bits=256):o1H s:=⟨by omega,by have:=h.few;omega⟩
def xsD:B:=List.replicate 64 120
theorem y1N: ∃s1 c e f s:St,(o1H (f0X (k0Q 100) 2 256 1)∧o1H s1∧o1H c∧o1H e∧o1H f)∧f0T 5 (f0X (k0Q 100) 2 256 1)=(.ok (1,0),s1)∧h0K 1 4 xsD s1=(.ok 0,c)∧
 h0S 1 true c=(.ok (2,0),e)∧h0K 2 0 [] e=(.ok 7,f)∧h0K 1 5 xsD f=(.ok 6,s):=by
 have x:CI (f0X (k0Q 100) 2 256 1) []:=CI.new (n:=98) (bits:=256) (by omega);have w:=u1B 98 256;have i:xsD.length=64:=rfl;obtain⟨s1,F,y,P,L,p1,C,O⟩:=x.create (size:=5) (by omega) (by show 0<16;omega) rfl (by rw[w];show 2*(0+1)≤98;omega);have d:s1.vols= [((1:Int),{g0L with size:=5,id:=1,born:=1})]:=P;have q:s1.next=2:=L;have b:s1.bits=256:=C;have j:a0C 1 s1.vols=some {g0L with size:=5,id:=1,born:=1} :=by rw[d];rfl
 have J:a0Z ([]:Gh) 0=fun _=>a0L 256:=j2P rfl;have K:o0A s1 [] 1= []:=by unfold o0A;rw[d];rfl
 rw[w]at O;obtain⟨c,R,r,G,z,Q,S,_,M,_,u,U⟩:=y.write (m:=1) (at_:=4) (data:=xsD) j rfl i (by show((4:Nat):Int)+((1:Nat):Int)≤5;omega) (by rw[d];show 2*1+1*8≤_;omega) (by omega)
  (by rw[K,b];show ¬j0N 256 [] xsD.length (a0Z [] 0) 4 xsD;rw[J];exact u2F 256 63 4 xsD rfl)
 have a:c.vols= [((1:Int),{g0L with size:=5,id:=1,born:=1,root:=r})]:=by rw[Q,d];rfl
 have k:a0C 1 c.vols=some {g0L with size:=5,id:=1,born:=1,root:=r} :=by rw[a];rfl
 have h:c.next=2:=M.trans q;obtain⟨e,v,A,t,T,p3,D,V⟩:=z.copy (id:=1) (only:=true) k (by rw[a];show 1<16;omega) (by rw[h,a];rfl) (by rw[a];show 2*(1+1)≤_;omega);rw[h]at v t;have g:e.bits=256:=D.trans (u.trans b);have l:a0C 1 e.vols=some {g0L with size:=5,id:=1,born:=1,root:=r} :=by rw[t,a];rfl
 have p:a0C 2 e.vols=some {g0L with parent:=1,only:=true,size:=5,root:=r,id:=2,born:=c.epoch} :=by rw[t,a];rfl
 obtain⟨f,H,B,_,N,E,_⟩:=A.writeOnly (at_:=0) (data:= []) p rfl;have o:a0C 1 f.vols=some {g0L with size:=5,id:=1,born:=1,root:=r} :=by rw[N];exact l
 obtain⟨s,I,_⟩:=B.writeRange (at_:=5) (data:=xsD) o rfl rfl (by right;right;show(5:Int)-5<_;rw[i];decide);exact⟨s1,c,e,f,s,⟨x.fits rfl,y.fits b,z.fits (u.trans b),A.fits g,B.fits (E.trans g)⟩,F,G,v,H,I⟩
end
abbrev Lf:=Int×B
def f0Y (at_:Int):List Lf→B
 | []=>a0L 256
 | (a,d)::r=>if a=at_ then d else f0Y at_ r
def p0L (at_:Int) (d:B):Bool→List Lf→List Lf
 |done,[]=>if done then []else [(at_,d)]
 |done,(a,x)::r=>(if done=false∧at_<a then [(at_,d)]else [])++(if a=at_ then []else [(a,x)])++p0L at_ d (done || decide (at_<a)) r
def k0L (m:List Lf) (at_:Int) (d:B):List Lf:=p0L at_ d (a0R d) m
def h0G (m:List Lf) (f t:Int):List Lf:=m.filter fun x=>decide (x.1<f∨t≤x.1)
structure Vp where
 id:Int
 parent:Int
 only:Bool
 size:Int
 born:Int
 m:List Lf
structure Rp where
 l:List Vp
 next:Int
 bits:Nat
 epoch:Int
def c0Q (l:List Vp) (id:Int):Option Nat:=l.findIdx? fun v=>v.id == id
def e1O (l:List Vp) (id:Int):Int:=match c0Q l id with|some i=>i|none=> -1
def v0:Vp:= {id:=0,parent:=0,only:=false,size:=0,born:=0,m:= []}
def g0M (c:Rp) (v:Vp):Rp×Int×Int:=if 15<c.l.length then(c,0,13)else
 ({c with l:=c.l++ [{v with id:=c.next,born:=c.epoch}],next:=c.next+1},c.next,0)
def e0R (c:Rp) (size:Int):Rp×Int×Int:=if size<1∨2048<size then(c,0,4)else g0M c {v0 with size:=size}
def i0P (c:Rp) (id:Int) (only:Bool):Rp×Int×Int:=match c0Q c.l id with
 |none=>(c,0,5)
 |some i=>g0M c {v0 with parent:=id,only:=only,size:=(c.l.getD i v0).size,m:=(c.l.getD i v0).m}
def g0R (c:Rp) (id:Int):Rp×Int:=match c0Q c.l id with
 |none=>(c,5)
 |some i=>({c with l:=c.l.eraseIdx i},0)
def m0Q (v:Vp) (at_ n:Int):Bool:=decide (at_<0∨n<0∨v.size<at_∨v.size-at_<n)
def k0X (m:List Lf) (at_:Nat):Nat→B
 |0=> []
 |n+1=>k0X m at_ n++((f0Y ((at_+n)/4:Nat) m).drop ((at_+n)%4*64)).take 64
def m0A (c:Rp) (id at_ n:Int):B×Int:=match c0Q c.l id with
 |none=>([],5)
 |some i=>if m0Q (c.l.getD i v0) at_ n then([],6)else(k0X (c.l.getD i v0).m at_.toNat n.toNat,0)
def p0T (c:Rp) (data:B):Bool:=c.l.any fun v=>v.m.any fun x=>decide (x.2≠data∧key c.bits (Sha.sum x.2)=key c.bits (Sha.sum data))
def d0K (c:Rp) (i:Nat) (m:List Lf):Rp:= {c with l:=c.l.set i {c.l.getD i v0 with m:=m}}
def c1C (a data:B) (f n:Nat):B:=a.take f++data.take n++a.drop (f+n)
def d0I (i:Nat):Nat→Rp→Nat→B→Rp×Int
 |0,c,_,_=>(c,0)
 |k+1,c,at_,data=>if data= []then(c,0)else
  let b:=f0Y (at_/4:Nat) (c.l.getD i v0).m;let f:=at_%4*64;let n:=min data.length (256-f)
  let a:=c1C b data f n
  if a≠b∧a0R a=false∧p0T c a=true then(c,9)else
  d0I i k (d0K c i (k0L (c.l.getD i v0).m (at_/4:Nat) a)) (at_+n/64) (data.drop n)
def i0Y (c:Rp) (id at_:Int) (data:B):Rp×Int:=match c0Q c.l id with
 |none=>(c,5)
 |some i=>if(c.l.getD i v0).only then(c,7)else if data.length%64≠0 then(c,4)else if m0Q (c.l.getD i v0) at_ (data.length/64:Nat)then(c,6)else
  let r:=d0I i data.length c at_.toNat data
  if r.2≠0 then(c,r.2)else(r.1,0)
def e0A (c:Rp) (i from_ d:Nat):Rp×Int:=
 let a:=(from_+3)/4;let b:=d/4
 if b≤a then d0I i ((d-from_)*64) c from_ (a0L ((d-from_)*64))else
 let r:=d0I i ((4*a-from_)*64) c from_ (a0L ((4*a-from_)*64))
 if r.2≠0 then(c,r.2)else
 let x:=d0K r.1 i (h0G (r.1.l.getD i v0).m a b)
 let y:=d0I i ((d-4*b)*64) x (4*b) (a0L ((d-4*b)*64))
 if y.2≠0 then(c,y.2)else(y.1,0)
def l0S (c:Rp) (id at_ n:Int):Rp×Int:=match c0Q c.l id with
 |none=>(c,5)
 |some i=>if(c.l.getD i v0).only then(c,7)else if m0Q (c.l.getD i v0) at_ n then(c,6)else e0A c i at_.toNat (at_+n).toNat
def g0S (c:Rp) (id size:Int):Rp×Int:=match c0Q c.l id with
 |none=>(c,5)
 |some i=>if(c.l.getD i v0).only then(c,7)else if size<1∨2048<size then(c,4)else
  let r:=if size<(c.l.getD i v0).size then e0A c i size.toNat (c.l.getD i v0).size.toNat else(c,0)
  if r.2≠0 then(c,r.2)else({r.1 with l:=r.1.l.set i {r.1.l.getD i v0 with size:=size}},0)
structure m0R (m:List Lf):Prop where
 ord:m.Pairwise fun a b=>a.1<b.1
 in_: ∀x∈m,0≤x.1∧x.1<512∧x.2.length=256
theorem j1K (j:Int):f0Y j []=a0L 256:=rfl
theorem j0O (j a:Int) (d:B) (r:List Lf):f0Y j ((a,d)::r)=if a=j then d else f0Y j r:=rfl
theorem b2P: ∀ {m:List Lf} {lo:Int},(m.Pairwise fun a b=>a.1<b.1)→(∀x∈m,lo≤x.1∧x.1<512)→lo≤512→(m.length:Int)≤512-lo
 | [],lo,_,_,h=>by simp;omega
 |x::m,lo,hp,hi,h=>by
  obtain⟨d,e⟩:=List.pairwise_cons.1 hp;have f:=hi x List.mem_cons_self;have:=b2P (m:=m) (lo:=x.1+1) e (fun y c=>⟨by have:=d y c;omega,(hi y (List.mem_cons_of_mem _ c)).2⟩) (by omega);simp only[List.length_cons];omega
theorem m0R.len {m:List Lf} (h:m0R m):m.length≤512:=by
 have:=b2P (lo:=0) h.ord (fun x a=>⟨(h.in_ x a).1,(h.in_ x a).2.1⟩) (by omega);omega
theorem p1Y:m0R []:=⟨List.Pairwise.nil,fun x h=>by cases h⟩
theorem m0R.get_len {m:List Lf} (h:m0R m) (at_:Int):(f0Y at_ m).length=256:=by
 have: ∀l:List Lf,(∀x∈l,x.2.length=256)→(f0Y at_ l).length=256:=fun l=>by
  induction l with
  |nil=>intro _;exact List.length_replicate ..
  |cons x l ih=>
   intro b;obtain⟨a,d⟩:=x;unfold f0Y;split
   ·exact b (a,d) List.mem_cons_self
   ·exact ih fun y e=>b y (List.mem_cons_of_mem _ e)
 exact this m fun x c=>(h.in_ x c).2.2
theorem l1L (at_:Int) (d:B) (done:Bool) (x:Lf) (r:List Lf):p0L at_ d done (x::r)=(if done=false∧at_<x.1 then [(at_,d)]else [])++(if x.1=at_ then []else [x])++p0L at_ d (done || decide (at_<x.1)) r:=by cases x;rfl
theorem c1D (at_:Int) (d:B): ∀(m:List Lf) (done:Bool) (x:Lf),x∈p0L at_ d done m→(x∈m∧x.1≠at_)∨(done=false∧x=(at_,d))
 | [],done,x,h=>by
  unfold p0L at h;split at h
  ·cases h
  ·rename_i hd;exact .inr ⟨by simpa using hd,List.mem_singleton.1 h⟩
 |y::r,done,x,h=>by
  rw[l1L]at h;rcases List.mem_append.1 h with h|h
  ·rcases List.mem_append.1 h with h|h
   ·split at h
    ·rename_i hd;exact .inr ⟨hd.1,List.mem_singleton.1 h⟩
    ·cases h
   ·split at h
    ·cases h
    ·rename_i b;rw[List.mem_singleton.1 h];exact .inl ⟨List.mem_cons_self,b⟩
  ·rcases c1D at_ d r _ x h with ⟨c,a⟩| ⟨c,a⟩
   ·exact .inl ⟨List.mem_cons_of_mem _ c,a⟩
   ·exact .inr ⟨by cases done<;>simp_all,a⟩
theorem u1D (at_:Int) (d:B): ∀(m:List Lf) (done:Bool),(m.Pairwise fun a b=>a.1<b.1)→(p0L at_ d done m).Pairwise fun a b=>a.1<b.1
 | [],done,_=>by unfold p0L;split<;>simp
 |x::r,done,hp=>by
  obtain⟨j,n⟩:=List.pairwise_cons.1 hp;have i:=u1D at_ d r (done || decide (at_<x.1)) n;have l:=c1D at_ d r (done || decide (at_<x.1));rw[l1L];by_cases c:at_<x.1
  ·have e: ∀y∈p0L at_ d (done || decide (at_<x.1)) r,x.1<y.1:=fun y f=>by
    rcases l y f with ⟨g,_⟩| ⟨g,_⟩
    ·exact j y g
    ·rw[decide_eq_true c,Bool.or_true]at g;cases g
   rw[if_neg (show ¬x.1=at_ by omega)];split
   ·simp only[List.singleton_append,List.cons_append,List.nil_append];refine List.pairwise_cons.2 ⟨fun y f=> ?_,List.pairwise_cons.2 ⟨e,i⟩⟩;rcases List.mem_cons.1 f with rfl|f
    ·exact c
    ·exact Int.lt_trans c (e y f)
   ·exact List.pairwise_cons.2 ⟨e,i⟩
  ·rw[if_neg (fun h=>c h.2)];by_cases k:x.1=at_
   ·rw[if_pos k];exact i
   ·rw[if_neg k];refine List.pairwise_cons.2 ⟨fun y f=> ?_,i⟩;rcases l y f with ⟨g,_⟩| ⟨_,rfl⟩
    ·exact j y g
    ·show x.1<at_;omega
theorem m0R.put {m:List Lf} (h:m0R m) {at_:Int} {d:B} (a:0≤at_∧at_<512) (hd:d.length=256):m0R (k0L m at_ d):=
 ⟨u1D at_ d m _ h.ord,fun x c=>by
  rcases c1D at_ d m _ x c with ⟨b,_⟩| ⟨_,rfl⟩
  ·exact h.in_ x b
  ·exact⟨a.1,a.2,hd⟩⟩
theorem m0R.clear {m:List Lf} (h:m0R m) (f u:Int):m0R (h0G m f u):=⟨h.ord.filter _,fun x a=>h.in_ x (List.mem_filter.1 a).1⟩
theorem p1Z (at_:Int) (d:B): ∀(m:List Lf) (done:Bool) (j:Int),f0Y j (p0L at_ d done m)=if j=at_ then(if done then a0L 256 else d)else f0Y j m
 | [],done,j=>by
  unfold p0L;cases done with
  |true=>rw[if_pos rfl,j1K];split<;>rfl
  |false=>
   rw[if_neg (by simp),j0O,j1K];by_cases e:j=at_
   ·rw[if_pos e.symm,if_pos e];rfl
   ·rw[if_neg (Ne.symm e),if_neg e]
 |x::r,done,j=>by
  obtain⟨a,y⟩:=x;rw[l1L];have f:=p1Z at_ d r (done || decide (at_<a)) j;by_cases b:done=false∧at_<a
  ·rw[if_pos b,if_neg (show ¬a=at_ by omega)];obtain⟨hd,i⟩:=b;subst hd;simp only[List.singleton_append,List.cons_append,List.nil_append];by_cases e:j=at_
   ·rw[j0O,if_pos e.symm,if_pos e];rfl
   ·rw[if_neg e]at f;rw[j0O,if_neg (Ne.symm e),if_neg e,j0O,j0O,f]
  ·rw[if_neg b];have g:(done || decide (at_<a))=done:=by
    cases done with
    |true=>rfl
    |false=>simp only[true_and]at b;simp[b]
   rw[g]at f ⊢;by_cases h:a=at_
   ·rw[if_pos h];simp only[List.nil_append];rw[f,j0O];by_cases c:j=at_
    ·rw[if_pos c,if_pos c]
    ·rw[if_neg c,if_neg c,if_neg (by omega)]
   ·rw[if_neg h];simp only[List.nil_append,List.singleton_append];rw[j0O,j0O,f];by_cases c:a=j
    ·rw[if_pos c,if_pos c,if_neg (by omega)]
    ·rw[if_neg c,if_neg c]
theorem h1T (f u:Int): ∀(m:List Lf) (j:Int),f0Y j (h0G m f u)=if f≤j∧j<u then a0L 256 else f0Y j m
 | [],j=>by show f0Y j []=_;rw[j1K];split<;>rfl
 |x::r,j=>by
  obtain⟨a,y⟩:=x;have e:=h1T f u r j;by_cases d:a<f∨u≤a
  ·rw[show h0G ((a,y)::r) f u=(a,y)::h0G r f u from List.filter_cons_of_pos (by simpa using d),j0O,j0O,e];by_cases c:a=j
   ·rw[if_pos c,if_pos c,if_neg (by omega)]
   ·rw[if_neg c,if_neg c]
  ·rw[show h0G ((a,y)::r) f u=h0G r f u from List.filter_cons_of_neg (by simpa using d),e,j0O];by_cases b:f≤j∧j<u
   ·rw[if_pos b,if_pos b]
   ·rw[if_neg b,if_neg b,if_neg (by omega)]
structure l0K (m:List Lf) (f:Nat→B):Prop where
 ok:m0R m
 nz: ∀x∈m,a0R x.2=false
 eq: ∀j:Nat,f j=f0Y (j:Int) m
theorem p0M (j:Int): ∀m:List Lf,f0Y j m=a0L 256∨(j,f0Y j m)∈m
 | []=> .inl rfl
 | (a,d)::r=>by
  rw[j0O];by_cases e:a=j
  ·rw[if_pos e];subst e;exact .inr List.mem_cons_self
  ·rw[if_neg e];exact(p0M j r).imp id (List.mem_cons_of_mem _)
theorem j1L {x:Lf} : ∀ {m:List Lf},(m.Pairwise fun a b=>a.1<b.1)→x∈m→f0Y x.1 m=x.2
 | (a,d)::r,hp,c=>by
  obtain⟨e,f⟩:=List.pairwise_cons.1 hp;rw[j0O];rcases List.mem_cons.1 c with rfl|c
  ·rw[if_pos rfl]
  ·have:=e x c;rw[if_neg (by simp only at this;omega)];exact j1L f c
theorem j1M (at_:Int) (d:B): ∀(m:List Lf) (done:Bool),(p0L at_ d done m).length+(m.filter fun x=>decide (x.1=at_)).length=m.length+if done then 0 else 1
 | [],done=>by unfold p0L;cases done<;>rfl
 |x::r,done=>by
  have b:=j1M at_ d r (done || decide (at_<x.1));rw[l1L,List.length_append,List.length_append,List.filter_cons,List.length_cons];by_cases c:x.1=at_
  ·rw[if_pos c,decide_eq_true c,if_pos rfl,List.length_cons];have a: ¬at_<x.1:=by omega
   rw[decide_eq_false a,Bool.or_false]at b;rw[if_neg (fun h=>a h.2),decide_eq_false a,Bool.or_false];simp only[List.length_nil];omega
  ·rw[if_neg c,decide_eq_false c,if_neg Bool.false_ne_true,List.length_singleton];by_cases a:at_<x.1
   ·rw[decide_eq_true a,Bool.or_true]at b ⊢;cases done with
    |true=>rw[if_neg (fun h=>by cases h.1)];simp only[if_true,List.length_nil]at b ⊢;omega
    |false=>rw[if_pos ⟨rfl,a⟩];simp only[if_true,List.length_singleton,Bool.false_eq_true,if_false]at b ⊢;omega
   ·rw[decide_eq_false a,Bool.or_false]at b ⊢;rw[if_neg (fun h=>a h.2)];simp only[List.length_nil];omega
theorem o2W (m:List Lf) (at_:Int) (d:B):(k0L m at_ d).length≤m.length+1:=by
 have:=j1M at_ d m (a0R d);unfold k0L;split at this<;>omega
theorem j2Q {m:List Lf} {at_:Int} {d:B} (h:a0R d=true∨f0Y at_ m≠a0L 256):(k0L m at_ d).length≤m.length:=by
 have a:=j1M at_ d m (a0R d);unfold k0L;rcases h with h|h
 ·rw[h,if_pos rfl]at a;rw[h];omega
 ·have b:(at_,f0Y at_ m)∈m:=(p0M at_ m).resolve_left h;have c:(at_,f0Y at_ m)∈m.filter fun x=>decide (x.1=at_):=List.mem_filter.2 ⟨b,by simp⟩;have e:=List.length_pos_of_mem c;split at a<;>omega
theorem l0K.put {m:List Lf} {f:Nat→B} (h:l0K m f) {a:Nat} {d:B} (i:a<512) (hd:d.length=256):l0K (k0L m (a:Int) d) (upd f a d):=by
 refine⟨h.ok.put ⟨by omega,by omega⟩ hd,fun x c=> ?_,fun j=> ?_⟩
 ·rcases c1D (a:Int) d m _ x c with ⟨b,_⟩| ⟨b,rfl⟩
  ·exact h.nz x b
  ·exact b
 ·unfold upd k0L;rw[p1Z];by_cases e:j=a
  ·subst e;rw[if_pos rfl,if_pos rfl];split
   ·rename_i g;exact b1X g hd
   ·rfl
  ·rw[if_neg e,if_neg (by omega),h.eq]
theorem l0K.far {m:List Lf} {f:Nat→B} (h:l0K m f) {j:Nat} (b:a0R (f j)=false):j<512:=by
 rw[h.eq]at b;rcases p0M (j:Int) m with a|a
 ·rw[a,d0N]at b;cases b
 ·have:=(h.ok.in_ _ a).2.1;simp only at this;omega
def p0N (Ms:List (Nat→B)) (bits:Nat):Prop:= ∀m1∈Ms,∀m2∈Ms,∀i j,a0R (m1 i)=false→a0R (m2 j)=false→key bits (Sha.sum (m1 i))=key bits (Sha.sum (m2 j))→m1 i=m2 j
theorem p0N.step {f:Nat→B} {Os:List (Nat→B)} {bits a:Nat} {d:B} (h:p0N (f::Os) bits) (w: ∀g∈f::Os,∀j,a0R (g j)=false→j<512) (x:a0R d=false→ ¬x0Y (f::Os) bits d):p0N (upd f a d::Os) bits:=by
 have c: ∀g∈upd f a d::Os,∀j,(g j=d∨ ∃g'∈f::Os,g j=g' j):=fun g k j=>by
  rcases List.mem_cons.1 k with rfl|k
  ·by_cases e:j=a
   ·left;unfold Go.Sb.upd;rw[if_pos e]
   ·right;exact⟨f,List.mem_cons_self,by unfold Go.Sb.upd;rw[if_neg e]⟩
  ·exact .inr ⟨g,List.mem_cons_of_mem _ k,rfl⟩
 have one: ∀g∈f::Os,∀j,a0R d=false→a0R (g j)=false→key bits (Sha.sum (g j))=key bits (Sha.sum d)→g j=d:=fun g k j hd t b=>by
  by_cases e:g j=d
  ·exact e
  ·exact(x hd ⟨g,k,j,w g k j t,t,e,b⟩).elim
 intro y u z v i j l m b;rcases c y u i with n| ⟨r,p,n⟩<;>rcases c z v j with o| ⟨s,q,o⟩
 ·rw[n,o]
 ·rw[n]at b l ⊢;rw[o]at b m ⊢;exact(one s q j l m b.symm).symm
 ·rw[n]at b l ⊢;rw[o]at b m ⊢;exact one r p i m l b
 ·rw[n]at b l ⊢;rw[o]at b m ⊢;exact h r p s q i j l m b
theorem p0N.noClash {f:Nat→B} {Os:List (Nat→B)} {bits a:Nat} (h:p0N (f::Os) bits) (b:a0R (f a)=false): ¬x0Y (f::Os) bits (f a):=by
 rintro⟨g,hg,j,_,z,hne,hk⟩;exact hne (h g hg f List.mem_cons_self j a z b hk)
structure r0N (c:Rp) (i:Nat) (Os:List (Nat→B)):Prop where
 to_: ∀k,k<c.l.length→k≠i→ ∃f∈Os,l0K (c.l.getD k v0).m f
 of_: ∀f∈Os,∃k,k<c.l.length∧k≠i∧l0K (c.l.getD k v0).m f
theorem q0V (c:Rp) (i:Nat) (m:List Lf):(d0K c i m).l.length=c.l.length:=by unfold d0K;simp
theorem u1E {c:Rp} {i k:Nat} {m:List Lf} (h:k≠i):(d0K c i m).l.getD k v0=c.l.getD k v0:=by
 unfold d0K;simp only[List.getD_eq_getElem?_getD];rw[List.getElem?_set_ne (Ne.symm h)]
theorem y0A {c:Rp} {i:Nat} {m:List Lf} (h:i<c.l.length):(d0K c i m).l.getD i v0= {c.l.getD i v0 with m:=m} :=by
 unfold d0K;simp only[List.getD_eq_getElem?_getD];rw[List.getElem?_set_self h];rfl
theorem q0B {c:Rp} {i:Nat} {m b:List Lf} (h:i<c.l.length):d0K (d0K c i m) i b=d0K c i b:=by
 have a:=y0A (m:=m) h;unfold d0K at a ⊢;simp only at a ⊢;rw[a,List.set_set]
theorem o0C {c:Rp} {i:Nat} (h:i<c.l.length):d0K c i (c.l.getD i v0).m=c:=by
 unfold d0K;have e:c.l.set i {c.l.getD i v0 with m:=(c.l.getD i v0).m} =c.l:=by
  rw[List.getD_eq_getElem?_getD,List.getElem?_eq_getElem h];exact List.set_getElem_self h
 rw[e]
theorem r0N.with_ {c:Rp} {i:Nat} {Os:List (Nat→B)} (h:r0N c i Os) (m:List Lf):r0N (d0K c i m) i Os:=
 ⟨fun k d a=>by rw[q0V]at d;rw[u1E a];exact h.to_ k d a,fun f j=>by obtain⟨k,e,b,g⟩:=h.of_ f j;exact⟨k,by rw[q0V];exact e,b,by rw[u1E b];exact g⟩⟩
theorem r0N.far {c:Rp} {i:Nat} {f:Nat→B} {Os:List (Nat→B)} (h:r0N c i Os) (e:l0K (c.l.getD i v0).m f): ∀g∈f::Os,∀j,a0R (g j)=false→j<512:=fun g a j b=>by
 rcases List.mem_cons.1 a with rfl|a
 ·exact e.far b
 ·obtain⟨k,_,_,d⟩:=h.of_ g a;exact d.far b
theorem r0O {l:List Vp} {k:Nat} (h:k<l.length):l.getD k v0=l[k]:=by rw[List.getD_eq_getElem?_getD,List.getElem?_eq_getElem h];rfl
theorem e2N {c:Rp} {i:Nat} {f:Nat→B} {Os:List (Nat→B)} (hi:i<c.l.length) (h:r0N c i Os) (u:l0K (c.l.getD i v0).m f) (data:B):p0T c data=true↔x0Y (f::Os) c.bits data:=by
 unfold p0T;constructor
 ·intro p;obtain⟨v,w,p⟩:=List.any_eq_true.1 p;obtain⟨x,t,p⟩:=List.any_eq_true.1 p;obtain⟨d,q⟩:=of_decide_eq_true p;obtain⟨k,b,rfl⟩:=List.mem_iff_getElem.1 w;have: ∃g∈f::Os,l0K (c.l.getD k v0).m g:=by
   by_cases e:k=i
   ·subst e;exact⟨f,List.mem_cons_self,u⟩
   ·obtain⟨g,n,a⟩:=h.to_ k b e;exact⟨g,List.mem_cons_of_mem _ n,a⟩
  obtain⟨g,n,a⟩:=this;rw[r0O b]at a;have s:=a.ok.in_ x t;have r:g x.1.toNat=x.2:=by rw[a.eq,Int.toNat_of_nonneg s.1];exact j1L a.ok.ord t
  exact⟨g,n,x.1.toNat,by omega,by rw[r];exact a.nz x t,by rw[r];exact d,by rw[r];exact q⟩
 ·rintro⟨g,n,j,hj,hz,d,q⟩;have: ∃k,k<c.l.length∧l0K (c.l.getD k v0).m g:=by
   rcases List.mem_cons.1 n with rfl|n
   ·exact⟨i,hi,u⟩
   ·obtain⟨k,o,_,a⟩:=h.of_ g n;exact⟨k,o,a⟩
  obtain⟨k,b,a⟩:=this;rw[r0O b]at a;rw[a.eq]at hz d q;rcases p0M (j:Int) c.l[k].m with o|o
  ·rw[o,d0N]at hz;cases hz
  ·exact List.any_eq_true.2 ⟨_,List.getElem_mem b,List.any_eq_true.2 ⟨_,o,decide_eq_true ⟨d,q⟩⟩⟩
theorem o2X (a data:B) (f n:Nat):c1C a data f n=t0O a data f n:=rfl
theorem y1O {data:B} (f n:Nat) (h:a0R data=true):a0R (t0O (a0L 256) data f n)=true:=by
 unfold a0R t0O at*
 rw[List.all_eq_true]at h ⊢;intro x a;rcases List.mem_append.1 a with a|a
 ·rcases List.mem_append.1 a with a|a
  ·have:=List.mem_of_mem_take a;rw[a0L,List.mem_replicate]at this;rw[this.2];rfl
  ·exact h x (List.mem_of_mem_take a)
 ·have:=List.mem_of_mem_drop a;rw[a0L,List.mem_replicate]at this;rw[this.2];rfl
theorem u1F {data:B} (n:Nat) (h:a0R data=true):a0R (data.drop n)=true:=by
 unfold a0R at*
 rw[List.all_eq_true]at h ⊢;exact fun x a=>h x (List.mem_of_mem_drop a)
def e2O (at_:Nat) (data:B):Nat:=if data.length=0 then 0 else(at_%4*64+data.length+255)/256
theorem r0P (i:Nat): ∀(k:Nat) (c:Rp) (f:Nat→B) (Os:List (Nat→B)) (at_:Nat) (data:B),i<c.l.length→r0N c i Os→l0K (c.l.getD i v0).m f→p0N (f::Os) c.bits→at_*64+data.length≤131072→data.length%64=0→data.length≤k→
 (j0N c.bits Os k f at_ data∧(d0I i k c at_ data).2=9)∨
 (¬j0N c.bits Os k f at_ data∧ ∃p,d0I i k c at_ data=(d0K c i p,0)∧l0K p (k0J k f at_ data)∧p0N (k0J k f at_ data::Os) c.bits∧
  p.length≤(c.l.getD i v0).m.length+e2O at_ data∧(a0R data=true→p.length≤(c.l.getD i v0).m.length))
 |0,c,f,Os,at_,data,hi,ho,hf,hu,_,_,_=> .inr ⟨id,(c.l.getD i v0).m,by rw[o0C hi];rfl,hf,hu,by omega,fun _=>Nat.le_refl _⟩
 |k+1,c,f,Os,at_,data,hi,ho,hf,hu,hroom,h64,hk=>by
  by_cases hd:data= []
  ·refine .inr ⟨fun h=>h.1 hd,(c.l.getD i v0).m,?_,?_,?_,by omega,fun _=>Nat.le_refl _⟩
   ·rw[o0C hi];unfold d0I;rw[if_pos hd]
   ·unfold k0J;rw[if_pos hd];exact hf
   ·unfold k0J;rw[if_pos hd];exact hu
  ·have M:data.length≠0:=fun e=>hd (List.eq_nil_of_length_eq_zero e);obtain⟨q,j⟩: ∃q,q=at_%4*64:=⟨_,rfl⟩;obtain⟨n,z⟩: ∃n,n=min data.length (256-q):=⟨_,rfl⟩;have L:at_/4<512:=by omega
   have g:f0Y ((at_/4:Nat):Int) (c.l.getD i v0).m=f (at_/4):=(hf.eq _).symm;have G:(f (at_/4)).length=256:=by rw[hf.eq];exact hf.ok.get_len _
   obtain⟨a,b⟩: ∃a,a=t0O (f (at_/4)) data q n:=⟨_,rfl⟩;have C:a.length=256:=by rw[b];exact t1T G (by omega) (by omega)
   have r:=e2N hi ho hf a;have t:d0I i (k+1) c at_ data=if a≠f (at_/4)∧a0R a=false∧p0T c a=true then(c,9)else d0I i k (d0K c i (k0L (c.l.getD i v0).m ((at_/4:Nat):Int) a)) (at_+n/64) (data.drop n):=by
    rw[d0I,if_neg hd];simp only;rw[g,←j,←z,o2X,←b]
   have o:j0N c.bits Os (k+1) f at_ data↔((a0R a=false∧x0Y (f::Os) c.bits a)∨j0N c.bits Os k (upd f (at_/4) a) (at_+n/64) (data.drop n)):=by
    conv=>lhs;unfold j0N
    rw[←j,←z,←b];exact⟨fun h=>h.2,fun h=>⟨hd,h⟩⟩
   have E:k0J (k+1) f at_ data=k0J k (upd f (at_/4) a) (at_+n/64) (data.drop n):=by
    conv=>lhs;unfold k0J
    rw[if_neg hd,←j,←z,←b]
   by_cases d:a0R a=false∧x0Y (f::Os) c.bits a
   ·have A:a≠f (at_/4):=fun e=>by
     rw[e]at d;exact hu.noClash d.1 d.2
    exact .inl ⟨o.2 (.inl d),by rw[t,if_pos ⟨A,d.1,r.2 d.2⟩]⟩
   ·have y:(data.drop n).length=data.length-n:=List.length_drop;have N:=hf.put L C;have F:=q0V c i (k0L (c.l.getD i v0).m ((at_/4:Nat):Int) a);have s:=y0A (m:=k0L (c.l.getD i v0).m ((at_/4:Nat):Int) a) hi;have H:=r0P i k (d0K c i (k0L (c.l.getD i v0).m ((at_/4:Nat):Int) a)) (upd f (at_/4) a) Os (at_+n/64) (data.drop n) (by rw[F];exact hi) (ho.with_ _) (by rw[s];exact N)
     (hu.step (ho.far hf) fun v h=>d ⟨v,h⟩) (by omega) (by omega) (by omega)
    rw[show(d0K c i (k0L (c.l.getD i v0).m ((at_/4:Nat):Int) a)).bits=c.bits from rfl,s]at H;have D: ¬(a≠f (at_/4)∧a0R a=false∧p0T c a=true):=fun h=>d ⟨h.2.1,r.1 h.2.2⟩;rw[t,if_neg D,E];rcases H with ⟨w,x⟩| ⟨w,p,x,I,J,u,K⟩
    ·exact .inl ⟨o.2 (.inr w),x⟩
    ·refine .inr ⟨fun h=>(o.1 h).elim d w,p,?_,I,J,?_,fun v=> ?_⟩
     ·rw[x,q0B hi]
     ·have:=o2W (c.l.getD i v0).m ((at_/4:Nat):Int) a;simp only at u;unfold e2O at u ⊢;rw[y]at u;rw[if_neg M];have:n=256-q∨n=data.length:=by omega
      split at u
      ·omega
      ·omega
     ·refine Nat.le_trans (K (u1F n v)) (j2Q ?_);by_cases e:f0Y ((at_/4:Nat):Int) (c.l.getD i v0).m=a0L 256
      ·left;rw[b,←g,e];exact y1O _ _ v
      ·exact .inr e
section
def lvK (g:Nat→Int→Option (List (Nat×Int))):Nat→List Int→Option (List (Nat×Int))
 |_,[]=>some []
 |i,k::l=>(g i k).bind fun a=>(lvK g (i+1) l).map (a++ ·)
def lvs:Nat→Nat→Int→St→Option (List (Nat×Int))
 |0,from_,at_,s=>match (load at_ 0 s).1 with
  | .ok n=>lvK (fun i k=>some (if k=0 then []else [(from_+i,k)])) 0 n.kids
  |_=>none
 |l+1,from_,at_,s=>match (load at_ (l+1) s).1 with
  | .ok n=>lvK (fun i k=>if k=0 then some []else lvs l (from_+i*8^(l+1)) k s) 0 n.kids
  |_=>none
def g1S (s:St) (from_:Nat):Nat→Nat→Int→Option (List (Nat×Int))
 |0=>fun i k=>some (if k=0 then []else [(from_+i,k)])
 |l+1=>fun i k=>if k=0 then some []else lvs l (from_+i*8^(l+1)) k s
theorem x2V (l from_:Nat) (at_:Int) (s:St):lvs l from_ at_ s=match (load at_ l s).1 with| .ok n=>lvK (g1S s from_ l) 0 n.kids|_=>none:=by cases l<;>rfl
section
variable {C:Type}
def g0I (see:Nat×Int→C→Bool×C):List (Nat×Int)→C→Bool×C
 | [],c=>(true,c)
 |x::l,c=>if(see x c).1 then g0I see l (see x c).2 else(false,(see x c).2)
theorem u1G (see:Nat×Int→C→Bool×C) (ys:List (Nat×Int)): ∀(xs:List (Nat×Int)) (c:C),g0I see (xs++ys) c=if(g0I see xs c).1 then g0I see ys (g0I see xs c).2 else(false,(g0I see xs c).2)
 | [],c=>by simp[g0I]
 |x::xs,c=>by
  rw[List.cons_append];have a:g0I see (x::(xs++ys)) c=if(see x c).1 then g0I see (xs++ys) (see x c).2 else(false,(see x c).2):=rfl
  have b:g0I see (x::xs) c=if(see x c).1 then g0I see xs (see x c).2 else(false,(see x c).2):=rfl
  rw[a,b];split
  ·exact u1G see ys xs _
  ·simp
end
def d0L (from_ a:Nat) (x:Nat×Int) (c:List (Nat×Int)):Bool×List (Nat×Int):=if a≤x.1 then(false,c)else if from_≤x.1 then(true,c++ [x])else(true,c)
def m0B (root:Int) (from_ a:Nat):M (List (Nat×Int)):=fun s=>match lvs 2 0 root s with
 |some xs=>(.ok (g0I (d0L from_ a) xs []).2,s)
 |none=>(.big,s)
def k0M (root:Int) (from_ a:Nat):M Int:=a0B (m0B root from_ a) fun l=>s0G (fun r x=>m0G r x.1 0) root l
def i0C (x:Ent) (from_ a:Nat):M Ent:=if 5000<a then fun s=>(.big,s)else
 if a/4≤(from_+3)/4 then e0T x from_ (a0L ((a-from_)*64))else
 a0B (e0T x from_ (a0L (((from_+3)/4*4-from_)*64))) fun y=>a0B (k0M y.root ((from_+3)/4) (a/4)) fun r=>
 e0T {y with root:=r} (a/4*4) (a0L ((a-a/4*4)*64))
def q0C (id:Int):M Unit:=a0B (find id) fun x=>a0B (o0H id) fun _=>v0D x.root 2
def q0W (id:Int):M Int:=a0B (i0K (e0M 0 (q0C id))) fun r=>ret r.1
def m0C (id size:Int):M Unit:=a0B (l0Z id) fun x=>if size<1∨2048<size then n0L 4 else
 a0B (if size<x.size then i0C x size.toNat x.size.toNat else ret x) fun y=>m0H {y with size:=size}
def q0X (id size:Int):M Int:=a0B (i0K (e0M 0 (m0C id size))) fun r=>ret r.1
def r0Q (id at_ n:Int):M Unit:=a0B (l0Z id) fun x=>a0B (h0J x at_ n) fun _=>a0B (i0C x at_.toNat (at_+n).toNat) m0H
def v0U (id at_ n:Int):M Int:=a0B (i0K (e0M 0 (r0Q id at_ n))) fun r=>ret r.1
def e1P (id:Int):M B:=a0B (find id) fun x=>i1Y x.root
def w0M (id:Int):M (B×Int):=a0B (i0K (e1P id)) fun r=>if r.1=0 then ret (b1Z (a0L 32) r.2,0)else fun s=>(.big,s)
end
section
def y0B (g:Nat→Int→List (Nat×Int)):Nat→List Int→List (Nat×Int)
 |_,[]=> []
 |i,k::l=>g i k++y0B g (i+1) l
def lvL (G:Gh):Nat→Nat→Int→List (Nat×Int)
 |0,from_,at_=>y0B (fun i k=>if k=0 then []else [(from_+i,k)]) 0 (b0G G at_)
 |l+1,from_,at_=>y0B (fun i k=>if k=0 then []else lvL G l (from_+i*8^(l+1)) k) 0 (b0G G at_)
theorem j1N {g:Nat→Int→Option (List (Nat×Int))} {b:Nat→Int→List (Nat×Int)} : ∀(a:List Int) (i:Nat),(∀k∈a,∀j,g j k=some (b j k))→lvK g i a=some (y0B b i a)
 | [],_,_=>rfl
 |k::a,i,h=>by
  unfold lvK y0B;rw[h k List.mem_cons_self i,j1N a (i+1) fun x c=>h x (List.mem_cons_of_mem _ c)];rfl
theorem j1O {g:Nat→Int→List (Nat×Int)} {x:Nat×Int} : ∀(b:List Int) (i:Nat),x∈y0B g i b↔ ∃k,k<b.length∧x∈g (i+k) (b.getD k 0)
 | [],i=>by
  constructor
  ·intro h;cases h
  ·rintro⟨k,hk,_⟩;cases hk
 |a::b,i=>by
  unfold y0B;rw[List.mem_append,j1O b (i+1)];constructor
  ·rintro(h| ⟨k,hk,h⟩)
   ·exact⟨0,by simp,by simpa using h⟩
   ·exact⟨k+1,by simpa using hk,by rw[show i+(k+1)=i+1+k by omega];simpa using h⟩
  ·rintro⟨k,hk,h⟩;cases k with
   |zero=>exact .inl (by simpa using h)
   |succ k=>exact .inr ⟨k,by simpa using hk,by rw[show i+1+k=i+(k+1) by omega];simpa using h⟩
theorem j1P {g:Nat→Int→List (Nat×Int)} {w b:Nat} : ∀(a:List Int) (i:Nat),(∀i,∀k∈a,(∀x∈g i k,b+i*w≤x.1∧x.1<b+i*w+w)∧(g i k).Pairwise fun x y=>x.1<y.1)→
 (∀x∈y0B g i a,b+i*w≤x.1∧x.1<b+(i+a.length)*w)∧(y0B g i a).Pairwise fun x y=>x.1<y.1
 | [],_,_=>⟨fun x h=>(by cases h),List.Pairwise.nil⟩
 |k::a,i,hg=>by
  obtain⟨f,m⟩:=j1P a (i+1) fun i k n=>hg i k (List.mem_cons_of_mem _ n);obtain⟨d,l⟩:=hg i k List.mem_cons_self;have e:b+(i+1)*w=b+i*w+w:=by rw[Nat.succ_mul];omega
  have j:(i+(k::a).length)*w=(i+1+a.length)*w:=by rw[List.length_cons,show i+(a.length+1)=i+1+a.length by omega]
  have p:(i+1)*w≤(i+1+a.length)*w:=Nat.mul_le_mul_right _ (by omega);rw[j];refine⟨fun x c=> ?_,?_⟩
  ·unfold y0B at c;rcases List.mem_append.1 c with c|c
   ·have:=d x c;omega
   ·have:=f x c;omega
  ·unfold y0B;refine List.pairwise_append.2 ⟨l,m,fun x c y o=> ?_⟩;have:=(d x c).2;have:=(f y o).1;omega
section
variable {s:St} {G:Gh} {P:List Int}
theorem Inv.lvs (h:Inv s G P): ∀(l from_:Nat) {root:Int},a0W G (l+1) root→Go.Sb.lvs l from_ root s=some (lvL G l from_ root)
 |0,from_,root,hr=>by
  unfold Go.Sb.lvs lvL;rw[h.loadK hr];exact j1N _ _ fun k _ j=>rfl
 |l+1,from_,root,hr=>by
  unfold Go.Sb.lvs lvL;rw[h.loadK hr];refine j1N _ _ fun k a j=> ?_;by_cases e:k=0
  ·rw[if_pos e,if_pos e]
  ·rw[if_neg e,if_neg e];exact h.lvs l _ ((h.kids hr).2 k a)
theorem Inv.lvL_ord (h:Inv s G P): ∀(l from_:Nat) {root:Int},a0W G (l+1) root→(∀x∈lvL G l from_ root,from_≤x.1∧x.1<from_+8^(l+1))∧(lvL G l from_ root).Pairwise fun x y=>x.1<y.1
 |0,from_,root,hr=>by
  have:=j1P (g:=fun i k=>if k=0 then []else [(from_+i,k)]) (w:=1) (b:=from_) (b0G G root) 0 (fun i k _=>by
   split
   ·exact⟨fun x h=>(by cases h),List.Pairwise.nil⟩
   ·exact⟨fun x h=>by rw[List.mem_singleton.1 h];simp,List.pairwise_singleton _ _⟩)
  rw[(h.kids hr).1]at this;unfold lvL;simpa using this
 |l+1,from_,root,hr=>by
  have:=j1P (g:=fun i k=>if k=0 then []else lvL G l (from_+i*8^(l+1)) k) (w:=8^(l+1)) (b:=from_) (b0G G root) 0 (fun i k a=>by
   split
   ·exact⟨fun x h=>(by cases h),List.Pairwise.nil⟩
   ·exact h.lvL_ord l _ ((h.kids hr).2 k a))
  rw[(h.kids hr).1,Nat.zero_mul,Nat.add_zero,Nat.zero_add]at this;unfold lvL;rw[show 8^(l+1+1)=8*8^(l+1) by rw[Nat.pow_succ];omega];exact this
theorem Inv.mem_lvL (h:Inv s G P): ∀(l from_:Nat) {root:Int} (j:Nat) (t:Int),a0W G (l+1) root→((j,t)∈lvL G l from_ root↔t≠0∧ ∃i,i<8^(l+1)∧j=from_+i∧t=c0P G l root i)
 |0,from_,root,j,t,hr=>by
  unfold lvL;rw[j1O,(h.kids hr).1];constructor
  ·rintro⟨k,hk,hm⟩;split at hm
   ·cases hm
   ·rename_i a;have c:=List.mem_singleton.1 hm;simp only[Prod.mk.injEq,Nat.zero_add]at c;refine⟨by rw[c.2];exact a,k,by omega,c.1,?_⟩;rw[c.2];unfold c0P b0Q;rw[show k/8^0%8=k by omega]
  ·rintro⟨a,i,hi,rfl,rfl⟩;refine⟨i,by omega,?_⟩;have e:c0P G 0 root i=(b0G G root).getD i 0:=by
    unfold c0P b0Q;simp only;rw[show i/8^0%8=i by omega]
   rw[e]at a ⊢;rw[if_neg a,Nat.zero_add];exact List.mem_singleton.2 rfl
 |l+1,from_,root,j,t,hr=>by
  have v:8^(l+1+1)=8*8^(l+1):=by rw[Nat.pow_succ];omega
  have m:0<8^(l+1):=Nat.pow_pos (by decide);unfold lvL;rw[j1O,(h.kids hr).1];constructor
  ·rintro⟨k,hk,hm⟩;split at hm
   ·cases hm
   ·rename_i a;have b:=(h.kids hr).2 _ (g0Z (i:=k) (by rw[(h.kids hr).1];exact hk));obtain⟨d,i,hi,o,p⟩:=(h.mem_lvL l _ j t b).1 hm;rw[Nat.zero_add]at o;have g:k*8^(l+1)+i<8*8^(l+1):=by
     have:k*8^(l+1)≤7*8^(l+1):=Nat.mul_le_mul_right _ (by omega);omega
    refine⟨d,k*8^(l+1)+i,by rw[v];exact g,by omega,?_⟩;have q:(b0Q (l+1) (k*8^(l+1)+i)).1=k:=by
     unfold b0Q;simp only;rw[Nat.mul_comm k,Nat.mul_add_div m,Nat.div_eq_of_lt hi,Nat.add_zero,Nat.mod_eq_of_lt hk]
    have r:(b0Q (l+1) (k*8^(l+1)+i)).2=i:=by
     unfold b0Q;simp only;rw[Nat.mul_comm k,Nat.mul_add_mod,Nat.mod_eq_of_lt hi]
    conv=>rhs;unfold c0P
    rw[q,r];exact p
  ·rintro⟨d,i,hi,rfl,e⟩;obtain⟨s1,w⟩:=t0N (l:=l+1) hi;have n:=q0A (l+1) i;refine⟨(b0Q (l+1) i).1,n,?_⟩;have b:=(h.kids hr).2 _ (g0Z (i:=(b0Q (l+1) i).1) (by rw[(h.kids hr).1];exact n));have f:t=c0P G l ((b0G G root).getD (b0Q (l+1) i).1 0) (b0Q (l+1) i).2:=by rw[e];conv=>lhs;unfold c0P
   rw[if_neg (fun u=>by rw[u,u0K h.zero]at f;exact d f),Nat.zero_add];exact(h.mem_lvL l _ _ t b).2 ⟨d,(b0Q (l+1) i).2,w,by omega,f⟩
theorem z0U (a b:Nat): ∀(ys acc:List (Nat×Int)),(ys.Pairwise fun x y=>x.1<y.1)→(g0I (d0L a b) ys acc).2=acc++ys.filter fun x=>decide (a≤x.1∧x.1<b)
 | [],acc,_=>by simp[g0I]
 |x::ys,acc,hp=>by
  obtain⟨f,e⟩:=List.pairwise_cons.1 hp;have e0:(g0I (d0L a b) (x::ys) acc)=if(d0L a b x acc).1 then g0I (d0L a b) ys (d0L a b x acc).2 else(false,(d0L a b x acc).2):=rfl
  rw[e0];by_cases hb:b≤x.1
  ·rw[show d0L a b x acc=(false,acc) by unfold d0L;rw[if_pos hb]];simp only[Bool.false_eq_true,if_false];rw[List.filter_eq_nil_iff.2,List.append_nil];intro y d;rcases List.mem_cons.1 d with rfl|d
   ·simp;omega
   ·have:=f y d;simp;omega
  ·by_cases c:a≤x.1
   ·rw[show d0L a b x acc=(true,acc++ [x]) by unfold d0L;rw[if_neg hb,if_pos c]];simp only[if_true];rw[z0U a b ys (acc++ [x]) e,List.filter_cons,if_pos (decide_eq_true ⟨c,by omega⟩),List.append_assoc,List.singleton_append]
   ·rw[show d0L a b x acc=(true,acc) by unfold d0L;rw[if_neg hb,if_neg c]];simp only[if_true];rw[z0U a b ys acc e,List.filter_cons,if_neg (by simp;omega)]
def clL (G:Gh) (root:Int) (a b:Nat):List (Nat×Int):=(lvL G 2 0 root).filter fun x=>decide (a≤x.1∧x.1<b)
theorem Inv.leavesA (h:Inv s G P) {root:Int} (c:a0W G 3 root) (a b:Nat):Go.Sb.m0B root a b s=(.ok (clL G root a b),s):=by
 unfold Go.Sb.m0B;rw[h.lvs 2 0 c];simp only;rw[z0U a b _ _ (h.lvL_ord 2 0 c).2];rfl
theorem Inv.clL_mem (h:Inv s G P) {root:Int} (g:a0W G 3 root) (a b j:Nat):j∈(clL G root a b).map (·.1)↔a≤j∧j<b∧j<512∧c0P G 2 root j≠0:=by
 unfold clL;rw[List.mem_map];constructor
 ·rintro⟨⟨j',t⟩,hx,rfl⟩;obtain⟨d,e⟩:=List.mem_filter.1 hx;obtain⟨l,i,hi,f,k⟩:=(h.mem_lvL 2 0 j' t g).1 d;have c:=of_decide_eq_true e;simp only[Nat.zero_add]at f;subst f;exact⟨c.1,c.2,hi,by rw[←k];exact l⟩
 ·rintro⟨d,e,c,h4⟩;exact⟨(j,c0P G 2 root j),List.mem_filter.2 ⟨(h.mem_lvL 2 0 j _ g).2 ⟨h4,j,c,by omega,rfl⟩,decide_eq_true ⟨d,e⟩⟩,rfl⟩
theorem Inv.clL_nodup (h:Inv s G P) {root:Int} (d:a0W G 3 root) (a b:Nat):((clL G root a b).map (·.1)).Nodup:=by
 unfold clL;refine List.pairwise_map.2 ?_;exact((h.lvL_ord 2 0 d).2.filter _).imp fun c=>Nat.ne_of_lt c
end
end
end Go.Sb
