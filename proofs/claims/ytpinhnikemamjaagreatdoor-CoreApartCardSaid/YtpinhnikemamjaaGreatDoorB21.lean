/- Part of the proof; no statement of its own. -/
import Derived.Test.YtpinhnikemamjaaGreatDoorB08
import Derived.Test.YtpinhnikemamjaaGreatDoorB17
import Derived.Test.YtpinhnikemamjaaGreatDoorB20
import Derived.Test.YtpinhnikemamjaaGreatDoorB09
import Derived.Test.YtpinhnikemamjaaGreatDoorB16
set_option linter.all false
set_option maxRecDepth 4000
set_option maxHeartbeats 4000000
namespace Go.Proofs.Q
open Go.Sl Go.Sb
section
theorem p2Q (x:Ent) (i:Nat):PB (o0H x i):=b0Y (k1Z _ _ _) x1P
theorem x1Y (x:Ent) (i:Nat) (d:B):PB (q0S x i d):=b0Y (k1X _) fun _=>b0Y (l1A _ _ _) fun _=>d0J _
theorem i1X {x:Hd} {s:St} (hd:l0L s.d): ∀ {n:Nat} {t:St} {b:B},f0N x n s=(.ok b,t)→b.length=64*n
 |0,t,b,h=>by cases h;rfl
 |n+1,t,b,h=>by
  unfold f0N at h
  simp only at h
  have hro:=c1P x n
  generalize x.at_.getD (4- (n+1)) 0=i at h
  generalize x.sums.getD (4- (n+1)) 0=c at h
  have key: ∀ {m:M B},RO m→(∀ {t b},m s=(.ok b,t)→b.length=64)→a0B m (fun s=>a0B (f0N x n) fun r=>ret (s++r)) s=(.ok b,t)→b.length=64*(n+1):=by
   intro m hm h64 h
   cases hg:m s with
   |mk o u=>
    have hu:u=s:=by have:=hm s;rw[hg]at this;exact this
    subst hu
    cases o with
    |ok v=>
     rw[a0A hg]at h
     cases hg2:f0N x n u with
     |mk o2 u2=>
      cases o2 with
      |ok r=>
       rw[a0A hg2]at h
       cases h
       rw[List.length_append,h64 hg,i1X hd hg2];omega
      |err e=>rw[a0Q hg2]at h;cases h
      |big=>unfold a0B at h;rw[hg2]at h;cases h
    |err e=>rw[a0Q hg]at h;cases h
    |big=>unfold a0B at h;rw[hg]at h;cases h
  refine key (e1A (p0G (e1B _) fun _=>e1A (fun _=>rfl) (s0J _)) (s0J _)) ?_ h
  intro t b h
  split at h
  ·cases hg:i0E i s with
   |mk o u=>
    cases o with
    |ok v=>
     rw[a0A hg]at h
     split at h
     ·cases h
     ·cases h;exact r1E hd (v0M hg).2
    |err e=>rw[a0Q hg]at h;cases h
    |big=>unfold a0B at h;rw[hg]at h;cases h
  ·cases h;rfl
theorem l2C {s t:St} {a:Int} {b:B} (hd:l0L s.d) (h:k0H a s=(.ok b,t)):b.length=256:=by
 unfold k0H at h
 split at h
 ·cases h;simp[a0T]
 ·cases hg:h0M a s with
  |mk o u=>
   cases o with
   |ok x=>
    rw[a0A hg]at h
    have hu:=(r0P hg).1
    subst hu
    exact i1X hd h
   |err e=>rw[a0Q hg]at h;cases h
   |big=>unfold a0B at h;rw[hg]at h;cases h
theorem r1X {x:Ent} {i:Nat} {s t:St} {b:B} (hd:l0L s.d) (h:o0H x i s=(.ok b,t)):t=s∧b.length=256:=by
 have h1:=l1F x i s
 rw[h]at h1
 refine⟨h1,?_⟩
 unfold o0H at h
 cases hg:k0I 2 x.root i s with
 |mk o u=>
  cases o with
  |ok v=>
   rw[a0A hg]at h
   have hu:=y0T 2 x.root i s
   rw[hg]at hu
   subst hu
   exact l2C hd h
  |err e=>rw[a0Q hg]at h;cases h
  |big=>unfold a0B at h;rw[hg]at h;cases h
theorem l2D {k:Nat} {x:Ent} {at_:Nat} {data:B} (h:data≠ []):j0C (k+1) x at_ data=a0B (o0H x (at_/4)) fun was=>
 a0B (q0S x (at_/4) (was.take (at_%4*64)++data.take (min data.length (256-at_%4*64))++was.drop (at_%4*64+min data.length (256-at_%4*64)))) fun x=>j0C k x (at_+min data.length (256-at_%4*64)/64) (data.drop (min data.length (256-at_%4*64))):=by
 conv=>lhs;unfold j0C
 rw[if_neg h]
theorem f2V {k:Nat} {x:Ent} {at_:Nat} :j0C k x at_ []=ret x:=by cases k<;>rfl
theorem i0X (x y:B):bs (x++y)=bs x++bs y:=by
 apply ByteArray.ext
 rw[ByteArray.data_append]
 simp[bs]
theorem v1G (was d:B) (f n:Nat):(bs was).extract 0 ((f:Int).toNat)++(bs d).extract 0 ((n:Int).toNat)++(bs was).extract (((f:Int)+(n:Int)).toNat) (bs was).size=bs (was.take f++d.take n++was.drop (f+n)):=by
 rw[show((f:Int)+(n:Int)).toNat=f+n by omega,Int.toNat_natCast,Int.toNat_natCast,y0J,y0J,v0F,←i0X,←i0X]
set_option maxRecDepth 4000 in
attribute [local irreducible] Sl.a0L Sl.OW Sl.CW Sl.OS Sl.OM Sl.OMf Sl.KM
theorem i1Y (W:World) (hW:h0L W) (a:Ad) (s:St) (b:Nat) (x:Ent) (at_:Nat) (data:B) (hi:at_+data.length<1000000) (hbits:s.bits≤256) (hnb:(e0U x at_ data s).1≠ .big):
 a0S Tryz.prog 68 #[ptr a.core,ptr b,.int .i64 at_,b0H data] (RS W a s++ [s0K b x]) (Ran fT (RSo W a (s0K b)) k0P (s0L (e0U x at_ data s))):=by
 simp only[List.cons_append,List.nil_append]
 refine a0C Tryz.func68 rfl Tryz.ntmps68 rfl (fun R w0=> ?_)
 simp only[a0N,List.cons_append,List.nil_append]
 refine go 1 ?_
 refine b0S (X:= {y:Nat×St×Ent×Nat×B // y.2.2.2.2.length≤y.1∧y.2.2.2.1+y.2.2.2.2.length<1000000∧y.2.1.bits=s.bits∧e0U x at_ data s=j0C y.1 y.2.2.1 y.2.2.2.1 y.2.2.2.2 y.2.1}) (fun y=> [(0,ptr a.core),(1,ptr b),(2,.int .i64 y.1.2.2.2.1),(3,b0H y.1.2.2.2.2)]) (fun y=>RS W a y.1.2.1++ [s0K b y.1.2.2.1,R]) (fun y=>y.1.1) ⟨(data.length,s,x,at_,data),Nat.le_refl _,hi,rfl,rfl⟩ gSu gSp ?_
 rintro⟨⟨k,u,x',at',d⟩,hk,ha,hub,he⟩ m0 hm0
 try simp only at hm0
 try dsimp only
 simp only at hk ha hub he
 simp only[List.cons_append,List.nil_append]
 refine go 5 ?_
 rw[b0N]
 refine go 3 ?_
 refine b0C rfl (fun hb14=> ?_) (fun hb14=> ?_)
 ·have hd0:0<d.length:=by have h:=hb14;simp only[decide_eq_true_eq]at h;omega
  obtain⟨j,rfl⟩: ∃j,k=j+1:=⟨k-1,by omega⟩
  rw[l2D (by intro e;rw[e]at hd0;exact absurd hd0 (by decide))]at he
  obtain⟨f,hf⟩: ∃f,f=at'%4*64:=⟨_,rfl⟩
  have hfl:f≤192:=by omega
  obtain⟨n,hn⟩: ∃n,n=min d.length (256-f):=⟨_,rfl⟩
  rw[←hf,←hn]at he
  refine go 10 ?_
  rw[show((at':Nat):Int)/4=((at'/4:Nat):Int) by omega,show((at':Nat):Int)%4*64=(f:Int) by omega]
  refine go 8 ?_
  rw[b0N]
  refine go 3 ?_
  rw[show min ((d.length:Nat):Int) (256- (f:Int))=(n:Int) by omega]
  refine go 4 ?_
  refine o0Z (p:=l0L u.d) gFd fun hdk=> ?_
  refine go 4 ?_
  refine a0F (a0O Ag.o rfl (by simp[b0M]) (a0I (by simp[b0M]))) ?_
  refine go 1 ?_
  refine b0F rfl Hb.o rfl (f2T W a u x' (at'/4) (by omega)) gSp (fun was t ho=> ?_) (fun e t ho=>by(repeat (first|with_reducible refine a0G ?_|with_reducible refine a0M ?_));exact a0Y ((show s0L (e0U x at_ data s)=(.err e,(t,none)) by rw[he,a0Q ho];rfl)) (fun _ _ h=>h) gSp)
  refine ns ?_
  obtain⟨hts,hwl⟩:=r1X hdk ho
  rw[hts]at ho ⊢
  rw[a0A ho]at he
  have hws:(bs was).size=256:=by rw[b0N,hwl]
  have hds:(bs d).size=d.length:=b0N d
  refine go 4 ?_
  refine d0S 16 Fol.o (by kernel_rfl) ?_
  simp only[List.take_succ_cons,List.take_zero,List.drop_succ_cons,List.drop_zero]
  refine go 5 ?_
  refine c0K (b1F Tst.o rfl rfl (by omega)) ?_
  refine go 2 ?_
  refine c0K (b1F Tst.o rfl rfl (by omega)) ?_
  refine c0K (i0M rfl rfl (by simp only[ByteArray.size_append,ByteArray.size_extract,maxLen];omega)) ?_
  refine go 4 ?_
  refine c0K (b1E Tst.o rfl rfl (by omega)) ?_
  refine c0K (i0M rfl rfl (by simp only[ByteArray.size_append,ByteArray.size_extract,maxLen];omega)) ?_
  refine go 1 ?_
  rw[v1G was d f n]
  refine b0F rfl Hb.o rfl (f2U W hW a u b x' (at'/4) (was.take f++d.take n++was.drop (f+n)) (by omega) (by simp only[List.length_append,List.length_take,List.length_drop];omega) (by omega) (by rw[he]at hnb;exact c0R hnb)) gSp (fun v ⟨t',ox⟩ ho=> ?_) (fun e t ho=>by(repeat (first|with_reducible refine a0G ?_|with_reducible refine a0M ?_));(obtain⟨t1,t2⟩:=t;obtain⟨hx,hm⟩:=p0X ho;obtain rfl:t2=none:=congrArg Prod.snd hx;have hm:_=(Out.err e,t1):=hm;exact a0Y (by rw[he,a0Q hm];rfl) (fun _ _ h=>h) gSp))
  refine ns ?_
  refine go 1 ?_
  obtain⟨y,hx,hm⟩:=r0T ho
  obtain rfl:ox=some y:=congrArg Prod.snd hx
  have hm:_=(Out.ok y,t'):=hm
  simp only[RSo,List.cons_append,List.nil_append]
  rw[a0A hm]at he
  have hpb:=x1Y x' (at'/4) (was.take f++d.take n++was.drop (f+n)) u
  rw[hm]at hpb
  refine go 5 ?_
  refine a0F (b1E Tst.o rfl rfl (by omega)) ?_
  rw[Int.toNat_natCast,v0F]
  refine go 8 ?_
  rw[show((at':Nat):Int)+(n:Int)/64=((at'+n/64:Nat):Int) by omega]
  refine go 2 ?_
  refine b0Q (fun _ _ h=>h) (⟨(j,t',y,at'+n/64,d.drop n),by(show(d.drop n).length≤j);rw[List.length_drop];omega,by(show at'+n/64+(d.drop n).length<1000000);rw[List.length_drop];omega,hpb.trans hub,he⟩) (by first|omega| (simp only;omega)) gSu gSp
 ·have hd0:d= []:=List.eq_nil_of_length_eq_zero (by have h:=hb14;simp only[decide_eq_false_iff_not]at h;omega)
  subst hd0
  rw[f2V]at he
  refine go 1 ?_
  exact d0X (s:=(u,some x')) (by rw[he];rfl) rfl rfl gSp
end
end Go.Proofs.Q
namespace Go.Sb.Sha
def x1Z {α:Type} (n:Nat) (k:Nat→α):α:=match n with
 |0=>k 0
 |m+1=>k (m+1)
theorem b2H {α:Type} (n:Nat) (k:Nat→α):x1Z n k=k n:=by cases n<;>rfl
def st {α:Type} (x:W) (k:W→α):α:=x1Z x.toNat fun n=>k (BitVec.ofNat 32 n)
theorem o1M {α:Type} (x:W) (k:W→α):st x k=k x:=by unfold st;rw[b2H];simp
def go:List W→W→W→W→W→W→W→W→W→List W
 | [],a,b,c,d,e,f,g,h=> [a,b,c,d,e,f,g,h]
 |x::l,a,b,c,d,e,f,g,h=>
  st (h+x+t1 e+(e &&& f ^^^ ~~~e &&& g)) fun t=>st (d+t) fun e'=>st (t+(t0 a+(a &&& b ^^^ a &&& c ^^^ b &&& c))) fun a'=>go l a' a b c e' e f g
def wk (b:List UInt8):List W:=List.zipWith (· + ·) e0Q (j0Z b)
def g1I (v:List W) (x:W):List W:=
 let e:=at_ v 4;let a:=at_ v 0
 let t:=at_ v 7+x+t1 e+(e &&& at_ v 5 ^^^ ~~~e &&& at_ v 6)
 let u:=t0 a+(a &&& at_ v 1 ^^^ a &&& at_ v 2 ^^^ at_ v 1 &&& at_ v 2)
 [t+u,a,at_ v 1,at_ v 2,at_ v 3+t,e,at_ v 5,at_ v 6]
theorem p2R (v:List W) (k w:W):rnd v k w=g1I v (k+w):=by unfold rnd g1I;simp only[BitVec.add_assoc]
theorem m2R: ∀(l:List W) (a b c d e f g h:W),go l a b c d e f g h=l.foldl g1I [a,b,c,d,e,f,g,h]
 | [],a,b,c,d,e,f,g,h=>rfl
 |x::l,a,b,c,d,e,f,g,h=>by
  unfold go
  rw[o1M,o1M,o1M,m2R,List.foldl_cons]
  rfl
theorem y1A (w v:List W): ∀n,n≤64→64≤w.length→j0F w v n=((List.zipWith (· + ·) e0Q w).take n).foldl g1I v
 |0,_,_=>rfl
 |n+1,h,hw=>by
  have h64:e0Q.length=64:=rfl
  have hl:n<(List.zipWith (· + ·) e0Q w).length:=by rw[List.length_zipWith];omega
  rw[List.take_succ,List.getElem?_eq_getElem hl,List.foldl_append,←y1A w v n (by omega) hw]
  show rnd (j0F w v n) (at_ e0Q n) (at_ w n)=g1I _ _
  rw[p2R]
  congr 1
  unfold at_
  rw[List.getElem_zipWith,List.getD_eq_getElem?_getD,List.getD_eq_getElem?_getD,List.getElem?_eq_getElem (by omega),List.getElem?_eq_getElem (by omega)]
  rfl
theorem r0C: ∀(n:Nat) (w:List W),(more n w).length=w.length+n
 |0,w=>rfl
 |n+1,w=>by unfold more;rw[r0C n];simp;omega
theorem n1I (b:List UInt8):(j0Z b).length=64:=by unfold j0Z f0L;rw[r0C];simp
def j0W (h l:List W):List W:=List.zipWith (· + ·) h (l.foldl g1I h)
theorem f2W (h:List W) (b:List UInt8):mix h b=j0W h (wk b):=by
 have h64:e0Q.length=64:=rfl
 unfold mix j0W wk
 rw[y1A _ _ 64 (Nat.le_refl _) (by rw[n1I];exact Nat.le_refl _),List.take_of_length_le (by rw[List.length_zipWith];omega)]
def a1K {α:Type} (h l:List W) (k:List W→List α):List α:=match h with
 | [a,b,c,d,e,f,g,i]=>match go l a b c d e f g i with
  | [a',b',c',d',e',f',g',i']=>st (a+a') fun a=>st (b+b') fun b=>st (c+c') fun c=>st (d+d') fun d=>st (e+e') fun e=>st (f+f') fun f=>st (g+g') fun g=>st (i+i') fun i=>k [a,b,c,d,e,f,g,i]
  |_=> []
 |_=> []
theorem n1J (l:List W): ∀(v:List W),v.length=8→(l.foldl g1I v).length=8:=by
 induction l with
 |nil=>intro v h;exact h
 |cons x l ih=>intro v h;exact ih _ rfl
theorem o1N {α:Type} : ∀(l:List α),l.length=8→ ∃a b c d e f g h,l= [a,b,c,d,e,f,g,h]
 | [a,b,c,d,e,f,g,h],_=>⟨a,b,c,d,e,f,g,h,rfl⟩
theorem g0K {h l:List W} (hh:h.length=8):(j0W h l).length=8:=by unfold j0W;rw[List.length_zipWith,n1J l h hh,hh];rfl
theorem n0Z {α:Type} {h l:List W} (hh:h.length=8) (k:List W→List α):a1K h l k=k (j0W h l):=by
 have h2:=n1J l h hh
 obtain⟨a,b,c,d,e,f,g,i,rfl⟩:=o1N h hh
 unfold j0W
 unfold a1K
 simp only
 rw[m2R]
 obtain⟨a',b',c',d',e',f',g',i',h3⟩:=o1N _ h2
 rw[h3]
 simp only[o1M,List.zipWith_cons_cons,List.zipWith_nil_left]
end Go.Sb.Sha
namespace Go.Proofs.Q
open Go.Sl Go.Sb
section
theorem f2X (X:BitVec 32):k0V X.toNat 4=Sha.be4 X:=by
 have h: ∀k:Nat,k≤24→UInt8.ofNat (X.toNat/2^k)=(⟨(X >>> k).setWidth 8⟩:UInt8):=fun k hk=>by
  apply UInt8.toNat_inj.1
  rw[UInt8.toNat_ofNat']
  show _=((X >>> k).setWidth 8).toNat
  rw[BitVec.toNat_setWidth,BitVec.toNat_ushiftRight,Nat.shiftRight_eq_div_pow]
 have h0:X.toNat=X.toNat/2^0:=by simp
 show [UInt8.ofNat (X.toNat/256^3),UInt8.ofNat (X.toNat/256^2),UInt8.ofNat (X.toNat/256^1),UInt8.ofNat (X.toNat/256^0)]=_
 rw[show(256:Nat)^3=2^24 from rfl,show(256:Nat)^2=2^16 from rfl,show(256:Nat)^1=2^8 from rfl,show(256:Nat)^0=2^0 from rfl,h 24 (by omega),h 16 (by omega),h 8 (by omega),h 0 (by omega)]
 unfold Sha.be4
 rw[show X >>> 0=X from BitVec.ushiftRight_zero X]
theorem f2Y (n:Nat):k0V n 8=Sha.be8 n:=rfl
theorem f2Z (w v:List Sha.W) (i:Nat):Sha.j0F w v (i+1)=Sha.rnd (Sha.j0F w v i) (Sha.at_ Sha.e0Q i) (Sha.at_ w i):=rfl
theorem y1B (n j:Nat) (hj:j≤Sha.m0E n):((n+1+j)%64≠56)=(j<Sha.m0E n):=by
 unfold Sha.m0E at*
 apply propext
 constructor<;>intro h<;>omega
theorem l2E {h v:List Sha.W} {i:Nat} (hh:h.length=8) (hv:v.length=8) (hi:i<8):
 ((List.zipWith (· + ·) h v).take i++h.drop i).set i (Sha.at_ h i+Sha.at_ v i)=(List.zipWith (· + ·) h v).take (i+1)++h.drop (i+1):=by
 have hz:(List.zipWith (· + ·) h v).length=8:=by rw[List.length_zipWith,hh,hv];rfl
 have hl:((List.zipWith (· + ·) h v).take i).length=i:=by rw[List.length_take];omega
 rw[List.set_append_right _ _ (by omega),hl,Nat.sub_self,List.drop_eq_getElem_cons (by omega),List.set_cons_zero,List.take_succ,List.getElem?_eq_getElem (by omega)]
 simp only[List.getElem_zipWith,Option.toList_some,List.append_assoc,List.singleton_append]
 unfold Sha.at_
 rw[List.getD_eq_getElem?_getD,List.getD_eq_getElem?_getD,List.getElem?_eq_getElem (by omega),List.getElem?_eq_getElem (by omega)]
 rfl
theorem r2U {h v:List Sha.W} {i:Nat} (hh:h.length=8) (hv:v.length=8) (hi:i<8):nth (((List.zipWith (· + ·) h v).take i++h.drop i).map i32) i=some (i32 (Sha.at_ h i)):=by
 have hz:(List.zipWith (· + ·) h v).length=8:=by rw[List.length_zipWith,hh,hv];rfl
 have hl:((List.zipWith (· + ·) h v).take i).length=i:=by rw[List.length_take];omega
 rw[e0L,List.getElem?_map,List.getElem?_append_right (by omega),hl,Nat.sub_self,List.getElem?_drop,Nat.add_zero,List.getElem?_eq_getElem (by omega)]
 unfold Sha.at_
 rw[List.getD_eq_getElem?_getD,List.getElem?_eq_getElem (by omega)];rfl
theorem l2F {v:List Sha.W} (h:v.length=8):v.map i32= [i32 (Sha.at_ v 0),i32 (Sha.at_ v 1),i32 (Sha.at_ v 2),i32 (Sha.at_ v 3),i32 (Sha.at_ v 4),i32 (Sha.at_ v 5),i32 (Sha.at_ v 6),i32 (Sha.at_ v 7)]:=by
 match v,h with
 | [a,b,c,d,e,f,g,i],_=>rfl
theorem b2I (n:Nat) (h:List Sha.W) (b:B):Sha.f0E (n+1) h b=Sha.f0E n (Sha.mix h (b.take 64)) (b.drop 64):=rfl
abbrev n64 (x:BitVec 32):Value:= .int .i64 (x.toNat:Int)
set_option maxRecDepth 8000
attribute [local irreducible] Sl.a0L Sl.OW Sl.CW Sl.OS Sl.OM Sl.OMf Sl.KM
theorem l2G (s:B) (hs:s.length≤100000):a0S Tryz.prog 188 #[b0H s] [] (b0G (b0H (Sha.sum s)) []):=by
 have hss:(bs s).size=s.length:=b0N s
 obtain⟨p,hp⟩: ∃p,p=Sha.l0T s:=⟨_,rfl⟩
 have hfl:Sha.m0E s.length<64:=by unfold Sha.m0E;omega
 have hpl:p.length=s.length+1+Sha.m0E s.length+8:=by rw[hp];simp[Sha.l0T,Sha.be8];omega
 have hp64:p.length%64=0:=by rw[hpl];unfold Sha.m0E;omega
 have hsl:Sha.start.length=8:=rfl
 obtain⟨tot,htot⟩: ∃tot,tot=p.length/64:=⟨_,rfl⟩
 have hsum:Sha.sum s=(Sha.f0E tot Sha.start p).flatMap Sha.be4:=by rw[htot,hp];rfl
 refine a0C Tryz.func188 rfl Tryz.ntmps188 rfl (fun R w0=> ?_)
 simp only[a0N,List.cons_append,List.nil_append]
 refine go 7 ?_
 refine(b0P Tsl.o Zr.o rfl rfl rfl (by simp[d0B,d0K,Value.cells]<;>rfl) (fun b26=> ?_))
 refine e0Y (fun w h=>z0J (n:=8) (cs:=Sha.start.map i32) rfl (by simp[maxLen]) h) ?_
 refine go 6 ?_
 refine a0F (i0M rfl rfl (by rw[b0N,show(⟨#[128]⟩:ByteArray).size=1 from rfl];omega)) ?_
 rw[show bs s++(⟨#[128]⟩:ByteArray)=bs (s++128::a0T 0)from(i0X s [128]).symm]
 refine go 5 ?_
 refine b0S (X:= {j:Nat // j≤Sha.m0E s.length}) (fun y=> [(0,b0H s),(3,.slice (some ⟨b26,0,none⟩) 8 8),(4,b0H (s++128::a0T y.1))]) (fun y=> [c0E 3 1 (.slice (some ⟨b26,0,none⟩) 8 8) 8 (Sha.start.map i32),R]) (fun y=>Sha.m0E s.length-y.1) ⟨0,Nat.zero_le _⟩ gSu gSp ?_
 rintro⟨j,hj⟩ m0 hm0
 try simp only at hm0
 try dsimp only
 skip
 refine go 5 ?_
 rw[b0N,show(s++128::a0T j).length=s.length+1+j by simp[a0T];omega]
 refine go 4 ?_
 refine b0C rfl (fun hb32=> ?_) (fun hb32=> ?_)
 ·have hjl:j<Sha.m0E s.length:=by
   rw[←y1B s.length j hj]
   have h:=hb32
   simp only[bne_iff_ne,ne_eq]at h
   omega
  refine go 5 ?_
  refine a0F (i0M rfl rfl (by rw[b0N,show(⟨#[0]⟩:ByteArray).size=1 from rfl];simp[a0T];omega)) ?_
  rw[show bs (s++128::a0T j)++(⟨#[0]⟩:ByteArray)=bs (s++128::a0T (j+1)) by rw[show(⟨#[0]⟩:ByteArray)=bs [0]from rfl,←i0X,show s++128::a0T j++ [0]=s++128::a0T (j+1) by simp[a0T,List.replicate_succ']]]
  refine go 2 ?_
  refine b0Q (fun _ _ h=>h) (⟨j+1,hjl⟩) (by first|omega| (simp only;omega)) gSu gSp
 ·obtain rfl:j=Sha.m0E s.length:=by
   have h1: ¬(s.length+1+j)%64≠56:=by have h:=hb32;simp only[bne_eq_false_iff_eq]at h;omega
   rw[y1B s.length j hj]at h1
   omega
  refine go 7 ?_
  rw[hss]
  refine go 1 ?_
  rw[show(8:Int)*((s.length:Nat):Int)=((8*s.length:Nat):Int) by omega]
  refine a0D rfl Hb.o rfl (e1T (8*s.length) 8 (by omega) (by omega)) gSp ?_
  refine ns ?_
  refine a0F (i0M rfl rfl (by rw[b0N,b0N];simp[a0T,k0V];omega)) ?_
  rw[show bs (s++128::a0T (Sha.m0E s.length))++bs (k0V (8*s.length) 8)=bs p by rw[←i0X,f2Y,hp];unfold Sha.l0T a0T;simp]
  refine go 5 ?_
  refine a0W rfl Hb.o rfl (o1E) gSp ?_
  rintro v5 _
  refine ns ?_
  simp only[id]
  refine go 10 ?_
  refine b0S (X:= {x:Nat×List Sha.W // x.1≤tot∧x.2.length=8∧Sha.f0E tot Sha.start p=Sha.f0E (tot-x.1) x.2 (p.drop (64*x.1))}) (fun y=> [(3,.slice (some ⟨b26,0,none⟩) 8 8),(4,b0H p),(5,v5),(6,.int .i64 (64*(y.1.1:Int)))]) (fun y=> [c0E 3 1 (.slice (some ⟨b26,0,none⟩) 8 8) 8 (y.1.2.map i32),c0E 3 1 v5 64 (Sha.e0Q.map i32),R]) (fun y=>tot-y.1.1) ⟨(0,Sha.start),Nat.zero_le _,hsl,rfl⟩ gSu gSp ?_
  rintro⟨⟨m,h⟩,hm,hhl,hmx⟩ m2 hm2
  try simp only at hm2
  try dsimp only
  simp only at hm hhl hmx
  have hps:(bs p).size=p.length:=b0N p
  refine go 6 ?_
  rw[hps]
  refine go 3 ?_
  refine b0C rfl (fun hb45=> ?_) (fun hb45=> ?_)
  ·have hml:m<tot:=by have:=of_decide_eq_true hb45;omega
   obtain⟨blk,hblk⟩: ∃blk,blk=(p.drop (64*m)).take 64:=⟨_,rfl⟩
   have hbl:blk.length=64:=by rw[hblk,List.length_take,List.length_drop];omega
   obtain⟨ws,hws⟩: ∃ws,ws=Sha.j0Z blk:=⟨_,rfl⟩
   have hwl:ws.length=64:=by rw[hws];exact Sha.n1I blk
   have hrl:Sha.e0Q.length=64:=rfl
   refine go 10 ?_
   refine a0F (d1I Tst.o rfl rfl rfl (by omega)) ?_
   rw[show(bs p).extract (64*(m:Int)).toNat (64*(m:Int)+64).toNat=bs blk by rw[i1A,hblk,List.drop_take];congr 2<;>omega]
   refine a0W rfl Hb.o rfl (u1Z blk hbl) gSp ?_
   rintro v7 _
   refine ns ?_
   simp only[id]
   rw[←hws]
   refine go 7 ?_
   refine c0K (e0G (v:=n64 (Sha.at_ h 0)) Sc.o rfl gFd (h0P h 0 (by omega))) ?_
   refine go 2 ?_
   refine c0K (e0G (v:=n64 (Sha.at_ h 1)) Sc.o rfl gFd (h0P h 1 (by omega))) ?_
   refine go 2 ?_
   refine c0K (e0G (v:=n64 (Sha.at_ h 2)) Sc.o rfl gFd (h0P h 2 (by omega))) ?_
   refine go 2 ?_
   refine c0K (e0G (v:=n64 (Sha.at_ h 3)) Sc.o rfl gFd (h0P h 3 (by omega))) ?_
   refine go 2 ?_
   refine c0K (e0G (v:=n64 (Sha.at_ h 4)) Sc.o rfl gFd (h0P h 4 (by omega))) ?_
   refine go 2 ?_
   refine c0K (e0G (v:=n64 (Sha.at_ h 5)) Sc.o rfl gFd (h0P h 5 (by omega))) ?_
   refine go 2 ?_
   refine c0K (e0G (v:=n64 (Sha.at_ h 6)) Sc.o rfl gFd (h0P h 6 (by omega))) ?_
   refine go 2 ?_
   refine c0K (e0G (v:=n64 (Sha.at_ h 7)) Sc.o rfl gFd (h0P h 7 (by omega))) ?_
   refine go 17 ?_
   refine b0S (X:= {i:Nat // i≤64}) (fun y=> [(3,.slice (some ⟨b26,0,none⟩) 8 8),(4,b0H p),(5,v5),(6,.int .i64 (64*(m:Int))),(7,v7),(8,n64 (Sha.at_ (Sha.j0F ws h y.1) 0)),(9,n64 (Sha.at_ (Sha.j0F ws h y.1) 1)),(10,n64 (Sha.at_ (Sha.j0F ws h y.1) 2)),(11,n64 (Sha.at_ (Sha.j0F ws h y.1) 3)),(12,n64 (Sha.at_ (Sha.j0F ws h y.1) 4)),(13,n64 (Sha.at_ (Sha.j0F ws h y.1) 5)),(14,n64 (Sha.at_ (Sha.j0F ws h y.1) 6)),(15,n64 (Sha.at_ (Sha.j0F ws h y.1) 7)),(16,.int .i64 y.1)]) (fun y=> [c0E 3 1 (.slice (some ⟨b26,0,none⟩) 8 8) 8 (h.map i32),c0E 3 1 v5 64 (Sha.e0Q.map i32),c0E 3 1 v7 64 (ws.map i32),R]) (fun y=>64-y.1) ⟨0,Nat.zero_le _⟩ gSu gSp ?_
   rintro⟨i,hi⟩ m4 hm4
   try simp only at hm4
   try dsimp only
   skip
   refine go 7 ?_
   refine b0C rfl (fun hb79=> ?_) (fun hb79=> ?_)
   ·have hil:i<64:=by have:=of_decide_eq_true hb79;omega
    have hst:=f2Z ws h i
    obtain⟨va,hva⟩: ∃x,x=Sha.at_ (Sha.j0F ws h i) 0:=⟨_,rfl⟩
    obtain⟨vb,hvb⟩: ∃x,x=Sha.at_ (Sha.j0F ws h i) 1:=⟨_,rfl⟩
    obtain⟨vc,hvc⟩: ∃x,x=Sha.at_ (Sha.j0F ws h i) 2:=⟨_,rfl⟩
    obtain⟨vd,hvd⟩: ∃x,x=Sha.at_ (Sha.j0F ws h i) 3:=⟨_,rfl⟩
    obtain⟨ve,hve⟩: ∃x,x=Sha.at_ (Sha.j0F ws h i) 4:=⟨_,rfl⟩
    obtain⟨vf,hvf⟩: ∃x,x=Sha.at_ (Sha.j0F ws h i) 5:=⟨_,rfl⟩
    obtain⟨vg,hvg⟩: ∃x,x=Sha.at_ (Sha.j0F ws h i) 6:=⟨_,rfl⟩
    obtain⟨vz,hvz⟩: ∃x,x=Sha.at_ (Sha.j0F ws h i) 7:=⟨_,rfl⟩
    obtain⟨kk,hkk⟩: ∃x,x=Sha.at_ Sha.e0Q i:=⟨_,rfl⟩
    obtain⟨ww,hww⟩: ∃x,x=Sha.at_ ws i:=⟨_,rfl⟩
    unfold Sha.rnd at hst
    rw[←hva,←hvb,←hvc,←hvd,←hve,←hvf,←hvg,←hvz,←hkk,←hww]at hst
    rw[←hva,←hvb,←hvc,←hvd,←hve,←hvf,←hvg,←hvz]
    have l1:=(ve &&& vf).isLt
    have l2:=(~~~ve &&& vg).isLt
    refine go 8 ?_
    refine a0F (b1N rfl rfl) ?_
    refine go 1 ?_
    refine a0F (r2C rfl) ?_
    refine go 1 ?_
    refine a0F (b1N rfl rfl) ?_
    refine a0F (o1R (m:=((ve &&& vf).toNat:Int)) (n:=((~~~ve &&& vg).toNat:Int)) rfl rfl (by omega)) ?_
    obtain⟨ch,hch⟩: ∃x,x=(ve &&& vf ^^^ ~~~ve &&& vg):=⟨_,rfl⟩
    rw[i2X,←hch]
    refine go 7 ?_
    refine a0F (b1N rfl rfl) ?_
    refine go 2 ?_
    refine a0F (b1N rfl rfl) ?_
    refine a0F (z1O rfl rfl) ?_
    refine go 2 ?_
    refine a0F (b1N rfl rfl) ?_
    refine a0F (z1O rfl rfl) ?_
    obtain⟨mj,hmj⟩: ∃x,x=(va &&& vb ^^^ va &&& vc ^^^ vb &&& vc):=⟨_,rfl⟩
    rw[r2D,←hmj]
    refine go 4 ?_
    refine n0U (e:=3) (v:=v5) (show Fnd _ (c0E 3 1 v5 64 (Sha.e0Q.map i32)) _ from gFd) (by omega) fun bk capk hvk hcapk=> ?_
    subst hvk
    refine n0U (e:=3) (v:=v7) (show Fnd _ (c0E 3 1 v7 64 (ws.map i32)) _ from gFd) (by omega) fun bw capw hvw hcapw=> ?_
    subst hvw
    obtain⟨s1,hs1⟩: ∃x,x=Sha.t1 ve:=⟨_,rfl⟩
    have l3:=vz.isLt
    have l4:=s1.isLt
    have l5:=ch.isLt
    have l6:=kk.isLt
    have l7:=ww.isLt
    obtain⟨xx,hxx⟩: ∃x,x=vz+s1+ch+kk+ww:=⟨_,rfl⟩
    refine d0H (.soft 0 (.soft 1 (.soft 3 (.soft 6 (.soft 10 (.soft 12 (.soft 13 (.soft 14 (.soft 15 (.soft 17 (.soft 18 (.soft 19 (.soft 20 (.hard 2 (.hard 4 (.soft 5 (.hard 7 (.soft 8 (.soft 9 (.soft 11 (.soft 16 (.soft 21 (.hard 22 (.soft 23 .done)))))))))))))))))))))))) [c0E 3 1 (.slice (some ⟨bk,0,none⟩) 64 capk) 64 (Sha.e0Q.map i32),c0E 3 1 (.slice (some ⟨bw,0,none⟩) 64 capw) 64 (ws.map i32)] Fol.o (by kernel_rfl) (by repeat (first|with_reducible exact a0J.bp|with_reducible apply a0J.then|with_reducible apply a0J.inBlock)) gSp ?_
    refine go 8 ?_
    refine d0D rfl (e0G (v:=n64 kk) Sc.o rfl gFd (by rw[show 0+((i:Int)).toNat*1=i by omega,hkk];exact h0P Sha.e0Q i (by omega))) ?_
    refine go 3 ?_
    refine d0D rfl (e0G (v:=n64 ww) Sc.o rfl gFd (by rw[show 0+((i:Int)).toNat*1=i by omega,hww];exact h0P ws i (by omega))) ?_
    refine go 1 ?_
    refine a0D rfl Hb.o rfl (k0R ve 6 (by omega) (by omega)) gSp ?_
    refine ns ?_
    refine go 3 ?_
    refine a0D rfl Hb.o rfl (k0R ve 11 (by omega) (by omega)) gSp ?_
    refine ns ?_
    refine go 2 ?_
    refine d0D rfl (u0A rfl rfl) ?_
    refine go 1 ?_
    refine a0D rfl Hb.o rfl (k0R ve 25 (by omega) (by omega)) gSp ?_
    refine ns ?_
    refine go 2 ?_
    refine d0D rfl (show Sl.a0L _ _ _ _ (n64 s1)from hs1▸u0A rfl rfl) ?_
    refine go 5 ?_
    refine a0D rfl Hb.o rfl (w0L _ xx (by omega) (by rw[hxx];simp only[BitVec.toNat_add];omega)) gSp ?_
    refine ns ?_
    refine go 6 ?_
    obtain⟨s0,hs0⟩: ∃x,x=Sha.t0 va:=⟨_,rfl⟩
    have m1:=s0.isLt
    have m2:=mj.isLt
    obtain⟨yy,hyy⟩: ∃x,x=s0+mj:=⟨_,rfl⟩
    refine go 2 ?_
    refine a0D rfl Hb.o rfl (k0R va 2 (by omega) (by omega)) gSp ?_
    refine ns ?_
    refine go 1 ?_
    refine a0D rfl Hb.o rfl (k0R va 13 (by omega) (by omega)) gSp ?_
    refine ns ?_
    refine a0F (u0A rfl rfl) ?_
    refine go 1 ?_
    refine a0D rfl Hb.o rfl (k0R va 22 (by omega) (by omega)) gSp ?_
    refine ns ?_
    refine a0F (show Sl.a0L _ _ _ _ (n64 s0)from hs0▸u0A rfl rfl) ?_
    refine go 2 ?_
    refine a0D rfl Hb.o rfl (w0L _ yy (by omega) (by rw[hyy];simp only[BitVec.toNat_add];omega)) gSp ?_
    refine ns ?_
    refine go 3 ?_
    have q1:=vd.isLt
    have q2:=xx.isLt
    have q3:=yy.isLt
    refine go 7 ?_
    refine a0D rfl Hb.o rfl (w0L _ (vd+xx) (by omega) (by simp only[BitVec.toNat_add];omega)) gSp ?_
    refine ns ?_
    refine go 6 ?_
    refine a0D rfl Hb.o rfl (w0L _ (xx+yy) (by omega) (by simp only[BitVec.toNat_add];omega)) gSp ?_
    refine ns ?_
    refine go 15 ?_
    have hnx:Sha.j0F ws h (i+1)= [xx+yy,va,vb,vc,vd+xx,ve,vf,vg]:=by
     rw[hst,hxx,hyy,hs1,hs0,hch,hmj]
     simp only[List.cons.injEq,true_and,and_true]
     refine⟨?_,?_⟩<;>(apply BitVec.eq_of_toNat_eq;simp only[BitVec.toNat_add];omega)
    refine b0Q (fun _ _ h=>h) (⟨i+1,hil⟩) (by first|omega| (simp only;omega)) (by rw[hnx];exact gSu) gSp
   ·obtain rfl:i=64:=by have:=of_decide_eq_false hb79;omega
    obtain⟨v,hv⟩: ∃v,v=Sha.j0F ws h 64:=⟨_,rfl⟩
    have hvl:v.length=8:=by rw[hv];exact r1C ws h hhl 64
    rw[←hv]
    refine go 12 ?_
    refine(b0P Tsl.o Zr.o rfl rfl rfl (by simp[d0B,d0K,Value.cells]<;>rfl) (fun b157=> ?_))
    refine e0Y (fun w h=>z0J (n:=8) (cs:= [n64 (Sha.at_ v 0),n64 (Sha.at_ v 1),n64 (Sha.at_ v 2),n64 (Sha.at_ v 3),n64 (Sha.at_ v 4),n64 (Sha.at_ v 5),n64 (Sha.at_ v 6),n64 (Sha.at_ v 7)]) rfl (by simp[maxLen]) h) ?_
    rw[show [n64 (Sha.at_ v 0),n64 (Sha.at_ v 1),n64 (Sha.at_ v 2),n64 (Sha.at_ v 3),n64 (Sha.at_ v 4),n64 (Sha.at_ v 5),n64 (Sha.at_ v 6),n64 (Sha.at_ v 7)]=v.map i32 from(l2F hvl).symm]
    refine go 5 ?_
    refine b0S (X:= {i:Nat // i≤8}) (fun y=> [(3,.slice (some ⟨b26,0,none⟩) 8 8),(4,b0H p),(5,v5),(6,.int .i64 (64*(m:Int))),(157,.slice (some ⟨b157,0,none⟩) 8 8),(158,.int .i64 8),(159,.int .i64 y.1)]) (fun y=> [c0E 3 1 (.slice (some ⟨b26,0,none⟩) 8 8) 8 (((List.zipWith (· + ·) h v).take y.1++h.drop y.1).map i32),c0E 3 1 (.slice (some ⟨b157,0,none⟩) 8 8) 8 (v.map i32),c0E 3 1 v5 64 (Sha.e0Q.map i32),R]) (fun y=>8-y.1) ⟨0,Nat.zero_le _⟩ gSu gSp ?_
    rintro⟨i,hi⟩ m6 hm6
    try simp only at hm6
    try dsimp only
    skip
    refine go 6 ?_
    refine b0C rfl (fun hb160=> ?_) (fun hb160=> ?_)
    ·have hil:i<8:=by have:=of_decide_eq_true hb160;omega
     have r1:=(Sha.at_ h i).isLt
     have r2:=(Sha.at_ v i).isLt
     refine go 8 ?_
     refine a0F (e0G (v:=n64 (Sha.at_ v i)) Sc.o rfl (show Fnd _ (c0E 3 1 (.slice (some ⟨b157,0,none⟩) 8 8) 8 (v.map i32)) _ from gFd) (by rw[show 0+((i:Int)).toNat*1=i by omega];exact h0P v i (by omega))) ?_
     refine go 10 ?_
     refine a0F (e0G (v:=n64 (Sha.at_ h i)) Sc.o rfl (show Fnd _ (c0E 3 1 (.slice (some ⟨b26,0,none⟩) 8 8) 8 (((List.zipWith (· + ·) h v).take i++h.drop i).map i32)) _ from gFd) (by rw[show 0+((i:Int)).toNat*1=i by omega];exact r2U hhl hvl hil)) ?_
     refine go 2 ?_
     refine a0D rfl Hb.o rfl (w0L _ (Sha.at_ h i+Sha.at_ v i) (by omega) (by simp only[BitVec.toNat_add];omega)) gSp ?_
     refine ns ?_
     refine go 1 ?_
     refine e1K (xs':=((List.zipWith (· + ·) h v).take (i+1)++h.drop (i+1)).map i32) Sz.o rfl rfl rfl (show Fnd _ (c0E 3 1 (.slice (some ⟨b26,0,none⟩) 8 8) 8 (((List.zipWith (· + ·) h v).take i++h.drop i).map i32)) _ from gFd) (by rw[show 0+((i:Int)).toNat*1=i by omega];simp;omega) (by rw[show 0+((i:Int)).toNat*1=i by omega,←l2E hhl hvl hil,List.map_set];rfl) ?_
     refine go 6 ?_
     refine b0Q (fun _ _ h=>h) (⟨i+1,hil⟩) (by first|omega| (simp only;omega)) gSu gSp
    ·obtain rfl:i=8:=by have:=of_decide_eq_false hb160;omega
     have hmix:(List.zipWith (· + ·) h v).take 8++h.drop 8=Sha.mix h blk:=by
      rw[List.take_of_length_le (by rw[List.length_zipWith];omega),List.drop_of_length_le (by omega),List.append_nil,hv,hws];rfl
     rw[hmix]
     refine go 5 ?_
     rw[show 64*(m:Int)+64=64*((m+1:Nat):Int) by omega]
     refine go 2 ?_
     refine b0Q (fun _ _ h=>h) (⟨(m+1,Sha.mix h blk),hml,by(show(Sha.mix h blk).length=8);exact x1H hhl blk,by(show _=Sha.f0E (tot- (m+1)) (Sha.mix h blk) (p.drop (64*(m+1))));rw[hmx,show tot-m=tot- (m+1)+1 by omega,b2I,←hblk,List.drop_drop];rfl⟩) (by first|omega| (simp only;omega)) gSu gSp
  ·obtain rfl:m=tot:=by have:=of_decide_eq_false hb45;omega
   have hfin:Sha.f0E m Sha.start p=h:=by rw[hmx,Nat.sub_self];rfl
   rw[hfin]at hsum
   refine go 16 ?_
   refine b0S (X:= {i:Nat // i≤8}) (fun y=> [(23,b0H ((h.take y.1).flatMap Sha.be4)),(175,.slice (some ⟨b26,0,none⟩) 8 8),(176,.int .i64 8),(177,.int .i64 y.1)]) (fun y=> [c0E 3 1 (.slice (some ⟨b26,0,none⟩) 8 8) 8 (h.map i32),R]) (fun y=>8-y.1) ⟨0,Nat.zero_le _⟩ gSu gSp ?_
   rintro⟨i,hi⟩ m8 hm8
   try simp only at hm8
   try dsimp only
   skip
   refine go 6 ?_
   refine b0C rfl (fun hb178=> ?_) (fun hb178=> ?_)
   ·have hil:i<8:=by have:=of_decide_eq_true hb178;omega
    have r1:=(Sha.at_ h i).isLt
    have hfl4:((h.take i).flatMap Sha.be4).length≤32:=by
     have: ∀l:List Sha.W,(l.flatMap Sha.be4).length=4*l.length:=fun l=>by
      induction l with
      |nil=>rfl
      |cons x l ih=>rw[List.flatMap_cons,List.length_append,ih,List.length_cons];show 4+_=_;omega
     rw[this,List.length_take];omega
    refine go 7 ?_
    refine a0F (e0G (v:=n64 (Sha.at_ h i)) Sc.o rfl gFd (by rw[show 0+((i:Int)).toNat*1=i by omega];exact h0P h i (by omega))) ?_
    refine go 6 ?_
    refine a0D rfl Hb.o rfl (e1T (Sha.at_ h i).toNat 4 (by omega) (by omega)) gSp ?_
    refine ns ?_
    refine a0F (i0M rfl rfl (by rw[b0N,b0N,show(k0V (Sha.at_ h i).toNat 4).length=4 by simp[k0V]];omega)) ?_
    rw[←i0X,f2X,show(h.take i).flatMap Sha.be4++Sha.be4 (Sha.at_ h i)=(h.take (i+1)).flatMap Sha.be4 by rw[List.take_succ,List.getElem?_eq_getElem (by omega),List.flatMap_append];simp[Sha.at_,List.getD_eq_getElem?_getD,List.getElem?_eq_getElem (show i<h.length by omega)]]
    refine go 7 ?_
    refine b0Q (fun _ _ h=>h) (⟨i+1,hil⟩) (by first|omega| (simp only;omega)) gSu gSp
   ·obtain rfl:i=8:=by have:=of_decide_eq_false hb178;omega
    rw[List.take_of_length_le (by omega),←hsum]
    refine go 8 ?_
    refine b0V (fun _ _ h=>h) rfl rfl gSp
end
end Go.Proofs.Q
namespace Go.Sb
abbrev Lf:=Int×B
def g0R (at_:Int):List Lf→B
 | []=>a0T 256
 | (a,d)::r=>if a=at_ then d else g0R at_ r
def o0L (at_:Int) (d:B):Bool→List Lf→List Lf
 |done,[]=>if done then []else [(at_,d)]
 |done,(a,x)::r=>(if done=false∧at_<a then [(at_,d)]else [])++(if a=at_ then []else [(a,x)])++o0L at_ d (done || decide (at_<a)) r
def j0O (m:List Lf) (at_:Int) (d:B):List Lf:=o0L at_ d (b0B d) m
def g0Q (m:List Lf) (f t:Int):List Lf:=m.filter fun x=>decide (x.1<f∨t≤x.1)
structure Vp where
 id:Int
 parent:Int
 only:Bool
 size:Int
 born:Int
 m:List Lf
structure Rp where
 l:List Vp
 next:Int
 bits:Nat
 epoch:Int
def d0E (l:List Vp) (id:Int):Option Nat:=l.findIdx? fun v=>v.id == id
def c1R (l:List Vp) (id:Int):Int:=match d0E l id with|some i=>i|none=> -1
def v0:Vp:= {id:=0,parent:=0,only:=false,size:=0,born:=0,m:= []}
def i0J (c:Rp) (v:Vp):Rp×Int×Int:=if 15<c.l.length then(c,0,13)else
 ({c with l:=c.l++ [{v with id:=c.next,born:=c.epoch}],next:=c.next+1},c.next,0)
def f0G (c:Rp) (size:Int):Rp×Int×Int:=if size<1∨2048<size then(c,0,4)else i0J c {v0 with size:=size}
def j0E (c:Rp) (id:Int) (only:Bool):Rp×Int×Int:=match d0E c.l id with
 |none=>(c,0,5)
 |some i=>i0J c {v0 with parent:=id,only:=only,size:=(c.l.getD i v0).size,m:=(c.l.getD i v0).m}
def h0Q (c:Rp) (id:Int):Rp×Int:=match d0E c.l id with
 |none=>(c,5)
 |some i=>({c with l:=c.l.eraseIdx i},0)
def o0A (v:Vp) (at_ n:Int):Bool:=decide (at_<0∨n<0∨v.size<at_∨v.size-at_<n)
def k0B (m:List Lf) (at_:Nat):Nat→B
 |0=> []
 |n+1=>k0B m at_ n++((g0R ((at_+n)/4:Nat) m).drop ((at_+n)%4*64)).take 64
def o0M (c:Rp) (id at_ n:Int):B×Int:=match d0E c.l id with
 |none=>([],5)
 |some i=>if o0A (c.l.getD i v0) at_ n then([],6)else(k0B (c.l.getD i v0).m at_.toNat n.toNat,0)
def o0U (c:Rp) (data:B):Bool:=c.l.any fun v=>v.m.any fun x=>decide (x.2≠data∧key c.bits (Sha.sum x.2)=key c.bits (Sha.sum data))
def d0R (c:Rp) (i:Nat) (m:List Lf):Rp:= {c with l:=c.l.set i {c.l.getD i v0 with m:=m}}
def a1L (was data:B) (f n:Nat):B:=was.take f++data.take n++was.drop (f+n)
def d0L (i:Nat):Nat→Rp→Nat→B→Rp×Int
 |0,c,_,_=>(c,0)
 |k+1,c,at_,data=>if data= []then(c,0)else
  let was:=g0R (at_/4:Nat) (c.l.getD i v0).m;let f:=at_%4*64;let n:=min data.length (256-f)
  let now:=a1L was data f n
  if now≠was∧b0B now=false∧o0U c now=true then(c,9)else
  d0L i k (d0R c i (j0O (c.l.getD i v0).m (at_/4:Nat) now)) (at_+n/64) (data.drop n)
def k0C (c:Rp) (id at_:Int) (data:B):Rp×Int:=match d0E c.l id with
 |none=>(c,5)
 |some i=>if(c.l.getD i v0).only then(c,7)else if data.length%64≠0 then(c,4)else if o0A (c.l.getD i v0) at_ (data.length/64:Nat)then(c,6)else
  let r:=d0L i data.length c at_.toNat data
  if r.2≠0 then(c,r.2)else(r.1,0)
def e0C (c:Rp) (i from_ upto:Nat):Rp×Int:=
 let a:=(from_+3)/4;let b:=upto/4
 if b≤a then d0L i ((upto-from_)*64) c from_ (a0T ((upto-from_)*64))else
 let r:=d0L i ((4*a-from_)*64) c from_ (a0T ((4*a-from_)*64))
 if r.2≠0 then(c,r.2)else
 let x:=d0R r.1 i (g0Q (r.1.l.getD i v0).m a b)
 let y:=d0L i ((upto-4*b)*64) x (4*b) (a0T ((upto-4*b)*64))
 if y.2≠0 then(c,y.2)else(y.1,0)
def m0M (c:Rp) (id at_ n:Int):Rp×Int:=match d0E c.l id with
 |none=>(c,5)
 |some i=>if(c.l.getD i v0).only then(c,7)else if o0A (c.l.getD i v0) at_ n then(c,6)else e0C c i at_.toNat (at_+n).toNat
def h0R (c:Rp) (id size:Int):Rp×Int:=match d0E c.l id with
 |none=>(c,5)
 |some i=>if(c.l.getD i v0).only then(c,7)else if size<1∨2048<size then(c,4)else
  let r:=if size<(c.l.getD i v0).size then e0C c i size.toNat (c.l.getD i v0).size.toNat else(c,0)
  if r.2≠0 then(c,r.2)else({r.1 with l:=r.1.l.set i {r.1.l.getD i v0 with size:=size}},0)
end Go.Sb
namespace Go.Proofs.Q
open Go.Sl Go.Sb
section
def hb (x k:Nat):Nat→Nat
 |0=>0
 |b+1=>2*hb x k b+(if k≤b then 0 else x/2^(7-b)%2)
theorem b2J (x k:Nat): ∀b,hb x k b<2^b
 |0=>Nat.one_pos
 |b+1=>by
  have:=b2J x k b
  unfold hb
  rw[Nat.pow_succ]
  split<;>omega
theorem p2S: ∀k,k<8→ ∀x,x<256→hb x k 8=(UInt8.ofNat x &&& UInt8.ofNat (255-255/2^k)).toNat:=by decide+kernel
theorem r2V: ∀x,x<256→hb x 8 8=x:=by decide+kernel
theorem m2S (x k:Nat) (h:8≤k): ∀b,b≤8→hb x k b=hb x 8 b
 |0,_=>rfl
 |b+1,hb8=>by
  unfold hb
  rw[m2S x k h b (by omega),if_neg (by omega),if_neg (by omega)]
theorem g2A (n i:Nat) (c:UInt8):(UInt8.ofNat (hb c.toNat (n-8*i) 8))=if n<8*i+8 then c &&& UInt8.ofNat (255-255/2^(n-8*i))else c:=by
 have hc:=c.toNat_lt
 apply UInt8.toNat_inj.1
 rw[UInt8.toNat_ofNat',Nat.mod_eq_of_lt (b2J _ _ 8)]
 split
 ·rw[p2S _ (by omega) _ (by omega),UInt8.ofNat_toNat]
 ·rw[m2S _ _ (by omega) 8 (by omega),r2V _ (by omega)]
theorem g2B (n:Nat) (l:B) (i:Nat) (h:i<l.length):(d0F n l).take (i+1)=(d0F n l).take i++ [UInt8.ofNat (hb l[i].toNat (n-8*i) 8)]:=by
 have hl:(d0F n l).length=l.length:=by simp[d0F]
 rw[List.take_succ,List.getElem?_eq_getElem (by omega),g2A]
 simp[d0F]
attribute [local irreducible] Sl.a0L Sl.OW Sl.CW Sl.OS Sl.OM Sl.OMf Sl.KM
theorem b2K (l:B) (n:Nat) (hl:l.length≤10000) (hn:n≤256):a0S Tryz.prog 261 #[b0H l,.int .i64 n] [] (b0G (b0H (d0F n l)) []):=by
 have hbl:(d0F n l).length=l.length:=by simp[d0F]
 have hls:(bs l).size=l.length:=b0N l
 refine a0C Tryz.func261 rfl Tryz.ntmps261 rfl (fun R w0=> ?_)
 simp only[a0N,List.cons_append,List.nil_append]
 refine go 7 ?_
 refine(b0P Tsl.o Zr.o rfl rfl rfl (by simp[d0B,d0K,Value.cells]<;>rfl) (fun b10=> ?_))
 refine go 5 ?_
 refine c0S (fun w h=>p0O 1 h) ?_
 refine go 5 ?_
 refine b0S (X:= {x:Nat×Value // x.1≤l.length}) (fun y=> [(0,b0H l),(1,.int .i64 n),(5,y.1.2),(6,.int .i64 y.1.1)]) (fun y=> [c0E 5 1 y.1.2 y.1.1 (((d0F n l).take y.1.1).map a0Z),R]) (fun y=>l.length-y.1.1) ⟨(0,.slice (some ⟨b10,0,none⟩) 0 0),Nat.zero_le _⟩ gSu gSp ?_
 rintro⟨⟨i,v⟩,hi⟩ m0 hm0
 try simp only at hm0
 try dsimp only
 simp only at hi
 refine go 6 ?_
 rw[hls]
 refine go 3 ?_
 refine b0C rfl (fun hb14=> ?_) (fun hb14=> ?_)
 ·have hil:i<l.length:=by have:=of_decide_eq_true hb14;omega
  refine go 16 ?_
  refine b0S (X:= {b:Nat // b≤8}) (fun y=> [(0,b0H l),(1,.int .i64 n),(5,v),(6,.int .i64 i),(7,.int .i64 (hb l[i].toNat (n-8*i) y.1)),(8,.int .i64 y.1)]) (fun y=> [c0E 5 1 v i (((d0F n l).take i).map a0Z),R]) (fun y=>8-y.1) ⟨0,by decide⟩ gSu gSp ?_
  rintro⟨b,hb8⟩ m2 hm2
  try simp only at hm2
  try dsimp only
  skip
  refine go 7 ?_
  refine b0C rfl (fun hb18=> ?_) (fun hb18=> ?_)
  ·have hbl8:b<8:=by have:=of_decide_eq_true hb18;omega
   have hc:=(l[i]).toNat_lt
   have hhb:=b2J l[i].toNat (n-8*i) b
   have hhb2:(2:Nat)^b≤2^7:=Nat.pow_le_pow_right (by decide) (by omega)
   have hu:(bs l).data.toList[i]? =some l[i]:=by rw[l0B,List.getElem?_eq_getElem hil]
   have hsh:((l[i].toNat:Nat):Int)/2^((7:Int)- (b:Int)).toNat=((l[i].toNat/2^(7-b):Nat):Int):=by rw[show((7:Int)- (b:Int)).toNat=7-b by omega];norm_cast
   refine go 8 ?_
   refine a0F (h1E Tst.o rfl rfl (by omega) (u:=l[i]) hu) ?_
   refine go 1 ?_
   rw[e1U]
   refine go 2 ?_
   refine a0F (t0L rfl rfl (by first|decide| (simp only[IntKind.bits];omega))) ?_
   rw[hsh]
   refine a0F (h1A rfl rfl ⟨Int.natCast_nonneg _,by decide⟩) ?_
   refine go 3 ?_
   refine r0A (X:=Unit) (fun _=> [(0,b0H l),(1,.int .i64 n),(5,v),(6,.int .i64 i),(7,.int .i64 (hb l[i].toNat (n-8*i) b)),(8,.int .i64 b),(9,.int .i64 ((if n-8*i≤b then 0 else l[i].toNat/2^(7-b)%2:Nat):Int))]) (fun _=> [c0E 5 1 v i (((d0F n l).take i).map a0Z),R]) ?_ ?_
   ·refine go 10 ?_
    refine b0C rfl (fun hb34=> ?_) (fun hb34=> ?_)
    ·have hle:n-8*i≤b:=by have h:=hb34;simp only[decide_eq_true_eq]at h;omega
     rw[if_pos hle]
     refine go 3 ?_
     refine i0D (fun _ _ h=>h) (()) gSu gSp
    ·have hle: ¬n-8*i≤b:=by have h:=hb34;simp only[decide_eq_false_iff_not]at h;omega
     rw[if_neg hle]
     refine go 1 ?_
     refine i0D (fun _ _ h=>h) (()) gSu gSp
   rintro _
   obtain⟨bt,hbt⟩: ∃bt:Nat,bt=if n-8*i≤b then 0 else l[i].toNat/2^(7-b)%2:=⟨_,rfl⟩
   have hbt2:bt≤1:=by rw[hbt];split<;>omega
   rw[←hbt]
   refine go 5 ?_
   rw[show(2:Int)*((hb l[i].toNat (n-8*i) b:Nat):Int)+(bt:Int)=((hb l[i].toNat (n-8*i) (b+1):Nat):Int) by rw[hbt];show _=((2*hb l[i].toNat (n-8*i) b+_:Nat):Int);omega]
   refine go 8 ?_
   refine b0Q (fun _ _ h=>h) (⟨b+1,hbl8⟩) (by first|omega| (simp only;omega)) gSu gSp
  ·obtain rfl:b=8:=by have:=of_decide_eq_false hb18;omega
   obtain⟨u,hu⟩: ∃u,u=UInt8.ofNat (hb l[i].toNat (n-8*i) 8):=⟨_,rfl⟩
   have hwr:IntKind.u8.wrap ((hb l[i].toNat (n-8*i) 8:Nat):Int)=(u.toNat:Int):=by rw[hu,IntKind.wrap_u8,UInt8.toNat_ofNat'];omega
   refine go 6 ?_
   rw[hwr]
   refine(b0P Tsl.o Zr.o rfl rfl rfl (by simp[d0B,d0K,Value.cells]<;>rfl) (fun b42=> ?_))
   refine(e0F Tsl.o Ttb.o Zr.o rfl rfl rfl gFd (h0O Tsl.o (by simp;rfl) (by simp) (by simp[Value.oneCell'])) (by simp only[maxLen];omega) (by omega) (fun v43 hv43=> ?_))
   refine go 2 ?_
   rw[show((d0F n l).take i).map a0Z++ [Value.int .u8 (u.toNat:Int)]=((d0F n l).take (i+1)).map a0Z by rw[g2B n l i hil,←hu];simp[a0Z]]
   refine go 6 ?_
   refine b0Q (fun _ _ h=>h) (⟨(i+1,v43),hil⟩) (by first|omega| (simp only;omega)) gSu gSp
 ·obtain rfl:i=l.length:=by have:=of_decide_eq_false hb14;omega
  rw[List.take_of_length_le (by omega)]
  refine go 5 ?_
  refine a0F (w0Z Tsl.o Tst.o Tby.o rfl gFd) ?_
  refine go 3 ?_
  refine b0V (fun _ _ h=>h) rfl rfl gSp
end
end Go.Proofs.Q
