/- Part of the proof; no statement of its own. -/
import Derived.Test.YtpinhnikemamjaaGreatDoorB33
import Derived.Test.YtpinhnikemamjaaGreatDoorB16
import Derived.Test.YtpinhnikemamjaaGreatDoorB07
import Derived.Test.YtpinhnikemamjaaGreatDoorB08
import Derived.Test.YtpinhnikemamjaaGreatDoorB04
import Derived.ChangeArms
import Derived.DataReads
import Derived.Test.YtpinhnikemamjaaGreatDoorB31
set_option linter.all false
set_option maxRecDepth 4000
set_option maxHeartbeats 4000000
namespace Go.Sb
section
def rp0 (bits:Nat):Rp:= {l:= [],next:=1,bits:=bits,epoch:=1}
theorem t2J:J (j0U (g0G (2498+2)) 2 256 1) [] (rp0 256):=
 ⟨CI.new (n:=2498) (bits:=256) (by omega),rfl,by decide,rfl,rfl,rfl,List.Pairwise.nil,fun v hv=>(by cases hv),fun v hv=>(by cases hv),fun p hp=>(by cases hp)⟩
theorem q2J:Bud 0 (j0U (g0G (2498+2)) 2 256 1) (rp0 256):=
 ⟨0,0,Nat.le_refl _,fun v hv=>(by cases hv),by have h:=t1G 2498 256;omega⟩
theorem n1Z (P:Rp) (v:Vp):(i0J P v).1.bits=P.bits:=by unfold i0J;split<;>rfl
theorem w1E (P:Rp) (n:Int):(f0G P n).1.bits=P.bits:=by
 unfold f0G;split
 ·rfl
 ·exact n1Z _ _
theorem h2Q (P:Rp) (id:Int) (o:Bool):(j0E P id o).1.bits=P.bits:=by
 unfold j0E;split
 ·rfl
 ·exact n1Z _ _
theorem w1F (P:Rp) (id:Int):(h0Q P id).1.bits=P.bits:=by unfold h0Q;split<;>rfl
theorem d2D (id at_:Int) (data:B) (P:Rp):(k0C P id at_ data).1.bits=P.bits:=by
 cases hf:d0E P.l id with
 |none=>unfold k0C;rw[hf]
 |some i=>
  obtain⟨hi,_⟩:=k0Y hf
  rw[x0S hf]
  repeat' split
  all_goals first|rfl| (simp only;obtain⟨m,e⟩:=n0K i data.length P at_.toNat data hi;rw[e];rfl)
theorem h2R (id at_ n:Int) (P:Rp):(m0M P id at_ n).1.bits=P.bits:=by
 cases hf:d0E P.l id with
 |none=>unfold m0M;rw[hf]
 |some i=>
  obtain⟨hi,_⟩:=k0Y hf
  rw[a1V hf]
  repeat' split
  all_goals first|rfl| (obtain⟨m,e⟩:=m0V i P at_.toNat (at_+n).toNat hi;rw[e];rfl)
theorem w1G (id n:Int) (P:Rp):(h0R P id n).1.bits=P.bits:=by
 cases hf:d0E P.l id with
 |none=>unfold h0R;rw[hf]
 |some i=>
  obtain⟨hi,_⟩:=k0Y hf
  rw[v0B hf]
  have:(k0N P i n).1.bits=P.bits:=by
   unfold k0N
   split
   ·obtain⟨m,e⟩:=m0V i P n.toNat (P.l.getD i v0).size.toNat hi;rw[e];rfl
   ·rfl
  repeat' split
  all_goals first|rfl|exact this
theorem v0S {P Q R:Rp} {p:Prop} [Decidable p] (h:Q=if p then R else P) (hb:R.bits=P.bits):Q.bits=P.bits:=by
 rw[h];split
 ·exact hb
 ·rfl
theorem l1O.bits_ {k:Nat} {id at_ n e:Int} {data:B} {s t:St} {P Q:Rp} (h:l1O k id at_ n data s P e t Q) (hk:k<14):Q.bits=P.bits:=by
 have hcase:k=0∨(k=1∨k=2)∨k=3∨k=4∨(4<k∧k<9)∨(k=9∨k=10)∨k=11∨k=12∨k=13:=by omega
 rcases hcase with hk|hk|hk|hk|hk|hk|hk|hk|hk
 ·obtain⟨_,_,_,_,_,h5⟩:=h.k0 hk;exact v0S h5 (w1E _ _)
 ·obtain⟨_,_,_,_,_,h5⟩:=h.k1 hk;exact v0S h5 (h2Q _ _ _)
 ·exact v0S (h.k3 hk).2.2 (w1F _ _)
 ·exact v0S (h.k4 hk).2.2 (w1G _ _ _)
 ·exact v0S (h.k5 hk).2.2 (d2D _ _ _ _)
 ·exact v0S (h.k9 hk).2.2 (h2R _ _ _ _)
 ·rw[(h.k11 hk).2.2]
 ·rw[(h.k12 hk).2.2]
 ·rw[(h.k13 hk).2.2]
section
variable {s:St} {G:Gh} {P:Rp}
theorem J.digest (h:J s G P) {v:Vp} (hv:v∈P.l): ∃d:B,d.length=32∧t0W v.id s=(.ok (d,0),s)∧(∃x,a0H v.id s.vols=some x∧x.size=v.size∧x.only=v.only)∧
 ∀ {t:St} {G':Gh} {Q:Rp},J t G' Q→v∈Q.l→t0W v.id t=(.ok (d,0),t):=by
 obtain⟨x,hx,hr⟩:=h.vol v hv
 have hk:=h.ci.kid _ (h.ci.mem hx)
 refine⟨f0I G x.root,?_,h.sum hx,⟨x,hx,hr.size,hr.only⟩,fun {t G' Q} h' hv'=> ?_⟩
 ·unfold f0I
  rcases hk with h0| ⟨ks,sm,ho⟩
  ·have h0:x.root=0:=h0
   rw[h0,h.ci.inv.zero];simp[a0T]
  ·have ho:a0H x.root G=some (.node 2 ks sm):=ho
   rw[ho]
   simp only
   rw[(h.ci.inv.typ _ _ ho).2.2.2.2];exact u0U _ _
 ·obtain⟨y,hy,hr'⟩:=h'.vol v hv'
  rw[h'.sum hy]
  have he:b0D G x.root=b0D G' y.root:=by
   funext j
   rw[hr.map.eq,hr'.map.eq]
  rw[h.ci.inv.sumMap h'.ci.inv hk (h'.ci.kid _ (h'.ci.mem hy)) he]
theorem J.digests (h:J s G P): ∃D:Vp→B,∀v∈P.l,(D v).length=32∧t0W v.id s=(.ok (D v,0),s)∧(∃x,a0H v.id s.vols=some x∧x.size=v.size∧x.only=v.only)∧
 ∀ {t:St} {G':Gh} {Q:Rp},J t G' Q→v∈Q.l→t0W v.id t=(.ok (D v,0),t):=by
 classical
 exact⟨fun v=>if hv:v∈P.l then Classical.choose (h.digest hv)else [],fun v hv=>by simp only[dif_pos hv];exact Classical.choose_spec (h.digest hv)⟩
theorem J.sized (h:J s G P): ∀v∈P.l,0≤v.size∧v.size≤2048:=fun v hv=>by
 obtain⟨x,hx,hr⟩:=h.vol v hv
 have:=h.size hx
 have:=hr.size
 omega
end
end
end Go.Sb
namespace Go.Proofs.Q
open Go.Sl Go.Sb
structure AP where
 ki:Int
 ai:Int
 at_:Int
 n:Int
 l:B
def m2K (x:AP):List Value:= [.int .i64 x.ki,.int .i64 x.ai,.int .i64 x.at_,.int .i64 x.n,b0H x.l]
def h2S (W:World) (v:Value) (acts:List AP):Prop:= ∃(p:Option Addr) (cap:Nat),v= .slice p acts.length cap∧acts.length≤maxLen∧ ∀i (h:i<acts.length),∃a,p=some a∧ ∀q u,(m2K acts[i])[q]? =some u→W.cell? ((a.add (i*5)).add q)=some u
structure CA (n:Nat) (x:Nat×St×Gh×Rx×b0J):Prop where
 le:x.1≤n
 i12:x.1≤12
 j:J x.2.1 x.2.2.1 (er x.2.2.2.1)
 bud:Bud x.1 x.2.1 (er x.2.2.2.1)
 next:x.2.2.2.1.next≤1+x.1
 bits:x.2.2.2.1.bits≤256
 core:d0M x.2.2.2.2 x.2.2.2.1
def c0x:Rx:= {lv:= .slice none 0 0,l:= [],next:=1,bits:=256,epoch:=1}
theorem t2K:d0M [] c0x:=⟨h1T _ _ _,fun x hx=>(by cases hx),by decide⟩
theorem y1V {W:World} {s t:St} {id:Int} {p:B×Int} (h:t0W id s=(.ok p,t)) (a:Ad):a0S Tryz.prog 13 #[ptr a.core,.int .u32 id] (RS W a s) (b0G (m2W p) (RS W a t)):=by
 have k:=h2A W a s id (by rw[h];simp)
 rw[h]at k;exact k.ran_ok
def q0O (D:Vp→B) (l:List Vx):List (Int×B):=l.map fun v=>(v.v.id,D v.v)
theorem h2T {D:Vp→B} {l:List Vx} {id:Int} (h: ∀v∈l,v.v.id≠id):a0H id (q0O D l)=none:=by
 cases e:a0H id (q0O D l)with
 |none=>rfl
 |some d=>
  have: ∀m:List (Int×B),a0H id m=some d→(id,d)∈m:=fun m=>by
   induction m with
   |nil=>intro h;cases h
   |cons x m ih=>
    intro h
    obtain⟨j,u⟩:=x
    rw[d0P]at h
    split at h
    ·rename_i e1;cases h;subst e1;exact List.mem_cons_self
    ·exact List.mem_cons_of_mem _ (ih h)
  obtain⟨v,hv,he⟩:=List.mem_map.1 (this _ e)
  simp only[Prod.mk.injEq]at he
  exact(h v hv he.1).elim
theorem h2U {D:Vp→B} {l:List Vx} {j:Nat} (hj:j<l.length) (ho:(l.map (·.v)).Pairwise fun a b=>a.id<b.id):c0F l[j].v.id (D l[j].v) (q0O D (l.take j))=q0O D (l.take (j+1)):=by
 rw[g1S,List.take_succ,List.getElem?_eq_getElem hj]
 ·unfold q0O;rw[List.map_append];rfl
 ·refine h2T fun v hv=> ?_
  obtain⟨k,hk,rfl⟩:=List.mem_iff_getElem.1 hv
  rw[List.length_take]at hk
  rw[List.getElem_take]
  have:=List.pairwise_iff_getElem.1 ho k j (by simp;omega) (by simpa using hj) (by omega)
  simp only[List.getElem_map]at this
  omega
theorem t1V {D:Vp→B} : ∀ {l:List Vx} {j:Nat} (hj:j<l.length),((l.map (·.v)).Pairwise fun a b=>a.id<b.id)→a0H l[j].v.id (q0O D l)=some (D l[j].v)
 |x::l,0,_,_=>by show a0H x.v.id ((x.v.id,D x.v)::q0O D l)=_;rw[d0P,if_pos rfl];rfl
 |x::l,j+1,hj,ho=>by
  rw[List.map_cons]at ho
  obtain⟨h1,h2⟩:=List.pairwise_cons.1 ho
  have hj':j<l.length:=by simpa using hj
  have:=h1 l[j].v (List.mem_map.2 ⟨_,List.getElem_mem hj',rfl⟩)
  show a0H l[j].v.id ((x.v.id,D x.v)::q0O D l)=_
  rw[d0P,if_neg (by omega)]
  exact t1V hj' h2
theorem s2I (w:Option B):(w.map b0H).getD (.string ⟨#[]⟩)=b0H (w.getD []):=by cases w<;>rfl
section
structure CB (x:St×Gh×Rx×b0J):Prop where
 j:J x.1 x.2.1 (er x.2.2.1)
 bud:Bud 12 x.1 (er x.2.2.1)
 next:x.2.2.1.next≤13
 bits:x.2.2.1.bits≤256
 core:d0M x.2.2.2 x.2.2.1
theorem t1W {i j:Nat} {s:St} {P:Rp} (h:Bud i s P) (hij:i≤j):Bud j s P:=by
 obtain⟨w,t,h1,h2,h3⟩:=h
 exact⟨w,t,by omega,h2,h3⟩
theorem h2V {s:St} {G:Gh} {c:Rx} (h:J s G (er c)) (hb:c.bits≤256):Fit s:=⟨by have e:s.bits=c.bits:=h.bits;omega,by have:=h.ci.few;omega⟩
theorem er0:er c0x=rp0 256:=rfl
theorem ca0 (n:Nat):CA n (0,j0U (g0G (2498+2)) 2 256 1,[],c0x,[]) where
 le:=Nat.zero_le _
 i12:=Nat.zero_le _
 j:=by show J _ _ (er c0x);rw[er0];exact t2J
 bud:=by show Bud 0 _ (er c0x);rw[er0];exact q2J
 next:=by show c0x.next≤1+((0:Nat):Int);decide
 bits:=by show c0x.bits≤256;decide
 core:=t2K
set_option maxRecDepth 8000
attribute [local irreducible] Sl.a0L Sl.OW Sl.CW Sl.OS Sl.OM Sl.OMf Sl.KM
theorem l1R (W:World) (hW:h0L W) (hA:c1Y (j0U (g0G 100) 2 256 1)) (v:Value) (acts:List AP) (hv:h2S W v acts) (x:AP):
 a0S Tryz.prog 3 #[v,l1P x.ki x.ai x.at_ x.n x.l] [whole W] (b0G (.bool true) [whole W]):=by
 obtain⟨p,cap,rfl,hml,hcell⟩:=hv
 have hmax:acts.length≤9223372036854775807:=Nat.le_trans hml (by decide)
 refine a0C Tryz.func3 rfl Tryz.ntmps3 rfl (fun R w0=> ?_)
 simp only[a0N,List.cons_append,List.nil_append,l1P]
 refine go 2 ?_
 refine(a0X rfl (fun b3=> ?_))
 refine go 6 ?_
 refine a0D rfl Hb.o rfl (c2G W hW hA) gSp ?_
 refine ns ?_
 refine go 8 ?_
 refine a0W rfl Hb.o rfl (n1Q W 2498 256 (by omega) (by omega)) gSp ?_
 rintro⟨ad,bw⟩ _
 refine ns ?_
 refine go 7 ?_
 refine r0A (X:= {y:St×Gh×Rx×b0J // CB y}) (fun y=> [(3,ptr b3),(4,.bool false),(5,ptr bw),(6,.bool true)]) (fun y=>RS W ad y.1.1++ [l0P bw ad.core y.1.2.2.1,c0Q y.1.2.2.2,pts b3 (.cells #[.int .i64 x.ki,.int .i64 x.ai,.int .i64 x.at_,.int .i64 x.n,b0H x.l] 24 (0,0)),R]) ?_ ?_
 ·refine go 6 ?_
  refine c0S (fun w h=>i2U h) ?_
  refine b0S (X:= {y:Nat×St×Gh×Rx×b0J // CA acts.length y}) (fun y=> [(0,.slice p acts.length cap),(3,ptr b3),(4,.bool false),(5,ptr bw),(6,.bool true),(7,.int .i64 (y.1.1:Nat))]) (fun y=>RS W ad y.1.2.1++ [l0P bw ad.core y.1.2.2.2.1,c0Q y.1.2.2.2.2,pts b3 (.cells #[.int .i64 x.ki,.int .i64 x.ai,.int .i64 x.at_,.int .i64 x.n,b0H x.l] 24 (0,0)),R]) (fun y=>acts.length-y.1.1) ⟨_,ca0 acts.length⟩ gSu gSp ?_
  rintro⟨⟨i,s,G,c,H⟩,hca⟩ m0 hm0
  try simp only at hm0
  try dsimp only
  have hle:=hca.le
  have h12:=hca.i12
  dsimp only at hle h12
  simp only[RS,List.cons_append,List.nil_append]
  refine go 2 ?_
  by_cases hlt:i<acts.length
  ·refine go 9 ?_
   refine g0M (l0R rfl) (fun a w hh=>(b0E rfl rfl rfl hh).trans (wTT (by simpa using (by omega:(i:Int)<(acts.length:Int))))) ?_
   refine g0M (m2M rfl rfl) (fun a w hh=>(b0E rfl rfl rfl hh).trans (wTT (by simpa using (by omega:(i:Int)<(acts.length:Int))))) ?_
   refine a0F (o0V rfl (by simpa using (by omega:(i:Int)<(acts.length:Int))) rfl) ?_
   refine go 2 ?_
   refine b0C rfl (fun hb39=> ?_) (fun hb39=> ?_)
   ·have hi12:i<12:=by have:=of_decide_eq_true hb39;omega
    obtain⟨k,hk⟩: ∃k:Nat,acts[i].ki%256%14=(k:Int):=⟨(acts[i].ki%256%14).toNat,by omega⟩
    have hnx:=hca.next
    have hbt:=hca.bits
    have hjj:=hca.j
    have hcc:=hca.core
    dsimp only at hnx hbt hjj hcc
    have hpos:1≤c.next:=hjj.pos
    obtain⟨e,t,Q,G2,hact,hj2,hb2,hn2,hkp⟩:=hjj.act hca.bud (by dsimp only;omega) (show c.next<1000000 by omega) (k:=k) (by omega) (acts[i].ai%32) acts[i].at_ acts[i].n (data:=o0R acts[i].l acts[i].n) (d1F _ _).2
    obtain⟨aa,hpa,hcl⟩:=hcell i hlt
    subst hpa
    refine go 9 ?_
    refine a0F (d2J Tsl.o rfl rfl (by omega)) ?_
    refine a0F (z1L (vs:=m2K acts[i]) Ag.o rfl gFd rfl hcl) ?_
    refine a0W rfl Hb.o rfl (n1Y W hW ad s t bw H c acts[i].ki acts[i].ai acts[i].at_ acts[i].n (acts[i].ai%32) e acts[i].l k Q hk rfl (h2V hjj hbt) ⟨hjj.ci.dep,hjj.ci.log⟩ hcc hjj.sized hbt ⟨hpos,by omega⟩ hact) gSp ?_
    rintro⟨H2,c2⟩ ⟨hs2,hc2,hr2⟩
    refine ns ?_
    refine go 16 ?_
    rw[show(e == e)=true by simp]
    refine go 8 ?_
    refine b0Q (fun _ _ h=>h) (⟨(i+1,t,G2,c2,H2),⟨hlt,hi12,by(show J t G2 (er c2));rw[show er c2=Q from hr2];exact hj2,by(show Bud (i+1) t (er c2));rw[show er c2=Q from hr2];exact hb2,by have e1:c2.next=Q.next:=congrArg (fun q:Rp=>q.next) hr2;have e2:(er c).next=c.next:=rfl;(show c2.next≤1+((i+1:Nat):Int));omega,by have e1:c2.bits=Q.bits:=congrArg (fun q:Rp=>q.bits) hr2;have e2:=hact.bits_ (by omega);have e3:(er c).bits=c.bits:=rfl;(show c2.bits≤256);omega,hc2⟩⟩) (by first|omega| (simp only;omega)) gSu gSp
   ·refine go 1 ?_
    refine i0D (fun _ _ h=>h) (⟨(s,G,c,H),⟨hca.j,t1W hca.bud h12,by have:=hca.next;dsimp only at this ⊢;omega,hca.bits,hca.core⟩⟩) gSu gSp
  ·refine go 9 ?_
   refine f0D rfl (fun a w hh=>(b0E rfl rfl rfl hh).trans (wTF (by simpa using (by omega: ¬(i:Int)<(acts.length:Int))))) ?_
   refine f0D rfl (fun a w hh=>(b0E rfl rfl rfl hh).trans (wTF (by simpa using (by omega: ¬(i:Int)<(acts.length:Int))))) ?_
   refine a0F (n0R rfl (by simpa using (by omega: ¬(i:Int)<(acts.length:Int))) rfl) ?_
   refine go 4 ?_
   refine i0D (fun _ _ h=>h) (⟨(s,G,c,H),⟨hca.j,t1W hca.bud h12,by have:=hca.next;dsimp only at this ⊢;omega,hca.bits,hca.core⟩⟩) gSu gSp
 rintro⟨⟨s,G,c,H⟩,hcb⟩
 have hjj:=hcb.j
 have hnx:=hcb.next
 have hbt:=hcb.bits
 have hcc:=hcb.core
 have hbud:=hcb.bud
 dsimp only at hjj hnx hbt hcc hbud ⊢
 obtain⟨D,hD⟩:=hjj.digests
 have hpos:1≤c.next:=hjj.pos
 obtain⟨pr,capr,hlv,hcapr⟩:=e0E hcc.vols
 have hrow:=hcc.vols
 rw[hlv]at hrow
 have hfew:=hcc.few
 simp only[RS,List.cons_append,List.nil_append]
 refine go 16 ?_
 refine a0F (b0T (v:= .slice pr c.l.length capr) Sc.o rfl (by exact congrArg some hlv)) ?_
 refine(p0Z (fun b65=> ?_))
 refine go 6 ?_
 refine c0S (fun w h=>s0V a0V b0H ((show Fnd _ (pts b65 _) _ from gFd).sat h)) ?_
 refine go 7 ?_
 refine b0S (X:= {j:Nat // j≤c.l.length}) (fun y=> [(3,ptr b3),(4,.bool false),(5,ptr bw),(11,.slice pr c.l.length capr),(12,.map (some b65)),(66,.slice pr c.l.length capr),(67,.int .i64 c.l.length),(68,.int .i64 y.1)]) (fun y=>RS W ad s++ [l0P bw ad.core c,c0Q H,pts b3 (.cells #[.int .i64 x.ki,.int .i64 x.ai,.int .i64 x.at_,.int .i64 x.n,b0H x.l] 24 (0,0)),c0T b65 a0V b0H (q0O D (c.l.take y.1)),R]) (fun y=>c.l.length-y.1) ⟨0,Nat.zero_le _⟩ gSu gSp ?_
 rintro⟨j,hj⟩ m2 hm2
 try simp only at hm2
 try dsimp only
 simp only[RS,List.cons_append,List.nil_append]
 refine go 6 ?_
 refine b0C rfl (fun hb69=> ?_) (fun hb69=> ?_)
 ·have hjl:j<c.l.length:=by have:=of_decide_eq_true hb69;omega
  obtain⟨b,o,cap',cur,hv,hcp,hmem,hcut,hlen⟩:=g0E hrow (by omega)
  cases hv
  have hcu:(cur.drop (o+j*6)).take 6=b0A c.l[j]:=(h0J hcut hjl).trans (l0N c.l hjl)
  have hvi:=hcc.maps _ (List.getElem_mem hjl)
  have hin:c.l[j].v∈(er c).l:=List.mem_map.2 ⟨_,List.getElem_mem hjl,rfl⟩
  have hid:=hjj.ids _ hin
  have hnn:(er c).next=c.next:=rfl
  obtain⟨hd1,hd2,hd3,hd4⟩:=hD _ hin
  have hwu:IntKind.u32.wrap c.l[j].v.id=c.l[j].v.id:=i0O .u32 _ (by omega) (by show c.l[j].v.id<2147483648;omega)
  have hs2:((D c.l[j].v).map a0Z).toArray.size=32:=by simp[hd1]
  refine go 7 ?_
  refine a0F (f0A (vs:=b0A c.l[j]) Ag.o rfl gFd hmem hcu rfl (by decide)) ?_
  refine(a0U Zr.o (fun b14=> ?_))
  refine a0K Sz.o rfl rfl rfl (fun u hu=>o0O hvi u (by simpa using hu)) (by simp[Value.cells,a0P,b0A]) (a0R (by simp[Value.cells,a0P,b0A])) ?_
  refine go 3 ?_
  refine l0G (.soft 0 (.soft 1 (.soft 2 (.soft 3 (.soft 4 (.soft 5 (.soft 6 (.float 11 (.hard 7 (.soft 8 (.soft 9 (.soft 10 (.res (.hard 12 (.soft 13 .done))))))))))))))) [l0P bw ad.core c,l1G b14 c.l[j]] Fol.o (by kernel_rfl) (by repeat (first|with_reducible exact a0J.bp|with_reducible apply a0J.then|with_reducible apply a0J.inBlock)) gSp ?_
  refine go 7 ?_
  refine k0O (e0:= []) rfl gSu (fun _ _ _=>rfl) Zr.o rfl ?_
  rw[hwu]
  refine c0H rfl (fun hok EE FF=> ?_)
  simp only[List.cons_append,List.nil_append]
  refine a0D rfl Hb.o rfl (y1V (W:=W) hd2 ad) gSp ?_
  refine ns ?_
  refine go 1 ?_
  refine c0G (E:=EE) (F:=FF) (by repeat (first|exact Tl.nil|apply Tl.cons)) gFd gSp (hok.put rfl) ?_
  refine go 3 ?_
  refine m0B (fun b15=> ?_)
  dsimp only
  refine c0H rfl (fun hok EE FF=> ?_)
  simp only[List.cons_append,List.nil_append]
  refine a0K Sz.o rfl rfl hs2 (fun x hx=>by simp at hx;obtain⟨_,_,rfl⟩:=hx;rfl) (by rw[hs2];simp[Value.cells]) (a0R (by rw[hs2];simp[Value.cells])) ?_
  refine go 1 ?_
  refine c0G (E:=EE) (F:=FF) (by repeat (first|exact Tl.nil|apply Tl.cons)) gFd gSp hok ?_
  refine go 13 ?_
  refine d0H (.soft 0 (.soft 1 (.soft 2 (.soft 3 (.hard 4 (.hard 5 .done)))))) [l1G b14 c.l[j],pts b15 (.cells ((D c.l[j].v).map a0Z).toArray 44 (0,0))] Fol.o (by kernel_rfl) (by repeat (first|with_reducible exact a0J.bp|with_reducible apply a0J.then|with_reducible apply a0J.inBlock)) gSp ?_
  refine go 3 ?_
  refine d0D rfl (a0O Ag.o rfl (by rw[hs2];omega) (a0I hs2)) ?_
  refine go 1 ?_
  refine a0D rfl Hb.o rfl (s0H (D c.l[j].v) hd1) gSp ?_
  refine ns ?_
  refine go 3 ?_
  refine(p0N (ek:=a0V) (ev:=b0H) e0T.o m0R (tt fun _=>trivial) trivial rfl rfl rfl gFd ?_)
  refine go 6 ?_
  rw[show c0F c.l[j].v.id (D c.l[j].v) (q0O D (c.l.take j))=q0O D (c.l.take (j+1))from h2U hjl hjj.ord]
  refine go 2 ?_
  refine b0Q (fun _ _ h=>h) (⟨j+1,hjl⟩) (by first|omega| (simp only;omega)) gSu gSp
 ·obtain rfl:j=c.l.length:=by have:=of_decide_eq_false hb69;omega
  rw[List.take_length]
  obtain⟨k,hk⟩: ∃k:Nat,x.ki%256%14=(k:Int):=⟨(x.ki%256%14).toNat,by omega⟩
  obtain⟨e,t,Q,G2,hact,hj2,hb2,hn2,hkp⟩:=hjj.act hbud (by omega) (show c.next<1000000 by omega) (k:=k) (by omega) (x.ai%32) x.at_ x.n (data:=o0R x.l x.n) (d1F _ _).2
  refine go 5 ?_
  refine a0F (a0O (v:= #[.int .i64 x.ki,.int .i64 x.ai,.int .i64 x.at_,.int .i64 x.n,b0H x.l]) Ag.o rfl (by simp[Value.cells]) (a0I (by simp[Value.cells]))) ?_
  refine a0W rfl Hb.o rfl (n1Y W hW ad s t bw H c x.ki x.ai x.at_ x.n (x.ai%32) e x.l k Q hk rfl (h2V hjj hbt) ⟨hjj.ci.dep,hjj.ci.log⟩ hcc hjj.sized hbt ⟨hpos,by omega⟩ hact) gSp ?_
  rintro⟨H2,c2⟩ ⟨hs3,hc2,hr2⟩
  refine ns ?_
  refine go 4 ?_
  dsimp only at hs3 hc2 hr2 ⊢
  have hrow2:y1F H2 (.slice pr c.l.length capr) c.l:=hrow.more hs3
  refine go 7 ?_
  refine b0S (X:= {j:Nat // j≤c.l.length}) (fun y=> [(3,ptr b3),(4,.bool false),(5,ptr bw),(12,.map (some b65)),(94,.slice pr c.l.length capr),(95,.int .i64 c.l.length),(96,.int .i64 y.1)]) (fun y=>RS W ad t++ [l0P bw ad.core c2,c0Q H2,pts b3 (.cells #[.int .i64 x.ki,.int .i64 x.ai,.int .i64 x.at_,.int .i64 x.n,b0H x.l] 24 (0,0)),c0T b65 a0V b0H (q0O D c.l),R]) (fun y=>c.l.length-y.1) ⟨0,Nat.zero_le _⟩ gSu gSp ?_
  rintro⟨j,hj⟩ m4 hm4
  try simp only at hm4
  try dsimp only
  simp only[RS,List.cons_append,List.nil_append]
  refine go 6 ?_
  refine b0C rfl (fun hb97=> ?_) (fun hb97=> ?_)
  ·have hjl:j<c.l.length:=by have:=of_decide_eq_true hb97;omega
   obtain⟨b,o,cap',cur,hv,hcp,hmem,hcut,hlen⟩:=g0E hrow2 (by omega)
   cases hv
   have hcu:(cur.drop (o+j*6)).take 6=b0A c.l[j]:=(h0J hcut hjl).trans (l0N c.l hjl)
   have hvi:=(hcc.maps _ (List.getElem_mem hjl)).more hs3
   have hin:c.l[j].v∈(er c).l:=List.mem_map.2 ⟨_,List.getElem_mem hjl,rfl⟩
   have hid:=hjj.ids _ hin
   have hnn:(er c).next=c.next:=rfl
   obtain⟨hd1,hd2,hd3,hd4⟩:=hD _ hin
   have hwu:IntKind.u32.wrap c.l[j].v.id=c.l[j].v.id:=i0O .u32 _ (by omega) (by show c.l[j].v.id<2147483648;omega)
   have hs2:((D c.l[j].v).map a0Z).toArray.size=32:=by simp[hd1]
   refine go 7 ?_
   refine a0F (f0A (vs:=b0A c.l[j]) Ag.o rfl gFd hmem hcu rfl (by decide)) ?_
   refine(a0U Zr.o (fun b18=> ?_))
   refine a0K Sz.o rfl rfl rfl (fun u hu=>o0O hvi u (by simpa using hu)) (by simp[Value.cells,a0P,b0A]) (a0R (by simp[Value.cells,a0P,b0A])) ?_
   refine go 9 ?_
   refine a0F (n0L rfl rfl) ?_
   rw[o1W]
   refine go 3 ?_
   refine b0C rfl (fun hb105=> ?_) (fun hb105=> ?_)
   ·refine go 6 ?_
    refine b0Q (fun _ _ h=>h) (⟨j+1,hjl⟩) (by first|omega| (simp only;omega)) gSu gSp
   ·have hne:c.l[j].v.id≠x.ai%32:=by simpa using hb105
    have hinQ:=hkp _ hin hne
    have hsum:=hd4 hj2 hinQ
    obtain⟨y,hy,hyr⟩:=hj2.vol _ hinQ
    refine go 3 ?_
    refine l0G (.soft 0 (.soft 1 (.soft 2 (.soft 3 (.soft 4 (.soft 5 (.soft 6 (.float 11 (.hard 7 (.soft 8 (.soft 9 (.soft 10 (.res (.hard 12 (.soft 13 .done))))))))))))))) [l0P bw ad.core c2,l1G b18 c.l[j]] Fol.o (by kernel_rfl) (by repeat (first|with_reducible exact a0J.bp|with_reducible apply a0J.then|with_reducible apply a0J.inBlock)) gSp ?_
    refine go 7 ?_
    refine k0O (e0:= []) rfl gSu (fun _ _ _=>rfl) Zr.o rfl ?_
    rw[hwu]
    refine c0H rfl (fun hok EE FF=> ?_)
    simp only[List.cons_append,List.nil_append]
    refine a0D rfl Hb.o rfl (y1V (W:=W) hsum ad) gSp ?_
    refine ns ?_
    refine go 1 ?_
    refine c0G (E:=EE) (F:=FF) (by repeat (first|exact Tl.nil|apply Tl.cons)) gFd gSp (hok.put rfl) ?_
    refine go 3 ?_
    refine m0B (fun b19=> ?_)
    dsimp only
    refine c0H rfl (fun hok EE FF=> ?_)
    simp only[List.cons_append,List.nil_append]
    refine a0K Sz.o rfl rfl hs2 (fun x hx=>by simp at hx;obtain⟨_,_,rfl⟩:=hx;rfl) (by rw[hs2];simp[Value.cells]) (a0R (by rw[hs2];simp[Value.cells])) ?_
    refine go 1 ?_
    refine c0G (E:=EE) (F:=FF) (by repeat (first|exact Tl.nil|apply Tl.cons)) gFd gSp hok ?_
    refine go 4 ?_
    refine l0G (.soft 0 (.soft 1 (.soft 2 (.soft 3 (.soft 4 (.soft 5 (.soft 6 (.float 11 (.hard 7 (.soft 8 (.soft 9 (.soft 10 (.res (.hard 12 (.soft 13 .done))))))))))))))) [l0P bw ad.core c2,l1G b18 c.l[j]] Fol.o (by kernel_rfl) (by repeat (first|with_reducible exact a0J.bp|with_reducible apply a0J.then|with_reducible apply a0J.inBlock)) gSp ?_
    refine go 7 ?_
    refine k0O (e0:= []) rfl gSu (fun _ _ _=>rfl) Zr.o rfl ?_
    rw[hwu]
    refine c0H rfl (fun hok EE FF=> ?_)
    simp only[List.cons_append,List.nil_append]
    refine a0D rfl Hb.o rfl ((by have h:=c1Q W ad t c.l[j].v.id;rw[hy]at h;exact h)) gSp ?_
    refine ns ?_
    refine go 1 ?_
    refine c0G (E:=EE) (F:=FF) (by repeat (first|exact Tl.nil|apply Tl.cons)) gFd gSp (hok.put rfl) ?_
    refine go 3 ?_
    refine m0B (fun b21=> ?_)
    dsimp only
    refine c0H rfl (fun hok EE FF=> ?_)
    simp only[List.cons_append,List.nil_append]
    refine a0K Sz.o rfl rfl rfl (by simp[b0M,Value.oneCell']) (by simp[b0M,Value.cells]) (a0R (by simp[b0M,Value.cells])) ?_
    refine go 1 ?_
    refine c0G (E:=EE) (F:=FF) (by repeat (first|exact Tl.nil|apply Tl.cons)) gFd gSp hok ?_
    refine go 4 ?_
    refine d0H (.soft 0 (.soft 1 (.soft 2 (.soft 3 (.soft 4 (.soft 5 (.soft 6 (.soft 7 (.soft 9 (.soft 10 (.soft 11 (.soft 12 (.hard 8 (.soft 13 (.soft 14 (.soft 15 (.soft 16 (.soft 17 (.soft 18 (.soft 19 (.soft 20 (.soft 21 (.soft 22 (.soft 23 (.soft 24 (.soft 25 (.soft 26 (.soft 27 (.soft 28 .done))))))))))))))))))))))))))))) [l1G b18 c.l[j],pts b19 (.cells ((D c.l[j].v).map a0Z).toArray 44 (0,0)),s0K b21 y,c0T b65 a0V b0H (q0O D c.l)] Fol.o (by kernel_rfl) (by repeat (first|with_reducible exact a0J.bp|with_reducible apply a0J.then|with_reducible apply a0J.inBlock)) gSp ?_
    refine go 7 ?_
    refine n0M rfl (a0O Ag.o rfl (by rw[hs2];omega) (a0I hs2)) (fun a w hh=>(b0E rfl rfl rfl hh).trans (wFF rfl)) ?_
    refine go 3 ?_
    refine n0M rfl (k0G (ek:=a0V) (ev:=b0H) e0T.o m0R (tt fun _=>trivial) trivial Zr.o rfl rfl gFd s2I) (fun a w hh=>(b0E rfl rfl rfl hh).trans (wFF rfl)) ?_
    refine go 1 ?_
    refine m0S (fun a w hh=>(b0E rfl rfl rfl hh).trans (wFF rfl)) ?_
    refine a0D rfl Hb.o rfl (s0H (D c.l[j].v) hd1) gSp ?_
    refine ns ?_
    refine go 2 ?_
    rw[t1V hjl hjj.ord]
    refine n0M rfl (g0V rfl rfl) (fun a w hh=>(b0E rfl rfl rfl hh).trans (wFF rfl)) ?_
    refine go 2 ?_
    refine n0M rfl (d1G Fl.o rfl) (fun a w hh=>(b0E rfl rfl rfl hh).trans (wFF (by simp))) ?_
    refine n0M rfl (b0T Sc.o rfl (by rfl)) (fun a w hh=>(b0E rfl rfl rfl hh).trans (wFF (by simp))) ?_
    refine n0M rfl (d1G Fl.o rfl) (fun a w hh=>(b0E rfl rfl rfl hh).trans (wFF (by simp))) ?_
    refine n0M rfl (b0T Sc.o rfl (by rfl)) (fun a w hh=>(b0E rfl rfl rfl hh).trans (wFF (by simp))) ?_
    refine n0M rfl (y1Y rfl rfl) (fun a w hh=>(b0E rfl rfl rfl hh).trans (wFF (by simp))) ?_
    refine d0D rfl (n0R rfl (by simp) rfl) ?_
    refine go 1 ?_
    refine n0M rfl (d1G Fl.o rfl) (fun a w hh=>(b0E rfl rfl rfl hh).trans (wFF (by simp[hyr.size]))) ?_
    refine n0M rfl (b0T Sc.o rfl (by rfl)) (fun a w hh=>(b0E rfl rfl rfl hh).trans (wFF (by simp[hyr.size]))) ?_
    refine n0M rfl (d1G Fl.o rfl) (fun a w hh=>(b0E rfl rfl rfl hh).trans (wFF (by simp[hyr.size]))) ?_
    refine n0M rfl (b0T Sc.o rfl (by rfl)) (fun a w hh=>(b0E rfl rfl rfl hh).trans (wFF (by simp[hyr.size]))) ?_
    refine n0M rfl (z1M F.bo4 rfl rfl) (fun a w hh=>(b0E rfl rfl rfl hh).trans (wFF (by simp[hyr.size]))) ?_
    refine d0D rfl (n0R rfl (by simp[hyr.size]) rfl) ?_
    refine go 2 ?_
    refine c0C rfl (by simp[hyr.only]) ?_
    refine go 6 ?_
    refine b0Q (fun _ _ h=>h) (⟨j+1,hjl⟩) (by first|omega| (simp only;omega)) gSu gSp
  ·refine go 7 ?_
   refine b0V (fun _ _ h=>h) rfl rfl gSp
end
end Go.Proofs.Q
namespace Go.Sl
open Go.ChangeShapes Go.WideShapes Go.ChangeAt Go.RowKit
section
def t1X (a b c d:Int) (s:ByteArray):List Value:= [.int .i64 a,.int .i64 b,.int .i64 c,.int .i64 d,.string s]
section
variable {H:Type} {enc:TypeId×Value→H} {P:Program} {W:World} {base:Nat} {sp:Nat→Bool} {hd:Bool}
theorem o1A {t:TypeId} {f0 f1 f2 f3 f4:Field} {fuel:Nat} {cs:List Value} {x:DataW H×List MemPlace} (ht:P.underlying t=some (.struct #[f0,f1,f2,f3,f4])) (hc:P.cellsOf t=5)
 (h0:f0.offset=0∧P.cellsOf f0.type=1∧P.underlying f0.type=some (.int .i64)) (h1:f1.offset=1∧P.cellsOf f1.type=1∧P.underlying f1.type=some (.int .i64))
 (h2:f2.offset=2∧P.cellsOf f2.type=1∧P.underlying f2.type=some (.int .i64)) (h3:f3.offset=3∧P.cellsOf f3.type=1∧P.underlying f3.type=some (.int .i64))
 (h4:f4.offset=4∧P.cellsOf f4.type=1∧P.underlying f4.type=some .string) (h:DataW.trod enc P W base sp hd fuel t cs=some x): ∃a b c d s,cs=t1X a b c d s:=by
 obtain⟨xs,n,_,_,hl,hlen,hf⟩:=DataW.trod_struct ht h
 rw[hc]at hl
 have hx:xs.length=5:=hlen
 match cs,hl with
 | [c0,c1,c2,c3,c4],_=>
  have g: ∀(i:Nat) (f:Field),#[f0,f1,f2,f3,f4][i]? =some f→ ∃y,DataW.trod enc P W base sp hd n f.type ((([c0,c1,c2,c3,c4]:List Value).drop f.offset).take (P.cellsOf f.type))=some y:=fun i f hi=>by
   have hi5:i<5:=(Array.getElem?_eq_some_iff.1 hi).1
   refine⟨xs[i]'(by omega),?_⟩
   rw[hf i f hi,List.getElem?_eq_getElem (by omega)]
  obtain⟨y0,g0⟩:=g 0 f0 rfl
  obtain⟨y1,g1⟩:=g 1 f1 rfl
  obtain⟨y2,g2⟩:=g 2 f2 rfl
  obtain⟨y3,g3⟩:=g 3 f3 rfl
  obtain⟨y4,g4⟩:=g 4 f4 rfl
  rw[h0.1,h0.2.1]at g0
  rw[h1.1,h1.2.1]at g1
  rw[h2.1,h2.2.1]at g2
  rw[h3.1,h3.2.1]at g3
  rw[h4.1,h4.2.1]at g4
  obtain⟨a,e0,_⟩:=DataW.trod_int h0.2.2 g0
  obtain⟨b,e1,_⟩:=DataW.trod_int h1.2.2 g1
  obtain⟨c,e2,_⟩:=DataW.trod_int h2.2.2 g2
  obtain⟨d,e3,_⟩:=DataW.trod_int h3.2.2 g3
  obtain⟨s,e4,_⟩:=DataW.trod_string h4.2.2 g4
  simp only[List.drop_zero,List.drop_succ_cons,List.take_succ_cons,List.take_zero,List.cons.injEq,and_true]at e0 e1 e2 e3 e4
  exact⟨a,b,c,d,s,by rw[e0,e1,e2,e3,e4];rfl⟩
theorem h2W {r:Reach} {b0:Nat} {t:TypeId} {f0 f1 f2 f3 f4:Field} {v:Value} {dd:DataW H} {ps:List MemPlace} (ht:P.underlying t=some (.struct #[f0,f1,f2,f3,f4])) (hc:P.cellsOf t=5)
 (h0:f0.offset=0∧P.cellsOf f0.type=1∧P.underlying f0.type=some (.int .i64)) (h1:f1.offset=1∧P.cellsOf f1.type=1∧P.underlying f1.type=some (.int .i64))
 (h2:f2.offset=2∧P.cellsOf f2.type=1∧P.underlying f2.type=some (.int .i64)) (h3:f3.offset=3∧P.cellsOf f3.type=1∧P.underlying f3.type=some (.int .i64))
 (h4:f4.offset=4∧P.cellsOf f4.type=1∧P.underlying f4.type=some .string) (hval:Value.okWide P W r b0 t v) (h:DataW.Trod enc P W base sp hd t v dd ps): ∃a b c d s,v= .agg (t1X a b c d s).toArray:=by
 have hv: ∃xs:Array Value,v= .agg xs:=by
  simp only[Value.okWide,ht]at hval
  cases v<;>simp_all
 obtain⟨xs,rfl⟩:=hv
 obtain⟨fuel,hf⟩:=h
 obtain⟨a,b,c,d,s,e⟩:=o1A ht hc h0 h1 h2 h3 h4 hf
 exact⟨a,b,c,d,s,by rw[←e];simp[Value.cells]⟩
theorem h2X {r:Reach} {b0:Nat} {t e:TypeId} {f0 f1 f2 f3 f4:Field} {v:Value} {dd:DataW H} {ps:List MemPlace} (hs:P.underlying t=some (.slice e)) (ht:P.underlying e=some (.struct #[f0,f1,f2,f3,f4])) (hc:P.cellsOf e=5)
 (h0:f0.offset=0∧P.cellsOf f0.type=1∧P.underlying f0.type=some (.int .i64)) (h1:f1.offset=1∧P.cellsOf f1.type=1∧P.underlying f1.type=some (.int .i64))
 (h2:f2.offset=2∧P.cellsOf f2.type=1∧P.underlying f2.type=some (.int .i64)) (h3:f3.offset=3∧P.cellsOf f3.type=1∧P.underlying f3.type=some (.int .i64))
 (h4:f4.offset=4∧P.cellsOf f4.type=1∧P.underlying f4.type=some .string) (hval:Value.okWide P W r b0 t v) (h:DataW.Trod enc P W base sp hd t v dd ps):
 ∃(p:Option Addr) (n cap:Nat),v= .slice p n cap∧n≤maxLen∧ ∀i,i<n→ ∃A,p=some A∧ ∃a b c d s,∀q u,(t1X a b c d s)[q]? =some u→W.cell? ((A.add (i*5)).add q)=some u:=by
 obtain⟨a0,len,cap,rfl⟩:=okWide_slice hs hval
 obtain⟨fuel,hf⟩:=h
 rcases DataW.trod_slice hs hf with ⟨hcs,_⟩| ⟨A,len',cap',elems,rest,n,_,hcs,_,hb,hl,hm,hlen,hel,_,_⟩
 ·simp[Value.cells]at hcs
  obtain⟨rfl,rfl,rfl⟩:=hcs
  exact⟨none,0,0,rfl,Nat.zero_le _,fun i hi=>absurd hi (Nat.not_lt_zero _)⟩
 ·simp[Value.cells]at hcs
  obtain⟨rfl,rfl,rfl⟩:=hcs
  refine⟨some A,len,cap,rfl,by omega,fun i hi=>⟨A,rfl,?_⟩⟩
  have h5:=hel i hi
  rw[hc,List.getElem?_eq_getElem (by omega),Option.bind_eq_some_iff]at h5
  obtain⟨cs',g1,g2⟩:=h5
  obtain⟨a,b,c,d,s,rfl⟩:=o1A ht hc h0 h1 h2 h3 h4 g2
  obtain⟨_,_,g3⟩:=World.cells?_some g1
  exact⟨a,b,c,d,s,fun q u hq=>by
   have hq5:q<5:=(List.getElem?_eq_some_iff.1 hq).1
   rw[g3 q hq5];exact hq⟩
end
end
end Go.Sl
namespace Go.Proofs.Q
open Go.Sl Go.Sb
theorem f1F {α:Type} {Q:Nat→α→Prop} : ∀n:Nat,(∀i,i<n→ ∃x,Q i x)→ ∃l:List α,l.length=n∧ ∀i (h:i<l.length),Q i l[i]
 |0,_=>⟨[],rfl,fun i h=>absurd h (Nat.not_lt_zero _)⟩
 |n+1,h=>by
  obtain⟨l,hl,hq⟩:=f1F n fun i hi=>h i (by omega)
  obtain⟨x,hx⟩:=h n (by omega)
  refine⟨l++ [x],by simp[hl],fun i hi=> ?_⟩
  by_cases e:i<l.length
  ·rw[List.getElem_append_left e];exact hq i e
  ·have hi':i=n:=by rw[List.length_append,List.length_singleton]at hi;omega
   subst hi'
   rw[List.getElem_append_right (by omega)]
   simpa using hx
theorem m2Z (s:ByteArray): ∃l:B,s=bs l:=⟨s.data.toList,by show s=ByteArray.mk s.data.toList.toArray;simp⟩
def t1Y (W:World) (v:Value):Prop:= ∃(p:Option Addr) (n cap:Nat),v= .slice p n cap∧n≤maxLen∧ ∀i,i<n→ ∃A,p=some A∧ ∃a b c d s,∀q u,(t1X a b c d s)[q]? =some u→W.cell? ((A.add (i*5)).add q)=some u
def n2A (v:Value):Prop:= ∃a b c d s,v= .agg (t1X a b c d s).toArray
theorem q2K {W:World} {v:Value} (h:t1Y W v): ∃acts,h2S W v acts:=by
 obtain⟨p,n,cap,rfl,hn,hc⟩:=h
 obtain⟨l,hl,hq⟩:=f1F (Q:=fun i (x:AP)=> ∃a,p=some a∧ ∀q u,(m2K x)[q]? =some u→W.cell? ((a.add (i*5)).add q)=some u) n fun i hi=>by
  obtain⟨A,hp,a,b,c,d,s,hcell⟩:=hc i hi
  obtain⟨l,rfl⟩:=m2Z s
  exact⟨{ki:=a,ai:=b,at_:=c,n:=d,l:=l},A,hp,hcell⟩
 exact⟨l,p,cap,by rw[hl],by omega,hq⟩
theorem t1Z:c1Y (j0U (g0G 100) 2 256 1):=v1Y
theorem l1S (W:World) (hW:h0L W) (v:Value) (hv:t1Y W v) (w:Value) (hw:n2A w):
 a0S Tryz.prog 3 #[v,w] [whole W] (b0G (.bool true) [whole W]):=by
 obtain⟨acts,ha⟩:=q2K hv
 obtain⟨a,b,c,d,s,rfl⟩:=hw
 obtain⟨l,rfl⟩:=m2Z s
 exact l1R W hW t1Z v acts ha {ki:=a,ai:=b,at_:=c,n:=d,l:=l}
end Go.Proofs.Q
