/- Part of the proof; no statement of its own. -/
import Derived.Test.YtpinhnikemamjaaGreatDoorS15
import Derived.Test.YtpinhnikemamjaaGreatDoorProg
import Derived.KernelRfl
import Derived.Test.YtpinhnikemamjaaGreatDoorS08
import Derived.Test.YtpinhnikemamjaaGreatDoorS05
import Derived.Laws.IdiomRangeMap
import Derived.Test.YtpinhnikemamjaaGreatDoorS06
import Derived.Sort.Grow
import Derived.Test.YtpinhnikemamjaaGreatDoorS04
set_option linter.all false
set_option maxRecDepth 4000
set_option maxHeartbeats 4000000
namespace Go.Sb
section
def rp0 (bits:Nat):Rp:= {l:= [],next:=1,bits:=bits,epoch:=1}
theorem q1D (P:Rp) (v:Vp):(g0M P v).1.bits=P.bits:=by unfold g0M;split<;>rfl
theorem y1S (P:Rp) (n:Int):(e0R P n).1.bits=P.bits:=by
 unfold e0R;split
 ·rfl
 ·exact q1D _ _
theorem j2V (P:Rp) (id:Int) (o:Bool):(i0P P id o).1.bits=P.bits:=by
 unfold i0P;split
 ·rfl
 ·exact q1D _ _
theorem y1T (P:Rp) (id:Int):(g0R P id).1.bits=P.bits:=by unfold g0R;split<;>rfl
theorem e2V (id at_:Int) (data:B) (P:Rp):(i0Y P id at_ data).1.bits=P.bits:=by
 cases hf:c0Q P.l id with
 |none=>unfold i0Y;rw[hf]
 |some i=>
  obtain⟨hi,_⟩:=i0Q hf;rw[v0V hf]
  repeat' split
  all_goals first|rfl| (simp only;obtain⟨m,e⟩:=m0U i data.length P at_.toNat data hi;rw[e];rfl)
theorem j2W (id at_ n:Int) (P:Rp):(l0S P id at_ n).1.bits=P.bits:=by
 cases hf:c0Q P.l id with
 |none=>unfold l0S;rw[hf]
 |some i=>
  obtain⟨hi,_⟩:=i0Q hf;rw[y0D hf]
  repeat' split
  all_goals first|rfl| (obtain⟨m,e⟩:=k0P i P at_.toNat (at_+n).toNat hi;rw[e];rfl)
theorem y1U (id n:Int) (P:Rp):(g0S P id n).1.bits=P.bits:=by
 cases hf:c0Q P.l id with
 |none=>unfold g0S;rw[hf]
 |some i=>
  obtain⟨hi,_⟩:=i0Q hf;rw[t0P hf];have:(j0P P i n).1.bits=P.bits:=by
   unfold j0P;split
   ·obtain⟨m,e⟩:=k0P i P n.toNat (P.l.getD i v0).size.toNat hi;rw[e];rfl
   ·rfl
  repeat' split
  all_goals first|rfl|exact this
theorem x0J {P Q R:Rp} {p:Prop} [Decidable p] (h:Q=if p then R else P) (hb:R.bits=P.bits):Q.bits=P.bits:=by
 rw[h];split
 ·exact hb
 ·rfl
theorem c1K.bits_ {k:Nat} {id at_ n e f:Int} {data:B} {s t:St} {P Q:Rp} (h:c1K k id at_ n data s P e f t Q) (hk:k<14):Q.bits=P.bits:=by
 have hcase:k=0∨(k=1∨k=2)∨k=3∨k=4∨(4<k∧k<9)∨(k=9∨k=10)∨k=11∨k=12∨k=13:=by omega
 rcases hcase with hk|hk|hk|hk|hk|hk|hk|hk|hk
 ·obtain⟨_,_,_,_,_,h5⟩:=h.k0 hk;exact x0J h5 (y1S _ _)
 ·obtain⟨_,_,_,_,_,h5⟩:=h.k1 hk;exact x0J h5 (j2V _ _ _)
 ·exact x0J (h.k3 hk).2.2 (y1T _ _)
 ·exact x0J (h.k4 hk).2.2 (y1U _ _ _)
 ·exact x0J (h.k5 hk).2.2 (e2V _ _ _ _)
 ·exact x0J (h.k9 hk).2.2 (j2W _ _ _ _)
 ·rw[(h.k11 hk).2.2]
 ·rw[(h.k12 hk).2.2]
 ·rw[(h.k13 hk).2.2]
section
variable {s:St} {G:Gh} {P:Rp}
theorem J.digest (h:J s G P) {v:Vp} (hv:v∈P.l): ∃d:B,d.length=32∧w0M v.id s=(.ok (d,0),s)∧(∃x,a0C v.id s.vols=some x∧x.size=v.size∧x.only=v.only)∧
 ∀ {t:St} {G':Gh} {Q:Rp},J t G' Q→v∈Q.l→w0M v.id t=(.ok (d,0),t):=by
 obtain⟨x,hx,hr⟩:=h.vol v hv;have hk:=h.ci.kid _ (h.ci.mem hx);refine⟨d0R G x.root,?_,h.sum hx,⟨x,hx,hr.size,hr.only⟩,fun {t G' Q} h' hv'=> ?_⟩
 ·unfold d0R;rcases hk with h0| ⟨ks,sm,ho⟩
  ·have h0:x.root=0:=h0;rw[h0,h.ci.inv.zero];simp[a0L]
  ·have ho:a0C x.root G=some (.node 2 ks sm):=ho;rw[ho];simp only;rw[(h.ci.inv.typ _ _ ho).2.2.2.2];exact t0M _ _
 ·obtain⟨y,hy,hr'⟩:=h'.vol v hv';rw[h'.sum hy];have he:a0Z G x.root=a0Z G' y.root:=by
   funext j;rw[hr.map.eq,hr'.map.eq]
  rw[h.ci.inv.sumMap h'.ci.inv hk (h'.ci.kid _ (h'.ci.mem hy)) he]
theorem J.sized (h:J s G P): ∀v∈P.l,0≤v.size∧v.size≤2048:=fun v hv=>by
 obtain⟨x,hx,hr⟩:=h.vol v hv;have:=h.size hx;have:=hr.size;omega
end
end
section
def y0F (w:Nat) (f:Nat) (x:Lf):Bool:=decide (x.1/ (w:Int)*(w:Int)=(f:Int))
def dgF (j:Nat) (s:B) (x:Lf):B:=if x.1=(j:Int)then Sha.sum x.2 else s
def p0U (m:List Lf) (j:Nat):B:=m.foldl (dgF j) (a0L 32)
def dgR (m:List Lf):Nat→Nat→B
 |0,f=>e0H 0 ((List.range 8).map fun k=>p0U m (f+k))
 |l+1,f=>e0H (l+1) ((List.range 8).map fun k=>if m.any (y0F (8^(l+1)) (f+k*8^(l+1)))then dgR m l (f+k*8^(l+1))else a0L 32)
theorem c1L (j:Nat): ∀(m:List Lf) (s:B),((∃d,((j:Int),d)∈m∧m.foldl (dgF j) s=Sha.sum d)∨((∀x∈m,x.1≠(j:Int))∧m.foldl (dgF j) s=s))
 | [],s=> .inr ⟨fun x h=>(by cases h),rfl⟩
 |x::m,s=>by
  rw[List.foldl_cons];rcases c1L j m (dgF j s x)with ⟨d,h1,h2⟩| ⟨h1,h2⟩
  ·exact .inl ⟨d,List.mem_cons_of_mem _ h1,h2⟩
  ·by_cases e:x.1=(j:Int)
   ·exact .inl ⟨x.2,by rw[←e];exact List.mem_cons_self,by rw[h2];exact if_pos e⟩
   ·exact .inr ⟨fun y hy=>(by rcases List.mem_cons.1 hy with rfl|hy;(exact e);exact h1 y hy),by rw[h2];exact if_neg e⟩
theorem u2H (l:Nat):e0H l (List.replicate 8 (a0L 32))=a0L 32:=by
 unfold e0H;rw[if_pos];rw[List.all_eq_true];intro x hx;rw[(List.mem_replicate.1 hx).2];simp
section
variable {s:St} {G:Gh} {P:List Int}
theorem Inv.sum0 (h:Inv s G P):d0R G 0=a0L 32:=by unfold d0R;rw[h.zero]
theorem Inv.sumKids (h:Inv s G P) {l:Nat} {a:Int} (ha:a0W G (l+1) a):d0R G a=e0H l ((b0G G a).map (d0R G)):=by
 rcases ha with rfl| ⟨ks,sm,ho⟩
 ·have e:b0G G 0=e0L:=by unfold b0G;rw[h.zero]
  have e2:e0L.map (d0R G)=List.replicate 8 (a0L 32):=by
   have:=h.sum0;simp[e0L,this,List.replicate]
  rw[h.sum0,e,e2,u2H]
 ·have e1:d0R G a=sm:=by unfold d0R;rw[ho]
  have e2:b0G G a=ks:=by unfold b0G;rw[ho]
  rw[e1,e2];exact(h.typ a _ ho).2.2.2.2
theorem Inv.leafSumOf (h:Inv s G P) {m:List Lf} (hm:m0R m) (hz: ∀x∈m,a0R x.2=false) {a:Int} (ha:a0W G 0 a) {j:Nat} (he:d0F G a=f0Y (j:Int) m):d0R G a=p0U m j:=by
 rcases c1L j m (a0L 32)with ⟨d,h1,h2⟩| ⟨h1,h2⟩
 ·have e:=j1L hm.ord h1;simp only at e;rw[e]at he;have hd:=hz _ h1;rcases ha with rfl| ⟨d',t,ho⟩
  ·unfold d0F at he;rw[h.zero]at he;simp only at he hd;rw[←he,d0N]at hd;cases hd
  ·unfold d0F at he;rw[ho]at he;simp only at he;unfold d0R p0U;rw[ho,h2,he]
 ·have e:f0Y (j:Int) m=a0L 256:=(p0M (j:Int) m).resolve_right fun hh=>h1 _ hh rfl;rw[e]at he;unfold p0U;rw[h2];rcases ha with rfl| ⟨d',t,ho⟩
  ·exact h.sum0
  ·exfalso;unfold d0F at he;rw[ho]at he;have:=(h.typ _ _ ho).2.1;simp only at he;rw[he,d0N]at this;cases this
theorem Inv.sumDoc (h:Inv s G P) {m:List Lf} (hm:m0R m) (hz: ∀x∈m,a0R x.2=false): ∀(l:Nat) {a:Int} (f:Nat),a0W G (l+1) a→f%8^(l+1)=0→(∀j,j<8^(l+1)→d0F G (c0P G l a j)=f0Y ((f+j:Nat):Int) m)→d0R G a=dgR m l f
 |l,a,f,ha,hf,he=>by
  obtain⟨h8,hk⟩:=h.kids ha;have hel: ∀i (h1:i<8),(b0G G a).getD i 0=(b0G G a)[i]'(by omega):=fun i h1=>by rw[List.getD_eq_getElem?_getD,List.getElem?_eq_getElem];rfl
  rw[h.sumKids ha];cases l with
  |zero=>
   unfold dgR;congr 1;refine List.ext_getElem (by simp[h8]) fun i h1 h2=> ?_;rw[List.getElem_map,List.getElem_map,List.getElem_range];have hi:i<8:=by simpa using h2
   refine h.leafSumOf hm hz (hk _ (List.getElem_mem (by omega))) ?_;have:=he i (by simpa using hi);unfold c0P b0Q at this;simp only at this;rw[show i/8^0%8=i by omega,hel i hi]at this;exact this
  |succ l=>
   unfold dgR;congr 1;refine List.ext_getElem (by simp[h8]) fun i h1 h2=> ?_;rw[List.getElem_map,List.getElem_map,List.getElem_range];have hi:i<8:=by simpa using h2
   have hkid:=hk _ (List.getElem_mem (l:=b0G G a) (n:=i) (by omega));have hp:8^(l+1+1)=8*8^(l+1):=by rw[Nat.pow_succ];omega
   have hin: ∀j,j<8^(l+1)→d0F G (c0P G l (b0G G a)[i] j)=f0Y ((f+i*8^(l+1)+j:Nat):Int) m:=fun j hj=>by
    have h7:i*8^(l+1)≤7*8^(l+1):=Nat.mul_le_mul_right _ (by omega);have:=he (i*8^(l+1)+j) (by rw[hp];omega);rw[w0P hi hj,hel i hi]at this;rw[this,Nat.add_assoc]
   rw[hp]at hf;have hdv:8^(l+1) ∣ f:=Nat.dvd_trans (Nat.dvd_mul_left _ _) (Nat.dvd_of_mod_eq_zero hf);obtain⟨q,hq⟩:=hdv;have hfs:f+i*8^(l+1)=8^(l+1)*(q+i):=by rw[hq,Nat.mul_add,Nat.mul_comm i]
   have hw:0<8^(l+1):=Nat.pow_pos (by decide);split
   ·refine h.sumDoc hm hz l _ hkid ?_ hin;rw[hfs];exact Nat.mul_mod_right _ _
   ·rename_i hno;have hz0:(b0G G a)[i]=0:=h.noLeaf l hkid fun j hj=>by
     rw[hin j hj];rcases p0M ((f+i*8^(l+1)+j:Nat):Int) m with e|e
     ·rw[e];exact d0N _
     ·exfalso;refine hno (List.any_eq_true.2 ⟨_,e,?_⟩);unfold y0F;rw[decide_eq_true_eq];simp only;have:(f+i*8^(l+1)+j)/8^(l+1)*8^(l+1)=f+i*8^(l+1):=by
       rw[hfs,Nat.mul_add_div hw,Nat.div_eq_of_lt hj,Nat.add_zero,Nat.mul_comm]
      exact_mod_cast this
    rw[hz0];exact h.sum0
theorem Inv.sumMapR (h:Inv s G P) {m:List Lf} {a:Int} (ha:a0W G 3 a) (hr:l0K m (a0Z G a)):d0R G a=dgR m 2 0:=
 h.sumDoc hr.ok hr.nz 2 0 ha rfl fun j hj=>by
  have:=hr.eq j;unfold a0Z at this;rw[if_pos hj]at this;rw[this,Nat.zero_add]
end
end
end Go.Sb
namespace Go.Proofs.Q
section
open Go
end
section
open Go
end
section
open Go
end
end Go.Proofs.Q
namespace Go.Sb
section
def xat (xs:List Int) (i:Nat):Int:=xs.getD i 0
def swp (xs:List Int) (i j:Nat):List Int:=(xs.set i (xat xs j)).set j (xat xs i)
theorem s0D {xs:List Int} {i:Nat} (h:i<xs.length):xat xs i=xs[i]:=by simp[xat,h]
theorem u2J {xs:List Int} {i:Nat} (h:i<xs.length):xs[i]? =some (xat xs i):=by simp[xat,h]
theorem g1V {xs:List Int} {i j k:Nat} (hi:i<xs.length) (hj:j<xs.length):xat (swp xs i j) k=if k=j then xat xs i else if k=i then xat xs j else xat xs k:=by
 unfold swp;by_cases hk:k<xs.length
 ·rw[s0D (by simpa using hk),List.getElem_set,List.getElem_set];by_cases h1:k=j
  ·subst h1;simp
  ·rw[if_neg (Ne.symm h1),if_neg h1];by_cases h2:k=i
   ·subst h2;simp
   ·rw[if_neg (Ne.symm h2),if_neg h2,s0D hk]
 ·rw[if_neg (by omega),if_neg (by omega)];simp[xat,hk]
theorem o2Z {xs:List Int} {i j:Nat} (hi:i<xs.length) (hj:j<xs.length):(swp xs i j).Perm xs:=by
 have h:=Array.swap_perm (xs:=xs.toArray) (i:=i) (j:=j) (by simpa using hi) (by simpa using hj);have h2:=Array.perm_iff_toList_perm.1 h;simp only[Array.toList_swap]at h2;have e:swp xs i j=(xs.set i xs[j]).set j xs[i]:=by unfold swp;rw[s0D hi,s0D hj]
 rw[e];simpa using h2
structure SP (a b:Nat) (xs ys:List Int):Prop where
 perm:ys.Perm xs
 out: ∀i,i<a∨b≤i→xat ys i=xat xs i
theorem SP.refl (a b:Nat) (xs:List Int):SP a b xs xs:=⟨List.Perm.refl _,fun _ _=>rfl⟩
theorem SP.len {a b:Nat} {xs ys:List Int} (h:SP a b xs ys):ys.length=xs.length:=h.perm.length_eq
theorem SP.trans {a b:Nat} {xs ys zs:List Int} (h:SP a b xs ys) (k:SP a b ys zs):SP a b xs zs:=⟨k.perm.trans h.perm,fun i hi=>(k.out i hi).trans (h.out i hi)⟩
theorem SP.mono {a b a' b':Nat} {xs ys:List Int} (h:SP a' b' xs ys) (ha:a≤a') (hb:b'≤b):SP a b xs ys:=⟨h.perm,fun i hi=>h.out i (by omega)⟩
theorem SP.swap {a b:Nat} {xs:List Int} {i j:Nat} (hi:a≤i∧i<b) (hj:a≤j∧j<b) (hb:b≤xs.length):SP a b xs (swp xs i j):=
 ⟨o2Z (by omega) (by omega),fun k hk=>by rw[g1V (by omega) (by omega),if_neg (by omega),if_neg (by omega)]⟩
theorem SP.nodup {a b:Nat} {xs ys:List Int} (h:SP a b xs ys) (hn:xs.Nodup):ys.Nodup:=h.perm.nodup_iff.2 hn
theorem c1N {xs:List Int} (hn:xs.Nodup) {i j:Nat} (hi:i<xs.length) (hj:j<xs.length) (hne:i≠j):xat xs i≠xat xs j:=by
 rw[s0D hi,s0D hj];intro e;rcases Nat.lt_or_gt_of_ne hne with h|h
 ·exact List.pairwise_iff_getElem.1 hn i j hi hj h e
 ·exact List.pairwise_iff_getElem.1 hn j i hj hi h e.symm
theorem SP.from {a b:Nat} {xs ys:List Int} (h:SP a b xs ys) (hn:xs.Nodup) (hb:b≤xs.length) {i:Nat} (hi:a≤i∧i<b): ∃j,a≤j∧j<b∧xat ys i=xat xs j:=by
 have hl:=h.len;have hm:xat ys i∈xs:=h.perm.mem_iff.1 (by rw[s0D (show i<ys.length by omega)];exact List.getElem_mem _);obtain⟨j,hj,e⟩:=List.mem_iff_getElem.1 hm;rw[←s0D hj]at e;by_cases hjj:a≤j∧j<b
 ·exact⟨j,hjj.1,hjj.2,e.symm⟩
 ·have h1:=h.out j (by omega);rw[e]at h1;exact((c1N (h.nodup hn) (by omega) (by omega) (by omega) h1):False).elim
theorem SP.all {a b:Nat} {xs ys:List Int} (h:SP a b xs ys) (hn:xs.Nodup) (hb:b≤xs.length) {p:Int→Prop} (hp: ∀i,a≤i→i<b→p (xat xs i)): ∀i,a≤i→i<b→p (xat ys i):=fun i h1 h2=>by
 obtain⟨j,j1,j2,e⟩:=h.from hn hb ⟨h1,h2⟩;rw[e];exact hp j j1 j2
def Srt (a b:Nat) (xs:List Int):Prop:= ∀i j,a≤i→i<j→j<b→xat xs i<xat xs j
theorem Srt.list {xs:List Int} (h:Srt 0 xs.length xs):xs.Pairwise (· < ·):=List.pairwise_iff_getElem.2 fun i j hi hj hij=>by
 have:=h i j (Nat.zero_le _) hij hj
 rwa [s0D hi,s0D hj]at this
structure Ins (a i j:Nat) (xs:List Int):Prop where
 le:a≤j∧j≤i
 rest: ∀p q,a≤p→p<q→q≤i→p≠j→q≠j→xat xs p<xat xs q
 up: ∀q,j<q→q≤i→xat xs j<xat xs q
theorem Ins.begin {a i:Nat} {xs:List Int} (h:Srt a i xs) (hi:a≤i):Ins a i i xs:=⟨⟨hi,Nat.le_refl _⟩,fun p q h1 h2 h3 h4 h5=>h p q h1 h2 (by omega),fun q h1 h2=>by omega⟩
theorem Ins.step {a i j:Nat} {xs:List Int} (h:Ins a i j xs) (hj:a<j) (hil:i<xs.length) (hlt:xat xs j<xat xs (j-1)):Ins a i (j-1) (swp xs j (j-1)):=by
 have hle:=h.le;have e: ∀k,xat (swp xs j (j-1)) k=if k=j-1 then xat xs j else if k=j then xat xs (j-1)else xat xs k:=fun k=>g1V (by omega) (by omega)
 refine⟨by omega,fun p q h1 h2 h3 h4 h5=> ?_,fun q h1 h2=> ?_⟩
 ·rw[e,e,if_neg h4,if_neg h5];by_cases hp:p=j
  ·subst hp;rw[if_pos rfl,if_neg (by omega)];exact h.rest _ _ (by omega) (by omega) h3 (by omega) (by omega)
  ·rw[if_neg hp];by_cases hq:q=j
   ·subst hq;rw[if_pos rfl];exact h.rest _ _ h1 (by omega) (by omega) (by omega) (by omega)
   ·rw[if_neg hq];exact h.rest _ _ h1 h2 h3 hp hq
 ·rw[e,e,if_pos rfl,if_neg (by omega)];by_cases hq:q=j
  ·rw[if_pos hq];exact hlt
  ·rw[if_neg hq];exact h.up q (by omega) h2
theorem Ins.done {a i j:Nat} {xs:List Int} (h:Ins a i j xs) (hd:a<j→xat xs (j-1)<xat xs j):Srt a (i+1) xs:=fun p q h1 h2 h3=>by
 have hle:=h.le;by_cases hq:q=j
 ·subst hq;by_cases hp:p=q-1
  ·rw[hp];exact hd (by omega)
  ·have:=h.rest p (q-1) h1 (by omega) (by omega) (by omega) (by omega);have:=hd (by omega);omega
 ·by_cases hp:p=j
  ·subst hp;exact h.up q h2 (by omega)
  ·exact h.rest p q h1 h2 (by omega) hp hq
structure Par (a b i j:Nat) (xs:List Int):Prop where
 le:a<i∧i≤j+1∧j<b
 low: ∀k,a<k→k<i→xat xs k<xat xs a
 high: ∀k,j<k→k<b→xat xs a<xat xs k
theorem Par.inc {a b i j:Nat} {xs:List Int} (h:Par a b i j xs) (hij:i≤j) (hlt:xat xs i<xat xs a):Par a b (i+1) j xs:=by
 have hl:=h.le;refine⟨by omega,fun k k1 k2=> ?_,h.high⟩;by_cases hk:k=i
 ·rw[hk];exact hlt
 ·exact h.low k k1 (by omega)
theorem Par.dec {a b i j:Nat} {xs:List Int} (h:Par a b i j xs) (hij:i≤j) (hlt:xat xs a<xat xs j):Par a b i (j-1) xs:=by
 have hl:=h.le;refine⟨by omega,h.low,fun k k1 k2=> ?_⟩;by_cases hk:k=j
 ·rw[hk];exact hlt
 ·exact h.high k (by omega) k2
theorem Par.new {a b:Nat} {xs:List Int} (h:a<b):Par a b (a+1) (b-1) xs:=⟨by omega,fun k k1 k2=>by omega,fun k k1 k2=>by omega⟩
def Mid (a b m:Nat) (xs:List Int):Prop:=a≤m∧m<b∧(∀k,a≤k→k<m→xat xs k<xat xs m)∧ ∀k,m<k→k<b→xat xs m<xat xs k
theorem Par.swap {a b i j:Nat} {xs:List Int} (h:Par a b i j xs) (hb:b≤xs.length) (hij:i<j) (h1:xat xs a<xat xs i) (h2:xat xs j<xat xs a):Par a b (i+1) (j-1) (swp xs i j):=by
 have hl:=h.le;have e: ∀k,xat (swp xs i j) k=if k=j then xat xs i else if k=i then xat xs j else xat xs k:=fun k=>g1V (by omega) (by omega)
 have ea:xat (swp xs i j) a=xat xs a:=by rw[e,if_neg (by omega),if_neg (by omega)]
 refine⟨by omega,fun k k1 k2=> ?_,fun k k1 k2=> ?_⟩
 ·rw[ea,e,if_neg (by omega)];by_cases hk:k=i
  ·rw[if_pos hk];exact h2
  ·rw[if_neg hk];exact h.low k k1 (by omega)
 ·rw[ea,e];by_cases hk:k=j
  ·rw[if_pos hk];exact h1
  ·rw[if_neg hk,if_neg (by omega)];exact h.high k (by omega) k2
theorem Par.mid {a b i j:Nat} {xs:List Int} (h:Par a b i j xs) (hb:b≤xs.length) (hij:j<i):Mid a b j (swp xs j a):=by
 have hl:=h.le;have e: ∀k,xat (swp xs j a) k=if k=a then xat xs j else if k=j then xat xs a else xat xs k:=fun k=>g1V (by omega) (by omega)
 have ej:xat (swp xs j a) j=xat xs a:=by
  rw[e];by_cases hja:j=a
  ·subst hja;simp
  ·rw[if_neg hja,if_pos rfl]
 refine⟨by omega,by omega,fun k k1 k2=> ?_,fun k k1 k2=> ?_⟩
 ·rw[ej,e];by_cases hk:k=a
  ·rw[if_pos hk];exact h.low j (by omega) (by omega)
  ·rw[if_neg hk,if_neg (by omega)];exact h.low k (by omega) (by omega)
 ·rw[ej,e,if_neg (by omega),if_neg (by omega)];exact h.high k k1 k2
theorem Mid.sorted {a b m:Nat} {xs ys zs:List Int} (h:Mid a b m xs) (hn:xs.Nodup) (hb:b≤xs.length) (h1:SP a m xs ys) (s1:Srt a m ys) (h2:SP (m+1) b ys zs) (s2:Srt (m+1) b zs):Srt a b zs:=by
 obtain⟨m1,m2,m3,m4⟩:=h;have l1:=h1.len;have lo: ∀k,a≤k→k<m→xat zs k<xat xs m∧xat zs k=xat ys k:=fun k k1 k2=>by
  have e:=h2.out k (by omega);exact⟨by rw[e];exact h1.all hn (by omega) (p:=(· <xat xs m)) m3 k k1 k2,e⟩
 have em:xat zs m=xat xs m:=(h2.out m (by omega)).trans (h1.out m (by omega));have hi: ∀k,m<k→k<b→xat xs m<xat zs k:=fun k k1 k2=>h2.all (h1.nodup hn) (by omega) (p:=(xat xs m< ·)) (fun i i1 i2=>by rw[h1.out i (by omega)];exact m4 i (by omega) i2) k (by omega) k2;intro i j i1 i2 i3;rcases Nat.lt_trichotomy i m with c|c|c
 ·rcases Nat.lt_trichotomy j m with d|d|d
  ·rw[(lo i i1 c).2,(lo j (by omega) d).2];exact s1 i j i1 i2 d
  ·rw[d,em];exact(lo i i1 c).1
  ·have:=(lo i i1 c).1;have:=hi j d i3;omega
 ·rw[c,em];exact hi j (by omega) i3
 ·exact s2 i j (by omega) i2 i3
theorem Srt.push {a i:Nat} {xs:List Int} (h:Srt a i xs) (hlt:a<i→xat xs (i-1)<xat xs i):Srt a (i+1) xs:=fun p q h1 h2 h3=>by
 by_cases hq:q=i
 ·subst hq;have h4:=hlt (by omega);by_cases hp:p=q-1
  ·rw[hp];exact h4
  ·have:=h p (q-1) h1 (by omega) (by omega);omega
 ·exact h p q h1 h2 (by omega)
structure Pq (a b:Nat) (xs:List Int) (c d:Nat) (ys:List Int):Prop where
 le:a≤c∧c≤d∧d≤b
 sp:SP a b xs ys
 done: ∀zs,SP c d ys zs→Srt c d zs→Srt a b zs
 sep: ∀i,0<c→c≤i→i<d→xat ys (c-1)<xat ys i
theorem Pq.new {a b:Nat} {xs:List Int} (h:a≤b) (hs: ∀i,0<a→a≤i→i<b→xat xs (a-1)<xat xs i):Pq a b xs a b xs:=⟨⟨Nat.le_refl _,h,Nat.le_refl _⟩,SP.refl _ _ _,fun _ _ h=>h,hs⟩
section
variable {a b c d m:Nat} {xs ys zs ws:List Int}
theorem Pq.mix (h:Pq a b xs c d ys) (hn:xs.Nodup) (hb:b≤xs.length) (hz:SP c d ys zs):Pq a b xs c d zs:=by
 have hl:=h.le;have hyl:=h.sp.len;refine⟨hl,h.sp.trans (hz.mono hl.1 hl.2.2),fun ws h1 h2=>h.done ws (hz.trans h1) h2,fun i h0 h1 h2=> ?_⟩;rw[hz.out (c-1) (by omega)];exact hz.all (h.sp.nodup hn) (by omega) (p:=fun v=>xat ys (c-1)<v) (fun k k1 k2=>h.sep k h0 k1 k2) i h1 h2
theorem Pq.left (h:Pq a b xs c d zs) (hn:xs.Nodup) (hb:b≤xs.length) (hm:Mid c d m zs) (hw:SP c m zs ws) (hs:Srt c m ws):Pq a b xs (m+1) d ws:=by
 have hl:=h.le;have hzl:=h.sp.len;obtain⟨m1,m2,m3,m4⟩:=id hm;have hcd:=hw.mono (a:=c) (b:=d) (Nat.le_refl _) (by omega);refine⟨by omega,h.sp.trans (hcd.mono hl.1 hl.2.2),fun vs v1 v2=> ?_,fun i h0 h1 h2=> ?_⟩
 ·exact h.done vs (hcd.trans (v1.mono (by omega) (Nat.le_refl _))) (hm.sorted (h.sp.nodup hn) (by omega) hw hs v1 v2)
 ·rw[Nat.add_sub_cancel,hw.out m (by omega),hw.out i (by omega)];exact m4 i (by omega) h2
theorem Mid.sorted' (h:Mid a b m xs) (hn:xs.Nodup) (hb:b≤xs.length) (h1:SP (m+1) b xs ys) (s1:Srt (m+1) b ys) (h2:SP a m ys zs) (s2:Srt a m zs):Srt a b zs:=by
 obtain⟨m1,m2,m3,m4⟩:=h;have l1:=h1.len;have hi: ∀k,m<k→k<b→xat xs m<xat zs k∧xat zs k=xat ys k:=fun k k1 k2=>by
  have e:=h2.out k (by omega);exact⟨by rw[e];exact h1.all hn hb (p:=(xat xs m< ·)) (fun i i1 i2=>m4 i (by omega) i2) k (by omega) k2,e⟩
 have em:xat zs m=xat xs m:=(h2.out m (by omega)).trans (h1.out m (by omega));have lo: ∀k,a≤k→k<m→xat zs k<xat xs m:=fun k k1 k2=>h2.all (h1.nodup hn) (by omega) (p:=(· <xat xs m)) (fun i i1 i2=>by rw[h1.out i (by omega)];exact m3 i i1 i2) k k1 k2;intro i j i1 i2 i3;rcases Nat.lt_trichotomy i m with c|c|c
 ·rcases Nat.lt_trichotomy j m with d|d|d
  ·exact s2 i j i1 i2 d
  ·rw[d,em];exact lo i i1 c
  ·have:=lo i i1 c;have:=(hi j d i3).1;omega
 ·rw[c,em];exact(hi j (by omega) i3).1
 ·rw[(hi i c (by omega)).2,(hi j (by omega) i3).2];exact s1 i j (by omega) i2 i3
theorem Pq.right (h:Pq a b xs c d zs) (hn:xs.Nodup) (hb:b≤xs.length) (hm:Mid c d m zs) (hw:SP (m+1) d zs ws) (hs:Srt (m+1) d ws):Pq a b xs c m ws:=by
 have hl:=h.le;have hzl:=h.sp.len;obtain⟨m1,m2,m3,m4⟩:=id hm;have hcd:=hw.mono (a:=c) (b:=d) (by omega) (Nat.le_refl _);refine⟨by omega,h.sp.trans (hcd.mono hl.1 hl.2.2),fun vs v1 v2=> ?_,fun i h0 h1 h2=> ?_⟩
 ·exact h.done vs (hcd.trans (v1.mono (Nat.le_refl _) (by omega))) (hm.sorted' (h.sp.nodup hn) (by omega) hw hs v1 v2)
 ·rw[hw.out (c-1) (by omega),hw.out i (by omega)];exact h.sep i h0 h1 (by omega)
theorem Pq.sepL (h:Pq a b xs c d zs) (hm:Mid c d m zs): ∀i,0<c→c≤i→i<m→xat zs (c-1)<xat zs i:=fun i h0 h1 h2=>h.sep i h0 h1 (by have:=hm.2.1;omega)
theorem Mid.sepR (hm:Mid c d m zs): ∀i,0<m+1→m+1≤i→i<d→xat zs (m+1-1)<xat zs i:=fun i _ h1 h2=>hm.2.2.2 i (by omega) h2
end
end
end Go.Sb
namespace Go.Sl
section
section
variable {κ ν:Type} {ek:κ→Value} {ev:ν→Value}
def t0R (r b:Nat) (ek:κ→Value) (ev:ν→Value) (m todo:List (κ×ν)) (cur:Option (κ×ν)):a0E:=fun l=>
 ∃(es:List (MapEntry×κ×ν)) (clk:Nat) (seen:Array Nat),es.map (·.2)=m∧(∀e∈es,e.1.key=ek e.2.1∧e.1.val=ev e.2.2)∧(es.map (·.1.born)).Nodup∧(∀e∈es,e.1.born<clk)∧
  ((es.filter fun e=> !seen.contains e.1.born).map (·.2)).Perm todo∧(∀p,cur=some p→ ∃e∈es,e.2=p∧seen.back? =some e.1.born)∧
  l= [(b,.map (es.map (·.1)).toArray clk),(r,.mapIter (some b) clk seen clk)]
theorem c1O {r b:Nat} {m todo:List (κ×ν)} {cur:Option (κ×ν)} {w:World} {L:List a0E} (h:Sat w (t0R r b ek ev m todo cur::L)):
 ∃(es:List (MapEntry×κ×ν)) (clk:Nat) (seen:Array Nat),es.map (·.2)=m∧(∀e∈es,e.1.key=ek e.2.1∧e.1.val=ev e.2.2)∧(es.map (·.1.born)).Nodup∧(∀e∈es,e.1.born<clk)∧
 ((es.filter fun e=> !seen.contains e.1.born).map (·.2)).Perm todo∧(∀p,cur=some p→ ∃e∈es,e.2=p∧seen.back? =some e.1.born)∧
 Sat w (pts b (.map (es.map (·.1)).toArray clk)::pts r (.mapIter (some b) clk seen clk)::L):=by
 obtain⟨l,⟨l1,l2,rfl,⟨es,clk,seen,a1,a2,a3,a4,a5,a6,rfl⟩,h2⟩,hn,hh⟩:=h;exact⟨es,clk,seen,a1,a2,a3,a4,a5,a6,_,⟨_,_,rfl,rfl,_,l2,rfl,rfl,h2⟩,hn,hh⟩
theorem o1K {r b:Nat} {m todo:List (κ×ν)} {cur:Option (κ×ν)} {w:World} {L:List a0E} {es:List (MapEntry×κ×ν)} {clk:Nat} {seen:Array Nat} (a1:es.map (·.2)=m) (a2: ∀e∈es,e.1.key=ek e.2.1∧e.1.val=ev e.2.2)
 (a3:(es.map (·.1.born)).Nodup) (a4: ∀e∈es,e.1.born<clk) (a5:((es.filter fun e=> !seen.contains e.1.born).map (·.2)).Perm todo) (a6: ∀p,cur=some p→ ∃e∈es,e.2=p∧seen.back? =some e.1.born)
 (h:Sat w (pts b (.map (es.map (·.1)).toArray clk)::pts r (.mapIter (some b) clk seen clk)::L)):Sat w (t0R r b ek ev m todo cur::L):=by
 obtain⟨l,⟨l1,l2,rfl,rfl,l3,l4,rfl,rfl,h2⟩,hn,hh⟩:=h;exact⟨_,⟨_,l4,rfl,⟨es,clk,seen,a1,a2,a3,a4,a5,a6,rfl⟩,h2⟩,hn,hh⟩
theorem u1T {r b:Nat} {m todo:List (κ×ν)} {cur:Option (κ×ν)} {w:World} {L:List a0E} (h:Sat w (t0R r b ek ev m todo cur::L)):Sat w (b0K b ek ev m::L):=by
 obtain⟨es,clk,seen,a1,a2,a3,a4,a5,a6,hs⟩:=c1O h;refine x0C (es:=es.map (·.1)) (clk:=clk) ?_ (by simpa [List.map_map,Function.comp_def] using a3) (fun e he=> ?_) ((hs.perm (List.Perm.swap _ _ _)).tail)
 ·rw[←a1,List.map_map,List.map_map];exact List.map_congr_left fun e he=>by simp[(a2 e he).1,(a2 e he).2]
 ·obtain⟨q,hq,rfl⟩:=List.mem_map.1 he;exact a4 q hq
def nxV (ek:κ→Value) (ev:ν→Value):Option (κ×ν)→Value
 |none=> .tuple #[.bool false]
 |some p=> .tuple #[.bool true,ek p.1,ev p.2]
section
variable {c:Cx} {ops:Array Oper} {Q:Exit→Act→World→Prop} {rest:List Oper} {env:List (Nat×Value)} {L M:List a0E} {d:Tmp} {ty:TypeId} {pos:String} {af:Array Edge}
theorem u1U {x:Operand} {t kt et b:Nat} {m:List (κ×ν)} (ht:q0I c.P t kt et=true) (hx:evo env x=some (.map (some b))) (hL:Fnd L (b0K b ek ev m) M)
 (h: ∀r,OW c ops Q rest ((d,.pointer (some ⟨r,0,none⟩))::env) (t0R r b ek ev m m none::M)) (hd:Nat.blt d c.n=true:=by rfl):OW c ops Q (⟨some d,.range t x,ty,pos,af,none⟩::rest) env L:=by
 intro a w hh;obtain⟨es,clk,e1,e2,e3,hs⟩:=t0I (hL.sat hh.sat);unfold q0I at ht;split at ht
 case h_2=>cases ht
 rename_i k' e' hu;refine wpList_plain rfl fun K hK=> ?_;unfold Oper.wp;have hrun:(execOp a.eval ⟨some d,.range t x,ty,pos,af,none⟩).run c.P w= .ok (.value (.pointer (some ⟨w.heap.size,0,none⟩))) (w.alloc (.mapIter (some b) clk #[] clk)):=by
  simp[execOp,hh.eval hx,run_range_map w t _ _ b es.toArray clk hu hs.pts]
 rw[hrun];have hlen:es.length=m.length:=by have:=congrArg List.length e1;simpa using this
 have hz: ∀i (h1:i<es.length) (h2:i<m.length),es[i].key=ek m[i].1∧es[i].val=ev m[i].2:=fun i h1 h2=>by
  have:=congrArg (·[i]?) e1;simp only[List.getElem?_map,List.getElem?_eq_getElem h1,List.getElem?_eq_getElem h2,Option.map_some,Option.some.injEq,Prod.mk.injEq]at this;exact this
 refine hK _ _ (h w.heap.size _ _ ((⟨hh.size,hh.slots,hh.defers,?_,hh.like.alloc _⟩:b0J c env (t0R w.heap.size b ek ev m m none::M) a _).put d _ hd));have f1:(es.zip m).map (·.1)=es:=List.map_fst_zip (by omega);have f2:(es.zip m).map (·.2)=m:=List.map_snd_zip (by omega);refine o1K (es:=es.zip m) (clk:=clk) (seen:= #[]) f2 (fun e he=> ?_) ?_ (fun e he=> ?_) ?_ (fun p hp=>by cases hp) ?_
 ·obtain⟨i,hi,rfl⟩:=List.mem_iff_getElem.1 he;rw[List.getElem_zip];exact hz i (by simp at hi;omega) (by simp at hi;omega)
 ·rw[show(es.zip m).map (fun e=>e.1.born)=((es.zip m).map (·.1)).map (·.born) by rw[List.map_map];rfl,f1];exact e2
 ·exact e3 e.1 (List.of_mem_zip he).1
 ·rw[List.filter_eq_self.2 (fun e _=>by simp),f2]
 ·rw[f1];exact(hs.alloc _).perm (List.Perm.swap _ _ _)
theorem j2Y {P:Program} {w:World} {r b clk:Nat} {ty:TypeId} {seen:Array Nat} {es:Array MapEntry} (hr:w.heap[r]? =some (.mapIter (some b) clk seen clk)) (hb:w.heap[b]? =some (.map es clk)) (hold: ∀x∈es.toList,x.born<clk):
 ((leftOf es seen).toList= []∧(Instr.next (.pointer (some ⟨r,0,none⟩)) false ty).run P w= .ok (.tuple #[.bool false]) w)∨
 ∃e∈(leftOf es seen).toList,∃w1:World,(w1=w∨w1=w.drew)∧(Instr.next (.pointer (some ⟨r,0,none⟩)) false ty).run P w= .ok (.tuple #[.bool true,e.key,e.val]) (put w1 r (.mapIter (some b) clk (seen.push e.born) clk)):=by
 simp only[Instr.next,getObj,Sem.run_bind,Sem.run,hr,hb,Result.andThen,next_test_false seen es clk clk hold (Nat.le_refl _),Bool.false_eq_true,if_false];unfold leftOf;have hmem: ∀x∈(Array.filter (fun e=> !seen.contains e.born) es).toList,x.born<clk:=fun x hx=>hold x (by simp at hx ⊢;exact hx.1);generalize Array.filter (fun e=> !seen.contains e.born) es=Z at hmem ⊢;have e1:Z.filter (fun x=>decide (x.born<clk))=Z:=Array.filter_eq_self.2 (fun x hx=>by simpa using hmem x (by simpa using hx));have e2:Z.filter (fun x=>decide (x.born≥clk))= #[]:=by
  rw[Array.filter_eq_empty_iff];intro x hx;have:=hmem x (by simpa using hx);simp;omega
 simp only[e1,e2,Array.append_empty];by_cases h0:Z.size=0
 ·left;have:Z= #[]:=Array.eq_empty_of_size_eq_zero h0;subst this;refine⟨rfl,?_⟩;simp[choose,Sem.run,Question.forced]
 ·right;have hne:Z.isEmpty=false:=by simp[Array.isEmpty,h0]
  simp only[hne,Bool.false_eq_true,if_false,Array.empty_append,Array.size_map];have hch: ∃(j:Nat) (w1:World),j<Z.size∧(w1=w∨w1=w.drew)∧(choose (Question.mapNext Z.size)).run P w= .ok j w1:=by
   by_cases hf:Z.size≤1
   ·exact⟨0,w,by omega,.inl rfl,by simp[choose,Sem.run,Question.forced,hf]⟩
   ·exact⟨_,w.drew,Nat.mod_lt _ (by omega),.inr rfl,by
     simp only[choose,Sem.run,Question.forced,decide_eq_true_eq,hf,if_false,Question.cut];rfl⟩
  obtain⟨j,w1,hj,hal,hrun⟩:=hch;refine⟨Z[j],by simp,w1,hal,?_⟩;have hr1:w1.heap[r]? =some (.mapIter (some b) clk seen clk):=by rcases hal with rfl|rfl<;>exact hr
  have hset: ∀o',(setObj r o').run P w1= .ok () (put w1 r o'):=fun o'=>by
   simp only[setObj,Sem.run,hr1];rfl
  simp only[hrun,Array.getElem?_map,Array.getElem?_eq_getElem hj,Option.map_some,Sem.run_bind,hset,Result.andThen];rfl
theorem b2U {it:Operand} {r b:Nat} {m todo:List (κ×ν)} {cur:Option (κ×ν)} (hx:evo env it=some (.pointer (some ⟨r,0,none⟩))) (hL:Fnd L (t0R r b ek ev m todo cur) M)
 (h: ∀(z:Option (κ×ν)) (todo':List (κ×ν)),todo.Perm (z.toList++todo')→(z=none→todo= [])→OW c ops Q rest ((d,nxV ek ev z)::env) (t0R r b ek ev m todo' z::M)) (hd:Nat.blt d c.n=true:=by rfl):
 OW c ops Q (⟨some d,.next it false,ty,pos,af,none⟩::rest) env L:=by
 intro a w hh;obtain⟨es,clk,seen,a1,a2,a3,a4,a5,a6,hs⟩:=c1O (hL.sat hh.sat);refine wpList_plain rfl fun K hK=> ?_;unfold Oper.wp;have hleft:(leftOf (es.map (·.1)).toArray seen).toList=(es.filter fun e=> !seen.contains e.1.born).map (·.1):=by
  unfold leftOf;rw[Array.toList_filter,List.filter_map];rfl
 have hk: ∀res w',(Instr.next (.pointer (some ⟨r,0,none⟩)) false ty).run c.P w= .ok res w'→(execOp a.eval ⟨some d,.next it false,ty,pos,af,none⟩).run c.P w= .ok (.value res) w':=fun res w' e=>by
  simp[execOp,hh.eval hx,e]
 rcases j2Y (P:=c.P) (ty:=ty) (hs.perm (List.Perm.swap _ _ _)).pts hs.pts (fun x hx=>by
  obtain⟨q,hq,rfl⟩:=List.mem_map.1 (by simpa using hx:x∈es.map (·.1));exact a4 q hq)with ⟨h0,hr⟩| ⟨e,he,w1,hw1,hr⟩
 ·rw[hk _ _ hr];rw[hleft,List.map_eq_nil_iff]at h0;have ht:todo= []:=by rw[h0]at a5;exact(List.Perm.nil_eq a5).symm
  refine hK _ _ (h none [] (by rw[ht];exact List.Perm.refl _) (fun _=>ht) _ _ ((⟨hh.size,hh.slots,hh.defers,?_,hh.like⟩:b0J c env (t0R r b ek ev m [] none::M) a w).put d _ hd));exact o1K a1 a2 a3 a4 (by rw[h0];exact List.Perm.refl _) (fun p hp=>by cases hp) hs
 ·rw[hk _ _ hr];rw[hleft]at he;obtain⟨q,hq,rfl⟩:=List.mem_map.1 he;obtain⟨hq1,hq2⟩:=List.mem_filter.1 hq;have hkv:=a2 q hq1;have hs1:Sat w1 (pts b (.map (es.map (·.1)).toArray clk)::pts r (.mapIter (some b) clk seen clk)::M):=by rcases hw1 with rfl|rfl;(exact hs);exact hs.drew
  have hl1:d0S c.w0 w1:=by rcases hw1 with rfl|rfl;(exact hh.like);exact hh.like.drew
  have hv:(Value.tuple #[.bool true,q.1.key,q.1.val])=nxV ek ev (some q.2):=by simp[nxV,hkv.1,hkv.2]
  rw[hv]
  -- those that are left behind it
  have hinj: ∀x∈es,x.1.born=q.1.born→x=q:=fun x hx e=>by
   obtain⟨i,hi,rfl⟩:=List.mem_iff_getElem.1 hx;obtain⟨j,hj,rfl⟩:=List.mem_iff_getElem.1 hq1;have:i=j:=by
    refine Classical.byContradiction fun hne=> ?_;rcases Nat.lt_or_gt_of_ne hne with g|g
    ·exact List.pairwise_iff_getElem.1 a3 i j (by simpa using hi) (by simpa using hj) g (by simpa using e)
    ·exact List.pairwise_iff_getElem.1 a3 j i (by simpa using hj) (by simpa using hi) g (by simpa using e.symm)
   subst this;rfl
  have hnd:es.Nodup:=(List.pairwise_map.1 a3).imp fun h e=>h (by rw[e]);have hperm:(es.filter fun e=> !seen.contains e.1.born).Perm (q::es.filter fun e=> !(seen.push q.1.born).contains e.1.born):=by
   refine(List.perm_ext_iff_of_nodup (hnd.filter _) ?_).2 fun x=> ?_
   ·refine List.nodup_cons.2 ⟨fun hm=> ?_,hnd.filter _⟩;have:=(List.mem_filter.1 hm).2;simp at this
   ·rw[List.mem_filter,List.mem_cons,List.mem_filter];constructor
    ·rintro⟨h1,h2⟩;by_cases e:x=q
     ·exact .inl e
     ·refine .inr ⟨h1,?_⟩;have: ¬x.1.born=q.1.born:=fun e'=>e (hinj x h1 e');simp at h2 ⊢;exact⟨h2,this⟩
    ·rintro(rfl| ⟨h1,h2⟩)
     ·exact⟨hq1,hq2⟩
     ·simp at h2;exact⟨h1,by simpa using h2.1⟩
  refine hK _ _ (h (some q.2) ((es.filter fun e=> !(seen.push q.1.born).contains e.1.born).map (·.2)) ?_ (fun e=>by cases e) _ _ ((⟨hh.size,hh.slots,hh.defers,?_,hl1.put _ _⟩:b0J c env (t0R r b ek ev m _ (some q.2)::M) a _).put d _ hd))
  ·exact a5.symm.trans (by simpa using hperm.map (·.2))
  ·refine o1K a1 a2 a3 a4 (List.Perm.refl _) (fun p hp=>⟨q,hq1,by cases hp;rfl,by simp⟩) ?_;exact((hs1.perm (List.Perm.swap _ _ _)).put).perm (List.Perm.swap _ _ _)
theorem s2N {x:Operand} {z:Option (κ×ν)} {dd:Option Tmp} {g:Option (Nat×Bool)} (hx:evo env x=some (nxV ek ev z)):a0P c ⟨dd,.extract x 0,ty,pos,af,g⟩ env L (.bool z.isSome):=by
 cases z with
 |none=>exact d2L (vs:= [.bool false]) hx rfl
 |some p=>exact d2L (vs:= [.bool true,ek p.1,ev p.2]) hx rfl
theorem b2V {it:Operand} {r b:Nat} {m todo:List (κ×ν)} {p:κ×ν} {dd:Option Tmp} {g:Option (Nat×Bool)} (hx:evo env it=some (.pointer (some ⟨r,0,none⟩))) (hL:Fnd L (t0R r b ek ev m todo (some p)) M):
 a0P c ⟨dd,.entry it,ty,pos,af,g⟩ env L (.tuple #[ek p.1,ev p.2]):=by
 intro a w hh;obtain⟨es,clk,seen,a1,a2,a3,a4,a5,a6,hs⟩:=c1O (hL.sat hh.sat);obtain⟨q,hq,rfl,hbk⟩:=a6 _ rfl;have hr:=(hs.perm (List.Perm.swap _ _ _)).pts;have hf:(es.map (·.1)).toArray.find? (·.born == q.1.born)=some q.1:=by
  rw[←Array.find?_toList];exact find_born q.1 _ (by simpa [List.map_map,Function.comp_def] using a3) (List.mem_map.2 ⟨q,hq,rfl⟩)
 have hkv:=a2 q hq;simp only[execOp,hh.eval hx,Instr.entry,getObj,Sem.run_bind,Sem.run,hr,hs.pts,Result.andThen,hbk,bne_self_eq_false,Bool.false_eq_true,if_false,hf];rw[hkv.1,hkv.2];rfl
end
end
end
end Go.Sl
namespace Go.Proofs.Q
section
open Go
end
end Go.Proofs.Q
namespace Go.Sl
open Go.Sort
theorem j2Z {w w':World} {L:List a0E} (h:Sat w L) (hw: ∀(b:Nat) (o:Obj),w.heap[b]? =some o→w'.heap[b]? =some o):Sat w' L:=by
 obtain⟨l,h1,h2,h3⟩:=h;exact⟨l,h1,h2,fun b o hm=>hw b o (h3 b o hm)⟩
theorem p2A {w:World} {g k:Nat} {e:TypeId} {cur:List Value} {zs:List Int} {os:Array Obj} {L:List a0E} (h:Sat w (pts g (.cells cur.toArray e (0,0))::L)) (hl:zs.length≤cur.length):
 Sat (grow (putRow (Value.int .i64) (Sort.ahead w k) g 0 zs.toArray) os) (pts g (.cells (zs.map (Value.int .i64)++cur.drop zs.length).toArray e (0,0))::L):=by
 have hg:=h.pts;refine j2Z (h.put (o':= .cells (zs.map (Value.int .i64)++cur.drop zs.length).toArray e (0,0))) fun b o hb=> ?_;have hgs:=r0F hg;simp only[Sl.put,Array.getElem?_setIfInBounds]at hb;have hbs:b<w.heap.size:=by
  rcases Nat.lt_or_ge b w.heap.size with h'|h'
  ·exact h'
  ·split at hb
   ·omega
   ·rw[Array.getElem?_eq_none h']at hb;cases hb
 simp only[grow,putRow,mapBlock,Sort.ahead,Array.getElem?_append,Array.size_modify,if_pos hbs,Array.getElem?_modify];by_cases e1:g=b
 ·subst e1;rw[if_pos rfl,if_pos hgs]at hb;rw[if_pos rfl,hg];cases hb
  simp only[Option.map_some,onCells,Option.some.injEq,Obj.cells.injEq,and_true];apply Array.ext_getElem?;intro i;simp only[putCells,Array.getElem?_mapIdx,List.getElem?_toArray,Nat.zero_le,true_and,Nat.zero_add,List.size_toArray,Nat.sub_zero,List.getElem?_append,List.length_map,List.getElem?_map,List.getElem?_drop];by_cases hi:i<zs.length
  ·rw[if_pos hi,List.getElem?_eq_getElem (show i<cur.length by omega),List.getElem?_eq_getElem hi];simp[hi]
  ·rw[if_neg hi,show zs.length+(i-zs.length)=i by omega];cases cur[i]? with
   |none=>rfl
   |some v=>simp[hi]
 ·rw[if_neg e1]at hb ⊢;exact hb
theorem k2A {P:Program} {f:FuncId} {e:TypeId}
 (hS: ∀(blk off cap:Nat) (zs:List Int) (w:World),Go.Sort.Holds (Value.int .i64) w blk off zs.toArray→blk<w.heap.size→zs.length<4611686018427387904→Calls P f #[.slice (some ⟨blk,off,none⟩) zs.length cap] w fun e w'=>e= .returned (.tuple #[])∧ ∃n os,w'=grow (putRow (Value.int .i64) (Sort.ahead w n) blk off (zs.mergeSort fun x y=>decide (x≤y)).toArray) os)
 (hN: ∀(p:Option Addr) (cap:Nat) (w:World),Calls P f #[.slice p 0 cap] w fun e w'=>e= .returned (.tuple #[])∧w'=w)
 (v:Value) (zs:List Int) (hz:zs.length<1000000):
 a0G P f #[v] [b0I e 1 v zs.length (zs.map (Value.int .i64))] (b0P (fun ys:List Int=>ys.length=zs.length) (fun _=> .tuple #[]) (fun ys=> [b0I e 1 v zs.length (ys.map (Value.int .i64))])):=by
 intro w F hs;have hs0:Sat w (b0I e 1 v zs.length (zs.map (Value.int .i64)):: [F]):=hs;obtain⟨hl,hc⟩:=f0O hs0;rcases hc with ⟨rfl,h0,h1⟩| ⟨g,cap,cur,rfl,h1,h2,h3,h4,h5⟩
 ·rw[h0];have hz0:zs= []:=List.length_eq_zero_iff.1 h0;refine(hN none 0 w).mono ?_;rintro en w' ⟨rfl,rfl⟩;exact⟨_,⟨zs,h0,rfl,rfl⟩,by rw[h0]at hs0;exact hs0,d0S.refl _⟩
 ·have hcl:zs.length≤cur.length:=by omega
  have g0X: ∀j (h:j<zs.length),cur[j]? =some (.int .i64 zs[j]):=fun j h=>by
   have:=congrArg (·[j]?) h4;simp only[List.getElem?_take,Nat.mul_one,if_pos h,List.getElem?_map,List.getElem?_eq_getElem h,Option.map_some]at this;exact this
  have hg:=h5.pts;refine(hS g 0 cap zs w (fun j hj=> ?_) (r0F hg) (by omega)).mono ?_
  ·have hj':j<zs.length:=by simpa using hj
   refine⟨?_,?_⟩
   ·have e1:zs.toArray[j]! =zs[j]:=by rw[getElem!_pos _ j hj];simp
    rw[e1];simp[World.cell?,hg,g0X j hj']
   ·simp[World.frozen?,hg]
  ·rintro en w' ⟨rfl,n,os,rfl⟩;have hml:(zs.mergeSort fun x y=>decide (x≤y)).length=zs.length:=List.length_mergeSort _;have:=p2A (k:=n) (os:=os) h5 (zs:=zs.mergeSort fun x y=>decide (x≤y)) (by omega);refine⟨_,⟨zs.mergeSort fun x y=>decide (x≤y),hml,rfl,rfl⟩,r0J this h1 h2 ?_ ?_,rfl,rfl,rfl⟩
   ·rw[List.length_append,List.length_map,List.length_drop,hml];omega
   ·rw[List.take_left'];rw[List.length_map,hml,Nat.mul_one]
theorem y1W {c:Cx} {Q:Exit→Act→World→Prop} {env:List (Nat×Value)} {L M:List a0E} {y:Code} {e:TypeId} {size:Nat} {v:Value} {n:Nat} {xs:List Value} (hL:Fnd L (b0I e size v n xs) M)
 (h0:v= .slice none 0 0→n=0→CW c y Q env L) (h1: ∀b cap,v= .slice (some ⟨b,0,none⟩) n cap→n≤cap→CW c y Q env L):CW c y Q env L:=fun a w hh=>by
 obtain⟨hl,hc⟩:=f0O (hL.sat hh.sat);rcases hc with ⟨rfl,rfl,_⟩| ⟨b,cap,cur,rfl,g1,_⟩
 ·exact h0 rfl rfl a w hh
 ·exact h1 b cap rfl g1 a w hh
theorem u1V {c:Cx} {env:List (Nat×Value)} {L:List a0E} {d:Option Tmp} {ty:TypeId} {pos:String} {af:Array Edge} {g:Option (Nat×Bool)} {x y:Operand} {t yt:TypeId} {X Y:List Value} {ks:List Nat} {b:Bool} (ht:n1S c.P t=some ks)
 (hx:evo env x=some (.agg X.toArray)) (hy:evo env y=some (.agg Y.toArray)) (hb:eqK ks X Y=some b):a0P c ⟨d,.binOp .neq t x y yt,ty,pos,af,g⟩ env L (.bool (!b)):=by
 intro a w h;unfold n1S at ht;split at ht
 case h_2=>cases ht
 rename_i fs hu;split at ht
 case isFalse=>cases ht
 rename_i hc;simp only[Bool.and_eq_true,Bool.not_eq_true']at hc;have hfs:c.P.fieldsOf t=fs:=by simp[Program.fieldsOf,hu]
 have e1:(Op.equalIn (9999+1) t (.agg X.toArray) (.agg Y.toArray)).run c.P w= .ok b w:=by
  rw[run_equalIn_struct w 9999 t _ _ (by rw[hfs];exact hu) hc.1,hfs];exact g1K 9998 w X Y fs.toList 0 ks b ht (by simpa using hb)
 have e2:(binOp .neq t (.agg X.toArray) (.agg Y.toArray)).run c.P w= .ok (.bool (!b)) w:=by
  rw[run_neq_struct];rw[show(10000:Nat)=9999+1 from rfl,e1];rfl
 simp only[execOp,h.eval hx,h.eval hy,Sem.run_bind,run_eqGuard_agg w .neq t x y _ _ hc.2,Result.andThen_ok,e2,Sem.run_pure]
theorem z0F {c:Cx} {ops:Array Oper} {Q:Exit→Act→World→Prop} {rest:List Oper} {env:List (Nat×Value)} {L M:List a0E} {e:TypeId} {size:Nat} {v:Value} {n:Nat} {xs:List Value} (hL:Fnd L (b0I e size v n xs) M) (h:v.oneCell'=true→OW c ops Q rest env L):OW c ops Q rest env L:=fun a w hh=>h (n1O (hL.sat hh.sat)) a w hh
end Go.Sl
