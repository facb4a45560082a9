/- Part of the proof; no statement of its own. -/
import Derived.Test.YtpinhnikemamjaaGreatDoorD19
import Derived.Test.YtpinhnikemamjaaGreatDoorD30
import Derived.Test.YtpinhnikemamjaaGreatDoorD31
import Derived.Test.YtpinhnikemamjaaGreatDoorD32
import Derived.Test.YtpinhnikemamjaaGreatDoorD18
import Derived.Test.YtpinhnikemamjaaGreatDoorD27
import Derived.Test.YtpinhnikemamjaaGreatDoorD16
import Derived.Test.YtpinhnikemamjaaGreatDoorProg
import Derived.KernelRfl
import Derived.Test.YtpinhnikemamjaaGreatDoorD08
import Derived.Test.YtpinhnikemamjaaGreatDoorD24
import Derived.Test.YtpinhnikemamjaaGreatDoorD29
set_option linter.all false
set_option maxRecDepth 4000
set_option maxHeartbeats 4000000
attribute [local irreducible] Go.Sl.a0P Go.Sl.OW Go.Sl.CW Go.Sl.OS Go.Sl.OM Go.Sl.OMf Go.Sl.KM
namespace Go.Proofs.Q
open Go.Sl Go.Sb Tryz
section
theorem y2S (b:Nat):a0G prog 91 #[.map (some b)] [] (b0P (fun _:Nat=>True) (fun x=> .func (.func 136) #[] #[ptr x]) (fun x=> [pts x (.cells #[.map (some b)] 57 (0,0))])):=by
 refine en func91 ntmps91 fun R w0=> ?_;refine go 2 ?_;refine bx fun a=> ?_;refine go 9 ?_;exact rE idh a trivial
abbrev ksA (b2:Nat) (acc:List Int) (v:Value):List a0E:= [pts b2 (.cells #[v] 159 (0,0)),b0I 47 1 v acc.length (us acc)]
abbrev ksJ (b2 l:Nat) (rec:Loop) (acc:List Int):a0E:=ex fun v:Value=>b0E (pts l (.loop (j0B rec none))::ksA b2 acc v)
theorem d2B {a l:Nat} {rec:Loop} {acc:List Int} {w:World} {M:List a0E} (v:Value) (h:Sat w (pts l (.loop (j0B rec none))::(ksA a acc v++M))):Sat w (ksJ a l rec acc::M):=g0K.2 ⟨v,b0M.2 h⟩
section
variable {ν:Type} {ev:ν→Value}
theorem a2F (b f:Nat) (m:List (Int×ν)) (I:m.length≤1000):a0G prog 178 #[.slice none 0 0,.func (.func 136) #[] #[ptr f]] [pts f (.cells #[.map (some b)] 57 (0,0)),b0K b e0J ev m]
 (b0P (fun x:Value×List Int=>x.2.Perm (m.map (·.1))) (fun x=>x.1) (fun x=> [b0I 47 1 x.1 x.2.length (us x.2),b0K b e0J ev m])):=by
 refine z0S func178 rfl ntmps178 rfl (fun R w0=> ?_);simp only[j0X,List.cons_append,List.nil_append];refine go 1 ?_;refine b0U (fun w h=>f0E 47 1 w h) ?_;refine go 1 ?_;refine bx fun c=> ?_;refine go 10 ?_;refine i1V (X:=List Int) (ok:=fun acc=>acc.Perm (m.map (·.1))) (v:=fun _=> .tuple #[]) (jump:=fun _=>none) (N:=fun acc=> [b0K b e0J ev m,ex fun v:Value=>b0E (ksA c acc v)]) rfl Hb.o (show b0A _ ([pts f (.cells #[.map (some b)] 57 (0,0)),b0K b e0J ev m]++ksA c [] (.slice none 0 0)) _ from gSp) ?_ ?_ ?_
 ·intro l D fn tmps n j rec a;refine n1V (fun w F h=> ?_) (w2F (ev:=ev) l f b m (ksJ c l rec) (fun acc k E=> ?_)) (fun e L G=> ?_)
  ·simp only[List.cons_append,List.nil_append]at h ⊢;have y:Sat w (pts l (.loop (j0B rec none))::(ksA c [] (.slice none 0 0)++ [pts f (.cells #[.map (some b)] 57 (0,0)),b0K b e0J ev m,F])):=by
    simp only[List.cons_append,List.nil_append,j0B,Option.isNone_none,if_true];rw[show({rec with state:= .ready,pending:=none} :Loop)=rec by rw[a]];exact h.re gSp
   exact d2B _ y
  rotate_left
  ·obtain⟨acc,g,rfl,rfl⟩:=G;refine⟨_,⟨acc,g,rfl,rfl⟩,fun w F h=> ?_⟩;simp only[List.cons_append,List.nil_append]at h ⊢;obtain⟨v,z⟩:=g0K.1 h;have p:=b0M.1 z;simp only[List.cons_append,List.nil_append]at p;have A:Sat w (b0E (ksA c acc v)::(pts l (.loop (j0B rec none)):: [b0K b e0J ev m,F])):=b0M.2 (by simp only[List.cons_append,List.nil_append];exact p.re gSp);have B:Sat w ((ex fun v=>b0E (ksA c acc v))::(pts l (.loop (j0B rec none)):: [b0K b e0J ev m,F])):=g0K.2 ⟨v,A⟩;exact B.re gSp
  obtain⟨H,i⟩:=E;have C:acc.length+1≤1000:=by have:=i.length_eq;simp at this;omega
  refine i1W fun v=> ?_;subst a;refine z0R rfl n j rfl (fun t w2=> ?_);refine ns ?_;skip;refine p0A (by repeat (first|exact p0C|exact v0N|apply q0O|apply p0B)) rfl ?_;refine go 2 ?_;refine i1U rfl gFd ?_;refine i1T ?_;refine p0A (by repeat (first|exact p0C|exact v0N|apply q0O|apply p0B)) rfl ?_;refine go 2 ?_;refine bl fun u=> ?_;refine(d0E Tsl.o Ttb.o Zr.o rfl rfl rfl gFd (f0I Tsl.o (by simp;rfl) (by simp) (by simp[Value.oneCell'])) (by simp only[maxLen];omega) (by omega) (fun d r=> ?_));refine go 2 ?_;repeat (first|with_reducible refine m0I ?_|with_reducible refine q0P ?_|with_reducible refine n0X rfl ?_)
  refine y0X gFd (fun w h=>⟨_,⟨rfl,rfl⟩,d2B (M:= [t]) d ?_⟩) rfl;simp only[List.cons_append,List.nil_append]at h ⊢;rw[show b0I 47 1 d (acc++ [k]).length (us (acc++ [k]))=b0I 47 1 d (acc.length+1) (us acc++ [u4 k]) by rw[List.length_append,us,List.map_append];rfl];exact h.sub gSp
 ·intro D x s q;skip;refine go 2 ?_;refine ns ?_;refine v0M (show Fnd _ (ex fun v:Value=>b0E (ksA c x v)) _ from gFd) fun v=> ?_;refine ns ?_;refine go 5 ?_;exact g1L idh rfl gSp ⟨(v,x),s,rfl,rfl⟩
 ·intro D x k s q;cases q
end
end
section
abbrev i8 (n:Int):Value:= .int .i64 n
abbrev j0W (xs:List Int):List Value:=xs.map i8
section
variable {ν:Type} {ev:ν→Value}
theorem w2N (l i b:Nat) (m:List (Int×ν)) (J:List Int→a0E) (s: ∀acc k,(∃rest,(m.map (·.1)).Perm (acc++k::rest))→b1M prog l #[i8 k] [J acc] (fun e L'=>e= .returned (.bool true)∧L'= [J (acc++ [k])])):
 a0G prog 157 #[.func (.yield l) #[] #[],ptr i] [J [],pts i (.cells #[.map (some b)] 89 (0,0)),b0K b a0H ev m]
  (b0P (fun acc:List Int=>acc.Perm (m.map (·.1))) (fun _=> .tuple #[]) (fun acc=> [J acc,b0K b a0H ev m])):=by
 refine en func157 ntmps157 fun R w0=> ?_;refine go 3 ?_;refine u1U (ek:=a0H) (ev:=ev) (m:=m) c0Y.o rfl gFd (fun r=> ?_);refine go 3 ?_;refine a0V (X:= {y:List Int×List (Int×ν)×Option (Int×ν) // (m.map (·.1)).Perm (y.1++y.2.1.map (·.1))}) (fun y=> [(0,.func (.yield l) #[] #[]),(5,ptr r)]) (fun y=> [J y.1.1,t0R r b a0H ev m y.1.2.1 y.1.2.2,R]) (fun y=>y.1.2.1.length) ⟨([],m,none),List.Perm.refl _⟩ gSu gSp ?_;rintro⟨⟨acc,todo,cur⟩,hp⟩ m0 hm0
 try simp only at hm0
 try dsimp only
 dsimp only at hp;refine go 2 ?_;refine b2U (ek:=a0H) (ev:=ev) rfl gFd (fun z a n p=> ?_);refine a0D (s2N rfl) ?_;refine go 3 ?_;refine a0O rfl (fun c=> ?_) (fun c=> ?_)
 ·obtain⟨k,rfl⟩:=Option.isSome_iff_exists.1 c;have j:todo.length=a.length+1:=by have:=n.length_eq;simpa using this
  have d:(m.map (·.1)).Perm (acc++k.1::a.map (·.1)):=hp.trans (List.Perm.append_left _ (by simpa using n.map (·.1)));refine go 5 ?_;refine a0D (b2V (ek:=a0H) (ev:=ev) rfl gFd) ?_;refine go 5 ?_;refine b1N ?_;refine u0G (d0H rfl) ?_;refine u0G (d0H rfl) ?_;refine i1S rfl rfl (s acc k.1 ⟨_,d⟩) gSp ?_;refine ns ?_;refine u0G (v0A rfl) ?_;refine s1V ?_;refine go 3 ?_;exact rd idh (⟨(acc++ [k.1],a,some k),by(show(m.map (·.1)).Perm (acc++ [k.1]++a.map (·.1)));rw[List.append_assoc];exact d⟩)
 ·refine go 1 ?_;have g:z=none:=by cases z with|none=>rfl|some _=>cases c
  have q:=p g;subst q;have f:acc.Perm (m.map (·.1)):=(by simpa using hp:(m.map (·.1)).Perm acc).symm;refine b0F (fun w h=>u1T ((show Fnd _ (t0R r b a0H ev m a z) _ from gFd).sat h)) ?_;exact fE acc f
end
theorem y2T (b:Nat):a0G prog 112 #[.map (some b)] [] (b0P (fun _:Nat=>True) (fun x=> .func (.func 157) #[] #[ptr x]) (fun x=> [pts x (.cells #[.map (some b)] 89 (0,0))])):=by
 refine en func112 ntmps112 fun R w0=> ?_;refine go 2 ?_;refine bx fun a=> ?_;refine go 9 ?_;exact rE idh a trivial
abbrev isA (b2:Nat) (acc:List Int) (v:Value):List a0E:= [pts b2 (.cells #[v] 90 (0,0)),b0I 3 1 v acc.length (j0W acc)]
abbrev isJ (b2 l:Nat) (rec:Loop) (acc:List Int):a0E:=ex fun v:Value=>b0E (pts l (.loop (j0B rec none))::isA b2 acc v)
theorem d2C {a l:Nat} {rec:Loop} {acc:List Int} {w:World} {M:List a0E} (v:Value) (h:Sat w (pts l (.loop (j0B rec none))::(isA a acc v++M))):Sat w (isJ a l rec acc::M):=g0K.2 ⟨v,b0M.2 h⟩
section
variable {ν:Type} {ev:ν→Value}
theorem a2G (b f:Nat) (m:List (Int×ν)) (I:m.length≤100000):a0G prog 190 #[.slice none 0 0,.func (.func 157) #[] #[ptr f]] [pts f (.cells #[.map (some b)] 89 (0,0)),b0K b a0H ev m]
 (b0P (fun x:Value×List Int=>x.2.Perm (m.map (·.1))) (fun x=>x.1) (fun x=> [b0I 3 1 x.1 x.2.length (j0W x.2),b0K b a0H ev m])):=by
 refine z0S func190 rfl ntmps190 rfl (fun R w0=> ?_);simp only[j0X,List.cons_append,List.nil_append];refine go 1 ?_;refine b0U (fun w h=>f0E 3 1 w h) ?_;refine go 1 ?_;refine bx fun c=> ?_;refine go 10 ?_;refine i1V (X:=List Int) (ok:=fun acc=>acc.Perm (m.map (·.1))) (v:=fun _=> .tuple #[]) (jump:=fun _=>none) (N:=fun acc=> [b0K b a0H ev m,ex fun v:Value=>b0E (isA c acc v)]) rfl Hb.o (show b0A _ ([pts f (.cells #[.map (some b)] 89 (0,0)),b0K b a0H ev m]++isA c [] (.slice none 0 0)) _ from gSp) ?_ ?_ ?_
 ·intro l D fn tmps n j rec a;refine n1V (fun w F h=> ?_) (w2N (ev:=ev) l f b m (isJ c l rec) (fun acc k E=> ?_)) (fun e L G=> ?_)
  ·simp only[List.cons_append,List.nil_append]at h ⊢;have y:Sat w (pts l (.loop (j0B rec none))::(isA c [] (.slice none 0 0)++ [pts f (.cells #[.map (some b)] 89 (0,0)),b0K b a0H ev m,F])):=by
    simp only[List.cons_append,List.nil_append,j0B,Option.isNone_none,if_true];rw[show({rec with state:= .ready,pending:=none} :Loop)=rec by rw[a]];exact h.re gSp
   exact d2C _ y
  rotate_left
  ·obtain⟨acc,g,rfl,rfl⟩:=G;refine⟨_,⟨acc,g,rfl,rfl⟩,fun w F h=> ?_⟩;simp only[List.cons_append,List.nil_append]at h ⊢;obtain⟨v,z⟩:=g0K.1 h;have p:=b0M.1 z;simp only[List.cons_append,List.nil_append]at p;have A:Sat w (b0E (isA c acc v)::(pts l (.loop (j0B rec none)):: [b0K b a0H ev m,F])):=b0M.2 (by simp only[List.cons_append,List.nil_append];exact p.re gSp);have B:Sat w ((ex fun v=>b0E (isA c acc v))::(pts l (.loop (j0B rec none)):: [b0K b a0H ev m,F])):=g0K.2 ⟨v,A⟩;exact B.re gSp
  obtain⟨H,i⟩:=E;have C:acc.length+1≤100000:=by have:=i.length_eq;simp at this;omega
  refine i1W fun v=> ?_;subst a;refine z0R rfl n j rfl (fun t w2=> ?_);refine ns ?_;skip;refine p0A (by repeat (first|exact p0C|exact v0N|apply q0O|apply p0B)) rfl ?_;refine go 2 ?_;refine i1U rfl gFd ?_;refine i1T ?_;refine p0A (by repeat (first|exact p0C|exact v0N|apply q0O|apply p0B)) rfl ?_;refine go 2 ?_;refine bl fun u=> ?_;refine(d0E Tsl.o Ttb.o Zr.o rfl rfl rfl gFd (f0I Tsl.o (by simp;rfl) (by simp) (by simp[Value.oneCell'])) (by simp only[maxLen];omega) (by omega) (fun d r=> ?_));refine go 2 ?_;repeat (first|with_reducible refine m0I ?_|with_reducible refine q0P ?_|with_reducible refine n0X rfl ?_)
  refine y0X gFd (fun w h=>⟨_,⟨rfl,rfl⟩,d2C (M:= [t]) d ?_⟩) rfl;simp only[List.cons_append,List.nil_append]at h ⊢;rw[show b0I 3 1 d (acc++ [k]).length (j0W (acc++ [k]))=b0I 3 1 d (acc.length+1) (j0W acc++ [i8 k]) by rw[List.length_append,j0W,List.map_append];rfl];exact h.sub gSp
 ·intro D x s q;skip;refine go 2 ?_;refine ns ?_;refine v0M (show Fnd _ (ex fun v:Value=>b0E (isA c x v)) _ from gFd) fun v=> ?_;refine ns ?_;refine go 5 ?_;exact g1L idh rfl gSp ⟨(v,x),s,rfl,rfl⟩
 ·intro D x k s q;cases q
end
end
section
theorem m2W:a0G prog 210 #[.slice none 0 0,.int .i64 0,.int .i64 0] [] (a0T (.tuple #[]) []):=by
 refine en func210 ntmps210 fun R w0=> ?_;refine go 8 ?_;refine a0V (X:=Unit) (fun y=> [(0,.slice none 0 0),(1,.int .i64 0),(2,.int .i64 0),(6,.int .i64 1)]) (fun y=> [R]) (fun y=>0) () gSu gSp ?_;rintro⟨⟩ m0 hm0
 try simp only at hm0
 try dsimp only
 skip;refine go 10 ?_;refine d0Q rfl rfl gSp
theorem y2U:a0G prog 179 #[.slice none 0 0,.int .i64 0,.int .i64 0,.int .i64 0] [] (a0T (.tuple #[]) []):=by
 refine en func179 ntmps179 fun R w0=> ?_;refine go 11 ?_;refine a0V (X:=Unit) (fun y=> [(0,.slice none 0 0),(1,.int .i64 0),(2,.int .i64 0),(3,.int .i64 0),(8,.bool true),(9,.bool true)]) (fun y=> [R]) (fun y=>0) () gSu gSp ?_;rintro⟨⟩ m0 hm0
 try simp only at hm0
 try dsimp only
 skip;refine cg 22 (m2W) ?_;refine go 2 ?_;exact rG
theorem y2V (v:Value) (xs:List Int) (d:xs.length≤16) (f:xs.Nodup):a0G prog 135 #[v] [b0I 47 1 v xs.length (us xs)]
 (b0P (fun ys:List Int=>ys.Perm xs∧ys.Pairwise (· < ·)) (fun _=> .tuple #[]) (fun ys=> [b0I 47 1 v xs.length (us ys)])):=by
 by_cases k:xs.length=0
 ·obtain rfl:xs= []:=List.length_eq_zero_iff.1 k;refine en func135 ntmps135 fun R w0=> ?_;refine y1W (e:=47) gFd (fun j _=> ?_) (fun g cap j c=> ?_)
  ·subst j;refine cg 12 (s1H 0 (by omega)) ?_;refine cg 0 (y2U) ?_;refine go 1 ?_;exact fE [] ⟨List.Perm.refl _,List.Pairwise.nil⟩
  ·subst j;refine cg 12 (s1H 0 (by omega)) ?_;refine ce 0 (s2Q g 0 cap (by omega) 1 0 0 0 [] rfl (by omega) (by omega) (by omega) (by omega) (by omega) f (by omega)) ?_;rintro ys ⟨b,l⟩;refine ns ?_;refine go 1 ?_;exact fE ys ⟨b.perm,by rw[b.perm.eq_nil];exact List.Pairwise.nil⟩
 ·obtain⟨n,a⟩: ∃n,n=xs.length:=⟨_,rfl⟩;rw[←a]at d k ⊢;have hb:=p1D d;have m:n≤r0C n+12:=by rcases le16 d with rfl|rfl|rfl|rfl|rfl|rfl|rfl|rfl|rfl|rfl|rfl|rfl|rfl|rfl|rfl|rfl|rfl<;>decide
  refine en func135 ntmps135 fun R w0=> ?_;refine i0T (e:=47) gFd (by omega) fun g cap j c=> ?_;subst j;refine go 12 ?_;rw[show IntKind.u64.wrap (n:Int)=(n:Int)from e0P .u64 _ (by omega) (by show(n:Int)<9223372036854775808;omega)];refine cg 0 (s1H n d) ?_;refine ce 0 (s2Q g n cap d (n+1) 0 n (r0C n) xs a.symm (by omega) (by omega) (by omega) (by omega) (by omega) f (fun i h=>absurd h (by omega))) ?_;rintro ys ⟨b,l⟩;refine ns ?_;refine go 1 ?_;exact fE ys ⟨b.perm,Srt.list (by rw[b.len,←a];exact l)⟩
section
variable {ν:Type} {ev:ν→Value}
theorem m2X (b a:Nat) (m:List (Int×ν)) (c:m.length≤1000):a0G prog 134 #[.func (.func 136) #[] #[ptr a]] [pts a (.cells #[.map (some b)] 57 (0,0)),b0K b e0J ev m]
 (b0P (fun x:Value×List Int=>x.2.Perm (m.map (·.1))) (fun x=>x.1) (fun x=> [b0I 47 1 x.1 x.2.length (us x.2),b0K b e0J ev m])):=by
 refine en func134 ntmps134 fun R w0=> ?_;refine ce 8 (a2F b a m c) ?_;rintro x d;refine ns ?_;refine go 3 ?_;exact rE idh x d
theorem r2P (b a:Nat) (m:List (Int×ν)) (g:m.length≤16) (e:mok m):a0G prog 90 #[.func (.func 136) #[] #[ptr a]] [pts a (.cells #[.map (some b)] 57 (0,0)),b0K b e0J ev m]
 (b0P (fun x:Value×List Int=>x.2.Perm (m.map (·.1))∧x.2.Pairwise (· < ·)) (fun x=>x.1) (fun x=> [b0I 47 1 x.1 x.2.length (us x.2),b0K b e0J ev m])):=by
 refine en func90 ntmps90 fun R w0=> ?_;refine ce 8 (m2X b a m (by omega)) ?_;rintro⟨v,xs⟩ hx;refine ns ?_;dsimp only at hx ⊢;have f:xs.length≤16:=by have:=hx.length_eq;rw[List.length_map]at this;omega
 refine ce 6 (y2V v xs f (hx.nodup_iff.2 e)) ?_;rintro ys ⟨c,d⟩;refine ns ?_;refine go 7 ?_;rw[show xs.length=ys.length from c.length_eq.symm];refine go 1 ?_;exact rE idh (v,ys) ⟨c.trans hx,d⟩
theorem m2Y (b a:Nat) (m:List (Int×ν)) (c:m.length≤100000):a0G prog 155 #[.func (.func 157) #[] #[ptr a]] [pts a (.cells #[.map (some b)] 89 (0,0)),b0K b a0H ev m]
 (b0P (fun x:Value×List Int=>x.2.Perm (m.map (·.1))) (fun x=>x.1) (fun x=> [b0I 3 1 x.1 x.2.length (j0W x.2),b0K b a0H ev m])):=by
 refine en func155 ntmps155 fun R w0=> ?_;refine ce 8 (a2G b a m c) ?_;rintro x d;refine ns ?_;refine go 3 ?_;exact rE idh x d
theorem r2Q (b a:Nat) (m:List (Int×ν)) (f:m.length≤100000):a0G prog 111 #[.func (.func 157) #[] #[ptr a]] [pts a (.cells #[.map (some b)] 89 (0,0)),b0K b a0H ev m]
 (b0P (fun x:Value×List Int=>x.2.length=m.length) (fun x=>x.1) (fun x=> [b0I 3 1 x.1 x.2.length (j0W x.2),b0K b a0H ev m])):=by
 refine en func111 ntmps111 fun R w0=> ?_;refine ce 8 (m2Y b a m (by omega)) ?_;rintro⟨v,xs⟩ hx;refine ns ?_;dsimp only at hx ⊢;have d:xs.length=m.length:=by have:=hx.length_eq;rw[List.length_map]at this;exact this
 refine ce 6 (k2A (e:=3) Tryz.slices_Sort_int Tryz.slices_Sort_int_none v xs (by omega)) ?_;rintro ys c;refine ns ?_;refine go 7 ?_;rw[show xs.length=ys.length from c.symm];refine go 1 ?_;exact rE idh (v,ys) (c.trans d)
end
end
abbrev s2R (s:St) (k:Int):Ent:=(a0C k s.vols).getD g0L
abbrev a1H (s:St) (k:Int):List Value:=f0U (s2R s k)
theorem g1A (a:Ad) (s:St) (B:s.vols.length≤16) (A:mok s.vols):a0G prog 37 #[ptr a.core] [HL a s]
 (b0P (fun x:Value×List Int=>x.2.Perm (s.vols.map (·.1))∧x.2.Pairwise (· < ·)) (fun x=>x.1) (fun x=> [b0I 50 6 x.1 x.2.length (x.2.flatMap (a1H s)),HL a s])):=by
 refine en func37 ntmps37 fun R w0=> ?_;refine e0C gFd fun by_ gv gc o j d=> ?_;simp only[d0B,o0F,List.cons_append,List.nil_append];refine ce 17 (y2S a.vols) ?_;rintro b0 _;refine ns ?_;refine ce 0 (r2P a.vols b0 s.vols B A) ?_;rintro⟨v,xs⟩ ⟨h1,h2⟩;refine ns ?_;dsimp only at h1 h2 ⊢;refine a0D (i0N (e:=47) Tsl.o rfl gFd) ?_;refine go 4 ?_;refine b0U (c0W j d gSp) ?_;refine b0U (fun w h=>f0E 50 6 w h) ?_;have D:xs.length≤16:=by have:=h1.length_eq;rw[List.length_map]at this;omega
 refine n0W (e:=47) gFd fun p cap C q _=> ?_;subst C;refine a0V (X:= {y:Nat×Value // y.1≤xs.length}) (fun y=> [(0,ptr a.core),(3,y.1.2),(11,.slice p xs.length cap),(12,.int .i64 xs.length),(13,.int .i64 y.1.1)]) (fun y=> [b0I 50 6 y.1.2 y.1.1 ((xs.take y.1.1).flatMap (a1H s)),b0I 47 1 (.slice p xs.length cap) xs.length (us xs),HL a s,R]) (fun y=>xs.length-y.1.1) ⟨(0,.slice none 0 0),Nat.zero_le _⟩ gSu gSp ?_;rintro⟨⟨i,u⟩,hi⟩ m0 hm0
 try simp only at hm0
 try dsimp only
 simp only at hi;refine go 6 ?_;refine a0O rfl (fun b=> ?_) (fun b=> ?_)
 ·have c:i<xs.length:=by have:=of_decide_eq_true b;omega
  refine i0T (e:=47) gFd (by omega) fun g n l f=> ?_;cases l
  obtain⟨x,t⟩: ∃x,x=(a0C xs[i] s.vols).getD g0L:=⟨_,rfl⟩;refine go 7 ?_;refine a0D (a0X Sc.o rfl gFd (i0E u4 xs i _ c (by omega))) ?_;refine go 3 ?_;refine e0C gFd fun by_ gv gc o j d=> ?_;simp only[d0B,o0F,List.cons_append,List.nil_append];refine go 7 ?_;refine a0D (e0Q (ek:=e0J) (ev:=e0E) (k:=xs[i]) c0Y.o z0Z (tt fun _=>trivial) trivial Zr.o rfl rfl gFd e1Y) ?_;rw[←t];simp only[e0E,f0U];refine bl fun z=> ?_;refine(d0E Tsl.o Ttb.o Zr.o rfl rfl rfl gFd (f0I Tsl.o (by simp;rfl) (by simp) (by simp[Value.oneCell'])) (by simp only[maxLen];omega) (by omega) (fun m r=> ?_));refine go 2 ?_;rw[show(xs.take i).flatMap (a1H s)++ [Value.int .u32 x.id,.int .u32 x.parent,.bool x.only,.int .i64 x.size,.int .i64 x.root,.int .u32 x.born]=(xs.take (i+1)).flatMap (a1H s) by rw[List.take_succ,List.getElem?_eq_getElem c,List.flatMap_append,t];simp[a1H,s2R,f0U]];refine go 1 ?_;refine b0U (c0W j d gSp) ?_;refine go 4 ?_;exact rd idh (⟨(i+1,m),c⟩)
 ·obtain rfl:i=xs.length:=by have:=of_decide_eq_false b;omega
  rw[List.take_length];refine go 8 ?_;exact rE idh (u,xs) ⟨h1,h2⟩
theorem y2W {x:Hd} (h:z0I x):(hdL x).toArray.extract 0 (0+4)=(x.at_.map a0H).toArray:=d0Y (a:= []) rfl (by simp[h.n])
theorem r2R {l:List Int} {i:Nat} (h:i<l.length):(l.take (i+1)).filter (0< ·)=(l.take i).filter (0< ·)++if 0<l[i]then [l[i]]else []:=by
 rw[List.take_succ,List.getElem?_eq_getElem h,List.filter_append,Option.toList_some];congr 1;by_cases a:0<l[i]<;>simp[a]
theorem h2I (W:World) (a:Ad) (s:St) (k:Int) (x:Hd) (u:k≠0) (p:Go.Sb.e0U k s=(.ok x,s)):a0G prog 154 #[ptr a.st,.int .i64 k] (RS W a s)
 (b0P (fun _:Value=>True) id (fun v=>RS W a s++ [b0I 3 1 v (x.at_.filter (0< ·)).length (j0W (x.at_.filter (0< ·)))])):=by
 have q:=t0Z W a s k;rw[p]at q;have t:=q.ran_ok;obtain⟨_,f⟩:=p0E p;have z:x.at_.length=4:=f.n;refine en func154 ntmps154 fun R w0=> ?_;refine go 17 ?_;refine b0S rfl (by simpa using u) ?_;refine cg 7 (t) ?_;refine a0D (n0S (v:=(x.at_.map a0H).toArray) F.fa230_0 rfl (y2W f)) ?_;refine go 4 ?_;refine b0U (fun w h=>f0E 3 1 w h) ?_;refine a0V (X:= {y:Nat×Value // y.1≤4}) (fun y=> [(5,y.1.2),(14,.agg (x.at_.map a0H).toArray),(15,.int .i64 y.1.1)]) (fun y=>RS W a s++ [b0I 3 1 y.1.2 ((x.at_.take y.1.1).filter (0< ·)).length (j0W ((x.at_.take y.1.1).filter (0< ·))),R]) (fun y=>4-y.1.1) ⟨(0,.slice none 0 0),Nat.zero_le _⟩ gSu gSp ?_;rintro⟨⟨i,v⟩,hi⟩ m0 hm0
 try simp only at hm0
 try dsimp only
 simp only at hi;refine ns ?_;refine go 6 ?_;refine a0O rfl (fun b=> ?_) (fun b=> ?_)
 ·have d:i<4:=by have:=of_decide_eq_true b;omega
  have e:i<x.at_.length:=by omega
  have g:=r2R e;have j:=List.length_filter_le (fun k:Int=>decide (0<k)) (x.at_.take i);rw[List.length_take]at j;refine go 6 ?_;refine a0D (o0P (v:=i8 x.at_[i]) Tar.o Sc.o rfl rfl (by omega) (i0E a0H x.at_ i _ e (by omega))) ?_;refine go 9 ?_;refine a0O rfl (fun c=> ?_) (fun c=> ?_)
  ·rw[if_pos (of_decide_eq_true c)]at g;refine go 3 ?_;refine bl fun r=> ?_;refine(d0E Tsl.o Ttb.o Zr.o rfl rfl rfl gFd (f0I Tsl.o (by simp;rfl) (by simp) (by simp[Value.oneCell'])) (by simp only[maxLen];omega) (by omega) (fun l m=> ?_));refine go 2 ?_;rw[show j0W ((x.at_.take i).filter (0< ·))++ [Value.int .i64 x.at_[i]]=j0W ((x.at_.take (i+1)).filter (0< ·)) by rw[g];simp[j0W],show((x.at_.take i).filter (0< ·)).length+1=((x.at_.take (i+1)).filter (0< ·)).length by rw[g,List.length_append];rfl];refine go 5 ?_;exact rd idh (⟨(i+1,l),d⟩)
  ·rw[if_neg (of_decide_eq_false c),List.append_nil]at g;rw[←g];refine go 6 ?_;exact rd idh (⟨(i+1,v),d⟩)
 ·obtain rfl:i=4:=by have:=of_decide_eq_false b;omega
  rw[List.take_of_length_le (by omega)];refine go 8 ?_;exact rE idh v trivial
theorem i1G {G:Gh} {k:Int} {m:List (Int×Int)} (h:k≤0∨0<(a0C k m).getD 0):f0D G 0 k m=m:=by unfold f0D;rw[if_pos h]
abbrev w0B (W:World) (a:Ad) (s:St) (G:Gh) (l:Nat):Prop:= ∀(at_:Int) (b:Nat) (m:List (Int×Int)),a0W G (l+1) at_→i0Z G m→
 a0G prog 110 #[ptr a.maps,.int .i64 at_,.int .i64 l,.map (some b)] (RS W a s++ [b0K b a0H a0H m]) (a0T (.tuple #[]) (RS W a s++ [b0K b a0H a0H (f0D G (l+1) at_ m)]))
theorem a1I (W:World) (a:Ad) (s:St) (G:Gh) (P:List Int) (hi:Inv s G P) (l:Nat) (hl:l<3) (ih: ∀m,l=m+1→w0B W a s G m):w0B W a s G l:=by
 intro at_ b m J K;have hgl:=hi.atMost;have hml:=K.len;have hmv:=K.sb.val at_;by_cases hd:at_=0∨0<(a0C at_ m).getD 0
 ·rw[z0V,if_pos hd];refine ns ?_;refine en func110 ntmps110 fun R w0=> ?_;refine go 2 ?_;by_cases f:at_=0
  ·refine go 4 ?_;refine c0D rfl (wg rfl rfl rfl (wFT (by simpa using f))) ?_;refine c0D rfl (wg rfl rfl rfl (wFT (by simpa using f))) ?_;refine c0D rfl (wg rfl rfl rfl (wFT (by simpa using f))) ?_;refine c0D rfl (wg rfl rfl rfl (wFT (by simpa using f))) ?_;refine a0D (h0V rfl (by simpa using f) rfl) ?_;refine go 3 ?_;exact rG
  ·refine go 4 ?_;refine b0Z (d0H rfl) (wg rfl rfl rfl (wFF (by simpa using f))) ?_;refine b0Z (d0H rfl) (wg rfl rfl rfl (wFF (by simpa using f))) ?_;refine b0Z (e0Q (ek:=a0H) (ev:=a0H) (k:=at_) c0Y.o h0C (tt fun _=>trivial) trivial Zr.o rfl rfl (show Fnd _ (b0K b a0H a0H m) _ from gFd) e0I) (wg rfl rfl rfl (wFF (by simpa using f))) ?_;refine b0Z (k1Q rfl rfl) (wg rfl rfl rfl (wFF (by simpa using f))) ?_;refine a0D (h0H rfl (by simpa using f) rfl) ?_;refine go 2 ?_;refine d0P rfl (by simpa using hd.resolve_left f) ?_;exact rG
 ·have f: ¬at_=0:=fun h=>hd (.inl h);have Q:at_ ∉ m0M m:=fun h=>hd (.inr (K.in_.2 h));obtain⟨V,o,ho,hlo⟩:=hi.kidOb J f;have hf:=K.first (by rw[ho];rfl) Q;obtain⟨h8,M⟩:=hi.kids J;have Z:=p0F W a s at_ l;rw[hi.loadK J]at Z;have C:=Z.ran_ok;have O:o0T {kids:=b0G G at_,sum:=d0R G at_} :=(h0Q (hi.loadK J)).2;rw[z0V,if_neg hd];refine ns ?_;refine en func110 ntmps110 fun R w0=> ?_;refine go 6 ?_;refine b0Z (d0H rfl) (wg rfl rfl rfl (wFF (by simpa using f))) ?_;refine b0Z (d0H rfl) (wg rfl rfl rfl (wFF (by simpa using f))) ?_;refine b0Z (e0Q (ek:=a0H) (ev:=a0H) (k:=at_) c0Y.o h0C (tt fun _=>trivial) trivial Zr.o rfl rfl (show Fnd _ (b0K b a0H a0H m) _ from gFd) e0I) (wg rfl rfl rfl (wFF (by simpa using f))) ?_;refine b0Z (k1Q rfl rfl) (wg rfl rfl rfl (wFF (by simpa using f))) ?_;refine a0D (h0H rfl (by simpa using f) rfl) ?_;refine go 2 ?_;refine b0S rfl (by simpa using fun h=>hd (.inr h)) ?_;refine go 6 ?_;refine a0D (e0Q (ek:=a0H) (ev:=a0H) (k:=at_) c0Y.o h0C (tt fun _=>trivial) trivial Zr.o rfl rfl (show Fnd _ (b0K b a0H a0H m) _ from gFd) e0I) ?_;refine go 1 ?_;refine i0O (ek:=a0H) (ev:=a0H) (k:=at_) (v:=(a0C at_ m).getD 0+1) c0Y.o h0C (tt fun _=>trivial) trivial rfl rfl rfl (show Fnd _ (b0K b a0H a0H m) _ from gFd) ?_;refine go 1 ?_;rw[show b0O at_ ((a0C at_ m).getD 0+1) m=l0M at_ m from rfl];refine cg 6 (C) ?_;refine a0D (n0S (v:=((b0G G at_).map a0H).toArray) F.fa182_1 rfl (d1J O)) ?_;refine go 4 ?_;refine a0V (X:= {y:Nat×List (Int×Int) // y.1≤8∧i0Z G y.2∧(b0G G at_).foldl (fun m k=>f0D G l k m) (l0M at_ m)=((b0G G at_).drop y.1).foldl (fun m k=>f0D G l k m) y.2}) (fun y=> [(0,ptr a.maps),(2,.int .i64 l),(3,.map (some b)),(28,.agg ((b0G G at_).map a0H).toArray),(29,.int .i64 y.1.1)]) (fun y=>RS W a s++ [b0K b a0H a0H y.1.2,R]) (fun y=>8-y.1.1) ⟨(0,l0M at_ m),Nat.zero_le 8,hf.seen (by omega),rfl⟩ gSu gSp ?_;rintro⟨⟨i,n⟩,hi8,hn,he⟩ m0 hm0
  try simp only at hm0
  try dsimp only
  simp only at hi8 hn he;refine ns ?_;refine go 6 ?_;refine a0O rfl (fun g=> ?_) (fun g=> ?_)
  ·have w:i<(b0G G at_).length:=by have:=of_decide_eq_true g;omega
   obtain⟨k,z⟩: ∃k,k=(b0G G at_)[i]:=⟨_,rfl⟩;have A:a0W G l k:=z▸M _ (List.getElem_mem w);rw[List.drop_eq_getElem_cons w,List.foldl_cons,←z]at he;have E:=(hi.reach_ok l k n A hn).1;refine go 6 ?_;refine a0D (o0P (v:=i8 k) Tar.o Sc.o rfl rfl (by omega) (by rw[z];exact i0E a0H _ i _ w (by omega))) ?_;refine go 4 ?_;by_cases N:l=0
   ·refine go 7 ?_;subst N;by_cases c:0<k
    ·by_cases B:0<(a0C k n).getD 0
     ·refine go 4 ?_;refine b0Z (d0H rfl) (wg rfl rfl rfl (wTT (by simpa using c))) ?_;refine b0Z (d0H rfl) (wg rfl rfl rfl (wTT (by simpa using c))) ?_;refine b0Z (e0Q (ek:=a0H) (ev:=a0H) (k:=k) c0Y.o h0C (tt fun _=>trivial) trivial Zr.o rfl rfl (show Fnd _ (b0K b a0H a0H n) _ from gFd) e0I) (wg rfl rfl rfl (wTT (by simpa using c))) ?_;refine b0Z (b1F rfl rfl) (wg rfl rfl rfl (wTT (by simpa using c))) ?_;refine a0D (h0V rfl (by simpa using c) rfl) ?_;refine go 9 ?_;exact rd idh (⟨(i+1,n),by(show i+1≤8);omega,hn,by rw[he,i1G (.inr B)]⟩)
     ·refine go 4 ?_;refine b0Z (d0H rfl) (wg rfl rfl rfl (wTT (by simpa using c))) ?_;refine b0Z (d0H rfl) (wg rfl rfl rfl (wTT (by simpa using c))) ?_;refine b0Z (e0Q (ek:=a0H) (ev:=a0H) (k:=k) c0Y.o h0C (tt fun _=>trivial) trivial Zr.o rfl rfl (show Fnd _ (b0K b a0H a0H n) _ from gFd) e0I) (wg rfl rfl rfl (wTT (by simpa using c))) ?_;refine b0Z (b1F rfl rfl) (wg rfl rfl rfl (wTT (by simpa using c))) ?_;refine a0D (h0V rfl (by simpa using c) rfl) ?_;refine go 2 ?_;refine d0P rfl (by have:=(hn.sb.val k).1;simp;omega) ?_;refine go 1 ?_;obtain⟨d,ats,r⟩:=A.resolve_left (by omega);have S:=h2I W a s k (m0K d ats) (by omega) (hi.xhead r);rw[show(m0K d ats).at_=ats from rfl]at S;obtain⟨ps,u⟩: ∃ps,ps=ats.filter (0< ·):=⟨_,rfl⟩;rw[←u]at S;have hnl:=hn.len;have hnv:=hn.sb.val k;have H: ∀x∈ps,(a0C x G).isSome=true:=fun x Y=>by rw[u]at Y;obtain⟨k1,k2⟩:=List.mem_filter.1 Y;obtain⟨_,b,hb⟩:=hi.partOf r k1 (by simp at k2;omega);rw[hb];rfl
      have hpl:ps.length≤4:=by have h1:=List.length_filter_le (fun x:Int=>decide (0<x)) ats;have h2:=(hi.typ k _ r).2.2.1;rw[u];omega
      have I:=hi.reach0 r B;rw[←u]at I;have L:=hn.first (by rw[r];rfl) (fun h=>B (hn.in_.2 h));refine go 3 ?_;refine a0D (e0Q (ek:=a0H) (ev:=a0H) (k:=k) c0Y.o h0C (tt fun _=>trivial) trivial Zr.o rfl rfl (show Fnd _ (b0K b a0H a0H n) _ from gFd) e0I) ?_;refine go 1 ?_;refine i0O (ek:=a0H) (ev:=a0H) (k:=k) (v:=(a0C k n).getD 0+1) c0Y.o h0C (tt fun _=>trivial) trivial rfl rfl rfl (show Fnd _ (b0K b a0H a0H n) _ from gFd) ?_;refine go 1 ?_;rw[show b0O k ((a0C k n).getD 0+1) n=l0M k n from rfl];refine ce 8 (S) ?_;rintro v _;refine ns ?_;refine a0D (i0N (e:=3) (n:=ps.length) (size:=1) (xs:=j0W ps) (v:=v) Tsl.o rfl gFd) ?_;refine go 4 ?_;refine n0W (e:=3) (n:=ps.length) (size:=1) (xs:=j0W ps) (v:=v) gFd fun pp cap hv U _=> ?_;subst hv;refine a0V (X:= {y:Nat×List (Int×Int) // y.1≤ps.length∧SB G (5*n.length+1+y.1) (n.length+1) y.2∧ps.foldl (fun m k=>l0M k m) (l0M k n)=(ps.drop y.1).foldl (fun m k=>l0M k m) y.2}) (fun y=> [(0,ptr a.maps),(2,.int .i64 (0:Nat)),(3,.map (some b)),(28,.agg ((b0G G at_).map a0H).toArray),(29,.int .i64 i),(57,.slice pp ps.length cap),(58,.int .i64 ps.length),(59,.int .i64 y.1.1)]) (fun y=>RS W a s++ [b0K b a0H a0H y.1.2,b0I 3 1 (.slice pp ps.length cap) ps.length (j0W ps),R]) (fun y=>ps.length-y.1.1) ⟨(0,l0M k n),Nat.zero_le _,by(show SB G (5*n.length+1+((0:Nat):Int)) _ _);rw[Int.natCast_zero,Int.add_zero];exact L,rfl⟩ gSu gSp ?_;rintro⟨⟨j,q⟩,hj,hq,hqe⟩ m2 hm2
      try simp only at hm2
      try dsimp only
      simp only at hj hq hqe;refine ns ?_;refine go 6 ?_;refine a0O rfl (fun p=> ?_) (fun p=> ?_)
      ·have t:j<ps.length:=by have:=of_decide_eq_true p;omega
       refine i0T (e:=3) (n:=ps.length) (size:=1) (xs:=j0W ps) gFd (by omega) fun bv cv T hc2=> ?_;cases T
       have hqv:=hq.val ps[j];rw[List.drop_eq_getElem_cons t,List.foldl_cons]at hqe;refine go 7 ?_;refine a0D (a0X (e:=3) (xs:=j0W ps) Sc.o rfl gFd (i0E i8 ps j _ t (by omega))) ?_;refine go 6 ?_;refine a0D (e0Q (ek:=a0H) (ev:=a0H) (k:=ps[j]) c0Y.o h0C (tt fun _=>trivial) trivial Zr.o rfl rfl (show Fnd _ (b0K b a0H a0H q) _ from gFd) e0I) ?_;refine go 1 ?_;refine i0O (ek:=a0H) (ev:=a0H) (k:=ps[j]) (v:=(a0C ps[j] q).getD 0+1) c0Y.o h0C (tt fun _=>trivial) trivial rfl rfl rfl (show Fnd _ (b0K b a0H a0H q) _ from gFd) ?_;refine go 1 ?_;rw[show b0O ps[j] ((a0C ps[j] q).getD 0+1) q=l0M ps[j] q from rfl];refine go 5 ?_;exact rd idh (⟨(j+1,l0M ps[j] q),t,by have h:=hq.see (H _ (List.getElem_mem t));rw[show 5*(n.length:Int)+1+((j+1:Nat):Int)=5*(n.length:Int)+1+(j:Int)+1 by omega];exact h,hqe⟩)
      ·obtain rfl:j=ps.length:=by have:=of_decide_eq_false p;omega
       rw[List.drop_length]at hqe;refine go 6 ?_;exact rd idh (⟨(i+1,q),by(show i+1≤8);omega,hq.seen (by omega),by rw[he,I,hqe];rfl⟩)
    ·refine go 4 ?_;refine c0D rfl (wg rfl rfl rfl (wTF (by simpa using c))) ?_;refine c0D rfl (wg rfl rfl rfl (wTF (by simpa using c))) ?_;refine c0D rfl (wg rfl rfl rfl (wTF (by simpa using c))) ?_;refine c0D rfl (wg rfl rfl rfl (wTF (by simpa using c))) ?_;refine a0D (h0H rfl (by simpa using c) rfl) ?_;refine go 9 ?_;exact rd idh (⟨(i+1,n),by(show i+1≤8);omega,hn,by rw[he,i1G (.inl (by omega))]⟩)
   ·refine go 6 ?_;obtain⟨D,rfl⟩: ∃D,l=D+1:=⟨l-1,by omega⟩;refine go 5 ?_;rw[show((D+1:Nat):Int)-1=((D:Nat):Int) by omega];refine cg 1 (ih D rfl k b n A hn) ?_;refine go 6 ?_;exact rd idh (⟨(i+1,f0D G (D+1) k n),by(show i+1≤8);omega,E,he⟩)
  ·obtain rfl:i=8:=by have:=of_decide_eq_false g;omega
   rw[List.drop_eq_nil_of_le (by omega)]at he;rw[he];refine go 1 ?_;refine d0Q rfl rfl gSp
theorem h2J (W:World) (a:Ad) (s:St) (G:Gh) (P:List Int) (hi:Inv s G P):w0B W a s G 2:=by
 have b:w0B W a s G 0:=a1I W a s G P hi 0 (by decide) fun k h=>by omega
 have c:w0B W a s G 1:=a1I W a s G P hi 1 (by decide) fun k h=>(by obtain rfl:k=0:=(by omega);exact b);exact a1I W a s G P hi 2 (by decide) fun k h=>(by obtain rfl:k=1:=(by omega);exact c)
theorem d2D {k:Int} : ∀ {m:List (Int×Int)},a0C k m=none→b0D k m=m
 | [],_=>rfl
 | (j,u)::m,h=>by
  rw[d0G]at h;split at h
  ·cases h
  ·rename_i e;simp only[b0D,if_neg e,d2D h]
theorem r2S {G:Gh} {m:List (Int×Int)} (h:i0Z G m) (a:a0C 0 G=none):b0D 0 m=m:=d2D (by
 cases e:a0C 0 m with
 |none=>rfl
 |some v=>have:=h.held _ ((e0D h.ok).1 e);rw[a]at this;cases this)
theorem r1Y (W:World) (a:Ad) (s:St) (G:Gh) (P:List Int) (hi:Inv s G P) (roots:List Int) (B: ∀r∈roots,a0W G 3 r) (E: ∀p∈P,p∈roots) (v:Value) (J:roots.length≤1000):
 a0G prog 56 #[ptr a.maps,v] (RS W a s++ [b0I 3 1 v roots.length (j0W roots)])
  (b0P (fun x:Value×List Int=>x.2.length=s.g.count 1) (fun x=>x.1) (fun x=>RS W a s++ [b0I 3 1 v roots.length (j0W roots),b0I 3 1 x.1 x.2.length (j0W x.2)])):=by
 obtain⟨f,j⟩:=hi.reachAll B E;have H:=hi.atMost;have K:=f.len;have D:i0Z G []:=⟨List.nodup_nil,fun p t=>(by cases t),fun p t=>(by cases t)⟩;refine ns ?_;refine en func56 ntmps56 fun R w0=> ?_;refine n0W (e:=3) (n:=roots.length) (size:=1) (xs:=j0W roots) (v:=v) gFd fun C cap L A _=> ?_;subst L;refine go 7 ?_;refine(r0G (fun d=> ?_));refine go 5 ?_;refine b0U (fun w h=>x0R a0H a0H ((show Fnd _ (pts d _) _ from gFd).sat h)) ?_;refine go 7 ?_;refine a0V (X:= {y:Nat×List (Int×Int) // y.1≤roots.length∧i0Z G y.2∧roots.foldl (fun m r=>f0D G 3 r m) []=(roots.drop y.1).foldl (fun m r=>f0D G 3 r m) y.2}) (fun y=> [(0,ptr a.maps),(5,.map (some d)),(9,.slice C roots.length cap),(10,.int .i64 roots.length),(11,.int .i64 y.1.1)]) (fun y=>RS W a s++ [b0K d a0H a0H y.1.2,b0I 3 1 (.slice C roots.length cap) roots.length (j0W roots),R]) (fun y=>roots.length-y.1.1) ⟨(0,[]),Nat.zero_le _,D,rfl⟩ gSu gSp ?_;rintro⟨⟨i,n⟩,hil0,hn,he⟩ m0 hm0
 try simp only at hm0
 try dsimp only
 simp only at hil0 hn he;refine ns ?_;refine go 6 ?_;refine a0O rfl (fun b=> ?_) (fun b=> ?_)
 ·have c:i<roots.length:=by have:=of_decide_eq_true b;omega
  refine i0T (e:=3) (n:=roots.length) (size:=1) (xs:=j0W roots) gFd (by omega) fun M N z F=> ?_;cases z
  have l:=B _ (List.getElem_mem c);rw[List.drop_eq_getElem_cons c,List.foldl_cons]at he;refine go 7 ?_;refine a0D (a0X (e:=3) (xs:=j0W roots) Sc.o rfl gFd (i0E i8 roots i _ c (by omega))) ?_;refine cg 7 (h2J W a s G P hi roots[i] d n l hn) ?_;refine go 6 ?_;exact rd idh (⟨(i+1,f0D G 3 roots[i] n),c,(hi.reach_ok 3 _ n l hn).1,he⟩)
 ·obtain rfl:i=roots.length:=by have:=of_decide_eq_false b;omega
  rw[List.drop_length]at he;have q:n.length=s.g.count 1:=by rw[←j,he];rfl
  have I:=hn.len;refine go 5 ?_;refine q0N (ek:=a0H) (ev:=a0H) (k:=0) c0Y.o h0C (tt fun _=>trivial) trivial rfl rfl (show Fnd _ (b0K d a0H a0H n) _ from gFd) ?_;rw[r2S hn hi.zero];refine ce 5 (y2T d) ?_;rintro bk _;refine ns ?_;refine ce 0 (r2Q (ev:=a0H) d bk n (by omega)) ?_;rintro⟨u,xs⟩ hx;refine ns ?_;refine go 3 ?_;exact rE idh (u,xs) (hx.trans q)
end Go.Proofs.Q
namespace Go.Proofs.Q
open Go Go.Sl Tryz
instance:Fl prog 24 1 1:=⟨kr⟩
instance:c0Y prog 38 3 9:=⟨kr⟩
instance:Fl prog 24 2 2:=⟨kr⟩
instance:Fl prog 24 3 3:=⟨kr⟩
instance:Fl prog 34 3 3:=⟨kr⟩
instance:Hb prog 38:=⟨kr⟩
instance:Hb prog 40:=⟨kr⟩
instance:Hb prog 42:=⟨kr⟩
instance:Hb prog 43:=⟨kr⟩
instance:Hb prog 44:=⟨kr⟩
instance:Hb prog 45:=⟨kr⟩
instance:Hb prog 47:=⟨kr⟩
instance:Hb prog 48:=⟨kr⟩
instance:Hb prog 49:=⟨kr⟩
instance:Sz prog 34 4:=⟨kr⟩
instance:Zr prog 34 (.agg #[.slice none 0 0,.int .i64 0,.int .i64 0,.int .i64 0]):=⟨kr⟩
instance:Hb prog 21:=⟨kr⟩
instance:Hb prog 22:=⟨kr⟩
instance:Hb prog 23:=⟨kr⟩
instance:Hb prog 74:=⟨kr⟩
instance:Hb prog 75:=⟨kr⟩
instance:Hb prog 76:=⟨kr⟩
instance:Hb prog 77:=⟨kr⟩
instance:Hb prog 78:=⟨kr⟩
instance:Hb prog 101:=⟨kr⟩
instance:Hb prog 102:=⟨kr⟩
instance:Hb prog 125:=⟨kr⟩
instance:Hb prog 126:=⟨kr⟩
instance:Hb prog 127:=⟨kr⟩
instance:Hb prog 171:=⟨kr⟩
instance:Hb prog 172:=⟨kr⟩
instance:Sz prog 40 1:=⟨kr⟩
instance:Hb prog 145:=⟨kr⟩
instance:Hb prog 174:=⟨kr⟩
instance:Hb prog 175:=⟨kr⟩
instance:Ag prog 277 2:=⟨kr⟩
instance:Fl prog 34 2 2:=⟨kr⟩
instance:Hb prog 208:=⟨kr⟩
instance:Pl prog 277 ([(0,1),(1,1)],.agg #[.slice none 0 0,.int .i64 0]):=⟨kr⟩
instance:Sz prog 277 2:=⟨kr⟩
instance:Zr prog 277 (.agg #[.slice none 0 0,.int .i64 0]):=⟨kr⟩
instance:Hb prog 103:=⟨kr⟩
instance:Sz prog 32 1:=⟨kr⟩
instance:Ttb prog 42 64:=⟨kr⟩
instance:Hb prog 100:=⟨kr⟩
instance:Pl prog 42 ([(0,1),(1,1),(2,1),(3,1),(4,1),(5,1)],.agg #[.int .i64 0,.int .i64 0,.bool false,.int .i64 0,.int .i64 0,.slice none 0 0]):=⟨kr⟩
end Go.Proofs.Q
namespace Go.Proofs.Q
open Go.Sl Go.Sb Tryz
abbrev y0R (H:b0B) (P:Rp) (x:b0B×Rx):Prop:=(∀p∈H,p∈x.1)∧c0Z x.1 x.2∧er x.2=P
theorem y2X (c:Rx) (lv:Value) (i:Nat) (v:Vx):er {c with lv:=lv,l:=c.l.set i v} = {er c with l:=(er c).l.set i v.v} :=by
 unfold er;simp only[List.map_set]
theorem r0D {H:b0B} {v:Vx} (a:n0K H v): ∀u∈a0S v,u.oneCell'=true:=fun u hu=>x0N (l:= [v]) (fun x b=>by rw[List.mem_singleton.1 b];exact a) u (by simpa using hu)
theorem y2Y {H:b0B} {l:List Vx} {i:Nat} {v:Vx} (h: ∀x∈l,n0K H x) (b:n0K H v): ∀x∈l.set i v,n0K H x:=fun x c=>by
 rcases List.mem_or_eq_of_mem_set c with a|rfl
 ·exact h x a
 ·exact b
theorem d1N (H:b0B) (c:Rx) (i:Nat) (v:Vx) (d:c0Z H c) (u:n0K H v) (hi:i<c.l.length):a0G prog 126 #[e0W c,.int .i64 i,a1G v] [c0B H]
 (b0P (y0R H {er c with l:=(er c).l.set i v.v}) (fun x=>e0W x.2) (fun x=> [c0B x.1])):=by
 obtain⟨p,cap,g,t⟩:=d0W d.vols;have f:=d.few;have b:=d.vols;rw[g]at b;have k:=i0J u0W c.l;have m:0+((i:Nat):Int).toNat*6+6≤(c.l.flatMap a0S).length:=by rw[k];omega
 refine en func126 ntmps126 fun R w0=> ?_
 try simp only[e0W,a0J,a1G]
 rw[g];refine go 2 ?_;refine bx fun C=> ?_;refine bx fun D=> ?_;refine al fun E=> ?_;refine go 4 ?_;refine bl fun F=> ?_;refine e0X (fun w h=>o0K 6 h) ?_;refine go 2 ?_;refine(d0E (news:=c.l.flatMap a0S) Tsl.o Ttb.o Zr.o rfl rfl rfl gFd (b1S Tsl.o b gFd (x0N d.maps)) (by simp only[maxLen];omega) (by omega) (fun B y=> ?_));rw[show 0+c.l.length=c.l.length from Nat.zero_add _,List.nil_append];refine go 5 ?_;refine i0T (e:=42) gFd (by omega) fun s a q j=> ?_;refine go 1 ?_;subst q;refine go 5 ?_;refine n1X (vs:=a0S v) (xs':=(c.l.set i v).flatMap a0S) Sz.o rfl rfl rfl (r0D u) gFd m (by rw[show 0+((i:Nat):Int).toNat*6=i*6 by omega];exact p1O u0W v hi) ?_;refine go 5 ?_;skip;refine(a0M Sz.o rfl rfl (by first|rfl|simp) (by simp[Value.oneCell']) (by simp[Value.cells]) (by simp[j0I,Value.cells]<;>rfl) ?_);refine go 2 ?_;refine t0J (show Fnd _ (b0I 42 6 (.slice (some ⟨s,0,none⟩) c.l.length a) c.l.length ((c.l.set i v).flatMap a0S)) _ from gFd) (show Fnd _ (c0B H) _ from gFd) fun z n A=> ?_;exact c0T (x:=((z,{c with lv:= .slice (some ⟨s,0,none⟩) c.l.length a,l:=c.l.set i v}):b0B×Rx)) ⟨n,⟨(by show i0V _ _ _ _ (c.l.set i v).length _;rw[List.length_set];exact A),fun x r=>y2Y (fun x r=>(d.maps x r).more n) (u.more n) x r,by simpa using f⟩,y2X c _ i v⟩ idh (RV.agg Ag.o rfl (by simp) (by rfl) RV.nil) rfl gSp
def r2T (e n:Int) (x:b0B×Rx):Value:= .tuple #[e0W x.2,.int .i64 n,.int .i64 e]
def p1I (e:Int) (x:b0B×Rx):Value:= .tuple #[e0W x.2,.int .i64 e]
theorem m2Z (c:Rx):(er c).l.length=c.l.length:=by simp[er]
theorem g0W {H:b0B} {c:Rx} (a:c0Z H c):y0R H (er c) (H,c):=⟨fun _ h=>h,a,rfl⟩
theorem y2Z (lv:Value) (l:List Vx) (n b e) (v:Vx) (lv2 n2):er {lv:=lv,l:=l++ [v],next:=n2,bits:=b,epoch:=e} = {er {lv:=lv2,l:=l,next:=n,bits:=b,epoch:=e} with l:=(er {lv:=lv2,l:=l,next:=n,bits:=b,epoch:=e}).l++ [v.v],next:=n2} :=by
 unfold er;simp only[List.map_append,List.map_cons,List.map_nil]
theorem r1M (H:b0B) (c:Rx) (v:Vx) (j:c0Z H c) (P:n0K H v) (N:0≤c.next∧c.next<1000000000):a0G prog 100 #[e0W c,a1G v] [c0B H]
 (b0P (y0R H (g0M (er c) v.v).1) (r2T (g0M (er c) v.v).2.2 (g0M (er c) v.v).2.1) (fun x=> [c0B x.1])):=by
 obtain⟨p,cap,s,n⟩:=d0W j.vols;obtain⟨lv,l,next,bits,epoch⟩:=c;dsimp only at s N n;subst s;have q:=j.few;have d:=j.vols;dsimp only at q d;have M:=i0J u0W l;by_cases m:15<l.length
 ·rw[show g0M (er ⟨.slice p l.length cap,l,next,bits,epoch⟩) v.v=(er ⟨.slice p l.length cap,l,next,bits,epoch⟩,0,13) by unfold g0M;rw[if_pos (by rw[m2Z];exact m)]];refine en func100 ntmps100 fun R w0=> ?_
  try simp only[e0W,a0J,a1G]
  refine go 2 ?_;refine bx fun i=> ?_;refine bx fun k=> ?_;refine al fun z=> ?_;refine go 13 ?_;refine d0P rfl (by simpa using (by omega:(15:Int)<(l.length:Int))) ?_;refine go 2 ?_;refine a0D (a0K (v:= #[.slice p l.length cap,.int .i64 next,.int .i64 bits,.int .i64 epoch]) Ag.o rfl (by simp[Value.cells]) (a0I (by simp[Value.cells]))) ?_;refine(a0M Sz.o rfl rfl (by first|rfl|simp) (by simp[Value.oneCell']) (by simp[Value.cells]) (by simp[j0I,Value.cells]<;>rfl) ?_);refine go 4 ?_;exact c0T (x:=((H,⟨.slice p l.length cap,l,next,bits,epoch⟩):b0B×Rx)) (g0W j) idh (RV.agg Ag.o rfl (by simp) (by rfl) (RV.tmp rfl (RV.tmp rfl RV.nil))) rfl gSp
 ·have O:g0M (er ⟨.slice p l.length cap,l,next,bits,epoch⟩) v.v=({er ⟨.slice p l.length cap,l,next,bits,epoch⟩with l:=(er ⟨.slice p l.length cap,l,next,bits,epoch⟩).l++ [{v.v with id:=next,born:=epoch}],next:=next+1},next,0):=by unfold g0M;rw[if_neg (by rw[m2Z];exact m)];rfl
  obtain⟨f,g⟩: ∃f:Vx,f= {v with v:= {v.v with id:=next,born:=epoch}} :=⟨_,rfl⟩;have u:n0K H f:=by rw[g];exact P
  have t:a0S f= [.int .i64 next,.int .i64 v.v.parent,.bool v.v.only,.int .i64 v.v.size,.int .i64 epoch,v.mv]:=by rw[g];rfl
  rw[O];refine en func100 ntmps100 fun R w0=> ?_
  try simp only[e0W,a0J,a1G,a0S]
  refine go 2 ?_;refine bx fun i=> ?_;refine bx fun k=> ?_;refine al fun z=> ?_;refine go 13 ?_;refine b0S rfl (by simpa using (by omega: ¬(15:Int)<(l.length:Int))) ?_;refine go 2 ?_;refine r0I ([(2,.pointer (some ⟨i,0,none⟩)),(3,.pointer (some ⟨k,0,none⟩)),(4,.pointer (some ⟨z,0,none⟩))]) ([pts i (.cells #[.slice p l.length cap,.int .i64 next,.int .i64 bits,.int .i64 epoch] 34 (0,0)),pts k (.cells #[.int .i64 next,.int .i64 v.v.parent,.bool v.v.only,.int .i64 v.v.size,.int .i64 epoch,v.mv] 42 (0,0)),pts z (.cells #[.slice none 0 0,.int .i64 0,.int .i64 0,.int .i64 0] 34 (0,0)),c0B H,R]) ?_ ?_
  ·refine mx (.r 0 5 (.hard 5 (.soft 6 (.hard 7 .done)))) [pts i (.cells #[.slice p l.length cap,.int .i64 next,.int .i64 bits,.int .i64 epoch] 34 (0,0))] ?_;refine go 15 ?_;exact h0W idh gSu gSp
  refine go 10 ?_;refine v0O 8 (by rfl) (.soft 1 (.soft 2 (.soft 4 (.float 5 (.hard 0 (.hard 3 (.res (.hard 6 (.soft 7 .done))))))))) [pts i (.cells #[.slice p l.length cap,.int .i64 (next+1),.int .i64 bits,.int .i64 epoch] 34 (0,0)),pts k (.cells #[.int .i64 next,.int .i64 v.v.parent,.bool v.v.only,.int .i64 v.v.size,.int .i64 epoch,v.mv] 42 (0,0))] Fol.o (by kernel_rfl) (by repeat (first|with_reducible exact b0T.bp|with_reducible apply b0T.then|with_reducible apply b0T.inBlock)) gSp ?_;simp only[List.take_succ_cons,List.take_zero];refine go 2 ?_;refine h0L rfl (a0K (v:= #[.int .i64 next,.int .i64 v.v.parent,.bool v.v.only,.int .i64 v.v.size,.int .i64 epoch,v.mv]) Ag.o rfl (by simp[Value.cells]) (a0I (by simp[Value.cells]))) ?_;refine t0F (e0:= [(26,_)]) rfl gSu (fun _ _ _=>rfl) Tsl.o Zr.o rfl rfl rfl (by simp[m0O,r0L,Value.cells]<;>rfl) rfl ?_;refine b0Y rfl (fun b EE FF=> ?_);refine ns ?_;refine bl fun K=> ?_;refine e0X (fun w h=>o0K 6 h) ?_;refine go 1 ?_;refine fn (E:=EE) (F:=FF) (b.put rfl) ?_;refine b0Y rfl (fun b EE FF=> ?_);refine ns ?_;refine(d0E (news:=l.flatMap a0S) Tsl.o Ttb.o Zr.o rfl rfl rfl gFd (b1S Tsl.o d gFd (x0N j.maps)) (by simp only[maxLen];omega) (by omega) (fun S G=> ?_));refine go 1 ?_;refine fn (E:=EE) (F:=FF) (b.put rfl) ?_;refine l0Y (fun L=> ?_);dsimp only;refine b0Y rfl (fun b EE FF=> ?_);refine ns ?_;refine(d0E (news:=a0S f) Tsl.o Ttb.o Zr.o rfl rfl rfl gFd (f0I Tsl.o (by rw[t];rfl) (by rw[t];rfl) (r0D u)) (by simp only[maxLen];omega) (by omega) (fun T I=> ?_));refine go 1 ?_;refine fn (E:=EE) (F:=FF) (b.put rfl) ?_;refine go 2 ?_;refine a1K ?_;refine go 4 ?_;refine i0T (e:=42) gFd (by omega) fun y a D A=> ?_;subst D;rw[show 0+l.length=l.length from Nat.zero_add _];refine mx (.r 0 3 (.hard 3 (.r 4 2 .done))) [pts i (.cells #[.slice (some ⟨y,0,none⟩) (l.length+1) a,.int .i64 (next+1),.int .i64 bits,.int .i64 epoch] 34 (0,0)),pts k (.cells #[.int .i64 next,.int .i64 v.v.parent,.bool v.v.only,.int .i64 v.v.size,.int .i64 epoch,v.mv] 42 (0,0))] ?_;refine d0A rfl (a0K (v:= #[.slice (some ⟨y,0,none⟩) (l.length+1) a,.int .i64 (next+1),.int .i64 bits,.int .i64 epoch]) Ag.o rfl (by simp[Value.cells]) (a0I (by simp[Value.cells]))) ?_;refine go 3 ?_;refine(a0M Sz.o rfl rfl (by first|rfl|simp) (by simp[Value.oneCell']) (by simp[Value.cells]) (by simp[j0I,Value.cells]<;>rfl) ?_);refine go 6 ?_;refine t0J (show Fnd _ (b0I 42 6 (.slice (some ⟨y,0,none⟩) (l.length+1) a) (l.length+1) (l.flatMap a0S++a0S f)) _ from gFd) (show Fnd _ (c0B H) _ from gFd) fun J C B=> ?_;exact c0T (x:=((J,⟨.slice (some ⟨y,0,none⟩) (l.length+1) a,l++ [f],next+1,bits,epoch⟩):b0B×Rx)) ⟨C,⟨(by show i0V _ _ _ _ (l++ [f]).length _;rw[List.length_append,List.flatMap_append,List.flatMap_singleton];exact B),fun x Q=>by rcases List.mem_append.1 Q with h|h;{exact(j.maps x h).more C};{rw[List.mem_singleton.1 h];exact u.more C},by simp;omega⟩,by rw[g];exact y2Z _ l _ _ _ _ _ _⟩ idh (RV.agg Ag.o rfl (by simp) (by rfl) (RV.tmp rfl (RV.tmp rfl RV.nil))) rfl gSp
end Go.Proofs.Q
