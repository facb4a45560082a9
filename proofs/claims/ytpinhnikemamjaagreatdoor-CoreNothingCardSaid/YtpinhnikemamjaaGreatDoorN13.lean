/- Part of the proof; no statement of its own. -/
import Derived.Test.YtpinhnikemamjaaGreatDoorN10
import Derived.KernelRfl
import Derived.Test.YtpinhnikemamjaaGreatDoorN12
set_option linter.all false
set_option maxRecDepth 4000
set_option maxHeartbeats 4000000
namespace Go.Sb.Sha
def w0:List W:= [1116352408#32,1899447441#32,3049323471#32,3921009573#32,961987163#32,1508970993#32,2453635748#32,2870763221#32,3624381080#32,310598401#32,607225278#32,1426881987#32,1925078388#32,2162078206#32,2614888103#32,3248222580#32,3835390401#32,4022224774#32,264347078#32,604807628#32,770255983#32,1249150122#32,1555081692#32,1996064986#32,2554220882#32,2821834349#32,2952996808#32,3210313671#32,3336571891#32,3584528711#32,113926993#32,338241895#32,666307205#32,773529912#32,1294757372#32,1396182291#32,1695183700#32,1986661051#32,2177026350#32,2456956037#32,2730485921#32,2820302411#32,3259730800#32,3345764771#32,3516065817#32,3600352804#32,4094571909#32,275423344#32,430227734#32,506948616#32,659060556#32,883997877#32,958139571#32,1322822218#32,1537002063#32,1747873779#32,1955562222#32,2024104815#32,2227730452#32,2361852424#32,2428436474#32,2756734187#32,3204031479#32,3329325298#32]
def w1:List W:= [1133195417#32,1916290450#32,3066166480#32,3937852582#32,978830172#32,1525814002#32,2470478757#32,2887606230#32,3641224089#32,327441410#32,624068287#32,1443724996#32,1941921397#32,2178921215#32,2631731112#32,3265065589#32,3382750981#32,3569585354#32,1582936477#32,1923397027#32,2110814574#32,2589708713#32,4043884060#32,4015384925#32,3459532953#32,4135387620#32,2269421627#32,1298861131#32,3979148651#32,2773771155#32,2837752842#32,45601321#32,2359728791#32,257968678#32,128202080#32,499975457#32,3295403810#32,3767750719#32,2936976636#32,4012566421#32,1813556566#32,2671037753#32,1528772788#32,4249992266#32,3123706547#32,3770506850#32,1350679377#32,1002245952#32,3016296585#32,1122779281#32,4258981106#32,2791365580#32,1927562864#32,2229998207#32,3591167994#32,464652048#32,3318886517#32,1896791069#32,2771517833#32,4032135724#32,275376738#32,725137816#32,903905101#32,1486194156#32]
def w2:List W:= [1150038426#32,1933133459#32,3083009489#32,3954695591#32,995673181#32,1542657011#32,2487321766#32,2904449239#32,3658067098#32,344284419#32,640911296#32,1460568005#32,1958764406#32,2195764224#32,2648574121#32,3281908598#32,2930111562#32,3116945935#32,2897331572#32,3237792122#32,3451361062#32,3930255201#32,3718529576#32,3220548013#32,2820640546#32,1615505226#32,2366379135#32,1380589179#32,1500484750#32,973756250#32,201810910#32,173434379#32,1923619370#32,1450592922#32,1787701321#32,1522187192#32,974114816#32,2366238110#32,2794782199#32,572494234#32,3426031149#32,3939998204#32,925616642#32,913473001#32,789112016#32,2383206471#32,3805508600#32,3282570650#32,3944913353#32,3449112579#32,3967958319#32,74740145#32,3696760330#32,485590616#32,486927552#32,2502831210#32,686267396#32,3492545449#32,3810547796#32,1028799346#32,1838545428#32,3464193052#32,2508397280#32,1595731735#32]
def w3:List W:= [1166881435#32,1949976468#32,3099852498#32,3971538600#32,1012516190#32,1559500020#32,2504164775#32,2921292248#32,3674910107#32,361127428#32,657754305#32,1477411014#32,1975607415#32,2212607233#32,2665417130#32,3298751607#32,2468951950#32,2655786323#32,1004735574#32,1345196124#32,2502358250#32,2981252389#32,2257086099#32,1281101915#32,977063174#32,2969724770#32,2555575135#32,883360581#32,189438193#32,989241110#32,3184034966#32,510754668#32,2981958896#32,1697766683#32,829290962#32,3598408888#32,2927043512#32,3874564143#32,1022800712#32,1114927619#32,3345800616#32,3315974508#32,2762326756#32,2756995779#32,889304423#32,478323665#32,956406703#32,2174782338#32,258716846#32,1414833826#32,410763748#32,1125978466#32,3057809126#32,2108334129#32,4203157581#32,165248569#32,3590525818#32,3866804577#32,2353776852#32,271200330#32,450320648#32,25902305#32,488404409#32,1793265406#32]
def w4:List W:= [3263836056#32,1899447441#32,3049323471#32,3921009573#32,961987163#32,1508970993#32,2453635748#32,2870763221#32,3624381080#32,310598401#32,607225278#32,1426881987#32,1925078388#32,2162078206#32,2614888103#32,3248224628#32,1687906753#32,4106110856#32,266464710#32,604808172#32,1340683375#32,1271432362#32,1639532318#32,1996086874#32,4198912342#32,3368162946#32,2954717485#32,56203285#32,819081873#32,3924826383#32,1615937327#32,3662244855#32,2205442591#32,1885708555#32,3539820678#32,858889044#32,45126111#32,1814009033#32,788498427#32,1731177263#32,1241315092#32,3112895784#32,1532581257#32,3188603407#32,1089985150#32,1654184804#32,866438350#32,4162380699#32,1364074688#32,476854630#32,599375586#32,108516303#32,1336354205#32,2395837610#32,4035581856#32,222193058#32,3370441009#32,3714610257#32,2931585713#32,2148752908#32,661148149#32,2606462070#32,41398732#32,3941551781#32]
def sec (k:Nat):List UInt8:=List.replicate 64 (UInt8.ofNat k)
def o0T:List UInt8:=128::(List.replicate 55 0++be8 2048)
theorem wk0:wk (sec 0)=w0:=by decide+kernel
theorem wk1:wk (sec 1)=w1:=by decide+kernel
theorem wk2:wk (sec 2)=w2:=by decide+kernel
theorem wk3:wk (sec 3)=w3:=by decide+kernel
theorem wk4:wk o0T=w4:=by decide+kernel
def ww (k:Nat):List W:=match k with|0=>w0|1=>w1|2=>w2|_=>w3
def four (k:List W→List Nat):List Nat:=k w0++(k w1++(k w2++k w3))
def c2N (h:List W):List Nat:=b1A h w4 fun h=> [(at_ h 0).toNat]
def s1J (h:List W):List Nat:=four fun x=>b1A h x fun h=>four fun y=>b1A h y c2N
def m0Y (a b:Nat):List Nat:=b1A start (ww a) fun h=>b1A h (ww b) s1J
def tab (a b:Nat):List Nat:=match 4*a+b with
 |0=> [1396827826,1550914536,2039498492,2387280181,883752447,3361315047,3081931578,617895476,3230844978,3081737201,1092378180,1162281012,887862196,2522349969,2407102295,2345801324]
 |1=> [816925585,267325322,2516726038,469170299,1213298010,1492887108,1889090512,1112867804,4033131754,2205329458,868322499,2697439140,1122408886,3876903364,3112287776,121720113]
 |2=> [1818082622,205500531,407924280,1293077799,2633351488,177942856,2982880274,529217762,3295231060,4207249023,2863039356,2069284679,3467176235,3863159894,1288073670,3990524654]
 |3=> [3930838328,724011696,1384120662,4088765726,2032296519,3508868040,3580264942,2816610888,211294740,2782797484,1128998836,1705909736,2385785023,3744886094,4216486116,767631065]
 |4=> [3097901666,3202992244,362718933,4210244791,2734094447,1458808161,3817871448,2943924884,3944673291,2447768362,1752932943,2204911397,222153930,4028612426,1597712475,3196546693]
 |5=> [3120010704,1195085953,4277752222,3815451992,2508013137,643928591,3966578828,316068783,887900569,3749482315,2510327746,88037892,1377994081,4093650266,3901915426,3912518166]
 |6=> [4033243686,4101887202,3502492252,3359644000,2433058384,3392448812,888817791,1742637583,430630185,3758719454,3977517492,4172100499,2717165763,1902001073,2416475910,1018150990]
 |7=> [3411727756,3988348970,2246117797,4182375010,3857145990,1623241207,2442383249,3864420738,3978668586,2633374389,1299912381,4244146390,282988513,3035538353,6850534,838498126]
 |8=> [1335539051,1298252275,918927688,2068861076,576552239,2275519707,2934809269,3450107385,1373759052,790896672,2628775961,2708617305,1581747232,704528092,1640961482,3255314374]
 |9=> [686887521,1286960148,377635684,3760182258,2927729465,2515898291,964621818,2327155200,2182840564,2867099919,19437618,3763522739,3409218662,4167803790,1600797471,914285912]
 |10=> [877049130,2794465858,1290953114,1980436148,2549493040,2782994075,3218029552,2304389420,3941336782,2868785562,4123143733,4161443054,2922133596,1748554510,3962314760,899673374]
 |11=> [2649087361,3882011355,611689463,2776834808,180600510,2246553383,2895479405,2176980985,3887752967,2209223989,2123069431,2911691486,1192636373,1135468434,1377874293,507983806]
 |12=> [3658104682,2621240489,47344678,1065960580,493261673,4119635404,2607564121,29539086,3368889056,3927639752,4074504150,581044628,328746370,2519108573,1844154813,508049387]
 |13=> [1271925871,1591760705,2401340085,2803556920,2583380790,2750632103,195900958,4121962732,1552080054,2428184220,3391186730,1911646673,2644449414,3352566797,1669681715,1242822505]
 |14=> [3261799072,2434840550,731257797,3097765481,1900409995,486532404,2642946561,4248803625,1947981908,3341829803,3974871154,852255562,1363870554,3934961700,4069975497,1802615281]
 |_=> [3045905782,4100634443,2581448430,3349378404,3564129468,952281366,1918479817,3930107805,3807671625,3828478330,4192872740,1227702853,854333182,560490985,3536644234,3770807365]
theorem c00:m0Y 0 0=tab 0 0:=by decide+kernel
theorem c01:m0Y 0 1=tab 0 1:=by decide+kernel
theorem c02:m0Y 0 2=tab 0 2:=by decide+kernel
theorem c03:m0Y 0 3=tab 0 3:=by decide+kernel
theorem c10:m0Y 1 0=tab 1 0:=by decide+kernel
theorem c11:m0Y 1 1=tab 1 1:=by decide+kernel
theorem c12:m0Y 1 2=tab 1 2:=by decide+kernel
theorem c13:m0Y 1 3=tab 1 3:=by decide+kernel
theorem c20:m0Y 2 0=tab 2 0:=by decide+kernel
theorem c21:m0Y 2 1=tab 2 1:=by decide+kernel
theorem c22:m0Y 2 2=tab 2 2:=by decide+kernel
theorem c23:m0Y 2 3=tab 2 3:=by decide+kernel
theorem c30:m0Y 3 0=tab 3 0:=by decide+kernel
theorem c31:m0Y 3 1=tab 3 1:=by decide+kernel
theorem c32:m0Y 3 2=tab 3 2:=by decide+kernel
theorem c33:m0Y 3 3=tab 3 3:=by decide+kernel
def y0I (i:Nat):Nat:=(tab (i/64) (i/16%4)).getD (i%16) 0
def chk:Bool:=(List.range 256).all fun i=>(List.range 256).all fun j=>Nat.beq i j || !Nat.beq (y0I i) (y0I j)
theorem s2C:chk=true:=by decide+kernel
theorem s2D {i j:Nat} (hi:i<256) (hj:j<256) (h:y0I i=y0I j):i=j:=by
 have h1:=s2C;unfold chk at h1;rw[List.all_eq_true]at h1;have h2:=h1 i (List.mem_range.2 hi);rw[List.all_eq_true]at h2;have h3:=h2 j (List.mem_range.2 hj);rw[h,Nat.beq_refl,Bool.not_true,Bool.or_false]at h3;exact Nat.eq_of_beq_eq_true h3
theorem h2I {h:List W} (hh:h.length=8) {c d:Nat} (hc:c<4) (hd:d<4):(s1J h).getD (4*c+d) 0=(at_ (k0D (k0D (k0D h (ww c)) (ww d)) w4) 0).toNat:=by
 have e1: ∀x,b1A h x (fun h=>four fun y=>b1A h y c2N)= [(at_ (k0D (k0D (k0D h x) w0) w4) 0).toNat,(at_ (k0D (k0D (k0D h x) w1) w4) 0).toNat,(at_ (k0D (k0D (k0D h x) w2) w4) 0).toNat,(at_ (k0D (k0D (k0D h x) w3) w4) 0).toNat]:=fun x=>by
  have h1:=g0L (l:=x) hh;rw[o0H hh];unfold four c2N;dsimp only;rw[o0H h1,o0H h1,o0H h1,o0H h1,o0H (g0L h1),o0H (g0L h1),o0H (g0L h1),o0H (g0L h1)];rfl
 unfold s1J;have hf: ∀k:List W→List Nat,four k=k w0++(k w1++(k w2++k w3)):=fun _=>rfl;rw[hf];rw[e1,e1,e1,e1]
 match c,d,hc,hd with
 |0,0,_,_=>rfl
 |0,1,_,_=>rfl
 |0,2,_,_=>rfl
 |0,3,_,_=>rfl
 |1,0,_,_=>rfl
 |1,1,_,_=>rfl
 |1,2,_,_=>rfl
 |1,3,_,_=>rfl
 |2,0,_,_=>rfl
 |2,1,_,_=>rfl
 |2,2,_,_=>rfl
 |2,3,_,_=>rfl
 |3,0,_,_=>rfl
 |3,1,_,_=>rfl
 |3,2,_,_=>rfl
 |3,3,_,_=>rfl
theorem m2O {a b:Nat} (ha:a<4) (hb:b<4):m0Y a b=tab a b:=by
 match a,b,ha,hb with
 |0,0,_,_=>exact c00
 |0,1,_,_=>exact c01
 |0,2,_,_=>exact c02
 |0,3,_,_=>exact c03
 |1,0,_,_=>exact c10
 |1,1,_,_=>exact c11
 |1,2,_,_=>exact c12
 |1,3,_,_=>exact c13
 |2,0,_,_=>exact c20
 |2,1,_,_=>exact c21
 |2,2,_,_=>exact c22
 |2,3,_,_=>exact c23
 |3,0,_,_=>exact c30
 |3,1,_,_=>exact c31
 |3,2,_,_=>exact c32
 |3,3,_,_=>exact c33
def s1K (a b c d:Nat):List W:=k0D (k0D (k0D (k0D (k0D start (ww a)) (ww b)) (ww c)) (ww d)) w4
theorem s1L {a b c d:Nat} (ha:a<4) (hb:b<4) (hc:c<4) (hd:d<4):(at_ (s1K a b c d) 0).toNat=y0I (64*a+16*b+4*c+d):=by
 unfold y0I;rw[show(64*a+16*b+4*c+d)/64=a by omega,show(64*a+16*b+4*c+d)/16%4=b by omega,show(64*a+16*b+4*c+d)%16=4*c+d by omega,←m2O ha hb];unfold m0Y;rw[o0H rfl,o0H (g0L rfl),h2I (g0L (g0L rfl)) hc hd];rfl
def v0F (a b c d:Nat):List UInt8:=sec a++(sec b++(sec c++sec d))
theorem t0S (k:Nat):(sec k).length=64:=by unfold sec;rw[List.length_replicate]
theorem m2P (a b c d:Nat):(v0F a b c d).length=256:=by unfold v0F;simp only[List.length_append,t0S]
theorem v2T {k:Nat} (h:k<4):wk (sec k)=ww k:=by
 match k,h with
 |0,_=>exact wk0
 |1,_=>exact wk1
 |2,_=>exact wk2
 |3,_=>exact wk3
theorem s1M {a b c d:Nat} (ha:a<4) (hb:b<4) (hc:c<4) (hd:d<4):sum (v0F a b c d)=(s1K a b c d).flatMap be4:=by
 have hp:l0T (v0F a b c d)=sec a++(sec b++(sec c++(sec d++o0T))):=by
  unfold l0T;rw[m2P];unfold v0F;simp only[List.append_assoc];rfl
 have hl:(l0T (v0F a b c d)).length/64=5:=by
  rw[hp];simp only[List.length_append,t0S];rfl
 unfold sum;rw[hl,hp];unfold s1K;have step: ∀(n:Nat) (h:List W) (k:Nat) (r:List UInt8),k<4→f0A (n+1) h (sec k++r)=f0A n (k0D h (ww k)) r:=fun n h k r hk=>by
  show f0A n (mix h ((sec k++r).take 64)) ((sec k++r).drop 64)=_;rw[List.take_left' (t0S k),List.drop_left' (t0S k),h2E,v2T hk]
 rw[step 4 _ a _ ha,step 3 _ b _ hb,step 2 _ c _ hc,step 1 _ d _ hd];have e5: ∀h,f0A 1 h o0T=k0D h w4:=fun h=>by
  show mix h (o0T.take 64)=_;rw[List.take_of_length_le (by exact Nat.le_refl 64),h2E,wk4]
 rw[e5]
theorem s2E {x y:W} (h:be4 x=be4 y):x=y:=by
 unfold be4 at h;simp only[List.cons.injEq,and_true]at h;obtain⟨h1,h2,h3,h4⟩:=h;have h1:=congrArg UInt8.toBitVec h1;have h2:=congrArg UInt8.toBitVec h2;have h3:=congrArg UInt8.toBitVec h3;have h4:=congrArg UInt8.toBitVec h4;have g1:=congrArg BitVec.toNat h1;have g2:=congrArg BitVec.toNat h2;have g3:=congrArg BitVec.toNat h3;have g4:=congrArg BitVec.toNat h4;simp only[BitVec.toNat_setWidth,BitVec.toNat_ushiftRight,Nat.shiftRight_eq_div_pow]at g1 g2 g3 g4;apply BitVec.eq_of_toNat_eq;have:=x.isLt;have:=y.isLt;omega
theorem w1T {a b c d a' b' c' d':Nat} (ha:a<4) (hb:b<4) (hc:c<4) (hd:d<4) (ha':a'<4) (hb':b'<4) (hc':c'<4) (hd':d'<4) (h:sum (v0F a b c d)=sum (v0F a' b' c' d')):v0F a b c d=v0F a' b' c' d':=by
 rw[s1M ha hb hc hd,s1M ha' hb' hc' hd']at h;have l1:(s1K a b c d).length=8:=g0L (g0L (g0L (g0L (g0L rfl))));have l2:(s1K a' b' c' d').length=8:=g0L (g0L (g0L (g0L (g0L rfl))));have f1:=s1L ha hb hc hd;have f2:=s1L ha' hb' hc' hd';obtain⟨x0,x1,x2,x3,x4,x5,x6,x7,hx⟩:=q1R _ l1;obtain⟨y0,y1,y2,y3,y4,y5,y6,y7,hy⟩:=q1R _ l2;rw[hx,hy]at h;rw[hx]at f1;rw[hy]at f2;rw[List.flatMap_cons,List.flatMap_cons (xs:= [y1,y2,y3,y4,y5,y6,y7])]at h;have h4:=congrArg (List.take 4) h;rw[List.take_left' (show(be4 x0).length=4 from rfl),List.take_left' (show(be4 y0).length=4 from rfl)]at h4;have h5:=s2E h4;have h6:y0I (64*a+16*b+4*c+d)=y0I (64*a'+16*b'+4*c'+d'):=by
  rw[←f1,←f2];show x0.toNat=y0.toNat;rw[h5]
 have h7:=s2D (by omega) (by omega) h6;rw[show a=a' by omega,show b=b' by omega,show c=c' by omega,show d=d' by omega]
end Go.Sb.Sha
namespace Go.Sb
def mb (m:Nat→B) (q:Nat):UInt8:=(m (q/256)).getD (q%256) 0
theorem y2F {m:Nat→B} (hm: ∀j,(m j).length=256): ∀(k at_ n:Nat),n≤k→(b1D m k at_ n).length=64*n
 |0,at_,n,h=>by rw[show n=0 by omega];rfl
 |k+1,at_,n,h=>by
  unfold b1D;split
  ·rename_i e;subst e;rfl
  ·rename_i e;have h1:=hm (at_/4);rw[List.length_append,List.length_take,List.length_drop,h1,y2F hm k _ _ (by omega)];omega
theorem s1N {l:B} (h:l.length=32):c0W 256 l=l:=by
 unfold c0W;apply List.ext_getElem (by simp);intro i h1 h2;rw[List.getElem_mapIdx,if_neg (by omega)]
theorem z1Q (d:B):key 256 (Sha.sum d)=Sha.sum d:=s1N (p0L d)
def m0S (n:Nat) (d:B):Prop:= ∃ks:List Nat,ks.length=n∧(∀k∈ks,k<4)∧d=ks.flatMap Sha.sec
theorem d1L (ks:List Nat):(ks.flatMap Sha.sec).length=64*ks.length:=by
 induction ks with
 |nil=>rfl
 |cons k ks ih=>rw[List.flatMap_cons,List.length_append,ih,Sha.t0S,List.length_cons];omega
theorem m0S.len {n:Nat} {d:B} (h:m0S n d):d.length=64*n:=by obtain⟨ks,h1,_,rfl⟩:=h;rw[d1L,h1]
theorem m0S.app {n m:Nat} {a b:B} (h:m0S n a) (j:m0S m b):m0S (n+m) (a++b):=by
 obtain⟨ks,h1,h2,rfl⟩:=h;obtain⟨ls,j1,j2,rfl⟩:=j;exact⟨ks++ls,by simp[h1,j1],fun k hk=>(List.mem_append.1 hk).elim (h2 k) (j2 k),by rw[List.flatMap_append]⟩
theorem h2J (ks:List Nat) (n:Nat) (hn:n≤ks.length):(ks.flatMap Sha.sec).take (64*n)=(ks.take n).flatMap Sha.sec:=by
 conv=>lhs;rw[←List.take_append_drop n ks,List.flatMap_append]
 rw[List.take_left' (by rw[d1L,List.length_take];omega)]
theorem h2K (ks:List Nat) (n:Nat) (hn:n≤ks.length):(ks.flatMap Sha.sec).drop (64*n)=(ks.drop n).flatMap Sha.sec:=by
 conv=>lhs;rw[←List.take_append_drop n ks,List.flatMap_append]
 rw[List.drop_left' (by rw[d1L,List.length_take];omega)]
theorem m0S.take {n m:Nat} {d:B} (h:m0S n d) (hm:m≤n):m0S m (d.take (64*m)):=by
 obtain⟨ks,h1,h2,rfl⟩:=h;exact⟨ks.take m,by rw[List.length_take];omega,fun k hk=>h2 k (List.mem_of_mem_take hk),h2J _ _ (by omega)⟩
theorem m0S.drop {n m:Nat} {d:B} (h:m0S n d) (hm:m≤n):m0S (n-m) (d.drop (64*m)):=by
 obtain⟨ks,h1,h2,rfl⟩:=h;exact⟨ks.drop m,by rw[List.length_drop];omega,fun k hk=>h2 k (List.mem_of_mem_drop hk),h2K _ _ (by omega)⟩
theorem m0S.zero:m0S 4 (a0K 256):=⟨[0,0,0,0],rfl,by decide,by decide+kernel⟩
theorem m0S.four {d:B} (h:m0S 4 d): ∃a b c e:Nat,(a<4∧b<4∧c<4∧e<4)∧d=Sha.v0F a b c e:=by
 obtain⟨ks,h1,h2,rfl⟩:=h
 match ks,h1 with
 | [a,b,c,e],_=>exact⟨a,b,c,e,⟨h2 a (by simp),h2 b (by simp),h2 c (by simp),h2 e (by simp)⟩,by unfold Sha.v0F;simp⟩
theorem m0S.same {d e:B} (h:m0S 4 d) (j:m0S 4 e) (hs:key 256 (Sha.sum d)=key 256 (Sha.sum e)):d=e:=by
 rw[z1Q,z1Q]at hs;obtain⟨a,b,c,f,⟨h1,h2,h3,h4⟩,rfl⟩:=h.four;obtain⟨a',b',c',f',⟨j1,j2,j3,j4⟩,rfl⟩:=j.four;exact Sha.w1T h1 h2 h3 h4 j1 j2 j3 j4 hs
theorem m0S.mix {was data:B} {f n m:Nat} (h:m0S 4 was) (j:m0S m data) (hf:f<4) (hn:n=min data.length (256-f*64)):m0S 4 (s0Y was data (f*64) n):=by
 have hl:=j.len;have h1:=(h.take (m:=f) (by omega)).app ((j.take (m:=min m (4-f)) (by omega)).app (h.drop (m:=f+min m (4-f)) (by omega)));rw[show f+(min m (4-f)+(4- (f+min m (4-f))))=4 by omega]at h1;unfold s0Y;rw[List.append_assoc,show f*64=64*f by omega,show n=64*min m (4-f) by omega,show 64*f+64*min m (4-f)=64*(f+min m (4-f)) by omega];exact h1
section
section
variable {s t:St} {G:Gh}
theorem h2L {G:Gh} (hz:a0E 0 G=none):a0W G 0=fun _=>a0K 256:=by
 funext j;unfold a0W;split
 ·rw[t0R hz];unfold d0B;rw[hz]
 ·rfl
theorem CI.z (h:CI s G):a0E 0 G=none:=by
 cases hg:a0E 0 G with
 |none=>rfl
 |some o=>exact absurd rfl (h.inv.ne0 hg)
theorem s1O (n bits:Nat):b0K (j0T (g0A (n+2)) 2 bits 1)=n:=by
 have:(j0T (g0A (n+2)) 2 bits 1).g=List.replicate n 0:=by simp[j0T,g0A]
 unfold b0K;rw[this,List.count_replicate];simp
theorem s2F (bits:Nat) (k at_:Nat) (data:B) (hd:data.length=64): ¬j0G bits [] (k+1) (fun _=>a0K 256) at_ data:=fun h=>by
 obtain⟨h0,h1⟩:=h;rcases h1 with ⟨_,o,hom,j,_,hz,_,_⟩|h2
 ·rcases List.mem_cons.1 hom with rfl|hom
  ·rw[d0L]at hz;cases hz
  ·cases hom
 ·have:data.drop (min data.length (256-at_%4*64))= []:=by apply List.drop_eq_nil_of_le;omega
  rw[this]at h2;cases k with
  |zero=>exact h2
  |succ k=>exact h2.1 rfl
theorem s1P {id:Int} {x:Ent} (hx:a0E id s.vols=some x):find id (start s 0)=(.ok x,start s 0):=by
 unfold find;rw[show a0E id (Go.Sb.start s 0).vols=some x from hx]
theorem CI.startRel (h:CI s G):Rel 0 0 (Go.Sb.start s 0) (Go.Sb.start s 0):=Rel.refl (h.start 0).1.u
theorem CI.writeOnly (h:CI s G) {id at_:Int} {x:Ent} {data:B} (hx:a0E id s.vols=some x) (ho:x.only=true):
 ∃s',h0I id at_ data s=(.ok 7,s')∧CI s' G∧s'.vols.Perm s.vols∧meq s'.vols s.vols∧s'.bits=s.bits∧s'.next=s.next∧s'.epoch=s.epoch∧b0K s≤b0K s':=by
 refine h.writeErr (t:=Go.Sb.start s 0) (c:=0) (k:=0) ?_ (by decide) h.startRel;unfold i0H l0H;exact a0I (by rw[a0A (s1P hx),if_pos ho];rfl)
theorem CI.writeRange (h:CI s G) {id at_:Int} {x:Ent} {data:B} (hx:a0E id s.vols=some x) (ho:x.only=false) (h64:data.length%64=0)
 (hout:at_<0∨(x.size:Int)<at_∨(x.size:Int)-at_<(data.length/64:Nat)):
 ∃s',h0I id at_ data s=(.ok 6,s')∧CI s' G∧s'.vols.Perm s.vols∧meq s'.vols s.vols∧s'.bits=s.bits∧s'.next=s.next∧s'.epoch=s.epoch∧b0K s≤b0K s':=by
 have hmem:(id,x)∈s.vols:=(e0Q h.inv.u.m.vols).1 hx;have hids:x.id=id∧1≤x.size∧x.size≤2048:=h.ids _ hmem;refine h.writeErr (t:=Go.Sb.start s 0) (c:=0) (k:=0) ?_ (by decide) h.startRel;unfold i0H l0H;rw[a0A (show a0B (find id) (fun x=>if x.only=true then n0Q 7 else ret x) (Go.Sb.start s 0)=(.ok x,Go.Sb.start s 0) by rw[a0A (s1P hx),if_neg (by simp[ho])];rfl),if_neg (by omega)];refine a0I ?_;unfold g0S;rw[if_neg (by omega)];unfold l0E;rw[if_pos (by omega)];rfl
end
def m1V (s:St):Prop:=s.bits≤256∧s.vols.length≤1000
theorem CI.fits {s:St} {G:Gh} (h:CI s G) (hb:s.bits=256):m1V s:=⟨by omega,by have:=h.few;omega⟩
def xsD:B:=List.replicate 64 120
theorem w1U: ∃s1 s2 s3 s4 s5:St,(m1V (j0T (g0A 100) 2 256 1)∧m1V s1∧m1V s2∧m1V s3∧m1V s4)∧g0K 5 (j0T (g0A 100) 2 256 1)=(.ok (1,0),s1)∧h0I 1 4 xsD s1=(.ok 0,s2)∧
 i0G 1 true s2=(.ok (2,0),s3)∧h0I 2 0 [] s3=(.ok 7,s4)∧h0I 1 5 xsD s4=(.ok 6,s5):=by
 have h0:CI (j0T (g0A 100) 2 256 1) []:=CI.new (n:=98) (bits:=256) (by omega);have f0:=s1O 98 256;have hxl:xsD.length=64:=rfl;obtain⟨s1,e1,h1,v1,n1,p1,b1,r1⟩:=h0.create (size:=5) (by omega) (by show 0<16;omega) rfl (by rw[f0];show 2*(0+1)≤98;omega);have v1':s1.vols= [((1:Int),{h0T with size:=5,id:=1,born:=1})]:=v1;have n1':s1.next=2:=n1;have hb1:s1.bits=256:=b1;have hx1:a0E 1 s1.vols=some {h0T with size:=5,id:=1,born:=1} :=by rw[v1'];rfl
 have hm:a0W ([]:Gh) 0=fun _=>a0K 256:=h2L rfl;have ho:n0M s1 [] 1= []:=by unfold n0M;rw[v1'];rfl
 rw[f0]at r1;obtain⟨s2,G2,r,e2,h2,v2,m2,_,n2,_,b2,r2⟩:=h1.write (m:=1) (at_:=4) (data:=xsD) hx1 rfl hxl (by show((4:Nat):Int)+((1:Nat):Int)≤5;omega) (by rw[v1'];show 2*1+1*8≤_;omega) (by omega)
  (by rw[ho,hb1];show ¬j0G 256 [] xsD.length (a0W [] 0) 4 xsD;rw[hm];exact s2F 256 63 4 xsD rfl)
 have v2':s2.vols= [((1:Int),{h0T with size:=5,id:=1,born:=1,root:=r})]:=by rw[v2,v1'];rfl
 have hx2:a0E 1 s2.vols=some {h0T with size:=5,id:=1,born:=1,root:=r} :=by rw[v2'];rfl
 have hn2:s2.next=2:=n2.trans n1';obtain⟨s3,e3,h3,v3,n3,p3,b3,r3⟩:=h2.copy (id:=1) (only:=true) hx2 (by rw[v2'];show 1<16;omega) (by rw[hn2,v2'];rfl) (by rw[v2'];show 2*(1+1)≤_;omega);rw[hn2]at e3 v3;have hb3:s3.bits=256:=b3.trans (b2.trans hb1);have hx3:a0E 1 s3.vols=some {h0T with size:=5,id:=1,born:=1,root:=r} :=by rw[v3,v2'];rfl
 have hy3:a0E 2 s3.vols=some {h0T with parent:=1,only:=true,size:=5,root:=r,id:=2,born:=s2.epoch} :=by rw[v3,v2'];rfl
 obtain⟨s4,e4,h4,_,q4,b4,_⟩:=h3.writeOnly (at_:=0) (data:= []) hy3 rfl;have hx4:a0E 1 s4.vols=some {h0T with size:=5,id:=1,born:=1,root:=r} :=by rw[q4];exact hx3
 obtain⟨s5,e5,_⟩:=h4.writeRange (at_:=5) (data:=xsD) hx4 rfl rfl (by right;right;show(5:Int)-5<_;rw[hxl];decide);exact⟨s1,s2,s3,s4,s5,⟨h0.fits rfl,h1.fits hb1,h2.fits (b2.trans hb1),h3.fits hb3,h4.fits (b4.trans hb3)⟩,e1,e2,e3,e4,e5⟩
end
structure k0W (m:List Lf) (f:Nat→B):Prop where
 ok:m0D m
 nz: ∀x∈m,a0R x.2=false
 eq: ∀j:Nat,f j=f0M (j:Int) m
theorem o0W (j:Int): ∀m:List Lf,f0M j m=a0K 256∨(j,f0M j m)∈m
 | []=> .inl rfl
 | (a,d)::r=>by
  rw[j0F];by_cases e:a=j
  ·rw[if_pos e];subst e;exact .inr List.mem_cons_self
  ·rw[if_neg e];exact(o0W j r).imp id (List.mem_cons_of_mem _)
theorem i1C {x:Lf} : ∀ {m:List Lf},(m.Pairwise fun a b=>a.1<b.1)→x∈m→f0M x.1 m=x.2
 | (a,d)::r,hp,hx=>by
  obtain⟨h1,h2⟩:=List.pairwise_cons.1 hp;rw[j0F];rcases List.mem_cons.1 hx with rfl|hx
  ·rw[if_pos rfl]
  ·have:=h1 x hx;rw[if_neg (by simp only at this;omega)];exact i1C h2 hx
theorem i1D (at_:Int) (d:B): ∀(m:List Lf) (done:Bool),(o0V at_ d done m).length+(m.filter fun x=>decide (x.1=at_)).length=m.length+if done then 0 else 1
 | [],done=>by unfold o0V;cases done<;>rfl
 |x::r,done=>by
  have ih:=i1D at_ d r (done || decide (at_<x.1));rw[k1E,List.length_append,List.length_append,List.filter_cons,List.length_cons];by_cases h1:x.1=at_
  ·rw[if_pos h1,decide_eq_true h1,if_pos rfl,List.length_cons];have h2: ¬at_<x.1:=by omega
   rw[decide_eq_false h2,Bool.or_false]at ih;rw[if_neg (fun h=>h2 h.2),decide_eq_false h2,Bool.or_false];simp only[List.length_nil];omega
  ·rw[if_neg h1,decide_eq_false h1,if_neg Bool.false_ne_true,List.length_singleton];by_cases h2:at_<x.1
   ·rw[decide_eq_true h2,Bool.or_true]at ih ⊢;cases done with
    |true=>rw[if_neg (fun h=>by cases h.1)];simp only[if_true,List.length_nil]at ih ⊢;omega
    |false=>rw[if_pos ⟨rfl,h2⟩];simp only[if_true,List.length_singleton,Bool.false_eq_true,if_false]at ih ⊢;omega
   ·rw[decide_eq_false h2,Bool.or_false]at ih ⊢;rw[if_neg (fun h=>h2 h.2)];simp only[List.length_nil];omega
theorem m2Q (m:List Lf) (at_:Int) (d:B):(j0X m at_ d).length≤m.length+1:=by
 have:=i1D at_ d m (a0R d);unfold j0X;split at this<;>omega
theorem h2M {m:List Lf} {at_:Int} {d:B} (h:a0R d=true∨f0M at_ m≠a0K 256):(j0X m at_ d).length≤m.length:=by
 have hc:=i1D at_ d m (a0R d);unfold j0X;rcases h with h|h
 ·rw[h,if_pos rfl]at hc;rw[h];omega
 ·have h1:(at_,f0M at_ m)∈m:=(o0W at_ m).resolve_left h;have h2:(at_,f0M at_ m)∈m.filter fun x=>decide (x.1=at_):=List.mem_filter.2 ⟨h1,by simp⟩;have h3:=List.length_pos_of_mem h2;split at hc<;>omega
theorem k0W.put {m:List Lf} {f:Nat→B} (h:k0W m f) {a:Nat} {d:B} (ha:a<512) (hd:d.length=256):k0W (j0X m (a:Int) d) (upd f a d):=by
 refine⟨h.ok.put ⟨by omega,by omega⟩ hd,fun x hx=> ?_,fun j=> ?_⟩
 ·rcases b1C (a:Int) d m _ x hx with ⟨h1,_⟩| ⟨h1,rfl⟩
  ·exact h.nz x h1
  ·exact h1
 ·unfold upd j0X;rw[o1O];by_cases e:j=a
  ·subst e;rw[if_pos rfl,if_pos rfl];split
   ·rename_i hz;exact a1Y hz hd
   ·rfl
  ·rw[if_neg e,if_neg (by omega),h.eq]
theorem k0W.far {m:List Lf} {f:Nat→B} (h:k0W m f) {j:Nat} (hz:a0R (f j)=false):j<512:=by
 rw[h.eq]at hz;rcases o0W (j:Int) m with h1|h1
 ·rw[h1,d0L]at hz;cases hz
 ·have:=(h.ok.in_ _ h1).2.1;simp only at this;omega
def o0X (Ms:List (Nat→B)) (bits:Nat):Prop:= ∀m1∈Ms,∀m2∈Ms,∀i j,a0R (m1 i)=false→a0R (m2 j)=false→key bits (Sha.sum (m1 i))=key bits (Sha.sum (m2 j))→m1 i=m2 j
theorem o0X.step {f:Nat→B} {Os:List (Nat→B)} {bits a:Nat} {d:B} (h:o0X (f::Os) bits) (hf: ∀g∈f::Os,∀j,a0R (g j)=false→j<512) (hn:a0R d=false→ ¬x0D (f::Os) bits d):o0X (upd f a d::Os) bits:=by
 have key1: ∀g∈upd f a d::Os,∀j,(g j=d∨ ∃g'∈f::Os,g j=g' j):=fun g hg j=>by
  rcases List.mem_cons.1 hg with rfl|hg
  ·by_cases e:j=a
   ·left;unfold Go.Sb.upd;rw[if_pos e]
   ·right;exact⟨f,List.mem_cons_self,by unfold Go.Sb.upd;rw[if_neg e]⟩
  ·exact .inr ⟨g,List.mem_cons_of_mem _ hg,rfl⟩
 have one: ∀g∈f::Os,∀j,a0R d=false→a0R (g j)=false→key bits (Sha.sum (g j))=key bits (Sha.sum d)→g j=d:=fun g hg j hd hz hk=>by
  by_cases e:g j=d
  ·exact e
  ·exact(hn hd ⟨g,hg,j,hf g hg j hz,hz,e,hk⟩).elim
 intro m1 h1 m2 h2 i j z1 z2 hk;rcases key1 m1 h1 i with e1| ⟨g1,hg1,e1⟩<;>rcases key1 m2 h2 j with e2| ⟨g2,hg2,e2⟩
 ·rw[e1,e2]
 ·rw[e1]at hk z1 ⊢;rw[e2]at hk z2 ⊢;exact(one g2 hg2 j z1 z2 hk.symm).symm
 ·rw[e1]at hk z1 ⊢;rw[e2]at hk z2 ⊢;exact one g1 hg1 i z2 z1 hk
 ·rw[e1]at hk z1 ⊢;rw[e2]at hk z2 ⊢;exact h g1 hg1 g2 hg2 i j z1 z2 hk
theorem o0X.noClash {f:Nat→B} {Os:List (Nat→B)} {bits a:Nat} (h:o0X (f::Os) bits) (hz:a0R (f a)=false): ¬x0D (f::Os) bits (f a):=by
 rintro⟨g,hg,j,_,z,hne,hk⟩;exact hne (h g hg f List.mem_cons_self j a z hz hk)
structure r0A (c:Rp) (i:Nat) (Os:List (Nat→B)):Prop where
 to_: ∀k,k<c.l.length→k≠i→ ∃f∈Os,k0W (c.l.getD k v0).m f
 of_: ∀f∈Os,∃k,k<c.l.length∧k≠i∧k0W (c.l.getD k v0).m f
theorem s0F (c:Rp) (i:Nat) (m:List Lf):(d0E c i m).l.length=c.l.length:=by unfold d0E;simp
theorem s1Q {c:Rp} {i k:Nat} {m:List Lf} (h:k≠i):(d0E c i m).l.getD k v0=c.l.getD k v0:=by
 unfold d0E;simp only[List.getD_eq_getElem?_getD];rw[List.getElem?_set_ne (Ne.symm h)]
theorem x0F {c:Rp} {i:Nat} {m:List Lf} (h:i<c.l.length):(d0E c i m).l.getD i v0= {c.l.getD i v0 with m:=m} :=by
 unfold d0E;simp only[List.getD_eq_getElem?_getD];rw[List.getElem?_set_self h];rfl
theorem p0N {c:Rp} {i:Nat} {m m':List Lf} (h:i<c.l.length):d0E (d0E c i m) i m'=d0E c i m':=by
 have h1:=x0F (m:=m) h;unfold d0E at h1 ⊢;simp only at h1 ⊢;rw[h1,List.set_set]
theorem n0O {c:Rp} {i:Nat} (h:i<c.l.length):d0E c i (c.l.getD i v0).m=c:=by
 unfold d0E;have e:c.l.set i {c.l.getD i v0 with m:=(c.l.getD i v0).m} =c.l:=by
  rw[List.getD_eq_getElem?_getD,List.getElem?_eq_getElem h];exact List.set_getElem_self h
 rw[e]
theorem r0A.with_ {c:Rp} {i:Nat} {Os:List (Nat→B)} (h:r0A c i Os) (m:List Lf):r0A (d0E c i m) i Os:=
 ⟨fun k hk hne=>by rw[s0F]at hk;rw[s1Q hne];exact h.to_ k hk hne,fun f hf=>by obtain⟨k,h1,h2,h3⟩:=h.of_ f hf;exact⟨k,by rw[s0F];exact h1,h2,by rw[s1Q h2];exact h3⟩⟩
theorem r0A.far {c:Rp} {i:Nat} {f:Nat→B} {Os:List (Nat→B)} (h:r0A c i Os) (hf:k0W (c.l.getD i v0).m f): ∀g∈f::Os,∀j,a0R (g j)=false→j<512:=fun g hg j hz=>by
 rcases List.mem_cons.1 hg with rfl|hg
 ·exact hf.far hz
 ·obtain⟨k,_,_,h3⟩:=h.of_ g hg;exact h3.far hz
theorem r0B {l:List Vp} {k:Nat} (h:k<l.length):l.getD k v0=l[k]:=by rw[List.getD_eq_getElem?_getD,List.getElem?_eq_getElem h];rfl
theorem c2O {c:Rp} {i:Nat} {f:Nat→B} {Os:List (Nat→B)} (hi:i<c.l.length) (h:r0A c i Os) (hf:k0W (c.l.getD i v0).m f) (data:B):p0C c data=true↔x0D (f::Os) c.bits data:=by
 unfold p0C;constructor
 ·intro hr;obtain⟨v,hv,hr⟩:=List.any_eq_true.1 hr;obtain⟨x,hx,hr⟩:=List.any_eq_true.1 hr;obtain⟨hne,hk⟩:=of_decide_eq_true hr;obtain⟨k,hk2,rfl⟩:=List.mem_iff_getElem.1 hv;have: ∃g∈f::Os,k0W (c.l.getD k v0).m g:=by
   by_cases e:k=i
   ·subst e;exact⟨f,List.mem_cons_self,hf⟩
   ·obtain⟨g,hg,h3⟩:=h.to_ k hk2 e;exact⟨g,List.mem_cons_of_mem _ hg,h3⟩
  obtain⟨g,hg,h3⟩:=this;rw[r0B hk2]at h3;have hin:=h3.ok.in_ x hx;have he:g x.1.toNat=x.2:=by rw[h3.eq,Int.toNat_of_nonneg hin.1];exact i1C h3.ok.ord hx
  exact⟨g,hg,x.1.toNat,by omega,by rw[he];exact h3.nz x hx,by rw[he];exact hne,by rw[he];exact hk⟩
 ·rintro⟨g,hg,j,hj,hz,hne,hk⟩;have: ∃k,k<c.l.length∧k0W (c.l.getD k v0).m g:=by
   rcases List.mem_cons.1 hg with rfl|hg
   ·exact⟨i,hi,hf⟩
   ·obtain⟨k,h1,_,h3⟩:=h.of_ g hg;exact⟨k,h1,h3⟩
  obtain⟨k,hk2,h3⟩:=this;rw[r0B hk2]at h3;rw[h3.eq]at hz hne hk;rcases o0W (j:Int) c.l[k].m with h1|h1
  ·rw[h1,d0L]at hz;cases hz
  ·exact List.any_eq_true.2 ⟨_,List.getElem_mem hk2,List.any_eq_true.2 ⟨_,h1,decide_eq_true ⟨hne,hk⟩⟩⟩
theorem m2R (was data:B) (f n:Nat):b1B was data f n=s0Y was data f n:=rfl
theorem w1V {data:B} (f n:Nat) (h:a0R data=true):a0R (s0Y (a0K 256) data f n)=true:=by
 unfold a0R s0Y at*
 rw[List.all_eq_true]at h ⊢;intro x hx;rcases List.mem_append.1 hx with hx|hx
 ·rcases List.mem_append.1 hx with hx|hx
  ·have:=List.mem_of_mem_take hx;rw[a0K,List.mem_replicate]at this;rw[this.2];rfl
  ·exact h x (List.mem_of_mem_take hx)
 ·have:=List.mem_of_mem_drop hx;rw[a0K,List.mem_replicate]at this;rw[this.2];rfl
theorem s1R {data:B} (n:Nat) (h:a0R data=true):a0R (data.drop n)=true:=by
 unfold a0R at*
 rw[List.all_eq_true]at h ⊢;exact fun x hx=>h x (List.mem_of_mem_drop hx)
def c2P (at_:Nat) (data:B):Nat:=if data.length=0 then 0 else(at_%4*64+data.length+255)/256
theorem r0C (i:Nat): ∀(k:Nat) (c:Rp) (f:Nat→B) (Os:List (Nat→B)) (at_:Nat) (data:B),i<c.l.length→r0A c i Os→k0W (c.l.getD i v0).m f→o0X (f::Os) c.bits→at_*64+data.length≤131072→data.length%64=0→data.length≤k→
 (j0G c.bits Os k f at_ data∧(d0D i k c at_ data).2=9)∨
 (¬j0G c.bits Os k f at_ data∧ ∃m',d0D i k c at_ data=(d0E c i m',0)∧k0W m' (j0Z k f at_ data)∧o0X (j0Z k f at_ data::Os) c.bits∧
  m'.length≤(c.l.getD i v0).m.length+c2P at_ data∧(a0R data=true→m'.length≤(c.l.getD i v0).m.length))
 |0,c,f,Os,at_,data,hi,ho,hf,hu,_,_,_=> .inr ⟨id,(c.l.getD i v0).m,by rw[n0O hi];rfl,hf,hu,by omega,fun _=>Nat.le_refl _⟩
 |k+1,c,f,Os,at_,data,hi,ho,hf,hu,hroom,h64,hk=>by
  by_cases hd:data= []
  ·refine .inr ⟨fun h=>h.1 hd,(c.l.getD i v0).m,?_,?_,?_,by omega,fun _=>Nat.le_refl _⟩
   ·rw[n0O hi];unfold d0D;rw[if_pos hd]
   ·unfold j0Z;rw[if_pos hd];exact hf
   ·unfold j0Z;rw[if_pos hd];exact hu
  ·have hl:data.length≠0:=fun e=>hd (List.eq_nil_of_length_eq_zero e);obtain⟨ff,hff⟩: ∃ff,ff=at_%4*64:=⟨_,rfl⟩;obtain⟨n,hn⟩: ∃n,n=min data.length (256-ff):=⟨_,rfl⟩;have ha:at_/4<512:=by omega
   have hwas:f0M ((at_/4:Nat):Int) (c.l.getD i v0).m=f (at_/4):=(hf.eq _).symm;have hwl:(f (at_/4)).length=256:=by rw[hf.eq];exact hf.ok.get_len _
   obtain⟨now,hnow⟩: ∃now,now=s0Y (f (at_/4)) data ff n:=⟨_,rfl⟩;have hnl:now.length=256:=by rw[hnow];exact s1G hwl (by omega) (by omega)
   have hcl:=c2O hi ho hf now;have hrp:d0D i (k+1) c at_ data=if now≠f (at_/4)∧a0R now=false∧p0C c now=true then(c,9)else d0D i k (d0E c i (j0X (c.l.getD i v0).m ((at_/4:Nat):Int) now)) (at_+n/64) (data.drop n):=by
    rw[d0D,if_neg hd];simp only;rw[hwas,←hff,←hn,m2R,←hnow]
   have hpn:j0G c.bits Os (k+1) f at_ data↔((a0R now=false∧x0D (f::Os) c.bits now)∨j0G c.bits Os k (upd f (at_/4) now) (at_+n/64) (data.drop n)):=by
    conv=>lhs;unfold j0G
    rw[←hff,←hn,←hnow];exact⟨fun h=>h.2,fun h=>⟨hd,h⟩⟩
   have hpf:j0Z (k+1) f at_ data=j0Z k (upd f (at_/4) now) (at_+n/64) (data.drop n):=by
    conv=>lhs;unfold j0Z
    rw[if_neg hd,←hff,←hn,←hnow]
   by_cases hc:a0R now=false∧x0D (f::Os) c.bits now
   ·have hne:now≠f (at_/4):=fun e=>by
     rw[e]at hc;exact hu.noClash hc.1 hc.2
    exact .inl ⟨hpn.2 (.inl hc),by rw[hrp,if_pos ⟨hne,hc.1,hcl.2 hc.2⟩]⟩
   ·have hdl:(data.drop n).length=data.length-n:=List.length_drop;have hm:=hf.put ha hnl;have hrl:=s0F c i (j0X (c.l.getD i v0).m ((at_/4:Nat):Int) now);have hra:=x0F (m:=j0X (c.l.getD i v0).m ((at_/4:Nat):Int) now) hi;have ih:=r0C i k (d0E c i (j0X (c.l.getD i v0).m ((at_/4:Nat):Int) now)) (upd f (at_/4) now) Os (at_+n/64) (data.drop n) (by rw[hrl];exact hi) (ho.with_ _) (by rw[hra];exact hm)
     (hu.step (ho.far hf) fun hz h=>hc ⟨hz,h⟩) (by omega) (by omega) (by omega)
    rw[show(d0E c i (j0X (c.l.getD i v0).m ((at_/4:Nat):Int) now)).bits=c.bits from rfl,hra]at ih;have hno: ¬(now≠f (at_/4)∧a0R now=false∧p0C c now=true):=fun h=>hc ⟨h.2.1,hcl.1 h.2.2⟩;rw[hrp,if_neg hno,hpf];rcases ih with ⟨h1,h2⟩| ⟨h1,m',h2,h3,h4,h5,h6⟩
    ·exact .inl ⟨hpn.2 (.inr h1),h2⟩
    ·refine .inr ⟨fun h=>(hpn.1 h).elim hc h1,m',?_,h3,h4,?_,fun hz=> ?_⟩
     ·rw[h2,p0N hi]
     ·have:=m2Q (c.l.getD i v0).m ((at_/4:Nat):Int) now;simp only at h5;unfold c2P at h5 ⊢;rw[hdl]at h5;rw[if_neg hl];have:n=256-ff∨n=data.length:=by omega
      split at h5
      ·omega
      ·omega
     ·refine Nat.le_trans (h6 (s1R n hz)) (h2M ?_);by_cases e:f0M ((at_/4:Nat):Int) (c.l.getD i v0).m=a0K 256
      ·left;rw[hnow,←hwas,e];exact w1V _ _ hz
      ·exact .inr e
section
def lvK (g:Nat→Int→Option (List (Nat×Int))):Nat→List Int→Option (List (Nat×Int))
 |_,[]=>some []
 |i,k::l=>(g i k).bind fun a=>(lvK g (i+1) l).map (a++ ·)
def lvs:Nat→Nat→Int→St→Option (List (Nat×Int))
 |0,from_,at_,s=>match (load at_ 0 s).1 with
  | .ok n=>lvK (fun i k=>some (if k=0 then []else [(from_+i,k)])) 0 n.kids
  |_=>none
 |l+1,from_,at_,s=>match (load at_ (l+1) s).1 with
  | .ok n=>lvK (fun i k=>if k=0 then some []else lvs l (from_+i*8^(l+1)) k s) 0 n.kids
  |_=>none
def f1L (s:St) (from_:Nat):Nat→Nat→Int→Option (List (Nat×Int))
 |0=>fun i k=>some (if k=0 then []else [(from_+i,k)])
 |l+1=>fun i k=>if k=0 then some []else lvs l (from_+i*8^(l+1)) k s
theorem v2U (l from_:Nat) (at_:Int) (s:St):lvs l from_ at_ s=match (load at_ l s).1 with| .ok n=>lvK (f1L s from_ l) 0 n.kids|_=>none:=by cases l<;>rfl
section
variable {C:Type}
def f0Y (see:Nat×Int→C→Bool×C):List (Nat×Int)→C→Bool×C
 | [],c=>(true,c)
 |x::l,c=>if(see x c).1 then f0Y see l (see x c).2 else(false,(see x c).2)
theorem s1S (see:Nat×Int→C→Bool×C) (ys:List (Nat×Int)): ∀(xs:List (Nat×Int)) (c:C),f0Y see (xs++ys) c=if(f0Y see xs c).1 then f0Y see ys (f0Y see xs c).2 else(false,(f0Y see xs c).2)
 | [],c=>by simp[f0Y]
 |x::xs,c=>by
  rw[List.cons_append];have e1:f0Y see (x::(xs++ys)) c=if(see x c).1 then f0Y see (xs++ys) (see x c).2 else(false,(see x c).2):=rfl
  have e2:f0Y see (x::xs) c=if(see x c).1 then f0Y see xs (see x c).2 else(false,(see x c).2):=rfl
  rw[e1,e2];split
  ·exact s1S see ys xs _
  ·simp
end
def d0G (from_ upto:Nat) (x:Nat×Int) (c:List (Nat×Int)):Bool×List (Nat×Int):=if upto≤x.1 then(false,c)else if from_≤x.1 then(true,c++ [x])else(true,c)
def l0K (root:Int) (from_ upto:Nat):M (List (Nat×Int)):=fun s=>match lvs 2 0 root s with
 |some xs=>(.ok (f0Y (d0G from_ upto) xs []).2,s)
 |none=>(.big,s)
def k0A (root:Int) (from_ upto:Nat):M Int:=a0B (l0K root from_ upto) fun l=>r0R (fun r x=>l0P r x.1 0) root l
def h0K (x:Ent) (from_ upto:Nat):M Ent:=if 5000<upto then fun s=>(.big,s)else
 if upto/4≤(from_+3)/4 then e0N x from_ (a0K ((upto-from_)*64))else
 a0B (e0N x from_ (a0K (((from_+3)/4*4-from_)*64))) fun y=>a0B (k0A y.root ((from_+3)/4) (upto/4)) fun r=>
 e0N {y with root:=r} (upto/4*4) (a0K ((upto-upto/4*4)*64))
def p0O (id:Int):M Unit:=a0B (find id) fun x=>a0B (n0R id) fun _=>u0E x.root 2
def r0U (id:Int):M Int:=a0B (h0V (e0O 0 (p0O id))) fun r=>ret r.1
def l0L (id size:Int):M Unit:=a0B (l0H id) fun x=>if size<1∨2048<size then n0Q 4 else
 a0B (if size<x.size then h0K x size.toNat x.size.toNat else ret x) fun y=>l0Q {y with size:=size}
def r0V (id size:Int):M Int:=a0B (h0V (e0O 0 (l0L id size))) fun r=>ret r.1
def r0D (id at_ n:Int):M Unit:=a0B (l0H id) fun x=>a0B (g0S x at_ n) fun _=>a0B (h0K x at_.toNat (at_+n).toNat) l0Q
def x0G (id at_ n:Int):M Int:=a0B (h0V (e0O 0 (r0D id at_ n))) fun r=>ret r.1
def d1M (id:Int):M B:=a0B (find id) fun x=>h1P x.root
def v0O (id:Int):M (B×Int):=a0B (h0V (d1M id)) fun r=>if r.1=0 then ret (a1Z (a0K 32) r.2,0)else fun s=>(.big,s)
end
end Go.Sb
