/- Part of the proof; no statement of its own. -/
import Derived.Test.YtpinhnikemamjaaGreatDoorS10
import Derived.KernelRfl
import Derived.Test.YtpinhnikemamjaaGreatDoorS12
set_option linter.all false
set_option maxRecDepth 4000
set_option maxHeartbeats 4000000
namespace Go.Sb.Sha
def w0:List W:= [1116352408#32,1899447441#32,3049323471#32,3921009573#32,961987163#32,1508970993#32,2453635748#32,2870763221#32,3624381080#32,310598401#32,607225278#32,1426881987#32,1925078388#32,2162078206#32,2614888103#32,3248222580#32,3835390401#32,4022224774#32,264347078#32,604807628#32,770255983#32,1249150122#32,1555081692#32,1996064986#32,2554220882#32,2821834349#32,2952996808#32,3210313671#32,3336571891#32,3584528711#32,113926993#32,338241895#32,666307205#32,773529912#32,1294757372#32,1396182291#32,1695183700#32,1986661051#32,2177026350#32,2456956037#32,2730485921#32,2820302411#32,3259730800#32,3345764771#32,3516065817#32,3600352804#32,4094571909#32,275423344#32,430227734#32,506948616#32,659060556#32,883997877#32,958139571#32,1322822218#32,1537002063#32,1747873779#32,1955562222#32,2024104815#32,2227730452#32,2361852424#32,2428436474#32,2756734187#32,3204031479#32,3329325298#32]
def w1:List W:= [1133195417#32,1916290450#32,3066166480#32,3937852582#32,978830172#32,1525814002#32,2470478757#32,2887606230#32,3641224089#32,327441410#32,624068287#32,1443724996#32,1941921397#32,2178921215#32,2631731112#32,3265065589#32,3382750981#32,3569585354#32,1582936477#32,1923397027#32,2110814574#32,2589708713#32,4043884060#32,4015384925#32,3459532953#32,4135387620#32,2269421627#32,1298861131#32,3979148651#32,2773771155#32,2837752842#32,45601321#32,2359728791#32,257968678#32,128202080#32,499975457#32,3295403810#32,3767750719#32,2936976636#32,4012566421#32,1813556566#32,2671037753#32,1528772788#32,4249992266#32,3123706547#32,3770506850#32,1350679377#32,1002245952#32,3016296585#32,1122779281#32,4258981106#32,2791365580#32,1927562864#32,2229998207#32,3591167994#32,464652048#32,3318886517#32,1896791069#32,2771517833#32,4032135724#32,275376738#32,725137816#32,903905101#32,1486194156#32]
def w2:List W:= [1150038426#32,1933133459#32,3083009489#32,3954695591#32,995673181#32,1542657011#32,2487321766#32,2904449239#32,3658067098#32,344284419#32,640911296#32,1460568005#32,1958764406#32,2195764224#32,2648574121#32,3281908598#32,2930111562#32,3116945935#32,2897331572#32,3237792122#32,3451361062#32,3930255201#32,3718529576#32,3220548013#32,2820640546#32,1615505226#32,2366379135#32,1380589179#32,1500484750#32,973756250#32,201810910#32,173434379#32,1923619370#32,1450592922#32,1787701321#32,1522187192#32,974114816#32,2366238110#32,2794782199#32,572494234#32,3426031149#32,3939998204#32,925616642#32,913473001#32,789112016#32,2383206471#32,3805508600#32,3282570650#32,3944913353#32,3449112579#32,3967958319#32,74740145#32,3696760330#32,485590616#32,486927552#32,2502831210#32,686267396#32,3492545449#32,3810547796#32,1028799346#32,1838545428#32,3464193052#32,2508397280#32,1595731735#32]
def w3:List W:= [1166881435#32,1949976468#32,3099852498#32,3971538600#32,1012516190#32,1559500020#32,2504164775#32,2921292248#32,3674910107#32,361127428#32,657754305#32,1477411014#32,1975607415#32,2212607233#32,2665417130#32,3298751607#32,2468951950#32,2655786323#32,1004735574#32,1345196124#32,2502358250#32,2981252389#32,2257086099#32,1281101915#32,977063174#32,2969724770#32,2555575135#32,883360581#32,189438193#32,989241110#32,3184034966#32,510754668#32,2981958896#32,1697766683#32,829290962#32,3598408888#32,2927043512#32,3874564143#32,1022800712#32,1114927619#32,3345800616#32,3315974508#32,2762326756#32,2756995779#32,889304423#32,478323665#32,956406703#32,2174782338#32,258716846#32,1414833826#32,410763748#32,1125978466#32,3057809126#32,2108334129#32,4203157581#32,165248569#32,3590525818#32,3866804577#32,2353776852#32,271200330#32,450320648#32,25902305#32,488404409#32,1793265406#32]
def w4:List W:= [3263836056#32,1899447441#32,3049323471#32,3921009573#32,961987163#32,1508970993#32,2453635748#32,2870763221#32,3624381080#32,310598401#32,607225278#32,1426881987#32,1925078388#32,2162078206#32,2614888103#32,3248224628#32,1687906753#32,4106110856#32,266464710#32,604808172#32,1340683375#32,1271432362#32,1639532318#32,1996086874#32,4198912342#32,3368162946#32,2954717485#32,56203285#32,819081873#32,3924826383#32,1615937327#32,3662244855#32,2205442591#32,1885708555#32,3539820678#32,858889044#32,45126111#32,1814009033#32,788498427#32,1731177263#32,1241315092#32,3112895784#32,1532581257#32,3188603407#32,1089985150#32,1654184804#32,866438350#32,4162380699#32,1364074688#32,476854630#32,599375586#32,108516303#32,1336354205#32,2395837610#32,4035581856#32,222193058#32,3370441009#32,3714610257#32,2931585713#32,2148752908#32,661148149#32,2606462070#32,41398732#32,3941551781#32]
def sec (k:Nat):List UInt8:=List.replicate 64 (UInt8.ofNat k)
def p0I:List UInt8:=128::(List.replicate 55 0++be8 2048)
theorem wk0:wk (sec 0)=w0:=by decide+kernel
theorem wk1:wk (sec 1)=w1:=by decide+kernel
theorem wk2:wk (sec 2)=w2:=by decide+kernel
theorem wk3:wk (sec 3)=w3:=by decide+kernel
theorem wk4:wk p0I=w4:=by decide+kernel
def ww (k:Nat):List W:=match k with|0=>w0|1=>w1|2=>w2|_=>w3
def four (k:List W→List Nat):List Nat:=k w0++(k w1++(k w2++k w3))
def e2M (h:List W):List Nat:=c1B h w4 fun h=> [(at_ h 0).toNat]
def t1W (h:List W):List Nat:=four fun x=>c1B h x fun h=>four fun y=>c1B h y e2M
def n0J (a b:Nat):List Nat:=c1B start (ww a) fun h=>c1B h (ww b) t1W
def tab (a b:Nat):List Nat:=match 4*a+b with
 |0=> [1396827826,1550914536,2039498492,2387280181,883752447,3361315047,3081931578,617895476,3230844978,3081737201,1092378180,1162281012,887862196,2522349969,2407102295,2345801324]
 |1=> [816925585,267325322,2516726038,469170299,1213298010,1492887108,1889090512,1112867804,4033131754,2205329458,868322499,2697439140,1122408886,3876903364,3112287776,121720113]
 |2=> [1818082622,205500531,407924280,1293077799,2633351488,177942856,2982880274,529217762,3295231060,4207249023,2863039356,2069284679,3467176235,3863159894,1288073670,3990524654]
 |3=> [3930838328,724011696,1384120662,4088765726,2032296519,3508868040,3580264942,2816610888,211294740,2782797484,1128998836,1705909736,2385785023,3744886094,4216486116,767631065]
 |4=> [3097901666,3202992244,362718933,4210244791,2734094447,1458808161,3817871448,2943924884,3944673291,2447768362,1752932943,2204911397,222153930,4028612426,1597712475,3196546693]
 |5=> [3120010704,1195085953,4277752222,3815451992,2508013137,643928591,3966578828,316068783,887900569,3749482315,2510327746,88037892,1377994081,4093650266,3901915426,3912518166]
 |6=> [4033243686,4101887202,3502492252,3359644000,2433058384,3392448812,888817791,1742637583,430630185,3758719454,3977517492,4172100499,2717165763,1902001073,2416475910,1018150990]
 |7=> [3411727756,3988348970,2246117797,4182375010,3857145990,1623241207,2442383249,3864420738,3978668586,2633374389,1299912381,4244146390,282988513,3035538353,6850534,838498126]
 |8=> [1335539051,1298252275,918927688,2068861076,576552239,2275519707,2934809269,3450107385,1373759052,790896672,2628775961,2708617305,1581747232,704528092,1640961482,3255314374]
 |9=> [686887521,1286960148,377635684,3760182258,2927729465,2515898291,964621818,2327155200,2182840564,2867099919,19437618,3763522739,3409218662,4167803790,1600797471,914285912]
 |10=> [877049130,2794465858,1290953114,1980436148,2549493040,2782994075,3218029552,2304389420,3941336782,2868785562,4123143733,4161443054,2922133596,1748554510,3962314760,899673374]
 |11=> [2649087361,3882011355,611689463,2776834808,180600510,2246553383,2895479405,2176980985,3887752967,2209223989,2123069431,2911691486,1192636373,1135468434,1377874293,507983806]
 |12=> [3658104682,2621240489,47344678,1065960580,493261673,4119635404,2607564121,29539086,3368889056,3927639752,4074504150,581044628,328746370,2519108573,1844154813,508049387]
 |13=> [1271925871,1591760705,2401340085,2803556920,2583380790,2750632103,195900958,4121962732,1552080054,2428184220,3391186730,1911646673,2644449414,3352566797,1669681715,1242822505]
 |14=> [3261799072,2434840550,731257797,3097765481,1900409995,486532404,2642946561,4248803625,1947981908,3341829803,3974871154,852255562,1363870554,3934961700,4069975497,1802615281]
 |_=> [3045905782,4100634443,2581448430,3349378404,3564129468,952281366,1918479817,3930107805,3807671625,3828478330,4192872740,1227702853,854333182,560490985,3536644234,3770807365]
theorem c00:n0J 0 0=tab 0 0:=by decide+kernel
theorem c01:n0J 0 1=tab 0 1:=by decide+kernel
theorem c02:n0J 0 2=tab 0 2:=by decide+kernel
theorem c03:n0J 0 3=tab 0 3:=by decide+kernel
theorem c10:n0J 1 0=tab 1 0:=by decide+kernel
theorem c11:n0J 1 1=tab 1 1:=by decide+kernel
theorem c12:n0J 1 2=tab 1 2:=by decide+kernel
theorem c13:n0J 1 3=tab 1 3:=by decide+kernel
theorem c20:n0J 2 0=tab 2 0:=by decide+kernel
theorem c21:n0J 2 1=tab 2 1:=by decide+kernel
theorem c22:n0J 2 2=tab 2 2:=by decide+kernel
theorem c23:n0J 2 3=tab 2 3:=by decide+kernel
theorem c30:n0J 3 0=tab 3 0:=by decide+kernel
theorem c31:n0J 3 1=tab 3 1:=by decide+kernel
theorem c32:n0J 3 2=tab 3 2:=by decide+kernel
theorem c33:n0J 3 3=tab 3 3:=by decide+kernel
def z0D (i:Nat):Nat:=(tab (i/64) (i/16%4)).getD (i%16) 0
def chk:Bool:=(List.range 256).all fun i=>(List.range 256).all fun j=>Nat.beq i j || !Nat.beq (z0D i) (z0D j)
theorem u2C:chk=true:=by decide+kernel
theorem u2D {i j:Nat} (hi:i<256) (hj:j<256) (h:z0D i=z0D j):i=j:=by
 have h1:=u2C;unfold chk at h1;rw[List.all_eq_true]at h1;have h2:=h1 i (List.mem_range.2 hi);rw[List.all_eq_true]at h2;have h3:=h2 j (List.mem_range.2 hj);rw[h,Nat.beq_refl,Bool.not_true,Bool.or_false]at h3;exact Nat.eq_of_beq_eq_true h3
theorem j2M {h:List W} (hh:h.length=8) {c d:Nat} (hc:c<4) (hd:d<4):(t1W h).getD (4*c+d) 0=(at_ (k0R (k0R (k0R h (ww c)) (ww d)) w4) 0).toNat:=by
 have e1: ∀x,c1B h x (fun h=>four fun y=>c1B h y e2M)= [(at_ (k0R (k0R (k0R h x) w0) w4) 0).toNat,(at_ (k0R (k0R (k0R h x) w1) w4) 0).toNat,(at_ (k0R (k0R (k0R h x) w2) w4) 0).toNat,(at_ (k0R (k0R (k0R h x) w3) w4) 0).toNat]:=fun x=>by
  have h1:=h0A (l:=x) hh;rw[o0X hh];unfold four e2M;dsimp only;rw[o0X h1,o0X h1,o0X h1,o0X h1,o0X (h0A h1),o0X (h0A h1),o0X (h0A h1),o0X (h0A h1)];rfl
 unfold t1W;have hf: ∀k:List W→List Nat,four k=k w0++(k w1++(k w2++k w3)):=fun _=>rfl;rw[hf];rw[e1,e1,e1,e1]
 match c,d,hc,hd with
 |0,0,_,_=>rfl
 |0,1,_,_=>rfl
 |0,2,_,_=>rfl
 |0,3,_,_=>rfl
 |1,0,_,_=>rfl
 |1,1,_,_=>rfl
 |1,2,_,_=>rfl
 |1,3,_,_=>rfl
 |2,0,_,_=>rfl
 |2,1,_,_=>rfl
 |2,2,_,_=>rfl
 |2,3,_,_=>rfl
 |3,0,_,_=>rfl
 |3,1,_,_=>rfl
 |3,2,_,_=>rfl
 |3,3,_,_=>rfl
theorem o2U {a b:Nat} (ha:a<4) (hb:b<4):n0J a b=tab a b:=by
 match a,b,ha,hb with
 |0,0,_,_=>exact c00
 |0,1,_,_=>exact c01
 |0,2,_,_=>exact c02
 |0,3,_,_=>exact c03
 |1,0,_,_=>exact c10
 |1,1,_,_=>exact c11
 |1,2,_,_=>exact c12
 |1,3,_,_=>exact c13
 |2,0,_,_=>exact c20
 |2,1,_,_=>exact c21
 |2,2,_,_=>exact c22
 |2,3,_,_=>exact c23
 |3,0,_,_=>exact c30
 |3,1,_,_=>exact c31
 |3,2,_,_=>exact c32
 |3,3,_,_=>exact c33
def t1X (a b c d:Nat):List W:=k0R (k0R (k0R (k0R (k0R start (ww a)) (ww b)) (ww c)) (ww d)) w4
theorem t1Y {a b c d:Nat} (ha:a<4) (hb:b<4) (hc:c<4) (hd:d<4):(at_ (t1X a b c d) 0).toNat=z0D (64*a+16*b+4*c+d):=by
 unfold z0D;rw[show(64*a+16*b+4*c+d)/64=a by omega,show(64*a+16*b+4*c+d)/16%4=b by omega,show(64*a+16*b+4*c+d)%16=4*c+d by omega,←o2U ha hb];unfold n0J;rw[o0X rfl,o0X (h0A rfl),j2M (h0A (h0A rfl)) hc hd];rfl
def w0E (a b c d:Nat):List UInt8:=sec a++(sec b++(sec c++sec d))
theorem u0L (k:Nat):(sec k).length=64:=by unfold sec;rw[List.length_replicate]
theorem o2V (a b c d:Nat):(w0E a b c d).length=256:=by unfold w0E;simp only[List.length_append,u0L]
theorem x2U {k:Nat} (h:k<4):wk (sec k)=ww k:=by
 match k,h with
 |0,_=>exact wk0
 |1,_=>exact wk1
 |2,_=>exact wk2
 |3,_=>exact wk3
theorem t1Z {a b c d:Nat} (ha:a<4) (hb:b<4) (hc:c<4) (hd:d<4):sum (w0E a b c d)=(t1X a b c d).flatMap be4:=by
 have hp:m0J (w0E a b c d)=sec a++(sec b++(sec c++(sec d++p0I))):=by
  unfold m0J;rw[o2V];unfold w0E;simp only[List.append_assoc];rfl
 have hl:(m0J (w0E a b c d)).length/64=5:=by
  rw[hp];simp only[List.length_append,u0L];rfl
 unfold sum;rw[hl,hp];unfold t1X;have step: ∀(n:Nat) (h:List W) (k:Nat) (r:List UInt8),k<4→f0J (n+1) h (sec k++r)=f0J n (k0R h (ww k)) r:=fun n h k r hk=>by
  show f0J n (mix h ((sec k++r).take 64)) ((sec k++r).drop 64)=_;rw[List.take_left' (u0L k),List.drop_left' (u0L k),j2L,x2U hk]
 rw[step 4 _ a _ ha,step 3 _ b _ hb,step 2 _ c _ hc,step 1 _ d _ hd];have e5: ∀h,f0J 1 h p0I=k0R h w4:=fun h=>by
  show mix h (p0I.take 64)=_;rw[List.take_of_length_le (by exact Nat.le_refl 64),j2L,wk4]
 rw[e5]
theorem u2E {x y:W} (h:be4 x=be4 y):x=y:=by
 unfold be4 at h;simp only[List.cons.injEq,and_true]at h;obtain⟨h1,h2,h3,h4⟩:=h;have h1:=congrArg UInt8.toBitVec h1;have h2:=congrArg UInt8.toBitVec h2;have h3:=congrArg UInt8.toBitVec h3;have h4:=congrArg UInt8.toBitVec h4;have g1:=congrArg BitVec.toNat h1;have g2:=congrArg BitVec.toNat h2;have g3:=congrArg BitVec.toNat h3;have g4:=congrArg BitVec.toNat h4;simp only[BitVec.toNat_setWidth,BitVec.toNat_ushiftRight,Nat.shiftRight_eq_div_pow]at g1 g2 g3 g4;apply BitVec.eq_of_toNat_eq;have:=x.isLt;have:=y.isLt;omega
theorem y1M {a b c d a' b' c' d':Nat} (ha:a<4) (hb:b<4) (hc:c<4) (hd:d<4) (ha':a'<4) (hb':b'<4) (hc':c'<4) (hd':d'<4) (h:sum (w0E a b c d)=sum (w0E a' b' c' d')):w0E a b c d=w0E a' b' c' d':=by
 rw[t1Z ha hb hc hd,t1Z ha' hb' hc' hd']at h;have l1:(t1X a b c d).length=8:=h0A (h0A (h0A (h0A (h0A rfl))));have l2:(t1X a' b' c' d').length=8:=h0A (h0A (h0A (h0A (h0A rfl))));have f1:=t1Y ha hb hc hd;have f2:=t1Y ha' hb' hc' hd';obtain⟨x0,x1,x2,x3,x4,x5,x6,x7,hx⟩:=s1E _ l1;obtain⟨y0,y1,y2,y3,y4,y5,y6,y7,hy⟩:=s1E _ l2;rw[hx,hy]at h;rw[hx]at f1;rw[hy]at f2;rw[List.flatMap_cons,List.flatMap_cons (xs:= [y1,y2,y3,y4,y5,y6,y7])]at h;have h4:=congrArg (List.take 4) h;rw[List.take_left' (show(be4 x0).length=4 from rfl),List.take_left' (show(be4 y0).length=4 from rfl)]at h4;have h5:=u2E h4;have h6:z0D (64*a+16*b+4*c+d)=z0D (64*a'+16*b'+4*c'+d'):=by
  rw[←f1,←f2];show x0.toNat=y0.toNat;rw[h5]
 have h7:=u2D (by omega) (by omega) h6;rw[show a=a' by omega,show b=b' by omega,show c=c' by omega,show d=d' by omega]
end Go.Sb.Sha
namespace Go.Sb
def mb (m:Nat→B) (q:Nat):UInt8:=(m (q/256)).getD (q%256) 0
theorem u1A {l:B} (h:l.length=32):c0O 256 l=l:=by
 unfold c0O;apply List.ext_getElem (by simp);intro i h1 h2;rw[List.getElem_mapIdx,if_neg (by omega)]
theorem b2O (d:B):key 256 (Sha.sum d)=Sha.sum d:=u1A (p0Z d)
def n0D (n:Nat) (d:B):Prop:= ∃ks:List Nat,ks.length=n∧(∀k∈ks,k<4)∧d=ks.flatMap Sha.sec
theorem e1N (ks:List Nat):(ks.flatMap Sha.sec).length=64*ks.length:=by
 induction ks with
 |nil=>rfl
 |cons k ks ih=>rw[List.flatMap_cons,List.length_append,ih,Sha.u0L,List.length_cons];omega
theorem n0D.len {n:Nat} {d:B} (h:n0D n d):d.length=64*n:=by obtain⟨ks,h1,_,rfl⟩:=h;rw[e1N,h1]
theorem n0D.app {n m:Nat} {a b:B} (h:n0D n a) (j:n0D m b):n0D (n+m) (a++b):=by
 obtain⟨ks,h1,h2,rfl⟩:=h;obtain⟨ls,j1,j2,rfl⟩:=j;exact⟨ks++ls,by simp[h1,j1],fun k hk=>(List.mem_append.1 hk).elim (h2 k) (j2 k),by rw[List.flatMap_append]⟩
theorem j2N (ks:List Nat) (n:Nat) (hn:n≤ks.length):(ks.flatMap Sha.sec).take (64*n)=(ks.take n).flatMap Sha.sec:=by
 conv=>lhs;rw[←List.take_append_drop n ks,List.flatMap_append]
 rw[List.take_left' (by rw[e1N,List.length_take];omega)]
theorem j2O (ks:List Nat) (n:Nat) (hn:n≤ks.length):(ks.flatMap Sha.sec).drop (64*n)=(ks.drop n).flatMap Sha.sec:=by
 conv=>lhs;rw[←List.take_append_drop n ks,List.flatMap_append]
 rw[List.drop_left' (by rw[e1N,List.length_take];omega)]
theorem n0D.take {n m:Nat} {d:B} (h:n0D n d) (hm:m≤n):n0D m (d.take (64*m)):=by
 obtain⟨ks,h1,h2,rfl⟩:=h;exact⟨ks.take m,by rw[List.length_take];omega,fun k hk=>h2 k (List.mem_of_mem_take hk),j2N _ _ (by omega)⟩
theorem n0D.drop {n m:Nat} {d:B} (h:n0D n d) (hm:m≤n):n0D (n-m) (d.drop (64*m)):=by
 obtain⟨ks,h1,h2,rfl⟩:=h;exact⟨ks.drop m,by rw[List.length_drop];omega,fun k hk=>h2 k (List.mem_of_mem_drop hk),j2O _ _ (by omega)⟩
theorem n0D.zero:n0D 4 (a0L 256):=⟨[0,0,0,0],rfl,by decide,by decide+kernel⟩
theorem n0D.four {d:B} (h:n0D 4 d): ∃a b c e:Nat,(a<4∧b<4∧c<4∧e<4)∧d=Sha.w0E a b c e:=by
 obtain⟨ks,h1,h2,rfl⟩:=h
 match ks,h1 with
 | [a,b,c,e],_=>exact⟨a,b,c,e,⟨h2 a (by simp),h2 b (by simp),h2 c (by simp),h2 e (by simp)⟩,by unfold Sha.w0E;simp⟩
theorem n0D.same {d e:B} (h:n0D 4 d) (j:n0D 4 e) (hs:key 256 (Sha.sum d)=key 256 (Sha.sum e)):d=e:=by
 rw[b2O,b2O]at hs;obtain⟨a,b,c,f,⟨h1,h2,h3,h4⟩,rfl⟩:=h.four;obtain⟨a',b',c',f',⟨j1,j2,j3,j4⟩,rfl⟩:=j.four;exact Sha.y1M h1 h2 h3 h4 j1 j2 j3 j4 hs
theorem n0D.mix {was data:B} {f n m:Nat} (h:n0D 4 was) (j:n0D m data) (hf:f<4) (hn:n=min data.length (256-f*64)):n0D 4 (t0O was data (f*64) n):=by
 have hl:=j.len;have h1:=(h.take (m:=f) (by omega)).app ((j.take (m:=min m (4-f)) (by omega)).app (h.drop (m:=f+min m (4-f)) (by omega)));rw[show f+(min m (4-f)+(4- (f+min m (4-f))))=4 by omega]at h1;unfold t0O;rw[List.append_assoc,show f*64=64*f by omega,show n=64*min m (4-f) by omega,show 64*f+64*min m (4-f)=64*(f+min m (4-f)) by omega];exact h1
section
section
variable {s t:St} {G:Gh}
theorem j2P {G:Gh} (hz:a0C 0 G=none):a0Z G 0=fun _=>a0L 256:=by
 funext j;unfold a0Z;split
 ·rw[u0K hz];unfold d0F;rw[hz]
 ·rfl
theorem CI.z (h:CI s G):a0C 0 G=none:=by
 cases hg:a0C 0 G with
 |none=>rfl
 |some o=>exact absurd rfl (h.inv.ne0 hg)
theorem u1B (n bits:Nat):a0Y (f0X (k0Q (n+2)) 2 bits 1)=n:=by
 have:(f0X (k0Q (n+2)) 2 bits 1).g=List.replicate n 0:=by simp[f0X,k0Q]
 unfold a0Y;rw[this,List.count_replicate];simp
theorem u2F (bits:Nat) (k at_:Nat) (data:B) (hd:data.length=64): ¬j0N bits [] (k+1) (fun _=>a0L 256) at_ data:=fun h=>by
 obtain⟨h0,h1⟩:=h;rcases h1 with ⟨_,o,hom,j,_,hz,_,_⟩|h2
 ·rcases List.mem_cons.1 hom with rfl|hom
  ·rw[d0N]at hz;cases hz
  ·cases hom
 ·have:data.drop (min data.length (256-at_%4*64))= []:=by apply List.drop_eq_nil_of_le;omega
  rw[this]at h2;cases k with
  |zero=>exact h2
  |succ k=>exact h2.1 rfl
theorem u1C {id:Int} {x:Ent} (hx:a0C id s.vols=some x):find id (start s 0)=(.ok x,start s 0):=by
 unfold find;rw[show a0C id (Go.Sb.start s 0).vols=some x from hx]
theorem CI.startRel (h:CI s G):Rel 0 0 (Go.Sb.start s 0) (Go.Sb.start s 0):=Rel.refl (h.start 0).1.u
theorem CI.writeOnly (h:CI s G) {id at_:Int} {x:Ent} {data:B} (hx:a0C id s.vols=some x) (ho:x.only=true):
 ∃s',h0K id at_ data s=(.ok 7,s')∧CI s' G∧s'.vols.Perm s.vols∧meq s'.vols s.vols∧s'.bits=s.bits∧s'.next=s.next∧s'.epoch=s.epoch∧a0Y s≤a0Y s':=by
 refine h.writeErr (t:=Go.Sb.start s 0) (c:=0) (k:=0) ?_ (by decide) h.startRel;unfold i0X l0Z;exact a0F (by rw[a0A (u1C hx),if_pos ho];rfl)
theorem CI.writeRange (h:CI s G) {id at_:Int} {x:Ent} {data:B} (hx:a0C id s.vols=some x) (ho:x.only=false) (h64:data.length%64=0)
 (hout:at_<0∨(x.size:Int)<at_∨(x.size:Int)-at_<(data.length/64:Nat)):
 ∃s',h0K id at_ data s=(.ok 6,s')∧CI s' G∧s'.vols.Perm s.vols∧meq s'.vols s.vols∧s'.bits=s.bits∧s'.next=s.next∧s'.epoch=s.epoch∧a0Y s≤a0Y s':=by
 have hmem:(id,x)∈s.vols:=(e0D h.inv.u.m.vols).1 hx;have hids:x.id=id∧1≤x.size∧x.size≤2048:=h.ids _ hmem;refine h.writeErr (t:=Go.Sb.start s 0) (c:=0) (k:=0) ?_ (by decide) h.startRel;unfold i0X l0Z;rw[a0A (show a0B (find id) (fun x=>if x.only=true then n0L 7 else ret x) (Go.Sb.start s 0)=(.ok x,Go.Sb.start s 0) by rw[a0A (u1C hx),if_neg (by simp[ho])];rfl),if_neg (by omega)];refine a0F ?_;unfold h0J;rw[if_neg (by omega)];unfold l0U;rw[if_pos (by omega)];rfl
end
def o1H (s:St):Prop:=s.bits≤256∧s.vols.length≤1000
theorem CI.fits {s:St} {G:Gh} (h:CI s G) (hb:s.bits=256):o1H s:=⟨by omega,by have:=h.few;omega⟩
def xsD:B:=List.replicate 64 120
theorem y1N: ∃s1 s2 s3 s4 s5:St,(o1H (f0X (k0Q 100) 2 256 1)∧o1H s1∧o1H s2∧o1H s3∧o1H s4)∧f0T 5 (f0X (k0Q 100) 2 256 1)=(.ok (1,0),s1)∧h0K 1 4 xsD s1=(.ok 0,s2)∧
 h0S 1 true s2=(.ok (2,0),s3)∧h0K 2 0 [] s3=(.ok 7,s4)∧h0K 1 5 xsD s4=(.ok 6,s5):=by
 have h0:CI (f0X (k0Q 100) 2 256 1) []:=CI.new (n:=98) (bits:=256) (by omega);have f0:=u1B 98 256;have hxl:xsD.length=64:=rfl;obtain⟨s1,e1,h1,v1,n1,p1,b1,r1⟩:=h0.create (size:=5) (by omega) (by show 0<16;omega) rfl (by rw[f0];show 2*(0+1)≤98;omega);have v1':s1.vols= [((1:Int),{g0L with size:=5,id:=1,born:=1})]:=v1;have n1':s1.next=2:=n1;have hb1:s1.bits=256:=b1;have hx1:a0C 1 s1.vols=some {g0L with size:=5,id:=1,born:=1} :=by rw[v1'];rfl
 have hm:a0Z ([]:Gh) 0=fun _=>a0L 256:=j2P rfl;have ho:o0A s1 [] 1= []:=by unfold o0A;rw[v1'];rfl
 rw[f0]at r1;obtain⟨s2,G2,r,e2,h2,v2,m2,_,n2,_,b2,r2⟩:=h1.write (m:=1) (at_:=4) (data:=xsD) hx1 rfl hxl (by show((4:Nat):Int)+((1:Nat):Int)≤5;omega) (by rw[v1'];show 2*1+1*8≤_;omega) (by omega)
  (by rw[ho,hb1];show ¬j0N 256 [] xsD.length (a0Z [] 0) 4 xsD;rw[hm];exact u2F 256 63 4 xsD rfl)
 have v2':s2.vols= [((1:Int),{g0L with size:=5,id:=1,born:=1,root:=r})]:=by rw[v2,v1'];rfl
 have hx2:a0C 1 s2.vols=some {g0L with size:=5,id:=1,born:=1,root:=r} :=by rw[v2'];rfl
 have hn2:s2.next=2:=n2.trans n1';obtain⟨s3,e3,h3,v3,n3,p3,b3,r3⟩:=h2.copy (id:=1) (only:=true) hx2 (by rw[v2'];show 1<16;omega) (by rw[hn2,v2'];rfl) (by rw[v2'];show 2*(1+1)≤_;omega);rw[hn2]at e3 v3;have hb3:s3.bits=256:=b3.trans (b2.trans hb1);have hx3:a0C 1 s3.vols=some {g0L with size:=5,id:=1,born:=1,root:=r} :=by rw[v3,v2'];rfl
 have hy3:a0C 2 s3.vols=some {g0L with parent:=1,only:=true,size:=5,root:=r,id:=2,born:=s2.epoch} :=by rw[v3,v2'];rfl
 obtain⟨s4,e4,h4,_,q4,b4,_⟩:=h3.writeOnly (at_:=0) (data:= []) hy3 rfl;have hx4:a0C 1 s4.vols=some {g0L with size:=5,id:=1,born:=1,root:=r} :=by rw[q4];exact hx3
 obtain⟨s5,e5,_⟩:=h4.writeRange (at_:=5) (data:=xsD) hx4 rfl rfl (by right;right;show(5:Int)-5<_;rw[hxl];decide);exact⟨s1,s2,s3,s4,s5,⟨h0.fits rfl,h1.fits hb1,h2.fits (b2.trans hb1),h3.fits hb3,h4.fits (b4.trans hb3)⟩,e1,e2,e3,e4,e5⟩
end
structure l0K (m:List Lf) (f:Nat→B):Prop where
 ok:m0R m
 nz: ∀x∈m,a0R x.2=false
 eq: ∀j:Nat,f j=f0Y (j:Int) m
theorem p0M (j:Int): ∀m:List Lf,f0Y j m=a0L 256∨(j,f0Y j m)∈m
 | []=> .inl rfl
 | (a,d)::r=>by
  rw[j0O];by_cases e:a=j
  ·rw[if_pos e];subst e;exact .inr List.mem_cons_self
  ·rw[if_neg e];exact(p0M j r).imp id (List.mem_cons_of_mem _)
theorem j1L {x:Lf} : ∀ {m:List Lf},(m.Pairwise fun a b=>a.1<b.1)→x∈m→f0Y x.1 m=x.2
 | (a,d)::r,hp,hx=>by
  obtain⟨h1,h2⟩:=List.pairwise_cons.1 hp;rw[j0O];rcases List.mem_cons.1 hx with rfl|hx
  ·rw[if_pos rfl]
  ·have:=h1 x hx;rw[if_neg (by simp only at this;omega)];exact j1L h2 hx
theorem j1M (at_:Int) (d:B): ∀(m:List Lf) (done:Bool),(p0L at_ d done m).length+(m.filter fun x=>decide (x.1=at_)).length=m.length+if done then 0 else 1
 | [],done=>by unfold p0L;cases done<;>rfl
 |x::r,done=>by
  have ih:=j1M at_ d r (done || decide (at_<x.1));rw[l1L,List.length_append,List.length_append,List.filter_cons,List.length_cons];by_cases h1:x.1=at_
  ·rw[if_pos h1,decide_eq_true h1,if_pos rfl,List.length_cons];have h2: ¬at_<x.1:=by omega
   rw[decide_eq_false h2,Bool.or_false]at ih;rw[if_neg (fun h=>h2 h.2),decide_eq_false h2,Bool.or_false];simp only[List.length_nil];omega
  ·rw[if_neg h1,decide_eq_false h1,if_neg Bool.false_ne_true,List.length_singleton];by_cases h2:at_<x.1
   ·rw[decide_eq_true h2,Bool.or_true]at ih ⊢;cases done with
    |true=>rw[if_neg (fun h=>by cases h.1)];simp only[if_true,List.length_nil]at ih ⊢;omega
    |false=>rw[if_pos ⟨rfl,h2⟩];simp only[if_true,List.length_singleton,Bool.false_eq_true,if_false]at ih ⊢;omega
   ·rw[decide_eq_false h2,Bool.or_false]at ih ⊢;rw[if_neg (fun h=>h2 h.2)];simp only[List.length_nil];omega
theorem o2W (m:List Lf) (at_:Int) (d:B):(k0L m at_ d).length≤m.length+1:=by
 have:=j1M at_ d m (a0R d);unfold k0L;split at this<;>omega
theorem j2Q {m:List Lf} {at_:Int} {d:B} (h:a0R d=true∨f0Y at_ m≠a0L 256):(k0L m at_ d).length≤m.length:=by
 have hc:=j1M at_ d m (a0R d);unfold k0L;rcases h with h|h
 ·rw[h,if_pos rfl]at hc;rw[h];omega
 ·have h1:(at_,f0Y at_ m)∈m:=(p0M at_ m).resolve_left h;have h2:(at_,f0Y at_ m)∈m.filter fun x=>decide (x.1=at_):=List.mem_filter.2 ⟨h1,by simp⟩;have h3:=List.length_pos_of_mem h2;split at hc<;>omega
theorem l0K.put {m:List Lf} {f:Nat→B} (h:l0K m f) {a:Nat} {d:B} (ha:a<512) (hd:d.length=256):l0K (k0L m (a:Int) d) (upd f a d):=by
 refine⟨h.ok.put ⟨by omega,by omega⟩ hd,fun x hx=> ?_,fun j=> ?_⟩
 ·rcases c1D (a:Int) d m _ x hx with ⟨h1,_⟩| ⟨h1,rfl⟩
  ·exact h.nz x h1
  ·exact h1
 ·unfold upd k0L;rw[p1Z];by_cases e:j=a
  ·subst e;rw[if_pos rfl,if_pos rfl];split
   ·rename_i hz;exact b1X hz hd
   ·rfl
  ·rw[if_neg e,if_neg (by omega),h.eq]
theorem l0K.far {m:List Lf} {f:Nat→B} (h:l0K m f) {j:Nat} (hz:a0R (f j)=false):j<512:=by
 rw[h.eq]at hz;rcases p0M (j:Int) m with h1|h1
 ·rw[h1,d0N]at hz;cases hz
 ·have:=(h.ok.in_ _ h1).2.1;simp only at this;omega
def p0N (Ms:List (Nat→B)) (bits:Nat):Prop:= ∀m1∈Ms,∀m2∈Ms,∀i j,a0R (m1 i)=false→a0R (m2 j)=false→key bits (Sha.sum (m1 i))=key bits (Sha.sum (m2 j))→m1 i=m2 j
theorem p0N.step {f:Nat→B} {Os:List (Nat→B)} {bits a:Nat} {d:B} (h:p0N (f::Os) bits) (hf: ∀g∈f::Os,∀j,a0R (g j)=false→j<512) (hn:a0R d=false→ ¬x0Y (f::Os) bits d):p0N (upd f a d::Os) bits:=by
 have key1: ∀g∈upd f a d::Os,∀j,(g j=d∨ ∃g'∈f::Os,g j=g' j):=fun g hg j=>by
  rcases List.mem_cons.1 hg with rfl|hg
  ·by_cases e:j=a
   ·left;unfold Go.Sb.upd;rw[if_pos e]
   ·right;exact⟨f,List.mem_cons_self,by unfold Go.Sb.upd;rw[if_neg e]⟩
  ·exact .inr ⟨g,List.mem_cons_of_mem _ hg,rfl⟩
 have one: ∀g∈f::Os,∀j,a0R d=false→a0R (g j)=false→key bits (Sha.sum (g j))=key bits (Sha.sum d)→g j=d:=fun g hg j hd hz hk=>by
  by_cases e:g j=d
  ·exact e
  ·exact(hn hd ⟨g,hg,j,hf g hg j hz,hz,e,hk⟩).elim
 intro m1 h1 m2 h2 i j z1 z2 hk;rcases key1 m1 h1 i with e1| ⟨g1,hg1,e1⟩<;>rcases key1 m2 h2 j with e2| ⟨g2,hg2,e2⟩
 ·rw[e1,e2]
 ·rw[e1]at hk z1 ⊢;rw[e2]at hk z2 ⊢;exact(one g2 hg2 j z1 z2 hk.symm).symm
 ·rw[e1]at hk z1 ⊢;rw[e2]at hk z2 ⊢;exact one g1 hg1 i z2 z1 hk
 ·rw[e1]at hk z1 ⊢;rw[e2]at hk z2 ⊢;exact h g1 hg1 g2 hg2 i j z1 z2 hk
theorem p0N.noClash {f:Nat→B} {Os:List (Nat→B)} {bits a:Nat} (h:p0N (f::Os) bits) (hz:a0R (f a)=false): ¬x0Y (f::Os) bits (f a):=by
 rintro⟨g,hg,j,_,z,hne,hk⟩;exact hne (h g hg f List.mem_cons_self j a z hz hk)
structure r0N (c:Rp) (i:Nat) (Os:List (Nat→B)):Prop where
 to_: ∀k,k<c.l.length→k≠i→ ∃f∈Os,l0K (c.l.getD k v0).m f
 of_: ∀f∈Os,∃k,k<c.l.length∧k≠i∧l0K (c.l.getD k v0).m f
theorem q0V (c:Rp) (i:Nat) (m:List Lf):(d0K c i m).l.length=c.l.length:=by unfold d0K;simp
theorem u1E {c:Rp} {i k:Nat} {m:List Lf} (h:k≠i):(d0K c i m).l.getD k v0=c.l.getD k v0:=by
 unfold d0K;simp only[List.getD_eq_getElem?_getD];rw[List.getElem?_set_ne (Ne.symm h)]
theorem y0A {c:Rp} {i:Nat} {m:List Lf} (h:i<c.l.length):(d0K c i m).l.getD i v0= {c.l.getD i v0 with m:=m} :=by
 unfold d0K;simp only[List.getD_eq_getElem?_getD];rw[List.getElem?_set_self h];rfl
theorem q0B {c:Rp} {i:Nat} {m m':List Lf} (h:i<c.l.length):d0K (d0K c i m) i m'=d0K c i m':=by
 have h1:=y0A (m:=m) h;unfold d0K at h1 ⊢;simp only at h1 ⊢;rw[h1,List.set_set]
theorem o0C {c:Rp} {i:Nat} (h:i<c.l.length):d0K c i (c.l.getD i v0).m=c:=by
 unfold d0K;have e:c.l.set i {c.l.getD i v0 with m:=(c.l.getD i v0).m} =c.l:=by
  rw[List.getD_eq_getElem?_getD,List.getElem?_eq_getElem h];exact List.set_getElem_self h
 rw[e]
theorem r0N.with_ {c:Rp} {i:Nat} {Os:List (Nat→B)} (h:r0N c i Os) (m:List Lf):r0N (d0K c i m) i Os:=
 ⟨fun k hk hne=>by rw[q0V]at hk;rw[u1E hne];exact h.to_ k hk hne,fun f hf=>by obtain⟨k,h1,h2,h3⟩:=h.of_ f hf;exact⟨k,by rw[q0V];exact h1,h2,by rw[u1E h2];exact h3⟩⟩
theorem r0N.far {c:Rp} {i:Nat} {f:Nat→B} {Os:List (Nat→B)} (h:r0N c i Os) (hf:l0K (c.l.getD i v0).m f): ∀g∈f::Os,∀j,a0R (g j)=false→j<512:=fun g hg j hz=>by
 rcases List.mem_cons.1 hg with rfl|hg
 ·exact hf.far hz
 ·obtain⟨k,_,_,h3⟩:=h.of_ g hg;exact h3.far hz
theorem r0O {l:List Vp} {k:Nat} (h:k<l.length):l.getD k v0=l[k]:=by rw[List.getD_eq_getElem?_getD,List.getElem?_eq_getElem h];rfl
theorem e2N {c:Rp} {i:Nat} {f:Nat→B} {Os:List (Nat→B)} (hi:i<c.l.length) (h:r0N c i Os) (hf:l0K (c.l.getD i v0).m f) (data:B):p0T c data=true↔x0Y (f::Os) c.bits data:=by
 unfold p0T;constructor
 ·intro hr;obtain⟨v,hv,hr⟩:=List.any_eq_true.1 hr;obtain⟨x,hx,hr⟩:=List.any_eq_true.1 hr;obtain⟨hne,hk⟩:=of_decide_eq_true hr;obtain⟨k,hk2,rfl⟩:=List.mem_iff_getElem.1 hv;have: ∃g∈f::Os,l0K (c.l.getD k v0).m g:=by
   by_cases e:k=i
   ·subst e;exact⟨f,List.mem_cons_self,hf⟩
   ·obtain⟨g,hg,h3⟩:=h.to_ k hk2 e;exact⟨g,List.mem_cons_of_mem _ hg,h3⟩
  obtain⟨g,hg,h3⟩:=this;rw[r0O hk2]at h3;have hin:=h3.ok.in_ x hx;have he:g x.1.toNat=x.2:=by rw[h3.eq,Int.toNat_of_nonneg hin.1];exact j1L h3.ok.ord hx
  exact⟨g,hg,x.1.toNat,by omega,by rw[he];exact h3.nz x hx,by rw[he];exact hne,by rw[he];exact hk⟩
 ·rintro⟨g,hg,j,hj,hz,hne,hk⟩;have: ∃k,k<c.l.length∧l0K (c.l.getD k v0).m g:=by
   rcases List.mem_cons.1 hg with rfl|hg
   ·exact⟨i,hi,hf⟩
   ·obtain⟨k,h1,_,h3⟩:=h.of_ g hg;exact⟨k,h1,h3⟩
  obtain⟨k,hk2,h3⟩:=this;rw[r0O hk2]at h3;rw[h3.eq]at hz hne hk;rcases p0M (j:Int) c.l[k].m with h1|h1
  ·rw[h1,d0N]at hz;cases hz
  ·exact List.any_eq_true.2 ⟨_,List.getElem_mem hk2,List.any_eq_true.2 ⟨_,h1,decide_eq_true ⟨hne,hk⟩⟩⟩
theorem o2X (was data:B) (f n:Nat):c1C was data f n=t0O was data f n:=rfl
theorem y1O {data:B} (f n:Nat) (h:a0R data=true):a0R (t0O (a0L 256) data f n)=true:=by
 unfold a0R t0O at*
 rw[List.all_eq_true]at h ⊢;intro x hx;rcases List.mem_append.1 hx with hx|hx
 ·rcases List.mem_append.1 hx with hx|hx
  ·have:=List.mem_of_mem_take hx;rw[a0L,List.mem_replicate]at this;rw[this.2];rfl
  ·exact h x (List.mem_of_mem_take hx)
 ·have:=List.mem_of_mem_drop hx;rw[a0L,List.mem_replicate]at this;rw[this.2];rfl
theorem u1F {data:B} (n:Nat) (h:a0R data=true):a0R (data.drop n)=true:=by
 unfold a0R at*
 rw[List.all_eq_true]at h ⊢;exact fun x hx=>h x (List.mem_of_mem_drop hx)
def e2O (at_:Nat) (data:B):Nat:=if data.length=0 then 0 else(at_%4*64+data.length+255)/256
theorem r0P (i:Nat): ∀(k:Nat) (c:Rp) (f:Nat→B) (Os:List (Nat→B)) (at_:Nat) (data:B),i<c.l.length→r0N c i Os→l0K (c.l.getD i v0).m f→p0N (f::Os) c.bits→at_*64+data.length≤131072→data.length%64=0→data.length≤k→
 (j0N c.bits Os k f at_ data∧(d0I i k c at_ data).2=9)∨
 (¬j0N c.bits Os k f at_ data∧ ∃m',d0I i k c at_ data=(d0K c i m',0)∧l0K m' (k0J k f at_ data)∧p0N (k0J k f at_ data::Os) c.bits∧
  m'.length≤(c.l.getD i v0).m.length+e2O at_ data∧(a0R data=true→m'.length≤(c.l.getD i v0).m.length))
 |0,c,f,Os,at_,data,hi,ho,hf,hu,_,_,_=> .inr ⟨id,(c.l.getD i v0).m,by rw[o0C hi];rfl,hf,hu,by omega,fun _=>Nat.le_refl _⟩
 |k+1,c,f,Os,at_,data,hi,ho,hf,hu,hroom,h64,hk=>by
  by_cases hd:data= []
  ·refine .inr ⟨fun h=>h.1 hd,(c.l.getD i v0).m,?_,?_,?_,by omega,fun _=>Nat.le_refl _⟩
   ·rw[o0C hi];unfold d0I;rw[if_pos hd]
   ·unfold k0J;rw[if_pos hd];exact hf
   ·unfold k0J;rw[if_pos hd];exact hu
  ·have hl:data.length≠0:=fun e=>hd (List.eq_nil_of_length_eq_zero e);obtain⟨ff,hff⟩: ∃ff,ff=at_%4*64:=⟨_,rfl⟩;obtain⟨n,hn⟩: ∃n,n=min data.length (256-ff):=⟨_,rfl⟩;have ha:at_/4<512:=by omega
   have hwas:f0Y ((at_/4:Nat):Int) (c.l.getD i v0).m=f (at_/4):=(hf.eq _).symm;have hwl:(f (at_/4)).length=256:=by rw[hf.eq];exact hf.ok.get_len _
   obtain⟨now,hnow⟩: ∃now,now=t0O (f (at_/4)) data ff n:=⟨_,rfl⟩;have hnl:now.length=256:=by rw[hnow];exact t1T hwl (by omega) (by omega)
   have hcl:=e2N hi ho hf now;have hrp:d0I i (k+1) c at_ data=if now≠f (at_/4)∧a0R now=false∧p0T c now=true then(c,9)else d0I i k (d0K c i (k0L (c.l.getD i v0).m ((at_/4:Nat):Int) now)) (at_+n/64) (data.drop n):=by
    rw[d0I,if_neg hd];simp only;rw[hwas,←hff,←hn,o2X,←hnow]
   have hpn:j0N c.bits Os (k+1) f at_ data↔((a0R now=false∧x0Y (f::Os) c.bits now)∨j0N c.bits Os k (upd f (at_/4) now) (at_+n/64) (data.drop n)):=by
    conv=>lhs;unfold j0N
    rw[←hff,←hn,←hnow];exact⟨fun h=>h.2,fun h=>⟨hd,h⟩⟩
   have hpf:k0J (k+1) f at_ data=k0J k (upd f (at_/4) now) (at_+n/64) (data.drop n):=by
    conv=>lhs;unfold k0J
    rw[if_neg hd,←hff,←hn,←hnow]
   by_cases hc:a0R now=false∧x0Y (f::Os) c.bits now
   ·have hne:now≠f (at_/4):=fun e=>by
     rw[e]at hc;exact hu.noClash hc.1 hc.2
    exact .inl ⟨hpn.2 (.inl hc),by rw[hrp,if_pos ⟨hne,hc.1,hcl.2 hc.2⟩]⟩
   ·have hdl:(data.drop n).length=data.length-n:=List.length_drop;have hm:=hf.put ha hnl;have hrl:=q0V c i (k0L (c.l.getD i v0).m ((at_/4:Nat):Int) now);have hra:=y0A (m:=k0L (c.l.getD i v0).m ((at_/4:Nat):Int) now) hi;have ih:=r0P i k (d0K c i (k0L (c.l.getD i v0).m ((at_/4:Nat):Int) now)) (upd f (at_/4) now) Os (at_+n/64) (data.drop n) (by rw[hrl];exact hi) (ho.with_ _) (by rw[hra];exact hm)
     (hu.step (ho.far hf) fun hz h=>hc ⟨hz,h⟩) (by omega) (by omega) (by omega)
    rw[show(d0K c i (k0L (c.l.getD i v0).m ((at_/4:Nat):Int) now)).bits=c.bits from rfl,hra]at ih;have hno: ¬(now≠f (at_/4)∧a0R now=false∧p0T c now=true):=fun h=>hc ⟨h.2.1,hcl.1 h.2.2⟩;rw[hrp,if_neg hno,hpf];rcases ih with ⟨h1,h2⟩| ⟨h1,m',h2,h3,h4,h5,h6⟩
    ·exact .inl ⟨hpn.2 (.inr h1),h2⟩
    ·refine .inr ⟨fun h=>(hpn.1 h).elim hc h1,m',?_,h3,h4,?_,fun hz=> ?_⟩
     ·rw[h2,q0B hi]
     ·have:=o2W (c.l.getD i v0).m ((at_/4:Nat):Int) now;simp only at h5;unfold e2O at h5 ⊢;rw[hdl]at h5;rw[if_neg hl];have:n=256-ff∨n=data.length:=by omega
      split at h5
      ·omega
      ·omega
     ·refine Nat.le_trans (h6 (u1F n hz)) (j2Q ?_);by_cases e:f0Y ((at_/4:Nat):Int) (c.l.getD i v0).m=a0L 256
      ·left;rw[hnow,←hwas,e];exact y1O _ _ hz
      ·exact .inr e
section
def lvK (g:Nat→Int→Option (List (Nat×Int))):Nat→List Int→Option (List (Nat×Int))
 |_,[]=>some []
 |i,k::l=>(g i k).bind fun a=>(lvK g (i+1) l).map (a++ ·)
def lvs:Nat→Nat→Int→St→Option (List (Nat×Int))
 |0,from_,at_,s=>match (load at_ 0 s).1 with
  | .ok n=>lvK (fun i k=>some (if k=0 then []else [(from_+i,k)])) 0 n.kids
  |_=>none
 |l+1,from_,at_,s=>match (load at_ (l+1) s).1 with
  | .ok n=>lvK (fun i k=>if k=0 then some []else lvs l (from_+i*8^(l+1)) k s) 0 n.kids
  |_=>none
def g1S (s:St) (from_:Nat):Nat→Nat→Int→Option (List (Nat×Int))
 |0=>fun i k=>some (if k=0 then []else [(from_+i,k)])
 |l+1=>fun i k=>if k=0 then some []else lvs l (from_+i*8^(l+1)) k s
theorem x2V (l from_:Nat) (at_:Int) (s:St):lvs l from_ at_ s=match (load at_ l s).1 with| .ok n=>lvK (g1S s from_ l) 0 n.kids|_=>none:=by cases l<;>rfl
section
variable {C:Type}
def g0I (see:Nat×Int→C→Bool×C):List (Nat×Int)→C→Bool×C
 | [],c=>(true,c)
 |x::l,c=>if(see x c).1 then g0I see l (see x c).2 else(false,(see x c).2)
theorem u1G (see:Nat×Int→C→Bool×C) (ys:List (Nat×Int)): ∀(xs:List (Nat×Int)) (c:C),g0I see (xs++ys) c=if(g0I see xs c).1 then g0I see ys (g0I see xs c).2 else(false,(g0I see xs c).2)
 | [],c=>by simp[g0I]
 |x::xs,c=>by
  rw[List.cons_append];have e1:g0I see (x::(xs++ys)) c=if(see x c).1 then g0I see (xs++ys) (see x c).2 else(false,(see x c).2):=rfl
  have e2:g0I see (x::xs) c=if(see x c).1 then g0I see xs (see x c).2 else(false,(see x c).2):=rfl
  rw[e1,e2];split
  ·exact u1G see ys xs _
  ·simp
end
def d0L (from_ upto:Nat) (x:Nat×Int) (c:List (Nat×Int)):Bool×List (Nat×Int):=if upto≤x.1 then(false,c)else if from_≤x.1 then(true,c++ [x])else(true,c)
def m0B (root:Int) (from_ upto:Nat):M (List (Nat×Int)):=fun s=>match lvs 2 0 root s with
 |some xs=>(.ok (g0I (d0L from_ upto) xs []).2,s)
 |none=>(.big,s)
def k0M (root:Int) (from_ upto:Nat):M Int:=a0B (m0B root from_ upto) fun l=>s0G (fun r x=>m0G r x.1 0) root l
def i0C (x:Ent) (from_ upto:Nat):M Ent:=if 5000<upto then fun s=>(.big,s)else
 if upto/4≤(from_+3)/4 then e0T x from_ (a0L ((upto-from_)*64))else
 a0B (e0T x from_ (a0L (((from_+3)/4*4-from_)*64))) fun y=>a0B (k0M y.root ((from_+3)/4) (upto/4)) fun r=>
 e0T {y with root:=r} (upto/4*4) (a0L ((upto-upto/4*4)*64))
def q0C (id:Int):M Unit:=a0B (find id) fun x=>a0B (o0H id) fun _=>v0D x.root 2
def q0W (id:Int):M Int:=a0B (i0K (e0M 0 (q0C id))) fun r=>ret r.1
def m0C (id size:Int):M Unit:=a0B (l0Z id) fun x=>if size<1∨2048<size then n0L 4 else
 a0B (if size<x.size then i0C x size.toNat x.size.toNat else ret x) fun y=>m0H {y with size:=size}
def q0X (id size:Int):M Int:=a0B (i0K (e0M 0 (m0C id size))) fun r=>ret r.1
def r0Q (id at_ n:Int):M Unit:=a0B (l0Z id) fun x=>a0B (h0J x at_ n) fun _=>a0B (i0C x at_.toNat (at_+n).toNat) m0H
def v0U (id at_ n:Int):M Int:=a0B (i0K (e0M 0 (r0Q id at_ n))) fun r=>ret r.1
def e1P (id:Int):M B:=a0B (find id) fun x=>i1Y x.root
def w0M (id:Int):M (B×Int):=a0B (i0K (e1P id)) fun r=>if r.1=0 then ret (b1Z (a0L 32) r.2,0)else fun s=>(.big,s)
end
section
def y0B (g:Nat→Int→List (Nat×Int)):Nat→List Int→List (Nat×Int)
 |_,[]=> []
 |i,k::l=>g i k++y0B g (i+1) l
def lvL (G:Gh):Nat→Nat→Int→List (Nat×Int)
 |0,from_,at_=>y0B (fun i k=>if k=0 then []else [(from_+i,k)]) 0 (b0G G at_)
 |l+1,from_,at_=>y0B (fun i k=>if k=0 then []else lvL G l (from_+i*8^(l+1)) k) 0 (b0G G at_)
theorem j1N {g:Nat→Int→Option (List (Nat×Int))} {g':Nat→Int→List (Nat×Int)} : ∀(ks:List Int) (i:Nat),(∀k∈ks,∀j,g j k=some (g' j k))→lvK g i ks=some (y0B g' i ks)
 | [],_,_=>rfl
 |k::ks,i,h=>by
  unfold lvK y0B;rw[h k List.mem_cons_self i,j1N ks (i+1) fun x hx=>h x (List.mem_cons_of_mem _ hx)];rfl
theorem j1O {g:Nat→Int→List (Nat×Int)} {x:Nat×Int} : ∀(ks:List Int) (i:Nat),x∈y0B g i ks↔ ∃k,k<ks.length∧x∈g (i+k) (ks.getD k 0)
 | [],i=>by
  constructor
  ·intro h;cases h
  ·rintro⟨k,hk,_⟩;cases hk
 |a::ks,i=>by
  unfold y0B;rw[List.mem_append,j1O ks (i+1)];constructor
  ·rintro(h| ⟨k,hk,h⟩)
   ·exact⟨0,by simp,by simpa using h⟩
   ·exact⟨k+1,by simpa using hk,by rw[show i+(k+1)=i+1+k by omega];simpa using h⟩
  ·rintro⟨k,hk,h⟩;cases k with
   |zero=>exact .inl (by simpa using h)
   |succ k=>exact .inr ⟨k,by simpa using hk,by rw[show i+1+k=i+(k+1) by omega];simpa using h⟩
theorem j1P {g:Nat→Int→List (Nat×Int)} {w b:Nat} : ∀(ks:List Int) (i:Nat),(∀i,∀k∈ks,(∀x∈g i k,b+i*w≤x.1∧x.1<b+i*w+w)∧(g i k).Pairwise fun x y=>x.1<y.1)→
 (∀x∈y0B g i ks,b+i*w≤x.1∧x.1<b+(i+ks.length)*w)∧(y0B g i ks).Pairwise fun x y=>x.1<y.1
 | [],_,_=>⟨fun x h=>(by cases h),List.Pairwise.nil⟩
 |k::ks,i,hg=>by
  obtain⟨h1,h2⟩:=j1P ks (i+1) fun i k hk=>hg i k (List.mem_cons_of_mem _ hk);obtain⟨g1,g2⟩:=hg i k List.mem_cons_self;have e:b+(i+1)*w=b+i*w+w:=by rw[Nat.succ_mul];omega
  have e2:(i+(k::ks).length)*w=(i+1+ks.length)*w:=by rw[List.length_cons,show i+(ks.length+1)=i+1+ks.length by omega]
  have e3:(i+1)*w≤(i+1+ks.length)*w:=Nat.mul_le_mul_right _ (by omega);rw[e2];refine⟨fun x hx=> ?_,?_⟩
  ·unfold y0B at hx;rcases List.mem_append.1 hx with hx|hx
   ·have:=g1 x hx;omega
   ·have:=h1 x hx;omega
  ·unfold y0B;refine List.pairwise_append.2 ⟨g2,h2,fun x hx y hy=> ?_⟩;have:=(g1 x hx).2;have:=(h1 y hy).1;omega
section
variable {s:St} {G:Gh} {P:List Int}
theorem Inv.lvs (h:Inv s G P): ∀(l from_:Nat) {root:Int},a0W G (l+1) root→Go.Sb.lvs l from_ root s=some (lvL G l from_ root)
 |0,from_,root,hr=>by
  unfold Go.Sb.lvs lvL;rw[h.loadK hr];exact j1N _ _ fun k _ j=>rfl
 |l+1,from_,root,hr=>by
  unfold Go.Sb.lvs lvL;rw[h.loadK hr];refine j1N _ _ fun k hk j=> ?_;by_cases e:k=0
  ·rw[if_pos e,if_pos e]
  ·rw[if_neg e,if_neg e];exact h.lvs l _ ((h.kids hr).2 k hk)
theorem Inv.lvL_ord (h:Inv s G P): ∀(l from_:Nat) {root:Int},a0W G (l+1) root→(∀x∈lvL G l from_ root,from_≤x.1∧x.1<from_+8^(l+1))∧(lvL G l from_ root).Pairwise fun x y=>x.1<y.1
 |0,from_,root,hr=>by
  have:=j1P (g:=fun i k=>if k=0 then []else [(from_+i,k)]) (w:=1) (b:=from_) (b0G G root) 0 (fun i k _=>by
   split
   ·exact⟨fun x h=>(by cases h),List.Pairwise.nil⟩
   ·exact⟨fun x h=>by rw[List.mem_singleton.1 h];simp,List.pairwise_singleton _ _⟩)
  rw[(h.kids hr).1]at this;unfold lvL;simpa using this
 |l+1,from_,root,hr=>by
  have:=j1P (g:=fun i k=>if k=0 then []else lvL G l (from_+i*8^(l+1)) k) (w:=8^(l+1)) (b:=from_) (b0G G root) 0 (fun i k hk=>by
   split
   ·exact⟨fun x h=>(by cases h),List.Pairwise.nil⟩
   ·exact h.lvL_ord l _ ((h.kids hr).2 k hk))
  rw[(h.kids hr).1,Nat.zero_mul,Nat.add_zero,Nat.zero_add]at this;unfold lvL;rw[show 8^(l+1+1)=8*8^(l+1) by rw[Nat.pow_succ];omega];exact this
theorem Inv.mem_lvL (h:Inv s G P): ∀(l from_:Nat) {root:Int} (j:Nat) (t:Int),a0W G (l+1) root→((j,t)∈lvL G l from_ root↔t≠0∧ ∃i,i<8^(l+1)∧j=from_+i∧t=c0P G l root i)
 |0,from_,root,j,t,hr=>by
  unfold lvL;rw[j1O,(h.kids hr).1];constructor
  ·rintro⟨k,hk,hm⟩;split at hm
   ·cases hm
   ·rename_i hne;have he:=List.mem_singleton.1 hm;simp only[Prod.mk.injEq,Nat.zero_add]at he;refine⟨by rw[he.2];exact hne,k,by omega,he.1,?_⟩;rw[he.2];unfold c0P b0Q;rw[show k/8^0%8=k by omega]
  ·rintro⟨hne,i,hi,rfl,rfl⟩;refine⟨i,by omega,?_⟩;have e:c0P G 0 root i=(b0G G root).getD i 0:=by
    unfold c0P b0Q;simp only;rw[show i/8^0%8=i by omega]
   rw[e]at hne ⊢;rw[if_neg hne,Nat.zero_add];exact List.mem_singleton.2 rfl
 |l+1,from_,root,j,t,hr=>by
  have hp:8^(l+1+1)=8*8^(l+1):=by rw[Nat.pow_succ];omega
  have hp0:0<8^(l+1):=Nat.pow_pos (by decide);unfold lvL;rw[j1O,(h.kids hr).1];constructor
  ·rintro⟨k,hk,hm⟩;split at hm
   ·cases hm
   ·rename_i hne;have hkk:=(h.kids hr).2 _ (g0Z (i:=k) (by rw[(h.kids hr).1];exact hk));obtain⟨ht,i,hi,e1,e2⟩:=(h.mem_lvL l _ j t hkk).1 hm;rw[Nat.zero_add]at e1;have hlt:k*8^(l+1)+i<8*8^(l+1):=by
     have:k*8^(l+1)≤7*8^(l+1):=Nat.mul_le_mul_right _ (by omega);omega
    refine⟨ht,k*8^(l+1)+i,by rw[hp];exact hlt,by omega,?_⟩;have e3:(b0Q (l+1) (k*8^(l+1)+i)).1=k:=by
     unfold b0Q;simp only;rw[Nat.mul_comm k,Nat.mul_add_div hp0,Nat.div_eq_of_lt hi,Nat.add_zero,Nat.mod_eq_of_lt hk]
    have e4:(b0Q (l+1) (k*8^(l+1)+i)).2=i:=by
     unfold b0Q;simp only;rw[Nat.mul_comm k,Nat.mul_add_mod,Nat.mod_eq_of_lt hi]
    conv=>rhs;unfold c0P
    rw[e3,e4];exact e2
  ·rintro⟨ht,i,hi,rfl,e⟩;obtain⟨s1,s2⟩:=t0N (l:=l+1) hi;have s3:=q0A (l+1) i;refine⟨(b0Q (l+1) i).1,s3,?_⟩;have hkk:=(h.kids hr).2 _ (g0Z (i:=(b0Q (l+1) i).1) (by rw[(h.kids hr).1];exact s3));have e':t=c0P G l ((b0G G root).getD (b0Q (l+1) i).1 0) (b0Q (l+1) i).2:=by rw[e];conv=>lhs;unfold c0P
   rw[if_neg (fun h0=>by rw[h0,u0K h.zero]at e';exact ht e'),Nat.zero_add];exact(h.mem_lvL l _ _ t hkk).2 ⟨ht,(b0Q (l+1) i).2,s2,by omega,e'⟩
theorem z0U (a b:Nat): ∀(ys acc:List (Nat×Int)),(ys.Pairwise fun x y=>x.1<y.1)→(g0I (d0L a b) ys acc).2=acc++ys.filter fun x=>decide (a≤x.1∧x.1<b)
 | [],acc,_=>by simp[g0I]
 |x::ys,acc,hp=>by
  obtain⟨h1,h2⟩:=List.pairwise_cons.1 hp;have e0:(g0I (d0L a b) (x::ys) acc)=if(d0L a b x acc).1 then g0I (d0L a b) ys (d0L a b x acc).2 else(false,(d0L a b x acc).2):=rfl
  rw[e0];by_cases hb:b≤x.1
  ·rw[show d0L a b x acc=(false,acc) by unfold d0L;rw[if_pos hb]];simp only[Bool.false_eq_true,if_false];rw[List.filter_eq_nil_iff.2,List.append_nil];intro y hy;rcases List.mem_cons.1 hy with rfl|hy
   ·simp;omega
   ·have:=h1 y hy;simp;omega
  ·by_cases ha:a≤x.1
   ·rw[show d0L a b x acc=(true,acc++ [x]) by unfold d0L;rw[if_neg hb,if_pos ha]];simp only[if_true];rw[z0U a b ys (acc++ [x]) h2,List.filter_cons,if_pos (decide_eq_true ⟨ha,by omega⟩),List.append_assoc,List.singleton_append]
   ·rw[show d0L a b x acc=(true,acc) by unfold d0L;rw[if_neg hb,if_neg ha]];simp only[if_true];rw[z0U a b ys acc h2,List.filter_cons,if_neg (by simp;omega)]
def clL (G:Gh) (root:Int) (a b:Nat):List (Nat×Int):=(lvL G 2 0 root).filter fun x=>decide (a≤x.1∧x.1<b)
theorem Inv.leavesA (h:Inv s G P) {root:Int} (hr:a0W G 3 root) (a b:Nat):Go.Sb.m0B root a b s=(.ok (clL G root a b),s):=by
 unfold Go.Sb.m0B;rw[h.lvs 2 0 hr];simp only;rw[z0U a b _ _ (h.lvL_ord 2 0 hr).2];rfl
theorem Inv.clL_mem (h:Inv s G P) {root:Int} (hr:a0W G 3 root) (a b j:Nat):j∈(clL G root a b).map (·.1)↔a≤j∧j<b∧j<512∧c0P G 2 root j≠0:=by
 unfold clL;rw[List.mem_map];constructor
 ·rintro⟨⟨j',t⟩,hx,rfl⟩;obtain⟨h1,h2⟩:=List.mem_filter.1 hx;obtain⟨ht,i,hi,e1,e2⟩:=(h.mem_lvL 2 0 j' t hr).1 h1;have h3:=of_decide_eq_true h2;simp only[Nat.zero_add]at e1;subst e1;exact⟨h3.1,h3.2,hi,by rw[←e2];exact ht⟩
 ·rintro⟨h1,h2,h3,h4⟩;exact⟨(j,c0P G 2 root j),List.mem_filter.2 ⟨(h.mem_lvL 2 0 j _ hr).2 ⟨h4,j,h3,by omega,rfl⟩,decide_eq_true ⟨h1,h2⟩⟩,rfl⟩
theorem Inv.clL_nodup (h:Inv s G P) {root:Int} (hr:a0W G 3 root) (a b:Nat):((clL G root a b).map (·.1)).Nodup:=by
 unfold clL;refine List.pairwise_map.2 ?_;exact((h.lvL_ord 2 0 hr).2.filter _).imp fun hlt=>Nat.ne_of_lt hlt
end
end
end Go.Sb
