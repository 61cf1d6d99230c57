/- A part of the proof of TopReads. -/
import Derived.Deep.DeepMust
import Derived.Lib.AppendStr
import Derived.Test.YtimdpiifpibgfaaGreatDoorQr12
import Derived.Test.YtimdpiifpibgfaaGreatDoorQr8
set_option linter.all false
set_option maxRecDepth 20000
set_option maxHeartbeats 16000000
open Go.RowKit Go.Maps
namespace Go.Proofs.YtimdpiifpibgfaaGreatDoor
open Tryz
def Dy(l:List Pr)(c:Cm):List Pr × Rep:=
 let p:=(LG l c.a).1
 let t:=(LG l c.a).2
 if c.k=1 then (l,⟨0,t,p.v,p.n,[]⟩)
 else if c.k=2 then (Jp l c.a c.v,⟨0,t,⟨#[]⟩,p.n+1,[]⟩)
 else (l,⟨0,t,⟨#[]⟩,p.n,[]⟩)
def kG(ob:Option Nat)(R:List Pr × Rep)(w:World)(e:Ending)(w':World):Prop:=∃v' ob' vr obr,e=.returned (.tuple #[v',.agg (Bq R.2 vr).toArray])/\Ad w' v' ob' R.1/\Ad w' vr obr R.2.ps/\(ob'=ob\/∀g,ob'=some g->w.heap.size<=g)/\(∀g,obr=some g->w.heap.size<=g)/\Below w.heap.size w w'
theorem gQ(l:List Pr)(key:ByteArray)(hv:∀p∈l,0<=p.n/\p.n<=1000000):0<=(LG l key).1.n/\(LG l key).1.n<=1000000:=by
 unfold LG;split
 .rename_i h;have:=(JV l key).2 h;rw[getD_at l _ this];exact hv _ (List.getElem_mem this)
 .simp[Pr.zero]
theorem wZ(v:Value)(ob:Option Nat)(l:List Pr)(c:Cm)(w:World)(h:Ad w v ob l)(hl:l.length<32)(hv:∀p∈l,0<=p.n/\p.n<=1000000)(hk:1<=c.k/\c.k<=2) :Calls prog 98 #[v,.agg #[AA c.k,AA c.c,AA c.s,.string c.a,.string c.b,.string c.o,.string c.v]] w (kG ob (Dy l c) w):=by
 obtain⟨z,H,i⟩:=bP (λW r=>ww v ob l c.a W r) (λW r=>xB v ob l c.a c.v W r hl hv) h;have ae:=AV.lt h;have ab:=gQ l c.a hv;obtain⟨pp,pn,pc,rfl⟩:=h.CZ;obtain⟨q,J⟩:∃q,q=(LG l c.a).1:=⟨_,rfl⟩;obtain⟨t,T⟩:∃t,t=(LG l c.a).2:=⟨_,rfl⟩;have I:∀R,R=Dy l c->R=(if c.k=1 then (l,(⟨0,t,q.v,q.n,[]⟩:Rep))
   else if c.k=2 then (Jp l c.a c.v,⟨0,t,⟨#[]⟩,q.n+1,[]⟩)
   else (l,⟨0,t,⟨#[]⟩,q.n,[]⟩)):=λR h=>by rw[h,J,T];rfl
 obtain⟨R,P⟩:∃R,R=Dy l c:=⟨_,rfl⟩;have I:=I R P;rw[<-P];rw[<-J] at ab;obtain⟨z,N⟩:=WZ (λW r=>(show Calls _ _ _ W λe w'=>e=.returned (.tuple #[.agg q.cells.toArray,.bool t])/\Below W.heap.size W w' from by rw[J,T];exact z.o W r)) I;have ah:IntKind.i64.wrap (q.n+1)=q.n+1:=by rw[IntKind.wrap_i64];omega
 clear h hv I P J T ab;obtain⟨k,cc,s,a,b,o,vv⟩:=c;simp only at z H N hk |-;go_in;go_upto_region 1 with(fail);go_name_world W r;obtain⟨u,f,aa,af⟩:=bF 23 ([AA k,AA cc,AA s,.string a,.string b,.string o,.string vv]) 53 (Bq Rep.zero AL) r;clear r;have d:=qh (Base.start w);obtain⟨d,i⟩:=Ce aa d i;have Y:=qh (show ∀g,ob=some g->¬g=w.heap.size+1 from λg m=>by have:=ae g m;omega);clear aa af;generalize ai:w.heap.size+1=gz at f Y |-;have U:w.heap.size<=gz:=BJ
 generalize O:w.heap.size=B at u d U |-;have L:=Am u.o 3;go_wp2_with fail;refine Ah (z.o _ i.o) ?_;rintro X E;obtain⟨u,f,d,i⟩:=En E u f d i;clear E L z;go_upto_region 2 with(first|(refine Ai rfl 69 _ _ rfl rfl _ _ q.cells.toArray rfl rfl ND rfl (Pr.one' _) ?_));go_name_world W5 D;have D:Bo X [.cells q.cells.toArray 69]=W5:=D;have j:=qh (show Holds W5 X.heap.size 69 q.cells from Ae _ D 0 rfl);have Z:=Aq _ D;obtain⟨u,f,d,i⟩:=En Z u f d i;clear D Z;generalize X.heap.size=gp at j |-;have ag:gz<W5.heap.size:=f.lt;obtain⟨x0,x1,x2,L,x4,x5,x6⟩:=Gl u.o 0 1 2 3 4 5 6;rcases(show k=1\/k=2 by omega) with rfl|rfl
 .go_upto_region 4 with(fail);clear x0 x1 x2 L x4 x5 x6 H;obtain⟨j,f,d,i⟩:=En (AY _ W5) j f d i;refine Ed [8] 9 (λhSn=>?_);generalize W5.drew=wd at j f d i hSn |-;simp only[List.replicate];refine ES 0 ?_;refine BO 3 [6,8] (λw C=>Am (j.bel C) 1) ?_;refine CW 4 ?_;refine BO 5 [6,8] (λw C=>Am (j.bel C) 2) ?_;refine F9 6 ?_;refine BN 8 rfl (λK A=>?_);refine tB (Bq ⟨0,t,q.v,q.n,[]⟩ AL) (f.bel hSn) ?_ (Fa ⟨none,0,0,rfl⟩);intro w8 G x;refine BR A ?_;clear A;refine BA ?_;obtain⟨d,M,i⟩:=bP ((d.bel hSn).touch x U) G.Af ((i.bel hSn).mv (Mv.AZ (F:=λk=>k=gz) x rfl) Y.o);clear G x hSn;go_wp2_with fail;exact bodyPost_ret (v:=.tuple #[.slice pp pn pc,.agg (Bq ⟨0,t,q.v,q.n,[]⟩ AL).toArray]) (DC results98 _ _ gz _ _ _ rfl rfl M.o underlying53 rfl ND) rfl (by rw[N.o];exact⟨_,ob,_,none,rfl,i.o,Ad.nil _,.inl rfl,(λg m=>by cases m),O▸d.below⟩)
 .go_wp2_with fail;refine(H.o _ i.o).mono ?_;rintro e w6 ⟨v6,V,rfl,S,Q,E⟩;obtain⟨p6,n6,c6,rfl⟩:=S.CZ;have ac:∀g,V=some g->B<=g:=λg m=>Nat.le_trans d.le (Q g m);have ad:∀g,V=some g->¬g=gz:=λg m=>by have:=Q g m;omega
  obtain⟨j,f,d⟩:=D5 E j f d;have y:=qh S;clear E S Q H i;go_upto_region 9 with(fail);clear x0 x1 x2 L x4 x5 x6;obtain⟨j,f,d,y⟩:=En (AY _ w6) j f d y;refine Ed [7] 8 (λhSn=>?_);generalize w6.drew=wd at j f d y hSn |-;simp only[List.replicate];refine ES 0 ?_;refine BO 3 [4,5,7] (λw C=>Am (j.bel C) 2) ?_;refine ES 4 ?_;refine BN 7 rfl (λK A=>?_);refine tB (Bq ⟨0,t,⟨#[]⟩,q.n+1,[]⟩ AL) (f.bel hSn) ?_ (Fa ⟨none,0,0,rfl⟩);intro w8 G x;refine BR A ?_;clear A;refine BA ?_;obtain⟨d,M,y⟩:=bP ((d.bel hSn).touch x U) G.Af ((y.bel hSn).mv (Mv.AZ (F:=λk=>k=gz) x rfl) ad);clear G x hSn;go_wp2_with fail;exact bodyPost_ret (v:=.tuple #[.slice p6 n6 c6,.agg (Bq ⟨0,t,⟨#[]⟩,q.n+1,[]⟩ AL).toArray]) (DC results98 _ _ gz _ _ _ rfl rfl M.o underlying53 rfl ND) rfl (by rw[N.o];exact⟨_,V,_,none,rfl,y.o,Ad.nil _,.inr (O▸ac),(λg m=>by cases m),O▸d.below⟩)
def Au(w:World)(B:Nat)(v:Value)(n:Nat):Prop:=∃bs:List Nat,bs.length=n/\((∀x∈bs,x<256)/\n<=281474976710656)/\w.ownsRow B 5 1 v n (Ak bs)
def Be(w:World)(v:Value)(n:Nat):Prop:=∃p c bs,v=.slice p n c/\(p=none->c=0)/\n<=c/\c<=maxLen/\CX w p n bs
theorem Be.below{w w':World}{v:Value}{n:Nat}(h:Be w v n)(hb:Below w.heap.size w w'):Be w' v n:=by obtain⟨p,c,a,rfl,b,d,f,g⟩:=h;exact⟨p,c,a,rfl,b,d,f,g.below hb⟩
theorem Au.below{w w':World}{B:Nat}{v:Value}{n:Nat}(h:Au w B v n)(hb:Below w.heap.size w w'):Au w' B v n:=by obtain⟨a,b,c,d⟩:=h;exact⟨a,b,c,DK d hb⟩
theorem Au.mono{w:World}{B B':Nat}{v:Value}{n:Nat}(h:Au w B v n)(hb:B'<=B):Au w B' v n:=by obtain⟨a,j,k,l,m⟩:=h;exact⟨a,j,k,l,m.imp id λ⟨g,b,c,d,f,i⟩=>⟨g,b,c,d,Nat.le_trans hb f,i⟩⟩
theorem Au.ET{w:World}{B:Nat}{v:Value}{n:Nat}(h:Au w B v n):Be w v n:=by
 obtain⟨a,f,⟨j,l⟩,s,k⟩:=h;rcases k with⟨rfl,rfl⟩|⟨g,d,b,rfl,t,c,o,q,x,r⟩
 .exact⟨none,0,[],rfl,λ_=>rfl,Ve,Nat.zero_le _,CX.nil _ _⟩
 .refine⟨_,d,a,rfl,(λh=>by cases h),o,q,f,l,j,λ_=>⟨g,0,rfl,(Array.getElem?_eq_some_iff.1 c).1,λi u=>?_⟩⟩;have p:w.cell? ⟨g,0+i,none⟩=b.toList[i]?:=by rw[Nat.zero_add];have:Holds w g 5 b.toList:=c;exact this.cell i
  have m:b.toList[i]?=(Ak a)[i]?:=by rw[<-r,List.getElem?_take_of_lt BJ]
  rw[p,m,QN a i BJ]
theorem Be.nil(w:World):Be w AL 0:=⟨none,0,[],rfl,λ_=>rfl,Ve,Nat.zero_le _,CX.nil _ _⟩
theorem Be.shape{w:World}{v:Value}{n:Nat}(h:Be w v n):∃p c,v=.slice p n c:=by obtain⟨p,c,_,rfl,_⟩:=h;exact⟨p,c,rfl⟩
theorem Au.shape{w:World}{B:Nat}{v:Value}{n:Nat}(h:Au w B v n):∃p c,v=.slice p n c:=h.ET.shape
theorem Ol(v:Value)(len n:Nat)(w:World)(h:Be w v len)(hl:len<=1000000000)(hn:n<=1000000) :Calls prog 200 #[v,AA n] w λe w'=>∃v',e=.returned v'/\Au w' w.heap.size v' len/\Below w.heap.size w w':=by obtain⟨a,t,b,rfl,m,y,u,c⟩:=h;have l:=c.len;obtain⟨f,r⟩:=WZ c m;clear c m;unfold maxLen at u;go_in;go_upto_region 1 with(fail);go_wp2_with (first|(at_make;refine GZ w rfl (.const (AA 0)) (.tmp 8) 127 rfl 5 (.int .u8 0) 1 rfl ND rfl .i64 .i64 _ _ 0 (len+n) rfl rfl rfl (by push_cast;rfl) BJ BJ (by unfold maxLen;omega) ?_;intro A k d x;have g:=qh (made_owns w.heap.size Ve k (by unfold maxLen;omega)))|(at_builtin;refine Ag rfl (.tmp 9) (.tmp 10) 127 rfl w.heap.size 5 (.int .u8 0) 1 1 rfl ND rfl Iz _ 0 [] rfl g.o a len t (Ak b) rfl (by rw[BU,l,Nat.mul_one]) (f.reads.below d) r.o (Dp b) (by unfold maxLen;omega) BJ BJ ?_;intro z B p j _;have s:=qh p;clear p));have q:=qh (d.trans j);clear k d x j g;go_ret;have i:=s.o;rw[Nat.zero_add,List.nil_append] at i;exact⟨_,rfl,⟨b,l,⟨f.2.2.1,BJ⟩,i⟩,q.o⟩
theorem wO(q:Nat):∃x:Nat,x<256/\bits BinOp.or IntKind.u8 ((q:Int) % 256) 128=(x:Int):=by
 refine⟨(q % 256) ||| 128,Nat.or_lt_two_pow (n:=8) BJ BJ,?_⟩;rw[<-u8_or_nat (q % 256) 128 BJ BJ];push_cast
 rfl
theorem Yd(B:Nat)(v:Value)(len:Nat)(n:Int)(w:World)(h:Au w B v len)(hB:B<=w.heap.size)(hl:len<=1000000000)(hn:-9223372036854775808<=n/\n<=9223372036854775807) :Calls prog 207 #[v,AA n] w λe w'=>∃v' m,e=.returned v'/\len+1<=m/\m<=len+10/\Au w' B v' m/\Below B w w':=by
 obtain⟨b,l⟩:=WZ h (λW=>pX n W hn);clear h;have r:WordP.zig n<2 ^ 64:=by unfold WordP.zig;split<;>omega
 generalize WordP.zig n=z at l r;go_in;go_wp2_with fail;refine Ah (l.o _) ?_;rintro J g;obtain⟨b,t⟩:=WZ (b.below g) (show Below B w J from g.mono hB);have D:B<=J.heap.size:=Nat.le_trans hB g.size;clear l g;go_wp2_with fail;go_loopw [0,5] (λP s wr=>∃(j q:Nat),j<=9/\s=.int .u64 q/\q<2 ^ (64-7*j)/\Au wr B P (len+j)/\Below B w wr/\B<=wr.heap.size) (λ_ s _=>(intOf s).toNat);case atStart=>exact⟨0,z,BJ,rfl,r,b.o,t.o,D⟩
 case round=>
  clear b t D r;obtain⟨j,q,S,rfl,c,N,G,E⟩:=hrel;have A:=qh G;clear G;obtain⟨f,H,⟨F,_⟩,I⟩:=N;obtain⟨b,u,C,K⟩:=bY I F H c;clear I F H c;by_cases R:128<=q
  .obtain⟨x,hx,hxo⟩:=wO q;have L:=qh hx;clear hx;go_upto_region 3 with(fail);go_wp2_with (at_builtin;refine Ag rfl (.tmp 10) (.tmp 14) 127 rfl B 5 (.int .u8 0) 1 1 rfl ND rfl Iz _ (len+j) (Ak f) rfl (DK b.o (by go_grown)) (Ac wr.heap.size) 1 1 [.int .u8 (x:Int)] rfl rfl ((AC wr _ _).reads 0 _ (λj v p=>by simpa using p)) (by intro h;cases h) (by simp[Value.oneCell']) (by unfold maxLen;omega) BJ (by simp;omega) ?_;intro O Q d i _;have k:=qh d;clear d);go_roundw;case rel=>
    have c:=K.o;have T:j<=8:=by
     by_cases M:j=9
     .subst M;simp at c;omega
     .omega
    refine⟨j+1,q / 128,BJ,Vj,?_,⟨f++[x],by have:=C.o;simp;omega,⟨λy a=>?_,BJ⟩,?_⟩,A.trans ((show Below B wr _ from(show Below wr.heap.size wr _ by go_grown).mono E).trans i),?_⟩
    .have he:2 ^ (64-7*j)=2 ^ (64-7*(j+1))*128:=by rw[show 64-7*j=64-7*(j+1)+7 by omega,Nat.pow_add]
     rw[he] at c;exact Nat.div_lt_of_lt_mul (by rw[Nat.mul_comm];exact c)
    .rcases List.mem_append.1 a with a|a
     .exact u.o y a
     .rw[List.mem_singleton.1 a];exact L.o
    .have:=k.o;simpa[Ak,Nat.add_assoc] using this
    .have:=i.size;simp at this;omega
   case measure=>simp[intOf];omega
  .go_upto_region 5 with(fail);go_wp2_with (at_builtin;refine Ag rfl (.tmp 18) (.tmp 21) 127 rfl B 5 (.int .u8 0) 1 1 rfl ND rfl Iz _ (len+j) (Ak f) rfl (DK b.o (by go_grown)) (Ac wr.heap.size) 1 1 [.int .u8 (q:Int)] rfl rfl ((AC wr _ _).reads 0 _ (λj v p=>by simpa using p)) (by intro h;cases h) (by simp[Value.oneCell']) (by unfold maxLen;omega) BJ (by simp;omega) ?_;intro O Q d i _;have k:=qh d;clear d);go_ret;refine⟨_,len+j+1,rfl,BJ,BJ,⟨f++[q],by have:=C.o;simp;omega,⟨λy a=>?_,BJ⟩,?_⟩,A.trans ((show Below B wr _ from(show Below wr.heap.size wr _ by go_grown).mono E).trans i)⟩
   .rcases List.mem_append.1 a with a|a
    .exact u.o y a
    .rw[List.mem_singleton.1 a];omega
   .have:=k.o;simpa[Ak,Nat.add_assoc] using this
theorem FU(v:Value)(len:Nat)(n:Int)(w:World)(h:Be w v len)(hl:len<=1000000)(hn:-9223372036854775808<=n/\n<=9223372036854775807) :Calls prog 124 #[v,AA n] w λe w'=>∃v' m,e=.returned v'/\len+1<=m/\m<=len+10/\Au w' w.heap.size v' m/\Below w.heap.size w w':=by obtain⟨i,j⟩:=WZ (Ol v len 10 w h BJ BJ) (λv' W (h:Au W w.heap.size v' len) p=>Yd w.heap.size v' len n W h p BJ hn);clear h;go_in;go_wp2_with fail;refine i.mono ?_;rintro e s ⟨q,rfl,f,c⟩;obtain⟨b,a⟩:=WZ f c;clear f c;go_wp2_with fail;refine(j.o _ _ b.o a.size).mono ?_;rintro e t ⟨r,m,rfl,k,l,g,d⟩;obtain⟨b,a⟩:=WZ g (a.trans d);clear g d;go_wp2_with fail;go_ret;exact⟨_,m,rfl,k,l,b.o,a.o⟩
theorem Ox(v:Value)(len:Nat)(t:ByteArray)(w:World)(h:Be w v len)(hl:len<=1000000)(ht:t.size<=1000) :Calls prog 232 #[v,.string t] w λe w'=>∃v' m,e=.returned v'/\len+1<=m/\m<=len+10+t.size/\Au w' w.heap.size v' m/\Below w.heap.size w w':=by
 obtain⟨r,s⟩:=WZ (Ol v len (10+t.size) w h BJ BJ) (λv' W (h:Au W w.heap.size v' len) x=>Yd w.heap.size v' len (t.size:Int) W h x BJ BJ);clear h;have M:IntKind.i64.wrap (10+(t.size:Int))=10+(t.size:Int):=IntWalk.i64_in _ BJ;go_in;go_wp2_with fail;rw[show (10:Int)+(t.size:Int)=((10+t.size:Nat):Int) by push_cast;rfl];refine r.mono ?_;rintro e R ⟨N,rfl,l,f⟩;obtain⟨c,a⟩:=WZ l f;clear l f;go_wp2_with fail;refine(s.o _ _ c.o a.size).mono ?_;rintro e I ⟨O,m,rfl,J,K,D,g⟩;have a:=qh (a.trans g);obtain⟨d,L,⟨A,_⟩,p⟩:=D;have c:=qh p;clear p g;obtain⟨H,B,G,E,F⟩:=info_parts (P:=prog) (e:=5) (z:=.int .u8 0) (size:=1) (bytes:=1) ND;have j:=a.size;go_wp2_with (at_builtin;refine Lib.wpList_append_own_string I rfl (.tmp 12) (.tmp 13) 127 9 rfl w.heap.size 5 H ND ND B G E F _ m (Ak d) rfl c.o t rfl (by unfold maxLen;omega) BJ j ?_;intro Q S n i _);obtain⟨q,u⟩:=WZ (a.grown i j λk C=>(c.lt k C).1) n;clear n i;go_ret;refine⟨_,m+t.size,rfl,BJ,BJ,⟨d++t.data.toList.map (·.toNat),by simp;omega,⟨λy b=>?_,BJ⟩,?_⟩,q.o⟩
 .rcases List.mem_append.1 b with b|b
  .exact A y b
  .obtain⟨z,_,rfl⟩:=List.mem_map.1 b;exact z.toNat_lt
 .have:=u.o;rw[show Ak (d++t.data.toList.map (·.toNat))=Ak d++Lib.strCells t from by simp[Ak,Lib.strCells]];exact this
theorem TP(v:Value)(len:Nat)(b:Bool)(w:World)(h:Be w v len)(hl:len<=1000000) :Calls prog 231 #[v,.bool b] w λe w'=>∃v',e=.returned v'/\Au w' w.heap.size v' (len+1)/\Below w.heap.size w w':=by
 have t:=qh (Ol v len 1 w h BJ BJ);clear h;go_in;cases b
 .go_wp2_with fail;refine t.mono ?_;rintro e c ⟨x,rfl,r,g⟩;obtain⟨f,u,⟨p,_⟩,k⟩:=r;obtain⟨l,d⟩:=WZ k g;clear k g;have q:=d.size;go_wp2_with (at_builtin;refine Ag rfl (.tmp 11) (.tmp 12) 127 rfl w.heap.size 5 (.int .u8 0) 1 1 rfl ND rfl Iz _ len (Ak f) rfl (DK l.o (by go_grown)) (Ac c.heap.size) 1 1 [.int .u8 0] rfl rfl ((AC c _ _).reads 0 _ (λj v s=>by simpa using s)) (by intro h;cases h) (by simp[Value.oneCell']) (by unfold maxLen;omega) BJ (by simp;omega) ?_;intro z A i n _;have m:=qh i;clear i);go_ret;refine⟨_,rfl,⟨f++[0],by simp;omega,⟨λy a=>?_,BJ⟩,?_⟩,d.trans ((show Below w.heap.size c _ from(show Below c.heap.size c _ by go_grown).mono q).trans n)⟩
  .rcases List.mem_append.1 a with a|a
   .exact p y a
   .rw[List.mem_singleton.1 a];omega
  .have:=m.o;simpa[Ak] using this
 .go_wp2_with fail;refine t.mono ?_;rintro e c ⟨x,rfl,r,g⟩;obtain⟨f,u,⟨p,_⟩,k⟩:=r;obtain⟨l,d⟩:=WZ k g;clear k g;have q:=d.size;go_wp2_with (at_builtin;refine Ag rfl (.tmp 7) (.tmp 8) 127 rfl w.heap.size 5 (.int .u8 0) 1 1 rfl ND rfl Iz _ len (Ak f) rfl (DK l.o (by go_grown)) (Ac c.heap.size) 1 1 [.int .u8 1] rfl rfl ((AC c _ _).reads 0 _ (λj v s=>by simpa using s)) (by intro h;cases h) (by simp[Value.oneCell']) (by unfold maxLen;omega) BJ (by simp;omega) ?_;intro z A i n _;have m:=qh i;clear i);go_ret;refine⟨_,rfl,⟨f++[1],by simp;omega,⟨λy a=>?_,BJ⟩,?_⟩,d.trans ((show Below w.heap.size c _ from(show Below c.heap.size c _ by go_grown).mono q).trans n)⟩
  .rcases List.mem_append.1 a with a|a
   .exact p y a
   .rw[List.mem_singleton.1 a];omega
  .have:=m.o;simpa[Ak] using this
class In where
 sl:Int
 aq:Int
 ad:Nat->Int
 hsl:1<=sl/\sl<=1000
 haq:0<=aq/\aq<=1000
 had:∀j,0<=ad j/\ad j<=1000
theorem E8[In](q:Nat)(hq:q<7):Cc (q:Int) In.sl=true:=by have:=In.hsl;unfold Cc;simp;omega
theorem RF[In]:(Lit.int .i64 In.sl).wf=true:=WalkArith.wf_i64 (by have:=In.hsl;omega)
theorem XE(s:Int)(d:Nat->Int)(w:World)(hs:0<=s/\s<=1099511627776)(hd:∀j,0<=d j/\d j<=1073741824) :Calls prog 115 #[.agg #[AA s,AA (d 0),AA (d 1),AA (d 2),AA (d 3),AA (d 4),AA (d 5),AA (d 6)]] w λe w'=>e=.returned (.bool true)/\Below w.heap.size w w':=by
 have a:=λk b W=>Ew d k b W;obtain⟨f,c⟩:=WZ a hd;obtain⟨p,q⟩:=hs;clear a hd;go_in
 go_wp2
 go_loop [7] (λi=>∃k:Nat,k<=7/\i=AA k) (λi=>7 - (intOf i).toNat)
 case atStart=>exact⟨0,BJ,rfl⟩
 case round=>
  obtain⟨k,b,rfl⟩:=hrel;by_cases l:k<7
  .have hidx:=f.o k l;obtain⟨g,h⟩:=c.o k;generalize d k=x at hidx g h;have m:¬x<0:=BJ
   have n:¬(1073741824:Int)<x:=BJ
   go_wp2
   go_round
   case rel=>exact⟨k+1,BJ,by go_num⟩
   case measure=>simp[intOf];omega
  .have hk7:k=7:=BJ
   subst hk7
   go_wp2
   go_ret;exact⟨rfl,by go_grown⟩
section
variable [In]
theorem Dl(w:World):Calls prog 135 #[.agg #[AA 0,AA 0]] w λe w'=>e=.returned (.bool true)/\Below w.heap.size w w':=by go_in;go_wp2_with fail;go_ret;exact⟨rfl,by go_grown⟩
theorem Ji(w:World):Calls prog 155 #[.agg #[AA 0,AA 0],.agg #[AA 0,AA 0]] w λe w'=>e=.returned (.bool false)/\Below w.heap.size w w':=by go_in;go_wp2_with fail;go_ret;exact⟨rfl,by go_grown⟩
theorem FC(w:World):Calls prog 115 #[.agg #[AA In.aq,AA (In.ad 0),AA (In.ad 1),AA (In.ad 2),AA (In.ad 3),AA (In.ad 4),AA (In.ad 5),AA (In.ad 6)]] w λe w'=>e=.returned (.bool true)/\Below w.heap.size w w':=by exact XE In.aq In.ad w ⟨In.haq.1,by have:=In.haq.2;omega⟩ λj=>⟨(In.had j).1,by have:=(In.had j).2;omega⟩
theorem EJ(w:World):Calls prog 115 #[.agg #[AA 0,AA 0,AA 0,AA 0,AA 0,AA 0,AA 0,AA 0]] w λe w'=>e=.returned (.bool true)/\Below w.heap.size w w':=
 XE 0 (λ_=>0) w ⟨BJ,BJ⟩ λ_=>⟨BJ,BJ⟩
def cellL(st:Int)(c:Cm)(sm:Bool):List Value:=[AA st,AA 0,AA 0,AA 0,AA 0,AA c.k,AA c.c,AA c.s,.string c.a,.string c.b,.string c.o,.string c.v,AA In.aq,AA (In.ad 0),AA (In.ad 1),AA (In.ad 2),AA (In.ad 3),AA (In.ad 4),AA (In.ad 5),AA (In.ad 6),.bool sm]
theorem Xe(w:World):(binOp .neq 39 (.agg #[AA 0,AA 0]) (.agg #[AA 0,AA 0])).run prog w=.ok (.bool false) w:=by go_simp
theorem MP(st:Int)(c:Cm)(sm:Bool)(w:World)(hst:(st=1/\sm=true)\/(st=3/\sm=false))(hc:EY c.k c.c c.s c.a c.b c.o c.v=true) :Calls prog 136 #[.agg (cellL st c sm).toArray] w λe w'=>e=.returned (.bool true)/\Below w.heap.size w w':=by
 obtain⟨H,K,J,I⟩:=bY (λW=>Dl W) (λW=>Ji W) (λW=>FC W) (λW=>by have:=Eg c.k c.c c.s c.a c.b c.o c.v W;rw[hc] at this;exact this);clear hc;have Q:=λW=>Xe W;unfold cellL;rcases hst with⟨rfl,rfl⟩|⟨rfl,rfl⟩
 .go_in;go_wp2_with fail;obtain⟨d,g⟩:=WZ (show Holds (w.alloc (.cells (cellL 1 c true).toArray 45)) w.heap.size 45 (cellL 1 c true) from AC w _ _) (show Below w.heap.size w (w.alloc (.cells (cellL 1 c true).toArray 45)) by go_grown);refine Ah (H.o _) ?_;rintro L f;obtain⟨d,g⟩:=WZ (AX d.o f) (AO g.o f);clear f;obtain⟨h,i,y,A,B,C,D,E⟩:=EE d.o 0 1 2 3 4 5 6 7;obtain⟨F,G,j,l,m,n,p,q⟩:=EE d.o 8 9 10 11 12 13 14 15;obtain⟨r,t,u,x,z⟩:=RU d.o 16 17 18 19 20;go_wp2_with fail;refine Ah (H.o _) ?_;rintro M f;obtain⟨d,g⟩:=WZ (AX d.o f) (AO g.o f);clear f;clear h i y A B C D E F G j l m n p q r t u x z;obtain⟨h,i,y,A,B,C,D,E⟩:=EE d.o 0 1 2 3 4 5 6 7;obtain⟨F,G,j,l,m,n,p,q⟩:=EE d.o 8 9 10 11 12 13 14 15;obtain⟨r,t,u,x,z⟩:=RU d.o 16 17 18 19 20;go_wp2_with fail;refine Ah (K.o _) ?_;rintro N f;obtain⟨d,g⟩:=WZ (AX d.o f) (AO g.o f);clear f;clear h i y A B C D E F G j l m n p q r t u x z;obtain⟨h,i,y,A,B,C,D,E⟩:=EE d.o 0 1 2 3 4 5 6 7;obtain⟨F,G,j,l,m,n,p,q⟩:=EE d.o 8 9 10 11 12 13 14 15;obtain⟨r,t,u,x,z⟩:=RU d.o 16 17 18 19 20;go_wp2_with fail;refine Ah (I.o _) ?_;rintro O f;obtain⟨d,g⟩:=WZ (AX d.o f) (AO g.o f);clear f;clear h i y A B C D E F G j l m n p q r t u x z;obtain⟨h,i,y,A,B,C,D,E⟩:=EE d.o 0 1 2 3 4 5 6 7;obtain⟨F,G,j,l,m,n,p,q⟩:=EE d.o 8 9 10 11 12 13 14 15;obtain⟨r,t,u,x,z⟩:=RU d.o 16 17 18 19 20;go_wp2_with fail;refine Ah (J.o _) ?_;rintro P f;obtain⟨d,g⟩:=WZ (AX d.o f) (AO g.o f);clear f;clear h i y A B C D E F G j l m n p q r t u x z;go_wp2_with fail;go_ret;exact⟨rfl,g.o⟩
 .go_in;go_wp2_with fail;obtain⟨d,g⟩:=WZ (show Holds (w.alloc (.cells (cellL 3 c false).toArray 45)) w.heap.size 45 (cellL 3 c false) from AC w _ _) (show Below w.heap.size w (w.alloc (.cells (cellL 3 c false).toArray 45)) by go_grown);refine Ah (H.o _) ?_;rintro L f;obtain⟨d,g⟩:=WZ (AX d.o f) (AO g.o f);clear f;obtain⟨h,i,y,A,B,C,D,E⟩:=EE d.o 0 1 2 3 4 5 6 7;obtain⟨F,G,j,l,m,n,p,q⟩:=EE d.o 8 9 10 11 12 13 14 15;obtain⟨r,t,u,x,z⟩:=RU d.o 16 17 18 19 20;go_wp2_with fail;refine Ah (H.o _) ?_;rintro M f;obtain⟨d,g⟩:=WZ (AX d.o f) (AO g.o f);clear f;clear h i y A B C D E F G j l m n p q r t u x z;obtain⟨h,i,y,A,B,C,D,E⟩:=EE d.o 0 1 2 3 4 5 6 7;obtain⟨F,G,j,l,m,n,p,q⟩:=EE d.o 8 9 10 11 12 13 14 15;obtain⟨r,t,u,x,z⟩:=RU d.o 16 17 18 19 20;go_wp2_with fail;refine Ah (K.o _) ?_;rintro N f;obtain⟨d,g⟩:=WZ (AX d.o f) (AO g.o f);clear f;clear h i y A B C D E F G j l m n p q r t u x z;obtain⟨h,i,y,A,B,C,D,E⟩:=EE d.o 0 1 2 3 4 5 6 7;obtain⟨F,G,j,l,m,n,p,q⟩:=EE d.o 8 9 10 11 12 13 14 15;obtain⟨r,t,u,x,z⟩:=RU d.o 16 17 18 19 20;go_wp2_with fail;refine Ah (I.o _) ?_;rintro O f;obtain⟨d,g⟩:=WZ (AX d.o f) (AO g.o f);clear f;clear h i y A B C D E F G j l m n p q r t u x z;obtain⟨h,i,y,A,B,C,D,E⟩:=EE d.o 0 1 2 3 4 5 6 7;obtain⟨F,G,j,l,m,n,p,q⟩:=EE d.o 8 9 10 11 12 13 14 15;obtain⟨r,t,u,x,z⟩:=RU d.o 16 17 18 19 20;go_wp2_with fail;refine Ah (J.o _) ?_;rintro P f;obtain⟨d,g⟩:=WZ (AX d.o f) (AO g.o f);clear f;clear h i y A B C D E F G j l m n p q r t u x z;go_wp2_with fail;go_ret;exact⟨rfl,g.o⟩
end
end Go.Proofs.YtimdpiifpibgfaaGreatDoor
