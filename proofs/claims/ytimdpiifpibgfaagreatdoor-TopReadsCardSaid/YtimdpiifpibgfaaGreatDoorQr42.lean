/- A part of the proof of TopReads. -/
import Derived.Test.YtimdpiifpibgfaaGreatDoorQr41
set_option linter.all false
set_option maxRecDepth 20000
set_option maxHeartbeats 16000000
open Go.RowKit Go.Maps
namespace Go.Proofs.YtimdpiifpibgfaaGreatDoor
open Tryz
section
variable [In]
theorem rG(gC i g:Nat)(c:Cm)(R1 R2:World->Prop)(w:World) (KN:∀W,Below w.heap.size w W->Calls prog 17 #[AP gC,AA i] W λe W'=>e=.returned (AP g)/\Below W.heap.size W W') (KA:∀W,Below w.heap.size w W->Calls prog 71 #[AP g,.agg (c.cells).toArray] W λe W'=>e=.returned (AA 0)/\R1 W') (KO:∀W,R1 W->Calls prog 31 #[AP gC,AA i] W λe W'=>e=.returned (.tuple #[])/\R2 W') :Calls prog 48 #[AP gC,.agg (c.cells).toArray,AA i] w λe w'=>e=.returned (.tuple #[])/\R2 w':=by obtain⟨KN,KA,KO,a⟩:=bY KN KA KO (Base.start w);go_in;go_upto_region 1 with(fail);go_name_world W b;have b:Bo w [.cells (c.cells:List Value).toArray 23]=W:=b;have d:=qh (show Holds W (w.heap.size) 23 (c.cells) from Ae _ b 0 rfl);have m:=Aq _ b;have n:=Bd _ b;simp only[List.length_cons,List.length_nil] at n;clear b;have a:=D9 m a;clear m n;go_wp2_with fail;refine Ah (KN.o _ a.below) ?_;rintro s l;obtain⟨d,a⟩:=Ce l d a;clear l KN;have q:=a.below;generalize w.heap.size=r at d |-;have h:=qh d.Af;go_wp2_with (first|(with_reducible refine lR 0 h.o ?_));refine Ah (KA.o _ q) ?_;rintro t j;have f:=qh j;clear j h d a KA;go_wp2_with fail;refine Ah (KO.o _ f.o) ?_;rintro u k;have p:=qh k;clear k f KO;go_wp2_with fail;exact bE ⟨rfl,p.o⟩
def Fe(k:Nat)(sq:Int)(x:Cm):Cm:=⟨x.k,(k:Int)+1,sq+1,x.a,x.b,x.o,x.v⟩
def fits(y:Cm):Prop:=EY y.k y.c y.s y.a y.b y.o y.v=true/\y.k≠0
def U5(g:Nat)(y:Cm)(tto:Nat)(L:List Value)(r:Bool)(w w':World):Prop:=(r=true/\L=y.cells/\OY w' g y.c y.s y true tto 0/\Touch g w w'/\fits y)\/(r=false/\Below w.heap.size w w'/\¬fits y)
theorem U5.size{g:Nat}{y:Cm}{tto:Nat}{L:List Value}{r:Bool}{w w':World}(h:U5 g y tto L r w w'):w.heap.size<=w'.heap.size:=by
 rcases h with⟨_,_,_,h,_⟩|⟨_,h,_⟩
 .exact h.size
 .exact h.size
theorem U5.mv{g:Nat}{y:Cm}{tto:Nat}{L:List Value}{r:Bool}{w w':World}(h:U5 g y tto L r w w'):Mv (λk=>k=g) w w':=by
 rcases h with⟨_,_,_,h,_⟩|⟨_,h,_⟩
 .exact .AZ h rfl
 .exact .of_below h
theorem U5.keep{g b:Nat}{y:Cm}{tto:Nat}{L:List Value}{r:Bool}{w w':World}{t:TypeId}{M:List Value}(h:U5 g y tto L r w w')(hb:Holds w b t M)(hn:b≠g):Holds w' b t M:=hb.mv h.mv hn
theorem rE(g k:Nat)(sq:Int)(x x0 y:Cm)(hy:y=Fe k sq x)(tg0 tk0:Int)(tto:Nat)(w:World)(h:OY w g ((k:Int)+1) sq x0 false tg0 tk0)(ht:tto<7)(hs:0<=sq/\sq<=1000000000) :Calls prog 47 #[AP g,.agg #[AA x.k,AA x.c,AA x.s,.string x.a,.string x.b,.string x.o,.string x.v],AA tto] w λe w'=>∃L r,e=.returned (.tuple #[.agg (L:List Value).toArray,.bool r])/\L.length=7/\(∀u∈L,u.oneCell'=true)/\U5 g y tto L r w w':=by
 subst hy;refine(Y9 g ((k:Int)+1) sq x0 x tg0 tk0 tto w h hs BJ).mono ?_;rintro e w' (⟨rfl,j,l,m,n⟩|⟨rfl,p,d⟩)
 .exact⟨(Fe k sq x).cells,true,rfl,rfl,by simp[Cm.cells,Value.oneCell'],.inl ⟨rfl,rfl,j,l,m,n⟩⟩
 .refine⟨Cm.zero.cells,false,rfl,rfl,by simp[Cm.zero,Cm.cells,Value.oneCell'],.inr ⟨rfl,p,?_⟩⟩;rintro⟨f,i⟩;rcases d with d|d
  .exact absurd (d.symm.trans f) Iz
  .exact i d
def MO(k:Nat)(y:Cm):Ev:=⟨1,(k:Int)+1,y,Rep.zero⟩
def Called(gC gCa n tto k:Nat)(gcl:Nat->Nat)(CA:List Value)(y:Cm)(obh:Option Nat)(le:Nat)(EL:List Value)(dv nv clv cav lv:Value)(w W:World):Prop:=∃hv ob,Holds W gC 85 (Dq n dv nv clv cav lv hv)/\AV W hv ob 55 14 (le+1) (EL++Kw (MO k y) AL)/\(ob=obh\/∃x,ob=some x/\w.heap.size<=x)/\Holds W gCa 23 (splice CA (k*7) y.cells) /\
 OY W (gcl k) y.c y.s y true tto 0/\fits y/\Mv (λx=>x=gC\/x=gCa\/x=gcl k\/obh=some x) w W
theorem vJ(gC gCl cCl gCa n tto k:Nat)(hk:k<8)(gcl:Nat->Nat)(rC CA:List Value)(sq:Int)(hsq:0<=sq/\sq<=1000000000)(x x0 y:Cm)(hy:y=Fe k sq x)(tg0 tk0:Int)(hv:Value)(obh:Option Nat)(le:Nat)(EL:List Value)(hle:le<=1000)(dv nv lv:Value)(R:World->Prop)(w:World) (h:Holds w gC 85 (Dq n dv nv (.slice (Ac gCl) 8 cCl) (.slice (Ac gCa) 8 8) lv hv)) (hC:Holds w gCl 92 (ptrs 8 gcl++rC)) (hX:OY w (gcl k) ((k:Int)+1) sq x0 false tg0 tk0) (hA:Holds w gCa 23 CA) (hcs:CA.length=56) (hH:AV w hv obh 55 14 le EL) (ht:tto<n) (hn:n<=7) (KM:∀W,Called gC gCa n tto k gcl CA y obh le EL dv nv (.slice (Ac gCl) 8 cCl) (.slice (Ac gCa) 8 8) lv w W->Calls prog 48 #[AP gC,.agg y.cells.toArray,AA tto] W λe W'=>e=.returned (.tuple #[])/\R W') :Calls prog 26 #[AP gC,.agg (Gi ((k:Int)+1) tto x).toArray] w λe w'=>(e=.returned (.bool true)/\R w')\/(e=.returned (.bool false)/\Below w.heap.size w w'/\¬fits y):=by
 obtain⟨KM,KK,KB,d,B,f,i,l⟩:=ed KM (UF ((k:Int)+1) BJ BJ) (λW (h:OY W (gcl k) ((k:Int)+1) sq x0 false tg0 tk0)=>rE (gcl k) k sq x x0 y hy tg0 tk0 tto W h BJ hsq) h hC (show Holds w (gcl k) 132 _ from hX) hA hH;have M:=d;have E:=f;have J:=i;have O:=l;obtain⟨ph,ch,rfl⟩:∃ph ch,hv=.slice ph le ch:=by
  rcases hH.cases with⟨r,_,r2,_⟩|⟨_,_,_,r,_⟩
  .subst r2;exact⟨_,_,r⟩
  .exact⟨_,_,r⟩
 have m:=qh (Base.start w);have b3:(tto:Int)<(n:Int):=BJ
 have b2:¬((tto:Int)<0):=BJ
 have b4:IntKind.i64.wrap ((k:Int)+1-1)=(k:Int):=by rw[show (k:Int)+1-1=k by omega];exact IntWalk.i64_in _ BJ
 have b5:IntKind.i64.wrap (k:Int)=(k:Int):=IntWalk.i64_in _ BJ;have bu:(0:Int)<=(k:Int):=BJ
 have bv:(k:Int)<8:=BJ
 have bo:decide (n<=tto)=false:=by simp;omega
 clear h hC hX hA hH hsq hy;go_in;go_upto_region 1 with(fail);go_name_world W hW;obtain⟨a,N,bt⟩:=GI 32 (Gi ((k:Int)+1) tto x) hW;clear hW;obtain⟨d,B,f,i,l,m⟩:=Ef N d B f i l m;clear N bt;generalize ai:w.heap.size=gS at a m |-;obtain⟨s1,s3⟩:=JO a.o 1 3;have c0:=MK d.o 0;refine wp_region_quiet_below ND ND ?_;repeat go_big_quiet_step (first|(go_at_call 37;with_reducible exact AQ λW _=>KK.o W))
 refine wpQuiet_nil ?_;intro w2 bl;have am:=Aa bl;obtain⟨d,B,f,i,l,m⟩:=Ef am d B f i l m;have a:=D9 am a;clear bl am s1 s3 c0 KK;go_upto_region 3 with(fail);try simp only[bo]
 have a9:gS≠gcl k:=by have:=E.lt;omega
 go_cut [5,6] from 25 to 42 (λys zs wx=>∃C L r,ys=AP C/\zs=.bool r/\L.length=7/\Holds wx C 23 L/\Holds wx gS 32 (Gi ((k:Int)+1) tto x)/\∃W X,Below w.heap.size w W/\U5 (gcl k) y tto L r W X/\Touch C X wx/\w.heap.size<=C);case first=>
  obtain⟨d,B,f,m,a⟩:=Gj (AY _ w2) d B f m a;refine Ed [13,18] 20 (λhSn=>?_);generalize w2.drew=A at d B f m a hSn |-;simp only[List.replicate];refine ES 0 ?_;refine BO 3 [7,8,13,14,15,16,18,19] (λw g=>Am (d.bel g) 3) ?_;refine CW 4 ?_;refine BO 5 [6,7,8,13,14,15,16,18,19] (λw g=>Am (a.bel g) 3) ?_;refine F9 6 ?_;refine JL 8 [13,14,15,16,18,19] (some 34) (?vg9) rfl (Or.inl ⟨by rfl,?hg9⟩) hSn ?rg9;case hg9=>
   intro w g;have bp:=(B.bel g).cell k;rw[MB 8 gcl rC k hk] at bp;go_simp;try with_reducible rfl
  simp only[Act.put,zA,zB,zC];refine CW 9 ?_;refine BO 10 [13,14,15,16,18,19] (λw g=>Gl (a.bel g) 4 5 6 7 8 9 10) ?_;refine CW 11 ?_;refine BO 12 [13,14,15,16,18,19] (λw g=>Am (a.bel g) 1) ?_;refine rdA [13,17] (BD.cons rfl (λK b=>?_) (BD.cons rfl (λK b=>?_) (BD.nil)))
  .skip
   go_simp;have ak:=hSn;refine(KB.o _ (f.bel hSn)).mono ?_;rintro e p ⟨L,r,rfl,D,aj,u⟩;obtain⟨Y,aa⟩:=WZ u (u.keep (a.bel hSn) a9);have an:=u.size;try(have P:=qh (u.keep HZ.o (λhe=>ap (he.trans rfl))))
   clear u;refine BR b ?_;clear b;refine ES 14 ?_ (hS:=JI);refine BN 17 rfl (λK b=>?_);go_simp;have ab:=λo=>Below.alloc hSn hSn.size o;first|(refine b.out _ _ (λ_=>ab _) ?_;have hSn:=ab (.cells #[AA 0,AA 0,AA 0,AU,AU,AU,AU] 23);have HZ:=qh (AC A 23 [AA 0,AA 0,AA 0,AU,AU,AU,AU]);have ap:A.heap.size≠gcl k:=Ne.symm (Nat.ne_of_lt f.lt);change wpAnyL _ _ _ _ _ _ _ _ _ (A.alloc (.cells #[AA 0,AA 0,AA 0,AU,AU,AU,AU] 23));generalize ar:A.alloc (.cells #[AA 0,AA 0,AA 0,AU,AU,AU,AU] 23)=wc at hSn HZ |-)|(refine b.out _ _ JI ?_;have P:=qh (AC p 23 [AA 0,AA 0,AA 0,AU,AU,AU,AU]);have S:=(Below.refl p.heap.size p).alloc Ve (.cells #[AA 0,AA 0,AA 0,AU,AU,AU,AU] 23);change wpAnyL _ _ _ _ _ _ _ _ _ (p.alloc (.cells #[AA 0,AA 0,AA 0,AU,AU,AU,AU] 23));generalize ar:p.alloc (.cells #[AA 0,AA 0,AA 0,AU,AU,AU,AU] 23)=wc at P S |-)
   clear b;try simp only[Act.put,zA,zB,zC]
   refine BN 18 rfl (λK b=>?_);refine tB L P.o ?_ (P8 aj) (hi:=by rw[D];kernel_rfl) (hl:=by rw[D];rfl);intro wf ac H;refine BR b ?_;clear b;refine CW 19 ?_ (hS:=JI);refine BA ?_;go_wp2_with fail
   go_meet
   have bq:=a.lt;subst ai;first|exact⟨_,L,r,rfl,rfl,D,ac,(aa.bel S).touch H BJ,A,p,m.below,Y.o,(Touch.bel (Touch.refl _ p) S).trans H,Nat.le_trans m.le an⟩|exact⟨_,L,r,rfl,rfl,D,ac,aa.touch H BJ,wc,p,(m.bel ak).below,Y.o,H,m.le⟩
  .skip
   go_simp;have ab:=λo=>Below.alloc hSn hSn.size o;first|(refine b.out _ _ (λ_=>ab _) ?_;have hSn:=ab (.cells #[AA 0,AA 0,AA 0,AU,AU,AU,AU] 23);have HZ:=qh (AC A 23 [AA 0,AA 0,AA 0,AU,AU,AU,AU]);have ap:A.heap.size≠gcl k:=Ne.symm (Nat.ne_of_lt f.lt);change wpAnyL _ _ _ _ _ _ _ _ _ (A.alloc (.cells #[AA 0,AA 0,AA 0,AU,AU,AU,AU] 23));generalize ar:A.alloc (.cells #[AA 0,AA 0,AA 0,AU,AU,AU,AU] 23)=wc at hSn HZ |-)|(refine b.out _ _ JI ?_;have P:=qh (AC p 23 [AA 0,AA 0,AA 0,AU,AU,AU,AU]);have S:=(Below.refl p.heap.size p).alloc Ve (.cells #[AA 0,AA 0,AA 0,AU,AU,AU,AU] 23);change wpAnyL _ _ _ _ _ _ _ _ _ (p.alloc (.cells #[AA 0,AA 0,AA 0,AU,AU,AU,AU] 23));generalize ar:p.alloc (.cells #[AA 0,AA 0,AA 0,AU,AU,AU,AU] 23)=wc at P S |-)
   clear b;try simp only[Act.put,zA,zB,zC]
   refine BN 13 rfl (λK b=>?_);go_simp;have ak:=hSn;refine(KB.o _ (f.bel hSn)).mono ?_;rintro e p ⟨L,r,rfl,D,aj,u⟩;obtain⟨Y,aa⟩:=WZ u (u.keep (a.bel hSn) a9);have an:=u.size;try(have P:=qh (u.keep HZ.o (λhe=>ap (he.trans rfl))))
   clear u;refine BR b ?_;clear b;refine ES 14 ?_ (hS:=JI);refine BN 18 rfl (λK b=>?_);refine tB L P.o ?_ (P8 aj) (hi:=by rw[D];kernel_rfl) (hl:=by rw[D];rfl);intro wf ac H;refine BR b ?_;clear b;refine CW 19 ?_ (hS:=JI);refine BA ?_;go_wp2_with fail
   go_meet
   have bq:=a.lt;subst ai;first|exact⟨_,L,r,rfl,rfl,D,ac,(aa.bel S).touch H BJ,A,p,m.below,Y.o,(Touch.bel (Touch.refl _ p) S).trans H,Nat.le_trans m.le an⟩|exact⟨_,L,r,rfl,rfl,D,ac,aa.touch H BJ,wc,p,(m.bel ak).below,Y.o,H,m.le⟩
 case rest=>
  obtain⟨C,L,r,rfl,rfl,D,ao,aq,W,X,N,u,ae,a7⟩:=hcut;rcases u with⟨rfl,rfl,a8,bi,bh⟩|⟨rfl,al,be⟩
  .have hrk:=qh bh;have ad:Mv (λx=>x=gcl k) w wc:=(((Mv.of_below N).mv (Mv.AZ bi rfl:Mv (λx=>x=gcl k) W X) (λk hk=>.inl hk)).mv (Mv.AZ ae rfl:Mv (λk=>k=C) X wc) (λk hk=>.inr (hk▸a7)));have bw:=E.lt;have bz:=J.lt;have b0:=M.lt;have bc:=O.lt;have Q:∀z,obh=some z->z≠gC/\z≠gCa/\z≠gcl k/\z≠C/\z≠gS:=λz I=>⟨AV.ne_of O.o M.o Iz z I,AV.ne_of O.o J.o Iz z I,AV.ne_of O.o E.o Iz z I,by have:=bc z I;omega,by have:=bc z I;omega⟩;have dA:gC≠gCa/\gcl k≠gCa/\C≠gCa/\gS≠gCa:=⟨M.ne_of J.o Iz,E.ne_of J.o Iz,BJ,BJ⟩;have dC:gCa≠gC/\gcl k≠gC/\C≠gC/\gS≠gC:=⟨Ne.symm dA.1,E.ne_of M.o Iz,BJ,BJ⟩;obtain⟨ax,au,a4,az,q,a2,t⟩:=oC (M.mv ad (M.ne_of E.o Iz)) (J.mv ad (J.ne_of E.o Iz)) (show Holds wc (gcl k) 132 (Dk y.c y.s y true tto 0) from a8.mv (Mv.AZ ae rfl:Mv (λk=>k=C) X wc) BJ) (O.mv ad (λz I=>(Q z I).2.2.1)) ao aq (ad.more (G:=λx=>x=gC\/x=gCa\/x=gcl k\/obh=some x) (λx hx=>.inr (.inr (.inl hx))));clear aq ao a8 bi bh ad ae d f i a m M E J O l B KB;have d:=ax;have i:=au;have f:=a4;have a:=a2;have l:=az;clear ax au a4 a2 az;go_upto_region 6 with(fail);obtain⟨d,i,f,q,a,t⟩:=Ef (AY _ wc) d i f q a t;have l:=D9 (AY _ wc) l;refine Ed [9] 10 (λhSn=>?_);generalize wc.drew=A at d i f q a t l hSn |-;simp only[List.replicate];refine ES 0 ?_;refine BO 3 [8,9] (λw g=>Am (d.bel g) 4) ?_;refine CW 4 ?_;refine BO 5 [6,8,9] (λw g=>Am (a.bel g) 3) ?_;refine CW 6 ?_;refine BO 7 [8,9] (λw g=>Gl (q.bel g) 0 1 2 3 4 5 6) ?_;refine CW 8 ?_;refine BN 9 rfl (λK b=>?_);refine FB rfl 23 (.tmp 52) (.tmp 51) rfl rfl gCa (k*7) _ 23 (i.bel hSn) rfl (y.cells) rfl ND (by rw[hcs];simp[Cm.cells];omega) (by simp[Cm.cells,Value.oneCell']) ?_;intro w6 bb bk;have U:Mv (λk=>k=gCa) _ w6:=Mv.AZ bk rfl;obtain⟨i,d,f,q,a,l,t⟩:=oC (show Holds w6 gCa 23 (splice CA (k*7) y.cells) from bb) ((d.bel hSn).mv U dA.1) ((f.bel hSn).mv U dA.2.1) ((q.bel hSn).mv U dA.2.2.1) ((a.bel hSn).mv U dA.2.2.2) ((l.bel hSn).mv U (λz I=>(Q z I).2.1)) ((t.bel hSn).mv U (λk hk=>.inl (.inr (.inl hk))));clear bb bk U;refine BR b ?_;clear b;refine BA ?_;clear hSn;go_upto_region 7 with(fail);obtain⟨d,i,f,q,a,t⟩:=Ef (AY _ w6) d i f q a t;have l:=D9 (AY _ w6) l;refine Ed [10,13] 14 (λhSn=>?_);generalize w6.drew=A at d i f q a t l hSn |-;simp only[List.replicate];refine J9 0 ?_;refine BO 4 [10,11,12,13] (λw g=>Am (d.bel g) 6) ?_;refine CW 5 ?_;refine BO 6 [8,9,10,11,12,13] (λw g=>Am (a.bel g) 3) ?_;refine BO 7 [8,9,10,11,12,13] (λw g=>Gl (q.bel g) 0 1 2 3 4 5 6) ?_;refine CW 8 ?_;refine BN 9 rfl (λK b=>?_);refine tU 55 (.agg (Kw (MO k y) AL).toArray) (Kw (MO k y) AL) ?_;intro wa bd a6;have hSn:=AO hSn a6;have ah:=qh bd;generalize A.heap.size=gn at ah |-;obtain⟨d,i,f,q,a,t⟩:=Ef hSn d i f q a t;have l:=D9 hSn l;clear bd a6;change K (Act.put _ (some 62) _) _;refine BR b ?_;clear b;refine BN 10 rfl (λK b=>?_);refine tS (.agg xk.toArray) 14 168 l.o (Kw (MO k y) AL) (ah.reads 0 _ (λj v hv=>by rw[Nat.zero_add];exact hv)) ?_ (VS _ ⟨none,0,0,rfl⟩);intro v9 af w9 bf bg V;have b1:=t.size;obtain⟨ag,av,a5,aw,a3,a0,Z⟩:=oC (d.mv V (λF=>(Q _ F).1 rfl)) (i.mv V (λF=>(Q _ F).2.1 rfl)) (f.mv V (λF=>(Q _ F).2.2.1 rfl)) (q.mv V (λF=>(Q _ F).2.2.2.1 rfl)) (a.mv V (λF=>(Q _ F).2.2.2.2 rfl)) (t.mv V (λx hx=>.inl (.inr (.inr (.inr hx))))) bf;have bs:af=obh\/∃k,af=some k/\w.heap.size<=k:=bg.imp id (λ⟨k,h,h2⟩=>⟨k,h,BJ⟩);have br:∀k,af=some k->k≠gC:=(λk hk=>AV.ne_of Z.o ag.o Iz k hk);clear bf bg V;change K (Act.put _ (some 63) _) _;refine BR b ?_;clear b;refine F9 11 ?_ (hS:=JI);refine BN 13 rfl (λK b=>?_);refine tC 6 ag.o v9 ?_ (hu:=Z.c1) (h1:=Z.c2);intro w10 ba bj;have T:Mv (λk=>k=gC) w9 w10:=Mv.AZ bj rfl;obtain⟨a,q,ay⟩:=bP (a3.mv T dC.2.2.2) (aw.mv T dC.2.2.1) (show Called gC gCa n tto k gcl CA y obh le EL dv nv (.slice (Ac gCl) 8 cCl) (.slice (Ac gCa) 8 8) lv w w10 from⟨v9,af,ba,Z.mv T br,bs,av.mv T dC.1,a5.mv T dC.2.1,hrk.out,a0.mv T (λk hk=>.inl (.inl hk))⟩);clear ba bj T;refine BR b ?_;clear b;refine BA ?_;clear hSn d i f t l ag av a5 aw a3 a0 Z ah;have s1:=Am a.o 1;have a1:=qh q.Af;go_wp2_with (first|(with_reducible refine lR 0 a1.o ?_));refine Ah (KM.o _ ay.o) ?_;rintro b6 h9;have H9:=qh h9;clear h9 s1 a1 a q ay KM;go_wp2_with fail;go_ret;exact .inl ⟨rfl,H9.o⟩
  .have hbb:Below w.heap.size w wc:=(N.trans (al.mono N.size)).trans (ae.below a7 (Nat.le_trans N.size al.size));obtain⟨bm,bn⟩:=WZ hbb be;clear be hbb al ae N ao aq d f i a m M E J O l B KB KM;go_wp2_with fail;go_ret;exact .inr ⟨rfl,ai▸bm.o,bn.o⟩
end
section
open Rz (zn zN zp zK)
section
variable [Rz]
def MZ(k:Nat):Nat->Cm
 | 0=>Cm.zero
 | J+1=>if cK (zK J).c=k then (zK J).c else MZ k J
def OV(s:Mz)(k:Nat):Bool:=(List.range s.J).any λj=>cK (zK j).c==k&&!Dc (s.D (zK j).m) j
def Oz(j:Nat):Ev:=WC (cK (zK j).c) (zK j).c (Js j)
def fA(s:Mz):Nat:=((List.range zN).filter λj=>Dc (s.D (zK j).m) j).length
structure O8(s:Mz)(ev:List Ev):Prop where
 ok:∀e∈ev,(e.kd=1/\e.r.ps=[])\/∃j,j<zN/\e=Oz j
 len:ev.length=s.J+fA s
theorem OW{s:Mz}{k:Nat}:OV s k=true ↔ ∃j,j<s.J/\cK (zK j).c=k/\Dc (s.D (zK j).m) j=false:=by unfold OV;rw[List.any_eq_true];simp[List.mem_range,and_assoc]
theorem Ti{s:Mz}(h:JC s){i j:Nat}(hi:i<s.J)(hj:j<s.J)(di:Dc (s.D (zK i).m) i=false)(dj:Dc (s.D (zK j).m) j=false)(hc:cK (zK i).c=cK (zK j).c):i=j:=by
 have g:=h.hJ;refine Decidable.byContradiction λb=>?_;obtain⟨d,f⟩:=Kt BJ BJ b hc;rcases Nat.lt_or_gt_of_ne b with a|a
 .have:=h.rdy j hj i d a _ (Rz.m i);rw[di] at this;cases this
 .have:=h.rdy i hi j f a _ (Rz.m j);rw[dj] at this;cases this
theorem dO{j:Nat}:∀J,j<J->(∀i,j<i->i<J->cK (zK i).c≠cK (zK j).c)->MZ (cK (zK j).c) J=(zK j).c
 | J+1,h,hn=>by
  show (if _ then _ else _)=_;by_cases e:j=J
  .subst e;rw[if_pos rfl]
  .rw[if_neg (hn J BJ BJ)];exact dO J BJ λi h1 h2=>hn i h1 BJ
theorem ae{s:Mz}(h:JC s){j:Nat}(hj:j<s.J)(dj:Dc (s.D (zK j).m) j=false):MZ (cK (zK j).c) s.J=(zK j).c:=
 dO s.J hj λi a b f=>by have k:=h.hJ;obtain⟨g,d⟩:=Kt (i:=i) (j:=j) BJ BJ BJ f;have:=h.rdy i b j d a _ (Rz.m j);rw[dj] at this;cases this
theorem VO{s:Mz}(h:JC s){j:Nat}(hj:j<zN){r:Nat}(hr:r<zn)(hd:Dc (s.D r) j=true):j<s.J:=by refine Decidable.byContradiction λa=>?_;have:=(h.dok r hr).com j hj hd;rw[h.new j BJ hj r hr] at this;cases this
theorem VV{α:Type}{p q r:α->Bool}:∀l:List α,(∀x∈l,r x=(p x||q x)/\¬(p x=true/\q x=true))->(l.filter r).length=(l.filter p).length+(l.filter q).length
 | [],_=>rfl
 | x :: l,h=>by have ih:=VV l λy f=>h y (List.mem_cons_of_mem _ f);obtain⟨a,b⟩:=h x (List.mem_cons_self ..);rw[List.filter_cons,List.filter_cons,List.filter_cons,a];cases c:p x<;>cases d:q x<;>simp[c,d,ih] at b |-<;>omega
def PW(p:Nat->Pz)(d d':Nat->Int)(t:Nat):List Nat:=(CQ p d t).filter λj=>Dc d' j
theorem OC{p:Nat->Pz}{d d':Nat->Int}{t j:Nat}:j∈PW p d d' t ↔ (j<zN/\(zK j).m=t/\Jm (p j)=false/\Dc d j=false)/\Dc d' j=true:=by unfold PW;rw[List.mem_filter,L8]
section
variable {s s':Mz} {t:Nat}
theorem Pm(h':JC s')(hJ:s'.J=s.J)(ht:t<zn){j:Nat}(hj:j∈PW (s'.P t) (s.D t) (s'.D t) t):j<s.J/\(zK j).m=t/\Dc (s.D (zK j).m) j=false/\Dc (s'.D (zK j).m) j=true:=by obtain⟨⟨b,c,f,d⟩,a⟩:=OC.1 hj;rw[c];exact⟨hJ▸VO h' b ht a,rfl,d,a⟩
theorem qK(h':JC s')(hJ:s'.J=s.J)(ht:t<zn)(hD:∀r,r≠t->s'.D r=s.D r)(hle:∀r,s.D t r<=s'.D t r){j:Nat}(hd:Dc (s.D (zK j).m) j=true):Dc (s'.D (zK j).m) j=true:=by
 by_cases e:(zK j).m=t
 .rw[e] at hd |-;exact YO hle hd
 .rw[hD _ e];exact hd
theorem Vq(h':JC s')(hJ:s'.J=s.J)(ht:t<zn)(hD:∀r,r≠t->s'.D r=s.D r)(hle:∀r,s.D t r<=s'.D t r){j:Nat}(hj:j<zN)(hd:Dc (s.D (zK j).m) j=false)(hd':Dc (s'.D (zK j).m) j=true):j∈PW (s'.P t) (s.D t) (s'.D t) t:=by
 have e:(zK j).m=t:=Decidable.byContradiction λe=>by rw[hD _ e,hd] at hd';cases hd'
 rw[e] at hd hd';exact OC.2 ⟨⟨hj,e,Gn ((h'.dok t ht).com j hj hd'),hd⟩,hd'⟩
theorem iq(h':JC s')(hJ:s'.J=s.J)(ht:t<zn)(hD:∀r,r≠t->s'.D r=s.D r)(hle:∀r,s.D t r<=s'.D t r):fA s'=fA s+(PW (s'.P t) (s.D t) (s'.D t) t).length:=by
 unfold fA PW CQ;rw[List.filter_filter];refine VV _ λj d=>?_;have d:=List.mem_range.1 d;cases c:Dc (s'.D (zK j).m) j with
 | false=>
  have a:Dc (s.D (zK j).m) j=false:=by
   cases a:Dc (s.D (zK j).m) j with
   | false=>rfl
   | true=>rw[qK h' hJ ht hD hle a] at c;cases c
  refine⟨?_,λh=>by rw[a] at h;cases h.1⟩;rw[a,Bool.false_or];by_cases e:(zK j).m=t
  .rw[e] at c;rw[c];rfl
  .simp[e]
 | true=>
  cases a:Dc (s.D (zK j).m) j with
  | false=>
   obtain⟨⟨_,b,f,g⟩,i⟩:=OC.1 (Vq h' hJ ht hD hle d a c);refine⟨?_,λh=>by cases h.1⟩;simp[b,f,g,i]
  | true=>
   refine⟨Vj,λh=>?_⟩;have b:=h.2;simp only[Bool.and_eq_true,beq_iff_eq,Bool.not_eq_true'] at b;rw[b.2.1.1,b.2.2] at a;cases a
theorem Xf(h:JC s)(h':JC s')(hJ:s'.J=s.J)(ht:t<zn)(hD:∀r,r≠t->s'.D r=s.D r)(hle:∀r,s.D t r<=s'.D t r):((PW (s'.P t) (s.D t) (s'.D t) t).map λj=>cK (zK j).c).Nodup:=by have o:(PW (s'.P t) (s.D t) (s'.D t) t).Nodup:=(List.nodup_range.sublist (List.filter_sublist ..)).sublist (List.filter_sublist ..);refine(List.pairwise_map).2 ?_;refine List.Pairwise.imp_of_mem (fun {a b} k m l n=>l ?_) o;obtain⟨d,_,f,_⟩:=Pm h' hJ ht k;obtain⟨g,_,i,_⟩:=Pm h' hJ ht m;exact Ti h d g f i n
theorem pK(h:JC s)(h':JC s')(hJ:s'.J=s.J)(ht:t<zn)(hD:∀r,r≠t->s'.D r=s.D r)(hle:∀r,s.D t r<=s'.D t r)(k:Nat):OV s' k=(OV s k&&!((PW (s'.P t) (s.D t) (s'.D t) t).any λj=>k==cK (zK j).c)):=by
 rw[Bool.eq_iff_iff,Bool.and_eq_true,OW,OW,Bool.not_eq_true',List.any_eq_false];constructor
 .rintro⟨j,hj,hc,hd⟩;have a:Dc (s.D (zK j).m) j=false:=by
   cases a:Dc (s.D (zK j).m) j with
   | false=>rfl
   | true=>rw[qK h' hJ ht hD hle a] at hd;cases hd
  refine⟨⟨j,hJ▸hj,hc,a⟩,λi n l=>?_⟩;obtain⟨d,_,f,b⟩:=Pm h' hJ ht n;obtain rfl:i=j:=Ti h d (hJ▸hj) f a (by rw[hc];exact(beq_iff_eq.1 l).symm);rw[hd] at b;cases b
 .rintro⟨⟨j,hj,hc,hd⟩,hn⟩;refine⟨j,hJ.symm▸hj,hc,?_⟩;cases g:Dc (s'.D (zK j).m) j with
  | false=>rfl
  | true=>exact absurd (by simp[hc]) (hn j (Vq h' hJ ht hD hle (by have:=h.hJ;omega) hd g))
theorem O8.new(h:JC s)(h':JC s')(hJ:s'.J=s.J)(ht:t<zn)(hD:∀r,r≠t->s'.D r=s.D r)(hle:∀r,s.D t r<=s'.D t r){ev:List Ev}(he:O8 s ev):O8 s' (ev++(PW (s'.P t) (s.D t) (s'.D t) t).map Oz):=by
 refine⟨λe a=>?_,?_⟩
 .rcases List.mem_append.1 a with a|a
  .exact he.ok e a
  .obtain⟨j,hj,rfl⟩:=List.mem_map.1 a;exact .inr ⟨j,(OC.1 hj).1.1,rfl⟩
 .rw[List.length_append,List.length_map,he.len,iq h' hJ ht hD hle,hJ];omega
end
theorem VI{k:Nat}:∀J,(∀j,j<J->cK (zK j).c≠k)->MZ k J=Cm.zero
 | 0,_=>rfl
 | J+1,h=>by show (if _ then _ else _)=_;rw[if_neg (h J (Nat.lt_succ_self _))];exact VI J λj hj=>h j BJ
theorem Xg{J:Nat}(hJ:J<zN):(zK J).c.s=(MZ (cK (zK J).c) J).s+1:=by
 have k:=Rz.hp;by_cases h:J<zp
 .obtain⟨h1,h2⟩:=Rz.ck0 J h;rw[h1,h2];rcases Nat.eq_zero_or_pos J with rfl|f
  .rfl
  .obtain⟨i,rfl⟩:∃i,J=i+1:=⟨J-1,BJ⟩;obtain⟨a,b⟩:=Rz.ck0 i BJ;have:MZ 0 (i+1)=(zK i).c:=by show (if _ then _ else _)=_;rw[if_pos a]
   rw[this,b];omega
 .rw[VI J λj g d=>h (Kt BJ hJ BJ d).2,(Rz.ck1 J BJ hJ).2]
  rfl
theorem oz{s:Mz}(h:JC s)(hJ:s.J<zN)(hr:∀i,i<zp->i<s.J->∀r,r<zn->Dc (s.D r) i=true):OV s (cK (zK s.J).c)=false:=by rw[<-Bool.not_eq_true,OW];rintro⟨j,f,d,a⟩;obtain⟨b,_⟩:=Kt BJ hJ BJ d;rw[hr j b f _ (Rz.m j)] at a;cases a
theorem WV{s:Mz}(h:JC s)(hJ:s.J<zN)(k:Nat):OV s.call k=if k=cK (zK s.J).c then true else OV s k:=by
 have a:Dc (s.D (zK s.J).m) s.J=false:=by
  cases a:Dc (s.D (zK s.J).m) s.J with
  | false=>rfl
  | true=>exact absurd (VO h hJ (Rz.m _) a) BJ
 show (List.range (s.J+1)).any _=_;rw[List.range_succ,List.any_append];show (OV s k||_)=_;have d:Dc (s.call.D (zK s.J).m) s.J=false:=a;split
 .rename_i e;simp[e,d]
 .rename_i e;have:(cK (zK s.J).c==k)=false:=by simpa using λb:cK (zK s.J).c=k=>e b.symm
  simp[this]
theorem O8.call{s:Mz}{ev:List Ev}(h:O8 s ev)(k:Nat)(y:Cm):O8 s.call (ev++[MO k y]):=by
 refine⟨λe a=>?_,?_⟩
 .rcases List.mem_append.1 a with a|a
  .exact h.ok e a
  .rw[List.mem_singleton.1 a];exact .inl ⟨rfl,rfl⟩
 .rw[List.length_append,h.len];show s.J+fA s+1=s.J+1+fA s;omega
theorem QF(s:Mz):fA s<=15:=by have:=List.length_filter_le (λj=>Dc (s.D (zK j).m) j) (List.range zN);rw[List.length_range] at this;have a:zN<=15:=Rz.hN;exact Nat.le_trans this a
end
end
section
open Rz (zn zN zp zK)
def Cb(own:Nat->Nat)(w w':World)(x:Nat):Nat->Nat:=λk=>if w.heap.size<=k/\k<w'.heap.size then x else own k
theorem Ez(own:Nat->Nat)(w w':World)(x k:Nat)(hk:k<w.heap.size):Cb own w w' x k=own k:=by unfold Cb;rw[if_neg BJ]
theorem JZ{own:Nat->Nat}{w w':World}{x:Nat}(h:∀k,own k≠0->k<w.heap.size)(hs:w.heap.size<=w'.heap.size):∀k,Cb own w w' x k≠0->k<w'.heap.size:=by
 intro k a;unfold Cb at a;split at a
 .rename_i h2;exact h2.2
 .have:=h k a;omega
theorem Fv(own:Nat->Nat)(w w':World)(x k:Nat)(h1:w.heap.size<=k)(h2:k<w'.heap.size):Cb own w w' x k=x:=by unfold Cb;rw[if_pos ⟨h1,h2⟩]
def Stepped(w:World)(own:Nat->Nat)(w':World)(own':Nat->Nat):Prop:=(∀k,k<w.heap.size->own' k=own k)/\Mv (λk=>own k≠0) w w'
theorem Stepped.trans{w w1 w2:World}{own own1 own2:Nat->Nat}(h:Stepped w own w1 own1)(h2:Stepped w1 own1 w2 own2):Stepped w own w2 own2:=by
 have c:=h.2.size;refine⟨λk a=>(h2.1 k BJ).trans (h.1 k a),h.2.mv h2.2 λk a=>?_⟩;by_cases b:k<w.heap.size
 .left;rw[h.1 k b] at a;exact a
 .exact .inr BJ
theorem Stepped.bel{w w1 w2:World}{own own1:Nat->Nat}(h:Stepped w own w1 own1)(hb:Below w1.heap.size w1 w2):Stepped w own w2 own1:=⟨h.1,h.2.bel hb⟩
instance {w w1 w2:World}{own own1:Nat->Nat}:Bl w1 w2 (Stepped w own w1 own1) (Stepped w own w2 own1):=⟨λhb h=>Stepped.bel h hb⟩
theorem Stepped.wL{w w':World}(own:Nat->Nat)(hb:Below w.heap.size w w'):Stepped w own w' own:=⟨λ_ _=>rfl,.of_below hb⟩
variable [Rz]
def kJ(own:Nat->Nat)(w:World)(G:Ap)(T:List TypeId):Prop:=∀k,G k->k<w.heap.size->own k≠1\/∃t L,Holds w k t L/\t∈T
section
variable {own:Nat->Nat} {w:World} {G:Ap} {T:List TypeId}
theorem kJ.h(h:kJ own w G T){k:Nat}{t:TypeId}{L:List Value}(hk:Holds w k t L)(h1:own k=1)(ht:t∉T):¬G k:=λc=>by
 rcases h k c hk.lt with a|⟨f,d,a,b⟩
 .exact a h1
 .exact ht (Eu hk a▸b)
theorem kJ.o(h:kJ own w G T){v:Value}{ob:Option Nat}{t:TypeId}{s n:Nat}{xs:List Value}(hk:AV w v ob t s n xs)(h1:∀g,ob=some g->own g=1)(ht:t∉T):∀g,ob=some g->¬G g:=λg a=>by obtain⟨L,b⟩:=IL hk g a;exact h.h b (h1 g a) ht
end
theorem Vo(dv:Nat->Nat->Int)(m:Lz):(FM dv m)[2]?=some (AA m.t):=by unfold FM;split<;>rfl
theorem iJ(dv:Nat->Nat->Int)(m:Lz)(w:World):(Instr.buildSlice 34 1 #[(0,.agg (FM dv m).toArray)]).run prog w=.ok (.slice (Ac w.heap.size) 1 1) (w.alloc (.cells (FM dv m).toArray 47)):=by
 unfold FM;split
 .kernel_rfl
 .kernel_rfl
def EO(dv:Nat->Nat->Int)(l:List Lz):List Value:=flat 51 l.length (FQ dv l)
theorem IJ(dv:Nat->Nat->Int)(a b:List Lz):EO dv a++EO dv b=EO dv (a++b):=by
 unfold EO;rw[List.length_append];refine PH Iz (λ_ _=>Ic ..) (λ_ _=>Ic ..) (λi c=>?_) (λi c=>?_)
 .unfold FQ;rw[List.getD_eq_getElem?_getD,List.getD_eq_getElem?_getD,List.getElem?_append_left c]
 .unfold FQ;rw[List.getD_eq_getElem?_getD,List.getD_eq_getElem?_getD,List.getElem?_append_right BJ,Nat.add_sub_cancel_left]
theorem TC(dv:Nat->Nat->Int)(m:Lz):EO dv [m]=FM dv m:=Ir (V:=FQ dv [m]) (Ic dv m)
theorem TB(dv:Nat->Nat->Int)(l:List Lz):(EO dv l).length=l.length*51:=BQ ..
theorem QZ{lets:List Lz}{k:Nat}(hk:k<lets.length):lets=lets.take k++([lets[k]]++lets.drop (k+1)):=by rw[List.singleton_append,<-List.drop_eq_getElem_cons hk,List.take_append_drop]
theorem Zk(dv:Nat->Nat->Int){lets:List Lz}{k:Nat}(hk:k<lets.length):(EO dv lets).take (k*51)++(EO dv lets).drop ((k+1)*51)=EO dv (lets.eraseIdx k):=by
 have a:(EO dv (lets.take k)).length=k*51:=by rw[TB,List.length_take];omega
 have b:(FM dv lets[k]).length=51:=Ic ..;have e:EO dv lets=EO dv (lets.take k)++(FM dv lets[k]++EO dv (lets.drop (k+1))):=by rw[<-TC,IJ,IJ,<-QZ hk]
 rw[List.eraseIdx_eq_take_drop_succ,<-IJ,e,List.take_append_of_le_length BJ,List.take_of_length_le BJ,<-List.append_assoc,List.drop_append_of_le_length (by rw[List.length_append];omega),List.drop_of_length_le (by rw[List.length_append];omega)]
 rfl
theorem iL(dv:Nat->Nat->Int){lets:List Lz}{k:Nat}(hk:k<lets.length)(j:Nat)(v:Value)(hv:(FM dv lets[k])[j]?=some v)(rest:List Value):(EO dv lets++rest)[k*51+j]?=some v:=by
 have a:(EO dv (lets.take k)).length=k*51:=by rw[TB,List.length_take];omega
 have b:=(List.getElem?_eq_some_iff.1 hv).1;have e:EO dv lets=EO dv (lets.take k)++(FM dv lets[k]++EO dv (lets.drop (k+1))):=by rw[<-TC,IJ,IJ,<-QZ hk]
 rw[e,List.append_assoc,List.getElem?_append_right BJ,a,Nat.add_sub_cancel_left,List.append_assoc,List.getElem?_append_left b];exact hv
structure U6(w:World)(own:Nat->Nat)(gC:Nat)(cm:Nat->Cm)(wt:Nat->Bool)(lets:List Lz)(dv:Nat->Nat->Int)(ev:List Ev)(dvv:Value)(gN cN gCl cCl gCa:Nat)(lv hv:Value)(gs gcl:Nat->Nat):Prop where
 cl:Holds w gC 85 (Dq zn dvv (.slice (Ac gN) zn cN) (.slice (Ac gCl) 8 cCl) (.slice (Ac gCa) 8 8) lv hv)
 ow:own gC=1/\own gN=1/\own gCl=1/\own gCa=1
 np:∃rest,Holds w gN 59 (ptrs zn gs++rest)
 cN:zn<=cN
 cp:∃rest,Holds w gCl 92 (ptrs 8 gcl++rest)
 cs:Eh w gcl (λk=>(cm k).s) cm wt
 clo:∀j,j<8->own (gcl j)=1
 calls:∃CA,Holds w gCa 23 CA/\CA.length=56/\∀k,k<8->∀(j:Nat) v,(cm k).cells[j]?=some v->CA[k*7+j]?=some v
 lts:∃ob,AV w lv ob 47 51 lets.length (EO dv lets)/\∀g,ob=some g->own g=1
 his:∃ob pv pb,Gz w hv ob ev pv pb/\(∀g,ob=some g->own g=1)/\∀i,i<ev.length->∀g,pb i=some g->own g=1
 lt:∀k,own k≠0->k<w.heap.size
def Ej(w:World)(own:Nat->Nat)(s:Mz)(lt:Nat->Int)(tk:Nat->Nat)(wz:Bool)(gs:Nat->Nat)(ol:Nat->List Lz)(al:Nat->List Nat):Prop:=
 ∀i,i<zn->CP w (λk=>own k=2+i) (gs i) i (s.P i) (s.D i) (lt i) (tk i) wz s.dv (ol i) (al i)
def NY(w:World)(own:Nat->Nat)(gC:Nat)(s:Mz)(cm:Nat->Cm)(wt:Nat->Bool)(ev:List Ev)(lt:Nat->Int)(tk:Nat->Nat)(wz:Bool)(ol:Nat->List Lz)(al:Nat->List Nat):Prop:=
 ∃dvv gN cN gCl cCl gCa lv hv gs gcl,U6 w own gC cm wt s.lets s.dv ev dvv gN cN gCl cCl gCa lv hv gs gcl/\Ej w own s lt tk wz gs ol al
def Fg(w:World)(own:Nat->Nat)(gC:Nat)(s:Mz)(ev:List Ev)(lt:Nat->Int)(tk:Nat->Nat)(wz:Bool):Prop:=
 NY w own gC s (λk=>MZ k s.J) (OV s) ev lt tk wz (λ_=>[]) (λ_=>[])
section
variable {w w':World} {own own':Nat->Nat} {gC:Nat} {cm cm':Nat->Cm} {wt wt':Nat->Bool} {lets lets':List Lz} {dv dv':Nat->Nat->Int} {ev ev':List Ev} {dvv:Value} {gN cN gCl cCl gCa:Nat} {lv hv lv' hv':Value} {gs gcl:Nat->Nat} {G:Ap} {T:List TypeId}
theorem U6.yQ(h:U6 w own gC cm wt lets dv ev dvv gN cN gCl cCl gCa lv hv gs gcl)(j:Nat)(hj:j<8):gcl j<w.heap.size:=h.lt _ (by rw[h.clo j hj];decide)
section
theorem U6.qQ(h:U6 w own gC cm wt lets dv ev dvv gN cN gCl cCl gCa lv hv gs gcl)(hm:Mv G w w')(hG:kJ own w G T)(ht:132∉T):Eh w' gcl (λk=>(cm k).s) cm wt:=λk b=>by obtain⟨c,d,a⟩:=h.cs k b;exact⟨c,d,Holds.mv a hm (hG.h a (h.clo k b) ht)⟩
theorem U6.gG(h:U6 w own gC cm wt lets dv ev dvv gN cN gCl cCl gCa lv hv gs gcl)(hm:Mv G w w')(hG:kJ own w G T)(ht:23∉T):∃CA,Holds w' gCa 23 CA/\CA.length=56/\∀k,k<8->∀(j:Nat) v,(cm k).cells[j]?=some v->CA[k*7+j]?=some v:=by obtain⟨CA,a,b⟩:=h.calls;exact⟨CA,a.mv hm (hG.h a h.ow.2.2.2 ht),b⟩
theorem U6.qP(h:U6 w own gC cm wt lets dv ev dvv gN cN gCl cCl gCa lv hv gs gcl)(hm:Mv G w w')(hG:kJ own w G T)(ho:∀k,k<w.heap.size->own' k=own k)(ht:47∉T):∃ob,AV w' lv ob 47 51 lets.length (EO dv lets)/\∀g,ob=some g->own' g=1:=by obtain⟨ob,a,b⟩:=h.lts;exact⟨ob,a.mv hm (hG.o a b ht),λg c=>by rw[ho _ (a.lt g c),b g c]⟩
theorem U6.qO(h:U6 w own gC cm wt lets dv ev dvv gN cN gCl cCl gCa lv hv gs gcl)(hm:Mv G w w')(hG:kJ own w G T)(ho:∀k,k<w.heap.size->own' k=own k)(ht:55∉T)(ht2:69∉T):∃ob pv pb,Gz w' hv ob ev pv pb/\(∀g,ob=some g->own' g=1)/\∀i,i<ev.length->∀g,pb i=some g->own' g=1:=by obtain⟨ob,pv,pb,a,d,f⟩:=h.his;exact⟨ob,pv,pb,a.keep hm (hG.o a.1 d ht) (λi c=>hG.o (a.2 i c) (f i c) ht2),λg b=>by rw[ho _ (AV.lt a.1 g b),d g b],λi c g b=>by rw[ho _ (AV.lt (a.2 i c) g b),f i c g b]⟩
theorem U6.turn(h:U6 w own gC cm wt lets dv ev dvv gN cN gCl cCl gCa lv hv gs gcl)(hm:Mv G w w')(hG:kJ own w G T)(ho:∀k,k<w.heap.size->own' k=own k)(ht:59∉T/\92∉T)(hlt:∀k,own' k≠0->k<w'.heap.size) (hc:Holds w' gC 85 (Dq zn dvv (.slice (Ac gN) zn cN) (.slice (Ac gCl) 8 cCl) (.slice (Ac gCa) 8 8) lv' hv')) (hs:Eh w' gcl (λk=>(cm' k).s) cm' wt') (hca:∃CA,Holds w' gCa 23 CA/\CA.length=56/\∀k,k<8->∀(j:Nat) v,(cm' k).cells[j]?=some v->CA[k*7+j]?=some v) (hl:∃ob,AV w' lv' ob 47 51 lets'.length (EO dv' lets')/\∀g,ob=some g->own' g=1) (hh:∃ob pv pb,Gz w' hv' ob ev' pv pb/\(∀g,ob=some g->own' g=1)/\∀i,i<ev'.length->∀g,pb i=some g->own' g=1) :U6 w' own' gC cm' wt' lets' dv' ev' dvv gN cN gCl cCl gCa lv' hv' gs gcl:=by have p:=h.yQ;obtain⟨l,⟨q,d,f,r⟩,⟨t,a⟩,m,⟨u,b⟩,x,n,⟨CA,o,_⟩,_,_,_⟩:=h;exact⟨hc,⟨by rw[ho _ l.lt,q],by rw[ho _ a.lt,d],by rw[ho _ b.lt,f],by rw[ho _ o.lt,r]⟩,⟨t,a.mv hm (hG.h a d ht.1)⟩,m,⟨u,b.mv hm (hG.h b f ht.2)⟩,hs,λj c=>by rw[ho _ (p j c),n j c],hca,hl,hh,hlt⟩
end
theorem U6.mv(h:U6 w own gC cm wt lets dv ev dvv gN cN gCl cCl gCa lv hv gs gcl)(hm:Mv G w w')(hG:∀k,G k->k<w.heap.size->own k≠1)(ho:∀k,k<w.heap.size->own' k=own k)(hlt:∀k,own' k≠0->k<w'.heap.size):U6 w' own' gC cm wt lets dv ev dvv gN cN gCl cCl gCa lv hv gs gcl:=by have a:kJ own w G []:=λk b c=>.inl (hG k b c);exact h.turn hm a ho Vj hlt (h.cl.mv hm (a.h h.cl h.ow.1 Vj)) (h.qQ hm a Vj) (h.gG hm a Vj) (h.qP hm a ho Vj) (h.qO hm a ho Vj Vj)
theorem CP.mv{F:Ap}{g me:Nat}{p:Nat->Pz}{d:Nat->Int}{lt tk:Int}{wz:Bool}{ol:List Lz}{al:List Nat}(h:CP w F g me p d lt tk wz dv ol al)(hm:Mv G w w')(hG:∀k,G k->k<w.heap.size->¬F k):CP w' F g me p d lt tk wz dv ol al:=EC.mv h hm hG
theorem CP.foot{F F':Ap}{g me:Nat}{p:Nat->Pz}{d:Nat->Int}{lt tk:Int}{wz:Bool}{ol:List Lz}{al:List Nat}(h:CP w F g me p d lt tk wz dv ol al)(hF:∀k,F k->k<w.heap.size->F' k):CP w F' g me p d lt tk wz dv ol al:=EC.foot h hF
variable {s:Mz} {lt:Nat->Int} {tk:Nat->Nat} {wz:Bool} {ol:Nat->List Lz} {al:Nat->List Nat}
theorem Ej.mv(h:Ej w own s lt tk wz gs ol al)(hm:Mv G w w')(hG:∀k,G k->k<w.heap.size->own k<2)(ho:∀k,k<w.heap.size->own' k=own k):Ej w' own' s lt tk wz gs ol al:=λi c=>
 ((h i c).foot (F':=λk=>own' k=2+i) λk b a=>by rw[ho k a];exact b).mv hm λk b a d=>by have:=hG k b a;rw[ho k a] at d;omega
theorem NY.bel(h:NY w own gC s cm wt ev lt tk wz ol al)(hb:Below w.heap.size w w'):NY w' own gC s cm wt ev lt tk wz ol al:=by obtain⟨d,i,c,g,b,f,p,o,l,j,a,m⟩:=h;exact⟨d,i,c,g,b,f,p,o,l,j,a.mv (G:=λ_=>False) (.of_below hb) (λ_ h=>h.elim) (λ_ _=>rfl) (λk n=>Nat.lt_of_lt_of_le (a.lt k n) hb.size),m.mv (G:=λ_=>False) (.of_below hb) (λ_ h=>h.elim) (λ_ _=>rfl)⟩
instance:Bl w w' (NY w own gC s cm wt ev lt tk wz ol al) (NY w' own gC s cm wt ev lt tk wz ol al):=⟨λhb h=>NY.bel h hb⟩
theorem NY.lt'(h:NY w own gC s cm wt ev lt tk wz ol al):∀k,own k≠0->k<w.heap.size:=by obtain⟨d,i,c,g,b,f,o,n,l,j,a,m⟩:=h;exact a.lt
theorem Ej.step{s':Mz}{lt':Nat->Int}{tk':Nat->Nat}{t:Nat}{l:List Lz}{a:List Nat}(h:Ej w own s lt tk wz gs (λ_=>[]) (λ_=>[]))(hol:∀k,own k≠0->k<w.heap.size)(hm:Mv (λk=>own k=2+t) w w') (hn:CP w' (grow (λk=>own k=2+t) w w') (gs t) t (s'.P t) (s'.D t) (lt' t) (tk' t) wz s'.dv l a) (hP:∀j,j≠t->s'.P j=s.P j/\s'.D j=s.D j/\lt' j=lt j/\tk' j=tk j) :Ej w' (Cb own w w' (2+t)) s' lt' tk' wz gs (λj=>if j=t then l else []) (λj=>if j=t then a else []):=λj p=>by
 have c:∀k,k<w.heap.size->Cb own w w' (2+t) k=own k:=λk b=>Ez _ _ _ _ _ b;by_cases e:j=t
 .subst e;simp only[if_true];exact hn.foot λk b q=>by
   rcases b with b|⟨m,n⟩
   .rw[c k (hol k BJ)];exact b
   .exact Fv _ _ _ _ _ m n
 .simp only[if_neg e];obtain⟨d,f,g,i⟩:=hP j e;rw[d,f,g,i];have o:=((h j p).mv hm λk b _ r=>BJ).MH (p':=s.P j) (dv':=s'.dv);exact o.foot λk b q=>by rw[c k (hol k BJ)];exact b
end
end
end Go.Proofs.YtimdpiifpibgfaaGreatDoor
