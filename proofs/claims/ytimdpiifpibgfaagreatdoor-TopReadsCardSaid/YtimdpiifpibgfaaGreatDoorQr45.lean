/- A part of the proof of TopReads. -/
import Derived.Test.YtimdpiifpibgfaaGreatDoorQr41
set_option linter.all false
set_option maxRecDepth 20000
set_option maxHeartbeats 16000000
open Go.RowKit Go.Maps
namespace Go.Proofs.YtimdpiifpibgfaaGreatDoor
open Tryz
section
instance W0:CO:=⟨none,0,0⟩
variable [In]
theorem Mv.Zx{w W:World}{F:Ap}{g b:Nat}(h:EF g b w W)(hg:F g)(hb:F b):Mv F w W:=⟨h.os,h.tape,h.output,h.size,λk c a=>h.block k c (λe=>a (e▸hg)) (λe=>a (e▸hb))⟩
theorem YR(n:Nat)(w:World)(hn:n=3\/n=5\/n=7):Calls prog 60 #[AA n] w λe w'=>e=.returned (.bool true)/\Below w.heap.size w w':=by
 rcases hn with rfl|rfl|rfl;all_goals
  go_in;go_wp2_with fail;go_ret;exact⟨rfl,Below.refl _ _⟩
theorem Xm(g b:Nat)(w:World)(h:DV w g b 0 (λ_=>0) []) :Calls prog 118 #[AP g,.agg #[AA 0,AA 0,AA 0,AA 0,AA 0,AA 0,AA 0]] w λe w'=>e=.returned (.tuple #[])/\DV w' g b 0 (λ_=>0) []/\EF g b w w':=by
 refine Ah (prune_any g b 0 (λ_=>0) (λ_=>0) [] w h) ?_;rintro w' ⟨a,c⟩;have d:Hu (λ_=>0) (λ_=>0)=λ_=>0:=by
  funext t
  rfl
 rw[d] at a;exact⟨rfl,a,c⟩
theorem dU(n me:Nat)(w:World)(hn:n=3\/n=5\/n=7)(hme:me<n) :Calls prog 65 #[AA n,AA me,.agg #[AA 0,AA 0,AA 0,AA 0,AA 0,AA 0,AA 0],AL] w λe w'=>∃gc gl gm gi gx,e=.returned (.tuple #[AP gc,AA 0])/\BB w' gc n me gl gm 0 gi gx 0 [] [] AL AL AL/\(w.heap.size<=gc/\w.heap.size<=gl/\w.heap.size<=gm/\w.heap.size<=gi/\w.heap.size<=gx)/\Below w.heap.size w w':=by
 obtain⟨S,R,U,T,V⟩:=dD (λW=>YR n W hn) EJ iO new_any Xm;have h1:(me:Int)<n:=BJ
 have h2:¬(me:Int)<0:=BJ
 have h3:¬(n:Int)<=me:=BJ
 go_in;go_upto_region 1 with(fail);go_name_world W H;obtain⟨b,I,aa⟩:=GI 41 ([AA 0,AA 0,AA 0,AA 0,AA 0,AA 0,AA 0]) H;clear H;have a:=qh (Base.start w);have a:=D9 I a;clear I aa;generalize X:w.heap.size=B at b a |-;go_wp2_with fail;refine Ah (S.o _) ?_;rintro w1 c;obtain⟨b,a⟩:=Ce c b a;clear c;obtain⟨s,t,u,x,y,z,A⟩:=Gl b.o 0 1 2 3 4 5 6;go_wp2_with fail;refine Ah (R.o _) ?_;rintro w2 c;obtain⟨b,a⟩:=Ce c b a;clear c s t u x y z A;obtain⟨s,t,u,x,y,z,A⟩:=Gl b.o 0 1 2 3 4 5 6;go_wp2_with fail;refine(U.o _).mono ?_;rintro e i ⟨gl,gm,rfl,r,ae,af,c⟩;have ac:=b.lt;have f:=qh r;obtain⟨b,a⟩:=Ce c b a;have Y:B<=gl/\B<=gm/\gl<i.heap.size/\gm<i.heap.size:=by have:=b.lt;have:=c.size;have h5:=a.below.size;have h6:=r.lt;omega
 clear c r s t u x y z A;go_wp2_with fail;refine Ah (T.o _) ?_;rintro g ⟨M,c⟩;have d:=qh M;obtain⟨b,a,f⟩:=D5 c b a f;have L:B<i.heap.size+1/\gl≠i.heap.size/\gl≠i.heap.size+1/\gm≠i.heap.size/\gm≠i.heap.size+1/\i.heap.size+1<g.heap.size:=by have:=d.lt;omega
 clear c M;generalize ad:i.heap.size+1=gi at d L |-;generalize ag:i.heap.size=gx at d L Y |-;go_upto_region 4 with(fail);have p:Below g.heap.size g (g.alloc (.cells #[AA n,AA me,AP gl,AP gi,AL,AL,AL,AL] 163)):=(Below.refl _ _).alloc Ve _;have h:=qh (AC g 163 [AA n,AA me,AP gl,AP gi,AL,AL,AL,AL]);obtain⟨b,a,f,d⟩:=En p b a f d;have Z:g.heap.size≠gl/\g.heap.size≠gm/\g.heap.size≠gi/\g.heap.size≠gx/\B<=g.heap.size:=by have:=p.size;omega
 clear p;generalize g.alloc (.cells #[AA n,AA me,AP gl,AP gi,AL,AL,AL,AL] 163)=P at b a f d h |-;generalize g.heap.size=gc at h Z |-;have ab:B<=gi/\B<=gx:=BJ
 obtain⟨h,f,d,b,a⟩:=Gj (AY _ P) h f d b a;refine Ed [5] 6 (λhSn=>?_);generalize P.drew=wd at h f d b a hSn |-;simp only[List.replicate];refine ES 0 ?_;refine BO 3 [5] (λw m=>Am (h.bel m) 3) ?_;refine BO 4 [5] (λw m=>Gl (b.bel m) 0 1 2 3 4 5 6) ?_;refine BN 5 rfl (λK G=>?_);go_simp;refine Ah (V.o _ _ _ (d.bel hSn)) ?_;rintro w6 ⟨N,O⟩;have j:Mv (λk=>k=gi\/k=gx) _ w6:=Mv.Zx O (.inl rfl) (.inr rfl);obtain⟨E,D⟩:=WZ N ((h.bel hSn).mv j BJ);have l:=f.bel hSn;have F:=qh (l.keep (j.block _ l.lt.1 BJ) (j.block _ l.lt.2 BJ));have q:=(a.bel hSn).below;have C:=qh (q.trans (j.below (B:=B) (by have:=q.size;omega) (λk hk=>BJ)));clear N O j l q;refine BR G ?_;clear G;refine BA ?_;clear hSn h f d b a;obtain⟨f,d,h,a⟩:=bY F.o E.o D.o C.o;clear F E D C;go_wp2_with fail;go_loopw [49] (λvi wr=>vi=AA 0/\BB wr gc n me gl gm 0 gi gx 0 [] [] AL AL AL/\Below B w wr) (λ_ _=>0);case atStart=>exact⟨rfl,⟨h.o,f.o,d.o,BJ⟩,a.o⟩
 case round=>clear f d h a;obtain⟨rfl,J,c⟩:=hrel;obtain⟨Q,a⟩:=WZ J c;clear J c;go_wp2_with fail;refine b2 (v:=.tuple #[AP gc,AA 0]) ?_;exact⟨gc,gl,gm,gi,gx,rfl,Q.o,BJ,by rw[X];exact a.o⟩
end
section
variable [In]
section
variable {P:Program} {ops:Array Oper} {Q:Exit->Act->World->Prop}
theorem Ru{rest:List Oper}{o:Oper}{a:Act}{w:World}(hw:Region.wanted o (yielded ops a.tmps)=true)(t:TypeId)(i j k:Nat)(q r s:Tmp)(ho:o.op=.build t #[(i,.tmp q),(j,.tmp r),(k,.tmp s)])(u v x:Value)(hu:a.eval (.tmp q)=u)(hv:a.eval (.tmp r)=v)(hx:a.eval (.tmp s)=x) (z:Value) (hr:∀w,(Instr.build t #[(i,u),(j,v),(k,x)]).run P w=.ok z w) (h:wpList P ops Q rest (a.put o.dst z) w):wpList P ops Q (o :: rest) a w:=
 wpList_step λK b=>by rw[if_pos hw];unfold Oper.wp execOp;simp only[ho,List.map_toArray,List.map_cons,List.map_nil,hu,hv,hx];rw[Sem.run_bind,hr];exact b _ _ h
end
theorem Za{w:World}{t:TypeId}{L:List Value}{A:Array Value}(h:A=L.toArray):Holds (w.alloc (.cells A t)) w.heap.size t L:=h▸AC w t L
theorem ZV(n me:Nat)(w:World)(hn:n=3\/n=5\/n=7)(hme:me<n) :Calls prog 61 #[AA n,AA me] w λe w'=>∃g,e=.returned (.tuple #[AP g,AA 0])/\A8 w' g 197 n me (λ_ _=>0)/\w.heap.size<=g/\Below w.heap.size w w':=by
 rcases hn with rfl|rfl|rfl;all_goals
  have d:(me:Int)<7:=BJ
  have a:me<3->(me:Int)<3:=BJ
  have b:me<5->(me:Int)<5:=BJ
  have c:¬((me:Int)<0):=BJ
  try have f:=a hme
  try have h:=b hme
  clear a b hme;go_in;go_wp2_with fail;refine b2 (v:=.tuple #[AP w.heap.size,AA 0]) ?_;exact⟨w.heap.size,rfl,⟨Za ND,Iz⟩,Ve,by go_grown⟩
theorem Zm(g n me gd:Nat)(V:List Value)(w:World)(nd:Holds w g 102 V)(hV:V[2]?=some (AP gd))(dk:F7 w gd) :Calls prog 62 #[AP g] w λe w'=>e=.returned (AA 0)/\Below w.heap.size w w':=by obtain⟨i,c,b,a⟩:=bY (λs W (h:F7 W gd)=>wP gd s W h) nd (show Holds w gd 125 _ from dk) (Base.start w);clear nd dk;go_in;have f:=c.cell 2;rw[hV] at f;go_wp2_with fail;refine Ah (i.o _ _ b.o) ?_;rintro j d;obtain⟨c,b,a⟩:=D5 d c b a;clear d f;have f:=c.cell 2;rw[hV] at f;go_wp2_with fail;refine Ah (i.o _ _ b.o) ?_;rintro k d;have a:=D9 d a;clear d f c b;go_wp2_with fail;go_ret;exact⟨rfl,a.below⟩
def TG(n me:Nat)(dv wv cv fv:Value):List Value:=
 [AA n,AA me,dv,wv,cv,fv,AL,
  AA 0,AA 0,.bool false,AU,AA 0,AL,AA 0,AA 0,.bool false,AU,AA 0,AL,AA 0,AA 0,.bool false,AU,AA 0,AL,AA 0,AA 0,.bool false,AU,AA 0,AL,AA 0,AA 0,.bool false,AU,AA 0,AL,AA 0,AA 0,.bool false,AU,AA 0,AL,AA 0,AA 0,.bool false,AU,AA 0,AL,AA 0,AA 0,.bool false,AU,AA 0,AL,
  AA 0,AA 0,AA 0,AA 0,AA 0,AA 0,AA 0,AA 0,AA 0,AA 0,AA 0,AA 0,AA 0,AA 0,
  AA 0,AA 0,AL,AL,AL,.bool false]
theorem wI(n me gd:Nat):∀W:World,(Instr.build 102 #[(0,AA n),(1,AA me),(2,AP gd)]).run prog W=.ok (.agg (TG n me (AP gd) (.pointer none) (.pointer none) (.pointer none)).toArray) W:=λ_=>ND
theorem sV(n me:Nat):FrontP.heard (λ_ _=>0) n me (λ_=>0)=λ_ _=>0:=by
 unfold FrontP.heard;split
 .funext q i
  simp only[FrontP.hear,FrontP.Hr];split
  .rfl
  .rfl
 .rfl
theorem vg(g n me:Nat)(w:World)(h:A8 w g 197 n me (λ_ _=>0)) :Calls prog 69 #[AP g,AA me,.agg #[AA 0,AA 0,AA 0,AA 0,AA 0,AA 0,AA 0]] w λe w'=>e=.returned (.bool (FrontP.takes n me λ_=>0))/\A8 w' g 197 n me (λ_ _=>0)/\Touch g w w':=by have:=QO g n me me (λ_ _=>0) (λ_=>0) w h;rw[sV] at this;exact this
def Made(n me gd:Nat)(w:World)(g:Nat)(W:World):Prop:=∃gw gfr gc gl gm gi gx fs of sg mb,Holds W g 102 (Ar n me gd gw gc gfr AL (λ_=>Ow.zero) (λ_=>AL) (λ_=>0) (λ_=>0) 0 0 AL AL AL) /\
 BP W gd fs of sg/\BV [] sg 1 mb/\mb<=200/\Holds W gw 208 (IC gd 1 1)/\BB W gc n me gl gm 0 gi gx 0 [] [] AL AL AL/\A8 W gfr 197 n me (λ_ _=>0) /\
 (w.heap.size<=g/\w.heap.size<=gw/\w.heap.size<=gfr/\w.heap.size<=gc/\w.heap.size<=gl/\w.heap.size<=gm/\w.heap.size<=gi/\w.heap.size<=gx)/\((∀g,of=some g->w.heap.size<=g)/\∀x∈sg,∀g,x.ob=some g->w.heap.size<=g)/\Mv (λk=>k=gd) w W
theorem yC(n me gd:Nat)(R3:Nat->World->Prop)(w:World)(hn:n=3\/n=5\/n=7)(hme:me<n)(hd:F7 w gd) (KS:∀g W,Made n me gd w g W->Calls prog 53 #[AP g] W λe w'=>e=.returned (.tuple #[])/\R3 g w') :Calls prog 45 #[AA n,AA me,AP gd] w λe w'=>∃g,e=.returned (.tuple #[AP g,AA 0])/\R3 g w':=by
 obtain⟨KF,ah,ai,KO,KC,ag,aj,U⟩:=ed (λW=>YR n W hn) (λW=>ZV n me W hn hme) (λg V hV W nd dk=>Zm g n me gd V W nd hV dk) (λW (h:F7 W gd)=>wM gd W h) (λW=>dU n me W hn hme) rZ (λgw W (h:Holds W gw 208 (IC gd 0 0))=>uj gw gd 0 0 W h) (λgw t c m r bd W C h p hr H h1 h2=>uw gw gd t c m r bd W C h p hr H h1 h2);obtain⟨X,KS⟩:=WZ (λgfr W h=>vg gfr n me W h) KS;have hB:=wI n me gd;have bk:(me:Int)<(n:Int):=BJ
 have bj:¬((me:Int)<0):=BJ
 obtain⟨d,b⟩:=WZ (show Holds w gd 125 _ from hd) (Base.start w);have a8:=(show Holds w gd 125 _ from hd).lt;clear hd hn;go_in;generalize a4:w.heap.size=B at b a8 |-;go_wp2_with fail;refine Ah (KF.o _) ?_;rintro w1 j;obtain⟨d,b⟩:=Ce j d b;clear j KF;go_upto_region 4 with(first|(with_reducible show wpList _ _ _ (_ :: _) _ _;refine Ru ND 102 0 1 2 _ _ _ rfl (AA n) (AA me) (AP gd) rfl rfl rfl (.agg (TG n me (AP gd) (.pointer none) (.pointer none) (.pointer none)).toArray) hB ?_));go_name_world W J;have J:Bo w1 [.cells (TG n me (AP gd) (.pointer none) (.pointer none) (.pointer none):List Value).toArray 102]=W:=J;have a:=qh (show Holds W (w1.heap.size) 102 (TG n me (AP gd) (.pointer none) (.pointer none) (.pointer none)) from Ae _ J 0 rfl);have ak:=Aq _ J;clear J;have Y:B<=w1.heap.size:=b.le;obtain⟨d,b⟩:=Ce ak d b;clear ak;generalize w1.heap.size=g at a Y |-;go_wp2_with fail;refine(ah.o _).mono ?_;rintro e w2 ⟨gfr,rfl,G,aq,j⟩;have bg:=Nat.le_trans b.le aq;have H:g≠gfr:=by have:=a.lt;omega
 have ay:=G.n7;have f:=qh G.h;obtain⟨d,b,a⟩:=D5 j d b a;clear j G aq ah;go_upto_region 5 with(first|(refine sC 5 a.o (AP gfr) ?_;intro w3 au ab));have a:=qh (show Holds w3 g 102 (TG n me (AP gd) (.pointer none) (.pointer none) (AP gfr)) from au);have Z:g≠gd:=BJ
 obtain⟨d,f,b⟩:=bP (d.touch ab (Ne.symm Z)) (f.touch ab (Ne.symm H)) (b.touch ab Y);clear au ab;go_wp2_with fail;refine Ah (ai.o g _ rfl _ a.o d.o) ?_;rintro w4 j;obtain⟨d,b,a,f⟩:=En j d b a f;clear j ai;go_wp2_with fail;refine(KO.o _ d.o).mono ?_;rintro e w5 ⟨gw,rfl,C,ar,j⟩;have bh:=Nat.le_trans b.le ar;have aa:g≠gw/\gw≠gd:=by have:=a.lt;omega
 have ap:gfr≠gw:=by have:=f.lt;omega
 obtain⟨d,b,a,f⟩:=En j d b a f;have i:=qh C;clear j C ar KO;go_upto_region 12 with(first|(refine sC 3 a.o (AP gw) ?_;intro D av R));obtain⟨a,d,f,i,b⟩:=dD (show Holds D g 102 (TG n me (AP gd) (AP gw) (.pointer none) (AP gfr)) from av) (d.touch R (Ne.symm Z)) (f.touch R (Ne.symm H)) (i.touch R (Ne.symm aa.1)) (b.touch R Y);clear av R;go_upto_region 13 with(fail);go_name_world W7 L;have L:Bo D [.cells (CJ:List Value).toArray 41]=W7:=L;have q:=qh (show Holds W7 (D.heap.size) 41 CJ from Ae _ L 0 rfl);have al:=Aq _ L;clear L;have a9:gd≠D.heap.size:=by have:=d.lt;omega
 have ba:gw≠D.heap.size:=by have:=i.lt;omega
 have a3:D.heap.size≠g:=by have:=a.lt;omega
 obtain⟨d,b,a,f,i⟩:=Gj al d b a f i;clear al;generalize D.heap.size=gz at q a9 ba a3 |-;go_wp2_with fail;go_loopw [72,14] (λvi be wr=>vi=AA 0/\be=AL/\W7=wr) (λ_ _ _=>0);case atStart=>exact⟨rfl,rfl,rfl⟩
 case round=>
 obtain⟨rfl,rfl,rfl⟩:=hrel;obtain⟨z0,z1,z2,z3,z4,z5,z6⟩:=Gl q.o 0 1 2 3 4 5 6;go_wp2_with fail;refine(KC.o _).mono ?_;rintro e w8 ⟨s,t,F,E,gx,rfl,am,a6,j⟩;have bm:=b.le;have P:g≠s/\g≠t/\g≠F/\g≠E/\g≠gx:=by have:=a.lt;omega
 have O:s≠gw/\t≠gw/\F≠gw/\E≠gw/\gx≠gw:=by have:=i.lt;omega
 have M:s≠gd/\t≠gd/\F≠gd/\E≠gd/\gx≠gd:=by have:=d.lt;omega
 have N:s≠gfr/\t≠gfr/\F≠gfr/\E≠gfr/\gx≠gfr:=by have:=f.lt;omega
 have bf:B<=s/\B<=t/\B<=F/\B<=E/\B<=gx:=BJ
 obtain⟨d,b,a,f,i,q⟩:=Ef j d b a f i q;have l:=qh am;clear j am a6 KC z0 z1 z2 z3 z4 z5 z6;go_upto_region 26 with(first|(refine sC 4 a.o (AP s) ?_;intro w9 aw A));obtain⟨a,d,f,i,q⟩:=dD (show Holds w9 g 102 (Ar n me gd gw s gfr AL (λ_=>Ow.zero) (λ_=>AL) (λ_=>0) (λ_=>0) 0 0 AL AL AL) from aw) (d.touch A (Ne.symm Z)) (f.touch A (Ne.symm H)) (i.touch A (Ne.symm aa.1)) (q.touch A a3);have ax:Mv (λk=>k=g) w8 w9:=Mv.AZ A rfl;obtain⟨l,b⟩:=WZ (l.mv ax (Ne.symm P.1) (Ne.symm P.2.1) (Ne.symm P.2.2.1) (Ne.symm P.2.2.2.1) (Ne.symm P.2.2.2.2)) (b.touch A Y);clear aw A ax;go_wp2_with fail;refine Ah (aj.o gw _ i.o) ?_;rintro bn j;obtain⟨d,b,a,f,i,q⟩:=Ef j d b a f i q;have l:=D9 j l;clear j aj;obtain⟨z0,z1,z2,z3,z4,z5,z6⟩:=Gl q.o 0 1 2 3 4 5 6;go_wp2_with fail;refine(ag.o _).mono ?_;rintro e ae ⟨v',m',rfl,bb,ho,j⟩;obtain⟨d,b,a,f,i,l⟩:=Ef j d b a f i l;have T:=qh ho.ET;obtain⟨pv,cv,rfl⟩:=ho.shape;clear j ho ag z0 z1 z2 z3 z4 z5 z6 q;go_wp2_with fail;have ad:=(Below.refl ae.heap.size ae).alloc Ve (.cells #[.slice pv m' cv] 127);have HG:=qh (AC ae 127 [.slice pv m' cv]);obtain⟨d,b,a,f,i,l⟩:=Ef ad d b a f i l;have T:=D9 ad T;have U:=qh (U.o gw _ 1 m' (.slice pv m' cv) [] _ i.o d.o HG.o T.o aa.2 bb.1 BJ);have ao:gfr≠gd:=BJ
 refine U.mono ?_;rintro e af ⟨rfl,fs,of,sg,nb,an,hL,bl,a1,az,C,Q⟩;have bi:=b.le;obtain⟨z,a,y,l⟩:=bY (show Mv (λk=>k=gd) w af from(Mv.of_below (a4▸b.below)).mv Q (λk hk=>hk.elim .inl (λh=>.inr BJ))) (a.mv Q (λh=>h.elim Z aa.1)) (f.mv Q (λh=>h.elim ao ap)) (l.mv Q (λh=>h.elim M.1 O.1) (λh=>h.elim M.2.1 O.2.1) (λh=>h.elim M.2.2.1 O.2.2.1) (λh=>h.elim M.2.2.2.1 O.2.2.2.1) (λh=>h.elim M.2.2.2.2 O.2.2.2.2));have a2:∀g,of=some g->g≠gfr/\w.heap.size<=g:=λg p=>by have:=a1 g p;have:=f.lt;omega
 have a0:∀x∈sg,∀g,x.ob=some g->g≠gfr/\w.heap.size<=g:=λx S g p=>by have:=az x S g p;have:=f.lt;omega
 obtain⟨HL,i,u⟩:=bP hL C an;have a7:gd≠gfr:=Ne.symm ao;have bc:gw≠gfr:=Ne.symm ap;have a5:w.heap.size<=gfr:=BJ
 have X:=qh (X.o gfr);clear U an C Q hL a1 az d f T HG b ad;go_upto_region 31 with(fail);obtain⟨a,y,z,u,i,l⟩:=Ef (AY _ af) a y z u i l;refine Ed [9] 10 (λhSn=>?_);generalize af.drew=wd at a y z u i l hSn |-;simp only[List.replicate];refine ES 0 ?_;refine BO 3 [9] (λw ac=>Am (a.bel ac) 5) ?_;refine J9 4 ?_;refine BO 8 [9] (λw ac=>Gl (a.bel ac) 62 63 64 65 66 67 68) ?_;refine BN 9 rfl (λK hK=>?_);go_simp;refine Ah (X.o _ (A8.mk (y.bel hSn) ay)) ?_;rintro w11 ⟨G,ht⟩;have I:Mv (λk=>k=gfr) _ w11:=Mv.AZ ht rfl;obtain⟨a,y,z,u,i,l⟩:=mG ((a.bel hSn).mv I H) G.h ((z.bel hSn).mv I (λk hk=>.inr (hk▸a5))) ((u.o.bel hSn).mv I a7 (λg p e=>(a2 g p).1 e) (λx S g p e=>(a0 x S g p).1 e)) ((i.bel hSn).mv I bc) ((l.bel hSn).mv I N.1 N.2.1 N.2.2.1 N.2.2.2.1 N.2.2.2.2);clear G ht I;refine BR hK ?_;clear hK;refine BA ?_;clear hSn X;go_wp2_with fail;refine Ah (KS.o g _ ⟨gw,gfr,s,t,F,E,gx,fs,of,sg,nb,a.o,u.o,HL.o,BJ,i.o,l.o,A8.mk y.o ay,BJ,⟨λg p=>(a2 g p).2,λx S g p=>(a0 x S g p).2⟩,z.o⟩) ?_;rintro bo h3;have H3:=qh h3;clear h3 KS a u i l y z;go_wp2_with fail;refine b2 (v:=.tuple #[AP g,AA 0]) ?_;exact⟨g,rfl,H3.o⟩
end
def Lc(S:St)(w:World)(e:Ending)(w':World):Prop:=∃v ob pv pb,e=.returned (.agg (Gx v S.ow pv).toArray)/\Ad w' v ob S.ps/\OwnAt w' S.ow pv pb/\(∀g,ob=some g->w.heap.size<=g)/\(∀i,i<8->∀g,pb i=some g->w.heap.size<=g)/\Below w.heap.size w w'
theorem uD(g n me gd gw gc gfr:Nat)(S:St)(P:Value)(ob:Option Nat)(pv:Nat->Value)(pb:Nat->Option Nat)(d kp:Nat->Int)(since tk:Int)(waits out ans:Value)(w:World) (h:Holds w g 102 (Ar n me gd gw gc gfr P S.ow pv d kp since tk waits out ans)) (hp:Ad w P ob S.ps) (ho:OwnAt w S.ow pv pb) (hS:S.Ok) :Calls prog 19 #[AP g] w (Lc S w):=by obtain⟨G,p,r,q⟩:=bY (λW h h2=>(xE S P ob pv pb W h h2 hS).mono λe m (h:U8 S W e m)=>h) h hp ho;obtain⟨Y,V,H,rfl⟩:=hp.CZ;generalize J:Lc S w=Q;have D:=qh (show ∀e m,Lc S w e m->Q e m from λe m h=>J▸h);clear h hp ho hS J;go_in;go_upto_region 1 with(fail);go_name_world W K;obtain⟨c,M,ad⟩:=GI 66 (Gx AL (λ_=>Ow.zero) (λ_=>AL)) K;clear K;have a:=qh (Base.start w);obtain⟨a,p,r,q⟩:=En M a p r q;clear M ad;generalize v:w.heap.size=gz at c a D |-;have E:=qh (p.CB 6 (cs:=Gx (.slice Y V H) S.ow pv) (Ou n me gd gw gc gfr (.slice Y V H) S.ow pv d kp since tk waits out ans));go_wp2_with (first|(refine lM 6 E.o ?_));refine(G.o _ r.o q.o).mono ?_;rintro e C ⟨v1,z,B,A,rfl,l,s,R,U,L⟩;have N:=a.le;obtain⟨Z,X,I,rfl⟩:=l.CZ;have T:=NP (o:=S.ow) l.CZ s.sl;obtain⟨a,c⟩:=Ce L a c;obtain⟨u,t⟩:=WZ l s;have ab:∀k,z=some k->gz<=k:=λk b=>Nat.le_trans N (R k b);have ac:∀i,i<8->∀k,A i=some k->gz<=k:=λi j k b=>Nat.le_trans N (U i j k b);have af:∀k,z=some k->k≠gz:=AV.ne_of l c.o Iz;have ag:∀i,i<8->∀k,A i=some k->k≠gz:=λi j=>AV.ne_of (s i j) c.o Iz;clear L E p r q G l s R U;go_wp2_with (first|(refine sW (Gx (.slice Z X I) S.ow B) (AC C _ (Gx AL (λ_=>Ow.zero) (λ_=>AL))) ?_ T;intro w2 aa ae;have F:=qh aa.Af;have f:Below C.heap.size C w2:=Below.trans ((Below.refl _ _).alloc Ve _) (ae.below Ve Vj))|(refine lM 0 F.o ?_)|(refine sW (Gx (.slice Z X I) S.ow B) (c.bel f) ?_ T;intro w3 O y));have a:=qh ((a.bel f).touch y Ve);have x:Mv (λk=>k=gz) w2 w3:=Mv.AZ y rfl;obtain⟨u,t,HR⟩:=bP ((u.bel f).mv x (λk b e=>af k b e)) ((t.bel f).mv x (λi j k b e=>ag i j k b e)) O.Af;clear O y F f x;refine bC HR.o ?_;exact D.o _ _ ⟨_,z,B,A,rfl,u.o,t.o,v▸ab,v▸ac,v▸a.below⟩
section
open Rz (zn zN zp zK)
variable [Rz]
theorem xh{j:Nat}(hj:j<zN):Dc (λ_=>0) j=false:=by
 cases h:Dc (λ_=>0) j with
 | false=>rfl
 | true=>
  rw[Vh] at h;have:=Tc hj;omega
theorem ps0{D:Nat->Bool}:∀J,(∀j,j<J->D j=false)->psT D J=[]
 | 0,_=>rfl
 | J+1,h=>by
  show (if D J then _ else _)=_;rw[h J (Nat.lt_succ_self _),ps0 J λj hj=>h j BJ]
  rfl
theorem st0:MC (Dc λ_=>0)=⟨[],λ_=>Ow.zero⟩:=by
 unfold MC;rw[ps0 zN λj a=>xh a]
 congr 1
 funext i
 exact Vw zN λj a _=>xh a
theorem xG(d:Nat->Int)(me:Nat):CQ (λ_=>.fresh) d me=[]:=by unfold CQ;rw[List.filter_eq_nil_iff];intro j _;simp[Jm]
theorem ok0:Ko (λ_=>.fresh) λ_=>0:=.zero λ_ _=>rfl
theorem yF(d:Nat->Int):Ij (λ_=>.fresh) d:=λj _ a=>by cases a
theorem jA(w:World)(me gd:Nat)(dv:Nat->Nat->Int)(hd:F7 w gd)(hme:me<zn) :Calls prog 45 #[AA zn,AA me,AP gd] w λe w'=>∃g,e=.returned (.tuple #[AP g,AA 0])/\CP w' (grow (λk=>k=gd) w w') g me (λ_=>.fresh) (λ_=>0) 0 0 false dv [] []/\Mv (λk=>k=gd) w w':=by
 letI:In:=I0
 refine yC zn me gd (λg w'=>CP w' (grow (λk=>k=gd) w w') g me (λ_=>.fresh) (λ_=>0) 0 0 false dv [] []/\Mv (λk=>k=gd) w w') w Rz.n7 hme hd (λg W O=>?_);obtain⟨M,s,I,K,L,J,N,H,T,U,S,o,m,t,V,p,q,r,⟨u,y,z,B,C,D,E,F⟩,⟨G,v⟩,R⟩:=O;have l:=q.lt;refine I9 w W (λk=>k=gd) g me _ _ 0 0 false dv [] hme ?_ R ok0 (yF _) (.inr λ_ _ _=>rfl);refine⟨gd,S,M,I,s,AL,(λ_=>AL),0,λ_=>0,AL,AL,AL,by rw[st0];exact o,⟨H,T,[],U,1,m,t,Nat.le_refl 1,p,.inl rfl,.inr ⟨y,p.lt⟩,λg c=>.inr ⟨G g c,AV.lt m.f g c⟩,λx d g c=>.inr ⟨v x d g c,(m.b x d).lt g c⟩⟩,BJ,
  ⟨W0,K,L,0,J,N,0,[],[],AL,none,[],[],q,Nat.zero_le _,Nat.zero_le _,Nat.zero_le _,⟨.inr ⟨B,l.1⟩,.inr ⟨C,l.2.1⟩,.inr ⟨D,l.2.2.1⟩,.inr ⟨E,l.2.2.2.1⟩,.inr ⟨F,l.2.2.2.2⟩⟩,λe=>⟨λh=>(by cases h),λ⟨j,_,h⟩=>(by cases h)⟩,λe=>⟨λh=>(by cases h),λ⟨j,_,h,_⟩=>(by cases h)⟩,⟨Bc.nil _,λg c=>(by cases c),λx d=>(by cases d),λj A _ h=>(by cases h),List.Pairwise.nil,List.Pairwise.nil⟩,⟨⟨none,AV.nil _ _ _,λg c=>(by cases c)⟩,λx d=>(by cases d),Nat.zero_le _⟩,λ_=>⟨rfl,rfl,rfl⟩⟩,
  ?_,?_,?_,Fh.nil0 _ _ _,⟨λ_=>rfl,none,[],⟨AV.nil _ _ _,λa n=>(by cases n)⟩,rfl,λk Q=>(by cases Q),λa n=>(by cases n)⟩,⟨.inr ⟨u,o.lt⟩,.inr ⟨z,r.lt⟩⟩,⟨Iz,λ_=>⟨Int.le_refl _,Int.le_refl _⟩,.inr ⟨λ_=>rfl,Int.natCast_nonneg _⟩⟩,λ_=>Iz⟩
 .show A8 W s _ zn me (NZ me λ_=>0);rw[fF];exact r
 .rw[st0];exact⟨none,λ_=>none,Ad.nil _,λi P=>Ad.nil _,λg c=>(by cases c),λi P g c=>(by cases c)⟩
 .rw[xG];exact⟨none,AV.nil _ _ _,λg c=>(by cases c)⟩
theorem Xj(w:World)(F:Ap)(g me:Nat)(p:Nat->Pz)(d:Nat->Int)(lt tk:Int)(wz:Bool)(dv:Nat->Nat->Int)(ol:List Lz)(al:List Nat)(h:CP w F g me p d lt tk wz dv ol al) :Calls prog 19 #[AP g] w (Lc (MC (Dc d)) w):=by
 obtain⟨c,t,i,b,f,P,q,r,l,s,n,a,h⟩:=h
 letI:In:=I0
 obtain⟨m,o,j,k,_⟩:=h.st;exact uD g zn me c i b f (MC (Dc d)) P m q o d l r tk s n a w h.nd j k ((OT _).ok BJ)
end
end Go.Proofs.YtimdpiifpibgfaaGreatDoor
