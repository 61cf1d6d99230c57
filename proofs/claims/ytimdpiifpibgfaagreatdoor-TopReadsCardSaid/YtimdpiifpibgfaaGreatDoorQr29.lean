/- A part of the proof of TopReads. -/
import Derived.Deep.RegionLawGrows
import Derived.Test.YtimdpiifpibgfaaGreatDoorQr28
set_option linter.all false
set_option maxRecDepth 20000
set_option maxHeartbeats 16000000
open Go.RowKit Go.Maps
namespace Go.Proofs.YtimdpiifpibgfaaGreatDoor
open Tryz
section
variable [In]
theorem XJ(c:Cm)(w:World):(Instr.field 45 (.agg #[AA 3,AA 0,AA 0,AA 0,AA 0,AA c.k,AA c.c,AA c.s,.string c.a,.string c.b,.string c.o,.string c.v,AA In.aq,AA (In.ad 0),AA (In.ad 1),AA (In.ad 2),AA (In.ad 3),AA (In.ad 4),AA (In.ad 5),AA (In.ad 6),.bool false]) 4).run prog w=.ok (.agg #[AA In.aq,AA (In.ad 0),AA (In.ad 1),AA (In.ad 2),AA (In.ad 3),AA (In.ad 4),AA (In.ad 5),AA (In.ad 6)]) w:=ND
theorem XK(w:World):(Instr.field 43 (.agg #[AA In.aq,AA (In.ad 0),AA (In.ad 1),AA (In.ad 2),AA (In.ad 3),AA (In.ad 4),AA (In.ad 5),AA (In.ad 6)]) 1).run prog w=.ok (.agg #[AA (In.ad 0),AA (In.ad 1),AA (In.ad 2),AA (In.ad 3),AA (In.ad 4),AA (In.ad 5),AA (In.ad 6)]) w:=ND
theorem ZQ(g b n bl cl:Nat)(d:Nat->Int)(O:Value)(l:List A7)(me:Int)(c:Cm)(w:World)(h:BL w g b n d O l)(hin:(⟨me,In.sl,cellL 3 c false⟩:A7)∈l)(hme:(Lit.int .i64 me).wf=true)(hbl:Holds w bl 37 [AA me,AA In.sl]) :Calls prog 312 #[AP g,.slice (Ac bl) 1 cl] w λe w'=>∃be,e=.returned (.slice (Ac be) 1 1)/\Holds w' be 30 [AL]/\w.heap.size<=be/\Below w.heap.size w w':=by
 obtain⟨R,P⟩:=WZ h hbl;have ac:=h.lt;have X:=hbl.lt;obtain⟨v,Y,Z,M,_,N⟩:=h.look me In.sl hme RF;have L:=M _ hin rfl rfl;dsimp only at L;subst L;have Q:=qh N;clear N M Z Y h hbl hin;have ae:=Uc;have aa:=λW=>XJ c W;have ab:=XK;go_in;go_wp2_with fail;obtain⟨a,f⟩:=WZ (AC w 30 [AL]) (show Below w.heap.size w (w.alloc (.cells #[AL] 30)) by go_grown);generalize w.alloc (.cells #[AL] 30)=W at a f |-;have S:w.heap.size<W.heap.size:=a.lt;generalize B:w.heap.size=be at a f S |-;go_loopw [16] (λvi wr=>∃i:Nat,vi=AA (i:Int)/\Below be w wr/\Holds wr be 30 [AL]/\i<=1) (λv _=>1 - (intOf v).toNat);case atStart=>exact⟨0,rfl,f.o,a.o,BJ⟩
 case round=>
  clear a f;obtain⟨i,rfl,m,p,hi⟩:=hrel;rcases(show i=0\/i=1 by omega) with rfl|rfl
  .obtain⟨f,a,t,HHr,s⟩:=dD m p (R.below (B▸m)) (P.below m (B▸X)) (λr (A:Below wr.heap.size wr r)=>Q.o r (by subst B;exact m.trans (A.mono m.size)));have ai:=m.size;have ag:=p.lt;obtain⟨E,F⟩:=Cf HHr.o 0 1;clear m p;go_upto_region 5 with(fail);go_name_world V G;have u:=qh (show Holds V wr.heap.size 37 [AA me,AA In.sl] by rw[<-G];exact AC wr _ _);have k:Below wr.heap.size wr V:=by rw[<-G];go_grown
   obtain⟨f,a,t,q,s⟩:=dD (f.trans (k.mono BJ)) (AX a.o k) (t.below k) (AX HHr.o k) (λr (A:Below V.heap.size V r)=>s.o r (k.trans (A.mono k.size)));have H:=k.size;clear G k E F;obtain⟨t,u,a,q,f,s⟩:=mG (t.below (AY _ _)) (show Holds V.drew wr.heap.size 37 _ from u.o) (show Holds V.drew be 30 _ from a.o) (show Holds V.drew bl 37 _ from q.o) (f.trans (AY _ _)) (λr (A:Below V.drew.heap.size V.drew r)=>s.o r ((AY V.heap.size V).trans A));have H:wr.heap.size<=V.drew.heap.size:=H;refine Ed [] 10 (λhSn=>?_);generalize V.drew=C at u t a f s q H hSn |-;simp only[List.replicate];refine ES 0 ?_;refine BO 3 [] (λw y=>Am ((t.below y).ix) 7) ?_;refine BO 4 [] (λw y=>Cf (AX u.o y) 0 1) ?_;refine JL 5 [] (some 26) (?vg6) rfl (Or.inl ⟨by rfl,?hg6⟩) hSn ?rg6;case hg6=>
    intro w y;have U:=s.o w y;unfold cellL at U;go_simp;try with_reducible rfl
   simp only[Act.put,zA,zB,zC];refine F9 6 ?_;refine BN 8 rfl (λK x=>?_);go_simp;have k:=λo=>Below.alloc hSn hSn.size o;refine x.out _ _ (λ_=>k _) ?_;have hSn:=k (.cells ([AA 0,AA 0,AA 0,AA 0,AA 0,AA 0,AA 0]:List Value).toArray 41);have D:=qh (show Holds (C.alloc (.cells ([AA 0,AA 0,AA 0,AA 0,AA 0,AA 0,AA 0]:List Value).toArray 41)) C.heap.size 41 [AA 0,AA 0,AA 0,AA 0,AA 0,AA 0,AA 0] from AC C _ _);clear k;generalize C.alloc (.cells ([AA 0,AA 0,AA 0,AA 0,AA 0,AA 0,AA 0]:List Value).toArray 41)=wa at hSn D |-;clear x;try simp only[Act.put,zA,zB,zC]
   refine BN 9 rfl (λK x=>?_);refine tB [AA (In.ad 0),AA (In.ad 1),AA (In.ad 2),AA (In.ad 3),AA (In.ad 4),AA (In.ad 5),AA (In.ad 6)] D.o ?_;intro wb T J;have hSn:=hSn.trans (J.below Ve hSn.size);clear T J;refine BR x ?_;clear x;refine BA ?_;obtain⟨a,q,f⟩:=bP (AX a.o hSn) (AX q.o hSn) (f.trans (hSn.mono BJ));have af:=hSn.size;clear hSn t u s D;go_wp2_with fail;go_loopw [31] (λvj I=>∃j:Nat,vj=AA (j:Int)/\j<=1/\Below be w I/\Holds I be 30 [AL]/\Holds I bl 37 [AA me,AA In.sl]) (λv _=>1 - (intOf v).toNat);case atStart=>exact⟨0,rfl,BJ,f.o,a.o,q.o⟩
   case round=>
    clear f a q;obtain⟨j,rfl,hj,m,p,z⟩:=hrel;rcases(show j=0\/j=1 by omega) with rfl|rfl
    .have E:=z.cell 0;have F:=z.cell 1;simp only[yA,yB] at E F;obtain⟨f,a,q⟩:=bP m p z;have ah:=p.lt;clear m p z;go_wp2_with fail;have k:Below wr.heap.size wr (wr.alloc (.cells #[AA me,AA In.sl] 37)):=by go_grown
     go_roundw;case rel=>exact⟨1,rfl,BJ,f.trans (k.mono BJ),AX a.o k,AX q.o k⟩
     case measure=>simp[intOf]
    .obtain⟨f,a⟩:=WZ m p;clear m p z;go_wp2_with fail;go_roundw;case rel=>exact⟨1,rfl,f.o,a.o,BJ⟩
     case measure=>simp[intOf]
  .obtain⟨f,a⟩:=WZ m p;clear m p;go_wp2_with fail;go_ret;exact⟨be,rfl,a.o,BJ,B▸f.o⟩
end
section
variable [In]
theorem Oy{P:Program}{fn:Func}{a u:Tmp}{t:TypeId}(h:fn.results=#[.tmp u,.cell a t])(tmps:Array Value)(w:World)(b:Nat)(cs:List Value)(d:TypeDesc)(v:Value)(ha:tmps.getD a undef=AP b)(hv:tmps.getD u undef=v)(hc:w.rangeAt b 0 cs) (hu:P.underlying t=some d) (hd:d.isRow=true) (hi:(P.info? t).map (·.size)=some cs.length):(results fn tmps).run P w=.ok (.tuple #[v,.agg cs.toArray]) w:=by have c:=run_loadVar_mid w b 0 t cs d hc hu hd hi;unfold results;rw[h];rw[Array.getD_eq_getD_getElem?] at ha hv;simp[ha,hv,asAddr,c,Sem.run_bind]
theorem ZY(g b n:Nat)(O:Value)(l:List A7)(me:Int)(c:Cm)(w:World)(d:Nat->Int)(h:BL w g b n d O l)(hd9:∀r,r<7->0<=d r/\d r<=1000/\RD me r<=d r)(hin:(⟨me,In.sl,cellL 3 c false⟩:A7)∈l)(hme:(Lit.int .i64 me).wf=true) :Calls prog 276 #[AP g,.agg #[AA me,AA In.sl]] w λe w'=>∃br,e=.returned (.tuple #[.slice (Ac br) 1 1,.agg #[AA 0,AA 0]])/\Holds w' br 37 [AA me,AA In.sl]/\w.heap.size<=br/\Below w.heap.size w w':=by
 have q:=qh h;have ay:=h.lt;obtain⟨v,an,ao,ae,_,af⟩:=h.look me In.sl hme RF;have hv:=ae _ hin rfl rfl;dsimp only at hv;subst hv;obtain⟨F,KN,KU⟩:=bP af (λbl W m=>Xt me W hme bl m) (λr W u=>jh me 3 c false r W u);clear af ae ao an h hin;go_in;go_wp2_with fail;have Z:Holds (((w.alloc (.cells #[AA me,AA In.sl] 37)).alloc (.cells #[AA 0,AA 0] 37)).alloc (.cells #[AA me,AA In.sl] 37)) w.heap.size 37 [AA me,AA In.sl]:=Aw (Aw (AC w _ _) _) _;have A2:Holds (((w.alloc (.cells #[AA me,AA In.sl] 37)).alloc (.cells #[AA 0,AA 0] 37)).alloc (.cells #[AA me,AA In.sl] 37)) (w.heap.size+1) 37 [AA 0,AA 0]:=by have:=AC (w.alloc (.cells #[AA me,AA In.sl] 37)) 37 [AA 0,AA 0];rw[World.size_alloc] at this;exact Aw this _
 have A3:Holds (((w.alloc (.cells #[AA me,AA In.sl] 37)).alloc (.cells #[AA 0,AA 0] 37)).alloc (.cells #[AA me,AA In.sl] 37)) (w.heap.size+1+1) 37 [AA me,AA In.sl]:=by have:=AC ((w.alloc (.cells #[AA me,AA In.sl] 37)).alloc (.cells #[AA 0,AA 0] 37)) 37 [AA me,AA In.sl];rw[World.size_alloc,World.size_alloc] at this;exact this
 obtain⟨a,A,f,P⟩:=bY (show Below w.heap.size w (((w.alloc (.cells #[AA me,AA In.sl] 37)).alloc (.cells #[AA 0,AA 0] 37)).alloc (.cells #[AA me,AA In.sl] 37)) by go_grown) Z A2 A3;clear Z A2 A3;generalize (((w.alloc (.cells #[AA me,AA In.sl] 37)).alloc (.cells #[AA 0,AA 0] 37)).alloc (.cells #[AA me,AA In.sl] 37))=W at A f P a |-;have U:w.heap.size<=w.heap.size+1:=Nat.le_succ _;generalize a0:w.heap.size+1=G at f P U |-;generalize t:w.heap.size=B at A a U |-;refine(KN.o _ _ P.o).mono ?_;rintro e y ⟨sp,rfl,m⟩;obtain⟨A,f⟩:=WZ (AX A.o m) (AX f.o m);have ai:=a.size;have a:=qh (a.trans (m.mono (t▸ai)));clear m P;obtain⟨aj,ak⟩:=Cf A.o 0 1;go_wp2_with fail;have k:=qh (AC y 37 [AA me,AA In.sl]);have s:Below y.heap.size y (y.alloc (.cells #[AA me,AA In.sl] 37)):=by go_grown
 have T:B<=y.heap.size:=t▸a.size;have ah:G≠y.heap.size:=Nat.ne_of_lt f.lt;obtain⟨f,a⟩:=WZ (AX f.o s) (a.trans (s.mono T));clear s aj ak A;generalize y.alloc (.cells #[AA me,AA In.sl] 37)=W1 at k f a |-;generalize y.heap.size=br at k T ah |-;go_loopw [4,7,8] (λL M v8 wr=>L=AL/\M=.slice (Ac br) 1 1/\∃i:Nat,v8=AA (i:Int)/\i<=1/\Below B w wr/\Holds wr G 37 [AA 0,AA 0]/\Holds wr br 37 [AA me,AA In.sl]) (λ_ _ v _=>1 - (intOf v).toNat);case atStart=>exact⟨rfl,rfl,0,rfl,BJ,a.o,f.o,k.o⟩
 case round=>
  clear f a k;obtain⟨rfl,rfl,i,rfl,hi,m,D,u⟩:=hrel;obtain⟨a,f,k⟩:=bP m D u;have ac:B<=wr.heap.size:=t▸m.size;rcases(show i=0\/i=1 by omega) with rfl|rfl
  .have r0:=u.cell 0;have r1:=u.cell 1;simp only[yA,yB] at r0 r1;clear m D u;go_upto_region 9 with(fail);go_name_world V S;have p:=qh (show Holds V wr.heap.size 37 [AA me,AA In.sl] by rw[<-S];exact AC wr _ _);have s:Below wr.heap.size wr V:=by rw[<-S];go_grown
   clear S;have aa:=a.trans (s.mono ac);have C:Below B w V.drew:=aa.trans (AY _ _);obtain⟨f,k,p,q,F,a⟩:=mG (show Holds V.drew G 37 _ from AX f.o (s.trans (AY _ _))) (show Holds V.drew br 37 _ from AX k.o (s.trans (AY _ _))) (show Holds V.drew wr.heap.size 37 _ from p.o) (q.below (by rw[t];exact C)) (λW' (hw:Below V.drew.heap.size V.drew W')=>F.o W' (by rw[t];exact C.trans (hw.mono (t▸C.size)))) C;have ag:wr.heap.size<V.drew.heap.size:=p.lt;have Y:B<=V.drew.heap.size:=t▸C.size;clear r0 r1 s aa C;refine Ed [] 8 (λhSn=>?_);generalize V.drew=N at p q f k a F ag Y hSn |-;simp only[List.replicate];refine ES 0 ?_;refine BO 3 [] (λw I=>Am ((q.below I).ix) 7) ?_;refine BO 4 [] (λw I=>Cf (AX p.o I) 0 1) ?_;refine BO 5 [] (λw I=>F.o w I) ?_;refine BN 6 rfl (λK H=>?_);go_simp;have s:=λo=>Below.alloc hSn hSn.size o;refine H.out _ _ (λ_=>s _) ?_;have hSn:=s (.cells ([AA 0,AA 0,AA 0,AA 0,AA 0,AA 0,AA 0,AA 0,AU,AU,AU,AU,AA 0,AA 0,AA 0,AA 0,AA 0,AA 0,AA 0,AA 0,.bool false]:List Value).toArray 45);have R:=qh (show Holds (N.alloc (.cells ([AA 0,AA 0,AA 0,AA 0,AA 0,AA 0,AA 0,AA 0,AU,AU,AU,AU,AA 0,AA 0,AA 0,AA 0,AA 0,AA 0,AA 0,AA 0,.bool false]:List Value).toArray 45)) N.heap.size 45 [AA 0,AA 0,AA 0,AA 0,AA 0,AA 0,AA 0,AA 0,AU,AU,AU,AU,AA 0,AA 0,AA 0,AA 0,AA 0,AA 0,AA 0,AA 0,.bool false] from AC N _ _);clear s;generalize N.alloc (.cells ([AA 0,AA 0,AA 0,AA 0,AA 0,AA 0,AA 0,AA 0,AU,AU,AU,AU,AA 0,AA 0,AA 0,AA 0,AA 0,AA 0,AA 0,AA 0,.bool false]:List Value).toArray 45)=wa at hSn R |-;clear H;try simp only[Act.put,zA,zB,zC]
   refine BN 7 rfl (λK H=>?_);refine tB (cellL 3 c false) R.o ?_ (Lh _ _ _).2;intro wb ab ad;have x:=qh ab;have hSn:=hSn.trans (ad.below Ve hSn.size);clear ab ad;refine BR H ?_;clear H;refine BA ?_;obtain⟨f,k,p,q,a⟩:=dD (AX f.o hSn) (AX k.o hSn) (AX p.o hSn) (q.below hSn) (a.trans (hSn.mono Y));clear hSn F R;generalize N.heap.size=gc at x Y |-;generalize wr.heap.size=gx at p ag |-;go_wp2_with fail;go_loopw [4,7,41] (λL M v E=>L=AL/\M=.slice (Ac br) 1 1/\∃j:Nat,v=AA (j:Int)/\j<=7/\Below B w E/\Holds E G 37 [AA 0,AA 0]/\Holds E br 37 [AA me,AA In.sl]/\Holds E gx 37 [AA me,AA In.sl]/\Holds E gc 45 (cellL 3 c false)/\BL E g b n d O l) (λ_ _ v _=>7 - (intOf v).toNat);case atStart=>exact⟨rfl,rfl,0,rfl,BJ,a.o,f.o,k.o,p.o,x.o,q.o⟩
   case round=>
    clear a f k p x q;obtain⟨rfl,rfl,j,rfl,hj,m,D,u,J,hc,X⟩:=hrel;obtain⟨a,f,k,p,x,q⟩:=mG m D u J hc X;have am:B<=wr.heap.size:=t▸m.size;clear m D u hc;by_cases al:j=7
    .subst al;clear J X;go_wp2_with fail;go_roundw;case rel=>exact⟨rfl,rfl,1,rfl,BJ,a.o,f.o,k.o⟩
     case measure=>simp[intOf]
    .have x0:=J.cell 0;have x1:=J.cell 1;simp only[yA,yB] at x0 x1;clear J X;have ax:(j:Int)<7:=BJ
     go_wp2_with (first|(refine lM 0 x.Af ?_));refine Ah (KU.o j _ BJ) ?_;rintro Q z;obtain⟨a,f,k,p,x,q⟩:=mG (a.trans (z.mono am)) (AX f.o z) (AX k.o z) (AX p.o z) (AX x.o z) (q.below z);have dj:Q.cell? ⟨g,j,none⟩=some (AA (d j)):=by rw[q.ix.cell];rcases(show j=0\/j=1\/j=2\/j=3\/j=4\/j=5\/j=6 by omega) with rfl|rfl|rfl|rfl|rfl|rfl|rfl<;>rfl
     obtain⟨aq,ar,au⟩:=hd9 j BJ;have aw:IntKind.i64.wrap (d j+1)=d j+1:=IntWalk.i64_in _ BJ;have av:¬(d j+1<=RD me j):=BJ
     have az:B<=Q.heap.size:=t▸a.size;clear z x0 x1;go_wp2_with fail;go_loopw [4,7,13] (λL M ap w6=>L=AL/\M=.slice (Ac br) 1 1/\ap=AA (d j+1)/\w6=Q) (λ_ _ _ _=>0);case atStart=>first|exact⟨rfl,rfl,rfl,rfl⟩|simp
     case round=>
      obtain⟨rfl,rfl,rfl,rfl⟩:=hrel;clear dj;go_wp2_with fail;go_roundw;case rel=>exact⟨rfl,rfl,j+1,rfl,BJ,a.o,f.o,k.o,p.o,x.o,q.o⟩
      case measure=>simp[intOf];omega
  .clear m D u;go_wp2_with (first|(refine sW [AA 0,AA 0] f.o ?_;intro Q hh ht));refine bodyPost_ret (v:=.tuple #[.slice (Ac br) 1 1,.agg #[AA 0,AA 0]]) (Oy results276 _ _ G [AA 0,AA 0] _ _ rfl rfl hh.Af underlying37 rfl ND) rfl ?_;exact⟨br,rfl,k.touch ht (Ne.symm ah),t▸T,t▸a.trans (ht.below U ac)⟩
end
theorem Rk(p:Option Addr)(c:Nat)(fv:Value)(w:World):Calls prog 346 #[.slice p 1 c,AA 0,AA 1,fv] w λe w'=>e=.returned (.tuple #[])/\Below w.heap.size w w':=by
 go_in;go_wp2_with fail;go_loopw [8] (λd wr=>d=AA 1/\Below w.heap.size w wr) (λ_ _=>0);case atStart=>exact⟨rfl,Below.refl _ _⟩
 case round=>obtain⟨rfl,a⟩:=hrel;have b:=qh a;clear a;go_wp2_with fail;refine bE ⟨rfl,b.o⟩
theorem Xx(p:Option Addr)(c:Nat)(fv:Value)(w:World):Calls prog 332 #[.slice p 1 c,AA 1,fv] w λe w'=>e=.returned (.tuple #[])/\Below w.heap.size w w':=by
 have K:=qh (λW=>Rk p c fv W);go_in;go_wp2_with fail;go_loopw [7,8] (λf g wr=>f=AA 0/\g=AA 20/\wr=w) (λ_ _ _=>0);case atStart=>first|exact⟨rfl,rfl,rfl⟩|simp
 case round=>
  obtain⟨rfl,rfl,rfl⟩:=hrel;go_wp2_with fail;refine Ah (K.out _) ?_;rintro i a;have b:=qh a;clear a;go_wp2_with fail;go_loopw [6] (λd h=>d=AA 20/\Below wr.heap.size wr h) (λ_ _=>0);case atStart=>exact⟨rfl,b.o⟩
  case round=>clear b;obtain⟨rfl,a⟩:=hrel;have b:=qh a;clear a;go_wp2_with fail;exact bE ⟨rfl,b.o⟩
theorem Qx(p:Option Addr)(c:Nat)(fv:Value)(w:World):Calls prog 313 #[.slice p 1 c,fv] w λe w'=>e=.returned (.tuple #[])/\Below w.heap.size w w':=by have K:=qh (λW=>Xx p c fv W);go_in;go_wp2_with fail;refine Ah (K.out _) ?_;rintro d a;have b:=qh a;clear a;go_wp2_with fail;exact bE ⟨rfl,b.o⟩
section
variable [In]
theorem lC(d:Nat->Int)(m:Nat)(hm:m<7)(x y:Value):(DT d++[x,y])[m]?=some (AA (d m)):=by rcases(show m=0\/m=1\/m=2\/m=3\/m=4\/m=5\/m=6 by omega) with rfl|rfl|rfl|rfl|rfl|rfl|rfl<;>rfl
theorem eG(d:Nat->Int)(m:Nat)(hm:m<7)(x y:Value):m<(DT d++[x,y]).length:=by simp[DT];omega
def doneD(d:Nat->Int)(m:Nat):Nat->Int:=λr=>if r=m then In.sl else d r
theorem eH(d:Nat->Int)(m:Nat)(hm:m<7)(x y:Value):(DT d++[x,y]).set m (AA In.sl)=DT (doneD d m)++[x,y]:=by rcases(show m=0\/m=1\/m=2\/m=3\/m=4\/m=5\/m=6 by omega) with rfl|rfl|rfl|rfl|rfl|rfl|rfl<;>rfl
end
section
variable [In]
theorem XN{w w':World}(h:Below w.heap.size w w'):w.grownBy w' none:=⟨h.os,h.tape,h.output,h.size,λk a _=>h.block k a⟩
theorem BL.bel{w w':World}{g b n:Nat}{d:Nat->Int}{O:Value}{l:List A7}(h:BL w g b n d O l)(hb:Below w.heap.size w w'):BL w' g b n d O l:=h.below hb
instance {w w':World}{g b n:Nat}{d:Nat->Int}{O:Value}{l:List A7}:Bl w w' (BL w g b n d O l) (BL w' g b n d O l):=⟨λhb h=>BL.bel h hb⟩
end
section
variable [In]
def QU(q:Nat)(c:Cm):List Value:=AA q :: AA In.sl :: cellL 3 c false
theorem gW(q:Nat)(c:Cm):∀u∈QU q c,u.oneCell'=true:=by simp[QU,cellL,Value.oneCell']
def wF:List Value:=[AA 0,AA 0,AA 0,AA 0,AA 0,AA 0,AA 0,AA 0,AA 0,AA 0,AU,AU,AU,AU,AA 0,AA 0,AA 0,AA 0,AA 0,AA 0,AA 0,AA 0,.bool false]
theorem BL.mv{w w':World}{F:Ap}{g b n:Nat}{d:Nat->Int}{O:Value}{l:List A7}(h:BL w g b n d O l)(hm:Mv F w w')(h1:¬F g)(h2:¬F b):BL w' g b n d O l:=h.keep (hm.block g h.lt.1 h1) (hm.block b h.lt.2 h2)
def YB(g b n m mk:Nat)(c:Cm)(d:Nat->Int)(obO:Option Nat)(xs:List Value)(l:List A7)(w w':World):Prop:=∃R obR,BL w' g b n (doneD d m) R l/\AV w' R obR 267 23 (mk+1) (xs++QU m c)/\(obR=obO\/∃k,obR=some k/\w.heap.size<=k)/\Mv (λk=>k=g\/obO=some k) w w'
theorem sD(g b n bl cl mk:Nat)(l:List A7)(m:Nat)(c:Cm)(d:Nat->Int)(O:Value)(obO:Option Nat)(xs:List Value)(w:World)(hdm:d m=In.sl-1)(h:BL w g b n d O l)(ho:AV w O obO 267 23 mk xs)(hmk:mk<=1000)(hin:(⟨m,In.sl,cellL 3 c false⟩:A7)∈l)(hm:m<7)(hbl:Holds w bl 37 [AA m,AA In.sl]) :Calls prog 277 #[AP g,.slice (Ac bl) 1 cl] w λe w'=>e=.returned (.tuple #[])/\YB g b n m mk c d obO xs l w w':=by
 obtain⟨a,C,s⟩:=bP h hbl ho;have bx:=In.hsl;have bt:max (d m) In.sl=In.sl:=BJ
 clear hdm;have bc:=h.lt;have bb:=hbl.lt;have bu:=h.ne;have af:(Lit.int .i64 (m:Int)).wf=true:=WalkArith.wf_i64 BJ;obtain⟨v,bh,bi,U,_,X⟩:=h.look m In.sl af RF;have I:=U _ hin rfl rfl;dsimp only at I;subst I;obtain⟨E,KS,KE,KP,KT⟩:=dD (show Tq w (λW=>(Instr.lookup 246 (.map (some b)) (.agg #[AA m,AA In.sl]) false).run prog W=.ok (.agg (cellL 3 c false).toArray) W) from X) (λp cc fv W=>Qy p 1 cc fv W BJ) (λW h1 h2=>ZQ g b n bl cl d O l m c W h1 hin af h2) (λbe W h1=>Z4 be 1 W h1) (λp cc fv W=>Qx p cc fv W);have a4:∀k,obO=some k->k≠b:=λk x e=>by
  obtain⟨D,⟨es,bj,z,_⟩,_⟩:=h.map;rcases ho.cases with⟨_,J,_⟩|⟨g1,_,_,_,J,_,_,hh,_⟩
  .rw[J] at x;cases x
  .rw[J] at x;cases x;unfold Holds at hh;rw[e,z] at hh;cases hh
 have A:∀k,obO=some k->k≠g/\k≠b/\k<w.heap.size:=λk x=>⟨AV.ne_of ho h.ix Iz k x,a4 k x,ho.lt k x⟩;have a8:=qh hin;clear a4;clear X U bi bh h hin hbl ho;go_in;go_upto_region 1 with(fail);go_name_world W hW;obtain⟨f,G,az,bf⟩:=bF 325 ([AP g]) 99 ([.slice (Ac bl) 1 cl]) hW;clear hW;have u:=qh (Base.start w);obtain⟨a,C,s,E,u⟩:=Gj az a C s E u;clear az bf;generalize bw:w.heap.size+1=gq at G |-;generalize ax:w.heap.size=B at f u bc bb A |-;have bp:B<=gq:=BJ
 have N:=Am G.o 0;go_wp2_with fail;refine Ah (KS.o _ _ _ _) ?_;rintro w1 z;obtain⟨a,C,s,E,u,f⟩:=Ef z a C s E u f;have G:=D9 z G;clear z N;have a0:=Am f.o 0;have N:=Am G.o 0;go_wp2_with fail;refine(KE.o _ a.o C.o).mono ?_;rintro e w2 ⟨be,rfl,he,_,z⟩;obtain⟨a,C,s,E,u,f⟩:=Ef z a C s E u f;have G:=D9 z G;clear z a0 N;go_wp2_with fail;refine(KP.o be _ he).mono ?_;rintro e w3 ⟨vp,b0,c0,L0,rfl,a5,J,bk,bn,_,z⟩;obtain⟨a,C,s,E,u,f⟩:=Ef z a C s E u f;have G:=D9 z G;have H0:=qh J;clear z he J;obtain⟨bv,cv,Lv,rfl,bm,bo,_,a6⟩:=Qj a5;have HV:=qh a6;clear a6 a5;go_wp2_with fail;go_loopw [22] (λv wr=>∃i:Nat,v=AA (i:Int)/\((i=0/\w3=wr)\/(i=1/\YB g b n m mk c d obO xs l w wr))) (λv _=>1 - (intOf v).toNat);case atStart=>exact⟨0,rfl,.inl ⟨rfl,rfl⟩⟩
 case round=>
  obtain⟨i,rfl,⟨rfl,rfl⟩|⟨rfl,R⟩⟩:=hrel
  .have v0:=HV.cell 0;simp only[List.getElem?_cons_zero] at v0;go_wp2_with fail;refine Ah (KT.o _ _ _ _) ?_;rintro w4 z;obtain⟨a,C,s,E,u,f⟩:=Ef z a C s E u f;obtain⟨G,H0⟩:=Ce z G H0;clear z v0 HV;go_wp2_with fail;go_loopw [31] (λv w5=>∃i:Nat,v=AA (i:Int)/\((i=0/\w4=w5)\/(i=1/\YB g b n m mk c d obO xs l w w5))) (λv _=>1 - (intOf v).toNat);case atStart=>exact⟨0,rfl,.inl ⟨rfl,rfl⟩⟩
   case round=>
    obtain⟨j,rfl,⟨rfl,rfl⟩|⟨rfl,R⟩⟩:=hrel
    .have z0:=H0.cell 0;have N:=G.cell 0;have l0:=C.cell 0;have l1:=C.cell 1;simp only[yA,yB] at z0 N l0 l1;have bg:=u.le;go_upto_region 11 with(fail);go_name_world V L;have L:Bo w4 [.cells ([AA m,AA In.sl]:List Value).toArray 37]=V:=L;have y:=qh (show Holds V (w4.heap.size) 37 ([AA m,AA In.sl]) from Ae _ L 0 rfl);have ay:=Aq _ L;have a7:=Bd _ L;simp only[List.length_cons,List.length_nil] at a7;clear L;obtain⟨a,s,E,u,f⟩:=Gj ay a s E u f;clear ay a7 z0 N l0 l1;generalize bq:w4.heap.size=gx at y bg |-;obtain⟨pO,cO,rfl⟩:∃pO cO,O=.slice pO (mk:Nat) cO:=by
      rcases s.cases with⟨r,_,r2,_⟩|⟨_,_,_,r,_⟩
      .rw[r,r2];exact⟨_,_,rfl⟩
      .exact⟨_,_,r⟩
     obtain⟨a,s,u,f,y⟩:=Gj (AY _ V) a s u f y;refine wp_region_noPanic ?_;refine Bv (S:=λW'=>Mv (λk=>obO=some k) V.drew W') (X0:=[17]) (by as_aux_lemma=>kernel_rfl) ?_;generalize V.drew=wd at a s u f y |-;have hSn:Mv (λk=>obO=some k) wd wd:=Mv.refl _ _;change wpAnyL _ _ _ _ _ _ 18 #[false,false,false,false,false,false,false,false,false,false,false,false,false,false,false,false,false,false] _ _;refine BO 0 [15,16,17] (λw t=>Am (f.mv t (λq=>by have:=(A _ q).2.2;omega)) 0) ?_;refine BO 1 [2,3,4,14,15,16,17] (λw t=>Am (f.mv t (λq=>by have:=(A _ q).2.2;omega)) 0) ?_;refine F9 2 ?_;refine BO 4 [14,15,16,17] (λw t=>Am ((a.mv t (λq=>(A _ q).1 rfl) (λq=>(A _ q).2.1 rfl)).ix) 8) ?_;refine BO 5 [12,13,14,15,16,17] (λw t=>Cf (y.mv t (λq=>by have:=(A _ q).2.2;omega)) 0 1) ?_;refine BO 6 [7,8,9,11,12,13,14,15,16,17] (λw t=>Am (f.mv t (λq=>by have:=(A _ q).2.2;omega)) 0) ?_;refine F9 7 ?_;refine BO 9 [11,12,13,14,15,16,17] (λw t=>Am ((a.mv t (λq=>(A _ q).1 rfl) (λq=>(A _ q).2.1 rfl)).ix) 7) ?_;refine BO 10 [11,12,13,14,15,16,17] (λw t=>Cf (y.mv t (λq=>by have:=(A _ q).2.2;omega)) 0 1) ?_;refine JL 11 [12,13,14,15,16,17] (some 50) (?vg12) rfl (Or.inl ⟨by rfl,?hg12⟩) hSn ?rg12;case hg12=>
      intro w t;obtain⟨v,_,_,U,_,X⟩:=(a.mv t (λq=>(A _ q).1 rfl) (λq=>(A _ q).2.1 rfl)).look m In.sl af RF;have I:=U _ a8.o rfl rfl;dsimp only at I;subst I;have ba:=X w Vk;unfold cellL at ba;clear X U;go_simp;try with_reducible rfl
     simp only[Act.put,zA,zB,zC];refine CW 12 ?_;refine BN 13 rfl (λK H=>?_);refine tU 267 (.agg (QU m c).toArray) (QU m c) ?_;intro wa a2 ac;have hSn:=hSn.bel ac;have aa:=qh a2;generalize wd.heap.size=gn at aa |-;obtain⟨a,s,u,f,y⟩:=Gj ac a s u f y;clear a2 ac;change K (Act.put _ (some 52) _) _;refine BR H ?_;clear H;refine BN 14 rfl (λK H=>?_);refine tS (.agg wF.toArray) 23 216 s.o (QU m c) (aa.reads 0 _ (λj v I=>by rw[Nat.zero_add];exact I)) ?_ (gW m c);intro v5 aj w5 ag a3 M;have br:=u.le;obtain⟨Y,ak,av,am⟩:=bY (a.mv M (λq=>(A _ q).1 rfl) (λq=>(A _ q).2.1 rfl)) (f.mv M (λq=>by have:=(A _ q).2.2;omega)) (y.mv M (λq=>by have:=(A _ q).2.2;omega)) (((Mv.of_below (F:=λk=>k=g\/obO=some k) (ax▸u.below))).mv M (λk x=>.inl (.inr x)));have bd:aj=obO\/∃k,aj=some k/\B<=k:=a3.imp id (λ⟨k,h,h2⟩=>⟨k,h,BJ⟩);obtain⟨Z,c5,rfl⟩:∃Z c5,v5=.slice Z (mk+1:Nat) c5:=by
      rcases ag.cases with⟨_,_,J,_⟩|⟨g1,a9,_,I,_⟩
      .omega
      .exact⟨_,a9,I⟩
     have ab:=qh ag;have hSn:=hSn.mv M (λk x=>.inl x);clear ag a3 M;change K (Act.put _ (some 53) _) _;refine BR H ?_;clear H;refine F9 15 ?_;refine BN 17 rfl (λK H=>?_);refine tC 8 Y.ix (.slice Z (mk+1:Nat) c5) ?_;intro w6 a1 ah;have T:Mv (λk=>k=g) w5 w6:=Mv.AZ ah rfl;obtain⟨ar,ap,al,aw,an⟩:=dD (Y.set (d':=d) (O':=.slice Z (mk+1:Nat) c5) a1 ah) (ab.mv T (λk x e=>AV.ne_of ab.o Y.ix Iz k x e)) (ak.mv T BJ) (av.mv T BJ) (am.mv T (λk x=>.inl (.inl x)));clear a1 ah T;refine BR H ?_;clear H;refine BA ?_;clear hSn a f y E u s aa Y ab ak av am;have a:=ar;have s:=ap;have f:=al;have y:=aw;have Q:=an;clear ar ap al aw an;go_wp2_with fail;go_upto_region 12 with(fail);have bs:(m:Int)<7:=BJ
     obtain⟨a,s,f,y,Q⟩:=Gj (AY _ w6) a s f y Q;refine Ed [16] 17 (λhSn=>?_);generalize w6.drew=wd at a s f y Q hSn |-;simp only[List.replicate];refine BO 0 [13,14,15,16] (λw t=>Am (f.bel t) 0) ?_;refine CW 1 ?_;refine BO 2 [15,16] (λw t=>Cf (y.bel t) 0 1) ?_;refine BO 3 [6,7,8,9,12,15,16] (λw t=>Am (f.bel t) 0) ?_;refine CW 4 ?_;refine BO 5 [8,9,12,15,16] (λw t=>Cf (y.bel t) 0 1) ?_;refine ES 6 ?_;refine JL 9 [12,15,16] (some 65) (?vg25) rfl (Or.inl ⟨by rfl,?hg25⟩) hSn ?rg25;case hg25=>
      intro w t;have dm:w.cell? ⟨g,m,none⟩=some (AA (d m)):=((a.bel t).ix.cell m).trans (lC d m hm _ _);go_simp;try with_reducible rfl
     simp only[Act.put,zA,zB,zC];refine CW 10 ?_;refine BO 11 [12,15,16] (λw t=>Cf (y.bel t) 0 1) ?_;refine J9 12 ?_;refine BN 16 rfl (λK H=>?_);refine DD rfl 3 (.tmp 71) (.tmp 68) rfl rfl g m 327 _ a.ix (eG d m hm _ _) rfl (AA In.sl) rfl rfl ND rfl ?_;intro w7 ad ai;rw[eH d m hm] at ad;have ae:Mv (λk=>k=g) _ w7:=Mv.AZ ai rfl;obtain⟨au,aq,ao⟩:=bP (a.set ad ai) (s.mv ae (λk x e=>AV.ne_of s.o a.ix Iz k x e)) (Q.mv ae (λk x=>.inl (.inl x)));clear ad ai ae;refine BR H ?_;clear H;refine BA ?_;have P:=qh (show YB g b n m mk c d obO xs l w w7 from⟨_,aj,au.o,aq.o,ax▸bd,ao.o⟩);clear hSn y f a s Q au aq ao;go_wp2_with fail;go_roundw;case rel=>exact⟨1,rfl,.inr ⟨rfl,P.o⟩⟩
     case measure=>simp[intOf]
    .have P:=qh R;clear R;go_wp2_with fail;go_roundw;case rel=>exact⟨1,rfl,.inr ⟨rfl,P.o⟩⟩
     case measure=>simp[intOf]
  .have P:=qh R;clear R;go_wp2_with fail;exact bE ⟨rfl,P.o⟩
end
section
variable [In]
structure EU(w:World)(s b n:Nat)(l:List A7):Prop where
 ix:Holds w s 383 [.map (some b)]
 map:∃D,w.ownsMap prog 37 BZ b n D/\GL D l
 wf:RX l
section
variable {w w':World} {s b n:Nat} {l:List A7}
theorem EU.of_none(h:MS w s b):EU w s b 0 []:=⟨h.1,⟨_,h.2,GL.empty⟩,λe a=>(by cases a)⟩
theorem EU.keep(h:EU w s b n l)(hg:w'.heap[s]?=w.heap[s]?)(hb:w'.heap[b]?=w.heap[b]?):EU w' s b n l:=by obtain⟨D,⟨c,a,f,r⟩,d⟩:=h.map;exact⟨by have:=h.ix;unfold Holds at *;rw[hg];exact this,⟨D,⟨c,a,hb.trans f,r⟩,d⟩,h.wf⟩
theorem EU.lt(h:EU w s b n l):s<w.heap.size/\b<w.heap.size:=by obtain⟨D,a,_⟩:=h.map;exact⟨h.ix.lt,a.lt⟩
theorem EU.bel(h:EU w s b n l)(hb:Below w.heap.size w w'):EU w' s b n l:=h.keep (hb.block s h.lt.1) (hb.block b h.lt.2)
instance:Bl w w' (EU w s b n l) (EU w' s b n l):=⟨λhb h=>EU.bel h hb⟩
theorem EU.ne(h:EU w s b n l):s≠b:=by obtain⟨D,⟨d,c,a,_⟩,_⟩:=h.map;intro e;have:=h.ix;unfold Holds at this;rw[e,a] at this;cases this
end
theorem uS(s b n:Nat)(l:List A7)(r t:Int)(w:World)(h:EU w s b n l)(hn:n<=1000)(hno:Et l r t=false)(hr:(Lit.int .i64 r).wf=true)(ht:(Lit.int .i64 t).wf=true) :Calls prog 275 #[AP s,.agg #[AA r,AA t]] w λe w'=>e=.returned (.bool true)/\EU w' s b (n+1) (Ci l ⟨r,t,[]⟩)/\Touch b w w':=by
 obtain⟨a,A,q⟩:=bP h (DX r t hr ht) (⟨hr,ht⟩:(Lit.int .i64 r).wf=true/\(Lit.int .i64 t).wf=true);have F:(Ci l ⟨r,t,[]⟩).length=l.length+1:=by unfold Ci;rw[if_neg (by unfold Et at hno;rw[hno];decide),List.length_append];rfl
 have G:=h.ne;have E:=h.lt.2;have c:=qh (Base.start w);clear h hr ht hno;go_in;go_upto_region 1 with(fail);go_name_world W x;obtain⟨i,y,H⟩:=GI 37 ([AA r,AA t]) x;clear x;obtain⟨a,c⟩:=Ce y a c;clear y H;generalize C:w.heap.size=J at i c E |-;obtain⟨D,f,d⟩:=a.map;have j:=d.size;have g:=a.ix.cell 0;simp only[List.getElem?_cons_zero] at g;go_upto_region 2 with(at_len;refine wpList_len_own _ rfl _ 381 rfl 37 409 underlying381 BZ b n D rfl f ?_);try rw[j]
 clear g f d j;obtain⟨a,i,c⟩:=D5 (AY _ W) a i c;refine Ed [6] 7 (λhSn=>?_);generalize W.drew=M at a i c hSn |-;simp only[List.replicate];refine ES 0 ?_;refine JL 3 [6] (some 14) (?vg4) rfl (Or.inl ⟨by rfl,?hg4⟩) hSn ?rg4;case hg4=>
  intro w m;have g:=(a.bel m).ix.cell 0;simp only[List.getElem?_cons_zero] at g;go_simp;try with_reducible rfl
 simp only[Act.put,zA,zB,zC];refine BO 4 [6] (λw m=>Cf (i.bel m) 0 1) ?_;refine CW 5 ?_;refine BN 6 rfl (λK u=>?_);obtain⟨D,f,d⟩:=a.map;refine E9 rfl (.tmp 14) (.tmp 15) (.tmp 16) 381 rfl 37 409 CV underlying381 BZ b n D rfl f (by unfold maxLen;omega) _ _ _ rfl rfl A.o _ [] rfl ?_;intro I z p;obtain⟨k,B⟩:=WZ (show EU I s b (n+1) (Ci l ⟨r,t,[]⟩) from⟨by have:=a.ix.touch (BM p) G;exact this,⟨_,z,d.put a.wf ⟨r,t,[]⟩ q.o⟩,iP a.wf q.o⟩) ((Touch.of_below (C▸c.below):Touch b w _).trans (BM p));clear z d f p;refine BR u ?_;clear u;refine BA ?_;clear hSn a i c;obtain⟨D,f,d⟩:=k.map;have j:=d.size;rw[F] at j;have g:=k.ix.cell 0;simp only[List.getElem?_cons_zero] at g;go_wp2_with (at_len;refine wpList_len_own _ rfl _ 381 rfl 37 409 underlying381 BZ b (n+1) D rfl f ?_);try rw[j]
 have L:(l.length:Int)<((l.length+1:Nat):Int):=BJ
 clear g f d j;go_wp2_with fail;refine bodyPost_ret (v:=.bool true) (by simp[results,results275,go_sem];try omega) rfl ?_;exact⟨rfl,k.o,B.o⟩
end
structure Kn where
 I:In
 m:Nat
 c:Cm
def Kn.IW(k:Kn):A7:=⟨(k.m:Int),k.I.sl,@cellL k.I 3 k.c false⟩
def Kn.UM(k:Kn):A7:=⟨(k.m:Int),k.I.sl,@cellL k.I 1 k.c true⟩
def Kn.cells(k:Kn):List Value:=@QU k.I k.m k.c
def Ht(ks:List Kn):List Value:=ks.flatMap Kn.cells
theorem Sr(ks:List Kn)(k:Kn):Ht (ks++[k])=Ht ks++k.cells:=by simp[Ht]
theorem Kn.SG(k:Kn):k.cells.length=23:=rfl
def I7(kl:List Kn)(d:Nat->Int)(j:Nat):Option Kn:=kl.find? λk=>k.m==j&&k.I.sl==d j+1
def PU(kl:List Kn)(d:Nat->Int)(j:Nat):Bool:=kl.any λk=>k.m==j&&decide (d j+1<k.I.sl)
def stepD(d:Nat->Int)(j:Nat):Nat->Int:=λr=>if r=j then d j+1 else d r
structure xY where
 d:Nat->Int
 ks:List Kn
 ms:List (Nat × Int)
def Il(kl:List Kn)(s:xY)(j:Nat):xY:=match I7 kl s.d j with
 | some k=>⟨stepD s.d j,s.ks++[k],s.ms⟩
 | none=>if PU kl s.d j then ⟨s.d,s.ks,s.ms++[(j,s.d j+1)]⟩ else s
def Aj(kl:List Kn)(d:Nat->Int):Nat->xY
 | 0=>⟨d,[],[]⟩
 | j+1=>Il kl (Aj kl d j) j
theorem Ju{kl:List Kn}{d:Nat->Int}{j:Nat}{k:Kn}(h:I7 kl d j=some k):k∈kl/\k.m=j/\k.I.sl=d j+1:=by have a:=List.find?_some h;have b:=List.mem_of_find?_eq_some h;simp only[Bool.and_eq_true,beq_iff_eq] at a;exact⟨b,a.1,a.2⟩
theorem Qo{kl:List Kn}{d:Nat->Int}{j:Nat}(h:I7 kl d j=none):∀k∈kl,¬(k.m=j/\k.I.sl=d j+1):=λk b a=>by have:=List.find?_eq_none.1 h k b;simp[a.1,a.2] at this
theorem jS{kl:List Kn}{d:Nat->Int}{j:Nat}{k:Kn}(h:I7 kl d j=some k):Et (kl.map Kn.IW) j (d j+1)=true:=by obtain⟨a,b,c⟩:=Ju h;exact List.any_eq_true.2 ⟨k.IW,List.mem_map.2 ⟨k,a,rfl⟩,by simp[Kn.IW,b,c]⟩
theorem oH{kl:List Kn}{d:Nat->Int}{j:Nat}(h:I7 kl d j=none):Et (kl.map Kn.IW) j (d j+1)=false:=List.any_eq_false.2 λe b a=>by obtain⟨k,c,rfl⟩:=List.mem_map.1 b;simp only[Kn.IW,Bool.and_eq_true,beq_iff_eq] at a;exact Qo h k c ⟨BJ,a.2⟩
theorem kU(kl:List Kn)(d:Nat->Int)(j:Nat):PU kl d j=true ↔ ∃e∈kl.map Kn.IW,e.r=(j:Int)/\d j+1<e.s:=by
 unfold PU;rw[List.any_eq_true];constructor
 .rintro⟨k,b,h⟩;simp only[Bool.and_eq_true,beq_iff_eq,decide_eq_true_eq] at h;exact⟨k.IW,List.mem_map.2 ⟨k,b,rfl⟩,by show (k.m:Int)=j;omega,h.2⟩
 .rintro⟨e,he,c,a⟩;obtain⟨k,b,rfl⟩:=List.mem_map.1 he;have c:(k.m:Int)=j:=c;have a:d j+1<k.I.sl:=a;refine⟨k,b,?_⟩;simp only[Bool.and_eq_true,beq_iff_eq,decide_eq_true_eq];exact⟨BJ,a⟩
theorem Uk{kl:List Kn}{d:Nat->Int}:∀(j r:Nat),(j<=r->(Aj kl d j).d r=d r)/\d r<=(Aj kl d j).d r/\((Aj kl d j).d r=d r\/∃k∈kl,k.m=r/\k.I.sl=(Aj kl d j).d r)
 | 0,r=>⟨λ_=>rfl,Int.le_refl _,.inl rfl⟩
 | j+1,r=>by
  obtain⟨h1,h2,h3⟩:=Uk (kl:=kl) (d:=d) j r;show (j+1<=r->(Il kl (Aj kl d j) j).d r=d r)/\d r<=(Il kl (Aj kl d j) j).d r/\((Il kl (Aj kl d j) j).d r=d r\/∃k∈kl,k.m=r/\k.I.sl=(Il kl (Aj kl d j) j).d r);unfold Il;split
  .rename_i k hk;obtain⟨a,b,c⟩:=Ju hk;show (j+1<=r->stepD _ j r=d r)/\d r<=stepD _ j r/\(stepD _ j r=d r\/∃k∈kl,k.m=r/\k.I.sl=stepD _ j r);unfold stepD;by_cases e:r=j
   .subst e;rw[if_pos rfl];exact⟨λh=>absurd h BJ,BJ,.inr ⟨k,a,b,c⟩⟩
   .rw[if_neg e];exact⟨λh=>h1 BJ,h2,h3⟩
  .split
   .exact⟨λh=>h1 BJ,h2,h3⟩
   .exact⟨λh=>h1 BJ,h2,h3⟩
theorem Qp{kl:List Kn}{d:Nat->Int}:∀(j:Nat),∀x∈(Aj kl d j).ms,x.1<j
 | 0,x,hx=>by cases hx
 | j+1,x,hx=>by
  have ih:=Qp (kl:=kl) (d:=d) j;have hx:x∈(Il kl (Aj kl d j) j).ms:=hx;unfold Il at hx;split at hx
  .exact Nat.lt_succ_of_lt (ih x hx)
  .split at hx
   .rcases List.mem_append.1 hx with hx|hx
    .exact Nat.lt_succ_of_lt (ih x hx)
    .rw[List.mem_singleton.1 hx];exact Nat.lt_succ_self _
   .exact Nat.lt_succ_of_lt (ih x hx)
theorem O3{kl:List Kn}{d:Nat->Int}:∀(j:Nat),(Aj kl d j).ks.length<=j/\(Aj kl d j).ms.length<=j
 | 0=>⟨Ve,Ve⟩
 | j+1=>by
  have ih:=O3 (kl:=kl) (d:=d) j;show (Il kl (Aj kl d j) j).ks.length<=j+1/\(Il kl (Aj kl d j) j).ms.length<=j+1;unfold Il;split
  .simp only[List.length_append,List.length_singleton];omega
  .split
   .simp only[List.length_append,List.length_singleton];omega
   .omega
def Tt(kl:List Kn)(d:Nat->Int):Prop:=∀k∈kl,k.m<7/\(∀r,r<7->r≠k.m->k.I.ad r<=d r)/\k.I.ad k.m<=k.I.sl-1
theorem Tt.upto{kl:List Kn}{d d':Nat->Int}(h:Tt kl d)(hd:∀r,r<7->d r<=d' r/\d' r<=1000/\0<=d r){k:Kn}(hk:k∈kl)(hs:k.I.sl=d' k.m+1):∀r,r<7->0<=d' r/\d' r<=1000/\@RD k.I (k.m:Int) r<=d' r:=λr a=>by
 obtain⟨f,b,g⟩:=h k hk;obtain⟨i,c,j⟩:=hd r a;refine⟨BJ,c,?_⟩;unfold RD;by_cases e:r=k.m
 .subst e;rw[if_pos rfl];omega
 .rw[if_neg BJ];have:=b r a e;omega
def Um(x:Nat × Int):A7:=⟨(x.1:Int),x.2,[]⟩
theorem fK{ms:List (Nat × Int)}{j:Nat}{t:Int}(h:∀x∈ms,x.1<j):Et (ms.map Um) j t=false:=List.any_eq_false.2 λe b a=>by obtain⟨x,c,rfl⟩:=List.mem_map.1 b;have:=h x c;simp only[Um,Bool.and_eq_true,beq_iff_eq] at a;omega
theorem mi{ms:List (Nat × Int)}{j:Nat}{t:Int}(h:∀x∈ms,x.1<j):Ci (ms.map Um) ⟨(j:Int),t,[]⟩=(ms++[(j,t)]).map Um:=by
 have:=fK (t:=t) h;unfold Et at this;unfold Ci;rw[if_neg (by rw[this];decide),List.map_append]
 rfl
end Go.Proofs.YtimdpiifpibgfaaGreatDoor
