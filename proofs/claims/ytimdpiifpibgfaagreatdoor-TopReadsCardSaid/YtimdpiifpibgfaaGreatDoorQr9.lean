/- A part of the proof of TopReads. -/
import Derived.Deep.DeepMust
import Derived.Test.YtimdpiifpibgfaaGreatDoorQr8
set_option linter.all false
set_option maxRecDepth 20000
set_option maxHeartbeats 16000000
open Go.RowKit Go.Maps
namespace Go.Proofs.YtimdpiifpibgfaaGreatDoor
open Tryz
section
def FK(q:Int)(d:Nat->Int):List Value:=AA q :: DT d
theorem Gq{w w':World}{b:Nat}(h:Touch b w w'):w.grownBy w' (some b):=⟨h.os,h.tape,h.output,h.size,λk a c=>h.block k a (λe=>c (by rw[e]))⟩
theorem YG(q:Int)(d:Nat->Int)(k:Nat)(hk:k<7)(v:Int):(FK q d).set (1+k) (AA v)=FK q λj=>if j=k then v else d j:=by
 have:k=0\/k=1\/k=2\/k=3\/k=4\/k=5\/k=6:=BJ
 rcases this with rfl|rfl|rfl|rfl|rfl|rfl|rfl<;>rfl
structure Rd(w wr:World)(g b n:Nat)(d:Nat->Int)(l:List CY)(r s:Int)(c:Cm)(D:DataW Value)(left:Lit->Bool)(cnt:Nat)(gi gc gr ga R:Nat)(vis:CY->Bool):Prop where
 bel:Below w.heap.size w wr
 ix:DV wr g b n d l
 li:Lists D l
 rg:wr.ranges prog 37 BZ b R n D left cnt
 hi:Holds wr gi 37 [AA r,AA s]
 hc:Holds wr gc 23 c.cells
 hr:Holds wr gr 43 (FK 0 λ_=>0)
 ha:Holds wr ga 43 (FK (Hg l vis) λj=>Bz l vis j)
 lo:w.heap.size<=ga/\w.heap.size<=R/\w.heap.size<=gr
 ne:gi≠ga/\gc≠ga/\g≠ga/\b≠ga/\R≠ga/\gr≠ga
 nr:gi≠R/\gc≠R/\g≠R/\gr≠R
theorem Rd.below{w wr w2:World}{g b n:Nat}{d:Nat->Int}{l:List CY}{r s:Int}{c:Cm}{D:DataW Value}{left:Lit->Bool}{cnt:Nat}{gi gc gr ga R:Nat}{vis:CY->Bool}(h:Rd w wr g b n d l r s c D left cnt gi gc gr ga R vis)(hb:Below wr.heap.size wr w2):Rd w w2 g b n d l r s c D left cnt gi gc gr ga R vis:=
 ⟨AO h.bel hb,h.ix.below hb,h.li,h.rg.kept (row:=none) ⟨hb.os,hb.tape,hb.output,hb.size,λk a _=>hb.block k a⟩ Vj Vj,h.hi.below hb h.hi.lt,h.hc.below hb h.hc.lt,h.hr.below hb h.hr.lt,h.ha.below hb h.ha.lt,h.lo,h.ne,h.nr⟩
theorem Rd.wrote{w wr w2:World}{g b n:Nat}{d:Nat->Int}{l:List CY}{r s:Int}{c:Cm}{D:DataW Value}{left:Lit->Bool}{cnt:Nat}{gi gc gr ga R:Nat}{vis:CY->Bool}{vis':CY->Bool}(h:Rd w wr g b n d l r s c D left cnt gi gc gr ga R vis)(ht:Touch ga wr w2)(ha:Holds w2 ga 43 (FK (Hg l vis') λj=>Bz l vis' j)):Rd w w2 g b n d l r s c D left cnt gi gc gr ga R vis':=
 ⟨h.bel.trans (ht.below h.lo.1 h.bel.size),h.ix.touch ht h.ne.2.2.1 h.ne.2.2.2.1,h.li,h.rg.kept (Gq ht) (by simpa using h.ne.2.2.2.1) (by simpa using h.ne.2.2.2.2.1),h.hi.touch ht h.ne.1,h.hc.touch ht h.ne.2.1,h.hr.touch ht h.ne.2.2.2.2.2,ha,h.lo,h.ne,h.nr⟩
theorem Rd.gone{w wr w2:World}{g b n:Nat}{d:Nat->Int}{l:List CY}{r s:Int}{c:Cm}{D:DataW Value}{left:Lit->Bool}{cnt:Nat}{gi gc gr ga R:Nat}{vis:CY->Bool}{left':Lit->Bool}{cnt':Nat}(h:Rd w wr g b n d l r s c D left cnt gi gc gr ga R vis)(hg:wr.grownBy w2 (some R))(hrg:w2.ranges prog 37 BZ b R n D left' cnt'):Rd w w2 g b n d l r s c D left' cnt' gi gc gr ga R vis:=by have a:=BM hg;exact⟨h.bel.trans (a.below h.lo.2.1 h.bel.size),h.ix.touch a h.nr.2.2.1 (λe=>h.rg.ne e.symm),h.li,hrg,h.hi.touch a h.nr.1,h.hc.touch a h.nr.2.1,h.hr.touch a h.nr.2.2.2,h.ha.touch a (λe=>h.ne.2.2.2.2.1 e.symm),h.lo,h.ne,h.nr⟩
theorem Rd.same{w wr:World}{g b n:Nat}{d:Nat->Int}{l:List CY}{r s:Int}{c:Cm}{D:DataW Value}{left:Lit->Bool}{cnt:Nat}{gi gc gr ga R:Nat}{vis:CY->Bool}{vis':CY->Bool}(h:Rd w wr g b n d l r s c D left cnt gi gc gr ga R vis)(h1:Hg l vis'=Hg l vis)(h2:∀j,Bz l vis' j=Bz l vis j):Rd w wr g b n d l r s c D left cnt gi gc gr ga R vis':=
 ⟨h.bel,h.ix,h.li,h.rg,h.hi,h.hc,h.hr,by rw[h1,show (λj:Nat=>Bz l vis' j)=λj:Nat=>Bz l vis j from funext λj=>h2 j];exact h.ha,h.lo,h.ne,h.nr⟩
structure Re(w wr:World)(g b n:Nat)(d:Nat->Int)(l:List CY)(r s:Int)(gi gr ga:Nat)(q:Int)(dd:Nat->Int):Prop where
 bel:Below w.heap.size w wr
 ix:DV wr g b n d l
 hi:Holds wr gi 37 [AA r,AA s]
 hr:Holds wr gr 43 (FK 0 λ_=>0)
 ha:Holds wr ga 43 (FK q dd)
 lo:w.heap.size<=ga/\w.heap.size<=gr
 ne:gi≠ga/\g≠ga/\b≠ga/\gr≠ga
theorem Re.below{w wr w2:World}{g b n:Nat}{d:Nat->Int}{l:List CY}{r s:Int}{gi gr ga:Nat}{q:Int}{dd:Nat->Int}(h:Re w wr g b n d l r s gi gr ga q dd)(hb:Below wr.heap.size wr w2):Re w w2 g b n d l r s gi gr ga q dd:=
 ⟨AO h.bel hb,h.ix.below hb,h.hi.below hb h.hi.lt,h.hr.below hb h.hr.lt,h.ha.below hb h.ha.lt,h.lo,h.ne⟩
theorem Re.wrote{w wr w2:World}{g b n:Nat}{d:Nat->Int}{l:List CY}{r s:Int}{gi gr ga:Nat}{q q':Int}{dd dd':Nat->Int}(h:Re w wr g b n d l r s gi gr ga q dd)(ht:Touch ga wr w2)(ha:Holds w2 ga 43 (FK q' dd')):Re w w2 g b n d l r s gi gr ga q' dd':=
 ⟨h.bel.trans (ht.below h.lo.1 h.bel.size),h.ix.touch ht h.ne.2.1 h.ne.2.2.1,h.hi.touch ht h.ne.1,h.hr.touch ht h.ne.2.2.2,ha,h.lo,h.ne⟩
set_option maxRecDepth 4000 in
theorem cZ(g b n:Nat)(d:Nat->Int)(l:List CY)(r s:Int)(c:Cm)(w:World)(h:DV w g b n d l)(hca:c.a.size<=1000000) :Calls prog 209 #[AP g,.agg #[AA r,AA s],.agg #[AA c.k,AA c.c,AA c.s,.string c.a,.string c.b,.string c.o,.string c.v]] w λe w'=> e=.returned (.agg (FK (Em l r s c) (CG l d r s c)).toArray)/\Below w.heap.size w w':=by
 have HI:=qh h;clear h;go_in;go_upto_region 2 with(fail);go_name_world W P;have hi:Holds W w.heap.size 37 [AA r,AA s]:=by rw[<-P];exact Aw (Aw (Aw (AC w _ _) _) _) _
 have hc:Holds W (w.heap.size+1) 23 c.cells:=by rw[<-P];have:=AC (w.alloc (.cells #[AA r,AA s] 37)) 23 c.cells;rw[World.size_alloc] at this;exact Aw (Aw this _) _
 have hr:Holds W (w.heap.size+1+1) 43 (FK 0 λ_=>0):=by rw[<-P];have:=AC ((w.alloc (.cells #[AA r,AA s] 37)).alloc (.cells c.cells.toArray 23)) 43 (FK 0 λ_=>0);rw[World.size_alloc,World.size_alloc] at this;exact Aw this _
 have ha:Holds W (w.heap.size+1+1+1) 43 (FK 0 λ_=>0):=by rw[<-P];have:=AC (((w.alloc (.cells #[AA r,AA s] 37)).alloc (.cells c.cells.toArray 23)).alloc (.cells (FK 0 λ_=>0).toArray 43)) 43 (FK 0 λ_=>0);rw[World.size_alloc,World.size_alloc,World.size_alloc] at this;exact this
 have V:Below w.heap.size w W:=by rw[<-P];go_grown
 have b0:W.heap.size=w.heap.size+1+1+1+1:=by rw[<-P];simp
 clear P;have hx:=HI.below V;have bv:=HI.lt;obtain⟨D,bh,hl⟩:=hx.map;have m0:=hx.ix.cell 0;simp only[List.getElem?_cons_zero] at m0;go_wp2_with (first|(at_range;refine wpList_range_own _ rfl _ 310 rfl 37 363 CV underlying310 BZ b n D rfl bh ?_;intro w0 bj S bz)|fail)
 go_frame
 have bu:=S;have N:Below W.heap.size W w0:=⟨S.os,S.tape,S.output,S.size,λk hk=>S.block k hk Vj⟩;have bs:=hx.lt;have bo:Hg l (EQ (Maps.has D) r s c)=0:=JG _ l _ λe I=>Td hl r s c e I;have bp:∀j,Bz l (EQ (Maps.has D) r s c) j=0:=λj=>JG _ l _ λe I=>by simp[Td hl r s c e I]
 have m:=qh (show Rd w w0 g b n d l r s c D (Maps.has D) (Maps.size D) w.heap.size (w.heap.size+1) (w.heap.size+1+1) (w.heap.size+1+1+1) W.heap.size (EQ (Maps.has D) r s c) from
  ⟨AO V N,hx.below N,hl,bj,hi.below N hi.lt,hc.below N hc.lt,hr.below N hr.lt,by rw[bo,funext λj:Nat=>bp j];exact ha.below N ha.lt,⟨BJ,BJ,BJ⟩,⟨BJ,BJ,BJ,BJ,BJ,BJ⟩,⟨BJ,BJ,BJ,BJ⟩⟩)
 clear bu N bs bo bp hi hc hr ha V b0 hx bv bh hl m0 bj S bz HI;generalize W.heap.size=R at m |-;generalize w.heap.size+1+1+1=G at m |-;generalize w.heap.size+1+1=gr at m |-;generalize w.heap.size+1=gc at m |-;generalize bf:w.heap.size=gi at m |-;rw[<-bf];rw[bf];go_loopw [8] (λ_ wr=>∃(left:Lit->Bool) (ba:Nat),Rd w wr g b n d l r s c D left ba gi gc gr G R (EQ left r s c)) (λ_ wr=>wr.rangeLeft b R);case atStart=>exact⟨_,_,m.o⟩
 case round=>
  clear m;obtain⟨left,ba,av⟩:=hrel;have al:=av.rg;have m:=qh av;clear av;go_wp2_with (first|(at_next;refine wpList_next_ranges _ rfl _ rfl 37 CV BZ (λp:Int × Int=>Dz p.1 p.2) (λv:Value=>v) (λb2 kl hk=>by obtain⟨r,s,rfl,_⟩:=Jo hk;exact⟨(r,s),rfl⟩) (λv y _=>⟨v,rfl⟩) b R n D _ _ rfl al ?_ ?_)|fail)
  .intro hc0 hl0;have bn:EQ left r s c=takes r s c:=oq hl0 r s c;rw[bn] at m;have f:=qh (show Re w wr g b n d l r s gi gr G (Em l r s c) (λj=>if j<0 then CG l d r s c j else Bz l (takes r s c) j) from
    ⟨m.bel,m.ix,m.hi,m.hr,m.ha,⟨m.lo.1,m.lo.2.2⟩,⟨m.ne.1,m.ne.2.2.1,m.ne.2.2.2.1,m.ne.2.2.2.2.2⟩⟩)
   clear m bn hl0 hc0 al;go_wp2_with fail;go_loopw [59] (λi wr=>∃j:Nat,j<=7/\i=AA j/\Re w wr g b n d l r s gi gr G (Em l r s c) (λt=>if t<j then CG l d r s c t else Bz l (takes r s c) t)) (λi _=>7 - (intOf i).toNat);case atStart=>exact⟨0,BJ,rfl,f.o⟩
   case round=>
    clear f;obtain⟨j,Y,rfl,bi⟩:=hrel;have f:=qh bi;clear bi;by_cases Z:j<7
    .have aj:=f.ha.cell (1+j);rw[show FK (Em l r s c) (λt=>if t<j then CG l d r s c t else Bz l (takes r s c) t)=AA (Em l r s c) :: DT (λt=>if t<j then CG l d r s c t else Bz l (takes r s c) t) from rfl,Hy _ _ _ Z,if_neg (Nat.lt_irrefl j)] at aj;have X:=f.ha.free (1+j);have U:=f.hi.cell 0;have K:=f.hi.cell 1;simp only[yA,yB] at U K;have bl:∀v,v=CG l d r s c j->FK (Em l r s c) (λt=>if t=j then v else if t<j then CG l d r s c t else Bz l (takes r s c) t)=FK (Em l r s c) (λt=>if t<j+1 then CG l d r s c t else Bz l (takes r s c) t):=λv hv=>by
      congr 1
      funext t
      by_cases u:t=j
      .rw[if_pos u,if_pos BJ,u,hv]
      .rw[if_neg u];by_cases C:t<j
       .rw[if_pos C,if_pos BJ]
       .rw[if_neg C,if_neg BJ]
     have a8:=qh bl;clear bl;have bk:=λ(W:World) (h:Holds W G 43 (FK (Em l r s c) λt=>if t<j then CG l d r s c t else Bz l (takes r s c) t)) (v:Int)=>by have:=h.set (1+j) (AA v);rw[YG _ _ _ Z] at this;exact this
     have az:=qh bk;clear bk;by_cases T:((j:Int)==r)=true
     .have H:=qh (show CG l d r s c j=if Cc r s then max (Bz l (takes r s c) j) (s-1) else Bz l (takes r s c) j by
       rw[CG,if_pos (by simpa using T)])
      go_wp2_with fail;refine Ah (E5 r s _) ?_;rintro w6 Q;have f:=qh (f.below Q);clear Q aj X U K T;by_cases J:Cc r s=true
      .have hs2:1<=s/\s<=1073741824:=by
        rcases GV r s with⟨_,e⟩|⟨_,_,e⟩|⟨_,_,_,e⟩|⟨_,_,_,_,e⟩|⟨_,_,h3,h4,_⟩
        .rw[J] at e;cases e
        .rw[J] at e;cases e
        .rw[J] at e;cases e
        .rw[J] at e;cases e
        .exact⟨h3,h4⟩
       have b1:IntKind.i64.wrap (s-1)=s-1:=IntWalk.i64_in _ BJ;have H:=qh (show max (Bz l (takes r s c) j) (s-1)=CG l d r s c j by rw[H.o,if_pos J]);go_upto_region 14 with(fail);have aj:=f.ha.cell (1+j);rw[show FK (Em l r s c) (λt=>if t<j then CG l d r s c t else Bz l (takes r s c) t)=AA (Em l r s c) :: DT (λt=>if t<j then CG l d r s c t else Bz l (takes r s c) t) from rfl,Hy _ _ _ Z,if_neg (Nat.lt_irrefl j)] at aj;have X:=f.ha.free (1+j);have K:=f.hi.cell 1;simp only[yA,yB] at K;go_region;go_wp2_with fail;go_roundw;case rel=>
        refine⟨j+1,BJ,by go_num,f.wrote ((Touch.refl G w6).setCell (1+j) _).drew ?_⟩;rw[<-a8.o _ H.o];exact az.o _ f.ha _
       case measure=>simp[intOf];omega
      .have J:Cc r s=false:=by revert J;cases Cc r s<;>simp
       have H:=qh (show CG l d r s c j=Bz l (takes r s c) j by rw[H.o,J];rfl);go_wp2_with fail;go_roundw;case rel=>
        refine⟨j+1,BJ,by go_num,?_⟩;have:(λt=>if t<j then CG l d r s c t else Bz l (takes r s c) t)=λt=>if t<j+1 then CG l d r s c t else Bz l (takes r s c) t:=by
         funext t
         by_cases u:t=j
         .rw[u,if_neg (Nat.lt_irrefl j),if_pos (Nat.lt_succ_self j),H.o]
         .by_cases C:t<j
          .rw[if_pos C,if_pos BJ]
          .rw[if_neg C,if_neg BJ]
        rw[<-this];exact f.o
       case measure=>simp[intOf];omega
     .have T:((j:Int)==r)=false:=by simpa using T
      have H:=qh (show max (Bz l (takes r s c) j) (d j)=CG l d r s c j by
       rw[CG,if_neg (by simpa using T)])
      have cj:=f.ix.ix.cell (1+j);rw[Hy _ _ _ Z] at cj;go_upto_region 12 with(fail);clear T U K;go_region;go_wp2_with fail;go_roundw;case rel=>
       refine⟨j+1,BJ,by go_num,f.wrote ((Touch.refl G wr).setCell (1+j) _).drew ?_⟩;rw[<-a8.o _ H.o];exact az.o _ f.ha _
      case measure=>simp[intOf];omega
    .have hj77:j=7:=BJ
     subst hj77;have be:FK (Em l r s c) (λt=>if t<7 then CG l d r s c t else Bz l (takes r s c) t)=FK (Em l r s c) (CG l d r s c):=by simp[FK,DT]
     have E:=f.ha;rw[be] at E;have a0:=E.cell 0;have a1:=E.cell 1;have a2:=E.cell 2;have a3:=E.cell 3;have a4:=E.cell 4;have a5:=E.cell 5;have a6:=E.cell 6;have a7:=E.cell 7;simp only[FK,DT,yA,yB] at a0 a1 a2 a3 a4 a5 a6 a7;have rf:=λi=>f.hr.free i;have r0:=f.hr.cell 0;have r1:=f.hr.cell 1;have r2:=f.hr.cell 2;have r3:=f.hr.cell 3;have r4:=f.hr.cell 4;have r5:=f.hr.cell 5;have r6:=f.hr.cell 6;have r7:=f.hr.cell 7;simp only[FK,DT,yA,yB] at r0 r1 r2 r3 r4 r5 r6 r7;clear E be Y Z;have hT:=(((((((((Touch.refl gr wr).setCell 0 (AA (Em l r s c))).setCell 1 (AA (CG l d r s c 0))).setCell 2 (AA (CG l d r s c 1))).setCell 3 (AA (CG l d r s c 2))).setCell 4 (AA (CG l d r s c 3))).setCell 5 (AA (CG l d r s c 4))).setCell 6 (AA (CG l d r s c 5))).setCell 7 (AA (CG l d r s c 6)));have A:=((((((((f.hr.set 0 (AA (Em l r s c))).set 1 (AA (CG l d r s c 0))).set 2 (AA (CG l d r s c 1))).set 3 (AA (CG l d r s c 2))).set 4 (AA (CG l d r s c 3))).set 5 (AA (CG l d r s c 4))).set 6 (AA (CG l d r s c 5))).set 7 (AA (CG l d r s c 6)));simp only[FK,DT,List.set_cons_zero,List.set_cons_succ] at A;have hB:=f.bel.trans (hT.below f.lo.2 f.bel.size);obtain⟨HS,V⟩:=WZ A hB;clear A hB hT;go_wp2_with fail;have A:=HS.o;have y0:=A.cell 0;have y1:=A.cell 1;have y2:=A.cell 2;have y3:=A.cell 3;have y4:=A.cell 4;have y5:=A.cell 5;have y6:=A.cell 6;have y7:=A.cell 7;simp only[yA,yB] at y0 y1 y2 y3 y4 y5 y6 y7;exact bodyPost_ret (v:=.agg (FK (Em l r s c) (CG l d r s c)).toArray) (by simp[results,results209,go_sem,y0,y1,y2,y3,y4,y5,y6,y7,FK,DT]) rfl ⟨rfl,V.o⟩
  .intro pr ps cv kl yd yp w1 cnt1 hkey hlk O hat hrg1 hlt hg1 hs1 hen;have hy:yd=.held cv:=by unfold BZ at O;injection O with O;injection O with O _;exact O.symm
   rw[hy] at hat;obtain⟨e,I,bd,bt⟩:=m.li.find m.ix.wf hat;have bw:pr=e.r/\ps=e.s:=by have hw:=m.ix.wf e I;rw[<-bd] at hkey;have:=CV.inj hkey (DX e.r e.s hw.1 hw.2);simp only[Dz,Value.agg.injEq,Array.mk.injEq,List.cons.injEq,Value.int.injEq,true_and,and_true] at this;exact this
   obtain⟨u,C⟩:=bw;subst u;subst C;subst bt;subst bd;have ar:=m.ix.good e I;have bb:=λW=>ZA e.c c W (by have:=ar.2.2.2;omega) hca;obtain⟨HC,ay,am,an,bq⟩:=dD bb (m.gone hg1 hrg1) al.left_eq hlt hlk;clear bb hrg1 al hlt hg1 hs1 O hy hat hkey hlk;unfold CY.val NF Dz at hen;simp only[Dz,CY.val,NF] at hen |-;have bm:takes r s c e=(!(e.r==r&&decide (s<=e.s))&&IU e.c c):=rfl;obtain⟨M,HG,L⟩:=bP bm ar I;clear bm ar I;go_upto_region 5 with(fail);go_name_world W5 ah;obtain⟨k,ai⟩:∃k:Nat,e.r=k:=⟨e.r.toNat,by have:=HG.1;omega⟩;have bg:k<7:=by have:=HG.1;omega
   have aa:Holds W5 w1.heap.size 37 [AA k,AA e.s]:=by rw[<-ah,ai];exact Aw (AC w1 _ _) _
   have F:Holds W5 (w1.heap.size+1) 363 [AA e.c.k,AA e.c.c,AA e.c.s,.string e.c.a,.string e.c.b,.string e.c.o,.string e.c.v,AA e.q]:=by rw[<-ah];have:=AC (w1.alloc (.cells #[AA e.r,AA e.s] 37)) 363 [AA e.c.k,AA e.c.c,AA e.c.s,.string e.c.a,.string e.c.b,.string e.c.o,.string e.c.v,AA e.q];rw[World.size_alloc] at this;exact this
   obtain⟨x,ao⟩:=WZ (ay.below (show Below w1.heap.size w1 W5 by rw[<-ah];go_grown)) (show G≠w1.heap.size/\G≠w1.heap.size+1 by have:=ay.ha.lt;omega);clear ah;rw[ai] at M;have ax:=qh ai;clear ai;generalize w1.heap.size+1=gn at F ao |-;generalize w1.heap.size=gk at aa ao |-;have k0:=aa.cell 0;have k1:=aa.cell 1;have n0:=F.cell 0;have n1:=F.cell 1;have n2:=F.cell 2;have n3:=F.cell 3;have n4:=F.cell 4;have n5:=F.cell 5;have n6:=F.cell 6;have n7:=F.cell 7;have U:=x.hi.cell 0;have K:=x.hi.cell 1;have c0:=x.hc.cell 0;have c1:=x.hc.cell 1;have c2:=x.hc.cell 2;have c3:=x.hc.cell 3;have c4:=x.hc.cell 4;have c5:=x.hc.cell 5;have c6:=x.hc.cell 6;simp only[Cm.cells,yA,yB] at k0 k1 n0 n1 n2 n3 n4 n5 n6 n7 U K c0 c1 c2 c3 c4 c5 c6;obtain⟨ab,ac⟩:=WZ aa F;clear aa F;generalize IU e.c c=cl at HC M;have E:(((k:Int)==r)=true/\s<=e.s)\/(((k:Int)==r)=true/\¬s<=e.s)\/((k:Int)==r)=false:=by
    by_cases u:((k:Int)==r)=true
    .by_cases C:s<=e.s
     .exact .inl ⟨u,C⟩
     .exact .inr (.inl ⟨u,C⟩)
    .exact .inr (.inr (by simpa using u))
   rcases E with⟨u,C⟩|⟨u,C⟩|u
   .have HF:=qh (show takes r s c e=false by rw[M.o,u,show decide (s<=e.s)=true from by simp[C]];rfl);clear M;go_wp2_with fail;go_roundw;case rel=>exact⟨_,_,x.same (Qu x.li x.ix.wf L.o r s c HF.o) λj=>QD x.li x.ix.wf L.o r s c HF.o j⟩
    case measure=>rw[x.rg.left_eq,am.o];exact an.o
   all_goals
    have ad:=qh (show takes r s c e=cl by first|(rw[M.o,u];simp;done)|(rw[M.o,u,show decide (s<=e.s)=false from by simp;omega];simp));clear M;go_wp2_with fail;refine(HC.o _).mono ?_;rintro e' w6 ⟨rfl,Q⟩;obtain⟨B,ab,ac⟩:=bP (x.below Q) (ab.below Q ab.lt) (ac.below Q ac.lt);clear Q k0 k1 n0 n1 n2 n3 n4 n5 n6 n7 U K c0 c1 c2 c3 c4 c5 c6;cases cl
    .go_wp2_with fail;go_roundw;case rel=>exact⟨_,_,B.same (Qu B.li B.ix.wf L.o r s c ad.o) λj=>QD B.li B.ix.wf L.o r s c ad.o j⟩
     case measure=>rw[B.rg.left_eq,am.o];exact an.o
    have bx:IntKind.i64.wrap (e.q+1)=e.q+1:=IntWalk.i64_in _ (by have:=HG.2.2.1;omega);have a0:=B.ha.cell 0;have X:=λi=>B.ha.free i;have n7:=ac.cell 7;simp only[FK,yA,yB] at a0 n7;go_upto_region 7 with(fail);go_name_world W7 bc;have ap:=B.ha.set 0 (AA (max (Hg l (EQ left r s c)) (e.q+1)));have ag:=(Touch.refl G w6).setCell 0 (AA (max (Hg l (EQ left r s c)) (e.q+1)));rw[bc] at ap ag;have ae:Holds W7 G 43 (FK (max (Hg l (EQ left r s c)) (e.q+1)) λj=>Bz l (EQ left r s c) j):=ap;clear bc a0 X n7 bx ap;have aq:=ab.touch ag (λh=>ao.1 h.symm);have k0:=aq.cell 0;have k1:=aq.cell 1;simp only[yA,yB] at k0 k1;have ak:=ae.cell (1+k);rw[show FK (max (Hg l (EQ left r s c)) (e.q+1)) (λj:Nat=>Bz l (EQ left r s c) j)=AA (max (Hg l (EQ left r s c)) (e.q+1)) :: DT (λj:Nat=>Bz l (EQ left r s c) j) from rfl,Hy _ _ _ bg] at ak;have X:=ae.free (1+k);have A:=ae.set (1+k) (AA (max (Bz l (EQ left r s c) k) e.s));rw[YG _ _ _ bg] at A;obtain⟨HS,a9⟩:=WZ A (ag.setCell (1+k) (AA (max (Bz l (EQ left r s c) k) e.s)));clear A ae ag aq;go_region;go_wp2_with fail;go_roundw;case rel=>
     refine⟨_,_,B.wrote a9.drew ?_⟩;have au:=B.li;have aw:=B.ix.wf;have hd:=ZN (left:=left) au aw L.o r s c ad.o;rw[ax.o] at hd;have br:FK (Hg l (EQ (λz=>left z&&!z.sameKey e.key) r s c)) (λj:Nat=>Bz l (EQ (λz=>left z&&!z.sameKey e.key) r s c) j)=FK (max (Hg l (EQ left r s c)) (e.q+1)) (λj:Nat=>if j=k then max (Bz l (EQ left r s c) k) e.s else Bz l (EQ left r s c) j):=by
      rw[aH (left:=left) au aw L.o r s c ad.o]
      congr 1
      funext j
      by_cases Y:j=k
      .rw[if_pos Y,Y];exact hd
      .rw[if_neg Y];exact ZM (left:=left) au aw L.o r s c j (by rw[ax.o];omega) bq.o
     rw[br];exact HS.o
    case measure=>rw[(B.rg.kept (Gq a9.drew) (by simpa using B.ne.2.2.2.1) (by simpa using B.ne.2.2.2.2.1)).left_eq,am.o];exact an.o
end
def hd(p:List Nat):List Nat:=GH 2 p.length++p
def fr(p:List Nat):List Nat:=if p.length=0\/16384<p.length then [] else hd p++GH 4 (SumP.on 0 (hd p))
theorem F6{P:Program}{w:World}{ops:Array Oper}{rest:List Oper}{o:Oper}{a:Act}{Q:Exit->Act->World->Prop}(hgd:o.guard=none)(s x:Operand)(t:TypeId) (ho:o.op=.call { callee:=.builtin .append,args:=#[s,x],argTypes:=#[t,t] }) (base:Nat) (e:TypeId) (z:Value) (size bytes:Nat) (ht:P.underlying t=some (.slice e)) (hi:(P.info? e).map (λi=>(i.zero,i.size,i.bytes))=some (some z,size,bytes)) (hsz:0<size) (g n cap:Nat) (xs:List Value) (hs:a.eval s=.slice (Ac g) n cap) (hown:w.ownsRow base e size (.slice (Ac g) n cap) n xs) (sp:Option Addr) (m c:Nat) (news:List Value) (hx:a.eval x=.slice sp m c) (hl:news.length=m*size) (hsrc:Reads w sp news) (hnil:sp=none->c=0) (h1:∀u∈news,u.oneCell'=true) (hroom:n+m<=cap) (hbase:base<=w.heap.size) (h:∀w',w'.ownsRow base e size (.slice (Ac g) (n+m) cap) (n+m) (xs++news)->Below base w w'->w.grownBy w' (some g)->wpList P ops Q rest (a.put o.dst (.slice (Ac g) (n+m) cap)) w'):wpList P ops Q (o :: rest) a w:=by
 obtain⟨i,l,D,A,C⟩:=info_parts hi;cases sp with
 | none=>
  obtain rfl:=hnil rfl;have v:news=[]:=by
   by_cases f:0<news.length
   .obtain⟨b,B,d,_⟩:=hsrc f;cases d
   .exact List.eq_nil_of_length_eq_zero BJ
  subst v;have y:m=0:=by
   have r:m*size=0:=by simpa using hl.symm
   rcases Nat.mul_eq_zero.1 r with h|h<;>omega
  subst y;refine wpList_append_own_none hgd s x t ho base e i size ht l _ n xs hs hown hx ?_;exact h w (by simpa using hown) Vk ⟨rfl,rfl,rfl,Ve,λ_ _ _=>rfl⟩
 | some ad=>
  refine wpList_append_own_spare w hgd s x t ho base e i size ht l A g n cap xs hs hown ad m c news hx hl ?_ h1 hroom ?_
  .intro j u hu;have f:0<news.length:=by have:=(List.getElem?_eq_some_iff.1 hu).1;omega
   obtain⟨b,B,d,_,q⟩:=hsrc f;simp only[Option.some.injEq] at d;subst d;rw[JE];exact q j u hu
  .intro w' ho' hg;exact h w' ho' ((Below.refl _ _).grown hg hbase λk p=>by
    simp only[Option.some.injEq] at p;subst p;exact(hown.lt _ rfl).1) hg
theorem ZT(a p:Option Addr)(len cap plen pcap:Nat)(bs ps:List Nat)(w:World)(hb:CX w a len bs)(hnil:a=none->cap=0)(hl:len<=140737488351232)(hp:CX w p plen ps)(hpnil:p=none->pcap=0)(hpl:plen<=140737488351232)(h1:1<=plen)(h2:plen<=16384) :Calls prog 123 #[.slice a len cap,.slice p plen pcap] w λe w'=>e=.returned (.slice (Ac w.heap.size) (len+(plen+6)) (len+2+plen+4))/\CX w' (Ac w.heap.size) (len+(plen+6)) (bs++(hd ps++GH 4 (SumP.on 0 (hd ps))))/\Below w.heap.size w w'/\w'.ownsRow w.heap.size 5 1 (.slice (Ac w.heap.size) (len+(plen+6)) (len+2+plen+4)) (len+(plen+6)) (Ak (bs++(hd ps++GH 4 (SumP.on 0 (hd ps))))):=by
 have ao:=hb.len;have u:=hp.len;obtain⟨y,C,ad,ai⟩:=bY hb hp hnil hpnil;clear hb hp hnil hpnil;have e0:((plen:Int)==0)=false:=by simp;omega
 have e1:decide (16384<(plen:Int))=false:=by simp;omega
 go_in;go_upto_region 1 with(fail);go_wp2_with (first|(at_make;go_must (refine GZ w rfl (.const (AA 0)) (.tmp 13) 127 rfl 5 (.int .u8 0) 1 rfl ND rfl .i64 .i64 _ _ 0 (len+2+plen+4) rfl rfl rfl (by push_cast;rfl) BJ BJ (by unfold maxLen;omega) ?_);intro w1 an M ax;have ae:=qh (made_owns w.heap.size Ve an (by unfold maxLen;omega)))|(at_builtin;go_must (refine F6 rfl (.tmp 14) (.tmp 15) 127 rfl w.heap.size 5 (.int .u8 0) 1 1 rfl ND Iz w.heap.size 0 (len+2+plen+4) [] rfl ae.o a len cap (Ak bs) rfl (by rw[BU,ao,Nat.mul_one]) (y.reads.below M) ad.o (Dp bs) BJ BJ ?_);intro w2 t aj _;rw[Nat.zero_add,List.nil_append] at t;have z:=qh t;clear t));have f:=put_any none 0 0 [] 2 plen w2 (CX.nil _ _) (λ_=>rfl) BJ BJ;rw[show J7 2=2 from Iz,Nat.zero_add,List.nil_append] at f;refine f.mono ?_;rintro e w3 ⟨q2,c2,rfl,_,_,_,_,q,P⟩;have af:=qh P;clear P;have n:Below w.heap.size w w2:=M.trans aj;have v:=qh (n.trans (q.mono n.size));have az:=q.size;have F:Ak (GH 2 plen)++Ak ps=Ak (hd ps):=by unfold hd Ak;rw[u];simp
 have g:∀x∈hd ps,x<256:=by
  intro x b;unfold hd at b;rcases List.mem_append.1 b with b|b
  .exact OJ _ _ x b
  .exact C.2.2.1 x b
 have N:(hd ps).length=2+plen:=by unfold hd;simp[WA,u]
 obtain⟨m,T,Y⟩:=bP g F N;clear g F N;have ay:=n.size;go_wp2_with (first|(at_builtin;refine Ag rfl (.tmp 29) (.tmp 30) 127 rfl w2.heap.size 5 (.int .u8 0) 1 1 rfl ND rfl Iz _ 2 (Ak (GH 2 plen)) rfl af.o p plen pcap (Ak ps) rfl (by rw[BU,u,Nat.mul_one]) (C.reads.below v.o) ai.o (Dp ps) (by unfold maxLen;omega) BJ BJ ?_;intro v4 w4 l r _;rw[T.out] at l;obtain⟨i,c4,rfl,au,av,G,H⟩:=IM l BJ;obtain⟨A,Z,U⟩:=bP l (H _ rfl m.o) G;clear l H G;have a0:=r.size)|(at_builtin;go_must (refine F6 rfl (.tmp 32) (.tmp 33) 127 rfl w.heap.size 5 (.int .u8 0) 1 1 rfl ND Iz w.heap.size len (len+2+plen+4) (Ak bs) rfl (DK z.o (q.trans r)) i (2+plen) c4 (Ak (hd ps)) rfl (by rw[BU,Y.o,Nat.mul_one]) Z.reads U.o (Dp _) BJ BJ ?_);intro w5 Q ak am;have ag:=qh Q;clear Q));have ar:=SumP.qX 0 (hd ps);have aw:=(z.lt w.heap.size rfl).2;have ap:(Value.slice i (2+plen) c4).ownBlock=none\/(Value.slice i (2+plen) c4).ownBlock≠some w.heap.size:=by
  cases ho:(Value.slice i (2+plen) c4).ownBlock with
  | none=>exact .inl rfl
  | some k=>
   right;have:=(A.lt k ho).1;intro h;simp only[Option.some.injEq] at h;omega
 have R:=A.kept am ap;obtain⟨S,D,j,_,_,_,I⟩:=IM R BJ;have aa:=qh (I _ rfl m.o);obtain⟨rfl,_,rfl⟩:S=i/\True/\D=c4:=by simp only[Value.slice.injEq] at j;exact⟨j.1.symm,trivial,j.2.2.symm⟩
 clear R I j;have L:Below w.heap.size w w5:=(v.trans (r.mono BJ)).trans ak;refine Ah (WB S (2+plen) D (hd ps) w5 aa.o) ?_;rintro w6 rfl;generalize hc:SumP.on 0 (hd ps)=c at ar |-;go_wp2_with fail;have f:=put_any none 0 0 [] 4 c w5 (CX.nil _ _) (λ_=>rfl) BJ BJ;rw[show J7 4=4 from Iz,Nat.zero_add,List.nil_append] at f;refine f.mono ?_;rintro e w6 ⟨q6,c6,rfl,_,_,J,O,s,_⟩;obtain⟨V,ac⟩:=WZ J O;clear J O f;have aq:=L.size;have a1:=s.size;have X:=qh (show Ak bs++Ak (hd ps)++Ak (GH 4 c)=Ak (bs++(hd ps++GH 4 c)) from by simp[Ak]);go_wp2_with (at_builtin;go_must (refine F6 rfl _ _ 127 rfl w.heap.size 5 (.int .u8 0) 1 1 rfl ND Iz w.heap.size (len+(2+plen)) (len+2+plen+4) (Ak bs++Ak (hd ps)) rfl (DK ag.o s) q6 4 c6 (Ak (GH 4 c)) rfl (by rw[BU,WA]) V.reads ac.o (Dp _) BJ BJ ?_);intro w7 d al _;have B:=qh d;clear d);have d:=B.o;rw[X.o,show len+(2+plen)+4=len+(plen+6) by omega] at d;rw[show len+(2+plen)+4=len+(plen+6) by omega];have g:∀x∈bs++(hd ps++GH 4 c),x<256:=by
  intro x b;rcases List.mem_append.1 b with b|b
  .exact y.2.2.1 x b
  .rcases List.mem_append.1 b with b|b
   .exact m.o x b
   .exact OJ _ _ x b
 obtain⟨q7,c7,E,_,_,_,K⟩:=IM d BJ;have ab:=qh (K _ rfl g);simp only[Value.slice.injEq] at E;obtain⟨rfl,_,rfl⟩:=E;obtain⟨ah,W⟩:=WZ d ((L.trans (s.mono aq)).trans al);clear B d g K;subst hc;go_ret;exact⟨rfl,ab.o,W.o,ah.o⟩
end Go.Proofs.YtimdpiifpibgfaaGreatDoor
