/- A part of the proof that the law TopCopies returns true for every input. -/
import Derived.Deep.DeepMust
import Derived.JoinedOf
import Derived.Test.YtimdpiifpibgfaaGreatDoorQc9
set_option linter.all false
set_option maxRecDepth 20000
set_option maxHeartbeats 16000000
open Go.RowKit Go.Maps
namespace Go.Proofs.YtimdpiifpibgfaaGreatDoor
open Tryz
section
def Eg(q:Int)(d:Nat→Int):List Value:=.int .i64 q :: Cf d
theorem Fz{w w':World}{b:Nat}(h:Touch b w w'):w.grownBy w' (some b):=⟨h.os,h.tape,h.output,h.size,λk hk hne=>h.block k hk (λe=>hne (by rw[e]))⟩
theorem VM(q:Int)(d:Nat→Int)(k:Nat)(hk:k<7)(v:Int):(Eg q d).set (1+k) (.int .i64 v)=Eg q λj=>if j=k then v else d j:=by
 have:k=0∨k=1∨k=2∨k=3∨k=4∨k=5∨k=6:=by omega
 rcases this with rfl|rfl|rfl|rfl|rfl|rfl|rfl<;>rfl
structure Rd(w wr:World)(g b n:Nat)(d:Nat→Int)(l:List Bf)(r s:Int)(c:Cm)(D:DataW Value)(left:Lit→Bool)(cnt:Nat)(gi gc gr ga R:Nat)(vis:Bf→Bool):Prop where
 bel:Below w.heap.size w wr
 ix:DL wr g b n d l
 li:Lists D l
 rg:wr.ranges prog 37 BO b R n D left cnt
 hi:Holds wr gi 37 [.int .i64 r,.int .i64 s]
 hc:Holds wr gc 23 c.cells
 hr:Holds wr gr 43 (Eg 0 λ_=>0)
 ha:Holds wr ga 43 (Eg (GN l vis) λj=>CE l vis j)
 lo:w.heap.size≤ga∧w.heap.size≤R∧w.heap.size≤gr
 ne:gi≠ga∧gc≠ga∧g≠ga∧b≠ga∧R≠ga∧gr≠ga
 nr:gi≠R∧gc≠R∧g≠R∧gr≠R
theorem Rd.below{w wr w2:World}{g b n:Nat}{d:Nat→Int}{l:List Bf}{r s:Int}{c:Cm}{D:DataW Value}{left:Lit→Bool}{cnt:Nat}{gi gc gr ga R:Nat}{vis:Bf→Bool}(h:Rd w wr g b n d l r s c D left cnt gi gc gr ga R vis)(hb:Below wr.heap.size wr w2):Rd w w2 g b n d l r s c D left cnt gi gc gr ga R vis:=
 ⟨AB h.bel hb,h.ix.below hb,h.li,h.rg.kept (row:=none) ⟨hb.os,hb.tape,hb.output,hb.size,λk hk _=>hb.block k hk⟩ (by simp) (by simp),h.hi.below hb h.hi.lt,h.hc.below hb h.hc.lt,h.hr.below hb h.hr.lt,h.ha.below hb h.ha.lt,h.lo,h.ne,h.nr⟩
theorem Rd.wrote{w wr w2:World}{g b n:Nat}{d:Nat→Int}{l:List Bf}{r s:Int}{c:Cm}{D:DataW Value}{left:Lit→Bool}{cnt:Nat}{gi gc gr ga R:Nat}{vis:Bf→Bool}{vis':Bf→Bool}(h:Rd w wr g b n d l r s c D left cnt gi gc gr ga R vis)(ht:Touch ga wr w2)(ha:Holds w2 ga 43 (Eg (GN l vis') λj=>CE l vis' j)):Rd w w2 g b n d l r s c D left cnt gi gc gr ga R vis':=
 ⟨h.bel.trans (ht.below h.lo.1 h.bel.size),h.ix.touch ht h.ne.2.2.1 h.ne.2.2.2.1,h.li,h.rg.kept (Fz ht) (by simpa using h.ne.2.2.2.1) (by simpa using h.ne.2.2.2.2.1),h.hi.touch ht h.ne.1,h.hc.touch ht h.ne.2.1,h.hr.touch ht h.ne.2.2.2.2.2,ha,h.lo,h.ne,h.nr⟩
theorem Rd.gone{w wr w2:World}{g b n:Nat}{d:Nat→Int}{l:List Bf}{r s:Int}{c:Cm}{D:DataW Value}{left:Lit→Bool}{cnt:Nat}{gi gc gr ga R:Nat}{vis:Bf→Bool}{left':Lit→Bool}{cnt':Nat}(h:Rd w wr g b n d l r s c D left cnt gi gc gr ga R vis)(hg:wr.grownBy w2 (some R))(hrg:w2.ranges prog 37 BO b R n D left' cnt'):Rd w w2 g b n d l r s c D left' cnt' gi gc gr ga R vis:=by have ht:=BM hg;exact⟨h.bel.trans (ht.below h.lo.2.1 h.bel.size),h.ix.touch ht h.nr.2.2.1 (λe=>h.rg.ne e.symm),h.li,hrg,h.hi.touch ht h.nr.1,h.hc.touch ht h.nr.2.1,h.hr.touch ht h.nr.2.2.2,h.ha.touch ht (λe=>h.ne.2.2.2.2.1 e.symm),h.lo,h.ne,h.nr⟩
theorem Rd.same{w wr:World}{g b n:Nat}{d:Nat→Int}{l:List Bf}{r s:Int}{c:Cm}{D:DataW Value}{left:Lit→Bool}{cnt:Nat}{gi gc gr ga R:Nat}{vis:Bf→Bool}{vis':Bf→Bool}(h:Rd w wr g b n d l r s c D left cnt gi gc gr ga R vis)(h1:GN l vis'=GN l vis)(h2:∀j,CE l vis' j=CE l vis j):Rd w wr g b n d l r s c D left cnt gi gc gr ga R vis':=
 ⟨h.bel,h.ix,h.li,h.rg,h.hi,h.hc,h.hr,by rw[h1,show (λj:Nat=>CE l vis' j)=λj:Nat=>CE l vis j from funext λj=>h2 j];exact h.ha,h.lo,h.ne,h.nr⟩
structure Re(w wr:World)(g b n:Nat)(d:Nat→Int)(l:List Bf)(r s:Int)(gi gr ga:Nat)(q:Int)(dd:Nat→Int):Prop where
 bel:Below w.heap.size w wr
 ix:DL wr g b n d l
 hi:Holds wr gi 37 [.int .i64 r,.int .i64 s]
 hr:Holds wr gr 43 (Eg 0 λ_=>0)
 ha:Holds wr ga 43 (Eg q dd)
 lo:w.heap.size≤ga∧w.heap.size≤gr
 ne:gi≠ga∧g≠ga∧b≠ga∧gr≠ga
theorem Re.below{w wr w2:World}{g b n:Nat}{d:Nat→Int}{l:List Bf}{r s:Int}{gi gr ga:Nat}{q:Int}{dd:Nat→Int}(h:Re w wr g b n d l r s gi gr ga q dd)(hb:Below wr.heap.size wr w2):Re w w2 g b n d l r s gi gr ga q dd:=
 ⟨AB h.bel hb,h.ix.below hb,h.hi.below hb h.hi.lt,h.hr.below hb h.hr.lt,h.ha.below hb h.ha.lt,h.lo,h.ne⟩
theorem Re.wrote{w wr w2:World}{g b n:Nat}{d:Nat→Int}{l:List Bf}{r s:Int}{gi gr ga:Nat}{q q':Int}{dd dd':Nat→Int}(h:Re w wr g b n d l r s gi gr ga q dd)(ht:Touch ga wr w2)(ha:Holds w2 ga 43 (Eg q' dd')):Re w w2 g b n d l r s gi gr ga q' dd':=
 ⟨h.bel.trans (ht.below h.lo.1 h.bel.size),h.ix.touch ht h.ne.2.1 h.ne.2.2.1,h.hi.touch ht h.ne.1,h.hr.touch ht h.ne.2.2.2,ha,h.lo,h.ne⟩
set_option maxRecDepth 4000 in
theorem Xv(g b n:Nat)(d:Nat→Int)(l:List Bf)(r s:Int)(c:Cm)(w:World)(h:DL w g b n d l)(hca:c.a.size≤1000000) :Calls prog 209 #[.pointer (some ⟨g,0,none⟩),.agg #[.int .i64 r,.int .i64 s],.agg #[.int .i64 c.k,.int .i64 c.c,.int .i64 c.s,.string c.a,.string c.b,.string c.o,.string c.v]] w λe w'=> e=.returned (.agg (Eg (FD l r s c) (CB l d r s c)).toArray)∧Below w.heap.size w w':=by
 have HI:=qh h;clear h;go_in;go_upto_region 2 with(fail);go_name_world W hW;have hi:Holds W w.heap.size 37 [.int .i64 r,.int .i64 s]:=by rw[←hW];exact Ak (Ak (Ak (AA w _ _) _) _) _
 have hc:Holds W (w.heap.size+1) 23 c.cells:=by rw[←hW];have:=AA (w.alloc (.cells #[.int .i64 r,.int .i64 s] 37)) 23 c.cells;rw[World.size_alloc] at this;exact Ak (Ak this _) _
 have hr:Holds W (w.heap.size+1+1) 43 (Eg 0 λ_=>0):=by rw[←hW];have:=AA ((w.alloc (.cells #[.int .i64 r,.int .i64 s] 37)).alloc (.cells c.cells.toArray 23)) 43 (Eg 0 λ_=>0);rw[World.size_alloc,World.size_alloc] at this;exact Ak this _
 have ha:Holds W (w.heap.size+1+1+1) 43 (Eg 0 λ_=>0):=by rw[←hW];have:=AA (((w.alloc (.cells #[.int .i64 r,.int .i64 s] 37)).alloc (.cells c.cells.toArray 23)).alloc (.cells (Eg 0 λ_=>0).toArray 43)) 43 (Eg 0 λ_=>0);rw[World.size_alloc,World.size_alloc,World.size_alloc] at this;exact this
 have HB:Below w.heap.size w W:=by rw[←hW];go_grown
 have hsz:W.heap.size=w.heap.size+1+1+1+1:=by rw[←hW];simp
 clear hW;have hx:=HI.below HB;have hglt:=HI.lt;obtain⟨D,hown,hl⟩:=hx.map;have m0:=hx.ix.cell 0;simp only[List.getElem?_cons_zero] at m0;go_wp2_with (first|(at_range;refine wpList_range_own _ rfl _ 310 rfl 37 363 CG underlying310 BO b n D rfl hown ?_;intro w0 hrg0 hg0 hs0)|fail)
 go_frame
 have hgb:=hg0;have hB0:Below W.heap.size W w0:=⟨hg0.os,hg0.tape,hg0.output,hg0.size,λk hk=>hg0.block k hk (by simp)⟩;have hblt:=hx.lt;have hz0:GN l (EE (Maps.has D) r s c)=0:=IG _ l _ λe he=>QY hl r s c e he;have hz1:∀j,CE l (EE (Maps.has D) r s c) j=0:=λj=>IG _ l _ λe he=>by simp[QY hl r s c e he]
 have HR:=qh (show Rd w w0 g b n d l r s c D (Maps.has D) (Maps.size D) w.heap.size (w.heap.size+1) (w.heap.size+1+1) (w.heap.size+1+1+1) W.heap.size (EE (Maps.has D) r s c) from
  ⟨AB HB hB0,hx.below hB0,hl,hrg0,hi.below hB0 hi.lt,hc.below hB0 hc.lt,hr.below hB0 hr.lt,by rw[hz0,funext λj:Nat=>hz1 j];exact ha.below hB0 ha.lt,⟨by omega,by omega,by omega⟩,⟨by omega,by omega,by omega,by omega,by omega,by omega⟩,⟨by omega,by omega,by omega,by omega⟩⟩)
 clear hgb hB0 hblt hz0 hz1 hi hc hr ha HB hsz hx hglt hown hl m0 hrg0 hg0 hs0 HI;generalize W.heap.size=R at HR ⊢;generalize w.heap.size+1+1+1=ga at HR ⊢;generalize w.heap.size+1+1=gr at HR ⊢;generalize w.heap.size+1=gc at HR ⊢;generalize hgi:w.heap.size=gi at HR ⊢;rw[←hgi];rw[hgi];go_loopw [8] (λ_ wr=>∃(left:Lit→Bool) (cnt:Nat),Rd w wr g b n d l r s c D left cnt gi gc gr ga R (EE left r s c)) (λ_ wr=>wr.rangeLeft b R);case atStart=>exact⟨_,_,HR.o⟩
 case round=>
  clear HR;obtain⟨left,cnt,hrd⟩:=hrel;have hrg:=hrd.rg;have HR:=qh hrd;clear hrd;go_wp2_with (first|(at_next;refine wpList_next_ranges _ rfl _ rfl 37 CG BO (λp:Int × Int=>DZ p.1 p.2) (λv:Value=>v) (λkey kl hk=>by obtain⟨r,s,rfl,_⟩:=Hu hk;exact⟨(r,s),rfl⟩) (λv y _=>⟨v,rfl⟩) b R n D _ _ rfl hrg ?_ ?_)|fail)
  ·intro hc0 hl0;have hve:EE left r s c=takes r s c:=bf hl0 r s c;rw[hve] at HR;have HE:=qh (show Re w wr g b n d l r s gi gr ga (FD l r s c) (λj=>if j<0 then CB l d r s c j else CE l (takes r s c) j) from
    ⟨HR.bel,HR.ix,HR.hi,HR.hr,HR.ha,⟨HR.lo.1,HR.lo.2.2⟩,⟨HR.ne.1,HR.ne.2.2.1,HR.ne.2.2.2.1,HR.ne.2.2.2.2.2⟩⟩)
   clear HR hve hl0 hc0 hrg;go_wp2_with fail;go_loopw [59] (λi wr=>∃j:Nat,j≤7∧i=.int .i64 j∧Re w wr g b n d l r s gi gr ga (FD l r s c) (λt=>if t<j then CB l d r s c t else CE l (takes r s c) t)) (λi _=>7 - (intOf i).toNat);case atStart=>exact⟨0,by omega,rfl,HE.o⟩
   case round=>
    clear HE;obtain⟨j,hj,rfl,hre⟩:=hrel;have HE:=qh hre;clear hre;by_cases hj7:j<7
    ·have aj:=HE.ha.cell (1+j);rw[show Eg (FD l r s c) (λt=>if t<j then CB l d r s c t else CE l (takes r s c) t)=Value.int .i64 (FD l r s c) :: Cf (λt=>if t<j then CB l d r s c t else CE l (takes r s c) t) from rfl,Gi _ _ _ hj7,if_neg (Nat.lt_irrefl j)] at aj;have af:=HE.ha.free (1+j);have i0:=HE.hi.cell 0;have i1:=HE.hi.cell 1;simp only[yA,yB] at i0 i1;have hstep:∀v,v=CB l d r s c j→Eg (FD l r s c) (λt=>if t=j then v else if t<j then CB l d r s c t else CE l (takes r s c) t)=Eg (FD l r s c) (λt=>if t<j+1 then CB l d r s c t else CE l (takes r s c) t):=λv hv=>by
      congr 1
      funext t
      by_cases h1:t=j
      ·rw[if_pos h1,if_pos (by omega),h1,hv]
      ·rw[if_neg h1];by_cases h2:t<j
       ·rw[if_pos h2,if_pos (by omega)]
       ·rw[if_neg h2,if_neg (by omega)]
     have HST:=qh hstep;clear hstep;have hset:=λ(W:World) (h:Holds W ga 43 (Eg (FD l r s c) λt=>if t<j then CB l d r s c t else CE l (takes r s c) t)) (v:Int)=>by have:=h.set (1+j) (.int .i64 v);rw[VM _ _ _ hj7] at this;exact this
     have HSE:=qh hset;clear hset;by_cases hjr:((j:Int)==r)=true
     ·have HAD:=qh (show CB l d r s c j=if Cj r s then max (CE l (takes r s c) j) (s-1) else CE l (takes r s c) j by
       rw[CB,if_pos (by simpa using hjr)])
      go_wp2_with fail;refine Ac (E5 r s _) ?_;rintro w6 hb6;have HE:=qh (HE.below hb6);clear hb6 aj af i0 i1 hjr;by_cases hri:Cj r s=true
      ·have hs2:1≤s∧s≤1073741824:=by
        rcases FV r s with⟨_,e⟩|⟨_,_,e⟩|⟨_,_,_,e⟩|⟨_,_,_,_,e⟩|⟨_,_,h3,h4,_⟩
        ·rw[hri] at e;cases e
        ·rw[hri] at e;cases e
        ·rw[hri] at e;cases e
        ·rw[hri] at e;cases e
        ·exact⟨h3,h4⟩
       have hsw:IntKind.i64.wrap (s-1)=s-1:=IntWalk.i64_in _ (by omega);have HAD:=qh (show max (CE l (takes r s c) j) (s-1)=CB l d r s c j by rw[HAD.o,if_pos hri]);go_upto_region 14 with(fail);have aj:=HE.ha.cell (1+j);rw[show Eg (FD l r s c) (λt=>if t<j then CB l d r s c t else CE l (takes r s c) t)=Value.int .i64 (FD l r s c) :: Cf (λt=>if t<j then CB l d r s c t else CE l (takes r s c) t) from rfl,Gi _ _ _ hj7,if_neg (Nat.lt_irrefl j)] at aj;have af:=HE.ha.free (1+j);have i1:=HE.hi.cell 1;simp only[yA,yB] at i1;go_region;go_wp2_with fail;go_roundw;case rel=>
        refine⟨j+1,by omega,by go_num,HE.wrote ((Touch.refl ga w6).setCell (1+j) _).drew ?_⟩;rw[←HST.o _ HAD.o];exact HSE.o _ HE.ha _
       case measure=>simp[intOf];omega
      ·have hri:Cj r s=false:=by revert hri;cases Cj r s<;>simp
       have HAD:=qh (show CB l d r s c j=CE l (takes r s c) j by rw[HAD.o,hri];rfl);go_wp2_with fail;go_roundw;case rel=>
        refine⟨j+1,by omega,by go_num,?_⟩;have:(λt=>if t<j then CB l d r s c t else CE l (takes r s c) t)=λt=>if t<j+1 then CB l d r s c t else CE l (takes r s c) t:=by
         funext t
         by_cases h1:t=j
         ·rw[h1,if_neg (Nat.lt_irrefl j),if_pos (Nat.lt_succ_self j),HAD.o]
         ·by_cases h2:t<j
          ·rw[if_pos h2,if_pos (by omega)]
          ·rw[if_neg h2,if_neg (by omega)]
        rw[←this];exact HE.o
       case measure=>simp[intOf];omega
     ·have hjr:((j:Int)==r)=false:=by simpa using hjr
      have HAD:=qh (show max (CE l (takes r s c) j) (d j)=CB l d r s c j by
       rw[CB,if_neg (by simpa using hjr)])
      have cj:=HE.ix.ix.cell (1+j);rw[Gi _ _ _ hj7] at cj;go_upto_region 12 with(fail);clear hjr i0 i1;go_region;go_wp2_with fail;go_roundw;case rel=>
       refine⟨j+1,by omega,by go_num,HE.wrote ((Touch.refl ga wr).setCell (1+j) _).drew ?_⟩;rw[←HST.o _ HAD.o];exact HSE.o _ HE.ha _
      case measure=>simp[intOf];omega
    ·have hj77:j=7:=by omega
     subst hj77;have hfn:Eg (FD l r s c) (λt=>if t<7 then CB l d r s c t else CE l (takes r s c) t)=Eg (FD l r s c) (CB l d r s c):=by simp[Eg,Cf]
     have hA:=HE.ha;rw[hfn] at hA;have a0:=hA.cell 0;have a1:=hA.cell 1;have a2:=hA.cell 2;have a3:=hA.cell 3;have a4:=hA.cell 4;have a5:=hA.cell 5;have a6:=hA.cell 6;have a7:=hA.cell 7;simp only[Eg,Cf,yA,yB] at a0 a1 a2 a3 a4 a5 a6 a7;have rf:=λi=>HE.hr.free i;have r0:=HE.hr.cell 0;have r1:=HE.hr.cell 1;have r2:=HE.hr.cell 2;have r3:=HE.hr.cell 3;have r4:=HE.hr.cell 4;have r5:=HE.hr.cell 5;have r6:=HE.hr.cell 6;have r7:=HE.hr.cell 7;simp only[Eg,Cf,yA,yB] at r0 r1 r2 r3 r4 r5 r6 r7;clear hA hfn hj hj7;have hT:=(((((((((Touch.refl gr wr).setCell 0 (.int .i64 (FD l r s c))).setCell 1 (.int .i64 (CB l d r s c 0))).setCell 2 (.int .i64 (CB l d r s c 1))).setCell 3 (.int .i64 (CB l d r s c 2))).setCell 4 (.int .i64 (CB l d r s c 3))).setCell 5 (.int .i64 (CB l d r s c 4))).setCell 6 (.int .i64 (CB l d r s c 5))).setCell 7 (.int .i64 (CB l d r s c 6)));have hS:=((((((((HE.hr.set 0 (.int .i64 (FD l r s c))).set 1 (.int .i64 (CB l d r s c 0))).set 2 (.int .i64 (CB l d r s c 1))).set 3 (.int .i64 (CB l d r s c 2))).set 4 (.int .i64 (CB l d r s c 3))).set 5 (.int .i64 (CB l d r s c 4))).set 6 (.int .i64 (CB l d r s c 5))).set 7 (.int .i64 (CB l d r s c 6)));simp only[Eg,Cf,List.set_cons_zero,List.set_cons_succ] at hS;have hB:=HE.bel.trans (hT.below HE.lo.2 HE.bel.size);have HS:=qh hS;have HB:=qh hB;clear hS hB hT;go_wp2_with fail;have hS:=HS.o;have y0:=hS.cell 0;have y1:=hS.cell 1;have y2:=hS.cell 2;have y3:=hS.cell 3;have y4:=hS.cell 4;have y5:=hS.cell 5;have y6:=hS.cell 6;have y7:=hS.cell 7;simp only[yA,yB] at y0 y1 y2 y3 y4 y5 y6 y7;exact bodyPost_ret (v:=.agg (Eg (FD l r s c) (CB l d r s c)).toArray) (by simp[results,results209,go_sem,y0,y1,y2,y3,y4,y5,y6,y7,Eg,Cf]) rfl ⟨rfl,HB.o⟩
  ·intro pr ps cv kl yd yp w1 cnt1 hkey hlk hR hat hrg1 hlt hg1 hs1 hen;have hy:yd=.held cv:=by unfold BO at hR;injection hR with hR;injection hR with hR _;exact hR.symm
   rw[hy] at hat;obtain⟨e,he,hek,hcv⟩:=HR.li.find HR.ix.wf hat;have hpe:pr=e.r∧ps=e.s:=by have hw:=HR.ix.wf e he;rw[←hek] at hkey;have:=CG.inj hkey (Dc e.r e.s hw.1 hw.2);simp only[DZ,Value.agg.injEq,Array.mk.injEq,List.cons.injEq,Value.int.injEq,true_and,and_true] at this;exact this
   obtain⟨h1,h2⟩:=hpe;subst h1;subst h2;subst hcv;subst hek;have hgood:=HR.ix.good e he;have hCl:=λW=>WA e.c c W (by have:=hgood.2.2.2;omega) hca;have HC:=qh hCl;clear hCl;have HR1:=qh (HR.gone hg1 hrg1);have HL0:=qh hrg.left_eq;have HLT:=qh hlt;have HLK:=qh hlk;clear hrg1 hrg hlt hg1 hs1 hR hy hat hkey hlk;unfold Bf.val LC DZ at hen;simp only[DZ,Bf.val,LC] at hen ⊢;have ht0:takes r s c e=(!(e.r==r&&decide (s≤e.s))&&OM e.c c):=rfl;have HT:=qh ht0;clear ht0;have HG:=qh hgood;clear hgood;have HHE:=qh he;clear he;go_upto_region 5 with(fail);go_name_world W5 hW5;obtain⟨k,hkr⟩:∃k:Nat,e.r=k:=⟨e.r.toNat,by have:=HG.1;omega⟩;have hk7:k<7:=by have:=HG.1;omega
   have hkb:Holds W5 w1.heap.size 37 [.int .i64 k,.int .i64 e.s]:=by rw[←hW5,hkr];exact Ak (AA w1 _ _) _
   have hnb:Holds W5 (w1.heap.size+1) 363 [.int .i64 e.c.k,.int .i64 e.c.c,.int .i64 e.c.s,.string e.c.a,.string e.c.b,.string e.c.o,.string e.c.v,.int .i64 e.q]:=by rw[←hW5];have:=AA (w1.alloc (.cells #[.int .i64 e.r,.int .i64 e.s] 37)) 363 [.int .i64 e.c.k,.int .i64 e.c.c,.int .i64 e.c.s,.string e.c.a,.string e.c.b,.string e.c.o,.string e.c.v,.int .i64 e.q];rw[World.size_alloc] at this;exact this
   have HR5:=qh (HR1.below (show Below w1.heap.size w1 W5 by rw[←hW5];go_grown));have HNE:=qh (show ga≠w1.heap.size∧ga≠w1.heap.size+1 by have:=HR1.ha.lt;omega);clear hW5;rw[hkr] at HT;have HKR:=qh hkr;clear hkr;generalize w1.heap.size+1=gn at hnb HNE ⊢;generalize w1.heap.size=gk at hkb HNE ⊢;have k0:=hkb.cell 0;have k1:=hkb.cell 1;have n0:=hnb.cell 0;have n1:=hnb.cell 1;have n2:=hnb.cell 2;have n3:=hnb.cell 3;have n4:=hnb.cell 4;have n5:=hnb.cell 5;have n6:=hnb.cell 6;have n7:=hnb.cell 7;have i0:=HR5.hi.cell 0;have i1:=HR5.hi.cell 1;have c0:=HR5.hc.cell 0;have c1:=HR5.hc.cell 1;have c2:=HR5.hc.cell 2;have c3:=HR5.hc.cell 3;have c4:=HR5.hc.cell 4;have c5:=HR5.hc.cell 5;have c6:=HR5.hc.cell 6;simp only[Cm.cells,yA,yB] at k0 k1 n0 n1 n2 n3 n4 n5 n6 n7 i0 i1 c0 c1 c2 c3 c4 c5 c6;have HKB:=qh hkb;have HNB:=qh hnb;clear hkb hnb;generalize OM e.c c=cl at HC HT;have hA:(((k:Int)==r)=true∧s≤e.s)∨(((k:Int)==r)=true∧¬s≤e.s)∨((k:Int)==r)=false:=by
    by_cases h1:((k:Int)==r)=true
    ·by_cases h2:s≤e.s
     ·exact .inl ⟨h1,h2⟩
     ·exact .inr (.inl ⟨h1,h2⟩)
    ·exact .inr (.inr (by simpa using h1))
   rcases hA with⟨h1,h2⟩|⟨h1,h2⟩|h1
   ·have HF:=qh (show takes r s c e=false by rw[HT.o,h1,show decide (s≤e.s)=true from by simp[h2]];rfl);clear HT;go_wp2_with fail;go_roundw;case rel=>exact⟨_,_,HR5.same (PH HR5.li HR5.ix.wf HHE.o r s c HF.o) λj=>OT HR5.li HR5.ix.wf HHE.o r s c HF.o j⟩
    case measure=>rw[HR5.rg.left_eq,HL0.o];exact HLT.o
   all_goals
    have HT2:=qh (show takes r s c e=cl by first|(rw[HT.o,h1];simp;done)|(rw[HT.o,h1,show decide (s≤e.s)=false from by simp;omega];simp));clear HT;go_wp2_with fail;refine(HC.o _).mono ?_;rintro e' w6 ⟨rfl,hb6⟩;have HR6:=qh (HR5.below hb6);have HKB:=qh (HKB.below hb6 HKB.lt);have HNB:=qh (HNB.below hb6 HNB.lt);clear hb6 k0 k1 n0 n1 n2 n3 n4 n5 n6 n7 i0 i1 c0 c1 c2 c3 c4 c5 c6;cases cl
    ·go_wp2_with fail;go_roundw;case rel=>exact⟨_,_,HR6.same (PH HR6.li HR6.ix.wf HHE.o r s c HT2.o) λj=>OT HR6.li HR6.ix.wf HHE.o r s c HT2.o j⟩
     case measure=>rw[HR6.rg.left_eq,HL0.o];exact HLT.o
    have hqw:IntKind.i64.wrap (e.q+1)=e.q+1:=IntWalk.i64_in _ (by have:=HG.2.2.1;omega);have a0:=HR6.ha.cell 0;have af:=λi=>HR6.ha.free i;have n7:=HNB.cell 7;simp only[Eg,yA,yB] at a0 n7;go_upto_region 7 with(fail);go_name_world W7 hW7;have hA7:=HR6.ha.set 0 (.int .i64 (max (GN l (EE left r s c)) (e.q+1)));have hT7:=(Touch.refl ga w6).setCell 0 (.int .i64 (max (GN l (EE left r s c)) (e.q+1)));rw[hW7] at hA7 hT7;have hA8:Holds W7 ga 43 (Eg (max (GN l (EE left r s c)) (e.q+1)) λj=>CE l (EE left r s c) j):=hA7;clear hW7 a0 af n7 hqw hA7;have hKB7:=HKB.touch hT7 (λh=>HNE.1 h.symm);have k0:=hKB7.cell 0;have k1:=hKB7.cell 1;simp only[yA,yB] at k0 k1;have ak:=hA8.cell (1+k);rw[show Eg (max (GN l (EE left r s c)) (e.q+1)) (λj:Nat=>CE l (EE left r s c) j)=Value.int .i64 (max (GN l (EE left r s c)) (e.q+1)) :: Cf (λj:Nat=>CE l (EE left r s c) j) from rfl,Gi _ _ _ hk7] at ak;have af:=hA8.free (1+k);have hS:=hA8.set (1+k) (.int .i64 (max (CE l (EE left r s c) k) e.s));rw[VM _ _ _ hk7] at hS;have HS:=qh hS;have HT8:=qh (hT7.setCell (1+k) (.int .i64 (max (CE l (EE left r s c) k) e.s)));clear hS hA8 hT7 hKB7;go_region;go_wp2_with fail;go_roundw;case rel=>
     refine⟨_,_,HR6.wrote HT8.drew ?_⟩;have hli:=HR6.li;have hwf:=HR6.ix.wf;have hd:=WM (left:=left) hli hwf HHE.o r s c HT2.o;rw[HKR.o] at hd;have hEq:Eg (GN l (EE (λz=>left z&&!z.sameKey e.key) r s c)) (λj:Nat=>CE l (EE (λz=>left z&&!z.sameKey e.key) r s c) j)=Eg (max (GN l (EE left r s c)) (e.q+1)) (λj:Nat=>if j=k then max (CE l (EE left r s c) k) e.s else CE l (EE left r s c) j):=by
      rw[XT (left:=left) hli hwf HHE.o r s c HT2.o]
      congr 1
      funext j
      by_cases hj:j=k
      ·rw[if_pos hj,hj];exact hd
      ·rw[if_neg hj];exact WL (left:=left) hli hwf HHE.o r s c j (by rw[HKR.o];omega) HLK.o
     rw[hEq];exact HS.o
    case measure=>rw[(HR6.rg.kept (Fz HT8.drew) (by simpa using HR6.ne.2.2.2.1) (by simpa using HR6.ne.2.2.2.2.1)).left_eq,HL0.o];exact HLT.o
end
def hd(p:List Nat):List Nat:=Ez 2 p.length++p
def fr(p:List Nat):List Nat:=if p.length=0∨16384<p.length then [] else hd p++Ez 4 (SumP.on 0 (hd p))
theorem FB{P:Program}{w:World}{ops:Array Oper}{rest:List Oper}{o:Oper}{a:Act}{Q:Exit→Act→World→Prop}(hgd:o.guard=none)(s x:Operand)(t:TypeId) (ho:o.op=.call { callee:=.builtin .append,args:=#[s,x],argTypes:=#[t,t] }) (base:Nat) (e:TypeId) (z:Value) (size bytes:Nat) (ht:P.underlying t=some (.slice e)) (hi:(P.info? e).map (λi=>(i.zero,i.size,i.bytes))=some (some z,size,bytes)) (hsz:0<size) (g n cap:Nat) (xs:List Value) (hs:a.eval s=.slice (some ⟨g,0,none⟩) n cap) (hown:w.ownsRow base e size (.slice (some ⟨g,0,none⟩) n cap) n xs) (sp:Option Addr) (m c:Nat) (news:List Value) (hx:a.eval x=.slice sp m c) (hl:news.length=m*size) (hsrc:Reads w sp news) (hnil:sp=none→c=0) (h1:∀u∈news,u.oneCell'=true) (hroom:n+m≤cap) (hbase:base≤w.heap.size) (h:∀w',w'.ownsRow base e size (.slice (some ⟨g,0,none⟩) (n+m) cap) (n+m) (xs++news)→Below base w w'→w.grownBy w' (some g)→wpList P ops Q rest (a.put o.dst (.slice (some ⟨g,0,none⟩) (n+m) cap)) w'):wpList P ops Q (o :: rest) a w:=by
 obtain⟨i,hi0,hz,hsize,hby⟩:=info_parts hi;cases sp with
 | none=>
  obtain rfl:=hnil rfl;have hm:news=[]:=by
   by_cases h0:0<news.length
   ·obtain⟨b,off,hb,_⟩:=hsrc h0;cases hb
   ·exact List.eq_nil_of_length_eq_zero (by omega)
  subst hm;have hm0:m=0:=by
   have hl':m*size=0:=by simpa using hl.symm
   rcases Nat.mul_eq_zero.1 hl' with h|h<;>omega
  subst hm0;refine wpList_append_own_none hgd s x t ho base e i size ht hi0 _ n xs hs hown hx ?_;exact h w (by simpa using hown) (Below.refl _ _) ⟨rfl,rfl,rfl,Nat.le_refl _,λ_ _ _=>rfl⟩
 | some ad=>
  refine wpList_append_own_spare w hgd s x t ho base e i size ht hi0 hsize g n cap xs hs hown ad m c news hx hl ?_ h1 hroom ?_
  ·intro j u hu;have h0:0<news.length:=by have:=(List.getElem?_eq_some_iff.1 hu).1;omega
   obtain⟨b,off,hb,_,hc⟩:=hsrc h0;simp only[Option.some.injEq] at hb;subst hb;rw[GU];exact hc j u hu
  ·intro w' ho' hg;exact h w' ho' ((Below.refl _ _).grown hg hbase λk hk=>by
    simp only[Option.some.injEq] at hk;subst hk;exact(hown.lt _ rfl).1) hg
theorem WR(a p:Option Addr)(len cap plen pcap:Nat)(bs ps:List Nat)(w:World)(hb:BX w a len bs)(hnil:a=none→cap=0)(hl:len≤140737488351232)(hp:BX w p plen ps)(hpnil:p=none→pcap=0)(hpl:plen≤140737488351232)(h1:1≤plen)(h2:plen≤16384) :Calls prog 123 #[.slice a len cap,.slice p plen pcap] w λe w'=>e=.returned (.slice (some ⟨w.heap.size,0,none⟩) (len+(plen+6)) (len+2+plen+4))∧BX w' (some ⟨w.heap.size,0,none⟩) (len+(plen+6)) (bs++(hd ps++Ez 4 (SumP.on 0 (hd ps))))∧Below w.heap.size w w'∧w'.ownsRow w.heap.size 5 1 (.slice (some ⟨w.heap.size,0,none⟩) (len+(plen+6)) (len+2+plen+4)) (len+(plen+6)) (Aa (bs++(hd ps++Ez 4 (SumP.on 0 (hd ps))))):=by
 have hlen:=hb.len;have hplen:=hp.len;have HBS:=qh hb;clear hb;have HPS:=qh hp;clear hp;have HNIL:=qh hnil;clear hnil;have HPNIL:=qh hpnil;clear hpnil;have e0:((plen:Int)==0)=false:=by simp;omega
 have e1:decide (16384<(plen:Int))=false:=by simp;omega
 go_in;go_upto_region 1 with(fail);go_wp2_with (first|(at_make;go_must (refine Fe w rfl (.const (.int .i64 0)) (.tmp 13) 127 rfl 5 (.int .u8 0) 1 rfl (by kernel_rfl) rfl .i64 .i64 _ _ 0 (len+2+plen+4) rfl rfl rfl (by push_cast;rfl) (by omega) (by omega) (by unfold maxLen;omega) ?_);intro w1 hh1 hb1 hs1;have HO1:=qh (made_owns w.heap.size (Nat.le_refl _) hh1 (by unfold maxLen;omega)))|(at_builtin;go_must (refine FB rfl (.tmp 14) (.tmp 15) 127 rfl w.heap.size 5 (.int .u8 0) 1 1 rfl (by kernel_rfl) (by decide) w.heap.size 0 (len+2+plen+4) [] rfl HO1.o a len cap (Aa bs) rfl (by rw[BI,hlen,Nat.mul_one]) (HBS.reads.below hb1) HNIL.o (DX bs) (by omega) (by omega) ?_);intro w2 ho2 hb2 _;rw[Nat.zero_add,List.nil_append] at ho2;have HO2:=qh ho2;clear ho2));have hk:=put_any none 0 0 [] 2 plen w2 (BX.nil _ _) (λ_=>rfl) (by omega) (by omega);rw[show I7 2=2 from by decide,Nat.zero_add,List.nil_append] at hk;refine hk.mono ?_;rintro e w3 ⟨q2,c2,rfl,_,_,_,_,hb3,ho3⟩;have HO3:=qh ho3;clear ho3;have hB2:Below w.heap.size w w2:=hb1.trans hb2;have HB3:=qh (hB2.trans (hb3.mono hB2.size));have hs3:=hb3.size;have eh:Aa (Ez 2 plen)++Aa ps=Aa (hd ps):=by unfold hd Aa;rw[hplen];simp
 have h8:∀x∈hd ps,x<256:=by
  intro x hx;unfold hd at hx;rcases List.mem_append.1 hx with hx|hx
  ·exact Ls _ _ x hx
  ·exact HPS.2.2.1 x hx
 have hdl:(hd ps).length=2+plen:=by unfold hd;simp[TS,hplen]
 have H8:=qh h8;clear h8;have EH:=qh eh;clear eh;have HDL:=qh hdl;clear hdl;have hs2:=hB2.size;go_wp2_with (first|(at_builtin;refine AZ rfl (.tmp 29) (.tmp 30) 127 rfl w2.heap.size 5 (.int .u8 0) 1 1 rfl (by kernel_rfl) rfl (by decide) _ 2 (Aa (Ez 2 plen)) rfl HO3.o p plen pcap (Aa ps) rfl (by rw[BI,hplen,Nat.mul_one]) (HPS.reads.below HB3.o) HPNIL.o (DX ps) (by unfold maxLen;omega) (by omega) (by omega) ?_;intro v4 w4 ho4 hb4 _;rw[EH.out] at ho4;obtain⟨q4,c4,rfl,h41,h42,h43,h44⟩:=Gs ho4 (by omega);have HO4:=qh ho4;have HF4:=qh (h44 _ rfl H8.o);have H43:=qh h43;clear ho4 h44 h43;have hs4:=hb4.size)|(at_builtin;go_must (refine FB rfl (.tmp 32) (.tmp 33) 127 rfl w.heap.size 5 (.int .u8 0) 1 1 rfl (by kernel_rfl) (by decide) w.heap.size len (len+2+plen+4) (Aa bs) rfl (CW HO2.o (hb3.trans hb4)) q4 (2+plen) c4 (Aa (hd ps)) rfl (by rw[BI,HDL.o,Nat.mul_one]) HF4.reads H43.o (DX _) (by omega) (by omega) ?_);intro w5 ho5 hb5 hg5;have HO5:=qh ho5;clear ho5));have hsum:=SumP.dI 0 (hd ps);have hlt2:=(HO2.lt w.heap.size rfl).2;have hne:(Value.slice q4 (2+plen) c4).ownBlock=none∨(Value.slice q4 (2+plen) c4).ownBlock≠some w.heap.size:=by
  cases ho:(Value.slice q4 (2+plen) c4).ownBlock with
  | none=>exact .inl rfl
  | some k=>
   right;have:=(HO4.lt k ho).1;intro h;simp only[Option.some.injEq] at h;omega
 have ho5f:=HO4.kept hg5 hne;obtain⟨q4',c4',e4,_,_,_,h45⟩:=Gs ho5f (by omega);have HF5:=qh (h45 _ rfl H8.o);obtain⟨rfl,_,rfl⟩:q4'=q4∧True∧c4'=c4:=by simp only[Value.slice.injEq] at e4;exact⟨e4.1.symm,trivial,e4.2.2.symm⟩
 clear ho5f h45 e4;have hB5:Below w.heap.size w w5:=(HB3.trans (hb4.mono (by omega))).trans hb5;refine Ac (TT q4' (2+plen) c4' (hd ps) w5 HF5.o) ?_;rintro w6 rfl;generalize hc:SumP.on 0 (hd ps)=c at hsum ⊢;go_wp2_with fail;have hk:=put_any none 0 0 [] 4 c w5 (BX.nil _ _) (λ_=>rfl) (by omega) (by omega);rw[show I7 4=4 from by decide,Nat.zero_add,List.nil_append] at hk;refine hk.mono ?_;rintro e w6 ⟨q6,c6,rfl,_,_,h6,hn6,hb6,_⟩;have H6:=qh h6;clear h6;have HN6:=qh hn6;clear hn6 hk;have hs5:=hB5.size;have hs6:=hb6.size;have HD:=qh (show Aa bs++Aa (hd ps)++Aa (Ez 4 c)=Aa (bs++(hd ps++Ez 4 c)) from by simp[Aa]);go_wp2_with (at_builtin;go_must (refine FB rfl _ _ 127 rfl w.heap.size 5 (.int .u8 0) 1 1 rfl (by kernel_rfl) (by decide) w.heap.size (len+(2+plen)) (len+2+plen+4) (Aa bs++Aa (hd ps)) rfl (CW HO5.o hb6) q6 4 c6 (Aa (Ez 4 c)) rfl (by rw[BI,TS]) H6.reads HN6.o (DX _) (by omega) (by omega) ?_);intro w7 ho7 hb7 _;have HO7:=qh ho7;clear ho7);have ho7:=HO7.o;rw[HD.o,show len+(2+plen)+4=len+(plen+6) by omega] at ho7;rw[show len+(2+plen)+4=len+(plen+6) by omega];have h8:∀x∈bs++(hd ps++Ez 4 c),x<256:=by
  intro x hx;rcases List.mem_append.1 hx with hx|hx
  ·exact HBS.2.2.1 x hx
  ·rcases List.mem_append.1 hx with hx|hx
   ·exact H8.o x hx
   ·exact Ls _ _ x hx
 obtain⟨q7,c7,e7,_,_,_,h77⟩:=Gs ho7 (by omega);have HF7:=qh (h77 _ rfl h8);simp only[Value.slice.injEq] at e7;obtain⟨rfl,_,rfl⟩:=e7;have HOO:=qh ho7;have HBB:=qh ((hB5.trans (hb6.mono hs5)).trans hb7);clear HO7 ho7 h8 h77;subst hc;go_ret;exact⟨rfl,HF7.o,HBB.o,HOO.o⟩
section
open Go
theorem Wj{P:Program}{f:FuncId}{fn:Func}{s:ChangeSpec}{c:OpenClaim} (k0:(c.wf (OpenSpec.ofChange s))=true) (k1:(laidOutB P)=true) (k2:(mapsRowed P)=true) (k3:(fn.params.all (P.readableRec ·))=true) (k4:(namedTie P c.named s.vars)=true) (k5:((c.stops==[]))=true) (k6:((P.stops==[]))=true) (k7:((c.knobs==[]))=true) (k8:((P.stopKnobs==[]))=true) (k9:((c.inPlace==P.inPlace f))=true) (k10:((c.unfollowed==P.unfollowed f))=true) (k11:((c.recurses==P.recurses f))=true) (k12:((c.named==P.varsNamed f))=true) (k13:((c.maps==(fn.params.toList++s.plain.varTypes P).any (P.mapsRec ·)))=true) (k14:((c.ifaces==(fn.params.toList++s.plain.varTypes P).any (P.ifacesRec ·)))=true) (k15:((c.mapsOut==P.mapsAmong fn.resultTypes.toList))=true) (k16:((c.loops==(fn.params.toList++s.plain.varTypes P).any (P.loopsFrom ·)))=true) (k17:((c.wideKeys==(fn.params.toList++s.plain.varTypes P++fn.resultTypes.toList).any (P.wideKeysFrom ·)))=true) (k18:(s.vars.all (P.varReadable ·))=true) (k19:(fn.resultTypes.all (λt=>P.readableRec t&&decide (t<P.types.size)))=true) (k20:((c.ifacesOut==fn.resultTypes.toList.any (P.ifacesRec ·)))=true) (k21:((c.loopsOut==fn.resultTypes.toList.any (P.loopsFrom ·)))=true) (k22:((c.plainKeys==P.plainKeys))=true) (k23:(c.shortTexts.isNone)=true) (k24:(P.stopsHeard)=true) (k25:(P.mayEnter)=true) (k26:((c.lifted==P.liftsFinal))=true) (k27:((P.make==some c.make))=true) (k28:((c.kinds==(if c.domain.isEmpty then [] else fn.params.toList.map λt=>match P.underlying t with|some (.int k)=>some k|_=>none)))=true) (k29:((c.pinned==c.pinnedBy))=true) (k30:((c.veiled==(fn.params.toList++s.plain.varTypes P++fn.resultTypes.toList).any (P.veiledRec ·)))=true) (k31:(c.veiledFits P fn.params.toList (fn.params.toList++s.plain.varTypes P++fn.resultTypes.toList))=true):joinedFacts P f fn s c=true:=by unfold joinedFacts;simp only[Bool.and_eq_true];exact⟨⟨⟨⟨⟨⟨⟨⟨⟨⟨⟨⟨⟨⟨⟨⟨⟨⟨⟨⟨⟨⟨⟨⟨⟨⟨⟨⟨⟨⟨⟨k0,k1⟩,k2⟩,k3⟩,k4⟩,k5⟩,k6⟩,k7⟩,k8⟩,k9⟩,k10⟩,k11⟩,k12⟩,k13⟩,k14⟩,k15⟩,k16⟩,k17⟩,k18⟩,k19⟩,k20⟩,k21⟩,k22⟩,k23⟩,k24⟩,k25⟩,k26⟩,k27⟩,k28⟩,k29⟩,k30⟩,k31⟩
end
end Go.Proofs.YtimdpiifpibgfaaGreatDoor
