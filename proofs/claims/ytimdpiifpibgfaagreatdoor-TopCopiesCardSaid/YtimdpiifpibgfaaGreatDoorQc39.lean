/- A part of the proof that the law TopCopies returns true for every input. -/
import Derived.Test.YtimdpiifpibgfaaGreatDoorQc38
set_option linter.all false
set_option maxRecDepth 20000
set_option maxHeartbeats 16000000
open Go.RowKit Go.Maps
namespace Go.Proofs.YtimdpiifpibgfaaGreatDoor
open Tryz
section
variable [In]
theorem index_none(r s:Int)(w:World):Calls prog 210 #[.slice none 0 0,.agg #[.int .i64 r,.int .i64 s]] w λe w'=>e=.returned (.int .i64 (-1))∧Below w.heap.size w w':=by
 go_in;go_wp2_with fail;go_loopw [8] (λvi wr=>vi=.int .i64 0∧Below w.heap.size w wr) (λ_ _=>0);case atStart=>exact⟨rfl,by go_grown⟩
 case round=>obtain⟨rfl,hb⟩:=hrel;have HB:=qh hb;clear hb;go_wp2_with fail;go_ret;exact⟨rfl,HB.o⟩
theorem PV(r s:Int)(w:World):Calls prog 130 #[.slice none 0 0,.agg #[.int .i64 r,.int .i64 s]] w λe w'=>e=.returned (.bool false)∧Below w.heap.size w w':=by have KI:=qh (index_none r s);go_in;go_upto_region 1 with(fail);go_name_world W hW;obtain⟨HX,hbW,hsW⟩:=Ff 37 ([.int .i64 r,.int .i64 s]) hW;clear hW;have HB:=qh hbW;clear hbW;obtain⟨x0,x1⟩:=CU HX.o 0 1;go_wp2_with fail;refine Ac (KI.o _) ?_;rintro w1 hb;have HB:=qh (HB.trans (hb.mono HB.size));clear hb x0 x1 HX hsW;go_wp2_with fail;go_ret;exact⟨rfl,HB.o⟩
theorem ZU(g n me gd gw gc gl gm nl gi gx ni gfr:Nat)(cl sq2:Int)(L:List Ad)(E:List Bf)(leads recs cout:Value)(P:Value)(o:Nat→Ow)(pv:Nat→Value)(d kp:Nat→Int)(since tk:Int)(waits out ans:Value)(w:World) (nd:Holds w g 102 (A7 n me gd gw gc gfr P o pv d kp since tk waits out ans)) (hc:BC w gc n me gl gm nl gi gx ni L E leads recs cout) (hl:L.length≤1000) (hall:∀e∈L,e.s≤d e.r.toNat) :Calls prog 128 #[.pointer (some ⟨g,0,none⟩),.agg #[.int .i64 cl,.int .i64 sq2]] w λe w'=>e=.returned (.bool false)∧Below w.heap.size w w':=by
 have KC:=qh (λW hc=>QB gc n me gl gm nl gi gx ni L E leads recs cout W hc hl);have KX:=qh (λe (he:e∈L) W (h:Holds W gc 163 (Az n me gl gi leads recs cout)) hl=>QC gc n me gl gm nl gi e.r e.s e.L L leads recs cout W h hl he);have HN:=qh nd;have HCA:=qh hc;have HC:=qh hc.hc;have HL:=qh hc.lg;have HA:=qh hall;have HGD:=qh hc.lg.good;have HRW:=qh hc.lg.rows;have HB:=qh (Base.start w);clear nd hc hall;go_in;go_upto_region 1 with(fail);go_name_world W hW;obtain⟨HX,hbW,hsW⟩:=Ff 37 ([.int .i64 cl,.int .i64 sq2]) hW;clear hW;obtain⟨HN,HC,HL,HB,HCA⟩:=Fq hbW HN HC HL HB HCA;clear hbW hsW HX;generalize hB0:w.heap.size=B at HB ⊢;have n4:=Ag HN.o 4;go_wp2_with fail;refine(KC.o _ HCA.o).mono ?_;rintro e w1 ⟨v1,rfl,⟨p1,c1,PP,ob1,rfl,ho1,hob1,hk1⟩,hb1⟩;have HS:=qh ho1;have HK:=qh hk1;have hPl:PP.length≤L.length:=hk1.len;obtain⟨HN,HC,HL,HB⟩:=Dy hb1 HN HC HL HB;clear ho1 hob1 hk1 hb1 KC n4 HCA;go_wp2_with fail;go_loopw [15] (λvi wr=>∃i:Nat,i≤PP.length∧vi=.int .i64 i∧Base w1.heap.size w1 wr) (λvi _=>PP.length - (intOf vi).toNat);case atStart=>exact⟨0,by omega,rfl,Base.start _⟩
 case round=>
  obtain⟨i,hi,rfl,hbs⟩:=hrel;have HW:=qh hbs;have HN:=qh (HN.bel hbs.below);have HC:=qh (HC.bel hbs.below);have HL:=qh (HL.bel hbs.below);have HS:=qh (HS.bel hbs.below);have HB:=qh (HB.bel hbs.below);clear hbs;by_cases h1:i<PP.length
  ·obtain⟨gs,cs,rs,hv1,rfl,hcs1,hcs2,hgs,_⟩:=HS.blk (by omega);cases hv1;obtain⟨r,s,hx⟩:∃r s,PP[i]=(r,s):=⟨_,_,rfl⟩;obtain⟨⟨er,es,V⟩,he,hek⟩:=(HK.o.mem (r,s)).1 (hx▸List.getElem_mem h1);have hge:=HGD.o _ he;simp only[Prod.mk.injEq] at hek hge;obtain⟨rfl,rfl⟩:=hek;obtain⟨k,rfl⟩:∃k:Nat,er=k:=⟨er.toNat,by omega⟩;have hk7:k<7:=by omega
   have HRR:=qh (show wr.rangeAt gs (i*2) [.int .i64 k,.int .i64 es] from hgs.Ci (i*2) (SS PP rs i h1 k es hx));have KX:=qh (show ∀W,Holds W gc 163 (Az n me gl gi leads recs cout)→Ap W gl gm nl L→_ from KX.o _ he);have hA:=HA.o _ he;simp only[Int.toNat_natCast] at hA;have hV1:V.length=21:=(HRW.o _ he).1;have hV2:V.toArray.all (·.oneCell')=true:=(HRW.o _ he).2;simp only at KX;clear hgs hx he;go_upto_region 4 with(first|(refine lM (i*2) HRR.o ?_)|(refine Ai rfl 37 _ _ rfl rfl _ _ ([.int .i64 k,.int .i64 es]:List Value).toArray rfl rfl (by kernel_rfl) (by kernel_rfl) (by simp[Value.oneCell']) ?_));go_name_world W0 hW0;have HI:=qh (show Holds W0 wr.heap.size 37 [.int .i64 k,.int .i64 es] by rw[←hW0];exact AA wr _ _);have hbV:Below wr.heap.size wr W0:=by rw[←hW0];exact(Below.refl _ _).alloc (Nat.le_refl _) _
   obtain⟨HN,HC,HL,HW,HB⟩:=Fq hbV HN HC HL HW HB;clear hW0 HRR hbV;refine' DN [⟨9,10,7,26,45,zero21,V⟩] (by kernel_rfl) (by kernel_rfl) (by kernel_rfl) ?z11 ?z21 ?bd1 _ ?h1 ?val1 ?fin1;case z11=>
    intro x hx;simp only[List.mem_cons,List.not_mem_nil,or_false] at hx;subst hx
    ·exact⟨.agg (zero21:List Value).toArray,by kernel_rfl,rfl⟩
   case z21=>
    intro x hx;simp only[List.mem_cons,List.not_mem_nil,or_false] at hx;subst hx
    ·exact⟨by show _=some V.length;rw[hV1];kernel_rfl,hV1.symm,hV2⟩
   case bd1=>
    intro x hx;simp only[List.mem_cons,List.not_mem_nil,or_false] at hx;subst hx
    ·simp
   case h1=>
    intro W0 hW0;obtain⟨HN,HC,HL,HI,HW,HB⟩:=FI hW0 HN HC HL HI HW HB;have c0_4:=Jt HN.o 4;obtain⟨c1_0,c1_1⟩:=Jo HI.o 0 1;simp only[List.map_cons,List.map_nil,A8];repeat go_big_quiet_step (first|(go_at_call 176;with_reducible exact AL λW2 h2=>KX.o W2 (HC.o.bel h2) (HL.o.bel h2)))
    refine wpQuiet_nil ?_;intro w' _;exact rfl
   case val1=>
    intro x hx;simp only[List.mem_cons,List.not_mem_nil,or_false] at hx;subst hx
    ·rfl
   intro β w4 hb hx hne;have hx7:=hx _ List.mem_cons_self;clear hx hne;simp only[] at hx7;simp only[Dk,List.foldl,Act.put,List.setIfInBounds_toArray,List.set_cons_zero,List.set_cons_succ];obtain⟨HN,HC,HL,HI,HW,HB⟩:=FI hb HN HC HL HI HW HB;generalize β 7=g7 at hx7 ⊢;have H7:=qh hx7.2;have hge7:=hx7.1;clear hx7;clear hb;go_upto_region 5 with(fail);have hdq:=HN.cell (55+k);rw[IK _ _ _ _ _ _ _ _ _ _ _ _ _ _ _ _ k hk7] at hdq;obtain⟨i0,i1⟩:=CU HI.o 0 1;have n1:=Ag HN.o 1;have hki:(k:Int)<7:=by omega
   have hA':¬d k<es:=by omega
   generalize d k=dk at hA' hA hdq;clear hA;by_cases hkm:k=me
   ·subst hkm;have hmm:((k:Int)==(k:Int))=true:=by simp
    go_quiet (fail);obtain⟨HW,HB⟩:=DC (BV _ w4 nq) HW HB;clear hdq i0 i1 n1 hA' hmm;generalize w4.drewN nq=W2 at HW HB ⊢;go_wp2_with fail;go_roundw;case rel=>exact⟨i+1,by omega,by go_num,HW.o⟩
    case measure=>simp[intOf];omega
   ·have hmm:((k:Int)==(me:Int))=false:=by simp;omega
    have hmm2:¬(k:Int)=(me:Int):=by omega
    go_quiet (fail);obtain⟨HW,HB⟩:=DC (BV _ w4 nq) HW HB;clear hdq i0 i1 n1 hA' hmm hmm2;generalize w4.drewN nq=W2 at HW HB ⊢;go_wp2_with fail;go_roundw;case rel=>exact⟨i+1,by omega,by go_num,HW.o⟩
    case measure=>simp[intOf];omega
  ·obtain rfl:i=PP.length:=by omega
   go_wp2_with fail;go_ret;exact⟨rfl,hB0▸HB.below⟩
def Xi(w W W1 Wf:World)(b:Nat):Prop:=Below w.heap.size w W∧Touch b W1 Wf∧w.heap.size≤b∧((b<W.heap.size∧∃L,Holds W b 37 L)∨W1.heap.size≤b)
theorem kH(g n me gd gw gc gfr:Nat)(c:Cm)(P:Value)(o:Nat→Ow)(pv:Nat→Value)(d kp:Nat→Int)(since tk:Int)(k:Nat)(s sq:Int)(out ans:Value)(RP:World→World→Prop)(RQ RS R3:World→Prop)(w:World) (nd:Holds w g 102 (A7 n me gd gw gc gfr P o pv d kp since tk (.slice none 0 0) out ans)) (hk:c.k≠0) (hk8:k<8) (hsq:(o k).seq=sq) (hlt:sq<s) (KR:∀W,Calls prog 70 #[.agg #[.int .i64 c.k,.int .i64 ((k:Int)+1),.int .i64 s,.string c.a,.string c.b,.string c.o,.string c.v]] W λe w'=>e=.returned (.bool true)∧Below W.heap.size W w') (KW:∀W,Below w.heap.size w W→Calls prog 128 #[.pointer (some ⟨g,0,none⟩),.agg #[.int .i64 ((k:Int)+1),.int .i64 s]] W λe w'=>e=.returned (.bool false)∧Below W.heap.size W w') (KP:∀W,Below w.heap.size w W→Calls prog 129 #[.pointer (some ⟨gc,0,none⟩),.agg #[.int .i64 c.k,.int .i64 ((k:Int)+1),.int .i64 s,.string c.a,.string c.b,.string c.o,.string c.v]] W λe w'=>e=.returned (.tuple #[.agg #[.int .i64 me,.int .i64 In.sl],.bool true])∧RP W w') (hI:∀W W1,RP W W1→W.heap.size≤W1.heap.size∧∀k L,Holds W k 37 L→Holds W1 k 37 L) (hQ:∀W W1 Wf b,RP W W1→Xi w W W1 Wf b→RQ Wf∧Holds Wf g 102 (A7 n me gd gw gc gfr P o pv d kp since tk (.slice none 0 0) out ans)) (hS:∀Wf Wm Wn v' ob,RQ Wf→w.heap.size≤Wf.heap.size→Below Wf.heap.size Wf Wm→Holds Wn g 102 (A7 n me gd gw gc gfr P o pv d kp since tk v' out ans)→AO Wn v' ob 37 2 1 [.int .i64 ((k:Int)+1),.int .i64 s]→(∀k,ob=some k→Wf.heap.size≤k)→Touch g Wm Wn→RS Wn) (KS:∀W,RS W→Calls prog 53 #[.pointer (some ⟨g,0,none⟩)] W λe w'=>e=.returned (.tuple #[])∧R3 w') :Calls prog 71 #[.pointer (some ⟨g,0,none⟩),.agg #[.int .i64 c.k,.int .i64 ((k:Int)+1),.int .i64 s,.string c.a,.string c.b,.string c.o,.string c.v]] w λe w'=>e=.returned (.int .i64 0)∧R3 w':=by
 have KR:=qh KR;have KW:=qh KW;have KP:=qh KP;have KS:=qh KS;have hI:=qh hI;have hQ:=qh hQ;have hS:=qh hS;have KC:=qh (PV ((k:Int)+1) s);have hck0:(c.k==0)=false:=by simp[hk]
 have HWK:=qh (show IntKind.i64.wrap ((k:Int)+1-1)=(k:Int) by rw[show (k:Int)+1-1=k by omega];exact IntWalk.i64_in _ (by omega));have HK8:=qh hk8;have HSQ:=qh hsq;have hns:¬s<sq:=by omega
 have hss:sq<s:=hlt;have HN:=qh nd;have HB:=qh (Base.start w);have hgl:=nd.lt;clear nd hk hk8 hsq hlt;go_in;go_upto_region 1 with(fail);go_name_world W hW;obtain⟨HX,hbW,hsW⟩:=Ff 23 ([.int .i64 c.k,.int .i64 ((k:Int)+1),.int .i64 s,.string c.a,.string c.b,.string c.o,.string c.v]) hW;clear hW;obtain⟨HN,HB⟩:=DC hbW HN HB;clear hbW;generalize hB0:w.heap.size=B at HX HB KW KP hQ hS hsW ⊢;have hgX:B<W.heap.size:=by omega
 have n74:=Ag HN.o 74;obtain⟨x0,x1,x2,x3,x4,x5,x6⟩:=GR HX.o 0 1 2 3 4 5 6;go_wp2_with fail;refine Ac (KR.o _) ?_;rintro w1 hb;obtain⟨HN,HX,HB⟩:=Du hb HN HX HB;clear hb n74 x0 x1 x2 x3 x4 x5 x6;have n7:=HN.cell (7+k*6);rw[show (A7 n me gd gw gc gfr P o pv d kp since tk (.slice none 0 0) out ans)[7+k*6]?=some (.int .i64 (o k).seq) from Oz n me gd gw gc gfr P o pv d kp since tk (.slice none 0 0) out ans k HK8.o 0 _ rfl,HSQ.o] at n7;have hwk:=HWK.o;have hk0:(0:Int)≤(k:Int):=by omega
 have hk8':(k:Int)<8:=by have:=HK8.o;omega
 obtain⟨x0,x1,x2⟩:=Xg HX.o 0 1 2;go_upto_region 5 with(fail);go_quiet (fail);have hb2:Below w1.heap.size w1 (w1.drewN nq):=BV _ _ _;obtain⟨HN,HX,HB⟩:=Du hb2 HN HX HB;clear hb2 n7 x0 x1 x2 hwk hk0 hk8';generalize w1.drewN nq=w2 at HN HX HB ⊢;obtain⟨x0,x1,x2⟩:=Xg HX.o 0 1 2;go_upto_region 9 with(first|(refine sW [.int .i64 ((k:Int)+1),.int .i64 s] (AA w2 _ _) ?_;intro w3 hh3 ht3));have hal:Below w2.heap.size w2 w3:=Below.trans ((Below.refl _ _).alloc (Nat.le_refl _) _) (ht3.below (Nat.le_refl _) (by simp));have HI:=qh hh3;have hBi:B≤w2.heap.size:=HB.le;obtain⟨HN,HX,HB⟩:=Du hal HN HX HB;clear hal hh3 ht3 x0 x1 x2;generalize w2.heap.size=gI at HI hBi ⊢;have x2:=Ag HX.o 2;obtain⟨i0,i1⟩:=CU HI.o 0 1;go_wp2_with fail;refine Ac (KW.o _ HB.below) ?_;rintro w4 hb;obtain⟨HN,HX,HB,HI⟩:=Dy hb HN HX HB HI;clear hb x2 i0 i1;go_upto_region 10 with(fail);go_cut [7,8] from 50 to 59 (λx y wx=>∃W W1 b,y=.bool true∧RP W W1∧Xi w W W1 wx b∧Holds wx gI 37 [.int .i64 ((k:Int)+1),.int .i64 s]);case first=>
  obtain⟨HN,HX,HB,HI⟩:=Dy (AQ _ w4) HN HX HB HI;refine EQ [5,10] 12 (λhSn=>?_);generalize w4.drew=wd at HN HX HB HI hSn ⊢;simp only[List.replicate];refine Dz 0 ?_;refine BG 3 [5,6,7,8,10,11] (λw hSw=>Ag (HN.bel hSw) 4) ?_;refine BG 4 [5,6,7,8,10,11] (λw hSw=>GR (HX.bel hSw) 0 1 2 3 4 5 6) ?_;refine rdA [5,9] (Aw.cons rfl (λK hK=>?_) (Aw.cons rfl (λK hK=>?_) (Aw.nil)))
  ·skip
   go_simp;have hSW:=hSn;refine Ac (KP.o _ (HB.bel hSn).below) ?_;rintro wp hrp;have HRP:=qh hrp;have hsp:=(hI.out _ _ hrp).1;try(have HZ1:=qh ((hI.out _ _ hrp).2 _ _ HZ.o))
   have HI1:=qh ((hI.out _ _ hrp).2 _ _ (HI.bel hSn));clear hrp;refine BN hK ?_;clear hK;refine Dz 6 ?_ (hS:=IJ);refine BH 9 rfl (λK hK=>?_);go_simp;have hal:=λo=>Below.alloc hSn hSn.size o;first|(refine hK.out _ _ (λ_=>hal _) ?_;have hSn:=hal (.cells #[.int .i64 0,.int .i64 0] 37);have HZ:=qh (AA wd 37 [.int .i64 0,.int .i64 0]);change wpAnyL _ _ _ _ _ _ _ _ _ (wd.alloc (.cells #[.int .i64 0,.int .i64 0] 37));generalize hwc:wd.alloc (.cells #[.int .i64 0,.int .i64 0] 37)=wc at hSn HZ ⊢;have hgb:wd.heap.size<wc.heap.size:=HZ.lt)|(refine hK.out _ _ IJ ?_;have HZ1:=qh (AA wp 37 [.int .i64 0,.int .i64 0]);have hbal:=(Below.refl wp.heap.size wp).alloc (Nat.le_refl _) (.cells #[.int .i64 0,.int .i64 0] 37);change wpAnyL _ _ _ _ _ _ _ _ _ (wp.alloc (.cells #[.int .i64 0,.int .i64 0] 37));generalize hwc:wp.alloc (.cells #[.int .i64 0,.int .i64 0] 37)=wc at HZ1 hbal ⊢)
   clear hK;try simp only[Act.put,zA,zB,zC]
   refine BH 10 rfl (λK hK=>?_);refine tB [.int .i64 me,.int .i64 In.sl] HZ1.o ?_;intro wf hhf htf;refine BN hK ?_;clear hK;refine CS 11 ?_ (hS:=IJ);refine Dl ?_;go_wp2_with fail
   go_meet
   subst hB0;have hle:=HB.le;have hgi:=HI.lt;first|exact⟨wd,wp,wp.heap.size,rfl,HRP.o,⟨HB.below,(Touch.bel (Touch.refl _ wp) hbal).trans htf,by omega,.inr (Nat.le_refl _)⟩,(HI1.bel hbal).touch htf (by omega)⟩|exact⟨wc,wp,wd.heap.size,rfl,HRP.o,⟨(HB.bel hSW).below,htf,hle,.inl ⟨hgb,_,HZ.o⟩⟩,HI1.touch htf (by omega)⟩
  ·skip
   go_simp;have hal:=λo=>Below.alloc hSn hSn.size o;first|(refine hK.out _ _ (λ_=>hal _) ?_;have hSn:=hal (.cells #[.int .i64 0,.int .i64 0] 37);have HZ:=qh (AA wd 37 [.int .i64 0,.int .i64 0]);change wpAnyL _ _ _ _ _ _ _ _ _ (wd.alloc (.cells #[.int .i64 0,.int .i64 0] 37));generalize hwc:wd.alloc (.cells #[.int .i64 0,.int .i64 0] 37)=wc at hSn HZ ⊢;have hgb:wd.heap.size<wc.heap.size:=HZ.lt)|(refine hK.out _ _ IJ ?_;have HZ1:=qh (AA wp 37 [.int .i64 0,.int .i64 0]);have hbal:=(Below.refl wp.heap.size wp).alloc (Nat.le_refl _) (.cells #[.int .i64 0,.int .i64 0] 37);change wpAnyL _ _ _ _ _ _ _ _ _ (wp.alloc (.cells #[.int .i64 0,.int .i64 0] 37));generalize hwc:wp.alloc (.cells #[.int .i64 0,.int .i64 0] 37)=wc at HZ1 hbal ⊢)
   clear hK;try simp only[Act.put,zA,zB,zC]
   refine BH 5 rfl (λK hK=>?_);go_simp;have hSW:=hSn;refine Ac (KP.o _ (HB.bel hSn).below) ?_;rintro wp hrp;have HRP:=qh hrp;have hsp:=(hI.out _ _ hrp).1;try(have HZ1:=qh ((hI.out _ _ hrp).2 _ _ HZ.o))
   have HI1:=qh ((hI.out _ _ hrp).2 _ _ (HI.bel hSn));clear hrp;refine BN hK ?_;clear hK;refine Dz 6 ?_ (hS:=IJ);refine BH 10 rfl (λK hK=>?_);refine tB [.int .i64 me,.int .i64 In.sl] HZ1.o ?_;intro wf hhf htf;refine BN hK ?_;clear hK;refine CS 11 ?_ (hS:=IJ);refine Dl ?_;go_wp2_with fail
   go_meet
   subst hB0;have hle:=HB.le;have hgi:=HI.lt;first|exact⟨wd,wp,wp.heap.size,rfl,HRP.o,⟨HB.below,(Touch.bel (Touch.refl _ wp) hbal).trans htf,by omega,.inr (Nat.le_refl _)⟩,(HI1.bel hbal).touch htf (by omega)⟩|exact⟨wc,wp,wd.heap.size,rfl,HRP.o,⟨(HB.bel hSW).below,htf,hle,.inl ⟨hgb,_,HZ.o⟩⟩,HI1.touch htf (by omega)⟩
 case rest=>
  obtain⟨W,W1,b,rfl,hrp,hab,hi⟩:=hcut;obtain⟨hrq,hn⟩:=hQ.out W W1 wc b hrp hab;have hwc:w.heap.size≤wc.heap.size:=Nat.le_trans hab.1.size (Nat.le_trans (hI.out _ _ hrp).1 hab.2.1.size);have HRQ:=qh hrq;have HN:=qh hn;have HI:=qh hi;have HB1:=qh (Base.start wc);have hgc:g<wc.heap.size:=hn.lt;clear hrq hn hi hrp hab hQ hI HX HB KP KW KR;have n71:=Jt HN.o 71;obtain⟨i0,i1⟩:=Jo HI.o 0 1;go_upto_region 13 with(fail);refine wp_region_quiet_below (by kernel_rfl) (by kernel_rfl) ?_;repeat go_big_quiet_step (first|(go_at_call 130;with_reducible exact AL λW _=>KC.o W))
  refine wpQuiet_nil ?_;intro w5 hw';have hb5:=AP hw';obtain⟨HN,HI,HB1⟩:=Du hb5 HN HI HB1;clear hw' hb5 n71 i0 i1 KC;go_upto_region 14 with(fail);obtain⟨HN,HI,HB1⟩:=Du (AQ _ w5) HN HI HB1;refine EQ [7,10] 11 (λhSn=>?_);generalize w5.drew=wd at HN HI HB1 hSn ⊢;simp only[List.replicate];refine Jr 0 ?_;refine BG 4 [7,8,9,10] (λw hSw=>Ag (HN.bel hSw) 71) ?_;refine BG 5 [6,7,8,9,10] (λw hSw=>CU (HI.bel hSw) 0 1) ?_;refine BH 6 rfl (λK hK=>?_);refine tU 37 (.agg #[.int .i64 ((k:Int)+1),.int .i64 s]) [.int .i64 ((k:Int)+1),.int .i64 s] ?_;intro wa hna hba;have hSn:=AB hSn hba;have HNA:=qh hna;generalize wd.heap.size=gn at HNA ⊢;obtain⟨HN,HB1⟩:=DC hSn HN HB1;clear hna hba;change K (Act.put _ (some 74) _) _;refine BN hK ?_;clear hK;refine BH 7 rfl (λK hK=>?_);refine tS (.agg #[.int .i64 0,.int .i64 0]) 2 16 (AO.nil _ _ _) [.int .i64 ((k:Int)+1),.int .i64 s] (HNA.reads 0 _ (λj v hv=>by rw[Nat.zero_add];exact hv)) ?_ (SV k s);intro v9 ob9 w9 ho9 hob9 hm9;have hgla:=HB1.le;have HO9:=qh (show AO w9 v9 ob9 37 2 1 [.int .i64 ((k:Int)+1),.int .i64 s] from ho9);have HN9:=qh (HN.mv hm9 (λh=>(by cases h)));have HB9:=qh (HB1.mv hm9 (λk hk=>by cases hk));have hob8:∀k,ob9=some k→wc.heap.size≤k:=(λk hk=>by rcases hob9 with h|⟨k2,h,h2⟩<;>rw[h] at hk<;>cases hk;omega);clear ho9 hob9 hm9;change K (Act.put _ (some 75) _) _;refine BN hK ?_;clear hK;refine FT 8 ?_ (hS:=IJ);refine BH 10 rfl (λK hK=>?_);refine tC 71 HN9.o v9 ?_ (hu:=HO9.c1) (h1:=HO9.c2);intro w10 hh10 ht10;have HRS:=qh (hS.out wc _ w10 v9 ob9 HRQ.o (hB0▸hwc) HB9.below (show Holds w10 g 102 (A7 n me gd gw gc gfr P o pv d kp since tk v9 out ans) from hh10) (HO9.touch ht10 (λk hk=>by have:=hob8 k hk;omega)) hob8 ht10);clear hh10 ht10;refine BN hK ?_;clear hK;refine Dl ?_;clear hSn HN HI HB1 HN9 HO9 HB9 HNA HRQ;go_wp2_with fail;refine Ac (KS.o _ HRS.o) ?_;rintro w6 h2;have H2:=qh h2;clear h2 HRS;go_wp2_with fail;go_ret;exact⟨rfl,H2.o⟩
end
section
variable [In] [Bs]
theorem Cm.Qh(c:Cm)(hc:Gu c):(Value.agg #[.int .i64 c.k,.int .i64 c.c,.int .i64 c.s,.string c.a,.string c.b,.string c.o,.string c.v])=.agg #[.int .i64 c.k,.int .i64 ((cK c:Int)+1),.int .i64 c.s,.string c.a,.string c.b,.string c.o,.string c.v]:=by have:=hc.cc;rw[show ((cK c:Nat):Int)+1=c.c by unfold cK;omega]
theorem Qi{w:World}{F:Af}{gc n me q:Nat}{c:Cm}(hB:EN n q c)(h:Ba w F gc n me q c .fresh (.slice none 0 0) (.slice none 0 0))(hqm:q=me) :Calls prog 129 #[.pointer (some ⟨gc,0,none⟩),.agg #[.int .i64 c.k,.int .i64 c.c,.int .i64 c.s,.string c.a,.string c.b,.string c.o,.string c.v]] w λe w'=>e=.returned (.tuple #[.agg #[.int .i64 me,.int .i64 In.sl],.bool true]) ∧∃recs cout,Ba w' (grow F w w') gc n me q c (.lead [] 0) recs cout∧IR w' w.heap.size 1 recs∧Dv w' (grow F w w') cout (n-1) (O1 1 me me c)∧Mv (Ef w F) w w':=by
 obtain⟨⟨gl,gm,nl,gi,gx,ni,L,E,leads,a1,a2,a3,⟨b1,b2,b3,b4⟩,rfl,rfl,d1⟩,hfc⟩:=h;have hn:=hB.n7;have hq:=hB.hq;subst hqm;obtain⟨p0,c0,ob0,rfl,d2,d3⟩:=d1;have hL:=JE hB a2;have hI:=JE hB a3;refine(TR gc n q gl gm nl gi gx ni c Bs.L Bs.E p0 c0 ob0 (JX Bs.L) w a1 hB.no hB.at_ hB.top d2 (λg hg=>⟨d2.ne_of a1.hc (by decide) g hg,d2.ne_of a1.lg.ix (by decide) g hg,λe=>?_,d2.ne_of a1.ix.ix (by decide) g hg,λe=>?_⟩) (λW h=>Yw gl gm nl Bs.L W h) hL hI hn.2 hq hB.hc).mono ?_
 ·obtain⟨_,h0,_⟩|⟨g1,_,_,_,h0,_,_,hh,_⟩:=d2.cases
  ·rw[h0] at hg;cases hg
  ·rw[h0] at hg;cases hg;exact Bv a1.lg.isMap hh e
 ·obtain⟨_,h0,_⟩|⟨g1,_,_,_,h0,_,_,hh,_⟩:=d2.cases
  ·rw[h0] at hg;cases hg
  ·rw[h0] at hg;cases hg;exact Bv a1.ix.isMap hh e
 rintro e w' ⟨gb,cb,gld,gr,cr,m,rest,rest2,rv,out,ob,rfl,c1,c2,c3,c4,c5,c6,c7,c8,c9,⟨d1,d2',d3',_⟩,c10⟩;have hs:=c10.size;refine⟨rfl,_,out,⟨⟨gl,gm,nl+1,gi,gx,ni+1,_,_,_,c1,by simp[bnd] at a2 ⊢;omega,by simp[bnd] at a3 ⊢;omega,⟨.inl b1,.inl b2,.inl b3,.inl b4⟩,rfl,⟨rfl,rfl⟩,gb,cb,gld,rest,.slice none 0 0,none,rfl,c3,c2,?_,?_,?_,.inr ⟨d2',c4.lt⟩,by simp⟩,.inl hfc⟩,.inr ⟨rfl,gr,cr,m,rv,rest2,rfl,c5,c6,c7,d3'⟩,⟨λh=>(by omega),ob,c8,λg hg=>.inr ⟨c9 g hg,c8.lt g hg⟩⟩,c10.more ?_⟩
 ·have:GG []=λ_=>0:=by funext r;simp[GG]
  rw[this];exact c4
 ·exact AO.nil _ _ _
 ·rcases d1 with h|h
  ·exact .inl (d3 gb h)
  ·exact .inr ⟨h,c2.lt⟩
 ·rintro k (rfl|rfl|rfl|hk)
  ·exact .of hfc a1.hc (by decide)
  ·exact .map b2 a1.lg.isMap
  ·exact .map b4 a1.ix.isMap
  ·exact TL d2 d3 (by decide) k hk
theorem IR.iI{w w':World}{F:Af}{B r:Nat}{recs:Value}(h:IR w B r recs)(hm:Mv F w w')(h1:∀k L,F k→¬Holds w k 5 L)(h2:∀k L,F k→¬Holds w k 127 L):IR w' B r recs:=by
 rcases h with h|⟨rfl,gr,cr,m,rv,rest,rfl,a1,a2,a3,a4⟩
 ·exact .inl h
 ·exact .inr ⟨rfl,gr,cr,m,rv,rest,rfl,a1.mv hm λhf=>h2 _ _ hf a1,a2.iI hm h1,a3,a4⟩
theorem IR.bel{w w':World}{B r:Nat}{recs:Value}(h:IR w B r recs)(hb:Below w.heap.size w w'):IR w' B r recs:=h.iI (F:=λ_=>False) (.of_below hb) (λ_ _ h=>h.elim) (λ_ _ h=>h.elim)
instance {w w':World}{B r:Nat}{recs:Value}:Bl w w' (IR w B r recs) (IR w' B r recs):=⟨λhb h=>IR.bel h hb⟩
theorem Dv.bel{w w':World}{F:Af}{out:Value}{m:Nat}{V:Nat→List Value}(h:Dv w F out m V)(hb:Below w.heap.size w w'):Dv w' F out m V:=h.mv (G:=λ_=>False) (T:=[47]) (.of_below hb) (λ_ h=>h.elim) (by decide)
instance {w w':World}{F:Af}{out:Value}{m:Nat}{V:Nat→List Value}:Bl w w' (Dv w F out m V) (Dv w' F out m V):=⟨λhb h=>Dv.bel h hb⟩
theorem Bh.foot{w:World}{F F':Af}{g n me q:Nat}{c:Cm}{ph:Ph}{out:List Lt}{an:Bool}{tk:Nat}(h:Bh w F g n me q c ph out an tk)(hF:∀k,F k→k<w.heap.size→F' k):Bh w F' g n me q c ph out an tk:=by obtain⟨tt,htt,h⟩:=h;exact⟨tt,htt,h.foot hF⟩
theorem Y1(w:World)(F:Af)(g n q:Nat)(c:Cm)(tk:Nat)(hB:EN n q c)(h:Bh w F g n q q c .fresh [] false tk)(hFw:∀k,F k→k<w.heap.size) :Calls prog 71 #[.pointer (some ⟨g,0,none⟩),.agg #[.int .i64 c.k,.int .i64 c.c,.int .i64 c.s,.string c.a,.string c.b,.string c.o,.string c.v]] w λe w'=>e=.returned (.int .i64 0)∧Bh w' (grow F w w') g n q q c (.lead [] 0) (Bz 1 n q) false tk∧Mv F w w':=by
 obtain⟨tt,htt,gd,mb,gw,gc,gfr,P,pv,waits,out0,ans,h⟩:=h;have hn:=hB.n7;have hq:=hB.hq;have hc:=hB.hc;have nd:=h.nd;have co:=h.co;obtain rfl:out0=.slice none 0 0:=h.ou.1 rfl;obtain rfl:ans=.slice none 0 0:=h.an;obtain rfl:waits=.slice none 0 0:=h.wa;have hlen:(Bz 1 n q).length=n-1:=by simp[Bz,FU]
 have hck:=cZ hc;rw[c.Qh hc];refine(kH g n q gd gw gc gfr c P _ pv _ _ _ tt (cK c) c.s _ (.slice none 0 0) (.slice none 0 0)
  (λW W1=>∃recs cout,Ba W1 (grow F W W1) gc n q q c (.lead [] 0) recs cout∧IR W1 W.heap.size 1 recs∧Dv W1 (grow F W W1) cout (n-1) (Dt c q (Bz 1 n q))∧Mv (Ef W F) W W1)
  (λWf=>∃W W1 recs cout,w.heap.size≤W.heap.size∧W.heap.size≤W1.heap.size∧W1.heap.size≤Wf.heap.size∧DR Wf (grow F W W1) g n q q c (.lead [] 0) recs cout .no false 0 (Dt c q []) false tt (DK .fresh) gd mb gw gc gfr P pv (.slice none 0 0) (.slice none 0 0) (.slice none 0 0)∧IR Wf W.heap.size 1 recs∧Dv Wf (grow F W W1) cout (n-1) (Dt c q (Bz 1 n q))∧Mv F w Wf)
  (λWn=>∃W recs cout,w.heap.size≤W.heap.size∧W.heap.size≤Wn.heap.size∧Mv F w Wn∧DJ Wn (grow F W Wn) g n q q c (.lead [] 0) recs cout .no true 0 (Dt c q []) false tt (DK .fresh)∧IR Wn W.heap.size 1 recs∧Dv Wn (grow F W Wn) cout (n-1) (Dt c q (Bz 1 n q)))
  (λw'=>DJ w' (grow F w w') g n q q c (.lead [] 0) (.slice none 0 0) (.slice none 0 0) .no true (n-1) (Dt c q (Bz 1 n q)) false tt (DK .fresh+500*1)∧Mv F w w') w nd (by have:=hc.kk;omega) hck rfl hB.seq ?_ ?_ ?_ ?_ ?_ ?_ ?_).mono ?_
 ·intro W;have:=EU c.k c.c c.s c.a c.b c.o c.v W;rw[hc.right,c.Qh hc] at this;exact this
 ·intro W hb;obtain⟨⟨gl,gm,nl,gi,gx,ni,L,E,leads,a1,a2,a3,a4,rfl,rfl,d1⟩,hfc⟩:=co;exact ZU g n q gd gw gc gl gm nl gi gx ni gfr _ _ Bs.L Bs.E _ _ _ P _ pv _ _ _ tt _ _ _ W (nd.bel hb) (a1.bel hb) (by have:=hB.len;omega) hB.done
 ·intro W hb;have:=Qi hB (co.bel hb) rfl;rw[c.Qh hc] at this;refine this.mono ?_;rintro e w' ⟨rfl,recs,cout,c1,c2,c3,c4⟩;refine⟨rfl,recs,cout,c1,c2,c3.UQ λi hi=>?_,c4⟩;have:(Bz 1 n q).getD i (0,0,0)=(1,q,if i<q then i else i+1):=by simp[Bz,FU,List.getD_eq_getElem?_getD,hi]
  unfold Dt Wx O1;rw[this]
  rfl
 ·rintro W W1 ⟨recs,cout,c1,c2,c3,c4⟩;refine⟨c4.size,λk L hL=>hL.mv c4 λhf=>?_⟩;rcases hf.2 with⟨t,L',h',ht⟩|hmap
  ·exact absurd (CP hL h'▸ht) (by decide)
  ·exact Bv hmap hL rfl
 ·rintro W W1 Wf b ⟨recs,cout,c1,c2,c3,c4⟩ ⟨hb,htf,hbw,hbb⟩;have hI1:=((h.bel hb).foot (F':=grow F W W1) λk hk _=>.inl hk).YE c4 (λk hk _=>hk.2) c1;have hmf:Mv (λk=>k=b) W1 Wf:=Mv.AU htf rfl;have hnb:¬grow F W W1 b:=by
   rintro(hf|⟨h3,h4⟩)
   ·have:=hFw b hf;omega
   ·rcases hbb with⟨h5,_⟩|h5<;>omega
  have hty:∀t L,t≠37→¬Holds W1 b t L:=by
   intro t L ht hL;rcases hbb with⟨h5,L5,h6⟩|h5
   ·have h7:Holds W1 b 37 L5:=h6.mv c4 λhf=>by have:=hFw b hf.1;omega
    exact ht (CP hL h7)
   ·have:=hL.lt;omega
  have hI2:=hI1.mv hmf (λk hk _=>hk▸hnb);exact⟨⟨W,W1,recs,cout,hb.size,c4.size,hmf.size,hI2,c2.iI hmf (λk L hk=>hk▸hty _ L (by decide)) (λk L hk=>hk▸hty _ L (by decide)),c3.mv (T:=[47]) hmf (λk hk _=>.inl (.inl (hk▸hnb))) (by decide),(Ve hb c4).mv hmf λk hk=>.inr (hk▸hbw)⟩,hI2.nd⟩
 ·rintro Wf Wm Wn v' ob ⟨W,W1,recs,cout,s1,s2,s3,hI,hR,hL,hM⟩ _ hb hn' ho hob ht;have hm:Mv (λk=>k=g) Wm Wn:=Mv.AU ht rfl;have hs4:=hb.size;have hs5:=hm.size;have hF:∀k,grow F W W1 k→k<Wm.heap.size→grow F W Wn k:=λk hk _=>hk.imp id λ⟨a,b⟩=>⟨a,by omega⟩;have hI2:=(hI.bel hb).foot hF;have hty:∀t L,t≠102→¬Holds Wm g t L:=λt L ht hL=>ht (CP hL hI2.nd);exact⟨W,recs,cout,s1,by omega,(hM.bel hb).mv hm λk hk=>.inl (hk▸h.f.1),⟨gd,mb,gw,gc,gfr,P,pv,v',_,_,hI2.CQ hm hn' rfl (hI2.st.CQ hI2.nd hm) ⟨ob,ho,λk hk=>.inr ⟨by have:=hob k hk;omega,ho.lt k hk⟩⟩ (hI2.ou.CQ hI2.nd hm) (hI2.an.CQ hI2.nd hm)⟩,(hR.bel hb).iI hm (λk L hk=>hk▸hty _ L (by decide)) (λk L hk=>hk▸hty _ L (by decide)),((hL.bel hb).foot hF).CQ hI2.nd hm⟩
 ·rintro W1 ⟨W,recs,cout,r1,r2,r3,r4,r5,r6⟩;have hnb:=hB.nb;have hlim:DK .fresh≤21000:=by unfold DK;simp[bnd];omega
  refine Ac (Jm W1 (grow F W W1) W.heap.size g n q q c (.lead [] 0) recs cout .no true tt (DK .fresh) 1 (n-1) _ (Dt c q []) hB r4 r5 r6 (by omega) (G9 c q _ _) (λk hk hk2=>.inr ⟨hk,hk2⟩) (by omega) (by omega) (.inl rfl) hq) ?_;rintro w' ⟨hn,hm'⟩;have hs:=hm'.size;refine⟨rfl,hn.foot λk hk hkl=>?_,r3.mv hm' λk hk=>hk.imp id λ⟨a,_⟩=>Nat.le_trans r1 a⟩;rcases grow_step r2 hs hk with h|⟨a,b⟩
  ·exact .inl h
  ·exact .inr ⟨Nat.le_trans r1 a,b⟩
 ·rintro e w' ⟨rfl,hn',hm'⟩;exact⟨rfl,⟨tt,htt,by rw[hlen];exact hn'⟩,hm'⟩
end
section
class Hs where
 sq:Nat→Int
 cm:Nat→Cm
 ev:List Ev
variable [In] [Bs] [Hs]
def evs(c:Cm):Nat→List Ev
 | 0=>Hs.ev
 | 1=>Hs.ev++[⟨1,(cK c:Int)+1,c,Rep.zero⟩]
 | _=>(Hs.ev++[⟨1,(cK c:Int)+1,c,Rep.zero⟩])++[U3 (cK c) c (Lu c)]
structure Nh(w:World)(own:Nat→Nat)(gC n q:Nat)(c:Cm)(lets:List Lt)(hist:Nat)(wait:Bool)(dv:Value)(gN cN gCl cCl gCa:Nat)(lv hv:Value)(gs gcl:Nat→Nat):Prop where
 cl:Holds w gC 85 (DV n dv (.slice (some ⟨gN,0,none⟩) n cN) (.slice (some ⟨gCl,0,none⟩) 8 cCl) (.slice (some ⟨gCa,0,none⟩) 8 8) lv hv)
 ow:own gC=1∧own gN=1∧own gCl=1∧own gCa=1
 np:∃rest,Holds w gN 59 (ptrs n gs++rest)
 cN:n≤cN∧cN≤maxLen
 cp:∃rest,Holds w gCl 92 (ptrs 8 gcl++rest)
 cCl:8≤cCl∧cCl≤maxLen
 c0:(hist=0∧wait=false∧∃tg tk,Ju w (gcl (cK c)) ((cK c:Int)+1) (Hs.sq (cK c)) (Hs.cm (cK c)) false tg tk)∨(hist≠0∧∃tg tk,Ju w (gcl (cK c)) ((cK c:Int)+1) c.s c wait tg tk)
 cs:∀j,j<8→j≠cK c→∃tg tk,Ju w (gcl j) ((j:Int)+1) (Hs.sq j) (Hs.cm j) false tg tk
 clo:∀j,j<8→own (gcl j)=1
 calls:∃CA,Holds w gCa 23 CA∧CA.length=56∧(hist≠0→∀(j:Nat) v,c.cells[j]?=some v→CA[cK c*7+j]?=some v)
 lts:∃ob,AO w lv ob 47 51 lets.length (flat 51 lets.length (Dt c q lets))∧∀g,ob=some g→own g=1
 his:Jv (evs c hist).length hv∧∃ob pv pb,F9 w hv ob (evs c hist) pv pb∧(∀g,ob=some g→own g=1)∧∀i,i<(evs c hist).length→∀g,pb i=some g→own g=1
 lt:∀k,own k≠0→k<w.heap.size
def Hm(w:World)(own:Nat→Nat)(n q:Nat)(c:Cm)(phs:List Ph)(tk:Nat)(gs:Nat→Nat)(out:Nat→List Lt)(an:Nat→Bool):Prop:=
 ∀i,i<n→Bh w (λk=>own k=2+i) (gs i) n i q c (phs.getD i .fresh) (out i) (an i) tk
def JB(w:World)(own:Nat→Nat)(gC n q:Nat)(c:Cm)(s:Cs)(out:Nat→List Lt)(an:Nat→Bool):Prop:=
 ∃dv gN cN gCl cCl gCa lv hv gs gcl,Nh w own gC n q c s.lets s.hist s.wait dv gN cN gCl cCl gCa lv hv gs gcl∧Hm w own n q c s.phs s.tk gs out an∧s.phs.length=n
def Bg(w:World)(own:Nat→Nat)(gC n q:Nat)(c:Cm)(s:Cs):Prop:=JB w own gC n q c s (λ_=>[]) (λ_=>false)
def Bo(own:Nat→Nat)(w w':World)(x:Nat):Nat→Nat:=λk=>if w.heap.size≤k∧k<w'.heap.size then x else own k
section
variable {w w':World} {own own':Nat→Nat} {gC n q:Nat} {c:Cm} {lets:List Lt} {hist:Nat} {wait:Bool} {dv:Value} {gN cN gCl cCl gCa:Nat} {lv hv:Value} {gs gcl:Nat→Nat} {phs:List Ph} {tk:Nat} {out:Nat→List Lt} {an:Nat→Bool}
theorem Nh.mv{G:Af}(h:Nh w own gC n q c lets hist wait dv gN cN gCl cCl gCa lv hv gs gcl)(hck:cK c<8)(hm:Mv G w w')(hG:∀k,G k→k<w.heap.size→own k≠1)(ho:∀k,k<w.heap.size→own' k=own k)(hlt:∀k,own' k≠0→k<w'.heap.size):Nh w' own' gC n q c lets hist wait dv gN cN gCl cCl gCa lv hv gs gcl:=by
 obtain⟨a1,⟨o1,o2,o3,o4⟩,⟨r1,a2⟩,a3,⟨r2,a4⟩,a5,a6,a7,a8,⟨CA,a9,a10,a11⟩,⟨ob,b1,b2⟩,⟨b3,ob2,pv,pb,b4,b5,b7⟩,b6⟩:=h;have hn:∀k,k<w.heap.size→own k=1→¬G k:=λk hk h1 hg=>hG k hg hk h1;have hcl:∀j,j<8→gcl j<w.heap.size:=λj hj=>by
  by_cases h0:j=cK c
  ·subst h0;rcases a6 with⟨_,_,tg,tk,h3⟩|⟨_,tg,tk,h3⟩
   ·exact h3.lt
   ·exact h3.lt
  ·obtain⟨tg,tk,h3⟩:=a7 j hj h0;exact h3.lt
 refine⟨a1.mv hm (hn _ a1.lt o1),⟨by rw[ho _ a1.lt,o1],by rw[ho _ a2.lt,o2],by rw[ho _ a4.lt,o3],by rw[ho _ a9.lt,o4]⟩,⟨r1,a2.mv hm (hn _ a2.lt o2)⟩,a3,⟨r2,a4.mv hm (hn _ a4.lt o3)⟩,a5,?_,λj hj h0=>?_,λj hj=>by rw[ho _ (hcl j hj),a8 j hj],⟨CA,a9.mv hm (hn _ a9.lt o4),a10,a11⟩,⟨ob,b1.mv hm λg hg=>hn _ (b1.lt g hg) (b2 g hg),λg hg=>by rw[ho _ (b1.lt g hg),b2 g hg]⟩,⟨b3,ob2,pv,pb,⟨AO.mv b4.1 hm λg hg=>hn _ (AO.lt b4.1 g hg) (b5 g hg),λi hi=>(b4.2 i hi).mv hm λg hg=>hn _ (AO.lt (b4.2 i hi) g hg) (b7 i hi g hg)⟩,λg hg=>by rw[ho _ (AO.lt b4.1 g hg),b5 g hg],λi hi g hg=>by rw[ho _ (AO.lt (b4.2 i hi) g hg),b7 i hi g hg]⟩,hlt⟩
 ·rcases a6 with⟨h1,h2,tg,tk,h3⟩|⟨h1,tg,tk,h3⟩
  ·exact .inl ⟨h1,h2,tg,tk,h3.mv hm (hn _ h3.lt (a8 _ hck))⟩
  ·exact .inr ⟨h1,tg,tk,h3.mv hm (hn _ h3.lt (a8 _ hck))⟩
 ·obtain⟨tg,tk,h3⟩:=a7 j hj h0;exact⟨tg,tk,h3.mv hm (hn _ h3.lt (a8 j hj))⟩
theorem Bh.mv{F G:Af}{g n me q:Nat}{c:Cm}{ph:Ph}{out:List Lt}{an:Bool}{tk:Nat}(h:Bh w F g n me q c ph out an tk)(hm:Mv G w w')(hG:∀k,G k→k<w.heap.size→¬F k):Bh w' F g n me q c ph out an tk:=by obtain⟨t,ht,h⟩:=h;exact⟨t,ht,h.mv hm hG⟩
theorem Hm.mv{G:Af}(h:Hm w own n q c phs tk gs out an)(hm:Mv G w w')(hG:∀k,G k→k<w.heap.size→own k<2)(ho:∀k,k<w.heap.size→own' k=own k):Hm w' own' n q c phs tk gs out an:=λi hi=>by
 have h1:Bh w (λk=>own' k=2+i) (gs i) n i q c (phs.getD i .fresh) (out i) (an i) tk:=(h i hi).foot λk hk hl=>by rw[ho k hl];exact hk
 exact h1.mv hm λk hk hl hx=>by have:=hG k hk hl;rw[ho k hl] at hx;omega
theorem JB.bel{s:Cs}(h:JB w own gC n q c s out an)(hck:cK c<8)(hb:Below w.heap.size w w'):JB w' own gC n q c s out an:=by obtain⟨dv,gN,cN,gCl,cCl,gCa,lv,hv,gs,gcl,h1,h2,h3⟩:=h;exact⟨dv,gN,cN,gCl,cCl,gCa,lv,hv,gs,gcl,h1.mv (G:=λ_=>False) hck (.of_below hb) (λ_ h=>h.elim) (λ_ _=>rfl) (λk hk=>Nat.lt_of_lt_of_le (h1.lt k hk) hb.size),h2.mv (G:=λ_=>False) (.of_below hb) (λ_ h=>h.elim) (λ_ _=>rfl),h3⟩
end
end
end Go.Proofs.YtimdpiifpibgfaaGreatDoor
