/- A part of the proof that the law TopGone returns true for every input. -/
import Derived.Test.YtimdpiifpibgfaaGreatDoorQg23
import Derived.Test.YtimdpiifpibgfaaGreatDoorQg11
set_option linter.all false
set_option maxRecDepth 20000
set_option maxHeartbeats 16000000
open Go.RowKit Go.Maps
namespace Go.Proofs.YtimdpiifpibgfaaGreatDoor
open Tryz
theorem gQ(p:Option Addr)(c0:Nat)(ob:Option Nat)(bs gld:Nat)(w:World)(h:Holds w bs 158 [.pointer (some ⟨gld,0,none⟩)])(ho:AU w (.slice p 0 c0) ob 158 1 0 []) :Calls prog 272 #[.slice p 0 c0,.int .i64 0,.slice (some ⟨bs,0,none⟩) 1 1] w λe w'=>∃g c,e=.returned (.slice (some ⟨g,0,none⟩) 1 c)∧AU w' (.slice (some ⟨g,0,none⟩) 1 c) (some g) 158 1 1 [.pointer (some ⟨gld,0,none⟩)]∧(ob=some g∨w.heap.size≤g)∧Mv (λk=>ob=some k) w w':=by
 have HH:=qh h;have HOW:=qh ho;clear h ho;go_in;go_wp2_with (first|(at_builtin;refine aS (.pointer none) 1 8 HOW.o [.pointer (some ⟨gld,0,none⟩)] (HH.reads 0 _ (λj v hv=>by rw[Nat.zero_add];exact hv)) ?_;intro v2 ob2 w2 ho2 hob2 hm2));rw[List.nil_append,Nat.zero_add] at ho2;obtain⟨g,c,rest,rfl,rfl,hc1,hc2,hh,hl⟩:=ho2.blk (by decide);have HR:=qh ho2;have HM:=qh hm2;have hg:ob=some g∨w.heap.size≤g:=by
  rcases hob2 with hc|⟨k,hk,hk2⟩
  ·exact .inl hc.symm
  ·cases hk;exact .inr hk2
 have HG:=qh hg;clear ho2 hob2 hm2 hh hg hl;go_ret;exact⟨g,c,rfl,HR.o,HG.o,HM.o⟩
theorem di[Af](F:Ap)(obs:Option Nat)(gc n me gl gi gld:Nat)(recs out:Value)(q wy be br:Int)(fi:Bool)(x:Cm)(a:Nat→Int)(R S:Value)(cnt tk:Int)(w:World)(hl:Holds w gld 167 (CQ q wy be br fi x a R S cnt tk))(hgld:¬F gld)(hF:F gc)(hFo:∀g,obs=some g→F g) (KL:Calls prog 211 #[.pointer (some ⟨gc,0,none⟩),.agg #[.int .i64 q,.int .i64 1]] w λe w'=>e=.returned (.tuple #[])∧∃p c,Holds w' gc 163 (Au n me gl gi (.slice p 0 c) recs out)∧AU w' (.slice p 0 c) obs 158 1 0 []∧Mv F w w') :Calls prog 221 #[.pointer (some ⟨gc,0,none⟩),.pointer (some ⟨gld,0,none⟩)] w λe w'=>e=.returned (.tuple #[])∧∃gb c,Holds w' gc 163 (Au n me gl gi (.slice (some ⟨gb,0,none⟩) 1 c) recs out)∧AU w' (.slice (some ⟨gb,0,none⟩) 1 c) (some gb) 158 1 1 [.pointer (some ⟨gld,0,none⟩)]∧(obs=some gb∨w.heap.size≤gb)∧Mv F w w':=by
 have KL:=qh KL;have KI:=qh (λp c bs W h ho=>gQ p c obs bs gld W h ho);have HL:=qh hl;have hFo:=qh hFo;clear hl;go_in;obtain⟨l0,l1⟩:=BQ HL.o 0 1;go_wp2_with fail;refine KL.mono ?_;rintro e w1 ⟨rfl,p,c0,hc1,ho1,hm1⟩;have HC:=qh hc1;have HO:=qh ho1;have HM:=qh hm1;clear hc1 ho1 hm1 l0 l1 HL KL;go_wp2_with fail;go_loopw [4] (λvi wr=>vi=.int .i64 0∧wr=w1) (λ_ _=>0);case atStart=>exact⟨rfl,rfl⟩
 case round=>
  obtain⟨rfl,rfl⟩:=hrel;have d4:=AZ HC.o 4;go_upto_region 2 with(fail);go_quiet (fail);have hb2:Below wr.heap.size wr (wr.drewN nq):=BV _ _ _;obtain⟨HC,HO,HM⟩:=Ce hb2 HC HO HM;clear hb2 d4;generalize wr.drewN nq=W2 at HC HO HM ⊢;have d4:=AZ HC.o 4;go_wp2_with fail;have HN:=qh (AA W2 158 [.pointer (some ⟨gld,0,none⟩)]);have hal:Below W2.heap.size W2 (W2.alloc (.cells #[.pointer (some ⟨gld,0,none⟩)] 158)):=by go_grown
  have hsz:=HM.size;obtain⟨HC,HO,HM⟩:=Ce hal HC HO HM;clear hal d4;generalize W2.alloc (.cells #[.pointer (some ⟨gld,0,none⟩)] 158)=W3 at HN HC HO HM ⊢;have hsn:=HN.lt;generalize W2.heap.size=gn at HN hsz hsn ⊢;have hogc:∀k,obs=some k→k≠gc:=by
   intro k hk;rcases HO.cases with⟨_,h0,_⟩|⟨g1,_,_,_,h0,_,_,hh,_⟩
   ·rw[h0] at hk;cases hk
   ·rw[h0] at hk;cases hk;exact Holds.ne_of hh HC.o (by decide)
  have HOG:=qh hogc;clear hogc;refine(KI.o _ _ gn _ HN.o HO.o).mono ?_;rintro e w5 ⟨gb,c,rfl,ho5,hob5,hm5⟩;have HC:=qh (HC.mv hm5 (λhk=>HOG.o gc hk rfl));have HM:=qh (HM.mv hm5 (λk hk=>.inl (hFo.out k hk)));have HG:=qh ho5;have HOB:=qh (show obs=some gb∨w.heap.size≤gb from hob5.imp id (λh=>by omega));clear hm5 ho5 hob5 HN HO;go_wp2_with (first|(refine sC 4 HC.o (.slice (some ⟨gb,0,none⟩) 1 c) ?_;intro w7 hh7 ht7));have hgbc:gb≠gc:=by obtain⟨g1,_,_,_,h0,_,_,hh,_⟩:=HG.blk (by decide);cases h0;exact Holds.ne_of hh HC.o (by decide)
  have HC:=qh (show Holds w7 gc 163 (Au n me gl gi (.slice (some ⟨gb,0,none⟩) 1 c) recs out) from hh7);have HG:=qh (HG.touch ht7 (λg hg=>by cases hg;exact hgbc));have HM:=qh (HM.touch ht7 (.inl hF));clear hh7 ht7;go_wp2_with fail;exact bE ⟨rfl,gb,c,HC.o,HG.o,HOB.o,HM.o⟩
theorem I4.base[Af]{B B' gc n me gl gi:Nat}{leads recs:Value}{k:Nat}{pl:Lp}{w w':World}{m:Nat}{wr:World}(h:I4 B gc n me gl gi leads recs k pl w m wr)(hB:B'≤B):I4 B' gc n me gl gi leads recs k pl w m wr:=by obtain⟨out,ob,h1,h2,h3,h4⟩:=h;exact⟨out,ob,h1,h2,λg hg=>Nat.le_trans hB (h3 g hg),h4⟩
def au[Af](F:Ap)(obs:Option Nat)(gc n me gl gi gld:Nat)(recs:Value)(k:Nat)(pl:Lp)(w w':World):Prop:=∃(gb c:Nat) (out:Value) (ob:Option Nat),Holds w' gc 163 (Au n me gl gi (.slice (some ⟨gb,0,none⟩) 1 c) recs out)∧AU w' (.slice (some ⟨gb,0,none⟩) 1 c) (some gb) 158 1 1 [.pointer (some ⟨gld,0,none⟩)]∧(obs=some gb∨w.heap.size≤gb)∧AU w' out ob 47 51 (n-1) (flat 51 (n-1) (Oh k me pl))∧(∀g,ob=some g→w.heap.size≤g)∧Mv F w w'
theorem Ul[Af](F:Ap)(obs:Option Nat)(gc n me gl gi gld kd:Nat)(pl:Lp)(recs:Value)(q wy be br:Int)(fi:Bool)(x:Cm)(R S:Value)(cnt tk:Int)(w:World)(hl:Holds w gld 167 (CQ q wy be br fi x (λ_=>0) R S cnt tk))(hgld:¬F gld)(hF:F gc)(hFo:∀g,obs=some g→F g)(hn:n≤7)(hme:me<n) (KL:Calls prog 211 #[.pointer (some ⟨gc,0,none⟩),.agg #[.int .i64 q,.int .i64 1]] w λe w'=>e=.returned (.tuple #[])∧∃p c,Holds w' gc 163 (Au n me gl gi (.slice p 0 c) recs (.slice none 0 0))∧AU w' (.slice p 0 c) obs 158 1 0 []∧Mv F w w') (KA:∀W,Holds W gld 167 (CQ q wy be br fi x (λ_=>0) R S cnt tk)→Calls prog 80 #[.pointer (some ⟨gld,0,none⟩)] W λe w'=>e=.returned (.agg (DZ kd 0 0 pl).toArray)∧Below W.heap.size W w') :Calls prog 158 #[.pointer (some ⟨gc,0,none⟩),.pointer (some ⟨gld,0,none⟩)] w λe w'=>e=.returned (.tuple #[])∧au F obs gc n me gl gi gld recs kd pl w w':=by
 have KT:=qh (di F obs gc n me gl gi gld recs (.slice none 0 0) q wy be br fi x (λ_=>0) R S cnt tk w hl hgld hF hFo KL);have KA:=qh KA;have KS:=qh (λleads W h=>fB gc n me gl gi leads recs kd 0 0 pl W h hn hme);have HL:=qh hl;have HG0:=qh hgld;have HF:=qh hF;clear hl KL hFo hgld hF;go_in;go_wp2_with fail;refine KT.mono ?_;rintro e w1 ⟨rfl,gb,c,hc1,hg1,hgb,hm1⟩;have HC:=qh hc1;have HG:=qh hg1;have HL:=qh (HL.mv hm1 HG0.o);have HM:=qh hm1;have HGB:=qh hgb;clear hc1 hg1 hm1 hgb KT;go_upto_region 1 with(fail);have HRL:=qh (λ(w':World) (h:Below w1.drew.heap.size w1.drew w')=>(((HL.bel (AP _ w1)).bel h).D9 21 (cs:=BX) (λj v hv=>by
  rcases(show j=0∨j=1∨j=2∨j=3∨j=4∨j=5∨j=6∨7≤j by omega) with rfl|rfl|rfl|rfl|rfl|rfl|rfl|h7
  ·exact hv
  ·exact hv
  ·exact hv
  ·exact hv
  ·exact hv
  ·exact hv
  ·exact hv
  ·rw[List.getElem?_eq_none (by simp[BX];omega)] at hv;cases hv)))
 obtain⟨HC,HG,HL,HM⟩:=D8 (AP _ w1) HC HG HL HM;refine EC [7] 8 (λhSn=>?_);generalize w1.drew=wd at HC HG HL HM HRL hSn ⊢;simp only[List.replicate];refine FD 0 ?_;refine Dl 3 ?_;refine IM 6 [7] (some 13) (.agg (BX).toArray) rfl (yieldsIf_load_mid (by rfl) 40 _ rfl gld 21 rfl (BX) _ (λw hSw=>HRL.o w hSw) underlying40 rfl (by as_aux_lemma=>kernel_rfl)) hSn ?rg6;simp only[Act.put,zA,zB,zC];refine BC 2 rfl (λK hK=>?_);go_simp;refine AY (KA.o _ (HL.bel hSn)) ?_;rintro w2 hb;have hSn:=AB hSn hb;clear hb;refine BJ hK ?_;clear hK;refine BC 7 rfl (λK hK=>?_);go_simp;have hs1:=HM.size;have hs2:=hSn.size;refine AY (KS.o _ _ (HC.bel hSn)) ?_;rintro w3 ha3;obtain⟨out,ob,hc3,ho3,hb3,hm3⟩:=ha3;have HC3:=qh hc3;have HO3:=qh ho3;have HB3:=qh (show ∀g,ob=some g→w.heap.size≤g from λg hg=>by have:=hb3 g hg;omega);have hgbc:gb≠gc:=by obtain⟨g1,_,_,_,h0,_,_,hh,_⟩:=HG.blk (by decide);cases h0;exact Holds.ne_of hh HC.o (by decide)
 have HG3:=qh ((HG.bel hSn).mv hm3 (λg hg hc=>by cases hg;exact hgbc hc));have HM3:=qh ((HM.bel hSn).mv hm3 (λk hk=>.inl (hk▸HF.o)));clear hm3 hc3 ho3 hb3 hgbc;refine BJ hK ?_;clear hK;refine DX ?_;clear hSn HC HG HL HM HRL;go_wp2_with fail;exact bE ⟨rfl,gb,c,out,ob,HC3.o,HG3.o,HGB.o,HO3.o,HB3.o,HM3.o⟩
def Iy:List Value:=[.int .i64 0,.int .i64 0,.int .i64 0,.int .i64 0,.int .i64 0,.int .i64 0,.int .i64 0,.int .i64 0]
def eX:List Value:=Iy++Iy
theorem Tt(b:Nat)(w:World)(h:Holds w b 43 eX) :Calls prog 216 #[.slice (some ⟨b,0,none⟩) 2 2] w λe w'=>e=.returned (.agg Iy.toArray)∧Below w.heap.size w w':=by
 have hr:CB w (some ⟨b,0,none⟩) 2 8 λi=>((λ_:Nat=>At.of 0) i).cells:=by
  refine⟨by unfold maxLen;omega,λ_ _=>rfl,λ_=>⟨b,0,rfl,h.lt,λi hi j hj=>?_⟩⟩;rw[Nat.zero_add,h.cell];have hi2:i=0∨i=1:=by omega
  have hj2:j=0∨j=1∨j=2∨j=3∨j=4∨j=5∨j=6∨j=7:=by omega
  rcases hi2 with rfl|rfl<;>rcases hj2 with rfl|rfl|rfl|rfl|rfl|rfl|rfl|rfl<;>rfl
 have hj:(DY (λ_:Nat=>At.of 0) 1).cells=Iy:=by rfl
 refine AY (LU b 0 2 2 (λ_=>At.of 0) w hr (by omega) (by omega) (by omega)) ?_;rintro w' hb;refine⟨?_,hb⟩;rw[show 2-1=1 from rfl,hj]
theorem Aw.iw{w w':World}{F:Ap}{B:Nat}{v:Value}{n:Nat}(h:Aw w B v n)(hm:Mv F w w')(hF:∀k,F k→k<B):Aw w' B v n:=by obtain⟨bs,h1,h2,h3,h4⟩:=h;exact⟨bs,h1,h2,h3,h4.imp id λ⟨b,cap,cur,e1,e2,hh,r⟩=>⟨b,cap,cur,e1,e2,(hm.block b (Array.getElem?_eq_some_iff.1 hh).1 (λhk=>by have:=hF b hk;omega)).trans hh,r⟩⟩
theorem U4(q s:Int)(A B:List Value):Ez [⟨q,s,A⟩] ⟨q,s,B⟩=[⟨q,s,B⟩]:=by simp[Ez]
def Ib[Af](gc n me gl gm nl gi gx ni gb q:Nat)(be br:Int)(c:Cm)(E:List Bh)(w w':World):Prop:=
 ∃(gb' cb' gld gr cr m:Nat) (rv:Value) (rest:List Value) (out:Value) (ob:Option Nat),Ac w' gc n me gl gm (nl+1) gi gx (ni+1) [⟨q,1,AO ⟨be,br,be,br⟩ 2 c false⟩] (Fh E ⟨q,1,c,0⟩) (.slice (some ⟨gb',0,none⟩) 1 cb') (.slice (some ⟨gr,0,none⟩) 1 cr) out ∧
  AU w' (.slice (some ⟨gb',0,none⟩) 1 cb') (some gb') 158 1 1 [.pointer (some ⟨gld,0,none⟩)]∧(gb'=gb∨w.heap.size≤gb')∧Holds w' gld 167 (CQ q 1 be br false c (λ_=>0) (.slice none 0 0) (.slice none 0 0) 0 0)∧w.heap.size≤gld ∧
  Holds w' gr 127 (rv :: rest)∧Aw w' w.heap.size rv m∧(1≤m∧m≤480)∧w.heap.size≤gr∧AU w' out ob 47 51 (n-1) (flat 51 (n-1) (Oh 3 me (PL q be br c)))∧(∀g,ob=some g→w.heap.size≤g)∧Mv (λk=>k=gc∨k=gm∨k=gx∨k=gb) w w'
theorem XG[Af](gc n me gl gm nl gi gx ni gb gld cb q:Nat)(be br:Int)(c:Cm)(E:List Bh)(a:Nat→Int)(R S:Value)(cnt tk:Int)(w:World) (h:Ac w gc n me gl gm nl gi gx ni [⟨q,1,AO ⟨be,br,0,0⟩ 1 c true⟩] E (.slice (some ⟨gb,0,none⟩) 1 cb) (.slice none 0 0) (.slice none 0 0)) (ho:AU w (.slice (some ⟨gb,0,none⟩) 1 cb) (some gb) 158 1 1 [.pointer (some ⟨gld,0,none⟩)]) (hl:Holds w gld 167 (CQ q 2 be br false Cm.zero a R S cnt tk)) (hnl:nl≤1000) (hni:ni≤1000) (hq:q<7) (hn:n≤7) (hme:me<n) (hc:CU c) (hbe:0≤be∧be≤1073741824) (hbr:0≤br∧br<7) :Calls prog 147 #[.pointer (some ⟨gc,0,none⟩),.pointer (some ⟨gld,0,none⟩),.agg c.cells.toArray,.agg Iy.toArray] w λe w'=>e=.returned (.tuple #[])∧Ib gc n me gl gm nl gi gx ni gb q be br c E w w':=by
 obtain⟨g0,cap,rest0,hv,hg0,hc1,hcm,hgb,hlen⟩:=ho.blk (by decide);cases hv;cases hg0;have hgb:Holds w gb 158 (.pointer (some ⟨gld,0,none⟩) :: rest0):=hgb;have hle:below be br be br=false:=by simp[below]
 have hb0:below be br 0 0=false:=by simp[below];omega
 have KD:=qh BN;have KS:=qh (λW (h:Ac W gc n me gl gm nl gi gx ni [⟨q,1,AO ⟨be,br,0,0⟩ 1 c true⟩] E (.slice (some ⟨gb,0,none⟩) 1 cb) (.slice none 0 0) (.slice none 0 0))=>Ox ⟨be,br,be,br⟩ ⟨hbe,hbr,hbe,hbr,hle⟩ ⟨be,br,0,0⟩ 1 true gc n me gl gm nl gi gx ni _ E _ (.slice none 0 0) q 2 c false W h hnl hni hq hc (.inr ⟨.inl rfl,rfl⟩) (λW=>Ob ⟨be,br,0,0⟩ ⟨be,br,be,br⟩ 1 2 c true false W (by decide) (by decide) hle hb0) (.inr ⟨by simp[F6],_,List.mem_cons_self,rfl,rfl,rfl⟩));have HCA:=qh h;have HG:=qh hgb;have HL:=qh hl;have hlt:=h.lt;have hdd:=Ai h.lg.isMap hl;have hld:gld≠gc∧gld≠gm∧gld≠gx∧gld≠gb:=⟨hl.ne_of h.hc (by decide),Ai h.lg.isMap hl,Ai h.ix.isMap hl,hl.ne_of hgb (by decide)⟩;have hgd:gb≠gc∧gb≠gl∧gb≠gm∧gb≠gi∧gb≠gx:=⟨hgb.ne_of h.hc (by decide),hgb.ne_of h.lg.ix (by decide),Ai h.lg.isMap hgb,hgb.ne_of h.ix.ix (by decide),Ai h.ix.isMap hgb⟩;have hgbl:gb<w.heap.size:=hgb.lt;have hgldl:=hl.lt;have HM:=qh (Mv.refl (λk=>k=gc∨k=gm∨k=gx∨k=gb) w);clear h ho hl hgb hdd;go_in;go_upto_region 1 with(fail);go_name_world W hW;have hW:Ba w [.cells (c.cells:List Value).toArray 23,.cells (Iy:List Value).toArray 43]=W:=hW;have HX:=qh (show Holds W (w.heap.size) 23 (c.cells) from AQ _ hW 0 rfl);have HY:=qh (show Holds W (w.heap.size+1) 43 (Iy) from AQ _ hW 1 rfl);have hbW:=Ag _ hW;have hsW:=BD _ hW;simp only[List.length_cons,List.length_nil] at hsW;clear hW;obtain⟨HCA,HG,HL,HM⟩:=D8 hbW HCA HG HL HM;clear hbW;generalize hy0:w.heap.size+1=gy at HY ⊢;generalize hx0:w.heap.size=gX at HX ⊢;have hWs:w.heap.size+2≤W.heap.size:=by omega
 clear hsW;have hwd0:w.heap.size+2≤W.drew.heap.size:=hWs;obtain⟨HCA,HG,HL,HM,HX,HY⟩:=Eh (AP _ W) HCA HG HL HM HX HY;refine EC [20] 23 (λhSn=>?_);generalize W.drew=wd at HCA HG HL HM HX HY hwd0 hSn ⊢;simp only[List.replicate];refine BA 0 [1,2,3,4,5,6,7,8,9,10,11,12,13,14,15,16,17,18,19,20,21,22] (λw hSw=>Cj (HY.bel hSw) 0 1 2 3 4 5 6 7) ?_;refine BC 1 rfl (λK hK=>?_);go_simp;refine AY (KD.o _) ?_;rintro wc hb;have hSn:=AB hSn hb;clear hb;refine BJ hK ?_;clear hK;refine Gn 2 ?_;refine FD 6 ?_;refine BA 8 [20,21,22] (λw hSw=>BQ (HL.bel hSw) 0 1) ?_;refine Dl 9 ?_;refine BA 12 [19,20,21,22] (λw hSw=>BQ (HL.bel hSw) 3 4) ?_;refine Dl 13 ?_;refine BA 16 [19,20,21,22] (λw hSw=>BQ (HL.bel hSw) 3 4) ?_;refine BA 17 [19,20,21,22] (λw hSw=>ED (HX.bel hSw) 0 1 2 3 4 5 6) ?_;refine BA 18 [19,20,21,22] (λw hSw=>Cj (HY.bel hSw) 0 1 2 3 4 5 6 7) ?_;refine CS 19 ?_;refine BC 20 rfl (λK hK=>?_);go_simp;refine AY (KS.o _ (HCA.bel hSn)) ?_;rintro w5 ⟨gr,cr,m,rv,rest5,hca,hr5,ho5,hm5,hgr,hmv⟩;have HCA5:=qh hca;have HR5:=qh hr5;have HO5:=qh ho5;have HMV:=qh hmv;have hs5:=hSn.size;have hs6:=hmv.size;have HL5:=qh ((HL.bel hSn).mv hmv (λhk=>by rcases hk with hk|hk|hk;exact hld.1 hk;exact hld.2.1 hk;exact hld.2.2.1 hk));have HG5:=qh ((HG.bel hSn).mv hmv (λhk=>by rcases hk with hk|hk|hk;exact hgd.1 hk;exact hgd.2.2.1 hk;exact hgd.2.2.2.2 hk));have HX5:=qh ((HX.bel hSn).mv hmv (λhk=>by rcases hk with hk|hk|hk<;>omega));have HY5:=qh ((HY.bel hSn).mv hmv (λhk=>by rcases hk with hk|hk|hk<;>omega));have HM5:=qh ((HM.bel hSn).mv hmv (λk hk=>.inl (by rcases hk with hk|hk|hk;exact .inl hk;exact .inr (.inl hk);exact .inr (.inr (.inl hk)))));clear hca hr5 ho5 hmv;refine BJ hK ?_;clear hK;refine FD 21 ?_ (hS:=GK);refine DX ?_;clear hSn HCA HG HL HM HX HY KS KD;have hlt5:=HCA5.lt;have hne5:=HCA5.ne;have hgr5:gr<w5.heap.size:=HR5.lt;have hgrw:w.heap.size≤gr:=by omega
 have hl5:=HL5.lt;have hg5:=HG5.lt;have hx5:=HX5.lt;have hy5:=HY5.lt;have HO5:=qh (show Aw w5 w.heap.size rv m from Aw.mono (B':=w.heap.size) HO5.o (by omega));go_upto_region 3 with(fail);have KL:=qh (λW (h:Holds W gc 163 (Au n me gl gi (.slice (some ⟨gb,0,none⟩) 1 cb) (.slice (some ⟨gr,0,none⟩) 1 cr) (.slice none 0 0))) (hb:Holds W gb 158 (.pointer (some ⟨gld,0,none⟩) :: rest0)) (hl:Holds W gld 167 (CQ q 2 be br false Cm.zero a R S cnt tk))=>U3 gc n me gl gi gb gld cb rest0 (.slice (some ⟨gr,0,none⟩) 1 cr) (.slice none 0 0) q 2 be br false Cm.zero a R S cnt tk W h hb hl hc1 hcm (Ne.symm hgd.1));have KB:=qh (λgn W hln hgn KL KA=>Ul (λk=>k=gc∨k=gb) (some gb) gc n me gl gi gn 3 (PL q be br c) (.slice (some ⟨gr,0,none⟩) 1 cr) q 1 be br false c (.slice none 0 0) (.slice none 0 0) 0 0 W hln hgn (.inl rfl) (λg hg=>by cases hg;exact .inr rfl) hn hme KL KA);have HO5:=qh (show Aw w5.drew w.heap.size rv m from HO5.below (AP _ w5));have hwd1:w5.heap.size≤w5.drew.heap.size:=Nat.le_refl _;obtain⟨HCA5,HG5,HL5,HM5,HX5,HY5⟩:=Eh (AP _ w5) HCA5 HG5 HL5 HM5 HX5 HY5;have HR5:=Ci (AP _ w5) HR5;refine EC [13] 14 (λhSn=>?_);generalize w5.drew=wd at HCA5 HG5 HL5 HM5 HX5 HY5 HR5 hwd1 HO5 hSn ⊢;simp only[List.replicate];refine Gn 0 ?_;refine BA 4 [11,12,13] (λw hSw=>BQ (HL5.bel hSw) 0 1) ?_;refine Dl 5 ?_;refine BA 8 [11,12,13] (λw hSw=>BQ (HL5.bel hSw) 3 4) ?_;refine BA 9 [11,12,13] (λw hSw=>ED (HX5.bel hSw) 0 1 2 3 4 5 6) ?_;refine BA 10 [11,12,13] (λw hSw=>Cj (HY5.bel hSw) 0 1 2 3 4 5 6 7) ?_;refine CS 11 ?_;refine BC 12 rfl (λK hK=>?_);go_simp;have hal:=λo=>Below.alloc hSn hSn.size o;refine hK.out _ _ (λ_=>hal _) ?_;have hSn:=hal (.cells (CQ q 1 be br false c (λ_=>0) (.slice none 0 0) (.slice none 0 0) 0 0).toArray 167);have HN:=qh (AA wd 167 (CQ q 1 be br false c (λ_=>0) (.slice none 0 0) (.slice none 0 0) 0 0));clear hal;change wpAnyL _ _ _ _ _ _ _ _ _ (wd.alloc (.cells (CQ q 1 be br false c (λ_=>0) (.slice none 0 0) (.slice none 0 0) 0 0).toArray 167));have hnl0:=HN.lt;generalize wd.alloc (.cells (CQ q 1 be br false c (λ_=>0) (.slice none 0 0) (.slice none 0 0) 0 0).toArray 167)=wa at hSn HN hnl0 ⊢;generalize hgn:wd.heap.size=gn at HN hnl0 hwd1 ⊢;clear hK;try simp only[Act.put,zA,zB,zC]
 refine BC 13 rfl (λK hK=>?_);go_simp;have hga:gn≠gc∧gn≠gb:=by omega
 refine(KB.o gn _ HN.o (by rintro(h|h);exact hga.1 h;exact hga.2 h) ((KL.o _ (HCA5.bel hSn).hc (HG5.bel hSn) (HL5.bel hSn)).mono ?_) (λW h=>ZL gn q be br c (λ_=>0) (.slice none 0 0) (.slice none 0 0) 0 0 W h)).mono ?_
 ·rintro e w6 ⟨rfl,hc6,hg6,hm6⟩;refine⟨rfl,_,cb,hc6,?_,hm6⟩;exact AU.mk' (xs:=[]) (rest:=.pointer none :: rest0) hg6 rfl (by simpa using hlen) (Nat.zero_le _) hcm
 rintro e w6 ⟨rfl,gb6,cb6,out,ob,hc6,ho6,hgb6,hol6,hob6,hm6⟩;have HX6:=qh (And.intro hc6 (And.intro ho6 (And.intro hgb6 (And.intro hol6 (And.intro hob6 hm6)))));have HO6:=qh ((HO5.below hSn).iw hm6 (by rintro k (rfl|rfl)<;>omega));have HN6:=qh (HN.mv hm6 (by rintro(h|h);exact hga.1 h;exact hga.2 h));have HR6:=qh ((HR5.bel hSn).mv hm6 (by rintro(h|h)<;>omega));have HM6:=qh ((HM5.bel hSn).mv hm6 (by rintro k (h|h);exact .inl (.inl h);exact .inl (.inr (.inr (.inr h)))));have HCA6:=qh ((HCA5.bel hSn).IL hm6 hc6 (by rintro(h|h)<;>omega) (by rintro(h|h)<;>omega) (by rintro(h|h)<;>omega) (by rintro(h|h)<;>omega));refine BJ hK ?_;clear hK;refine DX ?_;clear hSn;obtain⟨hc6,ho6,hgb6,hol6,hob6,hm6⟩:=HX6.o;have HDN:=qh (show Ib gc n me gl gm nl gi gx ni gb q be br c E w w6 from⟨gb6,cb6,gn,gr,cr,m,rv,rest5,out,ob,(U4 q 1 _ _)▸HCA6.o,ho6,hgb6.elim (λh=>.inl (by cases h;rfl)) (λh=>.inr (by omega)),HN6.o,by omega,HR6.o,HO6.o,hm5,hgrw,hol6,λg hg=>by have:=hob6 g hg;omega,HM6.o⟩);clear hc6 ho6 hgb6 hol6 hob6 hm6 HX6 HCA6 HN6 HR6 HO6 HM6 HCA5 HG5 HL5 HM5 HX5 HY5 HR5 HO5 HN KB KL HMV;go_wp2_with fail;exact bE ⟨rfl,HDN.o⟩
section
def Ed(be br:Int)(c:Cm)(r:Int):Sd:=⟨r,1,be,br,0,0,c,At.of 0,true⟩
section
variable {be br:Int} {c:Cm} {S:Nat→Sd} {len:Nat} {o:Int}
theorem SH(h:∀i,i<len→∃r,S i=Ed be br c r):∀k,k≤len→G7 S k=none
 | 0,_=>rfl
 | k+1,hk=>by
  obtain⟨r,hr⟩:=h k (by omega);rw[G7,SH h k (by omega),hr]
  rfl
theorem Ot(h:∀i,i<len→∃r,S i=Ed be br c r):∀k,k≤len→CX S 2 k=-1
 | 0,_=>rfl
 | k+1,hk=>by obtain⟨r,hr⟩:=h k (by omega);rw[CX,Ot h k (by omega)];simp[GN,hr,Ed]
theorem Oq(h:∀i,i<len→∃r,S i=Ed be br c r):∀k,k<len→0≤CX S 1 (k+1)
 | k,hk=>by
  obtain⟨r,hr⟩:=h k hk;rw[CX];split
  ·omega
  ·rename_i ht;cases k with
   | zero=>simp[GN,hr,Ed,CX] at ht
   | succ k=>exact Oq h k (by omega)
theorem Ou(h:∀i,i<len→∃r,S i=Ed be br c r∧r≠o):∀k,k≤len→GR S o k=false
 | 0,_=>rfl
 | k+1,hk=>by obtain⟨r,hr,hn⟩:=h k (by omega);rw[GR,Ou h k (by omega),hr];simp[Ed,hn]
theorem SI(h:∀i,i<len→∃r,S i=Ed be br c r∧r≠o)(k:Nat)(hk:k<len):counts S o k=true:=by obtain⟨r,hr,hn⟩:=h k hk;simp[counts,hr,Ed,hn]
theorem QB(h:∀i,i<len→∃r,S i=Ed be br c r∧r≠o):∀k,k≤len→FT S o k=k
 | 0,_=>rfl
 | k+1,hk=>by rw[FT,QB h k (by omega),if_pos (SI h k (by omega))]
theorem P8(K:Nat)(h:∀i,i<len→∃r,S i=Ed be br c r∧r≠o):FH K o S len=if len<K / 2+1 then (0,Cm.zero,At.of 0) else (2,c,At.of 0):=by
 have h':∀i,i<len→∃r,S i=Ed be br c r:=λi hi=>by obtain⟨r,hr,_⟩:=h i hi;exact⟨r,hr⟩
 unfold FH;by_cases hl:len<K / 2+1
 ·rw[if_pos hl,if_pos hl]
 ·rw[if_neg hl,if_neg hl,SH h' len (Nat.le_refl _)];obtain⟨m,rfl⟩:∃m,len=m+1:=⟨len-1,by omega⟩;have hb1:=Oq h' m (by omega);have hf:=J5 S o (m+1);have hs:=QB h (m+1) (Nat.le_refl _);have h0:=hf.2.2 (by rw[hs];omega);obtain⟨r,hr,_⟩:=h (firstTo S o (m+1)).toNat (by omega);simp only[Ot h' (m+1) (Nat.le_refl _)];rw[if_neg (by decide),if_neg (by omega),if_pos ⟨Ou h _ (Nat.le_refl _),by rw[hs];omega⟩,hr]
  rfl
end
end
theorem XZ(x:Cm):x.cells.toArray.all (·.oneCell')=true:=by simp[Cm.cells,Value.oneCell']
theorem Gs{w w':World}{p:Option Addr}{n s:Nat}{V:Nat→List Value}(h:CB w p n s V)(hb:Below w.heap.size w w'):CB w' p n s V:=by obtain⟨h1,h2,h3⟩:=h;refine⟨h1,h2,λh0=>?_⟩;obtain⟨g,o,hp,hl,hc⟩:=h3 h0;refine⟨g,o,hp,Nat.lt_of_lt_of_le hl hb.size,λi hi j hj=>?_⟩;exact(hb.cell hl).trans (hc i hi j hj)
theorem PM[Af](gc n me gl gi gb gld cb q len cap:Nat)(be br:Int)(c:Cm)(a:Nat→Int)(R leads recs out:Value)(p:Option Addr)(Sf:Nat→Sd)(cnt tk:Int)(w:World) (h:Holds w gc 163 (Au n me gl gi leads recs out)) (hl:Holds w gld 167 (CQ q 2 be br false Cm.zero a R (.slice p len cap) cnt tk)) (hS:CB w p len 22 λi=>(Sf i).cells) (hcap:len≤cap) (hn3:3≤n) (hn:n≤7) (hs:∀i,i<len→∃r,Sf i=Ed be br c r∧r≠q) (hlt:len<n / 2+1) :Calls prog 214 #[.pointer (some ⟨gc,0,none⟩),.pointer (some ⟨gld,0,none⟩)] w λe w'=>e=.returned (.tuple #[])∧Below w.heap.size w w':=by
 have KQ:=qh (show ∀W,(CB W p len 22 λi=>(Sf i).cells)→Calls prog 259 #[.int .i64 n,.int .i64 q,.slice p len cap] W λe W'=>e=.returned (.tuple #[.int .i64 0,.agg Cm.zero.cells.toArray,.agg (At.of 0).cells.toArray])∧Below W.heap.size W W' from λW h=>by
  have:=LY n q p len cap Sf W h hcap hn3 hn;rw[P8 n hs,if_pos hlt] at this;exact this)
 have HC:=qh h;have HL:=qh hl;have HS:=qh hS;have HB:=qh (Base.start w);clear h hl hS hs hlt;go_in;go_upto_region 0 with(fail);refine' FM [⟨18,21,5,23,23,Cm.zero.cells,Cm.zero.cells⟩,⟨19,22,6,24,43,Iy,(At.of 0).cells⟩] (by kernel_rfl) (by kernel_rfl) (by kernel_rfl) ?z11 ?z21 ?bd1 _ ?h1 ?val1 ?fin1;case z11=>
  intro x hx;simp only[List.mem_cons,List.not_mem_nil,or_false] at hx;rcases hx with rfl|rfl
  ·exact⟨.agg (Cm.zero.cells:List Value).toArray,by kernel_rfl,rfl⟩
  ·exact⟨.agg (Iy:List Value).toArray,by kernel_rfl,rfl⟩
 case z21=>
  intro x hx;simp only[List.mem_cons,List.not_mem_nil,or_false] at hx;rcases hx with rfl|rfl
  ·exact⟨by kernel_rfl,rfl,XZ _⟩
  ·exact⟨by kernel_rfl,rfl,by simp[At.cells,Value.oneCell']⟩
 case bd1=>
  intro x hx;simp only[List.mem_cons,List.not_mem_nil,or_false] at hx;rcases hx with rfl|rfl
  ·simp
  ·simp
 case h1=>
  intro W0 hW0;obtain⟨HC,HL,HB⟩:=Ce hW0 HC HL HB;have c0_0:=Iz HC.o 0;obtain⟨c1_0,c1_29⟩:=Ji HL.o 0 29;simp only[List.map_cons,List.map_nil,A8];repeat go_big_quiet_step (first|(go_at_call 259;with_reducible exact AL λW2 h2=>KQ.o W2 (Gs (Gs HS.o hW0) h2)))
  refine wpQuiet_nil ?_;intro w' _;exact rfl
 case val1=>
  intro x hx;simp only[List.mem_cons,List.not_mem_nil,or_false] at hx;rcases hx with rfl|rfl
  ·rfl
  ·rfl
 intro β w4 hb hx hne;have hx5:=hx _ List.mem_cons_self;have hx6:=hx _ (List.mem_cons_of_mem _ List.mem_cons_self);clear hx hne;simp only[] at hx5 hx6;simp only[Dc,List.foldl,Act.put,List.setIfInBounds_toArray,List.set_cons_zero,List.set_cons_succ];obtain⟨HC,HL,HB⟩:=Ce hb HC HL HB;generalize β 5=g5 at hx5 ⊢;have H5:=qh hx5.2;have hge5:=hx5.1;clear hx5;generalize β 6=g6 at hx6 ⊢;have H6:=qh hx6.2;have hge6:=hx6.1;clear hx6;clear hb;go_wp2_with fail;exact bE ⟨rfl,HB.below⟩
theorem Ib.base[Af]{gc n me gl gm nl gi gx ni gb q:Nat}{be br:Int}{c:Cm}{E:List Bh}{w0 w w':World}(h:Ib gc n me gl gm nl gi gx ni gb q be br c E w w')(hb:Below w0.heap.size w0 w):Ib gc n me gl gm nl gi gx ni gb q be br c E w0 w':=by obtain⟨gb',cb',gld,gr,cr,m,rv,rest,out,ob,a1,a2,a3,a4,a5,a6,a7,a8,a9,b1,b2,b3⟩:=h;have hs:=hb.size;exact⟨gb',cb',gld,gr,cr,m,rv,rest,out,ob,a1,a2,a3.imp id (λh=>by omega),a4,by omega,a6,Aw.mono (B':=w0.heap.size) a7 hs,a8,by omega,b1,λg hg=>by have:=b2 g hg;omega,(Mv.of_below hb).mv b3 λk hk=>.inl hk⟩
theorem Qe[Af](gc n me gl gm nl gi gx ni gb gld cb q len cap:Nat)(be br:Int)(c:Cm)(E:List Bh)(a:Nat→Int)(R:Value)(p:Option Addr)(Sf:Nat→Sd)(cnt tk:Int)(w:World) (h:Ac w gc n me gl gm nl gi gx ni [⟨q,1,AO ⟨be,br,0,0⟩ 1 c true⟩] E (.slice (some ⟨gb,0,none⟩) 1 cb) (.slice none 0 0) (.slice none 0 0)) (ho:AU w (.slice (some ⟨gb,0,none⟩) 1 cb) (some gb) 158 1 1 [.pointer (some ⟨gld,0,none⟩)]) (hl:Holds w gld 167 (CQ q 2 be br false Cm.zero a R (.slice p len cap) cnt tk)) (hS:CB w p len 22 λi=>(Sf i).cells) (hcap:len≤cap) (hn3:3≤n) (hs:∀i,i<len→∃r,Sf i=Ed be br c r∧r≠q) (hlt:¬len<n / 2+1) (hnl:nl≤1000) (hni:ni≤1000) (hq:q<7) (hn:n≤7) (hme:me<n) (hc:CU c) (hbe:0≤be∧be≤1073741824) (hbr:0≤br∧br<7) :Calls prog 214 #[.pointer (some ⟨gc,0,none⟩),.pointer (some ⟨gld,0,none⟩)] w λe w'=>e=.returned (.tuple #[])∧Ib gc n me gl gm nl gi gx ni gb q be br c E w w':=by
 have KQ:=qh (show ∀W,(CB W p len 22 λi=>(Sf i).cells)→Calls prog 259 #[.int .i64 n,.int .i64 q,.slice p len cap] W λe W'=>e=.returned (.tuple #[.int .i64 2,.agg c.cells.toArray,.agg (At.of 0).cells.toArray])∧Below W.heap.size W W' from λW h=>by
  have:=LY n q p len cap Sf W h hcap hn3 hn;rw[P8 n hs,if_neg hlt] at this;exact this)
 have KA:=qh (λW h ho hl=>XG gc n me gl gm nl gi gx ni gb gld cb q be br c E a R (.slice p len cap) cnt tk W h ho hl hnl hni hq hn hme hc hbe hbr);have HCA:=qh h;have HC:=qh h.hc;have HO:=qh ho;have HL:=qh hl;have HS:=qh hS;have HB:=qh (Base.start w);clear h hl hS hs hlt ho hc;go_in;go_upto_region 0 with(fail);refine' FM [⟨18,21,5,23,23,Cm.zero.cells,c.cells⟩,⟨19,22,6,24,43,Iy,(At.of 0).cells⟩] (by kernel_rfl) (by kernel_rfl) (by kernel_rfl) ?z12 ?z22 ?bd2 _ ?h2 ?val2 ?fin2;case z12=>
  intro x hx;simp only[List.mem_cons,List.not_mem_nil,or_false] at hx;rcases hx with rfl|rfl
  ·exact⟨.agg (Cm.zero.cells:List Value).toArray,by kernel_rfl,rfl⟩
  ·exact⟨.agg (Iy:List Value).toArray,by kernel_rfl,rfl⟩
 case z22=>
  intro x hx;simp only[List.mem_cons,List.not_mem_nil,or_false] at hx;rcases hx with rfl|rfl
  ·exact⟨by kernel_rfl,rfl,XZ _⟩
  ·exact⟨by kernel_rfl,rfl,by simp[At.cells,Value.oneCell']⟩
 case bd2=>
  intro x hx;simp only[List.mem_cons,List.not_mem_nil,or_false] at hx;rcases hx with rfl|rfl
  ·simp
  ·simp
 case h2=>
  intro W0 hW0;obtain⟨HCA,HC,HO,HL,HB⟩:=FB hW0 HCA HC HO HL HB;have c0_0:=Iz HC.o 0;obtain⟨c1_0,c1_29⟩:=Ji HL.o 0 29;simp only[List.map_cons,List.map_nil,A8];repeat go_big_quiet_step (first|(go_at_call 259;with_reducible exact AL λW2 h2=>KQ.o W2 (Gs (Gs HS.o hW0) h2)))
  refine wpQuiet_nil ?_;intro w' _;exact rfl
 case val2=>
  intro x hx;simp only[List.mem_cons,List.not_mem_nil,or_false] at hx;rcases hx with rfl|rfl
  ·rfl
  ·rfl
 intro β w4 hb hx hne;have hx5:=hx _ List.mem_cons_self;have hx6:=hx _ (List.mem_cons_of_mem _ List.mem_cons_self);clear hx hne;simp only[] at hx5 hx6;simp only[Dc,List.foldl,Act.put,List.setIfInBounds_toArray,List.set_cons_zero,List.set_cons_succ];obtain⟨HCA,HC,HO,HL,HB⟩:=FB hb HCA HC HO HL HB;generalize β 5=g5 at hx5 ⊢;have H5:=qh hx5.2;have hge5:=hx5.1;clear hx5;generalize β 6=g6 at hx6 ⊢;have H6:=qh hx6.2;have hge6:=hx6.1;clear hx6;clear hb;clear HC HS KQ;obtain⟨x0,x1,x2,x3,x4,x5,x6⟩:=ED H5.o 0 1 2 3 4 5 6;obtain⟨y0,y1,y2,y3,y4,y5,y6,y7⟩:=Cj H6.o 0 1 2 3 4 5 6 7;go_wp2_with fail;refine AY (KA.o _ HCA.o HO.o HL.o) ?_;rintro w5 hd;have HD:=qh (hd.base HB.below);clear hd HCA HO HL HB x0 x1 x2 x3 x4 x5 x6 y0 y1 y2 y3 y4 y5 y6 y7 H5 H6;go_wp2_with fail;exact bE ⟨rfl,HD.o⟩
end Go.Proofs.YtimdpiifpibgfaaGreatDoor
