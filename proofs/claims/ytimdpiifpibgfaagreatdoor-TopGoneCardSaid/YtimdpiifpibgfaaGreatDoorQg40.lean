/- A part of the proof that the law TopGone returns true for every input. -/
import Derived.Test.YtimdpiifpibgfaaGreatDoorQg39
set_option linter.all false
set_option maxRecDepth 20000
set_option maxHeartbeats 16000000
open Go.RowKit Go.Maps
namespace Go.Proofs.YtimdpiifpibgfaaGreatDoor
open Tryz
def Dh(k nn:Int):List Value:=[.int .i64 k,.int .i64 nn,.int .i64 0,.int .i64 0,.int .i64 0,.int .i64 0,.int .i64 0,.string ⟨#[]⟩,.string ⟨#[]⟩,.string ⟨#[]⟩,.string ⟨#[]⟩,.slice none 0 0]
def Off(gC n:Nat)(dv nv clv cav hv:Value)(gl m cap:Nat)(L:List Value)(w W:World):Prop:=Holds W gC 85 (DW n dv nv clv cav (.slice (some ⟨gl,0,none⟩) m cap) hv)∧AU W (.slice (some ⟨gl,0,none⟩) m cap) (some gl) 47 51 m L∧Mv (λk=>k=gC∨k=gl) w W
theorem Off.bel{gC n:Nat}{dv nv clv cav hv:Value}{gl m cap:Nat}{L:List Value}{w W W':World}(h:Off gC n dv nv clv cav hv gl m cap L w W)(hb:Below W.heap.size W W'):Off gC n dv nv clv cav hv gl m cap L w W':=⟨h.1.bel hb,h.2.1.bel hb,h.2.2.bel hb⟩
instance {gC n:Nat}{dv nv clv cav hv:Value}{gl m cap:Nat}{L:List Value}{w W W':World}:Bl W W' (Off gC n dv nv clv cav hv gl m cap L w W) (Off gC n dv nv clv cav hv gl m cap L w W'):=⟨λhb h=>Off.bel h hb⟩
theorem VV(gC gN n cN gl m cap:Nat)(gs:Nat→Option Nat)(rN:List Value)(kk f t:Nat)(pl:Lp)(dv clv cav hv:Value)(L:List Value)(w:World) (h:Holds w gC 85 (DW n dv (.slice (some ⟨gN,0,none⟩) n cN) clv cav (.slice (some ⟨gl,0,none⟩) (m+1:Nat) cap) hv)) (hN:Holds w gN 59 (Ij n gs++rN)) (ht:t<n) (hgt:gs t=none) (hl:AU w (.slice (some ⟨gl,0,none⟩) (m+1:Nat) cap) (some gl) 47 51 (m+1) (DZ kk f t pl++L)) (h1:∀u∈L,u.oneCell'=true) (hm:m≤2000) :Calls prog 27 #[.pointer (some ⟨gC,0,none⟩),.agg (Dh 2 0).toArray] w λe w'=>e=.returned (.bool true)∧Off gC n dv (.slice (some ⟨gN,0,none⟩) n cN) clv cav hv gl m cap L w w':=by
 have hgq:gl≠gC∧gN≠gC∧gN≠gl:=by obtain⟨g1,_,_,_,h0,_,_,hh,_⟩:=hl.blk (Nat.succ_pos m);cases h0;exact⟨hh.ne_of h (by decide),hN.ne_of h (by decide),hN.ne_of hh (by decide)⟩
 obtain⟨gl',cap',rl,hv',hob',hcl1,hcl2,hLH,_⟩:=hl.blk (Nat.succ_pos m);cases hob';injection hv' with _ _ hcq;subst hcq;have HLH:=qh hLH;have KD:=qh (λW (h:AU W (.slice (some ⟨gl,0,none⟩) (m+1:Nat) cap) (some gl) 47 51 (m+1) (DZ kk f t pl++L))=>Pi gl cap m _ L W h rfl h1 (by omega));have KN:=qh (λW lv' h hN=>(show Calls prog 17 #[.pointer (some ⟨gC,0,none⟩),.int .i64 t] W λe w'=>e=.returned (.pointer none)∧Below W.heap.size W w' from by have h9:=QN gC n gN cN t gs rN dv clv cav lv' hv W h hN ht;rw[hgt] at h9;exact h9));have HC:=qh h;have HN:=qh hN;have HL:=qh hl;have HM:=qh (Mv.refl (λk=>k=gC∨k=gl) w);have hlen0:(0:Int)<((m+1:Nat):Int):=by omega
 have hm1:((m+1:Nat):Int)=(m:Int)+1:=by omega
 clear h hN hl hLH h1;go_in;go_upto_region 1 with(fail);go_name_world W hW;obtain⟨HS,hbW,hsW⟩:=Ef 32 (Dh 2 0) hW;clear hW;obtain⟨HC,HN,HL,HM,HLH⟩:=FB hbW HC HN HL HM HLH;clear hbW;have hgS:w.heap.size≠gC∧w.heap.size≠gl:=⟨HS.ne_of HC.o (by decide),by have:=HL.lt gl rfl;have h9:=HS.ne_of HLH.o (by decide);exact h9⟩;generalize w.heap.size=gS at HS hgS ⊢;clear hsW;have s1:=AZ HS.o 1;have c5:=AZ HC.o 5;go_quiet (fail);have hb1:Below W.heap.size W (W.drewN nq):=BV _ _ _;obtain⟨HC,HN,HL,HM,HLH,HS⟩:=Eh hb1 HC HN HL HM HLH HS;clear hb1 s1 c5;generalize W.drewN nq=w1 at HC HN HL HM HLH HS ⊢;have hsw1:=HM.size;have hgl1:gl<w1.heap.size∧gC<w1.heap.size:=⟨HL.lt gl rfl,HC.lt⟩;go_upto_region 3 with(fail);have HR1:=qh (Ar (cs:=DZ kk f t pl) HLH.o 0 (by intro j v hv;rw[Nat.zero_add,List.append_assoc,List.getElem?_append_left (List.getElem?_eq_some_iff.1 hv).1];exact hv));refine' bx1 ⟨8,9,5,27,47,CJ,DZ kk f t pl⟩ _ (Ja _ _ _ _) ?h1 ?val1 ?fin1;case h1=>
  intro W0 hW0;obtain⟨HC,HN,HL,HM,HLH,HS⟩:=Eh hW0 HC HN HL HM HLH HS;have c0_5:=Iz HC.o 5;have c1_1:=Iz HS.o 1;have HR2:=qh (Ar (cs:=DZ kk f t pl) HLH.o 0 (by intro j v hv;rw[Nat.zero_add,List.append_assoc,List.getElem?_append_left (List.getElem?_eq_some_iff.1 hv).1];exact hv));simp only[List.map_cons,List.map_nil,A8];repeat(first
  | (with_reducible refine qR 0 HR2.o ?_;simp only[Act.put,List.setIfInBounds_toArray,List.set_cons_succ,List.set_cons_zero])
  | go_big_quiet_step (first
   | fail))
  refine wpQuiet_nil ?_;intro w' _;exact rfl
 case val1=>rfl
 intro β w4 hb hx5;simp only[] at hx5;simp only[Dc,List.foldl,Act.put,List.setIfInBounds_toArray,List.set_cons_zero,List.set_cons_succ];obtain⟨HC,HN,HL,HM,HLH,HS⟩:=Eh hb HC HN HL HM HLH HS;generalize β 5=g5 at hx5 ⊢;have H5:=qh hx5.2;have hge5:=hx5.1;clear hx5;clear hb;have hg5:g5≠gC∧g5≠gl:=by omega
 have hw5:w.heap.size≤g5:=by omega
 clear HR1 HLH;have s0:=AZ HS.o 0;go_upto_region 5 with(fail);clear s0;obtain⟨HC,HN,HL,HM,HS,H5⟩:=Eh (AP _ w4) HC HN HL HM HS H5;refine EC [10,13] 14 (λhSn=>?_);generalize w4.drew=wd at HC HN HL HM HS H5 hSn ⊢;simp only[List.replicate];refine Gn 0 ?_;refine BA 4 [10,11,12,13] (λw hSw=>AZ (HC.bel hSw) 5) ?_;refine CS 5 ?_;refine BA 6 [10,11,12,13] (λw hSw=>AZ (HS.bel hSw) 1) ?_;refine CS 7 ?_;refine BA 8 [9,10,11,12,13] (λw hSw=>AZ (HS.bel hSw) 1) ?_;refine CS 9 ?_;refine BC 10 rfl (λK hK=>?_);go_simp;refine AY (KD.o _ (HL.bel hSn)) ?_;rintro w5 ⟨hl5,ht5⟩;have hm5:Mv (λk=>k=gl) _ w5:=Mv.Aa ht5 rfl;have HC:=qh ((HC.bel hSn).mv hm5 (Ne.symm hgq.1));have HN:=qh ((HN.bel hSn).mv hm5 hgq.2.2);have HS:=qh ((HS.bel hSn).mv hm5 hgS.2);have H5:=qh ((H5.bel hSn).mv hm5 hg5.2);have HM:=qh ((HM.bel hSn).mv hm5 (λk hk=>.inl (.inr hk)));have HL:=qh hl5;clear hl5 ht5 hm5;refine BJ hK ?_;clear hK;refine FD 11 ?_ (hS:=GK);refine BC 13 rfl (λK hK=>?_);refine tC 5 HC.o (.slice (some ⟨gl,0,none⟩) m cap) ?_;intro w6 hh6 ht6;have hm6:Mv (λk=>k=gC) w5 w6:=Mv.Aa ht6 rfl;have HC:=qh (show Holds w6 gC 85 (DW n dv (.slice (some ⟨gN,0,none⟩) n cN) clv cav (.slice (some ⟨gl,0,none⟩) m cap) hv) from hh6);have HN:=qh (HN.mv hm6 hgq.2.1);have HS:=qh (HS.mv hm6 hgS.1);have H5:=qh (H5.mv hm6 hg5.1);have HL:=qh (HL.mv hm6 (λk hk=>by cases hk;exact hgq.1));have HM:=qh (HM.mv hm6 (λk hk=>.inl (.inl hk)));clear hh6 ht6 hm6;refine BJ hK ?_;clear hK;refine DX ?_;clear hSn;have y2:=AZ H5.o 2;go_wp2_with fail;refine AY (KN.o _ _ HC.o HN.o) ?_;rintro w7 hb7;have HOF:=qh (show Off gC n dv (.slice (some ⟨gN,0,none⟩) n cN) clv cav hv gl m cap L w w6 from⟨HC.o,HL.o,HM.o⟩);obtain⟨HOF,HS,H5⟩:=Ce hb7 HOF HS H5;clear hb7 y2 HC HN HL HM;have s0:=AZ HS.o 0;go_wp2_with fail;go_ret;exact⟨rfl,HOF.o⟩
theorem VW(gC gN n cN gl m cap:Nat)(gs:Nat→Option Nat)(rN:List Value)(kk f t:Nat)(pl:Lp)(dv clv cav hv:Value)(L:List Value)(gt:Nat)(R6 R7:World→Prop)(w:World) (h:Holds w gC 85 (DW n dv (.slice (some ⟨gN,0,none⟩) n cN) clv cav (.slice (some ⟨gl,0,none⟩) (m+1:Nat) cap) hv)) (hN:Holds w gN 59 (Ij n gs++rN)) (ht:t<n) (hgt:gs t=some gt) (hl:AU w (.slice (some ⟨gl,0,none⟩) (m+1:Nat) cap) (some gl) 47 51 (m+1) (DZ kk f t pl++L)) (h1:∀u∈L,u.oneCell'=true) (hm:m≤2000) (KT:∀W,Off gC n dv (.slice (some ⟨gN,0,none⟩) n cN) clv cav hv gl m cap L w W→Calls prog 50 #[.pointer (some ⟨gt,0,none⟩),.agg (DZ kk f t pl).toArray] W λe W'=>(∃b,e=.returned (.bool b))∧R6 W'∧∀g L,w.heap.size≤g→Holds W g 47 L→Holds W' g 47 L) (KO:∀W,R6 W→Calls prog 31 #[.pointer (some ⟨gC,0,none⟩),.int .i64 t] W λe W'=>e=.returned (.tuple #[])∧R7 W') :Calls prog 27 #[.pointer (some ⟨gC,0,none⟩),.agg (Dh 2 0).toArray] w λe w'=>e=.returned (.bool true)∧R7 w':=by
 have hgq:gl≠gC∧gN≠gC∧gN≠gl:=by obtain⟨g1,_,_,_,h0,_,_,hh,_⟩:=hl.blk (Nat.succ_pos m);cases h0;exact⟨hh.ne_of h (by decide),hN.ne_of h (by decide),hN.ne_of hh (by decide)⟩
 obtain⟨gl',cap',rl,hv',hob',hcl1,hcl2,hLH,_⟩:=hl.blk (Nat.succ_pos m);cases hob';injection hv' with _ _ hcq;subst hcq;have HLH:=qh hLH;have KD:=qh (λW (h:AU W (.slice (some ⟨gl,0,none⟩) (m+1:Nat) cap) (some gl) 47 51 (m+1) (DZ kk f t pl++L))=>Pi gl cap m _ L W h rfl h1 (by omega));have KN:=qh (λW lv' h hN=>PZ gC n gN cN t gt gs rN dv clv cav lv' hv W h hN ht hgt);have KT:=qh KT;have KO:=qh KO;have HC:=qh h;have HN:=qh hN;have HL:=qh hl;have HM:=qh (Mv.refl (λk=>k=gC∨k=gl) w);have hlen0:(0:Int)<((m+1:Nat):Int):=by omega
 have hm1:((m+1:Nat):Int)=(m:Int)+1:=by omega
 clear h hN hl hLH h1;go_in;go_upto_region 1 with(fail);go_name_world W hW;obtain⟨HS,hbW,hsW⟩:=Ef 32 (Dh 2 0) hW;clear hW;obtain⟨HC,HN,HL,HM,HLH⟩:=FB hbW HC HN HL HM HLH;clear hbW;have hgS:w.heap.size≠gC∧w.heap.size≠gl:=⟨HS.ne_of HC.o (by decide),by have:=HL.lt gl rfl;have h9:=HS.ne_of HLH.o (by decide);exact h9⟩;generalize w.heap.size=gS at HS hgS ⊢;clear hsW;have s1:=AZ HS.o 1;have c5:=AZ HC.o 5;go_quiet (fail);have hb1:Below W.heap.size W (W.drewN nq):=BV _ _ _;obtain⟨HC,HN,HL,HM,HLH,HS⟩:=Eh hb1 HC HN HL HM HLH HS;clear hb1 s1 c5;generalize W.drewN nq=w1 at HC HN HL HM HLH HS ⊢;have hsw1:=HM.size;have hgl1:gl<w1.heap.size∧gC<w1.heap.size:=⟨HL.lt gl rfl,HC.lt⟩;go_upto_region 3 with(fail);have HR1:=qh (Ar (cs:=DZ kk f t pl) HLH.o 0 (by intro j v hv;rw[Nat.zero_add,List.append_assoc,List.getElem?_append_left (List.getElem?_eq_some_iff.1 hv).1];exact hv));refine' bx1 ⟨8,9,5,27,47,CJ,DZ kk f t pl⟩ _ (Ja _ _ _ _) ?h2 ?val2 ?fin2;case h2=>
  intro W0 hW0;obtain⟨HC,HN,HL,HM,HLH,HS⟩:=Eh hW0 HC HN HL HM HLH HS;have c0_5:=Iz HC.o 5;have c1_1:=Iz HS.o 1;have HR2:=qh (Ar (cs:=DZ kk f t pl) HLH.o 0 (by intro j v hv;rw[Nat.zero_add,List.append_assoc,List.getElem?_append_left (List.getElem?_eq_some_iff.1 hv).1];exact hv));simp only[List.map_cons,List.map_nil,A8];repeat(first
  | (with_reducible refine qR 0 HR2.o ?_;simp only[Act.put,List.setIfInBounds_toArray,List.set_cons_succ,List.set_cons_zero])
  | go_big_quiet_step (first
   | fail))
  refine wpQuiet_nil ?_;intro w' _;exact rfl
 case val2=>rfl
 intro β w4 hb hx5;simp only[] at hx5;simp only[Dc,List.foldl,Act.put,List.setIfInBounds_toArray,List.set_cons_zero,List.set_cons_succ];obtain⟨HC,HN,HL,HM,HLH,HS⟩:=Eh hb HC HN HL HM HLH HS;generalize β 5=g5 at hx5 ⊢;have H5:=qh hx5.2;have hge5:=hx5.1;clear hx5;clear hb;have hg5:g5≠gC∧g5≠gl:=by omega
 have hw5:w.heap.size≤g5:=by omega
 clear HR1 HLH;have s0:=AZ HS.o 0;go_upto_region 5 with(fail);clear s0;obtain⟨HC,HN,HL,HM,HS,H5⟩:=Eh (AP _ w4) HC HN HL HM HS H5;refine EC [10,13] 14 (λhSn=>?_);generalize w4.drew=wd at HC HN HL HM HS H5 hSn ⊢;simp only[List.replicate];refine Gn 0 ?_;refine BA 4 [10,11,12,13] (λw hSw=>AZ (HC.bel hSw) 5) ?_;refine CS 5 ?_;refine BA 6 [10,11,12,13] (λw hSw=>AZ (HS.bel hSw) 1) ?_;refine CS 7 ?_;refine BA 8 [9,10,11,12,13] (λw hSw=>AZ (HS.bel hSw) 1) ?_;refine CS 9 ?_;refine BC 10 rfl (λK hK=>?_);go_simp;refine AY (KD.o _ (HL.bel hSn)) ?_;rintro w5 ⟨hl5,ht5⟩;have hm5:Mv (λk=>k=gl) _ w5:=Mv.Aa ht5 rfl;have HC:=qh ((HC.bel hSn).mv hm5 (Ne.symm hgq.1));have HN:=qh ((HN.bel hSn).mv hm5 hgq.2.2);have HS:=qh ((HS.bel hSn).mv hm5 hgS.2);have H5:=qh ((H5.bel hSn).mv hm5 hg5.2);have HM:=qh ((HM.bel hSn).mv hm5 (λk hk=>.inl (.inr hk)));have HL:=qh hl5;clear hl5 ht5 hm5;refine BJ hK ?_;clear hK;refine FD 11 ?_ (hS:=GK);refine BC 13 rfl (λK hK=>?_);refine tC 5 HC.o (.slice (some ⟨gl,0,none⟩) m cap) ?_;intro w6 hh6 ht6;have hm6:Mv (λk=>k=gC) w5 w6:=Mv.Aa ht6 rfl;have HC:=qh (show Holds w6 gC 85 (DW n dv (.slice (some ⟨gN,0,none⟩) n cN) clv cav (.slice (some ⟨gl,0,none⟩) m cap) hv) from hh6);have HN:=qh (HN.mv hm6 hgq.2.1);have HS:=qh (HS.mv hm6 hgS.1);have H5:=qh (H5.mv hm6 hg5.1);have HL:=qh (HL.mv hm6 (λk hk=>by cases hk;exact hgq.1));have HM:=qh (HM.mv hm6 (λk hk=>.inl (.inl hk)));clear hh6 ht6 hm6;refine BJ hK ?_;clear hK;refine DX ?_;clear hSn;have y2:=AZ H5.o 2;go_wp2_with fail;refine AY (KN.o _ _ HC.o HN.o) ?_;rintro w7 hb7;have HOF:=qh (show Off gC n dv (.slice (some ⟨gN,0,none⟩) n cN) clv cav hv gl m cap L w w6 from⟨HC.o,HL.o,HM.o⟩);obtain⟨HOF,HS,H5⟩:=Ce hb7 HOF HS H5;clear hb7 y2 HC HN HL HM;have s0:=AZ HS.o 0;go_upto_region 8 with(fail);have HRX:=qh H5.AX;go_wp2_with (first|(with_reducible refine lR 0 HRX.o ?_));refine(KT.o _ HOF.o).mono ?_;rintro e w8 ⟨⟨bb,rfl⟩,h6,h7⟩;have H6:=qh h6;have H5:=qh (h7 g5 _ hw5 H5.o);clear h6 h7 HOF HS HRX s0 KT;have y2:=AZ H5.o 2;go_wp2_with fail;refine AY (KO.o _ H6.o) ?_;rintro w9 h7;have H7:=qh h7;clear h7 H6 KO y2 H5;go_wp2_with fail;go_ret;exact⟨rfl,H7.o⟩
section
theorem Stepped.trans{w w1 w2:World}{own own1 own2:Nat→Nat}(h:Stepped w own w1 own1)(h2:Stepped w1 own1 w2 own2):Stepped w own w2 own2:=by
 have hs:=h.2.size;refine⟨λk hk=>(h2.1 k (by omega)).trans (h.1 k hk),h.2.mv h2.2 λk hk=>?_⟩;by_cases hkl:k<w.heap.size
 ·left;rw[h.1 k hkl] at hk;exact hk
 ·exact .inr (by omega)
theorem Stepped.bel{w w1 w2:World}{own own1:Nat→Nat}(h:Stepped w own w1 own1)(hb:Below w1.heap.size w1 w2):Stepped w own w2 own1:=⟨h.1,h.2.bel hb⟩
instance {w w1 w2:World}{own own1:Nat→Nat}:Bl w1 w2 (Stepped w own w1 own1) (Stepped w own w2 own1):=⟨λhb h=>Stepped.bel h hb⟩
theorem Stepped.pre{w w1 w2:World}{own own2:Nat→Nat}(hb:Below w.heap.size w w1)(h:Stepped w1 own w2 own2):Stepped w own w2 own2:=
 ⟨λk hk=>h.1 k (Nat.lt_of_lt_of_le hk hb.size),(Mv.of_below hb).mv h.2 λk hk=>.inl hk⟩
theorem V4(c:Cm)(q:Nat)(m:Lt)(rest:List Lt):flat 51 (m :: rest).length (DJ c q (m :: rest))=J8 c q m++flat 51 rest.length (DJ c q rest):=by
 have h:=OY c q [m] rest;rw[show [m]++rest=m :: rest from rfl] at h;rw[←h]
 congr 1
 exact En (s:=51) (V:=DJ c q [m]) rfl
section
variable {w w':World} {own:Nat→Nat} {gC n q:Nat} {c:Cm} {B:Nat} {lets:List Lt} {hist:Nat} {wait:Bool} {tg ct:Nat} {dv:Value} {gN cN gCl cCl gCa:Nat} {lv hv:Value} {gs:Nat→Option Nat} {gds gcl:Nat→Nat}
theorem NZ.off{rest:List Lt}{gl cap m:Nat}(h:NZ w own gC n q c lets hist wait tg ct dv gN cN gCl cCl gCa (.slice (some ⟨gl,0,none⟩) m cap) hv gs gds gcl)(hgl:own gl=1)(hh:∃L,Holds w gl 47 L) (ho:Off gC n dv (.slice (some ⟨gN,0,none⟩) n cN) (.slice (some ⟨gCl,0,none⟩) 8 cCl) (.slice (some ⟨gCa,0,none⟩) 8 8) hv gl rest.length cap (flat 51 rest.length (DJ c q rest)) w w') :NZ w' own gC n q c rest hist wait tg ct dv gN cN gCl cCl gCa (.slice (some ⟨gl,0,none⟩) rest.length cap) hv gs gds gcl:=by
 obtain⟨o1,o2,o3⟩:=ho;obtain⟨L,hL⟩:=hh;have hs:=o3.size;have hnT:∀k t L,Holds w k t L→t≠85→t≠47→¬(k=gC∨k=gl):=by
  rintro k t L hk ht1 ht2 (rfl|rfl)
  ·exact ht1 (BU hk h.cl)
  ·exact ht2 (BU hk hL)
 obtain⟨hnil,obh,hh1,hh2⟩:=h.his;obtain⟨Lc,hLc⟩:=h.c0.holds;refine h.turn o3 (λk hk _=>?_) o1 ⟨some gl,o2,λg hg=>by cases hg;exact hgl⟩ ⟨hnil,obh,hh1.mv o3 λg hg=>?_,hh2⟩ (h.c0.mv o3 (hnT _ _ _ hLc (by decide) (by decide))) id (λ_ _=>rfl) (λk hk=>Nat.lt_of_lt_of_le (h.lt k hk) hs)
 ·rcases hk with rfl|rfl
  ·exact .inr (.inl ⟨_,_,h.cl,by decide⟩)
  ·exact .inr (.inl ⟨_,_,hL,by decide⟩)
 ·rcases hh1.cases with⟨_,h0,_⟩|⟨g1,_,_,_,h0,_,_,hh,_⟩
  ·rw[h0] at hg;cases hg
  ·rw[h0] at hg;cases hg;exact hnT _ _ _ hh (by decide) (by decide)
end
theorem SV{n q:Nat}{ph ph':Ph}{m:Lt}{out:List Lt}{an:Bool}(h:Kr n q ph m=some (ph',out,an))(hq:q<n):m.2.2<n∧m.2.1<n∧(∀x∈out,x.2.2<n)∧ph'≠.gone:=by
 unfold Kr at h;split at h
 ·cases h
 rename_i hc;simp only[not_or,Nat.not_le] at hc;refine⟨hc.2.2,hc.2.1,?_⟩;have hsend:∀k p,p<n→∀x∈Bq k n p,x.2.2<n:=by intro k p hp x hx;simp only[Bq,Dv,List.mem_map,List.mem_range] at hx;obtain⟨r,⟨i,hi,rfl⟩,rfl⟩:=hx;show (if i<p then i else i+1)<n;split<;>omega
 repeat' split at h
 all_goals first
  | (cases h;done)
  | (simp only[Option.some.injEq,Prod.mk.injEq] at h
     obtain⟨rfl,rfl,_⟩:=h;refine⟨?_,by simp⟩;first
     | exact hsend _ _ hq
     | exact hsend _ _ hc.2.2
     | (intro x hx;simp at hx;try(subst hx;first|exact hq|exact hc.2.1|(dsimp only;omega))))
theorem GZ{ph:Ph}{phs:List Ph}{i j:Nat}(hi:i<phs.length):(phs.set i ph).getD j .fresh=if j=i then ph else phs.getD j .fresh:=by
 by_cases h:j=i
 ·subst h;simp[List.getD_eq_getElem?_getD,hi]
 ·simp[List.getD_eq_getElem?_getD,List.getElem?_set,Ne.symm h,h]
theorem Jc{w W W':World}{own:Nat→Nat}{gC n q i gi:Nat}{c:Cm}{B B':Nat}{s s2:Cs}{dv:Value}{gN cN gCl cCl gCa:Nat}{lv hv:Value}{gs:Nat→Option Nat}{gds gcl:Nat→Nat}{ph':Ph}{outl:List Lt}{an:Bool}{tk':Nat} (hB:NZ W own gC n q c s2.lets s2.hist s2.wait s2.tg s2.ct dv gN cN gCl cCl gCa lv hv gs gds gcl) (hN:Dj W own n q c B s.phs s.tks gs gds (λ_=>[]) (λ_=>false)) (hp:s.phs.length=n) (ht:s.tks.length=n) (hi:i<n) (hgi:gs i=some gi) (hnc:Bg W' (grow (λk=>own k=2+i) W W') gi (gds i) n i q c ph' outl an tk' B') (hm:Mv (λk=>own k=2+i) W W') (hBB:B≤B') (hng:ph'≠.gone) (hph:s2.phs=s.phs.set i ph') (htk:s2.tks=s.tks.set i tk') (hst:Stepped w own W own) :JU W' (CY own W W' (2+i)) gC n q c B' s2 (λj=>if j=i then outl else []) (λj=>if j=i then an else false)∧Stepped w own W' (CY own W W' (2+i)):=by
 have hs3:=hm.size;have hol:=hB.lt;have hold:∀k,k<W.heap.size→CY own W W' (2+i) k=own k:=λk hk=>Ec _ _ _ _ _ hk;refine⟨⟨dv,gN,cN,gCl,cCl,gCa,lv,hv,gs,gds,gcl,hB.mv hm (λk hk _=>by omega) hold (Jd hol hs3),?_,by rw[hph];simpa using hp,by rw[htk];simpa using ht⟩,hst.trans ⟨hold,hm.more λk hk=>by omega⟩⟩;refine hN.one (i:=i) (g':=gi) hm (λk hk _=>.inr hk) hold hBB (λj hj hji=>⟨by rw[hph,GZ (by omega),if_neg hji],by rw[htk];simp[List.getD_eq_getElem?_getD,List.getElem?_set,Ne.symm hji],rfl,if_neg hji,if_neg hji⟩) (λ_=>.inr ⟨by rw[hph,GZ (by omega),if_pos rfl];exact hng,hgi,?_⟩);have e1:s2.phs.getD i .fresh=ph':=by rw[hph,GZ (by omega),if_pos rfl]
 have e2:s2.tks.getD i 0=tk':=by rw[htk];simp[List.getD_eq_getElem?_getD,ht,hi]
 rw[e1,e2];simp only[if_true];exact hnc.foot λk hk hkl=>by
  rcases hk with hk|⟨h5,h6⟩
  ·rw[hold k (hol k (by omega))];exact hk
  ·exact Es _ _ _ _ _ h5 h6
theorem Zb(w:World)(own:Nat→Nat)(gC n q:Nat)(c:Cm)(B:Nat)(s s':Cs)(h:Eb w own gC n q c B s)(hs:IR n q s=some s')(hlen:s.lets.length≤1000)(hn3:3≤n)(hn:n≤7)(hq:q<n)(hc:CU c)(h1:c.c=1)(h2:c.s=1) :Calls prog 27 #[.pointer (some ⟨gC,0,none⟩),.agg (Dh 2 0).toArray] w λe w'=>e=.returned (.bool true)∧∃own',Eb w' own' gC n q c B s'∧Stepped w own w' own':=by
 obtain⟨dv,gN,cN,gCl,cCl,gCa,lv,hvv,gs,gds,gcl,hB,hN,hp,htl⟩:=h;cases hsl:s.lets with
 | nil=>rw[IR,hsl] at hs;cases hs
 | cons m rest=>
  rw[IR,hsl] at hs;rw[hsl] at hlen;dsimp only at hs;have hlen2:rest.length+1≤1000:=by simpa using hlen
  obtain⟨rN,hnp⟩:=hB.np;obtain⟨ob,hl1,hl2⟩:=hB.lts;rw[hsl,V4] at hl1;obtain⟨gl,cap,rl,hlv,rfl,_,_,hh,_⟩:=hl1.blk (Nat.succ_pos _);have hlv':lv=.slice (some ⟨gl,0,none⟩) (rest.length+1:Nat) cap:=hlv;subst hlv';have hol:=hB.lt

  have hoff:∀W,Off gC n dv (.slice (some ⟨gN,0,none⟩) n cN) (.slice (some ⟨gCl,0,none⟩) 8 cCl) (.slice (some ⟨gCa,0,none⟩) 8 8) hvv gl rest.length cap (flat 51 rest.length (DJ c q rest)) w W →
    NZ W own gC n q c rest s.hist s.wait s.tg s.ct dv gN cN gCl cCl gCa (.slice (some ⟨gl,0,none⟩) rest.length cap) hvv gs gds gcl∧Dj W own n q c B s.phs s.tks gs gds (λ_=>[]) (λ_=>false)∧Stepped w own W own:=by
   intro W hO;have e1:=hB.ow.1;have e2:=hl2 gl rfl;exact⟨hB.off e2 ⟨_,hh⟩ hO,hN.mv hO.2.2 (λk hk _=>by rcases hk with rfl|rfl<;>omega) (λ_ _=>rfl),λ_ _=>rfl,hO.2.2.more λk hk=>by rcases hk with rfl|rfl<;>omega⟩
  split at hs
  ·
   rename_i hg;split at hs
   ·rename_i hmn;simp only[Option.some.injEq] at hs;subst hs;have hgt:gs m.2.2=none:=by
     rcases hN m.2.2 hmn with h|⟨h,_⟩
     ·exact h.2
     ·exact absurd hg h
    refine AY (VV gC gN n cN gl rest.length cap gs rN (gu m.1) m.2.1 m.2.2 (iO c q m) dv _ _ hvv _ w hB.cl hnp hmn hgt hl1 (Gf c q rest _) (by omega)) ?_;rintro w' hO;obtain⟨hB2,hN2,hst⟩:=hoff w' hO;exact⟨rfl,own,⟨dv,gN,cN,gCl,cCl,gCa,_,hvv,gs,gds,gcl,hB2,hN2,hp,htl⟩,hst⟩
   ·cases hs
  rename_i hng;cases ht:Kr n q (s.phs.getD m.2.2 .fresh) m with
  | none=>rw[ht] at hs;cases hs
  | some r=>
   obtain⟨ph',outl,an⟩:=r;rw[ht] at hs;simp only[Option.bind_some] at hs;obtain⟨hd,hf,hdest,hpg⟩:=SV ht hq;obtain⟨gt,hgt,hnode⟩:∃gi,gs m.2.2=some gi∧Bg w (λk=>own k=2+m.2.2) gi (gds m.2.2) n m.2.2 q c (s.phs.getD m.2.2 .fresh) [] false (s.tks.getD m.2.2 0) B:=by
    rcases hN m.2.2 hd with h|⟨_,gi,h1,h2⟩
    ·exact absurd h.1 hng
    ·exact⟨gi,h1,h2⟩
   unfold L9 at hs;split at hs
   ·cases hs
   rename_i hsum;have htk:s.tks.set m.2.2 (s.tks.getD m.2.2 0)=s.tks:=by
    apply List.ext_getElem?;intro j;by_cases hj:m.2.2=j
    ·subst hj;rw[List.getElem?_set,if_pos rfl,if_pos (by omega),List.getD_eq_getElem?_getD,List.getElem?_eq_getElem (by omega)]
     rfl
    ·rw[List.getElem?_set,if_neg hj]
   refine(VW gC gN n cN gl rest.length cap gs rN (gu m.1) m.2.1 m.2.2 (iO c q m) dv _ _ hvv _ gt
    (λW'=>∃own2,JU W' own2 gC n q c B { s with lets:=rest,phs:=s.phs.set m.2.2 ph' } (λj=>if j=m.2.2 then outl else []) (λj=>if j=m.2.2 then an else false)∧Stepped w own W' own2)
    (λW'=>∃own',Eb W' own' gC n q c B s'∧Stepped w own W' own') w hB.cl hnp hd hgt hl1 (Gf c q rest _) (by omega) (λW hO=>?_) (λW hR=>?_)).mono ?_
   ·obtain⟨hB2,hN2,hst⟩:=hoff W hO;have hsz:=hO.2.2.size;have hnode2:Bg W (λk=>own k=2+m.2.2) gt (gds m.2.2) n m.2.2 q c (s.phs.getD m.2.2 .fresh) [] false (s.tks.getD m.2.2 0) B:=hnode.mv hO.2.2 λk hk _ hf=>by have:=hB.ow.1;have:=hl2 gl rfl;rcases hk with rfl|rfl<;>omega
    refine AY (WI W (λk=>own k=2+m.2.2) gt (gds m.2.2) n m.2.2 q c _ ph' m outl an _ B hnode2 rfl ht hn3 hn hq hc h1 h2) ?_;rintro W' ⟨hnc,hm⟩;obtain⟨g1,g2⟩:=Jc (w:=w) (s:=s) (s2:={ s with lets:=rest,phs:=s.phs.set m.2.2 ph' }) hB2 hN2 hp htl hd hgt hnc hm (Nat.le_refl _) hpg rfl htk.symm hst;exact⟨⟨_,rfl⟩,⟨_,g1,g2⟩,λg L hg hL=>hL.mv hm λhx=>by have:=hol g (by omega);omega⟩
   ·obtain⟨own2,hG,hsp⟩:=hR;have hng2:(s.phs.set m.2.2 ph').getD m.2.2 .fresh≠.gone:=by rw[GZ (by omega),if_pos rfl];exact hpg
    cases an with
    | false=>
     simp only[Bool.false_eq_true,if_false,Option.some.injEq] at hs;subst hs;refine AY (Nh W own2 gC n q m.2.2 c B _ outl _ _ hG hd hng2 (by simp) (λj hj=>by simp[hj]) (λj=>by simp) hdest (by simp;omega)) ?_;rintro w' ⟨own',h5,h6⟩;exact⟨rfl,own',h5,hsp.trans h6⟩
    | true=>
     simp only[if_true] at hs;split at hs
     ·rename_i hw;simp only[Option.some.injEq] at hs;subst hs;refine AY (VA W own2 gC n q m.2.2 c B _ outl _ _ hG hd hng2 (by simp) (λj hj=>by simp[hj]) (by simp) (λj hj=>by simp[hj]) hw.2 hw.1 h1 h2 hdest (by simp;omega)) ?_;rintro w' ⟨own',h5,h6⟩;exact⟨rfl,own',h5,hsp.trans h6⟩
     ·cases hs
   ·rintro e w' ⟨rfl,h9⟩;exact⟨rfl,h9⟩
end
end Go.Proofs.YtimdpiifpibgfaaGreatDoor
