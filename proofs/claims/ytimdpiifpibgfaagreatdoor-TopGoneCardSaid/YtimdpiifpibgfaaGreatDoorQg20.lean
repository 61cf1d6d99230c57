/- A part of the proof that the law TopGone returns true for every input. -/
import Derived.Deep.OwnRows
import Derived.Test.YtimdpiifpibgfaaGreatDoorQg14
set_option linter.all false
set_option maxRecDepth 20000
set_option maxHeartbeats 16000000
open Go.RowKit Go.Maps
namespace Go.Proofs.YtimdpiifpibgfaaGreatDoor
open Tryz
theorem Oi{w:World}{base:Nat}{e:TypeId}{v x:Value}(h:w.ownsRow base e 1 v 1 [x]):∃br c L,v=.slice (some ⟨br,0,none⟩) 1 c∧base≤br∧1≤c∧L.length+1=c∧Holds w br e (x :: L):=by
 obtain⟨_,h⟩:=h;rcases h with⟨hc,hn⟩|⟨g,cap,cur,hv,hg,hh,hnc,hcm,hcs,htk⟩
 ·cases hn
 obtain⟨c⟩:=cur;cases c with
 | nil=>simp at htk
 | cons y L=>
  simp at htk;subst htk;exact⟨g,cap,L,hv,hg,hnc,by simpa using hcs,hh⟩
abbrev one1(b:Nat):Value:=.slice (some ⟨b,0,none⟩) 1 1
abbrev Ia(E R:Value)(bi bl bo bp:Nat)(many clock:Int):List Value:=[E,one1 bi,one1 bl,one1 bo,R,one1 bp,.int .i64 many,.int .i64 clock]
structure GW(w:World)(g bi bl bo bp:Nat)(E R:Value)(many clock i l p:Int)(o:Bool):Prop where
 hg:Holds w g 431 (Ia E R bi bl bo bp many clock)
 hi:Holds w bi 3 [.int .i64 i]
 hl:Holds w bl 3 [.int .i64 l]
 ho:Holds w bo 4 [.bool o]
 hp:Holds w bp 3 [.int .i64 p]
 ne:g≠bi∧g≠bl∧g≠bo∧g≠bp∧bi≠bl∧bi≠bo∧bi≠bp∧bl≠bo∧bl≠bp∧bo≠bp
theorem GW.below{w w':World}{g bi bl bo bp:Nat}{E R:Value}{many clock i l p:Int}{o:Bool}(h:GW w g bi bl bo bp E R many clock i l p o)(hb:Below w.heap.size w w'):GW w' g bi bl bo bp E R many clock i l p o:=
 ⟨AC h.hg hb,AC h.hi hb,AC h.hl hb,AC h.ho hb,AC h.hp hb,h.ne⟩
theorem GW.VE{w w':World}{g bi bl bo bp:Nat}{E R E' R':Value}{many clock i l p many' clock':Int}{o:Bool}(h:GW w g bi bl bo bp E R many clock i l p o)(hh:Holds w' g 431 (Ia E' R' bi bl bo bp many' clock'))(ht:Touch g w w'):GW w' g bi bl bo bp E' R' many' clock' i l p o:=by have:=h.ne;exact⟨hh,h.hi.touch ht (by omega),h.hl.touch ht (by omega),h.ho.touch ht (by omega),h.hp.touch ht (by omega),h.ne⟩
theorem GW.iU{w w':World}{g bi bl bo bp:Nat}{E R:Value}{many clock i l p i':Int}{o:Bool}(h:GW w g bi bl bo bp E R many clock i l p o)(hh:Holds w' bi 3 [.int .i64 i'])(ht:Touch bi w w'):GW w' g bi bl bo bp E R many clock i' l p o:=by have:=h.ne;exact⟨h.hg.touch ht (by omega),hh,h.hl.touch ht (by omega),h.ho.touch ht (by omega),h.hp.touch ht (by omega),h.ne⟩
theorem GW.iV{w w':World}{g bi bl bo bp:Nat}{E R:Value}{many clock i l p l':Int}{o:Bool}(h:GW w g bi bl bo bp E R many clock i l p o)(hh:Holds w' bl 3 [.int .i64 l'])(ht:Touch bl w w'):GW w' g bi bl bo bp E R many clock i l' p o:=by have:=h.ne;exact⟨h.hg.touch ht (by omega),h.hi.touch ht (by omega),hh,h.ho.touch ht (by omega),h.hp.touch ht (by omega),h.ne⟩
theorem GW.ag{w w':World}{g bi bl bo bp:Nat}{E R:Value}{many clock i l p:Int}{o o':Bool}(h:GW w g bi bl bo bp E R many clock i l p o)(hh:Holds w' bo 4 [.bool o'])(ht:Touch bo w w'):GW w' g bi bl bo bp E R many clock i l p o':=by have:=h.ne;exact⟨h.hg.touch ht (by omega),h.hi.touch ht (by omega),h.hl.touch ht (by omega),hh,h.hp.touch ht (by omega),h.ne⟩
theorem GW.iW{w w':World}{g bi bl bo bp:Nat}{E R:Value}{many clock i l p p':Int}{o:Bool}(h:GW w g bi bl bo bp E R many clock i l p o)(hh:Holds w' bp 3 [.int .i64 p'])(ht:Touch bp w w'):GW w' g bi bl bo bp E R many clock i l p' o:=by have:=h.ne;exact⟨h.hg.touch ht (by omega),h.hi.touch ht (by omega),h.hl.touch ht (by omega),h.ho.touch ht (by omega),hh,h.ne⟩
theorem GW.touch{w w':World}{g bi bl bo bp k:Nat}{E R:Value}{many clock i l p:Int}{o:Bool}(h:GW w g bi bl bo bp E R many clock i l p o)(ht:Touch k w w')(h1:g≠k)(h2:bi≠k)(h3:bl≠k)(h4:bo≠k)(h5:bp≠k):GW w' g bi bl bo bp E R many clock i l p o:=
 ⟨h.hg.touch ht h1,h.hi.touch ht h2,h.hl.touch ht h3,h.ho.touch ht h4,h.hp.touch ht h5,h.ne⟩
theorem GW.lt{w:World}{g bi bl bo bp:Nat}{E R:Value}{many clock i l p:Int}{o:Bool}(h:GW w g bi bl bo bp E R many clock i l p o):g<w.heap.size∧bi<w.heap.size∧bl<w.heap.size∧bo<w.heap.size∧bp<w.heap.size:=⟨h.hg.lt,h.hi.lt,h.hl.lt,h.ho.lt,h.hp.lt⟩
def XD(B g bi bl bo bp:Nat):Prop:=B≤g∧B≤bi∧B≤bl∧B≤bo∧B≤bp
theorem Xb(g bi bl bo bp B:Nat)(E:Value)(w:World)(h:GW w g bi bl bo bp E (.slice none 0 0) 0 0 0 0 0 false)(hB:B≤w.heap.size)(hlo:XD B g bi bl bo bp) :Calls prog 344 #[.pointer (some ⟨g,0,none⟩),.int .i64 0] w λe w'=>∃br c L,e=.returned (.agg #[.int .i64 0,.int .i64 0])∧GW w' g bi bl bo bp E (.slice (some ⟨br,0,none⟩) 1 c) 0 1 1 1 0 true∧Holds w' br 3 (.int .i64 0 :: L)∧w.heap.size≤br∧1≤c∧L.length+1=c∧Below B w w':=by
 obtain⟨l1,l2,l3,l4,l5⟩:=hlo;have HG:=qh h;obtain⟨t1,t2,t3,t4,t5⟩:=h.lt;clear h;have m7:=AZ HG.hg 7;go_in;go_upto_region 1 with(fail);go_name_world W hW;have hS:Holds W w.heap.size 446 [.int .i64 0,.int .i64 0]:=by rw[←hW];exact AA w _ _
 have HB:=qh (show Below w.heap.size w W by rw[←hW];go_grown);have HS:=qh hS;clear hS hW m7;have HG:=qh (HG.below HB.o);have m7:=AZ HG.hg 7;have HB:=qh (HB.mono hB);have hs:w.heap.size+1≤W.heap.size:=HS.lt;generalize hgs:w.heap.size=gs at HS ⊢;go_wp2_with (first|(refine sC 7 HG.hg (.int .i64 1) ?_;intro w1 hh ht));simp only[Ia,List.set_cons_zero,List.set_cons_succ] at hh;have HB:=qh (HB.trans (ht.below l1 (by have:=HB.size;omega)));have HG:=qh (HG.VE hh ht);have HS:=qh (HS.touch ht (by omega));have hs:=Nat.le_trans hs ht.size;clear hh ht m7;have HG:=qh (HG.below (AP _ _));have HB:=qh (HB.trans (AP _ _));have HS:=qh (show Holds w1.drew gs 446 _ from HS.o);have hs:w.heap.size+1≤w1.drew.heap.size:=hs;refine wp_region_noPanic ?_;refine CP (S:=λW'=>Holds W' g 431 (Ia E (.slice none 0 0) bi bl bo bp 0 1)) (X0:=[]) (by as_aux_lemma=>kernel_rfl) ?_;generalize w1.drew=wd at HG HB HS hs ⊢;have hSn:=HG.hg;change wpAnyL _ _ _ _ _ _ 29 #[false,false,false,false,false,false,false,false,false,false,false,false,false,false,false,false,false,false,false,false,false,false,false,false,false,false,false,false,false] _ _;refine Dl 0 ?_;refine BA 3 [] (λw hSw=>AZ hSw 1) ?_;refine Gn 4 ?_;refine BA 8 [] (λw hSw=>AZ hSw 2) ?_;refine Gn 9 ?_;refine BA 13 [] (λw hSw=>AZ hSw 3) ?_;refine Gn 14 ?_;refine BA 18 [] (λw hSw=>AZ hSw 7) ?_;refine Dl 19 ?_;refine BA 22 [] (λw hSw=>AZ hSw 7) ?_;refine CS 23 ?_;refine BC 24 rfl (λK hK=>?_);refine tC 0 HG.hi (.int .i64 1) ?_;intro wa hh ht;simp only[List.set_cons_zero] at hh;have HB:=qh (HB.trans (ht.below l2 (by have:=HB.size;omega)));have HG:=qh (HG.iU hh ht);have HS:=qh (HS.touch ht (by omega));have hs:=Nat.le_trans hs ht.size;clear hh ht hSn;have hSn:=HG.hg;refine BJ hK ?_;clear hK;refine CS 25 ?_;refine BC 26 rfl (λK hK=>?_);refine tC 0 HG.hl (.int .i64 1) ?_;intro wa hh ht;simp only[List.set_cons_zero] at hh;have HB:=qh (HB.trans (ht.below l3 (by have:=HB.size;omega)));have HG:=qh (HG.iV hh ht);have HS:=qh (HS.touch ht (by omega));have hs:=Nat.le_trans hs ht.size;clear hh ht hSn;have hSn:=HG.hg;refine BJ hK ?_;clear hK;refine CS 27 ?_;refine BC 28 rfl (λK hK=>?_);refine tC 0 HG.ho (.bool true) ?_;intro wa hh ht;simp only[List.set_cons_zero] at hh;have HB:=qh (HB.trans (ht.below l4 (by have:=HB.size;omega)));have HG:=qh (HG.ag hh ht);have HS:=qh (HS.touch ht (by omega));have hs:=Nat.le_trans hs ht.size;clear hh ht hSn;have hSn:=HG.hg;refine BJ hK ?_;clear hK;refine DX ?_;have m4:=AZ HG.hg 4;clear hSn;go_wp2_with (first|(at_builtin;refine Ak rfl (.tmp 42) (.tmp 44) 30 rfl (wa.heap.size+1) 3 (.int .i64 0) 1 8 rfl (by kernel_rfl) rfl (by decide) _ 0 [] rfl (World.ownsRow_nil _ _ _ _) (some ⟨wa.heap.size,0,none⟩) 1 1 [.int .i64 0] rfl rfl ((AA wa _ _).reads 0 _ (λj v hv=>by simpa using hv)) (by intro h;cases h) (by simp[Value.oneCell']) (by unfold maxLen;omega) (by omega) (by simp) ?_;intro v3 w3 ho3 hb3 _;have hb3:=((Below.refl wa.heap.size wa).alloc (Nat.le_refl _) (.cells #[.int .i64 0] 3)).trans (hb3.mono (Nat.le_succ _));have HO3:=qh ho3;have HB3:=qh hb3;have HG3:=qh (HG.below hb3);clear ho3 hb3;obtain⟨br,c,L,rfl,hbr,hc1,hLc,hrow⟩:=Oi HO3.o;have HR:=qh hrow;clear hrow)|(refine sC 4 HG3.hg (.slice (some ⟨br,0,none⟩) 1 c) ?_;intro w4 hh ht;simp only[Ia,List.set_cons_zero,List.set_cons_succ] at hh;have HG4:=qh (HG3.VE hh ht);have HS4:=qh ((AC HS.o HB3.o).touch ht (by omega));have HR4:=qh (HR.touch ht (by omega));have HT:=qh ht;clear hh ht)|(refine sW [.int .i64 0,.int .i64 0] HS4.o ?_;intro w5 hh ht;have HG5:=qh (HG4.touch ht (by omega) (by omega) (by omega) (by omega) (by omega));have HR5:=qh (HR4.touch ht (by omega));have HT5:=qh ht;clear ht));refine bC hh.AX ?_;refine⟨br,c,L,rfl,HG5.o,HR5.o,by omega,hc1,hLc,?_⟩;have h1:=HB.size;have h3:=HB3.size;have h4:=HT.size;exact((HB.trans (HB3.mono (by omega))).trans (HT.below l1 (by omega))).trans (HT5.below (by omega) (by omega))
theorem TY(g bi bl bo bp B br c:Nat)(L:List Value)(E:Value)(w:World)(h:GW w g bi bl bo bp E (.slice (some ⟨br,0,none⟩) 1 c) 0 1 1 1 0 true)(hr:Holds w br 3 (.int .i64 0 :: L))(hbr:br≠g∧br≠bo∧br≠bp)(hc:1≤c)(hB:B≤w.heap.size)(hlo:XD B g bi bl bo bp) :Calls prog 345 #[.pointer (some ⟨g,0,none⟩),.int .i64 0] w λe w'=>e=.returned (.tuple #[])∧GW w' g bi bl bo bp E (.slice (some ⟨br,0,none⟩) 0 c) 1 1 1 1 0 false∧Below B w w':=by
 obtain⟨l1,l2,l3,l4,l5⟩:=hlo;have HG:=qh h;have HR:=qh hr;obtain⟨t1,t2,t3,t4,t5⟩:=h.lt;obtain⟨n1,n2,n3⟩:=hbr;clear h hr;go_in;go_upto_region 0 with(fail);refine wp_region_noPanic ?_;refine CP (S:=λW'=>GW W' g bi bl bo bp E (.slice (some ⟨br,0,none⟩) 1 c) 0 1 1 1 0 true) (X0:=[]) (by as_aux_lemma=>kernel_rfl) ?_;have HG:=qh (HG.below (AP _ _));have HR:=qh (show Holds w.drew br 3 _ from HR.o);have HB:=qh (show Below B w w.drew from AP _ _);generalize w.drew=wd at HG HR HB ⊢;have hSn:=HG.o;change wpAnyL _ _ _ _ _ _ 15 #[false,false,false,false,false,false,false,false,false,false,false,false,false,false,false] _ _;refine Dl 0 ?_;refine BA 3 [] (λw hSw=>AZ hSw.hg 2) ?_;refine FD 4 ?_;refine BA 6 [] (λw hSw=>AZ hSw.hl 0) ?_;refine Dl 7 ?_;refine BA 10 [] (λw hSw=>AZ hSw.hg 1) ?_;refine FD 11 ?_;refine BA 13 [] (λw hSw=>AZ hSw.hi 0) ?_;refine CS 14 ?_;refine DX ?_;clear hSn
 go_wp2
 go_loopw [4] (λv4 wr=>v4=undef∧wr=wd) (λ_ _=>0);case atStart=>exact⟨rfl,rfl⟩
 case round=>
  obtain⟨rfl,rfl⟩:=hrel;go_upto_region 1 with(fail);have hw0:IntKind.i64.wrap 0=0:=by decide
  refine wp_region_noPanic ?_;refine CP (S:=λW'=>GW W' g bi bl bo bp E (.slice (some ⟨br,0,none⟩) 1 c) 0 1 1 1 0 true∧Holds W' br 3 (.int .i64 0 :: L)) (X0:=[]) (by as_aux_lemma=>kernel_rfl) ?_;have HG:=qh (HG.below (AP _ _));have HR:=qh (show Holds wr.drew br 3 _ from HR.o);have HB:=qh (HB.trans (AP _ _));generalize wr.drew=wd at HG HR HB ⊢;have hSn:=And.intro HG.o HR.o;change wpAnyL _ _ _ _ _ _ 13 #[false,false,false,false,false,false,false,false,false,false,false,false,false] _ _;refine Dl 0 ?_;refine BA 3 [] (λw hSw=>AZ hSw.1.hg 4) ?_;refine Dl 4 ?_;refine BA 7 [] (λw hSw=>AZ hSw.1.hg 4) ?_;refine Dl 8 ?_;refine IM 11 [] (some 31) (?vg53) rfl (Or.inl ⟨by rfl,?hg53⟩) hSn ?rg53;case hg53=>
   intro w hSw;have r0:=hSw.2.cell 0;simp only[List.getElem?_cons_zero] at r0;go_simp;try with_reducible rfl
  simp only[Act.put,zA,zB,zC];refine CS 12 ?_;refine DX ?_;clear hSn;go_upto_region 2 with(fail);refine wp_region_noPanic ?_;refine CP (S:=λW'=>GW W' g bi bl bo bp E (.slice (some ⟨br,0,none⟩) 1 c) 0 1 1 1 0 true∧Holds W' br 3 (.int .i64 0 :: L)) (X0:=[14]) (by as_aux_lemma=>kernel_rfl) ?_;have HG:=qh (HG.below (AP _ _));have HR:=qh (show Holds wd.drew br 3 _ from HR.o);have HB:=qh (HB.trans (AP _ _));generalize wd.drew=wd at HG HR HB ⊢;have hSn:=And.intro HG.o HR.o;change wpAnyL _ _ _ _ _ _ 15 #[false,false,false,false,false,false,false,false,false,false,false,false,false,false,false] _ _;refine Gn 0 ?_;refine BA 4 [11,12,13,14] (λw hSw=>AZ hSw.1.hg 4) ?_;refine Dl 5 ?_;refine BA 8 [9,10,11,12,13,14] (λw hSw=>AZ hSw.1.hg 4) ?_;refine Gn 9 ?_;refine CS 13 ?_;refine BC 14 rfl (λK hK=>?_);refine tC 4 HG.hg (.slice (some ⟨br,0,none⟩) 0 c) ?_;intro wa hh ht;simp only[Ia,List.set_cons_zero,List.set_cons_succ] at hh;have HB:=qh (HB.trans (ht.below l1 (by have:=HB.size;omega)));have HG:=qh (HG.VE hh ht);have HR:=qh (HR.touch ht n1);clear hh ht hSn;have hSn:=And.intro HG.o HR.o;refine BJ hK ?_;clear hK;refine DX ?_;clear hSn;go_upto_region 3 with(fail);refine wp_region_noPanic ?_;refine CP (S:=λW'=>Holds W' g 431 (Ia E (.slice (some ⟨br,0,none⟩) 0 c) bi bl bo bp 0 1)) (X0:=[]) (by as_aux_lemma=>kernel_rfl) ?_;have HG:=qh (HG.below (AP _ _));have HB:=qh (HB.trans (AP _ _));generalize wa.drew=wd at HG HB ⊢;have hSn:=HG.hg;change wpAnyL _ _ _ _ _ _ 18 #[false,false,false,false,false,false,false,false,false,false,false,false,false,false,false,false,false,false] _ _;refine Dl 0 ?_;refine BA 3 [] (λw hSw=>AZ hSw 3) ?_;refine Gn 4 ?_;refine BA 8 [] (λw hSw=>AZ hSw 5) ?_;refine Gn 9 ?_;refine BA 13 [] (λw hSw=>AZ hSw 6) ?_;refine CS 14 ?_;refine BC 15 rfl (λK hK=>?_);refine tC 0 HG.ho (.bool false) ?_;intro wa hh ht;simp only[List.set_cons_zero] at hh;have HB:=qh (HB.trans (ht.below l4 (by have:=HB.size;omega)));have HG:=qh (HG.ag hh ht);clear hh ht hSn;have hSn:=HG.hg;refine BJ hK ?_;clear hK;refine CS 16 ?_;refine BC 17 rfl (λK hK=>?_);refine tC 0 HG.hp (.int .i64 0) ?_;intro wa hh ht;simp only[List.set_cons_zero] at hh;have HB:=qh (HB.trans (ht.below l5 (by have:=HB.size;omega)));have HG:=qh (HG.iW hh ht);clear hh ht hSn;have hSn:=HG.hg;refine BJ hK ?_;clear hK;refine DX ?_;clear hSn;have m6:=AZ HG.hg 6;go_wp2_with (first|(refine sC 6 HG.hg (.int .i64 1) ?_;intro wb hh ht));simp only[Ia,List.set_cons_zero,List.set_cons_succ] at hh;exact bE ⟨rfl,HG.VE hh ht,HB.trans (ht.below l1 (by have:=HB.size;omega))⟩
theorem X6(g bi bl bo bp B be ce:Nat)(w:World)(h:GW w g bi bl bo bp (.slice (some ⟨be,0,none⟩) 1 ce) (.slice none 0 0) 0 0 0 0 0 false)(he:Holds w be 30 [.slice none 0 0])(hbe:be<B)(hB:B≤w.heap.size)(hlo:XD B g bi bl bo bp) :Calls prog 329 #[.pointer (some ⟨g,0,none⟩),.int .i64 0] w λe w'=>∃R,e=.returned (.tuple #[])∧GW w' g bi bl bo bp (.slice (some ⟨be,0,none⟩) 1 ce) R 1 1 1 1 0 false∧Below B w w':=by
 obtain⟨l1,l2,l3,l4,l5⟩:=id hlo;have HG:=qh h;have HE:=qh he;have he0:=qh (he);obtain⟨t1,t2,t3,t4,t5⟩:=h.lt;have K1:=qh (Xb g bi bl bo bp B (.slice (some ⟨be,0,none⟩) 1 ce) w h hB hlo);have K2:=qh (λbr c L W h1 h2 h3 h4 h5=>TY g bi bl bo bp B br c L (.slice (some ⟨be,0,none⟩) 1 ce) W h1 h2 h3 h4 h5 hlo);have HLO:=qh hlo;clear h he hlo;go_in;go_wp2_with fail;refine K1.mono ?_;rintro e w1 ⟨br,c,L,rfl,hg,hr,hbr,hc1,hLc,hb⟩;have HG:=qh hg;have HR:=qh hr;have HB:=qh hb;have hs1:w.heap.size≤w1.heap.size:=hb.size;have t6:=hr.lt;clear hg hr hb K1;go_wp2_with fail;have HW:=qh (show Holds (w1.alloc (.cells #[.int .i64 0,.int .i64 0] 446)) w1.heap.size 446 [.int .i64 0,.int .i64 0] from AA w1 _ _);have HA:=qh (show Below w1.heap.size w1 (w1.alloc (.cells #[.int .i64 0,.int .i64 0] 446)) by go_grown);generalize w1.alloc (.cells #[.int .i64 0,.int .i64 0] 446)=W at HW HA ⊢;have HG:=qh (HG.below HA.o);have HR:=qh (AC HR.o HA.o);have HB:=qh (HB.trans (HA.mono (by omega)));have hbw:w.heap.size≤w1.heap.size:=hs1;generalize hw1:w1.heap.size=bw at HW hbw ⊢;go_loopw [4] (λv4 wr=>∃m:Nat,v4=.slice (some ⟨bw,0,none⟩) m 1∧Below B w wr∧((m=1∧GW wr g bi bl bo bp (.slice (some ⟨be,0,none⟩) 1 ce) (.slice (some ⟨br,0,none⟩) 1 c) 0 1 1 1 0 true∧Holds wr br 3 (.int .i64 0 :: L)∧Holds wr bw 446 [.int .i64 0,.int .i64 0])∨(m=0∧GW wr g bi bl bo bp (.slice (some ⟨be,0,none⟩) 1 ce) (.slice (some ⟨br,0,none⟩) 0 c) 1 1 1 1 0 false))) (λv _=>match v with | .slice _ m _=>m|_=>0);case atStart=>exact⟨1,rfl,HB.o,.inl ⟨rfl,HG.o,HR.o,HW.o⟩⟩
 case round=>
  clear HG HR HB HW HA;have hw0:IntKind.i64.wrap 0=0:=by decide
  obtain⟨m,rfl,hb,⟨rfl,hg,hr,hs⟩|⟨rfl,hg⟩⟩:=hrel
  ·have HG:=qh hg;have HR:=qh hr;have HB:=qh hb;have HS:=qh hs;have HE:=qh (he0.below hb hbe);clear hg hr hb hs;go_upto_region 3 with(fail);refine wp_region_noPanic ?_;refine CP (S:=λW'=>Holds W' g 431 (Ia (.slice (some ⟨be,0,none⟩) 1 ce) (.slice (some ⟨br,0,none⟩) 1 c) bi bl bo bp 0 1)∧Holds W' bw 446 [.int .i64 0,.int .i64 0]∧Holds W' be 30 [.slice none 0 0]) (X0:=[]) (by as_aux_lemma=>kernel_rfl) ?_;have hSn:=And.intro (HG.below (AP _ _)).hg (And.intro (show Holds wr.drew bw 446 _ from HS.o) (show Holds wr.drew be 30 _ from HE.o));have HG:=qh (HG.below (AP _ _));have HR:=qh (show Holds wr.drew br 3 _ from HR.o);have HS:=qh (show Holds wr.drew bw 446 _ from HS.o);have HB:=qh (HB.trans (AP _ _));generalize wr.drew=wd at HG HR HS HB hSn ⊢;change wpAnyL _ _ _ _ _ _ 16 #[false,false,false,false,false,false,false,false,false,false,false,false,false,false,false,false] _ _;refine Dl 0 ?_;refine BA 3 [] (λw hSw=>AZ hSw.2.1 1) ?_;refine Dl 4 ?_;refine BA 7 [] (λw hSw=>AZ hSw.1 0) ?_;refine Dl 8 ?_;refine BA 11 [] (λw hSw=>AZ hSw.2.1 0) ?_;refine CS 12 ?_;refine BA 13 [] (λw hSw=>AZ hSw.2.2 0) ?_;refine FD 14 ?_;refine DX ?_;clear hSn;have s0:=HS.cell 0;simp only[List.getElem?_cons_zero] at s0;go_wp2_with fail;have hws:w.heap.size≤wd.heap.size:=HB.size;refine AY (K2.out br c L wd HG.o HR.o ⟨by omega,by omega,by omega⟩ hc1 (by omega)) ?_;rintro w5 ⟨hg5,hb5⟩;have HG5:=qh hg5;have HB5:=qh (HB.trans hb5);clear hg5 hb5 s0 HS HR HE;have h1c:(0:Int)≤1:=by decide
   go_wp2_with fail;go_roundw;case rel=>exact⟨0,rfl,HB5.o,.inr ⟨rfl,HG5.o⟩⟩
   case measure=>simp
  ·have HG:=qh hg;have HB:=qh hb;go_wp2_with fail;exact bE ⟨_,rfl,HG.o,HB.o⟩
def lenOf:Value→Nat
 | .slice _ m _=>m
 | _=>0
theorem MS{w:World}{base base' size n:Nat}{e:TypeId}{v:Value}{xs:List Value}(h:w.ownsRow base e size v n xs)(hl:base'≤base):w.ownsRow base' e size v n xs:=
 ⟨h.1,h.2.imp id λ⟨g,cap,cur,e1,e2,e3⟩=>⟨g,cap,cur,e1,Nat.le_trans hl e2,e3⟩⟩
theorem Oa(z:Value):madeCells #[z] 1=#[z]:=by kernel_rfl
theorem U6(w:World):(Instr.makeSlice 30 (.int .i64 1) (.int .i64 1)).run prog w=.ok (.slice (some ⟨w.heap.size,0,none⟩) 1 1) (w.alloc (.cells #[.int .i64 0] 3)):=by have h:=run_make_row' (P:=prog) 30 3 (.int .i64 0) 8 (by kernel_rfl) (by kernel_rfl) rfl .i64 .i64 1 (by omega) (by omega) w;rw[Oa] at h;exact h
theorem Yh(w:World):(Instr.makeSlice 429 (.int .i64 1) (.int .i64 1)).run prog w=.ok (.slice (some ⟨w.heap.size,0,none⟩) 1 1) (w.alloc (.cells #[.bool false] 4)):=by have h:=run_make_row' (P:=prog) 429 4 (.bool false) 1 (by kernel_rfl) (by kernel_rfl) rfl .i64 .i64 1 (by omega) (by omega) w;rw[Oa] at h;exact h
theorem QZ(w:World):(Instr.makeSlice 411 (.int .i64 1) (.int .i64 1)).run prog w=.ok (.slice (some ⟨w.heap.size,0,none⟩) 1 1) (w.alloc (.cells #[.slice none 0 0] 30)):=by have h:=run_make_row' (P:=prog) 411 30 (.slice none 0 0) 24 (by kernel_rfl) (by kernel_rfl) rfl .i64 .i64 1 (by omega) (by omega) w;rw[Oa] at h;exact h
theorem WM(be ce bp bn b0 c0:Nat)(w:World)(he:Holds w be 30 [.slice none 0 0])(hp:Holds w bp 3 [.int .i64 0])(hn:Holds w bn 30 [.slice (some ⟨b0,0,none⟩) 1 c0]) :Calls prog 330 #[.slice (some ⟨be,0,none⟩) 1 ce,.slice (some ⟨bp,0,none⟩) 1 1,.slice (some ⟨bn,0,none⟩) 1 1] w λe w'=>∃v,e=.returned v∧w'.ownsRow w.heap.size 30 1 v 1 [.slice (some ⟨b0,0,none⟩) 1 c0]∧Below w.heap.size w w':=by
 have HE:=qh he;have HP:=qh hp;have HN:=qh hn;have hbn0:=hn.lt;clear he hp hn;have hm1:=U6;have hm2:=QZ;go_in;go_wp2_with fail;have HL:=qh (show Holds ((w.alloc (.cells #[.int .i64 0] 3)).alloc (.cells #[.slice none 0 0] 30)) w.heap.size 3 [.int .i64 0] from Aq (AA w _ _) _);have HK:=qh (show Holds ((w.alloc (.cells #[.int .i64 0] 3)).alloc (.cells #[.slice none 0 0] 30)) (w.heap.size+1) 30 [.slice none 0 0] from by
  have:=AA (w.alloc (.cells #[.int .i64 0] 3)) 30 [.slice none 0 0];rw[World.size_alloc] at this;exact this)
 have HB:=qh (show Below w.heap.size w ((w.alloc (.cells #[.int .i64 0] 3)).alloc (.cells #[.slice none 0 0] 30)) from by go_grown);generalize (w.alloc (.cells #[.int .i64 0] 3)).alloc (.cells #[.slice none 0 0] 30)=W at HL HK HB ⊢;have HE:=qh (AC HE.o HB.o);have HP:=qh (AC HP.o HB.o);have HN:=qh (AC HN.o HB.o);have hgl:w.heap.size+1<W.heap.size:=HK.o.lt;generalize hk:w.heap.size+1=gk at HK hgl ⊢;generalize hl:w.heap.size=gl at HL HB ⊢;go_loopw [27] (λv wr=>∃i:Nat,v=.int .i64 (i:Int)∧i≤1∧wr=W) (λv _=>1 - (intOf v).toNat);case atStart=>first|exact⟨0,rfl,by omega,rfl⟩|exact⟨0,rfl,by omega,trivial⟩|exact⟨0,by simp⟩
 case round=>
  obtain⟨i,rfl,hi,rfl⟩:=hrel;rcases(show i=0∨i=1 by omega) with rfl|rfl
  ·have e0:=HE.cell 0;simp only[List.getElem?_cons_zero] at e0;go_wp2_with fail;go_loopw [34] (λv w2=>v=.int .i64 0∧w2=wr) (λ_ _=>0);case atStart=>first|exact⟨rfl,rfl⟩|exact⟨rfl,trivial⟩|simp
   case round=>
    obtain⟨rfl,rfl⟩:=hrel;go_wp2_with fail;go_roundw;case rel=>exact⟨1,by simp⟩
    case measure=>simp[intOf]
  ·go_wp2_with fail;have HT:=qh (AA wr 3 [.int .i64 0]);have HA:=qh (show Below wr.heap.size wr (wr.alloc (.cells #[.int .i64 0] 3)) by go_grown);generalize wr.alloc (.cells #[.int .i64 0] 3)=W at HT HA ⊢;have hgw:gl<wr.heap.size:=HL.lt;have HE:=qh (AC HE.o HA.o);have HN:=qh (AC HN.o HA.o);have HK:=qh (AC HK.o HA.o);have HL:=qh (AC HL.o HA.o);have HB:=qh (HB.trans (HA.mono (by omega)));have hgt:wr.heap.size<W.heap.size:=HT.lt;generalize hgtt:wr.heap.size=gt at HT hgt hgw hgl ⊢;go_loopw [14] (λv w2=>(v=.slice none 0 0∧w2=W)∨(∃p c,v=.slice p 1 c∧w2.ownsRow gl 30 1 v 1 [.slice (some ⟨b0,0,none⟩) 1 c0]∧Below gl w w2)) (λv _=>1-lenOf v);case atStart=>first|exact .inl ⟨rfl,rfl⟩|simp
   case round=>
    rcases hrel with⟨rfl,rfl⟩|⟨p,c,rfl,ho,hb⟩
    ·go_wp2_with fail;go_loopw [15,97] (λv15 v97 w2=>(v15=.int .i64 (-1)∧v97=.int .i64 0∧w2=wr)∨(v15=.int .i64 0∧v97=.int .i64 1∧Below wr.heap.size wr w2)) (λ_ v _=>1 - (intOf v).toNat);case atStart=>first|exact .inl ⟨rfl,rfl,rfl⟩|simp
     case round=>
      rcases hrel with⟨rfl,rfl,rfl⟩|⟨rfl,rfl,hb⟩
      ·have l0:=HL.cell 0;have k0:=HT.cell 0;simp only[List.getElem?_cons_zero] at l0 k0;go_upto_region 21 with(fail);go_quiet (fail);go_wp2_with fail;exact⟨.inr ⟨rfl,rfl,⟨rfl,rfl,rfl,Nat.le_refl _,λ_ _=>rfl⟩⟩,by decide⟩
      ·have HB2:=qh hb
       rename World=>w2
       have HT:=qh (AC HT.o hb);have HN:=qh (AC HN.o hb);have HK:=qh (AC HK.o hb);have hs2:=hb.size;have hgb:bn<w2.heap.size:=HN.lt;have HBN:=qh (show bn≠gt from by omega);clear hb;go_wp2_with (first|(refine sC 0 HT.o (.int .i64 1) ?_;intro w3 hh ht;have HT3:=qh ht;have hn3:=(HN.touch ht HBN.o);have n0:=hn3.cell 0;simp only[List.getElem?_cons_zero] at n0;have HK3:=qh (HK.o.touch ht (by omega));have hs3:=ht.size;clear hh ht)|(at_builtin;refine Ak rfl (.tmp 136) (.tmp 141) 411 rfl (w3.heap.size+1) 30 (.slice none 0 0) 1 24 rfl (by kernel_rfl) rfl (by decide) _ 0 [] rfl (World.ownsRow_nil _ _ _ _) (some ⟨w3.heap.size,0,none⟩) 1 1 [.slice (some ⟨b0,0,none⟩) 1 c0] rfl rfl ((AA w3 _ _).reads 0 _ (λj v hv=>by simpa using hv)) (by intro h;cases h) (by simp[Value.oneCell']) (by unfold maxLen;omega) (by omega) (by simp) ?_;intro v4 w4 ho4 hb4 _;have HO4:=qh (MS ho4 (show gl≤w3.heap.size+1 by omega));have hb4:=((Below.refl w3.heap.size w3).alloc (Nat.le_refl _) (.cells #[.slice (some ⟨b0,0,none⟩) 1 c0] 30)).trans (hb4.mono (Nat.le_succ _));have HB4:=qh hb4;have k4:=(AC HK3.o hb4).cell 0;simp only[List.getElem?_cons_zero] at k4;clear ho4 hb4)|fail);have HB5:=qh ((HB.trans (HB2.mono (by omega))).trans ((HT3.below (B:=gl) (by omega) (by omega)).trans (HB4.mono (by omega))));go_loopw [148] (λv w2=>v=.int .i64 0∧w2=w4) (λ_ _=>0);case atStart=>first|exact⟨rfl,rfl⟩|exact⟨rfl,trivial⟩|simp
       case round=>
        obtain⟨rfl,rfl⟩:=hrel;obtain⟨p4,c4,rfl⟩:∃p4 c4,v4=.slice p4 1 c4:=by
         obtain⟨_,h2⟩:=HO4.o;rcases h2 with⟨hv,hn⟩|⟨g,cap,cur,hv,_⟩
         ·cases hn
         ·exact⟨_,cap,hv⟩
        go_wp2_with fail;go_roundw;case rel=>
         repeat apply Exists.intro
         exact⟨.inr ⟨p4,c4,rfl,HO4.o,HB5.o⟩,rfl⟩
        case measure=>simp[lenOf]
    ·have HO:=qh ho;have HB:=qh hb;clear ho hb;go_wp2_with fail;go_ret;exact⟨_,rfl,hl▸HO.o,hl▸HB.o⟩
theorem LZ{A:Array Obj}{x:Obj}{k:Nat}(h:k=A.size):(A.push x)[k]?=some x:=by rw[Array.getElem?_push,if_pos h]
theorem DU{A:Array Obj}{x:Obj}{k:Nat}(h:k<A.size):(A.push x)[k]?=A[k]?:=by rw[Array.getElem?_push,if_neg (by omega)]
theorem Fj(w:World)(a b c d e:Obj) :(((((w.alloc a).alloc b).alloc c).alloc d).alloc e).drew.heap[w.heap.size]?=some a∧(((((w.alloc a).alloc b).alloc c).alloc d).alloc e).drew.heap[w.heap.size+1]?=some b∧(((((w.alloc a).alloc b).alloc c).alloc d).alloc e).drew.heap[w.heap.size+1+1]?=some c ∧(((((w.alloc a).alloc b).alloc c).alloc d).alloc e).drew.heap[w.heap.size+1+1+1]?=some d∧(((((w.alloc a).alloc b).alloc c).alloc d).alloc e).drew.heap[w.heap.size+1+1+1+1]?=some e∧Below w.heap.size w (((((w.alloc a).alloc b).alloc c).alloc d).alloc e).drew:=by
 have hW:(((((w.alloc a).alloc b).alloc c).alloc d).alloc e).drew.heap=((((w.heap.push a).push b).push c).push d).push e:=rfl;refine⟨?_,?_,?_,?_,?_,⟨rfl,rfl,rfl,?_,λk hk=>?_⟩⟩
 ·rw[hW,DU (by simp<;>omega),DU (by simp<;>omega),DU (by simp<;>omega),DU (by simp),LZ rfl]
 ·rw[hW,DU (by simp<;>omega),DU (by simp<;>omega),DU (by simp),LZ (by simp)]
 ·rw[hW,DU (by simp<;>omega),DU (by simp),LZ (by simp)]
 ·rw[hW,DU (by simp),LZ (by simp)]
 ·rw[hW,LZ (by simp)]
 ·rw[hW];simp;omega
 ·rw[hW,DU (by simp<;>omega),DU (by simp<;>omega),DU (by simp<;>omega),DU (by simp<;>omega),DU hk]
theorem WO(be ce:Nat)(w:World)(he:Holds w be 30 [.slice none 0 0]) :Calls prog 311 #[.slice (some ⟨be,0,none⟩) 1 ce] w λe w'=>∃v b0 c0 L,e=.returned (.tuple #[v,.int .i64 0])∧w'.ownsRow w.heap.size 30 1 v 1 [.slice (some ⟨b0,0,none⟩) 1 c0]∧Holds w' b0 3 (.int .i64 0 :: L)∧w.heap.size≤b0∧1≤c0∧L.length+1=c0∧Below w.heap.size w w':=by
 have HE:=qh he;have HE0:=qh he.lt;have HEw:=qh he;clear he;have hm1:=U6;have hm2:=QZ;have hm3:=Yh;go_in;go_upto_region 4 with(fail);go_cut [5] from 14 to 24 (λx wx=>∃g bi bl bo bp,x=.pointer (some ⟨g,0,none⟩)∧GW wx g bi bl bo bp (.slice (some ⟨be,0,none⟩) 1 ce) (.slice none 0 0) 0 0 0 0 0 false∧XD w.heap.size g bi bl bo bp∧Below w.heap.size w wx);case first=>
  go_region;all_goals
   go_wp2_with fail
   go_meet
  all_goals
   refine⟨_,_,_,_,_,rfl,⟨(Fj w _ _ _ _ _).2.2.2.2.1,?_,?_,?_,?_,?_⟩,?_,(Fj w _ _ _ _ _).2.2.2.2.2⟩
   ·first|exact(Fj w _ _ _ _ _).1|exact(Fj w _ _ _ _ _).2.1|exact(Fj w _ _ _ _ _).2.2.1|exact(Fj w _ _ _ _ _).2.2.2.1
   ·first|exact(Fj w _ _ _ _ _).1|exact(Fj w _ _ _ _ _).2.1|exact(Fj w _ _ _ _ _).2.2.1|exact(Fj w _ _ _ _ _).2.2.2.1
   ·first|exact(Fj w _ _ _ _ _).1|exact(Fj w _ _ _ _ _).2.1|exact(Fj w _ _ _ _ _).2.2.1|exact(Fj w _ _ _ _ _).2.2.2.1
   ·first|exact(Fj w _ _ _ _ _).1|exact(Fj w _ _ _ _ _).2.1|exact(Fj w _ _ _ _ _).2.2.1|exact(Fj w _ _ _ _ _).2.2.2.1
   ·refine⟨?_,?_,?_,?_,?_,?_,?_,?_,?_,?_⟩<;>omega
   ·unfold XD;omega
 case rest=>
  obtain⟨g,bi,bl,bo,bp,rfl,hg,hlo,hb⟩:=hcut;have HG:=qh hg;have HB:=qh hb;have HE:=qh (HE.below hb HE.lt);have HLO:=qh hlo;have hlt:=hg.lt;obtain⟨t1,t2,t3,t4,t5⟩:=hlt;have K1:=qh (λB W h1 h2 h3 h4 h5=>X6 g bi bl bo bp B be ce W h1 h2 h3 h4 h5);have hbe:be<w.heap.size:=HE0.o;clear hg hb hlo;go_wp2_with fail;go_loopw [26] (λv wr=>∃i:Nat,v=.int .i64 (i:Int)∧Below w.heap.size w wr∧((i=0∧GW wr g bi bl bo bp (.slice (some ⟨be,0,none⟩) 1 ce) (.slice none 0 0) 0 0 0 0 0 false)∨(i=1∧∃R,GW wr g bi bl bo bp (.slice (some ⟨be,0,none⟩) 1 ce) R 1 1 1 1 0 false))) (λv _=>1 - (intOf v).toNat);case atStart=>exact⟨0,rfl,HB.o,.inl ⟨rfl,HG.o⟩⟩
  case round=>
   clear HG HB HE;obtain⟨i,rfl,hb,⟨rfl,hg⟩|⟨rfl,R,hg⟩⟩:=hrel
   ·have i0:=hg.hi.cell 0;have m1:=hg.hg.cell 1;simp only[Ia,yA,yB] at i0 m1;have HB:=qh hb;have HG:=qh hg;have HEr:=qh (HEw.below hb hbe);have hsr:=hb.size;clear hb hg;go_wp2_with fail;refine(K1.out w.heap.size _ HG.o HEr.o hbe hsr HLO.o).mono ?_;rintro e w5 ⟨R,rfl,hg5,hb5⟩;have HG5:=qh hg5;have HB5:=qh (HB.trans hb5);clear hg5 hb5 i0 m1;go_wp2_with fail;go_roundw;case rel=>exact⟨1,rfl,HB5.o,.inr ⟨rfl,R,HG5.o⟩⟩
    case measure=>simp[intOf]
   ·have m6:=hg.hg.cell 6;simp only[Ia,yA,yB] at m6;have hal:Below wr.heap.size wr (wr.alloc (.cells #[.slice none 0 0] 30)):=(Below.refl _ _).alloc (Nat.le_refl _) _;have m5:=(hg.below hal).hg.cell 5;simp only[Ia,yA,yB] at m5;have HB:=qh (hb.trans (hal.mono hb.size));have HG:=qh (hg.below hal);have hsr:=hb.size;have HN:=qh (AA wr 30 [.slice none 0 0]);have HNE:=qh (show g≠wr.heap.size∧bi≠wr.heap.size∧bl≠wr.heap.size∧bo≠wr.heap.size∧bp≠wr.heap.size from by have:=hg.lt;omega);clear hb hg hal;go_wp2_with fail;clear m5 m6;generalize wr.alloc (.cells #[.slice none 0 0] 30)=W at HB HG HN ⊢;generalize wr.heap.size=bn at hsr HN HNE ⊢;go_loopw [51] (λv w2=>∃i:Nat,v=.int .i64 (i:Int)∧Below w.heap.size w w2∧GW w2 g bi bl bo bp (.slice (some ⟨be,0,none⟩) 1 ce) R 1 1 1 1 0 false∧((i=0∧Holds w2 bn 30 [.slice none 0 0]∧g≠bn∧bi≠bn∧bl≠bn∧bo≠bn∧bp≠bn)∨(i=1∧∃b0 c0 L,Holds w2 bn 30 [.slice (some ⟨b0,0,none⟩) 1 c0]∧Holds w2 b0 3 (.int .i64 0 :: L)∧w.heap.size≤b0∧1≤c0∧L.length+1=c0))) (λv _=>1 - (intOf v).toNat);case atStart=>exact⟨0,rfl,HB.o,HG.o,.inl ⟨rfl,HN.o,HNE.o⟩⟩
    case round=>
     clear HB HG HN;obtain⟨i,rfl,hb,hg,⟨rfl,hn,q1,q2,q3,q4,q5⟩|⟨rfl,b0,c0,L,hn,hr,hb0,hc0,hLc⟩⟩:=hrel
     ·have HB:=qh hb;have HG:=qh hg;have HN:=qh hn;have p0:=hg.hp.cell 0;have n0:=hn.cell 0;simp only[List.getElem?_cons_zero] at p0 n0;have hsw:=hb.size;have hnl:=hn.lt;clear hb hg hn;go_wp2_with (first|(at_builtin;refine Ak rfl (.tmp 61) (.tmp 63) 30 rfl (wr.heap.size+1) 3 (.int .i64 0) 1 8 rfl (by kernel_rfl) rfl (by decide) _ 0 [] rfl (World.ownsRow_nil _ _ _ _) (some ⟨wr.heap.size,0,none⟩) 1 1 [.int .i64 0] rfl rfl ((AA wr _ _).reads 0 _ (λj v hv=>by simpa using hv)) (by intro h;cases h) (by simp[Value.oneCell']) (by unfold maxLen;omega) (by omega) (by simp) ?_;intro v3 w3 ho3 hb3 _;have hb3:=((Below.refl wr.heap.size wr).alloc (Nat.le_refl _) (.cells #[.int .i64 0] 3)).trans (hb3.mono (Nat.le_succ _));have HO3:=qh ho3;have HB3:=qh hb3;have HG3:=qh (HG.below hb3);have HN3:=qh (AC HN.o hb3);clear ho3 hb3;obtain⟨br,c,L,rfl,hbr,hc1,hLc,hrow⟩:=Oi HO3.o;have HR:=qh hrow;clear hrow)|(refine sC 0 HN3.o (.slice (some ⟨br,0,none⟩) 1 c) ?_;intro w4 hh ht;simp only[List.set_cons_zero] at hh;have HG4:=qh (HG3.touch ht q1 q2 q3 q4 q5);have HN4:=qh hh;have HR4:=qh (HR.touch ht (by omega));have HT:=qh ht;clear hh ht));go_roundw;case rel=>
       repeat apply Exists.intro
       exact⟨⟨1,rfl,(HB.trans (HB3.mono (by omega))).trans (HT.below (by omega) (by have:=HB3.size;omega)),HG4.o,.inr ⟨rfl,br,c,L,HN4.o,HR4.o,by omega,hc1,hLc⟩⟩,rfl⟩
      case measure=>simp[intOf]
     ·have m5:=hg.hg.cell 5;simp only[Ia,yA,yB] at m5;have HB:=qh hb;have HP:=qh hg.hp;have HN:=qh hn;have HR:=qh hr;have HEr:=qh (HEw.below hb hbe);have hsw:=hb.size;clear hb hg hn hr;go_wp2_with fail;refine(WM be ce bp bn b0 c0 _ HEr.o HP.o HN.o).mono ?_;rintro e w5 ⟨v5,rfl,ho5,hb5⟩;have HO5:=qh (MS ho5 hsw);have HR5:=qh (AC HR.o hb5);have HB5:=qh (HB.trans (hb5.mono hsw));clear ho5 hb5 m5;go_wp2_with fail;exact b2 (v:=.tuple #[v5,.int .i64 0]) ⟨v5,b0,c0,L,rfl,HO5.o,HR5.o,hb0,hc0,hLc,HB5.o⟩
def Dy(w:World)(s b:Nat):Prop:=Holds w s 383 [.map (some b)]∧w.ownsMap prog 37 Bz b 0 (.map []:DataW Value)
theorem Dy.below{w w':World}{s b:Nat}(h:Dy w s b)(hb:Below w.heap.size w w'):Dy w' s b:=by obtain⟨h1,h2⟩:=h;have hlt:=h2.lt;obtain⟨es,clock,hm,r⟩:=h2;exact⟨AC h1 hb,es,clock,(hb.block b hlt).trans hm,r⟩
theorem NM(w:World) :Calls prog 273 #[.slice none 0 0] w λe w'=>∃s b,e=.returned (.pointer (some ⟨s,0,none⟩))∧Dy w' s b∧Below w.heap.size w w':=by
 have hmm:=@run_makeMap prog;go_in;go_wp2_with fail;have HN:=qh (show Dy ((w.alloc (.map #[] 0)).alloc (.cells #[.map (some w.heap.size)] 383)) (w.heap.size+1) w.heap.size from⟨by
  have:=AA (w.alloc (.map #[] 0)) 383 [.map (some w.heap.size)];rw[World.size_alloc] at this;exact this,(World.ownsMap_made w prog 37 Bz).alloc _⟩)
 have HB:=qh (show Below w.heap.size w ((w.alloc (.map #[] 0)).alloc (.cells #[.map (some w.heap.size)] 383)) from by
  have h1:Below w.heap.size w (w.alloc (.map #[] 0)):=(Below.refl _ _).alloc (Nat.le_refl _) _;exact h1.alloc h1.size _)
 generalize (w.alloc (.map #[] 0)).alloc (.cells #[.map (some w.heap.size)] 383)=W at HN HB ⊢;go_loopw [11] (λvi wr=>vi=.int .i64 0∧wr=W) (λ_ _=>0);case atStart=>exact⟨rfl,rfl⟩
 case round=>obtain⟨rfl,rfl⟩:=hrel;go_wp2_with fail;go_ret;exact⟨_,_,rfl,HN.o,HB.o⟩
theorem Ls(s b:Nat)(w:World)(h:Dy w s b) :Calls prog 223 #[.pointer (some ⟨s,0,none⟩)] w λe w'=>e=.returned (.slice none 0 0)∧Below w.heap.size w w':=by
 have KS:=qh (λfv W=>Oz none 0 0 fv W (by omega));obtain⟨h1,hown⟩:=h;have m0:=h1.cell 0;simp only[List.getElem?_cons_zero] at m0;clear h1;go_in;go_wp2_with (first|(at_range;refine wpList_range_own _ rfl _ 381 rfl 37 409 DI underlying381 Bz b 0 (.map []) rfl hown ?_;intro w0 hrg0 hg0 hs0)|fail)
 go_frame
 have HB:=qh (show Below w.heap.size w w0 from⟨hg0.os,hg0.tape,hg0.output,hg0.size,λk hk=>hg0.block k hk (by simp)⟩);have HRG:=qh hrg0;clear hrg0 hg0 hs0 hown m0;generalize hR:w.heap.size=R at HRG ⊢;rw[←hR];rw[hR];go_loopw [3] (λvo wr=>vo=.slice none 0 0∧∃(left:Lit→Bool) (cnt:Nat),wr.ranges prog 37 Bz b R 0 (.map []) left cnt∧Below w.heap.size w wr) (λ_ wr=>wr.rangeLeft b R);case atStart=>exact⟨rfl,_,_,HRG.o,HB.o⟩
 case round=>
  clear HRG HB;obtain⟨rfl,left,cnt,hrg,hb⟩:=hrel;have HB:=qh hb;clear hb;go_wp2_with (first|(at_next;refine wpList_next_ranges _ rfl _ rfl 37 DI Bz (λp:Int × Int=>EX p.1 p.2) (λv:Value=>v) (λkey kl hk=>by obtain⟨r,s,rfl,_⟩:=Ii hk;exact⟨(r,s),rfl⟩) (λv y _=>⟨v,rfl⟩) b R 0 (.map []) _ _ rfl hrg ?_ ?_)|fail)
  ·intro hc0 hl0;clear hrg hl0 hc0;go_wp2_with fail;refine AY (KS.o _ _) ?_;rintro w5 hb5;have HB:=qh (AB HB.o hb5);clear hb5;go_wp2_with fail;go_ret;exact⟨rfl,HB.o⟩
  ·intro pr ps cv kl yd yp w1 cnt1 hkey hlk hR2 hat hrg1 hlt hg1 hs1 hen;exfalso;have hy:yd=.held cv:=by unfold Bz at hR2;injection hR2 with hR2;injection hR2 with hR2 _;exact hR2.symm
   rw[hy] at hat;have hh:=Maps.has_true_of_atKey hat;cases hh
theorem Y8[Ae](me:Int)(st:Int)(c:Cm)(sm:Bool)(r:Nat)(w:World)(hr:r<7) :Calls prog 309 #[.agg #[.int .i64 me,.int .i64 1],.agg (AO Ae.b st c sm).toArray,.int .i64 r] w λe w'=>e=.returned (.int .i64 0)∧Below w.heap.size w w':=by
 have hw0:IntKind.i64.wrap 0=0:=by decide
 unfold AO;go_in;go_upto_region 1 with(fail);go_name_world W hW;have HI:=qh (show Holds W w.heap.size 37 [.int .i64 me,.int .i64 1] by rw[←hW];exact Aq (AA w _ _) _);have HC:=qh (show Holds W (w.heap.size+1) 45 (AO Ae.b st c sm) by
  rw[←hW];have:=AA (w.alloc (.cells #[.int .i64 me,.int .i64 1] 37)) 45 (AO Ae.b st c sm);rw[World.size_alloc] at this;exact this)
 have HB:=qh (show Below w.heap.size w W by rw[←hW];go_grown);clear hW;have i0:=HI.cell 0;have i1:=HI.cell 1;have hd:∀k,k<7→W.cell? ⟨w.heap.size+1,13+k,none⟩=some (.int .i64 0):=λk hk=>by rw[HC.cell];rcases(show k=0∨k=1∨k=2∨k=3∨k=4∨k=5∨k=6 by omega) with rfl|rfl|rfl|rfl|rfl|rfl|rfl<;>rfl
 simp only[yA,yB] at i0 i1;rcases(show r=0∨r=1∨r=2∨r=3∨r=4∨r=5∨r=6 by omega) with rfl|rfl|rfl|rfl|rfl|rfl|rfl
 ·have d0:=hd 0 (by omega);clear hd;simp only[Nat.add_zero,Nat.reduceAdd] at d0;by_cases hm:me=0
  ·subst hm;go_wp2_with fail;go_quiet (fail);go_wp2_with fail;go_ret;exact⟨rfl,HB.trans ⟨rfl,rfl,rfl,Nat.le_refl _,λ_ _=>rfl⟩⟩
  ·have hm2:((0:Int)==me)=false:=by simp;omega
   go_wp2_with fail;go_ret;exact⟨rfl,HB.o⟩
 ·have d0:=hd 1 (by omega);clear hd;simp only[Nat.add_zero,Nat.reduceAdd] at d0;by_cases hm:me=1
  ·subst hm;go_wp2_with fail;go_quiet (fail);go_wp2_with fail;go_ret;exact⟨rfl,HB.trans ⟨rfl,rfl,rfl,Nat.le_refl _,λ_ _=>rfl⟩⟩
  ·have hm2:((1:Int)==me)=false:=by simp;omega
   go_wp2_with fail;go_ret;exact⟨rfl,HB.o⟩
 ·have d0:=hd 2 (by omega);clear hd;simp only[Nat.add_zero,Nat.reduceAdd] at d0;by_cases hm:me=2
  ·subst hm;go_wp2_with fail;go_quiet (fail);go_wp2_with fail;go_ret;exact⟨rfl,HB.trans ⟨rfl,rfl,rfl,Nat.le_refl _,λ_ _=>rfl⟩⟩
  ·have hm2:((2:Int)==me)=false:=by simp;omega
   go_wp2_with fail;go_ret;exact⟨rfl,HB.o⟩
 ·have d0:=hd 3 (by omega);clear hd;simp only[Nat.add_zero,Nat.reduceAdd] at d0;by_cases hm:me=3
  ·subst hm;go_wp2_with fail;go_quiet (fail);go_wp2_with fail;go_ret;exact⟨rfl,HB.trans ⟨rfl,rfl,rfl,Nat.le_refl _,λ_ _=>rfl⟩⟩
  ·have hm2:((3:Int)==me)=false:=by simp;omega
   go_wp2_with fail;go_ret;exact⟨rfl,HB.o⟩
 ·have d0:=hd 4 (by omega);clear hd;simp only[Nat.add_zero,Nat.reduceAdd] at d0;by_cases hm:me=4
  ·subst hm;go_wp2_with fail;go_quiet (fail);go_wp2_with fail;go_ret;exact⟨rfl,HB.trans ⟨rfl,rfl,rfl,Nat.le_refl _,λ_ _=>rfl⟩⟩
  ·have hm2:((4:Int)==me)=false:=by simp;omega
   go_wp2_with fail;go_ret;exact⟨rfl,HB.o⟩
 ·have d0:=hd 5 (by omega);clear hd;simp only[Nat.add_zero,Nat.reduceAdd] at d0;by_cases hm:me=5
  ·subst hm;go_wp2_with fail;go_quiet (fail);go_wp2_with fail;go_ret;exact⟨rfl,HB.trans ⟨rfl,rfl,rfl,Nat.le_refl _,λ_ _=>rfl⟩⟩
  ·have hm2:((5:Int)==me)=false:=by simp;omega
   go_wp2_with fail;go_ret;exact⟨rfl,HB.o⟩
 ·have d0:=hd 6 (by omega);clear hd;simp only[Nat.add_zero,Nat.reduceAdd] at d0;by_cases hm:me=6
  ·subst hm;go_wp2_with fail;go_quiet (fail);go_wp2_with fail;go_ret;exact⟨rfl,HB.trans ⟨rfl,rfl,rfl,Nat.le_refl _,λ_ _=>rfl⟩⟩
  ·have hm2:((6:Int)==me)=false:=by simp;omega
   go_wp2_with fail;go_ret;exact⟨rfl,HB.o⟩
end Go.Proofs.YtimdpiifpibgfaaGreatDoor
