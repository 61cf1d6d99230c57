/- For every input the law TopFast returns true (a part of the proof). Condition: the listed variables start as the program's text lays them. -/
import Derived.Deep.OwnRows
import Derived.Test.YtimdpiifpibgfaaGreatDoorQf15
set_option linter.unusedVariables false
set_option linter.unusedSimpArgs false
set_option maxRecDepth 20000
set_option maxHeartbeats 16000000
namespace Go.Proofs.YtimdpiifpibgfaaGreatDoor
section
open Go.RowKit
theorem owns_one {w:World} {base:Nat} {e:TypeId} {v x:Value} (h:w.ownsRow base e 1 v 1 [x]):∃ br c L,v=.slice (some ⟨br,0,none⟩) 1 c∧base≤br∧1≤c∧L.length+1=c∧Holds w br e (x :: L):=by
 obtain⟨_,h⟩:=h
 rcases h with⟨hc,hn⟩|⟨g,cap,cur,hv,hg,hh,hnc,hcm,hcs,htk⟩
 ·cases hn
 obtain⟨c⟩:=cur
 cases c with
 | nil=>simp at htk
 | cons y L=>
  simp at htk
  subst htk
  exact⟨g,cap,L,hv,hg,hnc,by simpa using hcs,hh⟩
abbrev one1 (b:Nat):Value:=.slice (some ⟨b,0,none⟩) 1 1
abbrev walkL (E R:Value) (bi bl bo bp:Nat) (many clock:Int):List Value:=[E,one1 bi,one1 bl,one1 bo,R,one1 bp,.int .i64 many,.int .i64 clock]
structure GW (w:World) (g bi bl bo bp:Nat) (E R:Value) (many clock i l p:Int) (o:Bool):Prop where
 hg:Holds w g 431 (walkL E R bi bl bo bp many clock)
 hi:Holds w bi 3 [.int .i64 i]
 hl:Holds w bl 3 [.int .i64 l]
 ho:Holds w bo 4 [.bool o]
 hp:Holds w bp 3 [.int .i64 p]
 ne:g≠bi∧g≠bl∧g≠bo∧g≠bp∧bi≠bl∧bi≠bo∧bi≠bp∧bl≠bo∧bl≠bp∧bo≠bp
theorem GW.below {w w':World} {g bi bl bo bp:Nat} {E R:Value} {many clock i l p:Int} {o:Bool} (h:GW w g bi bl bo bp E R many clock i l p o) (hb:Below w.heap.size w w'):GW w' g bi bl bo bp E R many clock i l p o:=
 ⟨holds_bel h.hg hb,holds_bel h.hi hb,holds_bel h.hl hb,holds_bel h.ho hb,holds_bel h.hp hb,h.ne⟩
theorem GW.set_g {w w':World} {g bi bl bo bp:Nat} {E R E' R':Value} {many clock i l p many' clock':Int} {o:Bool} (h:GW w g bi bl bo bp E R many clock i l p o) (hh:Holds w' g 431 (walkL E' R' bi bl bo bp many' clock')) (ht:Touch g w w'):GW w' g bi bl bo bp E' R' many' clock' i l p o:=by
 have:=h.ne
 exact⟨hh,h.hi.touch ht (by omega),h.hl.touch ht (by omega),h.ho.touch ht (by omega),h.hp.touch ht (by omega),h.ne⟩
theorem GW.set_i {w w':World} {g bi bl bo bp:Nat} {E R:Value} {many clock i l p i':Int} {o:Bool} (h:GW w g bi bl bo bp E R many clock i l p o) (hh:Holds w' bi 3 [.int .i64 i']) (ht:Touch bi w w'):GW w' g bi bl bo bp E R many clock i' l p o:=by
 have:=h.ne
 exact⟨h.hg.touch ht (by omega),hh,h.hl.touch ht (by omega),h.ho.touch ht (by omega),h.hp.touch ht (by omega),h.ne⟩
theorem GW.set_l {w w':World} {g bi bl bo bp:Nat} {E R:Value} {many clock i l p l':Int} {o:Bool} (h:GW w g bi bl bo bp E R many clock i l p o) (hh:Holds w' bl 3 [.int .i64 l']) (ht:Touch bl w w'):GW w' g bi bl bo bp E R many clock i l' p o:=by
 have:=h.ne
 exact⟨h.hg.touch ht (by omega),h.hi.touch ht (by omega),hh,h.ho.touch ht (by omega),h.hp.touch ht (by omega),h.ne⟩
theorem GW.set_o {w w':World} {g bi bl bo bp:Nat} {E R:Value} {many clock i l p:Int} {o o':Bool} (h:GW w g bi bl bo bp E R many clock i l p o) (hh:Holds w' bo 4 [.bool o']) (ht:Touch bo w w'):GW w' g bi bl bo bp E R many clock i l p o':=by
 have:=h.ne
 exact⟨h.hg.touch ht (by omega),h.hi.touch ht (by omega),h.hl.touch ht (by omega),hh,h.hp.touch ht (by omega),h.ne⟩
theorem GW.set_p {w w':World} {g bi bl bo bp:Nat} {E R:Value} {many clock i l p p':Int} {o:Bool} (h:GW w g bi bl bo bp E R many clock i l p o) (hh:Holds w' bp 3 [.int .i64 p']) (ht:Touch bp w w'):GW w' g bi bl bo bp E R many clock i l p' o:=by
 have:=h.ne
 exact⟨h.hg.touch ht (by omega),h.hi.touch ht (by omega),h.hl.touch ht (by omega),h.ho.touch ht (by omega),hh,h.ne⟩
theorem GW.touch {w w':World} {g bi bl bo bp k:Nat} {E R:Value} {many clock i l p:Int} {o:Bool} (h:GW w g bi bl bo bp E R many clock i l p o) (ht:Touch k w w') (h1:g≠k) (h2:bi≠k) (h3:bl≠k) (h4:bo≠k) (h5:bp≠k):GW w' g bi bl bo bp E R many clock i l p o:=
 ⟨h.hg.touch ht h1,h.hi.touch ht h2,h.hl.touch ht h3,h.ho.touch ht h4,h.hp.touch ht h5,h.ne⟩
theorem GW.lt {w:World} {g bi bl bo bp:Nat} {E R:Value} {many clock i l p:Int} {o:Bool} (h:GW w g bi bl bo bp E R many clock i l p o):g<w.heap.size∧bi<w.heap.size∧bl<w.heap.size∧bo<w.heap.size∧bp<w.heap.size:=⟨h.hg.lt,h.hi.lt,h.hl.lt,h.ho.lt,h.hp.lt⟩
def GWlo (B g bi bl bo bp:Nat):Prop:=B≤g∧B≤bi∧B≤bl∧B≤bo∧B≤bp
theorem come_one (g bi bl bo bp B:Nat) (E:Value) (w:World) (h:GW w g bi bl bo bp E (.slice none 0 0) 0 0 0 0 0 false) (hB:B≤w.heap.size) (hlo:GWlo B g bi bl bo bp) :
  Calls Tryz.prog 344 #[.pointer (some ⟨g,0,none⟩),.int .i64 0] w fun e w'=>∃ br c L,e=.returned (.agg #[.int .i64 0,.int .i64 0])∧GW w' g bi bl bo bp E (.slice (some ⟨br,0,none⟩) 1 c) 0 1 1 1 0 true∧Holds w' br 3 (.int .i64 0 :: L)∧w.heap.size≤br∧1≤c∧L.length+1=c∧Below B w w':=by
 obtain⟨l1,l2,l3,l4,l5⟩:=hlo
 have HG:=qh h
 obtain⟨t1,t2,t3,t4,t5⟩:=h.lt
 clear h
 have m7:=HG.out.hg.cell 7
 simp only [walkL,yA,yB] at m7
 go_enter Tryz.func344,Tryz.ntmps344
 go_upto_region 1 with (fail)
 go_name_world W hW
 have hS:Holds W w.heap.size 446 [.int .i64 0,.int .i64 0]:=by rw [← hW];exact holds_alloc w _ _
 have HB:=qh (show Below w.heap.size w W by rw [← hW];go_grown)
 have HS:=qh hS;clear hS hW m7
 have HG:=qh (HG.out.below HB.out)
 have m7:=HG.out.hg.cell 7
 simp only [walkL,yA,yB] at m7
 have HB:=qh (HB.out.mono hB)
 have hs:w.heap.size+1≤W.heap.size:=HS.out.lt
 generalize hgs:w.heap.size=gs at HS ⊢
 go_wp2_with (first
  | (refine wpList_store_cell rfl 3 (.tmp 11) (.tmp 9) rfl rfl g 7 431 _ HG.out.hg (by simp) rfl (.int .i64 1) rfl rfl (by kernel_rfl) rfl ?_;intro w1 hh ht))
 simp only [walkL,List.set_cons_zero,List.set_cons_succ] at hh
 have HB:=qh (HB.out.trans (ht.below l1 (by have:=HB.out.size;omega)))
 have HG:=qh (HG.out.set_g hh ht)
 have HS:=qh (HS.out.touch ht (by omega))
 have hs:=Nat.le_trans hs ht.size
 clear hh ht m7
 have HG:=qh (HG.out.below (t_drew _ _))
 have HB:=qh (HB.out.trans (t_drew _ _))
 have HS:=qh (show Holds w1.drew gs 446 _ from HS.out)
 have hs:w.heap.size+1≤w1.drew.heap.size:=hs
 refine wp_region_noPanic ?_
 refine wp_region_late (S:=fun W'=>Holds W' g 431 (walkL E (.slice none 0 0) bi bl bo bp 0 1)) (X0:=[]) (by as_aux_lemma=>kernel_rfl) ?_
 generalize w1.drew=wd at HG HB HS hs ⊢
 have hSn:=HG.out.hg
 change wpAnyL _ _ _ _ _ _ 29 #[false,false,false,false,false,false,false,false,false,false,false,false,false,false,false,false,false,false,false,false,false,false,false,false,false,false,false,false,false] _ _
 refine mvA 0 (some 12) (fun _=>hSn) ?_
 simp only [Act.put,zA,zB,zC]
 refine mvA 1 (some 13) (fun _=>hSn) ?_
 simp only [Act.put,zA,zB,zC]
 refine mvA 2 (some 14) (fun _=>hSn) ?_
 simp only [Act.put,zA,zB,zC]
 refine tkA 3 [] (some 15) (?vg4) rfl (Or.inl ⟨by rfl,?hg4⟩) hSn ?rg4
 case hg4=>
  intro w hSw
  have m0:=hSw.cell 1
  simp only [walkL,yA,yB] at m0
  go_simp
  try with_reducible rfl
 simp only [Act.put,zA,zB,zC]
 refine mvA 4 (some 16) (fun _=>hSn) ?_
 simp only [Act.put,zA,zB,zC]
 refine mvA 5 (some 17) (fun _=>hSn) ?_
 simp only [Act.put,zA,zB,zC]
 refine mvA 6 (some 18) (fun _=>hSn) ?_
 simp only [Act.put,zA,zB,zC]
 refine mvA 7 (some 19) (fun _=>hSn) ?_
 simp only [Act.put,zA,zB,zC]
 refine tkA 8 [] (some 20) (?vg9) rfl (Or.inl ⟨by rfl,?hg9⟩) hSn ?rg9
 case hg9=>
  intro w hSw
  have m0:=hSw.cell 2
  simp only [walkL,yA,yB] at m0
  go_simp
  try with_reducible rfl
 simp only [Act.put,zA,zB,zC]
 refine mvA 9 (some 21) (fun _=>hSn) ?_
 simp only [Act.put,zA,zB,zC]
 refine mvA 10 (some 22) (fun _=>hSn) ?_
 simp only [Act.put,zA,zB,zC]
 refine mvA 11 (some 23) (fun _=>hSn) ?_
 simp only [Act.put,zA,zB,zC]
 refine mvA 12 (some 24) (fun _=>hSn) ?_
 simp only [Act.put,zA,zB,zC]
 refine tkA 13 [] (some 25) (?vg14) rfl (Or.inl ⟨by rfl,?hg14⟩) hSn ?rg14
 case hg14=>
  intro w hSw
  have m0:=hSw.cell 3
  simp only [walkL,yA,yB] at m0
  go_simp
  try with_reducible rfl
 simp only [Act.put,zA,zB,zC]
 refine mvA 14 (some 26) (fun _=>hSn) ?_
 simp only [Act.put,zA,zB,zC]
 refine mvA 15 (some 27) (fun _=>hSn) ?_
 simp only [Act.put,zA,zB,zC]
 refine mvA 16 (some 28) (fun _=>hSn) ?_
 simp only [Act.put,zA,zB,zC]
 refine mvA 17 (some 29) (fun _=>hSn) ?_
 simp only [Act.put,zA,zB,zC]
 refine tkA 18 [] (some 30) (?vg19) rfl (Or.inl ⟨by rfl,?hg19⟩) hSn ?rg19
 case hg19=>
  intro w hSw
  have m0:=hSw.cell 7
  simp only [walkL,yA,yB] at m0
  go_simp
  try with_reducible rfl
 simp only [Act.put,zA,zB,zC]
 refine mvA 19 (some 31) (fun _=>hSn) ?_
 simp only [Act.put,zA,zB,zC]
 refine mvA 20 (some 32) (fun _=>hSn) ?_
 simp only [Act.put,zA,zB,zC]
 refine mvA 21 (some 33) (fun _=>hSn) ?_
 simp only [Act.put,zA,zB,zC]
 refine tkA 22 [] (some 34) (?vg23) rfl (Or.inl ⟨by rfl,?hg23⟩) hSn ?rg23
 case hg23=>
  intro w hSw
  have m0:=hSw.cell 7
  simp only [walkL,yA,yB] at m0
  go_simp
  try with_reducible rfl
 simp only [Act.put,zA,zB,zC]
 refine mvA 23 (some 35) (fun _=>hSn) ?_
 simp only [Act.put,zA,zB,zC]
 refine rd1 24 rfl (fun K hK=>?_)
 refine step_store_cell rfl 3 (.tmp 35) (.tmp 30) rfl rfl bi 0 3 _ HG.out.hi (by simp) rfl (.int .i64 1) rfl rfl (by kernel_rfl) rfl ?_
 intro wa hh ht
 simp only [List.set_cons_zero] at hh
 have HB:=qh (HB.out.trans (ht.below l2 (by have:=HB.out.size;omega)))
 have HG:=qh (HG.out.set_i hh ht)
 have HS:=qh (HS.out.touch ht (by omega))
 have hs:=Nat.le_trans hs ht.size
 clear hh ht hSn
 have hSn:=HG.out.hg
 refine hK.out _ _ (fun _=>hSn) ?_
 clear hK
 try simp only [Act.put,zA,zB,zC]
 refine mvA 25 (some 36) (fun _=>hSn) ?_
 simp only [Act.put,zA,zB,zC]
 refine rd1 26 rfl (fun K hK=>?_)
 refine step_store_cell rfl 3 (.tmp 36) (.tmp 34) rfl rfl bl 0 3 _ HG.out.hl (by simp) rfl (.int .i64 1) rfl rfl (by kernel_rfl) rfl ?_
 intro wa hh ht
 simp only [List.set_cons_zero] at hh
 have HB:=qh (HB.out.trans (ht.below l3 (by have:=HB.out.size;omega)))
 have HG:=qh (HG.out.set_l hh ht)
 have HS:=qh (HS.out.touch ht (by omega))
 have hs:=Nat.le_trans hs ht.size
 clear hh ht hSn
 have hSn:=HG.out.hg
 refine hK.out _ _ (fun _=>hSn) ?_
 clear hK
 try simp only [Act.put,zA,zB,zC]
 refine mvA 27 (some 37) (fun _=>hSn) ?_
 simp only [Act.put,zA,zB,zC]
 refine rd1 28 rfl (fun K hK=>?_)
 refine step_store_cell rfl 4 (.tmp 37) (.const (.bool true)) rfl rfl bo 0 4 _ HG.out.ho (by simp) rfl (.bool true) rfl rfl (by kernel_rfl) rfl ?_
 intro wa hh ht
 simp only [List.set_cons_zero] at hh
 have HB:=qh (HB.out.trans (ht.below l4 (by have:=HB.out.size;omega)))
 have HG:=qh (HG.out.set_o hh ht)
 have HS:=qh (HS.out.touch ht (by omega))
 have hs:=Nat.le_trans hs ht.size
 clear hh ht hSn
 have hSn:=HG.out.hg
 refine hK.out _ _ (fun _=>hSn) ?_
 clear hK
 try simp only [Act.put,zA,zB,zC]
 refine dnA (NoPanic.normal ?_)
 have m4:=HG.out.hg.cell 4
 simp only [walkL,yA,yB] at m4
 clear hSn
 go_wp2_with (first
  | (at_builtin;refine wpList_append_cells rfl (.tmp 42) (.tmp 44) 30 rfl (wa.heap.size+1) 3 (.int .i64 0) 1 8 rfl (by kernel_rfl) rfl (by decide) _ 0 [] rfl (World.ownsRow_nil _ _ _ _) (some ⟨wa.heap.size,0,none⟩) 1 1 [.int .i64 0] rfl rfl ((holds_alloc wa _ _).reads 0 _ (fun j v hv=>by simpa using hv)) (by intro h;cases h) (by simp [Value.oneCell']) (by unfold maxLen;omega) (by omega) (by simp) ?_;intro v3 w3 ho3 hb3 _;have hb3:=((Below.refl wa.heap.size wa).alloc (Nat.le_refl _) (.cells #[.int .i64 0] 3)).trans (hb3.mono (Nat.le_succ _));have HO3:=qh ho3;have HB3:=qh hb3;have HG3:=qh (HG.out.below hb3);clear ho3 hb3;obtain⟨br,c,L,rfl,hbr,hc1,hLc,hrow⟩:=owns_one HO3.out;have HR:=qh hrow;clear hrow)
  | (refine wpList_store_cell rfl 30 (.tmp 47) (.tmp 45) rfl rfl g 4 431 _ HG3.out.hg (by simp) rfl (.slice (some ⟨br,0,none⟩) 1 c) rfl rfl (by kernel_rfl) rfl ?_;intro w4 hh ht;simp only [walkL,List.set_cons_zero,List.set_cons_succ] at hh;have HG4:=qh (HG3.out.set_g hh ht);have HS4:=qh ((holds_bel HS.out HB3.out).touch ht (by omega));have HR4:=qh (HR.out.touch ht (by omega));have HT:=qh ht;clear hh ht)
  | (refine wpList_store_whole rfl 446 (.tmp 4) (.tmp 49) gs [.int .i64 0,.int .i64 0] [.int .i64 0,.int .i64 0] rfl rfl rfl rfl HS4.out (by kernel_rfl) rfl (by simp [Value.oneCell']) ?_;intro w5 hh ht;have HG5:=qh (HG4.out.touch ht (by omega) (by omega) (by omega) (by omega) (by omega));have HR5:=qh (HR4.out.touch ht (by omega));have HT5:=qh ht;clear ht))
 refine bodyPost_ret (v:=.agg #[.int .i64 0,.int .i64 0]) (results_cell Tryz.results344 _ _ gs [.int .i64 0,.int .i64 0] _ rfl hh.range0 Tryz.underlying446 rfl (by kernel_rfl)) rfl ?_
 refine⟨br,c,L,rfl,HG5.out,HR5.out,by omega,hc1,hLc,?_⟩
 have h1:=HB.out.size
 have h3:=HB3.out.size
 have h4:=HT.out.size
 exact ((HB.out.trans (HB3.out.mono (by omega))).trans (HT.out.below l1 (by omega))).trans (HT5.out.below (by omega) (by omega))
theorem gleave_one (g bi bl bo bp B br c:Nat) (L:List Value) (E:Value) (w:World) (h:GW w g bi bl bo bp E (.slice (some ⟨br,0,none⟩) 1 c) 0 1 1 1 0 true) (hr:Holds w br 3 (.int .i64 0 :: L)) (hbr:br≠g∧br≠bo∧br≠bp) (hc:1≤c) (hB:B≤w.heap.size) (hlo:GWlo B g bi bl bo bp) :
  Calls Tryz.prog 345 #[.pointer (some ⟨g,0,none⟩),.int .i64 0] w fun e w'=>e=.returned (.tuple #[])∧GW w' g bi bl bo bp E (.slice (some ⟨br,0,none⟩) 0 c) 1 1 1 1 0 false∧Below B w w':=by
 obtain⟨l1,l2,l3,l4,l5⟩:=hlo
 have HG:=qh h
 have HR:=qh hr
 obtain⟨t1,t2,t3,t4,t5⟩:=h.lt
 obtain⟨n1,n2,n3⟩:=hbr
 clear h hr
 go_enter Tryz.func345,Tryz.ntmps345
 go_upto_region 0 with (fail)
 refine wp_region_noPanic ?_
 refine wp_region_late (S:=fun W'=>GW W' g bi bl bo bp E (.slice (some ⟨br,0,none⟩) 1 c) 0 1 1 1 0 true) (X0:=[]) (by as_aux_lemma=>kernel_rfl) ?_
 have HG:=qh (HG.out.below (t_drew _ _))
 have HR:=qh (show Holds w.drew br 3 _ from HR.out)
 have HB:=qh (show Below B w w.drew from t_drew _ _)
 generalize w.drew=wd at HG HR HB ⊢
 have hSn:=HG.out
 change wpAnyL _ _ _ _ _ _ 15 #[false,false,false,false,false,false,false,false,false,false,false,false,false,false,false] _ _
 refine mvA 0 (some 5) (fun _=>hSn) ?_
 simp only [Act.put,zA,zB,zC]
 refine mvA 1 (some 6) (fun _=>hSn) ?_
 simp only [Act.put,zA,zB,zC]
 refine mvA 2 (some 7) (fun _=>hSn) ?_
 simp only [Act.put,zA,zB,zC]
 refine tkA 3 [] (some 8) (?vg30) rfl (Or.inl ⟨by rfl,?hg30⟩) hSn ?rg30
 case hg30=>
  intro w hSw
  have m2:=hSw.hg.cell 2
  simp only [walkL,yA,yB] at m2
  go_simp
  try with_reducible rfl
 simp only [Act.put,zA,zB,zC]
 refine mvA 4 (some 9) (fun _=>hSn) ?_
 simp only [Act.put,zA,zB,zC]
 refine mvA 5 (some 10) (fun _=>hSn) ?_
 simp only [Act.put,zA,zB,zC]
 refine tkA 6 [] (some 11) (?vg33) rfl (Or.inl ⟨by rfl,?hg33⟩) hSn ?rg33
 case hg33=>
  intro w hSw
  have m0:=hSw.hl.cell 0
  simp only [walkL,yA,yB] at m0
  go_simp
  try with_reducible rfl
 simp only [Act.put,zA,zB,zC]
 refine mvA 7 (some 12) (fun _=>hSn) ?_
 simp only [Act.put,zA,zB,zC]
 refine mvA 8 (some 13) (fun _=>hSn) ?_
 simp only [Act.put,zA,zB,zC]
 refine mvA 9 (some 14) (fun _=>hSn) ?_
 simp only [Act.put,zA,zB,zC]
 refine tkA 10 [] (some 15) (?vg37) rfl (Or.inl ⟨by rfl,?hg37⟩) hSn ?rg37
 case hg37=>
  intro w hSw
  have m1:=hSw.hg.cell 1
  simp only [walkL,yA,yB] at m1
  go_simp
  try with_reducible rfl
 simp only [Act.put,zA,zB,zC]
 refine mvA 11 (some 16) (fun _=>hSn) ?_
 simp only [Act.put,zA,zB,zC]
 refine mvA 12 (some 17) (fun _=>hSn) ?_
 simp only [Act.put,zA,zB,zC]
 refine tkA 13 [] (some 18) (?vg40) rfl (Or.inl ⟨by rfl,?hg40⟩) hSn ?rg40
 case hg40=>
  intro w hSw
  have m0:=hSw.hi.cell 0
  simp only [walkL,yA,yB] at m0
  go_simp
  try with_reducible rfl
 simp only [Act.put,zA,zB,zC]
 refine mvA 14 (some 19) (fun _=>hSn) ?_
 simp only [Act.put,zA,zB,zC]
 refine dnA (NoPanic.normal ?_)
 clear hSn
 go_wp2
 go_loopw [4] (fun v4 wr=>v4=undef∧wr=wd) (fun _ _=>0)
 case atStart=>exact⟨rfl,rfl⟩
 case round=>
  obtain⟨rfl,rfl⟩:=hrel
  go_upto_region 1 with (fail)
  have hw0:IntKind.i64.wrap 0=0:=by decide
  refine wp_region_noPanic ?_
  refine wp_region_late (S:=fun W'=>GW W' g bi bl bo bp E (.slice (some ⟨br,0,none⟩) 1 c) 0 1 1 1 0 true∧Holds W' br 3 (.int .i64 0 :: L)) (X0:=[]) (by as_aux_lemma=>kernel_rfl) ?_
  have HG:=qh (HG.out.below (t_drew _ _))
  have HR:=qh (show Holds wr.drew br 3 _ from HR.out)
  have HB:=qh (HB.out.trans (t_drew _ _))
  generalize wr.drew=wd at HG HR HB ⊢
  have hSn:=And.intro HG.out HR.out
  change wpAnyL _ _ _ _ _ _ 13 #[false,false,false,false,false,false,false,false,false,false,false,false,false] _ _
  refine mvA 0 (some 20) (fun _=>hSn) ?_
  simp only [Act.put,zA,zB,zC]
  refine mvA 1 (some 21) (fun _=>hSn) ?_
  simp only [Act.put,zA,zB,zC]
  refine mvA 2 (some 22) (fun _=>hSn) ?_
  simp only [Act.put,zA,zB,zC]
  refine tkA 3 [] (some 23) (?vg45) rfl (Or.inl ⟨by rfl,?hg45⟩) hSn ?rg45
  case hg45=>
   intro w hSw
   have m4:=hSw.1.hg.cell 4
   simp only [walkL,yA,yB] at m4
   go_simp
   try with_reducible rfl
  simp only [Act.put,zA,zB,zC]
  refine mvA 4 (some 24) (fun _=>hSn) ?_
  simp only [Act.put,zA,zB,zC]
  refine mvA 5 (some 25) (fun _=>hSn) ?_
  simp only [Act.put,zA,zB,zC]
  refine mvA 6 (some 26) (fun _=>hSn) ?_
  simp only [Act.put,zA,zB,zC]
  refine tkA 7 [] (some 27) (?vg49) rfl (Or.inl ⟨by rfl,?hg49⟩) hSn ?rg49
  case hg49=>
   intro w hSw
   have m4:=hSw.1.hg.cell 4
   simp only [walkL,yA,yB] at m4
   go_simp
   try with_reducible rfl
  simp only [Act.put,zA,zB,zC]
  refine mvA 8 (some 28) (fun _=>hSn) ?_
  simp only [Act.put,zA,zB,zC]
  refine mvA 9 (some 29) (fun _=>hSn) ?_
  simp only [Act.put,zA,zB,zC]
  refine mvA 10 (some 30) (fun _=>hSn) ?_
  simp only [Act.put,zA,zB,zC]
  refine tkA 11 [] (some 31) (?vg53) rfl (Or.inl ⟨by rfl,?hg53⟩) hSn ?rg53
  case hg53=>
   intro w hSw
   have r0:=hSw.2.cell 0
   simp only [List.getElem?_cons_zero] at r0
   go_simp
   try with_reducible rfl
  simp only [Act.put,zA,zB,zC]
  refine mvA 12 (some 4) (fun _=>hSn) ?_
  simp only [Act.put,zA,zB,zC]
  refine dnA (NoPanic.normal ?_)
  clear hSn
  go_upto_region 2 with (fail)
  refine wp_region_noPanic ?_
  refine wp_region_late (S:=fun W'=>GW W' g bi bl bo bp E (.slice (some ⟨br,0,none⟩) 1 c) 0 1 1 1 0 true∧Holds W' br 3 (.int .i64 0 :: L)) (X0:=[14]) (by as_aux_lemma=>kernel_rfl) ?_
  have HG:=qh (HG.out.below (t_drew _ _))
  have HR:=qh (show Holds wd.drew br 3 _ from HR.out)
  have HB:=qh (HB.out.trans (t_drew _ _))
  generalize wd.drew=wd at HG HR HB ⊢
  have hSn:=And.intro HG.out HR.out
  change wpAnyL _ _ _ _ _ _ 15 #[false,false,false,false,false,false,false,false,false,false,false,false,false,false,false] _ _
  refine mvA 0 (some 32) (fun _=>hSn) ?_
  simp only [Act.put,zA,zB,zC]
  refine mvA 1 (some 33) (fun _=>hSn) ?_
  simp only [Act.put,zA,zB,zC]
  refine mvA 2 (some 34) (fun _=>hSn) ?_
  simp only [Act.put,zA,zB,zC]
  refine mvA 3 (some 35) (fun _=>hSn) ?_
  simp only [Act.put,zA,zB,zC]
  refine tkA 4 [11,12,13,14] (some 36) (?vg59) rfl (Or.inl ⟨by rfl,?hg59⟩) hSn ?rg59
  case hg59=>
   intro w hSw
   have m4:=hSw.1.hg.cell 4
   simp only [walkL,yA,yB] at m4
   go_simp
   try with_reducible rfl
  simp only [Act.put,zA,zB,zC]
  refine mvA 5 (some 37) (fun _=>hSn) ?_
  simp only [Act.put,zA,zB,zC]
  refine mvA 6 (some 38) (fun _=>hSn) ?_
  simp only [Act.put,zA,zB,zC]
  refine mvA 7 (some 39) (fun _=>hSn) ?_
  simp only [Act.put,zA,zB,zC]
  refine tkA 8 [9,10,11,12,13,14] (some 40) (?vg63) rfl (Or.inl ⟨by rfl,?hg63⟩) hSn ?rg63
  case hg63=>
   intro w hSw
   have m4:=hSw.1.hg.cell 4
   simp only [walkL,yA,yB] at m4
   go_simp
   try with_reducible rfl
  simp only [Act.put,zA,zB,zC]
  refine mvA 9 (some 41) (fun _=>hSn) ?_
  simp only [Act.put,zA,zB,zC]
  refine mvA 10 (some 42) (fun _=>hSn) ?_
  simp only [Act.put,zA,zB,zC]
  refine mvA 11 (some 43) (fun _=>hSn) ?_
  simp only [Act.put,zA,zB,zC]
  refine mvA 12 (some 44) (fun _=>hSn) ?_
  simp only [Act.put,zA,zB,zC]
  refine mvA 13 (some 45) (fun _=>hSn) ?_
  simp only [Act.put,zA,zB,zC]
  refine rd1 14 rfl (fun K hK=>?_)
  refine step_store_cell rfl 30 (.tmp 45) (.tmp 43) rfl rfl g 4 431 _ HG.out.hg (by simp) rfl (.slice (some ⟨br,0,none⟩) 0 c) rfl rfl (by kernel_rfl) rfl ?_
  intro wa hh ht
  simp only [walkL,List.set_cons_zero,List.set_cons_succ] at hh
  have HB:=qh (HB.out.trans (ht.below l1 (by have:=HB.out.size;omega)))
  have HG:=qh (HG.out.set_g hh ht)
  have HR:=qh (HR.out.touch ht n1)
  clear hh ht hSn
  have hSn:=And.intro HG.out HR.out
  refine hK.out _ _ nlA ?_
  clear hK
  try simp only [Act.put,zA,zB,zC]
  refine dnA (NoPanic.normal ?_)
  clear hSn
  go_upto_region 3 with (fail)
  refine wp_region_noPanic ?_
  refine wp_region_late (S:=fun W'=>Holds W' g 431 (walkL E (.slice (some ⟨br,0,none⟩) 0 c) bi bl bo bp 0 1)) (X0:=[]) (by as_aux_lemma=>kernel_rfl) ?_
  have HG:=qh (HG.out.below (t_drew _ _))
  have HB:=qh (HB.out.trans (t_drew _ _))
  generalize wa.drew=wd at HG HB ⊢
  have hSn:=HG.out.hg
  change wpAnyL _ _ _ _ _ _ 18 #[false,false,false,false,false,false,false,false,false,false,false,false,false,false,false,false,false,false] _ _
  refine mvA 0 (some 46) (fun _=>hSn) ?_
  simp only [Act.put,zA,zB,zC]
  refine mvA 1 (some 47) (fun _=>hSn) ?_
  simp only [Act.put,zA,zB,zC]
  refine mvA 2 (some 48) (fun _=>hSn) ?_
  simp only [Act.put,zA,zB,zC]
  refine tkA 3 [] (some 49) (?vg72) rfl (Or.inl ⟨by rfl,?hg72⟩) hSn ?rg72
  case hg72=>
   intro w hSw
   have m0:=hSw.cell 3
   simp only [walkL,yA,yB] at m0
   go_simp
   try with_reducible rfl
  simp only [Act.put,zA,zB,zC]
  refine mvA 4 (some 50) (fun _=>hSn) ?_
  simp only [Act.put,zA,zB,zC]
  refine mvA 5 (some 51) (fun _=>hSn) ?_
  simp only [Act.put,zA,zB,zC]
  refine mvA 6 (some 52) (fun _=>hSn) ?_
  simp only [Act.put,zA,zB,zC]
  refine mvA 7 (some 53) (fun _=>hSn) ?_
  simp only [Act.put,zA,zB,zC]
  refine tkA 8 [] (some 54) (?vg77) rfl (Or.inl ⟨by rfl,?hg77⟩) hSn ?rg77
  case hg77=>
   intro w hSw
   have m0:=hSw.cell 5
   simp only [walkL,yA,yB] at m0
   go_simp
   try with_reducible rfl
  simp only [Act.put,zA,zB,zC]
  refine mvA 9 (some 55) (fun _=>hSn) ?_
  simp only [Act.put,zA,zB,zC]
  refine mvA 10 (some 56) (fun _=>hSn) ?_
  simp only [Act.put,zA,zB,zC]
  refine mvA 11 (some 57) (fun _=>hSn) ?_
  simp only [Act.put,zA,zB,zC]
  refine mvA 12 (some 58) (fun _=>hSn) ?_
  simp only [Act.put,zA,zB,zC]
  refine tkA 13 [] (some 59) (?vg82) rfl (Or.inl ⟨by rfl,?hg82⟩) hSn ?rg82
  case hg82=>
   intro w hSw
   have m0:=hSw.cell 6
   simp only [walkL,yA,yB] at m0
   go_simp
   try with_reducible rfl
  simp only [Act.put,zA,zB,zC]
  refine mvA 14 (some 60) (fun _=>hSn) ?_
  simp only [Act.put,zA,zB,zC]
  refine rd1 15 rfl (fun K hK=>?_)
  refine step_store_cell rfl 4 (.tmp 60) (.const (.bool false)) rfl rfl bo 0 4 _ HG.out.ho (by simp) rfl (.bool false) rfl rfl (by kernel_rfl) rfl ?_
  intro wa hh ht
  simp only [List.set_cons_zero] at hh
  have HB:=qh (HB.out.trans (ht.below l4 (by have:=HB.out.size;omega)))
  have HG:=qh (HG.out.set_o hh ht)
  clear hh ht hSn
  have hSn:=HG.out.hg
  refine hK.out _ _ (fun _=>hSn) ?_
  clear hK
  try simp only [Act.put,zA,zB,zC]
  refine mvA 16 (some 61) (fun _=>hSn) ?_
  simp only [Act.put,zA,zB,zC]
  refine rd1 17 rfl (fun K hK=>?_)
  refine step_store_cell rfl 3 (.tmp 61) (.tmp 59) rfl rfl bp 0 3 _ HG.out.hp (by simp) rfl (.int .i64 0) rfl rfl (by kernel_rfl) rfl ?_
  intro wa hh ht
  simp only [List.set_cons_zero] at hh
  have HB:=qh (HB.out.trans (ht.below l5 (by have:=HB.out.size;omega)))
  have HG:=qh (HG.out.set_p hh ht)
  clear hh ht hSn
  have hSn:=HG.out.hg
  refine hK.out _ _ (fun _=>hSn) ?_
  clear hK
  try simp only [Act.put,zA,zB,zC]
  refine dnA (NoPanic.normal ?_)
  clear hSn
  have m6:=HG.out.hg.cell 6
  simp only [walkL,yA,yB] at m6
  go_wp2_with (first
   | (refine wpList_store_cell rfl 3 (.tmp 71) (.tmp 69) rfl rfl g 6 431 _ HG.out.hg (by simp) rfl (.int .i64 1) rfl rfl (by kernel_rfl) rfl ?_;intro wb hh ht))
  simp only [walkL,List.set_cons_zero,List.set_cons_succ] at hh
  exact bodyPost_end (v:=.tuple #[]) (by simp [results,Tryz.results345,go_sem]) rfl ⟨rfl,HG.out.set_g hh ht,HB.out.trans (ht.below l1 (by have:=HB.out.size;omega))⟩
end
section
open Go.RowKit
theorem from_one (g bi bl bo bp B be ce:Nat) (w:World) (h:GW w g bi bl bo bp (.slice (some ⟨be,0,none⟩) 1 ce) (.slice none 0 0) 0 0 0 0 0 false) (he:Holds w be 30 [.slice none 0 0]) (hbe:be<B) (hB:B≤w.heap.size) (hlo:GWlo B g bi bl bo bp) :
  Calls Tryz.prog 329 #[.pointer (some ⟨g,0,none⟩),.int .i64 0] w fun e w'=>∃ R,e=.returned (.tuple #[])∧GW w' g bi bl bo bp (.slice (some ⟨be,0,none⟩) 1 ce) R 1 1 1 1 0 false∧Below B w w':=by
 obtain⟨l1,l2,l3,l4,l5⟩:=id hlo
 have HG:=qh h
 have HE:=qh he;have he0:=qh (he)
 obtain⟨t1,t2,t3,t4,t5⟩:=h.lt
 have K1:=qh (come_one g bi bl bo bp B (.slice (some ⟨be,0,none⟩) 1 ce) w h hB hlo)
 have K2:=qh (fun br c L W h1 h2 h3 h4 h5=>gleave_one g bi bl bo bp B br c L (.slice (some ⟨be,0,none⟩) 1 ce) W h1 h2 h3 h4 h5 hlo)
 have HLO:=qh hlo
 clear h he hlo
 go_enter Tryz.func329,Tryz.ntmps329
 go_wp2_with fail
 refine K1.out.mono ?_
 rintro e w1 ⟨br,c,L,rfl,hg,hr,hbr,hc1,hLc,hb⟩
 have HG:=qh hg;have HR:=qh hr;have HB:=qh hb
 have hs1:w.heap.size≤w1.heap.size:=hb.size
 have t6:=hr.lt
 clear hg hr hb K1
 go_wp2_with fail
 have HW:=qh (show Holds (w1.alloc (.cells #[.int .i64 0,.int .i64 0] 446)) w1.heap.size 446 [.int .i64 0,.int .i64 0] from holds_alloc w1 _ _)
 have HA:=qh (show Below w1.heap.size w1 (w1.alloc (.cells #[.int .i64 0,.int .i64 0] 446)) by go_grown)
 generalize w1.alloc (.cells #[.int .i64 0,.int .i64 0] 446)=W at HW HA ⊢
 have HG:=qh (HG.out.below HA.out)
 have HR:=qh (holds_bel HR.out HA.out)
 have HB:=qh (HB.out.trans (HA.out.mono (by omega)))
 have hbw:w.heap.size≤w1.heap.size:=hs1
 generalize hw1:w1.heap.size=bw at HW hbw ⊢
 go_loopw [4] (fun v4 wr=>∃ m:Nat,v4=.slice (some ⟨bw,0,none⟩) m 1∧Below B w wr∧((m=1∧GW wr g bi bl bo bp (.slice (some ⟨be,0,none⟩) 1 ce) (.slice (some ⟨br,0,none⟩) 1 c) 0 1 1 1 0 true∧Holds wr br 3 (.int .i64 0 :: L)∧Holds wr bw 446 [.int .i64 0,.int .i64 0])∨(m=0∧GW wr g bi bl bo bp (.slice (some ⟨be,0,none⟩) 1 ce) (.slice (some ⟨br,0,none⟩) 0 c) 1 1 1 1 0 false))) (fun v _=>match v with | .slice _ m _=>m|_=>0)
 case atStart=>exact⟨1,rfl,HB.out,.inl ⟨rfl,HG.out,HR.out,HW.out⟩⟩
 case round=>
  clear HG HR HB HW HA
  have hw0:IntKind.i64.wrap 0=0:=by decide
  obtain⟨m,rfl,hb,⟨rfl,hg,hr,hs⟩|⟨rfl,hg⟩⟩:=hrel
  ·have HG:=qh hg;have HR:=qh hr;have HB:=qh hb;have HS:=qh hs
   have HE:=qh (he0.out.below hb hbe)
   clear hg hr hb hs
   go_upto_region 3 with (fail)
   refine wp_region_noPanic ?_
   refine wp_region_late (S:=fun W'=>Holds W' g 431 (walkL (.slice (some ⟨be,0,none⟩) 1 ce) (.slice (some ⟨br,0,none⟩) 1 c) bi bl bo bp 0 1)∧Holds W' bw 446 [.int .i64 0,.int .i64 0]∧Holds W' be 30 [.slice none 0 0]) (X0:=[]) (by as_aux_lemma=>kernel_rfl) ?_
   have hSn:=And.intro (HG.out.below (t_drew _ _)).hg (And.intro (show Holds wr.drew bw 446 _ from HS.out) (show Holds wr.drew be 30 _ from HE.out))
   have HG:=qh (HG.out.below (t_drew _ _))
   have HR:=qh (show Holds wr.drew br 3 _ from HR.out)
   have HS:=qh (show Holds wr.drew bw 446 _ from HS.out)
   have HB:=qh (HB.out.trans (t_drew _ _))
   generalize wr.drew=wd at HG HR HS HB hSn ⊢
   change wpAnyL _ _ _ _ _ _ 16 #[false,false,false,false,false,false,false,false,false,false,false,false,false,false,false,false] _ _
   refine mvA 0 (some 21) (fun _=>hSn) ?_
   simp only [Act.put,zA,zB,zC]
   refine mvA 1 (some 22) (fun _=>hSn) ?_
   simp only [Act.put,zA,zB,zC]
   refine mvA 2 (some 23) (fun _=>hSn) ?_
   simp only [Act.put,zA,zB,zC]
   refine tkA 3 [] (some 24) (?vg4) rfl (Or.inl ⟨by rfl,?hg4⟩) hSn ?rg4
   case hg4=>
    intro w hSw
    have s1:=hSw.2.1.cell 1
    simp only [walkL,yA,yB] at s1
    go_simp
    try with_reducible rfl
   simp only [Act.put,zA,zB,zC]
   refine mvA 4 (some 25) (fun _=>hSn) ?_
   simp only [Act.put,zA,zB,zC]
   refine mvA 5 (some 26) (fun _=>hSn) ?_
   simp only [Act.put,zA,zB,zC]
   refine mvA 6 (some 27) (fun _=>hSn) ?_
   simp only [Act.put,zA,zB,zC]
   refine tkA 7 [] (some 28) (?vg8) rfl (Or.inl ⟨by rfl,?hg8⟩) hSn ?rg8
   case hg8=>
    intro w hSw
    have m0:=hSw.1.cell 0
    simp only [walkL,yA,yB] at m0
    go_simp
    try with_reducible rfl
   simp only [Act.put,zA,zB,zC]
   refine mvA 8 (some 29) (fun _=>hSn) ?_
   simp only [Act.put,zA,zB,zC]
   refine mvA 9 (some 30) (fun _=>hSn) ?_
   simp only [Act.put,zA,zB,zC]
   refine mvA 10 (some 31) (fun _=>hSn) ?_
   simp only [Act.put,zA,zB,zC]
   refine tkA 11 [] (some 32) (?vg12) rfl (Or.inl ⟨by rfl,?hg12⟩) hSn ?rg12
   case hg12=>
    intro w hSw
    have s0:=hSw.2.1.cell 0
    simp only [walkL,yA,yB] at s0
    go_simp
    try with_reducible rfl
   simp only [Act.put,zA,zB,zC]
   refine mvA 12 (some 33) (fun _=>hSn) ?_
   simp only [Act.put,zA,zB,zC]
   refine tkA 13 [] (some 34) (?vg14) rfl (Or.inl ⟨by rfl,?hg14⟩) hSn ?rg14
   case hg14=>
    intro w hSw
    have e0:=hSw.2.2.cell 0
    simp only [walkL,yA,yB] at e0
    go_simp
    try with_reducible rfl
   simp only [Act.put,zA,zB,zC]
   refine mvA 14 (some 35) (fun _=>hSn) ?_
   simp only [Act.put,zA,zB,zC]
   refine mvA 15 (some 36) (fun _=>hSn) ?_
   simp only [Act.put,zA,zB,zC]
   refine dnA (NoPanic.normal ?_)
   clear hSn
   have s0:=HS.out.cell 0
   simp only [List.getElem?_cons_zero] at s0
   go_wp2_with fail
   have hws:w.heap.size≤wd.heap.size:=HB.out.size
   refine (K2.out br c L wd HG.out HR.out ⟨by omega,by omega,by omega⟩ hc1 (by omega)).mono ?_
   rintro e w5 ⟨rfl,hg5,hb5⟩
   have HG5:=qh hg5;have HB5:=qh (HB.out.trans hb5)
   clear hg5 hb5 s0 HS HR HE
   have h1c:(0:Int)≤1:=by decide
   go_wp2_with fail
   go_roundw
   case rel=>exact⟨0,rfl,HB5.out,.inr ⟨rfl,HG5.out⟩⟩
   case measure=>simp
  ·have HG:=qh hg;have HB:=qh hb
   go_wp2_with fail
   exact bodyPost_end (v:=.tuple #[]) (by simp [results,Tryz.results329,go_sem]) rfl ⟨_,rfl,HG.out,HB.out⟩
end
section
open Go.RowKit
def lenOf:Value→Nat
 | .slice _ m _=>m
 | _=>0
theorem owns_less {w:World} {base base' size n:Nat} {e:TypeId} {v:Value} {xs:List Value} (h:w.ownsRow base e size v n xs) (hl:base'≤base):w.ownsRow base' e size v n xs:=
 ⟨h.1,h.2.imp id fun ⟨g,cap,cur,e1,e2,e3⟩=>⟨g,cap,cur,e1,Nat.le_trans hl e2,e3⟩⟩
theorem made_one (z:Value):madeCells #[z] 1=#[z]:=by kernel_rfl
theorem mk_int1 (w:World):(Instr.makeSlice 30 (.int .i64 1) (.int .i64 1)).run Tryz.prog w=.ok (.slice (some ⟨w.heap.size,0,none⟩) 1 1) (w.alloc (.cells #[.int .i64 0] 3)):=by
 have h:=run_make_row' (P:=Tryz.prog) 30 3 (.int .i64 0) 8 (by kernel_rfl) (by kernel_rfl) rfl .i64 .i64 1 (by omega) (by omega) w
 rw [made_one] at h
 exact h
theorem mk_bool1 (w:World):(Instr.makeSlice 429 (.int .i64 1) (.int .i64 1)).run Tryz.prog w=.ok (.slice (some ⟨w.heap.size,0,none⟩) 1 1) (w.alloc (.cells #[.bool false] 4)):=by
 have h:=run_make_row' (P:=Tryz.prog) 429 4 (.bool false) 1 (by kernel_rfl) (by kernel_rfl) rfl .i64 .i64 1 (by omega) (by omega) w
 rw [made_one] at h
 exact h
theorem mk_row1 (w:World):(Instr.makeSlice 411 (.int .i64 1) (.int .i64 1)).run Tryz.prog w=.ok (.slice (some ⟨w.heap.size,0,none⟩) 1 1) (w.alloc (.cells #[.slice none 0 0] 30)):=by
 have h:=run_make_row' (P:=Tryz.prog) 411 30 (.slice none 0 0) 24 (by kernel_rfl) (by kernel_rfl) rfl .i64 .i64 1 (by omega) (by omega) w
 rw [made_one] at h
 exact h
theorem order_one (be ce bp bn b0 c0:Nat) (w:World) (he:Holds w be 30 [.slice none 0 0]) (hp:Holds w bp 3 [.int .i64 0]) (hn:Holds w bn 30 [.slice (some ⟨b0,0,none⟩) 1 c0]) :
  Calls Tryz.prog 330 #[.slice (some ⟨be,0,none⟩) 1 ce,.slice (some ⟨bp,0,none⟩) 1 1,.slice (some ⟨bn,0,none⟩) 1 1] w fun e w'=>∃ v,e=.returned v∧w'.ownsRow w.heap.size 30 1 v 1 [.slice (some ⟨b0,0,none⟩) 1 c0]∧Below w.heap.size w w':=by
 have HE:=qh he;have HP:=qh hp;have HN:=qh hn
 have hbn0:=hn.lt
 clear he hp hn
 have hm1:=mk_int1
 have hm2:=mk_row1
 go_enter Tryz.func330,Tryz.ntmps330
 go_wp2_with fail
 have HL:=qh (show Holds ((w.alloc (.cells #[.int .i64 0] 3)).alloc (.cells #[.slice none 0 0] 30)) w.heap.size 3 [.int .i64 0] from holds_past (holds_alloc w _ _) _)
 have HK:=qh (show Holds ((w.alloc (.cells #[.int .i64 0] 3)).alloc (.cells #[.slice none 0 0] 30)) (w.heap.size+1) 30 [.slice none 0 0] from by
  have:=holds_alloc (w.alloc (.cells #[.int .i64 0] 3)) 30 [.slice none 0 0]
  rw [World.size_alloc] at this
  exact this)
 have HB:=qh (show Below w.heap.size w ((w.alloc (.cells #[.int .i64 0] 3)).alloc (.cells #[.slice none 0 0] 30)) from by go_grown)
 generalize (w.alloc (.cells #[.int .i64 0] 3)).alloc (.cells #[.slice none 0 0] 30)=W at HL HK HB ⊢
 have HE:=qh (holds_bel HE.out HB.out)
 have HP:=qh (holds_bel HP.out HB.out)
 have HN:=qh (holds_bel HN.out HB.out)
 have hgl:w.heap.size+1<W.heap.size:=HK.out.lt
 generalize hk:w.heap.size+1=gk at HK hgl ⊢
 generalize hl:w.heap.size=gl at HL HB ⊢
 go_loopw [27] (fun v wr=>∃ i:Nat,v=.int .i64 (i:Int)∧i≤1∧wr=W) (fun v _=>1 - (intOf v).toNat)
 case atStart=>first|exact⟨0,rfl,by omega,rfl⟩|exact⟨0,rfl,by omega,trivial⟩|exact⟨0,by simp⟩
 case round=>
  obtain⟨i,rfl,hi,rfl⟩:=hrel
  rcases (show i=0∨i=1 by omega) with rfl|rfl
  ·have e0:=HE.out.cell 0
   simp only [List.getElem?_cons_zero] at e0
   go_wp2_with fail
   go_loopw [34] (fun v w2=>v=.int .i64 0∧w2=wr) (fun _ _=>0)
   case atStart=>first|exact⟨rfl,rfl⟩|exact⟨rfl,trivial⟩|simp
   case round=>
    obtain⟨rfl,rfl⟩:=hrel
    go_wp2_with fail
    go_roundw
    case rel=>exact⟨1,by simp⟩
    case measure=>simp [intOf]
  ·go_wp2_with fail
   have HT:=qh (holds_alloc wr 3 [.int .i64 0])
   have HA:=qh (show Below wr.heap.size wr (wr.alloc (.cells #[.int .i64 0] 3)) by go_grown)
   generalize wr.alloc (.cells #[.int .i64 0] 3)=W at HT HA ⊢
   have hgw:gl<wr.heap.size:=HL.out.lt
   have HE:=qh (holds_bel HE.out HA.out)
   have HN:=qh (holds_bel HN.out HA.out)
   have HK:=qh (holds_bel HK.out HA.out)
   have HL:=qh (holds_bel HL.out HA.out)
   have HB:=qh (HB.out.trans (HA.out.mono (by omega)))
   have hgt:wr.heap.size<W.heap.size:=HT.out.lt
   generalize hgtt:wr.heap.size=gt at HT hgt hgw hgl ⊢
   go_loopw [14] (fun v w2=>(v=.slice none 0 0∧w2=W)∨(∃ p c,v=.slice p 1 c∧w2.ownsRow gl 30 1 v 1 [.slice (some ⟨b0,0,none⟩) 1 c0]∧Below gl w w2)) (fun v _=>1-lenOf v)
   case atStart=>first|exact .inl ⟨rfl,rfl⟩|simp
   case round=>
    rcases hrel with⟨rfl,rfl⟩|⟨p,c,rfl,ho,hb⟩
    ·go_wp2_with fail
     go_loopw [15,97] (fun v15 v97 w2=>(v15=.int .i64 (-1)∧v97=.int .i64 0∧w2=wr)∨(v15=.int .i64 0∧v97=.int .i64 1∧Below wr.heap.size wr w2)) (fun _ v _=>1 - (intOf v).toNat)
     case atStart=>first|exact .inl ⟨rfl,rfl,rfl⟩|simp
     case round=>
      rcases hrel with⟨rfl,rfl,rfl⟩|⟨rfl,rfl,hb⟩
      ·have l0:=HL.out.cell 0
       have k0:=HT.out.cell 0
       simp only [List.getElem?_cons_zero] at l0 k0
       go_upto_region 21 with (fail)
       go_quiet (fail)
       go_wp2_with fail
       exact⟨.inr ⟨rfl,rfl,⟨rfl,rfl,rfl,Nat.le_refl _,fun _ _=>rfl⟩⟩,by decide⟩
      ·have HB2:=qh hb
       rename World=>w2
       have HT:=qh (holds_bel HT.out hb)
       have HN:=qh (holds_bel HN.out hb)
       have HK:=qh (holds_bel HK.out hb)
       have hs2:=hb.size
       have hgb:bn<w2.heap.size:=HN.out.lt
       have HBN:=qh (show bn≠gt from by omega)
       clear hb
       go_wp2_with (first
        | (refine wpList_store_cell rfl 3 (.tmp 135) (.const (.int .i64 1)) rfl rfl gt 0 3 _ HT.out (by simp) rfl (.int .i64 1) rfl rfl (by kernel_rfl) rfl ?_;intro w3 hh ht;have HT3:=qh ht;have hn3:=(HN.out.touch ht HBN.out);have n0:=hn3.cell 0;simp only [List.getElem?_cons_zero] at n0;have HK3:=qh (HK.out.touch ht (by omega));have hs3:=ht.size;clear hh ht)
        | (at_builtin;refine wpList_append_cells rfl (.tmp 136) (.tmp 141) 411 rfl (w3.heap.size+1) 30 (.slice none 0 0) 1 24 rfl (by kernel_rfl) rfl (by decide) _ 0 [] rfl (World.ownsRow_nil _ _ _ _) (some ⟨w3.heap.size,0,none⟩) 1 1 [.slice (some ⟨b0,0,none⟩) 1 c0] rfl rfl ((holds_alloc w3 _ _).reads 0 _ (fun j v hv=>by simpa using hv)) (by intro h;cases h) (by simp [Value.oneCell']) (by unfold maxLen;omega) (by omega) (by simp) ?_;intro v4 w4 ho4 hb4 _;have HO4:=qh (owns_less ho4 (show gl≤w3.heap.size+1 by omega));have hb4:=((Below.refl w3.heap.size w3).alloc (Nat.le_refl _) (.cells #[.slice (some ⟨b0,0,none⟩) 1 c0] 30)).trans (hb4.mono (Nat.le_succ _));have HB4:=qh hb4;have k4:=(holds_bel HK3.out hb4).cell 0;simp only [List.getElem?_cons_zero] at k4;clear ho4 hb4)
        | fail)
       have HB5:=qh ((HB.out.trans (HB2.out.mono (by omega))).trans ((HT3.out.below (B:=gl) (by omega) (by omega)).trans (HB4.out.mono (by omega))))
       go_loopw [148] (fun v w2=>v=.int .i64 0∧w2=w4) (fun _ _=>0)
       case atStart=>first|exact⟨rfl,rfl⟩|exact⟨rfl,trivial⟩|simp
       case round=>
        obtain⟨rfl,rfl⟩:=hrel
        obtain⟨p4,c4,rfl⟩:∃ p4 c4,v4=.slice p4 1 c4:=by
         obtain⟨_,h2⟩:=HO4.out
         rcases h2 with⟨hv,hn⟩|⟨g,cap,cur,hv,_⟩
         ·cases hn
         ·exact⟨_,cap,hv⟩
        go_wp2_with fail
        go_roundw
        case rel=>
         repeat apply Exists.intro
         exact⟨.inr ⟨p4,c4,rfl,HO4.out,HB5.out⟩,rfl⟩
        case measure=>simp [lenOf]
    ·have HO:=qh ho;have HB:=qh hb
     clear ho hb
     go_wp2_with fail
     go_ret
     exact⟨_,rfl,hl▸HO.out,hl▸HB.out⟩
end
end Go.Proofs.YtimdpiifpibgfaaGreatDoor
