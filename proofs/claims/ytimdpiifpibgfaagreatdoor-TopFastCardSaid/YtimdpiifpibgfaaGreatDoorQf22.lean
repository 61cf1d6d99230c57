/- For every input the law TopFast returns true (a part of the proof). Condition: the listed variables start as the program's text lays them. -/
import Derived.Test.YtimdpiifpibgfaaGreatDoorQf21
set_option linter.unusedVariables false
set_option linter.unusedSimpArgs false
set_option maxRecDepth 20000
set_option maxHeartbeats 16000000
namespace Go.Proofs.YtimdpiifpibgfaaGreatDoor
section
open Go.RowKit
theorem Own8.touch {w w':World} {B g:Nat} {v:Value} {n:Nat} (h:Own8 w B v n) (ht:Touch g w w') (hg:g<B):Own8 w' B v n:=by
 obtain⟨bs,h1,h2,h3,h4⟩:=h
 exact⟨bs,h1,h2,h3,h4.imp id fun ⟨b,cap,cur,e1,e2,hh,r⟩=>⟨b,cap,cur,e1,e2,(ht.block b (Array.getElem?_eq_some_iff.1 hh).1 (by omega)).trans hh,r⟩⟩
theorem append0 (gd len B:Nat) (v:Value) (w:World) (h:Disk0 w gd) (hv:Own8 w B v len) (hB:gd<B) (h1:1≤len) (hml:len≤100000) :
  Calls Tryz.prog 165 #[.pointer (Option.some ⟨gd,0,none⟩),.string nm1,v] w fun e w'=>e=.returned (.int .i64 0)∧∃ gf gb,Disk1 w' gd gf gb len 0∧w.heap.size≤gf∧w.heap.size≤gb∧Touch gd w w':=by
 have KM:=qh (fun W=>may_nm1 W)
 have KR:=qh (fun W (h:Disk0 W gd)=>room0 gd W h)
 have KF:=qh (fun W (h:Disk0 W gd)=>find0 gd nm1 W h)
 obtain⟨pa,pc,rfl⟩:=hv.shape
 have HD:=qh h;have HP:=qh hv
 have hlt:=h.lt
 have KP:=qh (fun W (h:Disk0 W gd)=>power_ok gd _ W h)
 have KI:=qh (fun bs W (h:Holds W bs 129 [.string nm1,.slice none 0 0,.int .i64 0])=>ins_file bs _ rfl (by simp [Value.oneCell']) W h)
 have KC:=qh (fun gs W (h:Holds W gs 127 [.slice none 0 0,.slice pa len pc]) h1' h2'=>concat2 gs (.slice none 0 0) (.slice pa len pc) 0 len [] W h h1' h2' (.inl rfl) (by omega) h1 (by omega))
 have HBS:=qh (Base.start w)
 have hroom:¬ (524288:Int)<(len:Int):=by omega
 clear h hv
 generalize hnm:nm1=nm at KI KM KF ⊢
 have HNM:=qh hnm;clear hnm
 go_enter Tryz.func165,Tryz.ntmps165
 have d2:=HD.out.cell 2
 simp only [diskL,yA,yB] at d2
 go_wp2_with fail
 refine (KM.out _).mono ?_
 rintro e w1 ⟨rfl,hb⟩
 have HD:=qh (HD.out.bel hb)
 have HP:=qh (HP.out.bel hb)
 have HBS:=qh (HBS.out.bel hb)
 clear hb d2
 go_wp2_with fail
 refine (KR.out _ HD.out).mono ?_
 rintro e w2 ⟨rfl,hb⟩
 have HD:=qh (HD.out.bel hb)
 have HP:=qh (HP.out.bel hb)
 have HBS:=qh (HBS.out.bel hb)
 clear hb
 go_wp2_with fail
 refine (KP.out _ HD.out).mono ?_
 rintro e w3 ⟨rfl,hb⟩
 have HD:=qh (HD.out.bel hb)
 have HP:=qh (HP.out.bel hb)
 have HBS:=qh (HBS.out.bel hb)
 clear hb
 go_wp2_with fail
 refine (KF.out _ HD.out).mono ?_
 rintro e w4 ⟨rfl,hb⟩
 have HD:=qh (HD.out.bel hb)
 have HP:=qh (HP.out.bel hb)
 have HBS:=qh (HBS.out.bel hb)
 clear hb
 have d1:=HD.out.cell 1
 simp only [diskL,yA,yB] at d1
 go_wp2_with fail
 have HN:=qh (holds_alloc w4 129 [.string nm,.slice none 0 0,.int .i64 0])
 have hal:Below w4.heap.size w4 (w4.alloc (.cells #[.string nm,.slice none 0 0,.int .i64 0] 129)):=by go_grown
 have HD:=qh (HD.out.bel hal)
 have HP:=qh (HP.out.bel hal)
 have HBS:=qh (HBS.out.bel hal)
 have hs4:=HBS.out.le
 clear hal d1
 generalize w4.alloc (.cells #[.string nm,.slice none 0 0,.int .i64 0] 129)=w5 at HN HD HP HBS hs4 ⊢
 generalize w4.heap.size=gn at HN ⊢
 refine (KI.out _ _ HN.out).mono ?_
 rintro e w6 ⟨gf,cf,r,rfl,hc1,hcm1,hf,hg1,hb⟩
 have HD:=qh (HD.out.bel hb)
 have HP:=qh (HP.out.bel hb)
 have HBS:=qh (HBS.out.bel hb)
 have HF:=qh hf
 have hgf:w.heap.size≤gf:=by omega
 clear hb hf HN
 go_wp2_with (first
  | (refine wpList_store_cell rfl 123 (.tmp 49) (.tmp 47) rfl rfl gd 1 125 _ HD.out (by simp [diskL]) rfl (.slice (Option.some ⟨gf,0,none⟩) 1 cf) rfl rfl (by kernel_rfl) rfl ?_;intro w7 hh7 ht7))
 have HD:=qh (show Holds w7 gd 125 (diskL (.slice (Option.some ⟨gf,0,none⟩) 1 cf)) from hh7)
 have HF:=qh (show Holds w7 gf 129 (.string nm :: .slice none 0 0 :: .int .i64 0 :: r) from HF.out.touch ht7 (by omega))
 have HTg:=qh ((Touch.of_below (g:=gd) HBS.out.below).trans ht7)
 have HP:=qh (HP.out.touch ht7 hB)
 clear hh7 ht7 HBS
 go_wp2_with fail
 go_upto_region 13 with (fail)
 have HD:=qh (HD.out.bel (t_drew _ w7))
 have HF:=qh (HF.out.bel (t_drew _ w7))
 have HP:=qh (HP.out.bel (t_drew _ w7))
 have HTg:=qh (HTg.out.bel (t_drew _ w7))
 refine wp_region_noPanic ?_
 refine wp_region_late (S:=fun W'=>Below w7.drew.heap.size w7.drew W') (X0:=[18]) (by as_aux_lemma=>kernel_rfl) ?_
 generalize w7.drew=wd at HD HF HP HTg ⊢
 have hSn:Below wd.heap.size wd wd:=Below.refl _ _
 change wpAnyL _ _ _ _ _ _ 19 #[false,false,false,false,false,false,false,false,false,false,false,false,false,false,false,false,false,false,false] _ _
 refine mvA 0 (some 50) (fun _=>hSn) ?_
 simp only [Act.put,zA,zB,zC]
 refine mvA 1 (some 51) (fun _=>hSn) ?_
 simp only [Act.put,zA,zB,zC]
 refine mvA 2 (some 52) (fun _=>hSn) ?_
 simp only [Act.put,zA,zB,zC]
 refine tkA 3 [16,17,18] (some 53) (?vg4) rfl (Or.inl ⟨by rfl,?hg4⟩) hSn ?rg4
 case hg4=>
  intro w hSw
  have b1:=(HD.out.bel hSw).cell 1
  simp only [diskL,yA,yB] at b1
  go_simp
  try with_reducible rfl
 simp only [Act.put,zA,zB,zC]
 refine mvA 4 (some 54) (fun _=>hSn) ?_
 simp only [Act.put,zA,zB,zC]
 refine mvA 5 (some 55) (fun _=>hSn) ?_
 simp only [Act.put,zA,zB,zC]
 refine mvA 6 (some 56) (fun _=>hSn) ?_
 simp only [Act.put,zA,zB,zC]
 refine mvA 7 (some 57) (fun _=>hSn) ?_
 simp only [Act.put,zA,zB,zC]
 refine tkA 8 [10,11,12,14,15,16,17,18] (some 58) (?vg9) rfl (Or.inl ⟨by rfl,?hg9⟩) hSn ?rg9
 case hg9=>
  intro w hSw
  have b1:=(HD.out.bel hSw).cell 1
  simp only [diskL,yA,yB] at b1
  go_simp
  try with_reducible rfl
 simp only [Act.put,zA,zB,zC]
 refine mvA 9 (some 59) (fun _=>hSn) ?_
 simp only [Act.put,zA,zB,zC]
 refine mvA 10 (some 60) (fun _=>hSn) ?_
 simp only [Act.put,zA,zB,zC]
 refine mvA 11 (some 61) (fun _=>hSn) ?_
 simp only [Act.put,zA,zB,zC]
 refine tkA 12 [14,15,16,17,18] (some 62) (?vg13) rfl (Or.inl ⟨by rfl,?hg13⟩) hSn ?rg13
 case hg13=>
  intro w hSw
  have b1:=(HF.out.bel hSw).cell 1
  simp only [yA,yB] at b1
  go_simp
  try with_reducible rfl
 simp only [Act.put,zA,zB,zC]
 refine mvA 13 (some 63) (fun _=>hSn) ?_
 simp only [Act.put,zA,zB,zC]
 refine rd1 14 rfl (fun K hK=>?_)
 go_simp
 have hal:=fun o=>Below.alloc hSn hSn.size o
 refine hK.out _ _ (fun _=>hal _) ?_
 have hSn:=hal (.cells ([.slice none 0 0,.slice pa len pc]:List Value).toArray 127)
 have HG:=qh (show Holds (wd.alloc (.cells ([.slice none 0 0,.slice pa len pc]:List Value).toArray 127)) wd.heap.size 127 [.slice none 0 0,.slice pa len pc] from holds_alloc wd _ _)
 clear hal
 generalize wd.alloc (.cells ([.slice none 0 0,.slice pa len pc]:List Value).toArray 127)=wa at hSn HG ⊢
 clear hK
 try simp only [Act.put,zA,zB,zC]
 refine rd1 15 rfl (fun K hK=>?_)
 go_simp
 refine (KC.out _ _ HG.out (Blob.nil _) (HP.out.blob.below hSn)).mono ?_
 rintro e w9 ⟨v9,rfl,ho9,hb⟩
 have hSn:=below_next hSn hb
 have HO:=qh (ho9.mono (B':=wd.heap.size) (by have:=HG.out.lt;omega))
 obtain⟨p9,c9,rfl⟩:=ho9.shape
 clear ho9
 clear hb
 refine hK.out _ _ (fun _=>hSn) ?_
 clear hK
 try simp only [Act.put,zA,zB,zC]
 refine mvA 16 (some 66) (fun _=>hSn) ?_
 simp only [Act.put,zA,zB,zC]
 refine mvA 17 (some 67) (fun _=>hSn) ?_
 simp only [Act.put,zA,zB,zC]
 refine rd1 18 rfl (fun K hK=>?_)
 refine step_store_cell rfl 127 (.tmp 67) (.tmp 65) rfl rfl gf 1 129 _ (HF.out.bel hSn) (by simp) rfl (.slice p9 (0+len:Nat) c9) rfl rfl (by kernel_rfl) rfl ?_
 intro w10 hh10 ht10
 have HH:=qh hh10;have HT:=qh ht10
 clear hh10 ht10
 refine hK.out _ _ nlA ?_
 clear hK
 try simp only [Act.put,zA,zB,zC]
 refine dnA (NoPanic.normal ?_)
 have hs7:=HTg.out.size
 have hs8:=hSn.size
 have HTg:=qh (HTg.out.bel hSn)
 obtain⟨g9,bs9,r9,hp9,hg9,hc9,hcm9,hl9,h256,hh9⟩:=HO.out.disk (by omega)
 subst hp9
 have hg9n:w.heap.size≤g9:=by omega
 have hfl:=HF.out.lt
 have HD2:=qh ((HD.out.bel hSn).touch HT.out (by omega))
 have H9:=qh (hh9.touch HT.out (by omega))
 have HT2:=qh (show Touch gd w w10 from ⟨HT.out.os.trans HTg.out.os,HT.out.tape.trans HTg.out.tape,HT.out.output.trans HTg.out.output,by have:=HT.out.size;omega,fun k hk hne=>(HT.out.block k (by omega) (by omega)).trans (HTg.out.block k hk hne)⟩)
 clear hSn hh9 HD HF HP HG HO HT HTg
 go_wp2_with fail
 go_ret
 have hnm:=HNM.out
 subst hnm
 exact⟨rfl,gf,g9,⟨⟨cf,hc1,hcm1,HD2.out⟩,⟨c9,r,by omega,hcm9,by have:=HH.out;simpa using this⟩,⟨bs9,r9,by omega,h256,H9.out⟩,by omega,by omega⟩,hgf,hg9n,HT2.out⟩
end
section
open Go.RowKit
theorem sync1 (gd gf gb m:Nat) (kept:Int) (w:World) (h:Disk1 w gd gf gb m kept) :
  Calls Tryz.prog 111 #[.pointer (some ⟨gd,0,none⟩),.string nm1] w fun e w'=>e=.returned (.int .i64 0)∧Disk1 w' gd gf gb m m∧Touch gf w w':=by
 have KN:=qh (fun W (h:Disk1 W gd gf gb m kept)=>known1 gd gf gb m kept W h)
 have HX:=qh h
 have hl:=h.lim
 have hne:=h.ne
 have hlt:=h.lt
 obtain⟨⟨cf,a1,a2,a3⟩,⟨cb,r,b1,b2,b3⟩,⟨bs,r2,e1,e2,e3⟩,_,_⟩:=h
 have HD:=qh a3;have HF:=qh b3;have HC:=qh e3
 have KP:=qh (fun W (h:Holds W gd 125 (diskL (.slice (some ⟨gf,0,none⟩) 1 cf)))=>power_ok gd _ W h)
 have HT:=qh (Touch.refl gf w)
 clear a3 b3 e3
 generalize hnm:nm1=nm at HF KN ⊢
 have HNM:=qh hnm;clear hnm
 go_enter Tryz.func111,Tryz.ntmps111
 go_wp2_with fail
 refine (KN.out _ HX.out).mono ?_
 rintro e w1 ⟨rfl,hb⟩
 have HD:=qh (HD.out.bel hb)
 have HF:=qh (HF.out.bel hb)
 have HC:=qh (HC.out.bel hb)
 have HT:=qh (HT.out.bel hb)
 clear hb HX
 go_wp2_with fail
 refine (KP.out _ HD.out).mono ?_
 rintro e w2 ⟨rfl,hb⟩
 have HD:=qh (HD.out.bel hb)
 have HF:=qh (HF.out.bel hb)
 have HC:=qh (HC.out.bel hb)
 have HT:=qh (HT.out.bel hb)
 clear hb
 go_wp2_with fail
 go_upto_region 5 with (fail)
 have HD:=qh (HD.out.bel (t_drew _ w2))
 have HF:=qh (HF.out.bel (t_drew _ w2))
 have HC:=qh (HC.out.bel (t_drew _ w2))
 have HT:=qh (HT.out.bel (t_drew _ w2))
 refine wp_region_noPanic ?_
 refine wp_region_late (S:=fun W'=>Below w2.drew.heap.size w2.drew W') (X0:=[16]) (by as_aux_lemma=>kernel_rfl) ?_
 generalize w2.drew=wd at HD HF HC HT ⊢
 have hSn:Below wd.heap.size wd wd:=Below.refl _ _
 change wpAnyL _ _ _ _ _ _ 17 #[false,false,false,false,false,false,false,false,false,false,false,false,false,false,false,false,false] _ _
 refine mvA 0 (some 19) (fun _=>hSn) ?_
 simp only [Act.put,zA,zB,zC]
 refine mvA 1 (some 20) (fun _=>hSn) ?_
 simp only [Act.put,zA,zB,zC]
 refine mvA 2 (some 21) (fun _=>hSn) ?_
 simp only [Act.put,zA,zB,zC]
 refine tkA 3 [14,15,16] (some 22) (?vg4) rfl (Or.inl ⟨by rfl,?hg4⟩) hSn ?rg4
 case hg4=>
  intro w hSw
  have b1:=(HD.out.bel hSw).cell 1
  simp only [diskL,yA,yB] at b1
  go_simp
  try with_reducible rfl
 simp only [Act.put,zA,zB,zC]
 refine mvA 4 (some 23) (fun _=>hSn) ?_
 simp only [Act.put,zA,zB,zC]
 refine mvA 5 (some 24) (fun _=>hSn) ?_
 simp only [Act.put,zA,zB,zC]
 refine mvA 6 (some 25) (fun _=>hSn) ?_
 simp only [Act.put,zA,zB,zC]
 refine mvA 7 (some 26) (fun _=>hSn) ?_
 simp only [Act.put,zA,zB,zC]
 refine tkA 8 [10,11,12,13,14,15,16] (some 27) (?vg9) rfl (Or.inl ⟨by rfl,?hg9⟩) hSn ?rg9
 case hg9=>
  intro w hSw
  have b1:=(HD.out.bel hSw).cell 1
  simp only [diskL,yA,yB] at b1
  go_simp
  try with_reducible rfl
 simp only [Act.put,zA,zB,zC]
 refine mvA 9 (some 28) (fun _=>hSn) ?_
 simp only [Act.put,zA,zB,zC]
 refine mvA 10 (some 29) (fun _=>hSn) ?_
 simp only [Act.put,zA,zB,zC]
 refine mvA 11 (some 30) (fun _=>hSn) ?_
 simp only [Act.put,zA,zB,zC]
 refine tkA 12 [13,14,15,16] (some 31) (?vg13) rfl (Or.inl ⟨by rfl,?hg13⟩) hSn ?rg13
 case hg13=>
  intro w hSw
  have b1:=(HF.out.bel hSw).cell 1
  simp only [yA,yB] at b1
  go_simp
  try with_reducible rfl
 simp only [Act.put,zA,zB,zC]
 refine mvA 13 (some 32) (fun _=>hSn) ?_
 simp only [Act.put,zA,zB,zC]
 refine mvA 14 (some 33) (fun _=>hSn) ?_
 simp only [Act.put,zA,zB,zC]
 refine mvA 15 (some 34) (fun _=>hSn) ?_
 simp only [Act.put,zA,zB,zC]
 refine rd1 16 rfl (fun K hK=>?_)
 refine step_store_cell rfl 3 (.tmp 34) (.tmp 32) rfl rfl gf 2 129 _ (HF.out.bel hSn) (by simp) rfl (.int .i64 m) rfl rfl (by kernel_rfl) rfl ?_
 intro w5 hh5 ht5
 have HH:=qh hh5;have HT5:=qh ht5
 clear hh5 ht5
 refine hK.out _ _ nlA ?_
 clear hK
 try simp only [Act.put,zA,zB,zC]
 refine dnA (NoPanic.normal ?_)
 have HD2:=qh ((HD.out.bel hSn).touch HT5.out hne.1)
 have HC2:=qh ((HC.out.bel hSn).touch HT5.out (Ne.symm hne.2.2))
 have HT2:=qh ((HT.out.bel hSn).trans HT5.out)
 clear hSn HD HF HC HT HT5
 go_wp2_with fail
 go_ret
 have hnm:=HNM.out
 subst hnm
 exact⟨rfl,⟨⟨cf,a1,a2,HD2.out⟩,⟨cb,r,b1,b2,by have:=HH.out;simpa using this⟩,⟨bs,r2,e1,e2,HC2.out⟩,hne,hl⟩,HT2.out⟩
theorem read0 (gd:Nat) (s:ByteArray) (w:World) (h:Disk0 w gd) :
  Calls Tryz.prog 103 #[.pointer (some ⟨gd,0,none⟩),.string s] w fun e w'=>e=.returned (.tuple #[.slice none 0 0,.bool false])∧Below w.heap.size w w':=by
 have KF:=qh (find0 gd s w h)
 clear h
 go_enter Tryz.func103,Tryz.ntmps103
 go_wp2_with fail
 refine KF.out.mono ?_
 rintro e w1 ⟨rfl,hb⟩
 have HB:=qh hb;clear hb
 go_wp2_with fail
 go_ret2
 exact⟨rfl,HB.out⟩
theorem read1 (gd gf gb m:Nat) (kept:Int) (w:World) (h:Disk1 w gd gf gb m kept) :
  Calls Tryz.prog 103 #[.pointer (some ⟨gd,0,none⟩),.string nm1] w fun e w'=>∃ p c,e=.returned (.tuple #[.slice p m c,.bool true])∧Below w.heap.size w w':=by
 have KF:=qh (find1 gd gf gb m kept w h)
 have hl:=h.lim
 have hlt:=h.lt
 obtain⟨⟨cf,a1,a2,a3⟩,⟨cb,r,b1,b2,b3⟩,⟨bs,r2,e1,e2,e3⟩,_,_⟩:=h
 have HD:=qh a3;have HF:=qh b3
 have HB1:=qh (show Blob w (.slice (some ⟨gb,0,none⟩) m cb) m from ⟨_,cb,bs,rfl,(fun h=>by cases h),b1,b2,e1,by unfold maxLen at b2;omega,e2,fun _=>⟨gb,0,rfl,e3.lt,fun i hi=>by
  rw [Nat.zero_add,e3.cell,List.getElem?_append_left (by rw [length_cells8];omega),getElem_cells8 bs i (by omega)]⟩⟩)
 have KC:=qh (fun W (h:Blob W (.slice (some ⟨gb,0,none⟩) m cb) m)=>clone8 _ m W h hl.1 (by omega))
 have HBS:=qh (Base.start w)
 clear a3 b3 e1 e2 e3
 go_enter Tryz.func103,Tryz.ntmps103
 go_wp2_with fail
 refine KF.out.mono ?_
 rintro e w1 ⟨rfl,hb⟩
 have HD:=qh (HD.out.bel hb)
 have HF:=qh (HF.out.bel hb)
 have HB1:=qh (HB1.out.bel hb)
 have HBS:=qh (HBS.out.bel hb)
 clear hb KF
 have d1:=HD.out.cell 1
 simp only [diskL,yA,yB] at d1
 have f1:=HF.out.cell 1
 simp only [yA,yB] at f1
 go_wp2_with fail
 refine (KC.out _ HB1.out).mono ?_
 rintro e w2 ⟨v,rfl,ho,hb⟩
 obtain⟨p,c,rfl⟩:=ho.shape
 have HBS:=qh (HBS.out.bel hb)
 clear hb ho d1 f1
 go_wp2_with fail
 go_ret2
 exact⟨p,c,rfl,HBS.out.below⟩
end
section
open Go.RowKit
theorem small1 (w:World):Calls Tryz.prog 99 #[.int .i64 1] w fun e w'=>e=.returned (.string ⟨#[49]⟩)∧Below w.heap.size w w':=by
 go_enter Tryz.func99,Tryz.ntmps99
 go_wp2_with fail
 go_ret
 exact⟨rfl,Below.refl _ _⟩
theorem fmt1 (w:World):Calls Tryz.prog 59 #[.int .i64 1,.int .i64 10] w fun e w'=>e=.returned (.string ⟨#[49]⟩)∧Below w.heap.size w w':=by
 have K:=qh small1
 go_enter Tryz.func59,Tryz.ntmps59
 go_wp2_with fail
 refine (K.out _).mono ?_
 rintro e w1 ⟨rfl,hb⟩
 have HB:=qh hb;clear hb
 go_wp2_with fail
 go_ret
 exact⟨rfl,HB.out⟩
theorem itoa1' (w:World):Calls Tryz.prog 40 #[.int .i64 1] w fun e w'=>e=.returned (.string ⟨#[49]⟩)∧Below w.heap.size w w':=by
 have K:=qh fmt1
 go_enter Tryz.func40,Tryz.ntmps40
 go_wp2_with fail
 refine (K.out _).mono ?_
 rintro e w1 ⟨rfl,hb⟩
 have HB:=qh hb;clear hb
 go_wp2_with fail
 go_ret
 exact⟨rfl,HB.out⟩
theorem itoa1 (w:World):Calls Tryz.prog 20 #[.int .i64 1] w fun e w'=>e=.returned (.string ⟨#[49]⟩)∧Below w.heap.size w w':=by
 have K:=qh itoa1'
 go_enter Tryz.func20,Tryz.ntmps20
 go_wp2_with fail
 refine (K.out _).mono ?_
 rintro e w1 ⟨rfl,hb⟩
 have HB:=qh hb;clear hb
 go_wp2_with fail
 go_ret
 exact⟨rfl,HB.out⟩
theorem name11 (w:World):Calls Tryz.prog 109 #[.agg #[.int .i64 1,.int .i64 1]] w fun e w'=>e=.returned (.string nm1)∧Below w.heap.size w w':=by
 have K:=qh itoa1
 go_enter Tryz.func109,Tryz.ntmps109
 go_upto_region 1 with (fail)
 go_name_world W hW
 have hW:allocs w [.cells ([.int .i64 1,.int .i64 1]:List Value).toArray 206]=W:=hW
 have HX:=qh (show Holds W (w.heap.size) 206 ([.int .i64 1,.int .i64 1]) from holds_allocs _ hW 0 rfl)
 have hbW:=below_allocs _ hW
 have hsW:=size_allocs _ hW
 simp only [List.length_cons,List.length_nil] at hsW
 clear hW
 have i0:=fun d os=>HX.out.grown d os 0
 have i1:=fun d os=>HX.out.grown d os 1
 simp only [yA,yB] at i0 i1
 have HB:=qh hbW
 clear hbW hsW HX
 refine wp_region_quiet_below (by kernel_rfl) (by kernel_rfl) ?_
 repeat go_big_quiet_step (first
  | (go_at_call 20;with_reducible exact calls_regrown fun W _=>K.out W))
 refine wpQuiet_nil ?_
 intro w2 hw'
 have HB:=qh (below_next HB.out (below_of_regrown hw'))
 clear hw' i0 i1
 go_wp2_with fail
 go_ret
 exact⟨rfl,HB.out⟩
theorem fput_b (v r:Value) (len m:Nat) (w:World) (h:Blob w v len) (hr:Blob w r m) (hl:len≤200000) (h1:1≤m) (h2:m≤16384) :
  Calls Tryz.prog 123 #[v,r] w fun e w'=>∃ v',e=.returned v'∧Own8 w' w.heap.size v' (len+(m+6))∧Below w.heap.size w w':=by
 obtain⟨p,c,bs,rfl,hn,_,_,hb⟩:=h
 obtain⟨p2,c2,bs2,rfl,hn2,_,_,hb2⟩:=hr
 refine (fput_some p p2 len c m c2 bs bs2 w hb hn (by omega) hb2 hn2 (by omega) h1 h2).mono ?_
 rintro e w' ⟨rfl,hbs,hbl,ho⟩
 exact⟨_,rfl,⟨_,hbs.len,⟨hbs.2.2.1,hbs.2.1⟩,ho⟩,hbl⟩
theorem frames0 (v:Value) (w:World) :
  Calls Tryz.prog 122 #[v,.slice none 0 0] w fun e w'=>e=.returned (.tuple #[v,.bool true])∧Below w.heap.size w w':=by
 go_enter Tryz.func122,Tryz.ntmps122
 go_wp2_with fail
 go_loop [10,0] (fun vi vb=>vi=.int .i64 0∧vb=v) (fun _ _=>0)
 case atStart=>exact⟨rfl,rfl⟩
 case round=>
  obtain⟨rfl,rfl⟩:=hrel
  go_wp2_with fail
  go_ret2
  exact⟨rfl,Below.refl _ _⟩
theorem frames1 (v r:Value) (len m gl c:Nat) (rest:List Value) (w:World) (h:Blob w v len) (hr:Blob w r m) (hg:Holds w gl 127 (r :: rest)) (hl:len≤200000) (h1:1≤m) (h2:m≤16384) :
  Calls Tryz.prog 122 #[v,.slice (some ⟨gl,0,none⟩) 1 c] w fun e w'=>∃ v',e=.returned (.tuple #[v',.bool true])∧Own8 w' w.heap.size v' (len+(m+6))∧Below w.heap.size w w':=by
 have KP:=qh (fun W (h:Blob W v len) (hr:Blob W r m)=>fput_b v r len m W h hr hl h1 h2)
 obtain⟨pr,cr,rfl⟩:=hr.shape
 have HV:=qh h;have HR:=qh hr;have HG:=qh hg
 have hm0:¬ (m:Int)=0:=by omega
 have hm1:((m:Int)==0)=false:=by simp;omega
 clear h hr hg
 go_enter Tryz.func122,Tryz.ntmps122
 go_wp2_with fail
 go_loopw [10,0] (fun vi vb wr=>∃ i:Nat,vi=.int .i64 (i:Int)∧((i=0∧vb=v∧wr=w)∨(i=1∧Own8 wr w.heap.size vb (len+(m+6))∧Below w.heap.size w wr))) (fun vi _ _=>1 - (intOf vi).toNat)
 case atStart=>exact⟨0,rfl,.inl ⟨rfl,rfl,rfl⟩⟩
 case round=>
  obtain⟨i,rfl,⟨rfl,rfl,rfl⟩|⟨rfl,ho,hb⟩⟩:=hrel
  ·have g0:=HG.out.cell 0
   simp only [yA,yB] at g0
   go_wp2_with fail
   refine (KP.out _ HV.out HR.out).mono ?_
   rintro e w1 ⟨v',rfl,ho,hb⟩
   have HO:=qh ho;have HB:=qh hb
   clear ho hb g0 hm1
   go_wp2_with fail
   go_roundw
   case rel=>exact⟨1,rfl,.inr ⟨rfl,HO.out,HB.out⟩⟩
   case measure=>simp [intOf]
  ·have HO:=qh ho;have HB:=qh hb
   clear ho hb
   go_wp2_with fail
   go_ret2
   exact⟨_,rfl,HO.out,HB.out⟩
def walL (gd:Nat) (g k:Int):List Value:=[.pointer (some ⟨gd,0,none⟩),.int .i64 g,.int .i64 k,.bool false]
theorem where0 (gw gd:Nat) (g k:Int) (w:World) (h:Holds w gw 208 (walL gd g k)) :
  Calls Tryz.prog 66 #[.pointer (some ⟨gw,0,none⟩)] w fun e w'=>e=.returned (.tuple #[.int .i64 g,.int .i64 k])∧Below w.heap.size w w':=by
 have a1:=h.cell 1
 have a2:=h.cell 2
 simp only [walL,yA,yB] at a1 a2
 clear h
 go_enter Tryz.func66,Tryz.ntmps66
 go_wp2_with fail
 go_quiet (fail)
 go_wp2_with fail
 go_ret2
 exact⟨rfl,t_drewN _ _ _⟩
theorem names0 (gd:Nat) (w:World) (h:Disk0 w gd) :
  Calls Tryz.prog 197 #[.pointer (some ⟨gd,0,none⟩)] w fun e w'=>e=.returned (.slice none 0 0)∧Below w.heap.size w w':=by
 have d1:=h.cell 1
 simp only [diskL,yA,yB] at d1
 clear h
 go_enter Tryz.func197,Tryz.ntmps197
 go_wp2_with fail
 go_loopw [11,3] (fun vi vn wr=>vi=.int .i64 0∧vn=.slice none 0 0∧wr=w) (fun _ _ _=>0)
 case atStart=>exact⟨rfl,rfl,rfl⟩
 case round=>
  obtain⟨rfl,rfl,rfl⟩:=hrel
  go_wp2_with fail
  go_ret
  exact⟨rfl,Below.refl _ _⟩
theorem greatest0 (gd:Nat) (w:World) (h:Disk0 w gd) :
  Calls Tryz.prog 106 #[.pointer (some ⟨gd,0,none⟩)] w fun e w'=>e=.returned (.int .i64 0)∧Below w.heap.size w w':=by
 have K:=qh (names0 gd w h)
 clear h
 go_enter Tryz.func106,Tryz.ntmps106
 go_wp2_with fail
 refine K.out.mono ?_
 rintro e w1 ⟨rfl,hb⟩
 have HB:=qh hb;clear hb
 go_wp2_with fail
 go_loop [15,3] (fun vi vn=>vi=.int .i64 0∧vn=.int .i64 0) (fun _ _=>0)
 case atStart=>exact⟨rfl,rfl⟩
 case round=>
  obtain⟨rfl,rfl⟩:=hrel
  go_wp2_with fail
  go_ret
  exact⟨rfl,HB.out⟩
theorem clean0 (gd:Nat) (w:World) (h:Disk0 w gd) :
  Calls Tryz.prog 107 #[.pointer (some ⟨gd,0,none⟩),.agg #[.int .i64 0,.int .i64 0]] w fun e w'=>e=.returned (.int .i64 0)∧Below w.heap.size w w':=by
 have K:=qh (fun W (h:Disk0 W gd)=>names0 gd W h)
 have HD:=qh h;clear h
 go_enter Tryz.func107,Tryz.ntmps107
 go_wp2_with fail
 have hal:Below w.heap.size w (w.alloc (.cells #[.int .i64 0,.int .i64 0] 206)):=by go_grown
 have HB:=qh hal
 have HD:=qh (HD.out.bel hal)
 clear hal
 refine (K.out _ HD.out).mono ?_
 rintro e w1 ⟨rfl,hb⟩
 have HB:=qh (below_next HB.out hb);clear hb HD
 go_wp2_with fail
 go_loop [13] (fun vi=>vi=.int .i64 0) (fun _=>0)
 case atStart=>exact rfl
 case round=>
  obtain rfl:=hrel
  go_wp2_with fail
  go_ret
  exact⟨rfl,HB.out⟩
theorem open0 (gd:Nat) (w:World) (h:Disk0 w gd) :
  Calls Tryz.prog 63 #[.pointer (some ⟨gd,0,none⟩)] w fun e w'=>∃ gw,e=.returned (.tuple #[.pointer (some ⟨gw,0,none⟩),.slice none 0 0,.int .i64 0])∧Holds w' gw 208 (walL gd 0 0)∧w.heap.size≤gw∧Below w.heap.size w w':=by
 have KG:=qh (fun W (h:Disk0 W gd)=>greatest0 gd W h)
 have KC:=qh (fun W (h:Disk0 W gd)=>clean0 gd W h)
 have HD:=qh h;have HB:=qh (Base.start w);clear h
 go_enter Tryz.func63,Tryz.ntmps63
 go_wp2_with fail
 refine (KG.out _ HD.out).mono ?_
 rintro e w1 ⟨rfl,hb⟩
 have HD:=qh (HD.out.bel hb)
 have HB:=qh (HB.out.bel hb)
 clear hb
 go_wp2_with fail
 refine (KC.out _ HD.out).mono ?_
 rintro e w2 ⟨rfl,hb⟩
 have HD:=qh (HD.out.bel hb)
 have HB:=qh (HB.out.bel hb)
 have hs:=HB.out.le
 clear hb
 go_wp2_with fail
 have HW:=qh (holds_alloc w2 208 (walL gd 0 0))
 have hal:Below w2.heap.size w2 (w2.alloc (.cells (walL gd 0 0).toArray 208)):=by go_grown
 have HB:=qh (HB.out.bel hal)
 clear hal
 go_ret3
 exact⟨_,rfl,HW.out,hs,HB.out.below⟩
end
section
open Go.RowKit
theorem write0 (gw gd len B:Nat) (g k:Int) (v:Value) (w:World) (hw:Holds w gw 208 (walL gd g k)) (h:Disk0 w gd) (hv:Own8 w B v len) (hB:gd<B) (hgf:gw≠gd) (h1:1≤len) (hml:len≤100000) :
  Calls Tryz.prog 125 #[.pointer (some ⟨gw,0,none⟩),.agg #[.int .i64 1,.int .i64 1],v] w fun e w'=>e=.returned (.int .i64 0)∧∃ gf gb,Disk1 w' gd gf gb len len∧w.heap.size≤gf∧w.heap.size≤gb∧Holds w' gw 208 (walL gd g k)∧Mv (fun k=>k=gd∨k=gw) w w':=by
 have KN:=qh name11
 have KA:=qh (fun v W (h:Disk0 W gd) (hv:Own8 W B v len)=>append0 gd len B v W h hv hB h1 hml)
 have KS:=qh (fun gf gb W (h:Disk1 W gd gf gb len 0)=>sync1 gd gf gb len 0 W h)
 have HD:=qh h
 have HW:=qh hw;have HV:=qh hv
 have hlw:=hw.lt
 obtain⟨pv,cv,rfl⟩:=hv.shape
 have hgw:gw<w.heap.size∧gd<w.heap.size:=⟨hw.lt,h.lt⟩
 clear hw hv h
 generalize hnm:nm1=nm at KN KA KS ⊢
 clear hnm
 go_enter Tryz.func125,Tryz.ntmps125
 go_upto_region 1 with (fail)
 go_name_world W hW
 have hW:allocs w [.cells ([.int .i64 1,.int .i64 1]:List Value).toArray 206]=W:=hW
 have HX:=qh (show Holds W (w.heap.size) 206 ([.int .i64 1,.int .i64 1]) from holds_allocs _ hW 0 rfl)
 have hbW:=below_allocs _ hW
 have hsW:=size_allocs _ hW
 simp only [List.length_cons,List.length_nil] at hsW
 clear hW
 have HW:=qh (HW.out.bel hbW)
 have HV:=qh (HV.out.bel hbW)
 have HD:=qh (HD.out.bel hbW)
 have HM:=qh ((Mv.refl (fun k=>k=gd∨k=gw) w).bel hbW)
 clear hbW hsW
 have HX:=qh (HX.out.bel (t_drew _ W))
 have HW:=qh (HW.out.bel (t_drew _ W))
 have HV:=qh (HV.out.bel (t_drew _ W))
 have HD:=qh (HD.out.bel (t_drew _ W))
 have HM:=qh (HM.out.bel (t_drew _ W))
 refine wp_region_noPanic ?_
 refine wp_region_late (S:=fun W'=>Below W.drew.heap.size W.drew W') (X0:=[7]) (by as_aux_lemma=>kernel_rfl) ?_
 generalize W.drew=wd at HX HW HV HD HM ⊢
 have hSn:Below wd.heap.size wd wd:=Below.refl _ _
 change wpAnyL _ _ _ _ _ _ 9 #[false,false,false,false,false,false,false,false,false] _ _
 refine mvA 0 (some 8) (fun _=>hSn) ?_
 simp only [Act.put,zA,zB,zC]
 refine mvA 1 (some 9) (fun _=>hSn) ?_
 simp only [Act.put,zA,zB,zC]
 refine mvA 2 (some 10) (fun _=>hSn) ?_
 simp only [Act.put,zA,zB,zC]
 refine tkA 3 [7,8] (some 11) (?vg4) rfl (Or.inl ⟨by rfl,?hg4⟩) hSn ?rg4
 case hg4=>
  intro w hSw
  have b0:=(HW.out.bel hSw).cell 0
  simp only [walL,yA,yB] at b0
  go_simp
  try with_reducible rfl
 simp only [Act.put,zA,zB,zC]
 refine tkA 4 [5,7,8] (some 12) (?vg5) rfl (Or.inl ⟨by rfl,?hg5⟩) hSn ?rg5
 case hg5=>
  intro w hSw
  have b0:=(HX.out.bel hSw).cell 0
  have b1:=(HX.out.bel hSw).cell 1
  simp only [yA,yB] at b0 b1
  go_simp
  try with_reducible rfl
 simp only [Act.put,zA,zB,zC]
 refine mvA 6 (some 14) (fun _=>hSn) ?_
 simp only [Act.put,zA,zB,zC]
 refine rd1 5 rfl (fun K hK=>?_)
 go_simp
 refine (KN.out _).mono ?_
 rintro e w3 ⟨rfl,hb⟩
 have hSn:=below_next hSn hb
 clear hb
 refine hK.out _ _ (fun _=>hSn) ?_
 clear hK
 try simp only [Act.put,zA,zB,zC]
 refine rd1 7 rfl (fun K hK=>?_)
 go_simp
 refine (KA.out _ _ (HD.out.bel hSn) (HV.out.bel hSn)).mono ?_
 rintro e w4 ⟨rfl,gf,gb1,hd4,hgf1,hgb1,ht4⟩
 refine hK.out _ _ nlA ?_
 clear hK
 try simp only [Act.put,zA,zB,zC]
 refine mvA 8 (some 7) nlA ?_
 simp only [Act.put,zA,zB,zC]
 refine dnA (NoPanic.normal ?_)
 have hxg:gd≠w.heap.size∧gw≠w.heap.size:=by omega
 have hsz:=HM.out.size
 have hsz2:=hSn.size
 have HX:=qh ((HX.out.bel hSn).touch ht4 (by omega))
 have HW:=qh ((HW.out.bel hSn).touch ht4 (by omega))
 have HM:=qh ((HM.out.bel hSn).touch ht4 (.inl (.inl rfl)))
 have HD1:=qh hd4
 clear hd4 ht4
 clear hSn HV HD
 go_wp2_with fail
 go_upto_region 5 with (fail)
 have HX:=qh (HX.out.bel (t_drew _ w4))
 have HW:=qh (HW.out.bel (t_drew _ w4))
 have HD1:=qh (HD1.out.bel (t_drew _ w4))
 have HM:=qh (HM.out.bel (t_drew _ w4))
 refine wp_region_noPanic ?_
 refine wp_region_late (S:=fun W'=>Below w4.drew.heap.size w4.drew W') (X0:=[6]) (by as_aux_lemma=>kernel_rfl) ?_
 generalize w4.drew=wd at HX HW HD1 HM ⊢
 have hSn:Below wd.heap.size wd wd:=Below.refl _ _
 change wpAnyL _ _ _ _ _ _ 8 #[false,false,false,false,false,false,false,false] _ _
 refine mvA 0 (some 21) (fun _=>hSn) ?_
 simp only [Act.put,zA,zB,zC]
 refine mvA 1 (some 22) (fun _=>hSn) ?_
 simp only [Act.put,zA,zB,zC]
 refine mvA 2 (some 23) (fun _=>hSn) ?_
 simp only [Act.put,zA,zB,zC]
 refine tkA 3 [6,7] (some 24) (?vg11) rfl (Or.inl ⟨by rfl,?hg11⟩) hSn ?rg11
 case hg11=>
  intro w hSw
  have b0:=(HW.out.bel hSw).cell 0
  simp only [walL,yA,yB] at b0
  go_simp
  try with_reducible rfl
 simp only [Act.put,zA,zB,zC]
 refine tkA 4 [5,6,7] (some 25) (?vg12) rfl (Or.inl ⟨by rfl,?hg12⟩) hSn ?rg12
 case hg12=>
  intro w hSw
  have b0:=(HX.out.bel hSw).cell 0
  have b1:=(HX.out.bel hSw).cell 1
  simp only [yA,yB] at b0 b1
  go_simp
  try with_reducible rfl
 simp only [Act.put,zA,zB,zC]
 refine rd1 5 rfl (fun K hK=>?_)
 go_simp
 refine (KN.out _).mono ?_
 rintro e w5 ⟨rfl,hb⟩
 have hSn:=below_next hSn hb
 clear hb
 refine hK.out _ _ (fun _=>hSn) ?_
 clear hK
 try simp only [Act.put,zA,zB,zC]
 refine rd1 6 rfl (fun K hK=>?_)
 go_simp
 refine (KS.out _ _ _ (HD1.out.bel hSn)).mono ?_
 rintro e w6 ⟨rfl,hd6,ht6⟩
 have HD6:=qh hd6;have HT6:=qh ht6
 clear hd6 ht6
 refine hK.out _ _ nlA ?_
 clear hK
 try simp only [Act.put,zA,zB,zC]
 refine mvA 7 (some 7) nlA ?_
 simp only [Act.put,zA,zB,zC]
 refine dnA (NoPanic.normal ?_)
 have HW:=qh ((HW.out.bel hSn).touch HT6.out (by omega))
 have HM:=qh ((HM.out.bel hSn).touch HT6.out (.inr (by omega)))
 clear hSn HD1 HX HT6
 go_wp2_with (first
  | (refine wpList_store_cell rfl 4 (.tmp 32) (.tmp 30) rfl rfl gw 3 208 _ HW.out (by simp [walL]) rfl (.bool false) rfl rfl (by kernel_rfl) rfl ?_;intro w7 hh7 ht7))
 have HW:=qh (show Holds w7 gw 208 (walL gd g k) from hh7)
 have HD6:=qh (HD6.out.mv (Mv.of_touch (F:=fun k=>k=gw) ht7 rfl) (by omega) (by omega) (by omega))
 have HM:=qh (HM.out.touch ht7 (.inl (.inr rfl)))
 clear hh7 ht7
 go_wp2_with fail
 go_ret
 exact⟨rfl,gf,gb1,HD6.out,by omega,by omega,HW.out,HM.out⟩
theorem write1 (gw gd gf gb m len B:Nat) (kept:Int) (g k:Int) (v:Value) (w:World) (hw:Holds w gw 208 (walL gd g k)) (h:Disk1 w gd gf gb m kept) (hv:Own8 w B v len) (hB:gd<B) (hgf:gw≠gd∧gw≠gf∧gw≠gb) (h1:1≤len) (hml:m+len≤100000) :
  Calls Tryz.prog 125 #[.pointer (some ⟨gw,0,none⟩),.agg #[.int .i64 1,.int .i64 1],v] w fun e w'=>e=.returned (.int .i64 0)∧∃ gb',Disk1 w' gd gf gb' (m+len) (m+len:Nat)∧w.heap.size≤gb'∧Holds w' gw 208 (walL gd g k)∧Mv (fun k=>k=gf∨k=gw) w w':=by
 have KN:=qh name11
 have KA:=qh (fun v W (h:Disk1 W gd gf gb m kept) (hv:Blob W v len)=>append1 gd gf gb m len kept v W h hv h1 hml)
 have KS:=qh (fun gb m W (h:Disk1 W gd gf gb m kept)=>sync1 gd gf gb m kept W h)
 have HD:=qh h
 have hlt:=h.lt
 have HW:=qh hw;have HV:=qh hv
 have hlw:=hw.lt
 obtain⟨pv,cv,rfl⟩:=hv.shape
 have hgw:gw<w.heap.size∧gd<w.heap.size:=⟨hw.lt,h.lt.1⟩
 clear hw hv h
 generalize hnm:nm1=nm at KN KA KS ⊢
 clear hnm
 go_enter Tryz.func125,Tryz.ntmps125
 go_upto_region 1 with (fail)
 go_name_world W hW
 have hW:allocs w [.cells ([.int .i64 1,.int .i64 1]:List Value).toArray 206]=W:=hW
 have HX:=qh (show Holds W (w.heap.size) 206 ([.int .i64 1,.int .i64 1]) from holds_allocs _ hW 0 rfl)
 have hbW:=below_allocs _ hW
 have hsW:=size_allocs _ hW
 simp only [List.length_cons,List.length_nil] at hsW
 clear hW
 have HW:=qh (HW.out.bel hbW)
 have HV:=qh (HV.out.bel hbW)
 have HD:=qh (HD.out.bel hbW)
 have HM:=qh ((Mv.refl (fun k=>k=gf∨k=gw) w).bel hbW)
 clear hbW hsW
 have HX:=qh (HX.out.bel (t_drew _ W))
 have HW:=qh (HW.out.bel (t_drew _ W))
 have HV:=qh (HV.out.bel (t_drew _ W))
 have HD:=qh (HD.out.bel (t_drew _ W))
 have HM:=qh (HM.out.bel (t_drew _ W))
 refine wp_region_noPanic ?_
 refine wp_region_late (S:=fun W'=>Below W.drew.heap.size W.drew W') (X0:=[7]) (by as_aux_lemma=>kernel_rfl) ?_
 generalize W.drew=wd at HX HW HV HD HM ⊢
 have hSn:Below wd.heap.size wd wd:=Below.refl _ _
 change wpAnyL _ _ _ _ _ _ 9 #[false,false,false,false,false,false,false,false,false] _ _
 refine mvA 0 (some 8) (fun _=>hSn) ?_
 simp only [Act.put,zA,zB,zC]
 refine mvA 1 (some 9) (fun _=>hSn) ?_
 simp only [Act.put,zA,zB,zC]
 refine mvA 2 (some 10) (fun _=>hSn) ?_
 simp only [Act.put,zA,zB,zC]
 refine tkA 3 [7,8] (some 11) (?vg17) rfl (Or.inl ⟨by rfl,?hg17⟩) hSn ?rg17
 case hg17=>
  intro w hSw
  have b0:=(HW.out.bel hSw).cell 0
  simp only [walL,yA,yB] at b0
  go_simp
  try with_reducible rfl
 simp only [Act.put,zA,zB,zC]
 refine tkA 4 [5,7,8] (some 12) (?vg18) rfl (Or.inl ⟨by rfl,?hg18⟩) hSn ?rg18
 case hg18=>
  intro w hSw
  have b0:=(HX.out.bel hSw).cell 0
  have b1:=(HX.out.bel hSw).cell 1
  simp only [yA,yB] at b0 b1
  go_simp
  try with_reducible rfl
 simp only [Act.put,zA,zB,zC]
 refine mvA 6 (some 14) (fun _=>hSn) ?_
 simp only [Act.put,zA,zB,zC]
 refine rd1 5 rfl (fun K hK=>?_)
 go_simp
 refine (KN.out _).mono ?_
 rintro e w3 ⟨rfl,hb⟩
 have hSn:=below_next hSn hb
 clear hb
 refine hK.out _ _ (fun _=>hSn) ?_
 clear hK
 try simp only [Act.put,zA,zB,zC]
 refine rd1 7 rfl (fun K hK=>?_)
 go_simp
 refine (KA.out _ _ (HD.out.bel hSn) (HV.out.bel hSn).blob).mono ?_
 rintro e w4 ⟨rfl,gb1,hd4,hgb1,ht4⟩
 refine hK.out _ _ nlA ?_
 clear hK
 try simp only [Act.put,zA,zB,zC]
 refine mvA 8 (some 7) nlA ?_
 simp only [Act.put,zA,zB,zC]
 refine dnA (NoPanic.normal ?_)
 have hxg:gd≠w.heap.size∧gw≠w.heap.size:=by omega
 have hsz:=HM.out.size
 have hsz2:=hSn.size
 have HX:=qh ((HX.out.bel hSn).touch ht4 (by omega))
 have HW:=qh ((HW.out.bel hSn).touch ht4 (by omega))
 have HM:=qh ((HM.out.bel hSn).touch ht4 (.inl (.inl rfl)))
 have HD1:=qh hd4
 clear hd4 ht4
 clear hSn HV HD
 go_wp2_with fail
 go_upto_region 5 with (fail)
 have HX:=qh (HX.out.bel (t_drew _ w4))
 have HW:=qh (HW.out.bel (t_drew _ w4))
 have HD1:=qh (HD1.out.bel (t_drew _ w4))
 have HM:=qh (HM.out.bel (t_drew _ w4))
 refine wp_region_noPanic ?_
 refine wp_region_late (S:=fun W'=>Below w4.drew.heap.size w4.drew W') (X0:=[6]) (by as_aux_lemma=>kernel_rfl) ?_
 generalize w4.drew=wd at HX HW HD1 HM ⊢
 have hSn:Below wd.heap.size wd wd:=Below.refl _ _
 change wpAnyL _ _ _ _ _ _ 8 #[false,false,false,false,false,false,false,false] _ _
 refine mvA 0 (some 21) (fun _=>hSn) ?_
 simp only [Act.put,zA,zB,zC]
 refine mvA 1 (some 22) (fun _=>hSn) ?_
 simp only [Act.put,zA,zB,zC]
 refine mvA 2 (some 23) (fun _=>hSn) ?_
 simp only [Act.put,zA,zB,zC]
 refine tkA 3 [6,7] (some 24) (?vg24) rfl (Or.inl ⟨by rfl,?hg24⟩) hSn ?rg24
 case hg24=>
  intro w hSw
  have b0:=(HW.out.bel hSw).cell 0
  simp only [walL,yA,yB] at b0
  go_simp
  try with_reducible rfl
 simp only [Act.put,zA,zB,zC]
 refine tkA 4 [5,6,7] (some 25) (?vg25) rfl (Or.inl ⟨by rfl,?hg25⟩) hSn ?rg25
 case hg25=>
  intro w hSw
  have b0:=(HX.out.bel hSw).cell 0
  have b1:=(HX.out.bel hSw).cell 1
  simp only [yA,yB] at b0 b1
  go_simp
  try with_reducible rfl
 simp only [Act.put,zA,zB,zC]
 refine rd1 5 rfl (fun K hK=>?_)
 go_simp
 refine (KN.out _).mono ?_
 rintro e w5 ⟨rfl,hb⟩
 have hSn:=below_next hSn hb
 clear hb
 refine hK.out _ _ (fun _=>hSn) ?_
 clear hK
 try simp only [Act.put,zA,zB,zC]
 refine rd1 6 rfl (fun K hK=>?_)
 go_simp
 refine (KS.out _ _ _ (HD1.out.bel hSn)).mono ?_
 rintro e w6 ⟨rfl,hd6,ht6⟩
 have HD6:=qh hd6;have HT6:=qh ht6
 clear hd6 ht6
 refine hK.out _ _ nlA ?_
 clear hK
 try simp only [Act.put,zA,zB,zC]
 refine mvA 7 (some 7) nlA ?_
 simp only [Act.put,zA,zB,zC]
 refine dnA (NoPanic.normal ?_)
 have HW:=qh ((HW.out.bel hSn).touch HT6.out (by omega))
 have HM:=qh ((HM.out.bel hSn).touch HT6.out (.inl (.inl rfl)))
 clear hSn HD1 HX HT6
 go_wp2_with (first
  | (refine wpList_store_cell rfl 4 (.tmp 32) (.tmp 30) rfl rfl gw 3 208 _ HW.out (by simp [walL]) rfl (.bool false) rfl rfl (by kernel_rfl) rfl ?_;intro w7 hh7 ht7))
 have HW:=qh (show Holds w7 gw 208 (walL gd g k) from hh7)
 have HD6:=qh (HD6.out.mv (Mv.of_touch (F:=fun k=>k=gw) ht7 rfl) (by omega) (by omega) (by omega))
 have HM:=qh (HM.out.touch ht7 (.inl (.inr rfl)))
 clear hh7 ht7
 go_wp2_with fail
 go_ret
 exact⟨rfl,gb1,HD6.out,by omega,HW.out,HM.out⟩
end
end Go.Proofs.YtimdpiifpibgfaaGreatDoor
