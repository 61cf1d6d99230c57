/- For every input the law TopFast returns true (a part of the proof). Condition: the listed variables start as the program's text lays them. -/
import Derived.Lib.AppendZeros
import Derived.Test.YtimdpiifpibgfaaGreatDoorQf16
set_option linter.unusedVariables false
set_option linter.unusedSimpArgs false
set_option maxRecDepth 20000
set_option maxHeartbeats 16000000
namespace Go.Proofs.YtimdpiifpibgfaaGreatDoor
section
open Go.RowKit Go.Maps
theorem cloneLead_nil (w:World):Calls Tryz.prog 77 #[.slice none 0 0] w fun e w'=>e=.returned (.slice none 0 0)∧Below w.heap.size w w':=by
 have he:∀ W:World,(binOp .eql 156 (.slice none 0 0) (.slice none 0 0)).run Tryz.prog W=.ok (.bool true) W:=fun _=>by kernel_rfl
 go_enter Tryz.func77,Tryz.ntmps77
 go_wp2_with fail
 go_ret
 exact⟨rfl,Below.refl _ _⟩
theorem cloneWish_nil (w:World):Calls Tryz.prog 85 #[.slice none 0 0] w fun e w'=>e=.returned (.slice none 0 0)∧Below w.heap.size w w':=by
 have he:∀ W:World,(binOp .eql 161 (.slice none 0 0) (.slice none 0 0)).run Tryz.prog W=.ok (.bool true) W:=fun _=>by kernel_rfl
 go_enter Tryz.func85,Tryz.ntmps85
 go_wp2_with fail
 go_ret
 exact⟨rfl,Below.refl _ _⟩
theorem list_none (gl gm nl:Nat) (w:World) (h:LogAt w gl gm nl []):Calls Tryz.prog 81 #[.pointer (some ⟨gl,0,none⟩)] w fun e w'=>∃ p c,e=.returned (.slice p 0 c)∧Below w.heap.size w w':=by
 refine (llist_any gl gm nl [] w h (by simp)).mono ?_
 rintro e w' ⟨v,xs,rfl,ho,_,hb⟩
 rcases ho.2 with⟨rfl,_⟩|⟨g,cap,cur,rfl,_⟩
 ·exact⟨none,0,rfl,hb⟩
 ·exact⟨some ⟨g,0,none⟩,cap,rfl,hb⟩
theorem tick_none (gc n me gl gm nl gi:Nat) (recs out:Value) (w:World) (h:Holds w gc 163 (coreL n me gl gi (.slice none 0 0) recs out)) (hl:LogAt w gl gm nl []) :
  Calls Tryz.prog 52 #[.pointer (some ⟨gc,0,none⟩)] w fun e w'=>e=.returned (.tuple #[])∧Below w.heap.size w w':=by
 have KC:=qh cloneLead_nil
 have KW:=qh cloneWish_nil
 have KL:=qh (fun W h=>list_none gl gm nl W h)
 have HC:=qh h;have HL:=qh hl
 have HB:=qh (Base.start w)
 clear h hl
 go_enter Tryz.func52,Tryz.ntmps52
 generalize hB0:w.heap.size=B at HB ⊢
 have d4:=HC.out.cell 4
 simp only [coreL,yA,yB] at d4
 go_wp2_with fail
 refine (KC.out _).mono ?_
 rintro e w1 ⟨rfl,hb⟩
 have HC:=qh (HC.out.bel hb)
 have HL:=qh (HL.out.bel hb)
 have HB:=qh (HB.out.bel hb)
 clear hb d4
 go_wp2_with fail
 go_loopw [17] (fun vi wr=>vi=.int .i64 0∧wr=w1) (fun _ _=>0)
 case atStart=>exact⟨rfl,rfl⟩
 case round=>
  obtain⟨rfl,rfl⟩:=hrel
  have d2:=HC.out.cell 2
  simp only [coreL,yA,yB] at d2
  go_wp2_with fail
  refine (KL.out _ HL.out).mono ?_
  rintro e w2 ⟨p,cc,rfl,hb⟩
  have HC:=qh (HC.out.bel hb)
  have HB:=qh (HB.out.bel hb)
  clear hb d2 HL
  go_wp2_with fail
  go_loopw [61] (fun vi wr=>vi=.int .i64 0∧wr=w2) (fun _ _=>0)
  case atStart=>exact⟨rfl,rfl⟩
  case round=>
   obtain⟨rfl,rfl⟩:=hrel
   have d5:=HC.out.cell 5
   simp only [coreL,yA,yB] at d5
   go_wp2_with fail
   refine (KW.out _).mono ?_
   rintro e w3 ⟨rfl,hb⟩
   have HB:=qh (HB.out.bel hb)
   clear hb d5 HC
   go_wp2_with fail
   go_loopw [93] (fun vi wr=>vi=.int .i64 0∧wr=w3) (fun _ _=>0)
   case atStart=>exact⟨rfl,rfl⟩
   case round=>
    obtain⟨rfl,rfl⟩:=hrel
    go_wp2_with fail
    exact bodyPost_end (v:=.tuple #[]) (by simp [results,Tryz.results52,go_sem]) rfl ⟨rfl,HB.out.below⟩
end
section
open Go.RowKit
theorem Blob.bel {w w':World} {v:Value} {n:Nat} (h:Blob w v n) (hb:Below w.heap.size w w'):Blob w' v n:=h.below hb
theorem Own8.bel {w w':World} {B:Nat} {v:Value} {n:Nat} (h:Own8 w B v n) (hb:Below w.heap.size w w'):Own8 w' B v n:=h.below hb
def diskL (fs:Value):List Value:=[.int .i64 524288,fs,.bool false,.bool false,.int .i64 0]
abbrev Disk0 (w:World) (gd:Nat):Prop:=Holds w gd 125 (diskL (.slice none 0 0))
def nm1:ByteArray:=⟨#[108,111,103,46,49,46,49]⟩
structure Disk1 (w:World) (gd gf gb m:Nat) (kept:Int):Prop where
 d:∃ cf,1≤cf∧cf≤maxLen∧Holds w gd 125 (diskL (.slice (some ⟨gf,0,none⟩) 1 cf))
 f:∃ cb rest,m≤cb∧cb≤maxLen∧Holds w gf 129 (.string nm1 :: .slice (some ⟨gb,0,none⟩) m cb :: .int .i64 kept :: rest)
 b:∃ bs rest,bs.length=m∧(∀ x∈bs,x<256)∧Holds w gb 5 (cells8 bs++rest)
 ne:gd≠gf∧gd≠gb∧gf≠gb
 lim:1≤m∧m≤100000
theorem Disk1.keep {w w':World} {gd gf gb m:Nat} {kept:Int} (h:Disk1 w gd gf gb m kept) (h1:w'.heap[gd]?=w.heap[gd]?) (h2:w'.heap[gf]?=w.heap[gf]?) (h3:w'.heap[gb]?=w.heap[gb]?):Disk1 w' gd gf gb m kept:=by
 obtain⟨⟨cf,a1,a2,a3⟩,⟨cb,r,b1,b2,b3⟩,⟨bs,r2,c1,c2,c3⟩,hn,hl⟩:=h
 unfold Holds at a3 b3 c3
 exact⟨⟨cf,a1,a2,h1.trans a3⟩,⟨cb,r,b1,b2,h2.trans b3⟩,⟨bs,r2,c1,c2,h3.trans c3⟩,hn,hl⟩
theorem Disk1.lt {w:World} {gd gf gb m:Nat} {kept:Int} (h:Disk1 w gd gf gb m kept):gd<w.heap.size∧gf<w.heap.size∧gb<w.heap.size:=by
 obtain⟨⟨cf,a1,a2,a3⟩,⟨cb,r,b1,b2,b3⟩,⟨bs,r2,c1,c2,c3⟩,hn,hl⟩:=h
 exact⟨a3.lt,b3.lt,c3.lt⟩
theorem Disk1.bel {w w':World} {gd gf gb m:Nat} {kept:Int} (h:Disk1 w gd gf gb m kept) (hb:Below w.heap.size w w'):Disk1 w' gd gf gb m kept:=h.keep (hb.block _ h.lt.1) (hb.block _ h.lt.2.1) (hb.block _ h.lt.2.2)
theorem Disk1.mv {w w':World} {F:Foot} {gd gf gb m:Nat} {kept:Int} (h:Disk1 w gd gf gb m kept) (hm:Mv F w w') (h1:¬ F gd) (h2:¬ F gf) (h3:¬ F gb):Disk1 w' gd gf gb m kept:=h.keep (hm.block _ h.lt.1 h1) (hm.block _ h.lt.2.1 h2) (hm.block _ h.lt.2.2 h3)
theorem disk_new (w:World) :
  Calls Tryz.prog 44 #[.int .i64 524288] w fun e w'=>e=.returned (.tuple #[.pointer (some ⟨w.heap.size,0,none⟩),.int .i64 0])∧Disk0 w' w.heap.size∧Below w.heap.size w w':=by
 go_enter Tryz.func44,Tryz.ntmps44
 go_wp2_with fail
 go_ret2
 exact⟨rfl,holds_alloc w _ _,by go_grown⟩
theorem find0 (gd:Nat) (s:ByteArray) (w:World) (h:Disk0 w gd) :
  Calls Tryz.prog 189 #[.pointer (some ⟨gd,0,none⟩),.string s] w fun e w'=>e=.returned (.tuple #[.int .i64 0,.bool false])∧Below w.heap.size w w':=by
 have HD:=qh h;clear h
 go_enter Tryz.func189,Tryz.ntmps189
 have d1:=HD.out.cell 1
 simp only [diskL,yA,yB] at d1
 go_wp2_with fail
 go_loopw [13] (fun vi wr=>vi=.int .i64 0∧wr=w) (fun _ _=>0)
 case atStart=>exact⟨rfl,rfl⟩
 case round=>
  obtain⟨rfl,rfl⟩:=hrel
  go_wp2_with fail
  go_ret2
  exact⟨rfl,Below.refl _ _⟩
theorem ge_nm1:Op.bytesLess nm1.toList nm1.toList=false:=by kernel_rfl
theorem find1 (gd gf gb m:Nat) (kept:Int) (w:World) (h:Disk1 w gd gf gb m kept) :
  Calls Tryz.prog 189 #[.pointer (some ⟨gd,0,none⟩),.string nm1] w fun e w'=>e=.returned (.tuple #[.int .i64 0,.bool true])∧Below w.heap.size w w':=by
 obtain⟨⟨cf,a1,a2,a3⟩,⟨cb,r,b1,b2,b3⟩,_,_,_⟩:=h
 have HD:=qh a3;have HF:=qh b3;clear a3 b3
 have G1:=ge_nm1
 generalize nm1=nm at HF G1 ⊢
 go_enter Tryz.func189,Tryz.ntmps189
 have d1:=HD.out.cell 1
 simp only [diskL,yA,yB] at d1
 go_wp2_with fail
 clear d1
 go_loopw [13] (fun vi wr=>vi=.int .i64 0∧wr=w) (fun _ _=>0)
 case atStart=>exact⟨rfl,rfl⟩
 case round=>
  obtain⟨rfl,rfl⟩:=hrel
  have f0:=HF.out.cell 0
  have f1:=HF.out.cell 1
  have f2:=HF.out.cell 2
  simp only [yA,yB] at f0 f1 f2
  go_wp2_with fail
  go_quiet (fail)
  go_wp2_with fail
  go_ret2
  exact⟨rfl,Below.trans (by go_grown) (t_drewN _ _ _)⟩
theorem total0 (gd:Nat) (w:World) (h:Disk0 w gd) :
  Calls Tryz.prog 279 #[.pointer (some ⟨gd,0,none⟩)] w fun e w'=>e=.returned (.int .i64 0)∧Below w.heap.size w w':=by
 have HD:=qh h;clear h
 go_enter Tryz.func279,Tryz.ntmps279
 have d1:=HD.out.cell 1
 simp only [diskL,yA,yB] at d1
 go_wp2_with fail
 go_loopw [11,3] (fun vi vn wr=>vi=.int .i64 0∧vn=.int .i64 0∧wr=w) (fun _ _ _=>0)
 case atStart=>exact⟨rfl,rfl,rfl⟩
 case round=>
  obtain⟨rfl,rfl,rfl⟩:=hrel
  go_wp2_with fail
  go_ret
  exact⟨rfl,Below.refl _ _⟩
theorem total1 (gd gf gb m:Nat) (kept:Int) (w:World) (h:Disk1 w gd gf gb m kept) :
  Calls Tryz.prog 279 #[.pointer (some ⟨gd,0,none⟩)] w fun e w'=>e=.returned (.int .i64 m)∧Below w.heap.size w w':=by
 obtain⟨⟨cf,a1,a2,a3⟩,⟨cb,r,b1,b2,b3⟩,_,_,hl⟩:=h
 have HD:=qh a3;have HF:=qh b3;clear a3 b3
 go_enter Tryz.func279,Tryz.ntmps279
 have d1:=HD.out.cell 1
 simp only [diskL,yA,yB] at d1
 go_wp2_with fail
 clear d1
 go_loopw [11,3] (fun vi vn wr=>∃ i:Nat,vi=.int .i64 (i:Int)∧((i=0∧vn=.int .i64 0∧wr=w)∨(i=1∧vn=.int .i64 m∧Below w.heap.size w wr))) (fun vi _ _=>1 - (intOf vi).toNat)
 case atStart=>exact⟨0,rfl,.inl ⟨rfl,rfl,rfl⟩⟩
 case round=>
  obtain⟨i,rfl,⟨rfl,rfl,rfl⟩|⟨rfl,rfl,hb⟩⟩:=hrel
  ·have f0:=HF.out.cell 0
   have f1:=HF.out.cell 1
   have f2:=HF.out.cell 2
   simp only [yA,yB] at f0 f1 f2
   go_wp2_with fail
   go_roundw
   case rel=>exact⟨1,rfl,.inr ⟨rfl,by simp,by go_grown⟩⟩
   case measure=>simp [intOf]
  ·have HB:=qh hb;clear hb
   go_wp2_with fail
   go_ret
   exact⟨rfl,HB.out⟩
theorem room0 (gd:Nat) (w:World) (h:Disk0 w gd) :
  Calls Tryz.prog 225 #[.pointer (some ⟨gd,0,none⟩)] w fun e w'=>e=.returned (.int .i64 524288)∧Below w.heap.size w w':=by
 have KT:=qh (fun W (h:Disk0 W gd)=>total0 gd W h)
 have HD:=qh h;have HT:=qh h;clear h
 go_enter Tryz.func225,Tryz.ntmps225
 go_upto_region 1 with (fail)
 have HB:=qh (Base.start w)
 have HB:=qh (HB.out.bel (t_drew _ w))
 have HD:=qh (HD.out.bel (t_drew _ w))
 have HT:=qh (HT.out.bel (t_drew _ w))
 refine wp_region_noPanic ?_
 refine wp_region_late (S:=fun W'=>Below w.drew.heap.size w.drew W') (X0:=[]) (by as_aux_lemma=>kernel_rfl) ?_
 generalize w.drew=wd at HB HD HT ⊢
 have hSn:Below wd.heap.size wd wd:=Below.refl _ _
 change wpAnyL _ _ _ _ _ _ 8 #[false,false,false,false,false,false,false,false] _ _
 refine mvA 0 (some 3) (fun _=>hSn) ?_
 simp only [Act.put,zA,zB,zC]
 refine mvA 1 (some 4) (fun _=>hSn) ?_
 simp only [Act.put,zA,zB,zC]
 refine mvA 2 (some 5) (fun _=>hSn) ?_
 simp only [Act.put,zA,zB,zC]
 refine tkA 3 [] (some 6) (?vg4) rfl (Or.inl ⟨by rfl,?hg4⟩) hSn ?rg4
 case hg4=>
  intro w hSw
  have b0:=(HD.out.bel hSw).cell 0
  simp only [diskL,yA,yB] at b0
  go_simp
  try with_reducible rfl
 simp only [Act.put,zA,zB,zC]
 refine mvA 4 (some 7) (fun _=>hSn) ?_
 simp only [Act.put,zA,zB,zC]
 refine rd1 5 rfl (fun K hK=>?_)
 go_simp
 refine (KT.out _ (HT.out.bel hSn)).mono ?_
 rintro e w1 ⟨rfl,hb⟩
 have hSn:=below_next hSn hb
 clear hb
 refine hK.out _ _ (fun _=>hSn) ?_
 clear hK
 try simp only [Act.put,zA,zB,zC]
 refine mvA 6 (some 9) (fun _=>hSn) ?_
 simp only [Act.put,zA,zB,zC]
 refine mvA 7 (some 2) (fun _=>hSn) ?_
 simp only [Act.put,zA,zB,zC]
 refine dnA (NoPanic.normal ?_)
 have HB:=qh (HB.out.bel hSn)
 have HD:=qh (HD.out.bel hSn)
 have HT:=qh (HT.out.bel hSn)
 clear hSn
 go_wp2_with fail
 go_ret
 exact⟨rfl,HB.out.below⟩
theorem room1 (gd gf gb m:Nat) (kept:Int) (w:World) (h:Disk1 w gd gf gb m kept) :
  Calls Tryz.prog 225 #[.pointer (some ⟨gd,0,none⟩)] w fun e w'=>e=.returned (.int .i64 (524288-m))∧Below w.heap.size w w':=by
 have KT:=qh (fun W (h:Disk1 W gd gf gb m kept)=>total1 gd gf gb m kept W h)
 obtain⟨cf,a1,a2,a3⟩:=h.d
 have HD:=qh a3;have HT:=qh h
 have hm:=h.lim
 clear h a3
 go_enter Tryz.func225,Tryz.ntmps225
 go_upto_region 1 with (fail)
 have HB:=qh (Base.start w)
 have HB:=qh (HB.out.bel (t_drew _ w))
 have HD:=qh (HD.out.bel (t_drew _ w))
 have HT:=qh (HT.out.bel (t_drew _ w))
 refine wp_region_noPanic ?_
 refine wp_region_late (S:=fun W'=>Below w.drew.heap.size w.drew W') (X0:=[]) (by as_aux_lemma=>kernel_rfl) ?_
 generalize w.drew=wd at HB HD HT ⊢
 have hSn:Below wd.heap.size wd wd:=Below.refl _ _
 change wpAnyL _ _ _ _ _ _ 8 #[false,false,false,false,false,false,false,false] _ _
 refine mvA 0 (some 3) (fun _=>hSn) ?_
 simp only [Act.put,zA,zB,zC]
 refine mvA 1 (some 4) (fun _=>hSn) ?_
 simp only [Act.put,zA,zB,zC]
 refine mvA 2 (some 5) (fun _=>hSn) ?_
 simp only [Act.put,zA,zB,zC]
 refine tkA 3 [] (some 6) (?vg11) rfl (Or.inl ⟨by rfl,?hg11⟩) hSn ?rg11
 case hg11=>
  intro w hSw
  have b0:=(HD.out.bel hSw).cell 0
  simp only [diskL,yA,yB] at b0
  go_simp
  try with_reducible rfl
 simp only [Act.put,zA,zB,zC]
 refine mvA 4 (some 7) (fun _=>hSn) ?_
 simp only [Act.put,zA,zB,zC]
 refine rd1 5 rfl (fun K hK=>?_)
 go_simp
 refine (KT.out _ (HT.out.bel hSn)).mono ?_
 rintro e w1 ⟨rfl,hb⟩
 have hSn:=below_next hSn hb
 clear hb
 refine hK.out _ _ (fun _=>hSn) ?_
 clear hK
 try simp only [Act.put,zA,zB,zC]
 refine mvA 6 (some 9) (fun _=>hSn) ?_
 simp only [Act.put,zA,zB,zC]
 refine mvA 7 (some 2) (fun _=>hSn) ?_
 simp only [Act.put,zA,zB,zC]
 refine dnA (NoPanic.normal ?_)
 have HB:=qh (HB.out.bel hSn)
 have HD:=qh (HD.out.bel hSn)
 have HT:=qh (HT.out.bel hSn)
 clear hSn
 go_wp2_with fail
 go_ret
 exact⟨ret_int (IntWalk.i64_in _ (by omega)),HB.out.below⟩
theorem power_ok (gd:Nat) (fs:Value) (w:World) (h:Holds w gd 125 (diskL fs)) :
  Calls Tryz.prog 195 #[.pointer (some ⟨gd,0,none⟩)] w fun e w'=>e=.returned (.int .i64 0)∧Below w.heap.size w w':=by
 have d3:=h.cell 3
 simp only [diskL,yA,yB] at d3
 clear h
 go_enter Tryz.func195,Tryz.ntmps195
 go_wp2_with fail
 go_ret
 exact⟨rfl,Below.refl _ _⟩
theorem known1 (gd gf gb m:Nat) (kept:Int) (w:World) (h:Disk1 w gd gf gb m kept) :
  Calls Tryz.prog 194 #[.pointer (some ⟨gd,0,none⟩),.string nm1] w fun e w'=>e=.returned (.tuple #[.int .i64 0,.int .i64 0])∧Below w.heap.size w w':=by
 have KF:=qh (find1 gd gf gb m kept w h)
 obtain⟨⟨cf,a1,a2,a3⟩,_,_,_,_⟩:=h
 have HD:=qh a3;clear a3
 go_enter Tryz.func194,Tryz.ntmps194
 have d2:=HD.out.cell 2
 simp only [diskL,yA,yB] at d2
 go_wp2_with fail
 refine KF.out.mono ?_
 rintro e w1 ⟨rfl,hb⟩
 have HB:=qh hb;clear hb d2
 go_wp2_with fail
 go_ret2
 exact⟨rfl,HB.out⟩
end
section
open Go.RowKit
theorem Blob.some {w:World} {v:Value} {m:Nat} (h:Blob w v m) (h1:1≤m):∃ b off c bs,v=.slice (Option.some ⟨b,off,none⟩) m c∧m≤c∧c≤maxLen∧IsBytes w (Option.some ⟨b,off,none⟩) m bs:=by
 obtain⟨p,c,bs,rfl,_,h3,h4,h5⟩:=h
 obtain⟨b,off,rfl,_,_⟩:=h5.2.2.2 h1
 exact⟨b,off,c,bs,rfl,h3,h4,h5⟩
theorem OwnS.own8 {w:World} {v:Value} {g B m:Nat} {bs:List Nat} (h:OwnS w v (Option.some g) 5 1 m (cells8 bs)) (hb:∀ x∈bs,x<256) (hg:B≤g) (hm:m≤281474976710656):Own8 w B v m:=by
 obtain⟨⟨hl,h2⟩,hob⟩:=h
 rw [length_cells8,Nat.mul_one] at hl
 refine⟨bs,hl,⟨hb,hm⟩,by rw [length_cells8,hl,Nat.mul_one],h2.imp id fun ⟨g',cap,cur,hv,_,r⟩=>⟨g',cap,cur,hv,?_,r⟩⟩
 rw [hv] at hob
 cases hob
 exact hg
theorem clone8 (v:Value) (m:Nat) (w:World) (h:Blob w v m) (h1:1≤m) (hm:m≤1000000) :
  Calls Tryz.prog 56 #[v] w fun e w'=>∃ v',e=.returned v'∧Own8 w' w.heap.size v' m∧Below w.heap.size w w':=by
 obtain⟨b,off,c,bs,rfl,hc,hcm,hb⟩:=h.some h1
 have hl:=hb.len
 have h256:=hb.2.2.1
 have HS:=qh hb
 have HO1:=qh (show OwnS (w.alloc (.cells #[] 5)) (.slice (Option.some ⟨w.heap.size,0,none⟩) 0 0) (Option.some w.heap.size) 5 1 0 [] from ⟨World.ownsRow_lit (size:=1) w #[] 0 (Nat.zero_le _) (by unfold maxLen;omega) (by simp),rfl⟩)
 have ha:Below w.heap.size w (w.alloc (.cells #[] 5)):=by go_grown
 have HA:=qh ha;have hsz:=ha.size
 clear hb ha h
 have he:∀ W:World,(binOp .eql 127 (.slice (Option.some ⟨b,off,none⟩) m c) (.slice none 0 0)).run Tryz.prog W=.ok (.bool false) W:=fun _=>by kernel_rfl
 go_enter Tryz.func56,Tryz.ntmps56
 go_wp2_with (first
  | (at_builtin;refine wpList_append_s rfl (.tmp 5) (.tmp 6) 127 rfl 5 (.int .u8 0) 1 1 rfl (by kernel_rfl) rfl (by decide) _ _ 0 _ rfl HO1.out (Option.some ⟨b,off,none⟩) m c (cells8 bs) rfl (by rw [length_cells8,hl,Nat.mul_one]) (HS.out.reads.below HA.out) (by omega) (cells8_one _) (by unfold maxLen;omega) (by omega) ?_;intro v2 ob2 w2 ho2 hob2 hm2))
 have H2:=qh ho2
 have HB:=qh (HA.out.trans (hm2.below hsz (fun k hk=>by cases hk;exact Nat.le_refl _)))
 have hg:∃ g,ob2=Option.some g∧w.heap.size≤g:=by
  rcases hob2 with hc|⟨k,hk,hk2⟩
  ·exact⟨_,hc,Nat.le_refl _⟩
  ·exact⟨k,hk,by omega⟩
 obtain⟨g,rfl,hg⟩:=hg
 clear ho2 hm2 hob2
 go_ret
 have h3:=H2.out
 rw [Nat.zero_add,List.nil_append] at h3
 exact⟨_,rfl,h3.own8 h256 hg (by omega),HB.out⟩
theorem grow8 (n:Nat) (w:World) (h1:1≤n) (hn:n≤1000000) :
  Calls Tryz.prog 282 #[.slice none 0 0,.int .i64 n] w fun e w'=>∃ v g,e=.returned v∧OwnS w' v (Option.some g) 5 1 0 []∧w.heap.size≤g∧Below w.heap.size w w':=by
 obtain⟨i,hi0,hz,hsize,hby⟩:=info_parts (show (Tryz.prog.info? 5).map (fun i=>(i.zero,i.size,i.bytes))=Option.some (Option.some (.int .u8 0),1,1) by kernel_rfl)
 have hrun:=fun ty=>Lib.run_append_nil_zeros (P:=Tryz.prog) w 127 3 ty 5 i (.int .u8 0) .i64 .i64 Tryz.underlying127 Tryz.underlying3 hi0 hz n h1 (by omega) (by omega) (by rw [hby];omega)
 have hge:=grownCap_ge w n 0 5
 have hle:=grownCap_le_maxLen w n 0 5 (by unfold maxLen;omega)
 have HR:=qh hrun
 clear hrun hi0 hz hsize hby
 generalize grownCap w n 0 5=c at HR hge hle
 have hb:Below w.heap.size w (w.drew.alloc (.cells (Builtin.zeroCells (Value.int .u8 0).cells n++Builtin.zeroCells (Value.int .u8 0).cells (c-n)) 5)):=(t_drew _ w).alloc (Nat.le_refl _) _
 have hh:(w.drew.alloc (.cells (Builtin.zeroCells (Value.int .u8 0).cells n++Builtin.zeroCells (Value.int .u8 0).cells (c-n)) 5)).heap[w.heap.size]?=Option.some (.cells (Builtin.zeroCells (Value.int .u8 0).cells n++Builtin.zeroCells (Value.int .u8 0).cells (c-n)) 5 (0,0)):=by
  show (w.heap.push _)[w.heap.size]?=_
  simp
 have hsz:(Builtin.zeroCells (Value.int .u8 0).cells n++Builtin.zeroCells (Value.int .u8 0).cells (c-n)).size=c:=by
  rw [Array.size_append,size_zeroCells,size_zeroCells,show (Value.int .u8 0).cells.size=1 from rfl];omega
 have HB:=qh (show OwnS _ (.slice (Option.some ⟨w.heap.size,0,none⟩) 0 c) (Option.some w.heap.size) 5 1 0 []∧_ from ⟨⟨⟨rfl,.inr ⟨w.heap.size,c,_,rfl,Nat.zero_le _,hh,Nat.zero_le _,hle,by rw [hsz,Nat.mul_one],rfl⟩⟩,rfl⟩,hb⟩)
 clear hh hsz hb
 unfold maxLen at hle
 go_enter Tryz.func282,Tryz.ntmps282
 go_wp2_with (at_builtin;refine Lib.wpList_append_run _ rfl (.tmp 20) (.tmp 21) 127 3 rfl _ _ rfl rfl _ _ (HR.out _) ?_)
 go_ret
 exact⟨_,_,rfl,HB.out.1,Nat.le_refl _,HB.out.2⟩
def Grown8 (w:World) (B:Nat) (v:Value) (n:Nat) (bs:List Nat):Prop:=∃ g,OwnS w v (Option.some g) 5 1 n (cells8 bs)∧B≤g
theorem Grown8.next {w w':World} {B:Nat} {v':Value} {ob ob':Option Nat} {n:Nat} {bs:List Nat} (h:OwnS w' v' ob' 5 1 n (cells8 bs)) (ho:ob'=ob∨∃ k,ob'=Option.some k∧w.heap.size≤k) (hB:B≤w.heap.size) (g:Nat) (hob:ob=Option.some g) (hg:B≤g):Grown8 w' B v' n bs:=by
 rcases ho with hc|⟨k,hk,hk2⟩
 ·subst hob hc;exact⟨g,h,hg⟩
 ·subst hk;exact⟨k,h,by omega⟩
theorem concat2 (gs:Nat) (v1 v2:Value) (m1 m2:Nat) (rest:List Value) (w:World) (hg:Holds w gs 127 (v1 :: v2 :: rest)) (h1:Blob w v1 m1) (h2:Blob w v2 m2) (hv:v1=.slice none 0 0∨1≤m1) (hm1:m1≤400000) (hm2:1≤m2) (hm3:m2≤400000) :
  Calls Tryz.prog 227 #[.slice (Option.some ⟨gs,0,none⟩) 2 2] w fun e w'=>∃ v,e=.returned v∧Own8 w' w.heap.size v (m1+m2)∧Below w.heap.size w w':=by
 obtain⟨p1,c1,bs1,rfl,hn1,hc1,hcm1,hb1⟩:=h1
 obtain⟨b2,off2,c2,bs2,rfl,hc2,hcm2,hb2⟩:=h2.some hm2
 have hl1:=hb1.len
 have hl2:=hb2.len
 have h256:(∀ x∈bs1,x<256)∧∀ x∈bs2,x<256:=⟨hb1.2.2.1,hb2.2.2.1⟩
 have H256:=qh h256
 have HS1:=qh hb1;have HS2:=qh hb2
 have KG:=qh (fun W=>by have:=grow8 (m1+m2) W (by omega) (by omega);push_cast at this;exact this)
 have hvv:(m1=0∧Value.slice p1 m1 c1=.slice none 0 0)∨1≤m1:=by
  rcases hv with h|h
  ·exact .inl ⟨by injection h,h⟩
  ·exact .inr h
 have HVV:=qh hvv
 have HG:=qh hg
 clear hb1 hb2 hv h2 hvv hg hn1 h256
 go_enter Tryz.func227,Tryz.ntmps227
 go_wp2_with fail
 go_loop [11,3] (fun vi vn=>∃ i:Nat,vi=.int .i64 (i:Int)∧((i=0∧vn=.int .i64 0)∨(i=1∧vn=.int .i64 m1)∨(i=2∧vn=.int .i64 ((m1:Int)+m2)))) (fun vi _=>2 - (intOf vi).toNat)
 case atStart=>exact⟨0,rfl,.inl ⟨rfl,rfl⟩⟩
 case round=>
  obtain⟨i,rfl,⟨rfl,rfl⟩|⟨rfl,rfl⟩|⟨rfl,rfl⟩⟩:=hrel
  ·have g0:=HG.out.cell 0
   simp only [yA,yB] at g0
   go_wp2_with fail
   go_round
   case rel=>exact⟨1,rfl,.inr (.inl ⟨rfl,by simp⟩)⟩
   case measure=>simp [intOf]
  ·have g1:=HG.out.cell 1
   simp only [yA,yB] at g1
   go_wp2_with fail
   go_round
   case rel=>exact⟨2,rfl,.inr (.inr ⟨rfl,rfl⟩)⟩
   case measure=>simp [intOf]
  ·go_wp2_with fail
   refine (KG.out _).mono ?_
   rintro e w1 ⟨v,g,rfl,ho,hg,hb⟩
   have HB:=qh hb;have HO:=qh ho
   have hs:=hb.size
   clear hb ho
   go_wp2_with fail
   go_loopw [27,6] (fun vi vn wr=>∃ i:Nat,vi=.int .i64 (i:Int)∧Below w.heap.size w wr∧((i=0∧Grown8 wr w.heap.size vn 0 [])∨(i=1∧Grown8 wr w.heap.size vn m1 bs1)∨(i=2∧Grown8 wr w.heap.size vn (m1+m2) (bs1++bs2)))) (fun vi _ _=>2 - (intOf vi).toNat)
   case atStart=>exact⟨0,rfl,HB.out,.inl ⟨rfl,g,HO.out,hg⟩⟩
   case round=>
    clear HB HO hg hs
    obtain⟨i,rfl,hb,⟨rfl,g,ho,hg⟩|⟨rfl,g,ho,hg⟩|⟨rfl,g,ho,hg⟩⟩:=hrel
    ·have HB:=qh hb;have HO:=qh ho
     have hs:=hb.size
     have HGr:=qh (holds_bel HG.out hb)
     clear hb ho
     have g0:=HGr.out.cell 0
     simp only [yA,yB] at g0
     rcases HVV.out with⟨h0,hvn⟩|h1
     ·have HVN:=qh hvn;clear hvn
      have H0:=qh (And.intro h0 (show bs1=[] from List.eq_nil_of_length_eq_zero (by omega)))
      clear h0
      rw [HVN.out] at g0
      go_wp2_with (first
       | (at_builtin;refine wpList_append_s0 rfl (.tmp 31) (.tmp 32) 127 rfl 5 (.int .u8 0) 1 1 rfl (by kernel_rfl) _ _ 0 _ rfl HO.out rfl ?_))
      go_roundw
      case rel=>exact⟨1,rfl,HB.out,.inr (.inl ⟨rfl,g,by rw [H0.out.1,H0.out.2];exact HO.out,hg⟩)⟩
      case measure=>simp [intOf]
     ·go_wp2_with (first
       | (at_builtin;refine wpList_append_s rfl (.tmp 31) (.tmp 32) 127 rfl 5 (.int .u8 0) 1 1 rfl (by kernel_rfl) rfl (by decide) _ _ 0 _ rfl HO.out p1 m1 c1 (cells8 bs1) rfl (by rw [length_cells8,hl1,Nat.mul_one]) (HS1.out.reads.below HB.out) (by omega) (cells8_one _) (by unfold maxLen;omega) (by omega) ?_;intro v2 ob2 w2 ho2 hob2 hm2))
      have H2:=qh (Grown8.next (w:=wr) (n:=m1) (bs:=bs1) (by rw [Nat.zero_add,show cells8 []=[] from rfl,List.nil_append] at ho2;exact ho2) hob2 hs g rfl hg)
      have HB2:=qh (HB.out.trans (hm2.below hs (fun k hk=>by cases hk;exact hg)))
      clear ho2 hob2 hm2 g0
      go_roundw
      case rel=>exact⟨1,rfl,HB2.out,.inr (.inl ⟨rfl,H2.out⟩)⟩
      case measure=>simp [intOf]
    ·have HB:=qh hb;have HO:=qh ho
     have hs:=hb.size
     have HGr:=qh (holds_bel HG.out hb)
     clear hb ho
     have g1:=HGr.out.cell 1
     simp only [yA,yB] at g1
     go_wp2_with (first
      | (at_builtin;refine wpList_append_s rfl (.tmp 31) (.tmp 32) 127 rfl 5 (.int .u8 0) 1 1 rfl (by kernel_rfl) rfl (by decide) _ _ m1 _ rfl HO.out _ m2 c2 (cells8 bs2) rfl (by rw [length_cells8,hl2,Nat.mul_one]) (HS2.out.reads.below HB.out) (by omega) (cells8_one _) (by unfold maxLen;omega) (by omega) ?_;intro v2 ob2 w2 ho2 hob2 hm2))
     have H2:=qh (Grown8.next (w:=wr) (bs:=bs1++bs2) (by rw [show cells8 (bs1++bs2)=cells8 bs1++cells8 bs2 from by simp [cells8]];exact ho2) hob2 hs g rfl hg)
     have HB2:=qh (HB.out.trans (hm2.below hs (fun k hk=>by cases hk;exact hg)))
     clear ho2 hob2 hm2 g1
     go_roundw
     case rel=>exact⟨2,rfl,HB2.out,.inr (.inr ⟨rfl,H2.out⟩)⟩
     case measure=>simp [intOf]
    ·have HB:=qh hb;have HO:=qh ho
     clear hb ho
     go_wp2_with fail
     go_ret
     refine⟨_,rfl,HO.out.own8 (fun x hx=>?_) hg (by omega),HB.out⟩
     rcases List.mem_append.1 hx with hx|hx
     ·exact H256.out.1 x hx
     ·exact H256.out.2 x hx
end
section
open Go.RowKit
theorem may_nm1 (w:World):Calls Tryz.prog 224 #[.string nm1] w fun e w'=>e=.returned (.bool true)∧Below w.heap.size w w':=by
 unfold nm1
 go_enter Tryz.func224,Tryz.ntmps224
 go_wp2_with fail
 go_loop [13] (fun vi=>∃ i:Nat,i≤7∧vi=.int .i64 (i:Int)) (fun vi=>7 - (intOf vi).toNat)
 case atStart=>exact⟨0,by omega,rfl⟩
 case round=>
  obtain⟨i,hi,rfl⟩:=hrel
  rcases (show i=0∨i=1∨i=2∨i=3∨i=4∨i=5∨i=6∨i=7 by omega) with rfl|rfl|rfl|rfl|rfl|rfl|rfl|rfl
  iterate 7
   ·go_wp2_with fail
    go_round
    case rel=>exact⟨_,(by decide),rfl⟩
    case measure=>simp [intOf]
  ·go_wp2_with fail
   go_ret
   exact⟨rfl,Below.refl _ _⟩
theorem ins_file (bs:Nat) (L:List Value) (hL:L.length=3) (h1:∀ u∈L,u.oneCell'=true) (w:World) (h:Holds w bs 129 L) :
  Calls Tryz.prog 226 #[.slice none 0 0,.int .i64 0,.slice (Option.some ⟨bs,0,none⟩) 1 1] w fun e w'=>∃ g c rest,e=.returned (.slice (Option.some ⟨g,0,none⟩) 1 c)∧1≤c∧c≤maxLen∧Holds w' g 129 (L++rest)∧w.heap.size≤g∧Below w.heap.size w w':=by
 have HH:=qh h;have H1:=qh h1;clear h h1
 go_enter Tryz.func226,Tryz.ntmps226
 go_wp2_with (first
  | (at_builtin;refine wpList_append_s rfl (.tmp 23) (.tmp 24) 123 rfl 129 (.agg #[.string ⟨#[]⟩,.slice none 0 0,.int .i64 0]) 3 48 rfl (by kernel_rfl) rfl (by decide) _ none 0 [] rfl (OwnS.nil _ _ _) _ 1 1 L rfl hL (HH.out.reads 0 L (fun j v hv=>by rw [Nat.zero_add];exact hv)) (by decide) H1.out (by unfold maxLen;omega) (by omega) ?_;intro v2 ob2 w2 ho2 hob2 hm2))
 rw [List.nil_append,Nat.zero_add] at ho2
 obtain⟨g,c,rest,rfl,rfl,hc1,hc2,hh,hl⟩:=ho2.blk (by decide)
 have hg:w.heap.size≤g:=by
  rcases hob2 with hc|⟨k,hk,hk2⟩
  ·cases hc
  ·cases hk;exact hk2
 have HB:=qh (hm2.below (Nat.le_refl _) (fun k hk=>by cases hk))
 have HR:=qh hh
 clear ho2 hob2 hm2 hh
 go_ret
 exact⟨g,c,rest,rfl,hc1,hc2,HR.out,hg,HB.out⟩
theorem Own8.disk {w:World} {B:Nat} {p:Option Addr} {m c:Nat} (h:Own8 w B (.slice p m c) m) (h1:1≤m):∃ g bs rest,p=Option.some ⟨g,0,none⟩∧B≤g∧m≤c∧c≤maxLen∧bs.length=m∧(∀ x∈bs,x<256)∧Holds w g 5 (cells8 bs++rest):=by
 obtain⟨bs,hl,⟨h2,_⟩,ho⟩:=h
 obtain⟨g,cap,rest,hv,hg,hh,hc,hm,_⟩:=owns_holds ho (by omega)
 injection hv with e1 _ e2
 subst e2
 exact⟨g,bs,rest,e1,hg,hc,hm,hl,h2,hh⟩
theorem append1 (gd gf gb m len:Nat) (kept:Int) (v:Value) (w:World) (h:Disk1 w gd gf gb m kept) (hv:Blob w v len) (h1:1≤len) (hml:m+len≤100000) :
  Calls Tryz.prog 165 #[.pointer (Option.some ⟨gd,0,none⟩),.string nm1,v] w fun e w'=>e=.returned (.int .i64 0)∧∃ gb',Disk1 w' gd gf gb' (m+len) kept∧w.heap.size≤gb'∧Touch gf w w':=by
 have KM:=qh (fun W=>may_nm1 W)
 have KR:=qh (fun W (h:Disk1 W gd gf gb m kept)=>room1 gd gf gb m kept W h)
 have KF:=qh (fun W (h:Disk1 W gd gf gb m kept)=>find1 gd gf gb m kept W h)
 obtain⟨pa,pc,rfl⟩:=hv.shape
 have HX:=qh h;have HP:=qh hv
 have hl:=h.lim
 have hne:=h.ne
 have hlt:=h.lt
 obtain⟨⟨cf,a1,a2,a3⟩,⟨cb,r,b1,b2,b3⟩,⟨bs,r2,e1,e2,e3⟩,_,_⟩:=h
 have HD:=qh a3;have HF:=qh b3
 have HB1:=qh (show Blob w (.slice (Option.some ⟨gb,0,none⟩) m cb) m from ⟨_,cb,bs,rfl,(fun h=>by cases h),b1,b2,e1,by unfold maxLen at b2;omega,e2,fun _=>⟨gb,0,rfl,e3.lt,fun i hi=>by
  rw [Nat.zero_add,e3.cell,List.getElem?_append_left (by rw [length_cells8];omega),getElem_cells8 bs i (by omega)]⟩⟩)
 have KP:=qh (fun W (h:Holds W gd 125 (diskL (.slice (Option.some ⟨gf,0,none⟩) 1 cf)))=>power_ok gd _ W h)
 have KC:=qh (fun gs W (h:Holds W gs 127 [.slice (Option.some ⟨gb,0,none⟩) m cb,.slice pa len pc]) h1' h2'=>concat2 gs (.slice (Option.some ⟨gb,0,none⟩) m cb) (.slice pa len pc) m len [] W h h1' h2' (.inr hl.1) (by omega) h1 (by omega))
 have HBS:=qh (Base.start w)
 have hroom:¬ (524288 - (m:Int))<(len:Int):=by omega
 clear a3 b3 e1 e2 e3
 generalize hnm:nm1=nm at HF KM KF HX ⊢
 have HNM:=qh hnm;clear hnm
 go_enter Tryz.func165,Tryz.ntmps165
 have d2:=HD.out.cell 2
 simp only [diskL,yA,yB] at d2
 go_wp2_with fail
 refine (KM.out _).mono ?_
 rintro e w1 ⟨rfl,hb⟩
 have HX:=qh (HX.out.bel hb)
 have HD:=qh (HD.out.bel hb)
 have HF:=qh (HF.out.bel hb)
 have HB1:=qh (HB1.out.bel hb)
 have HP:=qh (HP.out.bel hb)
 have HBS:=qh (HBS.out.bel hb)
 clear hb d2
 go_wp2_with fail
 refine (KR.out _ HX.out).mono ?_
 rintro e w2 ⟨rfl,hb⟩
 have HX:=qh (HX.out.bel hb)
 have HD:=qh (HD.out.bel hb)
 have HF:=qh (HF.out.bel hb)
 have HB1:=qh (HB1.out.bel hb)
 have HP:=qh (HP.out.bel hb)
 have HBS:=qh (HBS.out.bel hb)
 clear hb
 go_wp2_with fail
 refine (KP.out _ HD.out).mono ?_
 rintro e w3 ⟨rfl,hb⟩
 have HX:=qh (HX.out.bel hb)
 have HD:=qh (HD.out.bel hb)
 have HF:=qh (HF.out.bel hb)
 have HB1:=qh (HB1.out.bel hb)
 have HP:=qh (HP.out.bel hb)
 have HBS:=qh (HBS.out.bel hb)
 clear hb
 go_wp2_with fail
 refine (KF.out _ HX.out).mono ?_
 rintro e w4 ⟨rfl,hb⟩
 have HX:=qh (HX.out.bel hb)
 have HD:=qh (HD.out.bel hb)
 have HF:=qh (HF.out.bel hb)
 have HB1:=qh (HB1.out.bel hb)
 have HP:=qh (HP.out.bel hb)
 have HBS:=qh (HBS.out.bel hb)
 clear hb
 go_upto_region 13 with (fail)
 have HX:=qh (HX.out.bel (t_drew _ w4))
 have HD:=qh (HD.out.bel (t_drew _ w4))
 have HF:=qh (HF.out.bel (t_drew _ w4))
 have HB1:=qh (HB1.out.bel (t_drew _ w4))
 have HP:=qh (HP.out.bel (t_drew _ w4))
 have HBS:=qh (HBS.out.bel (t_drew _ w4))
 refine wp_region_noPanic ?_
 refine wp_region_late (S:=fun W'=>Below w4.drew.heap.size w4.drew W') (X0:=[18]) (by as_aux_lemma=>kernel_rfl) ?_
 generalize w4.drew=wd at HX HD HF HB1 HP HBS ⊢
 have hSn:Below wd.heap.size wd wd:=Below.refl _ _
 change wpAnyL _ _ _ _ _ _ 19 #[false,false,false,false,false,false,false,false,false,false,false,false,false,false,false,false,false,false,false] _ _
 refine mvA 0 (some 50) (fun _=>hSn) ?_
 simp only [Act.put,zA,zB,zC]
 refine mvA 1 (some 51) (fun _=>hSn) ?_
 simp only [Act.put,zA,zB,zC]
 refine mvA 2 (some 52) (fun _=>hSn) ?_
 simp only [Act.put,zA,zB,zC]
 refine tkA 3 [16,17,18] (some 53) (?vg4) rfl (Or.inl ⟨by rfl,?hg4⟩) hSn ?rg4
 case hg4=>
  intro w hSw
  have b1:=(HD.out.bel hSw).cell 1
  simp only [diskL,yA,yB] at b1
  go_simp
  try with_reducible rfl
 simp only [Act.put,zA,zB,zC]
 refine mvA 4 (some 54) (fun _=>hSn) ?_
 simp only [Act.put,zA,zB,zC]
 refine mvA 5 (some 55) (fun _=>hSn) ?_
 simp only [Act.put,zA,zB,zC]
 refine mvA 6 (some 56) (fun _=>hSn) ?_
 simp only [Act.put,zA,zB,zC]
 refine mvA 7 (some 57) (fun _=>hSn) ?_
 simp only [Act.put,zA,zB,zC]
 refine tkA 8 [10,11,12,14,15,16,17,18] (some 58) (?vg9) rfl (Or.inl ⟨by rfl,?hg9⟩) hSn ?rg9
 case hg9=>
  intro w hSw
  have b1:=(HD.out.bel hSw).cell 1
  simp only [diskL,yA,yB] at b1
  go_simp
  try with_reducible rfl
 simp only [Act.put,zA,zB,zC]
 refine mvA 9 (some 59) (fun _=>hSn) ?_
 simp only [Act.put,zA,zB,zC]
 refine mvA 10 (some 60) (fun _=>hSn) ?_
 simp only [Act.put,zA,zB,zC]
 refine mvA 11 (some 61) (fun _=>hSn) ?_
 simp only [Act.put,zA,zB,zC]
 refine tkA 12 [14,15,16,17,18] (some 62) (?vg13) rfl (Or.inl ⟨by rfl,?hg13⟩) hSn ?rg13
 case hg13=>
  intro w hSw
  have b1:=(HF.out.bel hSw).cell 1
  simp only [yA,yB] at b1
  go_simp
  try with_reducible rfl
 simp only [Act.put,zA,zB,zC]
 refine mvA 13 (some 63) (fun _=>hSn) ?_
 simp only [Act.put,zA,zB,zC]
 refine rd1 14 rfl (fun K hK=>?_)
 go_simp
 have hal:=fun o=>Below.alloc hSn hSn.size o
 refine hK.out _ _ (fun _=>hal _) ?_
 have hSn:=hal (.cells ([.slice (Option.some ⟨gb,0,none⟩) m cb,.slice pa len pc]:List Value).toArray 127)
 have HG:=qh (show Holds (wd.alloc (.cells ([.slice (Option.some ⟨gb,0,none⟩) m cb,.slice pa len pc]:List Value).toArray 127)) wd.heap.size 127 [.slice (Option.some ⟨gb,0,none⟩) m cb,.slice pa len pc] from holds_alloc wd _ _)
 clear hal
 generalize wd.alloc (.cells ([.slice (Option.some ⟨gb,0,none⟩) m cb,.slice pa len pc]:List Value).toArray 127)=wa at hSn HG ⊢
 clear hK
 try simp only [Act.put,zA,zB,zC]
 refine rd1 15 rfl (fun K hK=>?_)
 go_simp
 refine (KC.out _ _ HG.out (HB1.out.below hSn) (HP.out.below hSn)).mono ?_
 rintro e w9 ⟨v9,rfl,ho9,hb⟩
 have hSn:=below_next hSn hb
 have HO:=qh (ho9.mono (B':=wd.heap.size) (by have:=HG.out.lt;omega))
 obtain⟨p9,c9,rfl⟩:=ho9.shape
 clear ho9
 clear hb
 refine hK.out _ _ (fun _=>hSn) ?_
 clear hK
 try simp only [Act.put,zA,zB,zC]
 refine mvA 16 (some 66) (fun _=>hSn) ?_
 simp only [Act.put,zA,zB,zC]
 refine mvA 17 (some 67) (fun _=>hSn) ?_
 simp only [Act.put,zA,zB,zC]
 refine rd1 18 rfl (fun K hK=>?_)
 refine step_store_cell rfl 127 (.tmp 67) (.tmp 65) rfl rfl gf 1 129 _ (HF.out.bel hSn) (by simp) rfl (.slice p9 (m+len:Nat) c9) rfl rfl (by kernel_rfl) rfl ?_
 intro w10 hh10 ht10
 have HH:=qh hh10;have HT:=qh ht10
 clear hh10 ht10
 refine hK.out _ _ nlA ?_
 clear hK
 try simp only [Act.put,zA,zB,zC]
 refine dnA (NoPanic.normal ?_)
 have hs3:=HBS.out.le
 have hs4:=hSn.size
 obtain⟨g9,bs9,r9,hp9,hg9,hc9,hcm9,hl9,h256,hh9⟩:=HO.out.disk (by omega)
 subst hp9
 have hg9n:w.heap.size≤g9:=by omega
 have HD2:=qh ((HD.out.bel hSn).touch HT.out hne.1)
 have H9:=qh (hh9.touch HT.out (by omega))
 have HT2:=qh ((Touch.of_below (g:=gf) (HBS.out.bel hSn).below).trans HT.out)
 clear hSn hh9 HD HF HB1 HP HBS HX HG HO HT
 go_wp2_with fail
 go_ret
 have hnm:=HNM.out
 subst hnm
 exact⟨rfl,g9,⟨⟨cf,a1,a2,HD2.out⟩,⟨c9,r,hc9,hcm9,by have:=HH.out;simpa using this⟩,⟨bs9,r9,hl9,h256,H9.out⟩,by omega,by omega⟩,hg9n,HT2.out⟩
end
end Go.Proofs.YtimdpiifpibgfaaGreatDoor
