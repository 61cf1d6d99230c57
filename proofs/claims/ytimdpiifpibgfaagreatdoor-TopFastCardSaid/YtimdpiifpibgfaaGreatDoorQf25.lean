/- For every input the law TopFast returns true (a part of the proof). Condition: the listed variables start as the program's text lays them. -/
import Derived.Deep.CutRange
import Derived.Test.YtimdpiifpibgfaaGreatDoorQf24
set_option linter.unusedVariables false
set_option linter.unusedSimpArgs false
set_option maxRecDepth 20000
set_option maxHeartbeats 16000000
namespace Go.Proofs.YtimdpiifpibgfaaGreatDoor
section
open Go.RowKit
theorem push_at {A:Array Obj} {x:Obj} {k:Nat} (h:k=A.size):(A.push x)[k]?=some x:=by rw [Array.getElem?_push,if_pos h]
theorem push_past {A:Array Obj} {x:Obj} {k:Nat} (h:k<A.size):(A.push x)[k]?=A[k]?:=by rw [Array.getElem?_push,if_neg (by omega)]
theorem laid5 (w:World) (a b c d e:Obj) :
  (((((w.alloc a).alloc b).alloc c).alloc d).alloc e).drew.heap[w.heap.size]?=some a∧(((((w.alloc a).alloc b).alloc c).alloc d).alloc e).drew.heap[w.heap.size+1]?=some b∧(((((w.alloc a).alloc b).alloc c).alloc d).alloc e).drew.heap[w.heap.size+1+1]?=some c ∧
  (((((w.alloc a).alloc b).alloc c).alloc d).alloc e).drew.heap[w.heap.size+1+1+1]?=some d∧(((((w.alloc a).alloc b).alloc c).alloc d).alloc e).drew.heap[w.heap.size+1+1+1+1]?=some e∧Below w.heap.size w (((((w.alloc a).alloc b).alloc c).alloc d).alloc e).drew:=by
 have hW:(((((w.alloc a).alloc b).alloc c).alloc d).alloc e).drew.heap=((((w.heap.push a).push b).push c).push d).push e:=rfl
 refine⟨?_,?_,?_,?_,?_,⟨rfl,rfl,rfl,?_,fun k hk=>?_⟩⟩
 ·rw [hW,push_past (by simp<;>omega),push_past (by simp<;>omega),push_past (by simp<;>omega),push_past (by simp),push_at rfl]
 ·rw [hW,push_past (by simp<;>omega),push_past (by simp<;>omega),push_past (by simp),push_at (by simp)]
 ·rw [hW,push_past (by simp<;>omega),push_past (by simp),push_at (by simp)]
 ·rw [hW,push_past (by simp),push_at (by simp)]
 ·rw [hW,push_at (by simp)]
 ·rw [hW];simp;omega
 ·rw [hW,push_past (by simp<;>omega),push_past (by simp<;>omega),push_past (by simp<;>omega),push_past (by simp<;>omega),push_past hk]
theorem parts_one (be ce:Nat) (w:World) (he:Holds w be 30 [.slice none 0 0]) :
  Calls Tryz.prog 311 #[.slice (some ⟨be,0,none⟩) 1 ce] w fun e w'=>∃ v b0 c0 L,e=.returned (.tuple #[v,.int .i64 0])∧w'.ownsRow w.heap.size 30 1 v 1 [.slice (some ⟨b0,0,none⟩) 1 c0]∧Holds w' b0 3 (.int .i64 0 :: L)∧w.heap.size≤b0∧1≤c0∧L.length+1=c0∧Below w.heap.size w w':=by
 have HE:=qh he
 have HE0:=qh he.lt;have HEw:=qh he
 clear he
 have hm1:=mk_int1
 have hm2:=mk_row1
 have hm3:=mk_bool1
 go_enter Tryz.func311,Tryz.ntmps311
 go_upto_region 4 with (fail)
 go_cut [5] from 14 to 24 (fun x wx=>∃ g bi bl bo bp,x=.pointer (some ⟨g,0,none⟩)∧GW wx g bi bl bo bp (.slice (some ⟨be,0,none⟩) 1 ce) (.slice none 0 0) 0 0 0 0 0 false∧GWlo w.heap.size g bi bl bo bp∧Below w.heap.size w wx)
 case first=>
  go_region
  all_goals
   go_wp2_with fail
   go_meet
  all_goals
   refine⟨_,_,_,_,_,rfl,⟨(laid5 w _ _ _ _ _).2.2.2.2.1,?_,?_,?_,?_,?_⟩,?_,(laid5 w _ _ _ _ _).2.2.2.2.2⟩
   ·first|exact (laid5 w _ _ _ _ _).1|exact (laid5 w _ _ _ _ _).2.1|exact (laid5 w _ _ _ _ _).2.2.1|exact (laid5 w _ _ _ _ _).2.2.2.1
   ·first|exact (laid5 w _ _ _ _ _).1|exact (laid5 w _ _ _ _ _).2.1|exact (laid5 w _ _ _ _ _).2.2.1|exact (laid5 w _ _ _ _ _).2.2.2.1
   ·first|exact (laid5 w _ _ _ _ _).1|exact (laid5 w _ _ _ _ _).2.1|exact (laid5 w _ _ _ _ _).2.2.1|exact (laid5 w _ _ _ _ _).2.2.2.1
   ·first|exact (laid5 w _ _ _ _ _).1|exact (laid5 w _ _ _ _ _).2.1|exact (laid5 w _ _ _ _ _).2.2.1|exact (laid5 w _ _ _ _ _).2.2.2.1
   ·refine⟨?_,?_,?_,?_,?_,?_,?_,?_,?_,?_⟩<;>omega
   ·unfold GWlo;omega
 case rest=>
  obtain⟨g,bi,bl,bo,bp,rfl,hg,hlo,hb⟩:=hcut
  have HG:=qh hg
  have HB:=qh hb
  have HE:=qh (HE.out.below hb HE.out.lt)
  have HLO:=qh hlo
  have hlt:=hg.lt
  obtain⟨t1,t2,t3,t4,t5⟩:=hlt
  have K1:=qh (fun B W h1 h2 h3 h4 h5=>from_one g bi bl bo bp B be ce W h1 h2 h3 h4 h5)
  have hbe:be<w.heap.size:=HE0.out
  clear hg hb hlo
  go_wp2_with fail
  go_loopw [26] (fun v wr=>∃ i:Nat,v=.int .i64 (i:Int)∧Below w.heap.size w wr∧((i=0∧GW wr g bi bl bo bp (.slice (some ⟨be,0,none⟩) 1 ce) (.slice none 0 0) 0 0 0 0 0 false)∨(i=1∧∃ R,GW wr g bi bl bo bp (.slice (some ⟨be,0,none⟩) 1 ce) R 1 1 1 1 0 false))) (fun v _=>1 - (intOf v).toNat)
  case atStart=>exact⟨0,rfl,HB.out,.inl ⟨rfl,HG.out⟩⟩
  case round=>
   clear HG HB HE
   obtain⟨i,rfl,hb,⟨rfl,hg⟩|⟨rfl,R,hg⟩⟩:=hrel
   ·have i0:=hg.hi.cell 0
    have m1:=hg.hg.cell 1
    simp only [walkL,yA,yB] at i0 m1
    have HB:=qh hb
    have HG:=qh hg
    have HEr:=qh (HEw.out.below hb hbe)
    have hsr:=hb.size
    clear hb hg
    go_wp2_with fail
    refine (K1.out w.heap.size _ HG.out HEr.out hbe hsr HLO.out).mono ?_
    rintro e w5 ⟨R,rfl,hg5,hb5⟩
    have HG5:=qh hg5;have HB5:=qh (HB.out.trans hb5)
    clear hg5 hb5 i0 m1
    go_wp2_with fail
    go_roundw
    case rel=>exact⟨1,rfl,HB5.out,.inr ⟨rfl,R,HG5.out⟩⟩
    case measure=>simp [intOf]
   ·have m6:=hg.hg.cell 6
    simp only [walkL,yA,yB] at m6
    have hal:Below wr.heap.size wr (wr.alloc (.cells #[.slice none 0 0] 30)):=(Below.refl _ _).alloc (Nat.le_refl _) _
    have m5:=(hg.below hal).hg.cell 5
    simp only [walkL,yA,yB] at m5
    have HB:=qh (hb.trans (hal.mono hb.size))
    have HG:=qh (hg.below hal)
    have hsr:=hb.size
    have HN:=qh (holds_alloc wr 30 [.slice none 0 0])
    have HNE:=qh (show g≠wr.heap.size∧bi≠wr.heap.size∧bl≠wr.heap.size∧bo≠wr.heap.size∧bp≠wr.heap.size from by have:=hg.lt;omega)
    clear hb hg hal
    go_wp2_with fail
    clear m5 m6
    generalize wr.alloc (.cells #[.slice none 0 0] 30)=W at HB HG HN ⊢
    generalize wr.heap.size=bn at hsr HN HNE ⊢
    go_loopw [51] (fun v w2=>∃ i:Nat,v=.int .i64 (i:Int)∧Below w.heap.size w w2∧GW w2 g bi bl bo bp (.slice (some ⟨be,0,none⟩) 1 ce) R 1 1 1 1 0 false∧((i=0∧Holds w2 bn 30 [.slice none 0 0]∧g≠bn∧bi≠bn∧bl≠bn∧bo≠bn∧bp≠bn)∨(i=1∧∃ b0 c0 L,Holds w2 bn 30 [.slice (some ⟨b0,0,none⟩) 1 c0]∧Holds w2 b0 3 (.int .i64 0 :: L)∧w.heap.size≤b0∧1≤c0∧L.length+1=c0))) (fun v _=>1 - (intOf v).toNat)
    case atStart=>exact⟨0,rfl,HB.out,HG.out,.inl ⟨rfl,HN.out,HNE.out⟩⟩
    case round=>
     clear HB HG HN
     obtain⟨i,rfl,hb,hg,⟨rfl,hn,q1,q2,q3,q4,q5⟩|⟨rfl,b0,c0,L,hn,hr,hb0,hc0,hLc⟩⟩:=hrel
     ·have HB:=qh hb;have HG:=qh hg;have HN:=qh hn
      have p0:=hg.hp.cell 0
      have n0:=hn.cell 0
      simp only [List.getElem?_cons_zero] at p0 n0
      have hsw:=hb.size
      have hnl:=hn.lt
      clear hb hg hn
      go_wp2_with (first
       | (at_builtin;refine wpList_append_cells rfl (.tmp 61) (.tmp 63) 30 rfl (wr.heap.size+1) 3 (.int .i64 0) 1 8 rfl (by kernel_rfl) rfl (by decide) _ 0 [] rfl (World.ownsRow_nil _ _ _ _) (some ⟨wr.heap.size,0,none⟩) 1 1 [.int .i64 0] rfl rfl ((holds_alloc wr _ _).reads 0 _ (fun j v hv=>by simpa using hv)) (by intro h;cases h) (by simp [Value.oneCell']) (by unfold maxLen;omega) (by omega) (by simp) ?_;intro v3 w3 ho3 hb3 _;have hb3:=((Below.refl wr.heap.size wr).alloc (Nat.le_refl _) (.cells #[.int .i64 0] 3)).trans (hb3.mono (Nat.le_succ _));have HO3:=qh ho3;have HB3:=qh hb3;have HG3:=qh (HG.out.below hb3);have HN3:=qh (holds_bel HN.out hb3);clear ho3 hb3;obtain⟨br,c,L,rfl,hbr,hc1,hLc,hrow⟩:=owns_one HO3.out;have HR:=qh hrow;clear hrow)
       | (refine wpList_store_cell rfl 30 (.tmp 65) (.tmp 64) rfl rfl bn 0 30 _ HN3.out (by simp) rfl (.slice (some ⟨br,0,none⟩) 1 c) rfl rfl (by kernel_rfl) rfl ?_;intro w4 hh ht;simp only [List.set_cons_zero] at hh;have HG4:=qh (HG3.out.touch ht q1 q2 q3 q4 q5);have HN4:=qh hh;have HR4:=qh (HR.out.touch ht (by omega));have HT:=qh ht;clear hh ht))
      go_roundw
      case rel=>
       repeat apply Exists.intro
       exact⟨⟨1,rfl,(HB.out.trans (HB3.out.mono (by omega))).trans (HT.out.below (by omega) (by have:=HB3.out.size;omega)),HG4.out,.inr ⟨rfl,br,c,L,HN4.out,HR4.out,by omega,hc1,hLc⟩⟩,rfl⟩
      case measure=>simp [intOf]
     ·have m5:=hg.hg.cell 5
      simp only [walkL,yA,yB] at m5
      have HB:=qh hb;have HP:=qh hg.hp;have HN:=qh hn;have HR:=qh hr
      have HEr:=qh (HEw.out.below hb hbe)
      have hsw:=hb.size
      clear hb hg hn hr
      go_wp2_with fail
      refine (order_one be ce bp bn b0 c0 _ HEr.out HP.out HN.out).mono ?_
      rintro e w5 ⟨v5,rfl,ho5,hb5⟩
      have HO5:=qh (owns_less ho5 hsw)
      have HR5:=qh (holds_bel HR.out hb5)
      have HB5:=qh (HB.out.trans (hb5.mono hsw))
      clear ho5 hb5 m5
      go_wp2_with fail
      exact bodyPost_ret (v:=.tuple #[v5,.int .i64 0]) (by simp [results,Tryz.results311,go_sem]) rfl ⟨v5,b0,c0,L,rfl,HO5.out,HR5.out,hb0,hc0,hLc,HB5.out⟩
end
section
open Go.RowKit Go.Maps
def NoneAt (w:World) (s b:Nat):Prop:=Holds w s 383 [.map (some b)]∧w.ownsMap Tryz.prog 37 readN b 0 (.map []:DataW Value)
theorem NoneAt.below {w w':World} {s b:Nat} (h:NoneAt w s b) (hb:Below w.heap.size w w'):NoneAt w' s b:=by
 obtain⟨h1,h2⟩:=h
 have hlt:=h2.lt
 obtain⟨es,clock,hm,r⟩:=h2
 exact⟨holds_bel h1 hb,es,clock,(hb.block b hlt).trans hm,r⟩
theorem setNew_none (w:World) :
  Calls Tryz.prog 273 #[.slice none 0 0] w fun e w'=>∃ s b,e=.returned (.pointer (some ⟨s,0,none⟩))∧NoneAt w' s b∧Below w.heap.size w w':=by
 have hmm:=@run_makeMap Tryz.prog
 go_enter Tryz.func273,Tryz.ntmps273
 go_wp2_with fail
 have HN:=qh (show NoneAt ((w.alloc (.map #[] 0)).alloc (.cells #[.map (some w.heap.size)] 383)) (w.heap.size+1) w.heap.size from ⟨by
  have:=holds_alloc (w.alloc (.map #[] 0)) 383 [.map (some w.heap.size)]
  rw [World.size_alloc] at this
  exact this,(World.ownsMap_made w Tryz.prog 37 readN).alloc _⟩)
 have HB:=qh (show Below w.heap.size w ((w.alloc (.map #[] 0)).alloc (.cells #[.map (some w.heap.size)] 383)) from by
  have h1:Below w.heap.size w (w.alloc (.map #[] 0)):=(Below.refl _ _).alloc (Nat.le_refl _) _
  exact h1.alloc h1.size _)
 generalize (w.alloc (.map #[] 0)).alloc (.cells #[.map (some w.heap.size)] 383)=W at HN HB ⊢
 go_loopw [11] (fun vi wr=>vi=.int .i64 0∧wr=W) (fun _ _=>0)
 case atStart=>exact⟨rfl,rfl⟩
 case round=>
  obtain⟨rfl,rfl⟩:=hrel
  go_wp2_with fail
  go_ret
  exact⟨_,_,rfl,HN.out,HB.out⟩
theorem setList_none (s b:Nat) (w:World) (h:NoneAt w s b) :
  Calls Tryz.prog 223 #[.pointer (some ⟨s,0,none⟩)] w fun e w'=>e=.returned (.slice none 0 0)∧Below w.heap.size w w':=by
 have KS:=qh (fun fv W=>sort_few none 0 0 fv W (by omega))
 obtain⟨h1,hown⟩:=h
 have m0:=h1.cell 0
 simp only [List.getElem?_cons_zero] at m0
 clear h1
 go_enter Tryz.func223,Tryz.ntmps223
 go_wp2_with (first
  | (at_range;refine wpList_range_own _ rfl _ 381 rfl 37 409 keyLaw Tryz.underlying381 readN b 0 (.map []) rfl hown ?_;intro w0 hrg0 hg0 hs0)
  | fail)
 go_frame
 have HB:=qh (show Below w.heap.size w w0 from ⟨hg0.os,hg0.tape,hg0.output,hg0.size,fun k hk=>hg0.block k hk (by simp)⟩)
 have HRG:=qh hrg0
 clear hrg0 hg0 hs0 hown m0
 generalize hR:w.heap.size=R at HRG ⊢
 rw [← hR]
 rw [hR]
 go_loopw [3] (fun vo wr=>vo=.slice none 0 0∧∃ (left:Lit→Bool) (cnt:Nat),wr.ranges Tryz.prog 37 readN b R 0 (.map []) left cnt∧Below w.heap.size w wr) (fun _ wr=>wr.rangeLeft b R)
 case atStart=>exact⟨rfl,_,_,HRG.out,HB.out⟩
 case round=>
  clear HRG HB
  obtain⟨rfl,left,cnt,hrg,hb⟩:=hrel
  have HB:=qh hb;clear hb
  go_wp2_with (first
   | (at_next;refine wpList_next_ranges _ rfl _ rfl 37 keyLaw readN (fun p:Int × Int=>instV p.1 p.2) (fun v:Value=>v) (fun key kl hk=>by obtain⟨r,s,rfl,_⟩:=key_inv hk;exact⟨(r,s),rfl⟩) (fun v y _=>⟨v,rfl⟩) b R 0 (.map []) _ _ rfl hrg ?_ ?_)
   | fail)
  ·intro hc0 hl0
   clear hrg hl0 hc0
   go_wp2_with fail
   refine (KS.out _ _).mono ?_
   rintro e w5 ⟨rfl,hb5⟩
   have HB:=qh (below_next HB.out hb5);clear hb5
   go_wp2_with fail
   go_ret
   exact⟨rfl,HB.out⟩
  ·intro pr ps cv kl yd yp w1 cnt1 hkey hlk hR2 hat hrg1 hlt hg1 hs1 hen
   exfalso
   have hy:yd=.held cv:=by
    unfold readN at hR2
    injection hR2 with hR2
    injection hR2 with hR2 _
    exact hR2.symm
   rw [hy] at hat
   have hh:=Maps.has_true_of_atKey hat
   cases hh
end
section
open Go.RowKit Go.Maps
theorem upto_one (me:Int) (st:Int) (c:Cm) (sm:Bool) (r:Nat) (w:World) (hr:r<7) :
  Calls Tryz.prog 309 #[.agg #[.int .i64 me,.int .i64 1],.agg (cellL st c sm).toArray,.int .i64 r] w fun e w'=>e=.returned (.int .i64 0)∧Below w.heap.size w w':=by
 have hw0:IntKind.i64.wrap 0=0:=by decide
 unfold cellL
 go_enter Tryz.func309,Tryz.ntmps309
 go_upto_region 1 with (fail)
 go_name_world W hW
 have HI:=qh (show Holds W w.heap.size 37 [.int .i64 me,.int .i64 1] by rw [← hW];exact holds_past (holds_alloc w _ _) _)
 have HC:=qh (show Holds W (w.heap.size+1) 45 (cellL st c sm) by
  rw [← hW]
  have:=holds_alloc (w.alloc (.cells #[.int .i64 me,.int .i64 1] 37)) 45 (cellL st c sm)
  rw [World.size_alloc] at this
  exact this)
 have HB:=qh (show Below w.heap.size w W by rw [← hW];go_grown)
 clear hW
 have i0:=HI.out.cell 0
 have i1:=HI.out.cell 1
 have hd:∀ k,k<7→W.cell? ⟨w.heap.size+1,13+k,none⟩=some (.int .i64 0):=fun k hk=>by
  rw [HC.out.cell]
  rcases (show k=0∨k=1∨k=2∨k=3∨k=4∨k=5∨k=6 by omega) with rfl|rfl|rfl|rfl|rfl|rfl|rfl<;>rfl
 simp only [yA,yB] at i0 i1
 rcases (show r=0∨r=1∨r=2∨r=3∨r=4∨r=5∨r=6 by omega) with rfl|rfl|rfl|rfl|rfl|rfl|rfl
 ·have d0:=hd 0 (by omega)
  clear hd
  simp only [Nat.add_zero,Nat.reduceAdd] at d0
  by_cases hm:me=0
  ·subst hm
   go_wp2_with fail
   go_quiet (fail)
   go_wp2_with fail
   go_ret
   exact⟨rfl,HB.out.trans ⟨rfl,rfl,rfl,Nat.le_refl _,fun _ _=>rfl⟩⟩
  ·have hm2:((0:Int)==me)=false:=by simp;omega
   go_wp2_with fail
   go_ret
   exact⟨rfl,HB.out⟩
 ·have d0:=hd 1 (by omega)
  clear hd
  simp only [Nat.add_zero,Nat.reduceAdd] at d0
  by_cases hm:me=1
  ·subst hm
   go_wp2_with fail
   go_quiet (fail)
   go_wp2_with fail
   go_ret
   exact⟨rfl,HB.out.trans ⟨rfl,rfl,rfl,Nat.le_refl _,fun _ _=>rfl⟩⟩
  ·have hm2:((1:Int)==me)=false:=by simp;omega
   go_wp2_with fail
   go_ret
   exact⟨rfl,HB.out⟩
 ·have d0:=hd 2 (by omega)
  clear hd
  simp only [Nat.add_zero,Nat.reduceAdd] at d0
  by_cases hm:me=2
  ·subst hm
   go_wp2_with fail
   go_quiet (fail)
   go_wp2_with fail
   go_ret
   exact⟨rfl,HB.out.trans ⟨rfl,rfl,rfl,Nat.le_refl _,fun _ _=>rfl⟩⟩
  ·have hm2:((2:Int)==me)=false:=by simp;omega
   go_wp2_with fail
   go_ret
   exact⟨rfl,HB.out⟩
 ·have d0:=hd 3 (by omega)
  clear hd
  simp only [Nat.add_zero,Nat.reduceAdd] at d0
  by_cases hm:me=3
  ·subst hm
   go_wp2_with fail
   go_quiet (fail)
   go_wp2_with fail
   go_ret
   exact⟨rfl,HB.out.trans ⟨rfl,rfl,rfl,Nat.le_refl _,fun _ _=>rfl⟩⟩
  ·have hm2:((3:Int)==me)=false:=by simp;omega
   go_wp2_with fail
   go_ret
   exact⟨rfl,HB.out⟩
 ·have d0:=hd 4 (by omega)
  clear hd
  simp only [Nat.add_zero,Nat.reduceAdd] at d0
  by_cases hm:me=4
  ·subst hm
   go_wp2_with fail
   go_quiet (fail)
   go_wp2_with fail
   go_ret
   exact⟨rfl,HB.out.trans ⟨rfl,rfl,rfl,Nat.le_refl _,fun _ _=>rfl⟩⟩
  ·have hm2:((4:Int)==me)=false:=by simp;omega
   go_wp2_with fail
   go_ret
   exact⟨rfl,HB.out⟩
 ·have d0:=hd 5 (by omega)
  clear hd
  simp only [Nat.add_zero,Nat.reduceAdd] at d0
  by_cases hm:me=5
  ·subst hm
   go_wp2_with fail
   go_quiet (fail)
   go_wp2_with fail
   go_ret
   exact⟨rfl,HB.out.trans ⟨rfl,rfl,rfl,Nat.le_refl _,fun _ _=>rfl⟩⟩
  ·have hm2:((5:Int)==me)=false:=by simp;omega
   go_wp2_with fail
   go_ret
   exact⟨rfl,HB.out⟩
 ·have d0:=hd 6 (by omega)
  clear hd
  simp only [Nat.add_zero,Nat.reduceAdd] at d0
  by_cases hm:me=6
  ·subst hm
   go_wp2_with fail
   go_quiet (fail)
   go_wp2_with fail
   go_ret
   exact⟨rfl,HB.out.trans ⟨rfl,rfl,rfl,Nat.le_refl _,fun _ _=>rfl⟩⟩
  ·have hm2:((6:Int)==me)=false:=by simp;omega
   go_wp2_with fail
   go_ret
   exact⟨rfl,HB.out⟩
end
section
open Go.RowKit Go.Maps
theorem setNew_one (me:Int) (w:World) (hme:(Lit.int .i64 me).wf=true) (bl:Nat) (hb:Holds w bl 37 [.int .i64 me,.int .i64 1]) :
  Calls Tryz.prog 273 #[.slice (some ⟨bl,0,none⟩) 1 1] w fun e w'=>∃ s,e=.returned (.pointer (some ⟨s,0,none⟩))∧Below w.heap.size w w':=by
 have hmm:=@run_makeMap Tryz.prog
 have HH:=qh hb
 have HKY:=qh (key_inst me 1 hme (by decide))
 clear hb
 go_enter Tryz.func273,Tryz.ntmps273
 go_wp2_with fail
 have HN:=qh (show NoneAt ((w.alloc (.map #[] 0)).alloc (.cells #[.map (some w.heap.size)] 383)) (w.heap.size+1) w.heap.size from ⟨by
  have:=holds_alloc (w.alloc (.map #[] 0)) 383 [.map (some w.heap.size)]
  rw [World.size_alloc] at this
  exact this,(World.ownsMap_made w Tryz.prog 37 readN).alloc _⟩)
 have HB:=qh (show Below w.heap.size w ((w.alloc (.map #[] 0)).alloc (.cells #[.map (some w.heap.size)] 383)) from by
  have h1:Below w.heap.size w (w.alloc (.map #[] 0)):=(Below.refl _ _).alloc (Nat.le_refl _) _
  exact h1.alloc h1.size _)
 generalize (w.alloc (.map #[] 0)).alloc (.cells #[.map (some w.heap.size)] 383)=W at HN HB ⊢
 have hsz:w.heap.size≤w.heap.size+1:=Nat.le_succ _
 generalize hs:w.heap.size+1=s at HN hsz ⊢
 generalize hbb:w.heap.size=b at HN HB hsz ⊢
 go_loopw [11] (fun vi wr=>∃ i:Nat,vi=.int .i64 (i:Int)∧Below b w wr∧((i=0∧NoneAt wr s b∧Holds wr bl 37 [.int .i64 me,.int .i64 1])∨i=1)) (fun v _=>1 - (intOf v).toNat)
 case atStart=>exact⟨0,rfl,HB.out,.inl ⟨rfl,HN.out,HH.out.below HB.out (hbb▸HH.out.lt)⟩⟩
 case round=>
  clear HN HB
  obtain⟨i,rfl,hb,⟨rfl,hn,hl⟩|rfl⟩:=hrel
  ·have HB:=qh hb;have HN:=qh hn;have HL:=qh hl
   have hsw:=hb.size
   have hbs:b<wr.heap.size:=hn.2.lt
   clear hb hn hl
   have l0:=HL.out.cell 0
   have l1:=HL.out.cell 1
   simp only [yA,yB] at l0 l1
   go_upto_region 5 with (fail)
   go_name_world V hV
   have HX:=qh (show Holds V wr.heap.size 37 [.int .i64 me,.int .i64 1] by rw [← hV];exact holds_alloc wr _ _)
   have hal:Below wr.heap.size wr V:=by rw [← hV];go_grown
   have HN:=qh (HN.out.below hal)
   have HB:=qh (HB.out.trans (hal.mono (by omega)))
   clear hV hal l0 l1
   have HN:=qh (HN.out.below (t_drew _ _))
   have HX:=qh (show Holds V.drew wr.heap.size 37 _ from HX.out)
   have HB:=qh (HB.out.trans (t_drew _ _))
   refine wp_region_noPanic ?_
   refine wp_region_late (S:=fun W'=>Below V.drew.heap.size V.drew W') (X0:=[6]) (by as_aux_lemma=>kernel_rfl) ?_
   generalize V.drew=wd at HX HN HB ⊢
   have hSn:Below wd.heap.size wd wd:=Below.refl _ _
   change wpAnyL _ _ _ _ _ _ 7 #[false,false,false,false,false,false,false] _ _
   refine mvA 0 (some 15) (fun _=>hSn) ?_
   simp only [Act.put,zA,zB,zC]
   refine mvA 1 (some 16) (fun _=>hSn) ?_
   simp only [Act.put,zA,zB,zC]
   refine mvA 2 (some 17) (fun _=>hSn) ?_
   simp only [Act.put,zA,zB,zC]
   refine tkA 3 [6] (some 18) (?vg4) rfl (Or.inl ⟨by rfl,?hg4⟩) hSn ?rg4
   case hg4=>
    intro w hSw
    have m0:=(HN.out.below hSw).1.cell 0
    simp only [List.getElem?_cons_zero] at m0
    go_simp
    try with_reducible rfl
   simp only [Act.put,zA,zB,zC]
   refine tkA 4 [6] (some 19) (?vg5) rfl (Or.inl ⟨by rfl,?hg5⟩) hSn ?rg5
   case hg5=>
    intro w hSw
    have b0:=(holds_bel HX.out hSw).cell 0
    have b1:=(holds_bel HX.out hSw).cell 1
    simp only [yA,yB] at b0 b1
    go_simp
    try with_reducible rfl
   simp only [Act.put,zA,zB,zC]
   refine mvA 5 (some 20) (fun _=>hSn) ?_
   simp only [Act.put,zA,zB,zC]
   refine rd1 6 rfl (fun K hK=>?_)
   obtain⟨h1,hown⟩:=HN.out
   refine step_mapUpdate rfl (.tmp 18) (.tmp 19) (.tmp 20) 381 rfl 37 409 keyLaw Tryz.underlying381 readN b 0 (.map []) rfl hown (by unfold maxLen;omega) _ _ _ rfl rfl HKY.out _ [] rfl ?_
   intro w9 ho9 hg9
   have HT9:=qh (touch_of_grownBy hg9)
   clear hg9 ho9
   refine hK.out _ _ nlA ?_
   clear hK
   try simp only [Act.put,zA,zB,zC]
   refine dnA (NoPanic.normal ?_)
   have HB9:=qh (HB.out.trans (HT9.out.below (B:=b) (by omega) (hbb▸HB.out.size)))
   clear HT9 HB HX HN
   go_wp2_with fail
   go_roundw
   case rel=>exact⟨1,rfl,HB9.out,.inr rfl⟩
   case measure=>simp [intOf]
  ·have HB:=qh hb
   clear hb
   go_wp2_with fail
   go_ret
   exact⟨_,rfl,hbb▸HB.out⟩
end
section
open Go.RowKit Go.Maps
structure PlanAt (w:World) (g b n:Nat) (d:Nat→Int) (O:Value) (l:List LEnt):Prop where
 ix:Holds w g 327 (cutL d++[.map (some b),O])
 map:∃ D,w.ownsMap Tryz.prog 37 readN b n D∧LLists D l
 good:LGoodE l
 rows:∀ e∈l,e.L.length=21∧e.L.toArray.all (·.oneCell')=true
theorem PlanAt.wf {w:World} {g b n:Nat} {d:Nat→Int} {O:Value} {l:List LEnt} (h:PlanAt w g b n d O l):LWfE l:=h.good.wf
theorem PlanAt.keep {w w':World} {g b n:Nat} {d:Nat→Int} {O:Value} {l:List LEnt} (h:PlanAt w g b n d O l) (hg:w'.heap[g]?=w.heap[g]?) (hb:w'.heap[b]?=w.heap[b]?):PlanAt w' g b n d O l:=by
 obtain⟨D,⟨es,clock,hm,r⟩,hl⟩:=h.map
 exact⟨by have:=h.ix;unfold Holds at *;rw [hg];exact this,⟨D,⟨es,clock,hb.trans hm,r⟩,hl⟩,h.good,h.rows⟩
theorem PlanAt.lt {w:World} {g b n:Nat} {d:Nat→Int} {O:Value} {l:List LEnt} (h:PlanAt w g b n d O l):g<w.heap.size∧b<w.heap.size:=by
 obtain⟨D,hm,_⟩:=h.map
 exact⟨h.ix.lt,hm.lt⟩
theorem PlanAt.below {w w':World} {g b n:Nat} {d:Nat→Int} {O:Value} {l:List LEnt} (h:PlanAt w g b n d O l) (hb:Below w.heap.size w w'):PlanAt w' g b n d O l:=h.keep (hb.block g h.lt.1) (hb.block b h.lt.2)
theorem PlanAt.ne {w:World} {g b n:Nat} {d:Nat→Int} {O:Value} {l:List LEnt} (h:PlanAt w g b n d O l):g≠b:=by
 obtain⟨D,⟨es,clock,hb,_⟩,_⟩:=h.map
 intro e
 have:=h.ix
 unfold Holds at this
 rw [e,hb] at this
 cases this
theorem PlanAt.set {w w':World} {g b n:Nat} {d d':Nat→Int} {O O':Value} {l:List LEnt} (h:PlanAt w g b n d O l) (hh:Holds w' g 327 (cutL d'++[.map (some b),O'])) (ht:Touch g w w'):PlanAt w' g b n d' O' l:=by
 obtain⟨D,⟨es,clock,hm,r⟩,hl⟩:=h.map
 exact⟨hh,⟨D,⟨es,clock,(ht.block b h.lt.2 (Ne.symm h.ne)).trans hm,r⟩,hl⟩,h.good,h.rows⟩
theorem PlanAt.look {w:World} {g b n:Nat} {d:Nat→Int} {O:Value} {l:List LEnt} (h:PlanAt w g b n d O l) (r s:Int) (hr:(Lit.int .i64 r).wf=true) (hs:(Lit.int .i64 s).wf=true) :
  ∃ v:List Value,v.length=21∧v.toArray.all (·.oneCell')=true∧(∀ e∈l,e.r=r→e.s=s→v=e.L) ∧
   (∀ W,Below w.heap.size w W→(Instr.lookup 246 (.map (some b)) (.agg #[.int .i64 r,.int .i64 s]) true).run Tryz.prog W=.ok (.tuple #[.agg v.toArray,.bool (hasL l r s)]) W) ∧
   (∀ W,Below w.heap.size w W→(Instr.lookup 246 (.map (some b)) (.agg #[.int .i64 r,.int .i64 s]) false).run Tryz.prog W=.ok (.agg v.toArray) W):=by
 have hz:∀ W,(zeroValue 45).run Tryz.prog W=.ok (.agg zero21.toArray) W:=fun W=>run_zero W (by kernel_rfl)
 obtain⟨D,hm,hl⟩:=h.map
 have hkey:=key_inst r s hr hs
 have hhas:=hl.has_inst h.wf r s hr hs
 have hex:∃ v:List Value,v.length=21∧v.toArray.all (·.oneCell')=true∧(∀ e∈l,e.r=r→e.s=s→v=e.L)∧D.atKey (keyL r s) (.held (.agg zero21.toArray))=.held (.agg v.toArray):=by
  cases hq:Maps.has D (keyL r s)
  ·refine⟨zero21,rfl,by simp [zero21,Value.oneCell'],fun e he h1 h2=>?_,Maps.atKey_of_not_has hq _⟩
   rw [hhas] at hq
   have:=List.any_eq_false.1 hq e he
   simp [h1,h2] at this
  ·rw [hhas] at hq
   obtain⟨e,he,hrs⟩:=List.any_eq_true.1 hq
   simp only [Bool.and_eq_true,beq_iff_eq] at hrs
   refine⟨e.L,(h.rows e he).1,(h.rows e he).2,fun e' he' h1 h2=>?_,?_⟩
   ·have hp:=hl.apart
    by_cases hee:e=e'
    ·rw [hee]
    ·exfalso
     obtain⟨i,hi,rfl⟩:=List.getElem_of_mem he
     obtain⟨j,hj,rfl⟩:=List.getElem_of_mem he'
     have hij:i≠j:=fun hc=>hee (by subst hc;rfl)
     rw [List.pairwise_iff_getElem] at hp
     rcases Nat.lt_or_gt_of_ne hij with hlt|hgt
     ·exact hp i j hi hj hlt ⟨hrs.1.trans h1.symm,hrs.2.trans h2.symm⟩
     ·exact hp j i hj hi hgt ⟨h1.trans hrs.1.symm,h2.trans hrs.2.symm⟩
   ·have:=hl.at_ e he (.held (.agg zero21.toArray))
    rw [LEnt.key,hrs.1,hrs.2] at this
    exact this
 obtain⟨v,h1,h2,h3,h4⟩:=hex
 obtain⟨es,clock,hbk,hrest⟩:=hm
 refine⟨v,h1,h2,h3,fun W hb=>?_,fun W hb=>?_⟩
 ·have hmW:W.ownsMap Tryz.prog 37 readN b n D:=⟨es,clock,(hb.block b h.lt.2).trans hbk,hrest⟩
  obtain⟨v',ps,hrun,hv⟩:=hmW.look_ok keyLaw Tryz.underlying246 (hz W) (zd:=.held (.agg zero21.toArray)) (zp:=[]) rfl hkey
  rw [h4] at hv
  unfold readN at hv
  injection hv with hv
  injection hv with hv _
  injection hv with hv
  rw [hv,hhas] at hrun
  exact hrun
 ·have hmW:W.ownsMap Tryz.prog 37 readN b n D:=⟨es,clock,(hb.block b h.lt.2).trans hbk,hrest⟩
  obtain⟨v',ps,hrun,hv⟩:=hmW.lookup keyLaw Tryz.underlying246 (hz W) (zd:=.held (.agg zero21.toArray)) (zp:=[]) rfl hkey
  rw [h4] at hv
  unfold readN at hv
  injection hv with hv
  injection hv with hv _
  injection hv with hv
  rw [hv] at hrun
  exact hrun
end
section
open Go.RowKit Go.Maps
theorem field_attr (c:Cm) (w:World):(Instr.field 45 (.agg #[.int .i64 3,.int .i64 0,.int .i64 0,.int .i64 0,.int .i64 0,.int .i64 c.k,.int .i64 c.c,.int .i64 c.s,.string c.a,.string c.b,.string c.o,.string c.v,.int .i64 0,.int .i64 0,.int .i64 0,.int .i64 0,.int .i64 0,.int .i64 0,.int .i64 0,.int .i64 0,.bool false]) 4).run Tryz.prog w=.ok (.agg #[.int .i64 0,.int .i64 0,.int .i64 0,.int .i64 0,.int .i64 0,.int .i64 0,.int .i64 0,.int .i64 0]) w:=by kernel_rfl
theorem field_deps (w:World):(Instr.field 43 (.agg #[.int .i64 0,.int .i64 0,.int .i64 0,.int .i64 0,.int .i64 0,.int .i64 0,.int .i64 0,.int .i64 0]) 1).run Tryz.prog w=.ok (.agg #[.int .i64 0,.int .i64 0,.int .i64 0,.int .i64 0,.int .i64 0,.int .i64 0,.int .i64 0]) w:=by kernel_rfl
theorem edges_one (g b n bl cl:Nat) (d:Nat→Int) (O:Value) (l:List LEnt) (me:Int) (c:Cm) (w:World) (h:PlanAt w g b n d O l) (hin:(⟨me,1,cellL 3 c false⟩:LEnt)∈l) (hme:(Lit.int .i64 me).wf=true) (hbl:Holds w bl 37 [.int .i64 me,.int .i64 1]) :
  Calls Tryz.prog 312 #[.pointer (some ⟨g,0,none⟩),.slice (some ⟨bl,0,none⟩) 1 cl] w fun e w'=>∃ be,e=.returned (.slice (some ⟨be,0,none⟩) 1 1)∧Holds w' be 30 [.slice none 0 0]∧w.heap.size≤be∧Below w.heap.size w w':=by
 have HP:=qh h
 have HH:=qh hbl
 have hlt:=h.lt
 have hll:=hbl.lt
 obtain⟨v,hv1,hv2,hv3,_,hv4⟩:=h.look me 1 hme (by decide)
 have hv:=hv3 _ hin rfl rfl
 dsimp only at hv
 subst hv
 have HL:=qh hv4
 clear hv4 hv3 hv2 hv1 h hbl hin
 have hm2:=mk_row1
 have hf1:=fun W=>field_attr c W
 have hf2:=field_deps
 go_enter Tryz.func312,Tryz.ntmps312
 go_wp2_with fail
 have HE:=qh (holds_alloc w 30 [.slice none 0 0])
 have HB:=qh (show Below w.heap.size w (w.alloc (.cells #[.slice none 0 0] 30)) by go_grown)
 generalize w.alloc (.cells #[.slice none 0 0] 30)=W at HE HB ⊢
 have hbe:w.heap.size<W.heap.size:=HE.out.lt
 generalize hbb:w.heap.size=be at HE HB hbe ⊢
 go_loopw [16] (fun vi wr=>∃ i:Nat,vi=.int .i64 (i:Int)∧Below be w wr∧Holds wr be 30 [.slice none 0 0]∧i≤1) (fun v _=>1 - (intOf v).toNat)
 case atStart=>exact⟨0,rfl,HB.out,HE.out,by omega⟩
 case round=>
  clear HE HB
  obtain⟨i,rfl,hb,he,hi⟩:=hrel
  rcases (show i=0∨i=1 by omega) with rfl|rfl
  ·have HB:=qh hb;have HE:=qh he
   have HPr:=qh (HP.out.below (hbb▸hb))
   have HHr:=qh (HH.out.below hb (hbb▸hll))
   have HLr:=qh (fun W' (hw:Below wr.heap.size wr W')=>HL.out W' (by subst hbb;exact hb.trans (hw.mono hb.size)))
   have hsw:=hb.size
   have hse:=he.lt
   have h0:=HHr.out.cell 0
   have h1:=HHr.out.cell 1
   simp only [yA,yB] at h0 h1
   clear hb he
   go_upto_region 5 with (fail)
   go_name_world V hV
   have HX:=qh (show Holds V wr.heap.size 37 [.int .i64 me,.int .i64 1] by rw [← hV];exact holds_alloc wr _ _)
   have hal:Below wr.heap.size wr V:=by rw [← hV];go_grown
   have HB:=qh (HB.out.trans (hal.mono (by omega)))
   have HE:=qh (holds_bel HE.out hal)
   have HPr:=qh (HPr.out.below hal)
   have HH2:=qh (holds_bel HHr.out hal)
   have HLr:=qh (fun W' (hw:Below V.heap.size V W')=>HLr.out W' (hal.trans (hw.mono hal.size)))
   have hsv:=hal.size
   clear hV hal h0 h1
   have HPr:=qh (HPr.out.below (t_drew _ _))
   have HX:=qh (show Holds V.drew wr.heap.size 37 _ from HX.out)
   have HE:=qh (show Holds V.drew be 30 _ from HE.out)
   have HH2:=qh (show Holds V.drew bl 37 _ from HH2.out)
   have HB:=qh (HB.out.trans (t_drew _ _))
   have HLr:=qh (fun W' (hw:Below V.drew.heap.size V.drew W')=>HLr.out W' ((t_drew V.heap.size V).trans hw))
   have hsv:wr.heap.size≤V.drew.heap.size:=hsv
   refine wp_region_noPanic ?_
   refine wp_region_late (S:=fun W'=>Below V.drew.heap.size V.drew W') (X0:=[]) (by as_aux_lemma=>kernel_rfl) ?_
   generalize V.drew=wd at HX HPr HE HB HLr HH2 hsv ⊢
   have hSn:Below wd.heap.size wd wd:=Below.refl _ _
   change wpAnyL _ _ _ _ _ _ 10 #[false,false,false,false,false,false,false,false,false,false] _ _
   refine mvA 0 (some 21) (fun _=>hSn) ?_
   simp only [Act.put,zA,zB,zC]
   refine mvA 1 (some 22) (fun _=>hSn) ?_
   simp only [Act.put,zA,zB,zC]
   refine mvA 2 (some 23) (fun _=>hSn) ?_
   simp only [Act.put,zA,zB,zC]
   refine tkA 3 [] (some 24) (?vg4) rfl (Or.inl ⟨by rfl,?hg4⟩) hSn ?rg4
   case hg4=>
    intro w hSw
    have m0:=(HPr.out.below hSw).ix.cell 7
    simp only [cutL,List.cons_append,List.nil_append,yA,yB] at m0
    go_simp
    try with_reducible rfl
   simp only [Act.put,zA,zB,zC]
   refine tkA 4 [] (some 25) (?vg5) rfl (Or.inl ⟨by rfl,?hg5⟩) hSn ?rg5
   case hg5=>
    intro w hSw
    have b0:=(holds_bel HX.out hSw).cell 0
    have b1:=(holds_bel HX.out hSw).cell 1
    simp only [yA,yB] at b0 b1
    go_simp
    try with_reducible rfl
   simp only [Act.put,zA,zB,zC]
   refine tkA 5 [] (some 26) (?vg6) rfl (Or.inl ⟨by rfl,?hg6⟩) hSn ?rg6
   case hg6=>
    intro w hSw
    have hlk:=HLr.out w hSw
    unfold cellL at hlk
    go_simp
    try with_reducible rfl
   simp only [Act.put,zA,zB,zC]
   refine mvA 6 (some 27) (fun _=>hSn) ?_
   simp only [Act.put,zA,zB,zC]
   refine mvA 7 (some 28) (fun _=>hSn) ?_
   simp only [Act.put,zA,zB,zC]
   refine rd1 8 rfl (fun K hK=>?_)
   go_simp
   have hal:=fun o=>Below.alloc hSn hSn.size o
   refine hK.out _ _ (fun _=>hal _) ?_
   have hSn:=hal (.cells ([.int .i64 0,.int .i64 0,.int .i64 0,.int .i64 0,.int .i64 0,.int .i64 0,.int .i64 0]:List Value).toArray 41)
   have HB6:=qh (show Holds (wd.alloc (.cells ([.int .i64 0,.int .i64 0,.int .i64 0,.int .i64 0,.int .i64 0,.int .i64 0,.int .i64 0]:List Value).toArray 41)) wd.heap.size 41 [.int .i64 0,.int .i64 0,.int .i64 0,.int .i64 0,.int .i64 0,.int .i64 0,.int .i64 0] from holds_alloc wd _ _)
   clear hal
   generalize wd.alloc (.cells ([.int .i64 0,.int .i64 0,.int .i64 0,.int .i64 0,.int .i64 0,.int .i64 0,.int .i64 0]:List Value).toArray 41)=wa at hSn HB6 ⊢
   clear hK
   try simp only [Act.put,zA,zB,zC]
   refine rd1 9 rfl (fun K hK=>?_)
   refine step_store_box rfl 41 (.tmp 8) (.tmp 28) wd.heap.size [.int .i64 0,.int .i64 0,.int .i64 0,.int .i64 0,.int .i64 0,.int .i64 0,.int .i64 0] [.int .i64 0,.int .i64 0,.int .i64 0,.int .i64 0,.int .i64 0,.int .i64 0,.int .i64 0] rfl rfl rfl rfl HB6.out (by kernel_rfl) rfl (by simp [Value.oneCell']) ?_
   intro wb hh6 ht6
   have hSn:=hSn.trans (ht6.below (Nat.le_refl _) hSn.size)
   clear hh6 ht6
   refine hK.out _ _ (fun _=>hSn) ?_
   clear hK
   try simp only [Act.put,zA,zB,zC]
   refine dnA (NoPanic.normal ?_)
   have HE:=qh (holds_bel HE.out hSn)
   have HH2:=qh (holds_bel HH2.out hSn)
   have HB:=qh (HB.out.trans (hSn.mono (by omega)))
   have hs6:=hSn.size
   clear hSn HPr HX HLr HB6
   go_wp2_with fail
   go_loopw [31] (fun vj w2=>∃ j:Nat,vj=.int .i64 (j:Int)∧j≤1∧Below be w w2∧Holds w2 be 30 [.slice none 0 0]∧Holds w2 bl 37 [.int .i64 me,.int .i64 1]) (fun v _=>1 - (intOf v).toNat)
   case atStart=>exact⟨0,rfl,by omega,HB.out,HE.out,HH2.out⟩
   case round=>
    clear HB HE HH2
    obtain⟨j,rfl,hj,hb,he,hh⟩:=hrel
    rcases (show j=0∨j=1 by omega) with rfl|rfl
    ·have h0:=hh.cell 0
     have h1:=hh.cell 1
     simp only [yA,yB] at h0 h1
     have HB:=qh hb;have HE:=qh he;have HH2:=qh hh
     have hse2:=he.lt
     clear hb he hh
     go_wp2_with fail
     have hal:Below wr.heap.size wr (wr.alloc (.cells #[.int .i64 me,.int .i64 1] 37)):=by go_grown
     go_roundw
     case rel=>exact⟨1,rfl,by omega,HB.out.trans (hal.mono (by omega)),holds_bel HE.out hal,holds_bel HH2.out hal⟩
     case measure=>simp [intOf]
    ·have HB:=qh hb;have HE:=qh he
     clear hb he hh
     go_wp2_with fail
     go_roundw
     case rel=>exact⟨1,rfl,HB.out,HE.out,by omega⟩
     case measure=>simp [intOf]
  ·have HB:=qh hb;have HE:=qh he
   clear hb he
   go_wp2_with fail
   go_ret
   exact⟨be,rfl,HE.out,by omega,hbb▸HB.out⟩
end
end Go.Proofs.YtimdpiifpibgfaaGreatDoor
