/- A part of the proof that the law TopCopies returns true for every input. -/
import Derived.Deep.OwnRows
import Derived.Test.YtimdpiifpibgfaaGreatDoorQc27
set_option linter.all false
set_option maxRecDepth 20000
set_option maxHeartbeats 16000000
open Go.RowKit Go.Maps
namespace Go.Proofs.YtimdpiifpibgfaaGreatDoor
open Tryz
theorem Ya(g bi bl bo bp B be ce:Nat)(w:World)(h:GW w g bi bl bo bp (.slice (some ⟨be,0,none⟩) 1 ce) (.slice none 0 0) 0 0 0 0 0 false)(he:Holds w be 30 [.slice none 0 0])(hbe:be<B)(hB:B≤w.heap.size)(hlo:Xj B g bi bl bo bp) :Calls prog 329 #[.pointer (some ⟨g,0,none⟩),.int .i64 0] w λe w'=>∃R,e=.returned (.tuple #[])∧GW w' g bi bl bo bp (.slice (some ⟨be,0,none⟩) 1 ce) R 1 1 1 1 0 false∧Below B w w':=by
 obtain⟨l1,l2,l3,l4,l5⟩:=id hlo;have HG:=qh h;have HE:=qh he;have he0:=qh (he);obtain⟨t1,t2,t3,t4,t5⟩:=h.lt;have K1:=qh (YB g bi bl bo bp B (.slice (some ⟨be,0,none⟩) 1 ce) w h hB hlo);have K2:=qh (λbr c L W h1 h2 h3 h4 h5=>Ub g bi bl bo bp B br c L (.slice (some ⟨be,0,none⟩) 1 ce) W h1 h2 h3 h4 h5 hlo);have HLO:=qh hlo;clear h he hlo;go_in;go_wp2_with fail;refine K1.mono ?_;rintro e w1 ⟨br,c,L,rfl,hg,hr,hbr,hc1,hLc,hb⟩;have HG:=qh hg;have HR:=qh hr;have HB:=qh hb;have hs1:w.heap.size≤w1.heap.size:=hb.size;have t6:=hr.lt;clear hg hr hb K1;go_wp2_with fail;have HW:=qh (show Holds (w1.alloc (.cells #[.int .i64 0,.int .i64 0] 446)) w1.heap.size 446 [.int .i64 0,.int .i64 0] from AA w1 _ _);have HA:=qh (show Below w1.heap.size w1 (w1.alloc (.cells #[.int .i64 0,.int .i64 0] 446)) by go_grown);generalize w1.alloc (.cells #[.int .i64 0,.int .i64 0] 446)=W at HW HA ⊢;have HG:=qh (HG.below HA.o);have HR:=qh (AC HR.o HA.o);have HB:=qh (HB.trans (HA.mono (by omega)));have hbw:w.heap.size≤w1.heap.size:=hs1;generalize hw1:w1.heap.size=bw at HW hbw ⊢;go_loopw [4] (λv4 wr=>∃m:Nat,v4=.slice (some ⟨bw,0,none⟩) m 1∧Below B w wr∧((m=1∧GW wr g bi bl bo bp (.slice (some ⟨be,0,none⟩) 1 ce) (.slice (some ⟨br,0,none⟩) 1 c) 0 1 1 1 0 true∧Holds wr br 3 (.int .i64 0 :: L)∧Holds wr bw 446 [.int .i64 0,.int .i64 0])∨(m=0∧GW wr g bi bl bo bp (.slice (some ⟨be,0,none⟩) 1 ce) (.slice (some ⟨br,0,none⟩) 0 c) 1 1 1 1 0 false))) (λv _=>match v with | .slice _ m _=>m|_=>0);case atStart=>exact⟨1,rfl,HB.o,.inl ⟨rfl,HG.o,HR.o,HW.o⟩⟩
 case round=>
  clear HG HR HB HW HA;have hw0:IntKind.i64.wrap 0=0:=by decide
  obtain⟨m,rfl,hb,⟨rfl,hg,hr,hs⟩|⟨rfl,hg⟩⟩:=hrel
  ·have HG:=qh hg;have HR:=qh hr;have HB:=qh hb;have HS:=qh hs;have HE:=qh (he0.below hb hbe);clear hg hr hb hs;go_upto_region 3 with(fail);refine wp_region_noPanic ?_;refine Bi (S:=λW'=>Holds W' g 431 (Ie (.slice (some ⟨be,0,none⟩) 1 ce) (.slice (some ⟨br,0,none⟩) 1 c) bi bl bo bp 0 1)∧Holds W' bw 446 [.int .i64 0,.int .i64 0]∧Holds W' be 30 [.slice none 0 0]) (X0:=[]) (by as_aux_lemma=>kernel_rfl) ?_;have hSn:=And.intro (HG.below (AQ _ _)).hg (And.intro (show Holds wr.drew bw 446 _ from HS.o) (show Holds wr.drew be 30 _ from HE.o));have HG:=qh (HG.below (AQ _ _));have HR:=qh (show Holds wr.drew br 3 _ from HR.o);have HS:=qh (show Holds wr.drew bw 446 _ from HS.o);have HB:=qh (HB.trans (AQ _ _));generalize wr.drew=wd at HG HR HS HB hSn ⊢;change wpAnyL _ _ _ _ _ _ 16 #[false,false,false,false,false,false,false,false,false,false,false,false,false,false,false,false] _ _;refine Dz 0 ?_;refine BG 3 [] (λw hSw=>Ag hSw.2.1 1) ?_;refine Dz 4 ?_;refine BG 7 [] (λw hSw=>Ag hSw.1 0) ?_;refine Dz 8 ?_;refine BG 11 [] (λw hSw=>Ag hSw.2.1 0) ?_;refine CS 12 ?_;refine BG 13 [] (λw hSw=>Ag hSw.2.2 0) ?_;refine FT 14 ?_;refine Dl ?_;clear hSn;have s0:=HS.cell 0;simp only[List.getElem?_cons_zero] at s0;go_wp2_with fail;have hws:w.heap.size≤wd.heap.size:=HB.size;refine Ac (K2.out br c L wd HG.o HR.o ⟨by omega,by omega,by omega⟩ hc1 (by omega)) ?_;rintro w5 ⟨hg5,hb5⟩;have HG5:=qh hg5;have HB5:=qh (HB.trans hb5);clear hg5 hb5 s0 HS HR HE;have h1c:(0:Int)≤1:=by decide
   go_wp2_with fail;go_roundw;case rel=>exact⟨0,rfl,HB5.o,.inr ⟨rfl,HG5.o⟩⟩
   case measure=>simp
  ·have HG:=qh hg;have HB:=qh hb;go_wp2_with fail;exact bE ⟨_,rfl,HG.o,HB.o⟩
def lenOf:Value→Nat
 | .slice _ m _=>m
 | _=>0
theorem MZ{w:World}{base base' size n:Nat}{e:TypeId}{v:Value}{xs:List Value}(h:w.ownsRow base e size v n xs)(hl:base'≤base):w.ownsRow base' e size v n xs:=
 ⟨h.1,h.2.imp id λ⟨g,cap,cur,e1,e2,e3⟩=>⟨g,cap,cur,e1,Nat.le_trans hl e2,e3⟩⟩
theorem Ov(z:Value):madeCells #[z] 1=#[z]:=by kernel_rfl
theorem Vb(w:World):(Instr.makeSlice 30 (.int .i64 1) (.int .i64 1)).run prog w=.ok (.slice (some ⟨w.heap.size,0,none⟩) 1 1) (w.alloc (.cells #[.int .i64 0] 3)):=by have h:=run_make_row' (P:=prog) 30 3 (.int .i64 0) 8 (by kernel_rfl) (by kernel_rfl) rfl .i64 .i64 1 (by omega) (by omega) w;rw[Ov] at h;exact h
theorem Yx(w:World):(Instr.makeSlice 429 (.int .i64 1) (.int .i64 1)).run prog w=.ok (.slice (some ⟨w.heap.size,0,none⟩) 1 1) (w.alloc (.cells #[.bool false] 4)):=by have h:=run_make_row' (P:=prog) 429 4 (.bool false) 1 (by kernel_rfl) (by kernel_rfl) rfl .i64 .i64 1 (by omega) (by omega) w;rw[Ov] at h;exact h
theorem Qv(w:World):(Instr.makeSlice 411 (.int .i64 1) (.int .i64 1)).run prog w=.ok (.slice (some ⟨w.heap.size,0,none⟩) 1 1) (w.alloc (.cells #[.slice none 0 0] 30)):=by have h:=run_make_row' (P:=prog) 411 30 (.slice none 0 0) 24 (by kernel_rfl) (by kernel_rfl) rfl .i64 .i64 1 (by omega) (by omega) w;rw[Ov] at h;exact h
theorem XK(be ce bp bn b0 c0:Nat)(w:World)(he:Holds w be 30 [.slice none 0 0])(hp:Holds w bp 3 [.int .i64 0])(hn:Holds w bn 30 [.slice (some ⟨b0,0,none⟩) 1 c0]) :Calls prog 330 #[.slice (some ⟨be,0,none⟩) 1 ce,.slice (some ⟨bp,0,none⟩) 1 1,.slice (some ⟨bn,0,none⟩) 1 1] w λe w'=>∃v,e=.returned v∧w'.ownsRow w.heap.size 30 1 v 1 [.slice (some ⟨b0,0,none⟩) 1 c0]∧Below w.heap.size w w':=by
 have HE:=qh he;have HP:=qh hp;have HN:=qh hn;have hbn0:=hn.lt;clear he hp hn;have hm1:=Vb;have hm2:=Qv;go_in;go_wp2_with fail;have HL:=qh (show Holds ((w.alloc (.cells #[.int .i64 0] 3)).alloc (.cells #[.slice none 0 0] 30)) w.heap.size 3 [.int .i64 0] from Ak (AA w _ _) _);have HK:=qh (show Holds ((w.alloc (.cells #[.int .i64 0] 3)).alloc (.cells #[.slice none 0 0] 30)) (w.heap.size+1) 30 [.slice none 0 0] from by
  have:=AA (w.alloc (.cells #[.int .i64 0] 3)) 30 [.slice none 0 0];rw[World.size_alloc] at this;exact this)
 have HB:=qh (show Below w.heap.size w ((w.alloc (.cells #[.int .i64 0] 3)).alloc (.cells #[.slice none 0 0] 30)) from by go_grown);generalize (w.alloc (.cells #[.int .i64 0] 3)).alloc (.cells #[.slice none 0 0] 30)=W at HL HK HB ⊢;have HE:=qh (AC HE.o HB.o);have HP:=qh (AC HP.o HB.o);have HN:=qh (AC HN.o HB.o);have hgl:w.heap.size+1<W.heap.size:=HK.o.lt;generalize hk:w.heap.size+1=gk at HK hgl ⊢;generalize hl:w.heap.size=gl at HL HB ⊢;go_loopw [27] (λv wr=>∃i:Nat,v=.int .i64 (i:Int)∧i≤1∧wr=W) (λv _=>1 - (intOf v).toNat);case atStart=>first|exact⟨0,rfl,by omega,rfl⟩|exact⟨0,rfl,by omega,trivial⟩|exact⟨0,by simp⟩
 case round=>
  obtain⟨i,rfl,hi,rfl⟩:=hrel;rcases(show i=0∨i=1 by omega) with rfl|rfl
  ·have e0:=HE.cell 0;simp only[List.getElem?_cons_zero] at e0;go_wp2_with fail;go_loopw [34] (λv w2=>v=.int .i64 0∧w2=wr) (λ_ _=>0);case atStart=>first|exact⟨rfl,rfl⟩|exact⟨rfl,trivial⟩|simp
   case round=>
    obtain⟨rfl,rfl⟩:=hrel;go_wp2_with fail;go_roundw;case rel=>exact⟨1,by simp⟩
    case measure=>simp[intOf]
  ·go_wp2_with fail;have HT:=qh (AA wr 3 [.int .i64 0]);have HA:=qh (show Below wr.heap.size wr (wr.alloc (.cells #[.int .i64 0] 3)) by go_grown);generalize wr.alloc (.cells #[.int .i64 0] 3)=W at HT HA ⊢;have hgw:gl<wr.heap.size:=HL.lt;have HE:=qh (AC HE.o HA.o);have HN:=qh (AC HN.o HA.o);have HK:=qh (AC HK.o HA.o);have HL:=qh (AC HL.o HA.o);have HB:=qh (HB.trans (HA.mono (by omega)));have hgt:wr.heap.size<W.heap.size:=HT.lt;generalize hgtt:wr.heap.size=gt at HT hgt hgw hgl ⊢;go_loopw [14] (λv w2=>(v=.slice none 0 0∧w2=W)∨(∃p c,v=.slice p 1 c∧w2.ownsRow gl 30 1 v 1 [.slice (some ⟨b0,0,none⟩) 1 c0]∧Below gl w w2)) (λv _=>1-lenOf v);case atStart=>first|exact .inl ⟨rfl,rfl⟩|simp
   case round=>
    rcases hrel with⟨rfl,rfl⟩|⟨p,c,rfl,ho,hb⟩
    ·go_wp2_with fail;go_loopw [15,97] (λv15 v97 w2=>(v15=.int .i64 (-1)∧v97=.int .i64 0∧w2=wr)∨(v15=.int .i64 0∧v97=.int .i64 1∧Below wr.heap.size wr w2)) (λ_ v _=>1 - (intOf v).toNat);case atStart=>first|exact .inl ⟨rfl,rfl,rfl⟩|simp
     case round=>
      rcases hrel with⟨rfl,rfl,rfl⟩|⟨rfl,rfl,hb⟩
      ·have l0:=HL.cell 0;have k0:=HT.cell 0;simp only[List.getElem?_cons_zero] at l0 k0;go_upto_region 21 with(fail);go_quiet (fail);go_wp2_with fail;exact⟨.inr ⟨rfl,rfl,⟨rfl,rfl,rfl,Nat.le_refl _,λ_ _=>rfl⟩⟩,by decide⟩
      ·have HB2:=qh hb
       rename World=>w2
       have HT:=qh (AC HT.o hb);have HN:=qh (AC HN.o hb);have HK:=qh (AC HK.o hb);have hs2:=hb.size;have hgb:bn<w2.heap.size:=HN.lt;have HBN:=qh (show bn≠gt from by omega);clear hb;go_wp2_with (first|(refine sC 0 HT.o (.int .i64 1) ?_;intro w3 hh ht;have HT3:=qh ht;have hn3:=(HN.touch ht HBN.o);have n0:=hn3.cell 0;simp only[List.getElem?_cons_zero] at n0;have HK3:=qh (HK.o.touch ht (by omega));have hs3:=ht.size;clear hh ht)|(at_builtin;refine AZ rfl (.tmp 136) (.tmp 141) 411 rfl (w3.heap.size+1) 30 (.slice none 0 0) 1 24 rfl (by kernel_rfl) rfl (by decide) _ 0 [] rfl (World.ownsRow_nil _ _ _ _) (some ⟨w3.heap.size,0,none⟩) 1 1 [.slice (some ⟨b0,0,none⟩) 1 c0] rfl rfl ((AA w3 _ _).reads 0 _ (λj v hv=>by simpa using hv)) (by intro h;cases h) (by simp[Value.oneCell']) (by unfold maxLen;omega) (by omega) (by simp) ?_;intro v4 w4 ho4 hb4 _;have HO4:=qh (MZ ho4 (show gl≤w3.heap.size+1 by omega));have hb4:=((Below.refl w3.heap.size w3).alloc (Nat.le_refl _) (.cells #[.slice (some ⟨b0,0,none⟩) 1 c0] 30)).trans (hb4.mono (Nat.le_succ _));have HB4:=qh hb4;have k4:=(AC HK3.o hb4).cell 0;simp only[List.getElem?_cons_zero] at k4;clear ho4 hb4)|fail);have HB5:=qh ((HB.trans (HB2.mono (by omega))).trans ((HT3.below (B:=gl) (by omega) (by omega)).trans (HB4.mono (by omega))));go_loopw [148] (λv w2=>v=.int .i64 0∧w2=w4) (λ_ _=>0);case atStart=>first|exact⟨rfl,rfl⟩|exact⟨rfl,trivial⟩|simp
       case round=>
        obtain⟨rfl,rfl⟩:=hrel;obtain⟨p4,c4,rfl⟩:∃p4 c4,v4=.slice p4 1 c4:=by
         obtain⟨_,h2⟩:=HO4.o;rcases h2 with⟨hv,hn⟩|⟨g,cap,cur,hv,_⟩
         ·cases hn
         ·exact⟨_,cap,hv⟩
        go_wp2_with fail;go_roundw;case rel=>
         repeat apply Exists.intro
         exact⟨.inr ⟨p4,c4,rfl,HO4.o,HB5.o⟩,rfl⟩
        case measure=>simp[lenOf]
    ·have HO:=qh ho;have HB:=qh hb;clear ho hb;go_wp2_with fail;go_ret;exact⟨_,rfl,hl▸HO.o,hl▸HB.o⟩
theorem Lr{A:Array Obj}{x:Obj}{k:Nat}(h:k=A.size):(A.push x)[k]?=some x:=by rw[Array.getElem?_push,if_pos h]
theorem DD{A:Array Obj}{x:Obj}{k:Nat}(h:k<A.size):(A.push x)[k]?=A[k]?:=by rw[Array.getElem?_push,if_neg (by omega)]
theorem Fp(w:World)(a b c d e:Obj) :(((((w.alloc a).alloc b).alloc c).alloc d).alloc e).drew.heap[w.heap.size]?=some a∧(((((w.alloc a).alloc b).alloc c).alloc d).alloc e).drew.heap[w.heap.size+1]?=some b∧(((((w.alloc a).alloc b).alloc c).alloc d).alloc e).drew.heap[w.heap.size+1+1]?=some c ∧(((((w.alloc a).alloc b).alloc c).alloc d).alloc e).drew.heap[w.heap.size+1+1+1]?=some d∧(((((w.alloc a).alloc b).alloc c).alloc d).alloc e).drew.heap[w.heap.size+1+1+1+1]?=some e∧Below w.heap.size w (((((w.alloc a).alloc b).alloc c).alloc d).alloc e).drew:=by
 have hW:(((((w.alloc a).alloc b).alloc c).alloc d).alloc e).drew.heap=((((w.heap.push a).push b).push c).push d).push e:=rfl;refine⟨?_,?_,?_,?_,?_,⟨rfl,rfl,rfl,?_,λk hk=>?_⟩⟩
 ·rw[hW,DD (by simp<;>omega),DD (by simp<;>omega),DD (by simp<;>omega),DD (by simp),Lr rfl]
 ·rw[hW,DD (by simp<;>omega),DD (by simp<;>omega),DD (by simp),Lr (by simp)]
 ·rw[hW,DD (by simp<;>omega),DD (by simp),Lr (by simp)]
 ·rw[hW,DD (by simp),Lr (by simp)]
 ·rw[hW,Lr (by simp)]
 ·rw[hW];simp;omega
 ·rw[hW,DD (by simp<;>omega),DD (by simp<;>omega),DD (by simp<;>omega),DD (by simp<;>omega),DD hk]
theorem XL(be ce:Nat)(w:World)(he:Holds w be 30 [.slice none 0 0]) :Calls prog 311 #[.slice (some ⟨be,0,none⟩) 1 ce] w λe w'=>∃v b0 c0 L,e=.returned (.tuple #[v,.int .i64 0])∧w'.ownsRow w.heap.size 30 1 v 1 [.slice (some ⟨b0,0,none⟩) 1 c0]∧Holds w' b0 3 (.int .i64 0 :: L)∧w.heap.size≤b0∧1≤c0∧L.length+1=c0∧Below w.heap.size w w':=by
 have HE:=qh he;have HE0:=qh he.lt;have HEw:=qh he;clear he;have hm1:=Vb;have hm2:=Qv;have hm3:=Yx;go_in;go_upto_region 4 with(fail);go_cut [5] from 14 to 24 (λx wx=>∃g bi bl bo bp,x=.pointer (some ⟨g,0,none⟩)∧GW wx g bi bl bo bp (.slice (some ⟨be,0,none⟩) 1 ce) (.slice none 0 0) 0 0 0 0 0 false∧Xj w.heap.size g bi bl bo bp∧Below w.heap.size w wx);case first=>
  go_region;all_goals
   go_wp2_with fail
   go_meet
  all_goals
   refine⟨_,_,_,_,_,rfl,⟨(Fp w _ _ _ _ _).2.2.2.2.1,?_,?_,?_,?_,?_⟩,?_,(Fp w _ _ _ _ _).2.2.2.2.2⟩
   ·first|exact(Fp w _ _ _ _ _).1|exact(Fp w _ _ _ _ _).2.1|exact(Fp w _ _ _ _ _).2.2.1|exact(Fp w _ _ _ _ _).2.2.2.1
   ·first|exact(Fp w _ _ _ _ _).1|exact(Fp w _ _ _ _ _).2.1|exact(Fp w _ _ _ _ _).2.2.1|exact(Fp w _ _ _ _ _).2.2.2.1
   ·first|exact(Fp w _ _ _ _ _).1|exact(Fp w _ _ _ _ _).2.1|exact(Fp w _ _ _ _ _).2.2.1|exact(Fp w _ _ _ _ _).2.2.2.1
   ·first|exact(Fp w _ _ _ _ _).1|exact(Fp w _ _ _ _ _).2.1|exact(Fp w _ _ _ _ _).2.2.1|exact(Fp w _ _ _ _ _).2.2.2.1
   ·refine⟨?_,?_,?_,?_,?_,?_,?_,?_,?_,?_⟩<;>omega
   ·unfold Xj;omega
 case rest=>
  obtain⟨g,bi,bl,bo,bp,rfl,hg,hlo,hb⟩:=hcut;have HG:=qh hg;have HB:=qh hb;have HE:=qh (HE.below hb HE.lt);have HLO:=qh hlo;have hlt:=hg.lt;obtain⟨t1,t2,t3,t4,t5⟩:=hlt;have K1:=qh (λB W h1 h2 h3 h4 h5=>Ya g bi bl bo bp B be ce W h1 h2 h3 h4 h5);have hbe:be<w.heap.size:=HE0.o;clear hg hb hlo;go_wp2_with fail;go_loopw [26] (λv wr=>∃i:Nat,v=.int .i64 (i:Int)∧Below w.heap.size w wr∧((i=0∧GW wr g bi bl bo bp (.slice (some ⟨be,0,none⟩) 1 ce) (.slice none 0 0) 0 0 0 0 0 false)∨(i=1∧∃R,GW wr g bi bl bo bp (.slice (some ⟨be,0,none⟩) 1 ce) R 1 1 1 1 0 false))) (λv _=>1 - (intOf v).toNat);case atStart=>exact⟨0,rfl,HB.o,.inl ⟨rfl,HG.o⟩⟩
  case round=>
   clear HG HB HE;obtain⟨i,rfl,hb,⟨rfl,hg⟩|⟨rfl,R,hg⟩⟩:=hrel
   ·have i0:=hg.hi.cell 0;have m1:=hg.hg.cell 1;simp only[Ie,yA,yB] at i0 m1;have HB:=qh hb;have HG:=qh hg;have HEr:=qh (HEw.below hb hbe);have hsr:=hb.size;clear hb hg;go_wp2_with fail;refine(K1.out w.heap.size _ HG.o HEr.o hbe hsr HLO.o).mono ?_;rintro e w5 ⟨R,rfl,hg5,hb5⟩;have HG5:=qh hg5;have HB5:=qh (HB.trans hb5);clear hg5 hb5 i0 m1;go_wp2_with fail;go_roundw;case rel=>exact⟨1,rfl,HB5.o,.inr ⟨rfl,R,HG5.o⟩⟩
    case measure=>simp[intOf]
   ·have m6:=hg.hg.cell 6;simp only[Ie,yA,yB] at m6;have hal:Below wr.heap.size wr (wr.alloc (.cells #[.slice none 0 0] 30)):=(Below.refl _ _).alloc (Nat.le_refl _) _;have m5:=(hg.below hal).hg.cell 5;simp only[Ie,yA,yB] at m5;have HB:=qh (hb.trans (hal.mono hb.size));have HG:=qh (hg.below hal);have hsr:=hb.size;have HN:=qh (AA wr 30 [.slice none 0 0]);have HNE:=qh (show g≠wr.heap.size∧bi≠wr.heap.size∧bl≠wr.heap.size∧bo≠wr.heap.size∧bp≠wr.heap.size from by have:=hg.lt;omega);clear hb hg hal;go_wp2_with fail;clear m5 m6;generalize wr.alloc (.cells #[.slice none 0 0] 30)=W at HB HG HN ⊢;generalize wr.heap.size=bn at hsr HN HNE ⊢;go_loopw [51] (λv w2=>∃i:Nat,v=.int .i64 (i:Int)∧Below w.heap.size w w2∧GW w2 g bi bl bo bp (.slice (some ⟨be,0,none⟩) 1 ce) R 1 1 1 1 0 false∧((i=0∧Holds w2 bn 30 [.slice none 0 0]∧g≠bn∧bi≠bn∧bl≠bn∧bo≠bn∧bp≠bn)∨(i=1∧∃b0 c0 L,Holds w2 bn 30 [.slice (some ⟨b0,0,none⟩) 1 c0]∧Holds w2 b0 3 (.int .i64 0 :: L)∧w.heap.size≤b0∧1≤c0∧L.length+1=c0))) (λv _=>1 - (intOf v).toNat);case atStart=>exact⟨0,rfl,HB.o,HG.o,.inl ⟨rfl,HN.o,HNE.o⟩⟩
    case round=>
     clear HB HG HN;obtain⟨i,rfl,hb,hg,⟨rfl,hn,q1,q2,q3,q4,q5⟩|⟨rfl,b0,c0,L,hn,hr,hb0,hc0,hLc⟩⟩:=hrel
     ·have HB:=qh hb;have HG:=qh hg;have HN:=qh hn;have p0:=hg.hp.cell 0;have n0:=hn.cell 0;simp only[List.getElem?_cons_zero] at p0 n0;have hsw:=hb.size;have hnl:=hn.lt;clear hb hg hn;go_wp2_with (first|(at_builtin;refine AZ rfl (.tmp 61) (.tmp 63) 30 rfl (wr.heap.size+1) 3 (.int .i64 0) 1 8 rfl (by kernel_rfl) rfl (by decide) _ 0 [] rfl (World.ownsRow_nil _ _ _ _) (some ⟨wr.heap.size,0,none⟩) 1 1 [.int .i64 0] rfl rfl ((AA wr _ _).reads 0 _ (λj v hv=>by simpa using hv)) (by intro h;cases h) (by simp[Value.oneCell']) (by unfold maxLen;omega) (by omega) (by simp) ?_;intro v3 w3 ho3 hb3 _;have hb3:=((Below.refl wr.heap.size wr).alloc (Nat.le_refl _) (.cells #[.int .i64 0] 3)).trans (hb3.mono (Nat.le_succ _));have HO3:=qh ho3;have HB3:=qh hb3;have HG3:=qh (HG.below hb3);have HN3:=qh (AC HN.o hb3);clear ho3 hb3;obtain⟨br,c,L,rfl,hbr,hc1,hLc,hrow⟩:=O5 HO3.o;have HR:=qh hrow;clear hrow)|(refine sC 0 HN3.o (.slice (some ⟨br,0,none⟩) 1 c) ?_;intro w4 hh ht;simp only[List.set_cons_zero] at hh;have HG4:=qh (HG3.touch ht q1 q2 q3 q4 q5);have HN4:=qh hh;have HR4:=qh (HR.touch ht (by omega));have HT:=qh ht;clear hh ht));go_roundw;case rel=>
       repeat apply Exists.intro
       exact⟨⟨1,rfl,(HB.trans (HB3.mono (by omega))).trans (HT.below (by omega) (by have:=HB3.size;omega)),HG4.o,.inr ⟨rfl,br,c,L,HN4.o,HR4.o,by omega,hc1,hLc⟩⟩,rfl⟩
      case measure=>simp[intOf]
     ·have m5:=hg.hg.cell 5;simp only[Ie,yA,yB] at m5;have HB:=qh hb;have HP:=qh hg.hp;have HN:=qh hn;have HR:=qh hr;have HEr:=qh (HEw.below hb hbe);have hsw:=hb.size;clear hb hg hn hr;go_wp2_with fail;refine(XK be ce bp bn b0 c0 _ HEr.o HP.o HN.o).mono ?_;rintro e w5 ⟨v5,rfl,ho5,hb5⟩;have HO5:=qh (MZ ho5 hsw);have HR5:=qh (AC HR.o hb5);have HB5:=qh (HB.trans (hb5.mono hsw));clear ho5 hb5 m5;go_wp2_with fail;exact b2 (v:=.tuple #[v5,.int .i64 0]) ⟨v5,b0,c0,L,rfl,HO5.o,HR5.o,hb0,hc0,hLc,HB5.o⟩
def DW(w:World)(s b:Nat):Prop:=Holds w s 383 [.map (some b)]∧w.ownsMap prog 37 BO b 0 (.map []:DataW Value)
theorem DW.below{w w':World}{s b:Nat}(h:DW w s b)(hb:Below w.heap.size w w'):DW w' s b:=by obtain⟨h1,h2⟩:=h;have hlt:=h2.lt;obtain⟨es,clock,hm,r⟩:=h2;exact⟨AC h1 hb,es,clock,(hb.block b hlt).trans hm,r⟩
theorem NP(w:World) :Calls prog 273 #[.slice none 0 0] w λe w'=>∃s b,e=.returned (.pointer (some ⟨s,0,none⟩))∧DW w' s b∧Below w.heap.size w w':=by
 have hmm:=@run_makeMap prog;go_in;go_wp2_with fail;have HN:=qh (show DW ((w.alloc (.map #[] 0)).alloc (.cells #[.map (some w.heap.size)] 383)) (w.heap.size+1) w.heap.size from⟨by
  have:=AA (w.alloc (.map #[] 0)) 383 [.map (some w.heap.size)];rw[World.size_alloc] at this;exact this,(World.ownsMap_made w prog 37 BO).alloc _⟩)
 have HB:=qh (show Below w.heap.size w ((w.alloc (.map #[] 0)).alloc (.cells #[.map (some w.heap.size)] 383)) from by
  have h1:Below w.heap.size w (w.alloc (.map #[] 0)):=(Below.refl _ _).alloc (Nat.le_refl _) _;exact h1.alloc h1.size _)
 generalize (w.alloc (.map #[] 0)).alloc (.cells #[.map (some w.heap.size)] 383)=W at HN HB ⊢;go_loopw [11] (λvi wr=>vi=.int .i64 0∧wr=W) (λ_ _=>0);case atStart=>exact⟨rfl,rfl⟩
 case round=>obtain⟨rfl,rfl⟩:=hrel;go_wp2_with fail;go_ret;exact⟨_,_,rfl,HN.o,HB.o⟩
theorem L8(s b:Nat)(w:World)(h:DW w s b) :Calls prog 223 #[.pointer (some ⟨s,0,none⟩)] w λe w'=>e=.returned (.slice none 0 0)∧Below w.heap.size w w':=by
 have KS:=qh (λfv W=>MB none 0 0 fv W (by omega));obtain⟨h1,hown⟩:=h;have m0:=h1.cell 0;simp only[List.getElem?_cons_zero] at m0;clear h1;go_in;go_wp2_with (first|(at_range;refine wpList_range_own _ rfl _ 381 rfl 37 409 CG underlying381 BO b 0 (.map []) rfl hown ?_;intro w0 hrg0 hg0 hs0)|fail)
 go_frame
 have HB:=qh (show Below w.heap.size w w0 from⟨hg0.os,hg0.tape,hg0.output,hg0.size,λk hk=>hg0.block k hk (by simp)⟩);have HRG:=qh hrg0;clear hrg0 hg0 hs0 hown m0;generalize hR:w.heap.size=R at HRG ⊢;rw[←hR];rw[hR];go_loopw [3] (λvo wr=>vo=.slice none 0 0∧∃(left:Lit→Bool) (cnt:Nat),wr.ranges prog 37 BO b R 0 (.map []) left cnt∧Below w.heap.size w wr) (λ_ wr=>wr.rangeLeft b R);case atStart=>exact⟨rfl,_,_,HRG.o,HB.o⟩
 case round=>
  clear HRG HB;obtain⟨rfl,left,cnt,hrg,hb⟩:=hrel;have HB:=qh hb;clear hb;go_wp2_with (first|(at_next;refine wpList_next_ranges _ rfl _ rfl 37 CG BO (λp:Int × Int=>DZ p.1 p.2) (λv:Value=>v) (λkey kl hk=>by obtain⟨r,s,rfl,_⟩:=Hu hk;exact⟨(r,s),rfl⟩) (λv y _=>⟨v,rfl⟩) b R 0 (.map []) _ _ rfl hrg ?_ ?_)|fail)
  ·intro hc0 hl0;clear hrg hl0 hc0;go_wp2_with fail;refine Ac (KS.o _ _) ?_;rintro w5 hb5;have HB:=qh (AB HB.o hb5);clear hb5;go_wp2_with fail;go_ret;exact⟨rfl,HB.o⟩
  ·intro pr ps cv kl yd yp w1 cnt1 hkey hlk hR2 hat hrg1 hlt hg1 hs1 hen;exfalso;have hy:yd=.held cv:=by unfold BO at hR2;injection hR2 with hR2;injection hR2 with hR2 _;exact hR2.symm
   rw[hy] at hat;have hh:=Maps.has_true_of_atKey hat;cases hh
section
variable [In]
def MC(me:Int)(r:Nat):Int:=if (r:Int)=me then max (In.ad r) (In.sl-1) else In.ad r
theorem ZT(me:Int)(st:Int)(c:Cm)(sm:Bool)(r:Nat)(w:World)(hr:r<7) :Calls prog 309 #[.agg #[.int .i64 me,.int .i64 In.sl],.agg (cellL st c sm).toArray,.int .i64 r] w λe w'=>e=.returned (.int .i64 (MC me r))∧Below w.heap.size w w':=by
 have hsl:=In.hsl;have hw0:IntKind.i64.wrap (In.sl-1)=In.sl-1:=IntWalk.i64_in _ (by omega);have hr7:(r:Int)<7:=by omega
 go_in;go_upto_region 1 with(fail);go_name_world W hW;have HI:=qh (show Holds W w.heap.size 37 [.int .i64 me,.int .i64 In.sl] by rw[←hW];exact Ak (AA w _ _) _);have HC:=qh (show Holds W (w.heap.size+1) 45 (cellL st c sm) by
  rw[←hW];have:=AA (w.alloc (.cells #[.int .i64 me,.int .i64 In.sl] 37)) 45 (cellL st c sm);rw[World.size_alloc] at this;exact this)
 have HB:=qh (show Below w.heap.size w W by rw[←hW];go_grown);clear hW;have i0:=HI.cell 0;have i1:=HI.cell 1;have hd:W.cell? ⟨w.heap.size+1,13+r,none⟩=some (.int .i64 (In.ad r)):=by rw[HC.cell];rcases(show r=0∨r=1∨r=2∨r=3∨r=4∨r=5∨r=6 by omega) with rfl|rfl|rfl|rfl|rfl|rfl|rfl<;>rfl
 simp only[yA,yB] at i0 i1;by_cases hm:(r:Int)=me
 ·subst hm;have hu:MC (r:Int) r=max (In.ad r) (In.sl-1):=if_pos rfl;go_wp2_with fail;go_quiet (fail);go_wp2_with fail;go_ret;exact⟨by rw[hu];rfl,HB.trans ⟨rfl,rfl,rfl,Nat.le_refl _,λ_ _=>rfl⟩⟩
 ·have hm2:((r:Int)==me)=false:=by simp;omega
  have hu:MC me r=In.ad r:=if_neg hm;go_wp2_with fail;go_ret;exact⟨by rw[hu];rfl,HB.o⟩
end
section
variable [In]
theorem U6(me:Int)(w:World)(hme:(Lit.int .i64 me).wf=true)(bl:Nat)(hb:Holds w bl 37 [.int .i64 me,.int .i64 In.sl]) :Calls prog 273 #[.slice (some ⟨bl,0,none⟩) 1 1] w λe w'=>∃s,e=.returned (.pointer (some ⟨s,0,none⟩))∧Below w.heap.size w w':=by
 have hmm:=@run_makeMap prog;have HH:=qh hb;have HKY:=qh (Dc me In.sl hme KY);clear hb;go_in;go_wp2_with fail;have HN:=qh (show DW ((w.alloc (.map #[] 0)).alloc (.cells #[.map (some w.heap.size)] 383)) (w.heap.size+1) w.heap.size from⟨by
  have:=AA (w.alloc (.map #[] 0)) 383 [.map (some w.heap.size)];rw[World.size_alloc] at this;exact this,(World.ownsMap_made w prog 37 BO).alloc _⟩)
 have HB:=qh (show Below w.heap.size w ((w.alloc (.map #[] 0)).alloc (.cells #[.map (some w.heap.size)] 383)) from by
  have h1:Below w.heap.size w (w.alloc (.map #[] 0)):=(Below.refl _ _).alloc (Nat.le_refl _) _;exact h1.alloc h1.size _)
 generalize (w.alloc (.map #[] 0)).alloc (.cells #[.map (some w.heap.size)] 383)=W at HN HB ⊢;have hsz:w.heap.size≤w.heap.size+1:=Nat.le_succ _;generalize hs:w.heap.size+1=s at HN hsz ⊢;generalize hbb:w.heap.size=b at HN HB hsz ⊢;go_loopw [11] (λvi wr=>∃i:Nat,vi=.int .i64 (i:Int)∧Below b w wr∧((i=0∧DW wr s b∧Holds wr bl 37 [.int .i64 me,.int .i64 In.sl])∨i=1)) (λv _=>1 - (intOf v).toNat);case atStart=>exact⟨0,rfl,HB.o,.inl ⟨rfl,HN.o,HH.below HB.o (hbb▸HH.lt)⟩⟩
 case round=>
  clear HN HB;obtain⟨i,rfl,hb,⟨rfl,hn,hl⟩|rfl⟩:=hrel
  ·have HB:=qh hb;have HN:=qh hn;have HL:=qh hl;have hsw:=hb.size;have hbs:b<wr.heap.size:=hn.2.lt;clear hb hn hl;obtain⟨l0,l1⟩:=CU HL.o 0 1;go_upto_region 5 with(fail);go_name_world V hV;have HX:=qh (show Holds V wr.heap.size 37 [.int .i64 me,.int .i64 In.sl] by rw[←hV];exact AA wr _ _);have hal:Below wr.heap.size wr V:=by rw[←hV];go_grown
   have HN:=qh (HN.below hal);have HB:=qh (HB.trans (hal.mono (by omega)));clear hV hal l0 l1;have HN:=qh (HN.below (AQ _ _));have HX:=qh (show Holds V.drew wr.heap.size 37 _ from HX.o);have HB:=qh (HB.trans (AQ _ _));refine EQ [6] 7 (λhSn=>?_);generalize V.drew=wd at HX HN HB hSn ⊢;simp only[List.replicate];refine Dz 0 ?_;refine He 3 [6] (some 18) (?vg4) rfl (Or.inl ⟨by rfl,?hg4⟩) hSn ?rg4;case hg4=>
    intro w hSw;have m0:=(HN.below hSw).1.cell 0;simp only[List.getElem?_cons_zero] at m0;go_simp;try with_reducible rfl
   simp only[Act.put,zA,zB,zC];refine BG 4 [6] (λw hSw=>CU (AC HX.o hSw) 0 1) ?_;refine CS 5 ?_;refine BH 6 rfl (λK hK=>?_);obtain⟨h1,hown⟩:=HN.o;refine FX rfl (.tmp 18) (.tmp 19) (.tmp 20) 381 rfl 37 409 CG underlying381 BO b 0 (.map []) rfl hown (by unfold maxLen;omega) _ _ _ rfl rfl HKY.o _ [] rfl ?_;intro w9 ho9 hg9;have HT9:=qh (BM hg9);clear hg9 ho9;refine BN hK ?_;clear hK;refine Dl ?_;have HB9:=qh (HB.trans (HT9.below (B:=b) (by omega) (hbb▸HB.size)));clear HT9 HB HX HN;go_wp2_with fail;go_roundw;case rel=>exact⟨1,rfl,HB9.o,.inr rfl⟩
   case measure=>simp[intOf]
  ·have HB:=qh hb;clear hb;go_wp2_with fail;go_ret;exact⟨_,rfl,hbb▸HB.o⟩
end
section
variable [In]
structure Ar(w:World)(g b n:Nat)(d:Nat→Int)(O:Value)(l:List Ad):Prop where
 ix:Holds w g 327 (Cf d++[.map (some b),O])
 map:∃D,w.ownsMap prog 37 BO b n D∧Fv D l
 good:Ij l
 rows:∀e∈l,e.L.length=21∧e.L.toArray.all (·.oneCell')=true
theorem Ar.wf{w:World}{g b n:Nat}{d:Nat→Int}{O:Value}{l:List Ad}(h:Ar w g b n d O l):UB l:=h.good.wf
theorem Ar.keep{w w':World}{g b n:Nat}{d:Nat→Int}{O:Value}{l:List Ad}(h:Ar w g b n d O l)(hg:w'.heap[g]?=w.heap[g]?)(hb:w'.heap[b]?=w.heap[b]?):Ar w' g b n d O l:=by obtain⟨D,⟨es,clock,hm,r⟩,hl⟩:=h.map;exact⟨by have:=h.ix;unfold Holds at *;rw[hg];exact this,⟨D,⟨es,clock,hb.trans hm,r⟩,hl⟩,h.good,h.rows⟩
theorem Ar.lt{w:World}{g b n:Nat}{d:Nat→Int}{O:Value}{l:List Ad}(h:Ar w g b n d O l):g<w.heap.size∧b<w.heap.size:=by obtain⟨D,hm,_⟩:=h.map;exact⟨h.ix.lt,hm.lt⟩
theorem Ar.below{w w':World}{g b n:Nat}{d:Nat→Int}{O:Value}{l:List Ad}(h:Ar w g b n d O l)(hb:Below w.heap.size w w'):Ar w' g b n d O l:=h.keep (hb.block g h.lt.1) (hb.block b h.lt.2)
theorem Ar.touch{w w':World}{g b n k:Nat}{d:Nat→Int}{O:Value}{l:List Ad}(h:Ar w g b n d O l)(ht:Touch k w w')(h1:g≠k)(h2:b≠k):Ar w' g b n d O l:=h.keep (ht.block g h.lt.1 h1) (ht.block b h.lt.2 h2)
theorem Ar.ne{w:World}{g b n:Nat}{d:Nat→Int}{O:Value}{l:List Ad}(h:Ar w g b n d O l):g≠b:=by obtain⟨D,⟨es,clock,hb,_⟩,_⟩:=h.map;intro e;have:=h.ix;unfold Holds at this;rw[e,hb] at this;cases this
theorem Ar.set{w w':World}{g b n:Nat}{d d':Nat→Int}{O O':Value}{l:List Ad}(h:Ar w g b n d O l)(hh:Holds w' g 327 (Cf d'++[.map (some b),O']))(ht:Touch g w w'):Ar w' g b n d' O' l:=by obtain⟨D,⟨es,clock,hm,r⟩,hl⟩:=h.map;exact⟨hh,⟨D,⟨es,clock,(ht.block b h.lt.2 (Ne.symm h.ne)).trans hm,r⟩,hl⟩,h.good,h.rows⟩
theorem Ar.look{w:World}{g b n:Nat}{d:Nat→Int}{O:Value}{l:List Ad}(h:Ar w g b n d O l)(r s:Int)(hr:(Lit.int .i64 r).wf=true)(hs:(Lit.int .i64 s).wf=true) :∃v:List Value,v.length=21∧v.toArray.all (·.oneCell')=true∧(∀e∈l,e.r=r→e.s=s→v=e.L) ∧(∀W,Below w.heap.size w W→(Instr.lookup 246 (.map (some b)) (.agg #[.int .i64 r,.int .i64 s]) true).run prog W=.ok (.tuple #[.agg v.toArray,.bool (Fj l r s)]) W) ∧(∀W,Below w.heap.size w W→(Instr.lookup 246 (.map (some b)) (.agg #[.int .i64 r,.int .i64 s]) false).run prog W=.ok (.agg v.toArray) W):=by
 have hz:∀W,(zeroValue 45).run prog W=.ok (.agg zero21.toArray) W:=λW=>L6 W (by kernel_rfl);obtain⟨D,hm,hl⟩:=h.map;have hkey:=Dc r s hr hs;have hhas:=hl.IY h.wf r s hr hs;have hex:∃v:List Value,v.length=21∧v.toArray.all (·.oneCell')=true∧(∀e∈l,e.r=r→e.s=s→v=e.L)∧D.atKey (G7 r s) (.held (.agg zero21.toArray))=.held (.agg v.toArray):=by
  cases hq:Maps.has D (G7 r s)
  ·refine⟨zero21,rfl,by simp[zero21,Value.oneCell'],λe he h1 h2=>?_,Maps.atKey_of_not_has hq _⟩;rw[hhas] at hq;have:=List.any_eq_false.1 hq e he;simp[h1,h2] at this
  ·rw[hhas] at hq;obtain⟨e,he,hrs⟩:=List.any_eq_true.1 hq;simp only[Bool.and_eq_true,beq_iff_eq] at hrs;refine⟨e.L,(h.rows e he).1,(h.rows e he).2,λe' he' h1 h2=>?_,?_⟩
   ·have hp:=hl.apart;by_cases hee:e=e'
    ·rw[hee]
    ·exfalso;obtain⟨i,hi,rfl⟩:=List.getElem_of_mem he;obtain⟨j,hj,rfl⟩:=List.getElem_of_mem he';have hij:i≠j:=λhc=>hee (by subst hc;rfl);rw[List.pairwise_iff_getElem] at hp;rcases Nat.lt_or_gt_of_ne hij with hlt|hgt
     ·exact hp i j hi hj hlt ⟨hrs.1.trans h1.symm,hrs.2.trans h2.symm⟩
     ·exact hp j i hj hi hgt ⟨h1.trans hrs.1.symm,h2.trans hrs.2.symm⟩
   ·have:=hl.at_ e he (.held (.agg zero21.toArray));rw[Ad.key,hrs.1,hrs.2] at this;exact this
 obtain⟨v,h1,h2,h3,h4⟩:=hex;obtain⟨es,clock,hbk,hrest⟩:=hm;refine⟨v,h1,h2,h3,λW hb=>?_,λW hb=>?_⟩
 ·have hmW:W.ownsMap prog 37 BO b n D:=⟨es,clock,(hb.block b h.lt.2).trans hbk,hrest⟩;obtain⟨v',ps,hrun,hv⟩:=hmW.look_ok CG underlying246 (hz W) (zd:=.held (.agg zero21.toArray)) (zp:=[]) rfl hkey;rw[h4] at hv;unfold BO at hv;injection hv with hv;injection hv with hv _;injection hv with hv;rw[hv,hhas] at hrun;exact hrun
 ·have hmW:W.ownsMap prog 37 BO b n D:=⟨es,clock,(hb.block b h.lt.2).trans hbk,hrest⟩;obtain⟨v',ps,hrun,hv⟩:=hmW.lookup CG underlying246 (hz W) (zd:=.held (.agg zero21.toArray)) (zp:=[]) rfl hkey;rw[h4] at hv;unfold BO at hv;injection hv with hv;injection hv with hv _;injection hv with hv;rw[hv] at hrun;exact hrun
end
section
variable [In]
theorem UZ(c:Cm)(w:World):(Instr.field 45 (.agg #[.int .i64 3,.int .i64 0,.int .i64 0,.int .i64 0,.int .i64 0,.int .i64 c.k,.int .i64 c.c,.int .i64 c.s,.string c.a,.string c.b,.string c.o,.string c.v,.int .i64 In.aq,.int .i64 (In.ad 0),.int .i64 (In.ad 1),.int .i64 (In.ad 2),.int .i64 (In.ad 3),.int .i64 (In.ad 4),.int .i64 (In.ad 5),.int .i64 (In.ad 6),.bool false]) 4).run prog w=.ok (.agg #[.int .i64 In.aq,.int .i64 (In.ad 0),.int .i64 (In.ad 1),.int .i64 (In.ad 2),.int .i64 (In.ad 3),.int .i64 (In.ad 4),.int .i64 (In.ad 5),.int .i64 (In.ad 6)]) w:=by kernel_rfl
theorem Ua(w:World):(Instr.field 43 (.agg #[.int .i64 In.aq,.int .i64 (In.ad 0),.int .i64 (In.ad 1),.int .i64 (In.ad 2),.int .i64 (In.ad 3),.int .i64 (In.ad 4),.int .i64 (In.ad 5),.int .i64 (In.ad 6)]) 1).run prog w=.ok (.agg #[.int .i64 (In.ad 0),.int .i64 (In.ad 1),.int .i64 (In.ad 2),.int .i64 (In.ad 3),.int .i64 (In.ad 4),.int .i64 (In.ad 5),.int .i64 (In.ad 6)]) w:=by kernel_rfl
theorem WO(g b n bl cl:Nat)(d:Nat→Int)(O:Value)(l:List Ad)(me:Int)(c:Cm)(w:World)(h:Ar w g b n d O l)(hin:(⟨me,In.sl,cellL 3 c false⟩:Ad)∈l)(hme:(Lit.int .i64 me).wf=true)(hbl:Holds w bl 37 [.int .i64 me,.int .i64 In.sl]) :Calls prog 312 #[.pointer (some ⟨g,0,none⟩),.slice (some ⟨bl,0,none⟩) 1 cl] w λe w'=>∃be,e=.returned (.slice (some ⟨be,0,none⟩) 1 1)∧Holds w' be 30 [.slice none 0 0]∧w.heap.size≤be∧Below w.heap.size w w':=by
 have HP:=qh h;have HH:=qh hbl;have hlt:=h.lt;have hll:=hbl.lt;obtain⟨v,hv1,hv2,hv3,_,hv4⟩:=h.look me In.sl hme KY;have hv:=hv3 _ hin rfl rfl;dsimp only at hv;subst hv;have HL:=qh hv4;clear hv4 hv3 hv2 hv1 h hbl hin;have hm2:=Qv;have hf1:=λW=>UZ c W;have hf2:=Ua;go_in;go_wp2_with fail;have HE:=qh (AA w 30 [.slice none 0 0]);have HB:=qh (show Below w.heap.size w (w.alloc (.cells #[.slice none 0 0] 30)) by go_grown);generalize w.alloc (.cells #[.slice none 0 0] 30)=W at HE HB ⊢;have hbe:w.heap.size<W.heap.size:=HE.lt;generalize hbb:w.heap.size=be at HE HB hbe ⊢;go_loopw [16] (λvi wr=>∃i:Nat,vi=.int .i64 (i:Int)∧Below be w wr∧Holds wr be 30 [.slice none 0 0]∧i≤1) (λv _=>1 - (intOf v).toNat);case atStart=>exact⟨0,rfl,HB.o,HE.o,by omega⟩
 case round=>
  clear HE HB;obtain⟨i,rfl,hb,he,hi⟩:=hrel;rcases(show i=0∨i=1 by omega) with rfl|rfl
  ·have HB:=qh hb;have HE:=qh he;have HPr:=qh (HP.below (hbb▸hb));have HHr:=qh (HH.below hb (hbb▸hll));have HLr:=qh (λW' (hw:Below wr.heap.size wr W')=>HL.o W' (by subst hbb;exact hb.trans (hw.mono hb.size)));have hsw:=hb.size;have hse:=he.lt;obtain⟨h0,h1⟩:=CU HHr.o 0 1;clear hb he;go_upto_region 5 with(fail);go_name_world V hV;have HX:=qh (show Holds V wr.heap.size 37 [.int .i64 me,.int .i64 In.sl] by rw[←hV];exact AA wr _ _);have hal:Below wr.heap.size wr V:=by rw[←hV];go_grown
   have HB:=qh (HB.trans (hal.mono (by omega)));have HE:=qh (AC HE.o hal);have HPr:=qh (HPr.below hal);have HH2:=qh (AC HHr.o hal);have HLr:=qh (λW' (hw:Below V.heap.size V W')=>HLr.o W' (hal.trans (hw.mono hal.size)));have hsv:=hal.size;clear hV hal h0 h1;have HPr:=qh (HPr.below (AQ _ _));have HX:=qh (show Holds V.drew wr.heap.size 37 _ from HX.o);have HE:=qh (show Holds V.drew be 30 _ from HE.o);have HH2:=qh (show Holds V.drew bl 37 _ from HH2.o);have HB:=qh (HB.trans (AQ _ _));have HLr:=qh (λW' (hw:Below V.drew.heap.size V.drew W')=>HLr.o W' ((AQ V.heap.size V).trans hw));have hsv:wr.heap.size≤V.drew.heap.size:=hsv;refine EQ [] 10 (λhSn=>?_);generalize V.drew=wd at HX HPr HE HB HLr HH2 hsv hSn ⊢;simp only[List.replicate];refine Dz 0 ?_;refine BG 3 [] (λw hSw=>Ag ((HPr.below hSw).ix) 7) ?_;refine BG 4 [] (λw hSw=>CU (AC HX.o hSw) 0 1) ?_;refine He 5 [] (some 26) (?vg6) rfl (Or.inl ⟨by rfl,?hg6⟩) hSn ?rg6;case hg6=>
    intro w hSw;have hlk:=HLr.o w hSw;unfold cellL at hlk;go_simp;try with_reducible rfl
   simp only[Act.put,zA,zB,zC];refine FT 6 ?_;refine BH 8 rfl (λK hK=>?_);go_simp;have hal:=λo=>Below.alloc hSn hSn.size o;refine hK.out _ _ (λ_=>hal _) ?_;have hSn:=hal (.cells ([.int .i64 0,.int .i64 0,.int .i64 0,.int .i64 0,.int .i64 0,.int .i64 0,.int .i64 0]:List Value).toArray 41);have HB6:=qh (show Holds (wd.alloc (.cells ([.int .i64 0,.int .i64 0,.int .i64 0,.int .i64 0,.int .i64 0,.int .i64 0,.int .i64 0]:List Value).toArray 41)) wd.heap.size 41 [.int .i64 0,.int .i64 0,.int .i64 0,.int .i64 0,.int .i64 0,.int .i64 0,.int .i64 0] from AA wd _ _);clear hal;generalize wd.alloc (.cells ([.int .i64 0,.int .i64 0,.int .i64 0,.int .i64 0,.int .i64 0,.int .i64 0,.int .i64 0]:List Value).toArray 41)=wa at hSn HB6 ⊢;clear hK;try simp only[Act.put,zA,zB,zC]
   refine BH 9 rfl (λK hK=>?_);refine tB [.int .i64 (In.ad 0),.int .i64 (In.ad 1),.int .i64 (In.ad 2),.int .i64 (In.ad 3),.int .i64 (In.ad 4),.int .i64 (In.ad 5),.int .i64 (In.ad 6)] HB6.o ?_;intro wb hh6 ht6;have hSn:=hSn.trans (ht6.below (Nat.le_refl _) hSn.size);clear hh6 ht6;refine BN hK ?_;clear hK;refine Dl ?_;have HE:=qh (AC HE.o hSn);have HH2:=qh (AC HH2.o hSn);have HB:=qh (HB.trans (hSn.mono (by omega)));have hs6:=hSn.size;clear hSn HPr HX HLr HB6;go_wp2_with fail;go_loopw [31] (λvj w2=>∃j:Nat,vj=.int .i64 (j:Int)∧j≤1∧Below be w w2∧Holds w2 be 30 [.slice none 0 0]∧Holds w2 bl 37 [.int .i64 me,.int .i64 In.sl]) (λv _=>1 - (intOf v).toNat);case atStart=>exact⟨0,rfl,by omega,HB.o,HE.o,HH2.o⟩
   case round=>
    clear HB HE HH2;obtain⟨j,rfl,hj,hb,he,hh⟩:=hrel;rcases(show j=0∨j=1 by omega) with rfl|rfl
    ·have h0:=hh.cell 0;have h1:=hh.cell 1;simp only[yA,yB] at h0 h1;have HB:=qh hb;have HE:=qh he;have HH2:=qh hh;have hse2:=he.lt;clear hb he hh;go_wp2_with fail;have hal:Below wr.heap.size wr (wr.alloc (.cells #[.int .i64 me,.int .i64 In.sl] 37)):=by go_grown
     go_roundw;case rel=>exact⟨1,rfl,by omega,HB.trans (hal.mono (by omega)),AC HE.o hal,AC HH2.o hal⟩
     case measure=>simp[intOf]
    ·have HB:=qh hb;have HE:=qh he;clear hb he hh;go_wp2_with fail;go_roundw;case rel=>exact⟨1,rfl,HB.o,HE.o,by omega⟩
     case measure=>simp[intOf]
  ·have HB:=qh hb;have HE:=qh he;clear hb he;go_wp2_with fail;go_ret;exact⟨be,rfl,HE.o,by omega,hbb▸HB.o⟩
end
end Go.Proofs.YtimdpiifpibgfaaGreatDoor
