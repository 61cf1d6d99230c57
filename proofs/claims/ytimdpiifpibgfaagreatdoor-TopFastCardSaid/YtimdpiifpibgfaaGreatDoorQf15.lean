/- For every input the law TopFast returns true (a part of the proof). Condition: the listed variables start as the program's text lays them. -/
import Derived.Test.YtimdpiifpibgfaaGreatDoorQf14
import Derived.Test.YtimdpiifpibgfaaGreatDoorQf13
set_option linter.unusedVariables false
set_option linter.unusedSimpArgs false
set_option maxRecDepth 20000
set_option maxHeartbeats 16000000
namespace Go.Proofs.YtimdpiifpibgfaaGreatDoor
section
open Go.RowKit Go.Maps
theorem len64_few (n:Nat) (w:World) (hn:n≤1):Calls Tryz.prog 185 #[.int .u64 n] w fun e w'=>(∃ k:Int,e=.returned (.int .i64 k))∧Below w.heap.size w w':=by
 have:n=0∨n=1:=by omega
 rcases this with rfl|rfl
 all_goals
  go_enter Tryz.func185,Tryz.ntmps185
  go_wp2_with fail
  go_ret
  exact⟨⟨_,rfl⟩,by go_grown⟩
theorem len_few (n:Nat) (w:World) (hn:n≤1):Calls Tryz.prog 218 #[.int .u64 n] w fun e w'=>(∃ k:Int,e=.returned (.int .i64 k))∧Below w.heap.size w w':=by
 have K:=qh (fun W=>len64_few n W hn)
 go_enter Tryz.func218,Tryz.ntmps218
 go_wp2_with fail
 refine (K.out _).mono ?_
 rintro e w1 ⟨⟨k,rfl⟩,hb⟩
 go_wp2_with fail
 go_ret
 exact⟨⟨_,rfl⟩,hb⟩
theorem insert_few (p:Option Addr) (n c:Nat) (fv:Value) (w:World) (hn:n≤1):Calls Tryz.prog 262 #[.slice p n c,.int .i64 0,.int .i64 n,fv] w fun e w'=>e=.returned (.tuple #[])∧Below w.heap.size w w':=by
 have hn2:¬ (1:Int)<n:=by omega
 go_enter Tryz.func262,Tryz.ntmps262
 go_wp2_with fail
 go_loopw [8] (fun vi wr=>vi=.int .i64 1∧Below w.heap.size w wr) (fun _ _=>0)
 case atStart=>exact⟨rfl,Below.refl _ _⟩
 case round=>
  obtain⟨rfl,hb⟩:=hrel
  have HB:=qh hb;clear hb
  go_wp2_with fail
  refine bodyPost_end (v:=.tuple #[]) (by simp [results,Tryz.results262,go_sem]) rfl ⟨rfl,HB.out⟩
theorem pdq_few (p:Option Addr) (n c:Nat) (lim:Int) (fv:Value) (w:World) (hn:n≤1):Calls Tryz.prog 217 #[.slice p n c,.int .i64 0,.int .i64 n,.int .i64 lim,fv] w fun e w'=>e=.returned (.tuple #[])∧Below w.heap.size w w':=by
 have K:=qh (fun W=>insert_few p n c fv W hn)
 have hn2:(n:Int)≤12:=by omega
 have hw:IntKind.i64.wrap ((n:Int) - 0)=n:=by rw [Int.sub_zero];exact IntWalk.i64_in _ (by omega)
 go_enter Tryz.func217,Tryz.ntmps217
 go_wp2_with fail
 go_loopw [1,2,3,10,11] (fun va vb vl v1 v2 wr=>va=.int .i64 0∧vb=.int .i64 n∧vl=.int .i64 lim∧v1=.bool true∧v2=.bool true∧Below w.heap.size w wr) (fun _ _ _ _ _ _=>0)
 case atStart=>exact⟨rfl,rfl,rfl,rfl,rfl,Below.refl _ _⟩
 case round=>
  obtain⟨rfl,rfl,rfl,rfl,rfl,hb⟩:=hrel
  have HB:=qh hb;clear hb
  go_wp2_with fail
  refine (K.out _).mono ?_
  rintro e w1 ⟨rfl,hb⟩
  have HB:=qh (below_next HB.out hb);clear hb
  go_wp2_with fail
  exact bodyPost_ret (v:=.tuple #[]) (by simp [results,Tryz.results217,go_sem]) rfl ⟨rfl,HB.out⟩
theorem sort_few (p:Option Addr) (n c:Nat) (fv:Value) (w:World) (hn:n≤1):Calls Tryz.prog 149 #[.slice p n c,fv] w fun e w'=>e=.returned (.tuple #[])∧Below w.heap.size w w':=by
 have K:=qh (fun lim W=>pdq_few p n c lim fv W hn)
 have KL:=qh (fun W=>len_few n W hn)
 have hw:(n:Int) % 18446744073709551616=n:=by omega
 go_enter Tryz.func149,Tryz.ntmps149
 go_wp2_with fail
 refine (KL.out _).mono ?_
 rintro e w1 ⟨⟨k,rfl⟩,hb⟩
 have HB:=qh hb;clear hb
 go_wp2_with fail
 refine (K.out _ _).mono ?_
 rintro e w2 ⟨rfl,hb⟩
 have HB:=qh (below_next HB.out hb);clear hb
 go_wp2_with fail
 exact bodyPost_end (v:=.tuple #[]) (by simp [results,Tryz.results149,go_sem]) rfl ⟨rfl,HB.out⟩
theorem has_one {D:DataW Value} {l:List LEnt} (hl:LLists D l) (hw:LWfE l) {kl:Lit} {v:Value} (hat:∀ z,D.atKey kl z=.held v):∃ e∈l,e.key=kl:=by
 have hh:=Maps.has_true_of_atKey hat
 rw [hl.has,List.any_eq_true] at hh
 obtain⟨e,he,hk⟩:=hh
 exact⟨e,he,WideAt.sameKey_eq hk⟩
theorem llist_any (g b n:Nat) (l:List LEnt) (w:World) (h:LogAt w g b n l) (hl1:l.length≤1) :
  Calls Tryz.prog 81 #[.pointer (some ⟨g,0,none⟩)] w fun e w'=>∃ v xs,e=.returned v∧w'.ownsRow w.heap.size 37 2 v l.length xs∧(∀ x∈l,xs=[.int .i64 x.r,.int .i64 x.s])∧Below w.heap.size w w':=by
 have HI:=qh h
 obtain⟨D,hown,hl⟩:=h.map
 have m0:=h.ix.cell 0
 simp only [List.getElem?_cons_zero] at m0
 have HL:=qh hl
 have KS:=qh (fun p m c fv W (hm:m≤1)=>sort_few p m c fv W hm)
 clear h hl
 go_enter Tryz.func81,Tryz.ntmps81
 go_wp2_with (first
  | (at_range;refine wpList_range_own _ rfl _ 246 rfl 37 45 keyLaw Tryz.underlying246 readN b n D rfl hown ?_;intro w0 hrg0 hg0 hs0)
  | fail)
 go_frame
 have HB0:=qh (show Below w.heap.size w w0 from ⟨hg0.os,hg0.tape,hg0.output,hg0.size,fun k hk=>hg0.block k hk (by simp)⟩)
 have HRG:=qh hrg0
 have HSZ:=qh (show w.heap.size+1≤w0.heap.size by omega)
 clear hrg0 hg0 hs0 hown m0
 have HBL:=qh HI.out.lt.2
 go_loopw [3] (fun vo wr=>∃ (left:Lit→Bool) (cnt m:Nat) (xs:List Value) (p:Option Addr) (c:Nat),vo=.slice p m c∧wr.ranges Tryz.prog 37 readN b w.heap.size n D left cnt∧Below w.heap.size w wr∧wr.ownsRow (w.heap.size+1) 37 2 (.slice p m c) m xs∧((m=0∧xs=[]∧∀ e∈l,left e.key=true)∨(m=1∧∃ e∈l,xs=[.int .i64 e.r,.int .i64 e.s]∧left e.key=false))∧w.heap.size+1≤wr.heap.size) (fun _ wr=>wr.rangeLeft b w.heap.size)
 case atStart=>exact⟨_,_,0,[],none,0,rfl,HRG.out,HB0.out,World.ownsRow_nil _ _ _ _,.inl ⟨rfl,rfl,fun e he=>Maps.has_true_of_atKey (HL.out.at_ e he)⟩,HSZ.out⟩
 case round=>
  clear HRG HB0 HSZ
  obtain⟨left,cnt,m,xs,p,c,rfl,hrg,hbel,ho,hcase,hsz⟩:=hrel
  have HB:=qh hbel;have HO:=qh ho;have HC:=qh hcase;have HSZ:=qh hsz
  clear hbel ho hcase hsz
  go_wp2_with (first
   | (at_next;refine wpList_next_ranges _ rfl _ rfl 37 keyLaw readN (fun p:Int × Int=>instV p.1 p.2) (fun v:Value=>v) (fun key kl hk=>by obtain⟨r,s,rfl,_⟩:=key_inv hk;exact⟨(r,s),rfl⟩) (fun v y _=>⟨v,rfl⟩) b w.heap.size n D _ _ rfl hrg ?_ ?_)
   | fail)
  ·intro hc0 hl0
   have hm:m=l.length∧∀ x∈l,xs=[.int .i64 x.r,.int .i64 x.s]:=by
    rcases HC.out with⟨rfl,rfl,hall⟩|⟨rfl,e,he,hxs,_⟩
    ·have hnil:l=[]:=by
      cases l with
      | nil=>rfl
      | cons x l=>have:=hall x (by simp);rw [hl0] at this;cases this
     subst hnil
     exact⟨rfl,fun x hx=>by cases hx⟩
    ·have hl2:l.length=1:=by have:=List.length_pos_of_mem he;omega
     obtain⟨y,rfl⟩:=List.length_eq_one_iff.1 hl2
     refine⟨rfl,fun x hx=>?_⟩
     rw [List.mem_singleton.1 hx,← List.mem_singleton.1 he]
     exact hxs
   have HM:=qh hm
   have hm1:m≤1:=by rw [hm.1];exact hl1
   clear hrg hl0 hc0 hm HC
   go_wp2_with fail
   refine (KS.out p m c _ _ hm1).mono ?_
   rintro e w5 ⟨rfl,hb5⟩
   have HO:=qh (owns_below HO.out hb5)
   have HB:=qh (below_next HB.out hb5)
   clear hb5
   go_wp2_with fail
   go_ret
   refine⟨_,xs,rfl,?_,HM.out.2,HB.out⟩
   rw [← HM.out.1]
   obtain⟨q1,q2⟩:=HO.out
   exact⟨q1,q2.imp id fun ⟨g,cap,cur,e1,e2,e3⟩=>⟨g,cap,cur,e1,Nat.le_trans (Nat.le_succ _) e2,e3⟩⟩
  ·intro pr ps cv kl yd yp w1 cnt1 hkey hlk hR hat hrg1 hlt hg1 hs1 hen
   have hy:yd=.held cv:=by
    unfold readN at hR
    injection hR with hR
    injection hR with hR _
    exact hR.symm
   rw [hy] at hat
   obtain⟨e,he,hek⟩:=has_one HL.out HI.out.wf hat
   have hpe:pr=e.r∧ps=e.s:=by
    have hw:=HI.out.wf e he
    rw [← hek] at hkey
    have:=keyLaw.inj hkey (key_inst e.r e.s hw.1 hw.2)
    simp only [instV,Value.agg.injEq,Array.mk.injEq,List.cons.injEq,Value.int.injEq,true_and,and_true] at this
    exact this
   obtain⟨h1,h2⟩:=hpe
   subst h1;subst h2;subst hek
   have hm0:m=0∧xs=[]:=by
    rcases HC.out with⟨h1,h2,_⟩|⟨_,e',he',_,hlf⟩
    ·exact⟨h1,h2⟩
    ·have hl2:l.length=1:=by have:=List.length_pos_of_mem he;omega
     obtain⟨y,rfl⟩:=List.length_eq_one_iff.1 hl2
     rw [List.mem_singleton.1 he',← List.mem_singleton.1 he,hlk] at hlf
     cases hlf
   obtain⟨rfl,rfl⟩:=hm0
   have hkept:=hg1
   have HB1:=qh (show Below w.heap.size w w1 from HB.out.trans ⟨hg1.os,hg1.tape,hg1.output,hg1.size,fun k hk=>hg1.block k (by have:=HB.out.size;omega) (by intro hc;injection hc with hc;omega)⟩)
   have HO1:=qh (show w1.ownsRow (w.heap.size+1) 37 2 (.slice p 0 c) 0 [] from HO.out.kept hg1 (by
    obtain⟨_,h2⟩:=HO.out
    rcases h2 with⟨hv,_⟩|⟨g',cap,cur,hv,hg',_⟩
    ·rw [hv];exact .inl rfl
    ·rw [hv];right;intro hc;simp [Value.ownBlock] at hc;omega))
   have HRG:=qh hrg1
   have HSZ1:=qh (show w.heap.size+1≤w1.heap.size from Nat.le_trans HSZ.out hg1.size)
   have HHE:=qh he
   have HLT:=qh hlt;have HL0:=qh hrg.left_eq
   have hks:e.key.sameKey e.key=true:=WideAt.sameKey_self (keyL_is e.r e.s)
   have HKS:=qh hks
   clear hrg1 hrg hlt hg1 hs1 hR hy hat hkey hlk hkept he hks HB HO HC HSZ
   simp only [instV] at hen ⊢
   have hsrc:Reads ((w1.alloc (.cells #[.int .i64 e.r,.int .i64 e.s] 37)).alloc (.cells #[.int .i64 e.r,.int .i64 e.s] 37)) (some ⟨w1.heap.size+1,0,none⟩) [.int .i64 e.r,.int .i64 e.s]:=by
    have:=(holds_alloc (w1.alloc (.cells #[.int .i64 e.r,.int .i64 e.s] 37)) 37 [.int .i64 e.r,.int .i64 e.s]).reads 0 [.int .i64 e.r,.int .i64 e.s] (fun j v hv=>by simpa using hv)
    rw [World.size_alloc] at this
    exact this
   have HSRC:=qh hsrc;clear hsrc
   go_wp2_with (first
    | (at_builtin;refine wpList_append_cells rfl (.tmp 14) (.tmp 16) 99 rfl (w.heap.size+1) 37 (.agg #[.int .i64 0,.int .i64 0]) 2 16 rfl (by kernel_rfl) rfl (by decide) _ 0 [] rfl (owns_below HO1.out (by go_grown)) (some ⟨w1.heap.size+1,0,none⟩) 1 1 [.int .i64 e.r,.int .i64 e.s] rfl rfl HSRC.out (by intro h;cases h) (by simp [Value.oneCell']) (by unfold maxLen;omega) (by omega) (by have:=HSZ1.out;simp;omega) ?_;intro v3 w3 ho3 hb3 hg3;have HO3:=qh ho3;clear ho3)
    | fail)
   have hal:Below w1.heap.size w1 ((w1.alloc (.cells #[.int .i64 e.r,.int .i64 e.s] 37)).alloc (.cells #[.int .i64 e.r,.int .i64 e.s] 37)):=by go_grown
   have hgr:w1.grownBy w3 (Value.slice p 0 c).ownBlock:=⟨hg3.os.trans hal.os,hg3.tape.trans hal.tape,hg3.output.trans hal.output,Nat.le_trans hal.size hg3.size,fun k hk hne=>(hg3.block k (Nat.lt_of_lt_of_le hk hal.size) hne).trans (hal.block k hk)⟩
   have hne:∀ k,k≤w.heap.size→some k≠(Value.slice p 0 c).ownBlock:=fun k hk hc=>by
    have:=(HO1.out.lt k hc.symm).1
    omega
   have hrg3:=HRG.out.kept hgr (by first|exact hne _ (Nat.le_of_lt HBL.out)|exact hne _ (Nat.le_refl _)) (by first|exact hne _ (Nat.le_of_lt HBL.out)|exact hne _ (Nat.le_refl _))
   have HRG3:=qh hrg3
   have HB3:=qh (show Below w.heap.size w w3 from HB1.out.trans ((hal.mono HB1.out.size).trans (hb3.mono (Nat.le_succ _))))
   have HSZ3:=qh (show w.heap.size+1≤w3.heap.size from Nat.le_trans HSZ1.out (Nat.le_trans hal.size hb3.size))
   clear hrg3 hne hgr hal hb3 hg3 hen
   obtain⟨p3,c3,rfl⟩:∃ p3 c3,v3=.slice p3 1 c3:=by
    obtain⟨_,h2⟩:=HO3.out
    rcases h2 with⟨hv,hn⟩|⟨g,cap,cur,hv,_⟩
    ·cases hn
    ·exact⟨_,cap,hv⟩
   go_roundw
   case rel=>exact⟨_,_,1,_,p3,c3,rfl,HRG3.out,HB3.out,HO3.out,.inr ⟨rfl,e,HHE.out,rfl,by rw [HKS.out];simp⟩,HSZ3.out⟩
   case measure=>rw [HRG3.out.left_eq,HL0.out];exact HLT.out
def zero7:List Value:=[.int .i64 0,.int .i64 0,.int .i64 0,.int .i64 0,.int .i64 0,.int .i64 0,.int .i64 0]
theorem zero7_one:zero7.toArray.all (·.oneCell')=true:=by simp [zero7,Value.oneCell']
theorem LogAt.cut7 {w:World} {g b n:Nat} {l:List LEnt} (h:LogAt w g b n l):w.rangeAt g 1 zero7:=h.ix.rangeO 1 fun j v hv=>by
 rw [Nat.add_comm,List.getElem?_cons_succ]
 exact hv
theorem lcut_any (g b n:Nat) (l:List LEnt) (w:World) (h:LogAt w g b n l) :
  Calls Tryz.prog 234 #[.pointer (some ⟨g,0,none⟩)] w fun e w'=>e=.returned (.agg zero7.toArray)∧Below w.heap.size w w':=by
 have HI:=qh h;clear h
 go_enter Tryz.func234,Tryz.ntmps234
 go_upto_region 1 with (fail)
 have HZ:=qh (holds_alloc w 41 zero7)
 have HB:=qh (show Below w.heap.size w (w.alloc (.cells zero7.toArray 41)) by go_grown)
 unfold zero7 at HZ HB
 go_name_world W hW
 rw [hW] at HZ HB
 clear hW
 have HZ:=qh (show Holds W w.heap.size 41 zero7 from HZ.out)
 have HC:=qh (HI.out.below HB.out).cut7
 go_wp2_with (first
  | (refine wpList_load_mid rfl 41 _ rfl g 1 rfl zero7 _ HC.out Tryz.underlying41 rfl (by kernel_rfl) ?_)
  | (refine wpList_store_whole rfl 41 _ _ w.heap.size zero7 zero7 rfl rfl rfl rfl HZ.out (by kernel_rfl) rfl zero7_one ?_;intro wc hh ht))
 exact bodyPost_ret (v:=.agg zero7.toArray) (results_cell Tryz.results234 _ _ w.heap.size zero7 _ rfl hh.range0 Tryz.underlying41 rfl (by kernel_rfl)) rfl ⟨rfl,HB.out.trans (ht.below (Nat.le_refl _) HB.out.size)⟩
theorem ltop_nil (g b n:Nat) (w:World) (h:LogAt w g b n []) :
  Calls Tryz.prog 208 #[.pointer (some ⟨g,0,none⟩)] w fun e w'=>e=.returned (.agg zero7.toArray)∧Below w.heap.size w w':=by
 have HI:=qh h;clear h
 go_enter Tryz.func208,Tryz.ntmps208
 go_upto_region 1 with (fail)
 have HZ:=qh (holds_alloc w 41 zero7)
 have HB:=qh (show Below w.heap.size w (w.alloc (.cells zero7.toArray 41)) by go_grown)
 unfold zero7 at HZ HB
 go_name_world W hW
 rw [hW] at HZ HB
 clear hW
 have HZ:=qh (show Holds W w.heap.size 41 zero7 from HZ.out)
 have HI:=qh (HI.out.below HB.out)
 have HC:=qh HI.out.cut7
 have hle:=HB.out.size
 have hlt0:=HZ.out.lt
 go_upto_region 2 with (first
  | (refine wpList_load_mid rfl 41 _ rfl g 1 rfl zero7 _ HC.out Tryz.underlying41 rfl (by kernel_rfl) ?_)
  | (refine wpList_store_whole rfl 41 _ _ W.heap.size zero7 zero7 rfl rfl rfl rfl (holds_alloc W _ _) (by kernel_rfl) rfl zero7_one ?_;intro wc hh ht))
 have hb2:Below W.heap.size W (W.alloc (.cells zero7.toArray 41)):=by go_grown
 have HB2:=qh (show Below W.heap.size W wc from hb2.trans (ht.below (Nat.le_refl _) hb2.size))
 have HT3:=qh hh
 clear hh ht hb2 HC
 have HI:=qh (HI.out.below HB2.out)
 have HZ:=qh (holds_bel HZ.out HB2.out)
 have HB:=qh (below_next HB.out HB2.out)
 have hzlt:=HZ.out.lt
 have hne3:w.heap.size≠W.heap.size:=by omega
 generalize W.heap.size=g3 at HT3 hne3 hle ⊢
 have m0:=HI.out.ix.cell 0
 simp only [List.getElem?_cons_zero] at m0
 obtain⟨D,hown,hl⟩:=HI.out.map
 have HL:=qh hl;clear hl
 go_wp2_with (first
  | (at_range;refine wpList_range_own _ rfl _ 246 rfl 37 45 keyLaw Tryz.underlying246 readN b n D rfl hown ?_;intro w0 hrg0 hg0 hs0)
  | fail)
 go_frame
 have hb0:Below wc.heap.size wc w0:=⟨hg0.os,hg0.tape,hg0.output,hg0.size,fun k hk=>hg0.block k hk (by simp)⟩
 have HB:=qh (below_next HB.out hb0);have HZ:=qh (holds_bel HZ.out hb0);have HT3:=qh (holds_bel HT3.out hb0)
 have HRG:=qh hrg0
 clear hrg0 hg0 hs0 hown m0 hb0
 generalize wc.heap.size=R at HRG ⊢
 go_loopw [4] (fun _ wr=>∃ (left:Lit→Bool) (cnt:Nat),wr.ranges Tryz.prog 37 readN b R n D left cnt∧Below w.heap.size w wr∧Holds wr g3 41 zero7∧Holds wr w.heap.size 41 zero7) (fun _ wr=>wr.rangeLeft b R)
 case atStart=>exact⟨_,_,HRG.out,HB.out,HT3.out,HZ.out⟩
 case round=>
  clear HRG HB HZ HT3
  obtain⟨left,cnt,hrg,hb,ht3,hz⟩:=hrel
  have HB:=qh hb;have HT3:=qh ht3.range0;have HZ:=qh hz
  clear hb ht3 hz
  go_wp2_with (first
   | (at_next;refine wpList_next_ranges _ rfl _ rfl 37 keyLaw readN (fun p:Int × Int=>instV p.1 p.2) (fun v:Value=>v) (fun key kl hk=>by obtain⟨r,s,rfl,_⟩:=key_inv hk;exact⟨(r,s),rfl⟩) (fun v y _=>⟨v,rfl⟩) b R n D _ _ rfl hrg ?_ ?_)
   | fail)
  ·intro hc0 hl0
   clear hrg hl0 hc0
   go_wp2_with (first
    | (refine wpList_load_mid rfl 41 _ rfl g3 0 rfl zero7 _ HT3.out Tryz.underlying41 rfl (by kernel_rfl) ?_)
    | (refine wpList_store_whole rfl 41 _ _ w.heap.size zero7 zero7 rfl rfl rfl rfl HZ.out (by kernel_rfl) rfl zero7_one ?_;intro wc hh ht))
   exact bodyPost_ret (v:=.agg zero7.toArray) (results_cell Tryz.results208 _ _ w.heap.size zero7 _ rfl hh.range0 Tryz.underlying41 rfl (by kernel_rfl)) rfl ⟨rfl,HB.out.trans (ht.below (Nat.le_refl _) HB.out.size)⟩
  ·intro pr ps cv kl yd yp w1 cnt1 hkey hlk hR hat hrg1 hlt hg1 hs1 hen
   exfalso
   have hy:yd=.held cv:=by
    unfold readN at hR
    injection hR with hR
    injection hR with hR _
    exact hR.symm
   rw [hy] at hat
   have hh:=Maps.has_true_of_atKey hat
   rw [HL.out.has] at hh
   cases hh
theorem LogAt.recell {w w':World} {g b n:Nat} {l:List LEnt} (h:LogAt w g b n l) (ht:Touch g w w') (hc:Holds w' g 248 (.map (some b) :: cutL fun _=>0)):LogAt w' g b n l:=by
 have hlt:=h.lt.2
 have hne:=h.ne
 obtain⟨D,⟨es,clock,hm,r⟩,hl⟩:=h.map
 exact⟨hc,⟨D,⟨es,clock,(ht.block b hlt (fun e=>hne e.symm)).trans hm,r⟩,hl⟩,h.good,h.rows⟩
theorem ltrim_nil (g b n:Nat) (w:World) (h:LogAt w g b n []) :
  Calls Tryz.prog 203 #[.pointer (some ⟨g,0,none⟩),.agg zero7.toArray] w fun e w'=>e=.returned (.tuple #[])∧LogAt w' g b n []∧Touch g w w':=by
 have HI:=qh h;clear h
 have HIX:=qh (fun k hk W=>idx_deps (fun _=>0) k hk W)
 unfold zero7
 go_enter Tryz.func203,Tryz.ntmps203
 have hb1:Below w.heap.size w (w.alloc (.cells zero7.toArray 41)):=by go_grown
 have HI1:=qh (HI.out.below hb1);have HT1:=qh (show Touch g w _ from .of_below hb1)
 unfold zero7 at HI1 HT1
 clear hb1
 go_wp2_with fail
 go_loopw [8] (fun vi wr=>∃ j:Nat,j≤7∧vi=.int .i64 j∧LogAt wr g b n []∧Touch g w wr) (fun vi _=>7 - (intOf vi).toNat)
 case atStart=>exact⟨0,by omega,rfl,HI1.out,HT1.out⟩
 case round=>
  clear HI1 HT1
  obtain⟨j,hj,rfl,hi,ht⟩:=hrel
  have HI:=qh hi;have HT:=qh ht;clear hi ht
  by_cases hj7:j<7
  ·have cj:=HI.out.ix.cell (1+j)
   rw [cut_get _ _ _ hj7] at cj
   have cf:=HI.out.ix.free (1+j)
   have hix:=HIX.out j hj7
   have hS:=HI.out.ix.set (1+j) (.int .i64 0)
   rw [cut_set _ _ _ hj7] at hS
   have hfn:(fun t:Nat=>if t=j then (0:Int) else 0)=fun _=>0:=by funext t;simp
   rw [hfn] at hS
   have HS:=qh hS;clear hS hfn
   go_upto_region 4 with (fail)
   clear hix
   go_region
   go_wp2_with fail
   go_roundw
   case rel=>
    have ht2:=((Touch.refl g wr).setCell (1+j) (.int .i64 0)).drew
    exact⟨j+1,by omega,by go_num,HI.out.recell ht2 HS.out,HT.out.trans ht2⟩
   case measure=>simp [intOf];omega
  ·have m0:=HI.out.ix.cell 0
   simp only [List.getElem?_cons_zero] at m0
   obtain⟨D,hown,hl⟩:=HI.out.map
   have HL:=qh hl;clear hl
   go_wp2_with (first
    | (at_range;refine wpList_range_own _ rfl _ 246 rfl 37 45 keyLaw Tryz.underlying246 readN b n D rfl hown ?_;intro w0 hrg0 hg0 hs0)
    | fail)
   go_frame
   have hb0:Below wr.heap.size wr w0:=⟨hg0.os,hg0.tape,hg0.output,hg0.size,fun k hk=>hg0.block k hk (by simp)⟩
   have HI:=qh (HI.out.below hb0);have HT:=qh (HT.out.trans (.of_below hb0))
   have HRG:=qh hrg0
   clear hrg0 hg0 hs0 hown m0 hb0
   generalize wr.heap.size=R at HRG ⊢
   go_loopw [6] (fun _ wx=>∃ (left:Lit→Bool) (cnt:Nat),wx.ranges Tryz.prog 37 readN b R n D left cnt∧LogAt wx g b n []∧Touch g w wx) (fun _ wx=>wx.rangeLeft b R)
   case atStart=>exact⟨_,_,HRG.out,HI.out,HT.out⟩
   case round=>
    clear HRG HI HT
    obtain⟨left,cnt,hrg,hi,ht⟩:=hrel
    have HI:=qh hi;have HT:=qh ht
    clear hi ht
    go_wp2_with (first
     | (at_next;refine wpList_next_ranges _ rfl _ rfl 37 keyLaw readN (fun p:Int × Int=>instV p.1 p.2) (fun v:Value=>v) (fun key kl hk=>by obtain⟨r,s,rfl,_⟩:=key_inv hk;exact⟨(r,s),rfl⟩) (fun v y _=>⟨v,rfl⟩) b R n D _ _ rfl hrg ?_ ?_)
     | fail)
    ·intro hc0 hl0
     clear hrg hl0 hc0
     go_wp2_with fail
     exact bodyPost_end (v:=.tuple #[]) (by simp [results,Tryz.results203,go_sem]) rfl ⟨rfl,HI.out,HT.out⟩
    ·intro pr ps cv kl yd yp w1 cnt1 hkey hlk hR hat hrg1 hlt hg1 hs1 hen
     exfalso
     have hy:yd=.held cv:=by
      unfold readN at hR
      injection hR with hR
      injection hR with hR _
      exact hR.symm
     rw [hy] at hat
     have hh:=Maps.has_true_of_atKey hat
     rw [HL.out.has] at hh
     cases hh
theorem lnew_any (w:World) :
  Calls Tryz.prog 116 #[.agg zero7.toArray] w fun e w'=>∃ g b,e=.returned (.pointer (some ⟨g,0,none⟩))∧LogAt w' g b 0 []∧w.heap.size≤g∧w.heap.size≤b∧Below w.heap.size w w':=by
 have hmm:=@run_makeMap Tryz.prog
 have KT:=qh (fun g b W (h:LogAt W g b 0 [])=>ltrim_nil g b 0 W h)
 unfold zero7
 go_enter Tryz.func116,Tryz.ntmps116
 go_upto_region 2 with (fail)
 have hd:Holds (w.alloc (.cells zero7.toArray 41)) w.heap.size 41 zero7:=holds_alloc w _ _
 unfold zero7 at hd
 have hB0:Below w.heap.size w (w.alloc (.cells #[.int .i64 0,.int .i64 0,.int .i64 0,.int .i64 0,.int .i64 0,.int .i64 0,.int .i64 0] 41)):=by go_grown
 have hs0:(w.alloc (.cells #[.int .i64 0,.int .i64 0,.int .i64 0,.int .i64 0,.int .i64 0,.int .i64 0,.int .i64 0] 41)).heap.size=w.heap.size+1:=World.size_alloc _ _
 generalize w.alloc (.cells #[.int .i64 0,.int .i64 0,.int .i64 0,.int .i64 0,.int .i64 0,.int .i64 0,.int .i64 0] 41)=w1 at hd hB0 hs0 ⊢
 have hB1:Below w1.heap.size w1 ((w1.alloc (.map #[] 0)).alloc (.cells #[.map (some w1.heap.size),.int .i64 0,.int .i64 0,.int .i64 0,.int .i64 0,.int .i64 0,.int .i64 0,.int .i64 0] 248)):=by
  have h1:Below w1.heap.size w1 (w1.alloc (.map #[] 0)):=(Below.refl _ _).alloc (Nat.le_refl _) _
  exact h1.alloc h1.size _
 have hla:LogAt ((w1.alloc (.map #[] 0)).alloc (.cells #[.map (some w1.heap.size),.int .i64 0,.int .i64 0,.int .i64 0,.int .i64 0,.int .i64 0,.int .i64 0,.int .i64 0] 248)) (w1.heap.size+1) w1.heap.size 0 []:=by
  refine⟨?_,⟨.map [],?_,LLists.empty⟩,(fun e he=>by cases he),(fun e he=>by cases he)⟩
  ·have:=holds_alloc (w1.alloc (.map #[] 0)) 248 (.map (some w1.heap.size) :: cutL fun _=>0)
   rw [World.size_alloc] at this
   exact this
  ·exact (World.ownsMap_made w1 Tryz.prog 37 readN).alloc _
 rw [hs0] at hB1 hla
 go_name_world W hW
 rw [hW] at hB1 hla
 clear hW
 have HLA:=qh hla;have HD:=qh (holds_bel hd (by rw [hs0];exact hB1)).range0
 have HB:=qh (hB0.trans (hB1.mono (Nat.le_succ _)))
 clear hB1 hla hd hB0 hs0
 go_wp2_with (refine wpList_load_mid rfl 41 _ rfl w.heap.size 0 rfl _ _ HD.out Tryz.underlying41 rfl (by kernel_rfl) ?_)
 refine (KT.out _ _ _ HLA.out).mono ?_
 rintro e w4 ⟨rfl,hl,ht⟩
 have HLA:=qh hl;have HB:=qh (HB.out.trans (ht.below (by omega) HB.out.size))
 clear hl ht
 go_wp2_with fail
 go_ret
 exact⟨_,_,rfl,HLA.out,by omega,by omega,HB.out⟩
end
section
open Go.RowKit
def letZ:List Value:=[.int .i64 0,.int .i64 0,.int .i64 0,.int .i64 0,.int .i64 0,.int .i64 0,.int .i64 0,.int .i64 0,.int .i64 0,.int .i64 0,.string ⟨#[]⟩,.string ⟨#[]⟩,.string ⟨#[]⟩,.string ⟨#[]⟩,.int .i64 0,.int .i64 0,.int .i64 0,.int .i64 0,.int .i64 0,.int .i64 0,.int .i64 0,.int .i64 0,.int .i64 0,.int .i64 0,.int .i64 0,.int .i64 0,.int .i64 0,.int .i64 0,.int .i64 0,.int .i64 0,.string ⟨#[]⟩,.string ⟨#[]⟩,.string ⟨#[]⟩,.string ⟨#[]⟩,.int .i64 0,.int .i64 0,.int .i64 0,.int .i64 0,.int .i64 0,.int .i64 0,.int .i64 0,.int .i64 0,.bool false,.int .i64 0,.int .i64 0,.int .i64 0,.int .i64 0,.int .i64 0,.int .i64 0,.int .i64 0,.string ⟨#[]⟩]
theorem send_any (gc n me gl gi nO:Nat) (leads recs out:Value) (ob:Option Nat) (xs:List Value) (k f t q:Int) (x:Cm) (tt:Nat) (w:World) (h:Holds w gc 163 (coreL n me gl gi leads recs out)) (ho:OwnS w out ob 47 51 nO xs) (hne:∀ g,ob=some g→g≠gc) (hn:nO≤1000) :
  Calls Tryz.prog 148 #[.pointer (some ⟨gc,0,none⟩),.int .i64 tt,.agg (letL k f t q x).toArray] w fun e w'=>e=.returned (.tuple #[])∧∃ p c ob',Holds w' gc 163 (coreL n me gl gi leads recs (.slice p (nO+1:Nat) c))∧OwnS w' (.slice p (nO+1:Nat) c) ob' 47 51 (nO+1) (xs++letL k me tt q x)∧(ob'=ob∨∃ g,ob'=some g∧w.heap.size≤g)∧Mv (fun g=>g=gc∨ob=some g) w w':=by
 have HC:=qh h;have HO:=qh ho
 have HM:=qh (Mv.refl (fun g=>g=gc∨ob=some g) w)
 have hgl:=h.lt
 have hxo:∀ g,ob=some g→g≠w.heap.size:=fun g hg=>by have:=ho.lt g hg;omega
 clear h ho
 go_enter Tryz.func148,Tryz.ntmps148
 go_upto_region 1 with (fail)
 go_name_world W hW
 have hW:allocs w [.cells (letL k f t q x:List Value).toArray 47]=W:=hW
 have HX:=qh (show Holds W (w.heap.size) 47 (letL k f t q x) from holds_allocs _ hW 0 rfl)
 have hbW:=below_allocs _ hW
 have hsW:=size_allocs _ hW
 simp only [List.length_cons,List.length_nil] at hsW
 clear hW
 have HC:=qh (HC.out.bel hbW)
 have HO:=qh (HO.out.bel hbW)
 have HM:=qh (HM.out.bel hbW)
 clear hbW hsW
 have hxg:w.heap.size≠gc:=by omega
 generalize hx0:w.heap.size=gx at HX hxg hxo ⊢
 have d1:=HC.out.cell 1
 simp only [coreL,yA,yB] at d1
 go_wp2_with (first
  | (refine wpList_store_cell rfl 3 (.tmp 11) (.tmp 9) rfl rfl gx 1 47 _ HX.out (by simp [letL]) rfl (.int .i64 me) rfl rfl (by kernel_rfl) rfl ?_;intro w1 hh1 ht1)
  | (refine wpList_store_cell rfl 3 (.tmp 12) (.tmp 10) rfl rfl gx 2 47 _ hh1 (by simp [letL]) rfl (.int .i64 tt) rfl rfl (by kernel_rfl) rfl ?_;intro w2 hh2 ht2))
 have HX:=qh (show Holds w2 gx 47 (letL k me tt q x) from hh2)
 have ht12:=ht1.trans ht2
 have HC:=qh (HC.out.touch ht12 (Ne.symm hxg))
 have HO:=qh (HO.out.touch ht12 hxo)
 have HM:=qh (HM.out.touch ht12 (.inr (by omega)))
 have hs2:=HM.out.size
 clear hh1 hh2 ht1 ht2 ht12 d1
 go_upto_region 2 with (fail)
 have HRX:=qh (fun (w':World) (h:Below w2.drew.heap.size w2.drew w')=>(((HX.out.bel (t_drew _ w2)).bel h).range0))
 have HC:=qh (HC.out.bel (t_drew _ w2))
 have HO:=qh (HO.out.bel (t_drew _ w2))
 have HM:=qh (HM.out.bel (t_drew _ w2))
 refine wp_region_noPanic ?_
 refine wp_region_late (S:=fun W'=>Below w2.drew.heap.size w2.drew W') (X0:=[7,10]) (by as_aux_lemma=>kernel_rfl) ?_
 generalize w2.drew=wd at HC HO HM HRX ⊢
 have hSn:Below wd.heap.size wd wd:=Below.refl _ _
 change wpAnyL _ _ _ _ _ _ 11 #[false,false,false,false,false,false,false,false,false,false,false] _ _
 refine mvA 0 (some 13) (fun _=>hSn) ?_
 simp only [Act.put,zA,zB,zC]
 refine mvA 1 (some 14) (fun _=>hSn) ?_
 simp only [Act.put,zA,zB,zC]
 refine mvA 2 (some 15) (fun _=>hSn) ?_
 simp only [Act.put,zA,zB,zC]
 refine mvA 3 (some 16) (fun _=>hSn) ?_
 simp only [Act.put,zA,zB,zC]
 refine tkA 4 [7,8,9,10] (some 17) (?vg5) rfl (Or.inl ⟨by rfl,?hg5⟩) hSn ?rg5
 case hg5=>
  intro w hSw
  have b7:=(HC.out.bel hSw).cell 7
  simp only [coreL,yA,yB] at b7
  go_simp
  try with_reducible rfl
 simp only [Act.put,zA,zB,zC]
 refine tkA 5 [6,7,8,9,10] (some 18) (.agg (letL k me tt q x).toArray) rfl (yieldsIf_load_mid (by rfl) 47 _ rfl gx 0 rfl (letL k me tt q x) _ (fun w hSw=>HRX.out w hSw) Tryz.underlying47 rfl (by as_aux_lemma=>kernel_rfl)) hSn ?rg6
 simp only [Act.put,zA,zB,zC]
 refine rd1 6 rfl (fun K hK=>?_)
 refine step_build1 rfl 34 47 (.agg (letL k me tt q x).toArray) (letL k me tt q x) rfl rfl rfl (fun w=>by kernel_rfl) ?_
 intro wa hna hba
 have hSn:=below_next hSn hba
 have HN:=qh hna
 generalize wd.heap.size=gn at HN ⊢
 have HO:=qh (HO.out.bel hSn)
 have HC:=qh (HC.out.bel hSn)
 have HM:=qh (HM.out.bel hSn)
 clear hna hba
 change K (Act.put _ (some 19) _) _
 refine hK.out _ _ (fun _=>hSn) ?_
 clear hK
 try simp only [Act.put,zA,zB,zC]
 refine rd1 7 rfl (fun K hK=>?_)
 refine step_append_s rfl (.tmp 17) (.tmp 19) 34 rfl 47 (.agg letZ.toArray) 51 480 rfl (by kernel_rfl) rfl (by decide) _ ob nO xs rfl HO.out _ 1 1 (letL k me tt q x) rfl rfl (HN.out.reads 0 _ (fun j v hv=>by rw [Nat.zero_add];exact hv)) (by decide) (letL_one _ _ _ _ _) (by unfold maxLen;omega) (by omega) ?_
 intro v5 ob5 w5 ho5 hob5 hm5
 have hC5:Holds w5 gc 163 _:=HC.out.mv hm5 (fun hc=>hne _ hc rfl)
 have HC5:=qh hC5
 have HM5:=qh (HM.out.mv hm5 (fun k hk=>.inl (.inr hk)))
 have hwa:=HM.out.size
 have HO5:=qh (And.intro ho5 (show ob5=ob∨∃ g,ob5=some g∧w.heap.size≤g from hob5.imp id fun ⟨g,h1,h2⟩=>⟨g,h1,by omega⟩))
 obtain⟨p5,c5,rfl⟩:∃ p5 c5,v5=.slice p5 (nO+1:Nat) c5:=by
  rcases ho5.cases with⟨_,_,h0,_⟩|⟨g1,cap,_,hv,_⟩
  ·omega
  ·exact⟨_,cap,hv⟩
 clear ho5 hob5 hm5 hC5
 change K (Act.put _ (some 20) _) _
 refine hK.out _ _ nlA ?_
 clear hK
 try simp only [Act.put,zA,zB,zC]
 refine mvA 8 (some 21) nlA ?_
 simp only [Act.put,zA,zB,zC]
 refine mvA 9 (some 22) nlA ?_
 simp only [Act.put,zA,zB,zC]
 refine rd1 10 rfl (fun K hK=>?_)
 refine step_store_cell rfl 34 (.tmp 22) (.tmp 20) rfl rfl gc 7 163 _ HC5.out (by simp [coreL]) rfl (.slice p5 (nO+1:Nat) c5) rfl rfl (by kernel_rfl) rfl ?_
 intro w6 hh6 ht6
 have HC6:=qh (show Holds w6 gc 163 (coreL n me gl gi leads recs (.slice p5 (nO+1:Nat) c5)) from hh6)
 have HM6:=qh (HM5.out.touch ht6 (.inl (.inl rfl)))
 have HO6:=qh (And.intro (HO5.out.1.touch ht6 (fun g hg=>by rcases HO5.out.2 with h|⟨g2,h,h2⟩<;>rw [h] at hg;exact hne g hg;cases hg;omega)) HO5.out.2)
 clear hh6 ht6
 refine hK.out _ _ nlA ?_
 clear hK
 try simp only [Act.put,zA,zB,zC]
 refine dnA (NoPanic.normal ?_)
 clear hSn HC HO HM HC5 HM5 HO5 HN HRX HX
 go_wp2_with fail
 exact bodyPost_end (v:=.tuple #[]) (by simp [results,Tryz.results148,go_sem]) rfl ⟨rfl,p5,c5,ob5,HC6.out,HO6.out.1,HO6.out.2,HM6.out⟩
end
section
open Go.RowKit
def outV (k me q:Nat) (x:Cm) (i:Nat):List Value:=letL k me ((if i<me then i else i+1:Nat):Int) q x
def upTo (me r:Nat):Nat:=if r≤me then r else r-1
theorem zero7_at (r:Nat) (hr:r<7):zero7[r]?=some (.int .i64 0):=by
 rcases (show r=0∨r=1∨r=2∨r=3∨r=4∨r=5∨r=6 by omega) with rfl|rfl|rfl|rfl|rfl|rfl|rfl<;>rfl
def AllSent (B gc n me gl gi:Nat) (leads recs:Value) (k q:Nat) (x:Cm) (w:World) (m:Nat) (wr:World):Prop:=
 ∃ (out:Value) (ob:Option Nat),Holds wr gc 163 (coreL n me gl gi leads recs out)∧OwnS wr out ob 47 51 m (flat 51 m (outV k me q x))∧(∀ g,ob=some g→B≤g)∧Mv (fun g=>g=gc) w wr
theorem all_any (gc n me gl gi:Nat) (leads recs:Value) (k f t q:Nat) (x:Cm) (w:World) (h:Holds w gc 163 (coreL n me gl gi leads recs (.slice none 0 0))) (hn:n≤7) (hme:me<n) :
  Calls Tryz.prog 79 #[.pointer (some ⟨gc,0,none⟩),.agg (letL k f t q x).toArray,.agg zero7.toArray] w fun e w'=>e=.returned (.tuple #[])∧AllSent w.heap.size gc n me gl gi leads recs k q x w (n-1) w':=by
 have KS:=qh (fun nO out ob xs tt W h ho hne hn=>send_any gc n me gl gi nO leads recs out ob xs k f t q x tt W h ho hne hn)
 have HC:=qh h
 have hgl:=h.lt
 have HM:=qh (Mv.refl (fun g=>g=gc) w)
 clear h
 go_enter Tryz.func79,Tryz.ntmps79
 go_upto_region 1 with (fail)
 go_name_world W hW
 have hW:allocs w [.cells (letL k f t q x:List Value).toArray 47,.cells (zero7:List Value).toArray 40]=W:=hW
 have HX:=qh (show Holds W (w.heap.size) 47 (letL k f t q x) from holds_allocs _ hW 0 rfl)
 have HZ:=qh (show Holds W (w.heap.size+1) 40 (zero7) from holds_allocs _ hW 1 rfl)
 have hbW:=below_allocs _ hW
 have hsW:=size_allocs _ hW
 simp only [List.length_cons,List.length_nil] at hsW
 clear hW
 have HC:=qh (HC.out.bel hbW)
 have HM:=qh (HM.out.bel hbW)
 clear hbW
 have hs2:w.heap.size+2≤W.heap.size:=by omega
 clear hsW
 generalize hz0:w.heap.size+1=gz at HZ ⊢
 generalize hx0:w.heap.size=gx at HX ⊢
 have hx:gx≠gc∧gz≠gc:=by omega
 have d0:=HC.out.cell 0
 simp only [coreL,yA,yB] at d0
 go_wp2_with fail
 clear d0
 go_loopw [11] (fun vi wr=>∃ r:Nat,vi=.int .i64 (r:Int)∧r≤n∧AllSent (w.heap.size+2) gc n me gl gi leads recs k q x w (upTo me r) wr∧Holds wr gx 47 (letL k f t q x)∧Holds wr gz 40 zero7) (fun vi _=>n - (intOf vi).toNat)
 case atStart=>
  refine⟨0,rfl,by omega,⟨.slice none 0 0,none,HC.out,?_,fun g hg=>(by cases hg),HM.out⟩,HX.out,HZ.out⟩
  unfold upTo
  rw [if_pos (Nat.zero_le _),flat_zero]
  exact OwnS.nil _ _ _
 case round=>
  clear HC HM HX HZ
  obtain⟨r,rfl,hr,⟨out,ob,hc,ho,hob,hm⟩,hx2,hz2⟩:=hrel
  have HC:=qh hc;have HO:=qh ho;have HOB:=qh hob;have HM:=qh hm;have HX:=qh hx2;have HZ:=qh hz2
  clear hc ho hob hm hx2 hz2
  by_cases hrn:r=n
  ·subst hrn
   have hup:upTo me r=r-1:=by unfold upTo;rw [if_neg (by omega)]
   have HUP:=qh hup;clear hup
   go_wp2_with fail
   exact bodyPost_end (v:=.tuple #[]) (by simp [results,Tryz.results79,go_sem]) rfl ⟨rfl,out,ob,HC.out,by rw [← HUP.out];exact HO.out,fun g hg=>by have:=HOB.out g hg;omega,HM.out⟩
  ·have hrlt:(r:Int)<n:=by omega
   have d1:=HC.out.cell 1
   simp only [coreL,yA,yB] at d1
   by_cases hrm:r=me
   ·subst hrm
    have HUP:=qh (show upTo r (r+1)=upTo r r by unfold upTo;rw [if_neg (by omega),if_pos (Nat.le_refl _)];omega)
    go_wp2_with fail
    clear d1
    go_roundw
    case rel=>exact⟨r+1,by simp,by omega,⟨out,ob,HC.out,by rw [HUP.out];exact HO.out,HOB.out,HM.out⟩,HX.out,HZ.out⟩
    case measure=>simp [intOf];omega
   ·have zr:wr.cell? ⟨gz,r,none⟩=some (.int .i64 0):=(HZ.out.cell r).trans (zero7_at r (by omega))
    have hne2:((r:Int)==(me:Int))=false:=by simp;omega
    have hne3:((r:Int) != (me:Int))=true:=by simp;omega
    have hr7:(r:Int)<7:=by omega
    have HUP:=qh (show upTo me (r+1)=upTo me r+1 by unfold upTo;by_cases h:r≤me;rw [if_pos (by omega),if_pos h];rw [if_neg (by omega),if_neg h];omega)
    have HOV:=qh (show outV k me q x (upTo me r)=letL k me r q x by unfold outV upTo;by_cases h:r≤me;rw [if_pos h,if_pos (by omega)];rw [if_neg h,if_neg (by omega),show r-1+1=r by omega])
    have hupl:upTo me r≤1000:=by unfold upTo;split<;>omega
    have HRX:=qh HX.out.range0
    clear hrm
    go_wp2_with (first
     | (refine wpList_load_mid rfl 47 _ rfl gx 0 rfl (letL k f t q x) _ HRX.out Tryz.underlying47 rfl (by kernel_rfl) ?_))
    refine (KS.out (upTo me r) out ob _ r _ HC.out HO.out (fun g hg=>by have:=HOB.out g hg;omega) hupl).mono ?_
    rintro e w5 ⟨rfl,p,c,ob5,hc5,ho5,hob5,hm5⟩
    have hs5:=HM.out.size
    have hs6:w.heap.size+2≤wr.heap.size:=by have:=HZ.out.lt;omega
    have hobl:=HOB.out
    have HC:=qh hc5
    have HX:=qh (HX.out.mv hm5 (by rintro (h|h);exact hx.1 h;have:=hobl _ h;omega))
    have HZ:=qh (HZ.out.mv hm5 (by rintro (h|h);exact hx.2 h;have:=hobl _ h;omega))
    have HM:=qh (HM.out.mv hm5 (fun g hg=>hg.imp id (fun h=>by have:=hobl g h;omega)))
    have HO:=qh (show OwnS w5 (.slice p (upTo me r+1:Nat) c) ob5 47 51 (upTo me (r+1)) (flat 51 (upTo me (r+1)) (outV k me q x)) by
     rw [HUP.out,← flat_snoc (V:=outV k me q x) (by decide) (fun i _=>letL_len _ _ _ _ _),HOV.out];exact ho5)
    have HOB:=qh (show ∀ g,ob5=some g→w.heap.size+2≤g from fun g hg=>by
     rcases hob5 with h|⟨g2,h,h2⟩
     ·exact hobl g (h▸hg)
     ·rw [h] at hg;cases hg;omega)
    clear hc5 ho5 hob5 hm5 hobl zr d1 hne2 hne3 HRX
    go_wp2_with fail
    go_roundw
    case rel=>exact⟨r+1,by simp,by omega,⟨_,ob5,HC.out,HO.out,HOB.out,HM.out⟩,HX.out,HZ.out⟩
    case measure=>simp [intOf];omega
end
end Go.Proofs.YtimdpiifpibgfaaGreatDoor
