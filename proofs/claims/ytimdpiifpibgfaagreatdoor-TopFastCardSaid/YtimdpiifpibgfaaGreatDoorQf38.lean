/- For every input the law TopFast returns true (a part of the proof). Condition: the listed variables start as the program's text lays them. -/
import Derived.Test.YtimdpiifpibgfaaGreatDoorQf37
set_option linter.unusedVariables false
set_option linter.unusedSimpArgs false
set_option maxRecDepth 20000
set_option maxHeartbeats 16000000
namespace Go.Proofs.YtimdpiifpibgfaaGreatDoor
section
open Go.RowKit Go.Maps
def evZ:List Value:=[.int .i64 0,.int .i64 0,.int .i64 0,.int .i64 0,.int .i64 0,.string ⟨#[]⟩,.string ⟨#[]⟩,.string ⟨#[]⟩,.string ⟨#[]⟩,.int .i64 0,.bool false,.string ⟨#[]⟩,.int .i64 0,.slice none 0 0]
def Cloned (T:TypeId) (s n:Nat) (L:List Value) (w:World) (e:Ending) (w':World):Prop:=∃ P' ob',e=.returned P'∧OwnS w' P' ob' T s n L∧(∀ k,ob'=some k→w.heap.size≤k)∧NilIf n P'∧Below w.heap.size w w'
theorem cloneLet (P:Value) (ob:Option Nat) (n:Nat) (L:List Value) (h1:∀ u∈L,u.oneCell'=true) (hn:n≤1000) (w:World) (h:OwnS w P ob 47 51 n L) (h0:NilIf n P) :
  Calls Tryz.prog 34 #[P] w (Cloned 47 51 n L w):=by
 rcases Nat.eq_zero_or_pos n with hz|hp
 ·subst hz
  obtain rfl:=h0 rfl
  have hL:L=[]:=List.eq_nil_of_length_eq_zero (by have:=h.len;omega)
  subst hL
  have he:∀ W:World,(binOp .eql 34 (.slice none 0 0) (.slice none 0 0)).run Tryz.prog W=.ok (.bool true) W:=fun _=>by kernel_rfl
  clear h h1 h0
  go_enter Tryz.func34,Tryz.ntmps34
  go_wp2_with fail
  go_ret
  exact⟨_,none,rfl,OwnS.nil _ _ _,by simp,fun _=>rfl,Below.refl _ _⟩
 have hlen:=h.len
 obtain⟨g,c,rest,rfl,rfl,hc1,hcm,hh,hl⟩:=h.blk hp
 have HR:=qh (hh.reads 0 L (fun j v hv=>by rw [Nat.zero_add,List.getElem?_append_left (List.getElem?_eq_some_iff.1 hv).1];exact hv))
 have HO1:=qh (show OwnS (w.alloc (.cells #[] 47)) (.slice (some ⟨w.heap.size,0,none⟩) 0 0) (some w.heap.size) 47 51 0 [] from ⟨World.ownsRow_lit (size:=51) w #[] 0 (Nat.zero_le _) (by unfold maxLen;omega) (by simp),rfl⟩)
 have ha:Below w.heap.size w (w.alloc (.cells #[] 47)):=by go_grown
 have HA:=qh ha;have hsz:=ha.size
 have he:∀ W:World,(binOp .eql 34 (.slice (some ⟨g,0,none⟩) n c) (.slice none 0 0)).run Tryz.prog W=.ok (.bool false) W:=fun _=>by kernel_rfl
 have H1:=qh h1
 clear h hh ha h1 h0
 go_enter Tryz.func34,Tryz.ntmps34
 go_wp2_with (first
  | (at_builtin;refine wpList_append_s rfl (.tmp 5) (.tmp 6) 34 rfl 47 (.agg letZ.toArray) 51 480 rfl (by kernel_rfl) rfl (by decide) _ _ 0 _ rfl HO1.out (some ⟨g,0,none⟩) n c L rfl hlen (HR.out.below HA.out) hp H1.out (by unfold maxLen;omega) (by omega) ?_;intro v2 ob2 w2 ho2 hob2 hm2))
 rw [List.nil_append,Nat.zero_add] at ho2
 have HB:=qh (HA.out.trans (hm2.below hsz (fun k hk=>by cases hk;exact Nat.le_refl _)))
 have hg:∃ g,ob2=some g∧w.heap.size≤g:=by
  rcases hob2 with hc|⟨k,hk,hk2⟩
  ·exact⟨_,hc,Nat.le_refl _⟩
  ·exact⟨k,hk,by omega⟩
 obtain⟨g',rfl,hg'⟩:=hg
 obtain⟨g2,c2,r2,rfl,_,_,_,_,_⟩:=ho2.blk hp
 have H2:=qh ho2
 clear ho2 hm2 hob2
 go_ret
 exact⟨_,_,rfl,H2.out,fun k hk=>(by cases hk;exact hg'),fun h=>(by omega),HB.out⟩
theorem cloneEv (P:Value) (ob:Option Nat) (n:Nat) (L:List Value) (h1:∀ u∈L,u.oneCell'=true) (hn:n≤1000) (w:World) (h:OwnS w P ob 55 14 n L) (h0:NilIf n P) :
  Calls Tryz.prog 35 #[P] w (Cloned 55 14 n L w):=by
 rcases Nat.eq_zero_or_pos n with hz|hp
 ·subst hz
  obtain rfl:=h0 rfl
  have hL:L=[]:=List.eq_nil_of_length_eq_zero (by have:=h.len;omega)
  subst hL
  have he:∀ W:World,(binOp .eql 48 (.slice none 0 0) (.slice none 0 0)).run Tryz.prog W=.ok (.bool true) W:=fun _=>by kernel_rfl
  clear h h1 h0
  go_enter Tryz.func35,Tryz.ntmps35
  go_wp2_with fail
  go_ret
  exact⟨_,none,rfl,OwnS.nil _ _ _,by simp,fun _=>rfl,Below.refl _ _⟩
 have hlen:=h.len
 obtain⟨g,c,rest,rfl,rfl,hc1,hcm,hh,hl⟩:=h.blk hp
 have HR:=qh (hh.reads 0 L (fun j v hv=>by rw [Nat.zero_add,List.getElem?_append_left (List.getElem?_eq_some_iff.1 hv).1];exact hv))
 have HO1:=qh (show OwnS (w.alloc (.cells #[] 55)) (.slice (some ⟨w.heap.size,0,none⟩) 0 0) (some w.heap.size) 55 14 0 [] from ⟨World.ownsRow_lit (size:=14) w #[] 0 (Nat.zero_le _) (by unfold maxLen;omega) (by simp),rfl⟩)
 have ha:Below w.heap.size w (w.alloc (.cells #[] 55)):=by go_grown
 have HA:=qh ha;have hsz:=ha.size
 have he:∀ W:World,(binOp .eql 48 (.slice (some ⟨g,0,none⟩) n c) (.slice none 0 0)).run Tryz.prog W=.ok (.bool false) W:=fun _=>by kernel_rfl
 have H1:=qh h1
 clear h hh ha h1 h0
 go_enter Tryz.func35,Tryz.ntmps35
 go_wp2_with (first
  | (at_builtin;refine wpList_append_s rfl (.tmp 5) (.tmp 6) 48 rfl 55 (.agg evZ.toArray) 14 168 rfl (by kernel_rfl) rfl (by decide) _ _ 0 _ rfl HO1.out (some ⟨g,0,none⟩) n c L rfl hlen (HR.out.below HA.out) hp H1.out (by unfold maxLen;omega) (by omega) ?_;intro v2 ob2 w2 ho2 hob2 hm2))
 rw [List.nil_append,Nat.zero_add] at ho2
 have HB:=qh (HA.out.trans (hm2.below hsz (fun k hk=>by cases hk;exact Nat.le_refl _)))
 have hg:∃ g,ob2=some g∧w.heap.size≤g:=by
  rcases hob2 with hc|⟨k,hk,hk2⟩
  ·exact⟨_,hc,Nat.le_refl _⟩
  ·exact⟨k,hk,by omega⟩
 obtain⟨g',rfl,hg'⟩:=hg
 obtain⟨g2,c2,r2,rfl,_,_,_,_,_⟩:=ho2.blk hp
 have H2:=qh ho2
 clear ho2 hm2 hob2
 go_ret
 exact⟨_,_,rfl,H2.out,fun k hk=>(by cases hk;exact hg'),fun h=>(by omega),HB.out⟩
theorem cloneLd1 (g c:Nat) (u:Value) (rest:List Value) (h1:∀ x∈[u],x.oneCell'=true) (w:World) (hh:Holds w g 158 ([u]++rest)) :
  Calls Tryz.prog 77 #[.slice (some ⟨g,0,none⟩) 1 c] w (Cloned 158 1 1 [u] w):=by
 have hp:0<1:=Nat.zero_lt_one
 have HR:=qh (hh.reads 0 [u] (fun j v hv=>by rw [Nat.zero_add,List.getElem?_append_left (List.getElem?_eq_some_iff.1 hv).1];exact hv))
 have HO1:=qh (show OwnS (w.alloc (.cells #[] 158)) (.slice (some ⟨w.heap.size,0,none⟩) 0 0) (some w.heap.size) 158 1 0 [] from ⟨World.ownsRow_lit (size:=1) w #[] 0 (Nat.zero_le _) (by unfold maxLen;omega) (by simp),rfl⟩)
 have ha:Below w.heap.size w (w.alloc (.cells #[] 158)):=by go_grown
 have HA:=qh ha;have hsz:=ha.size
 have he:∀ W:World,(binOp .eql 156 (.slice (some ⟨g,0,none⟩) 1 c) (.slice none 0 0)).run Tryz.prog W=.ok (.bool false) W:=fun _=>by kernel_rfl
 have H1:=qh h1
 clear hh ha h1
 go_enter Tryz.func77,Tryz.ntmps77
 go_wp2_with (first
  | (at_builtin;refine wpList_append_s rfl (.tmp 5) (.tmp 6) 156 rfl 158 (.pointer none) 1 8 rfl (by kernel_rfl) rfl (by decide) _ _ 0 _ rfl HO1.out (some ⟨g,0,none⟩) 1 c [u] rfl rfl (HR.out.below HA.out) hp H1.out (by unfold maxLen;omega) (by omega) ?_;intro v2 ob2 w2 ho2 hob2 hm2))
 rw [List.nil_append,Nat.zero_add] at ho2
 have HB:=qh (HA.out.trans (hm2.below hsz (fun k hk=>by cases hk;exact Nat.le_refl _)))
 have hg:∃ g,ob2=some g∧w.heap.size≤g:=by
  rcases hob2 with hc|⟨k,hk,hk2⟩
  ·exact⟨_,hc,Nat.le_refl _⟩
  ·exact⟨k,hk,by omega⟩
 obtain⟨g',rfl,hg'⟩:=hg
 obtain⟨g2,c2,r2,rfl,_,_,_,_,_⟩:=ho2.blk hp
 have H2:=qh ho2
 clear ho2 hm2 hob2
 go_ret
 exact⟨_,_,rfl,H2.out,fun k hk=>(by cases hk;exact hg'),fun h=>(by omega),HB.out⟩
end
section
open Go.RowKit Go.Maps
theorem LogAt.mvL {w w':World} {F:Foot} {g b n:Nat} {l:List LEnt} (h:LogAt w g b n l) (hm:Mv F w w') (h1:¬ F g) (h2:¬ F b):LogAt w' g b n l:=h.keep (hm.block g h.lt.1 h1) (hm.block b h.lt.2 h2)
theorem tick_lead (gc n me gl gm nl gi gx ni gb gld cb q:Nat) (c:Cm) (E:List Ent) (rest:List Value) (a:Nat→Int) (R:Value) (cnt:Int) (w:World) (h:CoreAt w gc n me gl gm nl gi gx ni [⟨q,1,cellL 1 c true⟩] E (.slice (some ⟨gb,0,none⟩) 1 cb) (.slice none 0 0) (.slice none 0 0))
  (hb:Holds w gb 158 (.pointer (some ⟨gld,0,none⟩) :: rest)) (hl:Holds w gld 167 (leadL q c a R cnt 0)) (hcb:1≤cb∧cb≤maxLen) (hq:q<7) :
  Calls Tryz.prog 52 #[.pointer (some ⟨gc,0,none⟩)] w fun e w'=>e=.returned (.tuple #[])∧Holds w' gld 167 (leadL q c a R cnt 1)∧Mv (fun k=>k=gld) w w':=by
 have hd:gld≠gc∧gld≠gl∧gld≠gm∧gld≠gi∧gld≠gx∧gld≠gb:=⟨hl.ne_of h.hc (by decide),hl.ne_of h.lg.ix (by decide),ownsMap_ne h.lg.isMap hl,hl.ne_of h.ix.ix (by decide),ownsMap_ne h.ix.isMap hl,hl.ne_of hb (by decide)⟩
 have KC:=qh (cloneLd1 gb cb (.pointer (some ⟨gld,0,none⟩)) rest (by simp [Value.oneCell']) w hb)
 have KW:=qh cloneWish_nil
 have KL:=qh (fun W h=>llist_any gl gm nl [⟨q,1,cellL 1 c true⟩] W h (by simp))
 have KX:=qh (fun W (h:LogAt W gl gm nl [⟨q,1,cellL 1 c true⟩])=>lcell_one gl gm nl q (cellL 1 c true) W h hq)
 have KF:=qh (fun W (h:Holds W gc 163 (coreL n me gl gi (.slice (some ⟨gb,0,none⟩) 1 cb) (.slice none 0 0) (.slice none 0 0))) hb hl=>find_one gc n me gl gi gb gld cb rest (.slice none 0 0) (.slice none 0 0) q c a R cnt 1 W h hb hl hcb.1)
 have HC:=qh h.hc;have HLG:=qh h.lg;have HG:=qh hb;have HL:=qh hl
 have hgl:=hl.lt
 have HM:=qh (Mv.refl (fun k=>k=gld) w)
 clear h hb hl
 go_enter Tryz.func52,Tryz.ntmps52
 have d4:=HC.out.cell 4
 simp only [coreL,yA,yB] at d4
 go_wp2_with fail
 refine KC.out.mono ?_
 rintro e w1 ⟨P',ob',rfl,ho,hob,_,hb⟩
 obtain⟨gs,cs,rs,rfl,rfl,hcs1,hcs2,hgs,_⟩:=ho.blk (Nat.zero_lt_one)
 have HS:=qh hgs
 have HC:=qh (HC.out.bel hb)
 have HLG:=qh (HLG.out.bel hb)
 have HG:=qh (HG.out.bel hb)
 have HL:=qh (HL.out.bel hb)
 have HM:=qh (HM.out.bel hb)
 clear hb d4 ho hob hgs KC
 go_wp2_with fail
 go_loopw [17] (fun vi wr=>(vi=.int .i64 0∧w1=wr)∨(vi=.int .i64 1∧Holds wr gld 167 (leadL q c a R cnt 1)∧Mv (fun k=>k=gld) w1 wr)) (fun vi _=>1 - (intOf vi).toNat)
 case atStart=>exact .inl ⟨rfl,rfl⟩
 case round=>
  rcases hrel with⟨rfl,rfl⟩|⟨rfl,hl,hm⟩
  ·have s0:=HS.out.cell 0
   simp only [List.cons_append,yA,yB] at s0
   have y31:=HL.out.cell 31
   simp only [leadL,yA,yB] at y31
   go_upto_region 4 with (first
    | (refine wpList_store_cell rfl 3 (.tmp 27) (.tmp 25) rfl rfl gld 31 167 _ HL.out (by simp [leadL]) rfl (.int .i64 1) rfl rfl (by kernel_rfl) rfl ?_;intro w7 hh7 ht7))
   have HL:=qh (show Holds w7 gld 167 (leadL q c a R cnt 1) from hh7)
   have HT:=qh (show Mv (fun k=>k=gld) w1 w7 from Mv.of_touch ht7 rfl)
   clear hh7 ht7 s0 y31
   have y31:=HL.out.cell 31
   simp only [leadL,yA,yB] at y31
   go_wp2_with fail
   go_roundw
   case rel=>exact .inr ⟨by simp,HL.out,HT.out⟩
   case measure=>simp [intOf]
  ·have HC:=qh (HC.out.mv hm (Ne.symm hd.1))
   have HLG:=qh (LogAt.mvL HLG.out hm (Ne.symm hd.2.1) (Ne.symm hd.2.2.1))
   have HG:=qh (HG.out.mv hm (Ne.symm hd.2.2.2.2.2))
   have HL:=qh hl
   have HM:=qh (HM.out.mv hm (fun k hk=>.inl hk))
   clear hl hm HS
   have d2:=HC.out.cell 2
   simp only [coreL,yA,yB] at d2
   go_wp2_with fail
   refine (KL.out _ HLG.out).mono ?_
   rintro e w2 ⟨v2,xs,rfl,ho,hx,hb2⟩
   have hxs:=hx _ List.mem_cons_self
   subst hxs
   obtain⟨ob2,ho2,_⟩:=OwnS.of ho
   obtain⟨gi2,ci,ri,rfl,_,hci1,hci2,hgi,_⟩:=ho2.blk (Nat.zero_lt_one)
   have HI:=qh hgi
   have HC:=qh (HC.out.bel hb2)
   have HLG:=qh (HLG.out.bel hb2)
   have HG:=qh (HG.out.bel hb2)
   have HL:=qh (HL.out.bel hb2)
   have HM:=qh (HM.out.bel hb2)
   clear ho hx hb2 ho2 hgi d2 KL
   go_wp2_with fail
   go_loopw [61] (fun vi wr2=>(vi=.int .i64 0∧w2=wr2)∨(vi=.int .i64 1∧Below w2.heap.size w2 wr2)) (fun vi _=>1 - (intOf vi).toNat)
   case atStart=>exact .inl ⟨rfl,rfl⟩
   case round=>
    rcases hrel with⟨rfl,rfl⟩|⟨rfl,hb⟩
    ·have s0:=HI.out.cell 0
     have s1:=HI.out.cell 1
     simp only [List.cons_append,yA,yB] at s0 s1
     have HB1:=qh (Base.start w2)
     go_upto_region 10 with (first
      | (refine wpList_store_whole rfl 37 (.tmp 5) (.tmp 64) w2.heap.size [.int .i64 0,.int .i64 0] [.int .i64 q,.int .i64 1] rfl rfl rfl rfl (holds_alloc w2 _ _) (by kernel_rfl) rfl (by simp [Value.oneCell']) ?_;intro w3 hh3 ht3))
     have hal:Below w2.heap.size w2 w3:=Below.trans ((Below.refl _ _).alloc (Nat.le_refl _) _) (ht3.below (Nat.le_refl _) (by simp))
     have HX:=qh hh3
     have HC:=qh (HC.out.bel hal)
     have HLG:=qh (HLG.out.bel hal)
     have HG:=qh (HG.out.bel hal)
     have HL:=qh (HL.out.bel hal)
     have HB1:=qh (HB1.out.bel hal)
     clear hal hh3 ht3 s0 s1
     generalize hgp:w2.heap.size=gp at HX HB1 ⊢
     refine' wp_region_boxes [⟨9,10,6,72,45,zero21,cellL 1 c true⟩] (by kernel_rfl) (by kernel_rfl) (by kernel_rfl) ?z11 ?z21 ?bd1 _ ?h1 ?val1 ?fin1
     case z11=>
      intro x hx
      simp only [List.mem_cons,List.not_mem_nil,or_false] at hx
      subst hx
      ·exact⟨.agg (zero21:List Value).toArray,by kernel_rfl,rfl⟩
     case z21=>
      intro x hx
      simp only [List.mem_cons,List.not_mem_nil,or_false] at hx
      subst hx
      ·exact⟨by kernel_rfl,rfl,cellL_one _ _ _⟩
     case bd1=>
      intro x hx
      simp only [List.mem_cons,List.not_mem_nil,or_false] at hx
      subst hx
      ·simp
     case h1=>
      intro W0 hW0
      have HC:=qh (HC.out.bel hW0)
      have HLG:=qh (HLG.out.bel hW0)
      have HG:=qh (HG.out.bel hW0)
      have HL:=qh (HL.out.bel hW0)
      have HX:=qh (HX.out.bel hW0)
      have HB1:=qh (HB1.out.bel hW0)
      have c0_2:=fun d os=>HC.out.grown d os 2
      simp only [coreL,yA,yB] at c0_2
      have c1_0:=fun d os=>HX.out.grown d os 0
      have c1_1:=fun d os=>HX.out.grown d os 1
      simp only [yA,yB] at c1_0 c1_1
      simp only [List.map_cons,List.map_nil,hushOp]
      repeat go_big_quiet_step (first
       | (go_at_call 82;with_reducible exact calls_regrown fun W2 h2=>KX.out W2 (HLG.out.bel h2)))
      refine wpQuiet_nil ?_
      intro w' _
      exact rfl
     case val1=>
      intro x hx
      simp only [List.mem_cons,List.not_mem_nil,or_false] at hx
      subst hx
      ·rfl
     intro β w4 hb hx hne
     have hx6:=hx _ List.mem_cons_self
     clear hx hne
     simp only [] at hx6
     simp only [patch,List.foldl,Act.put,List.setIfInBounds_toArray,List.set_cons_zero,List.set_cons_succ]
     have HC:=qh (HC.out.bel hb)
     have HLG:=qh (HLG.out.bel hb)
     have HG:=qh (HG.out.bel hb)
     have HL:=qh (HL.out.bel hb)
     have HX:=qh (HX.out.bel hb)
     have HB1:=qh (HB1.out.bel hb)
     generalize β 6=g6 at hx6 ⊢
     have H6:=qh hx6.2
     have hge6:=hx6.1
     clear hx6
     clear hb
     have y0:=H6.out.cell 0
     simp only [cellL,yA,yB] at y0
     have x0:=HX.out.cell 0
     have x1:=HX.out.cell 1
     simp only [yA,yB] at x0 x1
     clear HLG
     go_wp2_with fail
     refine (KF.out _ HC.out HG.out HL.out).mono ?_
     rintro e w5 ⟨rfl,hb5⟩
     have HB1:=qh (HB1.out.bel hb5)
     clear hb5 y0 x0 x1 HX H6 HC HG HL
     go_wp2_with fail
     go_roundw
     case rel=>exact .inr ⟨by simp,hgp▸HB1.out.below⟩
     case measure=>simp [intOf]
    ·have HC:=qh (HC.out.bel hb)
     have HL:=qh (HL.out.bel hb)
     have HM:=qh (HM.out.bel hb)
     clear hb HI HLG HG KX KF
     have d5:=HC.out.cell 5
     simp only [coreL,yA,yB] at d5
     go_wp2_with fail
     refine (KW.out _).mono ?_
     rintro e w6 ⟨rfl,hb6⟩
     have HL:=qh (HL.out.bel hb6)
     have HM:=qh (HM.out.bel hb6)
     clear hb6 d5 HC
     go_wp2_with fail
     go_loopw [93] (fun vi wr3=>vi=.int .i64 0∧w6=wr3) (fun _ _=>0)
     case atStart=>exact⟨rfl,rfl⟩
     case round=>
      obtain⟨rfl,rfl⟩:=hrel
      go_wp2_with fail
      exact bodyPost_end (v:=.tuple #[]) (by simp [results,Tryz.results52,go_sem]) rfl ⟨rfl,HL.out,HM.out⟩
end
section
open Go.RowKit Go.Maps
theorem node_out (w:World) (F:Foot) (g n me q:Nat) (c:Cm) (ph:Ph) (out:List Lt) (an:Bool) (tk:Nat) (h:NodeC w F g n me q c ph out an tk) :
  Calls Tryz.prog 54 #[.pointer (some ⟨g,0,none⟩)] w fun e w'=>∃ o a,e=.returned (.tuple #[o,a])∧LetS w' F o out.length (letV c q out)∧AnsIs w' F c a an∧NodeC w' F g n me q c ph [] false tk∧F g∧Mv (fun k=>k=g) w w':=by
 obtain⟨tt,htt,gd,gfl,gby,mb,gw,gc,gfr,kept,P,sq,v,d,since,waits,out0,ans,h⟩:=h
 have nd:=h.nd
 refine (nout g n me gd gw gc gfr P sq v d since tt waits out0 ans w nd).mono ?_
 rintro e w' ⟨rfl,hn,ht⟩
 have hm:Mv (fun k=>k=g) w w':=Mv.of_touch ht rfl
 exact⟨out0,ans,rfl,h.ou.touchG nd hm,h.an.touchG nd hm,⟨tt,htt,gd,gfl,gby,mb,gw,gc,gfr,kept,P,sq,v,d,since,waits,_,_,h.touchG hm hn (h.st.touchG nd hm) (h.wa.touchG nd hm) (LetS.nil0 _ _ _) rfl⟩,h.f.1,hm⟩
theorem limOf_le (ph:Ph):limOf ph≤2000:=by cases ph<;>simp [limOf]
def tickPh:Ph→Option Ph
 | .fresh=>some .fresh
 | .lead A 0=>some (.lead A 1)
 | _=>none
theorem node_tick (w:World) (F:Foot) (g n me q:Nat) (c:Cm) (ph ph':Ph) (tk:Nat) (h:NodeC w F g n me q c ph [] false tk) (hs:tickPh ph=some ph') (htk:tk<5) (hn3:3≤n) (hn:n≤7) (hq:q<n) (hme:me<n) (hc:CmOk c) (h1:c.c=1) (h2:c.s=1) :
  Calls Tryz.prog 30 #[.pointer (some ⟨g,0,none⟩)] w fun e w'=>e=.returned (.tuple #[])∧NodeC w' (grow F w w') g n me q c ph' [] false (tk+1)∧Mv F w w':=by
 obtain⟨tt,htt,gd,gfl,gby,mb,gw,gc,gfr,kept,P,sq,v,d,since,waits,out0,ans,h⟩:=h
 have nd:=h.nd
 have co:=h.co
 have hout:out0=.slice none 0 0:=h.ou.1 rfl
 subst hout
 have hans:ans=.slice none 0 0:=h.an
 subst hans
 have key:∀ (R1:World→Prop),(Calls Tryz.prog 52 #[.pointer (some ⟨gc,0,none⟩)] w fun e w'=>e=.returned (.tuple #[])∧R1 w') →
   (∀ W,R1 W→NodeI W (grow F w W) g n me q c ph' (.slice none 0 0) (.slice none 0 0) (isCom ph') (isLeadP ph') 0 (letV c q []) false tt (limOf ph') gd gfl gby mb gw gc gfr kept P sq v d since waits (.slice none 0 0) (.slice none 0 0)∧Mv F w W)→isCom ph'=false →
   Calls Tryz.prog 30 #[.pointer (some ⟨g,0,none⟩)] w fun e w'=>e=.returned (.tuple #[])∧NodeC w' (grow F w w') g n me q c ph' [] false (tk+1)∧Mv F w w':=by
  intro R1 K1 K2 hcm
  refine (ntick g n me gd gw gc gfr P sq v d since tt waits (.slice none 0 0) (.slice none 0 0) R1 (fun W2=>NodeG W2 (grow F w W2) g n me q c ph' (.slice none 0 0) (.slice none 0 0) (isCom ph') (isLeadP ph') 0 (letV c q []) false (tt+1) (limOf ph')∧Mv F w W2) (fun w'=>NodeG w' (grow F w w') g n me q c ph' (.slice none 0 0) (.slice none 0 0) (isCom ph') (isLeadP ph'&&!isCom ph') 0 (letV c q []) (isLeadP ph'&&isCom ph') (tt+1) (limOf ph'+500*0)∧Mv F w w') w nd (by omega) (by omega) K1 (fun W hW=>(K2 W hW).1.nd) (fun W W2 hW hn2 ht=>?_) (fun W hW=>?_)).mono ?_
  ·obtain⟨hI,hmv⟩:=K2 W hW
   have hm:Mv (fun k=>k=g) W W2:=Mv.of_touch ht rfl
   have hsz:=hm.size
   exact⟨⟨gd,gfl,gby,mb,gw,gc,gfr,kept,P,sq,v,d,since,waits,_,_,(hI.touchG hm hn2 (hI.st.touchG hI.nd hm) (hI.wa.touchG hI.nd hm) (LetS.nil0 _ _ _) (show AnsIs _ _ c (.slice none 0 0) false from rfl)).foot fun k hk _=>hk.imp id fun ⟨a,b⟩=>⟨a,Nat.lt_of_lt_of_le b hsz⟩⟩,hmv.mv hm fun k hk=>.inl (hk▸h.f.1)⟩
  ·exact settle_after w w W F g n me q c ph' _ _ (isCom ph') (isLeadP ph') (tt+1) (limOf ph') 0 0 _ _ (Nat.le_refl _) hW.2.size hW.2 hW.1 (.inl ⟨rfl,rfl⟩) (LetS.nil0 _ _ _) (by omega) (by omega) (letV_one c q _ 0) (limOf_le ph') (by rw [hcm];simp) (by omega) hme hc h1 h2
  ·rintro e w' ⟨rfl,hn',hm'⟩
   rw [hcm] at hn'
   exact⟨rfl,⟨tt+1,by omega,by simpa [hcm] using hn'⟩,hm'⟩
 cases ph with
 | fresh=>
  simp only [tickPh,Option.some.injEq] at hs
  subst hs
  obtain⟨⟨gl,gm,nl,gi,gx,ni,L,E,leads,a1,a2,a3,a4,rfl,rfl,rfl⟩,hfc⟩:=co
  refine key (fun W=>Below w.heap.size w W) ((tick_none gc n me gl gm nl gi _ _ w a1.hc a1.lg)) (fun W hb=>⟨(h.bel hb).foot fun k hk _=>.inl hk,Mv.of_below hb⟩) rfl
 | lead A t=>
  cases t with
  | succ t=>simp [tickPh] at hs
  | zero=>
   simp only [tickPh,Option.some.injEq] at hs
   subst hs
   obtain⟨⟨gl,gm,nl,gi,gx,ni,L,E,leads,a1,a2,a3,⟨b1,b2,b3,b4⟩,hqm,rfl,gb,cb,gld,rest,R,ob,rfl,d2,d3,d4,d5,d6,d7,d8⟩,hfc⟩:=co
   have hd:gld≠gc∧gld≠gl∧gld≠gm∧gld≠gi∧gld≠gx∧gld≠gb:=⟨d4.ne_of a1.hc (by decide),d4.ne_of a1.lg.ix (by decide),ownsMap_ne a1.lg.isMap d4,d4.ne_of a1.ix.ix (by decide),ownsMap_ne a1.ix.isMap d4,d4.ne_of d3 (by decide)⟩
   have hob:∀ k,ob=some k→k≠gld:=fun k hk=>by
    rcases d5.cases with⟨_,h0,_⟩|⟨g1,_,_,_,h0,_,_,hh,_⟩
    ·rw [h0] at hk;cases hk
    ·rw [h0] at hk
     cases hk
     exact hh.ne_of d4 (by decide)
   refine key (fun W=>Holds W gld 167 (leadL q c (ansOf A) R A.length 1)∧Mv (fun k=>k=gld) w W) (tick_lead gc n me gl gm nl gi gx ni gb gld cb q c E rest (ansOf A) R A.length w a1 d3 d4 d2 (by omega)) (fun W hW=>?_) rfl
   obtain⟨hl,hm⟩:=hW
   have hF:∀ k,F k→k<w.heap.size→grow F w W k:=fun k hk _=>.inl hk
   refine⟨(h.foot hF).coreG hm (fun k hk _=>.inl ⟨_,_,hk▸d4,by decide⟩) ⟨⟨gl,gm,nl,gi,gx,ni,_,E,_,a1.mv hm (Ne.symm hd.1) (Ne.symm hd.2.1) (Ne.symm hd.2.2.1) (Ne.symm hd.2.2.2.1) (Ne.symm hd.2.2.2.2.1),a2,a3,⟨.inl b1,.inl b2,.inl b3,.inl b4⟩,hqm,rfl,gb,cb,gld,rest,R,ob,rfl,d2,d3.mv hm (Ne.symm hd.2.2.2.2.2),hl,d5.mv hm hob,.inl d6,.inl d7,fun k hk=>.inl (d8 k hk)⟩,.inl hfc⟩,hm.more fun k hk=>hk▸d7⟩
 | pre=>simp [tickPh] at hs
 | com=>simp [tickPh] at hs
end
end Go.Proofs.YtimdpiifpibgfaaGreatDoor
