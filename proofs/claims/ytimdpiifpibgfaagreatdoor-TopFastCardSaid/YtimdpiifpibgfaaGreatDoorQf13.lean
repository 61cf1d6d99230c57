/- For every input the law TopFast returns true (a part of the proof). Condition: the listed variables start as the program's text lays them. -/
import Derived.Test.YtimdpiifpibgfaaGreatDoorQf12
set_option linter.unusedVariables false
set_option linter.unusedSimpArgs false
set_option maxRecDepth 20000
set_option maxHeartbeats 16000000
namespace Go.Proofs.YtimdpiifpibgfaaGreatDoor
section
open Go.RowKit
def letL (k f t q:Int) (x:Cm):List Value:=[.int .i64 k,.int .i64 f,.int .i64 t,.int .i64 q,.int .i64 1,.int .i64 0,.int .i64 0,.int .i64 x.k,.int .i64 x.c,.int .i64 x.s,.string x.a,.string x.b,.string x.o,.string x.v,.int .i64 0,.int .i64 0,.int .i64 0,.int .i64 0,.int .i64 0,.int .i64 0,.int .i64 0,.int .i64 0,.int .i64 0,.int .i64 0,.int .i64 0,.int .i64 0,.int .i64 0,.int .i64 0,.int .i64 0,.int .i64 0,.string ⟨#[]⟩,.string ⟨#[]⟩,.string ⟨#[]⟩,.string ⟨#[]⟩,.int .i64 0,.int .i64 0,.int .i64 0,.int .i64 0,.int .i64 0,.int .i64 0,.int .i64 0,.int .i64 0,.bool false,.int .i64 0,.int .i64 0,.int .i64 0,.int .i64 0,.int .i64 0,.int .i64 0,.int .i64 0,.string ⟨#[]⟩]
theorem letL_len (k f t q:Int) (x:Cm):(letL k f t q x).length=51:=rfl
theorem letL_one (k f t q:Int) (x:Cm):∀ u∈letL k f t q x,u.oneCell'=true:=by simp [letL,Value.oneCell']
theorem letL_one' (k f t q:Int) (x:Cm):(letL k f t q x).toArray.all (·.oneCell')=true:=by simp [letL,Value.oneCell']
def coreL (n me gl gi:Nat) (leads recs out:Value):List Value:=[.int .i64 n,.int .i64 me,.pointer (some ⟨gl,0,none⟩),.pointer (some ⟨gi,0,none⟩),leads,.slice none 0 0,recs,out]
def leadL (q:Int) (x:Cm) (a:Nat→Int) (R:Value) (cnt tk:Int):List Value:=[.int .i64 q,.int .i64 1,.int .i64 0,.int .i64 0,.int .i64 0,.bool true,.int .i64 x.k,.int .i64 x.c,.int .i64 x.s,.string x.a,.string x.b,.string x.o,.string x.v,.int .i64 0,.int .i64 0,.int .i64 0,.int .i64 0,.int .i64 0,.int .i64 0,.int .i64 0,.int .i64 0,.int .i64 (a 0),.int .i64 (a 1),.int .i64 (a 2),.int .i64 (a 3),.int .i64 (a 4),.int .i64 (a 5),.int .i64 (a 6),R,.slice none 0 0,.int .i64 cnt,.int .i64 tk]
theorem find_none (gc n me gl gi:Nat) (p:Option Addr) (c:Nat) (recs out:Value) (q s:Int) (w:World) (h:Holds w gc 163 (coreL n me gl gi (.slice p 0 c) recs out)) :
  Calls Tryz.prog 83 #[.pointer (some ⟨gc,0,none⟩),.agg #[.int .i64 q,.int .i64 s]] w fun e w'=>e=.returned (.pointer none)∧Below w.heap.size w w':=by
 have HC:=qh h;clear h
 go_enter Tryz.func83,Tryz.ntmps83
 go_upto_region 1 with (fail)
 go_name_world W hW
 have hW:allocs w [.cells ([.int .i64 q,.int .i64 s]:List Value).toArray 37]=W:=hW
 have HX:=qh (show Holds W (w.heap.size) 37 ([.int .i64 q,.int .i64 s]) from holds_allocs _ hW 0 rfl)
 have hbW:=below_allocs _ hW
 have hsW:=size_allocs _ hW
 simp only [List.length_cons,List.length_nil] at hsW
 clear hW
 have HB:=qh (Base.start w)
 have HC:=qh (HC.out.bel hbW)
 have HB:=qh (HB.out.bel hbW)
 clear hbW hsW HX
 generalize hB0:w.heap.size=B at HB ⊢
 have d4:=HC.out.cell 4
 simp only [coreL,yA,yB] at d4
 go_wp2_with fail
 go_loop [12] (fun vi=>vi=.int .i64 0) (fun _=>0)
 case atStart=>exact rfl
 case round=>
  obtain rfl:=hrel
  go_wp2_with fail
  go_ret
  exact⟨rfl,hB0▸HB.out.below⟩
theorem find_one (gc n me gl gi gb gld c:Nat) (rest:List Value) (recs out:Value) (q:Int) (x:Cm) (a:Nat→Int) (R:Value) (cnt tk:Int) (w:World) (h:Holds w gc 163 (coreL n me gl gi (.slice (some ⟨gb,0,none⟩) 1 c) recs out)) (hb:Holds w gb 158 (.pointer (some ⟨gld,0,none⟩) :: rest)) (hl:Holds w gld 167 (leadL q x a R cnt tk)) (hc:1≤c) :
  Calls Tryz.prog 83 #[.pointer (some ⟨gc,0,none⟩),.agg #[.int .i64 q,.int .i64 1]] w fun e w'=>e=.returned (.pointer (some ⟨gld,0,none⟩))∧Below w.heap.size w w':=by
 have HC:=qh h;have HG:=qh hb;have HL:=qh hl;clear h hb hl
 go_enter Tryz.func83,Tryz.ntmps83
 go_upto_region 1 with (fail)
 go_name_world W hW
 have hW:allocs w [.cells ([.int .i64 q,.int .i64 1]:List Value).toArray 37]=W:=hW
 have HX:=qh (show Holds W (w.heap.size) 37 ([.int .i64 q,.int .i64 1]) from holds_allocs _ hW 0 rfl)
 have hbW:=below_allocs _ hW
 have hsW:=size_allocs _ hW
 simp only [List.length_cons,List.length_nil] at hsW
 clear hW
 have HB:=qh (Base.start w)
 have HC:=qh (HC.out.bel hbW)
 have HB:=qh (HB.out.bel hbW)
 have HG:=qh (HG.out.bel hbW)
 have HL:=qh (HL.out.bel hbW)
 clear hbW hsW
 generalize hB0:w.heap.size=B at HB HX ⊢
 have d4:=HC.out.cell 4
 simp only [coreL,yA,yB] at d4
 go_wp2_with fail
 clear d4
 go_loopw [12] (fun vi wr=>vi=.int .i64 0∧wr=W) (fun _ _=>0)
 case atStart=>exact⟨rfl,rfl⟩
 case round=>
  obtain⟨rfl,rfl⟩:=hrel
  have g0:=HG.out.cell 0
  simp only [yA,yB] at g0
  have l0:=HL.out.cell 0
  have l1:=HL.out.cell 1
  simp only [leadL,yA,yB] at l0 l1
  have x0:=HX.out.cell 0
  have x1:=HX.out.cell 1
  simp only [yA,yB] at x0 x1
  go_wp2_with fail
  go_quiet (fail)
  go_wp2_with fail
  go_ret
  exact⟨rfl,hB0▸HB.out.below.trans (t_drewN _ _ _)⟩
theorem idxf_none (p:Option Addr) (c:Nat) (fv:Value) (w:World) :
  Calls Tryz.prog 285 #[.slice p 0 c,fv] w fun e w'=>e=.returned (.int .i64 (-1))∧Below w.heap.size w w':=by
 go_enter Tryz.func285,Tryz.ntmps285
 go_wp2_with fail
 go_loop [8] (fun vi=>vi=.int .i64 0) (fun _=>0)
 case atStart=>exact rfl
 case round=>
  obtain rfl:=hrel
  go_wp2_with fail
  go_ret
  exact⟨rfl,Below.refl _ _⟩
theorem del_none (p:Option Addr) (c:Nat) (fv:Value) (w:World) :
  Calls Tryz.prog 235 #[.slice p 0 c,fv] w fun e w'=>e=.returned (.slice p 0 c)∧Below w.heap.size w w':=by
 have K:=qh (idxf_none p c fv)
 go_enter Tryz.func235,Tryz.ntmps235
 go_wp2_with fail
 refine (K.out _).mono ?_
 rintro e w1 ⟨rfl,hb⟩
 have HB:=qh hb;clear hb
 go_wp2_with fail
 go_ret
 exact⟨rfl,HB.out⟩
theorem leave_none (gc n me gl gi:Nat) (p:Option Addr) (c:Nat) (recs out:Value) (q:Int) (w:World) (h:Holds w gc 163 (coreL n me gl gi (.slice p 0 c) recs out)) :
  Calls Tryz.prog 211 #[.pointer (some ⟨gc,0,none⟩),.agg #[.int .i64 q,.int .i64 1]] w fun e w'=>e=.returned (.tuple #[])∧Holds w' gc 163 (coreL n me gl gi (.slice p 0 c) recs out)∧Touch gc w w':=by
 have K:=qh (fun fv W=>del_none p c fv W)
 have HC:=qh h
 have HT:=qh (Touch.refl gc w)
 clear h
 go_enter Tryz.func211,Tryz.ntmps211
 go_upto_region 1 with (fail)
 go_name_world W hW
 have hW:allocs w [.cells ([.int .i64 q,.int .i64 1]:List Value).toArray 37]=W:=hW
 have HX:=qh (show Holds W (w.heap.size) 37 ([.int .i64 q,.int .i64 1]) from holds_allocs _ hW 0 rfl)
 have hbW:=below_allocs _ hW
 have hsW:=size_allocs _ hW
 simp only [List.length_cons,List.length_nil] at hsW
 clear hW
 have HC:=qh (HC.out.bel hbW)
 have HT:=qh (HT.out.bel hbW)
 clear hbW hsW HX
 have d4:=HC.out.cell 4
 simp only [coreL,yA,yB] at d4
 go_wp2_with fail
 refine (K.out _ _).mono ?_
 rintro e w1 ⟨rfl,hb⟩
 have HC:=qh (HC.out.bel hb)
 have HT:=qh (HT.out.bel hb)
 clear hb d4
 go_wp2_with (first
  | (refine wpList_store_cell rfl 156 (.tmp 12) (.tmp 10) rfl rfl gc 4 163 _ HC.out (by simp [coreL]) rfl (.slice p 0 c) rfl rfl (by kernel_rfl) rfl ?_;intro w7 hh7 ht7))
 have HC:=qh (show Holds w7 gc 163 (coreL n me gl gi (.slice p 0 c) recs out) from hh7)
 have HT:=qh (HT.out.trans ht7)
 clear hh7 ht7
 go_wp2_with fail
 exact bodyPost_end (v:=.tuple #[]) (by simp [results,Tryz.results211,go_sem]) rfl ⟨rfl,HC.out,HT.out⟩
theorem isLead (gx gld:Nat) (q:Int) (x:Cm) (a:Nat→Int) (R:Value) (cnt tk:Int) (w:World) (hx:Holds w gx 37 [.int .i64 q,.int .i64 1]) (hl:Holds w gld 167 (leadL q x a R cnt tk)) :
  Calls Tryz.prog 258 #[.pointer (some ⟨gld,0,none⟩),.pointer (some ⟨gx,0,none⟩)] w fun e w'=>e=.returned (.bool true)∧Below w.heap.size w w':=by
 have x0:=hx.cell 0
 have x1:=hx.cell 1
 simp only [yA,yB] at x0 x1
 have l0:=hl.cell 0
 have l1:=hl.cell 1
 simp only [leadL,yA,yB] at l0 l1
 clear hx hl
 go_enter Tryz.func258,Tryz.ntmps258
 go_wp2_with fail
 go_quiet (fail)
 go_wp2_with fail
 go_ret
 exact⟨rfl,t_drewN _ _ _⟩
theorem idxf_one (gb gx gld c:Nat) (rest:List Value) (q:Int) (x:Cm) (a:Nat→Int) (R:Value) (cnt tk:Int) (w:World) (hx:Holds w gx 37 [.int .i64 q,.int .i64 1]) (hl:Holds w gld 167 (leadL q x a R cnt tk)) (hb:Holds w gb 158 (.pointer (some ⟨gld,0,none⟩) :: rest)) (hc:1≤c) :
  Calls Tryz.prog 285 #[.slice (some ⟨gb,0,none⟩) 1 c,.func (Fn.func 258) #[] #[.pointer (some ⟨gx,0,none⟩)]] w fun e w'=>e=.returned (.int .i64 0)∧Below w.heap.size w w':=by
 have K:=qh (isLead gx gld q x a R cnt tk w hx hl)
 have HG:=qh hb
 clear hx hl hb
 go_enter Tryz.func285,Tryz.ntmps285
 go_wp2_with fail
 go_loopw [8] (fun vi wr=>vi=.int .i64 0∧wr=w) (fun _ _=>0)
 case atStart=>exact⟨rfl,rfl⟩
 case round=>
  obtain⟨rfl,rfl⟩:=hrel
  have g0:=HG.out.cell 0
  simp only [yA,yB] at g0
  go_wp2_with fail
  refine K.out.mono ?_
  rintro e w1 ⟨rfl,hb⟩
  have HB:=qh hb;clear hb g0
  go_wp2_with fail
  go_ret
  exact⟨rfl,HB.out⟩
theorem del_one (gb gx gld c:Nat) (rest:List Value) (q:Int) (x:Cm) (a:Nat→Int) (R:Value) (cnt tk:Int) (w:World) (hx:Holds w gx 37 [.int .i64 q,.int .i64 1]) (hl:Holds w gld 167 (leadL q x a R cnt tk)) (hb:Holds w gb 158 (.pointer (some ⟨gld,0,none⟩) :: rest)) (hc:1≤c) (hcm:c≤maxLen) :
  Calls Tryz.prog 235 #[.slice (some ⟨gb,0,none⟩) 1 c,.func (Fn.func 258) #[] #[.pointer (some ⟨gx,0,none⟩)]] w fun e w'=>e=.returned (.slice (some ⟨gb,0,none⟩) 0 c)∧Touch gb w w':=by
 have K:=qh (idxf_one gb gx gld c rest q x a R cnt tk w hx hl hb hc)
 have HG:=qh hb
 have HT:=qh (Touch.refl gb w)
 unfold maxLen at hcm
 clear hx hl hb
 go_enter Tryz.func235,Tryz.ntmps235
 go_wp2_with fail
 refine K.out.mono ?_
 rintro e w1 ⟨rfl,hb⟩
 have HG:=qh (HG.out.bel hb)
 have HT:=qh (HT.out.bel hb)
 clear hb K
 go_wp2_with fail
 go_loopw [5,6] (fun vi vj wr=>vi=.int .i64 0∧vj=.int .i64 1∧wr=w1) (fun _ _ _=>0)
 case atStart=>exact⟨rfl,rfl,rfl⟩
 case round=>
  obtain⟨rfl,rfl,rfl⟩:=hrel
  go_wp2_with (first
   | (refine wpList_clear_at rfl (.tmp 38) 156 rfl rfl 158 (.pointer none) Tryz.underlying156 (by kernel_rfl) gb 0 1 c (by decide) rfl _ 158 HG.out [.pointer none] (by kernel_rfl) (by simp) (by simp [Value.oneCell']) ?_;intro w5 hh5 ht5))
  have HT:=qh (HT.out.trans ht5)
  clear hh5 ht5
  go_wp2_with fail
  go_ret
  exact⟨rfl,HT.out⟩
theorem leave_one (gc n me gl gi gb gld c:Nat) (rest:List Value) (recs out:Value) (q:Int) (x:Cm) (a:Nat→Int) (R:Value) (cnt tk:Int) (w:World) (h:Holds w gc 163 (coreL n me gl gi (.slice (some ⟨gb,0,none⟩) 1 c) recs out)) (hb:Holds w gb 158 (.pointer (some ⟨gld,0,none⟩) :: rest)) (hl:Holds w gld 167 (leadL q x a R cnt tk)) (hc:1≤c) (hcm:c≤maxLen) (hne:gc≠gb) :
  Calls Tryz.prog 211 #[.pointer (some ⟨gc,0,none⟩),.agg #[.int .i64 q,.int .i64 1]] w fun e w'=>e=.returned (.tuple #[])∧Holds w' gc 163 (coreL n me gl gi (.slice (some ⟨gb,0,none⟩) 0 c) recs out)∧Mv (fun k=>k=gc∨k=gb) w w':=by
 have K:=qh (fun gx W hx hl hb=>del_one gb gx gld c rest q x a R cnt tk W hx hl hb hc hcm)
 have HC:=qh h;have HG:=qh hb;have HL:=qh hl
 have HM:=qh (Mv.refl (fun k=>k=gc∨k=gb) w)
 clear h hb hl
 go_enter Tryz.func211,Tryz.ntmps211
 go_upto_region 1 with (fail)
 go_name_world W hW
 have hW:allocs w [.cells ([.int .i64 q,.int .i64 1]:List Value).toArray 37]=W:=hW
 have HX:=qh (show Holds W (w.heap.size) 37 ([.int .i64 q,.int .i64 1]) from holds_allocs _ hW 0 rfl)
 have hbW:=below_allocs _ hW
 have hsW:=size_allocs _ hW
 simp only [List.length_cons,List.length_nil] at hsW
 clear hW
 have HC:=qh (HC.out.bel hbW)
 have HG:=qh (HG.out.bel hbW)
 have HL:=qh (HL.out.bel hbW)
 have HM:=qh (HM.out.bel hbW)
 clear hbW hsW
 have d4:=HC.out.cell 4
 simp only [coreL,yA,yB] at d4
 generalize w.heap.size=gx at HX ⊢
 go_wp2_with fail
 refine (K.out gx _ HX.out HL.out HG.out).mono ?_
 rintro e w1 ⟨rfl,ht⟩
 have HC:=qh (HC.out.touch ht hne)
 have HM:=qh (HM.out.touch ht (.inl (.inr rfl)))
 clear ht d4 HX HG HL
 go_wp2_with (first
  | (refine wpList_store_cell rfl 156 (.tmp 12) (.tmp 10) rfl rfl gc 4 163 _ HC.out (by simp [coreL]) rfl (.slice (some ⟨gb,0,none⟩) 0 c) rfl rfl (by kernel_rfl) rfl ?_;intro w7 hh7 ht7))
 have HC:=qh (show Holds w7 gc 163 (coreL n me gl gi (.slice (some ⟨gb,0,none⟩) 0 c) recs out) from hh7)
 have HM:=qh (HM.out.touch ht7 (.inl (.inl rfl)))
 clear hh7 ht7
 go_wp2_with fail
 exact bodyPost_end (v:=.tuple #[]) (by simp [results,Tryz.results211,go_sem]) rfl ⟨rfl,HC.out,HM.out⟩
end
end Go.Proofs.YtimdpiifpibgfaaGreatDoor
