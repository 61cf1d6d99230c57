/- For every input the law TopFast returns true (a part of the proof). Condition: the listed variables start as the program's text lays them. -/
import Derived.Test.YtimdpiifpibgfaaGreatDoorQf13
set_option linter.unusedVariables false
set_option linter.unusedSimpArgs false
set_option maxRecDepth 20000
set_option maxHeartbeats 16000000
namespace Go.Proofs.YtimdpiifpibgfaaGreatDoor
section
open Go.RowKit
theorem eqDeps_self (d:Nat) (a0 a1 a2 a3 a4 a5 a6:Int) (w:World):(Op.equalIn (d+2) 41 (.agg #[.int .i64 a0,.int .i64 a1,.int .i64 a2,.int .i64 a3,.int .i64 a4,.int .i64 a5,.int .i64 a6]) (.agg #[.int .i64 a0,.int .i64 a1,.int .i64 a2,.int .i64 a3,.int .i64 a4,.int .i64 a5,.int .i64 a6])).run Tryz.prog w=.ok true w:=by
 have u3:=Tryz.underlying3
 have g3:=Tryz.isAgg3
 have z3:=Tryz.sizeOf3
 rw [show d+2=(d+1)+1 from rfl,Op.equalIn]
 simp only [Sem.run_bind,run_underlying Tryz.underlying41,Result.andThen_ok]
 simp only [Std.Legacy.Range.forIn_eq_forIn_range',Std.Legacy.Range.size,Nat.sub_zero,Nat.add_sub_cancel,Nat.div_one,List.range'_succ,List.range'_zero,List.forIn_cons,List.forIn_nil]
 go_simp
theorem eqAttr_self (d:Nat) (m:At) (w:World):(Op.equalIn (d+3) 43 (.agg #[.int .i64 m.q,.int .i64 (m.d 0),.int .i64 (m.d 1),.int .i64 (m.d 2),.int .i64 (m.d 3),.int .i64 (m.d 4),.int .i64 (m.d 5),.int .i64 (m.d 6)]) (.agg #[.int .i64 m.q,.int .i64 (m.d 0),.int .i64 (m.d 1),.int .i64 (m.d 2),.int .i64 (m.d 3),.int .i64 (m.d 4),.int .i64 (m.d 5),.int .i64 (m.d 6)])).run Tryz.prog w=.ok true w:=by
 have hd:=fun w=>eqDeps_self d (m.d 0) (m.d 1) (m.d 2) (m.d 3) (m.d 4) (m.d 5) (m.d 6) w
 rw [show d+3=(d+2)+1 from rfl,run_equalIn_struct w (d+2) 43 _ _ (by kernel_rfl) (by kernel_rfl)]
 go_simp
theorem eqBal_self (d:Nat) (a b:Int) (w:World):(Op.equalIn (d+2) 39 (.agg #[.int .i64 a,.int .i64 b]) (.agg #[.int .i64 a,.int .i64 b])).run Tryz.prog w=.ok true w:=by
 rw [show d+2=(d+1)+1 from rfl,run_equalIn_struct w (d+1) 39 _ _ (by kernel_rfl) (by kernel_rfl)]
 go_simp
theorem eqCmd_self (d:Nat) (k c s:Int) (a b o v:ByteArray) (w:World):(Op.equalIn (d+2) 23 (.agg #[.int .i64 k,.int .i64 c,.int .i64 s,.string a,.string b,.string o,.string v]) (.agg #[.int .i64 k,.int .i64 c,.int .i64 s,.string a,.string b,.string o,.string v])).run Tryz.prog w=.ok true w:=by
 rw [show d+2=(d+1)+1 from rfl,run_equalIn_struct w (d+1) 23 _ _ (by kernel_rfl) (by kernel_rfl)]
 go_simp
theorem eqCell_self (d:Nat) (m:Sd) (w:World):(Op.equalIn (d+4) 45 (.agg #[.int .i64 m.st,.int .i64 m.pe,.int .i64 m.pr,.int .i64 m.ve,.int .i64 m.vr,.int .i64 m.x.k,.int .i64 m.x.c,.int .i64 m.x.s,.string m.x.a,.string m.x.b,.string m.x.o,.string m.x.v,.int .i64 m.a.q,.int .i64 (m.a.d 0),.int .i64 (m.a.d 1),.int .i64 (m.a.d 2),.int .i64 (m.a.d 3),.int .i64 (m.a.d 4),.int .i64 (m.a.d 5),.int .i64 (m.a.d 6),.bool m.same]) (.agg #[.int .i64 m.st,.int .i64 m.pe,.int .i64 m.pr,.int .i64 m.ve,.int .i64 m.vr,.int .i64 m.x.k,.int .i64 m.x.c,.int .i64 m.x.s,.string m.x.a,.string m.x.b,.string m.x.o,.string m.x.v,.int .i64 m.a.q,.int .i64 (m.a.d 0),.int .i64 (m.a.d 1),.int .i64 (m.a.d 2),.int .i64 (m.a.d 3),.int .i64 (m.a.d 4),.int .i64 (m.a.d 5),.int .i64 (m.a.d 6),.bool m.same])).run Tryz.prog w=.ok true w:=by
 have h1:∀ w,(Op.equalIn (d+3) 39 (.agg #[.int .i64 m.pe,.int .i64 m.pr]) (.agg #[.int .i64 m.pe,.int .i64 m.pr])).run Tryz.prog w=.ok true w:=fun w=>eqBal_self (d+1) m.pe m.pr w
 have h2:∀ w,(Op.equalIn (d+3) 39 (.agg #[.int .i64 m.ve,.int .i64 m.vr]) (.agg #[.int .i64 m.ve,.int .i64 m.vr])).run Tryz.prog w=.ok true w:=fun w=>eqBal_self (d+1) m.ve m.vr w
 have h3:∀ w,(Op.equalIn (d+3) 23 (.agg #[.int .i64 m.x.k,.int .i64 m.x.c,.int .i64 m.x.s,.string m.x.a,.string m.x.b,.string m.x.o,.string m.x.v]) (.agg #[.int .i64 m.x.k,.int .i64 m.x.c,.int .i64 m.x.s,.string m.x.a,.string m.x.b,.string m.x.o,.string m.x.v])).run Tryz.prog w=.ok true w:=fun w=>eqCmd_self (d+1) m.x.k m.x.c m.x.s m.x.a m.x.b m.x.o m.x.v w
 have h4:∀ w,(Op.equalIn (d+3) 43 (.agg #[.int .i64 m.a.q,.int .i64 (m.a.d 0),.int .i64 (m.a.d 1),.int .i64 (m.a.d 2),.int .i64 (m.a.d 3),.int .i64 (m.a.d 4),.int .i64 (m.a.d 5),.int .i64 (m.a.d 6)]) (.agg #[.int .i64 m.a.q,.int .i64 (m.a.d 0),.int .i64 (m.a.d 1),.int .i64 (m.a.d 2),.int .i64 (m.a.d 3),.int .i64 (m.a.d 4),.int .i64 (m.a.d 5),.int .i64 (m.a.d 6)])).run Tryz.prog w=.ok true w:=fun w=>eqAttr_self d m.a w
 rw [show d+4=(d+3)+1 from rfl,run_equalIn_struct w (d+3) 45 _ _ (by kernel_rfl) (by kernel_rfl)]
 go_simp
theorem eqInst_self (d:Nat) (a b:Int) (w:World):(Op.equalIn (d+2) 37 (.agg #[.int .i64 a,.int .i64 b]) (.agg #[.int .i64 a,.int .i64 b])).run Tryz.prog w=.ok true w:=by
 rw [show d+2=(d+1)+1 from rfl,run_equalIn_struct w (d+1) 37 _ _ (by kernel_rfl) (by kernel_rfl)]
 go_simp
theorem eqLet_self (d:Nat) (k f t q:Int) (x:Cm) (w:World):(Op.equalIn (d+5) 47 (.agg (letL k f t q x).toArray) (.agg (letL k f t q x).toArray)).run Tryz.prog w=.ok true w:=by
 unfold letL
 have h1:∀ w,(Op.equalIn (d+4) 37 (.agg #[.int .i64 q,.int .i64 1]) (.agg #[.int .i64 q,.int .i64 1])).run Tryz.prog w=.ok true w:=fun w=>eqInst_self (d+2) q 1 w
 have h2:∀ w,(Op.equalIn (d+4) 39 (.agg #[.int .i64 0,.int .i64 0]) (.agg #[.int .i64 0,.int .i64 0])).run Tryz.prog w=.ok true w:=fun w=>eqBal_self (d+2) 0 0 w
 have h3:∀ w,(Op.equalIn (d+4) 23 (.agg #[.int .i64 x.k,.int .i64 x.c,.int .i64 x.s,.string x.a,.string x.b,.string x.o,.string x.v]) (.agg #[.int .i64 x.k,.int .i64 x.c,.int .i64 x.s,.string x.a,.string x.b,.string x.o,.string x.v])).run Tryz.prog w=.ok true w:=fun w=>eqCmd_self (d+2) x.k x.c x.s x.a x.b x.o x.v w
 have h4:∀ w,(Op.equalIn (d+4) 43 (.agg #[.int .i64 0,.int .i64 0,.int .i64 0,.int .i64 0,.int .i64 0,.int .i64 0,.int .i64 0,.int .i64 0]) (.agg #[.int .i64 0,.int .i64 0,.int .i64 0,.int .i64 0,.int .i64 0,.int .i64 0,.int .i64 0,.int .i64 0])).run Tryz.prog w=.ok true w:=fun w=>eqAttr_self (d+1) (At.of 0) w
 have h5:∀ w,(Op.equalIn (d+4) 45 (.agg #[.int .i64 0,.int .i64 0,.int .i64 0,.int .i64 0,.int .i64 0,.int .i64 0,.int .i64 0,.int .i64 0,.string ⟨#[]⟩,.string ⟨#[]⟩,.string ⟨#[]⟩,.string ⟨#[]⟩,.int .i64 0,.int .i64 0,.int .i64 0,.int .i64 0,.int .i64 0,.int .i64 0,.int .i64 0,.int .i64 0,.bool false]) (.agg #[.int .i64 0,.int .i64 0,.int .i64 0,.int .i64 0,.int .i64 0,.int .i64 0,.int .i64 0,.int .i64 0,.string ⟨#[]⟩,.string ⟨#[]⟩,.string ⟨#[]⟩,.string ⟨#[]⟩,.int .i64 0,.int .i64 0,.int .i64 0,.int .i64 0,.int .i64 0,.int .i64 0,.int .i64 0,.int .i64 0,.bool false])).run Tryz.prog w=.ok true w:=fun w=>eqCell_self d ⟨0,0,0,0,0,0,Cm.zero,At.of 0,false⟩ w
 have h6:∀ w,(Op.equalIn (d+4) 41 (.agg #[.int .i64 0,.int .i64 0,.int .i64 0,.int .i64 0,.int .i64 0,.int .i64 0,.int .i64 0]) (.agg #[.int .i64 0,.int .i64 0,.int .i64 0,.int .i64 0,.int .i64 0,.int .i64 0,.int .i64 0])).run Tryz.prog w=.ok true w:=fun w=>eqDeps_self (d+2) 0 0 0 0 0 0 0 w
 rw [show d+5=(d+4)+1 from rfl,run_equalIn_struct w (d+4) 47 _ _ (by kernel_rfl) (by kernel_rfl)]
 go_simp
theorem neqLet_self (k f t q:Int) (x:Cm) (w:World):(binOp .neq 47 (.agg (letL k f t q x).toArray) (.agg (letL k f t q x).toArray)).run Tryz.prog w=.ok (.bool false) w:=by
 rw [run_neq_struct,show (10000:Nat)=9995+5 from rfl,eqLet_self]
 rfl
theorem eqlAttr_zero (w:World):(binOp .eql 43 (.agg #[.int .i64 0,.int .i64 0,.int .i64 0,.int .i64 0,.int .i64 0,.int .i64 0,.int .i64 0,.int .i64 0]) (.agg #[.int .i64 0,.int .i64 0,.int .i64 0,.int .i64 0,.int .i64 0,.int .i64 0,.int .i64 0,.int .i64 0])).run Tryz.prog w=.ok (.bool true) w:=by
 have:=eqAttr_self 9997 (At.of 0) w
 rw [run_eql_struct]
 exact (congrArg (fun r=>r.andThen fun b w=>Result.ok (Value.bool b) w) this)
end
section
open Go.RowKit
def replyL (ver:Int):List Value:=[.int .i64 0,.bool false,.string ⟨#[]⟩,.int .i64 ver,.slice none 0 0]
def ownL (q v:Int):List Value:=[.int .i64 q,.int .i64 0,.bool false,.string ⟨#[]⟩,.int .i64 v,.slice none 0 0,.int .i64 0,.int .i64 0,.bool false,.string ⟨#[]⟩,.int .i64 0,.slice none 0 0,.int .i64 0,.int .i64 0,.bool false,.string ⟨#[]⟩,.int .i64 0,.slice none 0 0,.int .i64 0,.int .i64 0,.bool false,.string ⟨#[]⟩,.int .i64 0,.slice none 0 0,.int .i64 0,.int .i64 0,.bool false,.string ⟨#[]⟩,.int .i64 0,.slice none 0 0,.int .i64 0,.int .i64 0,.bool false,.string ⟨#[]⟩,.int .i64 0,.slice none 0 0,.int .i64 0,.int .i64 0,.bool false,.string ⟨#[]⟩,.int .i64 0,.slice none 0 0,.int .i64 0,.int .i64 0,.bool false,.string ⟨#[]⟩,.int .i64 0,.slice none 0 0]
theorem own_one (q v:Int):(ownL q v).toArray.all (·.oneCell')=true:=by simp [ownL,Value.oneCell']
theorem dknown0 (w:World):Calls Tryz.prog 178 #[.int .i64 0] w fun e w'=>e=.returned (.bool false)∧Below w.heap.size w w':=by
 go_enter Tryz.func178,Tryz.ntmps178
 go_wp2_with fail
 go_ret
 exact⟨rfl,Below.refl _ _⟩
theorem dknown1 (w:World):Calls Tryz.prog 178 #[.int .i64 1] w fun e w'=>e=.returned (.bool true)∧Below w.heap.size w w':=by
 go_enter Tryz.func178,Tryz.ntmps178
 go_wp2_with fail
 go_ret
 exact⟨rfl,Below.refl _ _⟩
theorem clonePair_nil (w:World):Calls Tryz.prog 36 #[.slice none 0 0] w fun e w'=>e=.returned (.slice none 0 0)∧Below w.heap.size w w':=by
 have he:∀ W:World,(binOp .eql 51 (.slice none 0 0) (.slice none 0 0)).run Tryz.prog W=.ok (.bool true) W:=fun _=>by kernel_rfl
 go_enter Tryz.func36,Tryz.ntmps36
 go_wp2_with fail
 go_ret
 exact⟨rfl,Below.refl _ _⟩
theorem copied_reply (v:Int) (w:World) :
  Calls Tryz.prog 179 #[.agg (replyL v).toArray] w fun e w'=>e=.returned (.agg (replyL v).toArray)∧Below w.heap.size w w':=by
 have KC:=qh clonePair_nil
 go_enter Tryz.func179,Tryz.ntmps179
 go_upto_region 1 with (fail)
 go_name_world W hW
 have hW:allocs w [.cells (replyL v:List Value).toArray 53,.cells (replyL 0:List Value).toArray 53]=W:=hW
 have HR:=qh (show Holds W (w.heap.size) 53 (replyL v) from holds_allocs _ hW 0 rfl)
 have HZ:=qh (show Holds W (w.heap.size+1) 53 (replyL 0) from holds_allocs _ hW 1 rfl)
 have hbW:=below_allocs _ hW
 have hsW:=size_allocs _ hW
 simp only [List.length_cons,List.length_nil] at hsW
 clear hW
 have HB:=qh (Base.start w)
 have HB:=qh (HB.out.bel hbW)
 clear hbW hsW
 have hne:w.heap.size≠w.heap.size+1:=by omega
 generalize hz0:w.heap.size+1=gz at HZ hne ⊢
 have hzb:w.heap.size≤gz:=by omega
 generalize hB0:w.heap.size=B at HR HB hne hzb ⊢
 have r4:=HR.out.cell 4
 simp only [replyL,yA,yB] at r4
 go_wp2_with fail
 refine (KC.out _).mono ?_
 rintro e w1 ⟨rfl,hb⟩
 have HR:=qh (HR.out.bel hb)
 have HZ:=qh (HZ.out.bel hb)
 have HB:=qh (HB.out.bel hb)
 clear hb r4
 go_wp2_with (first
  | (refine wpList_store_cell rfl 51 (.tmp 6) (.tmp 5) rfl rfl B 4 53 _ HR.out (by simp [replyL]) rfl (.slice none 0 0) rfl rfl (by kernel_rfl) rfl ?_;intro w2 hh2 ht2;have HR2:=qh (show Holds w2 B 53 (replyL v) from hh2);have HRG:=qh HR2.out.range0)
  | (refine wpList_load_mid rfl 53 _ rfl B 0 rfl (replyL v) _ HRG.out Tryz.underlying53 rfl (by kernel_rfl) ?_)
  | (refine wpList_store_whole rfl 53 (.tmp 2) (.tmp 7) gz (replyL 0) (replyL v) rfl rfl rfl rfl (HZ.out.touch ht2 (Ne.symm hne)) (by kernel_rfl) rfl (by simp [replyL,Value.oneCell']) ?_;intro w5 hh5 ht5))
 have HB:=qh ((HB.out.touch ht2 (Nat.le_refl _)).touch ht5 hzb)
 have HRR:=qh hh5.range0
 clear hh5 ht5 HRG hh2 ht2
 refine bodyPost_ret (v:=.agg (replyL v).toArray) (results_cell Tryz.results179 _ _ gz _ _ rfl HRR.out Tryz.underlying53 rfl (by kernel_rfl)) rfl ?_
 exact⟨rfl,hB0▸HB.out.below⟩
theorem note0 (q v:Int) (w:World) :
  Calls Tryz.prog 96 #[.agg (ownL q v).toArray,.int .i64 0,.int .i64 0,.agg (replyL 0).toArray] w fun e w'=>e=.returned (.agg (ownL q v).toArray)∧Below w.heap.size w w':=by
 have KK:=qh (fun W=>dknown0 W)
 have KC:=qh (fun v W=>copied_reply v W)
 go_enter Tryz.func96,Tryz.ntmps96
 go_upto_region 1 with (fail)
 go_name_world W hW
 have hW:allocs w [.cells (ownL q v:List Value).toArray 64,.cells (replyL 0:List Value).toArray 53,.cells (ownL 0 0:List Value).toArray 64]=W:=hW
 have HO:=qh (show Holds W (w.heap.size) 64 (ownL q v) from holds_allocs _ hW 0 rfl)
 have HR:=qh (show Holds W (w.heap.size+1) 53 (replyL 0) from holds_allocs _ hW 1 rfl)
 have HZ:=qh (show Holds W (w.heap.size+1+1) 64 (ownL 0 0) from holds_allocs _ hW 2 rfl)
 have hbW:=below_allocs _ hW
 have hsW:=size_allocs _ hW
 simp only [List.length_cons,List.length_nil] at hsW
 clear hW
 have HB:=qh (Base.start w)
 have HB:=qh (HB.out.bel hbW)
 clear hbW hsW
 have hne:w.heap.size≠w.heap.size+1+1:=by omega
 generalize hz0:w.heap.size+1+1=gz at HZ hne ⊢
 have hzb:w.heap.size≤gz:=by omega
 generalize hr0:w.heap.size+1=gr at HR ⊢
 have hrb:w.heap.size≠gr:=by omega
 generalize hB0:w.heap.size=B at HO HB hne hzb hrb ⊢
 go_wp2_with fail
 refine (KK.out _).mono ?_
 rintro e w1 ⟨rfl,hb⟩
 have HO:=qh (HO.out.bel hb)
 have HR:=qh (HR.out.bel hb)
 have HZ:=qh (HZ.out.bel hb)
 have HB:=qh (HB.out.bel hb)
 clear hb
 go_wp2_with fail
 go_loopw [18] (fun vi wr=>∃ i:Nat,vi=.int .i64 (i:Int)∧i≤8∧Holds wr B 64 (ownL q v)∧Holds wr gz 64 (ownL 0 0)∧Base B w wr) (fun vi _=>8 - (intOf vi).toNat)
 case atStart=>exact⟨0,rfl,by omega,HO.out,HZ.out,HB.out⟩
 case round=>
  clear HO HZ HB
  obtain⟨i,rfl,hi,ho,hz,hb⟩:=hrel
  have HO:=qh ho;have HZ:=qh hz;have HB:=qh hb
  clear ho hz hb
  rcases (show i=0∨i=1∨i=2∨i=3∨i=4∨i=5∨i=6∨i=7∨i=8 by omega) with rfl|rfl|rfl|rfl|rfl|rfl|rfl|rfl|rfl
  ·have HRG:=qh (HO.out.rangeO 1 (cs:=replyL v) (fun j v hv=>by
    rcases (show j=0∨j=1∨j=2∨j=3∨j=4∨5≤j by omega) with rfl|rfl|rfl|rfl|rfl|h5
    ·exact hv
    ·exact hv
    ·exact hv
    ·exact hv
    ·exact hv
    ·rw [List.getElem?_eq_none (by simp [replyL];omega)] at hv;cases hv))
   go_wp2_with (first
    | (refine wpList_load_mid rfl 53 _ rfl B 1 rfl (replyL v) _ HRG.out Tryz.underlying53 rfl (by kernel_rfl) ?_))
   refine (KC.out _ _).mono ?_
   rintro e w3 ⟨rfl,hb⟩
   have HO:=qh (HO.out.bel hb)
   have HZ:=qh (HZ.out.bel hb)
   have HB:=qh (HB.out.bel hb)
   clear hb HRG
   go_wp2_with (first
    | (refine wpList_store_spl rfl 53 (.tmp 28) (.tmp 26) rfl rfl B 1 _ 64 HO.out rfl (replyL v) rfl (by kernel_rfl) (by simp [ownL,replyL]) (by simp [replyL,Value.oneCell']) ?_;intro w4 hh4 ht4))
   have HO:=qh (show Holds w4 B 64 (ownL q v) from hh4)
   have HZ:=qh (HZ.out.touch ht4 (Ne.symm hne))
   have HB:=qh (HB.out.touch ht4 (Nat.le_refl _))
   clear hh4 ht4
   go_roundw
   case rel=>exact⟨1,rfl,by omega,HO.out,HZ.out,HB.out⟩
   case measure=>simp [intOf]
  ·have HRG:=qh (HO.out.rangeO 7 (cs:=replyL 0) (fun j v hv=>by
    rcases (show j=0∨j=1∨j=2∨j=3∨j=4∨5≤j by omega) with rfl|rfl|rfl|rfl|rfl|h5
    ·exact hv
    ·exact hv
    ·exact hv
    ·exact hv
    ·exact hv
    ·rw [List.getElem?_eq_none (by simp [replyL];omega)] at hv;cases hv))
   go_wp2_with (first
    | (refine wpList_load_mid rfl 53 _ rfl B 7 rfl (replyL 0) _ HRG.out Tryz.underlying53 rfl (by kernel_rfl) ?_))
   refine (KC.out _ _).mono ?_
   rintro e w3 ⟨rfl,hb⟩
   have HO:=qh (HO.out.bel hb)
   have HZ:=qh (HZ.out.bel hb)
   have HB:=qh (HB.out.bel hb)
   clear hb HRG
   go_wp2_with (first
    | (refine wpList_store_spl rfl 53 (.tmp 28) (.tmp 26) rfl rfl B 7 _ 64 HO.out rfl (replyL 0) rfl (by kernel_rfl) (by simp [ownL,replyL]) (by simp [replyL,Value.oneCell']) ?_;intro w4 hh4 ht4))
   have HO:=qh (show Holds w4 B 64 (ownL q v) from hh4)
   have HZ:=qh (HZ.out.touch ht4 (Ne.symm hne))
   have HB:=qh (HB.out.touch ht4 (Nat.le_refl _))
   clear hh4 ht4
   go_roundw
   case rel=>exact⟨2,rfl,by omega,HO.out,HZ.out,HB.out⟩
   case measure=>simp [intOf]
  ·have HRG:=qh (HO.out.rangeO 13 (cs:=replyL 0) (fun j v hv=>by
    rcases (show j=0∨j=1∨j=2∨j=3∨j=4∨5≤j by omega) with rfl|rfl|rfl|rfl|rfl|h5
    ·exact hv
    ·exact hv
    ·exact hv
    ·exact hv
    ·exact hv
    ·rw [List.getElem?_eq_none (by simp [replyL];omega)] at hv;cases hv))
   go_wp2_with (first
    | (refine wpList_load_mid rfl 53 _ rfl B 13 rfl (replyL 0) _ HRG.out Tryz.underlying53 rfl (by kernel_rfl) ?_))
   refine (KC.out _ _).mono ?_
   rintro e w3 ⟨rfl,hb⟩
   have HO:=qh (HO.out.bel hb)
   have HZ:=qh (HZ.out.bel hb)
   have HB:=qh (HB.out.bel hb)
   clear hb HRG
   go_wp2_with (first
    | (refine wpList_store_spl rfl 53 (.tmp 28) (.tmp 26) rfl rfl B 13 _ 64 HO.out rfl (replyL 0) rfl (by kernel_rfl) (by simp [ownL,replyL]) (by simp [replyL,Value.oneCell']) ?_;intro w4 hh4 ht4))
   have HO:=qh (show Holds w4 B 64 (ownL q v) from hh4)
   have HZ:=qh (HZ.out.touch ht4 (Ne.symm hne))
   have HB:=qh (HB.out.touch ht4 (Nat.le_refl _))
   clear hh4 ht4
   go_roundw
   case rel=>exact⟨3,rfl,by omega,HO.out,HZ.out,HB.out⟩
   case measure=>simp [intOf]
  ·have HRG:=qh (HO.out.rangeO 19 (cs:=replyL 0) (fun j v hv=>by
    rcases (show j=0∨j=1∨j=2∨j=3∨j=4∨5≤j by omega) with rfl|rfl|rfl|rfl|rfl|h5
    ·exact hv
    ·exact hv
    ·exact hv
    ·exact hv
    ·exact hv
    ·rw [List.getElem?_eq_none (by simp [replyL];omega)] at hv;cases hv))
   go_wp2_with (first
    | (refine wpList_load_mid rfl 53 _ rfl B 19 rfl (replyL 0) _ HRG.out Tryz.underlying53 rfl (by kernel_rfl) ?_))
   refine (KC.out _ _).mono ?_
   rintro e w3 ⟨rfl,hb⟩
   have HO:=qh (HO.out.bel hb)
   have HZ:=qh (HZ.out.bel hb)
   have HB:=qh (HB.out.bel hb)
   clear hb HRG
   go_wp2_with (first
    | (refine wpList_store_spl rfl 53 (.tmp 28) (.tmp 26) rfl rfl B 19 _ 64 HO.out rfl (replyL 0) rfl (by kernel_rfl) (by simp [ownL,replyL]) (by simp [replyL,Value.oneCell']) ?_;intro w4 hh4 ht4))
   have HO:=qh (show Holds w4 B 64 (ownL q v) from hh4)
   have HZ:=qh (HZ.out.touch ht4 (Ne.symm hne))
   have HB:=qh (HB.out.touch ht4 (Nat.le_refl _))
   clear hh4 ht4
   go_roundw
   case rel=>exact⟨4,rfl,by omega,HO.out,HZ.out,HB.out⟩
   case measure=>simp [intOf]
  ·have HRG:=qh (HO.out.rangeO 25 (cs:=replyL 0) (fun j v hv=>by
    rcases (show j=0∨j=1∨j=2∨j=3∨j=4∨5≤j by omega) with rfl|rfl|rfl|rfl|rfl|h5
    ·exact hv
    ·exact hv
    ·exact hv
    ·exact hv
    ·exact hv
    ·rw [List.getElem?_eq_none (by simp [replyL];omega)] at hv;cases hv))
   go_wp2_with (first
    | (refine wpList_load_mid rfl 53 _ rfl B 25 rfl (replyL 0) _ HRG.out Tryz.underlying53 rfl (by kernel_rfl) ?_))
   refine (KC.out _ _).mono ?_
   rintro e w3 ⟨rfl,hb⟩
   have HO:=qh (HO.out.bel hb)
   have HZ:=qh (HZ.out.bel hb)
   have HB:=qh (HB.out.bel hb)
   clear hb HRG
   go_wp2_with (first
    | (refine wpList_store_spl rfl 53 (.tmp 28) (.tmp 26) rfl rfl B 25 _ 64 HO.out rfl (replyL 0) rfl (by kernel_rfl) (by simp [ownL,replyL]) (by simp [replyL,Value.oneCell']) ?_;intro w4 hh4 ht4))
   have HO:=qh (show Holds w4 B 64 (ownL q v) from hh4)
   have HZ:=qh (HZ.out.touch ht4 (Ne.symm hne))
   have HB:=qh (HB.out.touch ht4 (Nat.le_refl _))
   clear hh4 ht4
   go_roundw
   case rel=>exact⟨5,rfl,by omega,HO.out,HZ.out,HB.out⟩
   case measure=>simp [intOf]
  ·have HRG:=qh (HO.out.rangeO 31 (cs:=replyL 0) (fun j v hv=>by
    rcases (show j=0∨j=1∨j=2∨j=3∨j=4∨5≤j by omega) with rfl|rfl|rfl|rfl|rfl|h5
    ·exact hv
    ·exact hv
    ·exact hv
    ·exact hv
    ·exact hv
    ·rw [List.getElem?_eq_none (by simp [replyL];omega)] at hv;cases hv))
   go_wp2_with (first
    | (refine wpList_load_mid rfl 53 _ rfl B 31 rfl (replyL 0) _ HRG.out Tryz.underlying53 rfl (by kernel_rfl) ?_))
   refine (KC.out _ _).mono ?_
   rintro e w3 ⟨rfl,hb⟩
   have HO:=qh (HO.out.bel hb)
   have HZ:=qh (HZ.out.bel hb)
   have HB:=qh (HB.out.bel hb)
   clear hb HRG
   go_wp2_with (first
    | (refine wpList_store_spl rfl 53 (.tmp 28) (.tmp 26) rfl rfl B 31 _ 64 HO.out rfl (replyL 0) rfl (by kernel_rfl) (by simp [ownL,replyL]) (by simp [replyL,Value.oneCell']) ?_;intro w4 hh4 ht4))
   have HO:=qh (show Holds w4 B 64 (ownL q v) from hh4)
   have HZ:=qh (HZ.out.touch ht4 (Ne.symm hne))
   have HB:=qh (HB.out.touch ht4 (Nat.le_refl _))
   clear hh4 ht4
   go_roundw
   case rel=>exact⟨6,rfl,by omega,HO.out,HZ.out,HB.out⟩
   case measure=>simp [intOf]
  ·have HRG:=qh (HO.out.rangeO 37 (cs:=replyL 0) (fun j v hv=>by
    rcases (show j=0∨j=1∨j=2∨j=3∨j=4∨5≤j by omega) with rfl|rfl|rfl|rfl|rfl|h5
    ·exact hv
    ·exact hv
    ·exact hv
    ·exact hv
    ·exact hv
    ·rw [List.getElem?_eq_none (by simp [replyL];omega)] at hv;cases hv))
   go_wp2_with (first
    | (refine wpList_load_mid rfl 53 _ rfl B 37 rfl (replyL 0) _ HRG.out Tryz.underlying53 rfl (by kernel_rfl) ?_))
   refine (KC.out _ _).mono ?_
   rintro e w3 ⟨rfl,hb⟩
   have HO:=qh (HO.out.bel hb)
   have HZ:=qh (HZ.out.bel hb)
   have HB:=qh (HB.out.bel hb)
   clear hb HRG
   go_wp2_with (first
    | (refine wpList_store_spl rfl 53 (.tmp 28) (.tmp 26) rfl rfl B 37 _ 64 HO.out rfl (replyL 0) rfl (by kernel_rfl) (by simp [ownL,replyL]) (by simp [replyL,Value.oneCell']) ?_;intro w4 hh4 ht4))
   have HO:=qh (show Holds w4 B 64 (ownL q v) from hh4)
   have HZ:=qh (HZ.out.touch ht4 (Ne.symm hne))
   have HB:=qh (HB.out.touch ht4 (Nat.le_refl _))
   clear hh4 ht4
   go_roundw
   case rel=>exact⟨7,rfl,by omega,HO.out,HZ.out,HB.out⟩
   case measure=>simp [intOf]
  ·have HRG:=qh (HO.out.rangeO 43 (cs:=replyL 0) (fun j v hv=>by
    rcases (show j=0∨j=1∨j=2∨j=3∨j=4∨5≤j by omega) with rfl|rfl|rfl|rfl|rfl|h5
    ·exact hv
    ·exact hv
    ·exact hv
    ·exact hv
    ·exact hv
    ·rw [List.getElem?_eq_none (by simp [replyL];omega)] at hv;cases hv))
   go_wp2_with (first
    | (refine wpList_load_mid rfl 53 _ rfl B 43 rfl (replyL 0) _ HRG.out Tryz.underlying53 rfl (by kernel_rfl) ?_))
   refine (KC.out _ _).mono ?_
   rintro e w3 ⟨rfl,hb⟩
   have HO:=qh (HO.out.bel hb)
   have HZ:=qh (HZ.out.bel hb)
   have HB:=qh (HB.out.bel hb)
   clear hb HRG
   go_wp2_with (first
    | (refine wpList_store_spl rfl 53 (.tmp 28) (.tmp 26) rfl rfl B 43 _ 64 HO.out rfl (replyL 0) rfl (by kernel_rfl) (by simp [ownL,replyL]) (by simp [replyL,Value.oneCell']) ?_;intro w4 hh4 ht4))
   have HO:=qh (show Holds w4 B 64 (ownL q v) from hh4)
   have HZ:=qh (HZ.out.touch ht4 (Ne.symm hne))
   have HB:=qh (HB.out.touch ht4 (Nat.le_refl _))
   clear hh4 ht4
   go_roundw
   case rel=>exact⟨8,rfl,by omega,HO.out,HZ.out,HB.out⟩
   case measure=>simp [intOf]
  ·have HRG:=qh HO.out.range0
   go_wp2_with (first
    | (refine wpList_load_mid rfl 64 _ rfl B 0 rfl (ownL q v) _ HRG.out Tryz.underlying64 rfl (by kernel_rfl) ?_)
    | (refine wpList_store_whole rfl 64 (.tmp 8) (.tmp 30) gz (ownL 0 0) (ownL q v) rfl rfl rfl rfl HZ.out (by kernel_rfl) rfl (own_one _ _) ?_;intro w5 hh5 ht5))
   have HB:=qh (HB.out.touch ht5 hzb)
   have HR:=qh hh5.range0
   clear hh5 ht5 HRG
   refine bodyPost_ret (v:=.agg (ownL q v).toArray) (results_cell Tryz.results96 _ _ gz _ _ rfl HR.out Tryz.underlying64 rfl (by kernel_rfl)) rfl ?_
   exact⟨rfl,hB0▸HB.out.below⟩
theorem note1 (ver:Int) (w:World) :
  Calls Tryz.prog 96 #[.agg (ownL 0 0).toArray,.int .i64 1,.int .i64 1,.agg (replyL ver).toArray] w fun e w'=>e=.returned (.agg (ownL 1 ver).toArray)∧Below w.heap.size w w':=by
 have KK:=qh (fun W=>dknown1 W)
 have KC:=qh (fun v W=>copied_reply v W)
 go_enter Tryz.func96,Tryz.ntmps96
 go_upto_region 1 with (fail)
 go_name_world W hW
 have hW:allocs w [.cells (ownL 0 0:List Value).toArray 64,.cells (replyL ver:List Value).toArray 53,.cells (ownL 0 0:List Value).toArray 64]=W:=hW
 have HO:=qh (show Holds W (w.heap.size) 64 (ownL 0 0) from holds_allocs _ hW 0 rfl)
 have HR:=qh (show Holds W (w.heap.size+1) 53 (replyL ver) from holds_allocs _ hW 1 rfl)
 have HZ:=qh (show Holds W (w.heap.size+1+1) 64 (ownL 0 0) from holds_allocs _ hW 2 rfl)
 have hbW:=below_allocs _ hW
 have hsW:=size_allocs _ hW
 simp only [List.length_cons,List.length_nil] at hsW
 clear hW
 have HB:=qh (Base.start w)
 have HB:=qh (HB.out.bel hbW)
 clear hbW hsW
 have hne:w.heap.size≠w.heap.size+1+1:=by omega
 generalize hz0:w.heap.size+1+1=gz at HZ hne ⊢
 have hzb:w.heap.size≤gz:=by omega
 generalize hr0:w.heap.size+1=gr at HR ⊢
 have hrb:w.heap.size≠gr:=by omega
 generalize hB0:w.heap.size=B at HO HB hne hzb hrb ⊢
 go_wp2_with fail
 refine (KK.out _).mono ?_
 rintro e w1 ⟨rfl,hb⟩
 have HO:=qh (HO.out.bel hb)
 have HR:=qh (HR.out.bel hb)
 have HZ:=qh (HZ.out.bel hb)
 have HB:=qh (HB.out.bel hb)
 clear hb
 have HRG:=qh HR.out.range0
 have hlr:(replyL ver).length=5:=rfl
 go_wp2_with (first
  | (refine wpList_load_mid rfl 53 _ rfl gr 0 rfl (replyL ver) _ HRG.out Tryz.underlying53 rfl (by kernel_rfl) ?_)
  | (refine wpList_store_spl rfl 63 (.tmp 17) (.tmp 16) rfl rfl B 0 _ 64 HO.out rfl (.int .i64 1 :: replyL ver) rfl (by kernel_rfl) (by simp [ownL,replyL]) (by simp [replyL,Value.oneCell']) ?_;intro w2 hh2 ht2))
 have HO:=qh (show Holds w2 B 64 (ownL 1 ver) from hh2)
 have HZ:=qh (HZ.out.touch ht2 (Ne.symm hne))
 have HB:=qh (HB.out.touch ht2 (Nat.le_refl _))
 clear hh2 ht2 HRG hlr
 go_wp2_with fail
 go_loopw [18] (fun vi wr=>∃ i:Nat,vi=.int .i64 (i:Int)∧i≤8∧Holds wr B 64 (ownL 1 ver)∧Holds wr gz 64 (ownL 0 0)∧Base B w wr) (fun vi _=>8 - (intOf vi).toNat)
 case atStart=>exact⟨0,rfl,by omega,HO.out,HZ.out,HB.out⟩
 case round=>
  clear HO HZ HB
  obtain⟨i,rfl,hi,ho,hz,hb⟩:=hrel
  have HO:=qh ho;have HZ:=qh hz;have HB:=qh hb
  clear ho hz hb
  rcases (show i=0∨i=1∨i=2∨i=3∨i=4∨i=5∨i=6∨i=7∨i=8 by omega) with rfl|rfl|rfl|rfl|rfl|rfl|rfl|rfl|rfl
  ·have HRG:=qh (HO.out.rangeO 1 (cs:=replyL ver) (fun j v hv=>by
    rcases (show j=0∨j=1∨j=2∨j=3∨j=4∨5≤j by omega) with rfl|rfl|rfl|rfl|rfl|h5
    ·exact hv
    ·exact hv
    ·exact hv
    ·exact hv
    ·exact hv
    ·rw [List.getElem?_eq_none (by simp [replyL];omega)] at hv;cases hv))
   go_wp2_with (first
    | (refine wpList_load_mid rfl 53 _ rfl B 1 rfl (replyL ver) _ HRG.out Tryz.underlying53 rfl (by kernel_rfl) ?_))
   refine (KC.out _ _).mono ?_
   rintro e w3 ⟨rfl,hb⟩
   have HO:=qh (HO.out.bel hb)
   have HZ:=qh (HZ.out.bel hb)
   have HB:=qh (HB.out.bel hb)
   clear hb HRG
   go_wp2_with (first
    | (refine wpList_store_spl rfl 53 (.tmp 28) (.tmp 26) rfl rfl B 1 _ 64 HO.out rfl (replyL ver) rfl (by kernel_rfl) (by simp [ownL,replyL]) (by simp [replyL,Value.oneCell']) ?_;intro w4 hh4 ht4))
   have HO:=qh (show Holds w4 B 64 (ownL 1 ver) from hh4)
   have HZ:=qh (HZ.out.touch ht4 (Ne.symm hne))
   have HB:=qh (HB.out.touch ht4 (Nat.le_refl _))
   clear hh4 ht4
   go_roundw
   case rel=>exact⟨1,rfl,by omega,HO.out,HZ.out,HB.out⟩
   case measure=>simp [intOf]
  ·have HRG:=qh (HO.out.rangeO 7 (cs:=replyL 0) (fun j v hv=>by
    rcases (show j=0∨j=1∨j=2∨j=3∨j=4∨5≤j by omega) with rfl|rfl|rfl|rfl|rfl|h5
    ·exact hv
    ·exact hv
    ·exact hv
    ·exact hv
    ·exact hv
    ·rw [List.getElem?_eq_none (by simp [replyL];omega)] at hv;cases hv))
   go_wp2_with (first
    | (refine wpList_load_mid rfl 53 _ rfl B 7 rfl (replyL 0) _ HRG.out Tryz.underlying53 rfl (by kernel_rfl) ?_))
   refine (KC.out _ _).mono ?_
   rintro e w3 ⟨rfl,hb⟩
   have HO:=qh (HO.out.bel hb)
   have HZ:=qh (HZ.out.bel hb)
   have HB:=qh (HB.out.bel hb)
   clear hb HRG
   go_wp2_with (first
    | (refine wpList_store_spl rfl 53 (.tmp 28) (.tmp 26) rfl rfl B 7 _ 64 HO.out rfl (replyL 0) rfl (by kernel_rfl) (by simp [ownL,replyL]) (by simp [replyL,Value.oneCell']) ?_;intro w4 hh4 ht4))
   have HO:=qh (show Holds w4 B 64 (ownL 1 ver) from hh4)
   have HZ:=qh (HZ.out.touch ht4 (Ne.symm hne))
   have HB:=qh (HB.out.touch ht4 (Nat.le_refl _))
   clear hh4 ht4
   go_roundw
   case rel=>exact⟨2,rfl,by omega,HO.out,HZ.out,HB.out⟩
   case measure=>simp [intOf]
  ·have HRG:=qh (HO.out.rangeO 13 (cs:=replyL 0) (fun j v hv=>by
    rcases (show j=0∨j=1∨j=2∨j=3∨j=4∨5≤j by omega) with rfl|rfl|rfl|rfl|rfl|h5
    ·exact hv
    ·exact hv
    ·exact hv
    ·exact hv
    ·exact hv
    ·rw [List.getElem?_eq_none (by simp [replyL];omega)] at hv;cases hv))
   go_wp2_with (first
    | (refine wpList_load_mid rfl 53 _ rfl B 13 rfl (replyL 0) _ HRG.out Tryz.underlying53 rfl (by kernel_rfl) ?_))
   refine (KC.out _ _).mono ?_
   rintro e w3 ⟨rfl,hb⟩
   have HO:=qh (HO.out.bel hb)
   have HZ:=qh (HZ.out.bel hb)
   have HB:=qh (HB.out.bel hb)
   clear hb HRG
   go_wp2_with (first
    | (refine wpList_store_spl rfl 53 (.tmp 28) (.tmp 26) rfl rfl B 13 _ 64 HO.out rfl (replyL 0) rfl (by kernel_rfl) (by simp [ownL,replyL]) (by simp [replyL,Value.oneCell']) ?_;intro w4 hh4 ht4))
   have HO:=qh (show Holds w4 B 64 (ownL 1 ver) from hh4)
   have HZ:=qh (HZ.out.touch ht4 (Ne.symm hne))
   have HB:=qh (HB.out.touch ht4 (Nat.le_refl _))
   clear hh4 ht4
   go_roundw
   case rel=>exact⟨3,rfl,by omega,HO.out,HZ.out,HB.out⟩
   case measure=>simp [intOf]
  ·have HRG:=qh (HO.out.rangeO 19 (cs:=replyL 0) (fun j v hv=>by
    rcases (show j=0∨j=1∨j=2∨j=3∨j=4∨5≤j by omega) with rfl|rfl|rfl|rfl|rfl|h5
    ·exact hv
    ·exact hv
    ·exact hv
    ·exact hv
    ·exact hv
    ·rw [List.getElem?_eq_none (by simp [replyL];omega)] at hv;cases hv))
   go_wp2_with (first
    | (refine wpList_load_mid rfl 53 _ rfl B 19 rfl (replyL 0) _ HRG.out Tryz.underlying53 rfl (by kernel_rfl) ?_))
   refine (KC.out _ _).mono ?_
   rintro e w3 ⟨rfl,hb⟩
   have HO:=qh (HO.out.bel hb)
   have HZ:=qh (HZ.out.bel hb)
   have HB:=qh (HB.out.bel hb)
   clear hb HRG
   go_wp2_with (first
    | (refine wpList_store_spl rfl 53 (.tmp 28) (.tmp 26) rfl rfl B 19 _ 64 HO.out rfl (replyL 0) rfl (by kernel_rfl) (by simp [ownL,replyL]) (by simp [replyL,Value.oneCell']) ?_;intro w4 hh4 ht4))
   have HO:=qh (show Holds w4 B 64 (ownL 1 ver) from hh4)
   have HZ:=qh (HZ.out.touch ht4 (Ne.symm hne))
   have HB:=qh (HB.out.touch ht4 (Nat.le_refl _))
   clear hh4 ht4
   go_roundw
   case rel=>exact⟨4,rfl,by omega,HO.out,HZ.out,HB.out⟩
   case measure=>simp [intOf]
  ·have HRG:=qh (HO.out.rangeO 25 (cs:=replyL 0) (fun j v hv=>by
    rcases (show j=0∨j=1∨j=2∨j=3∨j=4∨5≤j by omega) with rfl|rfl|rfl|rfl|rfl|h5
    ·exact hv
    ·exact hv
    ·exact hv
    ·exact hv
    ·exact hv
    ·rw [List.getElem?_eq_none (by simp [replyL];omega)] at hv;cases hv))
   go_wp2_with (first
    | (refine wpList_load_mid rfl 53 _ rfl B 25 rfl (replyL 0) _ HRG.out Tryz.underlying53 rfl (by kernel_rfl) ?_))
   refine (KC.out _ _).mono ?_
   rintro e w3 ⟨rfl,hb⟩
   have HO:=qh (HO.out.bel hb)
   have HZ:=qh (HZ.out.bel hb)
   have HB:=qh (HB.out.bel hb)
   clear hb HRG
   go_wp2_with (first
    | (refine wpList_store_spl rfl 53 (.tmp 28) (.tmp 26) rfl rfl B 25 _ 64 HO.out rfl (replyL 0) rfl (by kernel_rfl) (by simp [ownL,replyL]) (by simp [replyL,Value.oneCell']) ?_;intro w4 hh4 ht4))
   have HO:=qh (show Holds w4 B 64 (ownL 1 ver) from hh4)
   have HZ:=qh (HZ.out.touch ht4 (Ne.symm hne))
   have HB:=qh (HB.out.touch ht4 (Nat.le_refl _))
   clear hh4 ht4
   go_roundw
   case rel=>exact⟨5,rfl,by omega,HO.out,HZ.out,HB.out⟩
   case measure=>simp [intOf]
  ·have HRG:=qh (HO.out.rangeO 31 (cs:=replyL 0) (fun j v hv=>by
    rcases (show j=0∨j=1∨j=2∨j=3∨j=4∨5≤j by omega) with rfl|rfl|rfl|rfl|rfl|h5
    ·exact hv
    ·exact hv
    ·exact hv
    ·exact hv
    ·exact hv
    ·rw [List.getElem?_eq_none (by simp [replyL];omega)] at hv;cases hv))
   go_wp2_with (first
    | (refine wpList_load_mid rfl 53 _ rfl B 31 rfl (replyL 0) _ HRG.out Tryz.underlying53 rfl (by kernel_rfl) ?_))
   refine (KC.out _ _).mono ?_
   rintro e w3 ⟨rfl,hb⟩
   have HO:=qh (HO.out.bel hb)
   have HZ:=qh (HZ.out.bel hb)
   have HB:=qh (HB.out.bel hb)
   clear hb HRG
   go_wp2_with (first
    | (refine wpList_store_spl rfl 53 (.tmp 28) (.tmp 26) rfl rfl B 31 _ 64 HO.out rfl (replyL 0) rfl (by kernel_rfl) (by simp [ownL,replyL]) (by simp [replyL,Value.oneCell']) ?_;intro w4 hh4 ht4))
   have HO:=qh (show Holds w4 B 64 (ownL 1 ver) from hh4)
   have HZ:=qh (HZ.out.touch ht4 (Ne.symm hne))
   have HB:=qh (HB.out.touch ht4 (Nat.le_refl _))
   clear hh4 ht4
   go_roundw
   case rel=>exact⟨6,rfl,by omega,HO.out,HZ.out,HB.out⟩
   case measure=>simp [intOf]
  ·have HRG:=qh (HO.out.rangeO 37 (cs:=replyL 0) (fun j v hv=>by
    rcases (show j=0∨j=1∨j=2∨j=3∨j=4∨5≤j by omega) with rfl|rfl|rfl|rfl|rfl|h5
    ·exact hv
    ·exact hv
    ·exact hv
    ·exact hv
    ·exact hv
    ·rw [List.getElem?_eq_none (by simp [replyL];omega)] at hv;cases hv))
   go_wp2_with (first
    | (refine wpList_load_mid rfl 53 _ rfl B 37 rfl (replyL 0) _ HRG.out Tryz.underlying53 rfl (by kernel_rfl) ?_))
   refine (KC.out _ _).mono ?_
   rintro e w3 ⟨rfl,hb⟩
   have HO:=qh (HO.out.bel hb)
   have HZ:=qh (HZ.out.bel hb)
   have HB:=qh (HB.out.bel hb)
   clear hb HRG
   go_wp2_with (first
    | (refine wpList_store_spl rfl 53 (.tmp 28) (.tmp 26) rfl rfl B 37 _ 64 HO.out rfl (replyL 0) rfl (by kernel_rfl) (by simp [ownL,replyL]) (by simp [replyL,Value.oneCell']) ?_;intro w4 hh4 ht4))
   have HO:=qh (show Holds w4 B 64 (ownL 1 ver) from hh4)
   have HZ:=qh (HZ.out.touch ht4 (Ne.symm hne))
   have HB:=qh (HB.out.touch ht4 (Nat.le_refl _))
   clear hh4 ht4
   go_roundw
   case rel=>exact⟨7,rfl,by omega,HO.out,HZ.out,HB.out⟩
   case measure=>simp [intOf]
  ·have HRG:=qh (HO.out.rangeO 43 (cs:=replyL 0) (fun j v hv=>by
    rcases (show j=0∨j=1∨j=2∨j=3∨j=4∨5≤j by omega) with rfl|rfl|rfl|rfl|rfl|h5
    ·exact hv
    ·exact hv
    ·exact hv
    ·exact hv
    ·exact hv
    ·rw [List.getElem?_eq_none (by simp [replyL];omega)] at hv;cases hv))
   go_wp2_with (first
    | (refine wpList_load_mid rfl 53 _ rfl B 43 rfl (replyL 0) _ HRG.out Tryz.underlying53 rfl (by kernel_rfl) ?_))
   refine (KC.out _ _).mono ?_
   rintro e w3 ⟨rfl,hb⟩
   have HO:=qh (HO.out.bel hb)
   have HZ:=qh (HZ.out.bel hb)
   have HB:=qh (HB.out.bel hb)
   clear hb HRG
   go_wp2_with (first
    | (refine wpList_store_spl rfl 53 (.tmp 28) (.tmp 26) rfl rfl B 43 _ 64 HO.out rfl (replyL 0) rfl (by kernel_rfl) (by simp [ownL,replyL]) (by simp [replyL,Value.oneCell']) ?_;intro w4 hh4 ht4))
   have HO:=qh (show Holds w4 B 64 (ownL 1 ver) from hh4)
   have HZ:=qh (HZ.out.touch ht4 (Ne.symm hne))
   have HB:=qh (HB.out.touch ht4 (Nat.le_refl _))
   clear hh4 ht4
   go_roundw
   case rel=>exact⟨8,rfl,by omega,HO.out,HZ.out,HB.out⟩
   case measure=>simp [intOf]
  ·have HRG:=qh HO.out.range0
   go_wp2_with (first
    | (refine wpList_load_mid rfl 64 _ rfl B 0 rfl (ownL 1 ver) _ HRG.out Tryz.underlying64 rfl (by kernel_rfl) ?_)
    | (refine wpList_store_whole rfl 64 (.tmp 8) (.tmp 30) gz (ownL 0 0) (ownL 1 ver) rfl rfl rfl rfl HZ.out (by kernel_rfl) rfl (own_one _ _) ?_;intro w5 hh5 ht5))
   have HB:=qh (HB.out.touch ht5 hzb)
   have HR:=qh hh5.range0
   clear hh5 ht5 HRG
   refine bodyPost_ret (v:=.agg (ownL 1 ver).toArray) (results_cell Tryz.results96 _ _ gz _ _ rfl HR.out Tryz.underlying64 rfl (by kernel_rfl)) rfl ?_
   exact⟨rfl,hB0▸HB.out.below⟩
end
end Go.Proofs.YtimdpiifpibgfaaGreatDoor
