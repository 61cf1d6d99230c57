/- For every input the law TopFast returns true (a part of the proof). Condition: the listed variables start as the program's text lays them. -/
import Derived.Test.YtimdpiifpibgfaaGreatDoorQf39
set_option linter.unusedVariables false
set_option linter.unusedSimpArgs false
set_option maxRecDepth 20000
set_option maxHeartbeats 16000000
namespace Go.Proofs.YtimdpiifpibgfaaGreatDoor
section
open Go.RowKit Go.Maps
section
variable {P:Program} {ops:Array Oper} {Q:Exit→Act→World→Prop}
theorem wpList_build3 {rest:List Oper} {o:Oper} {a:Act} {w:World} (hw:Region.wanted o (yielded ops a.tmps)=true) (t:TypeId) (i j k:Nat) (q r s:Tmp) (ho:o.op=.build t #[(i,.tmp q),(j,.tmp r),(k,.tmp s)]) (u v x:Value) (hu:a.eval (.tmp q)=u) (hv:a.eval (.tmp r)=v) (hx:a.eval (.tmp s)=x)
  (z:Value) (hr:∀ w,(Instr.build t #[(i,u),(j,v),(k,x)]).run P w=.ok z w) (h:wpList P ops Q rest (a.put o.dst z) w):wpList P ops Q (o :: rest) a w:=
 wpList_step fun K hK=>by
  rw [if_pos hw]
  unfold Oper.wp execOp
  simp only [ho,List.map_toArray,List.map_cons,List.map_nil,hu,hv,hx]
  rw [Sem.run_bind,hr]
  exact hK _ _ h
end
theorem holds_lit {w:World} {t:TypeId} {L:List Value} {A:Array Value} (h:A=L.toArray):Holds (w.alloc (.cells A t)) w.heap.size t L:=h▸holds_alloc w t L
theorem front_new (n me:Nat) (w:World) (hn:n=3∨n=5∨n=7) (hme:me<n) :
  Calls Tryz.prog 61 #[.int .i64 n,.int .i64 me] w fun e w'=>∃ g,e=.returned (.tuple #[.pointer (some ⟨g,0,none⟩),.int .i64 0])∧FrontAt w' g 197 n me (fun _ _=>0)∧w.heap.size≤g∧Below w.heap.size w w':=by
 rcases hn with rfl|rfl|rfl
 all_goals
  have hmi:(me:Int)<7:=by omega
  have hmi3:me<3→(me:Int)<3:=by omega
  have hmi5:me<5→(me:Int)<5:=by omega
  have hm0:¬ ((me:Int)<0):=by omega
  try have hx3:=hmi3 hme
  try have hx5:=hmi5 hme
  clear hmi3 hmi5 hme
  go_enter Tryz.func61,Tryz.ntmps61
  go_wp2_with fail
  refine bodyPost_ret (v:=.tuple #[.pointer (some ⟨w.heap.size,0,none⟩),.int .i64 0]) (by simp [results,Tryz.results61,go_sem]) rfl ?_
  exact⟨w.heap.size,rfl,⟨holds_lit (by kernel_rfl),by decide⟩,Nat.le_refl _,by go_grown⟩
theorem load_none (g n me gd:Nat) (V:List Value) (w:World) (nd:Holds w g 102 V) (hV:V[2]?=some (.pointer (some ⟨gd,0,none⟩))) (dk:Disk0 w gd) :
  Calls Tryz.prog 62 #[.pointer (some ⟨g,0,none⟩)] w fun e w'=>e=.returned (.int .i64 0)∧Below w.heap.size w w':=by
 have KR:=qh (fun s W (h:Disk0 W gd)=>read0 gd s W h)
 have HN:=qh nd;have HD:=qh (show Holds w gd 125 _ from dk)
 have HB:=qh (Base.start w)
 clear nd dk
 go_enter Tryz.func62,Tryz.ntmps62
 have n2:=HN.out.cell 2
 rw [hV] at n2
 go_wp2_with fail
 refine (KR.out _ _ HD.out).mono ?_
 rintro e w1 ⟨rfl,hb⟩
 have HN:=qh (HN.out.bel hb)
 have HD:=qh (HD.out.bel hb)
 have HB:=qh (HB.out.bel hb)
 clear hb n2
 have n2:=HN.out.cell 2
 rw [hV] at n2
 go_wp2_with fail
 refine (KR.out _ _ HD.out).mono ?_
 rintro e w2 ⟨rfl,hb⟩
 have HB:=qh (HB.out.bel hb)
 clear hb n2 HN HD
 go_wp2_with fail
 go_ret
 exact⟨rfl,HB.out.below⟩
def nodeZ (n me:Nat) (dv wv cv fv:Value):List Value:=
 [.int .i64 n,.int .i64 me,dv,wv,cv,fv,.slice none 0 0,
  .int .i64 0,.int .i64 0,.bool false,.string ⟨#[]⟩,.int .i64 0,.slice none 0 0,.int .i64 0,.int .i64 0,.bool false,.string ⟨#[]⟩,.int .i64 0,.slice none 0 0,.int .i64 0,.int .i64 0,.bool false,.string ⟨#[]⟩,.int .i64 0,.slice none 0 0,.int .i64 0,.int .i64 0,.bool false,.string ⟨#[]⟩,.int .i64 0,.slice none 0 0,.int .i64 0,.int .i64 0,.bool false,.string ⟨#[]⟩,.int .i64 0,.slice none 0 0,.int .i64 0,.int .i64 0,.bool false,.string ⟨#[]⟩,.int .i64 0,.slice none 0 0,.int .i64 0,.int .i64 0,.bool false,.string ⟨#[]⟩,.int .i64 0,.slice none 0 0,.int .i64 0,.int .i64 0,.bool false,.string ⟨#[]⟩,.int .i64 0,.slice none 0 0,
  .int .i64 0,.int .i64 0,.int .i64 0,.int .i64 0,.int .i64 0,.int .i64 0,.int .i64 0,.int .i64 0,.int .i64 0,.int .i64 0,.int .i64 0,.int .i64 0,.int .i64 0,.int .i64 0,
  .int .i64 0,.int .i64 0,.slice none 0 0,.slice none 0 0,.slice none 0 0,.bool false]
theorem nodeB (n me gd:Nat):∀ W:World,(Instr.build 102 #[(0,.int .i64 n),(1,.int .i64 me),(2,.pointer (some ⟨gd,0,none⟩))]).run Tryz.prog W=.ok (.agg (nodeZ n me (.pointer (some ⟨gd,0,none⟩)) (.pointer none) (.pointer none) (.pointer none)).toArray) W:=fun _=>by kernel_rfl
theorem heard0 (n me:Nat):FrontP.heard (fun _ _=>0) n me (fun _=>0)=fun _ _=>0:=by
 unfold FrontP.heard
 split
 ·funext q i
  simp only [FrontP.hear,FrontP.hearTo]
  split
  ·rfl
  ·rfl
 ·rfl
theorem hear0 (g n me:Nat) (w:World) (h:FrontAt w g 197 n me (fun _ _=>0)) :
  Calls Tryz.prog 69 #[.pointer (some ⟨g,0,none⟩),.int .i64 me,.agg #[.int .i64 0,.int .i64 0,.int .i64 0,.int .i64 0,.int .i64 0,.int .i64 0,.int .i64 0]] w fun e w'=>e=.returned (.bool (FrontP.takes n me fun _=>0))∧FrontAt w' g 197 n me (fun _ _=>0)∧Touch g w w':=by
 have:=hear_any g n me me (fun _ _=>0) (fun _=>0) w h
 rw [heard0] at this
 exact this
def Made (n me gd:Nat) (w:World) (g:Nat) (W:World):Prop:=∃ gw gfr gc gl gm gi gx gfl gby mb kept,Holds W g 102 (nodeL n me gd gw gc gfr (.slice none 0 0) 0 0 (fun _=>0) 0 0 (.slice none 0 0) (.slice none 0 0) (.slice none 0 0)) ∧
 Disk1 W gd gfl gby mb kept∧mb≤300∧Holds W gw 208 (walL gd 1 1)∧CoreAt W gc n me gl gm 0 gi gx 0 [] [] (.slice none 0 0) (.slice none 0 0) (.slice none 0 0)∧FrontAt W gfr 197 n me (fun _ _=>0) ∧
 (w.heap.size≤g∧w.heap.size≤gw∧w.heap.size≤gfr∧w.heap.size≤gc∧w.heap.size≤gl∧w.heap.size≤gm∧w.heap.size≤gi∧w.heap.size≤gx∧w.heap.size≤gfl∧w.heap.size≤gby)∧Mv (fun k=>k=gd) w W
theorem nnew (n me gd:Nat) (R3:Nat→World→Prop) (w:World) (hn:n=3∨n=5∨n=7) (hme:me<n) (hd:Disk0 w gd)
  (KS:∀ g W,Made n me gd w g W→Calls Tryz.prog 53 #[.pointer (some ⟨g,0,none⟩)] W fun e w'=>e=.returned (.tuple #[])∧R3 g w') :
  Calls Tryz.prog 45 #[.int .i64 n,.int .i64 me,.pointer (some ⟨gd,0,none⟩)] w fun e w'=>∃ g,e=.returned (.tuple #[.pointer (some ⟨g,0,none⟩),.int .i64 0])∧R3 g w':=by
 have KF:=qh (fun W=>fits_ok n W hn)
 have KFR:=qh (fun W=>front_new n me W hn hme)
 have KLO:=qh (fun g V hV W nd dk=>load_none g n me gd V W nd hV dk)
 have KO:=qh (fun W (h:Disk0 W gd)=>open0 gd W h)
 have KC:=qh (fun W=>core_new n me W hn hme)
 have KCR:=qh cutRec
 have KWh:=qh (fun gw W (h:Holds W gw 208 (walL gd 0 0))=>where0 gw gd 0 0 W h)
 have KA:=qh (fun gw gl c m r rest W hw h hg hr hgf h1 h2=>anew0 gw gd gl c m r rest W hw h hg hr hgf h1 h2)
 have KH:=qh (fun gfr W h=>hear0 gfr n me W h)
 have KS:=qh KS
 have hB:=nodeB n me gd
 have hmi:(me:Int)<(n:Int):=by omega
 have hm0:¬ ((me:Int)<0):=by omega
 have HD:=qh (show Holds w gd 125 _ from hd)
 have HB:=qh (Base.start w)
 have hgd:=(show Holds w gd 125 _ from hd).lt
 clear hd hn
 go_enter Tryz.func45,Tryz.ntmps45
 generalize hB0:w.heap.size=B at HB hgd ⊢
 go_wp2_with fail
 refine (KF.out _).mono ?_
 rintro e w1 ⟨rfl,hb⟩
 have HD:=qh (HD.out.bel hb)
 have HB:=qh (HB.out.bel hb)
 clear hb KF
 go_upto_region 4 with (first
  | (with_reducible show wpList _ _ _ (_ :: _) _ _;refine wpList_build3 (by kernel_rfl) 102 0 1 2 _ _ _ rfl (.int .i64 n) (.int .i64 me) (.pointer (some ⟨gd,0,none⟩)) rfl rfl rfl (.agg (nodeZ n me (.pointer (some ⟨gd,0,none⟩)) (.pointer none) (.pointer none) (.pointer none)).toArray) hB ?_))
 go_name_world W hW
 have hW:allocs w1 [.cells (nodeZ n me (.pointer (some ⟨gd,0,none⟩)) (.pointer none) (.pointer none) (.pointer none):List Value).toArray 102]=W:=hW
 have HN:=qh (show Holds W (w1.heap.size) 102 (nodeZ n me (.pointer (some ⟨gd,0,none⟩)) (.pointer none) (.pointer none) (.pointer none)) from holds_allocs _ hW 0 rfl)
 have hbW:=below_allocs _ hW
 clear hW
 have hBg:B≤w1.heap.size:=HB.out.le
 have HD:=qh (HD.out.bel hbW)
 have HB:=qh (HB.out.bel hbW)
 clear hbW
 generalize w1.heap.size=g at HN hBg ⊢
 go_wp2_with fail
 refine (KFR.out _).mono ?_
 rintro e w2 ⟨gfr,rfl,hfr,hgfr,hb⟩
 have hBf:=Nat.le_trans HB.out.le hgfr
 have hgf:g≠gfr:=by have:=HN.out.lt;omega
 have hn7:=hfr.n7
 have HFR:=qh hfr.h
 have HD:=qh (HD.out.bel hb)
 have HB:=qh (HB.out.bel hb)
 have HN:=qh (HN.out.bel hb)
 clear hb hfr hgfr KFR
 go_upto_region 5 with (first
  | (refine wpList_store_cell rfl 98 (.tmp 51) (.tmp 48) rfl rfl g 5 102 _ HN.out (by simp [nodeZ]) rfl (.pointer (some ⟨gfr,0,none⟩)) rfl rfl (by kernel_rfl) rfl ?_;intro w3 hh3 ht3))
 have HN:=qh (show Holds w3 g 102 (nodeZ n me (.pointer (some ⟨gd,0,none⟩)) (.pointer none) (.pointer none) (.pointer (some ⟨gfr,0,none⟩))) from hh3)
 have hgg:g≠gd:=by omega
 have HD:=qh (HD.out.touch ht3 (Ne.symm hgg))
 have HFR:=qh (HFR.out.touch ht3 (Ne.symm hgf))
 have HB:=qh (HB.out.touch ht3 hBg)
 clear hh3 ht3
 go_wp2_with fail
 refine (KLO.out g _ rfl _ HN.out HD.out).mono ?_
 rintro e w4 ⟨rfl,hb⟩
 have HD:=qh (HD.out.bel hb)
 have HB:=qh (HB.out.bel hb)
 have HN:=qh (HN.out.bel hb)
 have HFR:=qh (HFR.out.bel hb)
 clear hb KLO
 go_wp2_with fail
 refine (KO.out _ HD.out).mono ?_
 rintro e w5 ⟨gw,rfl,hw,hgw,hb⟩
 have hBw:=Nat.le_trans HB.out.le hgw
 have hgw2:g≠gw∧gw≠gd:=by have:=HN.out.lt;omega
 have hfw:gfr≠gw:=by have:=HFR.out.lt;omega
 have HD:=qh (HD.out.bel hb)
 have HB:=qh (HB.out.bel hb)
 have HN:=qh (HN.out.bel hb)
 have HFR:=qh (HFR.out.bel hb)
 have HW:=qh hw
 clear hb hw hgw KO
 go_upto_region 12 with (first
  | (refine wpList_store_cell rfl 96 (.tmp 69) (.tmp 67) rfl rfl g 3 102 _ HN.out (by simp [nodeZ]) rfl (.pointer (some ⟨gw,0,none⟩)) rfl rfl (by kernel_rfl) rfl ?_;intro w6 hh6 ht6))
 have HN:=qh (show Holds w6 g 102 (nodeZ n me (.pointer (some ⟨gd,0,none⟩)) (.pointer (some ⟨gw,0,none⟩)) (.pointer none) (.pointer (some ⟨gfr,0,none⟩))) from hh6)
 have HD:=qh (HD.out.touch ht6 (Ne.symm hgg))
 have HFR:=qh (HFR.out.touch ht6 (Ne.symm hgf))
 have HW:=qh (HW.out.touch ht6 (Ne.symm hgw2.1))
 have HB:=qh (HB.out.touch ht6 hBg)
 clear hh6 ht6
 go_upto_region 13 with (fail)
 go_name_world W7 hW7
 have hW7:allocs w6 [.cells (zero7:List Value).toArray 41]=W7:=hW7
 have HZ:=qh (show Holds W7 (w6.heap.size) 41 zero7 from holds_allocs _ hW7 0 rfl)
 have hbW7:=below_allocs _ hW7
 clear hW7
 have hgz:gd≠w6.heap.size:=by have:=HD.out.lt;omega
 have hgzw:gw≠w6.heap.size:=by have:=HW.out.lt;omega
 have hzz:w6.heap.size≠g:=by have:=HN.out.lt;omega
 have HD:=qh (HD.out.bel hbW7)
 have HB:=qh (HB.out.bel hbW7)
 have HN:=qh (HN.out.bel hbW7)
 have HFR:=qh (HFR.out.bel hbW7)
 have HW:=qh (HW.out.bel hbW7)
 clear hbW7
 generalize w6.heap.size=gz at HZ hgz hgzw hzz ⊢
 go_wp2_with fail
 go_loopw [72,14] (fun vi v14 wr=>vi=.int .i64 0∧v14=.slice none 0 0∧W7=wr) (fun _ _ _=>0)
 case atStart=>exact⟨rfl,rfl,rfl⟩
 case round=>
 obtain⟨rfl,rfl,rfl⟩:=hrel
 have z0:=HZ.out.cell 0
 have z1:=HZ.out.cell 1
 have z2:=HZ.out.cell 2
 have z3:=HZ.out.cell 3
 have z4:=HZ.out.cell 4
 have z5:=HZ.out.cell 5
 have z6:=HZ.out.cell 6
 simp only [zero7,yA,yB] at z0 z1 z2 z3 z4 z5 z6
 go_wp2_with fail
 refine (KC.out _).mono ?_
 rintro e w8 ⟨gc,gl,gm,gi,gx,rfl,hca,hcl,hb⟩
 have hsz:=HB.out.le
 have hgc:g≠gc∧g≠gl∧g≠gm∧g≠gi∧g≠gx:=by have:=HN.out.lt;omega
 have hcw:gc≠gw∧gl≠gw∧gm≠gw∧gi≠gw∧gx≠gw:=by have:=HW.out.lt;omega
 have hcd:gc≠gd∧gl≠gd∧gm≠gd∧gi≠gd∧gx≠gd:=by have:=HD.out.lt;omega
 have hcf:gc≠gfr∧gl≠gfr∧gm≠gfr∧gi≠gfr∧gx≠gfr:=by have:=HFR.out.lt;omega
 have hBc:B≤gc∧B≤gl∧B≤gm∧B≤gi∧B≤gx:=by omega
 have HD:=qh (HD.out.bel hb)
 have HB:=qh (HB.out.bel hb)
 have HN:=qh (HN.out.bel hb)
 have HFR:=qh (HFR.out.bel hb)
 have HW:=qh (HW.out.bel hb)
 have HZ:=qh (HZ.out.bel hb)
 have HCA:=qh hca
 clear hb hca hcl KC z0 z1 z2 z3 z4 z5 z6
 go_upto_region 26 with (first
  | (refine wpList_store_cell rfl 97 (.tmp 108) (.tmp 105) rfl rfl g 4 102 _ HN.out (by simp [nodeZ]) rfl (.pointer (some ⟨gc,0,none⟩)) rfl rfl (by kernel_rfl) rfl ?_;intro w9 hh9 ht9))
 have HN:=qh (show Holds w9 g 102 (nodeL n me gd gw gc gfr (.slice none 0 0) 0 0 (fun _=>0) 0 0 (.slice none 0 0) (.slice none 0 0) (.slice none 0 0)) from hh9)
 have HD:=qh (HD.out.touch ht9 (Ne.symm hgg))
 have HFR:=qh (HFR.out.touch ht9 (Ne.symm hgf))
 have HW:=qh (HW.out.touch ht9 (Ne.symm hgw2.1))
 have HZ:=qh (HZ.out.touch ht9 hzz)
 have hm9:Mv (fun k=>k=g) w8 w9:=Mv.of_touch ht9 rfl
 have HCA:=qh (HCA.out.mv hm9 (Ne.symm hgc.1) (Ne.symm hgc.2.1) (Ne.symm hgc.2.2.1) (Ne.symm hgc.2.2.2.1) (Ne.symm hgc.2.2.2.2))
 have HB:=qh (HB.out.touch ht9 hBg)
 clear hh9 ht9 hm9
 go_wp2_with fail
 refine (KWh.out gw _ HW.out).mono ?_
 rintro e w12 ⟨rfl,hb⟩
 have HD:=qh (HD.out.bel hb)
 have HB:=qh (HB.out.bel hb)
 have HN:=qh (HN.out.bel hb)
 have HFR:=qh (HFR.out.bel hb)
 have HW:=qh (HW.out.bel hb)
 have HZ:=qh (HZ.out.bel hb)
 have HCA:=qh (HCA.out.bel hb)
 clear hb KWh
 have z0:=HZ.out.cell 0
 have z1:=HZ.out.cell 1
 have z2:=HZ.out.cell 2
 have z3:=HZ.out.cell 3
 have z4:=HZ.out.cell 4
 have z5:=HZ.out.cell 5
 have z6:=HZ.out.cell 6
 simp only [zero7,yA,yB] at z0 z1 z2 z3 z4 z5 z6
 go_wp2_with fail
 refine (KCR.out _).mono ?_
 rintro e w13 ⟨v',m',rfl,hm',ho,hb⟩
 have HD:=qh (HD.out.bel hb)
 have HB:=qh (HB.out.bel hb)
 have HN:=qh (HN.out.bel hb)
 have HFR:=qh (HFR.out.bel hb)
 have HW:=qh (HW.out.bel hb)
 have HCA:=qh (HCA.out.bel hb)
 have HO:=qh ho.blob
 obtain⟨pv,cv,rfl⟩:=ho.shape
 clear hb ho KCR z0 z1 z2 z3 z4 z5 z6 HZ
 go_wp2_with fail
 have hbal:=(Below.refl w13.heap.size w13).alloc (Nat.le_refl _) (.cells #[.slice pv m' cv] 127)
 have HG:=qh (holds_alloc w13 127 [.slice pv m' cv])
 have HD:=qh (HD.out.bel hbal)
 have HB:=qh (HB.out.bel hbal)
 have HN:=qh (HN.out.bel hbal)
 have HFR:=qh (HFR.out.bel hbal)
 have HW:=qh (HW.out.bel hbal)
 have HCA:=qh (HCA.out.bel hbal)
 have HO:=qh (HO.out.bel hbal)
 have KA:=qh (KA.out gw _ 1 m' (.slice pv m' cv) [] _ HW.out HD.out HG.out HO.out hgw2.2 hm'.1 (by omega))
 have hfd:gfr≠gd:=by omega
 refine KA.out.mono ?_
 rintro e w14 ⟨rfl,gfl,gby,nb,hdk,hnb,hgfl,hgby,hw,hmv⟩
 have hle14:=HB.out.le
 have HM:=qh (show Mv (fun k=>k=gd) w w14 from (Mv.of_below (hB0▸HB.out.below)).mv hmv (fun k hk=>hk.elim .inl (fun h=>.inr (by omega))))
 have HN:=qh (HN.out.mv hmv (fun h=>h.elim hgg hgw2.1))
 have HF:=qh (HFR.out.mv hmv (fun h=>h.elim hfd hfw))
 have HCA:=qh (HCA.out.mv hmv (fun h=>h.elim hcd.1 hcw.1) (fun h=>h.elim hcd.2.1 hcw.2.1) (fun h=>h.elim hcd.2.2.1 hcw.2.2.1) (fun h=>h.elim hcd.2.2.2.1 hcw.2.2.2.1) (fun h=>h.elim hcd.2.2.2.2 hcw.2.2.2.2))
 have hBfl:B≤gfl∧B≤gby:=by omega
 have hfl14:gfr≠gfl∧gfr≠gby:=by have:=HFR.out.lt;omega
 have HW:=qh hw;have HDK:=qh hdk
 have hdd:gd≠gfr∧gfl≠gfr∧gby≠gfr:=⟨Ne.symm hfd,Ne.symm hfl14.1,Ne.symm hfl14.2⟩
 have hwf:gw≠gfr:=Ne.symm hfw
 have hBff:w.heap.size≤gfr:=by omega
 have KH:=qh (KH.out gfr)
 clear KA hdk hw hmv HD HFR HO HG HB hbal
 go_upto_region 31 with (fail)
 have HN:=qh (HN.out.bel (t_drew _ w14))
 have HF:=qh (HF.out.bel (t_drew _ w14))
 have HM:=qh (HM.out.bel (t_drew _ w14))
 have HDK:=qh (HDK.out.bel (t_drew _ w14))
 have HW:=qh (HW.out.bel (t_drew _ w14))
 have HCA:=qh (HCA.out.bel (t_drew _ w14))
 refine wp_region_noPanic ?_
 refine wp_region_late (S:=fun W'=>Below w14.drew.heap.size w14.drew W') (X0:=[9]) (by as_aux_lemma=>kernel_rfl) ?_
 generalize w14.drew=wd at HN HF HM HDK HW HCA ⊢
 have hSn:Below wd.heap.size wd wd:=Below.refl _ _
 change wpAnyL _ _ _ _ _ _ 10 #[false,false,false,false,false,false,false,false,false,false] _ _
 refine mvA 0 (some 127) (fun _=>hSn) ?_
 simp only [Act.put,zA,zB,zC]
 refine mvA 1 (some 128) (fun _=>hSn) ?_
 simp only [Act.put,zA,zB,zC]
 refine mvA 2 (some 129) (fun _=>hSn) ?_
 simp only [Act.put,zA,zB,zC]
 refine tkA 3 [9] (some 130) (?vg4) rfl (Or.inl ⟨by rfl,?hg4⟩) hSn ?rg4
 case hg4=>
  intro w hSw
  have b5:=(HN.out.bel hSw).cell 5
  simp only [nodeL,yA,yB] at b5
  go_simp
  try with_reducible rfl
 simp only [Act.put,zA,zB,zC]
 refine mvA 4 (some 131) (fun _=>hSn) ?_
 simp only [Act.put,zA,zB,zC]
 refine mvA 5 (some 132) (fun _=>hSn) ?_
 simp only [Act.put,zA,zB,zC]
 refine mvA 6 (some 133) (fun _=>hSn) ?_
 simp only [Act.put,zA,zB,zC]
 refine mvA 7 (some 134) (fun _=>hSn) ?_
 simp only [Act.put,zA,zB,zC]
 refine tkA 8 [9] (some 135) (?vg9) rfl (Or.inl ⟨by rfl,?hg9⟩) hSn ?rg9
 case hg9=>
  intro w hSw
  have b62:=(HN.out.bel hSw).cell 62
  have b63:=(HN.out.bel hSw).cell 63
  have b64:=(HN.out.bel hSw).cell 64
  have b65:=(HN.out.bel hSw).cell 65
  have b66:=(HN.out.bel hSw).cell 66
  have b67:=(HN.out.bel hSw).cell 67
  have b68:=(HN.out.bel hSw).cell 68
  simp only [nodeL,yA,yB] at b62 b63 b64 b65 b66 b67 b68
  go_simp
  try with_reducible rfl
 simp only [Act.put,zA,zB,zC]
 refine rd1 9 rfl (fun K hK=>?_)
 go_simp
 refine (KH.out _ (FrontAt.mk (HF.out.bel hSn) hn7)).mono ?_
 rintro e w11 ⟨rfl,hfr,ht⟩
 have hmf:Mv (fun k=>k=gfr) _ w11:=Mv.of_touch ht rfl
 have HN:=qh ((HN.out.bel hSn).mv hmf hgf)
 have HF:=qh hfr.h
 have HM:=qh ((HM.out.bel hSn).mv hmf (fun k hk=>.inr (hk▸hBff)))
 have HDK:=qh ((HDK.out.bel hSn).mv hmf hdd.1 hdd.2.1 hdd.2.2)
 have HW:=qh ((HW.out.bel hSn).mv hmf hwf)
 have HCA:=qh ((HCA.out.bel hSn).mv hmf hcf.1 hcf.2.1 hcf.2.2.1 hcf.2.2.2.1 hcf.2.2.2.2)
 clear hfr ht hmf
 refine hK.out _ _ nlA ?_
 clear hK
 try simp only [Act.put,zA,zB,zC]
 refine dnA (NoPanic.normal ?_)
 clear hSn KH
 go_wp2_with fail
 refine (KS.out g _ ⟨gw,gfr,gc,gl,gm,gi,gx,gfl,gby,nb,_,HN.out,HDK.out,by omega,HW.out,HCA.out,FrontAt.mk HF.out hn7,by omega,HM.out⟩).mono ?_
 rintro e w15 ⟨rfl,h3⟩
 have H3:=qh h3
 clear h3 KS HN HDK HW HCA HF HM
 go_wp2_with fail
 refine bodyPost_ret (v:=.tuple #[.pointer (some ⟨g,0,none⟩),.int .i64 0]) (by simp [results,Tryz.results45,go_sem]) rfl ?_
 exact⟨g,rfl,H3.out⟩
end
section
open Go.RowKit Go.Maps
theorem node_new (w:World) (n me q gd:Nat) (c:Cm) (hd:Disk0 w gd) (hn:n=3∨n=5∨n=7) (hme:me<n) (hq:q<n) (hc:CmOk c) (h1:c.c=1) (h2:c.s=1) :
  Calls Tryz.prog 45 #[.int .i64 n,.int .i64 me,.pointer (some ⟨gd,0,none⟩)] w fun e w'=>∃ g,e=.returned (.tuple #[.pointer (some ⟨g,0,none⟩),.int .i64 0])∧NodeC w' (grow (fun k=>k=gd) w w') g n me q c .fresh [] false 0∧Mv (fun k=>k=gd) w w':=by
 refine (nnew n me gd (fun g w'=>NodeG w' (grow (fun k=>k=gd) w w') g n me q c .fresh (.slice none 0 0) (.slice none 0 0) false false 0 (letV c q []) false 0 (300+500*0)∧Mv (fun k=>k=gd) w w') w hn hme hd (fun g W hM=>?_)).mono ?_
 ·obtain⟨gw,gfr,gc,gl,gm,gi,gx,gfl,gby,mb,kept,a1,a2,a3,a4,a5,a6,⟨b1,b2,b3,b4,b5,b6,b7,b8,b9,b10⟩,hmv⟩:=hM
  have hl:=a5.lt
  have hdl:=a2.lt
  have hI:NodeG W (grow (fun k=>k=gd) w W) g n me q c .fresh (.slice none 0 0) (.slice none 0 0) false false 0 (letV c q []) false 0 300:=by
   refine⟨gd,gfl,gby,mb,gw,gc,gfr,kept,_,0,0,_,0,_,_,_,a1,a2,a3,a4,⟨⟨gl,gm,0,gi,gx,0,[],[],_,a5,by simp [bnd],by simp [bnd],⟨.inr ⟨b5,hl.2.1⟩,.inr ⟨b6,hl.2.2.1⟩,.inr ⟨b7,hl.2.2.2.1⟩,.inr ⟨b8,hl.2.2.2.2⟩⟩,rfl,rfl,rfl⟩,.inr ⟨b4,hl.1⟩⟩,a6,⟨rfl,rfl,rfl,rfl,rfl⟩,rfl,LetS.nil0 _ _ _,rfl,.inr ⟨b1,a1.lt⟩,.inl rfl,.inr ⟨b9,hdl.2.1⟩,.inr ⟨b10,hdl.2.2⟩,.inr ⟨b2,a4.lt⟩,.inr ⟨b3,a6.lt⟩⟩
  exact settle_after w w W (fun k=>k=gd) g n me q c .fresh _ _ false false 0 300 0 0 (letV c q []) _ (Nat.le_refl _) hmv.size hmv hI (.inl ⟨rfl,rfl⟩) (LetS.nil0 _ _ _) (by omega) (by omega) (letV_one c q _ 0) (by omega) (by simp) (by omega) hme hc h1 h2
 ·rintro e w' ⟨g,rfl,hn',hm'⟩
  exact⟨g,rfl,⟨0,by omega,hn'⟩,hm'⟩
end
section
open Go.RowKit Go.Maps
theorem letZ_one:∀ u∈letZ,u.oneCell'=true:=by simp [letZ,Value.oneCell']
theorem step_append_spare {P:Program} {ops:Array Oper} {w:World} {o:Oper} {a:Act} {K:Act→World→Prop} {Q:Exit→Act→World→Prop} {E:Prop} (hgd:o.guard=none) (s x:Operand) (t:TypeId)
  (ho:o.op=.call { callee:=.builtin .append,args:=#[s,x],argTypes:=#[t,t] }) (e:TypeId) (z:Value) (size bytes:Nat) (ht:P.underlying t=some (.slice e)) (hi:(P.info? e).map (fun i=>(i.zero,i.size,i.bytes))=some (some z,size,bytes))
  (g n cap:Nat) (xs:List Value) (hs:a.eval s=.slice (some ⟨g,0,none⟩) n cap) (hown:OwnS w (.slice (some ⟨g,0,none⟩) n cap) (some g) e size n xs)
  (off m c:Nat) (news:List Value) (hx:a.eval x=.slice (some ⟨g,off,none⟩) m c) (hl:news.length=m*size) (hnews:∀ j u,news[j]?=some u→w.cell? ⟨g,off+j,none⟩=some u) (h1:∀ u∈news,u.oneCell'=true) (hroom:n+m≤cap)
  (h:∀ w',OwnS w' (.slice (some ⟨g,0,none⟩) (n+m) cap) (some g) e size (n+m) (xs++news)→Touch g w w'→K (a.put o.dst (.slice (some ⟨g,0,none⟩) (n+m) cap)) w') :
  if Region.wanted o (yielded ops a.tmps)=true then Oper.wp P o a w K Q else E:=by
 have hw:Region.wanted o (yielded ops a.tmps)=true:=by simp [Region.wanted,hgd]
 rw [if_pos hw]
 obtain⟨i,hi0,hz,hsize,hby⟩:=info_parts hi
 exact wp_append_own_spare w s x t ho 0 e i size ht hi0 hsize g n cap xs hs hown.own ⟨g,off,none⟩ m c news hx hl (fun j u hu=>by rw [add_at];exact hnews j u hu) h1 hroom fun w' h2 h3=>h w' ⟨h2,rfl⟩ (Touch.of_grownBy h3)
theorem del_first (g cap m:Nat) (L0 L:List Value) (w:World) (h:OwnS w (.slice (some ⟨g,0,none⟩) (m+1:Nat) cap) (some g) 47 51 (m+1) (L0++L)) (h0:L0.length=51) (h1:∀ u∈L,u.oneCell'=true) (hm:m≤4000) :
  Calls Tryz.prog 49 #[.slice (some ⟨g,0,none⟩) (m+1:Nat) cap,.int .i64 0,.int .i64 1] w fun e w'=>e=.returned (.slice (some ⟨g,0,none⟩) m cap)∧OwnS w' (.slice (some ⟨g,0,none⟩) m cap) (some g) 47 51 m L∧Touch g w w':=by
 have hlen:=h.len
 have hL:L.length=m*51:=by
  rw [List.length_append,h0] at hlen
  omega
 obtain⟨g',cap',rest,hv,hg',hc1,hcm,hh,hl⟩:=h.blk (Nat.succ_pos m)
 cases hg'
 injection hv with _ _ hcc
 subst hcc
 have HH:=qh hh
 have hm1:((m+1:Nat):Int)=(m:Int)+1:=by omega
 have hcap:(m:Int)+1≤cap:=by omega
 have hH1:=qh h1
 have HT:=qh (Touch.refl g w)
 have hcm2:(cap=m)=False:=by simp;omega
 have hmle:(m:Int)≤(m:Int)+1:=by omega
 have hle:(1:Int)≤(m:Int)+1:=by omega
 have hcc:cap=1∨(cap=1)=False:=by by_cases h:cap=1<;>simp [h]
 clear h hlen h1
 go_enter Tryz.func49,Tryz.ntmps49
 go_upto_region 5 with (fail)
 rcases hcc with rfl|hcc
 ·obtain rfl:m=0:=by omega
  have HH:=qh (HH.out.bel (t_drew _ w))
  have HT:=qh (HT.out.bel (t_drew _ w))
  refine wp_region_noPanic ?_
  refine wp_region_late (S:=fun W'=>Below w.drew.heap.size w.drew W') (X0:=[6]) (by as_aux_lemma=>kernel_rfl) ?_
  generalize w.drew=wd at HH HT ⊢
  have hSn:Below wd.heap.size wd wd:=Below.refl _ _
  change wpAnyL _ _ _ _ _ _ 8 #[false,false,false,false,false,false,false,false] _ _
  refine mvA 0 (some 20) (fun _=>hSn) ?_
  simp only [Act.put,zA,zB,zC]
  refine mvA 1 (some 21) (fun _=>hSn) ?_
  simp only [Act.put,zA,zB,zC]
  refine mvA 2 (some 22) (fun _=>hSn) ?_
  simp only [Act.put,zA,zB,zC]
  refine mvA 3 (some 23) (fun _=>hSn) ?_
  simp only [Act.put,zA,zB,zC]
  refine mvA 4 (some 24) (fun _=>hSn) ?_
  simp only [Act.put,zA,zB,zC]
  refine mvA 5 (some 25) (fun _=>hSn) ?_
  simp only [Act.put,zA,zB,zC]
  refine rd1 6 rfl (fun K hK=>?_)
  refine step_append_spare rfl (.tmp 22) (.tmp 25) 34 rfl 47 (.agg letZ.toArray) 51 480 rfl (by kernel_rfl) g 0 _ [] rfl (OwnS.mk' (rest:=L0++L++rest) (HH.out.bel hSn) rfl hl (Nat.zero_le _) hcm) _ 0 _ L rfl hL (fun j u hu=>?_) hH1.out (by omega) ?_
  ·first|(have h9:=(List.getElem?_eq_some_iff.1 hu).1;omega)|(rw [(HH.out.bel hSn).cell,List.append_assoc,List.getElem?_append_right (by omega),h0,Nat.add_sub_cancel_left,List.getElem?_append_left (List.getElem?_eq_some_iff.1 hu).1];exact hu)
  intro w2 ho2 ht2
  have HT:=qh ((HT.out.bel hSn).trans ht2)
  have HO:=qh ho2
  clear ho2 ht2
  change K (Act.put _ (some 26) _) _
  refine hK.out _ _ nlA ?_
  clear hK
  try simp only [Act.put,zA,zB,zC]
  refine mvA 7 (some 0) nlA ?_
  simp only [Act.put,zA,zB,zC]
  refine dnA (NoPanic.normal ?_)
  have HO:=qh (show OwnS w2 (.slice (some ⟨g,0,none⟩) 0 _) (some g) 47 51 0 L by simpa using HO.out)
  obtain⟨g2,cap2,r2,hv2,hg2,hd1,hd2,hh2,hl2⟩:=HO.out.cases.resolve_left (fun hx=>by cases hx.1)
  cases hg2
  injection hv2 with _ _ hcq
  subst hcq
  have HG:=qh hh2
  have hr2:51≤r2.length:=by rw [List.length_append] at hl2;omega
  clear hSn HH hh2
  go_wp2_with (first
   | (refine wpList_clear_at rfl (.tmp 31) 34 rfl rfl 47 (.agg letZ.toArray) rfl (by kernel_rfl) g (0*51) 1 _ (by decide) rfl _ 47 HG.out letZ (by kernel_rfl) (by simp [letZ];omega) letZ_one ?_;intro w5 hh5 ht5))
  have hsp:splice (L++r2) (0*51) letZ=L++(letZ++r2.drop 51):=by
   unfold splice
   rw [List.take_append_of_le_length (by omega),List.take_of_length_le (by omega)]
   try simp only [List.append_assoc]
   rw [← hL,show L.length+letZ.length=L.length+51 from rfl,show (L++r2).drop (L.length+51)=r2.drop 51 by simp [List.drop_append]]
  have hh5:=hsp▸hh5
  refine bodyPost_ret (v:=.slice (some ⟨g,0,none⟩) 0 1) (by simp [results,Tryz.results49,go_sem]) rfl ?_
  refine⟨rfl,OwnS.mk' hh5 hL ?_ (by omega) hcm,HT.out.trans ht5⟩
  rw [List.length_append] at hl2
  simp only [List.length_append,List.length_drop,show letZ.length=51 from rfl]
  omega
 ·skip
  have HH:=qh (HH.out.bel (t_drew _ w))
  have HT:=qh (HT.out.bel (t_drew _ w))
  refine wp_region_noPanic ?_
  refine wp_region_late (S:=fun W'=>Below w.drew.heap.size w.drew W') (X0:=[6]) (by as_aux_lemma=>kernel_rfl) ?_
  generalize w.drew=wd at HH HT ⊢
  have hSn:Below wd.heap.size wd wd:=Below.refl _ _
  change wpAnyL _ _ _ _ _ _ 8 #[false,false,false,false,false,false,false,false] _ _
  refine mvA 0 (some 20) (fun _=>hSn) ?_
  simp only [Act.put,zA,zB,zC]
  refine mvA 1 (some 21) (fun _=>hSn) ?_
  simp only [Act.put,zA,zB,zC]
  refine mvA 2 (some 22) (fun _=>hSn) ?_
  simp only [Act.put,zA,zB,zC]
  refine mvA 3 (some 23) (fun _=>hSn) ?_
  simp only [Act.put,zA,zB,zC]
  refine mvA 4 (some 24) (fun _=>hSn) ?_
  simp only [Act.put,zA,zB,zC]
  refine mvA 5 (some 25) (fun _=>hSn) ?_
  simp only [Act.put,zA,zB,zC]
  refine rd1 6 rfl (fun K hK=>?_)
  refine step_append_spare rfl (.tmp 22) (.tmp 25) 34 rfl 47 (.agg letZ.toArray) 51 480 rfl (by kernel_rfl) g 0 _ [] rfl (OwnS.mk' (rest:=L0++L++rest) (HH.out.bel hSn) rfl hl (Nat.zero_le _) hcm) _ m _ L rfl hL (fun j u hu=>?_) hH1.out (by omega) ?_
  ·first|(have h9:=(List.getElem?_eq_some_iff.1 hu).1;omega)|(rw [(HH.out.bel hSn).cell,List.append_assoc,List.getElem?_append_right (by omega),h0,Nat.add_sub_cancel_left,List.getElem?_append_left (List.getElem?_eq_some_iff.1 hu).1];exact hu)
  intro w2 ho2 ht2
  have HT:=qh ((HT.out.bel hSn).trans ht2)
  have HO:=qh ho2
  clear ho2 ht2
  change K (Act.put _ (some 26) _) _
  refine hK.out _ _ nlA ?_
  clear hK
  try simp only [Act.put,zA,zB,zC]
  refine mvA 7 (some 0) nlA ?_
  simp only [Act.put,zA,zB,zC]
  refine dnA (NoPanic.normal ?_)
  have HO:=qh (show OwnS w2 (.slice (some ⟨g,0,none⟩) m _) (some g) 47 51 m L by simpa using HO.out)
  obtain⟨g2,cap2,r2,hv2,hg2,hd1,hd2,hh2,hl2⟩:=HO.out.cases.resolve_left (fun hx=>by cases hx.1)
  cases hg2
  injection hv2 with _ _ hcq
  subst hcq
  have HG:=qh hh2
  have hr2:51≤r2.length:=by rw [List.length_append] at hl2;omega
  clear hSn HH hh2
  go_wp2_with (first
   | (refine wpList_clear_at rfl (.tmp 31) 34 rfl rfl 47 (.agg letZ.toArray) rfl (by kernel_rfl) g (m*51) 1 _ (by decide) rfl _ 47 HG.out letZ (by kernel_rfl) (by simp [letZ];omega) letZ_one ?_;intro w5 hh5 ht5))
  have hsp:splice (L++r2) (m*51) letZ=L++(letZ++r2.drop 51):=by
   unfold splice
   rw [List.take_append_of_le_length (by omega),List.take_of_length_le (by omega)]
   try simp only [List.append_assoc]
   rw [← hL,show L.length+letZ.length=L.length+51 from rfl,show (L++r2).drop (L.length+51)=r2.drop 51 by simp [List.drop_append]]
  have hh5:=hsp▸hh5
  refine bodyPost_ret (v:=.slice (some ⟨g,0,none⟩) m cap) (by simp [results,Tryz.results49,go_sem]) rfl ?_
  refine⟨rfl,OwnS.mk' hh5 hL ?_ (by omega) hcm,HT.out.trans ht5⟩
  rw [List.length_append] at hl2
  simp only [List.length_append,List.length_drop,show letZ.length=51 from rfl]
  omega
end
section
open Go.RowKit Go.Maps
theorem cmOk_of (c:Cm) (h:rightA c.k c.c c.s c.a c.b c.o c.v=true) (hk:c.k≠0):CmOk c:=by
 have h2:=h
 unfold rightA at h2
 rw [Bool.or_eq_true] at h2
 rcases h2 with h2|h2
 ·simp only [zeroC,Bool.and_eq_true,beq_iff_eq] at h2
  exact absurd h2.1 hk
 ·simp only [Bool.and_eq_true,decide_eq_true_eq,Bool.not_eq_true',longB,Bool.or_eq_false_iff,decide_eq_false_iff_not] at h2
  exact⟨h,⟨h2.1.1.1,h2.1.1.2⟩,h2.1.2.1,h2.1.2.2,by omega,by omega,by omega,by omega⟩
end
section
open Go.RowKit Go.Maps
def ptrs (n:Nat) (gs:Nat→Nat):List Value:=(List.range n).map fun i=>.pointer (some ⟨gs i,0,none⟩)
theorem ptrs_len (n:Nat) (gs:Nat→Nat):(ptrs n gs).length=n:=by simp [ptrs]
theorem ptrs_at (n:Nat) (gs:Nat→Nat) (rest:List Value) (i:Nat) (hi:i<n):(ptrs n gs++rest)[i]?=some (.pointer (some ⟨gs i,0,none⟩)):=by
 rw [List.getElem?_append_left (by rw [ptrs_len];exact hi)]
 simp [ptrs,hi]
def evL (k:Int) (c:Cm) (v:Int):List Value:=[.int .i64 k,.int .i64 1,.int .i64 c.k,.int .i64 1,.int .i64 1,.string c.a,.string c.b,.string c.o,.string c.v,.int .i64 0,.bool false,.string ⟨#[]⟩,.int .i64 v,.slice none 0 0]
def histV (c:Cm):Nat→List Value
 | 0=>evL 1 c 0
 | _=>evL 2 c (verOf c)
def clusL (n:Nat) (dv nv clv cav lv hv:Value):List Value:=[.int .i64 n,dv,nv,clv,cav,lv,hv]
structure ClB (w:World) (own:Nat→Nat) (gC n q:Nat) (c:Cm) (lets:List Lt) (hist:Nat) (wait:Bool) (dv:Value) (gN cN gCl cCl gCa:Nat) (lv hv:Value) (gs gcl:Nat→Nat):Prop where
 cl:Holds w gC 85 (clusL n dv (.slice (some ⟨gN,0,none⟩) n cN) (.slice (some ⟨gCl,0,none⟩) 8 cCl) (.slice (some ⟨gCa,0,none⟩) 8 8) lv hv)
 ow:own gC=1∧own gN=1∧own gCl=1∧own gCa=1
 np:∃ rest,Holds w gN 59 (ptrs n gs++rest)
 cN:n≤cN∧cN≤maxLen
 cp:∃ rest,Holds w gCl 92 (ptrs 8 gcl++rest)
 cCl:8≤cCl∧cCl≤maxLen
 c0:(hist=0∧wait=false∧CAt w (gcl 0) 1 0 Cm.zero false 0 0)∨(hist≠0∧∃ tg tk,CAt w (gcl 0) 1 1 c wait tg tk)
 cs:∀ j,j<8→j≠0→CAt w (gcl j) ((j:Int)+1) 0 Cm.zero false 0 0
 clo:∀ j,j<8→own (gcl j)=1
 calls:∃ cs rest,Holds w gCa 23 (cs++rest)∧cs.length=7∧rest.length=49∧(hist≠0→cs=c.cells)
 lts:∃ ob,OwnS w lv ob 47 51 lets.length (flat 51 lets.length (letV c q lets))∧∀ g,ob=some g→own g=1
 his:NilIf hist hv∧∃ ob,OwnS w hv ob 55 14 hist (flat 14 hist (histV c))∧∀ g,ob=some g→own g=1
 lt:∀ k,own k≠0→k<w.heap.size
def NodesAt (w:World) (own:Nat→Nat) (n q:Nat) (c:Cm) (phs:List Ph) (tk:Nat) (gs:Nat→Nat) (out:Nat→List Lt) (an:Nat→Bool):Prop:=
 ∀ i,i<n→NodeC w (fun k=>own k=2+i) (gs i) n i q c (phs.getD i .fresh) (out i) (an i) tk
def ClG (w:World) (own:Nat→Nat) (gC n q:Nat) (c:Cm) (s:Cs) (out:Nat→List Lt) (an:Nat→Bool):Prop:=
 ∃ dv gN cN gCl cCl gCa lv hv gs gcl,ClB w own gC n q c s.lets s.hist s.wait dv gN cN gCl cCl gCa lv hv gs gcl∧NodesAt w own n q c s.phs s.tk gs out an∧s.phs.length=n
def ClSt (w:World) (own:Nat→Nat) (gC n q:Nat) (c:Cm) (s:Cs):Prop:=ClG w own gC n q c s (fun _=>[]) (fun _=>false)
def ownAll (own:Nat→Nat) (w w':World) (x:Nat):Nat→Nat:=fun k=>if w.heap.size≤k∧k<w'.heap.size then x else own k
section
variable {w w':World} {own own':Nat→Nat} {gC n q:Nat} {c:Cm} {lets:List Lt} {hist:Nat} {wait:Bool} {dv:Value} {gN cN gCl cCl gCa:Nat} {lv hv:Value} {gs gcl:Nat→Nat} {phs:List Ph} {tk:Nat} {out:Nat→List Lt} {an:Nat→Bool}
theorem ClB.mv {G:Foot} (h:ClB w own gC n q c lets hist wait dv gN cN gCl cCl gCa lv hv gs gcl) (hm:Mv G w w') (hG:∀ k,G k→k<w.heap.size→own k≠1) (ho:∀ k,k<w.heap.size→own' k=own k) (hlt:∀ k,own' k≠0→k<w'.heap.size):ClB w' own' gC n q c lets hist wait dv gN cN gCl cCl gCa lv hv gs gcl:=by
 obtain⟨a1,⟨o1,o2,o3,o4⟩,⟨r1,a2⟩,a3,⟨r2,a4⟩,a5,a6,a7,a8,⟨cs,r3,a9,a10,a11,a12⟩,⟨ob,b1,b2⟩,⟨b3,ob2,b4,b5⟩,b6⟩:=h
 have hn:∀ k,k<w.heap.size→own k=1→¬ G k:=fun k hk h1 hg=>hG k hg hk h1
 refine⟨a1.mv hm (hn _ a1.lt o1),⟨by rw [ho _ a1.lt,o1],by rw [ho _ a2.lt,o2],by rw [ho _ a4.lt,o3],by rw [ho _ a9.lt,o4]⟩,⟨r1,a2.mv hm (hn _ a2.lt o2)⟩,a3,⟨r2,a4.mv hm (hn _ a4.lt o3)⟩,a5,?_,fun j hj h0=>(a7 j hj h0).mv hm (hn _ (a7 j hj h0).lt (a8 j hj)),fun j hj=>?_,⟨cs,r3,a9.mv hm (hn _ a9.lt o4),a10,a11,a12⟩,⟨ob,b1.mv hm fun g hg=>hn _ (b1.lt g hg) (b2 g hg),fun g hg=>by rw [ho _ (b1.lt g hg),b2 g hg]⟩,⟨b3,ob2,b4.mv hm fun g hg=>hn _ (b4.lt g hg) (b5 g hg),fun g hg=>by rw [ho _ (b4.lt g hg),b5 g hg]⟩,hlt⟩
 ·rcases a6 with⟨h1,h2,h3⟩|⟨h1,tg,tk,h3⟩
  ·exact .inl ⟨h1,h2,h3.mv hm (hn _ h3.lt (a8 0 (by omega)))⟩
  ·exact .inr ⟨h1,tg,tk,h3.mv hm (hn _ h3.lt (a8 0 (by omega)))⟩
 ·have:gcl j<w.heap.size:=by
   by_cases h0:j=0
   ·subst h0
    rcases a6 with⟨_,_,h3⟩|⟨_,tg,tk,h3⟩
    ·exact h3.lt
    ·exact h3.lt
   ·exact (a7 j hj h0).lt
  rw [ho _ this,a8 j hj]
theorem NodeC.mv {F G:Foot} {g n me q:Nat} {c:Cm} {ph:Ph} {out:List Lt} {an:Bool} {tk:Nat} (h:NodeC w F g n me q c ph out an tk) (hm:Mv G w w') (hG:∀ k,G k→k<w.heap.size→¬ F k):NodeC w' F g n me q c ph out an tk:=by
 obtain⟨t,ht,h⟩:=h
 exact⟨t,ht,h.mv hm hG⟩
theorem NodesAt.mv {G:Foot} (h:NodesAt w own n q c phs tk gs out an) (hm:Mv G w w') (hG:∀ k,G k→k<w.heap.size→own k<2) (ho:∀ k,k<w.heap.size→own' k=own k):NodesAt w' own' n q c phs tk gs out an:=fun i hi=>by
 have h1:NodeC w (fun k=>own' k=2+i) (gs i) n i q c (phs.getD i .fresh) (out i) (an i) tk:=(h i hi).foot fun k hk hl=>by rw [ho k hl];exact hk
 exact h1.mv hm fun k hk hl hx=>by
  have:=hG k hk hl
  rw [ho k hl] at hx
  omega
theorem ClG.bel {s:Cs} (h:ClG w own gC n q c s out an) (hb:Below w.heap.size w w'):ClG w' own gC n q c s out an:=by
 obtain⟨dv,gN,cN,gCl,cCl,gCa,lv,hv,gs,gcl,h1,h2,h3⟩:=h
 exact⟨dv,gN,cN,gCl,cCl,gCa,lv,hv,gs,gcl,h1.mv (G:=fun _=>False) (.of_below hb) (fun _ h=>h.elim) (fun _ _=>rfl) (fun k hk=>Nat.lt_of_lt_of_le (h1.lt k hk) hb.size),h2.mv (G:=fun _=>False) (.of_below hb) (fun _ h=>h.elim) (fun _ _=>rfl),h3⟩
end
end
end Go.Proofs.YtimdpiifpibgfaaGreatDoor
