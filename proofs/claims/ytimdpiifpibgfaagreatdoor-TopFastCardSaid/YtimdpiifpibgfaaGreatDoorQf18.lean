/- For every input the law TopFast returns true (a part of the proof). Condition: the listed variables start as the program's text lays them. -/
import Derived.Test.YtimdpiifpibgfaaGreatDoorQf17
set_option linter.unusedVariables false
set_option linter.unusedSimpArgs false
set_option maxRecDepth 20000
set_option maxHeartbeats 16000000
namespace Go.Proofs.YtimdpiifpibgfaaGreatDoor
section
open Go.RowKit
theorem kfind0 (s:ByteArray) (w:World):Calls Tryz.prog 239 #[.slice none 0 0,.string s] w fun e w'=>e=.returned (.tuple #[.int .i64 0,.bool false])∧Below w.heap.size w w':=by
 go_enter Tryz.func239,Tryz.ntmps239
 go_wp2_with fail
 go_loop [10] (fun vi=>vi=.int .i64 0) (fun _=>0)
 case atStart=>exact rfl
 case round=>
  obtain rfl:=hrel
  go_wp2_with fail
  go_ret2
  exact⟨rfl,Below.refl _ _⟩
def pairL (k v:ByteArray) (n:Int):List Value:=[.string k,.string v,.int .i64 n]
theorem pair_one (k v:ByteArray) (n:Int):(pairL k v n).toArray.all (·.oneCell')=true:=by simp [pairL,Value.oneCell']
theorem kget0 (s:ByteArray) (w:World):Calls Tryz.prog 180 #[.slice none 0 0,.string s] w fun e w'=>e=.returned (.tuple #[.agg (pairL ⟨#[]⟩ ⟨#[]⟩ 0).toArray,.bool false])∧Below w.heap.size w w':=by
 have KF:=qh (kfind0 s)
 go_enter Tryz.func180,Tryz.ntmps180
 go_upto_region 1 with (fail)
 go_name_world W hW
 have hW:allocs w [.cells (pairL ⟨#[]⟩ ⟨#[]⟩ 0:List Value).toArray 69]=W:=hW
 have HZ:=qh (show Holds W (w.heap.size) 69 (pairL ⟨#[]⟩ ⟨#[]⟩ 0) from holds_allocs _ hW 0 rfl)
 have hbW:=below_allocs _ hW
 have hsW:=size_allocs _ hW
 simp only [List.length_cons,List.length_nil] at hsW
 clear hW
 have HB:=qh (Base.start w)
 have HB:=qh (HB.out.bel hbW)
 clear hbW hsW
 generalize hB0:w.heap.size=B at HZ HB ⊢
 go_wp2_with fail
 refine (KF.out _).mono ?_
 rintro e w1 ⟨rfl,hb⟩
 have HZ:=qh (HZ.out.bel hb)
 have HB:=qh (HB.out.bel hb)
 clear hb
 go_wp2_with (first
  | (refine wpList_store_whole rfl 69 (.tmp 4) (.tmp 16) B (pairL ⟨#[]⟩ ⟨#[]⟩ 0) (pairL ⟨#[]⟩ ⟨#[]⟩ 0) rfl rfl rfl rfl HZ.out (by kernel_rfl) rfl (pair_one _ _ _) ?_;intro w5 hh5 ht5))
 have HB:=qh (HB.out.touch ht5 (Nat.le_refl _))
 have HR:=qh hh5.range0
 clear hh5 ht5
 refine bodyPost_ret (v:=.tuple #[.agg (pairL ⟨#[]⟩ ⟨#[]⟩ 0).toArray,.bool false]) (results_cell_tmp Tryz.results180 _ _ B _ _ _ rfl rfl HR.out Tryz.underlying69 rfl (by kernel_rfl)) rfl ?_
 exact⟨rfl,hB0▸HB.out.below⟩
theorem kdel0 (s:ByteArray) (w:World):Calls Tryz.prog 182 #[.slice none 0 0,.string s] w fun e w'=>e=.returned (.tuple #[.slice none 0 0,.bool false])∧Below w.heap.size w w':=by
 have KF:=qh (kfind0 s)
 have KC:=qh clonePair_nil
 go_enter Tryz.func182,Tryz.ntmps182
 go_wp2_with fail
 refine (KC.out _).mono ?_
 rintro e w1 ⟨rfl,hb⟩
 have HB:=qh hb;clear hb
 go_wp2_with fail
 refine (KF.out _).mono ?_
 rintro e w2 ⟨rfl,hb⟩
 have HB:=qh (below_next HB.out hb);clear hb
 go_wp2_with fail
 go_ret2
 exact⟨rfl,HB.out⟩
theorem krange0 (a b:ByteArray) (w:World):Calls Tryz.prog 183 #[.slice none 0 0,.agg #[.string a,.string b]] w fun e w'=>e=.returned (.tuple #[.slice none 0 0,.bool false])∧Below w.heap.size w w':=by
 go_enter Tryz.func183,Tryz.ntmps183
 go_wp2_with fail
 have HB:=qh (show Below w.heap.size w (w.alloc (.cells #[.string a,.string b] 286)) by go_grown)
 generalize w.alloc (.cells #[.string a,.string b] 286)=W at HB ⊢
 go_loop [11,6] (fun vi vo=>vi=.int .i64 0∧vo=.slice none 0 0) (fun _ _=>0)
 case atStart=>exact⟨rfl,rfl⟩
 case round=>
  obtain⟨rfl,rfl⟩:=hrel
  go_wp2_with fail
  go_ret2
  exact⟨rfl,HB.out⟩
theorem ins_pair (bs:Nat) (L:List Value) (hL:L.length=3) (h1:∀ u∈L,u.oneCell'=true) (w:World) (h:Holds w bs 69 L) :
  Calls Tryz.prog 240 #[.slice none 0 0,.int .i64 0,.slice (Option.some ⟨bs,0,none⟩) 1 1] w fun e w'=>∃ g c rest,e=.returned (.slice (Option.some ⟨g,0,none⟩) 1 c)∧1≤c∧c≤maxLen∧Holds w' g 69 (L++rest)∧(L++rest).length=c*3∧w.heap.size≤g∧Below w.heap.size w w':=by
 have HH:=qh h;have H1:=qh h1;clear h h1
 go_enter Tryz.func240,Tryz.ntmps240
 go_wp2_with (first
  | (at_builtin;refine wpList_append_s rfl (.tmp 23) (.tmp 24) 51 rfl 69 (.agg #[.string ⟨#[]⟩,.string ⟨#[]⟩,.int .i64 0]) 3 40 rfl (by kernel_rfl) rfl (by decide) _ none 0 [] rfl (OwnS.nil _ _ _) _ 1 1 L rfl hL (HH.out.reads 0 L (fun j v hv=>by rw [Nat.zero_add];exact hv)) (by decide) H1.out (by unfold maxLen;omega) (by omega) ?_;intro v2 ob2 w2 ho2 hob2 hm2))
 rw [List.nil_append,Nat.zero_add] at ho2
 obtain⟨g,c,rest,rfl,rfl,hc1,hc2,hh,hl⟩:=ho2.blk (by decide)
 have hg:w.heap.size≤g:=by
  rcases hob2 with hc|⟨k,hk,hk2⟩
  ·cases hc
  ·cases hk;exact hk2
 have HB:=qh (hm2.below (Nat.le_refl _) (fun k hk=>by cases hk))
 have HR:=qh (And.intro hh hl)
 clear ho2 hob2 hm2 hh hl
 go_ret
 exact⟨g,c,rest,rfl,hc1,hc2,HR.out.1,HR.out.2,hg,HB.out⟩
theorem kput0 (k v:ByteArray) (w:World):Calls Tryz.prog 181 #[.slice none 0 0,.string k,.string v] w fun e w'=>∃ P g,e=.returned (.tuple #[P,.int .i64 0])∧OwnS w' P (Option.some g) 69 3 1 (pairL k v 1)∧w.heap.size≤g∧Below w.heap.size w w':=by
 have KF:=qh (kfind0 k)
 have KC:=qh clonePair_nil
 have KI:=qh (fun bs W (h:Holds W bs 69 (pairL k ⟨#[]⟩ 0))=>ins_pair bs _ rfl (by simp [pairL,Value.oneCell']) W h)
 have HB:=qh (Base.start w)
 go_enter Tryz.func181,Tryz.ntmps181
 go_wp2_with fail
 refine (KF.out _).mono ?_
 rintro e w1 ⟨rfl,hb⟩
 have HB:=qh (HB.out.bel hb)
 clear hb
 go_wp2_with fail
 refine (KC.out _).mono ?_
 rintro e w2 ⟨rfl,hb⟩
 have HB:=qh (HB.out.bel hb)
 clear hb
 go_wp2_with fail
 have HN:=qh (holds_alloc w2 69 [.string k,.string ⟨#[]⟩,.int .i64 0])
 have hal:Below w2.heap.size w2 (w2.alloc (.cells #[.string k,.string ⟨#[]⟩,.int .i64 0] 69)):=by go_grown
 have HB:=qh (HB.out.bel hal)
 have hs:=HB.out.le
 clear hal
 generalize w2.alloc (.cells #[.string k,.string ⟨#[]⟩,.int .i64 0] 69)=w5 at HN HB hs ⊢
 generalize w2.heap.size=gn at HN ⊢
 refine (KI.out _ _ HN.out).mono ?_
 rintro e w6 ⟨g,c,r,rfl,hc1,hcm1,hf,hlen,hg1,hb⟩
 have HB:=qh (HB.out.bel hb)
 have HF:=qh (show Holds w6 g 69 (.string k :: .string ⟨#[]⟩ :: .int .i64 0 :: r) from hf)
 clear hb hf HN
 go_wp2_with (first
  | (refine wpList_store_cell rfl 9 (.tmp 38) (.tmp 36) rfl rfl g 1 69 _ HF.out (by simp) rfl (.string v) rfl rfl (by kernel_rfl) rfl ?_;intro w7 hh7 ht7;have HF7:=qh (show Holds w7 g 69 (.string k :: .string v :: .int .i64 0 :: r) from hh7);have f2:=HF7.out.cell 2;simp only [yA,yB] at f2)
  | (refine wpList_store_cell rfl 3 (.tmp 46) (.tmp 44) rfl rfl g 2 69 _ HF7.out (by simp) rfl (.int .i64 1) rfl rfl (by kernel_rfl) rfl ?_;intro w8 hh8 ht8))
 have HF8:=qh (show Holds w8 g 69 (pairL k v 1++r) from hh8)
 have HB:=qh ((HB.out.touch ht7 (by omega)).touch ht8 (by omega))
 have hlen2:(pairL k v 1++r).length=c*3:=by simpa [pairL] using hlen
 clear hh8 ht8 hh7 ht7 f2 HF7 HF
 go_ret2
 exact⟨_,g,rfl,OwnS.mk' HF8.out rfl hlen2 hc1 hcm1,by omega,HB.out.below⟩
end
section
open Go.RowKit
def stateL (P:Value) (q v:Int):List Value:=P :: ownL q v
theorem state_one (p:Option Addr) (n c:Nat) (q v:Int):(stateL (.slice p n c) q v).toArray.all (·.oneCell')=true:=by simp [stateL,ownL,Value.oneCell']
theorem state_fold (P:Value) (q v:Int):List.foldl (fun (cs:Array Value) (x:Value × Nat)=>cs.setIfInBounds (1+x.snd) x.fst) #[P,.int .i64 0,.int .i64 0,.bool false,.string ⟨#[]⟩,.int .i64 0,.slice none 0 0,.int .i64 0,.int .i64 0,.bool false,.string ⟨#[]⟩,.int .i64 0,.slice none 0 0,.int .i64 0,.int .i64 0,.bool false,.string ⟨#[]⟩,.int .i64 0,.slice none 0 0,.int .i64 0,.int .i64 0,.bool false,.string ⟨#[]⟩,.int .i64 0,.slice none 0 0,.int .i64 0,.int .i64 0,.bool false,.string ⟨#[]⟩,.int .i64 0,.slice none 0 0,.int .i64 0,.int .i64 0,.bool false,.string ⟨#[]⟩,.int .i64 0,.slice none 0 0,.int .i64 0,.int .i64 0,.bool false,.string ⟨#[]⟩,.int .i64 0,.slice none 0 0,.int .i64 0,.int .i64 0,.bool false,.string ⟨#[]⟩,.int .i64 0,.slice none 0 0] (ownL q v).zipIdx=(stateL P q v).toArray:=by kernel_rfl
theorem clonePair_one (P:Value) (g:Nat) (L:List Value) (h1:∀ u∈L,u.oneCell'=true) (w:World) (h:OwnS w P (some g) 69 3 1 L) :
  Calls Tryz.prog 36 #[P] w fun e w'=>∃ p c g',e=.returned (.slice p 1 c)∧OwnS w' (.slice p 1 c) (some g') 69 3 1 L∧w.heap.size≤g'∧Below w.heap.size w w':=by
 have hlen:=h.len
 obtain⟨g0,c,rest,rfl,hg0,hc1,hcm,hh,hl⟩:=h.blk (by decide)
 cases hg0
 have HR:=qh (hh.reads 0 L (fun j v hv=>by rw [Nat.zero_add,List.getElem?_append_left (List.getElem?_eq_some_iff.1 hv).1];exact hv))
 have HO1:=qh (show OwnS (w.alloc (.cells #[] 69)) (.slice (some ⟨w.heap.size,0,none⟩) 0 0) (some w.heap.size) 69 3 0 [] from ⟨World.ownsRow_lit (size:=3) w #[] 0 (Nat.zero_le _) (by unfold maxLen;omega) (by simp),rfl⟩)
 have ha:Below w.heap.size w (w.alloc (.cells #[] 69)):=by go_grown
 have HA:=qh ha;have hsz:=ha.size
 have he:∀ W:World,(binOp .eql 51 (.slice (some ⟨g,0,none⟩) 1 c) (.slice none 0 0)).run Tryz.prog W=.ok (.bool false) W:=fun _=>by kernel_rfl
 have H1:=qh h1
 clear h hh ha h1
 go_enter Tryz.func36,Tryz.ntmps36
 go_wp2_with (first
  | (at_builtin;refine wpList_append_s rfl (.tmp 5) (.tmp 6) 51 rfl 69 (.agg #[.string ⟨#[]⟩,.string ⟨#[]⟩,.int .i64 0]) 3 40 rfl (by kernel_rfl) rfl (by decide) _ _ 0 _ rfl HO1.out (some ⟨g,0,none⟩) 1 c L rfl hlen (HR.out.below HA.out) (by decide) H1.out (by unfold maxLen;omega) (by omega) ?_;intro v2 ob2 w2 ho2 hob2 hm2))
 rw [List.nil_append,Nat.zero_add] at ho2
 have HB:=qh (HA.out.trans (hm2.below hsz (fun k hk=>by cases hk;exact Nat.le_refl _)))
 have hg:∃ g,ob2=some g∧w.heap.size≤g:=by
  rcases hob2 with hc|⟨k,hk,hk2⟩
  ·exact⟨_,hc,Nat.le_refl _⟩
  ·exact⟨k,hk,by omega⟩
 obtain⟨g',rfl,hg'⟩:=hg
 obtain⟨g2,c2,r2,rfl,_,_,_,_,_⟩:=ho2.blk (by decide)
 have H2:=qh ho2
 clear ho2 hm2 hob2
 go_ret
 exact⟨_,_,_,rfl,H2.out,hg',HB.out⟩
theorem scopied_nil (q v:Int) (w:World) :
  Calls Tryz.prog 57 #[.agg (stateL (.slice none 0 0) q v).toArray] w fun e w'=>e=.returned (.agg (stateL (.slice none 0 0) q v).toArray)∧Below w.heap.size w w':=by
 have KC:=qh clonePair_nil
 have KN:=qh (fun W=>note0 q v W)
 have hlo:(ownL q v).length=48:=rfl
 have hsf:=fun P=>state_fold P q v
 go_enter Tryz.func57,Tryz.ntmps57
 go_upto_region 1 with (fail)
 go_name_world W hW
 have hW:allocs w [.cells (stateL (.slice none 0 0) q v:List Value).toArray 66,.cells (stateL (.slice none 0 0) 0 0:List Value).toArray 66]=W:=hW
 have HS:=qh (show Holds W (w.heap.size) 66 (stateL (.slice none 0 0) q v) from holds_allocs _ hW 0 rfl)
 have HZ:=qh (show Holds W (w.heap.size+1) 66 (stateL (.slice none 0 0) 0 0) from holds_allocs _ hW 1 rfl)
 have hbW:=below_allocs _ hW
 have hsW:=size_allocs _ hW
 simp only [List.length_cons,List.length_nil] at hsW
 clear hW
 have HB:=qh (Base.start w)
 have HB:=qh (HB.out.bel hbW)
 have hwW:w.heap.size+1<W.heap.size:=by omega
 clear hbW hsW
 have hne:w.heap.size≠w.heap.size+1:=by omega
 generalize hz0:w.heap.size+1=gz at HZ hne hwW ⊢
 have hzb:w.heap.size≤gz:=by omega
 generalize hB0:w.heap.size=B at HS HB hne hzb ⊢
 have HSR:=fun (w':World) (h:Below W.drew.heap.size W.drew w')=>(((HS.out.bel (t_drew _ W)).bel h).rangeO 1 (cs:=ownL q v) (fun j v hv=>by rw [Nat.add_comm];exact hv))
 have HSR:=qh HSR
 have hwd:B≤W.drew.heap.size:=HB.out.le
 have hwz:gz<W.drew.heap.size:=hwW
 clear hwW
 have HS:=qh (HS.out.bel (t_drew _ W))
 have HZ:=qh (HZ.out.bel (t_drew _ W))
 have HB:=qh (HB.out.bel (t_drew _ W))
 refine wp_region_noPanic ?_
 refine wp_region_late (S:=fun W'=>Below W.drew.heap.size W.drew W') (X0:=[8]) (by as_aux_lemma=>kernel_rfl) ?_
 generalize W.drew=wd at HS HZ HB HSR hwd hwz ⊢
 have hSn:Below wd.heap.size wd wd:=Below.refl _ _
 change wpAnyL _ _ _ _ _ _ 9 #[false,false,false,false,false,false,false,false,false] _ _
 refine mvA 0 (some 3) (fun _=>hSn) ?_
 simp only [Act.put,zA,zB,zC]
 refine tkA 1 [2,6,7,8] (some 4) (?vg2) rfl (Or.inl ⟨by rfl,?hg2⟩) hSn ?rg2
 case hg2=>
  intro w hSw
  have b0:=(HS.out.bel hSw).cell 0
  simp only [stateL,yA,yB] at b0
  go_simp
  try with_reducible rfl
 simp only [Act.put,zA,zB,zC]
 refine mvA 3 (some 6) (fun _=>hSn) ?_
 simp only [Act.put,zA,zB,zC]
 refine tkA 4 [6,7,8] (some 7) (.agg (ownL q v).toArray) rfl (yieldsIf_load_mid (by rfl) 64 _ rfl B 1 rfl (ownL q v) _ (fun w hSw=>HSR.out w hSw) Tryz.underlying64 rfl (by as_aux_lemma=>kernel_rfl)) hSn ?rg4
 simp only [Act.put,zA,zB,zC]
 refine mvA 5 (some 8) (fun _=>hSn) ?_
 simp only [Act.put,zA,zB,zC]
 refine rd1 2 rfl (fun K hK=>?_)
 go_simp
 refine (KC.out _).mono ?_
 rintro e w2 ⟨rfl,hb⟩
 have hSn:=below_next hSn hb
 clear hb
 refine hK.out _ _ (fun _=>hSn) ?_
 clear hK
 try simp only [Act.put,zA,zB,zC]
 refine rd1 6 rfl (fun K hK=>?_)
 go_simp
 refine (KN.out _).mono ?_
 rintro e w3 ⟨rfl,hb⟩
 have hSn:=below_next hSn hb
 clear hb
 refine hK.out _ _ (fun _=>hSn) ?_
 clear hK
 try simp only [Act.put,zA,zB,zC]
 refine mvA 7 (some 10) (fun _=>hSn) ?_
 simp only [Act.put,zA,zB,zC]
 refine rd1 8 rfl (fun K hK=>?_)
 refine step_store_box rfl 66 (.tmp 2) (.tmp 10) gz (stateL (.slice none 0 0) 0 0) (stateL (.slice none 0 0) q v) rfl rfl rfl rfl (HZ.out.bel hSn) (by kernel_rfl) rfl (state_one _ _ _ _ _) ?_
 intro w5 hh5 ht5
 refine hK.out _ _ nlA ?_
 clear hK
 try simp only [Act.put,zA,zB,zC]
 refine dnA (NoPanic.normal ?_)
 have HB:=qh ((HB.out.bel hSn).touch ht5 hzb)
 have HRR:=qh hh5.range0
 clear hh5 ht5
 go_wp2_with fail
 refine bodyPost_ret (v:=.agg (stateL (.slice none 0 0) q v).toArray) (results_cell Tryz.results57 _ _ gz _ _ rfl HRR.out Tryz.underlying66 rfl (by kernel_rfl)) rfl ?_
 exact⟨rfl,hB0▸HB.out.below⟩
theorem scopied_one (P:Value) (g:Nat) (L:List Value) (h1:∀ u∈L,u.oneCell'=true) (q v:Int) (w:World) (h:OwnS w P (some g) 69 3 1 L) :
  Calls Tryz.prog 57 #[.agg (stateL P q v).toArray] w fun e w'=>∃ p c g',e=.returned (.agg (stateL (.slice p 1 c) q v).toArray)∧OwnS w' (.slice p 1 c) (some g') 69 3 1 L∧w.heap.size≤g'∧Below w.heap.size w w':=by
 have KC:=qh (fun W (h:OwnS W P (some g) 69 3 1 L)=>clonePair_one P g L h1 W h)
 have HP:=qh h
 clear h h1
 have hp:∃ p c,P=.slice p 1 c:=by obtain⟨g0,c,_,rfl,_⟩:=HP.out.blk (by decide);exact⟨_,_,rfl⟩
 obtain⟨pp,pc,rfl⟩:=hp
 have KN:=qh (fun W=>note0 q v W)
 have hlo:(ownL q v).length=48:=rfl
 have hsf:=fun P=>state_fold P q v
 go_enter Tryz.func57,Tryz.ntmps57
 go_upto_region 1 with (fail)
 go_name_world W hW
 have hW:allocs w [.cells (stateL (.slice pp 1 pc) q v:List Value).toArray 66,.cells (stateL (.slice none 0 0) 0 0:List Value).toArray 66]=W:=hW
 have HS:=qh (show Holds W (w.heap.size) 66 (stateL (.slice pp 1 pc) q v) from holds_allocs _ hW 0 rfl)
 have HZ:=qh (show Holds W (w.heap.size+1) 66 (stateL (.slice none 0 0) 0 0) from holds_allocs _ hW 1 rfl)
 have hbW:=below_allocs _ hW
 have hsW:=size_allocs _ hW
 simp only [List.length_cons,List.length_nil] at hsW
 clear hW
 have HB:=qh (Base.start w)
 have HB:=qh (HB.out.bel hbW)
 have HP:=qh (HP.out.bel hbW)
 have hwW:w.heap.size+1<W.heap.size:=by omega
 clear hbW hsW
 have hne:w.heap.size≠w.heap.size+1:=by omega
 generalize hz0:w.heap.size+1=gz at HZ hne hwW ⊢
 have hzb:w.heap.size≤gz:=by omega
 generalize hB0:w.heap.size=B at HS HB hne hzb ⊢
 have HSR:=fun (w':World) (h:Below W.drew.heap.size W.drew w')=>(((HS.out.bel (t_drew _ W)).bel h).rangeO 1 (cs:=ownL q v) (fun j v hv=>by rw [Nat.add_comm];exact hv))
 have HSR:=qh HSR
 have hwd:B≤W.drew.heap.size:=HB.out.le
 have hwz:gz<W.drew.heap.size:=hwW
 clear hwW
 have HS:=qh (HS.out.bel (t_drew _ W))
 have HZ:=qh (HZ.out.bel (t_drew _ W))
 have HB:=qh (HB.out.bel (t_drew _ W))
 have HP:=qh (HP.out.bel (t_drew _ W))
 refine wp_region_noPanic ?_
 refine wp_region_late (S:=fun W'=>Below W.drew.heap.size W.drew W') (X0:=[8]) (by as_aux_lemma=>kernel_rfl) ?_
 generalize W.drew=wd at HS HZ HB HP HSR hwd hwz ⊢
 have hSn:Below wd.heap.size wd wd:=Below.refl _ _
 change wpAnyL _ _ _ _ _ _ 9 #[false,false,false,false,false,false,false,false,false] _ _
 refine mvA 0 (some 3) (fun _=>hSn) ?_
 simp only [Act.put,zA,zB,zC]
 refine tkA 1 [2,6,7,8] (some 4) (?vg8) rfl (Or.inl ⟨by rfl,?hg8⟩) hSn ?rg8
 case hg8=>
  intro w hSw
  have b0:=(HS.out.bel hSw).cell 0
  simp only [stateL,yA,yB] at b0
  go_simp
  try with_reducible rfl
 simp only [Act.put,zA,zB,zC]
 refine mvA 3 (some 6) (fun _=>hSn) ?_
 simp only [Act.put,zA,zB,zC]
 refine tkA 4 [6,7,8] (some 7) (.agg (ownL q v).toArray) rfl (yieldsIf_load_mid (by rfl) 64 _ rfl B 1 rfl (ownL q v) _ (fun w hSw=>HSR.out w hSw) Tryz.underlying64 rfl (by as_aux_lemma=>kernel_rfl)) hSn ?rg10
 simp only [Act.put,zA,zB,zC]
 refine mvA 5 (some 8) (fun _=>hSn) ?_
 simp only [Act.put,zA,zB,zC]
 refine rd1 2 rfl (fun K hK=>?_)
 go_simp
 refine (KC.out _ (HP.out.bel hSn)).mono ?_
 rintro e w2 ⟨p2,c2,g2,rfl,ho2,hg2,hb⟩
 have hSn:=below_next hSn hb
 have HO:=qh ho2
 have hsq:=hSn.size
 have hgq:wd.heap.size≤g2:=by have:=HB.out.le;omega
 clear ho2 hg2
 clear hb
 refine hK.out _ _ (fun _=>hSn) ?_
 clear hK
 try simp only [Act.put,zA,zB,zC]
 refine rd1 6 rfl (fun K hK=>?_)
 go_simp
 refine (KN.out _).mono ?_
 rintro e w3 ⟨rfl,hb⟩
 have hSn:=below_next hSn hb
 try have HO:=qh (HO.out.bel hb)
 clear hb
 refine hK.out _ _ (fun _=>hSn) ?_
 clear hK
 try simp only [Act.put,zA,zB,zC]
 refine mvA 7 (some 10) (fun _=>hSn) ?_
 simp only [Act.put,zA,zB,zC]
 refine rd1 8 rfl (fun K hK=>?_)
 refine step_store_box rfl 66 (.tmp 2) (.tmp 10) gz (stateL (.slice none 0 0) 0 0) (stateL (.slice p2 1 c2) q v) rfl rfl rfl rfl (HZ.out.bel hSn) (by kernel_rfl) rfl (state_one _ _ _ _ _) ?_
 intro w5 hh5 ht5
 refine hK.out _ _ nlA ?_
 clear hK
 try simp only [Act.put,zA,zB,zC]
 refine dnA (NoPanic.normal ?_)
 have HB:=qh ((HB.out.bel hSn).touch ht5 hzb)
 have HRR:=qh hh5.range0
 have HO:=qh (HO.out.touch ht5 (fun k hk=>by cases hk;omega))
 have hgB:B≤g2:=Nat.le_trans hwd hgq
 clear hh5 ht5
 go_wp2_with fail
 refine bodyPost_ret (v:=.agg (stateL (.slice p2 1 c2) q v).toArray) (results_cell Tryz.results57 _ _ gz _ _ rfl HRR.out Tryz.underlying66 rfl (by kernel_rfl)) rfl ?_
 exact⟨_,_,rfl,g2,HO.out,hB0▸hgB,hB0▸HB.out.below⟩
end
end Go.Proofs.YtimdpiifpibgfaaGreatDoor
