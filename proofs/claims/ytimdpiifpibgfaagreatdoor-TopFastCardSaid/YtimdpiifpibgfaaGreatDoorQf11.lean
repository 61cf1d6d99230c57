/- For every input the law TopFast returns true (a part of the proof). Condition: the listed variables start as the program's text lays them. -/
import Derived.Deep.DeepMust
import Derived.Lib.AppendStr
import Derived.Deep.MidRow
import Derived.Deep.RegionHeld3
import Derived.Test.YtimdpiifpibgfaaGreatDoorQf7
import Derived.Test.YtimdpiifpibgfaaGreatDoorQf10
set_option linter.unusedVariables false
set_option linter.unusedSimpArgs false
set_option maxRecDepth 20000
set_option maxHeartbeats 16000000
namespace Go.Proofs.YtimdpiifpibgfaaGreatDoor
section
open Go.RowKit
def Own8 (w:World) (B:Nat) (v:Value) (n:Nat):Prop:=∃ bs:List Nat,bs.length=n∧((∀ x∈bs,x<256)∧n≤281474976710656)∧w.ownsRow B 5 1 v n (cells8 bs)
def Blob (w:World) (v:Value) (n:Nat):Prop:=∃ p c bs,v=.slice p n c∧(p=none→c=0)∧n≤c∧c≤maxLen∧IsBytes w p n bs
theorem Blob.below {w w':World} {v:Value} {n:Nat} (h:Blob w v n) (hb:Below w.heap.size w w'):Blob w' v n:=by
 obtain⟨p,c,bs,rfl,h1,h2,h3,h4⟩:=h
 exact⟨p,c,bs,rfl,h1,h2,h3,h4.below hb⟩
theorem Own8.below {w w':World} {B:Nat} {v:Value} {n:Nat} (h:Own8 w B v n) (hb:Below w.heap.size w w'):Own8 w' B v n:=by
 obtain⟨bs,h1,h2,h3⟩:=h
 exact⟨bs,h1,h2,owns_below h3 hb⟩
theorem Own8.mono {w:World} {B B':Nat} {v:Value} {n:Nat} (h:Own8 w B v n) (hb:B'≤B):Own8 w B' v n:=by
 obtain⟨bs,h1,h2,h3,h4⟩:=h
 exact⟨bs,h1,h2,h3,h4.imp id fun ⟨g,cap,cur,e1,e2,e3⟩=>⟨g,cap,cur,e1,Nat.le_trans hb e2,e3⟩⟩
theorem Own8.blob {w:World} {B:Nat} {v:Value} {n:Nat} (h:Own8 w B v n):Blob w v n:=by
 obtain⟨bs,h1,⟨h2,h48⟩,h3,h4⟩:=h
 rcases h4 with⟨rfl,rfl⟩|⟨g,cap,cur,rfl,hg,hh,hc,hm,hs,ht⟩
 ·exact⟨none,0,[],rfl,fun _=>rfl,Nat.le_refl _,Nat.zero_le _,IsBytes.nil _ _⟩
 ·refine⟨_,cap,bs,rfl,(fun h=>by cases h),hc,hm,h1,h48,h2,fun _=>⟨g,0,rfl,(Array.getElem?_eq_some_iff.1 hh).1,fun i hi=>?_⟩⟩
  have hcell:w.cell? ⟨g,0+i,none⟩=cur.toList[i]?:=by
   rw [Nat.zero_add]
   have:Holds w g 5 cur.toList:=hh
   exact this.cell i
  have h5:cur.toList[i]?=(cells8 bs)[i]?:=by rw [← ht,List.getElem?_take_of_lt (by omega)]
  rw [hcell,h5,getElem_cells8 bs i (by omega)]
theorem Blob.nil (w:World):Blob w (.slice none 0 0) 0:=⟨none,0,[],rfl,fun _=>rfl,Nat.le_refl _,Nat.zero_le _,IsBytes.nil _ _⟩
theorem Blob.shape {w:World} {v:Value} {n:Nat} (h:Blob w v n):∃ p c,v=.slice p n c:=by
 obtain⟨p,c,_,rfl,_⟩:=h
 exact⟨p,c,rfl⟩
theorem Own8.shape {w:World} {B:Nat} {v:Value} {n:Nat} (h:Own8 w B v n):∃ p c,v=.slice p n c:=h.blob.shape
theorem grown_any (v:Value) (len n:Nat) (w:World) (h:Blob w v len) (hl:len≤1000000000) (hn:n≤1000000) :
  Calls Tryz.prog 200 #[v,.int .i64 n] w fun e w'=>∃ v',e=.returned v'∧Own8 w' w.heap.size v' len∧Below w.heap.size w w':=by
 obtain⟨a,cap,bs,rfl,hnil,hc,hm,hb⟩:=h
 have hlen:=hb.len
 have HBS:=qh hb;clear hb
 have HNIL:=qh hnil;clear hnil
 unfold maxLen at hm
 go_enter Tryz.func200,Tryz.ntmps200
 go_upto_region 1 with (fail)
 go_wp2_with (first
  | (at_make;refine wpList_make_block w rfl (.const (.int .i64 0)) (.tmp 8) 127 rfl 5 (.int .u8 0) 1 rfl (by kernel_rfl) rfl .i64 .i64 _ _ 0 (len+n) rfl rfl rfl (by push_cast;rfl) (by omega) (by omega) (by unfold maxLen;omega) ?_;intro w1 hh1 hb1 hs1;have HO1:=qh (made_owns w.heap.size (Nat.le_refl _) hh1 (by unfold maxLen;omega)))
  | (at_builtin;refine wpList_append_cells rfl (.tmp 9) (.tmp 10) 127 rfl w.heap.size 5 (.int .u8 0) 1 1 rfl (by kernel_rfl) rfl (by decide) _ 0 [] rfl HO1.out a len cap (cells8 bs) rfl (by rw [length_cells8,hlen,Nat.mul_one]) (HBS.out.reads.below hb1) HNIL.out (cells8_one bs) (by unfold maxLen;omega) (by omega) (by omega) ?_;intro v2 w2 ho2 hb2 _;have HO2:=qh ho2;clear ho2))
 have HB:=qh (hb1.trans hb2)
 clear hh1 hb1 hs1 hb2 HO1
 go_ret
 have h1:=HO2.out
 rw [Nat.zero_add,List.nil_append] at h1
 exact⟨_,rfl,⟨bs,hlen,⟨HBS.out.2.2.1,by omega⟩,h1⟩,HB.out⟩
theorem or128 (q:Nat):∃ x:Nat,x<256∧bits BinOp.or IntKind.u8 ((q:Int) % 256) 128=(x:Int):=by
 refine⟨(q % 256) ||| 128,Nat.or_lt_two_pow (n:=8) (by omega) (by omega),?_⟩
 rw [← u8_or_nat (q % 256) 128 (by omega) (by omega)]
 push_cast
 rfl
theorem num_any (B:Nat) (v:Value) (len:Nat) (n:Int) (w:World) (h:Own8 w B v len) (hB:B≤w.heap.size) (hl:len≤1000000000) (hn:-9223372036854775808≤n∧n≤9223372036854775807) :
  Calls Tryz.prog 207 #[v,.int .i64 n] w fun e w'=>∃ v' m,e=.returned v'∧len+1≤m∧m≤len+10∧Own8 w' B v' m∧Below B w w':=by
 have HO:=qh h;clear h
 have HZ:=qh (fun W=>zig_any n W hn)
 have hz:WordP.zig n<2 ^ 64:=by unfold WordP.zig;split<;>omega
 generalize WordP.zig n=z at HZ hz
 go_enter Tryz.func207,Tryz.ntmps207
 go_wp2_with fail
 refine (HZ.out _).mono ?_
 rintro e w1 ⟨rfl,hb1⟩
 have HO:=qh (HO.out.below hb1)
 have HB1:=qh (show Below B w w1 from hb1.mono hB)
 have hB1:B≤w1.heap.size:=Nat.le_trans hB hb1.size
 clear HZ hb1
 go_wp2_with fail
 go_loopw [0,5] (fun vb vu wr=>∃ (j q:Nat),j≤9∧vu=.int .u64 q∧q<2 ^ (64-7*j)∧Own8 wr B vb (len+j)∧Below B w wr∧B≤wr.heap.size) (fun _ vu _=>(intOf vu).toNat)
 case atStart=>exact⟨0,z,by omega,rfl,hz,HO.out,HB1.out,hB1⟩
 case round=>
  clear HO HB1 hB1 hz
  obtain⟨j,q,hj,rfl,hq,ho,hbe,hBr⟩:=hrel
  have HBE:=qh hbe;clear hbe
  obtain⟨bs,hbl,⟨hb8,_⟩,hown⟩:=ho
  have HO:=qh hown;have HB8:=qh hb8;have HBL:=qh hbl;clear hown hb8 hbl
  have HQ:=qh hq;clear hq
  by_cases h128:128≤q
  ·obtain⟨x,hx,hxo⟩:=or128 q
   have HX:=qh hx;clear hx
   go_upto_region 3 with (fail)
   go_wp2_with (at_builtin;refine wpList_append_cells rfl (.tmp 10) (.tmp 14) 127 rfl B 5 (.int .u8 0) 1 1 rfl (by kernel_rfl) rfl (by decide) _ (len+j) (cells8 bs) rfl (owns_below HO.out (by go_grown)) (some ⟨wr.heap.size,0,none⟩) 1 1 [.int .u8 (x:Int)] rfl rfl ((holds_alloc wr _ _).reads 0 _ (fun j v hv=>by simpa using hv)) (by intro h;cases h) (by simp [Value.oneCell']) (by unfold maxLen;omega) (by omega) (by simp;omega) ?_;intro v3 w3 ho3 hb3 _;have HO3:=qh ho3;clear ho3)
   go_roundw
   case rel=>
    have hq:=HQ.out
    have hj8:j≤8:=by
     by_cases h9:j=9
     ·subst h9;simp at hq;omega
     ·omega
    refine⟨j+1,q / 128,by omega,by simp,?_,⟨bs++[x],by have:=HBL.out;simp;omega,⟨fun y hy=>?_,by omega⟩,?_⟩,HBE.out.trans ((show Below B wr _ from (show Below wr.heap.size wr _ by go_grown).mono hBr).trans hb3),?_⟩
    ·have he:2 ^ (64-7*j)=2 ^ (64-7*(j+1))*128:=by
      rw [show 64-7*j=64-7*(j+1)+7 by omega,Nat.pow_add]
     rw [he] at hq
     exact Nat.div_lt_of_lt_mul (by rw [Nat.mul_comm];exact hq)
    ·rcases List.mem_append.1 hy with hy|hy
     ·exact HB8.out y hy
     ·rw [List.mem_singleton.1 hy];exact HX.out
    ·have:=HO3.out
     simpa [cells8,Nat.add_assoc] using this
    ·have:=hb3.size;simp at this;omega
   case measure=>simp [intOf];omega
  ·go_upto_region 5 with (fail)
   go_wp2_with (at_builtin;refine wpList_append_cells rfl (.tmp 18) (.tmp 21) 127 rfl B 5 (.int .u8 0) 1 1 rfl (by kernel_rfl) rfl (by decide) _ (len+j) (cells8 bs) rfl (owns_below HO.out (by go_grown)) (some ⟨wr.heap.size,0,none⟩) 1 1 [.int .u8 (q:Int)] rfl rfl ((holds_alloc wr _ _).reads 0 _ (fun j v hv=>by simpa using hv)) (by intro h;cases h) (by simp [Value.oneCell']) (by unfold maxLen;omega) (by omega) (by simp;omega) ?_;intro v3 w3 ho3 hb3 _;have HO3:=qh ho3;clear ho3)
   go_ret
   refine⟨_,len+j+1,rfl,by omega,by omega,⟨bs++[q],by have:=HBL.out;simp;omega,⟨fun y hy=>?_,by omega⟩,?_⟩,HBE.out.trans ((show Below B wr _ from (show Below wr.heap.size wr _ by go_grown).mono hBr).trans hb3)⟩
   ·rcases List.mem_append.1 hy with hy|hy
    ·exact HB8.out y hy
    ·rw [List.mem_singleton.1 hy];omega
   ·have:=HO3.out
    simpa [cells8,Nat.add_assoc] using this
theorem pnum_any (v:Value) (len:Nat) (n:Int) (w:World) (h:Blob w v len) (hl:len≤1000000) (hn:-9223372036854775808≤n∧n≤9223372036854775807) :
  Calls Tryz.prog 124 #[v,.int .i64 n] w fun e w'=>∃ v' m,e=.returned v'∧len+1≤m∧m≤len+10∧Own8 w' w.heap.size v' m∧Below w.heap.size w w':=by
 have HG:=qh (grown_any v len 10 w h (by omega) (by omega))
 have HN:=qh (fun v' W (h:Own8 W w.heap.size v' len) hB=>num_any w.heap.size v' len n W h hB (by omega) hn)
 clear h
 go_enter Tryz.func124,Tryz.ntmps124
 go_wp2_with fail
 refine HG.out.mono ?_
 rintro e w1 ⟨v1,rfl,ho1,hb1⟩
 have HO:=qh ho1;have HB:=qh hb1;clear ho1 hb1
 go_wp2_with fail
 refine (HN.out _ _ HO.out HB.out.size).mono ?_
 rintro e w2 ⟨v2,m,rfl,h1,h2,ho2,hb2⟩
 have HO:=qh ho2;have HB:=qh (HB.out.trans hb2);clear ho2 hb2
 go_wp2_with fail
 go_ret
 exact⟨_,m,rfl,h1,h2,HO.out,HB.out⟩
theorem ptext_any (v:Value) (len:Nat) (t:ByteArray) (w:World) (h:Blob w v len) (hl:len≤1000000) (ht:t.size≤1000) :
  Calls Tryz.prog 232 #[v,.string t] w fun e w'=>∃ v' m,e=.returned v'∧len+1≤m∧m≤len+10+t.size∧Own8 w' w.heap.size v' m∧Below w.heap.size w w':=by
 have HG:=qh (grown_any v len (10+t.size) w h (by omega) (by omega))
 have HN:=qh (fun v' W (h:Own8 W w.heap.size v' len) hB=>num_any w.heap.size v' len (t.size:Int) W h hB (by omega) (by omega))
 clear h
 have hw:IntKind.i64.wrap (10+(t.size:Int))=10+(t.size:Int):=IntWalk.i64_in _ (by omega)
 go_enter Tryz.func232,Tryz.ntmps232
 go_wp2_with fail
 rw [show (10:Int)+(t.size:Int)=((10+t.size:Nat):Int) by push_cast;rfl]
 refine HG.out.mono ?_
 rintro e w1 ⟨v1,rfl,ho1,hb1⟩
 have HO:=qh ho1;have HB:=qh hb1;clear ho1 hb1
 go_wp2_with fail
 refine (HN.out _ _ HO.out HB.out.size).mono ?_
 rintro e w2 ⟨v2,m,rfl,h1,h2,ho2,hb2⟩
 have HB:=qh (HB.out.trans hb2)
 obtain⟨bs,hbl,⟨hb8,_⟩,hown⟩:=ho2
 have HO:=qh hown;clear hown hb2
 obtain⟨i8,hi8,hz8,hs8,hy8⟩:=info_parts (P:=Tryz.prog) (e:=5) (z:=.int .u8 0) (size:=1) (bytes:=1) (by kernel_rfl)
 have hle:=HB.out.size
 go_wp2_with (at_builtin;refine Lib.wpList_append_own_string w2 rfl (.tmp 12) (.tmp 13) 127 9 rfl w.heap.size 5 i8 (by kernel_rfl) (by kernel_rfl) hi8 hz8 hs8 hy8 _ m (cells8 bs) rfl HO.out t rfl (by unfold maxLen;omega) (by omega) hle ?_;intro v3 w3 ho3 hg3 _)
 have HB3:=qh (HB.out.grown hg3 hle fun k hk=>(HO.out.lt k hk).1)
 have HO3:=qh ho3;clear ho3 hg3
 go_ret
 refine⟨_,m+t.size,rfl,by omega,by omega,⟨bs++t.data.toList.map (·.toNat),by simp;omega,⟨fun y hy=>?_,by omega⟩,?_⟩,HB3.out⟩
 ·rcases List.mem_append.1 hy with hy|hy
  ·exact hb8 y hy
  ·obtain⟨z,_,rfl⟩:=List.mem_map.1 hy
   exact z.toNat_lt
 ·have:=HO3.out
  rw [show cells8 (bs++t.data.toList.map (·.toNat))=cells8 bs++Lib.strCells t from by simp [cells8,Lib.strCells]]
  exact this
theorem pflag_any (v:Value) (len:Nat) (b:Bool) (w:World) (h:Blob w v len) (hl:len≤1000000) :
  Calls Tryz.prog 231 #[v,.bool b] w fun e w'=>∃ v',e=.returned v'∧Own8 w' w.heap.size v' (len+1)∧Below w.heap.size w w':=by
 have HG:=qh (grown_any v len 1 w h (by omega) (by omega))
 clear h
 go_enter Tryz.func231,Tryz.ntmps231
 cases b
 ·go_wp2_with fail
  refine HG.out.mono ?_
  rintro e w1 ⟨v1,rfl,ho1,hb1⟩
  obtain⟨bs,hbl,⟨hb8,_⟩,hown⟩:=ho1
  have HO:=qh hown;have HB:=qh hb1;clear hown hb1
  have hle:=HB.out.size
  go_wp2_with (at_builtin;refine wpList_append_cells rfl (.tmp 11) (.tmp 12) 127 rfl w.heap.size 5 (.int .u8 0) 1 1 rfl (by kernel_rfl) rfl (by decide) _ len (cells8 bs) rfl (owns_below HO.out (by go_grown)) (some ⟨w1.heap.size,0,none⟩) 1 1 [.int .u8 0] rfl rfl ((holds_alloc w1 _ _).reads 0 _ (fun j v hv=>by simpa using hv)) (by intro h;cases h) (by simp [Value.oneCell']) (by unfold maxLen;omega) (by omega) (by simp;omega) ?_;intro v3 w3 ho3 hb3 _;have HO3:=qh ho3;clear ho3)
  go_ret
  refine⟨_,rfl,⟨bs++[0],by simp;omega,⟨fun y hy=>?_,by omega⟩,?_⟩,HB.out.trans ((show Below w.heap.size w1 _ from (show Below w1.heap.size w1 _ by go_grown).mono hle).trans hb3)⟩
  ·rcases List.mem_append.1 hy with hy|hy
   ·exact hb8 y hy
   ·rw [List.mem_singleton.1 hy];omega
  ·have:=HO3.out
   simpa [cells8] using this
 ·go_wp2_with fail
  refine HG.out.mono ?_
  rintro e w1 ⟨v1,rfl,ho1,hb1⟩
  obtain⟨bs,hbl,⟨hb8,_⟩,hown⟩:=ho1
  have HO:=qh hown;have HB:=qh hb1;clear hown hb1
  have hle:=HB.out.size
  go_wp2_with (at_builtin;refine wpList_append_cells rfl (.tmp 7) (.tmp 8) 127 rfl w.heap.size 5 (.int .u8 0) 1 1 rfl (by kernel_rfl) rfl (by decide) _ len (cells8 bs) rfl (owns_below HO.out (by go_grown)) (some ⟨w1.heap.size,0,none⟩) 1 1 [.int .u8 1] rfl rfl ((holds_alloc w1 _ _).reads 0 _ (fun j v hv=>by simpa using hv)) (by intro h;cases h) (by simp [Value.oneCell']) (by unfold maxLen;omega) (by omega) (by simp;omega) ?_;intro v3 w3 ho3 hb3 _;have HO3:=qh ho3;clear ho3)
  go_ret
  refine⟨_,rfl,⟨bs++[1],by simp;omega,⟨fun y hy=>?_,by omega⟩,?_⟩,HB.out.trans ((show Below w.heap.size w1 _ from (show Below w1.heap.size w1 _ by go_grown).mono hle).trans hb3)⟩
  ·rcases List.mem_append.1 hy with hy|hy
   ·exact hb8 y hy
   ·rw [List.mem_singleton.1 hy];omega
  ·have:=HO3.out
   simpa [cells8] using this
end
section
open Go.RowKit
theorem rightBallot_zero (w:World):Calls Tryz.prog 135 #[.agg #[.int .i64 0,.int .i64 0]] w fun e w'=>e=.returned (.bool true)∧Below w.heap.size w w':=by
 go_enter Tryz.func135,Tryz.ntmps135
 go_wp2_with fail
 go_ret
 exact⟨rfl,by go_grown⟩
theorem below_zero (w:World):Calls Tryz.prog 155 #[.agg #[.int .i64 0,.int .i64 0],.agg #[.int .i64 0,.int .i64 0]] w fun e w'=>e=.returned (.bool false)∧Below w.heap.size w w':=by
 go_enter Tryz.func155,Tryz.ntmps155
 go_wp2_with fail
 go_ret
 exact⟨rfl,by go_grown⟩
theorem depsRight_zero (w:World):Calls Tryz.prog 115 #[.agg #[.int .i64 0,.int .i64 0,.int .i64 0,.int .i64 0,.int .i64 0,.int .i64 0,.int .i64 0,.int .i64 0]] w fun e w'=>e=.returned (.bool true)∧Below w.heap.size w w':=by
 have:=f_right_any 0 (fun _=>0) w rfl
 rw [show FrontP.right (fun _=>0)=true from by decide] at this
 exact this
def cellL (st:Int) (c:Cm) (sm:Bool):List Value:=[.int .i64 st,.int .i64 0,.int .i64 0,.int .i64 0,.int .i64 0,.int .i64 c.k,.int .i64 c.c,.int .i64 c.s,.string c.a,.string c.b,.string c.o,.string c.v,.int .i64 0,.int .i64 0,.int .i64 0,.int .i64 0,.int .i64 0,.int .i64 0,.int .i64 0,.int .i64 0,.bool sm]
theorem neq_ballot (w:World):(binOp .neq 39 (.agg #[.int .i64 0,.int .i64 0]) (.agg #[.int .i64 0,.int .i64 0])).run Tryz.prog w=.ok (.bool false) w:=by
 go_simp
theorem rightCell_any (st:Int) (c:Cm) (sm:Bool) (w:World) (hst:(st=1∧sm=true)∨(st=3∧sm=false)) (hc:rightA c.k c.c c.s c.a c.b c.o c.v=true) :
  Calls Tryz.prog 136 #[.agg (cellL st c sm).toArray] w fun e w'=>e=.returned (.bool true)∧Below w.heap.size w w':=by
 have KB:=qh (fun W=>rightBallot_zero W)
 have KL:=qh (fun W=>below_zero W)
 have KD:=qh (fun W=>depsRight_zero W)
 have KC:=qh (fun W=>by have:=right_cmd c.k c.c c.s c.a c.b c.o c.v W;rw [hc] at this;exact this)
 clear hc
 have hnb:=fun W=>neq_ballot W
 unfold cellL
 rcases hst with⟨rfl,rfl⟩|⟨rfl,rfl⟩
 ·go_enter Tryz.func136,Tryz.ntmps136
  go_wp2_with fail
  have HX:=qh (show Holds (w.alloc (.cells (cellL 1 c true).toArray 45)) w.heap.size 45 (cellL 1 c true) from holds_alloc w _ _)
  have HB:=qh (show Below w.heap.size w (w.alloc (.cells (cellL 1 c true).toArray 45)) by go_grown)
  refine (KB.out _).mono ?_
  rintro e w1 ⟨rfl,hb⟩
  have HX:=qh (holds_bel HX.out hb);have HB:=qh (below_next HB.out hb)
  clear hb
  have x0:=HX.out.cell 0
  have x1:=HX.out.cell 1
  have x2:=HX.out.cell 2
  have x3:=HX.out.cell 3
  have x4:=HX.out.cell 4
  have x5:=HX.out.cell 5
  have x6:=HX.out.cell 6
  have x7:=HX.out.cell 7
  have x8:=HX.out.cell 8
  have x9:=HX.out.cell 9
  have x10:=HX.out.cell 10
  have x11:=HX.out.cell 11
  have x12:=HX.out.cell 12
  have x13:=HX.out.cell 13
  have x14:=HX.out.cell 14
  have x15:=HX.out.cell 15
  have x16:=HX.out.cell 16
  have x17:=HX.out.cell 17
  have x18:=HX.out.cell 18
  have x19:=HX.out.cell 19
  have x20:=HX.out.cell 20
  simp only [cellL,yA,yB] at x0 x1 x2 x3 x4 x5 x6 x7 x8 x9 x10 x11 x12 x13 x14 x15 x16 x17 x18 x19 x20
  go_wp2_with fail
  refine (KB.out _).mono ?_
  rintro e w2 ⟨rfl,hb⟩
  have HX:=qh (holds_bel HX.out hb);have HB:=qh (below_next HB.out hb)
  clear hb
  clear x0 x1 x2 x3 x4 x5 x6 x7 x8 x9 x10 x11 x12 x13 x14 x15 x16 x17 x18 x19 x20
  have x0:=HX.out.cell 0
  have x1:=HX.out.cell 1
  have x2:=HX.out.cell 2
  have x3:=HX.out.cell 3
  have x4:=HX.out.cell 4
  have x5:=HX.out.cell 5
  have x6:=HX.out.cell 6
  have x7:=HX.out.cell 7
  have x8:=HX.out.cell 8
  have x9:=HX.out.cell 9
  have x10:=HX.out.cell 10
  have x11:=HX.out.cell 11
  have x12:=HX.out.cell 12
  have x13:=HX.out.cell 13
  have x14:=HX.out.cell 14
  have x15:=HX.out.cell 15
  have x16:=HX.out.cell 16
  have x17:=HX.out.cell 17
  have x18:=HX.out.cell 18
  have x19:=HX.out.cell 19
  have x20:=HX.out.cell 20
  simp only [cellL,yA,yB] at x0 x1 x2 x3 x4 x5 x6 x7 x8 x9 x10 x11 x12 x13 x14 x15 x16 x17 x18 x19 x20
  go_wp2_with fail
  refine (KL.out _).mono ?_
  rintro e w3 ⟨rfl,hb⟩
  have HX:=qh (holds_bel HX.out hb);have HB:=qh (below_next HB.out hb)
  clear hb
  clear x0 x1 x2 x3 x4 x5 x6 x7 x8 x9 x10 x11 x12 x13 x14 x15 x16 x17 x18 x19 x20
  have x0:=HX.out.cell 0
  have x1:=HX.out.cell 1
  have x2:=HX.out.cell 2
  have x3:=HX.out.cell 3
  have x4:=HX.out.cell 4
  have x5:=HX.out.cell 5
  have x6:=HX.out.cell 6
  have x7:=HX.out.cell 7
  have x8:=HX.out.cell 8
  have x9:=HX.out.cell 9
  have x10:=HX.out.cell 10
  have x11:=HX.out.cell 11
  have x12:=HX.out.cell 12
  have x13:=HX.out.cell 13
  have x14:=HX.out.cell 14
  have x15:=HX.out.cell 15
  have x16:=HX.out.cell 16
  have x17:=HX.out.cell 17
  have x18:=HX.out.cell 18
  have x19:=HX.out.cell 19
  have x20:=HX.out.cell 20
  simp only [cellL,yA,yB] at x0 x1 x2 x3 x4 x5 x6 x7 x8 x9 x10 x11 x12 x13 x14 x15 x16 x17 x18 x19 x20
  go_wp2_with fail
  refine (KC.out _).mono ?_
  rintro e w4 ⟨rfl,hb⟩
  have HX:=qh (holds_bel HX.out hb);have HB:=qh (below_next HB.out hb)
  clear hb
  clear x0 x1 x2 x3 x4 x5 x6 x7 x8 x9 x10 x11 x12 x13 x14 x15 x16 x17 x18 x19 x20
  have x0:=HX.out.cell 0
  have x1:=HX.out.cell 1
  have x2:=HX.out.cell 2
  have x3:=HX.out.cell 3
  have x4:=HX.out.cell 4
  have x5:=HX.out.cell 5
  have x6:=HX.out.cell 6
  have x7:=HX.out.cell 7
  have x8:=HX.out.cell 8
  have x9:=HX.out.cell 9
  have x10:=HX.out.cell 10
  have x11:=HX.out.cell 11
  have x12:=HX.out.cell 12
  have x13:=HX.out.cell 13
  have x14:=HX.out.cell 14
  have x15:=HX.out.cell 15
  have x16:=HX.out.cell 16
  have x17:=HX.out.cell 17
  have x18:=HX.out.cell 18
  have x19:=HX.out.cell 19
  have x20:=HX.out.cell 20
  simp only [cellL,yA,yB] at x0 x1 x2 x3 x4 x5 x6 x7 x8 x9 x10 x11 x12 x13 x14 x15 x16 x17 x18 x19 x20
  go_wp2_with fail
  refine (KD.out _).mono ?_
  rintro e w5 ⟨rfl,hb⟩
  have HX:=qh (holds_bel HX.out hb);have HB:=qh (below_next HB.out hb)
  clear hb
  clear x0 x1 x2 x3 x4 x5 x6 x7 x8 x9 x10 x11 x12 x13 x14 x15 x16 x17 x18 x19 x20
  go_wp2_with fail
  go_ret
  exact⟨rfl,HB.out⟩
 ·go_enter Tryz.func136,Tryz.ntmps136
  go_wp2_with fail
  have HX:=qh (show Holds (w.alloc (.cells (cellL 3 c false).toArray 45)) w.heap.size 45 (cellL 3 c false) from holds_alloc w _ _)
  have HB:=qh (show Below w.heap.size w (w.alloc (.cells (cellL 3 c false).toArray 45)) by go_grown)
  refine (KB.out _).mono ?_
  rintro e w1 ⟨rfl,hb⟩
  have HX:=qh (holds_bel HX.out hb);have HB:=qh (below_next HB.out hb)
  clear hb
  have x0:=HX.out.cell 0
  have x1:=HX.out.cell 1
  have x2:=HX.out.cell 2
  have x3:=HX.out.cell 3
  have x4:=HX.out.cell 4
  have x5:=HX.out.cell 5
  have x6:=HX.out.cell 6
  have x7:=HX.out.cell 7
  have x8:=HX.out.cell 8
  have x9:=HX.out.cell 9
  have x10:=HX.out.cell 10
  have x11:=HX.out.cell 11
  have x12:=HX.out.cell 12
  have x13:=HX.out.cell 13
  have x14:=HX.out.cell 14
  have x15:=HX.out.cell 15
  have x16:=HX.out.cell 16
  have x17:=HX.out.cell 17
  have x18:=HX.out.cell 18
  have x19:=HX.out.cell 19
  have x20:=HX.out.cell 20
  simp only [cellL,yA,yB] at x0 x1 x2 x3 x4 x5 x6 x7 x8 x9 x10 x11 x12 x13 x14 x15 x16 x17 x18 x19 x20
  go_wp2_with fail
  refine (KB.out _).mono ?_
  rintro e w2 ⟨rfl,hb⟩
  have HX:=qh (holds_bel HX.out hb);have HB:=qh (below_next HB.out hb)
  clear hb
  clear x0 x1 x2 x3 x4 x5 x6 x7 x8 x9 x10 x11 x12 x13 x14 x15 x16 x17 x18 x19 x20
  have x0:=HX.out.cell 0
  have x1:=HX.out.cell 1
  have x2:=HX.out.cell 2
  have x3:=HX.out.cell 3
  have x4:=HX.out.cell 4
  have x5:=HX.out.cell 5
  have x6:=HX.out.cell 6
  have x7:=HX.out.cell 7
  have x8:=HX.out.cell 8
  have x9:=HX.out.cell 9
  have x10:=HX.out.cell 10
  have x11:=HX.out.cell 11
  have x12:=HX.out.cell 12
  have x13:=HX.out.cell 13
  have x14:=HX.out.cell 14
  have x15:=HX.out.cell 15
  have x16:=HX.out.cell 16
  have x17:=HX.out.cell 17
  have x18:=HX.out.cell 18
  have x19:=HX.out.cell 19
  have x20:=HX.out.cell 20
  simp only [cellL,yA,yB] at x0 x1 x2 x3 x4 x5 x6 x7 x8 x9 x10 x11 x12 x13 x14 x15 x16 x17 x18 x19 x20
  go_wp2_with fail
  refine (KL.out _).mono ?_
  rintro e w3 ⟨rfl,hb⟩
  have HX:=qh (holds_bel HX.out hb);have HB:=qh (below_next HB.out hb)
  clear hb
  clear x0 x1 x2 x3 x4 x5 x6 x7 x8 x9 x10 x11 x12 x13 x14 x15 x16 x17 x18 x19 x20
  have x0:=HX.out.cell 0
  have x1:=HX.out.cell 1
  have x2:=HX.out.cell 2
  have x3:=HX.out.cell 3
  have x4:=HX.out.cell 4
  have x5:=HX.out.cell 5
  have x6:=HX.out.cell 6
  have x7:=HX.out.cell 7
  have x8:=HX.out.cell 8
  have x9:=HX.out.cell 9
  have x10:=HX.out.cell 10
  have x11:=HX.out.cell 11
  have x12:=HX.out.cell 12
  have x13:=HX.out.cell 13
  have x14:=HX.out.cell 14
  have x15:=HX.out.cell 15
  have x16:=HX.out.cell 16
  have x17:=HX.out.cell 17
  have x18:=HX.out.cell 18
  have x19:=HX.out.cell 19
  have x20:=HX.out.cell 20
  simp only [cellL,yA,yB] at x0 x1 x2 x3 x4 x5 x6 x7 x8 x9 x10 x11 x12 x13 x14 x15 x16 x17 x18 x19 x20
  go_wp2_with fail
  refine (KC.out _).mono ?_
  rintro e w4 ⟨rfl,hb⟩
  have HX:=qh (holds_bel HX.out hb);have HB:=qh (below_next HB.out hb)
  clear hb
  clear x0 x1 x2 x3 x4 x5 x6 x7 x8 x9 x10 x11 x12 x13 x14 x15 x16 x17 x18 x19 x20
  have x0:=HX.out.cell 0
  have x1:=HX.out.cell 1
  have x2:=HX.out.cell 2
  have x3:=HX.out.cell 3
  have x4:=HX.out.cell 4
  have x5:=HX.out.cell 5
  have x6:=HX.out.cell 6
  have x7:=HX.out.cell 7
  have x8:=HX.out.cell 8
  have x9:=HX.out.cell 9
  have x10:=HX.out.cell 10
  have x11:=HX.out.cell 11
  have x12:=HX.out.cell 12
  have x13:=HX.out.cell 13
  have x14:=HX.out.cell 14
  have x15:=HX.out.cell 15
  have x16:=HX.out.cell 16
  have x17:=HX.out.cell 17
  have x18:=HX.out.cell 18
  have x19:=HX.out.cell 19
  have x20:=HX.out.cell 20
  simp only [cellL,yA,yB] at x0 x1 x2 x3 x4 x5 x6 x7 x8 x9 x10 x11 x12 x13 x14 x15 x16 x17 x18 x19 x20
  go_wp2_with fail
  refine (KD.out _).mono ?_
  rintro e w5 ⟨rfl,hb⟩
  have HX:=qh (holds_bel HX.out hb);have HB:=qh (below_next HB.out hb)
  clear hb
  clear x0 x1 x2 x3 x4 x5 x6 x7 x8 x9 x10 x11 x12 x13 x14 x15 x16 x17 x18 x19 x20
  go_wp2_with fail
  go_ret
  exact⟨rfl,HB.out⟩
end
end Go.Proofs.YtimdpiifpibgfaaGreatDoor
