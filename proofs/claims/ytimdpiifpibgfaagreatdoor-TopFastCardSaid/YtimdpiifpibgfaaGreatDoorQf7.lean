/- For every input the law TopFast returns true (a part of the proof). Condition: the listed variables start as the program's text lays them. -/
import Derived.Laws.BitsAllLaws
import Derived.RowKit
import Derived.BigRegion
import Derived.Lib.ItoaWalk
import Derived.Maps.RangeWalk
import Derived.Maps.OwnSet
import Derived.DeepKeys4
import Derived.Test.YtimdpiifpibgfaaGreatDoorQf4
set_option linter.unusedVariables false
set_option linter.unusedSimpArgs false
set_option maxRecDepth 20000
set_option maxHeartbeats 16000000
namespace Go.Proofs.YtimdpiifpibgfaaGreatDoor
end Go.Proofs.YtimdpiifpibgfaaGreatDoor
section
namespace WordP
open Go Go.RowKit
def zig (n:Int):Nat:=if n<0 then (-2*n-1).toNat else (2*n).toNat
theorem xor_ones (c:Nat) (hc:c<18446744073709551616):c ^^^ 18446744073709551615=18446744073709551615-c:=by
 apply Nat.eq_of_testBit_eq
 intro i
 have:=Nat.testBit_two_pow_sub_succ (n:=64) hc i
 rw [Nat.testBit_xor,show (18446744073709551615:Nat) - c=2 ^ 64 - (c+1) from by omega,this,show (18446744073709551615:Nat)=2 ^ 64-1 from rfl,Nat.testBit_two_pow_sub_one]
 by_cases hi:i<64
 ·simp [hi]
 ·have:c.testBit i=false:=Nat.testBit_lt_two_pow (Nat.lt_of_lt_of_le hc (Nat.pow_le_pow_right (n:=2) (by decide) (by omega:64≤i)))
  simp [hi,this]
theorem zig_xor (n:Int) (hn:-9223372036854775808≤n∧n≤9223372036854775807) :
  bits BinOp.xor IntKind.u64 (IntKind.u64.wrap (IntKind.u64.wrap n*2)) (IntKind.u64.wrap (n / 9223372036854775808))=((zig n:Nat):Int):=by
 have ew:∀ x:Int,IntKind.u64.wrap x=x % 18446744073709551616:=fun x=>by simp [IntKind.wrap,IntKind.bits,IntKind.signed]
 rw [ew,ew,ew]
 unfold zig
 by_cases h:n<0
 ·rw [if_pos h,show n / 9223372036854775808 % 18446744073709551616=((18446744073709551615:Nat):Int) by omega,show n % 18446744073709551616*2 % 18446744073709551616=((18446744073709551616 - (-2*n).toNat:Nat):Int) by omega]
  rw [u64_xor_nat _ _ (by omega) (by omega)]
  rw [xor_ones _ (by omega)]
  congr 1
  omega
 ·rw [if_neg h,show n / 9223372036854775808 % 18446744073709551616=((0:Nat):Int) by omega,show n % 18446744073709551616*2 % 18446744073709551616=((2*n).toNat:Int) by omega]
  rw [u64_xor_nat _ _ (by omega) (by omega),Nat.xor_zero]
end WordP
end
namespace Go.Proofs.YtimdpiifpibgfaaGreatDoor
section
open Go.RowKit
end
section
open Go.RowKit
def putN:Nat→Nat→List Nat
 | 0,_=>[]
 | n+1,u=>u % 256 :: putN n (u / 256)
theorem putN_len (n u:Nat):(putN n u).length=n:=by
 induction n generalizing u with
 | zero=>rfl
 | succ n ih=>simp [putN,ih]
theorem putN_lt (n u:Nat):∀ x∈putN n u,x<256:=by
 induction n generalizing u with
 | zero=>intro x hx;simp [putN] at hx
 | succ n ih=>
  intro x hx
  simp only [putN,List.mem_cons] at hx
  rcases hx with rfl|hx
  ·omega
  ·exact ih _ x hx
theorem putN_snoc (n u:Nat):putN (n+1) u=putN n u++[u / 256 ^ n % 256]:=by
 induction n generalizing u with
 | zero=>simp [putN]
 | succ n ih=>
  rw [putN,ih,putN,List.cons_append,Nat.div_div_eq_div_mul,Nat.pow_succ,Nat.mul_comm 256]
def cut8 (n:Int):Nat:=min n.toNat 8
theorem made_owns {w:World} {g cap:Nat} {e:TypeId} {z:Value} (base:Nat) (hb:base≤g) (hg:Holds w g e (List.replicate cap z)) (hm:cap≤maxLen):w.ownsRow base e 1 (.slice (some ⟨g,0,none⟩) 0 cap) 0 []:=
 ⟨rfl,.inr ⟨g,cap,(List.replicate cap z).toArray,rfl,hb,hg,Nat.zero_le _,hm,by simp,by simp⟩⟩
theorem owns_below {w w':World} {base size n:Nat} {e:TypeId} {v:Value} {xs:List Value} (h:w.ownsRow base e size v n xs) (hb:Below w.heap.size w w'):w'.ownsRow base e size v n xs:=by
 obtain⟨h1,h2⟩:=h
 refine⟨h1,?_⟩
 rcases h2 with h2|⟨g,cap,cur,hv,hg,hh,hr⟩
 ·exact .inl h2
 ·have:g<w.heap.size:=(Array.getElem?_eq_some_iff.1 hh).1
  exact .inr ⟨g,cap,cur,hv,hg,by rw [hb.block g this];exact hh,hr⟩
theorem owns_form {w:World} {base n:Nat} {e:TypeId} {v:Value} {xs:List Value} (h:w.ownsRow base e 1 v n xs) (hn:n≤281474976710656) :
  ∃ p c,v=.slice p n c∧n≤c∧c≤maxLen∧(p=none→c=0)∧∀ l:List Nat,xs=cells8 l→(∀ x∈l,x<256)→IsBytes w p n l:=by
 obtain⟨h1,h2⟩:=h
 rcases h2 with⟨rfl,rfl⟩|⟨g,cap,cur,rfl,hg,hh,hc,hm,hs,ht⟩
 ·refine⟨none,0,rfl,Nat.le_refl _,Nat.zero_le _,fun _=>rfl,?_⟩
  rintro l rfl _
  have:l=[]:=by simpa [cells8] using h1
  subst this
  exact IsBytes.nil _ _
 ·refine⟨some ⟨g,0,none⟩,cap,rfl,hc,hm,(by intro h;cases h),?_⟩
  rintro l rfl h8
  rw [Nat.mul_one] at h1 ht
  have hl:l.length=n:=by simpa [cells8] using h1
  have hlt:g<w.heap.size:=(Array.getElem?_eq_some_iff.1 hh).1
  refine⟨hl,hn,h8,fun _=>⟨g,0,rfl,hlt,fun i hi=>?_⟩⟩
  have h2:cur[i]?=(cells8 l)[i]?:=by rw [← ht,List.getElem?_take_of_lt hi,Array.getElem?_toList]
  unfold World.cell?
  simp only [hh,Nat.zero_add]
  rw [h2]
  simp [cells8,hl,hi]
theorem put_any (a:Option Addr) (len cap:Nat) (bs:List Nat) (n:Int) (u:Nat) (w:World) (hb:IsBytes w a len bs) (hnil:a=none→cap=0) (_hu:u<18446744073709551616) (hl:len≤140737488351232) :
  Calls Tryz.prog 170 #[.slice a len cap,.int .i64 n,.int .u64 u] w fun e w'=>∃ p c,e=.returned (.slice p (len+cut8 n) c)∧len+cut8 n≤c∧c≤maxLen∧IsBytes w' p (len+cut8 n) (bs++putN (cut8 n) u)∧(p=none→c=0)∧Below w.heap.size w w'∧w'.ownsRow w.heap.size 5 1 (.slice p (len+cut8 n) c) (len+cut8 n) (cells8 (bs++putN (cut8 n) u)):=by
 have hM:(n<0∧cut8 n=0)∨(8<n∧cut8 n=8)∨∃ m:Nat,n=m∧m≤8∧cut8 n=m:=by
  unfold cut8
  rcases (show n<0∨8<n∨(0≤n∧n≤8) by omega) with h|h|h
  ·exact .inl ⟨h,by omega⟩
  ·exact .inr (.inl ⟨h,by omega⟩)
  ·exact .inr (.inr ⟨n.toNat,by omega,by omega,by omega⟩)
 generalize cut8 n=M at hM ⊢
 have hlen:=hb.len
 have HBS:=qh hb;clear hb
 have HNIL:=qh hnil;clear hnil
 rcases hM with⟨hn,rfl⟩|⟨hn,rfl⟩|⟨m,rfl,hm8,rfl⟩
 all_goals
  go_enter Tryz.func170,Tryz.ntmps170
  go_upto_region 1 with (fail)
  go_wp2_with (first
   | (at_make;refine wpList_make_block w rfl (.const (.int .i64 0)) (.tmp 10) 127 rfl 5 (.int .u8 0) 1 rfl (by kernel_rfl) rfl .i64 .i64 _ _ 0 (len+8) rfl rfl rfl (by push_cast;rfl) (by omega) (by omega) (by unfold maxLen;omega) ?_;intro w1 hh1 hb1 hs1;have HO1:=qh (made_owns w.heap.size (Nat.le_refl _) hh1 (by unfold maxLen;omega)))
   | (at_builtin;refine wpList_append_cells rfl (.tmp 11) (.tmp 12) 127 rfl w.heap.size 5 (.int .u8 0) 1 1 rfl (by kernel_rfl) rfl (by decide) _ 0 [] rfl HO1.out a len cap (cells8 bs) rfl (by rw [length_cells8,hlen,Nat.mul_one]) (HBS.out.reads.below hb1) HNIL.out (cells8_one bs) (by unfold maxLen;omega) (by omega) (by omega) ?_;intro v2 w2 ho2 hb2 _;have HO2:=qh ho2;clear ho2))
 ·go_loopw [2,7,17] (fun uu out i wr=>∃ j:Nat,j≤0∧i=.int .i64 j∧uu=.int .u64 ((u / 256 ^ j:Nat):Int)∧wr.ownsRow w.heap.size 5 1 out (len+j) (cells8 (bs++putN j u))∧Below w.heap.size w wr) (fun _ _ i _=>0 - (intOf i).toNat)
  case atStart=>exact⟨0,by omega,rfl,by simp,by have:=HO2.out;simpa [putN] using this,hb1.trans hb2⟩
  case round=>
   obtain⟨j,hj,rfl,rfl,hown,hbel⟩:=hrel
   clear HO2 HO1 hh1 hb1 hb2 hs1
   by_cases hlt:j<0
   ·exact absurd hlt (Nat.not_lt_zero _)
   ·have hjM:j=0:=by omega
    subst hjM
    obtain⟨p,c,rfl,h1,h2,h3,h4⟩:=owns_form hown (by omega)
    have HI:=qh (h4 _ rfl (fun x hx=>by
     rcases List.mem_append.1 hx with hx|hx
     ·exact HBS.out.2.2.1 x hx
     ·exact putN_lt _ _ x hx))
    have HBE:=qh hbel
    have H3:=qh h3
    have HOWN:=qh hown
    clear h4 h3 hbel hown
    go_wp2
    go_ret
    exact⟨p,c,rfl,h1,h2,HI.out,H3.out,HBE.out,HOWN.out⟩
 ·go_loopw [2,7,17] (fun uu out i wr=>∃ j:Nat,j≤8∧i=.int .i64 j∧uu=.int .u64 ((u / 256 ^ j:Nat):Int)∧wr.ownsRow w.heap.size 5 1 out (len+j) (cells8 (bs++putN j u))∧Below w.heap.size w wr) (fun _ _ i _=>8 - (intOf i).toNat)
  case atStart=>exact⟨0,by omega,rfl,by simp,by have:=HO2.out;simpa [putN] using this,hb1.trans hb2⟩
  case round=>
   obtain⟨j,hj,rfl,rfl,hown,hbel⟩:=hrel
   clear HO2 HO1 hh1 hb1 hb2 hs1
   by_cases hlt:j<8
   ·have HS:=qh (putN_snoc j u)
    have hq:u / 256 ^ j<18446744073709551616:=Nat.lt_of_le_of_lt (Nat.div_le_self _ _) _hu
    have hq2:u / 256 ^ (j+1)=u / 256 ^ j / 256:=by rw [Nat.pow_succ,Nat.div_div_eq_div_mul]
    have HQ2:=qh hq2;clear hq2
    generalize u / 256 ^ j=q at *
    have HOW:=qh hown;clear hown
    have hsz:=hbel.size
    have HBE:=qh hbel;clear hbel
    have HJ:=qh hj
    go_upto_region 4 with (fail)
    go_wp2_with (at_builtin;refine wpList_append_cells rfl (.tmp 19) (.tmp 22) 127 rfl w.heap.size 5 (.int .u8 0) 1 1 rfl (by kernel_rfl) rfl (by decide) _ (len+j) (cells8 (bs++putN j u)) rfl (owns_below HOW.out (by go_grown)) (some ⟨wr.heap.size,0,none⟩) 1 1 [.int .u8 ((q:Int) % 256)] rfl rfl ((holds_alloc wr _ _).reads 0 _ (fun j v hv=>by simpa using hv)) (by intro h;cases h) (by simp [Value.oneCell']) (by unfold maxLen;omega) (by omega) (by simp;omega) ?_;intro v3 w3 ho3 hb3 _;have HO3:=qh ho3;clear ho3)
    go_roundw
    case rel=>
     refine⟨j+1,by omega,by go_num,by rw [HQ2.out,Int.natCast_ediv];rfl,?_,HBE.out.trans ((show Below w.heap.size wr _ by go_grown).trans hb3)⟩
     have:=HO3.out
     rw [HS.out,← List.append_assoc]
     simpa [cells8,Nat.add_assoc] using this
    case measure=>simp [intOf];omega
   ·have hjM:j=8:=by omega
    subst hjM
    obtain⟨p,c,rfl,h1,h2,h3,h4⟩:=owns_form hown (by omega)
    have HI:=qh (h4 _ rfl (fun x hx=>by
     rcases List.mem_append.1 hx with hx|hx
     ·exact HBS.out.2.2.1 x hx
     ·exact putN_lt _ _ x hx))
    have HBE:=qh hbel
    have H3:=qh h3
    have HOWN:=qh hown
    clear h4 h3 hbel hown
    go_wp2
    go_ret
    exact⟨p,c,rfl,h1,h2,HI.out,H3.out,HBE.out,HOWN.out⟩
 ·go_loopw [2,7,17] (fun uu out i wr=>∃ j:Nat,j≤M∧i=.int .i64 j∧uu=.int .u64 ((u / 256 ^ j:Nat):Int)∧wr.ownsRow w.heap.size 5 1 out (len+j) (cells8 (bs++putN j u))∧Below w.heap.size w wr) (fun _ _ i _=>M - (intOf i).toNat)
  case atStart=>exact⟨0,by omega,rfl,by simp,by have:=HO2.out;simpa [putN] using this,hb1.trans hb2⟩
  case round=>
   obtain⟨j,hj,rfl,rfl,hown,hbel⟩:=hrel
   clear HO2 HO1 hh1 hb1 hb2 hs1
   by_cases hlt:j<M
   ·have HS:=qh (putN_snoc j u)
    have hq:u / 256 ^ j<18446744073709551616:=Nat.lt_of_le_of_lt (Nat.div_le_self _ _) _hu
    have hq2:u / 256 ^ (j+1)=u / 256 ^ j / 256:=by rw [Nat.pow_succ,Nat.div_div_eq_div_mul]
    have HQ2:=qh hq2;clear hq2
    generalize u / 256 ^ j=q at *
    have HOW:=qh hown;clear hown
    have hsz:=hbel.size
    have HBE:=qh hbel;clear hbel
    have HJ:=qh hj
    go_upto_region 4 with (fail)
    go_wp2_with (at_builtin;refine wpList_append_cells rfl (.tmp 19) (.tmp 22) 127 rfl w.heap.size 5 (.int .u8 0) 1 1 rfl (by kernel_rfl) rfl (by decide) _ (len+j) (cells8 (bs++putN j u)) rfl (owns_below HOW.out (by go_grown)) (some ⟨wr.heap.size,0,none⟩) 1 1 [.int .u8 ((q:Int) % 256)] rfl rfl ((holds_alloc wr _ _).reads 0 _ (fun j v hv=>by simpa using hv)) (by intro h;cases h) (by simp [Value.oneCell']) (by unfold maxLen;omega) (by omega) (by simp;omega) ?_;intro v3 w3 ho3 hb3 _;have HO3:=qh ho3;clear ho3)
    go_roundw
    case rel=>
     refine⟨j+1,by omega,by go_num,by rw [HQ2.out,Int.natCast_ediv];rfl,?_,HBE.out.trans ((show Below w.heap.size wr _ by go_grown).trans hb3)⟩
     have:=HO3.out
     rw [HS.out,← List.append_assoc]
     simpa [cells8,Nat.add_assoc] using this
    case measure=>simp [intOf];omega
   ·have hjM:j=M:=by omega
    subst hjM
    obtain⟨p,c,rfl,h1,h2,h3,h4⟩:=owns_form hown (by omega)
    have HI:=qh (h4 _ rfl (fun x hx=>by
     rcases List.mem_append.1 hx with hx|hx
     ·exact HBS.out.2.2.1 x hx
     ·exact putN_lt _ _ x hx))
    have HBE:=qh hbel
    have H3:=qh h3
    have HOWN:=qh hown
    clear h4 h3 hbel hown
    go_wp2
    go_ret
    exact⟨p,c,rfl,h1,h2,HI.out,H3.out,HBE.out,HOWN.out⟩
end
section
open Go.RowKit
theorem zig_any (n:Int) (w:World) (hn:-9223372036854775808≤n∧n≤9223372036854775807) :
  Calls Tryz.prog 256 #[.int .i64 n] w fun e w'=>e=.returned (.int .u64 (WordP.zig n))∧Below w.heap.size w w':=by
 go_enter Tryz.func256,Tryz.ntmps256
 go_wp2
 go_ret
 exact⟨ret_int (WordP.zig_xor n hn),by go_grown⟩
end
end Go.Proofs.YtimdpiifpibgfaaGreatDoor
namespace FrontP
abbrev Fr:=Nat→Nat→Int
def mx (a b:Int):Int:=if a<b then b else a
def mn (a b:Int):Int:=if b<a then b else a
def hearTo (F:Fr) (r:Nat) (d:Nat→Int) (k:Nat):Fr:=fun q i=>if q=r∧i<k then mx (F q i) (d i) else F q i
def hear (F:Fr) (r:Nat) (d:Nat→Int):Fr:=hearTo F r d 7
def right (d:Nat→Int):Bool:=(List.range 7).all fun i=>decide (0≤d i)&&decide (d i≤1073741824)
def rightTo (d:Nat→Int) (k:Nat):Bool:=(List.range k).all fun i=>decide (0≤d i)&&decide (d i≤1073741824)
theorem rightTo_succ (d:Nat→Int) (k:Nat):rightTo d (k+1)=(rightTo d k&&(decide (0≤d k)&&decide (d k≤1073741824))):=by
 simp [rightTo,List.range_succ,List.all_append]
theorem right_false (d:Nat→Int) (k:Nat) (hk:k<7) (h:d k<0∨1073741824<d k):right d=false:=by
 unfold right
 rw [List.all_eq_false]
 exact⟨k,by simp [hk],by simp;omega⟩
theorem hearTo_zero (F:Fr) (r:Nat) (d:Nat→Int):hearTo F r d 0=F:=by
 funext q i;simp [hearTo]
theorem hearTo_succ (F:Fr) (r:Nat) (d:Nat→Int) (k:Nat):hearTo F r d (k+1)=fun q i=>if q=r∧i=k then mx (F r k) (d k) else hearTo F r d k q i:=by
 funext q i
 simp only [hearTo]
 by_cases h1:q=r
 ·by_cases h2:i<k
  ·simp [h1,h2,show i<k+1 by omega,show ¬ i=k by omega]
  ·by_cases h3:i=k
   ·simp [h1,h3]
   ·simp [h1,h2,h3,show ¬ i<k+1 by omega]
 ·simp [h1]
theorem hearTo_at (F:Fr) (r:Nat) (d:Nat→Int) (k:Nat):hearTo F r d k r k=F r k:=by simp [hearTo]
def takes (n:Nat) (r:Int) (d:Nat→Int):Bool:=(decide (0≤r)&&decide (r<(n:Int)))&&right d
def heard (F:Fr) (n:Nat) (r:Int) (d:Nat→Int):Fr:=if takes n r d=true then hear F r.toNat d else F
def leastTo (F:Fr) (a:Nat→Int):Nat→Nat→Int
 | 0,i=>a i
 | m+1,i=>mn (leastTo F a m i) (F m i)
def stable (F:Fr) (n me:Nat):Nat→Int:=leastTo F (F me) n
def leastIn (F:Fr) (a:Nat→Int) (m k:Nat):Nat→Int:=fun i=>if i<k then leastTo F a (m+1) i else leastTo F a m i
theorem leastIn_zero (F:Fr) (a:Nat→Int) (m:Nat):leastIn F a m 0=leastTo F a m:=by funext i;simp [leastIn]
theorem leastIn_succ (F:Fr) (a:Nat→Int) (m k:Nat):leastIn F a m (k+1)=fun i=>if i=k then mn (leastTo F a m k) (F m k) else leastIn F a m k i:=by
 funext i
 simp only [leastIn]
 by_cases h:i=k
 ·subst h;simp [leastTo]
 ·by_cases h2:i<k
  ·simp [h,h2,show i<k+1 by omega]
  ·simp [h,h2,show ¬ i<k+1 by omega]
theorem leastIn_at (F:Fr) (a:Nat→Int) (m k:Nat):leastIn F a m k k=leastTo F a m k:=by simp [leastIn]
end FrontP
namespace Go.Proofs.YtimdpiifpibgfaaGreatDoor
section
open Go.RowKit
def frontCells (n me:Nat) (F:FrontP.Fr):List Value:=.int .i64 n :: .int .i64 me :: (List.range 49).map fun j=>.int .i64 (F (j / 7) (j % 7))
theorem getElem_front (n me:Nat) (F:FrontP.Fr) (r i:Nat) (hr:r<7) (hi:i<7):(frontCells n me F)[2+r*7+i]?=some (.int .i64 (F r i)):=by
 have e1:(r*7+i) / 7=r:=by omega
 have e2:(r*7+i) % 7=i:=by omega
 rw [show 2+r*7+i=(r*7+i)+1+1 from by omega,frontCells,List.getElem?_cons_succ,List.getElem?_cons_succ,List.getElem?_map,List.getElem?_range (by omega)]
 simp [e1,e2]
theorem set_front (n me:Nat) (F:FrontP.Fr) (r i:Nat) (v:Int) (_hr:r<7) (hi:i<7) :
  (frontCells n me F).set (2+r*7+i) (.int .i64 v)=frontCells n me (fun q j=>if q=r∧j=i then v else F q j):=by
 rw [show 2+r*7+i=(r*7+i)+1+1 from by omega,frontCells,List.set_cons_succ,List.set_cons_succ,frontCells]
 congr 2
 apply List.ext_getElem?
 intro j
 rw [List.getElem?_set,List.getElem?_map]
 by_cases hj:j<49
 ·rw [List.getElem?_map,List.getElem?_range hj]
  by_cases hji:r*7+i=j
  ·subst hji
   rw [if_pos rfl,if_pos (by simp;omega)]
   have e1:(r*7+i) / 7=r:=by omega
   have e2:(r*7+i) % 7=i:=by omega
   simp [e1,e2]
  ·rw [if_neg hji]
   have:¬ (j / 7=r∧j % 7=i):=by omega
   simp [this]
 ·rw [List.getElem?_map,List.getElem?_eq_none (by simp;omega)]
  split
  ·rw [if_neg (by simp;omega)];rfl
  ·rfl
def depsV (d:Nat→Int):Value:=.agg #[.int .i64 (d 0),.int .i64 (d 1),.int .i64 (d 2),.int .i64 (d 3),.int .i64 (d 4),.int .i64 (d 5),.int .i64 (d 6)]
def depCells (d:Nat→Int):List Value:=[.int .i64 (d 0),.int .i64 (d 1),.int .i64 (d 2),.int .i64 (d 3),.int .i64 (d 4),.int .i64 (d 5),.int .i64 (d 6)]
theorem getElem_deps (d:Nat→Int) (k:Nat) (hk:k<7):(depCells d)[k]?=some (.int .i64 (d k)):=by
 rcases (show k=0∨k=1∨k=2∨k=3∨k=4∨k=5∨k=6 by omega) with rfl|rfl|rfl|rfl|rfl|rfl|rfl<;>rfl
theorem set_deps (d:Nat→Int) (k:Nat) (v:Int) (hk:k<7):(depCells d).set k (.int .i64 v)=depCells fun i=>if i=k then v else d i:=by
 rcases (show k=0∨k=1∨k=2∨k=3∨k=4∨k=5∨k=6 by omega) with rfl|rfl|rfl|rfl|rfl|rfl|rfl<;>simp [depCells]
theorem holds_other {w:World} {g g' e:Nat} {L:List Value} (h:Holds w g' e L) (hg:g'≠g) (i:Nat) (v:Value):Holds (w.setCell ⟨g,i,none⟩ v) g' e L:=by
 unfold Holds at *
 rw [Below.heap_setCell _ _ _ _ hg];exact h
structure FrontAt (w:World) (g e n me:Nat) (F:FrontP.Fr):Prop where
 h:Holds w g e (frontCells n me F)
 n7:n≤7
theorem FrontAt.n0 {w:World} {g e n me:Nat} {F:FrontP.Fr} (h:FrontAt w g e n me F):w.cell? ⟨g,0,none⟩=some (.int .i64 n):=h.h.cell 0
theorem FrontAt.me1 {w:World} {g e n me:Nat} {F:FrontP.Fr} (h:FrontAt w g e n me F):w.cell? ⟨g,1,none⟩=some (.int .i64 me):=h.h.cell 1
theorem FrontAt.at {w:World} {g e n me:Nat} {F:FrontP.Fr} (h:FrontAt w g e n me F) (r i:Nat) (hr:r<7) (hi:i<7):w.cell? ⟨g,2+r*7+i,none⟩=some (.int .i64 (F r i)):=by
 rw [h.h.cell];exact getElem_front n me F r i hr hi
theorem FrontAt.lt {w:World} {g e n me:Nat} {F:FrontP.Fr} (h:FrontAt w g e n me F):g<w.heap.size:=h.h.lt
theorem FrontAt.below {w w':World} {g e n me B:Nat} {F:FrontP.Fr} (h:FrontAt w g e n me F) (hb:Below B w w') (hg:g<B):FrontAt w' g e n me F:=⟨h.h.below hb hg,h.n7⟩
theorem f_right_any (s:Int) (d:Nat→Int) (w:World) (hs:s=0) :
  Calls Tryz.prog 115 #[.agg #[.int .i64 s,.int .i64 (d 0),.int .i64 (d 1),.int .i64 (d 2),.int .i64 (d 3),.int .i64 (d 4),.int .i64 (d 5),.int .i64 (d 6)]] w fun e w'=>e=.returned (.bool (FrontP.right d))∧Below w.heap.size w w':=by
 subst hs
 go_enter Tryz.func115,Tryz.ntmps115
 go_wp2
 go_loop [7] (fun i=>∃ k:Nat,k≤7∧i=.int .i64 k∧FrontP.rightTo d k=true) (fun i=>7 - (intOf i).toNat)
 case atStart=>exact⟨0,by omega,rfl,rfl⟩
 case round=>
  obtain⟨k,hk,rfl,hpre⟩:=hrel
  have HP:=qh hpre;clear hpre
  by_cases hlt:k<7
  ·have hidx:=idx_deps d k hlt
   have hs:=FrontP.rightTo_succ d k
   have hf:=FrontP.right_false d k hlt
   have HS:=qh hs;have HF:=qh hf;clear hs hf
   generalize d k=x at hidx HS HF
   go_wp2
   ·go_ret
    exact⟨ret_bool (by rw [HF.out ‹_›]),by go_grown⟩
   ·go_round
    case rel=>exact⟨k+1,by omega,by go_num,by rw [HS.out,HP.out];simp;omega⟩
    case measure=>simp [intOf];omega
   ·go_ret
    exact⟨ret_bool (by rw [HF.out (.inl ‹_›)]),by go_grown⟩
  ·have hk7:k=7:=by omega
   subst hk7
   have HP2:=qh (show FrontP.right d=true from HP.out)
   go_wp2
   go_ret
   exact⟨ret_bool (by rw [HP2.out]),by go_grown⟩
theorem hear_in (g n me r:Nat) (F:FrontP.Fr) (d:Nat→Int) (w:World) (h:FrontAt w g 197 n me F) (hr:r<n) (hd:FrontP.right d=true) :
  Calls Tryz.prog 69 #[.pointer (some ⟨g,0,none⟩),.int .i64 r,.agg #[.int .i64 (d 0),.int .i64 (d 1),.int .i64 (d 2),.int .i64 (d 3),.int .i64 (d 4),.int .i64 (d 5),.int .i64 (d 6)]] w fun e w'=>
   e=.returned (.bool true)∧FrontAt w' g 197 n me (FrontP.hear F r d)∧Touch g w w':=by
 have hn:=h.n7
 have h0:=h.n0
 have hg:=h.lt
 have HF:=qh h
 have R:=qh (fun W=>f_right_any 0 d W rfl)
 rw [hd] at R
 go_enter Tryz.func69,Tryz.ntmps69
 go_wp2_with fail
 refine (R.out _).mono ?_
 rintro e w1 ⟨rfl,hb1⟩
 have hf1:=HF.out.below (below_next (by go_grown) hb1) hg
 have ht1:Touch g w w1:=.of_below (below_next (by go_grown) hb1)
 obtain⟨hc1,hz1⟩:=bcell hb1
 go_wp2
 go_loopw [26] (fun i wr=>∃ k:Nat,k≤7∧i=.int .i64 k∧FrontAt wr g 197 n me (FrontP.hearTo F r d k)∧Touch g w wr) (fun i _=>7 - (intOf i).toNat)
 case atStart=>exact⟨0,by omega,rfl,by rw [FrontP.hearTo_zero];exact hf1,ht1⟩
 case round=>
  obtain⟨k,hk,rfl,hfr,htr⟩:=hrel
  clear hc1 hz1 hb1
  by_cases hlt:k<7
  ·have hidx:=idx_deps d k hlt
   have hcell:=hfr.at r k (by omega) hlt
   rw [FrontP.hearTo_at] at hcell
   have hfree:=hfr.h.free (2+r*7+k)
   have hs:=FrontP.hearTo_succ F r d k
   have HS:=qh hs;clear hs
   have hset:=fun v=>hfr.h.set (2+r*7+k) (.int .i64 v)
   have HSET:=qh hset;clear hset
   go_upto_region 6 with (fail)
   go_region
   go_wp2
   go_roundw
   case rel=>
    refine⟨k+1,by omega,by go_num,⟨?_,hn⟩,(htr.setCell _ _).drew⟩
    have h1:=HSET.out (FrontP.mx (F r k) (d k))
    rw [set_front _ _ _ r k _ (by omega) hlt,← HS.out,show FrontP.mx (F r k) (d k)=max (F r k) (d k) from by unfold FrontP.mx;split<;>omega] at h1
    exact h1
   case measure=>simp [intOf];omega
  ·have hk7:k=7:=by omega
   subst hk7
   have HFR:=qh (show FrontAt wr g 197 n me (FrontP.hear F r d) from hfr)
   clear hfr
   go_wp2
   go_ret
   exact⟨rfl,HFR.out,htr⟩
theorem hear_out (g n me:Nat) (r:Int) (F:FrontP.Fr) (d:Nat→Int) (w:World) (h:FrontAt w g 197 n me F) (hr:r<0∨(n:Int)≤r) :
  Calls Tryz.prog 69 #[.pointer (some ⟨g,0,none⟩),.int .i64 r,.agg #[.int .i64 (d 0),.int .i64 (d 1),.int .i64 (d 2),.int .i64 (d 3),.int .i64 (d 4),.int .i64 (d 5),.int .i64 (d 6)]] w fun e w'=>
   e=.returned (.bool false)∧Below w.heap.size w w':=by
 have h0:=h.n0
 have hg:=h.lt
 by_cases hr0:r<0
 ·go_enter Tryz.func69,Tryz.ntmps69
  go_wp2_with fail
  go_ret
  exact⟨rfl,by go_grown⟩
 ·have hr1:(n:Int)≤r:=by omega
  go_enter Tryz.func69,Tryz.ntmps69
  go_wp2_with fail
  go_ret
  exact⟨rfl,by go_grown⟩
theorem hear_wrong (g n me r:Nat) (F:FrontP.Fr) (d:Nat→Int) (w:World) (h:FrontAt w g 197 n me F) (hr:r<n) (hd:FrontP.right d=false) :
  Calls Tryz.prog 69 #[.pointer (some ⟨g,0,none⟩),.int .i64 r,.agg #[.int .i64 (d 0),.int .i64 (d 1),.int .i64 (d 2),.int .i64 (d 3),.int .i64 (d 4),.int .i64 (d 5),.int .i64 (d 6)]] w fun e w'=>
   e=.returned (.bool false)∧Below w.heap.size w w':=by
 have h0:=h.n0
 have hg:=h.lt
 have R:=qh (fun W=>f_right_any 0 d W rfl)
 rw [hd] at R
 go_enter Tryz.func69,Tryz.ntmps69
 go_wp2_with fail
 refine (R.out _).mono ?_
 rintro e w1 ⟨rfl,hb1⟩
 have HB:Below w.heap.size w w1:=below_next (by go_grown) hb1
 go_wp2
 go_ret
 exact⟨rfl,HB⟩
theorem hear_any (g n me:Nat) (r:Int) (F:FrontP.Fr) (d:Nat→Int) (w:World) (h:FrontAt w g 197 n me F) :
  Calls Tryz.prog 69 #[.pointer (some ⟨g,0,none⟩),.int .i64 r,.agg #[.int .i64 (d 0),.int .i64 (d 1),.int .i64 (d 2),.int .i64 (d 3),.int .i64 (d 4),.int .i64 (d 5),.int .i64 (d 6)]] w fun e w'=>
   e=.returned (.bool (FrontP.takes n r d))∧FrontAt w' g 197 n me (FrontP.heard F n r d)∧Touch g w w':=by
 unfold FrontP.takes FrontP.heard FrontP.takes
 by_cases hr:0≤r∧r<n
 ·obtain⟨q,rfl⟩:=Int.eq_ofNat_of_zero_le hr.1
  cases hd:FrontP.right d
  ·refine (hear_wrong g n me q F d w h (by omega) hd).mono ?_
   rintro e w' ⟨rfl,hb⟩
   exact⟨ret_bool (by simp),by simpa using h.below hb h.lt,.of_below hb⟩
  ·refine (hear_in g n me q F d w h (by omega) hd).mono ?_
   rintro e w' ⟨rfl,hf,ht⟩
   have hq:q<n:=by omega
   exact⟨ret_bool (by simp [hq]),by simpa [hq] using hf,ht⟩
 ·refine (hear_out g n me r F d w h (by omega)).mono ?_
  rintro e w' ⟨rfl,hb⟩
  have:(decide (0≤r)&&decide (r<(n:Int)))=false:=by simp;omega
  exact⟨ret_bool (by simp [this]),by simpa [this] using h.below hb h.lt,.of_below hb⟩
theorem stable_any (g n me:Nat) (F:FrontP.Fr) (w:World) (h:FrontAt w g 197 n me F) (hme:me<n) :
  Calls Tryz.prog 172 #[.pointer (some ⟨g,0,none⟩)] w fun e w'=>e=.returned (depsV (FrontP.stable F n me))∧Below w.heap.size w w':=by
 have hn:=h.n7
 have h0:=h.n0
 have hm:=h.me1
 have hg:=h.lt
 have c0:=h.at me 0 (by omega) (by omega)
 have c1:=h.at me 1 (by omega) (by omega)
 have c2:=h.at me 2 (by omega) (by omega)
 have c3:=h.at me 3 (by omega) (by omega)
 have c4:=h.at me 4 (by omega) (by omega)
 have c5:=h.at me 5 (by omega) (by omega)
 have c6:=h.at me 6 (by omega) (by omega)
 rw [Nat.add_zero] at c0
 have HF:=qh h;clear h
 go_enter Tryz.func172,Tryz.ntmps172
 go_upto_region 1 with (fail)
 go_region
 go_upto_region 2 with (fail)
 go_name_world W hW
 have hO:Holds W (w.heap.size+1) 41 (depCells (F me)):=by
  rw [← hW]
  exact holds_drew (by simpa [depCells] using holds_alloc (w.alloc (.cells #[.int .i64 0,.int .i64 0,.int .i64 0,.int .i64 0,.int .i64 0,.int .i64 0,.int .i64 0] 41)) 41 (depCells (F me)))
 have hR:Holds W w.heap.size 41 (depCells fun _=>0):=by
  rw [← hW]
  exact (show Holds _ _ _ _ from holds_past (holds_alloc w 41 (depCells fun _=>0)) _)
 have HB:Below w.heap.size w W:=by rw [← hW];go_grown
 have HFW:=HF.out.below HB hg
 clear hW c0 c1 c2 c3 c4 c5 c6
 have h0:=HFW.n0
 have hgW:=HFW.lt
 have HW:=qh (And.intro hO (And.intro hR (And.intro HB HFW)))
 clear hO hR HB HFW
 go_wp2
 go_loopw [20] (fun i wr=>∃ r:Nat,r≤n∧i=.int .i64 r∧Holds wr (w.heap.size+1) 41 (depCells (FrontP.leastTo F (F me) r))∧Holds wr w.heap.size 41 (depCells fun _=>0)∧FrontAt wr g 197 n me F∧Below w.heap.size w wr) (fun i _=>n - (intOf i).toNat)
 case atStart=>exact⟨0,by omega,rfl,HW.out.1,HW.out.2.1,HW.out.2.2.2,HW.out.2.2.1⟩
 case round=>
  obtain⟨r,hr,rfl,hO,hR,hF,HB⟩:=hrel
  by_cases hlt:r<n
  ·have c0:=hF.at r 0 (by omega) (by omega)
   have c1:=hF.at r 1 (by omega) (by omega)
   have c2:=hF.at r 2 (by omega) (by omega)
   have c3:=hF.at r 3 (by omega) (by omega)
   have c4:=hF.at r 4 (by omega) (by omega)
   have c5:=hF.at r 5 (by omega) (by omega)
   have c6:=hF.at r 6 (by omega) (by omega)
   rw [Nat.add_zero] at c0
   have HH:=qh (And.intro hO (And.intro hR (And.intro HB hF)))
   clear hO hR HB hF
   go_wp2
   clear c0 c1 c2 c3 c4 c5 c6
   obtain⟨wo,hwo⟩:∃ wo:World,wo=wr:=⟨_,rfl⟩
   rw [← hwo] at HH ⊢
   clear hwo
   go_loopw [29] (fun i wr=>∃ k:Nat,k≤7∧i=.int .i64 k∧Holds wr (w.heap.size+1) 41 (depCells (FrontP.leastIn F (F me) r k))∧Holds wr w.heap.size 41 (depCells fun _=>0)∧FrontAt wr g 197 n me F∧Below w.heap.size w wr) (fun i _=>7 - (intOf i).toNat)
   case atStart=>exact⟨0,by omega,rfl,by rw [FrontP.leastIn_zero];exact HH.out.1,HH.out.2.1,HH.out.2.2.2,HH.out.2.2.1⟩
   case round=>
    obtain⟨k,hk,rfl,hO,hR,hF,HB⟩:=hrel
    clear HH
    by_cases hlt2:k<7
    ·have hidx:=idx_deps (F r) k hlt2
     have hcell:=hO.cell k
     rw [getElem_deps _ k hlt2,FrontP.leastIn_at] at hcell
     have hfree:=hO.free k
     have hset:=fun v=>hO.set k (.int .i64 v)
     have HSET:=qh hset;clear hset
     have HS:=qh (FrontP.leastIn_succ F (F me) r k)
     have HK:=qh (And.intro hR (And.intro HB hF))
     clear hO hR HB hF
     go_wp2
     go_roundw
     case rel=>
      refine⟨k+1,by omega,by go_num,?_,holds_other HK.out.1 (by omega) _ _,⟨holds_other HK.out.2.2.h (by omega) _ _,hn⟩,HK.out.2.1.setCell (by simp) _⟩
      have h1:=HSET.out (FrontP.mn (FrontP.leastTo F (F me) r k) (F r k))
      rw [set_deps _ k _ hlt2,← HS.out,show FrontP.mn (FrontP.leastTo F (F me) r k) (F r k)=min (FrontP.leastTo F (F me) r k) (F r k) from by unfold FrontP.mn;split<;>omega] at h1
      exact h1
     case measure=>simp [intOf];omega
    ·have hk7:k=7:=by omega
     subst hk7
     have HK:=qh (And.intro hO (And.intro hR (And.intro HB hF)))
     clear hO hR HB hF
     go_wp2
     go_roundw
     case rel=>exact⟨r+1,by omega,by go_num,by have:=HK.out.1;simpa [depCells,FrontP.leastIn] using this,HK.out.2.1,HK.out.2.2.2,HK.out.2.2.1⟩
     case measure=>simp [intOf];omega
  ·have hrn:r=n:=by omega
   subst hrn
   have o0:=hO.cell 0
   have o1:=hO.cell 1
   have o2:=hO.cell 2
   have o3:=hO.cell 3
   have o4:=hO.cell 4
   have o5:=hO.cell 5
   have o6:=hO.cell 6
   have r0:=hR.cell 0
   have r1:=hR.cell 1
   have r2:=hR.cell 2
   have r3:=hR.cell 3
   have r4:=hR.cell 4
   have r5:=hR.cell 5
   have r6:=hR.cell 6
   simp only [depCells,yA,yB] at o0 o1 o2 o3 o4 o5 o6 r0 r1 r2 r3 r4 r5 r6
   have f0:=hR.free 0
   have f1:=hR.free 1
   have f2:=hR.free 2
   have f3:=hR.free 3
   have f4:=hR.free 4
   have f5:=hR.free 5
   have f6:=hR.free 6
   have HK:=qh (And.intro hR HB)
   clear hO hR HB hF
   go_wp2
   have H7:=((((((HK.out.1.set 0 (.int .i64 (FrontP.leastTo F (F me) r 0))).set 1 (.int .i64 (FrontP.leastTo F (F me) r 1))).set 2 (.int .i64 (FrontP.leastTo F (F me) r 2))).set 3 (.int .i64 (FrontP.leastTo F (F me) r 3))).set 4 (.int .i64 (FrontP.leastTo F (F me) r 4))).set 5 (.int .i64 (FrontP.leastTo F (F me) r 5))).set 6 (.int .i64 (FrontP.leastTo F (F me) r 6))
   have HB:=HK.out.2
   exact bodyPost_ret (v:=depsV (FrontP.stable F r me)) (results_cell_row rfl _ _ w.heap.size 41 (depCells (FrontP.leastTo F (F me) r)).toArray (0,0) _ rfl H7 Tryz.underlying41 rfl (by kernel_rfl)) rfl ⟨rfl,by go_grown⟩
end
section
open Go.RowKit Go.Maps
structure LEnt where
 r:Int
 s:Int
 L:List Value
def LEnt.key (e:LEnt):Lit:=keyL e.r e.s
def LEnt.val (e:LEnt):Value:=.agg e.L.toArray
structure LLists (D:DataW Value) (l:List LEnt):Prop where
 tidy:Tidy D
 size:Maps.size D=l.length
 apart:l.Pairwise fun x y=>¬ (x.r=y.r∧x.s=y.s)
 has:∀ k,Maps.has D k=l.any fun e=>e.key.sameKey k
 at_:∀ e∈l,∀ z,D.atKey e.key z=.held e.val
theorem LLists.empty:LLists (.map []) []:=⟨tidy_empty,rfl,List.Pairwise.nil,fun k=>rfl,fun e he=>by cases he⟩
def lputE (l:List LEnt) (e:LEnt):List LEnt:=if l.any (fun x=>x.r==e.r&&x.s==e.s) then l.map (fun x=>if x.r=e.r∧x.s=e.s then e else x) else l++[e]
def LWfE (l:List LEnt):Prop:=∀ e∈l,(Lit.int .i64 e.r).wf=true∧(Lit.int .i64 e.s).wf=true
theorem LLists.has_inst {D:DataW Value} {l:List LEnt} (h:LLists D l) (hw:LWfE l) (r s:Int) (hr:(Lit.int .i64 r).wf=true) (hs:(Lit.int .i64 s).wf=true):Maps.has D (keyL r s)=l.any fun x=>x.r==r&&x.s==s:=by
 rw [h.has]
 rw [Bool.eq_iff_iff,List.any_eq_true,List.any_eq_true]
 constructor
 ·rintro⟨x,hx,hk⟩
  exact⟨x,hx,by rw [← sameKey_inst (hw x hx).1 (hw x hx).2 hr hs];exact hk⟩
 ·rintro⟨x,hx,hk⟩
  exact⟨x,hx,by rw [LEnt.key,sameKey_inst (hw x hx).1 (hw x hx).2 hr hs];exact hk⟩
theorem LLists.put {D:DataW Value} {l:List LEnt} (h:LLists D l) (hw:LWfE l) (e:LEnt) (he:(Lit.int .i64 e.r).wf=true∧(Lit.int .i64 e.s).wf=true):LLists (D.put e.key (.held e.val)) (lputE l e):=by
 have hi:IsMap D:=h.tidy.isMap
 have hk:WideAt.IsKeyLit e.key:=keyL_is _ _
 have hh:=h.has_inst hw e.r e.s he.1 he.2
 refine⟨h.tidy.put hk _,?_,?_,fun k=>?_,?_⟩
 ·rw [Maps.size_put h.tidy,show Maps.has D e.key=_ from hh,h.size]
  unfold lputE
  split<;>simp
 ·unfold lputE
  split
  ·rw [List.pairwise_map]
   refine h.apart.imp fun {x y} hxy=>?_
   split<;>split<;>rename_i h1 h2
   ·exact fun _=>hxy ⟨h1.1.trans h2.1.symm,h1.2.trans h2.2.symm⟩
   ·exact fun hc=>h2 ⟨hc.1.symm,hc.2.symm⟩
   ·exact fun hc=>h1 hc
   ·exact hxy
  ·rename_i hn
   refine List.pairwise_append.2 ⟨h.apart,List.pairwise_singleton _ _,fun x hx y hy hc=>?_⟩
   rw [List.mem_singleton.1 hy] at hc
   exact hn (List.any_eq_true.2 ⟨x,hx,by simp [hc.1,hc.2]⟩)
 ·by_cases hke:k=e.key
  ·rw [hke,Maps.has_put_same hi hk]
   symm
   rw [List.any_eq_true]
   refine⟨e,?_,WideAt.sameKey_self hk⟩
   unfold lputE
   split
   ·rename_i ha
    obtain⟨x,hx,hx2⟩:=List.any_eq_true.1 ha
    simp only [Bool.and_eq_true,beq_iff_eq] at hx2
    exact List.mem_map.2 ⟨x,hx,if_pos hx2⟩
   ·simp
  ·rw [Maps.has_put_other hke,h.has]
   have hek:e.key.sameKey k=false:=Maps.sameKey_ne (fun hc=>hke hc.symm)
   unfold lputE
   split
   ·rw [List.any_map]
    rw [Bool.eq_iff_iff,List.any_eq_true,List.any_eq_true]
    refine⟨?_,?_⟩
    all_goals
     rintro⟨x,hx,hx2⟩
     refine⟨x,hx,?_⟩
    ·simp only [Function.comp]
     rw [if_neg]
     ·exact hx2
     ·intro hc
      have:x.key=e.key:=by unfold LEnt.key;rw [hc.1,hc.2]
      rw [this,hek] at hx2
      cases hx2
    ·simp only [Function.comp] at hx2
     split at hx2
     ·rw [hek] at hx2;cases hx2
     ·exact hx2
   ·simp [hek]
 ·intro x hx z
  unfold lputE at hx
  have other:x∈l→¬ (x.r=e.r∧x.s=e.s)→(D.put e.key (.held e.val)).atKey x.key z=.held x.val:=fun hl hn=>by
   rw [Maps.atKey_put_other,h.at_ x hl]
   intro hc
   exact hn (keyL_inj (hw x hl).1 (hw x hl).2 he.1 he.2 hc)
  split at hx
  ·obtain⟨y,hy,rfl⟩:=List.mem_map.1 hx
   split
   ·exact Maps.atKey_put_same hi hk _ _
   ·rename_i hn
    rw [if_neg hn] at other
    exact other hy hn
  ·rename_i hn
   rcases List.mem_append.1 hx with hx|hx
   ·exact other hx fun hc=>hn (List.any_eq_true.2 ⟨x,hx,by simp [hc.1,hc.2]⟩)
   ·rw [List.mem_singleton.1 hx]
    exact Maps.atKey_put_same hi hk _ _
def LGoodE (l:List LEnt):Prop:=∀ e∈l,(0≤e.r∧e.r<7)∧(1≤e.s∧e.s≤1073741824)
theorem LGoodE.wf {l:List LEnt} (h:LGoodE l):LWfE l:=fun e he=>⟨WalkArith.wf_i64 (by have:=(h e he).1;omega),WalkArith.wf_i64 (by have:=(h e he).2;omega)⟩
theorem lputE_good {l:List LEnt} (h:LGoodE l) {e:LEnt} (he:(0≤e.r∧e.r<7)∧(1≤e.s∧e.s≤1073741824)):LGoodE (lputE l e):=by
 unfold lputE
 split
 ·intro x hx
  obtain⟨y,hy,rfl⟩:=List.mem_map.1 hx
  split
  ·exact he
  ·exact h y hy
 ·intro x hx
  rcases List.mem_append.1 hx with hx|hx
  ·exact h x hx
  ·rw [List.mem_singleton.1 hx];exact he
end
end Go.Proofs.YtimdpiifpibgfaaGreatDoor
