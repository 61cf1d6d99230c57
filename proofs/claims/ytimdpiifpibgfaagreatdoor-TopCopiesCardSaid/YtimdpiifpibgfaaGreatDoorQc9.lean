/- A part of the proof that the law TopCopies returns true for every input. -/
import Derived.BigRegion
import Derived.Test.YtimdpiifpibgfaaGreatDoorQc8
set_option linter.all false
set_option maxRecDepth 20000
set_option maxHeartbeats 16000000
open Go.RowKit Go.Maps
namespace Go.Proofs.YtimdpiifpibgfaaGreatDoor
open Tryz
def Ez:Nat→Nat→List Nat
 | 0,_=>[]
 | n+1,u=>u % 256 :: Ez n (u / 256)
theorem TS(n u:Nat):(Ez n u).length=n:=by
 induction n generalizing u with
 | zero=>rfl
 | succ n ih=>simp[Ez,ih]
theorem Ls(n u:Nat):∀x∈Ez n u,x<256:=by
 induction n generalizing u with
 | zero=>intro x hx;simp[Ez] at hx
 | succ n ih=>
  intro x hx;simp only[Ez,List.mem_cons] at hx;rcases hx with rfl|hx
  ·omega
  ·exact ih _ x hx
theorem QV(n u:Nat):Ez (n+1) u=Ez n u++[u / 256 ^ n % 256]:=by
 induction n generalizing u with
 | zero=>simp[Ez]
 | succ n ih=>
  rw[Ez,ih,Ez,List.cons_append,Nat.div_div_eq_div_mul,Nat.pow_succ,Nat.mul_comm 256]
def I7(n:Int):Nat:=min n.toNat 8
theorem made_owns{w:World}{g cap:Nat}{e:TypeId}{z:Value}(base:Nat)(hb:base≤g)(hg:Holds w g e (List.replicate cap z))(hm:cap≤maxLen):w.ownsRow base e 1 (.slice (some ⟨g,0,none⟩) 0 cap) 0 []:=
 ⟨rfl,.inr ⟨g,cap,(List.replicate cap z).toArray,rfl,hb,hg,Nat.zero_le _,hm,by simp,by simp⟩⟩
theorem CW{w w':World}{base size n:Nat}{e:TypeId}{v:Value}{xs:List Value}(h:w.ownsRow base e size v n xs)(hb:Below w.heap.size w w'):w'.ownsRow base e size v n xs:=by
 obtain⟨h1,h2⟩:=h;refine⟨h1,?_⟩;rcases h2 with h2|⟨g,cap,cur,hv,hg,hh,hr⟩
 ·exact .inl h2
 ·have:g<w.heap.size:=(Array.getElem?_eq_some_iff.1 hh).1;exact .inr ⟨g,cap,cur,hv,hg,by rw[hb.block g this];exact hh,hr⟩
theorem Gs{w:World}{base n:Nat}{e:TypeId}{v:Value}{xs:List Value}(h:w.ownsRow base e 1 v n xs)(hn:n≤281474976710656) :∃p c,v=.slice p n c∧n≤c∧c≤maxLen∧(p=none→c=0)∧∀l:List Nat,xs=Aa l→(∀x∈l,x<256)→BX w p n l:=by
 obtain⟨h1,h2⟩:=h;rcases h2 with⟨rfl,rfl⟩|⟨g,cap,cur,rfl,hg,hh,hc,hm,hs,ht⟩
 ·refine⟨none,0,rfl,Nat.le_refl _,Nat.zero_le _,λ_=>rfl,?_⟩;rintro l rfl _;have:l=[]:=by simpa[Aa] using h1
  subst this;exact BX.nil _ _
 ·refine⟨some ⟨g,0,none⟩,cap,rfl,hc,hm,(by intro h;cases h),?_⟩;rintro l rfl h8;rw[Nat.mul_one] at h1 ht;have hl:l.length=n:=by simpa[Aa] using h1
  have hlt:g<w.heap.size:=(Array.getElem?_eq_some_iff.1 hh).1;refine⟨hl,hn,h8,λ_=>⟨g,0,rfl,hlt,λi hi=>?_⟩⟩;have h2:cur[i]?=(Aa l)[i]?:=by rw[←ht,List.getElem?_take_of_lt hi,Array.getElem?_toList]
  unfold World.cell?;simp only[hh,Nat.zero_add];rw[h2];simp[Aa,hl,hi]
theorem put_any(a:Option Addr)(len cap:Nat)(bs:List Nat)(n:Int)(u:Nat)(w:World)(hb:BX w a len bs)(hnil:a=none→cap=0)(_hu:u<18446744073709551616)(hl:len≤140737488351232) :Calls prog 170 #[.slice a len cap,.int .i64 n,.int .u64 u] w λe w'=>∃p c,e=.returned (.slice p (len+I7 n) c)∧len+I7 n≤c∧c≤maxLen∧BX w' p (len+I7 n) (bs++Ez (I7 n) u)∧(p=none→c=0)∧Below w.heap.size w w'∧w'.ownsRow w.heap.size 5 1 (.slice p (len+I7 n) c) (len+I7 n) (Aa (bs++Ez (I7 n) u)):=by
 have hM:(n<0∧I7 n=0)∨(8<n∧I7 n=8)∨∃m:Nat,n=m∧m≤8∧I7 n=m:=by
  unfold I7;rcases(show n<0∨8<n∨(0≤n∧n≤8) by omega) with h|h|h
  ·exact .inl ⟨h,by omega⟩
  ·exact .inr (.inl ⟨h,by omega⟩)
  ·exact .inr (.inr ⟨n.toNat,by omega,by omega,by omega⟩)
 generalize I7 n=M at hM ⊢;have hlen:=hb.len;have HBS:=qh hb;clear hb;have HNIL:=qh hnil;clear hnil;rcases hM with⟨hn,rfl⟩|⟨hn,rfl⟩|⟨m,rfl,hm8,rfl⟩;all_goals
  go_in;go_upto_region 1 with(fail);go_wp2_with (first|(at_make;refine Fe w rfl (.const (.int .i64 0)) (.tmp 10) 127 rfl 5 (.int .u8 0) 1 rfl (by kernel_rfl) rfl .i64 .i64 _ _ 0 (len+8) rfl rfl rfl (by push_cast;rfl) (by omega) (by omega) (by unfold maxLen;omega) ?_;intro w1 hh1 hb1 hs1;have HO1:=qh (made_owns w.heap.size (Nat.le_refl _) hh1 (by unfold maxLen;omega)))|(at_builtin;refine AZ rfl (.tmp 11) (.tmp 12) 127 rfl w.heap.size 5 (.int .u8 0) 1 1 rfl (by kernel_rfl) rfl (by decide) _ 0 [] rfl HO1.o a len cap (Aa bs) rfl (by rw[BI,hlen,Nat.mul_one]) (HBS.reads.below hb1) HNIL.o (DX bs) (by unfold maxLen;omega) (by omega) (by omega) ?_;intro v2 w2 ho2 hb2 _;have HO2:=qh ho2;clear ho2))
 ·go_loopw [2,7,17] (λuu out i wr=>∃j:Nat,j≤0∧i=.int .i64 j∧uu=.int .u64 ((u / 256 ^ j:Nat):Int)∧wr.ownsRow w.heap.size 5 1 out (len+j) (Aa (bs++Ez j u))∧Below w.heap.size w wr) (λ_ _ i _=>0 - (intOf i).toNat);case atStart=>exact⟨0,by omega,rfl,by simp,by have:=HO2.o;simpa[Ez] using this,hb1.trans hb2⟩
  case round=>
   obtain⟨j,hj,rfl,rfl,hown,hbel⟩:=hrel;clear HO2 HO1 hh1 hb1 hb2 hs1;by_cases hlt:j<0
   ·exact absurd hlt (Nat.not_lt_zero _)
   ·have hjM:j=0:=by omega
    subst hjM;obtain⟨p,c,rfl,h1,h2,h3,h4⟩:=Gs hown (by omega);have HI:=qh (h4 _ rfl (λx hx=>by
     rcases List.mem_append.1 hx with hx|hx
     ·exact HBS.2.2.1 x hx
     ·exact Ls _ _ x hx))
    have HBE:=qh hbel;have H3:=qh h3;have HOWN:=qh hown;clear h4 h3 hbel hown
    go_wp2
    go_ret;exact⟨p,c,rfl,h1,h2,HI.o,H3.o,HBE.o,HOWN.o⟩
 ·go_loopw [2,7,17] (λuu out i wr=>∃j:Nat,j≤8∧i=.int .i64 j∧uu=.int .u64 ((u / 256 ^ j:Nat):Int)∧wr.ownsRow w.heap.size 5 1 out (len+j) (Aa (bs++Ez j u))∧Below w.heap.size w wr) (λ_ _ i _=>8 - (intOf i).toNat);case atStart=>exact⟨0,by omega,rfl,by simp,by have:=HO2.o;simpa[Ez] using this,hb1.trans hb2⟩
  case round=>
   obtain⟨j,hj,rfl,rfl,hown,hbel⟩:=hrel;clear HO2 HO1 hh1 hb1 hb2 hs1;by_cases hlt:j<8
   ·have HS:=qh (QV j u);have hq:u / 256 ^ j<18446744073709551616:=Nat.lt_of_le_of_lt (Nat.div_le_self _ _) _hu;have hq2:u / 256 ^ (j+1)=u / 256 ^ j / 256:=by rw[Nat.pow_succ,Nat.div_div_eq_div_mul]
    have HQ2:=qh hq2;clear hq2;generalize u / 256 ^ j=q at *;have HOW:=qh hown;clear hown;have hsz:=hbel.size;have HBE:=qh hbel;clear hbel;have HJ:=qh hj;go_upto_region 4 with(fail);go_wp2_with (at_builtin;refine AZ rfl (.tmp 19) (.tmp 22) 127 rfl w.heap.size 5 (.int .u8 0) 1 1 rfl (by kernel_rfl) rfl (by decide) _ (len+j) (Aa (bs++Ez j u)) rfl (CW HOW.o (by go_grown)) (some ⟨wr.heap.size,0,none⟩) 1 1 [.int .u8 ((q:Int) % 256)] rfl rfl ((AA wr _ _).reads 0 _ (λj v hv=>by simpa using hv)) (by intro h;cases h) (by simp[Value.oneCell']) (by unfold maxLen;omega) (by omega) (by simp;omega) ?_;intro v3 w3 ho3 hb3 _;have HO3:=qh ho3;clear ho3);go_roundw;case rel=>
     refine⟨j+1,by omega,by go_num,by rw[HQ2.o,Int.natCast_ediv];rfl,?_,HBE.trans ((show Below w.heap.size wr _ by go_grown).trans hb3)⟩;have:=HO3.o;rw[HS.o,←List.append_assoc];simpa[Aa,Nat.add_assoc] using this
    case measure=>simp[intOf];omega
   ·have hjM:j=8:=by omega
    subst hjM;obtain⟨p,c,rfl,h1,h2,h3,h4⟩:=Gs hown (by omega);have HI:=qh (h4 _ rfl (λx hx=>by
     rcases List.mem_append.1 hx with hx|hx
     ·exact HBS.2.2.1 x hx
     ·exact Ls _ _ x hx))
    have HBE:=qh hbel;have H3:=qh h3;have HOWN:=qh hown;clear h4 h3 hbel hown
    go_wp2
    go_ret;exact⟨p,c,rfl,h1,h2,HI.o,H3.o,HBE.o,HOWN.o⟩
 ·go_loopw [2,7,17] (λuu out i wr=>∃j:Nat,j≤M∧i=.int .i64 j∧uu=.int .u64 ((u / 256 ^ j:Nat):Int)∧wr.ownsRow w.heap.size 5 1 out (len+j) (Aa (bs++Ez j u))∧Below w.heap.size w wr) (λ_ _ i _=>M - (intOf i).toNat);case atStart=>exact⟨0,by omega,rfl,by simp,by have:=HO2.o;simpa[Ez] using this,hb1.trans hb2⟩
  case round=>
   obtain⟨j,hj,rfl,rfl,hown,hbel⟩:=hrel;clear HO2 HO1 hh1 hb1 hb2 hs1;by_cases hlt:j<M
   ·have HS:=qh (QV j u);have hq:u / 256 ^ j<18446744073709551616:=Nat.lt_of_le_of_lt (Nat.div_le_self _ _) _hu;have hq2:u / 256 ^ (j+1)=u / 256 ^ j / 256:=by rw[Nat.pow_succ,Nat.div_div_eq_div_mul]
    have HQ2:=qh hq2;clear hq2;generalize u / 256 ^ j=q at *;have HOW:=qh hown;clear hown;have hsz:=hbel.size;have HBE:=qh hbel;clear hbel;have HJ:=qh hj;go_upto_region 4 with(fail);go_wp2_with (at_builtin;refine AZ rfl (.tmp 19) (.tmp 22) 127 rfl w.heap.size 5 (.int .u8 0) 1 1 rfl (by kernel_rfl) rfl (by decide) _ (len+j) (Aa (bs++Ez j u)) rfl (CW HOW.o (by go_grown)) (some ⟨wr.heap.size,0,none⟩) 1 1 [.int .u8 ((q:Int) % 256)] rfl rfl ((AA wr _ _).reads 0 _ (λj v hv=>by simpa using hv)) (by intro h;cases h) (by simp[Value.oneCell']) (by unfold maxLen;omega) (by omega) (by simp;omega) ?_;intro v3 w3 ho3 hb3 _;have HO3:=qh ho3;clear ho3);go_roundw;case rel=>
     refine⟨j+1,by omega,by go_num,by rw[HQ2.o,Int.natCast_ediv];rfl,?_,HBE.trans ((show Below w.heap.size wr _ by go_grown).trans hb3)⟩;have:=HO3.o;rw[HS.o,←List.append_assoc];simpa[Aa,Nat.add_assoc] using this
    case measure=>simp[intOf];omega
   ·have hjM:j=M:=by omega
    subst hjM;obtain⟨p,c,rfl,h1,h2,h3,h4⟩:=Gs hown (by omega);have HI:=qh (h4 _ rfl (λx hx=>by
     rcases List.mem_append.1 hx with hx|hx
     ·exact HBS.2.2.1 x hx
     ·exact Ls _ _ x hx))
    have HBE:=qh hbel;have H3:=qh h3;have HOWN:=qh hown;clear h4 h3 hbel hown
    go_wp2
    go_ret;exact⟨p,c,rfl,h1,h2,HI.o,H3.o,HBE.o,HOWN.o⟩
theorem bg(n:Int)(w:World)(hn:-9223372036854775808≤n∧n≤9223372036854775807) :Calls prog 256 #[.int .i64 n] w λe w'=>e=.returned (.int .u64 (WordP.zig n))∧Below w.heap.size w w':=by
 go_in
 go_wp2
 go_ret;exact⟨Iq (WordP.bu n hn),by go_grown⟩
end Go.Proofs.YtimdpiifpibgfaaGreatDoor
namespace FrontP
abbrev Fr:=Nat→Nat→Int
def mx(a b:Int):Int:=if a<b then b else a
def mn(a b:Int):Int:=if b<a then b else a
def G5(F:Fr)(r:Nat)(d:Nat→Int)(k:Nat):Fr:=λq i=>if q=r∧i<k then mx (F q i) (d i) else F q i
def hear(F:Fr)(r:Nat)(d:Nat→Int):Fr:=G5 F r d 7
def right(d:Nat→Int):Bool:=(List.range 7).all λi=>decide (0≤d i)&&decide (d i≤1073741824)
def Nz(d:Nat→Int)(k:Nat):Bool:=(List.range k).all λi=>decide (0≤d i)&&decide (d i≤1073741824)
theorem RD(d:Nat→Int)(k:Nat):Nz d (k+1)=(Nz d k&&(decide (0≤d k)&&decide (d k≤1073741824))):=by simp[Nz,List.range_succ,List.all_append]
theorem TU(d:Nat→Int)(k:Nat)(hk:k<7)(h:d k<0∨1073741824<d k):right d=false:=by unfold right;rw[List.all_eq_false];exact⟨k,by simp[hk],by simp;omega⟩
theorem SL(F:Fr)(r:Nat)(d:Nat→Int):G5 F r d 0=F:=by
 funext q i;simp[G5]
theorem SK(F:Fr)(r:Nat)(d:Nat→Int)(k:Nat):G5 F r d (k+1)=λq i=>if q=r∧i=k then mx (F r k) (d k) else G5 F r d k q i:=by
 funext q i
 simp only[G5];by_cases h1:q=r
 ·by_cases h2:i<k
  ·simp[h1,h2,show i<k+1 by omega,show ¬i=k by omega]
  ·by_cases h3:i=k
   ·simp[h1,h3]
   ·simp[h1,h2,h3,show ¬i<k+1 by omega]
 ·simp[h1]
theorem WW(F:Fr)(r:Nat)(d:Nat→Int)(k:Nat):G5 F r d k r k=F r k:=by simp[G5]
def takes(n:Nat)(r:Int)(d:Nat→Int):Bool:=(decide (0≤r)&&decide (r<(n:Int)))&&right d
def heard(F:Fr)(n:Nat)(r:Int)(d:Nat→Int):Fr:=if takes n r d=true then hear F r.toNat d else F
def CV(F:Fr)(a:Nat→Int):Nat→Nat→Int
 | 0,i=>a i
 | m+1,i=>mn (CV F a m i) (F m i)
def stable(F:Fr)(n me:Nat):Nat→Int:=CV F (F me) n
def Gj(F:Fr)(a:Nat→Int)(m k:Nat):Nat→Int:=λi=>if i<k then CV F a (m+1) i else CV F a m i
theorem Qs(F:Fr)(a:Nat→Int)(m:Nat):Gj F a m 0=CV F a m:=by funext i;simp[Gj]
theorem Qr(F:Fr)(a:Nat→Int)(m k:Nat):Gj F a m (k+1)=λi=>if i=k then mn (CV F a m k) (F m k) else Gj F a m k i:=by
 funext i
 simp only[Gj];by_cases h:i=k
 ·subst h;simp[CV]
 ·by_cases h2:i<k
  ·simp[h,h2,show i<k+1 by omega]
  ·simp[h,h2,show ¬i<k+1 by omega]
theorem Un(F:Fr)(a:Nat→Int)(m k:Nat):Gj F a m k k=CV F a m k:=by simp[Gj]
end FrontP
namespace Go.Proofs.YtimdpiifpibgfaaGreatDoor
open Tryz
def Ey(n me:Nat)(F:FrontP.Fr):List Value:=.int .i64 n :: .int .i64 me :: (List.range 49).map λj=>.int .i64 (F (j / 7) (j % 7))
theorem PZ(n me:Nat)(F:FrontP.Fr)(r i:Nat)(hr:r<7)(hi:i<7):(Ey n me F)[2+r*7+i]?=some (.int .i64 (F r i)):=by
 have e1:(r*7+i) / 7=r:=by omega
 have e2:(r*7+i) % 7=i:=by omega
 rw[show 2+r*7+i=(r*7+i)+1+1 from by omega,Ey,List.getElem?_cons_succ,List.getElem?_cons_succ,List.getElem?_map,List.getElem?_range (by omega)];simp[e1,e2]
theorem XU(n me:Nat)(F:FrontP.Fr)(r i:Nat)(v:Int)(_hr:r<7)(hi:i<7) :(Ey n me F).set (2+r*7+i) (.int .i64 v)=Ey n me (λq j=>if q=r∧j=i then v else F q j):=by
 rw[show 2+r*7+i=(r*7+i)+1+1 from by omega,Ey,List.set_cons_succ,List.set_cons_succ,Ey]
 congr 2
 apply List.ext_getElem?;intro j;rw[List.getElem?_set,List.getElem?_map];by_cases hj:j<49
 ·rw[List.getElem?_map,List.getElem?_range hj];by_cases hji:r*7+i=j
  ·subst hji;rw[if_pos rfl,if_pos (by simp;omega)];have e1:(r*7+i) / 7=r:=by omega
   have e2:(r*7+i) % 7=i:=by omega
   simp[e1,e2]
  ·rw[if_neg hji];have:¬(j / 7=r∧j % 7=i):=by omega
   simp[this]
 ·rw[List.getElem?_map,List.getElem?_eq_none (by simp;omega)];split
  ·rw[if_neg (by simp;omega)];rfl
  ·rfl
def dB(d:Nat→Int):Value:=.agg #[.int .i64 (d 0),.int .i64 (d 1),.int .i64 (d 2),.int .i64 (d 3),.int .i64 (d 4),.int .i64 (d 5),.int .i64 (d 6)]
def DY(d:Nat→Int):List Value:=[.int .i64 (d 0),.int .i64 (d 1),.int .i64 (d 2),.int .i64 (d 3),.int .i64 (d 4),.int .i64 (d 5),.int .i64 (d 6)]
theorem Qm(d:Nat→Int)(k:Nat)(hk:k<7):(DY d)[k]?=some (.int .i64 (d k)):=by rcases(show k=0∨k=1∨k=2∨k=3∨k=4∨k=5∨k=6 by omega) with rfl|rfl|rfl|rfl|rfl|rfl|rfl<;>rfl
theorem ZF(d:Nat→Int)(k:Nat)(v:Int)(hk:k<7):(DY d).set k (.int .i64 v)=DY λi=>if i=k then v else d i:=by rcases(show k=0∨k=1∨k=2∨k=3∨k=4∨k=5∨k=6 by omega) with rfl|rfl|rfl|rfl|rfl|rfl|rfl<;>simp[DY]
theorem NL{w:World}{g g' e:Nat}{L:List Value}(h:Holds w g' e L)(hg:g'≠g)(i:Nat)(v:Value):Holds (w.setCell ⟨g,i,none⟩ v) g' e L:=by unfold Holds at *;rw[Below.heap_setCell _ _ _ _ hg];exact h
structure Au(w:World)(g e n me:Nat)(F:FrontP.Fr):Prop where
 h:Holds w g e (Ey n me F)
 n7:n≤7
theorem Au.n0{w:World}{g e n me:Nat}{F:FrontP.Fr}(h:Au w g e n me F):w.cell? ⟨g,0,none⟩=some (.int .i64 n):=h.h.cell 0
theorem Au.kz{w:World}{g e n me:Nat}{F:FrontP.Fr}(h:Au w g e n me F):w.cell? ⟨g,1,none⟩=some (.int .i64 me):=h.h.cell 1
theorem Au.at{w:World}{g e n me:Nat}{F:FrontP.Fr}(h:Au w g e n me F)(r i:Nat)(hr:r<7)(hi:i<7):w.cell? ⟨g,2+r*7+i,none⟩=some (.int .i64 (F r i)):=by rw[h.h.cell];exact PZ n me F r i hr hi
theorem Au.lt{w:World}{g e n me:Nat}{F:FrontP.Fr}(h:Au w g e n me F):g<w.heap.size:=h.h.lt
theorem Au.below{w w':World}{g e n me B:Nat}{F:FrontP.Fr}(h:Au w g e n me F)(hb:Below B w w')(hg:g<B):Au w' g e n me F:=⟨h.h.below hb hg,h.n7⟩
theorem NJ(s:Int)(d:Nat→Int)(w:World)(hs:s=0) :Calls prog 115 #[.agg #[.int .i64 s,.int .i64 (d 0),.int .i64 (d 1),.int .i64 (d 2),.int .i64 (d 3),.int .i64 (d 4),.int .i64 (d 5),.int .i64 (d 6)]] w λe w'=>e=.returned (.bool (FrontP.right d))∧Below w.heap.size w w':=by
 subst hs;go_in
 go_wp2
 go_loop [7] (λi=>∃k:Nat,k≤7∧i=.int .i64 k∧FrontP.Nz d k=true) (λi=>7 - (intOf i).toNat)
 case atStart=>exact⟨0,by omega,rfl,rfl⟩
 case round=>
  obtain⟨k,hk,rfl,hpre⟩:=hrel;have HP:=qh hpre;clear hpre;by_cases hlt:k<7
  ·have hidx:=FP d k hlt;have hs:=FrontP.RD d k;have hf:=FrontP.TU d k hlt;have HS:=qh hs;have HF:=qh hf;clear hs hf;generalize d k=x at hidx HS HF
   go_wp2
   ·go_ret;exact⟨BL (by rw[HF.o ‹_›]),by go_grown⟩
   ·go_round
    case rel=>exact⟨k+1,by omega,by go_num,by rw[HS.o,HP.o];simp;omega⟩
    case measure=>simp[intOf];omega
   ·go_ret;exact⟨BL (by rw[HF.o (.inl ‹_›)]),by go_grown⟩
  ·have hk7:k=7:=by omega
   subst hk7;have HP2:=qh (show FrontP.right d=true from HP.o)
   go_wp2
   go_ret;exact⟨BL (by rw[HP2.o]),by go_grown⟩
theorem Z9(g n me r:Nat)(F:FrontP.Fr)(d:Nat→Int)(w:World)(h:Au w g 197 n me F)(hr:r<n)(hd:FrontP.right d=true) :Calls prog 69 #[.pointer (some ⟨g,0,none⟩),.int .i64 r,.agg #[.int .i64 (d 0),.int .i64 (d 1),.int .i64 (d 2),.int .i64 (d 3),.int .i64 (d 4),.int .i64 (d 5),.int .i64 (d 6)]] w λe w'=> e=.returned (.bool true)∧Au w' g 197 n me (FrontP.hear F r d)∧Touch g w w':=by
 have hn:=h.n7;have h0:=h.n0;have hg:=h.lt;have HF:=qh h;have R:=qh (λW=>NJ 0 d W rfl);rw[hd] at R;go_in;go_wp2_with fail;refine Ac (R.out _) ?_;rintro w1 hb1;have hf1:=HF.below (AB (by go_grown) hb1) hg;have ht1:Touch g w w1:=.of_below (AB (by go_grown) hb1);obtain⟨hc1,hz1⟩:=Xx hb1
 go_wp2
 go_loopw [26] (λi wr=>∃k:Nat,k≤7∧i=.int .i64 k∧Au wr g 197 n me (FrontP.G5 F r d k)∧Touch g w wr) (λi _=>7 - (intOf i).toNat);case atStart=>exact⟨0,by omega,rfl,by rw[FrontP.SL];exact hf1,ht1⟩
 case round=>
  obtain⟨k,hk,rfl,hfr,htr⟩:=hrel;clear hc1 hz1 hb1;by_cases hlt:k<7
  ·have hidx:=FP d k hlt;have hcell:=hfr.at r k (by omega) hlt;rw[FrontP.WW] at hcell;have hfree:=hfr.h.free (2+r*7+k);have hs:=FrontP.SK F r d k;have HS:=qh hs;clear hs;have hset:=λv=>hfr.h.set (2+r*7+k) (.int .i64 v);have HSET:=qh hset;clear hset;go_upto_region 6 with(fail);go_region
   go_wp2
   go_roundw;case rel=>
    refine⟨k+1,by omega,by go_num,⟨?_,hn⟩,(htr.setCell _ _).drew⟩;have h1:=HSET.o (FrontP.mx (F r k) (d k));rw[XU _ _ _ r k _ (by omega) hlt,←HS.o,show FrontP.mx (F r k) (d k)=max (F r k) (d k) from by unfold FrontP.mx;split<;>omega] at h1;exact h1
   case measure=>simp[intOf];omega
  ·have hk7:k=7:=by omega
   subst hk7;have HFR:=qh (show Au wr g 197 n me (FrontP.hear F r d) from hfr);clear hfr
   go_wp2
   go_ret;exact⟨rfl,HFR.o,htr⟩
theorem Yf(g n me:Nat)(r:Int)(F:FrontP.Fr)(d:Nat→Int)(w:World)(h:Au w g 197 n me F)(hr:r<0∨(n:Int)≤r) :Calls prog 69 #[.pointer (some ⟨g,0,none⟩),.int .i64 r,.agg #[.int .i64 (d 0),.int .i64 (d 1),.int .i64 (d 2),.int .i64 (d 3),.int .i64 (d 4),.int .i64 (d 5),.int .i64 (d 6)]] w λe w'=> e=.returned (.bool false)∧Below w.heap.size w w':=by
 have h0:=h.n0;have hg:=h.lt;by_cases hr0:r<0
 ·go_in;go_wp2_with fail;go_ret;exact⟨rfl,by go_grown⟩
 ·have hr1:(n:Int)≤r:=by omega
  go_in;go_wp2_with fail;go_ret;exact⟨rfl,by go_grown⟩
theorem Ud(g n me r:Nat)(F:FrontP.Fr)(d:Nat→Int)(w:World)(h:Au w g 197 n me F)(hr:r<n)(hd:FrontP.right d=false) :Calls prog 69 #[.pointer (some ⟨g,0,none⟩),.int .i64 r,.agg #[.int .i64 (d 0),.int .i64 (d 1),.int .i64 (d 2),.int .i64 (d 3),.int .i64 (d 4),.int .i64 (d 5),.int .i64 (d 6)]] w λe w'=> e=.returned (.bool false)∧Below w.heap.size w w':=by
 have h0:=h.n0;have hg:=h.lt;have R:=qh (λW=>NJ 0 d W rfl);rw[hd] at R;go_in;go_wp2_with fail;refine Ac (R.out _) ?_;rintro w1 hb1;have HB:Below w.heap.size w w1:=AB (by go_grown) hb1
 go_wp2
 go_ret;exact⟨rfl,HB⟩
theorem SN(g n me:Nat)(r:Int)(F:FrontP.Fr)(d:Nat→Int)(w:World)(h:Au w g 197 n me F) :Calls prog 69 #[.pointer (some ⟨g,0,none⟩),.int .i64 r,.agg #[.int .i64 (d 0),.int .i64 (d 1),.int .i64 (d 2),.int .i64 (d 3),.int .i64 (d 4),.int .i64 (d 5),.int .i64 (d 6)]] w λe w'=> e=.returned (.bool (FrontP.takes n r d))∧Au w' g 197 n me (FrontP.heard F n r d)∧Touch g w w':=by
 unfold FrontP.takes FrontP.heard FrontP.takes;by_cases hr:0≤r∧r<n
 ·obtain⟨q,rfl⟩:=Int.eq_ofNat_of_zero_le hr.1;cases hd:FrontP.right d
  ·refine Ac (Ud g n me q F d w h (by omega) hd) ?_;rintro w' hb;exact⟨BL (by simp),by simpa using h.below hb h.lt,.of_below hb⟩
  ·refine Ac (Z9 g n me q F d w h (by omega) hd) ?_;rintro w' ⟨hf,ht⟩;have hq:q<n:=by omega
   exact⟨BL (by simp[hq]),by simpa[hq] using hf,ht⟩
 ·refine Ac (Yf g n me r F d w h (by omega)) ?_;rintro w' hb;have:(decide (0≤r)&&decide (r<(n:Int)))=false:=by simp;omega
  exact⟨BL (by simp[this]),by simpa[this] using h.below hb h.lt,.of_below hb⟩
theorem U7(g n me:Nat)(F:FrontP.Fr)(w:World)(h:Au w g 197 n me F)(hme:me<n) :Calls prog 172 #[.pointer (some ⟨g,0,none⟩)] w λe w'=>e=.returned (dB (FrontP.stable F n me))∧Below w.heap.size w w':=by
 have hn:=h.n7;have h0:=h.n0;have hm:=h.kz;have hg:=h.lt;have c0:=h.at me 0 (by omega) (by omega);have c1:=h.at me 1 (by omega) (by omega);have c2:=h.at me 2 (by omega) (by omega);have c3:=h.at me 3 (by omega) (by omega);have c4:=h.at me 4 (by omega) (by omega);have c5:=h.at me 5 (by omega) (by omega);have c6:=h.at me 6 (by omega) (by omega);rw[Nat.add_zero] at c0;have HF:=qh h;clear h;go_in;go_upto_region 1 with(fail);go_region;go_upto_region 2 with(fail);go_name_world W hW;have hO:Holds W (w.heap.size+1) 41 (DY (F me)):=by rw[←hW];exact Kw (by simpa[DY] using AA (w.alloc (.cells #[.int .i64 0,.int .i64 0,.int .i64 0,.int .i64 0,.int .i64 0,.int .i64 0,.int .i64 0] 41)) 41 (DY (F me)))
 have hR:Holds W w.heap.size 41 (DY λ_=>0):=by rw[←hW];exact(show Holds _ _ _ _ from Ak (AA w 41 (DY λ_=>0)) _)
 have HB:Below w.heap.size w W:=by rw[←hW];go_grown
 have HFW:=HF.below HB hg;clear hW c0 c1 c2 c3 c4 c5 c6;have h0:=HFW.n0;have hgW:=HFW.lt;have HW:=qh (And.intro hO (And.intro hR (And.intro HB HFW)));clear hO hR HB HFW
 go_wp2
 go_loopw [20] (λi wr=>∃r:Nat,r≤n∧i=.int .i64 r∧Holds wr (w.heap.size+1) 41 (DY (FrontP.CV F (F me) r))∧Holds wr w.heap.size 41 (DY λ_=>0)∧Au wr g 197 n me F∧Below w.heap.size w wr) (λi _=>n - (intOf i).toNat);case atStart=>exact⟨0,by omega,rfl,HW.1,HW.2.1,HW.2.2.2,HW.2.2.1⟩
 case round=>
  obtain⟨r,hr,rfl,hO,hR,hF,HB⟩:=hrel;by_cases hlt:r<n
  ·have c0:=hF.at r 0 (by omega) (by omega);have c1:=hF.at r 1 (by omega) (by omega);have c2:=hF.at r 2 (by omega) (by omega);have c3:=hF.at r 3 (by omega) (by omega);have c4:=hF.at r 4 (by omega) (by omega);have c5:=hF.at r 5 (by omega) (by omega);have c6:=hF.at r 6 (by omega) (by omega);rw[Nat.add_zero] at c0;have HH:=qh (And.intro hO (And.intro hR (And.intro HB hF)));clear hO hR HB hF
   go_wp2
   clear c0 c1 c2 c3 c4 c5 c6;obtain⟨wo,hwo⟩:∃wo:World,wo=wr:=⟨_,rfl⟩;rw[←hwo] at HH ⊢;clear hwo;go_loopw [29] (λi wr=>∃k:Nat,k≤7∧i=.int .i64 k∧Holds wr (w.heap.size+1) 41 (DY (FrontP.Gj F (F me) r k))∧Holds wr w.heap.size 41 (DY λ_=>0)∧Au wr g 197 n me F∧Below w.heap.size w wr) (λi _=>7 - (intOf i).toNat);case atStart=>exact⟨0,by omega,rfl,by rw[FrontP.Qs];exact HH.1,HH.2.1,HH.2.2.2,HH.2.2.1⟩
   case round=>
    obtain⟨k,hk,rfl,hO,hR,hF,HB⟩:=hrel;clear HH;by_cases hlt2:k<7
    ·have hidx:=FP (F r) k hlt2;have hcell:=hO.cell k;rw[Qm _ k hlt2,FrontP.Un] at hcell;have hfree:=hO.free k;have hset:=λv=>hO.set k (.int .i64 v);have HSET:=qh hset;clear hset;have HS:=qh (FrontP.Qr F (F me) r k);have HK:=qh (And.intro hR (And.intro HB hF));clear hO hR HB hF
     go_wp2
     go_roundw;case rel=>
      refine⟨k+1,by omega,by go_num,?_,NL HK.o.1 (by omega) _ _,⟨NL HK.o.2.2.h (by omega) _ _,hn⟩,HK.o.2.1.setCell (by simp) _⟩;have h1:=HSET.o (FrontP.mn (FrontP.CV F (F me) r k) (F r k));rw[ZF _ k _ hlt2,←HS.o,show FrontP.mn (FrontP.CV F (F me) r k) (F r k)=min (FrontP.CV F (F me) r k) (F r k) from by unfold FrontP.mn;split<;>omega] at h1;exact h1
     case measure=>simp[intOf];omega
    ·have hk7:k=7:=by omega
     subst hk7;have HK:=qh (And.intro hO (And.intro hR (And.intro HB hF)));clear hO hR HB hF
     go_wp2
     go_roundw;case rel=>exact⟨r+1,by omega,by go_num,by have:=HK.o.1;simpa[DY,FrontP.Gj] using this,HK.o.2.1,HK.o.2.2.2,HK.o.2.2.1⟩
     case measure=>simp[intOf];omega
  ·have hrn:r=n:=by omega
   subst hrn;obtain⟨o0,o1,o2,o3,o4,o5,o6⟩:=GR hO 0 1 2 3 4 5 6;obtain⟨r0,r1,r2,r3,r4,r5,r6⟩:=GR hR 0 1 2 3 4 5 6;have f0:=hR.free 0;have f1:=hR.free 1;have f2:=hR.free 2;have f3:=hR.free 3;have f4:=hR.free 4;have f5:=hR.free 5;have f6:=hR.free 6;have HK:=qh (And.intro hR HB);clear hO hR HB hF
   go_wp2
   have H7:=((((((HK.o.1.set 0 (.int .i64 (FrontP.CV F (F me) r 0))).set 1 (.int .i64 (FrontP.CV F (F me) r 1))).set 2 (.int .i64 (FrontP.CV F (F me) r 2))).set 3 (.int .i64 (FrontP.CV F (F me) r 3))).set 4 (.int .i64 (FrontP.CV F (F me) r 4))).set 5 (.int .i64 (FrontP.CV F (F me) r 5))).set 6 (.int .i64 (FrontP.CV F (F me) r 6));have HB:=HK.o.2;exact bodyPost_ret (v:=dB (FrontP.stable F r me)) (results_cell_row rfl _ _ w.heap.size 41 (DY (FrontP.CV F (F me) r)).toArray (0,0) _ rfl H7 underlying41 rfl (by kernel_rfl)) rfl ⟨rfl,by go_grown⟩
end Go.Proofs.YtimdpiifpibgfaaGreatDoor
namespace SumP
def sh(c:Nat):Nat:=if c % 2=1 then (c / 2) ^^^ 3988292384 else c / 2
def bD:Nat→Nat→Nat
 | 0,c=>c
 | n+1,c=>bD n (sh c)
def feed(c x:Nat):Nat:=bD 8 (c ^^^ x)
def crc(c:Nat)(l:List Nat):Nat:=l.foldl feed c
def inv(c:Nat):Nat:=4294967295-c
def on(c:Nat)(l:List Nat):Nat:=inv (crc (inv c) l)
theorem jV{c:Nat}(h:c<2 ^ 32):sh c<2 ^ 32:=by
 unfold sh;split
 ·exact Nat.xor_lt_two_pow (by omega) (by decide)
 ·omega
theorem ZG{n c:Nat}(h:c<2 ^ 32):bD n c<2 ^ 32:=by
 induction n generalizing c with
 | zero=>exact h
 | succ n ih=>exact ih (jV h)
theorem ZH(n c:Nat):bD (n+1) c=sh (bD n c):=by
 induction n generalizing c with
 | zero=>rfl
 | succ n ih=>exact ih (sh c)
theorem YH(c:Nat)(l:List Nat)(x:Nat):crc c (l++[x])=feed (crc c l) x:=by simp[crc]
theorem YI(c:Nat)(l:List Nat)(k:Nat)(hk:k<l.length):crc c (l.take (k+1))=feed (crc c (l.take k)) (l.getD k 0):=by
 rw[List.take_succ_eq_append_getElem hk,YH]
 congr 1
 simp[hk]
theorem getD_mem{l:List Nat}{k:Nat}(hk:k<l.length):l.getD k 0∈l:=by simp[hk]
theorem Zy{c x:Nat}(h:c<2 ^ 32)(hx:x<256):feed c x<2 ^ 32:=
 ZG (Nat.xor_lt_two_pow h (by omega))
theorem eF{l:List Nat}{c:Nat}(h:c<2 ^ 32)(hl:∀x∈l,x<256):crc c l<2 ^ 32:=by
 induction l generalizing c with
 | nil=>exact h
 | cons x l ih=>exact ih (Zy h (hl x (by simp))) (λy hy=>hl y (by simp[hy]))
theorem Yj{c:Nat}:inv c<2 ^ 32:=by unfold inv;omega
theorem dI(c:Nat)(l:List Nat):on c l<4294967296:=Yj
end SumP
namespace Go.Proofs.YtimdpiifpibgfaaGreatDoor
open Tryz
theorem Vu(c:Nat)(hc:c<4294967296):bits BinOp.xor IntKind.u32 IntKind.u32.max (c:Int)=((SumP.inv c:Nat):Int):=by
 have e:IntKind.u32.max=((4294967295:Nat):Int):=by decide
 rw[e,u32_xor_nat _ _ (by decide) hc];unfold SumP.inv
 congr 1
 apply Nat.eq_of_testBit_eq;intro i;have:=Nat.testBit_two_pow_sub_succ (n:=32) hc i;rw[Nat.testBit_xor,show (4294967295:Nat) - c=2 ^ 32 - (c+1) from by omega,this,show (4294967295:Nat)=2 ^ 32-1 from rfl,Nat.testBit_two_pow_sub_one];by_cases hi:i<32
 ·simp[hi]
 ·have:c.testBit i=false:=Nat.testBit_lt_two_pow (Nat.lt_of_lt_of_le hc (Nat.pow_le_pow_right (n:=2) (by decide) (by omega:32≤i)));simp[hi,this]
theorem ZR(c x:Nat)(hc:c<4294967296)(hx:x<256):bits BinOp.xor IntKind.u32 (c:Int) (x:Int)=((c ^^^ x:Nat):Int):=u32_xor_nat c x hc (by omega)
theorem gV(d:Nat)(hd:d<4294967296)(h:(bits BinOp.and IntKind.u32 (d:Int) 1==1)=true):bits BinOp.xor IntKind.u32 ((d:Int) / 2) 3988292384=((SumP.sh d:Nat):Int):=by
 have e:=u32_and_nat d 1 hd (by decide);rw[show ((1:Nat):Int)=1 from rfl] at e;rw[e,nat_mask1] at h;have h1:d % 2=1:=by have:=eq_of_beq h;omega
 rw[show ((d:Int) / 2)=((d / 2:Nat):Int) from by omega,show (3988292384:Int)=((3988292384:Nat):Int) from rfl,u32_xor_nat _ _ (by omega) (by decide)];rw[SumP.sh,if_pos h1]
theorem bF(d:Nat)(hd:d<4294967296)(h:(bits BinOp.and IntKind.u32 (d:Int) 1==1)=false):((d:Int) / 2)=((SumP.sh d:Nat):Int):=by
 have e:=u32_and_nat d 1 hd (by decide);rw[show ((1:Nat):Int)=1 from rfl] at e;rw[e,nat_mask1] at h;have h1:¬d % 2=1:=by intro h1;rw[h1] at h;simp at h
 rw[SumP.sh,if_neg h1];omega
theorem on_any(c:Nat)(a:Option Addr)(len cap:Nat)(bs:List Nat)(w:World)(hc:c<4294967296)(hb:BX w a len bs) :Calls prog 233 #[.int .u32 c,.slice a len cap] w λe w'=>e=.returned (.int .u32 (SumP.on c bs:Nat))∧w=w':=by
 have hinv:=Vu c hc;obtain⟨hl,hm,h8,hcell⟩:=hb;have Hl:=qh hl;clear hl;have H8:=qh h8;clear h8;have HC:=qh hcell;clear hcell;have Hinv:=qh hinv;clear hinv;go_in
 go_wp2
 go_loop [0,12] (λc0 i=>∃k:Nat,k≤len∧i=.int .i64 k∧c0=.int .u32 (SumP.crc (SumP.inv c) (bs.take k):Nat)) (λ_ i=>len - (intOf i).toNat)
 case atStart=>exact⟨0,by omega,rfl,by rw[Hinv.o];rfl⟩
 case round=>
  obtain⟨k,hk,rfl,rfl⟩:=hrel;have hfin:¬k<len→SumP.on c bs=SumP.inv (SumP.crc (SumP.inv c) (bs.take k)):=λh=>by rw[List.take_of_length_le (by rw[Hl.o];omega)];rfl
  have hc1lt:SumP.crc (SumP.inv c) (bs.take k)<4294967296:=SumP.eF SumP.Yj (λy hy=>H8.o y (List.mem_of_mem_take hy));obtain⟨c1,hc1⟩:∃c1,c1=SumP.crc (SumP.inv c) (bs.take k):=⟨_,rfl⟩;rw[←hc1] at hc1lt hfin ⊢;have Hfin:=qh hfin;clear hfin;have Hc1:=qh hc1;clear hc1;by_cases hlt:k<len
  ·obtain⟨b,off,rfl,_,hcell⟩:=HC.o (by omega);have hx:=hcell k hlt;clear hcell;have hx256:bs.getD k 0<256:=H8.o _ (SumP.getD_mem (by rw[Hl.o];exact hlt));have Hstep:=qh (SumP.YI (SumP.inv c) bs k (by rw[Hl.o];exact hlt));generalize bs.getD k 0=x at hx hx256 Hstep;rw[←Hc1.o] at Hstep
   go_wp2
   go_loop [0,20] (λc0 i=>∃j:Nat,j≤8∧i=.int .i64 j∧c0=.int .u32 (SumP.bD j (c1 ^^^ x):Nat)) (λ_ i=>8 - (intOf i).toNat)
   case atStart=>exact⟨0,by omega,rfl,by rw[ZR c1 x hc1lt hx256];rfl⟩
   case round=>
    obtain⟨j,hj,rfl,rfl⟩:=hrel;have hd:SumP.bD j (c1 ^^^ x)<4294967296:=SumP.ZG (Nat.xor_lt_two_pow (n:=32) hc1lt (by omega));have Hs:=qh (SumP.ZH j (c1 ^^^ x));have H8j:j=8→SumP.bD j (c1 ^^^ x)=SumP.feed c1 x:=λh=>by subst h;rfl
    have H8j:=qh H8j;generalize SumP.bD j (c1 ^^^ x)=d at hd Hs H8j
    go_wp2
    ·go_round
     case rel=>exact⟨j+1,by omega,by go_num,by rw[Hs.o,gV d hd ‹_›]⟩
     case measure=>simp[intOf];omega
    ·go_round
     case rel=>exact⟨j+1,by omega,by go_num,by rw[Hs.o,bF d hd ‹_›]⟩
     case measure=>simp[intOf];omega
    ·go_round
     case rel=>exact⟨k+1,by omega,by go_num,by rw[Hstep.o,H8j.o (by omega)]⟩
     case measure=>simp[intOf];omega
  ·have e2:=Vu c1 hc1lt
   go_wp2
   go_ret;exact⟨Iq (by rw[Hfin.o hlt]),rfl⟩
theorem TT(a:Option Addr)(len cap:Nat)(bs:List Nat)(w:World)(hb:BX w a len bs) :Calls prog 171 #[.slice a len cap] w λe w'=>e=.returned (.int .u32 (SumP.on 0 bs:Nat))∧w=w':=by go_in;go_wp2_with (first|(go_at_call 233;refine(on_any 0 a len cap bs _ (by omega) hb).mono ?_;rintro e w1 ⟨rfl,rfl⟩));go_ret;exact⟨rfl,rfl⟩
structure Ad where
 r:Int
 s:Int
 L:List Value
def Ad.key(e:Ad):Lit:=G7 e.r e.s
def Ad.val(e:Ad):Value:=.agg e.L.toArray
structure Fv(D:DataW Value)(l:List Ad):Prop where
 tidy:Tidy D
 size:Maps.size D=l.length
 apart:l.Pairwise λx y=>¬(x.r=y.r∧x.s=y.s)
 has:∀k,Maps.has D k=l.any λe=>e.key.sameKey k
 at_:∀e∈l,∀z,D.atKey e.key z=.held e.val
theorem Fv.empty:Fv (.map []) []:=⟨tidy_empty,rfl,List.Pairwise.nil,λk=>rfl,λe he=>by cases he⟩
def CO(l:List Ad)(e:Ad):List Ad:=if l.any (λx=>x.r==e.r&&x.s==e.s) then l.map (λx=>if x.r=e.r∧x.s=e.s then e else x) else l++[e]
def UB(l:List Ad):Prop:=∀e∈l,(Lit.int .i64 e.r).wf=true∧(Lit.int .i64 e.s).wf=true
theorem Fv.IY{D:DataW Value}{l:List Ad}(h:Fv D l)(hw:UB l)(r s:Int)(hr:(Lit.int .i64 r).wf=true)(hs:(Lit.int .i64 s).wf=true):Maps.has D (G7 r s)=l.any λx=>x.r==r&&x.s==s:=by
 rw[h.has];rw[Bool.eq_iff_iff,List.any_eq_true,List.any_eq_true];constructor
 ·rintro⟨x,hx,hk⟩;exact⟨x,hx,by rw[←Dw (hw x hx).1 (hw x hx).2 hr hs];exact hk⟩
 ·rintro⟨x,hx,hk⟩;exact⟨x,hx,by rw[Ad.key,Dw (hw x hx).1 (hw x hx).2 hr hs];exact hk⟩
theorem Fv.put{D:DataW Value}{l:List Ad}(h:Fv D l)(hw:UB l)(e:Ad)(he:(Lit.int .i64 e.r).wf=true∧(Lit.int .i64 e.s).wf=true):Fv (D.put e.key (.held e.val)) (CO l e):=by
 have hi:IsMap D:=h.tidy.isMap;have hk:WideAt.IsKeyLit e.key:=Ik _ _;have hh:=h.IY hw e.r e.s he.1 he.2;refine⟨h.tidy.put hk _,?_,?_,λk=>?_,?_⟩
 ·rw[Maps.size_put h.tidy,show Maps.has D e.key=_ from hh,h.size];unfold CO;split<;>simp
 ·unfold CO;split
  ·rw[List.pairwise_map];refine h.apart.imp fun {x y} hxy=>?_;split<;>split<;>rename_i h1 h2
   ·exact λ_=>hxy ⟨h1.1.trans h2.1.symm,h1.2.trans h2.2.symm⟩
   ·exact λhc=>h2 ⟨hc.1.symm,hc.2.symm⟩
   ·exact λhc=>h1 hc
   ·exact hxy
  ·rename_i hn;refine List.pairwise_append.2 ⟨h.apart,List.pairwise_singleton _ _,λx hx y hy hc=>?_⟩;rw[List.mem_singleton.1 hy] at hc;exact hn (List.any_eq_true.2 ⟨x,hx,by simp[hc.1,hc.2]⟩)
 ·by_cases hke:k=e.key
  ·rw[hke,Maps.has_put_same hi hk];symm;rw[List.any_eq_true];refine⟨e,?_,WideAt.sameKey_self hk⟩;unfold CO;split
   ·rename_i ha;obtain⟨x,hx,hx2⟩:=List.any_eq_true.1 ha;simp only[Bool.and_eq_true,beq_iff_eq] at hx2;exact List.mem_map.2 ⟨x,hx,if_pos hx2⟩
   ·simp
  ·rw[Maps.has_put_other hke,h.has];have hek:e.key.sameKey k=false:=Maps.sameKey_ne (λhc=>hke hc.symm);unfold CO;split
   ·rw[List.any_map];rw[Bool.eq_iff_iff,List.any_eq_true,List.any_eq_true];refine⟨?_,?_⟩;all_goals
     rintro⟨x,hx,hx2⟩;refine⟨x,hx,?_⟩
    ·simp only[Function.comp];rw[if_neg]
     ·exact hx2
     ·intro hc;have:x.key=e.key:=by unfold Ad.key;rw[hc.1,hc.2]
      rw[this,hek] at hx2;cases hx2
    ·simp only[Function.comp] at hx2;split at hx2
     ·rw[hek] at hx2;cases hx2
     ·exact hx2
   ·simp[hek]
 ·intro x hx z;unfold CO at hx;have other:x∈l→¬(x.r=e.r∧x.s=e.s)→(D.put e.key (.held e.val)).atKey x.key z=.held x.val:=λhl hn=>by rw[Maps.atKey_put_other,h.at_ x hl];intro hc;exact hn (JJ (hw x hl).1 (hw x hl).2 he.1 he.2 hc)
  split at hx
  ·obtain⟨y,hy,rfl⟩:=List.mem_map.1 hx;split
   ·exact Maps.atKey_put_same hi hk _ _
   ·rename_i hn;rw[if_neg hn] at other;exact other hy hn
  ·rename_i hn;rcases List.mem_append.1 hx with hx|hx
   ·exact other hx λhc=>hn (List.any_eq_true.2 ⟨x,hx,by simp[hc.1,hc.2]⟩)
   ·rw[List.mem_singleton.1 hx];exact Maps.atKey_put_same hi hk _ _
def Ij(l:List Ad):Prop:=∀e∈l,(0≤e.r∧e.r<7)∧(1≤e.s∧e.s≤1073741824)
theorem Ij.wf{l:List Ad}(h:Ij l):UB l:=λe he=>⟨WalkArith.wf_i64 (by have:=(h e he).1;omega),WalkArith.wf_i64 (by have:=(h e he).2;omega)⟩
theorem Ou{l:List Ad}(h:Ij l){e:Ad}(he:(0≤e.r∧e.r<7)∧(1≤e.s∧e.s≤1073741824)):Ij (CO l e):=by
 unfold CO;split
 ·intro x hx;obtain⟨y,hy,rfl⟩:=List.mem_map.1 hx;split
  ·exact he
  ·exact h y hy
 ·intro x hx;rcases List.mem_append.1 hx with hx|hx
  ·exact h x hx
  ·rw[List.mem_singleton.1 hx];exact he
end Go.Proofs.YtimdpiifpibgfaaGreatDoor
