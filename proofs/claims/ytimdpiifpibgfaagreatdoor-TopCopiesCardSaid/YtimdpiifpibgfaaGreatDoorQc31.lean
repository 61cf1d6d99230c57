/- A part of the proof that the law TopCopies returns true for every input. -/
import Derived.Test.YtimdpiifpibgfaaGreatDoorQc30
set_option linter.all false
set_option maxRecDepth 20000
set_option maxHeartbeats 16000000
open Go.RowKit Go.Maps
namespace Go.Proofs.YtimdpiifpibgfaaGreatDoor
open Tryz
theorem IB.back{w W:World}{F G:Af}{T:List TypeId}(hm:Mv G w W)(hG:∀k,G k→¬IB W F T k):∀k,IB W F T k→IB w F T k∨w.heap.size≤k:=λk h=>by
 by_cases hk:k<w.heap.size
 ·obtain⟨hf,t,L,hh,ht⟩:=h;refine .inl ⟨hf,t,L,?_,ht⟩;have:=hm.block k hk λhg=>hG k hg ⟨hf,t,L,hh,ht⟩;unfold Holds at *;rw[←this];exact hh
 ·exact .inr (by omega)
theorem D5.next{w W W':World}{F:Af}{gd gw mb:Nat}(h:D5 W' (grow F W W') gd gw mb)(h1:w.heap.size≤W.heap.size):D5 W' (grow F w W') gd gw mb:=h.foot λk hk _=>hk.imp id λ⟨a,b⟩=>⟨by omega,b⟩
theorem Zg(v:Value)(m:Nat)(w:World)(h:BZ w v m)(h1:1≤m)(hm:m≤1000000) :Calls prog 160 #[v] w λe w'=>∃v',e=.returned v'∧Aj w' w.heap.size v' (1+m)∧Below w.heap.size w w':=by
 obtain⟨b,off,c,bs,rfl,hc,hcm,hb⟩:=h.some h1;have hl:=hb.len;have h256:=hb.2.2.1;have HS:=qh hb;have HO1:=qh (show AO (w.alloc (.cells #[.int .u8 2] 5)) (.slice (Option.some ⟨w.heap.size,0,none⟩) 1 1) (Option.some w.heap.size) 5 1 1 (Aa [2]) from⟨World.ownsRow_lit (size:=1) w #[.int .u8 2] 1 (by omega) (by unfold maxLen;omega) rfl,rfl⟩);have ha:Below w.heap.size w (w.alloc (.cells #[.int .u8 2] 5)):=by go_grown
 have HA:=qh ha;have hsz:=ha.size;clear hb ha h;go_in;go_wp2_with (first|(at_builtin;refine aS (.int .u8 0) 1 1 HO1.o (Aa bs) (HS.reads.below HA.o) ?_ (DX _) (hl:=by rw[BI,hl,Nat.mul_one]) (hm0:=by omega);intro v2 ob2 w2 ho2 hob2 hm2));have H2:=qh ho2;have HB:=qh (HA.trans (hm2.below hsz (λk hk=>by cases hk;exact Nat.le_refl _)));have hg:∃g,ob2=Option.some g∧w.heap.size≤g:=by
  rcases hob2 with hc|⟨k,hk,hk2⟩
  ·exact⟨_,hc,Nat.le_refl _⟩
  ·exact⟨k,hk,by omega⟩
 obtain⟨g,rfl,hg⟩:=hg;clear ho2 hm2 hob2;go_ret;have h3:=H2.o;rw[show Aa [2]++Aa bs=Aa (2 :: bs) from rfl] at h3;exact⟨_,rfl,h3.ag (by intro x hx;rcases List.mem_cons.1 hx with rfl|hx;decide;exact h256 x hx) hg (by omega),HB.o⟩
theorem kF(k:Nat)(hk:k<7):∀W:World,(Instr.index 41 (.agg #[.int .i64 0,.int .i64 0,.int .i64 0,.int .i64 0,.int .i64 0,.int .i64 0,.int .i64 0]) (.int .i64 k)).run prog W=.ok (.int .i64 0) W:=by intro W;rcases(show k=0∨k=1∨k=2∨k=3∨k=4∨k=5∨k=6 by omega) with rfl|rfl|rfl|rfl|rfl|rfl|rfl<;>kernel_rfl
theorem eH(w:World) :Calls prog 68 #[.agg #[.int .i64 0,.int .i64 0,.int .i64 0,.int .i64 0,.int .i64 0,.int .i64 0,.int .i64 0]] w λe w'=>∃v' m,e=.returned v'∧(1≤m∧m≤71)∧Aj w' w.heap.size v' m∧Below w.heap.size w w':=by
 have KN:=qh (λv len W (h:BZ W v len) (hl:len≤1000000)=>Ej v len 0 W h hl (by omega));go_in;go_wp2_with fail;go_loopw [8,3] (λvi vb wr=>∃i len:Nat,vi=.int .i64 (i:Int)∧i≤7∧i+1≤len∧len≤1+10*i∧Aj wr w.heap.size vb len∧Below w.heap.size w wr) (λvi _ _=>7 - (intOf vi).toNat);case atStart=>
  have h1:(w.alloc (.cells #[.int .i64 0,.int .i64 0,.int .i64 0,.int .i64 0,.int .i64 0,.int .i64 0,.int .i64 0] 41)).heap.size=w.heap.size+1:=by simp
  have h2:=World.ownsRow_lit (e:=5) (size:=1) (base:=0) (w.alloc (.cells #[.int .i64 0,.int .i64 0,.int .i64 0,.int .i64 0,.int .i64 0,.int .i64 0,.int .i64 0] 41)) #[.int .u8 1] 1 (Nat.zero_le _) (by unfold maxLen;omega) rfl;rw[h1] at h2;have h3:AO _ (.slice (Option.some ⟨w.heap.size+1,0,none⟩) 1 1) (Option.some (w.heap.size+1)) 5 1 1 (Aa [1]):=⟨h2,rfl⟩;exact⟨0,1,rfl,by omega,by omega,by omega,Aj.mono (AO.ag h3 (by intro x hx;simp at hx;omega) (Nat.le_refl _) (by omega)) (by omega),by go_grown⟩
 case round=>
  obtain⟨i,len,rfl,hi,hl1,hl2,ho,hb⟩:=hrel;have HO:=qh ho;have HB:=qh hb;clear ho hb;by_cases h7:i=7
  ·subst h7;go_wp2_with fail;go_ret;exact⟨_,len,rfl,by omega,HO.o,HB.o⟩
  ·have hi7:(i:Int)<7:=by omega
   have hix:=kF i (by omega);go_wp2_with fail;refine(KN.o _ _ _ HO.EI (by omega)).mono ?_;rintro e w1 ⟨v',m',rfl,h1,h2,ho,hb⟩;have hs:=HB.size;have HO2:=qh (Aj.mono (B':=w.heap.size) ho hs);have HB2:=qh (HB.trans (hb.mono hs));clear ho hb hix;go_wp2_with fail;go_roundw;case rel=>exact⟨i+1,m',by simp,by omega,by omega,by omega,HO2.o,HB2.o⟩
   case measure=>simp[intOf];omega
def Jv(mm:Nat)(out:Value):Prop:=mm=0→out=.slice none 0 0
theorem Aj.iI{w w':World}{F:Af}{B n:Nat}{v:Value}(h:Aj w B v n)(hm:Mv F w w')(hF:∀k L,F k→¬Holds w k 5 L):Aj w' B v n:=by obtain⟨bs,h1,h2,h3,h4⟩:=h;exact⟨bs,h1,h2,h3,h4.imp id λ⟨b,cap,cur,e1,e2,hh,r⟩=>⟨b,cap,cur,e1,e2,(hm.block b (Array.getElem?_eq_some_iff.1 hh).1 (λhf=>hF b cur.toList hf hh)).trans hh,r⟩⟩
theorem aQ(g n me gd mb gw gc gl gi gfr gr cr m B mm:Nat)(F:Af)(leads cout:Value)(obc:Option Nat)(xs:List Value)(rv:Value)(rest:List Value)(P:Value)(o:Nat→Ow)(pv:Nat→Value)(d kp:Nat→Int)(since tk:Int)(waits ans:Value)(w:World) (nd:Holds w g 102 (A7 n me gd gw gc gfr P o pv d kp since tk waits (.slice none 0 0) ans)) (dk:D5 w F gd gw mb) (hc:Holds w gc 163 (Az n me gl gi leads (.slice (some ⟨gr,0,none⟩) 1 cr) cout)) (hr:Holds w gr 127 (rv :: rest)) (hrv:Aj w B rv m) (hm:1≤m∧m≤480) (hco:AO w cout obc 47 51 mm xs) (h1:∀u∈xs,u.oneCell'=true) (hmb:mb≤28000) (hmm:mm≤100) (hc0:mm=0→cout=.slice none 0 0) :Calls prog 90 #[.pointer (some ⟨g,0,none⟩)] w λe w'=>e=.returned (.bool true)∧∃out ob,Holds w' g 102 (A7 n me gd gw gc gfr P o pv d kp since tk waits out ans)∧D5 w' (grow F w w') gd gw (mb+(m+7)) ∧Holds w' gc 163 (Az n me gl gi leads (.slice none 0 0) (.slice none 0 0))∧AO w' out ob 47 51 mm xs∧(∀k,ob=some k→w.heap.size≤k)∧Jv mm out∧Mv (λk=>k=g∨k=gc∨k=gr∨IB w F D7 k) w w':=by
 have e2:gc≠g:=hc.ne_of nd (by decide);have e3:gr≠g∧gr≠gc:=⟨hr.ne_of nd (by decide),hr.ne_of hc (by decide)⟩;have e5:∀k,obc=some k→k≠g∧k≠gc∧k≠gr:=by
  intro k hk;rcases hco.cases with⟨_,h0,_⟩|⟨g1,_,_,_,h0,_,_,hh,_⟩
  ·rw[h0] at hk;cases hk
  ·rw[h0] at hk;cases hk;exact⟨hh.ne_of nd (by decide),hh.ne_of hc (by decide),hh.ne_of hr (by decide)⟩
 have KD:=qh (λW (h:Holds W gc 163 (Az n me gl gi leads (.slice (some ⟨gr,0,none⟩) 1 cr) cout))=>QE gc n me gl gi leads _ _ W h);have KC:=qh (λW (h:BZ W rv m)=>Zg rv m W h hm.1 (by omega));have KA:=qh (λr W h hg hr=>jq gw gd gr cr (1+m) mb F r rest W h hmb hg hr (by omega) (by omega));have HR:=qh hr;have HBL:=qh hrv;have hgcT:∀L,¬Holds w gc 5 L:=λL hL=>hc.ne_of hL (by decide) rfl;have hlr:=hr.lt;have HN:=qh nd;have HD:=qh dk;have HC0:=qh hc;have HO:=qh hco;have hlt:g<w.heap.size∧gc<w.heap.size:=⟨nd.lt,hc.lt⟩;have hol:=hco.lt;have hmi:(mm:Int)≤100:=by omega
 have hAc:∀k,k=gc→k<w.heap.size→Dx w F GX k:=λk hk _=>hk▸.inl (.inr ⟨_,_,hc,by decide⟩);have hFb:∀W',Mv (λk=>k=g∨k=gc∨k=gr) w W'→Holds W' g 102 (A7 n me gd gw gc gfr P o pv d kp since tk waits (.slice none 0 0) ans)→Holds W' gc 163 (Az n me gl gi leads (.slice none 0 0) (.slice none 0 0))→(∃rv',Holds W' gr 127 (rv' :: rest))→∀k,IB W' F D7 k→IB w F D7 k∨w.heap.size≤k:=λW' hm hn hc' hr'=>IB.back hm (λk hk=>by
  rcases hk with rfl|rfl|rfl
  ·exact IB.not hn (by decide)
  ·exact IB.not hc' (by decide)
  ·exact IB.not hr'.choose_spec (by decide))
 clear nd dk hc hco hr hrv;have HM:=qh (Mv.refl (λk=>k=g∨k=gc∨k=gr) w);go_in;have n4:=Ag HN.o 4;go_wp2_with fail;refine(KD.o _ HC0.o).mono ?_;clear HC0 KD;rintro e w1 ⟨rfl,hc1,ht1⟩;have hm1:Mv (λk=>k=gc) w w1:=Mv.AU ht1 rfl;have HC:=qh hc1;have HN:=qh (HN.mv hm1 (Ne.symm e2));have HD:=qh (HD.away hm1 hAc (λ_ h=>h));have HO:=qh (HO.mv hm1 (λk hk=>(e5 k hk).2.1));have HM:=qh (HM.mv hm1 (λk hk=>.inl (.inr (.inl hk))));have HR:=qh (HR.mv hm1 e3.2);have HBL:=qh (HBL.iI hm1 (λk L hk=>by rw[hk];exact hgcT L));clear hc1 ht1 hm1 n4 hAc;go_wp2_with fail;go_loopw [17] (λvi wr=>(vi=.int .i64 0∧wr=w1)∨(vi=.int .i64 1∧∃rv',Holds wr gr 127 (rv' :: rest)∧BZ wr rv' (1+m)∧Mv (λk=>k=gr) w1 wr)) (λvi _=>1 - (intOf vi).toNat);case atStart=>exact .inl ⟨rfl,rfl⟩
 case round=>
  rcases hrel with⟨rfl,rfl⟩|⟨rfl,rv',hr,hb,hm⟩
  ·have r0:=HR.cell 0;simp only[yA,yB] at r0;go_wp2_with fail;refine(KC.o _ HBL.EI).mono ?_;rintro e w2 ⟨v',rfl,ho,hb⟩;have hgr1:=HR.lt;have HR:=ET hb HR;have HV:=qh ho;have HM2:=qh (Mv.of_below (F:=λk=>k=gr) hb);obtain⟨pv,cv,rfl⟩:=ho.shape;have hgr2:=HR.lt;clear ho hb r0;go_wp2_with (first|(refine sC 0 HR.o (.slice pv (1+m:Nat) cv) ?_;intro w3 hh3 ht3;have HR3:=qh (show Holds w3 gr 127 (.slice pv (1+m:Nat) cv :: rest) from hh3);have HV3:=qh (HV.touch ht3 hgr1).EI;have HM3:=qh (HM2.touch ht3 (.inl rfl))));go_roundw;case rel=>exact .inr ⟨rfl,_,HR3.o,HV3.o,HM3.o⟩
   case measure=>simp[intOf]
  ·have hAr:∀k,k=gr→k<w1.heap.size→Dx w1 F GX k:=λk hk _=>hk▸.inl (.inr ⟨_,_,HR.o,by decide⟩);have HN:=qh (HN.mv hm (Ne.symm e3.1));have HD:=qh (HD.away hm hAr (λ_ h=>h));have HC:=qh (HC.mv hm (Ne.symm e3.2));have HO:=qh (HO.mv hm (λk hk=>(e5 k hk).2.2));have HM:=qh (HM.mv hm (λk hk=>.inl (.inr (.inr hk))));have HR:=qh hr;have HB:=qh hb;clear hr hb hm hAr;have n3:=Ag HN.o 3;go_wp2_with fail;refine Ac (KA.o _ _ HD.o HR.o HB.o) ?_;rintro w5 ⟨hd5,hm5⟩;have hFb2:=hFb _ HM.o HN.o HC.o ⟨_,HR.o⟩;have hs5:=HM.size;have hmn:mb+(1+m+6)=mb+(m+7):=by omega
   rw[hmn] at hd5;have HD:=qh (hd5.next hs5);have HM:=qh ((HM.more (G:=λk=>k=g∨k=gc∨k=gr∨IB w F D7 k) (λk hk=>by rcases hk with h|h|h;exact .inl h;exact .inr (.inl h);exact .inr (.inr (.inl h)))).mv hm5 (λk hk=>(hFb2 k hk).imp (λh=>.inr (.inr (.inr h))) id));have HO:=qh (HO.mv hm5 (IB.Io HO.o (by decide)));have HN:=qh (HN.mv hm5 (IB.not HN.o (by decide)));have HC:=qh (HC.mv hm5 (IB.not HC.o (by decide)));have hs5':=HM.size;clear hd5 hm5 n3 HR HB hFb2;have n72:=Ag HN.o 72;rcases Nat.eq_zero_or_pos mm with h0|h0
   ·subst h0;have hO:=HO.o;obtain⟨rfl,rfl,hx0⟩:cout=.slice none 0 0∧obc=none∧xs=[]:=by have hr:=hc0 rfl;refine⟨hr,by rw[←hO.ob,hr];rfl,List.eq_nil_of_length_eq_zero (by have:=hO.len;omega)⟩
    subst hx0;clear hO;go_wp2_with (first|(at_builtin;refine EF rfl (.tmp 41) (.tmp 42) 34 rfl 47 (.agg Dp.toArray) 51 480 rfl (by kernel_rfl) _ none 0 [] rfl (AO.nil _ _ _) rfl ?_)|(refine sC 72 HN.o (.slice none 0 0) ?_;intro w7 hh7 ht7));have hm7:Mv (λk=>k=g) w5 w7:=Mv.AU ht7 rfl;have hA7:∀k,k=g→k<w5.heap.size→Dx w5 (grow F w w5) GX k:=λk hk _=>hk▸.inl (.inr ⟨_,_,HN.o,by decide⟩);go_ret;exact⟨rfl,.slice none 0 0,none,hh7,(HD.away hm7 hA7 (λ_ h=>h)).foot (λk hk _=>hk.imp id λ⟨a,b⟩=>⟨a,Nat.lt_of_lt_of_le b hm7.size⟩),HC.mv hm7 e2,AO.nil _ _ _,by simp,λ_=>rfl,HM.mv hm7 (λk hk=>.inl (.inl hk))⟩
   ·obtain⟨go,co,ro,rfl,rfl,hco1,hco2,hgo,hgl⟩:=HO.blk h0;go_wp2_with (first|(at_builtin;refine aS (.agg Dp.toArray) 51 480 (AO.nil _ _ _) xs HO.reads ?_ h1 (hl:=HO.len) (hm0:=h0);intro v6 ob6 w6 ho6 hob6 hm6;have HO6:=qh ho6;have HN6:=qh (HN.bel (hm6.below (Nat.le_refl _) (by simp)));have HM6:=qh hm6;have hob6':=hob6;clear ho6 hm6)|(refine sC 72 HN6.o v6 ?_ (hu:=HO6.c1) (h1:=HO6.c2);intro w7 hh7 ht7));have hm7:Mv (λk=>k=g) w6 w7:=Mv.AU ht7 rfl;have hm6:Mv (λ_=>False) w5 w6:=HM6.more (λk hk=>by cases hk);have hs6:=hm6.size;have hA7:∀k,k=g→k<w6.heap.size→Dx w6 (grow F w w5) GX k:=λk hk _=>hk▸.inl (.inr ⟨_,_,HN6.o,by decide⟩);have hnew:∀k,ob6=some k→w5.heap.size≤k:=by
     intro k hk;rcases hob6' with h|⟨k2,h,h2⟩
     ·rw[h] at hk;cases hk
     ·rw[h] at hk;cases hk;exact h2
    go_ret;rw[Nat.zero_add,List.nil_append] at HO6;exact⟨rfl,v6,ob6,hh7,((HD.away hm6 (λk hk=>hk.elim) (λ_ h=>h)).away hm7 hA7 (λ_ h=>h)).foot (λk hk _=>hk.imp id λ⟨a,b⟩=>⟨a,Nat.lt_of_lt_of_le (Nat.lt_of_lt_of_le b hs6) hm7.size⟩),(HC.mv hm6 id).mv hm7 e2,HO6.mv hm7 (λk hk h=>by have:=hnew k hk;have:=HN.lt;omega),λk hk=>Nat.le_trans hs5' (hnew k hk),λh=>(by omega),(HM.mv hm6 (λk hk=>hk.elim)).mv hm7 (λk hk=>.inl (.inl hk))⟩
theorem aP(g n me gd mb gw gc gl gi gfr mm:Nat)(F:Af)(leads cout:Value)(obc:Option Nat)(xs:List Value)(P:Value)(o:Nat→Ow)(pv:Nat→Value)(d kp:Nat→Int)(since tk:Int)(waits ans:Value)(w:World) (nd:Holds w g 102 (A7 n me gd gw gc gfr P o pv d kp since tk waits (.slice none 0 0) ans)) (dk:D5 w F gd gw mb) (hc:Holds w gc 163 (Az n me gl gi leads (.slice none 0 0) cout)) (hco:AO w cout obc 47 51 mm xs) (h1:∀u∈xs,u.oneCell'=true) (hmb:mb≤28000) (hmm:mm≤100) (hc0:mm=0→cout=.slice none 0 0) :Calls prog 90 #[.pointer (some ⟨g,0,none⟩)] w λe w'=>e=.returned (.bool true)∧∃out ob,Holds w' g 102 (A7 n me gd gw gc gfr P o pv d kp since tk waits out ans)∧D5 w' (grow F w w') gd gw mb ∧Holds w' gc 163 (Az n me gl gi leads (.slice none 0 0) (.slice none 0 0))∧AO w' out ob 47 51 mm xs∧(∀k,ob=some k→w.heap.size≤k)∧Jv mm out∧Mv (λk=>k=g∨k=gc∨IB w F D7 k) w w':=by
 have e2:gc≠g:=hc.ne_of nd (by decide);have e5:∀k,obc=some k→k≠g∧k≠gc:=by
  intro k hk;rcases hco.cases with⟨_,h0,_⟩|⟨g1,_,_,_,h0,_,_,hh,_⟩
  ·rw[h0] at hk;cases hk
  ·rw[h0] at hk;cases hk;exact⟨hh.ne_of nd (by decide),hh.ne_of hc (by decide)⟩
 have KD:=qh (λW (h:Holds W gc 163 (Az n me gl gi leads (.slice none 0 0) cout))=>QE gc n me gl gi leads _ _ W h);have KA:=qh (λW h=>iK gw gd mb F W h);have HN:=qh nd;have HD:=qh dk;have HC0:=qh hc;have HO:=qh hco;have hlt:g<w.heap.size∧gc<w.heap.size:=⟨nd.lt,hc.lt⟩;have hol:=hco.lt;have hmi:(mm:Int)≤100:=by omega
 have hAc:∀k,k=gc→k<w.heap.size→Dx w F GX k:=λk hk _=>hk▸.inl (.inr ⟨_,_,hc,by decide⟩);have hFb:∀W',Mv (λk=>k=g∨k=gc) w W'→Holds W' g 102 (A7 n me gd gw gc gfr P o pv d kp since tk waits (.slice none 0 0) ans)→Holds W' gc 163 (Az n me gl gi leads (.slice none 0 0) (.slice none 0 0))→∀k,IB W' F D7 k→IB w F D7 k∨w.heap.size≤k:=λW' hm hn hc'=>IB.back hm (λk hk=>by
  rcases hk with rfl|rfl
  ·exact IB.not hn (by decide)
  ·exact IB.not hc' (by decide))
 clear nd dk hc hco;have HM:=qh (Mv.refl (λk=>k=g∨k=gc) w);go_in;have n4:=Ag HN.o 4;go_wp2_with fail;refine(KD.o _ HC0.o).mono ?_;clear HC0 KD;rintro e w1 ⟨rfl,hc1,ht1⟩;have hm1:Mv (λk=>k=gc) w w1:=Mv.AU ht1 rfl;have HC:=qh hc1;have HN:=qh (HN.mv hm1 (Ne.symm e2));have HD:=qh (HD.away hm1 hAc (λ_ h=>h));have HO:=qh (HO.mv hm1 (λk hk=>(e5 k hk).2));have HM:=qh (HM.mv hm1 (λk hk=>.inl (.inr hk)));clear hc1 ht1 hm1 n4 hAc;go_wp2_with fail;go_loopw [17] (λvi wr=>vi=.int .i64 0∧w1=wr) (λvi _=>0);case atStart=>exact⟨rfl,rfl⟩
 case round=>
  obtain⟨rfl,rfl⟩:=hrel;have n3:=Ag HN.o 3;go_wp2_with fail;refine Ac (KA.o _ HD.o) ?_;rintro w5 hb5;obtain⟨HN,HC,HM,HO,HD⟩:=Fq hb5 HN HC HM HO HD;have hs5':=HM.size;have HD:=qh (HD.foot (F':=grow F w w5) λk hk _=>.inl hk);have HM:=qh (HM.more (G:=λk=>k=g∨k=gc∨IB w F D7 k) (λk hk=>hk.imp id .inl));clear hb5 n3;have n72:=Ag HN.o 72;rcases Nat.eq_zero_or_pos mm with h0|h0
  ·subst h0;have hO:=HO.o;obtain⟨rfl,rfl,hx0⟩:cout=.slice none 0 0∧obc=none∧xs=[]:=by have hr:=hc0 rfl;refine⟨hr,by rw[←hO.ob,hr];rfl,List.eq_nil_of_length_eq_zero (by have:=hO.len;omega)⟩
   subst hx0;clear hO;go_wp2_with (first|(at_builtin;refine EF rfl (.tmp 41) (.tmp 42) 34 rfl 47 (.agg Dp.toArray) 51 480 rfl (by kernel_rfl) _ none 0 [] rfl (AO.nil _ _ _) rfl ?_)|(refine sC 72 HN.o (.slice none 0 0) ?_;intro w7 hh7 ht7));have hm7:Mv (λk=>k=g) w5 w7:=Mv.AU ht7 rfl;have hA7:∀k,k=g→k<w5.heap.size→Dx w5 (grow F w w5) GX k:=λk hk _=>hk▸.inl (.inr ⟨_,_,HN.o,by decide⟩);go_ret;exact⟨rfl,.slice none 0 0,none,hh7,(HD.away hm7 hA7 (λ_ h=>h)).foot (λk hk _=>hk.imp id λ⟨a,b⟩=>⟨a,Nat.lt_of_lt_of_le b hm7.size⟩),HC.mv hm7 e2,AO.nil _ _ _,by simp,λ_=>rfl,HM.mv hm7 (λk hk=>.inl (.inl hk))⟩
  ·obtain⟨go,co,ro,rfl,rfl,hco1,hco2,hgo,hgl⟩:=HO.blk h0;go_wp2_with (first|(at_builtin;refine aS (.agg Dp.toArray) 51 480 (AO.nil _ _ _) xs HO.reads ?_ h1 (hl:=HO.len) (hm0:=h0);intro v6 ob6 w6 ho6 hob6 hm6;have HO6:=qh ho6;have HN6:=qh (HN.bel (hm6.below (Nat.le_refl _) (by simp)));have HM6:=qh hm6;have hob6':=hob6;clear ho6 hm6)|(refine sC 72 HN6.o v6 ?_ (hu:=HO6.c1) (h1:=HO6.c2);intro w7 hh7 ht7));have hm7:Mv (λk=>k=g) w6 w7:=Mv.AU ht7 rfl;have hm6:Mv (λ_=>False) w5 w6:=HM6.more (λk hk=>by cases hk);have hs6:=hm6.size;have hA7:∀k,k=g→k<w6.heap.size→Dx w6 (grow F w w5) GX k:=λk hk _=>hk▸.inl (.inr ⟨_,_,HN6.o,by decide⟩);have hnew:∀k,ob6=some k→w5.heap.size≤k:=by
    intro k hk;rcases hob6' with h|⟨k2,h,h2⟩
    ·rw[h] at hk;cases hk
    ·rw[h] at hk;cases hk;exact h2
   go_ret;rw[Nat.zero_add,List.nil_append] at HO6;exact⟨rfl,v6,ob6,hh7,((HD.away hm6 (λk hk=>hk.elim) (λ_ h=>h)).away hm7 hA7 (λ_ h=>h)).foot (λk hk _=>hk.imp id λ⟨a,b⟩=>⟨a,Nat.lt_of_lt_of_le (Nat.lt_of_lt_of_le b hs6) hm7.size⟩),(HC.mv hm6 id).mv hm7 e2,HO6.mv hm7 (λk hk h=>by have:=hnew k hk;have:=HN.lt;omega),λk hk=>Nat.le_trans hs5' (hnew k hk),λh=>(by omega),(HM.mv hm6 (λk hk=>hk.elim)).mv hm7 (λk hk=>.inl (.inl hk))⟩
def jw:List Value:=[.int .i64 0,.int .i64 0,.int .i64 0,.int .i64 0,.int .i64 0,.string ⟨#[]⟩,.string ⟨#[]⟩,.string ⟨#[]⟩,.string ⟨#[]⟩,.int .i64 0,.bool false,.string ⟨#[]⟩,.int .i64 0,.slice none 0 0]
def Tv(T:TypeId)(s n:Nat)(L:List Value)(w:World)(e:Ending)(w':World):Prop:=∃P' ob',e=.returned P'∧AO w' P' ob' T s n L∧(∀k,ob'=some k→w.heap.size≤k)∧Jv n P'∧Below w.heap.size w w'
theorem YA(P:Value)(ob:Option Nat)(n:Nat)(L:List Value)(h1:∀u∈L,u.oneCell'=true)(hn:n≤1000)(w:World)(h:AO w P ob 47 51 n L)(h0:Jv n P) :Calls prog 34 #[P] w (Tv 47 51 n L w):=by
 rcases Nat.eq_zero_or_pos n with hz|hp
 ·subst hz;obtain rfl:=h0 rfl;have hL:L=[]:=List.eq_nil_of_length_eq_zero (by have:=h.len;omega);subst hL;have he:∀W:World,(binOp .eql 34 (.slice none 0 0) (.slice none 0 0)).run prog W=.ok (.bool true) W:=λ_=>by kernel_rfl
  clear h h1 h0;go_in;go_wp2_with fail;go_ret;exact⟨_,none,rfl,AO.nil _ _ _,by simp,λ_=>rfl,Below.refl _ _⟩
 have hlen:=h.len;obtain⟨g,c,rest,rfl,rfl,hc1,hcm,hh,hl⟩:=h.blk hp;have HR:=qh (hh.reads 0 L (λj v hv=>by rw[Nat.zero_add,List.getElem?_append_left (List.getElem?_eq_some_iff.1 hv).1];exact hv));have HO1:=qh (show AO (w.alloc (.cells #[] 47)) (.slice (some ⟨w.heap.size,0,none⟩) 0 0) (some w.heap.size) 47 51 0 [] from⟨World.ownsRow_lit (size:=51) w #[] 0 (Nat.zero_le _) (by unfold maxLen;omega) (by simp),rfl⟩);have ha:Below w.heap.size w (w.alloc (.cells #[] 47)):=by go_grown
 have HA:=qh ha;have hsz:=ha.size;have he:∀W:World,(binOp .eql 34 (.slice (some ⟨g,0,none⟩) n c) (.slice none 0 0)).run prog W=.ok (.bool false) W:=λ_=>by kernel_rfl
 have H1:=qh h1;clear h hh ha h1 h0;go_in;go_wp2_with (first|(at_builtin;refine aS (.agg Dp.toArray) 51 480 HO1.o L (HR.below HA.o) ?_ H1.o (hl:=hlen) (hm0:=hp);intro v2 ob2 w2 ho2 hob2 hm2));rw[List.nil_append,Nat.zero_add] at ho2;have HB:=qh (HA.trans (hm2.below hsz (λk hk=>by cases hk;exact Nat.le_refl _)));have hg:∃g,ob2=some g∧w.heap.size≤g:=by
  rcases hob2 with hc|⟨k,hk,hk2⟩
  ·exact⟨_,hc,Nat.le_refl _⟩
  ·exact⟨k,hk,by omega⟩
 obtain⟨g',rfl,hg'⟩:=hg;obtain⟨g2,c2,r2,rfl,_,_,_,_,_⟩:=ho2.blk hp;have H2:=qh ho2;clear ho2 hm2 hob2;go_ret;exact⟨_,_,rfl,H2.o,λk hk=>(by cases hk;exact hg'),λh=>(by omega),HB.o⟩
theorem Zh(P:Value)(ob:Option Nat)(n:Nat)(L:List Value)(h1:∀u∈L,u.oneCell'=true)(hn:n≤1000)(w:World)(h:AO w P ob 55 14 n L)(h0:Jv n P) :Calls prog 35 #[P] w (Tv 55 14 n L w):=by
 rcases Nat.eq_zero_or_pos n with hz|hp
 ·subst hz;obtain rfl:=h0 rfl;have hL:L=[]:=List.eq_nil_of_length_eq_zero (by have:=h.len;omega);subst hL;have he:∀W:World,(binOp .eql 48 (.slice none 0 0) (.slice none 0 0)).run prog W=.ok (.bool true) W:=λ_=>by kernel_rfl
  clear h h1 h0;go_in;go_wp2_with fail;go_ret;exact⟨_,none,rfl,AO.nil _ _ _,by simp,λ_=>rfl,Below.refl _ _⟩
 have hlen:=h.len;obtain⟨g,c,rest,rfl,rfl,hc1,hcm,hh,hl⟩:=h.blk hp;have HR:=qh (hh.reads 0 L (λj v hv=>by rw[Nat.zero_add,List.getElem?_append_left (List.getElem?_eq_some_iff.1 hv).1];exact hv));have HO1:=qh (show AO (w.alloc (.cells #[] 55)) (.slice (some ⟨w.heap.size,0,none⟩) 0 0) (some w.heap.size) 55 14 0 [] from⟨World.ownsRow_lit (size:=14) w #[] 0 (Nat.zero_le _) (by unfold maxLen;omega) (by simp),rfl⟩);have ha:Below w.heap.size w (w.alloc (.cells #[] 55)):=by go_grown
 have HA:=qh ha;have hsz:=ha.size;have he:∀W:World,(binOp .eql 48 (.slice (some ⟨g,0,none⟩) n c) (.slice none 0 0)).run prog W=.ok (.bool false) W:=λ_=>by kernel_rfl
 have H1:=qh h1;clear h hh ha h1 h0;go_in;go_wp2_with (first|(at_builtin;refine aS (.agg jw.toArray) 14 168 HO1.o L (HR.below HA.o) ?_ H1.o (hl:=hlen) (hm0:=hp);intro v2 ob2 w2 ho2 hob2 hm2));rw[List.nil_append,Nat.zero_add] at ho2;have HB:=qh (HA.trans (hm2.below hsz (λk hk=>by cases hk;exact Nat.le_refl _)));have hg:∃g,ob2=some g∧w.heap.size≤g:=by
  rcases hob2 with hc|⟨k,hk,hk2⟩
  ·exact⟨_,hc,Nat.le_refl _⟩
  ·exact⟨k,hk,by omega⟩
 obtain⟨g',rfl,hg'⟩:=hg;obtain⟨g2,c2,r2,rfl,_,_,_,_,_⟩:=ho2.blk hp;have H2:=qh ho2;clear ho2 hm2 hob2;go_ret;exact⟨_,_,rfl,H2.o,λk hk=>(by cases hk;exact hg'),λh=>(by omega),HB.o⟩
theorem X9(g c:Nat)(u:Value)(rest:List Value)(h1:∀x∈[u],x.oneCell'=true)(w:World)(hh:Holds w g 158 ([u]++rest)) :Calls prog 77 #[.slice (some ⟨g,0,none⟩) 1 c] w (Tv 158 1 1 [u] w):=by
 have hp:0<1:=Nat.zero_lt_one;have HR:=qh (hh.reads 0 [u] (λj v hv=>by rw[Nat.zero_add,List.getElem?_append_left (List.getElem?_eq_some_iff.1 hv).1];exact hv));have HO1:=qh (show AO (w.alloc (.cells #[] 158)) (.slice (some ⟨w.heap.size,0,none⟩) 0 0) (some w.heap.size) 158 1 0 [] from⟨World.ownsRow_lit (size:=1) w #[] 0 (Nat.zero_le _) (by unfold maxLen;omega) (by simp),rfl⟩);have ha:Below w.heap.size w (w.alloc (.cells #[] 158)):=by go_grown
 have HA:=qh ha;have hsz:=ha.size;have he:∀W:World,(binOp .eql 156 (.slice (some ⟨g,0,none⟩) 1 c) (.slice none 0 0)).run prog W=.ok (.bool false) W:=λ_=>by kernel_rfl
 have H1:=qh h1;clear hh ha h1;go_in;go_wp2_with (first|(at_builtin;refine aS (.pointer none) 1 8 HO1.o [u] (HR.below HA.o) ?_ H1.o (hm0:=hp);intro v2 ob2 w2 ho2 hob2 hm2));rw[List.nil_append,Nat.zero_add] at ho2;have HB:=qh (HA.trans (hm2.below hsz (λk hk=>by cases hk;exact Nat.le_refl _)));have hg:∃g,ob2=some g∧w.heap.size≤g:=by
  rcases hob2 with hc|⟨k,hk,hk2⟩
  ·exact⟨_,hc,Nat.le_refl _⟩
  ·exact⟨k,hk,by omega⟩
 obtain⟨g',rfl,hg'⟩:=hg;obtain⟨g2,c2,r2,rfl,_,_,_,_,_⟩:=ho2.blk hp;have H2:=qh ho2;clear ho2 hm2 hob2;go_ret;exact⟨_,_,rfl,H2.o,λk hk=>(by cases hk;exact hg'),λh=>(by omega),HB.o⟩
end Go.Proofs.YtimdpiifpibgfaaGreatDoor
