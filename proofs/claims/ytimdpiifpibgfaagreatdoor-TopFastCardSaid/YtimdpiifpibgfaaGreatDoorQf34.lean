/- For every input the law TopFast returns true (a part of the proof). Condition: the listed variables start as the program's text lays them. -/
import Derived.Test.YtimdpiifpibgfaaGreatDoorQf33
set_option linter.unusedVariables false
set_option linter.unusedSimpArgs false
set_option maxRecDepth 20000
set_option maxHeartbeats 16000000
namespace Go.Proofs.YtimdpiifpibgfaaGreatDoor
section
open Go.RowKit Go.Maps
def CoreFt (w:World) (F:Foot):Foot:=fun k=>F k∧((∃ t L,Holds w k t L∧t∈coreTs)∨IsMapB w k)
theorem CoreFt.of {w:World} {F:Foot} {k:Nat} {t:TypeId} {L:List Value} (hf:F k) (h:Holds w k t L) (ht:t∈coreTs):CoreFt w F k:=⟨hf,.inl ⟨t,L,h,ht⟩⟩
theorem CoreFt.map {w:World} {F:Foot} {k:Nat} (hf:F k) (h:IsMapB w k):CoreFt w F k:=⟨hf,.inr h⟩
theorem rightI_q (q:Nat) (hq:q<7):rightI q 1=true:=by
 simp [rightI]
 omega
theorem lput_same (q s:Int) (A B:List Value):lputE [⟨q,s,A⟩] ⟨q,s,B⟩=[⟨q,s,B⟩]:=by simp [lputE]
section
variable {w:World} {F:Foot} {gc n me q f:Nat} {c:Cm}
theorem core_pre (h:CoreSt w F gc n me q c .fresh (.slice none 0 0) (.slice none 0 0)) (hf:f<n) (hme:me<n) (hne:f≠me) (hn:n≤7) (hq:q<n) (hc:CmOk c) :
  Calls Tryz.prog 75 #[.pointer (some ⟨gc,0,none⟩),.agg (letL 1 f me q c).toArray] w fun e w'=>e=.returned (.bool false) ∧
   ∃ recs cout,CoreSt w' (grow F w w') gc n me q c .pre recs cout∧RecS w' w.heap.size 1 recs∧LetS w' (grow F w w') cout 1 (fun _=>letL 2 me f q Cm.zero)∧Mv (CoreFt w F) w w':=by
 obtain⟨⟨gl,gm,nl,gi,gx,ni,L,E,leads,a1,a2,a3,⟨b1,b2,b3,b4⟩,rfl,rfl,rfl⟩,hfc⟩:=h
 have n0:nl=0:=Nat.le_zero.1 a2
 have n1:ni=0:=Nat.le_zero.1 a3
 subst n0 n1
 refine (ctake1 gc n me gl gi f q c _ _ _ (fun W w'=>PreDone gc n me gl gm 0 gi gx 0 f q c W w') w a1.hc hf hq (right1 f me q c hc.right (by omega) (by omega) (by omega) hne) (fun W hb=>gone_any gl gm 0 [] q 1 W (a1.lg.bel hb) (rightI_q q (by omega))) (fun W hb=>asked_new gc n me gl gm 0 gi gx 0 f me q c W (a1.bel hb) (by omega) (by omega) (by omega) hc)).mono ?_
 rintro e w' ⟨rfl,w1,hb,gr,cr,m,rv,out,rest,ob,c1,c2,c3,c4,c5,c6,c7,c8⟩
 have hs:=hb.size
 have hs2:=c8.size
 refine⟨rfl,_,out,⟨⟨gl,gm,1,gi,gx,1,_,_,_,c1,by simp [bnd],by simp [bnd],⟨.inl b1,.inl b2,.inl b3,.inl b4⟩,rfl,rfl⟩,.inl hfc⟩,.inr ⟨rfl,gr,cr,m,rv,rest,rfl,c2,Own8.mono c3 hs,c4,by omega⟩,⟨fun h=>(by cases h),ob,by rw [flat_of_one (s:=51) (V:=fun _=>letL 2 me f q Cm.zero) rfl];exact c6,fun g hg=>.inr ⟨by have:=c7 g hg;omega,c6.lt g hg⟩⟩,(Mv.of_below hb).mv c8 ?_⟩
 rintro k (rfl|rfl|rfl)
 ·exact .inl (.of hfc a1.hc (by decide))
 ·exact .inl (.map b2 a1.lg.isMap)
 ·exact .inl (.map b4 a1.ix.isMap)
theorem core_told (h:CoreSt w F gc n me q c .pre (.slice none 0 0) (.slice none 0 0)) (hf:f<n) (hme:me<n) (hne:f≠me) (hn:n≤7) (hq:q<n) (hc:CmOk c) :
  Calls Tryz.prog 75 #[.pointer (some ⟨gc,0,none⟩),.agg (letL 5 f me q c).toArray] w fun e w'=>e=.returned (.bool false) ∧
   ∃ recs cout,CoreSt w' (grow F w w') gc n me q c .com recs cout∧RecS w' w.heap.size 1 recs∧LetS w' (grow F w w') cout 0 (fun _=>[])∧Mv (CoreFt w F) w w':=by
 obtain⟨⟨gl,gm,nl,gi,gx,ni,L,E,leads,a1,a2,a3,⟨b1,b2,b3,b4⟩,rfl,rfl⟩,hfc⟩:=h
 have n0:nl≤1:=a2
 have n1:ni≤1:=a3
 refine (ctake5 gc n me gl gi f q c _ _ _ (fun W w'=>SetDone gc n me gl gm nl gi gx ni [⟨q,1,cellL 1 c true⟩] E (.slice none 0 0) (.slice none 0 0) q 3 c false W w') w a1.hc hf hq (right5 f me q c hc.right (by omega) (by omega) (by omega) hne) (fun W hb=>gone_any gl gm nl _ q 1 W (a1.lg.bel hb) (rightI_q q (by omega))) (fun W hb=>told_one gc n me gl gm nl gi gx ni f me q c E W (a1.bel hb) (by omega) (by omega) (by omega) hc)).mono ?_
 rintro e w' ⟨rfl,w1,hb,gr,cr,m,rv,rest,c1,c2,c3,c4,c5,c8⟩
 have hs:=hb.size
 have hs2:=c8.size
 rw [lput_same] at c1
 refine⟨rfl,_,.slice none 0 0,⟨⟨gl,gm,nl+1,gi,gx,ni+1,_,_,_,c1,by simp [bnd];omega,by simp [bnd];omega,⟨.inl b1,.inl b2,.inl b3,.inl b4⟩,rfl,_,_,rfl⟩,.inl hfc⟩,.inr ⟨rfl,gr,cr,m,rv,rest,rfl,c2,Own8.mono c3 hs,c4,by omega⟩,⟨fun _=>rfl,none,OwnS.nil _ _ _,by simp⟩,(Mv.of_below hb).mv c8 ?_⟩
 rintro k (rfl|rfl|rfl)
 ·exact .inl (.of hfc a1.hc (by decide))
 ·exact .inl (.map b2 a1.lg.isMap)
 ·exact .inl (.map b4 a1.ix.isMap)
theorem upd_ans (A:List Nat) (f:Nat):updA (ansOf A) f=ansOf (f :: A):=by
 funext r
 unfold updA ansOf
 by_cases h:r=f<;>simp [h]
theorem core_ans {A:List Nat} {tk:Nat} (h:CoreSt w F gc n me q c (.lead A tk) (.slice none 0 0) (.slice none 0 0)) (hf:f<n) (hme:me<n) (hne:f≠me) (hn3:3≤n) (hn:n≤7) (hq:q<n) (hc:CmOk c) (hA:f∉A) (hl:A.length≤5) :
  Calls Tryz.prog 75 #[.pointer (some ⟨gc,0,none⟩),.agg (letL 2 f me q Cm.zero).toArray] w fun e w'=>e=.returned (.bool false)∧Mv (CoreFt w F) w w' ∧
   ((A.length+3<n∧CoreSt w' (grow F w w') gc n me q c (.lead (f :: A) tk) (.slice none 0 0) (.slice none 0 0)) ∨
    (n≤A.length+3∧∃ recs cout,CoreSt w' (grow F w w') gc n me q c .com recs cout∧RecS w' w.heap.size 1 recs∧LetS w' (grow F w w') cout (n-1) (outV 5 me q c))):=by
 obtain⟨⟨gl,gm,nl,gi,gx,ni,L,E,leads,a1,a2,a3,⟨b1,b2,b3,b4⟩,hqm,rfl,gb,cb,gld,rest,R,ob,rfl,d2,d3,d4,d5,d6,d7,d8⟩,hfc⟩:=h
 have n0:nl≤1:=a2
 have n1:ni≤1:=a3
 have HL:LeadIs w gc n me gl gm nl gi gx ni q c E gb cb gld rest (ansOf A) R ob A.length tk:=⟨a1,d3,d4,d5,d2⟩
 have hgb:gb≠gc∧gb≠gl∧gb≠gm∧gb≠gi∧gb≠gx:=⟨d3.ne_of a1.hc (by decide),d3.ne_of a1.lg.ix (by decide),ownsMap_ne a1.lg.isMap d3,d3.ne_of a1.ix.ix (by decide),ownsMap_ne a1.ix.isMap d3⟩
 have K:=fun (Post:World→Value→Option Nat→World→Prop) KW=>ctake2 gc n me gl gi f q Cm.zero (.slice (some ⟨gb,0,none⟩) 1 cb) (.slice none 0 0) (.slice none 0 0) (fun W w'=>∃ w1 R' ob',LeadIs w1 gc n me gl gm nl gi gx ni q c E gb cb gld rest (updA (ansOf A) f) R' ob' (A.length+1) tk∧(ob'=ob∨∃ k,ob'=some k∧W.heap.size≤k)∧Mv (fun k=>k=gld∨ob=some k) W w1∧Post w1 R' ob' w') w a1.hc hf hq (right2 f me q (by omega) (by omega) (by omega) hne) (fun W hb=>gone_any gl gm nl _ q 1 W (a1.lg.bel hb) (rightI_q q (by omega)))
  (fun W hb=>answered_w gc n me gl gm nl gi gx ni gb gld cb q f me A.length c E rest (ansOf A) R ob tk Post W (HL.bel hb) (by omega) (by simp [ansOf,hA]) (by omega) KW)
 have hob:∀ k,ob=some k→CoreFt w F k:=fun k hk=>by
  rcases d5.cases with⟨_,h0,_⟩|⟨g1,_,_,_,h0,_,_,hh,_⟩
  ·rw [h0] at hk;cases hk
  ·rw [h0] at hk
   cases hk
   exact .of (d8 _ h0) hh (by decide)
 have hG:∀ k,(k=gld∨ob=some k)→CoreFt w F k:=by
  rintro k (rfl|hk)
  ·exact .of d7 d4 (by decide)
  ·exact hob k hk
 by_cases hlt:A.length+3<n
 ·refine (K (fun W _ _ W'=>Below W.heap.size W W') (fun R' ob' W HW=>?_)).mono ?_
  ·obtain⟨p,cap,rfl,hcap,hcm,hnil,hrows⟩:=HW.hr.rows (V:=fun _=>attr0) (fun _ _=>rfl) (by decide)
   refine (weigh_wait gc n me gl gi gld (A.length+1) cap _ _ _ q c (updA (ansOf A) f) p tk W HW.co.hc HW.hl hrows hcap hnil hn3 hn (by omega)).mono ?_
   rintro e w' ⟨rfl,hb⟩
   exact⟨⟨_,rfl⟩,hb⟩
  ·rintro e w' ⟨rfl,w1,hb1,w2,R',ob',HW,hob',hm,hb⟩
   have HW:=HW.bel hb
   have hs1:=hb1.size
   have hs2:=hm.size
   have hs3:=hb.size
   refine⟨rfl,((Mv.of_below hb1).mv hm (fun k hk=>.inl (hG k hk))).bel hb,.inl ⟨hlt,⟨⟨gl,gm,nl,gi,gx,ni,_,E,_,HW.co,a2,a3,⟨.inl b1,.inl b2,.inl b3,.inl b4⟩,hqm,rfl,gb,cb,gld,rest,R',ob',rfl,d2,HW.hb,?_,HW.hr,.inl d6,.inl d7,?_⟩,.inl hfc⟩⟩⟩
   ·have:=HW.hl
    rw [upd_ans] at this
    exact this
   ·intro k hk
    rcases hob' with h|⟨k2,h,h2⟩
    ·exact .inl (d8 k (h▸hk))
    ·rw [h] at hk
     cases hk
     exact .inr ⟨by omega,HW.hr.lt _ h⟩
 ·refine (K (fun W _ _ W'=>Committed gc n me gl gm nl gi gx ni gb cb E q c W W') (fun R' ob' W HW=>?_)).mono ?_
  ·obtain⟨p,cap,rfl,hcap,hcm,hnil,hrows⟩:=HW.hr.rows (V:=fun _=>attr0) (fun _ _=>rfl) (by decide)
   refine (weigh_com gc n me gl gm nl gi gx ni gb gld cb q (A.length+1) cap rest c (updA (ansOf A) f) p tk E W HW.co HW.hb HW.hl d2 hgb (by omega) (by omega) hn hme (by omega) hc hrows hcap hnil hn3 (by omega) (by omega)).mono ?_
   rintro e w' ⟨rfl,hb⟩
   exact⟨⟨_,rfl⟩,hb⟩
  ·rintro e w' ⟨rfl,w1,hb1,w2,R',ob',HW,hob',hm,gr,cr,m,rv,out,rest2,ob2,c1,c2,c3,c4,c5,c6,c7,c8⟩
   have hs1:=hb1.size
   have hs2:=hm.size
   have hs3:=c8.size
   rw [lput_same] at c1
   refine⟨rfl,((Mv.of_below hb1).mv hm (fun k hk=>.inl (hG k hk))).mv c8 ?_,.inr ⟨by omega,_,out,⟨⟨gl,gm,nl+1,gi,gx,ni+1,_,_,_,c1,by simp [bnd];omega,by simp [bnd];omega,⟨.inl b1,.inl b2,.inl b3,.inl b4⟩,rfl,_,_,rfl⟩,.inl hfc⟩,.inr ⟨rfl,gr,cr,m,rv,rest2,rfl,c2,Own8.mono c3 (by omega),c4,by omega⟩,⟨fun h=>(by omega),ob2,c6,fun g hg=>.inr ⟨by have:=c7 g hg;omega,c6.lt g hg⟩⟩⟩⟩
   rintro k (rfl|rfl|rfl|rfl)
   ·exact .inl (.of hfc a1.hc (by decide))
   ·exact .inl (.map b2 a1.lg.isMap)
   ·exact .inl (.map b4 a1.ix.isMap)
   ·exact .inl (.of d6 d3 (by decide))
theorem core_late (h:CoreSt w F gc n me q c .com (.slice none 0 0) (.slice none 0 0)) (hf:f<n) (hme:me<n) (hne:f≠me) (hn:n≤7) (hq:q<n) :
  Calls Tryz.prog 75 #[.pointer (some ⟨gc,0,none⟩),.agg (letL 2 f me q Cm.zero).toArray] w fun e w'=>e=.returned (.bool false)∧Below w.heap.size w w':=by
 obtain⟨⟨gl,gm,nl,gi,gx,ni,L,E,leads,a1,a2,a3,b,rfl,p,cb,rfl⟩,hfc⟩:=h
 refine (ctake2 gc n me gl gi f q Cm.zero _ _ _ (fun W w'=>Below W.heap.size W w') w a1.hc hf hq (right2 f me q (by omega) (by omega) (by omega) hne) (fun W hb=>gone_any gl gm nl _ q 1 W (a1.lg.bel hb) (rightI_q q (by omega))) (fun W hb=>answered_none gc n me gl gi f me q cb p _ _ W (a1.hc.bel hb))).mono ?_
 rintro e w' ⟨rfl,w1,hb,hb2⟩
 exact⟨rfl,hb.trans (hb2.mono hb.size)⟩
end
end
section
open Go.RowKit Go.Maps
theorem cellRec (v:Value) (m:Nat) (w:World) (h:Blob w v m) (h1:1≤m) (hm:m≤1000000) :
  Calls Tryz.prog 160 #[v] w fun e w'=>∃ v',e=.returned v'∧Own8 w' w.heap.size v' (1+m)∧Below w.heap.size w w':=by
 obtain⟨b,off,c,bs,rfl,hc,hcm,hb⟩:=h.some h1
 have hl:=hb.len
 have h256:=hb.2.2.1
 have HS:=qh hb
 have HO1:=qh (show OwnS (w.alloc (.cells #[.int .u8 2] 5)) (.slice (Option.some ⟨w.heap.size,0,none⟩) 1 1) (Option.some w.heap.size) 5 1 1 (cells8 [2]) from ⟨World.ownsRow_lit (size:=1) w #[.int .u8 2] 1 (by omega) (by unfold maxLen;omega) rfl,rfl⟩)
 have ha:Below w.heap.size w (w.alloc (.cells #[.int .u8 2] 5)):=by go_grown
 have HA:=qh ha;have hsz:=ha.size
 clear hb ha h
 go_enter Tryz.func160,Tryz.ntmps160
 go_wp2_with (first
  | (at_builtin;refine wpList_append_s rfl (.tmp 3) (.tmp 4) 127 rfl 5 (.int .u8 0) 1 1 rfl (by kernel_rfl) rfl (by decide) _ _ 1 _ rfl HO1.out (Option.some ⟨b,off,none⟩) m c (cells8 bs) rfl (by rw [length_cells8,hl,Nat.mul_one]) (HS.out.reads.below HA.out) (by omega) (cells8_one _) (by unfold maxLen;omega) (by omega) ?_;intro v2 ob2 w2 ho2 hob2 hm2))
 have H2:=qh ho2
 have HB:=qh (HA.out.trans (hm2.below hsz (fun k hk=>by cases hk;exact Nat.le_refl _)))
 have hg:∃ g,ob2=Option.some g∧w.heap.size≤g:=by
  rcases hob2 with hc|⟨k,hk,hk2⟩
  ·exact⟨_,hc,Nat.le_refl _⟩
  ·exact⟨k,hk,by omega⟩
 obtain⟨g,rfl,hg⟩:=hg
 clear ho2 hm2 hob2
 go_ret
 have h3:=H2.out
 rw [show cells8 [2]++cells8 bs=cells8 (2 :: bs) from rfl] at h3
 exact⟨_,rfl,h3.own8 (by intro x hx;rcases List.mem_cons.1 hx with rfl|hx;decide;exact h256 x hx) hg (by omega),HB.out⟩
theorem idxZ (k:Nat) (hk:k<7):∀ W:World,(Instr.index 41 (.agg #[.int .i64 0,.int .i64 0,.int .i64 0,.int .i64 0,.int .i64 0,.int .i64 0,.int .i64 0]) (.int .i64 k)).run Tryz.prog W=.ok (.int .i64 0) W:=by
 intro W
 rcases (show k=0∨k=1∨k=2∨k=3∨k=4∨k=5∨k=6 by omega) with rfl|rfl|rfl|rfl|rfl|rfl|rfl<;>kernel_rfl
theorem cutRec (w:World) :
  Calls Tryz.prog 68 #[.agg #[.int .i64 0,.int .i64 0,.int .i64 0,.int .i64 0,.int .i64 0,.int .i64 0,.int .i64 0]] w fun e w'=>∃ v' m,e=.returned v'∧(1≤m∧m≤71)∧Own8 w' w.heap.size v' m∧Below w.heap.size w w':=by
 have KN:=qh (fun v len W (h:Blob W v len) (hl:len≤1000000)=>pnum_any v len 0 W h hl (by omega))
 go_enter Tryz.func68,Tryz.ntmps68
 go_wp2_with fail
 go_loopw [8,3] (fun vi vb wr=>∃ i len:Nat,vi=.int .i64 (i:Int)∧i≤7∧i+1≤len∧len≤1+10*i∧Own8 wr w.heap.size vb len∧Below w.heap.size w wr) (fun vi _ _=>7 - (intOf vi).toNat)
 case atStart=>
  have h1:(w.alloc (.cells #[.int .i64 0,.int .i64 0,.int .i64 0,.int .i64 0,.int .i64 0,.int .i64 0,.int .i64 0] 41)).heap.size=w.heap.size+1:=by simp
  have h2:=World.ownsRow_lit (e:=5) (size:=1) (base:=0) (w.alloc (.cells #[.int .i64 0,.int .i64 0,.int .i64 0,.int .i64 0,.int .i64 0,.int .i64 0,.int .i64 0] 41)) #[.int .u8 1] 1 (Nat.zero_le _) (by unfold maxLen;omega) rfl
  rw [h1] at h2
  have h3:OwnS _ (.slice (Option.some ⟨w.heap.size+1,0,none⟩) 1 1) (Option.some (w.heap.size+1)) 5 1 1 (cells8 [1]):=⟨h2,rfl⟩
  exact⟨0,1,rfl,by omega,by omega,by omega,Own8.mono (OwnS.own8 h3 (by intro x hx;simp at hx;omega) (Nat.le_refl _) (by omega)) (by omega),by go_grown⟩
 case round=>
  obtain⟨i,len,rfl,hi,hl1,hl2,ho,hb⟩:=hrel
  have HO:=qh ho;have HB:=qh hb
  clear ho hb
  by_cases h7:i=7
  ·subst h7
   go_wp2_with fail
   go_ret
   exact⟨_,len,rfl,by omega,HO.out,HB.out⟩
  ·have hi7:(i:Int)<7:=by omega
   have hix:=idxZ i (by omega)
   go_wp2_with fail
   refine (KN.out _ _ _ HO.out.blob (by omega)).mono ?_
   rintro e w1 ⟨v',m',rfl,h1,h2,ho,hb⟩
   have hs:=HB.out.size
   have HO2:=qh (Own8.mono (B':=w.heap.size) ho hs);have HB2:=qh (HB.out.trans (hb.mono hs))
   clear ho hb hix
   go_wp2_with fail
   go_roundw
   case rel=>exact⟨i+1,m',by simp,by omega,by omega,by omega,HO2.out,HB2.out⟩
   case measure=>simp [intOf];omega
def NilIf (mm:Nat) (out:Value):Prop:=mm=0→out=.slice none 0 0
theorem Own8.mvt {w w':World} {F:Foot} {B n:Nat} {v:Value} (h:Own8 w B v n) (hm:Mv F w w') (hF:∀ k L,F k→¬ Holds w k 5 L):Own8 w' B v n:=by
 obtain⟨bs,h1,h2,h3,h4⟩:=h
 exact⟨bs,h1,h2,h3,h4.imp id fun ⟨b,cap,cur,e1,e2,hh,r⟩=>⟨b,cap,cur,e1,e2,(hm.block b (Array.getElem?_eq_some_iff.1 hh).1 (fun hf=>hF b cur.toList hf hh)).trans hh,r⟩⟩
theorem ndrain1 (g n me gd gfl gby mb gw gc gl gi gfr gr cr m mm B:Nat) (kept:Int) (leads rv cout:Value) (rest:List Value) (obc:Option Nat) (xs:List Value) (P:Value) (sq v:Int) (d:Nat→Int) (since tk:Int) (waits ans:Value) (w:World)
  (nd:Holds w g 102 (nodeL n me gd gw gc gfr P sq v d since tk waits (.slice none 0 0) ans)) (dk:Disk1 w gd gfl gby mb kept) (wl:Holds w gw 208 (walL gd 1 1)) (hc:Holds w gc 163 (coreL n me gl gi leads (.slice (some ⟨gr,0,none⟩) 1 cr) cout))
  (hr:Holds w gr 127 (rv :: rest)) (hrv:Own8 w B rv m) (hm:1≤m∧m≤480) (hco:OwnS w cout obc 47 51 mm xs) (h1:∀ u∈xs,u.oneCell'=true) (hmb:mb≤2000) (hmm:mm≤100) (hc0:mm=0→cout=.slice none 0 0) :
  Calls Tryz.prog 90 #[.pointer (some ⟨g,0,none⟩)] w fun e w'=>e=.returned (.bool true)∧∃ out ob gby',Holds w' g 102 (nodeL n me gd gw gc gfr P sq v d since tk waits out ans)∧Disk1 w' gd gfl gby' (mb+(m+7)) (mb+(m+7):Nat)∧Holds w' gw 208 (walL gd 1 1) ∧
   Holds w' gc 163 (coreL n me gl gi leads (.slice none 0 0) (.slice none 0 0))∧OwnS w' out ob 47 51 mm xs∧(∀ k,ob=some k→w.heap.size≤k)∧NilIf mm out∧w.heap.size≤gby'∧Mv (fun k=>k=g∨k=gfl∨k=gw∨k=gc∨k=gr) w w':=by
 have dkf:Holds w gfl 129 _:=(Classical.choose_spec (Classical.choose_spec dk.f)).2.2
 have dkd:Holds w gd 125 _:=(Classical.choose_spec dk.d).2.2
 have dkb:Holds w gby 5 _:=(Classical.choose_spec (Classical.choose_spec dk.b)).2.2
 have e1:gw≠gd∧gw≠gfl∧gw≠gby:=⟨wl.ne_of dkd (by decide),wl.ne_of dkf (by decide),wl.ne_of dkb (by decide)⟩
 have e2:gc≠g∧gc≠gd∧gc≠gfl∧gc≠gby∧gc≠gw∧gc≠gr:=⟨hc.ne_of nd (by decide),hc.ne_of dkd (by decide),hc.ne_of dkf (by decide),hc.ne_of dkb (by decide),hc.ne_of wl (by decide),hc.ne_of hr (by decide)⟩
 have e3:gr≠g∧gr≠gd∧gr≠gfl∧gr≠gby∧gr≠gw∧gr≠gc:=⟨hr.ne_of nd (by decide),hr.ne_of dkd (by decide),hr.ne_of dkf (by decide),hr.ne_of dkb (by decide),hr.ne_of wl (by decide),hr.ne_of hc (by decide)⟩
 have e4:g≠gd∧g≠gfl∧g≠gby∧g≠gw∧g≠gc:=⟨nd.ne_of dkd (by decide),nd.ne_of dkf (by decide),nd.ne_of dkb (by decide),nd.ne_of wl (by decide),nd.ne_of hc (by decide)⟩
 have e5:∀ k,obc=some k→k≠g∧k≠gfl∧k≠gw∧k≠gc∧k≠gr:=by
  intro k hk
  rcases hco.cases with⟨_,h0,_⟩|⟨g1,_,_,_,h0,_,_,hh,_⟩
  ·rw [h0] at hk;cases hk
  ·rw [h0] at hk
   cases hk
   exact⟨hh.ne_of nd (by decide),hh.ne_of dkf (by decide),hh.ne_of wl (by decide),hh.ne_of hc (by decide),hh.ne_of hr (by decide)⟩
 have KD:=qh (fun W (h:Holds W gc 163 (coreL n me gl gi leads (.slice (some ⟨gr,0,none⟩) 1 cr) cout))=>drain_any gc n me gl gi leads _ _ W h)
 have KC:=qh (fun W (h:Blob W rv m)=>cellRec rv m W h hm.1 (by omega))
 have KA:=qh (fun r W hw h hg hr=>add1 gw gd gfl gby mb gr cr (1+m) kept r rest W hw h hg hr e1 (by omega) (by omega) (by omega))
 have HN:=qh nd;have HD:=qh dk;have HW:=qh wl;have HC0:=qh hc;have HR:=qh hr;have HO:=qh hco
 have HBL:=qh hrv
 have hgcT:∀ L,¬ Holds w gc 5 L:=fun L hL=>hc.ne_of hL (by decide) rfl
 have hlt:g<w.heap.size∧gc<w.heap.size∧gr<w.heap.size∧gw<w.heap.size:=⟨nd.lt,hc.lt,hr.lt,wl.lt⟩
 have hdl:=dk.lt
 have hol:=hco.lt
 have hmi:(mm:Int)≤100:=by omega
 clear nd dk wl hc hr hrv hco dkf dkd dkb
 have HM:=qh (Mv.refl (fun k=>k=g∨k=gfl∨k=gw∨k=gc∨k=gr) w)
 go_enter Tryz.func90,Tryz.ntmps90
 have n4:=HN.out.cell 4
 simp only [nodeL,yA,yB] at n4
 go_wp2_with fail
 refine (KD.out _ HC0.out).mono ?_
 clear HC0 KD
 rintro e w1 ⟨rfl,hc1,ht1⟩
 have hm1:Mv (fun k=>k=gc) w w1:=Mv.of_touch ht1 rfl
 have HC:=qh hc1
 have HN:=qh (HN.out.mv hm1 (Ne.symm e2.1))
 have HD:=qh (HD.out.mv hm1 (Ne.symm e2.2.1) (Ne.symm e2.2.2.1) (Ne.symm e2.2.2.2.1))
 have HW:=qh (HW.out.mv hm1 (Ne.symm e2.2.2.2.2.1))
 have HR:=qh (HR.out.mv hm1 (Ne.symm e2.2.2.2.2.2))
 have HO:=qh (HO.out.mv hm1 (fun k hk=>(e5 k hk).2.2.2.1))
 have HM:=qh (HM.out.mv hm1 (fun k hk=>.inl (.inr (.inr (.inr (.inl hk))))))
 have HBL:=qh (HBL.out.mvt hm1 (fun k L hk=>by rw [hk];exact hgcT L))
 clear hc1 ht1 hm1 n4
 go_wp2_with fail
 go_loopw [17] (fun vi wr=>(vi=.int .i64 0∧wr=w1)∨(vi=.int .i64 1∧∃ rv',Holds wr gr 127 (rv' :: rest)∧Blob wr rv' (1+m)∧Mv (fun k=>k=gr) w1 wr)) (fun vi _=>1 - (intOf vi).toNat)
 case atStart=>exact .inl ⟨rfl,rfl⟩
 case round=>
  rcases hrel with⟨rfl,rfl⟩|⟨rfl,rv',hr,hb,hm⟩
  ·have r0:=HR.out.cell 0
   simp only [yA,yB] at r0
   go_wp2_with fail
   refine (KC.out _ HBL.out.blob).mono ?_
   rintro e w2 ⟨v',rfl,ho,hb⟩
   have hgr1:=HR.out.lt
   have HR:=qh (HR.out.bel hb)
   have HV:=qh ho
   have HM2:=qh (Mv.of_below (F:=fun k=>k=gr) hb)
   obtain⟨pv,cv,rfl⟩:=ho.shape
   have hgr2:=HR.out.lt
   clear ho hb r0
   go_wp2_with (first
    | (refine wpList_store_cell rfl 127 (.tmp 26) (.tmp 25) rfl rfl gr 0 127 _ HR.out (by simp) rfl (.slice pv (1+m:Nat) cv) rfl rfl (by kernel_rfl) rfl ?_;intro w3 hh3 ht3;have HR3:=qh (show Holds w3 gr 127 (.slice pv (1+m:Nat) cv :: rest) from hh3);have HV3:=qh (HV.out.touch ht3 hgr1).blob;have HM3:=qh (HM2.out.touch ht3 (.inl rfl))))
   go_roundw
   case rel=>exact .inr ⟨rfl,_,HR3.out,HV3.out,HM3.out⟩
   case measure=>simp [intOf]
  ·have HN:=qh (HN.out.mv hm (Ne.symm e3.1))
   have HD:=qh (HD.out.mv hm (Ne.symm e3.2.1) (Ne.symm e3.2.2.1) (Ne.symm e3.2.2.2.1))
   have HW:=qh (HW.out.mv hm (Ne.symm e3.2.2.2.2.1))
   have HC:=qh (HC.out.mv hm (Ne.symm e3.2.2.2.2.2))
   have HO:=qh (HO.out.mv hm (fun k hk=>(e5 k hk).2.2.2.2))
   have HM:=qh (HM.out.mv hm (fun k hk=>.inl (.inr (.inr (.inr (.inr hk))))))
   have HR:=qh hr;have HB:=qh hb
   clear hr hb hm
   have n3:=HN.out.cell 3
   simp only [nodeL,yA,yB] at n3
   go_wp2_with fail
   refine (KA.out _ _ HW.out HD.out HR.out HB.out).mono ?_
   rintro e w5 ⟨rfl,gby',hd5,hgb,hw5,hm5⟩
   have hs5:=HM.out.size
   have hmn:mb+(1+m+6)=mb+(m+7):=by omega
   have HN:=qh (HN.out.mv hm5 (fun h=>h.elim e4.2.1 e4.2.2.2.1))
   have HD:=qh hd5;have HW:=qh hw5
   have HC:=qh (HC.out.mv hm5 (fun h=>h.elim e2.2.2.1 e2.2.2.2.2.1))
   have HO:=qh (HO.out.mv hm5 (fun k hk h=>h.elim (e5 k hk).2.1 (e5 k hk).2.2.1))
   have HM:=qh (HM.out.mv hm5 (fun k hk=>.inl (hk.elim (fun h=>.inr (.inl h)) (fun h=>.inr (.inr (.inl h))))))
   have hgb2:w.heap.size≤gby':=by omega
   have hs5':=HM.out.size
   clear hd5 hw5 hm5 n3 HR HB
   have n72:=HN.out.cell 72
   simp only [nodeL,yA,yB] at n72
   rcases Nat.eq_zero_or_pos mm with h0|h0
   ·subst h0
    have hO:=HO.out
    obtain⟨rfl,rfl,hx0⟩:cout=.slice none 0 0∧obc=none∧xs=[]:=by
     have hr:=hc0 rfl
     refine⟨hr,by rw [← hO.ob,hr];rfl,List.eq_nil_of_length_eq_zero (by have:=hO.len;omega)⟩
    subst hx0
    clear hO
    go_wp2_with (first
     | (at_builtin;refine wpList_append_s0 rfl (.tmp 41) (.tmp 42) 34 rfl 47 (.agg letZ.toArray) 51 480 rfl (by kernel_rfl) _ none 0 [] rfl (OwnS.nil _ _ _) rfl ?_)
     | (refine wpList_store_cell rfl 34 (.tmp 45) (.tmp 43) rfl rfl g 72 102 _ HN.out (by simp [nodeL]) rfl (.slice none 0 0) rfl rfl (by kernel_rfl) rfl ?_;intro w7 hh7 ht7))
    have hm7:Mv (fun k=>k=g) w5 w7:=Mv.of_touch ht7 rfl
    go_ret
    exact⟨rfl,.slice none 0 0,none,gby',hh7,hmn▸HD.out.mv hm7 (Ne.symm e4.1) (Ne.symm e4.2.1) (by have:=HN.out.lt;omega),HW.out.mv hm7 (Ne.symm e4.2.2.2.1),HC.out.mv hm7 e2.1,OwnS.nil _ _ _,by simp,fun _=>rfl,hgb2,HM.out.mv hm7 (fun k hk=>.inl (.inl hk))⟩
   ·obtain⟨go,co,ro,rfl,rfl,hco1,hco2,hgo,hgl⟩:=HO.out.blk h0
    go_wp2_with (first
     | (at_builtin;refine wpList_append_s rfl (.tmp 41) (.tmp 42) 34 rfl 47 (.agg letZ.toArray) 51 480 rfl (by kernel_rfl) rfl (by decide) _ none 0 [] rfl (OwnS.nil _ _ _) _ mm co xs rfl HO.out.len HO.out.reads h0 h1 (by unfold maxLen;omega) (by omega) ?_;intro v6 ob6 w6 ho6 hob6 hm6;have HO6:=qh ho6;have HN6:=qh (HN.out.bel (hm6.below (Nat.le_refl _) (by simp)));have HM6:=qh hm6;have hob6':=hob6;clear ho6 hm6)
     | (refine wpList_store_cell rfl 34 (.tmp 45) (.tmp 43) rfl rfl g 72 102 _ HN6.out (by simp [nodeL]) rfl v6 rfl (by rcases HO6.out.cases with⟨r,_⟩|⟨_,_,_,r,_⟩<;>rw [r]<;>rfl) (by kernel_rfl) (by rcases HO6.out.cases with⟨r,_⟩|⟨_,_,_,r,_⟩<;>rw [r]<;>rfl) ?_;intro w7 hh7 ht7))
    have hm7:Mv (fun k=>k=g) w6 w7:=Mv.of_touch ht7 rfl
    have hm6:Mv (fun _=>False) w5 w6:=HM6.out.more (fun k hk=>by cases hk)
    have hnew:∀ k,ob6=some k→w5.heap.size≤k:=by
     intro k hk
     rcases hob6' with h|⟨k2,h,h2⟩
     ·rw [h] at hk;cases hk
     ·rw [h] at hk;cases hk;exact h2
    go_ret
    rw [Nat.zero_add,List.nil_append] at HO6
    exact⟨rfl,v6,ob6,gby',hh7,hmn▸(HD.out.mv hm6 id id id).mv hm7 (Ne.symm e4.1) (Ne.symm e4.2.1) (by have:=HN.out.lt;omega),(HW.out.mv hm6 id).mv hm7 (Ne.symm e4.2.2.2.1),(HC.out.mv hm6 id).mv hm7 e2.1,HO6.out.mv hm7 (fun k hk h=>by have:=hnew k hk;have:=HN.out.lt;omega),fun k hk=>Nat.le_trans hs5' (hnew k hk),fun h=>(by omega),hgb2,(HM.out.mv hm6 (fun k hk=>hk.elim)).mv hm7 (fun k hk=>.inl (.inl hk))⟩
end
section
open Go.RowKit Go.Maps
theorem ndrain0 (g n me gd gw gc gl gi gfr:Nat) (leads:Value) (P:Value) (sq v:Int) (d:Nat→Int) (since tk:Int) (waits ans:Value) (w:World)
  (nd:Holds w g 102 (nodeL n me gd gw gc gfr P sq v d since tk waits (.slice none 0 0) ans)) (wl:Holds w gw 208 (walL gd 1 1)) (hc:Holds w gc 163 (coreL n me gl gi leads (.slice none 0 0) (.slice none 0 0))) :
  Calls Tryz.prog 90 #[.pointer (some ⟨g,0,none⟩)] w fun e w'=>e=.returned (.bool true)∧Holds w' g 102 (nodeL n me gd gw gc gfr P sq v d since tk waits (.slice none 0 0) ans) ∧
   Holds w' gc 163 (coreL n me gl gi leads (.slice none 0 0) (.slice none 0 0))∧Mv (fun k=>k=g∨k=gc) w w':=by
 have e2:gc≠g∧gc≠gw:=⟨hc.ne_of nd (by decide),hc.ne_of wl (by decide)⟩
 have KD:=qh (fun W (h:Holds W gc 163 (coreL n me gl gi leads (.slice none 0 0) (.slice none 0 0)))=>drain_any gc n me gl gi leads _ _ W h)
 have KA:=qh (fun W hw=>add0 gw gd W hw)
 have HN:=qh nd;have HW:=qh wl;have HC0:=qh hc
 have hgc:=hc.lt
 clear nd wl hc
 go_enter Tryz.func90,Tryz.ntmps90
 have n4:=HN.out.cell 4
 simp only [nodeL,yA,yB] at n4
 go_wp2_with fail
 refine (KD.out _ HC0.out).mono ?_
 clear HC0 KD
 rintro e w1 ⟨rfl,hc1,ht1⟩
 have hm1:Mv (fun k=>k=gc) w w1:=Mv.of_touch ht1 rfl
 have HC:=qh hc1
 have HN:=qh (HN.out.mv hm1 (Ne.symm e2.1))
 have HW:=qh (HW.out.mv hm1 (Ne.symm e2.2))
 have HM:=qh (hm1.more (G:=fun k=>k=g∨k=gc) (fun k hk=>.inr hk))
 clear hc1 ht1 hm1 n4
 go_wp2_with fail
 go_loopw [17] (fun vi wr=>vi=.int .i64 0∧w1=wr) (fun vi _=>0)
 case atStart=>exact⟨rfl,rfl⟩
 case round=>
  obtain⟨rfl,rfl⟩:=hrel
  have n3:=HN.out.cell 3
  simp only [nodeL,yA,yB] at n3
  go_wp2_with fail
  refine (KA.out _ HW.out).mono ?_
  rintro e w5 ⟨rfl,hb5⟩
  have HN:=qh (HN.out.bel hb5)
  have HC:=qh (HC.out.bel hb5)
  have HM:=qh (HM.out.bel hb5)
  clear hb5 n3 HW
  have n72:=HN.out.cell 72
  simp only [nodeL,yA,yB] at n72
  go_wp2_with (first
   | (at_builtin;refine wpList_append_s0 rfl (.tmp 41) (.tmp 42) 34 rfl 47 (.agg letZ.toArray) 51 480 rfl (by kernel_rfl) _ none 0 [] rfl (OwnS.nil _ _ _) rfl ?_)
   | (refine wpList_store_cell rfl 34 (.tmp 45) (.tmp 43) rfl rfl g 72 102 _ HN.out (by simp [nodeL]) rfl (.slice none 0 0) rfl rfl (by kernel_rfl) rfl ?_;intro w7 hh7 ht7))
  have hm7:Mv (fun k=>k=g) w5 w7:=Mv.of_touch ht7 rfl
  go_ret
  exact⟨rfl,hh7,HC.out.mv hm7 e2.1,HM.out.mv hm7 (fun k hk=>.inl (.inl hk))⟩
end
section
open Go.RowKit Go.Maps
section
variable {P:Program} {ops:Array Oper} {Q:Exit→Act→World→Prop}
theorem wpList_build2 {rest:List Oper} {o:Oper} {a:Act} {w:World} (hw:Region.wanted o (yielded ops a.tmps)=true) (t:TypeId) (i j:Nat) (q r:Tmp) (ho:o.op=.build t #[(i,.tmp q),(j,.tmp r)]) (u v:Value) (hu:a.eval (.tmp q)=u) (hv:a.eval (.tmp r)=v)
  (z:Value) (hr:∀ w,(Instr.build t #[(i,u),(j,v)]).run P w=.ok z w) (h:wpList P ops Q rest (a.put o.dst z) w):wpList P ops Q (o :: rest) a w:=
 wpList_step fun K hK=>by
  rw [if_pos hw]
  unfold Oper.wp execOp
  simp only [ho,List.map_toArray,List.map_cons,List.map_nil,hu,hv]
  rw [Sem.run_bind,hr]
  exact hK _ _ h
end
def knownK (q:Nat) (c:Cm):List Value:=.int .i64 q :: .int .i64 1 :: cellL 3 c false
theorem knownK_one (q:Nat) (c:Cm):∀ u∈knownK q c,u.oneCell'=true:=by simp [knownK,cellL,Value.oneCell']
theorem knownB (q:Nat) (c:Cm):∀ W:World,(Instr.build 267 #[(0,.agg #[.int .i64 q,.int .i64 1]),(1,.agg (cellL 3 c false).toArray)]).run Tryz.prog W=.ok (.agg (knownK q c).toArray) W:=fun _=>by kernel_rfl
theorem committed_none (g n me gd gw gc gl gm nl gi gx ni gfr:Nat) (E:List Ent) (leads recs cout:Value) (P:Value) (sq v:Int) (d:Nat→Int) (since tk:Int) (waits out ans:Value) (w:World)
  (nd:Holds w g 102 (nodeL n me gd gw gc gfr P sq v d since tk waits out ans)) (hc:CoreAt w gc n me gl gm nl gi gx ni [] E leads recs cout) :
  Calls Tryz.prog 164 #[.pointer (some ⟨g,0,none⟩)] w fun e w'=>e=.returned (.slice none 0 0)∧Below w.heap.size w w':=by
 have KC:=qh (cells_any gc n me gl gm nl gi gx ni [] E leads recs cout w hc (by simp))
 have n4:=nd.cell 4
 simp only [nodeL,yA,yB] at n4
 clear nd hc
 go_enter Tryz.func164,Tryz.ntmps164
 go_wp2_with fail
 refine KC.out.mono ?_
 rintro e w1 ⟨v1,xs,rfl,ho,hx,hb⟩
 obtain⟨p1,c1,rfl⟩:∃ p c,v1=.slice p 0 c:=by
  obtain⟨ob,h1,_⟩:=OwnS.of ho
  rcases h1.cases with⟨r,_⟩|⟨_,_,_,r,_⟩
  ·exact⟨_,_,r⟩
  ·exact⟨_,_,r⟩
 have HB:=qh hb
 clear ho hx hb KC n4
 go_wp2_with fail
 go_loopw [14,3] (fun vi v3 wr=>vi=.int .i64 0∧v3=.slice none 0 0∧wr=w1) (fun _ _ _=>0)
 case atStart=>exact⟨rfl,rfl,rfl⟩
 case round=>
  obtain⟨rfl,rfl,rfl⟩:=hrel
  go_wp2_with fail
  go_ret
  exact⟨rfl,HB.out⟩
theorem committed_one (g n me gd gw gc gl gm nl gi gx ni gfr q:Nat) (st:Int) (c:Cm) (sm:Bool) (b:Bool) (E:List Ent) (leads recs cout:Value) (P:Value) (sq v:Int) (d:Nat→Int) (since tk:Int) (waits out ans:Value) (w:World)
  (nd:Holds w g 102 (nodeL n me gd gw gc gfr P sq v d since tk waits out ans)) (hc:CoreAt w gc n me gl gm nl gi gx ni [⟨q,1,cellL st c sm⟩] E leads recs cout) (hq:q<7) (hb:(b=true∧d q=0∧st=3∧sm=false)∨(b=false∧d q=0∧st=1)∨(b=false∧d q=1)) :
  Calls Tryz.prog 164 #[.pointer (some ⟨g,0,none⟩)] w fun e w'=>∃ R ob,e=.returned R∧(b=false→R=.slice none 0 0)∧(b=true→OwnS w' R ob 267 23 1 (knownL q c))∧Below w.heap.size w w':=by
 have KC:=qh (cells_any gc n me gl gm nl gi gx ni _ E leads recs cout w hc (by simp))
 have KX:=qh (fun W (h:Holds W gc 163 (coreL n me gl gi leads recs cout)) hl=>core_cell gc n me gl gm nl gi q leads recs cout st c sm W h hl hq)
 have HN:=qh nd;have HC:=qh hc.hc;have HL:=qh hc.lg
 have hqi:(q:Int)<7:=by omega
 clear nd hc
 go_enter Tryz.func164,Tryz.ntmps164
 have n4:=HN.out.cell 4
 simp only [nodeL,yA,yB] at n4
 go_wp2_with fail
 refine KC.out.mono ?_
 rintro e w1 ⟨v1,xs,rfl,ho,hx,hb1⟩
 have hxs:=hx _ List.mem_cons_self
 subst hxs
 obtain⟨ob1,ho1,_⟩:=OwnS.of ho
 obtain⟨gs,cs,rs,rfl,hob1,hcs1,hcs2,hgs,_⟩:=ho1.blk (Nat.zero_lt_one)
 have HS:=qh hgs
 have HB:=qh hb1
 have HN:=qh (HN.out.bel hb1)
 have HC:=qh (HC.out.bel hb1)
 have HL:=qh (HL.out.bel hb1)
 clear ho hx hb1 KC n4 ho1 hob1 hgs
 go_wp2_with fail
 go_loopw [14,3] (fun vi v3 wr=>(vi=.int .i64 0∧v3=.slice none 0 0∧w1=wr)∨(vi=.int .i64 1∧∃ ob,(b=false→v3=.slice none 0 0)∧(b=true→OwnS wr v3 ob 267 23 1 (knownL q c))∧Below w1.heap.size w1 wr)) (fun vi _ _=>1 - (intOf vi).toNat)
 case atStart=>exact .inl ⟨rfl,rfl,rfl⟩
 case round=>
  rcases hrel with⟨rfl,rfl,rfl⟩|⟨rfl,ob,h1,h2,h3⟩
  ·have s0:=HS.out.cell 0
   have s1:=HS.out.cell 1
   simp only [List.cons_append,yA,yB] at s0 s1
   have HB1:=qh (Base.start w1)
   go_upto_region 5 with (first
    | (refine wpList_store_whole rfl 37 (.tmp 5) (.tmp 17) w1.heap.size [.int .i64 0,.int .i64 0] [.int .i64 q,.int .i64 1] rfl rfl rfl rfl (holds_alloc w1 _ _) (by kernel_rfl) rfl (by simp [Value.oneCell']) ?_;intro w2 hh2 ht2))
   have hal:Below w1.heap.size w1 w2:=Below.trans ((Below.refl _ _).alloc (Nat.le_refl _) _) (ht2.below (Nat.le_refl _) (by simp))
   have HI:=qh hh2
   have HN:=qh (HN.out.bel hal)
   have HC:=qh (HC.out.bel hal)
   have HL:=qh (HL.out.bel hal)
   have HB1:=qh (HB1.out.bel hal)
   clear hal hh2 ht2 s0 s1
   generalize hgp:w1.heap.size=gp at HI HB1 ⊢
   refine' wp_region_boxes [⟨9,10,6,25,45,zero21,cellL st c sm⟩] (by kernel_rfl) (by kernel_rfl) (by kernel_rfl) ?z11 ?z21 ?bd1 _ ?h1 ?val1 ?fin1
   case z11=>
    intro x hx
    simp only [List.mem_cons,List.not_mem_nil,or_false] at hx
    subst hx
    ·exact⟨.agg (zero21:List Value).toArray,by kernel_rfl,rfl⟩
   case z21=>
    intro x hx
    simp only [List.mem_cons,List.not_mem_nil,or_false] at hx
    subst hx
    ·exact⟨by kernel_rfl,rfl,cellL_one _ _ _⟩
   case bd1=>
    intro x hx
    simp only [List.mem_cons,List.not_mem_nil,or_false] at hx
    subst hx
    ·simp
   case h1=>
    intro W0 hW0
    have HN:=qh (HN.out.bel hW0)
    have HC:=qh (HC.out.bel hW0)
    have HL:=qh (HL.out.bel hW0)
    have HI:=qh (HI.out.bel hW0)
    have HB1:=qh (HB1.out.bel hW0)
    have c0_4:=fun d os=>HN.out.grown d os 4
    simp only [nodeL,yA,yB] at c0_4
    have c1_0:=fun d os=>HI.out.grown d os 0
    have c1_1:=fun d os=>HI.out.grown d os 1
    simp only [yA,yB] at c1_0 c1_1
    simp only [List.map_cons,List.map_nil,hushOp]
    repeat go_big_quiet_step (first
     | (go_at_call 176;with_reducible exact calls_regrown fun W2 h2=>KX.out W2 (HC.out.bel h2) (HL.out.bel h2)))
    refine wpQuiet_nil ?_
    intro w' _
    exact rfl
   case val1=>
    intro x hx
    simp only [List.mem_cons,List.not_mem_nil,or_false] at hx
    subst hx
    ·rfl
   intro β w4 hb hx hne
   have hx6:=hx _ List.mem_cons_self
   clear hx hne
   simp only [] at hx6
   simp only [patch,List.foldl,Act.put,List.setIfInBounds_toArray,List.set_cons_zero,List.set_cons_succ]
   have HN:=qh (HN.out.bel hb)
   have HC:=qh (HC.out.bel hb)
   have HL:=qh (HL.out.bel hb)
   have HI:=qh (HI.out.bel hb)
   have HB1:=qh (HB1.out.bel hb)
   generalize β 6=g6 at hx6 ⊢
   have H6:=qh hx6.2
   have hge6:=hx6.1
   clear hx6
   clear hb
   have hs1:=HB1.out.le
   go_upto_region 6 with (fail)
   have i0:=HI.out.cell 0
   have i1:=HI.out.cell 1
   simp only [yA,yB] at i0 i1
   have y0:=H6.out.cell 0
   simp only [cellL,yA,yB] at y0
   have hdq:=HN.out.cell (55+q)
   rw [nodeL_done_at _ _ _ _ _ _ _ _ _ _ _ _ _ _ _ q hq] at hdq
   rcases hb with⟨rfl,hd,rfl,rfl⟩|⟨rfl,hd,rfl⟩|⟨rfl,hd⟩
   all_goals rw [hd] at hdq
   all_goals go_quiet (fail)
   ·have HI:=qh (HI.out.bel (t_drewN _ _ nq));have H6:=qh (H6.out.bel (t_drewN _ _ nq));have HB1:=qh (HB1.out.bel (t_drewN _ _ nq))
    clear i0 i1 y0 hdq
    generalize w4.drewN nq=W2 at HI H6 HB1 ⊢
    have i0:=HI.out.cell 0
    have i1:=HI.out.cell 1
    simp only [yA,yB] at i0 i1
    have HR:=qh H6.out.range0
    go_wp2_with (first
     | (refine wpList_load_mid rfl 45 _ rfl g6 0 rfl (cellL 3 c false) _ HR.out Tryz.underlying45 rfl (by kernel_rfl) ?_)
     | (with_reducible show wpList _ _ _ (_ :: _) _ _;refine wpList_build2 (by kernel_rfl) 267 0 1 _ _ rfl (.agg #[.int .i64 q,.int .i64 1]) (.agg (cellL 3 c false).toArray) rfl rfl (.agg (knownK q c).toArray) (knownB q c) ?_)
     | (refine wpList_build1 rfl 262 267 (.agg (knownK q c).toArray) (knownK q c) rfl rfl rfl (fun w=>by kernel_rfl) ?_;intro wa hna hba;have HNA:=qh hna;have HBA:=qh (HB1.out.bel hba);clear hna hba)
     | (at_builtin;refine wpList_append_s rfl (.tmp 42) (.tmp 46) 262 rfl 267 (.agg knownZ.toArray) 23 216 rfl (by kernel_rfl) rfl (by decide) _ none 0 [] rfl (OwnS.nil _ _ _) _ 1 1 (knownK q c) rfl rfl (HNA.out.reads 0 _ (fun j v hv=>by rw [Nat.zero_add];exact hv)) (by decide) (knownK_one q c) (by unfold maxLen;omega) (by omega) ?_;intro v5 ob5 w5 ho5 hob5 hm5;have HO5:=qh (show OwnS w5 v5 ob5 267 23 1 (knownL q c) from ho5);have HB5:=qh (HBA.out.mv hm5 (fun k hk=>by cases hk));clear ho5 hob5 hm5))
    go_roundw
    case rel=>exact .inr ⟨by simp,ob5,fun h=>(by cases h),fun _=>HO5.out,hgp▸HB5.out.below⟩
    case measure=>simp [intOf]
   all_goals
    have HB1:=qh (HB1.out.bel (t_drewN _ _ nq))
    clear i0 i1 y0 hdq
    generalize w4.drewN nq=W2 at HB1 ⊢
    go_wp2_with fail
    go_roundw
    case rel=>exact .inr ⟨by simp,none,fun _=>rfl,fun h=>(by cases h),hgp▸HB1.out.below⟩
    case measure=>simp [intOf]
  ·have h1:=qh h1;have h2:=qh h2;have h3:=qh h3
   have HB2:=qh (HB.out.trans (h3.out.mono HB.out.size))
   go_wp2_with fail
   go_ret
   exact⟨_,ob,rfl,h1.out,h2.out,HB2.out⟩
end
end Go.Proofs.YtimdpiifpibgfaaGreatDoor
