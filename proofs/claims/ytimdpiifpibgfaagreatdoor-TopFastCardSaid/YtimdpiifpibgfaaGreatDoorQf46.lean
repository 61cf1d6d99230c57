/- For every input the law TopFast returns true (a part of the proof). Condition: the listed variables start as the program's text lays them. -/
import Derived.Test.YtimdpiifpibgfaaGreatDoorQf45
set_option linter.unusedVariables false
set_option linter.unusedSimpArgs false
set_option maxRecDepth 20000
set_option maxHeartbeats 16000000
namespace Go.Proofs.YtimdpiifpibgfaaGreatDoor
section
open Go.RowKit Go.Maps
theorem NodeC.cm {w:World} {F:Foot} {g n me q q':Nat} {c c':Cm} {tk:Nat} (h:NodeC w F g n me q c .fresh [] false tk):NodeC w F g n me q' c' .fresh [] false tk:=by
 obtain⟨t,ht,gd,gfl,gby,mb,gw,gc,gfr,kept,P,sq,v,d,since,waits,out,ans,nd,dk,lm,wl,⟨⟨gl,gm,nl,gi,gx,ni,L,E,leads,a1,a2,a3,a4,a5⟩,hf⟩,fr,st,wa,ou,an',f⟩:=h
 exact⟨t,ht,gd,gfl,gby,mb,gw,gc,gfr,kept,P,sq,v,d,since,waits,out,ans,nd,dk,lm,wl,⟨⟨gl,gm,nl,gi,gx,ni,L,E,leads,a1,a2,a3,a4,a5⟩,hf⟩,fr,st,wa,ou.cong (fun i hi=>absurd hi (Nat.not_lt_zero i)),an',f⟩
theorem startS_ph (n j:Nat):(startS n).phs.getD j .fresh=.fresh:=by
 simp only [startS,List.getD_eq_getElem?_getD,List.getElem?_replicate]
 split<;>rfl
theorem ClSt.cm {w:World} {own:Nat→Nat} {gC n q q':Nat} {c c':Cm} (h:ClSt w own gC n q c (startS n)):ClSt w own gC n q' c' (startS n):=by
 obtain⟨dv,gN,cN,gCl,cCl,gCa,lv,hv,gs,gcl,⟨a1,a2,a3,a4,a5,a6,a7,a8,a9,⟨cs,r3,b1,b2,b3,b4⟩,⟨ob,b5,b6⟩,⟨b7,ob2,b8,b9⟩,b10⟩,hN,hp⟩:=h
 refine⟨dv,gN,cN,gCl,cCl,gCa,lv,hv,gs,gcl,⟨a1,a2,a3,a4,a5,a6,?_,a8,a9,⟨cs,r3,b1,b2,b3,fun h=>absurd rfl h⟩,⟨ob,b5,b6⟩,⟨b7,ob2,b8,b9⟩,b10⟩,fun i hi=>?_,hp⟩
 ·rcases a7 with h|⟨h,_⟩
  ·exact .inl h
  ·exact absurd rfl h
 ·have h:=hN i hi
  rw [startS_ph] at h ⊢
  exact h.cm
def theCall (x:Cm):Cm:=⟨x.k,1,1,x.a,x.b,x.o,x.v⟩
theorem call_ok (w:World) (own:Nat→Nat) (gC n q q0:Nat) (x c0:Cm) (h0:ClSt w own gC n q0 c0 (startS n)) (hn3:3≤n) (hn:n≤7) (hq:q<n) :
  Calls Tryz.prog 11 #[.pointer (some ⟨gC,0,none⟩),.agg (stepC q x).toArray] w fun e w'=>∃ b,e=.returned (.bool b)∧((b=true∧CmOk (theCall x)∧∃ own',ClSt w' own' gC n q (theCall x) (callS n q)∧Stepped w own w' own')∨(b=false∧Below w.heap.size w w'∧(rightA x.k 1 1 x.a x.b x.o x.v=false∨x.k=0))):=by
 have h:ClSt w own gC n q (theCall x) (startS n):=h0.cm
 refine cdo_call gC q x _ w fun W hb=>?_
 have h':=ClG.bel h hb
 obtain⟨dv,gN,cN,gCl,cCl,gCa,lv,hv,gs,gcl,hB,hN,hp⟩:=h'
 have hsz:=hb.size
 have hol:∀ k,own k≠0→k<w.heap.size:=by
  obtain⟨_,_,_,_,_,_,_,_,_,_,hB0,_⟩:=h
  exact hB0.lt
 obtain⟨rC,hcp⟩:=hB.cp
 obtain⟨rN,hnp⟩:=hB.np
 obtain⟨cs,rA,hca,hcs7,hrA,_⟩:=hB.calls
 have hcat:CAt W (gcl 0) 1 0 Cm.zero false 0 0:=by
  rcases hB.c0 with⟨_,_,e3⟩|⟨e1,_⟩
  ·exact e3
  ·exact absurd rfl e1
 obtain rfl:hv=.slice none 0 0:=hB.his.1 rfl
 refine (ccall gC gCl cCl gCa n q gcl rC cs rA x dv _ lv (fun w'=>CmOk (theCall x)∧∃ own',ClSt w' own' gC n q (theCall x) (callS n q)∧Stepped w own w' own') W hB.cl hcp hcat hca hcs7 hq hn fun W1 hC=>?_).mono ?_
 ·obtain⟨hv1,obh,c1,c2,c3,c4,c5,⟨c6,c6k⟩,c7⟩:=hC
  have hok:CmOk (theCall x):=cmOk_of (theCall x) c6 c6k
  have hs7:=c7.size
  have dG:∀ k t L,Holds W k t L→t≠85→t≠23→t≠132→¬ (k=gC∨k=gCa∨k=gcl 0):=by
   rintro k t L hk h1 h2 h3 (rfl|rfl|rfl)
   ·exact h1 (holds_type hk hB.cl)
   ·exact h2 (holds_type hk hca)
   ·exact h3 (holds_type hk hcat)
  have hG1:∀ k,(k=gC∨k=gCa∨k=gcl 0)→own k=1:=by
   rintro k (rfl|rfl|rfl)
   ·exact hB.ow.1
   ·exact hB.ow.2.2.2
   ·exact hB.clo 0 (by omega)
  have hold:∀ k,k<W.heap.size→ownAll own W W1 1 k=own k:=fun k hk=>ownAll_old _ _ _ _ _ hk
  have hltc:∀ j,j<8→gcl j<W.heap.size:=fun j hj=>Nat.lt_of_lt_of_le (hol _ (by rw [hB.clo j hj];decide)) hsz
  obtain⟨obl,hl1,hl2⟩:=hB.lts
  have hB1:ClB W1 (ownAll own W W1 1) gC n q (theCall x) [] 1 true dv gN cN gCl cCl gCa lv hv1 gs gcl:=by
   refine⟨c1,⟨by rw [hold _ hB.cl.lt,hB.ow.1],by rw [hold _ hnp.lt,hB.ow.2.1],by rw [hold _ hcp.lt,hB.ow.2.2.1],by rw [hold _ hca.lt,hB.ow.2.2.2]⟩,⟨rN,hnp.mv c7 (dG _ _ _ hnp (by decide) (by decide) (by decide))⟩,hB.cN,⟨rC,hcp.mv c7 (dG _ _ _ hcp (by decide) (by decide) (by decide))⟩,hB.cCl,.inr ⟨by decide,q,0,c5⟩,fun j hj hj0=>(hB.cs j hj hj0).mv c7 fun hg=>?_,fun j hj=>by rw [hold _ (hltc j hj),hB.clo j hj],⟨cmdL x,rA,c4,rfl,hrA,fun _=>rfl⟩,⟨obl,hl1.mv c7 fun g hg=>?_,fun g hg=>by rw [hold _ (hl1.lt g hg),hl2 g hg]⟩,⟨fun h=>(by cases h),obh,?_,fun g hg=>ownAll_new _ _ _ _ _ (c3 g hg) (c2.lt g hg)⟩,ownAll_lt hB.lt hs7⟩
   ·rcases hg with hg|hg|hg
    ·exact (Holds.ne_of (hB.cs j hj hj0) hB.cl (by decide)) hg
    ·exact (Holds.ne_of (hB.cs j hj hj0) hca (by decide)) hg
    ·exact hB.ncl j hj hj0 hg
   ·rcases hl1.cases with⟨_,h0,_⟩|⟨g1,_,_,_,h0,_,_,hh,_⟩
    ·rw [h0] at hg;cases hg
    ·rw [h0] at hg;cases hg
     exact dG _ _ _ hh (by decide) (by decide) (by decide)
   ·have e1:flat 14 1 (histV (theCall x))=evL 1 (theCall x) 0:=flat_of_one (s:=14) (V:=histV (theCall x)) rfl
    rw [e1]
    exact c2
  have hN1:NodesAt W1 (ownAll own W W1 1) n q (theCall x) (startS n).phs 0 gs (fun _=>[]) (fun _=>false):=hN.mv c7 (fun k hk _=>by rw [hG1 k hk];decide) hold
  have hoW:∀ k,ownAll own W W1 1 k≠0→k<W1.heap.size:=hB1.lt
  have hSt:Stepped w own W1 (ownAll own W W1 1):=⟨fun k hk=>hold k (by omega),(Mv.of_below hb).mv c7 fun k hk=>.inl (by rw [hG1 k hk];decide)⟩
  obtain⟨rN1,hnp1⟩:=hB1.np
  generalize hoe:ownAll own W W1 1=own1 at hB1 hN1 hoW hSt
  refine (ccomes gC q (gs q) x (fun W'=>∃ own2,ClG W' own2 gC n q (theCall x) ⟨(List.replicate n Ph.fresh).set q (.lead [] 0),[],1,true,0⟩ (fun j=>if j=q then sendAll 1 n q else []) (fun _=>false)∧Stepped w own W' own2) (fun W'=>CmOk (theCall x)∧∃ own',ClSt W' own' gC n q (theCall x) (callS n q)∧Stepped w own W' own') W1 (fun W2 hb2=>cnode gC n gN cN q gs rN1 dv _ _ lv hv1 W2 (hB1.cl.bel hb2) (hnp1.bel hb2) hq) (fun W2 hb2=>?_) (fun W2 hR=>?_))
  ·have hsz2:=hb2.size
   have hB2:ClB W2 own1 gC n q (theCall x) [] 1 true dv gN cN gCl cCl gCa lv hv1 gs gcl:=hB1.mv (G:=fun _=>False) (.of_below hb2) (fun _ h=>h.elim) (fun _ _=>rfl) (fun k hk=>Nat.lt_of_lt_of_le (hoW k hk) hsz2)
   have hN2:NodesAt W2 own1 n q (theCall x) (startS n).phs 0 gs (fun _=>[]) (fun _=>false):=hN1.mv (G:=fun _=>False) (.of_below hb2) (fun _ h=>h.elim) (fun _ _=>rfl)
   have hnq:=hN2 q hq
   rw [startS_ph] at hnq
   refine (node_ask0 W2 (fun k=>own1 k=2+q) (gs q) n q (theCall x) 0 hnq (fun k hk=>Nat.lt_of_lt_of_le (hoW k (by omega)) hsz2) hn3 hn hq hok c6k rfl rfl).mono ?_
   rintro e W' ⟨rfl,hnc,hm⟩
   have hs3:=hm.size
   have hold2:∀ k,k<W2.heap.size→ownAll own1 W2 W' (2+q) k=own1 k:=fun k hk=>ownAll_old _ _ _ _ _ hk
   refine⟨rfl,ownAll own1 W2 W' (2+q),⟨dv,gN,cN,gCl,cCl,gCa,lv,hv1,gs,gcl,hB2.mv hm (fun k hk _=>by omega) hold2 (ownAll_lt hB2.lt hs3),fun j hj=>?_,by simp⟩,(hSt.bel hb2).trans ⟨hold2,hm.more fun k hk=>by omega⟩⟩
   by_cases hj2:j=q
   ·subst hj2
    have h9:((List.replicate n Ph.fresh).set j (.lead [] 0)).getD j .fresh=.lead [] 0:=by simp [List.getD_eq_getElem?_getD,hq]
    simp only [if_true]
    rw [h9]
    exact hnc.foot fun k hk hkl=>by
     rcases hk with hk|⟨h5,h6⟩
     ·rw [hold2 k (Nat.lt_of_lt_of_le (hoW k (by omega)) hsz2)]
      exact hk
     ·exact ownAll_new _ _ _ _ _ h5 h6
   ·have h9:((List.replicate n Ph.fresh).set q (.lead [] 0)).getD j .fresh=.fresh:=by
     have h10:=startS_ph n j
     simp only [startS,List.getD_eq_getElem?_getD] at h10
     simp only [List.getD_eq_getElem?_getD,List.getElem?_set,if_neg (Ne.symm hj2)]
     exact h10
    simp only [if_neg hj2]
    rw [h9]
    have h7:=hN2 j hj
    rw [startS_ph] at h7
    have h8:NodeC W' (fun k=>own1 k=2+j) (gs j) n j q (theCall x) .fresh [] false 0:=h7.mv hm fun k hk _ hf2=>by omega
    exact h8.foot fun k hk hkl=>by
     rw [hold2 k (Nat.lt_of_lt_of_le (hoW k (by omega)) hsz2)]
     exact hk
  ·obtain⟨own2,hG,hsp⟩:=hR
   have hlen:(sendAll 1 n q).length=n-1:=by simp [sendAll,othersOf]
   refine (out_ok0 W2 own2 gC n q q (theCall x) _ (sendAll 1 n q) _ _ hG hq (by simp) (fun j hj=>by simp [hj]) (fun j=>rfl) (fun m hm=>?_) (by simp [hlen];omega)).mono ?_
   ·simp only [sendAll,othersOf,List.mem_map,List.mem_range] at hm
    obtain⟨r,⟨i,hi,rfl⟩,rfl⟩:=hm
    show (if i<q then i else i+1)<n
    split<;>omega
   ·rintro e w' ⟨rfl,own',h5,h6⟩
    exact⟨rfl,hok,own',by simpa [callS] using h5,hsp.trans h6⟩
 ·rintro e w' (⟨rfl,h1⟩|⟨rfl,hb2,hnr⟩)
  ·exact⟨true,rfl,.inl ⟨rfl,h1⟩⟩
  ·exact⟨false,rfl,.inr ⟨rfl,hb.trans (hb2.mono hb.size),hnr⟩⟩
end
end Go.Proofs.YtimdpiifpibgfaaGreatDoor
