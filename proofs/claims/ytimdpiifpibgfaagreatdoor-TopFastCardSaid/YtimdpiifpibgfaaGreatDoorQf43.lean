/- For every input the law TopFast returns true (a part of the proof). Condition: the listed variables start as the program's text lays them. -/
import Derived.Test.YtimdpiifpibgfaaGreatDoorQf42
set_option linter.unusedVariables false
set_option linter.unusedSimpArgs false
set_option maxRecDepth 20000
set_option maxHeartbeats 16000000
namespace Go.Proofs.YtimdpiifpibgfaaGreatDoor
section
open Go.RowKit Go.Maps
def turnTs:List TypeId:=[85,47,55]
section
variable {w w':World} {own own':Nat→Nat} {gC n q:Nat} {c:Cm} {lets lets':List Lt} {hist hist':Nat} {wait wait':Bool} {dv:Value} {gN cN gCl cCl gCa:Nat} {lv hv lv' hv':Value} {gs gcl:Nat→Nat} {G:Foot}
theorem ClB.cl0 (h:ClB w own gC n q c lets hist wait dv gN cN gCl cCl gCa lv hv gs gcl):∃ L,Holds w (gcl 0) 132 L:=by
 rcases h.c0 with⟨_,_,h3⟩|⟨_,tg,tk,h3⟩
 ·exact⟨_,h3⟩
 ·exact⟨_,h3⟩
theorem ClB.ncl (h:ClB w own gC n q c lets hist wait dv gN cN gCl cCl gCa lv hv gs gcl) (j:Nat) (hj:j<8) (h0:j≠0):gcl j≠gcl 0:=by
 intro he
 have h1:=h.cs j hj h0
 rw [he] at h1
 rcases h.c0 with⟨_,_,h3⟩|⟨_,tg,tk,h3⟩ <;>
  (have e:=(h1.cell 0).symm.trans (h3.cell 0)
   simp only [clientCells,List.getElem?_cons_zero,Option.some.injEq,Value.int.injEq,true_and] at e
   omega)
theorem ClB.turn (h:ClB w own gC n q c lets hist wait dv gN cN gCl cCl gCa lv hv gs gcl) (hm:Mv G w w') (hG:∀ k,G k→k<w.heap.size→own k≠1∨(∃ t L,Holds w k t L∧t∈turnTs)∨k=gcl 0)
  (hc:Holds w' gC 85 (clusL n dv (.slice (some ⟨gN,0,none⟩) n cN) (.slice (some ⟨gCl,0,none⟩) 8 cCl) (.slice (some ⟨gCa,0,none⟩) 8 8) lv' hv'))
  (hl:∃ ob,OwnS w' lv' ob 47 51 lets'.length (flat 51 lets'.length (letV c q lets'))∧∀ g,ob=some g→own' g=1)
  (hh:NilIf hist' hv'∧∃ ob,OwnS w' hv' ob 55 14 hist' (flat 14 hist' (histV c))∧∀ g,ob=some g→own' g=1)
  (h0:(hist'=0∧wait'=false∧CAt w' (gcl 0) 1 0 Cm.zero false 0 0)∨(hist'≠0∧∃ tg tk,CAt w' (gcl 0) 1 1 c wait' tg tk)) (hhi:hist'≠0→hist≠0)
  (ho:∀ k,k<w.heap.size→own' k=own k) (hlt:∀ k,own' k≠0→k<w'.heap.size):ClB w' own' gC n q c lets' hist' wait' dv gN cN gCl cCl gCa lv' hv' gs gcl:=by
 have hcl0:=h.cl0
 have hncl:=h.ncl
 obtain⟨a1,⟨o1,o2,o3,o4⟩,⟨r1,a2⟩,a3,⟨r2,a4⟩,a5,a6,a7,a8,⟨cs,r3,a9,a10,a11,a12⟩,_,_,b6⟩:=h
 obtain⟨L0,hL0⟩:=hcl0
 have hn:∀ k t L,Holds w k t L→own k=1→t∉turnTs→t≠132→¬ G k:=fun k t L hk h1 ht ht2 hg=>by
  rcases hG k hg hk.lt with h2|⟨t',L',h2,h3⟩|h2
  ·exact h2 h1
  ·exact ht (holds_type hk h2▸h3)
  ·subst h2
   exact ht2 (holds_type hk hL0)
 refine⟨hc,⟨by rw [ho _ a1.lt,o1],by rw [ho _ a2.lt,o2],by rw [ho _ a4.lt,o3],by rw [ho _ a9.lt,o4]⟩,⟨r1,a2.mv hm (hn _ _ _ a2 o2 (by decide) (by decide))⟩,a3,⟨r2,a4.mv hm (hn _ _ _ a4 o3 (by decide) (by decide))⟩,a5,h0,fun j hj hj0=>(a7 j hj hj0).mv hm fun hg=>?_,fun j hj=>?_,⟨cs,r3,a9.mv hm (hn _ _ _ a9 o4 (by decide) (by decide)),a10,a11,fun h=>a12 (hhi h)⟩,hl,hh,hlt⟩
 ·rcases hG _ hg (a7 j hj hj0).lt with h2|⟨t',L',h2,h3⟩|h2
  ·exact h2 (a8 j hj)
  ·exact absurd (holds_type (a7 j hj hj0) h2▸h3) (by decide)
  ·exact hncl j hj hj0 h2
 ·have:gcl j<w.heap.size:=by
   by_cases h00:j=0
   ·subst h00;exact hL0.lt
   ·exact (a7 j hj h00).lt
  rw [ho _ this,a8 j hj]
end
theorem letV_app (c:Cm) (q:Nat) (a b:List Lt):flat 51 a.length (letV c q a)++flat 51 b.length (letV c q b)=flat 51 (a++b).length (letV c q (a++b)):=by
 rw [List.length_append]
 refine flat_append (by decide) (fun _ _=>rfl) (fun _ _=>rfl) (fun i hi=>?_) (fun i hi=>?_)
 ·unfold letV
  rw [List.getD_eq_getElem?_getD,List.getD_eq_getElem?_getD,List.getElem?_append_left hi]
 ·unfold letV
  rw [List.getD_eq_getElem?_getD,List.getD_eq_getElem?_getD,List.getElem?_append_right (by omega),Nat.add_sub_cancel_left]
def Stepped (w:World) (own:Nat→Nat) (w':World) (own':Nat→Nat):Prop:=(∀ k,k<w.heap.size→own' k=own k)∧Mv (fun k=>own k≠0) w w'
theorem ownAll_old (own:Nat→Nat) (w w':World) (x k:Nat) (hk:k<w.heap.size):ownAll own w w' x k=own k:=by
 unfold ownAll
 rw [if_neg (by omega)]
theorem ownAll_lt {own:Nat→Nat} {w w':World} {x:Nat} (h:∀ k,own k≠0→k<w.heap.size) (hs:w.heap.size≤w'.heap.size):∀ k,ownAll own w w' x k≠0→k<w'.heap.size:=by
 intro k hk
 unfold ownAll at hk
 split at hk
 ·rename_i h2;exact h2.2
 ·have:=h k hk
  omega
theorem ownAll_new (own:Nat→Nat) (w w':World) (x k:Nat) (h1:w.heap.size≤k) (h2:k<w'.heap.size):ownAll own w w' x k=x:=by
 unfold ownAll
 rw [if_pos ⟨h1,h2⟩]
theorem out_ok0 (w:World) (own:Nat→Nat) (gC n q i:Nat) (c:Cm) (s:Cs) (l:List Lt) (out:Nat→List Lt) (an:Nat→Bool) (h:ClG w own gC n q c s out an) (hi:i<n) (hout:out i=l) (hout2:∀ j,j≠i→out j=[]) (han:∀ j,an j=false) (hl:∀ m∈l,m.2.2<n) (hlen:s.lets.length+l.length≤1000) :
  Calls Tryz.prog 31 #[.pointer (some ⟨gC,0,none⟩),.int .i64 i] w fun e w'=>e=.returned (.tuple #[])∧∃ own',ClSt w' own' gC n q c { s with lets:=s.lets++l }∧Stepped w own w' own':=by
 obtain⟨dv,gN,cN,gCl,cCl,gCa,lv,hv,gs,gcl,hB,hN,hp⟩:=h
 have hni:=hN i hi
 rw [hout,han i] at hni
 obtain⟨rN,hnp⟩:=hB.np
 refine (cout0 gC gN n cN i s.lets.length l.length gs rN dv _ _ lv hv (flat 51 s.lets.length (letV c q s.lets)) (fun j=>(l.getD j (0,0,0)).1) (fun j=>(l.getD j (0,0,0)).2.1) (fun j=>(l.getD j (0,0,0)).2.2) q (fun j=>if (l.getD j (0,0,0)).1=2 then Cm.zero else c) (fun w w1=>NodeC w1 (fun k=>own k=2+i) (gs i) n i q c (s.phs.getD i .fresh) [] false s.tk∧own (gs i)=2+i∧Mv (fun k=>k=gs i) w w1∧(∀ ob,OwnS w1 lv ob 47 51 s.lets.length (flat 51 s.lets.length (letV c q s.lets))→∀ k,ob=some k→own k=1)) w hB.cl hnp hi hB.cN.1 (fun j hj=>?_) hlen ?_).mono ?_
 ·have hj2:l.getD j (0,0,0)∈l:=by
   rw [List.getD_eq_getElem?_getD,List.getElem?_eq_getElem hj]
   exact List.getElem_mem hj
  exact hl _ hj2
 ·refine (node_out w (fun k=>own k=2+i) (gs i) n i q c (s.phs.getD i .fresh) l false s.tk hni).mono ?_
  rintro e w1 ⟨o,a,rfl,hlo,hao,hnc,hgi,hm⟩
  obtain rfl:a=.slice none 0 0:=hao
  obtain⟨obl,hl1,hl2⟩:=hB.lts
  obtain⟨_,obo,ho1,ho2⟩:=hlo
  have hn1:∀ k,own k=1→k≠gs i:=fun k hk he=>by rw [he] at hk;omega
  refine⟨o,obo,obl,rfl,⟨hnc,hgi,hm,fun ob hob k hk=>?_⟩,hB.cl.mv hm (hn1 _ hB.ow.1),ho1,hl1.mv hm (fun g hg=>hn1 _ (hl2 g hg)),fun k hk hk2=>?_⟩
  ·have:ob=obl:=by rw [← hob.ob,← hl1.ob]
   exact hl2 k (this▸hk)
  ·have h1:=ho2 k hk
   have h2:=hl2 k hk2
   omega
 ·rintro e w' ⟨rfl,w1,obl,⟨hnc,hgi,hm1,hob1⟩,hl1,lv',ob',hc',hl',hob',hm2⟩
  have ho1:=hob1 obl hl1
  have hs1:=hm1.size
  have hs2:=hm2.size
  have hss:w.heap.size≤w'.heap.size:=Nat.le_trans hs1 hs2
  have hol:∀ k,own k≠0→k<w.heap.size:=hB.lt
  have hM:Mv (fun k=>k=gs i∨k=gC∨obl=some k) w w':=(hm1.more (G:=fun k=>k=gs i∨k=gC∨obl=some k) fun k hk=>.inl hk).mv hm2 fun k hk=>.inl (.inr hk)
  have hown':∀ g,ob'=some g→ownAll own w w' 1 g=1:=fun g hg=>by
   rcases hob' with h3|⟨k,h3,h4⟩
   ·have h5:=ho1 g (h3▸hg)
    rw [ownAll_old _ _ _ _ _ (hol g (by omega)),h5]
   ·rw [h3] at hg
    cases hg
    exact ownAll_new _ _ _ _ _ (by omega) (hl'.lt _ h3)
  have hnG:∀ k,(k=gs i∨k=gC∨obl=some k)→k<w.heap.size→own k=1∨own k=2+i:=by
   rintro k (rfl|rfl|hk) _
   ·exact .inr hgi
   ·exact .inl hB.ow.1
   ·exact .inl (ho1 k hk)
  obtain⟨oblw,hlw,hlw2⟩:=hB.lts
  have hoe:oblw=obl:=by rw [← hlw.ob,← hl1.ob]
  subst hoe
  have hGt:∀ k,(k=gs i∨k=gC∨oblw=some k)→k<w.heap.size→own k≠1∨(∃ t L,Holds w k t L∧t∈turnTs)∨k=gcl 0:=by
   rintro k (rfl|rfl|hk) _
   ·exact .inl (by omega)
   ·exact .inr (.inl ⟨_,_,hB.cl,by decide⟩)
   ·rcases hlw.cases with⟨_,h0,_⟩|⟨g1,_,_,_,h0,_,_,hh,_⟩
    ·rw [h0] at hk;cases hk
    ·rw [h0] at hk;cases hk
     exact .inr (.inl ⟨_,_,hh,by decide⟩)
  have hnT:∀ k t L,Holds w k t L→own k=1→t≠85→t≠47→¬ (k=gs i∨k=gC∨oblw=some k):=by
   rintro k t L hk h1 ht1 ht2 (rfl|rfl|hk2)
   ·omega
   ·exact ht1 (holds_type hk hB.cl)
   ·rcases hlw.cases with⟨_,h0,_⟩|⟨g1,_,_,_,h0,_,_,hh,_⟩
    ·rw [h0] at hk2;cases hk2
    ·rw [h0] at hk2;cases hk2
     exact ht2 (holds_type hk hh)
  obtain⟨hnil,obh,hh1,hh2⟩:=hB.his
  have hold:∀ k,k<w.heap.size→ownAll own w w' 1 k=own k:=fun k hk=>ownAll_old _ _ _ _ _ hk
  have hB':ClB w' (ownAll own w w' 1) gC n q c (s.lets++l) s.hist s.wait dv gN cN gCl cCl gCa lv' hv gs gcl:=by
   refine hB.turn hM hGt hc' ⟨ob',?_,hown'⟩ ⟨hnil,obh,?_,fun g hg=>by rw [hold g (hh1.lt g hg),hh2 g hg]⟩ ?_ id hold (ownAll_lt hol hss)
   ·have:=letV_app c q s.lets l
    rw [List.length_append] at this ⊢
    exact this▸hl'
   ·refine hh1.mv hM fun g hg=>?_
    rcases hh1.cases with⟨_,h0,_⟩|⟨g1,_,_,_,h0,_,_,hh,_⟩
    ·rw [h0] at hg;cases hg
    ·rw [h0] at hg;cases hg
     exact hnT _ _ _ hh (hh2 _ h0) (by decide) (by decide)
   ·rcases hB.c0 with⟨e1,e2,e3⟩|⟨e1,tg,tk,e3⟩
    ·exact .inl ⟨e1,e2,e3.mv hM (hnT _ _ _ e3 (hB.clo 0 (by omega)) (by decide) (by decide))⟩
    ·exact .inr ⟨e1,tg,tk,e3.mv hM (hnT _ _ _ e3 (hB.clo 0 (by omega)) (by decide) (by decide))⟩
  refine⟨rfl,ownAll own w w' 1,⟨dv,gN,cN,gCl,cCl,gCa,lv',hv,gs,gcl,hB',fun j hj=>?_,hp⟩,hold,hM.more fun k hk=>?_⟩
  ·by_cases hji:j=i
   ·subst hji
    have h1:NodeC w' (fun k=>own k=2+j) (gs j) n j q c (s.phs.getD j .fresh) [] false s.tk:=hnc.mv hm2 fun k hk hkl hf=>by
     rcases hk with rfl|hk
     ·have:=hB.ow.1;omega
     ·have:=ho1 k hk;omega
    exact h1.foot fun k hk _=>by rw [hold k (hol k (by omega))];exact hk
   ·have h0:=hN j hj
    rw [hout2 j hji,han j] at h0
    have h1:=h0.mv hM fun k hk hkl hf=>by
     rcases hnG k hk hkl with h|h<;>omega
    exact h1.foot fun k hk _=>by rw [hold k (hol k (by omega))];exact hk
  ·rcases hk with rfl|rfl|hk
   ·omega
   ·have:=hB.ow.1;omega
   ·have:=ho1 k hk;omega
end
section
open Go.RowKit Go.Maps
theorem out_ok1 (w:World) (own:Nat→Nat) (gC n q i:Nat) (c:Cm) (s:Cs) (l:List Lt) (out:Nat→List Lt) (an:Nat→Bool) (h:ClG w own gC n q c s out an) (hi:i<n) (hout:out i=l) (hout2:∀ j,j≠i→out j=[]) (han:an i=true) (han2:∀ j,j≠i→an j=false) (hsh:s.hist=1) (hsw:s.wait=true) (h1c:c.c=1) (h2c:c.s=1) (hl:∀ m∈l,m.2.2<n) (hlen:s.lets.length+l.length≤1000) :
  Calls Tryz.prog 31 #[.pointer (some ⟨gC,0,none⟩),.int .i64 i] w fun e w'=>e=.returned (.tuple #[])∧∃ own',ClSt w' own' gC n q c { s with lets:=s.lets++l,hist:=2,wait:=false }∧Stepped w own w' own':=by
 obtain⟨dv,gN,cN,gCl,cCl,gCa,lv,hv,gs,gcl,hB,hN,hp⟩:=h
 have hni:=hN i hi
 rw [hout,han] at hni
 obtain⟨rN,hnp⟩:=hB.np
 obtain⟨rC,hcp⟩:=hB.cp
 obtain⟨cs,rA,hca,hcs7,_,hcs⟩:=hB.calls
 have hcs2:=hcs (by omega)
 have hcm:cs=cmdL c:=by rw [hcs2];unfold Cm.cells cmdL;rw [h1c,h2c]
 subst hcm
 obtain⟨tg,tk,hcat⟩:∃ tg tk,CAt w (gcl 0) 1 1 c true tg tk:=by
  rcases hB.c0 with⟨e1,_⟩|⟨_,tg,tk,e3⟩
  ·omega
  ·exact⟨tg,tk,hsw▸e3⟩
 obtain⟨hnil,obh,hh1,hh2⟩:=hB.his
 rw [hsh] at hh1
 have hh1':OwnS w hv obh 55 14 1 (evL 1 c 0):=by
  have e1:flat 14 1 (histV c)=evL 1 c 0:=flat_of_one (s:=14) (V:=histV c) rfl
  rw [← e1]
  exact hh1
 refine (cout1 gC gN gCl cCl gCa n cN i s.lets.length l.length gcl rC rA c (verOf c) tg tk gs rN dv lv hv (flat 51 s.lets.length (letV c q s.lets)) (fun j=>(l.getD j (0,0,0)).1) (fun j=>(l.getD j (0,0,0)).2.1) (fun j=>(l.getD j (0,0,0)).2.2) q (fun j=>if (l.getD j (0,0,0)).1=2 then Cm.zero else c) (fun w w1=>NodeC w1 (fun k=>own k=2+i) (gs i) n i q c (s.phs.getD i .fresh) [] false s.tk∧own (gs i)=2+i∧Mv (fun k=>k=gs i) w w1∧(∀ ob,OwnS w1 lv ob 47 51 s.lets.length (flat 51 s.lets.length (letV c q s.lets))→∀ k,ob=some k→own k=1)∧(∀ ob,OwnS w1 hv ob 55 14 1 (evL 1 c 0)→∀ k,ob=some k→own k=1)) w hB.cl hnp hi hB.cN.1 (fun j hj=>?_) hlen ?_).mono ?_
 ·have hj2:l.getD j (0,0,0)∈l:=by
   rw [List.getD_eq_getElem?_getD,List.getElem?_eq_getElem hj]
   exact List.getElem_mem hj
  exact hl _ hj2
 ·refine (node_out w (fun k=>own k=2+i) (gs i) n i q c (s.phs.getD i .fresh) l true s.tk hni).mono ?_
  rintro e w1 ⟨o,a,rfl,hlo,hao,hnc,hgi,hm⟩
  obtain⟨oba,ha1,ha2⟩:=hao
  obtain⟨obl,hl1,hl2⟩:=hB.lts
  obtain⟨_,obo,ho1,ho2⟩:=hlo
  have hn1:∀ k,own k=1→k≠gs i:=fun k hk he=>by rw [he] at hk;omega
  refine⟨o,a,obo,obl,oba,obh,rfl,⟨hnc,hgi,hm,fun ob hob k hk=>?_,fun ob hob k hk=>?_⟩,hB.cl.mv hm (hn1 _ hB.ow.1),ho1,hl1.mv hm (fun g hg=>hn1 _ (hl2 g hg)),fun k hk hk2=>?_,ha1,hh1'.mv hm (fun g hg=>hn1 _ (hh2 g hg)),hcp.mv hm (hn1 _ hB.ow.2.2.1),hca.mv hm (hn1 _ hB.ow.2.2.2),hcat.mv hm (hn1 _ (hB.clo 0 (by omega)))⟩
  ·have:ob=obl:=by rw [← hob.ob,← hl1.ob]
   exact hl2 k (this▸hk)
  ·have:ob=obh:=by rw [← hob.ob,← hh1'.ob]
   exact hh2 k (this▸hk)
  ·have h1:=ho2 k hk
   have h2:=hl2 k hk2
   omega
 ·rintro e w' ⟨rfl,w1,obl,obh',⟨hnc,hgi,hm1,hob1,hobh1⟩,hl1,hhx1,lv',ob',hv',obh2,hc',hl',hob',hhv',hobh',hcat',hm2⟩
  obtain rfl:obh'=obh:=by rw [← hhx1.ob,← hh1'.ob]
  have ho1:=hob1 obl hl1
  have hs1:=hm1.size
  have hs2:=hm2.size
  have hss:w.heap.size≤w'.heap.size:=Nat.le_trans hs1 hs2
  have hol:∀ k,own k≠0→k<w.heap.size:=hB.lt
  have hM:Mv (fun k=>k=gs i∨k=gC∨obl=some k∨obh'=some k∨k=gcl 0) w w':=(hm1.more (G:=fun k=>k=gs i∨k=gC∨obl=some k∨obh'=some k∨k=gcl 0) fun k hk=>.inl hk).mv hm2 fun k hk=>.inl (.inr hk)
  have hown':∀ g,ob'=some g→ownAll own w w' 1 g=1:=fun g hg=>by
   rcases hob' with h3|⟨k,h3,h4⟩
   ·have h5:=ho1 g (h3▸hg)
    rw [ownAll_old _ _ _ _ _ (hol g (by omega)),h5]
   ·rw [h3] at hg
    cases hg
    exact ownAll_new _ _ _ _ _ (by omega) (hl'.lt _ h3)
  have hnG:∀ k,(k=gs i∨k=gC∨obl=some k∨obh'=some k∨k=gcl 0)→k<w.heap.size→own k=1∨own k=2+i:=by
   rintro k (rfl|rfl|hk|hk|rfl) _
   ·exact .inr hgi
   ·exact .inl hB.ow.1
   ·exact .inl (ho1 k hk)
   ·exact .inl (hh2 k hk)
   ·exact .inl (hB.clo 0 (by omega))
  have hownh:∀ g,obh2=some g→ownAll own w w' 1 g=1:=fun g hg=>by
   rcases hobh' with h3|⟨k,h3,h4⟩
   ·have h5:=hh2 g (h3▸hg)
    rw [ownAll_old _ _ _ _ _ (hol g (by omega)),h5]
   ·rw [h3] at hg
    cases hg
    exact ownAll_new _ _ _ _ _ (by omega) (hhv'.lt _ h3)
  obtain⟨oblw,hlw,hlw2⟩:=hB.lts
  have hoe:oblw=obl:=by rw [← hlw.ob,← hl1.ob]
  subst hoe
  have hGt:∀ k,(k=gs i∨k=gC∨oblw=some k∨obh'=some k∨k=gcl 0)→k<w.heap.size→own k≠1∨(∃ t L,Holds w k t L∧t∈turnTs)∨k=gcl 0:=by
   rintro k (rfl|rfl|hk|hk|rfl) _
   ·exact .inl (by omega)
   ·exact .inr (.inl ⟨_,_,hB.cl,by decide⟩)
   rotate_left
   ·rcases hh1'.cases with⟨_,h0,_⟩|⟨g1,_,_,_,h0,_,_,hh,_⟩
    ·rw [h0] at hk;cases hk
    ·rw [h0] at hk;cases hk
     exact .inr (.inl ⟨_,_,hh,by decide⟩)
   ·exact .inr (.inr rfl)
   ·rcases hlw.cases with⟨_,h0,_⟩|⟨g1,_,_,_,h0,_,_,hh,_⟩
    ·rw [h0] at hk;cases hk
    ·rw [h0] at hk;cases hk
     exact .inr (.inl ⟨_,_,hh,by decide⟩)
  have hold:∀ k,k<w.heap.size→ownAll own w w' 1 k=own k:=fun k hk=>ownAll_old _ _ _ _ _ hk
  have hB':ClB w' (ownAll own w w' 1) gC n q c (s.lets++l) 2 false dv gN cN gCl cCl gCa lv' hv' gs gcl:=by
   refine hB.turn hM hGt hc' ⟨ob',?_,hown'⟩ ⟨fun h=>(by omega),obh2,?_,hownh⟩ (.inr ⟨by omega,tg,tk,hcat'⟩) (fun _=>by omega) hold (ownAll_lt hol hss)
   ·have:=letV_app c q s.lets l
    rw [List.length_append] at this ⊢
    exact this▸hl'
   ·rw [flat_hist]
    exact hhv'
  refine⟨rfl,ownAll own w w' 1,⟨dv,gN,cN,gCl,cCl,gCa,lv',hv',gs,gcl,hB',fun j hj=>?_,hp⟩,hold,hM.more fun k hk=>?_⟩
  ·by_cases hji:j=i
   ·subst hji
    have h1:NodeC w' (fun k=>own k=2+j) (gs j) n j q c (s.phs.getD j .fresh) [] false s.tk:=hnc.mv hm2 fun k hk hkl hf=>by
     rcases hk with rfl|hk|hk|rfl
     ·have:=hB.ow.1;omega
     ·have:=ho1 k hk;omega
     ·have:=hh2 k hk;omega
     ·have:=hB.clo 0 (by omega);omega
    exact h1.foot fun k hk _=>by rw [hold k (hol k (by omega))];exact hk
   ·have h0:=hN j hj
    rw [hout2 j hji,han2 j hji] at h0
    have h1:=h0.mv hM fun k hk hkl hf=>by
     rcases hnG k hk hkl with h|h<;>omega
    exact h1.foot fun k hk _=>by rw [hold k (hol k (by omega))];exact hk
  ·rcases hk with rfl|rfl|hk|hk|rfl
   ·omega
   ·have:=hB.ow.1;omega
   ·have:=ho1 k hk;omega
   ·have:=hh2 k hk;omega
   ·have:=hB.clo 0 (by omega);omega
end
section
open Go.RowKit Go.Maps
def stepL (k nn:Int):List Value:=[.int .i64 k,.int .i64 nn,.int .i64 0,.int .i64 0,.int .i64 0,.int .i64 0,.int .i64 0,.string ⟨#[]⟩,.string ⟨#[]⟩,.string ⟨#[]⟩,.string ⟨#[]⟩,.slice none 0 0]
def Off (gC n:Nat) (dv nv clv cav hv:Value) (gl m cap:Nat) (L:List Value) (w W:World):Prop:=Holds W gC 85 (clusL n dv nv clv cav (.slice (some ⟨gl,0,none⟩) m cap) hv)∧OwnS W (.slice (some ⟨gl,0,none⟩) m cap) (some gl) 47 51 m L∧Mv (fun k=>k=gC∨k=gl) w W
theorem Off.bel {gC n:Nat} {dv nv clv cav hv:Value} {gl m cap:Nat} {L:List Value} {w W W':World} (h:Off gC n dv nv clv cav hv gl m cap L w W) (hb:Below W.heap.size W W'):Off gC n dv nv clv cav hv gl m cap L w W':=⟨h.1.bel hb,h.2.1.bel hb,h.2.2.bel hb⟩
theorem clet_lose (gC gN n cN gl m cap:Nat) (gs:Nat→Nat) (rN:List Value) (kk f t q:Nat) (x:Cm) (dv clv cav hv:Value) (L:List Value) (w:World)
  (h:Holds w gC 85 (clusL n dv (.slice (some ⟨gN,0,none⟩) n cN) clv cav (.slice (some ⟨gl,0,none⟩) (m+1:Nat) cap) hv)) (hN:Holds w gN 59 (ptrs n gs++rN)) (ht:t<n)
  (hl:OwnS w (.slice (some ⟨gl,0,none⟩) (m+1:Nat) cap) (some gl) 47 51 (m+1) (letL kk f t q x++L)) (h1:∀ u∈L,u.oneCell'=true) (hm:m≤2000) :
  Calls Tryz.prog 27 #[.pointer (some ⟨gC,0,none⟩),.agg (stepL 4 0).toArray] w fun e w'=>e=.returned (.bool true)∧Off gC n dv (.slice (some ⟨gN,0,none⟩) n cN) clv cav hv gl m cap L w w':=by
 have hgt:gl≠gC∧gN≠gC∧gN≠gl:=by
  obtain⟨g1,_,_,_,h0,_,_,hh,_⟩:=hl.blk (Nat.succ_pos m)
  cases h0
  exact⟨hh.ne_of h (by decide),hN.ne_of h (by decide),hN.ne_of hh (by decide)⟩
 obtain⟨gl',cap',rl,hv',hob',hcl1,hcl2,hLH,_⟩:=hl.blk (Nat.succ_pos m)
 cases hob'
 injection hv' with _ _ hcq
 subst hcq
 have HLH:=qh hLH
 have KD:=qh (fun W (h:OwnS W (.slice (some ⟨gl,0,none⟩) (m+1:Nat) cap) (some gl) 47 51 (m+1) (letL kk f t q x++L))=>del_first gl cap m _ L W h rfl h1 (by omega))
 have KN:=qh (fun W lv' h hN=>cnode gC n gN cN t gs rN dv clv cav lv' hv W h hN ht)
 have HC:=qh h;have HN:=qh hN;have HL:=qh hl
 have HM:=qh (Mv.refl (fun k=>k=gC∨k=gl) w)
 have hlen0:(0:Int)<((m+1:Nat):Int):=by omega
 have hm1:((m+1:Nat):Int)=(m:Int)+1:=by omega
 clear h hN hl hLH h1
 go_enter Tryz.func27,Tryz.ntmps27
 go_upto_region 1 with (fail)
 go_name_world W hW
 have hW:allocs w [.cells (stepL 4 0:List Value).toArray 32]=W:=hW
 have HS:=qh (show Holds W (w.heap.size) 32 (stepL 4 0) from holds_allocs _ hW 0 rfl)
 have hbW:=below_allocs _ hW
 have hsW:=size_allocs _ hW
 simp only [List.length_cons,List.length_nil] at hsW
 clear hW
 have HC:=qh (HC.out.bel hbW)
 have HN:=qh (HN.out.bel hbW)
 have HL:=qh (HL.out.bel hbW)
 have HM:=qh (HM.out.bel hbW)
 have HLH:=qh (HLH.out.bel hbW)
 clear hbW
 have hgS:w.heap.size≠gC∧w.heap.size≠gl:=⟨HS.out.ne_of HC.out (by decide),by have:=HL.out.lt gl rfl;have h9:=HS.out.ne_of HLH.out (by decide);exact h9⟩
 generalize w.heap.size=gS at HS hgS ⊢
 clear hsW
 have s1:=HS.out.cell 1
 simp only [stepL,yA,yB] at s1
 have c5:=HC.out.cell 5
 simp only [clusL,yA,yB] at c5
 go_quiet (fail)
 have hb1:Below W.heap.size W (W.drewN nq):=t_drewN _ _ _
 have HC:=qh (HC.out.bel hb1)
 have HN:=qh (HN.out.bel hb1)
 have HL:=qh (HL.out.bel hb1)
 have HM:=qh (HM.out.bel hb1)
 have HLH:=qh (HLH.out.bel hb1)
 have HS:=qh (HS.out.bel hb1)
 clear hb1 s1 c5
 generalize W.drewN nq=w1 at HC HN HL HM HLH HS ⊢
 have hsw1:=HM.out.size
 have hgl1:gl<w1.heap.size∧gC<w1.heap.size:=⟨HL.out.lt gl rfl,HC.out.lt⟩
 go_upto_region 3 with (fail)
 have HR1:=qh (grown_range (cs:=letL kk f t q x) HLH.out 0 (by intro j v hv;rw [Nat.zero_add,List.append_assoc,List.getElem?_append_left (List.getElem?_eq_some_iff.1 hv).1];exact hv))
 refine' wp_region_boxes [⟨8,9,5,27,47,letZ,letL kk f t q x⟩] (by kernel_rfl) (by kernel_rfl) (by kernel_rfl) ?z11 ?z21 ?bd1 _ ?h1 ?val1 ?fin1
 case z11=>
  intro x hx
  simp only [List.mem_cons,List.not_mem_nil,or_false] at hx
  subst hx
  ·exact⟨.agg (letZ:List Value).toArray,by kernel_rfl,rfl⟩
 case z21=>
  intro x hx
  simp only [List.mem_cons,List.not_mem_nil,or_false] at hx
  subst hx
  ·exact⟨by kernel_rfl,rfl,letL_one' _ _ _ _ _⟩
 case bd1=>
  intro x hx
  simp only [List.mem_cons,List.not_mem_nil,or_false] at hx
  subst hx
  ·simp
 case h1=>
  intro W0 hW0
  have HC:=qh (HC.out.bel hW0)
  have HN:=qh (HN.out.bel hW0)
  have HL:=qh (HL.out.bel hW0)
  have HM:=qh (HM.out.bel hW0)
  have HLH:=qh (HLH.out.bel hW0)
  have HS:=qh (HS.out.bel hW0)
  have c0_5:=fun d os=>HC.out.grown d os 5
  simp only [clusL,yA,yB] at c0_5
  have c1_1:=fun d os=>HS.out.grown d os 1
  simp only [stepL,yA,yB] at c1_1
  have HR2:=qh (grown_range (cs:=letL kk f t q x) HLH.out 0 (by intro j v hv;rw [Nat.zero_add,List.append_assoc,List.getElem?_append_left (List.getElem?_eq_some_iff.1 hv).1];exact hv))
  simp only [List.map_cons,List.map_nil,hushOp]
  repeat (first
  | (with_reducible show wpQuiet _ _ _ _ (_ :: _) _;refine wpQuiet_load_guarded (by kernel_rfl) 47 _ rfl gl 0 rfl (letL kk f t q x) _ HR2.out Tryz.underlying47 rfl (by kernel_rfl) ?_;simp only [Act.put,List.setIfInBounds_toArray,List.set_cons_succ,List.set_cons_zero])
  | go_big_quiet_step (first
   | fail))
  refine wpQuiet_nil ?_
  intro w' _
  exact rfl
 case val1=>
  intro x hx
  simp only [List.mem_cons,List.not_mem_nil,or_false] at hx
  subst hx
  ·rfl
 intro β w4 hb hx hne
 have hx5:=hx _ List.mem_cons_self
 clear hx hne
 simp only [] at hx5
 simp only [patch,List.foldl,Act.put,List.setIfInBounds_toArray,List.set_cons_zero,List.set_cons_succ]
 have HC:=qh (HC.out.bel hb)
 have HN:=qh (HN.out.bel hb)
 have HL:=qh (HL.out.bel hb)
 have HM:=qh (HM.out.bel hb)
 have HLH:=qh (HLH.out.bel hb)
 have HS:=qh (HS.out.bel hb)
 generalize β 5=g5 at hx5 ⊢
 have H5:=qh hx5.2
 have hge5:=hx5.1
 clear hx5
 clear hb
 have hg5:g5≠gC∧g5≠gl:=by omega
 have hw5:w.heap.size≤g5:=by omega
 clear HR1 HLH
 have s0:=HS.out.cell 0
 simp only [stepL,yA,yB] at s0
 go_upto_region 5 with (fail)
 clear s0
 have HC:=qh (HC.out.bel (t_drew _ w4))
 have HN:=qh (HN.out.bel (t_drew _ w4))
 have HL:=qh (HL.out.bel (t_drew _ w4))
 have HM:=qh (HM.out.bel (t_drew _ w4))
 have HS:=qh (HS.out.bel (t_drew _ w4))
 have H5:=qh (H5.out.bel (t_drew _ w4))
 refine wp_region_noPanic ?_
 refine wp_region_late (S:=fun W'=>Below w4.drew.heap.size w4.drew W') (X0:=[10,13]) (by as_aux_lemma=>kernel_rfl) ?_
 generalize w4.drew=wd at HC HN HL HM HS H5 ⊢
 have hSn:Below wd.heap.size wd wd:=Below.refl _ _
 change wpAnyL _ _ _ _ _ _ 14 #[false,false,false,false,false,false,false,false,false,false,false,false,false,false] _ _
 refine mvA 0 (some 31) (fun _=>hSn) ?_
 simp only [Act.put,zA,zB,zC]
 refine mvA 1 (some 32) (fun _=>hSn) ?_
 simp only [Act.put,zA,zB,zC]
 refine mvA 2 (some 33) (fun _=>hSn) ?_
 simp only [Act.put,zA,zB,zC]
 refine mvA 3 (some 34) (fun _=>hSn) ?_
 simp only [Act.put,zA,zB,zC]
 refine tkA 4 [10,11,12,13] (some 35) (?vg5) rfl (Or.inl ⟨by rfl,?hg5⟩) hSn ?rg5
 case hg5=>
  intro w hSw
  have b5:=(HC.out.bel hSw).cell 5
  simp only [clusL,yA,yB] at b5
  go_simp
  try with_reducible rfl
 simp only [Act.put,zA,zB,zC]
 refine mvA 5 (some 36) (fun _=>hSn) ?_
 simp only [Act.put,zA,zB,zC]
 refine tkA 6 [10,11,12,13] (some 37) (?vg7) rfl (Or.inl ⟨by rfl,?hg7⟩) hSn ?rg7
 case hg7=>
  intro w hSw
  have b1:=(HS.out.bel hSw).cell 1
  simp only [stepL,yA,yB] at b1
  go_simp
  try with_reducible rfl
 simp only [Act.put,zA,zB,zC]
 refine mvA 7 (some 38) (fun _=>hSn) ?_
 simp only [Act.put,zA,zB,zC]
 refine tkA 8 [9,10,11,12,13] (some 39) (?vg9) rfl (Or.inl ⟨by rfl,?hg9⟩) hSn ?rg9
 case hg9=>
  intro w hSw
  have b1:=(HS.out.bel hSw).cell 1
  simp only [stepL,yA,yB] at b1
  go_simp
  try with_reducible rfl
 simp only [Act.put,zA,zB,zC]
 refine mvA 9 (some 40) (fun _=>hSn) ?_
 simp only [Act.put,zA,zB,zC]
 refine rd1 10 rfl (fun K hK=>?_)
 go_simp
 refine (KD.out _ (HL.out.bel hSn)).mono ?_
 rintro e w5 ⟨rfl,hl5,ht5⟩
 have hm5:Mv (fun k=>k=gl) _ w5:=Mv.of_touch ht5 rfl
 have HC:=qh ((HC.out.bel hSn).mv hm5 (Ne.symm hgt.1))
 have HN:=qh ((HN.out.bel hSn).mv hm5 hgt.2.2)
 have HS:=qh ((HS.out.bel hSn).mv hm5 hgS.2)
 have H5:=qh ((H5.out.bel hSn).mv hm5 hg5.2)
 have HM:=qh ((HM.out.bel hSn).mv hm5 (fun k hk=>.inl (.inr hk)))
 have HL:=qh hl5
 clear hl5 ht5 hm5
 refine hK.out _ _ nlA ?_
 clear hK
 try simp only [Act.put,zA,zB,zC]
 refine mvA 11 (some 42) nlA ?_
 simp only [Act.put,zA,zB,zC]
 refine mvA 12 (some 43) nlA ?_
 simp only [Act.put,zA,zB,zC]
 refine rd1 13 rfl (fun K hK=>?_)
 refine step_store_cell rfl 34 (.tmp 43) (.tmp 41) rfl rfl gC 5 85 _ HC.out (by simp [clusL]) rfl (.slice (some ⟨gl,0,none⟩) m cap) rfl rfl (by kernel_rfl) rfl ?_
 intro w6 hh6 ht6
 have hm6:Mv (fun k=>k=gC) w5 w6:=Mv.of_touch ht6 rfl
 have HC:=qh (show Holds w6 gC 85 (clusL n dv (.slice (some ⟨gN,0,none⟩) n cN) clv cav (.slice (some ⟨gl,0,none⟩) m cap) hv) from hh6)
 have HN:=qh (HN.out.mv hm6 hgt.2.1)
 have HS:=qh (HS.out.mv hm6 hgS.1)
 have H5:=qh (H5.out.mv hm6 hg5.1)
 have HL:=qh (HL.out.mv hm6 (fun k hk=>by cases hk;exact hgt.1))
 have HM:=qh (HM.out.mv hm6 (fun k hk=>.inl (.inl hk)))
 clear hh6 ht6 hm6
 refine hK.out _ _ nlA ?_
 clear hK
 try simp only [Act.put,zA,zB,zC]
 refine dnA (NoPanic.normal ?_)
 clear hSn
 have y2:=H5.out.cell 2
 simp only [letL,yA,yB] at y2
 go_wp2_with fail
 refine (KN.out _ _ HC.out HN.out).mono ?_
 rintro e w7 ⟨rfl,hb7⟩
 have HOF:=qh (show Off gC n dv (.slice (some ⟨gN,0,none⟩) n cN) clv cav hv gl m cap L w w6 from ⟨HC.out,HL.out,HM.out⟩)
 have HOF:=qh (HOF.out.bel hb7)
 have HS:=qh (HS.out.bel hb7)
 have H5:=qh (H5.out.bel hb7)
 clear hb7 y2 HC HN HL HM
 have s0:=HS.out.cell 0
 simp only [stepL,yA,yB] at s0
 go_wp2_with fail
 go_ret
 exact⟨rfl,HOF.out⟩
theorem clet_give (gC gN n cN gl m cap:Nat) (gs:Nat→Nat) (rN:List Value) (kk f t q:Nat) (x:Cm) (dv clv cav hv:Value) (L:List Value) (R6 R7:World→Prop) (w:World)
  (h:Holds w gC 85 (clusL n dv (.slice (some ⟨gN,0,none⟩) n cN) clv cav (.slice (some ⟨gl,0,none⟩) (m+1:Nat) cap) hv)) (hN:Holds w gN 59 (ptrs n gs++rN)) (ht:t<n)
  (hl:OwnS w (.slice (some ⟨gl,0,none⟩) (m+1:Nat) cap) (some gl) 47 51 (m+1) (letL kk f t q x++L)) (h1:∀ u∈L,u.oneCell'=true) (hm:m≤2000)
  (KT:∀ W,Off gC n dv (.slice (some ⟨gN,0,none⟩) n cN) clv cav hv gl m cap L w W→Calls Tryz.prog 50 #[.pointer (some ⟨gs t,0,none⟩),.agg (letL kk f t q x).toArray] W fun e W'=>(∃ b,e=.returned (.bool b))∧R6 W'∧∀ g L,w.heap.size≤g→Holds W g 47 L→Holds W' g 47 L)
  (KO:∀ W,R6 W→Calls Tryz.prog 31 #[.pointer (some ⟨gC,0,none⟩),.int .i64 t] W fun e W'=>e=.returned (.tuple #[])∧R7 W') :
  Calls Tryz.prog 27 #[.pointer (some ⟨gC,0,none⟩),.agg (stepL 2 0).toArray] w fun e w'=>e=.returned (.bool true)∧R7 w':=by
 have hgt:gl≠gC∧gN≠gC∧gN≠gl:=by
  obtain⟨g1,_,_,_,h0,_,_,hh,_⟩:=hl.blk (Nat.succ_pos m)
  cases h0
  exact⟨hh.ne_of h (by decide),hN.ne_of h (by decide),hN.ne_of hh (by decide)⟩
 obtain⟨gl',cap',rl,hv',hob',hcl1,hcl2,hLH,_⟩:=hl.blk (Nat.succ_pos m)
 cases hob'
 injection hv' with _ _ hcq
 subst hcq
 have HLH:=qh hLH
 have KD:=qh (fun W (h:OwnS W (.slice (some ⟨gl,0,none⟩) (m+1:Nat) cap) (some gl) 47 51 (m+1) (letL kk f t q x++L))=>del_first gl cap m _ L W h rfl h1 (by omega))
 have KN:=qh (fun W lv' h hN=>cnode gC n gN cN t gs rN dv clv cav lv' hv W h hN ht)
 have KT:=qh KT;have KO:=qh KO
 have HC:=qh h;have HN:=qh hN;have HL:=qh hl
 have HM:=qh (Mv.refl (fun k=>k=gC∨k=gl) w)
 have hlen0:(0:Int)<((m+1:Nat):Int):=by omega
 have hm1:((m+1:Nat):Int)=(m:Int)+1:=by omega
 clear h hN hl hLH h1
 go_enter Tryz.func27,Tryz.ntmps27
 go_upto_region 1 with (fail)
 go_name_world W hW
 have hW:allocs w [.cells (stepL 2 0:List Value).toArray 32]=W:=hW
 have HS:=qh (show Holds W (w.heap.size) 32 (stepL 2 0) from holds_allocs _ hW 0 rfl)
 have hbW:=below_allocs _ hW
 have hsW:=size_allocs _ hW
 simp only [List.length_cons,List.length_nil] at hsW
 clear hW
 have HC:=qh (HC.out.bel hbW)
 have HN:=qh (HN.out.bel hbW)
 have HL:=qh (HL.out.bel hbW)
 have HM:=qh (HM.out.bel hbW)
 have HLH:=qh (HLH.out.bel hbW)
 clear hbW
 have hgS:w.heap.size≠gC∧w.heap.size≠gl:=⟨HS.out.ne_of HC.out (by decide),by have:=HL.out.lt gl rfl;have h9:=HS.out.ne_of HLH.out (by decide);exact h9⟩
 generalize w.heap.size=gS at HS hgS ⊢
 clear hsW
 have s1:=HS.out.cell 1
 simp only [stepL,yA,yB] at s1
 have c5:=HC.out.cell 5
 simp only [clusL,yA,yB] at c5
 go_quiet (fail)
 have hb1:Below W.heap.size W (W.drewN nq):=t_drewN _ _ _
 have HC:=qh (HC.out.bel hb1)
 have HN:=qh (HN.out.bel hb1)
 have HL:=qh (HL.out.bel hb1)
 have HM:=qh (HM.out.bel hb1)
 have HLH:=qh (HLH.out.bel hb1)
 have HS:=qh (HS.out.bel hb1)
 clear hb1 s1 c5
 generalize W.drewN nq=w1 at HC HN HL HM HLH HS ⊢
 have hsw1:=HM.out.size
 have hgl1:gl<w1.heap.size∧gC<w1.heap.size:=⟨HL.out.lt gl rfl,HC.out.lt⟩
 go_upto_region 3 with (fail)
 have HR1:=qh (grown_range (cs:=letL kk f t q x) HLH.out 0 (by intro j v hv;rw [Nat.zero_add,List.append_assoc,List.getElem?_append_left (List.getElem?_eq_some_iff.1 hv).1];exact hv))
 refine' wp_region_boxes [⟨8,9,5,27,47,letZ,letL kk f t q x⟩] (by kernel_rfl) (by kernel_rfl) (by kernel_rfl) ?z12 ?z22 ?bd2 _ ?h2 ?val2 ?fin2
 case z12=>
  intro x hx
  simp only [List.mem_cons,List.not_mem_nil,or_false] at hx
  subst hx
  ·exact⟨.agg (letZ:List Value).toArray,by kernel_rfl,rfl⟩
 case z22=>
  intro x hx
  simp only [List.mem_cons,List.not_mem_nil,or_false] at hx
  subst hx
  ·exact⟨by kernel_rfl,rfl,letL_one' _ _ _ _ _⟩
 case bd2=>
  intro x hx
  simp only [List.mem_cons,List.not_mem_nil,or_false] at hx
  subst hx
  ·simp
 case h2=>
  intro W0 hW0
  have HC:=qh (HC.out.bel hW0)
  have HN:=qh (HN.out.bel hW0)
  have HL:=qh (HL.out.bel hW0)
  have HM:=qh (HM.out.bel hW0)
  have HLH:=qh (HLH.out.bel hW0)
  have HS:=qh (HS.out.bel hW0)
  have c0_5:=fun d os=>HC.out.grown d os 5
  simp only [clusL,yA,yB] at c0_5
  have c1_1:=fun d os=>HS.out.grown d os 1
  simp only [stepL,yA,yB] at c1_1
  have HR2:=qh (grown_range (cs:=letL kk f t q x) HLH.out 0 (by intro j v hv;rw [Nat.zero_add,List.append_assoc,List.getElem?_append_left (List.getElem?_eq_some_iff.1 hv).1];exact hv))
  simp only [List.map_cons,List.map_nil,hushOp]
  repeat (first
  | (with_reducible show wpQuiet _ _ _ _ (_ :: _) _;refine wpQuiet_load_guarded (by kernel_rfl) 47 _ rfl gl 0 rfl (letL kk f t q x) _ HR2.out Tryz.underlying47 rfl (by kernel_rfl) ?_;simp only [Act.put,List.setIfInBounds_toArray,List.set_cons_succ,List.set_cons_zero])
  | go_big_quiet_step (first
   | fail))
  refine wpQuiet_nil ?_
  intro w' _
  exact rfl
 case val2=>
  intro x hx
  simp only [List.mem_cons,List.not_mem_nil,or_false] at hx
  subst hx
  ·rfl
 intro β w4 hb hx hne
 have hx5:=hx _ List.mem_cons_self
 clear hx hne
 simp only [] at hx5
 simp only [patch,List.foldl,Act.put,List.setIfInBounds_toArray,List.set_cons_zero,List.set_cons_succ]
 have HC:=qh (HC.out.bel hb)
 have HN:=qh (HN.out.bel hb)
 have HL:=qh (HL.out.bel hb)
 have HM:=qh (HM.out.bel hb)
 have HLH:=qh (HLH.out.bel hb)
 have HS:=qh (HS.out.bel hb)
 generalize β 5=g5 at hx5 ⊢
 have H5:=qh hx5.2
 have hge5:=hx5.1
 clear hx5
 clear hb
 have hg5:g5≠gC∧g5≠gl:=by omega
 have hw5:w.heap.size≤g5:=by omega
 clear HR1 HLH
 have s0:=HS.out.cell 0
 simp only [stepL,yA,yB] at s0
 go_upto_region 5 with (fail)
 clear s0
 have HC:=qh (HC.out.bel (t_drew _ w4))
 have HN:=qh (HN.out.bel (t_drew _ w4))
 have HL:=qh (HL.out.bel (t_drew _ w4))
 have HM:=qh (HM.out.bel (t_drew _ w4))
 have HS:=qh (HS.out.bel (t_drew _ w4))
 have H5:=qh (H5.out.bel (t_drew _ w4))
 refine wp_region_noPanic ?_
 refine wp_region_late (S:=fun W'=>Below w4.drew.heap.size w4.drew W') (X0:=[10,13]) (by as_aux_lemma=>kernel_rfl) ?_
 generalize w4.drew=wd at HC HN HL HM HS H5 ⊢
 have hSn:Below wd.heap.size wd wd:=Below.refl _ _
 change wpAnyL _ _ _ _ _ _ 14 #[false,false,false,false,false,false,false,false,false,false,false,false,false,false] _ _
 refine mvA 0 (some 31) (fun _=>hSn) ?_
 simp only [Act.put,zA,zB,zC]
 refine mvA 1 (some 32) (fun _=>hSn) ?_
 simp only [Act.put,zA,zB,zC]
 refine mvA 2 (some 33) (fun _=>hSn) ?_
 simp only [Act.put,zA,zB,zC]
 refine mvA 3 (some 34) (fun _=>hSn) ?_
 simp only [Act.put,zA,zB,zC]
 refine tkA 4 [10,11,12,13] (some 35) (?vg17) rfl (Or.inl ⟨by rfl,?hg17⟩) hSn ?rg17
 case hg17=>
  intro w hSw
  have b5:=(HC.out.bel hSw).cell 5
  simp only [clusL,yA,yB] at b5
  go_simp
  try with_reducible rfl
 simp only [Act.put,zA,zB,zC]
 refine mvA 5 (some 36) (fun _=>hSn) ?_
 simp only [Act.put,zA,zB,zC]
 refine tkA 6 [10,11,12,13] (some 37) (?vg19) rfl (Or.inl ⟨by rfl,?hg19⟩) hSn ?rg19
 case hg19=>
  intro w hSw
  have b1:=(HS.out.bel hSw).cell 1
  simp only [stepL,yA,yB] at b1
  go_simp
  try with_reducible rfl
 simp only [Act.put,zA,zB,zC]
 refine mvA 7 (some 38) (fun _=>hSn) ?_
 simp only [Act.put,zA,zB,zC]
 refine tkA 8 [9,10,11,12,13] (some 39) (?vg21) rfl (Or.inl ⟨by rfl,?hg21⟩) hSn ?rg21
 case hg21=>
  intro w hSw
  have b1:=(HS.out.bel hSw).cell 1
  simp only [stepL,yA,yB] at b1
  go_simp
  try with_reducible rfl
 simp only [Act.put,zA,zB,zC]
 refine mvA 9 (some 40) (fun _=>hSn) ?_
 simp only [Act.put,zA,zB,zC]
 refine rd1 10 rfl (fun K hK=>?_)
 go_simp
 refine (KD.out _ (HL.out.bel hSn)).mono ?_
 rintro e w5 ⟨rfl,hl5,ht5⟩
 have hm5:Mv (fun k=>k=gl) _ w5:=Mv.of_touch ht5 rfl
 have HC:=qh ((HC.out.bel hSn).mv hm5 (Ne.symm hgt.1))
 have HN:=qh ((HN.out.bel hSn).mv hm5 hgt.2.2)
 have HS:=qh ((HS.out.bel hSn).mv hm5 hgS.2)
 have H5:=qh ((H5.out.bel hSn).mv hm5 hg5.2)
 have HM:=qh ((HM.out.bel hSn).mv hm5 (fun k hk=>.inl (.inr hk)))
 have HL:=qh hl5
 clear hl5 ht5 hm5
 refine hK.out _ _ nlA ?_
 clear hK
 try simp only [Act.put,zA,zB,zC]
 refine mvA 11 (some 42) nlA ?_
 simp only [Act.put,zA,zB,zC]
 refine mvA 12 (some 43) nlA ?_
 simp only [Act.put,zA,zB,zC]
 refine rd1 13 rfl (fun K hK=>?_)
 refine step_store_cell rfl 34 (.tmp 43) (.tmp 41) rfl rfl gC 5 85 _ HC.out (by simp [clusL]) rfl (.slice (some ⟨gl,0,none⟩) m cap) rfl rfl (by kernel_rfl) rfl ?_
 intro w6 hh6 ht6
 have hm6:Mv (fun k=>k=gC) w5 w6:=Mv.of_touch ht6 rfl
 have HC:=qh (show Holds w6 gC 85 (clusL n dv (.slice (some ⟨gN,0,none⟩) n cN) clv cav (.slice (some ⟨gl,0,none⟩) m cap) hv) from hh6)
 have HN:=qh (HN.out.mv hm6 hgt.2.1)
 have HS:=qh (HS.out.mv hm6 hgS.1)
 have H5:=qh (H5.out.mv hm6 hg5.1)
 have HL:=qh (HL.out.mv hm6 (fun k hk=>by cases hk;exact hgt.1))
 have HM:=qh (HM.out.mv hm6 (fun k hk=>.inl (.inl hk)))
 clear hh6 ht6 hm6
 refine hK.out _ _ nlA ?_
 clear hK
 try simp only [Act.put,zA,zB,zC]
 refine dnA (NoPanic.normal ?_)
 clear hSn
 have y2:=H5.out.cell 2
 simp only [letL,yA,yB] at y2
 go_wp2_with fail
 refine (KN.out _ _ HC.out HN.out).mono ?_
 rintro e w7 ⟨rfl,hb7⟩
 have HOF:=qh (show Off gC n dv (.slice (some ⟨gN,0,none⟩) n cN) clv cav hv gl m cap L w w6 from ⟨HC.out,HL.out,HM.out⟩)
 have HOF:=qh (HOF.out.bel hb7)
 have HS:=qh (HS.out.bel hb7)
 have H5:=qh (H5.out.bel hb7)
 clear hb7 y2 HC HN HL HM
 have s0:=HS.out.cell 0
 simp only [stepL,yA,yB] at s0
 go_upto_region 8 with (fail)
 have HRX:=qh H5.out.range0
 go_wp2_with (first
  | (with_reducible show wpList _ _ _ (_ :: _) _ _;refine wpList_load_guarded (by kernel_rfl) 47 _ rfl g5 0 rfl (letL kk f t q x) _ HRX.out Tryz.underlying47 rfl (by kernel_rfl) ?_))
 refine (KT.out _ HOF.out).mono ?_
 rintro e w8 ⟨⟨bb,rfl⟩,h6,h7⟩
 have H6:=qh h6
 have H5:=qh (h7 g5 _ hw5 H5.out)
 clear h6 h7 HOF HS HRX s0 KT
 have y2:=H5.out.cell 2
 simp only [letL,yA,yB] at y2
 go_wp2_with fail
 refine (KO.out _ H6.out).mono ?_
 rintro e w9 ⟨rfl,h7⟩
 have H7:=qh h7
 clear h7 H6 KO y2 H5
 go_wp2_with fail
 go_ret
 exact⟨rfl,H7.out⟩
end
end Go.Proofs.YtimdpiifpibgfaaGreatDoor
