/- For every input the law TopFast returns true (a part of the proof). Condition: the listed variables start as the program's text lays them. -/
import Derived.Test.YtimdpiifpibgfaaGreatDoorQf46
set_option linter.unusedVariables false
set_option linter.unusedSimpArgs false
set_option maxRecDepth 20000
set_option maxHeartbeats 16000000
namespace Go.Proofs.YtimdpiifpibgfaaGreatDoor
section
open Go.RowKit Go.Maps
structure NInv (w0:World) (n:Nat) (c:Cm) (gC i:Nat) (w:World) (own:Nat→Nat) (dv:Value) (obd:Option Nat) (xs:List Value) (nv:Value) (obn:Option Nat) (gs:Nat→Nat):Prop where
 cl:Holds w gC 85 (clusL n dv nv (.slice none 0 0) (.slice none 0 0) (.slice none 0 0) (.slice none 0 0))
 oc:own gC=1
 ds:OwnS w dv obd 87 1 i xs
 od:∀ g,obd=some g→own g=1
 ns:OwnS w nv obn 59 1 i (ptrs i gs)
 on:∀ g,obn=some g→own g=1
 nodes:∀ j,j<i→NodeC w (fun k=>own k=2+j) (gs j) n j 0 c .fresh [] false 0
 lt:∀ k,own k≠0→w0.heap.size≤k∧k<w.heap.size
 bel:Below w0.heap.size w0 w
def NIx (w0:World) (n:Nat) (c:Cm) (gC i:Nat) (w:World):Prop:=∃ own dv obd xs nv obn gs,NInv w0 n c gC i w own dv obd xs nv obn gs
theorem ptrs_snoc (i:Nat) (gs:Nat→Nat) (g:Nat):ptrs i gs++[.pointer (some ⟨g,0,none⟩)]=ptrs (i+1) fun j=>if j=i then g else gs j:=by
 unfold ptrs
 rw [List.range_succ,List.map_append]
 congr 1
 ·refine List.map_congr_left fun j hj=>?_
  have:=List.mem_range.1 hj
  show _=Value.pointer (some ⟨if j=i then g else gs j,0,none⟩)
  rw [if_neg (by omega)]
 ·simp
theorem ownS_hne {w:World} {v:Value} {ob:Option Nat} {t t':TypeId} {s n k:Nat} {xs L:List Value} (h:OwnS w v ob t s n xs) (h':Holds w k t' L) (ht:t≠t'):ob≠some k:=by
 intro he
 rcases h.cases with⟨_,h0,_⟩|⟨g1,_,_,_,h0,_,_,hh,_⟩
 ·rw [h0] at he;cases he
 ·rw [h0] at he;cases he
  exact hh.ne_of h' ht rfl
theorem ownS_ne {w:World} {v v':Value} {ob ob':Option Nat} {t t':TypeId} {s n s' n':Nat} {xs xs':List Value} (h:OwnS w v ob t s n xs) (h':OwnS w v' ob' t' s' n' xs') (ht:t≠t'):∀ k,ob=some k→ob'=some k→False:=by
 intro k hk hk'
 rcases h'.cases with⟨_,h0,_⟩|⟨g1,_,_,_,h0,_,_,hh,_⟩
 ·rw [h0] at hk';cases hk'
 ·rw [h0] at hk';cases hk'
  exact ownS_hne h hh ht hk
theorem NInv.step {w0 wr w2 w5 wx:World} {n:Nat} {c:Cm} {gC i gd gn:Nat} {own:Nat→Nat} {dv:Value} {obd:Option Nat} {xs:List Value} {nv:Value} {obn:Option Nat} {gs:Nat→Nat} {v8 v9:Value} {ob8 ob9:Option Nat} (h:NInv w0 n c gC i wr own dv obd xs nv obn gs) (hi:i<n) (hgd:wr.heap.size=gd) (hb:Below wr.heap.size wr w5) (hw2:wr.heap.size≤w2.heap.size) (HGD:∀ k,k=gd→k<w5.heap.size)
  (hn:NodeC w5 (grow (fun k=>k=gd) w2 w5) gn n i 0 c .fresh [] false 0) (hc:Holds wx gC 85 (clusL n v8 v9 (.slice none 0 0) (.slice none 0 0) (.slice none 0 0) (.slice none 0 0))) (h8:OwnS wx v8 ob8 87 1 (i+1) (xs++[.pointer (some ⟨gd,0,none⟩)])) (h9:OwnS wx v9 ob9 59 1 (i+1) (ptrs i gs++[.pointer (some ⟨gn,0,none⟩)]))
  (o8:ob8=obd∨∃ k,ob8=some k∧w5.heap.size≤k) (o9:ob9=obn∨∃ k,ob9=some k∧w5.heap.size≤k) (hm:Mv (fun k=>k=gC∨obd=some k∨obn=some k) w5 wx):NIx w0 n c gC (i+1) wx:=by
 have hs1:=hb.size
 have hs2:=hm.size
 have hC:=h.cl.lt
 have hol:=h.lt
 let own':Nat→Nat:=fun k=>if wr.heap.size≤k∧k<w5.heap.size then 2+i else if w5.heap.size≤k∧k<wx.heap.size then 1 else own k
 have hold:∀ k,k<wr.heap.size→own' k=own k:=fun k hk=>by
  show (if _ then _ else _)=_
  rw [if_neg (by omega),if_neg (by omega)]
 have hmid:∀ k,wr.heap.size≤k→k<w5.heap.size→own' k=2+i:=fun k h1 h2=>if_pos ⟨h1,h2⟩
 have hnew:∀ k,w5.heap.size≤k→k<wx.heap.size→own' k=1:=fun k h1 h2=>by
  show (if _ then _ else _)=_
  rw [if_neg (by omega),if_pos ⟨h1,h2⟩]
 have hown1:∀ k,(k=gC∨obd=some k∨obn=some k)→own k=1:=by
  rintro k (rfl|hk|hk)
  ·exact h.oc
  ·exact h.od k hk
  ·exact h.on k hk
 have hlt1:∀ k,own k=1→k<wr.heap.size:=fun k hk=>(hol k (by omega)).2
 refine⟨own',v8,ob8,_,v9,ob9,fun j=>if j=i then gn else gs j,hc,by rw [hold _ hC,h.oc],h8,fun g hg=>?_,ptrs_snoc i gs gn▸h9,fun g hg=>?_,fun j hj=>?_,fun k hk=>?_,?_⟩
 ·rcases o8 with h3|⟨k,h3,h4⟩
  ·have:=h.od g (h3▸hg)
   rw [hold g (hlt1 g this),this]
  ·rw [h3] at hg
   cases hg
   exact hnew _ h4 (h8.lt _ h3)
 ·rcases o9 with h3|⟨k,h3,h4⟩
  ·have:=h.on g (h3▸hg)
   rw [hold g (hlt1 g this),this]
  ·rw [h3] at hg
   cases hg
   exact hnew _ h4 (h9.lt _ h3)
 ·by_cases hji:j=i
  ·subst hji
   simp only [if_true]
   have h1:NodeC wx (grow (fun k=>k=gd) w2 w5) gn n j 0 c .fresh [] false 0:=hn.mv hm fun k hk hkl hf=>by
    have h2:=hlt1 k (hown1 k hk)
    rcases hf with hf|⟨hf,_⟩<;>omega
   exact h1.foot fun k hk hkl=>by
    rcases hk with hk|⟨h3,h4⟩
    ·exact hmid k (by omega) (by
      have:=HGD k hk
      omega)
    ·exact hmid k (by omega) h4
  ·simp only [if_neg hji]
   have h1:=(h.nodes j (by omega)).mv (Mv.of_below hb:Mv (fun _=>False) wr w5) fun k hk _=>hk.elim
   have h2:=h1.mv hm fun k hk hkl hf=>by
    have:=hown1 k hk
    omega
   exact h2.foot fun k hk hkl=>by
    rw [hold k (hol k (by omega)).2]
    exact hk
 ·have hk2:(if wr.heap.size≤k∧k<w5.heap.size then 2+i else if w5.heap.size≤k∧k<wx.heap.size then 1 else own k)≠0:=hk
  have hw:=h.bel.size
  split at hk2
  ·omega
  ·split at hk2
   ·omega
   ·have:=hol k hk2
    omega
 ·exact h.bel.trans ((hb.mono h.bel.size).trans (hm.below (Nat.le_trans h.bel.size hs1) fun k hk=>(hol k (by rw [hown1 k hk];decide)).1))
structure N2 (w0:World) (n:Nat) (c:Cm) (gC k:Nat) (w:World) (own:Nat→Nat) (dv nv:Value) (obn:Option Nat) (gs:Nat→Nat) (clv:Value) (obc:Option Nat) (gcl:Nat→Nat):Prop where
 cl:Holds w gC 85 (clusL n dv nv clv (.slice none 0 0) (.slice none 0 0) (.slice none 0 0))
 oc:own gC=1
 ns:OwnS w nv obn 59 1 n (ptrs n gs)
 on:∀ g,obn=some g→own g=1
 nodes:∀ j,j<n→NodeC w (fun k=>own k=2+j) (gs j) n j 0 c .fresh [] false 0
 cs:OwnS w clv obc 92 1 k (ptrs k gcl)
 ocl:∀ g,obc=some g→own g=1
 cats:∀ j,j<k→CAt w (gcl j) ((j:Int)+1) 0 Cm.zero false 0 0∧own (gcl j)=1
 lt:∀ k,own k≠0→w0.heap.size≤k∧k<w.heap.size
 bel:Below w0.heap.size w0 w
def N2x (w0:World) (n:Nat) (c:Cm) (gC k:Nat) (w:World):Prop:=∃ own dv nv obn gs clv obc gcl,N2 w0 n c gC k w own dv nv obn gs clv obc gcl
theorem N2.step {w0 wr wx:World} {n:Nat} {c:Cm} {gC k gk:Nat} {own:Nat→Nat} {dv nv:Value} {obn:Option Nat} {gs:Nat→Nat} {clv:Value} {obc:Option Nat} {gcl:Nat→Nat} {v5:Value} {ob5:Option Nat} (h:N2 w0 n c gC k wr own dv nv obn gs clv obc gcl) (hgk:wr.heap.size=gk)
  (hcl:Holds wx gC 85 (clusL n dv nv v5 (.slice none 0 0) (.slice none 0 0) (.slice none 0 0))) (ho:OwnS wx v5 ob5 92 1 (k+1) (ptrs k gcl++[.pointer (some ⟨gk,0,none⟩)])) (hob:ob5=obc∨∃ k,ob5=some k∧wr.heap.size≤k)
  (hcx:CAt wx gk ((k:Int)+1) 0 Cm.zero false 0 0) (hm:Mv (fun k=>k=gC∨obc=some k) wr wx):N2x w0 n c gC (k+1) wx:=by
 have hs2:=hm.size
 have hol:=h.lt
 have hold:∀ k,k<wr.heap.size→ownAll own wr wx 1 k=own k:=fun k hk=>ownAll_old _ _ _ _ _ hk
 have hown1:∀ k,(k=gC∨obc=some k)→own k=1:=by
  rintro k (rfl|hk)
  ·exact h.oc
  ·exact h.ocl k hk
 have hlt1:∀ k,own k=1→k<wr.heap.size:=fun k hk=>(hol k (by omega)).2
 have hT:∀ g t L,Holds wr g t L→t≠85→t≠92→¬ (g=gC∨obc=some g):=by
  rintro g t L hg h1 h2 (rfl|hk)
  ·exact h1 (holds_type hg h.cl)
  ·exact ownS_hne h.cs hg (Ne.symm h2) hk
 refine⟨ownAll own wr wx 1,dv,nv,obn,gs,v5,ob5,fun j=>if j=k then gk else gcl j,hcl,by rw [hold _ h.cl.lt,h.oc],h.ns.mv hm fun g hg=>?_,fun g hg=>by rw [hold g (hlt1 g (h.on g hg)),h.on g hg],fun j hj=>?_,ptrs_snoc k gcl gk▸ho,fun g hg=>?_,fun j hj=>?_,fun x hx=>?_,h.bel.trans (hm.below h.bel.size fun g hg=>(hol g (by rw [hown1 g hg];decide)).1)⟩
 ·rcases h.ns.cases with⟨_,h0,_⟩|⟨g1,_,_,_,h0,_,_,hh,_⟩
  ·rw [h0] at hg;cases hg
  ·rw [h0] at hg;cases hg
   exact hT _ _ _ hh (by decide) (by decide)
 ·have h2:=(h.nodes j hj).mv hm fun k hk hkl hf=>by
   have:=hown1 k hk
   omega
  exact h2.foot fun x hx hkl=>by
   rw [hold x (hol x (by omega)).2]
   exact hx
 ·rcases hob with h3|⟨x,h3,h4⟩
  ·have:=h.ocl g (h3▸hg)
   rw [hold g (hlt1 g this),this]
  ·rw [h3] at hg
   cases hg
   exact ownAll_new _ _ _ _ _ h4 (ho.lt _ h3)
 ·by_cases hjk:j=k
  ·subst hjk
   simp only [if_true]
   exact⟨hcx,ownAll_new _ _ _ _ _ (by omega) hcx.lt⟩
  ·simp only [if_neg hjk]
   obtain⟨h5,h6⟩:=h.cats j (by omega)
   exact⟨Holds.mv h5 hm (hT _ _ _ h5 (by decide) (by decide)),by rw [hold _ h5.lt,h6]⟩
 ·by_cases hx2:wr.heap.size≤x∧x<wx.heap.size
  ·exact⟨Nat.le_trans h.bel.size hx2.1,hx2.2⟩
  ·have h7:ownAll own wr wx 1 x=own x:=if_neg hx2
   rw [h7] at hx
   have:=hol x hx
   omega
def Newed (w0:World) (n:Nat) (c:Cm) (gC:Nat) (w:World):Prop:=∃ own,ClSt w own gC n 0 c (startS n)∧(∀ k,own k≠0→w0.heap.size≤k)∧Below w0.heap.size w0 w
theorem Newed.next {w0 w w':World} {n:Nat} {c:Cm} {gC:Nat} {own own':Nat→Nat} (hlo:∀ k,own k≠0→w0.heap.size≤k) (hb:Below w0.heap.size w0 w) (h:ClSt w' own' gC n 0 c { startS n with lets:=(startS n).lets++[] }) (hs:Stepped w own w' own'):Newed w0 n c gC w':=by
 refine⟨own',h,fun k hk=>?_,hb.trans (hs.2.below hb.size fun k hk=>hlo k hk)⟩
 by_cases hkw:k<w.heap.size
 ·rw [hs.1 k hkw] at hk
  exact hlo k hk
 ·have:=hb.size
  omega
def callsZ:List Value:=Cm.zero.cells++(Cm.zero.cells++Cm.zero.cells++Cm.zero.cells++Cm.zero.cells++Cm.zero.cells++Cm.zero.cells++Cm.zero.cells)
theorem makeCalls:∀ W:World,(Instr.makeSlice 83 (.int .i64 8) (.int .i64 8)).run Tryz.prog W=.ok (.slice (some ⟨W.heap.size,0,none⟩) 8 8) (W.alloc (.cells callsZ.toArray 23)):=fun _=>by kernel_rfl
theorem N2.start {w0 wr w7:World} {n:Nat} {c:Cm} {gC:Nat} {own:Nat→Nat} {dv nv:Value} {obn:Option Nat} {gs:Nat→Nat} {clv:Value} {obc:Option Nat} {gcl:Nat→Nat} (h:N2 w0 n c gC 8 wr own dv nv obn gs clv obc gcl) (hn:0<n)
  (hc:Holds w7 gC 85 (clusL n dv nv clv (.slice (some ⟨wr.heap.size,0,none⟩) 8 8) (.slice none 0 0) (.slice none 0 0))) (ht:Touch gC (wr.alloc (.cells callsZ.toArray 23)) w7):Newed w0 n c gC w7:=by
 have hb:=(Below.refl wr.heap.size wr).alloc (Nat.le_refl _) (.cells callsZ.toArray 23)
 have hs1:=ht.size
 have hsz:wr.heap.size+1≤w7.heap.size:=by
  have:(wr.alloc (.cells callsZ.toArray 23)).heap.size=wr.heap.size+1:=by simp
  omega
 have hm:Mv (fun k=>k=gC) wr w7:=(Mv.of_below hb).mv (Mv.of_touch ht rfl:Mv (fun k=>k=gC) _ w7) fun k hk=>.inl hk
 have hol:=h.lt
 have hold:∀ k,k<wr.heap.size→ownAll own wr w7 1 k=own k:=fun k hk=>ownAll_old _ _ _ _ _ hk
 have hlt1:∀ k,own k=1→k<wr.heap.size:=fun k hk=>(hol k (by omega)).2
 have hca:Holds w7 wr.heap.size 23 callsZ:=(holds_alloc wr 23 callsZ).mv (Mv.of_touch ht rfl:Mv (fun k=>k=gC) _ w7) (by have:=h.cl.lt;omega)
 obtain⟨gN,cN,rN,rfl,rfl,hcN1,hcN2,hnh,_⟩:=h.ns.blk hn
 obtain⟨gCl,cCl,rC,rfl,rfl,hcC1,hcC2,hch,_⟩:=h.cs.blk (by decide)
 have hN:Holds w7 gN 59 (ptrs n gs++rN):=hnh.mv hm (hnh.ne_of h.cl (by decide))
 have hC:Holds w7 gCl 92 (ptrs 8 gcl++rC):=hch.mv hm (hch.ne_of h.cl (by decide))
 have hcat:∀ j,j<8→CAt w7 (gcl j) ((j:Int)+1) 0 Cm.zero false 0 0:=fun j hj=>Holds.mv (h.cats j hj).1 hm ((h.cats j hj).1.ne_of h.cl (by decide))
 have hlt7:∀ k,ownAll own wr w7 1 k≠0→w0.heap.size≤k∧k<w7.heap.size:=by
  intro x hx
  have hbs:=h.bel.size
  by_cases hx2:wr.heap.size≤x∧x<w7.heap.size
  ·exact⟨by omega,hx2.2⟩
  ·have h7:ownAll own wr w7 1 x=own x:=if_neg hx2
   rw [h7] at hx
   have:=hol x hx
   omega
 refine⟨ownAll own wr w7 1,⟨dv,gN,cN,gCl,cCl,wr.heap.size,.slice none 0 0,.slice none 0 0,gs,gcl,⟨hc,⟨by rw [hold _ h.cl.lt,h.oc],by rw [hold _ hnh.lt,h.on gN rfl],by rw [hold _ hch.lt,h.ocl gCl rfl],ownAll_new _ _ _ _ _ (Nat.le_refl _) (by omega)⟩,⟨rN,hN⟩,⟨hcN1,hcN2⟩,⟨rC,hC⟩,⟨hcC1,hcC2⟩,.inl ⟨rfl,rfl,by have:=hcat 0 (by decide);exact this⟩,fun j hj _=>hcat j hj,fun j hj=>by rw [hold _ (h.cats j hj).1.lt,(h.cats j hj).2],⟨Cm.zero.cells,_,hca,rfl,rfl,fun h=>absurd rfl h⟩,⟨none,OwnS.nil _ _ _,by simp⟩,⟨fun _=>rfl,none,OwnS.nil _ _ _,by simp⟩,fun k hk=>(hlt7 k hk).2⟩,fun j hj=>?_,by simp [startS]⟩,fun k hk=>(hlt7 k hk).1,h.bel.trans ((hb.mono h.bel.size).trans (ht.below (hol gC (by rw [h.oc];decide)).1 (Nat.le_trans h.bel.size hb.size)))⟩
 have h2:=(h.nodes j hj).mv hm fun k hk hkl hf=>by
  have:=h.oc
  rw [hk] at hf
  omega
 rw [startS_ph]
 exact h2.foot fun x hx hkl=>by
  rw [hold x (hol x (by omega)).2]
  exact hx
theorem cnew1 (n:Nat) (c:Cm) (w:World) (hn:n=3∨n=5∨n=7) (hc:CmOk c) (h1:c.c=1) (h2:c.s=1) :
  Calls Tryz.prog 25 #[.int .i64 n] w fun e w'=>∃ gC,e=.returned (.tuple #[.pointer (some ⟨gC,0,none⟩),.int .i64 0])∧Newed w n c gC w':=by
 have hms:=makeCalls
 have KD:=qh disk_new
 have KN:=qh (fun i gd W (hi:i<n) hd=>node_new W n i 0 gd c hd hn hi (by omega) hc h1 h2)
 have KCl:=qh (fun (k:Nat) W (hk:k<8)=>new_in ((k:Int)+1) W (by omega))
 have hmx:max (n:Int) 1=n:=by omega
 have hmn:min (n:Int) 8=n:=by omega
 have hn8:n≤7:=by omega
 have hn0:0<n:=by omega
 clear h1 h2 hn
 go_enter Tryz.func25,Tryz.ntmps25
 go_upto_region 2 with (fail)
 go_name_world W hW
 have hW:allocs w [.cells (clusL n (.slice none 0 0) (.slice none 0 0) (.slice none 0 0) (.slice none 0 0) (.slice none 0 0) (.slice none 0 0):List Value).toArray 85]=W:=hW
 have HC:=qh (show Holds W (w.heap.size) 85 (clusL n (.slice none 0 0) (.slice none 0 0) (.slice none 0 0) (.slice none 0 0) (.slice none 0 0) (.slice none 0 0)) from holds_allocs _ hW 0 rfl)
 have hbW:=below_allocs _ hW
 have hsW:=size_allocs _ hW
 simp only [List.length_cons,List.length_nil] at hsW
 clear hW
 have hI0:NIx w n c w.heap.size 0 W:=⟨fun k=>if k=w.heap.size then 1 else 0,.slice none 0 0,none,[],.slice none 0 0,none,fun _=>0,⟨HC.out,if_pos rfl,OwnS.nil _ _ _,by simp,OwnS.nil _ _ _,by simp,fun j hj=>by omega,fun k hk=>by
  by_cases hkw:k=w.heap.size
  ·subst hkw;exact⟨Nat.le_refl _,HC.out.lt⟩
  ·simp [hkw] at hk,hbW⟩⟩
 have HI0:=qh hI0
 clear hI0 hbW hsW HC
 have hgC:w.heap.size=w.heap.size:=rfl
 generalize hg0:w.heap.size=gC at HI0 ⊢
 clear hgC
 go_wp2_with fail
 go_loopw [20] (fun vi wr=>∃ i:Nat,vi=.int .i64 (i:Int)∧i≤n∧NIx w n c gC i wr) (fun vi _=>n - (intOf vi).toNat)
 case atStart=>exact⟨0,rfl,Nat.zero_le _,HI0.out⟩
 case round=>
  clear HI0
  obtain⟨i,rfl,hi,own,dv,obd,xs,nv,obn,gs,hI⟩:=hrel
  have HI:=qh hI
  clear hI
  by_cases hin:i=n
  ·subst hin
   have hw0:=qh (show N2x w i c gC 0 wr from ⟨own,dv,nv,obn,gs,.slice none 0 0,none,fun _=>0,⟨HI.out.cl,HI.out.oc,HI.out.ns,HI.out.on,HI.out.nodes,OwnS.nil _ _ _,by simp,fun j hj=>by omega,HI.out.lt,HI.out.bel⟩⟩)
   clear HI KN
   go_wp2_with fail
   go_loopw [10] (fun vi wr2=>∃ k:Nat,vi=.int .i64 ((k:Int)+1)∧k≤8∧N2x w i c gC k wr2) (fun vi _=>9 - (intOf vi).toNat)
   case atStart=>exact⟨0,rfl,by omega,hw0.out⟩
   case round=>
    clear hw0
    obtain⟨k,rfl,hk,own2,dv2,nv2,obn2,gs2,clv,obc,gcl,hI2⟩:=hrel
    have HI2:=qh hI2
    clear hI2
    by_cases hk8:k=8
    ·subst hk8
     have HC:=HI2.out.cl
     have h9:((8:Nat):Int)+1=9:=rfl
     have h98:¬ (((8:Nat):Int)+1≤8):=by omega
     try rw [h9]
     go_wp2_with (first
      | (refine wpList_store_cell rfl 83 (.tmp 80) (.tmp 78) rfl rfl gC 4 85 _ (HC.bel ((Below.refl _ _).alloc (Nat.le_refl _) _)) (by simp [clusL]) rfl (.slice (some ⟨wr.heap.size,0,none⟩) 8 8) rfl rfl (by kernel_rfl) rfl ?_;intro w7 hh7 ht7))
     have HS0:=qh (HI2.out.start (by omega) hh7 ht7)
     clear hh7 ht7 HI2 HC
     go_loopw [82] (fun vi wr3=>∃ j:Nat,vi=.int .i64 (j:Int)∧j≤i∧Newed w i c gC wr3) (fun vi _=>i - (intOf vi).toNat)
     case atStart=>exact⟨0,rfl,Nat.zero_le _,HS0.out⟩
     case round=>
      clear HS0
      obtain⟨j,rfl,hj,hS⟩:=hrel
      have HS:=qh hS
      clear hS
      by_cases hji:j=i
      ·subst hji
       go_wp2_with fail
       refine bodyPost_ret (v:=.tuple #[.pointer (some ⟨gC,0,none⟩),.int .i64 0]) (by simp [results,Tryz.results25,go_sem]) rfl ?_
       exact⟨gC,rfl,HS.out⟩
      ·have hjl:j<i:=by omega
       have hjj:(j:Int)<(i:Int):=by omega
       obtain⟨own3,hst,hlo,hbe⟩:=HS.out
       have KO:=qh (out_ok0 _ own3 gC i 0 j c (startS i) [] _ _ hst hjl rfl (fun _ _=>rfl) (fun _=>rfl) (by simp) (by simp [startS]))
       go_wp2_with fail
       refine KO.out.mono ?_
       rintro e w9 ⟨rfl,own4,hst4,hsp4⟩
       have HS9:=qh (Newed.next hlo hbe hst4 hsp4)
       clear hst4 hsp4 KO hst
       go_wp2_with fail
       go_roundw
       case rel=>exact⟨j+1,by simp,by omega,HS9.out⟩
       case measure=>simp [intOf];omega
    ·have hk7:k<8:=by omega
     have hkk:((k:Int)+1)≤8:=by omega
     go_wp2_with fail
     refine (KCl.out k _ hk7).mono ?_
     rintro e w3 ⟨rfl,hcat,hb3⟩
     have HCT:=qh (show Holds w3 _ 132 _ from hcat)
     have HB3:=qh hb3
     have HC:=qh (HI2.out.cl.bel hb3);have HCL:=qh (HI2.out.cs.bel hb3)
     clear hb3 hcat
     generalize hgk:wr.heap.size=gk at HCT ⊢
     have c3:=HC.out.cell 3
     simp only [clusL,yA,yB] at c3
     obtain⟨pc,cc,rfl⟩:∃ pc cc,clv=.slice pc k cc:=by
      rcases HCL.out.cases with⟨r,_,r2,_⟩|⟨_,_,_,r,_⟩
      ·rw [r2];exact⟨_,_,r⟩
      ·exact⟨_,_,r⟩
     go_wp2_with (first
      | (refine wpList_build1 rfl 82 92 (.pointer (some ⟨gk,0,none⟩)) [.pointer (some ⟨gk,0,none⟩)] rfl rfl rfl (fun w=>by kernel_rfl) ?_;intro wa hna hba;have HNA:=qh hna;have HC4:=qh (HC.out.bel hba);have HCL4:=qh (HCL.out.bel hba);have HB4:=qh (HB3.out.trans (hba.mono HB3.out.size));have HCT4:=qh (HCT.out.bel hba);clear hna hba)
      | (at_builtin;refine wpList_append_s rfl (.tmp 71) (.tmp 73) 82 rfl 92 (.pointer none) 1 8 rfl (by kernel_rfl) rfl (by decide) _ obc k (ptrs k gcl) rfl HCL4.out _ 1 1 [.pointer (some ⟨gk,0,none⟩)] rfl rfl (HNA.out.reads 0 _ (fun j v hv=>by rw [Nat.zero_add];exact hv)) (by decide) (by simp [Value.oneCell']) (by unfold maxLen;omega) (by omega) ?_;intro v5 ob5 w5 ho5 hob5 hm5;have HO5:=qh ho5;have HCT5:=qh (HCT4.out.mv hm5 (ownS_hne HCL4.out HCT4.out (by decide)));have hcc5:=ownS_hne HCL4.out HC4.out (by decide);have HC5:=qh (HC4.out.mv hm5 hcc5);have HM5:=qh (Mv.mv (F:=fun k=>k=gC∨obc=some k) (Mv.of_below HB4.out) hm5 (fun k hk=>.inl (.inr hk)));have hs4:=HB4.out.size;have hob5':ob5=obc∨∃ k,ob5=some k∧wr.heap.size≤k:=hob5.imp id (fun ⟨k,h,h2⟩=>⟨k,h,by omega⟩);clear ho5 hob5 hm5)
      | (refine wpList_store_cell rfl 82 (.tmp 76) (.tmp 74) rfl rfl gC 3 85 _ HC5.out (by simp [clusL]) rfl v5 rfl (by rcases HO5.out.cases with⟨r,_⟩|⟨_,_,_,r,_⟩<;>rw [r]<;>rfl) (by kernel_rfl) (by rcases HO5.out.cases with⟨r,_⟩|⟨_,_,_,r,_⟩<;>rw [r]<;>rfl) ?_;intro w7 hh7 ht7))
     have hm7:Mv (fun k=>k=gC) w5 w7:=Mv.of_touch ht7 rfl
     have hcc7:=ownS_hne HO5.out HC5.out (by decide)
     have hcx7:CAt w7 gk ((k:Int)+1) 0 Cm.zero false 0 0:=Holds.mv (Holds.mv HCT5.out (Mv.refl (fun _=>False) _) id) hm7 (HCT5.out.ne_of HC5.out (by decide))
     have HFIN:=qh (HI2.out.step hgk hh7 (HO5.out.mv hm7 (fun k hk hf=>hcc7 (hf▸hk))) hob5' hcx7 (HM5.out.mv hm7 (fun k hk=>.inl (.inl hk))))
     clear hh7 ht7 hm7 HC HCL HC4 HCL4 HC5 HO5 HM5 HNA HI2 c3 HCT HCT4 HCT5
     go_roundw
     case rel=>exact⟨k+1,by simp,by omega,HFIN.out⟩
     case measure=>simp [intOf];omega
  ·have hilt:i<n:=by omega
   have hii:(i:Int)<(n:Int):=by omega
   go_wp2_with fail
   refine (KD.out _).mono ?_
   rintro e w2 ⟨rfl,hd0,hb2⟩
   have HB2:=qh hb2
   have HD0:=qh hd0
   clear hb2 hd0
   go_wp2_with fail
   refine (KN.out i _ _ hilt HD0.out).mono ?_
   rintro e w5 ⟨gn,rfl,hnc,hm⟩
   have HNC:=qh hnc;have HM5:=qh hm
   have HD1:=HD0
   clear hnc hm HD0
   generalize hgd:wr.heap.size=gd at HNC HM5
   have HB5:=qh (show Below wr.heap.size wr w5 from HB2.out.trans (HM5.out.below HB2.out.size (fun k hk=>by omega)))
   have hgd5:gd<w5.heap.size:=by have h1:=HM5.out.size;have h2:=(show Holds w2 gd 125 _ from hgd▸HD1.out).lt;omega
   have hw25:wr.heap.size≤w2.heap.size:=HB2.out.size
   have HC:=qh (HI.out.cl.bel HB5.out);have HD:=qh (HI.out.ds.bel HB5.out);have HN:=qh (HI.out.ns.bel HB5.out)
   have HM:=qh (Mv.refl (fun k=>k=gC∨obd=some k∨obn=some k) w5)
   go_upto_region 9 with (fail)
   have hdcX:=ownS_hne HD.out HC.out (by decide)
   have HC:=qh (HC.out.bel (t_drew _ w5))
   have HD:=qh (HD.out.bel (t_drew _ w5))
   have HN:=qh (HN.out.bel (t_drew _ w5))
   have HM:=qh (HM.out.bel (t_drew _ w5))
   refine wp_region_noPanic ?_
   refine wp_region_late (S:=fun W'=>Mv (fun k=>obd=some k) w5.drew W') (X0:=[15,18,21]) (by as_aux_lemma=>kernel_rfl) ?_
   generalize w5.drew=wd at HC HD HN HM ⊢
   have hSn:Mv (fun k=>obd=some k) wd wd:=Mv.refl _ _
   change wpAnyL _ _ _ _ _ _ 22 #[false,false,false,false,false,false,false,false,false,false,false,false,false,false,false,false,false,false,false,false,false,false] _ _
   refine mvA 0 (some 37) (fun _=>hSn) ?_
   simp only [Act.put,zA,zB,zC]
   refine mvA 1 (some 38) (fun _=>hSn) ?_
   simp only [Act.put,zA,zB,zC]
   refine mvA 2 (some 39) (fun _=>hSn) ?_
   simp only [Act.put,zA,zB,zC]
   refine mvA 3 (some 40) (fun _=>hSn) ?_
   simp only [Act.put,zA,zB,zC]
   refine mvA 4 (some 41) (fun _=>hSn) ?_
   simp only [Act.put,zA,zB,zC]
   refine tkA 5 [8,15,16,17,18,19,20,21] (some 42) (?vg6) rfl (Or.inl ⟨by rfl,?hg6⟩) hSn ?rg6
   case hg6=>
    intro w hSw
    have b1:=(HC.out.mv hSw hdcX).cell 1
    simp only [clusL,yA,yB] at b1
    go_simp
    try with_reducible rfl
   simp only [Act.put,zA,zB,zC]
   refine mvA 6 (some 43) (fun _=>hSn) ?_
   simp only [Act.put,zA,zB,zC]
   refine mvA 9 (some 46) (fun _=>hSn) ?_
   simp only [Act.put,zA,zB,zC]
   refine mvA 10 (some 47) (fun _=>hSn) ?_
   simp only [Act.put,zA,zB,zC]
   refine mvA 11 (some 48) (fun _=>hSn) ?_
   simp only [Act.put,zA,zB,zC]
   refine tkA 12 [15,16,17,18,19,20,21] (some 49) (?vg11) rfl (Or.inl ⟨by rfl,?hg11⟩) hSn ?rg11
   case hg11=>
    intro w hSw
    have b2:=(HC.out.mv hSw hdcX).cell 2
    simp only [clusL,yA,yB] at b2
    go_simp
    try with_reducible rfl
   simp only [Act.put,zA,zB,zC]
   refine mvA 13 (some 50) (fun _=>hSn) ?_
   simp only [Act.put,zA,zB,zC]
   refine rdA [7,14] (AllReadyL.cons rfl (fun K hK=>?_) (AllReadyL.cons rfl (fun K hK=>?_) (AllReadyL.nil)))
   ·skip
    refine step_build1 rfl 80 87 (.pointer (some ⟨gd,0,none⟩)) [.pointer (some ⟨gd,0,none⟩)] rfl rfl rfl (fun w=>by kernel_rfl) ?_
    intro wa7 hna hba
    have HC:=qh (HC.out.bel hba)
    have HD:=qh (HD.out.bel hba)
    have HN:=qh (HN.out.bel hba)
    have HM:=qh (HM.out.bel hba)
    try (have HA14:=qh (HA14.out.bel hba))
    have HA7:=qh hna
    have hge7:=hba.size
    clear hna
    first|(have hSn:=hSn.bel hba;refine hK.out _ _ (fun _=>hSn) ?_)|refine hK.out _ _ nlA ?_
    clear hK
    try simp only [Act.put,zA,zB,zC]
    refine rdA [8,14] (AllReadyL.cons rfl (fun K hK=>?_) (AllReadyL.cons rfl (fun K hK=>?_) (AllReadyL.nil)))
    ·skip
     refine step_append_s rfl (.tmp 42) (.tmp 44) 80 rfl 87 (.pointer none) 1 8 rfl (by kernel_rfl) rfl (by decide) _ obd i xs rfl HD.out _ 1 1 [.pointer (some ⟨gd,0,none⟩)] rfl rfl (HA7.out.reads 0 _ (fun j v hv=>by rw [Nat.zero_add];exact hv)) (by decide) (by simp [Value.oneCell']) (by unfold maxLen;omega) (by omega) ?_
     intro v8 ob8 w8 ho8 hob8 hm8
     have hdc:=ownS_hne HD.out HC.out (by decide)
     have hdn:=ownS_ne HN.out HD.out (by decide)
     try (have hda:=ownS_hne HD.out HA14.out (by decide);have HA14:=qh (HA14.out.mv hm8 hda))
     have HC:=qh (HC.out.mv hm8 hdc)
     have HN:=qh (HN.out.mv hm8 (fun k hk hf=>hdn k hk hf))
     have hle8:=HM.out.size
     have HM:=qh (HM.out.mv hm8 (fun k hk=>.inl (.inr (.inl hk))))
     have HD8:=qh ho8
     have hob8':ob8=obd∨∃ k,ob8=some k∧w5.heap.size≤k:=hob8.imp id (fun ⟨k,h,h2⟩=>⟨k,h,by omega⟩)
     have hSn:=hSn.mv hm8 (fun k hk=>.inl hk)
     clear ho8 hob8 hm8 HD
     change K (Act.put _ (some 45) _) _
     refine hK.out _ _ (fun _=>hSn) ?_
     clear hK
     try simp only [Act.put,zA,zB,zC]
     refine rd1 14 rfl (fun K hK=>?_)
     refine step_build1 rfl 81 59 (.pointer (some ⟨gn,0,none⟩)) [.pointer (some ⟨gn,0,none⟩)] rfl rfl rfl (fun w=>by kernel_rfl) ?_
     intro wa14 hna hba
     have HC:=qh (HC.out.bel hba)
     have HN:=qh (HN.out.bel hba)
     have HM:=qh (HM.out.bel hba)
     try (have HA7:=qh (HA7.out.bel hba))
     try (have HD:=qh (HD.out.bel hba))
     try (have HD8:=qh (HD8.out.bel hba))
     have HA14:=qh hna
     have hge14:=hba.size
     clear hna
     first|(have hSn:=hSn.bel hba;refine hK.out _ _ (fun _=>hSn) ?_)|refine hK.out _ _ nlA ?_
     clear hK
     try simp only [Act.put,zA,zB,zC]
     refine rd1 15 rfl (fun K hK=>?_)
     refine step_append_s rfl (.tmp 49) (.tmp 51) 81 rfl 59 (.pointer none) 1 8 rfl (by kernel_rfl) rfl (by decide) _ obn i (ptrs i gs) rfl HN.out _ 1 1 [.pointer (some ⟨gn,0,none⟩)] rfl rfl (HA14.out.reads 0 _ (fun j v hv=>by rw [Nat.zero_add];exact hv)) (by decide) (by simp [Value.oneCell']) (by unfold maxLen;omega) (by omega) ?_
     intro v9 ob9 w9 ho9 hob9 hm9
     have hnc2:=ownS_hne HN.out HC.out (by decide)
     have hnd:=ownS_ne HD8.out HN.out (by decide)
     have HC:=qh (HC.out.mv hm9 hnc2)
     have HD8:=qh (HD8.out.mv hm9 (fun k hk hf=>hnd k hk hf))
     have hle9:=HM.out.size
     have HM:=qh (HM.out.mv hm9 (fun k hk=>.inl (.inr (.inr hk))))
     have HN9:=qh ho9
     have hob9':ob9=obn∨∃ k,ob9=some k∧w5.heap.size≤k:=hob9.imp id (fun ⟨k,h,h2⟩=>⟨k,h,by omega⟩)
     clear ho9 hob9 hm9 HN
     change K (Act.put _ (some 52) _) _
     refine hK.out _ _ nlA ?_
     clear hK
     try simp only [Act.put,zA,zB,zC]
     refine mvA 16 (some 53) nlA ?_
     simp only [Act.put,zA,zB,zC]
     refine mvA 17 (some 54) nlA ?_
     simp only [Act.put,zA,zB,zC]
     refine rd1 18 rfl (fun K hK=>?_)
     refine step_store_cell rfl 80 (.tmp 54) (.tmp 45) rfl rfl gC 1 85 _ HC.out (by simp [clusL]) rfl v8 rfl (by rcases HD8.out.cases with⟨r,_⟩|⟨_,_,_,r,_⟩<;>rw [r]<;>rfl) (by kernel_rfl) (by rcases HD8.out.cases with⟨r,_⟩|⟨_,_,_,r,_⟩<;>rw [r]<;>rfl) ?_
     intro w10 hh10 ht10
     have hm10:Mv (fun k=>k=gC) _ w10:=Mv.of_touch ht10 rfl
     have hc8:=ownS_hne HD8.out HC.out (by decide)
     have hc9:=ownS_hne HN9.out HC.out (by decide)
     have HD8:=qh (HD8.out.mv hm10 (fun k hk hf=>hc8 (hf▸hk)))
     have HN9:=qh (HN9.out.mv hm10 (fun k hk hf=>hc9 (hf▸hk)))
     have HM:=qh (HM.out.mv hm10 (fun k hk=>.inl (.inl hk)))
     have HC:=qh (show Holds w10 gC 85 (clusL n v8 nv (.slice none 0 0) (.slice none 0 0) (.slice none 0 0) (.slice none 0 0)) from hh10)
     clear hh10 ht10 hm10
     refine hK.out _ _ nlA ?_
     clear hK
     try simp only [Act.put,zA,zB,zC]
     refine mvA 19 (some 55) nlA ?_
     simp only [Act.put,zA,zB,zC]
     refine mvA 20 (some 56) nlA ?_
     simp only [Act.put,zA,zB,zC]
     refine rd1 21 rfl (fun K hK=>?_)
     refine step_store_cell rfl 81 (.tmp 56) (.tmp 52) rfl rfl gC 2 85 _ HC.out (by simp [clusL]) rfl v9 rfl (by rcases HN9.out.cases with⟨r,_⟩|⟨_,_,_,r,_⟩<;>rw [r]<;>rfl) (by kernel_rfl) (by rcases HN9.out.cases with⟨r,_⟩|⟨_,_,_,r,_⟩<;>rw [r]<;>rfl) ?_
     intro w11 hh11 ht11
     have hm11:Mv (fun k=>k=gC) _ w11:=Mv.of_touch ht11 rfl
     have HD8:=qh (HD8.out.mv hm11 (fun k hk hf=>hc8 (hf▸hk)))
     have HN9:=qh (HN9.out.mv hm11 (fun k hk hf=>hc9 (hf▸hk)))
     have HM:=qh (HM.out.mv hm11 (fun k hk=>.inl (.inl hk)))
     have HC:=qh (show Holds w11 gC 85 (clusL n v8 v9 (.slice none 0 0) (.slice none 0 0) (.slice none 0 0) (.slice none 0 0)) from hh11)
     clear hh11 ht11 hm11
     refine hK.out _ _ nlA ?_
     clear hK
     try simp only [Act.put,zA,zB,zC]
     refine dnA (NoPanic.normal ?_)
     clear HA7 HA14
     go_wp2_with fail
     go_roundw
     case rel=>exact⟨i+1,by simp,by omega,HI.out.step hilt hgd HB5.out hw25 (fun k hk=>by omega) HNC.out HC.out HD8.out HN9.out hob8' hob9' HM.out⟩
     case measure=>simp [intOf];omega
    ·skip
     refine step_build1 rfl 81 59 (.pointer (some ⟨gn,0,none⟩)) [.pointer (some ⟨gn,0,none⟩)] rfl rfl rfl (fun w=>by kernel_rfl) ?_
     intro wa14 hna hba
     have HC:=qh (HC.out.bel hba)
     have HN:=qh (HN.out.bel hba)
     have HM:=qh (HM.out.bel hba)
     try (have HA7:=qh (HA7.out.bel hba))
     try (have HD:=qh (HD.out.bel hba))
     try (have HD8:=qh (HD8.out.bel hba))
     have HA14:=qh hna
     have hge14:=hba.size
     clear hna
     first|(have hSn:=hSn.bel hba;refine hK.out _ _ (fun _=>hSn) ?_)|refine hK.out _ _ nlA ?_
     clear hK
     try simp only [Act.put,zA,zB,zC]
     refine rd1 8 rfl (fun K hK=>?_)
     refine step_append_s rfl (.tmp 42) (.tmp 44) 80 rfl 87 (.pointer none) 1 8 rfl (by kernel_rfl) rfl (by decide) _ obd i xs rfl HD.out _ 1 1 [.pointer (some ⟨gd,0,none⟩)] rfl rfl (HA7.out.reads 0 _ (fun j v hv=>by rw [Nat.zero_add];exact hv)) (by decide) (by simp [Value.oneCell']) (by unfold maxLen;omega) (by omega) ?_
     intro v8 ob8 w8 ho8 hob8 hm8
     have hdc:=ownS_hne HD.out HC.out (by decide)
     have hdn:=ownS_ne HN.out HD.out (by decide)
     try (have hda:=ownS_hne HD.out HA14.out (by decide);have HA14:=qh (HA14.out.mv hm8 hda))
     have HC:=qh (HC.out.mv hm8 hdc)
     have HN:=qh (HN.out.mv hm8 (fun k hk hf=>hdn k hk hf))
     have hle8:=HM.out.size
     have HM:=qh (HM.out.mv hm8 (fun k hk=>.inl (.inr (.inl hk))))
     have HD8:=qh ho8
     have hob8':ob8=obd∨∃ k,ob8=some k∧w5.heap.size≤k:=hob8.imp id (fun ⟨k,h,h2⟩=>⟨k,h,by omega⟩)
     have hSn:=hSn.mv hm8 (fun k hk=>.inl hk)
     clear ho8 hob8 hm8 HD
     change K (Act.put _ (some 45) _) _
     refine hK.out _ _ (fun _=>hSn) ?_
     clear hK
     try simp only [Act.put,zA,zB,zC]
     refine rd1 15 rfl (fun K hK=>?_)
     refine step_append_s rfl (.tmp 49) (.tmp 51) 81 rfl 59 (.pointer none) 1 8 rfl (by kernel_rfl) rfl (by decide) _ obn i (ptrs i gs) rfl HN.out _ 1 1 [.pointer (some ⟨gn,0,none⟩)] rfl rfl (HA14.out.reads 0 _ (fun j v hv=>by rw [Nat.zero_add];exact hv)) (by decide) (by simp [Value.oneCell']) (by unfold maxLen;omega) (by omega) ?_
     intro v9 ob9 w9 ho9 hob9 hm9
     have hnc2:=ownS_hne HN.out HC.out (by decide)
     have hnd:=ownS_ne HD8.out HN.out (by decide)
     have HC:=qh (HC.out.mv hm9 hnc2)
     have HD8:=qh (HD8.out.mv hm9 (fun k hk hf=>hnd k hk hf))
     have hle9:=HM.out.size
     have HM:=qh (HM.out.mv hm9 (fun k hk=>.inl (.inr (.inr hk))))
     have HN9:=qh ho9
     have hob9':ob9=obn∨∃ k,ob9=some k∧w5.heap.size≤k:=hob9.imp id (fun ⟨k,h,h2⟩=>⟨k,h,by omega⟩)
     clear ho9 hob9 hm9 HN
     change K (Act.put _ (some 52) _) _
     refine hK.out _ _ nlA ?_
     clear hK
     try simp only [Act.put,zA,zB,zC]
     refine mvA 16 (some 53) nlA ?_
     simp only [Act.put,zA,zB,zC]
     refine mvA 17 (some 54) nlA ?_
     simp only [Act.put,zA,zB,zC]
     refine rd1 18 rfl (fun K hK=>?_)
     refine step_store_cell rfl 80 (.tmp 54) (.tmp 45) rfl rfl gC 1 85 _ HC.out (by simp [clusL]) rfl v8 rfl (by rcases HD8.out.cases with⟨r,_⟩|⟨_,_,_,r,_⟩<;>rw [r]<;>rfl) (by kernel_rfl) (by rcases HD8.out.cases with⟨r,_⟩|⟨_,_,_,r,_⟩<;>rw [r]<;>rfl) ?_
     intro w10 hh10 ht10
     have hm10:Mv (fun k=>k=gC) _ w10:=Mv.of_touch ht10 rfl
     have hc8:=ownS_hne HD8.out HC.out (by decide)
     have hc9:=ownS_hne HN9.out HC.out (by decide)
     have HD8:=qh (HD8.out.mv hm10 (fun k hk hf=>hc8 (hf▸hk)))
     have HN9:=qh (HN9.out.mv hm10 (fun k hk hf=>hc9 (hf▸hk)))
     have HM:=qh (HM.out.mv hm10 (fun k hk=>.inl (.inl hk)))
     have HC:=qh (show Holds w10 gC 85 (clusL n v8 nv (.slice none 0 0) (.slice none 0 0) (.slice none 0 0) (.slice none 0 0)) from hh10)
     clear hh10 ht10 hm10
     refine hK.out _ _ nlA ?_
     clear hK
     try simp only [Act.put,zA,zB,zC]
     refine mvA 19 (some 55) nlA ?_
     simp only [Act.put,zA,zB,zC]
     refine mvA 20 (some 56) nlA ?_
     simp only [Act.put,zA,zB,zC]
     refine rd1 21 rfl (fun K hK=>?_)
     refine step_store_cell rfl 81 (.tmp 56) (.tmp 52) rfl rfl gC 2 85 _ HC.out (by simp [clusL]) rfl v9 rfl (by rcases HN9.out.cases with⟨r,_⟩|⟨_,_,_,r,_⟩<;>rw [r]<;>rfl) (by kernel_rfl) (by rcases HN9.out.cases with⟨r,_⟩|⟨_,_,_,r,_⟩<;>rw [r]<;>rfl) ?_
     intro w11 hh11 ht11
     have hm11:Mv (fun k=>k=gC) _ w11:=Mv.of_touch ht11 rfl
     have HD8:=qh (HD8.out.mv hm11 (fun k hk hf=>hc8 (hf▸hk)))
     have HN9:=qh (HN9.out.mv hm11 (fun k hk hf=>hc9 (hf▸hk)))
     have HM:=qh (HM.out.mv hm11 (fun k hk=>.inl (.inl hk)))
     have HC:=qh (show Holds w11 gC 85 (clusL n v8 v9 (.slice none 0 0) (.slice none 0 0) (.slice none 0 0) (.slice none 0 0)) from hh11)
     clear hh11 ht11 hm11
     refine hK.out _ _ nlA ?_
     clear hK
     try simp only [Act.put,zA,zB,zC]
     refine dnA (NoPanic.normal ?_)
     clear HA7 HA14
     go_wp2_with fail
     go_roundw
     case rel=>exact⟨i+1,by simp,by omega,HI.out.step hilt hgd HB5.out hw25 (fun k hk=>by omega) HNC.out HC.out HD8.out HN9.out hob8' hob9' HM.out⟩
     case measure=>simp [intOf];omega
   ·skip
    refine step_build1 rfl 81 59 (.pointer (some ⟨gn,0,none⟩)) [.pointer (some ⟨gn,0,none⟩)] rfl rfl rfl (fun w=>by kernel_rfl) ?_
    intro wa14 hna hba
    have HC:=qh (HC.out.bel hba)
    have HN:=qh (HN.out.bel hba)
    have HM:=qh (HM.out.bel hba)
    try (have HA7:=qh (HA7.out.bel hba))
    try (have HD:=qh (HD.out.bel hba))
    try (have HD8:=qh (HD8.out.bel hba))
    have HA14:=qh hna
    have hge14:=hba.size
    clear hna
    first|(have hSn:=hSn.bel hba;refine hK.out _ _ (fun _=>hSn) ?_)|refine hK.out _ _ nlA ?_
    clear hK
    try simp only [Act.put,zA,zB,zC]
    refine rd1 7 rfl (fun K hK=>?_)
    refine step_build1 rfl 80 87 (.pointer (some ⟨gd,0,none⟩)) [.pointer (some ⟨gd,0,none⟩)] rfl rfl rfl (fun w=>by kernel_rfl) ?_
    intro wa7 hna hba
    have HC:=qh (HC.out.bel hba)
    have HD:=qh (HD.out.bel hba)
    have HN:=qh (HN.out.bel hba)
    have HM:=qh (HM.out.bel hba)
    try (have HA14:=qh (HA14.out.bel hba))
    have HA7:=qh hna
    have hge7:=hba.size
    clear hna
    first|(have hSn:=hSn.bel hba;refine hK.out _ _ (fun _=>hSn) ?_)|refine hK.out _ _ nlA ?_
    clear hK
    try simp only [Act.put,zA,zB,zC]
    refine rd1 8 rfl (fun K hK=>?_)
    refine step_append_s rfl (.tmp 42) (.tmp 44) 80 rfl 87 (.pointer none) 1 8 rfl (by kernel_rfl) rfl (by decide) _ obd i xs rfl HD.out _ 1 1 [.pointer (some ⟨gd,0,none⟩)] rfl rfl (HA7.out.reads 0 _ (fun j v hv=>by rw [Nat.zero_add];exact hv)) (by decide) (by simp [Value.oneCell']) (by unfold maxLen;omega) (by omega) ?_
    intro v8 ob8 w8 ho8 hob8 hm8
    have hdc:=ownS_hne HD.out HC.out (by decide)
    have hdn:=ownS_ne HN.out HD.out (by decide)
    try (have hda:=ownS_hne HD.out HA14.out (by decide);have HA14:=qh (HA14.out.mv hm8 hda))
    have HC:=qh (HC.out.mv hm8 hdc)
    have HN:=qh (HN.out.mv hm8 (fun k hk hf=>hdn k hk hf))
    have hle8:=HM.out.size
    have HM:=qh (HM.out.mv hm8 (fun k hk=>.inl (.inr (.inl hk))))
    have HD8:=qh ho8
    have hob8':ob8=obd∨∃ k,ob8=some k∧w5.heap.size≤k:=hob8.imp id (fun ⟨k,h,h2⟩=>⟨k,h,by omega⟩)
    have hSn:=hSn.mv hm8 (fun k hk=>.inl hk)
    clear ho8 hob8 hm8 HD
    change K (Act.put _ (some 45) _) _
    refine hK.out _ _ (fun _=>hSn) ?_
    clear hK
    try simp only [Act.put,zA,zB,zC]
    refine rd1 15 rfl (fun K hK=>?_)
    refine step_append_s rfl (.tmp 49) (.tmp 51) 81 rfl 59 (.pointer none) 1 8 rfl (by kernel_rfl) rfl (by decide) _ obn i (ptrs i gs) rfl HN.out _ 1 1 [.pointer (some ⟨gn,0,none⟩)] rfl rfl (HA14.out.reads 0 _ (fun j v hv=>by rw [Nat.zero_add];exact hv)) (by decide) (by simp [Value.oneCell']) (by unfold maxLen;omega) (by omega) ?_
    intro v9 ob9 w9 ho9 hob9 hm9
    have hnc2:=ownS_hne HN.out HC.out (by decide)
    have hnd:=ownS_ne HD8.out HN.out (by decide)
    have HC:=qh (HC.out.mv hm9 hnc2)
    have HD8:=qh (HD8.out.mv hm9 (fun k hk hf=>hnd k hk hf))
    have hle9:=HM.out.size
    have HM:=qh (HM.out.mv hm9 (fun k hk=>.inl (.inr (.inr hk))))
    have HN9:=qh ho9
    have hob9':ob9=obn∨∃ k,ob9=some k∧w5.heap.size≤k:=hob9.imp id (fun ⟨k,h,h2⟩=>⟨k,h,by omega⟩)
    clear ho9 hob9 hm9 HN
    change K (Act.put _ (some 52) _) _
    refine hK.out _ _ nlA ?_
    clear hK
    try simp only [Act.put,zA,zB,zC]
    refine mvA 16 (some 53) nlA ?_
    simp only [Act.put,zA,zB,zC]
    refine mvA 17 (some 54) nlA ?_
    simp only [Act.put,zA,zB,zC]
    refine rd1 18 rfl (fun K hK=>?_)
    refine step_store_cell rfl 80 (.tmp 54) (.tmp 45) rfl rfl gC 1 85 _ HC.out (by simp [clusL]) rfl v8 rfl (by rcases HD8.out.cases with⟨r,_⟩|⟨_,_,_,r,_⟩<;>rw [r]<;>rfl) (by kernel_rfl) (by rcases HD8.out.cases with⟨r,_⟩|⟨_,_,_,r,_⟩<;>rw [r]<;>rfl) ?_
    intro w10 hh10 ht10
    have hm10:Mv (fun k=>k=gC) _ w10:=Mv.of_touch ht10 rfl
    have hc8:=ownS_hne HD8.out HC.out (by decide)
    have hc9:=ownS_hne HN9.out HC.out (by decide)
    have HD8:=qh (HD8.out.mv hm10 (fun k hk hf=>hc8 (hf▸hk)))
    have HN9:=qh (HN9.out.mv hm10 (fun k hk hf=>hc9 (hf▸hk)))
    have HM:=qh (HM.out.mv hm10 (fun k hk=>.inl (.inl hk)))
    have HC:=qh (show Holds w10 gC 85 (clusL n v8 nv (.slice none 0 0) (.slice none 0 0) (.slice none 0 0) (.slice none 0 0)) from hh10)
    clear hh10 ht10 hm10
    refine hK.out _ _ nlA ?_
    clear hK
    try simp only [Act.put,zA,zB,zC]
    refine mvA 19 (some 55) nlA ?_
    simp only [Act.put,zA,zB,zC]
    refine mvA 20 (some 56) nlA ?_
    simp only [Act.put,zA,zB,zC]
    refine rd1 21 rfl (fun K hK=>?_)
    refine step_store_cell rfl 81 (.tmp 56) (.tmp 52) rfl rfl gC 2 85 _ HC.out (by simp [clusL]) rfl v9 rfl (by rcases HN9.out.cases with⟨r,_⟩|⟨_,_,_,r,_⟩<;>rw [r]<;>rfl) (by kernel_rfl) (by rcases HN9.out.cases with⟨r,_⟩|⟨_,_,_,r,_⟩<;>rw [r]<;>rfl) ?_
    intro w11 hh11 ht11
    have hm11:Mv (fun k=>k=gC) _ w11:=Mv.of_touch ht11 rfl
    have HD8:=qh (HD8.out.mv hm11 (fun k hk hf=>hc8 (hf▸hk)))
    have HN9:=qh (HN9.out.mv hm11 (fun k hk hf=>hc9 (hf▸hk)))
    have HM:=qh (HM.out.mv hm11 (fun k hk=>.inl (.inl hk)))
    have HC:=qh (show Holds w11 gC 85 (clusL n v8 v9 (.slice none 0 0) (.slice none 0 0) (.slice none 0 0) (.slice none 0 0)) from hh11)
    clear hh11 ht11 hm11
    refine hK.out _ _ nlA ?_
    clear hK
    try simp only [Act.put,zA,zB,zC]
    refine dnA (NoPanic.normal ?_)
    clear HA7 HA14
    go_wp2_with fail
    go_roundw
    case rel=>exact⟨i+1,by simp,by omega,HI.out.step hilt hgd HB5.out hw25 (fun k hk=>by omega) HNC.out HC.out HD8.out HN9.out hob8' hob9' HM.out⟩
    case measure=>simp [intOf];omega
end
end Go.Proofs.YtimdpiifpibgfaaGreatDoor
