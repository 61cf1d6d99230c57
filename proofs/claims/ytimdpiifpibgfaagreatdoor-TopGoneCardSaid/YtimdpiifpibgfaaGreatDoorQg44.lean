/- A part of the proof that the law TopGone returns true for every input. -/
import Derived.Test.YtimdpiifpibgfaaGreatDoorQg43
set_option linter.all false
set_option maxRecDepth 20000
set_option maxHeartbeats 16000000
open Go.RowKit Go.Maps
namespace Go.Proofs.YtimdpiifpibgfaaGreatDoor
open Tryz
structure ay(w0:World)(n:Nat)(c:Cm)(gC i:Nat)(w:World)(own:Nat→Nat)(dv:Value)(obd:Option Nat)(gds:Nat→Nat)(nv:Value)(obn:Option Nat)(gs:Nat→Nat):Prop where
 cl:Holds w gC 85 (DW n dv nv (.slice none 0 0) (.slice none 0 0) (.slice none 0 0) (.slice none 0 0))
 oc:own gC=1
 ds:AU w dv obd 87 1 i (ptrs i gds)
 od:∀g,obd=some g→own g=1
 ns:AU w nv obn 59 1 i (ptrs i gs)
 on:∀g,obn=some g→own g=1
 nodes:∀j,j<i→Bg w (λk=>own k=2+j) (gs j) (gds j) n j 0 c .fresh [] false 0 0
 lt:∀k,own k≠0→w0.heap.size≤k∧k<w.heap.size
 bel:Below w0.heap.size w0 w
def jB(w0:World)(n:Nat)(c:Cm)(gC i:Nat)(w:World):Prop:=∃own dv obd gds nv obn gs,ay w0 n c gC i w own dv obd gds nv obn gs
theorem MV(i:Nat)(gs:Nat→Nat)(g:Nat):ptrs i gs++[.pointer (some ⟨g,0,none⟩)]=ptrs (i+1) λj=>if j=i then g else gs j:=by
 unfold ptrs Ij;rw[List.range_succ,List.map_append]
 congr 1
 ·refine List.map_congr_left λj hj=>?_;have:=List.mem_range.1 hj;show _=Value.pointer (some ⟨if j=i then g else gs j,0,none⟩);rw[if_neg (by omega)]
  rfl
 ·simp
theorem CV{w:World}{v:Value}{ob:Option Nat}{t t':TypeId}{s n k:Nat}{xs L:List Value}(h:AU w v ob t s n xs)(h':Holds w k t' L)(ht:t≠t'):ob≠some k:=by
 intro he;rcases h.cases with⟨_,h0,_⟩|⟨g1,_,_,_,h0,_,_,hh,_⟩
 ·rw[h0] at he;cases he
 ·rw[h0] at he;cases he;exact hh.ne_of h' ht rfl
theorem Je{w:World}{v v':Value}{ob ob':Option Nat}{t t':TypeId}{s n s' n':Nat}{xs xs':List Value}(h:AU w v ob t s n xs)(h':AU w v' ob' t' s' n' xs')(ht:t≠t'):∀k,ob=some k→ob'=some k→False:=by
 intro k hk hk';rcases h'.cases with⟨_,h0,_⟩|⟨g1,_,_,_,h0,_,_,hh,_⟩
 ·rw[h0] at hk';cases hk'
 ·rw[h0] at hk';cases hk';exact CV h hh ht hk
theorem ay.step{w0 wr w2 w5 wx:World}{n:Nat}{c:Cm}{gC i gd gn:Nat}{own:Nat→Nat}{dv:Value}{obd:Option Nat}{gds:Nat→Nat}{nv:Value}{obn:Option Nat}{gs:Nat→Nat}{v8 v9:Value}{ob8 ob9:Option Nat}(h:ay w0 n c gC i wr own dv obd gds nv obn gs)(hi:i<n)(hgd:wr.heap.size=gd)(hb:Below wr.heap.size wr w5)(hw2:wr.heap.size≤w2.heap.size)(HGD:∀k,k=gd→k<w5.heap.size) (hn:Bg w5 (grow (λk=>k=gd) w2 w5) gn gd n i 0 c .fresh [] false 0 0) (hc:Holds wx gC 85 (DW n v8 v9 (.slice none 0 0) (.slice none 0 0) (.slice none 0 0) (.slice none 0 0))) (h8:AU wx v8 ob8 87 1 (i+1) (ptrs i gds++[.pointer (some ⟨gd,0,none⟩)])) (h9:AU wx v9 ob9 59 1 (i+1) (ptrs i gs++[.pointer (some ⟨gn,0,none⟩)])) (o8:ob8=obd∨∃k,ob8=some k∧w5.heap.size≤k) (o9:ob9=obn∨∃k,ob9=some k∧w5.heap.size≤k) (hm:Mv (λk=>k=gC∨obd=some k∨obn=some k) w5 wx):jB w0 n c gC (i+1) wx:=by
 have hs1:=hb.size;have hs2:=hm.size;have hC:=h.cl.lt;have hol:=h.lt
 let own':Nat→Nat:=λk=>if wr.heap.size≤k∧k<w5.heap.size then 2+i else if w5.heap.size≤k∧k<wx.heap.size then 1 else own k
 have hold:∀k,k<wr.heap.size→own' k=own k:=λk hk=>by show (if _ then _ else _)=_;rw[if_neg (by omega),if_neg (by omega)]
 have hmid:∀k,wr.heap.size≤k→k<w5.heap.size→own' k=2+i:=λk h1 h2=>if_pos ⟨h1,h2⟩;have hnew:∀k,w5.heap.size≤k→k<wx.heap.size→own' k=1:=λk h1 h2=>by show (if _ then _ else _)=_;rw[if_neg (by omega),if_pos ⟨h1,h2⟩]
 have hown1:∀k,(k=gC∨obd=some k∨obn=some k)→own k=1:=by
  rintro k (rfl|hk|hk)
  ·exact h.oc
  ·exact h.od k hk
  ·exact h.on k hk
 have hlt1:∀k,own k=1→k<wr.heap.size:=λk hk=>(hol k (by omega)).2;refine⟨own',v8,ob8,λj=>if j=i then gd else gds j,v9,ob9,λj=>if j=i then gn else gs j,hc,by rw[hold _ hC,h.oc],MV i gds gd▸h8,λg hg=>?_,MV i gs gn▸h9,λg hg=>?_,λj hj=>?_,λk hk=>?_,?_⟩
 ·rcases o8 with h3|⟨k,h3,h4⟩
  ·have:=h.od g (h3▸hg);rw[hold g (hlt1 g this),this]
  ·rw[h3] at hg;cases hg;exact hnew _ h4 (h8.lt _ h3)
 ·rcases o9 with h3|⟨k,h3,h4⟩
  ·have:=h.on g (h3▸hg);rw[hold g (hlt1 g this),this]
  ·rw[h3] at hg;cases hg;exact hnew _ h4 (h9.lt _ h3)
 ·by_cases hji:j=i
  ·subst hji;simp only[if_true];have h1:Bg wx (grow (λk=>k=gd) w2 w5) gn gd n j 0 c .fresh [] false 0 0:=hn.mv hm λk hk hkl hf=>by have h2:=hlt1 k (hown1 k hk);rcases hf with hf|⟨hf,_⟩<;>omega
   exact h1.foot λk hk hkl=>by
    rcases hk with hk|⟨h3,h4⟩
    ·exact hmid k (by omega) (by
      have:=HGD k hk;omega)
    ·exact hmid k (by omega) h4
  ·simp only[if_neg hji];have h1:=(h.nodes j (by omega)).mv (Mv.of_below hb:Mv (λ_=>False) wr w5) λk hk _=>hk.elim;have h2:=h1.mv hm λk hk hkl hf=>by have:=hown1 k hk;omega
   exact h2.foot λk hk hkl=>by rw[hold k (hol k (by omega)).2];exact hk
 ·have hk2:(if wr.heap.size≤k∧k<w5.heap.size then 2+i else if w5.heap.size≤k∧k<wx.heap.size then 1 else own k)≠0:=hk;have hw:=h.bel.size;split at hk2
  ·omega
  ·split at hk2
   ·omega
   ·have:=hol k hk2;omega
 ·exact h.bel.trans ((hb.mono h.bel.size).trans (hm.below (Nat.le_trans h.bel.size hs1) λk hk=>(hol k (by rw[hown1 k hk];decide)).1))
structure N2(w0:World)(n:Nat)(c:Cm)(gC k:Nat)(w:World)(own:Nat→Nat)(dv:Value)(obd:Option Nat)(gds:Nat→Nat)(nv:Value)(obn:Option Nat)(gs:Nat→Nat)(clv:Value)(obc:Option Nat)(gcl:Nat→Nat):Prop where
 cl:Holds w gC 85 (DW n dv nv clv (.slice none 0 0) (.slice none 0 0) (.slice none 0 0))
 oc:own gC=1
 ds:AU w dv obd 87 1 n (ptrs n gds)
 od:∀g,obd=some g→own g=1
 ns:AU w nv obn 59 1 n (ptrs n gs)
 on:∀g,obn=some g→own g=1
 nodes:∀j,j<n→Bg w (λk=>own k=2+j) (gs j) (gds j) n j 0 c .fresh [] false 0 0
 cs:AU w clv obc 92 1 k (ptrs k gcl)
 ocl:∀g,obc=some g→own g=1
 cats:∀j,j<k→Hq w (gcl j) ((j:Int)+1) 0 Cm.zero false 0 0∧own (gcl j)=1
 lt:∀k,own k≠0→w0.heap.size≤k∧k<w.heap.size
 bel:Below w0.heap.size w0 w
def jA(w0:World)(n:Nat)(c:Cm)(gC k:Nat)(w:World):Prop:=∃own dv obd gds nv obn gs clv obc gcl,N2 w0 n c gC k w own dv obd gds nv obn gs clv obc gcl
theorem N2.step{w0 wr wx:World}{n:Nat}{c:Cm}{gC k gk:Nat}{own:Nat→Nat}{dv:Value}{obd:Option Nat}{gds:Nat→Nat}{nv:Value}{obn:Option Nat}{gs:Nat→Nat}{clv:Value}{obc:Option Nat}{gcl:Nat→Nat}{v5:Value}{ob5:Option Nat}(h:N2 w0 n c gC k wr own dv obd gds nv obn gs clv obc gcl)(hgk:wr.heap.size=gk) (hcl:Holds wx gC 85 (DW n dv nv v5 (.slice none 0 0) (.slice none 0 0) (.slice none 0 0))) (ho:AU wx v5 ob5 92 1 (k+1) (ptrs k gcl++[.pointer (some ⟨gk,0,none⟩)])) (hob:ob5=obc∨∃k,ob5=some k∧wr.heap.size≤k) (hcx:Hq wx gk ((k:Int)+1) 0 Cm.zero false 0 0) (hm:Mv (λk=>k=gC∨obc=some k) wr wx):jA w0 n c gC (k+1) wx:=by
 have hs2:=hm.size;have hol:=h.lt;have hold:∀k,k<wr.heap.size→CY own wr wx 1 k=own k:=λk hk=>Ec _ _ _ _ _ hk;have hown1:∀k,(k=gC∨obc=some k)→own k=1:=by
  rintro k (rfl|hk)
  ·exact h.oc
  ·exact h.ocl k hk
 have hlt1:∀k,own k=1→k<wr.heap.size:=λk hk=>(hol k (by omega)).2;have hT:∀g t L,Holds wr g t L→t≠85→t≠92→¬(g=gC∨obc=some g):=by
  rintro g t L hg h1 h2 (rfl|hk)
  ·exact h1 (BU hg h.cl)
  ·exact CV h.cs hg (Ne.symm h2) hk
 refine⟨CY own wr wx 1,dv,obd,gds,nv,obn,gs,v5,ob5,λj=>if j=k then gk else gcl j,hcl,by rw[hold _ h.cl.lt,h.oc],h.ds.mv hm λg hg=>?_,λg hg=>by rw[hold g (hlt1 g (h.od g hg)),h.od g hg],h.ns.mv hm λg hg=>?_,λg hg=>by rw[hold g (hlt1 g (h.on g hg)),h.on g hg],λj hj=>?_,MV k gcl gk▸ho,λg hg=>?_,λj hj=>?_,λx hx=>?_,h.bel.trans (hm.below h.bel.size λg hg=>(hol g (by rw[hown1 g hg];decide)).1)⟩
 ·rcases h.ds.cases with⟨_,h0,_⟩|⟨g1,_,_,_,h0,_,_,hh,_⟩
  ·rw[h0] at hg;cases hg
  ·rw[h0] at hg;cases hg;exact hT _ _ _ hh (by decide) (by decide)
 ·rcases h.ns.cases with⟨_,h0,_⟩|⟨g1,_,_,_,h0,_,_,hh,_⟩
  ·rw[h0] at hg;cases hg
  ·rw[h0] at hg;cases hg;exact hT _ _ _ hh (by decide) (by decide)
 ·have h2:=(h.nodes j hj).mv hm λk hk hkl hf=>by have:=hown1 k hk;omega
  exact h2.foot λx hx hkl=>by rw[hold x (hol x (by omega)).2];exact hx
 ·rcases hob with h3|⟨x,h3,h4⟩
  ·have:=h.ocl g (h3▸hg);rw[hold g (hlt1 g this),this]
  ·rw[h3] at hg;cases hg;exact Es _ _ _ _ _ h4 (ho.lt _ h3)
 ·by_cases hjk:j=k
  ·subst hjk;simp only[if_true];exact⟨hcx,Es _ _ _ _ _ (by omega) hcx.lt⟩
  ·simp only[if_neg hjk];obtain⟨h5,h6⟩:=h.cats j (by omega);exact⟨Holds.mv h5 hm (hT _ _ _ h5 (by decide) (by decide)),by rw[hold _ h5.lt,h6]⟩
 ·by_cases hx2:wr.heap.size≤x∧x<wx.heap.size
  ·exact⟨Nat.le_trans h.bel.size hx2.1,hx2.2⟩
  ·have h7:CY own wr wx 1 x=own x:=if_neg hx2;rw[h7] at hx;have:=hol x hx;omega
def PU(w0:World)(n:Nat)(c:Cm)(gC:Nat)(w:World):Prop:=∃own,Eb w own gC n 0 c 0 (DK n)∧(∀k,own k≠0→w0.heap.size≤k)∧Below w0.heap.size w0 w
theorem PU.next{w0 w w':World}{n:Nat}{c:Cm}{gC:Nat}{own own':Nat→Nat}(hlo:∀k,own k≠0→w0.heap.size≤k)(hb:Below w0.heap.size w0 w)(h:Eb w' own' gC n 0 c 0 { DK n with lets:=(DK n).lets++[] })(hs:Stepped w own w' own'):PU w0 n c gC w':=by
 refine⟨own',h,λk hk=>?_,hb.trans (hs.2.below hb.size λk hk=>hlo k hk)⟩;by_cases hkw:k<w.heap.size
 ·rw[hs.1 k hkw] at hk;exact hlo k hk
 ·have:=hb.size;omega
def MC:List Value:=Cm.zero.cells++(Cm.zero.cells++Cm.zero.cells++Cm.zero.cells++Cm.zero.cells++Cm.zero.cells++Cm.zero.cells++Cm.zero.cells)
theorem WB:∀W:World,(Instr.makeSlice 83 (.int .i64 8) (.int .i64 8)).run prog W=.ok (.slice (some ⟨W.heap.size,0,none⟩) 8 8) (W.alloc (.cells MC.toArray 23)):=λ_=>by kernel_rfl
theorem N2.start{w0 wr w7:World}{n:Nat}{c:Cm}{gC:Nat}{own:Nat→Nat}{dv:Value}{obd:Option Nat}{gds:Nat→Nat}{nv:Value}{obn:Option Nat}{gs:Nat→Nat}{clv:Value}{obc:Option Nat}{gcl:Nat→Nat}(h:N2 w0 n c gC 8 wr own dv obd gds nv obn gs clv obc gcl)(hn:0<n) (hc:Holds w7 gC 85 (DW n dv nv clv (.slice (some ⟨wr.heap.size,0,none⟩) 8 8) (.slice none 0 0) (.slice none 0 0))) (ht:Touch gC (wr.alloc (.cells MC.toArray 23)) w7):PU w0 n c gC w7:=by
 have hb:=(Below.refl wr.heap.size wr).alloc (Nat.le_refl _) (.cells MC.toArray 23);have hs1:=ht.size;have hsz:wr.heap.size+1≤w7.heap.size:=by
  have:(wr.alloc (.cells MC.toArray 23)).heap.size=wr.heap.size+1:=by simp
  omega
 have hm:Mv (λk=>k=gC) wr w7:=(Mv.of_below hb).mv (Mv.Aa ht rfl:Mv (λk=>k=gC) _ w7) λk hk=>.inl hk;have hol:=h.lt;have hold:∀k,k<wr.heap.size→CY own wr w7 1 k=own k:=λk hk=>Ec _ _ _ _ _ hk;have hlt1:∀k,own k=1→k<wr.heap.size:=λk hk=>(hol k (by omega)).2;have hca:Holds w7 wr.heap.size 23 MC:=(AA wr 23 MC).mv (Mv.Aa ht rfl:Mv (λk=>k=gC) _ w7) (by have:=h.cl.lt;omega);obtain⟨gN,cN,rN,rfl,rfl,hcN1,hcN2,hnh,_⟩:=h.ns.blk hn;obtain⟨gCl,cCl,rC,rfl,rfl,hcC1,hcC2,hch,_⟩:=h.cs.blk (by decide);obtain⟨gD,cD,rD,rfl,rfl,hcD1,hcD2,hdh,_⟩:=h.ds.blk hn;have hD:Holds w7 gD 87 (ptrs n gds++rD):=hdh.mv hm (hdh.ne_of h.cl (by decide));have hN:Holds w7 gN 59 (ptrs n gs++rN):=hnh.mv hm (hnh.ne_of h.cl (by decide));have hC:Holds w7 gCl 92 (ptrs 8 gcl++rC):=hch.mv hm (hch.ne_of h.cl (by decide));have hcat:∀j,j<8→Hq w7 (gcl j) ((j:Int)+1) 0 Cm.zero false 0 0:=λj hj=>Holds.mv (h.cats j hj).1 hm ((h.cats j hj).1.ne_of h.cl (by decide));have hlt7:∀k,CY own wr w7 1 k≠0→w0.heap.size≤k∧k<w7.heap.size:=by
  intro x hx;have hbs:=h.bel.size;by_cases hx2:wr.heap.size≤x∧x<w7.heap.size
  ·exact⟨by omega,hx2.2⟩
  ·have h7:CY own wr w7 1 x=own x:=if_neg hx2;rw[h7] at hx;have:=hol x hx;omega
 refine⟨CY own wr w7 1,⟨_,gN,cN,gCl,cCl,wr.heap.size,.slice none 0 0,.slice none 0 0,λi=>some (gs i),gds,gcl,⟨hc,⟨by rw[hold _ h.cl.lt,h.oc],by rw[hold _ hnh.lt,h.on gN rfl],by rw[hold _ hch.lt,h.ocl gCl rfl],Es _ _ _ _ _ (Nat.le_refl _) (by omega)⟩,⟨rN,hN⟩,⟨hcN1,hcN2⟩,⟨rC,hC⟩,⟨hcC1,hcC2⟩,.inl ⟨rfl,rfl,by have:=hcat 0 (by decide);exact this⟩,λj hj _=>hcat j hj,λj hj=>by rw[hold _ (h.cats j hj).1.lt,(h.cats j hj).2],⟨Cm.zero.cells,_,hca,rfl,rfl,λh=>absurd rfl h⟩,⟨none,AU.nil _ _ _,by simp⟩,⟨λ_=>rfl,none,AU.nil _ _ _,by simp⟩,⟨gD,cD,rD,rfl,hcD1,by rw[hold _ hdh.lt,h.od gD rfl],hD⟩,λk hk=>(hlt7 k hk).2⟩,λj hj=>?_,by simp[DK],by simp[DK]⟩,λk hk=>(hlt7 k hk).1,h.bel.trans ((hb.mono h.bel.size).trans (ht.below (hol gC (by rw[h.oc];decide)).1 (Nat.le_trans h.bel.size hb.size)))⟩;have h2:=(h.nodes j hj).mv hm λk hk hkl hf=>by have:=h.oc;rw[hk] at hf;omega
 rw[IZ,QC];refine .inr ⟨by simp,gs j,rfl,?_⟩;exact h2.foot λx hx hkl=>by rw[hold x (hol x (by omega)).2];exact hx
theorem fJ(n:Nat)(c:Cm)(w:World)(hn:n=3∨n=5∨n=7)(hc:CU c)(h1:c.c=1)(h2:c.s=1) :Calls prog 25 #[.int .i64 n] w λe w'=>∃gC,e=.returned (.tuple #[.pointer (some ⟨gC,0,none⟩),.int .i64 0])∧PU w n c gC w':=by
 have hms:=WB;have KD:=qh Xt;have KN:=qh (λi gd W (hi:i<n) hd=>Yl W n i 0 gd c hd hn hi (by omega) hc h1 h2);have KCl:=qh (λ(k:Nat) W (hk:k<8)=>dQ ((k:Int)+1) W (by omega));have hmx:max (n:Int) 1=n:=by omega
 have hmn:min (n:Int) 8=n:=by omega
 have hn8:n≤7:=by omega
 have hn0:0<n:=by omega
 clear h1 h2 hn;go_in;go_upto_region 2 with(fail);go_name_world W hW;obtain⟨HC,hbW,hsW⟩:=Ef 85 (DW n (.slice none 0 0) (.slice none 0 0) (.slice none 0 0) (.slice none 0 0) (.slice none 0 0) (.slice none 0 0)) hW;clear hW;have hI0:jB w n c w.heap.size 0 W:=⟨λk=>if k=w.heap.size then 1 else 0,.slice none 0 0,none,λ_=>0,.slice none 0 0,none,λ_=>0,⟨HC.o,if_pos rfl,AU.nil _ _ _,by simp,AU.nil _ _ _,by simp,λj hj=>by omega,λk hk=>by
  by_cases hkw:k=w.heap.size
  ·subst hkw;exact⟨Nat.le_refl _,HC.lt⟩
  ·simp[hkw] at hk,hbW⟩⟩
 have HI0:=qh hI0;clear hI0 hbW hsW HC;have hgC:w.heap.size=w.heap.size:=rfl;generalize hg0:w.heap.size=gC at HI0 ⊢;clear hgC;go_wp2_with fail;go_loopw [20] (λvi wr=>∃i:Nat,vi=.int .i64 (i:Int)∧i≤n∧jB w n c gC i wr) (λvi _=>n - (intOf vi).toNat);case atStart=>exact⟨0,rfl,Nat.zero_le _,HI0.o⟩
 case round=>
  clear HI0;obtain⟨i,rfl,hi,own,dv,obd,gds,nv,obn,gs,hI⟩:=hrel;have HI:=qh hI;clear hI;by_cases hin:i=n
  ·subst hin;have hw0:=qh (show jA w i c gC 0 wr from⟨own,dv,obd,gds,nv,obn,gs,.slice none 0 0,none,λ_=>0,⟨HI.cl,HI.oc,HI.ds,HI.od,HI.ns,HI.on,HI.nodes,AU.nil _ _ _,by simp,λj hj=>by omega,HI.lt,HI.bel⟩⟩);clear HI KN;go_wp2_with fail;go_loopw [10] (λvi wr2=>∃k:Nat,vi=.int .i64 ((k:Int)+1)∧k≤8∧jA w i c gC k wr2) (λvi _=>9 - (intOf vi).toNat);case atStart=>exact⟨0,rfl,by omega,hw0.out⟩
   case round=>
    clear hw0;obtain⟨k,rfl,hk,own2,dv2,obd2,gds2,nv2,obn2,gs2,clv,obc,gcl,hI2⟩:=hrel;have HI2:=qh hI2;clear hI2;by_cases hk8:k=8
    ·subst hk8;have HC:=HI2.cl;have h9:((8:Nat):Int)+1=9:=rfl;have h98:¬(((8:Nat):Int)+1≤8):=by omega
     try rw[h9]
     go_wp2_with (first|(refine sC 4 (HC.bel ((Below.refl _ _).alloc (Nat.le_refl _) _)) (.slice (some ⟨wr.heap.size,0,none⟩) 8 8) ?_;intro w7 hh7 ht7));have HS0:=qh (HI2.start (by omega) hh7 ht7);clear hh7 ht7 HI2 HC;go_loopw [82] (λvi wr3=>∃j:Nat,vi=.int .i64 (j:Int)∧j≤i∧PU w i c gC wr3) (λvi _=>i - (intOf vi).toNat);case atStart=>exact⟨0,rfl,Nat.zero_le _,HS0.o⟩
     case round=>
      clear HS0;obtain⟨j,rfl,hj,hS⟩:=hrel;have HS:=qh hS;clear hS;by_cases hji:j=i
      ·subst hji;go_wp2_with fail;refine b2 (v:=.tuple #[.pointer (some ⟨gC,0,none⟩),.int .i64 0]) ?_;exact⟨gC,rfl,HS.o⟩
      ·have hjl:j<i:=by omega
       have hjj:(j:Int)<(i:Int):=by omega
       obtain⟨own3,hst,hlo,hbe⟩:=HS.o;have KO:=qh (Nh _ own3 gC i 0 j c 0 (DK i) [] _ _ hst hjl (by rw[IZ];simp) rfl (λ_ _=>rfl) (λ_=>rfl) (by simp) (by simp[DK]));go_wp2_with fail;refine KO.mono ?_;rintro e w9 ⟨rfl,own4,hst4,hsp4⟩;have HS9:=qh (PU.next hlo hbe hst4 hsp4);clear hst4 hsp4 KO hst;go_wp2_with fail;go_roundw;case rel=>exact⟨j+1,by simp,by omega,HS9.o⟩
       case measure=>simp[intOf];omega
    ·have hk7:k<8:=by omega
     have hkk:((k:Int)+1)≤8:=by omega
     go_wp2_with fail;refine AY (KCl.o k _ hk7) ?_;rintro w3 ⟨hcat,hb3⟩;have HCT:=qh (show Holds w3 _ 132 _ from hcat);have HB3:=qh hb3;have HC:=qh (HI2.cl.bel hb3);have HCL:=qh (HI2.cs.bel hb3);clear hb3 hcat;generalize hgk:wr.heap.size=gk at HCT ⊢;have c3:=AZ HC.o 3;obtain⟨pc,cc,rfl⟩:∃pc cc,clv=.slice pc k cc:=by
      rcases HCL.cases with⟨r,_,r2,_⟩|⟨_,_,_,r,_⟩
      ·rw[r2];exact⟨_,_,r⟩
      ·exact⟨_,_,r⟩
     go_wp2_with (first|(refine IP rfl 82 92 (.pointer (some ⟨gk,0,none⟩)) [.pointer (some ⟨gk,0,none⟩)] rfl rfl rfl (λw=>by kernel_rfl) ?_;intro wa hna hba;have HNA:=qh hna;have HC4:=qh (HC.bel hba);have HCL4:=qh (HCL.bel hba);have HB4:=qh (HB3.trans (hba.mono HB3.size));have HCT4:=qh (HCT.bel hba);clear hna hba)|(at_builtin;refine aS (.pointer none) 1 8 HCL4.o [.pointer (some ⟨gk,0,none⟩)] (HNA.reads 0 _ (λj v hv=>by rw[Nat.zero_add];exact hv)) ?_;intro v5 ob5 w5 ho5 hob5 hm5;have HO5:=qh ho5;have HCT5:=qh (HCT4.mv hm5 (CV HCL4.o HCT4.o (by decide)));have hcc5:=CV HCL4.o HC4.o (by decide);have HC5:=qh (HC4.mv hm5 hcc5);have HM5:=qh (Mv.mv (F:=λk=>k=gC∨obc=some k) (Mv.of_below HB4.o) hm5 (λk hk=>.inl (.inr hk)));have hs4:=HB4.size;have hob5':ob5=obc∨∃k,ob5=some k∧wr.heap.size≤k:=hob5.imp id (λ⟨k,h,h2⟩=>⟨k,h,by omega⟩);clear ho5 hob5 hm5)|(refine sC 3 HC5.o v5 ?_ (hu:=HO5.c1) (h1:=HO5.c2);intro w7 hh7 ht7));have hm7:Mv (λk=>k=gC) w5 w7:=Mv.Aa ht7 rfl;have hcc7:=CV HO5.o HC5.o (by decide);have hcx7:Hq w7 gk ((k:Int)+1) 0 Cm.zero false 0 0:=Holds.mv (Holds.mv HCT5.o (Mv.refl (λ_=>False) _) id) hm7 (HCT5.ne_of HC5.o (by decide));have HFIN:=qh (HI2.step hgk hh7 (HO5.mv hm7 (λk hk hf=>hcc7 (hf▸hk))) hob5' hcx7 (HM5.mv hm7 (λk hk=>.inl (.inl hk))));clear hh7 ht7 hm7 HC HCL HC4 HCL4 HC5 HO5 HM5 HNA HI2 c3 HCT HCT4 HCT5;go_roundw;case rel=>exact⟨k+1,by simp,by omega,HFIN.o⟩
     case measure=>simp[intOf];omega
  ·have hilt:i<n:=by omega
   have hii:(i:Int)<(n:Int):=by omega
   go_wp2_with fail;refine AY (KD.o _) ?_;rintro w2 ⟨hd0,hb2⟩;have HB2:=qh hb2;have HD0:=qh hd0;clear hb2 hd0;go_wp2_with fail;refine(KN.o i _ _ hilt HD0.o).mono ?_;rintro e w5 ⟨gn,rfl,hnc,hm⟩;have HNC:=qh hnc;have HM5:=qh hm;have HD1:=HD0;clear hnc hm HD0;generalize hgd:wr.heap.size=gd at HNC HM5;have HB5:=qh (show Below wr.heap.size wr w5 from HB2.trans (HM5.below HB2.size (λk hk=>by omega)));have hgd5:gd<w5.heap.size:=by have h1:=HM5.size;have h2:=(show Holds w2 gd 125 _ from hgd▸HD1.o).lt;omega
   have hw25:wr.heap.size≤w2.heap.size:=HB2.size;have HC:=qh (HI.cl.bel HB5.o);have HD:=qh (HI.ds.bel HB5.o);have HN:=qh (HI.ns.bel HB5.o);have HM:=qh (Mv.refl (λk=>k=gC∨obd=some k∨obn=some k) w5);go_upto_region 9 with(fail);have hdcX:=CV HD.o HC.o (by decide);obtain⟨HC,HD,HN,HM⟩:=D8 (AP _ w5) HC HD HN HM;refine wp_region_noPanic ?_;refine CP (S:=λW'=>Mv (λk=>obd=some k) w5.drew W') (X0:=[15,18,21]) (by as_aux_lemma=>kernel_rfl) ?_;generalize w5.drew=wd at HC HD HN HM ⊢;have hSn:Mv (λk=>obd=some k) wd wd:=Mv.refl _ _;change wpAnyL _ _ _ _ _ _ 22 #[false,false,false,false,false,false,false,false,false,false,false,false,false,false,false,false,false,false,false,false,false,false] _ _;refine Gn 0 ?_;refine CS 4 ?_;refine BA 5 [8,15,16,17,18,19,20,21] (λw hSw=>AZ (HC.mv hSw hdcX) 1) ?_;refine CS 6 ?_;refine Dl 9 ?_;refine BA 12 [15,16,17,18,19,20,21] (λw hSw=>AZ (HC.mv hSw hdcX) 2) ?_;refine CS 13 ?_;refine rdA [7,14] (Az.cons rfl (λK hK=>?_) (Az.cons rfl (λK hK=>?_) (Az.nil)))
   ·skip
    refine tU 87 (.pointer (some ⟨gd,0,none⟩)) [.pointer (some ⟨gd,0,none⟩)] ?_;intro wa7 hna hba;obtain⟨HC,HD,HN,HM⟩:=D8 hba HC HD HN HM;try(have HA14:=qh (HA14.bel hba))
    have HA7:=qh hna;have hge7:=hba.size;clear hna;first|(have hSn:=hSn.bel hba;refine hK.out _ _ (λ_=>hSn) ?_)|refine hK.out _ _ GK ?_
    clear hK;try simp only[Act.put,zA,zB,zC]
    refine rdA [8,14] (Az.cons rfl (λK hK=>?_) (Az.cons rfl (λK hK=>?_) (Az.nil)))
    ·skip
     refine tS (.pointer none) 1 8 HD.o [.pointer (some ⟨gd,0,none⟩)] (HA7.reads 0 _ (λj v hv=>by rw[Nat.zero_add];exact hv)) ?_;intro v8 ob8 w8 ho8 hob8 hm8;have hdc:=CV HD.o HC.o (by decide);have hdn:=Je HN.o HD.o (by decide);try(have hda:=CV HD.o HA14.o (by decide);have HA14:=qh (HA14.mv hm8 hda))
     have HC:=qh (HC.mv hm8 hdc);have HN:=qh (HN.mv hm8 (λk hk hf=>hdn k hk hf));have hle8:=HM.size;have HM:=qh (HM.mv hm8 (λk hk=>.inl (.inr (.inl hk))));have HD8:=qh ho8;have hob8':ob8=obd∨∃k,ob8=some k∧w5.heap.size≤k:=hob8.imp id (λ⟨k,h,h2⟩=>⟨k,h,by omega⟩);have hSn:=hSn.mv hm8 (λk hk=>.inl hk);clear ho8 hob8 hm8 HD;change K (Act.put _ (some 45) _) _;refine BJ hK ?_;clear hK;refine BC 14 rfl (λK hK=>?_);refine tU 59 (.pointer (some ⟨gn,0,none⟩)) [.pointer (some ⟨gn,0,none⟩)] ?_;intro wa14 hna hba;obtain⟨HC,HN,HM⟩:=Ce hba HC HN HM;try(have HA7:=qh (HA7.bel hba))
     try(have HD:=qh (HD.bel hba))
     try(have HD8:=qh (HD8.bel hba))
     have HA14:=qh hna;have hge14:=hba.size;clear hna;first|(have hSn:=hSn.bel hba;refine hK.out _ _ (λ_=>hSn) ?_)|refine hK.out _ _ GK ?_
     clear hK;try simp only[Act.put,zA,zB,zC]
     refine BC 15 rfl (λK hK=>?_);refine tS (.pointer none) 1 8 HN.o [.pointer (some ⟨gn,0,none⟩)] (HA14.reads 0 _ (λj v hv=>by rw[Nat.zero_add];exact hv)) ?_;intro v9 ob9 w9 ho9 hob9 hm9;have hnc2:=CV HN.o HC.o (by decide);have hnd:=Je HD8.o HN.o (by decide);have HC:=qh (HC.mv hm9 hnc2);have HD8:=qh (HD8.mv hm9 (λk hk hf=>hnd k hk hf));have hle9:=HM.size;have HM:=qh (HM.mv hm9 (λk hk=>.inl (.inr (.inr hk))));have HN9:=qh ho9;have hob9':ob9=obn∨∃k,ob9=some k∧w5.heap.size≤k:=hob9.imp id (λ⟨k,h,h2⟩=>⟨k,h,by omega⟩);clear ho9 hob9 hm9 HN;change K (Act.put _ (some 52) _) _;refine BJ hK ?_;clear hK;refine FD 16 ?_ (hS:=GK);refine BC 18 rfl (λK hK=>?_);refine tC 1 HC.o v8 ?_ (hu:=HD8.c1) (h1:=HD8.c2);intro w10 hh10 ht10;have hm10:Mv (λk=>k=gC) _ w10:=Mv.Aa ht10 rfl;have hc8:=CV HD8.o HC.o (by decide);have hc9:=CV HN9.o HC.o (by decide);have HD8:=qh (HD8.mv hm10 (λk hk hf=>hc8 (hf▸hk)));have HN9:=qh (HN9.mv hm10 (λk hk hf=>hc9 (hf▸hk)));have HM:=qh (HM.mv hm10 (λk hk=>.inl (.inl hk)));have HC:=qh (show Holds w10 gC 85 (DW n v8 nv (.slice none 0 0) (.slice none 0 0) (.slice none 0 0) (.slice none 0 0)) from hh10);clear hh10 ht10 hm10;refine BJ hK ?_;clear hK;refine FD 19 ?_ (hS:=GK);refine BC 21 rfl (λK hK=>?_);refine tC 2 HC.o v9 ?_ (hu:=HN9.c1) (h1:=HN9.c2);intro w11 hh11 ht11;have hm11:Mv (λk=>k=gC) _ w11:=Mv.Aa ht11 rfl;have HD8:=qh (HD8.mv hm11 (λk hk hf=>hc8 (hf▸hk)));have HN9:=qh (HN9.mv hm11 (λk hk hf=>hc9 (hf▸hk)));have HM:=qh (HM.mv hm11 (λk hk=>.inl (.inl hk)));have HC:=qh (show Holds w11 gC 85 (DW n v8 v9 (.slice none 0 0) (.slice none 0 0) (.slice none 0 0) (.slice none 0 0)) from hh11);clear hh11 ht11 hm11;refine BJ hK ?_;clear hK;refine DX ?_;clear HA7 HA14;go_wp2_with fail;go_roundw;case rel=>exact⟨i+1,by simp,by omega,HI.step hilt hgd HB5.o hw25 (λk hk=>by omega) HNC.o HC.o HD8.o HN9.o hob8' hob9' HM.o⟩
     case measure=>simp[intOf];omega
    ·skip
     refine tU 59 (.pointer (some ⟨gn,0,none⟩)) [.pointer (some ⟨gn,0,none⟩)] ?_;intro wa14 hna hba;obtain⟨HC,HN,HM⟩:=Ce hba HC HN HM;try(have HA7:=qh (HA7.bel hba))
     try(have HD:=qh (HD.bel hba))
     try(have HD8:=qh (HD8.bel hba))
     have HA14:=qh hna;have hge14:=hba.size;clear hna;first|(have hSn:=hSn.bel hba;refine hK.out _ _ (λ_=>hSn) ?_)|refine hK.out _ _ GK ?_
     clear hK;try simp only[Act.put,zA,zB,zC]
     refine BC 8 rfl (λK hK=>?_);refine tS (.pointer none) 1 8 HD.o [.pointer (some ⟨gd,0,none⟩)] (HA7.reads 0 _ (λj v hv=>by rw[Nat.zero_add];exact hv)) ?_;intro v8 ob8 w8 ho8 hob8 hm8;have hdc:=CV HD.o HC.o (by decide);have hdn:=Je HN.o HD.o (by decide);try(have hda:=CV HD.o HA14.o (by decide);have HA14:=qh (HA14.mv hm8 hda))
     have HC:=qh (HC.mv hm8 hdc);have HN:=qh (HN.mv hm8 (λk hk hf=>hdn k hk hf));have hle8:=HM.size;have HM:=qh (HM.mv hm8 (λk hk=>.inl (.inr (.inl hk))));have HD8:=qh ho8;have hob8':ob8=obd∨∃k,ob8=some k∧w5.heap.size≤k:=hob8.imp id (λ⟨k,h,h2⟩=>⟨k,h,by omega⟩);have hSn:=hSn.mv hm8 (λk hk=>.inl hk);clear ho8 hob8 hm8 HD;change K (Act.put _ (some 45) _) _;refine BJ hK ?_;clear hK;refine BC 15 rfl (λK hK=>?_);refine tS (.pointer none) 1 8 HN.o [.pointer (some ⟨gn,0,none⟩)] (HA14.reads 0 _ (λj v hv=>by rw[Nat.zero_add];exact hv)) ?_;intro v9 ob9 w9 ho9 hob9 hm9;have hnc2:=CV HN.o HC.o (by decide);have hnd:=Je HD8.o HN.o (by decide);have HC:=qh (HC.mv hm9 hnc2);have HD8:=qh (HD8.mv hm9 (λk hk hf=>hnd k hk hf));have hle9:=HM.size;have HM:=qh (HM.mv hm9 (λk hk=>.inl (.inr (.inr hk))));have HN9:=qh ho9;have hob9':ob9=obn∨∃k,ob9=some k∧w5.heap.size≤k:=hob9.imp id (λ⟨k,h,h2⟩=>⟨k,h,by omega⟩);clear ho9 hob9 hm9 HN;change K (Act.put _ (some 52) _) _;refine BJ hK ?_;clear hK;refine FD 16 ?_ (hS:=GK);refine BC 18 rfl (λK hK=>?_);refine tC 1 HC.o v8 ?_ (hu:=HD8.c1) (h1:=HD8.c2);intro w10 hh10 ht10;have hm10:Mv (λk=>k=gC) _ w10:=Mv.Aa ht10 rfl;have hc8:=CV HD8.o HC.o (by decide);have hc9:=CV HN9.o HC.o (by decide);have HD8:=qh (HD8.mv hm10 (λk hk hf=>hc8 (hf▸hk)));have HN9:=qh (HN9.mv hm10 (λk hk hf=>hc9 (hf▸hk)));have HM:=qh (HM.mv hm10 (λk hk=>.inl (.inl hk)));have HC:=qh (show Holds w10 gC 85 (DW n v8 nv (.slice none 0 0) (.slice none 0 0) (.slice none 0 0) (.slice none 0 0)) from hh10);clear hh10 ht10 hm10;refine BJ hK ?_;clear hK;refine FD 19 ?_ (hS:=GK);refine BC 21 rfl (λK hK=>?_);refine tC 2 HC.o v9 ?_ (hu:=HN9.c1) (h1:=HN9.c2);intro w11 hh11 ht11;have hm11:Mv (λk=>k=gC) _ w11:=Mv.Aa ht11 rfl;have HD8:=qh (HD8.mv hm11 (λk hk hf=>hc8 (hf▸hk)));have HN9:=qh (HN9.mv hm11 (λk hk hf=>hc9 (hf▸hk)));have HM:=qh (HM.mv hm11 (λk hk=>.inl (.inl hk)));have HC:=qh (show Holds w11 gC 85 (DW n v8 v9 (.slice none 0 0) (.slice none 0 0) (.slice none 0 0) (.slice none 0 0)) from hh11);clear hh11 ht11 hm11;refine BJ hK ?_;clear hK;refine DX ?_;clear HA7 HA14;go_wp2_with fail;go_roundw;case rel=>exact⟨i+1,by simp,by omega,HI.step hilt hgd HB5.o hw25 (λk hk=>by omega) HNC.o HC.o HD8.o HN9.o hob8' hob9' HM.o⟩
     case measure=>simp[intOf];omega
   ·skip
    refine tU 59 (.pointer (some ⟨gn,0,none⟩)) [.pointer (some ⟨gn,0,none⟩)] ?_;intro wa14 hna hba;obtain⟨HC,HN,HM⟩:=Ce hba HC HN HM;try(have HA7:=qh (HA7.bel hba))
    try(have HD:=qh (HD.bel hba))
    try(have HD8:=qh (HD8.bel hba))
    have HA14:=qh hna;have hge14:=hba.size;clear hna;first|(have hSn:=hSn.bel hba;refine hK.out _ _ (λ_=>hSn) ?_)|refine hK.out _ _ GK ?_
    clear hK;try simp only[Act.put,zA,zB,zC]
    refine BC 7 rfl (λK hK=>?_);refine tU 87 (.pointer (some ⟨gd,0,none⟩)) [.pointer (some ⟨gd,0,none⟩)] ?_;intro wa7 hna hba;obtain⟨HC,HD,HN,HM⟩:=D8 hba HC HD HN HM;try(have HA14:=qh (HA14.bel hba))
    have HA7:=qh hna;have hge7:=hba.size;clear hna;first|(have hSn:=hSn.bel hba;refine hK.out _ _ (λ_=>hSn) ?_)|refine hK.out _ _ GK ?_
    clear hK;try simp only[Act.put,zA,zB,zC]
    refine BC 8 rfl (λK hK=>?_);refine tS (.pointer none) 1 8 HD.o [.pointer (some ⟨gd,0,none⟩)] (HA7.reads 0 _ (λj v hv=>by rw[Nat.zero_add];exact hv)) ?_;intro v8 ob8 w8 ho8 hob8 hm8;have hdc:=CV HD.o HC.o (by decide);have hdn:=Je HN.o HD.o (by decide);try(have hda:=CV HD.o HA14.o (by decide);have HA14:=qh (HA14.mv hm8 hda))
    have HC:=qh (HC.mv hm8 hdc);have HN:=qh (HN.mv hm8 (λk hk hf=>hdn k hk hf));have hle8:=HM.size;have HM:=qh (HM.mv hm8 (λk hk=>.inl (.inr (.inl hk))));have HD8:=qh ho8;have hob8':ob8=obd∨∃k,ob8=some k∧w5.heap.size≤k:=hob8.imp id (λ⟨k,h,h2⟩=>⟨k,h,by omega⟩);have hSn:=hSn.mv hm8 (λk hk=>.inl hk);clear ho8 hob8 hm8 HD;change K (Act.put _ (some 45) _) _;refine BJ hK ?_;clear hK;refine BC 15 rfl (λK hK=>?_);refine tS (.pointer none) 1 8 HN.o [.pointer (some ⟨gn,0,none⟩)] (HA14.reads 0 _ (λj v hv=>by rw[Nat.zero_add];exact hv)) ?_;intro v9 ob9 w9 ho9 hob9 hm9;have hnc2:=CV HN.o HC.o (by decide);have hnd:=Je HD8.o HN.o (by decide);have HC:=qh (HC.mv hm9 hnc2);have HD8:=qh (HD8.mv hm9 (λk hk hf=>hnd k hk hf));have hle9:=HM.size;have HM:=qh (HM.mv hm9 (λk hk=>.inl (.inr (.inr hk))));have HN9:=qh ho9;have hob9':ob9=obn∨∃k,ob9=some k∧w5.heap.size≤k:=hob9.imp id (λ⟨k,h,h2⟩=>⟨k,h,by omega⟩);clear ho9 hob9 hm9 HN;change K (Act.put _ (some 52) _) _;refine BJ hK ?_;clear hK;refine FD 16 ?_ (hS:=GK);refine BC 18 rfl (λK hK=>?_);refine tC 1 HC.o v8 ?_ (hu:=HD8.c1) (h1:=HD8.c2);intro w10 hh10 ht10;have hm10:Mv (λk=>k=gC) _ w10:=Mv.Aa ht10 rfl;have hc8:=CV HD8.o HC.o (by decide);have hc9:=CV HN9.o HC.o (by decide);have HD8:=qh (HD8.mv hm10 (λk hk hf=>hc8 (hf▸hk)));have HN9:=qh (HN9.mv hm10 (λk hk hf=>hc9 (hf▸hk)));have HM:=qh (HM.mv hm10 (λk hk=>.inl (.inl hk)));have HC:=qh (show Holds w10 gC 85 (DW n v8 nv (.slice none 0 0) (.slice none 0 0) (.slice none 0 0) (.slice none 0 0)) from hh10);clear hh10 ht10 hm10;refine BJ hK ?_;clear hK;refine FD 19 ?_ (hS:=GK);refine BC 21 rfl (λK hK=>?_);refine tC 2 HC.o v9 ?_ (hu:=HN9.c1) (h1:=HN9.c2);intro w11 hh11 ht11;have hm11:Mv (λk=>k=gC) _ w11:=Mv.Aa ht11 rfl;have HD8:=qh (HD8.mv hm11 (λk hk hf=>hc8 (hf▸hk)));have HN9:=qh (HN9.mv hm11 (λk hk hf=>hc9 (hf▸hk)));have HM:=qh (HM.mv hm11 (λk hk=>.inl (.inl hk)));have HC:=qh (show Holds w11 gC 85 (DW n v8 v9 (.slice none 0 0) (.slice none 0 0) (.slice none 0 0) (.slice none 0 0)) from hh11);clear hh11 ht11 hm11;refine BJ hK ?_;clear hK;refine DX ?_;clear HA7 HA14;go_wp2_with fail;go_roundw;case rel=>exact⟨i+1,by simp,by omega,HI.step hilt hgd HB5.o hw25 (λk hk=>by omega) HNC.o HC.o HD8.o HN9.o hob8' hob9' HM.o⟩
    case measure=>simp[intOf];omega
section
def sizeOf3(r:Nat):Nat:=if r=0 then 3 else if r=1 then 5 else 7
theorem jR(n:Int)(r:Nat)(hn:-9223372036854775808≤n∧n≤9223372036854775807)(hr:n % 3=(r:Int))(w:World)(R:Nat→World→Prop) (KN:∀W,Below w.heap.size w W→Calls prog 25 #[.int .i64 (sizeOf3 r)] W λe W'=>∃gC,e=.returned (.tuple #[.pointer (some ⟨gC,0,none⟩),.int .i64 0])∧R gC W') :Calls prog 7 #[.int .i64 n] w λe w'=>∃gC,e=.returned (.pointer (some ⟨gC,0,none⟩))∧R gC w':=by
 have hr3:r<3:=by omega
 have KW:=qh (λW=>Kv n 0 2 W hn (by omega) (by omega) (by omega));have hb3:(Instr.buildSlice 30 3 #[(0,.int .i64 3),(1,.int .i64 5),(2,.int .i64 7)]).run prog w=.ok (.slice (some ⟨w.heap.size,0,none⟩) 3 3) (w.alloc (.cells #[.int .i64 3,.int .i64 5,.int .i64 7] 3)):=by kernel_rfl
 have KN:=qh KN;have HB:=qh (Base.start w);go_in;go_upto_region 1 with(fail);go_wp2_with fail;have hbW:Below w.heap.size w (w.alloc (.cells #[.int .i64 3,.int .i64 5,.int .i64 7] 3)):=(Below.refl _ _).alloc (Nat.le_refl _) _;have HX:=qh (AA w 3 [.int .i64 3,.int .i64 5,.int .i64 7]);have HB:=Ci hbW HB;clear hbW;generalize hB0:w.heap.size=gx at HX HB KN ⊢;generalize w.alloc (.cells #[.int .i64 3,.int .i64 5,.int .i64 7] 3)=W1 at HX HB ⊢;refine AY (KW.o _) ?_;rintro w1 rfl;have hr2:0+n % (2-0+1)=(r:Int):=by omega
 rw[hr2];have p:=HX.cell r;rw[show ([.int .i64 3,.int .i64 5,.int .i64 7]:List Value)[r]?=some (.int .i64 (sizeOf3 r)) by rcases(show r=0∨r=1∨r=2 by omega) with rfl|rfl|rfl<;>rfl] at p;have hri:(r:Int)<3:=by omega
 clear hr2 hr hn KW HX;go_wp2_with fail;refine(KN.o _ HB.below).mono ?_;rintro e w2 ⟨gC,rfl,h2⟩;have H2:=qh h2;clear h2 p HB KN;go_wp2_with fail;go_ret;exact⟨gC,rfl,H2.o⟩
section
variable {P:Program} {ops:Array Oper} {Q:Exit→Act→World→Prop}
theorem PS{rest:List Oper}{o:Oper}{a:Act}{w:World}(hw:Region.wanted o (yielded ops a.tmps)=true)(t:TypeId)(i j k l:Nat)(p:Value)(q r s:Tmp)(ho:o.op=.build t #[(i,.const p),(j,.tmp q),(k,.tmp r),(l,.tmp s)])(u v x:Value)(hu:a.eval (.tmp q)=u)(hv:a.eval (.tmp r)=v)(hx:a.eval (.tmp s)=x) (z:Value) (hr:∀w,(Instr.build t #[(i,p),(j,u),(k,v),(l,x)]).run P w=.ok z w) (h:wpList P ops Q rest (a.put o.dst z) w):wpList P ops Q (o :: rest) a w:=
 wpList_step λK hK=>by rw[if_pos hw];unfold Oper.wp execOp;simp only[ho,List.map_toArray,List.map_cons,List.map_nil,hu,hv,hx];rw[show a.eval (.const p)=p from rfl,Sem.run_bind,hr];exact hK _ _ h
end
theorem SS(tto:Nat)(x:Cm)(w:World):(Instr.build 32 #[(0,.int .i64 1),(3,.int .i64 1),(1,.int .i64 tto),(4,.agg x.cells.toArray)]).run prog w=.ok (.agg (Gp tto x).toArray) w:=by kernel_rfl
theorem Wj(tto:Nat)(x:Cm):(Gp tto x).toArray.all (·.oneCell')=true:=by simp[Gp,Value.oneCell']
theorem aW(tto:Nat)(x:Cm)(w:World) :Calls prog 12 #[.int .i64 1,.int .i64 tto,.agg x.cells.toArray] w λe w'=>e=.returned (.agg (Gp tto x).toArray)∧Below w.heap.size w w':=by
 go_in;go_upto_region 1 with(fail);go_name_world W hW;have hW:Ba w [.cells (x.cells:List Value).toArray 23,.cells (Dh 0 0:List Value).toArray 32]=W:=hW;have HX:=qh (show Holds W (w.heap.size) 23 (x.cells) from AQ _ hW 0 rfl);have HS:=qh (show Holds W (w.heap.size+1) 32 (Dh 0 0) from AQ _ hW 1 rfl);have hbW:=Ag _ hW;have hsW:=BD _ hW;simp only[List.length_cons,List.length_nil] at hsW;clear hW;have HB:=qh (Base.start w);have HB:=Ci hbW HB;clear hbW hsW;have HRG:=qh HX.AX;generalize hx0:w.heap.size+1=gs at HS ⊢;have hgs:w.heap.size≤gs:=by omega
 generalize hw0:w.heap.size=gx at HX HRG HB hgs hx0 ⊢;go_wp2_with (first|(refine lM 0 HRG.o ?_)|(with_reducible show wpList _ _ _ (_ :: _) _ _;refine PS (by kernel_rfl) 32 0 3 1 4 _ _ _ _ rfl (.int .i64 1) (.int .i64 tto) (.agg x.cells.toArray) rfl rfl rfl (.agg (Gp tto x).toArray) (SS tto x) ?_)|(refine sW (Gp tto x) HS.o ?_ (Wj _ _);intro w3 hh3 ht3));have HB:=qh (HB.touch ht3 (by omega));have HR:=qh hh3.AX;clear hh3 ht3 HRG;refine bC HR.o ?_;exact⟨rfl,hw0▸HB.below⟩
end
end Go.Proofs.YtimdpiifpibgfaaGreatDoor
