/- A part of the proof that the law TopGone returns true for every input. -/
import Derived.Test.YtimdpiifpibgfaaGreatDoorQg42
set_option linter.all false
set_option maxRecDepth 20000
set_option maxHeartbeats 16000000
open Go.RowKit Go.Maps
namespace Go.Proofs.YtimdpiifpibgfaaGreatDoor
open Tryz
theorem Lr{k n p:Nat}(hp:p<n):∀x∈Bq k n p,x.2.2<n:=by intro x hx;simp only[Bq,Dv,List.mem_map,List.mem_range] at hx;obtain⟨r,⟨i,hi,rfl⟩,rfl⟩:=hx;show (if i<p then i else i+1)<n;split<;>omega
theorem RX{n p:Nat}{dn:Bool}(hp:p<n):∀x∈fronts n p dn,x.2.2<n:=by
 intro x hx;simp only[fronts,Dv,List.mem_flatMap,List.mem_map,List.mem_range] at hx;obtain⟨r,⟨i,hi,rfl⟩,hx⟩:=hx;have:(if i<p then i else i+1)<n:=by split<;>omega
 simp only[List.mem_cons,List.not_mem_nil,or_false] at hx;rcases hx with rfl|rfl<;>exact this
theorem UV{n q i:Nat}{ph ph':Ph}{tk:Nat}{out:List Lt}(h:Iu n q i ph tk=some (ph',out))(hi:i<n):(∀x∈out,x.2.2<n)∧ph'≠.gone:=by
 unfold Iu at h
 repeat' split at h
 all_goals first
  | (cases h;done)
  | (simp only[Option.some.injEq,Prod.mk.injEq] at h
     obtain⟨rfl,rfl⟩:=h;refine⟨?_,by simp⟩;first
     | exact Lr hi
     | exact RX hi
     | simp)
theorem Dj.more{w:World}{own:Nat→Nat}{n q:Nat}{c:Cm}{B B':Nat}{phs:List Ph}{tks:List Nat}{gs:Nat→Option Nat}{gds:Nat→Nat}{out:Nat→List Lt}{an:Nat→Bool}(h:Dj w own n q c B phs tks gs gds out an)(hB:B≤B'):Dj w own n q c B' phs tks gs gds out an:=λi hi=>by
 rcases h i hi with h|⟨h1,g,h2,t,⟨h3,h4⟩,h5⟩
 ·exact .inl h
 ·exact .inr ⟨h1,g,h2,t,⟨h3,by omega⟩,h5⟩
theorem JU.more{w:World}{own:Nat→Nat}{gC n q:Nat}{c:Cm}{B B':Nat}{s:Cs}{out:Nat→List Lt}{an:Nat→Bool}(h:JU w own gC n q c B s out an)(hB:B≤B'):JU w own gC n q c B' s out an:=by obtain⟨dv,gN,cN,gCl,cCl,gCa,lv,hv,gs,gds,gcl,h1,h2,h3⟩:=h;exact⟨dv,gN,cN,gCl,cCl,gCa,lv,hv,gs,gds,gcl,h1,h2.more hB,h3⟩
theorem JU.lt{w:World}{own:Nat→Nat}{gC n q:Nat}{c:Cm}{B:Nat}{s:Cs}{out:Nat→List Lt}{an:Nat→Bool}(h:JU w own gC n q c B s out an):∀k,own k≠0→k<w.heap.size:=by obtain⟨dv,gN,cN,gCl,cCl,gCa,lv,hv,gs,gds,gcl,h1,h2,h3⟩:=h;exact h1.lt
theorem Stepped.same{w w':World}{own:Nat→Nat}(hb:Below w.heap.size w w'):Stepped w own w' own:=⟨λ_ _=>rfl,.of_below hb⟩
theorem aN(w:World)(own:Nat→Nat)(gC n q i:Nat)(c:Cm)(B:Nat)(s s':Cs)(h:Eb w own gC n q c B s)(hs:QD n q i s=some s')(hi:i<n)(hB:B<1000000)(hn3:3≤n)(hn:n≤7)(hq:q<n)(hc:CU c)(h1:c.c=1)(h2:c.s=1) :Calls prog 11 #[.pointer (some ⟨gC,0,none⟩),.agg (Dh 5 i).toArray] w λe w'=>∃b,e=.returned (.bool b)∧∃own',Eb w' own' gC n q c (B+1) s'∧Stepped w own w' own':=by
 have h0:=h;obtain⟨dv,gN,cN,gCl,cCl,gCa,lv,hvv,gs,gds,gcl,hBc,hN,hp,htl⟩:=h;obtain⟨rN,hnp⟩:=hBc.np;have hol:=hBc.lt;unfold QD at hs;split at hs
 ·rename_i hg;simp only[Option.some.injEq] at hs;subst hs;have hgi:gs i=none:=by
   rcases hN i hi with h|⟨h,_⟩
   ·exact h.2
   ·exact absurd hg h
  refine(XR gC i w λW hb=>?_).mono ?_
  ·have:=QN gC n gN cN i gs rN dv _ _ lv hvv W (hBc.cl.bel hb) (hnp.bel hb) hi;rw[hgi] at this;exact this
  ·rintro e w' ⟨rfl,hb⟩;exact⟨false,rfl,own,(JU.bel h0 hb).more (by omega),.same hb⟩
 rename_i hng;cases ht:Iu n q i (s.phs.getD i .fresh) (s.tks.getD i 0) with
 | none=>rw[ht] at hs;cases hs
 | some r=>
  obtain⟨ph',outl⟩:=r;rw[ht] at hs;simp only[Option.bind_some] at hs;unfold L9 at hs;split at hs
  ·cases hs
  rename_i hsum;simp only[Bool.false_eq_true,if_false,Option.some.injEq] at hs;subst hs;obtain⟨hdest,hpg⟩:=UV ht hi;obtain⟨gi,hgi,hnode⟩:∃gi,gs i=some gi∧Bg w (λk=>own k=2+i) gi (gds i) n i q c (s.phs.getD i .fresh) [] false (s.tks.getD i 0) B:=by
   rcases hN i hi with h|⟨_,gi,h1,h2⟩
   ·exact absurd h.1 hng
   ·exact⟨gi,h1,h2⟩
  refine(XT gC i gi (λW'=>∃own2,JU W' own2 gC n q c (B+1) { s with tks:=s.tks.set i ((s.tks.getD i 0+1) % 8),phs:=s.phs.set i ph' } (λj=>if j=i then outl else []) (λj=>if j=i then false else false)∧Stepped w own W' own2)
   (λW'=>∃own',Eb W' own' gC n q c (B+1) { s with tks:=s.tks.set i ((s.tks.getD i 0+1) % 8),phs:=s.phs.set i ph',lets:=s.lets++outl }∧Stepped w own W' own') w (λW hb=>PZ gC n gN cN i gi gs rN dv _ _ lv hvv W (hBc.cl.bel hb) (hnp.bel hb) hi hgi) (λW hb=>?_) (λW hR=>?_)).mono ?_
  ·have hsz:=hb.size;refine AY (WJ W (λk=>own k=2+i) gi (gds i) n i q c _ ph' outl _ B (hnode.mv (G:=λ_=>False) (.of_below hb) λ_ h=>h.elim) ht hB hn3 hn hq hi hc h1 h2) ?_;rintro W' ⟨hnc,hm⟩;obtain⟨g1,g2⟩:=Jc (w:=w) (s:=s) (s2:={ s with tks:=s.tks.set i ((s.tks.getD i 0+1) % 8),phs:=s.phs.set i ph' }) (hBc.bel hb) (hN.bel hb) hp htl hi hgi hnc hm (Nat.le_succ _) hpg rfl rfl (.same hb);exact⟨rfl,⟨_,g1,g2⟩,λg L hg hL=>hL.mv hm λhx=>by have:=hol g (by omega);omega⟩
  ·obtain⟨own2,hG,hsp⟩:=hR;have hng2:(s.phs.set i ph').getD i .fresh≠.gone:=by rw[GZ (by omega),if_pos rfl];exact hpg
   refine AY (Nh W own2 gC n q i c (B+1) _ outl _ _ hG hi hng2 (by simp) (λj hj=>by simp[hj]) (λj=>by simp) hdest (by simp;omega)) ?_;rintro w' ⟨own',h5,h6⟩;exact⟨rfl,own',h5,hsp.trans h6⟩
  ·rintro e w' ⟨rfl,h9⟩;exact⟨true,rfl,h9⟩
theorem Ur(w:World)(own:Nat→Nat)(gC n q:Nat)(c:Cm)(B:Nat)(s s':Cs)(h:Eb w own gC n q c B s)(hs:IR n q s=some s')(hlen:s.lets.length≤1000)(hn3:3≤n)(hn:n≤7)(hq:q<n)(hc:CU c)(h1:c.c=1)(h2:c.s=1) :Calls prog 11 #[.pointer (some ⟨gC,0,none⟩),.agg (Dh 2 0).toArray] w λe w'=>e=.returned (.bool true)∧∃own',Eb w' own' gC n q c B s'∧Stepped w own w' own':=by refine Q5 gC true (λw'=>∃own',Eb w' own' gC n q c B s'∧Stepped w own w' own') w λW hb=>?_;refine AY (Zb W own gC n q c B s s' (JU.bel h hb) hs hlen hn3 hn hq hc h1 h2) ?_;rintro w' ⟨own',h5,h6⟩;exact⟨rfl,own',h5,h6.pre hb⟩
theorem RH(w:World)(own:Nat→Nat)(gC n q j:Nat)(c:Cm)(B:Nat)(s:Cs)(h:Eb w own gC n q c B s)(hw:j=0→s.wait=false)(hj:j<8) :Calls prog 11 #[.pointer (some ⟨gC,0,none⟩),.agg (Dh 6 ((j:Int)+1)).toArray] w λe w'=>e=.returned (.bool true)∧Below w.heap.size w w':=by
 obtain⟨dv,gN,cN,gCl,cCl,gCa,lv,hvv,gs,gds,gcl,hB,hN,hp⟩:=h;obtain⟨rC,hcp⟩:=hB.cp;refine Q7 gC _ true (λw'=>Below w.heap.size w w') w λW hb=>?_;have key:∀id seq x tg tk,Hq w (gcl j) id seq x false tg tk→Calls prog 28 #[.pointer (some ⟨gC,0,none⟩),.int .i64 ((j:Int)+1)] W λe W'=>e=.returned (.bool true)∧Below w.heap.size w W':=by intro id seq x tg tk hc;refine AY (ctime gC n gCl cCl j gcl rC dv _ _ lv hvv id seq x tg tk W (hB.cl.bel hb) (hcp.bel hb) hj (Holds.bel hc hb)) ?_;rintro w' hb2;exact⟨rfl,hb.trans (hb2.mono hb.size)⟩
 by_cases h0:j=0
 ·subst h0;rcases hB.c0 with⟨_,_,e3⟩|⟨_,e3⟩
  ·exact key _ _ _ _ _ e3
  ·rw[hw rfl] at e3;exact key _ _ _ _ _ e3
 ·exact key _ _ _ _ _ (hB.cs j hj h0)
theorem Xu(w:World)(own:Nat→Nat)(gC n q:Nat)(c:Cm)(B:Nat)(s s':Cs)(h:Eb w own gC n q c B s)(hs:QE n s=some s')(htg:s.tg<7)(hct:s.ct≤1000)(hlen:s.lets.length≤1000)(hn3:3≤n)(hn:n≤7)(hq:q<n)(hc:CU c)(hk:c.k≠0)(h1:c.c=1)(h2:c.s=1)(hw:s.wait=true→s.hist=1) :Calls prog 11 #[.pointer (some ⟨gC,0,none⟩),.agg (Dh 6 (((0:Nat):Int)+1)).toArray] w λe w'=>e=.returned (.bool true)∧∃own',Eb w' own' gC n q c B s'∧Stepped w own w' own':=by
 unfold QE at hs;split at hs
 ·rename_i hwf;simp only[Option.some.injEq] at hs;subst hs;refine AY (RH w own gC n q 0 c B s h (λ_=>hwf) (by omega)) ?_;rintro w' hb;exact⟨rfl,own,JU.bel h hb,.same hb⟩
 rename_i hwf;have hwt:s.wait=true:=by simpa using hwf
 have hh1:=hw hwt;refine Q7 gC _ true (λw'=>∃own',Eb w' own' gC n q c B s'∧Stepped w own w' own') w λW hb=>?_;obtain⟨dv,gN,cN,gCl,cCl,gCa,lv,hvv,gs,gds,gcl,hB,hN,hp,htl⟩:=h;have hB:=hB.bel hb;have hN:=hN.bel hb;obtain⟨rC,hcp⟩:=hB.cp;obtain⟨rN,hnp⟩:=hB.np;have hcat:Hq W (gcl 0) 1 1 c true s.tg s.ct:=by
  rcases hB.c0 with⟨e1,_⟩|⟨_,e3⟩
  ·omega
  ·rw[←hwt];exact e3
 have ho1:=hB.clo 0 (by omega)

 have hturn:∀W2 tg2,Hq W2 (gcl 0) 1 1 c true (tg2:Nat) (s.ct+1:Nat)→Mv (λk=>k=gcl 0) W W2 →
   NZ W2 own gC n q c s.lets s.hist s.wait tg2 (s.ct+1) dv gN cN gCl cCl gCa lv hvv gs gds gcl∧Dj W2 own n q c B s.phs s.tks gs gds (λ_=>[]) (λ_=>false)∧Stepped w own W2 own:=by
  intro W2 tg2 hc2 hm2;have hs2:=hm2.size;refine⟨?_,hN.mv hm2 (λk hk _=>by subst hk;omega) (λ_ _=>rfl),Stepped.pre hb ⟨λ_ _=>rfl,hm2.more λk hk=>by subst hk;omega⟩⟩;obtain⟨ob,hl1,hl2⟩:=hB.lts;obtain⟨hnil,obh,hh1',hh2⟩:=hB.his;refine hB.turn hm2 (λk hk _=>.inr (.inr hk)) (hB.cl.mv hm2 (hB.cl.ne_of hcat (by decide))) ⟨ob,hl1.mv hm2 λg hg hgg=>?_,hl2⟩ ⟨hnil,obh,hh1'.mv hm2 λg hg hgg=>?_,hh2⟩ (.inr ⟨by omega,by rw[hwt];exact hc2⟩) id (λ_ _=>rfl) (λk hk=>Nat.lt_of_lt_of_le (hB.lt k hk) hs2)
  ·subst hgg;rcases hl1.cases with⟨_,h0,_⟩|⟨g1,_,_,_,h0,_,_,hh,_⟩
   ·rw[h0] at hg;cases hg
   ·rw[h0] at hg;cases hg;exact absurd rfl (hh.ne_of hcat (by decide))
  ·subst hgg;rcases hh1'.cases with⟨_,h0,_⟩|⟨g1,_,_,_,h0,_,_,hh,_⟩
   ·rw[h0] at hg;cases hg
   ·rw[h0] at hg;cases hg;exact absurd rfl (hh.ne_of hcat (by decide))
 refine bu gC n gCl cCl gcl rC dv _ _ lv hvv c s.tg s.ct (λw'=>∃own',Eb w' own' gC n q c B s'∧Stepped w own w' own') W hB.cl hcp hcat (by omega) hn htg hct (λh20 W2 hc2 hm2=>?_) (λh20 W2 hc2 hm2=>?_)
 ·rw[if_neg h20] at hs;simp only[Option.some.injEq] at hs;subst hs;obtain⟨b1,b2,b3⟩:=hturn W2 s.tg hc2 hm2;exact⟨own,⟨dv,gN,cN,gCl,cCl,gCa,lv,hvv,gs,gds,gcl,b1,b2,hp,htl⟩,b3⟩
 rw[if_pos h20] at hs;obtain⟨b1,b2,b3⟩:=hturn W2 ((s.tg+1) % n) hc2 hm2;have hi:(s.tg+1) % n<n:=Nat.mod_lt _ (by omega);generalize hit:(s.tg+1) % n=i at hs b1 b2 hi hc2 ⊢;obtain⟨rN1,hnp1⟩:=b1.np;have hcc:Value.agg c.cells.toArray=.agg (G6 c).toArray:=by simp[Cm.cells,G6,h1,h2]
 rw[hcc];split at hs
 ·rename_i hg;simp only[Option.some.injEq] at hs;subst hs;have hgi:gs i=none:=by
   rcases b2 i hi with h|⟨h,_⟩
   ·exact h.2
   ·exact absurd hg h
  refine(ZQ gC i c W2 λW3 hb3=>?_).mono ?_
  ·have:=QN gC n gN cN i gs rN1 dv _ _ lv hvv W3 (b1.cl.bel hb3) (hnp1.bel hb3) hi;rw[hgi] at this;exact this
  ·rintro e w' ⟨rfl,hb3⟩;exact⟨rfl,own,⟨dv,gN,cN,gCl,cCl,gCa,lv,hvv,gs,gds,gcl,b1.bel hb3,b2.bel hb3,hp,htl⟩,b3.bel hb3⟩
 ·rename_i hcm;rw[if_pos hh1] at hs;simp only[Option.some.injEq] at hs;subst hs;obtain⟨gi,hgi,hnode⟩:∃gi,gs i=some gi∧Bg W2 (λk=>own k=2+i) gi (gds i) n i q c .com [] false (s.tks.getD i 0) B:=by
   rcases b2 i hi with h|⟨_,gi,h1,h2⟩
   ·rw[hcm] at h;cases h.1
   ·rw[hcm] at h2;exact⟨gi,h1,h2⟩
  have htk:s.tks.set i (s.tks.getD i 0)=s.tks:=by
   apply List.ext_getElem?;intro j;by_cases hj:i=j
   ·subst hj;rw[List.getElem?_set,if_pos rfl,if_pos (by omega),List.getD_eq_getElem?_getD,List.getElem?_eq_getElem (by omega)]
    rfl
   ·rw[List.getElem?_set,if_neg hj]
  have hph:s.phs.set i .com=s.phs:=by
   apply List.ext_getElem?;intro j;by_cases hj:i=j
   ·subst hj;rw[List.getElem?_set,if_pos rfl,if_pos (by omega)];rw[List.getD_eq_getElem?_getD,List.getElem?_eq_getElem (by omega)] at hcm;rw[List.getElem?_eq_getElem (by omega)];exact congrArg some hcm.symm
   ·rw[List.getElem?_set,if_neg hj]
  refine XP gC i gi c (λW'=>∃own2,JU W' own2 gC n q c B { s with ct:=s.ct+1,tg:=i } (λj=>if j=i then [] else []) (λj=>if j=i then true else false)∧Stepped w own W' own2)
   (λW'=>∃own',Eb W' own' gC n q c B { s with ct:=s.ct+1,tg:=i,hist:=2,wait:=false }∧Stepped w own W' own') W2 (λW3 hb3=>PZ gC n gN cN i gi gs rN1 dv _ _ lv hvv W3 (b1.cl.bel hb3) (hnp1.bel hb3) hi hgi) (λW3 hb3=>?_) (λW3 hR=>?_)
  ·have hnode3:Bg W3 (λk=>own k=2+i) gi (gds i) n i q c .com [] false (s.tks.getD i 0) B:=hnode.mv (G:=λ_=>False) (.of_below hb3) λ_ h=>h.elim;have hol:=b1.lt;have:=WH W3 (λk=>own k=2+i) gi (gds i) n i q c _ B hnode3 (λk hk=>Nat.lt_of_lt_of_le (hol k (by omega)) hb3.size) hn3 hn hq hi hc hk h1 h2;rw[h1,h2] at this;refine this.mono ?_;rintro e W' ⟨rfl,hnc,hm⟩;obtain⟨g1,g2⟩:=Jc (w:=w) (s:=s) (s2:={ s with ct:=s.ct+1,tg:=i }) (b1.bel hb3) (b2.bel hb3) hp htl hi hgi hnc hm (Nat.le_refl _) (by simp) hph.symm htk.symm (b3.bel hb3);exact⟨rfl,_,g1,g2⟩
  ·obtain⟨own2,hG,hsp⟩:=hR;have hng2:s.phs.getD i .fresh≠.gone:=by rw[hcm];simp
   refine AY (VA W3 own2 gC n q i c B _ [] _ _ hG hi hng2 (by simp) (λj hj=>by simp) (by simp) (λj hj=>by simp[hj]) hh1 hwt h1 h2 (by simp) (by simp;omega)) ?_;rintro w' ⟨own',h5,h6⟩;exact⟨rfl,own',by simpa using h5,hsp.trans h6⟩
 ·cases hs
theorem Xf(w:World)(own:Nat→Nat)(gC n q:Nat)(c:Cm)(B:Nat)(s:Cs)(h:Eb w own gC n q c B s)(hng:s.phs.getD q .fresh≠.gone)(hq:q<n) :Calls prog 11 #[.pointer (some ⟨gC,0,none⟩),.agg (Dh 8 q).toArray] w λe w'=>e=.returned (.bool true)∧∃own',Eb w' own' gC n q c B (J3 q s)∧Stepped w own w' own':=by
 obtain⟨dv,gN,cN,gCl,cCl,gCa,lv,hvv,gs,gds,gcl,hB,hN,hp,htl⟩:=h;obtain⟨rN,hnp⟩:=hB.np;obtain⟨gD,cD,rD,rfl,hcD,hoD,hD⟩:=hB.dk;obtain⟨gi,hgi,hnode⟩:∃gi,gs q=some gi∧Bg w (λk=>own k=2+q) gi (gds q) n q q c (s.phs.getD q .fresh) [] false (s.tks.getD q 0) B:=by
  rcases hN q hq with h|⟨_,gi,h1,h2⟩
  ·exact absurd h.1 hng
  ·exact⟨gi,h1,h2⟩
 obtain⟨t,_,gfl,gby,mb,gw,gc,gfr,kept,P,sq,v,d,since,waits,out,ans,hI⟩:=hnode;have hdk:=hI.dk;obtain⟨_,hkb⟩:=hI.lm;subst hkb;obtain⟨_,hfd,hff,hfb,_,_⟩:=hI.f;have hoN:=hB.ow.2.1;refine(VS gC n gN cN gD cD q gi gs gds rN rD _ _ lv hvv (λw'=>∃own',Eb w' own' gC n q c B (J3 q s)∧Stepped w own w' own') w hB.cl hnp hD hq hgi hB.cN.1 hcD λW hW hm=>?_);have hdk2:CE W (gds q) gfl gby mb mb:=hdk.mv hm (λh=>by subst h;omega) (λh=>by subst h;omega) (λh=>by subst h;omega);refine AY (bZ (gds q) gfl gby mb W hdk2) ?_;rintro w' hm2;have hs1:=hm.size;have hmm:Mv (λk=>k=gN∨k=gds q∨k=gfl) w w':=(hm.more λk hk=>.inl hk).mv hm2 λk hk=>.inl (.inr hk);refine⟨rfl,own,⟨.slice (some ⟨gD,0,none⟩) n cD,gN,cN,gCl,cCl,gCa,lv,hvv,OG gs q,gds,gcl,?_,?_,by simp[J3,hp],htl⟩,λ_ _=>rfl,hmm.more λk hk=>by rcases hk with rfl|rfl|rfl<;>omega⟩
 ·have hn:∀k t L,Holds w k t L→own k=1→t≠59→¬(k=gN∨k=gds q∨k=gfl):=by
   rintro k t L hk h1 h2 (rfl|rfl|rfl)
   ·exact h2 (BU hk hnp)
   ·omega
   ·omega
  obtain⟨ob,hl1,hl2⟩:=hB.lts;obtain⟨hnil,obh,hh1,hh2⟩:=hB.his;obtain⟨rC,hcp⟩:=hB.cp;obtain⟨cs,r3,c1,c2,c3,c4⟩:=hB.calls;obtain⟨L0,hL0⟩:=hB.c0.holds;refine⟨hB.cl.mv hmm (hn _ _ _ hB.cl hB.ow.1 (by decide)),hB.ow,⟨rN,hW.mv hm2 λh=>by rcases h with rfl|rfl<;>omega⟩,hB.cN,⟨rC,hcp.mv hmm (hn _ _ _ hcp hB.ow.2.2.1 (by decide))⟩,hB.cCl,hB.c0.mv hmm (hn _ _ _ hL0 (hB.clo 0 (by omega)) (by decide)),λj hj h0=>Holds.mv (hB.cs j hj h0) hmm (hn _ _ _ (hB.cs j hj h0) (hB.clo j hj) (by decide)),hB.clo,⟨cs,r3,c1.mv hmm (hn _ _ _ c1 hB.ow.2.2.2 (by decide)),c2,c3,c4⟩,
   ⟨ob,hl1.mv hmm λg hg hG=>?_,hl2⟩,⟨hnil,obh,hh1.mv hmm λg hg hG=>?_,hh2⟩,⟨gD,cD,rD,rfl,hcD,hoD,hD.mv hmm (hn _ _ _ hD hoD (by decide))⟩,λk hk=>Nat.lt_of_lt_of_le (hB.lt k hk) hmm.size⟩
  ·rcases hl1.cases with⟨_,h0,_⟩|⟨g1,_,_,_,h0,_,_,hh,_⟩
   ·rw[h0] at hg;cases hg
   ·rw[h0] at hg;cases hg;exact hn _ _ _ hh (hl2 _ h0) (by decide) hG
  ·rcases hh1.cases with⟨_,h0,_⟩|⟨g1,_,_,_,h0,_,_,hh,_⟩
   ·rw[h0] at hg;cases hg
   ·rw[h0] at hg;cases hg;exact hn _ _ _ hh (hh2 _ h0) (by decide) hG
 ·refine hN.one (i:=q) (g':=0) hmm (λk hk _=>?_) (λ_ _=>rfl) (Nat.le_refl _) (λj hj hji=>⟨?_,rfl,by simp[OG,hji],rfl,rfl⟩) (λ_=>.inl ⟨?_,by simp[OG]⟩)
  ·rcases hk with rfl|rfl|rfl<;>omega
  ·show (s.phs.set q .gone).getD j .fresh=_;rw[GZ (by omega),if_neg hji]
  ·show (s.phs.set q .gone).getD q .fresh=_;rw[GZ (by omega),if_pos rfl]
theorem Bg.cm{w:World}{F:Ap}{g gd n me q q':Nat}{c c':Cm}{tk B:Nat}(h:Bg w F g gd n me q c .fresh [] false tk B):Bg w F g gd n me q' c' .fresh [] false tk B:=by obtain⟨t,ht,gfl,gby,mb,gw,gc,gfr,kept,P,sq,v,d,since,waits,out,ans,nd,dk,lm,wl,⟨⟨wi,gl,gm,nl,gi,gx,ni,L,E,leads,a1,a2,a3,a4,a5,a6⟩,hf⟩,fr,st,wa,ou,an',f⟩:=h;exact⟨t,ht,gfl,gby,mb,gw,gc,gfr,kept,P,sq,v,d,since,waits,out,ans,nd,dk,lm,wl,⟨⟨wi,gl,gm,nl,gi,gx,ni,L,E,leads,a1,a2,a3,a4,a5,a6⟩,hf⟩,fr,st,wa,ou.Jj (λi hi=>absurd hi (Nat.not_lt_zero i)),an',f⟩
theorem IZ(n j:Nat):(DK n).phs.getD j .fresh=.fresh:=by simp only[DK,List.getD_eq_getElem?_getD,List.getElem?_replicate];split<;>rfl
theorem QC(n j:Nat):(DK n).tks.getD j 0=0:=by simp only[DK,List.getD_eq_getElem?_getD,List.getElem?_replicate];split<;>rfl
theorem Eb.cm{w:World}{own:Nat→Nat}{gC n q q':Nat}{c c':Cm}{B:Nat}(h:Eb w own gC n q c B (DK n)):Eb w own gC n q' c' B (DK n):=by
 obtain⟨dv,gN,cN,gCl,cCl,gCa,lv,hv,gs,gds,gcl,⟨a1,a2,a3,a4,a5,a6,a7,a8,a9,⟨cs,r3,b1,b2,b3,b4⟩,⟨ob,b5,b6⟩,⟨b7,ob2,b8,b9⟩,b10,b11⟩,hN,hp⟩:=h;refine⟨dv,gN,cN,gCl,cCl,gCa,lv,hv,gs,gds,gcl,⟨a1,a2,a3,a4,a5,a6,?_,a8,a9,⟨cs,r3,b1,b2,b3,λh=>absurd rfl h⟩,⟨ob,b5,b6⟩,⟨b7,ob2,b8,b9⟩,b10,b11⟩,λi hi=>?_,hp⟩
 ·rcases a7 with h|⟨h,_⟩
  ·exact .inl h
  ·exact absurd rfl h
 ·have h:=hN i hi;rw[IZ] at h ⊢;rcases h with⟨h,_⟩|⟨h,g,h1,h2⟩
  ·cases h
  ·exact .inr ⟨h,g,h1,h2.cm⟩
def BI(x:Cm):Cm:=⟨x.k,1,1,x.a,x.b,x.o,x.v⟩
theorem ZP(w:World)(own:Nat→Nat)(gC n q q0:Nat)(x c0:Cm)(B:Nat)(h0:Eb w own gC n q0 c0 B (DK n))(hn3:3≤n)(hn:n≤7)(hq:q<n) :Calls prog 11 #[.pointer (some ⟨gC,0,none⟩),.agg (Gp q x).toArray] w λe w'=>∃b,e=.returned (.bool b)∧((b=true∧CU (BI x)∧∃own',Eb w' own' gC n q (BI x) B (G5 n q)∧Stepped w own w' own')∨(b=false∧Below w.heap.size w w'∧(DV x.k 1 1 x.a x.b x.o x.v=false∨x.k=0))):=by
 have h:Eb w own gC n q (BI x) B (DK n):=h0.cm;refine XQ gC q x _ w λW hb=>?_;have h':=JU.bel h hb;obtain⟨dv,gN,cN,gCl,cCl,gCa,lv,hv,gs,gds,gcl,hB,hN,hp⟩:=h';have hsz:=hb.size;have hol:∀k,own k≠0→k<w.heap.size:=by exact h.lt
 obtain⟨rC,hcp⟩:=hB.cp;obtain⟨rN,hnp⟩:=hB.np;obtain⟨cs,rA,hca,hcs7,hrA,_⟩:=hB.calls;have hcat:Hq W (gcl 0) 1 0 Cm.zero false 0 0:=by
  rcases hB.c0 with⟨_,_,e3⟩|⟨e1,_⟩
  ·exact e3
  ·exact absurd rfl e1
 obtain rfl:hv=.slice none 0 0:=hB.his.1 rfl;refine(fH gC gCl cCl gCa n q gcl rC cs rA x dv _ lv (λw'=>CU (BI x)∧∃own',Eb w' own' gC n q (BI x) B (G5 n q)∧Stepped w own w' own') W hB.cl hcp hcat hca hcs7 hq hn λW1 hC=>?_).mono ?_
 ·obtain⟨hv1,obh,c1,c2,c3,c4,c5,⟨c6,c6k⟩,c7⟩:=hC;have hok:CU (BI x):=QL (BI x) c6 c6k;have hs7:=c7.size;have dG:∀k t L,Holds W k t L→t≠85→t≠23→t≠132→¬(k=gC∨k=gCa∨k=gcl 0):=by
   rintro k t L hk h1 h2 h3 (rfl|rfl|rfl)
   ·exact h1 (BU hk hB.cl)
   ·exact h2 (BU hk hca)
   ·exact h3 (BU hk hcat)
  have hG1:∀k,(k=gC∨k=gCa∨k=gcl 0)→own k=1:=by
   rintro k (rfl|rfl|rfl)
   ·exact hB.ow.1
   ·exact hB.ow.2.2.2
   ·exact hB.clo 0 (by omega)
  have hold:∀k,k<W.heap.size→CY own W W1 1 k=own k:=λk hk=>Ec _ _ _ _ _ hk;have hltc:∀j,j<8→gcl j<W.heap.size:=λj hj=>Nat.lt_of_lt_of_le (hol _ (by rw[hB.clo j hj];decide)) hsz;obtain⟨obl,hl1,hl2⟩:=hB.lts;obtain⟨gD,cD,rD,d1,d2,d3,d4⟩:=hB.dk;have hB1:NZ W1 (CY own W W1 1) gC n q (BI x) [] 1 true q 0 dv gN cN gCl cCl gCa lv hv1 gs gds gcl:=by
   refine⟨c1,⟨by rw[hold _ hB.cl.lt,hB.ow.1],by rw[hold _ hnp.lt,hB.ow.2.1],by rw[hold _ hcp.lt,hB.ow.2.2.1],by rw[hold _ hca.lt,hB.ow.2.2.2]⟩,⟨rN,hnp.mv c7 (dG _ _ _ hnp (by decide) (by decide) (by decide))⟩,hB.cN,⟨rC,hcp.mv c7 (dG _ _ _ hcp (by decide) (by decide) (by decide))⟩,hB.cCl,.inr ⟨by decide,c5⟩,λj hj hj0=>(hB.cs j hj hj0).mv c7 λhg=>?_,λj hj=>by rw[hold _ (hltc j hj),hB.clo j hj],⟨G6 x,rA,c4,rfl,hrA,λ_=>rfl⟩,⟨obl,hl1.mv c7 λg hg=>?_,λg hg=>by rw[hold _ (hl1.lt g hg),hl2 g hg]⟩,⟨λh=>(by cases h),obh,?_,λg hg=>Es _ _ _ _ _ (c3 g hg) (c2.lt g hg)⟩,⟨gD,cD,rD,d1,d2,by rw[hold _ d4.lt,d3],d4.mv c7 (dG _ _ _ d4 (by decide) (by decide) (by decide))⟩,Jd hB.lt hs7⟩
   ·rcases hg with hg|hg|hg
    ·exact(Holds.ne_of (hB.cs j hj hj0) hB.cl (by decide)) hg
    ·exact(Holds.ne_of (hB.cs j hj hj0) hca (by decide)) hg
    ·exact hB.jM j hj hj0 hg
   ·rcases hl1.cases with⟨_,h0,_⟩|⟨g1,_,_,_,h0,_,_,hh,_⟩
    ·rw[h0] at hg;cases hg
    ·rw[h0] at hg;cases hg;exact dG _ _ _ hh (by decide) (by decide) (by decide)
   ·have e1:flat 14 1 (OQ (BI x))=NF 1 (BI x) 0:=En (s:=14) (V:=OQ (BI x)) rfl;rw[e1];exact c2
  have hN1:Dj W1 (CY own W W1 1) n q (BI x) B (DK n).phs (DK n).tks gs gds (λ_=>[]) (λ_=>false):=hN.mv c7 (λk hk _=>by rw[hG1 k hk];decide) hold;have hoW:∀k,CY own W W1 1 k≠0→k<W1.heap.size:=hB1.lt;have hSt:Stepped w own W1 (CY own W W1 1):=⟨λk hk=>hold k (by omega),(Mv.of_below hb).mv c7 λk hk=>.inl (by rw[hG1 k hk];decide)⟩;obtain⟨rN1,hnp1⟩:=hB1.np;generalize hoe:CY own W W1 1=own1 at hB1 hN1 hoW hSt;obtain⟨gq,hgq,hnode⟩:∃gi,gs q=some gi∧Bg W1 (λk=>own1 k=2+q) gi (gds q) n q q (BI x) .fresh [] false 0 B:=by
   rcases hN1 q hq with h|⟨_,gi,h1,h2⟩
   ·rw[IZ] at h;cases h.1
   ·rw[IZ,QC] at h2;exact⟨gi,h1,h2⟩
  have htk:(List.replicate n 0)=(DK n).tks.set q 0:=by
   apply List.ext_getElem?;intro j;by_cases hj:q=j
   ·subst hj;simp[DK,hq]
   ·simp[DK,List.getElem?_set,hj]
  refine(XP gC q gq x (λW'=>∃own2,JU W' own2 gC n q (BI x) B ⟨(List.replicate n Ph.fresh).set q (.lead [] 0),List.replicate n 0,[],1,true,q,0⟩ (λj=>if j=q then Bq 1 n q else []) (λj=>if j=q then false else false)∧Stepped w own W' own2) (λW'=>CU (BI x)∧∃own',Eb W' own' gC n q (BI x) B (G5 n q)∧Stepped w own W' own') W1 (λW2 hb2=>PZ gC n gN cN q gq gs rN1 dv _ _ lv hv1 W2 (hB1.cl.bel hb2) (hnp1.bel hb2) hq hgq) (λW2 hb2=>?_) (λW2 hR=>?_))
  ·have hsz2:=hb2.size;refine AY (WG W2 (λk=>own1 k=2+q) gq (gds q) n q (BI x) 0 B (hnode.mv (G:=λ_=>False) (.of_below hb2) λ_ h=>h.elim) (λk hk=>Nat.lt_of_lt_of_le (hoW k (by omega)) hsz2) hn3 hn hq hok c6k rfl rfl) ?_;rintro W' ⟨hnc,hm⟩;obtain⟨g1,g2⟩:=Jc (w:=W2) (s:=DK n) (s2:=⟨(List.replicate n Ph.fresh).set q (.lead [] 0),List.replicate n 0,[],1,true,q,0⟩) (hB1.bel hb2) (hN1.bel hb2) (by simp[DK]) (by simp[DK]) hq hgq hnc hm (Nat.le_refl _) (by simp) rfl htk ⟨λ_ _=>rfl,Mv.refl _ _⟩;exact⟨rfl,_,g1,(hSt.bel hb2).trans g2⟩
  ·obtain⟨own2,hG,hsp⟩:=hR;have hlen:(Bq 1 n q).length=n-1:=by simp[Bq,Dv]
   have hng2:((List.replicate n Ph.fresh).set q (.lead [] 0)).getD q .fresh≠.gone:=by rw[GZ (by simpa using hq),if_pos rfl];simp
   refine(Nh W2 own2 gC n q q (BI x) B _ (Bq 1 n q) _ _ hG hq hng2 (by simp) (λj hj=>by simp[hj]) (λj=>by simp) (Lr hq) (by simp[hlen];omega)).mono ?_
   ·rintro e w' ⟨rfl,own',h5,h6⟩;exact⟨rfl,hok,own',by simpa[G5] using h5,hsp.trans h6⟩
 ·rintro e w' (⟨rfl,h1⟩|⟨rfl,hb2,hnr⟩)
  ·exact⟨true,rfl,.inl ⟨rfl,h1⟩⟩
  ·exact⟨false,rfl,.inr ⟨rfl,hb.trans (hb2.mono hb.size),hnr⟩⟩
end Go.Proofs.YtimdpiifpibgfaaGreatDoor
