/- A part of the proof that the law TopCopies returns true for every input. -/
import Derived.Test.YtimdpiifpibgfaaGreatDoorQc39
set_option linter.all false
set_option maxRecDepth 20000
set_option maxHeartbeats 16000000
open Go.RowKit Go.Maps
namespace Go.Proofs.YtimdpiifpibgfaaGreatDoor
open Tryz
section
variable [In] [Bs] [Hs]
def RH:List TypeId:=[85,47,55]
section
variable {w w':World} {own own':Nat→Nat} {gC n q:Nat} {c:Cm} {lets lets':List Lt} {hist hist':Nat} {wait wait':Bool} {dv:Value} {gN cN gCl cCl gCa:Nat} {lv hv lv' hv':Value} {gs gcl:Nat→Nat} {G:Af}
theorem Nh.kR(h:Nh w own gC n q c lets hist wait dv gN cN gCl cCl gCa lv hv gs gcl):∃L,Holds w (gcl (cK c)) 132 L:=by
 rcases h.c0 with⟨_,_,tg,tk,h3⟩|⟨_,tg,tk,h3⟩
 ·exact⟨_,h3⟩
 ·exact⟨_,h3⟩
theorem Nh.kT(h:Nh w own gC n q c lets hist wait dv gN cN gCl cCl gCa lv hv gs gcl)(j:Nat)(hj:j<8)(h0:j≠cK c):gcl j≠gcl (cK c):=by
 intro he;obtain⟨tg0,tk0,h1⟩:=h.cs j hj h0;rw[he] at h1;rcases h.c0 with⟨_,_,tg,tk,h3⟩|⟨_,tg,tk,h3⟩ <;>
  (have e:=(h1.cell 0).symm.trans (h3.cell 0)
   simp only[DU,List.getElem?_cons_zero,Option.some.injEq,Value.int.injEq,true_and] at e;omega)
theorem Nh.kX(h:Nh w own gC n q c lets hist wait dv gN cN gCl cCl gCa lv hv gs gcl)(j:Nat)(hj:j<8):gcl j<w.heap.size:=by
 by_cases h0:j=cK c
 ·subst h0;obtain⟨L,hL⟩:=h.kR;exact hL.lt
 ·obtain⟨tg,tk,h3⟩:=h.cs j hj h0;exact h3.lt
theorem Nh.turn(h:Nh w own gC n q c lets hist wait dv gN cN gCl cCl gCa lv hv gs gcl)(hm:Mv G w w')(hG:∀k,G k→k<w.heap.size→own k≠1∨(∃t L,Holds w k t L∧t∈RH)∨k=gcl (cK c)) (hc:Holds w' gC 85 (DV n dv (.slice (some ⟨gN,0,none⟩) n cN) (.slice (some ⟨gCl,0,none⟩) 8 cCl) (.slice (some ⟨gCa,0,none⟩) 8 8) lv' hv')) (hl:∃ob,AO w' lv' ob 47 51 lets'.length (flat 51 lets'.length (Dt c q lets'))∧∀g,ob=some g→own' g=1) (hh:Jv (evs c hist').length hv'∧∃ob pv pb,F9 w' hv' ob (evs c hist') pv pb∧(∀g,ob=some g→own' g=1)∧∀i,i<(evs c hist').length→∀g,pb i=some g→own' g=1) (h0:(hist'=0∧wait'=false∧∃tg tk,Ju w' (gcl (cK c)) ((cK c:Int)+1) (Hs.sq (cK c)) (Hs.cm (cK c)) false tg tk)∨(hist'≠0∧∃tg tk,Ju w' (gcl (cK c)) ((cK c:Int)+1) c.s c wait' tg tk)) (hhi:hist'≠0→hist≠0) (ho:∀k,k<w.heap.size→own' k=own k) (hlt:∀k,own' k≠0→k<w'.heap.size):Nh w' own' gC n q c lets' hist' wait' dv gN cN gCl cCl gCa lv' hv' gs gcl:=by
 have hcl0:=h.kR;have hncl:=h.kT;have hclt:=h.kX;obtain⟨a1,⟨o1,o2,o3,o4⟩,⟨r1,a2⟩,a3,⟨r2,a4⟩,a5,a6,a7,a8,⟨CA,a9,a10,a11⟩,_,_,b6⟩:=h;obtain⟨L0,hL0⟩:=hcl0;have hn:∀k t L,Holds w k t L→own k=1→t∉RH→t≠132→¬G k:=λk t L hk h1 ht ht2 hg=>by
  rcases hG k hg hk.lt with h2|⟨t',L',h2,h3⟩|h2
  ·exact h2 h1
  ·exact ht (CP hk h2▸h3)
  ·subst h2;exact ht2 (CP hk hL0)
 refine⟨hc,⟨by rw[ho _ a1.lt,o1],by rw[ho _ a2.lt,o2],by rw[ho _ a4.lt,o3],by rw[ho _ a9.lt,o4]⟩,⟨r1,a2.mv hm (hn _ _ _ a2 o2 (by decide) (by decide))⟩,a3,⟨r2,a4.mv hm (hn _ _ _ a4 o3 (by decide) (by decide))⟩,a5,h0,λj hj hj0=>?_,λj hj=>by rw[ho _ (hclt j hj),a8 j hj],⟨CA,a9.mv hm (hn _ _ _ a9 o4 (by decide) (by decide)),a10,λh=>a11 (hhi h)⟩,hl,hh,hlt⟩;obtain⟨tg,tk,h3⟩:=a7 j hj hj0;refine⟨tg,tk,h3.mv hm λhg=>?_⟩;rcases hG _ hg h3.lt with h2|⟨t',L',h2,h4⟩|h2
 ·exact h2 (a8 j hj)
 ·exact absurd (CP h3 h2▸h4) (by decide)
 ·exact hncl j hj hj0 h2
theorem F9.keep{v:Value}{ob:Option Nat}{l:List Ev}{pv:Nat→Value}{pb:Nat→Option Nat}(h:F9 w v ob l pv pb)(hm:Mv G w w')(h1:∀g,ob=some g→¬G g)(h2:∀i,i<l.length→∀g,pb i=some g→¬G g):F9 w' v ob l pv pb:=⟨AO.mv h.1 hm h1,λi hi=>(h.2 i hi).mv hm (h2 i hi)⟩
end
theorem Ot(c:Cm)(q:Nat)(a b:List Lt):flat 51 a.length (Dt c q a)++flat 51 b.length (Dt c q b)=flat 51 (a++b).length (Dt c q (a++b)):=by
 rw[List.length_append];refine NK (by decide) (λ_ _=>rfl) (λ_ _=>rfl) (λi hi=>?_) (λi hi=>?_)
 ·unfold Dt;rw[List.getD_eq_getElem?_getD,List.getD_eq_getElem?_getD,List.getElem?_append_left hi]
 ·unfold Dt;rw[List.getD_eq_getElem?_getD,List.getD_eq_getElem?_getD,List.getElem?_append_right (by omega),Nat.add_sub_cancel_left]
def Stepped(w:World)(own:Nat→Nat)(w':World)(own':Nat→Nat):Prop:=(∀k,k<w.heap.size→own' k=own k)∧Mv (λk=>own k≠0) w w'
theorem Dj(own:Nat→Nat)(w w':World)(x k:Nat)(hk:k<w.heap.size):Bo own w w' x k=own k:=by unfold Bo;rw[if_neg (by omega)]
theorem Gq{own:Nat→Nat}{w w':World}{x:Nat}(h:∀k,own k≠0→k<w.heap.size)(hs:w.heap.size≤w'.heap.size):∀k,Bo own w w' x k≠0→k<w'.heap.size:=by
 intro k hk;unfold Bo at hk;split at hk
 ·rename_i h2;exact h2.2
 ·have:=h k hk;omega
theorem Di(own:Nat→Nat)(w w':World)(x k:Nat)(h1:w.heap.size≤k)(h2:k<w'.heap.size):Bo own w w' x k=x:=by unfold Bo;rw[if_pos ⟨h1,h2⟩]
theorem Ny(w:World)(own:Nat→Nat)(gC n q i:Nat)(c:Cm)(s:Cs)(l:List Lt)(out:Nat→List Lt)(an:Nat→Bool)(h:JB w own gC n q c s out an)(hi:i<n)(hout:out i=l)(hout2:∀j,j≠i→out j=[])(han:∀j,an j=false)(hl:∀m∈l,m.2.2<n)(hlen:s.lets.length+l.length≤1000)(hck:cK c<8) :Calls prog 31 #[.pointer (some ⟨gC,0,none⟩),.int .i64 i] w λe w'=>e=.returned (.tuple #[])∧∃own',Bg w' own' gC n q c { s with lets:=s.lets++l }∧Stepped w own w' own':=by
 obtain⟨dv,gN,cN,gCl,cCl,gCa,lv,hv,gs,gcl,hB,hN,hp⟩:=h;have hni:=hN i hi;rw[hout,han i] at hni;obtain⟨rN,hnp⟩:=hB.np;refine(ig gC gN n cN i s.lets.length l.length gs rN dv _ _ lv hv (flat 51 s.lets.length (Dt c q s.lets)) (λj=>(l.getD j (0,0,0)).1) (λj=>(l.getD j (0,0,0)).2.1) (λj=>(l.getD j (0,0,0)).2.2) q (λj=>if (l.getD j (0,0,0)).1=2 then Cm.zero else c) (λw w1=>Bh w1 (λk=>own k=2+i) (gs i) n i q c (s.phs.getD i .fresh) [] false s.tk∧own (gs i)=2+i∧Mv (λk=>k=gs i) w w1∧(∀ob,AO w1 lv ob 47 51 s.lets.length (flat 51 s.lets.length (Dt c q s.lets))→∀k,ob=some k→own k=1)) w hB.cl hnp hi hB.cN.1 (λj hj=>?_) hlen ?_).mono ?_
 ·have hj2:l.getD j (0,0,0)∈l:=by rw[List.getD_eq_getElem?_getD,List.getElem?_eq_getElem hj];exact List.getElem_mem hj
  exact hl _ hj2
 ·refine(TJ w (λk=>own k=2+i) (gs i) n i q c (s.phs.getD i .fresh) l false s.tk hni).mono ?_;rintro e w1 ⟨o,a,rfl,hlo,hao,hnc,hgi,hm⟩;obtain rfl:a=.slice none 0 0:=hao;obtain⟨obl,hl1,hl2⟩:=hB.lts;obtain⟨_,obo,ho1,ho2⟩:=hlo;have hn1:∀k,own k=1→k≠gs i:=λk hk he=>by rw[he] at hk;omega
  refine⟨o,obo,obl,rfl,⟨hnc,hgi,hm,λob hob k hk=>?_⟩,hB.cl.mv hm (hn1 _ hB.ow.1),ho1,hl1.mv hm (λg hg=>hn1 _ (hl2 g hg)),λk hk hk2=>?_⟩
  ·have:ob=obl:=by rw[←hob.ob,←hl1.ob]
   exact hl2 k (this▸hk)
  ·have h1:=ho2 k hk;have h2:=hl2 k hk2;omega
 ·rintro e w' ⟨rfl,w1,obl,⟨hnc,hgi,hm1,hob1⟩,hl1,lv',ob',hc',hl',hob',hm2⟩;have ho1:=hob1 obl hl1;have hs1:=hm1.size;have hs2:=hm2.size;have hss:w.heap.size≤w'.heap.size:=Nat.le_trans hs1 hs2;have hol:∀k,own k≠0→k<w.heap.size:=hB.lt;have hM:Mv (λk=>k=gs i∨k=gC∨obl=some k) w w':=(hm1.more (G:=λk=>k=gs i∨k=gC∨obl=some k) λk hk=>.inl hk).mv hm2 λk hk=>.inl (.inr hk);have hown':∀g,ob'=some g→Bo own w w' 1 g=1:=λg hg=>by
   rcases hob' with h3|⟨k,h3,h4⟩
   ·have h5:=ho1 g (h3▸hg);rw[Dj _ _ _ _ _ (hol g (by omega)),h5]
   ·rw[h3] at hg;cases hg;exact Di _ _ _ _ _ (by omega) (hl'.lt _ h3)
  have hnG:∀k,(k=gs i∨k=gC∨obl=some k)→k<w.heap.size→own k=1∨own k=2+i:=by
   rintro k (rfl|rfl|hk) _
   ·exact .inr hgi
   ·exact .inl hB.ow.1
   ·exact .inl (ho1 k hk)
  obtain⟨oblw,hlw,hlw2⟩:=hB.lts;have hoe:oblw=obl:=by rw[←hlw.ob,←hl1.ob]
  subst hoe;have hGt:∀k,(k=gs i∨k=gC∨oblw=some k)→k<w.heap.size→own k≠1∨(∃t L,Holds w k t L∧t∈RH)∨k=gcl (cK c):=by
   rintro k (rfl|rfl|hk) _
   ·exact .inl (by omega)
   ·exact .inr (.inl ⟨_,_,hB.cl,by decide⟩)
   ·rcases hlw.cases with⟨_,h0,_⟩|⟨g1,_,_,_,h0,_,_,hh,_⟩
    ·rw[h0] at hk;cases hk
    ·rw[h0] at hk;cases hk;exact .inr (.inl ⟨_,_,hh,by decide⟩)
  have hnT:∀k t L,Holds w k t L→own k=1→t≠85→t≠47→¬(k=gs i∨k=gC∨oblw=some k):=by
   rintro k t L hk h1 ht1 ht2 (rfl|rfl|hk2)
   ·omega
   ·exact ht1 (CP hk hB.cl)
   ·rcases hlw.cases with⟨_,h0,_⟩|⟨g1,_,_,_,h0,_,_,hh,_⟩
    ·rw[h0] at hk2;cases hk2
    ·rw[h0] at hk2;cases hk2;exact ht2 (CP hk hh)
  obtain⟨hnil,obh,pvh,pbh,hh1,hh2,hh3⟩:=hB.his;have hold:∀k,k<w.heap.size→Bo own w w' 1 k=own k:=λk hk=>Dj _ _ _ _ _ hk;have hB':Nh w' (Bo own w w' 1) gC n q c (s.lets++l) s.hist s.wait dv gN cN gCl cCl gCa lv' hv gs gcl:=by
   refine hB.turn hM hGt hc' ⟨ob',?_,hown'⟩ ⟨hnil,obh,pvh,pbh,?_,λg hg=>by rw[hold g (AO.lt hh1.1 g hg),hh2 g hg],λi hi g hg=>by rw[hold g (AO.lt (hh1.2 i hi) g hg),hh3 i hi g hg]⟩ ?_ id hold (Gq hol hss)
   ·have:=Ot c q s.lets l;rw[List.length_append] at this ⊢;exact this▸hl'
   ·have hown1:∀{v:Value} {ob:Option Nat} {e:TypeId} {s n:Nat} {xs:List Value},AO w v ob e s n xs→(∀g,ob=some g→own g=1)→e≠85→e≠47→∀g,ob=some g→¬(g=gs i∨g=gC∨oblw=some g):=λho h1 h2 h3 g hg=>by
     rcases ho.cases with⟨_,h0,_⟩|⟨g1,_,_,_,h0,_,_,hh,_⟩
     ·rw[h0] at hg;cases hg
     ·rw[h0] at hg;cases hg;exact hnT _ _ _ hh (h1 _ h0) h2 h3
    exact hh1.keep hM (hown1 hh1.1 hh2 (by decide) (by decide)) λi hi=>hown1 (hh1.2 i hi) (hh3 i hi) (by decide) (by decide)
   ·rcases hB.c0 with⟨e1,e2,tg,tk,e3⟩|⟨e1,tg,tk,e3⟩
    ·exact .inl ⟨e1,e2,tg,tk,e3.mv hM (hnT _ _ _ e3 (hB.clo _ hck) (by decide) (by decide))⟩
    ·exact .inr ⟨e1,tg,tk,e3.mv hM (hnT _ _ _ e3 (hB.clo _ hck) (by decide) (by decide))⟩
  refine⟨rfl,Bo own w w' 1,⟨dv,gN,cN,gCl,cCl,gCa,lv',hv,gs,gcl,hB',λj hj=>?_,hp⟩,hold,hM.more λk hk=>?_⟩
  ·by_cases hji:j=i
   ·subst hji;have h1:Bh w' (λk=>own k=2+j) (gs j) n j q c (s.phs.getD j .fresh) [] false s.tk:=hnc.mv hm2 λk hk hkl hf=>by
     rcases hk with rfl|hk
     ·have:=hB.ow.1;omega
     ·have:=ho1 k hk;omega
    exact h1.foot λk hk _=>by rw[hold k (hol k (by omega))];exact hk
   ·have h0:=hN j hj;rw[hout2 j hji,han j] at h0;have h1:=h0.mv hM λk hk hkl hf=>by rcases hnG k hk hkl with h|h<;>omega
    exact h1.foot λk hk _=>by rw[hold k (hol k (by omega))];exact hk
  ·rcases hk with rfl|rfl|hk
   ·omega
   ·have:=hB.ow.1;omega
   ·have:=ho1 k hk;omega
end
section
variable [In] [Bs] [Hs]
theorem F9.snoc{w:World}{hv v':Value}{ob obv:Option Nat}{l:List Ev}{e:Ev}{pv:Nat→Value}{pb:Nat→Option Nat}(h:AO w hv ob 55 14 (l.length+1) (flat 14 l.length (GH l pv)++IW e v'))(hp:∀i,i<l.length→AV w (pv i) (pb i) (l.getD i .zero).r.ps)(hv':AV w v' obv e.r.ps) :F9 w hv ob (l++[e]) (Ee pv l.length v') (Ee pb l.length obv):=by
 have h0:∀i,i<l.length→(l++[e]).getD i .zero=l.getD i .zero:=λi hi=>by rw[List.getD_eq_getElem?_getD,List.getD_eq_getElem?_getD,List.getElem?_append_left hi]
 have h1:(l++[e]).getD l.length .zero=e:=by rw[List.getD_eq_getElem?_getD,List.getElem?_append_right (Nat.le_refl _),Nat.sub_self];rfl
 have hf:flat 14 l.length (GH l pv)++IW e v'=flat 14 (l.length+1) (GH (l++[e]) (Ee pv l.length v')):=by
  rw[←Jh (V:=GH (l++[e]) (Ee pv l.length v')) (by decide) (λ_ _=>rfl)]
  congr 1
  ·refine QH (by decide) λi hi=>?_;unfold GH;rw[h0 i hi,CY _ _ _ _ (by omega)]
  ·unfold GH;rw[h1,CX]
 refine⟨by rw[List.length_append];exact hf▸h,λi hi=>?_⟩;rw[List.length_append,List.length_singleton] at hi;by_cases hi2:i=l.length
 ·subst hi2;rw[h1,CX,CX];exact hv'
 ·rw[h0 i (by omega),CY _ _ _ _ hi2,CY _ _ _ _ hi2];exact hp i (by omega)
theorem ae(w:World)(own:Nat→Nat)(gC n q i:Nat)(c:Cm)(s:Cs)(l:List Lt)(out:Nat→List Lt)(an:Nat→Bool)(h:JB w own gC n q c s out an)(hi:i<n)(hout:out i=l)(hout2:∀j,j≠i→out j=[])(han:an i=true)(han2:∀j,j≠i→an j=false)(hsh:s.hist=1)(hsw:s.wait=true)(hck:cK c<8)(hrp:(Lu c).ps.length≤1000)(hle:(evs c 1).length≤1000)(hl:∀m∈l,m.2.2<n)(hlen:s.lets.length+l.length≤1000) :Calls prog 31 #[.pointer (some ⟨gC,0,none⟩),.int .i64 i] w λe w'=>e=.returned (.tuple #[])∧∃own',Bg w' own' gC n q c { s with lets:=s.lets++l,hist:=2,wait:=false }∧Stepped w own w' own':=by
 obtain⟨dv,gN,cN,gCl,cCl,gCa,lv,hv,gs,gcl,hB,hN,hp⟩:=h;have hni:=hN i hi;rw[hout,han] at hni;obtain⟨rN,hnp⟩:=hB.np;obtain⟨rC,hcp⟩:=hB.cp;obtain⟨CA,hca,_,hcs⟩:=hB.calls;have hcs2:=hcs (by omega);obtain⟨tg,tk,hcat⟩:∃tg tk,Ju w (gcl (cK c)) ((cK c:Int)+1) c.s c true tg tk:=by
  rcases hB.c0 with⟨e1,_⟩|⟨_,tg,tk,e3⟩
  ·omega
  ·exact⟨tg,tk,hsw▸e3⟩
 obtain⟨hnil,obh,pvh,pbh,hh1,hh2,hh3⟩:=hB.his;rw[hsh] at hh1 hh3;have hh1':=hh1.1;refine(iq gC gN gCl cCl gCa n cN i s.lets.length l.length gcl rC CA (cK c) hck c (Lu c) (evs c 1).length (flat 14 (evs c 1).length (GH (evs c 1) pvh)) hrp hle hcs2 tg tk gs rN dv lv hv (flat 51 s.lets.length (Dt c q s.lets)) (λj=>(l.getD j (0,0,0)).1) (λj=>(l.getD j (0,0,0)).2.1) (λj=>(l.getD j (0,0,0)).2.2) q (λj=>if (l.getD j (0,0,0)).1=2 then Cm.zero else c) (λw w1=>Bh w1 (λk=>own k=2+i) (gs i) n i q c (s.phs.getD i .fresh) [] false s.tk∧own (gs i)=2+i∧Mv (λk=>k=gs i) w w1∧(∀ob,AO w1 lv ob 47 51 s.lets.length (flat 51 s.lets.length (Dt c q s.lets))→∀k,ob=some k→own k=1)∧(∀ob,AO w1 hv ob 55 14 (evs c 1).length (flat 14 (evs c 1).length (GH (evs c 1) pvh))→∀k,ob=some k→own k=1)) w hB.cl hnp hi hB.cN.1 (λj hj=>?_) hlen ?_).mono ?_
 ·have hj2:l.getD j (0,0,0)∈l:=by rw[List.getD_eq_getElem?_getD,List.getElem?_eq_getElem hj];exact List.getElem_mem hj
  exact hl _ hj2
 ·refine(TJ w (λk=>own k=2+i) (gs i) n i q c (s.phs.getD i .fresh) l true s.tk hni).mono ?_;rintro e w1 ⟨o,a,rfl,hlo,hao,hnc,hgi,hm⟩;obtain⟨oba,va,obv,ha1,hav,ha2,hav2⟩:=hao;obtain⟨obl,hl1,hl2⟩:=hB.lts;obtain⟨_,obo,ho1,ho2⟩:=hlo;have hn1:∀k,own k=1→k≠gs i:=λk hk he=>by rw[he] at hk;omega
  refine⟨o,a,obo,obl,oba,obh,rfl,⟨hnc,hgi,hm,λob hob k hk=>?_,λob hob k hk=>?_⟩,hB.cl.mv hm (hn1 _ hB.ow.1),ho1,hl1.mv hm (λg hg=>hn1 _ (hl2 g hg)),λk hk hk2=>?_,⟨va,obv,ha1,hav⟩,hh1'.mv hm (λg hg=>hn1 _ (hh2 g hg)),hcp.mv hm (hn1 _ hB.ow.2.2.1),hca.mv hm (hn1 _ hB.ow.2.2.2),hcat.mv hm (hn1 _ (hB.clo _ hck))⟩
  ·have:ob=obl:=by rw[←hob.ob,←hl1.ob]
   exact hl2 k (this▸hk)
  ·have:ob=obh:=by rw[←hob.ob,←hh1'.ob]
   exact hh2 k (this▸hk)
  ·have h1:=ho2 k hk;have h2:=hl2 k hk2;omega
 ·rintro e w' ⟨rfl,w1,obl,obh',⟨hnc,hgi,hm1,hob1,hobh1⟩,hl1,hhx1,lv',ob',hv',obh2,hc',hl',hob',⟨v2,obv2,hhv',hpv2,hobv2⟩,hobh',hcat',hm2⟩;obtain rfl:obh'=obh:=by rw[←hhx1.ob,←hh1'.ob]
  have ho1:=hob1 obl hl1;have hs1:=hm1.size;have hs2:=hm2.size;have hss:w.heap.size≤w'.heap.size:=Nat.le_trans hs1 hs2;have hol:∀k,own k≠0→k<w.heap.size:=hB.lt;have hM:Mv (λk=>k=gs i∨k=gC∨obl=some k∨obh'=some k∨k=gcl (cK c)) w w':=(hm1.more (G:=λk=>k=gs i∨k=gC∨obl=some k∨obh'=some k∨k=gcl (cK c)) λk hk=>.inl hk).mv hm2 λk hk=>.inl (.inr hk);have hown':∀g,ob'=some g→Bo own w w' 1 g=1:=λg hg=>by
   rcases hob' with h3|⟨k,h3,h4⟩
   ·have h5:=ho1 g (h3▸hg);rw[Dj _ _ _ _ _ (hol g (by omega)),h5]
   ·rw[h3] at hg;cases hg;exact Di _ _ _ _ _ (by omega) (hl'.lt _ h3)
  have hnG:∀k,(k=gs i∨k=gC∨obl=some k∨obh'=some k∨k=gcl (cK c))→k<w.heap.size→own k=1∨own k=2+i:=by
   rintro k (rfl|rfl|hk|hk|rfl) _
   ·exact .inr hgi
   ·exact .inl hB.ow.1
   ·exact .inl (ho1 k hk)
   ·exact .inl (hh2 k hk)
   ·exact .inl (hB.clo _ hck)
  have hownh:∀g,obh2=some g→Bo own w w' 1 g=1:=λg hg=>by
   rcases hobh' with h3|⟨k,h3,h4⟩
   ·have h5:=hh2 g (h3▸hg);rw[Dj _ _ _ _ _ (hol g (by omega)),h5]
   ·rw[h3] at hg;cases hg;exact Di _ _ _ _ _ (by omega) (hhv'.lt _ h3)
  obtain⟨oblw,hlw,hlw2⟩:=hB.lts;have hoe:oblw=obl:=by rw[←hlw.ob,←hl1.ob]
  subst hoe;have hGt:∀k,(k=gs i∨k=gC∨oblw=some k∨obh'=some k∨k=gcl (cK c))→k<w.heap.size→own k≠1∨(∃t L,Holds w k t L∧t∈RH)∨k=gcl (cK c):=by
   rintro k (rfl|rfl|hk|hk|rfl) _
   ·exact .inl (by omega)
   ·exact .inr (.inl ⟨_,_,hB.cl,by decide⟩)
   rotate_left
   ·rcases hh1'.cases with⟨_,h0,_⟩|⟨g1,_,_,_,h0,_,_,hh,_⟩
    ·rw[h0] at hk;cases hk
    ·rw[h0] at hk;cases hk;exact .inr (.inl ⟨_,_,hh,by decide⟩)
   ·exact .inr (.inr rfl)
   ·rcases hlw.cases with⟨_,h0,_⟩|⟨g1,_,_,_,h0,_,_,hh,_⟩
    ·rw[h0] at hk;cases hk
    ·rw[h0] at hk;cases hk;exact .inr (.inl ⟨_,_,hh,by decide⟩)
  have hold:∀k,k<w.heap.size→Bo own w w' 1 k=own k:=λk hk=>Dj _ _ _ _ _ hk;have hB':Nh w' (Bo own w w' 1) gC n q c (s.lets++l) 2 false dv gN cN gCl cCl gCa lv' hv' gs gcl:=by
   have hpn:∀j,j<(evs c 1).length→∀g,pbh j=some g→¬(g=gs i∨g=gC∨oblw=some g∨obh'=some g∨g=gcl (cK c)):=λj hj g hg=>by
    have hx:=hh1.2 j hj;have h9:=hh3 j hj g hg;have hl9:=AO.ne_of hx hB.cl (by decide) g hg;have hl10:=AO.Io hx hlw (by decide) g hg;have hl11:=AO.Io hx hh1' (by decide) g hg;have hl12:=AO.ne_of hx hcat (by decide) g hg;rintro(h|h|h|h|h)
    ·rw[h] at h9;omega
    ·exact hl9 h
    ·exact hl10 h
    ·exact hl11 h
    ·exact hl12 h
   have hev:=F9.snoc (e:=U3 (cK c) c (Lu c)) hhv' (λi hi=>(hh1.2 i hi).mv hM (hpn i hi)) hpv2;have he2:evs c 2=evs c 1++[U3 (cK c) c (Lu c)]:=rfl;refine hB.turn hM hGt hc' ⟨ob',?_,hown'⟩ ⟨λh=>?_,obh2,_,_,he2▸hev,hownh,λi hi g hg=>?_⟩ (.inr ⟨by omega,tg,tk,hcat'⟩) (λ_=>by omega) hold (Gq hol hss)
   ·have:=Ot c q s.lets l;rw[List.length_append] at this ⊢;exact this▸hl'
   ·rw[he2,List.length_append] at h;simp at h
   ·rw[he2,List.length_append,List.length_singleton] at hi;by_cases hi2:i=(evs c 1).length
    ·subst hi2;rw[CX] at hg;exact Di _ _ _ _ _ (Nat.le_trans hs1 (hobv2 g hg)) (AO.lt hpv2 g hg)
    ·rw[CY _ _ _ _ hi2] at hg;rw[hold g (AO.lt (hh1.2 i (by omega)) g hg)];exact hh3 i (by omega) g hg
  refine⟨rfl,Bo own w w' 1,⟨dv,gN,cN,gCl,cCl,gCa,lv',hv',gs,gcl,hB',λj hj=>?_,hp⟩,hold,hM.more λk hk=>?_⟩
  ·by_cases hji:j=i
   ·subst hji;have h1:Bh w' (λk=>own k=2+j) (gs j) n j q c (s.phs.getD j .fresh) [] false s.tk:=hnc.mv hm2 λk hk hkl hf=>by
     rcases hk with rfl|hk|hk|rfl
     ·have:=hB.ow.1;omega
     ·have:=ho1 k hk;omega
     ·have:=hh2 k hk;omega
     ·have:=hB.clo _ hck;omega
    exact h1.foot λk hk _=>by rw[hold k (hol k (by omega))];exact hk
   ·have h0:=hN j hj;rw[hout2 j hji,han2 j hji] at h0;have h1:=h0.mv hM λk hk hkl hf=>by rcases hnG k hk hkl with h|h<;>omega
    exact h1.foot λk hk _=>by rw[hold k (hol k (by omega))];exact hk
  ·rcases hk with rfl|rfl|hk|hk|rfl
   ·omega
   ·have:=hB.ow.1;omega
   ·have:=ho1 k hk;omega
   ·have:=hh2 k hk;omega
   ·have:=hB.clo _ hck;omega
end
theorem S9:∀u∈Dp,u.oneCell'=true:=by simp[Dp,Value.oneCell']
theorem IA{P:Program}{ops:Array Oper}{w:World}{o:Oper}{a:Act}{K:Act→World→Prop}{Q:Exit→Act→World→Prop}{E:Prop}(hgd:o.guard=none)(s x:Operand)(t:TypeId) (ho:o.op=.call { callee:=.builtin .append,args:=#[s,x],argTypes:=#[t,t] }) (e:TypeId) (z:Value) (size bytes:Nat) (ht:P.underlying t=some (.slice e)) (hi:(P.info? e).map (λi=>(i.zero,i.size,i.bytes))=some (some z,size,bytes)) (g n cap:Nat) (xs:List Value) (hs:a.eval s=.slice (some ⟨g,0,none⟩) n cap) (hown:AO w (.slice (some ⟨g,0,none⟩) n cap) (some g) e size n xs) (off m c:Nat) (news:List Value) (hx:a.eval x=.slice (some ⟨g,off,none⟩) m c) (hl:news.length=m*size) (hnews:∀j u,news[j]?=some u→w.cell? ⟨g,off+j,none⟩=some u) (h1:∀u∈news,u.oneCell'=true) (hroom:n+m≤cap) (h:∀w',AO w' (.slice (some ⟨g,0,none⟩) (n+m) cap) (some g) e size (n+m) (xs++news)→Touch g w w'→K (a.put o.dst (.slice (some ⟨g,0,none⟩) (n+m) cap)) w') :if Region.wanted o (yielded ops a.tmps)=true then Oper.wp P o a w K Q else E:=by
 have hw:Region.wanted o (yielded ops a.tmps)=true:=by simp[Region.wanted,hgd]
 rw[if_pos hw];obtain⟨i,hi0,hz,hsize,hby⟩:=info_parts hi;exact wp_append_own_spare w s x t ho 0 e i size ht hi0 hsize g n cap xs hs hown.own ⟨g,off,none⟩ m c news hx hl (λj u hu=>by rw[GU];exact hnews j u hu) h1 hroom λw' h2 h3=>h w' ⟨h2,rfl⟩ (Touch.of_grownBy h3)
theorem WJ(g cap m:Nat)(L0 L:List Value)(w:World)(h:AO w (.slice (some ⟨g,0,none⟩) (m+1:Nat) cap) (some g) 47 51 (m+1) (L0++L))(h0:L0.length=51)(h1:∀u∈L,u.oneCell'=true)(hm:m≤4000) :Calls prog 49 #[.slice (some ⟨g,0,none⟩) (m+1:Nat) cap,.int .i64 0,.int .i64 1] w λe w'=>e=.returned (.slice (some ⟨g,0,none⟩) m cap)∧AO w' (.slice (some ⟨g,0,none⟩) m cap) (some g) 47 51 m L∧Touch g w w':=by
 have hlen:=h.len;have hL:L.length=m*51:=by rw[List.length_append,h0] at hlen;omega
 obtain⟨g',cap',rest,hv,hg',hc1,hcm,hh,hl⟩:=h.blk (Nat.succ_pos m);cases hg';injection hv with _ _ hcc;subst hcc;have HH:=qh hh;have hm1:((m+1:Nat):Int)=(m:Int)+1:=by omega
 have hcap:(m:Int)+1≤cap:=by omega
 have hH1:=qh h1;have HT:=qh (Touch.refl g w);have hcm2:(cap=m)=False:=by simp;omega
 have hmle:(m:Int)≤(m:Int)+1:=by omega
 have hle:(1:Int)≤(m:Int)+1:=by omega
 have hcc:cap=1∨(cap=1)=False:=by by_cases h:cap=1<;>simp[h]
 clear h hlen h1;go_in;go_upto_region 5 with(fail);rcases hcc with rfl|hcc
 ·obtain rfl:m=0:=by omega
  obtain⟨HH,HT⟩:=DC (AQ _ w) HH HT;refine EQ [6] 8 (λhSn=>?_);generalize w.drew=wd at HH HT hSn ⊢;simp only[List.replicate];refine Jr 0 ?_;refine FT 4 ?_;refine BH 6 rfl (λK hK=>?_);refine IA rfl (.tmp 22) (.tmp 25) 34 rfl 47 (.agg Dp.toArray) 51 480 rfl (by kernel_rfl) g 0 _ [] rfl (AO.mk' (rest:=L0++L++rest) (HH.bel hSn) rfl hl (Nat.zero_le _) hcm) _ 0 _ L rfl hL (λj u hu=>?_) hH1.out (by omega) ?_
  ·first|(have h9:=(List.getElem?_eq_some_iff.1 hu).1;omega)|(rw[(HH.bel hSn).cell,List.append_assoc,List.getElem?_append_right (by omega),h0,Nat.add_sub_cancel_left,List.getElem?_append_left (List.getElem?_eq_some_iff.1 hu).1];exact hu)
  intro w2 ho2 ht2;have HT:=qh ((HT.bel hSn).trans ht2);have HO:=qh ho2;clear ho2 ht2;change K (Act.put _ (some 26) _) _;refine BN hK ?_;clear hK;refine CS 7 ?_ (hS:=IJ);refine Dl ?_;have HO:=qh (show AO w2 (.slice (some ⟨g,0,none⟩) 0 _) (some g) 47 51 0 L by simpa using HO.o);obtain⟨g2,cap2,r2,hv2,hg2,hd1,hd2,hh2,hl2⟩:=HO.cases.resolve_left (λhx=>by cases hx.1);cases hg2;injection hv2 with _ _ hcq;subst hcq;have HG:=qh hh2;have hr2:51≤r2.length:=by rw[List.length_append] at hl2;omega
  clear hSn HH hh2;go_wp2_with (first|(refine ES rfl (.tmp 31) 34 rfl rfl 47 (.agg Dp.toArray) rfl (by kernel_rfl) g (0*51) 1 _ (by decide) rfl _ 47 HG.o Dp (by kernel_rfl) (by simp[Dp];omega) S9 ?_;intro w5 hh5 ht5));have hsp:splice (L++r2) (0*51) Dp=L++(Dp++r2.drop 51):=by
   unfold splice;rw[List.take_append_of_le_length (by omega),List.take_of_length_le (by omega)];try simp only[List.append_assoc]
   rw[←hL,show L.length+Dp.length=L.length+51 from rfl,show (L++r2).drop (L.length+51)=r2.drop 51 by simp[List.drop_append]]
  have hh5:=hsp▸hh5;refine b1 (v:=.slice (some ⟨g,0,none⟩) 0 1) ?_;refine⟨rfl,AO.mk' hh5 hL ?_ (by omega) hcm,HT.trans ht5⟩;rw[List.length_append] at hl2;simp only[List.length_append,List.length_drop,show Dp.length=51 from rfl];omega
 ·skip
  obtain⟨HH,HT⟩:=DC (AQ _ w) HH HT;refine EQ [6] 8 (λhSn=>?_);generalize w.drew=wd at HH HT hSn ⊢;simp only[List.replicate];refine Jr 0 ?_;refine FT 4 ?_;refine BH 6 rfl (λK hK=>?_);refine IA rfl (.tmp 22) (.tmp 25) 34 rfl 47 (.agg Dp.toArray) 51 480 rfl (by kernel_rfl) g 0 _ [] rfl (AO.mk' (rest:=L0++L++rest) (HH.bel hSn) rfl hl (Nat.zero_le _) hcm) _ m _ L rfl hL (λj u hu=>?_) hH1.out (by omega) ?_
  ·first|(have h9:=(List.getElem?_eq_some_iff.1 hu).1;omega)|(rw[(HH.bel hSn).cell,List.append_assoc,List.getElem?_append_right (by omega),h0,Nat.add_sub_cancel_left,List.getElem?_append_left (List.getElem?_eq_some_iff.1 hu).1];exact hu)
  intro w2 ho2 ht2;have HT:=qh ((HT.bel hSn).trans ht2);have HO:=qh ho2;clear ho2 ht2;change K (Act.put _ (some 26) _) _;refine BN hK ?_;clear hK;refine CS 7 ?_ (hS:=IJ);refine Dl ?_;have HO:=qh (show AO w2 (.slice (some ⟨g,0,none⟩) m _) (some g) 47 51 m L by simpa using HO.o);obtain⟨g2,cap2,r2,hv2,hg2,hd1,hd2,hh2,hl2⟩:=HO.cases.resolve_left (λhx=>by cases hx.1);cases hg2;injection hv2 with _ _ hcq;subst hcq;have HG:=qh hh2;have hr2:51≤r2.length:=by rw[List.length_append] at hl2;omega
  clear hSn HH hh2;go_wp2_with (first|(refine ES rfl (.tmp 31) 34 rfl rfl 47 (.agg Dp.toArray) rfl (by kernel_rfl) g (m*51) 1 _ (by decide) rfl _ 47 HG.o Dp (by kernel_rfl) (by simp[Dp];omega) S9 ?_;intro w5 hh5 ht5));have hsp:splice (L++r2) (m*51) Dp=L++(Dp++r2.drop 51):=by
   unfold splice;rw[List.take_append_of_le_length (by omega),List.take_of_length_le (by omega)];try simp only[List.append_assoc]
   rw[←hL,show L.length+Dp.length=L.length+51 from rfl,show (L++r2).drop (L.length+51)=r2.drop 51 by simp[List.drop_append]]
  have hh5:=hsp▸hh5;refine b1 (v:=.slice (some ⟨g,0,none⟩) m cap) ?_;refine⟨rfl,AO.mk' hh5 hL ?_ (by omega) hcm,HT.trans ht5⟩;rw[List.length_append] at hl2;simp only[List.length_append,List.length_drop,show Dp.length=51 from rfl];omega
section
variable [In]
def CZ(k nn:Int):List Value:=[.int .i64 k,.int .i64 nn,.int .i64 0,.int .i64 0,.int .i64 0,.int .i64 0,.int .i64 0,.string ⟨#[]⟩,.string ⟨#[]⟩,.string ⟨#[]⟩,.string ⟨#[]⟩,.slice none 0 0]
def Off(gC n:Nat)(dv nv clv cav hv:Value)(gl m cap:Nat)(L:List Value)(w W:World):Prop:=Holds W gC 85 (DV n dv nv clv cav (.slice (some ⟨gl,0,none⟩) m cap) hv)∧AO W (.slice (some ⟨gl,0,none⟩) m cap) (some gl) 47 51 m L∧Mv (λk=>k=gC∨k=gl) w W
theorem Off.bel{gC n:Nat}{dv nv clv cav hv:Value}{gl m cap:Nat}{L:List Value}{w W W':World}(h:Off gC n dv nv clv cav hv gl m cap L w W)(hb:Below W.heap.size W W'):Off gC n dv nv clv cav hv gl m cap L w W':=⟨h.1.bel hb,h.2.1.bel hb,h.2.2.bel hb⟩
instance {gC n:Nat}{dv nv clv cav hv:Value}{gl m cap:Nat}{L:List Value}{w W W':World}:Bl W W' (Off gC n dv nv clv cav hv gl m cap L w W) (Off gC n dv nv clv cav hv gl m cap L w W'):=⟨λhb h=>Off.bel h hb⟩
theorem WC(gC gN n cN gl m cap:Nat)(gs:Nat→Nat)(rN:List Value)(kk f t q:Nat)(x:Cm)(dv clv cav hv:Value)(L:List Value)(R6 R7:World→Prop)(w:World) (h:Holds w gC 85 (DV n dv (.slice (some ⟨gN,0,none⟩) n cN) clv cav (.slice (some ⟨gl,0,none⟩) (m+1:Nat) cap) hv)) (hN:Holds w gN 59 (ptrs n gs++rN)) (ht:t<n) (hl:AO w (.slice (some ⟨gl,0,none⟩) (m+1:Nat) cap) (some gl) 47 51 (m+1) (Ah kk f t q x++L)) (h1:∀u∈L,u.oneCell'=true) (hm:m≤2000) (KT:∀W,Off gC n dv (.slice (some ⟨gN,0,none⟩) n cN) clv cav hv gl m cap L w W→Calls prog 50 #[.pointer (some ⟨gs t,0,none⟩),.agg (Ah kk f t q x).toArray] W λe W'=>(∃b,e=.returned (.bool b))∧R6 W'∧∀g L,w.heap.size≤g→Holds W g 47 L→Holds W' g 47 L) (KO:∀W,R6 W→Calls prog 31 #[.pointer (some ⟨gC,0,none⟩),.int .i64 t] W λe W'=>e=.returned (.tuple #[])∧R7 W') :Calls prog 27 #[.pointer (some ⟨gC,0,none⟩),.agg (CZ 2 0).toArray] w λe w'=>e=.returned (.bool true)∧R7 w':=by
 have hgt:gl≠gC∧gN≠gC∧gN≠gl:=by obtain⟨g1,_,_,_,h0,_,_,hh,_⟩:=hl.blk (Nat.succ_pos m);cases h0;exact⟨hh.ne_of h (by decide),hN.ne_of h (by decide),hN.ne_of hh (by decide)⟩
 obtain⟨gl',cap',rl,hv',hob',hcl1,hcl2,hLH,_⟩:=hl.blk (Nat.succ_pos m);cases hob';injection hv' with _ _ hcq;subst hcq;have HLH:=qh hLH;have KD:=qh (λW (h:AO W (.slice (some ⟨gl,0,none⟩) (m+1:Nat) cap) (some gl) 47 51 (m+1) (Ah kk f t q x++L))=>WJ gl cap m _ L W h rfl h1 (by omega));have KN:=qh (λW lv' h hN=>Rn gC n gN cN t gs rN dv clv cav lv' hv W h hN ht);have KT:=qh KT;have KO:=qh KO;have HC:=qh h;have HN:=qh hN;have HL:=qh hl;have HM:=qh (Mv.refl (λk=>k=gC∨k=gl) w);have hlen0:(0:Int)<((m+1:Nat):Int):=by omega
 have hm1:((m+1:Nat):Int)=(m:Int)+1:=by omega
 clear h hN hl hLH h1;go_in;go_upto_region 1 with(fail);go_name_world W hW;obtain⟨HS,hbW,hsW⟩:=Ff 32 (CZ 2 0) hW;clear hW;obtain⟨HC,HN,HL,HM,HLH⟩:=Fq hbW HC HN HL HM HLH;clear hbW;have hgS:w.heap.size≠gC∧w.heap.size≠gl:=⟨HS.ne_of HC.o (by decide),by have:=HL.lt gl rfl;have h9:=HS.ne_of HLH.o (by decide);exact h9⟩;generalize w.heap.size=gS at HS hgS ⊢;clear hsW;have s1:=Ag HS.o 1;have c5:=Ag HC.o 5;go_quiet (fail);have hb1:Below W.heap.size W (W.drewN nq):=BV _ _ _;obtain⟨HC,HN,HL,HM,HLH,HS⟩:=FI hb1 HC HN HL HM HLH HS;clear hb1 s1 c5;generalize W.drewN nq=w1 at HC HN HL HM HLH HS ⊢;have hsw1:=HM.size;have hgl1:gl<w1.heap.size∧gC<w1.heap.size:=⟨HL.lt gl rfl,HC.lt⟩;go_upto_region 3 with(fail);have HR1:=qh (BB (cs:=Ah kk f t q x) HLH.o 0 (by intro j v hv;rw[Nat.zero_add,List.append_assoc,List.getElem?_append_left (List.getElem?_eq_some_iff.1 hv).1];exact hv));refine' bx1 ⟨8,9,5,27,47,Dp,Ah kk f t q x⟩ _ (F5 _ _ _ _ _) ?h1 ?val1 ?fin1;case h1=>
  intro W0 hW0;obtain⟨HC,HN,HL,HM,HLH,HS⟩:=FI hW0 HC HN HL HM HLH HS;have c0_5:=Jt HC.o 5;have c1_1:=Jt HS.o 1;have HR2:=qh (BB (cs:=Ah kk f t q x) HLH.o 0 (by intro j v hv;rw[Nat.zero_add,List.append_assoc,List.getElem?_append_left (List.getElem?_eq_some_iff.1 hv).1];exact hv));simp only[List.map_cons,List.map_nil,A8];repeat(first
  | (with_reducible refine qR 0 HR2.o ?_;simp only[Act.put,List.setIfInBounds_toArray,List.set_cons_succ,List.set_cons_zero])
  | go_big_quiet_step (first
   | fail))
  refine wpQuiet_nil ?_;intro w' _;exact rfl
 case val1=>rfl
 intro β w4 hb hx5;simp only[] at hx5;simp only[Dk,List.foldl,Act.put,List.setIfInBounds_toArray,List.set_cons_zero,List.set_cons_succ];obtain⟨HC,HN,HL,HM,HLH,HS⟩:=FI hb HC HN HL HM HLH HS;generalize β 5=g5 at hx5 ⊢;have H5:=qh hx5.2;have hge5:=hx5.1;clear hx5;clear hb;have hg5:g5≠gC∧g5≠gl:=by omega
 have hw5:w.heap.size≤g5:=by omega
 clear HR1 HLH;have s0:=Ag HS.o 0;go_upto_region 5 with(fail);clear s0;obtain⟨HC,HN,HL,HM,HS,H5⟩:=FI (AQ _ w4) HC HN HL HM HS H5;refine EQ [10,13] 14 (λhSn=>?_);generalize w4.drew=wd at HC HN HL HM HS H5 hSn ⊢;simp only[List.replicate];refine Jr 0 ?_;refine BG 4 [10,11,12,13] (λw hSw=>Ag (HC.bel hSw) 5) ?_;refine CS 5 ?_;refine BG 6 [10,11,12,13] (λw hSw=>Ag (HS.bel hSw) 1) ?_;refine CS 7 ?_;refine BG 8 [9,10,11,12,13] (λw hSw=>Ag (HS.bel hSw) 1) ?_;refine CS 9 ?_;refine BH 10 rfl (λK hK=>?_);go_simp;refine Ac (KD.o _ (HL.bel hSn)) ?_;rintro w5 ⟨hl5,ht5⟩;have hm5:Mv (λk=>k=gl) _ w5:=Mv.AU ht5 rfl;have HC:=qh ((HC.bel hSn).mv hm5 (Ne.symm hgt.1));have HN:=qh ((HN.bel hSn).mv hm5 hgt.2.2);have HS:=qh ((HS.bel hSn).mv hm5 hgS.2);have H5:=qh ((H5.bel hSn).mv hm5 hg5.2);have HM:=qh ((HM.bel hSn).mv hm5 (λk hk=>.inl (.inr hk)));have HL:=qh hl5;clear hl5 ht5 hm5;refine BN hK ?_;clear hK;refine FT 11 ?_ (hS:=IJ);refine BH 13 rfl (λK hK=>?_);refine tC 5 HC.o (.slice (some ⟨gl,0,none⟩) m cap) ?_;intro w6 hh6 ht6;have hm6:Mv (λk=>k=gC) w5 w6:=Mv.AU ht6 rfl;have HC:=qh (show Holds w6 gC 85 (DV n dv (.slice (some ⟨gN,0,none⟩) n cN) clv cav (.slice (some ⟨gl,0,none⟩) m cap) hv) from hh6);have HN:=qh (HN.mv hm6 hgt.2.1);have HS:=qh (HS.mv hm6 hgS.1);have H5:=qh (H5.mv hm6 hg5.1);have HL:=qh (HL.mv hm6 (λk hk=>by cases hk;exact hgt.1));have HM:=qh (HM.mv hm6 (λk hk=>.inl (.inl hk)));clear hh6 ht6 hm6;refine BN hK ?_;clear hK;refine Dl ?_;clear hSn;have y2:=Ag H5.o 2;go_wp2_with fail;refine Ac (KN.o _ _ HC.o HN.o) ?_;rintro w7 hb7;have HOF:=qh (show Off gC n dv (.slice (some ⟨gN,0,none⟩) n cN) clv cav hv gl m cap L w w6 from⟨HC.o,HL.o,HM.o⟩);obtain⟨HOF,HS,H5⟩:=Du hb7 HOF HS H5;clear hb7 y2 HC HN HL HM;have s0:=Ag HS.o 0;go_upto_region 8 with(fail);have HRX:=qh H5.AY;go_wp2_with (first|(with_reducible refine lR 0 HRX.o ?_));refine(KT.o _ HOF.o).mono ?_;rintro e w8 ⟨⟨bb,rfl⟩,h6,h7⟩;have H6:=qh h6;have H5:=qh (h7 g5 _ hw5 H5.o);clear h6 h7 HOF HS HRX s0 KT;have y2:=Ag H5.o 2;go_wp2_with fail;refine Ac (KO.o _ H6.o) ?_;rintro w9 h7;have H7:=qh h7;clear h7 H6 KO y2 H5;go_wp2_with fail;go_ret;exact⟨rfl,H7.o⟩
theorem WB(gC gN n cN gl m cap:Nat)(gs:Nat→Nat)(rN:List Value)(kk f t q:Nat)(x:Cm)(dv clv cav hv:Value)(L:List Value)(R6 R7:World→Prop)(w:World) (h:Holds w gC 85 (DV n dv (.slice (some ⟨gN,0,none⟩) n cN) clv cav (.slice (some ⟨gl,0,none⟩) (m+1:Nat) cap) hv)) (hN:Holds w gN 59 (ptrs n gs++rN)) (ht:t<n) (hl:AO w (.slice (some ⟨gl,0,none⟩) (m+1:Nat) cap) (some gl) 47 51 (m+1) (Ah kk f t q x++L)) (h1:∀u∈L,u.oneCell'=true) (hm:m≤2000) (KT:∀W,Below w.heap.size w W→Calls prog 50 #[.pointer (some ⟨gs t,0,none⟩),.agg (Ah kk f t q x).toArray] W λe W'=>(∃b,e=.returned (.bool b))∧R6 W'∧∀g L,w.heap.size≤g→Holds W g 47 L→Holds W' g 47 L) (KO:∀W,R6 W→Calls prog 31 #[.pointer (some ⟨gC,0,none⟩),.int .i64 t] W λe W'=>e=.returned (.tuple #[])∧R7 W') :Calls prog 27 #[.pointer (some ⟨gC,0,none⟩),.agg (CZ 3 0).toArray] w λe w'=>e=.returned (.bool true)∧R7 w':=by
 have hgt:gl≠gC∧gN≠gC∧gN≠gl:=by obtain⟨g1,_,_,_,h0,_,_,hh,_⟩:=hl.blk (Nat.succ_pos m);cases h0;exact⟨hh.ne_of h (by decide),hN.ne_of h (by decide),hN.ne_of hh (by decide)⟩
 obtain⟨gl',cap',rl,hv',hob',hcl1,hcl2,hLH,_⟩:=hl.blk (Nat.succ_pos m);cases hob';injection hv' with _ _ hcq;subst hcq;have HLH:=qh hLH;have KN:=qh (λW lv' h hN=>Rn gC n gN cN t gs rN dv clv cav lv' hv W h hN ht);have KT:=qh KT;have KO:=qh KO;have HC:=qh h;have HN:=qh hN;have HL:=qh hl;have HB:=qh (Base.start w);have hlen0:(0:Int)<((m+1:Nat):Int):=by omega
 have hm1:((m+1:Nat):Int)=(m:Int)+1:=by omega
 clear h hN hl hLH h1;go_in;go_upto_region 1 with(fail);go_name_world W hW;obtain⟨HS,hbW,hsW⟩:=Ff 32 (CZ 3 0) hW;clear hW;obtain⟨HC,HN,HL,HB,HLH⟩:=Fq hbW HC HN HL HB HLH;clear hbW;have hgS:w.heap.size≠gC∧w.heap.size≠gl:=⟨HS.ne_of HC.o (by decide),by have:=HL.lt gl rfl;have h9:=HS.ne_of HLH.o (by decide);exact h9⟩;generalize w.heap.size=gS at HS hgS ⊢;clear hsW;have s1:=Ag HS.o 1;have c5:=Ag HC.o 5;go_quiet (fail);have hb1:Below W.heap.size W (W.drewN nq):=BV _ _ _;obtain⟨HC,HN,HL,HB,HLH,HS⟩:=FI hb1 HC HN HL HB HLH HS;clear hb1 s1 c5;generalize W.drewN nq=w1 at HC HN HL HB HLH HS ⊢;have hsw1:=HB.le;have hgl1:gl<w1.heap.size∧gC<w1.heap.size:=⟨HL.lt gl rfl,HC.lt⟩;go_upto_region 3 with(fail);have HR1:=qh (BB (cs:=Ah kk f t q x) HLH.o 0 (by intro j v hv;rw[Nat.zero_add,List.append_assoc,List.getElem?_append_left (List.getElem?_eq_some_iff.1 hv).1];exact hv));refine' bx1 ⟨8,9,5,27,47,Dp,Ah kk f t q x⟩ _ (F5 _ _ _ _ _) ?h2 ?val2 ?fin2;case h2=>
  intro W0 hW0;obtain⟨HC,HN,HL,HB,HLH,HS⟩:=FI hW0 HC HN HL HB HLH HS;have c0_5:=Jt HC.o 5;have c1_1:=Jt HS.o 1;have HR2:=qh (BB (cs:=Ah kk f t q x) HLH.o 0 (by intro j v hv;rw[Nat.zero_add,List.append_assoc,List.getElem?_append_left (List.getElem?_eq_some_iff.1 hv).1];exact hv));simp only[List.map_cons,List.map_nil,A8];repeat(first
  | (with_reducible refine qR 0 HR2.o ?_;simp only[Act.put,List.setIfInBounds_toArray,List.set_cons_succ,List.set_cons_zero])
  | go_big_quiet_step (first
   | fail))
  refine wpQuiet_nil ?_;intro w' _;exact rfl
 case val2=>rfl
 intro β w4 hb hx5;simp only[] at hx5;simp only[Dk,List.foldl,Act.put,List.setIfInBounds_toArray,List.set_cons_zero,List.set_cons_succ];obtain⟨HC,HN,HL,HB,HLH,HS⟩:=FI hb HC HN HL HB HLH HS;generalize β 5=g5 at hx5 ⊢;have H5:=qh hx5.2;have hge5:=hx5.1;clear hx5;clear hb;have hg5:g5≠gC∧g5≠gl:=by omega
 have hw5:w.heap.size≤g5:=by omega
 clear HR1 HLH;have s0:=Ag HS.o 0;have y2:=Ag H5.o 2;go_wp2_with fail;refine Ac (KN.o _ _ HC.o HN.o) ?_;rintro w7 hb7;obtain⟨HB,HS,H5⟩:=Du hb7 HB HS H5;clear hb7 y2 HC HN HL s0;have s0:=Ag HS.o 0;go_upto_region 8 with(fail);have HRX:=qh H5.AY;go_wp2_with (first|(with_reducible refine lR 0 HRX.o ?_));refine(KT.o _ HB.below).mono ?_;rintro e w8 ⟨⟨bb,rfl⟩,h6,h7⟩;have H6:=qh h6;have H5:=qh (h7 g5 _ hw5 H5.o);clear h6 h7 HB HS HRX s0 KT;have y2:=Ag H5.o 2;go_wp2_with fail;refine Ac (KO.o _ H6.o) ?_;rintro w9 h7;have H7:=qh h7;clear h7 H6 KO y2 H5;go_wp2_with fail;go_ret;exact⟨rfl,H7.o⟩
end
end Go.Proofs.YtimdpiifpibgfaaGreatDoor
