/- A part of the proof that the law TopCopies returns true for every input. -/
import Derived.Test.YtimdpiifpibgfaaGreatDoorQc35
set_option linter.all false
set_option maxRecDepth 20000
set_option maxHeartbeats 16000000
open Go.RowKit Go.Maps
namespace Go.Proofs.YtimdpiifpibgfaaGreatDoor
open Tryz
section
variable [In] [Bs]
def Wx(c:Cm)(q:Nat)(m:Lt):List Value:=Ah m.1 m.2.1 m.2.2 q (if m.1=2 then Cm.zero else c)
def Dt(c:Cm)(q:Nat)(l:List Lt)(i:Nat):List Value:=Wx c q (l.getD i (0,0,0))
def EX:Ph→Bool
 | .lead _ _=>true
 | _=>false
def DK(ph:Ph):Nat:=200+1000*Bs.nb+500*bnd ph
def Bh(w:World)(F:Af)(g n me q:Nat)(c:Cm)(ph:Ph)(out:List Lt)(an:Bool)(tk:Nat):Prop:=
 ∃t:Int,(0≤t∧t≤tk)∧DJ w F g n me q c ph (.slice none 0 0) (.slice none 0 0) (FM ph) (EX ph) out.length (Dt c q out) an t (DK ph)
theorem QH{s m:Nat}{V V':Nat→List Value}(hs:0<s)(h:∀i,i<m→V i=V' i):flat s m V=flat s m V':=by unfold flat;refine List.map_congr_left λt ht=>?_;have h1:t<m*s:=List.mem_range.1 ht;rw[h (t / s) (Nat.div_lt_of_lt_mul (by rw[Nat.mul_comm];exact h1))]
theorem Dv.UQ{w:World}{F:Af}{out:Value}{m:Nat}{V V':Nat→List Value}(h:Dv w F out m V)(hV:∀i,i<m→V i=V' i):Dv w F out m V':=by obtain⟨h0,ob,h1,h2⟩:=h;exact⟨h0,ob,QH (s:=51) (by decide) hV▸h1,h2⟩
theorem G9(c:Cm)(q:Nat)(l:List Lt)(k:Nat):∀u∈flat 51 k (Dt c q l),u.oneCell'=true:=
 JI 51 k (Dt c q l) (λ_ _=>rfl) λi _ u hu=>Lm _ _ _ _ _ u hu
theorem Dv.nil0(w:World)(F:Af)(V:Nat→List Value):Dv w F (.slice none 0 0) 0 V:=⟨λ_=>rfl,none,AO.nil _ _ _,by simp⟩
theorem Ve{w W w1:World}{F:Af}(hb:Below w.heap.size w W)(hm:Mv (Ef W F) W w1):Mv F w w1:=(Mv.of_below hb).mv hm λk hk=>.inl hk.1
def OB(F:Af)(gc n me q:Nat)(c:Cm)(ph:Ph)(r m:Nat)(V:Nat→List Value)(W w1:World):Prop:=
 ∃recs cout,Ba w1 (grow F W w1) gc n me q c ph recs cout∧IR w1 W.heap.size r recs∧Dv w1 (grow F W w1) cout m V∧Mv (Ef W F) W w1
theorem OB.quiet{w w':World}{F:Af}{gc n me q:Nat}{c:Cm}{ph:Ph}(V:Nat→List Value)(h:Ba w F gc n me q c ph (.slice none 0 0) (.slice none 0 0))(hb:Below w.heap.size w w'):OB F gc n me q c ph 0 0 V w w':=
 ⟨_,_,(h.bel hb).foot λk hk _=>.inl hk,.inl ⟨rfl,rfl⟩,Dv.nil0 _ _ _,.of_below hb⟩
theorem FH(w:World)(F:Af)(g n me q:Nat)(c:Cm)(ph ph':Ph)(X:Value)(r:Nat)(out:List Lt)(t:Int)(tk:Nat)(ht:0≤t∧t≤tk)(hB:EN n q c)(gd mb gw gc gfr:Nat)(P:Value)(pv:Nat→Value)(waits out0 ans:Value) (h:DR w F g n me q c ph (.slice none 0 0) (.slice none 0 0) (FM ph) (EX ph) 0 (Dt c q []) false t (DK ph) gd mb gw gc gfr P pv waits out0 ans) (NT:∀R1 R2:World→Prop,(∀W,Below w.heap.size w W→Calls prog 75 #[.pointer (some ⟨gc,0,none⟩),X] W λe w'=>e=.returned (.bool false)∧R1 w')→(∀W,R1 W→Calls prog 53 #[.pointer (some ⟨g,0,none⟩)] W λe w'=>e=.returned (.tuple #[])∧R2 w') →Calls prog 50 #[.pointer (some ⟨g,0,none⟩),X] w λe w'=>e=.returned (.bool true)∧R2 w') (KC:∀W,Below w.heap.size w W→Calls prog 75 #[.pointer (some ⟨gc,0,none⟩),X] W λe w'=>e=.returned (.bool false)∧OB F gc n me q c ph' r out.length (Dt c q out) W w') (hph:FM ph=.no∨(FM ph=.yes∧ph'=.com)) (hr:DK ph+500*r=DK ph') (hw:EX ph'=(EX ph&&!Hr ph')) (hm:out.length≤100) (hme:me<n) (hde:FM ph'=FM ph') :Calls prog 50 #[.pointer (some ⟨g,0,none⟩),X] w λe w'=>e=.returned (.bool true)∧Bh w' (grow F w w') g n me q c ph' out (EX ph&&Hr ph') tk∧Mv F w w':=by
 have hnb:=hB.nb;have hbl:=UK ph';have hlim:DK ph'≤27000:=by unfold DK;omega
 refine(NT (λW1=>∃W recs cout,w.heap.size≤W.heap.size∧W.heap.size≤W1.heap.size∧Mv F w W1∧DJ W1 (grow F W W1) g n me q c ph' recs cout (FM ph) (EX ph) 0 (Dt c q []) false t (DK ph)∧IR W1 W.heap.size r recs∧Dv W1 (grow F W W1) cout out.length (Dt c q out)) (λw'=>DJ w' (grow F w w') g n me q c ph' (.slice none 0 0) (.slice none 0 0) (FM ph') (EX ph&&!Hr ph') out.length (Dt c q out) (EX ph&&Hr ph') t (DK ph+500*r)∧Mv F w w') (λW hb=>?_) (λW1 hR=>?_)).mono ?_
 ·refine Ac (KC W hb) ?_;rintro w1 ⟨recs,cout,c1,c2,c3,c4⟩;exact⟨rfl,W,recs,cout,hb.size,c4.size,Ve hb c4,⟨gd,mb,gw,gc,gfr,P,pv,waits,out0,ans,((h.bel hb).foot λk hk _=>.inl hk).YE c4 (λk hk _=>hk.2) c1⟩,c2,c3⟩
 ·obtain⟨W,recs,cout,r1,r2,r3,r4,r5,r6⟩:=hR;refine Ac (Jm W1 (grow F W W1) W.heap.size g n me q c ph' recs cout (FM ph) (EX ph) t (DK ph) r out.length (Dt c q out) (Dt c q []) hB r4 r5 r6 hm (G9 c q _ _) (λk hk hk2=>.inr ⟨hk,hk2⟩) (by omega) (by omega) hph hme) ?_;rintro w' ⟨hn,hm'⟩;have hs:=hm'.size;refine⟨rfl,hn.foot λk hk hkl=>?_,r3.mv hm' λk hk=>hk.imp id λ⟨a,_⟩=>Nat.le_trans r1 a⟩;rcases grow_step r2 hs hk with h|⟨a,b⟩
  ·exact .inl h
  ·exact .inr ⟨Nat.le_trans r1 a,b⟩
 ·rintro e w' ⟨rfl,hn',hm'⟩;rw[hr,←hw] at hn';exact⟨rfl,⟨t,ht,hn'⟩,hm'⟩
theorem Pg:DK .fresh+500*1=DK .pre:=by unfold DK;simp[bnd]
theorem TC:DK .pre+500*1=DK .com:=by unfold DK;simp[bnd]
theorem Qu(A:List Nat)(tk:Nat):DK (.lead A tk)+500*1=DK .com:=by unfold DK;simp[bnd]
theorem XF(w:World)(F:Af)(g n me q:Nat)(c:Cm)(ph ph':Ph)(m:Lt)(out:List Lt)(an:Bool)(tk:Nat)(hB:EN n q c)(h:Bh w F g n me q c ph [] false tk)(hm:m.2.2=me)(hs:JV n q ph m=some (ph',out,an)) :Calls prog 50 #[.pointer (some ⟨g,0,none⟩),.agg (Wx c q m).toArray] w λe w'=>e=.returned (.bool true)∧Bh w' (grow F w w') g n me q c ph' out an tk∧Mv F w w':=by
 obtain⟨k,f,t⟩:=m;obtain rfl:t=me:=hm;have hn:=hB.n7;have hq:=hB.hq;obtain⟨tt,htt,gd,mb,gw,gc,gfr,P,pv,waits,out0,ans,h⟩:=h;unfold JV at hs;split at hs
 ·cases hs
 rename_i hcond;have hft:f≠t∧f<n∧t<n:=by simp only[not_or,Nat.not_le] at hcond;exact⟨hcond.1,hcond.2.1,hcond.2.2⟩
 clear hcond;have co:=h.co;have N1:=λ(hf:f=q) R1 R2=>fV g n t gd gw gc gfr f q c P _ pv _ _ _ tt waits out0 ans R1 R2 w h.nd hft.2.1 (U4 f t q c hB.hc.right (by omega) (by omega) (by omega) hft.1);have N2:=λR1 R2=>fZ g n t gd gw gc gfr f q Cm.zero P _ pv _ _ _ tt waits out0 ans R1 R2 w h.nd hft.2.1 (Q9 f t q (by omega) (by omega) (by omega) hft.1);have N5:=λR1 R2=>gB g n t gd gw gc gfr f q c P _ pv _ _ _ tt waits out0 ans R1 R2 w h.nd hft.2.1 (U5 f t q c hB.hc.right (by omega) (by omega) (by omega) hft.1);split at hs
 ·
  rename_i hk;obtain rfl:k=1:=hk;split at hs
  ·rename_i hfq;obtain rfl:f=q:=hfq;simp only[Option.some.injEq,Prod.mk.injEq] at hs;obtain⟨rfl,rfl,rfl⟩:=hs;refine FH w F g n t f c .fresh .pre _ 1 [(2,t,f)] tt tk htt hB gd mb gw gc gfr P pv waits out0 ans h (N1 rfl) (λW hb=>?_) (.inl rfl) Pg rfl (by simp) hft.2.2 rfl;refine Ac (YG hB (co.bel hb) hft.2.1 hft.2.2 hft.1) ?_;rintro w1 ⟨recs,cout,c1,c2,c3,c4⟩;exact⟨rfl,recs,cout,c1,c2,c3.UQ λi hi=>by
    obtain rfl:i=0:=by omega
    rfl,c4⟩
  ·cases hs
 ·
  rename_i hk;obtain rfl:k=1:=hk;split at hs
  ·rename_i hfq;obtain rfl:f=q:=hfq;simp only[Option.some.injEq,Prod.mk.injEq] at hs;obtain⟨rfl,rfl,rfl⟩:=hs;refine FH w F g n t f c .pre .pre _ 0 [(2,t,f)] tt tk htt hB gd mb gw gc gfr P pv waits out0 ans h (N1 rfl) (λW hb=>?_) (.inl rfl) rfl rfl (by simp) hft.2.2 rfl;refine Ac (PX hB (co.bel hb) hft.2.1 hft.2.2 hft.1) ?_;rintro w1 ⟨cout,c1,c3,c4⟩;exact⟨rfl,_,cout,c1,.inl ⟨rfl,rfl⟩,c3.UQ λi hi=>by
    obtain rfl:i=0:=by omega
    rfl,c4⟩
  ·cases hs
 ·
  rename_i A tk' hk;obtain rfl:k=2:=hk;have hqm:q=t:=by obtain⟨⟨gl,gm,nl,gi,gx,ni,L,E,leads,a1,a2,a3,a4,hqm,a5⟩,hfc⟩:=co;exact hqm
  subst hqm;split at hs
  ·rename_i hA;simp only[Option.some.injEq,Prod.mk.injEq] at hs;obtain⟨rfl,rfl,rfl⟩:=hs;refine FH w F g n q q c (.lead A tk') (.lead A tk') _ 0 [] tt tk htt hB gd mb gw gc gfr P pv waits out0 ans h N2 (λW hb=>?_) (.inl rfl) rfl rfl (by simp) hft.2.2 rfl;refine Ac (PW hB (co.bel hb) hft.2.1 hft.2.2 hft.1 hA) ?_;rintro w1 hb1;exact⟨rfl,.quiet _ (co.bel hb) hb1⟩
  rename_i hA;split at hs
  ·cases hs
  rename_i hA5;split at hs
  ·rename_i hle;simp only[Option.some.injEq,Prod.mk.injEq] at hs;obtain⟨rfl,rfl,rfl⟩:=hs;have hlen:(Bz 5 n q).length=n-1:=by simp[Bz,FU]
   refine FH w F g n q q c (.lead A tk') .com _ 1 (Bz 5 n q) tt tk htt hB gd mb gw gc gfr P pv waits out0 ans h N2 (λW hb=>?_) (.inl rfl) (Qu A tk') rfl (by omega) hft.2.2 rfl;refine(Ro hB (co.bel hb) hft.2.1 hft.2.2 hft.1 hA (by omega)).mono ?_;rintro e w1 ⟨rfl,c4,⟨hlt,_⟩|⟨_,recs,cout,c1,c2,c3⟩⟩
   ·omega
   have c5:Dv w1 (grow F W w1) cout (Bz 5 n q).length (Dt c q (Bz 5 n q)):=by
    rw[hlen];refine c3.UQ λi hi=>?_;have:(Bz 5 n q).getD i (0,0,0)=(5,q,if i<q then i else i+1):=by simp[Bz,FU,List.getD_eq_getElem?_getD,hi]
    unfold Dt Wx O1;rw[this]
    rfl
   exact⟨rfl,recs,cout,c1,c2,c5,c4⟩
  ·rename_i hle;simp only[Option.some.injEq,Prod.mk.injEq] at hs;obtain⟨rfl,rfl,rfl⟩:=hs;refine FH w F g n q q c (.lead A tk') (.lead (f :: A) tk') _ 0 [] tt tk htt hB gd mb gw gc gfr P pv waits out0 ans h N2 (λW hb=>?_) (.inl rfl) rfl rfl (by simp) hft.2.2 rfl;refine(Ro hB (co.bel hb) hft.2.1 hft.2.2 hft.1 hA (by omega)).mono ?_;rintro e w1 ⟨rfl,c4,⟨_,c1⟩|⟨hlt,_⟩⟩
   ·exact⟨rfl,_,_,c1,.inl ⟨rfl,rfl⟩,Dv.nil0 _ _ _,c4⟩
   ·omega
 ·
  rename_i hk;obtain rfl:k=2:=hk;split at hs
  ·rename_i hfq;simp only[Option.some.injEq,Prod.mk.injEq] at hs;obtain⟨rfl,rfl,rfl⟩:=hs;refine FH w F g n t q c .com .com _ 0 [] tt tk htt hB gd mb gw gc gfr P pv waits out0 ans h N2 (λW hb=>?_) (.inr ⟨rfl,rfl⟩) rfl rfl (by simp) hft.2.2 rfl;refine Ac (WH hB (co.bel hb) hft.2.1 hft.2.2 hft.1) ?_;rintro w1 hb1;exact⟨rfl,.quiet _ (co.bel hb) hb1⟩
  ·cases hs
 ·
  rename_i hk;obtain rfl:k=5:=hk;simp only[Option.some.injEq,Prod.mk.injEq] at hs;obtain⟨rfl,rfl,rfl⟩:=hs;refine FH w F g n t q c .pre .com _ 1 [] tt tk htt hB gd mb gw gc gfr P pv waits out0 ans h N5 (λW hb=>?_) (.inl rfl) TC rfl (by simp) hft.2.2 rfl;refine Ac (WI hB (co.bel hb) hft.2.1 hft.2.2 hft.1) ?_;rintro w1 ⟨recs,cout,c1,c2,c3,c4⟩;exact⟨rfl,recs,cout,c1,c2,c3.UQ λi hi=>by omega,c4⟩
 ·
  rename_i hk;obtain rfl:k=5:=hk;simp only[Option.some.injEq,Prod.mk.injEq] at hs;obtain⟨rfl,rfl,rfl⟩:=hs;refine FH w F g n t q c .com .com _ 0 [] tt tk htt hB gd mb gw gc gfr P pv waits out0 ans h N5 (λW hb=>?_) (.inr ⟨rfl,rfl⟩) rfl rfl (by simp) hft.2.2 rfl;refine Ac (OQ hB (co.bel hb) hft.2.1 hft.2.2 hft.1) ?_;rintro w1 hb1;exact⟨rfl,.quiet _ (co.bel hb) hb1⟩
 ·cases hs
end
section
variable [In]
theorem Mv.XI{w W:World}{F:Af}{g b:Nat}(h:D6 g b w W)(hg:F g)(hb:F b):Mv F w W:=⟨h.os,h.tape,h.output,h.size,λk hk hn=>h.block k hk (λe=>hn (e▸hg)) (λe=>hn (e▸hb))⟩
theorem VQ(n:Nat)(w:World)(hn:n=3∨n=5∨n=7):Calls prog 60 #[.int .i64 n] w λe w'=>e=.returned (.bool true)∧Below w.heap.size w w':=by
 rcases hn with rfl|rfl|rfl;all_goals
  go_in;go_wp2_with fail;go_ret;exact⟨rfl,Below.refl _ _⟩
theorem Uz(g b:Nat)(w:World)(h:DL w g b 0 (λ_=>0) []) :Calls prog 118 #[.pointer (some ⟨g,0,none⟩),.agg #[.int .i64 0,.int .i64 0,.int .i64 0,.int .i64 0,.int .i64 0,.int .i64 0,.int .i64 0]] w λe w'=>e=.returned (.tuple #[])∧DL w' g b 0 (λ_=>0) []∧D6 g b w w':=by
 refine Ac (prune_any g b 0 (λ_=>0) (λ_=>0) [] w h) ?_;rintro w' ⟨hi,ht⟩;have hz:GZ (λ_=>0) (λ_=>0)=λ_=>0:=by
  funext t
  rfl
 rw[hz] at hi;exact⟨rfl,hi,ht⟩
theorem YF(n me:Nat)(w:World)(hn:n=3∨n=5∨n=7)(hme:me<n) :Calls prog 65 #[.int .i64 n,.int .i64 me,.agg #[.int .i64 0,.int .i64 0,.int .i64 0,.int .i64 0,.int .i64 0,.int .i64 0,.int .i64 0],.slice none 0 0] w λe w'=>∃gc gl gm gi gx,e=.returned (.tuple #[.pointer (some ⟨gc,0,none⟩),.int .i64 0])∧BC w' gc n me gl gm 0 gi gx 0 [] [] (.slice none 0 0) (.slice none 0 0) (.slice none 0 0)∧(w.heap.size≤gc∧w.heap.size≤gl∧w.heap.size≤gm∧w.heap.size≤gi∧w.heap.size≤gx)∧Below w.heap.size w w':=by
 have KF:=qh (λW=>VQ n W hn);have KD:=qh EY;have KLn:=qh Yt;have KIn:=qh new_any;have KP:=qh Uz;have h1:(me:Int)<n:=by omega
 have h2:¬(me:Int)<0:=by omega
 have h3:¬(n:Int)≤me:=by omega
 go_in;go_upto_region 1 with(fail);go_name_world W hW;obtain⟨HX,hbW,hsW⟩:=Ff 41 ([.int .i64 0,.int .i64 0,.int .i64 0,.int .i64 0,.int .i64 0,.int .i64 0,.int .i64 0]) hW;clear hW;have HB:=qh (Base.start w);have HB:=ET hbW HB;clear hbW hsW;generalize hB0:w.heap.size=B at HX HB ⊢;go_wp2_with fail;refine Ac (KF.o _) ?_;rintro w1 hb;obtain⟨HX,HB⟩:=DC hb HX HB;clear hb;obtain⟨x0,x1,x2,x3,x4,x5,x6⟩:=GR HX.o 0 1 2 3 4 5 6;go_wp2_with fail;refine Ac (KD.o _) ?_;rintro w2 hb;obtain⟨HX,HB⟩:=DC hb HX HB;clear hb x0 x1 x2 x3 x4 x5 x6;obtain⟨x0,x1,x2,x3,x4,x5,x6⟩:=GR HX.o 0 1 2 3 4 5 6;go_wp2_with fail;refine(KLn.o _).mono ?_;rintro e w3 ⟨gl,gm,rfl,hl,hgl,hgm,hb⟩;have hBw2:=HX.lt;have HL:=qh hl;obtain⟨HX,HB⟩:=DC hb HX HB;have hB2:B≤gl∧B≤gm∧gl<w3.heap.size∧gm<w3.heap.size:=by have:=HX.lt;have:=hb.size;have h5:=HB.below.size;have h6:=hl.lt;omega
 clear hb hl x0 x1 x2 x3 x4 x5 x6;go_wp2_with fail;refine Ac (KIn.o _) ?_;rintro w4 ⟨hi,hb⟩;have HI:=qh hi;obtain⟨HX,HB,HL⟩:=Du hb HX HB HL;have hg5:B<w3.heap.size+1∧gl≠w3.heap.size∧gl≠w3.heap.size+1∧gm≠w3.heap.size∧gm≠w3.heap.size+1∧w3.heap.size+1<w4.heap.size:=by have:=HI.lt;omega
 clear hb hi;generalize hgi:w3.heap.size+1=gi at HI hg5 ⊢;generalize hgx:w3.heap.size=gx at HI hg5 hB2 ⊢;go_upto_region 4 with(fail);have hal:Below w4.heap.size w4 (w4.alloc (.cells #[.int .i64 n,.int .i64 me,.pointer (some ⟨gl,0,none⟩),.pointer (some ⟨gi,0,none⟩),.slice none 0 0,.slice none 0 0,.slice none 0 0,.slice none 0 0] 163)):=(Below.refl _ _).alloc (Nat.le_refl _) _;have HC:=qh (AA w4 163 [.int .i64 n,.int .i64 me,.pointer (some ⟨gl,0,none⟩),.pointer (some ⟨gi,0,none⟩),.slice none 0 0,.slice none 0 0,.slice none 0 0,.slice none 0 0]);obtain⟨HX,HB,HL,HI⟩:=Dy hal HX HB HL HI;have hgc:w4.heap.size≠gl∧w4.heap.size≠gm∧w4.heap.size≠gi∧w4.heap.size≠gx∧B≤w4.heap.size:=by have:=hal.size;omega
 clear hal;generalize w4.alloc (.cells #[.int .i64 n,.int .i64 me,.pointer (some ⟨gl,0,none⟩),.pointer (some ⟨gi,0,none⟩),.slice none 0 0,.slice none 0 0,.slice none 0 0,.slice none 0 0] 163)=w5 at HX HB HL HI HC ⊢;generalize w4.heap.size=gc at HC hgc ⊢;have hBw:B≤gi∧B≤gx:=by omega
 obtain⟨HC,HL,HI,HX,HB⟩:=Fq (AQ _ w5) HC HL HI HX HB;refine EQ [5] 6 (λhSn=>?_);generalize w5.drew=wd at HC HL HI HX HB hSn ⊢;simp only[List.replicate];refine Dz 0 ?_;refine BG 3 [5] (λw hSw=>Ag (HC.bel hSw) 3) ?_;refine BG 4 [5] (λw hSw=>GR (HX.bel hSw) 0 1 2 3 4 5 6) ?_;refine BH 5 rfl (λK hK=>?_);go_simp;refine Ac (KP.o _ _ _ (HI.bel hSn)) ?_;rintro w6 ⟨hi6,ht6⟩;have hm6:Mv (λk=>k=gi∨k=gx) _ w6:=Mv.XI ht6 (.inl rfl) (.inr rfl);have HI6:=qh hi6;have HC6:=qh ((HC.bel hSn).mv hm6 (by omega));have hl6:=HL.bel hSn;have HL6:=qh (hl6.keep (hm6.block _ hl6.lt.1 (by omega)) (hm6.block _ hl6.lt.2 (by omega)));have hb6:=(HB.bel hSn).below;have HB6:=qh (hb6.trans (hm6.below (B:=B) (by have:=hb6.size;omega) (λk hk=>by omega)));clear hi6 ht6 hm6 hl6 hb6;refine BN hK ?_;clear hK;refine Dl ?_;clear hSn HC HL HI HX HB;have HL:=qh HL6.o;have HI:=qh HI6.o;have HC:=qh HC6.o;have HB:=qh HB6.o;clear HL6 HI6 HC6 HB6;go_wp2_with fail;go_loopw [49] (λvi wr=>vi=.int .i64 0∧BC wr gc n me gl gm 0 gi gx 0 [] [] (.slice none 0 0) (.slice none 0 0) (.slice none 0 0)∧Below B w wr) (λ_ _=>0);case atStart=>exact⟨rfl,⟨HC.o,HL.o,HI.o,by omega⟩,HB.o⟩
 case round=>clear HL HI HC HB;obtain⟨rfl,hca,hb⟩:=hrel;have HCA:=qh hca;have HB:=qh hb;clear hca hb;go_wp2_with fail;refine b2 (v:=.tuple #[.pointer (some ⟨gc,0,none⟩),.int .i64 0]) ?_;exact⟨gc,gl,gm,gi,gx,rfl,HCA.o,by omega,by rw[hB0];exact HB.o⟩
end
section
variable [In]
section
variable {P:Program} {ops:Array Oper} {Q:Exit→Act→World→Prop}
theorem Pq{rest:List Oper}{o:Oper}{a:Act}{w:World}(hw:Region.wanted o (yielded ops a.tmps)=true)(t:TypeId)(i j k:Nat)(q r s:Tmp)(ho:o.op=.build t #[(i,.tmp q),(j,.tmp r),(k,.tmp s)])(u v x:Value)(hu:a.eval (.tmp q)=u)(hv:a.eval (.tmp r)=v)(hx:a.eval (.tmp s)=x) (z:Value) (hr:∀w,(Instr.build t #[(i,u),(j,v),(k,x)]).run P w=.ok z w) (h:wpList P ops Q rest (a.put o.dst z) w):wpList P ops Q (o :: rest) a w:=
 wpList_step λK hK=>by rw[if_pos hw];unfold Oper.wp execOp;simp only[ho,List.map_toArray,List.map_cons,List.map_nil,hu,hv,hx];rw[Sem.run_bind,hr];exact hK _ _ h
end
theorem WY{w:World}{t:TypeId}{L:List Value}{A:Array Value}(h:A=L.toArray):Holds (w.alloc (.cells A t)) w.heap.size t L:=h▸AA w t L
theorem WT(n me:Nat)(w:World)(hn:n=3∨n=5∨n=7)(hme:me<n) :Calls prog 61 #[.int .i64 n,.int .i64 me] w λe w'=>∃g,e=.returned (.tuple #[.pointer (some ⟨g,0,none⟩),.int .i64 0])∧Au w' g 197 n me (λ_ _=>0)∧w.heap.size≤g∧Below w.heap.size w w':=by
 rcases hn with rfl|rfl|rfl;all_goals
  have hmi:(me:Int)<7:=by omega
  have hmi3:me<3→(me:Int)<3:=by omega
  have hmi5:me<5→(me:Int)<5:=by omega
  have hm0:¬((me:Int)<0):=by omega
  try have hx3:=hmi3 hme
  try have hx5:=hmi5 hme
  clear hmi3 hmi5 hme;go_in;go_wp2_with fail;refine b2 (v:=.tuple #[.pointer (some ⟨w.heap.size,0,none⟩),.int .i64 0]) ?_;exact⟨w.heap.size,rfl,⟨WY (by kernel_rfl),by decide⟩,Nat.le_refl _,by go_grown⟩
theorem XB(g n me gd:Nat)(V:List Value)(w:World)(nd:Holds w g 102 V)(hV:V[2]?=some (.pointer (some ⟨gd,0,none⟩)))(dk:FC w gd) :Calls prog 62 #[.pointer (some ⟨g,0,none⟩)] w λe w'=>e=.returned (.int .i64 0)∧Below w.heap.size w w':=by have KR:=qh (λs W (h:FC W gd)=>jR gd s W h);have HN:=qh nd;have HD:=qh (show Holds w gd 125 _ from dk);have HB:=qh (Base.start w);clear nd dk;go_in;have n2:=HN.cell 2;rw[hV] at n2;go_wp2_with fail;refine Ac (KR.o _ _ HD.o) ?_;rintro w1 hb;obtain⟨HN,HD,HB⟩:=Du hb HN HD HB;clear hb n2;have n2:=HN.cell 2;rw[hV] at n2;go_wp2_with fail;refine Ac (KR.o _ _ HD.o) ?_;rintro w2 hb;have HB:=ET hb HB;clear hb n2 HN HD;go_wp2_with fail;go_ret;exact⟨rfl,HB.below⟩
def QP(n me:Nat)(dv wv cv fv:Value):List Value:=
 [.int .i64 n,.int .i64 me,dv,wv,cv,fv,.slice none 0 0,
  .int .i64 0,.int .i64 0,.bool false,.string ⟨#[]⟩,.int .i64 0,.slice none 0 0,.int .i64 0,.int .i64 0,.bool false,.string ⟨#[]⟩,.int .i64 0,.slice none 0 0,.int .i64 0,.int .i64 0,.bool false,.string ⟨#[]⟩,.int .i64 0,.slice none 0 0,.int .i64 0,.int .i64 0,.bool false,.string ⟨#[]⟩,.int .i64 0,.slice none 0 0,.int .i64 0,.int .i64 0,.bool false,.string ⟨#[]⟩,.int .i64 0,.slice none 0 0,.int .i64 0,.int .i64 0,.bool false,.string ⟨#[]⟩,.int .i64 0,.slice none 0 0,.int .i64 0,.int .i64 0,.bool false,.string ⟨#[]⟩,.int .i64 0,.slice none 0 0,.int .i64 0,.int .i64 0,.bool false,.string ⟨#[]⟩,.int .i64 0,.slice none 0 0,
  .int .i64 0,.int .i64 0,.int .i64 0,.int .i64 0,.int .i64 0,.int .i64 0,.int .i64 0,.int .i64 0,.int .i64 0,.int .i64 0,.int .i64 0,.int .i64 0,.int .i64 0,.int .i64 0,
  .int .i64 0,.int .i64 0,.slice none 0 0,.slice none 0 0,.slice none 0 0,.bool false]
theorem jM(n me gd:Nat):∀W:World,(Instr.build 102 #[(0,.int .i64 n),(1,.int .i64 me),(2,.pointer (some ⟨gd,0,none⟩))]).run prog W=.ok (.agg (QP n me (.pointer (some ⟨gd,0,none⟩)) (.pointer none) (.pointer none) (.pointer none)).toArray) W:=λ_=>by kernel_rfl
theorem fA(n me:Nat):FrontP.heard (λ_ _=>0) n me (λ_=>0)=λ_ _=>0:=by
 unfold FrontP.heard;split
 ·funext q i
  simp only[FrontP.hear,FrontP.G5];split
  ·rfl
  ·rfl
 ·rfl
theorem jG(g n me:Nat)(w:World)(h:Au w g 197 n me (λ_ _=>0)) :Calls prog 69 #[.pointer (some ⟨g,0,none⟩),.int .i64 me,.agg #[.int .i64 0,.int .i64 0,.int .i64 0,.int .i64 0,.int .i64 0,.int .i64 0,.int .i64 0]] w λe w'=>e=.returned (.bool (FrontP.takes n me λ_=>0))∧Au w' g 197 n me (λ_ _=>0)∧Touch g w w':=by have:=SN g n me me (λ_ _=>0) (λ_=>0) w h;rw[fA] at this;exact this
def Made(n me gd:Nat)(w:World)(g:Nat)(W:World):Prop:=∃gw gfr gc gl gm gi gx fs of sg mb,Holds W g 102 (A7 n me gd gw gc gfr (.slice none 0 0) (λ_=>Ow.zero) (λ_=>.slice none 0 0) (λ_=>0) (λ_=>0) 0 0 (.slice none 0 0) (.slice none 0 0) (.slice none 0 0)) ∧
 BD W gd fs of sg∧BK [] sg 1 mb∧mb≤200∧Holds W gw 208 (Gn gd 1 1)∧BC W gc n me gl gm 0 gi gx 0 [] [] (.slice none 0 0) (.slice none 0 0) (.slice none 0 0)∧Au W gfr 197 n me (λ_ _=>0) ∧
 (w.heap.size≤g∧w.heap.size≤gw∧w.heap.size≤gfr∧w.heap.size≤gc∧w.heap.size≤gl∧w.heap.size≤gm∧w.heap.size≤gi∧w.heap.size≤gx)∧((∀g,of=some g→w.heap.size≤g)∧∀x∈sg,∀g,x.ob=some g→w.heap.size≤g)∧Mv (λk=>k=gd) w W
theorem kJ(n me gd:Nat)(R3:Nat→World→Prop)(w:World)(hn:n=3∨n=5∨n=7)(hme:me<n)(hd:FC w gd) (KS:∀g W,Made n me gd w g W→Calls prog 53 #[.pointer (some ⟨g,0,none⟩)] W λe w'=>e=.returned (.tuple #[])∧R3 g w') :Calls prog 45 #[.int .i64 n,.int .i64 me,.pointer (some ⟨gd,0,none⟩)] w λe w'=>∃g,e=.returned (.tuple #[.pointer (some ⟨g,0,none⟩),.int .i64 0])∧R3 g w':=by
 have KF:=qh (λW=>VQ n W hn);have KFR:=qh (λW=>WT n me W hn hme);have KLO:=qh (λg V hV W nd dk=>XB g n me gd V W nd hV dk);have KO:=qh (λW (h:FC W gd)=>jP gd W h);have KC:=qh (λW=>YF n me W hn hme);have KCR:=qh eH;have KWh:=qh (λgw W (h:Holds W gw 208 (Gn gd 0 0))=>iE gw gd 0 0 W h);have KA:=qh (λgw gl c m r rest W hw h hg hr hgf h1 h2=>iM gw gd gl c m r rest W hw h hg hr hgf h1 h2);have KH:=qh (λgfr W h=>jG gfr n me W h);have KS:=qh KS;have hB:=jM n me gd;have hmi:(me:Int)<(n:Int):=by omega
 have hm0:¬((me:Int)<0):=by omega
 have HD:=qh (show Holds w gd 125 _ from hd);have HB:=qh (Base.start w);have hgd:=(show Holds w gd 125 _ from hd).lt;clear hd hn;go_in;generalize hB0:w.heap.size=B at HB hgd ⊢;go_wp2_with fail;refine Ac (KF.o _) ?_;rintro w1 hb;obtain⟨HD,HB⟩:=DC hb HD HB;clear hb KF;go_upto_region 4 with(first|(with_reducible show wpList _ _ _ (_ :: _) _ _;refine Pq (by kernel_rfl) 102 0 1 2 _ _ _ rfl (.int .i64 n) (.int .i64 me) (.pointer (some ⟨gd,0,none⟩)) rfl rfl rfl (.agg (QP n me (.pointer (some ⟨gd,0,none⟩)) (.pointer none) (.pointer none) (.pointer none)).toArray) hB ?_));go_name_world W hW;have hW:BR w1 [.cells (QP n me (.pointer (some ⟨gd,0,none⟩)) (.pointer none) (.pointer none) (.pointer none):List Value).toArray 102]=W:=hW;have HN:=qh (show Holds W (w1.heap.size) 102 (QP n me (.pointer (some ⟨gd,0,none⟩)) (.pointer none) (.pointer none) (.pointer none)) from AX _ hW 0 rfl);have hbW:=Ae _ hW;clear hW;have hBg:B≤w1.heap.size:=HB.le;obtain⟨HD,HB⟩:=DC hbW HD HB;clear hbW;generalize w1.heap.size=g at HN hBg ⊢;go_wp2_with fail;refine(KFR.o _).mono ?_;rintro e w2 ⟨gfr,rfl,hfr,hgfr,hb⟩;have hBf:=Nat.le_trans HB.le hgfr;have hgf:g≠gfr:=by have:=HN.lt;omega
 have hn7:=hfr.n7;have HFR:=qh hfr.h;obtain⟨HD,HB,HN⟩:=Du hb HD HB HN;clear hb hfr hgfr KFR;go_upto_region 5 with(first|(refine sC 5 HN.o (.pointer (some ⟨gfr,0,none⟩)) ?_;intro w3 hh3 ht3));have HN:=qh (show Holds w3 g 102 (QP n me (.pointer (some ⟨gd,0,none⟩)) (.pointer none) (.pointer none) (.pointer (some ⟨gfr,0,none⟩))) from hh3);have hgg:g≠gd:=by omega
 have HD:=qh (HD.touch ht3 (Ne.symm hgg));have HFR:=qh (HFR.touch ht3 (Ne.symm hgf));have HB:=qh (HB.touch ht3 hBg);clear hh3 ht3;go_wp2_with fail;refine Ac (KLO.o g _ rfl _ HN.o HD.o) ?_;rintro w4 hb;obtain⟨HD,HB,HN,HFR⟩:=Dy hb HD HB HN HFR;clear hb KLO;go_wp2_with fail;refine(KO.o _ HD.o).mono ?_;rintro e w5 ⟨gw,rfl,hw,hgw,hb⟩;have hBw:=Nat.le_trans HB.le hgw;have hgw2:g≠gw∧gw≠gd:=by have:=HN.lt;omega
 have hfw:gfr≠gw:=by have:=HFR.lt;omega
 obtain⟨HD,HB,HN,HFR⟩:=Dy hb HD HB HN HFR;have HW:=qh hw;clear hb hw hgw KO;go_upto_region 12 with(first|(refine sC 3 HN.o (.pointer (some ⟨gw,0,none⟩)) ?_;intro w6 hh6 ht6));have HN:=qh (show Holds w6 g 102 (QP n me (.pointer (some ⟨gd,0,none⟩)) (.pointer (some ⟨gw,0,none⟩)) (.pointer none) (.pointer (some ⟨gfr,0,none⟩))) from hh6);have HD:=qh (HD.touch ht6 (Ne.symm hgg));have HFR:=qh (HFR.touch ht6 (Ne.symm hgf));have HW:=qh (HW.touch ht6 (Ne.symm hgw2.1));have HB:=qh (HB.touch ht6 hBg);clear hh6 ht6;go_upto_region 13 with(fail);go_name_world W7 hW7;have hW7:BR w6 [.cells (Bj:List Value).toArray 41]=W7:=hW7;have HZ:=qh (show Holds W7 (w6.heap.size) 41 Bj from AX _ hW7 0 rfl);have hbW7:=Ae _ hW7;clear hW7;have hgz:gd≠w6.heap.size:=by have:=HD.lt;omega
 have hgzw:gw≠w6.heap.size:=by have:=HW.lt;omega
 have hzz:w6.heap.size≠g:=by have:=HN.lt;omega
 obtain⟨HD,HB,HN,HFR,HW⟩:=Fq hbW7 HD HB HN HFR HW;clear hbW7;generalize w6.heap.size=gz at HZ hgz hgzw hzz ⊢;go_wp2_with fail;go_loopw [72,14] (λvi v14 wr=>vi=.int .i64 0∧v14=.slice none 0 0∧W7=wr) (λ_ _ _=>0);case atStart=>exact⟨rfl,rfl,rfl⟩
 case round=>
 obtain⟨rfl,rfl,rfl⟩:=hrel;obtain⟨z0,z1,z2,z3,z4,z5,z6⟩:=GR HZ.o 0 1 2 3 4 5 6;go_wp2_with fail;refine(KC.o _).mono ?_;rintro e w8 ⟨gc,gl,gm,gi,gx,rfl,hca,hcl,hb⟩;have hsz:=HB.le;have hgc:g≠gc∧g≠gl∧g≠gm∧g≠gi∧g≠gx:=by have:=HN.lt;omega
 have hcw:gc≠gw∧gl≠gw∧gm≠gw∧gi≠gw∧gx≠gw:=by have:=HW.lt;omega
 have hcd:gc≠gd∧gl≠gd∧gm≠gd∧gi≠gd∧gx≠gd:=by have:=HD.lt;omega
 have hcf:gc≠gfr∧gl≠gfr∧gm≠gfr∧gi≠gfr∧gx≠gfr:=by have:=HFR.lt;omega
 have hBc:B≤gc∧B≤gl∧B≤gm∧B≤gi∧B≤gx:=by omega
 obtain⟨HD,HB,HN,HFR,HW,HZ⟩:=FI hb HD HB HN HFR HW HZ;have HCA:=qh hca;clear hb hca hcl KC z0 z1 z2 z3 z4 z5 z6;go_upto_region 26 with(first|(refine sC 4 HN.o (.pointer (some ⟨gc,0,none⟩)) ?_;intro w9 hh9 ht9));have HN:=qh (show Holds w9 g 102 (A7 n me gd gw gc gfr (.slice none 0 0) (λ_=>Ow.zero) (λ_=>.slice none 0 0) (λ_=>0) (λ_=>0) 0 0 (.slice none 0 0) (.slice none 0 0) (.slice none 0 0)) from hh9);have HD:=qh (HD.touch ht9 (Ne.symm hgg));have HFR:=qh (HFR.touch ht9 (Ne.symm hgf));have HW:=qh (HW.touch ht9 (Ne.symm hgw2.1));have HZ:=qh (HZ.touch ht9 hzz);have hm9:Mv (λk=>k=g) w8 w9:=Mv.AU ht9 rfl;have HCA:=qh (HCA.mv hm9 (Ne.symm hgc.1) (Ne.symm hgc.2.1) (Ne.symm hgc.2.2.1) (Ne.symm hgc.2.2.2.1) (Ne.symm hgc.2.2.2.2));have HB:=qh (HB.touch ht9 hBg);clear hh9 ht9 hm9;go_wp2_with fail;refine Ac (KWh.o gw _ HW.o) ?_;rintro w12 hb;obtain⟨HD,HB,HN,HFR,HW,HZ⟩:=FI hb HD HB HN HFR HW HZ;have HCA:=ET hb HCA;clear hb KWh;obtain⟨z0,z1,z2,z3,z4,z5,z6⟩:=GR HZ.o 0 1 2 3 4 5 6;go_wp2_with fail;refine(KCR.o _).mono ?_;rintro e w13 ⟨v',m',rfl,hm',ho,hb⟩;obtain⟨HD,HB,HN,HFR,HW,HCA⟩:=FI hb HD HB HN HFR HW HCA;have HO:=qh ho.EI;obtain⟨pv,cv,rfl⟩:=ho.shape;clear hb ho KCR z0 z1 z2 z3 z4 z5 z6 HZ;go_wp2_with fail;have hbal:=(Below.refl w13.heap.size w13).alloc (Nat.le_refl _) (.cells #[.slice pv m' cv] 127);have HG:=qh (AA w13 127 [.slice pv m' cv]);obtain⟨HD,HB,HN,HFR,HW,HCA⟩:=FI hbal HD HB HN HFR HW HCA;have HO:=ET hbal HO;have KA:=qh (KA.o gw _ 1 m' (.slice pv m' cv) [] _ HW.o HD.o HG.o HO.o hgw2.2 hm'.1 (by omega));have hfd:gfr≠gd:=by omega
 refine KA.mono ?_;rintro e w14 ⟨rfl,fs,of,sg,nb,hdk,hL,hnb,hof,hob,hw,hmv⟩;have hle14:=HB.le;have HM:=qh (show Mv (λk=>k=gd) w w14 from(Mv.of_below (hB0▸HB.below)).mv hmv (λk hk=>hk.elim .inl (λh=>.inr (by omega))));have HN:=qh (HN.mv hmv (λh=>h.elim hgg hgw2.1));have HF:=qh (HFR.mv hmv (λh=>h.elim hfd hfw));have HCA:=qh (HCA.mv hmv (λh=>h.elim hcd.1 hcw.1) (λh=>h.elim hcd.2.1 hcw.2.1) (λh=>h.elim hcd.2.2.1 hcw.2.2.1) (λh=>h.elim hcd.2.2.2.1 hcw.2.2.2.1) (λh=>h.elim hcd.2.2.2.2 hcw.2.2.2.2));have hof2:∀g,of=some g→g≠gfr∧w.heap.size≤g:=λg hg=>by have:=hof g hg;have:=HFR.lt;omega
 have hob2:∀x∈sg,∀g,x.ob=some g→g≠gfr∧w.heap.size≤g:=λx hx g hg=>by have:=hob x hx g hg;have:=HFR.lt;omega
 have HL:=qh hL;have HW:=qh hw;have HDK:=qh hdk;have hdd:gd≠gfr:=Ne.symm hfd;have hwf:gw≠gfr:=Ne.symm hfw;have hBff:w.heap.size≤gfr:=by omega
 have KH:=qh (KH.o gfr);clear KA hdk hw hmv hL hof hob HD HFR HO HG HB hbal;go_upto_region 31 with(fail);obtain⟨HN,HF,HM,HDK,HW,HCA⟩:=FI (AQ _ w14) HN HF HM HDK HW HCA;refine EQ [9] 10 (λhSn=>?_);generalize w14.drew=wd at HN HF HM HDK HW HCA hSn ⊢;simp only[List.replicate];refine Dz 0 ?_;refine BG 3 [9] (λw hSw=>Ag (HN.bel hSw) 5) ?_;refine Jr 4 ?_;refine BG 8 [9] (λw hSw=>GR (HN.bel hSw) 62 63 64 65 66 67 68) ?_;refine BH 9 rfl (λK hK=>?_);go_simp;refine Ac (KH.o _ (Au.mk (HF.bel hSn) hn7)) ?_;rintro w11 ⟨hfr,ht⟩;have hmf:Mv (λk=>k=gfr) _ w11:=Mv.AU ht rfl;have HN:=qh ((HN.bel hSn).mv hmf hgf);have HF:=qh hfr.h;have HM:=qh ((HM.bel hSn).mv hmf (λk hk=>.inr (hk▸hBff)));have HDK:=qh ((HDK.o.bel hSn).mv hmf hdd (λg hg e=>(hof2 g hg).1 e) (λx hx g hg e=>(hob2 x hx g hg).1 e));have HW:=qh ((HW.bel hSn).mv hmf hwf);have HCA:=qh ((HCA.bel hSn).mv hmf hcf.1 hcf.2.1 hcf.2.2.1 hcf.2.2.2.1 hcf.2.2.2.2);clear hfr ht hmf;refine BN hK ?_;clear hK;refine Dl ?_;clear hSn KH;go_wp2_with fail;refine Ac (KS.o g _ ⟨gw,gfr,gc,gl,gm,gi,gx,fs,of,sg,nb,HN.o,HDK.o,HL.o,by omega,HW.o,HCA.o,Au.mk HF.o hn7,by omega,⟨λg hg=>(hof2 g hg).2,λx hx g hg=>(hob2 x hx g hg).2⟩,HM.o⟩) ?_;rintro w15 h3;have H3:=qh h3;clear h3 KS HN HDK HW HCA HF HM;go_wp2_with fail;refine b2 (v:=.tuple #[.pointer (some ⟨g,0,none⟩),.int .i64 0]) ?_;exact⟨g,rfl,H3.o⟩
end
section
variable [In]
theorem kK(g n me gd gw gc gfr:Nat)(P:Value)(o:Nat→Ow)(pv:Nat→Value)(d kp:Nat→Int)(since tk:Int)(waits out ans:Value)(w:World)(nd:Holds w g 102 (A7 n me gd gw gc gfr P o pv d kp since tk waits out ans)) :Calls prog 54 #[.pointer (some ⟨g,0,none⟩)] w λe w'=>e=.returned (.tuple #[out,ans])∧Holds w' g 102 (A7 n me gd gw gc gfr P o pv d kp since tk waits (.slice none 0 0) (.slice none 0 0))∧Touch g w w':=by have HN:=qh nd;have HT:=qh (Touch.refl g w);clear nd;go_in;obtain⟨n72,n73⟩:=CU HN.o 72 73;go_upto_region 1 with(fail);go_quiet (fail);have hb2:Below w.heap.size w (w.drewN nq):=BV _ _ _;obtain⟨HN,HT⟩:=DC hb2 HN HT;clear hb2 n72 n73;generalize w.drewN nq=W2 at HN HT ⊢;go_wp2_with (first|(refine sC 72 HN.o (.slice none 0 0) ?_;intro w7 hh7 ht7;have HN7:=qh (show Holds w7 g 102 (A7 n me gd gw gc gfr P o pv d kp since tk waits (.slice none 0 0) ans) from hh7);have HT7:=qh (HT.trans ht7);clear hh7 ht7)|(refine sC 73 HN7.o (.slice none 0 0) ?_;intro w8 hh8 ht8;have HN8:=qh (show Holds w8 g 102 (A7 n me gd gw gc gfr P o pv d kp since tk waits (.slice none 0 0) (.slice none 0 0)) from hh8);have HT8:=qh (HT7.trans ht8);clear hh8 ht8));refine b2 (v:=.tuple #[out,ans]) ?_;exact⟨rfl,HN8.o,HT8.o⟩
theorem jO(g n me gd gw gc gfr:Nat)(P:Value)(o:Nat→Ow)(pv:Nat→Value)(d kp:Nat→Int)(since tk:Int)(waits out ans:Value)(R1 R2 R3:World→Prop)(w:World)(nd:Holds w g 102 (A7 n me gd gw gc gfr P o pv d kp since tk waits out ans))(hn:0<n) (htk:tk=0∨tk=1∨tk=2∨tk=3∨tk=4) (KT:Calls prog 52 #[.pointer (some ⟨gc,0,none⟩)] w λe w'=>e=.returned (.tuple #[])∧R1 w') (h1:∀W,R1 W→Holds W g 102 (A7 n me gd gw gc gfr P o pv d kp since tk waits out ans)) (h2:∀W W2,R1 W→Holds W2 g 102 (A7 n me gd gw gc gfr P o pv d kp since (tk+1) waits out ans)→Touch g W W2→R2 W2) (KS:∀W,R2 W→Calls prog 53 #[.pointer (some ⟨g,0,none⟩)] W λe w'=>e=.returned (.tuple #[])∧R3 w') :Calls prog 30 #[.pointer (some ⟨g,0,none⟩)] w λe w'=>e=.returned (.tuple #[])∧R3 w':=by
 have hni:(0:Int)<(n:Int):=by omega
 rcases htk with rfl|rfl|rfl|rfl|rfl;all_goals
  have KT:=qh KT;have KS:=qh KS;have h1:=qh h1;have h2:=qh h2;have HN:=qh nd;clear nd;go_in;obtain⟨n4,n74⟩:=CU HN.o 4 74;go_wp2_with fail;refine KT.mono ?_;rintro e w1 ⟨rfl,hr1⟩;have HR1:=qh hr1;have HN1:=qh (h1.out _ hr1);clear hr1 HN n4 n74 KT;have n70:=Ag HN1.o 70;go_wp2_with (first|(refine sC 70 HN1.o _ ?_;intro w7 hh7 ht7;have HN7:=qh (show Holds w7 g 102 (A7 n me gd gw gc gfr P o pv d kp since _ waits out ans) from hh7);have HR2:=qh (h2.out _ _ HR1.o HN7.o ht7);clear hh7 ht7 HR1 HN1 n70));obtain⟨n0,n70⟩:=CU HN7.o 0 70;go_loopw [2] (λvi wr=>vi=.int .i64 0∧w7=wr) (λ_ _=>0);case atStart=>exact⟨rfl,rfl⟩
  case round=>obtain⟨rfl,rfl⟩:=hrel;go_wp2_with fail;refine Ac (KS.o _ HR2.o) ?_;rintro w4 h4;have H4:=qh h4;clear h4 HR2 KS;go_wp2_with fail;exact bE ⟨rfl,H4.o⟩
end
section
variable [In] [Bs]
theorem TJ(w:World)(F:Af)(g n me q:Nat)(c:Cm)(ph:Ph)(out:List Lt)(an:Bool)(tk:Nat)(h:Bh w F g n me q c ph out an tk) :Calls prog 54 #[.pointer (some ⟨g,0,none⟩)] w λe w'=>∃o a,e=.returned (.tuple #[o,a])∧Dv w' F o out.length (Dt c q out)∧IM w' F c a an∧Bh w' F g n me q c ph [] false tk∧F g∧Mv (λk=>k=g) w w':=by obtain⟨tt,htt,gd,mb,gw,gc,gfr,P,pv,waits,out0,ans,h⟩:=h;have nd:=h.nd;refine Ac (kK g n me gd gw gc gfr P _ pv _ _ _ tt waits out0 ans w nd) ?_;rintro w' ⟨hn,ht⟩;have hm:Mv (λk=>k=g) w w':=Mv.AU ht rfl;exact⟨out0,ans,rfl,h.ou.CQ nd hm,h.an.CQ nd hm,⟨tt,htt,gd,mb,gw,gc,gfr,P,pv,waits,_,_,h.CQ hm hn rfl (h.st.CQ nd hm) (h.wa.CQ nd hm) (Dv.nil0 _ _ _) rfl⟩,h.f.1,hm⟩
end
@[reducible] def JO [In] [Bs] (q:Nat) (c:Cm):Bs:=⟨CO (CO Bs.L (e1 q c)) (e3 q c),Gf (Gf Bs.E (en q c)) (en q c),doneD Bs.d q,IC Bs.S c,RF .yes,Na q .yes,Bs.nb+1⟩
theorem Bh.any{I I':In}{b:Bs}{w:World}{F:Af}{g n me q q':Nat}{c c':Cm}{tk:Nat}(h:@Bh I b w F g n me q c .fresh [] false tk):@Bh I' b w F g n me q' c' .fresh [] false tk:=by obtain⟨tt,htt,gd,mb,gw,gc,gfr,P,pv,waits,out0,ans,h⟩:=h;obtain⟨nd,dk,lm,⟨co,hf⟩,fr,st,wa,⟨h0,ob,ho,hof⟩,an',f⟩:=h;exact⟨tt,htt,gd,mb,gw,gc,gfr,P,pv,waits,out0,ans,nd,dk,lm,⟨co,hf⟩,fr,st,wa,⟨h0,ob,ho,hof⟩,an',f⟩
theorem Bh.next{I I':In}{b:Bs}{w:World}{F:Af}{g n me q q':Nat}{c c':Cm}{tk:Nat}(h:@Bh I b w F g n me q c .com [] false tk):@Bh I' (@JO I b q c) w F g n me q' c' .fresh [] false tk:=by
 obtain⟨tt,htt,gd,mb,gw,gc,gfr,P,pv,waits,out0,ans,h⟩:=h;obtain⟨nd,dk,lm,⟨⟨gl,gm,nl,gi,gx,ni,L,E,leads,a1,a2,a3,a4,a5⟩,hf⟩,fr,st,wa,⟨h0,ob,ho,hof⟩,an',f⟩:=h;refine⟨tt,htt,gd,mb,gw,gc,gfr,P,pv,waits,out0,ans,?_⟩;refine @DR.mk I' (@JO I b q c) _ _ _ _ _ _ _ _ _ _ _ _ _ _ _ _ _ _ _ _ _ _ _ _ _ _ _ nd dk ?_ (@Ba.mk I' (@JO I b q c) _ _ _ _ _ _ _ _ _ _ ⟨gl,gm,nl,gi,gx,ni,L,E,leads,a1,?_,?_,a4,a5⟩ hf) fr st wa ⟨h0,ob,ho,hof⟩ an' f
 ·refine Nat.le_trans lm ?_;show 200+1000*b.nb+500*2≤200+1000*(b.nb+1)+500*0;omega
 ·refine Nat.le_trans a2 ?_;show 2*b.nb+2≤2*(b.nb+1)+0;omega
 ·refine Nat.le_trans a3 ?_;show 2*b.nb+2≤2*(b.nb+1)+0;omega
@[reducible] def B0:Bs:=⟨[],[],λ_=>0,⟨[],λ_=>.zero⟩,0,λ_=>0,0⟩
@[reducible] def I0:In:=⟨1,0,λ_=>0,by decide,by decide,λ_=>by decide⟩
def c0:Cm:=⟨1,1,1,⟨#[97]⟩,⟨#[]⟩,⟨#[]⟩,⟨#[]⟩⟩
theorem iV:Gu c0:=⟨by decide +kernel,by decide,by decide,by decide,by decide,by decide,by decide,by decide⟩
theorem dS(n:Nat)(hn:n=3∨n=5∨n=7):@EN I0 B0 n 0 c0:=by refine @EN.mk I0 B0 n 0 c0 (by omega) (by omega) iV rfl rfl rfl ⟨rfl,λj hj=>by rcases(show j=0∨j=1∨j=2∨j=3∨j=4∨j=5∨j=6 by omega) with rfl|rfl|rfl|rfl|rfl|rfl|rfl<;>rfl⟩ (by decide) (λe he=>by cases he) (λ_=>⟨Int.le_refl 0,(by decide:(0:Int)≤100)⟩) (λr hr=>?_) (by decide) St.Fine.zero (by decide) (by decide) (λ_=>⟨Int.le_refl 0,Int.le_refl 0⟩);show (if (r:Int)=(0:Nat) then max (0:Int) ((1:Int) - 1) else 0)≤0;split<;>decide
theorem Y2(w:World)(n me gd:Nat)(hd:FC w gd)(hn:n=3∨n=5∨n=7)(hme:me<n) :Calls prog 45 #[.int .i64 n,.int .i64 me,.pointer (some ⟨gd,0,none⟩)] w λe w'=>∃g,e=.returned (.tuple #[.pointer (some ⟨g,0,none⟩),.int .i64 0])∧@Bh I0 B0 w' (grow (λk=>k=gd) w w') g n me 0 c0 .fresh [] false 0∧Mv (λk=>k=gd) w w':=by
 letI:In:=I0
 letI:Bs:=B0
 have hB:EN n 0 c0:=dS n hn;have hl0:DK .fresh=200:=rfl;refine(kJ n me gd (λg w'=>DJ w' (grow (λk=>k=gd) w w') g n me 0 c0 .fresh (.slice none 0 0) (.slice none 0 0) .no false 0 (Dt c0 0 []) false 0 (DK .fresh)∧Mv (λk=>k=gd) w w') w hn hme hd (λg W hM=>?_)).mono ?_
 ·obtain⟨gw,gfr,gc,gl,gm,gi,gx,fs,of,sg,mb,a1,a2,aL,a3,a4,a5,a6,⟨b1,b2,b3,b4,b5,b6,b7,b8⟩,⟨b9,b10⟩,hmv⟩:=hM;have hl:=a5.lt;have hI:DJ W (grow (λk=>k=gd) w W) g n me 0 c0 .fresh (.slice none 0 0) (.slice none 0 0) .no false 0 (Dt c0 0 []) false 0 (DK .fresh):=by refine⟨gd,mb,gw,gc,gfr,_,(λ_=>.slice none 0 0),_,_,_,a1,⟨fs,of,[],sg,1,a2,aL,Nat.le_refl 1,a4,.inl rfl,.inr ⟨b2,a4.lt⟩,λg hg=>.inr ⟨b9 g hg,AO.lt a2.f g hg⟩,λx hx g hg=>.inr ⟨b10 x hx g hg,(a2.b x hx).lt g hg⟩⟩,by rw[hl0];exact a3,⟨⟨gl,gm,0,gi,gx,0,[],[],_,a5,Nat.zero_le _,Nat.zero_le _,⟨.inr ⟨b5,hl.2.1⟩,.inr ⟨b6,hl.2.2.1⟩,.inr ⟨b7,hl.2.2.2.1⟩,.inr ⟨b8,hl.2.2.2.2⟩⟩,rfl,rfl,none,0,none,rfl,AO.nil _ _ _,λg hg=>by cases hg⟩,.inr ⟨b4,hl.1⟩⟩,?_,⟨none,λ_=>none,AV.nil _,λi hi=>AV.nil _,λg hg=>(by cases hg),λi hi g hg=>(by cases hg)⟩,rfl,Dv.nil0 _ _ _,rfl,.inr ⟨b1,a1.lt⟩,.inr ⟨b3,a6.lt⟩⟩;show Au W gfr _ n me (Oe me λ_=>0);rw[YZ];exact a6
  refine Ac (Jm W (grow (λk=>k=gd) w W) W.heap.size g n me 0 c0 .fresh (.slice none 0 0) (.slice none 0 0) .no false 0 (DK .fresh) 0 0 (Dt c0 0 []) (Dt c0 0 []) hB hI (.inl ⟨rfl,rfl⟩) (Dv.nil0 _ _ _) (by omega) (G9 c0 0 _ 0) (λk hk hk2=>by omega) (by rw[hl0];omega) (by rw[hl0];omega) (.inl rfl) hme) ?_;rintro w' ⟨hn,hm'⟩;have hs:=hm'.size;refine⟨rfl,hn.foot λk hk hkl=>grow_step hmv.size hs hk,hmv.mv hm' λk hk=>hk.imp id λ⟨a,_⟩=>a⟩
 ·rintro e w' ⟨g,rfl,hn',hm'⟩;exact⟨g,rfl,⟨0,by omega,hn'⟩,hm'⟩
end Go.Proofs.YtimdpiifpibgfaaGreatDoor
