/- A part of the proof that the law TopGone returns true for every input. -/
import Derived.Test.YtimdpiifpibgfaaGreatDoorQg30
import Derived.Test.YtimdpiifpibgfaaGreatDoorQg33
set_option linter.all false
set_option maxRecDepth 20000
set_option maxHeartbeats 16000000
open Go.RowKit Go.Maps
namespace Go.Proofs.YtimdpiifpibgfaaGreatDoor
open Tryz
section
def iO(c:Cm)(q:Nat)(m:Lt):Lp:=match m.1 with
 | 1=>⟨q,1,0,0,c,Ad,0,Cm.zero,false,dz⟩
 | 2=>⟨q,1,0,0,Cm.zero,Ad,0,Cm.zero,false,dz⟩
 | 3=>PL q 1 m.2.1 c
 | 4=>FZ q 1 m.2.2
 | 5=>⟨q,1,0,0,c,Ad,0,Cm.zero,false,dz⟩
 | 6=>FZ q 1 m.2.1
 | 7=>LX q 1 m.2.2 c
 | 12=>⟨0,0,0,0,Cm.zero,Ad,0,Cm.zero,false,F8 q⟩
 | _=>⟨0,0,0,0,Cm.zero,Ad,0,Cm.zero,false,dz⟩
def gu(k:Nat):Nat:=if k=12 then 11 else k
def J8(c:Cm)(q:Nat)(m:Lt):List Value:=DZ (gu m.1) m.2.1 m.2.2 (iO c q m)
def DJ(c:Cm)(q:Nat)(l:List Lt)(i:Nat):List Value:=J8 c q (l.getD i (0,0,0))
def Bg(w:World)(F:Ap)(g gd n me q:Nat)(c:Cm)(ph:Ph)(out:List Lt)(an:Bool)(tk B:Nat):Prop:=
 ∃t:Nat,(t % 8=tk∧t≤B)∧BZ w F g gd n me q c ph (.slice none 0 0) (.slice none 0 0) (BG ph) (Cb ph) out.length (DJ c q out) an t (CW ph)
theorem Vl{s m:Nat}{V V':Nat→List Value}(hs:0<s)(h:∀i,i<m→V i=V' i):flat s m V=flat s m V':=by unfold flat;refine List.map_congr_left λt ht=>?_;have h1:t<m*s:=List.mem_range.1 ht;rw[h (t / s) (Nat.div_lt_of_lt_mul (by rw[Nat.mul_comm];exact h1))]
theorem DN.Jj{w:World}{F:Ap}{out:Value}{m:Nat}{V V':Nat→List Value}(h:DN w F out m V)(hV:∀i,i<m→V i=V' i):DN w F out m V':=by obtain⟨h0,ob,h1,h2⟩:=h;exact⟨h0,ob,Vl (s:=51) (by decide) hV▸h1,h2⟩
theorem Gf(c:Cm)(q:Nat)(l:List Lt)(k:Nat):∀u∈flat 51 k (DJ c q l),u.oneCell'=true:=
 LP 51 k (DJ c q l) (λ_ _=>rfl) λi _ u hu=>IW _ _ _ _ u hu
theorem Rn(c:Cm)(k n q i:Nat)(hi:i<n-1):DJ c q (Bq k n q) i=J8 c q (k,q,if i<q then i else i+1):=by
 unfold DJ
 congr 1
 simp[Bq,Dv,List.getD_eq_getElem?_getD,hi]
theorem MP(c:Cm)(k n q me i:Nat)(hi:i<n-1):DJ c q (Bq k n me) i=J8 c q (k,me,if i<me then i else i+1):=by
 unfold DJ
 congr 1
 simp[Bq,Dv,List.getD_eq_getElem?_getD,hi]
theorem EZ(k n q:Nat):(Bq k n q).length=n-1:=by simp[Bq,Dv]
theorem BZ.lim{w:World}{F:Ap}{g gd n me q:Nat}{c:Cm}{ph:Ph}{recs cout:Value}{dn wt:Bool}{m:Nat}{V:Nat→List Value}{an:Bool}{tk:Int}{lim lim':Nat}(h:BZ w F g gd n me q c ph recs cout dn wt m V an tk lim)(hl:lim≤lim'):BZ w F g gd n me q c ph recs cout dn wt m V an tk lim':=by obtain⟨gfl,gby,mb,gw,gc,gfr,kept,P,sq,v,d,since,waits,out,ans,h⟩:=h;exact⟨gfl,gby,mb,gw,gc,gfr,kept,P,sq,v,d,since,waits,out,ans,{ h with lm:=⟨Nat.le_trans h.lm.1 hl,h.lm.2⟩ }⟩
theorem Ey(w W w1:World)(F:Ap)(g gd n me q:Nat)(c:Cm)(ph:Ph)(recs cout:Value)(dn wt:Bool)(tk:Int)(lim r m:Nat)(V V0:Nat→List Value)(hW:w.heap.size≤W.heap.size)(hW1:W.heap.size≤w1.heap.size)(hm:Mv F w w1) (h:BZ w1 (grow F W w1) g gd n me q c ph recs cout dn wt 0 V0 false tk lim) (hr:F5 w1 W.heap.size r recs) (ho:DN w1 (grow F W w1) cout m V) (hr0:r=0→m=0) (hm1:m≤100) (hV:∀u∈flat 51 m V,u.oneCell'=true) (hlr:r=0∨lim≤2000) (hdn:dn=true→ph=.com) (hq:q<7) (hme:me<n) (hcc:CU c) (h1:c.c=1) (h2:c.s=1) :Calls prog 53 #[.pointer (some ⟨g,0,none⟩)] w1 λe w'=>e=.returned (.tuple #[])∧BZ w' (grow F w w') g gd n me q c ph (.slice none 0 0) (.slice none 0 0) (BG ph) (wt&&!BG ph) m V (wt&&BG ph) tk (lim+500*r)∧Mv F w w':=by
 refine AY (Wi w1 (grow F W w1) W.heap.size g gd n me q c ph recs cout dn wt tk lim r m V V0 h hr ho hr0 hm1 hV (λk hk hk2=>.inr ⟨hk,hk2⟩) hlr hdn hq hme hcc h1 h2) ?_;rintro w' ⟨hn,hm'⟩;have hs:=hm'.size;refine⟨rfl,hn.foot λk hk hkl=>?_,hm.mv hm' λk hk=>hk.imp id λ⟨a,_⟩=>Nat.le_trans hW a⟩;rcases grow_step hW1 hs hk with h|⟨a,b⟩
 ·exact .inl h
 ·exact .inr ⟨Nat.le_trans hW a,b⟩
theorem BZ.core{w W w1:World}{F:Ap}{g n me q:Nat}{c:Cm}{ph ph':Ph}{recs cout recs' cout':Value}{dn wt:Bool}{m:Nat}{V:Nat→List Value}{an:Bool}{tk:Int}{lim:Nat}{gd gfl gby mb gw gc gfr:Nat}{kept:Int}{P:Value}{sq v:Int}{d:Nat→Int}{since:Int}{waits out ans:Value} (h:EO w F g n me q c ph recs cout dn wt m V an tk lim gd gfl gby mb gw gc gfr kept P sq v d since waits out ans) (hb:Below w.heap.size w W) (hm:Mv (Cc W F) W w1) (hc:BM w1 (grow F W w1) gc n me q c ph' recs' cout'):BZ w1 (grow F W w1) g gd n me q c ph' recs' cout' dn wt m V an tk lim:=
 ⟨gfl,gby,mb,gw,gc,gfr,kept,P,sq,v,d,since,waits,out,ans,((h.bel hb).foot λk hk _=>.inl hk).RD hm (λk hk _=>hk.2) hc⟩
theorem DN.nil0(w:World)(F:Ap)(V:Nat→List Value):DN w F (.slice none 0 0) 0 V:=⟨λ_=>rfl,none,AU.nil _ _ _,by simp⟩
theorem U7{w W w1:World}{F:Ap}(hb:Below w.heap.size w W)(hm:Mv (Cc W F) W w1):Mv F w w1:=(Mv.of_below hb).mv hm λk hk=>.inl hk.1
def Ej(F:Ap)(gc n me q:Nat)(c:Cm)(ph':Ph)(r m:Nat)(V:Nat→List Value)(w w':World):Prop:=
 ∃recs cout,BM w' (grow F w w') gc n me q c ph' recs cout∧F5 w' w.heap.size r recs∧DN w' (grow F w w') cout m V∧Mv (Cc w F) w w'
theorem Ej.none{F:Ap}{gc n me q:Nat}{c:Cm}{ph:Ph}{V:Nat→List Value}{w w':World}(h:BM w F gc n me q c ph (.slice none 0 0) (.slice none 0 0))(hb:Below w.heap.size w w'):Ej F gc n me q c ph 0 0 V w w':=by refine⟨_,_,?_,.inl ⟨rfl,rfl⟩,DN.nil0 _ _ _,Mv.of_below hb⟩;obtain⟨⟨wi,gl,gm,nl,gi,gx,ni,L,E,leads,a1,a2,a3,b,hl,hw⟩,hfc⟩:=h.bel hb;exact⟨⟨wi,gl,gm,nl,gi,gx,ni,L,E,leads,a1,a2,a3,⟨.inl b.1,.inl b.2.1,.inl b.2.2.1,.inl b.2.2.2⟩,hl.foot λ_ hk _=>.inl hk,hw.foot λ_ hk _=>.inl hk⟩,.inl hfc⟩
theorem Ee(w:World)(F:Ap)(g gd n me q f r:Nat)(k lq ls be br:Int)(x:Cm)(bl:Bal)(st:Int)(y:Cm)(sm:Bool)(ld:Nat→Int)(c:Cm)(ph ph':Ph)(out:List Lt)(an:Bool)(tk B:Nat) (h:Bg w F g gd n me q c ph [] false tk B) (hk:k=1∨k=2∨k=3∨k=4∨k=5∨k=6∨k=7) (hf:f<n) (hme:me<n) (hn:n≤7) (hq:q<n) (hc:CU c) (h1:c.c=1) (h2:c.s=1) (KL:∀W,Calls prog 72 #[.agg (Aj k f me lq ls be br x bl st y sm ld).toArray] W λe w'=>e=.returned (.bool true)∧Below W.heap.size W w') (KT:∀W gc,BM W F gc n me q c ph (.slice none 0 0) (.slice none 0 0)→Calls prog 75 #[.pointer (some ⟨gc,0,none⟩),.agg (Aj k f me lq ls be br x bl st y sm ld).toArray] W λe w'=>e=.returned (.bool false)∧Ej F gc n me q c ph' r out.length (DJ c q out) W w') (hr:r=0∧out=[]∧CW ph≤CW ph'∨r=1∧CW ph+500≤CW ph') (hout:out.length≤100) (hdn:BG ph=true→ph'=.com) (hwt:(Cb ph&&!BG ph')=Cb ph') (han:(Cb ph&&BG ph')=an) :Calls prog 50 #[.pointer (some ⟨g,0,none⟩),.agg (Aj k f me lq ls be br x bl st y sm ld).toArray] w λe w'=>e=.returned (.bool true)∧Bg w' (grow F w w') g gd n me q c ph' out an tk B∧Mv F w w':=by
 obtain⟨tt,htt,gfl,gby,mb,gw,gc,gfr,kept,P,sq,v,d,since,waits,out0,ans,h⟩:=h;have co:=h.co;have hlp:CW ph'≤2300:=by cases ph'<;>simp[CW]
 refine(iI k hk g n me gd gw gc gfr f lq ls be br x bl st y sm ld P sq v d since tt waits out0 ans (λW1=>∃W recs cout,w.heap.size≤W.heap.size∧W.heap.size≤W1.heap.size∧Mv F w W1∧BZ W1 (grow F W W1) g gd n me q c ph' recs cout (BG ph) (Cb ph) 0 (DJ c q []) false tt (CW ph)∧F5 W1 W.heap.size r recs∧DN W1 (grow F W W1) cout out.length (DJ c q out))
  (λw'=>BZ w' (grow F w w') g gd n me q c ph' (.slice none 0 0) (.slice none 0 0) (BG ph') (Cb ph&&!BG ph') out.length (DJ c q out) (Cb ph&&BG ph') tt (CW ph+500*r)∧Mv F w w') w h.nd hf KL (λW hb=>?_) (λW1 hR=>?_)).mono ?_
 ·refine AY (KT W gc (co.bel hb)) ?_;rintro w1 ⟨recs,cout,c1,c2,c3,c4⟩;exact⟨rfl,W,recs,cout,hb.size,c4.size,U7 hb c4,BZ.core h hb c4 c1,c2,c3⟩
 ·obtain⟨W,recs,cout,r1,r2,r3,r4,r5,r6⟩:=hR;exact Ey w W W1 F g gd n me q c ph' recs cout _ _ tt _ r _ _ _ r1 r2 r3 r4 r5 r6 (λhr0=>by rcases hr with⟨_,hr,_⟩|⟨hr,_⟩;exact hr▸rfl;omega) hout (Gf c q _ _) (by omega) hdn (by omega) hme hc h1 h2
 ·rintro e w' ⟨rfl,hn',hm'⟩;rw[hwt,han] at hn';exact⟨rfl,⟨tt,htt,hn'.lim (by omega)⟩,hm'⟩
theorem NQ(w W:World)(F:Ap)(g gd n me q:Nat)(c:Cm)(ph:Ph)(tt:Nat)(hm:Mv F w W)(h:BZ W (grow F w W) g gd n me q c ph (.slice none 0 0) (.slice none 0 0) (BG ph) (Cb ph) 0 (DJ c q []) false tt (CW ph))(hq:q<7)(hme:me<n)(hc:CU c)(h1:c.c=1)(h2:c.s=1) :Calls prog 53 #[.pointer (some ⟨g,0,none⟩)] W λe w'=>e=.returned (.tuple #[])∧BZ w' (grow F w w') g gd n me q c ph (.slice none 0 0) (.slice none 0 0) (BG ph) (Cb ph) 0 (DJ c q []) false tt (CW ph)∧Mv F w w':=by
 have e1:(Cb ph&&!BG ph)=Cb ph:=by cases ph<;>rfl
 have e2:(Cb ph&&BG ph)=false:=by cases ph<;>rfl
 refine AY (Ey w w W F g gd n me q c ph _ _ (BG ph) (Cb ph) tt (CW ph) 0 0 (DJ c q []) _ (Nat.le_refl _) hm.size hm h (.inl ⟨rfl,rfl⟩) (DN.nil0 _ _ _) (by omega) (by omega) (Gf c q _ 0) (.inl rfl) (λhh=>by cases ph<;>simp[BG] at hh ⊢) hq hme hc h1 h2) ?_;rintro w' ⟨hn',hm'⟩;rw[e1,e2] at hn';exact⟨rfl,hn',hm'⟩
theorem YO(n me:Nat):FrontP.heard (λ_ _=>0) n me (λ_=>0)=λ_ _=>0:=by
 unfold FrontP.heard;split
 ·funext q i
  simp only[FrontP.hear,FrontP.IJ];split
  ·rfl
  ·rfl
 ·rfl
theorem RV(w:World)(F:Ap)(g gd n me q f:Nat)(c:Cm)(ph:Ph)(tk B:Nat)(h:Bg w F g gd n me q c ph [] false tk B)(hne:f≠me)(hf:f<n)(hme:me<n)(hn:n≤7)(hq:q<n)(hc:CU c)(h1:c.c=1)(h2:c.s=1) :Calls prog 50 #[.pointer (some ⟨g,0,none⟩),.agg (J8 c q (9,f,me)).toArray] w λe w'=>e=.returned (.bool true)∧Bg w' (grow F w w') g gd n me q c ph [] false tk B∧Mv F w w':=by
 obtain⟨tt,htt,gfl,gby,mb,gw,gc,gfr,kept,P,sq,v,d,since,waits,out0,ans,h⟩:=h;refine(dU g n me gd gw gc gfr f dz P sq v d since tt waits out0 ans (λW=>BK W gfr 197 n me (λ_ _=>0)∧Mv (λk=>k=gfr) w W) (λw'=>BZ w' (grow F w w') g gd n me q c ph (.slice none 0 0) (.slice none 0 0) (BG ph) (Cb ph) 0 (DJ c q []) false tt (CW ph)∧Mv F w w') w h.nd hf (aC f me dz (by omega) (by omega) hne (by decide)) (λW hb=>?_) (λW hW=>?_)).mono ?_
 ·have:=Rf gfr n me f (λ_ _=>0) dz W ⟨h.fr.h.bel hb,h.fr.n7⟩;rw[show FrontP.heard (λ_ _=>0) n f dz=λ_ _=>0 from YO n f] at this;refine this.mono ?_;rintro e w' ⟨rfl,hfr,ht⟩;exact⟨⟨_,rfl⟩,hfr,(Mv.of_below hb).touch ht (.inl rfl)⟩
 ·obtain⟨hfr,hm⟩:=hW;have f6:=h.f.2.2.2.2.2;refine NQ w W F g gd n me q c ph tt (hm.more λk hk=>hk▸f6) ⟨gfl,gby,mb,gw,gc,gfr,kept,P,sq,v,d,since,waits,out0,ans,?_⟩ (by omega) hme hc h1 h2;exact((h.foot (F':=grow F w W) λk hk _=>.inl hk).cu hm hfr)
 ·rintro e w' ⟨rfl,hn',hm'⟩;exact⟨rfl,⟨tt,htt,hn'⟩,hm'⟩
theorem QQ(w:World)(F:Ap)(g gd n me q f:Nat)(c:Cm)(ph:Ph)(dn:Bool)(tk B:Nat)(h:Bg w F g gd n me q c ph [] false tk B)(hdn:dn=true→BG ph=true)(hne:f≠me)(hf:f<n)(hme:me<n)(hn:n≤7)(hq:q<n)(hc:CU c)(h1:c.c=1)(h2:c.s=1) :Calls prog 50 #[.pointer (some ⟨g,0,none⟩),.agg (J8 c q (if dn then 12 else 11,f,me)).toArray] w λe w'=>e=.returned (.bool true)∧Bg w' (grow F w w') g gd n me q c ph [] false tk B∧Mv F w w':=by
 obtain⟨tt,htt,gfl,gby,mb,gw,gc,gfr,kept,P,sq,v,d,since,waits,out0,ans,h⟩:=h;have hl:J8 c q (if dn then 12 else 11,f,me)=Aj 11 f me 0 0 0 0 Cm.zero Ad 0 Cm.zero false (if dn then F8 q else dz):=by cases dn<;>rfl
 have hd:d=if BG ph then F8 q else λ_=>0:=by
  have:=h.st;cases hcc:BG ph with
  | false=>rw[hcc] at this;exact this.2.2.2.1
  | true=>rw[hcc] at this;exact this.2.2.2.1
 have hone:∀i,0≤F8 q i∧F8 q i≤1:=λi=>by unfold F8;split<;>simp
 rw[hl];refine(Zz g n me gd gw gc gfr f _ P sq v d since tt waits out0 ans (λW=>Below w.heap.size w W) (λw'=>BZ w' (grow F w w') g gd n me q c ph (.slice none 0 0) (.slice none 0 0) (BG ph) (Cb ph) 0 (DJ c q []) false tt (CW ph)∧Mv F w w') w h.nd hf (Yx f me _ (by omega) (by omega) hne ?_) (λW hb=>?_) (λW hb=>?_)).mono ?_
 ·cases dn with
  | false=>exact(show FrontP.right dz=true by decide)
  | true=>
   show FrontP.right (F8 q)=true;rcases(show q=0∨q=1∨q=2∨q=3∨q=4∨q=5∨q=6 by omega) with rfl|rfl|rfl|rfl|rfl|rfl|rfl<;>decide
 ·refine(Wu g n me gd gw gc gfr f P sq v d _ since tt waits out0 ans W (h.nd.bel hb) (λi _=>?_) (λi _=>?_)).mono ?_
  ·rw[hd];cases BG ph with
   | false=>exact⟨Int.le_refl _,by simp⟩
   | true=>exact hone i
  ·rw[hd];cases dn with
   | false=>
    cases BG ph with
    | false=>exact⟨Int.le_refl _,Int.le_refl _⟩
    | true=>exact⟨Int.le_refl _,(hone i).1⟩
   | true=>
    rw[hdn rfl];exact⟨(hone i).1,Int.le_refl _⟩
  ·rintro e w' ⟨rfl,hb'⟩;exact⟨rfl,hb.trans (hb'.mono hb.size)⟩
 ·exact NQ w W F g gd n me q c ph tt (Mv.of_below hb) ⟨gfl,gby,mb,gw,gc,gfr,kept,P,sq,v,d,since,waits,out0,ans,(h.bel hb).foot λk hk _=>.inl hk⟩ (by omega) hme hc h1 h2
 ·rintro e w' ⟨rfl,hn',hm'⟩;exact⟨rfl,⟨tt,htt,hn'⟩,hm'⟩
section
variable (c:Cm) (q f t:Nat)
theorem dI:J8 c q (1,f,t)=Aj 1 f t q 1 0 0 c Ad 0 Cm.zero false dz:=rfl
theorem UD:J8 c q (2,f,t)=Aj 2 f t q 1 0 0 Cm.zero Ad 0 Cm.zero false dz:=rfl
theorem dJ:J8 c q (3,f,t)=Aj 3 f t q 1 1 f c Ad 0 Cm.zero false dz:=rfl
theorem UE:J8 c q (4,f,t)=Aj 4 f t q 1 1 t Cm.zero Ad 0 Cm.zero false dz:=rfl
theorem YZ:J8 c q (5,f,t)=Aj 5 f t q 1 0 0 c Ad 0 Cm.zero false dz:=rfl
theorem dK:J8 c q (6,f,t)=Aj 6 f t q 1 1 f Cm.zero Ad 0 Cm.zero false dz:=rfl
theorem QY:J8 c q (7,f,t)=Aj 7 f t q 1 1 t Cm.zero ⟨1,t,0,0⟩ 1 c true dz:=rfl
end
theorem WI(w:World)(F:Ap)(g gd n me q:Nat)(c:Cm)(ph ph':Ph)(m:Lt)(out:List Lt)(an:Bool)(tk B:Nat)(h:Bg w F g gd n me q c ph [] false tk B)(hm:m.2.2=me)(hs:Kr n q ph m=some (ph',out,an)) (hn3:3≤n) (hn:n≤7) (hq:q<n) (hc:CU c) (h1:c.c=1) (h2:c.s=1) :Calls prog 50 #[.pointer (some ⟨g,0,none⟩),.agg (J8 c q m).toArray] w λe w'=>e=.returned (.bool true)∧Bg w' (grow F w w') g gd n me q c ph' out an tk B∧Mv F w w':=by
 obtain⟨k,f,t⟩:=m;obtain rfl:t=me:=hm;unfold Kr at hs;split at hs
 ·cases hs
 rename_i hcond;have hft:f≠t∧f<n∧t<n:=by simp only[not_or,Nat.not_le] at hcond;exact⟨hcond.1,hcond.2.1,hcond.2.2⟩
 clear hcond;have hone:∀(V:List Value) (l:List Lt),l.length=1→DJ c q l 0=V→∀i,i<1→V=DJ c q l i:=λV l _ h i hi=>by
  obtain rfl:i=0:=by omega
  exact h.symm
 dsimp only at hs;split at hs
 ·
  split at hs
  ·rename_i hfq;obtain rfl:f=q:=hfq;simp only[Option.some.injEq,Prod.mk.injEq] at hs;obtain⟨rfl,rfl,rfl⟩:=hs;rw[dI];refine Ee w F g gd n t f f 1 1 f 1 0 0 c Ad 0 Cm.zero false dz c .fresh (.pre 0) [(2,t,f)] false tk B h (by decide) hft.2.1 hft.2.2 hn hq hc h1 h2 (Yw f t f c hc.right (by omega) (by omega) (by omega) hft.1) (λW gc co=>?_) (by simp[CW]) (by simp) (by simp[BG]) rfl rfl;refine AY (Xe co hft.2.1 hft.2.2 hft.1 hn hq hc) ?_;rintro w1 ⟨recs,cout,c1,c2,c3,c4⟩;exact⟨rfl,recs,cout,c1,c2,c3.Jj (hone _ _ rfl rfl),c4⟩
  ·cases hs
 ·
  rename_i A tk';split at hs
  ·cases hs
  rename_i hA;simp only[not_or,Nat.not_lt] at hA;obtain⟨tt,htt,hh⟩:=h;obtain⟨gfl,gby,mb,gw,gc,gfr,kept,P,sq,v,d,since,waits,out0,ans,hI⟩:=hh;obtain⟨⟨wi,gl,gm,nl,gi,gx,ni,L,E,leads,a1,a2,a3,a4,⟨hqm,_⟩,_⟩,_⟩:=hI.co;have h:Bg w F g gd n t q c (.lead A tk') [] false tk B:=⟨tt,htt,gfl,gby,mb,gw,gc,gfr,kept,P,sq,v,d,since,waits,out0,ans,hI⟩;clear hI a1 a2 a3 a4;subst hqm;split at hs
  ·rename_i hle;simp only[Option.some.injEq,Prod.mk.injEq] at hs;obtain⟨rfl,rfl,rfl⟩:=hs;rw[UD];refine Ee w F g gd n q q f 1 2 q 1 0 0 Cm.zero Ad 0 Cm.zero false dz c _ .com (Bq 5 n q) true tk B h (by decide) hft.2.1 hft.2.2 hn hq hc h1 h2 (Qh f q q (by omega) (by omega) (by omega) hft.1) (λW gc co=>?_) (by simp[CW]) (by rw[EZ];omega) (λ_=>rfl) rfl rfl;refine(RF co hft.2.1 hft.2.2 hft.1 hn3 hn hq hc hA.1 hA.2).mono ?_;rintro e w1 ⟨rfl,c4,⟨hlt,_⟩|⟨_,recs,cout,c1,c2,c3⟩⟩
   ·omega
   ·rw[EZ];exact⟨rfl,recs,cout,c1,c2,c3.Jj λi hi=>by rw[Rn _ _ _ _ _ hi];rfl,c4⟩
  ·rename_i hle;simp only[Option.some.injEq,Prod.mk.injEq] at hs;obtain⟨rfl,rfl,rfl⟩:=hs;rw[UD];refine Ee w F g gd n q q f 0 2 q 1 0 0 Cm.zero Ad 0 Cm.zero false dz c _ (.lead (f :: A) tk') [] false tk B h (by decide) hft.2.1 hft.2.2 hn hq hc h1 h2 (Qh f q q (by omega) (by omega) (by omega) hft.1) (λW gc co=>?_) (by simp[CW]) (by simp) (by simp[BG]) rfl rfl;refine(RF co hft.2.1 hft.2.2 hft.1 hn3 hn hq hc hA.1 hA.2).mono ?_;rintro e w1 ⟨rfl,c4,⟨_,c1⟩|⟨hlt,_⟩⟩
   ·exact⟨rfl,_,_,c1,.inl ⟨rfl,rfl⟩,DN.nil0 _ _ _,c4⟩
   ·omega
 ·
  split at hs
  ·rename_i hfq;simp only[Option.some.injEq,Prod.mk.injEq] at hs;obtain⟨rfl,rfl,rfl⟩:=hs;rw[UD];have KR:∀W,Calls prog 72 #[.agg (Aj 2 f t q 1 0 0 Cm.zero Ad 0 Cm.zero false dz).toArray] W λe w'=>e=.returned (.bool true)∧Below W.heap.size W w':=Qh f t q (by omega) (by omega) (by omega) hft.1;refine Ee w F g gd n t q f 0 2 q 1 0 0 Cm.zero Ad 0 Cm.zero false dz c .com .com [] false tk B h (by decide) hft.2.1 hft.2.2 hn hq hc h1 h2 KR (λW gc co=>?_) (by simp[CW]) (by simp) (λ_=>rfl) rfl rfl;refine AY (MH (by decide) co hft.2.1 hn hq KR) ?_;rintro w1 hb1;exact⟨rfl,Ej.none co hb1⟩
  ·cases hs
 ·
  rename_i k';simp only[Option.some.injEq,Prod.mk.injEq] at hs;obtain⟨rfl,rfl,rfl⟩:=hs;rw[YZ];refine Ee w F g gd n t q f 1 5 q 1 0 0 c Ad 0 Cm.zero false dz c (.pre k') .com [] false tk B h (by decide) hft.2.1 hft.2.2 hn hq hc h1 h2 (UN f t q c hc.right (by omega) (by omega) (by omega) hft.1) (λW gc co=>?_) (by simp[CW]) (by simp) (λ_=>rfl) rfl rfl;refine AY (Pg (.inl ⟨k',rfl⟩) co hft.2.1 hft.2.2 hft.1 hn hq hc) ?_;rintro w1 ⟨recs,cout,c1,c2,c3,c4⟩;exact⟨rfl,recs,cout,c1,c2,c3.Jj λi hi=>by omega,c4⟩
 ·
  simp only[Option.some.injEq,Prod.mk.injEq] at hs;obtain⟨rfl,rfl,rfl⟩:=hs;rw[YZ];refine Ee w F g gd n t q f 1 5 q 1 0 0 c Ad 0 Cm.zero false dz c .acc .com [] false tk B h (by decide) hft.2.1 hft.2.2 hn hq hc h1 h2 (UN f t q c hc.right (by omega) (by omega) (by omega) hft.1) (λW gc co=>?_) (by simp[CW]) (by simp) (λ_=>rfl) rfl rfl;refine AY (Pg (.inr rfl) co hft.2.1 hft.2.2 hft.1 hn hq hc) ?_;rintro w1 ⟨recs,cout,c1,c2,c3,c4⟩;exact⟨rfl,recs,cout,c1,c2,c3.Jj λi hi=>by omega,c4⟩
 ·
  rename_i k';simp only[Option.some.injEq,Prod.mk.injEq] at hs;obtain⟨rfl,rfl,rfl⟩:=hs;rw[dK];refine Ee w F g gd n t q f 1 6 q 1 1 f Cm.zero Ad 0 Cm.zero false dz c (.pre (k'+1)) (.prom f) [(7,t,f)] false tk B h (by decide) hft.2.1 hft.2.2 hn hq hc h1 h2 (VD f t q 1 f (by omega) (by omega) (by omega) hft.1 (by decide) ⟨by omega,by omega⟩) (λW gc co=>?_) (by simp[CW]) (by simp) (by simp[BG]) rfl rfl;refine AY (Vb co hft.2.1 hft.2.2 hft.1 hn hq hc) ?_;rintro w1 ⟨recs,cout,c1,c2,c3,c4⟩;exact⟨rfl,recs,cout,c1,c2,c3.Jj (hone _ _ rfl rfl),c4⟩
 ·
  rename_i S;split at hs
  ·cases hs
  rename_i hS;simp only[not_or,Nat.not_lt] at hS;split at hs
  ·rename_i hle;simp only[Option.some.injEq,Prod.mk.injEq] at hs;obtain⟨rfl,rfl,rfl⟩:=hs;rw[QY];refine Ee w F g gd n t q f 0 7 q 1 1 t Cm.zero ⟨1,t,0,0⟩ 1 c true dz c _ (.prep (f :: S)) [] false tk B h (by decide) hft.2.1 hft.2.2 hn hq hc h1 h2 (Jg f t q 1 t ⟨1,t,0,0⟩ 1 c true (by omega) (by omega) (by omega) hft.1 (by decide) ⟨by omega,by omega⟩ (JX t (by omega)) (.inl ⟨rfl,rfl,rfl,rfl⟩) hc.right) (λW gc co=>?_) (by simp[CW]) (by simp) (by simp[BG]) rfl rfl;refine(Pe co hft.2.1 hft.2.2 hft.1 hn3 hn hq hS.2.2 hc hS.1 hS.2.1).mono ?_;rintro e w1 ⟨rfl,c4,⟨_,c1⟩|⟨hlt,_⟩⟩
   ·exact⟨rfl,_,_,c1,.inl ⟨rfl,rfl⟩,DN.nil0 _ _ _,c4⟩
   ·omega
  ·rename_i hle;simp only[Option.some.injEq,Prod.mk.injEq] at hs;obtain⟨rfl,rfl,rfl⟩:=hs;rw[QY];refine Ee w F g gd n t q f 1 7 q 1 1 t Cm.zero ⟨1,t,0,0⟩ 1 c true dz c _ (.accl []) (Bq 3 n t) false tk B h (by decide) hft.2.1 hft.2.2 hn hq hc h1 h2 (Jg f t q 1 t ⟨1,t,0,0⟩ 1 c true (by omega) (by omega) (by omega) hft.1 (by decide) ⟨by omega,by omega⟩ (JX t (by omega)) (.inl ⟨rfl,rfl,rfl,rfl⟩) hc.right) (λW gc co=>?_) (by simp[CW]) (by rw[EZ];omega) (by simp[BG]) rfl rfl;refine(Pe co hft.2.1 hft.2.2 hft.1 hn3 hn hq hS.2.2 hc hS.1 hS.2.1).mono ?_;rintro e w1 ⟨rfl,c4,⟨hlt,_⟩|⟨_,recs,cout,c1,c2,c3⟩⟩
   ·omega
   ·rw[EZ];exact⟨rfl,recs,cout,c1,c2,c3.Jj λi hi=>by rw[MP _ _ _ _ _ _ hi];rfl,c4⟩
 ·
  rename_i A;split at hs
  ·cases hs
  rename_i hA;simp only[Option.some.injEq,Prod.mk.injEq] at hs;obtain⟨rfl,rfl,rfl⟩:=hs;rw[QY];refine Ee w F g gd n t q f 0 7 q 1 1 t Cm.zero ⟨1,t,0,0⟩ 1 c true dz c (.accl A) (.accl A) [] false tk B h (by decide) hft.2.1 hft.2.2 hn hq hc h1 h2 (Jg f t q 1 t ⟨1,t,0,0⟩ 1 c true (by omega) (by omega) (by omega) hft.1 (by decide) ⟨by omega,by omega⟩ (JX t (by omega)) (.inl ⟨rfl,rfl,rfl,rfl⟩) hc.right) (λW gc co=>?_) (by simp[CW]) (by simp) (by simp[BG]) rfl rfl;refine AY (OD co hft.2.1 hft.2.2 hft.1 hn hq hc hA) ?_;rintro w1 hb1;exact⟨rfl,Ej.none co hb1⟩
 ·
  simp only[Option.some.injEq,Prod.mk.injEq] at hs;obtain⟨rfl,rfl,rfl⟩:=hs;have KR:=Jg f t q 1 t ⟨1,t,0,0⟩ 1 c true (by omega) (by omega) (by omega) hft.1 (by decide) ⟨by omega,by omega⟩ (JX t (by omega)) (.inl ⟨rfl,rfl,rfl,rfl⟩) hc.right;rw[QY];refine Ee w F g gd n t q f 0 7 q 1 1 t Cm.zero ⟨1,t,0,0⟩ 1 c true dz c .com .com [] false tk B h (by decide) hft.2.1 hft.2.2 hn hq hc h1 h2 KR (λW gc co=>?_) (by simp[CW]) (by simp) (λ_=>rfl) rfl rfl;refine AY (MH (by decide) co hft.2.1 hn hq KR) ?_;rintro w1 hb1;exact⟨rfl,Ej.none co hb1⟩
 ·
  rename_i p;split at hs
  ·rename_i hfp;obtain rfl:f=p:=hfp;simp only[Option.some.injEq,Prod.mk.injEq] at hs;obtain⟨rfl,rfl,rfl⟩:=hs;rw[dJ];refine Ee w F g gd n t q f 1 3 q 1 1 f c Ad 0 Cm.zero false dz c (.prom f) .acc [(4,t,f)] false tk B h (by decide) hft.2.1 hft.2.2 hn hq hc h1 h2 (VC f t q 1 f c (by omega) (by omega) (by omega) hft.1 (by decide) ⟨by omega,by omega⟩ hc.right) (λW gc co=>?_) (by simp[CW]) (by simp) (by simp[BG]) rfl rfl;refine AY (Xc co hft.2.1 hft.2.2 hft.1 hn hq hc) ?_;rintro w1 ⟨recs,cout,c1,c2,c3,c4⟩;exact⟨rfl,recs,cout,c1,c2,c3.Jj (hone _ _ rfl rfl),c4⟩
  ·cases hs
 ·
  rename_i A;split at hs
  ·cases hs
  rename_i hA;simp only[not_or,Nat.not_lt] at hA;split at hs
  ·rename_i hle;simp only[Option.some.injEq,Prod.mk.injEq] at hs;obtain⟨rfl,rfl,rfl⟩:=hs;rw[UE];refine Ee w F g gd n t q f 0 4 q 1 1 t Cm.zero Ad 0 Cm.zero false dz c _ (.accl (f :: A)) [] false tk B h (by decide) hft.2.1 hft.2.2 hn hq hc h1 h2 (Nl f t q 1 t (by omega) (by omega) (by omega) hft.1 (by decide) ⟨by omega,by omega⟩) (λW gc co=>?_) (by simp[CW]) (by simp) (by simp[BG]) rfl rfl;refine(RG co hft.2.1 hft.2.2 hft.1 hn3 hn hq hc hA.1 hA.2).mono ?_;rintro e w1 ⟨rfl,c4,⟨_,c1⟩|⟨hlt,_⟩⟩
   ·exact⟨rfl,_,_,c1,.inl ⟨rfl,rfl⟩,DN.nil0 _ _ _,c4⟩
   ·omega
  ·rename_i hle;simp only[Option.some.injEq,Prod.mk.injEq] at hs;obtain⟨rfl,rfl,rfl⟩:=hs;rw[UE];refine Ee w F g gd n t q f 1 4 q 1 1 t Cm.zero Ad 0 Cm.zero false dz c _ .com (Bq 5 n t) false tk B h (by decide) hft.2.1 hft.2.2 hn hq hc h1 h2 (Nl f t q 1 t (by omega) (by omega) (by omega) hft.1 (by decide) ⟨by omega,by omega⟩) (λW gc co=>?_) (by simp[CW]) (by rw[EZ];omega) (λ_=>rfl) rfl rfl;refine(RG co hft.2.1 hft.2.2 hft.1 hn3 hn hq hc hA.1 hA.2).mono ?_;rintro e w1 ⟨rfl,c4,⟨hlt,_⟩|⟨_,recs,cout,c1,c2,c3⟩⟩
   ·omega
   ·rw[EZ];exact⟨rfl,recs,cout,c1,c2,c3.Jj λi hi=>by rw[MP _ _ _ _ _ _ hi];rfl,c4⟩
 ·
  simp only[Option.some.injEq,Prod.mk.injEq] at hs;obtain⟨rfl,rfl,rfl⟩:=hs;have KR:=Nl f t q 1 t (by omega) (by omega) (by omega) hft.1 (by decide) ⟨by omega,by omega⟩;rw[UE];refine Ee w F g gd n t q f 0 4 q 1 1 t Cm.zero Ad 0 Cm.zero false dz c .com .com [] false tk B h (by decide) hft.2.1 hft.2.2 hn hq hc h1 h2 KR (λW gc co=>?_) (by simp[CW]) (by simp) (λ_=>rfl) rfl rfl;refine AY (MH (by decide) co hft.2.1 hn hq KR) ?_;rintro w1 hb1;exact⟨rfl,Ej.none co hb1⟩
 ·simp only[Option.some.injEq,Prod.mk.injEq] at hs;obtain⟨rfl,rfl,rfl⟩:=hs;exact RV w F g gd n t q f c _ tk B h hft.1 hft.2.1 hft.2.2 hn hq hc h1 h2
 ·simp only[Option.some.injEq,Prod.mk.injEq] at hs;obtain⟨rfl,rfl,rfl⟩:=hs;exact RV w F g gd n t q f c _ tk B h hft.1 hft.2.1 hft.2.2 hn hq hc h1 h2
 ·simp only[Option.some.injEq,Prod.mk.injEq] at hs;obtain⟨rfl,rfl,rfl⟩:=hs;exact QQ w F g gd n t q f c _ false tk B h (by simp) hft.1 hft.2.1 hft.2.2 hn hq hc h1 h2
 ·simp only[Option.some.injEq,Prod.mk.injEq] at hs;obtain⟨rfl,rfl,rfl⟩:=hs;exact QQ w F g gd n t q f c _ false tk B h (by simp) hft.1 hft.2.1 hft.2.2 hn hq hc h1 h2
 ·simp only[Option.some.injEq,Prod.mk.injEq] at hs;obtain⟨rfl,rfl,rfl⟩:=hs;exact QQ w F g gd n t q f c _ true tk B h (λ_=>rfl) hft.1 hft.2.1 hft.2.2 hn hq hc h1 h2
 ·cases hs
end
def jE:List Value:=[.int .i64 0,.int .i64 0,.int .i64 0,.int .i64 0,.int .i64 0,.string ⟨#[]⟩,.string ⟨#[]⟩,.string ⟨#[]⟩,.string ⟨#[]⟩,.int .i64 0,.bool false,.string ⟨#[]⟩,.int .i64 0,.slice none 0 0]
def S9(T:TypeId)(s n:Nat)(L:List Value)(w:World)(e:Ending)(w':World):Prop:=∃P' ob',e=.returned P'∧AU w' P' ob' T s n L∧(∀k,ob'=some k→w.heap.size≤k)∧Qr n P'∧Below w.heap.size w w'
theorem ZT(P:Value)(ob:Option Nat)(n:Nat)(L:List Value)(h1:∀u∈L,u.oneCell'=true)(hn:n≤1000)(w:World)(h:AU w P ob 55 14 n L)(h0:Qr n P) :Calls prog 35 #[P] w (S9 55 14 n L w):=by
 rcases Nat.eq_zero_or_pos n with hz|hp
 ·subst hz;obtain rfl:=h0 rfl;have hL:L=[]:=List.eq_nil_of_length_eq_zero (by have:=h.len;omega);subst hL;have he:∀W:World,(binOp .eql 48 (.slice none 0 0) (.slice none 0 0)).run prog W=.ok (.bool true) W:=λ_=>by kernel_rfl
  clear h h1 h0;go_in;go_wp2_with fail;go_ret;exact⟨_,none,rfl,AU.nil _ _ _,by simp,λ_=>rfl,Below.refl _ _⟩
 have hlen:=h.len;obtain⟨g,c,rest,rfl,rfl,hc1,hcm,hh,hl⟩:=h.blk hp;have HR:=qh (hh.reads 0 L (λj v hv=>by rw[Nat.zero_add,List.getElem?_append_left (List.getElem?_eq_some_iff.1 hv).1];exact hv));have HO1:=qh (show AU (w.alloc (.cells #[] 55)) (.slice (some ⟨w.heap.size,0,none⟩) 0 0) (some w.heap.size) 55 14 0 [] from⟨World.ownsRow_lit (size:=14) w #[] 0 (Nat.zero_le _) (by unfold maxLen;omega) (by simp),rfl⟩);have ha:Below w.heap.size w (w.alloc (.cells #[] 55)):=by go_grown
 have HA:=qh ha;have hsz:=ha.size;have he:∀W:World,(binOp .eql 48 (.slice (some ⟨g,0,none⟩) n c) (.slice none 0 0)).run prog W=.ok (.bool false) W:=λ_=>by kernel_rfl
 have H1:=qh h1;clear h hh ha h1 h0;go_in;go_wp2_with (first|(at_builtin;refine aS (.agg jE.toArray) 14 168 HO1.o L (HR.below HA.o) ?_ H1.o (hl:=hlen) (hm0:=hp);intro v2 ob2 w2 ho2 hob2 hm2));rw[List.nil_append,Nat.zero_add] at ho2;have HB:=qh (HA.trans (hm2.below hsz (λk hk=>by cases hk;exact Nat.le_refl _)));have hg:∃g,ob2=some g∧w.heap.size≤g:=by
  rcases hob2 with hc|⟨k,hk,hk2⟩
  ·exact⟨_,hc,Nat.le_refl _⟩
  ·exact⟨k,hk,by omega⟩
 obtain⟨g',rfl,hg'⟩:=hg;obtain⟨g2,c2,r2,rfl,_,_,_,_,_⟩:=ho2.blk hp;have H2:=qh ho2;clear ho2 hm2 hob2;go_ret;exact⟨_,_,rfl,H2.o,λk hk=>(by cases hk;exact hg'),λh=>(by omega),HB.o⟩
theorem XX(g c:Nat)(u:Value)(rest:List Value)(h1:∀x∈[u],x.oneCell'=true)(w:World)(hh:Holds w g 158 ([u]++rest)) :Calls prog 77 #[.slice (some ⟨g,0,none⟩) 1 c] w (S9 158 1 1 [u] w):=by
 have hp:0<1:=Nat.zero_lt_one;have HR:=qh (hh.reads 0 [u] (λj v hv=>by rw[Nat.zero_add,List.getElem?_append_left (List.getElem?_eq_some_iff.1 hv).1];exact hv));have HO1:=qh (show AU (w.alloc (.cells #[] 158)) (.slice (some ⟨w.heap.size,0,none⟩) 0 0) (some w.heap.size) 158 1 0 [] from⟨World.ownsRow_lit (size:=1) w #[] 0 (Nat.zero_le _) (by unfold maxLen;omega) (by simp),rfl⟩);have ha:Below w.heap.size w (w.alloc (.cells #[] 158)):=by go_grown
 have HA:=qh ha;have hsz:=ha.size;have he:∀W:World,(binOp .eql 156 (.slice (some ⟨g,0,none⟩) 1 c) (.slice none 0 0)).run prog W=.ok (.bool false) W:=λ_=>by kernel_rfl
 have H1:=qh h1;clear hh ha h1;go_in;go_wp2_with (first|(at_builtin;refine aS (.pointer none) 1 8 HO1.o [u] (HR.below HA.o) ?_ H1.o (hm0:=hp);intro v2 ob2 w2 ho2 hob2 hm2));rw[List.nil_append,Nat.zero_add] at ho2;have HB:=qh (HA.trans (hm2.below hsz (λk hk=>by cases hk;exact Nat.le_refl _)));have hg:∃g,ob2=some g∧w.heap.size≤g:=by
  rcases hob2 with hc|⟨k,hk,hk2⟩
  ·exact⟨_,hc,Nat.le_refl _⟩
  ·exact⟨k,hk,by omega⟩
 obtain⟨g',rfl,hg'⟩:=hg;obtain⟨g2,c2,r2,rfl,_,_,_,_,_⟩:=ho2.blk hp;have H2:=qh ho2;clear ho2 hm2 hob2;go_ret;exact⟨_,_,rfl,H2.o,λk hk=>(by cases hk;exact hg'),λh=>(by omega),HB.o⟩
theorem Q8(g c:Nat)(u:Value)(rest:List Value)(h1:∀x∈[u],x.oneCell'=true)(w:World)(hh:Holds w g 177 ([u]++rest)) :Calls prog 85 #[.slice (some ⟨g,0,none⟩) 1 c] w (S9 177 1 1 [u] w):=by
 have hp:0<1:=Nat.zero_lt_one;have HR:=qh (hh.reads 0 [u] (λj v hv=>by rw[Nat.zero_add,List.getElem?_append_left (List.getElem?_eq_some_iff.1 hv).1];exact hv));have HO1:=qh (show AU (w.alloc (.cells #[] 177)) (.slice (some ⟨w.heap.size,0,none⟩) 0 0) (some w.heap.size) 177 1 0 [] from⟨World.ownsRow_lit (size:=1) w #[] 0 (Nat.zero_le _) (by unfold maxLen;omega) (by simp),rfl⟩);have ha:Below w.heap.size w (w.alloc (.cells #[] 177)):=by go_grown
 have HA:=qh ha;have hsz:=ha.size;have he:∀W:World,(binOp .eql 161 (.slice (some ⟨g,0,none⟩) 1 c) (.slice none 0 0)).run prog W=.ok (.bool false) W:=λ_=>by kernel_rfl
 have H1:=qh h1;clear hh ha h1;go_in;go_wp2_with (first|(at_builtin;refine aS (.pointer none) 1 8 HO1.o [u] (HR.below HA.o) ?_ H1.o (hm0:=hp);intro v2 ob2 w2 ho2 hob2 hm2));rw[List.nil_append,Nat.zero_add] at ho2;have HB:=qh (HA.trans (hm2.below hsz (λk hk=>by cases hk;exact Nat.le_refl _)));have hg:∃g,ob2=some g∧w.heap.size≤g:=by
  rcases hob2 with hc|⟨k,hk,hk2⟩
  ·exact⟨_,hc,Nat.le_refl _⟩
  ·exact⟨k,hk,by omega⟩
 obtain⟨g',rfl,hg'⟩:=hg;obtain⟨g2,c2,r2,rfl,_,_,_,_,_⟩:=ho2.blk hp;have H2:=qh ho2;clear ho2 hm2 hob2;go_ret;exact⟨_,_,rfl,H2.o,λk hk=>(by cases hk;exact hg'),λh=>(by omega),HB.o⟩
def bD(gc n me gl gm nl gi gx ni q:Nat)(L:List BR)(E:List Bh)(leads recs out:Value)(w w':World):Prop:=
 ∃gb cw gw rest,@Ac ⟨some ⟨gb,0,none⟩,1,cw⟩ w' gc n me gl gm nl gi gx ni L E leads recs out∧(1≤cw∧cw≤maxLen)∧Holds w' gb 177 (.pointer (some ⟨gw,0,none⟩) :: rest)∧Holds w' gw 179 (Gi q 0)∧w.heap.size≤gb∧w.heap.size≤gw∧Touch gc w w'
theorem ZA[wi:Af](gc n me gl gm nl gi gx ni q:Nat)(b:Bal)(st:Int)(c:Cm)(sm:Bool)(E:List Bh)(leads recs out:Value)(w:World)(hwi:wi=⟨none,0,0⟩)(h:Ac w gc n me gl gm nl gi gx ni [⟨q,1,AO b st c sm⟩] E leads recs out)(hst:st≠3)(hq:q<n)(hn:n≤7) :Calls prog 84 #[.pointer (some ⟨gc,0,none⟩),.agg #[.int .i64 q,.int .i64 1]] w λe w'=>e=.returned (.bool true)∧bD gc n me gl gm nl gi gx ni q [⟨q,1,AO b st c sm⟩] E leads recs out w w':=by
 have KO:=qh (λW (h:Ac W gc n me gl gm nl gi gx ni [⟨q,1,AO b st c sm⟩] E leads recs out)=>by have:=open_any gc n me gl gm nl gi gx ni q b st c sm E leads recs out W h hq hn;rw[show (st != 3)=true by simpa using hst] at this;exact this);have KW:=qh (show ∀W,Holds W gc 163 (Au n me gl gi leads recs out)→Calls prog 152 #[.pointer (some ⟨gc,0,none⟩),.agg #[.int .i64 q,.int .i64 1]] W λe w'=>e=.returned (.pointer none)∧Below W.heap.size W w' from by
  intro W h1;exact Sl gc n me gl gi none 0 leads recs out q 1 W (hwi▸h1))
 have KI:=qh (λbs gld W h=>YT bs gld W h);have hwp:wi.p=none:=by subst hwi;rfl
 have hwn:wi.n=0:=by subst hwi;rfl
 have hwc:wi.c=0:=by subst hwi;rfl
 have HCA:=qh h;have HB:=qh (Base.start w);have hgc:=h.hc.lt;have hne:=h.ne;have HNE:=qh hne;clear h hwi hne;go_in;go_upto_region 1 with(fail);go_name_world W hW;obtain⟨HX,hbW,hsW⟩:=Ef 37 ([.int .i64 q,.int .i64 1]) hW;clear hW;obtain⟨HCA,HB⟩:=Bf hbW HCA HB;clear hbW hsW;generalize hB0:w.heap.size=gX at HX HB hgc ⊢;obtain⟨x0,x1⟩:=BQ HX.o 0 1;go_wp2_with fail;refine AY (KO.o _ HCA.o) ?_;rintro w1 hb;obtain⟨HCA,HB,HX⟩:=Ce hb HCA HB HX;clear hb x0 x1;obtain⟨x0,x1⟩:=BQ HX.o 0 1;go_wp2_with fail;refine AY (KW.o _ HCA.hc) ?_;rintro w2 hb;obtain⟨HB,HCA,HX⟩:=Ce hb HB HCA HX;clear hb x0 x1;have d5:=AZ HCA.hc 5;simp only[hwp,hwn,hwc] at d5;go_wp2_with fail;go_loopw [5] (λvi wr=>vi=.int .i64 0∧w2=wr) (λ_ _=>0);case atStart=>exact⟨rfl,rfl⟩
 case round=>
  obtain⟨rfl,rfl⟩:=hrel;go_upto_region 4 with(fail);go_quiet (fail);have hb2:Below w2.heap.size w2 (w2.drewN nq):=BV _ _ _;obtain⟨HB,HCA,HX⟩:=Ce hb2 HB HCA HX;clear hb2 d5;generalize w2.drewN nq=W2 at HB HCA HX ⊢;go_upto_region 6 with(fail);have HC:=qh HCA.hc;obtain⟨HCA,HC,HB,HX⟩:=D8 (AP _ W2) HCA HC HB HX;refine EC [13] 14 (λhSn=>?_);generalize W2.drew=wd at HCA HC HB HX hSn ⊢;simp only[List.replicate];refine Gn 0 ?_;refine BA 4 [10,11,12,13] (λw hSw=>AZ (HC.bel hSw) 5) ?_;refine CS 5 ?_;refine BA 6 [7,8,9,10,11,12,13] (λw hSw=>BQ (HX.bel hSw) 0 1) ?_;refine CS 7 ?_;refine BC 8 rfl (λK hK=>?_);go_simp;have hal:=λo=>Below.alloc hSn hSn.size o;refine hK.out _ _ (λ_=>hal _) ?_;have hSn:=hal (.cells (Gi q 0).toArray 179);have HG:=qh (AA wd 179 (Gi q 0));clear hal;change wpAnyL _ _ _ _ _ _ _ _ _ (wd.alloc (.cells (Gi q 0).toArray 179));have hgl0:=HG.lt;have hgw0:gX≤wd.heap.size:=HB.le;generalize wd.alloc (.cells (Gi q 0).toArray 179)=wa at hSn HG hgl0 ⊢;clear hK;try simp only[Act.put,zA,zB,zC]
  refine BC 9 rfl (λK hK=>?_);refine tU 177 (.pointer (some ⟨wd.heap.size,0,none⟩)) [.pointer (some ⟨wd.heap.size,0,none⟩)] ?_;intro wb hnb hbb;have hSn:=AB hSn hbb;have HG:=Ci hbb HG;have HN:=qh hnb;clear hnb hbb;change K (Act.put _ (some 56) _) _;refine BJ hK ?_;clear hK;refine BC 10 rfl (λK hK=>?_);go_simp;have hs1:=hSn.size;refine(KI.o _ wd.heap.size _ HN.o).mono ?_;rintro e w5 ⟨g5,c5,r5,rfl,hc1,hc2,hh5,hg5,hb5⟩;have hSn:=AB hSn hb5;have HG:=Ci hb5 HG;have HGB:=qh hh5;have hgb0:gX≤g5:=by have:=HB.le;omega
  clear hh5 hb5 hg5;refine BJ hK ?_;clear hK;refine FD 11 ?_;refine BC 13 rfl (λK hK=>?_);refine tC 5 (HC.bel hSn) (.slice (some ⟨g5,0,none⟩) 1 c5) ?_;intro w6 hh6 ht6;have HC6:=qh (show Holds w6 gc 163 (@Au ⟨some ⟨g5,0,none⟩,1,c5⟩ n me gl gi leads recs out) from hh6);have HT6:=qh ht6;clear hh6 ht6;refine BJ hK ?_;clear hK;refine DX ?_;have HL6:=qh ((HCA.bel hSn).lg.touch HT6.o (Ne.symm HNE.1) (Ne.symm HNE.2.1));have HI6:=qh ((HCA.bel hSn).ix.touch HT6.o (Ne.symm HNE.2.2.1) (Ne.symm HNE.2.2.2.1));have HG:=qh (HG.touch HT6.o (by omega));have HGB:=qh (HGB.touch HT6.o (by omega));have HB:=Ci hSn HB;have hT:Touch gc w w6:=⟨HT6.os.trans HB.below.os,HT6.tape.trans HB.below.tape,HT6.output.trans HB.below.output,by have:=HB.below.size;have:=HT6.size;omega,λk hk hn=>by
   have h1:=HB.below.block k (by omega);have h2:=HT6.block k (by have:=HB.le;omega) hn;exact h2.trans h1⟩
  have HT:=qh hT;clear hSn HC HX HCA HN HT6 hT KO KW KI;go_wp2_with fail;go_ret;exact⟨rfl,g5,c5,wd.heap.size,r5,@Ac.mk ⟨some ⟨g5,0,none⟩,1,c5⟩ _ _ _ _ _ _ _ _ _ _ _ _ _ _ _ HC6.o HL6.o HI6.o HNE.o,⟨hc1,hc2⟩,HGB.o,HG.o,by omega,by omega,HT.o⟩
end Go.Proofs.YtimdpiifpibgfaaGreatDoor
