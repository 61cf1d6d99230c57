/- A part of the proof that the law TopCopies returns true for every input. -/
import Derived.Test.YtimdpiifpibgfaaGreatDoorQc34
set_option linter.all false
set_option maxRecDepth 20000
set_option maxHeartbeats 16000000
open Go.RowKit Go.Maps
namespace Go.Proofs.YtimdpiifpibgfaaGreatDoor
open Tryz
section
variable [In] [Bs]
theorem gG{q n:Nat}{c:Cm}(hB:EN n q c){dn:Dn}(h:dn≠.no):(NC q c dn).ow (cK c)=⟨c.s,Lu c⟩:=by
 have hc:=hB.hc.cc;unfold NC;rw[if_neg h];show Gg Bs.S.ow c.c.toNat _ (cK c)=_;unfold Gg;rw[if_neg (by omega)];unfold cK;rw[CX]
 rfl
theorem cZ{c:Cm}(hc:Gu c):cK c<8:=by have:=hc.cc;unfold cK;omega
theorem SE{q n:Nat}{c:Cm}(hB:EN n q c)(dn:Dn):(NC q c dn).Fine (Bs.nb+1):=by
 unfold NC;split
 ·exact⟨by have:=hB.fine.len;omega,λp hp=>(hB.fine.ps p hp).mono (by omega),λi hi=>(hB.fine.ow i hi).mono (by omega)⟩
 ·exact hB.fine.apply c hB.hc
def aG:Dn→Bool
 | .no=>true
 | _=>false
theorem Vx(w:World)(F:Af)(g n me q:Nat)(c:Cm)(ph:Ph)(dn:Dn)(wt:Bool)(tk:Int)(lim m:Nat)(V:Nat→List Value)(hB:EN n q c) (h:DJ w F g n me q c ph (.slice none 0 0) (.slice none 0 0) dn wt m V false tk lim) :Calls prog 92 #[.pointer (some ⟨g,0,none⟩)] w λe w'=>e=.returned (.tuple #[])∧DJ w' (grow F w w') g n me q c ph (.slice none 0 0) (.slice none 0 0) dn (wt&&aG dn) m V (wt&&!aG dn) tk lim∧Mv F w w':=by
 obtain⟨gd,mb,gw,gc,gfr,P,pv,waits,out,ans,h⟩:=h;have nd:=h.nd;have wa:=h.wa;have st:=h.st;have an:=h.an;obtain rfl:ans=.slice none 0 0:=an;have hF:∀w' k,F k→k<w.heap.size→grow F w w' k:=λw' k hk _=>.inl hk;cases wt with
 | false=>
  obtain rfl:waits=.slice none 0 0:=wa;refine Ac (Rh g n me gd gw gc gfr P _ pv _ _ _ tk out (.slice none 0 0) w nd) ?_;rintro w' ⟨hn,ht⟩;have hm:Mv (λk=>k=g) w w':=Mv.AU ht rfl;exact⟨rfl,⟨gd,mb,gw,gc,gfr,P,pv,_,out,_,(h.foot (hF w')).CQ hm hn rfl ((h.foot (hF w')).st.CQ nd hm) rfl ((h.foot (hF w')).ou.CQ nd hm) rfl⟩,hm.more λk hk=>hk▸h.f.1⟩
 | true=>
  obtain⟨ob0,w1,w2⟩:=wa;obtain⟨obs,pbs,s1,s2,s3,s4⟩:=st;have hck:=cZ hB.hc;by_cases hdn:dn=.no
  ·subst hdn;refine Ac (Rf g n me gd gw gc gfr P _ pv _ _ _ tk waits out (.slice none 0 0) ob0 _ (cK c) hck c.s w nd w1 (s2 _ hck) hB.seq) ?_;rintro w' ⟨W1,ob1,hn,ho,hob,ht⟩;have hm:Mv (λk=>k=g) w w':=Mv.AU ht rfl;exact⟨rfl,⟨gd,mb,gw,gc,gfr,P,pv,W1,out,_,(h.foot (hF w')).CQ hm hn rfl ((h.foot (hF w')).st.CQ nd hm) ⟨ob1,ho,λk hk=>.inr ⟨hob k hk,ho.lt k hk⟩⟩ ((h.foot (hF w')).ou.CQ nd hm) rfl⟩,hm.more λk hk=>hk▸h.f.1⟩
  ·have hno:aG dn=false:=by cases dn<;>first|rfl|exact absurd rfl hdn
   have how:=gG hB hdn;have hfl:=((SE hB dn).ow _ hck).rep.len;refine Ac (RZ g n me gd gw gc gfr P _ pv _ _ _ tk waits out ob0 _ (cK c) hck c.s w nd w1 (s2 _ hck) (by rw[how]) (by omega)) ?_;rintro w' ⟨A1,ob1,v,obv,hn,ho,hpv,hob,hobv,ht⟩;rw[how] at ho hpv;rw[hno];have hm:Mv (λk=>k=g) w w':=Mv.AU ht rfl;exact⟨rfl,⟨gd,mb,gw,gc,gfr,P,pv,_,out,A1,(h.foot (hF w')).CQ hm hn rfl ((h.foot (hF w')).st.CQ nd hm) rfl ((h.foot (hF w')).ou.CQ nd hm) ⟨ob1,v,obv,ho,hpv,λk hk=>.inr ⟨hob k hk,ho.lt k hk⟩,λk hk=>.inr ⟨hobv k hk,AO.lt hpv k hk⟩⟩⟩,hm.more λk hk=>hk▸h.f.1⟩
theorem DR.yes{w:World}{F:Af}{g n me q:Nat}{c:Cm}{ph:Ph}{recs cout:Value}{wt:Bool}{m:Nat}{V:Nat→List Value}{an:Bool}{tk:Int}{lim:Nat}{gd mb gw gc gfr:Nat}{P:Value}{pv:Nat→Value}{waits out ans:Value} (h:DR w F g n me q c ph recs cout .run wt m V an tk lim gd mb gw gc gfr P pv waits out ans) (h8:Bs.sc+1≠8):DR w F g n me q c ph recs cout .yes wt m V an tk lim gd mb gw gc gfr P pv waits out ans:=by have e1:Na q .yes=Na q .run:=if_neg h8;have e2:RF .yes=RF .run:=if_neg h8;obtain⟨nd,dk,lm,co,fr,st,wa,ou,an',f1,f2⟩:=h;exact⟨by rw[e1,e2];exact nd,dk,lm,co,by rw[e1];exact fr,st,wa,ou,an',f1,f2⟩
theorem DR.kept{w w':World}{F F2:Af}{g n me q:Nat}{c:Cm}{ph:Ph}{recs cout:Value}{wt:Bool}{m:Nat}{V:Nat→List Value}{an:Bool}{tk:Int}{lim:Nat}{gd mb gw gc gfr:Nat}{P:Value}{pv:Nat→Value}{waits out ans:Value} (h:DR w F g n me q c ph recs cout .run wt m V an tk lim gd mb gw gc gfr P pv waits out ans) (h8:Bs.sc+1=8) (hk:LX F2 g n me gd mb gw gc gfr P (NC q c .run).ow pv (Rq q .run) tk waits out ans w w') (hF2:∀k,F2 k→k<w.heap.size→F k) :DR w' (grow F w w') g n me q c ph recs cout .yes wt m V an tk lim gd mb gw gc gfr P pv waits out ans∧Mv F w w':=by
 have e1:Na q .yes=Rq q .run:=if_pos h8;have e2:RF .yes=0:=if_pos h8;obtain⟨hn,hd,hfr,hm⟩:=hk;obtain⟨nd,dk,lm,co,fr,st,wa,ou,an',f1,f2⟩:=h;have hT:∀T:List TypeId,(∀t∈([102,197,125,129,208]:List TypeId),t∉T)→∀k,(k=g∨k=gfr∨IB w F2 D7 k)→k<w.heap.size→N9 w F T k:=by
  rintro T ht k (rfl|rfl|⟨_,t,L,h,hd⟩) _
  ·exact Np nd (ht _ (by decide))
  ·exact Np fr.h (ht _ (by decide))
  ·exact Np h (ht t ((show ∀t∈D7,t∈([102,197,125,129,208]:List TypeId) by decide) t hd))
 have hC:∀T:List TypeId,(∀t∈([102,197,125,129,208]:List TypeId),t∉T)→∀k,(k=g∨k=gfr∨IB w F2 D7 k)→k<w.heap.size→Dx w F T k:=λT ht k hk hl=>.inl (hT T ht k hk hl);have hF:∀k,F k→k<w'.heap.size→grow F w w' k:=λk hk _=>.inl hk;have hG:Mv F w w':=by
  refine⟨hm.os,hm.tape,hm.output,hm.size,λk hk hn=>hm.block k hk λhc=>hn ?_⟩;rcases hc with rfl|rfl|h
  ·exact f1
  ·exact f2
  ·exact hF2 k h.1 hk
 refine⟨⟨by rw[e1,e2];exact hn,hd.foot (λk hk hl=>?_),lm,(co.mv (T:=GV) hm (hT _ (by decide)) (λ_ h=>h)).foot hF,by rw[e1];exact hfr,(st.mv (T:=[69]) hm (hC _ (by decide)) (by decide)).foot hF,(wa.mv (T:=[37]) hm (hC _ (by decide)) (by decide)).foot hF,(ou.mv (T:=[47]) hm (hC _ (by decide)) (by decide)).foot hF,(an'.mv (T:=P7) hm (hC _ (by decide)) (λ_ h=>h)).foot hF,.inl f1,.inl f2⟩,hG⟩;rcases hk with h|h
 ·by_cases hk:k<w.heap.size
  ·exact .inl (hF2 k h hk)
  ·exact .inr ⟨by omega,hl⟩
 ·exact .inr h
theorem fG{q n:Nat}{c:Cm}(hB:EN n q c)(dn:Dn)(j:Nat):0≤Na q dn j:=by
 have h1:=hB.kp j;have h2:=Lc hB j;cases dn
 ·exact h1.1
 ·exact h1.1
 ·show 0≤(if Bs.sc+1=8 then doneD Bs.d q else Bs.kp) j;split<;>omega
def Nl(F:Af)(g n me q:Nat)(c:Cm)(ph:Ph)(wt:Bool)(m:Nat)(V:Nat→List Value)(tk:Int)(lim:Nat)(w w':World):Prop:=DJ w' (grow F w w') g n me q c ph (.slice none 0 0) (.slice none 0 0) (FM ph) (wt&&!Hr ph) m V (wt&&Hr ph) tk lim∧Mv F w w'
theorem Jm(w:World)(F:Af)(B g n me q:Nat)(c:Cm)(ph:Ph)(recs cout:Value)(dn:Dn)(wt:Bool)(tk:Int)(lim r m:Nat)(V V0:Nat→List Value)(hB:EN n q c) (h:DJ w F g n me q c ph recs cout dn wt 0 V0 false tk lim) (hr:IR w B r recs) (ho:Dv w F cout m V) (hm:m≤100) (hV:∀u∈flat 51 m V,u.oneCell'=true) (hFB:∀k,B≤k→k<w.heap.size→F k) (hlim:lim+500*r≤27500) (hlim2:lim≤27000) (hdn:dn=.no∨(dn=.yes∧ph=.com)) (hme:me<n) :Calls prog 53 #[.pointer (some ⟨g,0,none⟩)] w λe w'=>e=.returned (.tuple #[])∧Nl F g n me q c ph wt m V tk (lim+500*r) w w':=by
 have hbad:w.cell? ⟨g,74,none⟩=some (.bool false):=by obtain⟨gd,mb,gw,gc,gfr,P,pv,waits,out,ans,h⟩:=h;exact h.nd.cell 74
 have hnod:aG (J5 ph dn)=!Hr ph:=by
  rcases hdn with rfl|⟨rfl,rfl⟩
  ·cases ph<;>rfl
  ·rfl
 let R (wt an:Bool) (dn:Dn) (W:World):Prop:=DJ W (grow F w W) g n me q c ph (.slice none 0 0) (.slice none 0 0) dn wt m V an tk (lim+500*r)∧Mv F w W
 refine XV g w (Drained F g n me q c ph dn wt m V tk (lim+500*r) w) (R wt false (J5 ph dn)) (R (wt&&!Hr ph) (wt&&Hr ph) (J5 ph dn)) (Nl F g n me q c ph wt m V tk (lim+500*r) w) (Nl F g n me q c ph wt m V tk (lim+500*r) w) hbad
  (YV w F B g n me q c ph recs cout dn wt tk lim r m V V0 h hr ho hm hV hFB hlim2) (λW hW=>?_) (λW hW=>?_) (λW hW=>?_) (λW hW=>?_)
 ·refine Ac (gU W (grow F w W) g n me q c ph dn wt tk _ m V hB hW.1 hdn) ?_;rintro w' ⟨hn,hm'⟩;exact⟨rfl,hn.step hW.2.size hm'.size,hW.2.step hm'⟩
 ·refine Ac (Vx W (grow F w W) g n me q c ph (J5 ph dn) wt tk _ m V hB hW.1) ?_;rintro w' ⟨hn,hm'⟩;rw[hnod,Bool.not_not] at hn;exact⟨rfl,hn.step hW.2.size hm'.size,hW.2.step hm'⟩
 ·obtain⟨⟨gd,mb,gw,gc,gfr,P,pv,waits,out,ans,h⟩,hmv⟩:=hW;have hs:=h.nd.cell 69;have hsc:=hB.sc;have hs':W.cell? ⟨g,69,none⟩=some (.int .i64 (RF (J5 ph dn))):=hs;have hnext:∀dn',FM ph=dn'→DR W (grow F w W) g n me q c ph (.slice none 0 0) (.slice none 0 0) dn' (wt&&!Hr ph) m V (wt&&Hr ph) tk (lim+500*r) gd mb gw gc gfr P pv waits out ans→∀W',Below W.heap.size W W'→Nl F g n me q c ph wt m V tk (lim+500*r) w W':=λdn' hd hn W' hb=>by subst hd;exact⟨⟨gd,mb,gw,gc,gfr,P,pv,waits,out,ans,(hn.bel hb).foot (λk hk hl=>hk.imp id λ⟨a,b⟩=>⟨a,Nat.lt_of_lt_of_le b hb.size⟩)⟩,hmv.bel hb⟩
  by_cases hrun:J5 ph dn=.run
  ·have hph:ph=.com:=by
    rcases hdn with rfl|⟨rfl,rfl⟩
    ·cases ph<;>first|rfl|(cases hrun)
    ·rfl
   have hde:FM ph=.yes:=by rw[hph];rfl
   rw[hrun] at h hs';by_cases h8:Bs.sc+1=8
   ·right;obtain⟨ob,pb,s1,s2,s3,s4⟩:=h.st;have hnb:=hB.nb;have hd9:∀j,0≤Rq q .run j∧Rq q .run j≤101:=Qj hB .run;refine⟨by rw[hs'];show some (Value.int .i64 (Bs.sc+1))=_;rw[h8],Rq q .run,P,(NC q c .run).ow,pv,_,h.nd,Oy _ _ _ _ _ _ _ _ _ _ _ _ _ _ _ _,MV _ _ _ _ _ _ _ _ _ _ _ _ _ _ _ _,s1.Bq,s2.sl,λW' hb=>?_,λW' v len hb hv hl h1=>?_⟩
    ·refine(kE P ob (NC q c .run) (Bs.nb+1) (Rq q .run) pv pb W' (AO.bel s1 hb) (s2.bel hb) (SE hB .run) (by omega) (λj=>by have:=hd9 j;omega)).mono ?_;rintro e w' ⟨v',k,rfl,hk1,hk2,ho,hbl⟩;exact⟨v',k,rfl,hk1,hk2,ho.mono hb.size,hbl⟩
    ·refine(keep_any (grow F w W) g n me gd mb gw gc gfr len P (NC q c .run).ow pv (Rq q .run) (Na q .run) (RF .run) tk waits out ans v W W' (h.nd.bel hb) h.dk hb hv hl h1 (by have:=h.lm;omega) ⟨h.fr.h.bel hb,h.fr.n7⟩ hme (λj=>?_) (λj=>by have:=hd9 j;omega)).mono ?_
     ·have h1:=(hB.kp j).2;have h2:=(Lc hB j).1;show Bs.kp j≤doneD Bs.d q j;omega
     ·rintro e w' ⟨rfl,hk⟩;have hb':=h.bel hb;obtain⟨hn,hmv2⟩:=hb'.kept h8 hk (λk hk _=>hk);have hsz:=hb.size;have hsz2:=hmv2.size;refine⟨rfl,⟨gd,mb,gw,gc,gfr,P,pv,waits,out,ans,?_⟩,?_⟩
      ·rw[hde];refine hn.foot λk hk _=>?_;rcases hk with(h|h)|h
       ·exact .inl h
       ·exact .inr ⟨h.1,by omega⟩
       ·exact .inr ⟨by have:=hmv.size;omega,h.2⟩
      ·exact(hmv.bel hb).mv hmv2 λk hk=>hk.imp id λh=>h.1
   ·left;refine⟨_,hs',by show Bs.sc+1<8;omega,hnext .yes hde (h.yes h8)⟩
  ·left;have hde:FM ph=J5 ph dn:=by
    rcases hdn with rfl|⟨rfl,rfl⟩
    ·cases ph<;>first|rfl|exact absurd rfl hrun
    ·rfl
   refine⟨_,hs',?_,hnext _ hde h⟩;rcases hdn with rfl|⟨rfl,rfl⟩
   ·cases ph<;>first|exact hsc.2|exact absurd rfl hrun
   ·show (if Bs.sc+1=8 then (0:Int) else Bs.sc+1)<8;split<;>omega
 ·obtain⟨⟨gd,mb,gw,gc,gfr,P,pv,waits,out,ans,h⟩,hmv⟩:=hW;have h':=h;obtain⟨nd,dk,lm,⟨⟨gl,gm,nl,gi,gx,ni,L,E,leads,a1,a2,a3,a4,a5⟩,hf⟩,fr,st,wa,ou,an',f1,f2⟩:=h';refine(Xa g n me gd gw gc gl gm nl gi gfr L leads _ _ P _ pv _ _ _ tk waits out ans W nd a1.hc a1.lg fr (by have:=hB.n7;omega) hme (λj=>fG hB _ j)).mono ?_
  ·rintro e w' ⟨rfl,hb⟩;exact⟨rfl,⟨gd,mb,gw,gc,gfr,P,pv,waits,out,ans,(h.bel hb).foot (λk hk hl=>hk.imp id λ⟨a,b⟩=>⟨a,Nat.lt_of_lt_of_le b hb.size⟩)⟩,hmv.bel hb⟩
end
section
variable [In]
theorem fV(g n me gd gw gc gfr f q:Nat)(x:Cm)(P:Value)(o:Nat→Ow)(pv:Nat→Value)(d kp:Nat→Int)(since tk:Int)(waits out ans:Value)(R1 R2:World→Prop)(w:World)(nd:Holds w g 102 (A7 n me gd gw gc gfr P o pv d kp since tk waits out ans))(hf:f<n) (KL:∀W,Calls prog 72 #[.agg (Ah 1 f me q x).toArray] W λe w'=>e=.returned (.bool true)∧Below W.heap.size W w') (KT:∀W,Below w.heap.size w W→Calls prog 75 #[.pointer (some ⟨gc,0,none⟩),.agg (Ah 1 f me q x).toArray] W λe w'=>e=.returned (.bool false)∧R1 w') (KS:∀W,R1 W→Calls prog 53 #[.pointer (some ⟨g,0,none⟩)] W λe w'=>e=.returned (.tuple #[])∧R2 w') :Calls prog 50 #[.pointer (some ⟨g,0,none⟩),.agg (Ah 1 f me q x).toArray] w λe w'=>e=.returned (.bool true)∧R2 w':=by
 have KL:=qh KL;have KT:=qh KT;have KS:=qh KS;have HN:=qh nd;have HB:=qh (Base.start w);have hmm:((me:Int)==(me:Int))=true:=by simp
 have hfn:(f:Int)<(n:Int):=by omega
 clear nd;go_in;go_upto_region 1 with(fail);go_name_world W hW;obtain⟨HX,hbW,hsW⟩:=Ff 47 (Ah 1 f me q x) hW;clear hW;obtain⟨HN,HB⟩:=DC hbW HN HB;clear hbW hsW;generalize hB0:w.heap.size=B at HX HB KT ⊢;have HR1:=qh (BB (cs:=Ah 1 f me q x) HX.o 0 (by intro j v hv;rw[Nat.zero_add];exact hv));obtain⟨x1,x2⟩:=Jo HX.o 1 2;obtain⟨n0,n1,n74⟩:=iH HN.o 0 1 74;refine wp_region_quiet_below (by kernel_rfl) (by kernel_rfl) ?_;repeat(first
  | (with_reducible refine qR 0 HR1.o ?_;simp only[Act.put,List.setIfInBounds_toArray,List.set_cons_succ,List.set_cons_zero])
  | go_big_quiet_step (first
   | (go_at_call 72;with_reducible exact AL λW _=>KL.o W)))
 refine wpQuiet_nil ?_;intro w3 hw';have hb3:=AP hw';obtain⟨HN,HX,HB⟩:=Du hb3 HN HX HB;clear hw' hb3 x1 x2 n0 n1 n74 HR1;have x0:=Ag HX.o 0;go_upto_region 4 with(fail);clear x0;have HRX:=qh (λ(w':World) (h:Below w3.drew.heap.size w3.drew w')=>((HX.bel (AQ _ w3)).bel h).AY);obtain⟨HN,HX,HB⟩:=Du (AQ _ w3) HN HX HB;refine EQ [5] 6 (λhSn=>?_);generalize w3.drew=wd at HN HX HB HRX hSn ⊢;simp only[List.replicate];refine Dz 0 ?_;refine BG 3 [5] (λw hSw=>Ag (HN.bel hSw) 4) ?_;refine He 4 [5] (some 38) (.agg (Ah 1 f me q x).toArray) rfl (yieldsIf_load_mid (by rfl) 47 _ rfl B 0 rfl (Ah 1 f me q x) _ (λw hSw=>HRX.o w hSw) underlying47 rfl (by as_aux_lemma=>kernel_rfl)) hSn ?rg5;simp only[Act.put,zA,zB,zC];refine BH 5 rfl (λK hK=>?_);go_simp;refine Ac (KT.o _ (HB.bel hSn).below) ?_;rintro w5 h1;have H1:=qh h1;clear h1;refine BN hK ?_;clear hK;refine Dl ?_;clear hSn HN HX HB HRX KT KL;go_wp2_with fail;refine Ac (KS.o _ H1.o) ?_;rintro w6 h2;have H2:=qh h2;clear h2 H1;go_wp2_with fail;go_ret;exact⟨rfl,H2.o⟩
theorem fZ(g n me gd gw gc gfr f q:Nat)(x:Cm)(P:Value)(o:Nat→Ow)(pv:Nat→Value)(d kp:Nat→Int)(since tk:Int)(waits out ans:Value)(R1 R2:World→Prop)(w:World)(nd:Holds w g 102 (A7 n me gd gw gc gfr P o pv d kp since tk waits out ans))(hf:f<n) (KL:∀W,Calls prog 72 #[.agg (Ah 2 f me q x).toArray] W λe w'=>e=.returned (.bool true)∧Below W.heap.size W w') (KT:∀W,Below w.heap.size w W→Calls prog 75 #[.pointer (some ⟨gc,0,none⟩),.agg (Ah 2 f me q x).toArray] W λe w'=>e=.returned (.bool false)∧R1 w') (KS:∀W,R1 W→Calls prog 53 #[.pointer (some ⟨g,0,none⟩)] W λe w'=>e=.returned (.tuple #[])∧R2 w') :Calls prog 50 #[.pointer (some ⟨g,0,none⟩),.agg (Ah 2 f me q x).toArray] w λe w'=>e=.returned (.bool true)∧R2 w':=by
 have KL:=qh KL;have KT:=qh KT;have KS:=qh KS;have HN:=qh nd;have HB:=qh (Base.start w);have hmm:((me:Int)==(me:Int))=true:=by simp
 have hfn:(f:Int)<(n:Int):=by omega
 clear nd;go_in;go_upto_region 1 with(fail);go_name_world W hW;obtain⟨HX,hbW,hsW⟩:=Ff 47 (Ah 2 f me q x) hW;clear hW;obtain⟨HN,HB⟩:=DC hbW HN HB;clear hbW hsW;generalize hB0:w.heap.size=B at HX HB KT ⊢;have HR1:=qh (BB (cs:=Ah 2 f me q x) HX.o 0 (by intro j v hv;rw[Nat.zero_add];exact hv));obtain⟨x1,x2⟩:=Jo HX.o 1 2;obtain⟨n0,n1,n74⟩:=iH HN.o 0 1 74;refine wp_region_quiet_below (by kernel_rfl) (by kernel_rfl) ?_;repeat(first
  | (with_reducible refine qR 0 HR1.o ?_;simp only[Act.put,List.setIfInBounds_toArray,List.set_cons_succ,List.set_cons_zero])
  | go_big_quiet_step (first
   | (go_at_call 72;with_reducible exact AL λW _=>KL.o W)))
 refine wpQuiet_nil ?_;intro w3 hw';have hb3:=AP hw';obtain⟨HN,HX,HB⟩:=Du hb3 HN HX HB;clear hw' hb3 x1 x2 n0 n1 n74 HR1;have x0:=Ag HX.o 0;go_upto_region 4 with(fail);clear x0;have HRX:=qh (λ(w':World) (h:Below w3.drew.heap.size w3.drew w')=>((HX.bel (AQ _ w3)).bel h).AY);obtain⟨HN,HX,HB⟩:=Du (AQ _ w3) HN HX HB;refine EQ [5] 6 (λhSn=>?_);generalize w3.drew=wd at HN HX HB HRX hSn ⊢;simp only[List.replicate];refine Dz 0 ?_;refine BG 3 [5] (λw hSw=>Ag (HN.bel hSw) 4) ?_;refine He 4 [5] (some 38) (.agg (Ah 2 f me q x).toArray) rfl (yieldsIf_load_mid (by rfl) 47 _ rfl B 0 rfl (Ah 2 f me q x) _ (λw hSw=>HRX.o w hSw) underlying47 rfl (by as_aux_lemma=>kernel_rfl)) hSn ?rg10;simp only[Act.put,zA,zB,zC];refine BH 5 rfl (λK hK=>?_);go_simp;refine Ac (KT.o _ (HB.bel hSn).below) ?_;rintro w5 h1;have H1:=qh h1;clear h1;refine BN hK ?_;clear hK;refine Dl ?_;clear hSn HN HX HB HRX KT KL;go_wp2_with fail;refine Ac (KS.o _ H1.o) ?_;rintro w6 h2;have H2:=qh h2;clear h2 H1;go_wp2_with fail;go_ret;exact⟨rfl,H2.o⟩
theorem gB(g n me gd gw gc gfr f q:Nat)(x:Cm)(P:Value)(o:Nat→Ow)(pv:Nat→Value)(d kp:Nat→Int)(since tk:Int)(waits out ans:Value)(R1 R2:World→Prop)(w:World)(nd:Holds w g 102 (A7 n me gd gw gc gfr P o pv d kp since tk waits out ans))(hf:f<n) (KL:∀W,Calls prog 72 #[.agg (Ah 5 f me q x).toArray] W λe w'=>e=.returned (.bool true)∧Below W.heap.size W w') (KT:∀W,Below w.heap.size w W→Calls prog 75 #[.pointer (some ⟨gc,0,none⟩),.agg (Ah 5 f me q x).toArray] W λe w'=>e=.returned (.bool false)∧R1 w') (KS:∀W,R1 W→Calls prog 53 #[.pointer (some ⟨g,0,none⟩)] W λe w'=>e=.returned (.tuple #[])∧R2 w') :Calls prog 50 #[.pointer (some ⟨g,0,none⟩),.agg (Ah 5 f me q x).toArray] w λe w'=>e=.returned (.bool true)∧R2 w':=by
 have KL:=qh KL;have KT:=qh KT;have KS:=qh KS;have HN:=qh nd;have HB:=qh (Base.start w);have hmm:((me:Int)==(me:Int))=true:=by simp
 have hfn:(f:Int)<(n:Int):=by omega
 clear nd;go_in;go_upto_region 1 with(fail);go_name_world W hW;obtain⟨HX,hbW,hsW⟩:=Ff 47 (Ah 5 f me q x) hW;clear hW;obtain⟨HN,HB⟩:=DC hbW HN HB;clear hbW hsW;generalize hB0:w.heap.size=B at HX HB KT ⊢;have HR1:=qh (BB (cs:=Ah 5 f me q x) HX.o 0 (by intro j v hv;rw[Nat.zero_add];exact hv));obtain⟨x1,x2⟩:=Jo HX.o 1 2;obtain⟨n0,n1,n74⟩:=iH HN.o 0 1 74;refine wp_region_quiet_below (by kernel_rfl) (by kernel_rfl) ?_;repeat(first
  | (with_reducible refine qR 0 HR1.o ?_;simp only[Act.put,List.setIfInBounds_toArray,List.set_cons_succ,List.set_cons_zero])
  | go_big_quiet_step (first
   | (go_at_call 72;with_reducible exact AL λW _=>KL.o W)))
 refine wpQuiet_nil ?_;intro w3 hw';have hb3:=AP hw';obtain⟨HN,HX,HB⟩:=Du hb3 HN HX HB;clear hw' hb3 x1 x2 n0 n1 n74 HR1;have x0:=Ag HX.o 0;go_upto_region 4 with(fail);clear x0;have HRX:=qh (λ(w':World) (h:Below w3.drew.heap.size w3.drew w')=>((HX.bel (AQ _ w3)).bel h).AY);obtain⟨HN,HX,HB⟩:=Du (AQ _ w3) HN HX HB;refine EQ [5] 6 (λhSn=>?_);generalize w3.drew=wd at HN HX HB HRX hSn ⊢;simp only[List.replicate];refine Dz 0 ?_;refine BG 3 [5] (λw hSw=>Ag (HN.bel hSw) 4) ?_;refine He 4 [5] (some 38) (.agg (Ah 5 f me q x).toArray) rfl (yieldsIf_load_mid (by rfl) 47 _ rfl B 0 rfl (Ah 5 f me q x) _ (λw hSw=>HRX.o w hSw) underlying47 rfl (by as_aux_lemma=>kernel_rfl)) hSn ?rg15;simp only[Act.put,zA,zB,zC];refine BH 5 rfl (λK hK=>?_);go_simp;refine Ac (KT.o _ (HB.bel hSn).below) ?_;rintro w5 h1;have H1:=qh h1;clear h1;refine BN hK ?_;clear hK;refine Dl ?_;clear hSn HN HX HB HRX KT KL;go_wp2_with fail;refine Ac (KS.o _ H1.o) ?_;rintro w6 h2;have H2:=qh h2;clear h2 H1;go_wp2_with fail;go_ret;exact⟨rfl,H2.o⟩
end
section
variable [In]
theorem PU(gc n me gl gi f t q cb:Nat)(p:Option Addr)(recs out:Value)(w:World)(h:Holds w gc 163 (Az n me gl gi (.slice p 0 cb) recs out)) :Calls prog 144 #[.pointer (some ⟨gc,0,none⟩),.agg (Ah 2 f t q Cm.zero).toArray] w λe w'=>e=.returned (.tuple #[])∧Below w.heap.size w w':=by have KF:=qh (λW (h:Holds W gc 163 (Az n me gl gi (.slice p 0 cb) recs out))=>ML gc n me gl gi p cb recs out q In.sl W h);have HC:=qh h;have HB:=qh (Base.start w);clear h;go_in;go_upto_region 1 with(fail);go_name_world W hW;obtain⟨HX,hbW,hsW⟩:=Ff 47 (Ah 2 f t q Cm.zero) hW;clear hW;obtain⟨HC,HB⟩:=DC hbW HC HB;clear hbW hsW;generalize hB0:w.heap.size=gX at HX HB ⊢;obtain⟨x3,x4⟩:=CU HX.o 3 4;go_wp2_with fail;refine Ac (KF.o _ HC.o) ?_;rintro w3 hb3;have HB:=ET hb3 HB;clear hb3 x3 x4 HC HX;go_upto_region 2 with(fail);go_quiet (fail);have HB:=qh (HB.bel (BV _ _ nq));go_wp2_with fail;exact bQ ⟨rfl,hB0▸HB.below⟩
end
section
variable [In] [Bs]
def Ef(w:World)(F:Af):Af:=λk=>F k∧((∃t L,Holds w k t L∧t∈GV)∨Gv w k)
theorem Ef.f{w:World}{F:Af}{k:Nat}(h:Ef w F k):F k:=h.1
theorem Ef.of{w:World}{F:Af}{k:Nat}{t:TypeId}{L:List Value}(hf:F k)(h:Holds w k t L)(ht:t∈GV):Ef w F k:=⟨hf,.inl ⟨t,L,h,ht⟩⟩
theorem Ef.map{w:World}{F:Af}{k:Nat}(hf:F k)(h:Gv w k):Ef w F k:=⟨hf,.inr h⟩
theorem EO.more{w w':World}{F:Af}{leads:Value}(h:EO w F leads):EO w (grow F w w') leads:=h.foot λk hk _=>.inl hk
theorem TL{w:World}{F:Af}{v:Value}{ob:Option Nat}{e:TypeId}{s n:Nat}{xs:List Value}(h:AO w v ob e s n xs)(hf:∀g,ob=some g→F g)(he:e∈GV):∀k,ob=some k→Ef w F k:=λk hk=>by
 rcases h.cases with⟨_,h0,_⟩|⟨g1,_,_,_,h0,_,_,hh,_⟩
 ·rw[h0] at hk;cases hk
 ·rw[h0] at hk;cases hk;exact .of (hf _ h0) hh he
section
variable {w:World} {F:Af} {gc n me q f:Nat} {c:Cm}
theorem EO.kS{w':World}{leads:Value}{gm gx:Nat}(h:EO w F leads)(hm:Mv (λk=>k=gc∨k=gm∨k=gx) w w'){L:List Value}(h1:Holds w gc 163 L)(h2:Gv w gm)(h3:Gv w gx):EO w' F leads:=
 h.away (T:=[158]) hm (λk hk _=>by
  rcases hk with rfl|rfl|rfl
  ·exact Eh h1 (by decide)
  ·exact .inr h2
  ·exact .inr h3) (by decide)
theorem JE{ph:Ph}(hB:EN n q c){x:Nat}(h:x≤2*Bs.nb+bnd ph):x≤1000:=by have:=hB.nb;have:=UK ph;omega
theorem YG(hB:EN n q c)(h:Ba w F gc n me q c .fresh (.slice none 0 0) (.slice none 0 0))(hf:f<n)(hme:me<n)(hne:f≠me) :Calls prog 75 #[.pointer (some ⟨gc,0,none⟩),.agg (Ah 1 f me q c).toArray] w λe w'=>e=.returned (.bool false) ∧∃recs cout,Ba w' (grow F w w') gc n me q c .pre recs cout∧IR w' w.heap.size 1 recs∧Dv w' (grow F w w') cout 1 (λ_=>Ah 2 me f q Cm.zero)∧Mv (Ef w F) w w':=by
 obtain⟨⟨gl,gm,nl,gi,gx,ni,L,E,leads,a1,a2,a3,⟨b1,b2,b3,b4⟩,rfl,rfl,d1⟩,hfc⟩:=h;have hn:=hB.n7;have hq:=hB.hq;have d1':=d1;obtain⟨p0,c0,ob0,rfl,d2,d3⟩:=d1';have hL:=JE hB a2;have hI:=JE hB a3;refine Ac (YJ gc n me gl gi f q c _ _ _ (λW w'=>LY Bs.L Bs.E p0 c0 gc n me gl gm nl gi gx ni f q c W w') w a1.hc hf hq (U4 f me q c hB.hc.right (by omega) (by omega) (by omega) hne) (λW hb=>GL gl gm nl _ q In.sl W (a1.lg.bel hb) (ER q (by omega))) (λW hb=>Vy gc n me gl gm nl gi gx ni f me q c Bs.L Bs.E p0 c0 W hB.no hB.at_ (a1.bel hb) hL hI (by omega) hB.hc)) ?_;rintro w' ⟨w1,hb,gr,cr,m,rv,out,rest,ob,c1,c2,c3,c4,c5,c6,c7,c8⟩;have hs:=hb.size;have hs2:=c8.size;have hho:EO w' F (.slice p0 0 c0):=(d1.away (T:=[158]) (.of_below (F:=λ_=>False) hb) (λk hk=>hk.elim) (by decide)).kS c8 (a1.hc.bel hb) ((a1.bel hb).lg.isMap) ((a1.bel hb).ix.isMap);refine⟨rfl,_,out,⟨⟨gl,gm,nl+1,gi,gx,ni+1,_,_,_,c1,by simp[bnd] at a2 ⊢;omega,by simp[bnd] at a3 ⊢;omega,⟨.inl b1,.inl b2,.inl b3,.inl b4⟩,rfl,rfl,hho.foot λk hk _=>.inl hk⟩,.inl hfc⟩,.inr ⟨rfl,gr,cr,m,rv,rest,rfl,c2,Aj.mono c3 hs,c4,by omega⟩,⟨λh=>(by cases h),ob,by rw[Ho (s:=51) (V:=λ_=>Ah 2 me f q Cm.zero) rfl];exact c6,λg hg=>.inr ⟨by have:=c7 g hg;omega,c6.lt g hg⟩⟩,(Mv.of_below hb).mv c8 ?_⟩;rintro k (rfl|rfl|rfl)
 ·exact .inl (.of hfc a1.hc (by decide))
 ·exact .inl (.map b2 a1.lg.isMap)
 ·exact .inl (.map b4 a1.ix.isMap)
theorem PX(hB:EN n q c)(h:Ba w F gc n me q c .pre (.slice none 0 0) (.slice none 0 0))(hf:f<n)(hme:me<n)(hne:f≠me) :Calls prog 75 #[.pointer (some ⟨gc,0,none⟩),.agg (Ah 1 f me q c).toArray] w λe w'=>e=.returned (.bool false) ∧∃cout,Ba w' (grow F w w') gc n me q c .pre (.slice none 0 0) cout∧Dv w' (grow F w w') cout 1 (λ_=>Ah 2 me f q Cm.zero)∧Mv (Ef w F) w w':=by obtain⟨⟨gl,gm,nl,gi,gx,ni,L,E,leads,a1,a2,a3,⟨b1,b2,b3,b4⟩,rfl,rfl,d1⟩,hfc⟩:=h;have hn:=hB.n7;have hq:=hB.hq;have d1':=d1;obtain⟨p0,c0,ob0,rfl,d2,d3⟩:=d1';refine Ac (YJ gc n me gl gi f q c _ _ _ (λW w'=>OD gc n me gl gi f q (.slice p0 0 c0) W w') w a1.hc hf hq (U4 f me q c hB.hc.right (by omega) (by omega) (by omega) hne) (λW hb=>GL gl gm nl _ q In.sl W (a1.lg.bel hb) (ER q (by omega))) (λW hb=>Vz gc n me gl gm nl gi gx ni f me q c _ _ p0 c0 W (Gp _ _) (a1.bel hb) (by omega))) ?_;rintro w' ⟨w1,hb,out,ob,c1,c2,c3,c8⟩;have hs:=hb.size;have hs2:=c8.size;have hne':=a1.ne;have hho:EO w' F (.slice p0 0 c0):=(d1.away (T:=[158]) (.of_below (F:=λ_=>False) hb) (λk hk=>hk.elim) (by decide)).away (T:=[158]) c8 (λk hk _=>hk▸Eh (a1.hc.bel hb) (by decide)) (by decide);refine⟨rfl,out,⟨⟨gl,gm,nl,gi,gx,ni,_,_,_,(a1.bel hb).LJ c8 c1 (by omega) (by omega) (by omega) (by omega),a2,a3,⟨.inl b1,.inl b2,.inl b3,.inl b4⟩,rfl,rfl,hho.foot λk hk _=>.inl hk⟩,.inl hfc⟩,⟨λh=>(by cases h),ob,by rw[Ho (s:=51) (V:=λ_=>Ah 2 me f q Cm.zero) rfl];exact c2,λg hg=>.inr ⟨by have:=c3 g hg;omega,c2.lt g hg⟩⟩,(Mv.of_below hb).mv c8 ?_⟩;rintro k rfl;exact .inl (.of hfc a1.hc (by decide))
theorem WI(hB:EN n q c)(h:Ba w F gc n me q c .pre (.slice none 0 0) (.slice none 0 0))(hf:f<n)(hme:me<n)(hne:f≠me) :Calls prog 75 #[.pointer (some ⟨gc,0,none⟩),.agg (Ah 5 f me q c).toArray] w λe w'=>e=.returned (.bool false) ∧∃recs cout,Ba w' (grow F w w') gc n me q c .com recs cout∧IR w' w.heap.size 1 recs∧Dv w' (grow F w w') cout 0 (λ_=>[])∧Mv (Ef w F) w w':=by
 obtain⟨⟨gl,gm,nl,gi,gx,ni,L,E,leads,a1,a2,a3,⟨b1,b2,b3,b4⟩,rfl,rfl,d1⟩,hfc⟩:=h;have hn:=hB.n7;have hq:=hB.hq;have d1':=d1;obtain⟨p0,c0,ob0,rfl,d2,d3⟩:=d1';have hL:=JE hB a2;have hI:=JE hB a3;refine Ac (YK gc n me gl gi f q c _ _ _ (λW w'=>Nk gc n me gl gm nl gi gx ni (CO Bs.L (e1 q c)) (Gf Bs.E (en q c)) (.slice p0 0 c0) (.slice none 0 0) q 3 c false W w') w a1.hc hf hq (U5 f me q c hB.hc.right (by omega) (by omega) (by omega) hne) (λW hb=>GL gl gm nl _ q In.sl W (a1.lg.bel hb) (ER q (by omega))) (λW hb=>ZO gc n me gl gm nl gi gx ni f me q c _ _ p0 c0 W (a1.bel hb) (Gp _ _) hL hI (by omega) hB.hc)) ?_;rintro w' ⟨w1,hb,gr,cr,m,rv,rest,c1,c2,c3,c4,c5,c8⟩;have hs:=hb.size;have hs2:=c8.size;have hho:EO w' F (.slice p0 0 c0):=(d1.away (T:=[158]) (.of_below (F:=λ_=>False) hb) (λk hk=>hk.elim) (by decide)).kS c8 (a1.hc.bel hb) ((a1.bel hb).lg.isMap) ((a1.bel hb).ix.isMap);refine⟨rfl,_,.slice none 0 0,⟨⟨gl,gm,nl+1,gi,gx,ni+1,_,_,_,c1,by simp[bnd] at a2 ⊢;omega,by simp[bnd] at a3 ⊢;omega,⟨.inl b1,.inl b2,.inl b3,.inl b4⟩,rfl,rfl,hho.foot λk hk _=>.inl hk⟩,.inl hfc⟩,.inr ⟨rfl,gr,cr,m,rv,rest,rfl,c2,Aj.mono c3 hs,c4,by omega⟩,⟨λ_=>rfl,none,AO.nil _ _ _,by simp⟩,(Mv.of_below hb).mv c8 ?_⟩;rintro k (rfl|rfl|rfl)
 ·exact .inl (.of hfc a1.hc (by decide))
 ·exact .inl (.map b2 a1.lg.isMap)
 ·exact .inl (.map b4 a1.ix.isMap)
theorem bZ(A:List Nat)(f:Nat):ND (GG A) f=GG (f :: A):=by
 funext r
 unfold ND GG;by_cases h:r=f<;>simp[h]
theorem Ro(hB:EN n q c){A:List Nat}{tk:Nat}(h:Ba w F gc n me q c (.lead A tk) (.slice none 0 0) (.slice none 0 0))(hf:f<n)(hme:me<n)(hne:f≠me)(hA:f∉A)(hl:A.length≤5) :Calls prog 75 #[.pointer (some ⟨gc,0,none⟩),.agg (Ah 2 f me q Cm.zero).toArray] w λe w'=>e=.returned (.bool false)∧Mv (Ef w F) w w' ∧((A.length+3<n∧Ba w' (grow F w w') gc n me q c (.lead (f :: A) tk) (.slice none 0 0) (.slice none 0 0)) ∨(n≤A.length+3∧∃recs cout,Ba w' (grow F w w') gc n me q c .com recs cout∧IR w' w.heap.size 1 recs∧Dv w' (grow F w w') cout (n-1) (O1 5 me q c))):=by
 obtain⟨⟨gl,gm,nl,gi,gx,ni,L,E,leads,a1,a2,a3,⟨b1,b2,b3,b4⟩,hqm,⟨hL0,hE0⟩,gb,cb,gld,rest,R,ob,rfl,⟨d21,d22,d23⟩,d3,d4,d5,d6,d7,d8⟩,hfc⟩:=h;have hn:=hB.n7;have hq:=hB.hq;have d2:1≤cb∧cb≤maxLen:=⟨d21,d22⟩;have n0:=JE hB a2;have n1:=JE hB a3;have hmem:(⟨q,In.sl,cellL 1 c true⟩:Ad)∈L:=hL0▸Gp _ _;have HL:Eu w gc n me gl gm nl gi gx ni q c L E gb cb gld rest (GG A) R ob A.length tk:=⟨a1,d3,d4,d5,d2⟩;have hgb:gb≠gc∧gb≠gl∧gb≠gm∧gb≠gi∧gb≠gx:=⟨d3.ne_of a1.hc (by decide),d3.ne_of a1.lg.ix (by decide),Bv a1.lg.isMap d3,d3.ne_of a1.ix.ix (by decide),Bv a1.ix.isMap d3⟩;have K:=λ(Post:World→Value→Option Nat→World→Prop) KW=>UR gc n me gl gi f q Cm.zero (.slice (some ⟨gb,0,none⟩) 1 cb) (.slice none 0 0) (.slice none 0 0) (λW w'=>∃w1 R' ob',Eu w1 gc n me gl gm nl gi gx ni q c L E gb cb gld rest (ND (GG A) f) R' ob' (A.length+1) tk∧(ob'=ob∨∃k,ob'=some k∧W.heap.size≤k)∧Mv (λk=>k=gld∨ob=some k) W w1∧Post w1 R' ob' w') w a1.hc hf hq (Q9 f me q (by omega) (by omega) (by omega) hne) (λW hb=>GL gl gm nl _ q In.sl W (a1.lg.bel hb) (ER q (by omega)))
  (λW hb=>UI gc n me gl gm nl gi gx ni gb gld cb q f me A.length c L E rest (GG A) R ob tk Post W (HL.bel hb) (by omega) (by simp[GG,hA]) (by omega) KW)
 have hG:∀k,(k=gld∨ob=some k)→Ef w F k:=by
  rintro k (rfl|hk)
  ·exact .of d7 d4 (by decide)
  ·exact TL d5 d8 (by decide) k hk
 by_cases hlt:A.length+3<n
 ·refine(K (λW _ _ W'=>Below W.heap.size W W') (λR' ob' W HW=>?_)).mono ?_
  ·obtain⟨p,cap,rfl,hcap,hcm,hnil,hrows⟩:=HW.hr.rows (V:=λ_=>EW) (λ_ _=>rfl) (by decide);refine Ac (VB gc n me gl gi gld (A.length+1) cap _ _ _ q c (ND (GG A) f) p tk W HW.co.hc HW.hl hrows hcap hnil hn.1 hn.2 (by omega)) ?_;rintro w' hb;exact⟨⟨_,rfl⟩,hb⟩
  ·rintro e w' ⟨rfl,w1,hb1,w2,R',ob',HW,hob',hm,hb⟩;have HW:=HW.bel hb;have hs1:=hb1.size;have hs2:=hm.size;have hs3:=hb.size;refine⟨rfl,((Mv.of_below hb1).mv hm (λk hk=>.inl (hG k hk))).bel hb,.inl ⟨hlt,⟨⟨gl,gm,nl,gi,gx,ni,_,E,_,HW.co,a2,a3,⟨.inl b1,.inl b2,.inl b3,.inl b4⟩,hqm,⟨hL0,hE0⟩,gb,cb,gld,rest,R',ob',rfl,⟨d21,d22,d23⟩,HW.hb,?_,HW.hr,.inl d6,.inl d7,?_⟩,.inl hfc⟩⟩⟩
   ·have:=HW.hl;rw[bZ] at this;exact this
   ·intro k hk;rcases hob' with h|⟨k2,h,h2⟩
    ·exact .inl (d8 k (h▸hk))
    ·rw[h] at hk;cases hk;exact .inr ⟨by omega,HW.hr.lt _ h⟩
 ·refine(K (λW _ _ W'=>IP gc n me gl gm nl gi gx ni gb cb (rest.length+1) L E q c W W') (λR' ob' W HW=>?_)).mono ?_
  ·obtain⟨p,cap,rfl,hcap,hcm,hnil,hrows⟩:=HW.hr.rows (V:=λ_=>EW) (λ_ _=>rfl) (by decide);refine Ac (Xb gc n me gl gm nl gi gx ni gb gld cb q (A.length+1) cap rest c (ND (GG A) f) p tk L E W hmem HW.co HW.hb HW.hl d2 hgb n0 n1 hn.2 hme (by omega) hB.hc hrows hcap hnil hn.1 (by omega) (by omega)) ?_;rintro w' hb;exact⟨⟨_,rfl⟩,hb⟩
  ·rintro e w' ⟨rfl,w1,hb1,w2,R',ob',HW,hob',hm,gr,cr,m,rv,out,rest2,ob2,c1,⟨KK,ck1,ck2⟩,c2,c3,c4,c5,c6,c7,c8⟩;have hs1:=hb1.size;have hs2:=hm.size;have hs3:=c8.size;have hkl:KK.length=cb:=ck2.trans d23.out;have hho:EO w' (grow F w w') (.slice (some ⟨gb,0,none⟩) 0 cb):=⟨_,_,some gb,rfl,AO.mk' (rest:=KK) (by rw[List.nil_append];exact ck1) (by simp) (by simp[hkl]) (Nat.zero_le _) d22,λg hg=>by cases hg;exact .inl d6⟩;refine⟨rfl,((Mv.of_below hb1).mv hm (λk hk=>.inl (hG k hk))).mv c8 ?_,.inr ⟨by omega,_,out,⟨⟨gl,gm,nl+1,gi,gx,ni+1,_,_,_,c1,by simp[bnd] at a2 ⊢;omega,by simp[bnd] at a3 ⊢;omega,⟨.inl b1,.inl b2,.inl b3,.inl b4⟩,by rw[hL0];rfl,by rw[hE0];rfl,hho⟩,.inl hfc⟩,.inr ⟨rfl,gr,cr,m,rv,rest2,rfl,c2,Aj.mono c3 (by omega),c4,by omega⟩,⟨λh=>(by omega),ob2,c6,λg hg=>.inr ⟨by have:=c7 g hg;omega,c6.lt g hg⟩⟩⟩⟩;rintro k (rfl|rfl|rfl|rfl)
   ·exact .inl (.of hfc a1.hc (by decide))
   ·exact .inl (.map b2 a1.lg.isMap)
   ·exact .inl (.map b4 a1.ix.isMap)
   ·exact .inl (.of d6 d3 (by decide))
theorem PW(hB:EN n q c){A:List Nat}{tk:Nat}(h:Ba w F gc n me q c (.lead A tk) (.slice none 0 0) (.slice none 0 0))(hf:f<n)(hme:me<n)(hne:f≠me)(hA:f∈A) :Calls prog 75 #[.pointer (some ⟨gc,0,none⟩),.agg (Ah 2 f me q Cm.zero).toArray] w λe w'=>e=.returned (.bool false)∧Below w.heap.size w w':=by obtain⟨⟨gl,gm,nl,gi,gx,ni,L,E,leads,a1,a2,a3,⟨b1,b2,b3,b4⟩,hqm,⟨hL0,hE0⟩,gb,cb,gld,rest,R,ob,rfl,⟨d21,d22,d23⟩,d3,d4,d5,d6,d7,d8⟩,hfc⟩:=h;have hn:=hB.n7;have hq:=hB.hq;have HL:Eu w gc n me gl gm nl gi gx ni q c L E gb cb gld rest (GG A) R ob A.length tk:=⟨a1,d3,d4,d5,⟨d21,d22⟩⟩;refine Ac (UR gc n me gl gi f q Cm.zero _ _ _ (λW w'=>Below W.heap.size W w') w a1.hc hf hq (Q9 f me q (by omega) (by omega) (by omega) hne) (λW hb=>GL gl gm nl _ q In.sl W (a1.lg.bel hb) (ER q (by omega))) (λW hb=>OI gc n me gl gm nl gi gx ni gb gld cb q f me A.length c L E rest (GG A) R ob tk W (HL.bel hb) (by omega) (by simp[GG,hA]))) ?_;rintro w' ⟨w1,hb,hb2⟩;exact⟨rfl,hb.trans (hb2.mono hb.size)⟩
theorem WH(hB:EN n q c)(h:Ba w F gc n me q c .com (.slice none 0 0) (.slice none 0 0))(hf:f<n)(hme:me<n)(hne:f≠me) :Calls prog 75 #[.pointer (some ⟨gc,0,none⟩),.agg (Ah 2 f me q Cm.zero).toArray] w λe w'=>e=.returned (.bool false)∧Below w.heap.size w w':=by obtain⟨⟨gl,gm,nl,gi,gx,ni,L,E,leads,a1,a2,a3,b,rfl,rfl,p,cb,ob,rfl,_⟩,hfc⟩:=h;have hn:=hB.n7;have hq:=hB.hq;refine Ac (UR gc n me gl gi f q Cm.zero _ _ _ (λW w'=>Below W.heap.size W w') w a1.hc hf hq (Q9 f me q (by omega) (by omega) (by omega) hne) (λW hb=>GL gl gm nl _ q In.sl W (a1.lg.bel hb) (ER q (by omega))) (λW hb=>PU gc n me gl gi f me q cb p _ _ W (a1.hc.bel hb))) ?_;rintro w' ⟨w1,hb,hb2⟩;exact⟨rfl,hb.trans (hb2.mono hb.size)⟩
theorem OQ(hB:EN n q c)(h:Ba w F gc n me q c .com (.slice none 0 0) (.slice none 0 0))(hf:f<n)(hme:me<n)(hne:f≠me) :Calls prog 75 #[.pointer (some ⟨gc,0,none⟩),.agg (Ah 5 f me q c).toArray] w λe w'=>e=.returned (.bool false)∧Below w.heap.size w w':=by obtain⟨⟨gl,gm,nl,gi,gx,ni,L,E,leads,a1,a2,a3,b,hL0,hE0,d1⟩,hfc⟩:=h;have hn:=hB.n7;have hq:=hB.hq;refine Ac (YK gc n me gl gi f q c _ _ _ (λW w'=>Below W.heap.size W w') w a1.hc hf hq (U5 f me q c hB.hc.right (by omega) (by omega) (by omega) hne) (λW hb=>GL gl gm nl _ q In.sl W (a1.lg.bel hb) (ER q (by omega))) (λW hb=>U9 gc n me gl gm nl gi gx ni f me q c L E leads _ _ W (a1.bel hb) (hL0▸Gp _ _) (by omega))) ?_;rintro w' ⟨w1,hb,hb2⟩;exact⟨rfl,hb.trans (hb2.mono hb.size)⟩
end
end
end Go.Proofs.YtimdpiifpibgfaaGreatDoor
