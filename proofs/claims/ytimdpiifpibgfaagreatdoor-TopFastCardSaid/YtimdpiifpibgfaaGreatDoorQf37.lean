/- For every input the law TopFast returns true (a part of the proof). Condition: the listed variables start as the program's text lays them. -/
import Derived.Test.YtimdpiifpibgfaaGreatDoorQf36
set_option linter.unusedVariables false
set_option linter.unusedSimpArgs false
set_option maxRecDepth 20000
set_option maxHeartbeats 16000000
namespace Go.Proofs.YtimdpiifpibgfaaGreatDoor
section
open Go.RowKit Go.Maps
theorem NodeG.step {w W W':World} {F:Foot} {g n me q:Nat} {c:Cm} {ph:Ph} {recs cout:Value} {dn wt:Bool} {m:Nat} {V:Nat→List Value} {an:Bool} {tk:Int} {lim:Nat} (h:NodeG W' (grow (grow F w W) W W') g n me q c ph recs cout dn wt m V an tk lim) (h1:w.heap.size≤W.heap.size) (h2:W.heap.size≤W'.heap.size) :
  NodeG W' (grow F w W') g n me q c ph recs cout dn wt m V an tk lim:=h.foot fun k hk _=>grow_step h1 h2 hk
theorem Mv.step {w W W':World} {F:Foot} (h:Mv F w W) (h2:Mv (grow F w W) W W'):Mv F w W':=h.part h2 fun k hk=>hk
theorem run_ok (w:World) (F:Foot) (g n me q:Nat) (c:Cm) (ph:Ph) (dn wt:Bool) (tk:Int) (lim m:Nat) (V:Nat→List Value)
  (h:NodeG w F g n me q c ph (.slice none 0 0) (.slice none 0 0) dn wt m V false tk lim) (hdn:dn=true→ph=.com) (hq:q<7) (hcc:CmOk c) (h1:c.c=1) (h2:c.s=1) :
  Calls Tryz.prog 91 #[.pointer (some ⟨g,0,none⟩)] w fun e w'=>e=.returned (.tuple #[])∧NodeG w' (grow F w w') g n me q c ph (.slice none 0 0) (.slice none 0 0) (isCom ph) wt m V false tk lim∧Mv F w w':=by
 obtain⟨gd,gfl,gby,mb,gw,gc,gfr,kept,P,sq,v,d,since,waits,out,ans,h⟩:=h
 have h':=h
 obtain⟨nd,dk,lm,wl,⟨⟨gl,gm,nl,gi,gx,ni,L,E,leads,a1,a2,a3,a4,a5⟩,hf⟩,fr,st,wa,ou,an',f1,f2,f3,f4,f5,f6⟩:=h'
 have hnone:(dn=isCom ph)→(∀ r,r<7→d r=0∨d r=1)→(∀ W,Below w.heap.size w W→Calls Tryz.prog 164 #[.pointer (some ⟨g,0,none⟩)] W fun e w'=>e=.returned (.slice none 0 0)∧Below W.heap.size W w') →
   Calls Tryz.prog 91 #[.pointer (some ⟨g,0,none⟩)] w fun e w'=>e=.returned (.tuple #[])∧NodeG w' (grow F w w') g n me q c ph (.slice none 0 0) (.slice none 0 0) (isCom ph) wt m V false tk lim∧Mv F w w':=by
  intro hd hd7 KC
  refine (run_none g n me gd gw gc gfr P sq v d since tk waits out ans w nd hd7 KC).mono ?_
  rintro e w' ⟨rfl,hb⟩
  subst hd
  exact⟨rfl,⟨gd,gfl,gby,mb,gw,gc,gfr,kept,P,sq,v,d,since,waits,out,ans,(h.bel hb).foot fun k hk _=>.inl hk⟩,Mv.of_below hb⟩
 have one:∀ (st:Int) (sm:Bool),L=[⟨q,1,cellL st c sm⟩]→(d q=0∧st=1)∨d q=1→∀ W,Below w.heap.size w W→Calls Tryz.prog 164 #[.pointer (some ⟨g,0,none⟩)] W fun e w'=>e=.returned (.slice none 0 0)∧Below W.heap.size W w':=by
  rintro st sm rfl hst W hb
  refine (committed_one g n me gd gw gc gl gm nl gi gx ni gfr q st c sm false E leads _ _ P sq v d since tk waits out ans W (nd.bel hb) (a1.bel hb) hq (by rcases hst with h|h;exact .inr (.inl ⟨rfl,h⟩);exact .inr (.inr ⟨rfl,h⟩))).mono ?_
  rintro e w' ⟨R,ob,rfl,hR,_,hb'⟩
  rw [hR rfl]
  exact⟨rfl,hb'⟩
 cases dn with
 | true=>
  obtain rfl:=hdn rfl
  obtain⟨⟨ob,s1,s2⟩,s3,s4,s5,s6⟩:=st
  refine hnone rfl (fun r _=>?_) (one 3 false a5.1 (.inr ?_))
  ·rw [s5]
   by_cases hr:r=q<;>simp [oneD,hr]
  ·rw [s5]
   simp [oneD]
 | false=>
  obtain⟨s1,s2,s3,s4,s5⟩:=st
  have hd7:∀ r,r<7→d r=0∨d r=1:=fun r _=>by rw [s4];exact .inl rfl
  cases ph with
  | fresh=>
   refine hnone rfl hd7 fun W hb=>?_
   obtain⟨rfl,_,_⟩:=a5
   exact committed_none g n me gd gw gc gl gm nl gi gx ni gfr E leads _ _ P sq v d since tk waits out ans W (nd.bel hb) (a1.bel hb)
  | lead A tk'=>exact hnone rfl hd7 (one 1 true a5.2.1 (.inl ⟨by rw [s4],rfl⟩))
  | pre=>exact hnone rfl hd7 (one 1 true a5.1 (.inl ⟨by rw [s4],rfl⟩))
  | com=>
   subst s1 s2 s3 s4 s5
   obtain⟨rfl,_⟩:=a5
   refine (run_one g n me gd gw gc gfr q c hcc h1 h2 tk waits out ans w nd hq fun W hb=>?_).mono ?_
   ·refine (committed_one g n me gd gw gc gl gm nl gi gx ni gfr q 3 c false true E leads _ _ _ 0 0 (fun _=>0) 0 tk waits out ans W (nd.bel hb) (a1.bel hb) hq (.inl ⟨rfl,rfl,rfl,rfl⟩)).mono ?_
    rintro e w' ⟨R,ob,rfl,_,hR,hb'⟩
    obtain⟨gk,ck,rest,rfl,_,_,_,hk,_⟩:=(hR rfl).blk (by decide)
    exact⟨gk,ck,rest,rfl,hk,hb'⟩
   ·rintro e w' ⟨rfl,P',ob,hn,hp,hob,hm⟩
    have hF:∀ k,F k→k<w.heap.size→grow F w w' k:=fun k hk _=>.inl hk
    exact⟨rfl,⟨gd,gfl,gby,mb,gw,gc,gfr,kept,P',1,verOf c,oneD q,1,waits,out,ans,(h.foot hF).touchG hm hn ⟨⟨ob,hp,fun k hk=>.inr ⟨hob k hk,OwnS.lt hp k hk⟩⟩,rfl,rfl,rfl,rfl⟩ ((h.foot hF).wa.touchG nd hm) ((h.foot hF).ou.touchG nd hm) ((h.foot hF).an.touchG nd hm)⟩,hm.more fun k hk=>hk▸f1⟩
theorem answer_ok (w:World) (F:Foot) (g n me q:Nat) (c:Cm) (ph:Ph) (wt:Bool) (tk:Int) (lim m:Nat) (V:Nat→List Value)
  (h:NodeG w F g n me q c ph (.slice none 0 0) (.slice none 0 0) (isCom ph) wt m V false tk lim) :
  Calls Tryz.prog 92 #[.pointer (some ⟨g,0,none⟩)] w fun e w'=>e=.returned (.tuple #[])∧NodeG w' (grow F w w') g n me q c ph (.slice none 0 0) (.slice none 0 0) (isCom ph) (wt&&!isCom ph) m V (wt&&isCom ph) tk lim∧Mv F w w':=by
 obtain⟨gd,gfl,gby,mb,gw,gc,gfr,kept,P,sq,v,d,since,waits,out,ans,h⟩:=h
 have nd:=h.nd
 have wa:=h.wa
 have st:=h.st
 have an:=h.an
 obtain rfl:ans=.slice none 0 0:=an
 have hF:∀ w' k,F k→k<w.heap.size→grow F w w' k:=fun w' k hk _=>.inl hk
 cases wt with
 | false=>
  obtain rfl:waits=.slice none 0 0:=wa
  refine (answer_none g n me gd gw gc gfr P sq v d since tk out (.slice none 0 0) w nd).mono ?_
  rintro e w' ⟨rfl,hn,ht⟩
  have hm:Mv (fun k=>k=g) w w':=Mv.of_touch ht rfl
  exact⟨rfl,⟨gd,gfl,gby,mb,gw,gc,gfr,kept,P,sq,v,d,since,_,out,_,(h.foot (hF w')).touchG hm hn ((h.foot (hF w')).st.touchG nd hm) rfl ((h.foot (hF w')).ou.touchG nd hm) rfl⟩,hm.more fun k hk=>hk▸h.f.1⟩
 | true=>
  obtain⟨ob0,w1,w2⟩:=wa
  cases hc:isCom ph with
  | false=>
   rw [hc] at h st
   obtain⟨s1,s2,s3,s4,s5⟩:=st
   subst s2
   refine (answer_left g n me gd gw gc gfr P v d since tk waits out (.slice none 0 0) ob0 w nd w1).mono ?_
   rintro e w' ⟨rfl,W1,ob1,hn,ho,hob,ht⟩
   have hm:Mv (fun k=>k=g) w w':=Mv.of_touch ht rfl
   exact⟨rfl,⟨gd,gfl,gby,mb,gw,gc,gfr,kept,P,0,v,d,since,W1,out,_,(h.foot (hF w')).touchG hm hn ((h.foot (hF w')).st.touchG nd hm) ⟨ob1,ho,fun k hk=>.inr ⟨hob k hk,ho.lt k hk⟩⟩ ((h.foot (hF w')).ou.touchG nd hm) rfl⟩,hm.more fun k hk=>hk▸h.f.1⟩
  | true=>
   rw [hc] at h st
   obtain⟨s1,s2,s3,s4,s5⟩:=st
   subst s2 s3
   refine (answer_done g n me gd gw gc gfr P (verOf c) d since tk waits out ob0 w nd w1).mono ?_
   rintro e w' ⟨rfl,A1,ob1,hn,ho,hob,ht⟩
   have hm:Mv (fun k=>k=g) w w':=Mv.of_touch ht rfl
   exact⟨rfl,⟨gd,gfl,gby,mb,gw,gc,gfr,kept,P,1,verOf c,d,since,_,out,A1,(h.foot (hF w')).touchG hm hn ((h.foot (hF w')).st.touchG nd hm) rfl ((h.foot (hF w')).ou.touchG nd hm) ⟨ob1,ho,fun k hk=>.inr ⟨hob k hk,ho.lt k hk⟩⟩⟩,hm.more fun k hk=>hk▸h.f.1⟩
def Settled (F:Foot) (g n me q:Nat) (c:Cm) (ph:Ph) (wt:Bool) (m:Nat) (V:Nat→List Value) (tk:Int) (lim:Nat) (w w':World):Prop:=NodeG w' (grow F w w') g n me q c ph (.slice none 0 0) (.slice none 0 0) (isCom ph) (wt&&!isCom ph) m V (wt&&isCom ph) tk lim∧Mv F w w'
theorem settle_ok (w:World) (F:Foot) (B g n me q:Nat) (c:Cm) (ph:Ph) (recs cout:Value) (dn wt:Bool) (tk:Int) (lim r m:Nat) (V V0:Nat→List Value)
  (h:NodeG w F g n me q c ph recs cout dn wt 0 V0 false tk lim) (hr:RecS w B r recs) (ho:LetS w F cout m V) (hr0:r=0→m=0) (hm:m≤100) (hV:∀ u∈flat 51 m V,u.oneCell'=true)
  (hFB:∀ k,B≤k→k<w.heap.size→F k) (hlim:lim≤2000) (hdn:dn=true→ph=.com) (hq:q<7) (hme:me<n) (hcc:CmOk c) (h1:c.c=1) (h2:c.s=1) :
  Calls Tryz.prog 53 #[.pointer (some ⟨g,0,none⟩)] w fun e w'=>e=.returned (.tuple #[])∧Settled F g n me q c ph wt m V tk (lim+500*r) w w':=by
 have hbad:w.cell? ⟨g,74,none⟩=some (.bool false):=by
  obtain⟨gd,gfl,gby,mb,gw,gc,gfr,kept,P,sq,v,d,since,waits,out,ans,h⟩:=h
  exact h.nd.cell 74
 refine settle_of g w (Drained F g n me q c ph dn wt m V tk (lim+500*r) w) (fun W=>NodeG W (grow F w W) g n me q c ph (.slice none 0 0) (.slice none 0 0) (isCom ph) wt m V false tk (lim+500*r)∧Mv F w W) (Settled F g n me q c ph wt m V tk (lim+500*r) w) (Settled F g n me q c ph wt m V tk (lim+500*r) w) hbad
  (drain_ok w F B g n me q c ph recs cout dn wt tk lim r m V V0 h hr ho hr0 hm hV hFB hlim) (fun W hW=>?_) (fun W hW=>?_) (fun W hW=>?_) (fun W W' hW hb=>?_) (fun W hW=>?_)
 ·refine (run_ok W (grow F w W) g n me q c ph dn wt tk _ m V hW.1 hdn hq hcc h1 h2).mono ?_
  rintro e w' ⟨rfl,hn,hm'⟩
  exact⟨rfl,hn.step hW.2.size hm'.size,hW.2.step hm'⟩
 ·refine (answer_ok W (grow F w W) g n me q c ph wt tk _ m V hW.1).mono ?_
  rintro e w' ⟨rfl,hn,hm'⟩
  exact⟨rfl,hn.step hW.2.size hm'.size,hW.2.step hm'⟩
 ·obtain⟨⟨gd,gfl,gby,mb,gw,gc,gfr,kept,P,sq,v,d,since,waits,out,ans,h⟩,_⟩:=hW
  have hs:=h.nd.cell 69
  have st:=h.st
  cases hc:isCom ph with
  | false=>rw [hc] at st;rw [st.2.2.2.2] at hs;exact .inl hs
  | true=>rw [hc] at st;rw [st.2.2.2.2] at hs;exact .inr hs
 ·exact⟨(hW.1.bel hb).foot fun k hk hl=>hk.imp id fun ⟨a,b⟩=>⟨a,Nat.lt_of_lt_of_le b hb.size⟩,hW.2.bel hb⟩
 ·obtain⟨⟨gd,gfl,gby,mb,gw,gc,gfr,kept,P,sq,v,d,since,waits,out,ans,h⟩,hmv⟩:=hW
  have h':=h
  obtain⟨nd,dk,lm,wl,⟨⟨gl,gm,nl,gi,gx,ni,L,E,leads,a1,a2,a3,a4,a5⟩,hf⟩,fr,st,wa,ou,an',f1,f2,f3,f4,f5,f6⟩:=h'
  refine (trim_zero g n me gd gw gc gl gm nl gi gfr L leads _ _ P sq v d since tk waits out ans W nd a1.hc a1.lg fr hme).mono ?_
  rintro e w' ⟨rfl,hb⟩
  exact⟨rfl,⟨gd,gfl,gby,mb,gw,gc,gfr,kept,P,sq,v,d,since,waits,out,ans,(h.bel hb).foot fun k hk hl=>hk.imp id fun ⟨a,b⟩=>⟨a,Nat.lt_of_lt_of_le b hb.size⟩⟩,hmv.bel hb⟩
end
section
open Go.RowKit Go.Maps
theorem ntake1 (g n me gd gw gc gfr f q:Nat) (x:Cm) (P:Value) (sq v:Int) (d:Nat→Int) (since tk:Int) (waits out ans:Value) (R1 R2:World→Prop) (w:World) (nd:Holds w g 102 (nodeL n me gd gw gc gfr P sq v d since tk waits out ans)) (hf:f<n)
  (KL:∀ W,Calls Tryz.prog 72 #[.agg (letL 1 f me q x).toArray] W fun e w'=>e=.returned (.bool true)∧Below W.heap.size W w')
  (KT:∀ W,Below w.heap.size w W→Calls Tryz.prog 75 #[.pointer (some ⟨gc,0,none⟩),.agg (letL 1 f me q x).toArray] W fun e w'=>e=.returned (.bool false)∧R1 w')
  (KS:∀ W,R1 W→Calls Tryz.prog 53 #[.pointer (some ⟨g,0,none⟩)] W fun e w'=>e=.returned (.tuple #[])∧R2 w') :
  Calls Tryz.prog 50 #[.pointer (some ⟨g,0,none⟩),.agg (letL 1 f me q x).toArray] w fun e w'=>e=.returned (.bool true)∧R2 w':=by
 have KL:=qh KL;have KT:=qh KT;have KS:=qh KS
 have HN:=qh nd
 have HB:=qh (Base.start w)
 have hmm:((me:Int)==(me:Int))=true:=by simp
 have hfn:(f:Int)<(n:Int):=by omega
 clear nd
 go_enter Tryz.func50,Tryz.ntmps50
 go_upto_region 1 with (fail)
 go_name_world W hW
 have hW:allocs w [.cells (letL 1 f me q x:List Value).toArray 47]=W:=hW
 have HX:=qh (show Holds W (w.heap.size) 47 (letL 1 f me q x) from holds_allocs _ hW 0 rfl)
 have hbW:=below_allocs _ hW
 have hsW:=size_allocs _ hW
 simp only [List.length_cons,List.length_nil] at hsW
 clear hW
 have HN:=qh (HN.out.bel hbW)
 have HB:=qh (HB.out.bel hbW)
 clear hbW hsW
 generalize hB0:w.heap.size=B at HX HB KT ⊢
 have HR1:=qh (grown_range (cs:=letL 1 f me q x) HX.out 0 (by intro j v hv;rw [Nat.zero_add];exact hv))
 have x1:=fun d os=>HX.out.grown d os 1
 have x2:=fun d os=>HX.out.grown d os 2
 have n0:=fun d os=>HN.out.grown d os 0
 have n1:=fun d os=>HN.out.grown d os 1
 have n74:=fun d os=>HN.out.grown d os 74
 simp only [letL,nodeL,yA,yB] at x1 x2 n0 n1 n74
 refine wp_region_quiet_below (by kernel_rfl) (by kernel_rfl) ?_
 repeat (first
  | (with_reducible show wpQuiet _ _ _ _ (_ :: _) _;refine wpQuiet_load_guarded (by kernel_rfl) 47 _ rfl B 0 rfl (letL 1 f me q x) _ HR1.out Tryz.underlying47 rfl (by kernel_rfl) ?_;simp only [Act.put,List.setIfInBounds_toArray,List.set_cons_succ,List.set_cons_zero])
  | go_big_quiet_step (first
   | (go_at_call 72;with_reducible exact calls_regrown fun W _=>KL.out W)))
 refine wpQuiet_nil ?_
 intro w3 hw'
 have hb3:=below_of_regrown hw'
 have HN:=qh (HN.out.bel hb3)
 have HX:=qh (HX.out.bel hb3)
 have HB:=qh (HB.out.bel hb3)
 clear hw' hb3 x1 x2 n0 n1 n74 HR1
 have x0:=HX.out.cell 0
 simp only [letL,yA,yB] at x0
 go_upto_region 4 with (fail)
 clear x0
 have HRX:=qh (fun (w':World) (h:Below w3.drew.heap.size w3.drew w')=>((HX.out.bel (t_drew _ w3)).bel h).range0)
 have HN:=qh (HN.out.bel (t_drew _ w3))
 have HX:=qh (HX.out.bel (t_drew _ w3))
 have HB:=qh (HB.out.bel (t_drew _ w3))
 refine wp_region_noPanic ?_
 refine wp_region_late (S:=fun W'=>Below w3.drew.heap.size w3.drew W') (X0:=[5]) (by as_aux_lemma=>kernel_rfl) ?_
 generalize w3.drew=wd at HN HX HB HRX ⊢
 have hSn:Below wd.heap.size wd wd:=Below.refl _ _
 change wpAnyL _ _ _ _ _ _ 6 #[false,false,false,false,false,false] _ _
 refine mvA 0 (some 34) (fun _=>hSn) ?_
 simp only [Act.put,zA,zB,zC]
 refine mvA 1 (some 35) (fun _=>hSn) ?_
 simp only [Act.put,zA,zB,zC]
 refine mvA 2 (some 36) (fun _=>hSn) ?_
 simp only [Act.put,zA,zB,zC]
 refine tkA 3 [5] (some 37) (?vg4) rfl (Or.inl ⟨by rfl,?hg4⟩) hSn ?rg4
 case hg4=>
  intro w hSw
  have b4:=(HN.out.bel hSw).cell 4
  simp only [nodeL,yA,yB] at b4
  go_simp
  try with_reducible rfl
 simp only [Act.put,zA,zB,zC]
 refine tkA 4 [5] (some 38) (.agg (letL 1 f me q x).toArray) rfl (yieldsIf_load_mid (by rfl) 47 _ rfl B 0 rfl (letL 1 f me q x) _ (fun w hSw=>HRX.out w hSw) Tryz.underlying47 rfl (by as_aux_lemma=>kernel_rfl)) hSn ?rg5
 simp only [Act.put,zA,zB,zC]
 refine rd1 5 rfl (fun K hK=>?_)
 go_simp
 refine (KT.out _ (HB.out.bel hSn).below).mono ?_
 rintro e w5 ⟨rfl,h1⟩
 have H1:=qh h1
 clear h1
 refine hK.out _ _ nlA ?_
 clear hK
 try simp only [Act.put,zA,zB,zC]
 refine dnA (NoPanic.normal ?_)
 clear hSn HN HX HB HRX KT KL
 go_wp2_with fail
 refine (KS.out _ H1.out).mono ?_
 rintro e w6 ⟨rfl,h2⟩
 have H2:=qh h2
 clear h2 H1
 go_wp2_with fail
 go_ret
 exact⟨rfl,H2.out⟩
theorem ntake2 (g n me gd gw gc gfr f q:Nat) (x:Cm) (P:Value) (sq v:Int) (d:Nat→Int) (since tk:Int) (waits out ans:Value) (R1 R2:World→Prop) (w:World) (nd:Holds w g 102 (nodeL n me gd gw gc gfr P sq v d since tk waits out ans)) (hf:f<n)
  (KL:∀ W,Calls Tryz.prog 72 #[.agg (letL 2 f me q x).toArray] W fun e w'=>e=.returned (.bool true)∧Below W.heap.size W w')
  (KT:∀ W,Below w.heap.size w W→Calls Tryz.prog 75 #[.pointer (some ⟨gc,0,none⟩),.agg (letL 2 f me q x).toArray] W fun e w'=>e=.returned (.bool false)∧R1 w')
  (KS:∀ W,R1 W→Calls Tryz.prog 53 #[.pointer (some ⟨g,0,none⟩)] W fun e w'=>e=.returned (.tuple #[])∧R2 w') :
  Calls Tryz.prog 50 #[.pointer (some ⟨g,0,none⟩),.agg (letL 2 f me q x).toArray] w fun e w'=>e=.returned (.bool true)∧R2 w':=by
 have KL:=qh KL;have KT:=qh KT;have KS:=qh KS
 have HN:=qh nd
 have HB:=qh (Base.start w)
 have hmm:((me:Int)==(me:Int))=true:=by simp
 have hfn:(f:Int)<(n:Int):=by omega
 clear nd
 go_enter Tryz.func50,Tryz.ntmps50
 go_upto_region 1 with (fail)
 go_name_world W hW
 have hW:allocs w [.cells (letL 2 f me q x:List Value).toArray 47]=W:=hW
 have HX:=qh (show Holds W (w.heap.size) 47 (letL 2 f me q x) from holds_allocs _ hW 0 rfl)
 have hbW:=below_allocs _ hW
 have hsW:=size_allocs _ hW
 simp only [List.length_cons,List.length_nil] at hsW
 clear hW
 have HN:=qh (HN.out.bel hbW)
 have HB:=qh (HB.out.bel hbW)
 clear hbW hsW
 generalize hB0:w.heap.size=B at HX HB KT ⊢
 have HR1:=qh (grown_range (cs:=letL 2 f me q x) HX.out 0 (by intro j v hv;rw [Nat.zero_add];exact hv))
 have x1:=fun d os=>HX.out.grown d os 1
 have x2:=fun d os=>HX.out.grown d os 2
 have n0:=fun d os=>HN.out.grown d os 0
 have n1:=fun d os=>HN.out.grown d os 1
 have n74:=fun d os=>HN.out.grown d os 74
 simp only [letL,nodeL,yA,yB] at x1 x2 n0 n1 n74
 refine wp_region_quiet_below (by kernel_rfl) (by kernel_rfl) ?_
 repeat (first
  | (with_reducible show wpQuiet _ _ _ _ (_ :: _) _;refine wpQuiet_load_guarded (by kernel_rfl) 47 _ rfl B 0 rfl (letL 2 f me q x) _ HR1.out Tryz.underlying47 rfl (by kernel_rfl) ?_;simp only [Act.put,List.setIfInBounds_toArray,List.set_cons_succ,List.set_cons_zero])
  | go_big_quiet_step (first
   | (go_at_call 72;with_reducible exact calls_regrown fun W _=>KL.out W)))
 refine wpQuiet_nil ?_
 intro w3 hw'
 have hb3:=below_of_regrown hw'
 have HN:=qh (HN.out.bel hb3)
 have HX:=qh (HX.out.bel hb3)
 have HB:=qh (HB.out.bel hb3)
 clear hw' hb3 x1 x2 n0 n1 n74 HR1
 have x0:=HX.out.cell 0
 simp only [letL,yA,yB] at x0
 go_upto_region 4 with (fail)
 clear x0
 have HRX:=qh (fun (w':World) (h:Below w3.drew.heap.size w3.drew w')=>((HX.out.bel (t_drew _ w3)).bel h).range0)
 have HN:=qh (HN.out.bel (t_drew _ w3))
 have HX:=qh (HX.out.bel (t_drew _ w3))
 have HB:=qh (HB.out.bel (t_drew _ w3))
 refine wp_region_noPanic ?_
 refine wp_region_late (S:=fun W'=>Below w3.drew.heap.size w3.drew W') (X0:=[5]) (by as_aux_lemma=>kernel_rfl) ?_
 generalize w3.drew=wd at HN HX HB HRX ⊢
 have hSn:Below wd.heap.size wd wd:=Below.refl _ _
 change wpAnyL _ _ _ _ _ _ 6 #[false,false,false,false,false,false] _ _
 refine mvA 0 (some 34) (fun _=>hSn) ?_
 simp only [Act.put,zA,zB,zC]
 refine mvA 1 (some 35) (fun _=>hSn) ?_
 simp only [Act.put,zA,zB,zC]
 refine mvA 2 (some 36) (fun _=>hSn) ?_
 simp only [Act.put,zA,zB,zC]
 refine tkA 3 [5] (some 37) (?vg9) rfl (Or.inl ⟨by rfl,?hg9⟩) hSn ?rg9
 case hg9=>
  intro w hSw
  have b4:=(HN.out.bel hSw).cell 4
  simp only [nodeL,yA,yB] at b4
  go_simp
  try with_reducible rfl
 simp only [Act.put,zA,zB,zC]
 refine tkA 4 [5] (some 38) (.agg (letL 2 f me q x).toArray) rfl (yieldsIf_load_mid (by rfl) 47 _ rfl B 0 rfl (letL 2 f me q x) _ (fun w hSw=>HRX.out w hSw) Tryz.underlying47 rfl (by as_aux_lemma=>kernel_rfl)) hSn ?rg10
 simp only [Act.put,zA,zB,zC]
 refine rd1 5 rfl (fun K hK=>?_)
 go_simp
 refine (KT.out _ (HB.out.bel hSn).below).mono ?_
 rintro e w5 ⟨rfl,h1⟩
 have H1:=qh h1
 clear h1
 refine hK.out _ _ nlA ?_
 clear hK
 try simp only [Act.put,zA,zB,zC]
 refine dnA (NoPanic.normal ?_)
 clear hSn HN HX HB HRX KT KL
 go_wp2_with fail
 refine (KS.out _ H1.out).mono ?_
 rintro e w6 ⟨rfl,h2⟩
 have H2:=qh h2
 clear h2 H1
 go_wp2_with fail
 go_ret
 exact⟨rfl,H2.out⟩
theorem ntake5 (g n me gd gw gc gfr f q:Nat) (x:Cm) (P:Value) (sq v:Int) (d:Nat→Int) (since tk:Int) (waits out ans:Value) (R1 R2:World→Prop) (w:World) (nd:Holds w g 102 (nodeL n me gd gw gc gfr P sq v d since tk waits out ans)) (hf:f<n)
  (KL:∀ W,Calls Tryz.prog 72 #[.agg (letL 5 f me q x).toArray] W fun e w'=>e=.returned (.bool true)∧Below W.heap.size W w')
  (KT:∀ W,Below w.heap.size w W→Calls Tryz.prog 75 #[.pointer (some ⟨gc,0,none⟩),.agg (letL 5 f me q x).toArray] W fun e w'=>e=.returned (.bool false)∧R1 w')
  (KS:∀ W,R1 W→Calls Tryz.prog 53 #[.pointer (some ⟨g,0,none⟩)] W fun e w'=>e=.returned (.tuple #[])∧R2 w') :
  Calls Tryz.prog 50 #[.pointer (some ⟨g,0,none⟩),.agg (letL 5 f me q x).toArray] w fun e w'=>e=.returned (.bool true)∧R2 w':=by
 have KL:=qh KL;have KT:=qh KT;have KS:=qh KS
 have HN:=qh nd
 have HB:=qh (Base.start w)
 have hmm:((me:Int)==(me:Int))=true:=by simp
 have hfn:(f:Int)<(n:Int):=by omega
 clear nd
 go_enter Tryz.func50,Tryz.ntmps50
 go_upto_region 1 with (fail)
 go_name_world W hW
 have hW:allocs w [.cells (letL 5 f me q x:List Value).toArray 47]=W:=hW
 have HX:=qh (show Holds W (w.heap.size) 47 (letL 5 f me q x) from holds_allocs _ hW 0 rfl)
 have hbW:=below_allocs _ hW
 have hsW:=size_allocs _ hW
 simp only [List.length_cons,List.length_nil] at hsW
 clear hW
 have HN:=qh (HN.out.bel hbW)
 have HB:=qh (HB.out.bel hbW)
 clear hbW hsW
 generalize hB0:w.heap.size=B at HX HB KT ⊢
 have HR1:=qh (grown_range (cs:=letL 5 f me q x) HX.out 0 (by intro j v hv;rw [Nat.zero_add];exact hv))
 have x1:=fun d os=>HX.out.grown d os 1
 have x2:=fun d os=>HX.out.grown d os 2
 have n0:=fun d os=>HN.out.grown d os 0
 have n1:=fun d os=>HN.out.grown d os 1
 have n74:=fun d os=>HN.out.grown d os 74
 simp only [letL,nodeL,yA,yB] at x1 x2 n0 n1 n74
 refine wp_region_quiet_below (by kernel_rfl) (by kernel_rfl) ?_
 repeat (first
  | (with_reducible show wpQuiet _ _ _ _ (_ :: _) _;refine wpQuiet_load_guarded (by kernel_rfl) 47 _ rfl B 0 rfl (letL 5 f me q x) _ HR1.out Tryz.underlying47 rfl (by kernel_rfl) ?_;simp only [Act.put,List.setIfInBounds_toArray,List.set_cons_succ,List.set_cons_zero])
  | go_big_quiet_step (first
   | (go_at_call 72;with_reducible exact calls_regrown fun W _=>KL.out W)))
 refine wpQuiet_nil ?_
 intro w3 hw'
 have hb3:=below_of_regrown hw'
 have HN:=qh (HN.out.bel hb3)
 have HX:=qh (HX.out.bel hb3)
 have HB:=qh (HB.out.bel hb3)
 clear hw' hb3 x1 x2 n0 n1 n74 HR1
 have x0:=HX.out.cell 0
 simp only [letL,yA,yB] at x0
 go_upto_region 4 with (fail)
 clear x0
 have HRX:=qh (fun (w':World) (h:Below w3.drew.heap.size w3.drew w')=>((HX.out.bel (t_drew _ w3)).bel h).range0)
 have HN:=qh (HN.out.bel (t_drew _ w3))
 have HX:=qh (HX.out.bel (t_drew _ w3))
 have HB:=qh (HB.out.bel (t_drew _ w3))
 refine wp_region_noPanic ?_
 refine wp_region_late (S:=fun W'=>Below w3.drew.heap.size w3.drew W') (X0:=[5]) (by as_aux_lemma=>kernel_rfl) ?_
 generalize w3.drew=wd at HN HX HB HRX ⊢
 have hSn:Below wd.heap.size wd wd:=Below.refl _ _
 change wpAnyL _ _ _ _ _ _ 6 #[false,false,false,false,false,false] _ _
 refine mvA 0 (some 34) (fun _=>hSn) ?_
 simp only [Act.put,zA,zB,zC]
 refine mvA 1 (some 35) (fun _=>hSn) ?_
 simp only [Act.put,zA,zB,zC]
 refine mvA 2 (some 36) (fun _=>hSn) ?_
 simp only [Act.put,zA,zB,zC]
 refine tkA 3 [5] (some 37) (?vg14) rfl (Or.inl ⟨by rfl,?hg14⟩) hSn ?rg14
 case hg14=>
  intro w hSw
  have b4:=(HN.out.bel hSw).cell 4
  simp only [nodeL,yA,yB] at b4
  go_simp
  try with_reducible rfl
 simp only [Act.put,zA,zB,zC]
 refine tkA 4 [5] (some 38) (.agg (letL 5 f me q x).toArray) rfl (yieldsIf_load_mid (by rfl) 47 _ rfl B 0 rfl (letL 5 f me q x) _ (fun w hSw=>HRX.out w hSw) Tryz.underlying47 rfl (by as_aux_lemma=>kernel_rfl)) hSn ?rg15
 simp only [Act.put,zA,zB,zC]
 refine rd1 5 rfl (fun K hK=>?_)
 go_simp
 refine (KT.out _ (HB.out.bel hSn).below).mono ?_
 rintro e w5 ⟨rfl,h1⟩
 have H1:=qh h1
 clear h1
 refine hK.out _ _ nlA ?_
 clear hK
 try simp only [Act.put,zA,zB,zC]
 refine dnA (NoPanic.normal ?_)
 clear hSn HN HX HB HRX KT KL
 go_wp2_with fail
 refine (KS.out _ H1.out).mono ?_
 rintro e w6 ⟨rfl,h2⟩
 have H2:=qh h2
 clear h2 H1
 go_wp2_with fail
 go_ret
 exact⟨rfl,H2.out⟩
end
section
open Go.RowKit Go.Maps
def letC (c:Cm) (q:Nat) (m:Lt):List Value:=letL m.1 m.2.1 m.2.2 q (if m.1=2 then Cm.zero else c)
def letV (c:Cm) (q:Nat) (l:List Lt) (i:Nat):List Value:=letC c q (l.getD i (0,0,0))
def isLeadP:Ph→Bool
 | .lead _ _=>true
 | _=>false
def limOf:Ph→Nat
 | .fresh=>300
 | .lead _ _=>800
 | .pre=>800
 | .com=>1300
def NodeC (w:World) (F:Foot) (g n me q:Nat) (c:Cm) (ph:Ph) (out:List Lt) (an:Bool) (tk:Nat):Prop:=
 ∃ t:Int,(0≤t∧t≤tk)∧NodeG w F g n me q c ph (.slice none 0 0) (.slice none 0 0) (isCom ph) (isLeadP ph) out.length (letV c q out) an t (limOf ph)
theorem flat_same {s m:Nat} {V V':Nat→List Value} (hs:0<s) (h:∀ i,i<m→V i=V' i):flat s m V=flat s m V':=by
 unfold flat
 refine List.map_congr_left fun t ht=>?_
 have h1:t<m*s:=List.mem_range.1 ht
 rw [h (t / s) (Nat.div_lt_of_lt_mul (by rw [Nat.mul_comm];exact h1))]
theorem LetS.cong {w:World} {F:Foot} {out:Value} {m:Nat} {V V':Nat→List Value} (h:LetS w F out m V) (hV:∀ i,i<m→V i=V' i):LetS w F out m V':=by
 obtain⟨h0,ob,h1,h2⟩:=h
 exact⟨h0,ob,flat_same (s:=51) (by decide) hV▸h1,h2⟩
theorem letV_one (c:Cm) (q:Nat) (l:List Lt) (k:Nat):∀ u∈flat 51 k (letV c q l),u.oneCell'=true:=
 flat_one 51 k (letV c q l) (fun _ _=>rfl) fun i _ u hu=>letL_one _ _ _ _ _ u hu
theorem settle_after (w W w1:World) (F:Foot) (g n me q:Nat) (c:Cm) (ph:Ph) (recs cout:Value) (dn wt:Bool) (tk:Int) (lim r m:Nat) (V V0:Nat→List Value) (hW:w.heap.size≤W.heap.size) (hW1:W.heap.size≤w1.heap.size) (hm:Mv F w w1)
  (h:NodeG w1 (grow F W w1) g n me q c ph recs cout dn wt 0 V0 false tk lim) (hr:RecS w1 W.heap.size r recs) (ho:LetS w1 (grow F W w1) cout m V) (hr0:r=0→m=0) (hm1:m≤100) (hV:∀ u∈flat 51 m V,u.oneCell'=true)
  (hlim:lim≤2000) (hdn:dn=true→ph=.com) (hq:q<7) (hme:me<n) (hcc:CmOk c) (h1:c.c=1) (h2:c.s=1) :
  Calls Tryz.prog 53 #[.pointer (some ⟨g,0,none⟩)] w1 fun e w'=>e=.returned (.tuple #[])∧NodeG w' (grow F w w') g n me q c ph (.slice none 0 0) (.slice none 0 0) (isCom ph) (wt&&!isCom ph) m V (wt&&isCom ph) tk (lim+500*r)∧Mv F w w':=by
 refine (settle_ok w1 (grow F W w1) W.heap.size g n me q c ph recs cout dn wt tk lim r m V V0 h hr ho hr0 hm1 hV (fun k hk hk2=>.inr ⟨hk,hk2⟩) hlim hdn hq hme hcc h1 h2).mono ?_
 rintro e w' ⟨rfl,hn,hm'⟩
 have hs:=hm'.size
 refine⟨rfl,hn.foot fun k hk hkl=>?_,hm.mv hm' fun k hk=>hk.imp id fun ⟨a,_⟩=>Nat.le_trans hW a⟩
 rcases grow_step hW1 hs hk with h|⟨a,b⟩
 ·exact .inl h
 ·exact .inr ⟨Nat.le_trans hW a,b⟩
theorem NodeG.core {w W w1:World} {F:Foot} {g n me q:Nat} {c:Cm} {ph ph':Ph} {recs cout recs' cout':Value} {dn wt:Bool} {m:Nat} {V:Nat→List Value} {an:Bool} {tk:Int} {lim:Nat} {gd gfl gby mb gw gc gfr:Nat} {kept:Int} {P:Value} {sq v:Int} {d:Nat→Int} {since:Int} {waits out ans:Value}
  (h:NodeI w F g n me q c ph recs cout dn wt m V an tk lim gd gfl gby mb gw gc gfr kept P sq v d since waits out ans) (hb:Below w.heap.size w W) (hm:Mv (CoreFt W F) W w1) (hc:CoreSt w1 (grow F W w1) gc n me q c ph' recs' cout'):NodeG w1 (grow F W w1) g n me q c ph' recs' cout' dn wt m V an tk lim:=
 ⟨gd,gfl,gby,mb,gw,gc,gfr,kept,P,sq,v,d,since,waits,out,ans,((h.bel hb).foot fun k hk _=>.inl hk).coreG hm (fun k hk _=>hk.2) hc⟩
theorem LetS.nil0 (w:World) (F:Foot) (V:Nat→List Value):LetS w F (.slice none 0 0) 0 V:=⟨fun _=>rfl,none,OwnS.nil _ _ _,by simp⟩
theorem mv_core {w W w1:World} {F:Foot} (hb:Below w.heap.size w W) (hm:Mv (CoreFt W F) W w1):Mv F w w1:=(Mv.of_below hb).mv hm fun k hk=>.inl hk.1
theorem node_take (w:World) (F:Foot) (g n me q:Nat) (c:Cm) (ph ph':Ph) (m:Lt) (out:List Lt) (an:Bool) (tk:Nat) (h:NodeC w F g n me q c ph [] false tk) (hm:m.2.2=me) (hs:takesS n q ph m=some (ph',out,an))
  (hn3:3≤n) (hn:n≤7) (hq:q<n) (hc:CmOk c) (h1:c.c=1) (h2:c.s=1) :
  Calls Tryz.prog 50 #[.pointer (some ⟨g,0,none⟩),.agg (letC c q m).toArray] w fun e w'=>e=.returned (.bool true)∧NodeC w' (grow F w w') g n me q c ph' out an tk∧Mv F w w':=by
 obtain⟨k,f,t⟩:=m
 obtain rfl:t=me:=hm
 obtain⟨tt,htt,gd,gfl,gby,mb,gw,gc,gfr,kept,P,sq,v,d,since,waits,out0,ans,h⟩:=h
 unfold takesS at hs
 split at hs
 ·cases hs
 rename_i hcond
 have hft:f≠t∧f<n∧t<n:=by
  simp only [not_or,Nat.not_le] at hcond
  exact⟨hcond.1,hcond.2.1,hcond.2.2⟩
 clear hcond
 have co:=h.co
 split at hs
 ·
  rename_i hk
  obtain rfl:k=1:=hk
  split at hs
  ·rename_i hfq
   obtain rfl:f=q:=hfq
   simp only [Option.some.injEq,Prod.mk.injEq] at hs
   obtain⟨rfl,rfl,rfl⟩:=hs
   refine (ntake1 g n t gd gw gc gfr f f c P sq v d since tt waits out0 ans (fun W1=>∃ W recs cout,w.heap.size≤W.heap.size∧W.heap.size≤W1.heap.size∧Mv F w W1∧NodeG W1 (grow F W W1) g n t f c .pre recs cout false false 0 (letV c f []) false tt 300∧RecS W1 W.heap.size 1 recs∧LetS W1 (grow F W W1) cout 1 (letV c f [(2,t,f)])) (fun w'=>NodeG w' (grow F w w') g n t f c .pre (.slice none 0 0) (.slice none 0 0) false false 1 (letV c f [(2,t,f)]) false tt (300+500*1)∧Mv F w w') w h.nd hft.2.1 (right1 f t f c hc.right (by omega) (by omega) (by omega) hft.1) (fun W hb=>?_) (fun W1 hR=>?_)).mono ?_
   ·refine (core_pre (co.bel hb) hft.2.1 hft.2.2 hft.1 hn hq hc).mono ?_
    rintro e w1 ⟨rfl,recs,cout,c1,c2,c3,c4⟩
    have c5:LetS w1 (grow F W w1) cout 1 (letV c f [(2,t,f)]):=c3.cong fun i hi=>by
     obtain rfl:i=0:=by omega
     rfl
    exact⟨rfl,W,recs,cout,hb.size,c4.size,mv_core hb c4,NodeG.core h hb c4 c1,c2,c5⟩
   ·obtain⟨W,recs,cout,r1,r2,r3,r4,r5,r6⟩:=hR
    exact settle_after w W W1 F g n t f c .pre recs cout false false tt 300 1 1 _ _ r1 r2 r3 r4 r5 r6 (by omega) (by omega) (letV_one c f _ 1) (by omega) (by simp) (by omega) hft.2.2 hc h1 h2
   ·rintro e w' ⟨rfl,hn',hm'⟩
    exact⟨rfl,⟨tt,htt,hn'⟩,hm'⟩
  ·cases hs
 ·
  rename_i A tk' hk
  obtain rfl:k=2:=hk
  split at hs
  ·cases hs
  rename_i hA
  simp only [not_or,Nat.not_lt] at hA
  obtain⟨⟨gl,gm,nl,gi,gx,ni,L,E,leads,a1,a2,a3,a4,hqm,a5⟩,hfc⟩:=co
  have co:CoreSt w F gc n t q c (.lead A tk') (.slice none 0 0) (.slice none 0 0):=⟨⟨gl,gm,nl,gi,gx,ni,L,E,leads,a1,a2,a3,a4,hqm,a5⟩,hfc⟩
  clear a1 a2 a3 a4 a5
  subst hqm
  split at hs
  ·rename_i hle
   simp only [Option.some.injEq,Prod.mk.injEq] at hs
   obtain⟨rfl,rfl,rfl⟩:=hs
   have hlen:(sendAll 5 n q).length=n-1:=by simp [sendAll,othersOf]
   refine (ntake2 g n q gd gw gc gfr f q Cm.zero P sq v d since tt waits out0 ans (fun W1=>∃ W recs cout,w.heap.size≤W.heap.size∧W.heap.size≤W1.heap.size∧Mv F w W1∧NodeG W1 (grow F W W1) g n q q c .com recs cout false true 0 (letV c q []) false tt 800∧RecS W1 W.heap.size 1 recs∧LetS W1 (grow F W W1) cout (n-1) (letV c q (sendAll 5 n q))) (fun w'=>NodeG w' (grow F w w') g n q q c .com (.slice none 0 0) (.slice none 0 0) true false (n-1) (letV c q (sendAll 5 n q)) true tt (800+500*1)∧Mv F w w') w h.nd hft.2.1 (right2 f q q (by omega) (by omega) (by omega) hft.1) (fun W hb=>?_) (fun W1 hR=>?_)).mono ?_
   ·refine (core_ans (co.bel hb) hft.2.1 hft.2.2 hft.1 hn3 hn hq hc hA.1 hA.2).mono ?_
    rintro e w1 ⟨rfl,c4,⟨hlt,_⟩|⟨_,recs,cout,c1,c2,c3⟩⟩
    ·omega
    have c5:LetS w1 (grow F W w1) cout (n-1) (letV c q (sendAll 5 n q)):=c3.cong fun i hi=>by
     have:(sendAll 5 n q).getD i (0,0,0)=(5,q,if i<q then i else i+1):=by
      simp [sendAll,othersOf,List.getD_eq_getElem?_getD,hi]
     unfold letV letC outV
     rw [this]
     rfl
    exact⟨rfl,W,recs,cout,hb.size,c4.size,mv_core hb c4,NodeG.core h hb c4 c1,c2,c5⟩
   ·obtain⟨W,recs,cout,r1,r2,r3,r4,r5,r6⟩:=hR
    exact settle_after w W W1 F g n q q c .com recs cout false true tt 800 1 (n-1) _ _ r1 r2 r3 r4 r5 r6 (by omega) (by omega) (letV_one c q _ _) (by omega) (by simp) (by omega) hft.2.2 hc h1 h2
   ·rintro e w' ⟨rfl,hn',hm'⟩
    exact⟨rfl,⟨tt,htt,hlen▸hn'⟩,hm'⟩
  ·rename_i hle
   simp only [Option.some.injEq,Prod.mk.injEq] at hs
   obtain⟨rfl,rfl,rfl⟩:=hs
   refine (ntake2 g n q gd gw gc gfr f q Cm.zero P sq v d since tt waits out0 ans (fun W1=>∃ W,w.heap.size≤W.heap.size∧W.heap.size≤W1.heap.size∧Mv F w W1∧NodeG W1 (grow F W W1) g n q q c (.lead (f :: A) tk') (.slice none 0 0) (.slice none 0 0) false true 0 (letV c q []) false tt 800) (fun w'=>NodeG w' (grow F w w') g n q q c (.lead (f :: A) tk') (.slice none 0 0) (.slice none 0 0) false true 0 (letV c q []) false tt (800+500*0)∧Mv F w w') w h.nd hft.2.1 (right2 f q q (by omega) (by omega) (by omega) hft.1) (fun W hb=>?_) (fun W1 hR=>?_)).mono ?_
   ·refine (core_ans (co.bel hb) hft.2.1 hft.2.2 hft.1 hn3 hn hq hc hA.1 hA.2).mono ?_
    rintro e w1 ⟨rfl,c4,⟨_,c1⟩|⟨hlt,_⟩⟩
    ·exact⟨rfl,W,hb.size,c4.size,mv_core hb c4,NodeG.core h hb c4 c1⟩
    ·omega
   ·obtain⟨W,r1,r2,r3,r4⟩:=hR
    exact settle_after w W W1 F g n q q c _ _ _ false true tt 800 0 0 _ _ r1 r2 r3 r4 (.inl ⟨rfl,rfl⟩) (LetS.nil0 _ _ _) (by omega) (by omega) (letV_one c q _ 0) (by omega) (by simp) (by omega) hft.2.2 hc h1 h2
   ·rintro e w' ⟨rfl,hn',hm'⟩
    exact⟨rfl,⟨tt,htt,hn'⟩,hm'⟩
 ·
  rename_i hk
  obtain rfl:k=2:=hk
  split at hs
  ·rename_i hfq
   simp only [Option.some.injEq,Prod.mk.injEq] at hs
   obtain⟨rfl,rfl,rfl⟩:=hs
   refine (ntake2 g n t gd gw gc gfr f q Cm.zero P sq v d since tt waits out0 ans (fun W1=>Below w.heap.size w W1) (fun w'=>NodeG w' (grow F w w') g n t q c .com (.slice none 0 0) (.slice none 0 0) true false 0 (letV c q []) false tt (1300+500*0)∧Mv F w w') w h.nd hft.2.1 (right2 f t q (by omega) (by omega) (by omega) hft.1) (fun W hb=>?_) (fun W1 hb=>?_)).mono ?_
   ·refine (core_late (co.bel hb) hft.2.1 hft.2.2 hft.1 hn hq).mono ?_
    rintro e w1 ⟨rfl,hb1⟩
    exact⟨rfl,hb.trans (hb1.mono hb.size)⟩
   ·exact settle_after w W1 W1 F g n t q c .com _ _ true false tt 1300 0 0 _ _ hb.size (Nat.le_refl _) (Mv.of_below hb) ⟨gd,gfl,gby,mb,gw,gc,gfr,kept,P,sq,v,d,since,waits,out0,ans,(h.bel hb).foot fun k hk _=>.inl hk⟩ (.inl ⟨rfl,rfl⟩) (LetS.nil0 _ _ _) (by omega) (by omega) (letV_one c q _ 0) (by omega) (by simp) (by omega) hft.2.2 hc h1 h2
   ·rintro e w' ⟨rfl,hn',hm'⟩
    exact⟨rfl,⟨tt,htt,hn'⟩,hm'⟩
  ·cases hs
 ·
  rename_i hk
  obtain rfl:k=5:=hk
  simp only [Option.some.injEq,Prod.mk.injEq] at hs
  obtain⟨rfl,rfl,rfl⟩:=hs
  refine (ntake5 g n t gd gw gc gfr f q c P sq v d since tt waits out0 ans (fun W1=>∃ W recs cout,w.heap.size≤W.heap.size∧W.heap.size≤W1.heap.size∧Mv F w W1∧NodeG W1 (grow F W W1) g n t q c .com recs cout false false 0 (letV c q []) false tt 800∧RecS W1 W.heap.size 1 recs∧LetS W1 (grow F W W1) cout 0 (letV c q [])) (fun w'=>NodeG w' (grow F w w') g n t q c .com (.slice none 0 0) (.slice none 0 0) true false 0 (letV c q []) false tt (800+500*1)∧Mv F w w') w h.nd hft.2.1 (right5 f t q c hc.right (by omega) (by omega) (by omega) hft.1) (fun W hb=>?_) (fun W1 hR=>?_)).mono ?_
  ·refine (core_told (co.bel hb) hft.2.1 hft.2.2 hft.1 hn hq hc).mono ?_
   rintro e w1 ⟨rfl,recs,cout,c1,c2,c3,c4⟩
   exact⟨rfl,W,recs,cout,hb.size,c4.size,mv_core hb c4,NodeG.core h hb c4 c1,c2,c3.cong fun i hi=>by omega⟩
  ·obtain⟨W,recs,cout,r1,r2,r3,r4,r5,r6⟩:=hR
   exact settle_after w W W1 F g n t q c .com recs cout false false tt 800 1 0 _ _ r1 r2 r3 r4 r5 r6 (by omega) (by omega) (letV_one c q _ 0) (by omega) (by simp) (by omega) hft.2.2 hc h1 h2
  ·rintro e w' ⟨rfl,hn',hm'⟩
   exact⟨rfl,⟨tt,htt,hn'⟩,hm'⟩
 ·cases hs
end
section
open Go.RowKit Go.Maps
theorem nout (g n me gd gw gc gfr:Nat) (P:Value) (sq v:Int) (d:Nat→Int) (since tk:Int) (waits out ans:Value) (w:World) (nd:Holds w g 102 (nodeL n me gd gw gc gfr P sq v d since tk waits out ans)) :
  Calls Tryz.prog 54 #[.pointer (some ⟨g,0,none⟩)] w fun e w'=>e=.returned (.tuple #[out,ans])∧Holds w' g 102 (nodeL n me gd gw gc gfr P sq v d since tk waits (.slice none 0 0) (.slice none 0 0))∧Touch g w w':=by
 have HN:=qh nd
 have HT:=qh (Touch.refl g w)
 clear nd
 go_enter Tryz.func54,Tryz.ntmps54
 have n72:=HN.out.cell 72
 have n73:=HN.out.cell 73
 simp only [nodeL,yA,yB] at n72 n73
 go_upto_region 1 with (fail)
 go_quiet (fail)
 have hb2:Below w.heap.size w (w.drewN nq):=t_drewN _ _ _
 have HN:=qh (HN.out.bel hb2)
 have HT:=qh (HT.out.bel hb2)
 clear hb2 n72 n73
 generalize w.drewN nq=W2 at HN HT ⊢
 go_wp2_with (first
  | (refine wpList_store_cell rfl 34 (.tmp 17) (.const (.slice none 0 0)) rfl rfl g 72 102 _ HN.out (by simp [nodeL]) rfl (.slice none 0 0) rfl rfl (by kernel_rfl) rfl ?_;intro w7 hh7 ht7;have HN7:=qh (show Holds w7 g 102 (nodeL n me gd gw gc gfr P sq v d since tk waits (.slice none 0 0) ans) from hh7);have HT7:=qh (HT.out.trans ht7);clear hh7 ht7)
  | (refine wpList_store_cell rfl 100 (.tmp 19) (.const (.slice none 0 0)) rfl rfl g 73 102 _ HN7.out (by simp [nodeL]) rfl (.slice none 0 0) rfl rfl (by kernel_rfl) rfl ?_;intro w8 hh8 ht8;have HN8:=qh (show Holds w8 g 102 (nodeL n me gd gw gc gfr P sq v d since tk waits (.slice none 0 0) (.slice none 0 0)) from hh8);have HT8:=qh (HT7.out.trans ht8);clear hh8 ht8))
 refine bodyPost_ret (v:=.tuple #[out,ans]) (by simp [results,Tryz.results54,go_sem]) rfl ?_
 exact⟨rfl,HN8.out,HT8.out⟩
theorem ntick (g n me gd gw gc gfr:Nat) (P:Value) (sq v:Int) (d:Nat→Int) (since tk:Int) (waits out ans:Value) (R1 R2 R3:World→Prop) (w:World) (nd:Holds w g 102 (nodeL n me gd gw gc gfr P sq v d since tk waits out ans)) (hn:0<n)
  (htk:tk=0∨tk=1∨tk=2∨tk=3∨tk=4)
  (KT:Calls Tryz.prog 52 #[.pointer (some ⟨gc,0,none⟩)] w fun e w'=>e=.returned (.tuple #[])∧R1 w')
  (h1:∀ W,R1 W→Holds W g 102 (nodeL n me gd gw gc gfr P sq v d since tk waits out ans))
  (h2:∀ W W2,R1 W→Holds W2 g 102 (nodeL n me gd gw gc gfr P sq v d since (tk+1) waits out ans)→Touch g W W2→R2 W2)
  (KS:∀ W,R2 W→Calls Tryz.prog 53 #[.pointer (some ⟨g,0,none⟩)] W fun e w'=>e=.returned (.tuple #[])∧R3 w') :
  Calls Tryz.prog 30 #[.pointer (some ⟨g,0,none⟩)] w fun e w'=>e=.returned (.tuple #[])∧R3 w':=by
 have hni:(0:Int)<(n:Int):=by omega
 rcases htk with rfl|rfl|rfl|rfl|rfl
 all_goals
  have KT:=qh KT;have KS:=qh KS;have h1:=qh h1;have h2:=qh h2
  have HN:=qh nd
  clear nd
  go_enter Tryz.func30,Tryz.ntmps30
  have n4:=HN.out.cell 4
  have n74:=HN.out.cell 74
  simp only [nodeL,yA,yB] at n4 n74
  go_wp2_with fail
  refine KT.out.mono ?_
  rintro e w1 ⟨rfl,hr1⟩
  have HR1:=qh hr1
  have HN1:=qh (h1.out _ hr1)
  clear hr1 HN n4 n74 KT
  have n70:=HN1.out.cell 70
  simp only [nodeL,yA,yB] at n70
  go_wp2_with (first
   | (refine wpList_store_cell rfl 3 (.tmp 18) (.tmp 16) rfl rfl g 70 102 _ HN1.out (by simp [nodeL]) rfl _ rfl rfl (by kernel_rfl) rfl ?_;intro w7 hh7 ht7;have HN7:=qh (show Holds w7 g 102 (nodeL n me gd gw gc gfr P sq v d since _ waits out ans) from hh7);have HR2:=qh (h2.out _ _ HR1.out HN7.out ht7);clear hh7 ht7 HR1 HN1 n70))
  have n0:=HN7.out.cell 0
  have n70:=HN7.out.cell 70
  simp only [nodeL,yA,yB] at n0 n70
  go_loopw [2] (fun vi wr=>vi=.int .i64 0∧w7=wr) (fun _ _=>0)
  case atStart=>exact⟨rfl,rfl⟩
  case round=>
   obtain⟨rfl,rfl⟩:=hrel
   go_wp2_with fail
   refine (KS.out _ HR2.out).mono ?_
   rintro e w4 ⟨rfl,h4⟩
   have H4:=qh h4
   clear h4 HR2 KS
   go_wp2_with fail
   exact bodyPost_end (v:=.tuple #[]) (by simp [results,Tryz.results30,go_sem]) rfl ⟨rfl,H4.out⟩
end
end Go.Proofs.YtimdpiifpibgfaaGreatDoor
