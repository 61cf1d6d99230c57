/- For every input the law TopFast returns true (a part of the proof). Condition: the listed variables start as the program's text lays them. -/
import Derived.Test.YtimdpiifpibgfaaGreatDoorQf43
set_option linter.unusedVariables false
set_option linter.unusedSimpArgs false
set_option maxRecDepth 20000
set_option maxHeartbeats 16000000
namespace Go.Proofs.YtimdpiifpibgfaaGreatDoor
section
open Go.RowKit Go.Maps
theorem Stepped.trans {w w1 w2:World} {own own1 own2:Nat→Nat} (h:Stepped w own w1 own1) (h2:Stepped w1 own1 w2 own2):Stepped w own w2 own2:=by
 have hs:=h.2.size
 refine⟨fun k hk=>(h2.1 k (by omega)).trans (h.1 k hk),h.2.mv h2.2 fun k hk=>?_⟩
 by_cases hkl:k<w.heap.size
 ·left
  rw [h.1 k hkl] at hk
  exact hk
 ·exact .inr (by omega)
theorem Stepped.bel {w w1 w2:World} {own own1:Nat→Nat} (h:Stepped w own w1 own1) (hb:Below w1.heap.size w1 w2):Stepped w own w2 own1:=⟨h.1,h.2.bel hb⟩
theorem letV_cons (c:Cm) (q:Nat) (m:Lt) (rest:List Lt):flat 51 (m :: rest).length (letV c q (m :: rest))=letC c q m++flat 51 rest.length (letV c q rest):=by
 have h:=letV_app c q [m] rest
 rw [show [m]++rest=m :: rest from rfl] at h
 rw [← h]
 congr 1
 exact flat_of_one (s:=51) (V:=letV c q [m]) rfl
section
variable {w w':World} {own:Nat→Nat} {gC n q:Nat} {c:Cm} {lets:List Lt} {hist:Nat} {wait:Bool} {dv:Value} {gN cN gCl cCl gCa:Nat} {lv hv:Value} {gs gcl:Nat→Nat}
theorem ClB.off {m:Lt} {rest:List Lt} {gl cap:Nat} (h:ClB w own gC n q c lets hist wait dv gN cN gCl cCl gCa (.slice (some ⟨gl,0,none⟩) (rest.length+1:Nat) cap) hv gs gcl) (hgl:own gl=1) (hh:∃ L,Holds w gl 47 L)
  (ho:Off gC n dv (.slice (some ⟨gN,0,none⟩) n cN) (.slice (some ⟨gCl,0,none⟩) 8 cCl) (.slice (some ⟨gCa,0,none⟩) 8 8) hv gl rest.length cap (flat 51 rest.length (letV c q rest)) w w') :
  ClB w' own gC n q c rest hist wait dv gN cN gCl cCl gCa (.slice (some ⟨gl,0,none⟩) rest.length cap) hv gs gcl:=by
 obtain⟨o1,o2,o3⟩:=ho
 obtain⟨L,hL⟩:=hh
 have hs:=o3.size
 have hnT:∀ k t L,Holds w k t L→t≠85→t≠47→¬ (k=gC∨k=gl):=by
  rintro k t L hk ht1 ht2 (rfl|rfl)
  ·exact ht1 (holds_type hk h.cl)
  ·exact ht2 (holds_type hk hL)
 obtain⟨hnil,obh,hh1,hh2⟩:=h.his
 refine h.turn o3 (fun k hk _=>?_) o1 ⟨some gl,o2,fun g hg=>by cases hg;exact hgl⟩ ⟨hnil,obh,hh1.mv o3 fun g hg=>?_,hh2⟩ ?_ id (fun _ _=>rfl) (fun k hk=>Nat.lt_of_lt_of_le (h.lt k hk) hs)
 ·rcases hk with rfl|rfl
  ·exact .inr (.inl ⟨_,_,h.cl,by decide⟩)
  ·exact .inr (.inl ⟨_,_,hL,by decide⟩)
 ·rcases hh1.cases with⟨_,h0,_⟩|⟨g1,_,_,_,h0,_,_,hh,_⟩
  ·rw [h0] at hg;cases hg
  ·rw [h0] at hg;cases hg
   exact hnT _ _ _ hh (by decide) (by decide)
 ·rcases h.c0 with⟨e1,e2,e3⟩|⟨e1,tg,tk,e3⟩
  ·exact .inl ⟨e1,e2,e3.mv o3 (hnT _ _ _ e3 (by decide) (by decide))⟩
  ·exact .inr ⟨e1,tg,tk,e3.mv o3 (hnT _ _ _ e3 (by decide) (by decide))⟩
end
theorem off_ok {w w':World} {own:Nat→Nat} {gC n q:Nat} {c:Cm} {s:Cs} {m:Lt} {rest:List Lt} {dv:Value} {gN cN gCl cCl gCa:Nat} {hv:Value} {gs gcl:Nat→Nat} {gl cap:Nat} {lets:List Lt}
  (hB:ClB w own gC n q c lets s.hist s.wait dv gN cN gCl cCl gCa (.slice (some ⟨gl,0,none⟩) (rest.length+1:Nat) cap) hv gs gcl) (hN:NodesAt w own n q c s.phs s.tk gs (fun _=>[]) (fun _=>false)) (hp:s.phs.length=n) (hgl:own gl=1) (hh:∃ L,Holds w gl 47 L)
  (ho:Off gC n dv (.slice (some ⟨gN,0,none⟩) n cN) (.slice (some ⟨gCl,0,none⟩) 8 cCl) (.slice (some ⟨gCa,0,none⟩) 8 8) hv gl rest.length cap (flat 51 rest.length (letV c q rest)) w w') :
  ClSt w' own gC n q c { s with lets:=rest }∧Stepped w own w' own:=by
 have hown:=hB.ow.1
 refine⟨⟨dv,gN,cN,gCl,cCl,gCa,_,hv,gs,gcl,hB.off (m:=m) hgl hh ho,hN.mv ho.2.2 (fun k hk _=>?_) (fun _ _=>rfl),hp⟩,fun _ _=>rfl,ho.2.2.more fun k hk=>?_⟩
 ·rcases hk with rfl|rfl<;>omega
 ·rcases hk with rfl|rfl<;>omega
theorem lose_ok (w:World) (own:Nat→Nat) (gC n q:Nat) (c:Cm) (s s':Cs) (h:ClSt w own gC n q c s) (hs:loseS s=some s') (hv:∀ m∈s.lets,m.2.2<n) (hlen:s.lets.length≤1000) :
  Calls Tryz.prog 27 #[.pointer (some ⟨gC,0,none⟩),.agg (stepL 4 0).toArray] w fun e w'=>e=.returned (.bool true)∧∃ own',ClSt w' own' gC n q c s'∧Stepped w own w' own':=by
 obtain⟨dv,gN,cN,gCl,cCl,gCa,lv,hvv,gs,gcl,hB,hN,hp⟩:=h
 cases hsl:s.lets with
 | nil=>rw [loseS,hsl] at hs;cases hs
 | cons m rest=>
  rw [loseS,hsl] at hs
  simp only [Option.some.injEq] at hs
  subst hs
  obtain⟨rN,hnp⟩:=hB.np
  obtain⟨ob,hl1,hl2⟩:=hB.lts
  rw [hsl,letV_cons] at hl1
  obtain⟨gl,cap,rl,rfl,rfl,_,_,hh,_⟩:=hl1.blk (Nat.succ_pos _)
  rw [hsl] at hlen hv
  refine (clet_lose gC gN n cN gl rest.length cap gs rN m.1 m.2.1 m.2.2 q (if m.1=2 then Cm.zero else c) dv _ _ hvv _ w hB.cl hnp (hv m List.mem_cons_self) hl1 (letV_one c q rest _) (by simp at hlen;omega)).mono ?_
  rintro e w' ⟨rfl,ho⟩
  exact⟨rfl,own,off_ok (m:=m) hB hN hp (hl2 gl rfl) ⟨_,hh⟩ ho⟩
theorem takesS_dest {n q:Nat} {ph ph':Ph} {m:Lt} {out:List Lt} {an:Bool} (h:takesS n q ph m=some (ph',out,an)) (hq:q<n):m.2.2<n∧m.2.1<n∧∀ x∈out,x.2.2<n:=by
 unfold takesS at h
 split at h
 ·cases h
 rename_i hc
 simp only [not_or,Nat.not_le] at hc
 refine⟨hc.2.2,hc.2.1,?_⟩
 have hsend:∀ k,∀ x∈sendAll k n q,x.2.2<n:=by
  intro k x hx
  simp only [sendAll,othersOf,List.mem_map,List.mem_range] at hx
  obtain⟨r,⟨i,hi,rfl⟩,rfl⟩:=hx
  show (if i<q then i else i+1)<n
  split<;>omega
 repeat' split at h
 all_goals first
  | (cases h;done)
  | (simp only [Option.some.injEq,Prod.mk.injEq] at h
     obtain⟨_,rfl,_⟩:=h
     first
      | exact hsend _
      | (intro x hx;simp at hx;try (subst hx;exact hq)))
theorem give_ok (w:World) (own:Nat→Nat) (gC n q:Nat) (c:Cm) (s s':Cs) (h:ClSt w own gC n q c s) (hs:giveS n q s=some s') (hlen:s.lets.length≤1000) (hn3:3≤n) (hn:n≤7) (hq:q<n) (hc:CmOk c) (h1:c.c=1) (h2:c.s=1) :
  Calls Tryz.prog 27 #[.pointer (some ⟨gC,0,none⟩),.agg (stepL 2 0).toArray] w fun e w'=>e=.returned (.bool true)∧∃ own',ClSt w' own' gC n q c s'∧Stepped w own w' own':=by
 cases hsl:s.lets with
 | nil=>rw [giveS,hsl] at hs;cases hs
 | cons m rest=>
  rw [giveS,hsl] at hs
  rw [hsl] at hlen
  have hlen2:rest.length+1≤1000:=by simpa using hlen
  cases ht:takesS n q (s.phs.getD m.2.2 .fresh) m with
  | none=>simp only [ht,Option.bind_none] at hs;cases hs
  | some r=>
   obtain⟨ph',outl,an⟩:=r
   simp only [ht,Option.bind_some] at hs
   obtain⟨hd,hf,hdest⟩:=takesS_dest ht hq
   obtain⟨dv,gN,cN,gCl,cCl,gCa,lv,hvv,gs,gcl,hB,hN,hp⟩:=h
   obtain⟨rN,hnp⟩:=hB.np
   obtain⟨ob,hl1,hl2⟩:=hB.lts
   rw [hsl,letV_cons] at hl1
   obtain⟨gl,cap,rl,rfl,rfl,_,_,hh,_⟩:=hl1.blk (Nat.succ_pos _)
   have hol:=hB.lt
   unfold afterS at hs
   split at hs
   ·cases hs
   rename_i hsum
   refine (clet_give gC gN n cN gl rest.length cap gs rN m.1 m.2.1 m.2.2 q (if m.1=2 then Cm.zero else c) dv _ _ hvv _
    (fun W'=>∃ own2,ClG W' own2 gC n q c { s with lets:=rest,phs:=s.phs.set m.2.2 ph' } (fun j=>if j=m.2.2 then outl else []) (fun j=>if j=m.2.2 then an else false)∧Stepped w own W' own2)
    (fun W'=>∃ own',ClSt W' own' gC n q c s'∧Stepped w own W' own') w hB.cl hnp hd hl1 (letV_one c q rest _) (by omega) (fun W hO=>?_) (fun W hR=>?_)).mono ?_
   ·obtain⟨hst,hsp⟩:=off_ok (m:=m) hB hN hp (hl2 gl rfl) ⟨_,hh⟩ hO
    have hsz:=hO.2.2.size
    have hB2:=hB.off (m:=m) (hl2 gl rfl) ⟨_,hh⟩ hO
    have hN2:NodesAt W own n q c s.phs s.tk gs (fun _=>[]) (fun _=>false):=hN.mv hO.2.2 (fun k hk _=>by
     have:=hB.ow.1
     have:=hl2 gl rfl
     rcases hk with rfl|rfl<;>omega) (fun _ _=>rfl)
    refine (node_take W (fun k=>own k=2+m.2.2) (gs m.2.2) n m.2.2 q c _ ph' m outl an s.tk (hN2 m.2.2 hd) rfl ht hn3 hn hq hc h1 h2).mono ?_
    rintro e W' ⟨rfl,hnc,hm⟩
    have hs3:=hm.size
    have hold:∀ k,k<W.heap.size→ownAll own W W' (2+m.2.2) k=own k:=fun k hk=>ownAll_old _ _ _ _ _ hk
    refine⟨⟨_,rfl⟩,⟨ownAll own W W' (2+m.2.2),⟨dv,gN,cN,gCl,cCl,gCa,_,hvv,gs,gcl,hB2.mv hm (fun k hk _=>by omega) hold (ownAll_lt hB2.lt hs3),fun j hj=>?_,by simpa using hp⟩,hsp.trans ⟨hold,hm.more fun k hk=>by omega⟩⟩,fun g L hg hL=>hL.mv hm fun hx=>?_⟩
    ·by_cases hj2:j=m.2.2
     ·subst hj2
      have h9:(s.phs.set m.2.2 ph').getD m.2.2 .fresh=ph':=by simp [List.getD_eq_getElem?_getD,hp,hd]
      simp only [if_true]
      rw [h9]
      exact hnc.foot fun k hk hkl=>by
       rcases hk with hk|⟨h5,h6⟩
       ·rw [hold k (Nat.lt_of_lt_of_le (hol k (by omega)) hsz)]
        exact hk
       ·exact ownAll_new _ _ _ _ _ h5 h6
     ·have h9:(s.phs.set m.2.2 ph').getD j .fresh=s.phs.getD j .fresh:=by simp [List.getD_eq_getElem?_getD,List.getElem?_set,Ne.symm hj2]
      simp only [if_neg hj2]
      rw [h9]
      have h8:NodeC W' (fun k=>own k=2+j) (gs j) n j q c (s.phs.getD j .fresh) [] false s.tk:=(hN2 j hj).mv hm fun k hk _ hf2=>by omega
      exact h8.foot fun k hk hkl=>by
       rw [hold k (Nat.lt_of_lt_of_le (hol k (by omega)) hsz)]
       exact hk
    ·have:=hol g (by omega)
     omega
   ·obtain⟨own2,hG,hsp⟩:=hR
    cases an with
    | false=>
     simp only [Bool.false_eq_true,if_false,Option.some.injEq] at hs
     subst hs
     refine (out_ok0 W own2 gC n q m.2.2 c _ outl _ _ hG hd (by simp) (fun j hj=>by simp [hj]) (fun j=>by simp) hdest (by simp;omega)).mono ?_
     rintro e w' ⟨rfl,own',h5,h6⟩
     exact⟨rfl,own',h5,hsp.trans h6⟩
    | true=>
     simp only [if_true] at hs
     split at hs
     ·rename_i hw
      simp only [Option.some.injEq] at hs
      subst hs
      refine (out_ok1 W own2 gC n q m.2.2 c _ outl _ _ hG hd (by simp) (fun j hj=>by simp [hj]) (by simp) (fun j hj=>by simp [hj]) hw.2 hw.1 h1 h2 hdest (by simp;omega)).mono ?_
      rintro e w' ⟨rfl,own',h5,h6⟩
      exact⟨rfl,own',h5,hsp.trans h6⟩
     ·cases hs
   ·rintro e w' ⟨rfl,h9⟩
    exact⟨rfl,h9⟩
end
section
open Go.RowKit Go.Maps
theorem zeroC_one:Cm.zero.cells.toArray.all (·.oneCell')=true:=by simp [Cm.zero,Cm.cells,Value.oneCell']
def stepC (tto:Int) (x:Cm):List Value:=[.int .i64 1,.int .i64 tto,.int .i64 0,.int .i64 1,.int .i64 x.k,.int .i64 x.c,.int .i64 x.s,.string x.a,.string x.b,.string x.o,.string x.v,.slice none 0 0]
theorem cdo_give (gC:Nat) (b:Bool) (R:World→Prop) (w:World)
  (KL:∀ W,Below w.heap.size w W→Calls Tryz.prog 27 #[.pointer (some ⟨gC,0,none⟩),.agg (stepL 2 0).toArray] W fun e W'=>e=.returned (.bool b)∧R W') :
  Calls Tryz.prog 11 #[.pointer (some ⟨gC,0,none⟩),.agg (stepL 2 0).toArray] w fun e w'=>e=.returned (.bool b)∧R w':=by
 have KL:=qh KL
 have HB:=qh (Base.start w)
 go_enter Tryz.func11,Tryz.ntmps11
 go_upto_region 1 with (fail)
 go_name_world W hW
 have hW:allocs w [.cells (stepL 2 0:List Value).toArray 32]=W:=hW
 have HS:=qh (show Holds W (w.heap.size) 32 (stepL 2 0) from holds_allocs _ hW 0 rfl)
 have hbW:=below_allocs _ hW
 have hsW:=size_allocs _ hW
 simp only [List.length_cons,List.length_nil] at hsW
 clear hW
 have HB:=qh (HB.out.bel hbW)
 clear hbW hsW
 have hgS:w.heap.size=w.heap.size:=rfl
 generalize hB0:w.heap.size=gS at HS HB KL hgS ⊢
 have s0:=HS.out.cell 0
 simp only [stepL,stepC,yA,yB] at s0
 have HR:=qh HS.out.range0
 go_wp2_with (first
  | (with_reducible show wpList _ _ _ (_ :: _) _ _;refine wpList_load_guarded (by kernel_rfl) 32 _ rfl gS 0 rfl (stepL 2 0) _ HR.out Tryz.underlying32 rfl (by kernel_rfl) ?_))
 refine (KL.out _ HB.out.below).mono ?_
 rintro e w1 ⟨rfl,h1⟩
 have H1:=qh h1
 clear h1 s0 HR HS HB
 go_wp2_with fail
 go_ret
 exact⟨rfl,H1.out⟩
theorem cdo_lose (gC:Nat) (b:Bool) (R:World→Prop) (w:World)
  (KL:∀ W,Below w.heap.size w W→Calls Tryz.prog 27 #[.pointer (some ⟨gC,0,none⟩),.agg (stepL 4 0).toArray] W fun e W'=>e=.returned (.bool b)∧R W') :
  Calls Tryz.prog 11 #[.pointer (some ⟨gC,0,none⟩),.agg (stepL 4 0).toArray] w fun e w'=>e=.returned (.bool b)∧R w':=by
 have KL:=qh KL
 have HB:=qh (Base.start w)
 go_enter Tryz.func11,Tryz.ntmps11
 go_upto_region 1 with (fail)
 go_name_world W hW
 have hW:allocs w [.cells (stepL 4 0:List Value).toArray 32]=W:=hW
 have HS:=qh (show Holds W (w.heap.size) 32 (stepL 4 0) from holds_allocs _ hW 0 rfl)
 have hbW:=below_allocs _ hW
 have hsW:=size_allocs _ hW
 simp only [List.length_cons,List.length_nil] at hsW
 clear hW
 have HB:=qh (HB.out.bel hbW)
 clear hbW hsW
 have hgS:w.heap.size=w.heap.size:=rfl
 generalize hB0:w.heap.size=gS at HS HB KL hgS ⊢
 have s0:=HS.out.cell 0
 simp only [stepL,stepC,yA,yB] at s0
 have HR:=qh HS.out.range0
 go_wp2_with (first
  | (with_reducible show wpList _ _ _ (_ :: _) _ _;refine wpList_load_guarded (by kernel_rfl) 32 _ rfl gS 0 rfl (stepL 4 0) _ HR.out Tryz.underlying32 rfl (by kernel_rfl) ?_))
 refine (KL.out _ HB.out.below).mono ?_
 rintro e w1 ⟨rfl,h1⟩
 have H1:=qh h1
 clear h1 s0 HR HS HB
 go_wp2_with fail
 go_ret
 exact⟨rfl,H1.out⟩
theorem cdo_call (gC:Nat) (tto:Nat) (x:Cm) (R:Bool→World→Prop) (w:World)
  (KL:∀ W,Below w.heap.size w W→Calls Tryz.prog 26 #[.pointer (some ⟨gC,0,none⟩),.agg (stepC tto x).toArray] W fun e W'=>∃ b,e=.returned (.bool b)∧R b W') :
  Calls Tryz.prog 11 #[.pointer (some ⟨gC,0,none⟩),.agg (stepC tto x).toArray] w fun e w'=>∃ b,e=.returned (.bool b)∧R b w':=by
 have KL:=qh KL
 have HB:=qh (Base.start w)
 go_enter Tryz.func11,Tryz.ntmps11
 go_upto_region 1 with (fail)
 go_name_world W hW
 have hW:allocs w [.cells (stepC tto x:List Value).toArray 32]=W:=hW
 have HS:=qh (show Holds W (w.heap.size) 32 (stepC tto x) from holds_allocs _ hW 0 rfl)
 have hbW:=below_allocs _ hW
 have hsW:=size_allocs _ hW
 simp only [List.length_cons,List.length_nil] at hsW
 clear hW
 have HB:=qh (HB.out.bel hbW)
 clear hbW hsW
 have hgS:w.heap.size=w.heap.size:=rfl
 generalize hB0:w.heap.size=gS at HS HB KL hgS ⊢
 have s0:=HS.out.cell 0
 simp only [stepL,stepC,yA,yB] at s0
 have HR:=qh HS.out.range0
 go_wp2_with (first
  | (with_reducible show wpList _ _ _ (_ :: _) _ _;refine wpList_load_guarded (by kernel_rfl) 32 _ rfl gS 0 rfl (stepC tto x) _ HR.out Tryz.underlying32 rfl (by kernel_rfl) ?_))
 refine (KL.out _ HB.out.below).mono ?_
 rintro e w1 ⟨b,rfl,h1⟩
 have H1:=qh h1
 clear h1 s0 HR HS HB
 go_wp2_with fail
 go_ret
 exact⟨b,rfl,H1.out⟩
theorem cdo_time (gC:Nat) (id:Int) (b:Bool) (R:World→Prop) (w:World)
  (KL:∀ W,Below w.heap.size w W→Calls Tryz.prog 28 #[.pointer (some ⟨gC,0,none⟩),.int .i64 id] W fun e W'=>e=.returned (.bool b)∧R W') :
  Calls Tryz.prog 11 #[.pointer (some ⟨gC,0,none⟩),.agg (stepL 6 id).toArray] w fun e w'=>e=.returned (.bool b)∧R w':=by
 have KL:=qh KL
 have HB:=qh (Base.start w)
 go_enter Tryz.func11,Tryz.ntmps11
 go_upto_region 1 with (fail)
 go_name_world W hW
 have hW:allocs w [.cells (stepL 6 id:List Value).toArray 32]=W:=hW
 have HS:=qh (show Holds W (w.heap.size) 32 (stepL 6 id) from holds_allocs _ hW 0 rfl)
 have hbW:=below_allocs _ hW
 have hsW:=size_allocs _ hW
 simp only [List.length_cons,List.length_nil] at hsW
 clear hW
 have HB:=qh (HB.out.bel hbW)
 clear hbW hsW
 have s0:=HS.out.cell 0
 have s1:=HS.out.cell 1
 simp only [stepL,yA,yB] at s0 s1
 go_wp2_with fail
 refine (KL.out _ HB.out.below).mono ?_
 rintro e w1 ⟨rfl,h1⟩
 have H1:=qh h1
 clear h1 s0 s1 HS HB
 go_wp2_with fail
 go_ret
 exact⟨rfl,H1.out⟩
theorem cdo_tick (gC i g:Nat) (R1 R2:World→Prop) (w:World)
  (KN:∀ W,Below w.heap.size w W→Calls Tryz.prog 17 #[.pointer (some ⟨gC,0,none⟩),.int .i64 i] W fun e W'=>e=.returned (.pointer (some ⟨g,0,none⟩))∧Below W.heap.size W W')
  (KT:∀ W,Below w.heap.size w W→Calls Tryz.prog 30 #[.pointer (some ⟨g,0,none⟩)] W fun e W'=>e=.returned (.tuple #[])∧R1 W'∧∀ k L,w.heap.size≤k→Holds W k 32 L→Holds W' k 32 L)
  (KO:∀ W,R1 W→Calls Tryz.prog 31 #[.pointer (some ⟨gC,0,none⟩),.int .i64 i] W fun e W'=>e=.returned (.tuple #[])∧R2 W') :
  Calls Tryz.prog 11 #[.pointer (some ⟨gC,0,none⟩),.agg (stepL 5 i).toArray] w fun e w'=>e=.returned (.bool true)∧R2 w':=by
 have KN:=qh KN;have KT:=qh KT;have KO:=qh KO
 have HB:=qh (Base.start w)
 go_enter Tryz.func11,Tryz.ntmps11
 go_upto_region 1 with (fail)
 go_name_world W hW
 have hW:allocs w [.cells (stepL 5 i:List Value).toArray 32]=W:=hW
 have HS:=qh (show Holds W (w.heap.size) 32 (stepL 5 i) from holds_allocs _ hW 0 rfl)
 have hbW:=below_allocs _ hW
 have hsW:=size_allocs _ hW
 simp only [List.length_cons,List.length_nil] at hsW
 clear hW
 have HB:=qh (HB.out.bel hbW)
 clear hbW hsW
 have s0:=HS.out.cell 0
 have s1:=HS.out.cell 1
 simp only [stepL,yA,yB] at s0 s1
 go_wp2_with fail
 refine (KN.out _ HB.out.below).mono ?_
 rintro e w1 ⟨rfl,hb⟩
 have HS:=qh (HS.out.bel hb)
 have HB:=qh (HB.out.bel hb)
 clear hb s0 s1 KN
 have s0:=HS.out.cell 0
 simp only [stepL,yA,yB] at s0
 go_wp2_with fail
 refine (KT.out _ HB.out.below).mono ?_
 rintro e w2 ⟨rfl,h1,h2⟩
 have H1:=qh h1
 have HS:=qh (h2 _ _ (Nat.le_refl _) HS.out)
 clear h1 h2 s0 KT HB
 have s1:=HS.out.cell 1
 simp only [stepL,yA,yB] at s1
 go_wp2_with fail
 refine (KO.out _ H1.out).mono ?_
 rintro e w3 ⟨rfl,h3⟩
 have H3:=qh h3
 clear h3 H1 KO s1 HS
 go_wp2_with fail
 go_ret
 exact⟨rfl,H3.out⟩
theorem ctime (gC n gCl cCl j:Nat) (gcl:Nat→Nat) (rest:List Value) (dv nv cav lv hv:Value) (id seq:Int) (x:Cm) (tg tk:Int) (w:World) (h:Holds w gC 85 (clusL n dv nv (.slice (some ⟨gCl,0,none⟩) 8 cCl) cav lv hv)) (hC:Holds w gCl 92 (ptrs 8 gcl++rest)) (hj:j<8)
  (hc:CAt w (gcl j) id seq x false tg tk) :
  Calls Tryz.prog 28 #[.pointer (some ⟨gC,0,none⟩),.int .i64 ((j:Int)+1)] w fun e w'=>e=.returned (.bool true)∧Below w.heap.size w w':=by
 have KK:=qh (cknown ((j:Int)+1) (by omega) (by omega))
 have KW:=qh (fun W (h:CAt W (gcl j) id seq x false tg tk)=>tick_no (gcl j) id seq x false tg tk n W h (.inl rfl))
 have HN:=qh h;have HC:=qh hC;have HX:=qh (show Holds w (gcl j) 132 _ from hc)
 have HB:=qh (Base.start w)
 have hj8:(j:Int)<8:=by omega
 have hwr:IntKind.i64.wrap ((j:Int)+1-1)=(j:Int):=by rw [Int.add_sub_cancel];exact IntWalk.i64_in _ (by omega)
 have hj1:(j:Int)+1-1=(j:Int):=by omega
 clear h hC hc
 go_enter Tryz.func28,Tryz.ntmps28
 go_wp2_with fail
 refine (KK.out _).mono ?_
 rintro e w1 ⟨rfl,hb⟩
 have HN:=qh (HN.out.bel hb)
 have HC:=qh (HC.out.bel hb)
 have HX:=qh (HX.out.bel hb)
 have HB:=qh (HB.out.bel hb)
 clear hb
 go_upto_region 3 with (fail)
 refine' wp_region_boxes [⟨17,18,5,25,23,Cm.zero.cells,Cm.zero.cells⟩] (by kernel_rfl) (by kernel_rfl) (by kernel_rfl) ?z11 ?z21 ?bd1 _ ?h1 ?val1 ?fin1
 case z11=>
  intro x hx
  simp only [List.mem_cons,List.not_mem_nil,or_false] at hx
  subst hx
  ·exact⟨.agg (Cm.zero.cells:List Value).toArray,by kernel_rfl,rfl⟩
 case z21=>
  intro x hx
  simp only [List.mem_cons,List.not_mem_nil,or_false] at hx
  subst hx
  ·exact⟨by kernel_rfl,rfl,zeroC_one⟩
 case bd1=>
  intro x hx
  simp only [List.mem_cons,List.not_mem_nil,or_false] at hx
  subst hx
  ·simp
 case h1=>
  intro W0 hW0
  have HN:=qh (HN.out.bel hW0)
  have HC:=qh (HC.out.bel hW0)
  have HX:=qh (HX.out.bel hW0)
  have HB:=qh (HB.out.bel hW0)
  have c0_0:=fun d os=>HN.out.grown d os 0
  have c0_3:=fun d os=>HN.out.grown d os 3
  simp only [clusL,yA,yB] at c0_0 c0_3
  have pj:=fun d os=>HC.out.grown d os j
  rw [ptrs_at 8 gcl rest j hj] at pj
  simp only [List.map_cons,List.map_nil,hushOp]
  repeat go_big_quiet_step (first
   | (go_at_call 51;with_reducible exact calls_regrown fun W2 h2=>KW.out W2 (HX.out.bel h2)))
  refine wpQuiet_nil ?_
  intro w' _
  exact rfl
 case val1=>
  intro x hx
  simp only [List.mem_cons,List.not_mem_nil,or_false] at hx
  subst hx
  ·rfl
 intro β w4 hb hx hne
 have hx5:=hx _ List.mem_cons_self
 clear hx hne
 simp only [] at hx5
 simp only [patch,List.foldl,Act.put,List.setIfInBounds_toArray,List.set_cons_zero,List.set_cons_succ]
 have HN:=qh (HN.out.bel hb)
 have HC:=qh (HC.out.bel hb)
 have HX:=qh (HX.out.bel hb)
 have HB:=qh (HB.out.bel hb)
 generalize β 5=g5 at hx5 ⊢
 have H5:=qh hx5.2
 have hge5:=hx5.1
 clear hx5
 clear hb
 clear HN HC HX
 go_wp2_with fail
 go_ret
 exact⟨rfl,HB.out.below⟩
end
section
open Go.RowKit Go.Maps
set_option maxRecDepth 4000 in
theorem begin_ok2 (g:Nat) (id seq:Int) (y x:Cm) (tg0 ticks tg:Int) (w:World) (h:CAt w g id seq y false tg0 ticks) (hs:0≤seq∧seq≤1000000000) (htg:0≤tg∧tg<7) :
  Calls Tryz.prog 47 #[.pointer (some ⟨g,0,none⟩),.agg #[.int .i64 x.k,.int .i64 x.c,.int .i64 x.s,.string x.a,.string x.b,.string x.o,.string x.v],.int .i64 tg] w fun e w'=>
   (e=.returned (.tuple #[.agg #[.int .i64 x.k,.int .i64 id,.int .i64 (seq+1),.string x.a,.string x.b,.string x.o,.string x.v],.bool true])∧CAt w' g id (seq+1) ⟨x.k,id,seq+1,x.a,x.b,x.o,x.v⟩ true tg 0∧Touch g w w'∧rightA x.k id (seq+1) x.a x.b x.o x.v=true∧x.k≠0)∨(e=.returned (.tuple #[.agg Cm.zero.cells.toArray,.bool false])∧Below w.heap.size w w'∧(rightA x.k id (seq+1) x.a x.b x.o x.v=false∨x.k=0)):=by
 obtain⟨k,c,s,a,b,o,v⟩:=x
 simp only
 have c0:=h.cell 0
 have c1:=h.cell 1
 have c9:=h.cell 9
 have hg:=h.lt
 have hf:=fun i=>h.free i
 simp only [clientCells,yA,yB] at c0 c1 c9
 have hH:=qh h;clear h
 have hF:=qh hf;clear hf
 obtain⟨hs0,hs1⟩:=hs
 obtain⟨ht0,ht1⟩:=htg
 have et:decide (tg<0)=false:=by simp;omega
 have et7:decide (7≤tg)=false:=by simp;omega
 have hsw:IntKind.i64.wrap (seq+1)=seq+1:=IntWalk.i64_in _ (by omega)
 go_enter Tryz.func47,Tryz.ntmps47
 go_upto_region 1 with (fail)
 go_region
 go_upto_region 2 with (fail)
 clear hsw
 go_name_world W hW
 have hG:CAt W g id seq y false tg0 ticks:=by rw [← hW];exact holds_past (holds_past hH.out _) _
 have hX:Holds W w.heap.size 23 [.int .i64 k,.int .i64 id,.int .i64 (seq+1),.string a,.string b,.string o,.string v]:=by rw [← hW];exact holds_past (holds_alloc w _ _) _
 have hZ:Holds W (w.heap.size+1) 23 Cm.zero.cells:=by
  rw [← hW]
  have:=holds_alloc (w.alloc (.cells #[.int .i64 k,.int .i64 id,.int .i64 (seq+1),.string a,.string b,.string o,.string v] 23)) 23 Cm.zero.cells
  rw [World.size_alloc] at this
  exact this
 have hT:Touch g w W:=by rw [← hW];exact Touch.of_below (by go_grown)
 have hW0:Below w.heap.size w W:=by rw [← hW];go_grown
 clear hW c0 c1 c9
 have c9:=hG.cell 9
 have x0:=hX.cell 0
 have x1:=hX.cell 1
 have x2:=hX.cell 2
 have x3:=hX.cell 3
 have x4:=hX.cell 4
 have x5:=hX.cell 5
 have x6:=hX.cell 6
 simp only [clientCells,yA,yB] at c9 x0 x1 x2 x3 x4 x5 x6
 have hBW:Below w.heap.size w W:=hW0
 have HG:=qh hG;have HX:=qh hX;have HZ:=qh hZ;have HT:=qh hT;have HBW:=qh hBW
 clear hBW hW0
 clear hG hX hZ hT
 go_wp2_with fail
 generalize hrA:rightA k id (seq+1) a b o v=r
 refine (hrA▸right_cmd k id (seq+1) a b o v _).mono ?_
 rintro e w5 ⟨rfl,hb5⟩
 have HBW:=qh (below_next HBW.out hb5)
 have HG:=qh (HG.out.below hb5 HG.out.lt)
 have HX:=qh (HX.out.below hb5 HX.out.lt)
 have HZ:=qh (HZ.out.below hb5 HZ.out.lt)
 have HT:=qh (HT.out.next hb5)
 have hs5:=hb5.size
 clear hb5 c9 x0 x1 x2 x3 x4 x5 x6
 have x0:=HX.out.cell 0
 have x1:=HX.out.cell 1
 have x2:=HX.out.cell 2
 have x3:=HX.out.cell 3
 have x4:=HX.out.cell 4
 have x5:=HX.out.cell 5
 have x6:=HX.out.cell 6
 simp only [yA,yB] at x0 x1 x2 x3 x4 x5 x6
 have gc:=fun i=>HG.out.cell i
 have gf:=fun i=>HG.out.free i
 have zf:=fun i=>HZ.out.free i
 have g1:=gc 1
 have g2:=gc 2
 have g3:=gc 3
 have g4:=gc 4
 have g5:=gc 5
 have g6:=gc 6
 have g7:=gc 7
 have g8:=gc 8
 have g9:=gc 9
 have g10:=gc 10
 have g11:=gc 11
 have z0:=HZ.out.cell 0
 have z1:=HZ.out.cell 1
 have z2:=HZ.out.cell 2
 have z3:=HZ.out.cell 3
 have z4:=HZ.out.cell 4
 have z5:=HZ.out.cell 5
 have z6:=HZ.out.cell 6
 simp only [clientCells,Cm.zero,Cm.cells,yA,yB] at g1 g2 g3 g4 g5 g6 g7 g8 g9 g10 g11 z0 z1 z2 z3 z4 z5 z6
 clear gc
 have hne1:¬ g=w.heap.size:=by omega
 have hne2:¬ w.heap.size=g:=by omega
 have hne3:¬ g=w.heap.size+1:=by omega
 have hne4:¬ w.heap.size+1=g:=by omega
 have hrk:r=false∨(r=true∧(k==0)=true)∨(r=true∧(k==0)=false):=by
  cases r
  ·exact .inl rfl
  ·cases hk:(k==0)
   ·exact .inr (.inr ⟨rfl,rfl⟩)
   ·exact .inr (.inl ⟨rfl,rfl⟩)
 have hrA2:=qh hrA
 clear hrA
 rcases hrk with rfl|⟨rfl,ek⟩|⟨rfl,ek⟩
 ·clear g1 g2 g3 g4 g5 g6 g7 g8 g9 g10 g11 gf
  go_wp2_with fail
  have hZ3:=((((((HZ.out.set 0 (.int .i64 0)).set 1 (.int .i64 0)).set 2 (.int .i64 0)).set 3 (.string ⟨#[]⟩)).set 4 (.string ⟨#[]⟩)).set 5 (.string ⟨#[]⟩)).set 6 (.string ⟨#[]⟩)
  simp only [Cm.zero,Cm.cells,List.set_cons_succ,List.set_cons_zero] at hZ3
  have hT4:=(((((((Touch.refl (w.heap.size+1) w5).setCell 0 (.int .i64 0)).setCell 1 (.int .i64 0)).setCell 2 (.int .i64 0)).setCell 3 (.string ⟨#[]⟩)).setCell 4 (.string ⟨#[]⟩)).setCell 5 (.string ⟨#[]⟩)).setCell 6 (.string ⟨#[]⟩)
  have hB4:=HBW.out.trans (hT4.below (B:=w.heap.size) (by omega) HBW.out.size)
  have y0:=hZ3.cell 0
  have y1:=hZ3.cell 1
  have y2:=hZ3.cell 2
  have y3:=hZ3.cell 3
  have y4:=hZ3.cell 4
  have y5:=hZ3.cell 5
  have y6:=hZ3.cell 6
  simp only [yA,yB] at y0 y1 y2 y3 y4 y5 y6
  clear x0 x1 x2 x3 x4 x5 x6 z0 z1 z2 z3 z4 z5 z6 zf
  refine bodyPost_ret (v:=.tuple #[.agg Cm.zero.cells.toArray,.bool false]) ?_ rfl (.inr ⟨rfl,hB4,.inl hrA2.out⟩)
  generalize (((((((w5.setCell ⟨w.heap.size+1,0,none⟩ (.int .i64 0)).setCell ⟨w.heap.size+1,1,none⟩ (.int .i64 0)).setCell ⟨w.heap.size+1,2,none⟩ (.int .i64 0)).setCell ⟨w.heap.size+1,3,none⟩ (.string ⟨#[]⟩)).setCell ⟨w.heap.size+1,4,none⟩ (.string ⟨#[]⟩)).setCell ⟨w.heap.size+1,5,none⟩ (.string ⟨#[]⟩)).setCell ⟨w.heap.size+1,6,none⟩ (.string ⟨#[]⟩))=W3 at y0 y1 y2 y3 y4 y5 y6 ⊢
  simp [results,Tryz.results47,go_sem,y0,y1,y2,y3,y4,y5,y6,Cm.zero,Cm.cells]
  try rfl
 ·clear g1 g2 g3 g4 g5 g6 g7 g8 g9 g10 g11 gf
  go_wp2_with fail
  have hZ3:=((((((HZ.out.set 0 (.int .i64 0)).set 1 (.int .i64 0)).set 2 (.int .i64 0)).set 3 (.string ⟨#[]⟩)).set 4 (.string ⟨#[]⟩)).set 5 (.string ⟨#[]⟩)).set 6 (.string ⟨#[]⟩)
  simp only [Cm.zero,Cm.cells,List.set_cons_succ,List.set_cons_zero] at hZ3
  have hT4:=(((((((Touch.refl (w.heap.size+1) w5).setCell 0 (.int .i64 0)).setCell 1 (.int .i64 0)).setCell 2 (.int .i64 0)).setCell 3 (.string ⟨#[]⟩)).setCell 4 (.string ⟨#[]⟩)).setCell 5 (.string ⟨#[]⟩)).setCell 6 (.string ⟨#[]⟩)
  have hB4:=HBW.out.trans (hT4.below (B:=w.heap.size) (by omega) HBW.out.size)
  have y0:=hZ3.cell 0
  have y1:=hZ3.cell 1
  have y2:=hZ3.cell 2
  have y3:=hZ3.cell 3
  have y4:=hZ3.cell 4
  have y5:=hZ3.cell 5
  have y6:=hZ3.cell 6
  simp only [yA,yB] at y0 y1 y2 y3 y4 y5 y6
  clear x0 x1 x2 x3 x4 x5 x6 z0 z1 z2 z3 z4 z5 z6 zf
  refine bodyPost_ret (v:=.tuple #[.agg Cm.zero.cells.toArray,.bool false]) ?_ rfl (.inr ⟨rfl,hB4,.inr (by simpa using ek)⟩)
  generalize (((((((w5.setCell ⟨w.heap.size+1,0,none⟩ (.int .i64 0)).setCell ⟨w.heap.size+1,1,none⟩ (.int .i64 0)).setCell ⟨w.heap.size+1,2,none⟩ (.int .i64 0)).setCell ⟨w.heap.size+1,3,none⟩ (.string ⟨#[]⟩)).setCell ⟨w.heap.size+1,4,none⟩ (.string ⟨#[]⟩)).setCell ⟨w.heap.size+1,5,none⟩ (.string ⟨#[]⟩)).setCell ⟨w.heap.size+1,6,none⟩ (.string ⟨#[]⟩))=W3 at y0 y1 y2 y3 y4 y5 y6 ⊢
  simp [results,Tryz.results47,go_sem,y0,y1,y2,y3,y4,y5,y6,Cm.zero,Cm.cells]
  try rfl
 ·have hk2:k≠0:=by simpa using ek
  go_upto_region 4 with (fail)
  go_region
  go_upto_region 5 with (fail)
  go_name_world W2 hW2
  have hT2:Touch g w5 W2:=by
   rw [← hW2]
   exact ((((((((((((Touch.refl g w5).setCell 1 _).setCell 2 _).setCell 3 _).setCell 4 _).setCell 5 _).setCell 6 _).setCell 7 _).setCell 8 _).setCell 9 _).setCell 10 _).setCell 11 _).drew
  have hG2:CAt W2 g id (seq+1) ⟨k,id,seq+1,a,b,o,v⟩ true tg 0:=by
   rw [← hW2]
   have:=((((((((((HG.out.set 1 (.int .i64 (seq+1))).set 2 (.int .i64 k)).set 3 (.int .i64 id)).set 4 (.int .i64 (seq+1))).set 5 (.string a)).set 6 (.string b)).set 7 (.string o)).set 8 (.string v)).set 9 (.bool true)).set 10 (.int .i64 tg)).set 11 (.int .i64 0)
   simp only [clientCells,List.set_cons_succ,List.set_cons_zero] at this
   exact holds_drew this
  have hX2:=HX.out.touch hT2 hne2
  have hZ2:=HZ.out.touch hT2 hne4
  have hT3:=HT.out.trans hT2
  have HG2:=qh hG2;have HZ2:=qh hZ2;have HT3:=qh hT3
  clear hW2 g1 g2 g3 g4 g5 g6 g7 g8 g9 g10 g11 gf z0 z1 z2 z3 z4 z5 z6 zf x0 x1 x2 x3 x4 x5 x6 hG2 hZ2 hT3 hT2
  have x0:=hX2.cell 0
  have x1:=hX2.cell 1
  have x2:=hX2.cell 2
  have x3:=hX2.cell 3
  have x4:=hX2.cell 4
  have x5:=hX2.cell 5
  have x6:=hX2.cell 6
  have z0:=HZ2.out.cell 0
  have z1:=HZ2.out.cell 1
  have z2:=HZ2.out.cell 2
  have z3:=HZ2.out.cell 3
  have z4:=HZ2.out.cell 4
  have z5:=HZ2.out.cell 5
  have z6:=HZ2.out.cell 6
  have zf:=fun i=>HZ2.out.free i
  simp only [Cm.zero,Cm.cells,yA,yB] at x0 x1 x2 x3 x4 x5 x6 z0 z1 z2 z3 z4 z5 z6
  clear hX2
  go_wp2_with fail
  have hZ3:=((((((HZ2.out.set 0 (.int .i64 k)).set 1 (.int .i64 id)).set 2 (.int .i64 (seq+1))).set 3 (.string a)).set 4 (.string b)).set 5 (.string o)).set 6 (.string v)
  simp only [Cm.zero,Cm.cells,List.set_cons_succ,List.set_cons_zero] at hZ3
  have hT4:=(((((((Touch.refl (w.heap.size+1) W2).setCell 0 (.int .i64 k)).setCell 1 (.int .i64 id)).setCell 2 (.int .i64 (seq+1))).setCell 3 (.string a)).setCell 4 (.string b)).setCell 5 (.string o)).setCell 6 (.string v)
  have hG3:=HG2.out.touch hT4 hne3
  have hB4:=hT4.below (B:=w.heap.size) (by omega) HT3.out.size
  have hT5:=HT3.out.then hB4
  have y0:=hZ3.cell 0
  have y1:=hZ3.cell 1
  have y2:=hZ3.cell 2
  have y3:=hZ3.cell 3
  have y4:=hZ3.cell 4
  have y5:=hZ3.cell 5
  have y6:=hZ3.cell 6
  simp only [yA,yB] at y0 y1 y2 y3 y4 y5 y6
  clear x0 x1 x2 x3 x4 x5 x6 z0 z1 z2 z3 z4 z5 z6 zf
  refine bodyPost_ret (v:=.tuple #[.agg #[.int .i64 k,.int .i64 id,.int .i64 (seq+1),.string a,.string b,.string o,.string v],.bool true]) ?_ rfl (.inl ⟨rfl,hG3,hT5,hrA2.out,hk2⟩)
  generalize (((((((W2.setCell ⟨w.heap.size+1,0,none⟩ (.int .i64 k)).setCell ⟨w.heap.size+1,1,none⟩ (.int .i64 id)).setCell ⟨w.heap.size+1,2,none⟩ (.int .i64 (seq+1))).setCell ⟨w.heap.size+1,3,none⟩ (.string a)).setCell ⟨w.heap.size+1,4,none⟩ (.string b)).setCell ⟨w.heap.size+1,5,none⟩ (.string o)).setCell ⟨w.heap.size+1,6,none⟩ (.string v))=W3 at y0 y1 y2 y3 y4 y5 y6 ⊢
  simp [results,Tryz.results47,go_sem,y0,y1,y2,y3,y4,y5,y6]
end
end Go.Proofs.YtimdpiifpibgfaaGreatDoor
