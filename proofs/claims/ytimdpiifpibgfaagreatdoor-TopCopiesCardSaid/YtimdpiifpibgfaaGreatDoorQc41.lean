/- A part of the proof that the law TopCopies returns true for every input. -/
import Derived.Test.YtimdpiifpibgfaaGreatDoorQc40
set_option linter.all false
set_option maxRecDepth 20000
set_option maxHeartbeats 16000000
open Go.RowKit Go.Maps
namespace Go.Proofs.YtimdpiifpibgfaaGreatDoor
open Tryz
section
theorem Stepped.trans{w w1 w2:World}{own own1 own2:Nat→Nat}(h:Stepped w own w1 own1)(h2:Stepped w1 own1 w2 own2):Stepped w own w2 own2:=by
 have hs:=h.2.size;refine⟨λk hk=>(h2.1 k (by omega)).trans (h.1 k hk),h.2.mv h2.2 λk hk=>?_⟩;by_cases hkl:k<w.heap.size
 ·left;rw[h.1 k hkl] at hk;exact hk
 ·exact .inr (by omega)
theorem Stepped.bel{w w1 w2:World}{own own1:Nat→Nat}(h:Stepped w own w1 own1)(hb:Below w1.heap.size w1 w2):Stepped w own w2 own1:=⟨h.1,h.2.bel hb⟩
instance {w w1 w2:World}{own own1:Nat→Nat}:Bl w1 w2 (Stepped w own w1 own1) (Stepped w own w2 own1):=⟨λhb h=>Stepped.bel h hb⟩
theorem Stepped.refl(w:World)(own:Nat→Nat):Stepped w own w own:=⟨λ_ _=>rfl,Mv.refl _ _⟩
variable [In] [Bs] [Hs]
structure NY(c:Cm):Prop where
 ck:cK c<8
 ev:Hs.ev.length≤900
 rp:(Lu c).ps.length≤1000
theorem QK(c:Cm)(q:Nat)(m:Lt)(rest:List Lt):flat 51 (m :: rest).length (Dt c q (m :: rest))=Wx c q m++flat 51 rest.length (Dt c q rest):=by
 have h:=Ot c q [m] rest;rw[show [m]++rest=m :: rest from rfl] at h;rw[←h]
 congr 1
 exact Ho (s:=51) (V:=Dt c q [m]) rfl
section
variable {w w':World} {own:Nat→Nat} {gC n q:Nat} {c:Cm} {lets:List Lt} {hist:Nat} {wait:Bool} {dv:Value} {gN cN gCl cCl gCa:Nat} {lv hv:Value} {gs gcl:Nat→Nat}
theorem Nh.off{m:Lt}{rest:List Lt}{gl cap:Nat}(h:Nh w own gC n q c lets hist wait dv gN cN gCl cCl gCa (.slice (some ⟨gl,0,none⟩) (rest.length+1:Nat) cap) hv gs gcl)(hgl:own gl=1)(hh:∃L,Holds w gl 47 L) (ho:Off gC n dv (.slice (some ⟨gN,0,none⟩) n cN) (.slice (some ⟨gCl,0,none⟩) 8 cCl) (.slice (some ⟨gCa,0,none⟩) 8 8) hv gl rest.length cap (flat 51 rest.length (Dt c q rest)) w w') :Nh w' own gC n q c rest hist wait dv gN cN gCl cCl gCa (.slice (some ⟨gl,0,none⟩) rest.length cap) hv gs gcl:=by
 obtain⟨o1,o2,o3⟩:=ho;obtain⟨L,hL⟩:=hh;have hs:=o3.size;have hcl:=h.cl;have hnT:∀k t L,Holds w k t L→t≠85→t≠47→¬(k=gC∨k=gl):=by
  rintro k t L hk ht1 ht2 (rfl|rfl)
  ·exact ht1 (CP hk hcl)
  ·exact ht2 (CP hk hL)
 obtain⟨hnil,obh,pvh,pbh,hh1,hh2,hh3⟩:=h.his;have hnO:∀{v:Value} {ob:Option Nat} {e:TypeId} {s n:Nat} {xs:List Value},AO w v ob e s n xs→e≠85→e≠47→∀g,ob=some g→¬(g=gC∨g=gl):=λho h1 h2 g hg h=>by
  rcases h with h|h
  ·exact AO.ne_of ho hcl h1 g hg h
  ·exact AO.ne_of ho hL h2 g hg h
 refine h.turn o3 (λk hk _=>?_) o1 ⟨some gl,o2,λg hg=>by cases hg;exact hgl⟩ ⟨hnil,obh,pvh,pbh,hh1.keep o3 (hnO hh1.1 (by decide) (by decide)) (λi hi=>hnO (hh1.2 i hi) (by decide) (by decide)),hh2,hh3⟩ ?_ id (λ_ _=>rfl) (λk hk=>Nat.lt_of_lt_of_le (h.lt k hk) hs)
 ·rcases hk with rfl|rfl
  ·exact .inr (.inl ⟨_,_,hcl,by decide⟩)
  ·exact .inr (.inl ⟨_,_,hL,by decide⟩)
 ·rcases h.c0 with⟨e1,e2,tg,tk,e3⟩|⟨e1,tg,tk,e3⟩
  ·exact .inl ⟨e1,e2,tg,tk,e3.mv o3 (hnT _ _ _ e3 (by decide) (by decide))⟩
  ·exact .inr ⟨e1,tg,tk,e3.mv o3 (hnT _ _ _ e3 (by decide) (by decide))⟩
end
theorem NR{n q:Nat}{ph ph':Ph}{m:Lt}{out:List Lt}{an:Bool}(h:JV n q ph m=some (ph',out,an))(hq:q<n):m.2.2<n∧m.2.1<n∧∀x∈out,x.2.2<n:=by
 unfold JV at h;split at h
 ·cases h
 rename_i hc;simp only[not_or,Nat.not_le] at hc;refine⟨hc.2.2,hc.2.1,?_⟩;have hsend:∀k,∀x∈Bz k n q,x.2.2<n:=by intro k x hx;simp only[Bz,FU,List.mem_map,List.mem_range] at hx;obtain⟨r,⟨i,hi,rfl⟩,rfl⟩:=hx;show (if i<q then i else i+1)<n;split<;>omega
 repeat' split at h
 all_goals first
  | (cases h;done)
  | (simp only[Option.some.injEq,Prod.mk.injEq] at h
     obtain⟨_,rfl,_⟩:=h;first
     | exact hsend _
     | (intro x hx;simp at hx;try(subst hx;exact hq)))
theorem Tc(w W:World)(own:Nat→Nat)(gC n q:Nat)(c:Cm)(s:Cs)(m:Lt)(letsR:List Lt)(ph':Ph)(outl:List Lt)(an:Bool){dv:Value}{gN cN gCl cCl gCa:Nat}{lv hv:Value}{gs gcl:Nat→Nat}(hBs:EN n q c)(hck:cK c<8) (hB:Nh W own gC n q c letsR s.hist s.wait dv gN cN gCl cCl gCa lv hv gs gcl) (hN:Hm W own n q c s.phs s.tk gs (λ_=>[]) (λ_=>false)) (hp:s.phs.length=n) (hol:∀k,own k≠0→k<w.heap.size) (hsp:Stepped w own W own) (ht:JV n q (s.phs.getD m.2.2 .fresh) m=some (ph',outl,an)) (hd:m.2.2<n) :Calls prog 50 #[.pointer (some ⟨gs m.2.2,0,none⟩),.agg (Wx c q m).toArray] W λe W'=>(∃b,e=.returned (.bool b))∧(∃own2,JB W' own2 gC n q c { s with lets:=letsR,phs:=s.phs.set m.2.2 ph' } (λj=>if j=m.2.2 then outl else []) (λj=>if j=m.2.2 then an else false)∧Stepped w own W' own2)∧∀g L,w.heap.size≤g→Holds W g 47 L→Holds W' g 47 L:=by
 have hsz:=hsp.2.size;refine Ac (XF W (λk=>own k=2+m.2.2) (gs m.2.2) n m.2.2 q c _ ph' m outl an s.tk hBs (hN m.2.2 hd) rfl ht) ?_;rintro W' ⟨hnc,hm⟩;have hs3:=hm.size;have hold:∀k,k<W.heap.size→Bo own W W' (2+m.2.2) k=own k:=λk hk=>Dj _ _ _ _ _ hk;refine⟨⟨_,rfl⟩,⟨Bo own W W' (2+m.2.2),⟨dv,gN,cN,gCl,cCl,gCa,_,hv,gs,gcl,hB.mv hck hm (λk hk _=>by omega) hold (Gq hB.lt hs3),λj hj=>?_,by simpa using hp⟩,hsp.trans ⟨hold,hm.more λk hk=>by omega⟩⟩,λg L hg hL=>hL.mv hm λhx=>?_⟩
 ·by_cases hj2:j=m.2.2
  ·subst hj2;have h9:(s.phs.set m.2.2 ph').getD m.2.2 .fresh=ph':=by simp[List.getD_eq_getElem?_getD,hp,hd]
   simp only[if_true];rw[h9];exact hnc.foot λk hk hkl=>by
    rcases hk with hk|⟨h5,h6⟩
    ·rw[hold k (Nat.lt_of_lt_of_le (hol k (by omega)) hsz)];exact hk
    ·exact Di _ _ _ _ _ h5 h6
  ·have h9:(s.phs.set m.2.2 ph').getD j .fresh=s.phs.getD j .fresh:=by simp[List.getD_eq_getElem?_getD,List.getElem?_set,Ne.symm hj2]
   simp only[if_neg hj2];rw[h9];have h8:Bh W' (λk=>own k=2+j) (gs j) n j q c (s.phs.getD j .fresh) [] false s.tk:=(hN j hj).mv hm λk hk _ hf2=>by omega
   exact h8.foot λk hk hkl=>by rw[hold k (Nat.lt_of_lt_of_le (hol k (by omega)) hsz)];exact hk
 ·have:=hol g (by omega);omega
theorem Vh(w W:World)(own own2:Nat→Nat)(gC n q i:Nat)(c:Cm)(s s':Cs)(letsR:List Lt)(ph':Ph)(outl:List Lt)(an:Bool)(hBs:EN n q c)(hH:NY c)(hs:OE s letsR i ph' outl an=some s')(hi:i<n)(hdest:∀m∈outl,m.2.2<n) (hG:JB W own2 gC n q c { s with lets:=letsR,phs:=s.phs.set i ph' } (λj=>if j=i then outl else []) (λj=>if j=i then an else false)) (hsp:Stepped w own W own2) :Calls prog 31 #[.pointer (some ⟨gC,0,none⟩),.int .i64 i] W λe w'=>e=.returned (.tuple #[])∧∃own',Bg w' own' gC n q c s'∧Stepped w own w' own':=by
 unfold OE at hs;split at hs
 ·cases hs
 rename_i hsum;cases an with
 | false=>
  simp only[Bool.false_eq_true,if_false,Option.some.injEq] at hs;subst hs;refine Ac (Ny W own2 gC n q i c _ outl _ _ hG hi (by simp) (λj hj=>by simp[hj]) (λj=>by simp) hdest (by simp;omega) hH.ck) ?_;rintro w' ⟨own',h5,h6⟩;exact⟨rfl,own',h5,hsp.trans h6⟩
 | true=>
  simp only[if_true] at hs;split at hs
  ·rename_i hw;simp only[Option.some.injEq] at hs;subst hs;refine Ac (ae W own2 gC n q i c _ outl _ _ hG hi (by simp) (λj hj=>by simp[hj]) (by simp) (λj hj=>by simp[hj]) hw.2 hw.1 hH.ck hH.rp (by have:=hH.ev;simp[evs];omega) hdest (by simp;omega)) ?_;rintro w' ⟨own',h5,h6⟩;exact⟨rfl,own',h5,hsp.trans h6⟩
  ·cases hs
theorem Z8(w:World)(own:Nat→Nat)(gC n q:Nat)(c:Cm)(s s':Cs)(h:Bg w own gC n q c s)(hs:Ei n q false s=some s')(hlen:s.lets.length≤1000)(hBs:EN n q c)(hH:NY c) :Calls prog 27 #[.pointer (some ⟨gC,0,none⟩),.agg (CZ 2 0).toArray] w λe w'=>e=.returned (.bool true)∧∃own',Bg w' own' gC n q c s'∧Stepped w own w' own':=by
 cases hsl:s.lets with
 | nil=>rw[Ei,hsl] at hs;cases hs
 | cons m rest=>
  rw[Ei,hsl] at hs;rw[hsl] at hlen;have hlen2:rest.length+1≤1000:=by simpa using hlen
  cases ht:JV n q (s.phs.getD m.2.2 .fresh) m with
  | none=>simp only[ht,Option.bind_none] at hs;cases hs
  | some r=>
   obtain⟨ph',outl,an⟩:=r;simp only[ht,Option.bind_some,Bool.false_eq_true,if_false] at hs;obtain⟨hd,hf,hdest⟩:=NR ht hBs.hq;obtain⟨dv,gN,cN,gCl,cCl,gCa,lv,hvv,gs,gcl,hB,hN,hp⟩:=h;obtain⟨rN,hnp⟩:=hB.np;obtain⟨ob,hl1,hl2⟩:=hB.lts;rw[hsl,QK] at hl1;obtain⟨gl,cap,rl,rfl,rfl,_,_,hh,_⟩:=hl1.blk (Nat.succ_pos _);have hol:=hB.lt;have hgl:=hl2 gl rfl;have hown:=hB.ow.1;refine(WC gC gN n cN gl rest.length cap gs rN m.1 m.2.1 m.2.2 q (if m.1=2 then Cm.zero else c) dv _ _ hvv _
    (λW'=>∃own2,JB W' own2 gC n q c { s with lets:=rest,phs:=s.phs.set m.2.2 ph' } (λj=>if j=m.2.2 then outl else []) (λj=>if j=m.2.2 then an else false)∧Stepped w own W' own2)
    (λW'=>∃own',Bg W' own' gC n q c s'∧Stepped w own W' own') w hB.cl hnp hd hl1 (G9 c q rest _) (by omega) (λW hO=>?_) (λW hR=>?_)).mono ?_
   ·have hsp:Stepped w own W own:=⟨λ_ _=>rfl,hO.2.2.more λk hk=>by rcases hk with rfl|rfl<;>omega⟩;exact Tc w W own gC n q c s m rest ph' outl an hBs hH.ck (hB.off (m:=m) hgl ⟨_,hh⟩ hO) (hN.mv hO.2.2 (λk hk _=>by rcases hk with rfl|rfl<;>omega) (λ_ _=>rfl)) hp hol hsp ht hd
   ·obtain⟨own2,hG,hsp⟩:=hR;exact Vh w W own own2 gC n q m.2.2 c s s' rest ph' outl an hBs hH hs hd hdest hG hsp
   ·rintro e w' ⟨rfl,h9⟩;exact⟨rfl,h9⟩
theorem Zm(w:World)(own:Nat→Nat)(gC n q:Nat)(c:Cm)(s s':Cs)(h:Bg w own gC n q c s)(hs:Ei n q true s=some s')(hlen:s.lets.length≤1000)(hBs:EN n q c)(hH:NY c) :Calls prog 27 #[.pointer (some ⟨gC,0,none⟩),.agg (CZ 3 0).toArray] w λe w'=>e=.returned (.bool true)∧∃own',Bg w' own' gC n q c s'∧Stepped w own w' own':=by
 cases hsl:s.lets with
 | nil=>rw[Ei,hsl] at hs;cases hs
 | cons m rest=>
  rw[Ei,hsl] at hs;rw[hsl] at hlen;have hlen2:rest.length+1≤1000:=by simpa using hlen
  cases ht:JV n q (s.phs.getD m.2.2 .fresh) m with
  | none=>simp only[ht,Option.bind_none] at hs;cases hs
  | some r=>
   obtain⟨ph',outl,an⟩:=r;simp only[ht,Option.bind_some,if_true] at hs;obtain⟨hd,hf,hdest⟩:=NR ht hBs.hq;obtain⟨dv,gN,cN,gCl,cCl,gCa,lv,hvv,gs,gcl,hB,hN,hp⟩:=h;obtain⟨rN,hnp⟩:=hB.np;obtain⟨ob,hl1,hl2⟩:=hB.lts;have hB0:=hB;rw[hsl,QK] at hl1;rw[hsl] at hB;obtain⟨gl,cap,rl,rfl,rfl,_,_,hh,_⟩:=hl1.blk (Nat.succ_pos _);have hol:=hB.lt;refine(WB gC gN n cN gl rest.length cap gs rN m.1 m.2.1 m.2.2 q (if m.1=2 then Cm.zero else c) dv _ _ hvv _
    (λW'=>∃own2,JB W' own2 gC n q c { s with lets:=m :: rest,phs:=s.phs.set m.2.2 ph' } (λj=>if j=m.2.2 then outl else []) (λj=>if j=m.2.2 then an else false)∧Stepped w own W' own2)
    (λW'=>∃own',Bg W' own' gC n q c s'∧Stepped w own W' own') w hB.cl hnp hd hl1 (G9 c q rest _) (by omega) (λW hO=>?_) (λW hR=>?_)).mono ?_
   ·have hsp:Stepped w own W own:=(Stepped.refl w own).bel hO;exact Tc w W own gC n q c s m (m :: rest) ph' outl an hBs hH.ck (hB.mv (G:=λ_=>False) hH.ck (.of_below hO) (λ_ h=>h.elim) (λ_ _=>rfl) (λk hk=>Nat.lt_of_lt_of_le (hB.lt k hk) hO.size)) (hN.mv (G:=λ_=>False) (.of_below hO) (λ_ h=>h.elim) (λ_ _=>rfl)) hp hol hsp ht hd
   ·obtain⟨own2,hG,hsp⟩:=hR;exact Vh w W own own2 gC n q m.2.2 c s s' (m :: rest) ph' outl an hBs hH hs hd hdest hG hsp
   ·rintro e w' ⟨rfl,h9⟩;exact⟨rfl,h9⟩
end
theorem Xe:Cm.zero.cells.toArray.all (·.oneCell')=true:=by simp[Cm.zero,Cm.cells,Value.oneCell']
def Eb(cl tto:Int)(x:Cm):List Value:=[.int .i64 1,.int .i64 tto,.int .i64 0,.int .i64 cl,.int .i64 x.k,.int .i64 x.c,.int .i64 x.s,.string x.a,.string x.b,.string x.o,.string x.v,.slice none 0 0]
theorem Rj(gC:Nat)(b:Bool)(R:World→Prop)(w:World) (KL:∀W,Below w.heap.size w W→Calls prog 27 #[.pointer (some ⟨gC,0,none⟩),.agg (CZ 2 0).toArray] W λe W'=>e=.returned (.bool b)∧R W') :Calls prog 11 #[.pointer (some ⟨gC,0,none⟩),.agg (CZ 2 0).toArray] w λe w'=>e=.returned (.bool b)∧R w':=by have KL:=qh KL;have HB:=qh (Base.start w);go_in;go_upto_region 1 with(fail);go_name_world W hW;obtain⟨HS,hbW,hsW⟩:=Ff 32 (CZ 2 0) hW;clear hW;have HB:=ET hbW HB;clear hbW hsW;have hgS:w.heap.size=w.heap.size:=rfl;generalize hB0:w.heap.size=gS at HS HB KL hgS ⊢;have s0:=Ag HS.o 0;have HR:=qh HS.AY;go_wp2_with (first|(with_reducible refine lR 0 HR.o ?_));refine Ac (KL.o _ HB.below) ?_;rintro w1 h1;have H1:=qh h1;clear h1 s0 HR HS HB;go_wp2_with fail;go_ret;exact⟨rfl,H1.o⟩
theorem X4(gC:Nat)(b:Bool)(R:World→Prop)(w:World) (KL:∀W,Below w.heap.size w W→Calls prog 27 #[.pointer (some ⟨gC,0,none⟩),.agg (CZ 3 0).toArray] W λe W'=>e=.returned (.bool b)∧R W') :Calls prog 11 #[.pointer (some ⟨gC,0,none⟩),.agg (CZ 3 0).toArray] w λe w'=>e=.returned (.bool b)∧R w':=by have KL:=qh KL;have HB:=qh (Base.start w);go_in;go_upto_region 1 with(fail);go_name_world W hW;obtain⟨HS,hbW,hsW⟩:=Ff 32 (CZ 3 0) hW;clear hW;have HB:=ET hbW HB;clear hbW hsW;have hgS:w.heap.size=w.heap.size:=rfl;generalize hB0:w.heap.size=gS at HS HB KL hgS ⊢;have s0:=Ag HS.o 0;have HR:=qh HS.AY;go_wp2_with (first|(with_reducible refine lR 0 HR.o ?_));refine Ac (KL.o _ HB.below) ?_;rintro w1 h1;have H1:=qh h1;clear h1 s0 HR HS HB;go_wp2_with fail;go_ret;exact⟨rfl,H1.o⟩
theorem X3(gC:Nat)(cl:Int)(tto:Nat)(x:Cm)(R:Bool→World→Prop)(w:World) (KL:∀W,Below w.heap.size w W→Calls prog 26 #[.pointer (some ⟨gC,0,none⟩),.agg (Eb cl tto x).toArray] W λe W'=>∃b,e=.returned (.bool b)∧R b W') :Calls prog 11 #[.pointer (some ⟨gC,0,none⟩),.agg (Eb cl tto x).toArray] w λe w'=>∃b,e=.returned (.bool b)∧R b w':=by have KL:=qh KL;have HB:=qh (Base.start w);go_in;go_upto_region 1 with(fail);go_name_world W hW;obtain⟨HS,hbW,hsW⟩:=Ff 32 (Eb cl tto x) hW;clear hW;have HB:=ET hbW HB;clear hbW hsW;have hgS:w.heap.size=w.heap.size:=rfl;generalize hB0:w.heap.size=gS at HS HB KL hgS ⊢;have s0:=Ag HS.o 0;have HR:=qh HS.AY;go_wp2_with (first|(with_reducible refine lR 0 HR.o ?_));refine(KL.o _ HB.below).mono ?_;rintro e w1 ⟨b,rfl,h1⟩;have H1:=qh h1;clear h1 s0 HR HS HB;go_wp2_with fail;go_ret;exact⟨b,rfl,H1.o⟩
theorem X6(gC:Nat)(id:Int)(b:Bool)(R:World→Prop)(w:World) (KL:∀W,Below w.heap.size w W→Calls prog 28 #[.pointer (some ⟨gC,0,none⟩),.int .i64 id] W λe W'=>e=.returned (.bool b)∧R W') :Calls prog 11 #[.pointer (some ⟨gC,0,none⟩),.agg (CZ 6 id).toArray] w λe w'=>e=.returned (.bool b)∧R w':=by have KL:=qh KL;have HB:=qh (Base.start w);go_in;go_upto_region 1 with(fail);go_name_world W hW;obtain⟨HS,hbW,hsW⟩:=Ff 32 (CZ 6 id) hW;clear hW;have HB:=ET hbW HB;clear hbW hsW;obtain⟨s0,s1⟩:=CU HS.o 0 1;go_wp2_with fail;refine Ac (KL.o _ HB.below) ?_;rintro w1 h1;have H1:=qh h1;clear h1 s0 s1 HS HB;go_wp2_with fail;go_ret;exact⟨rfl,H1.o⟩
theorem X5(gC i g:Nat)(R1 R2:World→Prop)(w:World) (KN:∀W,Below w.heap.size w W→Calls prog 17 #[.pointer (some ⟨gC,0,none⟩),.int .i64 i] W λe W'=>e=.returned (.pointer (some ⟨g,0,none⟩))∧Below W.heap.size W W') (KT:∀W,Below w.heap.size w W→Calls prog 30 #[.pointer (some ⟨g,0,none⟩)] W λe W'=>e=.returned (.tuple #[])∧R1 W'∧∀k L,w.heap.size≤k→Holds W k 32 L→Holds W' k 32 L) (KO:∀W,R1 W→Calls prog 31 #[.pointer (some ⟨gC,0,none⟩),.int .i64 i] W λe W'=>e=.returned (.tuple #[])∧R2 W') :Calls prog 11 #[.pointer (some ⟨gC,0,none⟩),.agg (CZ 5 i).toArray] w λe w'=>e=.returned (.bool true)∧R2 w':=by have KN:=qh KN;have KT:=qh KT;have KO:=qh KO;have HB:=qh (Base.start w);go_in;go_upto_region 1 with(fail);go_name_world W hW;obtain⟨HS,hbW,hsW⟩:=Ff 32 (CZ 5 i) hW;clear hW;have HB:=ET hbW HB;clear hbW hsW;obtain⟨s0,s1⟩:=CU HS.o 0 1;go_wp2_with fail;refine Ac (KN.o _ HB.below) ?_;rintro w1 hb;obtain⟨HS,HB⟩:=DC hb HS HB;clear hb s0 s1 KN;have s0:=Ag HS.o 0;go_wp2_with fail;refine Ac (KT.o _ HB.below) ?_;rintro w2 ⟨h1,h2⟩;have H1:=qh h1;have HS:=qh (h2 _ _ (Nat.le_refl _) HS.o);clear h1 h2 s0 KT HB;have s1:=Ag HS.o 1;go_wp2_with fail;refine Ac (KO.o _ H1.o) ?_;rintro w3 h3;have H3:=qh h3;clear h3 H1 KO s1 HS;go_wp2_with fail;go_ret;exact⟨rfl,H3.o⟩
theorem ctime(gC n gCl cCl j:Nat)(gcl:Nat→Nat)(rest:List Value)(dv nv cav lv hv:Value)(id seq:Int)(x:Cm)(tg tk:Int)(w:World)(h:Holds w gC 85 (DV n dv nv (.slice (some ⟨gCl,0,none⟩) 8 cCl) cav lv hv))(hC:Holds w gCl 92 (ptrs 8 gcl++rest))(hj:j<8) (hc:Ju w (gcl j) id seq x false tg tk) :Calls prog 28 #[.pointer (some ⟨gC,0,none⟩),.int .i64 ((j:Int)+1)] w λe w'=>e=.returned (.bool true)∧Below w.heap.size w w':=by
 have KK:=qh (UM ((j:Int)+1) (by omega) (by omega));have KW:=qh (λW (h:Ju W (gcl j) id seq x false tg tk)=>bV (gcl j) id seq x false tg tk n W h (.inl rfl));have HN:=qh h;have HC:=qh hC;have HX:=qh (show Holds w (gcl j) 132 _ from hc);have HB:=qh (Base.start w);have hj8:(j:Int)<8:=by omega
 have hwr:IntKind.i64.wrap ((j:Int)+1-1)=(j:Int):=by rw[Int.add_sub_cancel];exact IntWalk.i64_in _ (by omega)
 have hj1:(j:Int)+1-1=(j:Int):=by omega
 clear h hC hc;go_in;go_wp2_with fail;refine Ac (KK.o _) ?_;rintro w1 hb;obtain⟨HN,HC,HX,HB⟩:=Dy hb HN HC HX HB;clear hb;go_upto_region 3 with(fail);refine' bx1 ⟨17,18,5,25,23,Cm.zero.cells,Cm.zero.cells⟩ _ Xe ?h1 ?val1 ?fin1;case h1=>
  intro W0 hW0;obtain⟨HN,HC,HX,HB⟩:=Dy hW0 HN HC HX HB;obtain⟨c0_0,c0_3⟩:=Jo HN.o 0 3;have pj:=λd os=>HC.grown d os j;rw[Jl 8 gcl rest j hj] at pj;simp only[List.map_cons,List.map_nil,A8];repeat go_big_quiet_step (first|(go_at_call 51;with_reducible exact AL λW2 h2=>KW.o W2 (HX.o.bel h2)))
  refine wpQuiet_nil ?_;intro w' _;exact rfl
 case val1=>rfl
 intro β w4 hb hx5;simp only[] at hx5;simp only[Dk,List.foldl,Act.put,List.setIfInBounds_toArray,List.set_cons_zero,List.set_cons_succ];obtain⟨HN,HC,HX,HB⟩:=Dy hb HN HC HX HB;generalize β 5=g5 at hx5 ⊢;have H5:=qh hx5.2;have hge5:=hx5.1;clear hx5;clear hb;clear HN HC HX;go_wp2_with fail;go_ret;exact⟨rfl,HB.below⟩
section
def sizeOf3(r:Nat):Nat:=if r=0 then 3 else if r=1 then 5 else 7
theorem kY(n:Int)(r:Nat)(hn:-9223372036854775808≤n∧n≤9223372036854775807)(hr:n % 3=(r:Int))(w:World)(R:Nat→World→Prop) (KN:∀W,Below w.heap.size w W→Calls prog 25 #[.int .i64 (sizeOf3 r)] W λe W'=>∃gC,e=.returned (.tuple #[.pointer (some ⟨gC,0,none⟩),.int .i64 0])∧R gC W') :Calls prog 7 #[.int .i64 n] w λe w'=>∃gC,e=.returned (.pointer (some ⟨gC,0,none⟩))∧R gC w':=by
 have hr3:r<3:=by omega
 have KW:=qh (λW=>LQ n 0 2 W hn (by omega) (by omega) (by omega));have hb3:(Instr.buildSlice 30 3 #[(0,.int .i64 3),(1,.int .i64 5),(2,.int .i64 7)]).run prog w=.ok (.slice (some ⟨w.heap.size,0,none⟩) 3 3) (w.alloc (.cells #[.int .i64 3,.int .i64 5,.int .i64 7] 3)):=by kernel_rfl
 have KN:=qh KN;have HB:=qh (Base.start w);go_in;go_upto_region 1 with(fail);go_wp2_with fail;have hbW:Below w.heap.size w (w.alloc (.cells #[.int .i64 3,.int .i64 5,.int .i64 7] 3)):=(Below.refl _ _).alloc (Nat.le_refl _) _;have HX:=qh (AA w 3 [.int .i64 3,.int .i64 5,.int .i64 7]);have HB:=ET hbW HB;clear hbW;generalize hB0:w.heap.size=gx at HX HB KN ⊢;generalize w.alloc (.cells #[.int .i64 3,.int .i64 5,.int .i64 7] 3)=W1 at HX HB ⊢;refine Ac (KW.o _) ?_;rintro w1 rfl;have hr2:0+n % (2-0+1)=(r:Int):=by omega
 rw[hr2];have p:=HX.cell r;rw[show ([.int .i64 3,.int .i64 5,.int .i64 7]:List Value)[r]?=some (.int .i64 (sizeOf3 r)) by rcases(show r=0∨r=1∨r=2 by omega) with rfl|rfl|rfl<;>rfl] at p;have hri:(r:Int)<3:=by omega
 clear hr2 hr hn KW HX;go_wp2_with fail;refine(KN.o _ HB.below).mono ?_;rintro e w2 ⟨gC,rfl,h2⟩;have H2:=qh h2;clear h2 p HB KN;go_wp2_with fail;go_ret;exact⟨gC,rfl,H2.o⟩
section
variable {P:Program} {ops:Array Oper} {Q:Exit→Act→World→Prop}
theorem Pv{rest:List Oper}{o:Oper}{a:Act}{w:World}(hw:Region.wanted o (yielded ops a.tmps)=true)(t:TypeId)(i j k l:Nat)(p:Value)(q r s:Tmp)(ho:o.op=.build t #[(i,.const p),(j,.tmp q),(k,.tmp r),(l,.tmp s)])(u v x:Value)(hu:a.eval (.tmp q)=u)(hv:a.eval (.tmp r)=v)(hx:a.eval (.tmp s)=x) (z:Value) (hr:∀w,(Instr.build t #[(i,p),(j,u),(k,v),(l,x)]).run P w=.ok z w) (h:wpList P ops Q rest (a.put o.dst z) w):wpList P ops Q (o :: rest) a w:=
 wpList_step λK hK=>by rw[if_pos hw];unfold Oper.wp execOp;simp only[ho,List.map_toArray,List.map_cons,List.map_nil,hu,hv,hx];rw[show a.eval (.const p)=p from rfl,Sem.run_bind,hr];exact hK _ _ h
end
theorem TZ(cl:Int)(tto:Nat)(x:Cm)(w:World):(Instr.build 32 #[(0,.int .i64 1),(3,.int .i64 cl),(1,.int .i64 tto),(4,.agg x.cells.toArray)]).run prog w=.ok (.agg (Eb cl tto x).toArray) w:=by kernel_rfl
theorem QX(cl:Int)(tto:Nat)(x:Cm):(Eb cl tto x).toArray.all (·.oneCell')=true:=by simp[Eb,Value.oneCell']
theorem cu(cl:Int)(tto:Nat)(x:Cm)(w:World) :Calls prog 12 #[.int .i64 cl,.int .i64 tto,.agg x.cells.toArray] w λe w'=>e=.returned (.agg (Eb cl tto x).toArray)∧Below w.heap.size w w':=by
 go_in;go_upto_region 1 with(fail);go_name_world W hW;have hW:BR w [.cells (x.cells:List Value).toArray 23,.cells (CZ 0 0:List Value).toArray 32]=W:=hW;have HX:=qh (show Holds W (w.heap.size) 23 (x.cells) from AX _ hW 0 rfl);have HS:=qh (show Holds W (w.heap.size+1) 32 (CZ 0 0) from AX _ hW 1 rfl);have hbW:=Ae _ hW;have hsW:=BP _ hW;simp only[List.length_cons,List.length_nil] at hsW;clear hW;have HB:=qh (Base.start w);have HB:=ET hbW HB;clear hbW hsW;have HRG:=qh HX.AY;generalize hx0:w.heap.size+1=gs at HS ⊢;have hgs:w.heap.size≤gs:=by omega
 generalize hw0:w.heap.size=gx at HX HRG HB hgs hx0 ⊢;go_wp2_with (first|(refine lM 0 HRG.o ?_)|(with_reducible show wpList _ _ _ (_ :: _) _ _;refine Pv (by kernel_rfl) 32 0 3 1 4 _ _ _ _ rfl (.int .i64 cl) (.int .i64 tto) (.agg x.cells.toArray) rfl rfl rfl (.agg (Eb cl tto x).toArray) (TZ cl tto x) ?_)|(refine sW (Eb cl tto x) HS.o ?_ (QX _ _ _);intro w3 hh3 ht3));have HB:=qh (HB.touch ht3 (by omega));have HR:=qh hh3.AY;clear hh3 ht3 HRG;refine bC HR.o ?_;exact⟨rfl,hw0▸HB.below⟩
end
def IE:Cm:=⟨2,0,0,⟨#[97]⟩,⟨#[]⟩,⟨#[]⟩,⟨#[98]⟩⟩
theorem RG(P:Value)(o:Nat→Ow)(pv:Nat→Value)(w:World):(Instr.field 66 (.agg (Es P o pv).toArray) 0).run prog w=.ok P w:=by kernel_rfl
theorem dU(R0 R1 R2:Nat→World→Prop)(Q:World→Prop)(w:World) (KO:Calls prog 7 #[.int .i64 0] w λe W'=>∃gC,e=.returned (.pointer (some ⟨gC,0,none⟩))∧R0 gC W') (hR:∀gC W W',R0 gC W→Below W.heap.size W W'→R0 gC W') (KD:∀gC W,R0 gC W→Calls prog 11 #[.pointer (some ⟨gC,0,none⟩),.agg (Eb 1 (0:Nat) IE).toArray] W λe W'=>e=.returned (.bool true)∧R1 gC W') (KR:∀gC W,R1 gC W→Calls prog 16 #[.pointer (some ⟨gC,0,none⟩)] W λe W'=>e=.returned (.tuple #[])∧R2 gC W') (KH:∀gC W,R2 gC W→Calls prog 14 #[.pointer (some ⟨gC,0,none⟩)] W λe W'=>∃g c2,e=.returned (.slice (some ⟨g,0,none⟩) 2 c2)∧R2 gC W') (KN:∀gC W,R2 gC W→Calls prog 17 #[.pointer (some ⟨gC,0,none⟩),.int .i64 2] W λe W'=>∃g,e=.returned (.pointer (some ⟨g,0,none⟩))∧R2 gC W') (KS:∀gC W,R2 gC W→Calls prog 17 #[.pointer (some ⟨gC,0,none⟩),.int .i64 2] W λe W'=>∃g,e=.returned (.pointer (some ⟨g,0,none⟩))∧Calls prog 19 #[.pointer (some ⟨g,0,none⟩)] W' λe W''=>∃p m o pv,e=.returned (.agg (Es (.slice p 1 m) o pv).toArray)∧Q W'') :Calls prog 8 #[] w λe w'=>e=.returned (.bool true)∧Q w':=by have KO:=qh KO;have KD:=qh KD;have KR:=qh KR;have KH:=qh KH;have KN:=qh KN;have KS:=qh KS;have hR:=qh hR;go_in;go_wp2_with fail;refine(KO.o).mono ?_;rintro e w1 ⟨gC,rfl,h1⟩;have H1:=qh h1;clear h1 KO;go_wp2_with fail;refine Ac (cu 1 0 IE w1) ?_;rintro w2 hb;have H1:=qh (hR.out _ _ _ H1.o hb);clear hb hR;go_wp2_with fail;refine Ac (KD.o _ _ H1.o) ?_;rintro w3 h2;have H2:=qh h2;clear h2 H1 KD;go_wp2_with fail;refine Ac (KR.o _ _ H2.o) ?_;rintro w4 h3;have H3:=qh h3;clear h3 H2 KR;go_wp2_with fail;refine(KH.o _ _ H3.o).mono ?_;rintro e w5 ⟨gh,c2,rfl,h4⟩;have H4:=qh h4;clear h4 H3 KH;go_wp2_with fail;refine(KN.o _ _ H4.o).mono ?_;rintro e w6 ⟨g2,rfl,h5⟩;have H5:=qh h5;clear h5 H4 KN;go_wp2_with fail;refine(KS.o _ _ H5.o).mono ?_;rintro e w7 ⟨g3,rfl,h6⟩;have H6:=qh h6;clear h6 H5 KS;go_wp2_with fail;refine(H6.o).mono ?_;rintro e w8 ⟨p,m,o,pv,rfl,hq⟩;have HQ:=qh hq;clear H6 hq;go_wp2_with fail;rw[RG];go_wp2_with fail;go_ret;exact⟨rfl,HQ.o⟩
theorem WE(gC n:Nat)(dv nv clv cav hv:Value)(p:_)(cap:_)(w:World) (h:Holds w gC 85 (DV n dv nv clv cav (.slice p 0 cap) hv)) :Calls prog 27 #[.pointer (some ⟨gC,0,none⟩),.agg (CZ 2 0).toArray] w λe w'=>e=.returned (.bool false)∧Below w.heap.size w w':=by have HC:=qh h;have HB:=qh (Base.start w);clear h;go_in;go_upto_region 1 with(fail);go_name_world W hW;obtain⟨HS,hbW,hsW⟩:=Ff 32 (CZ 2 0) hW;clear hW;obtain⟨HC,HB⟩:=DC hbW HC HB;clear hbW;generalize hB0:w.heap.size=gS at HS HB ⊢;clear hsW;have s1:=Ag HS.o 1;have c5:=Ag HC.o 5;go_quiet (fail);have hb1:Below W.heap.size W (W.drewN nq):=BV _ _ _;obtain⟨HC,HB,HS⟩:=Du hb1 HC HB HS;clear hb1 s1 c5;generalize W.drewN nq=w1 at HC HB HS ⊢;go_wp2_with fail;go_ret;exact⟨rfl,hB0▸HB.below⟩
theorem eG(gC n m:Nat)(R G:Nat→World→Prop)(w:World) (KN:Calls prog 9 #[.pointer (some ⟨gC,0,none⟩)] w λe W'=>e=.returned (.int .i64 n)∧R 0 W') (KT:∀i,i<n→∀W,R i W→Calls prog 11 #[.pointer (some ⟨gC,0,none⟩),.agg (CZ 5 (i:Nat)).toArray] W λe W'=>e=.returned (.bool true)∧R (i+1) W') (KG:∀i,i<m→∀W,G i W→Calls prog 11 #[.pointer (some ⟨gC,0,none⟩),.agg (CZ 2 0).toArray] W λe W'=>e=.returned (.bool true)∧G (i+1) W') (KE:∀W,G m W→Calls prog 11 #[.pointer (some ⟨gC,0,none⟩),.agg (CZ 2 0).toArray] W λe W'=>e=.returned (.bool false)∧G m W') (KM:∀j:Nat,j<8→∀W,G m W→Calls prog 11 #[.pointer (some ⟨gC,0,none⟩),.agg (CZ 6 ((j:Int)+1)).toArray] W λe W'=>e=.returned (.bool true)∧G m W') (hRG:∀W,R n W→G 0 W) (hm:m<20000) (hn:n≤7) :Calls prog 16 #[.pointer (some ⟨gC,0,none⟩)] w λe w'=>e=.returned (.tuple #[])∧G m w':=by
 have KN:=qh KN;have KT:=qh KT;have KG:=qh KG;have KE:=qh KE;have KM:=qh KM;have hRG:=qh hRG;go_in;go_wp2_with fail;refine Ac (KN.o) ?_;rintro w1 h1;have H1:=qh h1;clear h1 KN;go_wp2_with fail;go_loopw [6,2] (λvi _ wr=>∃j:Nat,vi=.int .i64 (j:Int)∧j≤n∧R j wr) (λvi _ _=>n - (intOf vi).toNat);case atStart=>exact⟨0,rfl,Nat.zero_le _,H1.o⟩
 case round=>
  obtain⟨j,rfl,hj,hJ⟩:=hrel;clear H1;have HJ:=qh hJ;clear hJ;by_cases hjm:j=n
  ·subst hjm;have hlt:¬((j:Int)<(j:Int)):=by omega
   have HG:=qh (hRG.out _ HJ.o);clear HJ KT hRG;go_wp2_with fail;go_loopw [14] (λvi wr2=>∃k:Nat,vi=.int .i64 (k:Int)∧k≤m∧G k wr2) (λvi _=>m - (intOf vi).toNat);case atStart=>exact⟨0,rfl,Nat.zero_le _,HG.o⟩
   case round=>
    obtain⟨k,rfl,hk,hK⟩:=hrel;clear HG;have hk2:(k:Int)<20000:=by omega
    by_cases hkm:k=m
    ·subst hkm;have HG:=qh hK;clear hK KG;go_wp2_with fail;refine Ac (KE.o _ HG.o) ?_;rintro w3 h3;have HG:=qh h3;clear h3;go_wp2_with fail;go_loopw [3] (λvi wr3=>∃i:Nat,vi=.int .i64 ((i:Int)+1)∧i≤8∧G k wr3) (λvi _=>9 - (intOf vi).toNat);case atStart=>exact⟨0,rfl,Nat.zero_le _,HG.o⟩
     case round=>
      obtain⟨i,rfl,hi,hI⟩:=hrel;have HI:=qh hI;clear hI HG;by_cases hi8:i=8
      ·subst hi8;have h9:¬(((8:Nat):Int)+1≤8):=by decide
       go_wp2_with fail;exact bE ⟨rfl,HI.o⟩
      ·have hi9:(i:Int)+1≤8:=by omega
       have hi7:i<8:=by omega
       go_wp2_with (first|(with_reducible show wpList _ _ _ (_ :: _) _ _;refine IL (by kernel_rfl) 32 0 1 _ _ rfl (.int .i64 6) (.int .i64 ((i:Int)+1)) rfl rfl (.agg (CZ 6 ((i:Int)+1)).toArray) (λw=>by kernel_rfl) ?_));refine Ac (KM.o i hi7 _ HI.o) ?_;rintro w4 h4;have HI:=qh h4;clear h4;go_wp2_with fail;go_roundw;case rel=>exact⟨i+1,by simp,by omega,HI.o⟩
       case measure=>simp[intOf];omega
    ·have hkl:k<m:=by omega
     have HG:=qh hK;clear hK;go_wp2_with fail;refine Ac (KG.o k hkl _ HG.o) ?_;rintro w3 h3;have HG:=qh h3;clear h3;go_wp2_with fail;go_roundw;case rel=>exact⟨k+1,by simp,by omega,HG.o⟩
     case measure=>simp[intOf];omega
  ·have hji:(j:Int)<(n:Int):=by omega
   have hjn:j<n:=by omega
   go_wp2_with (first|(with_reducible show wpList _ _ _ (_ :: _) _ _;refine IL (by kernel_rfl) 32 0 1 _ _ rfl (.int .i64 5) (.int .i64 (j:Int)) rfl rfl (.agg (CZ 5 (j:Nat)).toArray) (λw=>by kernel_rfl) ?_));refine Ac (KT.o j hjn _ HJ.o) ?_;rintro w2 h2;have HJ:=qh h2;clear h2;go_wp2_with fail;go_roundw;case rel=>exact⟨j+1,by simp,by omega,HJ.o⟩
   case measure=>simp[intOf];omega
section
variable [In] [Bs] [Hs]
theorem Bh.more{w:World}{F:Af}{g n me q:Nat}{c:Cm}{ph:Ph}{out:List Lt}{an:Bool}{tk:Nat}(h:Bh w F g n me q c ph out an tk):Bh w F g n me q c ph out an (tk+1):=by obtain⟨t,ht,h⟩:=h;exact⟨t,by omega,h⟩
theorem ZN{i:Nat}{s s':Cs}(h:Tf i s=some s'):s.tk<5∧∃ph',JW (s.phs.getD i .com)=some ph'∧s'.lets=s.lets∧s'.hist=s.hist∧s'.wait=s.wait∧s'.tk=s.tk+1∧s'.phs.length=s.phs.length∧∀j,i<s.phs.length→s'.phs.getD j .fresh=if j=i then ph' else s.phs.getD j .fresh:=by
 unfold Tf at h;split at h
 ·cases h
 rename_i htk;refine⟨by omega,?_⟩;split at h
 ·rename_i he;simp only[Option.some.injEq] at h;subst h;refine⟨.fresh,by rw[he];rfl,rfl,rfl,rfl,rfl,rfl,λj hi=>?_⟩;split
  ·rename_i hj;subst hj;show s.phs.getD j .fresh=.fresh;rw[List.getD_eq_getElem?_getD,List.getElem?_eq_getElem hi] at he ⊢;exact he
  ·rfl
 ·rename_i A he;simp only[Option.some.injEq] at h;subst h;refine⟨.lead A 1,by rw[he];rfl,rfl,rfl,rfl,rfl,by simp,λj hi=>?_⟩;split
  ·rename_i hj;subst hj;simp[List.getD_eq_getElem?_getD,hi]
  ·rename_i hj;simp[List.getD_eq_getElem?_getD,List.getElem?_set,Ne.symm hj]
 ·cases h
theorem bW(w:World)(own:Nat→Nat)(gC n q i:Nat)(c:Cm)(s s':Cs)(h:Bg w own gC n q c s)(hs:Tf i s=some s')(hi:i<n)(hlen:s.lets.length≤1000)(hBs:EN n q c)(hB0:Bs.L=[])(hck:cK c<8) :Calls prog 11 #[.pointer (some ⟨gC,0,none⟩),.agg (CZ 5 i).toArray] w λe w'=>e=.returned (.bool true)∧∃own',Bg w' own' gC n q c s'∧Stepped w own w' own':=by
 obtain⟨htk,ph',hph,e1,e2,e3,e4,e5,e6⟩:=ZN hs;obtain⟨dv,gN,cN,gCl,cCl,gCa,lv,hvv,gs,gcl,hB,hN,hp⟩:=h;have hip:i<s.phs.length:=by omega
 have hph2:JW (s.phs.getD i .fresh)=some ph':=by rw[List.getD_eq_getElem?_getD,List.getElem?_eq_getElem hip] at hph ⊢;exact hph
 obtain⟨rN,hnp⟩:=hB.np;have hol:=hB.lt;refine(X5 gC i (gs i) (λW'=>∃own2,Bg W' own2 gC n q c s'∧Stepped w own W' own2) (λW'=>∃own',Bg W' own' gC n q c s'∧Stepped w own W' own') w (λW hb=>Rn gC n gN cN i gs rN dv _ _ lv hvv W (hB.cl.bel hb) (hnp.bel hb) hi) (λW hb=>?_) (λW hR=>?_)).mono ?_
 ·have hsz:=hb.size;have hB2:Nh W own gC n q c s.lets s.hist s.wait dv gN cN gCl cCl gCa lv hvv gs gcl:=hB.mv (G:=λ_=>False) hck (.of_below hb) (λ_ h=>h.elim) (λ_ _=>rfl) (λk hk=>Nat.lt_of_lt_of_le (hol k hk) hsz);have hN2:Hm W own n q c s.phs s.tk gs (λ_=>[]) (λ_=>false):=hN.mv (G:=λ_=>False) (.of_below hb) (λ_ h=>h.elim) (λ_ _=>rfl);refine Ac (XG W (λk=>own k=2+i) (gs i) n i q c _ ph' s.tk hBs hB0 (hN2 i hi) hph2 htk hi) ?_;rintro W' ⟨hnc,hm⟩;have hs3:=hm.size;have hold:∀k,k<W.heap.size→Bo own W W' (2+i) k=own k:=λk hk=>Dj _ _ _ _ _ hk;refine⟨rfl,⟨Bo own W W' (2+i),⟨dv,gN,cN,gCl,cCl,gCa,lv,hvv,gs,gcl,?_,λj hj=>?_,by omega⟩,λk hk=>hold k (by omega),(Mv.of_below hb).mv hm λk hk=>.inl (by omega)⟩,λg L hg hL=>hL.mv hm λhx=>?_⟩
  ·rw[e1,e2,e3];exact hB2.mv hck hm (λk hk _=>by omega) hold (Gq hB2.lt hs3)
  ·rw[e6 j hip,e4];by_cases hj2:j=i
   ·subst hj2;rw[if_pos rfl];exact hnc.foot λk hk hkl=>by
     rcases hk with hk|⟨h5,h6⟩
     ·rw[hold k (Nat.lt_of_lt_of_le (hol k (by omega)) hsz)];exact hk
     ·exact Di _ _ _ _ _ h5 h6
   ·rw[if_neg hj2];have h8:Bh W' (λk=>own k=2+j) (gs j) n j q c (s.phs.getD j .fresh) [] false s.tk:=(hN2 j hj).mv hm λk hk _ hf2=>by omega
    exact h8.more.foot λk hk hkl=>by rw[hold k (Nat.lt_of_lt_of_le (hol k (by omega)) hsz)];exact hk
  ·have:=hol g (by omega);omega
 ·obtain⟨own2,hG,hsp⟩:=hR;refine Ac (Ny W own2 gC n q i c s' [] _ _ hG hi rfl (λj hj=>rfl) (λj=>rfl) (by simp) (by rw[e1];simpa using hlen) hck) ?_;rintro w' ⟨own',h5,h6⟩;exact⟨rfl,own',by simpa using h5,hsp.trans h6⟩
 ·rintro e w' ⟨rfl,h9⟩;exact⟨rfl,h9⟩
theorem Qk(w:World)(own:Nat→Nat)(gC n q:Nat)(c:Cm)(s s':Cs)(h:Bg w own gC n q c s)(hs:Ei n q false s=some s')(hlen:s.lets.length≤1000)(hBs:EN n q c)(hH:NY c) :Calls prog 11 #[.pointer (some ⟨gC,0,none⟩),.agg (CZ 2 0).toArray] w λe w'=>e=.returned (.bool true)∧∃own',Bg w' own' gC n q c s'∧Stepped w own w' own':=by refine Rj gC true (λw'=>∃own',Bg w' own' gC n q c s'∧Stepped w own w' own') w λW hb=>?_;refine Ac (Z8 W own gC n q c s s' (JB.bel h hH.ck hb) hs hlen hBs hH) ?_;rintro w' ⟨own',h5,h6⟩;exact⟨rfl,own',h5,λk hk=>h6.1 k (Nat.lt_of_lt_of_le hk hb.size),(Mv.of_below hb).mv h6.2 λk hk=>.inl hk⟩
theorem Zq(w:World)(own:Nat→Nat)(gC n q:Nat)(c:Cm)(s s':Cs)(h:Bg w own gC n q c s)(hs:Ei n q true s=some s')(hlen:s.lets.length≤1000)(hBs:EN n q c)(hH:NY c) :Calls prog 11 #[.pointer (some ⟨gC,0,none⟩),.agg (CZ 3 0).toArray] w λe w'=>e=.returned (.bool true)∧∃own',Bg w' own' gC n q c s'∧Stepped w own w' own':=by refine X4 gC true (λw'=>∃own',Bg w' own' gC n q c s'∧Stepped w own w' own') w λW hb=>?_;refine Ac (Zm W own gC n q c s s' (JB.bel h hH.ck hb) hs hlen hBs hH) ?_;rintro w' ⟨own',h5,h6⟩;exact⟨rfl,own',h5,λk hk=>h6.1 k (Nat.lt_of_lt_of_le hk hb.size),(Mv.of_below hb).mv h6.2 λk hk=>.inl hk⟩
theorem Zr(w:World)(own:Nat→Nat)(gC n q j:Nat)(c:Cm)(s:Cs)(h:Bg w own gC n q c s)(hw:s.wait=false)(hj:j<8) :Calls prog 11 #[.pointer (some ⟨gC,0,none⟩),.agg (CZ 6 ((j:Int)+1)).toArray] w λe w'=>e=.returned (.bool true)∧Below w.heap.size w w':=by
 obtain⟨dv,gN,cN,gCl,cCl,gCa,lv,hvv,gs,gcl,hB,hN,hp⟩:=h;obtain⟨rC,hcp⟩:=hB.cp;refine X6 gC _ true (λw'=>Below w.heap.size w w') w λW hb=>?_;have key:∀id seq x tg tk,Ju w (gcl j) id seq x false tg tk→Calls prog 28 #[.pointer (some ⟨gC,0,none⟩),.int .i64 ((j:Int)+1)] W λe W'=>e=.returned (.bool true)∧Below w.heap.size w W':=by intro id seq x tg tk hc;refine Ac (ctime gC n gCl cCl j gcl rC dv _ _ lv hvv id seq x tg tk W (hB.cl.bel hb) (hcp.bel hb) hj (Holds.bel hc hb)) ?_;rintro w' hb2;exact⟨rfl,hb.trans (hb2.mono hb.size)⟩
 by_cases h0:j=cK c
 ·subst h0;rcases hB.c0 with⟨_,_,tg,tk,e3⟩|⟨_,tg,tk,e3⟩
  ·exact key _ _ _ _ _ e3
  ·rw[hw] at e3;exact key _ _ _ _ _ e3
 ·obtain⟨tg,tk,h3⟩:=hB.cs j hj h0;exact key _ _ _ _ _ h3
end
end Go.Proofs.YtimdpiifpibgfaaGreatDoor
