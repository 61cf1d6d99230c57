/- A part of the proof that the law TopCopies returns true for every input. -/
import Derived.Test.YtimdpiifpibgfaaGreatDoorQc42
set_option linter.all false
set_option maxRecDepth 20000
set_option maxHeartbeats 16000000
open Go.RowKit Go.Maps
namespace Go.Proofs.YtimdpiifpibgfaaGreatDoor
open Tryz
theorem TE{l:List Bf}{e x:Bf}(h:x∈Gf l e):x=e∨x∈l:=by
 unfold Gf at h;split at h
 ·obtain⟨y,hy,rfl⟩:=List.mem_map.1 h;split
  ·exact .inl rfl
  ·exact .inr hy
 ·rcases List.mem_append.1 h with h|h
  ·exact .inr h
  ·exact .inl (List.mem_singleton.1 h)
theorem Kv(f:Bf→Int)(M:Int)(hM:0≤M):∀(l:List Bf) (p:Bf→Bool),(∀e∈l,p e=true→f e≤M)→l.foldr (λe m=>if p e then max (f e) m else m) 0≤M
 | [],_,_=>hM
 | x :: l,p,h=>by
  have:=Kv f M hM l p λe he=>h e (by simp[he]);rw[List.foldr_cons];split
  ·have:=h x (by simp) (by assumption);omega
  ·exact this
structure Inv(n i:Nat)(b:Bs)(h:Hs):Prop where
 n7:n=3∨n=5∨n=7
 nb:b.nb≤i
 L:∀e∈b.L,0≤e.r∧e.s≤b.d e.r.toNat
 at_:∀r:Nat,b.d r=0∨∃e∈b.L,e.r=(r:Int)∧e.s=b.d r
 len:b.L.length≤2*b.nb
 E:∀e∈b.E,e.q≤b.nb∧0≤e.r∧e.s≤b.d e.r.toNat
 d:∀r,0≤b.d r∧b.d r≤b.nb
 fine:b.S.Fine b.nb
 seq:∀k,k<8→(b.S.ow k).seq=h.sq k
 sq:∀k,0≤h.sq k∧h.sq k≤b.nb
 sc:0≤b.sc∧b.sc<8
 kp:∀r,0≤b.kp r∧b.kp r≤b.d r
 ev:h.ev.length≤2*b.nb
 rp:∀e∈h.ev,e.r.ps.length≤1000
@[reducible] def H0:Hs:=⟨λ_=>0,λ_=>Cm.zero,[]⟩
theorem Inv.start{n:Nat}(hn:n=3∨n=5∨n=7):Inv n 0 B0 H0:=
 ⟨hn,Nat.le_refl _,λe he=>(by cases he),λ_=>.inl rfl,Nat.le_refl _,λe he=>(by cases he),λ_=>⟨Int.le_refl _,Int.le_refl _⟩,St.Fine.zero,λ_ _=>rfl,λ_=>⟨Int.le_refl _,Int.le_refl _⟩,by decide,λ_=>⟨Int.le_refl _,Int.le_refl _⟩,Nat.le_refl _,λe he=>(by cases he)⟩
theorem Inv.kZ{n i:Nat}{b:Bs}{h:Hs}(H:Inv n i b h)(vis:Bf→Bool)(j:Nat):0≤CE b.E vis j∧CE b.E vis j≤b.d j:=by refine⟨GY (λe=>e.s) b.E λe=>vis e&&e.r==(j:Int),Kv (λe=>e.s) _ (H.d j).1 b.E (λe=>vis e&&e.r==(j:Int)) λe he hp=>?_⟩;simp only[Bool.and_eq_true,beq_iff_eq] at hp;have:=(H.E e he).2.2;rw[hp.2,Int.toNat_natCast] at this;exact this
theorem Inv.aq{n i:Nat}{b:Bs}{h:Hs}(H:Inv n i b h)(r s:Int)(c:Cm):0≤FD b.E r s c∧FD b.E r s c≤b.nb+1:=
 ⟨GY (λe=>e.q+1) b.E _,Kv (λe=>e.q+1) _ (by omega) b.E _ λe he _=>by have:=(H.E e he).1;omega⟩
theorem Inv.ad{n i:Nat}{b:Bs}{h:Hs}(H:Inv n i b h)(q:Nat)(c:Cm)(j:Nat):0≤CB b.E (λ_=>0) q (b.d q+1) c j∧CB b.E (λ_=>0) q (b.d q+1) c j≤b.d j:=by
 have h1:=H.kZ (takes q (b.d q+1) c) j;have h2:=H.d j;unfold CB;split
 ·rename_i hj;obtain rfl:j=q:=by omega
  split<;>omega
 ·simp only;omega
@[reducible] def Inv.inst {n i:Nat} {b:Bs} {h:Hs} (H:Inv n i b h) (hi:i<20) (q:Nat) (c:Cm):In:=
 ⟨b.d q+1,FD b.E q (b.d q+1) c,CB b.E (λ_=>0) q (b.d q+1) c,by have:=H.d q;have:=H.nb;omega,by have:=H.aq q (b.d q+1) c;have:=H.nb;omega,λj=>by have:=H.ad q c j;have:=H.d j;have:=H.nb;omega⟩
theorem Inv.step{n i q k:Nat}{b:Bs}{h:Hs}(H:Inv n i b h)(hi:i<20)(hq:q<n)(hk:k<8)(x c:Cm)(hcx:c=Bd k (h.sq k) x)(hf:fits c) :@EN (H.inst hi q c) b n q c∧@NY b h c∧Inv n (i+1) (@JO (H.inst hi q c) b q c) (@QO (H.inst hi q c) b h c):=by
 have hck:cK c=k:=by rw[hcx];exact Nq k _ x
 have hcs:c.s=h.sq k+1:=by rw[hcx];rfl
 have hcc:c.c=(k:Int)+1:=by rw[hcx];rfl
 have hc:Gu c:=Zi c hf.1 hf.2;have hdq:=H.d q;have hnb:=H.nb;have hsl:(H.inst hi q c).sl=b.d q+1:=rfl;have hD:∀r,@doneD (H.inst hi q c) b.d q r=if r=q then b.d q+1 else b.d r:=λr=>rfl;have hge:∀r,b.d r≤@doneD (H.inst hi q c) b.d q r:=λr=>by
  rw[hD];split
  ·rename_i e;subst e;omega
  ·exact Int.le_refl _
 have hDq:@doneD (H.inst hi q c) b.d q q=b.d q+1:=by rw[hD,if_pos rfl]
 have hrp:=(Ru H.fine.len H.fine.ps c hc).2.len;have htop:JX b.L q=b.d q:=Vr b.L q (b.d q) (λe he hr=>by have:=(H.L e he).2;rw[hr,Int.toNat_natCast] at this;exact this) (H.at_ q) hdq.1;refine⟨?_,?_,?_⟩
 ·refine @EN.mk (H.inst hi q c) b n q c hq (by have:=H.n7;omega) hc ?_ ?_ ?_ ⟨rfl,λ_ _=>rfl⟩ (by have:=H.len;omega) (λe he=>(H.L e he).2) (λr=>by have:=H.d r;omega) (λr hr=>?_) (by omega) H.fine ?_ H.sc H.kp
  ·show b.d q=b.d q+1-1;omega
  ·show JX b.L q=b.d q+1-1;omega
  ·show Fj b.L q (b.d q+1)=false;refine VV λe he hc=>?_;have:=(H.L e he).2;rw[hc.1,Int.toNat_natCast] at this;omega
  ·have h1:=H.ad q c r;show (if (r:Int)=(q:Int) then max (CB b.E (λ_=>0) q (b.d q+1) c r) (b.d q+1-1) else CB b.E (λ_=>0) q (b.d q+1) c r)≤b.d r;split
   ·rename_i e;obtain rfl:r=q:=by omega
    omega
   ·omega
  ·rw[hck,H.seq k hk,hcs];omega
 ·exact @NY.mk b h c (by omega) (by have:=H.ev;omega) (by show (FN b.S.ps c).2.ps.length≤1000;omega)
 ·refine⟨H.n7,?_,?_,?_,?_,?_,?_,H.fine.apply c hc,?_,?_,?_,?_,?_,?_⟩
  ·show b.nb+1≤i+1;omega
  ·intro e he;show 0≤e.r∧e.s≤@doneD (H.inst hi q c) b.d q e.r.toNat;have hnew:∀v,e=⟨(q:Int),b.d q+1,v⟩→0≤e.r∧e.s≤@doneD (H.inst hi q c) b.d q e.r.toNat:=λv hv=>by subst hv;refine⟨Int.natCast_nonneg q,?_⟩;show b.d q+1≤@doneD (H.inst hi q c) b.d q (q:Int).toNat;rw[Int.toNat_natCast,hDq];exact Int.le_refl _
   rcases JL he with he|⟨he,_⟩
   ·exact hnew _ he
   ·rcases JL he with he|⟨he,_⟩
    ·exact hnew _ he
    ·have h1:=H.L e he;exact⟨h1.1,Int.le_trans h1.2 (hge _)⟩
  ·intro r;show @doneD (H.inst hi q c) b.d q r=0∨∃e∈CO (CO b.L _) _,e.r=(r:Int)∧e.s=@doneD (H.inst hi q c) b.d q r;by_cases hr:r=q
   ·subst hr;rw[hDq];exact .inr ⟨_,Gp _ _,rfl,rfl⟩
   ·have e2:@doneD (H.inst hi q c) b.d q r=b.d r:=by rw[hD,if_neg hr]
    rw[e2];rcases H.at_ r with h1|⟨e,he,h1,h2⟩
    ·exact .inl h1
    ·have hne:∀v:Ad,v.r=(q:Int)→¬(e.r=v.r∧e.s=v.s):=λv hv hc=>by rw[h1,hv] at hc;omega
     exact .inr ⟨e,TD (TD he (hne _ rfl)) (hne _ rfl),h1,h2⟩
  ·show (CO (CO b.L _) _).length≤2*(b.nb+1);have h1:=Lp (CO b.L (@e1 (H.inst hi q c) q c)) (@e3 (H.inst hi q c) q c);have h2:=Lp b.L (@e1 (H.inst hi q c) q c);have h3:=H.len;omega
  ·intro e he;show e.q≤((b.nb+1:Nat):Int)∧0≤e.r∧e.s≤@doneD (H.inst hi q c) b.d q e.r.toNat;have hnew:e=@en (H.inst hi q c) q c→e.q≤((b.nb+1:Nat):Int)∧0≤e.r∧e.s≤@doneD (H.inst hi q c) b.d q e.r.toNat:=λhv=>by
    subst hv;refine⟨?_,Int.natCast_nonneg q,?_⟩
    ·have:=(H.aq q (b.d q+1) c).2;show FD b.E q (b.d q+1) c≤_;omega
    ·show b.d q+1≤@doneD (H.inst hi q c) b.d q (q:Int).toNat;rw[Int.toNat_natCast,hDq];exact Int.le_refl _
   rcases TE he with he|he
   ·exact hnew he
   ·rcases TE he with he|he
    ·exact hnew he
    ·have h1:=H.E e he;exact⟨by have:=h1.1;omega,h1.2.1,Int.le_trans h1.2.2 (hge _)⟩
  ·intro r;show 0≤@doneD (H.inst hi q c) b.d q r∧@doneD (H.inst hi q c) b.d q r≤((b.nb+1:Nat):Int);have:=H.d r;rw[hD];split<;>omega
  ·intro j hj;show (Gg b.S.ow c.c.toNat ⟨c.s,(FN b.S.ps c).2⟩ j).seq=Ee h.sq (cK c) c.s j;unfold Gg;rw[if_neg (by omega)];by_cases hjk:j=cK c
   ·subst hjk;rw[CX];show (Ee b.S.ow (cK c) _ (cK c)).seq=c.s;rw[CX]
   ·rw[CY _ _ _ _ hjk];show (Ee b.S.ow (cK c) _ j).seq=h.sq j;rw[CY _ _ _ _ hjk];exact H.seq j hj
  ·intro j;show 0≤Ee h.sq (cK c) c.s j∧Ee h.sq (cK c) c.s j≤((b.nb+1:Nat):Int);by_cases hjk:j=cK c
   ·subst hjk;have:=H.sq k;rw[CX];omega
   ·have:=H.sq j;rw[CY _ _ _ _ hjk];omega
  ·show 0≤(if b.sc+1=8 then (0:Int) else b.sc+1)∧(if b.sc+1=8 then (0:Int) else b.sc+1)<8;have:=H.sc;split<;>omega
  ·intro r;show 0≤(if b.sc+1=8 then @doneD (H.inst hi q c) b.d q else b.kp) r∧(if b.sc+1=8 then @doneD (H.inst hi q c) b.d q else b.kp) r≤@doneD (H.inst hi q c) b.d q r;have h1:=H.kp r;have h2:=hge r;have h3:=H.d r;split
   ·exact⟨by omega,Int.le_refl _⟩
   ·omega
  ·show (evs c 2).length≤2*(b.nb+1);have:=H.ev;simp[evs];omega
  ·intro e he;have he:e∈(h.ev++[_])++[_]:=he;rcases List.mem_append.1 he with he|he
   ·rcases List.mem_append.1 he with he|he
    ·exact H.rp e he
    ·rw[List.mem_singleton.1 he];simp[Rep.zero]
   ·rw[List.mem_singleton.1 he];show (FN b.S.ps c).2.ps.length≤1000;omega
section
variable [In] [Bs] [Hs]
def cO[Hs]:Prop:=(∀j,Hs.sq j=0)∧(∀j,Hs.cm j=Cm.zero)∧Hs.ev=[]
structure dN(w0:World)(n:Nat)(c:Cm)(gC i:Nat)(w:World)(own:Nat→Nat)(dv:Value)(obd:Option Nat)(xs:List Value)(nv:Value)(obn:Option Nat)(gs:Nat→Nat):Prop where
 cl:Holds w gC 85 (DV n dv nv (.slice none 0 0) (.slice none 0 0) (.slice none 0 0) (.slice none 0 0))
 oc:own gC=1
 ds:AO w dv obd 87 1 i xs
 od:∀g,obd=some g→own g=1
 ns:AO w nv obn 59 1 i (ptrs i gs)
 on:∀g,obn=some g→own g=1
 nodes:∀j,j<i→Bh w (λk=>own k=2+j) (gs j) n j 0 c .fresh [] false 0
 lt:∀k,own k≠0→w0.heap.size≤k∧k<w.heap.size
 bel:Below w0.heap.size w0 w
def jo(w0:World)(n:Nat)(c:Cm)(gC i:Nat)(w:World):Prop:=∃own dv obd xs nv obn gs,dN w0 n c gC i w own dv obd xs nv obn gs
theorem QU(i:Nat)(gs:Nat→Nat)(g:Nat):ptrs i gs++[.pointer (some ⟨g,0,none⟩)]=ptrs (i+1) λj=>if j=i then g else gs j:=by
 unfold ptrs;rw[List.range_succ,List.map_append]
 congr 1
 ·refine List.map_congr_left λj hj=>?_;have:=List.mem_range.1 hj;show _=Value.pointer (some ⟨if j=i then g else gs j,0,none⟩);rw[if_neg (by omega)]
 ·simp
theorem CJ{w:World}{v:Value}{ob:Option Nat}{t t':TypeId}{s n k:Nat}{xs L:List Value}(h:AO w v ob t s n xs)(h':Holds w k t' L)(ht:t≠t'):ob≠some k:=by
 intro he;rcases h.cases with⟨_,h0,_⟩|⟨g1,_,_,_,h0,_,_,hh,_⟩
 ·rw[h0] at he;cases he
 ·rw[h0] at he;cases he;exact hh.ne_of h' ht rfl
theorem Jk{w:World}{v v':Value}{ob ob':Option Nat}{t t':TypeId}{s n s' n':Nat}{xs xs':List Value}(h:AO w v ob t s n xs)(h':AO w v' ob' t' s' n' xs')(ht:t≠t'):∀k,ob=some k→ob'=some k→False:=by
 intro k hk hk';rcases h'.cases with⟨_,h0,_⟩|⟨g1,_,_,_,h0,_,_,hh,_⟩
 ·rw[h0] at hk';cases hk'
 ·rw[h0] at hk';cases hk';exact CJ h hh ht hk
theorem dN.step{w0 wr w2 w5 wx:World}{n:Nat}{c:Cm}{gC i gd gn:Nat}{own:Nat→Nat}{dv:Value}{obd:Option Nat}{xs:List Value}{nv:Value}{obn:Option Nat}{gs:Nat→Nat}{v8 v9:Value}{ob8 ob9:Option Nat}(h:dN w0 n c gC i wr own dv obd xs nv obn gs)(hi:i<n)(hgd:wr.heap.size=gd)(hb:Below wr.heap.size wr w5)(hw2:wr.heap.size≤w2.heap.size)(HGD:∀k,k=gd→k<w5.heap.size) (hn:Bh w5 (grow (λk=>k=gd) w2 w5) gn n i 0 c .fresh [] false 0) (hc:Holds wx gC 85 (DV n v8 v9 (.slice none 0 0) (.slice none 0 0) (.slice none 0 0) (.slice none 0 0))) (h8:AO wx v8 ob8 87 1 (i+1) (xs++[.pointer (some ⟨gd,0,none⟩)])) (h9:AO wx v9 ob9 59 1 (i+1) (ptrs i gs++[.pointer (some ⟨gn,0,none⟩)])) (o8:ob8=obd∨∃k,ob8=some k∧w5.heap.size≤k) (o9:ob9=obn∨∃k,ob9=some k∧w5.heap.size≤k) (hm:Mv (λk=>k=gC∨obd=some k∨obn=some k) w5 wx):jo w0 n c gC (i+1) wx:=by
 have hs1:=hb.size;have hs2:=hm.size;have hC:=h.cl.lt;have hol:=h.lt
 let own':Nat→Nat:=λk=>if wr.heap.size≤k∧k<w5.heap.size then 2+i else if w5.heap.size≤k∧k<wx.heap.size then 1 else own k
 have hold:∀k,k<wr.heap.size→own' k=own k:=λk hk=>by show (if _ then _ else _)=_;rw[if_neg (by omega),if_neg (by omega)]
 have hmid:∀k,wr.heap.size≤k→k<w5.heap.size→own' k=2+i:=λk h1 h2=>if_pos ⟨h1,h2⟩;have hnew:∀k,w5.heap.size≤k→k<wx.heap.size→own' k=1:=λk h1 h2=>by show (if _ then _ else _)=_;rw[if_neg (by omega),if_pos ⟨h1,h2⟩]
 have hown1:∀k,(k=gC∨obd=some k∨obn=some k)→own k=1:=by
  rintro k (rfl|hk|hk)
  ·exact h.oc
  ·exact h.od k hk
  ·exact h.on k hk
 have hlt1:∀k,own k=1→k<wr.heap.size:=λk hk=>(hol k (by omega)).2;refine⟨own',v8,ob8,_,v9,ob9,λj=>if j=i then gn else gs j,hc,by rw[hold _ hC,h.oc],h8,λg hg=>?_,QU i gs gn▸h9,λg hg=>?_,λj hj=>?_,λk hk=>?_,?_⟩
 ·rcases o8 with h3|⟨k,h3,h4⟩
  ·have:=h.od g (h3▸hg);rw[hold g (hlt1 g this),this]
  ·rw[h3] at hg;cases hg;exact hnew _ h4 (h8.lt _ h3)
 ·rcases o9 with h3|⟨k,h3,h4⟩
  ·have:=h.on g (h3▸hg);rw[hold g (hlt1 g this),this]
  ·rw[h3] at hg;cases hg;exact hnew _ h4 (h9.lt _ h3)
 ·by_cases hji:j=i
  ·subst hji;simp only[if_true];have h1:Bh wx (grow (λk=>k=gd) w2 w5) gn n j 0 c .fresh [] false 0:=hn.mv hm λk hk hkl hf=>by have h2:=hlt1 k (hown1 k hk);rcases hf with hf|⟨hf,_⟩<;>omega
   exact h1.foot λk hk hkl=>by
    rcases hk with hk|⟨h3,h4⟩
    ·exact hmid k (by omega) (by
      have:=HGD k hk;omega)
    ·exact hmid k (by omega) h4
  ·simp only[if_neg hji];have h1:=(h.nodes j (by omega)).mv (Mv.of_below hb:Mv (λ_=>False) wr w5) λk hk _=>hk.elim;have h2:=h1.mv hm λk hk hkl hf=>by have:=hown1 k hk;omega
   exact h2.foot λk hk hkl=>by rw[hold k (hol k (by omega)).2];exact hk
 ·have hk2:(if wr.heap.size≤k∧k<w5.heap.size then 2+i else if w5.heap.size≤k∧k<wx.heap.size then 1 else own k)≠0:=hk;have hw:=h.bel.size;split at hk2
  ·omega
  ·split at hk2
   ·omega
   ·have:=hol k hk2;omega
 ·exact h.bel.trans ((hb.mono h.bel.size).trans (hm.below (Nat.le_trans h.bel.size hs1) λk hk=>(hol k (by rw[hown1 k hk];decide)).1))
structure N2(w0:World)(n:Nat)(c:Cm)(gC k:Nat)(w:World)(own:Nat→Nat)(dv nv:Value)(obn:Option Nat)(gs:Nat→Nat)(clv:Value)(obc:Option Nat)(gcl:Nat→Nat):Prop where
 cl:Holds w gC 85 (DV n dv nv clv (.slice none 0 0) (.slice none 0 0) (.slice none 0 0))
 oc:own gC=1
 ns:AO w nv obn 59 1 n (ptrs n gs)
 on:∀g,obn=some g→own g=1
 nodes:∀j,j<n→Bh w (λk=>own k=2+j) (gs j) n j 0 c .fresh [] false 0
 cs:AO w clv obc 92 1 k (ptrs k gcl)
 ocl:∀g,obc=some g→own g=1
 cats:∀j,j<k→Ju w (gcl j) ((j:Int)+1) 0 Cm.zero false 0 0∧own (gcl j)=1
 lt:∀k,own k≠0→w0.heap.size≤k∧k<w.heap.size
 bel:Below w0.heap.size w0 w
def jm(w0:World)(n:Nat)(c:Cm)(gC k:Nat)(w:World):Prop:=∃own dv nv obn gs clv obc gcl,N2 w0 n c gC k w own dv nv obn gs clv obc gcl
theorem N2.step{w0 wr wx:World}{n:Nat}{c:Cm}{gC k gk:Nat}{own:Nat→Nat}{dv nv:Value}{obn:Option Nat}{gs:Nat→Nat}{clv:Value}{obc:Option Nat}{gcl:Nat→Nat}{v5:Value}{ob5:Option Nat}(h:N2 w0 n c gC k wr own dv nv obn gs clv obc gcl)(hgk:wr.heap.size=gk) (hcl:Holds wx gC 85 (DV n dv nv v5 (.slice none 0 0) (.slice none 0 0) (.slice none 0 0))) (ho:AO wx v5 ob5 92 1 (k+1) (ptrs k gcl++[.pointer (some ⟨gk,0,none⟩)])) (hob:ob5=obc∨∃k,ob5=some k∧wr.heap.size≤k) (hcx:Ju wx gk ((k:Int)+1) 0 Cm.zero false 0 0) (hm:Mv (λk=>k=gC∨obc=some k) wr wx):jm w0 n c gC (k+1) wx:=by
 have hs2:=hm.size;have hol:=h.lt;have hold:∀k,k<wr.heap.size→Bo own wr wx 1 k=own k:=λk hk=>Dj _ _ _ _ _ hk;have hown1:∀k,(k=gC∨obc=some k)→own k=1:=by
  rintro k (rfl|hk)
  ·exact h.oc
  ·exact h.ocl k hk
 have hlt1:∀k,own k=1→k<wr.heap.size:=λk hk=>(hol k (by omega)).2;have hT:∀g t L,Holds wr g t L→t≠85→t≠92→¬(g=gC∨obc=some g):=by
  rintro g t L hg h1 h2 (rfl|hk)
  ·exact h1 (CP hg h.cl)
  ·exact CJ h.cs hg (Ne.symm h2) hk
 refine⟨Bo own wr wx 1,dv,nv,obn,gs,v5,ob5,λj=>if j=k then gk else gcl j,hcl,by rw[hold _ h.cl.lt,h.oc],h.ns.mv hm λg hg=>?_,λg hg=>by rw[hold g (hlt1 g (h.on g hg)),h.on g hg],λj hj=>?_,QU k gcl gk▸ho,λg hg=>?_,λj hj=>?_,λx hx=>?_,h.bel.trans (hm.below h.bel.size λg hg=>(hol g (by rw[hown1 g hg];decide)).1)⟩
 ·rcases h.ns.cases with⟨_,h0,_⟩|⟨g1,_,_,_,h0,_,_,hh,_⟩
  ·rw[h0] at hg;cases hg
  ·rw[h0] at hg;cases hg;exact hT _ _ _ hh (by decide) (by decide)
 ·have h2:=(h.nodes j hj).mv hm λk hk hkl hf=>by have:=hown1 k hk;omega
  exact h2.foot λx hx hkl=>by rw[hold x (hol x (by omega)).2];exact hx
 ·rcases hob with h3|⟨x,h3,h4⟩
  ·have:=h.ocl g (h3▸hg);rw[hold g (hlt1 g this),this]
  ·rw[h3] at hg;cases hg;exact Di _ _ _ _ _ h4 (ho.lt _ h3)
 ·by_cases hjk:j=k
  ·subst hjk;simp only[if_true];exact⟨hcx,Di _ _ _ _ _ (by omega) hcx.lt⟩
  ·simp only[if_neg hjk];obtain⟨h5,h6⟩:=h.cats j (by omega);exact⟨Holds.mv h5 hm (hT _ _ _ h5 (by decide) (by decide)),by rw[hold _ h5.lt,h6]⟩
 ·by_cases hx2:wr.heap.size≤x∧x<wx.heap.size
  ·exact⟨Nat.le_trans h.bel.size hx2.1,hx2.2⟩
  ·have h7:Bo own wr wx 1 x=own x:=if_neg hx2;rw[h7] at hx;have:=hol x hx;omega
def P6(w0:World)(n:Nat)(c:Cm)(gC:Nat)(w:World):Prop:=∃own,Bg w own gC n 0 c (BU n)∧(∀k,own k≠0→w0.heap.size≤k)∧Below w0.heap.size w0 w
theorem P6.next{w0 w w':World}{n:Nat}{c:Cm}{gC:Nat}{own own':Nat→Nat}(hlo:∀k,own k≠0→w0.heap.size≤k)(hb:Below w0.heap.size w0 w)(h:Bg w' own' gC n 0 c { BU n with lets:=(BU n).lets++[] })(hs:Stepped w own w' own'):P6 w0 n c gC w':=by
 refine⟨own',h,λk hk=>?_,hb.trans (hs.2.below hb.size λk hk=>hlo k hk)⟩;by_cases hkw:k<w.heap.size
 ·rw[hs.1 k hkw] at hk;exact hlo k hk
 ·have:=hb.size;omega
def Kr:List Value:=Cm.zero.cells++(Cm.zero.cells++Cm.zero.cells++Cm.zero.cells++Cm.zero.cells++Cm.zero.cells++Cm.zero.cells++Cm.zero.cells)
theorem XD:∀W:World,(Instr.makeSlice 83 (.int .i64 8) (.int .i64 8)).run prog W=.ok (.slice (some ⟨W.heap.size,0,none⟩) 8 8) (W.alloc (.cells Kr.toArray 23)):=λ_=>by kernel_rfl
theorem jI{w:World}{own:Nat→Nat}{c:Cm}(h:Hs.ev=[]):Jv (evs c 0).length (.slice none 0 0)∧∃ob pv pb,F9 w (.slice none 0 0) ob (evs c 0) pv pb∧(∀g,ob=some g→own g=1)∧∀i,i<(evs c 0).length→∀g,pb i=some g→own g=1:=by show Jv Hs.ev.length _∧∃ob pv pb,F9 w _ ob Hs.ev pv pb∧_∧∀i,i<Hs.ev.length→_;rw[h];exact⟨λ_=>rfl,none,λ_=>.slice none 0 0,λ_=>none,⟨AO.nil _ _ _,λi hi=>by simp at hi⟩,λg hg=>(by cases hg),λi hi=>by simp at hi⟩
theorem N2.start{w0 wr w7:World}{n:Nat}{c:Cm}{gC:Nat}{own:Nat→Nat}{dv nv:Value}{obn:Option Nat}{gs:Nat→Nat}{clv:Value}{obc:Option Nat}{gcl:Nat→Nat}(h:N2 w0 n c gC 8 wr own dv nv obn gs clv obc gcl)(hn:0<n) (hck:cK c<8) (h0:cO) (hc:Holds w7 gC 85 (DV n dv nv clv (.slice (some ⟨wr.heap.size,0,none⟩) 8 8) (.slice none 0 0) (.slice none 0 0))) (ht:Touch gC (wr.alloc (.cells Kr.toArray 23)) w7):P6 w0 n c gC w7:=by
 have hb:=(Below.refl wr.heap.size wr).alloc (Nat.le_refl _) (.cells Kr.toArray 23);have hs1:=ht.size;have hsz:wr.heap.size+1≤w7.heap.size:=by
  have:(wr.alloc (.cells Kr.toArray 23)).heap.size=wr.heap.size+1:=by simp
  omega
 have hm:Mv (λk=>k=gC) wr w7:=(Mv.of_below hb).mv (Mv.AU ht rfl:Mv (λk=>k=gC) _ w7) λk hk=>.inl hk;have hol:=h.lt;have hold:∀k,k<wr.heap.size→Bo own wr w7 1 k=own k:=λk hk=>Dj _ _ _ _ _ hk;have hlt1:∀k,own k=1→k<wr.heap.size:=λk hk=>(hol k (by omega)).2;have hca:Holds w7 wr.heap.size 23 Kr:=(AA wr 23 Kr).mv (Mv.AU ht rfl:Mv (λk=>k=gC) _ w7) (by have:=h.cl.lt;omega);obtain⟨gN,cN,rN,rfl,rfl,hcN1,hcN2,hnh,_⟩:=h.ns.blk hn;obtain⟨gCl,cCl,rC,rfl,rfl,hcC1,hcC2,hch,_⟩:=h.cs.blk (by decide);have hN:Holds w7 gN 59 (ptrs n gs++rN):=hnh.mv hm (hnh.ne_of h.cl (by decide));have hC:Holds w7 gCl 92 (ptrs 8 gcl++rC):=hch.mv hm (hch.ne_of h.cl (by decide));have hcat:∀j,j<8→Ju w7 (gcl j) ((j:Int)+1) 0 Cm.zero false 0 0:=λj hj=>Holds.mv (h.cats j hj).1 hm ((h.cats j hj).1.ne_of h.cl (by decide));have hlt7:∀k,Bo own wr w7 1 k≠0→w0.heap.size≤k∧k<w7.heap.size:=by
  intro x hx;have hbs:=h.bel.size;by_cases hx2:wr.heap.size≤x∧x<w7.heap.size
  ·exact⟨by omega,hx2.2⟩
  ·have h7:Bo own wr w7 1 x=own x:=if_neg hx2;rw[h7] at hx;have:=hol x hx;omega
 refine⟨Bo own wr w7 1,⟨dv,gN,cN,gCl,cCl,wr.heap.size,.slice none 0 0,.slice none 0 0,gs,gcl,⟨hc,⟨by rw[hold _ h.cl.lt,h.oc],by rw[hold _ hnh.lt,h.on gN rfl],by rw[hold _ hch.lt,h.ocl gCl rfl],Di _ _ _ _ _ (Nat.le_refl _) (by omega)⟩,⟨rN,hN⟩,⟨hcN1,hcN2⟩,⟨rC,hC⟩,⟨hcC1,hcC2⟩,.inl ⟨rfl,rfl,0,0,by rw[h0.1,h0.2.1];exact hcat _ hck⟩,λj hj _=>⟨0,0,by rw[h0.1,h0.2.1];exact hcat j hj⟩,λj hj=>by rw[hold _ (h.cats j hj).1.lt,(h.cats j hj).2],⟨Kr,hca,rfl,λh=>absurd rfl h⟩,⟨none,AO.nil _ _ _,by simp⟩,jI h0.2.2,λk hk=>(hlt7 k hk).2⟩,λj hj=>?_,by simp[BU]⟩,λk hk=>(hlt7 k hk).1,h.bel.trans ((hb.mono h.bel.size).trans (ht.below (hol gC (by rw[h.oc];decide)).1 (Nat.le_trans h.bel.size hb.size)))⟩;have h2:=(h.nodes j hj).mv hm λk hk hkl hf=>by have:=h.oc;rw[hk] at hf;omega
 rw[show (BU n).phs.getD j .fresh=.fresh from JR n j _ hj _];exact h2.foot λx hx hkl=>by rw[hold x (hol x (by omega)).2];exact hx
theorem iZ(n:Nat)(c:Cm)(w:World)(hn:n=3∨n=5∨n=7)(hck:cK c<8)(h0:cO) (KN:∀i gd W,i<n→FC W gd→Calls prog 45 #[.int .i64 n,.int .i64 i,.pointer (some ⟨gd,0,none⟩)] W λe w'=>∃g,e=.returned (.tuple #[.pointer (some ⟨g,0,none⟩),.int .i64 0])∧Bh w' (grow (λk=>k=gd) W w') g n i 0 c .fresh [] false 0∧Mv (λk=>k=gd) W w') :Calls prog 25 #[.int .i64 n] w λe w'=>∃gC,e=.returned (.tuple #[.pointer (some ⟨gC,0,none⟩),.int .i64 0])∧P6 w n c gC w':=by
 have hms:=XD;have KD:=qh YU;have KN:=qh KN;have H00:=qh h0;have KCl:=qh (λ(k:Nat) W (hk:k<8)=>fQ ((k:Int)+1) W (by omega));have hmx:max (n:Int) 1=n:=by omega
 have hmn:min (n:Int) 8=n:=by omega
 have hn8:n≤7:=by omega
 have hn0:0<n:=by omega
 clear hn h0;go_in;go_upto_region 2 with(fail);go_name_world W hW;obtain⟨HC,hbW,hsW⟩:=Ff 85 (DV n (.slice none 0 0) (.slice none 0 0) (.slice none 0 0) (.slice none 0 0) (.slice none 0 0) (.slice none 0 0)) hW;clear hW;have hI0:jo w n c w.heap.size 0 W:=⟨λk=>if k=w.heap.size then 1 else 0,.slice none 0 0,none,[],.slice none 0 0,none,λ_=>0,⟨HC.o,if_pos rfl,AO.nil _ _ _,by simp,AO.nil _ _ _,by simp,λj hj=>by omega,λk hk=>by
  by_cases hkw:k=w.heap.size
  ·subst hkw;exact⟨Nat.le_refl _,HC.lt⟩
  ·simp[hkw] at hk,hbW⟩⟩
 have HI0:=qh hI0;clear hI0 hbW hsW HC;have hgC:w.heap.size=w.heap.size:=rfl;generalize hg0:w.heap.size=gC at HI0 ⊢;clear hgC;go_wp2_with fail;go_loopw [20] (λvi wr=>∃i:Nat,vi=.int .i64 (i:Int)∧i≤n∧jo w n c gC i wr) (λvi _=>n - (intOf vi).toNat);case atStart=>exact⟨0,rfl,Nat.zero_le _,HI0.o⟩
 case round=>
  clear HI0;obtain⟨i,rfl,hi,own,dv,obd,xs,nv,obn,gs,hI⟩:=hrel;have HI:=qh hI;clear hI;by_cases hin:i=n
  ·subst hin;have hw0:=qh (show jm w i c gC 0 wr from⟨own,dv,nv,obn,gs,.slice none 0 0,none,λ_=>0,⟨HI.cl,HI.oc,HI.ns,HI.on,HI.nodes,AO.nil _ _ _,by simp,λj hj=>by omega,HI.lt,HI.bel⟩⟩);clear HI KN;go_wp2_with fail;go_loopw [10] (λvi wr2=>∃k:Nat,vi=.int .i64 ((k:Int)+1)∧k≤8∧jm w i c gC k wr2) (λvi _=>9 - (intOf vi).toNat);case atStart=>exact⟨0,rfl,by omega,hw0.out⟩
   case round=>
    clear hw0;obtain⟨k,rfl,hk,own2,dv2,nv2,obn2,gs2,clv,obc,gcl,hI2⟩:=hrel;have HI2:=qh hI2;clear hI2;by_cases hk8:k=8
    ·subst hk8;have HC:=HI2.cl;have h9:((8:Nat):Int)+1=9:=rfl;have h98:¬(((8:Nat):Int)+1≤8):=by omega
     try rw[h9]
     go_wp2_with (first|(refine sC 4 (HC.bel ((Below.refl _ _).alloc (Nat.le_refl _) _)) (.slice (some ⟨wr.heap.size,0,none⟩) 8 8) ?_;intro w7 hh7 ht7));have HS0:=qh (HI2.start (by omega) hck H00.o hh7 ht7);clear hh7 ht7 HI2 HC;go_loopw [82] (λvi wr3=>∃j:Nat,vi=.int .i64 (j:Int)∧j≤i∧P6 w i c gC wr3) (λvi _=>i - (intOf vi).toNat);case atStart=>exact⟨0,rfl,Nat.zero_le _,HS0.o⟩
     case round=>
      clear HS0;obtain⟨j,rfl,hj,hS⟩:=hrel;have HS:=qh hS;clear hS;by_cases hji:j=i
      ·subst hji;go_wp2_with fail;refine b2 (v:=.tuple #[.pointer (some ⟨gC,0,none⟩),.int .i64 0]) ?_;exact⟨gC,rfl,HS.o⟩
      ·have hjl:j<i:=by omega
       have hjj:(j:Int)<(i:Int):=by omega
       obtain⟨own3,hst,hlo,hbe⟩:=HS.o;have KO:=qh (Ny _ own3 gC i 0 j c (BU i) [] _ _ hst hjl rfl (λ_ _=>rfl) (λ_=>rfl) (by simp) (by simp[BU]) hck);go_wp2_with fail;refine KO.mono ?_;rintro e w9 ⟨rfl,own4,hst4,hsp4⟩;have HS9:=qh (P6.next hlo hbe hst4 hsp4);clear hst4 hsp4 KO hst;go_wp2_with fail;go_roundw;case rel=>exact⟨j+1,by simp,by omega,HS9.o⟩
       case measure=>simp[intOf];omega
    ·have hk7:k<8:=by omega
     have hkk:((k:Int)+1)≤8:=by omega
     go_wp2_with fail;refine Ac (KCl.o k _ hk7) ?_;rintro w3 ⟨hcat,hb3⟩;have HCT:=qh (show Holds w3 _ 132 _ from hcat);have HB3:=qh hb3;have HC:=qh (HI2.cl.bel hb3);have HCL:=qh (HI2.cs.bel hb3);clear hb3 hcat;generalize hgk:wr.heap.size=gk at HCT ⊢;have c3:=Ag HC.o 3;obtain⟨pc,cc,rfl⟩:∃pc cc,clv=.slice pc k cc:=by
      rcases HCL.cases with⟨r,_,r2,_⟩|⟨_,_,_,r,_⟩
      ·rw[r2];exact⟨_,_,r⟩
      ·exact⟨_,_,r⟩
     go_wp2_with (first|(refine F8 rfl 82 92 (.pointer (some ⟨gk,0,none⟩)) [.pointer (some ⟨gk,0,none⟩)] rfl rfl rfl (λw=>by kernel_rfl) ?_;intro wa hna hba;have HNA:=qh hna;have HC4:=qh (HC.bel hba);have HCL4:=qh (HCL.bel hba);have HB4:=qh (HB3.trans (hba.mono HB3.size));have HCT4:=qh (HCT.bel hba);clear hna hba)|(at_builtin;refine aS (.pointer none) 1 8 HCL4.o [.pointer (some ⟨gk,0,none⟩)] (HNA.reads 0 _ (λj v hv=>by rw[Nat.zero_add];exact hv)) ?_;intro v5 ob5 w5 ho5 hob5 hm5;have HO5:=qh ho5;have HCT5:=qh (HCT4.mv hm5 (CJ HCL4.o HCT4.o (by decide)));have hcc5:=CJ HCL4.o HC4.o (by decide);have HC5:=qh (HC4.mv hm5 hcc5);have HM5:=qh (Mv.mv (F:=λk=>k=gC∨obc=some k) (Mv.of_below HB4.o) hm5 (λk hk=>.inl (.inr hk)));have hs4:=HB4.size;have hob5':ob5=obc∨∃k,ob5=some k∧wr.heap.size≤k:=hob5.imp id (λ⟨k,h,h2⟩=>⟨k,h,by omega⟩);clear ho5 hob5 hm5)|(refine sC 3 HC5.o v5 ?_ (hu:=HO5.c1) (h1:=HO5.c2);intro w7 hh7 ht7));have hm7:Mv (λk=>k=gC) w5 w7:=Mv.AU ht7 rfl;have hcc7:=CJ HO5.o HC5.o (by decide);have hcx7:Ju w7 gk ((k:Int)+1) 0 Cm.zero false 0 0:=Holds.mv (Holds.mv HCT5.o (Mv.refl (λ_=>False) _) id) hm7 (HCT5.ne_of HC5.o (by decide));have HFIN:=qh (HI2.step hgk hh7 (HO5.mv hm7 (λk hk hf=>hcc7 (hf▸hk))) hob5' hcx7 (HM5.mv hm7 (λk hk=>.inl (.inl hk))));clear hh7 ht7 hm7 HC HCL HC4 HCL4 HC5 HO5 HM5 HNA HI2 c3 HCT HCT4 HCT5;go_roundw;case rel=>exact⟨k+1,by simp,by omega,HFIN.o⟩
     case measure=>simp[intOf];omega
  ·have hilt:i<n:=by omega
   have hii:(i:Int)<(n:Int):=by omega
   go_wp2_with fail;refine Ac (KD.o _) ?_;rintro w2 ⟨hd0,hb2⟩;have HB2:=qh hb2;have HD0:=qh hd0;clear hb2 hd0;go_wp2_with fail;refine(KN.o i _ _ hilt HD0.o).mono ?_;rintro e w5 ⟨gn,rfl,hnc,hm⟩;have HNC:=qh hnc;have HM5:=qh hm;have HD1:=HD0;clear hnc hm HD0;generalize hgd:wr.heap.size=gd at HNC HM5;have HB5:=qh (show Below wr.heap.size wr w5 from HB2.trans (HM5.below HB2.size (λk hk=>by omega)));have hgd5:gd<w5.heap.size:=by have h1:=HM5.size;have h2:=(show Holds w2 gd 125 _ from hgd▸HD1.o).lt;omega
   have hw25:wr.heap.size≤w2.heap.size:=HB2.size;have HC:=qh (HI.cl.bel HB5.o);have HD:=qh (HI.ds.bel HB5.o);have HN:=qh (HI.ns.bel HB5.o);have HM:=qh (Mv.refl (λk=>k=gC∨obd=some k∨obn=some k) w5);go_upto_region 9 with(fail);have hdcX:=CJ HD.o HC.o (by decide);obtain⟨HC,HD,HN,HM⟩:=Dy (AQ _ w5) HC HD HN HM;refine wp_region_noPanic ?_;refine Bi (S:=λW'=>Mv (λk=>obd=some k) w5.drew W') (X0:=[15,18,21]) (by as_aux_lemma=>kernel_rfl) ?_;generalize w5.drew=wd at HC HD HN HM ⊢;have hSn:Mv (λk=>obd=some k) wd wd:=Mv.refl _ _;change wpAnyL _ _ _ _ _ _ 22 #[false,false,false,false,false,false,false,false,false,false,false,false,false,false,false,false,false,false,false,false,false,false] _ _;refine Jr 0 ?_;refine CS 4 ?_;refine BG 5 [8,15,16,17,18,19,20,21] (λw hSw=>Ag (HC.mv hSw hdcX) 1) ?_;refine CS 6 ?_;refine Dz 9 ?_;refine BG 12 [15,16,17,18,19,20,21] (λw hSw=>Ag (HC.mv hSw hdcX) 2) ?_;refine CS 13 ?_;refine rdA [7,14] (Aw.cons rfl (λK hK=>?_) (Aw.cons rfl (λK hK=>?_) (Aw.nil)))
   ·skip
    refine tU 87 (.pointer (some ⟨gd,0,none⟩)) [.pointer (some ⟨gd,0,none⟩)] ?_;intro wa7 hna hba;obtain⟨HC,HD,HN,HM⟩:=Dy hba HC HD HN HM;try(have HA14:=qh (HA14.bel hba))
    have HA7:=qh hna;have hge7:=hba.size;clear hna;first|(have hSn:=hSn.bel hba;refine hK.out _ _ (λ_=>hSn) ?_)|refine hK.out _ _ IJ ?_
    clear hK;try simp only[Act.put,zA,zB,zC]
    refine rdA [8,14] (Aw.cons rfl (λK hK=>?_) (Aw.cons rfl (λK hK=>?_) (Aw.nil)))
    ·skip
     refine tS (.pointer none) 1 8 HD.o [.pointer (some ⟨gd,0,none⟩)] (HA7.reads 0 _ (λj v hv=>by rw[Nat.zero_add];exact hv)) ?_;intro v8 ob8 w8 ho8 hob8 hm8;have hdc:=CJ HD.o HC.o (by decide);have hdn:=Jk HN.o HD.o (by decide);try(have hda:=CJ HD.o HA14.o (by decide);have HA14:=qh (HA14.mv hm8 hda))
     have HC:=qh (HC.mv hm8 hdc);have HN:=qh (HN.mv hm8 (λk hk hf=>hdn k hk hf));have hle8:=HM.size;have HM:=qh (HM.mv hm8 (λk hk=>.inl (.inr (.inl hk))));have HD8:=qh ho8;have hob8':ob8=obd∨∃k,ob8=some k∧w5.heap.size≤k:=hob8.imp id (λ⟨k,h,h2⟩=>⟨k,h,by omega⟩);have hSn:=hSn.mv hm8 (λk hk=>.inl hk);clear ho8 hob8 hm8 HD;change K (Act.put _ (some 45) _) _;refine BN hK ?_;clear hK;refine BH 14 rfl (λK hK=>?_);refine tU 59 (.pointer (some ⟨gn,0,none⟩)) [.pointer (some ⟨gn,0,none⟩)] ?_;intro wa14 hna hba;obtain⟨HC,HN,HM⟩:=Du hba HC HN HM;try(have HA7:=qh (HA7.bel hba))
     try(have HD:=qh (HD.bel hba))
     try(have HD8:=qh (HD8.bel hba))
     have HA14:=qh hna;have hge14:=hba.size;clear hna;first|(have hSn:=hSn.bel hba;refine hK.out _ _ (λ_=>hSn) ?_)|refine hK.out _ _ IJ ?_
     clear hK;try simp only[Act.put,zA,zB,zC]
     refine BH 15 rfl (λK hK=>?_);refine tS (.pointer none) 1 8 HN.o [.pointer (some ⟨gn,0,none⟩)] (HA14.reads 0 _ (λj v hv=>by rw[Nat.zero_add];exact hv)) ?_;intro v9 ob9 w9 ho9 hob9 hm9;have hnc2:=CJ HN.o HC.o (by decide);have hnd:=Jk HD8.o HN.o (by decide);have HC:=qh (HC.mv hm9 hnc2);have HD8:=qh (HD8.mv hm9 (λk hk hf=>hnd k hk hf));have hle9:=HM.size;have HM:=qh (HM.mv hm9 (λk hk=>.inl (.inr (.inr hk))));have HN9:=qh ho9;have hob9':ob9=obn∨∃k,ob9=some k∧w5.heap.size≤k:=hob9.imp id (λ⟨k,h,h2⟩=>⟨k,h,by omega⟩);clear ho9 hob9 hm9 HN;change K (Act.put _ (some 52) _) _;refine BN hK ?_;clear hK;refine FT 16 ?_ (hS:=IJ);refine BH 18 rfl (λK hK=>?_);refine tC 1 HC.o v8 ?_ (hu:=HD8.c1) (h1:=HD8.c2);intro w10 hh10 ht10;have hm10:Mv (λk=>k=gC) _ w10:=Mv.AU ht10 rfl;have hc8:=CJ HD8.o HC.o (by decide);have hc9:=CJ HN9.o HC.o (by decide);have HD8:=qh (HD8.mv hm10 (λk hk hf=>hc8 (hf▸hk)));have HN9:=qh (HN9.mv hm10 (λk hk hf=>hc9 (hf▸hk)));have HM:=qh (HM.mv hm10 (λk hk=>.inl (.inl hk)));have HC:=qh (show Holds w10 gC 85 (DV n v8 nv (.slice none 0 0) (.slice none 0 0) (.slice none 0 0) (.slice none 0 0)) from hh10);clear hh10 ht10 hm10;refine BN hK ?_;clear hK;refine FT 19 ?_ (hS:=IJ);refine BH 21 rfl (λK hK=>?_);refine tC 2 HC.o v9 ?_ (hu:=HN9.c1) (h1:=HN9.c2);intro w11 hh11 ht11;have hm11:Mv (λk=>k=gC) _ w11:=Mv.AU ht11 rfl;have HD8:=qh (HD8.mv hm11 (λk hk hf=>hc8 (hf▸hk)));have HN9:=qh (HN9.mv hm11 (λk hk hf=>hc9 (hf▸hk)));have HM:=qh (HM.mv hm11 (λk hk=>.inl (.inl hk)));have HC:=qh (show Holds w11 gC 85 (DV n v8 v9 (.slice none 0 0) (.slice none 0 0) (.slice none 0 0) (.slice none 0 0)) from hh11);clear hh11 ht11 hm11;refine BN hK ?_;clear hK;refine Dl ?_;clear HA7 HA14;go_wp2_with fail;go_roundw;case rel=>exact⟨i+1,by simp,by omega,HI.step hilt hgd HB5.o hw25 (λk hk=>by omega) HNC.o HC.o HD8.o HN9.o hob8' hob9' HM.o⟩
     case measure=>simp[intOf];omega
    ·skip
     refine tU 59 (.pointer (some ⟨gn,0,none⟩)) [.pointer (some ⟨gn,0,none⟩)] ?_;intro wa14 hna hba;obtain⟨HC,HN,HM⟩:=Du hba HC HN HM;try(have HA7:=qh (HA7.bel hba))
     try(have HD:=qh (HD.bel hba))
     try(have HD8:=qh (HD8.bel hba))
     have HA14:=qh hna;have hge14:=hba.size;clear hna;first|(have hSn:=hSn.bel hba;refine hK.out _ _ (λ_=>hSn) ?_)|refine hK.out _ _ IJ ?_
     clear hK;try simp only[Act.put,zA,zB,zC]
     refine BH 8 rfl (λK hK=>?_);refine tS (.pointer none) 1 8 HD.o [.pointer (some ⟨gd,0,none⟩)] (HA7.reads 0 _ (λj v hv=>by rw[Nat.zero_add];exact hv)) ?_;intro v8 ob8 w8 ho8 hob8 hm8;have hdc:=CJ HD.o HC.o (by decide);have hdn:=Jk HN.o HD.o (by decide);try(have hda:=CJ HD.o HA14.o (by decide);have HA14:=qh (HA14.mv hm8 hda))
     have HC:=qh (HC.mv hm8 hdc);have HN:=qh (HN.mv hm8 (λk hk hf=>hdn k hk hf));have hle8:=HM.size;have HM:=qh (HM.mv hm8 (λk hk=>.inl (.inr (.inl hk))));have HD8:=qh ho8;have hob8':ob8=obd∨∃k,ob8=some k∧w5.heap.size≤k:=hob8.imp id (λ⟨k,h,h2⟩=>⟨k,h,by omega⟩);have hSn:=hSn.mv hm8 (λk hk=>.inl hk);clear ho8 hob8 hm8 HD;change K (Act.put _ (some 45) _) _;refine BN hK ?_;clear hK;refine BH 15 rfl (λK hK=>?_);refine tS (.pointer none) 1 8 HN.o [.pointer (some ⟨gn,0,none⟩)] (HA14.reads 0 _ (λj v hv=>by rw[Nat.zero_add];exact hv)) ?_;intro v9 ob9 w9 ho9 hob9 hm9;have hnc2:=CJ HN.o HC.o (by decide);have hnd:=Jk HD8.o HN.o (by decide);have HC:=qh (HC.mv hm9 hnc2);have HD8:=qh (HD8.mv hm9 (λk hk hf=>hnd k hk hf));have hle9:=HM.size;have HM:=qh (HM.mv hm9 (λk hk=>.inl (.inr (.inr hk))));have HN9:=qh ho9;have hob9':ob9=obn∨∃k,ob9=some k∧w5.heap.size≤k:=hob9.imp id (λ⟨k,h,h2⟩=>⟨k,h,by omega⟩);clear ho9 hob9 hm9 HN;change K (Act.put _ (some 52) _) _;refine BN hK ?_;clear hK;refine FT 16 ?_ (hS:=IJ);refine BH 18 rfl (λK hK=>?_);refine tC 1 HC.o v8 ?_ (hu:=HD8.c1) (h1:=HD8.c2);intro w10 hh10 ht10;have hm10:Mv (λk=>k=gC) _ w10:=Mv.AU ht10 rfl;have hc8:=CJ HD8.o HC.o (by decide);have hc9:=CJ HN9.o HC.o (by decide);have HD8:=qh (HD8.mv hm10 (λk hk hf=>hc8 (hf▸hk)));have HN9:=qh (HN9.mv hm10 (λk hk hf=>hc9 (hf▸hk)));have HM:=qh (HM.mv hm10 (λk hk=>.inl (.inl hk)));have HC:=qh (show Holds w10 gC 85 (DV n v8 nv (.slice none 0 0) (.slice none 0 0) (.slice none 0 0) (.slice none 0 0)) from hh10);clear hh10 ht10 hm10;refine BN hK ?_;clear hK;refine FT 19 ?_ (hS:=IJ);refine BH 21 rfl (λK hK=>?_);refine tC 2 HC.o v9 ?_ (hu:=HN9.c1) (h1:=HN9.c2);intro w11 hh11 ht11;have hm11:Mv (λk=>k=gC) _ w11:=Mv.AU ht11 rfl;have HD8:=qh (HD8.mv hm11 (λk hk hf=>hc8 (hf▸hk)));have HN9:=qh (HN9.mv hm11 (λk hk hf=>hc9 (hf▸hk)));have HM:=qh (HM.mv hm11 (λk hk=>.inl (.inl hk)));have HC:=qh (show Holds w11 gC 85 (DV n v8 v9 (.slice none 0 0) (.slice none 0 0) (.slice none 0 0) (.slice none 0 0)) from hh11);clear hh11 ht11 hm11;refine BN hK ?_;clear hK;refine Dl ?_;clear HA7 HA14;go_wp2_with fail;go_roundw;case rel=>exact⟨i+1,by simp,by omega,HI.step hilt hgd HB5.o hw25 (λk hk=>by omega) HNC.o HC.o HD8.o HN9.o hob8' hob9' HM.o⟩
     case measure=>simp[intOf];omega
   ·skip
    refine tU 59 (.pointer (some ⟨gn,0,none⟩)) [.pointer (some ⟨gn,0,none⟩)] ?_;intro wa14 hna hba;obtain⟨HC,HN,HM⟩:=Du hba HC HN HM;try(have HA7:=qh (HA7.bel hba))
    try(have HD:=qh (HD.bel hba))
    try(have HD8:=qh (HD8.bel hba))
    have HA14:=qh hna;have hge14:=hba.size;clear hna;first|(have hSn:=hSn.bel hba;refine hK.out _ _ (λ_=>hSn) ?_)|refine hK.out _ _ IJ ?_
    clear hK;try simp only[Act.put,zA,zB,zC]
    refine BH 7 rfl (λK hK=>?_);refine tU 87 (.pointer (some ⟨gd,0,none⟩)) [.pointer (some ⟨gd,0,none⟩)] ?_;intro wa7 hna hba;obtain⟨HC,HD,HN,HM⟩:=Dy hba HC HD HN HM;try(have HA14:=qh (HA14.bel hba))
    have HA7:=qh hna;have hge7:=hba.size;clear hna;first|(have hSn:=hSn.bel hba;refine hK.out _ _ (λ_=>hSn) ?_)|refine hK.out _ _ IJ ?_
    clear hK;try simp only[Act.put,zA,zB,zC]
    refine BH 8 rfl (λK hK=>?_);refine tS (.pointer none) 1 8 HD.o [.pointer (some ⟨gd,0,none⟩)] (HA7.reads 0 _ (λj v hv=>by rw[Nat.zero_add];exact hv)) ?_;intro v8 ob8 w8 ho8 hob8 hm8;have hdc:=CJ HD.o HC.o (by decide);have hdn:=Jk HN.o HD.o (by decide);try(have hda:=CJ HD.o HA14.o (by decide);have HA14:=qh (HA14.mv hm8 hda))
    have HC:=qh (HC.mv hm8 hdc);have HN:=qh (HN.mv hm8 (λk hk hf=>hdn k hk hf));have hle8:=HM.size;have HM:=qh (HM.mv hm8 (λk hk=>.inl (.inr (.inl hk))));have HD8:=qh ho8;have hob8':ob8=obd∨∃k,ob8=some k∧w5.heap.size≤k:=hob8.imp id (λ⟨k,h,h2⟩=>⟨k,h,by omega⟩);have hSn:=hSn.mv hm8 (λk hk=>.inl hk);clear ho8 hob8 hm8 HD;change K (Act.put _ (some 45) _) _;refine BN hK ?_;clear hK;refine BH 15 rfl (λK hK=>?_);refine tS (.pointer none) 1 8 HN.o [.pointer (some ⟨gn,0,none⟩)] (HA14.reads 0 _ (λj v hv=>by rw[Nat.zero_add];exact hv)) ?_;intro v9 ob9 w9 ho9 hob9 hm9;have hnc2:=CJ HN.o HC.o (by decide);have hnd:=Jk HD8.o HN.o (by decide);have HC:=qh (HC.mv hm9 hnc2);have HD8:=qh (HD8.mv hm9 (λk hk hf=>hnd k hk hf));have hle9:=HM.size;have HM:=qh (HM.mv hm9 (λk hk=>.inl (.inr (.inr hk))));have HN9:=qh ho9;have hob9':ob9=obn∨∃k,ob9=some k∧w5.heap.size≤k:=hob9.imp id (λ⟨k,h,h2⟩=>⟨k,h,by omega⟩);clear ho9 hob9 hm9 HN;change K (Act.put _ (some 52) _) _;refine BN hK ?_;clear hK;refine FT 16 ?_ (hS:=IJ);refine BH 18 rfl (λK hK=>?_);refine tC 1 HC.o v8 ?_ (hu:=HD8.c1) (h1:=HD8.c2);intro w10 hh10 ht10;have hm10:Mv (λk=>k=gC) _ w10:=Mv.AU ht10 rfl;have hc8:=CJ HD8.o HC.o (by decide);have hc9:=CJ HN9.o HC.o (by decide);have HD8:=qh (HD8.mv hm10 (λk hk hf=>hc8 (hf▸hk)));have HN9:=qh (HN9.mv hm10 (λk hk hf=>hc9 (hf▸hk)));have HM:=qh (HM.mv hm10 (λk hk=>.inl (.inl hk)));have HC:=qh (show Holds w10 gC 85 (DV n v8 nv (.slice none 0 0) (.slice none 0 0) (.slice none 0 0) (.slice none 0 0)) from hh10);clear hh10 ht10 hm10;refine BN hK ?_;clear hK;refine FT 19 ?_ (hS:=IJ);refine BH 21 rfl (λK hK=>?_);refine tC 2 HC.o v9 ?_ (hu:=HN9.c1) (h1:=HN9.c2);intro w11 hh11 ht11;have hm11:Mv (λk=>k=gC) _ w11:=Mv.AU ht11 rfl;have HD8:=qh (HD8.mv hm11 (λk hk hf=>hc8 (hf▸hk)));have HN9:=qh (HN9.mv hm11 (λk hk hf=>hc9 (hf▸hk)));have HM:=qh (HM.mv hm11 (λk hk=>.inl (.inl hk)));have HC:=qh (show Holds w11 gC 85 (DV n v8 v9 (.slice none 0 0) (.slice none 0 0) (.slice none 0 0) (.slice none 0 0)) from hh11);clear hh11 ht11 hm11;refine BN hK ?_;clear hK;refine Dl ?_;clear HA7 HA14;go_wp2_with fail;go_roundw;case rel=>exact⟨i+1,by simp,by omega,HI.step hilt hgd HB5.o hw25 (λk hk=>by omega) HNC.o HC.o HD8.o HN9.o hob8' hob9' HM.o⟩
    case measure=>simp[intOf];omega
end
end Go.Proofs.YtimdpiifpibgfaaGreatDoor
