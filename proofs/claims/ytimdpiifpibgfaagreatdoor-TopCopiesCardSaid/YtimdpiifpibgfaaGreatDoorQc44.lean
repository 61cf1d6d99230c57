/- A part of the proof that the law TopCopies returns true for every input. -/
import Derived.Test.YtimdpiifpibgfaaGreatDoorQc43
set_option linter.all false
set_option maxRecDepth 20000
set_option maxHeartbeats 16000000
open Go.RowKit Go.Maps
namespace Go.Proofs.YtimdpiifpibgfaaGreatDoor
open Tryz
section
section
variable [In] [Bs] [Hs]
theorem Bg.lt{w:World}{own:Nat→Nat}{gC n q:Nat}{c:Cm}{s:Cs}(h:Bg w own gC n q c s):∀k,own k≠0→k<w.heap.size:=by obtain⟨dv,gN,cN,gCl,cCl,gCa,lv,hv,gs,gcl,hB,hN,hp⟩:=h;exact hB.lt
theorem TK(w:World)(own:Nat→Nat)(gC n q:Nat)(c:Cm)(s:Cs)(h:Bg w own gC n q c s) :Calls prog 9 #[.pointer (some ⟨gC,0,none⟩)] w λe w'=>e=.returned (.int .i64 n)∧Below w.heap.size w w':=by obtain⟨dv,gN,cN,gCl,cCl,gCa,lv,hv,gs,gcl,hB,hN,hp⟩:=h;exact dw gC n dv _ _ _ lv hv w hB.cl
theorem MS(w:World)(own:Nat→Nat)(gC n q i:Nat)(c:Cm)(s:Cs)(h:Bg w own gC n q c s)(hi:i<n) :Calls prog 17 #[.pointer (some ⟨gC,0,none⟩),.int .i64 i] w λe w'=>∃g,e=.returned (.pointer (some ⟨g,0,none⟩))∧Bh w' (λk=>own k=2+i) g n i q c (s.phs.getD i .fresh) [] false s.tk∧Below w.heap.size w w':=by obtain⟨dv,gN,cN,gCl,cCl,gCa,lv,hv,gs,gcl,hB,hN,hp⟩:=h;obtain⟨rN,hnp⟩:=hB.np;refine Ac (Rn gC n gN cN i gs rN dv _ _ lv hv w hB.cl hnp hi) ?_;rintro w' hb;exact⟨_,rfl,(hN i hi).mv (G:=λ_=>False) (.of_below hb) (λ_ h=>h.elim),hb⟩
theorem VW(w:World)(own:Nat→Nat)(gC n q:Nat)(c:Cm)(s:Cs)(h:Bg w own gC n q c s)(hl:(evs c s.hist).length≤1000)(hps:∀e∈evs c s.hist,e.r.ps.length≤1000) :Calls prog 14 #[.pointer (some ⟨gC,0,none⟩)] w (JC (evs c s.hist) w):=by obtain⟨dv,gN,cN,gCl,cCl,gCa,lv,hv,gs,gcl,hB,hN,hp⟩:=h;obtain⟨hz,ob,pv,pb,h1,_⟩:=hB.his;exact X7 gC n dv _ _ _ lv hv ob _ pv pb w hB.cl h1 hz hl hps
theorem Il(w:World)(own:Nat→Nat)(gC n q:Nat)(c:Cm)(s:Cs)(h:Bg w own gC n q c s)(hl:s.lets.length≤1000) :Calls prog 13 #[.pointer (some ⟨gC,0,none⟩)] w λe w'=>∃p cap,e=.returned (.slice p s.lets.length cap)∧Below w.heap.size w w':=by obtain⟨dv,gN,cN,gCl,cCl,gCa,lv,hv,gs,gcl,hB,hN,hp⟩:=h;obtain⟨ob,h1,_⟩:=hB.lts;refine(X8 gC n s.lets.length dv _ _ _ lv hv ob _ w hB.cl h1 (G9 c q s.lets _) hl).mono ?_;rintro e w' ⟨p,cap,rfl,hb⟩;exact⟨p,cap,rfl,hb⟩
theorem Z7(w:World)(own:Nat→Nat)(gC n q:Nat)(c:Cm)(s:Cs)(h:Bg w own gC n q c s)(hl:s.lets=[]) :Calls prog 11 #[.pointer (some ⟨gC,0,none⟩),.agg (CZ 2 0).toArray] w λe w'=>e=.returned (.bool false)∧Below w.heap.size w w':=by
 obtain⟨dv,gN,cN,gCl,cCl,gCa,lv,hv,gs,gcl,hB,hN,hp⟩:=h;obtain⟨ob,h1,_⟩:=hB.lts;rw[hl] at h1;obtain⟨p,cap,rfl⟩:∃p cap,lv=.slice p 0 cap:=by
  rcases h1.cases with⟨r,_⟩|⟨_,_,_,r,_⟩
  ·exact⟨_,_,r⟩
  ·exact⟨_,_,r⟩
 refine Rj gC false (λw'=>Below w.heap.size w w') w λW hb=>?_;refine Ac (WE gC n dv _ _ _ hv p cap W (hB.cl.bel hb)) ?_;rintro w' hb2;exact⟨rfl,hb.trans (hb2.mono hb.size)⟩
end
def OwnB(B:Nat)(w0:World)(own:Nat→Nat)(w:World):Prop:=Base B w0 w∧∀k,own k≠0→B≤k
theorem OwnB.step{B:Nat}{w0 w w':World}{own own':Nat→Nat}(h:OwnB B w0 own w)(hs:Stepped w own w' own'):OwnB B w0 own' w':=by
 refine⟨h.1.mv hs.2 h.2,λk hk=>?_⟩;by_cases hl:k<w.heap.size
 ·exact h.2 k (by rwa [hs.1 k hl] at hk)
 ·have:=h.1.le;omega
theorem OwnB.bel{B:Nat}{w0 w w':World}{own:Nat→Nat}(h:OwnB B w0 own w)(hb:Below w.heap.size w w'):OwnB B w0 own w':=⟨h.1.bel hb,h.2⟩
instance {B:Nat}{w0 w w':World}{own:Nat→Nat}:Bl w w' (OwnB B w0 own w) (OwnB B w0 own w'):=⟨λhb h=>OwnB.bel h hb⟩
def Td:Nat→Option Cs
 | 0=>some (EM 3 0)
 | k+1=>(Td k).bind (Tf k)
def Z4(k:Nat):Option Cs:=(Td 3).bind (I9 (Ei 3 0 false) k)
theorem ZM:∀k,k<3→∃s s',Td k=some s∧Td (k+1)=some s'∧Tf k s=some s'∧s.lets.length≤1000
 | 0,_=>⟨_,_,rfl,rfl,rfl,by decide⟩
 | 1,_=>⟨_,_,rfl,rfl,rfl,by decide⟩
 | 2,_=>⟨_,_,rfl,rfl,rfl,by decide⟩
theorem Z5:∀k,k<6→∃s s',Z4 k=some s∧Z4 (k+1)=some s'∧Ei 3 0 false s=some s'∧s.lets.length≤1000
 | 0,_=>⟨_,_,rfl,rfl,rfl,by decide⟩
 | 1,_=>⟨_,_,rfl,rfl,rfl,by decide⟩
 | 2,_=>⟨_,_,rfl,rfl,rfl,by decide⟩
 | 3,_=>⟨_,_,rfl,rfl,rfl,by decide⟩
 | 4,_=>⟨_,_,rfl,rfl,rfl,by decide⟩
 | 5,_=>⟨_,_,rfl,rfl,rfl,by decide⟩
theorem Yb:Z4 6=some (Jq 3 3):=by decide +kernel
section
variable [In] [Bs] [Hs]
theorem ZB(w:World)(own:Nat→Nat)(gC:Nat)(c:Cm)(h:Bg w own gC 3 0 c (EM 3 0))(hBs:EN 3 0 c)(hH:NY c)(hB0:Bs.L=[])(B:Nat)(w0:World)(hO:OwnB B w0 own w) :Calls prog 16 #[.pointer (some ⟨gC,0,none⟩)] w λe w'=>e=.returned (.tuple #[])∧∃own',Bg w' own' gC 3 0 c (Jq 3 3)∧OwnB B w0 own' w':=by
 have e1:=Yb;refine eG gC 3 6 (λi w'=>∃s own',Td i=some s∧Bg w' own' gC 3 0 c s∧OwnB B w0 own' w') (λi w'=>∃s own',Z4 i=some s∧Bg w' own' gC 3 0 c s∧OwnB B w0 own' w') w ?_ ?_ ?_ ?_ ?_ ?_ (by decide) (by decide) |>.mono ?_
 ·refine Ac (TK w own gC 3 0 c _ h) ?_;rintro w' hb;exact⟨rfl,_,own,rfl,JB.bel h hH.ck hb,hO.bel hb⟩
 ·rintro i hi W ⟨s,own',hs,hW,hO⟩;obtain⟨s0,s',h3,h4,h5,h6⟩:=ZM i hi;obtain rfl:s0=s:=by rw[hs] at h3;injection h3 with h3;exact h3.symm
  refine Ac (bW W own' gC 3 0 i c s0 s' hW h5 hi h6 hBs hB0 hH.ck) ?_;rintro w' ⟨own2,h7,h8⟩;exact⟨rfl,s',own2,h4,h7,hO.step h8⟩
 ·rintro i hi W ⟨s,own',hs,hW,hO⟩;obtain⟨s0,s',h3,h4,h5,h6⟩:=Z5 i hi;obtain rfl:s0=s:=by rw[hs] at h3;injection h3 with h3;exact h3.symm
  refine Ac (Qk W own' gC 3 0 c s0 s' hW h5 h6 hBs hH) ?_;rintro w' ⟨own2,h7,h8⟩;exact⟨rfl,s',own2,h4,h7,hO.step h8⟩
 ·rintro W ⟨s,own',hs,hW,hO⟩;obtain rfl:Jq 3 3=s:=by rw[hs] at e1;injection e1 with e1;exact e1.symm
  refine Ac (Z7 W own' gC 3 0 c _ hW rfl) ?_;rintro w' hb;exact⟨rfl,_,own',hs,JB.bel hW hH.ck hb,hO.bel hb⟩
 ·rintro j hj W ⟨s,own',hs,hW,hO⟩;obtain rfl:Jq 3 3=s:=by rw[hs] at e1;injection e1 with e1;exact e1.symm
  refine Ac (Zr W own' gC 3 0 j c _ hW rfl hj) ?_;rintro w' hb;exact⟨rfl,_,own',hs,JB.bel hW hH.ck hb,hO.bel hb⟩
 ·rintro W ⟨s,own',hs,hW,hO⟩;exact⟨s,own',hs,hW,hO⟩
 ·rintro e w' ⟨rfl,s,own',hs,hW,hO⟩;obtain rfl:Jq 3 3=s:=by rw[hs] at e1;injection e1 with e1;exact e1.symm
  exact⟨rfl,own',hW,hO⟩
end
theorem Y3(n:Int)(r:Nat)(hn:-9223372036854775808≤n∧n≤9223372036854775807)(hr:n % 3=(r:Int))(w:World) :Calls prog 7 #[.int .i64 n] w λe w'=>∃gC,e=.returned (.pointer (some ⟨gC,0,none⟩))∧∃own,@Bg I0 B0 H0 w' own gC (sizeOf3 r) 0 c0 (BU (sizeOf3 r))∧(∀k,own k≠0→w.heap.size≤k)∧Below w.heap.size w w':=by
 have hr3:r<3:=by omega
 refine kY n r hn hr w (λgC w'=>∃own,@Bg I0 B0 H0 w' own gC (sizeOf3 r) 0 c0 (BU (sizeOf3 r))∧(∀k,own k≠0→w.heap.size≤k)∧Below w.heap.size w w') λW hb=>?_;have hn3:sizeOf3 r=3∨sizeOf3 r=5∨sizeOf3 r=7:=by rcases(show r=0∨r=1∨r=2 by omega) with rfl|rfl|rfl<;>simp[sizeOf3]
 refine(@iZ I0 B0 H0 (sizeOf3 r) c0 W hn3 (by decide) ⟨λ_=>rfl,λ_=>rfl,rfl⟩ (λi gd W hi hd=>Y2 W (sizeOf3 r) i gd hd hn3 hi)).mono ?_;rintro e w' ⟨gC,rfl,own,h3,h4,h5⟩;exact⟨gC,rfl,own,h3,λk hk=>Nat.le_trans hb.size (h4 k hk),hb.trans (h5.mono hb.size)⟩
theorem Zj:EC IE.k 1 1 IE.a IE.b IE.o IE.v=true:=by kernel_rfl
theorem Rl:(FN [] (Bd 0 0 IE)).1.length=1:=by decide +kernel
theorem V6(w:World):Calls prog 8 #[] w λe w'=>e=.returned (.bool true)∧Below w.heap.size w w':=by
 have hfit:fits (Bd 0 0 IE):=⟨Zj,by decide⟩;have H:=Inv.start (n:=3) (.inl rfl);obtain⟨hBs,hHs,_⟩:=H.step (by decide) (q:=0) (k:=0) (by decide) (by decide) IE (Bd 0 0 IE) rfl hfit;generalize H.inst (by decide) 0 (Bd 0 0 IE)=I at hBs;refine dU (λgC w'=>∃own,@Bg I B0 H0 w' own gC 3 0 (Bd 0 0 IE) (BU 3)∧OwnB w.heap.size w own w') (λgC w'=>∃own,@Bg I B0 H0 w' own gC 3 0 (Bd 0 0 IE) (EM 3 0)∧OwnB w.heap.size w own w') (λgC w'=>∃own,@Bg I B0 H0 w' own gC 3 0 (Bd 0 0 IE) (Jq 3 3)∧OwnB w.heap.size w own w') (λw'=>Below w.heap.size w w') w ?_ ?_ ?_ ?_ ?_ ?_ ?_
 ·refine(Y3 0 0 (by decide) (by decide) w).mono ?_;rintro e w' ⟨gC,rfl,own,h1,h2,h3⟩;exact⟨gC,rfl,own,h1.any (by decide) (by decide),(Base.start w).bel h3,h2⟩
 ·rintro gC W W' ⟨own,h,hO⟩ hb;exact⟨own,@JB.bel I B0 H0 _ _ _ _ _ _ _ _ _ _ h (by decide) hb,hO.bel hb⟩
 ·rintro gC W ⟨own,h,hO⟩;refine(@LZ I B0 H0 W own gC 3 0 0 IE _ rfl (by decide) ⟨Int.le_refl _,(by decide:(0:Int)≤1000000000)⟩ (by decide) h (by decide) (by decide) (λ_=>⟨hBs,hHs⟩)).mono ?_;rintro e w' ⟨b,rfl,⟨rfl,_,own',h2,h3⟩|⟨rfl,h3,_⟩⟩
  ·exact⟨rfl,own',h2,hO.step h3⟩
  ·exact absurd hfit h3
 ·rintro gC W ⟨own,h,hO⟩;exact @ZB I B0 H0 W own gC _ h hBs hHs rfl _ _ hO
 ·rintro gC W ⟨own,h,hO⟩;refine(@VW I B0 H0 W own gC 3 0 _ _ h (by decide) (λe he=>?_)).mono ?_
  ·have he:e∈([]++[_])++[_]:=he;simp only[List.nil_append,List.cons_append,List.mem_cons,List.not_mem_nil,or_false] at he;rcases he with rfl|rfl
   ·simp[Rep.zero]
   ·exact @NY.rp B0 H0 _ hHs
  ·rintro e w' ⟨v,ob,pv,pb,rfl,hev,hb⟩;obtain⟨p,c2,rfl,_⟩:=hev.rows;obtain⟨g,cap,rest,hv,_⟩:=AO.blk hev.1 (by decide);injection hv with hv1 _ _;subst hv1;exact⟨g,c2,rfl,own,@JB.bel I B0 H0 _ _ _ _ _ _ _ _ _ _ h (by decide) hb,hO.bel hb⟩
 ·rintro gC W ⟨own,h,hO⟩;refine(@MS I B0 H0 W own gC 3 0 2 _ _ h (by decide)).mono ?_;rintro e w' ⟨g,rfl,_,hb⟩;exact⟨g,rfl,own,@JB.bel I B0 H0 _ _ _ _ _ _ _ _ _ _ h (by decide) hb,hO.bel hb⟩
 ·rintro gC W ⟨own,h,hO⟩;refine(@MS I B0 H0 W own gC 3 0 2 _ _ h (by decide)).mono ?_;rintro e w' ⟨g,rfl,h1,hb⟩;have hO:=hO.bel hb;have h2:@Bh I (@JO I B0 0 (Bd 0 0 IE)) w' (λk=>own k=2+2) g 3 2 0 (Bd 0 0 IE) .fresh [] false 3:=Bh.next h1;have hfine:(IC B0.S (Bd 0 0 IE)).Fine 1:=St.Fine.zero.apply _ (@EN.hc I B0 _ _ _ hBs);refine⟨g,rfl,(@Kz I (@JO I B0 0 (Bd 0 0 IE)) w' _ g 3 2 0 _ [] false _ h2 (hfine.ok (by decide))).mono ?_⟩;rintro e w2 ⟨v,ob,pv,pb,rfl,hp,_,_,_,hb2⟩;have hp:AV w2 v ob (FN [] (Bd 0 0 IE)).1:=hp;obtain⟨g3,cap,rest,rfl,_⟩:=AO.blk hp (by rw[Rl];decide);rw[Rl];exact⟨_,cap,_,pv,rfl,(hO.1.bel hb2).below⟩
end
section
theorem Bg.other[In][Bs][Hs]{w w':World}{own:Nat→Nat}{G:Af}{gC n q:Nat}{c:Cm}{s:Cs}(h:Bg w own gC n q c s)(hck:cK c<8)(hm:Mv G w w')(hG:∀k,G k→own k=0):Bg w' own gC n q c s:=by obtain⟨dv,gN,cN,gCl,cCl,gCa,lv,hv,gs,gcl,hB,hN,hp⟩:=h;have hs:=hm.size;exact⟨dv,gN,cN,gCl,cCl,gCa,lv,hv,gs,gcl,hB.mv hck hm (λk hk _=>by rw[hG k hk];decide) (λ_ _=>rfl) (λk hk=>Nat.lt_of_lt_of_le (hB.lt k hk) hs),hN.mv hm (λk hk _=>by rw[hG k hk];decide) (λ_ _=>rfl),hp⟩
structure Two(B:Nat)(w0:World)(oa ob:Nat→Nat)(w:World):Prop where
 base:Base B w0 w
 la:∀k,oa k≠0→B≤k
 lb:∀k,ob k≠0→B≤k
 dis:∀k,oa k=0∨ob k=0
section
variable {B:Nat} {w0 w w':World} {oa ob oa':Nat→Nat}
theorem Two.bel(h:Two B w0 oa ob w)(hb:Below w.heap.size w w'):Two B w0 oa ob w':=⟨h.base.bel hb,h.la,h.lb,h.dis⟩
instance:Bl w w' (Two B w0 oa ob w) (Two B w0 oa ob w'):=⟨λhb h=>Two.bel h hb⟩
theorem Two.swap(h:Two B w0 oa ob w):Two B w0 ob oa w:=⟨h.base,h.lb,h.la,λk=>(h.dis k).symm⟩
theorem Two.step(h:Two B w0 oa ob w)(hs:Stepped w oa w' oa')(hb:∀k,ob k≠0→k<w.heap.size):Two B w0 oa' ob w':=by
 obtain⟨b1,b2⟩:=OwnB.step (⟨h.base,h.la⟩:OwnB B w0 oa w) hs;refine⟨b1,b2,h.lb,λk=>?_⟩;by_cases hk:k<w.heap.size
 ·rw[hs.1 k hk];exact h.dis k
 ·by_cases h0:ob k=0
  ·exact .inr h0
  ·exact absurd (hb k h0) hk
theorem Two.go[In][Bs][Hs]{gC n q:Nat}{c:Cm}{s:Cs}(h:Two B w0 oa ob w)(hs:Stepped w oa w' oa')(hck:cK c<8)(hb:Bg w ob gC n q c s):Bg w' ob gC n q c s∧Two B w0 oa' ob w':=
 ⟨hb.other hck hs.2 λk hk=>(h.dis k).resolve_left hk,h.step hs hb.lt⟩
end
theorem Me{n q:Nat}{f:Cs→Option Cs}{N:Nat}(h:Vl n q f N=true):(∀i,i<N→∃s s',I9 f i (EM n q)=some s∧s.lets≠[]∧f s=some s'∧I9 f (i+1) (EM n q)=some s')∧I9 f N (EM n q)=some (Jq n 0):=by
 unfold Vl at h;simp only[Bool.and_eq_true,List.all_eq_true,List.mem_range,beq_iff_eq] at h;obtain⟨h1,h2⟩:=h;have hs:∀i,i≤N→∃s,I9 f i (EM n q)=some s:=λi hi=>by
  by_cases hN:i=N
  ·exact⟨_,hN▸h2⟩
  ·have:=h1 i (by omega);cases hr:I9 f i (EM n q) with
   | none=>rw[hr] at this;cases this
   | some s=>exact⟨s,rfl⟩
 refine⟨λi hi=>?_,h2⟩;obtain⟨s,e1⟩:=hs i (by omega);obtain⟨s',e2⟩:=hs (i+1) (by omega);have h3:=h1 i hi;rw[e1] at h3;have e3:I9 f (i+1) (EM n q)=(I9 f i (EM n q)).bind f:=rfl;rw[e1] at e3;have h3:(!s.lets.isEmpty)=true:=h3;exact⟨s,s',e1,by intro he;rw[he] at h3;simp at h3,(e3.symm.trans e2),e2⟩
theorem UG{s s':Cs}{rest:List Lt}{i:Nat}{ph:Ph}{out:List Lt}{an:Bool}(h:OE s rest i ph out an=some s'):s'.lets.length≤1000:=by
 unfold OE at h;split at h
 ·cases h
 rename_i hlt;have hl:(rest++out).length≤1000:=by rw[List.length_append];omega
 split at h
 ·split at h
  ·injection h with h;rw[←h];exact hl
  ·cases h
 ·injection h with h;rw[←h];exact hl
theorem Jj{n q:Nat}{keep:Bool}{s s':Cs}(h:Ei n q keep s=some s'):s'.lets.length≤1000:=by
 unfold Ei at h;split at h
 ·cases h
 rw[Option.bind_eq_some_iff] at h;obtain⟨r,_,h⟩:=h;exact UG h
theorem V9(n q:Nat)(hn:n≤7):(EM n q).lets.length≤1000:=by simp[EM,Bz,FU];omega
theorem N7{n q:Nat}{f:Cs→Option Cs}(hn:n≤7)(hf:∀s s',f s=some s'→s'.lets.length≤1000):∀(i:Nat) (s:Cs),I9 f i (EM n q)=some s→s.lets.length≤1000
 | 0,s,h=>by injection h with h;rw[←h];exact V9 n q hn
 | i+1,s,h=>by have h:(I9 f i (EM n q)).bind f=some s:=h;rw[Option.bind_eq_some_iff] at h;obtain⟨s0,_,h⟩:=h;exact hf _ _ h
theorem P9{n q:Nat}{s s':Cs}(h:NG n q s=some s'):s'.lets.length≤1000:=by unfold NG at h;rw[Option.bind_eq_some_iff] at h;obtain⟨_,_,h⟩:=h;exact Jj h
def Py(B:Nat)(w0:World)(n i ga gb:Nat)(W:World):Prop:=
 ∃(b:Bs) (h:Hs) (oa ob:Nat→Nat),Inv n i b h∧@Bg I0 b h W oa ga n 0 c0 (BU n)∧@Bg I0 b h W ob gb n 0 c0 (BU n)∧Two B w0 oa ob W
def bz(B:Nat)(w0:World)(n i q ga gb:Nat)(sa sb:Cs)(W:World):Prop:=
 ∃(I:In) (b:Bs) (h:Hs) (c:Cm) (oa ob:Nat→Nat),@EN I b n q c∧@NY b h c∧Inv n (i+1) (@JO I b q c) (@QO I b h c)∧@Bg I b h W oa ga n q c sa∧@Bg I b h W ob gb n q c sb∧Two B w0 oa ob W
def Half(B:Nat)(w0:World)(n:Nat)(t:Bool)(i ga gb q k:Nat)(x:Cm)(W:World):Prop:=
 if t then ∃(I:In) (b:Bs) (h:Hs) (oa ob:Nat→Nat),Inv n i b h∧@EN I b n q (Bd k (h.sq k) x)∧@NY b h (Bd k (h.sq k) x)∧fits (Bd k (h.sq k) x)∧Inv n (i+1) (@JO I b q (Bd k (h.sq k) x)) (@QO I b h (Bd k (h.sq k) x))∧@Bg I b h W oa ga n q (Bd k (h.sq k) x) (EM n q)∧@Bg I b h W ob gb n q (Bd k (h.sq k) x) (BU n)∧Two B w0 oa ob W
 else ∃(b:Bs) (h:Hs) (oa ob:Nat→Nat),Inv n i b h∧¬fits (Bd k (h.sq k) x)∧@Bg I0 b h W oa ga n 0 c0 (BU n)∧@Bg I0 b h W ob gb n 0 c0 (BU n)∧Two B w0 oa ob W
def Full(B:Nat)(w0:World)(n:Nat)(t:Bool)(i ga gb ja jb:Nat)(W:World):Prop:=
 if t then ∃q sa sb,q<n∧I9 (Ei n q false) ja (EM n q)=some sa∧I9 (NG n q) jb (EM n q)=some sb∧bz B w0 n i q ga gb sa sb W
 else Py B w0 n i ga gb W
def Mid(B:Nat)(w0:World)(n:Nat)(t:Bool)(i ga gb ja jb:Nat)(W:World):Prop:=
 t=true∧∃q sa sb sc sd,q<n∧I9 (Ei n q false) ja (EM n q)=some sa∧I9 (NG n q) jb (EM n q)=some sb∧Ei n q true sb=some sc∧Ei n q false sc=some sd∧bz B w0 n i q ga gb sa sc W
def nA(n:Nat)(t:Bool):Nat:=if t then 3*(n-1) else 0
def nB(n:Nat)(t:Bool):Nat:=if t then 4*(n-1) else 0
section
variable {B:Nat} {w0 W W':World} {n i ga gb:Nat}
theorem Py.base(h:Py B w0 n i ga gb W):Base B w0 W:=by obtain⟨b,h,oa,ob,_,_,_,hT⟩:=h;exact hT.base
theorem Py.bel(h:Py B w0 n i ga gb W)(hb:Below W.heap.size W W'):Py B w0 n i ga gb W':=by obtain⟨b,h,oa,ob,hI,ha,hb2,hT⟩:=h;exact⟨b,h,oa,ob,hI,@JB.bel I0 b h _ _ _ _ _ _ _ _ _ _ ha (by decide) hb,@JB.bel I0 b h _ _ _ _ _ _ _ _ _ _ hb2 (by decide) hb,hT.bel hb⟩
instance:Bl W W' (Py B w0 n i ga gb W) (Py B w0 n i ga gb W'):=⟨λhb h=>Py.bel h hb⟩
theorem Inv.more{n i:Nat}{b:Bs}{h:Hs}(H:Inv n i b h):Inv n (i+1) b h:=⟨H.n7,Nat.le_succ_of_le H.nb,H.L,H.at_,H.len,H.E,H.d,H.fine,H.seq,H.sq,H.sc,H.kp,H.ev,H.rp⟩
theorem Py.more(h:Py B w0 n i ga gb W):Py B w0 n (i+1) ga gb W:=by obtain⟨b,hs,oa,ob,hI,h⟩:=h;exact⟨b,hs,oa,ob,hI.more,h⟩
theorem bz.bel{q:Nat}{sa sb:Cs}(h:bz B w0 n i q ga gb sa sb W)(hb:Below W.heap.size W W'):bz B w0 n i q ga gb sa sb W':=by obtain⟨I,b,h,c,oa,ob,h1,h2,h3,ha,hb2,hT⟩:=h;exact⟨I,b,h,c,oa,ob,h1,h2,h3,@JB.bel I b h _ _ _ _ _ _ _ _ _ _ ha h2.ck hb,@JB.bel I b h _ _ _ _ _ _ _ _ _ _ hb2 h2.ck hb,hT.bel hb⟩
instance {q:Nat}{sa sb:Cs}:Bl W W' (bz B w0 n i q ga gb sa sb W) (bz B w0 n i q ga gb sa sb W'):=⟨λhb h=>bz.bel h hb⟩
theorem Full.bel{t:Bool}{ja jb:Nat}(h:Full B w0 n t i ga gb ja jb W)(hb:Below W.heap.size W W'):Full B w0 n t i ga gb ja jb W':=by
 cases t with
 | false=>exact Py.bel h hb
 | true=>
  obtain⟨q,sa,sb,h1,h2,h3,h4⟩:=h;exact⟨q,sa,sb,h1,h2,h3,h4.bel hb⟩
instance {t:Bool}{ja jb:Nat}:Bl W W' (Full B w0 n t i ga gb ja jb W) (Full B w0 n t i ga gb ja jb W'):=⟨λhb h=>Full.bel h hb⟩
theorem Full.done{t:Bool}(h:Full B w0 n t i ga gb (nA n t) (nB n t) W)(hn:n=3∨n=5∨n=7):Py B w0 n (i+1) ga gb W:=by
 cases t with
 | false=>exact Py.more h
 | true=>
  obtain⟨q,sa,sb,hq,h2,h3,I,b,h,c,oa,ob,hB,hH,hI,ha,hb,hT⟩:=h;have hn':n∈[3,5,7]:=by rcases hn with h|h|h<;>simp[h]
  have hq':q∈List.range n:=List.mem_range.2 hq;have e1:=(Me (Qy n hn' q hq')).2;have e2:=(Me (PQ n hn' q hq')).2;obtain rfl:Jq n 0=sa:=Option.some.inj (e1.symm.trans h2);obtain rfl:Jq n 0=sb:=Option.some.inj (e2.symm.trans h3);exact⟨@JO I b q c,@QO I b h c,oa,ob,hI,ha.next hH.ck (by decide),hb.next hH.ck (by decide),hT⟩
theorem Xy{Wz:World}(h:Py B w0 n i ga gb Wz)(hbz:Below Wz.heap.size Wz W)(hi:i<20)(q k:Nat)(x:Cm)(hq:q<n)(hk:k<8) :Calls prog 11 #[.pointer (some ⟨ga,0,none⟩),.agg (Eb ((k:Int)+1) q x).toArray] W λe W'=>∃t,e=.returned (.bool t)∧Half B w0 n t i ga gb q k x W'∧Mv (λz=>z<Wz.heap.size) W W':=by
 have hlt:∀oa:Nat→Nat,∀(b:Bs) (h:Hs),@Bg I0 b h Wz oa ga n 0 c0 (BU n)→∀k,oa k≠0→k<Wz.heap.size:=λoa b h hc=>@Bg.lt I0 b h _ _ _ _ _ _ _ hc;obtain⟨b,h,oa,ob,hI,haz,hbw,hT⟩:=h;have hltA:=hlt oa b h haz;have ha:@Bg I0 b h W oa ga n 0 c0 (BU n):=@JB.bel I0 b h _ _ _ _ _ _ _ _ _ _ haz (by decide) hbz;have hb:@Bg I0 b h W ob gb n 0 c0 (BU n):=@JB.bel I0 b h _ _ _ _ _ _ _ _ _ _ hbw (by decide) hbz;have hT:=hT.bel hbz;have hn7:=hI.n7;have hnb:=hI.nb;have hsq:=hI.sq k;have hck:cK (Bd k (h.sq k) x)<8:=by rw[Nq];exact hk
 obtain⟨c,hc⟩:∃c,c=Bd k (h.sq k) x:=⟨_,rfl⟩;by_cases hf:fits c
 ·obtain⟨hBs,hHs,hI'⟩:=hI.step hi hq hk x c hc hf;generalize hI.inst hi q c=I at hBs hI';rw[←hc] at hck;refine(@LZ I b h W oa ga n q k x c hc hk ⟨hsq.1,by omega⟩ (by have:=hI.ev;omega) (ha.any (by decide) hck) hq (by omega) (λ_=>⟨hBs,hHs⟩)).mono ?_;rintro e w' ⟨t,rfl,⟨rfl,hfit,oa',h2,h3⟩|⟨rfl,h3,_⟩⟩
  ·obtain⟨h4,h5⟩:=@Two.go B w0 W w' oa ob oa' I b h gb n q c _ hT h3 hck (hb.any (by decide) hck);subst hc;exact⟨true,rfl,⟨I,b,h,oa',ob,hI,hBs,hHs,hfit,hI',h2,h4,h5⟩,h3.2.more λk hk=>hltA k hk⟩
  ·exact absurd hf h3
 ·rw[←hc] at hck;refine(@LZ I0 b h W oa ga n q k x c hc hk ⟨hsq.1,by omega⟩ (by have:=hI.ev;omega) (ha.any (by decide) hck) hq (by omega) (λh=>absurd h hf)).mono ?_;rintro e w' ⟨t,rfl,⟨rfl,hfit,_⟩|⟨rfl,h3,hbl⟩⟩
  ·exact absurd hfit hf
  ·subst hc;exact⟨false,rfl,⟨b,h,oa,ob,hI,h3,@JB.bel I0 b h _ _ _ _ _ _ _ _ _ _ ha (by decide) hbl,@JB.bel I0 b h _ _ _ _ _ _ _ _ _ _ hb (by decide) hbl,hT.bel hbl⟩,.of_below hbl⟩
theorem Xz{t:Bool}{q k:Nat}{x:Cm}(h:Half B w0 n t i ga gb q k x W)(hi:i<20)(hq:q<n)(hk:k<8) :Calls prog 11 #[.pointer (some ⟨gb,0,none⟩),.agg (Eb ((k:Int)+1) q x).toArray] W λe W'=>e=.returned (.bool t)∧Full B w0 n t i ga gb 0 0 W':=by
 cases t with
 | true=>
  obtain⟨I,b,h,oa,ob,hI,hBs,hHs,hfit,hI',ha,hb,hT⟩:=h;have hn7:=hI.n7;have hnb:=hI.nb;have hsq:=hI.sq k;have hck:=hHs.ck;refine(@LZ I b h W ob gb n q k x _ rfl hk ⟨hsq.1,by omega⟩ (by have:=hI.ev;omega) hb hq (by omega) (λ_=>⟨hBs,hHs⟩)).mono ?_;rintro e w' ⟨t,rfl,⟨rfl,hfit,ob',h2,h3⟩|⟨rfl,h3,_⟩⟩
  ·obtain⟨h4,h5⟩:=@Two.go B w0 W w' ob oa ob' I b h ga n q _ _ hT.swap h3 hck ha;exact⟨rfl,q,_,_,hq,rfl,rfl,I,b,h,_,oa,ob',hBs,hHs,hI',h4,h2,h5.swap⟩
  ·exact absurd hfit h3
 | false=>
  obtain⟨b,h,oa,ob,hI,hnf,ha,hb,hT⟩:=h;have hn7:=hI.n7;have hnb:=hI.nb;have hsq:=hI.sq k;have hck:cK (Bd k (h.sq k) x)<8:=by rw[Nq];exact hk
  refine(@LZ I0 b h W ob gb n q k x _ rfl hk ⟨hsq.1,by omega⟩ (by have:=hI.ev;omega) (hb.any (by decide) hck) hq (by omega) (λh=>absurd h hnf)).mono ?_;rintro e w' ⟨t,rfl,⟨rfl,hfit,_⟩|⟨rfl,h3,hbl⟩⟩
  ·exact absurd hfit hnf
  ·exact⟨rfl,b,h,oa,ob,hI,@JB.bel I0 b h _ _ _ _ _ _ _ _ _ _ ha (by decide) hbl,@JB.bel I0 b h _ _ _ _ _ _ _ _ _ _ hb (by decide) hbl,hT.bel hbl⟩
theorem VX(hn:n=3∨n=5∨n=7):n∈[3,5,7]:=by rcases hn with h|h|h<;>simp[h]
theorem TY{l:List Lt}(h:l≠[]):0<l.length:=List.length_pos_iff.2 h
theorem TA{t:Bool}{ja jb:Nat}(h:Full B w0 n t i ga gb ja jb W)(hn:n=3∨n=5∨n=7)(hj:ja≤nA n t) :Calls prog 13 #[.pointer (some ⟨ga,0,none⟩)] W λe W'=>∃p m cap,e=.returned (.slice p m cap)∧(ja<nA n t ↔ 0<m)∧Full B w0 n t i ga gb ja jb W':=by
 cases t with
 | false=>
  have h0:=h;obtain⟨b,h,oa,ob,hI,ha,hb,hT⟩:=h;refine(@Il I0 b h W oa ga n 0 c0 _ ha (by simp[BU])).mono ?_;rintro e w' ⟨p,cap,rfl,hbl⟩;exact⟨p,_,cap,rfl,by simp[nA,BU],Py.bel h0 hbl⟩
 | true=>
  have h0:=h;obtain⟨q,sa,sb,hq,h2,h3,I,b,h,c,oa,ob,hB,hH,hI,ha,hb,hT⟩:=h;obtain⟨r1,r2⟩:=Me (Qy n (VX hn) q (List.mem_range.2 hq));refine(@Il I b h W oa ga n q c sa ha (N7 (by omega) (λ_ _ h=>Jj h) _ _ h2)).mono ?_;rintro e w' ⟨p,cap,rfl,hbl⟩;refine⟨p,_,cap,rfl,?_,h0.bel hbl⟩;by_cases hlt:ja<nA n true
  ·obtain⟨s,s',e1,e2,_⟩:=r1 ja hlt;obtain rfl:s=sa:=Option.some.inj (e1.symm.trans h2);exact⟨λ_=>TY e2,λ_=>hlt⟩
  ·obtain rfl:ja=3*(n-1):=by have:nA n true=3*(n-1):=rfl;omega
   obtain rfl:Jq n 0=sa:=Option.some.inj (r2.symm.trans h2);exact⟨λh=>absurd h hlt,λh=>absurd h (by simp[Jq])⟩
theorem TB{t:Bool}{ja jb:Nat}(h:Full B w0 n t i ga gb ja jb W)(hn:n=3∨n=5∨n=7)(hj:jb≤nB n t) :Calls prog 13 #[.pointer (some ⟨gb,0,none⟩)] W λe W'=>∃p m cap,e=.returned (.slice p m cap)∧(jb<nB n t ↔ 0<m)∧Full B w0 n t i ga gb ja jb W':=by
 cases t with
 | false=>
  have h0:=h;obtain⟨b,h,oa,ob,hI,ha,hb,hT⟩:=h;refine(@Il I0 b h W ob gb n 0 c0 _ hb (by simp[BU])).mono ?_;rintro e w' ⟨p,cap,rfl,hbl⟩;exact⟨p,_,cap,rfl,by simp[nB,BU],Py.bel h0 hbl⟩
 | true=>
  have h0:=h;obtain⟨q,sa,sb,hq,h2,h3,I,b,h,c,oa,ob,hB,hH,hI,ha,hb,hT⟩:=h;obtain⟨r1,r2⟩:=Me (PQ n (VX hn) q (List.mem_range.2 hq));refine(@Il I b h W ob gb n q c sb hb (N7 (by omega) (λ_ _ h=>P9 h) _ _ h3)).mono ?_;rintro e w' ⟨p,cap,rfl,hbl⟩;refine⟨p,_,cap,rfl,?_,h0.bel hbl⟩;by_cases hlt:jb<nB n true
  ·obtain⟨s,s',e1,e2,_⟩:=r1 jb hlt;obtain rfl:s=sb:=Option.some.inj (e1.symm.trans h3);exact⟨λ_=>TY e2,λ_=>hlt⟩
  ·obtain rfl:jb=4*(n-1):=by have:nB n true=4*(n-1):=rfl;omega
   obtain rfl:Jq n 0=sb:=Option.some.inj (r2.symm.trans h3);exact⟨λh=>absurd h hlt,λh=>absurd h (by simp[Jq])⟩
theorem Yc{t:Bool}{ja jb:Nat}(h:Full B w0 n t i ga gb ja jb W)(hn:n=3∨n=5∨n=7)(hj:ja<nA n t) :Calls prog 11 #[.pointer (some ⟨ga,0,none⟩),.agg (CZ 2 0).toArray] W λe W'=>e=.returned (.bool true)∧Full B w0 n t i ga gb (ja+1) jb W':=by
 cases t with
 | false=>exact absurd hj (Nat.not_lt_zero _)
 | true=>
  obtain⟨q,sa,sb,hq,h2,h3,I,b,h,c,oa,ob,hB,hH,hI,ha,hb,hT⟩:=h;obtain⟨r1,_⟩:=Me (Qy n (VX hn) q (List.mem_range.2 hq));obtain⟨s,s',e1,e2,e3,e4⟩:=r1 ja hj;obtain rfl:s=sa:=Option.some.inj (e1.symm.trans h2);refine Ac (@Qk I b h W oa ga n q c s s' ha e3 (N7 (by omega) (λ_ _ h=>Jj h) _ _ h2) hB hH) ?_;rintro w' ⟨oa',h5,h6⟩;obtain⟨h7,h8⟩:=@Two.go B w0 W w' oa ob oa' I b h gb n q c _ hT h6 hH.ck hb;exact⟨rfl,q,s',sb,hq,e4,h3,I,b,h,c,oa',ob,hB,hH,hI,h5,h7,h8⟩
theorem YD{t:Bool}{ja jb:Nat}(h:Full B w0 n t i ga gb ja jb W)(hn:n=3∨n=5∨n=7)(hj:jb<nB n t) :Calls prog 11 #[.pointer (some ⟨gb,0,none⟩),.agg (CZ 3 0).toArray] W λe W'=>e=.returned (.bool true)∧Mid B w0 n t i ga gb ja jb W':=by
 cases t with
 | false=>exact absurd hj (Nat.not_lt_zero _)
 | true=>
  obtain⟨q,sa,sb,hq,h2,h3,I,b,h,c,oa,ob,hB,hH,hI,ha,hb,hT⟩:=h;obtain⟨r1,_⟩:=Me (PQ n (VX hn) q (List.mem_range.2 hq));obtain⟨s,s',e1,e2,e3,e4⟩:=r1 jb hj;obtain rfl:s=sb:=Option.some.inj (e1.symm.trans h3);unfold NG at e3;rw[Option.bind_eq_some_iff] at e3;obtain⟨sc,e5,e6⟩:=e3;refine Ac (@Zq I b h W ob gb n q c s sc hb e5 (N7 (by omega) (λ_ _ h=>P9 h) _ _ h3) hB hH) ?_;rintro w' ⟨ob',h5,h6⟩;obtain⟨h7,h8⟩:=@Two.go B w0 W w' ob oa ob' I b h ga n q c _ hT.swap h6 hH.ck ha;exact⟨rfl,rfl,q,sa,s,sc,s',hq,h2,h3,e5,e6,I,b,h,c,oa,ob',hB,hH,hI,h7,h5,h8.swap⟩
theorem Yd{t:Bool}{ja jb:Nat}(h:Mid B w0 n t i ga gb ja jb W) :Calls prog 11 #[.pointer (some ⟨gb,0,none⟩),.agg (CZ 2 0).toArray] W λe W'=>e=.returned (.bool true)∧Full B w0 n t i ga gb ja (jb+1) W':=by obtain⟨rfl,q,sa,sb,sc,sd,hq,h2,h3,e5,e6,I,b,h,c,oa,ob,hB,hH,hI,ha,hb,hT⟩:=h;refine Ac (@Qk I b h W ob gb n q c sc sd hb e6 (Jj e5) hB hH) ?_;rintro w' ⟨ob',h5,h6⟩;obtain⟨h7,h8⟩:=@Two.go B w0 W w' ob oa ob' I b h ga n q c _ hT.swap h6 hH.ck ha;refine⟨rfl,q,sa,sd,hq,h2,?_,I,b,h,c,oa,ob',hB,hH,hI,h7,h5,h8.swap⟩;show (I9 (NG n q) jb (EM n q)).bind (NG n q)=some sd;rw[h3];show (Ei n q true sb).bind (Ei n q false)=some sd;rw[e5];exact e6
end
end
def NQ(kd nn ct cl:Int)(x:Cm)(p:Option Addr)(pl pc:Nat):List Value:=[.int .i64 kd,.int .i64 nn,.int .i64 ct,.int .i64 cl,.int .i64 x.k,.int .i64 x.c,.int .i64 x.s,.string x.a,.string x.b,.string x.o,.string x.v,.slice p pl pc]
def PL:List Jp:=[.int .i64,.int .i64,.int .i64,.int .i64,.int .i64,.int .i64,.int .i64,.string,.string,.string,.string,.slice]
theorem bJ{l:List Value}(h:EK PL l):∃kd nn ct cl x p pl pc,l=NQ kd nn ct cl x p pl pc∧(-9223372036854775808≤nn∧nn≤9223372036854775807)∧(-9223372036854775808≤cl∧cl≤9223372036854775807):=by unfold PL at h;obtain⟨_,_,rfl,⟨kd,rfl,_⟩,g0⟩:=h.cons;obtain⟨_,_,rfl,⟨nn,rfl,h1⟩,g1⟩:=g0.cons;obtain⟨_,_,rfl,⟨ct,rfl,_⟩,g2⟩:=g1.cons;obtain⟨_,_,rfl,⟨cl,rfl,h2⟩,g3⟩:=g2.cons;obtain⟨_,_,rfl,⟨k,rfl,_⟩,g4⟩:=g3.cons;obtain⟨_,_,rfl,⟨c,rfl,_⟩,g5⟩:=g4.cons;obtain⟨_,_,rfl,⟨s,rfl,_⟩,g6⟩:=g5.cons;obtain⟨_,_,rfl,⟨a,rfl,_⟩,g7⟩:=g6.cons;obtain⟨_,_,rfl,⟨b,rfl,_⟩,g8⟩:=g7.cons;obtain⟨_,_,rfl,⟨o,rfl,_⟩,g9⟩:=g8.cons;obtain⟨_,_,rfl,⟨v,rfl,_⟩,g10⟩:=g9.cons;obtain⟨_,_,rfl,⟨p,pl,pc,rfl⟩,g11⟩:=g10.cons;obtain rfl:=g11.nil;exact⟨kd,nn,ct,cl,⟨k,c,s,a,b,o,v⟩,p,pl,pc,rfl,wf64 h1,wf64 h2⟩
theorem ZI{kd nn ct cl:Int}{x:Cm}{p:Option Addr}{pl pc j:Nat}{v:Value}(hv:x.cells[j]?=some v):(NQ kd nn ct cl x p pl pc)[4+j]?=some v:=by have hj:j<x.cells.length:=(List.getElem?_eq_some_iff.1 hv).1;rw[show NQ kd nn ct cl x p pl pc=[.int .i64 kd,.int .i64 nn,.int .i64 ct,.int .i64 cl]++(x.cells++[.slice p pl pc]) from rfl,List.getElem?_append_right (by simp),List.getElem?_append_left (by simpa using hj)];simpa using hv
theorem Wy(kd nn ct cl:Int)(x:Cm)(p:Option Addr)(pl pc:Nat)(w:World) :Calls prog 21 #[.agg (NQ kd nn ct cl x p pl pc).toArray] w λe w'=>∃b,e=.returned (.bool b)∧Below w.heap.size w w':=by
 have HB:=qh (Base.start w)
 go_enter func21,ntmps21
 go_upto_region 1 with(fail);go_name_world W hW;obtain⟨HS,hbW,hsW⟩:=Ff 32 (NQ kd nn ct cl x p pl pc) hW;clear hW;have HB:=ET hbW HB;clear hbW hsW;obtain⟨s7,s8,s9,s10,s11⟩:=MG HS.o 7 8 9 10 11;go_wp2_with fail;go_ret;exact⟨_,rfl,HB.below⟩
theorem aT(d:Nat→Int)(w:World):(binOp .neq 41 (.agg (DF d).toArray) (.agg (DF d).toArray)).run prog w=.ok (.bool false) w:=by have h:=λw=>JG 9998 (d 0) (d 1) (d 2) (d 3) (d 4) (d 5) (d 6) w;unfold DF;go_simp
end Go.Proofs.YtimdpiifpibgfaaGreatDoor
