/- A part of the proof that the law TopGone returns true for every input. -/
import Derived.Test.YtimdpiifpibgfaaGreatDoorQg45
set_option linter.all false
set_option maxRecDepth 20000
set_option maxHeartbeats 16000000
open Go.RowKit Go.Maps
namespace Go.Proofs.YtimdpiifpibgfaaGreatDoor
open Tryz
theorem Oe(w:World)(own:Nat→Nat)(gC n q:Nat)(c:Cm)(B:Nat)(s:Cs)(h:Eb w own gC n q c B s) :Calls prog 9 #[.pointer (some ⟨gC,0,none⟩)] w λe w'=>e=.returned (.int .i64 n)∧Below w.heap.size w w':=by obtain⟨dv,gN,cN,gCl,cCl,gCa,lv,hv,gs,gds,gcl,hB,hN,hp⟩:=h;exact bY gC n dv _ _ _ lv hv w hB.cl
theorem MR(w:World)(own:Nat→Nat)(gC n q i:Nat)(c:Cm)(B:Nat)(s:Cs)(h:Eb w own gC n q c B s)(hi:i<n)(hng:s.phs.getD i .fresh≠.gone) :Calls prog 17 #[.pointer (some ⟨gC,0,none⟩),.int .i64 i] w λe w'=>∃g gd,e=.returned (.pointer (some ⟨g,0,none⟩))∧Bg w' (λk=>own k=2+i) g gd n i q c (s.phs.getD i .fresh) [] false (s.tks.getD i 0) B∧Below w.heap.size w w':=by
 obtain⟨dv,gN,cN,gCl,cCl,gCa,lv,hv,gs,gds,gcl,hB,hN,hp⟩:=h;obtain⟨rN,hnp⟩:=hB.np;rcases hN i hi with h|⟨_,g,h1,h2⟩
 ·exact absurd h.1 hng
 ·refine AY (PZ gC n gN cN i g gs rN dv _ _ lv hv w hB.cl hnp hi h1) ?_;rintro w' hb;exact⟨g,gds i,rfl,h2.mv (G:=λ_=>False) (.of_below hb) (λ_ h=>h.elim),hb⟩
theorem Y9(w:World)(own:Nat→Nat)(gC n q j:Nat)(c:Cm)(B:Nat)(s:Cs)(h:Eb w own gC n q c B s)(hw:s.wait=false)(hj:j<8) :Calls prog 15 #[.pointer (some ⟨gC,0,none⟩),.int .i64 ((j:Int)+1)] w λe w'=>e=.returned (.bool false)∧Below w.heap.size w w':=by
 obtain⟨dv,gN,cN,gCl,cCl,gCa,lv,hv,gs,gds,gcl,hB,hN,hp⟩:=h;obtain⟨rC,hcp⟩:=hB.cp;by_cases h0:j=0
 ·subst h0;rcases hB.c0 with⟨_,_,h3⟩|⟨_,h3⟩
  ·exact QP gC n gCl cCl 0 gcl rC dv _ _ lv hv 1 0 Cm.zero false 0 0 w hB.cl hcp hj h3
  ·rw[hw] at h3;exact QP gC n gCl cCl 0 gcl rC dv _ _ lv hv 1 1 c false s.tg s.ct w hB.cl hcp hj h3
 ·exact QP gC n gCl cCl j gcl rC dv _ _ lv hv _ 0 Cm.zero false 0 0 w hB.cl hcp hj (hB.cs j hj h0)
theorem UY(w:World)(own:Nat→Nat)(gC n q:Nat)(c:Cm)(B:Nat)(s:Cs)(h:Eb w own gC n q c B s)(hw:s.wait=false) :Calls prog 18 #[.pointer (some ⟨gC,0,none⟩)] w λe w'=>e=.returned (.int .i64 0)∧Below w.heap.size w w':=by
 refine(Xm gC (λW=>Eb W own gC n q c B s∧Base w.heap.size w W) w ⟨h,Base.start w⟩ λj hj W ⟨hW,hb⟩=>?_).mono ?_
 ·refine AY (Y9 W own gC n q j c B s hW hw hj) ?_;rintro w' hb2;exact⟨rfl,JU.bel hW hb2,hb.bel hb2⟩
 ·rintro e w' ⟨rfl,_,hb⟩;exact⟨rfl,hb.below⟩
theorem Uy(w:World)(own:Nat→Nat)(gC n q:Nat)(c:Cm)(B:Nat)(s:Cs)(h:Eb w own gC n q c B s)(hh:s.hist=2) :Calls prog 14 #[.pointer (some ⟨gC,0,none⟩)] w λe w'=>∃g c2 rest,e=.returned (.slice (some ⟨g,0,none⟩) 2 c2)∧2≤c2∧Holds w' g 55 (Ir c++rest)∧Below w.heap.size w w':=by obtain⟨dv,gN,cN,gCl,cCl,gCa,lv,hv,gs,gds,gcl,hB,hN,hp⟩:=h;obtain⟨_,ob,h1,_⟩:=hB.his;rw[hh,Po] at h1;refine(XU gC n c dv _ _ _ lv hv ob w hB.cl h1).mono ?_;rintro e w' ⟨g,c2,rest,rfl,h2,h3,_,h4⟩;exact⟨g,c2,rest,rfl,h2,h3,h4⟩
theorem Uw(w:World)(own:Nat→Nat)(gC n q:Nat)(c:Cm)(B:Nat)(s:Cs)(h:Eb w own gC n q c B s)(hl:s.lets=[]) :Calls prog 11 #[.pointer (some ⟨gC,0,none⟩),.agg (Dh 2 0).toArray] w λe w'=>e=.returned (.bool false)∧Below w.heap.size w w':=by
 obtain⟨dv,gN,cN,gCl,cCl,gCa,lv,hv,gs,gds,gcl,hB,hN,hp⟩:=h;obtain⟨ob,h1,_⟩:=hB.lts;rw[hl] at h1;obtain⟨p,cap,rfl⟩:∃p cap,lv=.slice p 0 cap:=by
  rcases h1.cases with⟨r,_⟩|⟨_,_,_,r,_⟩
  ·exact⟨_,_,r⟩
  ·exact⟨_,_,r⟩
 refine Q5 gC false (λw'=>Below w.heap.size w w') w λW hb=>?_;refine AY (VX gC n dv _ _ _ hv p cap W (hB.cl.bel hb)) ?_;rintro w' hb2;exact⟨rfl,hb.trans (hb2.mono hb.size)⟩
def OwnB(B:Nat)(w0:World)(own:Nat→Nat)(w:World):Prop:=Base B w0 w∧∀k,own k≠0→B≤k
theorem OwnB.step{B:Nat}{w0 w w':World}{own own':Nat→Nat}(h:OwnB B w0 own w)(hs:Stepped w own w' own'):OwnB B w0 own' w':=by
 refine⟨h.1.mv hs.2 h.2,λk hk=>?_⟩;by_cases hl:k<w.heap.size
 ·exact h.2 k (by rwa [hs.1 k hl] at hk)
 ·have:=h.1.le;omega
theorem OwnB.bel{B:Nat}{w0 w w':World}{own:Nat→Nat}(h:OwnB B w0 own w)(hb:Below w.heap.size w w'):OwnB B w0 own w':=⟨h.1.bel hb,h.2⟩
instance {B:Nat}{w0 w w':World}{own:Nat→Nat}:Bl w w' (OwnB B w0 own w) (OwnB B w0 own w'):=⟨λhb h=>OwnB.bel h hb⟩
def IA(w0:World)(gC n q:Nat)(c:Cm)(B:Nat)(s:Cs)(w:World):Prop:=∃own,Eb w own gC n q c B s∧OwnB w0.heap.size w0 own w
theorem IA.bel{w0 w w':World}{gC n q:Nat}{c:Cm}{B:Nat}{s:Cs}(h:IA w0 gC n q c B s w)(hb:Below w.heap.size w w'):IA w0 gC n q c B s w':=by obtain⟨own,h1,h2⟩:=h;exact⟨own,JU.bel h1 hb,h2.bel hb⟩
instance {w0 w w':World}{gC n q:Nat}{c:Cm}{B:Nat}{s:Cs}:Bl w w' (IA w0 gC n q c B s w) (IA w0 gC n q c B s w'):=⟨λhb h=>IA.bel h hb⟩
theorem SG(w0 w:World)(gC n q:Nat)(c:Cm)(B r:Nat)(s s':Cs)(h:IA w0 gC n q c B s w)(hs:Ko n q s=some s')(hf:Fine r s)(hr:r≤1000)(hB:B≤900000)(hn3:3≤n)(hn:n≤7)(hq:q<n)(hc:CU c)(hk:c.k≠0)(h1:c.c=1)(h2:c.s=1) :Calls prog 16 #[.pointer (some ⟨gC,0,none⟩)] w λe w'=>e=.returned (.tuple #[])∧IA w0 gC n q c (B+7) s' w':=by
 obtain⟨s1,m,s2,e1,e2,e3,e4,e5⟩:=Le hs;have hf1:=JO hf n s1 e1;have hf2:=Ih hf1 m s2 e3;refine(bg gC n m (λi w'=>∃s3,E8 n q i s=some s3∧IA w0 gC n q c (B+i) s3 w') (λi w'=>∃s3,FY n q i s1=some s3∧IA w0 gC n q c (B+7) s3 w')
  (λj w'=>IA w0 gC n q c (B+7) (if j=0 then s2 else s') w') w ?_ ?_ ?_ ?_ ?_ ?_ ?_ (by omega) hn).mono ?_
 ·obtain⟨own,h,hO⟩:=h;refine AY (Oe w own gC n q c B s h) ?_;rintro w' hb;exact⟨rfl,s,rfl,own,JU.bel h hb,hO.bel hb⟩
 ·rintro i hi W ⟨s3,h3,own,hW,hO⟩;obtain⟨s4,h4,h5⟩:=SY e1 hi h3;refine(aN W own gC n q i c (B+i) s3 s4 hW h4 hi (by omega) hn3 hn hq hc h1 h2).mono ?_;rintro e w' ⟨b,rfl,own2,h7,h8⟩;exact⟨b,rfl,s4,h5,own2,h7,hO.step h8⟩
 ·rintro i hi W ⟨s3,h3,own,hW,hO⟩;obtain⟨s4,h4,h5⟩:=TW e3 hi h3;refine AY (Ur W own gC n q c (B+7) s3 s4 hW h4 (Ih hf1 i s3 h3).len hn3 hn hq hc h1 h2) ?_;rintro w' ⟨own2,h7,h8⟩;exact⟨rfl,s4,h5,own2,h7,hO.step h8⟩
 ·rintro W ⟨s3,h3,own,hW,hO⟩;obtain rfl:s2=s3:=by rw[h3] at e3;injection e3 with e3;exact e3.symm
  refine AY (Uw W own gC n q c (B+7) s2 hW e4) ?_;rintro w' hb;exact⟨rfl,s2,h3,own,JU.bel hW hb,hO.bel hb⟩
 ·rintro j hj W ⟨own,hW,hO⟩;by_cases hj0:j=0
  ·subst hj0;rw[if_pos rfl] at hW;refine AY (Xu W own gC n q c (B+7) s2 s' hW e5 hf2.tg (Nat.le_trans hf2.ct hr) hf2.len hn3 hn hq hc hk h1 h2 hf2.hw) ?_;rintro w' ⟨own2,h7,h8⟩;exact⟨rfl,own2,h7,hO.step h8⟩
  ·rw[if_neg hj0] at hW;refine AY (RH W own gC n q j c (B+7) s' hW (λh=>absurd h hj0) hj) ?_;rintro w' hb;rw[if_neg (by omega)];exact⟨rfl,own,JU.bel hW hb,hO.bel hb⟩
 ·rintro W ⟨s3,h3,own,hW,hO⟩;obtain rfl:s1=s3:=by rw[h3] at e1;injection e1 with e1;exact e1.symm
  exact⟨s1,rfl,own,JU.more hW (by omega),hO⟩
 ·rintro W ⟨s3,h3,hW⟩;obtain rfl:s2=s3:=by rw[h3] at e3;injection e3 with e3;exact e3.symm
  rw[if_pos rfl];exact hW
 ·rintro e w' ⟨rfl,h⟩;exact⟨rfl,h⟩
theorem QM:DV Ie.k 1 1 Ie.a Ie.b Ie.o Ie.v=true:=by kernel_rfl
theorem ae(n:Int)(r:Nat)(c:Cm)(hn:-9223372036854775808≤n∧n≤9223372036854775807)(hr:n % 3=(r:Int))(w0 w:World)(hw:Base w0.heap.size w0 w)(hc:CU c)(h1:c.c=1)(h2:c.s=1) :Calls prog 7 #[.int .i64 n] w λe w'=>∃gC,e=.returned (.pointer (some ⟨gC,0,none⟩))∧IA w0 gC (sizeOf3 r) 0 c 0 (DK (sizeOf3 r)) w'∧Below w.heap.size w w':=by
 have hr3:r<3:=by omega
 refine jR n r hn hr w (λgC w'=>IA w0 gC (sizeOf3 r) 0 c 0 (DK (sizeOf3 r)) w'∧Below w.heap.size w w') λW hb=>?_;have hn3:sizeOf3 r=3∨sizeOf3 r=5∨sizeOf3 r=7:=by rcases(show r=0∨r=1∨r=2 by omega) with rfl|rfl|rfl<;>simp[sizeOf3]
 refine(fJ (sizeOf3 r) c W hn3 hc h1 h2).mono ?_;rintro e w' ⟨gC,rfl,own,h3,h4,h5⟩;have hle:=hw.le;exact⟨gC,rfl,⟨own,h3,(hw.bel hb).bel h5,λk hk=>Nat.le_trans hle (Nat.le_trans hb.size (h4 k hk))⟩,hb.trans (h5.mono hb.size)⟩
theorem PY(w0 w:World)(gC n q q0:Nat)(x c0:Cm)(B:Nat)(h:IA w0 gC n q0 c0 B (DK n) w)(hn3:3≤n)(hn:n≤7)(hq:q<n) :Calls prog 11 #[.pointer (some ⟨gC,0,none⟩),.agg (Gp q x).toArray] w λe w'=>∃b,e=.returned (.bool b)∧((b=true∧CU (BI x)∧IA w0 gC n q (BI x) B (G5 n q) w')∨(b=false∧Below w.heap.size w w'∧(DV x.k 1 1 x.a x.b x.o x.v=false∨x.k=0))):=by
 obtain⟨own,h,hO⟩:=h;refine(ZP w own gC n q q0 x c0 B h hn3 hn hq).mono ?_;rintro e w' ⟨b,rfl,⟨rfl,h1,own',h2,h3⟩|⟨rfl,h1,h2⟩⟩
 ·exact⟨true,rfl,.inl ⟨rfl,h1,own',h2,hO.step h3⟩⟩
 ·exact⟨false,rfl,.inr ⟨rfl,h1,h2⟩⟩
theorem VO(w:World):Calls prog 8 #[] w λe w'=>e=.returned (.bool true)∧Below w.heap.size w w':=by
 have hc:CU (BI Ie):=QL (BI Ie) QM (by decide);obtain⟨sE,e1,e2,e3,e4⟩:=VP;have hk:(BI Ie).k≠0:=by decide
 refine bM (λgC w'=>IA w gC 3 0 (BI Ie) 0 (DK 3) w') (λgC w'=>IA w gC 3 0 (BI Ie) 0 (G5 3 0) w') (λgC w'=>IA w gC 3 0 (BI Ie) 7 sE w') (λw'=>Below w.heap.size w w') w ?_ ?_ ?_ ?_ ?_ ?_ ?_
 ·refine(ae 0 0 (BI Ie) (by decide) (by decide) w w (Base.start w) hc rfl rfl).mono ?_;rintro e w' ⟨gC,rfl,h1,_⟩;exact⟨gC,rfl,h1⟩
 ·exact λgC W W' h hb=>h.bel hb
 ·intro gC W h;refine(PY w W gC 3 0 0 Ie _ 0 h (by decide) (by decide) (by decide)).mono ?_;rintro e w' ⟨b,rfl,⟨rfl,_,h2⟩|⟨rfl,_,h3⟩⟩
  ·exact⟨rfl,h2⟩
  ·rcases h3 with h3|h3
   ·rw[QM] at h3;cases h3
   ·exact absurd h3 (by decide)
 ·intro gC W h;exact SG w W gC 3 0 _ 0 0 (G5 3 0) sE h e1 ⟨by decide,by decide,by decide,λ_=>rfl⟩ (by decide) (by decide) (by decide) (by decide) (by decide) hc hk rfl rfl
 ·rintro gC W ⟨own,h,hO⟩;refine(Uy W own gC 3 0 _ 7 sE h e3).mono ?_;rintro e w' ⟨g,c2,rest,rfl,_,_,hb⟩;exact⟨g,c2,rfl,own,JU.bel h hb,hO.bel hb⟩
 ·rintro gC W ⟨own,h,hO⟩;refine(MR W own gC 3 0 2 _ 7 sE h (by decide) (by rw[e4];simp)).mono ?_;rintro e w' ⟨g,gd,rfl,_,hb⟩;exact⟨g,rfl,own,JU.bel h hb,hO.bel hb⟩
 ·rintro gC W ⟨own,h,hO⟩;refine(MR W own gC 3 0 2 _ 7 sE h (by decide) (by rw[e4];simp)).mono ?_;rintro e w' ⟨g,gd,rfl,h1,hb⟩;rw[e4] at h1;have hO:=hO.bel hb;refine⟨g,rfl,(Oc w' _ g gd 3 2 0 _ [] false _ _ h1).mono ?_⟩;rintro e w2 ⟨p,m,ob,rfl,_,hb2⟩;exact⟨p,m,1,_,rfl,(hO.1.bel hb2).below⟩
theorem Qk(P:Value)(sq v:Int)(w:World):(Instr.field 66 (.agg (BH P sq v).toArray) 1).run prog w=.ok (.agg (Dp sq v).toArray) w:=by kernel_rfl
def Ym(sq v:Int):List Value:=(Dp sq v).take 6
theorem UK(sq v:Int)(w:World):(Instr.index 64 (.agg (Dp sq v).toArray) (.int .i64 0)).run prog w=.ok (.agg (Ym sq v).toArray) w:=by kernel_rfl
theorem Qd(sq v:Int)(w:World):(Instr.field 63 (.agg (Ym sq v).toArray) 0).run prog w=.ok (.int .i64 sq) w:=by kernel_rfl
theorem Xi(n tto lets:Int)(x:Cm)(nn me k:Nat)(w:World)(A:Nat→World→Prop)(S2:Nat→Nat→World→Prop)(U2 V:Nat→Nat→World→Prop) (hnn:3≤nn∧nn≤7) (hto:-9223372036854775808≤tto∧tto≤9223372036854775807) (hlo:-9223372036854775808≤lets∧lets≤9223372036854775807) (hme:tto % (nn:Int)=(me:Int)) (hk:lets % 9=(k:Int)) (KO:∀W,Base w.heap.size w W→Calls prog 7 #[.int .i64 n] W λe W'=>∃gC,e=.returned (.pointer (some ⟨gC,0,none⟩))∧A gC W'∧Below W.heap.size W W') (KA:∀W,Calls prog 8 #[] W λe w'=>e=.returned (.bool true)∧Below W.heap.size W w') (hAB:∀gC W,A gC W→Base w.heap.size w W) (hA:∀gC W W',A gC W→Below W.heap.size W W'→A gC W') (KN:∀gC W,A gC W→Calls prog 9 #[.pointer (some ⟨gC,0,none⟩)] W λe W'=>e=.returned (.int .i64 nn)∧Below W.heap.size W W') (KD:∀gC W,A gC W→Calls prog 11 #[.pointer (some ⟨gC,0,none⟩),.agg (Gp me x).toArray] W λe W'=>∃b,e=.returned (.bool b)∧(b=true→S2 gC 0 W')∧(b=false→Base w.heap.size w W')) (KG:∀gC i W,i<k→S2 gC i W→Calls prog 11 #[.pointer (some ⟨gC,0,none⟩),.agg (Dh 2 0).toArray] W λe W'=>∃b,e=.returned (.bool b)∧S2 gC (i+1) W') (KC:∀gC W,S2 gC k W→Calls prog 11 #[.pointer (some ⟨gC,0,none⟩),.agg (Dh 8 me).toArray] W λe W'=>∃b,e=.returned (.bool b)∧U2 gC 0 W') (KR:∀gC r W,r<200→U2 gC r W→Calls prog 16 #[.pointer (some ⟨gC,0,none⟩)] W λe W'=>e=.returned (.tuple #[])∧U2 gC (r+1) W') (hU:∀gC W W',U2 gC 200 W→Below W.heap.size W W'→U2 gC 200 W') (KH:∀gC W,U2 gC 200 W→Calls prog 14 #[.pointer (some ⟨gC,0,none⟩)] W λe W'=>∃g c2,e=.returned (.slice (some ⟨g,0,none⟩) 2 c2)∧Below W.heap.size W W') (KN2:∀gC W,U2 gC 200 W→Calls prog 9 #[.pointer (some ⟨gC,0,none⟩)] W λe W'=>e=.returned (.int .i64 nn)∧Below W.heap.size W W') (KX:∀gC W,U2 gC 200 W→Calls prog 17 #[.pointer (some ⟨gC,0,none⟩),.int .i64 ((me+1) % nn:Nat)] W λe W'=>∃g,e=.returned (.pointer (some ⟨g,0,none⟩))∧V gC g W') (hV:∀gC g W W',V gC g W→Below W.heap.size W W'→V gC g W') (hVB:∀gC g W,V gC g W→Base w.heap.size w W) (KW:∀gC g W,V gC g W→Calls prog 18 #[.pointer (some ⟨gC,0,none⟩)] W λe W'=>e=.returned (.int .i64 0)∧Below W.heap.size W W') (KS:∀gC g W,V gC g W→Calls prog 19 #[.pointer (some ⟨g,0,none⟩)] W λe W'=>∃p mm cap v,e=.returned (.agg (BH (.slice p (mm:Nat) cap) 1 v).toArray)∧(mm=0∨mm=1∧∃b s1 s2 rest,p=some ⟨b,0,none⟩∧Holds W' b 69 (EI s1 s2 1++rest))∧Below W.heap.size W W') :Calls prog 4 #[.int .i64 n,.int .i64 tto,.int .i64 lets,.agg x.cells.toArray] w λe w'=>e=.returned (.bool true)∧Below w.heap.size w w':=by
 have KO:=qh KO;have KA:=qh KA;have KN:=qh KN;have KD:=qh KD;have KG:=qh KG;have KC:=qh KC;have KR:=qh KR;have KH:=qh KH;have KN2:=qh KN2;have KX:=qh KX;have KW:=qh KW;have KS:=qh KS;have hA:=qh hA;have hAB:=qh hAB;have hU:=qh hU;have hV:=qh hV;have hVB:=qh hVB;have HBS:=qh (Base.start w);have KI:=qh (λW=>Kv tto 0 ((nn:Int) - 1) W hto (by omega) (by omega) (by omega));have KJ:=qh (λW=>Kv lets 0 8 W hlo (by omega) (by omega) (by omega));have hme':0+tto % ((nn:Int) - 1-0+1)=(me:Int):=by rw[←hme];congr 1;rw[Int.zero_add];congr 1;omega
 have hk':0+lets % (8-0+1)=(k:Int):=by omega
 have hmn:me<nn:=by have:=Int.emod_lt_of_pos tto (show (0:Int)<nn by omega);omega
 have hk8:k≤8:=by omega
 have hot:((me:Int)+1).tmod (nn:Int)=(((me+1) % nn:Nat):Int):=by rw[show ((me:Int)+1)=((me+1:Nat):Int) by omega,←Int.ofNat_tmod]
 clear hme hk hto hlo;go_in;go_upto_region 1 with(fail);go_name_world W hW;have hW:Ba w [.cells (x.cells:List Value).toArray 23]=W:=hW;have HX:=qh (show Holds W (w.heap.size) 23 (x.cells) from AQ _ hW 0 rfl);have hbW:=Ag _ hW;have hsW:=BD _ hW;simp only[List.length_cons,List.length_nil] at hsW;clear hW;have HBS:=Ci hbW HBS;clear hbW hsW;go_wp2_with fail;refine(KO.o _ HBS.o).mono ?_;rintro e w1 ⟨gC,rfl,h1,hb1⟩;have HAA:=qh h1;have HX:=Ci hb1 HX;clear h1 hb1 KO HBS;obtain⟨x3,x4,x5,x6⟩:=eU HX.o 3 4 5 6;go_wp2_with fail
 ·have HB:=qh (hAB.out _ _ HAA.o);refine AY (KA.o _) ?_;rintro w' hb;have HB:=Ci hb HB;clear hb;go_wp2_with fail;go_ret;exact⟨rfl,HB.below⟩
 ·clear x3 x4 x5 x6;refine AY (KN.o _ _ HAA.o) ?_;rintro w2 hb;have HAA:=qh (hA.out _ _ _ HAA.o hb);have HX:=Ci hb HX;clear hb KN;go_wp2_with fail;refine AY (KI.o _) ?_;rintro w2 rfl;rw[hme'];have HRG:=qh HX.AX;go_wp2_with (first|(refine lM 0 HRG.o ?_));refine AY (aW me x _) ?_;rintro w3 hb;have HAA:=qh (hA.out _ _ _ HAA.o hb);clear hb HX HRG hA KI hme';go_wp2_with fail;refine(KD.o _ _ HAA.o).mono ?_;rintro e w4 ⟨b,rfl,hs,hs2⟩;clear KD HAA hAB;cases b
  ·have HB:=qh (hs2 rfl);clear hs hs2;go_wp2_with fail;refine AY (KA.o _) ?_;rintro w' hb;have HB:=Ci hb HB;clear hb;go_wp2_with fail;go_ret;exact⟨rfl,HB.below⟩
  ·have HS:=qh (hs rfl);clear hs hs2;go_wp2_with fail;refine AY (KJ.o _) ?_;rintro w5 rfl;rw[hk'];go_wp2_with fail;go_loopw [11] (λvi wr=>∃j:Nat,vi=.int .i64 (j:Int)∧j≤k∧S2 gC (k-j) wr) (λvi _=>(intOf vi).toNat);case atStart=>exact⟨k,rfl,Nat.le_refl _,by rw[Nat.sub_self];exact HS.o⟩
   case round=>
    obtain⟨j,rfl,hj,hS⟩:=hrel;clear HS;have HS:=qh hS;clear hS;by_cases hj0:j=0
    ·subst hj0;have HS:=qh (show S2 gC k _ from HS.o);go_wp2_with (first|(with_reducible show wpList _ _ _ (_ :: _) _ _;refine GU (by kernel_rfl) 32 0 1 _ _ rfl (.int .i64 8) (.int .i64 (me:Int)) rfl rfl (.agg (Dh 8 (me:Nat)).toArray) (λw=>by kernel_rfl) ?_));refine(KC.o _ _ HS.o).mono ?_;rintro e w6 ⟨b6,rfl,hu⟩;have HU:=qh hu;clear hu HS KC KG;go_wp2_with fail;go_loopw [12] (λvi wr=>∃r:Nat,vi=.int .i64 (r:Int)∧r≤200∧U2 gC r wr) (λvi _=>200 - (intOf vi).toNat);case atStart=>exact⟨0,rfl,Nat.zero_le _,HU.o⟩
     case round=>
      clear HU;obtain⟨r,rfl,hr,hR⟩:=hrel;have HU:=qh hR;clear hR;by_cases hr2:r=200
      ·subst hr2;have hlt:¬(((200:Nat):Int)<200):=by decide
       go_wp2_with fail;refine(KH.o _ _ HU.o).mono ?_;rintro e w7 ⟨g7,c7,rfl,hb7⟩;have HU:=qh (hU.out _ _ _ HU.o hb7);clear hb7 KH KR;go_wp2_with fail;refine AY (KN2.o _ _ HU.o) ?_;rintro w8 hb8;have HU:=qh (hU.out _ _ _ HU.o hb8);clear hb8 KN2;go_wp2_with fail;refine(KX.o _ _ HU.o).mono ?_;rintro e w9 ⟨g,rfl,hv⟩;have HV:=qh hv;clear hv HU KX hU;go_wp2_with fail;refine AY (KW.o _ _ _ HV.o) ?_;rintro w10 hb10;have HV:=qh (hV.out _ _ _ _ HV.o hb10);clear hb10 KW;go_wp2_with fail;refine(KS.o _ _ _ HV.o).mono ?_;rintro e w11 ⟨p,mm,cap,v,rfl,hpair,hb11⟩;have HV:=qh (hV.out _ _ _ _ HV.o hb11);have HP:=qh hpair;have hmm:mm≤1:=by rcases hpair with h|⟨h,_⟩<;>omega
       clear hb11 hpair;go_wp2_with fail;rw[Lu];go_wp2_with fail;have HB0:=qh (Below.refl w11.heap.size w11);go_loopw [101,15,17] (λvi vs _ wr=>∃i:Nat,vi=.int .i64 (i:Int)∧vs=.int .i64 (i:Int)∧i≤mm∧Below w11.heap.size w11 wr) (λvi _ _ _=>mm - (intOf vi).toNat);case atStart=>exact⟨0,rfl,rfl,Nat.zero_le _,HB0.o⟩
       case round=>
        clear HB0;obtain⟨i,rfl,rfl,hi,hbi⟩:=hrel;by_cases him:i=mm
        ·subst him;have HV:=qh (hV.out _ _ _ _ HV.o hbi);clear hbi HP;have hi1:(i:Int)≤1:=by omega
         go_wp2_with fail;refine(KS.o _ _ _ HV.o).mono ?_;rintro e w12 ⟨p2,mm2,cap2,v2,rfl,_,hb12⟩;have HV:=qh (hV.out _ _ _ _ HV.o hb12);clear hb12 KS;go_wp2_with fail;rw[Qk];go_wp2_with fail;rw[UK];go_wp2_with fail;rw[Qd];go_wp2_with fail;have HB:=qh (hVB.out _ _ _ HV.o);refine AY (KA.o _) ?_;rintro w' hb;have HB:=Ci hb HB;clear hb;go_wp2_with fail;go_ret;exact⟨rfl,HB.below⟩
        ·obtain rfl:i=0:=by omega
         obtain rfl:mm=1:=by omega
         rcases HP.o with h|⟨_,pb,s1,s2,rest,rfl,hpp⟩
         ·cases h
         have HPP:=qh (hpp.bel hbi);have HBI:=qh hbi;clear hpp hbi;have HRP:=qh (HPP.D9 0 (cs:=EI s1 s2 1) (λj v hv=>by rw[Nat.zero_add,List.getElem?_append_left (List.getElem?_eq_some_iff.1 hv).1];exact hv));go_wp2_with (first|(refine lM 0 HRP.o ?_)|(refine sW (EI s1 s2 1) (AA wr _ (EI ⟨#[]⟩ ⟨#[]⟩ 0)) ?_ (Hm _ _ _);intro w12 hh12 ht12;have q2:=hh12.cell 2;rw[show (EI s1 s2 1)[2]?=some (.int .i64 1) from rfl] at q2;have hb12:Below wr.heap.size wr w12:=Below.trans ((Below.refl _ _).alloc (Nat.le_refl _) _) (ht12.below (Nat.le_refl _) (by simp));have HBI:=qh (HBI.trans (hb12.mono HBI.size));clear hh12 ht12 hb12));go_roundw;case rel=>exact⟨_,_,_,⟨1,rfl,rfl,Nat.le_refl _,HBI.o⟩,rfl,rfl,rfl⟩
         case measure=>simp[intOf]
      ·have hlt:(r:Int)<200:=by omega
       have hr3:r<200:=by omega
       go_wp2_with fail;refine AY (KR.o _ _ _ hr3 HU.o) ?_;rintro w7 h7;have HU:=qh h7;clear h7;go_wp2_with fail;go_roundw;case rel=>exact⟨r+1,by simp,by omega,HU.o⟩
       case measure=>simp[intOf];omega
    ·have hjp:(0:Int)<(j:Int):=by omega
     go_wp2_with fail;refine(KG.o _ (k-j) _ (by omega) HS.o).mono ?_;rintro e w6 ⟨b6,rfl,h6⟩;have HS:=qh h6;clear h6;go_wp2_with fail;go_roundw;case rel=>exact⟨j-1,by simp;omega,by omega,by rw[show k - (j-1)=k-j+1 by omega];exact HS.o⟩
     case measure=>simp[intOf];omega
theorem ZC{n:Int}(h:(Lit.int .i64 n).wf=true):-9223372036854775808≤n∧n≤9223372036854775807:=by simp[Lit.wf,IntKind.min,IntKind.max,IntKind.signed,IntKind.bits] at h;omega
theorem Lj{n q:Nat}{s:Cs}(hn:1≤n)(hn7:n≤7)(hf:Fine 0 s):∀r s',Cf n q r s=some s'→Fine r s'
 | 0,s',h=>by cases h;exact hf
 | r+1,s',h=>by
  rw[Cf] at h;cases h1:Cf n q r s with
  | none=>rw[h1] at h;cases h
  | some s1=>
   rw[h1] at h;obtain⟨s2,m,s3,e1,_,e2,_,e3⟩:=Le h;exact UX e3 hn hn7 (Ih (JO (Lj hn hn7 hf r s1 h1) n s2 e1) m s3 e2)
theorem Si(n tto lets k c s:Int)(a b o v:ByteArray)(w:World)(hn:(Lit.int .i64 n).wf=true)(hto:(Lit.int .i64 tto).wf=true)(hlo:(Lit.int .i64 lets).wf=true)(_:(Lit.int .i64 k).wf=true)(_:(Lit.int .i64 c).wf=true)(_:(Lit.int .i64 s).wf=true)(_:a.size≤maxLen)(_:b.size≤maxLen)(_:o.size≤maxLen)(_:v.size≤maxLen) :Calls prog 4 #[.int .i64 n,.int .i64 tto,.int .i64 lets,.agg #[.int .i64 k,.int .i64 c,.int .i64 s,.string a,.string b,.string o,.string v]] w λe w'=>e=.returned (.bool true)∧Below w.heap.size w w':=by
 have hn:=ZC hn;have hto:=ZC hto;have hlo:=ZC hlo;obtain⟨r,hr⟩:∃r:Nat,n % 3=(r:Int):=⟨(n % 3).toNat,by omega⟩;have hr3:r<3:=by omega
 obtain⟨nn,hnn⟩:∃nn,nn=sizeOf3 r:=⟨_,rfl⟩;have h357:nn=3∨nn=5∨nn=7:=by rcases(show r=0∨r=1∨r=2 by omega) with rfl|rfl|rfl<;>simp[hnn,sizeOf3]
 have hm1:=Int.emod_nonneg tto (show (nn:Int)≠0 by omega);have hm2:=Int.emod_lt_of_pos tto (show (0:Int)<nn by omega);obtain⟨me,hme⟩:∃me:Nat,tto % (nn:Int)=(me:Int):=⟨(tto % (nn:Int)).toNat,by omega⟩;obtain⟨kk,hkk⟩:∃kk:Nat,lets % 9=(kk:Int):=⟨(lets % 9).toNat,by omega⟩;have hmen:me<nn:=by omega
 have hk8:kk≤8:=by omega
 obtain⟨s0,sE,g1,g2,g3,g4,g5,g6⟩:=YM h357 hmen hk8;obtain⟨x,hx⟩:∃x:Cm,x=⟨k,c,s,a,b,o,v⟩:=⟨_,rfl⟩;have hxc:(.agg #[.int .i64 k,.int .i64 c,.int .i64 s,.string a,.string b,.string o,.string v]:Value)=.agg x.cells.toArray:=by rw[hx];rfl
 rw[hxc];have hn3:3≤nn:=by omega
 have hn7:nn≤7:=by omega
 have hj:(me+1) % nn<nn:=Nat.mod_lt _ (by omega);have hcA:CU (BI Ie):=QL (BI Ie) QM (by decide);have hF0:Fine 0 (G5 nn me):=⟨by simp[G5,Bq,Dv];omega,by show me<7;omega,Nat.le_refl _,λ_=>rfl⟩;have hFk:∀i s1,giveUp nn me i (G5 nn me)=some s1→Fine 0 s1:=NI hF0;have hFc:Fine 0 (J3 me s0):=⟨(hFk kk s0 g1).len,(hFk kk s0 g1).tg,(hFk kk s0 g1).ct,(hFk kk s0 g1).hw⟩;have hFr:=Lj (q:=me) (by omega) hn7 hFc;obtain⟨A,hA⟩:∃A:Nat→World→Prop,A=λgC W=>IA w gC nn 0 (BI Ie) 0 (DK nn) W:=⟨_,rfl⟩;obtain⟨S,hS⟩:∃S:Nat→Nat→World→Prop,S=λgC i W=>CU (BI x)∧∃s1,giveUp nn me i (G5 nn me)=some s1∧IA w gC nn me (BI x) 0 s1 W:=⟨_,rfl⟩;obtain⟨U,hU⟩:∃U:Nat→Nat→World→Prop,U=λgC r W=>CU (BI x)∧∃s1,Cf nn me r (J3 me s0)=some s1∧IA w gC nn me (BI x) (7*r) s1 W:=⟨_,rfl⟩;obtain⟨V,hV⟩:∃V:Nat→Nat→World→Prop,V=λgC g W=>∃own gd,Eb W own gC nn me (BI x) (7*200) sE∧OwnB w.heap.size w own W∧Bg W (λk=>own k=2+(me+1) % nn) g gd nn ((me+1) % nn) me (BI x) .com [] false (sE.tks.getD ((me+1) % nn) 0) (7*200):=⟨_,rfl⟩;have hkne:CU (BI x)→(BI x).k≠0:=λh=>by have:=h.kk;omega
 refine Xi n tto lets x nn me kk w A S U V ⟨hn3,hn7⟩ hto hlo hme hkk ?_ VO ?_ ?_ ?_ ?_ ?_ ?_ ?_ ?_ ?_ ?_ ?_ ?_ ?_ ?_ ?_
 ·intro W hBW;subst hA;rw[hnn];exact ae n r (BI Ie) hn hr w W hBW hcA rfl rfl
 ·subst hA;rintro gC W ⟨own,h,hO⟩;exact hO.1
 ·subst hA;rintro gC W W' h hb;exact h.bel hb
 ·subst hA;rintro gC W ⟨own,h,hO⟩;exact Oe W own gC nn 0 _ _ _ h
 ·subst hA hS;rintro gC W h;refine(PY w W gC nn me 0 x _ 0 h hn3 hn7 hmen).mono ?_;rintro e w' ⟨b,rfl,⟨rfl,hc,h2⟩|⟨rfl,hb,_⟩⟩
  ·exact⟨true,rfl,λ_=>⟨hc,_,rfl,h2⟩,λh=>by cases h⟩
  ·obtain⟨own,h,hO⟩:=h;exact⟨false,rfl,λh=>(by cases h),λ_=>(hO.bel hb).1⟩
 ·subst hS;rintro gC i W hi ⟨hc,s1,e1,own,h,hO⟩;obtain⟨d,hd⟩:∃d,kk=(i+1)+d:=⟨kk - (i+1),by omega⟩;obtain⟨s2,e2⟩:=NJ d s0 (hd▸g1);have e3:=e2;rw[giveUp,e1] at e3;simp only[Option.bind_some] at e3;split at e3
  ·rename_i hl;simp only[Option.some.injEq] at e3;subst e3;refine AY (Uw W own gC nn me _ 0 s1 h hl) ?_;rintro w' hb;exact⟨false,rfl,hc,s1,e2,own,JU.bel h hb,hO.bel hb⟩
  ·refine AY (Ur W own gC nn me _ 0 s1 s2 h e3 (hFk i s1 e1).len hn3 hn7 hmen hc rfl rfl) ?_;rintro w' ⟨own',h2,h3⟩;exact⟨true,rfl,hc,s2,e2,own',h2,hO.step h3⟩
 ·subst hS hU;rintro gC W ⟨hc,s1,e1,own,h,hO⟩;obtain rfl:s0=s1:=Option.some.inj (g1.symm.trans e1);refine AY (Xf W own gC nn me _ 0 s0 h g2 hmen) ?_;rintro w' ⟨own',h2,h3⟩;exact⟨true,rfl,hc,_,rfl,own',h2,hO.step h3⟩
 ·subst hU;rintro gC r W hr ⟨hc,s1,e1,h⟩;obtain⟨s2,e2,e3⟩:=Qj g3 hr e1;refine AY (SG w W gC nn me _ (7*r) r s1 s2 h e2 (hFr r s1 e1) (by omega) (by omega) hn3 hn7 hmen hc (hkne hc) rfl rfl) ?_;rintro w' h2;exact⟨rfl,hc,s2,e3,h2⟩
 ·subst hU;rintro gC W W' ⟨hc,s1,e1,h⟩ hb;exact⟨hc,s1,e1,h.bel hb⟩
 ·subst hU;rintro gC W ⟨hc,s1,e1,own,h,hO⟩;obtain rfl:sE=s1:=Option.some.inj (g3.symm.trans e1);refine(Uy W own gC nn me _ _ sE h g5).mono ?_;rintro e w' ⟨g,c2,rest,rfl,_,hh,hb⟩;exact⟨g,c2,rfl,hb⟩
 ·subst hU;rintro gC W ⟨hc,s1,e1,own,h,hO⟩;exact Oe W own gC nn me _ _ _ h
 ·subst hU hV;rintro gC W ⟨hc,s1,e1,own,h,hO⟩;obtain rfl:sE=s1:=Option.some.inj (g3.symm.trans e1);refine(MR W own gC nn me _ _ _ sE h hj (by rw[g6];simp)).mono ?_;rintro e w' ⟨g,gd,rfl,h1,hb⟩;rw[g6] at h1;exact⟨g,rfl,own,gd,JU.bel h hb,hO.bel hb,h1⟩
 ·subst hV;rintro gC g W W' ⟨own,gd,h,hO,h1⟩ hb;exact⟨own,gd,JU.bel h hb,hO.bel hb,h1.mv (G:=λ_=>False) (.of_below hb) λ_ h=>h.elim⟩
 ·subst hV;rintro gC g W ⟨own,gd,h,hO,h1⟩;exact hO.1
 ·subst hV;rintro gC g W ⟨own,gd,h,hO,h1⟩;exact UY W own gC nn me _ _ sE h g4
 ·subst hV;rintro gC g W ⟨own,gd,h,hO,h1⟩;refine(Oc W _ g gd nn _ me _ [] false _ _ h1).mono ?_;rintro e w' ⟨p,m,ob,rfl,hp,hb⟩;refine⟨p,_,m,_,rfl,?_,hb⟩;unfold Pairs Hg GM at hp;unfold Hg;split at hp
  ·rename_i h2;rw[if_pos h2];refine .inr ⟨rfl,?_⟩;obtain⟨b2,_,rest,hs,_,_,_,hh,_⟩:=AU.blk hp (by decide);cases hs;exact⟨b2,_,_,rest,rfl,hh⟩
  ·rename_i h2;rw[if_neg h2];exact .inl rfl
end Go.Proofs.YtimdpiifpibgfaaGreatDoor
