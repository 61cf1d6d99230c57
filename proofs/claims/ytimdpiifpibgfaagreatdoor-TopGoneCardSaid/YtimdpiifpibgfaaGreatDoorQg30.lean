/- A part of the proof that the law TopGone returns true for every input. -/
import Derived.Test.YtimdpiifpibgfaaGreatDoorQg29
set_option linter.all false
set_option maxRecDepth 20000
set_option maxHeartbeats 16000000
open Go.RowKit Go.Maps
namespace Go.Proofs.YtimdpiifpibgfaaGreatDoor
open Tryz
theorem Zr(w:World):Calls prog 131 #[.int .i64 7] w λe w'=>e=.returned (.tuple #[.agg ([.bool true,.bool true,.bool false,.bool false,.bool true,.bool false,.bool false]:List Value).toArray,.bool true])∧Below w.heap.size w w':=by go_in;go_upto_region 1 with(fail);go_name_world W hW;obtain⟨HZ,hbW,hsW⟩:=Ef 233 ([.bool false,.bool false,.bool false,.bool false,.bool false,.bool false,.bool false]) hW;clear hW;have HB:=qh (Base.start w);have HB:=Ci hbW HB;clear hbW hsW;generalize hB0:w.heap.size=B at HZ HB ⊢;go_wp2_with (first|(refine sW [.bool true,.bool true,.bool false,.bool false,.bool true,.bool false,.bool false] HZ.o ?_;intro w5 hh5 ht5));have HB:=qh (HB.touch ht5 (Nat.le_refl _));have HR:=qh hh5.AX;clear hh5 ht5;refine bT HR.o ?_;exact⟨rfl,hB0▸HB.below⟩
theorem bI(f t q:Int)(be br:Int)(b:Bal)(st:Int)(y:Cm)(sm:Bool)(w:World):Calls prog 133 #[.agg (Aj 7 f t q 1 be br Cm.zero b st y sm dz).toArray,.agg ([.bool true,.bool true,.bool false,.bool false,.bool true,.bool false,.bool false]:List Value).toArray] w λe w'=>e=.returned (.agg (Aj 7 f t q 1 be br Cm.zero b st y sm dz).toArray)∧Below w.heap.size w w':=by
 go_in;go_upto_region 1 with(fail);go_name_world W hW;have hW:Ba w [.cells (Aj 7 f t q 1 be br Cm.zero b st y sm dz:List Value).toArray 47,.cells ([.bool true,.bool true,.bool false,.bool false,.bool true,.bool false,.bool false]:List Value).toArray 233,.cells (CJ:List Value).toArray 47]=W:=hW;have HX:=qh (show Holds W (w.heap.size) 47 (Aj 7 f t q 1 be br Cm.zero b st y sm dz) from AQ _ hW 0 rfl);have HP:=qh (show Holds W (w.heap.size+1) 233 ([.bool true,.bool true,.bool false,.bool false,.bool true,.bool false,.bool false]) from AQ _ hW 1 rfl);have HZ:=qh (show Holds W (w.heap.size+1+1) 47 (CJ) from AQ _ hW 2 rfl);have hbW:=Ag _ hW;have hsW:=BD _ hW;simp only[List.length_cons,List.length_nil] at hsW;clear hW;have HB:=qh (Base.start w);have HB:=Ci hbW HB;clear hbW hsW;generalize hz0:w.heap.size+1+1=gz at HZ ⊢;generalize hp0:w.heap.size+1=gp at HP ⊢;have hord:w.heap.size<gp∧gp<gz:=by omega
 generalize hB0:w.heap.size=B at HX HB hord ⊢;obtain⟨x0,x1,x2⟩:=Md HX.o 0 1 2;go_upto_region 2 with(first|(refine sW (Aj 7 f t 0 0 0 0 Cm.zero Ad 0 Cm.zero false dz) (AA W _ CJ) ?_ (EG _ _ _ _ _ _ _ _ _ _ _ _ _);intro w1 hh1 ht1));have hal1:Below W.heap.size W w1:=Below.trans ((Below.refl _ _).alloc (Nat.le_refl _) _) (ht1.below (Nat.le_refl _) (by simp));have hgz:gz<W.heap.size:=HZ.lt;have HG:=qh hh1;obtain⟨HX,HP,HZ,HB⟩:=D8 hal1 HX HP HZ HB;clear hal1 hh1 ht1 x0 x1 x2;generalize W.heap.size=gg at HG hgz ⊢;have p0:=AZ HP.o 0;obtain⟨x3,x4⟩:=BQ HX.o 3 4;go_upto_region 4 with(first|(refine sS 3 HG.o [.int .i64 q,.int .i64 1] ?_;intro v0 hh ht));have HG:=qh (show Holds v0 gg 47 (Aj 7 f t q 1 0 0 Cm.zero Ad 0 Cm.zero false dz) from hh);have HX:=qh (HX.touch ht (by omega));have HP:=qh (HP.touch ht (by omega));have HZ:=qh (HZ.touch ht (by omega));have HB:=qh (HB.touch ht (by omega));clear hh ht p0 x3 x4;have p1:=AZ HP.o 1;obtain⟨x5,x6⟩:=BQ HX.o 5 6;go_upto_region 6 with(first|(refine sS 5 HG.o [.int .i64 be,.int .i64 br] ?_;intro v1 hh ht));have HG:=qh (show Holds v1 gg 47 (Aj 7 f t q 1 be br Cm.zero Ad 0 Cm.zero false dz) from hh);have HX:=qh (HX.touch ht (by omega));have HP:=qh (HP.touch ht (by omega));have HZ:=qh (HZ.touch ht (by omega));have HB:=qh (HB.touch ht (by omega));clear hh ht p1 x5 x6;have p2:=AZ HP.o 2;go_upto_region 8 with(fail);clear p2;have p3:=AZ HP.o 3;go_upto_region 10 with(fail);clear p3;have p4:=AZ HP.o 4;have HRC:=qh (DC HX.o 22 (cs:=AO b st y sm) rfl);go_upto_region 12 with(first|(refine lM 22 HRC.o ?_)|(refine sS 22 HG.o (AO b st y sm) ?_ (by simp[Value.oneCell',AO]);intro v4 hh ht));have HG:=qh (show Holds v4 gg 47 (Aj 7 f t q 1 be br Cm.zero b st y sm dz) from hh);have HX:=qh (HX.touch ht (by omega));have HP:=qh (HP.touch ht (by omega));have HZ:=qh (HZ.touch ht (by omega));have HB:=qh (HB.touch ht (by omega));clear hh ht p4 HRC;have p5:=AZ HP.o 5;go_upto_region 14 with(fail);clear p5;have p6:=AZ HP.o 6;go_upto_region 16 with(fail);clear p6;have HRG:=qh HG.AX;go_wp2_with (first|(refine lM 0 HRG.o ?_)|(refine sW (Aj 7 f t q 1 be br Cm.zero b st y sm dz) HZ.o ?_ (EG _ _ _ _ _ _ _ _ _ _ _ _ _);intro w5 hh5 ht5));have HB:=qh (HB.touch ht5 (by omega));have HR:=qh hh5.AX;clear hh5 ht5 HRG;refine bC HR.o ?_;exact⟨rfl,hB0▸HB.below⟩
theorem Jg(f t q:Nat)(be br:Int)(b:Bal)(st:Int)(y:Cm)(sm:Bool)(hf:f<7)(ht:t<7)(hq:q<7)(hne:f≠t)(hbe:0≤be∧be≤1073741824)(hbr:0≤br∧br<7)(hbl:GV b)(hst:I7 b st sm)(hy:DV y.k y.c y.s y.a y.b y.o y.v=true)(w:World):Calls prog 72 #[.agg (Aj 7 f t q 1 be br Cm.zero b st y sm dz).toArray] w λe w'=>e=.returned (.bool true)∧Below w.heap.size w w':=by
 have KN:=qh Zr;have KPf:=qh (λw=>DT f w hf);have KPt:=qh (λw=>DT t w ht);have KBa:=qh (bI (f:Int) t q be br b st y sm);have KI:=qh (LQ q hq);have KBl:=qh (λw=>Dt be br w hbe hbr);have KC:=qh EM;have KD:=qh BN;have KR:=qh (λw=>JK b st y sm w hbl hst hy);have hnq:=Jb 7 f t q 1 be br Cm.zero b st y sm dz;have hi:((f:Int)==(t:Int))=false:=by simp;omega
 go_in;go_upto_region 1 with(fail);go_name_world W hW;obtain⟨HX,hbW,hsW⟩:=Ef 47 (Aj 7 f t q 1 be br Cm.zero b st y sm dz) hW;clear hW;have HB:=qh (Base.start w);have HB:=Ci hbW HB;clear hbW hsW;generalize hB0:w.heap.size=B at HX HB ⊢;have x0:=AZ HX.o 0;go_wp2_with fail;refine AY (KN.o _) ?_;rintro w1 hb;obtain⟨HX,HB⟩:=Bf hb HX HB;clear hb x0;go_upto_region 2 with(first|(with_reducible refine sR [.bool true,.bool true,.bool false,.bool false,.bool true,.bool false,.bool false] (AA w1 _ _) ?_;intro w2 hh2 ht2));have hal:Below w1.heap.size w1 w2:=Below.trans ((Below.refl _ _).alloc (Nat.le_refl _) _) (ht2.below (Nat.le_refl _) (by simp));have HP:=qh hh2;obtain⟨HX,HB⟩:=Bf hal HX HB;clear hal hh2 ht2;generalize w1.heap.size=gp at HP ⊢;obtain⟨x0,x1,x2⟩:=VG HX.o 0 1 2;have HR1:=qh (Ar (cs:=Aj 7 f t q 1 be br Cm.zero b st y sm dz) HX.o 0 (by intro j v hv;rw[Nat.zero_add];exact hv));have HR2:=qh (Ar (cs:=[.bool true,.bool true,.bool false,.bool false,.bool true,.bool false,.bool false]) HP.o 0 (by intro j v hv;rw[Nat.zero_add];exact hv));refine wp_region_quiet_below (by kernel_rfl) (by kernel_rfl) ?_;repeat(first
  | (with_reducible refine qR 0 HR1.o ?_;simp only[Act.put,List.setIfInBounds_toArray,List.set_cons_succ,List.set_cons_zero])
  | (with_reducible refine qR 0 HR2.o ?_;simp only[Act.put,List.setIfInBounds_toArray,List.set_cons_succ,List.set_cons_zero])
  | go_big_quiet_step (first
   | (go_at_call 132;first|(with_reducible exact AL λW _=>KPf.o W)|(with_reducible exact AL λW _=>KPt.o W))
   | (go_at_call 133;with_reducible exact AL λW _=>KBa.o W)))
 refine wpQuiet_nil ?_;intro w3 hw';have hb3:=AV hw';obtain⟨HX,HP,HB⟩:=Ce hb3 HX HP HB;clear hw' hb3 x0 x1 x2 HR1 HR2 hnq;have p0:=AZ HP.o 0;obtain⟨x3,x4⟩:=BQ HX.o 3 4;go_wp2_with fail;refine AY (KI.o _) ?_;rintro w4 hb;obtain⟨HX,HB⟩:=Bf hb HX HB;clear hb x3 x4 p0 HP;obtain⟨x5,x6⟩:=BQ HX.o 5 6;go_wp2_with fail;refine AY (KBl.o _) ?_;rintro w5 hb;obtain⟨HX,HB⟩:=Bf hb HX HB;clear hb x5 x6;obtain⟨x7,x8,x9,x10,x11,x12,x13⟩:=ED HX.o 7 8 9 10 11 12 13;go_wp2_with fail;refine AY (KC.o _) ?_;rintro w6 hb;obtain⟨HX,HB⟩:=Bf hb HX HB;clear hb x7 x8 x9 x10 x11 x12 x13;obtain⟨x14,x15,x16,x17,x18,x19,x20,x21⟩:=Cj HX.o 14 15 16 17 18 19 20 21;go_wp2_with fail;refine AY (KD.o _) ?_;rintro w7 hb;obtain⟨HX,HB⟩:=Bf hb HX HB;clear hb x14 x15 x16 x17 x18 x19 x20 x21;have HRC:=qh (DC HX.o 22 (cs:=AO b st y sm) rfl);go_wp2_with (first|(with_reducible refine lR 22 HRC.o ?_));refine AY (KR.o _) ?_;rintro w8 hb;obtain⟨HX,HB⟩:=Bf hb HX HB;clear hb HRC;obtain⟨x43,x44,x45,x46,x47,x48,x49⟩:=ED HX.o 43 44 45 46 47 48 49;go_wp2_with fail;refine AY (KD.o _) ?_;rintro w9 hb;obtain⟨HX,HB⟩:=Bf hb HX HB;clear hb x43 x44 x45 x46 x47 x48 x49;have x50:=AZ HX.o 50;go_wp2_with fail;go_ret;exact⟨rfl,hB0▸HB.below⟩
section
def Cc(w:World)(F:Ap):Ap:=λk=>F k∧((∃t L,Holds w k t L∧t∈G9)∨Fq w k)
theorem Cc.f{w:World}{F:Ap}{k:Nat}(h:Cc w F k):F k:=h.1
theorem Cc.of{w:World}{F:Ap}{k:Nat}{t:TypeId}{L:List Value}(hf:F k)(h:Holds w k t L)(ht:t∈G9):Cc w F k:=⟨hf,.inl ⟨t,L,h,ht⟩⟩
theorem Cc.map{w:World}{F:Ap}{k:Nat}(hf:F k)(h:Fq w k):Cc w F k:=⟨hf,.inr h⟩
theorem Fb(q:Nat)(hq:q<7):Bi q 1=true:=by simp[Bi];omega
theorem MQ(q s:Int)(A B:List Value):Ez [⟨q,s,A⟩] ⟨q,s,B⟩=[⟨q,s,B⟩]:=by simp[Ez]
theorem Qn(A:List Nat)(f:Nat):E9 (Du A) f=Du (f :: A):=by
 funext r
 unfold E9 Du;by_cases h:r=f<;>simp[h]
theorem MK{V:Nat→List Value}(h:(V 0).length=51):flat 51 1 V=V 0:=En (s:=51) (V:=V) h
theorem Em.go{w w':World}{F G:Ap}{q:Nat}{wi:Af}{ph:Ph}(h:Em w F q wi ph)(hm:Mv G w w')(hG:∀k,G k→k<w.heap.size→EN w F Ku k):Em w' (grow F w w') q wi ph:=
 (h.mv (T:=Ku) hm hG (λ_ h=>h)).foot λ_ hk _=>.inl hk
theorem Em.com{w:World}{F:Ap}{q:Nat}{wi:Af}{ph:Ph}(h:Em w F q wi ph):Em w F q wi .com:=by
 cases ph with
 | fresh=>exact .inl (.inl h)
 | lead A tk=>exact .inl (.inl h)
 | pre k=>
  cases k with
  | zero=>exact .inl (.inl h)
  | succ k=>exact .inr ⟨_,h⟩
 | com=>exact h
 | _=>exact .inr h
section
variable {w:World} {F:Ap} {gc n me q f:Nat} {c:Cm}
theorem XK{w:World}{F:Ap}{gc gm gx:Nat}{V:List Value}{T:List TypeId}(h1:Holds w gc 163 V)(h2:Fq w gm)(h3:Fq w gx)(ht:163∉T):∀k,(k=gc∨k=gm∨k=gx)→k<w.heap.size→EN w F T k:=by
 rintro k (rfl|rfl|rfl) _
 ·exact DR h1 ht
 ·exact .inr h2
 ·exact .inr h3
theorem XL{w:World}{F:Ap}{gc gm gx gb:Nat}{V U:List Value}{T:List TypeId}(h1:Holds w gc 163 V)(h2:Fq w gm)(h3:Fq w gx)(h4:Holds w gb 158 U)(ht:163∉T)(ht2:158∉T):∀k,(k=gc∨k=gm∨k=gx∨k=gb)→k<w.heap.size→EN w F T k:=by
 rintro k (rfl|rfl|rfl|rfl) _
 ·exact DR h1 ht
 ·exact .inr h2
 ·exact .inr h3
 ·exact DR h4 ht2
theorem JB[Af]{gl gm nl gi gx ni:Nat}{L:List BR}{E:List Bh}{leads recs out:Value}(a1:Ac w gc n me gl gm nl gi gx ni L E leads recs out)(hfc:F gc)(b:F gl∧F gm∧F gi∧F gx):∀k,(k=gc∨k=gm∨k=gx)→Cc w F k:=by
 rintro k (rfl|rfl|rfl)
 ·exact .of hfc a1.hc (by decide)
 ·exact .map b.2.1 a1.lg.isMap
 ·exact .map b.2.2.2 a1.ix.isMap
theorem Xe(h:BM w F gc n me q c .fresh (.slice none 0 0) (.slice none 0 0))(hf:f<n)(hme:me<n)(hne:f≠me)(hn:n≤7)(hq:q<n)(hc:CU c) :Calls prog 75 #[.pointer (some ⟨gc,0,none⟩),.agg (Bc 1 f me q c).toArray] w λe w'=>e=.returned (.bool false) ∧∃recs cout,BM w' (grow F w w') gc n me q c (.pre 0) recs cout∧F5 w' w.heap.size 1 recs∧DN w' (grow F w w') cout 1 (λ_=>Bc 2 me f q Cm.zero)∧Mv (Cc w F) w w':=by obtain⟨⟨wi,gl,gm,nl,gi,gx,ni,L,E,leads,a1,a2,a3,b,⟨rfl,rfl,rfl⟩,hw⟩,hfc⟩:=h;have hw':wi=⟨none,0,0⟩:=hw;subst hw';have n0:nl=0:=Nat.le_zero.1 a2;have n1:ni=0:=Nat.le_zero.1 a3;subst n0 n1;refine AY (LJ 1 _ (.inl ⟨by decide,rfl⟩) gc n me gl gi f q 0 0 c Ad 0 Cm.zero false dz _ _ _ (λW w'=>LC gc n me gl gm 0 gi gx 0 f q c W w') w a1.hc hf hq (Yw f me q c hc.right (by omega) (by omega) (by omega) hne) (λW hb=>Ep gl gm 0 [] q 1 W (a1.lg.bel hb) (Fb q (by omega))) (λW hb=>VM gc n me gl gm 0 gi gx 0 f me q c W (a1.bel hb) (by omega) (by omega) (by omega) hc)) ?_;rintro w' ⟨w1,hb,gr,cr,m,rv,out,rest,ob,c1,c2,c3,c4,c5,c6,c7,c8⟩;have hs:=hb.size;have hs2:=c8.size;refine⟨rfl,_,out,⟨⟨⟨none,0,0⟩,gl,gm,1,gi,gx,1,_,_,_,c1,by simp[bnd],by simp[bnd],⟨.inl b.1,.inl b.2.1,.inl b.2.2.1,.inl b.2.2.2⟩,⟨rfl,rfl⟩,rfl⟩,.inl hfc⟩,.inr ⟨rfl,gr,cr,m,rv,rest,rfl,c2,Aw.mono c3 hs,c4,by omega⟩,⟨λh=>(by cases h),ob,by rw[MK (V:=λ_=>Bc 2 me f q Cm.zero) rfl];exact c6,λg hg=>.inr ⟨by have:=c7 g hg;omega,c6.lt g hg⟩⟩,(Mv.of_below hb).mv c8 λk hk=>.inl (JB a1 hfc b k hk)⟩
theorem Pg{ph:Ph}(hph:(∃k,ph=.pre k)∨ph=.acc)(h:BM w F gc n me q c ph (.slice none 0 0) (.slice none 0 0))(hf:f<n)(hme:me<n)(hne:f≠me)(hn:n≤7)(hq:q<n)(hc:CU c) :Calls prog 75 #[.pointer (some ⟨gc,0,none⟩),.agg (Bc 5 f me q c).toArray] w λe w'=>e=.returned (.bool false) ∧∃recs cout,BM w' (grow F w w') gc n me q c .com recs cout∧F5 w' w.heap.size 1 recs∧DN w' (grow F w w') cout 0 (λ_=>[])∧Mv (Cc w F) w w':=by
 obtain⟨⟨wi,gl,gm,nl,gi,gx,ni,L,E,leads,a1,a2,a3,b,hla,hw⟩,hfc⟩:=h;have n0:nl≤3:=by rcases hph with⟨k,rfl⟩|rfl<;>simp only[bnd] at a2<;>omega
 have n1:ni≤3:=by rcases hph with⟨k,rfl⟩|rfl<;>simp only[bnd] at a3<;>omega
 obtain⟨bl,st0,sm0,hbl,h30,h3l,rfl,rfl⟩:∃(bl:Bal) (st0:Int) (sm0:Bool),GV bl∧st0≠3∧st0≤3∧L=[⟨q,1,AO bl st0 c sm0⟩]∧leads=.slice none 0 0:=by
  rcases hph with⟨k,rfl⟩|rfl
  ·exact⟨Ad,1,true,Na,by decide,by decide,hla.1,hla.2⟩
  ·obtain⟨⟨bl,h1,h2⟩,h3⟩:=hla;exact⟨bl,2,false,h1,by decide,by decide,h2,h3⟩
 refine AY (LJ 5 _ (.inr (.inr ⟨rfl,rfl⟩)) gc n me gl gi f q 0 0 c Ad 0 Cm.zero false dz _ _ _ (λW w'=>LD bl gc n me gl gm nl gi gx ni [⟨q,1,AO bl st0 c sm0⟩] E (.slice none 0 0) (.slice none 0 0) q 3 c false W w') w a1.hc hf hq (UN f me q c hc.right (by omega) (by omega) (by omega) hne) (λW hb=>Ep gl gm nl _ q 1 W (a1.lg.bel hb) (Fb q (by omega))) (λW hb=>dw bl hbl st0 sm0 h30 h3l gc n me gl gm nl gi gx ni f me q c E W (a1.bel hb) (by omega) (by omega) (by omega) hc)) ?_;rintro w' ⟨w1,hb,gr,cr,m,rv,rest,c1,c2,c3,c4,c5,c8⟩;have hs:=hb.size;have hs2:=c8.size;rw[MQ] at c1;have hm:Mv (λk=>k=gc∨k=gm∨k=gx) w w':=(Mv.of_below hb).mv c8 λk hk=>.inl hk;refine⟨rfl,_,.slice none 0 0,⟨⟨wi,gl,gm,nl+1,gi,gx,ni+1,_,_,_,c1,by simp[bnd];omega,by simp[bnd];omega,⟨.inl b.1,.inl b.2.1,.inl b.2.2.1,.inl b.2.2.2⟩,⟨⟨bl,hbl,rfl⟩,.inl rfl⟩,hw.com.go hm (XK a1.hc a1.lg.isMap a1.ix.isMap (by decide))⟩,.inl hfc⟩,.inr ⟨rfl,gr,cr,m,rv,rest,rfl,c2,Aw.mono c3 hs,c4,by omega⟩,⟨λ_=>rfl,none,AU.nil _ _ _,by simp⟩,hm.more λk hk=>JB a1 hfc b k hk⟩
theorem RF{A:List Nat}{tk:Nat}(h:BM w F gc n me q c (.lead A tk) (.slice none 0 0) (.slice none 0 0))(hf:f<n)(hme:me<n)(hne:f≠me)(hn3:3≤n)(hn:n≤7)(hq:q<n)(hc:CU c)(hA:f∉A)(hl:A.length≤5) :Calls prog 75 #[.pointer (some ⟨gc,0,none⟩),.agg (Bc 2 f me q Cm.zero).toArray] w λe w'=>e=.returned (.bool false)∧Mv (Cc w F) w w' ∧((A.length+3<n∧BM w' (grow F w w') gc n me q c (.lead (f :: A) tk) (.slice none 0 0) (.slice none 0 0)) ∨(n≤A.length+3∧∃recs cout,BM w' (grow F w w') gc n me q c .com recs cout∧F5 w' w.heap.size 1 recs∧DN w' (grow F w w') cout (n-1) (Og 5 me q c))):=by
 obtain⟨⟨wi,gl,gm,nl,gi,gx,ni,L,E,leads,a1,a2,a3,b,⟨hqm,rfl,gb,cb,gld,rest,R,ob,rfl,d2,d3,d4,d5,d6,d7,d8⟩,hw⟩,hfc⟩:=h;have n0:nl≤1:=a2;have n1:ni≤1:=a3;have HL:Fz w gc n me gl gm nl gi gx ni q c E gb cb gld rest (Du A) R ob A.length tk:=⟨a1,d3,d4,d5,d2⟩;have hgb:gb≠gc∧gb≠gl∧gb≠gm∧gb≠gi∧gb≠gx:=⟨d3.ne_of a1.hc (by decide),d3.ne_of a1.lg.ix (by decide),Ai a1.lg.isMap d3,d3.ne_of a1.ix.ix (by decide),Ai a1.ix.isMap d3⟩;have K:=λ(Post:World→Value→Option Nat→World→Prop) KW=>LJ 2 _ (.inr (.inl ⟨by decide,rfl⟩)) gc n me gl gi f q 0 0 Cm.zero Ad 0 Cm.zero false dz (.slice (some ⟨gb,0,none⟩) 1 cb) (.slice none 0 0) (.slice none 0 0) (λW w'=>∃w1 R' ob',Fz w1 gc n me gl gm nl gi gx ni q c E gb cb gld rest (E9 (Du A) f) R' ob' (A.length+1) tk∧(ob'=ob∨∃k,ob'=some k∧W.heap.size≤k)∧Mv (λk=>k=gld∨ob=some k) W w1∧Post w1 R' ob' w') w a1.hc hf hq (Qh f me q (by omega) (by omega) (by omega) hne) (λW hb=>Ep gl gm nl _ q 1 W (a1.lg.bel hb) (Fb q (by omega)))
  (λW hb=>TE gc n me gl gm nl gi gx ni gb gld cb q f me A.length c E rest (Du A) R ob tk Post W (HL.bel hb) (by omega) (by simp[Du,hA]) (by omega) KW)
 have hob:∀k,ob=some k→Cc w F k∧∃L,Holds w k 43 L:=λk hk=>by
  rcases d5.cases with⟨_,h0,_⟩|⟨g1,_,_,_,h0,_,_,hh,_⟩
  ·rw[h0] at hk;cases hk
  ·rw[h0] at hk;cases hk;exact⟨.of (d8 _ h0) hh (by decide),_,hh⟩
 have hG:∀k,(k=gld∨ob=some k)→Cc w F k:=by
  rintro k (rfl|hk)
  ·exact .of d7 d4 (by decide)
  ·exact(hob k hk).1
 have hGw:∀k,(k=gld∨ob=some k)→EN w F Ku k:=by
  rintro k (rfl|hk)
  ·exact DR d4 (by decide)
  ·obtain⟨_,L,hh⟩:=hob k hk;exact DR hh (by decide)
 by_cases hlt:A.length+3<n
 ·refine(K (λW _ _ W'=>Below W.heap.size W W') (λR' ob' W HW=>?_)).mono ?_
  ·obtain⟨p,cap,rfl,hcap,hcm,hnil,hrows⟩:=HW.hr.rows (V:=λ_=>EQ) (λ_ _=>rfl) (by decide);refine AY (UZ gc n me gl gi gld (A.length+1) cap _ _ _ q c (E9 (Du A) f) p tk W HW.co.hc HW.hl hrows hcap hnil hn3 hn (by omega)) ?_;rintro w' hb;exact⟨⟨_,rfl⟩,hb⟩
  ·rintro e w' ⟨rfl,w1,hb1,w2,R',ob',HW,hob',hm,hb⟩;have HW:=HW.bel hb;have hs1:=hb1.size;have hs2:=hm.size;have hs3:=hb.size;have hm9:Mv (λk=>k=gld∨ob=some k) w w':=((Mv.of_below hb1).mv hm (λk hk=>.inl hk)).bel hb;refine⟨rfl,hm9.more hG,.inl ⟨hlt,⟨⟨wi,gl,gm,nl,gi,gx,ni,_,E,_,HW.co,a2,a3,⟨.inl b.1,.inl b.2.1,.inl b.2.2.1,.inl b.2.2.2⟩,⟨hqm,rfl,gb,cb,gld,rest,R',ob',rfl,d2,HW.hb,?_,HW.hr,.inl d6,.inl d7,?_⟩,Em.go (ph:=.lead (f :: A) tk) hw hm9 λk hk _=>hGw k hk⟩,.inl hfc⟩⟩⟩
   ·have:=HW.hl;rw[Qn] at this;exact this
   ·intro k hk;rcases hob' with h|⟨k2,h,h2⟩
    ·exact .inl (d8 k (h▸hk))
    ·rw[h] at hk;cases hk;exact .inr ⟨by omega,HW.hr.lt _ h⟩
 ·refine(K (λW _ _ W'=>JV gc n me gl gm nl gi gx ni gb cb E q c W W') (λR' ob' W HW=>?_)).mono ?_
  ·obtain⟨p,cap,rfl,hcap,hcm,hnil,hrows⟩:=HW.hr.rows (V:=λ_=>EQ) (λ_ _=>rfl) (by decide);refine AY (W9 gc n me gl gm nl gi gx ni gb gld cb q (A.length+1) cap rest c (E9 (Du A) f) p tk E W HW.co HW.hb HW.hl d2 hgb (by omega) (by omega) hn hme (by omega) hc hrows hcap hnil hn3 (by omega) (by omega)) ?_;rintro w' hb;exact⟨⟨_,rfl⟩,hb⟩
  ·rintro e w' ⟨rfl,w1,hb1,w2,R',ob',HW,hob',hm,gr,cr,m,rv,out,rest2,ob2,c1,c2,c3,c4,c5,c6,c7,c8⟩;have hs1:=hb1.size;have hs2:=hm.size;have hs3:=c8.size;rw[MQ] at c1;have hm9:Mv (λk=>(k=gc∨k=gm∨k=gx∨k=gb)∨(k=gld∨ob=some k)) w w':=((Mv.of_below hb1).mv hm (λk hk=>.inl (.inr hk))).mv c8 λk hk=>.inl (.inl hk);refine⟨rfl,hm9.more ?_,.inr ⟨by omega,_,out,⟨⟨wi,gl,gm,nl+1,gi,gx,ni+1,_,_,_,c1,by simp[bnd];omega,by simp[bnd];omega,⟨.inl b.1,.inl b.2.1,.inl b.2.2.1,.inl b.2.2.2⟩,⟨⟨Ad,Na,rfl⟩,.inr ⟨_,_,rfl⟩⟩,hw.com.go hm9 ?_⟩,.inl hfc⟩,.inr ⟨rfl,gr,cr,m,rv,rest2,rfl,c2,Aw.mono c3 (by omega),c4,by omega⟩,⟨λh=>(by omega),ob2,c6,λg hg=>.inr ⟨by have:=c7 g hg;omega,c6.lt g hg⟩⟩⟩⟩
   ·rintro k ((rfl|rfl|rfl|rfl)|hk)
    ·exact .of hfc a1.hc (by decide)
    ·exact .map b.2.1 a1.lg.isMap
    ·exact .map b.2.2.2 a1.ix.isMap
    ·exact .of d6 d3 (by decide)
    ·exact hG k hk
   ·rintro k (hk|hk) hkl
    ·exact XL a1.hc a1.lg.isMap a1.ix.isMap d3 (by decide) (by decide) k hk hkl
    ·exact hGw k hk
theorem MH{k:Int}{x:Cm}{bl:Bal}{st:Int}{y:Cm}{sm:Bool}{be br:Int}(hk:k=2∨k=4∨k=7)(h:BM w F gc n me q c .com (.slice none 0 0) (.slice none 0 0))(hf:f<n)(hn:n≤7)(hq:q<n) (KL:∀W,Calls prog 72 #[.agg (Aj k f me q 1 be br x bl st y sm dz).toArray] W λe w'=>e=.returned (.bool true)∧Below W.heap.size W w') :Calls prog 75 #[.pointer (some ⟨gc,0,none⟩),.agg (Aj k f me q 1 be br x bl st y sm dz).toArray] w λe w'=>e=.returned (.bool false)∧Below w.heap.size w w':=by
 obtain⟨⟨wi,gl,gm,nl,gi,gx,ni,L,E,leads,a1,a2,a3,b,⟨⟨bb,_,rfl⟩,hl⟩,hw⟩,hfc⟩:=h;have hl2:∃p cb,leads=.slice p 0 cb:=by
  rcases hl with rfl|⟨g,cb,rfl⟩
  ·exact⟨_,_,rfl⟩
  ·exact⟨_,_,rfl⟩
 obtain⟨p,cb,rfl⟩:=hl2;obtain⟨kd,rfl⟩:∃kd:Nat,k=kd:=by rcases hk with rfl|rfl|rfl;exact⟨2,rfl⟩;exact⟨4,rfl⟩;exact⟨7,rfl⟩
 refine AY (LJ kd _ (.inr (.inl ⟨hk,rfl⟩)) gc n me gl gi f q be br x bl st y sm dz _ _ _ (λW w'=>Below W.heap.size W w') w a1.hc hf hq KL (λW hb=>Ep gl gm nl _ q 1 W (a1.lg.bel hb) (Fb q (by omega))) (λW hb=>Nw gc n me gl gi kd f me q cb be br x bl st y sm dz p _ _ W (a1.hc.bel hb))) ?_;rintro w' ⟨w1,hb,hb2⟩;exact⟨rfl,hb.trans (hb2.mono hb.size)⟩
theorem JX(p:Nat)(hp:p<7):GV ⟨1,p,0,0⟩:=⟨by simp,⟨by simp,by simp;omega⟩,by simp,by simp,by simp[below]⟩
theorem Nz(p:Nat)(hp:p<7):GV ⟨1,p,1,p⟩:=⟨by simp,⟨by simp,by simp;omega⟩,by simp,⟨by simp,by simp;omega⟩,by simp[below]⟩
theorem Vb{k:Nat}(h:BM w F gc n me q c (.pre (k+1)) (.slice none 0 0) (.slice none 0 0))(hf:f<n)(hme:me<n)(hne:f≠me)(hn:n≤7)(hq:q<n)(hc:CU c) :Calls prog 75 #[.pointer (some ⟨gc,0,none⟩),.agg (DZ 6 f me (FZ q 1 f)).toArray] w λe w'=>e=.returned (.bool false) ∧∃recs cout,BM w' (grow F w w') gc n me q c (.prom f) recs cout∧F5 w' w.heap.size 1 recs∧DN w' (grow F w w') cout 1 (λ_=>DZ 7 me f (LX q 1 f c))∧Mv (Cc w F) w w':=by obtain⟨⟨wi,gl,gm,nl,gi,gx,ni,L,E,leads,a1,a2,a3,b,⟨rfl,rfl⟩,hw⟩,hfc⟩:=h;have n0:nl≤1:=a2;have n1:ni≤1:=a3;refine AY (LJ 6 _ (.inl ⟨by decide,rfl⟩) gc n me gl gi f q 1 f Cm.zero Ad 0 Cm.zero false dz _ _ _ (λW w'=>JW gc n me gl gm nl gi gx ni q (AO ⟨1,f,0,0⟩ 1 c true) (Fh E ⟨q,1,c,0⟩) 7 f (LX q 1 f c) W w') w a1.hc hf hq (VD f me q 1 f (by omega) (by omega) (by omega) hne (by decide) ⟨by omega,by omega⟩) (λW hb=>Ep gl gm nl _ q 1 W (a1.lg.bel hb) (Fb q (by omega))) (λW hb=>TF gc n me gl gm nl gi gx ni f me q 1 f c E W (a1.bel hb) (by omega) (by omega) (by omega) hc (by decide) ⟨by omega,by omega⟩)) ?_;rintro w' ⟨w1,hb,gr,cr,m,rv,rest,out,ob,c1,c2,c3,c4,c5,c6,c7,c8⟩;have hs:=hb.size;have hs2:=c8.size;have hm:Mv (λk=>k=gc∨k=gm∨k=gx) w w':=(Mv.of_below hb).mv c8 λk hk=>.inl hk;have hwp:Em w F q wi (.prom f):=⟨_,hw⟩;refine⟨rfl,_,out,⟨⟨wi,gl,gm,nl+1,gi,gx,ni+1,_,_,_,c1,by simp[bnd];omega,by simp[bnd];omega,⟨.inl b.1,.inl b.2.1,.inl b.2.2.1,.inl b.2.2.2⟩,⟨rfl,rfl⟩,hwp.go hm (XK a1.hc a1.lg.isMap a1.ix.isMap (by decide))⟩,.inl hfc⟩,.inr ⟨rfl,gr,cr,m,rv,rest,rfl,c2,Aw.mono c3 hs,c4,by omega⟩,⟨λh=>(by cases h),ob,by rw[MK (V:=λ_=>DZ 7 me f (LX q 1 f c)) rfl];exact c6,λg hg=>.inr ⟨by have:=c7 g hg;omega,c6.lt g hg⟩⟩,hm.more λk hk=>JB a1 hfc b k hk⟩
theorem Xc(h:BM w F gc n me q c (.prom f) (.slice none 0 0) (.slice none 0 0))(hf:f<n)(hme:me<n)(hne:f≠me)(hn:n≤7)(hq:q<n)(hc:CU c) :Calls prog 75 #[.pointer (some ⟨gc,0,none⟩),.agg (DZ 3 f me (PL q 1 f c)).toArray] w λe w'=>e=.returned (.bool false) ∧∃recs cout,BM w' (grow F w w') gc n me q c .acc recs cout∧F5 w' w.heap.size 1 recs∧DN w' (grow F w w') cout 1 (λ_=>DZ 4 me f (FZ q 1 f))∧Mv (Cc w F) w w':=by obtain⟨⟨wi,gl,gm,nl,gi,gx,ni,L,E,leads,a1,a2,a3,b,⟨rfl,rfl⟩,hw⟩,hfc⟩:=h;have n0:nl≤2:=a2;have n1:ni≤2:=a3;refine AY (LJ 3 _ (.inl ⟨by decide,rfl⟩) gc n me gl gi f q 1 f c Ad 0 Cm.zero false dz _ _ _ (λW w'=>JW gc n me gl gm nl gi gx ni q (AO ⟨1,f,1,f⟩ 2 c false) (Fh E ⟨q,1,c,0⟩) 4 f (FZ q 1 f) W w') w a1.hc hf hq (VC f me q 1 f c (by omega) (by omega) (by omega) hne (by decide) ⟨by omega,by omega⟩ hc.right) (λW hb=>Ep gl gm nl _ q 1 W (a1.lg.bel hb) (Fb q (by omega))) (λW hb=>VK gc n me gl gm nl gi gx ni f me q 1 f c E W (a1.bel hb) (by omega) (by omega) (by omega) hc (by decide) ⟨by omega,by omega⟩)) ?_;rintro w' ⟨w1,hb,gr,cr,m,rv,rest,out,ob,c1,c2,c3,c4,c5,c6,c7,c8⟩;have hs:=hb.size;have hs2:=c8.size;have hm:Mv (λk=>k=gc∨k=gm∨k=gx) w w':=(Mv.of_below hb).mv c8 λk hk=>.inl hk;have hwp:Em w F q wi .acc:=hw;refine⟨rfl,_,out,⟨⟨wi,gl,gm,nl+1,gi,gx,ni+1,_,_,_,c1,by simp[bnd];omega,by simp[bnd];omega,⟨.inl b.1,.inl b.2.1,.inl b.2.2.1,.inl b.2.2.2⟩,⟨⟨_,Nz f (by omega),rfl⟩,rfl⟩,hwp.go hm (XK a1.hc a1.lg.isMap a1.ix.isMap (by decide))⟩,.inl hfc⟩,.inr ⟨rfl,gr,cr,m,rv,rest,rfl,c2,Aw.mono c3 hs,c4,by omega⟩,⟨λh=>(by cases h),ob,by rw[MK (V:=λ_=>DZ 4 me f (FZ q 1 f)) rfl];exact c6,λg hg=>.inr ⟨by have:=c7 g hg;omega,c6.lt g hg⟩⟩,hm.more λk hk=>JB a1 hfc b k hk⟩
theorem Pe{S:List Nat}(h:BM w F gc n me q c (.prep S) (.slice none 0 0) (.slice none 0 0))(hf:f<n)(hme:me<n)(hne:f≠me)(hn3:3≤n)(hn:n≤7)(hq:q<n)(hfq:f≠q)(hc:CU c)(hS:f∉S)(hl:S.length≤5) :Calls prog 75 #[.pointer (some ⟨gc,0,none⟩),.agg (DZ 7 f me (LX q 1 me c)).toArray] w λe w'=>e=.returned (.bool false)∧Mv (Cc w F) w w' ∧((S.length+2<n / 2+1∧BM w' (grow F w w') gc n me q c (.prep (f :: S)) (.slice none 0 0) (.slice none 0 0)) ∨(¬S.length+2<n / 2+1∧∃recs cout,BM w' (grow F w w') gc n me q c (.accl []) recs cout∧F5 w' w.heap.size 1 recs∧DN w' (grow F w w') cout (n-1) (Oh 3 me (PL q 1 me c)))):=by
 obtain⟨⟨wi,gl,gm,nl,gi,gx,ni,L,E,leads,a1,a2,a3,b,⟨rfl,gb,cb,gld,R,Sv,ob,Sf,tk,rfl,d1,d2,d3,d4,d5,d6,d7,d8⟩,hw⟩,hfc⟩:=h;have n0:nl≤2:=a2;have n1:ni≤2:=a3;have HL:Nu w gc n me gl gm nl gi gx ni q 1 me c E gb cb gld (Du S) R Sv ob (S.length+1) Sf S.length tk:=⟨a1,d1,d2,d3,d4⟩;obtain⟨g0,cap0,rest0,hv0,hg0,_,_,hgbh,_⟩:=d1.blk (by decide);cases hv0;cases hg0;have hs2:∀i,i<S.length+1+1→∃r,(λi=>if i=S.length+1 then Ed 1 me c f else Sf i) i=Ed 1 me c r∧r≠q:=λi hi=>by
  by_cases h:i=S.length+1
  ·exact⟨f,by simp[h],by omega⟩
  ·obtain⟨r,h1,h2⟩:=d5 i (by omega);exact⟨r,by simp[h,h1],h2⟩
 have K:=λ(Post:World→Value→Option Nat→World→Prop) KW=>LJ 7 _ (.inr (.inl ⟨by decide,rfl⟩)) gc n me gl gi f q 1 me Cm.zero ⟨1,me,0,0⟩ 1 c true dz (.slice (some ⟨gb,0,none⟩) 1 cb) (.slice none 0 0) (.slice none 0 0) (λW w'=>∃w1 S' ob',Nu w1 gc n me gl gm nl gi gx ni q 1 me c E gb cb gld (E9 (Du S) f) R S' ob' (S.length+1+1) (λi=>if i=S.length+1 then Ed 1 me c f else Sf i) (S.length+1) tk∧(ob'=ob∨∃k,ob'=some k∧W.heap.size≤k)∧Mv (λk=>k=gld∨ob=some k) W w1∧Post w1 S' ob' w') w a1.hc hf hq (Jg f me q 1 me ⟨1,me,0,0⟩ 1 c true (by omega) (by omega) (by omega) hne (by decide) ⟨by omega,by omega⟩ (JX me (by omega)) (.inl ⟨rfl,rfl,rfl,rfl⟩) hc.right) (λW hb=>Ep gl gm nl _ q 1 W (a1.lg.bel hb) (Fb q (by omega)))
  (λW hb=>O9 gc n me gl gm nl gi gx ni gb gld cb q f me S.length 1 me c E (Du S) R Sv ob (S.length+1) Sf tk Post W ⟨a1.bel hb,d1.bel hb,d2.bel hb,d3.bel hb,d4⟩ (by omega) (by simp[Du,hS]) (by omega) (by omega) KW)
 have hob:∀k,ob=some k→Cc w F k∧∃L,Holds w k 259 L:=λk hk=>by
  rcases d3.cases with⟨_,h0,_⟩|⟨g1,_,_,_,h0,_,_,hh,_⟩
  ·rw[h0] at hk;cases hk
  ·rw[h0] at hk;cases hk;exact⟨.of (d8 _ h0) hh (by decide),_,hh⟩
 have hG:∀k,(k=gld∨ob=some k)→Cc w F k:=by
  rintro k (rfl|hk)
  ·exact .of d7 d2 (by decide)
  ·exact(hob k hk).1
 have hGw:∀k,(k=gld∨ob=some k)→EN w F Ku k:=by
  rintro k (rfl|hk)
  ·exact DR d2 (by decide)
  ·obtain⟨_,L,hh⟩:=hob k hk;exact DR hh (by decide)
 by_cases hlt:S.length+2<n / 2+1
 ·refine(K (λW _ _ W'=>Below W.heap.size W W') (λS' ob' W HW=>?_)).mono ?_
  ·obtain⟨p,cap,rfl⟩:=HW.sl;obtain⟨p2,cap2,he,hcap,hcm,hnil,hrows⟩:=HW.hr.rows (V:=λi=>((λi=>if i=S.length+1 then Ed 1 me c f else Sf i) i).cells) (λ_ _=>rfl) (by decide);cases he;refine PM gc n me gl gi gb gld cb q (S.length+1+1) cap 1 me c (E9 (Du S) f) R _ _ _ p _ (S.length+1:Nat) tk W HW.co.hc HW.hl hrows hcap hn3 hn hs2 (by omega)
  ·rintro e w' ⟨rfl,w1,hb1,w2,S',ob',HW,hob',hm,hb⟩;have hs1:=hb1.size;have hs3:=hm.size;have hs4:=hb.size;have hm9:Mv (λk=>k=gld∨ob=some k) w w':=((Mv.of_below hb1).mv hm (λk hk=>.inl hk)).bel hb;have hl5:Holds w' gld 167 (CQ q 2 1 me false Cm.zero (Du (f :: S)) R S' ((f :: S).length:Nat) tk):=by have:=HW.hl.bel hb;rw[Qn] at this;exact this
   have hwp:Em w F q wi (.prep (f :: S)):=hw;refine⟨rfl,hm9.more hG,.inl ⟨hlt,⟨⟨wi,gl,gm,nl,gi,gx,ni,_,E,_,HW.co.bel hb,a2,a3,⟨.inl b.1,.inl b.2.1,.inl b.2.2.1,.inl b.2.2.2⟩,⟨rfl,gb,cb,gld,R,S',ob',_,tk,rfl,HW.ho.bel hb,hl5,HW.hr.bel hb,HW.sl,hs2,.inl d6,.inl d7,?_⟩,hwp.go hm9 λk hk _=>hGw k hk⟩,.inl hfc⟩⟩⟩;intro k hk;rcases hob' with h|⟨k2,h,h2⟩
   ·exact .inl (d8 k (h▸hk))
   ·rw[h] at hk;cases hk;exact .inr ⟨by omega,(HW.hr.bel hb).lt _ h⟩
 ·refine(K (λW _ _ W'=>Ib gc n me gl gm nl gi gx ni gb q 1 me c E W W') (λS' ob' W HW=>?_)).mono ?_
  ·obtain⟨p,cap,rfl⟩:=HW.sl;obtain⟨p2,cap2,he,hcap,hcm,hnil,hrows⟩:=HW.hr.rows (V:=λi=>((λi=>if i=S.length+1 then Ed 1 me c f else Sf i) i).cells) (λ_ _=>rfl) (by decide);cases he;exact Qe gc n me gl gm nl gi gx ni gb gld cb q (S.length+1+1) cap 1 me c E (E9 (Du S) f) R p _ (S.length+1:Nat) tk W HW.co HW.ho HW.hl hrows hcap hn3 hs2 (by omega) (by omega) (by omega) (by omega) hn hme hc (by decide) ⟨by omega,by omega⟩
  ·rintro e w' ⟨rfl,w1,hb1,w2,S',ob',HW,hob',hm,gb',cb',gld',gr,cr,m,rv,rest,out,ob2,c1,c2,c2',c3,c3',c4,c5,c6,c7,c8,c9,c10⟩;have hs1:=hb1.size;have hs3:=hm.size;have hs4:=c10.size;have hm9:Mv (λk=>(k=gc∨k=gm∨k=gx∨k=gb)∨(k=gld∨ob=some k)) w w':=((Mv.of_below hb1).mv hm (λk hk=>.inl (.inr hk))).mv c10 λk hk=>.inl (.inl hk);have hgb':grow F w w' gb':=by
    rcases c2' with rfl|h
    ·exact .inl d6
    ·exact .inr ⟨by omega,c2.lt _ rfl⟩
   have hans0:(Du []:Nat→Int)=λ_=>0:=by funext r;simp[Du]
   have hwp:Em w F q wi (.accl []):=hw;refine⟨rfl,hm9.more ?_,.inr ⟨hlt,_,out,⟨⟨wi,gl,gm,nl+1,gi,gx,ni+1,_,_,_,c1,by simp[bnd];omega,by simp[bnd];omega,⟨.inl b.1,.inl b.2.1,.inl b.2.2.1,.inl b.2.2.2⟩,⟨rfl,gb',cb',gld',_,_,0,rfl,c2,by rw[hans0];exact c3,hgb',.inr ⟨by omega,c3.lt⟩⟩,hwp.go hm9 ?_⟩,.inl hfc⟩,.inr ⟨rfl,gr,cr,m,rv,rest,rfl,c4,Aw.mono c5 (by omega),c6,by omega⟩,⟨λh=>(by omega),ob2,c8,λg hg=>.inr ⟨by have:=c9 g hg;omega,c8.lt g hg⟩⟩⟩⟩
   ·rintro k ((rfl|rfl|rfl|rfl)|hk)
    ·exact .of hfc a1.hc (by decide)
    ·exact .map b.2.1 a1.lg.isMap
    ·exact .map b.2.2.2 a1.ix.isMap
    ·exact .of d6 hgbh (by decide)
    ·exact hG k hk
   ·rintro k (hk|hk) hkl
    ·exact XL a1.hc a1.lg.isMap a1.ix.isMap hgbh (by decide) (by decide) k hk hkl
    ·exact hGw k hk
theorem OD{A:List Nat}(h:BM w F gc n me q c (.accl A) (.slice none 0 0) (.slice none 0 0))(hf:f<n)(hme:me<n)(hne:f≠me)(hn:n≤7)(hq:q<n)(hc:CU c)(hA:f∉A) :Calls prog 75 #[.pointer (some ⟨gc,0,none⟩),.agg (DZ 7 f me (LX q 1 me c)).toArray] w λe w'=>e=.returned (.bool false)∧Below w.heap.size w w':=by
 obtain⟨⟨wi,gl,gm,nl,gi,gx,ni,L,E,leads,a1,a2,a3,b,⟨rfl,gb,cb,gld,R,Sv,tk,rfl,d1,d2,d6,d7⟩,hw⟩,hfc⟩:=h;refine(LJ 7 _ (.inr (.inl ⟨by decide,rfl⟩)) gc n me gl gi f q 1 me Cm.zero ⟨1,me,0,0⟩ 1 c true dz _ _ _ (λW w'=>Below W.heap.size W w') w a1.hc hf hq (Jg f me q 1 me ⟨1,me,0,0⟩ 1 c true (by omega) (by omega) (by omega) hne (by decide) ⟨by omega,by omega⟩ (JX me (by omega)) (.inl ⟨rfl,rfl,rfl,rfl⟩) hc.right) (λW hb=>Ep gl gm nl _ q 1 W (a1.lg.bel hb) (Fb q (by omega)))
  (λW hb=>Ny gc n me gl gm nl gi gx ni gb gld cb q f me 1 me c _ E (Du A) R Sv A.length tk W (a1.bel hb) (d1.bel hb) (d2.bel hb) (by omega) (by simp[Du,hA]))).mono ?_
 rintro e w' ⟨rfl,w1,hb,hb2⟩;exact⟨rfl,hb.trans (hb2.mono hb.size)⟩
theorem RG{A:List Nat}(h:BM w F gc n me q c (.accl A) (.slice none 0 0) (.slice none 0 0))(hf:f<n)(hme:me<n)(hne:f≠me)(hn3:3≤n)(hn:n≤7)(hq:q<n)(hc:CU c)(hA:f∉A)(hl:A.length≤5) :Calls prog 75 #[.pointer (some ⟨gc,0,none⟩),.agg (DZ 4 f me (FZ q 1 me)).toArray] w λe w'=>e=.returned (.bool false)∧Mv (Cc w F) w w' ∧((A.length+2<n / 2+1∧BM w' (grow F w w') gc n me q c (.accl (f :: A)) (.slice none 0 0) (.slice none 0 0)) ∨(¬A.length+2<n / 2+1∧∃recs cout,BM w' (grow F w w') gc n me q c .com recs cout∧F5 w' w.heap.size 1 recs∧DN w' (grow F w w') cout (n-1) (Og 5 me q c))):=by
 obtain⟨⟨wi,gl,gm,nl,gi,gx,ni,L,E,leads,a1,a2,a3,b,⟨rfl,gb,cb,gld,R,Sv,tk,rfl,d1,d2,d6,d7⟩,hw⟩,hfc⟩:=h;have n0:nl≤3:=a2;have n1:ni≤3:=a3;refine(LJ 4 _ (.inr (.inl ⟨by decide,rfl⟩)) gc n me gl gi f q 1 me Cm.zero Ad 0 Cm.zero false dz (.slice (some ⟨gb,0,none⟩) 1 cb) (.slice none 0 0) (.slice none 0 0) (λW w'=>∃w1,Ns w1 gc n me gl gm nl gi gx ni q 1 me c E gb cb gld (E9 (Du A) f) R Sv (A.length+1) tk∧Mv (λk=>k=gld) W w1∧((A.length+2<n / 2+1∧w1=w')∨(n / 2+1≤A.length+2∧Ic ⟨1,me,1,me⟩ 2 false gc n me gl gm nl gi gx ni gb cb E q c w1 w'))) w a1.hc hf hq (Nl f me q 1 me (by omega) (by omega) (by omega) hne (by decide) ⟨by omega,by omega⟩) (λW hb=>Ep gl gm nl _ q 1 W (a1.lg.bel hb) (Fb q (by omega)))
  (λW hb=>QI gc n me gl gm nl gi gx ni gb gld cb q f me A.length 1 me c E (Du A) R Sv tk (λw1 w'=>Ic ⟨1,me,1,me⟩ 2 false gc n me gl gm nl gi gx ni gb cb E q c w1 w') W ⟨a1.bel hb,d1.bel hb,d2.bel hb⟩ (by omega) (by simp[Du,hA]) (by omega) hn λhle W2 HW=>?_)).mono ?_
 ·obtain⟨g0,cap0,rest0,hv0,hg0,hcb1,hcb2,hgbh,_⟩:=HW.ho.blk (by decide);cases hv0;cases hg0;have hgbh:Holds W2 gb 158 (.pointer (some ⟨gld,0,none⟩) :: rest0):=hgbh;exact Q9 ⟨1,me,1,me⟩ (Nz me (by omega)) 2 false (by decide) (by decide) 1 1 me false c Sv gc n me gl gm nl gi gx ni gb gld cb q rest0 c (E9 (Du A) f) R (A.length+1:Nat) tk E W2 HW.co hgbh HW.hl ⟨hcb1,hcb2⟩ ⟨hgbh.ne_of HW.co.hc (by decide),hgbh.ne_of HW.co.lg.ix (by decide),Ai HW.co.lg.isMap hgbh,hgbh.ne_of HW.co.ix.ix (by decide),Ai HW.co.ix.isMap hgbh⟩ (by omega) (by omega) hn hme (by omega) hc
 ·obtain⟨g0,cap0,rest0,hv0,hg0,hcb1,hcb2,hgbh,_⟩:=d1.blk (by decide);cases hv0;cases hg0;rintro e w' ⟨rfl,w1,hb1,w2,HW,hm,⟨hlt,rfl⟩|⟨hle,gr,cr,m,rv,out,rest,ob2,c1,c2,c3,c4,c5,c6,c7,c8⟩⟩
  ·have hs1:=hb1.size;have hs3:=hm.size;have hm9:Mv (λk=>k=gld) w w2:=(Mv.of_below hb1).mv hm λk hk=>.inl hk;have hl5:Holds w2 gld 167 (CQ q 1 1 me false c (Du (f :: A)) R Sv ((f :: A).length:Nat) tk):=by have:=HW.hl;rw[Qn] at this;exact this
   have hwp:Em w F q wi (.accl (f :: A)):=hw;exact⟨rfl,hm9.more λk hk=>hk▸.of d7 d2 (by decide),.inl ⟨hlt,⟨⟨wi,gl,gm,nl,gi,gx,ni,_,E,_,HW.co,a2,a3,⟨.inl b.1,.inl b.2.1,.inl b.2.2.1,.inl b.2.2.2⟩,⟨rfl,gb,cb,gld,R,Sv,tk,rfl,HW.ho,hl5,.inl d6,.inl d7⟩,hwp.go hm9 λk hk _=>hk▸DR d2 (by decide)⟩,.inl hfc⟩⟩⟩
  ·have hs1:=hb1.size;have hs3:=hm.size;have hs4:=c8.size;rw[MQ] at c1;have hm9:Mv (λk=>(k=gc∨k=gm∨k=gx∨k=gb)∨k=gld) w w':=((Mv.of_below hb1).mv hm (λk hk=>.inl (.inr hk))).mv c8 λk hk=>.inl (.inl hk);refine⟨rfl,hm9.more ?_,.inr ⟨by omega,_,out,⟨⟨wi,gl,gm,nl+1,gi,gx,ni+1,_,_,_,c1,by simp[bnd];omega,by simp[bnd];omega,⟨.inl b.1,.inl b.2.1,.inl b.2.2.1,.inl b.2.2.2⟩,⟨⟨_,Nz me (by omega),rfl⟩,.inr ⟨_,_,rfl⟩⟩,hw.com.go hm9 ?_⟩,.inl hfc⟩,.inr ⟨rfl,gr,cr,m,rv,rest,rfl,c2,Aw.mono c3 (by omega),c4,by omega⟩,⟨λh=>(by omega),ob2,c6,λg hg=>.inr ⟨by have:=c7 g hg;omega,c6.lt g hg⟩⟩⟩⟩
   ·rintro k ((rfl|rfl|rfl|rfl)|rfl)
    ·exact .of hfc a1.hc (by decide)
    ·exact .map b.2.1 a1.lg.isMap
    ·exact .map b.2.2.2 a1.ix.isMap
    ·exact .of d6 hgbh (by decide)
    ·exact .of d7 d2 (by decide)
   ·rintro k (hk|rfl) hkl
    ·exact XL a1.hc a1.lg.isMap a1.ix.isMap hgbh (by decide) (by decide) k hk hkl
    ·exact DR d2 (by decide)
end
end
end Go.Proofs.YtimdpiifpibgfaaGreatDoor
