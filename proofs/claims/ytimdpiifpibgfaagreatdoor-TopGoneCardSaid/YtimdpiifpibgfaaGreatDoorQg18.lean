/- A part of the proof that the law TopGone returns true for every input. -/
import Derived.Lib.AppendZeros
import Derived.Test.YtimdpiifpibgfaaGreatDoorQg15
set_option linter.all false
set_option maxRecDepth 20000
set_option maxHeartbeats 16000000
open Go.RowKit Go.Maps
namespace Go.Proofs.YtimdpiifpibgfaaGreatDoor
open Tryz
theorem IB(w:World):Calls prog 77 #[.slice none 0 0] w λe w'=>e=.returned (.slice none 0 0)∧Below w.heap.size w w':=by
 have he:∀W:World,(binOp .eql 156 (.slice none 0 0) (.slice none 0 0)).run prog W=.ok (.bool true) W:=λ_=>by kernel_rfl
 go_in;go_wp2_with fail;go_ret;exact⟨rfl,Below.refl _ _⟩
theorem IC(w:World):Calls prog 85 #[.slice none 0 0] w λe w'=>e=.returned (.slice none 0 0)∧Below w.heap.size w w':=by
 have he:∀W:World,(binOp .eql 161 (.slice none 0 0) (.slice none 0 0)).run prog W=.ok (.bool true) W:=λ_=>by kernel_rfl
 go_in;go_wp2_with fail;go_ret;exact⟨rfl,Below.refl _ _⟩
theorem V7(gl gm nl:Nat)(w:World)(h:A7 w gl gm nl []):Calls prog 81 #[.pointer (some ⟨gl,0,none⟩)] w λe w'=>∃p c,e=.returned (.slice p 0 c)∧Below w.heap.size w w':=by
 refine(IX gl gm nl [] w h (by simp)).mono ?_;rintro e w' ⟨v,xs,rfl,ho,_,hb⟩;rcases ho.2 with⟨rfl,_⟩|⟨g,cap,cur,rfl,_⟩
 ·exact⟨none,0,rfl,hb⟩
 ·exact⟨some ⟨g,0,none⟩,cap,rfl,hb⟩
theorem Ws(gc n me gl gm nl gi:Nat)(recs out:Value)(w:World)(h:Holds w gc 163 (Au n me gl gi (.slice none 0 0) recs out))(hl:A7 w gl gm nl []) :Calls prog 52 #[.pointer (some ⟨gc,0,none⟩)] w λe w'=>e=.returned (.tuple #[])∧Below w.heap.size w w':=by
 have KC:=qh IB;have KW:=qh IC;have KL:=qh (λW h=>V7 gl gm nl W h);have HC:=qh h;have HL:=qh hl;have HB:=qh (Base.start w);clear h hl;go_in;generalize hB0:w.heap.size=B at HB ⊢;have d4:=AZ HC.o 4;go_wp2_with fail;refine AY (KC.o _) ?_;rintro w1 hb;obtain⟨HC,HL,HB⟩:=Ce hb HC HL HB;clear hb d4;go_wp2_with fail;go_loopw [17] (λvi wr=>vi=.int .i64 0∧wr=w1) (λ_ _=>0);case atStart=>exact⟨rfl,rfl⟩
 case round=>
  obtain⟨rfl,rfl⟩:=hrel;have d2:=AZ HC.o 2;go_wp2_with fail;refine(KL.o _ HL.o).mono ?_;rintro e w2 ⟨p,cc,rfl,hb⟩;obtain⟨HC,HB⟩:=Bf hb HC HB;clear hb d2 HL;go_wp2_with fail;go_loopw [61] (λvi wr=>vi=.int .i64 0∧wr=w2) (λ_ _=>0);case atStart=>exact⟨rfl,rfl⟩
  case round=>
   obtain⟨rfl,rfl⟩:=hrel;have d5:=AZ HC.o 5;go_wp2_with fail;refine AY (KW.o _) ?_;rintro w3 hb;have HB:=Ci hb HB;clear hb d5 HC;go_wp2_with fail;go_loopw [93] (λvi wr=>vi=.int .i64 0∧wr=w3) (λ_ _=>0);case atStart=>exact⟨rfl,rfl⟩
   case round=>obtain⟨rfl,rfl⟩:=hrel;go_wp2_with fail;exact bE ⟨rfl,HB.below⟩
theorem CO.bel{w w':World}{v:Value}{n:Nat}(h:CO w v n)(hb:Below w.heap.size w w'):CO w' v n:=h.below hb
instance {w w':World}{v:Value}{n:Nat}:Bl w w' (CO w v n) (CO w' v n):=⟨λhb h=>CO.bel h hb⟩
theorem Aw.bel{w w':World}{B:Nat}{v:Value}{n:Nat}(h:Aw w B v n)(hb:Below w.heap.size w w'):Aw w' B v n:=h.below hb
instance {w w':World}{B:Nat}{v:Value}{n:Nat}:Bl w w' (Aw w B v n) (Aw w' B v n):=⟨λhb h=>Aw.bel h hb⟩
def LM(fs:Value):List Value:=[.int .i64 524288,fs,.bool false,.bool false,.int .i64 0]
abbrev EW(w:World)(gd:Nat):Prop:=Holds w gd 125 (LM (.slice none 0 0))
def O7:ByteArray:=⟨#[108,111,103,46,49,46,49]⟩
structure CE(w:World)(gd gf gb m:Nat)(kept:Int):Prop where
 d:∃cf,1≤cf∧cf≤maxLen∧Holds w gd 125 (LM (.slice (some ⟨gf,0,none⟩) 1 cf))
 f:∃cb rest,m≤cb∧cb≤maxLen∧Holds w gf 129 (.string O7 :: .slice (some ⟨gb,0,none⟩) m cb :: .int .i64 kept :: rest)
 b:∃bs rest,bs.length=m∧(∀x∈bs,x<256)∧Holds w gb 5 (Ah bs++rest)
 ne:gd≠gf∧gd≠gb∧gf≠gb
 lim:1≤m∧m≤100000
theorem CE.keep{w w':World}{gd gf gb m:Nat}{kept:Int}(h:CE w gd gf gb m kept)(h1:w'.heap[gd]?=w.heap[gd]?)(h2:w'.heap[gf]?=w.heap[gf]?)(h3:w'.heap[gb]?=w.heap[gb]?):CE w' gd gf gb m kept:=by obtain⟨⟨cf,a1,a2,a3⟩,⟨cb,r,b1,b2,b3⟩,⟨bs,r2,c1,c2,c3⟩,hn,hl⟩:=h;unfold Holds at a3 b3 c3;exact⟨⟨cf,a1,a2,h1.trans a3⟩,⟨cb,r,b1,b2,h2.trans b3⟩,⟨bs,r2,c1,c2,h3.trans c3⟩,hn,hl⟩
theorem CE.lt{w:World}{gd gf gb m:Nat}{kept:Int}(h:CE w gd gf gb m kept):gd<w.heap.size∧gf<w.heap.size∧gb<w.heap.size:=by obtain⟨⟨cf,a1,a2,a3⟩,⟨cb,r,b1,b2,b3⟩,⟨bs,r2,c1,c2,c3⟩,hn,hl⟩:=h;exact⟨a3.lt,b3.lt,c3.lt⟩
theorem CE.bel{w w':World}{gd gf gb m:Nat}{kept:Int}(h:CE w gd gf gb m kept)(hb:Below w.heap.size w w'):CE w' gd gf gb m kept:=h.keep (hb.block _ h.lt.1) (hb.block _ h.lt.2.1) (hb.block _ h.lt.2.2)
instance {w w':World}{gd gf gb m:Nat}{kept:Int}:Bl w w' (CE w gd gf gb m kept) (CE w' gd gf gb m kept):=⟨λhb h=>CE.bel h hb⟩
theorem CE.mv{w w':World}{F:Ap}{gd gf gb m:Nat}{kept:Int}(h:CE w gd gf gb m kept)(hm:Mv F w w')(h1:¬F gd)(h2:¬F gf)(h3:¬F gb):CE w' gd gf gb m kept:=h.keep (hm.block _ h.lt.1 h1) (hm.block _ h.lt.2.1 h2) (hm.block _ h.lt.2.2 h3)
theorem Xt(w:World) :Calls prog 44 #[.int .i64 524288] w λe w'=>e=.returned (.tuple #[.pointer (some ⟨w.heap.size,0,none⟩),.int .i64 0])∧EW w' w.heap.size∧Below w.heap.size w w':=by
 go_in;go_wp2_with fail
 go_ret2
 exact⟨rfl,AA w _ _,by go_grown⟩
theorem aY(gd:Nat)(s:ByteArray)(w:World)(h:EW w gd) :Calls prog 189 #[.pointer (some ⟨gd,0,none⟩),.string s] w λe w'=>e=.returned (.tuple #[.int .i64 0,.bool false])∧Below w.heap.size w w':=by
 have HD:=qh h;clear h;go_in;have d1:=AZ HD.o 1;go_wp2_with fail;go_loopw [13] (λvi wr=>vi=.int .i64 0∧wr=w) (λ_ _=>0);case atStart=>exact⟨rfl,rfl⟩
 case round=>
  obtain⟨rfl,rfl⟩:=hrel;go_wp2_with fail
  go_ret2
  exact⟨rfl,Below.refl _ _⟩
theorem dB:Op.bytesLess O7.toList O7.toList=false:=by kernel_rfl
theorem X4(gd gf gb m:Nat)(kept:Int)(w:World)(h:CE w gd gf gb m kept) :Calls prog 189 #[.pointer (some ⟨gd,0,none⟩),.string O7] w λe w'=>e=.returned (.tuple #[.int .i64 0,.bool true])∧Below w.heap.size w w':=by
 obtain⟨⟨cf,a1,a2,a3⟩,⟨cb,r,b1,b2,b3⟩,_,_,_⟩:=h;have HD:=qh a3;have HF:=qh b3;clear a3 b3;have G1:=dB;generalize O7=nm at HF G1 ⊢;go_in;have d1:=AZ HD.o 1;go_wp2_with fail;clear d1;go_loopw [13] (λvi wr=>vi=.int .i64 0∧wr=w) (λ_ _=>0);case atStart=>exact⟨rfl,rfl⟩
 case round=>
  obtain⟨rfl,rfl⟩:=hrel;obtain⟨f0,f1,f2⟩:=Md HF.o 0 1 2;go_wp2_with fail;go_quiet (fail);go_wp2_with fail
  go_ret2
  exact⟨rfl,Below.trans (by go_grown) (BV _ _ _)⟩
theorem eF(gd:Nat)(w:World)(h:EW w gd) :Calls prog 279 #[.pointer (some ⟨gd,0,none⟩)] w λe w'=>e=.returned (.int .i64 0)∧Below w.heap.size w w':=by
 have HD:=qh h;clear h;go_in;have d1:=AZ HD.o 1;go_wp2_with fail;go_loopw [11,3] (λvi vn wr=>vi=.int .i64 0∧vn=.int .i64 0∧wr=w) (λ_ _ _=>0);case atStart=>exact⟨rfl,rfl,rfl⟩
 case round=>obtain⟨rfl,rfl,rfl⟩:=hrel;go_wp2_with fail;go_ret;exact⟨rfl,Below.refl _ _⟩
theorem eG(gd gf gb m:Nat)(kept:Int)(w:World)(h:CE w gd gf gb m kept) :Calls prog 279 #[.pointer (some ⟨gd,0,none⟩)] w λe w'=>e=.returned (.int .i64 m)∧Below w.heap.size w w':=by
 obtain⟨⟨cf,a1,a2,a3⟩,⟨cb,r,b1,b2,b3⟩,_,_,hl⟩:=h;have HD:=qh a3;have HF:=qh b3;clear a3 b3;go_in;have d1:=AZ HD.o 1;go_wp2_with fail;clear d1;go_loopw [11,3] (λvi vn wr=>∃i:Nat,vi=.int .i64 (i:Int)∧((i=0∧vn=.int .i64 0∧wr=w)∨(i=1∧vn=.int .i64 m∧Below w.heap.size w wr))) (λvi _ _=>1 - (intOf vi).toNat);case atStart=>exact⟨0,rfl,.inl ⟨rfl,rfl,rfl⟩⟩
 case round=>
  obtain⟨i,rfl,⟨rfl,rfl,rfl⟩|⟨rfl,rfl,hb⟩⟩:=hrel
  ·have f0:=HF.cell 0;have f1:=HF.cell 1;have f2:=HF.cell 2;simp only[yA,yB] at f0 f1 f2;go_wp2_with fail;go_roundw;case rel=>exact⟨1,rfl,.inr ⟨rfl,by simp,by go_grown⟩⟩
   case measure=>simp[intOf]
  ·have HB:=qh hb;clear hb;go_wp2_with fail;go_ret;exact⟨rfl,HB.o⟩
theorem iR(gd:Nat)(w:World)(h:EW w gd) :Calls prog 225 #[.pointer (some ⟨gd,0,none⟩)] w λe w'=>e=.returned (.int .i64 524288)∧Below w.heap.size w w':=by have KT:=qh (λW (h:EW W gd)=>eF gd W h);have HD:=qh h;have HT:=qh h;clear h;go_in;go_upto_region 1 with(fail);have HB:=qh (Base.start w);obtain⟨HB,HD,HT⟩:=Ce (AP _ w) HB HD HT;refine EC [] 8 (λhSn=>?_);generalize w.drew=wd at HB HD HT hSn ⊢;simp only[List.replicate];refine Dl 0 ?_;refine BA 3 [] (λw hSw=>AZ (HD.bel hSw) 0) ?_;refine CS 4 ?_;refine BC 5 rfl (λK hK=>?_);go_simp;refine AY (KT.o _ (HT.bel hSn)) ?_;rintro w1 hb;have hSn:=AB hSn hb;clear hb;refine BJ hK ?_;clear hK;refine FD 6 ?_;refine DX ?_;obtain⟨HB,HD,HT⟩:=Ce hSn HB HD HT;clear hSn;go_wp2_with fail;go_ret;exact⟨rfl,HB.below⟩
theorem iT(gd gf gb m:Nat)(kept:Int)(w:World)(h:CE w gd gf gb m kept) :Calls prog 225 #[.pointer (some ⟨gd,0,none⟩)] w λe w'=>e=.returned (.int .i64 (524288-m))∧Below w.heap.size w w':=by have KT:=qh (λW (h:CE W gd gf gb m kept)=>eG gd gf gb m kept W h);obtain⟨cf,a1,a2,a3⟩:=h.d;have HD:=qh a3;have HT:=qh h;have hm:=h.lim;clear h a3;go_in;go_upto_region 1 with(fail);have HB:=qh (Base.start w);obtain⟨HB,HD,HT⟩:=Ce (AP _ w) HB HD HT;refine EC [] 8 (λhSn=>?_);generalize w.drew=wd at HB HD HT hSn ⊢;simp only[List.replicate];refine Dl 0 ?_;refine BA 3 [] (λw hSw=>AZ (HD.bel hSw) 0) ?_;refine CS 4 ?_;refine BC 5 rfl (λK hK=>?_);go_simp;refine AY (KT.o _ (HT.bel hSn)) ?_;rintro w1 hb;have hSn:=AB hSn hb;clear hb;refine BJ hK ?_;clear hK;refine FD 6 ?_;refine DX ?_;obtain⟨HB,HD,HT⟩:=Ce hSn HB HD HT;clear hSn;go_wp2_with fail;go_ret;exact⟨Ik (IntWalk.i64_in _ (by omega)),HB.below⟩
theorem Ol(gd:Nat)(fs:Value)(w:World)(h:Holds w gd 125 (LM fs)) :Calls prog 195 #[.pointer (some ⟨gd,0,none⟩)] w λe w'=>e=.returned (.int .i64 0)∧Below w.heap.size w w':=by have d3:=AZ h 3;clear h;go_in;go_wp2_with fail;go_ret;exact⟨rfl,Below.refl _ _⟩
theorem known1(gd gf gb m:Nat)(kept:Int)(w:World)(h:CE w gd gf gb m kept) :Calls prog 194 #[.pointer (some ⟨gd,0,none⟩),.string O7] w λe w'=>e=.returned (.tuple #[.int .i64 0,.int .i64 0])∧Below w.heap.size w w':=by
 have KF:=qh (X4 gd gf gb m kept w h);obtain⟨⟨cf,a1,a2,a3⟩,_,_,_,_⟩:=h;have HD:=qh a3;clear a3;go_in;have d2:=AZ HD.o 2;go_wp2_with fail;refine KF.mono ?_;rintro e w1 ⟨rfl,hb⟩;have HB:=qh hb;clear hb d2;go_wp2_with fail
 go_ret2
 exact⟨rfl,HB.o⟩
theorem CO.some{w:World}{v:Value}{m:Nat}(h:CO w v m)(h1:1≤m):∃b off c bs,v=.slice (Option.some ⟨b,off,none⟩) m c∧m≤c∧c≤maxLen∧Bo w (Option.some ⟨b,off,none⟩) m bs:=by obtain⟨p,c,bs,rfl,_,h3,h4,h5⟩:=h;obtain⟨b,off,rfl,_,_⟩:=h5.2.2.2 h1;exact⟨b,off,c,bs,rfl,h3,h4,h5⟩
theorem AU.Z5{w:World}{v:Value}{g B m:Nat}{bs:List Nat}(h:AU w v (Option.some g) 5 1 m (Ah bs))(hb:∀x∈bs,x<256)(hg:B≤g)(hm:m≤281474976710656):Aw w B v m:=by obtain⟨⟨hl,h2⟩,hob⟩:=h;rw[BO,Nat.mul_one] at hl;refine⟨bs,hl,⟨hb,hm⟩,by rw[BO,hl,Nat.mul_one],h2.imp id λ⟨g',cap,cur,hv,_,r⟩=>⟨g',cap,cur,hv,?_,r⟩⟩;rw[hv] at hob;cases hob;exact hg
theorem XV(v:Value)(m:Nat)(w:World)(h:CO w v m)(h1:1≤m)(hm:m≤1000000) :Calls prog 56 #[v] w λe w'=>∃v',e=.returned v'∧Aw w' w.heap.size v' m∧Below w.heap.size w w':=by
 obtain⟨b,off,c,bs,rfl,hc,hcm,hb⟩:=h.some h1;have hl:=hb.len;have h256:=hb.2.2.1;have HS:=qh hb;have HO1:=qh (show AU (w.alloc (.cells #[] 5)) (.slice (Option.some ⟨w.heap.size,0,none⟩) 0 0) (Option.some w.heap.size) 5 1 0 [] from⟨World.ownsRow_lit (size:=1) w #[] 0 (Nat.zero_le _) (by unfold maxLen;omega) (by simp),rfl⟩);have ha:Below w.heap.size w (w.alloc (.cells #[] 5)):=by go_grown
 have HA:=qh ha;have hsz:=ha.size;clear hb ha h;have he:∀W:World,(binOp .eql 127 (.slice (Option.some ⟨b,off,none⟩) m c) (.slice none 0 0)).run prog W=.ok (.bool false) W:=λ_=>by kernel_rfl
 go_in;go_wp2_with (first|(at_builtin;refine aS (.int .u8 0) 1 1 HO1.o (Ah bs) (HS.reads.below HA.o) ?_ (EK _) (hl:=by rw[BO,hl,Nat.mul_one]) (hm0:=by omega);intro v2 ob2 w2 ho2 hob2 hm2));have H2:=qh ho2;have HB:=qh (HA.trans (hm2.below hsz (λk hk=>by cases hk;exact Nat.le_refl _)));have hg:∃g,ob2=Option.some g∧w.heap.size≤g:=by
  rcases hob2 with hc|⟨k,hk,hk2⟩
  ·exact⟨_,hc,Nat.le_refl _⟩
  ·exact⟨k,hk,by omega⟩
 obtain⟨g,rfl,hg⟩:=hg;clear ho2 hm2 hob2;go_ret;have h3:=H2.o;rw[Nat.zero_add,List.nil_append] at h3;exact⟨_,rfl,h3.Z5 h256 hg (by omega),HB.o⟩
theorem gJ(n:Nat)(w:World)(h1:1≤n)(hn:n≤1000000) :Calls prog 282 #[.slice none 0 0,.int .i64 n] w λe w'=>∃v g,e=.returned v∧AU w' v (Option.some g) 5 1 0 []∧w.heap.size≤g∧Below w.heap.size w w':=by
 obtain⟨i,hi0,hz,hsize,hby⟩:=info_parts (show (prog.info? 5).map (λi=>(i.zero,i.size,i.bytes))=Option.some (Option.some (.int .u8 0),1,1) by kernel_rfl);have hrun:=λty=>Lib.run_append_nil_zeros (P:=prog) w 127 3 ty 5 i (.int .u8 0) .i64 .i64 underlying127 underlying3 hi0 hz n h1 (by omega) (by omega) (by rw[hby];omega);have hge:=grownCap_ge w n 0 5;have hle:=grownCap_le_maxLen w n 0 5 (by unfold maxLen;omega);have HR:=qh hrun;clear hrun hi0 hz hsize hby;generalize grownCap w n 0 5=c at HR hge hle;have hb:Below w.heap.size w (w.drew.alloc (.cells (Builtin.zeroCells (Value.int .u8 0).cells n++Builtin.zeroCells (Value.int .u8 0).cells (c-n)) 5)):=(AP _ w).alloc (Nat.le_refl _) _;have hh:(w.drew.alloc (.cells (Builtin.zeroCells (Value.int .u8 0).cells n++Builtin.zeroCells (Value.int .u8 0).cells (c-n)) 5)).heap[w.heap.size]?=Option.some (.cells (Builtin.zeroCells (Value.int .u8 0).cells n++Builtin.zeroCells (Value.int .u8 0).cells (c-n)) 5 (0,0)):=by show (w.heap.push _)[w.heap.size]?=_;simp
 have hsz:(Builtin.zeroCells (Value.int .u8 0).cells n++Builtin.zeroCells (Value.int .u8 0).cells (c-n)).size=c:=by rw[Array.size_append,size_zeroCells,size_zeroCells,show (Value.int .u8 0).cells.size=1 from rfl];omega
 have HB:=qh (show AU _ (.slice (Option.some ⟨w.heap.size,0,none⟩) 0 c) (Option.some w.heap.size) 5 1 0 []∧_ from⟨⟨⟨rfl,.inr ⟨w.heap.size,c,_,rfl,Nat.zero_le _,hh,Nat.zero_le _,hle,by rw[hsz,Nat.mul_one],rfl⟩⟩,rfl⟩,hb⟩);clear hh hsz hb;unfold maxLen at hle;go_in;go_wp2_with (at_builtin;refine Lib.wpList_append_run _ rfl (.tmp 20) (.tmp 21) 127 3 rfl _ _ rfl rfl _ _ (HR.o _) ?_);go_ret;exact⟨_,_,rfl,HB.1,Nat.le_refl _,HB.2⟩
def Ju(w:World)(B:Nat)(v:Value)(n:Nat)(bs:List Nat):Prop:=∃g,AU w v (Option.some g) 5 1 n (Ah bs)∧B≤g
theorem Ju.next{w w':World}{B:Nat}{v':Value}{ob ob':Option Nat}{n:Nat}{bs:List Nat}(h:AU w' v' ob' 5 1 n (Ah bs))(ho:ob'=ob∨∃k,ob'=Option.some k∧w.heap.size≤k)(hB:B≤w.heap.size)(g:Nat)(hob:ob=Option.some g)(hg:B≤g):Ju w' B v' n bs:=by
 rcases ho with hc|⟨k,hk,hk2⟩
 ·subst hob hc;exact⟨g,h,hg⟩
 ·subst hk;exact⟨k,h,by omega⟩
theorem Um(gs:Nat)(v1 v2:Value)(m1 m2:Nat)(rest:List Value)(w:World)(hg:Holds w gs 127 (v1 :: v2 :: rest))(h1:CO w v1 m1)(h2:CO w v2 m2)(hv:v1=.slice none 0 0∨1≤m1)(hm1:m1≤400000)(hm2:1≤m2)(hm3:m2≤400000) :Calls prog 227 #[.slice (Option.some ⟨gs,0,none⟩) 2 2] w λe w'=>∃v,e=.returned v∧Aw w' w.heap.size v (m1+m2)∧Below w.heap.size w w':=by
 obtain⟨p1,c1,bs1,rfl,hn1,hc1,hcm1,hb1⟩:=h1;obtain⟨b2,off2,c2,bs2,rfl,hc2,hcm2,hb2⟩:=h2.some hm2;have hl1:=hb1.len;have hl2:=hb2.len;have h256:(∀x∈bs1,x<256)∧∀x∈bs2,x<256:=⟨hb1.2.2.1,hb2.2.2.1⟩;have H256:=qh h256;have HS1:=qh hb1;have HS2:=qh hb2;have KG:=qh (λW=>by have:=gJ (m1+m2) W (by omega) (by omega);push_cast at this;exact this);have hvv:(m1=0∧Value.slice p1 m1 c1=.slice none 0 0)∨1≤m1:=by
  rcases hv with h|h
  ·exact .inl ⟨by injection h,h⟩
  ·exact .inr h
 have HVV:=qh hvv;have HG:=qh hg;clear hb1 hb2 hv h2 hvv hg hn1 h256;go_in;go_wp2_with fail
 go_loop [11,3] (λvi vn=>∃i:Nat,vi=.int .i64 (i:Int)∧((i=0∧vn=.int .i64 0)∨(i=1∧vn=.int .i64 m1)∨(i=2∧vn=.int .i64 ((m1:Int)+m2)))) (λvi _=>2 - (intOf vi).toNat)
 case atStart=>exact⟨0,rfl,.inl ⟨rfl,rfl⟩⟩
 case round=>
  obtain⟨i,rfl,⟨rfl,rfl⟩|⟨rfl,rfl⟩|⟨rfl,rfl⟩⟩:=hrel
  ·have g0:=HG.cell 0;simp only[yA,yB] at g0;go_wp2_with fail
   go_round
   case rel=>exact⟨1,rfl,.inr (.inl ⟨rfl,by simp⟩)⟩
   case measure=>simp[intOf]
  ·have g1:=HG.cell 1;simp only[yA,yB] at g1;go_wp2_with fail
   go_round
   case rel=>exact⟨2,rfl,.inr (.inr ⟨rfl,rfl⟩)⟩
   case measure=>simp[intOf]
  ·go_wp2_with fail;refine(KG.o _).mono ?_;rintro e w1 ⟨v,g,rfl,ho,hg,hb⟩;have HB:=qh hb;have HO:=qh ho;have hs:=hb.size;clear hb ho;go_wp2_with fail;go_loopw [27,6] (λvi vn wr=>∃i:Nat,vi=.int .i64 (i:Int)∧Below w.heap.size w wr∧((i=0∧Ju wr w.heap.size vn 0 [])∨(i=1∧Ju wr w.heap.size vn m1 bs1)∨(i=2∧Ju wr w.heap.size vn (m1+m2) (bs1++bs2)))) (λvi _ _=>2 - (intOf vi).toNat);case atStart=>exact⟨0,rfl,HB.o,.inl ⟨rfl,g,HO.o,hg⟩⟩
   case round=>
    clear HB HO hg hs;obtain⟨i,rfl,hb,⟨rfl,g,ho,hg⟩|⟨rfl,g,ho,hg⟩|⟨rfl,g,ho,hg⟩⟩:=hrel
    ·have HB:=qh hb;have HO:=qh ho;have hs:=hb.size;have HGr:=qh (AC HG.o hb);clear hb ho;have g0:=AZ HGr.o 0;rcases HVV.o with⟨h0,hvn⟩|h1
     ·have HVN:=qh hvn;clear hvn;have H0:=qh (And.intro h0 (show bs1=[] from List.eq_nil_of_length_eq_zero (by omega)));clear h0;rw[HVN.o] at g0;go_wp2_with (first|(at_builtin;refine GG rfl (.tmp 31) (.tmp 32) 127 rfl 5 (.int .u8 0) 1 1 rfl (by kernel_rfl) _ _ 0 _ rfl HO.o rfl ?_));go_roundw;case rel=>exact⟨1,rfl,HB.o,.inr (.inl ⟨rfl,g,by rw[H0.1,H0.2];exact HO.o,hg⟩)⟩
      case measure=>simp[intOf]
     ·go_wp2_with (first|(at_builtin;refine aS (.int .u8 0) 1 1 HO.o (Ah bs1) (HS1.reads.below HB.o) ?_ (EK _) (hl:=by rw[BO,hl1,Nat.mul_one]) (hm0:=by omega);intro v2 ob2 w2 ho2 hob2 hm2));have H2:=qh (Ju.next (w:=wr) (n:=m1) (bs:=bs1) (by rw[Nat.zero_add,show Ah []=[] from rfl,List.nil_append] at ho2;exact ho2) hob2 hs g rfl hg);have HB2:=qh (HB.trans (hm2.below hs (λk hk=>by cases hk;exact hg)));clear ho2 hob2 hm2 g0;go_roundw;case rel=>exact⟨1,rfl,HB2.o,.inr (.inl ⟨rfl,H2.o⟩)⟩
      case measure=>simp[intOf]
    ·have HB:=qh hb;have HO:=qh ho;have hs:=hb.size;have HGr:=qh (AC HG.o hb);clear hb ho;have g1:=AZ HGr.o 1;go_wp2_with (first|(at_builtin;refine aS (.int .u8 0) 1 1 HO.o (Ah bs2) (HS2.reads.below HB.o) ?_ (EK _) (hl:=by rw[BO,hl2,Nat.mul_one]) (hm0:=by omega);intro v2 ob2 w2 ho2 hob2 hm2));have H2:=qh (Ju.next (w:=wr) (bs:=bs1++bs2) (by rw[show Ah (bs1++bs2)=Ah bs1++Ah bs2 from by simp[Ah]];exact ho2) hob2 hs g rfl hg);have HB2:=qh (HB.trans (hm2.below hs (λk hk=>by cases hk;exact hg)));clear ho2 hob2 hm2 g1;go_roundw;case rel=>exact⟨2,rfl,HB2.o,.inr (.inr ⟨rfl,H2.o⟩)⟩
     case measure=>simp[intOf]
    ·have HB:=qh hb;have HO:=qh ho;clear hb ho;go_wp2_with fail;go_ret;refine⟨_,rfl,HO.Z5 (λx hx=>?_) hg (by omega),HB.o⟩;rcases List.mem_append.1 hx with hx|hx
     ·exact H256.1 x hx
     ·exact H256.2 x hx
theorem U5(w:World):Calls prog 224 #[.string O7] w λe w'=>e=.returned (.bool true)∧Below w.heap.size w w':=by
 unfold O7;go_in;go_wp2_with fail
 go_loop [13] (λvi=>∃i:Nat,i≤7∧vi=.int .i64 (i:Int)) (λvi=>7 - (intOf vi).toNat)
 case atStart=>exact⟨0,by omega,rfl⟩
 case round=>
  obtain⟨i,hi,rfl⟩:=hrel;rcases(show i=0∨i=1∨i=2∨i=3∨i=4∨i=5∨i=6∨i=7 by omega) with rfl|rfl|rfl|rfl|rfl|rfl|rfl|rfl;iterate 7
   ·go_wp2_with fail
    go_round
    case rel=>exact⟨_,(by decide),rfl⟩
    case measure=>simp[intOf]
  ·go_wp2_with fail;go_ret;exact⟨rfl,Below.refl _ _⟩
theorem YQ(bs:Nat)(L:List Value)(hL:L.length=3)(h1:∀u∈L,u.oneCell'=true)(w:World)(h:Holds w bs 129 L) :Calls prog 226 #[.slice none 0 0,.int .i64 0,.slice (Option.some ⟨bs,0,none⟩) 1 1] w λe w'=>∃g c rest,e=.returned (.slice (Option.some ⟨g,0,none⟩) 1 c)∧1≤c∧c≤maxLen∧Holds w' g 129 (L++rest)∧w.heap.size≤g∧Below w.heap.size w w':=by
 have HH:=qh h;have H1:=qh h1;clear h h1;go_in;go_wp2_with (first|(at_builtin;refine aS (.agg #[.string ⟨#[]⟩,.slice none 0 0,.int .i64 0]) 3 48 (AU.nil _ _ _) L (HH.reads 0 L (λj v hv=>by rw[Nat.zero_add];exact hv)) ?_ H1.o (hl:=hL);intro v2 ob2 w2 ho2 hob2 hm2));rw[List.nil_append,Nat.zero_add] at ho2;obtain⟨g,c,rest,rfl,rfl,hc1,hc2,hh,hl⟩:=ho2.blk (by decide);have hg:w.heap.size≤g:=by
  rcases hob2 with hc|⟨k,hk,hk2⟩
  ·cases hc
  ·cases hk;exact hk2
 have HB:=qh (hm2.below (Nat.le_refl _) (λk hk=>by cases hk));have HR:=qh hh;clear ho2 hob2 hm2 hh;go_ret;exact⟨g,c,rest,rfl,hc1,hc2,HR.o,hg,HB.o⟩
theorem Aw.disk{w:World}{B:Nat}{p:Option Addr}{m c:Nat}(h:Aw w B (.slice p m c) m)(h1:1≤m):∃g bs rest,p=Option.some ⟨g,0,none⟩∧B≤g∧m≤c∧c≤maxLen∧bs.length=m∧(∀x∈bs,x<256)∧Holds w g 5 (Ah bs++rest):=by obtain⟨bs,hl,⟨h2,_⟩,ho⟩:=h;obtain⟨g,cap,rest,hv,hg,hh,hc,hm,_⟩:=UL ho (by omega);injection hv with e1 _ e2;subst e2;exact⟨g,bs,rest,e1,hg,hc,hm,hl,h2,hh⟩
theorem ZK(gd gf gb m len:Nat)(kept:Int)(v:Value)(w:World)(h:CE w gd gf gb m kept)(hv:CO w v len)(h1:1≤len)(hml:m+len≤100000) :Calls prog 165 #[.pointer (Option.some ⟨gd,0,none⟩),.string O7,v] w λe w'=>e=.returned (.int .i64 0)∧∃gb',CE w' gd gf gb' (m+len) kept∧w.heap.size≤gb'∧Touch gf w w':=by
 have KM:=qh (λW=>U5 W);have KR:=qh (λW (h:CE W gd gf gb m kept)=>iT gd gf gb m kept W h);have KF:=qh (λW (h:CE W gd gf gb m kept)=>X4 gd gf gb m kept W h);obtain⟨pa,pc,rfl⟩:=hv.shape;have HX:=qh h;have HP:=qh hv;have hl:=h.lim;have hne:=h.ne;have hlt:=h.lt;obtain⟨⟨cf,a1,a2,a3⟩,⟨cb,r,b1,b2,b3⟩,⟨bs,r2,e1,e2,e3⟩,_,_⟩:=h;have HD:=qh a3;have HF:=qh b3;have HB1:=qh (show CO w (.slice (Option.some ⟨gb,0,none⟩) m cb) m from⟨_,cb,bs,rfl,(λh=>by cases h),b1,b2,e1,by unfold maxLen at b2;omega,e2,λ_=>⟨gb,0,rfl,e3.lt,λi hi=>by
  rw[Nat.zero_add,e3.cell,List.getElem?_append_left (by rw[BO];omega),FX bs i (by omega)]⟩⟩)
 have KP:=qh (λW (h:Holds W gd 125 (LM (.slice (Option.some ⟨gf,0,none⟩) 1 cf)))=>Ol gd _ W h);have KC:=qh (λgs W (h:Holds W gs 127 [.slice (Option.some ⟨gb,0,none⟩) m cb,.slice pa len pc]) h1' h2'=>Um gs (.slice (Option.some ⟨gb,0,none⟩) m cb) (.slice pa len pc) m len [] W h h1' h2' (.inr hl.1) (by omega) h1 (by omega));have HBS:=qh (Base.start w);have hroom:¬(524288 - (m:Int))<(len:Int):=by omega
 clear a3 b3 e1 e2 e3;generalize hnm:O7=nm at HF KM KF HX ⊢;have HNM:=qh hnm;clear hnm;go_in;have d2:=AZ HD.o 2;go_wp2_with fail;refine AY (KM.o _) ?_;rintro w1 hb;obtain⟨HX,HD,HF,HB1,HP,HBS⟩:=Eh hb HX HD HF HB1 HP HBS;clear hb d2;go_wp2_with fail;refine AY (KR.o _ HX.o) ?_;rintro w2 hb;obtain⟨HX,HD,HF,HB1,HP,HBS⟩:=Eh hb HX HD HF HB1 HP HBS;clear hb;go_wp2_with fail;refine AY (KP.o _ HD.o) ?_;rintro w3 hb;obtain⟨HX,HD,HF,HB1,HP,HBS⟩:=Eh hb HX HD HF HB1 HP HBS;clear hb;go_wp2_with fail;refine AY (KF.o _ HX.o) ?_;rintro w4 hb;obtain⟨HX,HD,HF,HB1,HP,HBS⟩:=Eh hb HX HD HF HB1 HP HBS;clear hb;go_upto_region 13 with(fail);obtain⟨HX,HD,HF,HB1,HP,HBS⟩:=Eh (AP _ w4) HX HD HF HB1 HP HBS;refine EC [18] 19 (λhSn=>?_);generalize w4.drew=wd at HX HD HF HB1 HP HBS hSn ⊢;simp only[List.replicate];refine Dl 0 ?_;refine BA 3 [16,17,18] (λw hSw=>AZ (HD.bel hSw) 1) ?_;refine Gn 4 ?_;refine BA 8 [10,11,12,14,15,16,17,18] (λw hSw=>AZ (HD.bel hSw) 1) ?_;refine Dl 9 ?_;refine BA 12 [14,15,16,17,18] (λw hSw=>AZ (HF.bel hSw) 1) ?_;refine CS 13 ?_;refine BC 14 rfl (λK hK=>?_);go_simp;have hal:=λo=>Below.alloc hSn hSn.size o;refine hK.out _ _ (λ_=>hal _) ?_;have hSn:=hal (.cells ([.slice (Option.some ⟨gb,0,none⟩) m cb,.slice pa len pc]:List Value).toArray 127);have HG:=qh (show Holds (wd.alloc (.cells ([.slice (Option.some ⟨gb,0,none⟩) m cb,.slice pa len pc]:List Value).toArray 127)) wd.heap.size 127 [.slice (Option.some ⟨gb,0,none⟩) m cb,.slice pa len pc] from AA wd _ _);clear hal;generalize wd.alloc (.cells ([.slice (Option.some ⟨gb,0,none⟩) m cb,.slice pa len pc]:List Value).toArray 127)=wa at hSn HG ⊢;clear hK;try simp only[Act.put,zA,zB,zC]
 refine BC 15 rfl (λK hK=>?_);go_simp;refine(KC.o _ _ HG.o (HB1.below hSn) (HP.below hSn)).mono ?_;rintro e w9 ⟨v9,rfl,ho9,hb⟩;have hSn:=AB hSn hb;have HO:=qh (ho9.mono (B':=wd.heap.size) (by have:=HG.lt;omega));obtain⟨p9,c9,rfl⟩:=ho9.shape;clear ho9;clear hb;refine BJ hK ?_;clear hK;refine FD 16 ?_;refine BC 18 rfl (λK hK=>?_);refine tC 1 (HF.bel hSn) (.slice p9 (m+len:Nat) c9) ?_;intro w10 hh10 ht10;have HH:=qh hh10;have HT:=qh ht10;clear hh10 ht10;refine BJ hK ?_;clear hK;refine DX ?_;have hs3:=HBS.le;have hs4:=hSn.size;obtain⟨g9,bs9,r9,hp9,hg9,hc9,hcm9,hl9,h256,hh9⟩:=HO.disk (by omega);subst hp9;have hg9n:w.heap.size≤g9:=by omega
 have HD2:=qh ((HD.bel hSn).touch HT.o hne.1);have H9:=qh (hh9.touch HT.o (by omega));have HT2:=qh ((Touch.of_below (g:=gf) (HBS.bel hSn).below).trans HT.o);clear hSn hh9 HD HF HB1 HP HBS HX HG HO HT;go_wp2_with fail;go_ret;have hnm:=HNM.o;subst hnm;exact⟨rfl,g9,⟨⟨cf,a1,a2,HD2.o⟩,⟨c9,r,hc9,hcm9,by have:=HH.o;simpa using this⟩,⟨bs9,r9,hl9,h256,H9.o⟩,by omega,by omega⟩,hg9n,HT2.o⟩
theorem Aw.touch{w w':World}{B g:Nat}{v:Value}{n:Nat}(h:Aw w B v n)(ht:Touch g w w')(hg:g<B):Aw w' B v n:=by obtain⟨bs,h1,h2,h3,h4⟩:=h;exact⟨bs,h1,h2,h3,h4.imp id λ⟨b,cap,cur,e1,e2,hh,r⟩=>⟨b,cap,cur,e1,e2,(ht.block b (Array.getElem?_eq_some_iff.1 hh).1 (by omega)).trans hh,r⟩⟩
theorem ZJ(gd len B:Nat)(v:Value)(w:World)(h:EW w gd)(hv:Aw w B v len)(hB:gd<B)(h1:1≤len)(hml:len≤100000) :Calls prog 165 #[.pointer (Option.some ⟨gd,0,none⟩),.string O7,v] w λe w'=>e=.returned (.int .i64 0)∧∃gf gb,CE w' gd gf gb len 0∧w.heap.size≤gf∧w.heap.size≤gb∧Touch gd w w':=by
 have KM:=qh (λW=>U5 W);have KR:=qh (λW (h:EW W gd)=>iR gd W h);have KF:=qh (λW (h:EW W gd)=>aY gd O7 W h);obtain⟨pa,pc,rfl⟩:=hv.shape;have HD:=qh h;have HP:=qh hv;have hlt:=h.lt;have KP:=qh (λW (h:EW W gd)=>Ol gd _ W h);have KI:=qh (λbs W (h:Holds W bs 129 [.string O7,.slice none 0 0,.int .i64 0])=>YQ bs _ rfl (by simp[Value.oneCell']) W h);have KC:=qh (λgs W (h:Holds W gs 127 [.slice none 0 0,.slice pa len pc]) h1' h2'=>Um gs (.slice none 0 0) (.slice pa len pc) 0 len [] W h h1' h2' (.inl rfl) (by omega) h1 (by omega));have HBS:=qh (Base.start w);have hroom:¬(524288:Int)<(len:Int):=by omega
 clear h hv;generalize hnm:O7=nm at KI KM KF ⊢;have HNM:=qh hnm;clear hnm;go_in;have d2:=AZ HD.o 2;go_wp2_with fail;refine AY (KM.o _) ?_;rintro w1 hb;obtain⟨HD,HP,HBS⟩:=Ce hb HD HP HBS;clear hb d2;go_wp2_with fail;refine AY (KR.o _ HD.o) ?_;rintro w2 hb;obtain⟨HD,HP,HBS⟩:=Ce hb HD HP HBS;clear hb;go_wp2_with fail;refine AY (KP.o _ HD.o) ?_;rintro w3 hb;obtain⟨HD,HP,HBS⟩:=Ce hb HD HP HBS;clear hb;go_wp2_with fail;refine AY (KF.o _ HD.o) ?_;rintro w4 hb;obtain⟨HD,HP,HBS⟩:=Ce hb HD HP HBS;clear hb;have d1:=AZ HD.o 1;go_wp2_with fail;have HN:=qh (AA w4 129 [.string nm,.slice none 0 0,.int .i64 0]);have hal:Below w4.heap.size w4 (w4.alloc (.cells #[.string nm,.slice none 0 0,.int .i64 0] 129)):=by go_grown
 obtain⟨HD,HP,HBS⟩:=Ce hal HD HP HBS;have hs4:=HBS.le;clear hal d1;generalize w4.alloc (.cells #[.string nm,.slice none 0 0,.int .i64 0] 129)=w5 at HN HD HP HBS hs4 ⊢;generalize w4.heap.size=gn at HN ⊢;refine(KI.o _ _ HN.o).mono ?_;rintro e w6 ⟨gf,cf,r,rfl,hc1,hcm1,hf,hg1,hb⟩;obtain⟨HD,HP,HBS⟩:=Ce hb HD HP HBS;have HF:=qh hf;have hgf:w.heap.size≤gf:=by omega
 clear hb hf HN;go_wp2_with (first|(refine sC 1 HD.o (.slice (Option.some ⟨gf,0,none⟩) 1 cf) ?_;intro w7 hh7 ht7));have HD:=qh (show Holds w7 gd 125 (LM (.slice (Option.some ⟨gf,0,none⟩) 1 cf)) from hh7);have HF:=qh (show Holds w7 gf 129 (.string nm :: .slice none 0 0 :: .int .i64 0 :: r) from HF.touch ht7 (by omega));have HTg:=qh ((Touch.of_below (g:=gd) HBS.below).trans ht7);have HP:=qh (HP.touch ht7 hB);clear hh7 ht7 HBS;go_wp2_with fail;go_upto_region 13 with(fail);obtain⟨HD,HF,HP,HTg⟩:=D8 (AP _ w7) HD HF HP HTg;refine EC [18] 19 (λhSn=>?_);generalize w7.drew=wd at HD HF HP HTg hSn ⊢;simp only[List.replicate];refine Dl 0 ?_;refine BA 3 [16,17,18] (λw hSw=>AZ (HD.bel hSw) 1) ?_;refine Gn 4 ?_;refine BA 8 [10,11,12,14,15,16,17,18] (λw hSw=>AZ (HD.bel hSw) 1) ?_;refine Dl 9 ?_;refine BA 12 [14,15,16,17,18] (λw hSw=>AZ (HF.bel hSw) 1) ?_;refine CS 13 ?_;refine BC 14 rfl (λK hK=>?_);go_simp;have hal:=λo=>Below.alloc hSn hSn.size o;refine hK.out _ _ (λ_=>hal _) ?_;have hSn:=hal (.cells ([.slice none 0 0,.slice pa len pc]:List Value).toArray 127);have HG:=qh (show Holds (wd.alloc (.cells ([.slice none 0 0,.slice pa len pc]:List Value).toArray 127)) wd.heap.size 127 [.slice none 0 0,.slice pa len pc] from AA wd _ _);clear hal;generalize wd.alloc (.cells ([.slice none 0 0,.slice pa len pc]:List Value).toArray 127)=wa at hSn HG ⊢;clear hK;try simp only[Act.put,zA,zB,zC]
 refine BC 15 rfl (λK hK=>?_);go_simp;refine(KC.o _ _ HG.o (CO.nil _) (HP.Gj.below hSn)).mono ?_;rintro e w9 ⟨v9,rfl,ho9,hb⟩;have hSn:=AB hSn hb;have HO:=qh (ho9.mono (B':=wd.heap.size) (by have:=HG.lt;omega));obtain⟨p9,c9,rfl⟩:=ho9.shape;clear ho9;clear hb;refine BJ hK ?_;clear hK;refine FD 16 ?_;refine BC 18 rfl (λK hK=>?_);refine tC 1 (HF.bel hSn) (.slice p9 (0+len:Nat) c9) ?_;intro w10 hh10 ht10;have HH:=qh hh10;have HT:=qh ht10;clear hh10 ht10;refine BJ hK ?_;clear hK;refine DX ?_;have hs7:=HTg.size;have hs8:=hSn.size;have HTg:=Ci hSn HTg;obtain⟨g9,bs9,r9,hp9,hg9,hc9,hcm9,hl9,h256,hh9⟩:=HO.disk (by omega);subst hp9;have hg9n:w.heap.size≤g9:=by omega
 have hfl:=HF.lt;have HD2:=qh ((HD.bel hSn).touch HT.o (by omega));have H9:=qh (hh9.touch HT.o (by omega));have HT2:=qh (show Touch gd w w10 from⟨HT.os.trans HTg.os,HT.tape.trans HTg.tape,HT.output.trans HTg.output,by have:=HT.size;omega,λk hk hne=>(HT.block k (by omega) (by omega)).trans (HTg.block k hk hne)⟩);clear hSn hh9 HD HF HP HG HO HT HTg;go_wp2_with fail;go_ret;have hnm:=HNM.o;subst hnm;exact⟨rfl,gf,g9,⟨⟨cf,hc1,hcm1,HD2.o⟩,⟨c9,r,by omega,hcm9,by have:=HH.o;simpa using this⟩,⟨bs9,r9,by omega,h256,H9.o⟩,by omega,by omega⟩,hgf,hg9n,HT2.o⟩
theorem ai(gd gf gb m:Nat)(kept:Int)(w:World)(h:CE w gd gf gb m kept) :Calls prog 111 #[.pointer (some ⟨gd,0,none⟩),.string O7] w λe w'=>e=.returned (.int .i64 0)∧CE w' gd gf gb m m∧Touch gf w w':=by have KN:=qh (λW (h:CE W gd gf gb m kept)=>known1 gd gf gb m kept W h);have HX:=qh h;have hl:=h.lim;have hne:=h.ne;have hlt:=h.lt;obtain⟨⟨cf,a1,a2,a3⟩,⟨cb,r,b1,b2,b3⟩,⟨bs,r2,e1,e2,e3⟩,_,_⟩:=h;have HD:=qh a3;have HF:=qh b3;have HC:=qh e3;have KP:=qh (λW (h:Holds W gd 125 (LM (.slice (some ⟨gf,0,none⟩) 1 cf)))=>Ol gd _ W h);have HT:=qh (Touch.refl gf w);clear a3 b3 e3;generalize hnm:O7=nm at HF KN ⊢;have HNM:=qh hnm;clear hnm;go_in;go_wp2_with fail;refine AY (KN.o _ HX.o) ?_;rintro w1 hb;obtain⟨HD,HF,HC,HT⟩:=D8 hb HD HF HC HT;clear hb HX;go_wp2_with fail;refine AY (KP.o _ HD.o) ?_;rintro w2 hb;obtain⟨HD,HF,HC,HT⟩:=D8 hb HD HF HC HT;clear hb;go_wp2_with fail;go_upto_region 5 with(fail);obtain⟨HD,HF,HC,HT⟩:=D8 (AP _ w2) HD HF HC HT;refine EC [16] 17 (λhSn=>?_);generalize w2.drew=wd at HD HF HC HT hSn ⊢;simp only[List.replicate];refine Dl 0 ?_;refine BA 3 [14,15,16] (λw hSw=>AZ (HD.bel hSw) 1) ?_;refine Gn 4 ?_;refine BA 8 [10,11,12,13,14,15,16] (λw hSw=>AZ (HD.bel hSw) 1) ?_;refine Dl 9 ?_;refine BA 12 [13,14,15,16] (λw hSw=>AZ (HF.bel hSw) 1) ?_;refine Dl 13 ?_;refine BC 16 rfl (λK hK=>?_);refine tC 2 (HF.bel hSn) (.int .i64 m) ?_;intro w5 hh5 ht5;have HH:=qh hh5;have HT5:=qh ht5;clear hh5 ht5;refine BJ hK ?_;clear hK;refine DX ?_;have HD2:=qh ((HD.bel hSn).touch HT5.o hne.1);have HC2:=qh ((HC.bel hSn).touch HT5.o (Ne.symm hne.2.2));have HT2:=qh ((HT.bel hSn).trans HT5.o);clear hSn HD HF HC HT HT5;go_wp2_with fail;go_ret;have hnm:=HNM.o;subst hnm;exact⟨rfl,⟨⟨cf,a1,a2,HD2.o⟩,⟨cb,r,b1,b2,by have:=HH.o;simpa using this⟩,⟨bs,r2,e1,e2,HC2.o⟩,hne,hl⟩,HT2.o⟩
theorem iP(gd:Nat)(s:ByteArray)(w:World)(h:EW w gd) :Calls prog 103 #[.pointer (some ⟨gd,0,none⟩),.string s] w λe w'=>e=.returned (.tuple #[.slice none 0 0,.bool false])∧Below w.heap.size w w':=by
 have KF:=qh (aY gd s w h);clear h;go_in;go_wp2_with fail;refine KF.mono ?_;rintro e w1 ⟨rfl,hb⟩;have HB:=qh hb;clear hb;go_wp2_with fail
 go_ret2
 exact⟨rfl,HB.o⟩
theorem iQ(gd gf gb m:Nat)(kept:Int)(w:World)(h:CE w gd gf gb m kept) :Calls prog 103 #[.pointer (some ⟨gd,0,none⟩),.string O7] w λe w'=>∃p c,e=.returned (.tuple #[.slice p m c,.bool true])∧Below w.heap.size w w':=by
 have KF:=qh (X4 gd gf gb m kept w h);have hl:=h.lim;have hlt:=h.lt;obtain⟨⟨cf,a1,a2,a3⟩,⟨cb,r,b1,b2,b3⟩,⟨bs,r2,e1,e2,e3⟩,_,_⟩:=h;have HD:=qh a3;have HF:=qh b3;have HB1:=qh (show CO w (.slice (some ⟨gb,0,none⟩) m cb) m from⟨_,cb,bs,rfl,(λh=>by cases h),b1,b2,e1,by unfold maxLen at b2;omega,e2,λ_=>⟨gb,0,rfl,e3.lt,λi hi=>by
  rw[Nat.zero_add,e3.cell,List.getElem?_append_left (by rw[BO];omega),FX bs i (by omega)]⟩⟩)
 have KC:=qh (λW (h:CO W (.slice (some ⟨gb,0,none⟩) m cb) m)=>XV _ m W h hl.1 (by omega));have HBS:=qh (Base.start w);clear a3 b3 e1 e2 e3;go_in;go_wp2_with fail;refine KF.mono ?_;rintro e w1 ⟨rfl,hb⟩;obtain⟨HD,HF,HB1,HBS⟩:=D8 hb HD HF HB1 HBS;clear hb KF;have d1:=AZ HD.o 1;have f1:=AZ HF.o 1;go_wp2_with fail;refine(KC.o _ HB1.o).mono ?_;rintro e w2 ⟨v,rfl,ho,hb⟩;obtain⟨p,c,rfl⟩:=ho.shape;have HBS:=Ci hb HBS;clear hb ho d1 f1;go_wp2_with fail
 go_ret2
 exact⟨p,c,rfl,HBS.below⟩
end Go.Proofs.YtimdpiifpibgfaaGreatDoor
