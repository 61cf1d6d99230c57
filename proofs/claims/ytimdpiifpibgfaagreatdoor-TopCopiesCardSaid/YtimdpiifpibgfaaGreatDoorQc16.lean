/- A part of the proof that the law TopCopies returns true for every input. -/
import Derived.Test.YtimdpiifpibgfaaGreatDoorQc15
set_option linter.all false
set_option maxRecDepth 20000
set_option maxHeartbeats 16000000
open Go.RowKit
namespace Go.Proofs.YtimdpiifpibgfaaGreatDoor
open Tryz
theorem Vq(v:Value)(ob:Option Nat)(l:List Pr)(w:World)(h:AV w v ob l) :Calls prog 228 #[v] w λe w'=>(∃r:Bool,e=.returned (.bool r))∧Below w.heap.size w w':=by
 obtain⟨p,c,rfl,hlc,hcm,_,hr⟩:=h.rows;have HV:=qh hr;have hm:l.length≤maxLen:=hr.1;unfold maxLen at hm;clear hr h hlc hcm;by_cases h32:32<(l.length:Int)
 ·go_enter func228,ntmps228
  go_wp2_with fail;exact bodyPost_ret (v:=.bool false) (by simp[results,results228,go_sem]) rfl ⟨⟨_,rfl⟩,by go_grown⟩
 go_enter func228,ntmps228
 go_wp2_with fail;go_loopw [3,5,11] (λs _ i wr=>∃k:Nat,k≤l.length∧i=.int .i64 k∧(∃t:ByteArray,s=.string t)∧Below w.heap.size w wr) (λ_ _ i _=>l.length - (intOf i).toNat);case atStart=>exact⟨0,by omega,rfl,⟨_,rfl⟩,by go_grown⟩
 case round=>
  obtain⟨k,hk,rfl,⟨t,rfl⟩,hb⟩:=hrel;have HB:=qh hb;clear hb;by_cases h1:k<l.length
  ·obtain⟨b,off,rfl,hlt⟩:=HV.spot (by omega);have HR:=qh (show wr.rangeAt b (off+k*3) (l.getD k .zero).cells from HV.range HB.o h1);obtain⟨q,hq⟩:∃q,q=l.getD k .zero:=⟨_,rfl⟩;rw[←hq] at HR;clear hq;go_upto_region 7 with(first|(refine lM (off+k*3) (HR.o) ?_)|(refine Ai rfl 69 _ _ rfl rfl _ _ q.cells.toArray rfl rfl (by kernel_rfl) (by kernel_rfl) (Pr.one' _) ?_));go_name_world W hW;have hbx:Holds W wr.heap.size 69 q.cells:=by rw[←hW];exact AA wr _ _
   have hB:Below w.heap.size w W:=by rw[←hW];exact HB.alloc HB.size _
   clear hW HB HR;have HB:=qh hB;clear hB;obtain⟨b0,b1,b2⟩:=Xg hbx 0 1 2;clear hbx;have hcase:(Op.bytesLess q.k.toList t.toList=true)∨(Op.bytesLess q.k.toList t.toList=false∧q.k.toList=t.toList)∨((Op.bytesLess q.k.toList t.toList=false∧(q.k.toList==t.toList)=false∧¬q.k.toList=t.toList)∧((16:Int)<q.k.size∨(¬(16:Int)<q.k.size∧(64:Int)<q.v.size)∨(¬(16:Int)<q.k.size∧¬(64:Int)<q.v.size∧q.n<1)∨(¬(16:Int)<q.k.size∧¬(64:Int)<q.v.size∧¬q.n<1))):=by
    by_cases y1:Op.bytesLess q.k.toList t.toList=true
    ·exact Or.inl y1
    ·have y1:Op.bytesLess q.k.toList t.toList=false:=by simpa using y1
     by_cases y2:q.k.toList=t.toList
     ·exact Or.inr (Or.inl ⟨y1,y2⟩)
     ·refine Or.inr (Or.inr ⟨⟨y1,by simpa using y2,y2⟩,?_⟩);by_cases x1:(16:Int)<q.k.size<;>by_cases x2:(64:Int)<q.v.size<;>by_cases x3:q.n<1<;>simp[x1,x2,x3]
   rcases hcase with y1|⟨y1,y2⟩|⟨⟨y1,y2,y3⟩,x1|⟨x1,x2⟩|⟨x1,x2,x3⟩|⟨x1,x2,x3⟩⟩
   case' inr.inr.inr.inr.inr=>
    go_wp2_with fail;go_roundw;case rel=>exact⟨k+1,by omega,by go_num,⟨_,rfl⟩,HB.o⟩
    case measure=>simp[intOf];omega
   all_goals
    go_wp2_with fail;exact bodyPost_ret (v:=.bool false) (by simp[results,results228,go_sem]) rfl ⟨by simp,HB.o⟩
  ·obtain rfl:k=l.length:=by omega
   go_wp2_with fail;exact bodyPost_ret (v:=.bool true) (by simp[results,results228,go_sem]) rfl ⟨⟨_,rfl⟩,HB.o⟩
theorem iD(v:Value)(ob:Option Nat)(r:Rep)(w:World)(h:AV w v ob r.ps) :Calls prog 284 #[.agg (BF r v).toArray] w λe w'=>(∃r:Bool,e=.returned (.bool r))∧Below w.heap.size w w':=by
 obtain⟨ry,rf,rv,rn,l⟩:=r;simp only at h;obtain⟨p,c,rfl,hlc,hcm,_,hr⟩:=h.rows;have hm:l.length≤maxLen:=hr.1;unfold maxLen at hm;clear hr h hlc hcm;have HB:=qh (Base.start w)
 go_enter func284,ntmps284
 go_upto_region 1 with(fail);go_name_world W hW;have hW:BR w [.cells (BF ⟨ry,rf,rv,rn,l⟩ (.slice p l.length c):List Value).toArray 53]=W:=hW;have HX:=qh (show Holds W (w.heap.size) 53 (BF ⟨ry,rf,rv,rn,l⟩ (.slice p l.length c)) from AX _ hW 0 rfl);have hbW:=Ae _ hW;clear hW;have HB:=ET hbW HB;clear hbW;generalize hx0:w.heap.size=gX at HX HB ⊢;obtain⟨b0,b1,b2,b3,b4⟩:=MG HX.o 0 1 2 3 4;clear HX;have hcase:¬ry=0∨(ry=0∧rf=true)∨(ry=0∧rf=false∧¬rv.toList=[])∨(ry=0∧rf=false∧rv.toList=[]∧¬rn=0)∨(ry=0∧rf=false∧rv.toList=[]∧rn=0):=by by_cases x1:ry=0<;>by_cases x2:rn=0<;>by_cases x3:rv.toList=[]<;>cases rf<;>simp[x1,x2,x3]
 rcases hcase with x1|⟨rfl,rfl⟩|⟨rfl,rfl,x3⟩|⟨rfl,rfl,x3,x4⟩|⟨rfl,rfl,x3,rfl⟩;all_goals
  go_wp2_with fail;exact bodyPost_ret (v:=.bool _) (by simp[results,results284,go_sem];rfl) rfl ⟨by first|exact⟨_,rfl⟩|(simp;done)|(simp;exact(Classical.em _).symm),hx0▸HB.below⟩
theorem bP(v:Value)(ob:Option Nat)(r:Rep)(w:World)(h:AV w v ob r.ps) :Calls prog 283 #[.agg (BF r v).toArray] w λe w'=>(∃r:Bool,e=.returned (.bool r))∧Below w.heap.size w w':=by
 obtain⟨ry,rf,rv,rn,l⟩:=r;simp only at h;obtain⟨p,c,rfl,hlc,hcm,_,hr⟩:=h.rows;have hm:l.length≤maxLen:=hr.1;unfold maxLen at hm;have HA:=qh h;clear hr h hlc hcm;have HB:=qh (Base.start w);have KR:=qh (λW h=>Vq (.slice p l.length c) ob l W h)
 go_enter func283,ntmps283
 go_upto_region 1 with(fail);go_name_world W hW;have hW:BR w [.cells (BF ⟨ry,rf,rv,rn,l⟩ (.slice p l.length c):List Value).toArray 53]=W:=hW;have HX:=qh (show Holds W (w.heap.size) 53 (BF ⟨ry,rf,rv,rn,l⟩ (.slice p l.length c)) from AX _ hW 0 rfl);have hbW:=Ae _ hW;clear hW;obtain⟨HB,HA⟩:=DC hbW HB HA;clear hbW;generalize hx0:w.heap.size=gX at HX HB ⊢;obtain⟨b0,b1,b2,b3,b4⟩:=MG HX.o 0 1 2 3 4;clear HX;have hcase:(¬ry=0∧¬ry=7)∨((ry=0∨(¬ry=0∧ry=7))∧(¬(rv.size:Int)≤64∨((rv.size:Int)≤64∧¬0≤rn)∨((rv.size:Int)≤64∧0≤rn∧¬(l.length:Int)≤8)∨((rv.size:Int)≤64∧0≤rn∧(l.length:Int)≤8))):=by omega
 rcases hcase with⟨x1,x2⟩|⟨x1|⟨x0,x1⟩,x3|⟨x3,x4⟩|⟨x3,x4,x5⟩|⟨x3,x4,x5⟩⟩;all_goals
  go_wp2_with fail;first
  | exact bodyPost_ret (v:=.bool _) (by simp[results,results283,go_sem];rfl) rfl ⟨by first|exact⟨_,rfl⟩|(simp;done)|(simp;exact(Classical.em _).symm),hx0▸HB.below⟩
  | exact bodyPost_ret (v:=.bool false) (by simp[results,results283,go_sem]) rfl ⟨by simp,HB.below⟩
  | exact bodyPost_ret (v:=.bool false) (by simp[results,results283,go_sem]) rfl ⟨by simp,hx0▸HB.below⟩
  | (refine(KR.o _ HA.o).mono ?_
     rintro e w1 ⟨⟨q,rfl⟩,hb⟩;have HB:=ET hb HB;clear hb b0 b1 b2 b3 b4 hW;go_wp2_with fail;exact bodyPost_ret (v:=.bool q) (by simp[results,results283,go_sem]) rfl ⟨by cases q<;>simp,by first|exact HB.below|exact hx0▸HB.below⟩)
theorem bM(o:Nat→Ow)(pv:Nat→Value)(pb:Nat→Option Nat)(w:World)(h:OwnAt w o pv pb) :Calls prog 229 #[.agg (Aq o pv).toArray] w λe w'=>(∃r:Bool,e=.returned (.bool r))∧Below w.heap.size w w':=by
 have KR:=qh (λk W h=>bP (pv k) (pb k) (o k).rep W h);have KZ:=qh (λk W h=>iD (pv k) (pb k) (o k).rep W h);have HOA:=qh h;have HB:=qh (Base.start w);clear h
 go_enter func229,ntmps229
 go_upto_region 1 with(fail);go_name_world W hW;have hW:BR w [.cells (Aq o pv:List Value).toArray 64]=W:=hW;have HX:=qh (show Holds W (w.heap.size) 64 (Aq o pv) from AX _ hW 0 rfl);have hbW:=Ae _ hW;obtain⟨HOA,HB⟩:=DC hbW HOA HB;clear hbW hW;generalize hx0:w.heap.size=gX at HX HB ⊢;have HXR:=qh (show W.rangeAt gX 0 (Aq o pv) from HX.AY);go_wp2_with (first|(refine lM 0 HXR.o ?_));clear HXR HX;go_loopw [4,6] (λ_ i wr=>∃k:Nat,k≤8∧i=.int .i64 k∧Below W.heap.size W wr) (λ_ i _=>8 - (intOf i).toNat);case atStart=>exact⟨0,by omega,rfl,by go_grown⟩
 case round=>
  obtain⟨k,hk,rfl,hb⟩:=hrel;obtain⟨HB,HOA⟩:=DC hb HB HOA;have HW:=qh hb;clear hb;by_cases h1:k<8
  ·have hix:=MX o pv k h1;obtain⟨L,hL⟩:∃L,L=(Aq o pv).toArray:=⟨_,rfl⟩;rw[←hL] at hix ⊢;clear hL;go_upto_region 4 with(first|(refine Ai rfl 63 _ _ rfl rfl _ _ (Gl (o k) (pv k)).toArray rfl rfl (by kernel_rfl) (by kernel_rfl) (Uw (HOA.o k h1).Bq) ?_));go_name_world V hV;have hbx:Holds V wr.heap.size 63 (Gl (o k) (pv k)):=by rw[←hV];exact AA wr _ _
   have hbV:Below wr.heap.size wr V:=by rw[←hV];exact(Below.refl _ _).alloc (Nat.le_refl _) _
   clear hV hix;have HB:=ET hbV HB;have HO:=qh ((HOA.o k h1).bel hbV);have HW:=qh (AB HW.o hbV);clear hbV HOA;generalize wr.heap.size=gI at hbx ⊢;have HX:=qh hbx;have c0:=hbx.cell 0;simp only[Gl,List.getElem?_cons_zero] at c0;have HR:=qh (show V.rangeAt gI 1 (BF (o k).rep (pv k)) from hbx.Ci 1 (λj v hv=>by rw[Nat.add_comm];exact hv));clear hbx;have KR:=qh (KR.o k);have KZ:=qh (KZ.o k);obtain⟨sq,hsq⟩:∃sq,(o k).seq=sq:=⟨_,rfl⟩;rw[hsq] at c0;have HSQ:=qh hsq;clear hsq;have hcase:sq<0∨(¬sq<0∧1099511627776<sq)∨(¬sq<0∧¬1099511627776<sq):=by omega
   rcases hcase with x1|⟨x1,x2⟩|⟨x1,x2⟩
   case' inr.inr=>
    go_wp2_with (first|(with_reducible refine lR 1 HR.o ?_));refine(KR.o _ HO.o).mono ?_;rintro e w1 ⟨⟨q,rfl⟩,hb⟩;obtain⟨HX,HO,HB⟩:=Du hb HX HO HB;have HW:=qh (AB HW.o hb);clear hb c0 HR;have c0:=HX.cell 0;simp only[Gl,List.getElem?_cons_zero] at c0;rw[HSQ.o] at c0;have HR:=qh (show w1.rangeAt gI 1 (BF (o k).rep (pv k)) from HX.Ci 1 (λj v hv=>by rw[Nat.add_comm];exact hv));cases q
    case' true=>
     by_cases x3:sq=0
     case' neg=>have x4:(sq==0)=false:=by simpa using x3
     case' pos=>subst x3;go_wp2_with (first|(with_reducible refine lR 1 HR.o ?_));refine(KZ.o _ HO.o).mono ?_;rintro e w2 ⟨⟨q,rfl⟩,hb⟩;have HB:=ET hb HB;have HW:=qh (AB HW.o hb);clear hb c0 HR;cases q
   all_goals
    go_wp2_with (first|(with_reducible refine lR 1 HR.o ?_));first
    | exact bodyPost_ret (v:=.bool false) (by simp[results,results229,go_sem]) rfl ⟨by simp,by first|exact HB.below|exact hx0▸HB.below⟩
    | (go_roundw
       case rel=>exact⟨k+1,by omega,by go_num,HW.o⟩
       case measure=>simp[intOf];omega)
  ·obtain rfl:k=8:=by omega
   go_wp2_with fail;exact bodyPost_ret (v:=.bool true) (by simp[results,results229,go_sem]) rfl ⟨by simp,by first|exact HB.below|exact hx0▸HB.below⟩
theorem Vs(v:Value)(ob:Option Nat)(l:List Pr)(o:Nat→Ow)(pv:Nat→Value)(pb:Nat→Option Nat)(w:World)(h:AV w v ob l)(h2:OwnAt w o pv pb) :Calls prog 167 #[.agg (Es v o pv).toArray] w λe w'=>(∃r:Bool,e=.returned (.bool r))∧Below w.heap.size w w':=by
 have KR:=qh (λW h=>Vq v ob l W h);have KD:=qh (λW h=>bM o pv pb W h);have HP:=qh h;have HOA:=qh h2;have HB:=qh (Base.start w);obtain⟨p,n,c,rfl⟩:=h.Bq;clear h h2
 go_enter func167,ntmps167
 go_upto_region 1 with(fail);go_name_world W hW;have hW:BR w [.cells (Es (.slice p n c) o pv:List Value).toArray 66]=W:=hW;have HX:=qh (show Holds W (w.heap.size) 66 (Es (.slice p n c) o pv) from AX _ hW 0 rfl);have hbW:=Ae _ hW;obtain⟨HP,HOA,HB⟩:=Du hbW HP HOA HB;clear hbW hW;generalize hx0:w.heap.size=gX at HX HB ⊢;have b0:=HX.cell 0;simp only[Es,List.getElem?_cons_zero] at b0;go_wp2_with fail;refine(KR.o _ HP.o).mono ?_;rintro e w1 ⟨⟨q,rfl⟩,hb⟩;obtain⟨HX,HOA,HB⟩:=Du hb HX HOA HB;clear hb b0;have HXR:=qh (show w1.rangeAt gX 1 (Aq o pv) from HX.Ci 1 (λj v hv=>by rw[Nat.add_comm];exact hv));cases q
 ·go_wp2_with fail;exact bodyPost_ret (v:=.bool false) (by simp[results,results167,go_sem]) rfl ⟨by simp,by first|exact HB.below|exact hx0▸HB.below⟩
 ·go_wp2_with (first|(with_reducible refine lR 1 HXR.o ?_));refine(KD.o _ HOA.o).mono ?_;rintro e w2 ⟨⟨q,rfl⟩,hb⟩;have HB:=ET hb HB;clear hb HXR HX;go_wp2_with fail;exact bodyPost_ret (v:=.bool q) (by simp[results,results167,go_sem]) rfl ⟨by cases q<;>simp,by first|exact HB.below|exact hx0▸HB.below⟩
theorem BZ.bel{w w':World}{v:Value}{n:Nat}(h:BZ w v n)(hb:Below w.heap.size w w'):BZ w' v n:=h.below hb
instance {w w':World}{v:Value}{n:Nat}:Bl w w' (BZ w v n) (BZ w' v n):=⟨λhb h=>BZ.bel h hb⟩
theorem Aj.bel{w w':World}{B:Nat}{v:Value}{n:Nat}(h:Aj w B v n)(hb:Below w.heap.size w w'):Aj w' B v n:=h.below hb
instance {w w':World}{B:Nat}{v:Value}{n:Nat}:Bl w w' (Aj w B v n) (Aj w' B v n):=⟨λhb h=>Aj.bel h hb⟩
def IV(fs:Value):List Value:=[.int .i64 524288,fs,.bool false,.bool false,.int .i64 0]
abbrev FC(w:World)(gd:Nat):Prop:=Holds w gd 125 (IV (.slice none 0 0))
theorem YU(w:World) :Calls prog 44 #[.int .i64 524288] w λe w'=>e=.returned (.tuple #[.pointer (some ⟨w.heap.size,0,none⟩),.int .i64 0])∧FC w' w.heap.size∧Below w.heap.size w w':=by
 go_in;go_wp2_with fail
 go_ret2
 exact⟨rfl,AA w _ _,by go_grown⟩
theorem jD(gd:Nat)(s:ByteArray)(w:World)(h:FC w gd) :Calls prog 189 #[.pointer (some ⟨gd,0,none⟩),.string s] w λe w'=>e=.returned (.tuple #[.int .i64 0,.bool false])∧Below w.heap.size w w':=by
 have HD:=qh h;clear h;go_in;have d1:=Ag HD.o 1;go_wp2_with fail;go_loopw [13] (λvi wr=>vi=.int .i64 0∧wr=w) (λ_ _=>0);case atStart=>exact⟨rfl,rfl⟩
 case round=>
  obtain⟨rfl,rfl⟩:=hrel;go_wp2_with fail
  go_ret2
  exact⟨rfl,Below.refl _ _⟩
theorem O7(gd:Nat)(fs:Value)(w:World)(h:Holds w gd 125 (IV fs)) :Calls prog 195 #[.pointer (some ⟨gd,0,none⟩)] w λe w'=>e=.returned (.int .i64 0)∧Below w.heap.size w w':=by have d3:=Ag h 3;clear h;go_in;go_wp2_with fail;go_ret;exact⟨rfl,Below.refl _ _⟩
theorem BZ.some{w:World}{v:Value}{m:Nat}(h:BZ w v m)(h1:1≤m):∃b off c bs,v=.slice (Option.some ⟨b,off,none⟩) m c∧m≤c∧c≤maxLen∧BX w (Option.some ⟨b,off,none⟩) m bs:=by obtain⟨p,c,bs,rfl,_,h3,h4,h5⟩:=h;obtain⟨b,off,rfl,_,_⟩:=h5.2.2.2 h1;exact⟨b,off,c,bs,rfl,h3,h4,h5⟩
theorem AO.ag{w:World}{v:Value}{g B m:Nat}{bs:List Nat}(h:AO w v (Option.some g) 5 1 m (Aa bs))(hb:∀x∈bs,x<256)(hg:B≤g)(hm:m≤281474976710656):Aj w B v m:=by obtain⟨⟨hl,h2⟩,hob⟩:=h;rw[BI,Nat.mul_one] at hl;refine⟨bs,hl,⟨hb,hm⟩,by rw[BI,hl,Nat.mul_one],h2.imp id λ⟨g',cap,cur,hv,_,r⟩=>⟨g',cap,cur,hv,?_,r⟩⟩;rw[hv] at hob;cases hob;exact hg
theorem dY(v:Value)(m:Nat)(w:World)(h:BZ w v m)(h1:1≤m)(hm:m≤1000000) :Calls prog 56 #[v] w λe w'=>∃v',e=.returned v'∧Aj w' w.heap.size v' m∧Below w.heap.size w w':=by
 obtain⟨b,off,c,bs,rfl,hc,hcm,hb⟩:=h.some h1;have hl:=hb.len;have h256:=hb.2.2.1;have HS:=qh hb;have HO1:=qh (show AO (w.alloc (.cells #[] 5)) (.slice (Option.some ⟨w.heap.size,0,none⟩) 0 0) (Option.some w.heap.size) 5 1 0 [] from⟨World.ownsRow_lit (size:=1) w #[] 0 (Nat.zero_le _) (by unfold maxLen;omega) (by simp),rfl⟩);have ha:Below w.heap.size w (w.alloc (.cells #[] 5)):=by go_grown
 have HA:=qh ha;have hsz:=ha.size;clear hb ha h;have he:∀W:World,(binOp .eql 127 (.slice (Option.some ⟨b,off,none⟩) m c) (.slice none 0 0)).run prog W=.ok (.bool false) W:=λ_=>by kernel_rfl
 go_in;go_wp2_with (first|(at_builtin;refine aS (.int .u8 0) 1 1 HO1.o (Aa bs) (HS.reads.below HA.o) ?_ (DX _) (hl:=by rw[BI,hl,Nat.mul_one]) (hm0:=by omega);intro v2 ob2 w2 ho2 hob2 hm2));have H2:=qh ho2;have HB:=qh (HA.trans (hm2.below hsz (λk hk=>by cases hk;exact Nat.le_refl _)));have hg:∃g,ob2=Option.some g∧w.heap.size≤g:=by
  rcases hob2 with hc|⟨k,hk,hk2⟩
  ·exact⟨_,hc,Nat.le_refl _⟩
  ·exact⟨k,hk,by omega⟩
 obtain⟨g,rfl,hg⟩:=hg;clear ho2 hm2 hob2;go_ret;have h3:=H2.o;rw[Nat.zero_add,List.nil_append] at h3;exact⟨_,rfl,h3.ag h256 hg (by omega),HB.o⟩
theorem jF(n:Nat)(w:World)(h1:1≤n)(hn:n≤1000000) :Calls prog 282 #[.slice none 0 0,.int .i64 n] w λe w'=>∃v g,e=.returned v∧AO w' v (Option.some g) 5 1 0 []∧w.heap.size≤g∧Below w.heap.size w w':=by
 obtain⟨i,hi0,hz,hsize,hby⟩:=info_parts (show (prog.info? 5).map (λi=>(i.zero,i.size,i.bytes))=Option.some (Option.some (.int .u8 0),1,1) by kernel_rfl);have hrun:=λty=>Lib.run_append_nil_zeros (P:=prog) w 127 3 ty 5 i (.int .u8 0) .i64 .i64 underlying127 underlying3 hi0 hz n h1 (by omega) (by omega) (by rw[hby];omega);have hge:=grownCap_ge w n 0 5;have hle:=grownCap_le_maxLen w n 0 5 (by unfold maxLen;omega);have HR:=qh hrun;clear hrun hi0 hz hsize hby;generalize grownCap w n 0 5=c at HR hge hle;have hb:Below w.heap.size w (w.drew.alloc (.cells (Builtin.zeroCells (Value.int .u8 0).cells n++Builtin.zeroCells (Value.int .u8 0).cells (c-n)) 5)):=(AQ _ w).alloc (Nat.le_refl _) _;have hh:(w.drew.alloc (.cells (Builtin.zeroCells (Value.int .u8 0).cells n++Builtin.zeroCells (Value.int .u8 0).cells (c-n)) 5)).heap[w.heap.size]?=Option.some (.cells (Builtin.zeroCells (Value.int .u8 0).cells n++Builtin.zeroCells (Value.int .u8 0).cells (c-n)) 5 (0,0)):=by show (w.heap.push _)[w.heap.size]?=_;simp
 have hsz:(Builtin.zeroCells (Value.int .u8 0).cells n++Builtin.zeroCells (Value.int .u8 0).cells (c-n)).size=c:=by rw[Array.size_append,size_zeroCells,size_zeroCells,show (Value.int .u8 0).cells.size=1 from rfl];omega
 have HB:=qh (show AO _ (.slice (Option.some ⟨w.heap.size,0,none⟩) 0 c) (Option.some w.heap.size) 5 1 0 []∧_ from⟨⟨⟨rfl,.inr ⟨w.heap.size,c,_,rfl,Nat.zero_le _,hh,Nat.zero_le _,hle,by rw[hsz,Nat.mul_one],rfl⟩⟩,rfl⟩,hb⟩);clear hh hsz hb;unfold maxLen at hle;go_in;go_wp2_with (at_builtin;refine Lib.wpList_append_run _ rfl (.tmp 20) (.tmp 21) 127 3 rfl _ _ rfl rfl _ _ (HR.o _) ?_);go_ret;exact⟨_,_,rfl,HB.1,Nat.le_refl _,HB.2⟩
def Kq(w:World)(B:Nat)(v:Value)(n:Nat)(bs:List Nat):Prop:=∃g,AO w v (Option.some g) 5 1 n (Aa bs)∧B≤g
theorem Kq.next{w w':World}{B:Nat}{v':Value}{ob ob':Option Nat}{n:Nat}{bs:List Nat}(h:AO w' v' ob' 5 1 n (Aa bs))(ho:ob'=ob∨∃k,ob'=Option.some k∧w.heap.size≤k)(hB:B≤w.heap.size)(g:Nat)(hob:ob=Option.some g)(hg:B≤g):Kq w' B v' n bs:=by
 rcases ho with hc|⟨k,hk,hk2⟩
 ·subst hob hc;exact⟨g,h,hg⟩
 ·subst hk;exact⟨k,h,by omega⟩
theorem Zl(gs:Nat)(v1 v2:Value)(m1 m2:Nat)(rest:List Value)(w:World)(hg:Holds w gs 127 (v1 :: v2 :: rest))(h1:BZ w v1 m1)(h2:BZ w v2 m2)(hv:v1=.slice none 0 0∨1≤m1)(hm1:m1≤400000)(hm2:1≤m2)(hm3:m2≤400000) :Calls prog 227 #[.slice (Option.some ⟨gs,0,none⟩) 2 2] w λe w'=>∃v,e=.returned v∧Aj w' w.heap.size v (m1+m2)∧Below w.heap.size w w':=by
 obtain⟨p1,c1,bs1,rfl,hn1,hc1,hcm1,hb1⟩:=h1;obtain⟨b2,off2,c2,bs2,rfl,hc2,hcm2,hb2⟩:=h2.some hm2;have hl1:=hb1.len;have hl2:=hb2.len;have h256:(∀x∈bs1,x<256)∧∀x∈bs2,x<256:=⟨hb1.2.2.1,hb2.2.2.1⟩;have H256:=qh h256;have HS1:=qh hb1;have HS2:=qh hb2;have KG:=qh (λW=>by have:=jF (m1+m2) W (by omega) (by omega);push_cast at this;exact this);have hvv:(m1=0∧Value.slice p1 m1 c1=.slice none 0 0)∨1≤m1:=by
  rcases hv with h|h
  ·exact .inl ⟨by injection h,h⟩
  ·exact .inr h
 have HVV:=qh hvv;have HG:=qh hg;clear hb1 hb2 hv h2 hvv hg hn1 h256;go_in;go_wp2_with fail
 go_loop [11,3] (λvi vn=>∃i:Nat,vi=.int .i64 (i:Int)∧((i=0∧vn=.int .i64 0)∨(i=1∧vn=.int .i64 m1)∨(i=2∧vn=.int .i64 ((m1:Int)+m2)))) (λvi _=>2 - (intOf vi).toNat)
 case atStart=>exact⟨0,rfl,.inl ⟨rfl,rfl⟩⟩
 case round=>
  obtain⟨i,rfl,⟨rfl,rfl⟩|⟨rfl,rfl⟩|⟨rfl,rfl⟩⟩:=hrel
  ·have g0:=HG.cell 0;simp only[yA,yB] at g0;go_wp2_with fail
   go_round
   case rel=>exact⟨1,rfl,.inr (.inl ⟨rfl,by simp⟩)⟩
   case measure=>simp[intOf]
  ·have g1:=HG.cell 1;simp only[yA,yB] at g1;go_wp2_with fail
   go_round
   case rel=>exact⟨2,rfl,.inr (.inr ⟨rfl,rfl⟩)⟩
   case measure=>simp[intOf]
  ·go_wp2_with fail;refine(KG.o _).mono ?_;rintro e w1 ⟨v,g,rfl,ho,hg,hb⟩;have HB:=qh hb;have HO:=qh ho;have hs:=hb.size;clear hb ho;go_wp2_with fail;go_loopw [27,6] (λvi vn wr=>∃i:Nat,vi=.int .i64 (i:Int)∧Below w.heap.size w wr∧((i=0∧Kq wr w.heap.size vn 0 [])∨(i=1∧Kq wr w.heap.size vn m1 bs1)∨(i=2∧Kq wr w.heap.size vn (m1+m2) (bs1++bs2)))) (λvi _ _=>2 - (intOf vi).toNat);case atStart=>exact⟨0,rfl,HB.o,.inl ⟨rfl,g,HO.o,hg⟩⟩
   case round=>
    clear HB HO hg hs;obtain⟨i,rfl,hb,⟨rfl,g,ho,hg⟩|⟨rfl,g,ho,hg⟩|⟨rfl,g,ho,hg⟩⟩:=hrel
    ·have HB:=qh hb;have HO:=qh ho;have hs:=hb.size;have HGr:=qh (AC HG.o hb);clear hb ho;have g0:=Ag HGr.o 0;rcases HVV.o with⟨h0,hvn⟩|h1
     ·have HVN:=qh hvn;clear hvn;have H0:=qh (And.intro h0 (show bs1=[] from List.eq_nil_of_length_eq_zero (by omega)));clear h0;rw[HVN.o] at g0;go_wp2_with (first|(at_builtin;refine EF rfl (.tmp 31) (.tmp 32) 127 rfl 5 (.int .u8 0) 1 1 rfl (by kernel_rfl) _ _ 0 _ rfl HO.o rfl ?_));go_roundw;case rel=>exact⟨1,rfl,HB.o,.inr (.inl ⟨rfl,g,by rw[H0.1,H0.2];exact HO.o,hg⟩)⟩
      case measure=>simp[intOf]
     ·go_wp2_with (first|(at_builtin;refine aS (.int .u8 0) 1 1 HO.o (Aa bs1) (HS1.reads.below HB.o) ?_ (DX _) (hl:=by rw[BI,hl1,Nat.mul_one]) (hm0:=by omega);intro v2 ob2 w2 ho2 hob2 hm2));have H2:=qh (Kq.next (w:=wr) (n:=m1) (bs:=bs1) (by rw[Nat.zero_add,show Aa []=[] from rfl,List.nil_append] at ho2;exact ho2) hob2 hs g rfl hg);have HB2:=qh (HB.trans (hm2.below hs (λk hk=>by cases hk;exact hg)));clear ho2 hob2 hm2 g0;go_roundw;case rel=>exact⟨1,rfl,HB2.o,.inr (.inl ⟨rfl,H2.o⟩)⟩
      case measure=>simp[intOf]
    ·have HB:=qh hb;have HO:=qh ho;have hs:=hb.size;have HGr:=qh (AC HG.o hb);clear hb ho;have g1:=Ag HGr.o 1;go_wp2_with (first|(at_builtin;refine aS (.int .u8 0) 1 1 HO.o (Aa bs2) (HS2.reads.below HB.o) ?_ (DX _) (hl:=by rw[BI,hl2,Nat.mul_one]) (hm0:=by omega);intro v2 ob2 w2 ho2 hob2 hm2));have H2:=qh (Kq.next (w:=wr) (bs:=bs1++bs2) (by rw[show Aa (bs1++bs2)=Aa bs1++Aa bs2 from by simp[Aa]];exact ho2) hob2 hs g rfl hg);have HB2:=qh (HB.trans (hm2.below hs (λk hk=>by cases hk;exact hg)));clear ho2 hob2 hm2 g1;go_roundw;case rel=>exact⟨2,rfl,HB2.o,.inr (.inr ⟨rfl,H2.o⟩)⟩
     case measure=>simp[intOf]
    ·have HB:=qh hb;have HO:=qh ho;clear hb ho;go_wp2_with fail;go_ret;refine⟨_,rfl,HO.ag (λx hx=>?_) hg (by omega),HB.o⟩;rcases List.mem_append.1 hx with hx|hx
     ·exact H256.1 x hx
     ·exact H256.2 x hx
theorem Aj.nil(w:World)(B:Nat):Aj w B (.slice none 0 0) 0:=⟨[],rfl,⟨λx hx=>(by cases hx),by omega⟩,rfl,.inl ⟨rfl,rfl⟩⟩
theorem Vt(v vl:Value)(len m:Nat)(ob:Option Nat)(l:List Pr)(w:World)(h:BZ w v len)(hl:len≤100000)(hp:AV w vl ob l)(hn:l.length≤40)(hm:m≤1000000)(hk:∀p∈l,IQ m p) :Calls prog 230 #[v,vl] w λe w'=>∃v' k,e=.returned v'∧len+1≤k∧k≤len+10+l.length*158∧Aj w' w.heap.size v' k∧Below w.heap.size w w':=by
 have KN:=qh (λv len n W (h:BZ W v len) (hl:len≤1000000)=>Ej v len n W h hl);have KT:=qh (λv len t W (h:BZ W v len) (hl:len≤1000000)=>Mc v len t W h hl);obtain⟨p,c,rfl,hlc,hcm,_,hr⟩:=hp.rows;obtain⟨pv,cv,rfl⟩:=h.shape;have HV:=qh hr;have HO:=qh h;have HK:=qh hk;clear hr hp hlc hcm h hk;go_in;go_wp2_with fail;refine(KN.o _ len _ _ HO.o (by omega) (by omega)).mono ?_;rintro e w1 ⟨v1,m1,rfl,lo1,hi1,ho1,hb⟩;have HV:=qh (HV.below hb);have HB:=qh hb;have HO:=qh ho1;clear hb ho1;go_wp2_with fail;have hsz1:=HB.size;go_loopw [13,0] (λi vb wr=>∃k x:Nat,k≤l.length∧i=.int .i64 k∧(len+1≤x∧x≤len+10+k*158)∧Aj wr w.heap.size vb x∧Base w1.heap.size w1 wr) (λi _ _=>l.length - (intOf i).toNat);case atStart=>exact⟨0,m1,by omega,rfl,by omega,HO.o,Base.start _⟩
 case round=>
  obtain⟨k,x,hk,rfl,hx,ho,hb⟩:=hrel;have HB1:=qh hb;have hszr:=hb.le;have HO:=qh ho;obtain⟨pb,cb,rfl⟩:=ho.shape;clear ho hb;by_cases h1:k<l.length
  ·obtain⟨b,off,rfl,hlt⟩:=HV.spot (by omega);have HR:=qh (show wr.rangeAt b (off+k*3) (l.getD k .zero).cells from HV.range HB1.below h1);have hq:IQ m (l.getD k .zero):=by rw[getD_at l k h1];exact HK.o _ (List.getElem_mem h1)
   obtain⟨hqk,hqv,hqn1,hqn2⟩:=hq;generalize l.getD k .zero=q at HR hqk hqv hqn1 hqn2;go_upto_region 5 with(first|(refine lM (off+k*3) HR.o ?_)|(refine Ai rfl 69 _ _ rfl rfl _ _ q.cells.toArray rfl rfl (by kernel_rfl) (by kernel_rfl) (Pr.one' _) ?_));go_name_world W hW;have HX:=qh (show Holds W wr.heap.size 69 q.cells by rw[←hW];exact AA wr _ _);have hbW:Below wr.heap.size wr W:=by rw[←hW];exact(Below.refl _ _).alloc (Nat.le_refl _) _
   obtain⟨HO,HB1⟩:=DC hbW HO HB1;have hszW:=hbW.size;have hszD:w.heap.size≤W.drew.heap.size:=by show w.heap.size≤W.heap.size;omega
   clear hW HR hbW;obtain⟨HX,HO,HB1⟩:=Du (AQ _ W) HX HO HB1;refine EQ [] 11 (λhSn=>?_);generalize W.drew=wd at HX HO HB1 hszD hSn ⊢;simp only[List.replicate];refine FT 0 ?_;refine BG 2 [] (λw hSw=>Ag (HX.bel hSw) 0) ?_;refine CS 4 ?_;refine BG 5 [] (λw hSw=>Ag (HX.bel hSw) 1) ?_;refine CS 7 ?_;refine BG 8 [] (λw hSw=>Ag (HX.bel hSw) 2) ?_;refine BH 3 rfl (λK hK=>?_);go_simp;refine(KT.o _ _ q.k _ HO.EI (by omega) (by omega)).mono ?_;rintro e w1 ⟨v1,m1,rfl,lo1,hi1,ho1,hb⟩;have hSn:=AB hSn hb;have HO1:=qh ho1;clear ho1;clear hb;refine BN hK ?_;clear hK;refine BH 6 rfl (λK hK=>?_);go_simp;refine(KT.o _ _ q.v _ HO1.EI (by omega) (by omega)).mono ?_;rintro e w2 ⟨v2,m2,rfl,lo2,hi2,ho2,hb⟩;have hSn:=AB hSn hb;have HO2:=qh ho2;have hs2:=hSn.size;clear ho2;clear hb;refine BN hK ?_;clear hK;refine BH 9 rfl (λK hK=>?_);go_simp;refine(KN.o _ _ q.n _ HO2.EI (by omega) (by omega)).mono ?_;rintro e w3 ⟨v3,m3,rfl,lo3,hi3,ho3,hb⟩;have hSn:=AB hSn hb;have HO3:=qh ho3;clear ho3;clear hb;refine BN hK ?_;clear hK;refine CS 10 ?_;refine Dl ?_;obtain⟨HX,HO,HB1⟩:=Du hSn HX HO HB1;clear hSn;go_wp2_with fail;go_roundw;case rel=>exact⟨k+1,m3,by omega,by go_num,by omega,HO3.mono (by omega),HB1.o⟩
   case measure=>simp[intOf];omega
  ·obtain rfl:k=l.length:=by omega
   go_wp2_with fail;go_ret;exact⟨_,x,rfl,by omega,by omega,HO.o,AB HB.o HB1.below⟩
def Xr(lim:Nat)(w:World)(e:Ending)(w':World):Prop:=∃v' k,e=.returned v'∧k≤lim∧Aj w' w.heap.size v' k∧Below w.heap.size w w'
theorem jg(v:Value)(ob:Option Nat)(S:St)(m:Nat)(pv:Nat→Value)(pb:Nat→Option Nat)(w:World)(h:AV w v ob S.ps)(h2:OwnAt w S.ow pv pb)(hf:S.Fine m)(hm:m≤30) :Calls prog 169 #[.agg (Es v S.ow pv).toArray] w (Xr 15800 w):=by
 obtain⟨l,o⟩:=S;simp only at h h2;have hll:l.length≤30:=by have:=hf.len;simp only at this;omega
 have hlp:∀p∈l,IQ m p:=hf.ps;have hlo:∀i,i<8→Qa m (o i):=hf.ow;have KR:=qh (λW h h2=>Vs v ob l o pv pb W h h2);have KP:=qh (λW h=>Vt (.slice none 0 0) v 0 m ob l W (BZ.nil W) (by omega) h (by omega) (by omega) hlp);have KQ:=qh (λk (hk:k<8) vb len W (hb:BZ W vb len) hl h=>Vt vb (pv k) len m (pb k) (o k).rep.ps W hb hl h (by have:=(hlo k hk).rep.len;omega) (by omega) (hlo k hk).rep.ps);have KN:=qh (λv len n W (h:BZ W v len) (hl:len≤1000000)=>Ej v len n W h hl);have KT:=qh (λv len t W (h:BZ W v len) (hl:len≤1000000)=>Mc v len t W h hl);have KF:=qh (λv len b W (h:BZ W v len) (hl:len≤1000000)=>QT v len b W h hl);have HLO:=qh hlo;have HP:=qh h;have HOA:=qh h2;have HB:=qh (Base.start w);obtain⟨p,n,c,rfl⟩:=h.Bq;generalize hQ:Xr 15800 w=Q;have HQ:=qh (show ∀e w',Xr 15800 w e w'→Q e w' from λe w' h=>hQ▸h);clear h h2 hQ hf hlp hlo;go_in;go_upto_region 1 with(fail);go_name_world W hW;have hW:BR w [.cells (Es (.slice p n c) o pv:List Value).toArray 66]=W:=hW;have HX:=qh (show Holds W (w.heap.size) 66 (Es (.slice p n c) o pv) from AX _ hW 0 rfl);have hbW:=Ae _ hW;obtain⟨HB,HP,HOA⟩:=Du hbW HB HP HOA;clear hW hbW;generalize hx0:w.heap.size=gX at HX HB HQ ⊢;have HXR:=qh HX.AY;go_wp2_with (first|(refine lM 0 HXR.o ?_));refine(KR.o _ HP.o HOA.o).mono ?_;rintro e w1 ⟨⟨r,rfl⟩,hb⟩;obtain⟨HX,HB,HP,HOA⟩:=Dy hb HX HB HP HOA;clear hb HXR;cases r
 ·go_wp2_with fail;exact HQ.o _ _ ⟨_,0,rfl,by omega,Aj.nil _ _,(by rw[hx0];exact HB.below)⟩
 ·have b0:=HX.cell 0;simp only[Es,List.getElem?_cons_zero] at b0;go_wp2_with fail;refine(KP.o _ HP.o).mono ?_;rintro e w2 ⟨v2,m2,rfl,lo2,hi2,ho2,hb⟩;have hge:=HB.le;obtain⟨HX,HB,HOA⟩:=Du hb HX HB HOA;have HO:=qh (ho2.mono hge);clear hb ho2 b0 HP;have HXR:=qh (show w2.rangeAt gX 1 (Aq o pv) from HX.Ci 1 (λj v hv=>by rw[Nat.add_comm];exact hv));go_wp2_with (first|(refine lM 1 HXR.o ?_));clear HXR HX;have hge2:=HB.le;go_loopw [15,3] (λi vb wr=>∃k x:Nat,k≤8∧i=.int .i64 k∧x≤4750+k*1379∧Aj wr gX vb x∧Base w2.heap.size w2 wr) (λi _ _=>8 - (intOf i).toNat);case atStart=>exact⟨0,m2,by omega,rfl,by omega,HO.o,Base.start _⟩
  case round=>
   obtain⟨k,x,hk,rfl,hx,ho,hb⟩:=hrel;have HO:=qh ho;have HB:=qh (HB.bel hb.below);have HOA:=qh (HOA.bel hb.below);have HW:=qh hb;obtain⟨pb2,cb2,rfl⟩:=ho.shape;clear ho hb;by_cases h1:k<8
   ·have hix:=MX o pv k h1;obtain⟨L,hL⟩:∃L,L=(Aq o pv).toArray:=⟨_,rfl⟩;rw[←hL] at hix ⊢;clear hL;have HQV:=qh (HLO.o k h1);have KQ:=qh (KQ.o k h1);have HOK:=qh (HOA.o k h1);have hone:=Uw (x:=o k) HOK.o.Bq;obtain⟨pp,pn,pc,hpv⟩:=HOK.o.Bq;generalize pb k=ob2 at KQ HOK;generalize hok:o k=x2 at hix HQV KQ HOK hone;generalize pv k=vk at hix KQ HOK hone hpv;subst hpv;clear hok;obtain⟨sq,⟨ry,rf,rv,rn,rl⟩⟩:=x2;obtain⟨⟨hq1,hq2⟩,⟨hy1,hy2⟩,hv1,⟨hn1,hn2⟩,hl1,_⟩:=HQV.o;simp only at hq1 hq2 hy1 hy2 hv1 hn1 hn2 hl1 KQ HOK;clear HQV;go_upto_region 7 with(first|(refine Ai rfl 63 _ _ rfl rfl _ _ (Gl ⟨sq,⟨ry,rf,rv,rn,rl⟩⟩ (.slice pp pn pc)).toArray rfl rfl (by kernel_rfl) (by kernel_rfl) hone ?_));go_name_world V hV;have HX:=qh (show Holds V wr.heap.size 63 (Gl ⟨sq,⟨ry,rf,rv,rn,rl⟩⟩ (.slice pp pn pc)) by rw[←hV];exact AA wr _ _);have hbV:Below wr.heap.size wr V:=by rw[←hV];exact(Below.refl _ _).alloc (Nat.le_refl _) _
    obtain⟨HO,HB,HOK,HW⟩:=Dy hbV HO HB HOK HW;clear hV hix hbV hone;generalize wr.heap.size=gI at HX ⊢;have b0:=HX.cell 0;simp only[Gl,List.getElem?_cons_zero] at b0;go_wp2_with fail;refine(KN.o _ _ _ _ HO.EI (by omega) (by omega)).mono ?_;rintro e w3 ⟨v3,m3,rfl,lo3,hi3,ho3,hb⟩;have hge3:=HB.le;obtain⟨HX,HB,HOK,HW⟩:=Dy hb HX HB HOK HW;have HO:=qh (ho3.mono hge3);clear hb ho3 b0;have b0:=HX.cell 0;simp only[Gl,List.getElem?_cons_zero] at b0;have HR:=qh (show w3.rangeAt gI 1 (BF ⟨ry,rf,rv,rn,rl⟩ (.slice pp pn pc)) from HX.Ci 1 (λj v hv=>by rw[Nat.add_comm];exact hv));by_cases h0:sq=0
    ·subst h0;go_wp2_with fail;go_roundw;case rel=>exact⟨k+1,m3,by omega,by go_num,by omega,HO.o,HW.o⟩
     case measure=>simp[intOf];omega
    ·have h0':(sq==0)=false:=by simpa using h0
     go_upto_region 10 with(first|(refine lM 1 HR.o ?_)|(refine Ai rfl 53 _ _ rfl rfl _ _ (BF ⟨ry,rf,rv,rn,rl⟩ (.slice pp pn pc)).toArray rfl rfl (by kernel_rfl) (by kernel_rfl) (by simp[BF,Value.oneCell']) ?_));go_name_world V hV;have HY:=qh (show Holds V w3.heap.size 53 (BF ⟨ry,rf,rv,rn,rl⟩ (.slice pp pn pc)) by rw[←hV];exact AA w3 _ _);have hbV:Below w3.heap.size w3 V:=by rw[←hV];exact(Below.refl _ _).alloc (Nat.le_refl _) _
     obtain⟨HO,HB,HOK,HW⟩:=Dy hbV HO HB HOK HW;clear hV HR hbV HX b0;generalize w3.heap.size=gJ at HY ⊢;have hgeD:gX≤V.drew.heap.size:=HB.le;obtain⟨HY,HO,HB,HOK,HW⟩:=Fq (AQ _ V) HY HO HB HOK HW;refine EQ [] 8 (λhSn=>?_);generalize V.drew=wd at HY HO HB HOK HW hgeD hSn ⊢;simp only[List.replicate];refine FT 0 ?_;refine BG 2 [] (λw hSw=>Ag (HY.bel hSw) 0) ?_;refine CS 4 ?_;refine BG 5 [] (λw hSw=>Ag (HY.bel hSw) 1) ?_;refine BH 3 rfl (λK hK=>?_);go_simp;refine(KN.o _ _ _ _ HO.EI (by omega) (by omega)).mono ?_;rintro e w4 ⟨v4,m4,rfl,lo4,hi4,ho4,hb⟩;have hSn:=AB hSn hb;have HO4:=qh ho4;have hs4:=hSn.size;clear ho4;clear hb;refine BN hK ?_;clear hK;refine BH 6 rfl (λK hK=>?_);go_simp;refine(KF.o _ _ _ _ HO4.EI (by omega)).mono ?_;rintro e w5 ⟨v5,rfl,ho5,hb⟩;have hSn:=AB hSn hb;have HO5:=qh (ho5.mono (Nat.le_trans hgeD hs4));clear ho5;clear hb;refine BN hK ?_;clear hK;refine CS 7 ?_;refine Dl ?_;obtain⟨HY,HO,HB,HOK,HW⟩:=Fq hSn HY HO HB HOK HW;clear hSn;have HO:=HO5;clear HO4 HO5 hgeD;go_upto_region 11 with(fail);have hgeD:gX≤w5.drew.heap.size:=HB.le;obtain⟨HY,HO,HB,HOK,HW⟩:=Fq (AQ _ w5) HY HO HB HOK HW;refine EQ [] 11 (λhSn=>?_);generalize w5.drew=wd at HY HO HB HOK HW hgeD hSn ⊢;simp only[List.replicate];refine FT 0 ?_;refine BG 2 [] (λw hSw=>Ag (HY.bel hSw) 2) ?_;refine CS 4 ?_;refine BG 5 [] (λw hSw=>Ag (HY.bel hSw) 3) ?_;refine CS 7 ?_;refine BG 8 [] (λw hSw=>Ag (HY.bel hSw) 4) ?_;refine BH 3 rfl (λK hK=>?_);go_simp;refine(KT.o _ _ rv _ HO.EI (by omega) (by omega)).mono ?_;rintro e w6 ⟨v6,m6,rfl,lo6,hi6,ho6,hb⟩;have hSn:=AB hSn hb;have HO6:=qh ho6;have HOK6:=qh (HOK.o.bel hb);clear ho6;clear hb;refine BN hK ?_;clear hK;refine BH 6 rfl (λK hK=>?_);go_simp;refine(KN.o _ _ _ _ HO6.EI (by omega) (by omega)).mono ?_;rintro e w7 ⟨v7,m7,rfl,lo7,hi7,ho7,hb⟩;have hSn:=AB hSn hb;have HO7:=qh ho7;have HOK7:=qh (HOK6.bel hb);have hs7:=hSn.size;clear ho7;clear hb;refine BN hK ?_;clear hK;refine BH 9 rfl (λK hK=>?_);go_simp;refine(KQ.o _ _ _ HO7.EI (by omega) HOK7.o).mono ?_;rintro e w8 ⟨v8,m8,rfl,lo8,hi8,ho8,hb⟩;have hSn:=AB hSn hb;have HO8:=qh (ho8.mono (Nat.le_trans hgeD hs7));clear ho8;clear hb;refine BN hK ?_;clear hK;refine CS 10 ?_;refine Dl ?_;obtain⟨HY,HO,HB,HOK,HW⟩:=Fq hSn HY HO HB HOK HW;clear hSn;go_wp2_with fail;go_roundw;case rel=>exact⟨k+1,m8,by omega,by go_num,by omega,HO8.o,HW.o⟩
     case measure=>simp[intOf];omega
   ·obtain rfl:k=8:=by omega
    go_wp2_with fail;exact HQ.o _ _ ⟨_,x,rfl,by omega,by rw[hx0];exact HO.o,by rw[hx0];exact HB.below⟩
end Go.Proofs.YtimdpiifpibgfaaGreatDoor
