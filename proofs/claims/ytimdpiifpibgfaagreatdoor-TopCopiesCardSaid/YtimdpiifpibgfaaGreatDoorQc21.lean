/- A part of the proof that the law TopCopies returns true for every input. -/
import Derived.Test.YtimdpiifpibgfaaGreatDoorQc17
import Derived.Test.YtimdpiifpibgfaaGreatDoorQc20
set_option linter.all false
set_option maxRecDepth 20000
set_option maxHeartbeats 16000000
open Go.RowKit
namespace Go.Proofs.YtimdpiifpibgfaaGreatDoor
open Tryz
def Fl.ob(x:Fl):Option Nat:=(Value.slice x.p x.n x.c).ownBlock
def Fg(w:World)(x:Fl):Prop:=∃bs:List Nat,AO w (.slice x.p x.n x.c) x.ob 5 1 x.n (Aa bs)∧(∀y∈bs,y<256)∧x.n≤100000∧(x.n=0→x.p=none∧x.c=0)
theorem Fg.bel{w w':World}{x:Fl}(h:Fg w x)(hb:Below w.heap.size w w'):Fg w' x:=by obtain⟨bs,h1,h2⟩:=h;exact⟨bs,h1.bel hb,h2⟩
instance {w w':World}{x:Fl}:Bl w w' (Fg w x) (Fg w' x):=⟨λhb h=>Fg.bel h hb⟩
theorem Fg.mv{w w':World}{F:Af}{x:Fl}(h:Fg w x)(hm:Mv F w w')(hn:∀g,x.ob=some g→¬F g):Fg w' x:=by obtain⟨bs,h1,h2⟩:=h;exact⟨bs,h1.mv hm hn,h2⟩
structure BD(w:World)(gd:Nat)(fs:Value)(of:Option Nat)(l:List Fl):Prop where
 d:Holds w gd 125 (IV fs)
 f:BQ w fs of l
 b:∀x∈l,Fg w x
theorem BD.bel{w w':World}{gd:Nat}{fs:Value}{of:Option Nat}{l:List Fl}(h:BD w gd fs of l)(hb:Below w.heap.size w w'):BD w' gd fs of l:=⟨h.d.bel hb,h.f.bel hb,λx hx=>(h.b x hx).bel hb⟩
instance {w w':World}{gd:Nat}{fs:Value}{of:Option Nat}{l:List Fl}:Bl w w' (BD w gd fs of l) (BD w' gd fs of l):=⟨λhb h=>BD.bel h hb⟩
theorem BD.mv{w w':World}{F:Af}{gd:Nat}{fs:Value}{of:Option Nat}{l:List Fl}(h:BD w gd fs of l)(hm:Mv F w w')(h1:¬F gd)(h2:∀g,of=some g→¬F g)(h3:∀x∈l,∀g,x.ob=some g→¬F g):BD w' gd fs of l:=⟨h.d.mv hm h1,h.f.mv hm h2,λx hx=>(h.b x hx).mv hm (h3 x hx)⟩
theorem AO.ne_of{w:World}{v:Value}{ob:Option Nat}{e t:TypeId}{s n:Nat}{xs L:List Value}{a:Nat}(h:AO w v ob e s n xs)(ha:Holds w a t L)(he:e≠t):∀g,ob=some g→g≠a:=λg hg=>by
 rcases h.cases with⟨_,h0,_⟩|⟨g1,_,_,_,h0,_,_,hh,_⟩
 ·rw[h0] at hg;cases hg
 ·rw[h0] at hg;cases hg;exact hh.ne_of ha he
theorem AO.Io{w:World}{v v':Value}{ob ob':Option Nat}{e t:TypeId}{s n s' n':Nat}{xs xs':List Value}(h:AO w v ob e s n xs)(ha:AO w v' ob' t s' n' xs')(he:e≠t):∀g,ob=some g→ob'≠some g:=λg hg hc=>by
 rcases ha.cases with⟨_,h0,_⟩|⟨g1,_,_,_,h0,_,_,hh,_⟩
 ·rw[h0] at hc;cases hc
 ·rw[h0] at hc;cases hc;exact h.ne_of hh he g hg rfl
def sizes(l:List Fl):Nat:=(l.map Fl.n).sum
theorem LK(l:List Fl)(i:Nat)(hi:i<l.length):sizes (l.take (i+1))=sizes (l.take i)+(l.getD i .zero).n:=by unfold sizes;rw[List.take_add_one,List.map_append,List.sum_append,List.getElem?_eq_getElem hi];simp[List.getD,hi]
theorem JS(l:List Fl)(i:Nat):sizes (l.take i)≤sizes l:=by
 have:sizes l=sizes (l.take i)+sizes (l.drop i):=by unfold sizes;rw[←List.sum_append,←List.map_append,List.take_append_drop]
 omega
theorem Jf(gd:Nat)(v:Value)(ob:Option Nat)(l:List Fl)(key:ByteArray)(w:World)(hd:Holds w gd 125 (IV v))(h:BQ w v ob l) :Calls prog 189 #[.pointer (some ⟨gd,0,none⟩),.string key] w λe w'=>e=.returned (.tuple #[.int .i64 ((Am l key).1:Int),.bool (Am l key).2])∧Below w.heap.size w w':=by
 obtain⟨p,c,rfl,hlc,hcm,_,hr⟩:=h.rows;have HV:=qh hr;have HD:=qh hd;have hm:l.length≤maxLen:=hr.1;unfold maxLen at hm;have hsp:=qh (SC l key);generalize hF:Am l key=F at hsp ⊢;obtain⟨Fi,Fb⟩:=F;clear hr h hF hlc hcm hd;go_in;have d1:=Ag HD.o 1;go_wp2_with fail;clear d1;go_loopw [13] (λi wr=>∃k:Nat,k≤l.length∧i=.int .i64 k∧Hid (∀j,j<k→SpanP.lt (l.getD j .zero).nm key=true)∧Below w.heap.size w wr) (λi _=>l.length - (intOf i).toNat);case atStart=>exact⟨0,by omega,rfl,qh λj hj=>absurd hj (by omega),by go_grown⟩
 case round=>
  obtain⟨k,hk,rfl,HA,hb⟩:=hrel;have HB:=qh hb;clear hb;by_cases h1:k<l.length
  ·obtain⟨b,off,rfl,hlt⟩:=HV.spot (by omega);have HR:=qh (show wr.rangeAt b (off+k*3) (l.getD k .zero).cells from HV.range HB.o h1);have hs:=hsp.out k HA.o;obtain⟨q,hq⟩:∃q,q=l.getD k .zero:=⟨_,rfl⟩;rw[←hq] at hs HR;have HS:=qh hs;have HQ:=qh hq;clear hs hq;go_upto_region 4 with(first|(refine lM (off+k*3) HR.o ?_)|(refine Ai rfl 129 _ _ rfl rfl _ _ q.cells.toArray rfl rfl (by kernel_rfl) (by kernel_rfl) (Fl.one' _) ?_));go_name_world W hW;have hbx:Holds W wr.heap.size 129 q.cells:=by rw[←hW];exact AA wr _ _
   have hB:Below w.heap.size w W:=by rw[←hW];exact HB.alloc HB.size _
   clear hW HB HR;have HB:=qh hB;clear hB;have b0:=hbx.cell 0;have c0:=λd os=>hbx.grown d os 0;simp only[Fl.cells,yA,yB] at b0 c0;clear hbx;have hl:∃b,Op.bytesLess q.nm.toList key.toList=b:=⟨_,rfl⟩;obtain⟨bl,hl⟩:=hl;have HL:=qh (show SpanP.lt q.nm key=bl from hl);cases bl
   ·have he:=HS.1 h1 hl;have HE:=qh he;clear HS he;go_upto_region 5 with(fail);refine wp_region_quiet_below (by kernel_rfl) (by kernel_rfl) ?_;repeat go_big_quiet_step (fail)
    refine wpQuiet_nil ?_;intro w5 hw';have HB:=qh (AB HB.o (AP hw'));clear hw' b0 c0;go_wp2_with fail;have e:=HE.o;simp only[Prod.mk.injEq] at e;exact bodyPost_ret (v:=.tuple #[.int .i64 k,.bool (SpanP.same q.nm key)]) (by simp[results,results189,go_sem,SpanP.same]) rfl ⟨by rw[e.1,e.2],HB.o⟩
   ·clear HS;go_wp2_with fail;go_roundw;case rel=>exact⟨k+1,by omega,by go_num,qh λj hj=>if hjk:j<k then HA.o j hjk else (by rw[show j=k by omega,←HQ.o];exact HL.o),HB.o⟩
    case measure=>simp[intOf];omega
  ·obtain rfl:k=l.length:=by omega
   have HE:=qh ((hsp.out _ HA.o).2 rfl);have HD:=qh (HD.bel HB.o);have d1:=Ag HD.o 1;go_wp2_with fail;have e:=HE.o;simp only[Prod.mk.injEq] at e;exact b2 (v:=.tuple #[.int .i64 l.length,.bool false]) ⟨by rw[e.1,e.2],HB.o⟩
theorem UW(gd:Nat)(v:Value)(ob:Option Nat)(l:List Fl)(w:World)(hd:Holds w gd 125 (IV v))(h:BQ w v ob l)(hs:sizes l≤1000000) :Calls prog 279 #[.pointer (some ⟨gd,0,none⟩)] w λe w'=>e=.returned (.int .i64 (sizes l:Int))∧Below w.heap.size w w':=by
 obtain⟨p,c,rfl,hlc,hcm,_,hr⟩:=h.rows;have HV:=qh hr;have HD:=qh hd;have hm:l.length≤maxLen:=hr.1;unfold maxLen at hm;clear hr h hlc hcm hd;go_in;have d1:=Ag HD.o 1;go_wp2_with fail;clear d1;go_loopw [11,3] (λi vn wr=>∃k:Nat,k≤l.length∧i=.int .i64 k∧vn=.int .i64 (sizes (l.take k):Int)∧Below w.heap.size w wr) (λi _ _=>l.length - (intOf i).toNat);case atStart=>exact⟨0,by omega,rfl,rfl,by go_grown⟩
 case round=>
  obtain⟨k,hk,rfl,rfl,hb⟩:=hrel;have HB:=qh hb;clear hb;by_cases h1:k<l.length
  ·obtain⟨b,off,rfl,hlt⟩:=HV.spot (by omega);have HR:=qh (show wr.rangeAt b (off+k*3) (l.getD k .zero).cells from HV.range HB.o h1);have hst:=LK l k h1;have hsl:=JS l (k+1);obtain⟨q,hq⟩:∃q,q=l.getD k .zero:=⟨_,rfl⟩;rw[←hq] at hst HR;clear hq;have HST:=qh hst;generalize sizes (l.take k)=m at hst HST ⊢;have hw0:IntKind.i64.wrap ((m:Int)+q.n)=(m:Int)+q.n:=IntWalk.i64_in _ (by omega);clear hst;go_upto_region 5 with(first|(refine lM (off+k*3) HR.o ?_)|(refine Ai rfl 129 _ _ rfl rfl _ _ q.cells.toArray rfl rfl (by kernel_rfl) (by kernel_rfl) (Fl.one' _) ?_));go_name_world W hW;have hbx:Holds W wr.heap.size 129 q.cells:=by rw[←hW];exact AA wr _ _
   have hB:Below w.heap.size w W:=by rw[←hW];exact HB.alloc HB.size _
   clear hW HB HR;have HB:=qh hB;clear hB;have b1:=Ag hbx 1;clear hbx;go_wp2_with fail;go_roundw;case rel=>exact⟨k+1,by omega,by go_num,by rw[HST.o];simp,HB.o⟩
   case measure=>simp[intOf];omega
  ·obtain rfl:k=l.length:=by omega
   have HD:=qh (HD.bel HB.o);have d1:=Ag HD.o 1;have hta:l.take l.length=l:=List.take_length;have HTA:=qh hta;clear hta;go_wp2_with fail;go_ret;exact⟨by rw[HTA.o];rfl,HB.o⟩
structure P5(nm:ByteArray):Prop where
 ne:nm.toList.isEmpty=false
 size:nm.size≤24
 ch:∀i (h:i<nm.size),33≤nm[i].toNat∧nm[i].toNat≤126
theorem Rt(nm:ByteArray)(w:World)(h:P5 nm):Calls prog 224 #[.string nm] w λe w'=>e=.returned (.bool true)∧Below w.heap.size w w':=by
 obtain⟨hne,h2,hc⟩:=h;have HC:=qh hc;have h24:¬(24:Int)<nm.size:=by omega
 clear hc;go_in;go_wp2_with fail
 go_loop [13] (λvi=>∃i:Nat,i≤nm.size∧vi=.int .i64 (i:Int)) (λvi=>nm.size - (intOf vi).toNat)
 case atStart=>exact⟨0,by omega,rfl⟩
 case round=>
  obtain⟨i,hi,rfl⟩:=hrel;by_cases hin:i<nm.size
  ·obtain⟨hc1,hc2⟩:=HC.o i hin;have hc3:¬(nm[i].toNat:Int)<33:=by omega
   have hc4:¬(126:Int)<nm[i].toNat:=by omega
   go_wp2_with fail
   go_round
   case rel=>exact⟨i+1,by omega,by simp⟩
   case measure=>simp[intOf];omega
  ·obtain rfl:i=nm.size:=by omega
   go_wp2_with fail;go_ret;exact⟨rfl,Below.refl _ _⟩
theorem WN(gd:Nat)(v:Value)(ob:Option Nat)(l:List Fl)(w:World)(hd:Holds w gd 125 (IV v))(h:BQ w v ob l)(hs:sizes l≤500000) :Calls prog 225 #[.pointer (some ⟨gd,0,none⟩)] w λe w'=>e=.returned (.int .i64 (524288 - (sizes l:Int)))∧Below w.heap.size w w':=by have KT:=qh (λW (hd:Holds W gd 125 (IV v)) (h:BQ W v ob l)=>UW gd v ob l W hd h (by omega));have HD:=qh hd;have HF:=qh h;clear h hd;go_in;go_upto_region 1 with(fail);have HB:=qh (Base.start w);obtain⟨HB,HD,HF⟩:=Du (AQ _ w) HB HD HF;refine EQ [] 8 (λhSn=>?_);generalize w.drew=wd at HB HD HF hSn ⊢;simp only[List.replicate];refine Dz 0 ?_;refine BG 3 [] (λw hSw=>Ag (HD.bel hSw) 0) ?_;refine CS 4 ?_;refine BH 5 rfl (λK hK=>?_);go_simp;refine Ac (KT.o _ (HD.bel hSn) (HF.bel hSn)) ?_;rintro w1 hb;have hSn:=AB hSn hb;clear hb;refine BN hK ?_;clear hK;refine FT 6 ?_;refine Dl ?_;obtain⟨HB,HD,HF⟩:=Du hSn HB HD HF;clear hSn;go_wp2_with fail;go_ret;exact⟨Iq (IntWalk.i64_in _ (by omega)),HB.below⟩
theorem OU(gd:Nat)(v:Value)(ob:Option Nat)(l:List Fl)(nm:ByteArray)(i:Nat)(w:World)(hd:Holds w gd 125 (IV v))(h:BQ w v ob l)(hi:Am l nm=(i,true)) :Calls prog 194 #[.pointer (some ⟨gd,0,none⟩),.string nm] w λe w'=>e=.returned (.tuple #[.int .i64 i,.int .i64 0])∧Below w.heap.size w w':=by
 have KF:=qh (show Calls prog 189 #[.pointer (some ⟨gd,0,none⟩),.string nm] w λe w'=>e=.returned (.tuple #[.int .i64 i,.bool true])∧Below w.heap.size w w' by have:=Jf gd v ob l nm w hd h;rw[hi] at this;exact this);have HD:=qh hd;clear hd h hi;go_in;have d2:=Ag HD.o 2;go_wp2_with fail;refine KF.mono ?_;rintro e w1 ⟨rfl,hb⟩;have HB:=qh hb;clear hb d2;go_wp2_with fail
 go_ret2
 exact⟨rfl,HB.o⟩
theorem eu(w:World):Calls prog 282 #[.slice none 0 0,.int .i64 0] w λe w'=>e=.returned (.slice none 0 0)∧Below w.heap.size w w':=by go_in;go_wp2_with fail;go_ret;exact⟨rfl,Below.refl _ _⟩
theorem YC(gs:Nat)(w:World)(hg:Holds w gs 127 [.slice none 0 0,.slice none 0 0]) :Calls prog 227 #[.slice (Option.some ⟨gs,0,none⟩) 2 2] w λe w'=>e=.returned (.slice none 0 0)∧Below w.heap.size w w':=by
 have KG:=qh eu;have HG:=qh hg;clear hg;go_in;go_wp2_with fail
 go_loop [11,3] (λvi vn=>∃i:Nat,vi=.int .i64 (i:Int)∧i≤2∧vn=.int .i64 0) (λvi _=>2 - (intOf vi).toNat)
 case atStart=>exact⟨0,rfl,by omega,rfl⟩
 case round=>
  obtain⟨i,rfl,hi,rfl⟩:=hrel;rcases(show i=0∨i=1∨i=2 by omega) with rfl|rfl|rfl
  ·have g0:=HG.cell 0;simp only[yA,yB] at g0;go_wp2_with fail
   go_round
   case rel=>exact⟨1,rfl,by omega,rfl⟩
   case measure=>simp[intOf]
  ·have g1:=HG.cell 1;simp only[yA,yB] at g1;go_wp2_with fail
   go_round
   case rel=>exact⟨2,rfl,by omega,rfl⟩
   case measure=>simp[intOf]
  ·go_wp2_with fail;refine Ac (KG.o _) ?_;rintro w1 hb;have HB:=qh hb;have HG:=ET hb HG;clear hb;go_wp2_with fail;go_loopw [27,6] (λvi vn wr=>∃i:Nat,vi=.int .i64 (i:Int)∧i≤2∧vn=.slice none 0 0∧Below w.heap.size w wr∧Holds wr gs 127 [.slice none 0 0,.slice none 0 0]) (λvi _ _=>2 - (intOf vi).toNat);case atStart=>exact⟨0,rfl,by omega,rfl,HB.o,HG.o⟩
   case round=>
    clear HB HG;obtain⟨i,rfl,hi,rfl,hb,hg⟩:=hrel;have HB:=qh hb;have HG:=qh hg;clear hb hg;rcases(show i=0∨i=1∨i=2 by omega) with rfl|rfl|rfl
    ·have g0:=HG.cell 0;simp only[yA,yB] at g0;go_wp2_with (first|(at_builtin;refine EF rfl (.tmp 31) (.tmp 32) 127 rfl 5 (.int .u8 0) 1 1 rfl (by kernel_rfl) _ none 0 [] rfl (AO.nil _ _ _) rfl ?_));go_roundw;case rel=>exact⟨1,rfl,by omega,rfl,HB.o,HG.o⟩
     case measure=>simp[intOf]
    ·have g1:=HG.cell 1;simp only[yA,yB] at g1;go_wp2_with (first|(at_builtin;refine EF rfl (.tmp 31) (.tmp 32) 127 rfl 5 (.int .u8 0) 1 1 rfl (by kernel_rfl) _ none 0 [] rfl (AO.nil _ _ _) rfl ?_));go_roundw;case rel=>exact⟨2,rfl,by omega,rfl,HB.o,HG.o⟩
     case measure=>simp[intOf]
    ·go_wp2_with fail;go_ret;exact⟨rfl,HB.o⟩
theorem Ql(l:List Fl)(rest:List Value)(i j:Nat)(hi:i<l.length)(hj:j<3):(Ii l++rest)[i*3+j]?=(l.getD i .zero).cells[j]?:=by rw[List.getElem?_append_left (by rw[Eo];omega)];exact OY l i j hi hj
theorem VT:∀(l:List Fl) (rest:List Value) (i:Nat) (p:Option Addr) (n c:Nat),i<l.length→(Ii l++rest).set (i*3+1) (.slice p n c)=Ii (l.set i ⟨(l.getD i .zero).nm,p,n,c,(l.getD i .zero).kept⟩)++rest
 | [],_,_,_,_,_,h=>by simp at h
 | x :: l,rest,0,p,n,c,_=>rfl
 | x :: l,rest,i+1,p,n,c,h=>by
  have ih:=VT l rest i p n c (by simpa using h);rw[GK,List.append_assoc,show (i+1)*3+1=x.cells.length+(i*3+1) by rw[Fl.len];omega,List.set_append_right _ _ (by omega),Nat.add_sub_cancel_left,ih]
  rfl
theorem SH:∀(l:List Fl) (rest:List Value) (i:Nat) (k:Int),i<l.length→(Ii l++rest).set (i*3+2) (.int .i64 k)=Ii (l.set i ⟨(l.getD i .zero).nm,(l.getD i .zero).p,(l.getD i .zero).n,(l.getD i .zero).c,k⟩)++rest
 | [],_,_,_,h=>by simp at h
 | x :: l,rest,0,k,_=>rfl
 | x :: l,rest,i+1,k,h=>by
  have ih:=SH l rest i k (by simpa using h);rw[GK,List.append_assoc,show (i+1)*3+2=x.cells.length+(i*3+2) by rw[Fl.len];omega,List.set_append_right _ _ (by omega),Nat.add_sub_cancel_left,ih]
  rfl
theorem Aj.kC{w:World}{B:Nat}{p:Option Addr}{n c:Nat}(h:Aj w B (.slice p n c) n)(h1:n≤100000)(h0:n=0→p=none∧c=0)(nm:ByteArray)(k:Int):Fg w ⟨nm,p,n,c,k⟩∧∀g,Fl.ob ⟨nm,p,n,c,k⟩=some g→B≤g:=by obtain⟨bs,hl,⟨h2,_⟩,ho⟩:=h;obtain⟨ob,ho2,hb⟩:=AO.of ho;have hob:Fl.ob ⟨nm,p,n,c,k⟩=ob:=ho2.ob;exact⟨⟨bs,hob▸ho2,h2,h1,h0⟩,hob▸hb⟩
theorem Fg.EI{w:World}{x:Fl}(h:Fg w x):BZ w (.slice x.p x.n x.c) x.n:=by obtain⟨bs,h1,h2,h3,h4⟩:=h;have hl:=h1.len;rw[BI,Nat.mul_one] at hl;exact Aj.EI (B:=0) ⟨bs,hl,⟨h2,by omega⟩,h1.own⟩
def Nr(l:List Fl)(nm:ByteArray):List Fl:=if (Am l nm).2 then l else l.take (Am l nm).1++⟨nm,none,0,0,0⟩ :: l.drop (Am l nm).1
theorem ed(l:List Fl)(nm:ByteArray):(Am l nm).1<(Nr l nm).length:=by
 have h:=FO l nm;unfold Nr;split
 ·exact h.2 (by assumption)
 ·simp;omega
def Ew(l:List Fl)(nm:ByteArray)(p:Option Addr)(len c:Nat):List Fl:=(Nr l nm).set (Am l nm).1 ⟨((Nr l nm).getD (Am l nm).1 .zero).nm,p,((Nr l nm).getD (Am l nm).1 .zero).n+len,c,((Nr l nm).getD (Am l nm).1 .zero).kept⟩
theorem UO(gs:Nat)(x:Fl)(p:Option Addr)(len c B:Nat)(w:World)(hg:Holds w gs 127 [.slice x.p x.n x.c,.slice p len c])(hx:Fg w x)(hv:Aj w B (.slice p len c) len)(hl:len≤100000)(h1:1≤len∨(Value.slice p len c=.slice none 0 0∧x.n=0)) :Calls prog 227 #[.slice (Option.some ⟨gs,0,none⟩) 2 2] w λe w'=>∃p' c',e=.returned (.slice p' (x.n+len:Nat) c')∧Aj w' w.heap.size (.slice p' (x.n+len:Nat) c') (x.n+len)∧(x.n+len=0→p'=none∧c'=0)∧Below w.heap.size w w':=by
 have hb:=Fg.EI hx;obtain⟨_,_,_,h4,h5⟩:=hx;rcases h1 with h1|⟨hv0,hn⟩
 ·refine(Zl gs (.slice x.p x.n x.c) (.slice p len c) x.n len [] w hg hb hv.EI ?_ (by omega) h1 (by omega)).mono ?_
  ·by_cases hn:x.n=0
   ·obtain⟨e1,e2⟩:=h5 hn;exact .inl (by rw[e1,e2,hn])
   ·exact .inr (by omega)
  ·rintro e w' ⟨v,rfl,ho,hbe⟩;obtain⟨p',c',rfl⟩:=ho.shape;exact⟨p',c',rfl,ho,λh=>by omega,hbe⟩
 ·obtain⟨e1,e2⟩:=h5 hn;injection hv0 with hv1 hv2 hv3;subst hv1 hv2 hv3;rw[e1,e2,hn] at hg;refine Ac (YC gs w hg) ?_;rintro w' hbe;refine⟨none,0,by rw[hn],?_,λ_=>⟨rfl,rfl⟩,hbe⟩;rw[hn];exact⟨[],rfl,⟨λ_ h=>(by cases h),by omega⟩,World.ownsRow_nil _ _ _ _⟩
def ZY(gd:Nat)(of:Option Nat)(l:List Fl)(nm:ByteArray)(len:Nat)(w w':World):Prop:=
 ∃fs' of' p c,BD w' gd fs' of' (Ew l nm p len c)∧(of'=of∨∃g,of'=some g∧w.heap.size≤g)∧(∀a,p=some a→w.heap.size≤a.block)∧Mv (λk=>k=gd∨of=some k) w w'
def kW(gd B:Nat)(of:Option Nat)(l1:List Fl)(v:Value)(len:Nat)(w wx:World):Prop:=
 ∃fs1 of1,BD wx gd fs1 of1 l1∧(of1=of∨∃g,of1=some g∧w.heap.size≤g)∧Aj wx B v len∧Mv (λk=>k=gd∨of=some k) w wx
theorem VP(gd B:Nat)(fs:Value)(of:Option Nat)(l:List Fl)(nm:ByteArray)(v:Value)(len:Nat)(w:World)(h:BD w gd fs of l)(hv:Aj w B v len)(hB:gd<B∧∀g,of=some g→g<B)(hnm:P5 nm)(hl:l.length≤900)(hsz:sizes l+len≤400000)(hlen:len≤100000)(hfl:((Nr l nm).getD (Am l nm).1 .zero).n+len≤100000) (h1:1≤len∨(v=.slice none 0 0∧((Nr l nm).getD (Am l nm).1 .zero).n=0)) :Calls prog 165 #[.pointer (some ⟨gd,0,none⟩),.string nm,v] w λe w'=>e=.returned (.int .i64 0)∧ZY gd of l nm len w w':=by
 have KM:=qh (λW=>Rt nm W hnm);have KR:=qh (λW (h:BD W gd fs of l)=>WN gd fs of l W h.d h.f (by omega));have KP:=qh (λW (h:BD W gd fs of l)=>O7 gd _ W h.d);have KF:=qh (λW (h:BD W gd fs of l)=>Jf gd fs of l nm W h.d h.f);have KI:=qh (λi bs x W h hx hne hi=>Le fs of l i bs x W h hx hne hi (by omega));obtain⟨pa,pc,rfl⟩:=hv.shape;have hle:=FO l nm;have hlt1:=ed l nm;have HMK:=qh (show (Am l nm).2=true→Nr l nm=l from λh=>if_pos h);have HMN:=qh (show (Am l nm).2=false→Nr l nm=l.take (Am l nm).1++⟨nm,none,0,0,0⟩ :: l.drop (Am l nm).1 from λh=>if_neg (by rw[h];decide));have HAP:=qh (show ∀p c,Ew l nm p len c=(Nr l nm).set (Am l nm).1 ⟨((Nr l nm).getD (Am l nm).1 .zero).nm,p,((Nr l nm).getD (Am l nm).1 .zero).n+len,c,((Nr l nm).getD (Am l nm).1 .zero).kept⟩ from λ_ _=>rfl);generalize Nr l nm=l1 at HMK HMN HAP hlt1 hfl h1;generalize hF:Am l nm=F at KF hle HMK HMN HAP hlt1 hfl h1;obtain⟨i,ok⟩:=F;simp only[] at hle hlt1 hfl h1;have HX:=qh h;have HP:=qh hv;have hgo:=AO.ne_of h.f h.d (by decide);have hlt:=h.d.lt;have holt:=AO.lt h.f;have HM:=qh (Mv.refl (λk=>k=gd∨of=some k) w);have hroom:¬(524288 - (sizes l:Int))<(len:Int):=by omega
 clear h hv hF hnm;go_in;have d2:=Ag HX.d 2;go_wp2_with fail;refine Ac (KM.o _) ?_;rintro w1 hb;have HP:=qh (HP.below hb);obtain⟨HX,HM⟩:=DC hb HX HM;clear hb d2;go_wp2_with fail;refine Ac (KR.o _ HX.o) ?_;rintro w2 hb;have HP:=qh (HP.below hb);obtain⟨HX,HM⟩:=DC hb HX HM;clear hb;go_wp2_with fail;refine Ac (KP.o _ HX.o) ?_;rintro w3 hb;have HP:=qh (HP.below hb);obtain⟨HX,HM⟩:=DC hb HX HM;clear hb;go_wp2_with fail;refine Ac (KF.o _ HX.o) ?_;rintro w4 hb;have HP:=qh (HP.below hb);obtain⟨HX,HM⟩:=DC hb HX HM;clear hb;have hnok:(!ok)=true∨(!ok)=false:=by cases ok<;>simp
 go_upto_if 37 with(fail)
 go_cut [9] from 38 to 50 (λy wx=>y=.bool ok∧kW gd B of l1 (.slice pa len pc) len w wx);case first=>
  cases ok
  ·obtain rfl:=HMN.o rfl;have d1:=Ag HX.d 1;go_wp2_with fail;have HN:=qh (AA w4 129 [.string nm,.slice none 0 0,.int .i64 0]);have hal:Below w4.heap.size w4 (w4.alloc (.cells #[.string nm,.slice none 0 0,.int .i64 0] 129)):=by go_grown
   have HP:=qh (HP.below hal);have hs4:=HM.size;obtain⟨HX,HM⟩:=DC hal HX HM;clear hal d1;generalize w4.alloc (.cells #[.string nm,.slice none 0 0,.int .i64 0] 129)=w5 at HN HX HP HM ⊢;generalize w4.heap.size=gn at HN hs4 ⊢;refine(KI.o i gn ⟨nm,none,0,0,0⟩ _ HX.f HN.o (λh=>by have:=holt gn h;omega) hle.1).mono ?_;rintro e w6 ⟨v6,ob6,rfl,hf6,hob6,hm6⟩;have hs5:=HM.size;have HF:=qh hf6;have hd6:Holds w6 gd 125 (IV fs):=HX.d.mv hm6 (λh=>hgo _ h rfl);have HD:=qh hd6;have HFO:=qh (show ∀x∈l.take i++⟨nm,none,0,0,0⟩ :: l.drop i,Fg w6 x from λx hx=>by
    rcases List.mem_append.1 hx with hx|hx
    ·have hxl:=List.mem_of_mem_take hx;have hxo:=HX.b x hxl;exact hxo.mv hm6 (λg hg hc=>by obtain⟨_,ho,_⟩:=hxo;exact AO.Io ho HX.f (by decide) g hg hc)
    ·rcases List.mem_cons.1 hx with rfl|hx
     ·exact⟨[],AO.nil _ _ _,λ_ h=>(by cases h),Nat.zero_le _,λ_=>⟨rfl,rfl⟩⟩
     ·have hxl:=List.mem_of_mem_drop hx;have hxo:=HX.b x hxl;exact hxo.mv hm6 (λg hg hc=>by obtain⟨_,ho,_⟩:=hxo;exact AO.Io ho HX.f (by decide) g hg hc))
   have HP:=qh (HP.mv hm6 (λk hk=>hB.2 k hk));have HM:=qh (HM.mv hm6 (λk hk=>.inl (.inr hk)));have HOB:=qh (show ob6=of∨∃g,ob6=some g∧w.heap.size≤g from hob6.imp id λ⟨g,h1,h2⟩=>⟨g,h1,by omega⟩);obtain⟨p6,n6,c6,rfl⟩:∃p n c,v6=.slice p n c:=by obtain⟨p,c,hv,_⟩:=hf6.rows;exact⟨p,_,c,hv⟩
   clear hf6 hob6 hm6 hd6 HX HN;go_wp2_with (first|(refine sC 1 HD.o (.slice p6 n6 c6) ?_;intro w7 hh7 ht7));have hm7:Mv (λk=>k=gd) w6 w7:=Mv.AU ht7 rfl;have hdx:BD w7 gd (.slice p6 n6 c6) ob6 (l.take i++⟨nm,none,0,0,0⟩ :: l.drop i):=⟨show Holds w7 gd 125 (IV (.slice p6 n6 c6)) from hh7,HF.mv hm7 (AO.ne_of HF.o HD.o (by decide)),λx hx=>(HFO.o x hx).mv hm7 (λg hg=>by obtain⟨_,ho,_⟩:=HFO.o x hx;exact AO.ne_of ho HD.o (by decide) g hg)⟩;have HDX:=qh hdx;have HP:=qh (HP.mv hm7 (λk hk=>by subst hk;exact hB.1));have HM:=qh (HM.mv hm7 (λk hk=>.inl (.inl hk)));clear hdx hm7 hh7 ht7 HF HD HFO;go_wp2_with fail
   go_meet
   exact⟨rfl,_,_,HDX.o,HOB.o,HP.o,HM.o⟩
  ·obtain rfl:=HMK.o rfl;go_wp2_with fail
   go_meet
   exact⟨rfl,fs,of,HX.o,.inl rfl,HP.o,HM.o⟩
 case rest=>
  obtain⟨rfl,fs1,of1,hx1,hof,hp1,hm1⟩:=hcut;have hg:=hx1.f.blk (by omega);obtain⟨g1,cap1,rest1,rfl,rfl,hc1,hc2,hh1,hl1⟩:=hg;have HX:=qh hx1;have HD:=qh hx1.d;have HH:=qh hh1;have HP:=qh hp1;have HM:=qh hm1;have hg1d:g1≠gd:=hh1.ne_of hx1.d (by decide);have hsz1:=hm1.size;have hfi:=Ql l1 rest1 i 1 hlt1 (by omega);have hmem:l1.getD i .zero∈l1:=by rw[List.getD_eq_getElem?_getD,List.getElem?_eq_getElem hlt1];exact List.getElem_mem hlt1
  have hxo:=hx1.b _ hmem;have HFO:=qh (λx hx=>hx1.b x hx);have hne1:∀y:Fl,y∈l1→∀g,y.ob=some g→g≠g1:=λy hy g hg=>by obtain⟨_,ho,_⟩:=hx1.b y hy;exact AO.ne_of ho hh1 (by decide) g hg
  have HBc:=qh (Base.start wc);obtain⟨x,hx⟩:∃x,x=l1.getD i .zero:=⟨_,rfl⟩;rw[←hx] at hfi hxo hfl h1 hmem;have HXE:=qh hx;have HXO:=qh hxo;have HFI:=qh hfi;have h1i:i*3+1<(Ii l1++rest1).length:=by rw[List.length_append,Eo];omega
  have hil:(i:Int)<l1.length:=by omega
  have hic:(i:Int)<cap1:=by omega
  have KC:=qh (λgs W (h:Holds W gs 127 [.slice x.p x.n x.c,.slice pa len pc]) h2 h3=>UO gs x pa len pc B W h h2 h3 hlen (h1.imp id λh=>h));have hgdB:gd<w.heap.size:=hlt;clear hx1 hh1 hp1 hm1 hfi hxo hx HX;go_upto_region 13 with(fail);have HXO:=qh HXO.o;obtain⟨HD,HH,HM,HXO,HP,HBc⟩:=FI (AQ _ wc) HD HH HM HXO HP HBc;refine EQ [18] 19 (λhSn=>?_);generalize wc.drew=wd at HD HH HM HXO HP HBc hSn ⊢;simp only[List.replicate];refine Dz 0 ?_;refine BG 3 [16,17,18] (λw hSw=>Ag (HD.bel hSw) 1) ?_;refine Jr 4 ?_;refine BG 8 [10,11,12,14,15,16,17,18] (λw hSw=>Ag (HD.bel hSw) 1) ?_;refine Dz 9 ?_;refine He 12 [14,15,16,17,18] (some 62) (?vg13) rfl (Or.inl ⟨by rfl,?hg13⟩) hSn ?rg13;case hg13=>
   intro w hSw;have b1:=(HH.bel hSw).cell (i*3+1);rw[HFI.o] at b1;simp only[Fl.cells,yA,yB] at b1;go_simp;try with_reducible rfl
  simp only[Act.put,zA,zB,zC];refine CS 13 ?_;refine BH 14 rfl (λK hK=>?_);go_simp;have hal:=λo=>Below.alloc hSn hSn.size o;refine hK.out _ _ (λ_=>hal _) ?_;have hSn:=hal (.cells ([.slice x.p x.n x.c,.slice pa len pc]:List Value).toArray 127);have HG:=qh (show Holds (wd.alloc (.cells ([.slice x.p x.n x.c,.slice pa len pc]:List Value).toArray 127)) wd.heap.size 127 [.slice x.p x.n x.c,.slice pa len pc] from AA wd _ _);clear hal;generalize wd.alloc (.cells ([.slice x.p x.n x.c,.slice pa len pc]:List Value).toArray 127)=wa at hSn HG ⊢;clear hK;try simp only[Act.put,zA,zB,zC]
  refine BH 15 rfl (λK hK=>?_);go_simp;refine(KC.o _ _ HG.o (HXO.bel hSn) (HP.bel hSn)).mono ?_;rintro e w9 ⟨p9,c9,rfl,ho9,hn9,hb⟩;have hSn:=AB hSn hb;have HO:=qh (ho9.mono (B':=wd.heap.size) (by have:=HG.lt;omega));have HN9:=qh hn9;clear ho9 hn9;clear hb;refine BN hK ?_;clear hK;refine FT 16 ?_;refine BH 18 rfl (λK hK=>?_);refine Ce rfl 127 (.tmp 67) (.tmp 65) rfl rfl g1 (i*3+1) 129 _ (HH.bel hSn) h1i rfl (.slice p9 (x.n+len:Nat) c9) rfl rfl (by kernel_rfl) rfl ?_;intro w10 hh10 ht10;have HH9:=qh hh10;have HT:=qh ht10;clear hh10 ht10;refine BN hK ?_;clear hK;refine Dl ?_;have hsd:=HM.size;have hsn:=hSn.size;obtain⟨hfo9,hgo9⟩:=HO.kC (by omega) HN9.o x.nm x.kept;have hD2:=qh ((HD.bel hSn).touch HT.o (Ne.symm hg1d));have hM2:=qh ((HM.bel hSn).touch HT.o (hof.elim (λh=>.inl (.inr h.symm)) (λ⟨g,h1,h2⟩=>.inr (by injection h1 with h1;omega))));have hh9:=HH9.o;have hbc:=(HBc.bel hSn).below;have hmg:Mv (λk=>k=g1) _ w10:=Mv.AU HT.o rfl;have hFO2:∀y∈l1.set i ⟨x.nm,p9,x.n+len,c9,x.kept⟩,Fg w10 y:=λy hy=>by
   rcases List.mem_or_eq_of_mem_set hy with hy|rfl
   ·exact((HFO.o y hy).bel hbc).mv hmg (hne1 y hy)
   ·exact hfo9.mv hmg (λg hg=>by have:=hgo9 g hg;have:=HH.lt;omega)
  rw[VT l1 rest1 i p9 (x.n+len) c9 hlt1,←HXE.o] at hh9;have hF2:BQ w10 (.slice (some ⟨g1,0,none⟩) (l1.set i ⟨x.nm,p9,x.n+len,c9,x.kept⟩).length cap1) (some g1) (l1.set i ⟨x.nm,p9,x.n+len,c9,x.kept⟩):=AO.mk' hh9 (by rw[Eo]) (by rw[List.length_append,Eo,List.length_set] at *;exact hl1) (by rw[List.length_set];exact hc1) hc2;rw[List.length_set] at hF2;have HF2:=qh hF2;have HFO2:=qh hFO2;have hp9:∀a,p9=some a→w.heap.size≤a.block:=λa ha=>by have:=hgo9 a.block (by rw[ha];rfl);omega
  clear hSn HD HH HM HXO HP HBc HO HG HT HH9 hh9 hF2 hFO2 hfo9 hgo9 hmg hbc HFO;go_wp2_with fail;go_ret;refine⟨rfl,_,_,p9,c9,⟨hD2.out,?_,?_⟩,hof,hp9,hM2.out⟩
  ·rw[HAP.o,←HXE.o];exact HF2.o
  ·rw[HAP.o,←HXE.o];exact HFO2.o
def IX(l:List Fl)(i:Nat):List Fl:=l.set i ⟨(l.getD i .zero).nm,(l.getD i .zero).p,(l.getD i .zero).n,(l.getD i .zero).c,(l.getD i .zero).n⟩
theorem getD_mem(l:List Fl)(i:Nat)(h:i<l.length):l.getD i .zero∈l:=by rw[List.getD_eq_getElem?_getD,List.getElem?_eq_getElem h];exact List.getElem_mem h
theorem Fg.kept{w:World}{x:Fl}(h:Fg w x)(nm:ByteArray)(k:Int):Fg w ⟨nm,x.p,x.n,x.c,k⟩:=h
theorem dD(gd i:Nat)(fs:Value)(of:Option Nat)(l:List Fl)(nm:ByteArray)(w:World)(h:BD w gd fs of l)(hi:Am l nm=(i,true)) :Calls prog 111 #[.pointer (some ⟨gd,0,none⟩),.string nm] w λe w'=>e=.returned (.int .i64 0)∧BD w' gd fs of (IX l i)∧Mv (λk=>of=some k) w w':=by
 have hil:i<l.length:=by have:=(FO l nm).2;rw[hi] at this;exact this rfl
 have KK:=qh (λW (h:BD W gd fs of l)=>OU gd fs of l nm i W h.d h.f hi);have KP:=qh (λW (h:BD W gd fs of l)=>O7 gd _ W h.d);have hg:=h.f.blk (by omega);obtain⟨g1,cap1,rest1,rfl,rfl,hc1,hc2,hh1,hl1⟩:=hg;have hg1d:g1≠gd:=hh1.ne_of h.d (by decide);have hfi:=Ql l rest1 i 1 hil (by omega);have hne1:∀y:Fl,y∈l→∀g,y.ob=some g→g≠g1:=λy hy g hg=>by obtain⟨_,ho,_⟩:=h.b y hy;exact AO.ne_of ho hh1 (by decide) g hg
 obtain⟨x,hx⟩:∃x,x=l.getD i .zero:=⟨_,rfl⟩;rw[←hx] at hfi;have hmem:x∈l:=hx▸getD_mem l i hil;have HXE:=qh hx;have HFI:=qh hfi;have HX:=qh h;have HD:=qh h.d;have HH:=qh hh1;have HM:=qh (Mv.refl (λk=>some g1=some k) w);have h2i:i*3+2<(Ii l++rest1).length:=by rw[List.length_append,Eo];omega
 have hii:(i:Int)<l.length:=by omega
 clear h hh1 hfi hx hi;go_in;go_wp2_with fail;refine Ac (KK.o _ HX.o) ?_;rintro w1 hb;obtain⟨HX,HD,HH,HM⟩:=Dy hb HX HD HH HM;clear hb;go_wp2_with fail;refine Ac (KP.o _ HX.o) ?_;rintro w2 hb;obtain⟨HX,HD,HH,HM⟩:=Dy hb HX HD HH HM;clear hb;go_upto_region 5 with(fail);obtain⟨HX,HD,HH,HM⟩:=Dy (AQ _ w2) HX HD HH HM;refine EQ [16] 17 (λhSn=>?_);generalize w2.drew=wd at HX HD HH HM hSn ⊢;simp only[List.replicate];refine Dz 0 ?_;refine BG 3 [14,15,16] (λw hSw=>Ag (HD.bel hSw) 1) ?_;refine Jr 4 ?_;refine BG 8 [10,11,12,13,14,15,16] (λw hSw=>Ag (HD.bel hSw) 1) ?_;refine Dz 9 ?_;refine He 12 [13,14,15,16] (some 31) (?vg13) rfl (Or.inl ⟨by rfl,?hg13⟩) hSn ?rg13;case hg13=>
  intro w hSw;have b1:=(HH.bel hSw).cell (i*3+1);rw[HFI.o] at b1;simp only[Fl.cells,yA,yB] at b1;go_simp;try with_reducible rfl
 simp only[Act.put,zA,zB,zC];refine Dz 13 ?_;refine BH 16 rfl (λK hK=>?_);refine Ce rfl 3 (.tmp 34) (.tmp 32) rfl rfl g1 (i*3+2) 129 _ (HH.bel hSn) h2i rfl (.int .i64 x.n) rfl rfl (by kernel_rfl) rfl ?_;intro w10 hh10 ht10;have HH9:=qh hh10;have HT:=qh ht10;clear hh10 ht10;refine BN hK ?_;clear hK;refine Dl ?_;have hmg:Mv (λk=>k=g1) _ w10:=Mv.AU HT.o rfl;have hD2:=qh ((HD.bel hSn).mv hmg (Ne.symm hg1d));have hM2:=qh ((HM.bel hSn).mv hmg (λk hk=>.inl (by rw[hk])));have hh9:=HH9.o;rw[SH l rest1 i x.n hil,←HXE.o] at hh9;have hF2:BQ w10 (.slice (some ⟨g1,0,none⟩) (l.set i ⟨x.nm,x.p,x.n,x.c,x.n⟩).length cap1) (some g1) (l.set i ⟨x.nm,x.p,x.n,x.c,x.n⟩):=AO.mk' hh9 (by rw[Eo]) (by rw[List.length_append,Eo,List.length_set] at *;exact hl1) (by rw[List.length_set];exact hc1) hc2;rw[List.length_set] at hF2;have hFO2:∀y∈l.set i ⟨x.nm,x.p,x.n,x.c,x.n⟩,Fg w10 y:=λy hy=>by
  have hall:∀y∈l,Fg w10 y:=λy hy=>((HX.b y hy).bel hSn).mv hmg (hne1 y hy);rcases List.mem_or_eq_of_mem_set hy with hy|rfl
  ·exact hall y hy
  ·exact hall x hmem
 have HF2:=qh hF2;have HFO2:=qh hFO2;have HSE:=qh (show IX l i=l.set i ⟨x.nm,x.p,x.n,x.c,x.n⟩ by rw[HXE.o];rfl);clear hSn HX HD HH HM HT HH9 hh9 hF2 hFO2 hmg;go_wp2_with fail;go_ret;refine⟨rfl,⟨hD2.out,?_,?_⟩,hM2.out⟩
 ·rw[HSE.o];exact HF2.o
 ·rw[HSE.o];exact HFO2.o
theorem jA(gd i:Nat)(fs:Value)(of:Option Nat)(l:List Fl)(nm:ByteArray)(w:World)(h:BD w gd fs of l)(hi:Am l nm=(i,true))(hn:1≤(l.getD i .zero).n) :Calls prog 103 #[.pointer (some ⟨gd,0,none⟩),.string nm] w λe w'=>∃p c,e=.returned (.tuple #[.slice p (l.getD i .zero).n c,.bool true])∧Below w.heap.size w w':=by
 have hil:i<l.length:=by have:=(FO l nm).2;rw[hi] at this;exact this rfl
 have KF:=qh (λW (h:BD W gd fs of l)=>(show Calls prog 189 #[.pointer (some ⟨gd,0,none⟩),.string nm] W λe w'=>e=.returned (.tuple #[.int .i64 i,.bool true])∧Below W.heap.size W w' by have:=Jf gd fs of l nm W h.d h.f;rw[hi] at this;exact this));have hg:=h.f.blk (by omega);obtain⟨g1,cap1,rest1,rfl,rfl,hc1,hc2,hh1,hl1⟩:=hg;have hfi:=Ql l rest1 i 1 hil (by omega);obtain⟨x,hx⟩:∃x,x=l.getD i .zero:=⟨_,rfl⟩;rw[←hx] at hfi hn ⊢;have hxo:=h.b x (hx▸getD_mem l i hil);have hxn:x.n≤100000:=by obtain⟨_,_,_,h,_⟩:=hxo;exact h
 have KC:=qh (λW (h:Fg W x)=>dY (.slice x.p x.n x.c) x.n W h.EI hn (by omega));have HXO:=qh hxo;have HFI:=qh hfi;have HX:=qh h;have HD:=qh h.d;have HH:=qh hh1;have HB:=qh (Base.start w);have hii:(i:Int)<l.length:=by omega
 clear h hh1 hfi hx hi hxo;go_in;go_wp2_with fail;refine Ac (KF.o _ HX.o) ?_;rintro w1 hb;obtain⟨HX,HD,HH,HB,HXO⟩:=Fq hb HX HD HH HB HXO;clear hb;have d1:=Ag HD.o 1;have b1:=HH.cell (i*3+1);rw[HFI.o] at b1;simp only[Fl.cells,yA,yB] at b1;go_wp2_with fail;refine(KC.o _ HXO.o).mono ?_;rintro e w2 ⟨v2,rfl,ho,hb⟩;obtain⟨p2,c2,rfl⟩:=ho.shape;have HB:=ET hb HB;clear hb ho d1 b1;go_wp2_with fail
 go_ret2
 exact⟨p2,c2,rfl,HB.below⟩
end Go.Proofs.YtimdpiifpibgfaaGreatDoor
