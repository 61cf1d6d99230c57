/- A part of the proof that the law TopCopies returns true for every input. -/
import Derived.Test.YtimdpiifpibgfaaGreatDoorQc16
set_option linter.all false
set_option maxRecDepth 20000
set_option maxHeartbeats 16000000
open Go.RowKit Go.Maps
namespace Go.Proofs.YtimdpiifpibgfaaGreatDoor
open Tryz
def DF(d:Nat→Int):List Value:=[.int .i64 (d 0),.int .i64 (d 1),.int .i64 (d 2),.int .i64 (d 3),.int .i64 (d 4),.int .i64 (d 5),.int .i64 (d 6)]
theorem fC(d:Nat→Int)(w:World)(hd:∀j,0≤d j∧d j≤1073741824) :Calls prog 168 #[.agg #[.int .i64 (d 0),.int .i64 (d 1),.int .i64 (d 2),.int .i64 (d 3),.int .i64 (d 4),.int .i64 (d 5),.int .i64 (d 6)]] w λe w'=>e=.returned (.bool true)∧Below w.heap.size w w':=by have K:=qh (λW=>UV 0 d W (by omega) hd);clear hd;go_in;go_upto_region 1 with(fail);go_name_world W hW;obtain⟨HX,hbW,hsW⟩:=Ff 41 ([.int .i64 (d 0),.int .i64 (d 1),.int .i64 (d 2),.int .i64 (d 3),.int .i64 (d 4),.int .i64 (d 5),.int .i64 (d 6)]) hW;clear hW;have HB:=qh hbW;obtain⟨x0,x1,x2,x3,x4,x5,x6⟩:=GR HX.o 0 1 2 3 4 5 6;clear hbW hsW HX;go_wp2_with fail;refine Ac (K.out _) ?_;rintro w1 hb;have HB:=qh (AB HB.o hb);clear hb x0 x1 x2 x3 x4 x5 x6;go_wp2_with fail;go_ret;exact⟨rfl,HB.o⟩
theorem fB(d:Nat→Int)(k:Nat)(hk:k<7):∀W:World,(Instr.index 41 (.agg (DF d).toArray) (.int .i64 k)).run prog W=.ok (.int .i64 (d k)) W:=by intro W;rcases(show k=0∨k=1∨k=2∨k=3∨k=4∨k=5∨k=6 by omega) with rfl|rfl|rfl|rfl|rfl|rfl|rfl<;>rfl
def UE(lim:Nat)(w:World)(e:Ending)(w':World):Prop:=∃v' k,e=.returned v'∧(1≤k∨v'=.slice none 0 0∧k=0)∧k≤lim∧Aj w' w.heap.size v' k∧Below w.heap.size w w'
theorem kE(v:Value)(ob:Option Nat)(S:St)(m:Nat)(d:Nat→Int)(pv:Nat→Value)(pb:Nat→Option Nat)(w:World)(h:AV w v ob S.ps)(h2:OwnAt w S.ow pv pb)(hf:S.Fine m)(hm:m≤30)(hd:∀j,0≤d j∧d j≤1073741824) :Calls prog 94 #[.agg (DF d).toArray,.agg (Es v S.ow pv).toArray] w (UE 16000 w):=by
 have KP:=qh (λW h h2=>jg v ob S m pv pb W h h2 hf hm);obtain⟨l,o⟩:=S;simp only at h h2 KP;have KS:=qh (λW h h2=>Vs v ob l o pv pb W h h2);have KR:=qh (λW=>(show Calls prog 168 #[.agg (DF d).toArray] W λe w'=>e=.returned (.bool true)∧Below W.heap.size W w' from fC d W hd));have KN:=qh (λv len n W (h:BZ W v len) (hl:len≤1000000)=>Ej v len n W h hl);have HP:=qh h;have HOA:=qh h2;have HB:=qh (Base.start w);have HDD:=qh hd;obtain⟨p,n,c,rfl⟩:=h.Bq;generalize hQ:UE 16000 w=Q;have HQ:=qh (show ∀e w',UE 16000 w e w'→Q e w' from λe w' h=>hQ▸h);clear h h2 hQ hf hd;go_in;go_upto_region 1 with(fail);go_name_world W hW;obtain⟨HD,HX,hbW,hsW⟩:=Xf 41 (DF d) 66 (Es (.slice p n c) o pv) hW;clear hW;obtain⟨HB,HP,HOA⟩:=Du hbW HB HP HOA;clear hbW hsW;have hge0:=HB.le;generalize hz0:w.heap.size+1=gX at HX ⊢;generalize hx0:w.heap.size=gD at HD HB HQ ⊢;have HXR:=qh HX.AY;go_wp2_with (first|(refine lM 0 HXR.o ?_));refine(KS.o _ HP.o HOA.o).mono ?_;rintro e w1 ⟨⟨r,rfl⟩,hb⟩;obtain⟨HX,HD,HB,HP,HOA⟩:=Fq hb HX HD HB HP HOA;clear hb HXR;cases r
 ·go_wp2_with fail;exact HQ.o _ _ ⟨_,0,rfl,.inr ⟨rfl,rfl⟩,by omega,Aj.nil _ _,(by rw[hx0];exact HB.below)⟩
 ·have HDR:=qh HD.AY;go_wp2_with (first|(with_reducible refine lR 0 HDR.o ?_));refine Ac (KR.o _) ?_;rintro w2 hb;obtain⟨HX,HD,HB,HP,HOA⟩:=Fq hb HX HD HB HP HOA;clear hb HDR;have HDR:=qh HD.AY;go_wp2_with (first|(refine lM 0 HDR.o ?_));clear HDR;have hge2:=HB.le;go_loopw [17,5] (λi vb wr=>∃k x:Nat,k≤7∧i=.int .i64 k∧k≤x∧x≤k*10∧Aj wr gD vb x∧Base w2.heap.size w2 wr) (λi _ _=>7 - (intOf i).toNat);case atStart=>exact⟨0,0,by omega,rfl,by omega,by omega,Aj.nil _ _,Base.start _⟩
  case round=>
   obtain⟨k,x,hk,rfl,hx0',hx,ho,hb⟩:=hrel;have HO:=qh ho;have HX:=qh (HX.bel hb.below);have HB:=qh (HB.bel hb.below);have HP:=qh (HP.bel hb.below);have HOA:=qh (HOA.bel hb.below);have HW:=qh hb;obtain⟨pb2,cb2,rfl⟩:=ho.shape;clear ho hb;by_cases h1:k<7
   ·have hix:=fB d k h1;have hdk:=HDD.o k;generalize d k=dk at hix hdk;obtain⟨L,hL⟩:∃L,L=(DF d).toArray:=⟨_,rfl⟩;rw[←hL] at hix ⊢;clear hL;go_wp2_with fail;refine(KN.o _ _ _ _ HO.EI (by omega) (by omega)).mono ?_;rintro e w3 ⟨v3,m3,rfl,lo3,hi3,ho3,hb⟩;have hge3:=HB.le;obtain⟨HB,HW⟩:=DC hb HB HW;have HO:=qh (ho3.mono hge3);clear hb ho3 hix;go_wp2_with fail;go_roundw;case rel=>exact⟨k+1,m3,by omega,by go_num,by omega,by omega,HO.o,HW.o⟩
    case measure=>simp[intOf];omega
   ·obtain rfl:k=7:=by omega
    have HXR:=qh HX.AY;go_wp2_with (first|(refine lM 0 HXR.o ?_));refine(KP.o _ HP.o HOA.o).mono ?_;rintro e w3 ⟨v3,m3,rfl,hm3,ho3,hb⟩;have hge3:=HB.le;obtain⟨HB,HO⟩:=DC hb HB HO;clear HXR HP HOA HX;obtain⟨p3,c3,bs3,rfl,hn3,hmc3,hcm3,hb3⟩:=ho3.EI;have HS3:=qh hb3;obtain⟨bs,hbl,⟨hb256,hbx⟩,hrow⟩:=HO.o;have HRW:=qh hrow;have hl3:=hb3.len;clear hb ho3 hb3 hrow;go_wp2_with (first|(at_builtin;refine AZ rfl (.tmp 24) (.tmp 26) 127 rfl gD 5 (.int .u8 0) 1 1 rfl (by kernel_rfl) rfl (by decide) _ x (Aa bs) rfl HRW.o p3 m3 c3 (Aa bs3) rfl (by rw[BI,hl3,Nat.mul_one]) HS3.reads hn3 (DX _) (by unfold maxLen;omega) (by omega) HB.le ?_;intro v4 w4 ho4 hb4 hg4));have HB:=qh (⟨HB.below.trans hb4,Nat.le_trans HB.le hg4.size⟩:Base gD w w4);have HO4:=qh (show Aj w4 gD v4 (x+m3) from⟨bs++bs3,by rw[List.length_append,hbl,hl3],⟨λy hy=>(List.mem_append.1 hy).elim (hb256 y) (λh=>HS3.2.2.1 y h),by omega⟩,by rw[show Aa (bs++bs3)=Aa bs++Aa bs3 from List.map_append];exact ho4⟩);clear ho4 hb4 hg4 HRW HS3;obtain⟨p4,c4,bs4,rfl,hn4,hmc4,hcm4,hb4⟩:=HO4.EI;have h4l:=SumP.dI 0 bs4;have KO:=qh (TT p4 (x+m3) c4 bs4 w4 hb4);have KW:=qh (put_any p4 (x+m3) c4 bs4 4 (SumP.on 0 bs4) w4 hb4 hn4 (by omega) (by omega));clear hb4;generalize SumP.on 0 bs4=u at h4l KO KW;have hu:IntKind.u64.wrap (u:Int)=(u:Int):=IntWalk.u64_in _ ⟨by omega,by omega⟩;go_wp2_with (first|(refine KO.mono ?_;rintro e w5 ⟨rfl,rfl⟩));refine KW.mono ?_;rintro e w5 ⟨p5,c5,rfl,hc5,hm5,hb5,hn5,hbl5,ho5⟩;have hge4:=HB.le;have HB:=ET hbl5 HB;have HO5:=qh (show Aj w5 gD (.slice p5 (x+m3+I7 4) c5) (x+m3+I7 4) from Aj.mono ⟨_,hb5.len,⟨hb5.2.2.1,hb5.2.1⟩,ho5⟩ hge4);clear hb5 hbl5 ho5;have hc8:I7 4=4:=rfl;go_wp2_with fail;exact HQ.o _ _ ⟨_,x+m3+I7 4,rfl,.inl (by omega),by omega,by rw[hx0];exact HO5.o,by rw[hx0];exact HB.below⟩
structure Fl where
 nm:ByteArray
 p:Option Addr
 n:Nat
 c:Nat
 kept:Int
def Fl.zero:Fl:=⟨⟨#[]⟩,none,0,0,0⟩
def Fl.cells(p:Fl):List Value:=[.string p.nm,.slice p.p p.n p.c,.int .i64 p.kept]
theorem Fl.one(p:Fl):∀u∈p.cells,u.oneCell'=true:=by simp[Fl.cells,Value.oneCell']
theorem Fl.one'(p:Fl):p.cells.toArray.all (·.oneCell')=true:=by simp[Fl.cells,Value.oneCell']
theorem Fl.len(p:Fl):p.cells.length=3:=rfl
def eY(l:List Fl)(i:Nat):List Value:=(l.getD i .zero).cells
theorem OY(l:List Fl)(i j:Nat)(hi:i<l.length)(hj:j<3):(l.flatMap Fl.cells)[i*3+j]?=(eY l i)[j]?:=by
 induction l generalizing i with
 | nil=>simp at hi
 | cons p r ih=>
  rw[List.flatMap_cons];cases i with
  | zero=>
   rw[List.getElem?_append_left (by rw[Fl.len];omega)];simp[eY]
  | succ i=>
   rw[List.getElem?_append_right (by rw[Fl.len];omega),Fl.len,show (i+1)*3+j-3=i*3+j by omega,ih i (by simpa using hi)];simp[eY]
def Ii(l:List Fl):List Value:=l.flatMap Fl.cells
theorem Eo(l:List Fl):(Ii l).length=l.length*3:=by
 unfold Ii;induction l with
 | nil=>rfl
 | cons p r ih=>rw[List.flatMap_cons,List.length_append,ih,Fl.len,List.length_cons];omega
theorem YX(l:List Fl):flat 3 l.length (eY l)=Ii l:=by
 apply List.ext_getElem?;intro t;by_cases ht:t<l.length*3
 ·have e:t / 3*3+t % 3=t:=by omega
  have h1:=EP 3 l.length (eY l) (t / 3) (t % 3) (by omega) (by omega) rfl;have h2:=OY l (t / 3) (t % 3) (by omega) (by omega);rw[e] at h1 h2;rw[h1,←h2]
  rfl
 ·rw[List.getElem?_eq_none (by rw[BJ];omega),List.getElem?_eq_none (by rw[Eo];omega)]
theorem Oa(a b:List Fl):Ii (a++b)=Ii a++Ii b:=List.flatMap_append
theorem GK(p:Fl)(r:List Fl):Ii (p :: r)=p.cells++Ii r:=rfl
theorem Oc:∀(l:List Fl) (i:Nat),(Ii l).take (i*3)=Ii (l.take i)
 | [],i=>by simp[Ii]
 | p :: r,0=>by simp[Ii]
 | p :: r,i+1=>by rw[GK,List.take_succ_cons,GK,←Oc r i,show (i+1)*3=p.cells.length+i*3 by rw[Fl.len];omega,List.take_length_add_append]
theorem Ob:∀(l:List Fl) (i:Nat),(Ii l).drop (i*3)=Ii (l.drop i)
 | [],i=>by simp[Ii]
 | p :: r,0=>by simp[Ii]
 | p :: r,i+1=>by rw[GK,List.drop_succ_cons,←Ob r i,show (i+1)*3=p.cells.length+i*3 by rw[Fl.len];omega,List.drop_length_add_append]
theorem VR(l:List Fl):∀u∈Ii l,u.oneCell'=true:=λu hu=>by obtain⟨p,_,hp⟩:=List.mem_flatMap.1 hu;exact Fl.one p u hp
def BQ(w:World)(v:Value)(ob:Option Nat)(l:List Fl):Prop:=AO w v ob 129 3 l.length (Ii l)
theorem BQ.bel{w w':World}{v:Value}{ob:Option Nat}{l:List Fl}(h:BQ w v ob l)(hb:Below w.heap.size w w'):BQ w' v ob l:=AO.bel h hb
instance {w w':World}{v:Value}{ob:Option Nat}{l:List Fl}:Bl w w' (BQ w v ob l) (BQ w' v ob l):=⟨λhb h=>BQ.bel h hb⟩
theorem BQ.mv{w w':World}{F:Af}{v:Value}{ob:Option Nat}{l:List Fl}(h:BQ w v ob l)(hm:Mv F w w')(hn:∀g,ob=some g→¬F g):BQ w' v ob l:=AO.mv h hm hn
theorem BQ.rows{w:World}{v:Value}{ob:Option Nat}{l:List Fl}(h:BQ w v ob l):∃p c,v=.slice p l.length c∧l.length≤c∧c≤maxLen∧(p=none→c=0)∧Be w p l.length 3 (eY l):=AO.rows (V:=eY l) (by rw[YX];exact h) (λ_ _=>rfl) (by decide)
theorem BQ.nil(w:World):BQ w (.slice none 0 0) none []:=AO.nil _ _ _
def Am:List Fl→ByteArray→Nat × Bool
 | [],_=>(0,false)
 | p :: r,key=>if SpanP.lt p.nm key then ((Am r key).1+1,(Am r key).2) else (0,SpanP.same p.nm key)
theorem SC:∀(l:List Fl) (key:ByteArray) (k:Nat),(∀i,i<k→SpanP.lt (l.getD i .zero).nm key=true)→(k<l.length→SpanP.lt (l.getD k .zero).nm key=false→Am l key=(k,SpanP.same (l.getD k .zero).nm key))∧(k=l.length→Am l key=(k,false))
 | [],key,k,_=>⟨λh=>by simp at h,λh=>by simp at h;subst h;rfl⟩
 | p :: r,key,0,_=>⟨λ_ h=>by simp at h;simp[Am,h],λh=>by simp at h⟩
 | p :: r,key,k+1,h=>by
  have h0:=h 0 (by omega);have ih:=SC r key k λi hi=>by simpa using h (i+1) (by omega)
  simp only[List.getD_cons_zero] at h0;refine⟨λhk hl=>?_,λhk=>?_⟩
  ·have:=ih.1 (by simpa using hk) (by simpa using hl);simp[Am,h0,this]
  ·have:=ih.2 (by simpa using hk);simp[Am,h0,this]
theorem FO(l:List Fl)(key:ByteArray):(Am l key).1≤l.length∧((Am l key).2=true→(Am l key).1<l.length):=by
 induction l with
 | nil=>simp[Am]
 | cons p r ih=>unfold Am;split<;>simp<;>omega
theorem Wh(w:World)(a b:Nat)(ta tb:TypeId)(La Lb:List Value)(ha:Holds w a ta La)(hb:Holds w b tb Lb)(hne:a≠b)(hl:Lb≠[])(oa ob la ca lb cb:Nat) :(callFunc 280 #[.slice (some ⟨a,oa,none⟩) la ca,.slice (some ⟨b,ob,none⟩) lb cb]).run prog w=.ok (.value (.bool false)) w:=by
 rw[run_callFunc_extern func280 (by kernel_rfl) (by kernel_rfl) (by kernel_rfl) (e:=Extern.SlicesOverlaps.overlaps #[123,123] #[4]) (by kernel_rfl),Holds.over underlying123 3 (λw=>by kernel_rfl) ha hb hne hl oa ob la ca lb cb]
 rfl
def LW(ob:Option Nat)(l:List Fl)(w:World)(e:Ending)(w':World):Prop:=∃v' ob',e=.returned v'∧BQ w' v' ob' l∧(ob'=ob∨∃g,ob'=some g∧w.heap.size≤g)∧Mv (λk=>ob=some k) w w'
theorem Le(v:Value)(ob:Option Nat)(l:List Fl)(i:Nat)(bs:Nat)(x:Fl)(w:World)(h:BQ w v ob l)(hx:Holds w bs 129 x.cells)(hne:ob≠some bs)(hi:i≤l.length)(hl:l.length≤1000) :Calls prog 226 #[v,.int .i64 i,.slice (some ⟨bs,0,none⟩) 1 1] w (LW ob (l.take i++x :: l.drop i) w):=by
 have hlen:=h.len;have hone:=qh (VR l);have hxr:=qh (show Reads w (some ⟨bs,0,none⟩) x.cells from hx.reads 0 x.cells λj v hv=>by rw[Nat.zero_add];exact hv);have HX:=qh hx;have hA:Ii (l.take i++x :: l.drop i)=(Ii l).take (i*3)++(x.cells++(Ii l).drop (i*3)):=by rw[Oa,GK,Oc,Ob]
 have hAl:(l.take i++x :: l.drop i).length=l.length+1:=by simp;omega
 have hP:∀e w',(∃v' ob',e=Ending.returned v'∧AO w' v' ob' 129 3 (l.length+1) ((Ii l).take (i*3)++(x.cells++(Ii l).drop (i*3)))∧(ob'=ob∨∃g,ob'=some g∧w.heap.size≤g)∧Mv (λk=>ob=some k) w w')→LW ob (l.take i++x :: l.drop i) w e w':=by intro e w' h;unfold LW BQ;rw[hA,hAl];exact h
 unfold BQ at h;generalize LW ob (l.take i++x :: l.drop i) w=D at hP ⊢;have HP:=qh hP;clear hP;have HA:=qh (Eo l);generalize Ii l=L at h hlen hone HA HP;generalize l.length=n at h hi hl hlen HA HP;clear hA hAl;rcases Nat.lt_or_ge i n with hin|hin
 ·obtain⟨g,cap,rest,rfl,rfl,h1,h2,h3,h4⟩:=h.blk (by omega);have hgb:bs≠g:=λe=>hne (by rw[e]);have hz2:¬((i:Int)=(n:Int)):=by omega
  have H3:=qh h3;have HM:=qh (Mv.refl (λk=>some g=some k) w);by_cases hroom:n+1≤cap
  ·have hov:∀lb cb,(callFunc 280 #[.slice (some ⟨bs,0,none⟩) 1 1,.slice (some ⟨g,(i+1)*3,none⟩) lb cb]).run prog w=.ok (.value (.bool false)) w:=λlb cb=>
    Wh w bs g _ _ _ _ HX.o h3 hgb (by intro e;rw[e] at h4;simp at h4;omega) _ _ _ _ _ _
   have hgt:((cap:Int)<(n:Int)+1)=False:=by simp;omega
   have hi0:(0:Int)≤i:=by omega
   have hin':i≤n:=Nat.le_of_lt hin;have hw1:IntKind.i64.wrap ((i:Int)+1)=(i:Int)+1:=by rw[IntKind.wrap_i64];omega
   have hw2:IntKind.i64.wrap ((n:Int)+1)=(n:Int)+1:=by rw[IntKind.wrap_i64];omega
   have hb5:(0:Int)≤(i:Int)+1:=by omega
   have hb6:(i:Int)+1≤(n:Int)+1:=by omega
   have hb8:(n:Int)+1≤cap:=by omega
   have htn:((i:Int)+1).toNat=i+1:=by omega
   have htn2:((n:Int)+1).toNat=n+1:=by omega
   have hc2:(cap=i)=False:=by simp;omega
   have hc3:(cap=i+1)=False:=by simp;omega
   have hz3:(i:Int)≤(n:Int)+1:=by omega
   have hdl:=qh (show (L.drop (i*3)).length=(n-i)*3 by rw[List.length_drop];omega);have HLL:=qh h4;have hg1:g<w.heap.size:=h3.lt;have hb1:bs<w.heap.size:=HX.lt;clear h3 h;go_in;go_upto_region 15 with(simp only[hov]);obtain⟨H3,HX,HM⟩:=Du (AQ _ w) H3 HX HM;have hdr:∀(j:Nat) v,(L.drop (i*3))[j]?=some v→w.drew.cell? ⟨g,i*3+j,none⟩=some v:=λj v hj=>by rw[H3.cell];rw[List.getElem?_drop] at hj;rw[List.getElem?_append_left (List.getElem?_eq_some_iff.1 hj).1];exact hj
   have HDR:=qh hdr;clear hdr hov
   go_region_law (refine Gm rfl (.tmp 73) (.tmp 76) 123 123 rfl 129 rfl 3 (by kernel_rfl) g ((i+1)*3) (n+1 - (i+1)) (cap - (i+1)) g (i*3) (n+1-i) (cap-i) (by simp[Act.eval,Act.put]) (by simp[Act.eval,Act.put]) _ _ H3.o (L.drop (i*3)) (by rw[hdl.out,show Nat.min (n+1-i) (n+1 - (i+1))=n-i from by rw[show n+1 - (i+1)=n-i by omega];exact Nat.min_eq_right (by omega)]) HDR.o (by have:=HLL.o;have h2:=hdl.out;omega) (λu hu=>hone.out u (List.mem_of_mem_drop hu)) ?_;intro w3 hh3 ht3)
   have HX:=qh (HX.mv (Mv.AU (F:=λk=>k=g) ht3 rfl) hgb);have HM:=qh (HM.touch ht3 (.inl rfl));have HN:=qh hh3;have hls:(splice (L++rest) ((i+1)*3) (L.drop (i*3))).length=cap*3:=by rw[length_splice _ _ _ (by have:=HLL.o;have h2:=hdl.out;omega)];exact HLL.o
   have HLS:=qh hls;clear hh3 ht3 hls;go_wp2_with (first|(refine FZ rfl (.tmp 80) (.tmp 81) 123 123 rfl 129 rfl 3 (by kernel_rfl) g (i*3) (n+1-i) (cap-i) bs 0 1 1 rfl rfl _ _ HN.o x.cells (by rw[show Nat.min 1 (n+1-i)=1 from Nat.min_eq_left (by omega)];rfl) (λj v hj=>by rw[Nat.zero_add,HX.cell];exact hj) (by rw[Fl.len,HLS.o];omega) (Fl.one x) ?_;intro w4 hh4 ht4));have HM:=qh (HM.touch ht4 (.inl rfl));have h5:=hh4;have hd3:(L.drop (i*3)).length=(n-i)*3:=hdl.out;have hrl:=HLL.o;rw[List.length_append] at hrl;have e1:splice (splice (L++rest) ((i+1)*3) (L.drop (i*3))) (i*3) x.cells=(L.take (i*3)++(x.cells++L.drop (i*3)))++(L++rest).drop ((i+1)*3+(L.drop (i*3)).length):=by
    have e2:(splice (L++rest) ((i+1)*3) (L.drop (i*3))).take (i*3)=L.take (i*3):=by unfold splice;rw[List.take_append_of_le_length (by simp;omega),List.take_take,Nat.min_eq_left (by omega),List.take_append_of_le_length (by omega)]
    have e3:(splice (L++rest) ((i+1)*3) (L.drop (i*3))).drop (i*3+3)=L.drop (i*3)++(L++rest).drop ((i+1)*3+(L.drop (i*3)).length):=by unfold splice;exact List.drop_left' (by simp;omega)
    rw[show splice (splice (L++rest) ((i+1)*3) (L.drop (i*3))) (i*3) x.cells=(splice (L++rest) ((i+1)*3) (L.drop (i*3))).take (i*3)++(x.cells++(splice (L++rest) ((i+1)*3) (L.drop (i*3))).drop (i*3+3)) from rfl,e2,e3];simp only[List.append_assoc]
   rw[e1] at h5;refine HP.o _ _ ⟨_,some g,rfl,AO.mk' h5 ?_ ?_ hroom h2,.inl rfl,HM.o⟩
   ·simp only[List.length_append,List.length_take,Fl.len,hd3];omega
   ·simp only[List.length_append,List.length_take,List.length_drop,Fl.len,hd3];omega
  ·go_in;have hgt:(cap:Int)<(n:Int)+1:=by omega
   have hi0:(0:Int)≤i:=by omega
   have hie:i≤cap:=by omega
   have htk:∀(j:Nat) v,(L.take (i*3))[j]?=some v→w.cell? ⟨g,0+j,none⟩=some v:=λj v hj=>by
    rw[List.getElem?_take] at hj;split at hj
    ·rw[Nat.zero_add,H3.cell,List.getElem?_append_left (by omega)];exact hj
    ·cases hj
   have HTK:=qh htk;have htl:=qh (show (L.take (i*3)).length=i*3 by rw[List.length_take];omega);clear htk;have hz3:(i:Int)≤(n:Int)+1:=by omega
   have hz4:(0:Int)≤(n:Int)+1-i:=by omega
   go_upto_region 10 with(first|(at_builtin;refine Gh rfl (.tmp 34) (.tmp 39) 123 3 rfl 129 (.agg #[.string ⟨#[]⟩,.slice none 0 0,.int .i64 0]) 3 48 rfl .i64 .i64 rfl (by kernel_rfl) rfl (by decide) g 0 i cap (n+1-i) rfl (by show Value.int _ _=_;congr 1;omega) (by omega) (L.take (i*3)) htl.out HTK.o (by omega) (by unfold maxLen;omega) (by omega) ?_;intro w1 cap1 Z hh1 hl1 hc1 hm1 hb1 hs1));have hnn:i+(n+1-i)=n+1:=by omega
   rw[hnn] at hc1 ⊢;have HN:=qh hh1;have HB:=qh hb1;have HL:=qh hl1;clear hh1 hb1 hnn htl;have hg1:g<w.heap.size:=H3.lt;have hb1:bs<w.heap.size:=HX.lt;have H3:=qh (H3.bel HB.o);have HX:=qh (HX.bel HB.o);have hxr:=qh (hxr.below HB.o);have HM:=qh (HM.bel HB.o);generalize hG:w.heap.size=G at HN hg1 hb1 hs1 ⊢;have hc2:(cap1=i)=False:=by simp;omega
   have hc3:(cap1=i+1)=False:=by simp;omega
   go_upto_region 11 with(first|(refine FZ rfl (.tmp 43) (.tmp 44) 123 123 rfl 129 rfl 3 (by kernel_rfl) G (i*3) (n+1-i) (cap1-i) bs 0 1 1 rfl rfl _ _ HN.o x.cells (by rw[show Nat.min 1 (n+1-i)=1 from Nat.min_eq_left (by omega)];rfl) (λj v hj=>by rw[Nat.zero_add,HX.cell];exact hj) (by rw[Fl.len];have:=HL.o;omega) (Fl.one x) ?_;intro w2 hh2 ht2));rw[Gt _ _ _ _ (by rw[List.length_take];omega)] at hh2;have hw2:G<w2.heap.size:=by have:=ht2.size;omega
   have HN:=qh (hh2.bel (AQ _ w2));have H3:=qh ((H3.mv (Mv.AU (F:=λk=>k=G) ht2 rfl) (by omega)).bel (AQ _ w2));have HM:=qh ((HM.touch ht2 (.inr (by omega))).bel (AQ _ w2));clear hh2 ht2 HB hxr HX;have hdl:=qh (show (L.drop (i*3)).length=(n-i)*3 by rw[List.length_drop];omega);have hdr:∀(j:Nat) v,(L.drop (i*3))[j]?=some v→w2.drew.cell? ⟨g,i*3+j,none⟩=some v:=λj v hj=>by rw[H3.cell];rw[List.getElem?_drop] at hj;rw[List.getElem?_append_left (List.getElem?_eq_some_iff.1 hj).1];exact hj
   have HDR:=qh hdr;clear hdr;have hw1:IntKind.i64.wrap ((i:Int)+1)=(i:Int)+1:=by rw[IntKind.wrap_i64];omega
   have hb5:(0:Int)≤(i:Int)+1:=by omega
   have hb6:(i:Int)+1≤(n:Int)+1:=by omega
   have htn:((i:Int)+1).toNat=i+1:=by omega
   have hb7:(cap=i)=False:=by simp;omega
   go_region_law (refine Gm rfl (.tmp 50) (.tmp 53) 123 123 rfl 129 rfl 3 (by kernel_rfl) G ((i+1)*3) (n+1 - (i+1)) (cap1 - (i+1)) g (i*3) (n-i) (cap-i) (by simp[Act.eval,Act.put]) (by simp[Act.eval,Act.put]) _ _ HN.o (L.drop (i*3)) (by rw[hdl.out,show Nat.min (n-i) (n+1 - (i+1))=n-i from by rw[show n+1 - (i+1)=n-i by omega];exact Nat.min_self _]) HDR.o (by simp only[List.length_append,List.length_drop,List.length_take,Fl.len];have:=HL.o;simp only[List.length_append,List.length_take] at this;omega) (λu hu=>hone.out u (List.mem_of_mem_drop hu)) ?_;intro w3 hh3 ht3)
   have hd3:(L.drop (i*3)).length=(n-i)*3:=hdl.out;rw[←List.append_assoc,Gt _ _ _ _ (by rw[List.length_append,List.length_take,Fl.len];omega),List.append_assoc] at hh3;have HN:=qh hh3;have HM:=qh (HM.touch ht3 (.inr (by omega)));clear hh3 ht3;go_wp2_with fail;refine HP.o _ _ ⟨_,some G,rfl,?_,.inr ⟨G,rfl,by omega⟩,HM.o⟩;have h5:=HN.o;have hll:((L.take (i*3)).length+Z.length)=cap1*3:=by have:=HL.o;rwa [List.length_append] at this
   rw[List.length_take] at hll;refine AO.mk' (rest:=?_) (by simpa only[List.append_assoc] using h5) ?_ ?_ hc1 hm1
   ·simp only[List.length_append,List.length_take,Fl.len,hd3];omega
   ·simp only[List.length_append,List.length_take,List.length_drop,Fl.len,hd3];omega
 ·obtain rfl:i=n:=by omega
  have e1:L.take (i*3)=L:=List.take_of_length_le (by omega);have e2:L.drop (i*3)=[]:=List.drop_eq_nil_of_le (by omega);rw[e1,e2,List.append_nil] at HP;clear e1 e2;have HO:=qh h;have hn:=qh (show v.ownBlock=ob from h.ob);have hcs:v=.slice none 0 0∧i=0∨(∃g,v=.slice (some ⟨g,0,none⟩) i i)∨∃g cap,v=.slice (some ⟨g,0,none⟩) i cap∧(cap=i)=False:=by
   rcases h.cases with⟨rfl,rfl,rfl,_⟩|⟨g,cap,rest,rfl,rfl,h1,h2,h3,h4⟩
   ·exact .inl ⟨rfl,rfl⟩
   ·rcases Nat.eq_or_lt_of_le h1 with rfl|h
    ·exact .inr (.inl ⟨_,rfl⟩)
    ·exact .inr (.inr ⟨_,_,rfl,by simp;omega⟩)
  clear h hn;rcases hcs with⟨rfl,rfl⟩|⟨g,rfl⟩|⟨g,cap,rfl,hcc⟩;all_goals
   go_in;go_wp2_with (first|(at_builtin;refine aS (.agg #[.string ⟨#[]⟩,.slice none 0 0,.int .i64 0]) 3 48 HO.o x.cells hxr.out ?_ (Fl.one x);intro v2 ob2 w2 ho2 hob2 hm2));have HO:=qh ho2;have HB:=qh hob2;have HM:=qh hm2;clear ho2 hob2 hm2;exact HP.o _ _ ⟨_,_,rfl,HO.o,HB.o,HM.o⟩
theorem YR(g n cap i:Nat)(L:List Value)(w:World)(h:AO w (.slice (some ⟨g,0,none⟩) n cap) (some g) 129 3 n L)(hone:∀u∈L,u.oneCell'=true)(hi:i<n)(hn:n≤1000) :Calls prog 196 #[.slice (some ⟨g,0,none⟩) n cap,.int .i64 i,.int .i64 ((i:Int)+1)] w λe w'=>e=.returned (.slice (some ⟨g,0,none⟩) (n-1:Nat) cap)∧AO w' (.slice (some ⟨g,0,none⟩) (n-1:Nat) cap) (some g) 129 3 (n-1) (L.take (i*3)++L.drop ((i+1)*3))∧Touch g w w':=by
 have hlen:=h.len;obtain⟨g',cap',rest,hv,hg',h1,h2,h3,h4⟩:=h.blk (by omega);cases hg';injection hv with _ _ hcc;subst hcc;have H3:=qh h3;have H4:=qh h4;have HT:=qh (Touch.refl g w);have HO:=qh hone;have hi0:(0:Int)≤i:=by omega
 have hw1:IntKind.i64.wrap ((i:Int)+1)=(i:Int)+1:=by rw[IntKind.wrap_i64];omega
 have hb5:(0:Int)≤(i:Int)+1:=by omega
 have hb6:(i:Int)+1≤n:=by omega
 have hb7:(i:Int)≤(i:Int)+1:=by omega
 have hb8:(n:Int)≤cap:=by omega
 have hb9:(i:Int)≤n:=by omega
 have hb10:(i:Int)≤cap:=by omega
 have htn:((i:Int)+1).toNat=i+1:=by omega
 have hnn:(cap=n-1)=False:=by simp;omega
 have hni:(n=i)=False:=by simp;omega
 have hcc:cap=i+1∨(cap=i+1)=False:=by by_cases h:cap=i+1<;>simp[h]
 have hne:((i:Int)=(i:Int)+1)=False:=by simp;omega
 have htl:(L.take (i*3)).length=i*3:=by rw[List.length_take];omega
 have hdl:(L.drop ((i+1)*3)).length=(n - (i+1))*3:=by rw[List.length_drop];omega
 clear h hlen hone;go_in;go_upto_region 5 with(fail);obtain⟨H3,HT⟩:=DC (AQ _ w) H3 HT;have hown:=qh (show AO w.drew (.slice (some ⟨g,0,none⟩) i cap) (some g) 129 3 i (L.take (i*3)) from AO.mk' (rest:=L.drop (i*3)++rest) (by rw[←List.append_assoc,List.take_append_drop];exact H3.o) htl (by rw[←List.append_assoc,List.take_append_drop];exact H4.o) (by omega) h2);have hsr:∀off,(i+1<n→off=(i+1)*3)→∀(j:Nat) v,(L.drop ((i+1)*3))[j]?=some v→w.drew.cell? ⟨g,off+j,none⟩=some v:=λoff ho j v hj=>by have hj2:=(List.getElem?_eq_some_iff.1 hj).1;rw[hdl] at hj2;rw[ho (by omega),H3.cell];rw[List.getElem?_drop] at hj;rw[List.getElem?_append_left (List.getElem?_eq_some_iff.1 hj).1];exact hj
 have HSR:=qh hsr;clear hsr;obtain⟨C,hC⟩:∃C,C=cap:=⟨_,rfl⟩;have HC:=qh hC;clear hC;rcases hcc with rfl|hcc;all_goals
  go_region_law (first|(refine FW rfl (.tmp 22) (.tmp 25) 123 rfl 129 (.agg #[.string ⟨#[]⟩,.slice none 0 0,.int .i64 0]) 3 48 rfl (by kernel_rfl) g i _ _ (by simp[Act.eval,Act.put]) hown.out 0 (n - (i+1)) 0 (L.drop ((i+1)*3)) (by simp[Act.eval,Act.put]<;>omega) hdl (HSR.o 0 (by omega)) (λu hu=>HO.o u (List.mem_of_mem_drop hu)) (by omega) ?_;intro w3 ho3 ht3)|(refine FW rfl (.tmp 22) (.tmp 25) 123 rfl 129 (.agg #[.string ⟨#[]⟩,.slice none 0 0,.int .i64 0]) 3 48 rfl (by kernel_rfl) g i _ _ (by simp[Act.eval,Act.put]) hown.out ((i+1)*3) (n - (i+1)) (cap - (i+1)) (L.drop ((i+1)*3)) (by simp[Act.eval,Act.put]<;>omega) hdl (HSR.o _ (λ_=>rfl)) (λu hu=>HO.o u (List.mem_of_mem_drop hu)) (by omega) ?_;intro w3 ho3 ht3))
  have hnm:i+(n - (i+1))=n-1:=by omega
  rw[hnm] at ho3;try rw[hnm]
  have HT:=qh (HT.trans ht3);obtain⟨g3,cap3,rest3,hv3,hg3,_,_,hh3,hl3⟩:=(show AO w3 _ _ _ 3 (n-1) _ from ho3).cases.resolve_left (by rintro⟨hv,_⟩;cases hv);cases hg3;injection hv3 with _ _ hc3;subst hc3;have HH:=qh hh3;have HL3:=qh hl3;have hll:(L.take (i*3)++L.drop ((i+1)*3)).length=(n-1)*3:=by rw[List.length_append,htl,hdl];omega
  have hrl:3≤rest3.length:=by rw[List.length_append,hll] at hl3;omega
  have hin0:i+1≤n:=hi;have hin1:(i:Int)≤(n:Int):=by omega
  have hn1:((n-1:Nat):Int)≤(n:Int):=by omega
  have hlt:=qh hll;have hni1:n-i=1∨i+1<n:=by omega
  obtain⟨M,hM⟩:∃M,M=L.take (i*3)++L.drop ((i+1)*3):=⟨_,rfl⟩;rw[←hM] at HH HL3 hlt hll;have HMq:=qh hM;clear hM;clear ho3 ht3 hh3 hl3 hnm hown HSR H3;go_wp2_with (first|(refine ES rfl (.tmp 31) 123 rfl rfl 129 (.agg #[.string ⟨#[]⟩,.slice none 0 0,.int .i64 0]) rfl (by kernel_rfl) g _ _ _ (by omega) rfl _ 129 HH.o Fl.zero.cells (by first|(rw[show n-i=1 by omega];kernel_rfl)|(rw[show n - (n-1)=1 by omega];kernel_rfl)) (by rw[List.length_append,hll,Fl.len];omega) (Fl.one _) ?_;intro w5 hh5 ht5));rw[Gt _ _ _ _ (by omega)] at hh5;have hC:=HC.o;refine bodyPost_ret (v:=.slice (some ⟨g,0,none⟩) (n-1:Nat) C) (by simp[results,results196,go_sem];omega) rfl ?_;rw[←HMq.o];refine⟨by rw[hC],AO.mk' hh5 hll ?_ (by omega) h2,HT.trans ht5⟩;have hl3:=HL3.o;rw[List.length_append] at hl3;simp only[List.length_append,List.length_drop,Fl.len];omega
end Go.Proofs.YtimdpiifpibgfaaGreatDoor
