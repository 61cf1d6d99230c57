/- A part of the proof that the law TopCopies returns true for every input. -/
import Derived.Test.YtimdpiifpibgfaaGreatDoorQc11
set_option linter.all false
set_option maxRecDepth 20000
set_option maxHeartbeats 16000000
open Go.RowKit Go.Maps
namespace Go.Proofs.YtimdpiifpibgfaaGreatDoor
open Tryz
def Xm(l:List Pr)(w:World)(e:Ending)(w':World):Prop:=∃v' ob',e=.returned (.tuple #[v',.int .i64 0])∧AV w' v' ob' l∧(∀g,ob'=some g→w.heap.size≤g)∧Below w.heap.size w w'
theorem jd(v:Value)(ob:Option Nat)(l:List Pr)(key val:ByteArray)(w:World)(h:AV w v ob l)(hl:l.length<32)(hv:∀p∈l,0≤p.n∧p.n≤1000000) :Calls prog 181 #[v,.string key,.string val] w (Xm (MP l key val) w):=by
 have KF:=qh (λW hW=>MO v ob l key W hW);have KC:=qh (λW hW=>E9 v ob l W hW (by omega));have KI:=qh (λv2 ob2 (i bs:Nat) W (h1:AV W v2 ob2 l) (h2:Holds W bs 69 (⟨key,⟨#[]⟩,0⟩:Pr).cells) h3 h4=>Qn v2 ob2 l i bs ⟨key,⟨#[]⟩,0⟩ W h1 h2 h3 h4 (by omega));have hle:=IZ l key;have hold:=Yp l key val;have hnew:=Yo l key val;obtain⟨p,c,rfl,hlc,hcm,_,hr⟩:=h.rows;have H:=qh h;have HB:=qh (Base.start w);have hv0:∀i,i<l.length→0≤(l.getD i .zero).n∧(l.getD i .zero).n≤1000000:=λi hi=>by rw[List.getD_eq_getElem?_getD,List.getElem?_eq_getElem hi];exact hv _ (List.getElem_mem hi)
 generalize MP l key val=lz at hold hnew ⊢;generalize Dq l key=F at KF hle hold hnew;obtain⟨i,b⟩:=F;simp only[Prod.mk.injEq] at KF hle hold hnew;have HV:=qh hv0;have hl32:((l.length:Int) ≥ 32)=False:=by simp;omega
 have hfull:((32:Int)≤(l.length:Int))=False:=by simp;omega
 clear h hr hv hv0;cases b
 case' false=>
  have HK:=qh (hnew i hle.1 ⟨rfl,rfl⟩);clear hold hnew;go_in;go_wp2_with fail;refine Ac (KF.o _ H.o) ?_;rintro w1 hb;obtain⟨H,HB⟩:=DC hb H HB;clear hb;go_wp2_with fail;refine(KC.o _ H.o).mono ?_;rintro e w2 ⟨v2,ob2,rfl,hp2,hob2,hb⟩;have hs1:=HB.le;have HB:=ET hb HB;have HP:=qh hp2;have hs2:=hb.size;clear hb hp2 H KF KC;go_wp2_with fail;have HN:=qh (AA w2 69 [.string key,.string ⟨#[]⟩,.int .i64 0]);have hal:Below w2.heap.size w2 (w2.alloc (.cells #[.string key,.string ⟨#[]⟩,.int .i64 0] 69)):=by go_grown
  have hne:ob2≠some w2.heap.size:=λe=>by have:=HP.lt _ e;omega
  obtain⟨HP,HB⟩:=DC hal HP HB;clear hal;generalize w2.alloc (.cells #[.string key,.string ⟨#[]⟩,.int .i64 0] 69)=w5 at HN HB HP ⊢;generalize w2.heap.size=gn at HN hne hs2 ⊢;refine(KI.o _ _ _ _ _ HP.o HN.o hne hle.1).mono ?_;rintro e wz ⟨v1,ob1,rfl,hp1,hob1,hm1⟩;have hs5:=HB.le;have hob:∀g,ob1=some g→w.heap.size≤g:=λg hg=>by
   rcases hob1 with h1|⟨k,h1,h2⟩
   ·rw[h1] at hg;exact Nat.le_trans hs1 (hob2 g hg)
   ·rw[h1] at hg;cases hg;omega
  have HB:=qh (HB.mv hm1 λk hk=>Nat.le_trans hs1 (hob2 k hk));obtain⟨l1,hl1⟩:∃l1,l1=l.take i++(⟨key,⟨#[]⟩,0⟩:Pr) :: l.drop i:=⟨_,rfl⟩;rw[←hl1] at hp1 HK;have HP:=qh hp1;have hi1:i<l1.length:=by rw[hl1];simp;omega
  have hn1:(l1.getD i .zero).n=0:=by
   rw[hl1,List.getD_eq_getElem?_getD,List.getElem?_append_right (by simp;omega),List.length_take,Nat.min_eq_left hle.1,Nat.sub_self]
   rfl
  have HVN:=qh (show 0≤(l1.getD i .zero).n∧(l1.getD i .zero).n≤1000000 by rw[hn1];omega);clear hn1 hl1 hp1 hob1 hm1 hob2 HN KI
 case' true=>
  have HK:=qh (hold i ⟨rfl,rfl⟩);clear hold hnew;go_in;go_wp2_with fail;refine Ac (KF.o _ H.o) ?_;rintro w1 hb;obtain⟨H,HB⟩:=DC hb H HB;clear hb;go_wp2_with fail;refine(KC.o _ H.o).mono ?_;rintro e wz ⟨v1,ob1,rfl,hp2,hob2,hb⟩;have hs1:=HB.le;have HB:=ET hb HB;obtain⟨l1,rfl⟩:∃l1,l1=l:=⟨_,rfl⟩;have HP:=qh hp2;have hi1:i<l1.length:=by simpa using hle.2
  have hob:∀g,ob1=some g→w.heap.size≤g:=λg hg=>Nat.le_trans hs1 (hob2 g hg);have HVN:=qh (HV.o i hi1);clear hb hp2 H KF KC KI
 all_goals
  obtain⟨g,cap,rest,rfl,rfl,hc1,hcm1,hh,hln⟩:=AO.blk HP.o (by omega);have HG:=qh (hob g rfl);have HH:=qh hh;have HLN:=qh hln;have hil:i*3+2<(J7 l1++rest).length:=by rw[List.length_append,Ip];omega
  have h1i:i*3+1<(J7 l1++rest).length:=by omega
  have hii:(0:Int)≤(i:Int):=by omega
  have hilt:(i:Int)<(l1.length:Int):=by omega
  have f2:=hh.cell (i*3+2);rw[Y7 l1 i rest hi1] at f2;obtain⟨n,hn⟩:∃n,n=(l1.getD i .zero).n:=⟨_,rfl⟩;rw[←hn] at f2 HVN;have hn0:0≤n∧n≤1000000:=HVN.o;have hn1:IntKind.i64.wrap (n+1)=n+1:=by rw[IntKind.wrap_i64];omega
  have HN:=qh hn;clear hob hh hln hn HP;go_wp2_with (first|(refine Cb rfl 9 (.tmp 38) (.tmp 36) rfl rfl g (i*3+1) 69 _ HH.o h1i rfl (.string val) rfl rfl (by kernel_rfl) rfl ?_;intro w7 hh7 ht7;have HH7:=qh hh7;have f2:=hh7.cell (i*3+2);rw[List.getElem?_set_ne (by omega),Y7 l1 i rest hi1,←HN.o] at f2;have HB:=qh (HB.touch ht7 HG.o);clear hh7 ht7)|(refine Cb rfl 3 (.tmp 46) (.tmp 44) rfl rfl g (i*3+2) 69 _ HH7.o (by rw[List.length_set];exact hil) rfl (.int .i64 (n+1)) rfl rfl (by kernel_rfl) rfl ?_;intro w8 hh8 ht8;have HH8:=qh hh8;have HB:=qh (HB.touch ht8 HG.o);clear hh8 ht8));have h8:=HH8.o;rw[Vk l1 i val (n+1) rest hi1,HN.o] at h8;exact bodyPost_ret (v:=.tuple #[.slice (some ⟨g,0,none⟩) l1.length cap,.int .i64 0]) (by simp[results,results181,go_sem]) rfl
   ⟨_,some g,rfl,by rw[HK.o,AV,List.length_set];exact AO.mk' h8 (by rw[Ip,List.length_set]) (by rw[List.length_append,Ip,List.length_set,←Ip,←List.length_append];exact HLN.o) hc1 hcm1,(λk hk=>by cases hk;exact HG.o),HB.below⟩
theorem YT(g n cap i:Nat)(L:List Value)(w:World)(h:AO w (.slice (some ⟨g,0,none⟩) n cap) (some g) 69 3 n L)(hone:∀u∈L,u.oneCell'=true)(hi:i<n)(hn:n≤1000) :Calls prog 241 #[.slice (some ⟨g,0,none⟩) n cap,.int .i64 i,.int .i64 ((i:Int)+1)] w λe w'=>e=.returned (.slice (some ⟨g,0,none⟩) (n-1:Nat) cap)∧AO w' (.slice (some ⟨g,0,none⟩) (n-1:Nat) cap) (some g) 69 3 (n-1) (L.take (i*3)++L.drop ((i+1)*3))∧Touch g w w':=by
 have hlen:=h.len;obtain⟨g',cap',rest,hv,hg',h1,h2,h3,h4⟩:=h.blk (by omega);cases hg';injection hv with _ _ hcc;subst hcc;have H3:=qh h3;have H4:=qh h4;have HT:=qh (Touch.refl g w);have HO:=qh hone;have hi0:(0:Int)≤i:=by omega
 have hw1:IntKind.i64.wrap ((i:Int)+1)=(i:Int)+1:=by rw[IntKind.wrap_i64];omega
 have hb5:(0:Int)≤(i:Int)+1:=by omega
 have hb6:(i:Int)+1≤n:=by omega
 have hb7:(i:Int)≤(i:Int)+1:=by omega
 have hb8:(n:Int)≤cap:=by omega
 have hb9:(i:Int)≤n:=by omega
 have hb10:(i:Int)≤cap:=by omega
 have htn:((i:Int)+1).toNat=i+1:=by omega
 have hnn:(cap=n-1)=False:=by simp;omega
 have hni:(n=i)=False:=by simp;omega
 have hcc:cap=i+1∨(cap=i+1)=False:=by by_cases h:cap=i+1<;>simp[h]
 have hne:((i:Int)=(i:Int)+1)=False:=by simp;omega
 have htl:(L.take (i*3)).length=i*3:=by rw[List.length_take];omega
 have hdl:(L.drop ((i+1)*3)).length=(n - (i+1))*3:=by rw[List.length_drop];omega
 clear h hlen hone;go_in;go_upto_region 5 with(fail);obtain⟨H3,HT⟩:=DC (AQ _ w) H3 HT;have hown:=qh (show AO w.drew (.slice (some ⟨g,0,none⟩) i cap) (some g) 69 3 i (L.take (i*3)) from AO.mk' (rest:=L.drop (i*3)++rest) (by rw[←List.append_assoc,List.take_append_drop];exact H3.o) htl (by rw[←List.append_assoc,List.take_append_drop];exact H4.o) (by omega) h2);have hsr:∀off,(i+1<n→off=(i+1)*3)→∀(j:Nat) v,(L.drop ((i+1)*3))[j]?=some v→w.drew.cell? ⟨g,off+j,none⟩=some v:=λoff ho j v hj=>by have hj2:=(List.getElem?_eq_some_iff.1 hj).1;rw[hdl] at hj2;rw[ho (by omega),H3.cell];rw[List.getElem?_drop] at hj;rw[List.getElem?_append_left (List.getElem?_eq_some_iff.1 hj).1];exact hj
 have HSR:=qh hsr;clear hsr;obtain⟨C,hC⟩:∃C,C=cap:=⟨_,rfl⟩;have HC:=qh hC;clear hC;rcases hcc with rfl|hcc;all_goals
  go_region_law (first|(refine FW rfl (.tmp 22) (.tmp 25) 51 rfl 69 (.agg #[.string ⟨#[]⟩,.string ⟨#[]⟩,.int .i64 0]) 3 40 rfl (by kernel_rfl) g i _ _ (by simp[Act.eval,Act.put]) hown.out 0 (n - (i+1)) 0 (L.drop ((i+1)*3)) (by simp[Act.eval,Act.put]<;>omega) hdl (HSR.o 0 (by omega)) (λu hu=>HO.o u (List.mem_of_mem_drop hu)) (by omega) ?_;intro w3 ho3 ht3)|(refine FW rfl (.tmp 22) (.tmp 25) 51 rfl 69 (.agg #[.string ⟨#[]⟩,.string ⟨#[]⟩,.int .i64 0]) 3 40 rfl (by kernel_rfl) g i _ _ (by simp[Act.eval,Act.put]) hown.out ((i+1)*3) (n - (i+1)) (cap - (i+1)) (L.drop ((i+1)*3)) (by simp[Act.eval,Act.put]<;>omega) hdl (HSR.o _ (λ_=>rfl)) (λu hu=>HO.o u (List.mem_of_mem_drop hu)) (by omega) ?_;intro w3 ho3 ht3))
  have hnm:i+(n - (i+1))=n-1:=by omega
  rw[hnm] at ho3;try rw[hnm]
  have HT:=qh (HT.trans ht3);obtain⟨g3,cap3,rest3,hv3,hg3,_,_,hh3,hl3⟩:=(show AO w3 _ _ _ 3 (n-1) _ from ho3).cases.resolve_left (by rintro⟨hv,_⟩;cases hv);cases hg3;injection hv3 with _ _ hc3;subst hc3;have HH:=qh hh3;have HL3:=qh hl3;have hll:(L.take (i*3)++L.drop ((i+1)*3)).length=(n-1)*3:=by rw[List.length_append,htl,hdl];omega
  have hrl:3≤rest3.length:=by rw[List.length_append,hll] at hl3;omega
  have hin0:i+1≤n:=hi;have hin1:(i:Int)≤(n:Int):=by omega
  have hn1:((n-1:Nat):Int)≤(n:Int):=by omega
  have hlt:=qh hll;have hni1:n-i=1∨i+1<n:=by omega
  obtain⟨M,hM⟩:∃M,M=L.take (i*3)++L.drop ((i+1)*3):=⟨_,rfl⟩;rw[←hM] at HH HL3 hlt hll;have HMq:=qh hM;clear hM;clear ho3 ht3 hh3 hl3 hnm hown HSR H3;go_wp2_with (first|(refine ES rfl (.tmp 31) 51 rfl rfl 69 (.agg #[.string ⟨#[]⟩,.string ⟨#[]⟩,.int .i64 0]) rfl (by kernel_rfl) g _ _ _ (by omega) rfl _ 69 HH.o Pr.zero.cells (by first|(rw[show n-i=1 by omega];kernel_rfl)|(rw[show n - (n-1)=1 by omega];kernel_rfl)) (by rw[List.length_append,hll,Pr.len];omega) (Pr.one _) ?_;intro w5 hh5 ht5));rw[Gt _ _ _ _ (by omega)] at hh5;have hC:=HC.o;refine bodyPost_ret (v:=.slice (some ⟨g,0,none⟩) (n-1:Nat) C) (by simp[results,results241,go_sem];omega) rfl ?_;rw[←HMq.o];refine⟨by rw[hC],AO.mk' hh5 hll ?_ (by omega) h2,HT.trans ht5⟩;have hl3:=HL3.o;rw[List.length_append] at hl3;simp only[List.length_append,List.length_drop,Pr.len];omega
def Xl(l:List Pr)(b:Bool)(w:World)(e:Ending)(w':World):Prop:=∃v' ob',e=.returned (.tuple #[v',.bool b])∧AV w' v' ob' l∧(∀g,ob'=some g→w.heap.size≤g)∧Below w.heap.size w w'
theorem jZ(v:Value)(ob:Option Nat)(l:List Pr)(key:ByteArray)(w:World)(h:AV w v ob l)(hl:l.length≤1000) :Calls prog 182 #[v,.string key] w (Xl (SY l key) (Dq l key).2 w):=by
 have KF:=qh (λW hW=>MO v ob l key W hW);have KC:=qh (λW hW=>E9 v ob l W hW hl);have KD:=qh (λg cap i W (h1:AO W (.slice (some ⟨g,0,none⟩) l.length cap) (some g) 69 3 l.length (J7 l)) hi=>YT g l.length cap i (J7 l) W h1 (Q4 l) hi hl);have hle:=IZ l key;have hkd:SY l key=if (Dq l key).2 then l.take (Dq l key).1++l.drop ((Dq l key).1+1) else l:=rfl;obtain⟨p,c,rfl,hlc,hcm,_,hr⟩:=h.rows;have H:=qh h;have HB:=qh (Base.start w);generalize SY l key=lz at hkd ⊢;generalize Dq l key=F at KF hle hkd ⊢;obtain⟨i,b⟩:=F;simp only at KF hle hkd ⊢;have HK:=qh hkd;clear h hr hkd;go_in;go_wp2_with fail;refine(KC.o _ H.o).mono ?_;rintro e w1 ⟨v1,ob1,rfl,hp1,hob1,hb⟩;obtain⟨H,HB⟩:=DC hb H HB;have HP:=qh hp1;clear hb hp1 KC;go_wp2_with fail;refine Ac (KF.o _ H.o) ?_;rintro w2 hb;obtain⟨HB,HP⟩:=DC hb HB HP;clear hb H KF;cases b
 ·go_wp2_with fail;exact b2 (v:=.tuple #[v1,.bool false]) ⟨_,ob1,rfl,by rw[HK.o];exact HP.o,hob1,HB.below⟩
 ·have hi:i<l.length:=by simpa using hle.2
  obtain⟨g,cap,rest,rfl,rfl,hc1,hcm1,hh,hln⟩:=AO.blk HP.o (by omega);have hw1:IntKind.i64.wrap ((i:Int)+1)=(i:Int)+1:=by rw[IntKind.wrap_i64];omega
  clear hh hln;go_wp2_with fail;refine Ac (KD.o g cap i _ HP.o hi) ?_;rintro w3 ⟨ho,ht⟩;have HO:=qh ho;have HG:=qh (hob1 g rfl);have HB:=qh (HB.touch ht HG.o);clear ho ht hob1 KD;go_wp2_with fail;refine b2 (v:=.tuple #[.slice (some ⟨g,0,none⟩) (l.length-1:Nat) cap,.bool true]) ⟨_,some g,rfl,?_,(λk hk=>by cases hk;exact HG.o),HB.below⟩;have ho:=HO.o;rw[HK.o,AV];simp only[if_true];rw[show (l.take i++l.drop (i+1)).length=l.length-1 by simp;omega,LG,←O9,←O8];exact ho
def BA(lo hi:ByteArray):List Pr→Nat→List Pr × Bool
 | [],_=>([],false)
 | p :: r,m=>if SpanP.has lo hi p.k=true then (if m=0 then ([],true) else (p :: (BA lo hi r (m-1)).1,(BA lo hi r (m-1)).2)) else BA lo hi r m
theorem getD_at(l:List Pr)(k:Nat)(hk:k<l.length):l.getD k .zero=l[k]:=by
 rw[List.getD_eq_getElem?_getD,List.getElem?_eq_getElem hk]
 rfl
theorem Sr(lo hi:ByteArray)(l:List Pr)(k m:Nat)(hk:k<l.length)(h:SpanP.has lo hi (l.getD k .zero).k=false):BA lo hi (l.drop k) m=BA lo hi (l.drop (k+1)) m:=by rw[getD_at l k hk] at h;rw[List.drop_eq_getElem_cons hk,BA,if_neg (by rw[h];simp)]
theorem Su(lo hi:ByteArray)(l:List Pr)(k m:Nat)(hk:k<l.length)(h:SpanP.has lo hi (l.getD k .zero).k=true):BA lo hi (l.drop k) (m+1)=(l.getD k .zero :: (BA lo hi (l.drop (k+1)) m).1,(BA lo hi (l.drop (k+1)) m).2):=by rw[getD_at l k hk] at h ⊢;rw[List.drop_eq_getElem_cons hk,BA,if_pos h];simp
theorem Sm(lo hi:ByteArray)(l:List Pr)(k:Nat)(hk:k<l.length)(h:SpanP.has lo hi (l.getD k .zero).k=true):BA lo hi (l.drop k) 0=([],true):=by rw[getD_at l k hk] at h;rw[List.drop_eq_getElem_cons hk,BA,if_pos h];simp
theorem kP(lo hi k:ByteArray)(w:World):Calls prog 242 #[.agg #[.string lo,.string hi],.string k] w λe w'=>e=.returned (.bool (SpanP.has lo hi k))∧Below w.heap.size w w':=by
 have hfin:∀b,SpanP.lt k lo=b→SpanP.has lo hi k=(!b&&SpanP.under k hi):=λb h=>by rw[SpanP.has,h]
 have U:=λW=>Jn k hi W;have hb:∃b,Op.bytesLess k.toList lo.toList=b:=⟨_,rfl⟩;obtain⟨b,hb⟩:=hb;have H:=qh (hfin b hb);generalize SpanP.under k hi=u at U H;have U:=qh U;cases b;all_goals
  go_in;go_wp2_with (go_at_call 291;refine(U.out _).mono ?_;rintro e w' ⟨rfl,rfl⟩);go_ret;exact⟨BL (by rw[H.o];rfl),by go_grown⟩
def UA(l:List Pr)(b:Bool)(w:World)(e:Ending)(w':World):Prop:=∃v' ob',e=.returned (.tuple #[v',.bool b])∧AV w' v' ob' l∧(∀g,ob'=some g→w.heap.size≤g)∧Below w.heap.size w w'
def Xp(l:List Pr)(R:List Pr × Bool)(lo hi:ByteArray)(w:World)(k:Nat)(vo:Value)(wr:World):Prop:=
 ∃out obo,AV wr vo obo out∧(∀g,obo=some g→w.heap.size+1≤g)∧out.length≤8∧R=(out++(BA lo hi (l.drop k) (8-out.length)).1,(BA lo hi (l.drop k) (8-out.length)).2)∧Below w.heap.size w wr∧w.heap.size+1≤wr.heap.size∧Holds wr w.heap.size 286 [.string lo,.string hi]
theorem bY(v:Value)(ob:Option Nat)(l:List Pr)(lo hi:ByteArray)(w:World)(h:AV w v ob l)(hl:l.length≤1000) :Calls prog 183 #[v,.agg #[.string lo,.string hi]] w (UA (BA lo hi l 8).1 (BA lo hi l 8).2 w):=by
 obtain⟨p,c,rfl,hlc,hcm,_,hr⟩:=h.rows;have HV:=qh hr;have hm:l.length≤maxLen:=hr.1;unfold maxLen at hm;have KH:=qh (λk W=>kP lo hi k W);have hR:BA lo hi l 8=BA lo hi (l.drop 0) 8:=by simp
 generalize BA lo hi l 8=R at hR ⊢;have HR0:=qh hR;clear hr h hR hlc hcm;go_in;go_upto_region 2 with(fail);go_name_world W hW;have hW:BR w [.cells ([.string lo,.string hi]:List Value).toArray 286]=W:=hW;have HX:=qh (show Holds W (w.heap.size) 286 [.string lo,.string hi] from AX _ hW 0 rfl);have hbW:=Ae _ hW;have hsW:=BP _ hW;simp only[List.length_cons,List.length_nil] at hsW;clear hW;have HJ:=qh (show Xp l R lo hi w 0 (.slice none 0 0) W from⟨[],none,AV.nil _,(λg hg=>by cases hg),by simp,by rw[HR0.o];simp,hbW,by omega,HX.o⟩);clear HX hbW hsW HR0;generalize hx0:w.heap.size=gX at HJ ⊢;go_wp2_with fail;go_loopw [6,11] (λvo i wr=>∃k:Nat,k≤l.length∧i=.int .i64 k∧Xp l R lo hi w k vo wr) (λ_ i _=>l.length - (intOf i).toNat);case atStart=>exact⟨0,by omega,rfl,HJ.o⟩
 case round=>
  clear HJ;obtain⟨k,hk,rfl,out,obo,j1,j2,j3,j4,j5,j6,j7⟩:=hrel;rw[hx0] at j5 j6 j7;have HO:=qh j1;have HOB:=qh j2;have HRR:=qh j4;have HX:=qh j7;have hb5:Below w.heap.size w wr:=hx0▸j5;have HB:=qh hb5;clear j1 j2 j4 j7 j5 hb5;obtain⟨po,co,rfl,_,_,_,_⟩:=HO.rows;by_cases h1:k<l.length
  ·obtain⟨b,off,rfl,hlt⟩:=HV.spot (by omega);have HR:=qh (show wr.rangeAt b (off+k*3) (l.getD k .zero).cells from HV.range HB.o h1);have hs1:=Sr lo hi l k (8-out.length) h1;have hs2:=Su lo hi l k (7-out.length) h1;have hs3:=Sm lo hi l k h1;obtain⟨q,hq⟩:∃q,q=l.getD k .zero:=⟨_,rfl⟩;rw[←hq] at HR hs1 hs2 hs3;have HS:=qh (And.intro hs1 (And.intro hs2 hs3));clear hs1 hs2 hs3 hq;go_upto_region 5 with(first|(refine lM (off+k*3) HR.o ?_)|(refine Ai rfl 69 _ _ rfl rfl _ _ q.cells.toArray rfl rfl (by kernel_rfl) (by kernel_rfl) (Pr.one' _) ?_));go_name_world W2 hW2;have hbx:Holds W2 wr.heap.size 69 q.cells:=by rw[←hW2];exact AA wr _ _
   have hb2:Below wr.heap.size wr W2:=by rw[←hW2];exact(Below.refl _ _).alloc (Nat.le_refl _) _
   have HQ:=qh hbx;obtain⟨HX,HO⟩:=DC hb2 HX HO;have HB:=qh (HB.trans (hb2.mono (by omega)));have hs2:=hb2.size;clear hW2 hbx hb2 HR;have hqw:w.heap.size≤wr.heap.size:=by omega
   generalize wr.heap.size=gq at HQ j6 hs2 hqw ⊢;have b0:=Ag HQ.o 0;have HXR:=qh HX.AY;go_wp2_with (first|(refine lM 0 HXR.o ?_));refine Ac (KH.o q.k _) ?_;rintro w3 hb;obtain⟨HX,HO,HQ⟩:=Du hb HX HO HQ;have hs3:=hb.size;have HB:=qh (HB.trans (hb.mono (by omega)));clear hb b0 HXR;generalize hh:SpanP.has lo hi q.k=b;cases b
   ·have he:=HS.1 hh;have HE:=qh he;clear HS he;go_wp2_with fail;go_roundw;case rel=>exact⟨k+1,by omega,by go_num,out,obo,HO.o,HOB.o,j3,by rw[←HE.o];exact HRR.o,HB.o,by omega,hx0▸HX.o⟩
    case measure=>simp[intOf];omega
   ·by_cases h8:out.length=8
    ·have he:=HS.2.2 hh;have hr:=HRR.o;rw[h8] at hr;simp only[Nat.sub_self] at hr;rw[he,List.append_nil] at hr;have HE:=qh hr;have h8i:((out.length:Int)==8)=true:=by simp;omega
     clear HS he hr HRR;go_wp2_with fail;exact bodyPost_ret (v:=.tuple #[.slice po out.length co,.bool true]) (by simp[results,results183,go_sem];omega) rfl (by rw[HE.o];exact⟨_,obo,rfl,HO.o,(λg hg=>by have:=HOB.o g hg;omega),HB.o⟩)
    ·have he:=HS.2.1 hh;have hr:=HRR.o;rw[show 8-out.length=7-out.length+1 by omega,he] at hr;have HE:=qh hr;have h8i:((out.length:Int)==8)=false:=by simp;omega
     have HQR:=qh HQ.AY;have hw3:gX+1≤w3.heap.size:=by omega
     have hw4:w.heap.size≤w3.heap.size:=by omega
     clear HS he hr HRR;go_wp2_with (first|(refine lM 0 HQR.o ?_)|(refine F8 rfl 51 69 (.agg q.cells.toArray) q.cells rfl rfl rfl (λw=>by kernel_rfl) ?_;intro w4 hh4 hb4;have HN:=qh (show Reads w4 (some ⟨w3.heap.size,0,none⟩) q.cells from hh4.reads 0 q.cells λj v hv=>by rw[Nat.zero_add];exact hv);have HO:=qh (HO.bel hb4);have HX:=qh (HX.bel hb4);have HB:=qh (HB.trans (hb4.mono hw4));have hs4:=hb4.size;clear hh4 hb4)|(at_builtin;refine aS (.agg #[.string ⟨#[]⟩,.string ⟨#[]⟩,.int .i64 0]) 3 40 HO.o q.cells HN.o ?_ (Pr.one q);intro v5 ob5 w5 ho5 hob5 hm5));have HB:=qh (HB.trans (hm5.below (B:=w.heap.size) (by omega) λk hk=>by have:=HOB.o k hk;omega));have hob:∀g,ob5=some g→w.heap.size+1≤g:=λg hg=>by
      rcases hob5 with h|⟨k2,h,h2⟩
      ·rw[h] at hg;exact HOB.o g hg
      ·rw[h] at hg;cases hg;omega
     have HO:=qh (show AV w5 v5 ob5 (out++[q]) by rw[AV,LG,List.length_append];exact ho5);have HX:=qh (HX.mv hm5 λhk=>by have:=HOB.o _ hk;omega);have hs5:=hm5.size;go_roundw;case rel=>exact⟨k+1,by omega,by go_num,out++[q],ob5,HO.o,hob,by simp;omega,by rw[HE.o];simp[show 8 - (out.length+1)=7-out.length by omega],HB.o,by omega,hx0▸HX.o⟩
     case measure=>simp[intOf];omega
  ·obtain rfl:k=l.length:=by omega
   have hr:=HRR.o;rw[List.drop_length] at hr;simp only[BA,List.append_nil] at hr;have HE:=qh hr;clear hr HRR;go_wp2_with fail;exact b2 (v:=.tuple #[.slice po out.length co,.bool false]) (by rw[HE.o];exact⟨_,obo,rfl,HO.o,(λg hg=>by have:=HOB.o g hg;omega),HB.o⟩)
structure Rep where
 why:Int
 fd:Bool
 val:ByteArray
 ver:Int
 ps:List Pr
def Rep.zero:Rep:=⟨0,false,⟨#[]⟩,0,[]⟩
structure Ow where
 seq:Int
 rep:Rep
def Ow.zero:Ow:=⟨0,Rep.zero⟩
def BF(r:Rep)(v:Value):List Value:=[.int .i64 r.why,.bool r.fd,.string r.val,.int .i64 r.ver,v]
def Gl(x:Ow)(v:Value):List Value:=.int .i64 x.seq :: BF x.rep v
def Aq(o:Nat→Ow)(pv:Nat→Value):List Value:=Gl (o 0) (pv 0)++(Gl (o 1) (pv 1)++(Gl (o 2) (pv 2)++(Gl (o 3) (pv 3)++(Gl (o 4) (pv 4)++(Gl (o 5) (pv 5)++(Gl (o 6) (pv 6)++Gl (o 7) (pv 7)))))))
def Ee{α:Type}(f:Nat→α)(i:Nat)(x:α):Nat→α:=λj=>if j=i then x else f j
theorem CX{α:Type}(f:Nat→α)(i:Nat)(x:α):Ee f i x i=x:=by simp[Ee]
theorem CY{α:Type}(f:Nat→α)(i j:Nat)(x:α)(h:j≠i):Ee f i x j=f j:=by simp[Ee,h]
theorem Uy(o:Nat→Ow)(pv:Nat→Value)(i:Nat)(hi:i<8)(x:Ow)(v:Value):splice (Aq o pv) (i*6) (Gl x v)=Aq (Ee o i x) (Ee pv i v):=by rcases(show i=0∨i=1∨i=2∨i=3∨i=4∨i=5∨i=6∨i=7 by omega) with rfl|rfl|rfl|rfl|rfl|rfl|rfl|rfl<;>rfl
theorem Ux(o:Nat→Ow)(pv:Nat→Value)(i:Nat)(hi:i<8)(v:Value):splice (Aq o pv) (i*6+1) (BF (o i).rep v)=Aq o (Ee pv i v):=by rcases(show i=0∨i=1∨i=2∨i=3∨i=4∨i=5∨i=6∨i=7 by omega) with rfl|rfl|rfl|rfl|rfl|rfl|rfl|rfl<;>rfl
theorem O3(o:Nat→Ow)(pv:Nat→Value):(Aq o pv).length=48:=rfl
theorem QS(o:Nat→Ow)(pv:Nat→Value)(i j:Nat)(hi:i<8)(hj:j<6):(Aq o pv)[i*6+j]?=(Gl (o i) (pv i))[j]?:=by
 rcases(show i=0∨i=1∨i=2∨i=3∨i=4∨i=5∨i=6∨i=7 by omega) with rfl|rfl|rfl|rfl|rfl|rfl|rfl|rfl <;>
  rcases(show j=0∨j=1∨j=2∨j=3∨j=4∨j=5 by omega) with rfl|rfl|rfl|rfl|rfl|rfl<;>rfl
def Bq(v:Value):Prop:=∃p n c,v=.slice p n c
theorem Bq.one{v:Value}(h:Bq v):v.oneCell'=true:=by obtain⟨p,n,c,rfl⟩:=h;rfl
theorem Bq.cells{v:Value}(h:Bq v):v.cells=#[v]:=by obtain⟨p,n,c,rfl⟩:=h;rfl
theorem AV.Bq{w:World}{v:Value}{ob:Option Nat}{l:List Pr}(h:AV w v ob l):Bq v:=by obtain⟨p,c,rfl,_⟩:=h.rows;exact⟨_,_,_,rfl⟩
theorem Ep{r:Rep}{v:Value}(h:Bq v):(BF r v).toArray.all (·.oneCell')=true:=by obtain⟨p,n,c,rfl⟩:=h;simp[BF,Value.oneCell']
theorem ZA{r:Rep}{v:Value}(h:Bq v):∀u∈BF r v,u.oneCell'=true:=by obtain⟨p,n,c,rfl⟩:=h;simp[BF,Value.oneCell']
theorem Vj{x:Ow}{v:Value}(h:Bq v):∀u∈Gl x v,u.oneCell'=true:=by obtain⟨p,n,c,rfl⟩:=h;simp[Gl,BF,Value.oneCell']
theorem O4{o:Nat→Ow}{pv:Nat→Value}(h:∀i,i<8→Bq (pv i)):(Aq o pv).toArray.all (·.oneCell')=true:=by obtain⟨_,_,_,e0⟩:=h 0 (by omega);obtain⟨_,_,_,e1⟩:=h 1 (by omega);obtain⟨_,_,_,e2⟩:=h 2 (by omega);obtain⟨_,_,_,e3⟩:=h 3 (by omega);obtain⟨_,_,_,e4⟩:=h 4 (by omega);obtain⟨_,_,_,e5⟩:=h 5 (by omega);obtain⟨_,_,_,e6⟩:=h 6 (by omega);obtain⟨_,_,_,e7⟩:=h 7 (by omega);simp[Aq,Gl,BF,Value.oneCell',e0,e1,e2,e3,e4,e5,e6,e7]
def OwnAt(w:World)(o:Nat→Ow)(pv:Nat→Value)(pb:Nat→Option Nat):Prop:=∀i,i<8→AV w (pv i) (pb i) (o i).rep.ps
theorem OwnAt.bel{w w':World}{o:Nat→Ow}{pv:Nat→Value}{pb:Nat→Option Nat}(h:OwnAt w o pv pb)(hb:Below w.heap.size w w'):OwnAt w' o pv pb:=λi hi=>(h i hi).bel hb
instance {w w':World}{o:Nat→Ow}{pv:Nat→Value}{pb:Nat→Option Nat}:Bl w w' (OwnAt w o pv pb) (OwnAt w' o pv pb):=⟨λhb h=>OwnAt.bel h hb⟩
theorem OwnAt.mv{w w':World}{F:Af}{o:Nat→Ow}{pv:Nat→Value}{pb:Nat→Option Nat}(h:OwnAt w o pv pb)(hm:Mv F w w')(hF:∀i,i<8→∀g,pb i=some g→¬F g):OwnAt w' o pv pb:=λi hi=>(h i hi).mv hm (hF i hi)
theorem OwnAt.set{w:World}{o:Nat→Ow}{pv:Nat→Value}{pb:Nat→Option Nat}(h:OwnAt w o pv pb)(k:Nat)(x:Ow){v:Value}{ob:Option Nat}(hx:AV w v ob x.rep.ps):OwnAt w (Ee o k x) (Ee pv k v) (Ee pb k ob):=λi hi=>by
 by_cases e:i=k
 ·subst e;rw[CX,CX,CX];exact hx
 ·rw[CY _ _ _ _ e,CY _ _ _ _ e,CY _ _ _ _ e];exact h i hi
theorem OwnAt.sl{w:World}{o:Nat→Ow}{pv:Nat→Value}{pb:Nat→Option Nat}(h:OwnAt w o pv pb):∀i,i<8→Bq (pv i):=λi hi=>(h i hi).Bq
theorem OwnAt.lt{w:World}{o:Nat→Ow}{pv:Nat→Value}{pb:Nat→Option Nat}(h:OwnAt w o pv pb):∀i,i<8→∀g,pb i=some g→g<w.heap.size:=λi hi g hg=>AO.lt (h i hi) g hg
def Gg(o:Nat→Ow)(c:Nat)(x:Ow):Nat→Ow:=if c=0 then o else Ee o (c-1) x
def Small(o:Nat→Ow):Prop:=∀i,i<8→(o i).rep.ps.length≤1000
theorem Small.note{o:Nat→Ow}(h:Small o)(c:Nat){x:Ow}(hx:x.rep.ps.length≤1000):Small (Gg o c x):=λi hi=>by
 unfold Gg;split
 ·exact h i hi
 ·by_cases e:i=c-1
  ·rw[e,CX];exact hx
  ·rw[CY _ _ _ _ e];exact h i hi
def Qb(o:Nat→Ow)(w:World)(e:Ending)(w':World):Prop:=∃pv pb,e=.returned (.agg (Aq o pv).toArray)∧OwnAt w' o pv pb∧(∀i,i<8→∀g,pb i=some g→w.heap.size≤g)∧Below w.heap.size w w'
theorem Vp(c:Nat)(w:World)(hc:c≤8):Calls prog 178 #[.int .i64 c] w λe w'=>e=.returned (.bool (c != 0))∧Below w.heap.size w w':=by
 have h8:(c:Int)≤8:=by omega
 rcases Nat.eq_zero_or_pos c with rfl|h0
 ·go_in;go_wp2_with fail;go_ret;exact⟨rfl,by go_grown⟩
 ·have h1:(1:Int)≤c:=by omega
  have h2:(c != 0)=true:=by simp;omega
  rw[h2];go_in;go_wp2_with fail;go_ret;exact⟨rfl,by go_grown⟩
def Xt(r:Rep)(w:World)(e:Ending)(w':World):Prop:=∃v' ob',e=.returned (.agg (BF r v').toArray)∧AV w' v' ob' r.ps∧(∀g,ob'=some g→w.heap.size≤g)∧Below w.heap.size w w'
theorem bK(r:Rep)(v:Value)(ob:Option Nat)(w:World)(h:AV w v ob r.ps)(hl:r.ps.length≤1000) :Calls prog 179 #[.agg (BF r v).toArray] w (Xt r w):=by
 have KC:=qh (λW hW=>E9 v ob r.ps W hW hl);have HP:=qh h;have hsv:=h.Bq;clear h;go_in;go_upto_region 1 with(fail);go_name_world W hW;obtain⟨HR,HZ,hbW,hsW⟩:=Xf 53 (BF r v) 53 (BF Rep.zero (.slice none 0 0)) hW;clear hW;have HB:=qh (Base.start w);obtain⟨HB,HP⟩:=DC hbW HB HP;have hgW:w.heap.size+1<W.heap.size:=by omega
 clear hbW hsW;have hne:w.heap.size≠w.heap.size+1:=by omega
 generalize hz0:w.heap.size+1=gz at HZ hne hgW ⊢;have hzb:w.heap.size≤gz:=by omega
 generalize hB0:w.heap.size=B at HR HB hne hzb ⊢;have r4:=Ag HR.o 4;go_wp2_with fail;refine(KC.o _ HP.o).mono ?_;rintro e w1 ⟨v1,ob1,rfl,hp1,hob1,hb⟩;obtain⟨HR,HZ⟩:=DC hb HR HZ;have hs1:=HB.le;have HB:=ET hb HB;have HP:=qh hp1;have HSL:=qh hp1.Bq;have hob:∀g,ob1=some g→B≤g:=λg hg=>Nat.le_trans hs1 (hob1 g hg);have hobn:∀g,ob1=some g→g≠B∧g≠gz:=λg hg=>by have h1:=hob1 g hg;omega
 clear hb r4 hp1 hob1 KC;go_wp2_with (first|(refine Cb rfl 51 (.tmp 6) (.tmp 5) rfl rfl B 4 53 _ HR.o (by simp[BF]) rfl v1 rfl HSL.cells (by kernel_rfl) HSL.one ?_;intro w2 hh2 ht2;have HR2:=qh (show Holds w2 B 53 (BF r v1) from hh2);have HRG:=qh HR2.AY)|(refine lM 0 HRG.o ?_)|(refine sW (BF r v1) (HZ.touch ht2 (Ne.symm hne)) ?_ (Ep HSL.o);intro w5 hh5 ht5));have HB:=qh ((HB.touch ht2 (Nat.le_refl _)).touch ht5 hzb);have HP:=qh ((HP.mv (Mv.AU (F:=λk=>k=B) ht2 rfl) (λg hg=>(hobn g hg).1)).mv (Mv.AU (F:=λk=>k=gz) ht5 rfl) (λg hg=>(hobn g hg).2));have HRR:=qh hh5.AY;clear hh5 ht5 HRG hh2 ht2;refine bC HRR.o ?_;exact⟨v1,ob1,rfl,HP.o,hB0▸hob,hB0▸HB.below⟩
def Xn(o:Nat→Ow)(B gz:Nat)(w:World)(i:Nat)(wr:World):Prop:=
 ∃pv pb,Holds wr B 64 (Aq o pv)∧Holds wr gz 64 (Aq (λ_=>Ow.zero) λ_=>.slice none 0 0)∧OwnAt wr o pv pb∧(∀j,j<8→∀g,pb j=some g→g≠B∧g≠gz∧(j<i→B≤g))∧Base B w wr∧gz<wr.heap.size
theorem dK(o:Nat→Ow)(pv:Nat→Value)(pb:Nat→Option Nat)(c:Nat)(q:Int)(r:Rep)(vr:Value)(obr:Option Nat)(w:World)(h:OwnAt w o pv pb)(hr:AV w vr obr r.ps)(hc:c≤8)(hS:Small o)(hrl:r.ps.length≤1000) :Calls prog 96 #[.agg (Aq o pv).toArray,.int .i64 c,.int .i64 q,.agg (BF r vr).toArray] w (Qb (Gg o c ⟨q,r⟩) w):=by
 have KK:=qh (λW=>Vp c W hc);have KC:=qh (λ(r:Rep) v ob W h hl=>bK r v ob W h hl);have HOA:=qh h;have HP:=qh hr;have hS2:=hS.note c (x:=⟨q,r⟩) hrl;obtain⟨o2,ho2⟩:∃o2,o2=Gg o c ⟨q,r⟩:=⟨_,rfl⟩;rw[←ho2] at hS2 ⊢;have hS2:=qh hS2;have HN2:=qh ho2;clear ho2;have hsl:=hr.Bq;have hlt:=qh h.lt;have hlr:=qh (AO.lt hr);clear h hr hS;go_in;go_upto_region 1 with(fail);go_name_world W hW;have hW:BR w [.cells (Aq o pv:List Value).toArray 64,.cells (BF r vr:List Value).toArray 53,.cells (Aq (λ_=>Ow.zero) (λ_=>.slice none 0 0):List Value).toArray 64]=W:=hW;have HO:=qh (show Holds W (w.heap.size) 64 (Aq o pv) from AX _ hW 0 rfl);have HR:=qh (show Holds W (w.heap.size+1) 53 (BF r vr) from AX _ hW 1 rfl);have HZ:=qh (show Holds W (w.heap.size+1+1) 64 (Aq (λ_=>Ow.zero) λ_=>.slice none 0 0) from AX _ hW 2 rfl);have hbW:=Ae _ hW;have hsW:=BP _ hW;simp only[List.length_cons,List.length_nil] at hsW;clear hW;have HB:=qh (Base.start w);obtain⟨HB,HOA,HP⟩:=Du hbW HB HOA HP;have hgW:w.heap.size+1+1<W.heap.size:=by omega
 clear hbW hsW;have hne:w.heap.size≠w.heap.size+1+1:=by omega
 have hpz:∀j,j<8→∀g,pb j=some g→g≠w.heap.size∧g≠w.heap.size+1+1:=λj hj g hg=>by have:=hlt.out j hj g hg;omega
 have hpr:∀g,obr=some g→g≠w.heap.size∧g≠w.heap.size+1+1:=λg hg=>by have:=hlr.out g hg;omega
 have HPZ:=qh hpz;have HPR:=qh hpr;clear hpz hpr hlt hlr;generalize hz0:w.heap.size+1+1=gz at HZ hne hgW HPZ HPR ⊢;have hzb:w.heap.size≤gz:=by omega
 generalize hr0:w.heap.size+1=gr at HR ⊢;generalize hB0:w.heap.size=B at HO HB hne hzb HPZ HPR ⊢;go_wp2_with fail;refine Ac (KK.o _) ?_;rintro w1 hb;obtain⟨HO,HR,HZ,HB,HOA,HP⟩:=FI hb HO HR HZ HB HOA HP;have hgW:gz<w1.heap.size:=Nat.lt_of_lt_of_le hgW hb.size;clear hb KK;rcases Nat.eq_zero_or_pos c with hc0|hc0
 case' inl=>
  have hcb:(c != 0)=false:=by simp;omega
  rw[hcb];have HJ:=qh (show Xn o2 B gz w 0 w1 from⟨pv,pb,by rw[HN2.o,Gg,if_pos hc0];exact HO.o,HZ.o,by rw[HN2.o,Gg,if_pos hc0];exact HOA.o,λj hj g hg=>⟨(HPZ.o j hj g hg).1,(HPZ.o j hj g hg).2,λh=>absurd h (by omega)⟩,HB.o,hgW⟩);go_upto_region 3 with(fail)
 case' inr=>
  have hcb:(c != 0)=true:=by simp;omega
  rw[hcb];obtain⟨k,hk⟩:∃k,c=k+1:=⟨c-1,by omega⟩;have hw1:IntKind.i64.wrap ((c:Int) - 1)=(k:Int):=by rw[IntKind.wrap_i64];omega
  have hk8:(k:Int)<8:=by omega
  have hk0:(0:Int)≤(k:Int):=by omega
  have HRG:=qh HR.AY;go_upto_region 3 with(first|(refine lM 0 HRG.o ?_)|(refine Tq (by kernel_rfl) 63 0 1 14 15 rfl (.int .i64 q) (.agg (BF r vr).toArray) rfl rfl (.agg (Gl ⟨q,r⟩ vr).toArray) (λw=>by kernel_rfl) ?_)|(refine F7 rfl 63 (.tmp 17) (.tmp 16) rfl rfl B (k*6) _ 64 HO.o rfl (Gl ⟨q,r⟩ vr) rfl (by kernel_rfl) (by rw[O3,show (Gl ⟨q,r⟩ vr).length=6 from rfl];omega) (Vj hsl) ?_;intro w2 hh2 ht2));rw[Uy o pv k (by omega)] at hh2;have hno:o2=Ee o k ⟨q,r⟩:=by rw[HN2.o,Gg,if_neg (by omega),hk];rfl
  have HB:=qh (HB.touch ht2 (Nat.le_refl _));have hm2:Mv (λk=>k=B) w1 w2:=Mv.AU ht2 rfl;have HJ:=qh (show Xn o2 B gz w 0 w2 from⟨Ee pv k vr,Ee pb k obr,by rw[hno];exact hh2,HZ.mv hm2 (Ne.symm hne),by
   rw[hno];exact(HOA.mv hm2 (λi hi g hg=>(HPZ.o i hi g hg).1)).set k ⟨q,r⟩ (HP.mv hm2 λg hg=>(HPR.o g hg).1),λj hj g hg=>by
   by_cases e:j=k
   ·subst e;rw[CX] at hg;exact⟨(HPR.o g hg).1,(HPR.o g hg).2,λh=>absurd h (by omega)⟩
   ·rw[CY _ _ _ _ e] at hg;exact⟨(HPZ.o j hj g hg).1,(HPZ.o j hj g hg).2,λh=>absurd h (by omega)⟩,HB.o,Nat.lt_of_lt_of_le hgW ht2.size⟩)
  clear hh2 ht2 hm2 hw1 hk8 hk0 HRG hno
 all_goals
  clear HO HR HZ HOA HP HPZ HPR HB hcb hc0 hgW;go_wp2_with fail;go_loopw [18] (λvi wr=>∃i:Nat,vi=.int .i64 (i:Int)∧i≤8∧Xn o2 B gz w i wr) (λvi _=>8 - (intOf vi).toNat);case atStart=>exact⟨0,rfl,by omega,HJ.o⟩
  case round=>
   clear HJ;obtain⟨i,rfl,hi,pv,pb,ho,hz,hoa,hpb,hb,hgw⟩:=hrel;have HO:=qh ho;have HZ:=qh hz;have HB:=qh hb;have HOA:=qh hoa;have HPB:=qh hpb;clear ho hz hb hoa hpb;by_cases h8:i=8
   ·subst h8;have HRG:=qh HO.AY;go_wp2_with (first|(refine lM 0 HRG.o ?_)|(refine sW (Aq o2 pv) HZ.o ?_ (O4 HOA.sl);intro w5 hh5 ht5));have HB:=qh (HB.touch ht5 hzb);have HR:=qh hh5.AY;have HOA:=qh (HOA.mv (Mv.AU (F:=λk=>k=gz) ht5 rfl) λi hi g hg=>(HPB.o i hi g hg).2.1);clear hh5 ht5 HRG;refine bC HR.o ?_;exact⟨pv,pb,rfl,HOA.o,(λi hi g hg=>by rw[hB0];exact(HPB.o i hi g hg).2.2 hi),by rw[hB0];exact HB.below⟩
   ·have hi8:(i:Int)<8:=by omega
    have hi0:(0:Int)≤(i:Int):=by omega
    have HRG:=qh (HO.Ci (i*6+1) (cs:=BF (o2 i).rep (pv i)) λj v hv=>by
     have hj:j<5:=(List.getElem?_eq_some_iff.1 hv).1;rw[Nat.add_assoc,Nat.add_comm 1 j,QS o2 pv i (j+1) (by omega) (by omega)];exact hv)
    go_wp2_with (first|(refine lM (i*6+1) HRG.o ?_));refine(KC.o _ _ _ _ (HOA.o i (by omega)) (hS2.out i (by omega))).mono ?_;rintro e w4 ⟨v4,ob4,rfl,hp4,hob4,hb⟩;obtain⟨HO,HZ,HOA⟩:=Du hb HO HZ HOA;have hs4:=HB.le;have HB:=ET hb HB;have HP4:=qh hp4;have hsl4:=hp4.Bq;have hs5:=hb.size;clear hb hp4 HRG;go_wp2_with (first|(refine F7 rfl 53 (.tmp 28) (.tmp 26) rfl rfl B (i*6+1) _ 64 HO.o rfl (BF (o2 i).rep v4) rfl (by kernel_rfl) (by rw[O3,show (BF (o2 i).rep v4).length=5 from rfl];omega) (ZA hsl4) ?_;intro w5 hh5 ht5));rw[Ux o2 pv i (by omega)] at hh5;have hm5:Mv (λk=>k=B) w4 w5:=Mv.AU ht5 rfl;have HO:=qh hh5;have HZ:=qh (HZ.mv hm5 (Ne.symm hne));have HOA:=qh (show OwnAt w5 o2 (Ee pv i v4) (Ee pb i ob4) from λj hj=>by
     by_cases e:j=i
     ·subst e;rw[CX,CX];exact HP4.mv hm5 λg hg=>by have:=hob4 g hg;omega
     ·rw[CY _ _ _ _ e,CY _ _ _ _ e];exact(HOA.o j hj).mv hm5 λg hg=>(HPB.o j hj g hg).1)
    have HB:=qh (HB.touch ht5 (Nat.le_refl _));have hs6:=hm5.size;have HPB:=qh (show ∀j,j<8→∀g,Ee pb i ob4 j=some g→g≠B∧g≠gz∧(j<i+1→B≤g) from λj hj g hg=>by
     by_cases e:j=i
     ·subst e;rw[CX] at hg;have:=hob4 g hg;omega
     ·rw[CY _ _ _ _ e] at hg;have:=HPB.o j hj g hg;omega)
    clear hh5 ht5 hm5 HP4 hob4;go_wp2_with fail;go_roundw;case rel=>exact⟨i+1,by go_num,by omega,_,_,HO.o,HZ.o,HOA.o,HPB.o,HB.o,by omega⟩
    case measure=>simp[intOf];omega
def VF:List Value:=BF Rep.zero (.slice none 0 0)
theorem je(o:Nat→Ow)(pv:Nat→Value)(c:Nat)(s:Int)(w:World)(hsl:∀i,i<8→Bq (pv i))(hc:1≤c∧c≤8)(hs:(o (c-1)).seq<s) :Calls prog 97 #[.agg (Aq o pv).toArray,.int .i64 c,.int .i64 s] w λe w'=>e=.returned (.tuple #[.int .i64 1,.agg VF.toArray])∧Below w.heap.size w w':=by
 have KK:=qh (λW=>Vp c W hc.2);have hcb:(c != 0)=true:=by simp;omega
 rw[hcb] at KK;obtain⟨k,hk⟩:∃k,c=k+1:=⟨c-1,by omega⟩;have hk1:c-1=k:=by omega
 rw[hk1] at hs;have hw1:IntKind.i64.wrap ((c:Int) - 1)=(k:Int):=by rw[IntKind.wrap_i64];omega
 have hk8:(k:Int)<8:=by omega
 have hk0:(0:Int)≤(k:Int):=by omega
 have hslk:=qh (hsl k (by omega));have hk9:k<8:=by omega
 clear hcb hk hk1;go_in;go_upto_region 1 with(fail);go_name_world W hW;have hW:BR w [.cells (Aq o pv:List Value).toArray 64,.cells (VF:List Value).toArray 53]=W:=hW;have HO:=qh (show Holds W (w.heap.size) 64 (Aq o pv) from AX _ hW 0 rfl);have HZ:=qh (show Holds W (w.heap.size+1) 53 VF from AX _ hW 1 rfl);have hbW:=Ae _ hW;have hsW:=BP _ hW;simp only[List.length_cons,List.length_nil] at hsW;clear hW;have HB:=qh (Base.start w);have HB:=ET hbW HB;clear hbW hsW;have hzb:w.heap.size≤w.heap.size+1:=by omega
 generalize hz0:w.heap.size+1=gz at HZ hzb ⊢;generalize hB0:w.heap.size=B at HO HB hzb ⊢;go_wp2_with fail;refine Ac (KK.o _) ?_;rintro w1 hb;obtain⟨HO,HZ,HB⟩:=Du hb HO HZ HB;clear hb KK;have HRG:=qh (HO.Ci (k*6) (cs:=Gl (o k) (pv k)) λj v hv=>by
  have hj:j<6:=(List.getElem?_eq_some_iff.1 hv).1;rw[QS o pv k j (by omega) hj];exact hv)
 go_upto_region 4 with(first|(refine lM (k*6) HRG.o ?_)|(refine Ai rfl 63 _ _ rfl rfl _ _ (Gl (o k) (pv k)).toArray rfl rfl (by kernel_rfl) (by kernel_rfl) (by have:=Vj (x:=o k) hslk.out;simpa using this) ?_));go_name_world W2 hW2;have hbx:Holds W2 w1.heap.size 63 (Gl (o k) (pv k)):=by rw[←hW2];exact AA w1 _ _
 have hb2:Below w1.heap.size w1 W2:=by rw[←hW2];exact(Below.refl _ _).alloc (Nat.le_refl _) _
 have b0:=hbx.cell 0;simp only[Gl,List.getElem?_cons_zero] at b0;obtain⟨HZ,HB⟩:=DC hb2 HZ HB;clear hbx hb2 hW2 HRG HO;go_wp2_with (first|(refine sW VF HZ.o ?_ (Ep ⟨none,0,0,rfl⟩);intro w5 hh5 ht5));have HB:=qh (HB.touch ht5 hzb);have HR:=qh hh5.AY;refine bodyPost_ret (v:=.tuple #[.int .i64 1,.agg VF.toArray]) (Cc results97 _ _ gz _ _ _ rfl rfl HR.o underlying53 rfl (by kernel_rfl)) rfl ?_;exact⟨rfl,hB0▸HB.below⟩
end Go.Proofs.YtimdpiifpibgfaaGreatDoor
