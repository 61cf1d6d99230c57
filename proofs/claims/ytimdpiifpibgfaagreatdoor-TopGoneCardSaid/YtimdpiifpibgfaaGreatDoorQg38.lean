/- A part of the proof that the law TopGone returns true for every input. -/
import Derived.Test.YtimdpiifpibgfaaGreatDoorQg37
set_option linter.all false
set_option maxRecDepth 20000
set_option maxHeartbeats 16000000
open Go.RowKit Go.Maps
namespace Go.Proofs.YtimdpiifpibgfaaGreatDoor
open Tryz
theorem Yl(w:World)(n me q gd:Nat)(c:Cm)(hd:EW w gd)(hn:n=3∨n=5∨n=7)(hme:me<n)(hq:q<n)(hc:CU c)(h1:c.c=1)(h2:c.s=1) :Calls prog 45 #[.int .i64 n,.int .i64 me,.pointer (some ⟨gd,0,none⟩)] w λe w'=>∃g,e=.returned (.tuple #[.pointer (some ⟨g,0,none⟩),.int .i64 0])∧Bg w' (grow (λk=>k=gd) w w') g gd n me q c .fresh [] false 0 0∧Mv (λk=>k=gd) w w':=by
 refine(jH n me gd (λg w'=>BZ w' (grow (λk=>k=gd) w w') g gd n me q c .fresh (.slice none 0 0) (.slice none 0 0) false false 0 (DJ c q []) false 0 (300+500*0)∧Mv (λk=>k=gd) w w') w hn hme hd (λg W hM=>?_)).mono ?_
 ·obtain⟨gw,gfr,gc,gl,gm,gi,gx,gfl,gby,mb,kept,a1,a2,a3,a4,a5,a6,⟨b1,b2,b3,b4,b5,b6,b7,b8,b9,b10⟩,hmv⟩:=hM;have hl:=a5.lt;have hdl:=a2.lt;have hI:BZ W (grow (λk=>k=gd) w W) g gd n me q c .fresh (.slice none 0 0) (.slice none 0 0) false false 0 (DJ c q []) false 0 300:=by refine⟨gfl,gby,mb,gw,gc,gfr,kept,_,0,0,_,0,_,_,_,a1,a2,a3,a4,⟨⟨⟨none,0,0⟩,gl,gm,0,gi,gx,0,[],[],_,a5,by simp[bnd],by simp[bnd],⟨.inr ⟨b5,hl.2.1⟩,.inr ⟨b6,hl.2.2.1⟩,.inr ⟨b7,hl.2.2.2.1⟩,.inr ⟨b8,hl.2.2.2.2⟩⟩,⟨rfl,rfl,rfl⟩,rfl⟩,.inr ⟨b4,hl.1⟩⟩,a6,⟨rfl,rfl,rfl,rfl,rfl⟩,rfl,DN.nil0 _ _ _,rfl,.inr ⟨b1,a1.lt⟩,.inl rfl,.inr ⟨b9,hdl.2.1⟩,.inr ⟨b10,hdl.2.2⟩,.inr ⟨b2,a4.lt⟩,.inr ⟨b3,a6.lt⟩⟩
  exact Ey w w W (λk=>k=gd) g gd n me q c .fresh _ _ false false 0 300 0 0 (DJ c q []) _ (Nat.le_refl _) hmv.size hmv hI (.inl ⟨rfl,rfl⟩) (DN.nil0 _ _ _) (by omega) (by omega) (Gf c q _ 0) (by omega) (by simp) (by omega) hme hc h1 h2
 ·rintro e w' ⟨g,rfl,hn',hm'⟩;exact⟨g,rfl,⟨0,⟨rfl,Nat.le_refl _⟩,hn'⟩,hm'⟩
theorem Rq:∀u∈CJ,u.oneCell'=true:=by simp[CJ,Value.oneCell']
theorem Hz{P:Program}{ops:Array Oper}{w:World}{o:Oper}{a:Act}{K:Act→World→Prop}{Q:Exit→Act→World→Prop}{E:Prop}(hgd:o.guard=none)(s x:Operand)(t:TypeId) (ho:o.op=.call { callee:=.builtin .append,args:=#[s,x],argTypes:=#[t,t] }) (e:TypeId) (z:Value) (size bytes:Nat) (ht:P.underlying t=some (.slice e)) (hi:(P.info? e).map (λi=>(i.zero,i.size,i.bytes))=some (some z,size,bytes)) (g n cap:Nat) (xs:List Value) (hs:a.eval s=.slice (some ⟨g,0,none⟩) n cap) (hown:AU w (.slice (some ⟨g,0,none⟩) n cap) (some g) e size n xs) (off m c:Nat) (news:List Value) (hx:a.eval x=.slice (some ⟨g,off,none⟩) m c) (hl:news.length=m*size) (hnews:∀j u,news[j]?=some u→w.cell? ⟨g,off+j,none⟩=some u) (h1:∀u∈news,u.oneCell'=true) (hroom:n+m≤cap) (h:∀w',AU w' (.slice (some ⟨g,0,none⟩) (n+m) cap) (some g) e size (n+m) (xs++news)→Touch g w w'→K (a.put o.dst (.slice (some ⟨g,0,none⟩) (n+m) cap)) w') :if Region.wanted o (yielded ops a.tmps)=true then Oper.wp P o a w K Q else E:=by
 have hw:Region.wanted o (yielded ops a.tmps)=true:=by simp[Region.wanted,hgd]
 rw[if_pos hw];obtain⟨i,hi0,hz,hsize,hby⟩:=info_parts hi;exact wp_append_own_spare w s x t ho 0 e i size ht hi0 hsize g n cap xs hs hown.own ⟨g,off,none⟩ m c news hx hl (λj u hu=>by rw[L8];exact hnews j u hu) h1 hroom λw' h2 h3=>h w' ⟨h2,rfl⟩ (Touch.of_grownBy h3)
theorem Pi(g cap m:Nat)(L0 L:List Value)(w:World)(h:AU w (.slice (some ⟨g,0,none⟩) (m+1:Nat) cap) (some g) 47 51 (m+1) (L0++L))(h0:L0.length=51)(h1:∀u∈L,u.oneCell'=true)(hm:m≤4000) :Calls prog 49 #[.slice (some ⟨g,0,none⟩) (m+1:Nat) cap,.int .i64 0,.int .i64 1] w λe w'=>e=.returned (.slice (some ⟨g,0,none⟩) m cap)∧AU w' (.slice (some ⟨g,0,none⟩) m cap) (some g) 47 51 m L∧Touch g w w':=by
 have hlen:=h.len;have hL:L.length=m*51:=by rw[List.length_append,h0] at hlen;omega
 obtain⟨g',cap',rest,hv,hg',hc1,hcm,hh,hl⟩:=h.blk (Nat.succ_pos m);cases hg';injection hv with _ _ hcc;subst hcc;have HH:=qh hh;have hm1:((m+1:Nat):Int)=(m:Int)+1:=by omega
 have hcap:(m:Int)+1≤cap:=by omega
 have hH1:=qh h1;have HT:=qh (Touch.refl g w);have hcm2:(cap=m)=False:=by simp;omega
 have hmle:(m:Int)≤(m:Int)+1:=by omega
 have hle:(1:Int)≤(m:Int)+1:=by omega
 have hcc:cap=1∨(cap=1)=False:=by by_cases h:cap=1<;>simp[h]
 clear h hlen h1;go_in;go_upto_region 5 with(fail);rcases hcc with rfl|hcc
 ·obtain rfl:m=0:=by omega
  obtain⟨HH,HT⟩:=Bf (AP _ w) HH HT;refine EC [6] 8 (λhSn=>?_);generalize w.drew=wd at HH HT hSn ⊢;simp only[List.replicate];refine Gn 0 ?_;refine FD 4 ?_;refine BC 6 rfl (λK hK=>?_);refine Hz rfl (.tmp 22) (.tmp 25) 34 rfl 47 (.agg CJ.toArray) 51 480 rfl (by kernel_rfl) g 0 _ [] rfl (AU.mk' (rest:=L0++L++rest) (HH.bel hSn) rfl hl (Nat.zero_le _) hcm) _ 0 _ L rfl hL (λj u hu=>?_) hH1.out (by omega) ?_
  ·first|(have h9:=(List.getElem?_eq_some_iff.1 hu).1;omega)|(rw[(HH.bel hSn).cell,List.append_assoc,List.getElem?_append_right (by omega),h0,Nat.add_sub_cancel_left,List.getElem?_append_left (List.getElem?_eq_some_iff.1 hu).1];exact hu)
  intro w2 ho2 ht2;have HT:=qh ((HT.bel hSn).trans ht2);have HO:=qh ho2;clear ho2 ht2;change K (Act.put _ (some 26) _) _;refine BJ hK ?_;clear hK;refine CS 7 ?_ (hS:=GK);refine DX ?_;have HO:=qh (show AU w2 (.slice (some ⟨g,0,none⟩) 0 _) (some g) 47 51 0 L by simpa using HO.o);obtain⟨g2,cap2,r2,hv2,hg2,hd1,hd2,hh2,hl2⟩:=HO.cases.resolve_left (λhx=>by cases hx.1);cases hg2;injection hv2 with _ _ hcq;subst hcq;have HG:=qh hh2;have hr2:51≤r2.length:=by rw[List.length_append] at hl2;omega
  clear hSn HH hh2;go_wp2_with (first|(refine FK rfl (.tmp 31) 34 rfl rfl 47 (.agg CJ.toArray) rfl (by kernel_rfl) g (0*51) 1 _ (by decide) rfl _ 47 HG.o CJ (by kernel_rfl) (by simp[CJ];omega) Rq ?_;intro w5 hh5 ht5));have hsp:splice (L++r2) (0*51) CJ=L++(CJ++r2.drop 51):=by
   unfold splice;rw[List.take_append_of_le_length (by omega),List.take_of_length_le (by omega)];try simp only[List.append_assoc]
   rw[←hL,show L.length+CJ.length=L.length+51 from rfl,show (L++r2).drop (L.length+51)=r2.drop 51 by simp[List.drop_append]]
  have hh5:=hsp▸hh5;refine b1 (v:=.slice (some ⟨g,0,none⟩) 0 1) ?_;refine⟨rfl,AU.mk' hh5 hL ?_ (by omega) hcm,HT.trans ht5⟩;rw[List.length_append] at hl2;simp only[List.length_append,List.length_drop,show CJ.length=51 from rfl];omega
 ·skip
  obtain⟨HH,HT⟩:=Bf (AP _ w) HH HT;refine EC [6] 8 (λhSn=>?_);generalize w.drew=wd at HH HT hSn ⊢;simp only[List.replicate];refine Gn 0 ?_;refine FD 4 ?_;refine BC 6 rfl (λK hK=>?_);refine Hz rfl (.tmp 22) (.tmp 25) 34 rfl 47 (.agg CJ.toArray) 51 480 rfl (by kernel_rfl) g 0 _ [] rfl (AU.mk' (rest:=L0++L++rest) (HH.bel hSn) rfl hl (Nat.zero_le _) hcm) _ m _ L rfl hL (λj u hu=>?_) hH1.out (by omega) ?_
  ·first|(have h9:=(List.getElem?_eq_some_iff.1 hu).1;omega)|(rw[(HH.bel hSn).cell,List.append_assoc,List.getElem?_append_right (by omega),h0,Nat.add_sub_cancel_left,List.getElem?_append_left (List.getElem?_eq_some_iff.1 hu).1];exact hu)
  intro w2 ho2 ht2;have HT:=qh ((HT.bel hSn).trans ht2);have HO:=qh ho2;clear ho2 ht2;change K (Act.put _ (some 26) _) _;refine BJ hK ?_;clear hK;refine CS 7 ?_ (hS:=GK);refine DX ?_;have HO:=qh (show AU w2 (.slice (some ⟨g,0,none⟩) m _) (some g) 47 51 m L by simpa using HO.o);obtain⟨g2,cap2,r2,hv2,hg2,hd1,hd2,hh2,hl2⟩:=HO.cases.resolve_left (λhx=>by cases hx.1);cases hg2;injection hv2 with _ _ hcq;subst hcq;have HG:=qh hh2;have hr2:51≤r2.length:=by rw[List.length_append] at hl2;omega
  clear hSn HH hh2;go_wp2_with (first|(refine FK rfl (.tmp 31) 34 rfl rfl 47 (.agg CJ.toArray) rfl (by kernel_rfl) g (m*51) 1 _ (by decide) rfl _ 47 HG.o CJ (by kernel_rfl) (by simp[CJ];omega) Rq ?_;intro w5 hh5 ht5));have hsp:splice (L++r2) (m*51) CJ=L++(CJ++r2.drop 51):=by
   unfold splice;rw[List.take_append_of_le_length (by omega),List.take_of_length_le (by omega)];try simp only[List.append_assoc]
   rw[←hL,show L.length+CJ.length=L.length+51 from rfl,show (L++r2).drop (L.length+51)=r2.drop 51 by simp[List.drop_append]]
  have hh5:=hsp▸hh5;refine b1 (v:=.slice (some ⟨g,0,none⟩) m cap) ?_;refine⟨rfl,AU.mk' hh5 hL ?_ (by omega) hcm,HT.trans ht5⟩;rw[List.length_append] at hl2;simp only[List.length_append,List.length_drop,show CJ.length=51 from rfl];omega
theorem QL(c:Cm)(h:DV c.k c.c c.s c.a c.b c.o c.v=true)(hk:c.k≠0):CU c:=by
 have h2:=h;unfold DV at h2;rw[Bool.or_eq_true] at h2;rcases h2 with h2|h2
 ·simp only[NU,Bool.and_eq_true,beq_iff_eq] at h2;exact absurd h2.1 hk
 ·simp only[Bool.and_eq_true,decide_eq_true_eq,Bool.not_eq_true',Jr,Bool.or_eq_false_iff,decide_eq_false_iff_not] at h2;exact⟨h,⟨h2.1.1.1,h2.1.1.2⟩,h2.1.2.1,h2.1.2.2,by omega,by omega,by omega,by omega⟩
section
def Ij(n:Nat)(gs:Nat→Option Nat):List Value:=(List.range n).map λi=>.pointer ((gs i).map λg=>⟨g,0,none⟩)
theorem JJ(n:Nat)(gs:Nat→Option Nat):(Ij n gs).length=n:=by simp[Ij]
theorem Nj(n:Nat)(gs:Nat→Option Nat)(rest:List Value)(i:Nat)(hi:i<n):(Ij n gs++rest)[i]?=some (.pointer ((gs i).map λg=>⟨g,0,none⟩)):=by rw[List.getElem?_append_left (by rw[JJ];exact hi)];simp[Ij,hi]
def ptrs(n:Nat)(gs:Nat→Nat):List Value:=Ij n λi=>some (gs i)
theorem Jf(n:Nat)(gs:Nat→Nat)(rest:List Value)(i:Nat)(hi:i<n):(ptrs n gs++rest)[i]?=some (.pointer (some ⟨gs i,0,none⟩)):=Nj n _ rest i hi
def OG(gs:Nat→Option Nat)(q:Nat):Nat→Option Nat:=λj=>if j=q then none else gs j
theorem Yr(n:Nat)(gs:Nat→Option Nat)(rest:List Value)(q:Nat)(hq:q<n):(Ij n gs++rest).set q (.pointer none)=Ij n (OG gs q)++rest:=by
 rw[List.set_append_left _ _ (by rw[JJ];exact hq)]
 congr 1
 apply List.ext_getElem?;intro i;by_cases hi:i<n
 ·simp only[Ij,OG,List.getElem?_set,List.getElem?_map,List.length_map,List.length_range,List.getElem?_range hi,Option.map_some];by_cases h:q=i
  ·subst h;simp[hi]
  ·simp[h,Ne.symm h]
 ·rw[List.getElem?_eq_none (by rw[List.length_set,JJ];omega),List.getElem?_eq_none (by rw[JJ];omega)]
def NF(k:Int)(c:Cm)(v:Int):List Value:=[.int .i64 k,.int .i64 1,.int .i64 c.k,.int .i64 1,.int .i64 1,.string c.a,.string c.b,.string c.o,.string c.v,.int .i64 0,.bool false,.string ⟨#[]⟩,.int .i64 v,.slice none 0 0]
def OQ(c:Cm):Nat→List Value
 | 0=>NF 1 c 0
 | _=>NF 2 c (Ea c)
def DW(n:Nat)(dv nv clv cav lv hv:Value):List Value:=[.int .i64 n,dv,nv,clv,cav,lv,hv]
def Nq(w:World)(g:Nat)(c:Cm)(hist:Nat)(wait:Bool)(tg ct:Nat):Prop:=(hist=0∧wait=false∧Hq w g 1 0 Cm.zero false 0 0)∨(hist≠0∧Hq w g 1 1 c wait tg ct)
theorem Nq.holds{w:World}{g:Nat}{c:Cm}{hist:Nat}{wait:Bool}{tg ct:Nat}(h:Nq w g c hist wait tg ct):∃L,Holds w g 132 L:=by
 rcases h with⟨_,_,h3⟩|⟨_,h3⟩
 ·exact⟨_,h3⟩
 ·exact⟨_,h3⟩
theorem Nq.mv{w w':World}{G:Ap}{g:Nat}{c:Cm}{hist:Nat}{wait:Bool}{tg ct:Nat}(h:Nq w g c hist wait tg ct)(hm:Mv G w w')(hn:¬G g):Nq w' g c hist wait tg ct:=
 h.imp (λ⟨a,b,h⟩=>⟨a,b,h.mv hm hn⟩) λ⟨a,h⟩=>⟨a,h.mv hm hn⟩
structure NZ(w:World)(own:Nat→Nat)(gC n q:Nat)(c:Cm)(lets:List Lt)(hist:Nat)(wait:Bool)(tg ct:Nat)(dv:Value)(gN cN gCl cCl gCa:Nat)(lv hv:Value)(gs:Nat→Option Nat)(gds gcl:Nat→Nat):Prop where
 cl:Holds w gC 85 (DW n dv (.slice (some ⟨gN,0,none⟩) n cN) (.slice (some ⟨gCl,0,none⟩) 8 cCl) (.slice (some ⟨gCa,0,none⟩) 8 8) lv hv)
 ow:own gC=1∧own gN=1∧own gCl=1∧own gCa=1
 np:∃rest,Holds w gN 59 (Ij n gs++rest)
 cN:n≤cN∧cN≤maxLen
 cp:∃rest,Holds w gCl 92 (ptrs 8 gcl++rest)
 cCl:8≤cCl∧cCl≤maxLen
 c0:Nq w (gcl 0) c hist wait tg ct
 cs:∀j,j<8→j≠0→Hq w (gcl j) ((j:Int)+1) 0 Cm.zero false 0 0
 clo:∀j,j<8→own (gcl j)=1
 calls:∃cs rest,Holds w gCa 23 (cs++rest)∧cs.length=7∧rest.length=49∧(hist≠0→cs=c.cells)
 lts:∃ob,AU w lv ob 47 51 lets.length (flat 51 lets.length (DJ c q lets))∧∀g,ob=some g→own g=1
 his:Qr hist hv∧∃ob,AU w hv ob 55 14 hist (flat 14 hist (OQ c))∧∀g,ob=some g→own g=1
 dk:∃gD cD rest,dv=.slice (some ⟨gD,0,none⟩) n cD∧n≤cD∧own gD=1∧Holds w gD 87 (ptrs n gds++rest)
 lt:∀k,own k≠0→k<w.heap.size
def Dj(w:World)(own:Nat→Nat)(n q:Nat)(c:Cm)(B:Nat)(phs:List Ph)(tks:List Nat)(gs:Nat→Option Nat)(gds:Nat→Nat)(out:Nat→List Lt)(an:Nat→Bool):Prop:=
 ∀i,i<n→(phs.getD i .fresh=.gone∧gs i=none)∨(phs.getD i .fresh≠.gone∧∃g,gs i=some g∧Bg w (λk=>own k=2+i) g (gds i) n i q c (phs.getD i .fresh) (out i) (an i) (tks.getD i 0) B)
def JU(w:World)(own:Nat→Nat)(gC n q:Nat)(c:Cm)(B:Nat)(s:Cs)(out:Nat→List Lt)(an:Nat→Bool):Prop:=
 ∃dv gN cN gCl cCl gCa lv hv gs gds gcl,NZ w own gC n q c s.lets s.hist s.wait s.tg s.ct dv gN cN gCl cCl gCa lv hv gs gds gcl∧Dj w own n q c B s.phs s.tks gs gds out an∧s.phs.length=n∧s.tks.length=n
def Eb(w:World)(own:Nat→Nat)(gC n q:Nat)(c:Cm)(B:Nat)(s:Cs):Prop:=JU w own gC n q c B s (λ_=>[]) (λ_=>false)
def CY(own:Nat→Nat)(w w':World)(x:Nat):Nat→Nat:=λk=>if w.heap.size≤k∧k<w'.heap.size then x else own k
theorem Bg.mv{w w':World}{F G:Ap}{g gd n me q:Nat}{c:Cm}{ph:Ph}{out:List Lt}{an:Bool}{tk B:Nat}(h:Bg w F g gd n me q c ph out an tk B)(hm:Mv G w w')(hG:∀k,G k→k<w.heap.size→¬F k):Bg w' F g gd n me q c ph out an tk B:=by obtain⟨t,ht,h⟩:=h;exact⟨t,ht,h.mv hm hG⟩
section
variable {w w':World} {own own':Nat→Nat} {gC n q:Nat} {c:Cm} {B:Nat} {lets:List Lt} {hist:Nat} {wait:Bool} {tg ct:Nat} {dv:Value} {gN cN gCl cCl gCa:Nat} {lv hv:Value} {gs:Nat→Option Nat} {gds gcl:Nat→Nat} {phs:List Ph} {tks:List Nat} {out:Nat→List Lt} {an:Nat→Bool}
theorem NZ.mv{G:Ap}(h:NZ w own gC n q c lets hist wait tg ct dv gN cN gCl cCl gCa lv hv gs gds gcl)(hm:Mv G w w')(hG:∀k,G k→k<w.heap.size→own k≠1)(ho:∀k,k<w.heap.size→own' k=own k)(hlt:∀k,own' k≠0→k<w'.heap.size):NZ w' own' gC n q c lets hist wait tg ct dv gN cN gCl cCl gCa lv hv gs gds gcl:=by have hn:∀k,k<w.heap.size→own k=1→¬G k:=λk hk h1 hg=>hG k hg hk h1;have hlc:∀j,j<8→gcl j<w.heap.size:=λj hj=>h.lt _ (by rw[h.clo j hj];decide);obtain⟨a1,⟨o1,o2,o3,o4⟩,⟨r1,a2⟩,a3,⟨r2,a4⟩,a5,a6,a7,a8,⟨cs,r3,a9,a10,a11,a12⟩,⟨ob,b1,b2⟩,⟨b3,ob2,b4,b5⟩,⟨gD,cD,r4,d1,d2,d3,d4⟩,b6⟩:=h;exact⟨a1.mv hm (hn _ a1.lt o1),⟨by rw[ho _ a1.lt,o1],by rw[ho _ a2.lt,o2],by rw[ho _ a4.lt,o3],by rw[ho _ a9.lt,o4]⟩,⟨r1,a2.mv hm (hn _ a2.lt o2)⟩,a3,⟨r2,a4.mv hm (hn _ a4.lt o3)⟩,a5,a6.mv hm (hn _ (hlc 0 (by omega)) (a8 0 (by omega))),λj hj h0=>(a7 j hj h0).mv hm (hn _ (a7 j hj h0).lt (a8 j hj)),λj hj=>by rw[ho _ (hlc j hj),a8 j hj],⟨cs,r3,a9.mv hm (hn _ a9.lt o4),a10,a11,a12⟩,⟨ob,b1.mv hm λg hg=>hn _ (b1.lt g hg) (b2 g hg),λg hg=>by rw[ho _ (b1.lt g hg),b2 g hg]⟩,⟨b3,ob2,b4.mv hm λg hg=>hn _ (b4.lt g hg) (b5 g hg),λg hg=>by rw[ho _ (b4.lt g hg),b5 g hg]⟩,⟨gD,cD,r4,d1,d2,by rw[ho _ d4.lt,d3],d4.mv hm (hn _ d4.lt d3)⟩,hlt⟩
theorem Dj.mv{G:Ap}(h:Dj w own n q c B phs tks gs gds out an)(hm:Mv G w w')(hG:∀k,G k→k<w.heap.size→own k<2)(ho:∀k,k<w.heap.size→own' k=own k):Dj w' own' n q c B phs tks gs gds out an:=λi hi=>by
 rcases h i hi with h0|⟨h0,g,hg,h1⟩
 ·exact .inl h0
 ·have h1:Bg w (λk=>own' k=2+i) g (gds i) n i q c (phs.getD i .fresh) (out i) (an i) (tks.getD i 0) B:=h1.foot λk hk hl=>by rw[ho k hl];exact hk
  exact .inr ⟨h0,g,hg,h1.mv hm λk hk hl hx=>by
   have:=hG k hk hl;rw[ho k hl] at hx;omega⟩
theorem Dj.one{G:Ap}{i g':Nat}{B':Nat}{phs':List Ph}{tks':List Nat}{gs':Nat→Option Nat}{out':Nat→List Lt}{an':Nat→Bool}(h:Dj w own n q c B phs tks gs gds out an)(hm:Mv G w w')(hG:∀k,G k→k<w.heap.size→own k<2∨own k=2+i)(ho:∀k,k<w.heap.size→own' k=own k)(hB:B≤B') (hoth:∀j,j<n→j≠i→phs'.getD j .fresh=phs.getD j .fresh∧tks'.getD j 0=tks.getD j 0∧gs' j=gs j∧out' j=out j∧an' j=an j) (hnew:i<n→(phs'.getD i .fresh=.gone∧gs' i=none)∨(phs'.getD i .fresh≠.gone∧gs' i=some g'∧Bg w' (λk=>own' k=2+i) g' (gds i) n i q c (phs'.getD i .fresh) (out' i) (an' i) (tks'.getD i 0) B')):Dj w' own' n q c B' phs' tks' gs' gds out' an':=λj hj=>by
 by_cases hji:j=i
 ·subst hji;rcases hnew hj with h|⟨h1,h2,h3⟩
  ·exact .inl h
  ·exact .inr ⟨h1,g',h2,h3⟩
 ·obtain⟨e1,e2,e3,e4,e5⟩:=hoth j hj hji;rw[e1,e2,e3,e4,e5];rcases h j hj with h0|⟨h0,g,hg,t,⟨ht1,ht2⟩,h1⟩
  ·exact .inl h0
  ·have h1:Bg w (λk=>own' k=2+j) g (gds j) n j q c (phs.getD j .fresh) (out j) (an j) (tks.getD j 0) B':=⟨t,⟨ht1,by omega⟩,h1.foot λk hk hl=>by rw[ho k hl];exact hk⟩;exact .inr ⟨h0,g,hg,h1.mv hm λk hk hl hx=>by
    have:=hG k hk hl;rw[ho k hl] at hx;omega⟩
theorem JU.bel{s:Cs}(h:JU w own gC n q c B s out an)(hb:Below w.heap.size w w'):JU w' own gC n q c B s out an:=by obtain⟨dv,gN,cN,gCl,cCl,gCa,lv,hv,gs,gds,gcl,h1,h2,h3⟩:=h;exact⟨dv,gN,cN,gCl,cCl,gCa,lv,hv,gs,gds,gcl,h1.mv (G:=λ_=>False) (.of_below hb) (λ_ h=>h.elim) (λ_ _=>rfl) (λk hk=>Nat.lt_of_lt_of_le (h1.lt k hk) hb.size),h2.mv (G:=λ_=>False) (.of_below hb) (λ_ h=>h.elim) (λ_ _=>rfl),h3⟩
instance {s:Cs}:Bl w w' (JU w own gC n q c B s out an) (JU w' own gC n q c B s out an):=⟨λhb h=>JU.bel h hb⟩
theorem NZ.bel(h:NZ w own gC n q c lets hist wait tg ct dv gN cN gCl cCl gCa lv hv gs gds gcl)(hb:Below w.heap.size w w'):NZ w' own gC n q c lets hist wait tg ct dv gN cN gCl cCl gCa lv hv gs gds gcl:=h.mv (G:=λ_=>False) (.of_below hb) (λ_ h=>h.elim) (λ_ _=>rfl) (λk hk=>Nat.lt_of_lt_of_le (h.lt k hk) hb.size)
instance:Bl w w' (NZ w own gC n q c lets hist wait tg ct dv gN cN gCl cCl gCa lv hv gs gds gcl) (NZ w' own gC n q c lets hist wait tg ct dv gN cN gCl cCl gCa lv hv gs gds gcl):=⟨λhb h=>NZ.bel h hb⟩
theorem Dj.bel(h:Dj w own n q c B phs tks gs gds out an)(hb:Below w.heap.size w w'):Dj w' own n q c B phs tks gs gds out an:=h.mv (G:=λ_=>False) (.of_below hb) (λ_ h=>h.elim) (λ_ _=>rfl)
instance:Bl w w' (Dj w own n q c B phs tks gs gds out an) (Dj w' own n q c B phs tks gs gds out an):=⟨λhb h=>Dj.bel h hb⟩
end
end
theorem N8(id:Int)(h1:1≤id)(h2:id≤8)(w:World):Calls prog 37 #[.int .i64 id] w λe w'=>e=.returned (.bool true)∧Below w.heap.size w w':=by go_in;go_wp2_with fail;go_ret;exact⟨rfl,Below.refl _ _⟩
theorem bY(gC n:Nat)(dv nv clv cav lv hv:Value)(w:World)(h:Holds w gC 85 (DW n dv nv clv cav lv hv)) :Calls prog 9 #[.pointer (some ⟨gC,0,none⟩)] w λe w'=>e=.returned (.int .i64 n)∧Below w.heap.size w w':=by have a0:=AZ h 0;clear h;go_in;go_wp2_with fail;go_ret;exact⟨rfl,Below.refl _ _⟩
theorem QN(gC n gN cN i:Nat)(gs:Nat→Option Nat)(rest:List Value)(dv clv cav lv hv:Value)(w:World)(h:Holds w gC 85 (DW n dv (.slice (some ⟨gN,0,none⟩) n cN) clv cav lv hv))(hN:Holds w gN 59 (Ij n gs++rest))(hi:i<n) :Calls prog 17 #[.pointer (some ⟨gC,0,none⟩),.int .i64 i] w λe w'=>e=.returned (.pointer ((gs i).map λg=>⟨g,0,none⟩))∧Below w.heap.size w w':=by
 obtain⟨a0,a2⟩:=BQ h 0 2;have p:=hN.cell i;rw[Nj n gs rest i hi] at p;have hin:(i:Int)<(n:Int):=by omega
 have hi0:¬((i:Int)<0):=by omega
 clear h hN;generalize (gs i).map (λg=>(⟨g,0,none⟩:Addr))=pa at p ⊢;go_in;go_wp2_with fail;go_ret;exact⟨rfl,Below.refl _ _⟩
theorem PZ(gC n gN cN i g:Nat)(gs:Nat→Option Nat)(rest:List Value)(dv clv cav lv hv:Value)(w:World)(h:Holds w gC 85 (DW n dv (.slice (some ⟨gN,0,none⟩) n cN) clv cav lv hv))(hN:Holds w gN 59 (Ij n gs++rest))(hi:i<n)(hg:gs i=some g) :Calls prog 17 #[.pointer (some ⟨gC,0,none⟩),.int .i64 i] w λe w'=>e=.returned (.pointer (some ⟨g,0,none⟩))∧Below w.heap.size w w':=by have:=QN gC n gN cN i gs rest dv clv cav lv hv w h hN hi;rw[hg] at this;exact this
theorem QK(g:Nat)(id seq:Int)(x:Cm)(waits:Bool)(target ticks:Int)(w:World)(h:Hq w g id seq x waits target ticks) :Calls prog 38 #[.pointer (some ⟨g,0,none⟩)] w λe w'=>e=.returned (.bool waits)∧Below w.heap.size w w':=by have c9:=AZ h 9;clear h;go_in;go_wp2_with fail;go_ret;exact⟨rfl,Below.refl _ _⟩
theorem JA(w:World):Calls prog 36 #[.slice none 0 0] w λe w'=>e=.returned (.slice none 0 0)∧Below w.heap.size w w':=EL w
theorem gB(V:Nat→List Value)(h:∀i,(V i).length=14):flat 14 2 V=V 0++V 1:=by rw[←FV (m:=1) (V:=V) (by decide) (λi _=>h i),En (h 0)]
def Ir(c:Cm):List Value:=NF 1 c 0++NF 2 c (Ea c)
theorem Vs(c:Cm):∀u∈Ir c,u.oneCell'=true:=by simp[Ir,NF,Value.oneCell']
theorem Po(c:Cm):flat 14 2 (OQ c)=Ir c:=gB _ λi=>by cases i<;>rfl
theorem XU(gC n:Nat)(c:Cm)(dv nv clv cav lv hv:Value)(ob:Option Nat)(w:World)(h:Holds w gC 85 (DW n dv nv clv cav lv hv))(hh:AU w hv ob 55 14 2 (Ir c)) :Calls prog 14 #[.pointer (some ⟨gC,0,none⟩)] w λe w'=>∃g c2 rest,e=.returned (.slice (some ⟨g,0,none⟩) 2 c2)∧2≤c2∧Holds w' g 55 (Ir c++rest)∧w.heap.size≤g∧Below w.heap.size w w':=by
 have K:=qh (ZT hv ob 2 (Ir c) (Vs c) (by omega) w hh (λh=>by omega));have KP:=qh JA;have a6:=AZ h 6;have hgs:=h.lt;clear h hh;go_in;go_wp2_with fail;refine K.out.mono ?_;rintro e w1 ⟨P',ob',rfl,ho,hob,_,hb⟩;obtain⟨g,c2,rest,rfl,rfl,hc1,hc2,hg,hl⟩:=ho.blk (by decide);have HG:=qh hg;have hgw:=hob g rfl;have HB:=qh hb;clear ho hob hb K a6 hg;go_wp2_with fail;go_loopw [12] (λvi wr=>∃i:Nat,vi=.int .i64 (i:Int)∧i≤2∧Holds wr g 55 (Ir c++rest)∧Below w.heap.size w wr) (λvi _=>2 - (intOf vi).toNat);case atStart=>exact⟨0,rfl,by omega,HG.o,HB.o⟩
 case round=>
  obtain⟨i,rfl,hi,hg,hb⟩:=hrel;have HG:=qh hg;have HB:=qh hb;have hgl:=hg.lt;clear hg hb;rcases(show i=0∨i=1∨i=2 by omega) with rfl|rfl|rfl
  ·have e13:=HG.cell 13;simp only[Ir,NF,List.cons_append,yA,yB] at e13;go_wp2_with fail;refine AY (KP.o _) ?_;rintro w2 hb;have HB:=qh (HB.trans (hb.mono HB.size));have HG:=Ci hb HG;clear hb e13;go_wp2_with (first|(refine sC 13 HG.o (.slice none 0 0) ?_;intro w7 hh7 ht7));have HG7:=qh (show Holds w7 g 55 (Ir c++rest) from hh7);have HB7:=qh (HB.trans (ht7.below hgw HB.size));clear hh7 ht7;go_roundw;case rel=>exact⟨1,rfl,by omega,HG7.o,HB7.o⟩
   case measure=>simp[intOf]
  ·have e27:=HG.cell 27;simp only[Ir,NF,List.cons_append,yA,yB] at e27;go_wp2_with fail;refine AY (KP.o _) ?_;rintro w2 hb;have HB:=qh (HB.trans (hb.mono HB.size));have HG:=Ci hb HG;clear hb e27;go_wp2_with (first|(refine sC 27 HG.o (.slice none 0 0) ?_;intro w7 hh7 ht7));have HG7:=qh (show Holds w7 g 55 (Ir c++rest) from hh7);have HB7:=qh (HB.trans (ht7.below hgw HB.size));clear hh7 ht7;go_roundw;case rel=>exact⟨2,rfl,by omega,HG7.o,HB7.o⟩
   case measure=>simp[intOf]
  ·go_wp2_with fail;go_ret;exact⟨g,c2,rest,rfl,hc1,HG.o,hgw,HB.o⟩
theorem OI{w:World}{g:Nat}{rest:List Value}(m:Nat)(V:Nat→List Value)(hV:∀i,(V i).length=51)(h:Holds w g 47 (flat 51 m V++rest))(j:Nat)(hj:j<m):w.rangeAt g (j*51) (V j):=
 h.D9 (j*51) λt v hv=>by
  have ht:t<51:=by have:=(List.getElem?_eq_some_iff.1 hv).1;rw[hV] at this;exact this
  have h1:j*51+t<m*51:=by have:(j+1)*51≤m*51:=Nat.mul_le_mul_right 51 (by omega);omega
  rw[List.getElem?_append_left (by rw[D5];exact h1),GI 51 m V j t hj ht (hV j)];exact hv
theorem RU(xs:List Value)(V:Nat→List Value)(hV:∀i,(V i).length=51)(j:Nat):(xs++flat 51 j V)++V j=xs++flat 51 (j+1) V:=by rw[List.append_assoc,FV (by decide) (λi _=>hV i)]
def TA(gC n ml:Nat)(dv nv clv cav hv:Value)(xs:List Value)(V:Nat→List Value)(obl:Option Nat)(w:World)(j:Nat)(wr:World):Prop:=∃lv' ob',Holds wr gC 85 (DW n dv nv clv cav lv' hv)∧AU wr lv' ob' 47 51 (ml+j) (xs++flat 51 j V)∧(ob'=obl∨∃k,ob'=some k∧w.heap.size≤k)∧Mv (λk=>k=gC∨obl=some k) w wr
theorem Jy{L:List Value}(h:∀u∈L,u.oneCell'=true):L.toArray.all (·.oneCell')=true:=by simpa using h
theorem Nb{L:List Value}(h:L.length=51):(prog.info? 47).map (·.size)=some L.length:=by rw[h];kernel_rfl
def VL(ks fs ts:Nat→Nat)(ps:Nat→Lp)(j:Nat):List Value:=DZ (ks j) (fs j) (ts j) (ps j)
theorem fO(gC gN n cN i ml m:Nat)(gi:Nat)(gs:Nat→Option Nat)(rN:List Value)(dv clv cav lv hv:Value)(xs:List Value)(ks fs ts:Nat→Nat)(ps:Nat→Lp)(R:World→World→Prop)(w:World) (h:Holds w gC 85 (DW n dv (.slice (some ⟨gN,0,none⟩) n cN) clv cav lv hv)) (hN:Holds w gN 59 (Ij n gs++rN)) (hi:i<n) (hgi:gs i=some gi) (hcN:n≤cN) (hts:∀i,i<m→ts i<n) (hml:ml+m≤1000) (KO:Calls prog 54 #[.pointer (some ⟨gi,0,none⟩)] w λe w1=>∃o obo obl,e=.returned (.tuple #[o,.slice none 0 0])∧R w w1∧Holds w1 gC 85 (DW n dv (.slice (some ⟨gN,0,none⟩) n cN) clv cav lv hv)∧AU w1 o obo 47 51 m (flat 51 m (VL ks fs ts ps))∧AU w1 lv obl 47 51 ml xs∧(∀k,obo=some k→obl≠some k)) :Calls prog 31 #[.pointer (some ⟨gC,0,none⟩),.int .i64 i] w λe w'=>e=.returned (.tuple #[])∧∃w1 obl,R w w1∧AU w1 lv obl 47 51 ml xs∧TA gC n ml dv (.slice (some ⟨gN,0,none⟩) n cN) clv cav hv xs (VL ks fs ts ps) obl w1 m w':=by
 have KO:=qh KO;have hts:=qh hts;have hV:∀j,((VL ks fs ts ps) j).length=51:=λ_=>rfl;have hV1:=qh (show ∀j,∀u∈(VL ks fs ts ps) j,u.oneCell'=true from λj=>IW _ _ _ _);have hin:(i:Int)<(n:Int):=by omega
 have a2:=AZ h 2;have p:=hN.cell i;rw[Nj n gs rN i hi,hgi] at p;simp only[Option.map_some] at p;clear h hN;go_in;go_wp2_with fail;refine KO.mono ?_;rintro e w1 ⟨o,obo,obl,rfl,hr,hc,ho,hl,hne⟩;have hgt:∀k,obl=some k→k≠gC:=λk hk=>by
  rcases hl.cases with⟨_,h0,_⟩|⟨g1,_,_,_,h0,_,_,hh,_⟩
  ·rw[h0] at hk;cases hk
  ·rw[h0] at hk;cases hk;exact hh.ne_of hc (by decide)
 have hgo:∀k,obo=some k→k≠gC:=λk hk=>by
  rcases ho.cases with⟨_,h0,_⟩|⟨g1,_,_,_,h0,_,_,hh,_⟩
  ·rw[h0] at hk;cases hk
  ·rw[h0] at hk;cases hk;exact hh.ne_of hc (by decide)
 obtain⟨po,co,rfl⟩:∃po co,o=.slice po m co:=by
  rcases ho.cases with⟨r,_,r2,_⟩|⟨_,_,_,r,_⟩
  ·subst r2;exact⟨_,_,r⟩
  ·exact⟨_,_,r⟩
 have HR:=qh hr;have HO:=qh ho;have HL:=qh hl;have hJ0:TA gC n ml dv (.slice (some ⟨gN,0,none⟩) n cN) clv cav hv xs (VL ks fs ts ps) obl w1 0 w1:=⟨lv,obl,hc,by rw[JY,List.append_nil];exact hl,.inl rfl,Mv.refl _ _⟩;have HJ0:=qh hJ0;clear hr hc ho hl hJ0 KO a2 p;go_wp2_with fail;go_loopw [23] (λvi wr=>∃j:Nat,vi=.int .i64 (j:Int)∧j≤m∧TA gC n ml dv (.slice (some ⟨gN,0,none⟩) n cN) clv cav hv xs (VL ks fs ts ps) obl w1 j wr) (λvi _=>m - (intOf vi).toNat);case atStart=>exact⟨0,rfl,Nat.zero_le _,HJ0.o⟩
 case round=>
  obtain⟨j,rfl,hj,hJ⟩:=hrel;clear HJ0;by_cases hjm:j=m
  ·subst hjm;have HJ:=qh hJ;clear hJ;go_wp2_with fail;go_loopw [55] (λvi wr2=>vi=.int .i64 0∧wr=wr2) (λ_ _=>0);case atStart=>exact⟨rfl,rfl⟩
   case round=>obtain⟨rfl,rfl⟩:=hrel;go_wp2_with fail;exact bE ⟨rfl,w1,obl,HR.o,HL.o,HJ.o⟩
  ·have hjm2:j<m:=by omega
   have hji:(j:Int)<(m:Int):=by omega
   obtain⟨lv',ob',hc,hl,hob,hm⟩:=hJ;have ho:=HO.mv hm (λk hk hf=>hf.elim (hgo k hk) (hne k hk));obtain⟨go,co',ro,hv1,hv2,hco1,hco2,hgoh,_⟩:=ho.blk (by omega);injection hv1 with hv1 _ hv3;subst hv1 hv3;have HRG:=qh (OI m (VL ks fs ts ps) hV hgoh j hjm2);have HC:=qh hc;have HLL:=qh hl;have HM:=qh hm;have hob2:=qh hob;have hV2a:((VL ks fs ts ps) j)[2]?=some (.int .i64 (ts j)):=rfl;have htn:(ts j:Int)<(n:Int):=by have:=hts.out j hjm2;omega
   clear hc hl hm hob ho hgoh;obtain⟨pl,cl,rfl⟩:∃pl cl,lv'=.slice pl (ml+j:Nat) cl:=by
    rcases HLL.cases with⟨r,_,r2,_⟩|⟨_,_,_,r,_⟩
    ·rw[r2];exact⟨_,_,r⟩
    ·exact⟨_,_,r⟩
   have hl4:((ml+j:Nat):Int)<4000:=by omega
   have hgt2:=qh (show ∀k,ob'=some k→k≠gC from λk hk=>by
    rcases HLL.cases with⟨_,h0,_⟩|⟨g1,_,_,_,h0,_,_,hh,_⟩
    ·rw[h0] at hk;cases hk
    ·rw[h0] at hk;cases hk;exact hh.ne_of HC.o (by decide))
   have hbld:∀j (w:World),(Instr.buildSlice 34 1 #[(0,.agg ((VL ks fs ts ps) j).toArray)]).run prog w=.ok (.slice (some ⟨w.heap.size,0,none⟩) 1 1) (w.alloc (.cells ((VL ks fs ts ps) j).toArray 47)):=λj w=>by kernel_rfl
   have HB1:=qh (Base.start wr);go_upto_region 4 with(first|(refine lM (j*51) HRG.o ?_ (hi:=Nb (hV j)))|(refine sW ((VL ks fs ts ps) j) (AA wr _ _) ?_ (Jy (hV1.out j)) (hi:=Nb (hV j)) (hl:=by rw[hV];rfl);intro w2 hh2 ht2));have hal:Below wr.heap.size wr w2:=Below.trans ((Below.refl _ _).alloc (Nat.le_refl _) _) (ht2.below (Nat.le_refl _) (by simp));have HX:=qh hh2;obtain⟨HC,HLL,HM,HB1⟩:=D8 hal HC HLL HM HB1;clear hal hh2 ht2 HRG;generalize hgx:wr.heap.size=gx at HX HB1 ⊢;have x2:=HX.cell 2;rw[hV2a] at x2;obtain⟨a0,a5⟩:=BQ HC.o 0 5;go_quiet (fail);have HC:=qh (HC.bel (BV _ _ nq));have HLL:=qh (HLL.bel (BV _ _ nq));have HM:=qh (HM.bel (BV _ _ nq));have HB1:=qh (HB1.bel (BV _ _ nq));have HX:=qh (HX.bel (BV _ _ nq));clear x2 a0 a5;generalize w2.drewN nq=w3 at HC HLL HM HB1 HX ⊢;go_upto_region 5 with(fail);have HRX:=qh (λ(w':World) (h:Below w3.drew.heap.size w3.drew w')=>((HX.bel (AP _ w3)).bel h).AX);obtain⟨HC,HLL,HM,HB1⟩:=D8 (AP _ w3) HC HLL HM HB1;refine EC [7,10] 11 (λhSn=>?_);generalize w3.drew=wd at HC HLL HM HB1 HRX hSn ⊢;simp only[List.replicate];refine Gn 0 ?_;refine BA 4 [7,8,9,10] (λw hSw=>AZ (HC.bel hSw) 5) ?_;refine IM 5 [6,7,8,9,10] (some 47) (.agg (VL ks fs ts ps j).toArray) rfl (yieldsIf_load_mid (by rfl) 47 _ rfl gx 0 rfl (VL ks fs ts ps j) _ (λw hSw=>HRX.o w hSw) underlying47 rfl (by as_aux_lemma=>kernel_rfl)) hSn ?rg6;simp only[Act.put,zA,zB,zC];refine BC 6 rfl (λK hK=>?_);refine JM rfl 34 47 (.agg ((VL ks fs ts ps) j).toArray) ((VL ks fs ts ps) j) rfl rfl rfl (hbld j) ?_;intro wa hna hba;have hSn:=AB hSn hba;have HNA:=qh hna;generalize wd.heap.size=gn at HNA ⊢;obtain⟨HLL,HC,HM,HB1⟩:=D8 hSn HLL HC HM HB1;clear hna hba;change K (Act.put _ (some 48) _) _;refine BJ hK ?_;clear hK;refine BC 7 rfl (λK hK=>?_);refine tS (.agg CJ.toArray) 51 480 HLL.o ((VL ks fs ts ps) j) (HNA.reads 0 _ (λj v hv=>by rw[Nat.zero_add];exact hv)) ?_ (hV1.out j) (hl:=by rw[hV]);intro v5 ob5 w5 ho5 hob5 hm5;have HC5:=qh (HC.mv hm5 (λhf=>hgt2.out _ hf rfl));have hle5:=HM.size;have hob6:ob5=obl∨∃k,ob5=some k∧w1.heap.size≤k:=by
    rcases hob5 with h|⟨k,h,h2⟩
    ·rcases hob2.out with h3|h3
     ·exact .inl (h.trans h3)
     ·exact .inr (h▸h3)
    ·exact .inr ⟨k,h,by omega⟩
   have HM5:=qh (HM.mv hm5 (λk hk=>by
    rcases hob2.out with h3|⟨k3,h3,h4⟩
    ·exact .inl (.inr (h3▸hk))
    ·rw[h3] at hk;cases hk;exact .inr h4))
   obtain⟨p5,c5,rfl⟩:∃p5 c5,v5=.slice p5 (ml+j+1:Nat) c5:=by
    rcases ho5.cases with⟨_,_,h0,_⟩|⟨g1,cap,_,hv,_⟩
    ·omega
    ·exact⟨_,cap,hv⟩
   have HO5:=qh (show AU w5 (.slice p5 (ml+j+1:Nat) c5) ob5 47 51 (ml+(j+1)) (xs++flat 51 (j+1) (VL ks fs ts ps)) from RU xs (VL ks fs ts ps) hV j▸ho5);have hgt5:∀k,ob5=some k→k≠gC:=(λk hk=>by
    rcases HO5.cases with⟨_,h0,_⟩|⟨g1,_,_,_,h0,_,_,hh,_⟩
    ·rw[h0] at hk;cases hk
    ·rw[h0] at hk;cases hk;exact hh.ne_of HC5.o (by decide))
   clear ho5 hob5 hm5;change K (Act.put _ (some 49) _) _;refine BJ hK ?_;clear hK;refine FD 8 ?_ (hS:=GK);refine BC 10 rfl (λK hK=>?_);refine tC 5 HC5.o (.slice p5 (ml+j+1:Nat) c5) ?_;intro w6 hh6 ht6;have HJ6:=qh (show TA gC n ml dv (.slice (some ⟨gN,0,none⟩) n cN) clv cav hv xs (VL ks fs ts ps) obl w1 (j+1) w6 from⟨_,ob5,hh6,HO5.touch ht6 hgt5,hob6,HM5.touch ht6 (.inl (.inl rfl))⟩);clear hh6 ht6;refine BJ hK ?_;clear hK;refine DX ?_;clear hSn HC HLL HM HB1 HC5 HM5 HO5 HNA HRX HX;go_wp2_with fail;go_roundw;case rel=>exact⟨j+1,by simp,by omega,HJ6.o⟩
   case measure=>simp[intOf];omega
end Go.Proofs.YtimdpiifpibgfaaGreatDoor
