/- A part of the proof that the law TopGone returns true for every input. -/
import Derived.Test.YtimdpiifpibgfaaGreatDoorQg12
set_option linter.all false
set_option maxRecDepth 20000
set_option maxHeartbeats 16000000
open Go.RowKit Go.Maps
namespace Go.Proofs.YtimdpiifpibgfaaGreatDoor
open Tryz
structure A7(w:World)(g b n:Nat)(l:List BR):Prop where
 ix:Holds w g 248 (.map (some b) :: ER λ_=>0)
 map:∃D,w.ownsMap prog 37 Bz b n D∧Fv D l
 good:Jv l
 rows:∀e∈l,e.L.length=21∧e.L.toArray.all (·.oneCell')=true
theorem A7.wf{w:World}{g b n:Nat}{l:List BR}(h:A7 w g b n l):VH l:=h.good.wf
theorem A7.keep{w w':World}{g b n:Nat}{l:List BR}(h:A7 w g b n l)(hg:w'.heap[g]?=w.heap[g]?)(hb:w'.heap[b]?=w.heap[b]?):A7 w' g b n l:=by obtain⟨D,⟨es,clock,hm,r⟩,hl⟩:=h.map;exact⟨by have:=h.ix;unfold Holds at *;rw[hg];exact this,⟨D,⟨es,clock,hb.trans hm,r⟩,hl⟩,h.good,h.rows⟩
theorem A7.lt{w:World}{g b n:Nat}{l:List BR}(h:A7 w g b n l):g<w.heap.size∧b<w.heap.size:=by obtain⟨D,hm,_⟩:=h.map;exact⟨h.ix.lt,hm.lt⟩
theorem A7.mono{w:World}{g b n:Nat}{l:List BR}(h:A7 w g b n l):A7 w g b (n+1) l:=by obtain⟨D,hm,hl⟩:=h.map;exact⟨h.ix,⟨D,hm.mono (Nat.le_succ n),hl⟩,h.good,h.rows⟩
theorem A7.below{w w':World}{g b n:Nat}{l:List BR}(h:A7 w g b n l)(hb:Below w.heap.size w w'):A7 w' g b n l:=h.keep (hb.block g h.lt.1) (hb.block b h.lt.2)
theorem A7.touch{w w':World}{g b n k:Nat}{l:List BR}(h:A7 w g b n l)(ht:Touch k w w')(h1:g≠k)(h2:b≠k):A7 w' g b n l:=h.keep (ht.block g h.lt.1 h1) (ht.block b h.lt.2 h2)
theorem A7.ne{w:World}{g b n:Nat}{l:List BR}(h:A7 w g b n l):g≠b:=by obtain⟨D,⟨es,clock,hb,_⟩,_⟩:=h.map;intro e;have:=h.ix;unfold Holds at this;rw[e,hb] at this;cases this
def F6(l:List BR)(r s:Int):Bool:=l.any λx=>x.r==r&&x.s==s
def zero21:List Value:=[.int .i64 0,.int .i64 0,.int .i64 0,.int .i64 0,.int .i64 0,.int .i64 0,.int .i64 0,.int .i64 0,.string ⟨#[]⟩,.string ⟨#[]⟩,.string ⟨#[]⟩,.string ⟨#[]⟩,.int .i64 0,.int .i64 0,.int .i64 0,.int .i64 0,.int .i64 0,.int .i64 0,.int .i64 0,.int .i64 0,.bool false]
theorem A7.look{w:World}{g b n:Nat}{l:List BR}(h:A7 w g b n l)(r s:Int)(hr:(Lit.int .i64 r).wf=true)(hs:(Lit.int .i64 s).wf=true) :∃v:List Value,v.length=21∧v.toArray.all (·.oneCell')=true∧(∀e∈l,e.r=r→e.s=s→v=e.L) ∧∀W,Below w.heap.size w W→(Instr.lookup 246 (.map (some b)) (.agg #[.int .i64 r,.int .i64 s]) true).run prog W=.ok (.tuple #[.agg v.toArray,.bool (F6 l r s)]) W:=by
 have hz:∀W,(zeroValue 45).run prog W=.ok (.agg zero21.toArray) W:=λW=>Lm W (by kernel_rfl);obtain⟨D,hm,hl⟩:=h.map;have hkey:=ET r s hr hs;have hhas:=hl.IV h.wf r s hr hs;have hex:∃v:List Value,v.length=21∧v.toArray.all (·.oneCell')=true∧(∀e∈l,e.r=r→e.s=s→v=e.L)∧D.atKey (He r s) (.held (.agg zero21.toArray))=.held (.agg v.toArray):=by
  cases hq:Maps.has D (He r s)
  ·refine⟨zero21,rfl,by simp[zero21,Value.oneCell'],λe he h1 h2=>?_,Maps.atKey_of_not_has hq _⟩;rw[hhas] at hq;have:=List.any_eq_false.1 hq e he;simp[h1,h2] at this
  ·rw[hhas] at hq;obtain⟨e,he,hrs⟩:=List.any_eq_true.1 hq;simp only[Bool.and_eq_true,beq_iff_eq] at hrs;refine⟨e.L,(h.rows e he).1,(h.rows e he).2,λe' he' h1 h2=>?_,?_⟩
   ·have hp:=hl.apart;by_cases hee:e=e'
    ·rw[hee]
    ·exfalso;obtain⟨i,hi,rfl⟩:=List.getElem_of_mem he;obtain⟨j,hj,rfl⟩:=List.getElem_of_mem he';have hij:i≠j:=λhc=>hee (by subst hc;rfl);rw[List.pairwise_iff_getElem] at hp;rcases Nat.lt_or_gt_of_ne hij with hlt|hgt
     ·exact hp i j hi hj hlt ⟨hrs.1.trans h1.symm,hrs.2.trans h2.symm⟩
     ·exact hp j i hj hi hgt ⟨h1.trans hrs.1.symm,h2.trans hrs.2.symm⟩
   ·have:=hl.at_ e he (.held (.agg zero21.toArray));rw[BR.key,hrs.1,hrs.2] at this;exact this
 obtain⟨v,h1,h2,h3,h4⟩:=hex;refine⟨v,h1,h2,h3,λW hb=>?_⟩;obtain⟨es,clock,hbk,hrest⟩:=hm;have hmW:W.ownsMap prog 37 Bz b n D:=⟨es,clock,(hb.block b h.lt.2).trans hbk,hrest⟩;obtain⟨v',ps,hrun,hv⟩:=hmW.look_ok DI underlying246 (hz W) (zd:=.held (.agg zero21.toArray)) (zp:=[]) rfl hkey;rw[h4] at hv;unfold Bz at hv;injection hv with hv;injection hv with hv _;injection hv with hv;rw[hv,hhas] at hrun;exact hrun
theorem Pv(g b n:Nat)(l:List BR)(r s:Int)(w:World)(h:A7 w g b n l)(hr:(Lit.int .i64 r).wf=true)(hs:(Lit.int .i64 s).wf=true) :Calls prog 82 #[.pointer (some ⟨g,0,none⟩),.agg #[.int .i64 r,.int .i64 s]] w λe w'=>∃v:List Value,v.length=21∧v.toArray.all (·.oneCell')=true∧(∀e∈l,e.r=r→e.s=s→v=e.L)∧(F6 l r s=false→v=zero21) ∧e=.returned (.tuple #[.agg v.toArray,.bool (F6 l r s)])∧Below w.heap.size w w':=by
 have HI:=qh h;obtain⟨v,hv1,hv2,hv3,hv4⟩:=h.look r s hr hs;have HL:=qh hv4;have HV3:=qh hv3;have HV2:=qh hv2;clear hv4 hv3 hv2 h;have hz21:zero21.length=21:=rfl;generalize hf:F6 l r s=f at HL ⊢;have HF:=qh hf;clear hf;go_in;go_upto_region 1 with(fail);go_name_world W hW;have hX:Holds W w.heap.size 37 [.int .i64 r,.int .i64 s]:=by rw[←hW];exact Aq (AA w _ _) _
 have hZ:Holds W (w.heap.size+1) 45 zero21:=by rw[←hW];have:=AA (w.alloc (.cells #[.int .i64 r,.int .i64 s] 37)) 45 zero21;rw[World.size_alloc] at this;exact this
 have HB:=qh (show Below w.heap.size w W by rw[←hW];go_grown);clear hW;have HX:=qh (show Holds W.drew w.heap.size 37 [.int .i64 r,.int .i64 s] from hX);have HZ:=qh (show Holds W.drew (w.heap.size+1) 45 zero21 from hZ);have HI:=qh ((HI.below HB.o).below (AP _ _));have HL:=qh (λW' (hb:Below W.drew.heap.size W.drew W')=>HL.o W' (HB.trans (((AP w.heap.size W)).trans (hb.mono HB.size))));have HB:=qh (show Below w.heap.size w W.drew from HB.trans (AP w.heap.size W));clear hX hZ;have hzl:w.heap.size+1<W.drew.heap.size:=HZ.lt;generalize hgz:w.heap.size+1=gz at HZ hzl ⊢;generalize w.heap.size=gi at HX ⊢;refine EC [] 12 (λhSn=>?_);generalize W.drew=wd at HX HZ HI HL HB hzl hSn ⊢;simp only[List.replicate];refine Dl 0 ?_;refine IM 3 [] (some 12) (?vg4) rfl (Or.inl ⟨by rfl,?hg4⟩) hSn ?rg4;case hg4=>
  intro w hSw;have m0:=(HI.below hSw).ix.cell 0;simp only[List.getElem?_cons_zero] at m0;go_simp;try with_reducible rfl
 simp only[Act.put,zA,zB,zC];refine BA 4 [] (λw hSw=>BQ (AC HX.o hSw) 0 1) ?_;refine BA 5 [] (λw hSw=>HL.o w hSw) ?_;refine Dl 6 ?_;refine BC 9 rfl (λK hK=>?_);go_simp;have hal:=λo=>Below.alloc hSn hSn.size o;refine hK.out _ _ (λ_=>hal _) ?_;have hSn:=hal (.cells ([.int .i64 0,.int .i64 0,.int .i64 0,.int .i64 0,.int .i64 0,.int .i64 0,.int .i64 0,.int .i64 0,.string ⟨#[]⟩,.string ⟨#[]⟩,.string ⟨#[]⟩,.string ⟨#[]⟩,.int .i64 0,.int .i64 0,.int .i64 0,.int .i64 0,.int .i64 0,.int .i64 0,.int .i64 0,.int .i64 0,.bool false]:List Value).toArray 45);have HB6:=qh (show Holds (wd.alloc (.cells ([.int .i64 0,.int .i64 0,.int .i64 0,.int .i64 0,.int .i64 0,.int .i64 0,.int .i64 0,.int .i64 0,.string ⟨#[]⟩,.string ⟨#[]⟩,.string ⟨#[]⟩,.string ⟨#[]⟩,.int .i64 0,.int .i64 0,.int .i64 0,.int .i64 0,.int .i64 0,.int .i64 0,.int .i64 0,.int .i64 0,.bool false]:List Value).toArray 45)) wd.heap.size 45 zero21 from AA wd _ _);clear hal;generalize wd.alloc (.cells ([.int .i64 0,.int .i64 0,.int .i64 0,.int .i64 0,.int .i64 0,.int .i64 0,.int .i64 0,.int .i64 0,.string ⟨#[]⟩,.string ⟨#[]⟩,.string ⟨#[]⟩,.string ⟨#[]⟩,.int .i64 0,.int .i64 0,.int .i64 0,.int .i64 0,.int .i64 0,.int .i64 0,.int .i64 0,.int .i64 0,.bool false]:List Value).toArray 45)=wa at hSn HB6 ⊢;have hgn:gz≠wd.heap.size:=by omega
 clear hK;try simp only[Act.put,zA,zB,zC]
 refine BC 10 rfl (λK hK=>?_);refine tB v HB6.o ?_ HV2.o (hi:=by rw[hv1];kernel_rfl) (hl:=by rw[hv1];rfl);intro wb hh6 ht6;have HB6:=qh hh6;have hSn:=hSn.trans (ht6.below (Nat.le_refl _) hSn.size);have HZ:=qh ((AC HZ.o hSn));clear hh6 ht6;refine BJ hK ?_;clear hK;refine CS 11 ?_;refine DX ?_;have HB7:=qh (show Below w.heap.size w wb from HB.trans (hSn.mono HB.size));have hg6:w.heap.size≤wd.heap.size:=HB.size;clear hSn HI HX HL hzl;generalize wd.heap.size=g6 at HB6 hgn hg6 ⊢;cases f
 ·go_wp2_with (first|(refine sW zero21 HZ.o ?_ (by simp[zero21,Value.oneCell']);intro wc hh ht));have HB8:=qh (HB7.trans (ht.below (by omega) HB7.size));refine bT hh.AX ?_;refine⟨zero21,rfl,by simp[zero21,Value.oneCell'],λe he h1 h2=>?_,rfl,rfl,HB8.o⟩;have hn:=HF.o;unfold F6 at hn;have:=List.any_eq_false.1 hn e he;simp[h1,h2] at this
 ·have HRG:=qh HB6.AX;go_wp2_with (first|(refine lM 0 HRG.o ?_ (hi:=by rw[hv1];kernel_rfl))|(refine sW v HZ.o ?_ HV2.o (hi:=by rw[hv1];kernel_rfl) (hl:=by rw[hv1];rfl);intro wc hh ht));have HB8:=qh (HB7.trans (ht.below (by omega) HB7.size));refine bodyPost_ret (v:=.tuple #[.agg v.toArray,.bool true]) (results_cell_tmp results82 _ _ gz v _ _ rfl rfl hh.AX underlying45 rfl (by rw[hv1];kernel_rfl)) rfl ?_;have h2:=HV2.o;exact⟨v,hv1,by simpa using h2,HV3.o,by first|trivial|(intro hc;cases hc),rfl,HB8.o⟩
theorem Ep(g b n:Nat)(l:List BR)(r s:Int)(w:World)(h:A7 w g b n l)(hi:Bi r s=true) :Calls prog 140 #[.pointer (some ⟨g,0,none⟩),.agg #[.int .i64 r,.int .i64 s]] w λe w'=>e=.returned (.bool false)∧Below w.heap.size w w':=by
 have HI:=qh h;clear h;have K1:=qh (λW=>by have:=Et r s W;rw[hi] at this;exact this);have hr7:0≤r∧r<7∧1≤s∧s≤1073741824:=by
  rcases Fa r s with⟨_,e⟩|⟨_,_,e⟩|⟨_,_,_,e⟩|⟨_,_,_,_,e⟩|⟨h1,h2,h3,h4,_⟩
  ·rw[hi] at e;cases e
  ·rw[hi] at e;cases e
  ·rw[hi] at e;cases e
  ·rw[hi] at e;cases e
  ·exact⟨h1,h2,h3,h4⟩
 clear hi;obtain⟨h1,h2,h3,h4⟩:=hr7;obtain⟨k,rfl⟩:∃k:Nat,r=k:=⟨r.toNat,by omega⟩;have hk7:k<7:=by omega
 go_in;go_upto_region 1 with(fail);go_name_world W hW;have hX:Holds W w.heap.size 37 [.int .i64 k,.int .i64 s]:=by rw[←hW];exact AA w _ _
 have HB:=qh (show Below w.heap.size w W by rw[←hW];go_grown);clear hW;have HI:=qh (HI.below HB.o);have i0:=λd os=>hX.grown d os 0;have i1:=λd os=>hX.grown d os 1;have hcut:=λdd os=>HI.ix.grown dd os (1+k);rw[Gq _ _ _ hk7] at hcut;simp only[yA,yB] at i0 i1;clear hX;have hs0:¬s≤0:=by omega
 refine wp_region_quiet_below (by kernel_rfl) (by kernel_rfl) ?_;repeat go_big_quiet_step (first|(go_at_call 134;with_reducible exact AL λW _=>K1.out W))
 refine wpQuiet_nil ?_;intro w2 hw';have HB:=qh (AB HB.o (AV hw'));clear hw' i0 i1 hcut;go_wp2_with fail;go_ret;exact⟨rfl,HB.o⟩
theorem Pz{l:List BR}(h:∀e∈l,e.L.length=21∧e.L.toArray.all (·.oneCell')=true){e:BR}(he:e.L.length=21∧e.L.toArray.all (·.oneCell')=true):∀x∈Ez l e,x.L.length=21∧x.L.toArray.all (·.oneCell')=true:=by
 unfold Ez;split
 ·intro x hx;obtain⟨y,hy,rfl⟩:=List.mem_map.1 hx;split
  ·exact he
  ·exact h y hy
 ·intro x hx;rcases List.mem_append.1 hx with hx|hx
  ·exact h x hx
  ·rw[List.mem_singleton.1 hx];exact he
theorem Fe{H:Type}{P:Program}{ops:Array Oper}{w:World}{o:Oper}{a:Act}{K:Act→World→Prop}{Q:Exit→Act→World→Prop}{E:Prop}(hgd:o.guard=none) (m x v:Operand) (t:TypeId) (hop:o.op=Op.mapUpdate t m x v) (k e:TypeId) (Kd:Keyed P k) (ht:P.underlying t=some (.map k e)) (R:Value→Option (DataW H × List MemPlace)) (b n:Nat) (D:DataW H) (hm:a.eval m=.map (some b)) (hown:w.ownsMap P k R b n D) (hn:n<maxLen) (key val:Value) (kl:Lit) (hx:a.eval x=key) (hv:a.eval v=val) (hkey:keyOf P k key=some kl) (d:DataW H) (ps:List MemPlace) (hval:R val=some (d,ps)) (hK:∀w',w'.ownsMap P k R b (n+1) (D.put kl d)→w.grownBy w' (some b)→K (a.put o.dst undef) w'):if Region.wanted o (yielded ops a.tmps)=true then Oper.wp P o a w K Q else E:=by
 have hwd:Region.wanted o (yielded ops a.tmps)=true:=by simp[Region.wanted,hgd]
 rw[if_pos hwd];exact JH m x v t hop k e Kd ht R b n D hm hown hn key val kl hx hv hkey d ps hval hK
theorem V3(n:Nat)(w:World)(hn:n≤1):Calls prog 185 #[.int .u64 n] w λe w'=>(∃k:Int,e=.returned (.int .i64 k))∧Below w.heap.size w w':=by
 have:n=0∨n=1:=by omega
 rcases this with rfl|rfl;all_goals
  go_in;go_wp2_with fail;go_ret;exact⟨⟨_,rfl⟩,by go_grown⟩
theorem Zn(n:Nat)(w:World)(hn:n≤1):Calls prog 218 #[.int .u64 n] w λe w'=>(∃k:Int,e=.returned (.int .i64 k))∧Below w.heap.size w w':=by have K:=qh (λW=>V3 n W hn);go_in;go_wp2_with fail;refine(K.out _).mono ?_;rintro e w1 ⟨⟨k,rfl⟩,hb⟩;go_wp2_with fail;go_ret;exact⟨⟨_,rfl⟩,hb⟩
theorem Tm(p:Option Addr)(n c:Nat)(fv:Value)(w:World)(hn:n≤1):Calls prog 262 #[.slice p n c,.int .i64 0,.int .i64 n,fv] w λe w'=>e=.returned (.tuple #[])∧Below w.heap.size w w':=by
 have hn2:¬(1:Int)<n:=by omega
 go_in;go_wp2_with fail;go_loopw [8] (λvi wr=>vi=.int .i64 1∧Below w.heap.size w wr) (λ_ _=>0);case atStart=>exact⟨rfl,Below.refl _ _⟩
 case round=>obtain⟨rfl,hb⟩:=hrel;have HB:=qh hb;clear hb;go_wp2_with fail;refine bE ⟨rfl,HB.o⟩
theorem Z8(p:Option Addr)(n c:Nat)(lim:Int)(fv:Value)(w:World)(hn:n≤1):Calls prog 217 #[.slice p n c,.int .i64 0,.int .i64 n,.int .i64 lim,fv] w λe w'=>e=.returned (.tuple #[])∧Below w.heap.size w w':=by
 have K:=qh (λW=>Tm p n c fv W hn);have hn2:(n:Int)≤12:=by omega
 have hw:IntKind.i64.wrap ((n:Int) - 0)=n:=by rw[Int.sub_zero];exact IntWalk.i64_in _ (by omega)
 go_in;go_wp2_with fail;go_loopw [1,2,3,10,11] (λva vb vl v1 v2 wr=>va=.int .i64 0∧vb=.int .i64 n∧vl=.int .i64 lim∧v1=.bool true∧v2=.bool true∧Below w.heap.size w wr) (λ_ _ _ _ _ _=>0);case atStart=>exact⟨rfl,rfl,rfl,rfl,rfl,Below.refl _ _⟩
 case round=>obtain⟨rfl,rfl,rfl,rfl,rfl,hb⟩:=hrel;have HB:=qh hb;clear hb;go_wp2_with fail;refine AY (K.out _) ?_;rintro w1 hb;have HB:=qh (AB HB.o hb);clear hb;go_wp2_with fail;exact bQ ⟨rfl,HB.o⟩
theorem Oz(p:Option Addr)(n c:Nat)(fv:Value)(w:World)(hn:n≤1):Calls prog 149 #[.slice p n c,fv] w λe w'=>e=.returned (.tuple #[])∧Below w.heap.size w w':=by
 have K:=qh (λlim W=>Z8 p n c lim fv W hn);have KL:=qh (λW=>Zn n W hn);have hw:(n:Int) % 18446744073709551616=n:=by omega
 go_in;go_wp2_with fail;refine(KL.o _).mono ?_;rintro e w1 ⟨⟨k,rfl⟩,hb⟩;have HB:=qh hb;clear hb;go_wp2_with fail;refine AY (K.out _ _) ?_;rintro w2 hb;have HB:=qh (AB HB.o hb);clear hb;go_wp2_with fail;exact bE ⟨rfl,HB.o⟩
theorem Ux{D:DataW Value}{l:List BR}(hl:Fv D l)(hw:VH l){kl:Lit}{v:Value}(hat:∀z,D.atKey kl z=.held v):∃e∈l,e.key=kl:=by have hh:=Maps.has_true_of_atKey hat;rw[hl.has,List.any_eq_true] at hh;obtain⟨e,he,hk⟩:=hh;exact⟨e,he,WideAt.sameKey_eq hk⟩
theorem IX(g b n:Nat)(l:List BR)(w:World)(h:A7 w g b n l)(hl1:l.length≤1) :Calls prog 81 #[.pointer (some ⟨g,0,none⟩)] w λe w'=>∃v xs,e=.returned v∧w'.ownsRow w.heap.size 37 2 v l.length xs∧(∀x∈l,xs=[.int .i64 x.r,.int .i64 x.s])∧Below w.heap.size w w':=by
 have HI:=qh h;obtain⟨D,hown,hl⟩:=h.map;have m0:=h.ix.cell 0;simp only[List.getElem?_cons_zero] at m0;have HL:=qh hl;have KS:=qh (λp m c fv W (hm:m≤1)=>Oz p m c fv W hm);clear h hl;go_in;go_wp2_with (first|(at_range;refine wpList_range_own _ rfl _ 246 rfl 37 45 DI underlying246 Bz b n D rfl hown ?_;intro w0 hrg0 hg0 hs0)|fail)
 go_frame
 have HB0:=qh (show Below w.heap.size w w0 from⟨hg0.os,hg0.tape,hg0.output,hg0.size,λk hk=>hg0.block k hk (by simp)⟩);have HRG:=qh hrg0;have HSZ:=qh (show w.heap.size+1≤w0.heap.size by omega);clear hrg0 hg0 hs0 hown m0;have HBL:=qh HI.lt.2;go_loopw [3] (λvo wr=>∃(left:Lit→Bool) (cnt m:Nat) (xs:List Value) (p:Option Addr) (c:Nat),vo=.slice p m c∧wr.ranges prog 37 Bz b w.heap.size n D left cnt∧Below w.heap.size w wr∧wr.ownsRow (w.heap.size+1) 37 2 (.slice p m c) m xs∧((m=0∧xs=[]∧∀e∈l,left e.key=true)∨(m=1∧∃e∈l,xs=[.int .i64 e.r,.int .i64 e.s]∧left e.key=false))∧w.heap.size+1≤wr.heap.size) (λ_ wr=>wr.rangeLeft b w.heap.size);case atStart=>exact⟨_,_,0,[],none,0,rfl,HRG.o,HB0.o,World.ownsRow_nil _ _ _ _,.inl ⟨rfl,rfl,λe he=>Maps.has_true_of_atKey (HL.at_ e he)⟩,HSZ.o⟩
 case round=>
  clear HRG HB0 HSZ;obtain⟨left,cnt,m,xs,p,c,rfl,hrg,hbel,ho,hcase,hsz⟩:=hrel;have HB:=qh hbel;have HO:=qh ho;have HC:=qh hcase;have HSZ:=qh hsz;clear hbel ho hcase hsz;go_wp2_with (first|(at_next;refine wpList_next_ranges _ rfl _ rfl 37 DI Bz (λp:Int × Int=>EX p.1 p.2) (λv:Value=>v) (λkey kl hk=>by obtain⟨r,s,rfl,_⟩:=Ii hk;exact⟨(r,s),rfl⟩) (λv y _=>⟨v,rfl⟩) b w.heap.size n D _ _ rfl hrg ?_ ?_)|fail)
  ·intro hc0 hl0;have hm:m=l.length∧∀x∈l,xs=[.int .i64 x.r,.int .i64 x.s]:=by
    rcases HC.o with⟨rfl,rfl,hall⟩|⟨rfl,e,he,hxs,_⟩
    ·have hnil:l=[]:=by
      cases l with
      | nil=>rfl
      | cons x l=>have:=hall x (by simp);rw[hl0] at this;cases this
     subst hnil;exact⟨rfl,λx hx=>by cases hx⟩
    ·have hl2:l.length=1:=by have:=List.length_pos_of_mem he;omega
     obtain⟨y,rfl⟩:=List.length_eq_one_iff.1 hl2;refine⟨rfl,λx hx=>?_⟩;rw[List.mem_singleton.1 hx,←List.mem_singleton.1 he];exact hxs
   have HM:=qh hm;have hm1:m≤1:=by rw[hm.1];exact hl1
   clear hrg hl0 hc0 hm HC;go_wp2_with fail;refine AY (KS.o p m c _ _ hm1) ?_;rintro w5 hb5;have HO:=qh (Dq HO.o hb5);have HB:=qh (AB HB.o hb5);clear hb5;go_wp2_with fail;go_ret;refine⟨_,xs,rfl,?_,HM.2,HB.o⟩;rw[←HM.1];obtain⟨q1,q2⟩:=HO.o;exact⟨q1,q2.imp id λ⟨g,cap,cur,e1,e2,e3⟩=>⟨g,cap,cur,e1,Nat.le_trans (Nat.le_succ _) e2,e3⟩⟩
  ·intro pr ps cv kl yd yp w1 cnt1 hkey hlk hR hat hrg1 hlt hg1 hs1 hen;have hy:yd=.held cv:=by unfold Bz at hR;injection hR with hR;injection hR with hR _;exact hR.symm
   rw[hy] at hat;obtain⟨e,he,hek⟩:=Ux HL.o HI.wf hat;have hpe:pr=e.r∧ps=e.s:=by have hw:=HI.wf e he;rw[←hek] at hkey;have:=DI.inj hkey (ET e.r e.s hw.1 hw.2);simp only[EX,Value.agg.injEq,Array.mk.injEq,List.cons.injEq,Value.int.injEq,true_and,and_true] at this;exact this
   obtain⟨h1,h2⟩:=hpe;subst h1;subst h2;subst hek;have hm0:m=0∧xs=[]:=by
    rcases HC.o with⟨h1,h2,_⟩|⟨_,e',he',_,hlf⟩
    ·exact⟨h1,h2⟩
    ·have hl2:l.length=1:=by have:=List.length_pos_of_mem he;omega
     obtain⟨y,rfl⟩:=List.length_eq_one_iff.1 hl2;rw[List.mem_singleton.1 he',←List.mem_singleton.1 he,hlk] at hlf;cases hlf
   obtain⟨rfl,rfl⟩:=hm0;have hkept:=hg1;have HB1:=qh (show Below w.heap.size w w1 from HB.trans ⟨hg1.os,hg1.tape,hg1.output,hg1.size,λk hk=>hg1.block k (by have:=HB.size;omega) (by intro hc;injection hc with hc;omega)⟩);have HO1:=qh (show w1.ownsRow (w.heap.size+1) 37 2 (.slice p 0 c) 0 [] from HO.kept hg1 (by
    obtain⟨_,h2⟩:=HO.o;rcases h2 with⟨hv,_⟩|⟨g',cap,cur,hv,hg',_⟩
    ·rw[hv];exact .inl rfl
    ·rw[hv];right;intro hc;simp[Value.ownBlock] at hc;omega))
   have HRG:=qh hrg1;have HSZ1:=qh (show w.heap.size+1≤w1.heap.size from Nat.le_trans HSZ.o hg1.size);have HHE:=qh he;have HLT:=qh hlt;have HL0:=qh hrg.left_eq;have hks:e.key.sameKey e.key=true:=WideAt.sameKey_self (JZ e.r e.s);have HKS:=qh hks;clear hrg1 hrg hlt hg1 hs1 hR hy hat hkey hlk hkept he hks HB HO HC HSZ;simp only[EX] at hen ⊢;have hsrc:Reads ((w1.alloc (.cells #[.int .i64 e.r,.int .i64 e.s] 37)).alloc (.cells #[.int .i64 e.r,.int .i64 e.s] 37)) (some ⟨w1.heap.size+1,0,none⟩) [.int .i64 e.r,.int .i64 e.s]:=by have:=(AA (w1.alloc (.cells #[.int .i64 e.r,.int .i64 e.s] 37)) 37 [.int .i64 e.r,.int .i64 e.s]).reads 0 [.int .i64 e.r,.int .i64 e.s] (λj v hv=>by simpa using hv);rw[World.size_alloc] at this;exact this
   have HSRC:=qh hsrc;clear hsrc;go_wp2_with (first|(at_builtin;refine Ak rfl (.tmp 14) (.tmp 16) 99 rfl (w.heap.size+1) 37 (.agg #[.int .i64 0,.int .i64 0]) 2 16 rfl (by kernel_rfl) rfl (by decide) _ 0 [] rfl (Dq HO1.o (by go_grown)) (some ⟨w1.heap.size+1,0,none⟩) 1 1 [.int .i64 e.r,.int .i64 e.s] rfl rfl HSRC.o (by intro h;cases h) (by simp[Value.oneCell']) (by unfold maxLen;omega) (by omega) (by have:=HSZ1.o;simp;omega) ?_;intro v3 w3 ho3 hb3 hg3;have HO3:=qh ho3;clear ho3)|fail);have hal:Below w1.heap.size w1 ((w1.alloc (.cells #[.int .i64 e.r,.int .i64 e.s] 37)).alloc (.cells #[.int .i64 e.r,.int .i64 e.s] 37)):=by go_grown
   have hgr:w1.grownBy w3 (Value.slice p 0 c).ownBlock:=⟨hg3.os.trans hal.os,hg3.tape.trans hal.tape,hg3.output.trans hal.output,Nat.le_trans hal.size hg3.size,λk hk hne=>(hg3.block k (Nat.lt_of_lt_of_le hk hal.size) hne).trans (hal.block k hk)⟩;have hne:∀k,k≤w.heap.size→some k≠(Value.slice p 0 c).ownBlock:=λk hk hc=>by have:=(HO1.lt k hc.symm).1;omega
   have hrg3:=HRG.kept hgr (by first|exact hne _ (Nat.le_of_lt HBL.o)|exact hne _ (Nat.le_refl _)) (by first|exact hne _ (Nat.le_of_lt HBL.o)|exact hne _ (Nat.le_refl _));have HRG3:=qh hrg3;have HB3:=qh (show Below w.heap.size w w3 from HB1.trans ((hal.mono HB1.size).trans (hb3.mono (Nat.le_succ _))));have HSZ3:=qh (show w.heap.size+1≤w3.heap.size from Nat.le_trans HSZ1.o (Nat.le_trans hal.size hb3.size));clear hrg3 hne hgr hal hb3 hg3 hen;obtain⟨p3,c3,rfl⟩:∃p3 c3,v3=.slice p3 1 c3:=by
    obtain⟨_,h2⟩:=HO3.o;rcases h2 with⟨hv,hn⟩|⟨g,cap,cur,hv,_⟩
    ·cases hn
    ·exact⟨_,cap,hv⟩
   go_roundw;case rel=>exact⟨_,_,1,_,p3,c3,rfl,HRG3.o,HB3.o,HO3.o,.inr ⟨rfl,e,HHE.o,rfl,by rw[HKS.o];simp⟩,HSZ3.o⟩
   case measure=>rw[HRG3.left_eq,HL0.o];exact HLT.o
def BX:List Value:=[.int .i64 0,.int .i64 0,.int .i64 0,.int .i64 0,.int .i64 0,.int .i64 0,.int .i64 0]
theorem Gy:BX.toArray.all (·.oneCell')=true:=by simp[BX,Value.oneCell']
theorem A7.fQ{w:World}{g b n:Nat}{l:List BR}(h:A7 w g b n l):w.rangeAt g 1 BX:=h.ix.D9 1 λj v hv=>by rw[Nat.add_comm,List.getElem?_cons_succ];exact hv
theorem YX(g b n:Nat)(l:List BR)(w:World)(h:A7 w g b n l) :Calls prog 234 #[.pointer (some ⟨g,0,none⟩)] w λe w'=>e=.returned (.agg BX.toArray)∧Below w.heap.size w w':=by have HI:=qh h;clear h;go_in;go_upto_region 1 with(fail);have HZ:=qh (AA w 41 BX);have HB:=qh (show Below w.heap.size w (w.alloc (.cells BX.toArray 41)) by go_grown);unfold BX at HZ HB;go_name_world W hW;rw[hW] at HZ HB;clear hW;have HZ:=qh (show Holds W w.heap.size 41 BX from HZ.o);have HC:=qh (HI.below HB.o).fQ;go_wp2_with (first|(refine lM 1 HC.o ?_)|(refine sW BX HZ.o ?_ Gy;intro wc hh ht));exact bC hh.AX ⟨rfl,HB.trans (ht.below (Nat.le_refl _) HB.size)⟩
theorem Yg(g b n:Nat)(w:World)(h:A7 w g b n []) :Calls prog 208 #[.pointer (some ⟨g,0,none⟩)] w λe w'=>e=.returned (.agg BX.toArray)∧Below w.heap.size w w':=by
 have HI:=qh h;clear h;go_in;go_upto_region 1 with(fail);have HZ:=qh (AA w 41 BX);have HB:=qh (show Below w.heap.size w (w.alloc (.cells BX.toArray 41)) by go_grown);unfold BX at HZ HB;go_name_world W hW;rw[hW] at HZ HB;clear hW;have HZ:=qh (show Holds W w.heap.size 41 BX from HZ.o);have HI:=qh (HI.below HB.o);have HC:=qh HI.fQ;have hle:=HB.size;have hlt0:=HZ.lt;go_upto_region 2 with(first|(refine lM 1 HC.o ?_)|(refine sW BX (AA W _ _) ?_ Gy;intro wc hh ht));have hb2:Below W.heap.size W (W.alloc (.cells BX.toArray 41)):=by go_grown
 have HB2:=qh (show Below W.heap.size W wc from hb2.trans (ht.below (Nat.le_refl _) hb2.size));have HT3:=qh hh;clear hh ht hb2 HC;have HI:=qh (HI.below HB2.o);have HZ:=qh (AC HZ.o HB2.o);have HB:=qh (AB HB.o HB2.o);have hzlt:=HZ.lt;have hne3:w.heap.size≠W.heap.size:=by omega
 generalize W.heap.size=g3 at HT3 hne3 hle ⊢;have m0:=HI.ix.cell 0;simp only[List.getElem?_cons_zero] at m0;obtain⟨D,hown,hl⟩:=HI.map;have HL:=qh hl;clear hl;go_wp2_with (first|(at_range;refine wpList_range_own _ rfl _ 246 rfl 37 45 DI underlying246 Bz b n D rfl hown ?_;intro w0 hrg0 hg0 hs0)|fail)
 go_frame
 have hb0:Below wc.heap.size wc w0:=⟨hg0.os,hg0.tape,hg0.output,hg0.size,λk hk=>hg0.block k hk (by simp)⟩;have HB:=qh (AB HB.o hb0);have HZ:=qh (AC HZ.o hb0);have HT3:=qh (AC HT3.o hb0);have HRG:=qh hrg0;clear hrg0 hg0 hs0 hown m0 hb0;generalize wc.heap.size=R at HRG ⊢;go_loopw [4] (λ_ wr=>∃(left:Lit→Bool) (cnt:Nat),wr.ranges prog 37 Bz b R n D left cnt∧Below w.heap.size w wr∧Holds wr g3 41 BX∧Holds wr w.heap.size 41 BX) (λ_ wr=>wr.rangeLeft b R);case atStart=>exact⟨_,_,HRG.o,HB.o,HT3.o,HZ.o⟩
 case round=>
  clear HRG HB HZ HT3;obtain⟨left,cnt,hrg,hb,ht3,hz⟩:=hrel;have HB:=qh hb;have HT3:=qh ht3.AX;have HZ:=qh hz;clear hb ht3 hz;go_wp2_with (first|(at_next;refine wpList_next_ranges _ rfl _ rfl 37 DI Bz (λp:Int × Int=>EX p.1 p.2) (λv:Value=>v) (λkey kl hk=>by obtain⟨r,s,rfl,_⟩:=Ii hk;exact⟨(r,s),rfl⟩) (λv y _=>⟨v,rfl⟩) b R n D _ _ rfl hrg ?_ ?_)|fail)
  ·intro hc0 hl0;clear hrg hl0 hc0;go_wp2_with (first|(refine lM 0 HT3.o ?_)|(refine sW BX HZ.o ?_ Gy;intro wc hh ht));exact bC hh.AX ⟨rfl,HB.trans (ht.below (Nat.le_refl _) HB.size)⟩
  ·intro pr ps cv kl yd yp w1 cnt1 hkey hlk hR hat hrg1 hlt hg1 hs1 hen;exfalso;have hy:yd=.held cv:=by unfold Bz at hR;injection hR with hR;injection hR with hR _;exact hR.symm
   rw[hy] at hat;have hh:=Maps.has_true_of_atKey hat;rw[HL.has] at hh;cases hh
theorem A7.dW{w w':World}{g b n:Nat}{l:List BR}(h:A7 w g b n l)(ht:Touch g w w')(hc:Holds w' g 248 (.map (some b) :: ER λ_=>0)):A7 w' g b n l:=by have hlt:=h.lt.2;have hne:=h.ne;obtain⟨D,⟨es,clock,hm,r⟩,hl⟩:=h.map;exact⟨hc,⟨D,⟨es,clock,(ht.block b hlt (λe=>hne e.symm)).trans hm,r⟩,hl⟩,h.good,h.rows⟩
theorem WA(g b n:Nat)(w:World)(h:A7 w g b n []) :Calls prog 203 #[.pointer (some ⟨g,0,none⟩),.agg BX.toArray] w λe w'=>e=.returned (.tuple #[])∧A7 w' g b n []∧Touch g w w':=by
 have HI:=qh h;clear h;have HIX:=qh (λk hk W=>FC (λ_=>0) k hk W);unfold BX;go_in;have hb1:Below w.heap.size w (w.alloc (.cells BX.toArray 41)):=by go_grown
 have HI1:=qh (HI.below hb1);have HT1:=qh (show Touch g w _ from .of_below hb1);unfold BX at HI1 HT1;clear hb1;go_wp2_with fail;go_loopw [8] (λvi wr=>∃j:Nat,j≤7∧vi=.int .i64 j∧A7 wr g b n []∧Touch g w wr) (λvi _=>7 - (intOf vi).toNat);case atStart=>exact⟨0,by omega,rfl,HI1.o,HT1.o⟩
 case round=>
  clear HI1 HT1;obtain⟨j,hj,rfl,hi,ht⟩:=hrel;have HI:=qh hi;have HT:=qh ht;clear hi ht;by_cases hj7:j<7
  ·have cj:=HI.ix.cell (1+j);rw[Gq _ _ _ hj7] at cj;have cf:=HI.ix.free (1+j);have hix:=HIX.o j hj7;have hS:=HI.ix.set (1+j) (.int .i64 0);rw[Un _ _ _ hj7] at hS;have hfn:(λt:Nat=>if t=j then (0:Int) else 0)=λ_=>0:=by funext t;simp
   rw[hfn] at hS;have HS:=qh hS;clear hS hfn;go_upto_region 4 with(fail);clear hix;go_region;go_wp2_with fail;go_roundw;case rel=>
    have ht2:=((Touch.refl g wr).setCell (1+j) (.int .i64 0)).drew;exact⟨j+1,by omega,by go_num,HI.dW ht2 HS.o,HT.trans ht2⟩
   case measure=>simp[intOf];omega
  ·have m0:=HI.ix.cell 0;simp only[List.getElem?_cons_zero] at m0;obtain⟨D,hown,hl⟩:=HI.map;have HL:=qh hl;clear hl;go_wp2_with (first|(at_range;refine wpList_range_own _ rfl _ 246 rfl 37 45 DI underlying246 Bz b n D rfl hown ?_;intro w0 hrg0 hg0 hs0)|fail)
   go_frame
   have hb0:Below wr.heap.size wr w0:=⟨hg0.os,hg0.tape,hg0.output,hg0.size,λk hk=>hg0.block k hk (by simp)⟩;have HI:=qh (HI.below hb0);have HT:=qh (HT.trans (.of_below hb0));have HRG:=qh hrg0;clear hrg0 hg0 hs0 hown m0 hb0;generalize wr.heap.size=R at HRG ⊢;go_loopw [6] (λ_ wx=>∃(left:Lit→Bool) (cnt:Nat),wx.ranges prog 37 Bz b R n D left cnt∧A7 wx g b n []∧Touch g w wx) (λ_ wx=>wx.rangeLeft b R);case atStart=>exact⟨_,_,HRG.o,HI.o,HT.o⟩
   case round=>
    clear HRG HI HT;obtain⟨left,cnt,hrg,hi,ht⟩:=hrel;have HI:=qh hi;have HT:=qh ht;clear hi ht;go_wp2_with (first|(at_next;refine wpList_next_ranges _ rfl _ rfl 37 DI Bz (λp:Int × Int=>EX p.1 p.2) (λv:Value=>v) (λkey kl hk=>by obtain⟨r,s,rfl,_⟩:=Ii hk;exact⟨(r,s),rfl⟩) (λv y _=>⟨v,rfl⟩) b R n D _ _ rfl hrg ?_ ?_)|fail)
    ·intro hc0 hl0;clear hrg hl0 hc0;go_wp2_with fail;exact bE ⟨rfl,HI.o,HT.o⟩
    ·intro pr ps cv kl yd yp w1 cnt1 hkey hlk hR hat hrg1 hlt hg1 hs1 hen;exfalso;have hy:yd=.held cv:=by unfold Bz at hR;injection hR with hR;injection hR with hR _;exact hR.symm
     rw[hy] at hat;have hh:=Maps.has_true_of_atKey hat;rw[HL.has] at hh;cases hh
theorem Ye(w:World) :Calls prog 116 #[.agg BX.toArray] w λe w'=>∃g b,e=.returned (.pointer (some ⟨g,0,none⟩))∧A7 w' g b 0 []∧w.heap.size≤g∧w.heap.size≤b∧Below w.heap.size w w':=by
 have hmm:=@run_makeMap prog;have KT:=qh (λg b W (h:A7 W g b 0 [])=>WA g b 0 W h);unfold BX;go_in;go_upto_region 2 with(fail);have hd:Holds (w.alloc (.cells BX.toArray 41)) w.heap.size 41 BX:=AA w _ _;unfold BX at hd;have hB0:Below w.heap.size w (w.alloc (.cells #[.int .i64 0,.int .i64 0,.int .i64 0,.int .i64 0,.int .i64 0,.int .i64 0,.int .i64 0] 41)):=by go_grown
 have hs0:(w.alloc (.cells #[.int .i64 0,.int .i64 0,.int .i64 0,.int .i64 0,.int .i64 0,.int .i64 0,.int .i64 0] 41)).heap.size=w.heap.size+1:=World.size_alloc _ _;generalize w.alloc (.cells #[.int .i64 0,.int .i64 0,.int .i64 0,.int .i64 0,.int .i64 0,.int .i64 0,.int .i64 0] 41)=w1 at hd hB0 hs0 ⊢;have hB1:Below w1.heap.size w1 ((w1.alloc (.map #[] 0)).alloc (.cells #[.map (some w1.heap.size),.int .i64 0,.int .i64 0,.int .i64 0,.int .i64 0,.int .i64 0,.int .i64 0,.int .i64 0] 248)):=by have h1:Below w1.heap.size w1 (w1.alloc (.map #[] 0)):=(Below.refl _ _).alloc (Nat.le_refl _) _;exact h1.alloc h1.size _
 have hla:A7 ((w1.alloc (.map #[] 0)).alloc (.cells #[.map (some w1.heap.size),.int .i64 0,.int .i64 0,.int .i64 0,.int .i64 0,.int .i64 0,.int .i64 0,.int .i64 0] 248)) (w1.heap.size+1) w1.heap.size 0 []:=by
  refine⟨?_,⟨.map [],?_,Fv.empty⟩,(λe he=>by cases he),(λe he=>by cases he)⟩
  ·have:=AA (w1.alloc (.map #[] 0)) 248 (.map (some w1.heap.size) :: ER λ_=>0);rw[World.size_alloc] at this;exact this
  ·exact(World.ownsMap_made w1 prog 37 Bz).alloc _
 rw[hs0] at hB1 hla;go_name_world W hW;rw[hW] at hB1 hla;clear hW;have HLA:=qh hla;have HD:=qh (AC hd (by rw[hs0];exact hB1)).AX;have HB:=qh (hB0.trans (hB1.mono (Nat.le_succ _)));clear hB1 hla hd hB0 hs0;go_wp2_with (refine lM 0 HD.o ?_);refine AY (KT.o _ _ _ HLA.o) ?_;rintro w4 ⟨hl,ht⟩;have HLA:=qh hl;have HB:=qh (HB.trans (ht.below (by omega) HB.size));clear hl ht;go_wp2_with fail;go_ret;exact⟨_,_,rfl,HLA.o,by omega,by omega,HB.o⟩
def CJ:List Value:=[.int .i64 0,.int .i64 0,.int .i64 0,.int .i64 0,.int .i64 0,.int .i64 0,.int .i64 0,.int .i64 0,.int .i64 0,.int .i64 0,.string ⟨#[]⟩,.string ⟨#[]⟩,.string ⟨#[]⟩,.string ⟨#[]⟩,.int .i64 0,.int .i64 0,.int .i64 0,.int .i64 0,.int .i64 0,.int .i64 0,.int .i64 0,.int .i64 0,.int .i64 0,.int .i64 0,.int .i64 0,.int .i64 0,.int .i64 0,.int .i64 0,.int .i64 0,.int .i64 0,.string ⟨#[]⟩,.string ⟨#[]⟩,.string ⟨#[]⟩,.string ⟨#[]⟩,.int .i64 0,.int .i64 0,.int .i64 0,.int .i64 0,.int .i64 0,.int .i64 0,.int .i64 0,.int .i64 0,.bool false,.int .i64 0,.int .i64 0,.int .i64 0,.int .i64 0,.int .i64 0,.int .i64 0,.int .i64 0,.string ⟨#[]⟩]
theorem SN[Af](gc n me gl gi nO:Nat)(leads recs out:Value)(ob:Option Nat)(xs:List Value)(k f t q:Int)(x:Cm)(tt:Nat)(w:World)(h:Holds w gc 163 (Au n me gl gi leads recs out))(ho:AU w out ob 47 51 nO xs)(hne:∀g,ob=some g→g≠gc)(hn:nO≤1000) :Calls prog 148 #[.pointer (some ⟨gc,0,none⟩),.int .i64 tt,.agg (Bc k f t q x).toArray] w λe w'=>e=.returned (.tuple #[])∧∃p c ob',Holds w' gc 163 (Au n me gl gi leads recs (.slice p (nO+1:Nat) c))∧AU w' (.slice p (nO+1:Nat) c) ob' 47 51 (nO+1) (xs++Bc k me tt q x)∧(ob'=ob∨∃g,ob'=some g∧w.heap.size≤g)∧Mv (λg=>g=gc∨ob=some g) w w':=by
 have HC:=qh h;have HO:=qh ho;have HM:=qh (Mv.refl (λg=>g=gc∨ob=some g) w);have hgl:=h.lt;have hxo:∀g,ob=some g→g≠w.heap.size:=λg hg=>by have:=ho.lt g hg;omega
 clear h ho;go_in;go_upto_region 1 with(fail);go_name_world W hW;obtain⟨HX,hbW,hsW⟩:=Ef 47 (Bc k f t q x) hW;clear hW;obtain⟨HC,HO,HM⟩:=Ce hbW HC HO HM;clear hbW hsW;have hxg:w.heap.size≠gc:=by omega
 generalize hx0:w.heap.size=gx at HX hxg hxo ⊢;have d1:=AZ HC.o 1;go_wp2_with (first|(refine sC 1 HX.o (.int .i64 me) ?_;intro w1 hh1 ht1)|(refine sC 2 hh1 (.int .i64 tt) ?_;intro w2 hh2 ht2));have HX:=qh (show Holds w2 gx 47 (Bc k me tt q x) from hh2);have ht12:=ht1.trans ht2;have HC:=qh (HC.touch ht12 (Ne.symm hxg));have HO:=qh (HO.touch ht12 hxo);have HM:=qh (HM.touch ht12 (.inr (by omega)));have hs2:=HM.size;clear hh1 hh2 ht1 ht2 ht12 d1;go_upto_region 2 with(fail);have HRX:=qh (λ(w':World) (h:Below w2.drew.heap.size w2.drew w')=>(((HX.bel (AP _ w2)).bel h).AX));obtain⟨HC,HO,HM⟩:=Ce (AP _ w2) HC HO HM;refine EC [7,10] 11 (λhSn=>?_);generalize w2.drew=wd at HC HO HM HRX hSn ⊢;simp only[List.replicate];refine Gn 0 ?_;refine BA 4 [7,8,9,10] (λw hSw=>AZ (HC.bel hSw) 7) ?_;refine IM 5 [6,7,8,9,10] (some 18) (.agg (Bc k me tt q x).toArray) rfl (yieldsIf_load_mid (by rfl) 47 _ rfl gx 0 rfl (Bc k me tt q x) _ (λw hSw=>HRX.o w hSw) underlying47 rfl (by as_aux_lemma=>kernel_rfl)) hSn ?rg6;simp only[Act.put,zA,zB,zC];refine BC 6 rfl (λK hK=>?_);refine tU 47 (.agg (Bc k me tt q x).toArray) (Bc k me tt q x) ?_;intro wa hna hba;have hSn:=AB hSn hba;have HN:=qh hna;generalize wd.heap.size=gn at HN ⊢;obtain⟨HO,HC,HM⟩:=Ce hSn HO HC HM;clear hna hba;change K (Act.put _ (some 19) _) _;refine BJ hK ?_;clear hK;refine BC 7 rfl (λK hK=>?_);refine tS (.agg CJ.toArray) 51 480 HO.o (Bc k me tt q x) (HN.reads 0 _ (λj v hv=>by rw[Nat.zero_add];exact hv)) ?_ (Yc _ _ _ _ _);intro v5 ob5 w5 ho5 hob5 hm5;have hC5:Holds w5 gc 163 _:=HC.mv hm5 (λhc=>hne _ hc rfl);have HC5:=qh hC5;have HM5:=qh (HM.mv hm5 (λk hk=>.inl (.inr hk)));have hwa:=HM.size;have HO5:=qh (And.intro ho5 (show ob5=ob∨∃g,ob5=some g∧w.heap.size≤g from hob5.imp id λ⟨g,h1,h2⟩=>⟨g,h1,by omega⟩));obtain⟨p5,c5,rfl⟩:∃p5 c5,v5=.slice p5 (nO+1:Nat) c5:=by
  rcases ho5.cases with⟨_,_,h0,_⟩|⟨g1,cap,_,hv,_⟩
  ·omega
  ·exact⟨_,cap,hv⟩
 clear ho5 hob5 hm5 hC5;change K (Act.put _ (some 20) _) _;refine BJ hK ?_;clear hK;refine FD 8 ?_ (hS:=GK);refine BC 10 rfl (λK hK=>?_);refine tC 7 HC5.o (.slice p5 (nO+1:Nat) c5) ?_;intro w6 hh6 ht6;have HC6:=qh (show Holds w6 gc 163 (Au n me gl gi leads recs (.slice p5 (nO+1:Nat) c5)) from hh6);have HM6:=qh (HM5.touch ht6 (.inl (.inl rfl)));have HO6:=qh (And.intro (HO5.1.touch ht6 (λg hg=>by rcases HO5.2 with h|⟨g2,h,h2⟩<;>rw[h] at hg;exact hne g hg;cases hg;omega)) HO5.2);clear hh6 ht6;refine BJ hK ?_;clear hK;refine DX ?_;clear hSn HC HO HM HC5 HM5 HO5 HN HRX HX;go_wp2_with fail;exact bE ⟨rfl,p5,c5,ob5,HC6.o,HO6.1,HO6.2,HM6.o⟩
end Go.Proofs.YtimdpiifpibgfaaGreatDoor
