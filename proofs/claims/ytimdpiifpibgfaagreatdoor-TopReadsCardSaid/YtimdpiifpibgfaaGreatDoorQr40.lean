/- A part of the proof of TopReads. -/
import Derived.Test.YtimdpiifpibgfaaGreatDoorQr39
set_option linter.all false
set_option maxRecDepth 20000
set_option maxHeartbeats 16000000
open Go.RowKit Go.Maps
namespace Go.Proofs.YtimdpiifpibgfaaGreatDoor
open Tryz
section
theorem wJ(g n me gd gw gc gfr:Nat)(P:Value)(ow:Nat->Ow)(pv:Nat->Value)(d kp:Nat->Int)(since:Int)(tk:Nat)(waits out ans:Value)(R1 R2 R3:World->Prop)(w:World)(nd:Holds w g 102 (Ar n me gd gw gc gfr P ow pv d kp since tk waits out ans))(hn:0<n) (htk:tk<=1000000) (h8:¬(tk+1) % 8=0) (KT:Calls prog 52 #[AP gc] w λe w'=>e=.returned (.tuple #[])/\R1 w') (h1:∀W,R1 W->Holds W g 102 (Ar n me gd gw gc gfr P ow pv d kp since tk waits out ans)) (h2:∀W W2,R1 W->Holds W2 g 102 (Ar n me gd gw gc gfr P ow pv d kp since ((tk+1:Nat):Int) waits out ans)->Touch g W W2->R2 W2) (KS:∀W,R2 W->Calls prog 53 #[AP g] W λe w'=>e=.returned (.tuple #[])/\R3 w') :Calls prog 30 #[AP g] w λe w'=>e=.returned (.tuple #[])/\R3 w':=by
 have y:(0:Int)<(n:Int):=BJ
 have t:¬(((tk+1:Nat):Int) % 8=0):=BJ
 have r:(0:Int)<=((tk+1:Nat):Int):=BJ
 have s:((tk+1:Nat):Int)<=1000001:=BJ
 clear h8;obtain⟨KT,KS,h1,h2,f⟩:=dD KT KS h1 h2 nd;clear nd;go_in;obtain⟨u,v⟩:=Cf f.o 4 74;go_wp2_with fail;refine KT.mono ?_;rintro e B ⟨rfl,c⟩;obtain⟨h,a⟩:=WZ c (h1.out _ c);clear c f u v KT;have m:=Am a.o 70;go_wp2_with (first|(refine sC 70 a.o (AA ((tk+1:Nat):Int)) ?_;intro p k l;have b:=qh (show Holds p g 102 (Ar n me gd gw gc gfr P ow pv d kp since ((tk+1:Nat):Int) waits out ans) from k);have i:=qh (h2.out _ _ h.o b.o l);clear k l h a m));generalize ((tk+1:Nat):Int)=A at b t r s;obtain⟨z,m⟩:=Cf b.o 0 70;go_loopw [2] (λx wr=>x=AA 0/\p=wr) (λ_ _=>0);case atStart=>exact⟨rfl,rfl⟩
 case round=>obtain⟨rfl,rfl⟩:=hrel;go_wp2_with fail;refine Ah (KS.o _ i.o) ?_;rintro C j;have q:=qh j;clear j i KS;go_wp2_with fail;exact bE ⟨rfl,q.o⟩
section
variable {P:Program} {ops:Array Oper} {Q:Exit->Act->World->Prop}
theorem Us{o:Oper}{a:Act}{w:World}{K:Act->World->Prop}{d q r:Tmp}{E:Prop}(hgd:o.guard=none)(t e:TypeId)(u v:Value)(L:List Value)(ho:o.op=.buildSlice t 2 #[(0,.tmp q),(1,.tmp r)])(hd:o.dst=some d)(hu:a.eval (.tmp q)=u)(hv:a.eval (.tmp r)=v) (hrun:∀w,(Instr.buildSlice t 2 #[(0,u),(1,v)]).run P w=.ok (.slice (Ac w.heap.size) 2 2) (w.alloc (.cells L.toArray e))) (hK:∀w',Holds w' w.heap.size e L->Below w.heap.size w w'->K (a.put (some d) (.slice (Ac w.heap.size) 2 2)) w'):if Region.wanted o (yielded ops a.tmps)=true then Oper.wp P o a w K Q else E:=by
 have b:Region.wanted o (yielded ops a.tmps)=true:=by simp[Region.wanted,hgd]
 rw[if_pos b];unfold Oper.wp execOp;simp only[ho,List.map_toArray,List.map_cons,List.map_nil,hu,hv];rw[Sem.run_bind,hrun];have:=hK _ (AC w e L) ((Below.refl _ _).alloc Ve _);rw[<-hd] at this;exact this
end
theorem aW{g:Nat}{w7 w w5:World}{ob:Option Nat}(h:Touch g w7 w)(hm:Mv (λk=>ob=some k) w w5)(hob:∀k,ob=some k->w7.heap.size<=k):Touch g w7 w5:=
 ⟨hm.os.trans h.os,hm.tape.trans h.tape,hm.output.trans h.output,Nat.le_trans h.size hm.size,λk a c=>(hm.block k (Nat.lt_of_lt_of_le a h.size) (λb=>absurd (hob k b) BJ)).trans (h.block k a c)⟩
def Gp(me:Nat)(d:Nat->Int)(i:Nat):List Value:=Dh (if i % 2=0 then 9 else 11) me ((if i / 2<me then i / 2 else i / 2+1:Nat):Int) (if i % 2=0 then λ_=>0 else d)
theorem Vl(k f t:Int)(d:Nat->Int):∀u∈Dh k f t d,u.oneCell'=true:=by simp[Dh,Value.oneCell']
theorem kV(me r:Int)(d:Nat->Int):∀W:World,(Instr.buildSlice 34 2 #[(0,.agg (Dh 9 me r λ_=>0).toArray),(1,.agg (Dh 11 me r d).toArray)]).run prog W=.ok (.slice (Ac W.heap.size) 2 2) (W.alloc (.cells ((Dh 9 me r λ_=>0)++Dh 11 me r d).toArray 47)):=λ_=>ND
theorem nN(n me gd gw gc gfr:Nat)(P:Value)(ow:Nat->Ow)(pv:Nat->Value)(d:Nat->Int)(since tk:Int)(waits out ans:Value)(j:Nat)(u:Value)(hv:(Cj λ_=>0)[j]?=some u):(Ar n me gd gw gc gfr P ow pv d (λ_=>0) since tk waits out ans)[62+j]?=some u:=by
 rcases(show j=0\/j=1\/j=2\/j=3\/j=4\/j=5\/j=6\/7<=j by omega) with rfl|rfl|rfl|rfl|rfl|rfl|rfl|a
 .exact hv
 .exact hv
 .exact hv
 .exact hv
 .exact hv
 .exact hv
 .exact hv
 .rw[List.getElem?_eq_none (by simp[Cj];omega)] at hv;cases hv
def qC(g n me gd gw gc gfr:Nat)(P:Value)(ow:Nat->Ow)(pv:Nat->Value)(d:Nat->Int)(since t1:Int)(waits ans:Value)(w7:World)(r:Nat)(wr:World):Prop:=
 ∃o ob,Holds wr g 102 (Ar n me gd gw gc gfr P ow pv d (λ_=>0) since t1 waits o ans)/\AV wr o ob 47 51 (2*upTo me r) (flat 51 (2*upTo me r) (Gp me d))/\(∀k,ob=some k->w7.heap.size<=k)/\Touch g w7 wr
theorem uJ(g n me gd gw gc gfr:Nat)(P:Value)(ow:Nat->Ow)(pv:Nat->Value)(d:Nat->Int)(since:Int)(tk:Nat)(waits ans:Value)(R1 R2 R3:World->Prop)(w:World)(nd:Holds w g 102 (Ar n me gd gw gc gfr P ow pv d (λ_=>0) since tk waits AL ans)) (htk:tk<=1000000) (h8:(tk+1) % 8=0) (hn3:3<=n) (hn:n<=7) (hme:me<n) (KT:Calls prog 52 #[AP gc] w λe w'=>e=.returned (.tuple #[])/\R1 w') (h1:∀W,R1 W->Holds W g 102 (Ar n me gd gw gc gfr P ow pv d (λ_=>0) since tk waits AL ans)) (h2:∀W W2 o ob,R1 W->Holds W2 g 102 (Ar n me gd gw gc gfr P ow pv d (λ_=>0) since ((tk+1:Nat):Int) waits o ans)->AV W2 o ob 47 51 (2*(n-1)) (flat 51 (2*(n-1)) (Gp me d))->(∀k,ob=some k->W.heap.size<=k)->Touch g W W2->R2 W2) (KS:∀W,R2 W->Calls prog 53 #[AP g] W λe w'=>e=.returned (.tuple #[])/\R3 w') :Calls prog 30 #[AP g] w λe w'=>e=.returned (.tuple #[])/\R3 w':=by
 have a8:(0:Int)<(n:Int):=BJ
 have ay:((tk+1:Nat):Int) % 8=0:=BJ
 have aw:(0:Int)<=((tk+1:Nat):Int):=BJ
 have ax:((tk+1:Nat):Int)<=1000001:=BJ
 have am:∀r,r<n->r≠me->flat 51 (2*upTo me r) (Gp me d)++(Dh 9 me r (λ_=>0)++Dh 11 me r d)=flat 51 (2*upTo me (r+1)) (Gp me d):=by
  intro r hr I;have L:2*upTo me (r+1)=2*upTo me r+1+1:=by unfold upTo;split<;>split<;>omega
  have ae:(if upTo me r<me then upTo me r else upTo me r+1)=r:=by unfold upTo;split<;>split<;>omega
  have e0:Gp me d (2*upTo me r)=Dh 9 me r (λ_=>0):=by
   unfold Gp;rw[show 2*upTo me r % 2=0 from BJ,show 2*upTo me r / 2=upTo me r from BJ,ae]
   rfl
  have e1:Gp me d (2*upTo me r+1)=Dh 11 me r d:=by
   unfold Gp;rw[show (2*upTo me r+1) % 2=1 from BJ,show (2*upTo me r+1) / 2=upTo me r from BJ,ae]
   rfl
  rw[L,<-II (s:=51) (V:=Gp me d) Iz (λ_ _=>rfl),<-II (s:=51) (V:=Gp me d) Iz (λ_ _=>rfl),e0,e1,List.append_assoc]
 obtain⟨av,KT,KS,h1,h2,a⟩:=mG am KT KS h1 h2 nd;clear h8 am nd;go_in;obtain⟨n4,a6⟩:=Cf a.o 4 74;go_wp2_with fail;refine KT.mono ?_;rintro e w1 ⟨rfl,H⟩;obtain⟨Q,x⟩:=WZ H (h1.out _ H);clear H a n4 a6 KT;have t:=Am x.o 70;go_upto_region 3 with(first|(refine sC 70 x.o (AA ((tk+1:Nat):Int)) ?_;intro m ad al;obtain⟨y,S⟩:=WZ (show Holds m g 102 (Ar n me gd gw gc gfr P ow pv d (λ_=>0) since ((tk+1:Nat):Int) waits AL ans) from ad) al;clear ad al x t));have h2:=qh (λW2 o ob=>h2.out w1 W2 o ob Q.o);have ba:=S.size;generalize ((tk+1:Nat):Int)=M at y ay h2 aw ax;have O:=qh (show qC g n me gd gw gc gfr P ow pv d since M waits ans m 0 m from⟨_,none,y.o,by unfold upTo;exact AV.nil _ _ _,Vj,Touch.refl _ _⟩);clear y Q h1;go_upto_region 4 with(fail);go_loopw [2] (λN wr=>∃r:Nat,N=AA (r:Int)/\r<=n/\qC g n me gd gw gc gfr P ow pv d since M waits ans m r wr) (λN _=>n - (intOf N).toNat);case atStart=>exact⟨0,rfl,BJ,O.o⟩
 case round=>
  clear O;obtain⟨r,rfl,hr,o,ob,af,ag,ai,ak⟩:=hrel;obtain⟨a,c,f,p⟩:=bY af ag ak ai;clear af ag ak ai;obtain⟨n0,n1,t⟩:=Yz a.o 0 1 70;by_cases a1:r<n
  .have a2:(r:Int)<(n:Int):=BJ
   by_cases I:r=me
   .subst I;go_wp2_with fail;go_roundw;case rel=>exact⟨r+1,by go_num,BJ,o,ob,a.o,by rw[show upTo r (r+1)=upTo r r from by unfold upTo;split<;>split<;>omega];exact c.o,p.o,f.o⟩
    case measure=>simp[intOf];omega
   .have hrme:((r:Int) != (me:Int))=true:=by simp;omega
    go_upto_region 7 with(fail);clear n0 n1 t;have a7:2*upTo me r<=14:=by unfold upTo;split<;>omega
    have aa:∀k,ob=some k->k≠g:=λk b=>by
     rcases c.cases with⟨_,D,_⟩|⟨g1,_,_,_,D,_,_,hh,_⟩
     .rw[D] at b;cases b
     .rw[D] at b;cases b;exact hh.ne_of a.o Iz
    obtain⟨ao,B,A⟩:=bP aa (λ(w':World) (h:Below wr.drew.heap.size wr.drew w')=>(((a.bel (AY _ wr)).bel h).CB 62 (cs:=Cj λ_=>0) (λj u q=>nN _ _ _ _ _ _ _ _ _ _ _ _ _ _ _ j u q))) (λ(w':World) (h:Below wr.drew.heap.size wr.drew w')=>(((a.bel (AY _ wr)).bel h).CB 55 (cs:=Cj d) (λj u q=>OD _ _ _ _ _ _ _ _ _ _ _ _ _ _ _ _ j u q)));clear aa;have a0:m.heap.size<=wr.drew.heap.size:=f.size;obtain⟨a,c,f⟩:=D5 (AY _ wr) a c f;refine Ed [26,29] 30 (λhSn=>?_);generalize wr.drew=wd at a c f B A a0 hSn |-;simp only[List.replicate];refine J9 0 ?_;refine BO 4 [26,27,28,29] (λw i=>Am (a.bel i) 72) ?_;refine ES 5 ?_;refine BO 8 [14,25,26,27,28,29] (λw i=>Am (a.bel i) 1) ?_;refine J9 9 ?_;refine JL 13 [14,25,26,27,28,29] (some 54) (.agg ([AA 0,AA 0,AA 0,AA 0,AA 0,AA 0,AA 0]).toArray) rfl (yieldsIf_load_mid (by rfl) 41 _ rfl g 62 rfl ([AA 0,AA 0,AA 0,AA 0,AA 0,AA 0,AA 0]) _ (λw i=>B.o w i) underlying41 rfl (by as_aux_lemma=>kernel_rfl)) hSn ?rg14;simp only[Act.put,zA,zB,zC];refine J9 14 ?_;refine BO 18 [24,25,26,27,28,29] (λw i=>Am (a.bel i) 1) ?_;refine J9 19 ?_;refine JL 23 [24,25,26,27,28,29] (some 64) (.agg ([AA (d 0),AA (d 1),AA (d 2),AA (d 3),AA (d 4),AA (d 5),AA (d 6)]).toArray) rfl (yieldsIf_load_mid (by rfl) 41 _ rfl g 55 rfl ([AA (d 0),AA (d 1),AA (d 2),AA (d 3),AA (d 4),AA (d 5),AA (d 6)]) _ (λw i=>A.o w i) underlying41 rfl (by as_aux_lemma=>kernel_rfl)) hSn ?rg24;simp only[Act.put,zA,zB,zC];refine CW 24 ?_;refine BN 25 rfl (λK l=>?_);refine Us rfl 34 47 (.agg (Dh 9 me r (λ_=>0)).toArray) (.agg (Dh 11 me r d).toArray) (Dh 9 me r (λ_=>0)++Dh 11 me r d) rfl rfl rfl rfl (kV me r d) ?_;intro wb G Z;have bb:=hSn.size;have hSn:=AO hSn Z;have C:=qh G;have a3:=G.lt;generalize wd.heap.size=gs at C a3;clear G Z;change K (Act.put _ (some 66) _) _;refine BR l ?_;clear l;refine BN 26 rfl (λK l=>?_);have a9:=hSn.size;refine tS (.agg EX.toArray) 51 480 (c.bel hSn) (Dh 9 me r (λ_=>0)++Dh 11 me r d) (C.reads 0 _ (λj v q=>by rw[Nat.zero_add];exact q)) ?_ (λu L=>by rcases List.mem_append.1 L with h|h;exact Vl _ _ _ _ u h;exact Vl _ _ _ _ u h);intro v5 an w5 ah aj F;obtain⟨E,Y,z,ar⟩:=bY ((a.bel hSn).mv F (λb=>ao.o _ b rfl)) (show Touch g m w5 from aW (f.bel hSn) F p.o) ah (show ∀k,an=some k->m.heap.size<=k from λk b=>by rcases aj with h|⟨k2,h,h2⟩;exact p.o k (h▸b);rw[h] at b;cases b;omega);clear ah F aj;change K (Act.put _ (some 67) _) _;refine BR l ?_;clear l;refine F9 27 ?_ (hS:=JI);refine BN 29 rfl (λK l=>?_);obtain⟨U,T,r5,rfl,az,_,_,ab,_⟩:=z.blk BJ;refine tC 72 E.out (.slice (Ac U) (2*upTo me r+2:Nat) T) ?_;intro w6 ac J;obtain⟨ap,aq,au⟩:=bP (show Holds w6 g 102 (Ar n me gd gw gc gfr P ow pv d (λ_=>0) since M waits (.slice (Ac U) (2*upTo me r+2:Nat) T) ans) from ac) (z.touch J (λk b=>by rw[az] at b;cases b;exact ab.ne_of E.out Iz)) (Y.trans J);clear ac J ab;refine BR l ?_;clear l;refine BA ?_;clear hSn a c f E z Y B A C;have a4:2*upTo me (r+1)=2*upTo me r+2:=by unfold upTo;split<;>split<;>omega
    go_wp2_with fail;go_roundw;case rel=>exact⟨r+1,by go_num,BJ,_,an,ap.o,by rw[<-av.o r a1 I,a4];exact aq.o,ar.o,au.o⟩
    case measure=>simp[intOf];omega
  .obtain rfl:r=n:=BJ
   have a2:¬((r:Int)<(r:Int)):=BJ
   have a5:upTo me r=r-1:=by unfold upTo;rw[if_neg BJ]
   rw[a5] at c;have R:=qh (h2.out wr o ob a.o c.o (λk b=>by have:=p.o k b;omega) (S.trans f.o));clear c f p h2;go_wp2_with fail;refine Ah (KS.o _ R.o) ?_;rintro w4 X;have H4:=qh X;clear X R KS a n0 n1 t;go_wp2_with fail;exact bE ⟨rfl,H4.o⟩
end
theorem S9(k f t:Int)(d:Nat->Int):(Dh k f t d).toArray.all (·.oneCell')=true:=by simp[Dh,Value.oneCell']
theorem sH(n:Nat)(k f t:Int)(d:Nat->Int)(w:World):(Op.equalIn (n+5) 47 (.agg (Dh k f t d).toArray) (.agg (Dh k f t d).toArray)).run prog w=.ok true w:=by unfold Dh;have a:∀w,(Op.equalIn (n+4) 37 (.agg #[AA 0,AA 0]) (.agg #[AA 0,AA 0])).run prog w=.ok true w:=λw=>PG (n+2) 0 0 w;have b:∀w,(Op.equalIn (n+4) 39 (.agg #[AA 0,AA 0]) (.agg #[AA 0,AA 0])).run prog w=.ok true w:=λw=>Jj (n+2) 0 0 w;have c:∀w,(Op.equalIn (n+4) 23 (.agg #[AA 0,AA 0,AA 0,AU,AU,AU,AU]) (.agg #[AA 0,AA 0,AA 0,AU,AU,AU,AU])).run prog w=.ok true w:=λw=>Md (n+2) 0 0 0 _ _ _ _ w;have g:∀w,(Op.equalIn (n+4) 43 (.agg #[AA 0,AA 0,AA 0,AA 0,AA 0,AA 0,AA 0,AA 0]) (.agg #[AA 0,AA 0,AA 0,AA 0,AA 0,AA 0,AA 0,AA 0])).run prog w=.ok true w:=λw=>Iq (n+1) (At.of 0) w;have h:∀w,(Op.equalIn (n+4) 45 (.agg #[AA 0,AA 0,AA 0,AA 0,AA 0,AA 0,AA 0,AA 0,AU,AU,AU,AU,AA 0,AA 0,AA 0,AA 0,AA 0,AA 0,AA 0,AA 0,.bool false]) (.agg #[AA 0,AA 0,AA 0,AA 0,AA 0,AA 0,AA 0,AA 0,AU,AU,AU,AU,AA 0,AA 0,AA 0,AA 0,AA 0,AA 0,AA 0,AA 0,.bool false])).run prog w=.ok true w:=λw=>Ku n ⟨0,0,0,0,0,0,Cm.zero,At.of 0,false⟩ w;have i:∀w,(Op.equalIn (n+4) 41 (.agg #[AA (d 0),AA (d 1),AA (d 2),AA (d 3),AA (d 4),AA (d 5),AA (d 6)]) (.agg #[AA (d 0),AA (d 1),AA (d 2),AA (d 3),AA (d 4),AA (d 5),AA (d 6)])).run prog w=.ok true w:=λw=>Kv (n+2) (d 0) (d 1) (d 2) (d 3) (d 4) (d 5) (d 6) w;rw[show n+5=(n+4)+1 from rfl,run_equalIn_struct w (n+4) 47 _ _ ND ND];go_simp
theorem nH(k f t:Int)(d:Nat->Int)(w:World):(binOp .neq 47 (.agg (Dh k f t d).toArray) (.agg (Dh k f t d).toArray)).run prog w=.ok (.bool false) w:=by
 rw[run_neq_struct,show (10000:Nat)=9995+5 from rfl,sH]
 rfl
theorem uA(k:Int)(hk:k=9\/k=11)(w:World):Calls prog 131 #[AA k] w λe w'=>e=.returned (.tuple #[.agg ([.bool false,.bool false,.bool false,.bool false,.bool false,.bool true,.bool false]:List Value).toArray,.bool true])/\Below w.heap.size w w':=by
 rcases hk with rfl|rfl;all_goals
  go_in;go_upto_region 1 with(fail);go_name_world W c;obtain⟨b,d,j⟩:=GI 233 ([.bool false,.bool false,.bool false,.bool false,.bool false,.bool false,.bool false]) c;clear c;have a:=qh (Base.start w);have a:=D9 d a;clear d j;generalize i:w.heap.size=B at b a |-;go_wp2_with (first|(refine sW [.bool false,.bool false,.bool false,.bool false,.bool false,.bool true,.bool false] b.o ?_;intro l f g));obtain⟨a,h⟩:=WZ (a.touch g Ve) f.Af;clear f g;refine bT h.o ?_;exact⟨rfl,i▸a.below⟩
theorem vH(k f t:Int)(d:Nat->Int)(w:World):Calls prog 133 #[.agg (Dh k f t d).toArray,.agg ([.bool false,.bool false,.bool false,.bool false,.bool false,.bool true,.bool false]:List Value).toArray] w λe w'=>e=.returned (.agg (Dh k f t d).toArray)/\Below w.heap.size w w':=by
 go_in;go_upto_region 1 with(fail);go_name_world W c;have c:Bo w [.cells (Dh k f t d:List Value).toArray 47,.cells ([.bool false,.bool false,.bool false,.bool false,.bool false,.bool true,.bool false]:List Value).toArray 233,.cells (EX:List Value).toArray 47]=W:=c;obtain⟨g,a,h⟩:=bP (show Holds W (w.heap.size) 47 (Dh k f t d) from Ae _ c 0 rfl) (show Holds W (w.heap.size+1) 233 ([.bool false,.bool false,.bool false,.bool false,.bool false,.bool true,.bool false]) from Ae _ c 1 rfl) (show Holds W (w.heap.size+1+1) 47 (EX) from Ae _ c 2 rfl);have p:=Aq _ c;have u:=Bd _ c;simp only[List.length_cons,List.length_nil] at u;clear c;have b:=qh (Base.start w);have b:=D9 p b;clear p u;generalize Y:w.heap.size+1+1=gz at h |-;generalize X:w.heap.size+1=m at a |-;have D:w.heap.size<m/\m<gz:=BJ
 generalize A:w.heap.size=B at g b D |-;obtain⟨M,N,O⟩:=Yz g.o 0 1 2;go_upto_region 2 with(first|(refine sW (Dh k f t λ_=>0) (AC W _ EX) ?_ (S9 _ _ _ _);intro w1 r v));have n:Below W.heap.size W w1:=Below.trans ((Below.refl _ _).alloc Ve _) (v.below Ve Vj);have C:gz<W.heap.size:=h.lt;have j:=qh r;obtain⟨g,a,h,b⟩:=En n g a h b;clear n r v M N O;generalize W.heap.size=z at j C |-;have E:=Am a.o 0;go_upto_region 4 with(fail);clear E;have F:=Am a.o 1;go_upto_region 6 with(fail);clear F;have G:=Am a.o 2;go_upto_region 8 with(fail);clear G;have H:=Am a.o 3;go_upto_region 10 with(fail);clear H;have I:=Am a.o 4;go_upto_region 12 with(fail);clear I;have J:=Am a.o 5;obtain⟨P,Q,R,S,T,U,V⟩:=Gl g.o 43 44 45 46 47 48 49;go_upto_region 14 with(first|(refine sS 43 j.o [AA (d 0),AA (d 1),AA (d 2),AA (d 3),AA (d 4),AA (d 5),AA (d 6)] ?_;intro L q i));obtain⟨j,g,a,h,b⟩:=dD (show Holds L z 47 (Dh k f t d) from q) (g.touch i BJ) (a.touch i BJ) (h.touch i BJ) (b.touch i BJ);clear q i J P Q R S T U V;have K:=Am a.o 6;go_upto_region 16 with(fail);clear K;have l:=qh j.Af;go_wp2_with (first|(refine lM 0 l.o ?_)|(refine sW (Dh k f t d) h.o ?_ (S9 _ _ _ _);intro Z s x));obtain⟨b,y⟩:=WZ (b.touch x BJ) s.Af;clear s x l;refine bC y.o ?_;exact⟨rfl,A▸b.below⟩
theorem jR(k:Int)(hk:k=9\/k=11)(f t:Nat)(d:Nat->Int)(hf:f<7)(ht:t<7)(hne:f≠t)(hd:FrontP.right d=true)(w:World):Calls prog 72 #[.agg (Dh k f t d).toArray] w λe w'=>e=.returned (.bool true)/\Below w.heap.size w w':=by
 letI:In:=I0
 obtain⟨G,H,I,A,C,D,E,J⟩:=ed (uA k hk) (λw=>He f w hf) (λw=>He t w ht) (vH k (f:Int) t d) (Dl) JJ EJ (GU);have F:=qh (λw=>by have:=Ky 0 d w rfl;rw[hd] at this;exact this);have L:=nH k f t d;have hi:((f:Int)==(t:Int))=false:=by simp;omega
 go_in;go_upto_region 1 with(fail);go_name_world W q;obtain⟨a,u,M⟩:=GI 47 (Dh k f t d) q;clear q;have b:=qh (Base.start w);have b:=D9 u b;clear u M;generalize K:w.heap.size=B at a b |-;have l:=Am a.o 0;go_wp2_with fail;refine Ah (G.o _) ?_;rintro h c;obtain⟨a,b⟩:=Ce c a b;clear c l;go_upto_region 2 with(first|(with_reducible refine sR [.bool false,.bool false,.bool false,.bool false,.bool false,.bool true,.bool false] (AC h _ _) ?_;intro w2 x y));have r:Below h.heap.size h w2:=Below.trans ((Below.refl _ _).alloc Ve _) (y.below Ve Vj);have g:=qh x;obtain⟨a,b⟩:=Ce r a b;clear r x y;generalize h.heap.size=gp at g |-;obtain⟨l,N,Z⟩:=kE a.o 0 1 2;obtain⟨m,n⟩:=WZ (BK (cs:=Dh k f t d) a.o 0 (by intro j v i;rw[Nat.zero_add];exact i)) (BK (cs:=[.bool false,.bool false,.bool false,.bool false,.bool false,.bool true,.bool false]) g.o 0 (by intro j v i;rw[Nat.zero_add];exact i));refine wp_region_quiet_below ND ND ?_;repeat(first
  | (with_reducible refine qR 0 m.o ?_;simp only[Act.put,List.setIfInBounds_toArray,List.set_cons_succ,List.set_cons_zero])
  | (with_reducible refine qR 0 n.o ?_;simp only[Act.put,List.setIfInBounds_toArray,List.set_cons_succ,List.set_cons_zero])
  | go_big_quiet_step (first
   | (go_at_call 132;first|(with_reducible exact AQ λW _=>H.o W)|(with_reducible exact AQ λW _=>I.o W))
   | (go_at_call 133;with_reducible exact AQ λW _=>A.o W)))
 refine wpQuiet_nil ?_;intro w3 z;have s:=Aa z;obtain⟨a,g,b⟩:=D5 s a g b;clear z s l N Z m n L;have p0:=Am g.o 0;obtain⟨x5,x6⟩:=Cf a.o 5 6;go_wp2_with fail;refine Ah (C.o _) ?_;rintro w5 c;obtain⟨a,b⟩:=Ce c a b;clear c x5 x6;obtain⟨x7,x8,x9,O,P,Q,R⟩:=Gl a.o 7 8 9 10 11 12 13;go_wp2_with fail;refine Ah (D.o _) ?_;rintro w6 c;obtain⟨a,b⟩:=Ce c a b;clear c x7 x8 x9 O P Q R;obtain⟨S,T,U,V,X,Y,aa,ab⟩:=EE a.o 14 15 16 17 18 19 20 21;go_wp2_with fail;refine Ah (E.o _) ?_;rintro w7 c;obtain⟨a,b⟩:=Ce c a b;clear c S T U V X Y aa ab;have p:=qh (Hf a.o 22 (cs:=JA) rfl);go_wp2_with (first|(with_reducible refine lR 22 p.o ?_));refine Ah (J.o _) ?_;rintro w8 c;obtain⟨a,b⟩:=Ce c a b;clear c p;obtain⟨ac,ad,ae,af,ag,ah,ai⟩:=Gl a.o 43 44 45 46 47 48 49;go_wp2_with fail;refine Ah (F.o _) ?_;rintro w9 c;obtain⟨a,b⟩:=Ce c a b;clear c ac ad ae af ag ah ai;have aj:=Am a.o 50;go_wp2_with fail;go_ret;exact⟨rfl,K▸b.below⟩
theorem ZO(d:Nat->Int)(k:Nat)(hk:k<7):(Cj d)[k]?=some (AA (d k)):=by rcases(show k=0\/k=1\/k=2\/k=3\/k=4\/k=5\/k=6 by omega) with rfl|rfl|rfl|rfl|rfl|rfl|rfl<;>rfl
theorem XC(a b:Nat->Int)(w:World)(h:∀i,i<7->b i<=a i) :Calls prog 138 #[.agg #[AA (a 0),AA (a 1),AA (a 2),AA (a 3),AA (a 4),AA (a 5),AA (a 6)],.agg #[AA (b 0),AA (b 1),AA (b 2),AA (b 3),AA (b 4),AA (b 5),AA (b 6)]] w λe w'=>e=.returned (.bool true)/\Below w.heap.size w w':=by
 have H:=qh h;clear h;have l:=λq m W=>Ew b q m W;have c:Holds ((w.alloc (.cells #[AA (a 0),AA (a 1),AA (a 2),AA (a 3),AA (a 4),AA (a 5),AA (a 6)] 41)).alloc (.cells #[AA (b 0),AA (b 1),AA (b 2),AA (b 3),AA (b 4),AA (b 5),AA (b 6)] 41)) w.heap.size 41 (Cj a):=Aw (AC w _ _) _;have k:Below w.heap.size w ((w.alloc (.cells #[AA (a 0),AA (a 1),AA (a 2),AA (a 3),AA (a 4),AA (a 5),AA (a 6)] 41)).alloc (.cells #[AA (b 0),AA (b 1),AA (b 2),AA (b 3),AA (b 4),AA (b 5),AA (b 6)] 41)):=by go_grown
 obtain⟨d,n⟩:=WZ (And.intro c k) l;clear c k l;go_in;go_wp2_with fail;go_loopw [8] (λi wr=>∃q:Nat,q<=7/\i=AA q/\Holds wr w.heap.size 41 (Cj a)/\Below w.heap.size w wr) (λi _=>7 - (intOf i).toNat);case atStart=>exact⟨0,BJ,rfl,d.o⟩
 case round=>
  clear d;obtain⟨q,m,rfl,c,j⟩:=hrel;have g:=qh j;clear j;by_cases f:q<7
  .have hix:=n.o q f;have r:=H.o q f;have p:=c.cell q;rw[ZO a q f] at p;have d:=qh c;clear c;go_wp2_with fail;go_roundw;case rel=>exact⟨q+1,BJ,by go_num,d.o,g.o⟩
   case measure=>simp[intOf];omega
  .have hq7:q=7:=BJ
   subst hq7;clear c;go_wp2_with fail;go_ret;exact⟨rfl,g.o⟩
def sumTo(d:Nat->Int):Nat->Int
 | 0=>0
 | j+1=>sumTo d j+d j
theorem ag(g n me gd gw gc gfr r:Nat)(P:Value)(ow:Nat->Ow)(pv:Nat->Value)(d kp:Nat->Int)(since tk:Int)(waits out ans:Value)(k:Int)(w:World)(nd:Holds w g 102 (Ar n me gd gw gc gfr P ow pv d kp since tk waits out ans))(hr:r<7)(hk:k<=d r/\0<=k)(hd:0<=d r/\d r<=15) :Calls prog 137 #[AP g,AA r,AA k] w λe w'=>e=.returned (.tuple #[])/\Below w.heap.size w w':=by
 letI:In:=I0
 exact qW g n me gd gw gc gfr r P ow pv d kp since tk waits out ans k (λW=>Below w.heap.size w W) w nd hr ⟨hd.1,BJ⟩ ⟨hk.2,BJ⟩ (λ_ W h=>h) (λh=>absurd h BJ) λW b h a=>h.trans (a.mono h.size)
theorem Xb(k f t:Int)(d:Nat->Int)(j:Nat)(v:Value)(hv:(Cj d)[j]?=some v):(Dh k f t d)[43+j]?=some v:=by
 rcases(show j=0\/j=1\/j=2\/j=3\/j=4\/j=5\/j=6\/7<=j by omega) with rfl|rfl|rfl|rfl|rfl|rfl|rfl|a
 .exact hv
 .exact hv
 .exact hv
 .exact hv
 .exact hv
 .exact hv
 .exact hv
 .rw[List.getElem?_eq_none (by simp[Cj];omega)] at hv;cases hv
theorem aU(g n me gd gw gc gfr f:Nat)(P:Value)(ow:Nat->Ow)(pv:Nat->Value)(d kp ld:Nat->Int)(since tk:Int)(waits out ans:Value)(w:World)(nd:Holds w g 102 (Ar n me gd gw gc gfr P ow pv d kp since tk waits out ans))(hd:∀i,i<7->0<=d i/\d i<=15)(hl:∀i,i<7->0<=ld i/\ld i<=d i)(hs:sumTo d 7<=15) :Calls prog 73 #[AP g,.agg (Dh 11 f me ld).toArray] w λe w'=>e=.returned (.tuple #[])/\Below w.heap.size w w':=by
 obtain⟨M,Q,O,L,N,c,a⟩:=oC (λ(q:Nat) (X:q<7) W=>(show (Instr.index 41 (.agg (Cj ld).toArray) (AA (q:Int))).run prog W=.ok (AA (ld q)) W from Ew ld q X W)) (λ(r:Nat) (k:Int) W (h:Holds W g 102 (Ar n me gd gw gc gfr P ow pv d kp since tk waits out ans)) (J:r<7) (V:k<=d r/\0<=k)=>ag g n me gd gw gc gfr r P ow pv d kp since tk waits out ans k W h J V (hd r J)) (λW=>(show Calls prog 138 #[.agg (Cj d).toArray,.agg (Cj ld).toArray] W λe w'=>e=.returned (.bool true)/\Below W.heap.size W w' from XC d ld W (λi U=>(hl i U).2))) hd hl nd (Base.start w);clear nd hd hl;go_in;go_upto_region 1 with(fail);go_name_world W E;obtain⟨l,G,Y⟩:=GI 47 (Dh 11 f me ld) E;clear E;obtain⟨c,a⟩:=Ce G c a;clear G Y;generalize R:w.heap.size=B at l a |-;have D:=qh (l.CB 43 (cs:=Cj ld) (λj v p=>Xb _ _ _ _ j v p));go_upto_region 3 with(first|(refine lM 43 D.o ?_));clear D;go_loopw [9,4] (λz v4 wr=>∃j:Nat,z=AA (j:Int)/\j<=7/\(∃b:Int,v4=AA b/\0<=b/\b<=15*j/\b<=sumTo d j)/\Below W.heap.size W wr) (λz _ _=>7 - (intOf z).toNat);case atStart=>exact⟨0,rfl,BJ,⟨0,rfl,BJ,BJ,Int.le_refl _⟩,Below.refl _ _⟩
 case round=>
  obtain⟨j,rfl,hj,⟨b,rfl,aa,S,H⟩,y⟩:=hrel;obtain⟨c,a,l⟩:=D5 y c a l;have s:=qh y;clear y;by_cases m:j<7
  .have hix:=M.o j m;have t:=N.o j m;have T:=L.o j m;go_wp2_with fail;refine Ah (Q.o j (ld j) _ c.o m ⟨t.2,t.1⟩) ?_;rintro w2 x;obtain⟨c,a,l⟩:=D5 x c a l;have s:=qh (s.trans (x.mono s.size));clear x hix;have I:=c.cell (55+j);rw[FT _ _ _ _ _ _ _ _ _ _ _ _ _ _ _ _ j m] at I;have Z:sumTo d (j+1)=sumTo d j+d j:=rfl;generalize d j=dj at Z I t T;generalize ld j=lj at t |-;go_wp2_with fail;go_roundw;case rel=>exact⟨j+1,by go_num,BJ,⟨_,rfl,BJ,BJ,BJ⟩,s.o⟩
   case measure=>simp[intOf];omega
  .have hj8:j=7:=BJ
   subst hj8;have ab:b<=15:=Int.le_trans H hs;clear H S;go_upto_region 8 with(fail);obtain⟨C,A⟩:=WZ (BK (cs:=Cj d) c.o 55 (λj u p=>OD _ _ _ _ _ _ _ _ _ _ _ _ _ _ _ _ j u p)) (BK (cs:=Cj ld) l.o 43 (λj v p=>Xb _ _ _ _ j v p));refine wp_region_quiet_below ND ND ?_;repeat(first
    | (with_reducible refine qR 55 C.o ?_;simp only[Act.put,List.setIfInBounds_toArray,List.set_cons_succ,List.set_cons_zero])
    | (with_reducible refine qR 43 A.o ?_;simp only[Act.put,List.setIfInBounds_toArray,List.set_cons_succ,List.set_cons_zero])
    | go_big_quiet_step (first
     | (go_at_call 138;with_reducible exact AQ λW _=>O.o W)))
   refine wpQuiet_nil ?_;intro w3 K;have F:=Aa K;have a:=D9 F a;clear K F C A c l;go_wp2_with fail;exact bE ⟨rfl,R▸a.below⟩
theorem uI(g n me gd gw gc gfr f:Nat)(ld:Nat->Int)(P:Value)(ow:Nat->Ow)(pv:Nat->Value)(d kp:Nat->Int)(since tk:Int)(waits out ans:Value)(R1 R2:World->Prop)(w:World)(nd:Holds w g 102 (Ar n me gd gw gc gfr P ow pv d kp since tk waits out ans))(hf:f<n) (KL:∀W,Calls prog 72 #[.agg (Dh 9 f me ld).toArray] W λe w'=>e=.returned (.bool true)/\Below W.heap.size W w') (KT:∀W,Below w.heap.size w W->Calls prog 69 #[AP gfr,AA f,.agg (Cj ld).toArray] W λe w'=>(∃bb,e=.returned (.bool bb))/\R1 w') (KS:∀W,R1 W->Calls prog 53 #[AP g] W λe w'=>e=.returned (.tuple #[])/\R2 w') :Calls prog 50 #[AP g,.agg (Dh 9 f me ld).toArray] w λe w'=>e=.returned (.bool true)/\R2 w':=by
 obtain⟨KL,KT,KS,c,b⟩:=dD KL KT KS nd (Base.start w);have M:((me:Int)==(me:Int))=true:=Vj
 have L:(f:Int)<(n:Int):=BJ
 clear nd;go_in;go_upto_region 1 with(fail);go_name_world W u;obtain⟨a,y,C⟩:=GI 47 (Dh 9 f me ld) u;clear u;obtain⟨c,b⟩:=Ce y c b;clear y C;generalize J:w.heap.size=B at a b KT |-;have q:=qh (BK (cs:=Dh 9 f me ld) a.o 0 (by intro j v m;rw[Nat.zero_add];exact m));obtain⟨H,I⟩:=JO a.o 1 2;obtain⟨D,E,F⟩:=kE c.o 0 1 74;refine wp_region_quiet_below ND ND ?_;repeat(first
  | (with_reducible refine qR 0 q.o ?_;simp only[Act.put,List.setIfInBounds_toArray,List.set_cons_succ,List.set_cons_zero])
  | go_big_quiet_step (first
   | (go_at_call 72;with_reducible exact AQ λW _=>KL.o W)))
 refine wpQuiet_nil ?_;intro k z;have x:=Aa z;obtain⟨c,a,b⟩:=D5 x c a b;clear z x H I D E F q;have G:=Am a.o 0;go_upto_region 7 with(fail);clear G;have l:=qh (λ(w':World) (h:Below k.drew.heap.size k.drew w')=>((a.bel (AY _ k)).bel h).CB 43 (cs:=Cj ld) (λj v m=>Xb _ _ _ _ j v m));obtain⟨c,a,b⟩:=D5 (AY _ k) c a b;refine Ed [8] 9 (λhSn=>?_);generalize k.drew=Q at c a b l hSn |-;simp only[List.replicate];refine ES 0 ?_;refine BO 3 [8] (λw i=>Am (c.bel i) 5) ?_;refine CW 4 ?_;refine BO 5 [8] (λw i=>Am (a.bel i) 1) ?_;refine CW 6 ?_;refine JL 7 [8] (some 53) (.agg (Cj ld).toArray) rfl (yieldsIf_load_mid (by rfl) 41 _ rfl B 43 rfl (Cj ld) _ (λw i=>l.o w i) underlying41 rfl (by as_aux_lemma=>kernel_rfl)) hSn ?rg8;simp only[Act.put,zA,zB,zC];refine BN 8 rfl (λK t=>?_);go_simp;refine(KT.o _ (b.bel hSn).below).mono ?_;rintro e N ⟨⟨bb,rfl⟩,r⟩;have p:=qh r;clear r;refine BR t ?_;clear t;refine BA ?_;clear hSn c a b l KT KL;go_wp2_with fail;refine Ah (KS.o _ p.o) ?_;rintro O s;have A:=qh s;clear s p;go_wp2_with fail;go_ret;exact⟨rfl,A.o⟩
theorem nS(g n me gd gw gc gfr f:Nat)(ld:Nat->Int)(P:Value)(ow:Nat->Ow)(pv:Nat->Value)(d kp:Nat->Int)(since tk:Int)(waits out ans:Value)(R1 R2:World->Prop)(w:World)(nd:Holds w g 102 (Ar n me gd gw gc gfr P ow pv d kp since tk waits out ans))(hf:f<n) (KL:∀W,Calls prog 72 #[.agg (Dh 11 f me ld).toArray] W λe w'=>e=.returned (.bool true)/\Below W.heap.size W w') (KT:∀W,Below w.heap.size w W->Calls prog 73 #[AP g,.agg (Dh 11 f me ld).toArray] W λe w'=>e=.returned (.tuple #[])/\R1 w') (KS:∀W,R1 W->Calls prog 53 #[AP g] W λe w'=>e=.returned (.tuple #[])/\R2 w') :Calls prog 50 #[AP g,.agg (Dh 11 f me ld).toArray] w λe w'=>e=.returned (.bool true)/\R2 w':=by
 obtain⟨KL,KT,KS,c,b⟩:=dD KL KT KS nd (Base.start w);have H:((me:Int)==(me:Int))=true:=Vj
 have G:(f:Int)<(n:Int):=BJ
 clear nd;go_in;go_upto_region 1 with(fail);go_name_world W p;obtain⟨a,r,u⟩:=GI 47 (Dh 11 f me ld) p;clear p;obtain⟨c,b⟩:=Ce r c b;clear r u;generalize F:w.heap.size=B at a b KT |-;have i:=qh (BK (cs:=Dh 11 f me ld) a.o 0 (by intro j v x;rw[Nat.zero_add];exact x));obtain⟨D,E⟩:=JO a.o 1 2;obtain⟨y,z,A⟩:=kE c.o 0 1 74;refine wp_region_quiet_below ND ND ?_;repeat(first
  | (with_reducible refine qR 0 i.o ?_;simp only[Act.put,List.setIfInBounds_toArray,List.set_cons_succ,List.set_cons_zero])
  | go_big_quiet_step (first
   | (go_at_call 72;with_reducible exact AQ λW _=>KL.o W)))
 refine wpQuiet_nil ?_;intro I s;have q:=Aa s;obtain⟨c,a,b⟩:=D5 q c a b;clear s q D E y z A i;have C:=Am a.o 0;have k:=qh a.Af;go_wp2_with (first|(with_reducible refine lR 0 k.o ?_));refine Ah (KT.o _ b.below) ?_;rintro J l;have h:=qh l;clear l C k c a b KT KL;go_wp2_with fail;refine Ah (KS.o _ h.o) ?_;rintro K m;have t:=qh m;clear m h;go_wp2_with fail;go_ret;exact⟨rfl,t.o⟩
end Go.Proofs.YtimdpiifpibgfaaGreatDoor
