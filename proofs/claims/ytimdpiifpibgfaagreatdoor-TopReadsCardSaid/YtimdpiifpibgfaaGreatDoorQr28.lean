/- A part of the proof of TopReads. -/
import Derived.Deep.OwnRows
import Derived.Test.YtimdpiifpibgfaaGreatDoorQr27
set_option linter.all false
set_option maxRecDepth 20000
set_option maxHeartbeats 16000000
open Go.RowKit Go.Maps
namespace Go.Proofs.YtimdpiifpibgfaaGreatDoor
open Tryz
def lenOf:Value->Nat
 | .slice _ m _=>m
 | _=>0
theorem TN{w:World}{base base' size n:Nat}{e:TypeId}{v:Value}{xs:List Value}(h:w.ownsRow base e size v n xs)(hl:base'<=base):w.ownsRow base' e size v n xs:=
 ⟨h.1,h.2.imp id λ⟨g,a,b,c,d,f⟩=>⟨g,a,b,c,Nat.le_trans hl d,f⟩⟩
theorem Qb(z:Value):madeCells #[z] 1=#[z]:=ND
theorem Yb(w:World):(Instr.makeSlice 30 (AA 1) (AA 1)).run prog w=.ok (.slice (Ac w.heap.size) 1 1) (w.alloc (.cells #[AA 0] 3)):=by have h:=run_make_row' (P:=prog) 30 3 (AA 0) 8 ND ND rfl .i64 .i64 1 BJ BJ w;rw[Qb] at h;exact h
theorem iY(w:World):(Instr.makeSlice 429 (AA 1) (AA 1)).run prog w=.ok (.slice (Ac w.heap.size) 1 1) (w.alloc (.cells #[.bool false] 4)):=by have h:=run_make_row' (P:=prog) 429 4 (.bool false) 1 ND ND rfl .i64 .i64 1 BJ BJ w;rw[Qb] at h;exact h
theorem Uc(w:World):(Instr.makeSlice 411 (AA 1) (AA 1)).run prog w=.ok (.slice (Ac w.heap.size) 1 1) (w.alloc (.cells #[AL] 30)):=by have h:=run_make_row' (P:=prog) 411 30 AL 24 ND ND rfl .i64 .i64 1 BJ BJ w;rw[Qb] at h;exact h
theorem Zy(be ce bp bn b0 c0:Nat)(w:World)(he:Holds w be 30 [AL])(hp:Holds w bp 3 [AA 0])(hn:Holds w bn 30 [.slice (Ac b0) 1 c0]) :Calls prog 330 #[.slice (Ac be) 1 ce,.slice (Ac bp) 1 1,.slice (Ac bn) 1 1] w λe w'=>∃v,e=.returned v/\w'.ownsRow w.heap.size 30 1 v 1 [.slice (Ac b0) 1 c0]/\Below w.heap.size w w':=by
 obtain⟨r,A,k⟩:=bP he hp hn;have ab:=hn.lt;clear he hp hn;have ae:=Yb;have af:=Uc;go_in;go_wp2_with fail;have n:=qh (show Holds ((w.alloc (.cells #[AA 0] 3)).alloc (.cells #[AL] 30)) w.heap.size 3 [AA 0] from Aw (AC w _ _) _);have f:=qh (show Holds ((w.alloc (.cells #[AA 0] 3)).alloc (.cells #[AL] 30)) (w.heap.size+1) 30 [AL] from by
  have:=AC (w.alloc (.cells #[AA 0] 3)) 30 [AL];rw[World.size_alloc] at this;exact this)
 have b:=qh (show Below w.heap.size w ((w.alloc (.cells #[AA 0] 3)).alloc (.cells #[AL] 30)) from by go_grown);generalize (w.alloc (.cells #[AA 0] 3)).alloc (.cells #[AL] 30)=W at n f b |-;obtain⟨r,A,k⟩:=bP (AX r.o b.o) (AX A.o b.o) (AX k.o b.o);have C:w.heap.size+1<W.heap.size:=f.o.lt;generalize hk:w.heap.size+1=gk at f C |-;generalize D:w.heap.size=s at n b |-;go_loopw [27] (λv wr=>∃i:Nat,v=AA (i:Int)/\i<=1/\wr=W) (λv _=>1 - (intOf v).toNat);case atStart=>first|exact⟨0,rfl,BJ,rfl⟩|exact⟨0,rfl,BJ,trivial⟩|exact⟨0,Vj⟩
 case round=>
  obtain⟨i,rfl,hi,rfl⟩:=hrel;rcases(show i=0\/i=1 by omega) with rfl|rfl
  .have e0:=r.cell 0;simp only[List.getElem?_cons_zero] at e0;go_wp2_with fail;go_loopw [34] (λv a=>v=AA 0/\a=wr) (λ_ _=>0);case atStart=>first|exact⟨rfl,rfl⟩|exact⟨rfl,trivial⟩|simp
   case round=>
    obtain⟨rfl,rfl⟩:=hrel;go_wp2_with fail;go_roundw;case rel=>exact⟨1,Vj⟩
    case measure=>simp[intOf]
  .go_wp2_with fail;obtain⟨l,m⟩:=WZ (AC wr 3 [AA 0]) (show Below wr.heap.size wr (wr.alloc (.cells #[AA 0] 3)) by go_grown);generalize wr.alloc (.cells #[AA 0] 3)=W at l m |-;have R:s<wr.heap.size:=n.lt;obtain⟨r,k,f,n,b⟩:=dD (AX r.o m.o) (AX k.o m.o) (AX f.o m.o) (AX n.o m.o) (b.trans (m.mono BJ));have Q:wr.heap.size<W.heap.size:=l.lt;generalize ad:wr.heap.size=O at l Q R C |-;go_loopw [14] (λv a=>(v=AL/\a=W)\/(∃p c,v=.slice p 1 c/\a.ownsRow s 30 1 v 1 [.slice (Ac b0) 1 c0]/\Below s w a)) (λv _=>1-lenOf v);case atStart=>first|exact .inl ⟨rfl,rfl⟩|simp
   case round=>
    rcases hrel with⟨rfl,rfl⟩|⟨p,c,rfl,E,d⟩
    .go_wp2_with fail;go_loopw [15,97] (λG H a=>(G=AA (-1)/\H=AA 0/\a=wr)\/(G=AA 0/\H=AA 1/\Below wr.heap.size wr a)) (λ_ v _=>1 - (intOf v).toNat);case atStart=>first|exact .inl ⟨rfl,rfl,rfl⟩|simp
     case round=>
      rcases hrel with⟨rfl,rfl,rfl⟩|⟨rfl,rfl,d⟩
      .have l0:=n.cell 0;have U:=l.cell 0;simp only[List.getElem?_cons_zero] at l0 U;go_upto_region 21 with(fail);go_quiet (fail);go_wp2_with fail;exact⟨.inr ⟨rfl,rfl,⟨rfl,rfl,rfl,Ve,λ_ _=>rfl⟩⟩,Iz⟩
      .have HB2:=qh d
       rename World=>a
       obtain⟨l,k,f⟩:=bP (AX l.o d) (AX k.o d) (AX f.o d);have ag:=d.size;have ac:bn<a.heap.size:=k.lt;have K:=qh (show bn≠O from BJ);clear d;go_wp2_with (first|(refine sC 0 l.o (AA 1) ?_;intro q S u;have M:=qh u;have T:=(k.touch u K.o);have X:=T.cell 0;simp only[List.getElem?_cons_zero] at X;have L:=qh (f.o.touch u BJ);have ah:=u.size;clear S u)|(at_builtin;refine Ag rfl (.tmp 136) (.tmp 141) 411 rfl (q.heap.size+1) 30 AL 1 24 rfl ND rfl Iz _ 0 [] rfl (World.ownsRow_nil _ _ _ _) (Ac q.heap.size) 1 1 [.slice (Ac b0) 1 c0] rfl rfl ((AC q _ _).reads 0 _ (λj v x=>by simpa using x)) (by intro h;cases h) (by simp[Value.oneCell']) (by unfold maxLen;omega) BJ Vj ?_;intro Y Z F t _;have z:=qh (TN F (show s<=q.heap.size+1 by omega));have t:=((Below.refl q.heap.size q).alloc Ve (.cells #[.slice (Ac b0) 1 c0] 30)).trans (t.mono (Nat.le_succ _));have I:=qh t;have V:=(AX L.o t).cell 0;simp only[List.getElem?_cons_zero] at V;clear F t)|fail);have J:=qh ((b.trans (HB2.mono BJ)).trans ((M.below (B:=s) BJ BJ).trans (I.mono BJ)));go_loopw [148] (λv a=>v=AA 0/\a=Z) (λ_ _=>0);case atStart=>first|exact⟨rfl,rfl⟩|exact⟨rfl,trivial⟩|simp
       case round=>
        obtain⟨rfl,rfl⟩:=hrel;obtain⟨y,c4,rfl⟩:∃y c4,Y=.slice y 1 c4:=by
         obtain⟨_,P⟩:=z.o;rcases P with⟨x,hn⟩|⟨g,N,aa,x,_⟩
         .cases hn
         .exact⟨_,N,x⟩
        go_wp2_with fail;go_roundw;case rel=>
         repeat apply Exists.intro
         exact⟨.inr ⟨y,c4,rfl,z.o,J.o⟩,rfl⟩
        case measure=>simp[lenOf]
    .obtain⟨HO,b⟩:=WZ E d;clear E d;go_wp2_with fail;go_ret;exact⟨_,rfl,D▸HO.o,D▸b.o⟩
theorem OI{A:Array Obj}{x:Obj}{k:Nat}(h:k=A.size):(A.push x)[k]?=some x:=by rw[Array.getElem?_push,if_pos h]
theorem DL{A:Array Obj}{x:Obj}{k:Nat}(h:k<A.size):(A.push x)[k]?=A[k]?:=by rw[Array.getElem?_push,if_neg BJ]
theorem Gh(w:World)(a b c d e:Obj) :(((((w.alloc a).alloc b).alloc c).alloc d).alloc e).drew.heap[w.heap.size]?=some a/\(((((w.alloc a).alloc b).alloc c).alloc d).alloc e).drew.heap[w.heap.size+1]?=some b/\(((((w.alloc a).alloc b).alloc c).alloc d).alloc e).drew.heap[w.heap.size+1+1]?=some c /\(((((w.alloc a).alloc b).alloc c).alloc d).alloc e).drew.heap[w.heap.size+1+1+1]?=some d/\(((((w.alloc a).alloc b).alloc c).alloc d).alloc e).drew.heap[w.heap.size+1+1+1+1]?=some e/\Below w.heap.size w (((((w.alloc a).alloc b).alloc c).alloc d).alloc e).drew:=by
 have f:(((((w.alloc a).alloc b).alloc c).alloc d).alloc e).drew.heap=((((w.heap.push a).push b).push c).push d).push e:=rfl;refine⟨?_,?_,?_,?_,?_,⟨rfl,rfl,rfl,?_,λk g=>?_⟩⟩
 .rw[f,DL (by simp<;>omega),DL (by simp<;>omega),DL (by simp<;>omega),DL Vj,OI rfl]
 .rw[f,DL (by simp<;>omega),DL (by simp<;>omega),DL Vj,OI Vj]
 .rw[f,DL (by simp<;>omega),DL Vj,OI Vj]
 .rw[f,DL Vj,OI Vj]
 .rw[f,OI Vj]
 .rw[f];simp;omega
 .rw[f,DL (by simp<;>omega),DL (by simp<;>omega),DL (by simp<;>omega),DL (by simp<;>omega),DL g]
theorem Z4(be ce:Nat)(w:World)(he:Holds w be 30 [AL]) :Calls prog 311 #[.slice (Ac be) 1 ce] w λe w'=>∃v b0 c0 L,e=.returned (.tuple #[v,AA 0])/\w'.ownsRow w.heap.size 30 1 v 1 [.slice (Ac b0) 1 c0]/\Holds w' b0 3 (AA 0 :: L)/\w.heap.size<=b0/\1<=c0/\L.length+1=c0/\Below w.heap.size w w':=by
 obtain⟨z,aa,N⟩:=bP he he.lt he;clear he;have aq:=Yb;have ar:=Uc;have au:=iY;go_in;go_upto_region 4 with(fail);go_cut [5] from 14 to 24 (λx wx=>∃g l m n k,x=AP g/\GW wx g l m n k (.slice (Ac be) 1 ce) AL 0 0 0 0 0 false/\bK w.heap.size g l m n k/\Below w.heap.size w wx);case first=>
  go_region;all_goals
   go_wp2_with fail
   go_meet
  all_goals
   refine⟨_,_,_,_,_,rfl,⟨(Gh w _ _ _ _ _).2.2.2.2.1,?_,?_,?_,?_,?_⟩,?_,(Gh w _ _ _ _ _).2.2.2.2.2⟩
   .first|exact(Gh w _ _ _ _ _).1|exact(Gh w _ _ _ _ _).2.1|exact(Gh w _ _ _ _ _).2.2.1|exact(Gh w _ _ _ _ _).2.2.2.1
   .first|exact(Gh w _ _ _ _ _).1|exact(Gh w _ _ _ _ _).2.1|exact(Gh w _ _ _ _ _).2.2.1|exact(Gh w _ _ _ _ _).2.2.2.1
   .first|exact(Gh w _ _ _ _ _).1|exact(Gh w _ _ _ _ _).2.1|exact(Gh w _ _ _ _ _).2.2.1|exact(Gh w _ _ _ _ _).2.2.2.1
   .first|exact(Gh w _ _ _ _ _).1|exact(Gh w _ _ _ _ _).2.1|exact(Gh w _ _ _ _ _).2.2.1|exact(Gh w _ _ _ _ _).2.2.2.1
   .refine⟨?_,?_,?_,?_,?_,?_,?_,?_,?_,?_⟩<;>omega
   .unfold bK;omega
 case rest=>
  obtain⟨g,l,m,n,k,rfl,a,S,b⟩:=hcut;obtain⟨f,d,z,ae⟩:=bY a b (z.below b z.lt) S;have ao:=a.lt;obtain⟨t1,t2,t3,t4,t5⟩:=ao;have K1:=qh (λB W h1 h2 h3 h4 h5=>fG g l m n k B be ce W h1 h2 h3 h4 h5);have H:be<w.heap.size:=aa.o;clear a b S;go_wp2_with fail;go_loopw [26] (λv wr=>∃i:Nat,v=AA (i:Int)/\Below w.heap.size w wr/\((i=0/\GW wr g l m n k (.slice (Ac be) 1 ce) AL 0 0 0 0 0 false)\/(i=1/\∃R,GW wr g l m n k (.slice (Ac be) 1 ce) R 1 1 1 1 0 false))) (λv _=>1 - (intOf v).toNat);case atStart=>exact⟨0,rfl,d.o,.inl ⟨rfl,f.o⟩⟩
  case round=>
   clear f d z;obtain⟨i,rfl,b,⟨rfl,a⟩|⟨rfl,R,a⟩⟩:=hrel
   .have i0:=a.hi.cell 0;have Y:=a.hg.cell 1;simp only[Jc,yA,yB] at i0 Y;obtain⟨d,f,E⟩:=bP b a (N.below b H);have J:=b.size;clear b a;go_wp2_with fail;refine(K1.out w.heap.size _ f.o E.o H J ae.o).mono ?_;rintro e w5 ⟨R,rfl,Q,t⟩;obtain⟨ad,D⟩:=WZ Q (d.trans t);clear Q t i0 Y;go_wp2_with fail;go_roundw;case rel=>exact⟨1,rfl,D.o,.inr ⟨rfl,R,ad.o⟩⟩
    case measure=>simp[intOf]
   .have m6:=a.hg.cell 6;simp only[Jc,yA,yB] at m6;have A:Below wr.heap.size wr (wr.alloc (.cells #[AL] 30)):=(Below.refl _ _).alloc Ve _;have u:=(a.below A).hg.cell 5;simp only[Jc,yA,yB] at u;obtain⟨d,f⟩:=WZ (b.trans (A.mono b.size)) (a.below A);have J:=b.size;obtain⟨p,O⟩:=WZ (AC wr 30 [AL]) (show g≠wr.heap.size/\l≠wr.heap.size/\m≠wr.heap.size/\n≠wr.heap.size/\k≠wr.heap.size from by have:=a.lt;omega);clear b a A;go_wp2_with fail;clear u m6;generalize wr.alloc (.cells #[AL] 30)=W at d f p |-;generalize wr.heap.size=q at J p O |-;go_loopw [51] (λv y=>∃i:Nat,v=AA (i:Int)/\Below w.heap.size w y/\GW y g l m n k (.slice (Ac be) 1 ce) R 1 1 1 1 0 false/\((i=0/\Holds y q 30 [AL]/\g≠q/\l≠q/\m≠q/\n≠q/\k≠q)\/(i=1/\∃b0 c0 L,Holds y q 30 [.slice (Ac b0) 1 c0]/\Holds y b0 3 (AA 0 :: L)/\w.heap.size<=b0/\1<=c0/\L.length+1=c0))) (λv _=>1 - (intOf v).toNat);case atStart=>exact⟨0,rfl,d.o,f.o,.inl ⟨rfl,p.o,O.o⟩⟩
    case round=>
     clear d f p;obtain⟨i,rfl,b,a,⟨rfl,r,q1,q2,q3,q4,q5⟩|⟨rfl,b0,c0,L,r,V,al,am,G⟩⟩:=hrel
     .obtain⟨d,f,p⟩:=bP b a r;have p0:=a.hp.cell 0;have n0:=r.cell 0;simp only[List.getElem?_cons_zero] at p0 n0;have K:=b.size;have av:=r.lt;clear b a r;go_wp2_with (first|(at_builtin;refine Ag rfl (.tmp 61) (.tmp 63) 30 rfl (wr.heap.size+1) 3 (AA 0) 1 8 rfl ND rfl Iz _ 0 [] rfl (World.ownsRow_nil _ _ _ _) (Ac wr.heap.size) 1 1 [AA 0] rfl rfl ((AC wr _ _).reads 0 _ (λj v hv=>by simpa using hv)) (by intro h;cases h) (by simp[Value.oneCell']) (by unfold maxLen;omega) BJ Vj ?_;intro v3 w3 T s _;have s:=((Below.refl wr.heap.size wr).alloc Ve (.cells #[AA 0] 3)).trans (s.mono (Nat.le_succ _));obtain⟨ah,M,ab,af⟩:=bY T s (f.below s) (AX p.o s);clear T s;obtain⟨P,c,L,rfl,ap,an,G,X⟩:=Qj ah.o;have F:=qh X;clear X)|(refine sC 0 af.o (.slice (Ac P) 1 c) ?_;intro w4 I C;simp only[List.set_cons_zero] at I;obtain⟨ac,ag,aj,HT⟩:=bY (ab.touch C q1 q2 q3 q4 q5) I (F.touch C BJ) C;clear I C));go_roundw;case rel=>
       repeat apply Exists.intro
       exact⟨⟨1,rfl,(d.trans (M.mono BJ)).trans (HT.below BJ (by have:=M.size;omega)),ac.o,.inr ⟨rfl,P,c,L,ag.o,aj.o,BJ,an,G⟩⟩,rfl⟩
      case measure=>simp[intOf]
     .have u:=a.hg.cell 5;simp only[Jc,yA,yB] at u;obtain⟨d,HP,p,F,E⟩:=dD b a.hp r V (N.below b H);have K:=b.size;clear b a r V;go_wp2_with fail;refine(Zy be ce k q b0 c0 _ E.o HP.o p.o).mono ?_;rintro e w5 ⟨Z,rfl,U,t⟩;obtain⟨ai,ak,D⟩:=bP (TN U K) (AX F.o t) (d.trans (t.mono K));clear U t u;go_wp2_with fail;exact b2 (v:=.tuple #[Z,AA 0]) ⟨Z,b0,c0,L,rfl,ai.o,ak.o,al,am,G,D.o⟩
def MS(w:World)(s b:Nat):Prop:=Holds w s 383 [.map (some b)]/\w.ownsMap prog 37 BZ b 0 (.map []:DataW Value)
theorem MS.below{w w':World}{s b:Nat}(h:MS w s b)(hb:Below w.heap.size w w'):MS w' s b:=by obtain⟨f,a⟩:=h;have g:=a.lt;obtain⟨d,c,i,r⟩:=a;exact⟨AX f hb,d,c,(hb.block b g).trans i,r⟩
section
variable [In]
def RD(me:Int)(r:Nat):Int:=if (r:Int)=me then max (In.ad r) (In.sl-1) else In.ad r
theorem jh(me:Int)(st:Int)(c:Cm)(sm:Bool)(r:Nat)(w:World)(hr:r<7) :Calls prog 309 #[.agg #[AA me,AA In.sl],.agg (cellL st c sm).toArray,AA r] w λe w'=>e=.returned (AA (RD me r))/\Below w.heap.size w w':=by
 have m:=In.hsl;have n:IntKind.i64.wrap (In.sl-1)=In.sl-1:=IntWalk.i64_in _ BJ;have l:(r:Int)<7:=BJ
 go_in;go_upto_region 1 with(fail);go_name_world W a;have f:=qh (show Holds W w.heap.size 37 [AA me,AA In.sl] by rw[<-a];exact Aw (AC w _ _) _);have h:=qh (show Holds W (w.heap.size+1) 45 (cellL st c sm) by
  rw[<-a];have:=AC (w.alloc (.cells #[AA me,AA In.sl] 37)) 45 (cellL st c sm);rw[World.size_alloc] at this;exact this)
 have d:=qh (show Below w.heap.size w W by rw[<-a];go_grown);clear a;have i:=f.cell 0;have j:=f.cell 1;have k:W.cell? ⟨w.heap.size+1,13+r,none⟩=some (AA (In.ad r)):=by rw[h.cell];rcases(show r=0\/r=1\/r=2\/r=3\/r=4\/r=5\/r=6 by omega) with rfl|rfl|rfl|rfl|rfl|rfl|rfl<;>rfl
 simp only[yA,yB] at i j;by_cases g:(r:Int)=me
 .subst g;have b:RD (r:Int) r=max (In.ad r) (In.sl-1):=if_pos rfl;go_wp2_with fail;go_quiet (fail);go_wp2_with fail;go_ret;exact⟨by rw[b];rfl,d.trans ⟨rfl,rfl,rfl,Ve,λ_ _=>rfl⟩⟩
 .have hm2:((r:Int)==me)=false:=by simp;omega
  have b:RD me r=In.ad r:=if_neg g;go_wp2_with fail;go_ret;exact⟨by rw[b];rfl,d.o⟩
end
section
variable [In]
theorem Xt(me:Int)(w:World)(hme:(Lit.int .i64 me).wf=true)(bl:Nat)(hb:Holds w bl 37 [AA me,AA In.sl]) :Calls prog 273 #[.slice (Ac bl) 1 1] w λe w'=>∃s,e=.returned (AP s)/\Below w.heap.size w w':=by
 have G:=@run_makeMap prog;obtain⟨m,x⟩:=WZ hb (DX me In.sl hme RF);clear hb;go_in;go_wp2_with fail;have c:=qh (show MS ((w.alloc (.map #[] 0)).alloc (.cells #[.map (some w.heap.size)] 383)) (w.heap.size+1) w.heap.size from⟨by
  have:=AC (w.alloc (.map #[] 0)) 383 [.map (some w.heap.size)];rw[World.size_alloc] at this;exact this,(World.ownsMap_made w prog 37 BZ).alloc _⟩)
 have a:=qh (show Below w.heap.size w ((w.alloc (.map #[] 0)).alloc (.cells #[.map (some w.heap.size)] 383)) from by
  have f:Below w.heap.size w (w.alloc (.map #[] 0)):=(Below.refl _ _).alloc Ve _;exact f.alloc f.size _)
 generalize (w.alloc (.map #[] 0)).alloc (.cells #[.map (some w.heap.size)] 383)=W at c a |-;have t:w.heap.size<=w.heap.size+1:=Nat.le_succ _;generalize H:w.heap.size+1=s at c t |-;generalize k:w.heap.size=b at c a t |-;go_loopw [11] (λE wr=>∃i:Nat,E=AA (i:Int)/\Below b w wr/\((i=0/\MS wr s b/\Holds wr bl 37 [AA me,AA In.sl])\/i=1)) (λv _=>1 - (intOf v).toNat);case atStart=>exact⟨0,rfl,a.o,.inl ⟨rfl,c.o,m.below a.o (k▸m.lt)⟩⟩
 case round=>
  clear c a;obtain⟨i,rfl,hb,⟨rfl,l,r⟩|rfl⟩:=hrel
  .obtain⟨a,c,HL⟩:=bP hb l r;have I:=hb.size;have F:b<wr.heap.size:=l.2.lt;clear hb l r;obtain⟨A,C⟩:=Cf HL.o 0 1;go_upto_region 5 with(fail);go_name_world V h;have d:=qh (show Holds V wr.heap.size 37 [AA me,AA In.sl] by rw[<-h];exact AC wr _ _);have j:Below wr.heap.size wr V:=by rw[<-h];go_grown
   obtain⟨c,a⟩:=WZ (c.below j) (a.trans (j.mono BJ));clear h j A C;obtain⟨c,d,a⟩:=bP (c.below (AY _ _)) (show Holds V.drew wr.heap.size 37 _ from d.o) (a.trans (AY _ _));refine Ed [6] 7 (λhSn=>?_);generalize V.drew=L at d c a hSn |-;simp only[List.replicate];refine ES 0 ?_;refine JL 3 [6] (some 18) (?vg4) rfl (Or.inl ⟨by rfl,?hg4⟩) hSn ?rg4;case hg4=>
    intro w g;have D:=(c.below g).1.cell 0;simp only[List.getElem?_cons_zero] at D;go_simp;try with_reducible rfl
   simp only[Act.put,zA,zB,zC];refine BO 4 [6] (λw g=>Cf (AX d.o g) 0 1) ?_;refine CW 5 ?_;refine BN 6 rfl (λK p=>?_);obtain⟨f,z⟩:=c.o;refine E9 rfl (.tmp 18) (.tmp 19) (.tmp 20) 381 rfl 37 409 CV underlying381 BZ b 0 (.map []) rfl z (by unfold maxLen;omega) _ _ _ rfl rfl x.o _ [] rfl ?_;intro J y q;have n:=qh (BM q);clear q y;refine BR p ?_;clear p;refine BA ?_;have u:=qh (a.trans (n.below (B:=b) BJ (k▸a.size)));clear n a d c;go_wp2_with fail;go_roundw;case rel=>exact⟨1,rfl,u.o,.inr rfl⟩
   case measure=>simp[intOf]
  .have a:=qh hb;clear hb;go_wp2_with fail;go_ret;exact⟨_,rfl,k▸a.o⟩
end
section
variable [In]
structure BL(w:World)(g b n:Nat)(d:Nat->Int)(O:Value)(l:List A7):Prop where
 ix:Holds w g 327 (DT d++[.map (some b),O])
 map:∃D,w.ownsMap prog 37 BZ b n D/\GL D l
 good:Jh l
 rows:∀e∈l,e.L.length=21/\e.L.toArray.all (·.oneCell')=true
theorem BL.wf{w:World}{g b n:Nat}{d:Nat->Int}{O:Value}{l:List A7}(h:BL w g b n d O l):RX l:=h.good.wf
theorem BL.keep{w w':World}{g b n:Nat}{d:Nat->Int}{O:Value}{l:List A7}(h:BL w g b n d O l)(hg:w'.heap[g]?=w.heap[g]?)(hb:w'.heap[b]?=w.heap[b]?):BL w' g b n d O l:=by obtain⟨D,⟨c,a,i,r⟩,f⟩:=h.map;exact⟨by have:=h.ix;unfold Holds at *;rw[hg];exact this,⟨D,⟨c,a,hb.trans i,r⟩,f⟩,h.good,h.rows⟩
theorem BL.lt{w:World}{g b n:Nat}{d:Nat->Int}{O:Value}{l:List A7}(h:BL w g b n d O l):g<w.heap.size/\b<w.heap.size:=by obtain⟨D,a,_⟩:=h.map;exact⟨h.ix.lt,a.lt⟩
theorem BL.below{w w':World}{g b n:Nat}{d:Nat->Int}{O:Value}{l:List A7}(h:BL w g b n d O l)(hb:Below w.heap.size w w'):BL w' g b n d O l:=h.keep (hb.block g h.lt.1) (hb.block b h.lt.2)
theorem BL.touch{w w':World}{g b n k:Nat}{d:Nat->Int}{O:Value}{l:List A7}(h:BL w g b n d O l)(ht:Touch k w w')(h1:g≠k)(h2:b≠k):BL w' g b n d O l:=h.keep (ht.block g h.lt.1 h1) (ht.block b h.lt.2 h2)
theorem BL.ne{w:World}{g b n:Nat}{d:Nat->Int}{O:Value}{l:List A7}(h:BL w g b n d O l):g≠b:=by obtain⟨D,⟨f,c,a,_⟩,_⟩:=h.map;intro e;have:=h.ix;unfold Holds at this;rw[e,a] at this;cases this
theorem BL.set{w w':World}{g b n:Nat}{d d':Nat->Int}{O O':Value}{l:List A7}(h:BL w g b n d O l)(hh:Holds w' g 327 (DT d'++[.map (some b),O']))(ht:Touch g w w'):BL w' g b n d' O' l:=by obtain⟨D,⟨c,a,i,r⟩,f⟩:=h.map;exact⟨hh,⟨D,⟨c,a,(ht.block b h.lt.2 (Ne.symm h.ne)).trans i,r⟩,f⟩,h.good,h.rows⟩
theorem BL.look{w:World}{g b n:Nat}{d:Nat->Int}{O:Value}{l:List A7}(h:BL w g b n d O l)(r s:Int)(hr:(Lit.int .i64 r).wf=true)(hs:(Lit.int .i64 s).wf=true) :∃v:List Value,v.length=21/\v.toArray.all (·.oneCell')=true/\(∀e∈l,e.r=r->e.s=s->v=e.L) /\(∀W,Below w.heap.size w W->(Instr.lookup 246 (.map (some b)) (.agg #[AA r,AA s]) true).run prog W=.ok (.tuple #[.agg v.toArray,.bool (Et l r s)]) W) /\(∀W,Below w.heap.size w W->(Instr.lookup 246 (.map (some b)) (.agg #[AA r,AA s]) false).run prog W=.ok (.agg v.toArray) W):=by
 have H:∀W,(zeroValue 45).run prog W=.ok (.agg zero21.toArray) W:=λW=>OO W ND;obtain⟨D,S,u⟩:=h.map;have F:=DX r s hr hs;have t:=u.JU h.wf r s hr hs;have N:∃v:List Value,v.length=21/\v.toArray.all (·.oneCell')=true/\(∀e∈l,e.r=r->e.s=s->v=e.L)/\D.atKey (Ia r s) (.held (.agg zero21.toArray))=.held (.agg v.toArray):=by
  cases o:Maps.has D (Ia r s)
  .refine⟨zero21,rfl,by simp[zero21,Value.oneCell'],λe m f k=>?_,Maps.atKey_of_not_has o _⟩;rw[t] at o;have:=List.any_eq_false.1 o e m;simp[f,k] at this
  .rw[t] at o;obtain⟨e,m,c⟩:=List.any_eq_true.1 o;simp only[Bool.and_eq_true,beq_iff_eq] at c;refine⟨e.L,(h.rows e m).1,(h.rows e m).2,λI M f k=>?_,?_⟩
   .have hp:=u.apart;by_cases B:e=I
    .rw[B]
    .exfalso;obtain⟨i,C,rfl⟩:=List.getElem_of_mem m;obtain⟨j,E,rfl⟩:=List.getElem_of_mem M;have Q:i≠j:=λK=>B (by subst K;rfl);rw[List.pairwise_iff_getElem] at hp;rcases Nat.lt_or_gt_of_ne Q with R|P
     .exact hp i j C E R ⟨c.1.trans f.symm,c.2.trans k.symm⟩
     .exact hp j i E C P ⟨f.trans c.1.symm,k.trans c.2.symm⟩
   .have:=u.at_ e m (.held (.agg zero21.toArray));rw[A7.key,c.1,c.2] at this;exact this
 obtain⟨v,f,k,J,z⟩:=N;obtain⟨y,x,A,G⟩:=S;refine⟨v,f,k,J,λW q=>?_,λW q=>?_⟩
 .have hmW:W.ownsMap prog 37 BZ b n D:=⟨y,x,(q.block b h.lt.2).trans A,G⟩;obtain⟨U,T,p,a⟩:=hmW.look_ok CV underlying246 (H W) (zd:=.held (.agg zero21.toArray)) (zp:=[]) rfl F;rw[z] at a;unfold BZ at a;injection a with a;injection a with a _;injection a with a;rw[a,t] at p;exact p
 .have hmW:W.ownsMap prog 37 BZ b n D:=⟨y,x,(q.block b h.lt.2).trans A,G⟩;obtain⟨U,T,p,a⟩:=hmW.lookup CV underlying246 (H W) (zd:=.held (.agg zero21.toArray)) (zp:=[]) rfl F;rw[z] at a;unfold BZ at a;injection a with a;injection a with a _;injection a with a;rw[a] at p;exact p
end
end Go.Proofs.YtimdpiifpibgfaaGreatDoor
