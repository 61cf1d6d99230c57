/- A part of the proof of TopReads. -/
import Derived.Test.YtimdpiifpibgfaaGreatDoorQr36
set_option linter.all false
set_option maxRecDepth 20000
set_option maxHeartbeats 16000000
open Go.RowKit Go.Maps
namespace Go.Proofs.YtimdpiifpibgfaaGreatDoor
open Tryz
def kM(kl:List Kn)(d:Nat->Int)(g b n s b2:Nat)(obO:Option Nat)(mk:Nat)(xs:List Value)(w:World)(j:Nat)(vd:Value)(wr:World):Prop:=
 ∃O ob,BL wr g b n (Aj kl d j).d O (kl.map Kn.IW)/\AV wr O ob 267 23 (mk+(Aj kl d j).ks.length) (xs++Ht (Aj kl d j).ks)/\(ob=obO\/∃k,ob=some k/\w.heap.size<=k)/\EU wr s b2 (Aj kl d j).ms.length ((Aj kl d j).ms.map Um)/\vd=.bool (!(Aj kl d j).ks.isEmpty)/\(w.heap.size<=s/\w.heap.size<=b2)/\Mv (λk=>k=g\/obO=some k) w wr
def Oa(kl:List Kn)(d:Nat->Int)(g b n:Nat)(obO:Option Nat)(mk:Nat)(xs:List Value)(w:World)(e:Ending)(w':World):Prop:=
 ∃s b2 O ob,e=.returned (.tuple #[.bool (!(Aj kl d 7).ks.isEmpty),AP s])/\BL w' g b n (Aj kl d 7).d O (kl.map Kn.IW)/\AV w' O ob 267 23 (mk+(Aj kl d 7).ks.length) (xs++Ht (Aj kl d 7).ks)/\(ob=obO\/∃k,ob=some k/\w.heap.size<=k)/\EU w' s b2 (Aj kl d 7).ms.length ((Aj kl d 7).ms.map Um)/\(w.heap.size<=s/\w.heap.size<=b2)/\Mv (λk=>k=g\/obO=some k) w w'
theorem aI[In](w:World) :Calls prog 273 #[AL] w λe w'=>∃s b,e=.returned (AP s)/\EU w' s b 0 []/\Below w.heap.size w w'/\w.heap.size<=s/\w.heap.size<=b:=by
 have g:=@run_makeMap prog;go_in;go_wp2_with fail;have c:=qh (show MS ((w.alloc (.map #[] 0)).alloc (.cells #[.map (some w.heap.size)] 383)) (w.heap.size+1) w.heap.size from⟨by
  have:=AC (w.alloc (.map #[] 0)) 383 [.map (some w.heap.size)];rw[World.size_alloc] at this;exact this,(World.ownsMap_made w prog 37 BZ).alloc _⟩)
 have a:=qh (show Below w.heap.size w ((w.alloc (.map #[] 0)).alloc (.cells #[.map (some w.heap.size)] 383)) from by
  have d:Below w.heap.size w (w.alloc (.map #[] 0)):=(Below.refl _ _).alloc Ve _;exact d.alloc d.size _)
 generalize (w.alloc (.map #[] 0)).alloc (.cells #[.map (some w.heap.size)] 383)=W at c a |-;go_loopw [11] (λf wr=>f=AA 0/\wr=W) (λ_ _=>0);case atStart=>exact⟨rfl,rfl⟩
 case round=>obtain⟨rfl,rfl⟩:=hrel;go_wp2_with fail;go_ret;exact⟨_,_,rfl,EU.of_none c.o,a.o,Nat.le_succ _,Ve⟩
theorem AV.ik[In]{w:World}{v:Value}{ob:Option Nat}{e:TypeId}{k n:Nat}{xs:List Value}{s b nn:Nat}{l:List A7}(h:AV w v ob e k n xs)(hs:EU w s b nn l)(he:e≠383):∀g,ob=some g->g≠s/\g≠b:=λg a=>by
 refine⟨AV.ne_of h hs.ix he g a,λe=>?_⟩;obtain⟨D,⟨j,i,f,_⟩,_⟩:=hs.map;rcases h.cases with⟨_,c,_⟩|⟨m,_,_,_,c,_,_,d,_⟩
 .rw[c] at a;cases a
 .rw[c] at a;cases a;unfold Holds at d;rw[e,f] at d;cases d
theorem aG(g b n mk:Nat)(kl:List Kn)(d:Nat->Int)(O:Value)(obO:Option Nat)(xs:List Value)(w:World)(h:BL w g b n d O (kl.map Kn.IW))(ho:AV w O obO 267 23 mk xs)(hmk:mk<=900)(hkl:Tt kl d)(hd:∀r,r<7->0<=d r/\d r<=1000) :Calls prog 222 #[AP g] w (Oa kl d g b n obO mk xs w):=by
 letI:In:=⟨1,0,λ_=>0,Iz,Iz,λ_=>Iz⟩
 obtain⟨KN,KB,KH,KD,KA,bg,b5,a⟩:=ed aI (λbb d O (q:Nat) t W (h:BL W g b n d O (kl.map Kn.IW)) bq=>Wv bb g b n d O (kl.map Kn.IW) q t W h bq) (λ(k:Kn) (d:Nat->Int) (O:Value) (W:World) h y F (G:k.m<7)=>@ZY k.I g b n O (kl.map Kn.IW) k.m k.c W d h y F (WalkArith.wf_i64 BJ)) (λ(k:Kn) (d:Nat->Int) (O:Value) (ob:Option Nat) (b4 bl:Nat) (ys:List Value) (W:World) T y F G h5 h6 h7=>@sD k.I g b n bl 1 b4 (kl.map Kn.IW) k.m k.c d O ob ys W T y F G h5 h6 h7) (λ(s b2 nn:Nat) (l:List A7) (r t:Int) (W:World) h T y F G=>uS s b2 nn l r t W h T y F G) hkl hd h;have f:=qh ho;have cf:=h.lt;have cg:=h.ne;have b0:∀k,obO=some k->k<w.heap.size:=ho.lt;have a7:=h.good.wf;have b6:=qh a7;have a2:∀(j r:Nat),r<7->d r<=(Aj kl d j).d r/\(Aj kl d j).d r<=1000/\0<=d r:=λj r hr=>by
  obtain⟨T,y⟩:=hd r hr;obtain⟨_,F,G⟩:=Uk (kl:=kl) (d:=d) j r;refine⟨F,?_,T⟩;rcases G with G|⟨k,_,_,h5⟩
  .omega
  .have:=k.I.hsl;omega
 obtain⟨be,p⟩:=WZ a2 (Mv.refl (λk=>k=g\/obO=some k) w);clear h ho hd hkl a7 a2;generalize hQ:Oa kl d g b n obO mk xs w=Q;have HQ:=qh (show ∀e w',Oa kl d g b n obO mk xs w e w'->Q e w' from λe w' h=>hQ▸h);clear hQ;go_in;go_wp2_with fail;refine(KN.o _).mono ?_;rintro e w1 ⟨s,b2,rfl,hs,B,a8,a9⟩;have bk:=qh (And.intro a8 a9);obtain⟨a,f,p⟩:=D5 B a f p;have i:=qh hs;clear hs B a8 a9;go_wp2_with fail;go_loopw [13,4] (λvi vd wr=>∃j:Nat,vi=AA (j:Int)/\j<=7/\kM kl d g b n s b2 obO mk xs w j vd wr) (λvi _ _=>7 - (intOf vi).toNat);case atStart=>exact⟨0,rfl,BJ,O,obO,a.o,by simpa[Aj,Ht] using f.o,.inl rfl,i.o,rfl,bk.o,p.o⟩
 case round=>
  clear a f i p;obtain⟨j,rfl,hj,E,ab,P,ho,a5,hs,rfl,aa,ht⟩:=hrel;obtain⟨a,f,i,p,L⟩:=dD P ho hs ht a5;have bp:=ht.size;have bw:=O3 (kl:=kl) (d:=d) j;obtain⟨al,HR,ai⟩:=bP (Qp (kl:=kl) (d:=d) j) (show Aj kl d (j+1)=Il kl (Aj kl d j) j from rfl) (be.o j);clear P ho hs ht a5;obtain⟨bx,bz⟩:=bw;by_cases bu:j=7
  .subst bu;clear KN KB KH KD KA;go_wp2_with fail;exact HQ.o _ _ ⟨s,b2,E,ab,rfl,a.o,f.o,L.o,i.o,aa,p.o⟩
  .have hj6:j<7:=BJ
   generalize b7:Aj kl d j=rs at a f i al HR ai bx bz |-;obtain⟨b9,ca,cb⟩:=ai.o j hj6;have bj:=qh (a.vS j hj6);obtain⟨dj0,ap⟩:∃dj0,dj0=rs.d j:=⟨_,rfl⟩;have cd:0<=dj0:=BJ
   have cc:dj0<=1000:=BJ
   have ce:IntKind.i64.wrap (dj0+1)=dj0+1:=IntWalk.i64_in _ BJ;obtain⟨v,bc,bd,b1,au,_⟩:=a.look j (dj0+1) (WalkArith.wf_i64 BJ) (WalkArith.wf_i64 BJ);obtain⟨B,aq⟩:∃B,B=Et (kl.map Kn.IW) j (dj0+1):=⟨_,rfl⟩;rw[<-aq] at au;obtain⟨z,bo,ax⟩:=bP (show Tq wr (λW=>(Instr.lookup 246 (.map (some b)) (.agg #[AA j,AA (dj0+1)]) true).run prog W=.ok (.tuple #[.agg v.toArray,.bool B]) W) from au) bd aq;clear au bd b1 aq;have dj:wr.cell? ⟨g,j,none⟩=some (AA dj0):=by rw[ap];exact bj.o
   have S:=qh ap;clear ap;have bv:(j:Int)<7:=BJ
   go_upto_region 6 with(fail);go_name_world V M;have M:Bo wr [.cells ([AA j,AA (dj0+1)]:List Value).toArray 37]=V:=M;have x:=qh (show Holds V (wr.heap.size) 37 ([AA j,AA (dj0+1)]) from Ae _ M 0 rfl);have a0:=Aq _ M;have ba:=Bd _ M;simp only[List.length_cons,List.length_nil] at ba;clear M;obtain⟨a,f,i,p,z⟩:=Gj a0 a f i p z;have b3:wr.heap.size<V.heap.size:=x.lt;clear a0 ba dj bv;generalize ci:wr.heap.size=gx at x b3 bp |-;obtain⟨a,f,i,p,x,z⟩:=Ef (AY _ V) a f i p x z;refine Ed [] 12 (λhSn=>?_);generalize V.drew=wd at a f i p x z hSn |-;simp only[List.replicate];refine ES 0 ?_;refine BO 3 [] (λw X=>Am ((a.bel X).ix) 7) ?_;refine BO 4 [] (λw X=>Cf (x.bel X) 0 1) ?_;refine BO 5 [] (λw X=>z.o w X) ?_;refine ES 6 ?_;refine BN 9 rfl (λK U=>?_);go_simp;have am:=λo=>Below.alloc hSn hSn.size o;refine U.out _ _ (λ_=>am _) ?_;have hSn:=am (.cells zero21.toArray 45);have ah:=qh (show Holds (wd.alloc (.cells zero21.toArray 45)) wd.heap.size 45 zero21 from AC wd _ _);clear am;change wpAnyL _ _ _ _ _ _ _ _ _ (wd.alloc (.cells zero21.toArray 45));generalize wd.alloc (.cells zero21.toArray 45)=wa at hSn ah |-;clear U;try simp only[Act.put,zA,zB,zC]
   refine BN 10 rfl (λK U=>?_);refine tB v ah.o ?_ bo.o (hi:=by rw[bc];kernel_rfl) (hl:=by rw[bc];rfl);intro wb bt J;have hSn:=hSn.trans (J.below Ve hSn.size);clear bt J;refine BR U ?_;clear U;refine CW 11 ?_;refine BA ?_;obtain⟨a,f,i,p,x,z⟩:=Ef hSn a f i p x z;clear hSn;clear ah z;obtain⟨x0,x1⟩:=Cf x.o 0 1;cases H:I7 kl rs.d j with
   | none=>
    have an:B=false:=by rw[ax.o,S.o];exact oH H
    subst an;have Z:Aj kl d (j+1)=if PU kl rs.d j then ⟨rs.d,rs.ks,rs.ms++[(j,rs.d j+1)]⟩ else rs:=by rw[HR.o];unfold Il;rw[H]
    have D:=qh Z;clear Z H;go_wp2_with fail;refine Ah (KB.o (PU kl rs.d j) _ _ j (dj0+1) _ a.o (by rw[S.o];exact kU kl rs.d j)) ?_;rintro w5 C;obtain⟨a,f,i,p,x⟩:=Gj C a f i p x;clear C x0 x1;cases ad:PU kl rs.d j with
    | false=>
     have Y:Aj kl d (j+1)=rs:=by rw[D.o,ad];rfl
     have A:=qh Y;clear Y ad;go_wp2_with fail;go_roundw;case rel=>exact⟨j+1,Vj,BJ,E,ab,by rw[A.o];exact a.o,by rw[A.o];exact f.o,L.o,by rw[A.o];exact i.o,by rw[A.o],aa,p.o⟩
     case measure=>simp[intOf];omega
    | true=>
     have Y:Aj kl d (j+1)=⟨rs.d,rs.ks,rs.ms++[(j,rs.d j+1)]⟩:=by rw[D.o,ad];rfl
     have A:=qh Y;clear Y ad;obtain⟨x0,x1⟩:=Cf x.o 0 1;have aw:=i.lt;go_wp2_with fail;refine Ah (KA.o s b2 rs.ms.length (rs.ms.map Um) j (dj0+1) _ i.o BJ (fK al.o) (WalkArith.wf_i64 BJ) (WalkArith.wf_i64 BJ)) ?_;rintro w6 ⟨av,J⟩;rw[mi al.o] at av;have ao:∀k,(k=g\/k=b)->k≠b2:=λk u=>by rcases u with rfl|rfl<;>omega
     have a:=qh (a.touch J (ao g (.inl rfl)) (ao b (.inr rfl)));have f:=qh (f.touch J (λk u=>by
      rcases L.o with h|⟨k2,h,y⟩
      .have:=b0 k (h▸u);omega
      .exact(AV.ik f.o i.o Iz k u).2))
     obtain⟨p,i⟩:=WZ (p.touch J (.inr aa.2)) av;clear av J x0 x1 x ao;go_wp2_with fail;go_roundw;case rel=>exact⟨j+1,Vj,BJ,E,ab,by rw[A.o];exact a.o,by rw[A.o];exact f.o,L.o,by rw[A.o,S.symm,List.length_append];exact i.o,by rw[A.o],aa,p.o⟩
     case measure=>simp[intOf];omega
   | some k=>
    obtain⟨a4,N,ae⟩:=Ju H;have an:B=true:=by rw[ax.o,S.o];exact jS H
    subst an;have Z:Aj kl d (j+1)=⟨stepD rs.d j,rs.ks++[k],rs.ms⟩:=by rw[HR.o];unfold Il;rw[H]
    have D:=qh Z;have ar:(⟨(k.m:Int),k.I.sl,@cellL k.I 3 k.c false⟩:A7)∈kl.map Kn.IW:=List.mem_map.2 ⟨k,a4,rfl⟩;have a3:@doneD k.I rs.d k.m=stepD rs.d j:=by
     funext r
     show (if r=k.m then k.I.sl else rs.d r)=if r=j then rs.d j+1 else rs.d r;rw[N,ae]
    obtain⟨ak,aj,bf⟩:=bP (λW (h:BL W g b n rs.d E (kl.map Kn.IW))=>KH.o k rs.d E W h (bg.upto ai.o a4 (by rw[ae,N])) ar BJ) (λbl W (h:BL W g b n rs.d E (kl.map Kn.IW)) ho bs=>KD.o k rs.d E ab (mk+rs.ks.length) bl (xs++Ht rs.ks) W (by rw[ae,N];omega) h ho BJ ar BJ bs) a3;rw[N,ae,<-S.o] at ak aj;clear Z H ar a3 KH KD KA KB;go_wp2_with fail;refine(ak.o _ a.o).mono ?_;rintro e w5 ⟨br,rfl,a1,b8,C⟩;obtain⟨a,f,i,p⟩:=En C a f i p;have ac:=qh a1;clear C x0 x1 x a1 ak;go_upto_region 11 with(fail);go_name_world V5 az;have C:Below w5.heap.size w5 V5:=by rw[<-az];go_grown
    obtain⟨a,f,i,p,ac⟩:=Gj C a f i p ac;clear az C;have aw:=i.lt;go_wp2_with fail;refine Ah (aj.o br _ a.o f.o ac.o) ?_;rintro w6 ⟨R,ag,P,ho,a6,af⟩;have hF:∀k,(k=g\/ab=some k)->k≠s/\k≠b2:=λk u=>by
     rcases u with rfl|u
     .exact⟨BJ,BJ⟩
     .exact AV.ik f.o i.o Iz k u
    rw[<-N,bf.o] at P;have ch:=p.size;have bn:=qh (p.mv af (λk u=>by
     rcases u with u|u
     .exact .inl (.inl u)
     .rcases L.o with h|⟨k2,h,y⟩
      .exact .inl (.inr (h▸u))
      .rw[h] at u;cases u;exact .inr y))
    have bh:=qh (show ag=obO\/∃k,ag=some k/\w.heap.size<=k from by
     rcases a6 with h|⟨k2,h,y⟩
     .rw[h];exact L.o
     .exact .inr ⟨k2,h,BJ⟩)
    obtain⟨bm,bi,ay⟩:=bP (show EU w6 s b2 rs.ms.length (rs.ms.map Um) from i.keep (af.block s aw.1 λhf=>(hF s hf).1 rfl) (af.block b2 aw.2 λhf=>(hF b2 hf).2 rfl)) P ho;clear P ho a6 af a f i p ac hF aj;go_wp2_with fail;go_roundw;case rel=>exact⟨j+1,Vj,BJ,R,ag,by rw[D.o];exact bi.o,by rw[D.o];show AV w6 R ag _ 23 (mk+(rs.ks++[k]).length) (xs++Ht (rs.ks++[k]));rw[Sr,List.length_append,<-List.append_assoc];rw[<-N] at ay;exact ay.o,bh.o,by rw[D.o];exact bm.o,by rw[D.o];simp,aa,bn.o⟩
    case measure=>simp[intOf];omega
section
open Go.RowKit Go.Maps Go.Sort
variable [In]
section
open Go.RowKit Go.Sort
theorem rV(x y:Int × Int)(W:World):Calls prog 278 #[.agg #[AA x.1,AA x.2],.agg #[AA y.1,AA y.2]] W λe w'=>e=.returned (AA (dK x y))/\∃q os',w'=Go.Sort.grow (W.drewN q) os':=by
 have K:=qh (λW=>Xa x y W);unfold dK;generalize Ec x y=b at K;cases b;all_goals
  go_in;go_wp2_with fail;refine Ah (K.out _) ?_;rintro c ⟨q,a,rfl⟩;go_wp2_with fail;go_ret;exact⟨rfl,q,_,by rw[Go.Sort.alloc_eq_grow,Go.Sort.alloc_eq_grow,Go.Sort.grow_grow];rw[show ∀(a:Array Obj) q,(Go.Sort.grow W a).drewN q=Go.Sort.grow (W.drewN q) a from λ_ _=>rfl,Go.Sort.grow_grow]⟩
theorem dQ(blk off size:Nat)(w:World):CmpLays prog 278 #[] encI 2 dK blk off size w:=λ_ _ _ _ x y=>rV x y _
theorem Xv(g cap:Nat)(P:List (Int × Int))(w:World)(h:AV w (.slice (Ac g) P.length cap) (some g) 37 2 P.length (insL P))(hl:P.length<=100000) :Calls prog 149 #[.slice (Ac g) P.length cap,.func (.func 278) #[] #[]] w λe w'=>e=.returned (.tuple #[])/\∃P',P'.Perm P/\AV w' (.slice (Ac g) P.length cap) (some g) 37 2 P.length (insL P')/\Touch g w w':=by
 obtain⟨f,c,d,b,z,u,y,i,l⟩:∃f c d,(Value.slice (Ac g) P.length cap)=.slice (Ac f) P.length c/\some g=some f/\P.length<=c/\c<=maxLen/\Go.Proofs.YtimdpiifpibgfaaGreatDoor.Holds w f 37 (insL P++d)/\(insL P++d).length=c*2:=by
  rcases h.cases with⟨b,_⟩|h
  .cases b
  .exact h
 cases z;injection b with _ _ b;subst b;have r:∀j w,(callFunc 278 j).run prog w=.ok (.enter 278 j) w:=enters_of func278 ND rfl;have k:=AnyQ.slices_SortFunc qc 2 isAgg37 sizeOf37 encI (λ_=>rfl) (λx v b=>by simp[encI] at b;rcases b with rfl|rfl<;>rfl) dK wX 278 #[] g 0 cap P.toArray w r (dQ g 0 _ w) (Sj i) i.lt (by simp;omega);rw[show P.toArray.size=P.length by simp] at k;refine Calls.mono (show Calls prog 149 _ _ _ from k) ?_;rintro e w' ⟨rfl,a,n,C,A,_,rfl⟩;obtain⟨o,_,m⟩:=A;refine⟨rfl,a.toList,?_,?_⟩
 .have e1:(a.extract 0 P.length).toList=a.toList:=by rw[show P.length=a.size by rw[o];simp,Array.extract_size]
  have p:(P.toArray.extract 0 P.length).toList=P:=Vj
  rw[e1,p] at m;exact m
 .have hd:a.toList.length=P.length:=by rw[Array.length_toList,o];simp
  have B:Go.Proofs.YtimdpiifpibgfaaGreatDoor.Holds (Go.Sort.ahead w n) g 37 (insL P++d):=i;have s:=OL (M:=insL a.toList) B (by rw[D6,D6,hd]);have q:flatK encI 2 a=(insL a.toList).toArray:=by have:=Om a.toList;rw[<-this]
  have t:Go.Proofs.YtimdpiifpibgfaaGreatDoor.Holds (sortWorldK encI 2 w g 0 n a C) g 37 (insL a.toList++d):=by unfold sortWorldK putRowK;rw[q];exact s.bel (IY _ _)
  refine⟨AV.mk' t (by rw[D6,hd]) (by rw[List.length_append,D6,hd];rw[List.length_append,D6] at l;exact l) u y,?_⟩;unfold sortWorldK putRowK;exact((⟨rfl,rfl,rfl,Ve,λ_ _ _=>rfl⟩:Touch g w (Go.Sort.ahead w n)).trans (OM _ _ _)).trans (Touch.of_below (IY _ _))
end
theorem WJ(g b n:Nat)(l:List A7)(w:World)(h:EU w g b n l)(hl1:l.length<=1000) :Calls prog 223 #[.pointer (some ⟨g,0,none⟩)] w λe w'=>∃v,e=.returned v/\Listed l w.heap.size w' v/\Below w.heap.size w w':=by
 have HI:=qh h;obtain⟨D,hown,hl⟩:=h.map;have m0:=h.ix.cell 0;simp only[List.getElem?_cons_zero] at m0;have HL:=qh hl;have KS:=qh (λp c fv W=>Qy p 0 c fv W (by omega));have KT:=qh (λg cap P W h hl=>Xv g cap P W h hl);clear h hl;go_in;go_wp2_with (first|(at_range;refine wpList_range_own _ rfl _ 381 rfl 37 409 CV underlying381 BZ b n D rfl hown ?_;intro w0 hrg0 hg0 hs0)|fail)
 go_frame
 have HB0:=qh (show Below w.heap.size w w0 from⟨hg0.os,hg0.tape,hg0.output,hg0.size,λk hk=>hg0.block k hk (by simp)⟩);have HRG:=qh hrg0;have HSZ:=qh (show w.heap.size+1<=w0.heap.size by omega);clear hrg0 hg0 hs0 hown m0;have HBL:=qh HI.lt.2;go_loopw [3] (λvo wr=>∃(left:Lit->Bool) (cnt m:Nat) (P:List (Int × Int)) (p:Option Addr) (c:Nat),vo=.slice p m c/\wr.ranges prog 37 BZ b w.heap.size n D left cnt/\Below w.heap.size w wr/\wr.ownsRow (w.heap.size+1) 37 2 (.slice p m c) m (insL P)/\(m=P.length/\OZ l left P)/\w.heap.size+1<=wr.heap.size) (λ_ wr=>wr.rangeLeft b w.heap.size);case atStart=>exact⟨_,_,0,[],none,0,rfl,HRG.o,HB0.o,World.ownsRow_nil _ _ _ _,⟨rfl,OZ.start λe he=>Maps.has_true_of_atKey (HL.at_ e he)⟩,HSZ.o⟩
 case round=>
  clear HRG HB0 HSZ;obtain⟨left,cnt,m,P,p,c,rfl,hrg,hbel,ho,⟨hmP,hcoll⟩,hsz⟩:=hrel;have HB:=qh hbel;have HO:=qh ho;have HC:=qh hcoll;have HMP:=qh hmP;have HSZ:=qh hsz;clear hbel ho hcoll hmP hsz;go_wp2_with (first|(at_next;refine wpList_next_ranges _ rfl _ rfl 37 CV BZ (λp:Int × Int=>Dz p.1 p.2) (λv:Value=>v) (λkey kl hk=>by obtain⟨r,s,rfl,_⟩:=Jo hk;exact⟨(r,s),rfl⟩) (λv y _=>⟨v,rfl⟩) b w.heap.size n D _ _ rfl hrg ?_ ?_)|fail)
  .intro hc0 hl0;have HK:=qh (HC.done hl0);have hPl:=HC.len;have hmp:=HMP.o;clear hrg hl0 hc0 HC HMP;by_cases hm0:m=0
   .subst hm0;have hP0:P=[]:=List.eq_nil_of_length_eq_zero hmp.symm;subst hP0;clear hmp;go_wp2_with fail;refine Ah (KS.o p c _ _) ?_;rintro w5 hb5;have HO:=qh (DK HO.o hb5);have HB:=qh (AO HB.o hb5);clear hb5;go_wp2_with fail;go_ret;obtain⟨ob,h1,h2⟩:=AV.of HO.o;exact⟨_,rfl,⟨p,c,[],ob,rfl,h1,λg hg=>by have:=h2 g hg;omega,HK.o⟩,HB.o⟩
   .subst hmp;obtain⟨ob,h1,h2⟩:=AV.of HO.o;obtain⟨g0,cap0,rest0,hv0,rfl,_⟩:=h1.blk (by omega);injection hv0 with hv0 _ hv1;subst hv0 hv1;have HO:=qh h1;have hg0:=h2 g0 rfl;clear h1 h2;go_wp2_with fail;refine Ah (KT.o g0 c P _ HO.o (by omega)) ?_;rintro w5 ⟨P',hp5,ho5,ht5⟩;have HO:=qh ho5;have HB:=qh (HB.trans (ht5.below (by omega) HB.size));have hpl:=hp5.length_eq;have HK:=qh (HK.o.perm hp5);clear ho5 ht5 hp5;go_wp2_with fail;go_ret;exact⟨.slice (some ⟨g0,0,none⟩) P.length c,rfl,⟨some ⟨g0,0,none⟩,c,P',some g0,by rw[hpl],by rw[hpl];exact HO.o,λg hg=>by cases hg;omega,HK.o⟩,HB.o⟩
  .intro pr ps cv kl yd yp w1 cnt1 hkey hlk hR hat hrg1 hlt hg1 hs1 hen;have hy:yd=.held cv:=by unfold BZ at hR;injection hR with hR;injection hR with hR _;exact hR.symm
   rw[hy] at hat;obtain⟨e,he,hek⟩:=Ph HL.o HI.wf hat;have hpe:pr=e.r/\ps=e.s:=by have hw:=HI.wf e he;rw[<-hek] at hkey;have:=CV.inj hkey (DX e.r e.s hw.1 hw.2);simp only[Dz,Value.agg.injEq,Array.mk.injEq,List.cons.injEq,Value.int.injEq,true_and,and_true] at this;exact this
   obtain⟨h1,h2⟩:=hpe;subst h1;subst h2;subst hek;have hmp:=HMP.o;subst hmp;have hPl:=HC.len;have HC2:=qh (HC.step HI.wf he hlk);have hkept:=hg1;have HB1:=qh (show Below w.heap.size w w1 from HB.trans ⟨hg1.os,hg1.tape,hg1.output,hg1.size,λk hk=>hg1.block k (by have:=HB.size;omega) (by intro hc;injection hc with hc;omega)⟩);have HO1:=qh (show w1.ownsRow (w.heap.size+1) 37 2 (.slice p P.length c) P.length (insL P) from HO.kept hg1 (by
    obtain⟨_,h2⟩:=HO.o;rcases h2 with⟨hv,_⟩|⟨g',cap,cur,hv,hg',_⟩
    .rw[hv];exact .inl rfl
    .rw[hv];right;intro hc;simp[Value.ownBlock] at hc;omega))
   have HRG:=qh hrg1;have HSZ1:=qh (show w.heap.size+1<=w1.heap.size from Nat.le_trans HSZ.o hg1.size);have HHE:=qh he;have HLT:=qh hlt;have HL0:=qh hrg.left_eq;have hks:e.key.sameKey e.key=true:=WideAt.sameKey_self (Jn e.r e.s);have HKS:=qh hks;clear hrg1 hrg hlt hg1 hs1 hR hy hat hkey hlk hkept he hks HB HO HC HSZ HMP;simp only[Dz] at hen |-;have hsrc:Reads ((w1.alloc (.cells #[.int .i64 e.r,.int .i64 e.s] 37)).alloc (.cells #[.int .i64 e.r,.int .i64 e.s] 37)) (some ⟨w1.heap.size+1,0,none⟩) [.int .i64 e.r,.int .i64 e.s]:=by have:=(AC (w1.alloc (.cells #[.int .i64 e.r,.int .i64 e.s] 37)) 37 [.int .i64 e.r,.int .i64 e.s]).reads 0 [.int .i64 e.r,.int .i64 e.s] (λj v hv=>by simpa using hv);rw[World.size_alloc] at this;exact this
   have HSRC:=qh hsrc;clear hsrc;go_wp2_with (first|(at_builtin;refine Ag rfl (.tmp 14) (.tmp 16) 99 rfl (w.heap.size+1) 37 (.agg #[.int .i64 0,.int .i64 0]) 2 16 rfl (by kernel_rfl) rfl (by decide) _ P.length (insL P) rfl (DK HO1.o (by go_grown)) (some ⟨w1.heap.size+1,0,none⟩) 1 1 [.int .i64 e.r,.int .i64 e.s] rfl rfl HSRC.o (by intro h;cases h) (by simp[Value.oneCell']) (by unfold maxLen;omega) (by omega) (by have:=HSZ1.o;simp;omega) ?_;intro v3 w3 ho3 hb3 hg3;have HO3:=qh ho3;clear ho3)|fail);have hal:Below w1.heap.size w1 ((w1.alloc (.cells #[.int .i64 e.r,.int .i64 e.s] 37)).alloc (.cells #[.int .i64 e.r,.int .i64 e.s] 37)):=by go_grown
   have hgr:w1.grownBy w3 (Value.slice p P.length c).ownBlock:=⟨hg3.os.trans hal.os,hg3.tape.trans hal.tape,hg3.output.trans hal.output,Nat.le_trans hal.size hg3.size,λk hk hne=>(hg3.block k (Nat.lt_of_lt_of_le hk hal.size) hne).trans (hal.block k hk)⟩;have hne:∀k,k<=w.heap.size->some k≠(Value.slice p P.length c).ownBlock:=λk hk hc=>by have:=(HO1.lt k hc.symm).1;omega
   have hrg3:=HRG.kept hgr (by first|exact hne _ (Nat.le_of_lt HBL.o)|exact hne _ (Nat.le_refl _)) (by first|exact hne _ (Nat.le_of_lt HBL.o)|exact hne _ (Nat.le_refl _));have HRG3:=qh hrg3;have HB3:=qh (show Below w.heap.size w w3 from HB1.trans ((hal.mono HB1.size).trans (hb3.mono (Nat.le_succ _))));have HSZ3:=qh (show w.heap.size+1<=w3.heap.size from Nat.le_trans HSZ1.o (Nat.le_trans hal.size hb3.size));clear hrg3 hne hgr hal hb3 hg3 hen;obtain⟨p3,c3,rfl⟩:∃p3 c3,v3=.slice p3 (P.length+1) c3:=by
    obtain⟨_,h2⟩:=HO3.o;rcases h2 with⟨hv,hn⟩|⟨g,cap,cur,hv,_⟩
    .cases hn
    .exact⟨_,cap,hv⟩
   go_roundw;case rel=>exact⟨_,_,P.length+1,_,p3,c3,rfl,HRG3.o,HB3.o,by rw[<-Sl];exact HO3.o,⟨by simp,HC2.o⟩,HSZ3.o⟩
   case measure=>rw[HRG3.left_eq,HL0.o];exact HLT.o
end
def tV:List Value:=[AA 0,AA 0,AA 0,AA 0,AA 0,AA 0,AA 0,AA 0,AA 0,AA 0,AU,AU,AU,AU,AA 0,AA 0,AA 0,AA 0,AA 0,AA 0,AA 0,AA 0,.bool false]
def kK(kl:List Kn)(d:Nat->Int)(w:World)(e:Ending)(w':World):Prop:=
 ∃d' ks O ob p c P obm,e=.returned (.tuple #[O,.slice p (P.length:Nat) c])/\Hm kl d d' ks/\(∀j,j<7->I7 kl d' j=none)/\AV w' O ob 267 23 ks.length (Ht ks)/\(∀k,ob=some k->w.heap.size<=k) /\
  AV w' (.slice p (P.length:Nat) c) obm 37 2 P.length (insL P)/\(∀k,obm=some k->w.heap.size<=k)/\(∀x∈P,∃r:Nat,r<7/\x=((r:Int),d' r+1)/\PU kl d' r=true)/\P.length<=7/\Below w.heap.size w w'
theorem gV(a b:List Kn):Ht (a++b)=Ht a++Ht b:=by simp[Ht]
def NG:Option Value->Nat
 | some (.slice _ n _)=>n
 | _=>0
theorem gU(k:Kn):k.cells.toArray.all (·.oneCell')=true:=by simp[Kn.cells,QU,cellL,Value.oneCell']
theorem jG(kl:List Kn)(d:Nat->Int)(V:Value)(obV:Option Nat)(w:World)(hv:AV w V obV 267 23 kl.length (Ht kl))(hkl:Tt kl d)(hnd:U7 kl)(hd:∀r,r<7->0<=d r/\d r<=1000)(hlen:kl.length<=800) :Calls prog 163 #[.agg #[AA (d 0),AA (d 1),AA (d 2),AA (d 3),AA (d 4),AA (d 5),AA (d 6)],V] w (kK kl d w):=by
 letI:In:=⟨1,0,λ_=>0,Iz,Iz,λ_=>Iz⟩
 have b8:=@run_makeMap prog;obtain⟨KR,KL⟩:=WZ (λg b t O S W (h:BL W g b kl.length (DW kl d t).1 O (kl.map Kn.IW)) N=>aG g b kl.length (DW kl d t).2.length kl (DW kl d t).1 O S (Ht (DW kl d t).2) W h N (Nat.le_trans (Ie kl d t).len BJ) (hkl.later (Ie kl d t).le) ((Ie kl d t).hi hd)) (λs b n (l:List A7) W (h:EU W s b n l) hl=>WJ s b n l W h hl);obtain⟨pV,cV,rfl⟩:∃p c,V=.slice p (kl.length:Nat) c:=by
  rcases hv.cases with⟨r,_,X,_⟩|⟨_,_,_,r,_⟩
  .rw[r,X];exact⟨_,_,rfl⟩
  .exact⟨_,_,r⟩
 have al:=qh hv;have bs:=hv.lt;obtain⟨ap,an,b0⟩:=bP hnd hkl hd;clear hv hkl hnd;go_in;go_upto_region 1 with(fail);go_name_world W hW;obtain⟨HX,au,bx⟩:=GI 41 ([AA (d 0),AA (d 1),AA (d 2),AA (d 3),AA (d 4),AA (d 5),AA (d 6)]) hW;clear hW;have f:=qh (Base.start w);have f:=D9 au f;clear au bx;generalize aa:w.heap.size=B at HX f bs |-;have R:=qh HX.Af;go_wp2_with (first|(refine lM 0 R.o ?_));have C:BL ((W.alloc (.map #[] 0)).alloc (.cells (DT d++[Value.map (some W.heap.size),Value.slice none 0 0]).toArray 327)) (W.heap.size+1) W.heap.size 0 d AL []:=⟨by
  have:=AC (W.alloc (.map #[] 0)) 327 (DT d++[Value.map (some W.heap.size),Value.slice none 0 0]);rw[World.size_alloc] at this;exact this,⟨_,(World.ownsMap_made W prog 37 BZ).alloc _,GL.empty⟩,λe G=>(by cases G),λe G=>(by cases G)⟩
 have M:Below W.heap.size W ((W.alloc (.map #[] 0)).alloc (.cells (DT d++[Value.map (some W.heap.size),Value.slice none 0 0]).toArray 327)):=by have h1:Below W.heap.size W (W.alloc (.map #[] 0)):=(Below.refl _ _).alloc Ve _;exact h1.alloc h1.size _
 go_name_world W2 ab;have ab:(W.alloc (.map #[] 0)).alloc (.cells (DT d++[Value.map (some W.heap.size),Value.slice none 0 0]).toArray 327)=W2:=ab;rw[ab] at C M;have a:=qh C;have aq:=f.le;have f:=D9 M f;clear C M ab R HX;have aw:B<=W.heap.size+1:=BJ
 generalize W.heap.size+1=g at a aw |-;generalize W.heap.size=b at a aq |-;clear hd;go_loopw [19] (λvi wr=>∃i:Nat,vi=AA (i:Int)/\i<=kl.length/\BL wr g b i d AL ((kl.take i).map Kn.IW)/\Base B w wr) (λvi _=>kl.length - (intOf vi).toNat);case atStart=>exact⟨0,rfl,Nat.zero_le _,by simpa using a.o,f.o⟩
 case round=>
  obtain⟨i,rfl,hi,C,F⟩:=hrel;clear a f;obtain⟨a,HK,f⟩:=bP C (al.bel (by rw[aa];exact F.below)) F;have bm:=F.le;clear C F;by_cases br:i=kl.length
  .subst br;rw[List.take_length] at a;have b7:¬((kl.length:Int)<(kl.length:Int)):=BJ
   go_wp2_with fail;go_loopw [11] (λvd Y=>∃t O S,BL Y g b kl.length (DW kl d t).1 O (kl.map Kn.IW)/\AV Y O S 267 23 (DW kl d t).2.length (Ht (DW kl d t).2)/\(∀k,S=some k->B<=k)/\Base B w Y) (λ_ Y=>kl.length-NG (Y.cell? ⟨g,8,none⟩));case atStart=>exact⟨0,AL,none,a.o,AV.nil _ _ _,λk q=>(by cases q),f.o⟩
   case round=>
    clear a f HK al;obtain⟨t,O,S,C,N,a2,F⟩:=hrel;obtain⟨a,A,f,T⟩:=bY C N F a2;clear C N F a2;have ca:=(Ie kl d t).len;have bn:NG (wr.cell? ⟨g,8,none⟩)=(DW kl d t).2.length:=by
     have:=a.ix.cell 8;rw[this];show NG (some O)=_;rcases A.cases with⟨r,_,X,_⟩|⟨_,_,_,r,_⟩
     .rw[r,X];rfl
     .rw[r];simp[NG]
    go_wp2_with fail;refine(KR.o g b t O S _ a.o A.o).mono ?_;rintro e w3 ⟨s,b2,O',ad,rfl,C,N,a3,hs,cd,hm⟩;have b1:=f.le;obtain⟨a,A,H,f⟩:=bY C N hs (f.mv hm (λk q=>by rcases q with rfl|q;exact aw;exact T.o k q));have T:=qh (show ∀k,ad=some k->B<=k from λk q=>by
     rcases a3 with h|⟨k2,h,h2⟩
     .exact T.o k (h▸q)
     .rw[h] at q;cases q;omega)
    clear C N hs hm a3;by_cases U:(Aj kl (DW kl d t).1 7).ks=[]
    .obtain⟨hdn,hrt⟩:=TU kl (DW kl d t).1 7 U;have aj:=TT kl (DW kl d t).1 7;have a1:=Qp (kl:=kl) (d:=(DW kl d t).1) 7;have bv:=(O3 (kl:=kl) (d:=(DW kl d t).1) 7).2;have bj:=qh (Ie kl d t);rw[U] at A;rw[U];generalize (Aj kl (DW kl d t).1 7).ms=ms at H aj a1 bv;have bt:(ms.map Um).length<=1000:=by rw[List.length_map];omega
     go_upto_region 11 with(fail);obtain⟨a,f,H,A⟩:=En (AY _ w3) a f H A;refine Ed [] 8 (λhSn=>?_);generalize w3.drew=Q at a f H A hSn |-;simp only[List.replicate];refine ES 0 ?_;refine BO 3 [] (λw z=>Am ((a.bel z).ix) 8) ?_;refine CW 4 ?_;refine BN 5 rfl (λK E=>?_);go_simp;refine(KL.o s b2 _ _ _ (H.bel hSn) bt).mono ?_;rintro e w7 ⟨v,rfl,bu,F⟩;have hSn:=AO hSn F;obtain⟨pm,cm,P,bd,rfl,a5,a4,ac⟩:=bu;obtain⟨bf,bh⟩:=WZ (f.bel hSn) a5;have b6:=(f.bel hSn).le;have bw:∀k,bd=some k->B<=k:=λk q=>Nat.le_trans f.le (a4 k q);clear a5 a4;clear F;refine BR E ?_;clear E;refine F9 6 ?_;refine BA ?_;obtain⟨a,f,H,A⟩:=En hSn a f H A;clear hSn;clear a H;go_wp2_with fail
     go_ret2
     refine⟨_,_,O',ad,pm,cm,P,bd,rfl,bj.o,hrt,by simpa[Ht] using A.o,λk q=>by rw[aa];exact T.o k q,bh.o,λk q=>by rw[aa];exact bw k q,λx hx=>?_,?_,by rw[aa];exact bf.below⟩
     .obtain⟨e,G,rfl⟩:=(ac.mem x).1 hx;obtain⟨y,hy,rfl⟩:=List.mem_map.1 G;exact⟨y.1,a1 y hy,by show ((y.1:Int),y.2)=_;rw[(aj y hy).1],(aj y hy).2⟩
     .have:=ac.len;rw[List.length_map] at this;omega
    .have hne:(Aj kl (DW kl d t).1 7).ks.isEmpty=false:=by
      cases h:(Aj kl (DW kl d t).1 7).ks with
      | nil=>exact absurd h U
      | cons=>rfl
     have cc:1<=(Aj kl (DW kl d t).1 7).ks.length:=by
      cases h:(Aj kl (DW kl d t).1 7).ks with
      | nil=>exact absurd h U
      | cons=>simp
     have cb:=(Ie kl d (t+1)).len;have a0:(DW kl d (t+1)).2.length=(DW kl d t).2.length+(Aj kl (DW kl d t).1 7).ks.length:=List.length_append;rw[hne];go_wp2_with fail;go_roundw;case rel=>exact⟨t+1,O',ad,a.o,by rw[a0];show AV w3 O' ad _ 23 _ (Ht ((DW kl d t).2++_));rw[gV];exact A.o,T.o,f.o⟩
     case measure=>
      have bo:NG (w3.cell? ⟨g,8,none⟩)=(DW kl d (t+1)).2.length:=by
       have:=a.ix.cell 8;rw[this];show NG (some O')=_;rw[a0];rcases A.cases with⟨r,_,X,_⟩|⟨_,_,_,r,_⟩
       .rw[r,X];rfl
       .rw[r];simp[NG]
      rw[bn,bo];omega
  .have hi2:i<kl.length:=BJ
   obtain⟨gk,ck,ce,bz,b9,b3,b4,ax,bp⟩:=HK.o.blk BJ;cases bz;have R:=qh (QT ax i hi2);have ac:=(an.o _ (List.getElem_mem hi2)).1;obtain⟨am,ao⟩:=WZ (ap.has i hi2) (ap.put i hi2);have b5:(i:Int)<(kl.length:Int):=BJ
   obtain⟨k,q⟩:∃k,k=kl[i]:=⟨_,rfl⟩;rw[<-q] at R ac am ao;clear q ax bp;go_upto_region 5 with(first|(refine lM (i*23) R.o ?_)|(refine sW k.cells (AC wr _ tV) ?_ (gU _);intro V az ba));have u:=qh az;have ar:Below wr.heap.size wr V:=Below.trans ((Below.refl _ _).alloc Ve _) (ba.below Ve Vj);obtain⟨a,f⟩:=Ce ar a f;clear az ba ar R HK;have ag:(Lit.int .i64 (k.m:Int)).wf=true:=WalkArith.wf_i64 BJ;have ah:(Lit.int .i64 k.I.sl).wf=true:=WalkArith.wf_i64 (by have:=k.I.hsl;omega);obtain⟨v,bb,bc,_,ai,_⟩:=a.look k.m k.I.sl ag ah;rw[am.o] at ai;obtain⟨J,bl⟩:=WZ (show Tq V (λW=>(Instr.lookup 246 (.map (some b)) (.agg #[AA k.m,AA k.I.sl]) true).run prog W=.ok (.tuple #[.agg v.toArray,.bool false]) W) from ai) bc;clear ai bc;generalize wr.heap.size=gy at u bm |-;obtain⟨a,f,u,J⟩:=En (AY _ V) a f u J;refine Ed [] 13 (λhSn=>?_);generalize V.drew=Q at a f u J hSn |-;simp only[List.replicate];refine ES 0 ?_;refine BO 3 [] (λw z=>Am ((a.bel z).ix) 7) ?_;refine CW 4 ?_;refine BO 5 [] (λw z=>Cf (u.bel z) 0 1) ?_;refine BO 6 [] (λw z=>J.o w z) ?_;refine ES 7 ?_;refine BN 10 rfl (λK E=>?_);go_simp;have M:=λo=>Below.alloc hSn hSn.size o;refine E.out _ _ (λ_=>M _) ?_;have hSn:=M (.cells zero21.toArray 45);have ae:=qh (show Holds (Q.alloc (.cells zero21.toArray 45)) Q.heap.size 45 zero21 from AC Q _ _);clear M;change wpAnyL _ _ _ _ _ _ _ _ _ (Q.alloc (.cells zero21.toArray 45));generalize Q.alloc (.cells zero21.toArray 45)=wa at hSn ae |-;clear E;try simp only[Act.put,zA,zB,zC]
   refine BN 11 rfl (λK E=>?_);refine tB v ae.o ?_ bl.o (hi:=by rw[bb];kernel_rfl) (hl:=by rw[bb];rfl);intro Z bq a9;have hSn:=hSn.trans (a9.below Ve hSn.size);clear bq a9;refine BR E ?_;clear E;refine CW 12 ?_;refine BA ?_;obtain⟨a,f,u,J⟩:=En hSn a f u J;clear hSn;clear ae J;have y2:=Am u.o 2;go_upto_region 7 with(fail);clear y2;have ay:Jh ((kl.take (i+1)).map Kn.IW):=λe G=>by obtain⟨x,hx,rfl⟩:=List.mem_map.1 G;have h1:=(an.o x (List.mem_of_mem_take hx)).1;have h2:=x.I.hsl;exact⟨⟨by show (0:Int)<=(x.m:Int);omega,by show (x.m:Int)<7;omega⟩,h2.1,by show x.I.sl<=1073741824;omega⟩
   have HG:=qh ay;have bk:=qh (show ∀e∈(kl.take (i+1)).map Kn.IW,e.L.length=21/\e.L.toArray.all (·.oneCell')=true from λe G=>by
    obtain⟨x,hx,rfl⟩:=List.mem_map.1 G;exact @Lh x.I _ _ _)
   obtain⟨bg,af⟩:=WZ (DX k.m k.I.sl ag ah) (λ(w':World) (h:Below Z.drew.heap.size Z.drew w')=>(((u.bel (AY _ Z)).bel h).CB 2 (cs:=@cellL k.I 3 k.c false) (λj v hv=>by rw[Nat.add_comm];exact hv)));clear ay;obtain⟨a,f,u⟩:=D5 (AY _ Z) a f u;refine Ed [8] 9 (λhSn=>?_);generalize Z.drew=Q at a f u af hSn |-;simp only[List.replicate];refine ES 0 ?_;refine BO 3 [8] (λw z=>Am ((a.bel z).ix) 7) ?_;refine CW 4 ?_;refine BO 5 [8] (λw z=>Cf (u.bel z) 0 1) ?_;refine CW 6 ?_;refine JL 7 [8] (some 47) (.agg (@cellL k.I 3 k.c false).toArray) rfl (yieldsIf_load_mid (by rfl) 45 _ rfl gy 2 rfl (@cellL k.I 3 k.c false) _ (λw z=>af.o w z) underlying45 rfl (by as_aux_lemma=>kernel_rfl)) hSn ?rg26;simp only[Act.put,zA,zB,zC];refine BN 8 rfl (λK E=>?_);obtain⟨D,a6,hl⟩:=(a.bel hSn).map;refine E9 rfl _ _ _ 246 rfl 37 45 CV underlying246 BZ b i D rfl a6 (by unfold maxLen;omega) (Dz k.m k.I.sl) (.agg (@cellL k.I 3 k.c false).toArray) (Ia k.m k.I.sl) rfl rfl bg.o (.held (.agg (@cellL k.I 3 k.c false).toArray)) [] rfl ?_;intro w8 a7 av;have ak:=BM av;have a8:BL w8 g b (i+1) d AL ((kl.take (i+1)).map Kn.IW):=⟨(a.bel hSn).ix.touch ak (a.bel hSn).ne,⟨_,a7,ao.o▸hl.put (a.bel hSn).wf k.IW ⟨ag,ah⟩⟩,HG.o,bk.o⟩;obtain⟨bi,be⟩:=WZ a8 ((f.bel hSn).touch ak aq);clear a7 av ak a8 a6 hl;refine BR E ?_;clear E;refine BA ?_;clear hSn a f u af;go_wp2_with fail;go_roundw;case rel=>exact⟨i+1,by go_num,BJ,bi.o,be.o⟩
   case measure=>simp[intOf];omega
end Go.Proofs.YtimdpiifpibgfaaGreatDoor
