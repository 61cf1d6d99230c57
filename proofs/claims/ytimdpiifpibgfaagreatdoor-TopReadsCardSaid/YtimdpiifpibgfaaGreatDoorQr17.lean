/- A part of the proof of TopReads. -/
import Derived.Test.YtimdpiifpibgfaaGreatDoorQr16
set_option linter.all false
set_option maxRecDepth 20000
set_option maxHeartbeats 16000000
open Go.RowKit Go.Maps
namespace Go.Proofs.YtimdpiifpibgfaaGreatDoor
open Tryz
section
structure BF(w:World)(g b n:Nat)(l:List A7):Prop where
 ix:Holds w g 248 (.map (some b) :: DT λ_=>0)
 map:∃D,w.ownsMap prog 37 BZ b n D/\GL D l
 good:Jh l
 rows:∀e∈l,e.L.length=21/\e.L.toArray.all (·.oneCell')=true
theorem BF.wf{w:World}{g b n:Nat}{l:List A7}(h:BF w g b n l):RX l:=h.good.wf
theorem BF.keep{w w':World}{g b n:Nat}{l:List A7}(h:BF w g b n l)(hg:w'.heap[g]?=w.heap[g]?)(hb:w'.heap[b]?=w.heap[b]?):BF w' g b n l:=by obtain⟨D,⟨c,a,f,r⟩,d⟩:=h.map;exact⟨by have:=h.ix;unfold Holds at *;rw[hg];exact this,⟨D,⟨c,a,hb.trans f,r⟩,d⟩,h.good,h.rows⟩
theorem BF.lt{w:World}{g b n:Nat}{l:List A7}(h:BF w g b n l):g<w.heap.size/\b<w.heap.size:=by obtain⟨D,a,_⟩:=h.map;exact⟨h.ix.lt,a.lt⟩
theorem BF.below{w w':World}{g b n:Nat}{l:List A7}(h:BF w g b n l)(hb:Below w.heap.size w w'):BF w' g b n l:=h.keep (hb.block g h.lt.1) (hb.block b h.lt.2)
theorem BF.touch{w w':World}{g b n k:Nat}{l:List A7}(h:BF w g b n l)(ht:Touch k w w')(h1:g≠k)(h2:b≠k):BF w' g b n l:=h.keep (ht.block g h.lt.1 h1) (ht.block b h.lt.2 h2)
theorem BF.ne{w:World}{g b n:Nat}{l:List A7}(h:BF w g b n l):g≠b:=by obtain⟨D,⟨d,c,a,_⟩,_⟩:=h.map;intro e;have:=h.ix;unfold Holds at this;rw[e,a] at this;cases this
def Et(l:List A7)(r s:Int):Bool:=l.any λx=>x.r==r&&x.s==s
def zero21:List Value:=[AA 0,AA 0,AA 0,AA 0,AA 0,AA 0,AA 0,AA 0,AU,AU,AU,AU,AA 0,AA 0,AA 0,AA 0,AA 0,AA 0,AA 0,AA 0,.bool false]
theorem BF.look{w:World}{g b n:Nat}{l:List A7}(h:BF w g b n l)(r s:Int)(hr:(Lit.int .i64 r).wf=true)(hs:(Lit.int .i64 s).wf=true) :∃v:List Value,v.length=21/\v.toArray.all (·.oneCell')=true/\(∀e∈l,e.r=r->e.s=s->v=e.L) /\∀W,Below w.heap.size w W->(Instr.lookup 246 (.map (some b)) (.agg #[AA r,AA s]) true).run prog W=.ok (.tuple #[.agg v.toArray,.bool (Et l r s)]) W:=by
 have R:∀W,(zeroValue 45).run prog W=.ok (.agg zero21.toArray) W:=λW=>OO W ND;obtain⟨D,O,p⟩:=h.map;have M:=DX r s hr hs;have o:=p.JU h.wf r s hr hs;have I:∃v:List Value,v.length=21/\v.toArray.all (·.oneCell')=true/\(∀e∈l,e.r=r->e.s=s->v=e.L)/\D.atKey (Ia r s) (.held (.agg zero21.toArray))=.held (.agg v.toArray):=by
  cases m:Maps.has D (Ia r s)
  .refine⟨zero21,rfl,by simp[zero21,Value.oneCell'],λe k d f=>?_,Maps.atKey_of_not_has m _⟩;rw[o] at m;have:=List.any_eq_false.1 m e k;simp[d,f] at this
  .rw[o] at m;obtain⟨e,k,c⟩:=List.any_eq_true.1 m;simp only[Bool.and_eq_true,beq_iff_eq] at c;refine⟨e.L,(h.rows e k).1,(h.rows e k).2,λz H d f=>?_,?_⟩
   .have hp:=p.apart;by_cases q:e=z
    .rw[q]
    .exfalso;obtain⟨i,t,rfl⟩:=List.getElem_of_mem k;obtain⟨j,u,rfl⟩:=List.getElem_of_mem H;have K:i≠j:=λG=>q (by subst G;rfl);rw[List.pairwise_iff_getElem] at hp;rcases Nat.lt_or_gt_of_ne K with N|J
     .exact hp i j t u N ⟨c.1.trans d.symm,c.2.trans f.symm⟩
     .exact hp j i u t J ⟨d.trans c.1.symm,f.trans c.2.symm⟩
   .have:=p.at_ e k (.held (.agg zero21.toArray));rw[A7.key,c.1,c.2] at this;exact this
 obtain⟨v,d,f,B,C⟩:=I;refine⟨v,d,f,B,λW E=>?_⟩;obtain⟨A,y,F,Q⟩:=O;have P:W.ownsMap prog 37 BZ b n D:=⟨A,y,(E.block b h.lt.2).trans F,Q⟩;obtain⟨T,S,x,a⟩:=P.look_ok CV underlying246 (R W) (zd:=.held (.agg zero21.toArray)) (zp:=[]) rfl M;rw[C] at a;unfold BZ at a;injection a with a;injection a with a _;injection a with a;rw[a,o] at x;exact x
theorem JX(g b n:Nat)(l:List A7)(r s:Int)(w:World)(h:BF w g b n l)(hr:(Lit.int .i64 r).wf=true)(hs:(Lit.int .i64 s).wf=true) :Calls prog 82 #[.pointer (some ⟨g,0,none⟩),.agg #[.int .i64 r,.int .i64 s]] w λe w'=>∃v:List Value,v.length=21/\v.toArray.all (·.oneCell')=true/\(∀e∈l,e.r=r->e.s=s->v=e.L)/\(Et l r s=false->v=zero21) /\e=.returned (.tuple #[.agg v.toArray,.bool (Et l r s)])/\Below w.heap.size w w':=by
 have m:=qh h;obtain⟨v,d,P,Q,R⟩:=h.look r s hr hs;obtain⟨j,T,z⟩:=bP R Q P;clear R Q P h;have ac:zero21.length=21:=rfl;generalize J:Et l r s=f at j |-;have S:=qh J;clear J;go_in;go_upto_region 1 with(fail);go_name_world W x;have H:Holds W w.heap.size 37 [.int .i64 r,.int .i64 s]:=by rw[<-x];exact Aw (AC w _ _) _
 have I:Holds W (w.heap.size+1) 45 zero21:=by rw[<-x];have:=AC (w.alloc (.cells #[.int .i64 r,.int .i64 s] 37)) 45 zero21;rw[World.size_alloc] at this;exact this
 obtain⟨a,u,c⟩:=bP (show Below w.heap.size w W by rw[<-x];go_grown) (show Holds W.drew w.heap.size 37 [.int .i64 r,.int .i64 s] from H) (show Holds W.drew (w.heap.size+1) 45 zero21 from I);clear x;obtain⟨m,j,a⟩:=bP ((m.below a.o).below (AY _ _)) (λF (V:Below W.drew.heap.size W.drew F)=>j.o F (a.trans (((AY w.heap.size W)).trans (V.mono a.size)))) (show Below w.heap.size w W.drew from a.trans (AY w.heap.size W));clear H I;have E:w.heap.size+1<W.drew.heap.size:=c.lt;generalize ab:w.heap.size+1=G at c E |-;generalize w.heap.size=gi at u |-;refine Ed [] 12 (λhSn=>?_);generalize W.drew=i at u c m j a E hSn |-;simp only[List.replicate];refine ES 0 ?_;refine JL 3 [] (some 12) (?vg4) rfl (Or.inl ⟨by rfl,?hg4⟩) hSn ?rg4;case hg4=>
  intro w q;have m0:=(m.below q).ix.cell 0;simp only[List.getElem?_cons_zero] at m0;go_simp;try with_reducible rfl
 simp only[Act.put,zA,zB,zC];refine BO 4 [] (λw q=>Cf (AX u.o q) 0 1) ?_;refine BO 5 [] (λw q=>j.o w q) ?_;refine ES 6 ?_;refine BN 9 rfl (λK p=>?_);go_simp;have B:=λo=>Below.alloc hSn hSn.size o;refine p.out _ _ (λ_=>B _) ?_;have hSn:=B (.cells ([.int .i64 0,.int .i64 0,.int .i64 0,.int .i64 0,.int .i64 0,.int .i64 0,.int .i64 0,.int .i64 0,.string ⟨#[]⟩,.string ⟨#[]⟩,.string ⟨#[]⟩,.string ⟨#[]⟩,.int .i64 0,.int .i64 0,.int .i64 0,.int .i64 0,.int .i64 0,.int .i64 0,.int .i64 0,.int .i64 0,.bool false]:List Value).toArray 45);have k:=qh (show Holds (i.alloc (.cells ([.int .i64 0,.int .i64 0,.int .i64 0,.int .i64 0,.int .i64 0,.int .i64 0,.int .i64 0,.int .i64 0,.string ⟨#[]⟩,.string ⟨#[]⟩,.string ⟨#[]⟩,.string ⟨#[]⟩,.int .i64 0,.int .i64 0,.int .i64 0,.int .i64 0,.int .i64 0,.int .i64 0,.int .i64 0,.int .i64 0,.bool false]:List Value).toArray 45)) i.heap.size 45 zero21 from AC i _ _);clear B;generalize i.alloc (.cells ([.int .i64 0,.int .i64 0,.int .i64 0,.int .i64 0,.int .i64 0,.int .i64 0,.int .i64 0,.int .i64 0,.string ⟨#[]⟩,.string ⟨#[]⟩,.string ⟨#[]⟩,.string ⟨#[]⟩,.int .i64 0,.int .i64 0,.int .i64 0,.int .i64 0,.int .i64 0,.int .i64 0,.int .i64 0,.int .i64 0,.bool false]:List Value).toArray 45)=wa at hSn k |-;have aa:G≠i.heap.size:=BJ
 clear p;try simp only[Act.put,zA,zB,zC]
 refine BN 10 rfl (λK p=>?_);refine tB v k.o ?_ z.o (hi:=by rw[d];kernel_rfl) (hl:=by rw[d];rfl);intro wb M O;have k:=qh M;have hSn:=hSn.trans (O.below Ve hSn.size);have c:=qh ((AX c.o hSn));clear M O;refine BR p ?_;clear p;refine CW 11 ?_;refine BA ?_;have t:=qh (show Below w.heap.size w wb from a.trans (hSn.mono a.size));have Z:w.heap.size<=i.heap.size:=a.size;clear hSn m u j E;generalize i.heap.size=g6 at k aa Z |-;cases f
 .go_wp2_with (first|(refine sW zero21 c.o ?_ (by simp[zero21,Value.oneCell']);intro wc C D));have y:=qh (t.trans (D.below BJ t.size));refine bT C.Af ?_;refine⟨zero21,rfl,by simp[zero21,Value.oneCell'],λe Y U A=>?_,rfl,rfl,y.o⟩;have N:=S.o;unfold Et at N;have:=List.any_eq_false.1 N e Y;simp[U,A] at this
 .have HRG:=qh k.Af;go_wp2_with (first|(refine lM 0 HRG.o ?_ (hi:=by rw[d];kernel_rfl))|(refine sW v c.o ?_ z.o (hi:=by rw[d];kernel_rfl) (hl:=by rw[d];rfl);intro wc C D));have y:=qh (t.trans (D.below BJ t.size));refine bodyPost_ret (v:=.tuple #[.agg v.toArray,.bool true]) (results_cell_tmp results82 _ _ G v _ _ rfl rfl C.Af underlying45 rfl (by rw[d];kernel_rfl)) rfl ?_;have A:=z.o;exact⟨v,d,by simpa using A,T.o,by first|trivial|(intro X;cases X),rfl,y.o⟩
theorem Ha(g b n:Nat)(l:List A7)(r s:Int)(w:World)(h:BF w g b n l)(hi:Cc r s=true) :Calls prog 140 #[AP g,.agg #[AA r,AA s]] w λe w'=>e=.returned (.bool false)/\Below w.heap.size w w':=by
 obtain⟨f,y⟩:=WZ h (λW=>by have:=E5 r s W;rw[hi] at this;exact this);clear h;have B:0<=r/\r<7/\1<=s/\s<=1073741824:=by
  rcases GV r s with⟨_,e⟩|⟨_,_,e⟩|⟨_,_,_,e⟩|⟨_,_,_,_,e⟩|⟨m,p,q,t,_⟩
  .rw[hi] at e;cases e
  .rw[hi] at e;cases e
  .rw[hi] at e;cases e
  .rw[hi] at e;cases e
  .exact⟨m,p,q,t⟩
 clear hi;obtain⟨m,p,q,t⟩:=B;obtain⟨k,rfl⟩:∃k:Nat,r=k:=⟨r.toNat,BJ⟩;have A:k<7:=BJ
 go_in;go_upto_region 1 with(fail);go_name_world W i;have j:Holds W w.heap.size 37 [AA k,AA s]:=by rw[<-i];exact AC w _ _
 have c:=qh (show Below w.heap.size w W by rw[<-i];go_grown);clear i;have f:=qh (f.below c.o);have v:=λd a=>j.grown d a 0;have x:=λd a=>j.grown d a 1;have hcut:=λz a=>f.ix.grown z a (1+k);rw[Hy _ _ _ A] at hcut;simp only[yA,yB] at v x;clear j;have C:¬s<=0:=BJ
 refine wp_region_quiet_below ND ND ?_;repeat go_big_quiet_step (first|(go_at_call 134;with_reducible exact AQ λW _=>y.out W))
 refine wpQuiet_nil ?_;intro D u;have c:=qh (AO c.o (Aa u));clear u v x hcut;go_wp2_with fail;go_ret;exact⟨rfl,c.o⟩
variable [In]
theorem tY(c:Cm)(w:World) :Calls prog 205 #[.agg (cellL 1 c true).toArray,.agg (cellL 3 c false).toArray] w λe w'=>e=.returned (.bool true)/\Below w.heap.size w w':=by
 have r:=qh (λW=>Ji W);go_in;go_upto_region 1 with(fail);have d:=qh (show Holds ((w.alloc (.cells (cellL 1 c true).toArray 45)).alloc (.cells (cellL 3 c false).toArray 45)) w.heap.size 45 (cellL 1 c true) from Aw (AC w _ _) _);have a:=qh (show Holds ((w.alloc (.cells (cellL 1 c true).toArray 45)).alloc (.cells (cellL 3 c false).toArray 45)) (w.heap.size+1) 45 (cellL 3 c false) from by
  have:=AC (w.alloc (.cells (cellL 1 c true).toArray 45)) 45 (cellL 3 c false);rw[World.size_alloc] at this;exact this)
 have f:=qh (show Below w.heap.size w ((w.alloc (.cells (cellL 1 c true).toArray 45)).alloc (.cells (cellL 3 c false).toArray 45)) by go_grown);generalize (w.alloc (.cells (cellL 1 c true).toArray 45)).alloc (.cells (cellL 3 c false).toArray 45)=W at d a f |-;generalize w.heap.size+1=t at a |-;obtain⟨g,h,i,j,k⟩:=RU d.o 0 1 2 3 4;obtain⟨l,m,n,p,q⟩:=RU a.o 0 1 2 3 4;go_wp2_with fail;refine Ah (r.o _) ?_;rintro s b;obtain⟨d,a,f⟩:=bP (AX d.o b) (AX a.o b) (AO f.o b);clear b g h i j k l m n p q;obtain⟨g,h,i,j,k⟩:=RU d.o 0 1 2 3 4;obtain⟨l,m,n,p,q⟩:=RU a.o 0 1 2 3 4;go_wp2_with fail;refine Ah (r.o _) ?_;rintro s b;obtain⟨d,a,f⟩:=bP (AX d.o b) (AX a.o b) (AO f.o b);clear b g h i j k l m n p q;obtain⟨g,h,i,j,k⟩:=RU d.o 0 1 2 3 4;obtain⟨l,m,n,p,q⟩:=RU a.o 0 1 2 3 4;go_wp2_with fail;go_ret;exact⟨rfl,f.o⟩
theorem Lh(st:Int)(c:Cm)(sm:Bool):(cellL st c sm).length=21/\(cellL st c sm).toArray.all (·.oneCell')=true:=⟨rfl,by simp[cellL,Value.oneCell']⟩
theorem TF{l:List A7}(h:∀e∈l,e.L.length=21/\e.L.toArray.all (·.oneCell')=true){e:A7}(he:e.L.length=21/\e.L.toArray.all (·.oneCell')=true):∀x∈Ci l e,x.L.length=21/\x.L.toArray.all (·.oneCell')=true:=by
 unfold Ci;split
 .intro x a;obtain⟨y,b,rfl⟩:=List.mem_map.1 a;split
  .exact he
  .exact h y b
 .intro x a;rcases List.mem_append.1 a with a|a
  .exact h x a
  .rw[List.mem_singleton.1 a];exact he
theorem E9{H:Type}{P:Program}{ops:Array Oper}{w:World}{o:Oper}{a:Act}{K:Act->World->Prop}{Q:Exit->Act->World->Prop}{E:Prop}(hgd:o.guard=none) (m x v:Operand) (t:TypeId) (hop:o.op=Op.mapUpdate t m x v) (k e:TypeId) (Kd:Keyed P k) (ht:P.underlying t=some (.map k e)) (R:Value->Option (DataW H × List MemPlace)) (b n:Nat) (D:DataW H) (hm:a.eval m=.map (some b)) (hown:w.ownsMap P k R b n D) (hn:n<maxLen) (key val:Value) (kl:Lit) (hx:a.eval x=key) (hv:a.eval v=val) (hkey:keyOf P k key=some kl) (d:DataW H) (ps:List MemPlace) (hval:R val=some (d,ps)) (hK:∀w',w'.ownsMap P k R b (n+1) (D.put kl d)->w.grownBy w' (some b)->K (a.put o.dst undef) w'):if Region.wanted o (yielded ops a.tmps)=true then Oper.wp P o a w K Q else E:=by
 have c:Region.wanted o (yielded ops a.tmps)=true:=by simp[Region.wanted,hgd]
 rw[if_pos c];exact LK m x v t hop k e Kd ht R b n D hm hown hn key val kl hx hv hkey d ps hval hK
theorem iR(g b n:Nat)(l:List A7)(r s st:Int)(c:Cm)(sm:Bool)(w:World)(h:BF w g b n l)(hn:n<=1000)(hi:Cc r s=true)(hc:JB c)(hst:(st=1/\sm=true)\/(st=3/\sm=false)) (hwas:Et l r s=false\/(Et l r s=true/\st=3/\sm=false/\∃e∈l,e.r=r/\e.s=s/\e.L=cellL 1 c true)) :Calls prog 120 #[.pointer (some ⟨g,0,none⟩),.agg #[.int .i64 r,.int .i64 s],.agg (cellL st c sm).toArray] w λe w'=> e=.returned (.bool true)/\BF w' g b (n+1) (Ci l ⟨r,s,cellL st c sm⟩)/\Touch b w w':=by
 have ag:0<=r/\r<7/\1<=s/\s<=1073741824:=by
  rcases GV r s with⟨_,e⟩|⟨_,_,e⟩|⟨_,_,_,e⟩|⟨_,_,_,_,e⟩|⟨O,P,Q,R,_⟩
  .rw[hi] at e;cases e
  .rw[hi] at e;cases e
  .rw[hi] at e;cases e
  .rw[hi] at e;cases e
  .exact⟨O,P,Q,R⟩
 have A:=qh ag;have B:(Lit.int .i64 r).wf=true/\(Lit.int .i64 s).wf=true:=⟨WalkArith.wf_i64 BJ,WalkArith.wf_i64 BJ⟩;obtain⟨v,ai,aj,ak,al⟩:=h.look r s B.1 B.2;obtain⟨V,X,a,z,am,KI,Z,Y⟩:=ed (DX r s B.1 B.2) B h al aj (λW=>by have:=E5 r s W;rw[hi] at this;exact this) (λW (h:BF W g b n l)=>Ha g b n l r s W h hi) (λW=>MP st c sm W hst hc.right);have KM:=qh (λW=>tY c W);have ab:Et l r s=false\/(Et l r s=true/\st=3/\sm=false/\v=cellL 1 c true):=by
  rcases hwas with hc|⟨hc,Q,R,e,he,O,P,hL⟩
  .exact .inl hc
  .exact .inr ⟨hc,Q,R,by rw[ak e he O P,hL]⟩
 have af:∀b0,b0=b->b0<w.heap.size:=λ_ k=>k▸h.lt.2;have aa:g≠b:=h.ne;clear al ak aj h B ag hc hst hi hwas;generalize Et l r s=f at z ab;go_in;go_upto_region 1 with(fail);have i:=qh (show Holds ((w.alloc (.cells #[.int .i64 r,.int .i64 s] 37)).alloc (.cells (cellL st c sm).toArray 45)) w.heap.size 37 [.int .i64 r,.int .i64 s] from Aw (AC w _ _) _);have j:=qh (show Holds ((w.alloc (.cells #[.int .i64 r,.int .i64 s] 37)).alloc (.cells (cellL st c sm).toArray 45)) (w.heap.size+1) 45 (cellL st c sm) from by
  have:=AC (w.alloc (.cells #[.int .i64 r,.int .i64 s] 37)) 45 (cellL st c sm);rw[World.size_alloc] at this;exact this)
 have d:=qh (show Below w.heap.size w ((w.alloc (.cells #[.int .i64 r,.int .i64 s] 37)).alloc (.cells (cellL st c sm).toArray 45)) by go_grown);have a:=qh (a.below d.o);generalize (w.alloc (.cells #[.int .i64 r,.int .i64 s] 37)).alloc (.cells (cellL st c sm).toArray 45)=W at i j d a |-;have ac:b≠w.heap.size/\b≠w.heap.size+1/\b<w.heap.size:=by have:=af b rfl;omega
 clear af;generalize an:w.heap.size+1=M at j ac |-;generalize ad:w.heap.size=N at i ac |-;rw[<-ad];rw[ad];obtain⟨T,U⟩:=Cf i.o 0 1;go_wp2_with fail;refine Ah (KI.o _) ?_;rintro w1 k;obtain⟨a,i,j,d⟩:=bY (a.below k) (AX i.o k) (AX j.o k) (AO d.o k);clear k T U KI;obtain⟨T,U⟩:=Cf i.o 0 1;go_wp2_with fail;refine Ah (Z.o _ a.o) ?_;rintro w2 k;obtain⟨a,i,j,d⟩:=bY (a.below k) (AX i.o k) (AX j.o k) (AO d.o k);clear k T U Z;go_wp2_with (refine lG 0 j.Af ?_);refine Ah (Y.o _) ?_;rintro t k;obtain⟨a,i,j,d⟩:=bY (a.below k) (AX i.o k) (AX j.o k) (AO d.o k);clear k Y;go_upto_region 3 with(fail);obtain⟨d,i,j,a⟩:=bY (show Below w.heap.size w t.drew from d.trans (AY w.heap.size t)) (show Holds t.drew N 37 [.int .i64 r,.int .i64 s] from i.o) (show Holds t.drew M 45 (cellL st c sm) from j.o) (a.below (AY _ _));have z:=qh (λW' (k:Below t.drew.heap.size t.drew W')=>z.o W' (d.trans (k.mono d.size)));refine Ed [] 12 (λhSn=>?_);generalize t.drew=x at i j a z d hSn |-;simp only[List.replicate];refine ES 0 ?_;refine JL 3 [] (some 26) (?vg14) rfl (Or.inl ⟨by rfl,?hg14⟩) hSn ?rg14;case hg14=>
  intro w m;have G:=(a.below m).ix.cell 0;simp only[List.getElem?_cons_zero] at G;go_simp;try with_reducible rfl
 simp only[Act.put,zA,zB,zC];refine BO 4 [] (λw m=>Cf (AX i.o m) 0 1) ?_;refine BO 5 [] (λw m=>z.o w m) ?_;refine ES 6 ?_;refine BN 9 rfl (λK p=>?_);go_simp;have S:=λo=>Below.alloc hSn hSn.size o;refine p.out _ _ (λ_=>S _) ?_;have hSn:=S (.cells ([.int .i64 0,.int .i64 0,.int .i64 0,.int .i64 0,.int .i64 0,.int .i64 0,.int .i64 0,.int .i64 0,.string ⟨#[]⟩,.string ⟨#[]⟩,.string ⟨#[]⟩,.string ⟨#[]⟩,.int .i64 0,.int .i64 0,.int .i64 0,.int .i64 0,.int .i64 0,.int .i64 0,.int .i64 0,.int .i64 0,.bool false]:List Value).toArray 45);have y:=qh (show Holds (x.alloc (.cells ([.int .i64 0,.int .i64 0,.int .i64 0,.int .i64 0,.int .i64 0,.int .i64 0,.int .i64 0,.int .i64 0,.string ⟨#[]⟩,.string ⟨#[]⟩,.string ⟨#[]⟩,.string ⟨#[]⟩,.int .i64 0,.int .i64 0,.int .i64 0,.int .i64 0,.int .i64 0,.int .i64 0,.int .i64 0,.int .i64 0,.bool false]:List Value).toArray 45)) x.heap.size 45 zero21 from AC x _ _);clear S;generalize x.alloc (.cells ([.int .i64 0,.int .i64 0,.int .i64 0,.int .i64 0,.int .i64 0,.int .i64 0,.int .i64 0,.int .i64 0,.string ⟨#[]⟩,.string ⟨#[]⟩,.string ⟨#[]⟩,.string ⟨#[]⟩,.int .i64 0,.int .i64 0,.int .i64 0,.int .i64 0,.int .i64 0,.int .i64 0,.int .i64 0,.int .i64 0,.bool false]:List Value).toArray 45)=wa at hSn y |-;clear p;try simp only[Act.put,zA,zB,zC]
 refine BN 10 rfl (λK p=>?_);refine tB v y.o ?_ am.o (hi:=by rw[ai];kernel_rfl) (hl:=by rw[ai];rfl);intro q ae ah;have y:=qh ae;have hSn:=hSn.trans (ah.below Ve hSn.size);clear ae ah;refine BR p ?_;clear p;refine CW 11 ?_;refine BA ?_;obtain⟨a,i,j,d⟩:=bY (a.below hSn) (AX i.o hSn) (AX j.o hSn) (show Below w.heap.size w q from d.trans (hSn.mono d.size));clear hSn z;generalize x.heap.size=g7 at y |-;have ao:∀(f':Bool),True:=λ_=>trivial;rcases ab with rfl|⟨rfl,rfl,rfl,rfl⟩
 .go_upto_region 6 with(fail);obtain⟨d,i,j,a⟩:=bY (show Below w.heap.size w q.drew from d.trans (AY w.heap.size q)) (show Holds q.drew N 37 [.int .i64 r,.int .i64 s] from i.o) (AX j.o (AY _ _)) (a.below (AY _ _));refine Ed [6] 7 (λhSn=>?_);generalize q.drew=x at i j a d hSn |-;simp only[List.replicate];refine ES 0 ?_;refine JL 3 [6] (some 41) (?vg24) rfl (Or.inl ⟨by rfl,?hg24⟩) hSn ?rg24;case hg24=>
   intro w m;have G:=(a.below m).ix.cell 0;simp only[List.getElem?_cons_zero] at G;go_simp;try with_reducible rfl
  simp only[Act.put,zA,zB,zC];refine BO 4 [6] (λw m=>Cf (AX i.o m) 0 1) ?_;refine JL 5 [6] (some 43) (.agg (cellL st c sm).toArray) rfl (yieldsIf_load_mid (by rfl) 45 _ rfl M 0 rfl (cellL st c sm) _ (λw m=>(AX j.o m).Af) underlying45 rfl (by as_aux_lemma=>kernel_rfl)) hSn ?rg26;simp only[Act.put,zA,zB,zC];refine BN 6 rfl (λK p=>?_);obtain⟨D,F,hl⟩:=a.map;refine E9 rfl (.tmp 41) (.tmp 42) (.tmp 43) 246 rfl 37 45 CV underlying246 BZ b n D rfl F (by unfold maxLen;omega) _ _ _ rfl rfl V.o _ [] rfl ?_;intro H E u;obtain⟨I,C⟩:=WZ (show BF H g b (n+1) (Ci l ⟨r,s,cellL st c sm⟩) from⟨by have:=a.ix.touch (BM u) aa;exact this,⟨_,E,hl.put a.wf ⟨r,s,cellL st c sm⟩ X.o⟩,Qa a.good ⟨⟨A.1,A.2.1⟩,A.2.2⟩,TF a.rows (Lh _ _ _)⟩) (BM u);clear E hl F u;refine BR p ?_;clear p;refine BA ?_;have J:=qh (show Touch b w H from((Touch.of_below d.o).trans C.o));clear a i j d C;go_wp2_with fail;go_ret;exact⟨rfl,I.o,J.o⟩
 .go_wp2_with (first|(refine lG 0 y.Af ?_)|(refine lG 0 j.Af ?_));refine Ah (KM.o _) ?_;rintro q k;obtain⟨a,i,j,d⟩:=bY (a.below k) (AX i.o k) (AX j.o k) (AO d.o k);clear k y;go_upto_region 6 with(fail);obtain⟨d,i,j,a⟩:=bY (show Below w.heap.size w q.drew from d.trans (AY w.heap.size q)) (show Holds q.drew N 37 [.int .i64 r,.int .i64 s] from i.o) (AX j.o (AY _ _)) (a.below (AY _ _));refine Ed [6] 7 (λhSn=>?_);generalize q.drew=x at i j a d hSn |-;simp only[List.replicate];refine ES 0 ?_;refine JL 3 [6] (some 41) (?vg30) rfl (Or.inl ⟨by rfl,?hg30⟩) hSn ?rg30;case hg30=>
   intro w m;have G:=(a.below m).ix.cell 0;simp only[List.getElem?_cons_zero] at G;go_simp;try with_reducible rfl
  simp only[Act.put,zA,zB,zC];refine BO 4 [6] (λw m=>Cf (AX i.o m) 0 1) ?_;refine JL 5 [6] (some 43) (.agg (cellL 3 c false).toArray) rfl (yieldsIf_load_mid (by rfl) 45 _ rfl M 0 rfl (cellL 3 c false) _ (λw m=>(AX j.o m).Af) underlying45 rfl (by as_aux_lemma=>kernel_rfl)) hSn ?rg32;simp only[Act.put,zA,zB,zC];refine BN 6 rfl (λK p=>?_);obtain⟨D,F,hl⟩:=a.map;refine E9 rfl (.tmp 41) (.tmp 42) (.tmp 43) 246 rfl 37 45 CV underlying246 BZ b n D rfl F (by unfold maxLen;omega) _ _ _ rfl rfl V.o _ [] rfl ?_;intro H E u;obtain⟨I,C⟩:=WZ (show BF H g b (n+1) (Ci l ⟨r,s,cellL 3 c false⟩) from⟨by have:=a.ix.touch (BM u) aa;exact this,⟨_,E,hl.put a.wf ⟨r,s,cellL 3 c false⟩ X.o⟩,Qa a.good ⟨⟨A.1,A.2.1⟩,A.2.2⟩,TF a.rows (Lh _ _ _)⟩) (BM u);clear E hl F u;refine BR p ?_;clear p;refine BA ?_;have J:=qh (show Touch b w H from((Touch.of_below d.o).trans C.o));clear a i j d C;go_wp2_with fail;go_ret;exact⟨rfl,I.o,J.o⟩
end
def IP(w:World)(b:Nat):Prop:=∃es clock,w.heap[b]?=some (.map es clock)
theorem Holds.ne_of{w:World}{a b:Nat}{t t':TypeId}{L L':List Value}(h:Holds w a t L)(h':Holds w b t' L')(ht:t≠t'):a≠b:=by rintro rfl;unfold Holds at h h';rw[h] at h';injection h' with h';injection h' with _ c;exact ht c
theorem Du{w:World}{b k:Nat}{e:TypeId}{L:List Value}(hm:IP w b)(h:Holds w k e L):k≠b:=by rintro rfl;obtain⟨c,a,hm⟩:=hm;unfold Holds at h;rw[h] at hm;cases hm
theorem BF.isMap{w:World}{g b n:Nat}{l:List A7}(h:BF w g b n l):IP w b:=by obtain⟨D,⟨c,a,d,r⟩,f⟩:=h.map;exact⟨c,a,d⟩
theorem DV.isMap{w:World}{g b n:Nat}{d:Nat->Int}{l:List CY}(h:DV w g b n d l):IP w b:=by obtain⟨D,⟨c,a,f,r⟩,i⟩:=h.map;exact⟨c,a,f⟩
abbrev wC:Keyed prog 3:=int_keyed underlying3
def mZ:List (Int × Int)->DataW Empty
 | []=>.map []
 | (k,v) :: r=>(mZ r).put (.int .i64 k) (.lit (.int .i64 v))
def We(w:World)(b:Nat)(l:List (Int × Int)):Prop:=w.ownsMap prog 3 (plainElem prog 3) b l.length (mZ l)
theorem We.made(w:World):We (w.alloc (.map #[] 0)) w.heap.size []:=World.ownsMap_made w _ _ _
theorem GY{w:World}{ops:Array Oper}{rest:List Oper}{o:Oper}{a:Act}{Q:Exit->Act->World->Prop} (hg:o.guard=none) (m x v:Operand) (hop:o.op=Op.insert 320 m x v) (b:Nat) (l:List (Int × Int)) (hm:a.eval m=.map (some b)) (hown:We w b l) (hn:l.length<=100) (key val:Int) (hx:a.eval x=AA key) (hv:a.eval v=AA val) (hk1:(Lit.int .i64 key).wf=true) (hk2:(Lit.int .i64 val).wf=true) (hK:∀w',We w' b ((key,val) :: l)->w.grownBy w' (some b)->wpList prog ops Q rest (a.put o.dst undef) w') :wpList prog ops Q (o :: rest) a w:=by refine wpList_plain hg λh c=>?_;obtain⟨w',d,f,g⟩:=hown.update wC (e:=3) underlying320 (by unfold maxLen;omega) (keyOf_int_mk underlying3 hk1) (plainElem_int (H:=Empty) underlying3 hk2);unfold Oper.wp;simp[execOp,hop,hm,hx,hv,d,Result.andThen];exact c _ _ (hK w' f g)
theorem We.look{w:World}{b:Nat}{l:List (Int × Int)}(h:We w b l)(k v:Int)(hk:(Lit.int .i64 k).wf=true)(he:(mZ l).atKey (.int .i64 k) (.lit (.int .i64 0))=.lit (.int .i64 v)) :(Instr.lookup 320 (.map (some b)) (.int .i64 k) false).run prog w=.ok (.int .i64 v) w:=by obtain⟨c,g,a,_⟩:=h.lookup_int (e:=3) (q:=.i64) wC underlying320 underlying3 ND (keyOf_int_mk underlying3 hk);rw[he] at a;injection a with d;injection d with _ f;rw[f];exact g
theorem Touch.of_grownBy{w w':World}{b:Nat}(h:w.grownBy w' (some b)):Touch b w w':=⟨h.os,h.tape,h.output,h.size,λk a c=>h.block k a λe=>by cases e;exact c rfl⟩
theorem Zi:(mZ [(7,2),(4,1),(2,0)]).atKey (.int .i64 2) (.lit (.int .i64 0))=.lit (.int .i64 0):=by rfl
def Fl.ob(x:Fl):Option Nat:=(Value.slice x.p x.n x.c).ownBlock
def Gf(w:World)(x:Fl):Prop:=∃bs:List Nat,AV w (.slice x.p x.n x.c) x.ob 5 1 x.n (Ak bs)/\(∀y∈bs,y<256)/\x.n<=100000/\(x.n=0->x.p=none/\x.c=0)
theorem Gf.bel{w w':World}{x:Fl}(h:Gf w x)(hb:Below w.heap.size w w'):Gf w' x:=by obtain⟨a,b,c⟩:=h;exact⟨a,b.bel hb,c⟩
instance {w w':World}{x:Fl}:Bl w w' (Gf w x) (Gf w' x):=⟨λhb h=>Gf.bel h hb⟩
theorem Gf.mv{w w':World}{F:Ap}{x:Fl}(h:Gf w x)(hm:Mv F w w')(hn:∀g,x.ob=some g->¬F g):Gf w' x:=by obtain⟨a,b,c⟩:=h;exact⟨a,b.mv hm hn,c⟩
structure BP(w:World)(gd:Nat)(fs:Value)(of:Option Nat)(l:List Fl):Prop where
 d:Holds w gd 125 (JR fs)
 f:Ba w fs of l
 b:∀x∈l,Gf w x
theorem BP.bel{w w':World}{gd:Nat}{fs:Value}{of:Option Nat}{l:List Fl}(h:BP w gd fs of l)(hb:Below w.heap.size w w'):BP w' gd fs of l:=⟨h.d.bel hb,h.f.bel hb,λx a=>(h.b x a).bel hb⟩
instance {w w':World}{gd:Nat}{fs:Value}{of:Option Nat}{l:List Fl}:Bl w w' (BP w gd fs of l) (BP w' gd fs of l):=⟨λhb h=>BP.bel h hb⟩
theorem BP.mv{w w':World}{F:Ap}{gd:Nat}{fs:Value}{of:Option Nat}{l:List Fl}(h:BP w gd fs of l)(hm:Mv F w w')(h1:¬F gd)(h2:∀g,of=some g->¬F g)(h3:∀x∈l,∀g,x.ob=some g->¬F g):BP w' gd fs of l:=⟨h.d.mv hm h1,h.f.mv hm h2,λx a=>(h.b x a).mv hm (h3 x a)⟩
theorem AV.ne_of{w:World}{v:Value}{ob:Option Nat}{e t:TypeId}{s n:Nat}{xs L:List Value}{a:Nat}(h:AV w v ob e s n xs)(ha:Holds w a t L)(he:e≠t):∀g,ob=some g->g≠a:=λg b=>by
 rcases h.cases with⟨_,c,_⟩|⟨f,_,_,_,c,_,_,d,_⟩
 .rw[c] at b;cases b
 .rw[c] at b;cases b;exact d.ne_of ha he
theorem AV.Ey{w:World}{v v':Value}{ob ob':Option Nat}{e t:TypeId}{s n s' n':Nat}{xs xs':List Value}(h:AV w v ob e s n xs)(ha:AV w v' ob' t s' n' xs')(he:e≠t):∀g,ob=some g->ob'≠some g:=λg c a=>by
 rcases ha.cases with⟨_,b,_⟩|⟨f,_,_,_,b,_,_,d,_⟩
 .rw[b] at a;cases a
 .rw[b] at a;cases a;exact h.ne_of d he g c rfl
def sizes(l:List Fl):Nat:=(l.map Fl.n).sum
theorem NM(l:List Fl)(i:Nat)(hi:i<l.length):sizes (l.take (i+1))=sizes (l.take i)+(l.getD i .zero).n:=by unfold sizes;rw[List.take_add_one,List.map_append,List.sum_append,List.getElem?_eq_getElem hi];simp[List.getD,hi]
theorem LP(l:List Fl)(i:Nat):sizes (l.take i)<=sizes l:=by
 have:sizes l=sizes (l.take i)+sizes (l.drop i):=by unfold sizes;rw[<-List.sum_append,<-List.map_append,List.take_append_drop]
 omega
theorem Lp(gd:Nat)(v:Value)(ob:Option Nat)(l:List Fl)(key:ByteArray)(w:World)(hd:Holds w gd 125 (JR v))(h:Ba w v ob l) :Calls prog 189 #[AP gd,.string key] w λe w'=>e=.returned (.tuple #[AA ((Az l key).1:Int),.bool (Az l key).2])/\Below w.heap.size w w':=by
 obtain⟨p,c,rfl,Q,P,_,y⟩:=h.rows;obtain⟨B,f⟩:=WZ y hd;have R:l.length<=maxLen:=y.1;unfold maxLen at R;have A:=qh (VU l key);generalize O:Az l key=F at A |-;obtain⟨U,T⟩:=F;clear y h O Q P hd;go_in;have G:=Am f.o 1;go_wp2_with fail;clear G;go_loopw [13] (λi wr=>∃k:Nat,k<=l.length/\i=AA k/\Hid (∀j,j<k->SpanP.lt (l.getD j .zero).nm key=true)/\Below w.heap.size w wr) (λi _=>l.length - (intOf i).toNat);case atStart=>exact⟨0,BJ,rfl,qh λj K=>absurd K BJ,by go_grown⟩
 case round=>
  obtain⟨k,V,rfl,m,J⟩:=hrel;have a:=qh J;clear J;by_cases H:k<l.length
  .obtain⟨b,off,rfl,hlt⟩:=B.spot BJ;have r:=qh (show wr.rangeAt b (off+k*3) (l.getD k .zero).cells from B.range a.o H);have z:=A.out k m.o;obtain⟨q,x⟩:∃q,q=l.getD k .zero:=⟨_,rfl⟩;rw[<-x] at z r;obtain⟨s,N⟩:=WZ z x;clear z x;go_upto_region 4 with(first|(refine lM (off+k*3) r.o ?_)|(refine Ai rfl 129 _ _ rfl rfl _ _ q.cells.toArray rfl rfl ND ND (Fl.one' _) ?_));go_name_world W t;have u:Holds W wr.heap.size 129 q.cells:=by rw[<-t];exact AC wr _ _
   have I:Below w.heap.size w W:=by rw[<-t];exact a.alloc a.size _
   clear t a r;have a:=qh I;clear I;have C:=u.cell 0;have E:=λd S=>u.grown d S 0;simp only[Fl.cells,yA,yB] at C E;clear u;have g:∃b,Op.bytesLess q.nm.toList key.toList=b:=⟨_,rfl⟩;obtain⟨D,g⟩:=g;have M:=qh (show SpanP.lt q.nm key=D from g);cases D
   .have he:=s.1 H g;have n:=qh he;clear s he;go_upto_region 5 with(fail);refine wp_region_quiet_below ND ND ?_;repeat go_big_quiet_step (fail)
    refine wpQuiet_nil ?_;intro X L;have a:=qh (AO a.o (Aa L));clear L C E;go_wp2_with fail;have e:=n.o;simp only[Prod.mk.injEq] at e;exact bodyPost_ret (v:=.tuple #[AA k,.bool (SpanP.same q.nm key)]) (by simp[results,results189,go_sem,SpanP.same]) rfl ⟨by rw[e.1,e.2],a.o⟩
   .clear s;go_wp2_with fail;go_roundw;case rel=>exact⟨k+1,BJ,by go_num,qh λj K=>if hjk:j<k then m.o j hjk else (by rw[show j=k by omega,<-N.o];exact M.o),a.o⟩
    case measure=>simp[intOf];omega
  .obtain rfl:k=l.length:=BJ
   obtain⟨n,f⟩:=WZ ((A.out _ m.o).2 rfl) (f.bel a.o);have G:=Am f.o 1;go_wp2_with fail;have e:=n.o;simp only[Prod.mk.injEq] at e;exact b2 (v:=.tuple #[AA l.length,.bool false]) ⟨by rw[e.1,e.2],a.o⟩
theorem XF(gd:Nat)(v:Value)(ob:Option Nat)(l:List Fl)(w:World)(hd:Holds w gd 125 (JR v))(h:Ba w v ob l)(hs:sizes l<=1000000) :Calls prog 279 #[AP gd] w λe w'=>e=.returned (AA (sizes l:Int))/\Below w.heap.size w w':=by
 obtain⟨p,c,rfl,F,E,_,r⟩:=h.rows;obtain⟨t,d⟩:=WZ r hd;have G:l.length<=maxLen:=r.1;unfold maxLen at G;clear r h F E hd;go_in;have u:=Am d.o 1;go_wp2_with fail;clear u;go_loopw [11,3] (λi H wr=>∃k:Nat,k<=l.length/\i=AA k/\H=AA (sizes (l.take k):Int)/\Below w.heap.size w wr) (λi _ _=>l.length - (intOf i).toNat);case atStart=>exact⟨0,BJ,rfl,rfl,by go_grown⟩
 case round=>
  obtain⟨k,J,rfl,rfl,z⟩:=hrel;have a:=qh z;clear z;by_cases x:k<l.length
  .obtain⟨b,off,rfl,hlt⟩:=t.spot BJ;have g:=qh (show wr.rangeAt b (off+k*3) (l.getD k .zero).cells from t.range a.o x);have f:=NM l k x;have K:=LP l (k+1);obtain⟨q,B⟩:∃q,q=l.getD k .zero:=⟨_,rfl⟩;rw[<-B] at f g;clear B;have s:=qh f;generalize sizes (l.take k)=m at f s |-;have L:IntKind.i64.wrap ((m:Int)+q.n)=(m:Int)+q.n:=IntWalk.i64_in _ BJ;clear f;go_upto_region 5 with(first|(refine lM (off+k*3) g.o ?_)|(refine Ai rfl 129 _ _ rfl rfl _ _ q.cells.toArray rfl rfl ND ND (Fl.one' _) ?_));go_name_world W j;have A:Holds W wr.heap.size 129 q.cells:=by rw[<-j];exact AC wr _ _
   have y:Below w.heap.size w W:=by rw[<-j];exact a.alloc a.size _
   clear j a g;have a:=qh y;clear y;have I:=Am A 1;clear A;go_wp2_with fail;go_roundw;case rel=>exact⟨k+1,BJ,by go_num,by rw[s.o];simp,a.o⟩
   case measure=>simp[intOf];omega
  .obtain rfl:k=l.length:=BJ
   have d:=qh (d.bel a.o);have u:=Am d.o 1;have C:l.take l.length=l:=List.take_length;have D:=qh C;clear C;go_wp2_with fail;go_ret;exact⟨by rw[D.o];rfl,a.o⟩
structure SA(nm:ByteArray):Prop where
 ne:nm.toList.isEmpty=false
 size:nm.size<=24
 ch:∀i (h:i<nm.size),33<=nm[i].toNat/\nm[i].toNat<=126
theorem VN(nm:ByteArray)(w:World)(h:SA nm):Calls prog 224 #[.string nm] w λe w'=>e=.returned (.bool true)/\Below w.heap.size w w':=by
 obtain⟨m,f,b⟩:=h;have c:=qh b;have g:¬(24:Int)<nm.size:=BJ
 clear b;go_in;go_wp2_with fail
 go_loop [13] (λa=>∃i:Nat,i<=nm.size/\a=AA (i:Int)) (λa=>nm.size - (intOf a).toNat)
 case atStart=>exact⟨0,BJ,rfl⟩
 case round=>
  obtain⟨i,l,rfl⟩:=hrel;by_cases d:i<nm.size
  .obtain⟨hc1,hc2⟩:=c.o i d;have j:¬(nm[i].toNat:Int)<33:=BJ
   have k:¬(126:Int)<nm[i].toNat:=BJ
   go_wp2_with fail
   go_round
   case rel=>exact⟨i+1,BJ,Vj⟩
   case measure=>simp[intOf];omega
  .obtain rfl:i=nm.size:=BJ
   go_wp2_with fail;go_ret;exact⟨rfl,Below.refl _ _⟩
theorem ZP(gd:Nat)(v:Value)(ob:Option Nat)(l:List Fl)(w:World)(hd:Holds w gd 125 (JR v))(h:Ba w v ob l)(hs:sizes l<=500000) :Calls prog 225 #[AP gd] w λe w'=>e=.returned (AA (524288 - (sizes l:Int)))/\Below w.heap.size w w':=by obtain⟨g,a,c⟩:=bP (λW (hd:Holds W gd 125 (JR v)) (h:Ba W v ob l)=>XF gd v ob l W hd h BJ) hd h;clear h hd;go_in;go_upto_region 1 with(fail);have b:=qh (Base.start w);obtain⟨b,a,c⟩:=D5 (AY _ w) b a c;refine Ed [] 8 (λhSn=>?_);generalize w.drew=k at b a c hSn |-;simp only[List.replicate];refine ES 0 ?_;refine BO 3 [] (λw i=>Am (a.bel i) 0) ?_;refine CW 4 ?_;refine BN 5 rfl (λK d=>?_);go_simp;refine Ah (g.o _ (a.bel hSn) (c.bel hSn)) ?_;rintro j f;have hSn:=AO hSn f;clear f;refine BR d ?_;clear d;refine F9 6 ?_;refine BA ?_;obtain⟨b,a,c⟩:=D5 hSn b a c;clear hSn;go_wp2_with fail;go_ret;exact⟨Jt (IntWalk.i64_in _ BJ),b.below⟩
theorem QE(gd:Nat)(v:Value)(ob:Option Nat)(l:List Fl)(nm:ByteArray)(i:Nat)(w:World)(hd:Holds w gd 125 (JR v))(h:Ba w v ob l)(hi:Az l nm=(i,true)) :Calls prog 194 #[AP gd,.string nm] w λe w'=>e=.returned (.tuple #[AA i,AA 0])/\Below w.heap.size w w':=by
 obtain⟨d,c⟩:=WZ (show Calls prog 189 #[AP gd,.string nm] w λe w'=>e=.returned (.tuple #[AA i,.bool true])/\Below w.heap.size w w' by have:=Lp gd v ob l nm w hd h;rw[hi] at this;exact this) hd;clear hd h hi;go_in;have f:=Am c.o 2;go_wp2_with fail;refine d.mono ?_;rintro e g ⟨rfl,a⟩;have b:=qh a;clear a f;go_wp2_with fail
 go_ret2
 exact⟨rfl,b.o⟩
theorem sU(w:World):Calls prog 282 #[AL,AA 0] w λe w'=>e=.returned AL/\Below w.heap.size w w':=by go_in;go_wp2_with fail;go_ret;exact⟨rfl,Below.refl _ _⟩
theorem dS(gs:Nat)(w:World)(hg:Holds w gs 127 [AL,AL]) :Calls prog 227 #[.slice (Ac gs) 2 2] w λe w'=>e=.returned AL/\Below w.heap.size w w':=by
 obtain⟨g,a⟩:=WZ sU hg;clear hg;go_in;go_wp2_with fail
 go_loop [11,3] (λb f=>∃i:Nat,b=AA (i:Int)/\i<=2/\f=AA 0) (λb _=>2 - (intOf b).toNat)
 case atStart=>exact⟨0,rfl,BJ,rfl⟩
 case round=>
  obtain⟨i,rfl,h,rfl⟩:=hrel;rcases(show i=0\/i=1\/i=2 by omega) with rfl|rfl|rfl
  .have g0:=a.cell 0;simp only[yA,yB] at g0;go_wp2_with fail
   go_round
   case rel=>exact⟨1,rfl,BJ,rfl⟩
   case measure=>simp[intOf]
  .have g1:=a.cell 1;simp only[yA,yB] at g1;go_wp2_with fail
   go_round
   case rel=>exact⟨2,rfl,BJ,rfl⟩
   case measure=>simp[intOf]
  .go_wp2_with fail;refine Ah (g.o _) ?_;rintro j d;have c:=qh d;have a:=D9 d a;clear d;go_wp2_with fail;go_loopw [27,6] (λb f wr=>∃i:Nat,b=AA (i:Int)/\i<=2/\f=AL/\Below w.heap.size w wr/\Holds wr gs 127 [AL,AL]) (λb _ _=>2 - (intOf b).toNat);case atStart=>exact⟨0,rfl,BJ,rfl,c.o,a.o⟩
   case round=>
    clear c a;obtain⟨i,rfl,h,rfl,d,hg⟩:=hrel;obtain⟨c,a⟩:=WZ d hg;clear d hg;rcases(show i=0\/i=1\/i=2 by omega) with rfl|rfl|rfl
    .have g0:=a.cell 0;simp only[yA,yB] at g0;go_wp2_with (first|(at_builtin;refine Dn rfl (.tmp 31) (.tmp 32) 127 rfl 5 (.int .u8 0) 1 1 rfl ND _ none 0 [] rfl (AV.nil _ _ _) rfl ?_));go_roundw;case rel=>exact⟨1,rfl,BJ,rfl,c.o,a.o⟩
     case measure=>simp[intOf]
    .have g1:=a.cell 1;simp only[yA,yB] at g1;go_wp2_with (first|(at_builtin;refine Dn rfl (.tmp 31) (.tmp 32) 127 rfl 5 (.int .u8 0) 1 1 rfl ND _ none 0 [] rfl (AV.nil _ _ _) rfl ?_));go_roundw;case rel=>exact⟨2,rfl,BJ,rfl,c.o,a.o⟩
     case measure=>simp[intOf]
    .go_wp2_with fail;go_ret;exact⟨rfl,c.o⟩
theorem UO(l:List Fl)(rest:List Value)(i j:Nat)(hi:i<l.length)(hj:j<3):(Jk l++rest)[i*3+j]?=(l.getD i .zero).cells[j]?:=by rw[List.getElem?_append_left (by rw[FZ];omega)];exact QI l i j hi hj
theorem YU:∀(l:List Fl) (rest:List Value) (i:Nat) (p:Option Addr) (n c:Nat),i<l.length->(Jk l++rest).set (i*3+1) (.slice p n c)=Jk (l.set i ⟨(l.getD i .zero).nm,p,n,c,(l.getD i .zero).kept⟩)++rest
 | [],_,_,_,_,_,h=>by simp at h
 | x :: l,rest,0,p,n,c,_=>rfl
 | x :: l,rest,i+1,p,n,c,h=>by
  have ih:=YU l rest i p n c (by simpa using h);rw[G8,List.append_assoc,show (i+1)*3+1=x.cells.length+(i*3+1) by rw[Fl.len];omega,List.set_append_right _ _ BJ,Nat.add_sub_cancel_left,ih]
  rfl
theorem VW:∀(l:List Fl) (rest:List Value) (i:Nat) (k:Int),i<l.length->(Jk l++rest).set (i*3+2) (AA k)=Jk (l.set i ⟨(l.getD i .zero).nm,(l.getD i .zero).p,(l.getD i .zero).n,(l.getD i .zero).c,k⟩)++rest
 | [],_,_,_,h=>by simp at h
 | x :: l,rest,0,k,_=>rfl
 | x :: l,rest,i+1,k,h=>by
  have ih:=VW l rest i k (by simpa using h);rw[G8,List.append_assoc,show (i+1)*3+2=x.cells.length+(i*3+2) by rw[Fl.len];omega,List.set_append_right _ _ BJ,Nat.add_sub_cancel_left,ih]
  rfl
theorem Au.xn{w:World}{B:Nat}{p:Option Addr}{n c:Nat}(h:Au w B (.slice p n c) n)(h1:n<=100000)(h0:n=0->p=none/\c=0)(nm:ByteArray)(k:Int):Gf w ⟨nm,p,n,c,k⟩/\∀g,Fl.ob ⟨nm,p,n,c,k⟩=some g->B<=g:=by obtain⟨d,l,⟨f,_⟩,j⟩:=h;obtain⟨ob,a,i⟩:=AV.of j;have b:Fl.ob ⟨nm,p,n,c,k⟩=ob:=a.ob;exact⟨⟨d,b▸a,f,h1,h0⟩,b▸i⟩
theorem Gf.ET{w:World}{x:Fl}(h:Gf w x):Be w (.slice x.p x.n x.c) x.n:=by obtain⟨d,a,f,g,i⟩:=h;have b:=a.len;rw[BU,Nat.mul_one] at b;exact Au.ET (B:=0) ⟨d,b,⟨f,BJ⟩,a.own⟩
def Pg(l:List Fl)(nm:ByteArray):List Fl:=if (Az l nm).2 then l else l.take (Az l nm).1++⟨nm,none,0,0,0⟩ :: l.drop (Az l nm).1
theorem sK(l:List Fl)(nm:ByteArray):(Az l nm).1<(Pg l nm).length:=by
 have h:=GR l nm;unfold Pg;split
 .exact h.2 (by assumption)
 .simp;omega
def Fp(l:List Fl)(nm:ByteArray)(p:Option Addr)(len c:Nat):List Fl:=(Pg l nm).set (Az l nm).1 ⟨((Pg l nm).getD (Az l nm).1 .zero).nm,p,((Pg l nm).getD (Az l nm).1 .zero).n+len,c,((Pg l nm).getD (Az l nm).1 .zero).kept⟩
theorem XB(gs:Nat)(x:Fl)(p:Option Addr)(len c B:Nat)(w:World)(hg:Holds w gs 127 [.slice x.p x.n x.c,.slice p len c])(hx:Gf w x)(hv:Au w B (.slice p len c) len)(hl:len<=100000)(h1:1<=len\/(Value.slice p len c=AL/\x.n=0)) :Calls prog 227 #[.slice (Ac gs) 2 2] w λe w'=>∃p' c',e=.returned (.slice p' (x.n+len:Nat) c')/\Au w' w.heap.size (.slice p' (x.n+len:Nat) c') (x.n+len)/\(x.n+len=0->p'=none/\c'=0)/\Below w.heap.size w w':=by
 have f:=Gf.ET hx;obtain⟨_,_,_,l,d⟩:=hx;rcases h1 with h1|⟨g,a⟩
 .refine(kw gs (.slice x.p x.n x.c) (.slice p len c) x.n len [] w hg f hv.ET ?_ BJ h1 BJ).mono ?_
  .by_cases a:x.n=0
   .obtain⟨e1,e2⟩:=d a;exact .inl (by rw[e1,e2,a])
   .exact .inr BJ
  .rintro e w' ⟨v,rfl,ho,b⟩;obtain⟨p',c',rfl⟩:=ho.shape;exact⟨p',c',rfl,ho,λh=>BJ,b⟩
 .obtain⟨e1,e2⟩:=d a;injection g with i j k;subst i j k;rw[e1,e2,a] at hg;refine Ah (dS gs w hg) ?_;rintro w' b;refine⟨none,0,by rw[a],?_,λ_=>⟨rfl,rfl⟩,b⟩;rw[a];exact⟨[],rfl,⟨λ_ h=>(by cases h),BJ⟩,World.ownsRow_nil _ _ _ _⟩
end Go.Proofs.YtimdpiifpibgfaaGreatDoor
