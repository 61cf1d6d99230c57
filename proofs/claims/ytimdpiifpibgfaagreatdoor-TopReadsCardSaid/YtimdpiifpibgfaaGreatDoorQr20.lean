/- A part of the proof of TopReads. -/
import Derived.Test.YtimdpiifpibgfaaGreatDoorQr19
set_option linter.all false
set_option maxRecDepth 20000
set_option maxHeartbeats 16000000
open Go.RowKit Go.Maps
namespace Go.Proofs.YtimdpiifpibgfaaGreatDoor
open Tryz
section
variable [In]
theorem P9(w:World):(Instr.build 45 #[(1,.agg #[AA 0,AA 0])]).run prog w=.ok (.agg JA.toArray) w:=by unfold JA;go_simp
theorem GU(w:World):Calls prog 136 #[.agg JA.toArray] w λe w'=>e=.returned (.bool true)/\Below w.heap.size w w':=by obtain⟨m,s,r,q,k,j⟩:=mG Dl Ji EJ JJ Ud P9;go_in;go_upto_region 1 with(fail);go_name_world W n;obtain⟨a,p,u⟩:=GI 45 (JA) n;clear n;have b:=qh (Base.start w);have b:=D9 p b;clear p u;generalize t:w.heap.size=B at a b |-;obtain⟨g,d,f⟩:=Yz a.o 0 1 2;go_wp2_with fail;refine Ah (m.o _) ?_;rintro N c;obtain⟨a,b⟩:=Ce c a b;clear c g d f;obtain⟨h,i⟩:=Cf a.o 3 4;go_wp2_with fail;refine Ah (m.o _) ?_;rintro O c;obtain⟨a,b⟩:=Ce c a b;clear c h i;obtain⟨d,f,h,i⟩:=xH a.o 1 2 3 4;go_wp2_with fail;refine Ah (s.o _) ?_;rintro P c;obtain⟨a,b⟩:=Ce c a b;clear c d f h i;obtain⟨g,d,f,I,J,K,L,M⟩:=EE a.o 0 1 2 5 6 7 8 9;obtain⟨v,x,H⟩:=Yz a.o 10 11 20;have l:=qh a.Af;go_wp2_with (first|(with_reducible refine lR 0 l.o ?_)|(with_reducible show wpList _ _ _ (_ :: _) _ _;refine LW ND 45 1 _ rfl _ rfl (.agg JA.toArray) j.o ?_)|(with_reducible show wpList _ _ _ (_ :: _) _ _;refine NU ND .neq 45 _ _ _ rfl JA.toArray JA.toArray rfl rfl ND (.bool false) k.o ?_));refine Ah (q.o _) ?_;rintro Q c;obtain⟨a,b⟩:=Ce c a b;clear c g d f I J K L M v x H k j l;obtain⟨y,z,A,C,D,E,F,G⟩:=EE a.o 12 13 14 15 16 17 18 19;go_wp2_with fail;refine Ah (r.o _) ?_;rintro R c;have b:=D9 c b;clear c y z A C D E F G;go_wp2_with fail;go_ret;exact⟨rfl,t▸b.below⟩
end
theorem Iw{l:List A7}{e:A7}(h:e∈l):Et l e.r e.s=true:=List.any_eq_true.2 ⟨e,h,Vj⟩
theorem lq{l:List A7}{r s:Int}(h:∀e∈l,¬(e.r=r/\e.s=s)):Et l r s=false:=List.any_eq_false.2 λe a=>by have:=h e a;simpa using this
theorem iV{l:List A7}{e x:A7}(h:x∈Ci l e):x=e\/(x∈l/\¬(x.r=e.r/\x.s=e.s)):=by
 unfold Ci at h;split at h
 .obtain⟨y,hy,rfl⟩:=List.mem_map.1 h;split
  .exact .inl rfl
  .exact .inr ⟨hy,by assumption⟩
 .rename_i hn;rcases List.mem_append.1 h with h|h
  .refine .inr ⟨h,λa=>hn (List.any_eq_true.2 ⟨x,h,by simp[a.1,a.2]⟩)⟩
  .exact .inl (List.mem_singleton.1 h)
theorem Zn(l:List A7)(e:A7):e∈Ci l e:=by
 unfold Ci;split
 .rename_i h;obtain⟨y,b,a⟩:=List.any_eq_true.1 h;exact List.mem_map.2 ⟨y,b,if_pos (by simpa using a)⟩
 .exact List.mem_append.2 (.inr (List.mem_singleton.2 rfl))
theorem iQ{l:List A7}{e x:A7}(h:x∈l)(hk:¬(x.r=e.r/\x.s=e.s)):x∈Ci l e:=by
 unfold Ci;split
 .exact List.mem_map.2 ⟨x,h,if_neg hk⟩
 .exact List.mem_append.2 (.inl h)
theorem OA(l:List A7)(e:A7):(Ci l e).length<=l.length+1:=by
 unfold Ci;split
 .rw[List.length_map];omega
 .rw[List.length_append];exact Nat.le_refl _
section
variable [In] [CO]
theorem TD(q:Nat)(hq:q<7):(Lit.int .i64 (q:Int)).wf=true:=by rcases(show q=0\/q=1\/q=2\/q=3\/q=4\/q=5\/q=6 by omega) with rfl|rfl|rfl|rfl|rfl|rfl|rfl<;>rfl
theorem Lt(gl gm nl q:Nat)(V:List Value)(L:List A7)(w:World)(h:BF w gl gm nl L)(hL:(⟨q,In.sl,V⟩:A7)∈L)(hq:q<7) :Calls prog 82 #[AP gl,.agg #[AA q,AA In.sl]] w λe w'=>e=.returned (.tuple #[.agg V.toArray,.bool true])/\Below w.heap.size w w':=by refine(JX gl gm nl _ q In.sl w h (TD q hq) RF).mono ?_;rintro e w' ⟨v,d,f,a,g,rfl,b⟩;have c:=a ⟨q,In.sl,V⟩ hL rfl rfl;refine⟨?_,b⟩;rw[c,show Et L q In.sl=true from Iw hL]
theorem QV(gl gm nl q:Nat)(L:List A7)(w:World)(h:BF w gl gm nl L)(hL:Et L q In.sl=false)(hq:q<7) :Calls prog 82 #[AP gl,.agg #[AA q,AA In.sl]] w λe w'=>e=.returned (.tuple #[.agg zero21.toArray,.bool false])/\Below w.heap.size w w':=by refine(JX gl gm nl _ q In.sl w h (TD q hq) RF).mono ?_;rintro e w' ⟨v,d,f,g,a,rfl,b⟩;have c:=a hL;refine⟨?_,b⟩;rw[c,hL]
theorem Le(st:Int)(c:Cm)(sm:Bool):(cellL st c sm).toArray.all (·.oneCell')=true:=by simp[cellL,Value.oneCell']
theorem NW:zero21.toArray.all (·.oneCell')=true:=by simp[zero21,Value.oneCell']
def qE(L:List A7)(q:Nat)(c:Cm)(cv:List Value)(b:Bool):Prop:=(Et L q In.sl=false/\cv=zero21/\b=false)\/((⟨q,In.sl,cellL 1 c true⟩:A7)∈L/\cv=cellL 1 c true/\b=true)
theorem qE.cells{L:List A7}{q:Nat}{c:Cm}{cv:List Value}{b:Bool}(h:qE L q c cv b):∃st:Int,(st==3)=false/\cv[0]?=some (AA st)/\cv[1]?=some (AA 0)/\cv[2]?=some (AA 0)/\cv[3]?=some (AA 0)/\cv[4]?=some (AA 0)/\cv.length=21/\cv.toArray.all (·.oneCell')=true:=by
 rcases h with⟨_,rfl,_⟩|⟨_,rfl,_⟩
 .exact⟨0,rfl,rfl,rfl,rfl,rfl,rfl,rfl,NW⟩
 .exact⟨1,rfl,rfl,rfl,rfl,rfl,rfl,rfl,Le _ _ _⟩
theorem qE.look{L:List A7}{q:Nat}{c:Cm}{cv:List Value}{b:Bool}(h:qE L q c cv b)(gl gm nl:Nat)(w:World)(hl:BF w gl gm nl L)(hq:q<7) :Calls prog 82 #[AP gl,.agg #[AA q,AA In.sl]] w λe w'=>e=.returned (.tuple #[.agg cv.toArray,.bool b])/\Below w.heap.size w w':=by
 rcases h with⟨h,rfl,rfl⟩|⟨h,rfl,rfl⟩
 .exact QV gl gm nl q L w hl h hq
 .exact Lt gl gm nl q _ L w hl h hq
theorem qE.set{L:List A7}{q:Nat}{c:Cm}{cv:List Value}{b:Bool}(h:qE L q c cv b):Et L q In.sl=false\/(Et L q In.sl=true/\(3:Int)=3/\false=false/\∃e∈L,e.r=(q:Int)/\e.s=In.sl/\e.L=cellL 1 c true):=by
 rcases h with⟨h,_⟩|⟨h,_⟩
 .exact .inl h
 .exact .inr ⟨Iw h,rfl,rfl,_,h,rfl,rfl,rfl⟩
def qy(gc n me gl gm nl gi gx ni:Nat)(L:List A7)(E:List CY)(V out:Value)(ob:Option Nat)(ls:List Ld)(q:Nat)(st:Int)(c:Cm)(sm:Bool)(w w':World):Prop:=
 ∃(gr cr m:Nat) (rv:Value) (rest:List Value),BB w' gc n me gl gm (nl+1) gi gx (ni+1) (Ci L ⟨q,In.sl,cellL st c sm⟩) (IA E ⟨q,In.sl,c,In.aq⟩) V (.slice (Ac gr) 1 cr) out/\Bc w' V ob ls/\Holds w' gr 127 (rv :: rest)/\Au w' w.heap.size rv m/\(1<=m/\m<=480)/\w.heap.size<=gr/\Mv (λk=>(k=gc\/k=gm\/k=gx)\/ob=some k) w w'
theorem je(gc n me gl gm nl gi gx ni f t q:Nat)(c:Cm)(L:List A7)(E:List CY)(V:Value)(ob:Option Nat)(ls:List Ld)(cv:List Value)(bv:Bool)(w:World)(h:BB w gc n me gl gm nl gi gx ni L E V AL AL)(hls:Bc w V ob ls)(hno:∀l∈ls,l.is q In.sl=false)(hlen:ls.length<=900)(hwas:qE L q c cv bv)(hnl:nl<=1000)(hni:ni<=1000)(hq:q<7)(hc:JB c) :Calls prog 142 #[AP gc,.agg (BC 5 f t q c).toArray] w λe w'=>e=.returned (.tuple #[])/\∃V',qy gc n me gl gm nl gi gx ni L E V' AL ob ls q 3 c false w w':=by
 obtain⟨K,M,KS⟩:=bP (λW (h:BF W gl gm nl L)=>hwas.look gl gm nl W h hq) (λW (h:Holds W gc 163 (BG n me gl gi V AL AL)) F=>Oq gc n me gl gi V AL AL ob ls q In.sl W h F BJ) (λV' W (h:BB W gc n me gl gm nl gi gx ni L E V' AL AL)=>OQ gc n me gl gm nl gi gx ni L E V' AL q 3 c false W h hnl hni hq hc (.inr ⟨rfl,rfl⟩) hwas.set);obtain⟨st,a0,c0,c1,c2,c3,c4,S,ac⟩:=hwas.cells;obtain⟨g,p,r,a⟩:=bY h h.hc h.lg hls;have ad:=Jb hno;have az:=h.lt;have u:=h.ne;have i:=qh (Mv.refl (λk=>(k=gc\/k=gm\/k=gx)\/ob=some k) w);clear h hls hwas hno;go_in;go_upto_region 1 with(fail);go_name_world W N;obtain⟨d,P,ae⟩:=GI 47 (BC 5 f t q c) N;clear N;obtain⟨g,p,r,i,a⟩:=Gj P g p r i a;clear P;generalize a2:w.heap.size=gX at d |-;have ax:w.heap.size<W.heap.size:=BJ
 clear ae;refine' CU [⟨10,11,4,14,45,zero21,cv⟩] ND ND ND ?z11 ?z21 ?bd1 _ ?h1 ?val1 ?fin1;case z11=>
  intro x b;simp only[List.mem_cons,List.not_mem_nil,or_false] at b;subst b
  .exact⟨.agg (zero21:List Value).toArray,ND,rfl⟩
 case z21=>
  intro x b;simp only[List.mem_cons,List.not_mem_nil,or_false] at b;subst b
  .exact⟨(by rw[S];kernel_rfl),(by rw[S];rfl),ac⟩
 case bd1=>
  intro x b;simp only[List.mem_cons,List.not_mem_nil,or_false] at b;subst b
  .simp
 case h1=>
  intro W0 aa;obtain⟨g,p,r,i,d,a⟩:=Ef aa g p r i d a;have au:=MK p.o 2;obtain⟨av,aw⟩:=JO d.o 3 4;simp only[List.map_cons,List.map_nil,BI];repeat go_big_quiet_step (first|(go_at_call 82;with_reducible exact AQ λW2 h2=>K.o W2 (r.o.bel h2)))
  refine wpQuiet_nil ?_;intro w' _;exact rfl
 case val1=>
  intro x b;simp only[List.mem_cons,List.not_mem_nil,or_false] at b;subst b
  .rfl
 intro β w4 O b u;have z:=b _ List.mem_cons_self;clear b u;simp only[] at z;simp only[D7,List.foldl,Act.put,List.setIfInBounds_toArray,List.set_cons_zero,List.set_cons_succ];obtain⟨g,p,r,i,d,a⟩:=Ef O g p r i d a;generalize β 4=g4 at z |-;have j:=qh z.2;have ay:=z.1;clear z;clear O;have T:gX≠gc/\g4≠gc:=BJ
 clear p r;have y0:=j.cell 0;rw[c0] at y0;obtain⟨I,J⟩:=Cf d.o 3 4;have Z:=a.ne d.o Iz;have Y:=a.ne j.o Iz;have s:=a.off g.o;go_wp2_with fail;refine Ah (M.o _ g.hc a.o) ?_;rintro w5 ⟨V5,Q,G,y⟩;rw[ad] at G;obtain⟨g,d,j,i,a⟩:=dD (g.NL y Q (λh=>h.elim (Ne.symm u.1) (λh=>(s.1 _ h).2.1 rfl)) (λh=>h.elim (Ne.symm u.2.1) (λh=>(s.1 _ h).2.2.1 rfl)) (λh=>h.elim (Ne.symm u.2.2.1) (λh=>(s.1 _ h).2.2.2.1 rfl)) (λh=>h.elim (Ne.symm u.2.2.2.1) (λh=>(s.1 _ h).2.2.2.2 rfl))) (d.mv y (λh=>h.elim T.1 (λh=>Z _ h rfl))) (j.mv y (λh=>h.elim T.2 (λh=>Y _ h rfl))) (i.mv y (λk v=>.inl (v.elim (λh=>.inl (.inl h)) .inr))) G;clear Q y G y0 I J Z Y s M K;have y1:=j.cell 1;have y2:=j.cell 2;have y3:=j.cell 3;have y4:=j.cell 4;rw[c1] at y1;rw[c2] at y2;rw[c3] at y3;rw[c4] at y4;obtain⟨I,J,x7,x8,x9,ag,ah,ai⟩:=EE d.o 3 4 7 8 9 10 11 12;obtain⟨aj,ak,al,am,an,ao,ap,aq⟩:=EE d.o 13 14 15 16 17 18 19 20;have ar:=Am d.o 21;have s:=a.off g.o;go_wp2_with fail;refine Ah (KS.o _ _ g.o) ?_;rintro w6 ⟨gr,cr,m,rv,af,R,hr,X,U,ab,H⟩;have hs:=i.size;have a:=qh (a.mv H (λk v D=>by
  obtain⟨A,_,B,_,C⟩:=s.1 k v;rcases D with rfl|rfl|rfl
  .exact A rfl
  .exact B rfl
  .exact C rfl) (λl F D=>by
  obtain⟨A,_,B,_,C⟩:=s.2 l F;rcases D with h|h|h
  .exact A h
  .exact B h
  .exact C h))
 have HP:=qh (show qy gc n me gl gm nl gi gx ni L E V5 AL ob ls q 3 c false w w6 from⟨gr,cr,m,rv,af,R,a.o,hr,Au.mono (B':=w.heap.size) X hs,U,BJ,i.mv H (λk v=>.inl (.inl v))⟩);clear R hr X U ab H y1 y2 y3 y4 I J x7 x8 x9 ag ah ai aj ak al am an ao ap aq ar;go_wp2_with fail;exact bE ⟨rfl,_,HP.o⟩
theorem jd(gc n me gl gm nl gi f t q:Nat)(c:Cm)(L:List A7)(V recs out:Value)(w:World)(h:Holds w gc 163 (BG n me gl gi V recs out))(hlg:BF w gl gm nl L)(hL:(⟨q,In.sl,cellL 3 c false⟩:A7)∈L)(hq:q<7) :Calls prog 142 #[AP gc,.agg (BC 5 f t q c).toArray] w λe w'=>e=.returned (.tuple #[])/\Below w.heap.size w w':=by
 obtain⟨p,b,d,a⟩:=bY (λW (h:BF W gl gm nl L)=>Lt gl gm nl q (cellL 3 c false) L W h hL hq) h hlg (Base.start w);clear h hlg hL;go_in;go_upto_region 1 with(fail);go_name_world W j;obtain⟨g,l,v⟩:=GI 47 (BC 5 f t q c) j;clear j;obtain⟨b,d,a⟩:=D5 l b d a;clear l v;generalize s:w.heap.size=C at g a |-;refine' bx1 ⟨10,11,4,14,45,zero21,cellL 3 c false⟩ _ (Le _ _ _) ?h2 ?val2 ?fin2;case h2=>
  intro x u;obtain⟨b,d,g,a⟩:=En u b d g a;have y:=MK b.o 2;obtain⟨z,A⟩:=JO g.o 3 4;simp only[List.map_cons,List.map_nil,BI];repeat go_big_quiet_step (first|(go_at_call 82;with_reducible exact AQ λr h2=>p.o r (d.o.bel h2)))
  refine wpQuiet_nil ?_;intro w' _;exact rfl
 case val2=>rfl
 intro β E k i;simp only[] at i;simp only[D7,List.foldl,Act.put,List.setIfInBounds_toArray,List.set_cons_zero,List.set_cons_succ];obtain⟨b,d,g,a⟩:=En k b d g a;generalize β 4=B at i |-;have m:=qh i.2;have D:=i.1;clear i;clear k;have F:=Am m.o 0;go_wp2_with fail;exact bQ ⟨rfl,s▸a.below⟩
end
section
theorem Au.mv{w w':World}{F:Ap}{B n:Nat}{v:Value}(h:Au w B v n)(hm:Mv F w w')(hF:∀k,F k->k<B):Au w' B v n:=by obtain⟨c,j,l,m,o⟩:=h;exact⟨c,j,l,m,o.imp id λ⟨b,d,f,g,i,a,r⟩=>⟨b,d,f,g,i,(hm.block b (Array.getElem?_eq_some_iff.1 a).1 (λp=>by have:=hF b p;omega)).trans a,r⟩⟩
variable [In] [CO]
def JP(gc n me gl gm nl gi gx ni:Nat)(L:List A7)(E:List CY)(V:Value)(ob0:Option Nat)(ls:List Ld)(q:Nat)(c:Cm)(w w':World):Prop:=
 ∃(V':Value) (gr cr m:Nat) (rv out:Value) (rest:List Value) (ob:Option Nat),BB w' gc n me gl gm (nl+1) gi gx (ni+1) (Ci L ⟨q,In.sl,cellL 3 c false⟩) (IA E ⟨q,In.sl,c,In.aq⟩) V' (.slice (Ac gr) 1 cr) out /\
  Bc w' V' ob0 (Ld.RN q In.sl ls)/\Holds w' gr 127 (rv :: rest)/\Au w' w.heap.size rv m/\(1<=m/\m<=480)/\w.heap.size<=gr/\AV w' out ob 47 51 (n-1) (flat 51 (n-1) (Rl 5 me q c))/\(∀g,ob=some g->w.heap.size<=g)/\Mv (λk=>(k=gc\/k=gm\/k=gx)\/ob0=some k) w w'
theorem XA(gc n me gl gm nl gi gx ni q:Nat)(c:Cm)(L:List A7)(E:List CY)(V:Value)(ob0:Option Nat)(ls:List Ld)(w:World)(hL:(⟨q,In.sl,cellL 1 c true⟩:A7)∈L)(h:BB w gc n me gl gm nl gi gx ni L E V AL AL)(hls:Bc w V ob0 ls)(hlen:ls.length<=900) (hnl:nl<=1000) (hni:ni<=1000) (hn:n<=7) (hme:me<n) (hq:q<7) (hc:JB c) :Calls prog 146 #[AP gc,.agg #[AA q,AA In.sl],.agg #[AA c.k,AA c.c,AA c.s,.string c.a,.string c.b,.string c.o,.string c.v],.agg #[AA In.aq,AA (In.ad 0),AA (In.ad 1),AA (In.ad 2),AA (In.ad 3),AA (In.ad 4),AA (In.ad 5),AA (In.ad 6)]] w λe w'=>e=.returned (.tuple #[])/\JP gc n me gl gm nl gi gx ni L E V ob0 ls q c w w':=by
 obtain⟨KL,KV,KS,KA,d,f⟩:=mG (λW (h:BF W gl gm nl L)=>Lt gl gm nl q (cellL 1 c true) L W h hL hq) (λW (h:Holds W gc 163 (BG n me gl gi V AL AL)) y=>Oq gc n me gl gi V AL AL ob0 ls q In.sl W h y BJ) (λM W (h:BB W gc n me gl gm nl gi gx ni L E M AL AL)=>OQ gc n me gl gm nl gi gx ni L E M AL q 3 c false W h hnl hni hq hc (.inr ⟨rfl,rfl⟩) (.inr ⟨Iw hL,rfl,rfl,_,hL,rfl,rfl,rfl⟩)) (λM ap W h=>YE gc n me gl gi M ap 5 0 0 q c W h hn hme) h hls;have a4:=h.lt;have O:=h.ne;have P:=hls.off h;have an:=hls.own.lt;have a2:=λl y=>(hls.blk l y).lt;have i:=qh (Mv.refl (λk=>(k=gc\/k=gm\/k=gx)\/ob0=some k) w);clear h hls;go_in;go_upto_region 1 with(fail);go_name_world W u;have u:Bo w [.cells ([AA q,AA In.sl]:List Value).toArray 37,.cells ([AA c.k,AA c.c,AA c.s,.string c.a,.string c.b,.string c.o,.string c.v]:List Value).toArray 23,.cells ([AA In.aq,AA (In.ad 0),AA (In.ad 1),AA (In.ad 2),AA (In.ad 3),AA (In.ad 4),AA (In.ad 5),AA (In.ad 6)]:List Value).toArray 43]=W:=u;obtain⟨j,r,t⟩:=bP (show Holds W (w.heap.size) 37 ([AA q,AA In.sl]) from Ae _ u 0 rfl) (show Holds W (w.heap.size+1) 23 ([AA c.k,AA c.c,AA c.s,.string c.a,.string c.b,.string c.o,.string c.v]) from Ae _ u 1 rfl) (show Holds W (w.heap.size+1+1) 43 ([AA In.aq,AA (In.ad 0),AA (In.ad 1),AA (In.ad 2),AA (In.ad 3),AA (In.ad 4),AA (In.ad 5),AA (In.ad 6)]) from Ae _ u 2 rfl);have ab:=Aq _ u;have aj:=Bd _ u;simp only[List.length_cons,List.length_nil] at aj;clear u;obtain⟨d,f,i⟩:=D5 ab d f i;clear ab;have ax:w.heap.size+2<W.heap.size:=BJ
 clear aj;generalize ba:w.heap.size+1+1=gZ at t |-;generalize a9:w.heap.size+1=H at r |-;generalize a8:w.heap.size=G at j |-;have ay:(G≠gc/\G≠gm/\G≠gx)/\(H≠gc/\H≠gm/\H≠gx)/\(gZ≠gc/\gZ≠gm/\gZ≠gx)/\gZ<W.heap.size:=BJ
 have am:∀k,ob0=some k->k≠G/\k≠H/\k≠gZ:=λk p=>by have:=an k p;omega
 have T:∀a,(a=gc\/ob0=some a)->(a=G\/a=H\/a=gZ)->False:=λa h N=>by
  rcases h with rfl|h
  .omega
  .have:=am a h;omega
 obtain⟨J,K⟩:=Cf j.o 0 1;go_wp2_with fail;refine Ah (KV.o _ d.hc f.o) ?_;rintro w1 ⟨V1,ac,ag,z⟩;obtain⟨d,j,r,t,i,f⟩:=mG (d.NL z ac (λh=>h.elim (Ne.symm O.1) (λh=>(P.1 _ h).2.1 rfl)) (λh=>h.elim (Ne.symm O.2.1) (λh=>(P.1 _ h).2.2.1 rfl)) (λh=>h.elim (Ne.symm O.2.2.1) (λh=>(P.1 _ h).2.2.2.1 rfl)) (λh=>h.elim (Ne.symm O.2.2.2.1) (λh=>(P.1 _ h).2.2.2.2 rfl))) (j.mv z (λh=>T _ h (.inl rfl))) (r.mv z (λh=>T _ h (.inr (.inl rfl)))) (t.mv z (λh=>T _ h (.inr (.inr rfl)))) (i.mv z (λk p=>.inl (p.elim (λh=>.inl (.inl h)) .inr))) ag;have a6:=z.size;clear ac z J K ag KV;obtain⟨A,B⟩:=WZ d.hc d.lg;go_upto_region 2 with(fail);refine' bx1 ⟨9,10,8,20,45,zero21,cellL 1 c true⟩ _ (Le _ _ _) ?h1 ?val1 ?fin1;case h1=>
  intro W0 aa;obtain⟨d,A,B,i,j,r⟩:=Ef aa d A B i j r;obtain⟨t,f⟩:=Ce aa t f;have au:=MK A.o 2;obtain⟨av,aw⟩:=JO j.o 0 1;simp only[List.map_cons,List.map_nil,BI];repeat go_big_quiet_step (first|(go_at_call 82;with_reducible exact AQ λW2 N=>KL.o W2 (B.o.bel N)))
  refine wpQuiet_nil ?_;intro w' _;exact rfl
 case val1=>rfl
 intro β w4 U I;simp only[] at I;simp only[D7,List.foldl,Act.put,List.setIfInBounds_toArray,List.set_cons_zero,List.set_cons_succ];obtain⟨d,A,B,i,j,r⟩:=Ef U d A B i j r;obtain⟨t,f⟩:=Ce U t f;generalize β 8=g8 at I |-;have H8:=qh I.2;have az:=I.1;clear I;clear U;clear A B;obtain⟨h1,N,h3,h4⟩:=xH H8.o 1 2 3 4;obtain⟨J,K⟩:=Cf j.o 0 1;obtain⟨X,Y,Z,y3,y4,y5,y6⟩:=Gl r.o 0 1 2 3 4 5 6;obtain⟨z0,z1,z2,z3,z4,z5,z6,z7⟩:=EE t.o 0 1 2 3 4 5 6 7;have F:=f.off d.o;go_wp2_with fail;refine Ah (KS.o _ _ d.o) ?_;rintro w6 ⟨gr,cr,m,rv,ar,af,hr,ho,hm,a0,D⟩;have hs:=i.size;obtain⟨d,HR,ak,HO⟩:=bY af hr hm (Au.mono (B':=w.heap.size) ho hs);have al:w.heap.size<=gr:=BJ
 obtain⟨j,r,t,i⟩:=bY (j.mv D BJ) (r.mv D BJ) (t.mv D BJ) (i.mv D (λk p=>.inl (.inl p)));have f:=qh (f.mv D (λk p x=>by
  obtain⟨Q,_,R,_,S⟩:=F.1 k p;rcases x with rfl|rfl|rfl
  .exact Q rfl
  .exact R rfl
  .exact S rfl) (λl y x=>by
  obtain⟨Q,_,R,_,S⟩:=F.2 l y;rcases x with h|h|h
  .exact Q h
  .exact R h
  .exact S h))
 clear af hr ho hm D h1 N h3 h4 J K X Y Z y3 y4 y5 y6 z0 z1 z2 z3 z4 z5 z6 z7 H8 F;obtain⟨J,K⟩:=Cf j.o 0 1;obtain⟨X,Y,Z,y3,y4,y5,y6⟩:=Gl r.o 0 1 2 3 4 5 6;obtain⟨z0,z1,z2,z3,z4,z5,z6,z7⟩:=EE t.o 0 1 2 3 4 5 6 7;have F:=f.off d.o;go_wp2_with fail;refine Ah (KA.o _ _ _ d.hc) ?_;rintro w7 ⟨ao,ob,ae,ah,ai,C⟩;have a7:=i.size;have HP:=qh (show JP gc n me gl gm nl gi gx ni L E V ob0 ls q c w w7 from⟨V1,gr,cr,m,rv,ao,ar,ob,d.NL C ae BJ BJ BJ BJ,f.mv C (λk p x=>(F.1 k p).1 x) (λl y x=>(F.2 l y).1 x),HR.mv C BJ,HO.mv C (λk p=>BJ),ak.o,al,ah,λg hg=>by have:=ai g hg;omega,i.mv C (λk p=>.inl (.inl (.inl p)))⟩);clear ae ah ai C J K X Y Z y3 y4 y5 y6 z0 z1 z2 z3 z4 z5 z6 z7;go_wp2_with fail;exact bE ⟨rfl,HP.o⟩
end
def kF(gd:Nat)(of:Option Nat)(l:List Fl)(nm:ByteArray)(len:Nat)(w w':World):Prop:=
 ∃fs' of' p c,BP w' gd fs' of' (Fp l nm p len c)/\(of'=of\/∃g,of'=some g/\w.heap.size<=g)/\(∀a,p=some a->w.heap.size<=a.block)/\Mv (λk=>k=gd\/of=some k) w w'
def yP(gd B:Nat)(of:Option Nat)(l1:List Fl)(v:Value)(len:Nat)(w wx:World):Prop:=
 ∃fs1 of1,BP wx gd fs1 of1 l1/\(of1=of\/∃g,of1=some g/\w.heap.size<=g)/\Au wx B v len/\Mv (λk=>k=gd\/of=some k) w wx
theorem YN(gd B:Nat)(fs:Value)(of:Option Nat)(l:List Fl)(nm:ByteArray)(v:Value)(len:Nat)(w:World)(h:BP w gd fs of l)(hv:Au w B v len)(hB:gd<B/\∀g,of=some g->g<B)(hnm:SA nm)(hl:l.length<=900)(hsz:sizes l+len<=400000)(hlen:len<=100000)(hfl:((Pg l nm).getD (Az l nm).1 .zero).n+len<=100000) (h1:1<=len\/(v=AL/\((Pg l nm).getD (Az l nm).1 .zero).n=0)) :Calls prog 165 #[AP gd,.string nm,v] w λe w'=>e=.returned (AA 0)/\kF gd of l nm len w w':=by
 obtain⟨KM,KR,KP,KF,KI⟩:=dD (λW=>VN nm W hnm) (λW (h:BP W gd fs of l)=>ZP gd fs of l W h.d h.f BJ) (λW (h:BP W gd fs of l)=>Qk gd _ W h.d) (λW (h:BP W gd fs of l)=>Lp gd fs of l nm W h.d h.f) (λi bs x W h s bl hi=>Nv fs of l i bs x W h s bl hi BJ);obtain⟨M,N,rfl⟩:=hv.shape;have aj:=GR l nm;have I:=sK l nm;obtain⟨ab,ac,Z⟩:=bP (show (Az l nm).2=true->Pg l nm=l from λh=>if_pos h) (show (Az l nm).2=false->Pg l nm=l.take (Az l nm).1++⟨nm,none,0,0,0⟩ :: l.drop (Az l nm).1 from λh=>if_neg (by rw[h];decide)) (show ∀p c,Fp l nm p len c=(Pg l nm).set (Az l nm).1 ⟨((Pg l nm).getD (Az l nm).1 .zero).nm,p,((Pg l nm).getD (Az l nm).1 .zero).n+len,c,((Pg l nm).getD (Az l nm).1 .zero).kept⟩ from λ_ _=>rfl);generalize Pg l nm=l1 at ab ac Z I hfl h1;generalize hF:Az l nm=F at KF aj ab ac Z I hfl h1;obtain⟨i,X⟩:=F;simp only[] at aj I hfl h1;obtain⟨m,q⟩:=WZ h hv;have bi:=AV.ne_of h.f h.d Iz;have bk:=h.d.lt;have bn:=AV.lt h.f;have j:=qh (Mv.refl (λk=>k=gd\/of=some k) w);have bw:¬(524288 - (sizes l:Int))<(len:Int):=BJ
 clear h hv hF hnm;go_in;have d2:=Am m.d 2;go_wp2_with fail;refine Ah (KM.o _) ?_;rintro w1 r;have q:=qh (q.below r);obtain⟨m,j⟩:=Ce r m j;clear r d2;go_wp2_with fail;refine Ah (KR.o _ m.o) ?_;rintro w2 r;have q:=qh (q.below r);obtain⟨m,j⟩:=Ce r m j;clear r;go_wp2_with fail;refine Ah (KP.o _ m.o) ?_;rintro w3 r;have q:=qh (q.below r);obtain⟨m,j⟩:=Ce r m j;clear r;go_wp2_with fail;refine Ah (KF.o _ m.o) ?_;rintro S r;have q:=qh (q.below r);obtain⟨m,j⟩:=Ce r m j;clear r;have bv:(!X)=true\/(!X)=false:=by cases X<;>simp
 go_upto_if 37 with(fail)
 go_cut [9] from 38 to 50 (λy wx=>y=.bool X/\yP gd B of l1 (.slice M len N) len w wx);case first=>
  cases X
  .obtain rfl:=ac.o rfl;have d1:=Am m.d 1;go_wp2_with fail;have HN:=qh (AC S 129 [.string nm,AL,AA 0]);have G:Below S.heap.size S (S.alloc (.cells #[.string nm,AL,AA 0] 129)):=by go_grown
   have q:=qh (q.below G);have bp:=j.size;obtain⟨m,j⟩:=Ce G m j;clear G d1;generalize S.alloc (.cells #[.string nm,AL,AA 0] 129)=w5 at HN m q j |-;generalize S.heap.size=gn at HN bp |-;refine(KI.o i gn ⟨nm,none,0,0,0⟩ _ m.f HN.o (λh=>by have:=bn gn h;omega) aj.1).mono ?_;rintro e w6 ⟨v6,am,rfl,af,a1,Q⟩;have bx:=j.size;have HF:=qh af;have ar:Holds w6 gd 125 (JR fs):=m.d.mv Q (λh=>bi _ h rfl);have t:=qh ar;have O:=qh (show ∀x∈l.take i++⟨nm,none,0,0,0⟩ :: l.drop i,Gf w6 x from λx s=>by
    rcases List.mem_append.1 s with s|s
    .have hxl:=List.mem_of_mem_take s;have z:=m.b x hxl;exact z.mv Q (λg u hc=>by obtain⟨_,J,_⟩:=z;exact AV.Ey J m.f Iz g u hc)
    .rcases List.mem_cons.1 s with rfl|s
     .exact⟨[],AV.nil _ _ _,λ_ h=>(by cases h),Nat.zero_le _,λ_=>⟨rfl,rfl⟩⟩
     .have hxl:=List.mem_of_mem_drop s;have z:=m.b x hxl;exact z.mv Q (λg u hc=>by obtain⟨_,J,_⟩:=z;exact AV.Ey J m.f Iz g u hc))
   obtain⟨q,j,bb⟩:=bP (q.mv Q (λk H=>hB.2 k H)) (j.mv Q (λk H=>.inl (.inr H))) (show am=of\/∃g,am=some g/\w.heap.size<=g from a1.imp id λ⟨g,h1,h2⟩=>⟨g,h1,BJ⟩);obtain⟨p6,n6,c6,rfl⟩:∃p n c,v6=.slice p n c:=by obtain⟨p,c,hv,_⟩:=af.rows;exact⟨p,_,c,hv⟩
   clear af a1 Q ar m HN;go_wp2_with (first|(refine sC 1 t.o (.slice p6 n6 c6) ?_;intro w7 ax a5));have V:Mv (λk=>k=gd) w6 w7:=Mv.AZ a5 rfl;have au:BP w7 gd (.slice p6 n6 c6) am (l.take i++⟨nm,none,0,0,0⟩ :: l.drop i):=⟨show Holds w7 gd 125 (JR (.slice p6 n6 c6)) from ax,HF.mv V (AV.ne_of HF.o t.o Iz),λx s=>(O.o x s).mv V (λg u=>by obtain⟨_,J,_⟩:=O.o x s;exact AV.ne_of J t.o Iz g u)⟩;obtain⟨a6,q,j⟩:=bP au (q.mv V (λk H=>by subst H;exact hB.1)) (j.mv V (λk H=>.inl (.inl H)));clear au V ax a5 HF t O;go_wp2_with fail
   go_meet
   exact⟨rfl,_,_,a6.o,bb.o,q.o,j.o⟩
  .obtain rfl:=ab.o rfl;go_wp2_with fail
   go_meet
   exact⟨rfl,fs,of,m.o,.inl rfl,q.o,j.o⟩
 case rest=>
  obtain⟨rfl,bq,b3,C,a2,a3,ak⟩:=hcut;have u:=C.f.blk BJ;obtain⟨g1,cap1,an,rfl,rfl,bf,bg,aa,bj⟩:=u;obtain⟨m,t,D,q,j⟩:=dD C C.d aa a3 ak;have bh:g1≠gd:=aa.ne_of C.d Iz;have b2:=ak.size;have ag:=UO l1 an i 1 I BJ;have ay:l1.getD i .zero∈l1:=by rw[List.getD_eq_getElem?_getD,List.getElem?_eq_getElem I];exact List.getElem_mem I
  have z:=C.b _ ay;have O:=qh (λx s=>C.b x s);have bm:∀y:Fl,y∈l1->∀g,y.ob=some g->g≠g1:=λy R g u=>by obtain⟨_,J,_⟩:=C.b y R;exact AV.ne_of J aa Iz g u
  have T:=qh (Base.start wc);obtain⟨x,s⟩:∃x,x=l1.getD i .zero:=⟨_,rfl⟩;rw[<-s] at ag z hfl h1 ay;obtain⟨ad,E,a8⟩:=bP s z ag;have bc:i*3+1<(Jk l1++an).length:=by rw[List.length_append,FZ];omega
  have bu:(i:Int)<l1.length:=BJ
  have bt:(i:Int)<cap1:=BJ
  have KC:=qh (λgs W (h:Holds W gs 127 [.slice x.p x.n x.c,.slice M len N]) h2 h3=>XB gs x M len N B W h h2 h3 hlen (h1.imp id λh=>h));have br:gd<w.heap.size:=bk;clear C aa a3 ak ag z s m;go_upto_region 13 with(fail);have E:=qh E.o;obtain⟨t,D,j,E,q,T⟩:=Ef (AY _ wc) t D j E q T;refine Ed [18] 19 (λhSn=>?_);generalize wc.drew=Y at t D j E q T hSn |-;simp only[List.replicate];refine ES 0 ?_;refine BO 3 [16,17,18] (λw U=>Am (t.bel U) 1) ?_;refine J9 4 ?_;refine BO 8 [10,11,12,14,15,16,17,18] (λw U=>Am (t.bel U) 1) ?_;refine ES 9 ?_;refine JL 12 [14,15,16,17,18] (some 62) (?vg13) rfl (Or.inl ⟨by rfl,?hg13⟩) hSn ?rg13;case hg13=>
   intro w U;have b1:=(D.bel U).cell (i*3+1);rw[a8.o] at b1;simp only[Fl.cells,yA,yB] at b1;go_simp;try with_reducible rfl
  simp only[Act.put,zA,zB,zC];refine CW 13 ?_;refine BN 14 rfl (λK A=>?_);go_simp;have G:=λo=>Below.alloc hSn hSn.size o;refine A.out _ _ (λ_=>G _) ?_;have hSn:=G (.cells ([.slice x.p x.n x.c,.slice M len N]:List Value).toArray 127);have HG:=qh (show Holds (Y.alloc (.cells ([.slice x.p x.n x.c,.slice M len N]:List Value).toArray 127)) Y.heap.size 127 [.slice x.p x.n x.c,.slice M len N] from AC Y _ _);clear G;generalize Y.alloc (.cells ([.slice x.p x.n x.c,.slice M len N]:List Value).toArray 127)=wa at hSn HG |-;clear A;try simp only[Act.put,zA,zB,zC]
  refine BN 15 rfl (λK A=>?_);go_simp;refine(KC.o _ _ HG.o (E.bel hSn) (q.bel hSn)).mono ?_;rintro e w9 ⟨L,P,rfl,a0,az,r⟩;have hSn:=AO hSn r;obtain⟨HO,ba⟩:=WZ (a0.mono (B':=Y.heap.size) (by have:=HG.lt;omega)) az;clear a0 az;clear r;refine BR A ?_;clear A;refine F9 16 ?_;refine BN 18 rfl (λK A=>?_);refine DD rfl 127 (.tmp 67) (.tmp 65) rfl rfl g1 (i*3+1) 129 _ (D.bel hSn) bc rfl (.slice L (x.n+len:Nat) P) rfl rfl ND rfl ?_;intro w10 aw a4;obtain⟨ao,HT⟩:=WZ aw a4;clear aw a4;refine BR A ?_;clear A;refine BA ?_;have bz:=j.size;have b0:=hSn.size;obtain⟨av,ah⟩:=HO.xn BJ ba.o x.nm x.kept;obtain⟨bd,be⟩:=WZ ((t.bel hSn).touch HT.o (Ne.symm bh)) ((j.bel hSn).touch HT.o (a2.elim (λh=>.inl (.inr h.symm)) (λ⟨g,h1,h2⟩=>.inr (by injection h1 with h1;omega))));have ai:=ao.o;have aq:=(T.bel hSn).below;have al:Mv (λk=>k=g1) _ w10:=Mv.AZ HT.o rfl;have ap:∀y∈l1.set i ⟨x.nm,L,x.n+len,P,x.kept⟩,Gf w10 y:=λy R=>by
   rcases List.mem_or_eq_of_mem_set R with R|rfl
   .exact((O.o y R).bel aq).mv al (bm y R)
   .exact av.mv al (λg u=>by have:=ah g u;have:=D.lt;omega)
  rw[YU l1 an i L (x.n+len) P I,<-ad.o] at ai;have ae:Ba w10 (.slice (Ac g1) (l1.set i ⟨x.nm,L,x.n+len,P,x.kept⟩).length cap1) (some g1) (l1.set i ⟨x.nm,L,x.n+len,P,x.kept⟩):=AV.mk' ai (by rw[FZ]) (by rw[List.length_append,FZ,List.length_set] at *;exact bj) (by rw[List.length_set];exact bf) bg;rw[List.length_set] at ae;obtain⟨a7,a9⟩:=WZ ae ap;have bo:∀a,L=some a->w.heap.size<=a.block:=λa ha=>by have:=ah a.block (by rw[ha];rfl);omega
  clear hSn t D j E q T HO HG HT ao ai ae ap av ah al aq O;go_wp2_with fail;go_ret;refine⟨rfl,_,_,L,P,⟨bd.out,?_,?_⟩,a2,bo,be.out⟩
  .rw[Z.o,<-ad.o];exact a7.o
  .rw[Z.o,<-ad.o];exact a9.o
def JS(l:List Fl)(i:Nat):List Fl:=l.set i ⟨(l.getD i .zero).nm,(l.getD i .zero).p,(l.getD i .zero).n,(l.getD i .zero).c,(l.getD i .zero).n⟩
theorem getD_mem(l:List Fl)(i:Nat)(h:i<l.length):l.getD i .zero∈l:=by rw[List.getD_eq_getElem?_getD,List.getElem?_eq_getElem h];exact List.getElem_mem h
theorem Gf.kept{w:World}{x:Fl}(h:Gf w x)(nm:ByteArray)(k:Int):Gf w ⟨nm,x.p,x.n,x.c,k⟩:=h
theorem qL(gd i:Nat)(fs:Value)(of:Option Nat)(l:List Fl)(nm:ByteArray)(w:World)(h:BP w gd fs of l)(hi:Az l nm=(i,true)) :Calls prog 111 #[AP gd,.string nm] w λe w'=>e=.returned (AA 0)/\BP w' gd fs of (JS l i)/\Mv (λk=>of=some k) w w':=by
 have E:i<l.length:=by have:=(GR l nm).2;rw[hi] at this;exact this rfl
 obtain⟨V,X⟩:=WZ (λW (h:BP W gd fs of l)=>QE gd fs of l nm i W h.d h.f hi) (λW (h:BP W gd fs of l)=>Qk gd _ W h.d);have C:=h.f.blk BJ;obtain⟨g1,Y,F,rfl,rfl,ac,ad,u,af⟩:=C;have ae:g1≠gd:=u.ne_of h.d Iz;have B:=UO l F i 1 E BJ;have ah:∀y:Fl,y∈l->∀g,y.ob=some g->g≠g1:=λy r g C=>by obtain⟨_,ho,_⟩:=h.b y r;exact AV.ne_of ho u Iz g C
 obtain⟨x,z⟩:∃x,x=l.getD i .zero:=⟨_,rfl⟩;rw[<-z] at B;have ag:x∈l:=z▸getD_mem l i E;obtain⟨J,T,j,a,m,q⟩:=mG z B h h.d u (Mv.refl (λk=>some g1=some k) w);have Z:i*3+2<(Jk l++F).length:=by rw[List.length_append,FZ];omega
 have ai:(i:Int)<l.length:=BJ
 clear h u B z hi;go_in;go_wp2_with fail;refine Ah (V.o _ j.o) ?_;rintro w1 t;obtain⟨j,a,m,q⟩:=En t j a m q;clear t;go_wp2_with fail;refine Ah (X.o _ j.o) ?_;rintro R t;obtain⟨j,a,m,q⟩:=En t j a m q;clear t;go_upto_region 5 with(fail);obtain⟨j,a,m,q⟩:=En (AY _ R) j a m q;refine Ed [16] 17 (λhSn=>?_);generalize R.drew=wd at j a m q hSn |-;simp only[List.replicate];refine ES 0 ?_;refine BO 3 [14,15,16] (λw s=>Am (a.bel s) 1) ?_;refine J9 4 ?_;refine BO 8 [10,11,12,13,14,15,16] (λw s=>Am (a.bel s) 1) ?_;refine ES 9 ?_;refine JL 12 [13,14,15,16] (some 31) (?vg13) rfl (Or.inl ⟨by rfl,?hg13⟩) hSn ?rg13;case hg13=>
  intro w s;have L:=(m.bel s).cell (i*3+1);rw[T.o] at L;simp only[Fl.cells,yA,yB] at L;go_simp;try with_reducible rfl
 simp only[Act.put,zA,zB,zC];refine ES 13 ?_;refine BN 16 rfl (λK N=>?_);refine DD rfl 3 (.tmp 34) (.tmp 32) rfl rfl g1 (i*3+2) 129 _ (m.bel hSn) Z rfl (AA x.n) rfl rfl ND rfl ?_;intro w10 P Q;obtain⟨G,I⟩:=WZ P Q;clear P Q;refine BR N ?_;clear N;refine BA ?_;have v:Mv (λk=>k=g1) _ w10:=Mv.AZ I.o rfl;obtain⟨aa,ab⟩:=WZ ((a.bel hSn).mv v (Ne.symm ae)) ((q.bel hSn).mv v (λk hk=>.inl (by rw[hk])));have D:=G.o;rw[VW l F i x.n E,<-J.o] at D;have A:Ba w10 (.slice (Ac g1) (l.set i ⟨x.nm,x.p,x.n,x.c,x.n⟩).length Y) (some g1) (l.set i ⟨x.nm,x.p,x.n,x.c,x.n⟩):=AV.mk' D (by rw[FZ]) (by rw[List.length_append,FZ,List.length_set] at *;exact af) (by rw[List.length_set];exact ac) ad;rw[List.length_set] at A;have M:∀y∈l.set i ⟨x.nm,x.p,x.n,x.c,x.n⟩,Gf w10 y:=λy r=>by
  have O:∀y∈l,Gf w10 y:=λy r=>((j.b y r).bel hSn).mv v (ah y r);rcases List.mem_or_eq_of_mem_set r with r|rfl
  .exact O y r
  .exact O x ag
 obtain⟨S,U,H⟩:=bP A M (show JS l i=l.set i ⟨x.nm,x.p,x.n,x.c,x.n⟩ by rw[J.o];rfl);clear hSn j a m q I G D A M v;go_wp2_with fail;go_ret;refine⟨rfl,⟨aa.out,?_,?_⟩,ab.out⟩
 .rw[H.o];exact S.o
 .rw[H.o];exact U.o
theorem vT(gd i:Nat)(fs:Value)(of:Option Nat)(l:List Fl)(nm:ByteArray)(w:World)(h:BP w gd fs of l)(hi:Az l nm=(i,true))(hn:1<=(l.getD i .zero).n) :Calls prog 103 #[AP gd,.string nm] w λe w'=>∃p c,e=.returned (.tuple #[.slice p (l.getD i .zero).n c,.bool true])/\Below w.heap.size w w':=by
 have y:i<l.length:=by have:=(GR l nm).2;rw[hi] at this;exact this rfl
 have C:=qh (λW (h:BP W gd fs of l)=>(show Calls prog 189 #[AP gd,.string nm] W λe w'=>e=.returned (.tuple #[AA i,.bool true])/\Below W.heap.size W w' by have:=Lp gd fs of l nm W h.d h.f;rw[hi] at this;exact this));have F:=h.f.blk BJ;obtain⟨J,I,H,rfl,rfl,K,L,v,N⟩:=F;have s:=UO l H i 1 y BJ;obtain⟨x,t⟩:∃x,x=l.getD i .zero:=⟨_,rfl⟩;rw[<-t] at s hn |-;have u:=h.b x (t▸getD_mem l i y);have O:x.n<=100000:=by obtain⟨_,_,_,h,_⟩:=u;exact h
 obtain⟨B,q,A,m,j,k,a⟩:=oC (λW (h:Gf W x)=>rJ (.slice x.p x.n x.c) x.n W h.ET hn BJ) u s h h.d v (Base.start w);have M:(i:Int)<l.length:=BJ
 clear h v s t hi u;go_in;go_wp2_with fail;refine Ah (C.o _ m.o) ?_;rintro Q g;obtain⟨m,j,k,a,q⟩:=Gj g m j k a q;clear g;have E:=Am j.o 1;have r:=k.cell (i*3+1);rw[A.o] at r;simp only[Fl.cells,yA,yB] at r;go_wp2_with fail;refine(B.o _ q.o).mono ?_;rintro e R ⟨P,rfl,z,g⟩;obtain⟨G,D,rfl⟩:=z.shape;have a:=D9 g a;clear g z E r;go_wp2_with fail
 go_ret2
 exact⟨G,D,rfl,a.below⟩
end Go.Proofs.YtimdpiifpibgfaaGreatDoor
