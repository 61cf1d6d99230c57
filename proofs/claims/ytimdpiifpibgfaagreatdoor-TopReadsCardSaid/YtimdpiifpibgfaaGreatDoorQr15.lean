/- A part of the proof of TopReads. -/
import Derived.Test.YtimdpiifpibgfaaGreatDoorQr14
set_option linter.all false
set_option maxRecDepth 20000
set_option maxHeartbeats 16000000
open Go.RowKit
namespace Go.Proofs.YtimdpiifpibgfaaGreatDoor
open Tryz
section
theorem Kv(d:Nat)(a0 a1 a2 a3 a4 a5 a6:Int)(w:World):(Op.equalIn (d+2) 41 (.agg #[AA a0,AA a1,AA a2,AA a3,AA a4,AA a5,AA a6]) (.agg #[AA a0,AA a1,AA a2,AA a3,AA a4,AA a5,AA a6])).run prog w=.ok true w:=by have u3:=underlying3;have a:=isAgg3;have b:=Tryz.sizeOf3;rw[show d+2=(d+1)+1 from rfl,Op.equalIn];simp only[Sem.run_bind,run_underlying underlying41,Result.andThen_ok];simp only[Std.Legacy.Range.forIn_eq_forIn_range',Std.Legacy.Range.size,Nat.sub_zero,Nat.add_sub_cancel,Nat.div_one,List.range'_succ,List.range'_zero,List.forIn_cons,List.forIn_nil];go_simp
theorem Iq(d:Nat)(m:At)(w:World):(Op.equalIn (d+3) 43 (.agg #[AA m.q,AA (m.d 0),AA (m.d 1),AA (m.d 2),AA (m.d 3),AA (m.d 4),AA (m.d 5),AA (m.d 6)]) (.agg #[AA m.q,AA (m.d 0),AA (m.d 1),AA (m.d 2),AA (m.d 3),AA (m.d 4),AA (m.d 5),AA (m.d 6)])).run prog w=.ok true w:=by have a:=λw=>Kv d (m.d 0) (m.d 1) (m.d 2) (m.d 3) (m.d 4) (m.d 5) (m.d 6) w;rw[show d+3=(d+2)+1 from rfl,run_equalIn_struct w (d+2) 43 _ _ ND ND];go_simp
theorem Jj(d:Nat)(a b:Int)(w:World):(Op.equalIn (d+2) 39 (.agg #[AA a,AA b]) (.agg #[AA a,AA b])).run prog w=.ok true w:=by rw[show d+2=(d+1)+1 from rfl,run_equalIn_struct w (d+1) 39 _ _ ND ND];go_simp
theorem Md(d:Nat)(k c s:Int)(a b o v:ByteArray)(w:World):(Op.equalIn (d+2) 23 (.agg #[AA k,AA c,AA s,.string a,.string b,.string o,.string v]) (.agg #[AA k,AA c,AA s,.string a,.string b,.string o,.string v])).run prog w=.ok true w:=by rw[show d+2=(d+1)+1 from rfl,run_equalIn_struct w (d+1) 23 _ _ ND ND];go_simp
theorem Ku(d:Nat)(m:Sd)(w:World):(Op.equalIn (d+4) 45 (.agg #[AA m.st,AA m.pe,AA m.pr,AA m.ve,AA m.vr,AA m.x.k,AA m.x.c,AA m.x.s,.string m.x.a,.string m.x.b,.string m.x.o,.string m.x.v,AA m.a.q,AA (m.a.d 0),AA (m.a.d 1),AA (m.a.d 2),AA (m.a.d 3),AA (m.a.d 4),AA (m.a.d 5),AA (m.a.d 6),.bool m.same]) (.agg #[AA m.st,AA m.pe,AA m.pr,AA m.ve,AA m.vr,AA m.x.k,AA m.x.c,AA m.x.s,.string m.x.a,.string m.x.b,.string m.x.o,.string m.x.v,AA m.a.q,AA (m.a.d 0),AA (m.a.d 1),AA (m.a.d 2),AA (m.a.d 3),AA (m.a.d 4),AA (m.a.d 5),AA (m.a.d 6),.bool m.same])).run prog w=.ok true w:=by have f:∀w,(Op.equalIn (d+3) 39 (.agg #[AA m.pe,AA m.pr]) (.agg #[AA m.pe,AA m.pr])).run prog w=.ok true w:=λw=>Jj (d+1) m.pe m.pr w;have g:∀w,(Op.equalIn (d+3) 39 (.agg #[AA m.ve,AA m.vr]) (.agg #[AA m.ve,AA m.vr])).run prog w=.ok true w:=λw=>Jj (d+1) m.ve m.vr w;have h:∀w,(Op.equalIn (d+3) 23 (.agg #[AA m.x.k,AA m.x.c,AA m.x.s,.string m.x.a,.string m.x.b,.string m.x.o,.string m.x.v]) (.agg #[AA m.x.k,AA m.x.c,AA m.x.s,.string m.x.a,.string m.x.b,.string m.x.o,.string m.x.v])).run prog w=.ok true w:=λw=>Md (d+1) m.x.k m.x.c m.x.s m.x.a m.x.b m.x.o m.x.v w;have i:∀w,(Op.equalIn (d+3) 43 (.agg #[AA m.a.q,AA (m.a.d 0),AA (m.a.d 1),AA (m.a.d 2),AA (m.a.d 3),AA (m.a.d 4),AA (m.a.d 5),AA (m.a.d 6)]) (.agg #[AA m.a.q,AA (m.a.d 0),AA (m.a.d 1),AA (m.a.d 2),AA (m.a.d 3),AA (m.a.d 4),AA (m.a.d 5),AA (m.a.d 6)])).run prog w=.ok true w:=λw=>Iq d m.a w;rw[show d+4=(d+3)+1 from rfl,run_equalIn_struct w (d+3) 45 _ _ ND ND];go_simp
theorem PG(d:Nat)(a b:Int)(w:World):(Op.equalIn (d+2) 37 (.agg #[AA a,AA b]) (.agg #[AA a,AA b])).run prog w=.ok true w:=by rw[show d+2=(d+1)+1 from rfl,run_equalIn_struct w (d+1) 37 _ _ ND ND];go_simp
variable [In]
theorem XH(d:Nat)(k f t q:Int)(x:Cm)(w:World):(Op.equalIn (d+5) 47 (.agg (BC k f t q x).toArray) (.agg (BC k f t q x).toArray)).run prog w=.ok true w:=by unfold BC;have g:∀w,(Op.equalIn (d+4) 37 (.agg #[AA q,AA In.sl]) (.agg #[AA q,AA In.sl])).run prog w=.ok true w:=λw=>PG (d+2) q In.sl w;have h:∀w,(Op.equalIn (d+4) 39 (.agg #[AA 0,AA 0]) (.agg #[AA 0,AA 0])).run prog w=.ok true w:=λw=>Jj (d+2) 0 0 w;have i:∀w,(Op.equalIn (d+4) 23 (.agg #[AA x.k,AA x.c,AA x.s,.string x.a,.string x.b,.string x.o,.string x.v]) (.agg #[AA x.k,AA x.c,AA x.s,.string x.a,.string x.b,.string x.o,.string x.v])).run prog w=.ok true w:=λw=>Md (d+2) x.k x.c x.s x.a x.b x.o x.v w;have j:∀w,(Op.equalIn (d+4) 43 (.agg #[AA In.aq,AA (In.ad 0),AA (In.ad 1),AA (In.ad 2),AA (In.ad 3),AA (In.ad 4),AA (In.ad 5),AA (In.ad 6)]) (.agg #[AA In.aq,AA (In.ad 0),AA (In.ad 1),AA (In.ad 2),AA (In.ad 3),AA (In.ad 4),AA (In.ad 5),AA (In.ad 6)])).run prog w=.ok true w:=λw=>Iq (d+1) ⟨In.aq,In.ad⟩ w;have l:∀w,(Op.equalIn (d+4) 45 (.agg #[AA 0,AA 0,AA 0,AA 0,AA 0,AA 0,AA 0,AA 0,AU,AU,AU,AU,AA 0,AA 0,AA 0,AA 0,AA 0,AA 0,AA 0,AA 0,.bool false]) (.agg #[AA 0,AA 0,AA 0,AA 0,AA 0,AA 0,AA 0,AA 0,AU,AU,AU,AU,AA 0,AA 0,AA 0,AA 0,AA 0,AA 0,AA 0,AA 0,.bool false])).run prog w=.ok true w:=λw=>Ku d ⟨0,0,0,0,0,0,Cm.zero,At.of 0,false⟩ w;have m:∀w,(Op.equalIn (d+4) 41 (.agg #[AA 0,AA 0,AA 0,AA 0,AA 0,AA 0,AA 0]) (.agg #[AA 0,AA 0,AA 0,AA 0,AA 0,AA 0,AA 0])).run prog w=.ok true w:=λw=>Kv (d+2) 0 0 0 0 0 0 0 w;rw[show d+5=(d+4)+1 from rfl,run_equalIn_struct w (d+4) 47 _ _ ND ND];go_simp
theorem LJ(k f t q:Int)(x:Cm)(w:World):(binOp .neq 47 (.agg (BC k f t q x).toArray) (.agg (BC k f t q x).toArray)).run prog w=.ok (.bool false) w:=by
 rw[run_neq_struct,show (10000:Nat)=9995+5 from rfl,XH]
 rfl
theorem XI(w:World):(binOp .eql 43 (.agg #[AA In.aq,AA (In.ad 0),AA (In.ad 1),AA (In.ad 2),AA (In.ad 3),AA (In.ad 4),AA (In.ad 5),AA (In.ad 6)]) (.agg #[AA In.aq,AA (In.ad 0),AA (In.ad 1),AA (In.ad 2),AA (In.ad 3),AA (In.ad 4),AA (In.ad 5),AA (In.ad 6)])).run prog w=.ok (.bool true) w:=by have:=Iq 9997 ⟨In.aq,In.ad⟩ w;rw[run_eql_struct];exact(congrArg (λr=>r.andThen λb w=>Result.ok (Value.bool b) w) this)
end
structure Ev where
 kd:Int
 cl:Int
 x:Cm
 r:Rep
def Ev.zero:Ev:=⟨0,0,Cm.zero,Rep.zero⟩
def Kw(e:Ev)(v:Value):List Value:=AA e.kd :: AA e.cl :: (e.x.cells++Bq e.r v)
def JF(l:List Ev)(pv:Nat->Value)(i:Nat):List Value:=Kw (l.getD i .zero) (pv i)
def Gz(w:World)(v:Value)(ob:Option Nat)(l:List Ev)(pv:Nat->Value)(pb:Nat->Option Nat):Prop:=
 AV w v ob 55 14 l.length (flat 14 l.length (JF l pv))/\∀i,i<l.length->Ad w (pv i) (pb i) (l.getD i .zero).r.ps
theorem Gz.bel{w w':World}{v:Value}{ob:Option Nat}{l:List Ev}{pv:Nat->Value}{pb:Nat->Option Nat}(h:Gz w v ob l pv pb)(hb:Below w.heap.size w w'):Gz w' v ob l pv pb:=
 ⟨AV.bel h.1 hb,λi a=>(h.2 i a).bel hb⟩
instance {w w':World}{v:Value}{ob:Option Nat}{l:List Ev}{pv:Nat->Value}{pb:Nat->Option Nat}:Bl w w' (Gz w v ob l pv pb) (Gz w' v ob l pv pb):=⟨λhb h=>Gz.bel h hb⟩
theorem Gz.rows{w:World}{v:Value}{ob:Option Nat}{l:List Ev}{pv:Nat->Value}{pb:Nat->Option Nat}(h:Gz w v ob l pv pb):∃p c,v=.slice p l.length c/\l.length<=c/\c<=maxLen/\(p=none->c=0)/\Bj w p l.length 14 (JF l pv):=
 AV.rows (V:=JF l pv) h.1 (λ_ _=>rfl) Iz
theorem Yu(v:Value)(ob:Option Nat)(l:List Pr)(w:World)(h:Ad w v ob l) :Calls prog 228 #[v] w λe w'=>(∃r:Bool,e=.returned (.bool r))/\Below w.heap.size w w':=by
 obtain⟨p,c,rfl,H,G,_,x⟩:=h.rows;have z:=qh x;have I:l.length<=maxLen:=x.1;unfold maxLen at I;clear x h H G;by_cases M:32<(l.length:Int)
 .go_enter func228,ntmps228
  go_wp2_with fail;exact bodyPost_ret (v:=.bool false) (by simp[results,results228,go_sem]) rfl ⟨⟨_,rfl⟩,by go_grown⟩
 go_enter func228,ntmps228
 go_wp2_with fail;go_loopw [3,5,11] (λs _ i wr=>∃k:Nat,k<=l.length/\i=AA k/\(∃t:ByteArray,s=.string t)/\Below w.heap.size w wr) (λ_ _ i _=>l.length - (intOf i).toNat);case atStart=>exact⟨0,BJ,rfl,⟨_,rfl⟩,by go_grown⟩
 case round=>
  obtain⟨k,N,rfl,⟨t,rfl⟩,B⟩:=hrel;have a:=qh B;clear B;by_cases E:k<l.length
  .obtain⟨b,off,rfl,hlt⟩:=z.spot BJ;have m:=qh (show wr.rangeAt b (off+k*3) (l.getD k .zero).cells from z.range a.o E);obtain⟨q,D⟩:∃q,q=l.getD k .zero:=⟨_,rfl⟩;rw[<-D] at m;clear D;go_upto_region 7 with(first|(refine lM (off+k*3) (m.o) ?_)|(refine Ai rfl 69 _ _ rfl rfl _ _ q.cells.toArray rfl rfl ND ND (Pr.one' _) ?_));go_name_world W u;have C:Holds W wr.heap.size 69 q.cells:=by rw[<-u];exact AC wr _ _
   have A:Below w.heap.size w W:=by rw[<-u];exact a.alloc a.size _
   clear u a m;have a:=qh A;clear A;obtain⟨J,K,L⟩:=Yz C 0 1 2;clear C;have F:(Op.bytesLess q.k.toList t.toList=true)\/(Op.bytesLess q.k.toList t.toList=false/\q.k.toList=t.toList)\/((Op.bytesLess q.k.toList t.toList=false/\(q.k.toList==t.toList)=false/\¬q.k.toList=t.toList)/\((16:Int)<q.k.size\/(¬(16:Int)<q.k.size/\(64:Int)<q.v.size)\/(¬(16:Int)<q.k.size/\¬(64:Int)<q.v.size/\q.n<1)\/(¬(16:Int)<q.k.size/\¬(64:Int)<q.v.size/\¬q.n<1))):=by
    by_cases d:Op.bytesLess q.k.toList t.toList=true
    .exact Or.inl d
    .have d:Op.bytesLess q.k.toList t.toList=false:=by simpa using d
     by_cases g:q.k.toList=t.toList
     .exact Or.inr (Or.inl ⟨d,g⟩)
     .refine Or.inr (Or.inr ⟨⟨d,by simpa using g,g⟩,?_⟩);by_cases f:(16:Int)<q.k.size<;>by_cases j:(64:Int)<q.v.size<;>by_cases y:q.n<1<;>simp[f,j,y]
   rcases F with d|⟨d,g⟩|⟨⟨d,g,O⟩,f|⟨f,j⟩|⟨f,j,y⟩|⟨f,j,y⟩⟩
   case' inr.inr.inr.inr.inr=>
    go_wp2_with fail;go_roundw;case rel=>exact⟨k+1,BJ,by go_num,⟨_,rfl⟩,a.o⟩
    case measure=>simp[intOf];omega
   all_goals
    go_wp2_with fail;exact bodyPost_ret (v:=.bool false) (by simp[results,results228,go_sem]) rfl ⟨Vj,a.o⟩
  .obtain rfl:k=l.length:=BJ
   go_wp2_with fail;exact bodyPost_ret (v:=.bool true) (by simp[results,results228,go_sem]) rfl ⟨⟨_,rfl⟩,a.o⟩
theorem uZ(v:Value)(ob:Option Nat)(r:Rep)(w:World)(h:Ad w v ob r.ps) :Calls prog 284 #[.agg (Bq r v).toArray] w λe w'=>(∃r:Bool,e=.returned (.bool r))/\Below w.heap.size w w':=by
 obtain⟨a,b,d,g,l⟩:=r;simp only at h;obtain⟨p,c,rfl,u,t,_,n⟩:=h.rows;have x:l.length<=maxLen:=n.1;unfold maxLen at x;clear n h u t;have i:=qh (Base.start w)
 go_enter func284,ntmps284
 go_upto_region 1 with(fail);go_name_world W f;have f:Bo w [.cells (Bq ⟨a,b,d,g,l⟩ (.slice p l.length c):List Value).toArray 53]=W:=f;have k:=qh (show Holds W (w.heap.size) 53 (Bq ⟨a,b,d,g,l⟩ (.slice p l.length c)) from Ae _ f 0 rfl);have m:=Aq _ f;clear f;have i:=D9 m i;clear m;generalize y:w.heap.size=F at k i |-;obtain⟨A,B,C,D,E⟩:=RU k.o 0 1 2 3 4;clear k;have s:¬a=0\/(a=0/\b=true)\/(a=0/\b=false/\¬d.toList=[])\/(a=0/\b=false/\d.toList=[]/\¬g=0)\/(a=0/\b=false/\d.toList=[]/\g=0):=by by_cases q:a=0<;>by_cases z:g=0<;>by_cases j:d.toList=[]<;>cases b<;>simp[q,z,j]
 rcases s with q|⟨rfl,rfl⟩|⟨rfl,rfl,j⟩|⟨rfl,rfl,j,G⟩|⟨rfl,rfl,j,rfl⟩;all_goals
  go_wp2_with fail;exact bodyPost_ret (v:=.bool _) (by simp[results,results284,go_sem];rfl) rfl ⟨by first|exact⟨_,rfl⟩|(simp;done)|(simp;exact(Classical.em _).symm),y▸i.below⟩
theorem oV(v:Value)(ob:Option Nat)(r:Rep)(w:World)(h:Ad w v ob r.ps) :Calls prog 283 #[.agg (Bq r v).toArray] w λe w'=>(∃r:Bool,e=.returned (.bool r))/\Below w.heap.size w w':=by
 obtain⟨b,u,f,g,l⟩:=r;simp only at h;obtain⟨p,c,rfl,H,G,_,t⟩:=h.rows;have I:l.length<=maxLen:=t.1;unfold maxLen at I;obtain⟨i,a,z⟩:=bP h (Base.start w) (λW h=>Yu (.slice p l.length c) ob l W h);clear t h H G
 go_enter func283,ntmps283
 go_upto_region 1 with(fail);go_name_world W d;have d:Bo w [.cells (Bq ⟨b,u,f,g,l⟩ (.slice p l.length c):List Value).toArray 53]=W:=d;have j:=qh (show Holds W (w.heap.size) 53 (Bq ⟨b,u,f,g,l⟩ (.slice p l.length c)) from Ae _ d 0 rfl);have s:=Aq _ d;clear d;obtain⟨a,i⟩:=Ce s a i;clear s;generalize k:w.heap.size=K at j a |-;obtain⟨A,B,C,D,E⟩:=RU j.o 0 1 2 3 4;clear j;have F:(¬b=0/\¬b=7)\/((b=0\/(¬b=0/\b=7))/\(¬(f.size:Int)<=64\/((f.size:Int)<=64/\¬0<=g)\/((f.size:Int)<=64/\0<=g/\¬(l.length:Int)<=8)\/((f.size:Int)<=64/\0<=g/\(l.length:Int)<=8))):=BJ
 rcases F with⟨x,N⟩|⟨x|⟨M,x⟩,m|⟨m,y⟩|⟨m,y,J⟩|⟨m,y,J⟩⟩;all_goals
  go_wp2_with fail;first
  | exact bodyPost_ret (v:=.bool _) (by simp[results,results283,go_sem];rfl) rfl ⟨by first|exact⟨_,rfl⟩|(simp;done)|(simp;exact(Classical.em _).symm),k▸a.below⟩
  | exact bodyPost_ret (v:=.bool false) (by simp[results,results283,go_sem]) rfl ⟨Vj,a.below⟩
  | exact bodyPost_ret (v:=.bool false) (by simp[results,results283,go_sem]) rfl ⟨Vj,k▸a.below⟩
  | (refine(z.o _ i.o).mono ?_
     rintro e L ⟨⟨q,rfl⟩,n⟩;have a:=D9 n a;clear n A B C D E d;go_wp2_with fail;exact bodyPost_ret (v:=.bool q) (by simp[results,results283,go_sem]) rfl ⟨by cases q<;>simp,by first|exact a.below|exact k▸a.below⟩)
theorem oU(o:Nat->Ow)(pv:Nat->Value)(pb:Nat->Option Nat)(w:World)(h:OwnAt w o pv pb) :Calls prog 229 #[.agg (BH o pv).toArray] w λe w'=>(∃r:Bool,e=.returned (.bool r))/\Below w.heap.size w w':=by
 obtain⟨t,u,d,a⟩:=bY (λk W h=>oV (pv k) (pb k) (o k).rep W h) (λk W h=>uZ (pv k) (pb k) (o k).rep W h) h (Base.start w);clear h
 go_enter func229,ntmps229
 go_upto_region 1 with(fail);go_name_world W m;have m:Bo w [.cells (BH o pv:List Value).toArray 64]=W:=m;have c:=qh (show Holds W (w.heap.size) 64 (BH o pv) from Ae _ m 0 rfl);have E:=Aq _ m;obtain⟨d,a⟩:=Ce E d a;clear E m;generalize F:w.heap.size=J at c a |-;have B:=qh (show W.rangeAt J 0 (BH o pv) from c.Af);go_wp2_with (first|(refine lM 0 B.o ?_));clear B c;go_loopw [4,6] (λ_ i wr=>∃k:Nat,k<=8/\i=.int .i64 k/\Below W.heap.size W wr) (λ_ i _=>8 - (intOf i).toNat);case atStart=>exact⟨0,BJ,rfl,by go_grown⟩
 case round=>
  obtain⟨k,O,rfl,b⟩:=hrel;obtain⟨a,d⟩:=Ce b a d;have f:=qh b;clear b;by_cases x:k<8
  .have hix:=TL o pv k x;obtain⟨L,D⟩:∃L,L=(BH o pv).toArray:=⟨_,rfl⟩;rw[<-D] at hix |-;clear D;go_upto_region 4 with(first|(refine Ai rfl 63 _ _ rfl rfl _ _ (Je (o k) (pv k)).toArray rfl rfl ND ND (jE (d.o k x).CZ) ?_));go_name_world V y;have n:Holds V wr.heap.size 63 (Je (o k) (pv k)):=by rw[<-y];exact AC wr _ _
   have s:Below wr.heap.size wr V:=by rw[<-y];exact(Below.refl _ _).alloc Ve _
   clear y hix;have a:=D9 s a;obtain⟨p,f⟩:=WZ ((d.o k x).bel s) (AO f.o s);clear s d;generalize wr.heap.size=C at n |-;have c:=qh n;have g:=n.cell 0;simp only[Je,List.getElem?_cons_zero] at g;obtain⟨l,t,u⟩:=bP (show V.rangeAt C 1 (Bq (o k).rep (pv k)) from n.CB 1 (λj v A=>by rw[Nat.add_comm];exact A)) (t.o k) (u.o k);clear n;obtain⟨sq,z⟩:∃sq,(o k).seq=sq:=⟨_,rfl⟩;rw[z] at g;have I:=qh z;clear z;have K:sq<0\/(¬sq<0/\1099511627776<sq)\/(¬sq<0/\¬1099511627776<sq):=BJ
   rcases K with G|⟨G,N⟩|⟨G,N⟩
   case' inr.inr=>
    go_wp2_with (first|(with_reducible refine lR 1 l.o ?_));refine(t.o _ p.o).mono ?_;rintro e M ⟨⟨q,rfl⟩,b⟩;obtain⟨c,p,a⟩:=D5 b c p a;have f:=qh (AO f.o b);clear b g l;have g:=c.cell 0;simp only[Je,List.getElem?_cons_zero] at g;rw[I.o] at g;have l:=qh (show M.rangeAt C 1 (Bq (o k).rep (pv k)) from c.CB 1 (λj v A=>by rw[Nat.add_comm];exact A));cases q
    case' true=>
     by_cases H:sq=0
     case' neg=>have Q:(sq==0)=false:=by simpa using H
     case' pos=>subst H;go_wp2_with (first|(with_reducible refine lR 1 l.o ?_));refine(u.o _ p.o).mono ?_;rintro e P ⟨⟨q,rfl⟩,b⟩;have a:=D9 b a;have f:=qh (AO f.o b);clear b g l;cases q
   all_goals
    go_wp2_with (first|(with_reducible refine lR 1 l.o ?_));first
    | exact bodyPost_ret (v:=.bool false) (by simp[results,results229,go_sem]) rfl ⟨Vj,by first|exact a.below|exact F▸a.below⟩
    | (go_roundw
       case rel=>exact⟨k+1,BJ,by go_num,f.o⟩
       case measure=>simp[intOf];omega)
  .obtain rfl:k=8:=BJ
   go_wp2_with fail;exact bodyPost_ret (v:=.bool true) (by simp[results,results229,go_sem]) rfl ⟨Vj,by first|exact a.below|exact F▸a.below⟩
theorem Yw(v:Value)(ob:Option Nat)(l:List Pr)(o:Nat->Ow)(pv:Nat->Value)(pb:Nat->Option Nat)(w:World)(h:Ad w v ob l)(h2:OwnAt w o pv pb) :Calls prog 167 #[.agg (Gx v o pv).toArray] w λe w'=>(∃r:Bool,e=.returned (.bool r))/\Below w.heap.size w w':=by
 obtain⟨x,u,i,d,a⟩:=dD (λW h=>Yu v ob l W h) (λW h=>oU o pv pb W h) h h2 (Base.start w);obtain⟨p,n,c,rfl⟩:=h.CZ;clear h h2
 go_enter func167,ntmps167
 go_upto_region 1 with(fail);go_name_world W f;have f:Bo w [.cells (Gx (.slice p n c) o pv:List Value).toArray 66]=W:=f;have b:=qh (show Holds W (w.heap.size) 66 (Gx (.slice p n c) o pv) from Ae _ f 0 rfl);have s:=Aq _ f;obtain⟨i,d,a⟩:=D5 s i d a;clear s f;generalize t:w.heap.size=y at b a |-;have m:=b.cell 0;simp only[Gx,List.getElem?_cons_zero] at m;go_wp2_with fail;refine(x.o _ i.o).mono ?_;rintro e A ⟨⟨q,rfl⟩,g⟩;obtain⟨b,d,a⟩:=D5 g b d a;clear g m;have k:=qh (show A.rangeAt y 1 (BH o pv) from b.CB 1 (λj v z=>by rw[Nat.add_comm];exact z));cases q
 .go_wp2_with fail;exact bodyPost_ret (v:=.bool false) (by simp[results,results167,go_sem]) rfl ⟨Vj,by first|exact a.below|exact t▸a.below⟩
 .go_wp2_with (first|(with_reducible refine lR 1 k.o ?_));refine(u.o _ d.o).mono ?_;rintro e B ⟨⟨q,rfl⟩,g⟩;have a:=D9 g a;clear g k b;go_wp2_with fail;exact bodyPost_ret (v:=.bool q) (by simp[results,results167,go_sem]) rfl ⟨by cases q<;>simp,by first|exact a.below|exact t▸a.below⟩
theorem Be.bel{w w':World}{v:Value}{n:Nat}(h:Be w v n)(hb:Below w.heap.size w w'):Be w' v n:=h.below hb
instance {w w':World}{v:Value}{n:Nat}:Bl w w' (Be w v n) (Be w' v n):=⟨λhb h=>Be.bel h hb⟩
theorem Au.bel{w w':World}{B:Nat}{v:Value}{n:Nat}(h:Au w B v n)(hb:Below w.heap.size w w'):Au w' B v n:=h.below hb
instance {w w':World}{B:Nat}{v:Value}{n:Nat}:Bl w w' (Au w B v n) (Au w' B v n):=⟨λhb h=>Au.bel h hb⟩
def JR(fs:Value):List Value:=[AA 524288,fs,.bool false,.bool false,AA 0]
abbrev F7(w:World)(gd:Nat):Prop:=Holds w gd 125 (JR AL)
theorem eu(w:World) :Calls prog 44 #[AA 524288] w λe w'=>e=.returned (.tuple #[AP w.heap.size,AA 0])/\F7 w' w.heap.size/\Below w.heap.size w w':=by
 go_in;go_wp2_with fail
 go_ret2
 exact⟨rfl,AC w _ _,by go_grown⟩
theorem vW(gd:Nat)(s:ByteArray)(w:World)(h:F7 w gd) :Calls prog 189 #[AP gd,.string s] w λe w'=>e=.returned (.tuple #[AA 0,.bool false])/\Below w.heap.size w w':=by
 have a:=qh h;clear h;go_in;have c:=Am a.o 1;go_wp2_with fail;go_loopw [13] (λb wr=>b=AA 0/\wr=w) (λ_ _=>0);case atStart=>exact⟨rfl,rfl⟩
 case round=>
  obtain⟨rfl,rfl⟩:=hrel;go_wp2_with fail
  go_ret2
  exact⟨rfl,Below.refl _ _⟩
theorem Qk(gd:Nat)(fs:Value)(w:World)(h:Holds w gd 125 (JR fs)) :Calls prog 195 #[AP gd] w λe w'=>e=.returned (AA 0)/\Below w.heap.size w w':=by have a:=Am h 3;clear h;go_in;go_wp2_with fail;go_ret;exact⟨rfl,Below.refl _ _⟩
theorem Be.some{w:World}{v:Value}{m:Nat}(h:Be w v m)(h1:1<=m):∃b off c bs,v=.slice (Option.some ⟨b,off,none⟩) m c/\m<=c/\c<=maxLen/\CX w (Option.some ⟨b,off,none⟩) m bs:=by obtain⟨p,c,bs,rfl,_,d,f,a⟩:=h;obtain⟨b,off,rfl,_,_⟩:=a.2.2.2 h1;exact⟨b,off,c,bs,rfl,d,f,a⟩
theorem AV.nX{w:World}{v:Value}{g B m:Nat}{bs:List Nat}(h:AV w v (Option.some g) 5 1 m (Ak bs))(hb:∀x∈bs,x<256)(hg:B<=g)(hm:m<=281474976710656):Au w B v m:=by obtain⟨⟨a,j⟩,b⟩:=h;rw[BU,Nat.mul_one] at a;refine⟨bs,a,⟨hb,hm⟩,by rw[BU,a,Nat.mul_one],j.imp id λ⟨i,d,f,c,_,r⟩=>⟨i,d,f,c,?_,r⟩⟩;rw[c] at b;cases b;exact hg
theorem rJ(v:Value)(m:Nat)(w:World)(h:Be w v m)(h1:1<=m)(hm:m<=1000000) :Calls prog 56 #[v] w λe w'=>∃v',e=.returned v'/\Au w' w.heap.size v' m/\Below w.heap.size w w':=by
 obtain⟨b,C,c,y,rfl,n,D,a⟩:=h.some h1;have hl:=a.len;have z:=a.2.2.1;obtain⟨x,u⟩:=WZ a (show AV (w.alloc (.cells #[] 5)) (.slice (Ac w.heap.size) 0 0) (Option.some w.heap.size) 5 1 0 [] from⟨World.ownsRow_lit (size:=1) w #[] 0 (Nat.zero_le _) (by unfold maxLen;omega) Vj,rfl⟩);have d:Below w.heap.size w (w.alloc (.cells #[] 5)):=by go_grown
 have j:=qh d;have A:=d.size;clear a d h;have E:∀W:World,(binOp .eql 127 (.slice (Option.some ⟨b,C,none⟩) m c) AL).run prog W=.ok (.bool false) W:=λ_=>ND
 go_in;go_wp2_with (first|(at_builtin;refine aS (.int .u8 0) 1 1 u.o (Ak y) (x.reads.below j.o) ?_ (Dp _) (hl:=by rw[BU,hl,Nat.mul_one]) (hm0:=BJ);intro G B H q r p));obtain⟨s,t⟩:=WZ q (j.trans (p.below A (λk i=>by cases i;exact Nat.le_refl _)));have f:∃g,B=Option.some g/\w.heap.size<=g:=by
  rcases r with n|⟨k,i,F⟩
  .exact⟨_,n,Ve⟩
  .exact⟨k,i,BJ⟩
 obtain⟨g,rfl,f⟩:=f;clear q p r;go_ret;have l:=s.o;rw[Nat.zero_add,List.nil_append] at l;exact⟨_,rfl,l.nX z f BJ,t.o⟩
theorem vZ(n:Nat)(w:World)(h1:1<=n)(hn:n<=1000000) :Calls prog 282 #[AL,AA n] w λe w'=>∃v g,e=.returned v/\AV w' v (Option.some g) 5 1 0 []/\w.heap.size<=g/\Below w.heap.size w w':=by
 obtain⟨i,k,p,r,h⟩:=info_parts (show (prog.info? 5).map (λi=>(i.zero,i.size,i.bytes))=Option.some (Option.some (.int .u8 0),1,1) by kernel_rfl);have l:=λs=>Lib.run_append_nil_zeros (P:=prog) w 127 3 s 5 i (.int .u8 0) .i64 .i64 underlying127 underlying3 k p n h1 BJ BJ (by rw[h];omega);have q:=grownCap_ge w n 0 5;have a:=grownCap_le_maxLen w n 0 5 (by unfold maxLen;omega);have d:=qh l;clear l k p r h;generalize grownCap w n 0 5=c at d q a;have f:Below w.heap.size w (w.drew.alloc (.cells (Builtin.zeroCells (Value.int .u8 0).cells n++Builtin.zeroCells (Value.int .u8 0).cells (c-n)) 5)):=(AY _ w).alloc Ve _;have j:(w.drew.alloc (.cells (Builtin.zeroCells (Value.int .u8 0).cells n++Builtin.zeroCells (Value.int .u8 0).cells (c-n)) 5)).heap[w.heap.size]?=Option.some (.cells (Builtin.zeroCells (Value.int .u8 0).cells n++Builtin.zeroCells (Value.int .u8 0).cells (c-n)) 5 (0,0)):=by show (w.heap.push _)[w.heap.size]?=_;simp
 have m:(Builtin.zeroCells (Value.int .u8 0).cells n++Builtin.zeroCells (Value.int .u8 0).cells (c-n)).size=c:=by rw[Array.size_append,size_zeroCells,size_zeroCells,show (Value.int .u8 0).cells.size=1 from rfl];omega
 have b:=qh (show AV _ (.slice (Ac w.heap.size) 0 c) (Option.some w.heap.size) 5 1 0 []/\_ from⟨⟨⟨rfl,.inr ⟨w.heap.size,c,_,rfl,Nat.zero_le _,j,Nat.zero_le _,a,by rw[m,Nat.mul_one],rfl⟩⟩,rfl⟩,f⟩);clear j m f;unfold maxLen at a;go_in;go_wp2_with (at_builtin;refine Lib.wpList_append_run _ rfl (.tmp 20) (.tmp 21) 127 3 rfl _ _ rfl rfl _ _ (d.o _) ?_);go_ret;exact⟨_,_,rfl,b.1,Ve,b.2⟩
def MR(w:World)(B:Nat)(v:Value)(n:Nat)(bs:List Nat):Prop:=∃g,AV w v (Option.some g) 5 1 n (Ak bs)/\B<=g
theorem MR.next{w w':World}{B:Nat}{v':Value}{ob ob':Option Nat}{n:Nat}{bs:List Nat}(h:AV w' v' ob' 5 1 n (Ak bs))(ho:ob'=ob\/∃k,ob'=Option.some k/\w.heap.size<=k)(hB:B<=w.heap.size)(g:Nat)(hob:ob=Option.some g)(hg:B<=g):MR w' B v' n bs:=by
 rcases ho with a|⟨k,b,c⟩
 .subst hob a;exact⟨g,h,hg⟩
 .subst b;exact⟨k,h,BJ⟩
theorem kw(gs:Nat)(v1 v2:Value)(m1 m2:Nat)(rest:List Value)(w:World)(hg:Holds w gs 127 (v1 :: v2 :: rest))(h1:Be w v1 m1)(h2:Be w v2 m2)(hv:v1=AL\/1<=m1)(hm1:m1<=400000)(hm2:1<=m2)(hm3:m2<=400000) :Calls prog 227 #[.slice (Ac gs) 2 2] w λe w'=>∃v,e=.returned v/\Au w' w.heap.size v (m1+m2)/\Below w.heap.size w w':=by
 obtain⟨T,O,f,rfl,R,Y,aa,y⟩:=h1;obtain⟨V,ac,X,p,rfl,Z,ab,z⟩:=h2.some hm2;have P:=y.len;have Q:=z.len;have H:(∀x∈f,x<256)/\∀x∈p,x<256:=⟨y.2.2.1,z.2.2.1⟩;obtain⟨F,K,L,N⟩:=bY H y z (λW=>by have:=vZ (m1+m2) W BJ BJ;push_cast at this;exact this);have J:(m1=0/\Value.slice T m1 O=AL)\/1<=m1:=by
  rcases hv with h|h
  .exact .inl ⟨by injection h,h⟩
  .exact .inr h
 obtain⟨M,t⟩:=WZ J hg;clear y z hv h2 J hg R H;go_in;go_wp2_with fail
 go_loop [11,3] (λl m=>∃i:Nat,l=AA (i:Int)/\((i=0/\m=AA 0)\/(i=1/\m=AA m1)\/(i=2/\m=AA ((m1:Int)+m2)))) (λl _=>2 - (intOf l).toNat)
 case atStart=>exact⟨0,rfl,.inl ⟨rfl,rfl⟩⟩
 case round=>
  obtain⟨i,rfl,⟨rfl,rfl⟩|⟨rfl,rfl⟩|⟨rfl,rfl⟩⟩:=hrel
  .have u:=t.cell 0;simp only[yA,yB] at u;go_wp2_with fail
   go_round
   case rel=>exact⟨1,rfl,.inr (.inl ⟨rfl,Vj⟩)⟩
   case measure=>simp[intOf]
  .have D:=t.cell 1;simp only[yA,yB] at D;go_wp2_with fail
   go_round
   case rel=>exact⟨2,rfl,.inr (.inr ⟨rfl,rfl⟩)⟩
   case measure=>simp[intOf]
  .go_wp2_with fail;refine(N.o _).mono ?_;rintro e w1 ⟨v,g,rfl,c,hg,a⟩;obtain⟨b,d⟩:=WZ a c;have j:=a.size;clear a c;go_wp2_with fail;go_loopw [27,6] (λl m wr=>∃i:Nat,l=AA (i:Int)/\Below w.heap.size w wr/\((i=0/\MR wr w.heap.size m 0 [])\/(i=1/\MR wr w.heap.size m m1 f)\/(i=2/\MR wr w.heap.size m (m1+m2) (f++p)))) (λl _ _=>2 - (intOf l).toNat);case atStart=>exact⟨0,rfl,b.o,.inl ⟨rfl,g,d.o,hg⟩⟩
   case round=>
    clear b d hg j;obtain⟨i,rfl,a,⟨rfl,g,c,hg⟩|⟨rfl,g,c,hg⟩|⟨rfl,g,c,hg⟩⟩:=hrel
    .obtain⟨b,d⟩:=WZ a c;have j:=a.size;have C:=qh (AX t.o a);clear a c;have u:=Am C.o 0;rcases M.o with⟨G,I⟩|h1
     .obtain⟨HVN,H0⟩:=WZ I (And.intro G (show f=[] from List.eq_nil_of_length_eq_zero BJ));clear I G;rw[HVN.o] at u;go_wp2_with (first|(at_builtin;refine Dn rfl (.tmp 31) (.tmp 32) 127 rfl 5 (.int .u8 0) 1 1 rfl ND _ _ 0 _ rfl d.o rfl ?_));go_roundw;case rel=>exact⟨1,rfl,b.o,.inr (.inl ⟨rfl,g,by rw[H0.1,H0.2];exact d.o,hg⟩)⟩
      case measure=>simp[intOf]
     .go_wp2_with (first|(at_builtin;refine aS (.int .u8 0) 1 1 d.o (Ak f) (K.reads.below b.o) ?_ (Dp _) (hl:=by rw[BU,P,Nat.mul_one]) (hm0:=BJ);intro v2 S U q r hm2));obtain⟨A,B⟩:=WZ (MR.next (w:=wr) (n:=m1) (bs:=f) (by rw[Nat.zero_add,show Ak []=[] from rfl,List.nil_append] at q;exact q) r j g rfl hg) (b.trans (hm2.below j (λk E=>by cases E;exact hg)));clear q r hm2 u;go_roundw;case rel=>exact⟨1,rfl,B.o,.inr (.inl ⟨rfl,A.o⟩)⟩
      case measure=>simp[intOf]
    .obtain⟨b,d⟩:=WZ a c;have j:=a.size;have C:=qh (AX t.o a);clear a c;have D:=Am C.o 1;go_wp2_with (first|(at_builtin;refine aS (.int .u8 0) 1 1 d.o (Ak p) (L.reads.below b.o) ?_ (Dp _) (hl:=by rw[BU,Q,Nat.mul_one]) (hm0:=BJ);intro v2 S U q r hm2));obtain⟨A,B⟩:=WZ (MR.next (w:=wr) (bs:=f++p) (by rw[show Ak (f++p)=Ak f++Ak p from by simp[Ak]];exact q) r j g rfl hg) (b.trans (hm2.below j (λk E=>by cases E;exact hg)));clear q r hm2 D;go_roundw;case rel=>exact⟨2,rfl,B.o,.inr (.inr ⟨rfl,A.o⟩)⟩
     case measure=>simp[intOf]
    .obtain⟨b,d⟩:=WZ a c;clear a c;go_wp2_with fail;go_ret;refine⟨_,rfl,d.nX (λx s=>?_) hg BJ,b.o⟩;rcases List.mem_append.1 s with s|s
     .exact F.1 x s
     .exact F.2 x s
end Go.Proofs.YtimdpiifpibgfaaGreatDoor
