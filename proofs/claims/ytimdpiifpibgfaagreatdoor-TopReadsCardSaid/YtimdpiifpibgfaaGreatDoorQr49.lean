/- For every input the law TopReads returns true. Condition: the listed variables start as the program's text lays them. -/
import Derived.SizedLaws
import Derived.LaidMore
import Derived.Stop.Joined
import Derived.SevenTiedAt
import Derived.Test.YtimdpiifpibgfaaGreatDoorCards
import Derived.Test.YtimdpiifpibgfaaGreatDoorTie
import Derived.Test.YtimdpiifpibgfaaGreatDoorQr48
set_option linter.all false
set_option maxRecDepth 20000
set_option maxHeartbeats 16000000
namespace Go.Proofs.YtimdpiifpibgfaaGreatDoor
open Go.Proofs.Tryz
section
namespace topReads
open Go.ChangeShapes Go.WideShapes Go.ChangeAt Go.RowKit
open Go.ChangeMaps (open_string shut_string)
theorem own:ownKnob prog.godebug=none:=by kernel_rfl
theorem laidOut:laidOutB prog=true:=by kernel_rfl
theorem door_met(os:Os)(args:Array Value):laidMetH prog Rows.topReadsRow.laid ((World.doorLaid prog 62 os).forCall (λ_ _=>0) ⟨#[],args,[]⟩).memory:=
 laidMetH_of_parts3 (fuel:=8) (laidMet_of_run' 8 (by kernel_rfl) (by kernel_rfl)) (by kernel_rfl) (by kernel_rfl)
set_option maxRecDepth 100000 in
theorem lifted(os:Os)(started:os.Started)(H:Type)(enc:TypeId × Value->H) :ReturnsInHanded {} checked os 5 .any (λw args=>(Rows.topReadsSpec.pre enc prog f5 [] false w args/\laidMetH prog Rows.topReadsRow.laid w)/\sizedMet enc prog f5 (OpenSpec.ofChange Rows.topReadsSpec) false w args) (Rows.topReadsSpec.post enc prog f5 false true false false):=by
 refine returnsInHanded_of_change_and (C:=checked) (X:=λw _=>laidMetH prog Rows.topReadsRow.laid w) (λ_ _ _ R h=>h.of_heap R) own started (by kernel_rfl) func5
  (ChangeSpec.witness_shaped (enc:=enc) (C:=checked) (os:=os) (X:=λw _=>laidMetH prog Rows.topReadsRow.laid w) false (World.doorLaid prog 62 os) #[.int .i64 0,.slice none 0 0,.slice none 0 0] 8 rfl (World.shaped_of_RefB (by kernel_rfl) (by kernel_rfl)) (by kernel_rfl) (by kernel_rfl) (by kernel_rfl) (door_met os _)) ?_
 intro W I args d N ab o n ai T _ _;have c:∀(j:Nat) t v,f5.params[j]?=some t->args[j]?=some v->Value.okWide prog W .any I t v:=o;have P:=n;obtain⟨p,q,l,O,rfl,aj,ak⟩:=n;have k:DataW.TrodAll enc prog W 0 (λ_=>true) true f5.params.toList args.toList d p:=l;have S:(DataW.weightsEach prog (f5.params.toList++Rows.topReadsSpec.plain.varTypes prog) (d++N)).all (·<=reachBytes)=true:=T;rw[params5] at k c S;obtain⟨y,al,d0,ac,p0,q0,ah,rfl,rfl,f,r0⟩:=trodAll_cons k;obtain⟨z,am,d1,ad,p1,q1,rfl,rfl,rfl,g,r1⟩:=trodAll_cons r0;obtain⟨A,an,d2,ae,p2,q2,rfl,rfl,rfl,i,r2⟩:=trodAll_cons r1;obtain⟨rfl,rfl,rfl⟩:=trodAll_nil r2;obtain rfl:args=#[y,z,A]:=by cases args;simp_all
 obtain⟨rfl,rfl⟩:=trodVars_none O;have r:=f;have Y:∀x∈p0,x.block<W.heap.size:=by obtain⟨m,a⟩:=r;exact DataW.trod_lt m _ _ _ a
 obtain⟨B,rfl,af,ag,w0⟩:=open_int underlying3 (c 0 3 y rfl rfl) f;have s:=g;have Z:∀x∈p1,x.block<W.heap.size:=by obtain⟨m,a⟩:=s;exact DataW.trod_lt m _ _ _ a
 obtain⟨D,U,L,rfl⟩:=okWide_slice underlying30 (c 1 30 z rfl rfl);obtain⟨F,w1,y1,J,m1⟩:=TK (ls:=[.int .i64]) underlying30 (by kernel_rfl) (show prog.cellsOf 3=1 from by kernel_rfl) (by decide) g;have u:=i;have aa:∀x∈p2,x.block<W.heap.size:=by obtain⟨m,a⟩:=u;exact DataW.trod_lt m _ _ _ a
 obtain⟨E,V,M,rfl⟩:=okWide_slice underlying30 (c 2 30 A rfl rfl);obtain⟨G,w2,y2,K,m2⟩:=TK (ls:=[.int .i64]) underlying30 (by kernel_rfl) (show prog.cellsOf 3=1 from by kernel_rfl) (by decide) i;clear l o;refine(Rq B D U L F E V M G W w0 w1 y1 J w2 y2 K).mono λe W' ⟨Q,b⟩=>?_;subst Q;exact⟨_,rfl,_,_,_,[],_,[],P,trodAll_mk1 (shut_bool underlying4 _),(trodAll_cons_mk (Below.trod laidOut (by kernel_rfl) (of_decide_eq_true (by kernel_rfl)) r b Y) (trodAll_cons_mk (Below.trod laidOut (by kernel_rfl) (of_decide_eq_true (by kernel_rfl)) s b Z) (trodAll_cons_mk (Below.trod laidOut (by kernel_rfl) (of_decide_eq_true (by kernel_rfl)) u b aa) trodAll_mk0))),rfl,b.frame _,λh=>by cases h⟩
theorem c2:mapsRowed prog=true:=by kernel_rfl
theorem c9:(Rows.topReadsRow.inPlace==prog.inPlace 5)=true:=by kernel_rfl
theorem c10:(Rows.topReadsRow.unfollowed==prog.unfollowed 5)=true:=by kernel_rfl
theorem c11:(Rows.topReadsRow.recurses==prog.recurses 5)=true:=by kernel_rfl
theorem c12:(Rows.topReadsRow.named==prog.varsNamed 5)=true:=by kernel_rfl
theorem c24:prog.stopsHeard=true:=by kernel_rfl
theorem c25:prog.mayEnter=true:=by kernel_rfl
theorem c26:(Rows.topReadsRow.lifted==prog.liftsFinal)=true:=by kernel_rfl
theorem closed:joinedFacts prog 5 f5 Rows.topReadsSpec Rows.topReadsRow=true:=
 Zf (by kernel_rfl) laidOut c2 (by kernel_rfl) (by kernel_rfl) (by kernel_rfl) (by kernel_rfl) (by kernel_rfl) (by kernel_rfl) c9 c10 c11 c12 (by kernel_rfl) (by kernel_rfl) (by kernel_rfl) (by kernel_rfl) (by kernel_rfl) (by kernel_rfl) (by kernel_rfl) (by kernel_rfl) (by kernel_rfl) (by kernel_rfl) (by kernel_rfl) c24 c25 c26 (by kernel_rfl) (by kernel_rfl) (by kernel_rfl) (by kernel_rfl) (by kernel_rfl)
theorem over:Rows.topReadsRow.holds Tryz.pinned (OpenSpec.ofChange Rows.topReadsSpec):=
 OpenClaim.holds_of_wide 5 f5 rfl rfl rfl rfl rfl rfl rfl ⟨rfl,rfl,rfl,rfl,rfl⟩ rfl rfl rfl rfl rfl (by kernel_rfl) func5 closed
  (of_decide_eq_true (by kernel_rfl)) (by unfold Func.isWrapper;first|(rw[if_pos (by decide +kernel)];kernel_rfl)|(rw[if_neg (by decide +kernel)];exact⟨rfl,rfl⟩))
  (λb c H a _=>lifted b c H a)
theorem plain(f:FuncId)(fn:Func)(hf:Tryz.pinned.checked.prog.funcNamed Rows.topReadsRow.func=some f)(hfn:Tryz.pinned.checked.prog.funcs[f]?=some fn) :true=Tryz.pinned.checked.prog.looks []/\∀(j:Nat) t,fn.params[j]?=some t->Tryz.pinned.checked.prog.wantsStandIn t=false:=by
 obtain rfl:f=5:=Option.some.inj ((show prog.funcNamed Rows.topReadsRow.func=some 5 by kernel_rfl).symm.trans hf) |>.symm;obtain rfl:fn=f5:=(Option.some.inj (func5.symm.trans hfn)).symm;refine⟨by kernel_rfl,λj t a=>?_⟩;rw[params5] at a;have c:t∈[3,30,30]:=by simpa using Array.mem_of_getElem? a
 have b:([3,30,30].all λu=>!prog.wantsStandIn u)=true:=by kernel_rfl
 exact(show prog.wantsStandIn t=false by simpa using List.all_eq_true.1 b t c)
theorem proved:Rows.TopReadsCardSaid:=
 Claim7.holds_tied_plain_at .later [] _ _ _ _ over (λ_ h=>by cases h) (by kernel_rfl) (λ_ h=>by cases h) topReads_row_tie rfl ⟨rfl,rfl⟩ (by kernel_rfl) rfl plain (by kernel_rfl)
#print axioms proved
end topReads
end
end Go.Proofs.YtimdpiifpibgfaaGreatDoor
