/- For every input the law TopGone returns true. Condition: the listed variables start as the program's text lays them. -/
import Derived.SizedLaws
import Derived.LaidMore
import Derived.Stop.Joined
import Derived.SevenTiedAt
import Derived.Test.YtimdpiifpibgfaaGreatDoorCards
import Derived.Test.YtimdpiifpibgfaaGreatDoorTie
import Derived.Test.YtimdpiifpibgfaaGreatDoorQg46
set_option linter.all false
set_option maxRecDepth 20000
set_option maxHeartbeats 16000000
namespace Go.Proofs.YtimdpiifpibgfaaGreatDoor
open Go.Proofs.Tryz
section
namespace topGone
open Go.ChangeShapes Go.WideShapes Go.ChangeAt Go.RowKit
open Go.ChangeMaps (open_string shut_string)
theorem own:ownKnob prog.godebug=none:=by kernel_rfl
theorem laidOut:laidOutB prog=true:=by kernel_rfl
theorem door_met(os:Os)(args:Array Value):laidMetH prog Rows.topGoneRow.laid ((World.doorLaid prog 62 os).forCall (λ_ _=>0) ⟨#[],args,[]⟩).memory:=
 laidMetH_of_parts3 (fuel:=8) (laidMet_of_run' 8 (by kernel_rfl) (by kernel_rfl)) (by kernel_rfl) (by kernel_rfl)
set_option maxRecDepth 100000 in
theorem lifted(os:Os)(started:os.Started)(H:Type)(enc:TypeId × Value→H) :ReturnsInHanded {} checked os 4 .any (λw args=>(Rows.topGoneSpec.pre enc prog f4 [] false w args∧laidMetH prog Rows.topGoneRow.laid w)∧sizedMet enc prog f4 (OpenSpec.ofChange Rows.topGoneSpec) false w args) (Rows.topGoneSpec.post enc prog f4 false true false false):=by
 refine returnsInHanded_of_change_and (C:=checked) (X:=λw _=>laidMetH prog Rows.topGoneRow.laid w) (λ_ _ _ hh h=>h.of_heap hh) own started (by kernel_rfl) func4
  (ChangeSpec.witness_shaped (enc:=enc) (C:=checked) (os:=os) (X:=λw _=>laidMetH prog Rows.topGoneRow.laid w) false (World.doorLaid prog 62 os) #[.int .i64 0,.int .i64 0,.int .i64 0,.agg #[.int .i64 0,.int .i64 0,.int .i64 0,.string ByteArray.empty,.string ByteArray.empty,.string ByteArray.empty,.string ByteArray.empty]] 8 rfl (World.shaped_of_RefB (by kernel_rfl) (by kernel_rfl)) (by kernel_rfl) (by kernel_rfl) (by kernel_rfl) (door_met os _)) ?_
 intro W base args ds gs before hval0 hW hcnd hsz0 _ _;have hval:∀(j:Nat) t v,f4.params[j]?=some t→args[j]?=some v→Value.okWide prog W .any base t v:=hval0;have hW':=hW;obtain⟨p,q,hA0,hV,rfl,hfz,hnd⟩:=hW;have hA:DataW.TrodAll enc prog W 0 (λ_=>true) true f4.params.toList args.toList ds p:=hA0;have hsz:(DataW.weightsEach prog (f4.params.toList++Rows.topGoneSpec.plain.varTypes prog) (ds++gs)).all (·≤reachBytes)=true:=hsz0;rw[params4] at hA hval hsz;obtain⟨v0,vs0,d0,ds0,p0,q0,hargs,rfl,rfl,h0,r0⟩:=trodAll_cons hA;obtain⟨v1,vs1,d1,ds1,p1,q1,rfl,rfl,rfl,h1,r1⟩:=trodAll_cons r0;obtain⟨v2,vs2,d2,ds2,p2,q2,rfl,rfl,rfl,h2,r2⟩:=trodAll_cons r1;obtain⟨v3,vs3,d3,ds3,p3,q3,rfl,rfl,rfl,h3,r3⟩:=trodAll_cons r2;obtain⟨rfl,rfl,rfl⟩:=trodAll_nil r3;obtain rfl:args=#[v0,v1,v2,v3]:=by cases args;simp_all
 obtain⟨rfl,rfl⟩:=trodVars_none hV;have k0:=h0;have lt0:∀x∈p0,x.block<W.heap.size:=by obtain⟨m,hm⟩:=k0;exact DataW.trod_lt m _ _ _ hm
 obtain⟨a0,rfl,ed0,ep0,w0⟩:=open_int underlying3 (hval 0 3 v0 rfl rfl) h0;have k1:=h1;have lt1:∀x∈p1,x.block<W.heap.size:=by obtain⟨m,hm⟩:=k1;exact DataW.trod_lt m _ _ _ hm
 obtain⟨a1,rfl,ed1,ep1,w1⟩:=open_int underlying3 (hval 1 3 v1 rfl rfl) h1;have k2:=h2;have lt2:∀x∈p2,x.block<W.heap.size:=by obtain⟨m,hm⟩:=k2;exact DataW.trod_lt m _ _ _ hm
 obtain⟨a2,rfl,ed2,ep2,w2⟩:=open_int underlying3 (hval 2 3 v2 rfl rfl) h2;have k3:=h3;have lt3:∀x∈p3,x.block<W.heap.size:=by obtain⟨m,hm⟩:=k3;exact DataW.trod_lt m _ _ _ hm
 have f3:Ei [.int .i64,.int .i64,.int .i64,.string,.string,.string,.string] v3.cells.toList:=by obtain⟨m,hm⟩:=k3;exact MO 9 m _ _ _ _ hm (by kernel_rfl)
 obtain⟨y3,rfl⟩:=Qc (Or.inl ⟨_,underlying23⟩) (hval 3 23 v3 rfl rfl);simp only[Value.cells] at f3;obtain⟨_,y3_0,rfl,⟨a3_0,rfl,w3_0⟩,f3_0⟩:=f3.cons;obtain⟨_,y3_1,rfl,⟨a3_1,rfl,w3_1⟩,f3_1⟩:=f3_0.cons;obtain⟨_,y3_2,rfl,⟨a3_2,rfl,w3_2⟩,f3_2⟩:=f3_1.cons;obtain⟨_,y3_3,rfl,⟨a3_3,rfl,w3_3⟩,f3_3⟩:=f3_2.cons;obtain⟨_,y3_4,rfl,⟨a3_4,rfl,w3_4⟩,f3_4⟩:=f3_3.cons;obtain⟨_,y3_5,rfl,⟨a3_5,rfl,w3_5⟩,f3_5⟩:=f3_4.cons;obtain⟨_,y3_6,rfl,⟨a3_6,rfl,w3_6⟩,f3_6⟩:=f3_5.cons;obtain rfl:=f3_6.nil;clear hA0 hval0;refine(Si a0 a1 a2 a3_0 a3_1 a3_2 a3_3 a3_4 a3_5 a3_6 W w0 w1 w2 w3_0 w3_1 w3_2 w3_3 w3_4 w3_5 w3_6).mono λe W' ⟨he,bel⟩=>?_;subst he;exact⟨_,rfl,_,_,_,[],_,[],hW',trodAll_mk1 (shut_bool underlying4 _),(trodAll_cons_mk (Below.trod laidOut (by kernel_rfl) (of_decide_eq_true (by kernel_rfl)) k0 bel lt0) (trodAll_cons_mk (Below.trod laidOut (by kernel_rfl) (of_decide_eq_true (by kernel_rfl)) k1 bel lt1) (trodAll_cons_mk (Below.trod laidOut (by kernel_rfl) (of_decide_eq_true (by kernel_rfl)) k2 bel lt2) (trodAll_cons_mk (Below.trod laidOut (by kernel_rfl) (of_decide_eq_true (by kernel_rfl)) k3 bel lt3) trodAll_mk0)))),rfl,bel.frame _,λh=>by cases h⟩
theorem c2:mapsRowed prog=true:=by kernel_rfl
theorem c9:(Rows.topGoneRow.inPlace==prog.inPlace 4)=true:=by kernel_rfl
theorem c10:(Rows.topGoneRow.unfollowed==prog.unfollowed 4)=true:=by kernel_rfl
theorem c11:(Rows.topGoneRow.recurses==prog.recurses 4)=true:=by kernel_rfl
theorem c12:(Rows.topGoneRow.named==prog.varsNamed 4)=true:=by kernel_rfl
theorem c24:prog.stopsHeard=true:=by kernel_rfl
theorem c25:prog.mayEnter=true:=by kernel_rfl
theorem c26:(Rows.topGoneRow.lifted==prog.liftsFinal)=true:=by kernel_rfl
theorem closed:joinedFacts prog 4 f4 Rows.topGoneSpec Rows.topGoneRow=true:=
 Vw (by kernel_rfl) laidOut c2 (by kernel_rfl) (by kernel_rfl) (by kernel_rfl) (by kernel_rfl) (by kernel_rfl) (by kernel_rfl) c9 c10 c11 c12 (by kernel_rfl) (by kernel_rfl) (by kernel_rfl) (by kernel_rfl) (by kernel_rfl) (by kernel_rfl) (by kernel_rfl) (by kernel_rfl) (by kernel_rfl) (by kernel_rfl) (by kernel_rfl) c24 c25 c26 (by kernel_rfl) (by kernel_rfl) (by kernel_rfl) (by kernel_rfl) (by kernel_rfl)
theorem over:Rows.topGoneRow.holds Tryz.pinned (OpenSpec.ofChange Rows.topGoneSpec):=
 OpenClaim.holds_of_wide 4 f4 rfl rfl rfl rfl rfl rfl rfl ⟨rfl,rfl,rfl,rfl,rfl⟩ rfl rfl rfl rfl rfl (by kernel_rfl) func4 closed
  (of_decide_eq_true (by kernel_rfl)) (by unfold Func.isWrapper;first|(rw[if_pos (by decide +kernel)];kernel_rfl)|(rw[if_neg (by decide +kernel)];exact⟨rfl,rfl⟩))
  (λos started H enc _=>lifted os started H enc)
theorem plain(f:FuncId)(fn:Func)(hf:Tryz.pinned.checked.prog.funcNamed Rows.topGoneRow.func=some f)(hfn:Tryz.pinned.checked.prog.funcs[f]?=some fn) :true=Tryz.pinned.checked.prog.looks []∧∀(j:Nat) t,fn.params[j]?=some t→Tryz.pinned.checked.prog.wantsStandIn t=false:=by
 obtain rfl:f=4:=Option.some.inj ((show prog.funcNamed Rows.topGoneRow.func=some 4 by kernel_rfl).symm.trans hf) |>.symm;obtain rfl:fn=f4:=(Option.some.inj (func4.symm.trans hfn)).symm;refine⟨by kernel_rfl,λj t ht=>?_⟩;rw[params4] at ht;have hm:t∈[3,3,3,23]:=by simpa using Array.mem_of_getElem? ht
 have hall:([3,3,3,23].all λu=>!prog.wantsStandIn u)=true:=by kernel_rfl
 exact(show prog.wantsStandIn t=false by simpa using List.all_eq_true.1 hall t hm)
theorem proved:Rows.TopGoneCardSaid:=
 Claim7.holds_tied_plain_at .later [] _ _ _ _ over (λ_ h=>by cases h) (by kernel_rfl) (λ_ h=>by cases h) topGone_row_tie rfl ⟨rfl,rfl⟩ (by kernel_rfl) rfl plain (by kernel_rfl)
#print axioms proved
end topGone
end
end Go.Proofs.YtimdpiifpibgfaaGreatDoor
