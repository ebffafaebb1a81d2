/-
  The law RunsTurned: for every input it returns true, and its arguments read behind the call as before; its card, tied to the program's text. Conditions: none.
-/
import Derived.Test.YtbgnapmaimkpkaaGreatDoorJn12
import Derived.Test.YtbgnapmaimkpkaaGreatDoorTie
import Derived.Test.YtbgnapmaimkpkaaGreatDoorCards
set_option linter.unusedSimpArgs false
set_option linter.unusedVariables false
namespace Go.Proofs.YtbgnapmaimkpkaaGreatDoor
open Go.ChangeShapes Go.WideShapes Go.ChangeAt Go.RowKit Go.Deep
set_option maxRecDepth 100000 in
theorem runsTurned_lifted (os:Os) (started:os.Started) (H:Type) (enc:TypeId × Value→H) :
   ReturnsInHanded {} Tryz.checked os 10 .any (fun w args=>(Rows.runsTurnedSpec.pre enc Tryz.prog Tryz.f10 [] false w args∧laidMetH Tryz.prog laidN w)∧sizedMet enc Tryz.prog Tryz.f10 (OpenSpec.ofChange Rows.runsTurnedSpec) false w args)
     (Rows.runsTurnedSpec.post enc Tryz.prog Tryz.f10 false true false false):=by
 refine returnsInHanded_of_change_and (C:=Tryz.checked) (X:=fun w _=>laidMetH Tryz.prog laidN w) (fun _ _ _ hh h=>h.of_heap hh) row_knob started (by kernel_rfl) Tryz.func10
   (ChangeSpec.witness_shaped (enc:=enc) (C:=Tryz.checked) (os:=os) (X:=fun w _=>laidMetH Tryz.prog laidN w) false (World.doorLaid Tryz.prog 14 os) #[.agg #[.string ByteArray.empty,.slice none 0 0,.slice none 0 0,.slice none 0 0,.int .u8 0,.int .u8 0,.int .u8 0,.int .u8 0,.int .u8 0,.slice none 0 0],.int .u8 0,.slice none 0 0,.slice none 0 0] 8 rfl (World.shaped_of_RefB (by kernel_rfl) (by kernel_rfl)) (by kernel_rfl) (by kernel_rfl) (by kernel_rfl)
     (laidMetH_of_parts3 (fuel:=8) (laidMet_of_run' 8 (by kernel_rfl) (by kernel_rfl)) (by kernel_rfl) (by kernel_rfl))) ?_
 intro W base args ds gs before hval0 hW _ hsz0 hL _
 have hsz:(DataW.weightsEach Tryz.prog (Tryz.f10.params.toList++Rows.runsTurnedSpec.plain.varTypes Tryz.prog) (ds++gs)).all (· ≤ reachBytes)=true:=hsz0
 have hval:∀ (j:Nat) t v,Tryz.f10.params[j]? = some t→args[j]? = some v→Value.okWide Tryz.prog W .any base t v:=hval0
 have hW':=hW
 obtain ⟨p,q,hA0,hV,rfl,hfz,hnd⟩:=hW
 have hA:DataW.TrodAll enc Tryz.prog W 0 (fun _=>true) true Tryz.f10.params.toList args.toList ds p:=hA0
 rw [Tryz.params10] at hA hval
 obtain ⟨v0,vs0,d0,ds0,p0,q0,hargs0,rfl,rfl,h0,r0⟩:=trodAll_cons hA
 obtain ⟨v1,vs1,d1,ds1,p1,q1,hargs1,rfl,rfl,h1,r1⟩:=trodAll_cons r0
 obtain ⟨v2,vs2,d2,ds2,p2,q2,hargs2,rfl,rfl,h2,r2⟩:=trodAll_cons r1
 obtain ⟨v3,vs3,d3,ds3,p3,q3,hargs3,rfl,rfl,h3,r3⟩:=trodAll_cons r2
 obtain ⟨rfl,rfl,rfl⟩:=trodAll_nil r3
 subst hargs1;subst hargs2;subst hargs3
 obtain rfl:args = #[v0,v1,v2,v3]:=by cases args;simp_all
 obtain ⟨rfl,rfl⟩:=trodVars_none hV
 have hN:=needs_of_laid hL
 have hw0:∀ n ∈ d0.weights Tryz.prog 29,n≤reachBytes:=fun n hn=>by
   have:=List.all_eq_true.1 hsz _ (DataW.weights_mem_each (j:=0) (t:=29) (d:=d0) rfl rfl n hn)
   simpa using this
 obtain ⟨cs0,pr0,rfl,hP0,hZ0⟩:=a_progY (hval 0 29 v0 rfl rfl) h0 hw0
 obtain ⟨u1,rfl⟩:=a_u8 (hval 1 5 v1 rfl rfl) h1
 obtain ⟨A2,C2,l2,rfl,hB2,hc2,hn2,hnil2⟩:=a_bytes (hval 2 23 v2 rfl rfl) h2
 obtain ⟨A3,C3,l3,rfl,hB3,hc3,hn3,hnil3⟩:=a_bytes (hval 3 23 v3 rfl rfl) h3
 have hlt0:∀ x ∈ p0,x.block < W.heap.size:=by
   obtain ⟨fuel,hf⟩:=h0
   exact DataW.trod_lt _ _ _ _ hf
 have hlt1:∀ x ∈ p1,x.block < W.heap.size:=by
   obtain ⟨fuel,hf⟩:=h1
   exact DataW.trod_lt _ _ _ _ hf
 have hlt2:∀ x ∈ p2,x.block < W.heap.size:=by
   obtain ⟨fuel,hf⟩:=h2
   exact DataW.trod_lt _ _ _ _ hf
 have hlt3:∀ x ∈ p3,x.block < W.heap.size:=by
   obtain ⟨fuel,hf⟩:=h3
   exact DataW.trod_lt _ _ _ _ hf
 clear hA0 hval0 hsz0
 simp only [List.append_nil] at hW'
 refine (runsTurned_any cs0 pr0 W hP0 hZ0 hN u1 A2 C2 l2 hB2 hn2 A3 C3 l3 hB3 hn3).mono fun e W' ⟨he,hb⟩=>?_
 subst he
 exact ⟨_,rfl,post_of_below (pa:=p0++(p1++(p2++(p3++[])))) (pv:=[]) hW' (fun _ _ _=>(trodAll_cons_mk (shut_bool Tryz.underlying4 _) trodAll_mk0))
   (fun sp hsp=>(trodAll_cons_mk (WideElems.Trod_stays (P:=Tryz.prog) laidOutP (by kernel_rfl) (of_decide_eq_true (by kernel_rfl)) h0 (fun x hx=>hb.same (hlt0 x hx)) (fun x hx=>hsp x (by simp [hx]))) (trodAll_cons_mk (WideElems.Trod_stays (P:=Tryz.prog) laidOutP (by kernel_rfl) (of_decide_eq_true (by kernel_rfl)) h1 (fun x hx=>hb.same (hlt1 x hx)) (fun x hx=>hsp x (by simp [hx]))) (trodAll_cons_mk (WideElems.Trod_stays (P:=Tryz.prog) laidOutP (by kernel_rfl) (of_decide_eq_true (by kernel_rfl)) h2 (fun x hx=>hb.same (hlt2 x hx)) (fun x hx=>hsp x (by simp [hx]))) (trodAll_cons_mk (WideElems.Trod_stays (P:=Tryz.prog) laidOutP (by kernel_rfl) (of_decide_eq_true (by kernel_rfl)) h3 (fun x hx=>hb.same (hlt3 x hx)) (fun x hx=>hsp x (by simp [hx]))) trodAll_mk0))))) (fun _ _=>rfl) (by simp)
   hb (ok_one (by kernel_rfl) rfl (okWide_bool_mk Tryz.underlying4 _))⟩
theorem runsTurned_holds:Rows.RunsTurnedSaid:=
 OpenClaim.holds_of_wide 10 Tryz.f10 rfl rfl rfl rfl rfl rfl rfl ⟨rfl,rfl,rfl,rfl,rfl⟩ rfl rfl rfl rfl rfl (by kernel_rfl) Tryz.func10 (by kernel_rfl)
   (of_decide_eq_true (by kernel_rfl)) (by unfold Func.isWrapper;first | (rw [if_pos (by decide +kernel)];kernel_rfl) | (rw [if_neg (by decide +kernel)];exact ⟨rfl,rfl⟩))
   (fun os started H enc _=>runsTurned_lifted os started H enc)
theorem runsTurned_card:Rows.RunsTurnedCardSaid:=
 Claim7.holds_tied_plain_at .later [] [.data] true Rows.runsTurnedCard.stood.harness Rows.runsTurnedCard.stood.looks
   runsTurned_holds (fun _ h=>by cases h) (by kernel_rfl) (fun _ h=>by cases h) runsTurned_row_tie rfl ⟨rfl,rfl⟩ (by kernel_rfl) rfl
   (fun f fn hf hfn=>by
     obtain rfl : f = 10 := Option.some.inj ((show Tryz.prog.funcNamed "seisin/seisinlaw15.RunsTurned" = some 10 by kernel_rfl).symm.trans hf) |>.symm
     obtain rfl:fn=Tryz.f10:=(Option.some.inj (Tryz.func10.symm.trans hfn)).symm
     exact ⟨by kernel_rfl,fun j t ht=>by
       rw [Tryz.params10] at ht
       have hm:t ∈ [29,5,23,23]:=by simpa using Array.mem_of_getElem? ht
       have hall:([29,5,23,23].all fun u=>!Tryz.prog.wantsStandIn u)=true:=by kernel_rfl
       exact (show Tryz.prog.wantsStandIn t=false by simpa using List.all_eq_true.1 hall t hm)⟩)
   (by kernel_rfl)
end Go.Proofs.YtbgnapmaimkpkaaGreatDoor
