/-
  The law CheckPrints: for every input it returns true, and its arguments read behind the call as before; its card, tied to the program's text. Conditions: none.
-/
import Derived.Test.YtkchaoajegkadaaGreatDoorJn24
import Derived.Test.YtkchaoajegkadaaGreatDoorJn25
import Derived.Test.YtkchaoajegkadaaGreatDoorTie
import Derived.Test.YtkchaoajegkadaaGreatDoorCards
set_option linter.unusedSimpArgs false
set_option linter.unusedVariables false
namespace Go.Proofs.YtkchaoajegkadaaGreatDoor
open Go.ChangeShapes Go.WideShapes Go.ChangeAt Go.RowKit Go.Deep
set_option maxRecDepth 100000 in
theorem checkPrints_lifted (os:Os) (started:os.Started) (H:Type) (enc:TypeId × Value→H) :
   ReturnsInHanded {} Tryz.checked os 6 .any (fun w args=>(Rows.checkPrintsSpec.pre enc Tryz.prog Tryz.f6 [] false w args∧laidMetH Tryz.prog laidN w)∧sizedMet enc Tryz.prog Tryz.f6 (OpenSpec.ofChange Rows.checkPrintsSpec) false w args)
     (Rows.checkPrintsSpec.post enc Tryz.prog Tryz.f6 false true false false):=by
 refine returnsInHanded_of_change_and (C:=Tryz.checked) (X:=fun w _=>laidMetH Tryz.prog laidN w) (fun _ _ _ hh h=>h.of_heap hh) row_knob started (by kernel_rfl) Tryz.func6
   (ChangeSpec.witness_shaped (enc:=enc) (C:=Tryz.checked) (os:=os) (X:=fun w _=>laidMetH Tryz.prog laidN w) false (World.doorLaid Tryz.prog 29 os) #[.agg #[.string ByteArray.empty,.slice none 0 0,.slice none 0 0,.slice none 0 0,.int .u8 0,.int .u8 0,.int .u8 0,.int .u8 0,.int .u8 0,.slice none 0 0]] 8 rfl (World.shaped_of_RefB (by kernel_rfl) (by kernel_rfl)) (by kernel_rfl) (by kernel_rfl) (by kernel_rfl)
     (laidMetH_of_parts3 (fuel:=8) (laidMet_of_run' 8 (by kernel_rfl) (by kernel_rfl)) (by kernel_rfl) (by kernel_rfl))) ?_
 intro W base args ds gs before hval0 hW _ hsz0 hL _
 have hval:∀ (j:Nat) t v,Tryz.f6.params[j]? = some t→args[j]? = some v→Value.okWide Tryz.prog W .any base t v:=hval0
 have hW':=hW
 obtain ⟨p,q,hA0,hV,rfl,hfz,hnd⟩:=hW
 have hA:DataW.TrodAll enc Tryz.prog W 0 (fun _=>true) true Tryz.f6.params.toList args.toList ds p:=hA0
 rw [Tryz.params6] at hA hval
 obtain ⟨v0,vs0,d0,ds0,p0,q0,hargs0,rfl,rfl,h0,r0⟩:=trodAll_cons hA
 obtain ⟨rfl,rfl,rfl⟩:=trodAll_nil r0
 obtain rfl:args = #[v0]:=by cases args;simp_all
 obtain ⟨rfl,rfl⟩:=trodVars_none hV
 have hN:=needs_of_laid hL
 have hT:=ten_of_laid4 hL
 obtain ⟨cs0,pr0,rfl,hP0⟩:=a_progK (hval 0 29 v0 rfl rfl) h0
 have hlt0:∀ x ∈ p0,x.block < W.heap.size:=by
   obtain ⟨fuel,hf⟩:=h0
   exact DataW.trod_lt _ _ _ _ hf
 clear hA0 hval0 hsz0
 simp only [List.append_nil] at hW'
 refine (checkPrints_any' hP0 hN hT).mono fun e W' ⟨he,hb⟩=>?_
 subst he
 exact ⟨_,rfl,post_of_below (pa:=p0++[]) (pv:=[]) hW' (fun _ _ _=>(trodAll_cons_mk (shut_bool Tryz.underlying4 _) trodAll_mk0))
   (fun sp hsp=>(trodAll_cons_mk (WideElems.Trod_stays (P:=Tryz.prog) laidOutP (by kernel_rfl) (of_decide_eq_true (by kernel_rfl)) h0 (fun x hx=>hb.same (hlt0 x hx)) (fun x hx=>hsp x (by simp [hx]))) trodAll_mk0)) (fun _ _=>rfl) (by simp)
   hb (ok_one (by kernel_rfl) rfl (okWide_bool_mk Tryz.underlying4 _))⟩
theorem checkPrints_holds:Rows.CheckPrintsSaid:=
 OpenClaim.holds_of_wide 6 Tryz.f6 rfl rfl rfl rfl rfl rfl rfl ⟨rfl,rfl,rfl,rfl,rfl⟩ rfl rfl rfl rfl rfl (by kernel_rfl) Tryz.func6 (by kernel_rfl)
   (of_decide_eq_true (by kernel_rfl)) (by unfold Func.isWrapper;first | (rw [if_pos (by decide +kernel)];kernel_rfl) | (rw [if_neg (by decide +kernel)];exact ⟨rfl,rfl⟩))
   (fun os started H enc _=>checkPrints_lifted os started H enc)
theorem checkPrints_card:Rows.CheckPrintsCardSaid:=
 Claim7.holds_tied_plain_at .later [] [.data,.data,.data,.data] true Rows.checkPrintsCard.stood.harness Rows.checkPrintsCard.stood.looks
   checkPrints_holds (fun _ h=>by cases h) (by kernel_rfl) (fun _ h=>by cases h) checkPrints_row_tie rfl ⟨rfl,rfl⟩ (by kernel_rfl) rfl
   (fun f fn hf hfn=>by
     obtain rfl : f = 6 := Option.some.inj ((show Tryz.prog.funcNamed "seisin/seisinlaw07.CheckPrints" = some 6 by kernel_rfl).symm.trans hf) |>.symm
     obtain rfl:fn=Tryz.f6:=(Option.some.inj (Tryz.func6.symm.trans hfn)).symm
     exact ⟨by kernel_rfl,fun j t ht=>by
       rw [Tryz.params6] at ht
       have hm:t ∈ [29]:=by simpa using Array.mem_of_getElem? ht
       have hall:([29].all fun u=>!Tryz.prog.wantsStandIn u)=true:=by kernel_rfl
       exact (show Tryz.prog.wantsStandIn t=false by simpa using List.all_eq_true.1 hall t hm)⟩)
   (by kernel_rfl)
end Go.Proofs.YtkchaoajegkadaaGreatDoor
