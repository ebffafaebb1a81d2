/-
  WALK2. Package parse: a line, by the function that the map of keywords answers. Conditions: the parser and all that it holds lie in memory.
-/
import Derived.Test.YtkchaoajegkadaaGreatDoorJn11
import Derived.Test.YtkchaoajegkadaaGreatDoorJn3
import Derived.Test.YtkchaoajegkadaaGreatDoorJn5
import Derived.Defers
import Derived.Recover
set_option linter.unusedSimpArgs false
set_option linter.unusedVariables false
namespace Go.Proofs.YtkchaoajegkadaaGreatDoor
-- PrZ
open Go.RowKit
set_option maxRecDepth 100000
def locV (z:Bool) (B:Option Addr) (n D:Nat):Value:=bif z then .slice B n D else .slice none 0 0
def LineAt (W w:World) (rs:List Res) (c:PX) (A:Option Addr) (C bp:Nat) (S:Nat→Prop) (z:Bool) (q:QL) (s:PS):Prop:=
 ∃ (B:Option Addr) (D:Nat) (IA:Option Addr) (IC:Nat) (TA:Option Addr) (TC:Nat) (hrows:List (List Value)) (LA:Option Addr) (LC:Nat) (last:List Ins) (ST:Nat→Prop) (frows:List (List Value)) (front:List (List Ins)) (T:Nat→Prop) (h:Nat) (b1 b2 b3 b4 b5:Value),
   Own W none w (.blk bp (parC c A C s B D [.string q.name,locV z B s.names.length D,.slice IA q.init.length IC,.slice TA hrows.length TC,b8 q.ask,b1,b2,b3,b4,b5,.int .i64 (q.wh:Int),.int .i64 (q.query:Int)]) 66 :: .held S A 3 (rowsT c.ts) :: .nms W c.fixed B D s.names ::
     .rws 5 1 (.slice IA q.init.length IC) (iniC q.init) :: .rws 52 1 (.slice TA hrows.length TC) hrows :: .rws 44 10 (.slice LA last.length LC) (insC last) :: .thrs ST frows front :: .tree T h [b1,b2,b3,b4,b5] q.cond :: rs) ∧
   frows.length=front.length∧(∀ r ∈ hrows,r.length=1)∧hrows.length=q.threads.length ∧
   (q.threads=[]∧front=[]∧frows=[]∧last=[]∧hrows=[]∨q.threads=front++[last]∧hrows=frows++[[.slice LA last.length LC]])∧h≤2000000
theorem Ans.imp {α:Type} {W w:World} {rs rs':List Res} {r:Rs α} {K K':α→PS→Ending→World→Prop} {e:Ending} (h:Ans W rs r K e w) (h1:Own W none w rs→Own W none w rs') (h2:∀ v t,r = .ok v t→K v t e w→K' v t e w):Ans W rs' r K' e w:=by
 cases r with
 | ok v t=>exact h2 v t rfl h
 | no p er=>exact ⟨h.1,h1 h.2⟩
section
variable {c:PX} (hc:c.Ok) (hm:c.ts.length≤900000) {W w0:World} {rs:List Res} {A:Option Addr} {C bp:Nat} {S:Nat→Prop} {q:QL} {s:PS}
include hc hm
theorem line_test (hs:s.pos≤c.ts.length) (hL:LineAt W w0 rs c A C bp S false q s) :
   Calls Tryz.prog 96 #[.pointer (some ⟨bp,0,none⟩)] w0 fun e w'=>Ans W rs (testL c q s) (fun v t e w'=>e = .returned (.tuple #[])∧LineAt W w' rs c A C bp S false v t) e w':=by
 obtain ⟨B,D,IA,IC,TA,TC,hrows,LA,LC,last,ST,frows,front,T,h,b1,b2,b3,b4,b5,H,hf,hr,hl,hth,hh⟩:=hL
 refine (ptest_any hc (q:=q) (s:=s) (by omega) H).mono fun e w' hA=>hA.imp (fun H=>H.tail.tail.tail.tail.tail) fun v t ht hk=>?_
 obtain ⟨rfl,hv,H⟩:=hk
 have e2:v.init=q.init:=by have e:=congrArg QL.init hv;exact e
 have e3:v.threads=q.threads:=by have e:=congrArg QL.threads hv;exact e
 have e4:v.ask=q.ask:=by have e:=congrArg QL.ask hv;exact e
 have e5:v.cond=q.cond:=by have e:=congrArg QL.cond hv;exact e
 have e7:v.query=q.query:=by have e:=congrArg QL.query hv;exact e
 refine ⟨rfl,B,D,IA,IC,TA,TC,hrows,LA,LC,last,ST,frows,front,T,h,b1,b2,b3,b4,b5,?_,hf,hr,by rw [e3];exact hl,by rw [e3];exact hth,hh⟩
 rw [e2,e4,e5,e7]
 have hn:t.names=s.names:=by
   unfold testL at ht
   split at ht
   · split at ht
     · cases ht
     · cases ht;rfl
   · cases ht
 rw [hn];rw [hn] at H
 exact H
theorem line_init (hq:QOk q s) (hs:s.pos < c.ts.length) (hL:LineAt W w0 rs c A C bp S false q s) :
   Calls Tryz.prog 97 #[.pointer (some ⟨bp,0,none⟩)] w0 fun e w'=>Ans W rs (if q.wh=1 then initL c (c.ts.length+1) q s.next else failP c s 50) (fun v t e w'=>e = .returned (.tuple #[])∧LineAt W w' rs c A C bp S false v t) e w':=by
 obtain ⟨B,D,IA,IC,TA,TC,hrows,LA,LC,last,ST,frows,front,T,h,b1,b2,b3,b4,b5,H,hf,hr,hl,hth,hh⟩:=hL
 have h6:s.names.length≤c.lim:=by have:=hq.nm.few;unfold PX.lim;cases c.fixed <;> simp <;> omega
 refine (pinit_any hc hm (q:=q) (s:=s) hs h6 hq.ini H).mono fun e w' hA=>hA.imp (fun H=>H.tail.tail.tail.tail) fun v t ht hk=>?_
 obtain ⟨rfl,hv,B',D',IA',IC',H⟩:=hk
 have e1:v.name=q.name:=by have e:=congrArg QL.name hv;exact e
 have e3:v.threads=q.threads:=by have e:=congrArg QL.threads hv;exact e
 have e4:v.ask=q.ask:=by have e:=congrArg QL.ask hv;exact e
 have e5:v.cond=q.cond:=by have e:=congrArg QL.cond hv;exact e
 have e7:v.query=q.query:=by have e:=congrArg QL.query hv;exact e
 refine ⟨rfl,B',D',IA',IC',TA,TC,hrows,LA,LC,last,ST,frows,front,T,h,b1,b2,b3,b4,b5,?_,hf,hr,by rw [e3];exact hl,by rw [e3];exact hth,hh⟩
 rw [e1,e4,e5,e7]
 exact H
theorem line_thread (hq:QOk q s) (hs:s.pos≤c.ts.length) (hL:LineAt W w0 rs c A C bp S false q s) :
   Calls Tryz.prog 98 #[.pointer (some ⟨bp,0,none⟩)] w0 fun e w'=>Ans W rs (threadL c q s) (fun v t e w'=>e = .returned (.tuple #[])∧LineAt W w' rs c A C bp S false v t) e w':=by
 obtain ⟨B,D,IA,IC,TA,TC,hrows,LA,LC,last,ST,frows,front,T,h,b1,b2,b3,b4,b5,H,hf,hr,hl,hth,hh⟩:=hL
 refine (pthread_any hc (q:=q) (s:=s) hl hq.thr (by omega) (H.selT 8 [0,1,2,4,3,5,6,7] rfl rfl)).mono fun e w' hA=>hA.imp (fun H=>H.tail.tail.tail.tail) fun v t ht hk=>?_
 obtain ⟨rfl,hv,rfl,TA',TC',H⟩:=hk
 subst hv
 have hnr:∀ r ∈ hrows++[[Value.slice none 0 0]],r.length=1:=fun r h=>by
   rcases List.mem_append.1 h with h | h
   · exact hr r h
   · rw [List.mem_singleton.1 h];rfl
 have hnl:(hrows++[[Value.slice none 0 0]]).length=(q.threads++[[]]).length:=by rw [List.length_append,List.length_append,hl];rfl
 rcases hth with ⟨t1,rfl,rfl,rfl,rfl⟩ | ⟨t1,rfl⟩
 · refine ⟨rfl,B,D,IA,IC,TA',TC',[]++[[Value.slice none 0 0]],none,0,[],ST,[],[],T,h,b1,b2,b3,b4,b5,?_,rfl,hnr,hnl,.inr ⟨by show q.threads++[[]]=_;rw [t1],rfl⟩,hh⟩
   exact (((H.selT 8 [0,1,2,4,3,6,7] rfl rfl).nilRws 44 10).selT 8 [1,2,3,4,5,0,6,7] rfl rfl)
 · refine ⟨rfl,B,D,IA,IC,TA',TC',(frows++[[.slice LA last.length LC]])++[[Value.slice none 0 0]],none,0,[],(fun b=>(Value.slice LA last.length LC).ownBlock=some b∨ST b),frows++[[.slice LA last.length LC]],front++[last],T,h,b1,b2,b3,b4,b5,?_,by rw [List.length_append,List.length_append,hf];rfl,hnr,hnl,.inr ⟨by show q.threads++[[]]=_;rw [t1],rfl⟩,hh⟩
   exact (((H.selT 8 [5,6,0,1,2,4,3,7] rfl rfl).push hf).nilRws 44 10).selT 8 [2,3,4,5,6,0,1,7] rfl rfl
theorem line_ask (k:UInt8) (hq:QOk q s) (hs:s.pos < c.ts.length) (hk:AskW c s.pos k) (hL:LineAt W w0 rs c A C bp S false q s) :
   Calls Tryz.prog 99 #[.pointer (some ⟨bp,0,none⟩)] w0 fun e w'=>Ans W rs (askL c k q s) (fun v t e w'=>e = .returned (.tuple #[])∧LineAt W w' rs c A C bp S false v t) e w':=by
 obtain ⟨B,D,IA,IC,TA,TC,hrows,LA,LC,last,ST,frows,front,T,h,b1,b2,b3,b4,b5,H,hf,hr,hl,hth,hh⟩:=hL
 have h6:s.names.length≤c.lim:=by have:=hq.nm.few;unfold PX.lim;cases c.fixed <;> simp <;> omega
 refine (pask_any k hc hm (q:=q) (s:=s) hs h6 H hk).mono fun e w' hA=>hA.imp (fun H=>H.tail.tail.tail.tail.tail) fun v t ht hk=>?_
 obtain ⟨rfl,hv,T',h',c1,c2,c3,c4,c5,B',D',hh,H⟩:=hk
 have e2:v.init=q.init:=by have e:=congrArg QL.init hv;exact e
 have e3:v.threads=q.threads:=by have e:=congrArg QL.threads hv;exact e
 refine ⟨rfl,B',D',IA,IC,TA,TC,hrows,LA,LC,last,ST,frows,front,T',h',c1,c2,c3,c4,c5,?_,hf,hr,by rw [e3];exact hl,by rw [e3];exact hth,hh⟩
 rw [e2]
 exact H.selT 9 [1,2,3,4,5,6,7,0] rfl rfl
theorem line_add (hq:QOk q s) (hs:s.pos≤c.ts.length) (hL:LineAt W w0 rs c A C bp S false q s) :
   Calls Tryz.prog 55 #[.pointer (some ⟨bp,0,none⟩)] w0 fun e w'=>Ans W rs (addL c q s) (fun v t e w'=>e = .returned (.tuple #[])∧LineAt W w' rs c A C bp S false v t) e w':=by
 obtain ⟨B,D,IA,IC,TA,TC,hrows,LA,LC,last,ST,frows,front,T,h,b1,b2,b3,b4,b5,H,hf,hr,hl,hth,hh⟩:=hL
 have h6:s.names.length≤c.lim:=by have:=hq.nm.few;unfold PX.lim;cases c.fixed <;> simp <;> omega
 have hw3:q.wh=3→q.threads=front++[last]∧hrows=frows++[[.slice LA last.length LC]]:=fun h3=>by
   rcases hth with h | h
   · exact absurd h.1 (hq.three (.inl h3))
   · exact h
 have h12:last.length≤12:=by
   rcases hth with h | h
   · rw [h.2.2.2.1];exact Nat.zero_le _
   · exact (hq.ins last (by rw [h.1];exact List.mem_append_right _ (List.mem_singleton.2 rfl))).1
 refine (padd_any hc (q:=q) (s:=s) (front:=front) (frows:=frows) (by omega) h6 hw3 (by rw [hl];exact hq.thr) hr h12 (H.selT 8 [0,1,2,4,5,3,6,7] rfl rfl)).mono fun e w' hA=>hA.imp (fun H=>H.tail.tail.tail) fun v t ht hk=>?_
 obtain ⟨rfl,x,rfl,B',D',LA',LC',H⟩:=hk
 have h3:q.wh=3:=by
   unfold addL at ht
   split at ht
   · assumption
   · cases ht
 obtain ⟨t1,rfl⟩:=hw3 h3
 have hx:(frows++[[Value.slice LA last.length LC]]).length=(frows++[[Value.slice LA' (last++[x]).length LC']]).length:=by rw [List.length_append,List.length_append];rfl
 rw [hx] at H
 refine ⟨rfl,B',D',IA,IC,TA,TC,frows++[[Value.slice LA' (last++[x]).length LC']],LA',LC',last++[x],ST,frows,front,T,h,b1,b2,b3,b4,b5,H.selT 8 [0,1,2,5,3,4,6,7] rfl rfl,hf,fun r hr2=>?_,?_,.inr ⟨rfl,rfl⟩,hh⟩
 · rcases List.mem_append.1 hr2 with h | h
   · exact hr r (List.mem_append_left _ h)
   · rw [List.mem_singleton.1 h];rfl
 · rw [← hx,hl,t1,List.length_append,List.length_append];rfl
end
def addF:Value:=.func (.func 55) #[] #[]
def lineF (c:PX) (i:Nat):Value:=((findT (c.word i) linesM).map (·.2)).getD addF
theorem lineF_eq (c:PX) (i:Nat):lineF c i=if c.kw i [116,101,115,116] then .func (.func 96) #[] #[] else if c.kw i [105,110,105,116] then .func (.func 97) #[] #[] else if c.kw i [116,104,114,101,97,100] then .func (.func 98) #[] #[]
   else if c.kw i [115,111,109,101] then .func (.func 99) #[] #[] else if c.kw i [110,111,110,101] then .func (.func 99) #[] #[] else if c.kw i [97,108,108] then .func (.func 99) #[] #[] else addF:=by
 unfold lineF linesM
 rw [find_cons,find_cons,find_cons,find_cons,find_cons,find_cons]
 rw [kw_lit [116,101,115,116],kw_lit [105,110,105,116],kw_lit [116,104,114,101,97,100],kw_lit [115,111,109,101],kw_lit [110,111,110,101],kw_lit [97,108,108]]
 split
 · rfl
 split
 · rfl
 split
 · rfl
 split
 · rfl
 split
 · rfl
 split
 · rfl
 rfl
theorem pline_any {c:PX} (hc:c.Ok) (hm:c.ts.length≤900000) {W w0:World} {rs:List Res} {A:Option Addr} {C bp:Nat} {S:Nat→Prop} {q:QL} {s:PS} {f:Value} (hf:f=lineF c s.pos) (hq:QOk q s) (hs:s.pos≤c.ts.length) (hL:LineAt W w0 rs c A C bp S false q s) :
   CallsF Tryz.prog f [.pointer (some ⟨bp,0,none⟩)] w0 (fun e w'=>Ans W rs (lineL c q s) (fun v t e w'=>e = .returned (.tuple #[])∧LineAt W w' rs c A C bp S false v t) e w'):=by
 subst hf;rw [lineF_eq]
 unfold lineL
 by_cases h1:c.kw s.pos [116,101,115,116]=true
 · rw [if_pos h1,if_pos h1]
   exact ⟨_,[],[],rfl,Tryz.call96,line_test hc hm hs hL⟩
 rw [if_neg h1,if_neg h1]
 by_cases h2:c.kw s.pos [105,110,105,116]=true
 · rw [if_pos h2,if_pos h2]
   exact ⟨_,[],[],rfl,Tryz.call97,line_init hc hm hq (kw_lt h2) hL⟩
 rw [if_neg h2,if_neg h2]
 by_cases h3:c.kw s.pos [116,104,114,101,97,100]=true
 · rw [if_pos h3,if_pos h3]
   exact ⟨_,[],[],rfl,Tryz.call98,line_thread hc hm hq hs hL⟩
 rw [if_neg h3,if_neg h3]
 by_cases h4:c.kw s.pos [115,111,109,101]=true
 · rw [if_pos h4,if_pos h4]
   exact ⟨_,[],[],rfl,Tryz.call99,line_ask hc hm 1 hq (kw_lt h4) (.inl ⟨rfl,h4⟩) hL⟩
 rw [if_neg h4,if_neg h4]
 by_cases h5:c.kw s.pos [110,111,110,101]=true
 · rw [if_pos h5,if_pos h5]
   exact ⟨_,[],[],rfl,Tryz.call99,line_ask hc hm 2 hq (kw_lt h5) (.inr (.inl ⟨rfl,h5⟩)) hL⟩
 rw [if_neg h5,if_neg h5]
 by_cases h6:c.kw s.pos [97,108,108]=true
 · rw [if_pos h6,if_pos h6]
   exact ⟨_,[],[],rfl,Tryz.call99,line_ask hc hm 3 hq (kw_lt h6) (.inr (.inr ⟨rfl,h6⟩)) hL⟩
 rw [if_neg h6,if_neg h6]
 exact ⟨_,[],[],rfl,Tryz.call55,line_add hc hm hq hs hL⟩
-- PzA
open Go.Proofs.Tryz
open Go.RowKit
set_option maxRecDepth 100000
theorem depC_le {S:Nat→Prop} {w:World}:∀ {h:Nat} {cs:List Value} {c:Cnd},TreeIn S w h cs c→depC c≤h
 | 0,_,_,hc=>hc.elim
 | h+1,cs,.mk k t n v kids,⟨A,C,_,_,h3⟩=>by
   have hk:∀ (l:List Cnd),(∀ x ∈ l,depC x≤h)→depC.depL l≤h:=fun l=>by
     induction l with
     | nil=>intro _;exact Nat.zero_le _
     | cons x r ih=>
       intro hx
       rw [depC.depL]
       exact Nat.max_le.2 ⟨hx x (List.mem_cons_self ..),ih fun y hy=>hx y (List.mem_cons_of_mem _ hy)⟩
   rw [depC]
   have:=hk kids fun x hx=>by
     obtain ⟨j,hj⟩:=List.mem_iff_getElem?.1 hx
     obtain ⟨b,off,cs',_,_,_,h7⟩:=h3 j x hj
     exact depC_le h7
   omega
theorem line_start {W w:World} {rs:List Res} {c:PX} {A:Option Addr} {C bp:Nat} {S:Nat→Prop} (hf:c.fixed=false) (H:Own W none w (.blk bp (parC c A C ⟨0,[]⟩ none 0 [.string ⟨#[]⟩,.slice none 0 0,.slice none 0 0,.slice none 0 0,b8 0,b8 0,b8 0,b8 0,b8 0,.slice none 0 0,.int .i64 (0:Int),.int .i64 (0:Int)]) 66 :: .held S A 3 (rowsT c.ts) :: rs)) :
   LineAt W w rs c A C bp S false zQL ⟨0,[]⟩:=by
 refine ⟨none,0,none,0,none,0,[],none,0,[],fun _=>False,[],[],fun _=>False,1,b8 0,b8 0,b8 0,b8 0,.slice none 0 0,?_,rfl,(fun r h=>absurd h List.not_mem_nil),rfl,.inl ⟨rfl,rfl,rfl,rfl,rfl⟩,by decide⟩
 have hn:Res.nms W c.fixed none 0 [] = .rws 9 1 (.slice none 0 0) []:=by unfold Res.nms;rw [hf];rfl
 rw [hn]
 exact (((((((own_leaf 0 0 0 0 0 H).void (.thrs (fun _=>False) [] []) (show ThrIn _ w _ _ from fun j l h=>by simp at h) (fun _ hb=>hb)).nilRws 44 10).nilRws 52 1).nilRws 5 1).nilRws 9 1).selT 8 [6,7,0,1,2,3,4,5] rfl rfl)
theorem padI_app (l:List UInt8) (n j:Nat) (h:n=l.length+j):padI l n=l++List.replicate j 0:=by unfold padI;rw [h,Nat.add_sub_cancel_left]
set_option maxHeartbeats 16000000 in
theorem pprogram_any {W w0:World} {rs:List Res} {c:PX} (hc:c.Ok) (hm:c.ts.length≤900000) {A:Option Addr} {C bp:Nat} {S:Nat→Prop} (hL:LineAt W w0 rs c A C bp S false zQL ⟨0,[]⟩) :
   Calls Tryz.prog 27 #[.pointer (some ⟨bp,0,none⟩)] w0 fun e w'=>Ans W rs (progP c) (fun p t e w'=>e = .returned (.tuple #[])∧∃ q,p=⟨q.name,t.names,q.init,q.threads,q.ask,q.cond⟩∧LineAt W w' rs c A C bp S true q t) e w':=by
 have hfew:=hc.few
 obtain ⟨B,D,IA,IC,TA,TC,hrows,LA,LC,last,ST,frows,front,T,h,c1,c2,c3,c4,c5,H,hfl,hr1,hrl,hth,hh⟩:=hL
 refine enterF func27 rfl ntmps27 rfl (fun a F=>?_);refine cSR fun K1 hK1=>?_;refine sCall call53 F rfl rfl rfl (plines_any H) ?_;rintro e w ⟨mb,rfl,H⟩
 replace H:=H.selT 9 [1,2,3,4,5,6,7,8,0] rfl rfl
 refine ⟨_,rfl,?_⟩;clear F a;intro a F;refine sAs F rfl rfl rfl (qNK hK1 ?_);clear hK1;clear F a;intro a F;refine cSeq (fun K2 hK2=>?_);refine wp_block ?_
 refine cLoopR [0,2] (fun m ups w=>∃ (g:Nat) (q:QL) (u:PS),m=g∧ups=[]∧linesL c g q u=linesL c (c.ts.length+2) zQL ⟨0,[]⟩∧c.ts.length < u.pos+g∧u.pos≤c.ts.length∧QOk q u∧LineAt W w (.mpT mb linesM :: rs) c A C bp S false q u) F (c.ts.length+2) [] (by repeat (first | exact SubR.nil | (apply SubR.cons;· rfl))) ?_ ?_ ?_
 · exact ⟨c.ts.length+2,zQL,⟨0,[]⟩,rfl,rfl,rfl,by show c.ts.length < 0+(c.ts.length+2);omega,Nat.zero_le _,qok_zero,_,_,_,_,_,_,_,_,_,_,_,_,_,_,_,_,_,_,_,_,H,hfl,hr1,hrl,hth,hh⟩
 · repeat (first | exact trivial | refine Le.cons rfl ?_)
 clear F
 clear H
 intro m ups a w hI F
 obtain ⟨g,q,u,rfl,rfl,heq,hg,hul,hq,B,D,IA,IC,TA,TC,hrows,LA,LC,last,ST,frows,front,T,h,c1,c2,c3,c4,c5,H,hfl,hr1,hrl,hth,hh⟩:=hI
 obtain ⟨g,rfl⟩:∃ k,m=k+1:=⟨m - 1,by omega⟩
 refine cSeq (fun K3 hK3=>?_);refine cSR fun K4 hK4=>sMv F rfl rfl rfl (qNc rfl rfl rfl (qFa (f:=4) (k:=15) underlying66 rfl sizeOf3 rfl rfl rfl rfl rfl (qLd isAgg3 rfl rfl rfl (H.cell 0 rfl rfl) (qBin rfl rfl rfl rfl bNeq (qNK hK4 ?_)))));clear hK4;clear F a;intro a F
 refine cIf F rfl (fun h10=>?_) (fun h10=>?_)
 ·
  replace h10:=bneT h10
  have hw4:¬ q.wh=4:=by omega
  refine wp_skip (hK3 _ _ ?_);clear hK3;refine wp_block ?_;refine cSR fun K5 hK5=>sMv F rfl rfl rfl (qMv rfl rfl rfl (qNc rfl rfl rfl (qFa (f:=0) (k:=0) underlying66 rfl sizeOf64 rfl rfl rfl rfl rfl ?_)));clear F a;intro a F;refine sCall call54 F rfl rfl rfl (pword_any (s:=u) hc (by omega) H) ?_;rintro e w ⟨rfl,H⟩;refine ⟨_,rfl,?_⟩;clear F a;intro a F;refine stepV F rfl rfl rfl (rLkT H 8 underlying103 underlying9 zeroValue68 F rfl rfl rfl) ?_;clear F a;intro a F;refine sMv F rfl rfl rfl (qExt rfl rfl rfl rfl (qExt rfl rfl rfl rfl (qAs rfl rfl rfl (qAs rfl rfl rfl (qNK hK5 ?_)))));clear hK5;clear F a;intro a F;refine cSeq (fun K6 hK6=>?_);refine cSR fun K7 hK7=>sMv F rfl rfl rfl (qNot rfl rfl rfl (qNK hK7 ?_));clear hK7;clear F a;intro a F
  refine cIf F rfl (fun h21=>?_) (fun h21=>?_)
  ·
   replace h21:=notT h21
   have hv:∀ z:Value,z=addF→z=lineF c u.pos:=fun z hz=>by (have hn:findT (c.word u.pos) linesM=none:=by (cases hh:findT (c.word u.pos) linesM with | none=>rfl | some x=>rw [hh] at h21;cases h21));unfold lineF;rw [hn];exact hz
   refine cReg (sAs F rfl rfl rfl (qNK hK6 (qSR fun K8 hK8=>qMv rfl rfl rfl (qMv rfl rfl rfl ?_))));clear hK6;clear F a;intro a F;refine sCallVP F rfl rfl rfl rfl (pline_any hc hm (hv _ rfl) hq hul ⟨B,D,IA,IC,TA,TC,hrows,LA,LC,last,ST,frows,front,T,h,c1,c2,c3,c4,c5,H,hfl,hr1,hrl,hth,hh⟩) ?_;rintro e w hq9
   rcases hq9.cases with ⟨p9,e9,hn24,rfl,H⟩ | ⟨v24,t24,hr24,rfl,hL⟩
   ·
    refine .inl ⟨_,rfl,?_⟩
    exact And.intro F.nod (Ans.no (by unfold progP;rw [← heq];show (if q.wh=4 then _ else _:Rs QL).bind _=_;rw [if_neg hw4,hn24];rfl) H.tail)
   obtain ⟨hg24,hq24⟩:=lineL_all hq v24 t24 hr24
   have hlt24:=hg24.lt
   have hle24:=hg24.le
   obtain ⟨B,D,IA,IC,TA,TC,hrows,LA,LC,last,ST,frows,front,T,h,c1,c2,c3,c4,c5,H,hfl,hr1,hrl,hth,hh⟩:=hL
   refine .inr ⟨_,rfl,?_⟩
   clear F a;intro a F;refine nK hK8 (cReg (sMv F rfl rfl rfl (qNc rfl rfl rfl (qFa (f:=0) (k:=0) underlying66 rfl sizeOf64 rfl rfl rfl rfl rfl ?_))));clear hK8;clear F a;intro a F;refine sCallP call56 F rfl rfl rfl (pend_any (s:=t24) hc (by omega) H) ?_;rintro e w hq9
   rcases hq9.cases with ⟨p9,e9,hn28,rfl,H⟩ | ⟨v28,t28,hr28,rfl,H⟩
   ·
    refine .inl ⟨_,rfl,?_⟩
    exact And.intro F.nod (Ans.no (by unfold progP;rw [← heq];show (if q.wh=4 then _ else _:Rs QL).bind _=_;rw [if_neg hw4,hr24];show ((endP c t24).bind _).bind _=_;rw [hn28];rfl) H.tail.tail.tail.tail.tail.tail.tail)
   obtain ⟨hg28,rfl⟩:=endP_all v28 t28 hr28;have hle28:=hg28.le
   refine .inr ⟨_,rfl,?_⟩
   clear F a;intro a F;refine sNil ?_
   have hstep:linesL c (g+1) q u=linesL c g v24 t24.next:=by
     show (if q.wh=4 then _ else _:Rs QL)=_
     rw [if_neg hw4,hr24]
     show (endP c t24).bind _=_
     rw [hr28]
     rfl
   exact ⟨g,Nat.lt_succ_self _,[],⟨g,v24,t24.next,rfl,rfl,hstep.symm.trans heq,by simp only [PS.next];omega,hle28,hq24.step hg28 (.inr rfl),_,_,_,_,_,_,_,_,_,_,_,_,_,_,_,_,_,_,_,_,H,hfl,hr1,hrl,hth,hh⟩,F.to (by repeat (first | exact trivial | refine Le.cons rfl ?_))⟩
  replace h21:=notF h21
  obtain ⟨pr,hpr⟩:∃ pr,findT (c.word u.pos) linesM=some pr:=Option.isSome_iff_exists.1 (by simpa using h21)
  have hv:∀ z:Value,z=((findT (c.word u.pos) linesM).map (·.2)).getD .nilFunc→z=lineF c u.pos:=fun z hz=>by rw [hz];unfold lineF;rw [hpr];rfl
  refine wp_skip (hK6 _ _ (cSR fun K9 hK9=>sMv F rfl rfl rfl (qMv rfl rfl rfl ?_)));clear hK6;clear F a;intro a F;refine sCallVP F rfl rfl rfl rfl (pline_any hc hm (hv _ rfl) hq hul ⟨B,D,IA,IC,TA,TC,hrows,LA,LC,last,ST,frows,front,T,h,c1,c2,c3,c4,c5,H,hfl,hr1,hrl,hth,hh⟩) ?_;rintro e w hq9
  rcases hq9.cases with ⟨p9,e9,hn24,rfl,H⟩ | ⟨v24,t24,hr24,rfl,hL⟩
  ·
   refine .inl ⟨_,rfl,?_⟩
   exact And.intro F.nod (Ans.no (by unfold progP;rw [← heq];show (if q.wh=4 then _ else _:Rs QL).bind _=_;rw [if_neg hw4,hn24];rfl) H.tail)
  obtain ⟨hg24,hq24⟩:=lineL_all hq v24 t24 hr24
  have hlt24:=hg24.lt
  have hle24:=hg24.le
  obtain ⟨B,D,IA,IC,TA,TC,hrows,LA,LC,last,ST,frows,front,T,h,c1,c2,c3,c4,c5,H,hfl,hr1,hrl,hth,hh⟩:=hL
  refine .inr ⟨_,rfl,?_⟩
  clear F a;intro a F;refine nK hK9 (cReg (sMv F rfl rfl rfl (qNc rfl rfl rfl (qFa (f:=0) (k:=0) underlying66 rfl sizeOf64 rfl rfl rfl rfl rfl ?_))));clear hK9;clear F a;intro a F;refine sCallP call56 F rfl rfl rfl (pend_any (s:=t24) hc (by omega) H) ?_;rintro e w hq9
  rcases hq9.cases with ⟨p9,e9,hn28,rfl,H⟩ | ⟨v28,t28,hr28,rfl,H⟩
  ·
   refine .inl ⟨_,rfl,?_⟩
   exact And.intro F.nod (Ans.no (by unfold progP;rw [← heq];show (if q.wh=4 then _ else _:Rs QL).bind _=_;rw [if_neg hw4,hr24];show ((endP c t24).bind _).bind _=_;rw [hn28];rfl) H.tail.tail.tail.tail.tail.tail.tail)
  obtain ⟨hg28,rfl⟩:=endP_all v28 t28 hr28;have hle28:=hg28.le
  refine .inr ⟨_,rfl,?_⟩
  clear F a;intro a F;refine sNil ?_
  have hstep:linesL c (g+1) q u=linesL c g v24 t24.next:=by
    show (if q.wh=4 then _ else _:Rs QL)=_
    rw [if_neg hw4,hr24]
    show (endP c t24).bind _=_
    rw [hr28]
    rfl
  exact ⟨g,Nat.lt_succ_self _,[],⟨g,v24,t24.next,rfl,rfl,hstep.symm.trans heq,by simp only [PS.next];omega,hle28,hq24.step hg28 (.inr rfl),_,_,_,_,_,_,_,_,_,_,_,_,_,_,_,_,_,_,_,_,H,hfl,hr1,hrl,hth,hh⟩,F.to (by repeat (first | exact trivial | refine Le.cons rfl ?_))⟩
 replace h10:=bneF h10
 have hw4:q.wh=4:=by omega
 refine wp_exit ?_;refine hK2 _ _ (cSR fun K10 hK10=>sMv F rfl rfl rfl (qNc rfl rfl rfl (qFa (f:=0) (k:=0) underlying66 rfl sizeOf64 rfl rfl rfl rfl rfl ?_)));clear hK2;clear F a;intro a F;refine sCallP call57 F rfl rfl rfl (pfinish_any (s:=u) hc (by omega) H) ?_;rintro e w hq9
 rcases hq9.cases with ⟨p9,e9,hn32,rfl,H⟩ | ⟨v32,t32,hr32,rfl,H⟩
 ·
  refine .inl ⟨_,rfl,?_⟩
  exact And.intro F.nod (Ans.no (by unfold progP;rw [← heq];show (if q.wh=4 then _ else _:Rs QL).bind _=_;rw [if_pos hw4];show (if u.pos < c.ts.length then _ else _:Rs Prg)=_;(have hx:=hn32;split at hx);(rename_i h9;rw [if_pos h9];cases hx;rfl);cases hx) H.tail.tail.tail.tail.tail.tail.tail)
 have hdone:linesL c (c.ts.length+2) zQL ⟨0,[]⟩ = .ok q u:=by rw [← heq];show (if q.wh=4 then _ else _:Rs QL)=_;rw [if_pos hw4]
 have hfin:¬ u.pos < c.ts.length:=fun h=>by rw [if_pos h] at hr32;cases hr32
 rw [if_neg hfin] at hr32
 cases hr32
 have hini:=hq.ini
 have hfew6:=hq.nm.few
 refine .inr ⟨_,rfl,?_⟩
 clear F a;intro a F;refine nK hK10 (cSR fun K11 hK11=>sMv F rfl rfl rfl (qMv rfl rfl rfl (qNc rfl rfl rfl (qFa (f:=1) (k:=3) underlying66 rfl sizeOf22 rfl rfl rfl rfl rfl (qLd isAgg22 rfl rfl rfl (H.cell 0 rfl rfl) (qNc rfl rfl rfl (qFa (f:=3) (k:=5) underlying66 rfl sizeOf29 rfl rfl rfl rfl rfl (qFa (f:=1) (k:=6) underlying29 rfl sizeOf22 rfl rfl rfl rfl rfl ?_))))))));clear hK10;clear F a;intro a F;refine sSt H 0 sizeOf22 F rfl rfl rfl rfl rfl rfl ?_;clear H;intro w H;refine nK hK11 ?_;clear hK11;refine cSeq (fun K12 hK12=>?_);refine wp_block ?_
 refine cLoopR [0] (fun m ups w=>∃ (j:Nat) (JA:Option Addr) (JC:Nat),m=u.names.length - (q.init.length+j)∧ups=[]∧q.init.length+j≤u.names.length∧Own W none w (.blk bp (parC c A C u B D [.string q.name,.slice B u.names.length D,.slice JA (q.init++List.replicate j 0).length JC,.slice TA hrows.length TC,b8 q.ask,c1,c2,c3,c4,c5,.int .i64 (q.wh:Int),.int .i64 (q.query:Int)]) 66 :: .held S A 3 (rowsT c.ts) :: .nms W c.fixed B D u.names :: .rws 5 1 (.slice JA (q.init++List.replicate j 0).length JC) (iniC (q.init++List.replicate j 0)) :: .rws 52 1 (.slice TA hrows.length TC) hrows :: .rws 44 10 (.slice LA last.length LC) (insC last) :: .thrs ST frows front :: .tree T h [c1,c2,c3,c4,c5] q.cond :: .mpT mb linesM :: rs)) F (u.names.length - q.init.length) [] (by repeat (first | exact SubR.nil | (apply SubR.cons;· rfl))) ?_ ?_ ?_
 · exact ⟨0,IA,IC,rfl,rfl,hini,by rw [show List.replicate 0 (0:UInt8)=[] from rfl,List.append_nil];exact H⟩
 · repeat (first | exact trivial | refine Le.cons rfl ?_)
 clear F
 clear H
 intro m ups a w hI F
 obtain ⟨j,JA,JC,rfl,rfl,hj,H⟩:=hI
 refine cSeq (fun K13 hK13=>?_);refine cSeq (fun K14 hK14=>?_);refine cRegRO (by kernel_rfl) H ?_;replace H:=H.drew;refine eTF 0 rfl (by kernel_rfl) F rfl rfl rfl (fun w=>rMv F rfl) H qq0 (qT 1 rfl (by kernel_rfl) rfl rfl rfl rfl (fun a F w H=>rNc F rfl) H qq0 (qTF 2 rfl (by kernel_rfl) rfl rfl rfl (fun a F w=>rFa (f:=3) (k:=5) underlying66 rfl sizeOf29 rfl rfl F rfl) H qq0 (qTF 3 rfl (by kernel_rfl) rfl rfl rfl (fun a F w=>rFa (f:=2) (k:=7) underlying29 rfl sizeOf23 rfl rfl F rfl) H qq0 (qT 4 rfl (by kernel_rfl) rfl rfl rfl rfl (fun a F w H=>rLd isAgg23 F rfl (H.cell 0 rfl rfl)) H qq0 (qT 5 rfl (by kernel_rfl) rfl rfl rfl rfl (fun a F w H=>rLen underlying23 F rfl) H qq0 (qTF 6 rfl (by kernel_rfl) rfl rfl rfl (fun a F w=>rMv F rfl) H qq0 (qT 7 rfl (by kernel_rfl) rfl rfl rfl rfl (fun a F w H=>rNc F rfl) H qq0 (qTF 8 rfl (by kernel_rfl) rfl rfl rfl (fun a F w=>rFa (f:=1) (k:=3) underlying66 rfl sizeOf22 rfl rfl F rfl) H qq0 (qT 9 rfl (by kernel_rfl) rfl rfl rfl rfl (fun a F w H=>rLd isAgg22 F rfl (H.cell 0 rfl rfl)) H qq0 (qT 10 rfl (by kernel_rfl) rfl rfl rfl rfl (fun a F w H=>rLen underlying22 F rfl) H qq0 (qTF 11 rfl (by kernel_rfl) rfl rfl rfl (fun a F w=>rBin F rfl rfl bLss) H qq0 ?_)))))))))));clear F a;intro a F;refine eNil (k:=12) (by kernel_rfl) ?_;refine hK14 _ _ ?_;clear hK14
 refine cIf F rfl (fun h52=>?_) (fun h52=>?_)
 ·
  replace h52:=of_decide_eq_true h52
  have hjl:q.init.length+j < u.names.length:=by rw [List.length_append,List.length_replicate] at h52;omega
  refine wp_skip (hK13 _ _ ?_);clear hK13;refine wp_block ?_;refine cReg (sMv F rfl rfl rfl (qMv rfl rfl rfl (qNc rfl rfl rfl (qFa (f:=3) (k:=5) underlying66 rfl sizeOf29 rfl rfl rfl rfl rfl (qFa (f:=2) (k:=7) underlying29 rfl sizeOf23 rfl rfl rfl rfl rfl (qLd isAgg23 rfl rfl rfl (H.cell 0 rfl rfl) ?_))))));clear F a;intro a F;refine sBs1 H underlying23 sizeOf5 zeroValue5 rfl F rfl rfl rfl rfl ?_;clear F a H;intro b59 a w F H
  refine sApp1 (bytes:=1) H 4 underlying23 typeInfo5 rfl rfl rfl rfl rfl rfl F rfl rfl rfl rfl rfl (H.whole 0 rfl) rfl ?s1 ?s2 ?_
  case s1=>first | rfl | (repeat (first | exact one_nil | (apply one_cons;· first | rfl | assumption | exact one_bif rfl rfl)))
  case s2=>(simp only [iniC,List.length_map,List.length_append,List.length_replicate];omega)
  clear F a H;intro A60 c60 a w F H;refine sNc F rfl rfl rfl (qFa (f:=3) (k:=5) underlying66 rfl sizeOf29 rfl rfl rfl rfl rfl (qFa (f:=2) (k:=7) underlying29 rfl sizeOf23 rfl rfl rfl rfl rfl ?_));clear F a;intro a F;refine sSt H 1 sizeOf23 F rfl rfl rfl rfl rfl rfl ?_;clear H;intro w H;refine sNil ?_
  rw [show iniC (q.init++List.replicate j 0)++[[Value.int IntKind.u8 0]]=iniC ((q.init++List.replicate j 0)++[0]) from iniC_snoc _ 0,iniC_length,List.append_assoc,← List.replicate_succ'] at H
  replace H:=H.tail
  exact ⟨_,by omega,[],⟨j+1,_,_,rfl,rfl,by omega,H⟩,F.to (by repeat (first | exact trivial | refine Le.cons rfl ?_))⟩
 replace h52:=of_decide_eq_false h52
 have hjl:u.names.length=q.init.length+j:=by rw [List.length_append,List.length_replicate] at h52;omega
 refine wp_exit ?_;refine hK12 _ _ (cSR fun K15 hK15=>sMv F rfl rfl rfl (qNc rfl rfl rfl (qFa (f:=3) (k:=5) underlying66 rfl sizeOf29 rfl rfl rfl rfl rfl (qFa (f:=5) (k:=10) underlying29 rfl sizeOf27 rfl rfl rfl rfl rfl ?_))));clear hK12;clear F a;intro a F
 refine sLr underlying27 rfl ?si F rfl rfl rfl (H.range 0 rfl _ 5) ?_
 case si=>exact info_size sizeOf27
 clear F a;intro a F;refine sCall call58 F rfl rfl rfl (pdeep_any h [c1,c2,c3,c4,c5] q.cond _ (H.pred 7 _ rfl:TreeIn T _ h [c1,c2,c3,c4,c5] q.cond).at (by have:=depC_le (H.pred 7 _ rfl:TreeIn T _ h [c1,c2,c3,c4,c5] q.cond);omega)) ?_;rintro e w ⟨rfl,hb⟩;replace H:=H.grow hb;clear hb;refine ⟨_,rfl,?_⟩;clear F a;intro a F;refine sBin F rfl rfl rfl rfl bGtr (qNK hK15 ?_);clear hK15;clear F a;intro a F
 refine cIf F rfl (fun h70=>?_) (fun h70=>?_)
 ·
  replace h70:=of_decide_eq_true h70
  have hdp:20 < depC q.cond:=by omega
  refine cReg (sMv F rfl rfl rfl (qNc rfl rfl rfl (qFa (f:=5) (k:=16) underlying66 rfl sizeOf3 rfl rfl rfl rfl rfl (qLd isAgg3 rfl rfl rfl (H.cell 0 rfl rfl) ?_))));clear F a;intro a F;refine sCallP call59 F rfl rfl rfl (fail_any _ 5 H) ?_;rintro e w ⟨rfl,H⟩
  refine .inl ⟨_,rfl,?_⟩
  exact And.intro F.nod (Ans.no (by unfold progP;rw [hdone];show (if u.pos < c.ts.length then _ else _:Rs Prg)=_;rw [if_neg hfin,if_pos hdp]) H.tail.tail.tail.tail.tail.tail.tail.tail.tail)
 replace h70:=of_decide_eq_false h70
 have hdp:¬ 20 < depC q.cond:=by omega
 refine wp_skip ?_
 first | refine bEnd results27 F ?_ | (simp only [Exit.then,Exit.inBlock,if_true];(repeat (first | rw [if_pos rfl] | rw [if_neg (by decide)]));refine bEnd results27 F ?_)
 exact Ans.ok (v:=⟨q.name,u.names,padI q.init u.names.length,q.threads,q.ask,q.cond⟩) (s:=u) (by unfold progP;rw [hdone];show (if u.pos < c.ts.length then _ else _:Rs Prg)=_;rw [if_neg hfin,if_neg hdp]) ⟨rfl,{ q with init:=padI q.init u.names.length },rfl,by rw [padI_app _ _ _ hjl];exact ⟨_,_,_,_,_,_,_,_,_,_,_,_,_,_,_,_,_,_,_,_,H.selT 9 [0,1,2,3,4,5,6,7] rfl rfl,hfl,hr1,hrl,hth,hh⟩⟩
-- VdA
open Go.RowKit
variable {P:Program} {l:List Oper} {Q:Exit→Act→World→Prop} {N:Nat} {a:Act} {env:List (Nat × Value)} {rest:List Oper} {d:Tmp} {ty:TypeId} {pos:String} {af:Array Edge} {g:Option (Nat × Bool)}
 {w0 w:World} {row:Option Nat} {rs:List Res} {ds:List Deferred}
structure HasD (N:Nat) (a:Act) (ds:List Deferred) (env:List (Nat × Value)):Prop where
 size:a.tmps.size=N
 dfr:a.defers=ds
 get:∀ k v,lk env k=some v→a.tmps.getD k undef=v
theorem HasD.off (F:HasD N a ds env):Has N { a with defers:=[] } env:=⟨F.size,rfl,F.get⟩
theorem HasD.put (F:HasD N a ds env) {d:Nat} {v:Value} (hd:Nat.blt d N=true):HasD N (a.put (some d) v) ds ((d,v) :: env):=
 ⟨(F.off.put (v:=v) hd).size,F.dfr,(F.off.put (v:=v) hd).get⟩
theorem dStepV {o:Oper} {v:Value} {w':World} (F:HasD N a ds env) (hg:wants l env o.guard=true) (hd:o.dst=some d) (hN:Nat.blt d N=true)
   (hr:(execOp ({ a with defers:=[] }:Act).eval o).run P w = .ok (.value v) w') (K:∀ a',HasD N a' ds ((d,v) :: env)→wpList P l.toArray Q rest a' w'):wpList P l.toArray Q (o :: rest) a w:=by
 unfold wpList
 rw [if_pos (wanted_of (a:={ a with defers:=[] }) F.off hg)]
 refine .inl ?_
 unfold Oper.wp
 have hr:(execOp a.eval o).run P w = .ok (.value v) w':=hr
 rw [hr,Oper.upon_value,hd]
 exact K _ (F.put hN)
theorem dStepU {o:Oper} {w':World} (F:HasD N a ds env) (hg:wants l env o.guard=true) (hd:o.dst=none)
   (hr:(execOp ({ a with defers:=[] }:Act).eval o).run P w = .ok .skip w') (K:wpList P l.toArray Q rest a w'):wpList P l.toArray Q (o :: rest) a w:=by
 unfold wpList
 rw [if_pos (wanted_of (a:={ a with defers:=[] }) F.off hg)]
 refine .inl ?_
 unfold Oper.wp
 have hr:(execOp a.eval o).run P w = .ok .skip w':=hr
 rw [hr,Oper.upon_skip,hd]
 exact K
theorem sDef {x:Operand} {fv:Fn} {fi ca:Array Value} (F:Has N a env) (hg:wants l env g=true) (hx:ev env x=some (.func fv fi ca))
   (K:∀ a,HasD N a [{ target:=.fn fv ca,args:=fi }] env→wpList P l.toArray Q rest a w):wpList P l.toArray Q (⟨none,.defer ⟨.value x,#[],#[]⟩,ty,pos,af,g⟩ :: rest) a w:=by
 unfold wpList
 rw [if_pos (wanted_of (o:=⟨none,.defer ⟨.value x,#[],#[]⟩,ty,pos,af,g⟩) F hg)]
 refine .inl ?_
 unfold Oper.wp
 have hr:(execOp a.eval ⟨none,.defer ⟨.value x,#[],#[]⟩,ty,pos,af,g⟩).run P w = .ok (.defer { target:=.fn fv ca,args:=fi }) w:=by
   simp only [execOp,resolve,F.eval hx]
   simp [Deferred.ofValue,go_sem]
 rw [hr,Oper.upon_defer]
 exact K _ ⟨F.size,by show _ :: a.defers=_;rw [F.nod],F.get⟩
theorem dMv {x:Operand} {v:Value} (F:HasD N a ds env) (hg:wants l env g=true) (hN:Nat.blt d N=true) (hx:ev env x=some v)
   (K:∀ a,HasD N a ds ((d,v) :: env)→wpList P l.toArray Q rest a w):wpList P l.toArray Q (⟨some d,.move x,ty,pos,af,g⟩ :: rest) a w:=
 dStepV F hg rfl hN (rMv F.off hx) K
theorem dCallVP {x:Operand} {xs:List Operand} {ts:Array TypeId} {vs:List Value} {v:Value} {R:Ending→World→Prop} (F:HasD N a ds env) (hg:wants l env g=true) (hN:Nat.blt d N=true)
   (hx:ev env x=some v) (hv:evL env xs=some vs) (hc:CallsF P v vs w R)
   (K:∀ e w,R e w→(∃ ch,e = .panicked ch∧Q (.panic ch) a w)∨∃ v,e = .returned v∧∀ a,HasD N a ds ((d,v) :: env)→wpList P l.toArray Q rest a w):wpList P l.toArray Q (⟨some d,.call ⟨.value x,xs.toArray,ts⟩,ty,pos,af,g⟩ :: rest) a w:=by
 obtain ⟨f,fi,ca,rfl,hcall,hc⟩:=hc
 unfold wpList
 rw [if_pos (wanted_of (a:={ a with defers:=[] }) (o:=⟨some d,.call ⟨.value x,xs.toArray,ts⟩,ty,pos,af,g⟩) F.off hg)]
 refine .inl ?_
 unfold Oper.wp
 have hr:(execOp ({ a with defers:=[] }:Act).eval ⟨some d,.call ⟨.value x,xs.toArray,ts⟩,ty,pos,af,g⟩).run P w = .ok (.enter f (fi++vs++ca).toArray) w:=by
   simp only [execOp,resolve,List.map_toArray,F.off.evals hv,F.off.eval hx]
   simp [Deferred.ofValue,invoke,hcall,go_sem]
 have hr:(execOp a.eval ⟨some d,.call ⟨.value x,xs.toArray,ts⟩,ty,pos,af,g⟩).run P w = .ok (.enter f (fi++vs++ca).toArray) w:=hr
 rw [hr,Oper.upon_enter]
 refine hc.mono fun e w' he=>?_
 rcases K e w' he with ⟨ch,rfl,hk⟩ | ⟨v,rfl,hk⟩
 · exact hk
 · exact hk _ (F.put hN)
theorem dSt {t:TypeId} {x y:Operand} {b j:Nat} {cs:List Value} {u v:Value} {bt:TypeId} (H:Own w0 row w rs) (i:Nat) (hz:∀ w,(sizeOf t).run P w = .ok 1 w) (F:HasD N a ds env) (hg:wants l env g=true)
   (hx:ev env x=some (.pointer (some ⟨b,j,none⟩))) (hy:ev env y=some v) (h1:v.oneCell'=true) (hi:rs[i]? = some (.blk b cs bt)) (hu:cs[j]? = some u)
   (K:∀ w,Own w0 row w (rs.set i (.blk b (cs.set j v) bt))→wpList P l.toArray Q rest a w):wpList P l.toArray Q (⟨none,.store t x y,ty,pos,af,g⟩ :: rest) a w:=
 dStepU F hg rfl (w':=w.setCell ⟨b,j,none⟩ v) (store_there hz F.off hx hy h1 (H.there i hi j 1 (by obtain ⟨h,_⟩:=List.getElem?_eq_some_iff.1 hu;exact Nat.ble_eq_true_of_le (by omega)))) (K _ (H.set i hi j v))
theorem enterD {f:FuncId} {fn:Func} {c:Code} {args:List Value} {R:Ending→World→Prop} {N:Nat}
   (hf:P.funcs[f]? = some fn) (hb:fn.body=some c) (hn:fn.ntmps=N) (hl:Nat.ble args.length N=true)
   (h:∀ a,Has N a (number args 0)→c.wp P (bodyPostD P fn R) a w):Calls P f args.toArray w R:=by
 subst hn
 exact calls_of_wp_defers hf hb (h _ (Has.start hl))
theorem results_two {fn:Func} {t u:Tmp} {st su:TypeId} {b c:Nat} {x y:Value} (hres:fn.results = #[.cell t st,.cell u su]) (ht:a.tmps.getD t undef = .pointer (some ⟨b,0,none⟩)) (hu:a.tmps.getD u undef = .pointer (some ⟨c,0,none⟩))
   (hat:∀ w,(isAgg st).run P w = .ok false w) (hau:∀ w,(isAgg su).run P w = .ok false w) (hb:w.cell? ⟨b,0,none⟩=some x) (hc:w.cell? ⟨c,0,none⟩=some y):(results fn a.tmps).run P w = .ok (.tuple #[x,y]) w:=by
 have h1:(loadVar st ⟨b,0,none⟩).run P w = .ok x w:=by simp [loadVar,hat,hb,go_sem]
 have h2:(loadVar su ⟨c,0,none⟩).run P w = .ok y w:=by simp [loadVar,hau,hc,go_sem]
 simp only [Array.getD_eq_getD_getElem?] at ht hu
 simp [results,hres,ht,hu,asAddr,h1,h2]
theorem bRetC2 {fn:Func} {R:Ending→World→Prop} {t u s:Tmp} {st:TypeId} {b n:Nat} {cs:List Value} {bt:TypeId} {dd:TypeDesc} {y z:Value} (hres:fn.results = #[.cell t st,.tmp u,.tmp s]) (F:Has N a env) (hv:lk env t=some (.pointer (some ⟨b,0,none⟩))) (hy:lk env u=some y) (hz2:lk env s=some z)
   (hu:P.underlying st=some dd) (hdd:dd.isRow=true) (H:Own w0 row w rs) (i:Nat) (hi:rs[i]? = some (.blk b cs bt)) (hz:∀ w,(sizeOf st).run P w = .ok n w) (hn:Nat.beq cs.length n=true) (h:R (.returned (.tuple #[.agg cs.toArray,y,z])) w):bodyPost P fn R .ret a w:=by
 refine bodyPost_ret (v:=.tuple #[.agg cs.toArray,y,z]) ?_ F.nod h
 have hb:=H.blk i hi
 have hr:w.rangeAt b 0 cs:=fun j v hj=>by rw [Nat.zero_add];exact hb.cell j hj
 have h1:=run_loadVar_mid (P:=P) w b 0 st cs dd hr hu hdd (by rw [Nat.eq_of_beq_eq_true hn];exact info_size hz)
 have e1:=F.get t _ hv
 have e2:=F.get u _ hy
 have e3:=F.get s _ hz2
 simp only [Array.getD_eq_getD_getElem?] at e1 e2 e3
 simp [results,hres,e1,e2,e3,asAddr,h1]
theorem callsD_rec {f:FuncId} {fn:Func} {c:Code} {id:Nat} {args:List Value} {u u':FrameMode} {v:Value} {R:Ending→World→Prop} {N:Nat}
   (hf:P.funcs[f]? = some fn) (hb:fn.body=some (.seq (.region id #[⟨some d,.call ⟨.builtin .recover,#[],#[]⟩,ty,pos,af,none⟩] false) c)) (hn:fn.ntmps=N) (hl:Nat.ble args.length N=true) (hd:Nat.blt d N=true)
   (hu:u = .returning∧u' = .returning∧v = .nilIface∨u = .panicking [{ v:=v,recovered:=false }]∧u' = .panicking [{ v:=v,recovered:=true }])
   (h:∀ a,Has N a ((d,v) :: number args 0)→c.wp P (bodyPost P fn R) a w):CallsD P f args.toArray u w (fun e m w=>m=u'∧R e w):=by
 subst hn
 refine callsD_of_wpS hf hb fun c₀ cs hm=>?_
 have F:=Has.start (args:=args) hl
 generalize hA:({ tmps:=args.toArray++Array.replicate (fn.ntmps - args.toArray.size) undef,defers:=[] }:Act)=a0 at F ⊢
 apply wpS_seq
 apply wpS_region
 have hw:Region.wanted ⟨some d,.call ⟨.builtin .recover,#[],#[]⟩,ty,pos,af,none⟩ (yielded #[⟨some d,.call ⟨.builtin .recover,#[],#[]⟩,ty,pos,af,none⟩] a0.tmps)=true:=rfl
 have hr:(execOp a0.eval ⟨some d,.call ⟨.builtin .recover,#[],#[]⟩,ty,pos,af,none⟩).run P w = .ok .recover w:=by
   simp [execOp,resolve,invoke,builtin,go_sem]
 have h2:=h _ (F.put (v:=v) hd)
 have hend:c.wpS P (bodyPostS P fn c₀ cs (fun e m w=>m=u'∧R e w)) (a0.put (some d) v) ({ c₀ with mode:=u' } :: cs) w:=by
   refine wpS_of_wp (wp_mono h2 fun e a w hq=>?_)
   cases e with
   | normal=>obtain ⟨h1,v,h3,h4⟩:=hq;exact ⟨h1,_,rfl,v,h3,rfl,h4⟩
   | ret=>obtain ⟨h1,v,h3,h4⟩:=hq;exact ⟨h1,_,rfl,v,h3,rfl,h4⟩
   | panic ch=>obtain ⟨h1,h4⟩:=hq;exact ⟨h1,_,rfl,rfl,h4⟩
   | outgrown=>exact ⟨_,rfl,hq⟩
   | exit i=>exact hq
   | goto i=>exact hq
 rcases hu with ⟨rfl,rfl,rfl⟩ | ⟨rfl,rfl⟩
 · have hc:({ c₀ with mode:=.returning }:Frame)=c₀:=by rw [← hm]
   rw [hc] at hend
   have hrec:recoverD (c₀ :: cs)=none:=by simp [recoverD,hm]
   show wpOpsS P _ _ [0] a0 _ w
   simp only [wpOpsS,List.getElem?_toArray,List.getElem?_cons_zero,hw,if_true,hr,hrec]
   exact hend
 · have hrec:recoverD (c₀ :: cs)=some (v,{ c₀ with mode:=.panicking [{ v:=v,recovered:=true }] } :: cs):=by simp [recoverD,hm]
   show wpOpsS P _ _ [0] a0 _ w
   simp only [wpOpsS,List.getElem?_toArray,List.getElem?_cons_zero,hw,if_true,hr,hrec]
   exact hend
theorem rTa {t st:TypeId} {x:Operand} {fs:Array Field} {v:Value} (hs:P.underlying t=some (.struct fs)) (F:Has N a env) (hx:ev env x=some (.iface t v)):(execOp a.eval ⟨some d,.typeAssert x st t true,ty,pos,af,g⟩).run P w = .ok (.value (.tuple #[v,.bool true])) w:=by
 simp only [execOp,F.eval hx]
 simp [Instr.typeAssert,run_underlying hs,go_sem]
theorem sTa {t st:TypeId} {x:Operand} {fs:Array Field} {v:Value} (hs:P.underlying t=some (.struct fs)) (F:Has N a env) (hg:wants l env g=true) (hN:Nat.blt d N=true) (hx:ev env x=some (.iface t v))
   (K:∀ a,Has N a ((d,.tuple #[v,.bool true]) :: env)→wpList P l.toArray Q rest a w):wpList P l.toArray Q (⟨some d,.typeAssert x st t true,ty,pos,af,g⟩ :: rest) a w:=
 stepV F hg rfl hN (rTa hs F hx) K
theorem bNoIf {t u:TypeId} {x y:Operand} {v:Value} (h:P.underlying t=some (.interface (P.methodsAt t))):BinR P .eql t x y (.iface u v) .nilIface (.bool false):=fun w=>by
 have h0:(eqGuard .eql t x y (.iface u v) .nilIface).run P w = .ok () w:=by simp [eqGuard,go_sem]
 simp only [Sem.run_bind,h0,Result.andThen_ok]
 exact run_eql_held_nil w t u v h
theorem bNilIf {t:TypeId} {x:Operand} {c:Value} (h:P.underlying t=some (.interface (P.methodsAt t))):BinR P .eql t x (.const c) .nilIface .nilIface (.bool true):=fun w=>by
 have h0:(eqGuard .eql t x (.const c) .nilIface .nilIface).run P w = .ok () w:=by simp [eqGuard,go_sem]
 simp only [Sem.run_bind,h0,Result.andThen_ok]
 exact run_eql_nil_nil w t h
def onlyN (K:Act→World→Prop):Exit→Act→World→Prop
 | .normal,a,w=>K a w
 | _,_,_=>False
theorem regN {c:Code} {K:Act→World→Prop} (h:c.wp P (onlyN K) a w):c.wp P (Exit.then K Q) a w:=wp_mono h fun e a w h=>by
 cases e with
 | normal=>exact h
 | _=>exact h.elim
theorem postD {fn:Func} {R:Ending→World→Prop} {e:Exit} (h:bodyPost P fn R e a w):bodyPostD P fn R e a w:=by
 cases e with
 | normal=>obtain ⟨h1,v,h3,h4⟩:=h;show Leaves P fn a.tmps R a.defers .returning w;rw [h1];exact ⟨v,h3,h4⟩
 | ret=>obtain ⟨h1,v,h3,h4⟩:=h;show Leaves P fn a.tmps R a.defers .returning w;rw [h1];exact ⟨v,h3,h4⟩
 | panic ch=>obtain ⟨h1,h4⟩:=h;show Leaves P fn a.tmps R a.defers (.panicking ch) w;rw [h1];exact h4
 | outgrown=>exact h
 | exit i=>exact h
 | goto i=>exact h
end Go.Proofs.YtkchaoajegkadaaGreatDoor
