/-
  WALK2. Package parse: several. Conditions: the parser, its tokens and names lie in memory.
-/
import Derived.Test.YtkchaoajegkadaaGreatDoorJn8
import Derived.Test.YtkchaoajegkadaaGreatDoorJn3
set_option linter.unusedSimpArgs false
set_option linter.unusedVariables false
namespace Go.Proofs.YtkchaoajegkadaaGreatDoor
-- PrL
open Go.RowKit
set_option maxRecDepth 100000
theorem own_oneRws {w0 w:World} {row:Option Nat} {rs:List Res} {b sz:Nat} {cs:List Value} {e:TypeId} (H:Own w0 row w (.blk b cs e :: rs)) (hl:cs.length=sz):Own w0 row w (.rws e sz (.slice (some ⟨b,0,none⟩) 1 1) [cs] :: rs):=
 H.seen _ (show w.ownsRow 0 e sz (.slice (some ⟨b,0,none⟩) 1 1) 1 ([cs]:List (List Value)).flatten from ⟨by simp [hl],.inr ⟨b,1,cs.toArray,rfl,Nat.zero_le _,H.blk 0 rfl,Nat.le_refl _,by unfold maxLen;omega,by simp [hl],by simp [hl];exact List.take_of_length_le (Nat.le_of_eq hl)⟩⟩) (fun c hc=>by
   have h2:(Value.slice (some ⟨b,0,none⟩) 1 1).ownBlock=some c:=hc
   cases h2;rfl)
theorem own_plant2 {w0 w:World} {row:Option Nat} {S T:Nat→Prop} {h:Nat} {cs:List Value} {c:Cnd} {rows:List (List Value)} {kids:List Cnd} {rs:List Res} (H:Own w0 row w (.tree T h cs c :: .forest S h rows kids :: rs)) (hl:rows.length=kids.length) :
   Own w0 row w (.forest (fun b=>T b∨S b) h (rows++[cs]) (kids++[c]) :: rs):=by
 have hT:TreeIn T w h cs c:=H.pred 0 _ rfl
 have hS:∀ (j:Nat) (r:List Value) (kid:Cnd),rows[j]? = some r→kids[j]? = some kid→TreeIn S w h r kid:=H.pred 1 _ rfl
 refine H.fuse (.forest (fun b=>T b∨S b) h (rows++[cs]) (kids++[c])) (show ∀ (j:Nat) (r:List Value) (kid:Cnd),(rows++[cs])[j]? = some r→(kids++[c])[j]? = some kid→TreeIn (fun b=>T b∨S b) w h r kid from fun j r kid h1 h2=>?_) (fun b hb=>hb)
 rcases Nat.lt_or_ge j rows.length with hj | hj
 · rw [List.getElem?_append_left hj] at h1
   rw [List.getElem?_append_left (by omega)] at h2
   exact (hS j r kid h1 h2).loc (fun _ _=>rfl) (fun _ h=>.inr h)
 · rw [List.getElem?_append_right hj] at h1
   rw [List.getElem?_append_right (by omega)] at h2
   obtain e:j - rows.length=0:=by
     rcases Nat.eq_zero_or_pos (j - rows.length) with e | e
     · exact e
     · rw [List.getElem?_eq_none (by simp;omega)] at h1;cases h1
   rw [e] at h1;rw [show j - kids.length=0 by omega] at h2
   cases h1;cases h2
   exact hT.loc (fun _ _=>rfl) (fun _ h=>.inl h)
def PartAt (c:PX) (f:Value) (part:PS→Rs Cnd) (h n:Nat):Prop:=
 ∀ {W w0:World} {rs:List Res} {A:Option Addr} {C bp:Nat} {S:Nat→Prop} (s:PS) {B:Option Addr} {D:Nat} {X:List Value},s.pos≤c.ts.length→s.names.length≤c.lim→c.ts.length < s.pos+n →
   Own W none w0 (.blk bp (parC c A C s B D X) 66 :: .held S A 3 (rowsT c.ts) :: .nms W c.fixed B D s.names :: rs) →
   CallsF Tryz.prog f [.pointer (some ⟨bp,0,none⟩)] w0 (fun e w'=>Ans W rs (part s) (fun v t e w'=>∃ cs T,e = .returned (.agg cs.toArray)∧∃ B D,Own W none w' (.tree T h cs v :: .blk bp (parC c A C t B D X) 66 :: .held S A 3 (rowsT c.ts) :: .nms W c.fixed B D t.names :: rs)) e w')
theorem sev_first {c:PX} {kind:UInt8} {str:List UInt8} {part:PS→Rs Cnd} {s t:PS} {v:Cnd} (h:part s = .ok v t):sevP c kind str part s=if c.is t.pos str=true then (sevL c part str c.ts.length [v] t).bind fun ks u=>.ok (.mk kind 0 0 0 ks) u else .ok v t:=by unfold sevP;rw [h];rfl
theorem sevL_more {c:PX} {str:List UInt8} {part:PS→Rs Cnd} {f:Nat} {ks:List Cnd} {s:PS} (h:c.is s.pos str=true):sevL c part str (f+1) ks s=(part s.next).bind fun k t=>sevL c part str f (ks++[k]) t:=by show (if c.is s.pos str=true then _ else _)=_;rw [if_pos h]
theorem sevL_done {c:PX} {str:List UInt8} {part:PS→Rs Cnd} {f:Nat} {ks:List Cnd} {s:PS} (h:c.is s.pos str=false):sevL c part str (f+1) ks s = .ok ks s:=by show (if c.is s.pos str=true then _ else _)=_;rw [h];rfl
def PartGo (c:PX) (part:PS→Rs Cnd):Prop:=∀ s,s.names.length≤c.lim→(part s).All fun _ t=>s.pos < t.pos∧t.pos≤c.ts.length∧t.names.length≤c.lim
set_option maxHeartbeats 16000000 in
theorem pseveral_any {c:PX} (hc:c.Ok) {f:Value} {part:PS→Rs Cnd} {h n:Nat} (hpart:PartAt c f part h n) (hgo:PartGo c part) (kind:UInt8) (str:List UInt8) {W w0:World} {rs:List Res} {A:Option Addr} {C bp:Nat} {S:Nat→Prop} {s:PS} {B:Option Addr} {D:Nat} {X:List Value} (hp:s.pos≤c.ts.length) (hnl:s.names.length≤c.lim) (hn:c.ts.length < s.pos+n)
   (H:Own W none w0 (.blk bp (parC c A C s B D X) 66 :: .held S A 3 (rowsT c.ts) :: .nms W c.fixed B D s.names :: rs)) :
   Calls Tryz.prog 121 #[.pointer (some ⟨bp,0,none⟩),b8 kind,.string ⟨str.toArray⟩,f] w0 fun e w'=>Ans W rs (sevP c kind str part s) (fun v t e w'=>∃ cs T,e = .returned (.agg cs.toArray)∧∃ B D,Own W none w' (.tree T (h+1) cs v :: .blk bp (parC c A C t B D X) 66 :: .held S A 3 (rowsT c.ts) :: .nms W c.fixed B D t.names :: rs)) e w':=by
 have hfew:=hc.few
 refine enterF Tryz.func121 rfl Tryz.ntmps121 rfl (fun a F=>?_);refine cSR fun K1 hK1=>?_;refine sAl H Tryz.zeroValue27 F rfl rfl ?_;clear F a H;intro b8 a w F H;refine nK hK1 (cSR fun K2 hK2=>sMv F rfl rfl rfl (qMv rfl rfl rfl ?_));clear hK1;clear F a;intro a F;refine sCallVP F rfl rfl rfl rfl (hpart s hp hnl hn (H.selT 4 [1,2,3,0] rfl rfl)) ?_;rintro e w hq9
 rcases hq9.cases with ⟨p9,e9,hn13,rfl,H⟩ | ⟨v13,t13,hr13,cs13,T13,rfl,B13,D13,H⟩
 ·
  refine .inl ⟨_,rfl,?_⟩
  exact And.intro F.nod (Ans.no (by unfold sevP;rw [hn13];rfl) H.tail)
 obtain ⟨g1,g2,g3⟩:=hgo s hnl v13 t13 hr13
 obtain ⟨k0,t0,n0,v0,A0,m0,C0,rfl⟩:=condShape (H.pred 0 _ rfl:TreeIn T13 _ h cs13 v13).at
 refine .inr ⟨_,rfl,?_⟩
 clear F a;intro a F;refine sAl H Tryz.zeroValue27 F rfl rfl ?_;clear F a H;intro b9 a w F H
 refine sSr H 0 ?si F rfl rfl rfl ?s1 rfl rfl ?_
 case si=>exact info_size Tryz.sizeOf27
 case s1=>first | rfl | (repeat (first | exact one_nil | (apply one_cons;· first | rfl | assumption | exact one_bif rfl rfl)))
 clear H;intro w H;refine nK hK2 ?_;clear hK2;refine cSeq (fun K3 hK3=>?_);refine cSR fun K4 hK4=>sMv F rfl rfl rfl (qNc rfl rfl rfl (qFa (f:=0) (k:=0) Tryz.underlying66 rfl Tryz.sizeOf64 rfl rfl rfl rfl rfl (qMv rfl rfl rfl ?_)));clear F a;intro a F;refine sCall Tryz.call145 F rfl rfl rfl (pis_any str hc (by omega) (H.selT 6 [2,3,4,0,1,5] rfl rfl)) ?_;rintro e w ⟨rfl,H⟩;refine ⟨_,rfl,?_⟩;clear F a;intro a F;refine sNot F rfl rfl rfl (qNK hK4 ?_);clear hK4;clear F a;intro a F
 refine cIf F rfl (fun h19=>?_) (fun h19=>?_)
 ·
  replace h19:=notT h19
  have hk:c.is t13.pos str=false:=by simpa using h19
  refine cSR fun K5 hK5=>?_
  refine sLr Tryz.underlying27 rfl ?si F rfl rfl rfl (H.whole 3 rfl) ?_
  case si=>exact info_size Tryz.sizeOf27
  clear F a;intro a F
  refine sSr H 5 ?si F rfl rfl rfl ?s1 rfl rfl ?_
  case si=>exact info_size Tryz.sizeOf27
  case s1=>first | rfl | (repeat (first | exact one_nil | (apply one_cons;· first | rfl | assumption | exact one_bif rfl rfl)))
  clear H;intro w H;refine nK hK5 ?_;clear hK5;refine wp_ret ?_;simp only [Exit.then];refine bRetC Tryz.results121 F rfl Tryz.underlying27 rfl H 5 rfl Tryz.sizeOf27 rfl ?_
  first
  | exact Ans.ok (by rw [sev_first hr13,hk];rfl) ⟨_,_,rfl,_,_,(H.selT 6 [4,0,1,2] rfl rfl).deeper 1⟩
  | exact Ans.ok (by rw [sev_first hr13,if_pos hk,← heq];rfl) ⟨_,_,rfl,_,_,(H.selT 6 [0,0,0,1,2] rfl rfl).grown1 kind 0 0 0 hrl hr5 (by omega)⟩
 replace h19:=notF h19
 have hk:c.is t13.pos str=true:=by simpa using h19
 refine wp_skip (hK3 _ _ (cSR fun K6 hK6=>?_));clear hK3
 refine sLr Tryz.underlying27 rfl ?si F rfl rfl rfl (H.whole 3 rfl) ?_
 case si=>exact info_size Tryz.sizeOf27
 clear F a;intro a F;refine sBsA H Tryz.underlying25 Tryz.sizeOf27 Tryz.zeroValue27 rfl F rfl rfl rfl rfl rfl ?_;clear F a H;intro b22 a w F H;refine sAs F rfl rfl rfl (qNK hK6 ?_);clear hK6;clear F a;intro a F;refine cSeq (fun K7 hK7=>?_);refine wp_block ?_
 have H0:=H.selT 7 [0,5,1,2,3,6] rfl rfl
 have H1:=((own_oneRws H0 rfl).void (.forest (fun _=>False) h [] [v13]) (fun j r kid h1=>by simp at h1) (fun _ hb=>hb))
 have H2:=(H1.selT 7 [2,0,1,3,4,5,6] rfl rfl).plant (by rfl)
 refine cLoopR [0,1,2,3,8] (fun m ups w=>∃ (g:Nat) (ks:List Cnd) (u:PS) (A10:Option Addr) (c10:Nat) (rows:List (List Value)) (S10:Nat→Prop) (Bu:Option Addr) (Du:Nat),m=g∧ups=[(10,.slice A10 rows.length c10)]∧rows.length=ks.length∧(∀ r ∈ rows,r.length=5)∧sevL c part str g ks u=sevL c part str c.ts.length [v13] t13∧c.ts.length < u.pos+g∧s.pos < u.pos∧u.pos≤c.ts.length∧u.names.length≤c.lim∧ks.length≤u.pos∧Own W none w (.forest S10 h rows ks :: .rws 27 5 (.slice A10 rows.length c10) rows :: .blk bp (parC c A C u Bu Du X) 66 :: .held S A 3 (rowsT c.ts) :: .nms W c.fixed Bu Du u.names :: .blk b8 [Go.Proofs.YtkchaoajegkadaaGreatDoor.b8 0,Go.Proofs.YtkchaoajegkadaaGreatDoor.b8 0,Go.Proofs.YtkchaoajegkadaaGreatDoor.b8 0,Go.Proofs.YtkchaoajegkadaaGreatDoor.b8 0,.slice none 0 0] 27 :: rs)) F (c.ts.length) [(10,.slice (some ⟨b22,0,none⟩) 1 1)] (by repeat (first | exact SubR.nil | (apply SubR.cons;· rfl))) ?_ ?_ ?_
 · exact ⟨c.ts.length,[v13],t13,_,_,[_],_,_,_,rfl,rfl,rfl,(by intro r hr;rw [List.mem_singleton.1 hr];rfl),rfl,by omega,by omega,by omega,g3,by show 1≤t13.pos;omega,H2⟩
 · repeat (first | exact trivial | refine Le.cons rfl ?_)
 clear F
 clear H H0 H1 H2
 intro m ups a w hI F
 obtain ⟨g,ks,u,A10,c10,rows,S10,Bu,Du,rfl,rfl,hrl,hr5,heq,hg,hsu,hul,hu6,hks,H⟩:=hI
 refine cSeq (fun K8 hK8=>?_);refine cSR fun K9 hK9=>sMv F rfl rfl rfl (qNc rfl rfl rfl (qFa (f:=0) (k:=0) Tryz.underlying66 rfl Tryz.sizeOf64 rfl rfl rfl rfl rfl (qMv rfl rfl rfl ?_)));clear F a;intro a F;refine sCall Tryz.call145 F rfl rfl rfl (pis_any str hc (by omega) (H.selT 6 [2,3,4,0,1,5] rfl rfl)) ?_;rintro e w ⟨rfl,H⟩;refine ⟨_,rfl,?_⟩;clear F a;intro a F;refine nK hK9 ?_;clear hK9
 refine cIf F rfl (fun h27=>?_) (fun h27=>?_)
 ·
  have hul2:u.pos < c.ts.length:=is_lt h27
  obtain ⟨g,rfl⟩:∃ q,m=q+1:=⟨m - 1,by omega⟩
  rw [sevL_more h27] at heq;refine wp_skip (hK8 _ _ ?_);clear hK8;refine wp_block ?_;refine cSR fun K10 hK10=>sMv F rfl rfl rfl (qNc rfl rfl rfl (qFa (f:=0) (k:=0) Tryz.underlying66 rfl Tryz.sizeOf64 rfl rfl rfl rfl rfl ?_));clear F a;intro a F;refine sCall Tryz.call102 F rfl rfl rfl (pstep_any hc (by omega) H) ?_;rintro e w ⟨rfl,H⟩;refine ⟨_,rfl,?_⟩;clear F a;intro a F;refine nK hK10 (cReg (sMv F rfl rfl rfl (qMv rfl rfl rfl (qMv rfl rfl rfl ?_))));clear hK10;clear F a;intro a F;refine sCallVP F rfl rfl rfl rfl (hpart u.next hul2 hu6 (by show c.ts.length < u.pos+1+n;omega) H) ?_;rintro e w hq9
  rcases hq9.cases with ⟨p9,e9,hn35,rfl,H⟩ | ⟨v35,t35,hr35,cs35,T35,rfl,B35,D35,H⟩
  ·
   refine .inl ⟨_,rfl,?_⟩
   exact And.intro F.nod (Ans.no (by rw [sev_first hr13,if_pos hk,← heq,hn35];rfl) H.tail.tail.tail)
  obtain ⟨e1,e2,e3⟩:=hgo u.next hu6 v35 t35 hr35
  rw [hr35] at heq
  have e1:u.pos+1 < t35.pos:=e1
  obtain ⟨k0,t0,n0,v0,A0,m0,C0,rfl⟩:=condShape (H.pred 0 _ rfl:TreeIn T35 _ h cs35 v35).at
  refine .inr ⟨_,rfl,?_⟩
  clear F a;intro a F;refine sBsA H Tryz.underlying25 Tryz.sizeOf27 Tryz.zeroValue27 rfl F rfl rfl rfl rfl rfl ?_;clear F a H;intro b36 a w F H
  refine sApp1 (bytes:=32) H 6 Tryz.underlying25 Tryz.typeInfo27 rfl rfl rfl rfl rfl rfl F rfl rfl rfl rfl rfl (H.whole 0 rfl) rfl ?s1 ?s2 ?_
  case s1=>first | rfl | (repeat (first | exact one_nil | (apply one_cons;· first | rfl | assumption | exact one_bif rfl rfl)))
  case s2=>omega
  clear F a H;intro A37 c37 a w F H;refine sAs F rfl rfl rfl ?_;clear F a;intro a F;refine sNil ?_
  refine ⟨_,?_,_,⟨g,ks++[v35],t35,A37,c37,rows++[_],_,B35,D35,rfl,rfl,?_,?_,heq,?_,?_,e2,e3,?_,own_plant2 (H.selT 8 [1,5,6,2,3,4,7] rfl rfl) hrl⟩,F.to (by repeat (first | exact trivial | refine Le.cons rfl ?_))⟩
  · omega
  · rw [List.length_append,List.length_append,hrl];rfl
  · intro r hr
    rcases List.mem_append.1 hr with h1 | h1
    · exact hr5 r h1
    · rw [List.mem_singleton.1 h1];rfl
  · omega
  · omega
  · rw [List.length_append,List.length_singleton];omega
 obtain ⟨g,rfl⟩:∃ q,m=q+1:=⟨m - 1,by omega⟩
 rw [sevL_done h27] at heq;refine wp_exit ?_;refine hK7 _ _ (cSR fun K11 hK11=>sMv F rfl rfl rfl (qMv rfl rfl rfl (qBd (places:=[(0,1),(1,1),(2,1),(3,1),(4,1)]) Tryz.zeroValue27 Tryz.underlying27 (by kernel_rfl) rfl rfl rfl rfl ?_)));clear hK7;clear F a;intro a F
 refine sSr H 5 ?si F rfl rfl rfl ?s1 rfl rfl ?_
 case si=>exact info_size Tryz.sizeOf27
 case s1=>first | rfl | (repeat (first | exact one_nil | (apply one_cons;· first | rfl | assumption | exact one_bif rfl rfl)))
 clear H;intro w H;refine nK hK11 ?_;clear hK11;refine wp_ret ?_;refine bRetC Tryz.results121 F rfl Tryz.underlying27 rfl H 5 rfl Tryz.sizeOf27 rfl ?_
 first
 | exact Ans.ok (by rw [sev_first hr13,hk];rfl) ⟨_,_,rfl,_,_,(H.selT 6 [0,0,1,2] rfl rfl).deeper 1⟩
 | exact Ans.ok (by rw [sev_first hr13,if_pos hk,← heq];rfl) ⟨_,_,rfl,_,_,(H.selT 6 [3,4,0,1,2] rfl rfl).grown1 kind 0 0 0 hrl hr5 (by omega)⟩
-- PrM
open Go.RowKit
set_option maxRecDepth 100000
def factF:Value:=.func (.func 146) #[] #[]
def conjF:Value:=.func (.func 122) #[] #[]
theorem callsF_out {P:Program} {f:FuncId} {args:List Value} {w:World} {R:Ending→World→Prop} (h:CallsF P (.func (.func f) #[] #[]) args w R):Calls P f args.toArray w R:=by
 obtain ⟨f',fi,ca,he,_,h⟩:=h
 simp only [Value.func.injEq,Fn.func.injEq] at he
 obtain ⟨rfl,h1,h2⟩:=he
 obtain rfl:fi=[]:=by cases fi with | nil=>rfl | cons _ _=>simp at h1
 obtain rfl:ca=[]:=by cases ca with | nil=>rfl | cons _ _=>simp at h2
 simpa using h
theorem own_leaf {w0 w:World} {row:Option Nat} {rs:List Res} (m:Nat) (k t n v:UInt8) (H:Own w0 row w rs):Own w0 row w (.tree (fun _=>False) (m+1) [b8 k,b8 t,b8 n,b8 v,.slice none 0 0] (.mk k t n v []) :: rs):=
 H.void _ (show TreeIn (fun _=>False) w (m+1) [b8 k,b8 t,b8 n,b8 v,.slice none 0 0] (.mk k t n v []) from ⟨none,0,rfl,Nat.zero_le _,fun j kid h=>by simp at h⟩) (fun _ hb=>hb)
section
variable {c:PX}
theorem sevL_six {part:PS→Rs Cnd} {str:List UInt8} (hp:∀ s,s.names.length≤c.lim→(part s).All fun _ t=>t.names.length≤c.lim):∀ (f:Nat) (ks:List Cnd) (s:PS),s.names.length≤c.lim→(sevL c part str f ks s).All fun _ t=>t.names.length≤c.lim
 | 0,ks,s,_=>.no
 | f+1,ks,s,hn=>by
   unfold sevL
   exact .ite (fun _=>(hp s.next hn).bind fun k t _ hk=>sevL_six hp f _ t hk) (fun _=>.ok hn)
theorem sev_six {part:PS→Rs Cnd} {kind:UInt8} {str:List UInt8} (hp:∀ s,s.names.length≤c.lim→(part s).All fun _ t=>t.names.length≤c.lim) (s:PS) (hn:s.names.length≤c.lim):(sevP c kind str part s).All fun _ t=>t.names.length≤c.lim:=by
 unfold sevP
 exact (hp s hn).bind fun k t _ hk=>.ite (fun _=>(sevL_six hp _ _ _ hk).bind fun ks u _ hu=>.ok hu) (fun _=>.ok hk)
theorem fact_six:∀ (n:Nat) (s:PS),s.names.length≤c.lim→(factP c n s).All fun _ t=>t.names.length≤c.lim
 | 0,s,_=>.no
 | n+1,s,hn=>by
   unfold factP
   refine .ite (fun h=>(fact_six n s.next hn).bind fun k t _ hk=>.ok hk) (fun _=>?_);refine .ite (fun h=>(sev_six (sev_six (fact_six n)) s.next hn).bind fun k t _ hk=>signP_all.bind fun _ u _ hu=>.ok (by rw [hu.2];exact hk)) (fun _=>?_);refine .ite (fun h=>.ok hn) (fun _=>?_);refine .ite (fun h=>numQ_all.bind fun t s1 _ h1=>signP_all.bind fun _ s2 _ h2=>regQ_all.bind fun n s3 _ h3=>signP_all.bind fun _ s4 _ h4=>numQ_all.bind fun v s5 _ h5=>.ok (by rw [h5.2,h4.2,h3.2.1,h2.2,h1.2];exact hn)) (fun _=>?_)
   exact (loc_six hn).bind fun k s1 _ h1=>signP_all.bind fun _ s2 _ h2=>numQ_all.bind fun v s3 _ h3=>.ok (by rw [h3.2,h2.2];exact h1.1)
theorem fact_go (n:Nat):PartGo c (factP c n):=fun s hn v t h=>⟨(factP_all n s v t h).lt,(factP_all n s v t h).le,fact_six n s hn v t h⟩
theorem conj_go (n:Nat):PartGo c (conjP c n):=fun s hn v t h=>⟨(conjP_all n s v t h).lt,(conjP_all n s v t h).le,sev_six (fact_six n) s hn v t h⟩
theorem disj_go (n:Nat):PartGo c (disjP c n):=fun s hn v t h=>⟨(disjP_all n s v t h).lt,(disjP_all n s v t h).le,sev_six (sev_six (fact_six n)) s hn v t h⟩
end
theorem pconj_any {c:PX} (hc:c.Ok) {n:Nat} (hf:PartAt c factF (factP c n) (2 * n) n) {W w0:World} {rs:List Res} {A:Option Addr} {C bp:Nat} {S:Nat→Prop} {s:PS} {B:Option Addr} {D:Nat} {X:List Value} (hp:s.pos≤c.ts.length) (hnl:s.names.length≤c.lim) (hn:c.ts.length < s.pos+n)
   (H:Own W none w0 (.blk bp (parC c A C s B D X) 66 :: .held S A 3 (rowsT c.ts) :: .nms W c.fixed B D s.names :: rs)) :
   Calls Tryz.prog 122 #[.pointer (some ⟨bp,0,none⟩)] w0 fun e w'=>Ans W rs (conjP c n s) (fun v t e w'=>∃ cs T,e = .returned (.agg cs.toArray)∧∃ B D,Own W none w' (.tree T (2 * n+1) cs v :: .blk bp (parC c A C t B D X) 66 :: .held S A 3 (rowsT c.ts) :: .nms W c.fixed B D t.names :: rs)) e w':=by
 refine enterF Tryz.func122 rfl Tryz.ntmps122 rfl (fun a F=>?_);refine cSR fun K1 hK1=>?_;refine sAl H Tryz.zeroValue27 F rfl rfl ?_;clear F a H;intro b2 a w F H;refine nK hK1 (cSR fun K2 hK2=>sMv F rfl rfl rfl ?_);clear hK1;clear F a;intro a F;refine sCallP Tryz.call121 F rfl rfl rfl (pseveral_any hc hf (fact_go n) 3 [38] hp hnl hn (H.selT 4 [1,2,3,0] rfl rfl)) ?_;rintro e w hq9
 rcases hq9.cases with ⟨p9,e9,hn4,rfl,H⟩ | ⟨v4,t4,hr4,cs4,T4,rfl,B4,D4,H⟩
 ·
  refine .inl ⟨_,rfl,?_⟩
  exact And.intro F.nod (Ans.no (hn4) H.tail)
 obtain ⟨k0,t0,n0,v0,A0,m0,C0,rfl⟩:=condShape (H.pred 0 _ rfl:TreeIn T4 _ _ cs4 v4).at
 refine .inr ⟨_,rfl,?_⟩
 clear F a;intro a F
 refine sSr H 4 ?si F rfl rfl rfl ?s1 rfl rfl ?_
 case si=>exact info_size Tryz.sizeOf27
 case s1=>first | rfl | (repeat (first | exact one_nil | (apply one_cons;· first | rfl | assumption | exact one_bif rfl rfl)))
 clear H;intro w H;refine nK hK2 ?_;clear hK2;refine wp_ret ?_;refine bRetC Tryz.results122 F rfl Tryz.underlying27 rfl H 4 rfl Tryz.sizeOf27 rfl ?_
 exact Ans.ok hr4 ⟨_,_,rfl,_,_,H.selT 5 [0,1,2,3] rfl rfl⟩
theorem conj_at {c:PX} (hc:c.Ok) {n:Nat} (hf:PartAt c factF (factP c n) (2 * n) n):PartAt c conjF (conjP c n) (2 * n+1) n:=fun {W w0 rs A C bp S} s {B D X} hp hnl hn H=>
 ⟨_,[],[],rfl,Tryz.call122,pconj_any hc hf hp hnl hn H⟩
theorem pdisj_any {c:PX} (hc:c.Ok) {n:Nat} (hf:PartAt c conjF (conjP c n) (2 * n+1) n) {W w0:World} {rs:List Res} {A:Option Addr} {C bp:Nat} {S:Nat→Prop} {s:PS} {B:Option Addr} {D:Nat} {X:List Value} (hp:s.pos≤c.ts.length) (hnl:s.names.length≤c.lim) (hn:c.ts.length < s.pos+n)
   (H:Own W none w0 (.blk bp (parC c A C s B D X) 66 :: .held S A 3 (rowsT c.ts) :: .nms W c.fixed B D s.names :: rs)) :
   Calls Tryz.prog 69 #[.pointer (some ⟨bp,0,none⟩)] w0 fun e w'=>Ans W rs (disjP c n s) (fun v t e w'=>∃ cs T,e = .returned (.agg cs.toArray)∧∃ B D,Own W none w' (.tree T (2 * n+2) cs v :: .blk bp (parC c A C t B D X) 66 :: .held S A 3 (rowsT c.ts) :: .nms W c.fixed B D t.names :: rs)) e w':=by
 refine enterF Tryz.func69 rfl Tryz.ntmps69 rfl (fun a F=>?_);refine cSR fun K1 hK1=>?_;refine sAl H Tryz.zeroValue27 F rfl rfl ?_;clear F a H;intro b2 a w F H;refine nK hK1 (cSR fun K2 hK2=>sMv F rfl rfl rfl ?_);clear hK1;clear F a;intro a F;refine sCallP Tryz.call121 F rfl rfl rfl (pseveral_any hc hf (conj_go n) 4 [124] hp hnl hn (H.selT 4 [1,2,3,0] rfl rfl)) ?_;rintro e w hq9
 rcases hq9.cases with ⟨p9,e9,hn4,rfl,H⟩ | ⟨v4,t4,hr4,cs4,T4,rfl,B4,D4,H⟩
 ·
  refine .inl ⟨_,rfl,?_⟩
  exact And.intro F.nod (Ans.no (hn4) H.tail)
 obtain ⟨k0,t0,n0,v0,A0,m0,C0,rfl⟩:=condShape (H.pred 0 _ rfl:TreeIn T4 _ _ cs4 v4).at
 refine .inr ⟨_,rfl,?_⟩
 clear F a;intro a F
 refine sSr H 4 ?si F rfl rfl rfl ?s1 rfl rfl ?_
 case si=>exact info_size Tryz.sizeOf27
 case s1=>first | rfl | (repeat (first | exact one_nil | (apply one_cons;· first | rfl | assumption | exact one_bif rfl rfl)))
 clear H;intro w H;refine nK hK2 ?_;clear hK2;refine wp_ret ?_;refine bRetC Tryz.results69 F rfl Tryz.underlying27 rfl H 4 rfl Tryz.sizeOf27 rfl ?_
 exact Ans.ok hr4 ⟨_,_,rfl,_,_,H.selT 5 [0,1,2,3] rfl rfl⟩
-- PrN
open Go.Proofs.Tryz
open Go.RowKit
set_option maxRecDepth 100000
theorem fact_neg {c:PX} {n:Nat} {s:PS} (h:c.is s.pos [33]=true):factP c (n+1) s=(factP c n s.next).bind fun k t=>.ok (.mk 5 0 0 0 [k]) t:=by show (if c.is s.pos [33]=true then _ else _)=_;rw [if_pos h]
theorem fact_par {c:PX} {n:Nat} {s:PS} (h0:c.is s.pos [33]=false) (h:c.is s.pos [40]=true):factP c (n+1) s=(disjP c n s.next).bind fun k t=>(signP c [41] t).bind fun _ u=>.ok k u:=by show (if c.is s.pos [33]=true then _ else if c.is s.pos [40]=true then _ else _)=_;rw [h0,if_neg Bool.false_ne_true,if_pos h];rfl
set_option maxHeartbeats 16000000 in
theorem pfact_step {c:PX} (hc:c.Ok) (hm:c.ts.length≤900000) {n:Nat} (ih:PartAt c factF (factP c n) (2 * n) n) {W w0:World} {rs:List Res} {A:Option Addr} {C bp:Nat} {S:Nat→Prop} {s:PS} {B:Option Addr} {D:Nat} {X:List Value} (hp:s.pos≤c.ts.length) (hnl:s.names.length≤c.lim) (hn:c.ts.length < s.pos+(n+1))
   (H:Own W none w0 (.blk bp (parC c A C s B D X) 66 :: .held S A 3 (rowsT c.ts) :: .nms W c.fixed B D s.names :: rs)) :
   Calls Tryz.prog 146 #[.pointer (some ⟨bp,0,none⟩)] w0 fun e w'=>Ans W rs (factP c (n+1) s) (fun v t e w'=>∃ cs T,e = .returned (.agg cs.toArray)∧∃ B D,Own W none w' (.tree T (2 * (n+1)) cs v :: .blk bp (parC c A C t B D X) 66 :: .held S A 3 (rowsT c.ts) :: .nms W c.fixed B D t.names :: rs)) e w':=by
 have id:PartAt c conjF (conjP c n) (2 * n+1) n:=conj_at hc ih
 refine enterF func146 rfl ntmps146 rfl (fun a F=>?_);refine cSR fun K1 hK1=>?_;refine sAl H zeroValue27 F rfl rfl ?_;clear F a H;intro b2 a w F H;refine nK hK1 ?_;clear hK1;refine cSeq (fun K2 hK2=>?_);refine wp_block ?_;refine cSR fun K3 hK3=>sMv F rfl rfl rfl (qNc rfl rfl rfl (qFa (f:=0) (k:=0) underlying66 rfl sizeOf64 rfl rfl rfl rfl rfl ?_));clear F a;intro a F;refine sCall call145 F rfl rfl rfl (pis_any [33] hc (by (try simp only [PS.next]);omega) (H.selT 4 [1,2,3,0] rfl rfl)) ?_;rintro e w ⟨rfl,H⟩;refine ⟨_,rfl,?_⟩;clear F a;intro a F;refine sAs F rfl rfl rfl (qNK hK3 ?_);clear hK3;clear F a;intro a F
 refine cIf F rfl (fun h6=>?_) (fun h6=>?_)
 ·
  have hl:=is_lt h6
  refine cSR fun K4 hK4=>sMv F rfl rfl rfl (qNc rfl rfl rfl (qFa (f:=0) (k:=0) underlying66 rfl sizeOf64 rfl rfl rfl rfl rfl ?_));clear F a;intro a F;refine sCall call102 F rfl rfl rfl (pstep_any hc (by (try simp only [PS.next]);omega) H) ?_;rintro e w ⟨rfl,H⟩;refine ⟨_,rfl,?_⟩;clear F a;intro a F;refine nK hK4 (cSR fun K5 hK5=>sMv F rfl rfl rfl ?_);clear hK4;clear F a;intro a F;refine sCallP call146 F rfl rfl rfl (callsF_out (ih s.next hl hnl (by show c.ts.length < s.pos+1+n;omega) H)) ?_;rintro e w hq9
  rcases hq9.cases with ⟨p9,e9,hn16,rfl,H⟩ | ⟨v16,t16,hr16,cs16,T16,rfl,B16,D16,H⟩
  ·
   refine .inl ⟨_,rfl,?_⟩
   exact And.intro F.nod (Ans.no (by rw [fact_neg h6,hn16];rfl) H.tail)
  obtain ⟨k0,t0,n0,v0,A0,m0,C0,rfl⟩:=condShape (H.pred 0 _ rfl:TreeIn T16 _ _ cs16 v16).at
  refine .inr ⟨_,rfl,?_⟩
  clear F a;intro a F;refine sBsA H underlying25 sizeOf27 zeroValue27 rfl F rfl rfl rfl rfl rfl ?_;clear F a H;intro b17 a w F H;refine sBd (places:=[(0,1),(1,1),(2,1),(3,1),(4,1)]) zeroValue27 underlying27 (by kernel_rfl) F rfl rfl rfl rfl ?_;clear F a;intro a F
  refine sSr H 5 ?si F rfl rfl rfl ?s1 rfl rfl ?_
  case si=>exact info_size sizeOf27
  case s1=>first | rfl | (repeat (first | exact one_nil | (apply one_cons;· first | rfl | assumption | exact one_bif rfl rfl)))
  clear H;intro w H;refine nK hK5 ?_;clear hK5;refine wp_ret ?_;simp only [Exit.inBlock,Exit.then];refine bRetC results146 F rfl underlying27 rfl H 5 rfl sizeOf27 rfl ?_
  first
  | (have H0:=H.selT 6 [0,1,2,3,4] rfl rfl
     have H1:=(own_oneRws (sz:=5) H0 rfl).void (.forest (fun _=>False) (2 * n) [] [v16]) (fun j r kid h1=>by simp at h1) (fun _ hb=>hb)
     have H2:=(H1.selT 6 [2,0,1,3,4,5] rfl rfl).plant rfl
     have H3:=(H2.grown1 5 0 0 0 rfl (by intro r hr;rw [List.mem_singleton.1 hr];rfl) (by simp)).deeper 1
     exact Ans.ok (v:=.mk 5 0 0 0 [v16]) (by rw [fact_neg h6,hr16];rfl) ⟨_,_,rfl,_,_,H3⟩)
  | exact Ans.ok (v:=v29) (by rw [fact_par h6 h19,hr29];show (signP c [41] t29).bind _=_;rw [hr33];rfl) ⟨_,_,rfl,_,_,H.selT 6 [4,0,1,2] rfl rfl⟩
  | exact Ans.ok (v:=.mk 0 0 0 0 []) (by unfold factP;simp only [h6,h19,h35,Rs.bind,if_true,Bool.false_eq_true,if_false,reduceCtorEq]) ⟨_,_,rfl,_,_,own_leaf (2 * n+1) 0 0 0 0 (H.selT 4 [0,1,2] rfl rfl)⟩
  | exact Ans.ok (v:=.mk 1 v51 v60 v69 []) (by unfold factP;simp only [h6,h19,h35,hk4,hr51,hr56,hr60,hr65,hr69,Rs.bind,if_true,Bool.false_eq_true,if_false,reduceCtorEq]) ⟨_,_,rfl,_,_,own_leaf (2 * n+1) 1 v51 v60 v69 (H.selT 5 [0,1,2] rfl rfl)⟩
  | exact Ans.ok (v:=.mk 2 0 v77 v86 []) (by unfold factP;simp only [h6,h19,h35,hk4,hr77,hr82,hr86,Rs.bind,if_true,Bool.false_eq_true,if_false,reduceCtorEq]) ⟨_,_,rfl,_,_,own_leaf (2 * n+1) 2 0 v77 v86 (H.selT 5 [0,1,2] rfl rfl)⟩
 refine cSR fun K6 hK6=>sMv F rfl rfl rfl (qNc rfl rfl rfl (qFa (f:=0) (k:=0) underlying66 rfl sizeOf64 rfl rfl rfl rfl rfl ?_));clear F a;intro a F;refine sCall call145 F rfl rfl rfl (pis_any [40] hc (by (try simp only [PS.next]);omega) H) ?_;rintro e w ⟨rfl,H⟩;refine ⟨_,rfl,?_⟩;clear F a;intro a F;refine sAs F rfl rfl rfl (qNK hK6 ?_);clear hK6;clear F a;intro a F
 refine cIf F rfl (fun h19=>?_) (fun h19=>?_)
 ·
  have hl:=is_lt h19
  refine cSR fun K7 hK7=>sMv F rfl rfl rfl (qNc rfl rfl rfl (qFa (f:=0) (k:=0) underlying66 rfl sizeOf64 rfl rfl rfl rfl rfl ?_));clear F a;intro a F;refine sCall call102 F rfl rfl rfl (pstep_any hc (by (try simp only [PS.next]);omega) H) ?_;rintro e w ⟨rfl,H⟩;refine ⟨_,rfl,?_⟩;clear F a;intro a F;refine nK hK7 (cSR fun K8 hK8=>sMv F rfl rfl rfl ?_);clear hK7;clear F a;intro a F;refine sCallP call69 F rfl rfl rfl (pdisj_any hc id (s:=s.next) hl hnl (by show c.ts.length < s.pos+1+n;omega) H) ?_;rintro e w hq9
  rcases hq9.cases with ⟨p9,e9,hn29,rfl,H⟩ | ⟨v29,t29,hr29,cs29,T29,rfl,B29,D29,H⟩
  ·
   refine .inl ⟨_,rfl,?_⟩
   exact And.intro F.nod (Ans.no (by rw [fact_par h6 h19,hn29];rfl) H.tail)
  obtain ⟨k0,t0,n0,v0,A0,m0,C0,rfl⟩:=condShape (H.pred 0 _ rfl:TreeIn T29 _ _ cs29 v29).at;have hg29:=disj_go n s.next hnl v29 t29 hr29
  refine .inr ⟨_,rfl,?_⟩
  clear F a;intro a F;refine sAl H zeroValue27 F rfl rfl ?_;clear F a H;intro b3 a w F H
  refine sSr H 0 ?si F rfl rfl rfl ?s1 rfl rfl ?_
  case si=>exact info_size sizeOf27
  case s1=>first | rfl | (repeat (first | exact one_nil | (apply one_cons;· first | rfl | assumption | exact one_bif rfl rfl)))
  clear H;intro w H;refine nK hK8 (cSR fun K9 hK9=>sMv F rfl rfl rfl (qNc rfl rfl rfl (qFa (f:=0) (k:=0) underlying66 rfl sizeOf64 rfl rfl rfl rfl rfl ?_)));clear hK8;clear F a;intro a F;refine sCallP call134 F rfl rfl rfl (psign_any [41] hc (by omega) (H.selT 6 [2,3,4,0,1,5] rfl rfl)) ?_;rintro e w hq9
  rcases hq9.cases with ⟨p9,e9,hn33,rfl,H⟩ | ⟨v33,t33,hr33,rfl,H⟩
  ·
   refine .inl ⟨_,rfl,?_⟩
   exact And.intro F.nod (Ans.no (by rw [fact_par h6 h19,hr29];show (signP c [41] t29).bind _=_;rw [hn33];rfl) H.tail.tail.tail.tail)
  obtain rfl:=(signP_all v33 t33 hr33).2
  refine .inr ⟨_,rfl,?_⟩
  clear F a;intro a F;refine nK hK9 (cSR fun K10 hK10=>?_);clear hK9
  refine sLr underlying27 rfl ?si F rfl rfl rfl (H.whole 3 rfl) ?_
  case si=>exact info_size sizeOf27
  clear F a;intro a F
  refine sSr H 5 ?si F rfl rfl rfl ?s1 rfl rfl ?_
  case si=>exact info_size sizeOf27
  case s1=>first | rfl | (repeat (first | exact one_nil | (apply one_cons;· first | rfl | assumption | exact one_bif rfl rfl)))
  clear H;intro w H;refine nK hK10 ?_;clear hK10;refine wp_ret ?_;simp only [Exit.inBlock,Exit.then];refine bRetC results146 F rfl underlying27 rfl H 5 rfl sizeOf27 rfl ?_
  first
  | (have H0:=H.selT 6 [0,1,2,3,4] rfl rfl
     have H1:=(own_oneRws (sz:=5) H0 rfl).void (.forest (fun _=>False) (2 * n) [] [v16]) (fun j r kid h1=>by simp at h1) (fun _ hb=>hb)
     have H2:=(H1.selT 6 [2,0,1,3,4,5] rfl rfl).plant rfl
     have H3:=(H2.grown1 5 0 0 0 rfl (by intro r hr;rw [List.mem_singleton.1 hr];rfl) (by simp)).deeper 1
     exact Ans.ok (v:=.mk 5 0 0 0 [v16]) (by rw [fact_neg h6,hr16];rfl) ⟨_,_,rfl,_,_,H3⟩)
  | exact Ans.ok (v:=v29) (by rw [fact_par h6 h19,hr29];show (signP c [41] t29).bind _=_;rw [hr33];rfl) ⟨_,_,rfl,_,_,H.selT 6 [4,0,1,2] rfl rfl⟩
  | exact Ans.ok (v:=.mk 0 0 0 0 []) (by unfold factP;simp only [h6,h19,h35,Rs.bind,if_true,Bool.false_eq_true,if_false,reduceCtorEq]) ⟨_,_,rfl,_,_,own_leaf (2 * n+1) 0 0 0 0 (H.selT 4 [0,1,2] rfl rfl)⟩
  | exact Ans.ok (v:=.mk 1 v51 v60 v69 []) (by unfold factP;simp only [h6,h19,h35,hk4,hr51,hr56,hr60,hr65,hr69,Rs.bind,if_true,Bool.false_eq_true,if_false,reduceCtorEq]) ⟨_,_,rfl,_,_,own_leaf (2 * n+1) 1 v51 v60 v69 (H.selT 5 [0,1,2] rfl rfl)⟩
  | exact Ans.ok (v:=.mk 2 0 v77 v86 []) (by unfold factP;simp only [h6,h19,h35,hk4,hr77,hr82,hr86,Rs.bind,if_true,Bool.false_eq_true,if_false,reduceCtorEq]) ⟨_,_,rfl,_,_,own_leaf (2 * n+1) 2 0 v77 v86 (H.selT 5 [0,1,2] rfl rfl)⟩
 refine cSR fun K11 hK11=>sMv F rfl rfl rfl (qNc rfl rfl rfl (qFa (f:=0) (k:=0) underlying66 rfl sizeOf64 rfl rfl rfl rfl rfl ?_));clear F a;intro a F;refine sCall call139 F rfl rfl rfl (ptakes_any [116,114,117,101] hc (by (try simp only [PS.next]);omega) H) ?_;rintro e w ⟨rfl,H⟩;refine ⟨_,rfl,?_⟩;clear F a;intro a F;refine sAs F rfl rfl rfl (qNK hK11 ?_);clear hK11;clear F a;intro a F
 refine cIf F rfl (fun h35=>?_) (fun h35=>?_)
 ·
  rw [if_pos h35] at H;refine cSR fun K12 hK12=>sBd (places:=[(0,1),(1,1),(2,1),(3,1),(4,1)]) zeroValue27 underlying27 (by kernel_rfl) F rfl rfl rfl rfl ?_;clear F a;intro a F
  refine sSr H 3 ?si F rfl rfl rfl ?s1 rfl rfl ?_
  case si=>exact info_size sizeOf27
  case s1=>first | rfl | (repeat (first | exact one_nil | (apply one_cons;· first | rfl | assumption | exact one_bif rfl rfl)))
  clear H;intro w H;refine nK hK12 ?_;clear hK12;refine wp_ret ?_;simp only [Exit.inBlock,Exit.then];refine bRetC results146 F rfl underlying27 rfl H 3 rfl sizeOf27 rfl ?_
  first
  | (have H0:=H.selT 6 [0,1,2,3,4] rfl rfl
     have H1:=(own_oneRws (sz:=5) H0 rfl).void (.forest (fun _=>False) (2 * n) [] [v16]) (fun j r kid h1=>by simp at h1) (fun _ hb=>hb)
     have H2:=(H1.selT 6 [2,0,1,3,4,5] rfl rfl).plant rfl
     have H3:=(H2.grown1 5 0 0 0 rfl (by intro r hr;rw [List.mem_singleton.1 hr];rfl) (by simp)).deeper 1
     exact Ans.ok (v:=.mk 5 0 0 0 [v16]) (by rw [fact_neg h6,hr16];rfl) ⟨_,_,rfl,_,_,H3⟩)
  | exact Ans.ok (v:=v29) (by rw [fact_par h6 h19,hr29];show (signP c [41] t29).bind _=_;rw [hr33];rfl) ⟨_,_,rfl,_,_,H.selT 6 [4,0,1,2] rfl rfl⟩
  | exact Ans.ok (v:=.mk 0 0 0 0 []) (by unfold factP;simp only [h6,h19,h35,Rs.bind,if_true,Bool.false_eq_true,if_false,reduceCtorEq]) ⟨_,_,rfl,_,_,own_leaf (2 * n+1) 0 0 0 0 (H.selT 4 [0,1,2] rfl rfl)⟩
  | exact Ans.ok (v:=.mk 1 v51 v60 v69 []) (by unfold factP;simp only [h6,h19,h35,hk4,hr51,hr56,hr60,hr65,hr69,Rs.bind,if_true,Bool.false_eq_true,if_false,reduceCtorEq]) ⟨_,_,rfl,_,_,own_leaf (2 * n+1) 1 v51 v60 v69 (H.selT 5 [0,1,2] rfl rfl)⟩
  | exact Ans.ok (v:=.mk 2 0 v77 v86 []) (by unfold factP;simp only [h6,h19,h35,hk4,hr77,hr82,hr86,Rs.bind,if_true,Bool.false_eq_true,if_false,reduceCtorEq]) ⟨_,_,rfl,_,_,own_leaf (2 * n+1) 2 0 v77 v86 (H.selT 5 [0,1,2] rfl rfl)⟩
 rw [if_neg (by rw [h35];exact Bool.false_ne_true)] at H
 refine cSR fun K13 hK13=>sMv F rfl rfl rfl (qNc rfl rfl rfl (qFa (f:=0) (k:=0) underlying66 rfl sizeOf64 rfl rfl rfl rfl rfl ?_));clear F a;intro a F;refine sCall call100 F rfl rfl rfl (ptoken_any hc (by (try simp only [PS.next]);omega) H) ?_;rintro e w ⟨rfl,H⟩;refine ⟨_,rfl,?_⟩;clear F a;intro a F;refine sFd (f:=0) underlying140 rfl isAgg138 F rfl rfl rfl rfl (qBin rfl rfl rfl rfl bEql (qAs rfl rfl rfl (qNK hK13 ?_)));clear hK13;clear F a;intro a F
 refine cIf F rfl (fun h41=>?_) (fun h41=>?_)
 ·
  replace h41:=beqT h41
  have hk4:c.kind s.pos=2:=by omega
  refine cSR fun K14 hK14=>sMv F rfl rfl rfl (qNc rfl rfl rfl (qFa (f:=0) (k:=0) underlying66 rfl sizeOf64 rfl rfl rfl rfl rfl ?_));clear F a;intro a F;refine sCallP call135 F rfl rfl rfl (pnum_any hc (by (try simp only [PS.next]);omega) H) ?_;rintro e w hq9
  rcases hq9.cases with ⟨p9,e9,hn51,rfl,H⟩ | ⟨v51,t51,hr51,rfl,H⟩
  ·
   refine .inl ⟨_,rfl,?_⟩
   exact And.intro F.nod (Ans.no (by unfold factP;simp only [h6,h19,h35,hk4,hn51,Rs.bind,if_true,Bool.false_eq_true,if_false,reduceCtorEq]) H.tail.tail)
  obtain rfl:=(numQ_all v51 t51 hr51).2
  refine .inr ⟨_,rfl,?_⟩
  clear F a;intro a F;refine sBd (places:=[(0,1),(1,1),(2,1),(3,1),(4,1)]) zeroValue27 underlying27 (by kernel_rfl) F rfl rfl rfl rfl ?_;clear F a;intro a F;refine sAl H zeroValue27 F rfl rfl ?_;clear F a H;intro b4 a w F H
  refine sSr H 0 ?si F rfl rfl rfl ?s1 rfl rfl ?_
  case si=>exact info_size sizeOf27
  case s1=>first | rfl | (repeat (first | exact one_nil | (apply one_cons;· first | rfl | assumption | exact one_bif rfl rfl)))
  clear H;intro w H;refine nK hK14 (cSR fun K15 hK15=>sMv F rfl rfl rfl (qNc rfl rfl rfl (qFa (f:=0) (k:=0) underlying66 rfl sizeOf64 rfl rfl rfl rfl rfl ?_)));clear hK14;clear F a;intro a F;refine sCallP call134 F rfl rfl rfl (psign_any [58] hc (by (try simp only [PS.next]);omega) (H.selT 5 [1,2,3,0,4] rfl rfl)) ?_;rintro e w hq9
  rcases hq9.cases with ⟨p9,e9,hn56,rfl,H⟩ | ⟨v56,t56,hr56,rfl,H⟩
  ·
   refine .inl ⟨_,rfl,?_⟩
   exact And.intro F.nod (Ans.no (by unfold factP;simp only [h6,h19,h35,hk4,hr51,hn56,Rs.bind,if_true,Bool.false_eq_true,if_false,reduceCtorEq]) H.tail.tail.tail)
  obtain rfl:=(signP_all v56 t56 hr56).2
  refine .inr ⟨_,rfl,?_⟩
  clear F a;intro a F;refine nK hK15 (cSR fun K16 hK16=>sMv F rfl rfl rfl (qNc rfl rfl rfl (qFa (f:=0) (k:=0) underlying66 rfl sizeOf64 rfl rfl rfl rfl rfl ?_)));clear hK15;clear F a;intro a F;refine sCallP call138 F rfl rfl rfl (preg_any hc (by (try simp only [PS.next]);omega) H) ?_;rintro e w hq9
  rcases hq9.cases with ⟨p9,e9,hn60,rfl,H⟩ | ⟨v60,t60,hr60,rfl,H⟩
  ·
   refine .inl ⟨_,rfl,?_⟩
   exact And.intro F.nod (Ans.no (by unfold factP;simp only [h6,h19,h35,hk4,hr51,hr56,hn60,Rs.bind,if_true,Bool.false_eq_true,if_false,reduceCtorEq]) H.tail.tail.tail)
  obtain rfl:=(regQ_all v60 t60 hr60).2.1
  refine .inr ⟨_,rfl,?_⟩
  clear F a;intro a F;refine sFa (f:=2) (k:=2) underlying27 rfl sizeOf5 rfl rfl F rfl rfl rfl ?_;clear F a;intro a F;refine sSt H 3 sizeOf5 F rfl rfl rfl rfl rfl rfl ?_;clear H;intro w H;refine nK hK16 (cSR fun K17 hK17=>sMv F rfl rfl rfl (qNc rfl rfl rfl (qFa (f:=0) (k:=0) underlying66 rfl sizeOf64 rfl rfl rfl rfl rfl ?_)));clear hK16;clear F a;intro a F;refine sCallP call134 F rfl rfl rfl (psign_any [61] hc (by (try simp only [PS.next]);omega) H) ?_;rintro e w hq9
  rcases hq9.cases with ⟨p9,e9,hn65,rfl,H⟩ | ⟨v65,t65,hr65,rfl,H⟩
  ·
   refine .inl ⟨_,rfl,?_⟩
   exact And.intro F.nod (Ans.no (by unfold factP;simp only [h6,h19,h35,hk4,hr51,hr56,hr60,hn65,Rs.bind,if_true,Bool.false_eq_true,if_false,reduceCtorEq]) H.tail.tail.tail)
  obtain rfl:=(signP_all v65 t65 hr65).2
  refine .inr ⟨_,rfl,?_⟩
  clear F a;intro a F;refine nK hK17 (cSR fun K18 hK18=>sMv F rfl rfl rfl (qNc rfl rfl rfl (qFa (f:=0) (k:=0) underlying66 rfl sizeOf64 rfl rfl rfl rfl rfl ?_)));clear hK17;clear F a;intro a F;refine sCallP call135 F rfl rfl rfl (pnum_any hc (by (try simp only [PS.next]);omega) H) ?_;rintro e w hq9
  rcases hq9.cases with ⟨p9,e9,hn69,rfl,H⟩ | ⟨v69,t69,hr69,rfl,H⟩
  ·
   refine .inl ⟨_,rfl,?_⟩
   exact And.intro F.nod (Ans.no (by unfold factP;simp only [h6,h19,h35,hk4,hr51,hr56,hr60,hr65,hn69,Rs.bind,if_true,Bool.false_eq_true,if_false,reduceCtorEq]) H.tail.tail.tail)
  obtain rfl:=(numQ_all v69 t69 hr69).2
  refine .inr ⟨_,rfl,?_⟩
  clear F a;intro a F;refine sFa (f:=3) (k:=3) underlying27 rfl sizeOf5 rfl rfl F rfl rfl rfl ?_;clear F a;intro a F;refine sSt H 3 sizeOf5 F rfl rfl rfl rfl rfl rfl ?_;clear H;intro w H;refine nK hK18 (cSR fun K19 hK19=>?_);clear hK18
  refine sLr underlying27 rfl ?si F rfl rfl rfl (H.whole 3 rfl) ?_
  case si=>exact info_size sizeOf27
  clear F a;intro a F
  refine sSr H 4 ?si F rfl rfl rfl ?s1 rfl rfl ?_
  case si=>exact info_size sizeOf27
  case s1=>first | rfl | (repeat (first | exact one_nil | (apply one_cons;· first | rfl | assumption | exact one_bif rfl rfl)))
  clear H;intro w H;refine nK hK19 ?_;clear hK19;refine wp_ret ?_;simp only [Exit.inBlock,Exit.then];refine bRetC results146 F rfl underlying27 rfl H 4 rfl sizeOf27 rfl ?_
  first
  | (have H0:=H.selT 6 [0,1,2,3,4] rfl rfl
     have H1:=(own_oneRws (sz:=5) H0 rfl).void (.forest (fun _=>False) (2 * n) [] [v16]) (fun j r kid h1=>by simp at h1) (fun _ hb=>hb)
     have H2:=(H1.selT 6 [2,0,1,3,4,5] rfl rfl).plant rfl
     have H3:=(H2.grown1 5 0 0 0 rfl (by intro r hr;rw [List.mem_singleton.1 hr];rfl) (by simp)).deeper 1
     exact Ans.ok (v:=.mk 5 0 0 0 [v16]) (by rw [fact_neg h6,hr16];rfl) ⟨_,_,rfl,_,_,H3⟩)
  | exact Ans.ok (v:=v29) (by rw [fact_par h6 h19,hr29];show (signP c [41] t29).bind _=_;rw [hr33];rfl) ⟨_,_,rfl,_,_,H.selT 6 [4,0,1,2] rfl rfl⟩
  | exact Ans.ok (v:=.mk 0 0 0 0 []) (by unfold factP;simp only [h6,h19,h35,Rs.bind,if_true,Bool.false_eq_true,if_false,reduceCtorEq]) ⟨_,_,rfl,_,_,own_leaf (2 * n+1) 0 0 0 0 (H.selT 4 [0,1,2] rfl rfl)⟩
  | exact Ans.ok (v:=.mk 1 v51 v60 v69 []) (by unfold factP;simp only [h6,h19,h35,hk4,hr51,hr56,hr60,hr65,hr69,Rs.bind,if_true,Bool.false_eq_true,if_false,reduceCtorEq]) ⟨_,_,rfl,_,_,own_leaf (2 * n+1) 1 v51 v60 v69 (H.selT 5 [0,1,2] rfl rfl)⟩
  | exact Ans.ok (v:=.mk 2 0 v77 v86 []) (by unfold factP;simp only [h6,h19,h35,hk4,hr77,hr82,hr86,Rs.bind,if_true,Bool.false_eq_true,if_false,reduceCtorEq]) ⟨_,_,rfl,_,_,own_leaf (2 * n+1) 2 0 v77 v86 (H.selT 5 [0,1,2] rfl rfl)⟩
 replace h41:=beqF h41
 have hk4:¬ c.kind s.pos=2:=by omega
 refine wp_skip (hK2 _ _ (cSR fun K20 hK20=>sMv F rfl rfl rfl (qMv rfl rfl rfl (qNc rfl rfl rfl (qFa (f:=1) (k:=3) underlying66 rfl sizeOf22 rfl rfl rfl rfl rfl (qLd isAgg22 rfl rfl rfl (H.cell 0 rfl rfl) ?_))))));clear hK2;clear F a;intro a F;refine sCallP call133 F rfl rfl rfl (ploc_any hc (by (try simp only [PS.next]);omega) hnl H) ?_;rintro e w hq9
 rcases hq9.cases with ⟨p9,e9,hn77,rfl,H⟩ | ⟨v77,t77,hr77,rfl,B77,D77,H⟩
 ·
  refine .inl ⟨_,rfl,?_⟩
  exact And.intro F.nod (Ans.no (by unfold factP;simp only [h6,h19,h35,hk4,hn77,Rs.bind,if_true,Bool.false_eq_true,if_false,reduceCtorEq]) H.tail)
 obtain ⟨hn6,hp77⟩:=loc_six hnl v77 t77 hr77
 refine .inr ⟨_,rfl,?_⟩
 clear F a;intro a F;refine sBd (places:=[(0,1),(1,1),(2,1),(3,1),(4,1)]) zeroValue27 underlying27 (by kernel_rfl) F rfl rfl rfl rfl ?_;clear F a;intro a F;refine sAl H zeroValue27 F rfl rfl ?_;clear F a H;intro b5 a w F H
 refine sSr H 0 ?si F rfl rfl rfl ?s1 rfl rfl ?_
 case si=>exact info_size sizeOf27
 case s1=>first | rfl | (repeat (first | exact one_nil | (apply one_cons;· first | rfl | assumption | exact one_bif rfl rfl)))
 clear H;intro w H;refine nK hK20 (cSR fun K21 hK21=>sMv F rfl rfl rfl (qNc rfl rfl rfl (qFa (f:=0) (k:=0) underlying66 rfl sizeOf64 rfl rfl rfl rfl rfl ?_)));clear hK20;clear F a;intro a F;refine sCallP call134 F rfl rfl rfl (psign_any [61] hc (by (try simp only [PS.next]);omega) (H.selT 5 [1,2,3,0,4] rfl rfl)) ?_;rintro e w hq9
 rcases hq9.cases with ⟨p9,e9,hn82,rfl,H⟩ | ⟨v82,t82,hr82,rfl,H⟩
 ·
  refine .inl ⟨_,rfl,?_⟩
  exact And.intro F.nod (Ans.no (by unfold factP;simp only [h6,h19,h35,hk4,hr77,hn82,Rs.bind,if_true,Bool.false_eq_true,if_false,reduceCtorEq]) H.tail.tail.tail)
 obtain rfl:=(signP_all v82 t82 hr82).2
 refine .inr ⟨_,rfl,?_⟩
 clear F a;intro a F;refine nK hK21 (cSR fun K22 hK22=>sMv F rfl rfl rfl (qNc rfl rfl rfl (qFa (f:=0) (k:=0) underlying66 rfl sizeOf64 rfl rfl rfl rfl rfl ?_)));clear hK21;clear F a;intro a F;refine sCallP call135 F rfl rfl rfl (pnum_any hc (by (try simp only [PS.next]);omega) H) ?_;rintro e w hq9
 rcases hq9.cases with ⟨p9,e9,hn86,rfl,H⟩ | ⟨v86,t86,hr86,rfl,H⟩
 ·
  refine .inl ⟨_,rfl,?_⟩
  exact And.intro F.nod (Ans.no (by unfold factP;simp only [h6,h19,h35,hk4,hr77,hr82,hn86,Rs.bind,if_true,Bool.false_eq_true,if_false,reduceCtorEq]) H.tail.tail.tail)
 obtain rfl:=(numQ_all v86 t86 hr86).2
 refine .inr ⟨_,rfl,?_⟩
 clear F a;intro a F;refine sFa (f:=3) (k:=3) underlying27 rfl sizeOf5 rfl rfl F rfl rfl rfl ?_;clear F a;intro a F;refine sSt H 3 sizeOf5 F rfl rfl rfl rfl rfl rfl ?_;clear H;intro w H;refine nK hK22 (cSR fun K23 hK23=>?_);clear hK22
 refine sLr underlying27 rfl ?si F rfl rfl rfl (H.whole 3 rfl) ?_
 case si=>exact info_size sizeOf27
 clear F a;intro a F
 refine sSr H 4 ?si F rfl rfl rfl ?s1 rfl rfl ?_
 case si=>exact info_size sizeOf27
 case s1=>first | rfl | (repeat (first | exact one_nil | (apply one_cons;· first | rfl | assumption | exact one_bif rfl rfl)))
 clear H;intro w H;refine nK hK23 ?_;clear hK23;refine wp_ret ?_;refine bRetC results146 F rfl underlying27 rfl H 4 rfl sizeOf27 rfl ?_
 first
 | (have H0:=H.selT 6 [0,1,2,3,4] rfl rfl
    have H1:=(own_oneRws (sz:=5) H0 rfl).void (.forest (fun _=>False) (2 * n) [] [v16]) (fun j r kid h1=>by simp at h1) (fun _ hb=>hb)
    have H2:=(H1.selT 6 [2,0,1,3,4,5] rfl rfl).plant rfl
    have H3:=(H2.grown1 5 0 0 0 rfl (by intro r hr;rw [List.mem_singleton.1 hr];rfl) (by simp)).deeper 1
    exact Ans.ok (v:=.mk 5 0 0 0 [v16]) (by rw [fact_neg h6,hr16];rfl) ⟨_,_,rfl,_,_,H3⟩)
 | exact Ans.ok (v:=v29) (by rw [fact_par h6 h19,hr29];show (signP c [41] t29).bind _=_;rw [hr33];rfl) ⟨_,_,rfl,_,_,H.selT 6 [4,0,1,2] rfl rfl⟩
 | exact Ans.ok (v:=.mk 0 0 0 0 []) (by unfold factP;simp only [h6,h19,h35,Rs.bind,if_true,Bool.false_eq_true,if_false,reduceCtorEq]) ⟨_,_,rfl,_,_,own_leaf (2 * n+1) 0 0 0 0 (H.selT 4 [0,1,2] rfl rfl)⟩
 | exact Ans.ok (v:=.mk 1 v51 v60 v69 []) (by unfold factP;simp only [h6,h19,h35,hk4,hr51,hr56,hr60,hr65,hr69,Rs.bind,if_true,Bool.false_eq_true,if_false,reduceCtorEq]) ⟨_,_,rfl,_,_,own_leaf (2 * n+1) 1 v51 v60 v69 (H.selT 5 [0,1,2] rfl rfl)⟩
 | exact Ans.ok (v:=.mk 2 0 v77 v86 []) (by unfold factP;simp only [h6,h19,h35,hk4,hr77,hr82,hr86,Rs.bind,if_true,Bool.false_eq_true,if_false,reduceCtorEq]) ⟨_,_,rfl,_,_,own_leaf (2 * n+1) 2 0 v77 v86 (H.selT 5 [0,1,2] rfl rfl)⟩
theorem fact_at {c:PX} (hc:c.Ok) (hm:c.ts.length≤900000) (n:Nat):PartAt c factF (factP c n) (2 * n) n:=by
 induction n with
 | zero=>intro W w0 rs A C bp S s B D X hp hnl hn H;exact absurd hn (by omega)
 | succ n ih=>intro W w0 rs A C bp S s B D X hp hnl hn H;exact ⟨_,[],[],rfl,call146,pfact_step hc hm ih hp hnl hn H⟩
theorem pcond_any {c:PX} (hc:c.Ok) (hm:c.ts.length≤900000) {n:Nat} {W w0:World} {rs:List Res} {A:Option Addr} {C bp:Nat} {S:Nat→Prop} {s:PS} {B:Option Addr} {D:Nat} {X:List Value} (hp:s.pos≤c.ts.length) (hnl:s.names.length≤c.lim) (hn:c.ts.length < s.pos+n)
   (H:Own W none w0 (.blk bp (parC c A C s B D X) 66 :: .held S A 3 (rowsT c.ts) :: .nms W c.fixed B D s.names :: rs)) :
   Calls Tryz.prog 69 #[.pointer (some ⟨bp,0,none⟩)] w0 fun e w'=>Ans W rs (disjP c n s) (fun v t e w'=>∃ cs T,e = .returned (.agg cs.toArray)∧∃ B D,Own W none w' (.tree T (2 * n+2) cs v :: .blk bp (parC c A C t B D X) 66 :: .held S A 3 (rowsT c.ts) :: .nms W c.fixed B D t.names :: rs)) e w':=
 pdisj_any hc (conj_at hc (fact_at hc hm n)) hp hnl hn H
end Go.Proofs.YtkchaoajegkadaaGreatDoor
